/- Lemmas; no condition. -/
import Derived.Test.YtbdpdeonapmlgaaGreatDoorAc
import Derived.Laws.CopyRow
set_option linter.all false
set_option maxHeartbeats 4000000
set_option maxRecDepth 100000
namespace Go.Proofs.YtbdpdeonapmlgaaGreatDoor
open Go.RowKit Go.Big
variable {A L qs ds a0 C La:List Nat} {B m p j k v x n d i g l s M q:Nat} {w w':Wo} {r:Value}
section
attribute [local go_sem] Heavy.uponW
def NatL (n:Nat) (w:Wo) (r:Value) (v:Nat):Prop:=∃a L c,r= .slice a L.length c∧cR n w a L∧NoZ L∧val 4294967296 L=v
def cR.up {a:Option Addr} (h:cR n w a L) (hm:n≤m):cR m w a L:=by
 refine⟨h.1,fun c2=>?_⟩;obtain⟨b,off,e,hbn,hc⟩:=h.2 c2;exact⟨b,off,e,by omega,hc⟩
def NatL.below (h:NatL n w r v) (hb:Below m w w') (hm:n≤m):NatL n w' r v:=by
 obtain⟨a,L,c,h1,h3,h4⟩:=h;exact⟨a,L,c,h1,h3.below hb hm,h4⟩
def NatL.up (h:NatL n w r v) (hm:n≤m):NatL m w r v:=by
 obtain⟨a,L,c,h1,h3,h4⟩:=h;exact⟨a,L,c,h1,h3.up hm,h4⟩
def Trimmed.noZ (h:Trimmed L k):NoZ (L.take k):=by
 intro x hx;rw [JH,aX,oE h.1] at hx;rcases h.2.2 with h0|⟨y,hy,b2⟩
 ·subst h0;simp at hx
 ·have hk:k-1<k:=by
   rcases vK k with h0|h0
   ·subst h0;simp at hx
   ·omega
  rw [iY hk,hy] at hx;cases hx;exact b2
def Ip (x y:Nat) (hx:x<4294967296) (hy:y<4294967296):bits .or .u64 (x:Int) ((y:Int)*4294967296)=((x+y*4294967296:Nat):Int):=by
 have e:y<<<32+x=y<<<32|||x:=VA (by omega) y;rw [IQ] at e;have h1:(BitVec.ofInt 64 (x:Int)).toNat=x:=by rw [vS,vR];omega
 have e1:((y:Int)*4294967296)=((y*4294967296:Nat):Int):=by simp
 have h2:(BitVec.ofInt 64 ((y*4294967296:Nat):Int)).toNat=y*4294967296:=by rw [vS,vR];omega
 show IntKind.u64.wrap (((BitVec.ofInt 64 (x:Int))|||BitVec.ofInt 64 ((y:Int)*4294967296)).toNat:Int)=_;rw [e1,WK,h1,h2,Nat.or_comm];have e3:y*4294967296|||x=y*4294967296+x:=by rw [show(4294967296:Nat)=2^32 by decide,e]
 rw [e3,wrap_u64];omega
def NatL.of_trim {bo:Nat} (hl:ds.length=i) (hT:Trimmed ds k) (h:cR w.heap.size w (some ⟨bo,0,none⟩) ds) (hb:Bz w w'):NatL w'.heap.size w' (.slice (some ⟨bo,0,none⟩) k i) (val 4294967296 ds):=by
 have hk:=hT.1;refine⟨some ⟨bo,0,none⟩,ds.take k,i,?_,?_,hT.noZ,hT.val⟩
 ·rw [aX,oE hT.1]
 ·have:=((h.below hb (aA _)).up hb.size);refine⟨fun x hx=>this.1 x (jS hx),fun c2=>?_⟩;obtain⟨b3,off3,e3,hb3,hc3⟩:=this.2 (fun h=>c2 (by rw [h];simp));exact⟨b3,off3,e3,hb3,fun j x hx=>hc3 j x (by
   have hj:j<k:=by
    have:=(aM.1 hx).1;rw [aX] at this;omega
   rwa [iY hj] at hx)⟩
structure ShrD (B p:Nat) (A:List Nat) (i:Nat) (ds:List Nat):Prop where
 len:ds.length=i
 dig:∀d∈ds,d<B
 sum:val B ds*p+dg A 0%p=val B (A.take i)+B^i*(dg A i%p)
def ShrD.start:ShrD B p A 0 []:=⟨rfl,by simp,by simp [val]⟩
def YE {y:Nat} (hp:0<p) (hm:0<m) (hx:x<p*m):(x+y*(p*m))/p%(p*m)<p*m∧(x+y*(p*m))/p%(p*m)*p+x%p=x+p*m*(y%p):=by
 have d4:0<p*m:=Nat.mul_pos hp hm;refine⟨mT _ d4,?_⟩;have e1:(x+y*(p*m))/p=x/p+m*y:=by
  rw [show y*(p*m)=p*(m*y) by rw [cP y,eQ],Nat.add_mul_div_left _ _ hp]
 have f1:x/p<m:=VK hx;have hy:m*(y%p)+m≤p*m:=by
  rw [←Nat.mul_succ,cP p m];exact mS _ (mT _ hp)
 have e2:(x/p+m*y)%(p*m)=x/p+m*(y%p):=by
  have e3:m*y=m*(y%p)+p*m*(y/p):=by
   have:=VF y p
   conv=>lhs;rw [←this]
   rw [eD,←eQ,cP m p]
  rw [e3,←mU,Ki,rF (by omega)]
 rw [e1,e2,dP];have h1:=lS x p;have h2:m*(y%p)*p=p*m*(y%p):=by rw [cP,eQ]
 rw [h2,cP (x/p) p];omega
def ShrD.step (hB:B=p*m) (hp:0<p) (hm:0<m) (h:ShrD B p A i ds) (hx:A[i]?=some x) (a4:x<B):ShrD B p A (i+1) (ds++ [(x+dg A (i+1)*B)/p%B]):=by
 obtain⟨q1,q2⟩:=YE (y:=dg A (i+1)) hp hm (by rw [←hB];exact a4);rw [←hB] at q1 q2;obtain⟨d,hd⟩:∃d,d=(x+dg A (i+1)*B)/p%B:=⟨_,rfl⟩;rw [←hd] at q1 q2 ⊢;refine⟨by rw [aI,h.len];rfl,fun e he=>?_,?_⟩
 ·rcases cG.1 he with he|he
  ·exact h.dig e he
  ·simp at he;omega
 ·have h1:=h.sum;rw [Gi hx] at h1;have hl:(A.take i).length=i:=by
   have:=(aM.1 hx).1;rw [aX];omega
  rw [jW,h.len,nE hx,jW,hl,gN];have e1:(val B ds+B^i*d)*p=val B ds*p+B^i*(d*p):=by rw [dP,eQ]
  have e2:B^i*(d*p)+B^i*(x%p)=B^i*x+B^i*B*(dg A (i+1)%p):=by
   rw [←eD,q2,eD,eQ]
  rw [e1];omega
def ShrD.done (hp:0<p) (h:ShrD B p A A.length ds):val B ds=val B A/p:=by
 have h1:=h.sum;rw [dg_ge (aA _),CZ,yN,fG,vL] at h1;have h2:dg A 0%p<p:=mT _ hp;rw [←h1,cP,Nat.mul_add_div hp,Nat.div_eq_of_lt h2,fG]
def YF (a:Option Addr) (len cap n s:Nat) (A:List Nat) (hl:A.length=len) (hb:len≤1000000) (hs:s<32) (d1:len≤cap) (w:Wo) (hn:n≤w.heap.size) (h1:cR n w a A):
  Cz 359 #[.slice a len cap,.int .i64 s] w fun e w'=>∃r x,e= .returned (.tuple #[r,x])∧NatL w'.heap.size w' r (val 4294967296 A/2^s)∧Bz w w':=by
 have hq:(s:Int)/32=0:=by omega
 have hr:(s:Int)%32=s:=by omega
 by_cases h0:len=0
 ·subst h0;obtain rfl:A= []:=DF.1 hl;go_enter Tryz.func359,Tryz.ntmps359
  go_wp2_with fail
  go_ret2
  exact⟨_,_,rfl,⟨none,[],0,rfl,⟨by simp,fun h=>absurd rfl h⟩,by simp [NoZ],by simp [val]⟩,bD _ _⟩
 ·have e8:¬((len:Int)≤0):=by omega
  obtain⟨x0,hx0⟩:∃x,A[0]?=some x:=⟨_,bM (by omega)⟩;obtain⟨b,off,rfl,hbk,hx0B,hc0⟩:=h1.get hx0;have d2:∀w2,Bz w w2→w2.cell? ⟨b,off,none⟩=some (.int .u32 x0):=fun w2 a6=>(a6.cell (p:=⟨b,off,none⟩) (by show b<_;omega)).trans (by simpa using hc0)
  have d7:∀w2,Bz w w2→Cz 129 #[.slice (some ⟨b,off,none⟩) 0 cap] w2 fun e w'=>∃sv,e= .returned sv∧(∃a c,sv= .slice a 0 c∧LimS (fP w2.heap.size w'.heap.size) w' a [])∧Bz w2 w':=fun w2 a6=>wO _ 0 [] (by simp) w2 (bX _) ⟨_,cap,rfl,by simp,fun h=>absurd rfl h⟩
  have e7:0<len:=by omega
  have e9:(s:Int).tmod 32=s:=by rw [Int.tmod_eq_emod_of_nonneg (by omega)];omega
  have e0:(0:Int)≤(cap:Int):=by omega
  go_enter Tryz.func359,Tryz.ntmps359
  go_upto_region 4 with fail
  have a8:Bz w { w with drawn:=w.drawn+1 }:=UA w;refine Heavy.region_plan (Bz w) 19 (Heavy.lights [0,1,2] (.one 3 (.one 4 (Heavy.lights [5,6,7,8,9,10,11,12,13,14,15,16,17,18] .done)))) (by kernel_rfl) (by kernel_rfl) a8 ?_;simp only [Heavy.lights,bL,bY,aZ,bG]
  iterate 3 (apply Heavy.light_n;(exact rfl);(exact rfl);(intro b4 hw;go_simp;exact rfl))
  apply Heavy.one_n
  ·exact rfl
  ·exact rfl
  go_simp
  refine(d7 _ a8).mono ?_;rintro e w3 ⟨f2,rfl,⟨b1,e1,rfl,hL1⟩,hb3⟩;have a7:Bz w w3:=a8.trans hb3;refine⟨_,rfl,a7,?_⟩;apply Heavy.one_n
  ·exact rfl
  ·exact rfl
  go_simp
  refine(rX b1 0 e1 0 [] rfl (by decide) (bX _) w3 (bX _) ⟨by simp,fun h=>absurd rfl h⟩).mono ?_;rintro e w4 ⟨k4,rfl,hT4,hb4⟩;have a5:Bz w w4:=a7.trans (hb4.mono a7.size);obtain rfl:k4=0:=by have:=hT4.1;simp only [oG] at this;omega
  clear hT4;refine⟨_,rfl,a5,?_⟩
  iterate 3 (apply Heavy.light_n;(exact rfl);(exact rfl);(intro b4 hw;go_simp;exact rfl))
  iterate 10 (apply Heavy.light_step;(exact rfl);(go_simp);(intro b4 hw;have ka:=d2 b4 hw;go_simp;exact rfl))
  iterate 1 (apply Heavy.light_n;(exact rfl);(exact rfl);(intro b4 hw;go_simp;exact rfl))
  refine Heavy.plan_end ?_;have mk:(Instr.makeSlice 43 (.int .i64 (len:Int)) (.int .i64 (len:Int))).run Tryz.prog w4=_:=wZ len (by omega) w4;obtain⟨wb,hwb⟩:=enm (w4.alloc (mZ len));have b7:bW wb w4.heap.size (List.replicate len 0):=hwb▸vV w4 len;have c5:Bz w wb:=a5.trans ((hwb▸vW w4 len).mono a5.size);have f0:IntKind.i64.wrap (len:Int)=(len:Int):=by rw [dX];omega
  obtain⟨bo,hbo⟩:=enm w4.heap.size;rw [hbo] at b7 mk;have c6:w.heap.size≤bo:=hbo▸a5.size;have b5:=aside3 b7 c5 c6;clear hb3 a7 hb4 a5 b7 c5 c6 hL1 a8 hbo
  go_wp2_with fail
  clear mk hwb;have c9:=aside hl
  go_loopw [44] (fun d8 wr=>∃(i:Nat) (ds:List Nat),d8= .int .i64 i∧i≤len∧Aside (ShrD 4294967296 (2^s) A i ds)∧bW wr bo (ds++List.replicate (len-i) 0)∧Bz w wr) (fun s _=>len-(intOf s).toNat)
  case atStart=>exact⟨0,[],rfl,bX _,ShrD.start,by simpa using b5.o.1,b5.o.2.1⟩
  case round=>
   obtain⟨i,ds,rfl,hi,hD,hR,hB⟩:=hrel
   by_cases b9:i<len
   ·obtain⟨x,hx⟩:∃x,A[i]?=some x:=⟨_,bM (by omega)⟩;have a4:=h1.1 x (aV hx);have hc:wr.cell? ⟨b,off+i,none⟩=some (.int .u32 x):=by
     obtain⟨b',off',e,_,_,h⟩:=(h1.below hB hn).get hx;cases e;exact h
    obtain⟨z,hz⟩:∃z,len-i=z+1:=⟨len-i-1,by omega⟩;rw [hz,mV] at hR;obtain⟨y,hy⟩:∃y,y=dg A (i+1):=⟨_,rfl⟩;have c3:y<4294967296:=by rw [hy];exact dg_lt (by decide) h1.1 _
    obtain⟨T,hT⟩:∃T,T=x+y*4294967296:=⟨_,rfl⟩;obtain⟨q,hq'⟩:∃q,q=T/2^s:=⟨_,rfl⟩;obtain⟨d,hd⟩:∃d,d=q%4294967296:=⟨_,rfl⟩;have a0:=ShrD.step (zV hs) (kW (by decide)) (kW (by decide)) hD.o hx a4;rw [←hy,←hT,←hq',←hd] at a0;have c7:=aside a0;have m1:IntKind.u64.wrap (x:Int)=(x:Int):=by rw [wrap_u64];omega
    have m2:(T:Int)/2^s=(q:Int):=by rw [hq'];simp
    have m3:IntKind.u32.wrap (q:Int)=(d:Int):=by rw [kL];omega
    have a9:=hD.o.len;obtain⟨c0,c1⟩:=hR.cell (DZ (c:=0) (rest:=List.replicate z 0) a9);have b6:=hR.set (k:=i) (d:=d);rw [DX a9] at b6;have c4:=hB.setCell (p:=⟨bo,i,none⟩) b5.o.2.2 (.int .u32 d);obtain⟨e4,hi2,hwk⟩:=elt (i:=i) (n:=len) (by omega) (by omega);have c8:Aside (len-(i+1)=z):=by show _=_;omega
    have b0:=aside b9
    by_cases a1:i+1<len
    ·have d9:wr.cell? ⟨b,off+(i+1),none⟩=some (.int .u32 y):=by
      have d6:A[i+1]?=some y:=by rw [hy];exact dg_get (by omega)
      obtain⟨b',off',e,_,_,h⟩:=(h1.below hB hn).get d6;cases e;exact h
     have m4:IntKind.u64.wrap (y:Int)=(y:Int):=by rw [wrap_u64];omega
     have m5:IntKind.u64.wrap ((y:Int)*4294967296)=(y:Int)*4294967296:=by rw [wrap_u64];omega
     have m6:bits .or .u64 (x:Int) ((y:Int)*4294967296)=(T:Int):=by rw [Ip x y a4 c3,hT]
     have d3:(i:Int)+1<(len:Int):=by omega
     have e6:(0:Int)≤(i:Int)+1:=by omega
     clear a0 a9 hd hq' hT hy hz hR hB hD hx b9 a4 c3 a1
     go_wp2_with fail
     exact⟨⟨i+1,ds++ [d],by simp,by have:=b0.o;omega,c7,by rw [c8.o];simpa using b6,c4⟩,by have:=b0.o;simp [intOf];omega⟩
    ·have b2:y=0:=by rw [hy];exact dg_ge (by omega)
     have d0:T=x:=by rw [hT,b2];omega
     subst d0;have d3:¬(i:Int)+1<(len:Int):=by omega
     clear a0 a9 hd hq' hT hy hz hR hB hD hx b9 a4 c3 a1 b2
     go_wp2_with fail
     exact⟨⟨i+1,ds++ [d],by simp,by have:=b0.o;omega,c7,by rw [c8.o];simpa using b6,c4⟩,by have:=b0.o;simp [intOf];omega⟩
   ·obtain rfl:i=len:=by omega
    have a3:=hD.o;rw [pN,JB,pS] at hR;have hv:=(show ShrD 4294967296 (2^s) A A.length ds by rw [c9.o];exact a3).done (kW (by decide));have b8:cR wr.heap.size wr (some ⟨bo,0,none⟩) ds:=by
     have:=hR.lim0 a3.dig hR.lt i
     rwa [fH (by rw [a3.len];exact aA _)] at this
    have d5:=rX (some ⟨bo,0,none⟩) i i wr.heap.size ds a3.len (by omega) (aA _) wr (aA _) b8;have a2:Aside (val 4294967296 ds=val 4294967296 A/2^s∧ds.length=i∧cR wr.heap.size wr (some ⟨bo,0,none⟩) ds):=⟨hv,a3.len,b8⟩;clear hv b8 a3 hR hD
    go_wp2_with (go_at_call 360;with_reducible refine d5.mono ?_;rintro e w' ⟨k,rfl,hT,a6⟩)
    go_ret2
    have:=NatL.of_trim a2.o.2.1 hT a2.o.2.2 a6;rw [a2.o.1] at this;exact⟨_,_,rfl,this,hB.trans (a6.mono hB.size)⟩
end
structure DivS (B d:Nat) (A:List Nat) (j:Nat) (qs:List Nat) (rest:Nat):Prop where
 len:j+qs.length=A.length
 dig:∀q∈qs,q<B
 lt:rest<d
 sum:val B (A.drop j)=val B qs*d+rest
def DivS.start (hd:0<d):DivS B d A A.length [] 0:=⟨by simp,by simp,hd,by simp [val]⟩
def DivS.step {rest:Nat} (h:DivS B d A (j+1) qs rest) (hx:A[j]?=some x) (a1:x<B):(rest*B+x)/d<B∧DivS B d A j ((rest*B+x)/d::qs) ((rest*B+x)%d):=by
 have hd:0<d:=vJ (bX _) h.lt;have hq:(rest*B+x)/d<B:=by
  refine VK ?_;have:(rest+1)*B≤d*B:=eZ _ h.lt;rw [dP,mR] at this;omega
 refine⟨hq,⟨by have:=h.len;simp only [eW];omega,fun q hm=>?_,mT _ hd,?_⟩⟩
 ·rcases cM.1 hm with rfl|hm
  ·exact hq
  ·exact h.dig q hm
 ·obtain⟨h1,rfl⟩:=aM.1 hx;rw [iK h1,val,h.sum,val];have e:=lS (rest*B+A[j]) d;obtain⟨Q,hQ⟩:∃Q,Q=(rest*B+A[j])/d:=⟨_,rfl⟩;obtain⟨R,hR⟩:∃R,R=(rest*B+A[j])%d:=⟨_,rfl⟩;rw [←hQ,←hR] at e ⊢;rw [dP,eD,eQ,cP Q d,cP B rest];omega
def DivS.done {rest:Nat} (h:DivS B d A 0 qs rest):val B A/d=val B qs∧val B A%d=rest:=by
 have h1:=h.sum;rw [bG] at h1;have hd:0<d:=vJ (bX _) h.lt;rw [h1,cP];exact⟨by rw [Nat.mul_add_div hd,Nat.div_eq_of_lt h.lt,fG],by rw [Nat.mul_add_mod,rF h.lt]⟩
def ZD:(List.replicate (j+1) 0++qs).set j q=List.replicate j 0++q::qs:=by
 rw [Ko,fJ];exact DX (by simp)
def ZF:(List.replicate (j+1) 0++qs)[j]?=some 0:=by
 rw [Ko,fJ];exact DZ (by simp)
def Fy (a:Option Addr) (len cap n d:Nat) (A:List Nat) (hl:A.length=len) (hb:len≤1000000) (b4:0<d) (b5:d<4294967296) (w:Wo) (hn:n≤w.heap.size) (h1:cR n w a A):
  Cz 354 #[.slice a len cap,.int .u32 d] w fun e w'=>∃(q:Value) (r:Nat),e= .returned (.tuple #[q,.int .u32 r])∧r=val 4294967296 A%d∧NatL w'.heap.size w' q (val 4294967296 A/d)∧Bz w w':=by
 have mk:(Instr.makeSlice 43 (.int .i64 (len:Int)) (.int .i64 (len:Int))).run Tryz.prog w=_:=wZ len (by omega) w;obtain⟨wb,hwb⟩:=enm (w.alloc (mZ len));have a8:bW wb w.heap.size (List.replicate len 0):=hwb▸vV w len;have a6:Bz w wb:=hwb▸vW w len;have a5:=aside2 a8 a6;have c6:IntKind.i64.wrap ((len:Int)-1)=(len:Int)-1:=by rw [dX];omega
 have c2:¬d=0:=by omega
 clear a8 a6;go_enter Tryz.func354,Tryz.ntmps354
 go_wp2_with fail
 clear mk hwb;have b2:=aside hl
 go_loopw [7,8] (fun s7 s8 wr=>∃(j rest:Nat) (qs:List Nat),s8= .int .i64 ((j:Int)-1)∧s7= .int .u64 rest∧Aside (DivS 4294967296 d A j qs rest)∧bW wr w.heap.size (List.replicate j 0++qs)∧Bz w wr) (fun _ s _=>(intOf s+1).toNat)
 case atStart=>exact⟨len,0,[],rfl,rfl,by rw [←b2.o];exact DivS.start b4,by simpa using a5.o.1,a5.o.2⟩
 case round=>
  obtain⟨j,rest,qs,rfl,rfl,hD,hR,hB⟩:=hrel
  by_cases a9:j=0
  ·subst a9;obtain⟨v1,v2⟩:=hD.o.done;have b7:=hD.o.lt;have a2:qs.length=len:=by have:=hD.o.len;omega
   rw [JB,kX] at hR;have a3:cR wr.heap.size wr (some ⟨w.heap.size,0,none⟩) qs:=by
    have:=hR.lim0 hD.o.dig hR.lt len
    rwa [fH (by omega)] at this
   have b9:=rX (some ⟨w.heap.size,0,none⟩) len len wr.heap.size qs a2 (by omega) (aA _) wr (aA _) a3;have a0:=aside4 v1 v2 a2 a3;have m1:IntKind.u32.wrap (rest:Int)=(rest:Int):=by rw [kL];omega
   clear v1 v2 b7 a2 a3 hR hD
   go_wp2_with (go_at_call 360;with_reducible refine b9.mono ?_;rintro e w' ⟨k,rfl,hT,hb2⟩)
   go_ret2
   refine⟨_,rest,rfl,a0.o.2.1.symm,?_,hB.trans (hb2.mono hB.size)⟩;rw [a0.o.1];exact NatL.of_trim a0.o.2.2.1 hT a0.o.2.2.2 hb2
  ·obtain⟨j,rfl⟩:∃j',j=j'+1:=⟨j-1,by omega⟩;have b6:j<len:=by have:=hD.o.len;omega
   obtain⟨x,hx⟩:∃x,A[j]?=some x:=⟨_,bM (by omega)⟩;obtain⟨b,off,rfl,hbk,a1,hc⟩:=(h1.below hB hn).get hx;obtain⟨b0,hstep⟩:=hD.o.step hx a1;have b1:rest<4294967296:=IW hD.o.lt b5;obtain⟨T,hT⟩:∃T,T=rest*4294967296+x:=⟨_,rfl⟩;obtain⟨q,hq⟩:∃q,q=T/d:=⟨_,rfl⟩;obtain⟨r2,hr2⟩:∃r2,r2=T%d:=⟨_,rfl⟩;rw [←hT,←hq,←hr2] at hstep;rw [←hT,←hq] at b0;have a4:r2<d:=hstep.lt;have b8:=aside hstep;have m1:IntKind.u64.wrap (x:Int)=(x:Int):=by rw [wrap_u64];omega
   have m2:IntKind.u64.wrap ((rest:Int)*4294967296)=(rest:Int)*4294967296:=by rw [wrap_u64];omega
   have m3:bits .or .u64 ((rest:Int)*4294967296) (x:Int)=(T:Int):=by rw [HN rest x b1 a1,hT];simp
   have m4:IntKind.u64.wrap (d:Int)=(d:Int):=by rw [wrap_u64];omega
   have m5:(T:Int)/(d:Int)=(q:Int):=by rw [hq];simp
   have m6:IntKind.u64.wrap (q:Int)=(q:Int):=by rw [wrap_u64];omega
   have m7:IntKind.u32.wrap (q:Int)=(q:Int):=by rw [kL];omega
   have m8:(T:Int).tmod (d:Int)=(r2:Int):=by rw [hr2,Int.ofNat_tmod]
   have m9:IntKind.u64.wrap (r2:Int)=(r2:Int):=by rw [wrap_u64];omega
   obtain⟨c0,c1⟩:=hR.cell (ZF (j:=j) (qs:=qs));have a7:=hR.set (k:=j) (d:=q);rw [ZD] at a7;have b3:=hB.setCell (p:=⟨w.heap.size,j,none⟩) (aA _) (.int .u32 q);have c3:(j:Int)<(len:Int):=by omega
   have c4:(0:Int)≤(j:Int):=by omega
   have c5:IntKind.i64.wrap ((j:Int)-1)=(j:Int)-1:=by rw [dX];omega
   clear hstep hR hB hD hx b0 hq hr2 hT b6 a4 b1 a1 a9
   go_wp2_with fail
   exact⟨⟨j,r2,q::qs,rfl,rfl,b8,a7,b3⟩,by simp [intOf]⟩
def Aw (x:Nat) (hx:x<4294967296) (w:Wo):Cz 355 #[.int .u64 x] w fun e w'=>∃r,e= .returned r∧NatL w'.heap.size w' r x∧Bz w w':=by
 have m1:IntKind.u32.wrap (x:Int)=(x:Int):=by rw [kL];omega
 have m2:(x:Int)/4294967296=0:=by omega
 obtain⟨wb,hwb⟩:=enm (w.alloc (Obj.cells #[.int .u32 (x:Int),.int .u32 0] 175));have hR:bW wb w.heap.size [x,0]:=by
  rw [←hwb];unfold bW;show(w.heap.push _)[w.heap.size]?=_;rw [Lm];rfl
 have a2:Bz w wb:=hwb▸(bD _ _).alloc (aA _) _;have hd:∀y∈ [x,0],y<4294967296:=by
  intro y hy;simp at hy;rcases hy with rfl|rfl
  ·exact hx
  ·decide
 have a1:cR wb.heap.size wb (some ⟨w.heap.size,0,none⟩) [x,0]:=hR.lim0 hd hR.lt 2;have a3:=rX (some ⟨w.heap.size,0,none⟩) 2 2 wb.heap.size [x,0] rfl (by decide) (aA _) wb (aA _) a1;have a0:=aside a1;clear a1 hR hd;go_enter Tryz.func355,Tryz.ntmps355
 go_wp2_with (go_at_call 360;with_reducible refine a3.mono ?_;rintro e w' ⟨k,rfl,hT,hb2⟩)
 go_ret
 have:=NatL.of_trim rfl hT a0.o hb2;refine⟨_,rfl,?_,a2.trans (hb2.mono a2.size)⟩;have e:val 4294967296 [x,0]=x:=by simp [val]
 rw [e] at this;exact this
def XJ (T d:Nat) (hT:T<18446744073709551616):IntKind.u64.wrap (Int.tdiv (T:Int) (d:Int))=((T/d:Nat):Int):=by
 have h:=Nat.div_le_self T d;show IntKind.u64.wrap ((T/d:Nat):Int)=_;generalize T/d=q at h ⊢;rw [wrap_u64];omega
def Gh (bu off bv a0 m d6 d7:Nat) (lo us hi vs:List Nat) (un:Nat) (hm:m<1073741824) (i1:un<4294967296) (a9:∀x∈us,x<4294967296) (a5:∀x∈vs,x<4294967296) (c9:∀x,vs[m+1]?=some x→0<x) (a7:lo.length=off) (i2:us.length=m+2) (f9:vs.length=m+2) (w:Wo) (hu:bW w bu (lo++us++un::hi)) (f6:bu≠bv)
  (hv:∀(j x:Nat),vs[j]?=some x→w.cell? ⟨bv,a0+j,none⟩=some (.int .u32 x)) (c3:val 4294967296 us+4294967296^(m+2)*un<4294967296*val 4294967296 vs):
  Cz 358 #[.slice (some ⟨bu,off,none⟩) (m+2+1) d6,.slice (some ⟨bv,a0,none⟩) (m+2) d7] w fun e w'=>∃(q:Nat) (es:List Nat),e= .returned (.int .u32 q)∧q<4294967296∧es.length=m+2∧(∀x∈es,x<4294967296)∧val 4294967296 us+4294967296^(m+2)*un=q*val 4294967296 vs+val 4294967296 es∧val 4294967296 es<val 4294967296 vs∧bW w' bu (lo++es++0::hi)∧Only bu w w':=by
 obtain⟨u1,h1⟩:∃x,us[m+1]?=some x:=⟨_,bM (by omega)⟩;obtain⟨u2,h2⟩:∃x,us[m]?=some x:=⟨_,bM (by omega)⟩;obtain⟨v1,h3⟩:∃x,vs[m+1]?=some x:=⟨_,bM (by omega)⟩;obtain⟨v2,h4⟩:∃x,vs[m]?=some x:=⟨_,bM (by omega)⟩;have c0:=(hu.cell (k:=off+(m+2)) (x:=un) (by rw [fJ,dK (by omega),a7,VM,dK (by omega),i2,pN];rfl)).1;have c1:=(hu.cell (k:=off+(m+1)) (x:=u1) (by rw [fJ,dK (by omega),a7,VM,dW (by omega)];exact h1)).1;have c2:=(hu.cell (k:=off+m) (x:=u2) (by rw [fJ,dK (by omega),a7,VM,dW (by omega)];exact h2)).1;have d1:=hv _ _ h3;have d2:=hv _ _ h4;have l5:IntKind.i64.wrap ((m:Int)+2)=(m:Int)+2:=by rw [dX];omega
 have l6:=ewr (i:=m) (by omega);have l7:IntKind.i64.wrap (m:Int)=(m:Int):=by rw [dX];omega
 have j6:(m:Int)+2<(m:Int)+2+1:=by omega
 have j7:(0:Int)≤(m:Int)+2:=by omega
 have j8:(0:Int)≤(m:Int)+1:=by omega
 have j9:(m:Int)+1<(m:Int)+2+1:=by omega
 have k0:(m:Int)+1<(m:Int)+2:=by omega
 have l0:(m:Int)<(m:Int)+2:=by omega
 have l1:(0:Int)≤(m:Int):=by omega
 have l2:(m:Int)<(m:Int)+2+1:=by omega
 have j3:=a9 u1 (aV h1);have i0:=a9 u2 (aV h2);have l4:=a5 v1 (aV h3);have i3:=a5 v2 (aV h4);have k1:IntKind.u64.wrap (un:Int)=un:=by rw [wrap_u64];omega
 have k2:IntKind.u64.wrap ((un:Int)*4294967296)=(un:Int)*4294967296:=by rw [wrap_u64];omega
 have k3:IntKind.i64.wrap ((m:Int)+2-1)=(m:Int)+1:=by rw [dX];omega
 have k4:IntKind.u64.wrap (u1:Int)=u1:=by rw [wrap_u64];omega
 have k5:=HN un u1 i1 j3;have k6:IntKind.u64.wrap (v1:Int)=v1:=by rw [wrap_u64];omega
 have d0:=c9 v1 h3;have k7:¬((v1:Int)=0):=by omega
 have k8:((v1:Int)==0)=false:=by simp;omega
 clear c9;have k9:¬v1=0:=by omega
 obtain⟨tp,htp⟩:∃tp:Nat,tp=un*4294967296+u1:=⟨_,rfl⟩;have hT:(un:Int)*4294967296+(u1:Int)=(tp:Int):=by rw [htp];omega
 rw [hT] at k5;have j2:tp<18446744073709551616:=by omega
 obtain⟨g0,c7⟩:∃g0,g0=tp/v1:=⟨_,rfl⟩;obtain⟨r0,hr0⟩:∃r0,r0=tp%v1:=⟨_,rfl⟩;have ka:IntKind.u64.wrap ((tp:Int)/(v1:Int))=(g0:Int):=by
  rw [c7];exact XJ tp v1 j2
 have kb:Int.tmod (tp:Int) (v1:Int)=(r0:Int):=by
  rw [hr0];rfl
 have Agr:Aside (g0=tp/v1∧r0=tp%v1):=⟨c7,hr0⟩;clear c7 hr0;have Atp:=aside htp;clear htp hT;have kc:IntKind.i64.wrap ((m:Int)+2-2)=(m:Int):=by rw [dX];omega
 have kd:IntKind.u64.wrap (v2:Int)=v2:=by rw [wrap_u64];omega
 have ke:IntKind.u64.wrap (u2:Int)=u2:=by rw [wrap_u64];omega
 have l3:((m:Int)+2).toNat=m+2:=by omega
 have f8:((m:Int)+1).toNat=m+1:=by omega
 have a3:=aside3 hu hv c3;have a6:Aside (v1*4294967296^(m+1)+v2*4294967296^m+val 4294967296 (vs.take m)=val 4294967296 vs∧tp*4294967296^(m+1)+u2*4294967296^m+val 4294967296 (us.take m)=val 4294967296 us+4294967296^(m+2)*un):=by
  refine⟨(JY f9 h3 h4).symm,?_⟩;rw [JY (B:=4294967296) i2 h1 h2,Atp.o,dP,gN 4294967296 (m+1),cP (4294967296^(m+1)) 4294967296,cP _ un,←eQ];omega
 clear h1 h2 h3 h4 hv hu c3;go_enter Tryz.func358,Tryz.ntmps358;go_wp2;refine iV 13 (by kernel_rfl) (by kernel_rfl) ?_;simp only [bL,bY,aZ,bG,iX]
 repeat (with_reducible refine jD (fun K hK=>?_);go_simp;with_reducible refine hK _ ?_;clear hK K)
 refine iW ?_;show wpList _ _ _ _ _ _;go_wp2;refine iV 17 (by kernel_rfl) (by kernel_rfl) ?_;simp only [bL,bY,aZ,bG,iX]
 repeat (with_reducible refine jD (fun K hK=>?_);go_simp;with_reducible refine hK _ ?_;clear hK K)
 refine iW ?_;show wpList _ _ _ _ _ _
 go_upto_block 0 with fail
 go_cut [7,8] from 46 to 81 (fun s7 s8 wc=>∃g r:Nat,s7= .int .u64 g∧s8= .int .u64 r∧Bz w wc∧g<4294967296∧Guess (v1*4294967296^(m+1)+v2*4294967296^m+val 4294967296 (vs.take m)) (tp*4294967296^(m+1)+u2*4294967296^m+val 4294967296 (us.take m)) g)
 case first=>
  have hP:(4294967296:Nat)^(m+1)=4294967296*4294967296^m:=by rw [gN,cP]
  have e3:val 4294967296 (us.take m)<4294967296^m:=by
   have:=val_lt (B:=4294967296) (a:=us.take m) fun x hx=>a9 x (jS hx)
   rwa [aX,show min m us.length=m by omega] at this
  have e4:val 4294967296 (vs.take m)<4294967296^m:=by
   have:=val_lt (B:=4294967296) (a:=vs.take m) fun x hx=>a5 x (jS hx)
   rwa [aX,show min m vs.length=m by omega] at this
  have d3:tp*4294967296^(m+1)+u2*4294967296^m+val 4294967296 (us.take m)<4294967296*(v1*4294967296^(m+1)+v2*4294967296^m+val 4294967296 (vs.take m)):=by rw [a6.o.1,a6.o.2];exact a3.o.2.2
  have AP:=aside hP;clear hP
  go_wp2_with fail
  go_loopw [7,8] (fun s7 s8 wr=>∃g r:Nat,s7= .int .u64 g∧s8= .int .u64 r∧Bz w wr∧Gue 4294967296 (4294967296^(m+1)) (4294967296^m) v1 v2 (val 4294967296 (vs.take m)) tp u2 (val 4294967296 (us.take m)) g r∧g<18446744073709551616∧r<4294967296) (fun s7 _ _=>(intOf s7).toNat)
  case atStart=>exact⟨g0,r0,rfl,rfl,⟨rfl,rfl,rfl,aA _,fun _ _=>rfl⟩,by rw [Agr.o.1,Agr.o.2];exact Gue.start AP.o d0 i0 e3,by have:=Agr.o.1;have:=Nat.div_le_self tp v1;omega,by have:=Agr.o.2;have:=mT tp d0;omega⟩
  case round=>
   obtain⟨g,r,rfl,rfl,hB,hG,hg64,hr64⟩:=hrel;have e0:wr.cell? ⟨bv,a0+(m+1),none⟩=some (.int .u32 v1):=(hB.cell (p:=⟨bv,a0+(m+1),none⟩) (oD d1)).trans d1;have e1:wr.cell? ⟨bv,a0+m,none⟩=some (.int .u32 v2):=(hB.cell (p:=⟨bv,a0+m,none⟩) (oD d2)).trans d2;have e2:wr.cell? ⟨bu,off+m,none⟩=some (.int .u32 u2):=(hB.cell (p:=⟨bu,off+m,none⟩) (oD c2)).trans c2;have b7:Bz w wr.drew:=hB.trans ⟨rfl,rfl,rfl,aA _,fun _ _=>rfl⟩
   by_cases h9:g<4294967296
   ·have hq:(g:Int)/4294967296=0:=by omega
    have f5:g*v2<18446744073709551616:=vJ (rE (show g≤4294967295 by omega) (show v2≤4294967295 by omega)) (by decide);obtain⟨gv,hgv⟩:∃gv:Nat,gv=g*v2:=⟨_,rfl⟩;have m1:IntKind.u64.wrap ((g:Int)*(v2:Int))=(gv:Int):=by
     have:(g:Int)*(v2:Int)=(gv:Int):=by rw [hgv];simp
     rw [this,wrap_u64];omega
    obtain⟨rv,b2⟩:∃rv:Nat,rv=r*4294967296+u2:=⟨_,rfl⟩;have m2:IntKind.u64.wrap ((r:Int)*4294967296)=(r:Int)*4294967296:=by rw [wrap_u64];omega
    have m3:bits BinOp.or IntKind.u64 ((r:Int)*4294967296) (u2:Int)=(rv:Int):=by
     rw [HN r u2 hr64 i0,b2];simp
    have Agv:=aside2 hgv b2;clear hgv b2 f5
    by_cases b5:rv<gv
    ·have j1:(rv:Int)<(gv:Int):=by omega
     have a1:=hG.less AP.o e3 d3 (.inr (by have:=Agv.o;omega));have j0:=a1.1;obtain⟨g1,hg1⟩:∃g1:Nat,g1=g-1:=⟨_,rfl⟩;have kg:IntKind.u64.wrap ((g:Int)-1)=(g1:Int):=by rw [wrap_u64];omega
     have kr:IntKind.u64.wrap ((r:Int)+(v1:Int))=(r:Int)+(v1:Int):=by rw [wrap_u64];omega
     have b0:=a1.2;rw [←hg1] at b0;have Ag1:=aside hg1;clear a1 hg1
     by_cases b2:r+v1<4294967296
     ·have f7:((r:Int)+(v1:Int))/4294967296=0:=by omega
      go_wp2;refine iV 22 (by kernel_rfl) (by kernel_rfl) ?_;simp only [bL,bY,aZ,bG,iX]
      repeat (with_reducible refine jD (fun K hK=>?_);go_simp;with_reducible refine hK _ ?_;clear hK K)
      refine iW ?_;show wpList _ _ _ _ _ _;go_wp2;exact⟨⟨g1,r+v1,rfl,by simp,b7,b0,by have:=Ag1.o;omega,b2⟩,by have:=Ag1.o;simp [intOf];omega⟩
     ·have f7:(0:Int)<((r:Int)+(v1:Int))/4294967296:=by omega
      have c4:=b0.breaks AP.o d0 i3 e4 d3 (by omega);go_wp2;refine iV 22 (by kernel_rfl) (by kernel_rfl) ?_;simp only [bL,bY,aZ,bG,iX]
      repeat (with_reducible refine jD (fun K hK=>?_);go_simp;with_reducible refine hK _ ?_;clear hK K)
      refine iW ?_;show wpList _ _ _ _ _ _;go_wp2
      go_meet
      exact⟨g1,r+v1,rfl,by simp,b7,c4.1,c4.2⟩
    ·have j1:¬(rv:Int)<(gv:Int):=by omega
     go_wp2;refine iV 22 (by kernel_rfl) (by kernel_rfl) ?_;simp only [bL,bY,aZ,bG,iX]
     repeat (with_reducible refine jD (fun K hK=>?_);go_simp;with_reducible refine hK _ ?_;clear hK K)
     refine iW ?_;show wpList _ _ _ _ _ _;go_wp2
     go_meet
     exact⟨g,r,rfl,rfl,b7,h9,hG.ends AP.o d0 e4 h9 (by have:=Agv.o;omega)⟩
   ·have hq:(0:Int)<(g:Int)/4294967296:=by omega
    have a1:=hG.less AP.o e3 d3 (.inl (by omega));have j0:=a1.1;obtain⟨g1,hg1⟩:∃g1:Nat,g1=g-1:=⟨_,rfl⟩;have kg:IntKind.u64.wrap ((g:Int)-1)=(g1:Int):=by rw [wrap_u64];omega
    have kr:IntKind.u64.wrap ((r:Int)+(v1:Int))=(r:Int)+(v1:Int):=by rw [wrap_u64];omega
    have b0:=a1.2;rw [←hg1] at b0;have Ag1:=aside hg1;clear a1 hg1
    by_cases b2:r+v1<4294967296
    ·have f7:((r:Int)+(v1:Int))/4294967296=0:=by omega
     go_wp2;refine iV 22 (by kernel_rfl) (by kernel_rfl) ?_;simp only [bL,bY,aZ,bG,iX]
     repeat (with_reducible refine jD (fun K hK=>?_);go_simp;with_reducible refine hK _ ?_;clear hK K)
     refine iW ?_;show wpList _ _ _ _ _ _;go_wp2;exact⟨⟨g1,r+v1,rfl,by simp,b7,b0,by have:=Ag1.o;omega,b2⟩,by have:=Ag1.o;simp [intOf];omega⟩
    ·have f7:(0:Int)<((r:Int)+(v1:Int))/4294967296:=by omega
     have c4:=b0.breaks AP.o d0 i3 e4 d3 (by omega);go_wp2;refine iV 22 (by kernel_rfl) (by kernel_rfl) ?_;simp only [bL,bY,aZ,bG,iX]
     repeat (with_reducible refine jD (fun K hK=>?_);go_simp;with_reducible refine hK _ ?_;clear hK K)
     refine iW ?_;show wpList _ _ _ _ _ _;go_wp2
     go_meet
     exact⟨g1,r+v1,rfl,by simp,b7,c4.1,c4.2⟩
 case rest=>
  obtain⟨g,r,rfl,rfl,hBc,hg32,hGs⟩:=hcut;rw [a6.o.1,a6.o.2] at hGs;obtain⟨wd,rfl⟩:=enr wc;have b9:bW wd bu (lo++us++un::hi):=(hBc.block bu (aG.1 a3.o.1).1).trans a3.o.1;have b6:∀(j x:Nat),vs[j]?=some x→wd.cell? ⟨bv,a0+j,none⟩=some (.int .u32 x):=fun j x hx=>(hBc.cell (p:=⟨bv,a0+j,none⟩) (oD (a3.o.2.1 j x hx))).trans (a3.o.2.1 j x hx)
  have i6:Only bu w wd:=Only.of_below hBc;have h0:=aside hGs;have h6:Aside (0<val 4294967296 vs):=by
   show 0<_;rw [←a6.o.1];have:1*1≤v1*4294967296^(m+1):=rE (by omega) (kW (by decide));omega
  have i7:=aside b9;clear hGs b9 c0 c1 c2 d1 d2 k2 k4 k5 k6 k7 k8 ka kb kd ke hBc
  go_wp2_with fail
  go_loopw [9,10,84] (fun s9 g6 j5 wr=>∃(k b c:Nat) (ds:List Nat),j5= .int .i64 k∧s9= .int .u64 b∧g6= .int .u64 c∧k≤m+2∧c<4294967296∧b≤1∧Aside (ds.length=k∧MulSub 4294967296 g (us.take k) (vs.take k) ds c b)∧bW wr bu (lo++ds++us.drop k++un::hi)∧Only bu wd wr) (fun _ _ s _=>m+2-(intOf s).toNat)
  case atStart=>exact⟨0,0,0,[],rfl,rfl,rfl,bX _,by omega,by omega,⟨rfl,by simpa using MulSub.nil⟩,by simpa using i7.o,Only.refl _ _⟩
  case round=>
   obtain⟨k,b,c,ds,rfl,rfl,rfl,hk,hcB,hb1,hms,hR,hO⟩:=hrel
   by_cases b5:k<m+2
   ·obtain⟨x,hx⟩:∃x,us[k]?=some x:=⟨_,bM (by omega)⟩;obtain⟨y,hy⟩:∃y,vs[k]?=some y:=⟨_,bM (by omega)⟩;have d5:=a9 x (aV hx);have g5:=a5 y (aV hy);have cy:wr.cell? ⟨bv,a0+k,none⟩=some (.int .u32 y):=(hO.cell (p:=⟨bv,a0+k,none⟩) (oD (b6 _ _ hy)) (fR f6)).trans (b6 _ _ hy);have cx:=hR.cell (LU (rest:=un::hi) a7 hms.o.1 hx);obtain⟨i5,cx2⟩:=cx;obtain⟨gy,hgy⟩:∃gy:Nat,gy=g*y:=⟨_,rfl⟩;have f0:gy≤4294967295*4294967295:=by rw [hgy];exact rE (by omega) (by omega)
    obtain⟨cg,hcg⟩:∃cg:Nat,cg=c+gy:=⟨_,rfl⟩;obtain⟨lw,hlw⟩:∃lw:Nat,lw=cg%4294967296:=⟨_,rfl⟩;obtain⟨c',hc'⟩:∃c':Nat,c'=cg/4294967296:=⟨_,rfl⟩;obtain⟨b',d,hb',hdB,he,t1,t2,q,f8,ht2,hq,hq1,hd32⟩:=KO x lw b d5 (by omega) hb1;have m1:IntKind.u64.wrap (y:Int)=(y:Int):=by rw [wrap_u64];omega
    have m2:IntKind.u64.wrap ((g:Int)*(y:Int))=(gy:Int):=by
     have e:(g:Int)*(y:Int)=(gy:Int):=by rw [hgy];simp
     rw [e,wrap_u64];omega
    have m3:IntKind.u64.wrap ((c:Int)+(gy:Int))=(cg:Int):=by rw [wrap_u64];omega
    have m4:IntKind.u64.wrap (x:Int)=(x:Int):=by rw [wrap_u64];omega
    have m5:IntKind.u32.wrap (cg:Int)=(lw:Int):=by rw [kL];omega
    have m6:IntKind.u64.wrap (lw:Int)=(lw:Int):=by rw [wrap_u64];omega
    have m7:(cg:Int)/4294967296=(c':Int):=by omega
    have f1:(k:Int)<(m:Int)+2:=by omega
    have f2:(0:Int)≤(k:Int):=by omega
    have f3:(k:Int)<(m:Int)+2+1:=by omega
    have j4:=ewr (i:=k) (by omega);have f4:Aside ((ds++ [d]).length=k+1∧MulSub 4294967296 g (us.take (k+1)) (vs.take (k+1)) (ds++ [d]) c' b'):=by
     refine⟨by rw [aI,hms.o.1];rfl,?_⟩;rw [nE hx,nE hy,hc',hcg,hgy];refine MulSub.snoc hms.o.2 hdB hb' ?_;rw [he,hlw,hcg,hgy]
    have d9:bW (wr.setCell ⟨bu,off+k,none⟩ (.int .u32 d)) bu (lo++(ds++ [d])++us.drop (k+1)++un::hi):=by
     have:=hR.set (k:=off+k) (d:=d)
     rwa [LR a7 hms.o.1 hx] at this
    have d8:=hO.trans (Only.set wr bu (off+k) (.int .u32 d));have e8:Aside (c'<4294967296):=by show _<_;omega
    have e6:=aside hb';have c8:=aside b5;clear hgy hcg hlw hc' hx hy d5 g5 he hb' hdB hR hO b5 f0
    go_wp2_with fail
    exact⟨⟨k+1,b',c',ds++ [d],by simp,rfl,rfl,by have:=c8.o;omega,e8.o,e6.o,f4,d9,d8⟩,by have:=c8.o;simp [intOf];omega⟩
   ·obtain rfl:k=m+2:=by omega
    obtain⟨c5,hM⟩:=hms.o;rw [fH (by omega),fH (by omega)] at hM;have b4:bW wr bu (lo++ds++un::hi):=by
     rw [JM (by omega),pS] at hR;exact hR
    obtain⟨g9,cn2⟩:=b4.cell (zK (d:=0) a7 c5).1;obtain⟨g8,dn,hb'',hdnB,hen,t1,t2,q,f8,ht2,hq,hq1,hd32⟩:=KO un c b i1 hcB hb1;have a4:=b4.set (k:=off+(m+2)) (d:=dn);rw [(zK (d:=dn) a7 c5).2] at a4;have b8:=(i6.trans hO).trans (Only.set wr bu (off+(m+2)) (.int .u32 dn));have b1:=hO.trans (Only.set wr bu (off+(m+2)) (.int .u32 dn));have m4:IntKind.u64.wrap (un:Int)=(un:Int):=by rw [wrap_u64];omega
    have mg:IntKind.u32.wrap (g:Int)=(g:Int):=by rw [kL];omega
    have b3:=aside2 hM c5;have h5:val 4294967296 us+4294967296^(m+2)*un=val 4294967296 us+4294967296^(m+2)*un:=rfl
    by_cases i8:g8=0
    ·subst i8;obtain⟨g1,g2,g3⟩:=Ea (B:=4294967296) (n:=m+2) (un:=un) rfl f9.symm rfl a5 hM h0.o h6.o (by omega);have h8:=hM.spec.2.2.2.1;obtain rfl:dn=0:=by omega
     have a2:=aside3 g1 g2 h8;clear hM c5 hR hen g1 g2 g3 h8 h5 b6 hms
     go_wp2_with fail
     go_ret
     exact⟨g,ds,rfl,hg32,b3.o.2,a2.o.2.2,a2.o.1,a2.o.2.1,a4,b8⟩
    ·obtain rfl:g8=1:=by omega
     have h7:Aside (un<c+b∧un+1*4294967296=dn+c+b):=⟨by omega,hen⟩;clear hen h5 hms hR hM c5
     go_upto_block 4 with fail
     have a8:=aside2 a4 b8;obtain⟨we,hwe⟩:=enm (wr.setCell ⟨bu,off+(m+2),none⟩ (.int .u32 dn));rw [hwe] at a8 b1 ⊢;have i4:∀(j x:Nat),vs[j]?=some x→we.cell? ⟨bv,a0+j,none⟩=some (.int .u32 x):=fun j x hx=>(b1.cell (p:=⟨bv,a0+j,none⟩) (oD (b6 _ _ hx)) (fR f6)).trans (b6 _ _ hx)
     clear hwe a4 b8 b1 b4 hO b6 g9 cn2 f8 ht2 hq hq1 hd32
     go_wp2_with fail
     go_loopw [10,140] (fun g6 g7 wr=>∃(k ca:Nat) (es:List Nat),g7= .int .i64 k∧g6= .int .u64 ca∧k≤m+2∧ca≤1∧Aside (es.length=k∧AddD 4294967296 (ds.take k) (vs.take k) es ca)∧bW wr bu (lo++es++ds.drop k++dn::hi)∧Only bu we wr) (fun _ s _=>m+2-(intOf s).toNat)
     case atStart=>exact⟨0,0,[],rfl,rfl,bX _,by omega,⟨rfl,by simpa using AddD.nil⟩,by simpa using a8.o.1,Only.refl _ _⟩
     case round=>
      obtain⟨k,ca,es,rfl,rfl,hk,hca,hes,hR,hO⟩:=hrel
      by_cases b5:k<m+2
      ·obtain⟨x,hx⟩:∃x,ds[k]?=some x:=⟨_,bM (by have:=b3.o.2;omega)⟩;obtain⟨y,hy⟩:∃y,vs[k]?=some y:=⟨_,bM (by omega)⟩;have d5:=b3.o.1.spec.2.2.2.1 x (aV hx);have g5:=a5 y (aV hy);have cy:wr.cell? ⟨bv,a0+k,none⟩=some (.int .u32 y):=(hO.cell (p:=⟨bv,a0+k,none⟩) (oD (i4 _ _ hy)) (fR f6)).trans (i4 _ _ hy);obtain⟨i5,cx2⟩:=hR.cell (LU (rest:=dn::hi) a7 hes.o.1 hx);obtain⟨sm,hsm⟩:∃sm:Nat,sm=x+y+ca:=⟨_,rfl⟩;obtain⟨d,hd⟩:∃d:Nat,d=sm%4294967296:=⟨_,rfl⟩;obtain⟨c',hc'⟩:∃c':Nat,c'=sm/4294967296:=⟨_,rfl⟩;have m1:IntKind.u64.wrap (y:Int)=(y:Int):=by rw [wrap_u64];omega
       have m2:IntKind.u64.wrap (x:Int)=(x:Int):=by rw [wrap_u64];omega
       have m3:IntKind.u64.wrap ((x:Int)+(y:Int))=(x:Int)+(y:Int):=by rw [wrap_u64];omega
       have m5:IntKind.u64.wrap ((ca:Int)+((x:Int)+(y:Int)))=(sm:Int):=by rw [wrap_u64];omega
       have m6:IntKind.u32.wrap (sm:Int)=(d:Int):=by rw [kL];omega
       have m7:(sm:Int)/4294967296=(c':Int):=by omega
       have f1:(k:Int)<(m:Int)+2:=by omega
       have f2:(0:Int)≤(k:Int):=by omega
       have f3:(k:Int)<(m:Int)+2+1:=by omega
       have j4:=ewr (i:=k) (by omega);have e9:Aside ((es++ [d]).length=k+1∧AddD 4294967296 (ds.take (k+1)) (vs.take (k+1)) (es++ [d]) c'):=by
        refine⟨by rw [aI,hes.o.1];rfl,?_⟩;rw [nE hx,nE hy];exact AddD.snoc hes.o.2 (by omega) (by omega)
       have b9:bW wr.drew bu (lo++es++ds.drop k++dn::hi):=hR;have d9:bW (wr.drew.setCell ⟨bu,off+k,none⟩ (.int .u32 d)) bu (lo++(es++ [d])++ds.drop (k+1)++dn::hi):=by
        have:=b9.set (k:=off+k) (d:=d)
        rwa [LR a7 hes.o.1 hx] at this
       have d8:=(hO.trans (Only.drew bu wr)).trans (Only.set wr.drew bu (off+k) (.int .u32 d));have e7:Aside (c'≤1):=by show _≤_;omega
       have c8:=aside b5;clear hsm hd hc' hx hy d5 g5 hR hO b5 hca b9
       go_wp2_with fail
       refine iV 13 (by kernel_rfl) (by kernel_rfl) ?_;simp only [bL,bY,aZ,bG,iX]
       repeat (with_reducible refine jD (fun K hK=>?_);go_simp;with_reducible refine hK _ ?_;clear hK K)
       refine iW ?_;show wpList _ _ _ _ _ _
       go_wp2_with fail
       refine⟨?_,?measure⟩
       ·repeat with_reducible apply Exists.intro
        refine⟨?rel,rfl⟩;exact⟨k+1,c',es++ [d],by simp,rfl,by have:=c8.o;omega,e7.o,e9,d9,d8⟩
       case measure=>
        show m+2-((k:Int)+1).toNat<m+2-(k:Int).toNat;have:=c8.o;omega
      ·obtain rfl:k=m+2:=by omega
       obtain⟨d4,hA⟩:=hes.o;rw [fH (by have:=b3.o.2;omega),fH (by omega)] at hA;have b4:bW wr bu (lo++es++dn::hi):=by
        rw [JM (by have:=b3.o.2;omega),pS] at hR;exact hR
       obtain⟨c7,g1,g2,g3,g4⟩:=Ee (B:=4294967296) (n:=m+2) (un:=un) (by decide) rfl f9.symm rfl a5 b3.o.1 h0.o h6.o h7.o.1 hA;subst g3;have i9:dn=4294967295:=by have:=h7.o.2;omega
       subst i9;have c6:=hA.spec.2.2.1;obtain⟨g9,cn2⟩:=b4.cell (zK (d:=0) a7 d4).1;have a4:=b4.set (k:=off+(m+2)) (d:=0);rw [(zK (d:=0) a7 d4).2] at a4;have b8:=(a8.o.2.trans hO).trans (Only.set wr bu (off+(m+2)) (.int .u32 (0:Nat)));obtain⟨gq,hgq⟩:∃gq:Nat,gq=g-1:=⟨_,rfl⟩;have m6:IntKind.u64.wrap ((g:Int)-1)=(gq:Int):=by rw [wrap_u64];omega
       have m7:IntKind.u32.wrap (gq:Int)=(gq:Int):=by rw [kL];omega
       have a2:Aside (gq<4294967296∧es.length=m+2∧(∀x∈es,x<4294967296)∧val 4294967296 us+4294967296^(m+2)*un=gq*val 4294967296 vs+val 4294967296 es∧val 4294967296 es<val 4294967296 vs):=⟨by omega,d4,c6,by rw [hgq];exact g1,g2⟩;clear hA d4 hR g1 g2 g4 c6 c7 hgq hO hes
       go_wp2_with fail
       go_ret
       exact⟨gq,es,rfl,a2.o.1,a2.o.2.1,a2.o.2.2.1,a2.o.2.2.2.1,a2.o.2.2.2.2,a4,b8⟩
def NoZ.len_eq (hB:1<B) (h:NoZ L) (hd:∀x∈L,x<B) (h1:B^M≤Go.Big.val B L) (h2:Go.Big.val B L<B^(M+1)):L.length=M+1:=by
 have a7:L≠ []:=by
  rintro rfl;have:0<B^M:=kW (by omega);simp [Go.Big.val] at h1;omega
 have h3:=h.pos (B:=B) (by omega) a7;have h4:=Go.Big.val_lt hd;have h5:=(IS hB).1 (vJ h1 h4);have h6:=(IS hB).1 (vJ h3 h2);omega
def YG (hs:s<32) (hC:C.length=m+1) (b4:∀y∈C,y<4294967296) (hx:C[m]?=some x) (b8:0<x) (b2:x*2^s<4294967296) (hL:NoZ L) (a5:∀y∈L,y<4294967296) (hv:val 4294967296 L=val 4294967296 C*2^s):L.length=m+1∧4294967296^m*2^s≤val 4294967296 L:=by
 have e:C=C.take m++ [x]:=by rw [←nE hx,fH (by omega)]
 have hl:(C.take m).length=m:=by rw [aX];omega
 have b1:=val_lt (a:=C.take m) (B:=4294967296) fun y hy=>b4 y (jS hy)
 rw [hl] at b1;have b0:val 4294967296 C=val 4294967296 (C.take m)+4294967296^m*x:=by
  conv=>lhs;rw [e]
  rw [jW,hl]
 have hp:0<2^s:=kW (by decide);obtain⟨p,hpd⟩:∃p,p=2^s:=⟨_,rfl⟩;obtain⟨M,hM⟩:∃M,M=2^(32-s):=⟨_,rfl⟩;have hB:4294967296=p*M:=by rw [hpd,hM];exact zV hs
 obtain⟨W,hW⟩:∃W,W=(4294967296:Nat)^m:=⟨_,rfl⟩;rw [←hpd] at b2 hp hv ⊢;rw [←hW] at b1 b0 ⊢;have h1:W*1≤W*x:=mS _ b8;have b6:W*p≤val 4294967296 L:=by
  rw [hv];exact eZ _ (by omega)
 have b9:x+1≤M:=by
  have h5:x*p<M*p:=by rw [cP M p,←hB];exact b2
  exact VJ h5
 have b7:val 4294967296 L<W*4294967296:=by
  rw [hv];have h2:val 4294967296 C<W*(x+1):=by rw [b0,eD];omega
  have h3:val 4294967296 C*p<W*(x+1)*p:=IU h2 hp;have h4:W*(x+1)*p≤W*M*p:=eZ _ (mS _ b9);rw [show W*4294967296=W*M*p by rw [hB,eQ,cP M p]];omega
 refine⟨hL.len_eq (B:=4294967296) (by decide) a5 ?_ (by rw [gN,←hW];exact b7),b6⟩;rw [←hW];have:W*1≤W*p:=mS _ hp;omega
def DivAt.begin {V J:Nat} (hJ:J+(m+1)=l+1) (hA:A.length=l) (b3:∀y∈A,y<4294967296) (a9:La.length=l+1) (a5:∀y∈La,y<4294967296) (b5:val 4294967296 La=val 4294967296 A*2^s) (hV:4294967296^m*2^s≤V):DivAt 4294967296 (val 4294967296 La) V J (m+1) La []:=by
 refine⟨by omega,a5,by simp,?_,by simp [val]⟩;have e:=lX 4294967296 (La.take J) (La.drop J);rw [pO,aX,oE (by omega)] at e;have h1:4294967296^J*val 4294967296 (La.drop J)≤val 4294967296 A*2^s:=by rw [←b5,e];exact Nat.le_add_left _ _
 have h2:=val_lt (B:=4294967296) b3;have hp:0<2^s:=kW (by decide);have h3:val 4294967296 A*2^s<4294967296^l*2^s:=by rw [←hA];exact IU h2 hp
 have h4:(4294967296:Nat)^l=4294967296^J*4294967296^m:=by rw [←IT,show J+m=l by omega]
 rw [h4,eQ] at h3;have h5:4294967296^J*val 4294967296 (La.drop J)<4294967296^J*(4294967296^m*2^s):=vJ h1 h3;exact aR (Nat.lt_of_mul_lt_mul_left h5) hV
def ZI {a c Q u:Nat} (hp:0<p) (h:a*p=Q*(c*p)+u) (hu:u<c*p):u/p=a%c:=by
 have hd:p ∣ u:=by
  have h1:p ∣ a*p:=Nat.dvd_mul_left _ _;have h2:p ∣ Q*(c*p):=⟨Q*c,by rw [←eQ,cP]⟩;rw [h] at h1;exact(Nat.dvd_add_right h2).1 h1
 obtain⟨t,rfl⟩:=hd;rw [Nat.mul_div_cancel_left _ hp];have ht:t<c:=by
  rw [cP p t] at hu;exact VJ hu
 have ha:a=Q*c+t:=by
  have:a*p=(Q*c+t)*p:=by rw [h,dP,eQ,cP p t]
  exact Nat.eq_of_mul_eq_mul_right hp this
 rw [ha,cP Q c,Nat.mul_add_mod,rF ht]
def XH (h:Trimmed L k) (hl:L.length=l):L.take k++(List.replicate l 0).drop k=L:=by
 conv=>rhs;rw [←pO k L]
 congr 1;rw [List.drop_replicate];have hz:=h.2.1;have hn:(L.drop k).length=l-k:=by rw [cW,hl]
 generalize L.drop k=D at*;exact(List.eq_replicate_iff.2 ⟨hn,hz⟩).symm
def WY (B n:Nat) (L:List Nat):val B (L++List.replicate n 0)=val B L:=by
 rw [lX,JW];simp
def YI (new:List Nat) (h:bW w g a0):bW (w.setRow g ((new.map fun x:Nat=>Value.int .u32 x).toArray)) g new:=by
 unfold bW at h ⊢;exact tF w g _ _ 175 (0,0) h
def Gp (w:Wo) (g a1 a3:Nat) (a:Addr) (a2 a4:Nat) (a0 cs:List Nat) (hR:bW w g a0) (hn:cs.length=Nat.min a2 a1) (a8:∀(j x:Nat),cs[j]?=some x→w.cell? (a.add j)=some (.int .u32 x)) (a6:cs.length≤a0.length):
  ∃w',(∀ty,(Builtin.copy_ #[43,43] ty #[.slice (some ⟨g,0,none⟩) a1 a3,.slice (some a) a2 a4]).run Tryz.prog w= .ok (goInt cs.length) w')∧bW w' g (cs++a0.drop cs.length)∧Only g w w':=by
 obtain⟨i0,hi,hz0,hz1,hz2⟩:=mQ FV;refine⟨w.setRow g (((cs++a0.drop cs.length).map fun x:Nat=>Value.int .u32 x).toArray),fun ty=>?_,YI _ hR,?_⟩
 ·have:=run_copy_row (P:=Tryz.prog) w 43 43 ty 175 g 0 a1 a3 a a2 a4 ((a0.map fun x:Nat=>Value.int .u32 x).toArray) 175 (cs.map fun x:Nat=>Value.int .u32 x) Tryz.underlying43 (by rw [hi];simp [hz1]) hR (by simpa using hn) (fun j v hv=>by
   rw [gO] at hv;obtain⟨x,hx,rfl⟩:=tG.1 hv;exact a8 j x hx) (by simpa using a6) (fun v hv=>by
   obtain⟨y,_,rfl⟩:=cL.1 hv;rfl)
  simpa [oF,VV] using this
 ·exact⟨rfl,rfl,rfl,by simp [World.setRow],fun k hk a7=>by simp [World.setRow,mY,fR a7]⟩
def Gq (w:Wo) (g gs k l:Nat) (La:List Nat) (a9:La.length=l) (hT:Trimmed La k) (hR:bW w g (List.replicate l 0)) (hS:bW w gs La):∃w',(∀ty,(Builtin.copy_ #[43,43] ty #[.slice (some ⟨g,0,none⟩) l l,.slice (some ⟨gs,0,none⟩) k l]).run Tryz.prog w= .ok (goInt k) w')∧bW w' g La∧Only g w w':=by
 have hk:=hT.1;have hl:(La.take k).length=k:=by rw [aX];omega
 obtain⟨w',h1,h2,h3⟩:=Gp w g l l ⟨gs,0,none⟩ k l (List.replicate l 0) (La.take k) hR (by rw [hl];exact(oE (by omega)).symm) (fun j x hx=>by
  have hj:j<k:=by have:=(aM.1 hx).1;omega
  rw [iY hj] at hx;have:=(hS.cell hx).1;rw [jI,bT];exact this) (by rw [hl,JF];omega)
 rw [hl] at h1 h2;rw [XH hT a9] at h2;exact⟨w',h1,h2,h3⟩
