/- Lemmas; no condition. -/
import Derived.Test.YtealgacfnbbgdaaGreatDoorAf
import Derived.Laws.CopyRow
set_option linter.all false
set_option maxHeartbeats 4000000
set_option maxRecDepth 100000
namespace Go.Proofs.YtealgacfnbbgdaaGreatDoor
open Go.RowKit Go.Big
variable {L C A cur La:List Nat} {c:Int} {w:Wo} {M g n v l m s B k:Nat}
def Ck (T d:Nat) (hT:T<18446744073709551616):IntKind.u64.wrap (Int.tdiv (T:Int) (d:Int))=((T/d:Nat):Int):=by
 have h:=Nat.div_le_self T d;show IntKind.u64.wrap ((T/d:Nat):Int)=_;generalize T/d=q at h ⊢;rw [wrap_u64];omega
def Ni (bu off bv a0 m d6 d7:Nat) (lo us hi vs:List Nat) (un:Nat) (hm:m<1073741824) (i0:un<4294967296) (a9:∀x∈us,x<4294967296) (a5:∀x∈vs,x<4294967296) (c9:∀x,vs[m+1]?=some x→0<x) (a7:lo.length=off) (i1:us.length=m+2) (f8:vs.length=m+2) (w:Wo) (hu:dP w bu (lo++us++un::hi)) (f5:bu≠bv)
  (hv:∀(j x:Nat),vs[j]?=some x→w.cell? ⟨bv,a0+j,none⟩=some (.int .u32 x)) (c3:val 4294967296 us+4294967296^(m+2)*un<4294967296*val 4294967296 vs):
  Cz 365 #[.slice (some ⟨bu,off,none⟩) (m+2+1) d6,.slice (some ⟨bv,a0,none⟩) (m+2) d7] w fun e w'=>∃(q:Nat) (es:List Nat),e= .returned (.int .u32 q)∧q<4294967296∧es.length=m+2∧(∀x∈es,x<4294967296)∧val 4294967296 us+4294967296^(m+2)*un=q*val 4294967296 vs+val 4294967296 es∧val 4294967296 es<val 4294967296 vs∧dP w' bu (lo++es++0::hi)∧Only bu w w':=by
 obtain⟨u1,h1⟩:∃x,us[m+1]?=some x:=⟨_,cE (by omega)⟩;obtain⟨u2,h2⟩:∃x,us[m]?=some x:=⟨_,cE (by omega)⟩;obtain⟨v1,h3⟩:∃x,vs[m+1]?=some x:=⟨_,cE (by omega)⟩;obtain⟨v2,h4⟩:∃x,vs[m]?=some x:=⟨_,cE (by omega)⟩;have c0:=(hu.cell (k:=off+(m+2)) (x:=un) (by rw [iP,iE (by omega),a7,GM,iE (by omega),i1,rQ];rfl)).1;have c1:=(hu.cell (k:=off+(m+1)) (x:=u1) (by rw [iP,iE (by omega),a7,GM,gM (by omega)];exact h1)).1;have c2:=(hu.cell (k:=off+m) (x:=u2) (by rw [iP,iE (by omega),a7,GM,gM (by omega)];exact h2)).1;have d1:=hv _ _ h3;have d2:=hv _ _ h4;have l4:IntKind.i64.wrap ((m:Int)+2)=(m:Int)+2:=by rw [eF];omega
 have l5:=ewr (i:=m) (by omega);have l6:IntKind.i64.wrap (m:Int)=(m:Int):=by rw [eF];omega
 have j5:(m:Int)+2<(m:Int)+2+1:=by omega
 have j6:(0:Int)≤(m:Int)+2:=by omega
 have j7:(0:Int)≤(m:Int)+1:=by omega
 have j8:(m:Int)+1<(m:Int)+2+1:=by omega
 have j9:(m:Int)+1<(m:Int)+2:=by omega
 have k0:(m:Int)<(m:Int)+2:=by omega
 have l0:(0:Int)≤(m:Int):=by omega
 have l1:(m:Int)<(m:Int)+2+1:=by omega
 have j2:=a9 u1 (bV h1);have h9:=a9 u2 (bV h2);have l3:=a5 v1 (bV h3);have i2:=a5 v2 (bV h4);have k1:IntKind.u64.wrap (un:Int)=un:=by rw [wrap_u64];omega
 have k2:IntKind.u64.wrap ((un:Int)*4294967296)=(un:Int)*4294967296:=by rw [wrap_u64];omega
 have k3:IntKind.i64.wrap ((m:Int)+2-1)=(m:Int)+1:=by rw [eF];omega
 have k4:IntKind.u64.wrap (u1:Int)=u1:=by rw [wrap_u64];omega
 have k5:=MQ un u1 i0 j2;have k6:IntKind.u64.wrap (v1:Int)=v1:=by rw [wrap_u64];omega
 have d0:=c9 v1 h3;have k7:¬((v1:Int)=0):=by omega
 have k8:((v1:Int)==0)=false:=by simp;omega
 clear c9;have k9:¬v1=0:=by omega
 obtain⟨tp,htp⟩:∃tp:Nat,tp=un*4294967296+u1:=⟨_,rfl⟩;have hT:(un:Int)*4294967296+(u1:Int)=(tp:Int):=by rw [htp];omega
 rw [hT] at k5;have j1:tp<18446744073709551616:=by omega
 obtain⟨g0,c7⟩:∃g0,g0=tp/v1:=⟨_,rfl⟩;obtain⟨r0,hr0⟩:∃r0,r0=tp%v1:=⟨_,rfl⟩;have ka:IntKind.u64.wrap ((tp:Int)/(v1:Int))=(g0:Int):=by
  rw [c7];exact Ck tp v1 j1
 have kb:Int.tmod (tp:Int) (v1:Int)=(r0:Int):=by
  rw [hr0];rfl
 have Agr:Aside (g0=tp/v1∧r0=tp%v1):=⟨c7,hr0⟩;clear c7 hr0;have Atp:=aside htp;clear htp hT;have kc:IntKind.i64.wrap ((m:Int)+2-2)=(m:Int):=by rw [eF];omega
 have kd:IntKind.u64.wrap (v2:Int)=v2:=by rw [wrap_u64];omega
 have ke:IntKind.u64.wrap (u2:Int)=u2:=by rw [wrap_u64];omega
 have l2:((m:Int)+2).toNat=m+2:=by omega
 have f7:((m:Int)+1).toNat=m+1:=by omega
 have a3:=aside3 hu hv c3;have a6:Aside (v1*4294967296^(m+1)+v2*4294967296^m+val 4294967296 (vs.take m)=val 4294967296 vs∧tp*4294967296^(m+1)+u2*4294967296^m+val 4294967296 (us.take m)=val 4294967296 us+4294967296^(m+2)*un):=by
  refine⟨(ON f8 h3 h4).symm,?_⟩;rw [ON (B:=4294967296) i1 h1 h2,Atp.o,eO,gK 4294967296 (m+1),dM (4294967296^(m+1)) 4294967296,dM _ un,←fH];omega
 clear h1 h2 h3 h4 hv hu c3;go_enter Tryz.func365,Tryz.ntmps365;go_wp2;refine lV 13 (by kernel_rfl) (by kernel_rfl) ?_;simp only [gL,iJ,gS,gB,lY]
 repeat (with_reducible refine kT (fun K hK=>?_);go_simp;with_reducible refine hK _ ?_;clear hK K)
 refine lW ?_;show wpList _ _ _ _ _ _;go_wp2;refine lV 17 (by kernel_rfl) (by kernel_rfl) ?_;simp only [gL,iJ,gS,gB,lY]
 repeat (with_reducible refine kT (fun K hK=>?_);go_simp;with_reducible refine hK _ ?_;clear hK K)
 refine lW ?_;show wpList _ _ _ _ _ _
 go_upto_block 0 with fail
 go_cut [7,8] from 46 to 81 (fun s7 s8 wc=>∃g r:Nat,s7= .int .u64 g∧s8= .int .u64 r∧Bz w wc∧g<4294967296∧Guess (v1*4294967296^(m+1)+v2*4294967296^m+val 4294967296 (vs.take m)) (tp*4294967296^(m+1)+u2*4294967296^m+val 4294967296 (us.take m)) g)
 case first=>
  have hP:(4294967296:Nat)^(m+1)=4294967296*4294967296^m:=by rw [gK,dM]
  have e3:val 4294967296 (us.take m)<4294967296^m:=by
   have:=val_lt (B:=4294967296) (a:=us.take m) fun x hx=>a9 x (lH hx)
   rwa [bT,show min m us.length=m by omega] at this
  have e4:val 4294967296 (vs.take m)<4294967296^m:=by
   have:=val_lt (B:=4294967296) (a:=vs.take m) fun x hx=>a5 x (lH hx)
   rwa [bT,show min m vs.length=m by omega] at this
  have d3:tp*4294967296^(m+1)+u2*4294967296^m+val 4294967296 (us.take m)<4294967296*(v1*4294967296^(m+1)+v2*4294967296^m+val 4294967296 (vs.take m)):=by rw [a6.o.1,a6.o.2];exact a3.o.2.2
  have AP:=aside hP;clear hP
  go_wp2_with fail
  go_loopw [7,8] (fun s7 s8 wr=>∃g r:Nat,s7= .int .u64 g∧s8= .int .u64 r∧Bz w wr∧Gue 4294967296 (4294967296^(m+1)) (4294967296^m) v1 v2 (val 4294967296 (vs.take m)) tp u2 (val 4294967296 (us.take m)) g r∧g<18446744073709551616∧r<4294967296) (fun s7 _ _=>(intOf s7).toNat)
  case atStart=>exact⟨g0,r0,rfl,rfl,⟨rfl,rfl,rfl,aA _,fun _ _=>rfl⟩,by rw [Agr.o.1,Agr.o.2];exact Gue.start AP.o d0 h9 e3,by have:=Agr.o.1;have:=Nat.div_le_self tp v1;omega,by have:=Agr.o.2;have:=nP tp d0;omega⟩
  case round=>
   obtain⟨g,r,rfl,rfl,hB,hG,hg64,hr64⟩:=hrel;have e0:wr.cell? ⟨bv,a0+(m+1),none⟩=some (.int .u32 v1):=(hB.cell (p:=⟨bv,a0+(m+1),none⟩) (tD d1)).trans d1;have e1:wr.cell? ⟨bv,a0+m,none⟩=some (.int .u32 v2):=(hB.cell (p:=⟨bv,a0+m,none⟩) (tD d2)).trans d2;have e2:wr.cell? ⟨bu,off+m,none⟩=some (.int .u32 u2):=(hB.cell (p:=⟨bu,off+m,none⟩) (tD c2)).trans c2;have b7:Bz w wr.drew:=hB.trans ⟨rfl,rfl,rfl,aA _,fun _ _=>rfl⟩
   by_cases h8:g<4294967296
   ·have hq:(g:Int)/4294967296=0:=by omega
    have f4:g*v2<18446744073709551616:=iV (tG (show g≤4294967295 by omega) (show v2≤4294967295 by omega)) (by decide);obtain⟨gv,hgv⟩:∃gv:Nat,gv=g*v2:=⟨_,rfl⟩;have m1:IntKind.u64.wrap ((g:Int)*(v2:Int))=(gv:Int):=by
     have:(g:Int)*(v2:Int)=(gv:Int):=by rw [hgv];simp
     rw [this,wrap_u64];omega
    obtain⟨rv,b2⟩:∃rv:Nat,rv=r*4294967296+u2:=⟨_,rfl⟩;have m2:IntKind.u64.wrap ((r:Int)*4294967296)=(r:Int)*4294967296:=by rw [wrap_u64];omega
    have m3:bits BinOp.or IntKind.u64 ((r:Int)*4294967296) (u2:Int)=(rv:Int):=by
     rw [MQ r u2 hr64 h9,b2];simp
    have Agv:=aside2 hgv b2;clear hgv b2 f4
    by_cases b5:rv<gv
    ·have j0:(rv:Int)<(gv:Int):=by omega
     have a1:=hG.less AP.o e3 d3 (.inr (by have:=Agv.o;omega));have i9:=a1.1;obtain⟨g1,hg1⟩:∃g1:Nat,g1=g-1:=⟨_,rfl⟩;have kg:IntKind.u64.wrap ((g:Int)-1)=(g1:Int):=by rw [wrap_u64];omega
     have kr:IntKind.u64.wrap ((r:Int)+(v1:Int))=(r:Int)+(v1:Int):=by rw [wrap_u64];omega
     have b0:=a1.2;rw [←hg1] at b0;have Ag1:=aside hg1;clear a1 hg1
     by_cases b2:r+v1<4294967296
     ·have f6:((r:Int)+(v1:Int))/4294967296=0:=by omega
      go_wp2;refine lV 22 (by kernel_rfl) (by kernel_rfl) ?_;simp only [gL,iJ,gS,gB,lY]
      repeat (with_reducible refine kT (fun K hK=>?_);go_simp;with_reducible refine hK _ ?_;clear hK K)
      refine lW ?_;show wpList _ _ _ _ _ _;go_wp2;exact⟨⟨g1,r+v1,rfl,by simp,b7,b0,by have:=Ag1.o;omega,b2⟩,by have:=Ag1.o;simp [intOf];omega⟩
     ·have f6:(0:Int)<((r:Int)+(v1:Int))/4294967296:=by omega
      have c4:=b0.breaks AP.o d0 i2 e4 d3 (by omega);go_wp2;refine lV 22 (by kernel_rfl) (by kernel_rfl) ?_;simp only [gL,iJ,gS,gB,lY]
      repeat (with_reducible refine kT (fun K hK=>?_);go_simp;with_reducible refine hK _ ?_;clear hK K)
      refine lW ?_;show wpList _ _ _ _ _ _;go_wp2
      go_meet
      exact⟨g1,r+v1,rfl,by simp,b7,c4.1,c4.2⟩
    ·have j0:¬(rv:Int)<(gv:Int):=by omega
     go_wp2;refine lV 22 (by kernel_rfl) (by kernel_rfl) ?_;simp only [gL,iJ,gS,gB,lY]
     repeat (with_reducible refine kT (fun K hK=>?_);go_simp;with_reducible refine hK _ ?_;clear hK K)
     refine lW ?_;show wpList _ _ _ _ _ _;go_wp2
     go_meet
     exact⟨g,r,rfl,rfl,b7,h8,hG.ends AP.o d0 e4 h8 (by have:=Agv.o;omega)⟩
   ·have hq:(0:Int)<(g:Int)/4294967296:=by omega
    have a1:=hG.less AP.o e3 d3 (.inl (by omega));have i9:=a1.1;obtain⟨g1,hg1⟩:∃g1:Nat,g1=g-1:=⟨_,rfl⟩;have kg:IntKind.u64.wrap ((g:Int)-1)=(g1:Int):=by rw [wrap_u64];omega
    have kr:IntKind.u64.wrap ((r:Int)+(v1:Int))=(r:Int)+(v1:Int):=by rw [wrap_u64];omega
    have b0:=a1.2;rw [←hg1] at b0;have Ag1:=aside hg1;clear a1 hg1
    by_cases b2:r+v1<4294967296
    ·have f6:((r:Int)+(v1:Int))/4294967296=0:=by omega
     go_wp2;refine lV 22 (by kernel_rfl) (by kernel_rfl) ?_;simp only [gL,iJ,gS,gB,lY]
     repeat (with_reducible refine kT (fun K hK=>?_);go_simp;with_reducible refine hK _ ?_;clear hK K)
     refine lW ?_;show wpList _ _ _ _ _ _;go_wp2;exact⟨⟨g1,r+v1,rfl,by simp,b7,b0,by have:=Ag1.o;omega,b2⟩,by have:=Ag1.o;simp [intOf];omega⟩
    ·have f6:(0:Int)<((r:Int)+(v1:Int))/4294967296:=by omega
     have c4:=b0.breaks AP.o d0 i2 e4 d3 (by omega);go_wp2;refine lV 22 (by kernel_rfl) (by kernel_rfl) ?_;simp only [gL,iJ,gS,gB,lY]
     repeat (with_reducible refine kT (fun K hK=>?_);go_simp;with_reducible refine hK _ ?_;clear hK K)
     refine lW ?_;show wpList _ _ _ _ _ _;go_wp2
     go_meet
     exact⟨g1,r+v1,rfl,by simp,b7,c4.1,c4.2⟩
 case rest=>
  obtain⟨g,r,rfl,rfl,hBc,hg32,hGs⟩:=hcut;rw [a6.o.1,a6.o.2] at hGs;obtain⟨wd,rfl⟩:=enr wc;have b9:dP wd bu (lo++us++un::hi):=(hBc.block bu (cV.1 a3.o.1).1).trans a3.o.1;have b6:∀(j x:Nat),vs[j]?=some x→wd.cell? ⟨bv,a0+j,none⟩=some (.int .u32 x):=fun j x hx=>(hBc.cell (p:=⟨bv,a0+j,none⟩) (tD (a3.o.2.1 j x hx))).trans (a3.o.2.1 j x hx)
  have i5:Only bu w wd:=Only.of_below hBc;have g9:=aside hGs;have h5:Aside (0<val 4294967296 vs):=by
   show 0<_;rw [←a6.o.1];have:1*1≤v1*4294967296^(m+1):=tG (by omega) (nN (by decide));omega
  have i6:=aside b9;clear hGs b9 c0 c1 c2 d1 d2 k2 k4 k5 k6 k7 k8 ka kb kd ke hBc
  go_wp2_with fail
  go_loopw [9,10,84] (fun s9 g5 j4 wr=>∃(k b c:Nat) (ds:List Nat),j4= .int .i64 k∧s9= .int .u64 b∧g5= .int .u64 c∧k≤m+2∧c<4294967296∧b≤1∧Aside (ds.length=k∧MulSub 4294967296 g (us.take k) (vs.take k) ds c b)∧dP wr bu (lo++ds++us.drop k++un::hi)∧Only bu wd wr) (fun _ _ s _=>m+2-(intOf s).toNat)
  case atStart=>exact⟨0,0,0,[],rfl,rfl,rfl,cJ _,by omega,by omega,⟨rfl,by simpa using MulSub.nil⟩,by simpa using i6.o,Only.refl _ _⟩
  case round=>
   obtain⟨k,b,c,ds,rfl,rfl,rfl,hk,hcB,hb1,hms,hR,hO⟩:=hrel
   by_cases b5:k<m+2
   ·obtain⟨x,hx⟩:∃x,us[k]?=some x:=⟨_,cE (by omega)⟩;obtain⟨y,hy⟩:∃y,vs[k]?=some y:=⟨_,cE (by omega)⟩;have d5:=a9 x (bV hx);have f9:=a5 y (bV hy);have cy:wr.cell? ⟨bv,a0+k,none⟩=some (.int .u32 y):=(hO.cell (p:=⟨bv,a0+k,none⟩) (tD (b6 _ _ hy)) (fO f5)).trans (b6 _ _ hy);have cx:=hR.cell (QJ (rest:=un::hi) a7 hms.o.1 hx);obtain⟨i4,cx2⟩:=cx;obtain⟨gy,hgy⟩:∃gy:Nat,gy=g*y:=⟨_,rfl⟩;have e9:gy≤4294967295*4294967295:=by rw [hgy];exact tG (by omega) (by omega)
    obtain⟨cg,hcg⟩:∃cg:Nat,cg=c+gy:=⟨_,rfl⟩;obtain⟨lw,hlw⟩:∃lw:Nat,lw=cg%4294967296:=⟨_,rfl⟩;obtain⟨c',hc'⟩:∃c':Nat,c'=cg/4294967296:=⟨_,rfl⟩;obtain⟨b',d,hb',hdB,he,t1,t2,q,f7,ht2,hq,hq1,hd32⟩:=OZ x lw b d5 (by omega) hb1;have m1:IntKind.u64.wrap (y:Int)=(y:Int):=by rw [wrap_u64];omega
    have m2:IntKind.u64.wrap ((g:Int)*(y:Int))=(gy:Int):=by
     have e:(g:Int)*(y:Int)=(gy:Int):=by rw [hgy];simp
     rw [e,wrap_u64];omega
    have m3:IntKind.u64.wrap ((c:Int)+(gy:Int))=(cg:Int):=by rw [wrap_u64];omega
    have m4:IntKind.u64.wrap (x:Int)=(x:Int):=by rw [wrap_u64];omega
    have m5:IntKind.u32.wrap (cg:Int)=(lw:Int):=by rw [nS];omega
    have m6:IntKind.u64.wrap (lw:Int)=(lw:Int):=by rw [wrap_u64];omega
    have m7:(cg:Int)/4294967296=(c':Int):=by omega
    have f0:(k:Int)<(m:Int)+2:=by omega
    have f1:(0:Int)≤(k:Int):=by omega
    have f2:(k:Int)<(m:Int)+2+1:=by omega
    have j3:=ewr (i:=k) (by omega);have f3:Aside ((ds++ [d]).length=k+1∧MulSub 4294967296 g (us.take (k+1)) (vs.take (k+1)) (ds++ [d]) c' b'):=by
     refine⟨by rw [aV,hms.o.1];rfl,?_⟩;rw [qJ hx,qJ hy,hc',hcg,hgy];refine MulSub.snoc hms.o.2 hdB hb' ?_;rw [he,hlw,hcg,hgy]
    have d9:dP (wr.setCell ⟨bu,off+k,none⟩ (.int .u32 d)) bu (lo++(ds++ [d])++us.drop (k+1)++un::hi):=by
     have:=hR.set (k:=off+k) (d:=d)
     rwa [QI a7 hms.o.1 hx] at this
    have d8:=hO.trans (Only.set wr bu (off+k) (.int .u32 d));have e7:Aside (c'<4294967296):=by show _<_;omega
    have e5:=aside hb';have c8:=aside b5;clear hgy hcg hlw hc' hx hy d5 f9 he hb' hdB hR hO b5 e9
    go_wp2_with fail
    exact⟨⟨k+1,b',c',ds++ [d],by simp,rfl,rfl,by have:=c8.o;omega,e7.o,e5.o,f3,d9,d8⟩,by have:=c8.o;simp [intOf];omega⟩
   ·obtain rfl:k=m+2:=by omega
    obtain⟨c5,hM⟩:=hms.o;rw [iW (by omega),iW (by omega)] at hM;have b4:dP wr bu (lo++ds++un::hi):=by
     rw [GY (by omega),yU] at hR;exact hR
    obtain⟨g8,cn2⟩:=b4.cell (DC (d:=0) a7 c5).1;obtain⟨g7,dn,hb'',hdnB,hen,t1,t2,q,f7,ht2,hq,hq1,hd32⟩:=OZ un c b i0 hcB hb1;have a4:=b4.set (k:=off+(m+2)) (d:=dn);rw [(DC (d:=dn) a7 c5).2] at a4;have b8:=(i5.trans hO).trans (Only.set wr bu (off+(m+2)) (.int .u32 dn));have b1:=hO.trans (Only.set wr bu (off+(m+2)) (.int .u32 dn));have m4:IntKind.u64.wrap (un:Int)=(un:Int):=by rw [wrap_u64];omega
    have mg:IntKind.u32.wrap (g:Int)=(g:Int):=by rw [nS];omega
    have b3:=aside2 hM c5;have h0:val 4294967296 us+4294967296^(m+2)*un=val 4294967296 us+4294967296^(m+2)*un:=rfl
    by_cases i7:g7=0
    ·subst i7;obtain⟨g1,g2,g3⟩:=Kx (B:=4294967296) (n:=m+2) (un:=un) rfl f8.symm rfl a5 hM g9.o h5.o (by omega);have h7:=hM.spec.2.2.2.1;obtain rfl:dn=0:=by omega
     have a2:=aside3 g1 g2 h7;clear hM c5 hR hen g1 g2 g3 h7 h0 b6 hms
     go_wp2_with fail
     go_ret
     exact⟨g,ds,rfl,hg32,b3.o.2,a2.o.2.2,a2.o.1,a2.o.2.1,a4,b8⟩
    ·obtain rfl:g7=1:=by omega
     have h6:Aside (un<c+b∧un+1*4294967296=dn+c+b):=⟨by omega,hen⟩;clear hen h0 hms hR hM c5
     go_upto_block 4 with fail
     have a8:=aside2 a4 b8;obtain⟨we,hwe⟩:=enm (wr.setCell ⟨bu,off+(m+2),none⟩ (.int .u32 dn));rw [hwe] at a8 b1 ⊢;have i3:∀(j x:Nat),vs[j]?=some x→we.cell? ⟨bv,a0+j,none⟩=some (.int .u32 x):=fun j x hx=>(b1.cell (p:=⟨bv,a0+j,none⟩) (tD (b6 _ _ hx)) (fO f5)).trans (b6 _ _ hx)
     clear hwe a4 b8 b1 b4 hO b6 g8 cn2 f7 ht2 hq hq1 hd32
     go_wp2_with fail
     go_loopw [10,140] (fun g5 g6 wr=>∃(k ca:Nat) (es:List Nat),g6= .int .i64 k∧g5= .int .u64 ca∧k≤m+2∧ca≤1∧Aside (es.length=k∧AddD 4294967296 (ds.take k) (vs.take k) es ca)∧dP wr bu (lo++es++ds.drop k++dn::hi)∧Only bu we wr) (fun _ s _=>m+2-(intOf s).toNat)
     case atStart=>exact⟨0,0,[],rfl,rfl,cJ _,by omega,⟨rfl,by simpa using AddD.nil⟩,by simpa using a8.o.1,Only.refl _ _⟩
     case round=>
      obtain⟨k,ca,es,rfl,rfl,hk,hca,hes,hR,hO⟩:=hrel
      by_cases b5:k<m+2
      ·obtain⟨x,hx⟩:∃x,ds[k]?=some x:=⟨_,cE (by have:=b3.o.2;omega)⟩;obtain⟨y,hy⟩:∃y,vs[k]?=some y:=⟨_,cE (by omega)⟩;have d5:=b3.o.1.spec.2.2.2.1 x (bV hx);have f9:=a5 y (bV hy);have cy:wr.cell? ⟨bv,a0+k,none⟩=some (.int .u32 y):=(hO.cell (p:=⟨bv,a0+k,none⟩) (tD (i3 _ _ hy)) (fO f5)).trans (i3 _ _ hy);obtain⟨i4,cx2⟩:=hR.cell (QJ (rest:=dn::hi) a7 hes.o.1 hx);obtain⟨sm,hsm⟩:∃sm:Nat,sm=x+y+ca:=⟨_,rfl⟩;obtain⟨d,hd⟩:∃d:Nat,d=sm%4294967296:=⟨_,rfl⟩;obtain⟨c',hc'⟩:∃c':Nat,c'=sm/4294967296:=⟨_,rfl⟩;have m1:IntKind.u64.wrap (y:Int)=(y:Int):=by rw [wrap_u64];omega
       have m2:IntKind.u64.wrap (x:Int)=(x:Int):=by rw [wrap_u64];omega
       have m3:IntKind.u64.wrap ((x:Int)+(y:Int))=(x:Int)+(y:Int):=by rw [wrap_u64];omega
       have m5:IntKind.u64.wrap ((ca:Int)+((x:Int)+(y:Int)))=(sm:Int):=by rw [wrap_u64];omega
       have m6:IntKind.u32.wrap (sm:Int)=(d:Int):=by rw [nS];omega
       have m7:(sm:Int)/4294967296=(c':Int):=by omega
       have f0:(k:Int)<(m:Int)+2:=by omega
       have f1:(0:Int)≤(k:Int):=by omega
       have f2:(k:Int)<(m:Int)+2+1:=by omega
       have j3:=ewr (i:=k) (by omega);have e8:Aside ((es++ [d]).length=k+1∧AddD 4294967296 (ds.take (k+1)) (vs.take (k+1)) (es++ [d]) c'):=by
        refine⟨by rw [aV,hes.o.1];rfl,?_⟩;rw [qJ hx,qJ hy];exact AddD.snoc hes.o.2 (by omega) (by omega)
       have b9:dP wr.drew bu (lo++es++ds.drop k++dn::hi):=hR;have d9:dP (wr.drew.setCell ⟨bu,off+k,none⟩ (.int .u32 d)) bu (lo++(es++ [d])++ds.drop (k+1)++dn::hi):=by
        have:=b9.set (k:=off+k) (d:=d)
        rwa [QI a7 hes.o.1 hx] at this
       have d8:=(hO.trans (Only.drew bu wr)).trans (Only.set wr.drew bu (off+k) (.int .u32 d));have e6:Aside (c'≤1):=by show _≤_;omega
       have c8:=aside b5;clear hsm hd hc' hx hy d5 f9 hR hO b5 hca b9
       go_wp2_with fail
       refine lV 13 (by kernel_rfl) (by kernel_rfl) ?_;simp only [gL,iJ,gS,gB,lY]
       repeat (with_reducible refine kT (fun K hK=>?_);go_simp;with_reducible refine hK _ ?_;clear hK K)
       refine lW ?_;show wpList _ _ _ _ _ _
       go_wp2_with fail
       refine⟨?_,?measure⟩
       ·repeat with_reducible apply Exists.intro
        refine⟨?rel,rfl⟩;exact⟨k+1,c',es++ [d],by simp,rfl,by have:=c8.o;omega,e6.o,e8,d9,d8⟩
       case measure=>
        show m+2-((k:Int)+1).toNat<m+2-(k:Int).toNat;have:=c8.o;omega
      ·obtain rfl:k=m+2:=by omega
       obtain⟨d4,hA⟩:=hes.o;rw [iW (by have:=b3.o.2;omega),iW (by omega)] at hA;have b4:dP wr bu (lo++es++dn::hi):=by
        rw [GY (by have:=b3.o.2;omega),yU] at hR;exact hR
       obtain⟨c7,g1,g2,g3,g4⟩:=Lc (B:=4294967296) (n:=m+2) (un:=un) (by decide) rfl f8.symm rfl a5 b3.o.1 g9.o h5.o h6.o.1 hA;subst g3;have i8:dn=4294967295:=by have:=h6.o.2;omega
       subst i8;have c6:=hA.spec.2.2.1;obtain⟨g8,cn2⟩:=b4.cell (DC (d:=0) a7 d4).1;have a4:=b4.set (k:=off+(m+2)) (d:=0);rw [(DC (d:=0) a7 d4).2] at a4;have b8:=(a8.o.2.trans hO).trans (Only.set wr bu (off+(m+2)) (.int .u32 (0:Nat)));obtain⟨gq,hgq⟩:∃gq:Nat,gq=g-1:=⟨_,rfl⟩;have m6:IntKind.u64.wrap ((g:Int)-1)=(gq:Int):=by rw [wrap_u64];omega
       have m7:IntKind.u32.wrap (gq:Int)=(gq:Int):=by rw [nS];omega
       have a2:Aside (gq<4294967296∧es.length=m+2∧(∀x∈es,x<4294967296)∧val 4294967296 us+4294967296^(m+2)*un=gq*val 4294967296 vs+val 4294967296 es∧val 4294967296 es<val 4294967296 vs):=⟨by omega,d4,c6,by rw [hgq];exact g1,g2⟩;clear hA d4 hR g1 g2 g4 c6 c7 hgq hO hes
       go_wp2_with fail
       go_ret
       exact⟨gq,es,rfl,a2.o.1,a2.o.2.1,a2.o.2.2.1,a2.o.2.2.2.1,a2.o.2.2.2.2,a4,b8⟩
def NoZ.len_eq (hB:1<B) (h:NoZ L) (hd:∀x∈L,x<B) (h1:B^M≤Go.Big.val B L) (h2:Go.Big.val B L<B^(M+1)):L.length=M+1:=by
 have a6:L≠ []:=by
  rintro rfl;have:0<B^M:=nN (by omega);simp [Go.Big.val] at h1;omega
 have h3:=h.pos (B:=B) (by omega) a6;have h4:=Go.Big.val_lt hd;have h5:=(CD hB).1 (iV h1 h4);have h6:=(CD hB).1 (iV h3 h2);omega
def Eb {x:Nat} (hs:s<32) (hC:C.length=m+1) (b3:∀y∈C,y<4294967296) (hx:C[m]?=some x) (b7:0<x) (b1:x*2^s<4294967296) (hL:NoZ L) (a4:∀y∈L,y<4294967296) (hv:val 4294967296 L=val 4294967296 C*2^s):L.length=m+1∧4294967296^m*2^s≤val 4294967296 L:=by
 have e:C=C.take m++ [x]:=by rw [←qJ hx,iW (by omega)]
 have hl:(C.take m).length=m:=by rw [bT];omega
 have b0:=val_lt (a:=C.take m) (B:=4294967296) fun y hy=>b3 y (lH hy)
 rw [hl] at b0;have a9:val 4294967296 C=val 4294967296 (C.take m)+4294967296^m*x:=by
  conv=>lhs;rw [e]
  rw [kO,hl]
 have hp:0<2^s:=nN (by decide);obtain⟨p,hpd⟩:∃p,p=2^s:=⟨_,rfl⟩;obtain⟨M,hM⟩:∃M,M=2^(32-s):=⟨_,rfl⟩;have hB:4294967296=p*M:=by rw [hpd,hM];exact DM hs
 obtain⟨W,hW⟩:∃W,W=(4294967296:Nat)^m:=⟨_,rfl⟩;rw [←hpd] at b1 hp hv ⊢;rw [←hW] at b0 a9 ⊢;have h1:W*1≤W*x:=nO _ b7;have b5:W*p≤val 4294967296 L:=by
  rw [hv];exact fP _ (by omega)
 have b8:x+1≤M:=by
  have h5:x*p<M*p:=by rw [dM M p,←hB];exact b1
  exact Ab h5
 have b6:val 4294967296 L<W*4294967296:=by
  rw [hv];have h2:val 4294967296 C<W*(x+1):=by rw [a9,eM];omega
  have h3:val 4294967296 C*p<W*(x+1)*p:=NM h2 hp;have h4:W*(x+1)*p≤W*M*p:=fP _ (nO _ b8);rw [show W*4294967296=W*M*p by rw [hB,fH,dM M p]];omega
 refine⟨hL.len_eq (B:=4294967296) (by decide) a4 ?_ (by rw [gK,←hW];exact b6),b5⟩;rw [←hW];have:W*1≤W*p:=nO _ hp;omega
def DivAt.begin {V J:Nat} (hJ:J+(m+1)=l+1) (hA:A.length=l) (b2:∀y∈A,y<4294967296) (a8:La.length=l+1) (a4:∀y∈La,y<4294967296) (b4:val 4294967296 La=val 4294967296 A*2^s) (hV:4294967296^m*2^s≤V):DivAt 4294967296 (val 4294967296 La) V J (m+1) La []:=by
 refine⟨by omega,a4,by simp,?_,by simp [val]⟩;have e:=oO 4294967296 (La.take J) (La.drop J);rw [rS,bT,CF (by omega)] at e;have h1:4294967296^J*val 4294967296 (La.drop J)≤val 4294967296 A*2^s:=by rw [←b4,e];exact Nat.le_add_left _ _
 have h2:=val_lt (B:=4294967296) b2;have hp:0<2^s:=nN (by decide);have h3:val 4294967296 A*2^s<4294967296^l*2^s:=by rw [←hA];exact NM h2 hp
 have h4:(4294967296:Nat)^l=4294967296^J*4294967296^m:=by rw [←GI,show J+m=l by omega]
 rw [h4,fH] at h3;have h5:4294967296^J*val 4294967296 (La.drop J)<4294967296^J*(4294967296^m*2^s):=iV h1 h3;exact eE (Nat.lt_of_mul_lt_mul_left h5) hV
def Gd {a c p Q u:Nat} (hp:0<p) (h:a*p=Q*(c*p)+u) (hu:u<c*p):u/p=a%c:=by
 have hd:p ∣ u:=by
  have h1:p ∣ a*p:=Nat.dvd_mul_left _ _;have h2:p ∣ Q*(c*p):=⟨Q*c,by rw [←fH,dM]⟩;rw [h] at h1;exact(Nat.dvd_add_right h2).1 h1
 obtain⟨t,rfl⟩:=hd;rw [Nat.mul_div_cancel_left _ hp];have ht:t<c:=by
  rw [dM p t] at hu;exact Ab hu
 have ha:a=Q*c+t:=by
  have:a*p=(Q*c+t)*p:=by rw [h,eO,fH,dM p t]
  exact Nat.eq_of_mul_eq_mul_right hp this
 rw [ha,dM Q c,ZX,tH ht]
def Cg (h:nM L k) (hl:L.length=l):L.take k++(List.replicate l 0).drop k=L:=by
 conv=>rhs;rw [←rS k L]
 congr 1;rw [List.drop_replicate];have hz:=h.2.1;have hn:(L.drop k).length=l-k:=by rw [fD,hl]
 generalize L.drop k=D at*;exact(List.eq_replicate_iff.2 ⟨hn,hz⟩).symm
def Bt (B n:Nat) (L:List Nat):val B (L++List.replicate n 0)=val B L:=by
 rw [oO,HK];simp
def Ee (new:List Nat) (h:dP w g cur):dP (w.setRow g ((new.map fun x:Nat=>Value.int .u32 x).toArray)) g new:=by
 unfold dP at h ⊢;exact setRow_heap w g _ _ 83 (0,0) h
def Nu (w:Wo) (g a0 a2:Nat) (a:Addr) (a1 a3:Nat) (cur cs:List Nat) (hR:dP w g cur) (hn:cs.length=Nat.min a1 a0) (a7:∀(j x:Nat),cs[j]?=some x→w.cell? (a.add j)=some (.int .u32 x)) (a5:cs.length≤cur.length):
  ∃w',(∀ty,(Builtin.copy_ #[22,22] ty #[.slice (some ⟨g,0,none⟩) a0 a2,.slice (some a) a1 a3]).run Tryz.prog w= .ok (goInt cs.length) w')∧dP w' g (cs++cur.drop cs.length)∧Only g w w':=by
 obtain⟨i0,hi,hz0,hz1,hz2⟩:=pI KH;refine⟨w.setRow g (((cs++cur.drop cs.length).map fun x:Nat=>Value.int .u32 x).toArray),fun ty=>?_,Ee _ hR,?_⟩
 ·have:=run_copy_row (P:=Tryz.prog) w 22 22 ty 83 g 0 a0 a2 a a1 a3 ((cur.map fun x:Nat=>Value.int .u32 x).toArray) 83 (cs.map fun x:Nat=>Value.int .u32 x) Tryz.underlying22 (by rw [hi];simp [hz1]) hR (by simpa using hn) (fun j v hv=>by
   rw [jO] at hv;obtain⟨x,hx,rfl⟩:=wJ.1 hv;exact a7 j x hx) (by simpa using a5) (fun v hv=>by
   obtain⟨y,_,rfl⟩:=gF.1 hv;rfl)
  simpa [pM,List.map_drop] using this
 ·exact⟨rfl,rfl,rfl,by simp [World.setRow],fun k hk a6=>by simp [World.setRow,rW,fO a6]⟩
def Nv (w:Wo) (g gs k l:Nat) (La:List Nat) (a8:La.length=l) (hT:nM La k) (hR:dP w g (List.replicate l 0)) (hS:dP w gs La):∃w',(∀ty,(Builtin.copy_ #[22,22] ty #[.slice (some ⟨g,0,none⟩) l l,.slice (some ⟨gs,0,none⟩) k l]).run Tryz.prog w= .ok (goInt k) w')∧dP w' g La∧Only g w w':=by
 have hk:=hT.1;have hl:(La.take k).length=k:=by rw [bT];omega
 obtain⟨w',h1,h2,h3⟩:=Nu w g l l ⟨gs,0,none⟩ k l (List.replicate l 0) (La.take k) hR (by rw [hl];exact(CF (by omega)).symm) (fun j x hx=>by
  have hj:j<k:=by have:=(aZ.1 hx).1;omega
  rw [jN hj] at hx;have:=(hS.cell hx).1;rw [qH,dH];exact this) (by rw [hl,GT];omega)
 rw [hl] at h1 h2;rw [Cg hT a8] at h2;exact⟨w',h1,h2,h3⟩
def CmpD.lt (h:CmpD A C c) (hA:NoZ A) (hC:NoZ C) (b7:∀y∈A,y<4294967296) (b8:∀y∈C,y<4294967296) (c2:val 4294967296 A<val 4294967296 C):c= -1:=by
 rcases h with⟨_,h⟩|⟨h,_⟩|⟨hl,⟨_,h⟩|⟨h,_⟩|⟨_,h⟩⟩
 ·exact h
 ·have:=NoZ.len_le (B:=4294967296) (by decide) hA b8 (by omega);omega
 ·subst h;omega
 ·exact h
 ·omega
def CmpD.ge (h:CmpD A C c) (hA:NoZ A) (hC:NoZ C) (b7:∀y∈A,y<4294967296) (b8:∀y∈C,y<4294967296) (b2:val 4294967296 C≤val 4294967296 A):0≤c:=by
 rcases h with⟨h,_⟩|⟨_,h⟩|⟨hl,⟨h,_⟩|⟨h,h2⟩|⟨h,_⟩⟩
 ·have:=NoZ.len_le (B:=4294967296) (by decide) hC b7 b2;omega
 ·omega
 ·omega
 ·omega
 ·omega
def Nf (a1 a2:Option Addr) (a0 a6 a4 a5 n:Nat) (A C:List Nat) (a7:A.length=a0) (c7:C.length=a6) (a8:a0≤500000) (a9:a6≤500000) (w:Wo) (hn:n≤w.heap.size) (h1:dL n w a1 A) (h2:dL n w a2 C) (hA:NoZ A) (hC:NoZ C) (c2:val 4294967296 A<val 4294967296 C):
  Cz 324 #[.slice a1 a0 a4,.slice a2 a6 a5] w fun e w'=>∃q r,e= .returned (.tuple #[q,r])∧NatL w'.heap.size w' r (val 4294967296 A%val 4294967296 C)∧Bz w w':=by
 have b1:=LW a1 a2 a0 a6 a4 a5 n A C a7 c7 (by omega) (by omega) w hn h1 h2;have c6:∀w2,Bz w w2→_:=fun w2 hb=>vJ (.slice a1 a0 a4) n A (by omega) w2 (aE hn hb.size) ⟨a1,a4,by rw [a7],h1.below hb hn⟩
 have hF:=aside3 hA hC c2;have b3:=h1.1;have b4:=h2.1;go_enter Tryz.func324,Tryz.ntmps324
 go_wp2_with first|(go_at_call 360;with_reducible refine b1.mono ?_;rintro e w1 ⟨c,rfl,hc,a8⟩;obtain rfl:=hc.lt hF.o.1 hF.o.2.1 b3 b4 hF.o.2.2;have b5:=c6 w1 a8)|(go_at_call 46;with_reducible refine b5.mono ?_;rintro e w' ⟨sv,rfl,⟨a3,c3,rfl,hL⟩,a9⟩)
 go_ret2
 refine⟨_,_,rfl,?_,a8.trans (a9.mono a8.size)⟩;rw [tH hF.o.2.2];exact⟨a3,A,c3,by rw [a7];rfl,hL.toAt fun k hk=>hk.2,hF.o.1,rfl⟩
def Nc (a1 a2:Option Addr) (a0 a4 a5 n d:Nat) (A:List Nat) (a7:A.length=a0) (a8:a0≤500000) (w:Wo) (hn:n≤w.heap.size) (h1:dL n w a1 A) (h2:dL n w a2 [d]) (hA:NoZ A) (hC:NoZ [d]) (b2:d≤val 4294967296 A):
  Cz 324 #[.slice a1 a0 a4,.slice a2 1 a5] w fun e w'=>∃q r,e= .returned (.tuple #[q,r])∧NatL w'.heap.size w' r (val 4294967296 A%d)∧Bz w w':=by
 have b1:=LW a1 a2 a0 1 a4 a5 n A [d] a7 rfl (by omega) (by omega) w hn h1 h2;have b9:0<d:=by
  have:=hC d rfl;omega
 obtain⟨b,off,rfl,hbn,hdB,hcd⟩:=h2.get (k:=0) rfl;have c1:val 4294967296 [d]=d:=by simp [val]
 have hF:Aside (NoZ A∧NoZ [d]∧val 4294967296 [d]≤val 4294967296 A):=⟨hA,hC,by rw [c1];exact b2⟩;have c0:∀w2,Bz w w2→_:=fun w2 hb=>Nb a1 a0 a4 n d A a7 (by omega) b9 hdB w2 (aE hn hb.size) (h1.below hb hn)
 have b0:∀w2,Bz w w2→w2.cell? ⟨b,off,none⟩=some (.int .u32 d):=fun w2 hb=>(hb.cell (p:=⟨b,off,none⟩) (by show b<_;omega)).trans (by simpa using hcd)
 have b3:=h1.1;have b4:=h2.1;clear c1 hA hC b2;go_enter Tryz.func324,Tryz.ntmps324
 go_upto_region 4 with first|(go_at_call 360;with_reducible refine b1.mono ?_;rintro e w1 ⟨c,rfl,hc,hb1'⟩;have c5:=hc.ge hF.o.1 hF.o.2.1 b3 b4 hF.o.2.2;have d0:¬c<0:=Int.not_lt.2 c5)
 have b6:=c0 w1 hb1';have k1:=b0 w1 hb1';clear c0 b0 b1 hc
 go_upto_region 5 with first|(go_at_call 361;(with_reducible refine b6.mono ?_);rintro e w2 ⟨q,r,rfl,hr,hq,a9⟩;have c4:Aside (r=val 4294967296 A%d):=hr;clear hr)
 have c9:r<4294967296:=by rw [c4.o];exact NP (nP _ b9) hdB
 have m1:IntKind.u64.wrap (r:Int)=(r:Int):=by rw [wrap_u64];omega
 have c8:=Ik r c9 w2
 go_wp2_with first|(go_at_call 362;with_reducible refine c8.mono ?_;rintro e w3 ⟨r3,rfl,hr3,hb3⟩)
 go_ret2
 refine⟨_,_,rfl,?_,(hb1'.trans (a9.mono hb1'.size)).trans (hb3.mono (aE hb1'.size a9.size))⟩;rw [←c4.o];exact hr3
def Nd (a1 a2:Option Addr) (a0 m b1 b2 n:Nat) (A C:List Nat) (f3:A.length=a0) (e6:C.length=m+2) (b0:a0≤500000) (w:Wo) (hn:n≤w.heap.size) (h1:dL n w a1 A) (h2:dL n w a2 C) (hA:NoZ A) (hC:NoZ C) (f2:val 4294967296 C≤val 4294967296 A):
  Cz 324 #[.slice a1 a0 b1,.slice a2 (m+2) b2] w fun e w'=>∃q r,e= .returned (.tuple #[q,r])∧NatL w'.heap.size w' r (val 4294967296 A%val 4294967296 C)∧Bz w w':=by
 have e0:=h1.1;have e7:=h2.1;have c9:m+2≤a0:=by
  have:=NoZ.len_le (B:=4294967296) (by decide) hC e0 f2;omega
 obtain⟨jq,hjq⟩:∃jq,jq+(m+2)=a0+1:=⟨a0+1-(m+2),by omega⟩;have g6:=LW a1 a2 a0 (m+2) b1 b2 n A C f3 e6 (by omega) (by omega) w hn h1 h2;obtain⟨x,hx⟩:∃x,C[m+1]?=some x:=⟨_,cE (by omega)⟩;have i6:0<x:=by
  have:=hC x (by rw [wN,e6];exact hx);omega
 obtain⟨b,off,rfl,hbn,hxB,hcx⟩:=h2.get hx;have hF:=aside3 hA hC f2;have k0:IntKind.i64.wrap ((m:Int)+2-1)=(m:Int)+1:=by rw [eF];omega
 have l4:=ewr (i:=a0) (by omega);have k9:(m:Int)+1<(m:Int)+2:=by omega
 have l0:(0:Int)≤(m:Int)+1:=by omega
 have j6:((m:Int)+2==1)=false:=by simp;omega
 have hJ:=aside2 hjq c9;clear hA hC f2 c9 hjq;go_enter Tryz.func324,Tryz.ntmps324
 go_upto_region 6 with first|(go_at_call 360;with_reducible refine g6.mono ?_;rintro e w1 ⟨c,rfl,hc,hb1'⟩;have j4:=hc.ge hF.o.1 hF.o.2.1 e0 e7 hF.o.2.2;have k7:¬c<0:=Int.not_lt.2 j4)
 have f1:w1.cell? ⟨b,off+(m+1),none⟩=some (.int .u32 x):=(hb1'.cell (p:=⟨b,off+(m+1),none⟩) (by show b<_;omega)).trans hcx;have g8:=Jl x i6 hxB w1;clear g6 hc hcx
 go_upto_region 7 with first|(go_at_call 363;with_reducible refine g8.mono ?_;rintro e wz ⟨s,rfl,hs,hxs,ez⟩;obtain rfl:=ez.symm)
 have b0:=hb1';have i7:=h1.below b0 hn;have g2:=h2.below b0 hn;have g9:n≤w1.heap.size:=aE hn b0.size;have h7:=PP (some ⟨b,off,none⟩) (m+2) b2 n s C e6 (by have:=hJ.o;omega) hs (by omega) e7 w1 g9 g2;have h6:=aside hxs;clear g8 hxs f1 k0
 go_upto_region 8 with first|(go_at_call 364;(with_reducible refine h7.mono ?_);rintro e w2 ⟨L,k,rfl,hL1,hL2,hL3,hL4,hL5,hb2⟩)
 obtain⟨e5,hVge⟩:=Eb (m:=m+1) hs e6 e7 hx i6 h6.o hL4.noZ (fun y hy=>hL2 y (lH hy)) (hL4.val.trans hL3);obtain rfl:k=m+2:=by have:=hL4.1;rw [bT] at e5;omega
 obtain⟨vs,hvs⟩:∃vs,vs=L.take (m+2):=⟨_,rfl⟩;rw [←hvs] at e5 hVge;have d8:val 4294967296 vs=val 4294967296 C*2^s:=by rw [hvs];exact hL4.val.trans hL3
 have g1:∀y∈vs,y<4294967296:=fun y hy=>hL2 y (lH (hvs▸hy))
 have d9:NoZ vs:=hvs▸hL4.noZ;have g0:∀(j y:Nat),vs[j]?=some y→w2.cell? ⟨w1.heap.size,0+j,none⟩=some (.int .u32 y):=fun j y hy=>by
  have hj:=(aZ.1 hy).1;rw [dH];refine(hL5.cell ?_).1;rw [hvs,jN (by omega)] at hy;exact hy
 have b8:=aside4 e5 hVge d8 d9;obtain⟨bv,hbv⟩:∃bv,bv=w1.heap.size:=⟨_,rfl⟩;rw [←hbv] at g0 ⊢;have c8:bv<w2.heap.size:=hbv▸hL5.lt;have j3:w.heap.size≤bv:=hbv▸b0.size;have e3:Bz w w2:=b0.trans (hb2.mono b0.size);obtain⟨w3,hw3⟩:=enm (w2.alloc (qI (a0+1)));have mk:(Instr.makeSlice 22 (.int .i64 ((a0:Int)+1)) (.int .i64 ((a0:Int)+1))).run Tryz.prog w2=_:=zV (a0+1) (by omega) w2;have c3:dP w3 w2.heap.size (List.replicate (a0+1) 0):=hw3▸yX w2 _;have f0:Bz w2 w3:=hw3▸yZ w2 _;have c2:Bz w w3:=e3.trans (f0.mono e3.size);have b9:=h1.below c2 hn;have d2:=PP a1 a0 b1 n s A f3 (by omega) hs (by have:=hJ.o;omega) e0 w3 (aE hn c2.size) b9;clear hL1 hL2 hL3 hL4 hL5 hvs e5 hVge d8 d9 h7 hbv i7 g2 g9 hx h6 hb2 b0;clear b9
 go_upto_region 9 with fail
 clear mk hw3;obtain⟨bo,hbo⟩:∃bo,bo=w2.heap.size:=⟨_,rfl⟩;rw [←hbo] at c3 c8 ⊢;have f4:w.heap.size≤bo:=hbo▸e3.size;have f5:bv≠bo:=by omega
 have i3:∀(j y:Nat),vs[j]?=some y→w3.cell? ⟨bv,0+j,none⟩=some (.int .u32 y):=fun j y hy=>(f0.cell (p:=⟨bv,0+j,none⟩) (by show bv<_;omega)).trans (g0 j y hy)
 have b6:bv<w3.heap.size:=by have:=c3.lt;omega
 clear g0 f0 hbo c8
 go_upto_region 10 with first|(go_at_call 364;(with_reducible refine d2.mono ?_);rintro e w4 ⟨La,kA,rfl,hM1,hM2,hM3,hM4,hM5,hb4⟩;obtain⟨w5,hcp,hR5,hO5⟩:=Nv w4 bo w3.heap.size kA (a0+1) La hM1 hM4 ((hb4.block bo c3.lt).trans c3) hM5)
 have a7:Only bo w3 w5:=(Only.of_below hb4).trans hO5;have i4:∀(j y:Nat),vs[j]?=some y→w5.cell? ⟨bv,0+j,none⟩=some (.int .u32 y):=fun j y hy=>(a7.cell (p:=⟨bv,0+j,none⟩) b6 f5).trans (i3 j y hy)
 have b7:bv<w5.heap.size:=eE b6 a7.size;have e4:Bz w w5:=c2.trans (a7.toBelow f4 c2.size);obtain⟨w6,hw6⟩:=enm (w5.alloc (qI jq));have mk:(Instr.makeSlice 22 (.int .i64 (jq:Int)) (.int .i64 (jq:Int))).run Tryz.prog w5=_:=zV jq (by have:=hJ.o;omega) w5;have a9:dP w6 w5.heap.size (List.replicate jq 0):=hw6▸yX w5 _;have c7:Bz w5 w6:=hw6▸yZ w5 _;have g5:dP w6 bo La:=(c7.block bo hR5.lt).trans hR5;obtain⟨bq,hbq⟩:∃bq,bq=w5.heap.size:=⟨_,rfl⟩;rw [←hbq] at a9 mk;have h0:bo≠bq:=by have:=hR5.lt;omega
 have j9:bv≠bq:=by omega
 have i5:∀(j y:Nat),vs[j]?=some y→w6.cell? ⟨bv,0+j,none⟩=some (.int .u32 y):=fun j y hy=>(c7.cell (p:=⟨bv,0+j,none⟩) b7).trans (i4 j y hy)
 have d7:bv<w6.heap.size:=eE b7 c7.size;have g3:Bz w w6:=e4.trans (c7.mono e4.size);have h3:w.heap.size≤bq:=hbq▸e4.size;have i8:Aside (DivAt 4294967296 (val 4294967296 La) (val 4294967296 vs) jq (m+1+1) La []):=DivAt.begin (l:=a0) (by have:=hJ.o;omega) f3 e0 hM1 hM2 hM3 b8.o.2.1;have j1:=aside hM3;have j7:IntKind.i64.wrap ((a0:Int)+1-((m:Int)+2))=(jq:Int):=by rw [eF];have:=hJ.o;omega
 have i0:IntKind.i64.wrap ((jq:Int)-1)=(jq:Int)-1:=by rw [eF];have:=hJ.o;omega
 have a3:=aside7 g5 a9 g3 i5 d7 f4 h3;clear d2 hM1 hM2 hM3 hM4 hM5 hcp hR5 hO5 hb4 c3 i3 b6 a7 i4 b7 e4 g5 a9 g3 i5 d7 c7 hbq c2 e3 f4 h3 j3
 go_wp2_with fail
 clear mk hw6 ez
 go_loopw [12] (fun k6 wr=>∃(J:Nat) (u qs qr:List Nat),k6= .int .i64 ((J:Int)-1)∧Aside (DivAt 4294967296 (val 4294967296 La) (val 4294967296 vs) J (m+1+1) u qs∧J≤jq∧qr.length=jq∧∀y∈qr,y<4294967296)∧dP wr bo (u++List.replicate (jq-J) 0)∧dP wr bq qr∧(∀(j y:Nat),vs[j]?=some y→wr.cell? ⟨bv,0+j,none⟩=some (.int .u32 y))∧Bz w wr) (fun s _=>(intOf s+1).toNat)
 case atStart=>exact⟨jq,La,[],List.replicate jq 0,rfl,⟨i8.o,aA _,by simp,fun y hy=>by rw [(yS.1 hy).2];decide⟩,by simpa using a3.o.1,a3.o.2.1,a3.o.2.2.2.1,a3.o.2.2.1⟩
 case round=>
  obtain⟨J,u,qs,qr,rfl,hD,hRu,a9,hv,hB⟩:=hrel
  by_cases j0:J=0
  ·subst j0;obtain⟨a5,-,hql,hqB⟩:=hD.o;obtain⟨e1,e2⟩:=a5.done;have f9:=a5.len;have i2:=a5.dig;rw [GG] at hRu;obtain⟨row,hrow⟩:∃row,row=u++List.replicate jq 0:=⟨_,rfl⟩;rw [←hrow] at hRu;have f8:row.length=a0+1:=by rw [hrow,aV,GT];have:=hJ.o;omega
   have f7:∀y∈row,y<4294967296:=fun y hy=>by
    rw [hrow] at hy;rcases eY.1 hy with hy|hy
    ·exact i2 y hy
    ·rw [(yS.1 hy).2];decide
   have h5:val 4294967296 row=val 4294967296 u:=by rw [hrow];exact Bt _ _ _
   have d1:val 4294967296 row/2^s=val 4294967296 A%val 4294967296 C:=by
    rw [h5];refine Gd (Q:=val 4294967296 qs) (nN (by decide)) ?_ ?_
    ·rw [←j1.o,←b8.o.2.2.1];exact e1
    ·rw [←b8.o.2.2.1];exact e2
   have i1:=vP (some ⟨bo,0,none⟩) (a0+1) (a0+1) wr.heap.size row f8 (by omega) (aA _) wr (aA _) (by
    have:=hRu.lim0 f7 hRu.lt (a0+1)
    rwa [iW (by omega)] at this)
   have b3:=aside5 d1 f8 f7 hql hqB;clear a5 hql hqB e1 e2 f9 i2 hrow f8 f7 h5 d1 hD
   go_upto_region 17 with first|(go_at_call 367;(with_reducible refine i1.mono ?_);rintro e w8 ⟨k8,rfl,hT8,hb8⟩;have h8:=Ea (some ⟨bo,0,none⟩) k8 (a0+1) w8.heap.size s (row.take k8) (by rw [bT];exact CF hT8.1) (by have:=hT8.1;have:=b3.o.2.1;omega) hs (by have:=hT8.1;have:=b3.o.2.1;omega) w8 (aA _) (dP.lim0 (w:=w8) ((hb8.block bo hRu.lt).trans hRu) b3.o.2.2.1 (eE hRu.lt hb8.size) k8))|(go_at_call 366;(with_reducible refine h8.mono ?_);rintro e w9 ⟨r,xx,rfl,hr,hb9⟩)
   have b4:=hb8.trans (hb9.mono hb8.size);have c5:dP w9 bq qr:=(b4.block bq a9.lt).trans a9;have j8:=vP (some ⟨bq,0,none⟩) jq jq w9.heap.size qr b3.o.2.2.2.1 (by have:=hJ.o;omega) (aA _) w9 (aA _) (by
    have:=c5.lim0 b3.o.2.2.2.2 c5.lt jq
    rwa [iW (by rw [b3.o.2.2.2.1];exact aA _)] at this)
   have h4:=aside2 hr hT8;clear hr hT8 i1 h8
   go_wp2_with first|(go_at_call 367;(with_reducible refine j8.mono ?_);rintro e l7 ⟨l6,rfl,hT10,hb10⟩)
   go_ret2
   refine⟨_,_,rfl,?_,hB.trans ((b4.mono hB.size).trans (hb10.mono (aE hB.size b4.size)))⟩;rw [←b3.o.1,←h4.o.2.val];exact(h4.o.1.below hb10 (aA _)).up hb10.size
  ·obtain⟨j,rfl⟩:∃j,J=j+1:=⟨J-1,by omega⟩;obtain⟨a5,hjq,hql,hqB⟩:=hD.o;have f9:=a5.len;obtain⟨lo,hlo⟩:∃lo,lo=u.take j:=⟨_,rfl⟩;obtain⟨us,hus⟩:∃us,us=(u.drop j).take (m+2):=⟨_,rfl⟩;obtain⟨un,hun⟩:∃un,u[j+(m+2)]?=some un:=⟨_,cE (by omega)⟩;have a6:lo.length=j:=by rw [hlo,bT];omega
   have b5:us.length=m+2:=by rw [hus,bT,fD];omega
   have d0:u.drop j=us++ [un]:=by
    have h9:(u.drop j)[m+2]?=some un:=by rw [mC];exact hun
    rw [hus,←qJ h9,iW (by rw [fD];omega)]
   have hu:u=lo++(us++ [un]):=by rw [hlo,←d0,rS]
   clear hlo hus hun d0;subst hu;have d4:un<4294967296:=a5.dig un (by simp);have d5:∀y∈us,y<4294967296:=fun y hy=>a5.dig y (by simp [hy])
   have a4:val 4294967296 (us++ [un])=val 4294967296 us+4294967296^(m+2)*un:=by rw [kO,b5]
   have e9:=a5.below a6;rw [a4] at e9;obtain⟨hi,hhi⟩:∃hi,hi=List.replicate (jq-(j+1)) 0:=⟨_,rfl⟩;have c6:dP wr bo (lo++us++un::hi):=by
    rw [←hhi] at hRu;simpa using hRu
   have d6:∀y,vs[m+1]?=some y→0<y:=fun y hy=>by
    have:=b8.o.2.2.2 y (by rw [wN,b8.o.1];exact hy);omega
   have f6:bo≠bv:=fO f5;have j5:=Ni bo j bv 0 m (a0+1-j) (m+2+1) lo us hi vs un (by have:=hJ.o;omega) d4 d5 g1 d6 a6 b5 b8.o.1 wr c6 f6 hv e9;have l3:j+(m+2)+1≤a0+1:=by have:=hJ.o;omega
   have k1:IntKind.i64.wrap ((j:Int)+((m:Int)+2))=(j:Int)+((m:Int)+2):=by rw [eF];omega
   have k2:IntKind.i64.wrap ((j:Int)+((m:Int)+2)+1)=(j:Int)+((m:Int)+2)+1:=by rw [eF];omega
   have l1:(0:Int)≤(j:Int):=by omega
   have l2:(j:Int)<(jq:Int):=by omega
   have l5:IntKind.i64.wrap ((j:Int)-1)=(j:Int)-1:=by rw [eF];omega
   have k3:(j:Int)+((m:Int)+2)+1≤(a0:Int)+1:=by omega
   have k4:(j:Int)≤(j:Int)+((m:Int)+2)+1:=by omega
   have k5:(0:Int)≤(j:Int)+((m:Int)+2)+1:=by omega
   have kl:j+(m+2)+1-j=m+2+1:=by omega
   obtain⟨y0,hy0⟩:∃y,qr[j]?=some y:=⟨_,cE (by omega)⟩;have j2:=aside7 a5 hjq hql hqB a4 hhi a6;clear hD a5 hjq hql hqB f9 a4 hhi e9 hRu c6 a6 b5 d4 d5 d6
   go_wp2_with first|(go_at_call 365;(rw [kl]);(with_reducible refine j5.mono ?_);rintro e w7 ⟨q,es,rfl,hq2,hel,hesB,a8,hes2,hRe,hO⟩;have c4:dP w7 bq qr:=(hO.block bq a9.lt (fO h0)).trans a9;obtain⟨c0,c1⟩:=c4.cell hy0;have i9:Aside (val 4294967296 us+4294967296^(m+2)*un=q*val 4294967296 vs+val 4294967296 es∧es.length=m+2):=⟨a8,hel⟩;clear a8 hel)
   obtain⟨a5,hjq,hql,hqB,a4,hhi,a6⟩:=j2.o;obtain⟨a8,hel⟩:=i9.o;have d3:=DivAt.step (lo:=lo) (mid:=us++ [un]) a5 a6 hq2 hesB hel (by rw [a4];exact a8) hes2;have g4:=Only.set w7 bq j (.int .u32 q);have e8:lo++es++List.replicate (jq-j) 0=lo++es++0::hi:=by
    rw [show jq-j=jq-(j+1)+1 by omega,pL,hhi]
   refine⟨⟨j,lo++es,q::qs,qr.set j q,rfl,⟨d3,by omega,by rw [List.length_set];exact hql,fun y hy=>?_⟩,?_,c4.set,fun j' y hy=>?_,?_⟩,by simp [intOf]⟩
   ·rcases GQ hy with hy|rfl
    ·exact hqB y hy
    ·exact hq2
   ·rw [e8];exact(g4.block bo hRe.lt h0).trans hRe
   ·have g7:=tD (hv j' y hy);exact((g4.cell (p:=⟨bv,0+j',none⟩) (eE g7 hO.size) j9).trans (hO.cell (p:=⟨bv,0+j',none⟩) g7 f5)).trans (hv j' y hy)
   ·have h9:=hB.trans (hO.toBelow a3.o.2.2.2.2.2.1 hB.size);exact h9.setCell (p:=⟨bq,j,none⟩) a3.o.2.2.2.2.2.2 _
def NoZ.pos' (h:NoZ C) (a0:C≠ []):0<val 4294967296 C:=by
 have:=h.pos (B:=4294967296) (by decide) a0;have h2:0<(4294967296:Nat)^(C.length-1):=nN (by decide);omega
def Ng (a1 a2:Option Addr) (a4 a5 a6 a7 n:Nat) (A C:List Nat) (a9:A.length=a4) (b0:C.length=a5) (b2:a4≤500000) (a8:a5≤500000) (w:Wo) (hn:n≤w.heap.size) (h1:dL n w a1 A) (h2:dL n w a2 C) (hA:NoZ A) (hC:NoZ C) (a0:C≠ []):
  Cz 324 #[.slice a1 a4 a6,.slice a2 a5 a7] w fun e w'=>∃q r,e= .returned (.tuple #[q,r])∧NatL w'.heap.size w' r (val 4294967296 A%val 4294967296 C)∧Bz w w':=by
 by_cases b8:val 4294967296 A<val 4294967296 C
 ·exact Nf a1 a2 a4 a5 a6 a7 n A C a9 b0 b2 a8 w hn h1 h2 hA hC b8
 ·have b5:val 4294967296 C≤val 4294967296 A:=by omega
  match C,a5,b0,a0 with
  | [d],_,rfl,_=>
   have b4:val 4294967296 [d]=d:=by simp [val]
   have:=Nc a1 a2 a4 a6 a7 n d A a9 b2 w hn h1 h2 hA hC (by rw [←b4];exact b5);rw [b4];exact this
  |d1::d2::D,_,rfl,_=>exact Nd a1 a2 a4 D.length a6 a7 n A (d1::d2::D) a9 (by simp) b2 w hn h1 h2 hA hC b5
def KD (w:Wo) (b off j:Nat):Nat:=match w.cell? ⟨b,off+j,none⟩ with
 |some (.int _ x)=>x.toNat
 |_=>0
def IQ (s:Value) (w:Wo):Nat:=match s with
 | .slice (some ⟨b,off,none⟩) k _=>val 4294967296 ((List.range k).map (KD w b off))
 |_=>0
def NatL.read {r:Value} (h:NatL n w r v):IQ r w=v:=by
 obtain⟨a,L,c,rfl,h1,_,rfl⟩:=h
 by_cases a0:L= []
 ·subst a0;unfold IQ;split
  ·rename_i e;cases e;rfl
  ·rfl
 ·obtain⟨b,off,rfl,_,hc⟩:=h1.2 a0;show val 4294967296 ((List.range L.length).map (KD w b off))=_;congr 1;apply Au
  ·simp
  ·intro j h3 h4;have:=hc j L[j] (cE h4);simp [KD,this]
def NoZ.len_pow (h:NoZ L) (hv:val 4294967296 L<4294967296^M):L.length≤M:=by
 by_cases a0:L= []
 ·subst a0;simp
 ·have h1:=h.pos (B:=4294967296) (by decide) a0;have:=(CD (show 1<4294967296 by decide)).1 (iV h1 hv);omega
def In (r1 r2:Value) (n a c M:Nat) (hM:M≤500000) (ha:a<4294967296^M) (hc:c<4294967296^M) (w:Wo) (hn:n≤w.heap.size) (h1:NatL n w r1 a) (h2:NatL n w r2 c):
  Cz 276 #[r1,r2] w fun e w'=>∃r,e= .returned r∧NatL w'.heap.size w' r (Nat.gcd a c)∧Bz w w':=by
 have b1:Aside (NatL w.heap.size w r1 a∧NatL w.heap.size w r2 c∧a<4294967296^M∧c<4294967296^M):=⟨h1.up hn,h2.up hn,ha,hc⟩;clear hn h1 h2 ha hc;go_enter Tryz.func276,Tryz.ntmps276
 go_wp2_with fail
 go_loopw [0,1] (fun s0 s1 wr=>∃(x y:Nat),Aside (NatL wr.heap.size wr s0 x∧NatL wr.heap.size wr s1 y∧Nat.gcd x y=Nat.gcd a c∧x<4294967296^M∧y<4294967296^M∧Bz w wr)) (fun _ s wr=>IQ s wr)
 case atStart=>exact⟨a,c,b1.o.1,b1.o.2.1,rfl,b1.o.2.2.1,b1.o.2.2.2,aK _ _⟩
 case round=>
  obtain⟨x,y,hR⟩:=hrel;obtain⟨⟨a1,L1,c1,rfl,hA1,hA2,hA3⟩,⟨a2,L2,c2,rfl,hC1,hC2,hC3⟩,hg,hx,hy,hB⟩:=hR.o;have a9:=hA2.len_pow (M:=M) (by rw [hA3];exact hx);have b0:=hC2.len_pow (M:=M) (by rw [hC3];exact hy)
  by_cases a0:L2= []
  ·subst a0;have b7:=vJ (.slice a1 L1.length c1) wr.heap.size L1 (by omega) wr (aA _) ⟨a1,c1,rfl,hA1⟩;have hF:Aside (Nat.gcd a c=x∧NoZ L1∧val 4294967296 L1=x):=⟨by rw [←hg,←hC3];simp [val],hA2,hA3⟩;clear hA1 hA2 hA3 hC1 hC2 hC3 hg hx hy a9 b0 hR
   go_wp2_with first|(go_at_call 46;(with_reducible refine b7.mono ?_);rintro e w' ⟨sv,rfl,⟨a3,c3,rfl,hL⟩,a8⟩)
   go_ret
   refine⟨_,rfl,?_,hB.trans (a8.mono hB.size)⟩;rw [hF.o.1];exact⟨a3,L1,c3,rfl,hL.toAt fun k hk=>hk.2,hF.o.2.1,hF.o.2.2⟩
  ·have b3:=Ng a1 a2 L1.length L2.length c1 c2 wr.heap.size L1 L2 rfl rfl (by omega) (by omega) wr (aA _) hA1 hC1 hA2 hC2 a0;rw [hA3,hC3] at b3;have b6:0<y:=hC3▸hC2.pos' a0;have b9:0<L2.length:=by
    rcases L2 with _|⟨d,D⟩
    ·exact absurd rfl a0
    ·simp
   have hF:Aside (NatL wr.heap.size wr (.slice a2 L2.length c2) y∧0<y∧Nat.gcd x y=Nat.gcd a c∧y<4294967296^M):=⟨⟨a2,L2,c2,rfl,hC1,hC2,hC3⟩,b6,hg,hy⟩;clear hA1 hA2 hA3 hC1 hC2 hC3 hg hx hy a9 b0 hR a0 b6
   go_wp2_with first|(go_at_call 324;(with_reducible refine b3.mono ?_);rintro e w' ⟨q,r,rfl,hr,a8⟩)
   obtain⟨f1,f2,f3,f4⟩:=hF.o;refine⟨⟨y,x%y,(f1.below a8 (aA _)).up a8.size,hr,?_,f4,NP (nP _ f2) f4,hB.trans (a8.mono hB.size)⟩,?_⟩
   ·rw [GK,←Nat.gcd_rec,GK];exact f3
   ·rw [hr.read,f1.read];exact nP _ f2
