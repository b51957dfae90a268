/- Lemmas; no condition. -/
import Derived.Test.YtealgacfnbbgdaaGreatDoorAu
set_option linter.all false
set_option maxHeartbeats 4000000
set_option maxRecDepth 100000
namespace Go.Proofs.YtealgacfnbbgdaaGreatDoor
open Go.RowKit Go.Big Go.RowsK Go.MapK
variable {D:List (List Tm)} {S:Nat→Prop} {l R:List Tm} {w w2 wr w' wc:Wo} {u v x4 x5 s3:Value} {a:Option Addr} {vs:Array Value} {n c F:Nat} {cal:Tm→Bool} {nm:ByteArray} {T h:Tm} {g:Bool}
section
attribute [local go_sem] Heavy.uponW
def Eg (w:Wo) {g B o d:Nat} (h:B≠g) (u v0 v1 v2 v3 v4 v5 v6:Value):
  (((((((w.setCell ⟨B,d,none⟩ u).setCell ⟨g,o,none⟩ v0).setCell ⟨g,o+1,none⟩ v1).setCell ⟨g,o+2,none⟩ v2).setCell ⟨g,o+3,none⟩ v3).setCell ⟨g,o+4,none⟩ v4).setCell ⟨g,o+5,none⟩ v5).setCell ⟨g,o+6,none⟩ v6
  =(((((((w.setCell ⟨g,o,none⟩ v0).setCell ⟨g,o+1,none⟩ v1).setCell ⟨g,o+2,none⟩ v2).setCell ⟨g,o+3,none⟩ v3).setCell ⟨g,o+4,none⟩ v4).setCell ⟨g,o+5,none⟩ v5).setCell ⟨g,o+6,none⟩ v6).setCell ⟨B,d,none⟩ u:=by
 rw [PZ w (p:=⟨B,d,none⟩) (q:=⟨g,o,none⟩) h]
 iterate 6 rw [PZ _ (p:=⟨B,d,none⟩) (by exact h)]
def TmV.calV {k v:Int} {l:Nat} (bi:ByteArray→Int→Bool) (h:TmV n w T [.int .i64 k,.int .i64 v,.string nm,.bool g,x4,x5,.slice a l c]):T.cal bi=uS bi k nm l:=by
 obtain⟨k',v',nm',g',num,den,args⟩:=T;simp only [TmV] at h;obtain⟨_,_,_,_,e,_⟩:=h;simp only [kM,ZN,Value.string.injEq,Value.slice.injEq] at e;obtain⟨⟨_,rfl⟩,_,rfl,_,_,_,⟨_,rfl,_⟩,_⟩:=e;rfl
def TmV.nszV {k v:Int} {l:Nat} (h:TmV n w T [.int .i64 k,.int .i64 v,.string nm,.bool g,x4,x5,.slice a l c]):T.nsz=nm.size:=by
 obtain⟨k',v',nm',g',num,den,args⟩:=T;simp only [TmV] at h;obtain⟨_,_,_,_,e,_⟩:=h;simp only [kM,ZN,Value.string.injEq,Value.slice.injEq] at e;obtain⟨⟨_,rfl⟩,_,rfl,_,_,_,⟨_,rfl,_⟩,_⟩:=e;rfl
def BiOk.mono {bi:ByteArray→Int→Bool} (h:BiOk F bi w) (hb:Bz w w'):BiOk F bi w':=fun w2 nm n a3=>h w2 nm n (hb.trans (a3.mono hb.size))
def xH {vs:Lv} {g:Nat} {e:TypeId} (h:w2.heap[g]?=some (.cells vs.toArray e)):iT w2 (.slice (some ⟨g,0,none⟩) 1 1) 1 vs:=.inr ⟨_,_,rfl,fun j u hj=>by
 rw [qH,dH];simp only [World.cell?,h];simpa using hj⟩
def ChJ.wide (h:ChJ D l S w w2 wr s3):Bz w wr:=by
 obtain⟨_,hb,_⟩:=h;exact hb
def ChJ.fin {B:Nat} (h:ChJ D l S w w2 wr (.slice (some ⟨B,0,none⟩) n c)) (hn:n=D.length+1):
  (∃X,wr.ownsRow w.heap.size 25 1 (.slice (some ⟨B,0,none⟩) n c) (D++ [l]).length X∧Rws S w.heap.size wr X (D++ [l])∧∀z∈(Value.slice (some ⟨B,0,none⟩) n c)::X,∀g,z.ownBlock=some g→¬S g)∧
  (∃X,wr.ownsRow w.heap.size 25 1 (.slice (some ⟨B,0,none⟩) D.length c) D.length X∧Rws S w.heap.size wr X D∧∀z∈(Value.slice (some ⟨B,0,none⟩) D.length c)::X,∀g,z.ownBlock=some g→¬S g)∧n≤c:=by
 subst hn;obtain⟨X,h1,h2,h3,h4,h5,h6⟩:=h;refine⟨⟨X,by rw [aV];exact h3,h4,h5⟩,⟨X.take D.length,Hv h3 (by omega),?_,fun z hz g hg=>?_⟩,?_⟩
 ·have:=h4.take D.length
  rwa [Ak] at this
 ·rcases cN.1 hz with rfl|hz
  ·exact h5 _ (oI ..) g hg
  ·exact h5 z (mR _ (lH hz)) g hg
 ·rcases h3.2 with⟨e,_⟩|⟨g,cap,C,e,_,_,h7,_⟩
  ·exact absurd e (by simp)
  ·injection e with _ _ e
   subst e;exact h7
def ChI (cal:Tm→Bool) (h:Tm) (R:List Tm) (S:Nat→Prop) (w w2 wr:Wo) (s3:Value) (dl i:Nat):Prop:=
 ∃D l,stc cal h (R.take i)=(D,l)∧D.length=dl∧ChJ D l S w w2 wr s3
def ChI.start (hv:TmV n w h vs.toList) (hn:n≤w.heap.size) (h1:wc.heap[w.heap.size+1]?=some (.cells vs 27 (0,0))) (h2:wc.heap[w.heap.size+2]?=some (.cells #[.slice (some ⟨w.heap.size+1,0,none⟩) 1 1] 25 (0,0)))
  (h3:wc.heap.size=w.heap.size+3) (h4:Bz w wc) (h5:Bz wc w2):ChI cal h R (fun b=>(b<n∨wc.heap.size≤b)∧b<w2.heap.size) w w2 w2 (.slice (some ⟨w.heap.size+1+1,0,none⟩) 1 1) 0 0:=by
 have q1:=(h5.block (w.heap.size+1) (by omega)).trans h1;have q2:=(h5.block (w.heap.size+2) (by omega)).trans h2;have hz:=h5.size;have b2:Bz w w2:=h4.trans (h5.mono h4.size);have e6:vs.toList.length=7:=hv.len;refine⟨[],[h],by simp [stc],rfl,[.slice (some ⟨w.heap.size+1,0,none⟩) 1 1],b2,aA _,JI q2 (by omega) rfl (by decide),?_,fun z c0 g hg=>?_,fun b _=>rfl⟩
 ·refine Rws.push (Rws.nil _ _ _) ⟨vs.toList,JI q1 (by omega) (by rw [←eZ,e6]) (by decide),fun k T hT=>?_⟩ fun u' g6=>by simp at g6
  cases k with
  |succ k=>simp at hT
  |zero=>
   simp at hT;subst hT;exact⟨vs.toList,e6,fun m u hm=>by simpa using hm,TmS.mono (fun b hb=>⟨.inl hb,by omega⟩) _ _ (TmV.toS _ _ (TmV.below b2 hn _ _ hv))⟩
 ·have:g=w.heap.size+1+1∨g=w.heap.size+1:=by
   rcases cN.1 c0 with rfl|c0
   ·left;simpa [Value.ownBlock] using hg.symm
   ·simp at c0;subst c0;right;simpa [Value.ownBlock] using hg.symm
  rintro⟨h|h,_⟩<;>omega
def ChP (n:Nat) (w:Wo) (LL:List (List Tm)) (e:Ending) (w':Wo):Prop:=∃v X S,e= .returned v∧w'.ownsRow w.heap.size 25 1 v LL.length X∧Rws S w.heap.size w' X LL∧(∀b,S b→(b<n∨w.heap.size≤b)∧b<w'.heap.size)∧(∀z∈v::X,∀g,z.ownBlock=some g→¬S g)∧Bz w w'
def RU (bi:ByteArray→Int→Bool) (C:Cl) (n:Nat) (w:Wo) (vs:Lv) (h:ClV n w C vs) (hn:n≤w.heap.size) (d6:BiOk 79 bi w) (hN:C.b.nodes≤1000000) (hz:∀T∈C.b.gls,T.nsz≤1048576):
  Cz 18 #[.agg vs.toArray] w (ChP n w (eS (Tm.cal bi) C.h C.b.gls)):=by
 obtain⟨vh,vb,rfl,hH,hB⟩:=h;have TA:=aside3 hH hB hn;obtain⟨kx,vx,nmx,gx,px,nx,qx,rx,mx,ux,ax,lx,cx,rfl⟩:=TmV.seven hH;obtain⟨ky,vy,nmy,gy,py,ny,qy,ry,my,uy,ay,ly,cy,rfl⟩:=TmV.seven hB;obtain⟨vars,hvars⟩:∃v,C.vars=v:=⟨_,rfl⟩;rw [hvars];have b0:=aC w (Obj.cells (tC kx vx nmx gx px nx qx rx mx ux ax lx cx ky vy nmy gy py ny qy ry my uy ay ly cy vars) 29);have hq:=bY w (Obj.cells (tC kx vx nmx gx px nx qx rx mx ux ax lx cx ky vy nmy gy py ny qy ry my uy ay ly cy vars) 29);obtain⟨wa,hwa⟩:∃x,w.alloc (Obj.cells (tC kx vx nmx gx px nx qx rx mx ux ax lx cx ky vy nmy gy py ny qy ry my uy ay ly cy vars) 29)=x:=⟨_,rfl⟩;have a9:wa.heap.size=w.heap.size+1:=by rw [←hwa];simp
 rw [hwa] at b0 hq;have b1:=aC wa (Obj.cells (tA kx vx nmx gx px nx qx rx mx ux ax lx cx) 27);have c3:=bY wa (Obj.cells (tA kx vx nmx gx px nx qx rx mx ux ax lx cx) 27);have b2:=aC (wa.alloc (Obj.cells (tA kx vx nmx gx px nx qx rx mx ux ax lx cx) 27)) (Obj.cells #[.slice (some ⟨w.heap.size+1,0,none⟩) 1 1] 25);have d9:=bY (wa.alloc (Obj.cells (tA kx vx nmx gx px nx qx rx mx ux ax lx cx) 27)) (Obj.cells #[.slice (some ⟨w.heap.size+1,0,none⟩) 1 1] 25);obtain⟨wc,hwc⟩:∃x,(wa.alloc (Obj.cells (tA kx vx nmx gx px nx qx rx mx ux ax lx cx) 27)).alloc (Obj.cells #[.slice (some ⟨w.heap.size+1,0,none⟩) 1 1] 25)=x:=⟨_,rfl⟩;have e3:wc.heap.size=w.heap.size+3:=by rw [←hwc];simp [a9]
 have a7:wc.heap[w.heap.size+1]?=some (.cells (tA kx vx nmx gx px nx qx rx mx ux ax lx cx) 27 (0,0)):=by
  rw [←hwc];rw [a9] at c3;exact(b2.block _ (by rw [eX];omega)).trans c3
 have a8:wc.heap[w.heap.size+2]?=some (.cells #[.slice (some ⟨w.heap.size+1,0,none⟩) 1 1] 25 (0,0)):=by
  rw [←hwc];have:=d9;rw [eX,a9] at this;exact this
 have b3:Bz wa wc:=by rw [←hwc];exact b1.trans (b2.mono (by rw [eX];omega))
 have b4:Bz w wc:=b0.trans (b3.mono b0.size);obtain⟨x0,x1,x2,x3,x4,x5,x6,x7,x8,x9,x10,x11,x12,x13,x14⟩:=jK hq;obtain⟨z0,z1,z2,z3,z4,z5,z6,z7,z8,z9,z10,z11,z12,z13,z14⟩:=jK ((b3.block w.heap.size (by omega)).trans hq);have d1:=Hh C.b n wc _ (TmV.below b4 hn _ _ hB) (by omega) hN;replace d1:Cz 44 #[.agg (tA ky vy nmy gy py ny qy ry my uy ay ly cy)] wc _:=d1;obtain⟨R,hR⟩:=enm C.b.gls;have f4:R.length≤1000000:=by rw [←hR];exact aE (uJ C.b) hN
 rw [hR] at d1 hz ⊢;have ZA:=aside hz;clear hz;obtain⟨lr,hlr⟩:∃l,R.length=l:=⟨_,rfl⟩;have Rl:Aside (R.length=lr∧lr≤1000000):=⟨hlr,by omega⟩;have i6:lr≤1000000:=by omega
 have BA:=aside d6;have qA:=aside4 a7 a8 e3 b4;clear hH hB hvars b0 hq hn hR hlr f4 d6 hN b1 c3 b2 d9 a7 a8 b3 b4;show Cz 18 #[.agg (tC kx vx nmx gx px nx qx rx mx ux ax lx cx ky vy nmy gy py ny qy ry my uy ay ly cy vars)] w _;go_enter Tryz.func18,Tryz.ntmps18
 go_upto_region 1 with fail
 clear hwa
 go_upto_region 2 with fail
 clear x0 x1 x2 x3 x4 x5 x6 x7 x8 x9 x10 x11 x12 x13 x14;rw [a9] at*;clear hwc a9 e3
 go_upto_region 3 with(go_at_call 44;(with_reducible refine d1.mono ?_);rintro e w2 ⟨v2,rfl,hr2,a3⟩;obtain⟨a2,c2,rfl⟩:=hr2.form;rw [Rl.o.1] at hr2 ⊢)
 have SA:Aside (ChI (Tm.cal bi) C.h R (fun b=>(b<n∨wc.heap.size≤b)∧b<w2.heap.size) w w2 w2 (.slice (some ⟨w.heap.size+1+1,0,none⟩) 1 1) 0 0∧eW (fun b=>(b<n∨wc.heap.size≤b)∧b<w2.heap.size) w2 R a2 0):=by
  refine⟨ChI.start TA.o.1 TA.o.2.2 qA.o.1 qA.o.2.1 qA.o.2.2.1 qA.o.2.2.2 a3,hr2.tms (fun b hb=>⟨hb.1,hb.2.2⟩) fun g hg=>?_⟩;have:=hr2.lt g hg;exact⟨.inr this.1,this.2⟩
 have h0:Aside (Bz w w2):=qA.o.2.2.2.trans (a3.mono qA.o.2.2.2.size);clear hr2 a3 d1 z0 z1 z2 z3 z4 z5 z6 z7 z8 z9 z10 z11 z12 z13 z14;obtain⟨S,hS⟩:∃S:Nat→Prop,(fun b=>(b<n∨wc.heap.size≤b)∧b<w2.heap.size)=S:=⟨_,rfl⟩;rw [hS] at SA;have SL:Aside (∀b,S b→b<w2.heap.size):=by show∀b,_;rw [←hS];exact fun b hb=>hb.2
 have SN:Aside (∀b,S b→b<n∨w.heap.size≤b):=by
  show∀b,_;rw [←hS];intro b hb;have a3:(b<n∨wc.heap.size≤b)∧b<w2.heap.size:=hb;have:=qA.o.2.2.1;omega
 clear hS
 go_loopw [3,16] (fun s3 g8 wr=>∃(i dl B c:Nat),s3= .slice (some ⟨B,0,none⟩) (dl+1:Nat) c∧g8= .int .i64 i∧i≤lr∧dl≤i∧ChI (Tm.cal bi) C.h R S w w2 wr (.slice (some ⟨B,0,none⟩) (dl+1) c) dl i) (fun _ s _=>lr-(RowKit.intOf s).toNat)
 case atStart=>exact⟨0,0,_,_,rfl,rfl,cJ _,aA _,SA.o.1⟩
 case round=>
  obtain⟨wo,rfl⟩:=enr wr;obtain⟨i,dl,B,c,rfl,rfl,hi,hdl,hI⟩:=hrel
  by_cases g0:i<lr
  case neg=>
   obtain rfl:i=lr:=by omega
   obtain⟨D,l,hst,hdl0,hJ⟩:=hI;rw [←Rl.o.1,kD] at hst;obtain⟨au,cu,Xu,hB1,hB2,hB3⟩:=hJ.last;obtain⟨f1,f2,f3⟩:=hJ.fin (by rw [hdl0]);have g7:IntKind.i64.wrap (((dl+1:Nat):Int)-1)=(dl:Int):=by rw [eF];omega
   have e7:wrap64 (dl:Int)=(dl:Int):=by unfold wrap64;omega
   have f6:(dl:Int)<((dl+1:Nat):Int):=by omega
   have f7:(dl:Int)<(dl:Int)+1:=by omega
   have f8:(0:Int)≤(dl:Int):=by omega
   have i0:(dl:Int)≤(c:Int):=by omega
   have i1:¬(c:Int)<(dl:Int):=by omega
   have i2:dl≤c:=by omega
   have wA:Aside (Bz w wo∧w2.heap.size≤wo.heap.size):=⟨hJ.wide,by obtain⟨_,_,h,_⟩:=hJ;exact h⟩;rw [hdl0] at hB2 f2
   by_cases b8:l= []
   ·subst b8;have hF:Aside (eS (Tm.cal bi) C.h R=D):=by show _=_;unfold eS;rw [hst];simp
    have f0:Aside _:=f2;simp only [pN] at hB2;clear hst hJ hB1 hB3 f1 f2 f3;go_wp2
    go_ret
    obtain⟨X,g1,g2,g3⟩:=f0.o;rw [hF.o];exact⟨_,X,S,rfl,by rw [hdl0];exact g1,g2,fun b hb=>⟨SN.o b hb,by have:=SL.o b hb;have:=wA.o.2;omega⟩,g3,wA.o.1⟩
   ·have hF:Aside (eS (Tm.cal bi) C.h R=D++ [l]):=by show _=_;unfold eS;rw [hst];simp [b8]
    have e9:Aside _:=f1;obtain⟨ll,hll⟩:=enm l.length;have f9:0<ll:=by rw [←hll];exact GU.2 b8
    have i7:((ll:Int)==0)=false:=by simp;omega
    rw [hll] at hB2;clear hst hJ hB1 hB3 f1 f2 f3 b8 hll f9;go_wp2
    go_ret
    obtain⟨X,g1,g2,g3⟩:=e9.o;rw [hF.o];exact⟨_,X,S,rfl,g1,g2,fun b hb=>⟨SN.o b hb,by have:=SL.o b hb;have:=wA.o.2;omega⟩,g3,wA.o.1⟩
  obtain⟨T,hT⟩:=egf Rl.o.1 g0;obtain⟨i3,hi3,hw3⟩:=elt (i:=i) (n:=lr) (by omega) (by omega);have g7:IntKind.i64.wrap (((dl+1:Nat):Int)-1)=(dl:Int):=by rw [eF];omega
  have i8:IntKind.i64.wrap (((dl:Int)+1)-1)=(dl:Int):=by rw [eF];omega
  have e7:wrap64 (dl:Int)=(dl:Int):=by unfold wrap64;omega
  have f6:(dl:Int)<((dl+1:Nat):Int):=by omega
  have f7:(dl:Int)<(dl:Int)+1:=by omega
  have f8:(0:Int)≤(dl:Int):=by omega
  obtain⟨D,l,hst,hdl0,hJ⟩:=hI;obtain⟨au,cu,Xu,hB1,hB2,hB3⟩:=hJ.last;obtain⟨ll,hll⟩:=enm l.length;have a5:ll≤i+1:=by
   have:=(HX (cal:=Tm.cal bi) (h:=C.h) (R.take i)).2.1;rw [hst,bT] at this;simp only at this;omega
  rw [hll,hdl0] at hB2;rw [hll] at hB3;have JA:=aside hJ;have IA:=aside6 hT hdl hst hdl0 hll a5;have uA:=aside3 hB1 hB2 hB3;have i4:(ll:Int)<(ll:Int)+1:=by omega
  have i5:(0:Int)≤(ll:Int):=by omega
  obtain⟨b,off,vs,rfl,hSb,hc,hv⟩:=SA.o.2.get hT;rw [dH] at hc;have c1:=hJ.same;have a0:∀(j:Nat) u,vs[j]?=some u→wo.cell? ⟨b,off+i*7+j,none⟩=some u:=fun j u hj=>(c1.cell (p:=⟨b,off+i*7+j,none⟩) hSb).trans (hc j u hj)
  have c8:TmS S wo T vs:=TmS.keep c1 _ _ hv;obtain⟨k',v',nm',g',r1,m1',u1,r2,m2',u2,a',l',c',rfl⟩:=TmV.seven (TmS.toV (n:=w2.heap.size) SL.o _ _ c8);have x0:=a0 0 _ rfl;have x1:=a0 1 _ rfl;have x2:=a0 2 _ rfl;have x3:=a0 3 _ rfl;have x4:=a0 4 _ rfl;have x5:=a0 5 _ rfl;have x6:=a0 6 _ rfl;rw [gQ] at x0;have d2:=aside c8;clear hT hdl hJ hc hv a0 c8 c1 hSb hB1 hB2 hB3 hst hdl0 hll a5
  go_upto_region 5 with fail
  have bB:=aC wo (Obj.cells (tA k' v' nm' g' r1 m1' u1 r2 m2' u2 a' l' c') 27);have b9:=bY wo (Obj.cells (tA k' v' nm' g' r1 m1' u1 r2 m2' u2 a' l' c') 27);obtain⟨wb,hwb⟩:∃x,wo.alloc (Obj.cells (tA k' v' nm' g' r1 m1' u1 r2 m2' u2 a' l' c') 27)=x:=⟨_,rfl⟩;have c7:wb.heap.size=wo.heap.size+1:=by rw [←hwb];simp
  rw [hwb] at bB b9 ⊢;have fb:Aside (∀w2,Bz wb w2→_):=fun(w2:Wo) (hb:Bz wb w2)=>dZ ((hb.block wo.heap.size (by omega)).trans b9)
  have d4:Aside (∀w2,Bz wb w2→w2.cell? ⟨B,dl,none⟩=some (.slice au ll cu)):=fun(w2:Wo) hb=>((hb.cell (p:=⟨B,dl,none⟩) (by have:=uA.o.1;have h2:=bB.size;show B<_;omega)).trans (bB.cell (p:=⟨B,dl,none⟩) uA.o.1)).trans uA.o.2.1
  clear x0 x1 x2 x3 x4 x5 x6
  go_upto_region 6 with fail
  clear hwb;rw [e7];refine Heavy.region_whole (Bz wb) 7 (.pre 0 (.pre 1 (.pre 2 (.pre 3 (.pre 4 (.pre 5 (.one 6 (.one 7 (.both 8 (.both 10 (.two 9 11 (.one 11 .done) (.one 9 .done)))))))))))) (by kernel_rfl) (by kernel_rfl) (BL wb) ?_
  iterate 3 ((apply Heavy.wpre;(exact rfl);(exact rfl);(intro a4 hw;go_simp;exact rfl));(refine Heavy.wnorm (by go_simp;exact rfl) ?_))
  (apply Heavy.wpre;(exact rfl);(exact rfl);(intro a4 hw;have zz:=d4.o a4 hw;go_simp;exact rfl));(refine Heavy.wnorm (by go_simp;exact rfl) ?_)
  (apply Heavy.wpre;(exact rfl);(exact rfl);(intro a4 hw;obtain⟨z0,z1,z2,z3,z4,z5,z6⟩:=fb.o a4 hw;go_simp;exact rfl));(refine Heavy.wnorm (by go_simp;exact rfl) ?_)
  (apply Heavy.wpre;(exact rfl);(exact rfl);(intro a4 hw;go_simp;exact rfl));(refine Heavy.wnorm (by go_simp;exact rfl) ?_)
  (apply Heavy.wone;(exact rfl);(exact rfl));go_simp
  obtain⟨wz,hwz⟩:∃x,(wb.alloc (Obj.cells #[.int .i64 0,.int .i64 0,.string ⟨#[]⟩,.bool false,.slice none 0 0,.slice none 0 0,.slice none 0 0] 27)).drew=x:=⟨_,rfl⟩;have bD:Bz wb wz:=by rw [←hwz];exact(aC wb _).trans ((BL _).mono (by rw [eX];omega))
  have e0:wz.heap[wo.heap.size+1]?=some (.cells #[.int .i64 0,.int .i64 0,.string ⟨#[]⟩,.bool false,.slice none 0 0,.slice none 0 0,.slice none 0 0] 27 (0,0)):=by rw [←hwz,←c7];exact bY wb _
  have g4:wz.heap.size=wo.heap.size+2:=by rw [←hwz];show(wb.alloc _).heap.size=_;rw [eX,c7]
  rw [hwz];refine⟨by first|exact bD|(rw [c7] at bD;exact bD),?_⟩
  (refine Heavy.wnorm (by go_simp;exact rfl) ?_)
  have bO:Bz wo wz:=bB.trans (bD.mono bB.size);have b5:=jF uA.o.2.2 bO (aA _);have e8:Aside (ll≤i+1):=IA.o.2.2.2.2.2;refine Heavy.wone_app xW rfl rfl _ _ rfl w.heap.size (.slice au ll cu) ll Xu rfl b5 (.slice (some ⟨wo.heap.size+1,0,none⟩) 1 1) 1 [.int .i64 0,.int .i64 0,.string ⟨#[]⟩,.bool false,.slice none 0 0,.slice none 0 0,.slice none 0 0] rfl (JK (vs:=[.int .i64 0,.int .i64 0,.string ⟨#[]⟩,.bool false,.slice none 0 0,.slice none 0 0,.slice none 0 0]) e0) rfl (by decide) (by have:=e8.o;have:=Rl.o.2;unfold maxLen;omega) (by have:=e8.o;have:=Rl.o.2;omega) (by have:=bO.size;have:=JA.o.size;omega) ?_;intro v5 w5 h5 b7 d0;refine⟨fun _ h=>absurd rfl h,?_⟩;obtain⟨g5,c5,C5,rfl,hC5,hz5⟩:=vN h5
  (refine Heavy.wnorm (by go_simp;exact rfl) ?_)
  iterate 2 ((apply Heavy.wboth;(exact rfl);(exact rfl);(intro a4;go_simp;exact rfl));(refine Heavy.wnorm (by go_simp;exact rfl) ?_))
  obtain⟨CB,hCB0,hCBs,hBw⟩:=JA.o.outer;rw [IA.o.2.2.2.1] at hCBs;have b6:w5.heap[B]?=some (.cells CB 25 (0,0)):=(b7.block B (by have:=bO.size;have:=(cV.1 hCB0).1;omega) (fun e=>xD uA.o.2.2 hCB0 (by decide) e.symm)).trans ((bO.block B (cV.1 hCB0).1).trans hCB0);have d8:g5≠B:=MF hC5 b6 (by decide);have a6:B≠g5:=fO d8;have at_:∀m,m<7→∃r,w5.cell? ⟨g5,ll*7+m,none⟩=some r:=fun m hm=>⟨C5[ll*7+m]'(by omega),by simp [World.cell?,hC5,show ll*7+m<C5.size by omega]⟩
  obtain⟨y0,t0⟩:=at_ 0 (by omega)
  obtain⟨y1,t1⟩:=at_ 1 (by omega)
  obtain⟨y2,t2⟩:=at_ 2 (by omega)
  obtain⟨y3,t3⟩:=at_ 3 (by omega)
  obtain⟨y4,t4⟩:=at_ 4 (by omega)
  obtain⟨y5,t5⟩:=at_ 5 (by omega)
  obtain⟨y6,t6⟩:=at_ 6 (by omega)
  rw [gQ] at t0;have tB:∃r,w5.cell? ⟨B,dl,none⟩=some r:=⟨CB[dl]'(by omega),by simp [World.cell?,b6,show dl<CB.size by omega]⟩;obtain⟨yB,tB⟩:=tB;have f5:=qW hC5;have fB:=qW b6;obtain⟨C6,k1,k2,k3,k4,k5,k6⟩:=CY (o:=ll*7) (v0:=.int .i64 k') (v1:=.int .i64 v') (v2:=.string nm') (v3:=.bool g') (v4:=.slice r1 m1' u1) (v5:=.slice r2 m2' u2) (v6:=.slice a' l' c') hC5 (by omega);clear at_
  have Z7:Aside (([.int .i64 0,.int .i64 0,.string ⟨#[]⟩,.bool false,.slice none 0 0,.slice none 0 0,.slice none 0 0]:Lv).length=7):=rfl;obtain⟨w6,hw6'⟩:∃x,(((((((w5.setCell ⟨g5,ll*7,none⟩ (.int .i64 k')).setCell ⟨g5,ll*7+1,none⟩ (.int .i64 v')).setCell ⟨g5,ll*7+2,none⟩ (.string nm')).setCell ⟨g5,ll*7+3,none⟩ (.bool g')).setCell ⟨g5,ll*7+4,none⟩ (.slice r1 m1' u1)).setCell ⟨g5,ll*7+5,none⟩ (.slice r2 m2' u2)).setCell ⟨g5,ll*7+6,none⟩ (.slice a' l' c'))=x:=⟨_,rfl⟩;rw [hw6'] at k1 k5 k6;have J7:Aside (ChJ D (l++ [T]) S w w2 (w6.setCell ⟨B,dl,none⟩ (.slice (some ⟨g5,0,none⟩) (ll+1) c5)) (.slice (some ⟨B,0,none⟩) (dl+1) c)):=by
   have e1:=IA.o.2.2.2.1;have e2:=IA.o.2.2.2.2.1;subst e1;subst e2;exact JA.o.store rfl uA.o.2.1 uA.o.2.2 bO b7 d0 h5 Z7.o hC5 k1 k2 k3 k4 k5 k6 d2.o rfl SL.o
  have c4:(w6.setCell ⟨B,dl,none⟩ (.slice (some ⟨g5,0,none⟩) (ll+1) c5)).heap[wo.heap.size]?=some (.cells (tA k' v' nm' g' r1 m1' u1 r2 m2' u2 a' l' c') 27 (0,0)):=by
   have h8:=uA.o.1;have e4:(Value.slice au ll cu).ownBlock≠some wo.heap.size:=fun e=>by have:=(lX uA.o.2.2 _ e).2;omega
   have hg:wo.heap.size≠g5:=fun e=>by
    rcases d0 with q|q
    ·exact e4 (by rw [←q,e];rfl)
    ·have:=bP q;simp only at this;omega
   exact(iQ w6 ⟨B,dl,none⟩ _ wo.heap.size (by show wo.heap.size≠B;omega)).trans ((k5 _ hg).trans ((b7.block _ (by omega) (fun e=>e4 e.symm)).trans ((bD.block _ (by omega)).trans b9)))
  have a1:Aside (_=w6):=hw6';clear hw6';obtain⟨cb,hcb⟩:∃r,uS bi k' nm' l'=r:=⟨_,rfl⟩;have TC:Aside (T.cal bi=cb):=by show _=_;rw [←hcb];exact TmV.calV (n:=w2.heap.size) bi (TmS.toV SL.o _ _ d2.o)
  have zA:Aside (nm'.size≤1048576):=by
   show _≤_;rw [←TmV.nszV (n:=w2.heap.size) (TmS.toV SL.o _ _ d2.o)];exact ZA.o _ (bV IA.o.1)
  have d5:Aside (∀wq,Bz w wq→Cz 45 #[.agg (tA k' v' nm' g' r1 m1' u1 r2 m2' u2 a' l' c')] wq fun e w'=>e= .returned (.bool cb)∧Bz wq w'):=by
   show∀wq,_;intro wq hb;rw [←hcb];exact Hk bi k' v' nm' g' r1 r2 a' m1' u1 m2' u2 l' c' wq (BiOk.mono BA.o hb) zA.o
  clear hcb;refine Heavy.wtwo ?_ ?_
  (apply Heavy.wone;(exact rfl);(exact rfl));go_simp
  (refine Heavy.wnorm (by go_simp;exact rfl) ?_)
  (apply Heavy.wone;(exact rfl);(exact rfl));go_simp
  (refine Heavy.wnorm (by go_simp;exact rfl) ?_)
  refine Heavy.wdone ?_;rw [a1.o]
  rotate_left
  (apply Heavy.wone;(exact rfl);(exact rfl));go_simp
  (refine Heavy.wnorm (by go_simp;exact rfl) ?_)
  (apply Heavy.wone;(exact rfl);(exact rfl));go_simp
  (refine Heavy.wnorm (by go_simp;exact rfl) ?_)
  refine Heavy.wdone ?_;rw [Eg w5 a6,a1.o]
  all_goals
   obtain⟨w7,hw7⟩:∃x,w6.setCell ⟨B,dl,none⟩ (.slice (some ⟨g5,0,none⟩) (ll+1) c5)=x:=⟨_,rfl⟩;rw [hw7] at J7 c4 ⊢;obtain⟨x0,x1,x2,x3,x4,x5,x6⟩:=dZ c4;clear hw7 a1 k1 k2 k3 k4 k5 k6 b7 d0 h5 hC5 hz5 t0 t1 t2 t3 t4 t5 t6 tB f5 fB d8 a6 b6 hCB0 hCBs hBw b9 e0 g4 bO bD bB fb d4 hwz b5 c4;cases cb
   case false=>
    go_wp2_with (go_at_call 45;(with_reducible refine(d5.o _ J7.o.wide).mono ?_);rintro e w8 ⟨rfl,hb8⟩)
    go_roundw
    case rel=>exact⟨i+1,dl,B,c,rfl,by simp,by omega,by have:=IA.o.2.1;omega,D,l++ [T],by rw [CT IA.o.1,IA.o.2.2.1];simp [stp,TC.o],IA.o.2.2.2.1,J7.o.below hb8 SL.o⟩
    case measure=>simp [RowKit.intOf];omega
   go_upto_region 8 with(go_at_call 45;(with_reducible refine(d5.o _ J7.o.wide).mono ?_);rintro e w8 ⟨rfl,hb8⟩)
   obtain⟨X8,q1,q2,q3,q4,q5,q6⟩:=J7.o.below hb8 SL.o;have bS:=aC w8 (Obj.cells #[.slice none 0 0] 25);have c6:=bY w8 (Obj.cells #[.slice none 0 0] 25);obtain⟨ws,hws⟩:∃x,w8.alloc (Obj.cells #[.slice none 0 0] 25)=x:=⟨_,rfl⟩;rw [hws] at bS c6;have q8:=aside6 q1 q2 q3 q4 q5 q6;have o8:Aside (ws.ownsRow w.heap.size 25 1 (.slice (some ⟨B,0,none⟩) (dl+1) c) (dl+1) X8):=by
    show World.ownsRow _ _ _ _ _ _ _;rw [←IA.o.2.2.2.1] at q3 ⊢;exact jF q3 bS (aA _)
   have d3:=aside bS;have g9:Aside (iT ws (.slice (some ⟨w8.heap.size,0,none⟩) 1 1) 1 [.slice none 0 0]):=xH (vs:=[.slice none 0 0]) c6;clear q1 q2 q3 q4 q5 q6 x0 x1 x2 x3 x4 x5 x6 hb8 bS c6;refine rM ?_
   iterate 2 (refine iD rfl fun K hK=>?_;go_simp;refine hK _ _ ?_;clear hK)
   try rw [hws]
   refine lJ elRw _ rfl _ _ rfl w.heap.size _ (dl+1) X8 rfl o8.o (.slice (some ⟨w8.heap.size,0,none⟩) 1 1) 1 [.slice none 0 0] rfl g9.o rfl (by decide) (by have:=IA.o.2.1;have:=Rl.o.2;unfold maxLen;omega) (by have:=IA.o.2.1;have:=Rl.o.2;omega) (by have:=q8.o.1.size;have:=d3.o.size;omega) ?_;intro v9 w9 h9 d7 e5;obtain⟨B9,c9,C9,rfl,_,_⟩:=vN h9;have J9:Aside (ChJ (D++ [l++ [T]]) [] S w w2 w9 (.slice (some ⟨B9,0,none⟩) (dl+1+1) c9)):=by
    obtain⟨q1,q2,q3,q4,q5,q6⟩:=q8.o;have e1:=IA.o.2.2.2.1;subst e1;exact ChJ.push q1 q2 q3 q4 q5 q6 d3.o d7 e5 h9 SL.o
   clear h9 d7 e5 hws
   iterate 1 (refine iD rfl fun K hK=>?_;go_simp;refine hK _ _ ?_;clear hK)
   go_wp2;go_roundw
   case rel=>exact⟨i+1,dl+1,B9,c9,rfl,by simp,by omega,by have:=IA.o.2.1;omega,D++ [l++ [T]],[],by rw [CT IA.o.1,IA.o.2.2.1];simp [stp,TC.o],by rw [aV,IA.o.2.2.2.1];rfl,J9.o⟩
   case measure=>simp [RowKit.intOf];omega
end
section
attribute [local go_sem] Heavy.uponW
def ChK (D:List (List Tm)) (l:List Tm) (S:Nat→Prop) (w w2 wr:Wo) (v u:Value):Prop:=
 ∃X,Bz w wr∧w2.heap.size≤wr.heap.size∧wr.ownsRow w.heap.size 25 1 v D.length X∧Rws S w.heap.size wr (X++ [u]) (D++ [l])∧(∀z∈v::(X++ [u]),∀g,z.ownBlock=some g→¬S g)∧eB S w2 wr
def ChK.wide (h:ChK D l S w w2 wr v u):Bz w wr:=by
 obtain⟨_,hb,_⟩:=h;exact hb
def ChK.big (h:ChK D l S w w2 wr v u):w2.heap.size≤wr.heap.size:=by
 obtain⟨_,_,hb,_⟩:=h;exact hb
def ChK.same (h:ChK D l S w w2 wr v u):eB S w2 wr:=by
 obtain⟨_,_,_,_,_,_,h⟩:=h;exact h
def ChK.below (h:ChK D l S w w2 wr v u) (hb:Bz wr w') (hS:∀b,S b→b<w2.heap.size):ChK D l S w w2 w' v u:=by
 obtain⟨X,h1,h2,h3,h4,h5,h6⟩:=h;have hk:eB S wr w':=eB.of_below hb fun b hb=>by have:=hS b hb;omega
 exact⟨X,h1.trans (hb.mono h1.size),aE h2 hb.size,jF h3 hb (aA _),h4.keep (fun _ h=>h) hk fun u hu g hg=>hb.block g (h4.lt u hu g hg).2,h5,fun b a1=>(hk b a1).trans (h6 b a1)⟩
def ChK.last (h:ChK D l S w w2 wr v u):dN S w.heap.size wr u l:=by
 obtain⟨X,h1,h2,h3,h4,h5,h6⟩:=h;have hl:X.length=D.length:=by have:=h4.1;simp at this;omega
 exact h4.2.1 D.length u l (by rw [←hl];simp) (by simp)
def dN.snoc {S:Nat→Prop} {base:Nat} {w w5:Wo} {u u5:Value} {L:List Tm} {T:Tm} {X vs:Lv} (h1:w.ownsRow base 27 7 u L.length X) (h2:∀(k:Nat) T,L[k]?=some T→∃vs,vs.length=7∧(∀(m:Nat) u,vs[m]?=some u→X[k*7+m]?=some u)∧TmS S w T vs)
  (h5:w5.ownsRow base 27 7 u5 (L.length+1) (X++vs)) (hk:eB S w w5) (hv:TmS S w T vs) (b0:vs.length=7):dN S base w5 u5 (L++ [T]):=by
 have b5:X.length=L.length*7:=h1.1;refine⟨X++vs,by rw [aV];exact h5,fun k T' a4=>?_⟩
 by_cases b2:k<L.length
 ·rw [gM b2] at a4;obtain⟨b7,e',h3,h4⟩:=h2 k T' a4;refine⟨b7,e',fun m z hm=>?_,TmS.keep hk _ _ h4⟩;have c0:=(aZ.1 hm).1;have b9:(k+1)*7≤L.length*7:=fP 7 b2;rw [gM (by omega)];exact h3 m z hm
 ·have b6:=(aZ.1 a4).1;rw [aV,oJ] at b6;obtain rfl:k=L.length:=by omega
  simp at a4;subst a4;refine⟨vs,b0,fun m z hm=>?_,TmS.keep hk _ _ hv⟩;rw [iE (by omega),b5,GM];exact hm
def ChK.grow {wo wz w5:Wo} {u5:Value} {Xu vs:Lv} (h:ChK D l S w w2 wo v u) (hX:wo.ownsRow w.heap.size 27 7 u l.length Xu) (bO:Bz wo wz)
  (a2:wz.grownBy w5 u.ownBlock) (a9:u5.ownBlock=u.ownBlock∨u5.ownBlock=some wz.heap.size) (h5:w5.ownsRow w.heap.size 27 7 u5 (l.length+1) (Xu++vs)) (hT:TmS S wo T vs) (b0:vs.length=7) (hS:∀b,S b→b<w2.heap.size):ChK D (l++ [T]) S w w2 w5 v u5:=by
 have a8:=h.last;obtain⟨X,h1,h2,h3,h4,h6,h7⟩:=h;have hl:X.length=D.length:=by have:=h4.1;simp at this;omega
 have hz:=bO.size;have b4:(X++ [u])[D.length]?=some u:=by rw [←hl];simp
 have b1:∀b,S b→u.ownBlock≠some b:=fun b hb e=>h6 u (by simp) b e hb
 have a3:∀b,b<wo.heap.size→u.ownBlock≠some b→w5.heap[b]?=wo.heap[b]?:=fun b hb a6=>(a2.block b (by omega) (fun e=>a6 e.symm)).trans (bO.block b hb)
 have hk:eB S wo w5:=fun b hb=>a3 b (by have:=hS b hb;omega) (b1 b hb)
 obtain⟨b8,hXu',hterms⟩:=a8;obtain rfl:=RW hXu' hX;have a7:dN S w.heap.size w5 u5 (l++ [T]):=dN.snoc hX hterms h5 hk hT b0;have b3:∀g,u5.ownBlock=some g→u.ownBlock=some g∨wo.heap.size≤g:=fun g hg=>by
  rcases a9 with e|e
  ·exact .inl (e▸hg)
  ·rw [e] at hg;have:=bP hg;right;omega
 have a5:=h4.upd b4 (fun _ h=>h) hk a3 a7 b3;rw [show(D++ [l]).set D.length (l++ [T])=D++ [l++ [T]] by simp,show(X++ [u]).set D.length u5=X++ [u5] by rw [←hl];simp] at a5;refine⟨X,(h1.trans (bO.mono h1.size)).grown a2 (by have:=h1.size;omega) fun k hk=>(lX hX k hk).1,by have:=a2.size;omega,tV h3 fun g hg=>a3 g (lX h3 g hg).2 fun e=>?_,a5,fun z a0 g hg hb=>?_,fun b hb=>(hk b hb).trans (h7 b hb)⟩
 ·rcases h3.2 with⟨q,_⟩|⟨g',cap,C,q,_,hC,_⟩
  ·rw [q] at hg;cases hg
  ·rw [q] at hg;have e':g'=g:=by simpa [Value.ownBlock] using hg
   subst e';exact xD hX hC (by decide) e
 ·rcases cN.1 a0 with rfl|a0
  ·exact h6 z (oI ..) g hg hb
  ·rcases eY.1 a0 with a0|a0
   ·exact h6 z (mR _ (GR _ a0)) g hg hb
   ·have e:=mP.1 a0;subst e;rcases b3 g hg with e|e
    ·exact b1 g hb e
    ·have:=hS g hb;omega
def ChK.push {ws w5:Wo} {v5:Value} {X:Lv} (hb:Bz w wr) (h2:w2.heap.size≤wr.heap.size) (h3:wr.ownsRow w.heap.size 25 1 v D.length X) (h4:Rws S w.heap.size wr (X++ [u]) (D++ [l])) (h6:∀z∈v::(X++ [u]),∀g,z.ownBlock=some g→¬S g) (h7:eB S w2 wr)
  (bO:Bz wr ws) (a2:ws.grownBy w5 v.ownBlock) (a9:v5.ownBlock=v.ownBlock∨v5.ownBlock=some ws.heap.size) (h5:w5.ownsRow w.heap.size 25 1 v5 (D.length+1) (X++ [u])) (hS:∀b,S b→b<w2.heap.size):ChK (D++ [l]) [] S w w2 w5 v5 (.slice none 0 0):=by
 have hz:=bO.size;have a6:∀z∈X++ [u],∀g,z.ownBlock=some g→v.ownBlock≠some g:=fun z hz g hg e=>by
  obtain⟨k,hk⟩:=mQ.1 hz;have hl:k<(D++ [l]).length:=by rw [←h4.1];exact(aZ.1 hk).1
  obtain⟨Y,hY,_⟩:=h4.2.1 k z _ hk (cE hl);rcases h3.2 with⟨q,_⟩|⟨g',cap,C,q,_,hC,_⟩
  ·rw [q] at e;cases e
  ·rw [q] at e;have e':g'=g:=by simpa [Value.ownBlock] using e
   subst e';exact xD hY hC (by decide) hg
 have hk:eB S wr w5:=fun b a1=>by
  have:=hS b a1;exact(a2.block b (by omega) fun e=>h6 v (oI ..) b e.symm a1).trans (bO.block b (by omega))
 have a5:Rws S w.heap.size w5 (X++ [u]) (D++ [l]):=h4.keep (fun _ h=>h) hk fun z hz g hg=>by
  have:=(h4.lt z hz g hg).2;exact(a2.block g (by omega) fun e=>a6 z hz g hg e.symm).trans (bO.block g this)
 refine⟨X++ [u],(hb.trans (bO.mono hb.size)).grown a2 (by have:=hb.size;omega) fun k hk=>(lX h3 k hk).1,by have:=a2.size;omega,by rw [aV,oJ];exact h5,a5.push ⟨[],qD _ _ _ _,fun k T hT=>by simp at hT⟩ fun u' _ g _ e=>by simp [Value.ownBlock] at e,?_,fun b a1=>(hk b a1).trans (h7 b a1)⟩;intro z a0 g hg a1;rcases cN.1 a0 with rfl|a0
 ·rcases a9 with e|e
  ·exact h6 v (oI ..) g (e▸hg) a1
  ·rw [e] at hg;have:=bP hg;have:=hS g a1;omega
 ·rcases eY.1 a0 with a0|a0
  ·exact h6 z (mR _ a0) g hg a1
  ·simp at a0;subst a0;simp [Value.ownBlock] at hg
def ChK.fin (h:ChK D l S w w2 wr v u):∃X,wr.ownsRow w.heap.size 25 1 v D.length X∧Rws S w.heap.size wr X D∧∀z∈v::X,∀g,z.ownBlock=some g→¬S g:=by
 obtain⟨X,h1,h2,h3,h4,h5,h6⟩:=h;have hl:X.length=D.length:=by have:=h4.1;simp at this;omega
 refine⟨X,h3,?_,fun z hz g hg=>h5 z ?_ g hg⟩
 ·have:=h4.take D.length
  rwa [Ak,←hl,Ak] at this
 ·rcases cN.1 hz with rfl|hz
  ·exact oI ..
  ·exact mR _ (GR _ hz)
end
section
attribute [local go_sem] Heavy.uponW
def ChL (cal:Tm→Bool) (h:Tm) (R:List Tm) (S:Nat→Prop) (w w2 wr:Wo) (s3 s4:Value) (dl ll i:Nat):Prop:=
 ∃D l,stc cal h (R.take i)=(D,l)∧D.length=dl∧l.length=ll∧ChK D l S w w2 wr s3 s4
def ChL.start (hv:TmV n w h vs.toList) (hn:n≤w.heap.size) (h1:wc.heap[w.heap.size+1]?=some (.cells vs 27 (0,0)))
  (h3:wc.heap.size=w.heap.size+2) (h4:Bz w wc) (h5:Bz wc w2):ChL cal h R (fun b=>(b<n∨wc.heap.size≤b)∧b<w2.heap.size) w w2 w2 (.slice none 0 0) (.slice (some ⟨w.heap.size+1,0,none⟩) 1 1) 0 1 0:=by
 have q1:=(h5.block (w.heap.size+1) (by omega)).trans h1;have hz:=h5.size;have b2:Bz w w2:=h4.trans (h5.mono h4.size);have e3:vs.toList.length=7:=hv.len;refine⟨[],[h],by simp [stc],rfl,rfl,[],b2,aA _,qD _ _ _ _,?_,fun z b9 g hg=>?_,fun b _=>rfl⟩
 ·refine Rws.push (Rws.nil _ _ _) ⟨vs.toList,JI q1 (by omega) (by rw [←eZ,e3]) (by decide),fun k T hT=>?_⟩ fun u' e6=>by simp at e6
  cases k with
  |succ k=>simp at hT
  |zero=>
   simp at hT;subst hT;exact⟨vs.toList,e3,fun m u hm=>by simpa using hm,TmS.mono (fun b hb=>⟨.inl hb,by omega⟩) _ _ (TmV.toS _ _ (TmV.below b2 hn _ _ hv))⟩
 ·have:g=w.heap.size+1:=by
   rcases cN.1 b9 with rfl|b9
   ·simp [Value.ownBlock] at hg
   ·simp at b9;subst b9;simpa [Value.ownBlock] using hg.symm
  rintro⟨h|h,_⟩<;>omega
def RC (bi:ByteArray→Int→Bool) (C:Cl) (n:Nat) (w:Wo) (vs:Lv) (h:ClV n w C vs) (hn:n≤w.heap.size) (d5:BiOk 80 bi w) (hN:C.b.nodes≤1000000) (hz:∀T∈C.b.gls,T.nsz≤1048576):
  Cz 21 #[.agg vs.toArray] w (ChP n w (eS (Tm.cal bi) C.h C.b.gls)):=by
 obtain⟨vh,vb,rfl,hH,hB⟩:=h;have TA:=aside3 hH hB hn;obtain⟨kx,vx,nmx,gx,px,nx,qx,rx,mx,ux,ax,lx,cx,rfl⟩:=TmV.seven hH;obtain⟨ky,vy,nmy,gy,py,ny,qy,ry,my,uy,ay,ly,cy,rfl⟩:=TmV.seven hB;obtain⟨vars,hvars⟩:∃v,C.vars=v:=⟨_,rfl⟩;rw [hvars];have b0:=aC w (Obj.cells (tC kx vx nmx gx px nx qx rx mx ux ax lx cx ky vy nmy gy py ny qy ry my uy ay ly cy vars) 29);have hq:=bY w (Obj.cells (tC kx vx nmx gx px nx qx rx mx ux ax lx cx ky vy nmy gy py ny qy ry my uy ay ly cy vars) 29);obtain⟨wa,hwa⟩:∃x,w.alloc (Obj.cells (tC kx vx nmx gx px nx qx rx mx ux ax lx cx ky vy nmy gy py ny qy ry my uy ay ly cy vars) 29)=x:=⟨_,rfl⟩;have b7:wa.heap.size=w.heap.size+1:=by rw [←hwa];simp
 rw [hwa] at b0 hq;have b1:=aC wa (Obj.cells (tA kx vx nmx gx px nx qx rx mx ux ax lx cx) 27);have c6:=bY wa (Obj.cells (tA kx vx nmx gx px nx qx rx mx ux ax lx cx) 27);obtain⟨wc,hwc⟩:∃x,wa.alloc (Obj.cells (tA kx vx nmx gx px nx qx rx mx ux ax lx cx) 27)=x:=⟨_,rfl⟩;rw [hwc,b7] at c6;rw [hwc] at b1;have d8:wc.heap.size=w.heap.size+2:=by rw [←hwc];simp [b7]
 have b4:Bz w wc:=b0.trans (b1.mono b0.size);obtain⟨x0,x1,x2,x3,x4,x5,x6,x7,x8,x9,x10,x11,x12,x13,x14⟩:=jK hq;obtain⟨z0,z1,z2,z3,z4,z5,z6,z7,z8,z9,z10,z11,z12,z13,z14⟩:=jK ((b1.block w.heap.size (by omega)).trans hq);have d1:=QN C.b n wc _ (TmV.below b4 hn _ _ hB) (by omega) hN;replace d1:Cz 48 #[.agg (tA ky vy nmy gy py ny qy ry my uy ay ly cy)] wc _:=d1;obtain⟨R,hR⟩:=enm C.b.gls;have e4:R.length≤1000000:=by rw [←hR];exact aE (uJ C.b) hN
 rw [hR] at d1 hz ⊢;have ZA:=aside hz;clear hz;obtain⟨lr,hlr⟩:∃l,R.length=l:=⟨_,rfl⟩;have Rl:Aside (R.length=lr∧lr≤1000000):=⟨hlr,by omega⟩;have f0:lr≤1000000:=by omega
 have BA:=aside d5;have qA:=aside3 c6 d8 b4;clear hH hB hvars b0 hq hn hR hlr e4 d5 hN b1 c6 b4;show Cz 21 #[.agg (tC kx vx nmx gx px nx qx rx mx ux ax lx cx ky vy nmy gy py ny qy ry my uy ay ly cy vars)] w _;go_enter Tryz.func21,Tryz.ntmps21
 go_upto_region 2 with fail
 clear hwa
 go_upto_region 3 with fail
 clear x0 x1 x2 x3 x4 x5 x6 x7 x8 x9 x10 x11 x12 x13 x14
 try rw [b7]
 clear hwc b7 d8
 go_upto_region 4 with(go_at_call 48;(with_reducible refine d1.mono ?_);rintro e w2 ⟨v2,rfl,hO2,b3⟩;have a8:=dN.ofOut hO2;obtain⟨a2,c2,rfl⟩:=a8.form;rw [Rl.o.1] at a8 ⊢)
 have SA:Aside (ChL (Tm.cal bi) C.h R (fun b=>(b<n∨wc.heap.size≤b)∧b<w2.heap.size) w w2 w2 (.slice none 0 0) (.slice (some ⟨w.heap.size+1,0,none⟩) 1 1) 0 1 0∧eW (fun b=>(b<n∨wc.heap.size≤b)∧b<w2.heap.size) w2 R a2 0):=by
  refine⟨ChL.start TA.o.1 TA.o.2.2 qA.o.1 qA.o.2.1 qA.o.2.2 b3,a8.tms (fun b hb=>⟨.inl hb,by have:=TA.o.2.2;have:=qA.o.2.2.size;have:=b3.size;omega⟩) fun g hg=>?_⟩;have:=a8.lt g hg;exact⟨.inr this.1,this.2⟩
 clear a8 hO2 b3 d1 z0 z1 z2 z3 z4 z5 z6 z7 z8 z9 z10 z11 z12 z13 z14;obtain⟨S,hS⟩:∃S:Nat→Prop,(fun b=>(b<n∨wc.heap.size≤b)∧b<w2.heap.size)=S:=⟨_,rfl⟩;rw [hS] at SA;have SL:Aside (∀b,S b→b<w2.heap.size):=by show∀b,_;rw [←hS];exact fun b hb=>hb.2
 have SN:Aside (∀b,S b→b<n∨w.heap.size≤b):=by
  show∀b,_;rw [←hS];intro b hb;have b3:(b<n∨wc.heap.size≤b)∧b<w2.heap.size:=hb;have:=qA.o.2.1;omega
 clear hS
 go_loopw [3,4,14] (fun s3 s4 e7 wr=>∃(i dl ll c3 c4:Nat) (a3 a4:Option Addr),s3= .slice a3 dl c3∧s4= .slice a4 ll c4∧e7= .int .i64 i∧i≤lr∧dl≤i∧ll≤i+1∧ChL (Tm.cal bi) C.h R S w w2 wr (.slice a3 dl c3) (.slice a4 ll c4) dl ll i) (fun _ _ s _=>lr-(RowKit.intOf s).toNat)
 case atStart=>exact⟨0,0,1,_,_,_,_,rfl,rfl,rfl,cJ _,aA _,aA _,SA.o.1⟩
 case round=>
  obtain⟨wo,rfl⟩:=enr wr;obtain⟨i,dl,ll,c3,c4,a3,a4,rfl,rfl,rfl,hi,hdl,hll0,hI⟩:=hrel
  by_cases e5:i<lr
  case neg=>
   obtain rfl:i=lr:=by omega
   obtain⟨D,l,hst,hdl0,hl0,hJ⟩:=hI;rw [←Rl.o.1,kD] at hst;have b5:=aside2 hdl0 hdl;have JA:=aside hJ
   by_cases hz:l= []
   ·subst hz;have hF:Aside (eS (Tm.cal bi) C.h R=D):=by show _=_;unfold eS;rw [hst];simp
    obtain rfl:0=ll:=hl0;clear hst hJ hdl0 hdl hll0;go_wp2
    go_ret
    obtain⟨X,g1,g2,g3⟩:=JA.o.fin;rw [hF.o];exact⟨_,X,S,rfl,g1,g2,fun b hb=>⟨SN.o b hb,by have:=SL.o b hb;have:=JA.o.big;omega⟩,g3,JA.o.wide⟩
   ·have hF:Aside (eS (Tm.cal bi) C.h R=D++ [l]):=by show _=_;unfold eS;rw [hst];simp [hz]
    have f2:0<ll:=by rw [←hl0];exact GU.2 hz
    have f1:(0:Int)<(ll:Int):=by omega
    clear hst hJ hdl0 hdl hll0 hl0 hz;obtain⟨X8,q1,q2,q3,q4,q5,q6⟩:=JA.o;have bS:=aC wo (Obj.cells #[(Value.slice a4 ll c4)] 25);have a1:=bY wo (Obj.cells #[(Value.slice a4 ll c4)] 25);obtain⟨ws,hws⟩:∃x,wo.alloc (Obj.cells #[(Value.slice a4 ll c4)] 25)=x:=⟨_,rfl⟩;rw [hws] at bS a1;have q8:=aside6 q1 q2 q3 q4 q5 q6;have o8:Aside (ws.ownsRow w.heap.size 25 1 (.slice a3 dl c3) dl X8):=by
     show World.ownsRow _ _ _ _ _ _ _;have e1:=b5.o.1;subst e1;exact jF q3 bS (aA _)
    have a5:=aside bS;have d3:Aside (iT ws (.slice (some ⟨wo.heap.size,0,none⟩) 1 1) 1 [(Value.slice a4 ll c4)]):=xH (vs:=[(Value.slice a4 ll c4)]) a1;clear q1 q2 q3 q4 q5 q6 bS a1
    go_upto_region 12 with fail
    refine rM ?_
    iterate 3 (refine iD rfl fun K hK=>?_;go_simp;refine hK _ _ ?_;clear hK)
    try rw [hws]
    refine lJ elRw _ rfl _ _ rfl w.heap.size _ dl X8 rfl o8.o (.slice (some ⟨wo.heap.size,0,none⟩) 1 1) 1 [(Value.slice a4 ll c4)] rfl d3.o rfl (fun _ h=>by simp at h;subst h;rfl) (by have:=b5.o.2;have:=Rl.o.2;unfold maxLen;omega) (by have:=b5.o.2;have:=Rl.o.2;omega) (by have:=q8.o.1.size;have:=a5.o.size;omega) ?_;intro v9 w9 h9 a6 a9;obtain⟨B9,c9,C9,rfl,_,_⟩:=vN h9;have J9:Aside (ChK (D++ [l]) [] S w w2 w9 (.slice (some ⟨B9,0,none⟩) (dl+1) c9) (.slice none 0 0)):=by
     obtain⟨q1,q2,q3,q4,q5,q6⟩:=q8.o;have e1:=b5.o.1;subst e1;exact ChK.push q1 q2 q3 q4 q5 q6 a5.o a6 a9 h9 SL.o
    clear h9 a6 a9 hws
    iterate 1 (refine iD rfl fun K hK=>?_;go_simp;refine hK _ _ ?_;clear hK)
    go_wp2
    go_ret
    obtain⟨X,g1,g2,g3⟩:=J9.o.fin;rw [hF.o];exact⟨_,X,S,rfl,g1,g2,fun b hb=>⟨SN.o b hb,by have:=SL.o b hb;have:=J9.o.big;omega⟩,g3,J9.o.wide⟩
  obtain⟨T,hT⟩:=egf Rl.o.1 e5;obtain⟨e9,hi3,hw3⟩:=elt (i:=i) (n:=lr) (by omega) (by omega);obtain⟨D,l,hst,hdl0,hl0,hJ⟩:=hI;obtain⟨Xu,hXu,_⟩:=hJ.last;rw [hl0] at hXu;have JA:=aside hJ;have IA:=aside6 hT hdl hst hdl0 hl0 hll0;have uA:=aside hXu;obtain⟨b,off,vs,rfl,hSb,hc,hv⟩:=SA.o.2.get hT;rw [dH] at hc;have c1:=hJ.same;have a0:∀(j:Nat) u,vs[j]?=some u→wo.cell? ⟨b,off+i*7+j,none⟩=some u:=fun j u hj=>(c1.cell (p:=⟨b,off+i*7+j,none⟩) hSb).trans (hc j u hj)
  have d2:TmS S wo T vs:=TmS.keep c1 _ _ hv;obtain⟨k',v',nm',g',r1,m1',u1,r2,m2',u2,a',l',c',rfl⟩:=TmV.seven (TmS.toV (n:=w2.heap.size) SL.o _ _ d2);have x0:=a0 0 _ rfl;have x1:=a0 1 _ rfl;have x2:=a0 2 _ rfl;have x3:=a0 3 _ rfl;have x4:=a0 4 _ rfl;have x5:=a0 5 _ rfl;have x6:=a0 6 _ rfl;rw [gQ] at x0;have b8:=aside d2;obtain⟨cb,hcb⟩:∃r,uS bi k' nm' l'=r:=⟨_,rfl⟩;have TC:Aside (T.cal bi=cb):=by show _=_;rw [←hcb];exact TmV.calV (n:=w2.heap.size) bi (TmS.toV SL.o _ _ b8.o)
  have zA:Aside (nm'.size≤1048576):=by
   show _≤_;rw [←TmV.nszV (n:=w2.heap.size) (TmS.toV SL.o _ _ b8.o)];exact ZA.o _ (bV IA.o.1)
  have d4:Aside (∀wq,Bz w wq→Cz 49 #[.agg (tA k' v' nm' g' r1 m1' u1 r2 m2' u2 a' l' c')] wq fun e w'=>e= .returned (.bool cb)∧Bz wq w'):=by
   show∀wq,_;intro wq hb;rw [←hcb];exact Gm bi k' v' nm' g' r1 r2 a' m1' u1 m2' u2 l' c' wq (BiOk.mono BA.o hb) zA.o
  clear hT hdl hll0 hJ hc hv a0 d2 c1 hSb hst hdl0 hl0 hXu hcb
  go_upto_region 6 with fail
  have bB:=aC wo (Obj.cells (tA k' v' nm' g' r1 m1' u1 r2 m2' u2 a' l' c') 27);have b6:=bY wo (Obj.cells (tA k' v' nm' g' r1 m1' u1 r2 m2' u2 a' l' c') 27);obtain⟨wb,hwb⟩:∃x,wo.alloc (Obj.cells (tA k' v' nm' g' r1 m1' u1 r2 m2' u2 a' l' c') 27)=x:=⟨_,rfl⟩;have c8:wb.heap.size=wo.heap.size+1:=by rw [←hwb];simp
  rw [hwb] at bB b6 ⊢;clear x0 x1 x2 x3 x4 x5 x6 hwb;obtain⟨x0,x1,x2,x3,x4,x5,x6⟩:=dZ b6;have bZ:=aC wb (Obj.cells (tA k' v' nm' g' r1 m1' u1 r2 m2' u2 a' l' c') 27);have c7:=bY wb (Obj.cells (tA k' v' nm' g' r1 m1' u1 r2 m2' u2 a' l' c') 27);obtain⟨wz,hwz⟩:∃x,wb.alloc (Obj.cells (tA k' v' nm' g' r1 m1' u1 r2 m2' u2 a' l' c') 27)=x:=⟨_,rfl⟩;have d7:wz.heap.size=wo.heap.size+2:=by rw [←hwz];simp [c8]
  rw [hwz] at bZ c7;have bO:Aside (Bz wo wz):=bB.trans (bZ.mono bB.size);have e8:Aside (iT wz (.slice (some ⟨wb.heap.size,0,none⟩) 1 1) 1 [.int .i64 k',.int .i64 v',.string nm',.bool g',.slice r1 m1' u1,.slice r2 m2' u2,.slice a' l' c']):=JK c7;have oZ:Aside (wz.ownsRow w.heap.size 27 7 (.slice a4 ll c4) ll Xu):=jF uA.o bO.o (aA _);have a7:Aside (wz.heap[wo.heap.size]?=some (.cells (tA k' v' nm' g' r1 m1' u1 r2 m2' u2 a' l' c') 27 (0,0))∧wz.heap.size=wo.heap.size+2):=⟨(bZ.block _ (by omega)).trans b6,d7⟩;have d0:=aside c8;clear bB bZ c7 d7 b6 c8;refine rM ?_
  iterate 3 (refine iD rfl fun K hK=>?_;go_simp;refine hK _ _ ?_;clear hK)
  try rw [hwz]
  refine lJ xW _ rfl _ _ rfl w.heap.size _ ll Xu rfl oZ.o (.slice (some ⟨wb.heap.size,0,none⟩) 1 1) 1 [.int .i64 k',.int .i64 v',.string nm',.bool g',.slice r1 m1' u1,.slice r2 m2' u2,.slice a' l' c'] (by first|rfl|(rw [d0.o];rfl)) e8.o rfl (TmV.one (TmS.toV (n:=w2.heap.size) SL.o _ _ b8.o)) (by have:=IA.o.2.2.2.2.2;have:=Rl.o.2;unfold maxLen;omega) (by have:=IA.o.2.2.2.2.2;have:=Rl.o.2;omega) (by have:=JA.o.wide.size;have:=bO.o.size;omega) ?_;intro v5 w5 h5 c0 e0;obtain⟨g5,c5,C5,rfl,_,_⟩:=vN h5;have d9:(Value.slice a4 ll c4).ownBlock≠some wo.heap.size:=fun e=>by have:=(lX uA.o _ e).2;omega
  have d6:w5.heap[wo.heap.size]?=some (.cells (tA k' v' nm' g' r1 m1' u1 r2 m2' u2 a' l' c') 27 (0,0)):=(c0.block _ (by have:=a7.o.2;omega) (fun e=>d9 e.symm)).trans a7.o.1;have J5:Aside (ChK D (l++ [T]) S w w2 w5 (.slice a3 dl c3) (.slice (some ⟨g5,0,none⟩) (ll+1) c5)):=by
   have e2:=IA.o.2.2.2.2.1;subst e2;exact JA.o.grow uA.o bO.o c0 e0 h5 b8.o rfl SL.o
  clear h5 c0 e0 d9 x0 x1 x2 x3 x4 x5 x6 hwz;obtain⟨x0,x1,x2,x3,x4,x5,x6⟩:=dZ d6;clear d6
  iterate 1 (refine iD rfl fun K hK=>?_;go_simp;refine hK _ _ ?_;clear hK)
  go_upto_region 7 with fail
  cases cb
  case false=>
   go_wp2_with (go_at_call 49;(with_reducible refine(d4.o _ J5.o.wide).mono ?_);rintro e w8 ⟨rfl,hb8⟩)
   go_roundw
   case rel=>exact⟨i+1,dl,ll+1,c3,c5,a3,_,rfl,rfl,by simp,by omega,by have:=IA.o.2.1;omega,by have:=IA.o.2.2.2.2.2;omega,D,l++ [T],by rw [CT IA.o.1,IA.o.2.2.1];simp [stp,TC.o],IA.o.2.2.2.1,by rw [aV,IA.o.2.2.2.2.1];rfl,J5.o.below hb8 SL.o⟩
   case measure=>simp [RowKit.intOf];omega
  go_upto_region 8 with(go_at_call 49;(with_reducible refine(d4.o _ J5.o.wide).mono ?_);rintro e w8 ⟨rfl,hb8⟩)
  obtain⟨X8,q1,q2,q3,q4,q5,q6⟩:=J5.o.below hb8 SL.o;have bS:=aC w8 (Obj.cells #[(Value.slice (some ⟨g5,0,none⟩) (ll+1) c5)] 25);have a1:=bY w8 (Obj.cells #[(Value.slice (some ⟨g5,0,none⟩) (ll+1) c5)] 25);obtain⟨ws,hws⟩:∃x,w8.alloc (Obj.cells #[(Value.slice (some ⟨g5,0,none⟩) (ll+1) c5)] 25)=x:=⟨_,rfl⟩;rw [hws] at bS a1;have q8:=aside6 q1 q2 q3 q4 q5 q6;have o8:Aside (ws.ownsRow w.heap.size 25 1 (.slice a3 dl c3) dl X8):=by
   show World.ownsRow _ _ _ _ _ _ _;have e1:=IA.o.2.2.2.1;subst e1;exact jF q3 bS (aA _)
  have a5:=aside bS;have d3:Aside (iT ws (.slice (some ⟨w8.heap.size,0,none⟩) 1 1) 1 [(Value.slice (some ⟨g5,0,none⟩) (ll+1) c5)]):=xH (vs:=[(Value.slice (some ⟨g5,0,none⟩) (ll+1) c5)]) a1;clear q1 q2 q3 q4 q5 q6 bS a1;clear x0 x1 x2 x3 x4 x5 x6 hb8;refine rM ?_
  iterate 3 (refine iD rfl fun K hK=>?_;go_simp;refine hK _ _ ?_;clear hK)
  try rw [hws]
  refine lJ elRw _ rfl _ _ rfl w.heap.size _ dl X8 rfl o8.o (.slice (some ⟨w8.heap.size,0,none⟩) 1 1) 1 [(Value.slice (some ⟨g5,0,none⟩) (ll+1) c5)] rfl d3.o rfl (fun _ h=>by simp at h;subst h;rfl) (by have:=IA.o.2.1;have:=Rl.o.2;unfold maxLen;omega) (by have:=IA.o.2.1;have:=Rl.o.2;omega) (by have:=q8.o.1.size;have:=a5.o.size;omega) ?_;intro v9 w9 h9 a6 a9;obtain⟨B9,c9,C9,rfl,_,_⟩:=vN h9;have J9:Aside (ChK (D++ [l++ [T]]) [] S w w2 w9 (.slice (some ⟨B9,0,none⟩) (dl+1) c9) (.slice none 0 0)):=by
   obtain⟨q1,q2,q3,q4,q5,q6⟩:=q8.o;have e1:=IA.o.2.2.2.1;subst e1;exact ChK.push q1 q2 q3 q4 q5 q6 a5.o a6 a9 h9 SL.o
  clear h9 a6 a9 hws
  iterate 1 (refine iD rfl fun K hK=>?_;go_simp;refine hK _ _ ?_;clear hK)
  go_wp2;go_roundw
  case rel=>exact⟨i+1,dl+1,0,c9,0,_,none,rfl,rfl,by simp,by omega,by have:=IA.o.2.1;omega,by omega,D++ [l++ [T]],[],by rw [CT IA.o.1,IA.o.2.2.1];simp [stp,TC.o],by rw [aV,IA.o.2.2.2.1];rfl,rfl,J9.o⟩
  case measure=>simp [RowKit.intOf];omega
end
