/- Lemmas for the text Card; no condition. -/
import Derived.Test.YtbdpdeonapmlgaaGreatDoorAw
import Derived.RangeFuncBox
import Derived.RangeFuncLeaves
import Derived.Shelf.Abstract
import Derived.OwnWalkIn
import Derived.TacticsInMore
import Derived.LoopNIn
import Derived.LoopIn
import Derived.Shelf.SlIterI.Collect
import Derived.Shelf.SlLaysZI
set_option linter.all false
set_option maxHeartbeats 8000000
set_option maxRecDepth 100000
namespace Go.Proofs.YtbdpdeonapmlgaaGreatDoor
open Go.RowKit Go.Big
attribute [local go_sem] Heavy.uponW
def OrdOk (T:Tm):Prop:=∀(U:Tm) (n:Nat) (w:World) (vs us:List Value),T.errE=0→U.errE=0→TmV n w T vs→TmV n w U us→n≤w.heap.size→
 Calls Tryz.prog 100 #[.agg vs.toArray,.agg us.toArray] w fun e w'=>(∃c:Int,e= .returned (.int .i64 c)∧(c=0↔T=U))∧Below w.heap.size w w'
theorem XF (k v:Int) (nm:ByteArray) (g:Bool) (num den:List Nat) (args:List Tm) (ih:∀T'∈args,OrdOk T'):OrdOk (.mk k v nm g num den args):=by
 intro U n w vs us hT hU h h' hn;have hr:=fun(w2:World) (hb:Below w.heap.size w w2)=>VU (.mk k v nm g num den args) U n w2 vs us hT hU (TmV.below hb hn _ _ h) (TmV.below hb hn _ _ h') (aE hn hb.size)
 obtain⟨k',v',nm',g',num',den',args'⟩:=U;simp only [TmV] at h h';obtain⟨s1,s2,p,c,rfl,_,hS,hbig,_⟩:=h;obtain⟨t1,t2,p',c',rfl,_,hS',hbig',_⟩:=h';have a9:Aside (Tm.errL args=0∧Tm.errL args'=0):=⟨(pE hT).2,(pE hU).2⟩;obtain⟨F,hF⟩:∃F:Prop,(Tm.mk k v nm g num den args= .mk k' v' nm' g' num' den' args')=F:=⟨_,rfl⟩;obtain⟨R,hR⟩:∃R:Prop,Tm.rootEq (.mk k v nm g num den args) (.mk k' v' nm' g' num' den' args')=R:=⟨_,rfl⟩;have FA:Aside (F↔R∧args=args'):=by
  show _↔_;rw [←hF,←hR];simp only [Tm.rootEq];constructor
  ·intro h;injection h with e1 e2 e3 e4 e5 e6 e7
   subst e1 e2 e3 e4 e5 e6 e7;exact⟨⟨rfl,rfl,rfl,rfl,rfl,rfl,rfl⟩,rfl⟩
  ·rintro⟨⟨rfl,rfl,rfl,rfl,rfl,rfl,_⟩,rfl⟩;rfl
 have RlA:Aside (R→args.length=args'.length):=by
  show R→_;rw [←hR];simp only [Tm.rootEq];intro h;exact h.2.2.2.2.2.2
 rw [hF];rw [hR] at hr;obtain⟨len,hl⟩:∃len,args.length=len:=⟨_,rfl⟩;obtain⟨a0,hl'⟩:∃a0,args'.length=a0:=⟨_,rfl⟩;rw [hl] at hbig hr ⊢;rw [hl'] at hr ⊢;have Al:=aside2 hl hl';have b5:=aside hS;have a7:=aside hS';have b7:=aside ih;clear hl hl' hF hR hT hU hS hS' ih hbig';obtain⟨a6,q1,q2,hsz⟩:=tY w (Obj.cells #[.int .i64 k,.int .i64 v,.string nm,.bool g,s1,s2,.slice p len c] 48) (Obj.cells #[.int .i64 k',.int .i64 v',.string nm',.bool g',t1,t2,.slice p' a0 c'] 48);obtain⟨wb,hwb⟩:∃wb,(w.alloc (Obj.cells #[.int .i64 k,.int .i64 v,.string nm,.bool g,s1,s2,.slice p len c] 48)).alloc (Obj.cells #[.int .i64 k',.int .i64 v',.string nm',.bool g',t1,t2,.slice p' a0 c'] 48)=wb:=⟨_,rfl⟩;rw [hwb] at a6 q1 q2 hsz;have fa:Aside (∀w2,Below wb.heap.size wb w2→_):=fun(w2:World) (hb:Below wb.heap.size wb w2)=>cY ((hb.block _ (by omega)).trans q1)
 have fb:Aside (∀w2,Below wb.heap.size wb w2→_):=fun(w2:World) (hb:Below wb.heap.size wb w2)=>cY ((hb.block _ (by omega)).trans q2)
 obtain⟨x0,x1,x2,x3,x4,x5,x6⟩:=fa.out wb (aI _ _);obtain⟨y0,y1,y2,y3,y4,y5,y6⟩:=fb.out wb (aI _ _);have c3:=aside hsz;have d1:=hr wb a6;replace d1:Calls Tryz.prog 169 #[.agg #[.int .i64 k,.int .i64 v,.string nm,.bool g,s1,s2,.slice p len c],.agg #[.int .i64 k',.int .i64 v',.string nm',.bool g',t1,t2,.slice p' a0 c']] _ _:=d1;clear hr q1 q2 hsz;show Calls Tryz.prog 100 #[.agg #[.int .i64 k,.int .i64 v,.string nm,.bool g,s1,s2,.slice p len c],.agg #[.int .i64 k',.int .i64 v',.string nm',.bool g',t1,t2,.slice p' a0 c']] w _;go_enter Tryz.func100,Tryz.ntmps100
 go_upto_region 1 with fail
 clear hwb
 go_wp2_with (go_at_call 169;with_reducible refine d1.mono ?_)
 first|rintro e w1 ⟨⟨z,rfl,hz⟩,b0⟩|rintro e w1 z rfl hz b0
 clear d1
 by_cases a4:z=0
 case neg=>
  have c5:(z==0)=false:=by simpa using a4
  have b4:Aside (¬F):=fun h=>a4 (hz.2 (FA.out.1 h).1)
  have a8:=aside a4;clear hz a4;go_wp2
  go_ret
  exact⟨⟨z,rfl,⟨fun h=>absurd h a8.out,fun h=>absurd h b4.out⟩⟩,a6.trans (b0.mono a6.size)⟩
 case pos=>
  subst a4;have b9:Aside R:=hz.1 rfl;have c2:a0=len:=by
   have:=RlA.out b9.out;rw [Al.out.1,Al.out.2] at this;exact this.symm
  subst c2;obtain⟨x0,x1,x2,x3,x4,x5,x6⟩:=fa.out w1 b0;have b8:Aside (F↔args=args'):=by
   show _↔_;rw [FA.out];exact⟨fun h=>h.2,fun h=>⟨b9.out,h⟩⟩
  clear hz;go_wp2
  go_loopw [17] (fun s wr=>∃i:Nat,s= .int .i64 i∧i≤a0∧Aside (args.take i=args'.take i)∧Below wb.heap.size wb wr) (fun s _=>a0-(intOf s).toNat)
  case atStart=>exact⟨0,rfl,aT _,by show _=_;simp,b0⟩
  case round=>
   obtain⟨i,rfl,hi,ht,hB⟩:=hrel;have a3:Below w.heap.size w wr:=a6.trans (hB.mono a6.size)
   by_cases c0:i<a0
   ·obtain⟨T',a5⟩:∃T',args[i]?=some T':=⟨args[i]'(by rw [Al.out.1];exact c0),aL _⟩;obtain⟨U',hU'⟩:∃U',args'[i]?=some U':=⟨args'[i]'(by rw [Al.out.2];exact c0),aL _⟩;obtain⟨b,o,vs',rfl,hbn,hc,hv⟩:=b5.out.get a5;obtain⟨b',o',us',rfl,hbn',hc',hv'⟩:=a7.out.get hU';rw [cG] at hc hc';have d2:=b7.out T' (aX a5) U' n wr.drew vs' us' (NZ a9.out.1 a5) (NZ a9.out.2 hU') (TmV.below (a3.trans (dI _ _)) hn _ _ hv) (TmV.below (a3.trans (dI _ _)) hn _ _ hv') (aE hn a3.size);have b1:Aside (∀z:Int,(z=0↔T'=U')→z=0→args.take (i+1)=args'.take (i+1)):=by
     show∀z:Int,_;intro z h1 h2;rw [fT,fT,a5,hU',ht.out,h1.1 h2]
    have b2:Aside (∀z:Int,(z=0↔T'=U')→¬z=0→¬F):=by
     show∀z:Int,_;intro z h1 h2 h3;have h4:=b8.out.1 h3;rw [h4,hU'] at a5;exact h2 (h1.2 (aJ a5).symm)
    have b3:∀q:Addr,q.block<n→wr.cell? q=w.cell? q:=fun q hq=>(a3.mono hn).cell hq
    obtain⟨m0,m1,m2,m3,m4,m5,m6⟩:∃r0 r1 r2 r3 r4 r5 r6,True:=⟨0,0,0,0,0,0,0,trivial⟩;clear m0 m1 m2 m3 m4 m5 m6;clear a5 hU';obtain⟨k1,v1,nm1,g1,num1,den1,a1⟩:=T';obtain⟨k2,v2,nm2,g2,num2,den2,a2⟩:=U';simp only [TmV] at hv hv';obtain⟨p1,p2,pa,pc,rfl,_⟩:=hv;obtain⟨r1,r2,ra,rc,rfl,_⟩:=hv';obtain⟨m0,m1,m2,m3,m4,m5,m6⟩:=xH (w:=w) (w2:=wr) (fun q hq=>b3 q (hq▸hbn)) hc;obtain⟨n0,n1,n2,n3,n4,n5,n6⟩:=xH (w:=w) (w2:=wr) (fun q hq=>b3 q (hq▸hbn')) hc';have xa:=(fa.out wr hB).2.2.2.2.2.2;have xb:=(fb.out wr hB).2.2.2.2.2.2;replace d2:Calls Tryz.prog 100 #[.agg #[.int .i64 k1,.int .i64 v1,.string nm1,.bool g1,p1,p2,.slice pa a1.length pc],.agg #[.int .i64 k2,.int .i64 v2,.string nm2,.bool g2,r1,r2,.slice ra a2.length rc]] wr.drew _:=d2;generalize a1.length=ln1 at*;generalize a2.length=ln2 at*;generalize Tm.mk k1 v1 nm1 g1 num1 den1 a1=T' at*;generalize Tm.mk k2 v2 nm2 g2 num2 den2 a2=U' at*;obtain⟨Q,hQ⟩:∃Q:Prop,(T'=U')=Q:=⟨_,rfl⟩;rw [hQ] at d2 b1 b2;have c6:(i:Int)<(a0:Int):=by omega
    have c7:(0:Int)≤(i:Int):=by omega
    have c8:IntKind.i64.wrap ((i:Int)+1)=(i:Int)+1:=by rw [aG];omega
    have z2:Aside (∀w2,Below wr.heap.size wr.drew w2→Below wb.heap.size wb w2):=fun w2 hb=>hB.trans (((qT wr).trans hb).mono hB.size)
    clear hc hc' b3 fa fb b7 b5 a7 a9 ht hQ x0 x1 x2 x3 x4 x5 x6 y0 y1 y2 y3 y4 y5 y6
    go_upto_region 7 with fail
    refine iG 10 (by kernel_rfl) (by kernel_rfl) ?_;simp only [bB,bJ,bF,bE,gZ]
    repeat (with_reducible refine gH (fun K hK=>?_);go_simp;with_reducible refine hK _ ?_;clear hK K)
    refine iH ?_;show wpList _ _ _ _ _ _
    go_wp2_with (go_at_call 100;with_reducible refine d2.mono ?_)
    first|rintro e w3 ⟨⟨z,rfl,hz⟩,b6⟩|rintro e w3 z rfl hz b6
    by_cases a4:z=0
    ·subst a4;have c4:Aside (args.take (i+1)=args'.take (i+1)):=b1.out 0 hz rfl;clear b1 b2 hz d2;go_wp2;go_roundw
     case rel=>exact⟨i+1,by simp,by omega,c4,z2.out _ b6⟩
     case measure=>simp [intOf];omega
    ·have c5:(z==0)=false:=by simpa using a4
     have b4:Aside (¬F):=b2.out z hz a4;have a8:=aside a4;clear b1 b2 hz a4 d2;go_wp2
     go_ret
     exact⟨⟨z,rfl,⟨fun h=>absurd h a8.out,fun h=>absurd h b4.out⟩⟩,a6.trans ((z2.out _ b6).mono a6.size)⟩
   ·obtain rfl:i=a0:=by omega
    have c1:Aside F:=b8.out.2 (by
     have h1:=ht.out;rw [←Al.out.1,gA,Al.out.1,←Al.out.2,gA] at h1;exact h1)
    clear fa fb b7 b5 a7 a9;go_wp2
    go_ret
    exact⟨⟨0,rfl,⟨fun _=>c1.out,fun _=>rfl⟩⟩,a3⟩
theorem KO:∀(T:Tm),OrdOk T
 | .mk k v nm g num den args=>XF k v nm g num den args fun T' a5=>KO T'
termination_by T=>SizeOf.sizeOf T
decreasing_by
 simp_wf
 have:=oE a5;omega
end Go.Proofs.YtbdpdeonapmlgaaGreatDoor
namespace Go.Proofs.YtbdpdeonapmlgaaGreatDoor
open Go.RowKit Go.Big Go.RowsK Go.MapK
variable {L:List Tm} {v:Value} {w w':World} {n m:Nat}
section
attribute [local go_sem] Heavy.uponW
theorem VD (T:Tm) (n:Nat) (w:World) (vs us:List Value) (hT:T.errE=0) (hF:T.faultE=0) (h:TmV n w T vs) (h':TmV n w T us) (hn:n≤w.heap.size):
  Calls Tryz.prog 38 #[.agg vs.toArray,.agg us.toArray] w fun e w'=>e= .returned (.bool true)∧Below w.heap.size w w':=by
 have d1:Aside (∀w2,Below w.heap.size w w2→Calls Tryz.prog 99 #[.agg vs.toArray] w2 fun e w'=>e= .returned (.int .i64 0)∧Below w2.heap.size w2 w'):=fun w2 hb=>by
  have:=NR T n w2 vs (TmV.below hb hn _ _ h) (aE hn hb.size);rw [hF] at this;exact this
 have d2:Aside (∀w2,Below w.heap.size w w2→Calls Tryz.prog 100 #[.agg vs.toArray,.agg us.toArray] w2 fun e w'=>e= .returned (.int .i64 0)∧Below w2.heap.size w2 w'):=fun w2 hb=>
  (KO T T n w2 vs us hT hT (TmV.below hb hn _ _ h) (TmV.below hb hn _ _ h') (aE hn hb.size)).mono fun e w' ⟨⟨c,e1,e2⟩,hb'⟩=>⟨by rw [e1,e2.2 rfl],hb'⟩
 obtain⟨k1,v1,nm1,g1,a4,a3,a0⟩:=T;simp only [TmV] at h h';obtain⟨_,_,a1,c1,rfl,⟨⟨p1,q1,rfl,_⟩,⟨p2,q2,rfl,_⟩⟩,_⟩:=h;obtain⟨_,_,a2,c2,rfl,⟨⟨p3,q3,rfl,_⟩,⟨p4,q4,rfl,_⟩⟩,_⟩:=h';generalize a0.length=l1 at*;generalize a4.length=n1 at*;generalize a3.length=n2 at*;replace d1:Aside (∀w2,Below w.heap.size w w2→Calls Tryz.prog 99 #[.agg #[.int .i64 k1,.int .i64 v1,.string nm1,.bool g1,.slice p1 n1 q1,.slice p2 n2 q2,.slice a1 l1 c1]] w2 fun e w'=>e= .returned (.int .i64 0)∧Below w2.heap.size w2 w'):=d1;replace d2:Aside (∀w2,Below w.heap.size w w2→Calls Tryz.prog 100 #[.agg #[.int .i64 k1,.int .i64 v1,.string nm1,.bool g1,.slice p1 n1 q1,.slice p2 n2 q2,.slice a1 l1 c1],.agg #[.int .i64 k1,.int .i64 v1,.string nm1,.bool g1,.slice p3 n1 q3,.slice p4 n2 q4,.slice a2 l1 c2]] w2 fun e w'=>e= .returned (.int .i64 0)∧Below w2.heap.size w2 w'):=d2;clear hT hF;have b0:=aC w (Obj.cells #[.int .i64 k1,.int .i64 v1,.string nm1,.bool g1,.slice p1 n1 q1,.slice p2 n2 q2,.slice a1 l1 c1] 48);have hq:=heap_alloc_new w (Obj.cells #[.int .i64 k1,.int .i64 v1,.string nm1,.bool g1,.slice p1 n1 q1,.slice p2 n2 q2,.slice a1 l1 c1] 48);obtain⟨wb,hwb⟩:∃wb,w.alloc (Obj.cells #[.int .i64 k1,.int .i64 v1,.string nm1,.bool g1,.slice p1 n1 q1,.slice p2 n2 q2,.slice a1 l1 c1] 48)=wb:=⟨_,rfl⟩;have b3:wb.heap.size=w.heap.size+1:=by rw [←hwb];simp
 rw [hwb] at b0 hq;have b1:=aC wb (Obj.cells #[.int .i64 k1,.int .i64 v1,.string nm1,.bool g1,.slice p3 n1 q3,.slice p4 n2 q4,.slice a2 l1 c2] 48);have a9:=heap_alloc_new wb (Obj.cells #[.int .i64 k1,.int .i64 v1,.string nm1,.bool g1,.slice p3 n1 q3,.slice p4 n2 q4,.slice a2 l1 c2] 48);obtain⟨wc,hwc⟩:∃wc,wb.alloc (Obj.cells #[.int .i64 k1,.int .i64 v1,.string nm1,.bool g1,.slice p3 n1 q3,.slice p4 n2 q4,.slice a2 l1 c2] 48)=wc:=⟨_,rfl⟩;have b2:wc.heap.size=w.heap.size+1+1:=by rw [←hwc,cT];omega
 rw [hwc] at b1 a9;have f1:Below w.heap.size w wc:=b0.trans (b1.mono b0.size);have fa:Aside (∀w2,Below wc.heap.size wc w2→w2.heap[w.heap.size]?=some (.cells #[.int .i64 k1,.int .i64 v1,.string nm1,.bool g1,.slice p1 n1 q1,.slice p2 n2 q2,.slice a1 l1 c1] 48)):=fun w2 hb=>((hb.block w.heap.size (by omega)).trans (b1.block w.heap.size (by omega))).trans hq
 have fb:Aside (∀w2,Below wc.heap.size wc w2→w2.heap[w.heap.size+1]?=some (.cells #[.int .i64 k1,.int .i64 v1,.string nm1,.bool g1,.slice p3 n1 q3,.slice p4 n2 q4,.slice a2 l1 c2] 48)):=fun w2 hb=>(hb.block (w.heap.size+1) (by omega)).trans (by rw [←b3];exact a9)
 clear hq a9 b0 b1;show Calls Tryz.prog 38 #[.agg #[.int .i64 k1,.int .i64 v1,.string nm1,.bool g1,.slice p1 n1 q1,.slice p2 n2 q2,.slice a1 l1 c1],.agg #[.int .i64 k1,.int .i64 v1,.string nm1,.bool g1,.slice p3 n1 q3,.slice p4 n2 q4,.slice a2 l1 c2]] w _;go_enter Tryz.func38,Tryz.ntmps38
 go_upto_region 1 with fail
 try rw [hwb,hwc]
 clear hwb hwc b3 b2;obtain⟨x0,x1,x2,x3,x4,x5,x6⟩:=cY (fa.out wc (aI _ _))
 go_wp2_with (go_at_call 99;with_reducible refine(d1.out _ f1).mono ?_)
 rintro e w2 ⟨rfl,hb2⟩;clear x0 x1 x2 x3 x4 x5 x6;obtain⟨x0,x1,x2,x3,x4,x5,x6⟩:=cY (fa.out w2 hb2);obtain⟨y0,y1,y2,y3,y4,y5,y6⟩:=cY (fb.out w2 hb2);have f2:Below w.heap.size w w2:=f1.trans (hb2.mono f1.size)
 go_wp2_with (go_at_call 100;with_reducible refine(d2.out _ f2).mono ?_;rintro e w3 ⟨rfl,hb3⟩)
 go_ret
 exact⟨rfl,f2.trans (hb3.mono f2.size)⟩
def RowT (n:Nat) (w:World) (v:Value) (L:List Tm):Prop:=
 ∃a c,v= .slice a L.length c∧∀(k:Nat) T,L[k]?=some T→∃b vs,a=some ⟨b,0,none⟩∧b<n∧TmV n w T vs∧∀(j:Nat) u,vs[j]?=some u→w.cell? ⟨b,k*7+j,none⟩=some u
theorem RowT.below (h:RowT n w v L) (hb:Below m w w') (hm:n≤m):RowT n w' v L:=by
 obtain⟨a,c,e,h1⟩:=h;refine⟨a,c,e,fun k T hk=>?_⟩;obtain⟨b,vs,h2,h3,h4,h5⟩:=h1 k T hk;exact⟨b,vs,h2,h3,TmV.below hb hm _ _ h4,fun j u hj=>(hb.cell (p:=⟨b,k*7+j,none⟩) (by show b<m;omega)).trans (h5 j u hj)⟩
theorem RowT.up (h:RowT n w v L) (hm:n≤m):RowT m w v L:=by
 obtain⟨a,c,e,h1⟩:=h;refine⟨a,c,e,fun k T hk=>?_⟩;obtain⟨b,vs,h2,h3,h4,h5⟩:=h1 k T hk;exact⟨b,vs,h2,by omega,TmV.up hm _ _ h4,h5⟩
theorem OutT.rowT {base:Nat} (h:OutT n base w v L) (hn:n≤w.heap.size):RowT w.heap.size w v L:=by
 obtain⟨a,c,e,h1⟩:=h.read;refine⟨a,c,e,fun k T hk=>?_⟩;obtain⟨g,vs,h2,h3,h4,h5⟩:=h1 k T hk;exact⟨g,vs,h2,h3,TmV.up hn _ _ h4,h5⟩
theorem VC (L:List Tm) (n:Nat) (w:World) (v v':Value) (hL:∀T∈L,T.errE=0∧T.faultE=0) (a7:L.length≤10000) (h:RowT n w v L) (h':RowT n w v' L) (hn:n≤w.heap.size):
  Calls Tryz.prog 21 #[v,v'] w fun e w'=>e= .returned (.bool true)∧Below w.heap.size w w':=by
 have hA:Aside ((∀w2,Below w.heap.size w w2→RowT n w2 v L∧RowT n w2 v' L)∧(∀T∈L,T.errE=0∧T.faultE=0)∧n≤w.heap.size):=⟨fun w2 hb=>⟨h.below hb hn,h'.below hb hn⟩,hL,hn⟩;obtain⟨a,c,rfl,_⟩:=h;obtain⟨a',c',rfl,_⟩:=h';obtain⟨len,hl⟩:∃x,L.length=x:=⟨_,rfl⟩;have Al:=aside hl;rw [hl] at a7 hA ⊢;clear hl hL hn;go_enter Tryz.func21,Tryz.ntmps21;go_wp2
 go_loopw [5] (fun s wr=>∃i:Nat,s= .int .i64 i∧i≤len∧Below w.heap.size w wr) (fun s _=>len-(intOf s).toNat)
 case atStart=>exact⟨0,rfl,aT _,aI _ _⟩
 case round=>
  obtain⟨wo,rfl⟩:∃wo,wo=wr:=⟨_,rfl⟩;obtain⟨i,rfl,hi,hB⟩:=hrel
  by_cases b4:i<len
  case neg=>
   obtain rfl:i=len:=by omega
   go_wp2
   go_ret
   exact⟨rfl,hB⟩
  obtain⟨T,hT⟩:∃T,L[i]?=some T:=⟨L[i]'(by rw [Al.out];exact b4),aL _⟩;obtain⟨r1,r2⟩:=hA.out.1 wo hB;obtain⟨_,_,e1,s1⟩:=r1;obtain⟨_,_,e2,s2⟩:=r2;injection e1 with e1 e3 e4
  injection e2 with e2 e5 e6
  subst e1;subst e2;clear e3 e4 e5 e6;obtain⟨b,vs,rfl,hb1,hT1,hc1⟩:=s1 i T hT;obtain⟨b',us,rfl,hb2,hT2,hc2⟩:=s2 i T hT;have a6:=hA.out.2.1 T (aX hT);have a8:=aE hA.out.2.2 hB.size;have dst:Aside (∀w2,Below wo.heap.size wo w2→Calls Tryz.prog 38 #[.agg vs.toArray,.agg us.toArray] w2 fun e w'=>e= .returned (.bool true)∧Below w2.heap.size w2 w'):=fun w2 hb=>VD T n w2 vs us a6.1 a6.2 (TmV.below hb a8 _ _ hT1) (TmV.below hb a8 _ _ hT2) (aE a8 hb.size)
  obtain⟨k1,v1,nm1,g1,a4,a3,a0⟩:=T;simp only [TmV] at hT1 hT2;obtain⟨_,_,a1,c1,rfl,⟨⟨p1,q1,rfl,_⟩,⟨p2,q2,rfl,_⟩⟩,_⟩:=hT1;obtain⟨_,_,a2,c2,rfl,⟨⟨p3,q3,rfl,_⟩,⟨p4,q4,rfl,_⟩⟩,_⟩:=hT2;generalize a0.length=l1 at*;generalize a4.length=n1 at*;generalize a3.length=n2 at*;replace dst:Aside (∀w2,Below wo.heap.size wo w2→Calls Tryz.prog 38 #[.agg #[.int .i64 k1,.int .i64 v1,.string nm1,.bool g1,.slice p1 n1 q1,.slice p2 n2 q2,.slice a1 l1 c1],.agg #[.int .i64 k1,.int .i64 v1,.string nm1,.bool g1,.slice p3 n1 q3,.slice p4 n2 q4,.slice a2 l1 c2]] w2 fun e w'=>e= .returned (.bool true)∧Below w2.heap.size w2 w'):=dst;have ya:Aside (∀w2,Below wo.heap.size wo w2→_):=fun(w2:World) (hb:Below wo.heap.size wo w2)=>jP (w:=wo) (w2:=w2) (b:=b) (o:=i*7) (fun p hp=>hb.cell (by rw [hp];omega)) hc1
  have yb:Aside (∀w2,Below wo.heap.size wo w2→_):=fun(w2:World) (hb:Below wo.heap.size wo w2)=>jP (w:=wo) (w2:=w2) (b:=b') (o:=i*7) (fun p hp=>hb.cell (by rw [hp];omega)) hc2
  have b5:(i:Int)<(len:Int):=by omega
  have b6:(0:Int)≤(i:Int):=by omega
  have b7:IntKind.i64.wrap ((i:Int)+1)=(i:Int)+1:=by rw [aG];omega
  clear hc1 hc2 hT s1 s2 a6 hA
  go_upto_region 6 with fail
  have fd:Below wo.heap.size wo wo.drew:=dI _ _;refine Heavy.region_plan (fun w'=>Below wo.heap.size wo w') 9 (Heavy.lights [0,1,2,3,4,5,6,7] (.one 8 .done)) (by kernel_rfl) (by kernel_rfl) fd ?_;simp only [Heavy.lights,bB,bJ,bF,bE]
  iterate 3 ((apply Heavy.light_n;(exact rfl);(exact rfl);(intro a5 hw;go_simp;exact rfl));(refine Heavy.norm_a (by go_simp;exact rfl) ?_))
  (apply Heavy.light_n;(exact rfl);(exact rfl);(intro a5 hw;obtain⟨y0,y1,y2,y3,y4,y5,y6⟩:=ya.out a5 hw;go_simp;exact rfl));(refine Heavy.norm_a (by go_simp;exact rfl) ?_)
  iterate 3 ((apply Heavy.light_n;(exact rfl);(exact rfl);(intro a5 hw;go_simp;exact rfl));(refine Heavy.norm_a (by go_simp;exact rfl) ?_))
  (apply Heavy.light_n;(exact rfl);(exact rfl);(intro a5 hw;obtain⟨y0,y1,y2,y3,y4,y5,y6⟩:=yb.out a5 hw;go_simp;exact rfl));(refine Heavy.norm_a (by go_simp;exact rfl) ?_)
  (apply Heavy.one_n;(exact rfl);(exact rfl));go_simp
  refine(dst.out _ fd).mono ?_;rintro e w6 ⟨rfl,hb6⟩;have f6:Below wo.heap.size wo w6:=fd.trans (hb6.mono fd.size);refine⟨_,rfl,f6,?_⟩
  (refine Heavy.norm_a (by go_simp;exact rfl) ?_)
  apply Heavy.plan_end;show wpList _ _ _ _ _ _;have f7:Below w.heap.size w w6:=hB.trans (f6.mono hB.size);go_wp2;go_roundw
  case rel=>exact⟨i+1,by simp,by omega,f7⟩
  case measure=>simp [intOf];omega
end
section
attribute [local go_sem] Heavy.uponW
theorem Bg {T U:Tm} (h:T.faultE=0) (hU:U∈T.lits):U.errE=0∧U.faultE=0:=by
 obtain⟨h1,h2⟩:=jG h;obtain⟨h3,h4⟩:=DT T U hU;refine⟨h3 h2,?_⟩;unfold Tm.faultE;rw [if_neg (by omega)];exact h3 h2
theorem ZG (C:Cl) (n:Nat) (w:World) (vs:List Value) (h:ClV n w C vs) (hn:n≤w.heap.size)
  (a6:∀w',Below w.heap.size w w'→Calls Tryz.prog 10 #[] w' fun e c5=>e= .returned (.bool true)∧Below w'.heap.size w' c5):
  Calls Tryz.prog 5 #[.agg vs.toArray] w fun e w'=>e= .returned (.bool true)∧Below w.heap.size w w':=by
 have a0:=aside a6;have dW:Aside (∀w2,Below w.heap.size w w2→Calls Tryz.prog 18 #[.agg vs.toArray] w2 (WLitP w2 C)):=fun w2 hb=>TG C n w2 vs (h.below hb hn) (aE hn hb.size)
 have dR:Aside (∀w2,Below w.heap.size w w2→Calls Tryz.prog 19 #[.agg vs.toArray] w2 fun e w'=>e= .returned (.int .i64 C.flt)∧Below w2.heap.size w2 w'):=fun w2 hb=>ZB C n w2 vs (h.below hb hn) (aE hn hb.size)
 obtain⟨FL,hFL⟩:∃f,C.flt=f:=⟨_,rfl⟩;rw [hFL] at dR;unfold WLitP at dW;rw [hFL] at dW;obtain⟨vh,vb,rfl,h1,h2⟩:=h;obtain⟨LT,hLT⟩:∃x,C.b.lits=x:=⟨_,rfl⟩;obtain⟨LB,hLB⟩:∃x,C.b.litsB=x:=⟨_,rfl⟩;rw [hLT] at dW;have b5:Aside (FL=0→(∀T∈LT,T.errE=0∧T.faultE=0)∧LT.length≤10000):=by
  show _→_;intro hz;have hf:=hFL.trans hz;refine⟨fun T hT=>Bg (sN hf).2.1 (by rw [hLT];exact hT),?_⟩;have:=qV hf;rw [hLT] at this;exact this
 have dB:Aside (FL=0→∀w2,Below w.heap.size w w2→Calls Tryz.prog 20 #[.agg vb.toArray] w2 fun e w'=>∃v,e= .returned (.tuple #[v,.bool LB])∧OutT n w2.heap.size w' v LT∧Below w2.heap.size w2 w'):=by
  show _→_;intro hz w2 hb;have b8:=jG (sN (hFL.trans hz)).2.1;have:=xP C.b n w2 vb b8.2 b8.1 (TmV.below hb hn _ _ h2) (aE hn hb.size);unfold dN at this;rw [hLT,hLB] at this;exact this
 have c3:=aside hn;clear a6 hFL hLT hLB hn;obtain⟨th,tb,vars⟩:=C;dsimp only at h1 h2 dW dR;obtain⟨k1,v1,nm1,g1,b3,a9,a4⟩:=th;obtain⟨k2,v2,nm2,g2,b4,b1,a5⟩:=tb;simp only [TmV] at h1 h2;obtain⟨_,_,a1,c1,rfl,⟨⟨p1,q1,rfl,_⟩,⟨p2,q2,rfl,_⟩⟩,_⟩:=h1;obtain⟨_,_,a2,c2,rfl,⟨⟨p3,q3,rfl,_⟩,⟨p4,q4,rfl,_⟩⟩,_⟩:=h2;generalize a4.length=l1 at*;generalize b3.length=n1 at*;generalize a9.length=n2 at*;generalize a5.length=l2 at*;generalize b4.length=n3 at*;generalize b1.length=n4 at*;replace dW:Aside (∀w2,Below w.heap.size w w2→Calls Tryz.prog 18 #[.agg #[.int .i64 k1,.int .i64 v1,.string nm1,.bool g1,.slice p1 n1 q1,.slice p2 n2 q2,.slice a1 l1 c1,.int .i64 k2,.int .i64 v2,.string nm2,.bool g2,.slice p3 n3 q3,.slice p4 n4 q4,.slice a2 l2 c2,.int .i64 vars]] w2 fun e w'=>∃v,e= .returned (.tuple #[v,.int .i64 FL])∧Below w2.heap.size w2 w'∧(FL≠0→v= .slice none 0 0)∧(FL=0→LitRow w' v LT)):=dW;replace dR:Aside (∀w2,Below w.heap.size w w2→Calls Tryz.prog 19 #[.agg #[.int .i64 k1,.int .i64 v1,.string nm1,.bool g1,.slice p1 n1 q1,.slice p2 n2 q2,.slice a1 l1 c1,.int .i64 k2,.int .i64 v2,.string nm2,.bool g2,.slice p3 n3 q3,.slice p4 n4 q4,.slice a2 l2 c2,.int .i64 vars]] w2 fun e w'=>e= .returned (.int .i64 FL)∧Below w2.heap.size w2 w'):=dR;replace dB:Aside (FL=0→∀w2,Below w.heap.size w w2→Calls Tryz.prog 20 #[.agg #[.int .i64 k2,.int .i64 v2,.string nm2,.bool g2,.slice p3 n3 q3,.slice p4 n4 q4,.slice a2 l2 c2]] w2 fun e w'=>∃v,e= .returned (.tuple #[v,.bool LB])∧OutT n w2.heap.size w' v LT∧Below w2.heap.size w2 w'):=dB;have b0:=aC w (Obj.cells #[.int .i64 k1,.int .i64 v1,.string nm1,.bool g1,.slice p1 n1 q1,.slice p2 n2 q2,.slice a1 l1 c1,.int .i64 k2,.int .i64 v2,.string nm2,.bool g2,.slice p3 n3 q3,.slice p4 n4 q4,.slice a2 l2 c2,.int .i64 vars] 50);have hq:=heap_alloc_new w (Obj.cells #[.int .i64 k1,.int .i64 v1,.string nm1,.bool g1,.slice p1 n1 q1,.slice p2 n2 q2,.slice a1 l1 c1,.int .i64 k2,.int .i64 v2,.string nm2,.bool g2,.slice p3 n3 q3,.slice p4 n4 q4,.slice a2 l2 c2,.int .i64 vars] 50);obtain⟨wb,hwb⟩:∃wb,w.alloc (Obj.cells #[.int .i64 k1,.int .i64 v1,.string nm1,.bool g1,.slice p1 n1 q1,.slice p2 n2 q2,.slice a1 l1 c1,.int .i64 k2,.int .i64 v2,.string nm2,.bool g2,.slice p3 n3 q3,.slice p4 n4 q4,.slice a2 l2 c2,.int .i64 vars] 50)=wb:=⟨_,rfl⟩;have c4:wb.heap.size=w.heap.size+1:=by rw [←hwb];simp
 rw [hwb] at b0 hq;have fa:Aside (∀w2,Below wb.heap.size wb w2→w2.heap[w.heap.size]?=some (.cells #[.int .i64 k1,.int .i64 v1,.string nm1,.bool g1,.slice p1 n1 q1,.slice p2 n2 q2,.slice a1 l1 c1,.int .i64 k2,.int .i64 v2,.string nm2,.bool g2,.slice p3 n3 q3,.slice p4 n4 q4,.slice a2 l2 c2,.int .i64 vars] 50)):=fun w2 hb=>(hb.block w.heap.size (by omega)).trans hq
 have a3:Aside (∀w2,Below wb.heap.size wb w2→Below w.heap.size w w2):=fun w2 hb=>b0.trans (hb.mono b0.size)
 obtain⟨x0,x1,x2,x3,x4,x5,x6,x7,x8,x9,x10,x11,x12,x13,x14⟩:=jX hq;clear hq c4;show Calls Tryz.prog 5 #[.agg #[.int .i64 k1,.int .i64 v1,.string nm1,.bool g1,.slice p1 n1 q1,.slice p2 n2 q2,.slice a1 l1 c1,.int .i64 k2,.int .i64 v2,.string nm2,.bool g2,.slice p3 n3 q3,.slice p4 n4 q4,.slice a2 l2 c2,.int .i64 vars]] w _;go_enter Tryz.func5,Tryz.ntmps5
 go_upto_region 1 with fail
 try rw [hwb]
 clear hwb
 go_wp2_with (go_at_call 18;with_reducible refine(dW.out wb b0).mono ?_)
 rintro e w2 ⟨b9,rfl,hb2,hnz,hz⟩;clear x0 x1 x2 x3 x4 x5 x6 x7 x8 x9 x10 x11 x12 x13 x14 b0;have b2:=aside2 hnz hz;clear hnz hz;obtain⟨x0,x1,x2,x3,x4,x5,x6,x7,x8,x9,x10,x11,x12,x13,x14⟩:=jX (fa.out w2 hb2)
 go_wp2_with (go_at_call 19;with_reducible refine(dR.out w2 (a3.out w2 hb2)).mono ?_)
 rintro e w3 ⟨rfl,hb3⟩;clear x0 x1 x2 x3 x4 x5 x6 x7 x8 x9 x10 x11 x12 x13 x14;have f3:Below wb.heap.size wb w3:=hb2.trans (hb3.mono hb2.size)
 by_cases a8:FL=0
 case neg=>
  have c6:(FL !=0)=true:=by simpa using a8
  obtain rfl:=b2.out.1 a8;clear a8
  go_wp2_with (go_at_call 10;with_reducible refine(a0.out w3 (a3.out w3 f3)).mono ?_;rintro e w4 ⟨rfl,hb4⟩)
  all_goals go_ret
  all_goals exact⟨rfl,(a3.out w3 f3).trans (hb4.mono (a3.out w3 f3).size)⟩
 subst a8;have a7:=b2.out.2 (by trivial);obtain⟨x0,x1,x2,x3,x4,x5,x6,x7,x8,x9,x10,x11,x12,x13,x14⟩:=jX (fa.out w3 f3);have c0:=dB.out (by trivial) w3 (a3.out w3 f3);clear dB
 go_wp2_with (go_at_call 20;with_reducible refine c0.mono ?_)
 rintro e w4 ⟨v4,rfl,hO4,hb4⟩;clear x0 x1 x2 x3 x4 x5 x6 x7 x8 x9 x10 x11 x12 x13 x14;have f4:Below wb.heap.size wb w4:=f3.trans (hb4.mono f3.size);have b6:RowT w2.heap.size w4 b9 LT:=(RowT.below (w:=w2) a7 hb3 (aA _)).below hb4 hb3.size;have b7:=hO4.rowT (aE c3.out (a3.out w4 f4).size);have dS:=VC LT w4.heap.size w4 b9 v4 (b5.out (by trivial)).1 (b5.out (by trivial)).2 (b6.up (aE hb3.size hb4.size)) b7 (aA _);clear a7 b2 hO4 b6 b7
 go_wp2_with (first|(go_at_call 21;with_reducible refine dS.mono ?_;rintro e w5 ⟨rfl,hb5⟩;have f5:Below w.heap.size w w5:=(a3.out w4 f4).trans (hb5.mono (a3.out w4 f4).size))|(go_at_call 10;with_reducible refine(a0.out _ (by assumption)).mono ?_;rintro e w6 ⟨rfl,hb6⟩))
 go_ret
 exact⟨rfl,f5.trans (hb6.mono f5.size)⟩
end
end Go.Proofs.YtbdpdeonapmlgaaGreatDoor
namespace Go.Proofs
open Go.RowKit Go.Maps Go.Sort Go.Shelf
attribute [local go_sem] Oper.semAt_some
def Tryz.upto {α:Type} (f:Nat→α) (k:Nat):List α:=(List.range k).map f
theorem Tryz.upto_succ {α:Type} (f:Nat→α) (k:Nat):Tryz.upto f (k+1)=Tryz.upto f k++ [f k]:=by simp [Tryz.upto,List.range_succ]
theorem Tryz.upto_length {α:Type} (f:Nat→α) (k:Nat):(Tryz.upto f k).length=k:=by simp [Tryz.upto]
theorem Tryz.upto_all (zs:List Int):Tryz.upto (fun j=>zs[j]?.getD 0) zs.length=zs:=by
 apply SM
 ·simp [Tryz.upto]
 ·intro i h1 h2;simp [Tryz.upto,h2]
theorem Tryz.values1_in (F:Fence) (n:Nat) (h7:F.fn 327) (a4:F.round=none) (hn:1≤n) (l Bs oB b off len cap:Nat) (zs:List Int) (a0:len*8≤140737488351232) (J:List Int→World→Prop)
  (hY:∀pre x W,J pre W→pre.length<len→YieldAt F (n-1) Tryz.prog l #[.int .i64 x] W fun e W'=>
   e= .returned (.bool true)∧J (pre++ [x]) W'∧KeepsWalks W W')
  (W:World) (a5:W.cell? ⟨Bs,oB,none⟩=some (.slice (some ⟨b,off,none⟩) len cap)) (hc:∀pre W,J pre W→∀j,j<len→W.cell? ⟨b,off+j,none⟩=some (.int .i64 (zs[j]?.getD 0))) (h0:J [] W):
  CallsIn F n Tryz.prog 327 #[.func (.yield l) #[] #[],.pointer (some ⟨Bs,oB,none⟩)] W fun e W'=>(∃v,e= .returned v)∧
   J (Tryz.upto (fun j=>zs[j]?.getD 0) len) W':=by
 refine callsIn_of_wp Tryz.func327 rfl h7 ?_ a4;simp only [Tryz.ntmps327,tP,fU,rJ,Nat.reduceAdd,Nat.reduceSub,Hi,Hh,List.push_toArray,Hd,oF,oJ]
 gi_wp2
 gi_loopw [7] (fun i wr=>∃k:Nat,k≤len∧i= .int .i64 k∧J (Tryz.upto (fun j=>zs[j]?.getD 0) k) wr)
  (fun i _=>len-(Go.RowKit.intOf i).toNat)
 case atStart=>exact⟨0,aT _,rfl,h0⟩
 case round=>
  obtain⟨k,hk,rfl,hJs⟩:=hrel;have a2:=hc _ _ hJs
  by_cases a1:k<len
  ·obtain⟨fn,tmps,assign,body,hy,hR⟩:=hY _ (zs[k]?.getD 0) wr hJs (by rw [Tryz.upto_length];exact a1);have a3:=a2 k a1
   gi_wp2
   refine hR.mono ?_;rintro e W3 ⟨rfl,hJ3,hk3⟩
   gi_wp2
   go_roundw
   case rel=>exact⟨k+1,by omega,by simp,by rw [Tryz.upto_succ];exact hJ3⟩
   case measure=>simp [Go.RowKit.intOf];omega
  ·obtain rfl:k=len:=by omega
   gi_wp2
   go_end0
   exact⟨⟨_,rfl⟩,hJs⟩
end Go.Proofs
namespace Go.Proofs
open Go.Shelf
def Tryz.apL_ren:Go.Shelf.Ren:=⟨fun|11=>347|n=>n,fun|24=>64|26=>3|28=>314|0=>0|33=>119|4=>4|n=>n,fun|n=>n⟩
theorem Tryz.apL:Go.Proofs.SlLaysZI.n11 Tryz.prog Tryz.apL_ren:={
 mixed:=by kernel_rfl
 f11:=⟨Tryz.f347.name,by decide,Tryz.func347.trans (congrArg some (by kernel_rfl))⟩
 t0:=Tryz.underlying0
 a0:=Tryz.isAgg0
 z0:=Tryz.sizeOf0
 v0:=Tryz.zeroValue0
 t24:=Tryz.underlying64
 a24:=Tryz.isAgg64
 z24:=Tryz.sizeOf64
 v24:=Tryz.zeroValue64
 t26:=Tryz.underlying3
 a26:=Tryz.isAgg3
 z26:=Tryz.sizeOf3
 v26:=Tryz.zeroValue3
 t28:=Tryz.underlying314
 a28:=Tryz.isAgg314
 z28:=Tryz.sizeOf314
 v28:=Tryz.zeroValue314
 i26:=by kernel_rfl }
end Go.Proofs
namespace Go.Proofs
open Go.RowKit Go.Maps Go.Sort Go.Shelf
attribute [local go_sem] Oper.semAt_some
variable {P:Program} {ρ:Ren}
theorem AnyZI.appendSeqAt_in (L:SlLaysZI.n11 P ρ) (F:Fence) (n:Nat) (b3:F.fn (ρ.f 11)) (b1:F.round=none) (hn:2≤n) (g:Nat) (lb:Array Value) (b4:F.fn g) (eg:∀args w,(callFunc g args).run P w= .ok (.enter g args) w)
    (S:List Int→Prop) (N:Nat) (hN:N≤maxLen) (b5:N*8≤140737488355328) (w:World)
    (a5:∀(l fn D:Nat) (W:World),(∀pre x W1,AnyZI.ApAt ρ w fn (.func (.func g) #[] lb) w.heap.size l D pre W1→pre.length<N→YieldAt F (n-1-1) P l #[encZ x] W1 fun e W'=>e= .returned (.bool true)∧AnyZI.ApAt ρ w fn (.func (.func g) #[] lb) w.heap.size l D (pre++ [x]) W'∧KeepsWalks W1 W')→
      AnyZI.ApAt ρ w fn (.func (.func g) #[] lb) w.heap.size l D [] W→
      CallsIn F (n-1) P g (#[.func (.yield l) #[] #[]]++lb) W fun e W'=>(∃v,e= .returned v)∧∃xs,S xs∧AnyZI.ApAt ρ w fn (.func (.func g) #[] lb) w.heap.size l D xs W'):
    CallsIn F n P (ρ.f 11) #[.slice none 0 0,.func (.func g) #[] lb] w fun e w'=>∃(v:Value) (ss:List Int),e= .returned v∧S ss∧w'.ownsRow w.heap.size (ρ.t 26) 1 v ss.length (ss.map encZ)∧(v= .slice none 0 0↔ss= [])∧Below w.heap.size w w':=by
  have h1:1≤n:=by omega
  have mixed:=L.mixed;have t0:=L.t0;have a0:=L.a0;have z0:=L.z0;have v0:=L.v0;have t24:=L.t24;have a24:=L.a24;have z24:=L.z24;have v24:=L.v24;have t26:=L.t26;have a26:=L.a26;have z26:=L.z26;have v26:=L.v26;have t28:=L.t28;have a28:=L.a28;have z28:=L.z28;have v28:=L.v28;have b0:ρ.t 24≠ρ.t 26:=fun e=>by have h:=L.t24;rw [e,L.t26] at h;cases h
  have u0:=dV L.t0;have c3:=dV L.t24;have c4:=dV L.t26;have c5:=dV L.t28;obtain⟨_,_,FG⟩:=L.f11;refine callsIn_of_wp_marks FG rfl b3 ?_ b1;simp only [SlBodyZ.n11_ntmps ρ,tP,fU,rJ,Nat.reduceAdd,Nat.reduceSub,Hi,Hh,List.push_toArray,Hd,oF,oJ]
  gi_wp2
  refine wpIn_rangeFunc ?_;intro fn b7;rw [b1];obtain⟨W0,hW0⟩:∃W0,w.alloc (.cells #[.slice none 0 0] (ρ.t 24))=W0:=⟨_,rfl⟩;have b8:W0.heap.size=w.heap.size+1:=by rw [←hW0];simp
  have b9:W0.heap[w.heap.size]?=some (.cells #[.slice none 0 0] (ρ.t 24) (0,0)):=by rw [←hW0];exact RG w _
  have a3:Below w.heap.size w W0:=by rw [←hW0];exact(aI _ w).alloc (aA _) _
  rw [hW0];obtain⟨W1,hW1⟩:∃W1,(W0.alloc (.deferred (some []))).alloc (.loop (AnyZI.apRec ρ fn (.func (.func g) #[] lb) w.heap.size W0.heap.size .ready none))=W1:=⟨_,rfl⟩;have a4:∀k,k<W0.heap.size→W1.heap[k]?=W0.heap[k]?:=fun k hk=>by
    rw [←hW1];exact(SX _ _ k (by simp;omega)).trans (SX _ _ k hk)
  have b6:Below w.heap.size w W1:=by rw [←hW1];exact(a3.alloc a3.size _).alloc (by have:=a3.size;simp;omega) _
  have c2:W1.heap.size=W0.heap.size+2:=by rw [←hW1];simp
  have hM:AnyZI.ApAt ρ w fn (.func (.func g) #[] lb) w.heap.size (W0.heap.size+1) W0.heap.size [] W1:=
    ⟨⟨_,(a4 w.heap.size (by omega)).trans b9,⟨rfl,.inl ⟨rfl,rfl⟩⟩,by simp⟩,
     by rw [←hW1];have:=RG (W0.alloc (.deferred (some []))) (.loop (AnyZI.apRec ρ fn (.func (.func g) #[] lb) w.heap.size W0.heap.size .ready none));rwa [cT] at this,
     by rw [←hW1];exact(SX _ _ _ (by simp)).trans (RG W0 _),b6⟩
  refine⟨W0.heap.size+1,[{ target:=.collected W0.heap.size,args:=#[] }],W1,{ target:=.fn (.func g) lb,args:=#[.func (.yield (W0.heap.size+1)) #[] #[]] },W1,g,
    #[.func (.yield (W0.heap.size+1)) #[] #[]]++lb,W1,?_,?_,?_,?_,fun _=>h1,?_⟩
  · rw [←hW1];exact run_enterLoop_outer _ _ _ _ _
  · simp [resolve,go_sem]
  · intro f' a8;simp [Target.leads] at a8;subst a8;exact b4
  · simp [invoke,go_sem,eg]
  · refine(a5 (W0.heap.size+1) fn W0.heap.size W1
      (fun pre x W hJ hl=>AnyZI.apYield { L with } F (n-1-1) w fn b7 _ w.heap.size (W0.heap.size+1) W0.heap.size (by omega) (by omega) (by omega) (aA _) (by omega) N hN b5 pre x W hJ hl) hM).mono ?_
    rintro e W2 ⟨⟨v0,rfl⟩,ss,hS,h2⟩;obtain⟨v,hv,hrow,hnil⟩:=h2.box;have a2:=run_endLoop (P:=P) h2.L (by simp [AnyZI.apRec]);obtain⟨W3,hW3⟩:∃W3,W2.putObj (W0.heap.size+1) (.loop { AnyZI.apRec ρ fn (.func (.func g) #[] lb) w.heap.size W0.heap.size .ready none with state:=.exhausted })=W3:=⟨_,rfl⟩;rw [hW3] at a2;have a9:W2.grownBy W3 (some (W0.heap.size+1)):=by rw [←hW3];exact grownBy_putObj_a _ _ _
    have c0:W3.heap[w.heap.size]?=some (.cells #[v] (ρ.t 24) (0,0)):=by rw [←hW3];exact(Fv (by omega)).trans hv
    have a6:W3.heap[W0.heap.size]?=some (.deferred (some [])):=by rw [←hW3];exact(Fv (by omega)).trans h2.K
    have a1:=hrow.kept a9 (ownsRow_ne_a hrow h2.L (fun b2 e=>by first|cases e|exact b0 (Obj.cells.inj e).2.1));have a7:Below w.heap.size w W3:=h2.below.grown a9 h2.below.size (fun k e=>by cases e;omega);obtain⟨c1,hf3⟩:=cell_of_box_a c0;clear hW3;refine⟨none,W3,a2,?_⟩
    gi_wp2
    rw [←b8];refine⟨by simp,.inl ⟨_,_,rfl,run_takeDeferred a6,?_⟩⟩;exact⟨_,results_tmp rfl _ _ _,v,ss,rfl,hS,a1.kept (grownBy_putObj_a _ _ _) (ownsRow_ne_a a1 a6 (fun b2 e=>by first|cases e|exact b0 (Obj.cells.inj e).2.1)),hnil,a7.grown (grownBy_putObj_a _ _ _) a7.size (fun k e=>by cases e;omega)⟩
end Go.Proofs
