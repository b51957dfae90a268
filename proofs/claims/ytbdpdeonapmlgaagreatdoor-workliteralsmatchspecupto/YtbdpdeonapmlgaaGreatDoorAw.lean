/- Lemmas for the text Card; no condition. -/
import Derived.Test.YtbdpdeonapmlgaaGreatDoorAv
set_option linter.all false
set_option maxHeartbeats 4000000
set_option maxRecDepth 100000
namespace Go.Proofs.YtbdpdeonapmlgaaGreatDoor
open Go.RowKit Go.Big Go.RowsK Go.MapK
variable {w w':World} {L:List Tm} {g c m n:Nat} {S:Nat→Prop} {vs:List Value} {T:Tm}
mutual
theorem TmV.toS {n:Nat} {w:World}:∀(T:Tm) (vs:List Value),TmV n w T vs→TmS (fun b=>b<n) w T vs
 | .mk k v nm g num den args,vs,h=>by
  simp only [TmV] at h;simp only [TmS];obtain⟨_,_,a,c,e,⟨⟨a1,c1,rfl,h1⟩,⟨a2,c2,rfl,h2⟩⟩,h3,h4⟩:=h;exact⟨a1,c1,a2,c2,a,c,e,h1,h2,cR.toS args a 0 h3,h4⟩
theorem cR.toS {n:Nat} {w:World}:∀(L:List Tm) (a:Option Addr) (i:Nat),cR n w L a i→TmsS (fun b=>b<n) w L a i
 | [],_,_,_=>by simp only [TmsS]
 |T::r,a,i,h=>by
  simp only [cR] at h;simp only [TmsS];obtain⟨⟨b,off,vs,e,hb,hc,hv⟩,hr⟩:=h;exact⟨⟨b,off,vs,e,hb,hc,TmV.toS T vs hv⟩,cR.toS r a (i+1) hr⟩
end
theorem TmS.len (h:TmS S w T vs):vs.length=7:=by
 obtain⟨k,v,nm,g,num,den,args⟩:=T;simp only [TmS] at h;obtain⟨_,_,_,_,_,_,rfl,_⟩:=h;rfl
theorem TmS.one (h:TmS S w T vs):∀u∈vs,u.oneCell'=true:=by
 obtain⟨k,v,nm,g,num,den,args⟩:=T;simp only [TmS] at h;obtain⟨_,_,_,_,_,_,rfl,_⟩:=h;intro u hu;simp only [cD,SG,GL] at hu;rcases hu with rfl|rfl|rfl|rfl|rfl|rfl|rfl<;>rfl
def LitSt (w:World) (g:Nat) (L:List Tm):Prop:=
 ∃a0:Array Value,w.heap[g]?=some (.cells a0 48 (0,0))∧L.length*7≤a0.size∧∀(k:Nat) T,L[k]?=some T→∃vs,(∀(j:Nat) u,vs[j]?=some u→a0[k*7+j]?=some u)∧TmS (fun b=>b≠g∧b<w.heap.size) w T vs
theorem LitSt.lt (h:LitSt w g L):g<w.heap.size:=by
 obtain⟨a0,h1,_⟩:=h;exact(Array.getElem?_eq_some_iff.1 h1).1
theorem LitSt.below (h:LitSt w g L) (hb:Below m w w') (hm:w.heap.size≤m):LitSt w' g L:=by
 obtain⟨a0,h1,h2,h3⟩:=h;refine⟨a0,(hb.block g (aZ (Array.getElem?_eq_some_iff.1 h1).1 hm)).trans h1,h2,fun k T hk=>?_⟩;obtain⟨vs,h4,h5⟩:=h3 k T hk;exact⟨vs,h4,TmS.mono (fun b a3=>⟨a3.1,aZ a3.2 hb.size⟩) _ _ (TmS.keep (Same.of_below hb fun b a3=>aZ a3.2 hm) _ _ h5)⟩
theorem LitSt.of {base:Nat} {nn:Nat} (h:OutT n base w (.slice (some ⟨g,0,none⟩) nn c) L) (hn:n≤base) (b0:nn=L.length):LitSt w g L:=by
 subst b0;obtain⟨X,⟨hl,⟨e,_⟩|⟨g',cap,a0,e,hb,hg,hnc,hm,hs,ht⟩⟩,hX⟩:=h
 ·cases e
 cases e;refine⟨a0,hg,by rw [hs];exact eI _ hnc,fun k T hk=>?_⟩;obtain⟨vs,h1,h2⟩:=hX.get hk;have b3:=(Array.getElem?_eq_some_iff.1 hg).1;refine⟨vs,fun j u hj=>?_,TmS.mono (fun b (a3:b<n)=>⟨by omega,by omega⟩) _ _ (TmV.toS _ _ h1)⟩;have h3:=h2 j u hj;rw [←ht] at h3;have:=List.getElem?_eq_some_iff.1 h3;obtain⟨a8,_⟩:=this;rw [gC (by rw [aU] at a8;omega)] at h3;simpa using h3
theorem LitSt.get (h:LitSt w g L) {k:Nat} {T:Tm} (hk:L[k]?=some T):∃vs,TmV w.heap.size w T vs∧∀(j:Nat) u,vs[j]?=some u→w.cell? ⟨g,k*7+j,none⟩=some u:=by
 obtain⟨a0,h1,h2,h3⟩:=h;obtain⟨vs,h4,h5⟩:=h3 k T hk;exact⟨vs,TmS.toV (fun b hb=>hb.2) _ _ h5,fun j u hj=>by
  have:=h4 j u hj;simp [World.cell?,h1,this]⟩
theorem LitSt.store (h:LitSt w g L) {k:Nat} {T:Tm} (hk:L[k]?=some T) {vs:List Value} (hv:TmS (fun b=>b≠g∧b<w.heap.size) w T vs):
  ∃w1,(storeCells ⟨g,k*7,none⟩ vs 0).run Tryz.prog w= .ok () w1∧LitSt w1 g L∧w.grownBy w1 (some g)∧w1.heap.size=w.heap.size:=by
 obtain⟨a0,h1,h2,h3⟩:=h;have b4:=(List.getElem?_eq_some_iff.1 hk).1;have b2:=hv.len;have b1:=AV (P:=Tryz.prog) g (k*7) 48 vs 0 a0 w h1 (by rw [b2];omega) hv.one;have a5:∀cs,w.grownBy (w.setRow g cs) (some g):=fun cs=>⟨rfl,rfl,rfl,by simp [World.setRow],fun j hj a9=>wK _ _ _ _ fun(e:j=g)=>a9 (by rw [e])⟩
 have a6:∀cs,(w.setRow g cs).heap.size=w.heap.size:=fun cs=>by simp [World.setRow]
 refine⟨_,b1,⟨_,tH _ _ _ _ _ _ h1,?_,fun k' T' a4=>?_⟩,a5 _,a6 _⟩
 ·simp;omega
 ·have keep:∀{T:Tm} {us:List Value} (cs:Array Value),TmS (fun b=>b≠g∧b<w.heap.size) w T us→TmS (fun b=>b≠g∧b<(w.setRow g cs).heap.size) (w.setRow g cs) T us:=fun {T us} cs ht=>by
   rw [a6];exact TmS.keep (fun b hb=>(a5 cs).block b hb.2 (fun e=>hb.1 (aJ e))) _ _ ht
  by_cases e:k'=k
  ·subst e;rw [hk] at a4;injection a4 with a4;subst a4
   refine⟨vs,fun j u hj=>?_,keep _ hv⟩;have a7:=(List.getElem?_eq_some_iff.1 hj).1;rw [SJ,eZ,dO (by simp;omega),eG (by simp;omega)];simp only [aU,cV];rw [kY (by omega),show k'*7+j-(k'*7+0)=j by omega];exact hj
  ·obtain⟨us,h4,h5⟩:=h3 k' T' a4;refine⟨us,fun j u hj=>?_,keep _ h5⟩;have b5:=h5.len;have a7:=(List.getElem?_eq_some_iff.1 hj).1;have hc:=h4 j u hj;rw [SJ];rcases Nat.lt_or_gt_of_ne e with q|q
   ·rw [eZ,eG (by simp;omega),gC (by omega)];simpa using hc
   ·rw [dO (by simp;omega),iR];simp only [aK,aU,cV];rw [kY (by omega),show k*7+0+vs.length+(k'*7+j-(k*7+0+vs.length))=k'*7+j by omega];simpa using hc
def LitRow (w':World) (v:Value) (L:List Tm):Prop:=
 ∃a c,v= .slice a L.length c∧∀(k:Nat) T,L[k]?=some T→∃b vs,a=some ⟨b,0,none⟩∧b<w'.heap.size∧TmV w'.heap.size w' T vs∧∀(j:Nat) u,vs[j]?=some u→w'.cell? ⟨b,k*7+j,none⟩=some u
theorem LitSt.row (h:LitSt w g L):LitRow w (.slice (some ⟨g,0,none⟩) L.length c) L:=
 ⟨_,c,rfl,fun k T hk=>by
  obtain⟨vs,h1,h2⟩:=h.get hk;exact⟨g,vs,rfl,h.lt,h1,h2⟩⟩
section
attribute [local go_sem] Heavy.uponW
def WLitP (w:World) (C:Cl) (e:Ending) (w':World):Prop:=
 ∃v,e= .returned (.tuple #[v,.int .i64 C.flt])∧Below w.heap.size w w'∧(C.flt≠0→v= .slice none 0 0)∧(C.flt=0→LitRow w' v C.b.lits)
theorem TG (C:Cl) (n:Nat) (w:World) (vs:List Value) (h:ClV n w C vs) (hn:n≤w.heap.size):
  Calls Tryz.prog 18 #[.agg vs.toArray] w (WLitP w C):=by
 have hC:=h;obtain⟨FL,hFL⟩:∃f,C.flt=f:=⟨_,rfl⟩;obtain⟨vh,vb,rfl,h1,h2⟩:=h;obtain⟨CC,hCC⟩:∃x,C=x:=⟨_,rfl⟩;have a0:Aside (ClV n w CC (pI vh vb C.vars)∧jQ [CC]=FL∧CC.flt=FL∧n≤w.heap.size∧TmV n w CC.b vb):=by subst hCC;exact⟨hC,(KE C).trans hFL,hFL,hn,h2⟩
 have d3:WLitP w C=WLitP w CC:=by rw [hCC]
 rw [d3];have b6:Aside (FL=0→∀w2,Below w.heap.size w w2→Calls Tryz.prog 59 #[.agg vb.toArray] w2 (dN n w2 CC.b)):=by
  show _→_;intro hz w2 hb;have d7:=jG (sN (a0.out.2.2.1.trans hz)).2.1;exact xZ CC.b n w2 vb d7.2 d7.1 (TmV.below hb hn _ _ a0.out.2.2.2.2) (aE hn hb.size)
 obtain⟨LT,hLT⟩:∃x,CC.b.lits=x:=⟨_,rfl⟩;obtain⟨LB,hLB⟩:∃x,CC.b.litsB=x:=⟨_,rfl⟩;unfold dN at b6;rw [hLT,hLB] at b6;have d1:Aside (CC.b.lits=LT∧(FL=0→LT.length≤10000)):=⟨hLT,fun hz=>by have:=qV (a0.out.2.2.1.trans hz);rw [hLT] at this;exact this⟩;clear hC hFL d3 hCC hLT hLB;obtain⟨th,tb,vars⟩:=C;dsimp only at h1 h2 a0;obtain⟨k1,v1,nm1,g1,c7,b9,b2⟩:=th;obtain⟨k2,v2,nm2,g2,c8,c0,b3⟩:=tb;simp only [TmV] at h1 h2;obtain⟨_,_,a1,c1,rfl,⟨⟨p1,q1,rfl,_⟩,⟨p2,q2,rfl,_⟩⟩,_⟩:=h1;obtain⟨_,_,a2,c2,rfl,⟨⟨p3,q3,rfl,_⟩,⟨p4,q4,rfl,_⟩⟩,_⟩:=h2;generalize b2.length=l1 at*;generalize c7.length=n1 at*;generalize b9.length=n2 at*;generalize b3.length=l2 at*;generalize c8.length=n3 at*;generalize c0.length=n4 at*;have a7:Aside (ClV n w CC [.int .i64 k1,.int .i64 v1,.string nm1,.bool g1,.slice p1 n1 q1,.slice p2 n2 q2,.slice a1 l1 c1,.int .i64 k2,.int .i64 v2,.string nm2,.bool g2,.slice p3 n3 q3,.slice p4 n4 q4,.slice a2 l2 c2,.int .i64 vars]∧jQ [CC]=FL∧CC.flt=FL):=⟨a0.out.1,a0.out.2.1,a0.out.2.2.1⟩;replace b6:Aside (FL=0→∀w2,Below w.heap.size w w2→Calls Tryz.prog 59 #[.agg #[.int .i64 k2,.int .i64 v2,.string nm2,.bool g2,.slice p3 n3 q3,.slice p4 n4 q4,.slice a2 l2 c2]] w2 fun e w'=>∃v,e= .returned (.tuple #[v,.bool LB])∧OutT n w2.heap.size w' v LT∧Below w2.heap.size w2 w'):=b6;have c5:=aside hn;clear a0 hn;have b0:=aC w (Obj.cells #[.int .i64 k1,.int .i64 v1,.string nm1,.bool g1,.slice p1 n1 q1,.slice p2 n2 q2,.slice a1 l1 c1,.int .i64 k2,.int .i64 v2,.string nm2,.bool g2,.slice p3 n3 q3,.slice p4 n4 q4,.slice a2 l2 c2,.int .i64 vars] 50);have hq:=heap_alloc_new w (Obj.cells #[.int .i64 k1,.int .i64 v1,.string nm1,.bool g1,.slice p1 n1 q1,.slice p2 n2 q2,.slice a1 l1 c1,.int .i64 k2,.int .i64 v2,.string nm2,.bool g2,.slice p3 n3 q3,.slice p4 n4 q4,.slice a2 l2 c2,.int .i64 vars] 50);obtain⟨wb,hwb⟩:∃wb,w.alloc (Obj.cells #[.int .i64 k1,.int .i64 v1,.string nm1,.bool g1,.slice p1 n1 q1,.slice p2 n2 q2,.slice a1 l1 c1,.int .i64 k2,.int .i64 v2,.string nm2,.bool g2,.slice p3 n3 q3,.slice p4 n4 q4,.slice a2 l2 c2,.int .i64 vars] 50)=wb:=⟨_,rfl⟩;have e2:wb.heap.size=w.heap.size+1:=by rw [←hwb];simp
 rw [hwb] at b0 hq;have fa:Aside (∀w2,Below wb.heap.size wb w2→w2.heap[w.heap.size]?=some (.cells #[.int .i64 k1,.int .i64 v1,.string nm1,.bool g1,.slice p1 n1 q1,.slice p2 n2 q2,.slice a1 l1 c1,.int .i64 k2,.int .i64 v2,.string nm2,.bool g2,.slice p3 n3 q3,.slice p4 n4 q4,.slice a2 l2 c2,.int .i64 vars] 50)):=fun w2 hb=>(hb.block w.heap.size (by omega)).trans hq
 obtain⟨x0,x1,x2,x3,x4,x5,x6,x7,x8,x9,x10,x11,x12,x13,x14⟩:=jX hq;have b1:=aC wb (Obj.cells #[.int .i64 k1,.int .i64 v1,.string nm1,.bool g1,.slice p1 n1 q1,.slice p2 n2 q2,.slice a1 l1 c1,.int .i64 k2,.int .i64 v2,.string nm2,.bool g2,.slice p3 n3 q3,.slice p4 n4 q4,.slice a2 l2 c2,.int .i64 vars] 50);have d5:=heap_alloc_new wb (Obj.cells #[.int .i64 k1,.int .i64 v1,.string nm1,.bool g1,.slice p1 n1 q1,.slice p2 n2 q2,.slice a1 l1 c1,.int .i64 k2,.int .i64 v2,.string nm2,.bool g2,.slice p3 n3 q3,.slice p4 n4 q4,.slice a2 l2 c2,.int .i64 vars] 50);have dF:Aside (Calls Tryz.prog 58 #[.slice (some ⟨wb.heap.size,0,none⟩) 1 1,.slice none 0 0] (wb.alloc (Obj.cells #[.int .i64 k1,.int .i64 v1,.string nm1,.bool g1,.slice p1 n1 q1,.slice p2 n2 q2,.slice a1 l1 c1,.int .i64 k2,.int .i64 v2,.string nm2,.bool g2,.slice p3 n3 q3,.slice p4 n4 q4,.slice a2 l2 c2,.int .i64 vars] 50)) fun e w'=>e= .returned (.int .i64 FL)∧Below wb.heap.size wb w'):=by
  have hv:ClV n wb CC [.int .i64 k1,.int .i64 v1,.string nm1,.bool g1,.slice p1 n1 q1,.slice p2 n2 q2,.slice a1 l1 c1,.int .i64 k2,.int .i64 v2,.string nm2,.bool g2,.slice p3 n3 q3,.slice p4 n4 q4,.slice a2 l2 c2,.int .i64 vars]:=a7.out.1.below b0 c5.out;refine(UA [CC] (wb.heap.size+1) _ _ 1 1 rfl (OX hv (aE c5.out b0.size) b1 d5) (by rw [cT];exact aA _)).mono ?_;rintro e w' ⟨rfl,hb⟩;exact⟨by rw [a7.out.2.1],b1.trans (hb.mono b1.size)⟩
 have c4:Aside (∀w2,Below wb.heap.size wb w2→Below w.heap.size w w2):=fun w2 hb=>b0.trans (hb.mono b0.size)
 clear hq e2 b0 b1 d5;show Calls Tryz.prog 18 #[.agg #[.int .i64 k1,.int .i64 v1,.string nm1,.bool g1,.slice p1 n1 q1,.slice p2 n2 q2,.slice a1 l1 c1,.int .i64 k2,.int .i64 v2,.string nm2,.bool g2,.slice p3 n3 q3,.slice p4 n4 q4,.slice a2 l2 c2,.int .i64 vars]] w _;go_enter Tryz.func18,Tryz.ntmps18
 go_upto_region 1 with fail
 clear hwb
 go_wp2_with (go_at_call 58;with_reducible refine dF.out.mono ?_)
 rintro e w2 ⟨rfl,hb2⟩;clear x0 x1 x2 x3 x4 x5 x6 x7 x8 x9 x10 x11 x12 x13 x14
 by_cases b8:FL=0
 case neg=>
  have e7:(FL !=0)=true:=by simpa using b8
  have hR:Aside (WLitP w CC (.returned (.tuple #[.slice none 0 0,.int .i64 FL])) w2):=⟨_,by rw [a7.out.2.2],c4.out w2 hb2,fun _=>rfl,fun e=>absurd (a7.out.2.2.symm.trans e) b8⟩;clear b8;go_wp2;refine kW (v:=.tuple #[.slice none 0 0,.int .i64 FL]) (by simp [results,Tryz.results18,go_sem]) rfl ?_;exact hR.out
 subst b8;have dL:=b6.out rfl w2 (c4.out w2 hb2);obtain⟨x0,x1,x2,x3,x4,x5,x6,x7,x8,x9,x10,x11,x12,x13,x14⟩:=jX (fa.out w2 hb2);have b7:Aside (Below w.heap.size w w2):=c4.out w2 hb2
 go_wp2_with (go_at_call 59;with_reducible refine dL.mono ?_)
 rintro e w3 ⟨v9,rfl,hO9,hb3⟩;clear x0 x1 x2 x3 x4 x5 x6 x7 x8 x9 x10 x11 x12 x13 x14 dL;obtain⟨a9,c9,rfl,hr9⟩:=hO9.read2;obtain⟨n9,hn9⟩:∃x,LT.length=x:=⟨_,rfl⟩;rw [hn9] at hO9 ⊢;have d4:n≤w2.heap.size:=aE c5.out b7.out.size;have a4:Aside (Below w.heap.size w w3∧LT.length=n9∧n9≤10000∧(∀g,a9=some ⟨g,0,none⟩→LitSt w3 g LT∧w.heap.size≤g)∧(∀(k:Nat) T,LT[k]?=some T→∃g,a9=some ⟨g,0,none⟩)):=by
  refine⟨b7.out.trans (hb3.mono b7.out.size),hn9,by have:=d1.out.2 (by trivial);omega,fun g hg=>?_,fun k T hk=>?_⟩
  ·subst hg;refine⟨LitSt.of hO9 d4 hn9.symm,?_⟩;obtain⟨X,hX,_⟩:=hO9;exact aE b7.out.size (bT hX g rfl).1
  ·obtain⟨g,vs,e,_⟩:=hr9 k T hk;exact⟨g,e⟩
 have e1:=a4.out.2.2.1;clear hO9 hr9 hb3 hn9 d4;go_wp2
 go_loopw [23] (fun s wr=>∃i:Nat,s= .int .i64 i∧i≤n9∧Below w.heap.size w wr∧∀g,a9=some ⟨g,0,none⟩→LitSt wr g LT∧w.heap.size≤g) (fun s _=>n9-(intOf s).toNat)
 case atStart=>exact⟨0,rfl,aT _,a4.out.1,fun g hg=>a4.out.2.2.2.1 g hg⟩
 case round=>
  obtain⟨wo,rfl⟩:∃wo,wo=wr:=⟨_,rfl⟩;obtain⟨i,rfl,hi,hB,hS⟩:=hrel
  by_cases e0:i<n9
  case neg=>
   obtain rfl:i=n9:=by omega
   have hR:Aside (WLitP w CC (.returned (.tuple #[.slice a9 i c9,.int .i64 0])) wo):=⟨_,by rw [a7.out.2.2],hB,fun e=>absurd a7.out.2.2 e,fun _=>by
    rw [d1.out.1];refine⟨a9,c9,by rw [a4.out.2.1],fun k T hk=>?_⟩;obtain⟨g,hg⟩:=a4.out.2.2.2.2 k T hk;obtain⟨hs,_⟩:=hS g hg;obtain⟨vs,q1,q2⟩:=hs.get hk;exact⟨g,vs,hg,hs.lt,q1,q2⟩⟩
   clear hS hB;go_wp2;refine kW (v:=.tuple #[.slice a9 i c9,.int .i64 0]) (by simp [results,Tryz.results18,go_sem]) rfl ?_;exact hR.out
  obtain⟨T,hT⟩:∃T,LT[i]?=some T:=⟨LT[i]'(by rw [a4.out.2.1];exact e0),aL _⟩;obtain⟨g,rfl⟩:=a4.out.2.2.2.2 i T hT;obtain⟨hs,hgw⟩:=hS g rfl;obtain⟨us,hTV,hcT⟩:=hs.get hT;have b4:=hTV;obtain⟨k3,v3,nm3,g3,num3,den3,args3⟩:=T;simp only [TmV] at hTV;obtain⟨_,_,a3,c3,rfl,⟨⟨p5,q5,rfl,_⟩,⟨p6,q6,rfl,_⟩⟩,_⟩:=hTV;obtain⟨x0,x1,x2,x3,x4,x5,x6⟩:=jP (w2:=wo) (fun p hp=>rfl) hcT;obtain⟨l3,hl3⟩:∃x,args3.length=x:=⟨_,rfl⟩;obtain⟨n5,hn5⟩:∃x,num3.length=x:=⟨_,rfl⟩;obtain⟨n6,hn6⟩:∃x,den3.length=x:=⟨_,rfl⟩;have a5:=aside3 hl3 hn5 hn6;have a6:=aside4 hs hgw hT hB;have b5:Aside (TmV wo.heap.size wo (Tm.mk k3 v3 nm3 g3 num3 den3 args3) _):=b4;rw [hl3,hn5,hn6] at b5;rw [hl3] at x6;rw [hn5] at x4;rw [hn6] at x5;have e8:(i:Int)<(n9:Int):=by omega
  have e9:(0:Int)≤(i:Int):=by omega
  have f0:IntKind.i64.wrap ((i:Int)+1)=(i:Int)+1:=by rw [aG];omega
  clear hcT hs hgw hT hB hS hl3 hn5 hn6 b4
  go_upto_region 8 with fail
  clear x0 x1 x2 x3 x4 x5 x6;obtain⟨wa,hwa⟩:∃wa,wo.alloc (Obj.cells #[.int .i64 k3,.int .i64 v3,.string nm3,.bool g3,.slice p5 n5 q5,.slice p6 n6 q6,.slice a3 l3 c3] 48)=wa:=⟨_,rfl⟩;have ba:=aC wo (Obj.cells #[.int .i64 k3,.int .i64 v3,.string nm3,.bool g3,.slice p5 n5 q5,.slice p6 n6 q6,.slice a3 l3 c3] 48);have c6:=heap_alloc_new wo (Obj.cells #[.int .i64 k3,.int .i64 v3,.string nm3,.bool g3,.slice p5 n5 q5,.slice p6 n6 q6,.slice a3 l3 c3] 48);rw [hwa] at ba c6 ⊢;clear hwa;obtain⟨x0,x1,x2,x3,x4,x5,x6⟩:=cY c6;have a8:Aside (g<wa.heap.size∧LitSt wa g LT∧Below w.heap.size w wa):=by
   have q1:=a6.out.1.below ba (aA _);exact⟨q1.lt,q1,a6.out.2.2.2.trans (ba.mono a6.out.2.2.2.size)⟩
  have d0:Calls Tryz.prog 60 #[.agg #[.int .i64 k3,.int .i64 v3,.string nm3,.bool g3,.slice p5 n5 q5,.slice p6 n6 q6,.slice a3 l3 c3]] wa fun e w'=>∃d8,e= .returned (.agg d8.toArray)∧TmS (Fresh wa.heap.size w'.heap.size) w' (Tm.mk k3 v3 nm3 g3 num3 den3 args3) d8∧Below wa.heap.size wa w':=OY _ wo.heap.size wa _ (TmV.below ba (aA _) _ _ b5.out) ba.size
  clear c6 ba;refine iP ?_
  iterate 3 (refine eV rfl fun K hK=>?_;go_simp;refine hK _ _ ?_;clear hK)
  refine eV rfl fun K hK=>?_
  go_simp
  refine d0.mono ?_;rintro e w5 ⟨e4,rfl,hT5,hb5⟩;refine hK _ _ ?_;clear hK d0 x0 x1 x2 x3 x4 x5 x6;have d2:TmS (fun b=>b≠g∧b<w5.heap.size) w5 (Tm.mk k3 v3 nm3 g3 num3 den3 args3) e4:=TmS.mono (fun b hb=>⟨by have:=hb.1;have:=a8.out.1;omega,hb.2⟩) _ _ hT5;obtain⟨w6,hst,hs6,hg6,hz6⟩:=(a8.out.2.1.below hb5 (aA _)).store a6.out.2.2.1 d2;have hN:Aside (Below w.heap.size w w6∧LitSt w6 g LT):=⟨(a8.out.2.2.trans (hb5.mono a8.out.2.2.size)).grown hg6 (a8.out.2.2.trans (hb5.mono a8.out.2.2.size)).size (fun k hk=>by have:=aJ hk;have:=a6.out.2.1;omega),hs6⟩;simp only [TmS] at hT5;obtain⟨r5,e5,r6,e6,r3,e3,rfl,_⟩:=hT5;rw [a5.out.1,a5.out.2.1,a5.out.2.2] at hst;rw [a5.out.1,a5.out.2.1,a5.out.2.2];have d6:=xL hst;clear hst hs6 hg6 hz6 d2 hb5
  iterate 1 (refine eV rfl fun K hK=>?_;go_simp;refine hK _ _ ?_;clear hK)
  refine lJ rfl 48 _ _ rfl (v:=.pointer (some ⟨g,i*7,none⟩)) (u:=.agg #[.int .i64 k3,.int .i64 v3,.string nm3,.bool g3,.slice r5 n5 e5,.slice r6 n6 e6,.slice r3 l3 e3]) rfl rfl d6 ?_;clear d6;go_wp2;go_roundw
  case rel=>exact⟨i+1,by simp,by omega,hN.out.1,fun g' d9=>by
   have e:=aJ d9;injection e with e
   subst e;exact⟨hN.out.2,a6.out.2.1⟩⟩
  case measure=>simp [intOf];omega
end
end Go.Proofs.YtbdpdeonapmlgaaGreatDoor
namespace Go.Big
variable {A C D:List Nat} {i j c:Nat}
theorem HX (B:Nat):∀(D:List Nat) (k x:Nat),k<D.length→val B (D.set k x)+dg D k*B^k=val B D+x*B^k
 | [],k,x,h=>by simp at h
 |d::D,0,x,h=>by simp [val,dg];omega
 |d::D,k+1,x,h=>by
  have ih:=HX B D k x (by simpa using h);simp only [BE,val,Co];rw [eB,bG (B^k) B,tM,tM x B,kE,←cC,ih,cC];omega
theorem IK (B:Nat) {A:List Nat} {i:Nat} (h:i<A.length):val B (A.take (i+1))=val B (A.take i)+B^i*dg A i:=by
 rw [fT,nX h];simp only [Fy];rw [gL,aU,kY (by omega)]
theorem HQ (B:Nat) (C:List Nat) {j:Nat} (h:C.length≤j):cH B (dg C) j=val B C:=kG B C j h
structure Mul1 (A C D:List Nat) (i j c:Nat):Prop where
 lt:∀x∈D,x<65536
 len:D.length=A.length+C.length+1
 small:c<65536
 eq:val 65536 D+c*65536^(i+j)=val 65536 (A.take i)*val 65536 C+dg A i*cH 65536 (dg C) j*65536^i
theorem Mul1.start (a0:∀x∈D,x<65536) (a1:D.length=A.length+C.length+1) (h:val 65536 D=val 65536 (A.take i)*val 65536 C):Mul1 A C D i 0 0:=
 ⟨a0,a1,by decide,by simp [cH,h]⟩
theorem Mul1.sum_lt (h:Mul1 A C D i j c) (hA:∀x∈A,x<65536) (hC:∀x∈C,x<65536):dg D (i+j)+dg A i*dg C j+c<65536*65536:=by
 have h1:dg D (i+j)<65536:=mL (by decide) h.lt _;have h2:dg A i<65536:=mL (by decide) hA _;have h3:dg C j<65536:=mL (by decide) hC _;have h4:dg A i*dg C j≤65535*65535:=mX (by omega) (by omega);have:=h.small;omega
theorem Mul1.step {s:Nat} (h:Mul1 A C D i j c) (hA:∀x∈A,x<65536) (hC:∀x∈C,x<65536) (a2:i+j<D.length) (hs:s=dg D (i+j)+dg A i*dg C j+c):
  Mul1 A C (D.set (i+j) (s%65536)) i (j+1) (s/65536):=by
 have a0:=h.sum_lt hA hC;rw [←hs] at a0;refine⟨fun x hx=>?_,by simpa using h.len,?_,?_⟩
 ·rcases HA hx with hx|rfl
  ·exact h.lt x hx
  ·exact kC _ (by decide)
 ·exact GT a0
 ·have e1:=HX 65536 D (i+j) (s%65536) a2;have e2:=h.eq;have e3:s%65536+s/65536*65536=s:=by rw [bG];exact BA s 65536
  obtain⟨P,hP⟩:∃P,65536^(i+j)=P:=⟨_,rfl⟩;have e4:65536^(i+(j+1))=P*65536:=by rw [←kE,eB,hP]
  have e5:65536^j*65536^i=P:=by rw [←hP,rG,bG]
  rw [e4];rw [hP] at e1 e2;rw [cH,cC,cL];have e6:dg A i*(65536^j*dg C j)*65536^i=dg A i*dg C j*P:=by
   rw [←e5];simp only [cU,bG,tM]
  rw [e6];have e7:s/65536*(P*65536)=s/65536*65536*P:=by
   rw [bG P 65536,cU]
  rw [e7];have e8:s%65536*P+s/65536*65536*P=s*P:=by rw [←cL,e3]
  have e9:s*P=dg D (i+j)*P+dg A i*dg C j*P+c*P:=by rw [hs,cL,cL]
  omega
theorem Mul1.bound (h:Mul1 A C D i j c) (hA:∀x∈A,x<65536) (hC:∀x∈C,x<65536) (hi:i<A.length) (hj:j<C.length∨0<c):j≤C.length∧i+j<D.length:=by
 rcases BB j C.length with h1|h1
 ·rw [h.len];exact⟨by omega,by omega⟩
 ·have hc:0<c:=by omega
  have e:=h.eq;rw [HQ 65536 C h1] at e;have e1:val 65536 (A.take i)*val 65536 C+dg A i*val 65536 C*65536^i=val 65536 (A.take (i+1))*val 65536 C:=by
   rw [IK 65536 hi,cL];simp only [cU,bG,tM]
  rw [e1] at e;have l1:val 65536 (A.take (i+1))<65536^(i+1):=by
   have:=val_lt (B:=65536) (a:=A.take (i+1)) fun x hx=>hA x (iQ hx)
   rwa [aU,kY (by omega)] at this
  have l2:val 65536 C<65536^C.length:=val_lt hC;have l3:val 65536 (A.take (i+1))*val 65536 C<65536^(i+1)*65536^C.length:=Nat.mul_lt_mul'' l1 l2;rw [←rG] at l3;have l4:65536^(i+j)≤c*65536^(i+j):=RU _ hc;have l5:65536^(i+j)<65536^(i+1+C.length):=by omega
  have l6:=(tK (a:=65536) (by decide)).1 l5;rw [h.len];exact⟨by omega,by omega⟩
theorem Mul1.done (h:Mul1 A C D i j 0) (hi:i<A.length) (hj:C.length≤j):val 65536 D=val 65536 (A.take (i+1))*val 65536 C:=by
 have e:=h.eq;rw [HQ 65536 C hj] at e;rw [IK 65536 hi,cL];have:dg A i*val 65536 C*65536^i=65536^i*dg A i*val 65536 C:=by
  rw [bG (dg A i*val 65536 C),cU]
 omega
end Go.Big
namespace Go.Proofs.YtbdpdeonapmlgaaGreatDoor
open Go.RowKit Go.Big
theorem JI (r1 r2:Value) (n v1 v2 M:Nat) (b9:v1<65536^M) (c1:v2<65536^M) (hM:M≤100000) (w:World) (hn:n≤w.heap.size) (h1:aW n w r1 v1) (h2:aW n w r2 v2):
  Calls Tryz.prog 267 #[r1,r2] w fun e w'=>∃r,e= .returned r∧aW w'.heap.size w' r (v1*v2)∧Below w.heap.size w w':=by
 obtain⟨a1,A,cap1,rfl,_,_,hatA,hzA,rfl⟩:=h1;obtain⟨a2,C,cap2,rfl,_,_,hatC,hzC,rfl⟩:=h2;have c9:A.length≤100000:=aE (hzA.len_of b9) hM;have d0:C.length≤100000:=aE (hzC.len_of c1) hM;obtain⟨la,hla⟩:∃la,A.length=la:=⟨_,rfl⟩;obtain⟨lb,hlb⟩:∃lb,C.length=lb:=⟨_,rfl⟩;rw [hla] at c9 ⊢;rw [hlb] at d0 ⊢;have a0:=aside2 hla hlb;have b2:∀w:World,(Instr.makeSlice 247 (.int .i64 ((la:Int)+lb+1)) (.int .i64 ((la:Int)+lb+1))).run Tryz.prog w= .ok (.slice (some ⟨w.heap.size,0,none⟩) (la+lb+1) (la+lb+1)) (w.alloc (.cells (madeCells #[.int .i64 0] (la+lb+1)) 3)):=fun w=>by
  have:=RC (P:=Tryz.prog) 247 3 (.int .i64 0) 8 Tryz.underlying247 inf3 rfl .i64 .i64 (la+lb+1) (by omega) (by omega) w;have e:((la+lb+1:Nat):Int)=(la:Int)+lb+1:=by omega
  rw [e] at this;exact this
 obtain⟨m,hm⟩:∃m,la+lb+1=m:=⟨_,rfl⟩;have a5:=aside hm;rw [hm] at b2;have d4:IntKind.i64.wrap ((la:Int)+lb)=(la:Int)+lb:=by rw [aG];omega
 have d5:IntKind.i64.wrap ((la:Int)+lb+1)=(la:Int)+lb+1:=by rw [aG];omega
 clear b9 c1 hla hlb hm hzA hzC;go_enter Tryz.func267,Tryz.ntmps267;go_wp2
 go_loopw [19] (fun s wr=>∃(i:Nat) (D:List Nat),s= .int .i64 i∧i≤la∧IRow wr w.heap.size D∧Aside ((∀x∈D,x<65536)∧D.length=m∧val 65536 D=val 65536 (A.take i)*val 65536 C)∧Below w.heap.size w wr) (fun s _=>la-(intOf s).toNat)
 case atStart=>exact⟨0,List.replicate m 0,rfl,aT _,IRow.made _ _,⟨by simp,by simp,by simp [val,wZ]⟩,aC _ _⟩
 case round=>
  obtain⟨i,D,rfl,hi,hR,hD,hB⟩:=hrel;obtain⟨wq,rfl⟩:∃wq,wq=wr:=⟨_,rfl⟩
  by_cases b0:i<la
  ·have e0:(i:Int)<(la:Int):=by omega
   have e1:(0:Int)≤(i:Int):=by omega
   have e6:IntKind.i64.wrap ((i:Int)+1)=(i:Int)+1:=by rw [aG];omega
   have b8:Aside (Mul1 A C D i 0 0):=Mul1.start hD.out.1 (by rw [hD.out.2.1,a0.out.1,a0.out.2];exact a5.out.symm) hD.out.2.2;clear b2 d4 d5;go_wp2
   go_loopw [7,8] (fun s7 s8 wr=>∃(c j:Nat) (D:List Nat),s7= .int .i64 c∧s8= .int .i64 j∧j≤lb+1∧IRow wr w.heap.size D∧Aside (Mul1 A C D i j c)∧Below w.heap.size w wr) (fun _ s8 _=>lb+2-(intOf s8).toNat)
   case atStart=>exact⟨0,0,D,rfl,rfl,by omega,hR,b8,hB⟩
   case round=>
    clear hR hD b8 hB;obtain⟨c,j,D,rfl,rfl,hj,hR,hI,hB⟩:=hrel
    by_cases a6:j<lb∨0<c
    ·obtain⟨c8,hij⟩:=hI.out.bound hatA.1 hatC.1 (by rw [a0.out.1];exact b0) (by rw [a0.out.2];exact a6);rw [a0.out.2] at c8;have a9:i+j<m:=by rw [hI.out.len,a0.out.1,a0.out.2] at hij;have:=a5.out;omega
     have c2:=nX (L:=A) (i:=i) (by rw [a0.out.1];exact b0);obtain⟨b1,o1,rfl,hbn,hxl,hcA⟩:=(hatA.below hB hn).get c2;have b6:=oP a2 lb cap2 n j C a0.out.2 wr.drew (hatC.below hB.drew hn);obtain⟨s,hs⟩:∃s,s=dg D (i+j)+dg A i*dg C j+c:=⟨_,rfl⟩;have e4:s<65536*65536:=by rw [hs];exact hI.out.sum_lt hatA.1 hatC.1
     have a7:Aside (Mul1 A C (D.set (i+j) (s%65536)) i (j+1) (s/65536)):=hI.out.step hatA.1 hatC.1 hij hs;obtain⟨c0,z0⟩:=hR.cell (nX (L:=D) (i:=i+j) hij);have a4:=aside hij;have d1:w.heap.size<wr.heap.size:=(Array.getElem?_eq_some_iff.1 hR).1;have d6:dg C j<65536:=mL (by decide) hatC.1 _;have c6:dg D (i+j)<65536:=mL (by decide) hI.out.lt _;have d9:=hI.out.small;obtain⟨x,hxe⟩:∃x,dg A i=x:=⟨_,rfl⟩;obtain⟨y,hye⟩:∃y,dg C j=y:=⟨_,rfl⟩;obtain⟨z,hze⟩:∃z,dg D (i+j)=z:=⟨_,rfl⟩;rw [hxe] at hxl hcA hs;rw [hye] at b6 d6 hs;rw [hze] at c0 hs c6;have c3:x*y≤65535*65535:=mX (by omega) (by omega);obtain⟨pr,hpr⟩:∃pr,x*y=pr:=⟨_,rfl⟩;rw [hpr] at hs c3;have d2:(x:Int)*(y:Int)=(pr:Int):=by rw [←hpr];simp
     have f0:IntKind.i64.wrap (pr:Int)=(pr:Int):=by rw [aG];omega
     have f1:IntKind.i64.wrap ((z:Int)+pr)=(z:Int)+pr:=by rw [aG];omega
     have f2:IntKind.i64.wrap ((z:Int)+pr+c)=(s:Int):=by rw [aG];omega
     have d8:IntKind.i64.wrap ((i:Int)+j)=((i+j:Nat):Int):=by rw [aG];omega
     have b4:Int.tmod (s:Int) 65536=((s%65536:Nat):Int):=by rw [ST];rfl
     have b3:Int.tdiv (s:Int) 65536=((s/65536:Nat):Int):=by rw [Int.ofNat_tdiv];rfl
     obtain⟨q,hq⟩:∃q,s/65536=q:=⟨_,rfl⟩;obtain⟨t,ht⟩:∃t,s%65536=t:=⟨_,rfl⟩;obtain⟨ij,hije⟩:∃ij,i+j=ij:=⟨_,rfl⟩;rw [hq] at b3 a7;rw [ht] at b4 a7;rw [hije] at d8 c0 z0 a9 a4 a7;have e8:(ij:Int)<(m:Int):=by omega
     have e9:(0:Int)≤(ij:Int):=by omega
     have e7:IntKind.i64.wrap ((j:Int)+1)=(j:Int)+1:=by rw [aG];omega
     have a8:=aside a6;have e3:q≤s:=by rw [←hq];exact SA _ _
     clear hxe hye hze hs hpr hij hije hq ht c2 hI c3 a6
     go_upto_region 7 with fail
     go_cut [29] from 22 to 29 (fun d7 wx=>d7= .bool true∧wx=wr)
     case first=>
      by_cases e2:j<lb
      ·have b7:(j:Int)<(lb:Int):=by omega
       go_wp2
       go_meet
       exact⟨rfl,rfl⟩
      ·have b7:¬(j:Int)<(lb:Int):=by omega
       have c5:0<c:=by have:=a8.out;omega
       go_wp2
       go_meet
       exact⟨by simp [c5],rfl⟩
     case rest=>
      obtain⟨rfl,hwx⟩:=hcut;subst hwx
      go_upto_region 9 with fail
      refine iG 17 (by kernel_rfl) (by kernel_rfl) ?_;simp only [bB,bJ,bF,bE,gZ]
      repeat (with_reducible refine gH (fun K hK=>?_);go_simp;with_reducible refine hK _ ?_;clear hK K)
      with_reducible refine gH (fun K hK=>?_)
      go_simp
      refine⟨_,b6,?_⟩
      with_reducible refine hK _ ?_
      clear hK K
      repeat (with_reducible refine gH (fun K hK=>?_);go_simp;with_reducible refine hK _ ?_;clear hK K)
      refine iH ?_;show wpList _ _ _ _ _ _;go_wp2;go_roundw
      case rel=>exact⟨q,j+1,D.set ij t,rfl,by simp,by omega,IRow.put (hR.kept (qT _) d1) a4.out,a7,(hB.drew).setCell (aA _) _⟩
      case measure=>simp [intOf];omega
    ·have c4:c=0:=by omega
     subst c4;have b7:¬(j:Int)<(lb:Int):=by omega
     have c7:Aside (val 65536 D=val 65536 (A.take (i+1))*val 65536 C):=hI.out.done (by rw [a0.out.1];exact b0) (by rw [a0.out.2];omega);have b5:Aside ((∀x∈D,x<65536)∧D.length=m):=⟨hI.out.lt,by rw [hI.out.len,a0.out.1,a0.out.2];exact a5.out⟩;clear hI a6;go_wp2;go_roundw
     case rel=>exact⟨i+1,D,by simp,by omega,hR,⟨b5.out.1,b5.out.2,c7.out⟩,hB⟩
     case measure=>simp [intOf];omega
  ·obtain rfl:i=la:=by omega
   have a3:=hR.at hD.out.1;have d3:=uE (some ⟨w.heap.size,0,none⟩) m m wq.heap.size D hD.out.2.1 (by have:=a5.out;omega) (aA _) wq (aA _) a3;have hV:Aside (val 65536 D=val 65536 A*val 65536 C∧D.length=m):=by
    have h3:=hD.out.2.2;rw [←a0.out.1,gA] at h3;exact⟨h3,hD.out.2.1⟩
   clear hD b2
   go_wp2_with (go_at_call 314;(with_reducible refine d3.mono ?_);rintro e w' ⟨k,rfl,hT,hb2⟩)
   go_ret
   exact⟨_,rfl,aW.of_trim hT (by have:=hT.1;have:=hV.out.2;omega) (by have:=a5.out;unfold maxLen;omega) ((a3.below hb2 (aA _)).up hb2.size) hV.out.1,hB.trans (hb2.mono hB.size)⟩
section
attribute [local go_sem] Heavy.uponW
theorem OU (x y:Nat):eU x y=0↔x=y:=by
  unfold eU;split
  · constructor<;>intro h
    · exact absurd h (by decide)
    · omega
  · split
    · constructor<;>intro h
      · exact absurd h (by decide)
      · omega
    · constructor<;>intro h
      · omega
      · rfl
theorem LA (r1 r2:Value) (n v1 v2 M:Nat) (b8:v1<65536^M) (b9:v2<65536^M) (hM:M≤1048576) (w:World) (h1:aW n w r1 v1) (h2:aW n w r2 v2):
    Calls Tryz.prog 265 #[r1,r2] w fun e w'=>e= .returned (.int .i64 (eU v1 v2))∧w'=w:=by
  obtain⟨a1,A,cap1,rfl,_,_,hatA,hzA,rfl⟩:=h1;obtain⟨a2,C,cap2,rfl,_,_,hatC,hzC,rfl⟩:=h2;exact JV a1 a2 A.length C.length cap1 cap2 n n A C rfl rfl (fO (aE (hzA.len_of b8) hM) (by decide)) (fO (aE (hzC.len_of b9) hM) (by decide)) w hatA hatC
theorem KF {x y M:Nat} (hx:x<65536^M) (hy:y<65536^M):x*y<65536^(M+M):=by
  rw [rG];exact Nat.mul_lt_mul'' hx hy
theorem WP (n1 n2:Bool) (r1 r2 s1 s2:Value) (n x1 y1 x2 y2 M:Nat) (hM:M≤50000) (b0:x1<65536^M) (b4:y1<65536^M) (b3:x2<65536^M) (b5:y2<65536^M) (w:World) (hn:n≤w.heap.size)
    (h1:aW n w r1 x1) (h2:aW n w r2 y1) (h3:aW n w s1 x2) (h4:aW n w s2 y2):
    Calls Tryz.prog 226 #[.agg #[.bool n1,r1,r2],.agg #[.bool n2,s1,s2]] w fun e w'=>(∃c:Int,e= .returned (.int .i64 c)∧(c=0↔n1=n2∧x1*y2=x2*y1))∧Below w.heap.size w w':=by
  obtain⟨a0,q1,q2,hsz⟩:=tY w (Obj.cells #[.bool n1,r1,r2] 249) (Obj.cells #[.bool n2,s1,s2] 249);obtain⟨wb,hwb⟩:∃wb,(w.alloc (Obj.cells #[.bool n1,r1,r2] 249)).alloc (Obj.cells #[.bool n2,s1,s2] 249)=wb:=⟨_,rfl⟩;rw [hwb] at a0 q1 q2 hsz;have fa:Aside (∀w2,Below wb.heap.size wb w2→w2.cell? ⟨w.heap.size,0,none⟩=some (.bool n1)∧w2.cell? ⟨w.heap.size,1,none⟩=some r1∧w2.cell? ⟨w.heap.size,2,none⟩=some r2):=fun w2 hb=>by
    have:=(hb.block w.heap.size (by omega)).trans q1;simp [World.cell?,this]
  have fb:Aside (∀w2,Below wb.heap.size wb w2→w2.cell? ⟨w.heap.size+1,0,none⟩=some (.bool n2)∧w2.cell? ⟨w.heap.size+1,1,none⟩=some s1∧w2.cell? ⟨w.heap.size+1,2,none⟩=some s2):=fun w2 hb=>by
    have:=(hb.block (w.heap.size+1) (by omega)).trans q2;simp [World.cell?,this]
  have m1:=fun w2 (hb:Below w.heap.size w w2)=>JI r1 s2 n x1 y2 M b0 b5 (by omega) w2 (aE hn hb.size) (h1.below hb hn) (h4.below hb hn)
  have m2:=fun w2 (hb:Below w.heap.size w w2)=>JI s1 r2 n x2 y1 M b3 b4 (by omega) w2 (aE hn hb.size) (h3.below hb hn) (h2.below hb hn)
  have b1:=KF b0 b5;have b2:=KF b3 b4;have b7:M+M≤1048576:=by omega
  obtain⟨P,hP⟩:∃P,x1*y2=P:=⟨_,rfl⟩;obtain⟨Q,hQ⟩:∃Q,x2*y1=Q:=⟨_,rfl⟩;rw [hP] at b1 m1;rw [hQ] at b2 m2;rw [hP,hQ];have a7:=aside2 b1 b2;have a3:=aside b7;clear b1 b2 hP hQ b0 b4 b3 b5 h1 h2 h3 h4 q1 q2 hM b7;go_enter Tryz.func226,Tryz.ntmps226
  go_upto_region 1 with fail
  clear hwb
  go_cut [5,6] from 5 to 16 (fun s5 s6 wx=>aW wx.heap.size wx s5 P∧aW wx.heap.size wx s6 Q∧Below wb.heap.size wb wx)
  case first=>as_aux_lemma=>
    have a9:Below wb.heap.size wb { wb with drawn:=wb.drawn+1 }:=qT wb;refine Heavy.region_plan (fun w'=>Below wb.heap.size wb w') 10 (Heavy.lights [0,1,2,3,5,6,7,8] (.one 4 (.one 9 .done))) (by kernel_rfl) (by kernel_rfl) a9 ?_;simp only [Heavy.lights,bB,bJ,bF,bE]
    iterate 8 (apply Heavy.light_n;(exact rfl);(exact rfl);(intro a8 hw;have x1:=(fa.out a8 hw).2.1;have x2:=(fa.out a8 hw).2.2;have y1:=(fb.out a8 hw).2.1;have y2:=(fb.out a8 hw).2.2;go_simp;exact rfl)
               refine Heavy.norm_a (by go_simp;exact rfl) ?_)
    apply Heavy.one_n
    · exact rfl
    · exact rfl
    go_simp
    refine(m1 _ (a0.trans (a9.mono a0.size))).mono ?_;rintro e w3 ⟨u1,rfl,a4,hb3⟩;have a5:Below wb.heap.size wb w3:=a9.trans hb3;refine⟨_,rfl,a5,?_⟩;refine Heavy.norm_a (by go_simp;exact rfl) ?_;apply Heavy.one_n
    · exact rfl
    · exact rfl
    go_simp
    refine(m2 _ (a0.trans (a5.mono a0.size))).mono ?_;rintro e w4 ⟨u2,rfl,hN2,hb4⟩;have b6:=a5.trans (hb4.mono a5.size);refine⟨_,rfl,b6,?_⟩;refine Heavy.norm_a (by go_simp;exact rfl) ?_;apply Heavy.plan_end;show wpList _ _ _ _ _ _;clear fa fb m1 m2;go_wp2
    go_meet
    exact⟨(a4.below hb4 (aA _)).up hb4.size,hN2,b6⟩
  case rest=>
    obtain⟨a4,hN2,hB⟩:=hcut;obtain⟨x0,_,_⟩:=fa.out wc hB;obtain⟨y0,_,_⟩:=fb.out wc hB;have a6:Below w.heap.size w wc:=a0.trans (hB.mono a0.size);have c1:=LA u6 u5 wc.heap.size Q P (M+M) a7.out.2 a7.out.1 a3.out wc hN2 a4;have c2:=LA u5 u6 wc.heap.size P Q (M+M) a7.out.1 a7.out.2 a3.out wc a4 hN2;have z1:=OU Q P;have z2:=OU P Q;obtain⟨C1,hC1⟩:∃C1,eU Q P=C1:=⟨_,rfl⟩;obtain⟨C2,hC2⟩:∃C2,eU P Q=C2:=⟨_,rfl⟩;rw [hC1] at c1 z1;rw [hC2] at c2 z2;have c0:=aside z1;have c3:=aside z2;clear fa fb m1 m2 a4 hN2 hC1 hC2 z1 z2;cases n1<;>cases n2
    · go_wp2_with (go_at_call 265;(with_reducible refine c2.mono ?_);rintro e w5 ⟨rfl,rfl⟩)
      go_ret
      exact⟨⟨C2,rfl,by simpa using c3.out⟩,a6⟩
    · go_wp2
      go_ret
      exact⟨⟨1,rfl,by simp⟩,a6⟩
    · go_wp2
      go_ret
      exact⟨⟨-1,rfl,by simp⟩,a6⟩
    · go_wp2_with (go_at_call 265;(with_reducible refine c1.mono ?_);rintro e w5 ⟨rfl,rfl⟩)
      go_ret
      exact⟨⟨C1,rfl,by rw [c0.out];simp [eq_comm]⟩,a6⟩
end
section
attribute [local go_sem] Heavy.uponW
end
section
attribute [local go_sem] Heavy.uponW
theorem yF {g:Bool} {A C:List Nat} (h:cP g A C=0):A.length≤128∧C.length≤128∧C≠ []∧NoZ C∧NoZ A∧Nat.gcd (val 4294967296 A) (val 4294967296 C)=1:=by
  unfold cP at h;split at h
  · exact absurd h (by decide)
  · rename_i h1;split at h
    · exact absurd h (by decide)
    · rename_i h2;split at h
      · exact absurd h (by decide)
      · split at h
        · exact absurd h (by decide)
        · rename_i h4;exact⟨by omega,by omega,fun e=>h2 (.inl e),NoZ.of_last fun e=>h2 (.inr (.inl e)),NoZ.of_last fun e=>h2 (.inr (.inr e)),Decidable.not_not.1 h4⟩
theorem Ba {x1 y1 x2 y2:Nat} (h1:Nat.gcd x1 y1=1) (h2:Nat.gcd x2 y2=1) (p1:0<y1) (p2:0<y2):x1*y2=x2*y1↔x1=x2∧y1=y2:=by
  constructor
  · intro h;have d1:y1 ∣ y2:=by
      have:y1 ∣ x1*y2:=⟨x2,by rw [h,bG]⟩;exact(Gj (by rw [Ge,tN];exact h1) this)
    have d2:y2 ∣ y1:=by
      have:y2 ∣ x2*y1:=⟨x1,by rw [←h,bG]⟩;exact(Gj (by rw [Ge,tN];exact h2) this)
    obtain rfl:=Nat.dvd_antisymm d1 d2;exact⟨Gc p1 h,rfl⟩
  · rintro⟨rfl,rfl⟩;rfl
theorem XP {g g':Bool} {A C A' C':List Nat} (h:cP g A C=0) (h':cP g' A' C'=0) (hA:∀x∈A,x<4294967296) (hC:∀x∈C,x<4294967296) (a8:∀x∈A',x<4294967296) (a9:∀x∈C',x<4294967296):
    (g=g'∧val 4294967296 A*val 4294967296 C'=val 4294967296 A'*val 4294967296 C)↔g=g'∧A=A'∧C=C':=by
  obtain⟨_,_,n1,z1,z2,c1⟩:=yF h;obtain⟨_,_,n2,z3,z4,c2⟩:=yF h';rw [Ba c1 c2 (z1.pos' n1) (z3.pos' n2)];constructor
  · rintro⟨e1,e2,e3⟩;exact⟨e1,z2.eq z4 hA a8 (by decide) e2,z1.eq z3 hC a9 (by decide) e3⟩
  · rintro⟨rfl,rfl,rfl⟩;exact⟨rfl,rfl,rfl⟩
def Tm.rootEq:Tm→Tm→Prop
  | .mk k v nm g num den args,.mk k' v' nm' g' a3 a0 a4=>k=k'∧v=v'∧nm=nm'∧g=g'∧num=a3∧den=a0∧args.length=a4.length
theorem CE (n:Int) (w:World):Calls Tryz.prog 225 #[.int .i64 n] w fun e w'=>(∃c:Int,e= .returned (.int .i64 c)∧(c=0↔n=0))∧w'=w:=by
  by_cases h1:n<0
  · have hA:Aside (¬n=0):=by show¬_;omega
    go_enter Tryz.func225,Tryz.ntmps225;go_wp2
    go_ret
    exact⟨⟨-1,rfl,by simp [hA.out]⟩,rfl⟩
  · by_cases h2:0<n
    · have hA:Aside (¬n=0):=by show¬_;omega
      go_enter Tryz.func225,Tryz.ntmps225;go_wp2
      go_ret
      exact⟨⟨1,rfl,by simp [hA.out]⟩,rfl⟩
    · have hA:Aside (n=0):=by show _=_;omega
      go_enter Tryz.func225,Tryz.ntmps225;go_wp2
      go_ret
      exact⟨⟨0,rfl,by simp [hA.out]⟩,rfl⟩
theorem OV:∀(A C:List UInt8),Lib.compareBytes A C=0↔A=C
  | [],[]=>by simp [Lib.compareBytes]
  | [],c::C=>by simp [Lib.compareBytes]
  |a::A,[]=>by simp [Lib.compareBytes]
  | a ::A,c::C=>by
    unfold Lib.compareBytes;split
    · rename_i h;constructor
      · intro e;exact absurd e (by decide)
      · intro e;injection e with e1 _;subst e1;exact absurd h (mW a)
    · rename_i h1;split
      · rename_i h;constructor
        · intro e;exact absurd e (by decide)
        · intro e;injection e with e1 _;subst e1;exact absurd h (mW a)
      · rename_i h2;have e:a=c:=by
          have g1:=UInt8.not_lt.1 h1;have g2:=UInt8.not_lt.1 h2;exact UInt8.le_antisymm g2 g1
        rw [OV A C];simp [e]
theorem Dj (a b:ByteArray):Lib.compareBytes a.data.toList b.data.toList=0↔a=b:=by
  rw [OV];constructor
  · intro h;exact AJ h
  · rintro rfl;rfl
theorem VU (T U:Tm) (n:Nat) (w:World) (vs us:List Value) (hT:T.errE=0) (hU:U.errE=0) (h:TmV n w T vs) (h':TmV n w U us) (hn:n≤w.heap.size):
    Calls Tryz.prog 169 #[.agg vs.toArray,.agg us.toArray] w fun e w'=>(∃c:Int,e= .returned (.int .i64 c)∧(c=0↔T.rootEq U))∧Below w.heap.size w w':=by
  obtain⟨k,v,nm,g,num,den,args⟩:=T;obtain⟨k',v',nm',g',a3,a0,a4⟩:=U;simp only [TmV] at h h';obtain⟨s1,s2,p,c,rfl,hN,_,hbig,_⟩:=h;obtain⟨t1,t2,p',c',rfl,hN',_,hbig',_⟩:=h';have ft:=(CH (pE hT).1).1;have fu:=(CH (pE hU).1).1;have vT:=zX _ hT;have vU:=zX _ hU;simp only [Tm.vd] at vT vU;unfold bS at ft fu;obtain⟨R,hR⟩:∃R:Prop,Tm.rootEq (.mk k v nm g num den args) (.mk k' v' nm' g' a3 a0 a4)=R:=⟨_,rfl⟩;have RA:Aside (R↔k=k'∧v=v'∧nm=nm'∧g=g'∧num=a3∧den=a0∧args.length=a4.length):=by rw [←hR];exact Iff.rfl
  rw [hR];have a7:¬(k=k'∧v=v'∧nm=nm'∧g=g'∧num=a3∧den=a0∧args.length=a4.length)→¬R:=fun h1 h2=>h1 (RA.out.1 h2)
  obtain⟨len,hl⟩:∃len,args.length=len:=⟨_,rfl⟩;obtain⟨a5,hl'⟩:∃a5,a4.length=a5:=⟨_,rfl⟩;rw [hl] at hbig ft ⊢;rw [hl'] at hbig' fu ⊢;have Al:=aside2 hl hl';obtain⟨a6,q1,q2,hsz⟩:=tY w (Obj.cells #[.int .i64 k,.int .i64 v,.string nm,.bool g,s1,s2,.slice p len c] 48) (Obj.cells #[.int .i64 k',.int .i64 v',.string nm',.bool g',t1,t2,.slice p' a5 c'] 48);obtain⟨wb,hwb⟩:∃wb,(w.alloc (Obj.cells #[.int .i64 k,.int .i64 v,.string nm,.bool g,s1,s2,.slice p len c] 48)).alloc (Obj.cells #[.int .i64 k',.int .i64 v',.string nm',.bool g',t1,t2,.slice p' a5 c'] 48)=wb:=⟨_,rfl⟩;rw [hwb] at a6 q1 q2 hsz;have fa:Aside (∀w2,Below wb.heap.size wb w2→_):=fun(w2:World) (hb:Below wb.heap.size wb w2)=>cY ((hb.block _ (by omega)).trans q1)
  have fb:Aside (∀w2,Below wb.heap.size wb w2→_):=fun(w2:World) (hb:Below wb.heap.size wb w2)=>cY ((hb.block _ (by omega)).trans q2)
  obtain⟨x0,x1,x2,x3,x4,x5,x6⟩:=fa.out wb (aI _ _);obtain⟨y0,y1,y2,y3,y4,y5,y6⟩:=fb.out wb (aI _ _);clear hl hl' hR q1 q2 hsz hT hU;show Calls Tryz.prog 169 #[.agg #[.int .i64 k,.int .i64 v,.string nm,.bool g,s1,s2,.slice p len c],.agg #[.int .i64 k',.int .i64 v',.string nm',.bool g',t1,t2,.slice p' a5 c']] w _
  by_cases hk:k=k'
  case neg=>
    have d3:(k==k')=false:=by simpa using hk
    have c6:IntKind.i64.wrap (k-k')=k-k':=by rw [aG];omega
    have b9:Aside (¬R):=a7 fun h=>hk h.1
    have c3:Aside (¬(k-k'=0)):=by show¬_;omega
    have d1:=CE (k-k');clear hN hN' vT vU ft fu fa fb RA a7;go_enter Tryz.func169,Tryz.ntmps169
    go_upto_region 1 with fail
    clear hwb
    go_wp2_with (go_at_call 225;(with_reducible refine(d1 _).mono ?_);rintro e w3 ⟨⟨z,rfl,hz⟩,rfl⟩)
    go_ret
    exact⟨⟨z,rfl,by rw [hz];exact⟨fun h=>absurd h c3.out,fun h=>absurd h b9.out⟩⟩,a6⟩
  subst hk
  by_cases k1:k=1
  case pos=>
    subst k1;have b0:Aside (v-v'=0↔R):=by
      show _↔_;rw [RA.out,Al.out.1,Al.out.2];obtain⟨rfl,rfl,rfl⟩:=vT.2.2.1 (by decide);obtain⟨rfl,rfl,rfl⟩:=vU.2.2.1 (by decide);have c0:nm=nm':=by
        have e1:nm.size=0:=by omega
        have e2:nm'.size=0:=by omega
        refine AJ ?_;have a1:nm.data.toList= []:=kZ.1 (by simpa using e1);have a2:nm'.data.toList= []:=kZ.1 (by simpa using e2);rw [a1,a2]
      constructor
      · intro h;exact⟨rfl,by omega,c0,rfl,rfl,rfl,by omega⟩
      · intro h;omega
    have c6:IntKind.i64.wrap (v-v')=v-v':=by rw [aG];omega
    have d1:=CE (v-v');clear hN hN' vT vU ft fu fa fb RA a7;go_enter Tryz.func169,Tryz.ntmps169
    go_upto_region 1 with fail
    clear hwb
    go_wp2_with (go_at_call 225;(with_reducible refine(d1 _).mono ?_);rintro e w3 ⟨⟨z,rfl,hz⟩,rfl⟩)
    go_ret
    exact⟨⟨z,rfl,hz.trans b0.out⟩,a6⟩
  have d5:(k==1)=false:=by simpa using k1
  have c9:v=0:=vT.2.1 k1;have c4:v'=0:=vU.2.1 k1;subst c9;subst c4
  by_cases k2:k=2
  case pos=>
    subst k2;obtain⟨⟨p1,c1,rfl,hA⟩,⟨p2,c2,rfl,hC⟩⟩:=hN;obtain⟨⟨d0,c1',rfl,a8⟩,⟨p2',c2',rfl,a9⟩⟩:=hN';obtain rfl:args= []:=vT.1 (by decide);obtain rfl:a4= []:=vU.1 (by decide);have f1:cP g num den=0:=by omega
    have f2:cP g' a3 a0=0:=by omega
    obtain⟨l1,l2,_,_,_,_⟩:=yF f1;obtain⟨l3,l4,_,_,_,_⟩:=yF f2;have b0:Aside ((g=g'∧val 4294967296 num*val 4294967296 a0=val 4294967296 a3*val 4294967296 den)↔R):=by
      show _↔_;rw [RA.out,XP f1 f2 hA.1 hC.1 a8.1 a9.1];have c0:nm=nm':=by
        have e1:nm.size=0:=by omega
        have e2:nm'.size=0:=by omega
        refine AJ ?_;have a1:nm.data.toList= []:=kZ.1 (by simpa using e1);have a2:nm'.data.toList= []:=kZ.1 (by simpa using e2);rw [a1,a2]
      constructor
      · rintro⟨h1,h2,h3⟩;exact⟨rfl,rfl,c0,h1,h2,h3,rfl⟩
      · intro h;exact⟨h.2.2.2.1,h.2.2.2.2.1,h.2.2.2.2.2.1⟩
    obtain⟨M,hM⟩:∃M:Nat,M=256:=⟨_,rfl⟩;have b1:=yX (A:=num) (M:=M) hA.1 (by omega);have b2:=yX (A:=den) (M:=M) hC.1 (by omega);have b3:=yX (A:=a3) (M:=M) a8.1 (by omega);have b4:=yX (A:=a0) (M:=M) a9.1 (by omega);have c8:Aside (M≤50000):=by show _≤_;omega
    have o1:Aside (∀w2,Below w.heap.size w w2→_):=fun(w2:World) (hb:Below w.heap.size w w2)=>JH g p1 p2 num.length den.length c1 c2 n num den rfl rfl (by omega) (by omega) w2 (aE hn hb.size) (hA.below hb hn) (hC.below hb hn)
    have o2:Aside (∀w2,Below w.heap.size w w2→_):=fun(w2:World) (hb:Below w.heap.size w w2)=>JH g' d0 p2' a3.length a0.length c1' c2' n a3 a0 rfl rfl (by omega) (by omega) w2 (aE hn hb.size) (a8.below hb hn) (a9.below hb hn)
    clear hM;generalize num.length=m1 at*;generalize den.length=m2 at*;generalize a3.length=m3 at*;generalize a0.length=m4 at*;generalize val 4294967296 num=X1 at*;generalize val 4294967296 den=Y1 at*;generalize val 4294967296 a3=X2 at*;generalize val 4294967296 a0=Y2 at*;have b5:=aside4 b1 b2 b3 b4;clear b1 b2 b3 b4 hA hC a8 a9 vT vU ft fu RA a7 f1 f2;go_enter Tryz.func169,Tryz.ntmps169
    go_upto_region 1 with fail
    clear hwb
    go_upto_region 7 with fail
    have b8:Below wb.heap.size wb { wb with drawn:=wb.drawn+1 }:=qT wb;refine Heavy.region_plan (fun w'=>Below wb.heap.size wb w') 6 (Heavy.lights [0,1,3,4] (.one 2 (.one 5 .done))) (by kernel_rfl) (by kernel_rfl) b8 ?_;simp only [Heavy.lights,bB,bJ,bF,bE];clear x0 x1 x2 x3 x4 x5 x6 y0 y1 y2 y3 y4 y5 y6
    iterate 4 (apply Heavy.light_n;(exact rfl);(exact rfl);(intro c7 hw;have E1:=fa.out c7 hw;have E2:=fb.out c7 hw;have x3:=E1.2.2.2.1;have x4:=E1.2.2.2.2.1;have x5:=E1.2.2.2.2.2.1;have y3:=E2.2.2.2.1;have y4:=E2.2.2.2.2.1;have y5:=E2.2.2.2.2.2.1;clear E1 E2;go_simp;exact rfl)
               refine Heavy.norm_a (by go_simp;exact rfl) ?_)
    apply Heavy.one_n
    · exact rfl
    · exact rfl
    go_simp
    refine(o1.out _ (a6.trans (b8.mono a6.size))).mono ?_;rintro e w3 ⟨u1,rfl,hN1,hb3⟩;have b6:Below wb.heap.size wb w3:=b8.trans hb3;refine⟨_,rfl,b6,?_⟩;refine Heavy.norm_a (by go_simp;exact rfl) ?_;apply Heavy.one_n
    · exact rfl
    · exact rfl
    go_simp
    refine(o2.out _ (a6.trans (b6.mono a6.size))).mono ?_;rintro e w4 ⟨u2,rfl,hN2,hb4⟩;have b7:=b6.trans (hb4.mono b6.size);refine⟨_,rfl,b7,?_⟩;refine Heavy.norm_a (by go_simp;exact rfl) ?_;apply Heavy.plan_end;show wpList _ _ _ _ _ _;obtain⟨r1,r2,rfl,n1,n2⟩:=hN1;obtain⟨r3,r4,rfl,n3,n4⟩:=hN2;have dc:=WP g g' r1 r2 r3 r4 w4.heap.size X1 Y1 X2 Y2 M c8.out b5.out.1 b5.out.2.1 b5.out.2.2.1 b5.out.2.2.2 w4 (aA _) ((n1.below hb4 (aA _)).up hb4.size) ((n2.below hb4 (aA _)).up hb4.size) n3 n4;clear fa fb o1 o2 n1 n2 n3 n4 b5
    go_wp2_with (go_at_call 226;(with_reducible refine dc.mono ?_);rintro e w5 ⟨⟨z,rfl,hz⟩,hb5⟩)
    go_ret
    exact⟨⟨z,rfl,hz.trans b0.out⟩,a6.trans ((b7.trans (hb5.mono b7.size)).mono a6.size)⟩
  have d6:(k==2)=false:=by simpa using k2
  obtain⟨rfl,rfl,rfl⟩:=vT.2.2.1 k2;obtain⟨rfl,rfl,rfl⟩:=vU.2.2.1 k2
  by_cases c5:len=a5
  case neg=>
    have d4:((len:Int)==(a5:Int))=false:=by simp;omega
    have c6:IntKind.i64.wrap ((len:Int)-(a5:Int))=(len:Int)-(a5:Int):=by rw [aG];omega
    have b9:Aside (¬R):=a7 fun h=>c5 (by have:=h.2.2.2.2.2.2;rw [Al.out.1,Al.out.2] at this;exact this)
    have c3:Aside (¬((len:Int)-(a5:Int)=0)):=by show¬_;omega
    have d1:=CE ((len:Int)-(a5:Int));clear hN hN' vT vU ft fu fa fb RA a7;go_enter Tryz.func169,Tryz.ntmps169
    go_upto_region 1 with fail
    clear hwb
    go_wp2_with (go_at_call 225;(with_reducible refine(d1 _).mono ?_);rintro e w3 ⟨⟨z,rfl,hz⟩,rfl⟩)
    go_ret
    exact⟨⟨z,rfl,by rw [hz];exact⟨fun h=>absurd h c3.out,fun h=>absurd h b9.out⟩⟩,a6⟩
  subst c5;have d1:=Tryz.strings_Compare nm nm';have b0:Aside (Lib.compareBytes nm.data.toList nm'.data.toList=0↔R):=by
    show _↔_;rw [Dj,RA.out];constructor
    · intro h;exact⟨rfl,rfl,h,rfl,rfl,rfl,by rw [Al.out.1,Al.out.2]⟩
    · intro h;exact h.2.2.1
  generalize Lib.compareBytes nm.data.toList nm'.data.toList=Z at*;clear hN hN' vT vU ft fu fa fb RA a7;go_enter Tryz.func169,Tryz.ntmps169
  go_upto_region 1 with fail
  clear hwb
  go_wp2_with (go_at_call 228;(with_reducible refine(d1 _).mono ?_);rintro e w3 ⟨rfl,rfl⟩)
  go_ret
  exact⟨⟨Z,rfl,b0.out⟩,a6⟩
end
end Go.Proofs.YtbdpdeonapmlgaaGreatDoor
