/- Lemmas for the text Card; no condition. -/
import Derived.Test.YtbdpdeonapmlgaaGreatDoorAe
set_option linter.all false
set_option maxHeartbeats 4000000
set_option maxRecDepth 100000
namespace Go.Proofs.YtbdpdeonapmlgaaGreatDoor
open Go.RowKit Go.Big
variable {w w':World} {A qs ds L:List Nat} {C cs:Array Value} {t T:TypeId} {B g m j v p n d i k x b o q:Nat} {r:Value}
section
attribute [local go_sem] Heavy.uponW
theorem sM (h:w.heap[g]?=some (.cells C t (0,0))) (o:Nat):w.frozen? ⟨g,o,none⟩=false:=by
 simp [World.frozen?,h]
theorem iD {fr:Nat × Nat} (hb:w.heap[b]?=some (.cells cs T fr)) (v:Value):
  (w.setCell ⟨b,i,none⟩ v).heap[b]?=some (.cells (cs.setIfInBounds i v) T fr):=by
 simp [World.setCell,lH,hb]
theorem set7 {u0 u1 u2 u3 u4 u5 u6 v0 v1 v2 v3 v4 v5 v6:Value} (h:w.heap[g]?=some (.cells #[u0,u1,u2,u3,u4,u5,u6] t (0,0))):
  (((((((w.setCell ⟨g,0,none⟩ v0).setCell ⟨g,1,none⟩ v1).setCell ⟨g,2,none⟩ v2).setCell ⟨g,3,none⟩ v3).setCell ⟨g,4,none⟩ v4).setCell ⟨g,5,none⟩ v5).setCell ⟨g,6,none⟩ v6).heap[g]?=some (.cells #[v0,v1,v2,v3,v4,v5,v6] t (0,0))∧
  (∀b,b≠g→(((((((w.setCell ⟨g,0,none⟩ v0).setCell ⟨g,1,none⟩ v1).setCell ⟨g,2,none⟩ v2).setCell ⟨g,3,none⟩ v3).setCell ⟨g,4,none⟩ v4).setCell ⟨g,5,none⟩ v5).setCell ⟨g,6,none⟩ v6).heap[b]?=w.heap[b]?)∧
  Below g w (((((((w.setCell ⟨g,0,none⟩ v0).setCell ⟨g,1,none⟩ v1).setCell ⟨g,2,none⟩ v2).setCell ⟨g,3,none⟩ v3).setCell ⟨g,4,none⟩ v4).setCell ⟨g,5,none⟩ v5).setCell ⟨g,6,none⟩ v6):=by
 refine⟨?_,fun b hb=>?_,?_⟩
 ·have:=iD (iD (iD (iD (iD (iD (iD h (i:=0) v0) (i:=1) v1) (i:=2) v2) (i:=3) v3) (i:=4) v4) (i:=5) v5) (i:=6) v6;simpa using this
 ·iterate 7 rw [kF _ _ _ _ (by exact hb)]
 ·iterate 7 refine Below.setCell ?_ (aA g) _
  exact aI _ _
def CloneOk (T:Tm):Prop:=∀(n:Nat) (w:World) (vs:List Value),TmV n w T vs→n≤w.heap.size→
  Calls Tryz.prog 60 #[.agg vs.toArray] w fun e w'=>∃g9,e= .returned (.agg g9.toArray)∧TmS (Fresh w.heap.size w'.heap.size) w' T g9∧Below w.heap.size w w'
theorem set7at {v0 v1 v2 v3 v4 v5 v6:Value} (h:w.heap[g]?=some (.cells C t (0,0))) (ho:o+7≤C.size):
  ∃C':Array Value,(((((((w.setCell ⟨g,o,none⟩ v0).setCell ⟨g,o+1,none⟩ v1).setCell ⟨g,o+2,none⟩ v2).setCell ⟨g,o+3,none⟩ v3).setCell ⟨g,o+4,none⟩ v4).setCell ⟨g,o+5,none⟩ v5).setCell ⟨g,o+6,none⟩ v6).heap[g]?=some (.cells C' t (0,0))∧
  C'.size=C.size∧(∀j,j<o∨o+7≤j→C'[j]?=C[j]?)∧(∀(m:Nat) u,[v0,v1,v2,v3,v4,v5,v6][m]?=some u→C'[o+m]?=some u)∧
  (∀b,b≠g→(((((((w.setCell ⟨g,o,none⟩ v0).setCell ⟨g,o+1,none⟩ v1).setCell ⟨g,o+2,none⟩ v2).setCell ⟨g,o+3,none⟩ v3).setCell ⟨g,o+4,none⟩ v4).setCell ⟨g,o+5,none⟩ v5).setCell ⟨g,o+6,none⟩ v6).heap[b]?=w.heap[b]?)∧
  Below g w (((((((w.setCell ⟨g,o,none⟩ v0).setCell ⟨g,o+1,none⟩ v1).setCell ⟨g,o+2,none⟩ v2).setCell ⟨g,o+3,none⟩ v3).setCell ⟨g,o+4,none⟩ v4).setCell ⟨g,o+5,none⟩ v5).setCell ⟨g,o+6,none⟩ v6):=by
 refine⟨_,iD (iD (iD (iD (iD (iD (iD h (i:=o) v0) (i:=o+1) v1) (i:=o+2) v2) (i:=o+3) v3) (i:=o+4) v4) (i:=o+5) v5) (i:=o+6) v6,by simp,fun j hj=>?_,fun m u hm=>?_,fun b hb=>?_,?_⟩
 ·iterate 7 rw [pS (by omega)]
 ·match m,hm with
  |0,hm=>
   cases hm
   iterate 6 rw [pS (by omega)]
   rw [fP,rN (by omega)]
  |1,hm=>
   cases hm
   iterate 5 rw [pS (by omega)]
   rw [rN (by simp;omega)]
  |2,hm=>
   cases hm
   iterate 4 rw [pS (by omega)]
   rw [rN (by simp;omega)]
  |3,hm=>
   cases hm
   iterate 3 rw [pS (by omega)]
   rw [rN (by simp;omega)]
  |4,hm=>
   cases hm
   iterate 2 rw [pS (by omega)]
   rw [rN (by simp;omega)]
  |5,hm=>
   cases hm
   iterate 1 rw [pS (by omega)]
   rw [rN (by simp;omega)]
  |6,hm=>
   cases hm;rw [rN (by simp;omega)]
  |m+7,hm=>simp at hm
 ·iterate 7 rw [kF _ _ _ _ (by exact hb)]
 ·iterate 7 refine Below.setCell ?_ (aA g) _
  exact aI _ _
def zTm:Value:=.agg #[.int .i64 0,.int .i64 0,.string { data:=#[] },.bool false,.slice none 0 0,.slice none 0 0,.slice none 0 0]
theorem inf48:(Tryz.prog.info? 48).map (fun i=>(i.zero,i.size,i.bytes))=some (some zTm,7,112):=by kernel_rfl
theorem YN (len:Nat) (hb:len≤1048576) (w:World):(Instr.makeSlice 46 (.int .i64 len) (.int .i64 len)).run Tryz.prog w= .ok (.slice (some ⟨w.heap.size,0,none⟩) len len) (w.alloc (.cells (madeCells zTm.cells (len*7)) 48)):=by
 obtain⟨i0,hi,hz0,hz1,hz2⟩:=mV inf48;have:=run_make (P:=Tryz.prog) w 46 48 i0 zTm Tryz.underlying46 hi hz0 .i64 .i64 len len (by omega) (SU _) (by rw [hz2];omega) (by omega);rw [hz1] at this;simpa using this
theorem Dl (k v:Int) (nm:ByteArray) (g:Bool) (num den:List Nat) (args:List Tm) (ih:∀T'∈args,CloneOk T'):CloneOk (.mk k v nm g num den args):=by
  intro n w vs h hn;simp only [TmV] at h;obtain⟨s1,s2,a,c,rfl,⟨⟨p1,q1,rfl,hA⟩,⟨p2,q2,rfl,hC⟩⟩,h2,hbig,hbA,hbC⟩:=h;obtain⟨len,hl⟩:∃len,args.length=len:=⟨_,rfl⟩;obtain⟨l1,hl1⟩:∃l1,num.length=l1:=⟨_,rfl⟩;obtain⟨l2,hl2⟩:∃l2,den.length=l2:=⟨_,rfl⟩;rw [hl] at hbig ⊢;rw [hl1] at hbA ⊢;rw [hl2] at hbC ⊢;show Calls Tryz.prog 60 #[.agg #[.int .i64 k,.int .i64 v,.string nm,.bool g,.slice p1 l1 q1,.slice p2 l2 q2,.slice a len c]] w _;have Al:=aside3 hl hl1 hl2;obtain⟨wb,hwb⟩:∃wb,(w.alloc (Obj.cells #[.int .i64 k,.int .i64 v,.string nm,.bool g,.slice p1 l1 q1,.slice p2 l2 q2,.slice a len c] 48)).alloc (Obj.cells #[.int .i64 0,.int .i64 0,.string { data:=#[] },.bool false,.slice none 0 0,.slice none 0 0,.slice none 0 0] 48)=wb:=⟨_,rfl⟩;obtain⟨c4,hq1,hq2⟩:=tY w (Obj.cells #[.int .i64 k,.int .i64 v,.string nm,.bool g,.slice p1 l1 q1,.slice p2 l2 q2,.slice a len c] 48) (Obj.cells #[.int .i64 0,.int .i64 0,.string { data:=#[] },.bool false,.slice none 0 0,.slice none 0 0,.slice none 0 0] 48);have d6:wb.heap.size=w.heap.size+2:=by rw [←hwb];simp
  have b5:=aside d6;rw [hwb] at c4 hq1 hq2;have fc:∀w2,Below wb.heap.size wb w2→_:=fun w2 hb=>cY ((hb.block w.heap.size (by omega)).trans hq1)
  obtain⟨x0,x1,x2,x3,x4,x5,x6⟩:=fc wb (aI _ _);have d4:n≤wb.heap.size:=by omega
  have d1:∀w2,Below wb.heap.size wb w2→Calls Tryz.prog 129 #[.slice p1 l1 q1] w2 fun e w'=>∃sv,e= .returned sv∧(∃a c,sv= .slice a num.length c∧LimS (Fresh w2.heap.size w'.heap.size) w' a num)∧Below w2.heap.size w2 w':=fun w2 hb=>uL (.slice p1 l1 q1) n num (by omega) w2 (aE d4 hb.size) ⟨p1,q1,by rw [hl1],(hA.below c4 hn).below hb d4⟩
  have d2:∀w2,Below wb.heap.size wb w2→Calls Tryz.prog 129 #[.slice p2 l2 q2] w2 fun e w'=>∃sv,e= .returned sv∧(∃a c,sv= .slice a den.length c∧LimS (Fresh w2.heap.size w'.heap.size) w' a den)∧Below w2.heap.size w2 w':=fun w2 hb=>uL (.slice p2 l2 q2) n den (by omega) w2 (aE d4 hb.size) ⟨p2,q2,by rw [hl2],(hC.below c4 hn).below hb d4⟩
  clear hl hl1 hl2 hA hC d6;go_enter Tryz.func60,Tryz.ntmps60
  go_upto_region 1 with fail
  clear hwb;have a7:Below wb.heap.size wb { wb with drawn:=wb.drawn+1 }:=qT wb;refine Heavy.region_plan (fun w'=>Below wb.heap.size wb w') 10 (Heavy.lights [0,1,2,4,5,6] (.one 3 (Heavy.lights [8,9] (.one 7 .done)))) (by kernel_rfl) (by kernel_rfl) a7 ?_;simp only [Heavy.lights,bB,bJ,bF,bE]
  iterate 6 (apply Heavy.light_n;(exact rfl);(exact rfl);(intro h0 hw;have k3:=(fc h0 hw).2.2.2.2.1;have k4:=(fc h0 hw).2.2.2.2.2.1;go_simp;exact rfl))
  apply Heavy.one_n
  ·exact rfl
  ·exact rfl
  go_simp
  refine(d1 _ a7).mono ?_;rintro e w3 ⟨k5,rfl,⟨b1,e1,rfl,hL1⟩,hb3⟩;have b6:Below wb.heap.size wb w3:=a7.trans hb3;refine⟨_,rfl,b6,?_⟩
  iterate 2 (apply Heavy.light_n;(exact rfl);(exact rfl);(intro h0 hw;go_simp;exact rfl))
  apply Heavy.one_n
  ·exact rfl
  ·exact rfl
  go_simp
  refine(d2 _ b6).mono ?_;rintro e w4 ⟨k6,rfl,⟨b2,e2,rfl,hL2⟩,hb4⟩;have b7:Below wb.heap.size wb w4:=b6.trans (hb4.mono b6.size);refine⟨_,rfl,b7,?_⟩;refine Heavy.plan_end ?_;have d5:w4.heap[w.heap.size]?=some (Obj.cells #[.int .i64 k,.int .i64 v,.string nm,.bool g,.slice p1 l1 q1,.slice p2 l2 q2,.slice a len c] 48 (0,0)):=(b7.block w.heap.size (by have:=b5.out;omega)).trans hq1;have i1:w4.heap[w.heap.size+1]?=some (Obj.cells #[.int .i64 0,.int .i64 0,.string { data:=#[] },.bool false,.slice none 0 0,.slice none 0 0,.slice none 0 0] 48 (0,0)):=(b7.block (w.heap.size+1) (by have:=b5.out;omega)).trans hq2.1;have z4:∀o,w4.frozen? ⟨w.heap.size,o,none⟩=false:=fun o=>sM d5 o
  obtain⟨y0,y1,y2,y3,y4,y5,y6⟩:=cY d5;have a8:Aside (wb.heap.size≤w4.heap.size∧wb.heap.size≤w3.heap.size∧w3.heap.size≤w4.heap.size):=⟨b7.size,b6.size,hb4.size⟩;have h4:=(c4.trans (b7.mono (by have:=b5.out;omega)))
  go_upto_region 2 with fail
  have b9:=iD (iD d5 (i:=4) (.slice b1 num.length e1)) (i:=5) (.slice b2 den.length e2);have c0:((w4.setCell ⟨w.heap.size,4,none⟩ (.slice b1 num.length e1)).setCell ⟨w.heap.size,5,none⟩ (.slice b2 den.length e2)).heap[w.heap.size+1]?=_:=(kF _ ⟨w.heap.size,5,none⟩ _ _ (by show w.heap.size+1≠w.heap.size;omega)).trans ((kF _ ⟨w.heap.size,4,none⟩ _ _ (by show w.heap.size+1≠w.heap.size;omega)).trans i1);have d3:Same (fun b=>w.heap.size+2≤b) w4 ((w4.setCell ⟨w.heap.size,4,none⟩ (.slice b1 num.length e1)).setCell ⟨w.heap.size,5,none⟩ (.slice b2 den.length e2)):=fun b hb=>(kF _ ⟨w.heap.size,5,none⟩ _ _ (by show b≠w.heap.size;omega)).trans (kF _ ⟨w.heap.size,4,none⟩ _ _ (by show b≠w.heap.size;omega))
  have d7:Below w.heap.size w ((w4.setCell ⟨w.heap.size,4,none⟩ (.slice b1 num.length e1)).setCell ⟨w.heap.size,5,none⟩ (.slice b2 den.length e2)):=(h4.setCell (p:=⟨w.heap.size,4,none⟩) (aA _) _).setCell (p:=⟨w.heap.size,5,none⟩) (aA _) _;obtain⟨wc,hwc⟩:∃wc,(w4.setCell ⟨w.heap.size,4,none⟩ (.slice b1 num.length e1)).setCell ⟨w.heap.size,5,none⟩ (.slice b2 den.length e2)=wc:=⟨_,rfl⟩;have j4:wc.heap.size=w4.heap.size:=by rw [←hwc];simp
  rw [hwc] at b9 c0 d3 d7 ⊢;have b3:LimS (Fresh (w.heap.size+2) wc.heap.size) wc b1 num:=((hL1.keep (Same.of_below hb4 fun k hk=>hk.2)).mono fun k hk=>⟨by have:=hk.1;have:=a7.size;have:=b5.out;have e:({ wb with drawn:=wb.drawn+1 }:World).heap.size=wb.heap.size:=rfl;omega,by have:=hk.2;have:=a8.out;omega⟩).keep (fun b hb=>d3 b hb.1);have b4:LimS (Fresh (w.heap.size+2) wc.heap.size) wc b2 den:=(hL2.mono fun k hk=>⟨by have:=hk.1;have:=b5.out;have:=a8.out;omega,by have:=hk.2;omega⟩).keep (fun b hb=>d3 b hb.1);have a9:Aside (w.heap.size+2≤wc.heap.size):=by have:=b5.out;have:=a8.out;show _≤_;omega
  simp only [Gp,BE,Gn] at b9;clear hwc j4 hL1 hL2 y0 y1 y2 y3 y4 y5 y6 z4 d5 i1 hb3 hb4 b6 b7 fc d1 d2 x0 x1 x2 x3 x4 x5 x6 a7 b5 a8 hq1 hq2 c4 d3 h4;obtain⟨y0,y1,y2,y3,y4,y5,y6⟩:=cY b9;have z5:=sM b9;obtain⟨u0,u1,u2,u3,u4,u5,u6⟩:=cY c0;have t5:=sM c0
  by_cases e8:len=0
  ·subst e8;have c6:args= []:=lB Al.out.1;clear ih h2
   go_wp2_with fail
   have h6:(wc.setCell ⟨w.heap.size,6,none⟩ (.slice none 0 0)).heap[w.heap.size+1]?=_:=(kF wc ⟨w.heap.size,6,none⟩ (.slice none 0 0) (w.heap.size+1) (by show w.heap.size+1≠w.heap.size;omega)).trans c0;obtain⟨g1,g2,g3⟩:=set7 (v0:=.int .i64 k) (v1:=.int .i64 v) (v2:=.string nm) (v3:=.bool g) (v4:=.slice b1 num.length e1) (v5:=.slice b2 den.length e2) (v6:=.slice none 0 0) h6;have c9:=d7.setCell (p:=⟨w.heap.size,6,none⟩) (aA _) (.slice none 0 0);refine kW (results_cell_row rfl _ _ (w.heap.size+1) 48 _ _ _ rfl g1 Tryz.underlying48 rfl (by kernel_rfl)) rfl ?_;refine⟨[.int .i64 k,.int .i64 v,.string nm,.bool g,.slice b1 num.length e1,.slice b2 den.length e2,.slice none 0 0],rfl,?_,c9.trans (g3.mono (by omega))⟩;have hk:Same (Fresh (w.heap.size+2) wc.heap.size) wc _:=fun b hb=>(g2 b (by have:=hb.1;omega)).trans (kF wc ⟨w.heap.size,6,none⟩ (.slice none 0 0) b (by have:=hb.1;show b≠w.heap.size;omega))
   have hz:=g3.size;rw [World.size_setCell] at hz;subst c6;simp only [TmS,TmsS];exact⟨b1,e1,b2,e2,none,0,rfl,(b3.keep hk).mono fun b hb=>⟨by have:=hb.1;omega,aZ hb.2 hz⟩,(b4.keep hk).mono fun b hb=>⟨by have:=hb.1;omega,aZ hb.2 hz⟩,trivial,by simp,by rw [Al.out.2.1];exact hbA,by rw [Al.out.2.2];exact hbC⟩
  ·have j9:((len:Int)==0)=false:=by simpa using e8
   have j1:Aside (0<len):=by show 0<len;omega
   clear e8
   go_upto_region 5 with fail
   obtain⟨C0,hC0⟩:∃C0,madeCells zTm.cells (len*7)=C0:=⟨_,rfl⟩;have mk:∀w:World,(Instr.makeSlice 46 (.int .i64 len) (.int .i64 len)).run Tryz.prog w= .ok (.slice (some ⟨w.heap.size,0,none⟩) len len) (w.alloc (.cells C0 48)):=fun w=>by rw [←hC0];exact YN len hbig w
   have i4:Aside (C0.size=len*7):=by rw [←hC0];exact size_madeCells _ _
   clear hC0
   go_upto_region 6 with fail
   have a7:=aC wc (Obj.cells C0 48);have f8:=(a7.block w.heap.size (by have:=a9.out;omega)).trans b9;have i2:=(a7.block (w.heap.size+1) (by have:=a9.out;omega)).trans c0;have d0:=heap_alloc_new wc (Obj.cells C0 48);obtain⟨L,hL⟩:∃L,wc.heap.size=L:=⟨_,rfl⟩;rw [hL] at a7 d0 a9 b3 b4 ⊢;have j5:=aside hL;have g8:Aside ((wc.alloc (Obj.cells C0 48)).heap.size=L+1):=by show _=_;rw [cT,hL]
   generalize wc.alloc (Obj.cells C0 48)=wd at*;clear mk hL b9 c0 y0 y1 y2 y3 y4 y5 y6 z5 u0 u1 u2 u3 u4 u5 u6 t5;obtain⟨y0,y1,y2,y3,y4,y5,y6⟩:=cY f8
   go_wp2_with fail
   have c5:Below w.heap.size w wd:=d7.trans (a7.mono (by have:=a9.out;omega))
   go_loopw [31] (fun s wr=>∃i:Nat,s= .int .i64 i∧i≤len∧Below L wd wr∧∃C:Array Value,wr.heap[L]?=some (.cells C 48 (0,0))∧Aside (C.size=len*7∧L+1≤wr.heap.size∧∀(j:Nat) T,j<i→args[j]?=some T→∃vs,vs.length=7∧(∀(m:Nat) u,vs[m]?=some u→C[j*7+m]?=some u)∧TmS (Fresh (L+1) wr.heap.size) wr T vs)) (fun s _=>len-(intOf s).toNat)
   case atStart=>exact⟨0,rfl,aT _,aI _ _,C0,d0,i4.out,GQ g8.out.symm,fun j T hj=>absurd hj (GO j)⟩
   case round=>
    obtain⟨i,rfl,hi,hBr,C,hC,hinv⟩:=hrel
    by_cases i9:i<len
    ·obtain⟨T',b8⟩:∃T',args[i]?=some T':=⟨args[i]'(by rw [Al.out.1];exact i9),aL _⟩;obtain⟨b,off,g9,rfl,hbn,hc,hv⟩:=h2.get b8;have i3:=hv
     match T',hv with
     | .mk k' v' nm' g' a5 a4 a0,hv=>
      simp only [TmV] at hv;obtain⟨t1,t2,a',c',rfl,⟨⟨p1',q1',rfl,_⟩,⟨p2',q2',rfl,_⟩⟩,_⟩:=hv;have c8:Below w.heap.size w wr:=c5.trans (hBr.mono (by have:=a9.out;omega));have b0:∀p:Addr,p.block<n→wr.cell? p=w.cell? p:=fun p hp=>(c8.mono hn).cell hp
      rw [cG] at hc;have x0:=(b0 ⟨b,off+i*7+0,none⟩ hbn).trans (hc 0 _ rfl);have x1:=(b0 ⟨b,off+i*7+1,none⟩ hbn).trans (hc 1 _ rfl);have x2:=(b0 ⟨b,off+i*7+2,none⟩ hbn).trans (hc 2 _ rfl);have x3:=(b0 ⟨b,off+i*7+3,none⟩ hbn).trans (hc 3 _ rfl);have x4:=(b0 ⟨b,off+i*7+4,none⟩ hbn).trans (hc 4 _ rfl);have x5:=(b0 ⟨b,off+i*7+5,none⟩ hbn).trans (hc 5 _ rfl);have x6:=(b0 ⟨b,off+i*7+6,none⟩ hbn).trans (hc 6 _ rfl);rw [fP] at x0;have j7:(i:Int)<(len:Int):=by omega
      have j8:(0:Int)≤(i:Int):=by omega
      have k1:IntKind.i64.wrap ((i:Int)+1)=(i:Int)+1:=by rw [aG];omega
      have c7:Below wr.heap.size wr (wr.alloc (Obj.cells #[.int .i64 k',.int .i64 v',.string nm',.bool g',.slice p1' a5.length q1',.slice p2' a4.length q2',.slice a' a0.length c'] 48)):=aC _ _;have a6:Aside ((wr.alloc (Obj.cells #[.int .i64 k',.int .i64 v',.string nm',.bool g',.slice p1' a5.length q1',.slice p2' a4.length q2',.slice a' a0.length c'] 48)).heap.size=wr.heap.size+1):=by show _=_;simp
      have d1:=ih _ (aX b8) n (wr.alloc (Obj.cells #[.int .i64 k',.int .i64 v',.string nm',.bool g',.slice p1' a5.length q1',.slice p2' a4.length q2',.slice a' a0.length c'] 48)) _ (TmV.below (c8.trans (c7.mono c8.size)) hn _ _ i3) (by have:=a6.out;have:=c8.size;omega);replace d1:Calls Tryz.prog 60 #[.agg #[.int .i64 k',.int .i64 v',.string nm',.bool g',.slice p1' a5.length q1',.slice p2' a4.length q2',.slice a' a0.length c']] _ _:=d1;have j2:=heap_alloc_new wr (Obj.cells #[.int .i64 k',.int .i64 v',.string nm',.bool g',.slice p1' a5.length q1',.slice p2' a4.length q2',.slice a' a0.length c'] 48);generalize k2:wr.alloc (Obj.cells #[.int .i64 k',.int .i64 v',.string nm',.bool g',.slice p1' a5.length q1',.slice p2' a4.length q2',.slice a' a0.length c'] 48)=we at*;have d9:Aside (i*7+7≤C.size):=by show _≤_;have:=hinv.out.1;rw [this];omega
      have d2:=d1.mono (R':=fun e w'=>∃a1 c1 a2 c2 a3 c3 r0 r1 r2 r3 r4 r5 r6,e= .returned (.agg #[.int .i64 k',.int .i64 v',.string nm',.bool g',.slice a1 a5.length c1,.slice a2 a4.length c2,.slice a3 a0.length c3])∧Aside (TmS (Fresh we.heap.size w'.heap.size) w' (.mk k' v' nm' g' a5 a4 a0) [.int .i64 k',.int .i64 v',.string nm',.bool g',.slice a1 a5.length c1,.slice a2 a4.length c2,.slice a3 a0.length c3])∧Below we.heap.size we w'∧w'.heap[L]?=some (.cells C 48 (0,0))∧
        (w'.cell? ⟨L,i*7,none⟩=some r0∧w'.cell? ⟨L,i*7+1,none⟩=some r1∧w'.cell? ⟨L,i*7+2,none⟩=some r2∧w'.cell? ⟨L,i*7+3,none⟩=some r3∧w'.cell? ⟨L,i*7+4,none⟩=some r4∧w'.cell? ⟨L,i*7+5,none⟩=some r5∧w'.cell? ⟨L,i*7+6,none⟩=some r6)) (fun e w' ⟨vs,e1,ht,hb⟩=>by
       have j3:=ht;simp only [TmS] at ht;obtain⟨a1,c1,a2,c2,a3,c3,rfl,_⟩:=ht;have h5:w'.heap[L]?=some (.cells C 48 (0,0)):=((hb.block L (by have:=hinv.out.2.1;have:=a6.out;omega)).trans (c7.block L (by have:=hinv.out.2.1;omega))).trans hC;have at_:∀m,m<7→∃r,w'.cell? ⟨L,i*7+m,none⟩=some r:=fun m hm=>⟨C[i*7+m]'(by have:=d9.out;omega),by simp [World.cell?,h5,show i*7+m<C.size by have:=d9.out;omega]⟩
       obtain⟨r0,e0⟩:=at_ 0 (by omega)
       obtain⟨r1,e1'⟩:=at_ 1 (by omega)
       obtain⟨r2,e2'⟩:=at_ 2 (by omega)
       obtain⟨r3,e3⟩:=at_ 3 (by omega)
       obtain⟨r4,e4⟩:=at_ 4 (by omega)
       obtain⟨r5,e5⟩:=at_ 5 (by omega)
       obtain⟨r6,e6⟩:=at_ 6 (by omega)
       exact⟨a1,c1,a2,c2,a3,c3,r0,r1,r2,r3,r4,r5,r6,e1,j3,hb,h5,e0,e1',e2',e3,e4,e5,e6⟩)
      have j0:Aside (∀(w3 w4:World) (C':Array Value) us,us.length=7→TmS (Fresh we.heap.size w3.heap.size) w3 (.mk k' v' nm' g' a5 a4 a0) us→Below we.heap.size we w3→(∀b,b≠L→w4.heap[b]?=w3.heap[b]?)→w3.heap.size≤w4.heap.size→
        (∀j,j<i*7∨i*7+7≤j→C'[j]?=C[j]?)→(∀(m:Nat) u,us[m]?=some u→C'[i*7+m]?=some u)→∀(j:Nat) T,j<i+1→args[j]?=some T→∃vs,vs.length=7∧(∀(m:Nat) u,vs[m]?=some u→C'[j*7+m]?=some u)∧TmS (Fresh (L+1) w4.heap.size) w4 T vs):=by
       show∀(w3 w4:World) (C':Array Value) us,_;intro w3 w4 C' us e9 ht e7 hk d6 f7 i6 j T hj hT;have h8:∀m,Same (Fresh (L+1) m) w3 w4:=fun m b hb=>hk b (by have:=hb.1;omega)
       by_cases i7:j<i
       ·obtain⟨vs,h1,h2,h3⟩:=hinv.out.2.2 j T i7 hT;refine⟨vs,h1,fun m u hm=>?_,?_⟩
        ·have k0:m<7:=by have:=(List.getElem?_eq_some_iff.1 hm).1;omega
         rw [f7 (j*7+m) (.inl (by omega))];exact h2 m u hm
        ·refine TmS.mono (fun b hb=>⟨hb.1,?_⟩) _ _ (TmS.keep (h8 _) _ _ (TmS.keep (Same.of_below e7 fun b hb=>?_) _ _ (TmS.keep (Same.of_below c7 fun b hb=>hb.2) _ _ h3)))
         ·have h1:=hb.2;have h2:=a6.out;have h3:=e7.size;omega
         ·have h1:=hb.2;have h2:=a6.out;have h3:=e7.size;omega
       ·obtain rfl:j=i:=by omega
        rw [b8] at hT;obtain rfl:=aJ hT;refine⟨us,e9,i6,?_⟩;have i8:L+1≤we.heap.size:=by have:=hinv.out.2.1;have:=a6.out;omega
        refine TmS.mono (fun b hb=>⟨aE i8 hb.1,aZ hb.2 d6⟩) _ _ (TmS.keep (fun b hb=>hk b (by have:=hb.1;omega)) _ _ ht)
      generalize a0.length=len' at*;generalize a5.length=ln1 at*;generalize a4.length=ln2 at*;clear h2 ih hc i3 b8 b0 d1 d0;obtain⟨s0,s1,s2,s3,s4,s5,s6⟩:=cY j2
      go_wp2_with (go_at_call 60;with_reducible refine d2.mono ?_;rintro e w3 ⟨a1,c1,a2,c2,a3,c3,r0,r1,r2,r3,r4,r5,r6,rfl,hts,hb3,hL3,f0,f1,f2,f3,f4,f5,f6⟩;have z3:=sM hL3)
      obtain⟨C',g1,g2,g3,g4,g5,g6⟩:=set7at (o:=i*7) (v0:=.int .i64 k') (v1:=.int .i64 v') (v2:=.string nm') (v3:=.bool g') (v4:=.slice a1 ln1 c1) (v5:=.slice a2 ln2 c2) (v6:=.slice a3 len' c3) hL3 d9.out;have d8:Below L wd _:=hBr.trans ((c7.mono (by have:=hinv.out.2.1;omega)).trans ((hb3.mono (by have:=hinv.out.2.1;have:=a6.out;omega)).trans g6));exact⟨⟨i+1,by simp,by omega,d8,C',g1,by rw [g2];exact hinv.out.1,by have:=g6.size;have:=hb3.size;have:=hinv.out.2.1;have:=a6.out;omega,j0.out w3 _ C' _ rfl hts.out hb3 g5 g6.size g3 g4⟩,by simp [intOf];omega⟩
    ·obtain rfl:i=len:=by omega
     have h9:=(hBr.block w.heap.size (by have:=a9.out;omega)).trans f8;have f9:=(hBr.block (w.heap.size+1) (by have:=a9.out;omega)).trans i2;obtain⟨w0,w1,w2,w3,w4,w5,w6⟩:=cY h9;have z7:=sM h9;obtain⟨o0,o1,o2,o3,o4,o5,o6⟩:=cY f9;have z8:=sM f9;clear ih h2 y0 y1 y2 y3 y4 y5 y6 f8 i2 d0
     go_wp2_with fail
     have h6:(wr.setCell ⟨w.heap.size,6,none⟩ (.slice (some ⟨L,0,none⟩) i i)).heap[w.heap.size+1]?=_:=(kF wr ⟨w.heap.size,6,none⟩ (.slice (some ⟨L,0,none⟩) i i) (w.heap.size+1) (by show w.heap.size+1≠w.heap.size;omega)).trans f9;obtain⟨g1,g2,g3⟩:=set7 (v0:=.int .i64 k) (v1:=.int .i64 v) (v2:=.string nm) (v3:=.bool g) (v4:=.slice b1 num.length e1) (v5:=.slice b2 den.length e2) (v6:=.slice (some ⟨L,0,none⟩) i i) h6;have c9:=(c5.trans (hBr.mono (by have:=a9.out;omega))).setCell (p:=⟨w.heap.size,6,none⟩) (aA _) (.slice (some ⟨L,0,none⟩) i i);refine kW (results_cell_row rfl _ _ (w.heap.size+1) 48 _ _ _ rfl g1 Tryz.underlying48 rfl (by kernel_rfl)) rfl ?_;refine⟨[.int .i64 k,.int .i64 v,.string nm,.bool g,.slice b1 num.length e1,.slice b2 den.length e2,.slice (some ⟨L,0,none⟩) i i],rfl,?_,c9.trans (g3.mono (by omega))⟩;have hz:=g3.size;rw [World.size_setCell] at hz;obtain⟨wf,hwf⟩:∃wf,(((((((wr.setCell ⟨w.heap.size,6,none⟩ (.slice (some ⟨L,0,none⟩) i i)).setCell ⟨w.heap.size+1,0,none⟩ (.int .i64 k)).setCell ⟨w.heap.size+1,1,none⟩ (.int .i64 v)).setCell ⟨w.heap.size+1,2,none⟩ (.string nm)).setCell ⟨w.heap.size+1,3,none⟩ (.bool g)).setCell ⟨w.heap.size+1,4,none⟩ (.slice b1 num.length e1)).setCell ⟨w.heap.size+1,5,none⟩ (.slice b2 den.length e2)).setCell ⟨w.heap.size+1,6,none⟩ (.slice (some ⟨L,0,none⟩) i i)=wf:=⟨_,rfl⟩;rw [hwf] at g2 hz ⊢;have hk:∀b,w.heap.size+2≤b→wf.heap[b]?=wr.heap[b]?:=fun b hb=>(g2 b (by omega)).trans (kF wr ⟨w.heap.size,6,none⟩ (.slice (some ⟨L,0,none⟩) i i) b (by show b≠w.heap.size;omega))
     clear hwf g2 g1 g3 c9 h6;have j6:=hinv.out.2.1;have g0:=a9.out;have h8:Same (fun b=>w.heap.size+2≤b) wr wf:=hk;have g7:∀b,b<L→wr.heap[b]?=wc.heap[b]?:=fun b hb=>(hBr.block b hb).trans (a7.block b hb)
     have h7:Same (Fresh (w.heap.size+2) L) wc wf:=fun b hb=>(hk b hb.1).trans (g7 b hb.2)
     simp only [TmS];refine⟨b1,e1,b2,e2,some ⟨L,0,none⟩,i,by rw [Al.out.1],(b3.keep h7).mono fun b hb=>⟨by have:=hb.1;omega,by have:=hb.2;omega⟩,(b4.keep h7).mono fun b hb=>⟨by have:=hb.1;omega,by have:=hb.2;omega⟩,?_,by rw [Al.out.1];exact hbig,by rw [Al.out.2.1];exact hbA,by rw [Al.out.2.2];exact hbC⟩;refine IH ⟨by omega,by omega⟩ args 0 fun kk T hT=>?_
     obtain⟨vs,e1,e2,e3⟩:=hinv.out.2.2 kk T (by have:=(List.getElem?_eq_some_iff.1 hT).1;have:=Al.out.1;omega) hT;refine⟨vs,fun m u hm=>?_,TmS.mono (fun b hb=>⟨by have:=hb.1;omega,by have:=hb.2;omega⟩) _ _ (TmS.keep (fun b hb=>hk b (by have:=hb.1;omega)) _ _ e3)⟩;have i5:wf.heap[L]?=some (.cells C 48 (0,0)):=(hk L g0).trans hC;have:=e2 m u hm;simp [World.cell?,i5,this]
theorem OY:∀(T:Tm),CloneOk T
 | .mk k v nm g num den args=>Dl k v nm g num den args fun T' b8=>OY T'
termination_by T=>SizeOf.sizeOf T
decreasing_by
 simp_wf
 have:=oE b8;omega
end
section
attribute [local go_sem] Heavy.uponW
def NatL (n:Nat) (w:World) (r:Value) (v:Nat):Prop:=∃a L c,r= .slice a L.length c∧bV n w a L∧NoZ L∧val 4294967296 L=v
theorem bV.up {a:Option Addr} (h:bV n w a L) (hm:n≤m):bV m w a L:=by
 refine⟨h.1,fun c2=>?_⟩;obtain⟨b,off,e,hbn,hc⟩:=h.2 c2;exact⟨b,off,e,by omega,hc⟩
theorem NatL.below (h:NatL n w r v) (hb:Below m w w') (hm:n≤m):NatL n w' r v:=by
 obtain⟨a,L,c,h1,h3,h4⟩:=h;exact⟨a,L,c,h1,h3.below hb hm,h4⟩
theorem NatL.up (h:NatL n w r v) (hm:n≤m):NatL m w r v:=by
 obtain⟨a,L,c,h1,h3,h4⟩:=h;exact⟨a,L,c,h1,h3.up hm,h4⟩
theorem jH.noZ (h:jH L k):NoZ (L.take k):=by
 intro x hx;rw [rK,aU,kY h.1] at hx;rcases h.2.2 with h0|⟨y,hy,b2⟩
 ·subst h0;simp at hx
 ·have hk:k-1<k:=by
   rcases rH k with h0|h0
   ·subst h0;simp at hx
   ·omega
  rw [gC hk,hy] at hx;cases hx;exact b2
theorem Ek (x y:Nat) (hx:x<4294967296) (hy:y<4294967296):bits .or .u64 (x:Int) ((y:Int)*4294967296)=((x+y*4294967296:Nat):Int):=by
 have e:y<<<32+x=y<<<32|||x:=AZ (by omega) y;rw [wQ] at e;have h1:(BitVec.ofInt 64 (x:Int)).toNat=x:=by rw [lF,lE];omega
 have e1:((y:Int)*4294967296)=((y*4294967296:Nat):Int):=by simp
 have h2:(BitVec.ofInt 64 ((y*4294967296:Nat):Int)).toNat=y*4294967296:=by rw [lF,lE];omega
 show IntKind.u64.wrap (((BitVec.ofInt 64 (x:Int))|||BitVec.ofInt 64 ((y:Int)*4294967296)).toNat:Int)=_;rw [e1,BL,h1,h2,RO];have e3:y*4294967296|||x=y*4294967296+x:=by rw [show(4294967296:Nat)=2^32 by decide,e]
 rw [e3,wrap_u64];omega
theorem NatL.of_trim {bo:Nat} (hl:ds.length=i) (hT:jH ds k) (h:bV w.heap.size w (some ⟨bo,0,none⟩) ds) (hb:Below w.heap.size w w'):NatL w'.heap.size w' (.slice (some ⟨bo,0,none⟩) k i) (val 4294967296 ds):=by
 have hk:=hT.1;refine⟨some ⟨bo,0,none⟩,ds.take k,i,?_,?_,hT.noZ,hT.val⟩
 ·rw [aU,kY hT.1]
 ·have:=((h.below hb (aA _)).up hb.size);refine⟨fun x hx=>this.1 x (iQ hx),fun c2=>?_⟩;obtain⟨b3,off3,e3,hb3,hc3⟩:=this.2 (fun h=>c2 (by rw [h];simp));exact⟨b3,off3,e3,hb3,fun j x hx=>hc3 j x (by
   have hj:j<k:=by
    have:=(List.getElem?_eq_some_iff.1 hx).1;rw [aU] at this;omega
   rwa [gC hj] at hx)⟩
structure ShrD (B p:Nat) (A:List Nat) (i:Nat) (ds:List Nat):Prop where
 len:ds.length=i
 dig:∀d∈ds,d<B
 sum:val B ds*p+dg A 0%p=val B (A.take i)+B^i*(dg A i%p)
theorem ShrD.start:ShrD B p A 0 []:=⟨rfl,by simp,by simp [val]⟩
theorem US {y:Nat} (hp:0<p) (hm:0<m) (hx:x<p*m):(x+y*(p*m))/p%(p*m)<p*m∧(x+y*(p*m))/p%(p*m)*p+x%p=x+p*m*(y%p):=by
 have d4:0<p*m:=Nat.mul_pos hp hm;refine⟨kC _ d4,?_⟩;have e1:(x+y*(p*m))/p=x/p+m*y:=by
  rw [show y*(p*m)=p*(m*y) by rw [bG y,cU],Nat.add_mul_div_left _ _ hp]
 have f3:x/p<m:=GT hx;have hy:m*(y%p)+m≤p*m:=by
  rw [←Nat.mul_succ,bG p m];exact kB _ (kC _ hp)
 have e2:(x/p+m*y)%(p*m)=x/p+m*(y%p):=by
  have e3:m*y=m*(y%p)+p*m*(y/p):=by
   have:=BA y p
   conv=>lhs;rw [←this]
   rw [cC,←cU,bG m p]
  rw [e3,←kE,Gi,pO (by omega)]
 rw [e1,e2,cL];have h1:=kD x p;have h2:m*(y%p)*p=p*m*(y%p):=by rw [bG,cU]
 rw [h2,bG (x/p) p];omega
theorem ShrD.step (hB:B=p*m) (hp:0<p) (hm:0<m) (h:ShrD B p A i ds) (hx:A[i]?=some x) (a4:x<B):ShrD B p A (i+1) (ds++ [(x+dg A (i+1)*B)/p%B]):=by
 obtain⟨q1,q2⟩:=US (y:=dg A (i+1)) hp hm (by rw [←hB];exact a4);rw [←hB] at q1 q2;obtain⟨d,hd⟩:∃d,d=(x+dg A (i+1)*B)/p%B:=⟨_,rfl⟩;rw [←hd] at q1 q2 ⊢;refine⟨by rw [aK,h.len];rfl,fun e he=>?_,?_⟩
 ·rcases bX.1 he with he|he
  ·exact h.dig e he
  ·simp at he;omega
 ·have h1:=h.sum;rw [Cm hx] at h1;have hl:(A.take i).length=i:=by
   have:=(List.getElem?_eq_some_iff.1 hx).1;rw [aU];omega
  rw [gL,h.len,lZ hx,gL,hl,eB];have e1:(val B ds+B^i*d)*p=val B ds*p+B^i*(d*p):=by rw [cL,cU]
  have e2:B^i*(d*p)+B^i*(x%p)=B^i*x+B^i*B*(dg A (i+1)%p):=by
   rw [←cC,q2,cC,cU]
  rw [e1];omega
theorem ShrD.done (hp:0<p) (h:ShrD B p A A.length ds):val B ds=val B A/p:=by
 have h1:=h.sum;rw [vS (aA _),AX,tL,fP,gA] at h1;have h2:dg A 0%p<p:=kC _ hp;rw [←h1,bG,Nat.mul_add_div hp,Nat.div_eq_of_lt h2,fP]
theorem UT (a:Option Addr) (len cap n s:Nat) (A:List Nat) (hl:A.length=len) (hb:len≤1000000) (hs:s<32) (d1:len≤cap) (w:World) (hn:n≤w.heap.size) (h1:bV n w a A):
  Calls Tryz.prog 359 #[.slice a len cap,.int .i64 s] w fun e w'=>∃r x,e= .returned (.tuple #[r,x])∧NatL w'.heap.size w' r (val 4294967296 A/2^s)∧Below w.heap.size w w':=by
 have hq:(s:Int)/32=0:=by omega
 have hr:(s:Int)%32=s:=by omega
 by_cases h0:len=0
 ·subst h0;obtain rfl:A= []:=kZ.1 hl;go_enter Tryz.func359,Tryz.ntmps359
  go_wp2_with fail
  go_ret2
  exact⟨_,_,rfl,⟨none,[],0,rfl,⟨by simp,fun h=>absurd rfl h⟩,by simp [NoZ],by simp [val]⟩,aI _ _⟩
 ·have e9:¬((len:Int)≤0):=by omega
  obtain⟨x0,hx0⟩:∃x,A[0]?=some x:=⟨_,aL (by omega)⟩;obtain⟨b,off,rfl,hbk,hx0B,hc0⟩:=h1.get hx0;have d2:∀w2,Below w.heap.size w w2→w2.cell? ⟨b,off,none⟩=some (.int .u32 x0):=fun w2 a6=>(a6.cell (p:=⟨b,off,none⟩) (by show b<_;omega)).trans (by simpa using hc0)
  have d7:∀w2,Below w.heap.size w w2→Calls Tryz.prog 129 #[.slice (some ⟨b,off,none⟩) 0 cap] w2 fun e w'=>∃sv,e= .returned sv∧(∃a c,sv= .slice a 0 c∧LimS (Fresh w2.heap.size w'.heap.size) w' a [])∧Below w2.heap.size w2 w':=fun w2 a6=>uL _ 0 [] (by simp) w2 (aT _) ⟨_,cap,rfl,by simp,fun h=>absurd rfl h⟩
  have e8:0<len:=by omega
  have f0:(s:Int).tmod 32=s:=by rw [Int.tmod_eq_emod_of_nonneg (by omega)];omega
  have e0:(0:Int)≤(cap:Int):=by omega
  go_enter Tryz.func359,Tryz.ntmps359
  go_upto_region 4 with fail
  have a8:Below w.heap.size w { w with drawn:=w.drawn+1 }:=qT w;refine Heavy.region_plan (fun w'=>Below w.heap.size w w') 19 (Heavy.lights [0,1,2] (.one 3 (.one 4 (Heavy.lights [5,6,7,8,9,10,11,12,13,14,15,16,17,18] .done)))) (by kernel_rfl) (by kernel_rfl) a8 ?_;simp only [Heavy.lights,bB,bJ,bF,bE]
  iterate 3 (apply Heavy.light_n;(exact rfl);(exact rfl);(intro b4 hw;go_simp;exact rfl))
  apply Heavy.one_n
  ·exact rfl
  ·exact rfl
  go_simp
  refine(d7 _ a8).mono ?_;rintro e w3 ⟨f4,rfl,⟨b1,e1,rfl,hL1⟩,hb3⟩;have a7:Below w.heap.size w w3:=a8.trans hb3;refine⟨_,rfl,a7,?_⟩;apply Heavy.one_n
  ·exact rfl
  ·exact rfl
  go_simp
  refine(qD b1 0 e1 0 [] rfl (by decide) (aT _) w3 (aT _) ⟨by simp,fun h=>absurd rfl h⟩).mono ?_;rintro e w4 ⟨k4,rfl,hT4,hb4⟩;have a5:Below w.heap.size w w4:=a7.trans (hb4.mono a7.size);obtain rfl:k4=0:=by have:=hT4.1;simp only [rJ] at this;omega
  clear hT4;refine⟨_,rfl,a5,?_⟩
  iterate 3 (apply Heavy.light_n;(exact rfl);(exact rfl);(intro b4 hw;go_simp;exact rfl))
  iterate 10 (apply Heavy.light_step;(exact rfl);(go_simp);(intro b4 hw;have ka:=d2 b4 hw;go_simp;exact rfl))
  iterate 1 (apply Heavy.light_n;(exact rfl);(exact rfl);(intro b4 hw;go_simp;exact rfl))
  refine Heavy.plan_end ?_;have mk:(Instr.makeSlice 43 (.int .i64 (len:Int)) (.int .i64 (len:Int))).run Tryz.prog w4=_:=uX len (by omega) w4;obtain⟨wb,hwb⟩:∃wb,w4.alloc (lX len)=wb:=⟨_,rfl⟩;have b7:bO wb w4.heap.size (List.replicate len 0):=hwb▸tV w4 len;have c5:Below w.heap.size w wb:=a5.trans ((hwb▸tW w4 len).mono a5.size);have f2:IntKind.i64.wrap (len:Int)=(len:Int):=by rw [aG];omega
  obtain⟨bo,hbo⟩:∃bo,w4.heap.size=bo:=⟨_,rfl⟩;rw [hbo] at b7 mk;have c6:w.heap.size≤bo:=hbo▸a5.size;have b5:=aside3 b7 c5 c6;clear hb3 a7 hb4 a5 b7 c5 c6 hL1 a8 hbo
  go_wp2_with fail
  clear mk hwb;have c9:=aside hl
  go_loopw [44] (fun d8 wr=>∃(i:Nat) (ds:List Nat),d8= .int .i64 i∧i≤len∧Aside (ShrD 4294967296 (2^s) A i ds)∧bO wr bo (ds++List.replicate (len-i) 0)∧Below w.heap.size w wr) (fun s _=>len-(intOf s).toNat)
  case atStart=>exact⟨0,[],rfl,aT _,ShrD.start,by simpa using b5.out.1,b5.out.2.1⟩
  case round=>
   obtain⟨i,ds,rfl,hi,hD,hR,hB⟩:=hrel
   by_cases b9:i<len
   ·obtain⟨x,hx⟩:∃x,A[i]?=some x:=⟨_,aL (by omega)⟩;have a4:=h1.1 x (aX hx);have hc:wr.cell? ⟨b,off+i,none⟩=some (.int .u32 x):=by
     obtain⟨b',off',e,_,_,h⟩:=(h1.below hB hn).get hx;cases e;exact h
    obtain⟨z,hz⟩:∃z,len-i=z+1:=⟨len-i-1,by omega⟩;rw [hz,lW] at hR;obtain⟨y,hy⟩:∃y,y=dg A (i+1):=⟨_,rfl⟩;have c3:y<4294967296:=by rw [hy];exact mL (by decide) h1.1 _
    obtain⟨T,hT⟩:∃T,T=x+y*4294967296:=⟨_,rfl⟩;obtain⟨q,hq'⟩:∃q,q=T/2^s:=⟨_,rfl⟩;obtain⟨d,hd⟩:∃d,d=q%4294967296:=⟨_,rfl⟩;have a0:=ShrD.step (xY hs) (jJ (by decide)) (jJ (by decide)) hD.out hx a4;rw [←hy,←hT,←hq',←hd] at a0;have c7:=aside a0;have m1:IntKind.u64.wrap (x:Int)=(x:Int):=by rw [wrap_u64];omega
    have m2:(T:Int)/2^s=(q:Int):=by rw [hq'];simp
    have m3:IntKind.u32.wrap (q:Int)=(d:Int):=by rw [jO];omega
    have a9:=hD.out.len;obtain⟨c0,c1⟩:=hR.cell (CG (c:=0) (rest:=List.replicate z 0) a9);have b6:=hR.set (k:=i) (d:=d);rw [CF a9] at b6;have c4:=hB.setCell (p:=⟨bo,i,none⟩) b5.out.2.2 (.int .u32 d);have e4:(i:Int)<(len:Int):=by omega
    have e6:(0:Int)≤(i:Int):=by omega
    have f1:IntKind.i64.wrap ((i:Int)+1)=(i:Int)+1:=by rw [aG];omega
    have c8:Aside (len-(i+1)=z):=by show _=_;omega
    have b0:=aside b9
    by_cases a1:i+1<len
    ·have d9:wr.cell? ⟨b,off+(i+1),none⟩=some (.int .u32 y):=by
      have d6:A[i+1]?=some y:=by rw [hy];exact nX (by omega)
      obtain⟨b',off',e,_,_,h⟩:=(h1.below hB hn).get d6;cases e;exact h
     have m4:IntKind.u64.wrap (y:Int)=(y:Int):=by rw [wrap_u64];omega
     have m5:IntKind.u64.wrap ((y:Int)*4294967296)=(y:Int)*4294967296:=by rw [wrap_u64];omega
     have m6:bits .or .u64 (x:Int) ((y:Int)*4294967296)=(T:Int):=by rw [Ek x y a4 c3,hT]
     have d3:(i:Int)+1<(len:Int):=by omega
     have e7:(0:Int)≤(i:Int)+1:=by omega
     clear a0 a9 hd hq' hT hy hz hR hB hD hx b9 a4 c3 a1
     go_wp2_with fail
     exact⟨⟨i+1,ds++ [d],by simp,by have:=b0.out;omega,c7,by rw [c8.out];simpa using b6,c4⟩,by have:=b0.out;simp [intOf];omega⟩
    ·have b2:y=0:=by rw [hy];exact vS (by omega)
     have d0:T=x:=by rw [hT,b2];omega
     subst d0;have d3:¬(i:Int)+1<(len:Int):=by omega
     clear a0 a9 hd hq' hT hy hz hR hB hD hx b9 a4 c3 a1 b2
     go_wp2_with fail
     exact⟨⟨i+1,ds++ [d],by simp,by have:=b0.out;omega,c7,by rw [c8.out];simpa using b6,c4⟩,by have:=b0.out;simp [intOf];omega⟩
   ·obtain rfl:i=len:=by omega
    have a3:=hD.out;rw [oD,GY,tU] at hR;have hv:=(show ShrD 4294967296 (2^s) A A.length ds by rw [c9.out];exact a3).done (jJ (by decide));have b8:bV wr.heap.size wr (some ⟨bo,0,none⟩) ds:=by
     have:=hR.lim0 a3.dig hR.lt i
     rwa [eP (by rw [a3.len];exact aA _)] at this
    have d5:=qD (some ⟨bo,0,none⟩) i i wr.heap.size ds a3.len (by omega) (aA _) wr (aA _) b8;have a2:Aside (val 4294967296 ds=val 4294967296 A/2^s∧ds.length=i∧bV wr.heap.size wr (some ⟨bo,0,none⟩) ds):=⟨hv,a3.len,b8⟩;clear hv b8 a3 hR hD
    go_wp2_with (go_at_call 360;with_reducible refine d5.mono ?_;rintro e w' ⟨k,rfl,hT,a6⟩)
    go_ret2
    have:=NatL.of_trim a2.out.2.1 hT a2.out.2.2 a6;rw [a2.out.1] at this;exact⟨_,_,rfl,this,hB.trans (a6.mono hB.size)⟩
end
structure DivS (B d:Nat) (A:List Nat) (j:Nat) (qs:List Nat) (rest:Nat):Prop where
 len:j+qs.length=A.length
 dig:∀q∈qs,q<B
 lt:rest<d
 sum:val B (A.drop j)=val B qs*d+rest
theorem DivS.start (hd:0<d):DivS B d A A.length [] 0:=⟨by simp,by simp,hd,by simp [val]⟩
theorem DivS.step {rest:Nat} (h:DivS B d A (j+1) qs rest) (hx:A[j]?=some x) (a1:x<B):(rest*B+x)/d<B∧DivS B d A j ((rest*B+x)/d::qs) ((rest*B+x)%d):=by
 have hd:0<d:=fO (aT _) h.lt;have hq:(rest*B+x)/d<B:=by
  refine GT ?_;have:(rest+1)*B≤d*B:=eI _ h.lt;rw [cL,kX] at this;omega
 refine⟨hq,⟨by have:=h.len;simp only [fU];omega,fun q hm=>?_,kC _ hd,?_⟩⟩
 ·rcases cD.1 hm with rfl|hm
  ·exact hq
  ·exact h.dig q hm
 ·obtain⟨h1,rfl⟩:=List.getElem?_eq_some_iff.1 hx;rw [oI h1,val,h.sum,val];have e:=kD (rest*B+A[j]) d;obtain⟨Q,hQ⟩:∃Q,Q=(rest*B+A[j])/d:=⟨_,rfl⟩;obtain⟨R,hR⟩:∃R,R=(rest*B+A[j])%d:=⟨_,rfl⟩;rw [←hQ,←hR] at e ⊢;rw [cL,cC,cU,bG Q d,bG B rest];omega
theorem DivS.done {rest:Nat} (h:DivS B d A 0 qs rest):val B A/d=val B qs∧val B A%d=rest:=by
 have h1:=h.sum;rw [bE] at h1;have hd:0<d:=fO (aT _) h.lt;rw [h1,bG];exact⟨by rw [Nat.mul_add_div hd,Nat.div_eq_of_lt h.lt,fP],by rw [Nat.mul_add_mod,pO h.lt]⟩
theorem VP:(List.replicate (j+1) 0++qs).set j q=List.replicate j 0++q::qs:=by
 rw [Gq,eZ];exact CF (by simp)
theorem VR:(List.replicate (j+1) 0++qs)[j]?=some 0:=by
 rw [Gq,eZ];exact CG (by simp)
theorem Cb (a:Option Addr) (len cap n d:Nat) (A:List Nat) (hl:A.length=len) (hb:len≤1000000) (b4:0<d) (b5:d<4294967296) (w:World) (hn:n≤w.heap.size) (h1:bV n w a A):
  Calls Tryz.prog 354 #[.slice a len cap,.int .u32 d] w fun e w'=>∃(q:Value) (r:Nat),e= .returned (.tuple #[q,.int .u32 r])∧r=val 4294967296 A%d∧NatL w'.heap.size w' q (val 4294967296 A/d)∧Below w.heap.size w w':=by
 have mk:(Instr.makeSlice 43 (.int .i64 (len:Int)) (.int .i64 (len:Int))).run Tryz.prog w=_:=uX len (by omega) w;obtain⟨wb,hwb⟩:∃wb,w.alloc (lX len)=wb:=⟨_,rfl⟩;have a8:bO wb w.heap.size (List.replicate len 0):=hwb▸tV w len;have a6:Below w.heap.size w wb:=hwb▸tW w len;have a5:=aside2 a8 a6;have c6:IntKind.i64.wrap ((len:Int)-1)=(len:Int)-1:=by rw [aG];omega
 have c2:¬d=0:=by omega
 clear a8 a6;go_enter Tryz.func354,Tryz.ntmps354
 go_wp2_with fail
 clear mk hwb;have b2:=aside hl
 go_loopw [7,8] (fun s7 s8 wr=>∃(j rest:Nat) (qs:List Nat),s8= .int .i64 ((j:Int)-1)∧s7= .int .u64 rest∧Aside (DivS 4294967296 d A j qs rest)∧bO wr w.heap.size (List.replicate j 0++qs)∧Below w.heap.size w wr) (fun _ s _=>(intOf s+1).toNat)
 case atStart=>exact⟨len,0,[],rfl,rfl,by rw [←b2.out];exact DivS.start b4,by simpa using a5.out.1,a5.out.2⟩
 case round=>
  obtain⟨j,rest,qs,rfl,rfl,hD,hR,hB⟩:=hrel
  by_cases a9:j=0
  ·subst a9;obtain⟨v1,v2⟩:=hD.out.done;have b7:=hD.out.lt;have a2:qs.length=len:=by have:=hD.out.len;omega
   rw [GY,oF] at hR;have a3:bV wr.heap.size wr (some ⟨w.heap.size,0,none⟩) qs:=by
    have:=hR.lim0 hD.out.dig hR.lt len
    rwa [eP (by omega)] at this
   have b9:=qD (some ⟨w.heap.size,0,none⟩) len len wr.heap.size qs a2 (by omega) (aA _) wr (aA _) a3;have a0:=aside4 v1 v2 a2 a3;have m1:IntKind.u32.wrap (rest:Int)=(rest:Int):=by rw [jO];omega
   clear v1 v2 b7 a2 a3 hR hD
   go_wp2_with (go_at_call 360;with_reducible refine b9.mono ?_;rintro e w' ⟨k,rfl,hT,hb2⟩)
   go_ret2
   refine⟨_,rest,rfl,a0.out.2.1.symm,?_,hB.trans (hb2.mono hB.size)⟩;rw [a0.out.1];exact NatL.of_trim a0.out.2.2.1 hT a0.out.2.2.2 hb2
  ·obtain⟨j,rfl⟩:∃j',j=j'+1:=⟨j-1,by omega⟩;have b6:j<len:=by have:=hD.out.len;omega
   obtain⟨x,hx⟩:∃x,A[j]?=some x:=⟨_,aL (by omega)⟩;obtain⟨b,off,rfl,hbk,a1,hc⟩:=(h1.below hB hn).get hx;obtain⟨b0,hstep⟩:=hD.out.step hx a1;have b1:rest<4294967296:=RS hD.out.lt b5;obtain⟨T,hT⟩:∃T,T=rest*4294967296+x:=⟨_,rfl⟩;obtain⟨q,hq⟩:∃q,q=T/d:=⟨_,rfl⟩;obtain⟨r2,hr2⟩:∃r2,r2=T%d:=⟨_,rfl⟩;rw [←hT,←hq,←hr2] at hstep;rw [←hT,←hq] at b0;have a4:r2<d:=hstep.lt;have b8:=aside hstep;have m1:IntKind.u64.wrap (x:Int)=(x:Int):=by rw [wrap_u64];omega
   have m2:IntKind.u64.wrap ((rest:Int)*4294967296)=(rest:Int)*4294967296:=by rw [wrap_u64];omega
   have m3:bits .or .u64 ((rest:Int)*4294967296) (x:Int)=(T:Int):=by rw [FO rest x b1 a1,hT];simp
   have m4:IntKind.u64.wrap (d:Int)=(d:Int):=by rw [wrap_u64];omega
   have m5:(T:Int)/(d:Int)=(q:Int):=by rw [hq];simp
   have m6:IntKind.u64.wrap (q:Int)=(q:Int):=by rw [wrap_u64];omega
   have m7:IntKind.u32.wrap (q:Int)=(q:Int):=by rw [jO];omega
   have m8:(T:Int).tmod (d:Int)=(r2:Int):=by rw [hr2,ST]
   have m9:IntKind.u64.wrap (r2:Int)=(r2:Int):=by rw [wrap_u64];omega
   obtain⟨c0,c1⟩:=hR.cell (VR (j:=j) (qs:=qs));have a7:=hR.set (k:=j) (d:=q);rw [VP] at a7;have b3:=hB.setCell (p:=⟨w.heap.size,j,none⟩) (aA _) (.int .u32 q);have c3:(j:Int)<(len:Int):=by omega
   have c4:(0:Int)≤(j:Int):=by omega
   have c5:IntKind.i64.wrap ((j:Int)-1)=(j:Int)-1:=by rw [aG];omega
   clear hstep hR hB hD hx b0 hq hr2 hT b6 a4 b1 a1 a9
   go_wp2_with fail
   exact⟨⟨j,r2,q::qs,rfl,rfl,b8,a7,b3⟩,by simp [intOf]⟩
theorem XS (x:Nat) (hx:x<4294967296) (w:World):Calls Tryz.prog 355 #[.int .u64 x] w fun e w'=>∃r,e= .returned r∧NatL w'.heap.size w' r x∧Below w.heap.size w w':=by
 have m1:IntKind.u32.wrap (x:Int)=(x:Int):=by rw [jO];omega
 have m2:(x:Int)/4294967296=0:=by omega
 obtain⟨wb,hwb⟩:∃wb,w.alloc (Obj.cells #[.int .u32 (x:Int),.int .u32 0] 175)=wb:=⟨_,rfl⟩;have hR:bO wb w.heap.size [x,0]:=by
  rw [←hwb];unfold bO;show(w.heap.push _)[w.heap.size]?=_;rw [Hj];rfl
 have a2:Below w.heap.size w wb:=hwb▸(aI _ _).alloc (aA _) _;have hd:∀y∈ [x,0],y<4294967296:=by
  intro y hy;simp at hy;rcases hy with rfl|rfl
  ·exact hx
  ·decide
 have a1:bV wb.heap.size wb (some ⟨w.heap.size,0,none⟩) [x,0]:=hR.lim0 hd hR.lt 2;have a3:=qD (some ⟨w.heap.size,0,none⟩) 2 2 wb.heap.size [x,0] rfl (by decide) (aA _) wb (aA _) a1;have a0:=aside a1;clear a1 hR hd;go_enter Tryz.func355,Tryz.ntmps355
 go_wp2_with (go_at_call 360;with_reducible refine a3.mono ?_;rintro e w' ⟨k,rfl,hT,hb2⟩)
 go_ret
 have:=NatL.of_trim rfl hT a0.out hb2;refine⟨_,rfl,?_,a2.trans (hb2.mono a2.size)⟩;have e:val 4294967296 [x,0]=x:=by simp [val]
 rw [e] at this;exact this
end Go.Proofs.YtbdpdeonapmlgaaGreatDoor
