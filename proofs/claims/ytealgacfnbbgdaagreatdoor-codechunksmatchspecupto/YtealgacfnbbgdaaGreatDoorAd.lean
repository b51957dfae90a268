/- Lemmas; no condition. -/
import Derived.Test.YtealgacfnbbgdaaGreatDoorAc
import Derived.Laws.OwnMore
import Derived.ArgAppend
set_option linter.all false
set_option maxHeartbeats 4000000
set_option maxRecDepth 100000
namespace Go.Proofs.YtealgacfnbbgdaaGreatDoor
open Go.RowKit Go.Big
variable {C cs:Array Value} {t T:TypeId} {w:Wo} {g b i o:Nat}
attribute [local go_sem] Heavy.uponW
def qW (h:w.heap[g]?=some (.cells C t (0,0))) (o:Nat):w.frozen? ⟨g,o,none⟩=false:=by
 simp [World.frozen?,h]
def lB {fr:Nat × Nat} (hb:w.heap[b]?=some (.cells cs T fr)) (v:Value):
  (w.setCell ⟨b,i,none⟩ v).heap[b]?=some (.cells (cs.setIfInBounds i v) T fr):=by
 simp [World.setCell,rW,hb]
def set7 {u0 u1 u2 u3 u4 u5 u6 v0 v1 v2 v3 v4 v5 v6:Value} (h:w.heap[g]?=some (.cells #[u0,u1,u2,u3,u4,u5,u6] t (0,0))):
  (((((((w.setCell ⟨g,0,none⟩ v0).setCell ⟨g,1,none⟩ v1).setCell ⟨g,2,none⟩ v2).setCell ⟨g,3,none⟩ v3).setCell ⟨g,4,none⟩ v4).setCell ⟨g,5,none⟩ v5).setCell ⟨g,6,none⟩ v6).heap[g]?=some (.cells #[v0,v1,v2,v3,v4,v5,v6] t (0,0))∧
  (∀b,b≠g→(((((((w.setCell ⟨g,0,none⟩ v0).setCell ⟨g,1,none⟩ v1).setCell ⟨g,2,none⟩ v2).setCell ⟨g,3,none⟩ v3).setCell ⟨g,4,none⟩ v4).setCell ⟨g,5,none⟩ v5).setCell ⟨g,6,none⟩ v6).heap[b]?=w.heap[b]?)∧
  Below g w (((((((w.setCell ⟨g,0,none⟩ v0).setCell ⟨g,1,none⟩ v1).setCell ⟨g,2,none⟩ v2).setCell ⟨g,3,none⟩ v3).setCell ⟨g,4,none⟩ v4).setCell ⟨g,5,none⟩ v5).setCell ⟨g,6,none⟩ v6):=by
 refine⟨?_,fun b hb=>?_,?_⟩
 ·have:=lB (lB (lB (lB (lB (lB (lB h (i:=0) v0) (i:=1) v1) (i:=2) v2) (i:=3) v3) (i:=4) v4) (i:=5) v5) (i:=6) v6;simpa using this
 ·iterate 7 rw [iQ _ _ _ _ (by exact hb)]
 ·iterate 7 refine Below.setCell ?_ (aA g) _
  exact aK _ _
def CloneOk (T:Tm):Prop:=∀(n:Nat) (w:Wo) (vs:Lv),TmV n w T vs→n≤w.heap.size→
  Cz 19 #[.agg vs.toArray] w fun e w'=>∃g7,e= .returned (.agg g7.toArray)∧TmS (jM w.heap.size w'.heap.size) w' T g7∧Bz w w'
def CY {v0 v1 v2 v3 v4 v5 v6:Value} (h:w.heap[g]?=some (.cells C t (0,0))) (ho:o+7≤C.size):
  ∃C':Array Value,(((((((w.setCell ⟨g,o,none⟩ v0).setCell ⟨g,o+1,none⟩ v1).setCell ⟨g,o+2,none⟩ v2).setCell ⟨g,o+3,none⟩ v3).setCell ⟨g,o+4,none⟩ v4).setCell ⟨g,o+5,none⟩ v5).setCell ⟨g,o+6,none⟩ v6).heap[g]?=some (.cells C' t (0,0))∧
  C'.size=C.size∧(∀j,j<o∨o+7≤j→C'[j]?=C[j]?)∧(∀(m:Nat) u,[v0,v1,v2,v3,v4,v5,v6][m]?=some u→C'[o+m]?=some u)∧
  (∀b,b≠g→(((((((w.setCell ⟨g,o,none⟩ v0).setCell ⟨g,o+1,none⟩ v1).setCell ⟨g,o+2,none⟩ v2).setCell ⟨g,o+3,none⟩ v3).setCell ⟨g,o+4,none⟩ v4).setCell ⟨g,o+5,none⟩ v5).setCell ⟨g,o+6,none⟩ v6).heap[b]?=w.heap[b]?)∧
  Below g w (((((((w.setCell ⟨g,o,none⟩ v0).setCell ⟨g,o+1,none⟩ v1).setCell ⟨g,o+2,none⟩ v2).setCell ⟨g,o+3,none⟩ v3).setCell ⟨g,o+4,none⟩ v4).setCell ⟨g,o+5,none⟩ v5).setCell ⟨g,o+6,none⟩ v6):=by
 refine⟨_,lB (lB (lB (lB (lB (lB (lB h (i:=o) v0) (i:=o+1) v1) (i:=o+2) v2) (i:=o+3) v3) (i:=o+4) v4) (i:=o+5) v5) (i:=o+6) v6,by simp,fun j hj=>?_,fun m u hm=>?_,fun b hb=>?_,?_⟩
 ·iterate 7 rw [uY (by omega)]
 ·match m,hm with
  |0,hm=>
   cases hm
   iterate 6 rw [uY (by omega)]
   rw [gQ,wR (by omega)]
  |1,hm=>
   cases hm
   iterate 5 rw [uY (by omega)]
   rw [wR (by simp;omega)]
  |2,hm=>
   cases hm
   iterate 4 rw [uY (by omega)]
   rw [wR (by simp;omega)]
  |3,hm=>
   cases hm
   iterate 3 rw [uY (by omega)]
   rw [wR (by simp;omega)]
  |4,hm=>
   cases hm
   iterate 2 rw [uY (by omega)]
   rw [wR (by simp;omega)]
  |5,hm=>
   cases hm
   iterate 1 rw [uY (by omega)]
   rw [wR (by simp;omega)]
  |6,hm=>
   cases hm;rw [wR (by simp;omega)]
  |m+7,hm=>simp at hm
 ·iterate 7 rw [iQ _ _ _ _ (by exact hb)]
 ·iterate 7 refine Below.setCell ?_ (aA g) _
  exact aK _ _
def zTm:Value:=.agg #[.int .i64 0,.int .i64 0,.string { data:=#[] },.bool false,.slice none 0 0,.slice none 0 0,.slice none 0 0]
def inf27:(Tryz.prog.info? 27).map (fun i=>(i.zero,i.size,i.bytes))=some (some zTm,7,112):=by kernel_rfl
def Jd (len:Nat) (hb:len≤1048576) (w:Wo):(Instr.makeSlice 25 (.int .i64 len) (.int .i64 len)).run Tryz.prog w= .ok (.slice (some ⟨w.heap.size,0,none⟩) len len) (w.alloc (.cells (madeCells zTm.cells (len*7)) 27)):=by
 obtain⟨i0,hi,hz0,hz1,hz2⟩:=pI inf27;have:=GC (P:=Tryz.prog) w 25 27 i0 zTm Tryz.underlying25 hi hz0 .i64 .i64 len len (by omega) (Bb _) (by rw [hz2];omega) (by omega);rw [hz1] at this;simpa using this
def Oi (k v:Int) (nm:ByteArray) (g:Bool) (num den:List Nat) (args:List Tm) (ih:∀T'∈args,CloneOk T'):CloneOk (.mk k v nm g num den args):=by
  intro n w vs h hn;simp only [TmV] at h;obtain⟨s1,s2,a,c,rfl,⟨⟨p1,q1,rfl,hA⟩,⟨p2,q2,rfl,hC⟩⟩,h2,hbig,hbA,hbC⟩:=h;obtain⟨len,hl⟩:=enm args.length;obtain⟨l1,hl1⟩:=enm num.length;obtain⟨l2,hl2⟩:=enm den.length;rw [hl] at hbig ⊢;rw [hl1] at hbA ⊢;rw [hl2] at hbC ⊢;show Cz 19 #[.agg (tA k v nm g p1 l1 q1 p2 l2 q2 a len c)] w _;have Al:=aside3 hl hl1 hl2;obtain⟨wb,hwb⟩:=enm ((w.alloc (Obj.cells (tA k v nm g p1 l1 q1 p2 l2 q2 a len c) 27)).alloc (Obj.cells #[.int .i64 0,.int .i64 0,.string { data:=#[] },.bool false,.slice none 0 0,.slice none 0 0,.slice none 0 0] 27));obtain⟨b9,hq1,hq2⟩:=tI w (Obj.cells (tA k v nm g p1 l1 q1 p2 l2 q2 a len c) 27) (Obj.cells #[.int .i64 0,.int .i64 0,.string { data:=#[] },.bool false,.slice none 0 0,.slice none 0 0,.slice none 0 0] 27);have d4:wb.heap.size=w.heap.size+2:=by rw [←hwb];simp
  have b3:=aside d4;rw [hwb] at b9 hq1 hq2;have fc:∀w2,Bz wb w2→_:=fun w2 hb=>dZ ((hb.block w.heap.size (by omega)).trans hq1)
  obtain⟨x0,x1,x2,x3,x4,x5,x6⟩:=fc wb (aK _ _);have d0:n≤wb.heap.size:=by omega
  have d1:∀w2,Bz wb w2→Cz 46 #[.slice p1 l1 q1] w2 fun e w'=>∃sv,e= .returned sv∧(∃a c,sv= .slice a num.length c∧LimS (jM w2.heap.size w'.heap.size) w' a num)∧Bz w2 w':=fun w2 hb=>vJ (.slice p1 l1 q1) n num (by omega) w2 (aE d0 hb.size) ⟨p1,q1,by rw [hl1],(hA.below b9 hn).below hb d0⟩
  have d2:∀w2,Bz wb w2→Cz 46 #[.slice p2 l2 q2] w2 fun e w'=>∃sv,e= .returned sv∧(∃a c,sv= .slice a den.length c∧LimS (jM w2.heap.size w'.heap.size) w' a den)∧Bz w2 w':=fun w2 hb=>vJ (.slice p2 l2 q2) n den (by omega) w2 (aE d0 hb.size) ⟨p2,q2,by rw [hl2],(hC.below b9 hn).below hb d0⟩
  clear hl hl1 hl2 hA hC d4;go_enter Tryz.func19,Tryz.ntmps19
  go_upto_region 1 with fail
  clear hwb;have a5:Bz wb { wb with drawn:=wb.drawn+1 }:=BL wb;refine Heavy.region_plan (Bz wb) 10 (Heavy.lights [0,1,2,4,5,6] (.one 3 (Heavy.lights [8,9] (.one 7 .done)))) (by kernel_rfl) (by kernel_rfl) a5 ?_;simp only [Heavy.lights,gL,iJ,gS,gB]
  iterate 6 (apply Heavy.light_n;(exact rfl);(exact rfl);(intro g8 hw;have j9:=(fc g8 hw).2.2.2.2.1;have k0:=(fc g8 hw).2.2.2.2.2.1;go_simp;exact rfl))
  apply Heavy.one_n
  ·exact rfl
  ·exact rfl
  go_simp
  refine(d1 _ a5).mono ?_;rintro e w3 ⟨k1,rfl,⟨b1,e1,rfl,hL1⟩,hb3⟩;have b4:Bz wb w3:=a5.trans hb3;refine⟨_,rfl,b4,?_⟩
  iterate 2 (apply Heavy.light_n;(exact rfl);(exact rfl);(intro g8 hw;go_simp;exact rfl))
  apply Heavy.one_n
  ·exact rfl
  ·exact rfl
  go_simp
  refine(d2 _ b4).mono ?_;rintro e w4 ⟨k2,rfl,⟨b2,e2,rfl,hL2⟩,hb4⟩;have b5:Bz wb w4:=b4.trans (hb4.mono b4.size);refine⟨_,rfl,b5,?_⟩;refine Heavy.plan_end ?_;have d3:w4.heap[w.heap.size]?=some (Obj.cells (tA k v nm g p1 l1 q1 p2 l2 q2 a len c) 27 (0,0)):=(b5.block w.heap.size (by have:=b3.o;omega)).trans hq1;have h8:w4.heap[w.heap.size+1]?=some (Obj.cells #[.int .i64 0,.int .i64 0,.string { data:=#[] },.bool false,.slice none 0 0,.slice none 0 0,.slice none 0 0] 27 (0,0)):=(b5.block (w.heap.size+1) (by have:=b3.o;omega)).trans hq2.1;have z4:∀o,w4.frozen? ⟨w.heap.size,o,none⟩=false:=fun o=>qW d3 o
  obtain⟨y0,y1,y2,y3,y4,y5,y6⟩:=dZ d3;have a6:Aside (wb.heap.size≤w4.heap.size∧wb.heap.size≤w3.heap.size∧w3.heap.size≤w4.heap.size):=⟨b5.size,b4.size,hb4.size⟩;have g9:=(b9.trans (b5.mono (by have:=b3.o;omega)))
  go_upto_region 2 with fail
  have b7:=lB (lB d3 (i:=4) (.slice b1 num.length e1)) (i:=5) (.slice b2 den.length e2);have b8:((w4.setCell ⟨w.heap.size,4,none⟩ (.slice b1 num.length e1)).setCell ⟨w.heap.size,5,none⟩ (.slice b2 den.length e2)).heap[w.heap.size+1]?=_:=(iQ _ ⟨w.heap.size,5,none⟩ _ _ (by show w.heap.size+1≠w.heap.size;omega)).trans ((iQ _ ⟨w.heap.size,4,none⟩ _ _ (by show w.heap.size+1≠w.heap.size;omega)).trans h8);have c9:eB (fun b=>w.heap.size+2≤b) w4 ((w4.setCell ⟨w.heap.size,4,none⟩ (.slice b1 num.length e1)).setCell ⟨w.heap.size,5,none⟩ (.slice b2 den.length e2)):=fun b hb=>(iQ _ ⟨w.heap.size,5,none⟩ _ _ (by show b≠w.heap.size;omega)).trans (iQ _ ⟨w.heap.size,4,none⟩ _ _ (by show b≠w.heap.size;omega))
  have d5:Bz w ((w4.setCell ⟨w.heap.size,4,none⟩ (.slice b1 num.length e1)).setCell ⟨w.heap.size,5,none⟩ (.slice b2 den.length e2)):=(g9.setCell (p:=⟨w.heap.size,4,none⟩) (aA _) _).setCell (p:=⟨w.heap.size,5,none⟩) (aA _) _;obtain⟨wc,hwc⟩:=enm ((w4.setCell ⟨w.heap.size,4,none⟩ (.slice b1 num.length e1)).setCell ⟨w.heap.size,5,none⟩ (.slice b2 den.length e2));have j2:wc.heap.size=w4.heap.size:=by rw [←hwc];simp
  rw [hwc] at b7 b8 c9 d5 ⊢;have a9:LimS (jM (w.heap.size+2) wc.heap.size) wc b1 num:=((hL1.keep (eB.of_below hb4 fun k hk=>hk.2)).mono fun k hk=>⟨by have:=hk.1;have:=a5.size;have:=b3.o;have e:({ wb with drawn:=wb.drawn+1 }:Wo).heap.size=wb.heap.size:=rfl;omega,by have:=hk.2;have:=a6.o;omega⟩).keep (fun b hb=>c9 b hb.1);have b0:LimS (jM (w.heap.size+2) wc.heap.size) wc b2 den:=(hL2.mono fun k hk=>⟨by have:=hk.1;have:=b3.o;have:=a6.o;omega,by have:=hk.2;omega⟩).keep (fun b hb=>c9 b hb.1);have a7:Aside (w.heap.size+2≤wc.heap.size):=by have:=b3.o;have:=a6.o;show _≤_;omega
  simp only [Rh,Rg,Rf] at b7;clear hwc j2 hL1 hL2 y0 y1 y2 y3 y4 y5 y6 z4 d3 h8 hb3 hb4 b4 b5 fc d1 d2 x0 x1 x2 x3 x4 x5 x6 a5 b3 a6 hq1 hq2 b9 c9 g9;obtain⟨y0,y1,y2,y3,y4,y5,y6⟩:=dZ b7;have z5:=qW b7;obtain⟨u0,u1,u2,u3,u4,u5,u6⟩:=dZ b8;have t5:=qW b8
  by_cases d9:len=0
  ·subst d9;have c4:args= []:=mE Al.o.1;clear ih h2
   go_wp2_with fail
   have h6:(wc.setCell ⟨w.heap.size,6,none⟩ (.slice none 0 0)).heap[w.heap.size+1]?=_:=(iQ wc ⟨w.heap.size,6,none⟩ (.slice none 0 0) (w.heap.size+1) (by show w.heap.size+1≠w.heap.size;omega)).trans b8;obtain⟨g1,g2,g3⟩:=set7 (v0:=.int .i64 k) (v1:=.int .i64 v) (v2:=.string nm) (v3:=.bool g) (v4:=.slice b1 num.length e1) (v5:=.slice b2 den.length e2) (v6:=.slice none 0 0) h6;have c7:=d5.setCell (p:=⟨w.heap.size,6,none⟩) (aA _) (.slice none 0 0);refine rN (sV rfl _ _ (w.heap.size+1) 27 _ _ _ rfl g1 Tryz.underlying27 rfl (by kernel_rfl)) rfl ?_;refine⟨[.int .i64 k,.int .i64 v,.string nm,.bool g,.slice b1 num.length e1,.slice b2 den.length e2,.slice none 0 0],rfl,?_,c7.trans (g3.mono (by omega))⟩;have hk:eB (jM (w.heap.size+2) wc.heap.size) wc _:=fun b hb=>(g2 b (by have:=hb.1;omega)).trans (iQ wc ⟨w.heap.size,6,none⟩ (.slice none 0 0) b (by have:=hb.1;show b≠w.heap.size;omega))
   have hz:=g3.size;rw [ZL] at hz;subst c4;simp only [TmS,eW];exact⟨b1,e1,b2,e2,none,0,rfl,(a9.keep hk).mono fun b hb=>⟨by have:=hb.1;omega,eE hb.2 hz⟩,(b0.keep hk).mono fun b hb=>⟨by have:=hb.1;omega,eE hb.2 hz⟩,trivial,by simp,by rw [Al.o.2.1];exact hbA,by rw [Al.o.2.2];exact hbC⟩
  ·have j6:((len:Int)==0)=false:=by simpa using d9
   have i9:Aside (0<len):=by show 0<len;omega
   clear d9
   go_upto_region 5 with fail
   obtain⟨C0,hC0⟩:=enm (madeCells zTm.cells (len*7));have mk:∀w:Wo,(Instr.makeSlice 25 (.int .i64 len) (.int .i64 len)).run Tryz.prog w= .ok (.slice (some ⟨w.heap.size,0,none⟩) len len) (w.alloc (.cells C0 27)):=fun w=>by rw [←hC0];exact Jd len hbig w
   have i2:Aside (C0.size=len*7):=by rw [←hC0];exact size_madeCells _ _
   clear hC0
   go_upto_region 6 with fail
   have a5:=aC wc (Obj.cells C0 27);have e9:=(a5.block w.heap.size (by have:=a7.o;omega)).trans b7;have h9:=(a5.block (w.heap.size+1) (by have:=a7.o;omega)).trans b8;have c8:=bY wc (Obj.cells C0 27);obtain⟨L,hL⟩:=enm wc.heap.size;rw [hL] at a5 c8 a7 a9 b0 ⊢;have j3:=aside hL;have g0:Aside ((wc.alloc (Obj.cells C0 27)).heap.size=L+1):=by show _=_;rw [eX,hL]
   generalize wc.alloc (Obj.cells C0 27)=wd at*;clear mk hL b7 b8 y0 y1 y2 y3 y4 y5 y6 z5 u0 u1 u2 u3 u4 u5 u6 t5;obtain⟨y0,y1,y2,y3,y4,y5,y6⟩:=dZ e9
   go_wp2_with fail
   have c0:Bz w wd:=d5.trans (a5.mono (by have:=a7.o;omega))
   go_loopw [31] (fun s wr=>∃i:Nat,s= .int .i64 i∧i≤len∧Below L wd wr∧∃C:Array Value,wr.heap[L]?=some (.cells C 27 (0,0))∧Aside (C.size=len*7∧L+1≤wr.heap.size∧∀(j:Nat) T,j<i→args[j]?=some T→∃vs,vs.length=7∧(∀(m:Nat) u,vs[m]?=some u→C[j*7+m]?=some u)∧TmS (jM (L+1) wr.heap.size) wr T vs)) (fun s _=>len-(intOf s).toNat)
   case atStart=>exact⟨0,rfl,cJ _,aK _ _,C0,c8,i2.o,NQ g0.o.symm,fun j T hj=>absurd hj (rR j)⟩
   case round=>
    obtain⟨i,rfl,hi,hBr,C,hC,hinv⟩:=hrel
    by_cases i7:i<len
    ·obtain⟨T',b6⟩:=egf Al.o.1 i7;obtain⟨b,off,g7,rfl,hbn,hc,hv⟩:=h2.get b6;have i1:=hv
     match T',hv with
     | .mk k' v' nm' g' num' den' a0,hv=>
      simp only [TmV] at hv;obtain⟨t1,t2,a',c',rfl,⟨⟨p1',q1',rfl,_⟩,⟨p2',q2',rfl,_⟩⟩,_⟩:=hv;have c6:Bz w wr:=c0.trans (hBr.mono (by have:=a7.o;omega));have a8:∀p:Addr,p.block<n→wr.cell? p=w.cell? p:=fun p hp=>(c6.mono hn).cell hp
      rw [dH] at hc;have x0:=(a8 ⟨b,off+i*7+0,none⟩ hbn).trans (hc 0 _ rfl);have x1:=(a8 ⟨b,off+i*7+1,none⟩ hbn).trans (hc 1 _ rfl);have x2:=(a8 ⟨b,off+i*7+2,none⟩ hbn).trans (hc 2 _ rfl);have x3:=(a8 ⟨b,off+i*7+3,none⟩ hbn).trans (hc 3 _ rfl);have x4:=(a8 ⟨b,off+i*7+4,none⟩ hbn).trans (hc 4 _ rfl);have x5:=(a8 ⟨b,off+i*7+5,none⟩ hbn).trans (hc 5 _ rfl);have x6:=(a8 ⟨b,off+i*7+6,none⟩ hbn).trans (hc 6 _ rfl);rw [gQ] at x0;obtain⟨j5,hi3,hw3⟩:=elt (i:=i) (n:=len) (by omega) (by omega);have c5:Bz wr (wr.alloc (Obj.cells #[.int .i64 k',.int .i64 v',.string nm',.bool g',.slice p1' num'.length q1',.slice p2' den'.length q2',.slice a' a0.length c'] 27)):=aC _ _;have a4:Aside ((wr.alloc (Obj.cells #[.int .i64 k',.int .i64 v',.string nm',.bool g',.slice p1' num'.length q1',.slice p2' den'.length q2',.slice a' a0.length c'] 27)).heap.size=wr.heap.size+1):=by show _=_;simp
      have d1:=ih _ (bV b6) n (wr.alloc (Obj.cells #[.int .i64 k',.int .i64 v',.string nm',.bool g',.slice p1' num'.length q1',.slice p2' den'.length q2',.slice a' a0.length c'] 27)) _ (TmV.below (c6.trans (c5.mono c6.size)) hn _ _ i1) (by have:=a4.o;have:=c6.size;omega);replace d1:Cz 19 #[.agg #[.int .i64 k',.int .i64 v',.string nm',.bool g',.slice p1' num'.length q1',.slice p2' den'.length q2',.slice a' a0.length c']] _ _:=d1;have j0:=bY wr (Obj.cells #[.int .i64 k',.int .i64 v',.string nm',.bool g',.slice p1' num'.length q1',.slice p2' den'.length q2',.slice a' a0.length c'] 27);generalize j8:wr.alloc (Obj.cells #[.int .i64 k',.int .i64 v',.string nm',.bool g',.slice p1' num'.length q1',.slice p2' den'.length q2',.slice a' a0.length c'] 27)=we at*;have d7:Aside (i*7+7≤C.size):=by show _≤_;have:=hinv.o.1;rw [this];omega
      have d2:=d1.mono (R':=fun e w'=>∃a1 c1 a2 c2 a3 c3 r0 r1 r2 r3 r4 r5 r6,e= .returned (.agg #[.int .i64 k',.int .i64 v',.string nm',.bool g',.slice a1 num'.length c1,.slice a2 den'.length c2,.slice a3 a0.length c3])∧Aside (TmS (jM we.heap.size w'.heap.size) w' (.mk k' v' nm' g' num' den' a0) [.int .i64 k',.int .i64 v',.string nm',.bool g',.slice a1 num'.length c1,.slice a2 den'.length c2,.slice a3 a0.length c3])∧Bz we w'∧w'.heap[L]?=some (.cells C 27 (0,0))∧
        (w'.cell? ⟨L,i*7,none⟩=some r0∧w'.cell? ⟨L,i*7+1,none⟩=some r1∧w'.cell? ⟨L,i*7+2,none⟩=some r2∧w'.cell? ⟨L,i*7+3,none⟩=some r3∧w'.cell? ⟨L,i*7+4,none⟩=some r4∧w'.cell? ⟨L,i*7+5,none⟩=some r5∧w'.cell? ⟨L,i*7+6,none⟩=some r6)) (fun e w' ⟨vs,e1,ht,hb⟩=>by
       have j1:=ht;simp only [TmS] at ht;obtain⟨a1,c1,a2,c2,a3,c3,rfl,_⟩:=ht;have h0:w'.heap[L]?=some (.cells C 27 (0,0)):=((hb.block L (by have:=hinv.o.2.1;have:=a4.o;omega)).trans (c5.block L (by have:=hinv.o.2.1;omega))).trans hC;have at_:∀m,m<7→∃r,w'.cell? ⟨L,i*7+m,none⟩=some r:=fun m hm=>⟨C[i*7+m]'(by have:=d7.o;omega),by simp [World.cell?,h0,show i*7+m<C.size by have:=d7.o;omega]⟩
       obtain⟨r0,e0⟩:=at_ 0 (by omega)
       obtain⟨r1,e1'⟩:=at_ 1 (by omega)
       obtain⟨r2,e2'⟩:=at_ 2 (by omega)
       obtain⟨r3,e3⟩:=at_ 3 (by omega)
       obtain⟨r4,e4⟩:=at_ 4 (by omega)
       obtain⟨r5,e5⟩:=at_ 5 (by omega)
       obtain⟨r6,e6⟩:=at_ 6 (by omega)
       exact⟨a1,c1,a2,c2,a3,c3,r0,r1,r2,r3,r4,r5,r6,e1,j1,hb,h0,e0,e1',e2',e3,e4,e5,e6⟩)
      have i8:Aside (∀(w3 w4:Wo) (C':Array Value) us,us.length=7→TmS (jM we.heap.size w3.heap.size) w3 (.mk k' v' nm' g' num' den' a0) us→Bz we w3→(∀b,b≠L→w4.heap[b]?=w3.heap[b]?)→w3.heap.size≤w4.heap.size→
        (∀j,j<i*7∨i*7+7≤j→C'[j]?=C[j]?)→(∀(m:Nat) u,us[m]?=some u→C'[i*7+m]?=some u)→∀(j:Nat) T,j<i+1→args[j]?=some T→∃vs,vs.length=7∧(∀(m:Nat) u,vs[m]?=some u→C'[j*7+m]?=some u)∧TmS (jM (L+1) w4.heap.size) w4 T vs):=by
       show∀(w3 w4:Wo) (C':Array Value) us,_;intro w3 w4 C' us e7 ht d8 hk d4 e8 i4 j T hj hT;have h5:∀m,eB (jM (L+1) m) w3 w4:=fun m b hb=>hk b (by have:=hb.1;omega)
       by_cases i5:j<i
       ·obtain⟨vs,h1,h2,h3⟩:=hinv.o.2.2 j T i5 hT;refine⟨vs,h1,fun m u hm=>?_,?_⟩
        ·have j7:m<7:=by have:=(aZ.1 hm).1;omega
         rw [e8 (j*7+m) (.inl (by omega))];exact h2 m u hm
        ·refine TmS.mono (fun b hb=>⟨hb.1,?_⟩) _ _ (TmS.keep (h5 _) _ _ (TmS.keep (eB.of_below d8 fun b hb=>?_) _ _ (TmS.keep (eB.of_below c5 fun b hb=>hb.2) _ _ h3)))
         ·have h1:=hb.2;have h2:=a4.o;have h3:=d8.size;omega
         ·have h1:=hb.2;have h2:=a4.o;have h3:=d8.size;omega
       ·obtain rfl:j=i:=by omega
        rw [b6] at hT;obtain rfl:=bP hT;refine⟨us,e7,i4,?_⟩;have i6:L+1≤we.heap.size:=by have:=hinv.o.2.1;have:=a4.o;omega
        refine TmS.mono (fun b hb=>⟨aE i6 hb.1,eE hb.2 d4⟩) _ _ (TmS.keep (fun b hb=>hk b (by have:=hb.1;omega)) _ _ ht)
      generalize a0.length=len',num'.length=ln1,den'.length=ln2 at*;clear h2 ih hc i1 b6 a8 d1 c8;obtain⟨s0,s1,s2,s3,s4,s5,s6⟩:=dZ j0
      go_wp2_with (go_at_call 19;with_reducible refine d2.mono ?_;rintro e w3 ⟨a1,c1,a2,c2,a3,c3,r0,r1,r2,r3,r4,r5,r6,rfl,hts,hb3,hL3,f0,f1,f2,f3,f4,f5,f6⟩;have z3:=qW hL3)
      obtain⟨C',g1,g2,g3,g4,g5,g6⟩:=CY (o:=i*7) (v0:=.int .i64 k') (v1:=.int .i64 v') (v2:=.string nm') (v3:=.bool g') (v4:=.slice a1 ln1 c1) (v5:=.slice a2 ln2 c2) (v6:=.slice a3 len' c3) hL3 d7.o;have d6:Below L wd _:=hBr.trans ((c5.mono (by have:=hinv.o.2.1;omega)).trans ((hb3.mono (by have:=hinv.o.2.1;have:=a4.o;omega)).trans g6));exact⟨⟨i+1,by simp,by omega,d6,C',g1,by rw [g2];exact hinv.o.1,by have:=g6.size;have:=hb3.size;have:=hinv.o.2.1;have:=a4.o;omega,i8.o w3 _ C' _ rfl hts.o hb3 g5 g6.size g3 g4⟩,by simp [intOf];omega⟩
    ·obtain rfl:i=len:=by omega
     have h7:=(hBr.block w.heap.size (by have:=a7.o;omega)).trans e9;have f7:=(hBr.block (w.heap.size+1) (by have:=a7.o;omega)).trans h9;obtain⟨w0,w1,w2,w3,w4,w5,w6⟩:=dZ h7;have z7:=qW h7;obtain⟨o0,o1,o2,o3,o4,o5,o6⟩:=dZ f7;have z8:=qW f7;clear ih h2 y0 y1 y2 y3 y4 y5 y6 e9 h9 c8
     go_wp2_with fail
     have h6:(wr.setCell ⟨w.heap.size,6,none⟩ (.slice (some ⟨L,0,none⟩) i i)).heap[w.heap.size+1]?=_:=(iQ wr ⟨w.heap.size,6,none⟩ (.slice (some ⟨L,0,none⟩) i i) (w.heap.size+1) (by show w.heap.size+1≠w.heap.size;omega)).trans f7;obtain⟨g1,g2,g3⟩:=set7 (v0:=.int .i64 k) (v1:=.int .i64 v) (v2:=.string nm) (v3:=.bool g) (v4:=.slice b1 num.length e1) (v5:=.slice b2 den.length e2) (v6:=.slice (some ⟨L,0,none⟩) i i) h6;have c7:=(c0.trans (hBr.mono (by have:=a7.o;omega))).setCell (p:=⟨w.heap.size,6,none⟩) (aA _) (.slice (some ⟨L,0,none⟩) i i);refine rN (sV rfl _ _ (w.heap.size+1) 27 _ _ _ rfl g1 Tryz.underlying27 rfl (by kernel_rfl)) rfl ?_;refine⟨[.int .i64 k,.int .i64 v,.string nm,.bool g,.slice b1 num.length e1,.slice b2 den.length e2,.slice (some ⟨L,0,none⟩) i i],rfl,?_,c7.trans (g3.mono (by omega))⟩;have hz:=g3.size;rw [ZL] at hz;obtain⟨wf,hwf⟩:=enm ((((((((wr.setCell ⟨w.heap.size,6,none⟩ (.slice (some ⟨L,0,none⟩) i i)).setCell ⟨w.heap.size+1,0,none⟩ (.int .i64 k)).setCell ⟨w.heap.size+1,1,none⟩ (.int .i64 v)).setCell ⟨w.heap.size+1,2,none⟩ (.string nm)).setCell ⟨w.heap.size+1,3,none⟩ (.bool g)).setCell ⟨w.heap.size+1,4,none⟩ (.slice b1 num.length e1)).setCell ⟨w.heap.size+1,5,none⟩ (.slice b2 den.length e2)).setCell ⟨w.heap.size+1,6,none⟩ (.slice (some ⟨L,0,none⟩) i i));rw [hwf] at g2 hz ⊢;have hk:∀b,w.heap.size+2≤b→wf.heap[b]?=wr.heap[b]?:=fun b hb=>(g2 b (by omega)).trans (iQ wr ⟨w.heap.size,6,none⟩ (.slice (some ⟨L,0,none⟩) i i) b (by show b≠w.heap.size;omega))
     clear hwf g2 g1 g3 c7 h6;have j4:=hinv.o.2.1;have f8:=a7.o;have h5:eB (fun b=>w.heap.size+2≤b) wr wf:=hk;have f9:∀b,b<L→wr.heap[b]?=wc.heap[b]?:=fun b hb=>(hBr.block b hb).trans (a5.block b hb)
     have h4:eB (jM (w.heap.size+2) L) wc wf:=fun b hb=>(hk b hb.1).trans (f9 b hb.2)
     simp only [TmS];refine⟨b1,e1,b2,e2,some ⟨L,0,none⟩,i,by rw [Al.o.1],(a9.keep h4).mono fun b hb=>⟨by have:=hb.1;omega,by have:=hb.2;omega⟩,(b0.keep h4).mono fun b hb=>⟨by have:=hb.1;omega,by have:=hb.2;omega⟩,?_,by rw [Al.o.1];exact hbig,by rw [Al.o.2.1];exact hbA,by rw [Al.o.2.2];exact hbC⟩;refine HS ⟨by omega,by omega⟩ args 0 fun kk T hT=>?_
     obtain⟨vs,e1,e2,e3⟩:=hinv.o.2.2 kk T (by have:=(aZ.1 hT).1;have:=Al.o.1;omega) hT;refine⟨vs,fun m u hm=>?_,TmS.mono (fun b hb=>⟨by have:=hb.1;omega,by have:=hb.2;omega⟩) _ _ (TmS.keep (fun b hb=>hk b (by have:=hb.1;omega)) _ _ e3)⟩;have i3:wf.heap[L]?=some (.cells C 27 (0,0)):=(hk L f8).trans hC;have:=e2 m u hm;simp [World.cell?,i3,this]
def LY:∀(T:Tm),CloneOk T
 | .mk k v nm g num den args=>Oi k v nm g num den args fun T' b6=>LY T'
termination_by T=>SizeOf.sizeOf T
decreasing_by
 simp_wf
 have:=pK b6;omega
end Go.Proofs.YtealgacfnbbgdaaGreatDoor
namespace Go.RowsK
open Go.RowKit
variable {e a3 a4:TypeId} {v z:Value} {size n base m:Nat} {P:Program} {xs:Lv} {w w':Wo}
structure El (P:Program) (a4 a3:TypeId) (size bytes:Nat) (z:Value):Prop where
 und:P.underlying a4=some (.slice a3)
 info:∃i,P.info? a3=some i∧i.zero=some z∧i.size=size∧i.bytes=bytes
 zs:z.cells.size=size
 pos:0<size
def iT (w:Wo) (v:Value) (m:Nat) (xs:Lv):Prop:=
 (v= .slice none 0 0∧m=0∧xs= [])∨∃ad c,v= .slice (some ad) m c∧∀(j:Nat) u,xs[j]?=some u→w.cell? (ad.add j)=some u
def HY (h:w.ownsRow base e size v n xs):iT w v n xs:=by
 have h0:=h;obtain⟨hl,⟨rfl,rfl⟩|⟨g,cap,cur,rfl,hb,hg,hnc,hm,hs,ht⟩⟩:=h
 ·exact .inl ⟨rfl,rfl,mE (by rw [hl];simp)⟩
 ·exact .inr ⟨⟨g,0,none⟩,cap,rfl,h0.cells (g:=g) rfl⟩
def QG {bytes:Nat} (E:El P a4 a3 size bytes z) (w:Wo) (ty:TypeId) (base:Nat) (v:Value) (n:Nat) (xs:Lv) (a2:w.ownsRow base a3 size v n xs)
  (v2:Value) (m:Nat) (a0:Lv) (a8:iT w v2 m a0) (hl:a0.length=m*size) (h1:∀u∈a0,u.oneCell'=true)
  (a9:n+m≤maxLen) (a1:(n+m)*bytes≤140737488355328) (a5:base≤w.heap.size):
  ∃v' w',(Builtin.append_ #[a4,a4] ty #[v,v2]).run P w= .ok v' w'∧w'.ownsRow base a3 size v' (n+m) (xs++a0)∧w.grownBy w' v.ownBlock∧(v'.ownBlock=v.ownBlock∨v'.ownBlock=some w.heap.size):=by
 obtain⟨i,hi,hz,hz1,hz2⟩:=E.info;rcases a8 with⟨rfl,rfl,rfl⟩|⟨ad,c,rfl,hnews⟩
 ·refine⟨v,w,run_append_owned_none w base a4 ty a3 i size E.und hi v n xs a2,by simpa using a2,⟨rfl,rfl,rfl,aA _,fun _ _ _=>rfl⟩,.inl rfl⟩
 ·obtain⟨v',w',hr,h2,h3,h4⟩:=run_append_own (P:=P) w base a4 ty a3 i z size bytes E.und hi hz hz1 hz2 E.zs E.pos v n xs a2 ad m c a0 hl hnews h1 a9 a1 a5;refine⟨v',w',hr,h2,h3,?_⟩;have b1:maxLen≤9223372036854775807:=by decide
  by_cases hm:m=0
  ·subst hm;rcases a2.2 with⟨rfl,rfl⟩|⟨g,cap,cur,rfl,hbg,hg,hnc,hcm,hcs,htake⟩
   ·rw [h4.2 ⟨rfl,rfl⟩];exact .inl rfl
   ·have a6:=run_append_room (P:=P) w a4 ty a3 i E.und hi g n cap cur hg ad 0 c a0 (by rw [hz1];omega) hnews h1 (by omega) (by rw [hz1,hl,hcs,wK,gQ];exact fP _ hnc);rw [hr] at a6;injection a6 with e1 e2
    subst e1;exact .inl rfl
  ·rcases a2.2 with⟨rfl,rfl⟩|⟨g,cap,cur,rfl,hbg,hg,hnc,hcm,hcs,htake⟩
   ·have a6:=run_append_nil (P:=P) w a4 ty a3 i z E.und hi hz ad m c a0 (by rw [hz1];omega) hnews (by omega) (by omega) (by rw [hz2];rw [dH] at a1;omega);rw [hr] at a6;injection a6 with e1 e2
    subst e1;exact .inr rfl
   ·by_cases a7:n+m≤cap
    ·have a6:=run_append_room (P:=P) w a4 ty a3 i E.und hi g n cap cur hg ad m c a0 (by rw [hz1];omega) hnews h1 a7 (by rw [hz1,hl,hcs,←eO];exact fP _ a7);rw [hr] at a6;injection a6 with e1 e2
     subst e1;exact .inl rfl
    ·have holds:∀(j:Nat) u,xs[j]?=some u→w.cell? ((⟨g,0,none⟩:Addr).add j)=some u:=a2.cells (g:=g) rfl;have a6:=run_append_grow (P:=P) w a4 ty a3 i z E.und hi hz ⟨g,0,none⟩ n cap xs (by rw [hz1];exact a2.1) holds ad m c a0 (by rw [hz1];omega) hnews (by omega) (by omega) (growslice_fits (by omega) (by rw [hz2];omega));rw [hr] at a6;injection a6 with e1 e2
     subst e1;exact .inr rfl
def lJ {bytes:Nat} (E:El P a4 a3 size bytes z) {ops:Array Oper} {rest:List Oper} {o:Oper} {a:Act} {Q:Exit→Act→Wo→Prop} (w:Wo) (b0:o.guard=none) (s x:Operand)
  (ho:o.op= .call { callee:=.builtin .append,args:=#[s,x],argTypes:=#[a4,a4] }) (base:Nat) (v:Value) (n:Nat) (xs:Lv) (hs:a.eval s=v) (a2:w.ownsRow base a3 size v n xs)
  (v2:Value) (m:Nat) (a0:Lv) (hx:a.eval x=v2) (a8:iT w v2 m a0) (hl:a0.length=m*size) (h1:∀u∈a0,u.oneCell'=true)
  (a9:n+m≤maxLen) (a1:(n+m)*bytes≤140737488355328) (a5:base≤w.heap.size)
  (h:∀v' w',w'.ownsRow base a3 size v' (n+m) (xs++a0)→w.grownBy w' v.ownBlock→(v'.ownBlock=v.ownBlock∨v'.ownBlock=some w.heap.size)→wpList P ops Q rest (a.put o.dst v') w'):wpList P ops Q (o::rest) a w:=by
 refine iD b0 fun K hK=>?_
 obtain⟨v',w',hr,h2,h3,h4⟩:=QG E w o.type base v n xs a2 v2 m a0 a8 hl h1 a9 a1 a5;unfold Oper.wp execOp;simp only [ho,resolve,invoke,builtin,cX,dV,eD,List.map_toArray,kL,GS,hs,hx,hr];exact hK _ _ (h v' w' h2 h3 h4)
def gZ (h:w.ownsRow base e size v n xs):
  ∃a cap,v= .slice a n cap∧(n=0∨∃g,a=some ⟨g,0,none⟩∧base≤g∧g<w.heap.size∧∀(j:Nat) u,xs[j]?=some u→w.cell? ⟨g,j,none⟩=some u):=by
 have h0:=h;obtain⟨hl,⟨rfl,rfl⟩|⟨g,cap,cur,rfl,hb,hg,hnc,hm,hs,ht⟩⟩:=h
 ·exact⟨none,0,rfl,.inl rfl⟩
 ·refine⟨some ⟨g,0,none⟩,cap,rfl,.inr ⟨g,rfl,hb,(cV.1 hg).1,fun j u hj=>?_⟩⟩;have:=h0.cells (g:=g) rfl j u hj;rw [qH,dH] at this;exact this
def tV (h:w.ownsRow base e size v n xs) (hk:∀g,v.ownBlock=some g→w'.heap[g]?=w.heap[g]?):w'.ownsRow base e size v n xs:=by
 obtain⟨hl,hn|⟨g,cap,cur,rfl,hb,hg,rest⟩⟩:=h
 ·exact⟨hl,.inl hn⟩
 ·exact⟨hl,.inr ⟨g,cap,cur,rfl,hb,(hk g rfl).trans hg,rest⟩⟩
def jF (h:w.ownsRow base e size v n xs) (hb:Below m w w') (hm:w.heap.size≤m):w'.ownsRow base e size v n xs:=
 tV h fun g hg=>hb.block g (eE (h.lt g hg).2 hm)
end Go.RowsK
namespace Go.Heavy
inductive Step where
 |pre (i:Nat)
 |both (i:Nat)
 |sw
def waits (md:Region.Mode) (ops:Array Oper) (s i:Nat):Bool:=
 match ops[s]? with
 |some o=>o.after.any fun e=>Region.binds md e&&(e.on==i)
 |none=>false
section
variable {P:Program} {ops:Array Oper} {md:Region.Mode} {C C2:Wo→Prop} {s:Nat}
def Kat (s:Nat) (C C2:Wo→Prop) (listed:Array Bool) (w:Wo):Prop:=if listed.getD s false=true then C2 w else C w
def AK (P:Program) (md:Region.Mode) (ops:Array Oper) (K:Array Bool→Wo→Prop) (n:Nat) (L:Array Bool→Act→Wo→Prop):Nat→Array Bool→Act→Wo→Prop
 |0,listed,a,w=>L listed a w
 |f+1,listed,a,w=>Region.ready md ops listed≠ []∧∀i∈Region.ready md ops listed,i<n∧kZ P ops i (fun a' w'=>K (listed.setIfInBounds i true) w'∧AK P md ops K n L f (listed.setIfInBounds i true) a' w') a w
def ZE {K:Array Bool→Wo→Prop} {n g:Nat} {L:Array Bool→Act→Wo→Prop} {Q':Exit→Act→Wo→Prop} (hL:∀listed a w,L listed a w→wpAny P md ops Q' g listed a w):
  ∀(f:Nat) (listed:Array Bool) (a:Act) (w:Wo),AK P md ops K n L f listed a w→wpAny P md ops Q' (f+g) listed a w
 |0,listed,a,w,h=>by rw [dH];exact hL _ _ _ h
 |f+1,listed,a,w,h=>by
  rw [show f+1+g=(f+g)+1 by omega];exact⟨fun h0=>absurd h0 h.1,fun i hi=>OG (fun a' w' h'=>ZE hL f _ a' w' h'.2) (h.2 i hi).2⟩
def EP {listed:Array Bool} {i s:Nat} (h:i≠s) (d:Bool):(listed.setIfInBounds i true).getD s d=listed.getD s d:=by
 rw [rX,rX,uY h]
def Kat.other {listed:Array Bool} {i:Nat} {w:Wo} (h:i≠s):Kat s C C2 (listed.setIfInBounds i true) w↔Kat s C C2 listed w:=by
 unfold Kat;rw [EP h]
end
end Go.Heavy
namespace Go.Proofs.YtealgacfnbbgdaaGreatDoor
open Go.RowKit Go.Big Go.RowsK
variable {w w2:Wo} {n b base o:Nat} {v:Value} {T:Tm} {vs xs:Lv}
def YM (n:Nat) (w:Wo):Below n w w.drew:=⟨rfl,rfl,rfl,aA _,fun _ _=>rfl⟩
def tl (a:Array UInt8):(⟨a⟩:ByteArray).toList=a.toList:=mS _
def seven {i:Nat} {v0 v1 v2 v3 v4 v5 v6:Value} (hx:∀p:Addr,p.block=b→w2.cell? p=w.cell? p) (hc:∀(j:Nat) u,[v0,v1,v2,v3,v4,v5,v6][j]?=some u→w.cell? ⟨b,o+i*7+j,none⟩=some u):
  w2.cell? ⟨b,o+i*7,none⟩=some v0∧w2.cell? ⟨b,o+i*7+1,none⟩=some v1∧w2.cell? ⟨b,o+i*7+2,none⟩=some v2∧w2.cell? ⟨b,o+i*7+3,none⟩=some v3∧w2.cell? ⟨b,o+i*7+4,none⟩=some v4∧w2.cell? ⟨b,o+i*7+5,none⟩=some v5∧w2.cell? ⟨b,o+i*7+6,none⟩=some v6:=
 ⟨(hx _ rfl).trans (hc 0 _ rfl),(hx _ rfl).trans (hc 1 _ rfl),(hx _ rfl).trans (hc 2 _ rfl),(hx _ rfl).trans (hc 3 _ rfl),(hx _ rfl).trans (hc 4 _ rfl),(hx _ rfl).trans (hc 5 _ rfl),(hx _ rfl).trans (hc 6 _ rfl)⟩
def qL {v0 v1 v2 v3 v4 v5 v6:Value} (hx:∀p:Addr,p.block=b→w2.cell? p=w.cell? p) (hc:∀(j:Nat) u,[v0,v1,v2,v3,v4,v5,v6][j]?=some u→w.cell? ⟨b,o+j,none⟩=some u):
  w2.cell? ⟨b,o,none⟩=some v0∧w2.cell? ⟨b,o+1,none⟩=some v1∧w2.cell? ⟨b,o+2,none⟩=some v2∧w2.cell? ⟨b,o+3,none⟩=some v3∧w2.cell? ⟨b,o+4,none⟩=some v4∧w2.cell? ⟨b,o+5,none⟩=some v5∧w2.cell? ⟨b,o+6,none⟩=some v6:=
 ⟨(hx _ rfl).trans (hc 0 _ rfl),(hx _ rfl).trans (hc 1 _ rfl),(hx _ rfl).trans (hc 2 _ rfl),(hx _ rfl).trans (hc 3 _ rfl),(hx _ rfl).trans (hc 4 _ rfl),(hx _ rfl).trans (hc 5 _ rfl),(hx _ rfl).trans (hc 6 _ rfl)⟩
def jS (k:Int) (l:List UInt8) (n:Nat):Bool:=k==5&&(((n:Int)==1&&l== [92,43])||((n:Int)==2&&(l== [44]||l== [59]||l== [45,62]||l== [42,45,62])))
def WJ (k v:Int) (nm:ByteArray) (g:Bool) (s1 s2:Value) (a:Option Addr) (len c:Nat) (w:Wo):
  Cz 43 #[.agg #[.int .i64 k,.int .i64 v,.string nm,.bool g,s1,s2,.slice a len c]] w fun e w'=>e= .returned (.bool (jS k nm.toList len))∧Bz w w':=by
 have hB:=aC w (Obj.cells #[.int .i64 k,.int .i64 v,.string nm,.bool g,s1,s2,.slice a len c] 27);obtain⟨K,hK⟩:=enm (jS k nm.toList len);rw [hK];have a0:=aside hK;clear hK
 by_cases hk:k=5
 ·subst hk;go_enter Tryz.func43,Tryz.ntmps43;go_wp2
  all_goals(have hk:=a0.o;clear a0;go_ret;refine⟨?_,hB⟩;clear hB;subst hk;simp_all [jS])
 ·have a1:(k==5)=false:=by simpa using hk
  go_enter Tryz.func43,Tryz.ntmps43;go_wp2
  all_goals(have hk:=a0.o;clear a0;go_ret;refine⟨?_,hB⟩;clear hB;subst hk;simp_all [jS])
def IT (k v:Int) (nm:ByteArray) (g:Bool) (s1 s2:Value) (a:Option Addr) (len c:Nat) (w:Wo):
  Cz 47 #[.agg #[.int .i64 k,.int .i64 v,.string nm,.bool g,s1,s2,.slice a len c]] w fun e w'=>e= .returned (.bool (jS k nm.toList len))∧Bz w w':=by
 have hB:=aC w (Obj.cells #[.int .i64 k,.int .i64 v,.string nm,.bool g,s1,s2,.slice a len c] 27);obtain⟨K,hK⟩:=enm (jS k nm.toList len);rw [hK];have a0:=aside hK;clear hK
 by_cases hk:k=5
 ·subst hk;go_enter Tryz.func47,Tryz.ntmps47;go_wp2
  all_goals(have hk:=a0.o;clear a0;go_ret;refine⟨?_,hB⟩;clear hB;subst hk;simp_all [jS])
 ·have a1:(k==5)=false:=by simpa using hk
  go_enter Tryz.func47,Tryz.ntmps47;go_wp2
  all_goals(have hk:=a0.o;clear a0;go_ret;refine⟨?_,hB⟩;clear hB;subst hk;simp_all [jS])
def Pa (k v:Int) (nm:ByteArray) (g:Bool) (s1 s2 s3:Value) (w:Wo):
  Cz 74 #[.agg #[.int .i64 k,.int .i64 v,.string nm,.bool g,s1,s2,s3]] w fun e w'=>e= .returned (.bool (k==3||k==5))∧Bz w w':=by
 have hB:=aC w (Obj.cells #[.int .i64 k,.int .i64 v,.string nm,.bool g,s1,s2,s3] 27)
 by_cases hk:k=3
 ·subst hk;go_enter Tryz.func74,Tryz.ntmps74;go_wp2
  all_goals(go_ret;exact⟨by simp_all,hB⟩)
 ·have a1:(k==3)=false:=by simpa using hk
  go_enter Tryz.func74,Tryz.ntmps74;go_wp2
  all_goals(go_ret;exact⟨by simp_all,hB⟩)
def Fz (k v:Int) (nm:ByteArray) (g:Bool) (s1 s2 s3:Value) (w:Wo):
  Cz 39 #[.agg #[.int .i64 k,.int .i64 v,.string nm,.bool g,s1,s2,s3]] w fun e w'=>e= .returned (.bool (k==3||k==5))∧Bz w w':=by
 have hB:=aC w (Obj.cells #[.int .i64 k,.int .i64 v,.string nm,.bool g,s1,s2,s3] 27)
 by_cases hk:k=3
 ·subst hk;go_enter Tryz.func39,Tryz.ntmps39;go_wp2
  all_goals(go_ret;exact⟨by simp_all,hB⟩)
 ·have a1:(k==3)=false:=by simpa using hk
  go_enter Tryz.func39,Tryz.ntmps39;go_wp2
  all_goals(go_ret;exact⟨by simp_all,hB⟩)
def Kg (k v:Int) (nm s:ByteArray) (g:Bool) (s1 s2:Value) (a:Option Addr) (len c:Nat) (n:Int) (w:Wo):
  Cz 42 #[.agg #[.int .i64 k,.int .i64 v,.string nm,.bool g,s1,s2,.slice a len c],.string s,.int .i64 n] w fun e w'=>e= .returned (.bool (k==5&&nm.toList==s.toList&&((len:Int)==n)))∧Bz w w':=by
 have hB:=aC w (Obj.cells #[.int .i64 k,.int .i64 v,.string nm,.bool g,s1,s2,.slice a len c] 27)
 by_cases hk:k=5
 ·subst hk;cases hb:(nm.toList==s.toList)
  ·go_enter Tryz.func42,Tryz.ntmps42;go_wp2
   all_goals(go_ret;exact⟨by simp_all,hB⟩)
  ·go_enter Tryz.func42,Tryz.ntmps42;go_wp2
   all_goals(go_ret;exact⟨by simp_all,hB⟩)
 ·have a1:(k==5)=false:=by simpa using hk
  go_enter Tryz.func42,Tryz.ntmps42;go_wp2
  all_goals(go_ret;exact⟨by simp_all,hB⟩)
def TsX (n:Nat) (w:Wo):List Tm→Lv→Prop
 | [],X=>X= []
 |T::r,X=>∃vs Y,X=vs++Y∧TmV n w T vs∧TsX n w r Y
def TmV.len (h:TmV n w T vs):vs.length=7:=by
 obtain⟨k,v,nm,g,num,den,args⟩:=T;simp only [TmV] at h;obtain⟨s1,s2,a,c,rfl,_⟩:=h;rfl
def TmV.one (h:TmV n w T vs):∀u∈vs,u.oneCell'=true:=by
 obtain⟨k,v,nm,g,num,den,args⟩:=T;simp only [TmV] at h;obtain⟨_,_,a,c,rfl,⟨⟨p1,q1,rfl,_⟩,⟨p2,q2,rfl,_⟩⟩,_⟩:=h;intro u hu;simp only [cN,NW,BQ] at hu;rcases hu with rfl|rfl|rfl|rfl|rfl|rfl|rfl<;>rfl
def TsX.one {n:Nat} {w:Wo}:∀{L:List Tm} {X:Lv},TsX n w L X→∀u∈X,u.oneCell'=true
 | [],X,h=>by simp only [TsX] at h;subst h;simp
 |T::r,X,h=>by
  simp only [TsX] at h;obtain⟨vs,Y,rfl,h1,h2⟩:=h;intro u hu;rcases eY.1 hu with hu|hu
  ·exact h1.one u hu
  ·exact TsX.one h2 u hu
def TsX.app {n:Nat} {w:Wo}:∀{L M:List Tm} {X Y:Lv},TsX n w L X→TsX n w M Y→TsX n w (L++M) (X++Y)
 | [],M,X,Y,h,h'=>by simp only [TsX] at h;subst h;exact h'
 |T::r,M,X,Y,h,h'=>by
  simp only [TsX] at h;obtain⟨vs,Z,rfl,h1,h2⟩:=h;exact⟨vs,Z++Y,by rw [iP],h1,TsX.app h2 h'⟩
def TsX.below {n m:Nat} {w w':Wo} (hb:Below m w w') (hm:n≤m):∀{L:List Tm} {X:Lv},TsX n w L X→TsX n w' L X
 | [],X,h=>h
 |T::r,X,h=>by
  simp only [TsX] at h ⊢;obtain⟨vs,Y,e,h1,h2⟩:=h;exact⟨vs,Y,e,TmV.below hb hm _ _ h1,TsX.below hb hm h2⟩
def TsX.get {n:Nat} {w:Wo}:∀{L:List Tm} {X:Lv} {k:Nat} {T:Tm},TsX n w L X→L[k]?=some T→∃vs,TmV n w T vs∧∀(j:Nat) u,vs[j]?=some u→X[k*7+j]?=some u
 | [],_,_,_,_,hk=>by simp at hk
 |T0::r,X,0,T,h,hk=>by
  simp only [TsX] at h;obtain⟨vs,Y,rfl,h1,h2⟩:=h;simp at hk;subst hk;refine⟨vs,h1,fun j u hj=>?_⟩;rw [wK,dH,gM (aZ.1 hj).1];exact hj
 |T0::r,X,k+1,T,h,hk=>by
  simp only [TsX] at h;obtain⟨vs,Y,rfl,h1,h2⟩:=h;obtain⟨us,h3,h4⟩:=TsX.get h2 (show r[k]?=some T by simpa using hk);refine⟨us,h3,fun j u hj=>?_⟩;have hl:=h1.len;rw [iE (by omega),hl,show(k+1)*7+j-7=k*7+j by omega];exact h4 j u hj
def xW:El Tryz.prog 25 27 7 112 zTm:=⟨Tryz.underlying25,by
  obtain⟨i0,h1,h2,h3,h4⟩:=pI (show(Tryz.prog.info? 27).map (fun i=>(i.zero,i.size,i.bytes))=some (some zTm,7,112) by kernel_rfl);exact⟨i0,h1,h2,h3,h4⟩,rfl,by decide⟩
def OutT (n base:Nat) (w:Wo) (v:Value) (L:List Tm):Prop:=∃X,w.ownsRow base 27 7 v L.length X∧TsX n w L X
def OutT.below {m:Nat} {w':Wo} {L:List Tm} (h:OutT n base w v L) (hb:Below m w w') (hn:n≤m) (hm:w.heap.size≤m):OutT n base w' v L:=by
 obtain⟨X,h1,h2⟩:=h;exact⟨X,jF h1 hb hm,h2.below hb hn⟩
def OutT.nil (n base:Nat) (w:Wo):OutT n base w (.slice none 0 0) []:=⟨[],qD _ _ _ _,rfl⟩
def nW {a0:Nat} {e:TypeId} {size:Nat} (h:w.ownsRow base e size v n xs) (hb:a0≤base):w.ownsRow a0 e size v n xs:=by
 obtain⟨h1,h2|⟨g,cap,cur,e1,h3,h4⟩⟩:=h
 ·exact⟨h1,.inl h2⟩
 ·exact⟨h1,.inr ⟨g,cap,cur,e1,by omega,h4⟩⟩
