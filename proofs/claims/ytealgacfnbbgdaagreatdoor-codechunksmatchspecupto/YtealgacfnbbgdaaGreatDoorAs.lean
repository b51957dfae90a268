/- Lemmas; no condition. -/
import Derived.Test.YtealgacfnbbgdaaGreatDoorAq
import Derived.Test.YtealgacfnbbgdaaGreatDoorAr
set_option linter.all false
set_option maxHeartbeats 4000000
set_option maxRecDepth 100000
namespace Go.Proofs.YtealgacfnbbgdaaGreatDoor
open Go.RowKit Go.Big Go.RowsK Go.MapK
section
attribute [local go_sem] Heavy.uponW
def AB (w:Wo) (r:Nat):Nat:=match w.heap[r]? with
 |some (.mapIter _ _ seen _)=>seen.size
 |_=>0
def itLen {κ:Type} [DecidableEq κ] {kv:κ→Value} {w:Wo} {r b:Nat} {M D:List (κ × Value)} (h:IterAt kv w r b M D):AB w r=D.length:=by
 obtain⟨es,clock,seen,h1,h2,h3,ds,h4,h5,_⟩:=h;have e1:=h4.length;have e2:seen.toList.length=(ds.map (·.born)).length:=by rw [h5]
 rw [mB,eZ] at e2;simp [AB,h3];omega
def itNext {κ:Type} [DecidableEq κ] {kt:TypeId} {kv:κ→Value} (K:KL Tryz.prog kt kv) {w:Wo} {r b:Nat} {M D:List (κ × Value)} (h:IterAt kv w r b M D) (ty:TypeId):
  ((∀p∈M,p∈D)∧∃w',(Instr.next (.pointer (some ⟨r,0,none⟩)) false ty).run Tryz.prog w= .ok (.tuple #[.bool false]) w'∧Bz w w')∨
  ∃p∈M,p.1∉D.map (·.1)∧∃w',(Instr.next (.pointer (some ⟨r,0,none⟩)) false ty).run Tryz.prog w= .ok (.tuple #[.bool true,kv p.1,p.2]) w'∧IterAt kv w' r b M (D++ [p])∧bL (fun k=>k=r) w w'∧w'.heap.size=w.heap.size:=by
 rcases Iq K h ty with⟨h1,w',h2,h3⟩|⟨p,hp,hn,w1,o,h3,h2,h4⟩
 ·refine .inl ⟨h1,w',h2,?_⟩;rcases h3 with rfl|rfl
  ·exact aK _ _
  ·exact YM _ _
 ·refine .inr ⟨p,hp,hn,_,h2,h4,?_,?_⟩
  ·have e3:∀k,k≠r→(w1.heap.setIfInBounds r o)[k]?=w1.heap[k]?:=fun k hk=>uY (by omega)
   rcases h3 with rfl|rfl
   ·exact⟨rfl,rfl,rfl,by simp,fun k hk a8=>e3 k a8⟩
   ·exact⟨rfl,rfl,rfl,by simp,fun k hk a8=>(e3 k a8).trans rfl⟩
  ·rcases h3 with rfl|rfl<;>simp
def SO {κ:Type} {D:List (κ × Value)} {p:κ × Value} (h:(D.map (·.1)).Nodup) (hn:p.1∉D.map (·.1)):((D++ [p]).map (·.1)).Nodup:=by
 rw [pM,NX];exact⟨h,by simp,fun a ha b hb e=>by simp at hb;subst hb;subst e;exact hn ha⟩
def Iv {κ:Type} [DecidableEq κ] {M D:List (κ × Value)} {p:κ × Value} (h:(D.map (·.1)).Nodup) (hs:∀q∈D,q∈M) (hp:p∈M) (hn:p.1∉D.map (·.1)):D.length<M.length:=by
 have h1:=SO h hn;have h2:=Go.Proofs.Plain.nodup_sub_len (m:=M.map (·.1)) h1 fun y hy=>by
  obtain⟨q,hq,e⟩:=gF.1 hy;subst e;rcases eY.1 hq with hq|hq
  ·exact gF.2 ⟨q,hs q hq,rfl⟩
  ·simp at hq;subst hq;exact gF.2 ⟨q,hp,rfl⟩
 rw [mB,mB,aV] at h2;simp at h2;omega
def kQ {T:Tm} (h:T.faultE=0):T.nodes≤10000∧T.errE=0:=by
 unfold Tm.faultE at h;split at h
 ·cases h
 ·exact⟨by omega,h⟩
open Classical in
noncomputable def dK (C:Cl):Int:=if C.h.faultE≠0 then C.h.faultE else if C.b.faultE≠0 then C.b.faultE else if nC C.h C.b≠0 then nC C.h C.b else if C.num then 0 else 2
def XD {C:Cl} {i:Nat} {T:Tm} (h:[C.h,C.b][i]?=some T) (hz:∀U∈ [C.h,C.b].take i,U.faultE=0) (hT:T.faultE≠0):dK C=T.faultE:=by
 match i,h with
 |0,h=>simp at h;subst h;rw [dK,if_pos hT]
 |1,h=>
  simp at h;subst h;have h0:=hz C.h (by simp);rw [dK,if_neg (by simp [h0]),if_pos hT]
def MB {C:Cl} (h1:C.h.faultE=0) (h2:C.b.faultE=0) (h3:nC C.h C.b≠0):dK C=nC C.h C.b:=by
 rw [dK,if_neg (by simp [h1]),if_neg (by simp [h2]),if_pos h3]
open Classical in
def XE {C:Cl} (h1:C.h.faultE=0) (h2:C.b.faultE=0) (h3:nC C.h C.b=0):(C.num→dK C=0)∧(¬C.num→dK C=2):=by
 have e:dK C=if C.num then 0 else 2:=by rw [dK,if_neg (by simp [h1]),if_neg (by simp [h2]),if_neg (by simp [h3])]
 exact⟨fun h=>by rw [e,if_pos h],fun h=>by rw [e,if_neg h]⟩
def OS {n:Nat} {w wd:Wo} {H B:Tm} {rb i:Nat} {E1 E2:Lv} (hH:TmV n w H E1) (hB:TmV n w B E2) (hq:wd.heap[rb]?=some (.cells (E1++E2).toArray 27)) (hi:i<2):
  ∃T' us,[H,B][i]?=some T'∧TmV n w T' us∧∀(j:Nat) u,us[j]?=some u→wd.cell? ⟨rb,i*7+j,none⟩=some u:=by
 have hl:=hH.len;have hc:∀(j:Nat) u,(E1++E2)[j]?=some u→wd.cell? ⟨rb,j,none⟩=some u:=fun j u hj=>by simp only [World.cell?,hq];simpa using hj
 match i,hi with
 |0,_=>exact⟨H,E1,rfl,hH,fun j u hj=>hc _ u (by rw [wK,dH,gM (aZ.1 hj).1];exact hj)⟩
 |1,_=>exact⟨B,E2,rfl,hB,fun j u hj=>hc _ u (by rw [oH,iE (by omega),hl,GM];exact hj)⟩
def MD (C:Cl) (n:Nat) (w:Wo) (vs:Lv) (h:ClV n w C vs) (hn:n≤w.heap.size):
  Cz 13 #[.agg vs.toArray] w fun e w'=>e= .returned (.int .i64 (dK C))∧Bz w w':=by
 obtain⟨vh,vb,rfl,hH,hB⟩:=h;have TA:=aside3 hH hB hn;obtain⟨kx,vx,nmx,gx,px,nx,qx,rx,mx,ux,ax,lx,cx,rfl⟩:=TmV.seven hH;obtain⟨ky,vy,nmy,gy,py,ny,qy,ry,my,uy,ay,ly,cy,rfl⟩:=TmV.seven hB;obtain⟨vars,hvars⟩:∃v,C.vars=v:=⟨_,rfl⟩;have VA:=aside hvars;rw [hvars];obtain⟨R,hR⟩:∃r,dK C=r:=⟨_,rfl⟩;have RA:=aside hR;rw [hR];have b0:=aC w (Obj.cells (tC kx vx nmx gx px nx qx rx mx ux ax lx cx ky vy nmy gy py ny qy ry my uy ay ly cy vars) 29);have hq:=bY w (Obj.cells (tC kx vx nmx gx px nx qx rx mx ux ax lx cx ky vy nmy gy py ny qy ry my uy ay ly cy vars) 29);obtain⟨wa,hwa⟩:∃x,w.alloc (Obj.cells (tC kx vx nmx gx px nx qx rx mx ux ax lx cx ky vy nmy gy py ny qy ry my uy ay ly cy vars) 29)=x:=⟨_,rfl⟩;have c6:wa.heap.size=w.heap.size+1:=by rw [←hwa];simp
 rw [hwa] at b0 hq;have b3:=aC wa (Obj.cells #[.int .i64 kx,.int .i64 vx,.string nmx,.bool gx,.slice px nx qx,.slice rx mx ux,.slice ax lx cx,.int .i64 ky,.int .i64 vy,.string nmy,.bool gy,.slice py ny qy,.slice ry my uy,.slice ay ly cy] 27);have c3:=bY wa (Obj.cells #[.int .i64 kx,.int .i64 vx,.string nmx,.bool gx,.slice px nx qx,.slice rx mx ux,.slice ax lx cx,.int .i64 ky,.int .i64 vy,.string nmy,.bool gy,.slice py ny qy,.slice ry my uy,.slice ay ly cy] 27);obtain⟨wd,hwd⟩:∃x,wa.alloc (Obj.cells #[.int .i64 kx,.int .i64 vx,.string nmx,.bool gx,.slice px nx qx,.slice rx mx ux,.slice ax lx cx,.int .i64 ky,.int .i64 vy,.string nmy,.bool gy,.slice py ny qy,.slice ry my uy,.slice ay ly cy] 27)=x:=⟨_,rfl⟩;have e4:wd.heap.size=w.heap.size+2:=by rw [←hwd,eX,c6]
 rw [hwd] at b3 c3;rw [c6] at c3;have DA:Aside (Bz w wd∧wd.heap.size=w.heap.size+2∧wd.heap[w.heap.size+1]?=some (.cells ([.int .i64 kx,.int .i64 vx,.string nmx,.bool gx,.slice px nx qx,.slice rx mx ux,.slice ax lx cx]++ [.int .i64 ky,.int .i64 vy,.string nmy,.bool gy,.slice py ny qy,.slice ry my uy,.slice ay ly cy]:Lv).toArray 27)):=⟨b0.trans (b3.mono b0.size),e4,c3⟩;have fa:Aside (∀w2,Bz wd w2→_):=fun(w2:Wo) (hb:Bz wd w2)=>jK ((hb.block w.heap.size (by omega)).trans ((b3.block w.heap.size (by omega)).trans hq))
 obtain⟨x0,x1,x2,x3,x4,x5,x6,x7,x8,x9,x10,x11,x12,x13,x14⟩:=jK hq;clear hH hB hn hvars hR b0 hq b3 c3;show Cz 13 #[.agg (tC kx vx nmx gx px nx qx rx mx ux ax lx cx ky vy nmy gy py ny qy ry my uy ay ly cy vars)] w _;go_enter Tryz.func13,Tryz.ntmps13
 go_upto_region 2 with fail
 try rw [c6]
 clear hwa hwd c6 e4 x0 x1 x2 x3 x4 x5 x6 x7 x8 x9 x10 x11 x12 x13 x14;have c7:Aside (n≤wd.heap.size∧w.heap.size+1<wd.heap.size∧w.heap.size≤wd.heap.size):=by
  have h1:=TA.o.2.2;have h2:=DA.o.2.1;exact⟨by omega,by omega,by omega⟩
 have bw:Aside (∀w2,Bz wd w2→Bz w w2):=fun w2 hb=>DA.o.1.trans (hb.mono DA.o.1.size)
 go_loopw [16] (fun s wr=>∃i:Nat,s= .int .i64 i∧i≤2∧Bz wd wr∧∀U∈ [C.h,C.b].take i,U.faultE=0) (fun s _=>2-(RowKit.intOf s).toNat)
 case atStart=>exact⟨0,rfl,by omega,aK _ _,by simp⟩
 case round=>
  obtain⟨wo,rfl⟩:=enr wr;obtain⟨i,rfl,hi,hBo,hz⟩:=hrel
  by_cases e0:i<2
  case pos=>
   obtain⟨T',us,hT',hv,hcs⟩:=OS TA.o.1 TA.o.2.1 DA.o.2.2 e0;obtain⟨k5,v5,nm5,g5,p5,n5,q5,r5,m5,u5,a5,l5,c5,rfl⟩:=TmV.seven hv;obtain⟨z0,z1,z2,z3,z4,z5,z6⟩:=qL (w:=wd) (w2:=wo) (fun p hp=>hBo.cell (hp▸c7.o.2.1)) hcs;have d0:=aC wo (Obj.cells (tA k5 v5 nm5 g5 p5 n5 q5 r5 m5 u5 a5 l5 c5) 27);have c1:=hBo.trans (d0.mono hBo.size);have d1:=Oq T' n (wo.alloc (Obj.cells (tA k5 v5 nm5 g5 p5 n5 q5 r5 m5 u5 a5 l5 c5) 27)) _ (TmV.below (bw.o _ c1) TA.o.2.2 _ _ hv) (aE c7.o.1 c1.size);obtain⟨F,hF⟩:∃f,T'.faultE=f:=⟨_,rfl⟩;rw [hF] at d1;replace d1:Cz 34 #[.agg (tA k5 v5 nm5 g5 p5 n5 q5 r5 m5 u5 a5 l5 c5)] (wo.alloc (Obj.cells (tA k5 v5 nm5 g5 p5 n5 q5 r5 m5 u5 a5 l5 c5) 27)) (fun e w'=>e= .returned (.int .i64 F)∧Bz (wo.alloc (Obj.cells (tA k5 v5 nm5 g5 p5 n5 q5 r5 m5 u5 a5 l5 c5) 27)) w'):=d1;have a1:Aside (Bz wd _):=c1;have a7:Aside (F≠0→R=F):=fun h=>by
    rw [←RA.o,←hF];exact XD hT' hz (by rw [hF];exact h)
   have a0:Aside (F=0→∀U∈ [C.h,C.b].take (i+1),U.faultE=0):=fun h U hU=>by
    rw [mA,hT'] at hU;rcases eY.1 hU with hU|hU
    ·exact hz U hU
    ·simp at hU;subst hU;rw [hF];exact h
   have f0:(i:Int)<2:=by omega
   have f1:(0:Int)≤(i:Int):=by omega
   have f2:=ewr (i:=i) (by omega);clear hv hcs hT' hF hz hBo d0 c1
   by_cases b1:F=0
   ·subst b1;have e6:Aside (∀U∈ [C.h,C.b].take (i+1),U.faultE=0):=a0.o rfl;clear a0 a7
    go_wp2_with (go_at_call 34;(with_reducible refine d1.mono ?_);rintro e w5 ⟨rfl,hb5⟩)
    have h6:=a1.o.trans (hb5.mono a1.o.size);go_roundw
    case rel=>exact⟨i+1,by simp,by omega,h6,e6.o⟩
    case measure=>simp [RowKit.intOf];omega
   ·obtain rfl:=a7.o b1;have e1:(R==0)=false:=by simpa using b1
    have e2:(R !=0)=true:=by simpa using b1
    clear a0 a7 b1
    go_wp2_with (go_at_call 34;(with_reducible refine d1.mono ?_);rintro e w5 ⟨rfl,hb5⟩)
    go_ret
    exact⟨rfl,bw.o _ (a1.o.trans (hb5.mono a1.o.size))⟩
  obtain rfl:i=2:=by omega
  have z1:=hz C.h (by simp);have z2:=hz C.b (by simp);have a9:=aside2 z1 z2;have d2:Aside (∀w2,Bz wd w2→Cz 35 #[.agg (tA kx vx nmx gx px nx qx rx mx ux ax lx cx),.agg (tA ky vy nmy gy py ny qy ry my uy ay ly cy)] w2 fun e w'=>e= .returned (.int .i64 (nC C.h C.b))∧Bz w2 w'):=fun w2 hb=>Hm C.h C.b n w2 _ _ (TmV.below (bw.o _ hb) TA.o.2.2 _ _ TA.o.1) (TmV.below (bw.o _ hb) TA.o.2.2 _ _ TA.o.2.1) (aE c7.o.1 hb.size) (by have:=(kQ a9.o.2).1;omega)
  have d3:Aside (∀w2,Bz wd w2→Cz 36 #[.agg (tA kx vx nmx gx px nx qx rx mx ux ax lx cx),.agg (tA ky vy nmy gy py ny qy ry my uy ay ly cy)] w2 (OrdP w2 C.fr)):=fun w2 hb=>Kl C.h C.b n w2 _ _ (TmV.below (bw.o _ hb) TA.o.2.2 _ _ TA.o.1) (TmV.below (bw.o _ hb) TA.o.2.2 _ _ TA.o.2.1) (aE c7.o.1 hb.size) (by have:=(kQ a9.o.1).1;omega) (by have:=(kQ a9.o.2).1;omega)
  obtain⟨G,hG⟩:∃f,nC C.h C.b=f:=⟨_,rfl⟩;have GA:=aside hG;rw [hG] at d2;obtain⟨x0,x1,x2,x3,x4,x5,x6,x7,x8,x9,x10,x11,x12,x13,x14⟩:=fa.o wo hBo;have a2:=aside hBo;have d4:=d2.o wo hBo;clear hz z1 z2 hG hBo d2 hi e0
  by_cases b2:G=0
  case neg=>
   have e5:Aside (R=G):=by show _=_;rw [←RA.o,←GA.o];exact MB a9.o.1 a9.o.2 (by rw [GA.o];exact b2)
   have e1:(G==0)=false:=by simpa using b2
   have e2:(G !=0)=true:=by simpa using b2
   clear b2
   go_wp2_with (go_at_call 35;(with_reducible refine d4.mono ?_);rintro e w5 ⟨rfl,hb5⟩)
   go_ret
   exact⟨by rw [e5.o];rfl,bw.o _ (a2.o.trans (hb5.mono a2.o.size))⟩
  subst b2;have cn:=XE a9.o.1 a9.o.2 GA.o;rw [RA.o] at cn;have c8:=aside cn;clear cn
  go_upto_region 11 with(go_at_call 35;(with_reducible refine d4.mono ?_);rintro e w5 ⟨rfl,hb5⟩)
  have h5:Bz wd w5:=a2.o.trans (hb5.mono a2.o.size);clear x0 x1 x2 x3 x4 x5 x6 x7 x8 x9 x10 x11 x12 x13 x14 d4 hb5;obtain⟨x0,x1,x2,x3,x4,x5,x6,x7,x8,x9,x10,x11,x12,x13,x14⟩:=fa.o w5 h5;have d5:=d3.o w5 h5;have c9:=aside h5;clear h5 d3
  go_upto_region 12 with(go_at_call 36;(with_reducible refine d5.mono ?_);rintro e w6 ⟨mb,rfl,hmb,hM6,hb6⟩)
  have h6:Bz wd w6:=c9.o.trans (hb6.mono c9.o.size);clear x0 x1 x2 x3 x4 x5 x6 x7 x8 x9 x10 x11 x12 x13 x14 d5 hb6;obtain⟨L,hL⟩:∃l,C.fr=l:=⟨_,rfl⟩;have LA:=aside hL;rw [hL] at hM6;obtain⟨o,hrg,hit⟩:=Gs zB hM6;have b7:=aC w6 o;have d7:(w6.alloc o).heap.size=w6.heap.size+1:=by simp
  obtain⟨w7,hw7⟩:∃x,w6.alloc o=x:=⟨_,rfl⟩;rw [hw7] at hrg b7 hit d7;have d8:Aside (IterAt ikv w7 w6.heap.size mb (fQ L 0) []∧Bz wd w7∧w7.heap.size=w6.heap.size+1∧mb<w6.heap.size∧wd.heap.size≤mb∧wd.heap.size≤w6.heap.size):=⟨hit,h6.trans (b7.mono h6.size),d7,hM6.lt,aE c9.o.size hmb,h6.size⟩;clear hM6 hit b7 d7 h6 hL hmb
  go_upto_region 13 with fail
  clear hrg hw7
  go_loopw [8] (fun s wr=>∃DD:List (Int × Value),IterAt ikv wr w6.heap.size mb (fQ L 0) DD∧(∀p∈DD,p∈fQ L 0)∧(DD.map (·.1)).Nodup∧(∀p∈DD,p.2= .int .i64 p.1)∧Bz wd wr) (fun _ wr=>(fQ L 0).length-AB wr w6.heap.size)
  case atStart=>exact⟨[],d8.o.1,by simp,by simp,by simp,d8.o.2.1⟩
  case round=>
   obtain⟨wx,rfl⟩:=enr wr;obtain⟨DD,hit,hsub,hnd,hgd,hbx⟩:=hrel;have c2:=itLen hit;have e8:w6.heap.size<wx.heap.size:=by
    obtain⟨_,_,_,_,_,h,_⟩:=hit;exact(cV.1 h).1
   rcases itNext AC hit 0 with⟨b5,wn,c4,hbn⟩|⟨p,hp,hnin,wn,c4,hitn,hkn,hsn⟩
   ·have a4:=hbx.trans (hbn.mono hbx.size);have d9:=hit.map.of_block (hbn.block mb hit.map.lt);have d6:=len_of zB d9 3;rw [RZ] at d6;have b9:∀(j:Nat) x,L[j]?=some x→x=(j:Int):=fun j x hj=>by
     have h1:(x,Value.int .i64 (j:Nat))∈fQ L 0:=JJ.2 ⟨j,hj,by rw [dH]⟩;have h2:=hgd _ (b5 _ h1);simp only at h2;injection h2 with _ h2
     exact h2.symm
    obtain⟨x0,x1,x2,x3,x4,x5,x6,x7,x8,x9,x10,x11,x12,x13,x14⟩:=fa.o wn a4;have a3:=aside a4;have c0:Aside (C.num↔(L.length:Int)=vars):=by
     show _↔_;unfold Cl.num;rw [LA.o,VA.o];exact⟨fun h=>h.2,fun h=>⟨b9,h⟩⟩
    clear hit hsub hnd hgd hbx c2 b5 hbn b9 d9 a4
    by_cases hv:vars=(L.length:Int)
    ·have e1:(vars==(L.length:Int))=true:=by simpa using hv
     have e2:(vars !=(L.length:Int))=false:=by simpa using hv
     have b4:Aside (R=0):=c8.o.1 (c0.o.2 hv.symm);clear hv;go_wp2
     go_ret
     exact⟨by rw [b4.o];rfl,bw.o _ a3.o⟩
    ·have e1:(vars==(L.length:Int))=false:=by simpa using hv
     have e2:(vars !=(L.length:Int))=true:=by simpa using hv
     have b4:Aside (R=2):=c8.o.2 (fun h=>hv (c0.o.1 h).symm);clear hv;go_wp2
     go_ret
     exact⟨by rw [b4.o];rfl,bw.o _ a3.o⟩
   ·obtain⟨x,u⟩:=p;obtain⟨j,hj,rfl⟩:=JJ.1 hp;rw [dH] at hp c4 hitn;have e9:(Instr.entry (.pointer (some ⟨w6.heap.size,0,none⟩))).run Tryz.prog wn= .ok (.tuple #[.int .i64 x,.int .i64 (j:Nat)]) wn:=Ms hitn;replace c4:(Instr.next (.pointer (some ⟨w6.heap.size,0,none⟩)) false 0).run Tryz.prog wx= .ok (.tuple #[.bool true,.int .i64 x,.int .i64 (j:Nat)]) wn:=c4;have b6:=Iv hnd hsub hp hnin;have a4:Bz wd wn:=hbx.trans (hkn.below hbx.size fun k hk=>by subst hk;exact d8.o.2.2.2.2.2)
    by_cases a6:x=(j:Int)
    ·have e1:(x==(j:Int))=true:=by simpa using a6
     have e2:(x !=(j:Int))=false:=by simpa using a6
     have b8:Aside (IterAt ikv wn w6.heap.size mb (fQ L 0) (DD++ [(x,.int .i64 (j:Nat))])∧(∀p∈DD++ [(x,.int .i64 (j:Nat))],p∈fQ L 0)∧((DD++ [(x,Value.int .i64 (j:Nat))]).map (·.1)).Nodup∧(∀p∈DD++ [(x,.int .i64 (j:Nat))],p.2= .int .i64 p.1)∧Bz wd wn):=by
      refine⟨hitn,fun q hq=>?_,SO hnd hnin,fun q hq=>?_,a4⟩
      ·rcases eY.1 hq with hq|hq
       ·exact hsub q hq
       ·simp at hq;subst hq;exact hp
      ·rcases eY.1 hq with hq|hq
       ·exact hgd q hq
       ·simp at hq;subst hq;simp [a6]
     have e7:Aside ((fQ L 0).length-AB wn w6.heap.size<(fQ L 0).length-AB wx w6.heap.size):=by
      show _<_;rw [itLen b8.o.1,c2,aV];simp;omega
     clear hit hsub hnd hgd hbx c2 hitn hkn hsn b6 hp hnin a4 a6 hj;go_wp2;exact⟨⟨_,b8.o⟩,e7.o⟩
    ·have e1:(x==(j:Int))=false:=by simpa using a6
     have e2:(x !=(j:Int))=true:=by simpa using a6
     have b4:Aside (R=2):=c8.o.2 fun h=>by
      have:=h.1 j x (by rw [LA.o];exact hj);exact a6 this
     have a3:Aside (Bz w wn):=bw.o _ a4;clear hit hsub hnd hgd hbx c2 hitn hkn hsn b6 hp hnin a4 a6 hj;go_wp2
     go_ret
     exact⟨by rw [b4.o];rfl,a3.o⟩
end
section
attribute [local go_sem] Heavy.uponW
def Gj (s:ByteArray) (a:Option Addr) (len c:Nat) (w:Wo):
  Cz 41 #[.string s,.slice a len c] w fun e w'=>e= .returned (.agg #[.int .i64 5,.int .i64 0,.string s,.bool false,.slice none 0 0,.slice none 0 0,.slice a len c])∧Bz w w':=by
 go_enter Tryz.func41,Tryz.ntmps41;go_wp2;refine rN (sV rfl _ _ w.heap.size 27 _ _ _ rfl (bY _ _) Tryz.underlying27 rfl (by kernel_rfl)) rfl ?_;exact⟨rfl,aC _ _⟩
def IU (C:Cl) (n:Nat) (w:Wo) (vs:Lv) (h:ClV n w C vs) (hn:n≤w.heap.size):
  Cz 15 #[.agg vs.toArray] w fun e w'=>e= .returned (.int .i64 (dK C))∧Bz w w':=by
 obtain⟨vh,vb,rfl,hH,hB⟩:=h;have TA:=aside3 hH hB hn;obtain⟨kx,vx,nmx,gx,px,nx,qx,rx,mx,ux,ax,lx,cx,rfl⟩:=TmV.seven hH;obtain⟨ky,vy,nmy,gy,py,ny,qy,ry,my,uy,ay,ly,cy,rfl⟩:=TmV.seven hB;obtain⟨vars,hvars⟩:∃v,C.vars=v:=⟨_,rfl⟩;have VA:=aside hvars;rw [hvars];obtain⟨R,hR⟩:∃r,dK C=r:=⟨_,rfl⟩;have RA:=aside hR;rw [hR];have b0:=aC w (Obj.cells (tC kx vx nmx gx px nx qx rx mx ux ax lx cx ky vy nmy gy py ny qy ry my uy ay ly cy vars) 29);have hq:=bY w (Obj.cells (tC kx vx nmx gx px nx qx rx mx ux ax lx cx ky vy nmy gy py ny qy ry my uy ay ly cy vars) 29);obtain⟨wa,hwa⟩:∃x,w.alloc (Obj.cells (tC kx vx nmx gx px nx qx rx mx ux ax lx cx ky vy nmy gy py ny qy ry my uy ay ly cy vars) 29)=x:=⟨_,rfl⟩;have b8:wa.heap.size=w.heap.size+1:=by rw [←hwa];simp
 rw [hwa] at b0 hq;have b3:=aC wa (Obj.cells #[.int .i64 kx,.int .i64 vx,.string nmx,.bool gx,.slice px nx qx,.slice rx mx ux,.slice ax lx cx,.int .i64 ky,.int .i64 vy,.string nmy,.bool gy,.slice py ny qy,.slice ry my uy,.slice ay ly cy] 27);have b7:=bY wa (Obj.cells #[.int .i64 kx,.int .i64 vx,.string nmx,.bool gx,.slice px nx qx,.slice rx mx ux,.slice ax lx cx,.int .i64 ky,.int .i64 vy,.string nmy,.bool gy,.slice py ny qy,.slice ry my uy,.slice ay ly cy] 27);obtain⟨wd,hwd⟩:∃x,wa.alloc (Obj.cells #[.int .i64 kx,.int .i64 vx,.string nmx,.bool gx,.slice px nx qx,.slice rx mx ux,.slice ax lx cx,.int .i64 ky,.int .i64 vy,.string nmy,.bool gy,.slice py ny qy,.slice ry my uy,.slice ay ly cy] 27)=x:=⟨_,rfl⟩;have d7:wd.heap.size=w.heap.size+2:=by rw [←hwd,eX,b8]
 rw [hwd] at b3 b7;rw [b8] at b7;have DA:Aside (Bz w wd∧wd.heap.size=w.heap.size+2∧wd.heap[w.heap.size+1]?=some (.cells ([.int .i64 kx,.int .i64 vx,.string nmx,.bool gx,.slice px nx qx,.slice rx mx ux,.slice ax lx cx]++ [.int .i64 ky,.int .i64 vy,.string nmy,.bool gy,.slice py ny qy,.slice ry my uy,.slice ay ly cy]:Lv).toArray 27)):=⟨b0.trans (b3.mono b0.size),d7,b7⟩;have fa:Aside (∀w2,Bz wd w2→_):=fun(w2:Wo) (hb:Bz wd w2)=>jK ((hb.block w.heap.size (by omega)).trans ((b3.block w.heap.size (by omega)).trans hq))
 obtain⟨x0,x1,x2,x3,x4,x5,x6,x7,x8,x9,x10,x11,x12,x13,x14⟩:=jK hq;clear hH hB hn hvars hR b0 hq b3 b7;show Cz 15 #[.agg (tC kx vx nmx gx px nx qx rx mx ux ax lx cx ky vy nmy gy py ny qy ry my uy ay ly cy vars)] w _;go_enter Tryz.func15,Tryz.ntmps15
 go_upto_region 2 with fail
 try rw [b8]
 clear hwa hwd b8 d7 x0 x1 x2 x3 x4 x5 x6 x7 x8 x9 x10 x11 x12 x13 x14;have b9:Aside (n≤wd.heap.size∧w.heap.size+1<wd.heap.size∧w.heap.size≤wd.heap.size):=by
  have h1:=TA.o.2.2;have h2:=DA.o.2.1;exact⟨by omega,by omega,by omega⟩
 have bw:Aside (∀w2,Bz wd w2→Bz w w2):=fun w2 hb=>DA.o.1.trans (hb.mono DA.o.1.size)
 go_loopw [15] (fun s wr=>∃i:Nat,s= .int .i64 i∧i≤2∧Bz wd wr∧∀U∈ [C.h,C.b].take i,U.faultE=0) (fun s _=>2-(RowKit.intOf s).toNat)
 case atStart=>exact⟨0,rfl,by omega,aK _ _,by simp⟩
 case round=>
  obtain⟨wo,rfl⟩:=enr wr;obtain⟨i,rfl,hi,hBo,hz⟩:=hrel
  by_cases c8:i<2
  case pos=>
   obtain⟨T',us,hT',hv,hcs⟩:=OS TA.o.1 TA.o.2.1 DA.o.2.2 c8;obtain⟨k5,v5,nm5,g5,p5,n5,q5,r5,m5,u5,a5,l5,c5,rfl⟩:=TmV.seven hv;obtain⟨z0,z1,z2,z3,z4,z5,z6⟩:=qL (w:=wd) (w2:=wo) (fun p hp=>hBo.cell (hp▸b9.o.2.1)) hcs;have d0:=aC wo (Obj.cells (tA k5 v5 nm5 g5 p5 n5 q5 r5 m5 u5 a5 l5 c5) 27);have b5:=hBo.trans (d0.mono hBo.size);have d1:=Ma T' n (wo.alloc (Obj.cells (tA k5 v5 nm5 g5 p5 n5 q5 r5 m5 u5 a5 l5 c5) 27)) _ (TmV.below (bw.o _ b5) TA.o.2.2 _ _ hv) (aE b9.o.1 b5.size);obtain⟨F,hF⟩:∃f,T'.faultE=f:=⟨_,rfl⟩;rw [hF] at d1;replace d1:Cz 38 #[.agg (tA k5 v5 nm5 g5 p5 n5 q5 r5 m5 u5 a5 l5 c5)] (wo.alloc (Obj.cells (tA k5 v5 nm5 g5 p5 n5 q5 r5 m5 u5 a5 l5 c5) 27)) (fun e w'=>e= .returned (.int .i64 F)∧Bz (wo.alloc (Obj.cells (tA k5 v5 nm5 g5 p5 n5 q5 r5 m5 u5 a5 l5 c5) 27)) w'):=d1;have a2:Aside (Bz wd _):=b5;have a8:Aside (F≠0→R=F):=fun h=>by
    rw [←RA.o,←hF];exact XD hT' hz (by rw [hF];exact h)
   have a0:Aside (F=0→∀U∈ [C.h,C.b].take (i+1),U.faultE=0):=fun h U hU=>by
    rw [mA,hT'] at hU;rcases eY.1 hU with hU|hU
    ·exact hz U hU
    ·simp at hU;subst hU;rw [hF];exact h
   have e8:(i:Int)<2:=by omega
   have e9:(0:Int)≤(i:Int):=by omega
   have f2:=ewr (i:=i) (by omega);clear hv hcs hT' hF hz hBo d0 b5
   by_cases b1:F=0
   ·subst b1;have d8:Aside (∀U∈ [C.h,C.b].take (i+1),U.faultE=0):=a0.o rfl;clear a0 a8
    go_wp2_with (go_at_call 38;(with_reducible refine d1.mono ?_);rintro e w5 ⟨rfl,hb5⟩)
    have h6:=a2.o.trans (hb5.mono a2.o.size);go_roundw
    case rel=>exact⟨i+1,by simp,by omega,h6,d8.o⟩
    case measure=>simp [RowKit.intOf];omega
   ·obtain rfl:=a8.o b1;have e1:(R==0)=false:=by simpa using b1
    have e2:(R !=0)=true:=by simpa using b1
    clear a0 a8 b1
    go_wp2_with (go_at_call 38;(with_reducible refine d1.mono ?_);rintro e w5 ⟨rfl,hb5⟩)
    go_ret
    exact⟨rfl,bw.o _ (a2.o.trans (hb5.mono a2.o.size))⟩
  obtain rfl:i=2:=by omega
  have z1:=hz C.h (by simp);have z2:=hz C.b (by simp);have a1:=aside2 z1 z2;have d2:Aside (∀w2,Cz 39 #[.agg (tA kx vx nmx gx px nx qx rx mx ux ax lx cx)] w2 fun e w'=>e= .returned (.bool (kx==3||kx==5))∧Bz w2 w'):=fun w2=>Fz kx vx nmx gx _ _ _ w2
  have c7:C.h.knd=kx:=TA.o.1.kndV;obtain⟨A,hA⟩:∃b,(kx==3||kx==5)=b:=⟨_,rfl⟩;have AA:Aside (cllB C.h=A):=by show _=_;rw [cllB,c7];exact hA
  rw [hA] at d2;obtain⟨G,hG⟩:∃f,gOk C.b=f:=⟨_,rfl⟩;have GA:=aside hG;have d3:Aside (∀w2,Bz wd w2→Cz 40 #[.agg (tA ky vy nmy gy py ny qy ry my uy ay ly cy)] w2 fun e w'=>e= .returned (.bool G)∧Bz w2 w'):=fun w2 hb=>by
   rw [←hG];exact RD C.b n w2 _ (TmV.below (bw.o _ hb) TA.o.2.2 _ _ TA.o.2.1) (aE b9.o.1 hb.size)
  have a6:Aside (nC C.h C.b=if A then(if G then 0 else 7) else 7):=by show _=_;rw [nC,AA.o,GA.o]
  obtain⟨x0,x1,x2,x3,x4,x5,x6,x7,x8,x9,x10,x11,x12,x13,x14⟩:=fa.o wo hBo;have a3:=aside hBo;clear hz z1 z2 hG hA c7 hi c8;cases A
  case false=>
   have c2:Aside (R=7):=by show _=_;rw [←RA.o,MB a1.o.1 a1.o.2 (by rw [a6.o];simp),a6.o];rfl
   clear a6 AA
   go_wp2_with (go_at_call 39;(with_reducible refine(d2.o _).mono ?_);rintro e w5 ⟨rfl,hb5⟩)
   go_ret
   exact⟨by rw [c2.o];rfl,bw.o _ (a3.o.trans (hb5.mono a3.o.size))⟩
  go_upto_region 8 with fail
  refine rM ?_
  iterate 2 (refine iD rfl fun K hK=>?_;go_simp;refine hK _ _ ?_;clear hK)
  refine iD rfl fun KK c4=>?_
  go_simp
  refine(d2.o _).mono ?_;rintro e w5 ⟨rfl,hb5⟩;have h5:Bz wd w5:=a3.o.trans (hb5.mono a3.o.size);refine c4 _ _ ?_;clear c4 x0 x1 x2 x3 x4 x5 x6 x7 x8 x9 x10 x11 x12 x13 x14 hb5 hBo;obtain⟨x0,x1,x2,x3,x4,x5,x6,x7,x8,x9,x10,x11,x12,x13,x14⟩:=fa.o w5 h5;have d4:=d3.o w5 h5;have b4:=aside h5;cases G
  case false=>
   have c2:Aside (R=7):=by show _=_;rw [←RA.o,MB a1.o.1 a1.o.2 (by rw [a6.o];simp),a6.o];rfl
   clear a6 AA GA d3
   go_wp2_with (go_at_call 40;(with_reducible refine d4.mono ?_);rintro e w6 ⟨rfl,hb6⟩)
   go_ret
   exact⟨by rw [c2.o];rfl,bw.o _ (b4.o.trans (hb6.mono b4.o.size))⟩
  have d5:nC C.h C.b=0:=a6.o;have cn:=XE a1.o.1 a1.o.2 d5;rw [RA.o] at cn;have c0:=aside cn;have dF:Aside (∀w6 w8,Bz wd w6→Bz (w6.alloc (Obj.cells #[.int .i64 kx,.int .i64 vx,.string nmx,.bool gx,.slice px nx qx,.slice rx mx ux,.slice ax lx cx,.int .i64 ky,.int .i64 vy,.string nmy,.bool gy,.slice py ny qy,.slice ry my uy,.slice ay ly cy] 27)) w8→Cz 27 #[.agg #[.int .i64 5,.int .i64 0,.string ⟨#[99]⟩,.bool false,.slice none 0 0,.slice none 0 0,.slice (some ⟨w6.heap.size,0,none⟩) 2 2]] w8 (FreeP w8 C.fr)):=fun w6 w8 hb a4=>by
   have c6:=aC w6 (Obj.cells #[.int .i64 kx,.int .i64 vx,.string nmx,.bool gx,.slice px nx qx,.slice rx mx ux,.slice ax lx cx,.int .i64 ky,.int .i64 vy,.string nmy,.bool gy,.slice py ny qy,.slice ry my uy,.slice ay ly cy] 27);have e6:=bY w6 (Obj.cells #[.int .i64 kx,.int .i64 vx,.string nmx,.bool gx,.slice px nx qx,.slice rx mx ux,.slice ax lx cx,.int .i64 ky,.int .i64 vy,.string nmy,.bool gy,.slice py ny qy,.slice ry my uy,.slice ay ly cy] 27);have e4:n≤w6.heap.size:=aE b9.o.1 hb.size;have b6:Bz w6 w8:=c6.trans (a4.mono c6.size);have hv:=Oa (s:=⟨#[99]⟩) e4 (TmV.below (bw.o _ hb) TA.o.2.2 _ _ TA.o.1) (TmV.below (bw.o _ hb) TA.o.2.2 _ _ TA.o.2.1) b6 ((a4.block w6.heap.size (by rw [eX];omega)).trans e6);have:=IK _ (w6.heap.size+1) w8 _ hv (by have:=a4.size;rw [eX] at this;exact this) (by rw [Ny];have:=(kQ a1.o.1).1;have:=(kQ a1.o.2).1;omega);rw [Nz] at this;exact this
  clear cn d5 a6 AA GA d3;obtain⟨L,hL⟩:∃l,C.fr=l:=⟨_,rfl⟩;have LA:=aside hL;rw [hL] at dF;obtain⟨ll,hll⟩:∃l,L.length=l:=⟨_,rfl⟩;have Ll:=aside hll;clear hL hll
  go_upto_region 11 with(first
   |(go_at_call 40;(with_reducible refine d4.mono ?_);rintro e w6 ⟨rfl,hb6⟩;have h6:=b4.o.trans (hb6.mono b4.o.size);obtain⟨y0,y1,y2,y3,y4,y5,y6,y7,y8,y9,y10,y11,y12,y13,y14⟩:=fa.o w6 h6)
   |(go_at_call 41;(with_reducible refine(Gj _ _ _ _ _).mono ?_);rintro e w8 ⟨rfl,a4⟩;have d6:=dF.o w6 w8 h6 a4)
   |(go_at_call 27;(with_reducible refine d6.mono ?_);rintro e w9 ⟨v9,rfl,hO9,b6⟩;obtain⟨a9,c9,rfl,hr9⟩:=hO9.readN;rw [Ll.o]))
  have h9:Bz wd w9:=h6.trans (((aC w6 (Obj.cells #[.int .i64 kx,.int .i64 vx,.string nmx,.bool gx,.slice px nx qx,.slice rx mx ux,.slice ax lx cx,.int .i64 ky,.int .i64 vy,.string nmy,.bool gy,.slice py ny qy,.slice ry my uy,.slice ay ly cy] 27)).mono h6.size).trans ((a4.mono (by rw [eX];have:=h6.size;omega)).trans (b6.mono (by have:=a4.size;rw [eX] at this;have:=h6.size;omega))));have c1:=aside h9;have e7:Aside (∀(k:Nat) x,L[k]?=some x→∃g,a9=some ⟨g,0,none⟩∧w9.cell? ⟨g,k,none⟩=some (.int .i64 x)):=fun k x hk=>by
   obtain⟨g,e,_,_,h3⟩:=hr9 k x hk;exact⟨g,e,h3⟩
  clear hO9 hr9 b6 a4 hb6 h6 h5 d6 d4 x0 x1 x2 x3 x4 x5 x6 x7 x8 x9 x10 x11 x12 x13 x14 y0 y1 y2 y3 y4 y5 y6 y7 y8 y9 y10 y11 y12 y13 y14;obtain⟨x0,x1,x2,x3,x4,x5,x6,x7,x8,x9,x10,x11,x12,x13,x14⟩:=fa.o w9 h9;clear h9
  by_cases hv:vars=(ll:Int)
  case neg=>
   have e1:(vars==(ll:Int))=false:=by simpa using hv
   have e2:(vars !=(ll:Int))=true:=by simpa using hv
   have b2:Aside (R=2):=c0.o.2 (fun h=>hv (by have:=h.2;rw [LA.o,VA.o,Ll.o] at this;exact this.symm));clear hv;go_wp2
   go_ret
   exact⟨by rw [b2.o];rfl,bw.o _ c1.o⟩
  subst hv
  go_upto_region 13 with fail
  clear x0 x1 x2 x3 x4 x5 x6 x7 x8 x9 x10 x11 x12 x13 x14;have e3:Aside (ll≤100000):=by
   show _≤_;have h1:=(qX [C.h,C.b] []).1;have h2:(Tm.frL [C.h,C.b] []).length=ll:=by rw [←Ll.o,←LA.o];rfl
   have h3:Tm.nodesL [C.h,C.b]=C.h.nodes+C.b.nodes:=by simp [Tm.nodesL]
   have:=(kQ a1.o.1).1;have:=(kQ a1.o.2).1;simp at h1;omega
  go_upto_region 14 with fail
  go_loopw [49] (fun s wr=>∃j:Nat,s= .int .i64 j∧j≤ll∧wr=w9∧∀(i:Nat) x,i<j→L[i]?=some x→x=(i:Int)) (fun s _=>ll-(RowKit.intOf s).toNat)
  case atStart=>exact⟨0,rfl,cJ _,rfl,fun i x h=>by omega⟩
  case round=>
   obtain⟨j,rfl,hj,rfl,hgd⟩:=hrel
   by_cases e0:j<ll
   case neg=>
    obtain rfl:j=ll:=by omega
    have b2:Aside (R=0):=c0.o.1 ⟨fun i x hx=>by
     rw [LA.o] at hx;exact hgd i x (by rw [←Ll.o];exact(aZ.1 hx).1) hx,by rw [LA.o,VA.o,Ll.o]⟩
    clear hgd;go_wp2
    go_ret
    exact⟨by rw [b2.o];rfl,bw.o _ c1.o⟩
   obtain⟨x,hx⟩:=egf Ll.o e0;obtain⟨g,rfl,hg3⟩:=e7.o j x hx;have c3:=aside2 hx hgd;have f0:(j:Int)<(ll:Int):=by omega
   have f1:(0:Int)≤(j:Int):=by omega
   have f3:IntKind.i64.wrap ((j:Int)+1)=(j:Int)+1:=by rw [eF];have:=e3.o;omega
   clear hx hgd
   by_cases a7:x=(j:Int)
   ·have e1:(x==(j:Int))=true:=by simpa using a7
    have e2:(x !=(j:Int))=false:=by simpa using a7
    have e5:Aside (∀(i:Nat) x,i<j+1→L[i]?=some x→x=(i:Int)):=fun i y hi hy=>by
     by_cases d9:i<j
     ·exact c3.o.2 i y d9 hy
     ·obtain rfl:i=j:=by omega
      rw [c3.o.1] at hy;injection hy with hy
      rw [←hy];exact a7
    clear a7;go_wp2;go_roundw
    case rel=>exact⟨j+1,by simp,by omega,trivial,e5.o⟩
    case measure=>simp [RowKit.intOf];omega
   ·have e1:(x==(j:Int))=false:=by simpa using a7
    have e2:(x !=(j:Int))=true:=by simpa using a7
    have b2:Aside (R=2):=c0.o.2 fun h=>a7 (h.1 j x (by rw [LA.o];exact c3.o.1))
    clear a7;go_wp2
    go_ret
    exact⟨by rw [b2.o];rfl,bw.o _ c1.o⟩
end
end Go.Proofs.YtealgacfnbbgdaaGreatDoor
namespace Go.Proofs.YtealgacfnbbgdaaGreatDoor
open Go.RowKit Go.Big
variable {fr:Nat × Nat} {e:TypeId} {k:Nat} {w:Wo}
attribute [local go_sem] Heavy.uponW
def OC:Value:=.agg #[.int .i64 0,.bool false,.slice none 0 0,.slice none 0 0,.string { data:=#[] },.int .i64 0]
def Kc (v nm b s1 s2 s3:Value) (w:Wo):
  Cz 37 #[.agg #[.int .i64 1,v,nm,b,s1,s2,s3]] w fun e w'=>e= .returned OC∧Bz w w':=by
 go_enter Tryz.func37,Tryz.ntmps37;go_wp2;refine rN (sV rfl _ _ (w.heap.size+1) 35 _ _ _ rfl (tI w _ _).2.2.1 Tryz.underlying35 rfl (by kernel_rfl)) rfl ?_;exact⟨rfl,(tI w _ _).1⟩
def Fw (v nm b s1 s2 s3:Value) (w:Wo):
  Cz 16 #[.agg #[.int .i64 1,v,nm,b,s1,s2,s3]] w fun e w'=>e= .returned OC∧Bz w w':=by
 go_enter Tryz.func16,Tryz.ntmps16;go_wp2;refine rN (sV rfl _ _ (w.heap.size+1) 35 _ _ _ rfl (tI w _ _).2.2.1 Tryz.underlying35 rfl (by kernel_rfl)) rfl ?_;exact⟨rfl,(tI w _ _).1⟩
def Fv (k:Int) (hk:k≠1) (v:Value) (nm:ByteArray) (g:Bool) (a1 a2 a:Option Addr) (l1 c1 l2 c2 l c:Nat) (w:Wo):
  Cz 16 #[.agg #[.int .i64 k,v,.string nm,.bool g,.slice a1 l1 c1,.slice a2 l2 c2,.slice a l c]] w fun e w'=>e= .returned (.agg #[.int .i64 k,.bool g,.slice a1 l1 c1,.slice a2 l2 c2,.string nm,.int .i64 l])∧Bz w w':=by
 have a8:(k==1)=false:=by simpa using hk
 clear hk;go_enter Tryz.func16,Tryz.ntmps16;go_wp2;refine rN (sV rfl _ _ (w.heap.size+1) 35 _ _ _ rfl (tI w _ _).2.2.1 Tryz.underlying35 rfl (by kernel_rfl)) rfl ?_;exact⟨rfl,(tI w _ _).1⟩
def Cj (w:Wo) (o1 o2 o3:Obj):Bz w (((w.alloc o1).alloc o2).alloc o3)∧(((w.alloc o1).alloc o2).alloc o3).heap[w.heap.size]?=some o1∧(((w.alloc o1).alloc o2).alloc o3).heap[w.heap.size+1]?=some o2∧(((w.alloc o1).alloc o2).alloc o3).heap[w.heap.size+1+1]?=some o3∧w.heap.size+3≤(((w.alloc o1).alloc o2).alloc o3).heap.size:=by
 obtain⟨b,q1,q2,hs⟩:=tI w o1 o2;have b3:=aC ((w.alloc o1).alloc o2) o3;have q3:=bY ((w.alloc o1).alloc o2) o3;have e:((w.alloc o1).alloc o2).heap.size=w.heap.size+1+1:=by simp
 rw [e] at q3 b3;exact⟨b.trans (b3.mono (by omega)),(b3.block w.heap.size (by omega)).trans q1,(b3.block (w.heap.size+1) (by omega)).trans q2,q3,by simp⟩
def Gy {x0 x1 x2 x3 x4 x5 a b c d f h':Value} (h:w.heap[k]?=some (.cells #[x0,x1,x2,x3,x4,x5] e fr)):
  ((((((w.setCell ⟨k,0,none⟩ a).setCell ⟨k,1,none⟩ b).setCell ⟨k,2,none⟩ c).setCell ⟨k,3,none⟩ d).setCell ⟨k,4,none⟩ f).setCell ⟨k,5,none⟩ h').heap[k]?=some (.cells #[a,b,c,d,f,h'] e fr):=by
 have h1:=pR (i:=0) (v:=a) h k;rw [if_pos rfl] at h1;have h2:=pR (i:=1) (v:=b) h1 k;rw [if_pos rfl] at h2;have h3:=pR (i:=2) (v:=c) h2 k;rw [if_pos rfl] at h3;have h4:=pR (i:=3) (v:=d) h3 k;rw [if_pos rfl] at h4;have h5:=pR (i:=4) (v:=f) h4 k;rw [if_pos rfl] at h5;have h6:=pR (i:=5) (v:=h') h5 k;rw [if_pos rfl] at h6;exact h6
def Ha {x y z b c:Value} (h:w.heap[k]?=some (.cells #[x,y,z] e fr)):((w.setCell ⟨k,1,none⟩ b).setCell ⟨k,2,none⟩ c).heap[k]?=some (.cells #[x,b,c] e fr):=by
 have h2:=pR (i:=1) (v:=b) h k;rw [if_pos rfl] at h2;have h3:=pR (i:=2) (v:=c) h2 k;rw [if_pos rfl] at h3;exact h3
def Kb (k:Int) (hk:k≠1) (v:Value) (nm:ByteArray) (g:Bool) (s1 s2:Value) (A C:List Nat) (n:Nat) (hA:A.length≤1048576) (hC:C.length≤1048576) (a:Option Addr) (l c:Nat) (w:Wo) (hn:n≤w.heap.size) (h:NumAt n w g s1 s2 A C):
  Cz 37 #[.agg #[.int .i64 k,v,.string nm,.bool g,s1,s2,.slice a l c]] w fun e w'=>∃b1 d1 b2 d2,e= .returned (.agg #[.int .i64 k,.bool g,.slice b1 A.length d1,.slice b2 C.length d2,.string nm,.int .i64 l])∧Bz w w':=by
 have a8:(k==1)=false:=by simpa using hk
 clear hk;obtain⟨⟨a1,c1,rfl,k1⟩,⟨a2,c2,rfl,k2⟩⟩:=h;obtain⟨l1,hl1⟩:=enm A.length;obtain⟨l2,hl2⟩:=enm C.length;rw [hl1,hl2];obtain⟨a0,q1,q2,q3,hsz⟩:=Cj w (Obj.cells #[.int .i64 k,v,.string nm,.bool g,.slice a1 l1 c1,.slice a2 l2 c2,.slice a l c] 27) (Obj.cells #[.int .i64 0,.bool false,.slice none 0 0,.slice none 0 0,.string { data:=#[] },.int .i64 0] 35) (Obj.cells #[.bool g,.slice a1 l1 c1,.slice a2 l2 c2] 24);go_enter Tryz.func37,Tryz.ntmps37
 go_upto_region 4 with fail
 generalize ((w.alloc (Obj.cells #[.int .i64 k,v,.string nm,.bool g,.slice a1 l1 c1,.slice a2 l2 c2,.slice a l c] 27)).alloc (Obj.cells #[.int .i64 0,.bool false,.slice none 0 0,.slice none 0 0,.string { data:=#[] },.int .i64 0] 35)).alloc (Obj.cells #[.bool g,.slice a1 l1 c1,.slice a2 l2 c2] 24)=wb at*;have i1:=k1.below a0 hn;have i2:=k2.below a0 hn;clear k1 k2
 go_cut [] from 10 to 17 (fun wx=>∃b1 d1 b2 d2,wx.heap[w.heap.size]?=some (.cells #[.int .i64 k,v,.string nm,.bool g,.slice a1 l1 c1,.slice a2 l2 c2,.slice a l c] 27 (0,0))∧wx.heap[w.heap.size+1]?=some (.cells #[.int .i64 0,.bool false,.slice none 0 0,.slice none 0 0,.string { data:=#[] },.int .i64 0] 35 (0,0))∧wx.heap[w.heap.size+1+1]?=some (.cells #[.bool g,.slice b1 l1 d1,.slice b2 l2 d2] 24 (0,0))∧Bz w wx)
 case first=>
  have fc:∀w2,Bz wb w2→w2.cell? ⟨w.heap.size+1+1,1,none⟩=some (.slice a1 l1 c1)∧w2.cell? ⟨w.heap.size+1+1,2,none⟩=some (.slice a2 l2 c2):=fun w2 hb=>by
   have:=(hb.block (w.heap.size+1+1) (by omega)).trans q3;simp [World.cell?,this]
  have a5:Bz wb { wb with drawn:=wb.drawn+1 }:=⟨rfl,rfl,rfl,aA _,fun _ _=>rfl⟩;have n1:=fun w' (hb:Bz wb w')=>vJ (.slice a1 l1 c1) n A hA w' (by have:=hb.size;have:=a0.size;omega) ⟨a1,c1,by rw [hl1],i1.below hb (by have:=a0.size;omega)⟩
  have n2:=fun w' (hb:Bz wb w')=>vJ (.slice a2 l2 c2) n C hC w' (by have:=hb.size;have:=a0.size;omega) ⟨a2,c2,by rw [hl2],i2.below hb (by have:=a0.size;omega)⟩
  refine Heavy.region_plan (Bz wb) 7 (Heavy.lights [0,1,3,4] (.one 2 (.light 6 (.one 5 .done)))) (by kernel_rfl) (by kernel_rfl) a5 ?_;simp only [Heavy.lights,gL,iJ,gS,gB]
  iterate 4 (apply Heavy.light_n;(exact rfl);(exact rfl);(intro a7 hw;have x0:=(fc a7 hw).1;have x1:=(fc a7 hw).2;go_simp;exact rfl))
  apply Heavy.one_n
  ·exact rfl
  ·exact rfl
  go_simp
  refine(n1 _ a5).mono ?_;rintro e w3 ⟨t1,rfl,⟨b1,d1,rfl,hN3⟩,hb3⟩;have a4:Bz wb w3:=a5.trans hb3;refine⟨_,rfl,a4,?_⟩;apply Heavy.light_n
  ·exact rfl
  ·exact rfl
  ·intro a7 hw
   go_simp
   exact rfl
  apply Heavy.one_n
  ·exact rfl
  ·exact rfl
  go_simp
  refine(n2 _ a4).mono ?_;rintro e w4 ⟨t2,rfl,⟨b2,d2,rfl,hN4⟩,hb4⟩;have a3:=a4.trans (hb4.mono a4.size);refine⟨_,rfl,a3,?_⟩;apply Heavy.plan_end;show wpList _ _ _ _ _ _;have r1:=(a3.block w.heap.size (by omega)).trans q1;have r2:=(a3.block (w.heap.size+1) (by omega)).trans q2;have r3:=(a3.block (w.heap.size+1+1) (by omega)).trans q3;obtain⟨b0,d2',z1,z2⟩:w4.cell? ⟨w.heap.size+1+1,1,none⟩=some (.slice a1 l1 c1)∧w4.cell? ⟨w.heap.size+1+1,2,none⟩=some (.slice a2 l2 c2)∧
    w4.frozen? ⟨w.heap.size+1+1,1,none⟩=false∧w4.frozen? ⟨w.heap.size+1+1,2,none⟩=false:=by
   simp [World.cell?,World.frozen?,r3]
  go_wp2
  go_meet
  have hk:∀j,j≠w.heap.size+1+1→((w4.setCell ⟨w.heap.size+1+1,1,none⟩ (.slice b1 l1 d1)).setCell ⟨w.heap.size+1+1,2,none⟩ (.slice b2 l2 d2)).heap[j]?=w4.heap[j]?:=fun j hj=>by
   rw [iQ _ _ _ _ hj,iQ _ _ _ _ hj]
  have a9:∀(i:Nat) (x:Int),(#[Value.bool g,.slice a1 l1 c1,.slice a2 l2 c2]:Array Value)[i]?≠some (.int .u32 x):=by
   intro i x;rcases i with _|_|_|i<;>simp
  refine⟨b1,d1,b2,d2,?_,?_,Ha r3,?_⟩
  ·rw [hk _ (by omega)];exact r1
  ·rw [hk _ (by omega)];exact r2
  ·refine a0.trans ((a3.mono a0.size).trans ?_);exact(pY _ _ _ _ _ (by omega)).trans (pY _ _ _ _ _ (by omega))
 case rest=>
  obtain⟨b1,d1,b2,d2,r1,r2,r3,hB⟩:=hcut;obtain⟨x0,x1,x2,x3,x4,x5,x6⟩:=dZ r1;obtain⟨y0,y1,y2,y3,y4,y5,z0,z1,z2,z3,z4,z5⟩:wc.cell? ⟨w.heap.size+1,0,none⟩=some (.int .i64 0)∧wc.cell? ⟨w.heap.size+1,1,none⟩=some (.bool false)∧wc.cell? ⟨w.heap.size+1,2,none⟩=some (.slice none 0 0)∧wc.cell? ⟨w.heap.size+1,3,none⟩=some (.slice none 0 0)∧wc.cell? ⟨w.heap.size+1,4,none⟩=some (.string { data:=#[] })∧wc.cell? ⟨w.heap.size+1,5,none⟩=some (.int .i64 0)∧
    wc.frozen? ⟨w.heap.size+1,0,none⟩=false∧wc.frozen? ⟨w.heap.size+1,1,none⟩=false∧wc.frozen? ⟨w.heap.size+1,2,none⟩=false∧wc.frozen? ⟨w.heap.size+1,3,none⟩=false∧wc.frozen? ⟨w.heap.size+1,4,none⟩=false∧wc.frozen? ⟨w.heap.size+1,5,none⟩=false:=by
   simp [World.cell?,World.frozen?,r2]
  obtain⟨v0,v1,v2⟩:wc.cell? ⟨w.heap.size+1+1,0,none⟩=some (.bool g)∧wc.cell? ⟨w.heap.size+1+1,1,none⟩=some (.slice b1 l1 d1)∧wc.cell? ⟨w.heap.size+1+1,2,none⟩=some (.slice b2 l2 d2):=by
   simp [World.cell?,r3]
  go_wp2;have a6:=Gy (a:=.int .i64 k) (b:=.bool g) (c:=.slice b1 l1 d1) (d:=.slice b2 l2 d2) (f:=.string nm) (h':=.int .i64 l) r2;refine rN (sV rfl _ _ (w.heap.size+1) 35 _ _ _ rfl a6 Tryz.underlying35 rfl (by kernel_rfl)) rfl ?_;have hk:∀j,j≠w.heap.size+1→((((((wc.setCell ⟨w.heap.size+1,0,none⟩ (.int .i64 k)).setCell ⟨w.heap.size+1,1,none⟩ (.bool g)).setCell ⟨w.heap.size+1,2,none⟩ (.slice b1 l1 d1)).setCell ⟨w.heap.size+1,3,none⟩ (.slice b2 l2 d2)).setCell ⟨w.heap.size+1,4,none⟩ (.string nm)).setCell ⟨w.heap.size+1,5,none⟩ (.int .i64 l)).heap[j]?=wc.heap[j]?:=fun j hj=>by
   rw [iQ _ _ _ _ hj,iQ _ _ _ _ hj,iQ _ _ _ _ hj,iQ _ _ _ _ hj,iQ _ _ _ _ hj,iQ _ _ _ _ hj]
  have a9:∀(i:Nat) (x:Int),(#[Value.int .i64 0,.bool false,.slice none 0 0,.slice none 0 0,.string { data:=#[] },.int .i64 0]:Array Value)[i]?≠some (.int .u32 x):=by
   intro i x;rcases i with _|_|_|_|_|_|i<;>simp
  refine⟨_,_,_,_,rfl,?_⟩
  ·refine hB.trans ?_;exact(pY _ _ _ _ _ (by omega)).trans ((pY _ _ _ _ _ (by omega)).trans ((pY _ _ _ _ _ (by omega)).trans ((pY _ _ _ _ _ (by omega)).trans ((pY _ _ _ _ _ (by omega)).trans (pY _ _ _ _ _ (by omega))))))
end Go.Proofs.YtealgacfnbbgdaaGreatDoor
namespace Go.Proofs.YtealgacfnbbgdaaGreatDoor
open Go.RowKit Go.Big Go.RowsK Go.MapK
variable {L:List Tm} {v:Value} {T:Tm} {kc:Lv}
attribute [local go_sem] Heavy.uponW
def dT:Tm→Int × ByteArray × Int
 | .mk k _ nm _ _ _ args=>if k=1 then(0,⟨#[]⟩,0) else(k,nm,(args.length:Nat))
def KeyC (T:Tm) (kc:Lv):Prop:=∃g a b c d e f,kc= [.int .i64 (dT T).1,.bool g,.slice a b c,.slice d e f,.string (dT T).2.1,.int .i64 (dT T).2.2]
def KeyX:List Tm→Lv→Prop
 | [],X=>X= []
 |T::r,X=>∃kc Y,X=kc++Y∧KeyC T kc∧KeyX r Y
def KeyC.len (h:KeyC T kc):kc.length=6:=by obtain⟨_,_,_,_,_,_,_,rfl⟩:=h;rfl
def KeyC.one (h:KeyC T kc):∀u∈kc,u.oneCell'=true:=by obtain⟨_,_,_,_,_,_,_,rfl⟩:=h;simp [Value.oneCell']
def KeyX.app:∀{L M:List Tm} {X Y:Lv},KeyX L X→KeyX M Y→KeyX (L++M) (X++Y)
 | [],_,_,_,h,h2=>by simp only [KeyX] at h;subst h;exact h2
 |T::r,_,_,_,h,h2=>by
  simp only [KeyX] at h;obtain⟨kc,Z,rfl,h1,h3⟩:=h;simp only [mF,KeyX];exact⟨kc,_,iP _ _ _,h1,KeyX.app h3 h2⟩
def KeyX.get:∀{L:List Tm} {X:Lv} {k:Nat} {T:Tm},KeyX L X→L[k]?=some T→∃kc,KeyC T kc∧∀(j:Nat) u,kc[j]?=some u→X[k*6+j]?=some u
 | [],_,_,_,_,hk=>by simp at hk
 |T0::r,X,0,T,h,hk=>by
  simp only [KeyX] at h;obtain⟨kc,Z,rfl,h1,h3⟩:=h;simp at hk;subst hk;exact⟨kc,h1,fun j u hj=>by rw [wK,dH,gM (aZ.1 hj).1];exact hj⟩
 | T0::r,X,k+1,T,h,hk=>by
  simp only [KeyX] at h;obtain⟨kc,Z,rfl,h1,h3⟩:=h;obtain⟨a0,h4,h5⟩:=KeyX.get h3 (by simpa using hk);have hl:=h1.len;exact⟨a0,h4,fun j u hj=>by
   rw [iE (by omega),hl,show(k+1)*6+j-6=k*6+j by omega];exact h5 j u hj⟩
def OutK (base:Nat) (w:Wo) (v:Value) (L:List Tm):Prop:=∃X,w.ownsRow base 35 6 v L.length X∧KeyX L X
def OutK.below {base m:Nat} {w w':Wo} (h:OutK base w v L) (hb:Below m w w') (hm:w.heap.size≤m):OutK base w' v L:=by
 obtain⟨X,h1,h2⟩:=h;exact⟨X,jF h1 hb hm,h2⟩
def OutK.nil (base:Nat) (w:Wo):OutK base w (.slice none 0 0) []:=⟨[],qD _ _ _ _,rfl⟩
def OutK.readK {base:Nat} {w:Wo} (h:OutK base w v L):∃a c,v= .slice a L.length c∧∀(k:Nat) T,L[k]?=some T→∃g kc,a=some ⟨g,0,none⟩∧base≤g∧g<w.heap.size∧KeyC T kc∧∀(j:Nat) u,kc[j]?=some u→w.cell? ⟨g,k*6+j,none⟩=some u:=by
 obtain⟨X,h1,h2⟩:=h;obtain⟨a,c,rfl,hr⟩:=gZ h1;refine⟨a,c,rfl,fun k T hk=>?_⟩;obtain⟨kc,hv,hx⟩:=h2.get hk;rcases hr with h0|⟨g,rfl,hb,hg,hc⟩
 ·have:=(aZ.1 hk).1;omega
 ·exact⟨g,kc,rfl,hb,hg,hv,fun j u hj=>hc _ u (hx j u hj)⟩
def zKey:Value:=.agg #[.int .i64 0,.bool false,.slice none 0 0,.slice none 0 0,.string ⟨#[]⟩,.int .i64 0]
def elKey:El Tryz.prog 30 35 6 88 zKey:=⟨Tryz.underlying30,by
  obtain⟨i0,h1,h2,h3,h4⟩:=pI (show(Tryz.prog.info? 35).map (fun i=>(i.zero,i.size,i.bytes))=some (some zKey,6,88) by kernel_rfl);exact⟨i0,h1,h2,h3,h4⟩,rfl,by decide⟩
def KeyP (w:Wo) (T:Tm) (e:Ending) (w':Wo):Prop:=∃kc,e= .returned (.agg kc.toArray)∧KeyC T kc∧Bz w w'
def Hf (T:Tm) (n:Nat) (w:Wo) (vs:Lv) (h:TmV n w T vs) (hn:n≤w.heap.size):Cz 37 #[.agg vs.toArray] w (KeyP w T):=by
 obtain⟨k,v,nm,g,num,den,args⟩:=T;simp only [TmV] at h;obtain⟨s1,s2,a,c,rfl,hN,_,_,h1,h2⟩:=h
 by_cases hk:k=1
 ·subst hk;refine(Kc (.int .i64 v) (.string nm) (.bool g) s1 s2 (.slice a args.length c) w).mono ?_;rintro e w' ⟨rfl,hb⟩;exact⟨_,rfl,⟨false,none,0,0,none,0,0,rfl⟩,hb⟩
 ·refine(Kb k hk (.int .i64 v) nm g s1 s2 num den n h1 h2 a args.length c w hn hN).mono ?_;rintro e w' ⟨b1,d1,b2,d2,rfl,hb⟩;refine⟨[.int .i64 k,.bool g,.slice b1 num.length d1,.slice b2 den.length d2,.string nm,.int .i64 (args.length:Nat)],rfl,⟨g,b1,num.length,d1,b2,den.length,d2,?_⟩,hb⟩;simp only [dT,if_neg hk]
def Fu (T:Tm) (n:Nat) (w:Wo) (vs:Lv) (h:TmV n w T vs) (hn:n≤w.heap.size):Cz 16 #[.agg vs.toArray] w (KeyP w T):=by
 obtain⟨k,v,nm,g,num,den,args⟩:=T;simp only [TmV] at h;obtain⟨s1,s2,a,c,rfl,⟨⟨p1,q1,rfl,_⟩,⟨p2,q2,rfl,_⟩⟩,_⟩:=h
 by_cases hk:k=1
 ·subst hk;refine(Fw (.int .i64 v) (.string nm) (.bool g) _ _ (.slice a args.length c) w).mono ?_;rintro e w' ⟨rfl,hb⟩;exact⟨_,rfl,⟨false,none,0,0,none,0,0,rfl⟩,hb⟩
 ·refine(Fv k hk (.int .i64 v) nm g p1 p2 a num.length q1 den.length q2 args.length c w).mono ?_;rintro e w' ⟨rfl,hb⟩;refine⟨[.int .i64 k,.bool g,.slice p1 num.length q1,.slice p2 den.length q2,.string nm,.int .i64 (args.length:Nat)],rfl,⟨g,p1,num.length,q1,p2,den.length,q2,?_⟩,hb⟩;simp only [dT,if_neg hk]
