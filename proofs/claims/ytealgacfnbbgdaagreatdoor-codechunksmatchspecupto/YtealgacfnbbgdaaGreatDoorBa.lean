/- Lemmas; no condition. -/
import Derived.Test.YtealgacfnbbgdaaGreatDoorAz
set_option linter.all false
set_option maxHeartbeats 8000000
set_option maxRecDepth 100000
namespace Go.Proofs.YtealgacfnbbgdaaGreatDoor
open Go.RowKit Go.Big Go.RowsK Go.MapK
attribute [local go_sem] Heavy.uponW
def six0 {w w2:Wo} {b o:Nat} {v0 v1 v2 v3 v4 v5:Value} (hx:∀p:Addr,p.block=b→w2.cell? p=w.cell? p) (hc:∀(j:Nat) u,[v0,v1,v2,v3,v4,v5][j]?=some u→w.cell? ⟨b,o+j,none⟩=some u):
  w2.cell? ⟨b,o,none⟩=some v0∧w2.cell? ⟨b,o+4,none⟩=some v4∧w2.cell? ⟨b,o+5,none⟩=some v5:=
 ⟨(hx _ rfl).trans (hc 0 _ rfl),(hx _ rfl).trans (hc 4 _ rfl),(hx _ rfl).trans (hc 5 _ rfl)⟩
def Js (bi:ByteArray→Int→Bool) (C:Cl) (n:Nat) (w:Wo) (vs:Lv) (h:ClV n w C vs) (hn:n≤w.heap.size) (d6:BiOk 79 bi w) (d7:BiOk 80 bi w)
  (a9:∀w',Bz w w'→Cz 12 #[] w' fun e i3=>e= .returned (.bool true)∧Bz w' i3):
  Cz 3 #[.agg vs.toArray] w fun e w'=>e= .returned (.bool true)∧Bz w w':=by
 have g7:=aside a9;obtain⟨F,hF⟩:∃f,dK C=f:=⟨_,rfl⟩;obtain⟨F2,hF2⟩:∃f:Int,(if F=0 then(if C.b.pl=true then 0 else 13) else F)=f:=⟨_,rfl⟩;obtain⟨HL,hHL⟩:∃L,(if F=0 then C.h.argsOf else [])=L:=⟨_,rfl⟩;obtain⟨LL,hLL⟩:∃L,(if F=0∧C.b.pl=true then eS (Tm.cal bi) C.h C.b.gls else [])=L:=⟨_,rfl⟩;obtain⟨PL,hPL⟩:∃L,(if F=0 then sF bi C else [])=L:=⟨_,rfl⟩;have c4:Aside (∀w2,Bz w w2→Cz 4 #[.agg vs.toArray] w2 (KHR w2 F HL)):=by
  show∀w2,_;intro w2 hb;rw [←hHL,←hF];exact(Hs C n w2 vs (h.below hb hn) (aE hn hb.size)).mono fun e w' h=>h.rd
 have c5:Aside (∀w2,Bz w w2→Cz 5 #[.agg vs.toArray] w2 (KHR w2 F HL)):=by
  show∀w2,_;intro w2 hb;rw [←hHL,←hF];exact(Gw C n w2 vs (h.below hb hn) (aE hn hb.size)).mono fun e w' h=>h.rd
 have c6:Aside (∀w2,Bz w w2→Cz 6 #[.agg vs.toArray] w2 (KCR w2 F2 LL)):=by
  show∀w2,_;intro w2 hb;rw [←hLL,←hF2,←hF];exact(Ht bi C n w2 vs (h.below hb hn) (aE hn hb.size) (d6.mono hb) rG FK).mono fun e w' h=>h.rd
 have c7:Aside (∀w2,Bz w w2→Cz 7 #[.agg vs.toArray] w2 (KCR w2 F2 LL)):=by
  show∀w2,_;intro w2 hb;rw [←hLL,←hF2,←hF];exact(Gx bi C n w2 vs (h.below hb hn) (aE hn hb.size) (d7.mono hb) rG FK).mono fun e w' h=>h.rd
 have c9:Aside (∀w2,Bz w w2→Cz 9 #[.agg vs.toArray] w2 (PmR w2 F PL)):=by
  show∀w2,_;intro w2 hb;rw [←hPL,←hF];exact(Hr bi C n w2 vs (h.below hb hn) (aE hn hb.size) (d6.mono hb)).mono fun e w' h=>h.rd
 have b7:Aside (∀w2,Bz w w2→Cz 10 #[.agg vs.toArray] w2 (PmR w2 F PL)):=by
  show∀w2,_;intro w2 hb;rw [←hPL,←hF];exact(Gv bi C n w2 vs (h.below hb hn) (aE hn hb.size) (d7.mono hb)).mono fun e w' h=>h.rd
 have g9:HL.length≤1000000:=by
  rw [←hHL];split
  ·rename_i e;exact Qd (hF.trans e)
  ·simp
 have h2:Aside (PL.length≤1000000):=by
  show _≤_;rw [←hPL];split
  ·rename_i e;exact Hj (hF.trans e)
  ·simp
 have h1:LL.length≤1000001:=by
  rw [←hLL];split
  ·rename_i e;exact FJ C.b (rG (hF.trans e.1))
  ·simp
 have e8:Aside (∀(i:Nat) L,LL[i]?=some L→L.length≤20000∧∀(j:Nat) T,L[j]?=some T→Fine T):=by
  show∀i L,_;intro i L hL;rw [←hLL] at hL;split at hL
  ·rename_i e;have h0:=hF.trans e.1;obtain⟨_,p2,_⟩:=JE h0 hL;exact⟨by have:=xK L;omega,fun j T hT=>Lx h0 hL hT⟩
  ·simp at hL
 obtain⟨vh,vb,rfl,hH,hB⟩:=h;obtain⟨kx,vx,nmx,gx,px,nx,qx,rx,mx,ux,ax,lx,cx,rfl⟩:=TmV.seven hH;obtain⟨ky,vy,nmy,gy,py,ny,qy,ry,my,uy,ay,ly,cy,rfl⟩:=TmV.seven hB;obtain⟨vars,hvars⟩:∃v,C.vars=v:=⟨_,rfl⟩;rw [hvars] at c4 c5 c6 c7 c9 b7 ⊢;have b0:=aC w (Obj.cells (tC kx vx nmx gx px nx qx rx mx ux ax lx cx ky vy nmy gy py ny qy ry my uy ay ly cy vars) 29);have hq:=bY w (Obj.cells (tC kx vx nmx gx px nx qx rx mx ux ax lx cx ky vy nmy gy py ny qy ry my uy ay ly cy vars) 29);obtain⟨wa,hwa⟩:∃x,w.alloc (Obj.cells (tC kx vx nmx gx px nx qx rx mx ux ax lx cx ky vy nmy gy py ny qy ry my uy ay ly cy vars) 29)=x:=⟨_,rfl⟩;have h8:wa.heap.size=w.heap.size+1:=by rw [←hwa];simp
 rw [hwa] at b0 hq;have a8:Aside (∀w2,Bz wa w2→Bz w w2):=fun w2 hb=>b0.trans (hb.mono b0.size)
 have fa:Aside (∀w2,Bz wa w2→_):=fun(w2:Wo) (hb:Bz wa w2)=>jK ((hb.block w.heap.size (by omega)).trans hq)
 have i2:Aside (Bz wa wa):=aK _ _;obtain⟨x0,x1,x2,x3,x4,x5,x6,x7,x8,x9,x10,x11,x12,x13,x14⟩:=jK hq;clear hH hB hvars hF hF2 hHL hLL hPL b0 hq hn a9 h8 d6 d7;replace c4:Aside (∀w2,Bz w w2→Cz 4 #[.agg (tC kx vx nmx gx px nx qx rx mx ux ax lx cx ky vy nmy gy py ny qy ry my uy ay ly cy vars)] w2 (KHR w2 F HL)):=c4;replace c5:Aside (∀w2,Bz w w2→Cz 5 #[.agg (tC kx vx nmx gx px nx qx rx mx ux ax lx cx ky vy nmy gy py ny qy ry my uy ay ly cy vars)] w2 (KHR w2 F HL)):=c5;replace c6:Aside (∀w2,Bz w w2→Cz 6 #[.agg (tC kx vx nmx gx px nx qx rx mx ux ax lx cx ky vy nmy gy py ny qy ry my uy ay ly cy vars)] w2 (KCR w2 F2 LL)):=c6;replace c7:Aside (∀w2,Bz w w2→Cz 7 #[.agg (tC kx vx nmx gx px nx qx rx mx ux ax lx cx ky vy nmy gy py ny qy ry my uy ay ly cy vars)] w2 (KCR w2 F2 LL)):=c7;replace c9:Aside (∀w2,Bz w w2→Cz 9 #[.agg (tC kx vx nmx gx px nx qx rx mx ux ax lx cx ky vy nmy gy py ny qy ry my uy ay ly cy vars)] w2 (PmR w2 F PL)):=c9;replace b7:Aside (∀w2,Bz w w2→Cz 10 #[.agg (tC kx vx nmx gx px nx qx rx mx ux ax lx cx ky vy nmy gy py ny qy ry my uy ay ly cy vars)] w2 (PmR w2 F PL)):=b7;show Cz 3 #[.agg (tC kx vx nmx gx px nx qx rx mx ux ax lx cx ky vy nmy gy py ny qy ry my uy ay ly cy vars)] w _;go_enter Tryz.func3,Tryz.ntmps3
 go_upto_region 1 with fail
 try rw [hwa]
 clear hwa
 go_upto_region 2 with(go_at_call 4;(with_reducible refine(c4.o _ (a8.o _ i2.o)).mono ?_);rintro e w2 ⟨a7,v2,rfl,d8⟩)
 clear x0 x1 x2 x3 x4 x5 x6 x7 x8 x9 x10 x11 x12 x13 x14;obtain⟨x0,x1,x2,x3,x4,x5,x6,x7,x8,x9,x10,x11,x12,x13,x14⟩:=fa.o w2 a7;have c0:=aside a7;clear a7
 go_upto_region 3 with(go_at_call 5;(with_reducible refine(c5.o _ (a8.o _ c0.o)).mono ?_);rintro e w3 ⟨d0,v3,rfl,hk3⟩)
 clear x0 x1 x2 x3 x4 x5 x6 x7 x8 x9 x10 x11 x12 x13 x14;have e9:Aside (Bz wa w3):=c0.o.trans (d0.mono c0.o.size);have d8:=d8.below d0;clear d0;obtain⟨lh,hlh⟩:∃l,HL.length=l:=⟨_,rfl⟩;obtain⟨a2,c2,rfl,k2⟩:=d8;obtain⟨a3,c3,rfl,k3⟩:=hk3;have d9:=aside k2;have e0:=aside k3;have f9:=aside hlh;rw [hlh] at g9 ⊢;clear k2 k3 hlh;go_wp2
 go_loopw [7] (fun s wr=>∃i:Nat,s= .int .i64 i∧i≤lh∧Bz w3 wr) (fun s _=>lh-(RowKit.intOf s).toNat)
 case atStart=>exact⟨0,rfl,cJ _,aK _ _⟩
 case round=>
  obtain⟨wo,rfl⟩:=enr wr;obtain⟨i,rfl,hi,hBo⟩:=hrel
  by_cases f5:i<lh
  ·obtain⟨T,hT⟩:∃T,HL[i]?=some T:=⟨_,cE (by rw [f9.o];exact f5)⟩;obtain⟨g1,kc1,rfl,hg1,hK1,hc1⟩:=d9.o i T hT;obtain⟨g2,kc2,rfl,hg2,hK2,hc2⟩:=e0.o i T hT;obtain⟨q1,q2,q3,q4,q5,q6,q7,rfl⟩:=hK1;obtain⟨p1,p2,p3,p4,p5,p6,p7,rfl⟩:=hK2;have c8:Bz w3 wo.drew:=hBo.trans ⟨rfl,rfl,rfl,aA _,fun _ _=>rfl⟩;obtain⟨y0,y4,y5⟩:=six0 (w:=w3) (w2:=wo.drew) (b:=g1) (o:=i*6) (fun p hp=>c8.cell (by rw [hp];exact hg1)) hc1;obtain⟨z0,z4,z5⟩:=six0 (w:=w3) (w2:=wo.drew) (b:=g2) (o:=i*6) (fun p hp=>c8.cell (by rw [hp];exact hg2)) hc2;obtain⟨h5,hi0,hwi⟩:=elt (i:=i) (n:=lh) (by omega) (by omega);obtain⟨K1,hK1⟩:∃k,(dT T).1=k:=⟨_,rfl⟩;obtain⟨K2,hK2⟩:∃k,(dT T).2.1=k:=⟨_,rfl⟩;obtain⟨K3,hK3⟩:∃k,(dT T).2.2=k:=⟨_,rfl⟩;rw [hK1] at y0 z0;rw [hK2] at y4 z4;rw [hK3] at y5 z5;clear hT hg1 hg2 hc1 hc2 hK1 hK2 hK3 d9 e0;go_wp2;refine lV 36 (by kernel_rfl) (by kernel_rfl) ?_;simp only [gL,iJ,gS,gB,lY]
   repeat (with_reducible refine kT (fun K hK=>?_);go_simp;with_reducible refine hK _ ?_;clear hK K)
   refine lW ?_;show wpList _ _ _ _ _ _;go_wp2;exact⟨⟨i+1,by simp,by omega,c8⟩,by simp [RowKit.intOf];omega⟩
  obtain rfl:i=lh:=by omega
  have b2:Aside (Bz wa wo):=e9.o.trans (hBo.mono e9.o.size);clear hBo f5 hi d9 e0 f9;obtain⟨x0,x1,x2,x3,x4,x5,x6,x7,x8,x9,x10,x11,x12,x13,x14⟩:=fa.o wo b2.o
  go_upto_region 11 with(go_at_call 6;(with_reducible refine(c6.o _ (a8.o _ b2.o)).mono ?_);rintro e w4 ⟨d1,v4,rfl,b9⟩)
  clear x0 x1 x2 x3 x4 x5 x6 x7 x8 x9 x10 x11 x12 x13 x14;obtain⟨x0,x1,x2,x3,x4,x5,x6,x7,x8,x9,x10,x11,x12,x13,x14⟩:=fa.o w4 (b2.o.trans (d1.mono b2.o.size));have c1:Aside (Bz wa w4):=b2.o.trans (d1.mono b2.o.size);clear d1
  go_upto_region 12 with(go_at_call 7;(with_reducible refine(c7.o _ (a8.o _ c1.o)).mono ?_);rintro e w5 ⟨d2,v5,rfl,hk5⟩)
  clear x0 x1 x2 x3 x4 x5 x6 x7 x8 x9 x10 x11 x12 x13 x14;have f0:Aside (Bz wa w5):=c1.o.trans (d2.mono c1.o.size);have b9:=b9.below d2;clear d2;obtain⟨lv,hlv⟩:∃l,LL.length=l:=⟨_,rfl⟩;have e7:=aside2 b9 hk5;obtain⟨a4,c4',rfl,_⟩:=b9;obtain⟨a5,c5',rfl,_⟩:=hk5;have h9:=aside hlv;rw [hlv] at h1 e7 ⊢;clear hlv;go_wp2
  go_loopw [10] (fun s wr=>∃m:Nat,s= .int .i64 m∧m≤lv∧Bz w5 wr) (fun s _=>lv-(RowKit.intOf s).toNat)
  case atStart=>exact⟨0,rfl,cJ _,aK _ _⟩
  case round=>
   obtain⟨wp,rfl⟩:=enr wr;obtain⟨m,rfl,hm,hBp⟩:=hrel;have f3:=aside hBp;clear hBp
   by_cases f8:m<lv
   ·obtain⟨L,hL⟩:∃L,LL[m]?=some L:=⟨_,cE (by rw [h9.o];exact f8)⟩;obtain⟨⟨_,_,e1,s1⟩,⟨_,_,e2,s2⟩⟩:=e7.o;injection e1 with e1 e3 e4
    injection e2 with e2 e5 e6
    subst e1;subst e2;obtain⟨g4,b4,d4,rfl,hg4,y4,t4⟩:=s1 m L hL;obtain⟨g5,b5,d5,rfl,hg5,y5,t5⟩:=s2 m L hL;obtain⟨lm,hlm⟩:∃l,L.length=l:=⟨_,rfl⟩;obtain⟨h7,hr2⟩:=e8.o m L hL;have g0:=aside2 hlm hr2;rw [hlm] at y4 y5 h7;have b8:Aside (∀w',Bz w5 w'→w'.cell? ⟨g4,m,none⟩=some (.slice b4 lm d4)∧w'.cell? ⟨g5,m,none⟩=some (.slice b5 lm d5)):=fun w' hb=>⟨(hb.cell (p:=⟨g4,m,none⟩) hg4).trans y4,(hb.cell (p:=⟨g5,m,none⟩) hg5).trans y5⟩
    have g8:Aside (∀(k:Nat) T,L[k]?=some T→(∃q vs,b4=some ⟨q,0,none⟩∧q<w5.heap.size∧TmV w5.heap.size w5 T vs∧∀(j:Nat) u,vs[j]?=some u→w5.cell? ⟨q,k*7+j,none⟩=some u)∧(∃q vs,b5=some ⟨q,0,none⟩∧q<w5.heap.size∧TmV w5.heap.size w5 T vs∧∀(j:Nat) u,vs[j]?=some u→w5.cell? ⟨q,k*7+j,none⟩=some u)):=fun k T hk=>⟨t4 k T hk,t5 k T hk⟩
    obtain⟨h6,hm0,hwm⟩:=elt (i:=m) (n:=lv) (by omega) (by omega);have f2:Aside (Bz w5 wp.drew):=f3.o.trans ⟨rfl,rfl,rfl,aA _,fun _ _=>rfl⟩;obtain⟨z4,z5⟩:=b8.o _ f2.o;clear hL s1 s2 e3 e4 e5 e6 hg4 hg5 y4 y5 t4 t5 hlm hr2;go_wp2;refine lV 10 (by kernel_rfl) (by kernel_rfl) ?_;simp only [gL,iJ,gS,gB,lY]
    repeat (with_reducible refine kT (fun K hK=>?_);go_simp;with_reducible refine hK _ ?_;clear hK K)
    refine lW ?_;show wpList _ _ _ _ _ _;go_wp2;clear z4 z5
    go_loopw [11] (fun s wr=>∃j:Nat,s= .int .i64 j∧j≤lm∧Bz w5 wr) (fun s _=>lm-(RowKit.intOf s).toNat)
    case atStart=>exact⟨0,rfl,cJ _,f2.o⟩
    case round=>
     obtain⟨wq,rfl⟩:=enr wr;obtain⟨j,rfl,hj,hBq⟩:=hrel;have a0:=aside hBq;clear hBq;obtain⟨z4,z5⟩:=b8.o _ a0.o
     by_cases h3:j<lm
     ·obtain⟨T,hT⟩:∃T,L[j]?=some T:=⟨_,cE (by rw [g0.o.1];exact h3)⟩;obtain⟨⟨q1,vs1,rfl,hq1,hT1,hc1⟩,⟨q2,vs2,rfl,hq2,hT2,hc2⟩⟩:=g8.o j T hT;have a1:=g0.o.2 j T hT;have n1:∀w2,Bz wq w2→Cz 8 #[.agg vs1.toArray] w2 fun e w'=>e= .returned (.string (cK (nT T)))∧Bz w2 w':=fun w2 hb=>by
       have a7:=a0.o.trans (hb.mono a0.o.size);exact TG T w5.heap.size w2 vs1 (TmV.below a7 (aA _) _ _ hT1) a7.size a1
      have n2:∀w2,Bz wq w2→Cz 8 #[.agg vs2.toArray] w2 fun e w'=>e= .returned (.string (cK (nT T)))∧Bz w2 w':=fun w2 hb=>by
       have a7:=a0.o.trans (hb.mono a0.o.size);exact TG T w5.heap.size w2 vs2 (TmV.below a7 (aA _) _ _ hT2) a7.size a1
      obtain⟨sT,hsT⟩:∃s,cK (nT T)=s:=⟨_,rfl⟩;rw [hsT] at n1 n2;obtain⟨i5,vx1,nmx1,gx1,px1,nx1,qx1,rx1,mx1,ux1,ax1,lx1,cx1,rfl⟩:=TmV.seven hT1;obtain⟨i6,vx2,nmx2,gx2,px2,nx2,qx2,rx2,mx2,ux2,ax2,lx2,cx2,rfl⟩:=TmV.seven hT2;have i0:=aside n1;have i1:=aside n2;have ta:Aside (∀w2,Bz wq w2→_):=fun(w2:Wo) (hb:Bz wq w2)=>qL (w:=w5) (w2:=w2) (b:=q1) (o:=j*7) (fun p hp=>(a0.o.trans (hb.mono a0.o.size)).cell (by rw [hp];exact hq1)) hc1
      have tb:Aside (∀w2,Bz wq w2→_):=fun(w2:Wo) (hb:Bz wq w2)=>qL (w:=w5) (w2:=w2) (b:=q2) (o:=j*7) (fun p hp=>(a0.o.trans (hb.mono a0.o.size)).cell (by rw [hp];exact hq2)) hc2
      obtain⟨h4,hj0,hwj⟩:=elt (i:=j) (n:=lm) (by omega) (by omega);clear hT hq1 hT1 hc1 hq2 hT2 hc2 a1 n1 n2 hsT
      go_upto_region 22 with fail
      clear z4 z5;have fd:Bz wq wq.drew:=YM _ _;refine hRp (Bz wq) 16 (Heavy.lights [0,1,2,3,4,5,6,8,9,10,11,12,13,14] (.one 7 (.one 15 .done))) (by kernel_rfl) (by kernel_rfl) fd ?_;simp only [Heavy.lights,gL,iJ,gS,gB]
      iterate 3 ((apply hLm;(exact rfl);(exact rfl);(intro a6 hw;go_simp;exact rfl);(go_simp;exact rfl)))
      (apply hLm;(exact rfl);(exact rfl);(intro a6 hw;obtain⟨o4,o5⟩:=b8.o a6 (a0.o.trans (hw.mono a0.o.size));go_simp;exact rfl);(go_simp;exact rfl))
      iterate 2 ((apply hLm;(exact rfl);(exact rfl);(intro a6 hw;go_simp;exact rfl);(go_simp;exact rfl)))
      (apply hLm;(exact rfl);(exact rfl);(intro a6 hw;obtain⟨o0,o1,o2,o3,o4,o5,o6⟩:=ta.o a6 hw;go_simp;exact rfl);(go_simp;exact rfl))
      iterate 3 ((apply hLm;(exact rfl);(exact rfl);(intro a6 hw;go_simp;exact rfl);(go_simp;exact rfl)))
      (apply hLm;(exact rfl);(exact rfl);(intro a6 hw;obtain⟨o4,o5⟩:=b8.o a6 (a0.o.trans (hw.mono a0.o.size));go_simp;exact rfl);(go_simp;exact rfl))
      iterate 2 ((apply hLm;(exact rfl);(exact rfl);(intro a6 hw;go_simp;exact rfl);(go_simp;exact rfl)))
      (apply hLm;(exact rfl);(exact rfl);(intro a6 hw;obtain⟨o0,o1,o2,o3,o4,o5,o6⟩:=tb.o a6 hw;go_simp;exact rfl);(go_simp;exact rfl))
      (apply hOn;(exact rfl);(exact rfl));go_simp
      refine(i0.o _ fd).mono ?_;rintro e w6 ⟨rfl,hb6⟩;have f6:Bz wq w6:=fd.trans (hb6.mono fd.size);refine⟨_,rfl,f6,?_⟩
      (refine hNa (by go_simp;exact rfl) ?_)
      (apply hOn;(exact rfl);(exact rfl));go_simp
      refine(i1.o _ f6).mono ?_;rintro e w7 ⟨rfl,hb7⟩;have f7:Bz wq w7:=f6.trans (hb7.mono f6.size);refine⟨_,rfl,f7,?_⟩
      (refine hNa (by go_simp;exact rfl) ?_)
      apply hPe;show wpList _ _ _ _ _ _;have g3:Aside (Bz w5 w7):=a0.o.trans (f7.mono a0.o.size);clear f6 f7 hb6 hb7 fd;go_wp2;exact⟨⟨j+1,by simp,by omega,g3.o⟩,by simp [RowKit.intOf];omega⟩
     obtain rfl:j=lm:=by omega
     go_wp2;exact⟨⟨m+1,by simp,by omega,a0.o⟩,by simp [RowKit.intOf];omega⟩
   obtain rfl:m=lv:=by omega
   have b6:Aside (Bz wa wp):=f0.o.trans (f3.o.mono f0.o.size);clear f8 hm e7;obtain⟨x0,x1,x2,x3,x4,x5,x6,x7,x8,x9,x10,x11,x12,x13,x14⟩:=fa.o wp b6.o
   go_upto_region 25 with(go_at_call 9;(with_reducible refine(c9.o _ (a8.o _ b6.o)).mono ?_);rintro e w8 ⟨f4,v8,rfl,hk8⟩)
   clear x0 x1 x2 x3 x4 x5 x6 x7 x8 x9 x10 x11 x12 x13 x14;have b3:Aside (Bz wa w8):=b6.o.trans (f4.mono b6.o.size);clear f4;obtain⟨x0,x1,x2,x3,x4,x5,x6,x7,x8,x9,x10,x11,x12,x13,x14⟩:=fa.o w8 b3.o
   go_upto_region 26 with(go_at_call 10;(with_reducible refine(b7.o _ (a8.o _ b3.o)).mono ?_);rintro e w9 ⟨d3,v9,rfl,hk9⟩)
   clear x0 x1 x2 x3 x4 x5 x6 x7 x8 x9 x10 x11 x12 x13 x14;have f1:Aside (Bz wa w9):=b3.o.trans (d3.mono b3.o.size);have g6:=Ek PL v8 v9 w9 (hk8.below d3) hk9 h2.o;clear d3 hk8 hk9
   go_wp2_with first
    |(go_at_call 11;(with_reducible refine g6.mono ?_);rintro e i4 ⟨rfl,hb10⟩;have b1:Aside (Bz w i4):=(a8.o _ f1.o).trans (hb10.mono (a8.o _ f1.o).size))
    |(go_at_call 12;(with_reducible refine(g7.o _ b1.o).mono ?_);rintro e i7 ⟨rfl,hb11⟩)
   go_ret
   exact⟨rfl,b1.o.trans (hb11.mono b1.o.size)⟩
end Go.Proofs.YtealgacfnbbgdaaGreatDoor
