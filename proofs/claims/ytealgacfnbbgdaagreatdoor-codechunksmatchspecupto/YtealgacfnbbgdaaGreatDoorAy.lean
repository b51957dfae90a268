/- Lemmas; no condition. -/
import Derived.Test.YtealgacfnbbgdaaGreatDoorAx
set_option linter.all false
set_option maxHeartbeats 4000000
set_option maxRecDepth 100000
namespace Go.Proofs.YtealgacfnbbgdaaGreatDoor
open Go.RowKit Go.Big Go.RowsK Go.MapK
attribute [local go_sem] Heavy.uponW
def Gv (bi:ByteArray→Int→Bool) (C:Cl) (n:Nat) (w:Wo) (vs:Lv) (h:ClV n w C vs) (hn:n≤w.heap.size) (i1:BiOk 80 bi w):
  Cz 10 #[.agg vs.toArray] w (PmP w (dK C) (sF bi C)):=by
 have dc:=fun w2 (hb:Bz w w2)=>IU C n w2 vs (h.below hb hn) (aE hn hb.size)
 have dk:Aside (dK C=0→∀w2,Bz w w2→Cz 21 #[.agg vs.toArray] w2 (ChP n w2 (eS (Tm.cal bi) C.h C.b.gls))):=fun hf w2 (hb:Bz w w2)=>RC bi C n w2 vs (h.below hb hn) (aE hn hb.size) (i1.mono hb) (rG hf) (FK hf)
 obtain⟨vh,vb,rfl,hH,hB⟩:=h;have TA:=aside3 hB hn hH;have nL:Aside (dK C=0→(eS (Tm.cal bi) C.h C.b.gls).length≤1000001):=fun hf=>FJ C.b (rG hf)
 have rA:Aside (dK C=0→∀(i:Nat) L,(eS (Tm.cal bi) C.h C.b.gls)[i]?=some L→0<L.length∧Tm.nodesL L≤20000∧(i=0→L[0]?=some C.h)∧∀x∈iG L,0≤x∧x<C.vars):=fun hf i L hL=>JE hf hL
 have d4:Aside (dK C=0→C.h.nodes≤20000):=fun hf=>by have:=(kQ (vZ hf).1).1;omega
 have lA:Aside (0<(eS (Tm.cal bi) C.h C.b.gls).length):=XC _ _ _;have vA:Aside (dK C=0→0≤C.vars∧C.vars≤20000∧C.b.nodes≤1000000):=fun hf=>⟨(zR hf).1,(zR hf).2,rG hf⟩
 have pA:Aside (sF bi C=if C.b.pl then vM C.vars.toNat (eS (Tm.cal bi) C.h C.b.gls) else C.b.free.mergeSort fun x y=>decide (x≤y)):=rfl;obtain⟨PF,hPF⟩:∃p,sF bi C=p:=⟨_,rfl⟩;rw [hPF] at pA ⊢;obtain⟨kx,vx,nmx,gx,px,nx,qx,rx,mx,ux,ax,lx,cx,rfl⟩:=TmV.seven hH;obtain⟨ky,vy,nmy,gy,py,ny,qy,ry,my,uy,ay,ly,cy,rfl⟩:=TmV.seven hB;obtain⟨vars,hvars⟩:∃v,C.vars=v:=⟨_,rfl⟩;rw [hvars] at dc dk rA vA pA ⊢;obtain⟨F,hF⟩:∃f,dK C=f:=⟨_,rfl⟩;rw [hF] at dc dk nL rA vA d4 ⊢;obtain⟨pl,hpl⟩:∃f,C.b.pl=f:=⟨_,rfl⟩;rw [hpl] at pA;obtain⟨LL,hLL⟩:∃f,eS (Tm.cal bi) C.h C.b.gls=f:=⟨_,rfl⟩;rw [hLL] at dk nL rA pA lA;have b0:=aC w (Obj.cells (tC kx vx nmx gx px nx qx rx mx ux ax lx cx ky vy nmy gy py ny qy ry my uy ay ly cy vars) 29);have hq:=bY w (Obj.cells (tC kx vx nmx gx px nx qx rx mx ux ax lx cx ky vy nmy gy py ny qy ry my uy ay ly cy vars) 29);obtain⟨wa,hwa⟩:∃x,w.alloc (Obj.cells (tC kx vx nmx gx px nx qx rx mx ux ax lx cx ky vy nmy gy py ny qy ry my uy ay ly cy vars) 29)=x:=⟨_,rfl⟩;have i8:wa.heap.size=w.heap.size+1:=by rw [←hwa];simp
 rw [hwa] at b0 hq;have e5:=aside2 b0 i8;have fa:Aside (∀w2,Bz wa w2→_):=fun(w2:Wo) (hb:Bz wa w2)=>jK ((hb.block w.heap.size (by omega)).trans hq)
 have d1:=dc wa b0;replace d1:Cz 15 #[.agg (tC kx vx nmx gx px nx qx rx mx ux ax lx cx ky vy nmy gy py ny qy ry my uy ay ly cy vars)] wa _:=d1;have d2:Aside (∀w2,Bz w w2→Cz 20 #[.agg (tA ky vy nmy gy py ny qy ry my uy ay ly cy)] w2 fun e w'=>e= .returned (.bool pl)∧Bz w2 w'):=by
  show∀w2,_;intro w2 hb;rw [←hpl];exact IH C.b n w2 _ (TmV.below hb TA.o.2.1 _ _ TA.o.1) (aE TA.o.2.1 hb.size)
 replace dk:Aside (F=0→∀w2,Bz w w2→Cz 21 #[.agg (tC kx vx nmx gx px nx qx rx mx ux ax lx cx ky vy nmy gy py ny qy ry my uy ay ly cy vars)] w2 (ChP n w2 LL)):=dk;obtain⟨x0,x1,x2,x3,x4,x5,x6,x7,x8,x9,x10,x11,x12,x13,x14⟩:=jK hq;clear hH hB hvars hF b0 hq dc hn i1 hpl hLL hPF;show Cz 10 #[.agg (tC kx vx nmx gx px nx qx rx mx ux ax lx cx ky vy nmy gy py ny qy ry my uy ay ly cy vars)] w _;go_enter Tryz.func10,Tryz.ntmps10
 by_cases d8:F=0
 case neg=>
  have e1:(F==0)=false:=by simpa using d8
  have e2:(F !=0)=true:=by simpa using d8
  have FA:=aside d8;clear d8
  go_wp2_with (go_at_call 15;(with_reducible refine d1.mono ?_);rintro e w2 ⟨rfl,hb2⟩)
  go_ret2
  exact⟨e5.o.1.trans (hb2.mono e5.o.1.size),_,rfl,fun _=>rfl,fun h=>absurd h FA.o⟩
 subst d8;replace dk:Aside (∀w2,Bz w w2→Cz 21 #[.agg (tC kx vx nmx gx px nx qx rx mx ux ax lx cx ky vy nmy gy py ny qy ry my uy ay ly cy vars)] w2 (ChP n w2 LL)):=dk.o rfl;have k8:Aside (C.h.nodes≤20000):=d4.o rfl;clear d4;replace nL:Aside (LL.length≤1000001):=nL.o rfl;replace rA:Aside (∀(i:Nat) L,LL[i]?=some L→0<L.length∧Tm.nodesL L≤20000∧(i=0→L[0]?=some C.h)∧∀x∈iG L,0≤x∧x<vars):=rA.o rfl;replace vA:Aside (0≤vars∧vars≤20000∧C.b.nodes≤1000000):=vA.o rfl
 go_upto_region 5 with(go_at_call 15;(with_reducible refine d1.mono ?_);rintro e w2 ⟨rfl,hb2⟩)
 clear hwa i8 x0 x1 x2 x3 x4 x5 x6 x7 x8 x9 x10 x11 x12 x13 x14;obtain⟨x0,x1,x2,x3,x4,x5,x6,x7,x8,x9,x10,x11,x12,x13,x14⟩:=fa.o w2 hb2;have b1:Aside (Bz w w2∧Bz wa w2):=⟨e5.o.1.trans (hb2.mono e5.o.1.size),hb2⟩;clear hb2;cases pl
 case false=>
  have pE:Aside (PF=C.b.free.mergeSort fun x y=>decide (x≤y)):=pA.o;have df:Aside (∀w2,Bz w w2→Cz 27 #[.agg (tA ky vy nmy gy py ny qy ry my uy ay ly cy)] w2 (FreeP w2 C.b.free)):=fun w2 hb=>IK C.b n w2 _ (TmV.below hb TA.o.2.1 _ _ TA.o.1) (aE TA.o.2.1 hb.size) vA.o.2.2
  have fl:C.b.free.length≤1000000:=by have:=(AO C.b []).1;have:=vA.o.2.2;unfold Tm.free;simp at*;omega
  have j5:=aside fl;have ds:Aside (∀base v w2,eL base w2 v C.b.free→Cz 28 #[v] w2 fun e w'=>e= .returned (.tuple #[])∧eL base w' v (C.b.free.mergeSort fun x y=>decide (x≤y))∧Below base w2 w'):=fun base v w2 h=>Ki base v _ w2 h j5.o
  have fb:0+C.b.free.length≤maxLen∧(0+C.b.free.length)*8≤140737488355328:=by unfold maxLen;omega
  have d5:∀u∈C.b.free.map (Value.int .i64),u.oneCell'=true:=by intro u hu;obtain⟨x,_,rfl⟩:=gF.1 hu;rfl
  clear fl
  go_wp2_with first
   |(go_at_call 20;(with_reducible refine(d2.o _ b1.o.1).mono ?_);rintro e w3 ⟨rfl,hb3⟩;obtain⟨y0,y1,y2,y3,y4,y5,y6,y7,y8,y9,y10,y11,y12,y13,y14⟩:=fa.o w3 (b1.o.2.trans (hb3.mono b1.o.2.size));have b2:Aside (Bz w w3):=b1.o.1.trans (hb3.mono b1.o.1.size))
   |(go_at_call 27;(with_reducible refine(df.o _ b2.o).mono ?_);rintro e w4 ⟨v4,rfl,ho4,hb4⟩;have k9:iT w4 v4 C.b.free.length (C.b.free.map (Value.int .i64)):=HY ho4;have f1:Aside (Bz w w4):=b2.o.trans (hb4.mono b2.o.size))
   |(at_builtin;refine lJ AX _ rfl _ _ rfl w4.heap.size (.slice none 0 0) 0 [] rfl (qD _ _ _ _) _ _ _ rfl k9 (by simp) d5 fb.1 fb.2 (aA _) ?_;intro v5 w5 h5 b9 g4;have j7:Aside (eL w4.heap.size w5 v5 C.b.free):=(by show eL _ _ _ _;unfold eL;rw [dH,lG] at h5;exact h5);have a0:Aside (Bz w4 w5):=(aK _ w4).grown b9 (aA _) (fun k e=>(by simp [Value.ownBlock] at e)))
   |(go_at_call 28;(with_reducible refine(ds.o _ _ _ j7.o).mono ?_);rintro e w6 ⟨rfl,ho6,hb6⟩)
  go_ret2
  have b6:Bz w4 w6:=a0.o.trans hb6;exact⟨f1.o.trans (b6.mono f1.o.size),v5,rfl,fun h=>absurd rfl h,fun _=>by rw [pE.o];exact nW ho6 f1.o.size⟩
 have pE:Aside (PF=vM vars.toNat LL):=pA.o;obtain⟨nv,hnv⟩:∃k:Nat,vars=(k:Int):=⟨vars.toNat,by have:=vA.o.1;omega⟩;subst hnv;have j1:Aside (nv≤20000):=by show _≤_;have:=vA.o.2.1;omega
 go_upto_region 9 with(go_at_call 20;(with_reducible refine(d2.o _ b1.o.1).mono ?_);rintro e w3 ⟨rfl,hb3⟩)
 clear x0 x1 x2 x3 x4 x5 x6 x7 x8 x9 x10 x11 x12 x13 x14;obtain⟨x0,x1,x2,x3,x4,x5,x6,x7,x8,x9,x10,x11,x12,x13,x14⟩:=fa.o w3 (b1.o.2.trans (hb3.mono b1.o.2.size));have b2:Aside (Bz w w3∧Bz wa w3):=⟨b1.o.1.trans (hb3.mono b1.o.1.size),b1.o.2.trans (hb3.mono b1.o.2.size)⟩;clear hb3;obtain⟨wm,mk,hC0,hbm⟩:=mkCnt nv (by have:=j1.o;omega) w3;have d7:Aside (gJ wm w3.heap.size nv (fun _=>0)):=hC0;have c1:Aside (Bz w wm∧Bz wa wm∧w3.heap.size<wm.heap.size):=⟨b2.o.1.trans (hbm.mono b2.o.1.size),b2.o.2.trans (hbm.mono b2.o.2.size),hC0.lt⟩;clear hC0 hbm
 go_upto_region 10 with fail
 clear mk x0 x1 x2 x3 x4 x5 x6 x7 x8 x9 x10 x11 x12 x13 x14;obtain⟨x0,x1,x2,x3,x4,x5,x6,x7,x8,x9,x10,x11,x12,x13,x14⟩:=fa.o wm c1.o.2.1;obtain⟨g0,hg0⟩:∃g,w3.heap.size=g:=⟨_,rfl⟩;rw [hg0] at d7 c1 ⊢;have f3:Aside (n≤g0∧w.heap.size≤g0):=⟨by have:=b2.o.1.size;have:=TA.o.2.1;omega,by have:=b2.o.1.size;omega⟩;have j6:Aside (wa.heap.size≤g0):=by show _≤_;rw [←hg0];exact b2.o.2.size
 clear hg0
 go_upto_region 11 with(go_at_call 21;(with_reducible refine(dk.o _ c1.o.1).mono ?_);rintro e w4 ⟨v4,X,S,rfl,h1,h2,h3,h4,hb4⟩;obtain⟨av,cv,rfl,_⟩:=gZ h1)
 obtain⟨G,rfl,hG⟩:∃G,av=some ⟨G,0,none⟩∧RwV g0 w4 G LL:=by
  obtain⟨G,e,_,hR⟩:=RwV.of f3.o.1 c1.o.2.2 h1 h2 h3 lA.o;exact⟨G,e,hR⟩
 have GA:Aside (RwV g0 w4 G LL∧Bz w w4∧gJ w4 g0 nv (fun _=>0)):=⟨hG,c1.o.1.trans (hb4.mono c1.o.1.size),d7.o.of_block (hb4.block g0 c1.o.2.2)⟩;obtain⟨lv,hlv⟩:∃l,LL.length=l:=⟨_,rfl⟩;have e8:Aside (LL.length=lv∧lv≤1000001):=⟨hlv,by rw [←hlv];exact nL.o⟩;have m4:lv≤1000001:=e8.o.2;rw [hlv];have GB:Aside (Bz wa w4∧wa.heap.size≤g0):=⟨c1.o.2.1.trans (hb4.mono c1.o.2.1.size),j6.o⟩;clear h1 h2 h3 h4 hb4 hG hlv x0 x1 x2 x3 x4 x5 x6 x7 x8 x9 x10 x11 x12 x13 x14 d1
 go_loopw [37] (fun s wr=>∃i:Nat,s= .int .i64 i∧i≤lv∧Bz w wr∧RwV g0 wr G LL∧gJ wr g0 nv (fun v=>gC (LL.take i) v)∧Bz wa wr) (fun s _=>lv-(RowKit.intOf s).toNat)
 case atStart=>exact⟨0,rfl,cJ _,GA.o.2.1,GA.o.1,GA.o.2.2.cong fun v _=>by simp [gC],GB.o.1⟩
 case round=>
  clear GA;obtain⟨wo,rfl⟩:=enr wr;obtain⟨i,rfl,hi,hBo,hRo,hCo,hWo⟩:=hrel;have f0:=aside hWo;have oA:=aside3 hBo hRo hCo;clear hBo hRo hCo hWo
  by_cases k6:i<lv
  ·obtain⟨L,hL⟩:∃L,LL[i]?=some L:=⟨_,cE (by rw [e8.o.1];exact k6)⟩;have LA:=aside hL;obtain⟨r1,r2,r3,r4⟩:=rA.o i L hL;have a9:=aside4 r1 r2 r3 r4;obtain⟨a,c,x0,hT,hrw⟩:=oA.o.2.1.2 i L hL;have l4:=aside hrw;have m1:=aside hT;obtain⟨ln,hln⟩:∃l,L.length=l:=⟨_,rfl⟩;have c0:Aside (L.length=ln∧ln≤20000):=⟨hln,by have:=xK L;omega⟩;rw [hln] at x0;obtain⟨k7,hi0,hwi⟩:=elt (i:=i) (n:=lv) (by omega) (by omega);have m3:0<ln:=by rw [←hln];exact r1
   have k5:ln≤20000:=c0.o.2;clear r1 r2 r3 r4 hT hln hL hrw;obtain⟨Xs,hXl,hsr,hon,hXv⟩:=l4.o.src;rw [c0.o.1] at hXl hsr;have XA:=aside4 hsr hXl hon hXv;clear hXl hsr hon hXv;obtain⟨Lr,hLr⟩:∃M:List Tm,M=(if i=0 then L++ [C.h] else L):=⟨_,rfl⟩;have LrA:Aside (Lr=(if i=0 then L++ [C.h] else L)∧iG Lr=iG L∧Tm.nodesL Lr≤40000∧0<Lr.length∧Lr.length≤40000):=by
    have i5:Tm.nodesL Lr≤40000:=by
     rw [hLr];split
     ·rw [tY];have:=a9.o.2.1;have:=k8.o;simp [Tm.nodesL];omega
     ·have:=a9.o.2.1;omega
    refine⟨hLr,?_,i5,?_,aE (xK Lr) i5⟩
    ·rw [hLr];split
     ·rename_i h0;exact Fd (a9.o.2.2.1 h0)
     ·rfl
    ·rw [hLr];split
     ·simp
     ·exact a9.o.1
   clear hLr;have b3:Aside (∀w5 v5,dN (fun b=>b<w5.heap.size) 0 w5 v5 Lr→Cz 27 #[.agg #[.int .i64 5,.int .i64 0,.string ⟨#[]⟩,.bool false,.slice none 0 0,.slice none 0 0,v5]] w5 (FreeP w5 (iG L))):=by
    show∀w5 v5,_;intro w5 v5 hr;obtain⟨a5,c5,rfl⟩:=hr.form;have l0:=hr.tms (S':=fun b=>b<w5.heap.size) (fun b hb=>hb) (fun g hg=>(hr.lt g hg).2);have hv:=compV (s:=⟨#[]⟩) (c:=c5) (eW.toV (n:=w5.heap.size) (fun k hk=>hk) _ _ _ l0) (by have:=LrA.o.2.2.2.2;omega);have:=IK _ w5.heap.size w5 _ hv (aA _) (by rw [WN];have:=LrA.o.2.2.1;omega);rw [WO,LrA.o.2.1] at this;exact this
   obtain⟨R,hR⟩:=enm (iG L);have RA:Aside (iG L=R∧R.Nodup∧R.length≤20001):=⟨hR,by rw [←hR];exact AQ L [] List.nodup_nil,by rw [←hR];have:=(qX L []).1;have:=a9.o.2.1;unfold iG;simp at*;omega⟩;rw [hR] at b3
   go_upto_region 13 with fail
   have bE:=aC wo (Obj.cells #[] 27);have f9:=bY wo (Obj.cells #[] 27);obtain⟨we,hwe⟩:∃x,wo.alloc (Obj.cells #[] 27)=x:=⟨_,rfl⟩;rw [hwe] at bE f9;have i7:we.heap.size=wo.heap.size+1:=by rw [←hwe];simp
   have eA:=aside2 bE i7;have oE:Aside (we.ownsRow wo.heap.size 27 7 (.slice (some ⟨wo.heap.size,0,none⟩) 0 0) 0 []):=⟨rfl,.inr ⟨wo.heap.size,0,#[],rfl,aA _,f9,aA _,cJ _,rfl,rfl⟩⟩;have sE:Aside (iT we (.slice a ln c) ln Xs):=by
    exact HY (jF XA.o.1 bE (aA _))
   clear bE f9 i7;have a8:Aside (0+ln≤maxLen∧(0+ln)*112≤140737488355328∧wo.heap.size≤we.heap.size):=⟨by unfold maxLen;have:=c0.o;omega,by have:=c0.o;omega,eA.o.1.size⟩;have l5:Aside (∀v5 w5,w5.ownsRow wo.heap.size 27 7 v5 (0+ln) ([]++Xs)→we.grownBy w5 (some wo.heap.size)→Bz wo w5∧w5.ownsRow wo.heap.size 27 7 v5 ln Xs∧∃g5 c5,v5= .slice (some ⟨g5,0,none⟩) ln c5∧wo.heap.size≤g5∧g5<w5.heap.size):=by
    show∀v5 w5,_;intro v5 w5 h5 b9;rw [dH,lG] at h5;refine⟨eA.o.1.grown b9 eA.o.1.size (fun k e=>by cases e;exact aA _),h5,?_⟩;obtain⟨a5,c5,rfl,hh⟩:=gZ h5;rcases hh with hh|⟨g,rfl,q1,q2,_⟩
    ·omega
    ·exact⟨g,c5,rfl,q1,q2⟩
   refine rM ?_
   iterate 2 (refine iD rfl fun K hK=>?_;go_simp;refine hK _ _ ?_;clear hK)
   refine lJ xW _ rfl _ _ rfl wo.heap.size _ 0 [] rfl oE.o (.slice a ln c) ln Xs rfl sE.o XA.o.2.1 XA.o.2.2.1 a8.o.1 a8.o.2.1 a8.o.2.2 ?_;intro v5 w5 h5 b9 g4;obtain⟨b5,o5,g5,c5,rfl,q1,q2⟩:=l5.o v5 w5 h5 b9;have a0:=aside4 b5 o5 q1 q2;clear h5 b9 g4 b5 o5 q1 q2
   iterate 3 (refine iD rfl fun K hK=>?_;go_simp;refine hK _ _ ?_;clear hK)
   have a4:=bY w5 (Obj.cells #[.int .i64 5,.int .i64 0,.string ⟨#[]⟩,.bool false,.slice none 0 0,.slice none 0 0,.slice (some ⟨g5,0,none⟩) ln c5] 27);have f6:=aC w5 (Obj.cells #[.int .i64 5,.int .i64 0,.string ⟨#[]⟩,.bool false,.slice none 0 0,.slice none 0 0,.slice (some ⟨g5,0,none⟩) ln c5] 27);obtain⟨wb,hwb⟩:∃x,w5.alloc (Obj.cells #[.int .i64 5,.int .i64 0,.string ⟨#[]⟩,.bool false,.slice none 0 0,.slice none 0 0,.slice (some ⟨g5,0,none⟩) ln c5] 27)=x:=⟨_,rfl⟩;have i9:wb.heap.size=w5.heap.size+1:=by rw [←hwb];simp
   rw [hwb] at a4 f6 ⊢;obtain⟨B9,d0⟩:∃b,w5.heap.size=b:=⟨_,rfl⟩;have bA:Aside (Bz w5 wb∧wb.heap.size=B9+1∧w5.heap.size=B9∧wb.heap[B9]?=some (.cells #[.int .i64 5,.int .i64 0,.string ⟨#[]⟩,.bool false,.slice none 0 0,.slice none 0 0,.slice (some ⟨g5,0,none⟩) ln c5] 27 (0,0))):=⟨f6,by rw [←d0];exact i9,d0,by rw [←d0];exact a4⟩;rw [d0] at a4 ⊢;have c4:Aside (eB (fun b=>b≠g0∧b<wo.heap.size) wo w5):=fun b hb=>a0.o.1.block b hb.2
   clear f6 i9 hwb d0;obtain⟨y0,y1,y2,y3,y4,y5,y6⟩:=dZ a4;have i0:=c0.o.1
   go_upto_region 14 with fail
   by_cases b7:i=0
   case' pos=>
    have f8:((i:Int)==0)=true:=by rw [b7];rfl
    have LE:Aside (Lr=L++ [C.h]):=by show _=_;rw [LrA.o.1,if_pos b7]
    have l9:Aside (Bz wa wb):=by
     have h1:Bz wo wb:=a0.o.1.trans (bA.o.1.mono a0.o.1.size);exact f0.o.trans (h1.mono f0.o.size)
    clear b7 a4
    go_upto_region 15 with fail
    clear f8;obtain⟨x0,x1,x2,x3,x4,x5,x6,x7,x8,x9,x10,x11,x12,x13,x14⟩:=fa.o wb l9.o;have g1:=bY wb (Obj.cells (tA kx vx nmx gx px nx qx rx mx ux ax lx cx) 27);have c3:=aC wb (Obj.cells (tA kx vx nmx gx px nx qx rx mx ux ax lx cx) 27);obtain⟨ws,hws⟩:∃x,wb.alloc (Obj.cells (tA kx vx nmx gx px nx qx rx mx ux ax lx cx) 27)=x:=⟨_,rfl⟩;have e6:ws.heap.size=wb.heap.size+1:=by rw [←hws];simp
    rw [hws] at g1 c3;have l8:Aside (iT ws (.slice (some ⟨wb.heap.size,0,none⟩) 1 1) 1 [.int .i64 kx,.int .i64 vx,.string nmx,.bool gx,.slice px nx qx,.slice rx mx ux,.slice ax lx cx]):=xH g1;have oS:Aside (ws.ownsRow wo.heap.size 27 7 (.slice (some ⟨g5,0,none⟩) ln c5) ln Xs∧Bz wb ws∧ws.heap.size=wb.heap.size+1):=⟨jF (jF a0.o.2.1 bA.o.1 (aA _)) c3 (aA _),c3,e6⟩;have g9:Aside (∀u∈([.int .i64 kx,.int .i64 vx,.string nmx,.bool gx,.slice px nx qx,.slice rx mx ux,.slice ax lx cx]:Lv),u.oneCell'=true):=TmV.one TA.o.2.2;have d6:Aside (ln+1≤maxLen∧(ln+1)*112≤140737488355328∧wo.heap.size≤ws.heap.size):=⟨by unfold maxLen;have:=c0.o;omega,by have:=c0.o;omega,by have:=a0.o.1.size;have:=bA.o.1.size;have:=c3.size;omega⟩;clear g1 c3 e6;refine rM ?_
    iterate 5 (refine iD rfl fun K hK=>?_;go_simp;refine hK _ _ ?_;clear hK)
    try rw [hws]
    refine lJ xW _ rfl _ _ rfl wo.heap.size _ ln Xs rfl oS.o.1 (.slice (some ⟨wb.heap.size,0,none⟩) 1 1) 1 [.int .i64 kx,.int .i64 vx,.string nmx,.bool gx,.slice px nx qx,.slice rx mx ux,.slice ax lx cx] (by first|rfl|(rw [bA.o.2.1];rfl)) l8.o rfl g9.o d6.o.1 d6.o.2.1 d6.o.2.2 ?_;intro v7 w7 h7 e0 e7;replace e0:ws.grownBy w7 (some g5):=e0;replace e7:v7.ownBlock=some g5∨v7.ownBlock=some ws.heap.size:=e7;obtain⟨a7,c7,rfl,hh7⟩:=gZ h7;obtain⟨g7,rfl,hg7a,hg7b⟩:∃g,a7=some ⟨g,0,none⟩∧wo.heap.size≤g∧g<w7.heap.size:=by
     rcases hh7 with hh|⟨g,e,q1,q2,_⟩
     ·omega
     ·exact⟨g,e,q1,q2⟩
    have d0:=bA.o.2.2.1;have g6:=bA.o.2.1;have b9:=a0.o.2.2;have e6:=oS.o.2.2;have e3:g7≠B9:=by
     rcases e7 with e|e
     ·have e2:g7=g5:=bP e;omega
     ·have e2:g7=ws.heap.size:=bP e;omega
    have i2:ws.heap[B9]?=some (.cells #[.int .i64 5,.int .i64 0,.string ⟨#[]⟩,.bool false,.slice none 0 0,.slice none 0 0,.slice (some ⟨g5,0,none⟩) ln c5] 27 (0,0)):=(oS.o.2.1.block B9 (by omega)).trans bA.o.2.2.2;have a3:w7.heap[B9]?=some (.cells #[.int .i64 5,.int .i64 0,.string ⟨#[]⟩,.bool false,.slice none 0 0,.slice none 0 0,.slice (some ⟨g5,0,none⟩) ln c5] 27 (0,0)):=(e0.block B9 (by omega) (fun e=>by have e2:=bP e;omega)).trans i2;have h8:Aside (Bz wo w7):=(a0.o.1.trans (bA.o.1.mono a0.o.1.size)).trans ((oS.o.2.1.mono (by have:=a0.o.1.size;have:=bA.o.1.size;omega)).trans ((aK _ _).grown e0 (by omega) (fun k e=>by have e2:=bP e;omega)));have e4:Aside (eB (fun b=>b≠g0∧b<wo.heap.size) w5 w7):=fun b hb=>(h8.o.block b hb.2).trans (a0.o.1.block b hb.2).symm
    have h9:=aside3 h7 e3 hg7b;have f2:Aside (w7.heap[B9]?=some (.cells #[.int .i64 5,.int .i64 0,.string ⟨#[]⟩,.bool false,.slice none 0 0,.slice none 0 0,.slice (some ⟨g5,0,none⟩) ln c5] 27 (0,0))∧wo.heap.size≤B9∧B9<w7.heap.size):=⟨a3,by have:=a0.o.1.size;omega,(cV.1 a3).1⟩;clear x0 x1 x2 x3 x4 x5 x6 x7 x8 x9 x10 x11 x12 x13 x14 y0 y1 y2 y3 y4 y5 y6 hh7 d0 g6 b9 e6 e3 i2 h7 e0 e7 hg7a hg7b hws;obtain⟨y0,y1,y2,y3,y4,y5,y6⟩:=dZ a3;have z6:w7.frozen? ⟨B9,6,none⟩=false:=by simp [World.frozen?,a3]
    clear a3
    iterate 2 (refine iD rfl fun K hK=>?_;go_simp;refine hK _ _ ?_;clear hK)
    have d3:(w7.setCell ⟨B9,6,none⟩ (.slice (some ⟨g7,0,none⟩) (ln+1) c7)).heap[B9]?=some (.cells #[.int .i64 5,.int .i64 0,.string ⟨#[]⟩,.bool false,.slice none 0 0,.slice none 0 0,.slice (some ⟨g7,0,none⟩) (ln+1) c7] 27 (0,0)):=by simp [World.setCell,rW,f2.o.1]
    have c9:Below wo.heap.size w7 (w7.setCell ⟨B9,6,none⟩ (.slice (some ⟨g7,0,none⟩) (ln+1) c7)):=(aK _ w7).setCell (p:=⟨B9,6,none⟩) (by exact f2.o.2.1) _;have a1:∀k,k≠B9→(w7.setCell ⟨B9,6,none⟩ (.slice (some ⟨g7,0,none⟩) (ln+1) c7)).heap[k]?=w7.heap[k]?:=fun k hk=>iQ w7 ⟨B9,6,none⟩ _ k hk
    obtain⟨wf,hwf⟩:∃x,w7.setCell ⟨B9,6,none⟩ (.slice (some ⟨g7,0,none⟩) (ln+1) c7)=x:=⟨_,rfl⟩;rw [hwf] at d3 c9 a1 ⊢;have c8:Aside (Bz wo wf):=h8.o.trans c9;have b8:Aside (dN (fun b=>b<wf.heap.size) 0 wf (.slice (some ⟨g7,0,none⟩) (ln+1) c7) Lr):=by
     show dN _ _ _ _ _;rw [LE.o];have h1:=a0.o.2.1;rw [←c0.o.1] at h1;have h5:wf.ownsRow wo.heap.size 27 7 (.slice (some ⟨g7,0,none⟩) (ln+1) c7) (L.length+1) (Xs++ [.int .i64 kx,.int .i64 vx,.string nmx,.bool gx,.slice px nx qx,.slice rx mx ux,.slice ax lx cx]):=by
      rw [c0.o.1];exact tV h9.o.1 (fun g e=>by have e2:g7=g:=bP e;rw [←e2];exact a1 g7 h9.o.2.1)
     have hk:eB (fun b=>b≠g0∧b<wo.heap.size) w5 wf:=eB.trans e4.o (fun b hb=>a1 b (by have:=f2.o.2.1;omega));have hv:TmS (fun b=>b≠g0∧b<wo.heap.size) w5 C.h [.int .i64 kx,.int .i64 vx,.string nmx,.bool gx,.slice px nx qx,.slice rx mx ux,.slice ax lx cx]:=by
      have j8:Bz w w5:=oA.o.1.trans (a0.o.1.mono oA.o.1.size);exact TmS.mono (fun b hb=>by have:=TA.o.2.1;have:=f3.o.1;have:=oA.o.1.size;omega) _ _ (TmV.toS _ _ (TmV.below j8 TA.o.2.1 _ _ TA.o.2.2))
     obtain⟨X,q1,q2⟩:=dN.snoc (S:=fun b=>b≠g0∧b<wo.heap.size) h1 (fun k T hT=>by
      obtain⟨vs,q1,q2,q3⟩:=XA.o.2.2.2 k T hT;exact⟨vs,q1,q2,TmS.keep c4.o _ _ q3⟩) h5 hk hv rfl
     refine⟨X,nW q1 (cJ _),fun k T hT=>?_⟩;obtain⟨vs,r1,r2,r3⟩:=q2 k T hT;exact⟨vs,r1,r2,TmS.mono (fun b hb=>by have:=c8.o.size;omega) _ _ r3⟩
    clear y0 y1 y2 y3 y4 y5 y6 z6 c9 a1 hwf
    go_upto_region 16 with fail
    obtain⟨y0,y1,y2,y3,y4,y5,y6⟩:=dZ d3;clear d3 i0
    go_upto_region 17 with(go_at_call 27;(with_reducible refine(b3.o _ _ b8.o).mono ?_);rintro e w6 ⟨v6,rfl,h6,hb6⟩;obtain⟨a6,c6,rfl,hrd⟩:=gZ h6)
    clear b8
   case' neg=>
    have f8:((i:Int)==0)=false:=by have:¬(i:Int)=0:=(by omega);simpa using this
    have b8:Aside (dN (fun b=>b<wb.heap.size) 0 wb (.slice (some ⟨g5,0,none⟩) ln c5) Lr):=by
     show dN _ _ _ _ _;rw [LrA.o.1,if_neg b7];refine⟨Xs,?_,fun k T hT=>?_⟩
     ·rw [c0.o.1];exact nW (jF a0.o.2.1 bA.o.1 (aA _)) (cJ _)
     ·obtain⟨vs,q1,q2,q3⟩:=XA.o.2.2.2 k T hT;exact⟨vs,q1,q2,TmS.mono (fun b hb=>by have:=a0.o.1.size;have:=bA.o.1.size;omega) _ _ (TmS.keep (eB.trans c4.o (fun b hb=>bA.o.1.block b (by have:=a0.o.1.size;omega))) _ _ q3)⟩
    have c8:Aside (Bz wo wb):=a0.o.1.trans (bA.o.1.mono a0.o.1.size);clear a4 b7;obtain⟨wf,rfl⟩:=enr wb
    go_upto_region 17 with(go_at_call 27;(with_reducible refine(b3.o _ _ b8.o).mono ?_);rintro e w6 ⟨v6,rfl,h6,hb6⟩;obtain⟨a6,c6,rfl,hrd⟩:=gZ h6)
    clear f8 b8 i0
   all_goals
    obtain⟨lR,hlR⟩:∃l,R.length=l:=⟨_,rfl⟩;have g8:Aside (R.length=lR∧lR≤20001):=⟨hlR,by rw [←hlR];exact RA.o.2.2⟩;have k4:lR≤20001:=g8.o.2;rw [hlR] at hrd ⊢;have g2:=aside hrd;have g5:Aside (g0<wf.heap.size):=by show _<_;have:=oA.o.2.2.lt;have:=c8.o.size;omega
    have e9:Aside (Bz w w6∧RwV g0 w6 G LL∧gJ w6 g0 nv (fun v=>gC (LL.take i) v)):=by
     have hb:Bz wo w6:=c8.o.trans (hb6.mono c8.o.size);exact⟨oA.o.1.trans (hb.mono oA.o.1.size),oA.o.2.1.keep (bL.of_below hb),oA.o.2.2.of_block (hb.block g0 oA.o.2.2.lt)⟩
    have j3:Aside (Bz wa w6):=f0.o.trans ((c8.o.trans (hb6.mono c8.o.size)).mono f0.o.size);clear hrd h6 hlR hR hb6
    go_loopw [58] (fun s wr=>∃j:Nat,s= .int .i64 j∧j≤lR∧bL (· =g0) w6 wr∧gJ wr g0 nv (fun v=>kR LL i R j v)) (fun s _=>lR-(RowKit.intOf s).toNat)
    case atStart=>exact⟨0,rfl,cJ _,bL.refl _ _,e9.o.2.2.cong fun v _=>(WS LL i R v).symm⟩
    case round=>
     obtain⟨wq,rfl⟩:=enr wr;obtain⟨j,rfl,hj,hK,hC⟩:=hrel;have qA:=aside2 hK hC;clear hK hC
     by_cases k0:j<lR
     ·obtain⟨x,hx⟩:∃x,R[j]?=some x:=⟨_,cE (by rw [g8.o.1];exact k0)⟩;have l3:=a9.o.2.2.2 x (by rw [RA.o.1];exact bV hx);obtain⟨xn,rfl⟩:∃k:Nat,x=(k:Int):=⟨x.toNat,by omega⟩;have j0:xn<nv:=by omega
      have xA:=aside hx;obtain⟨gR,rfl,hg1,hg2,hg3⟩:∃g,a6=some ⟨g,0,none⟩∧wf.heap.size≤g∧g<w6.heap.size∧∀(j:Nat) u,(R.map (Value.int .i64))[j]?=some u→w6.cell? ⟨g,j,none⟩=some u:=by
       rcases g2.o with h|h
       ·omega
       ·exact h
      have z0:wq.cell? ⟨gR,j,none⟩=some (.int .i64 (xn:Int)):=(BU (w:=w6) (qA.o.1.block gR hg2 (by have:=g5.o;omega))).trans (hg3 j _ (by rw [jO,hx];rfl));obtain⟨z1,z2⟩:=qA.o.2.cell j0;have j9:kR LL i R j (xn:Int)≤1000002:=by
       unfold kR;have h1:=LX (LL.take i) (xn:Int);rw [bT] at h1;have:=e8.o.1;split<;>omega
      obtain⟨cn,hcn⟩:∃k,kR LL i R j (xn:Int)=k:=⟨_,rfl⟩;rw [hcn] at z1 j9;have cA:=aside hcn;have k1:(j:Int)<(lR:Int):=by omega
      have m2:(0:Int)≤(j:Int):=by omega
      have m7:(0:Int)≤(xn:Int):=by omega
      have m8:(xn:Int)<(nv:Int):=by omega
      have m6:=ewr (i:=j) (by omega);have m5:=ewr (i:=cn) (by omega);clear hx l3 hg1 hg2 hg3 hcn x0;go_wp2;refine⟨⟨j+1,by simp,by omega,qA.o.1.trans (bL.set (.int .i64 ((cn:Int)+1))) (fun k _ e=>e),?_⟩,by simp [RowKit.intOf];omega⟩;have hp:=qA.o.2.put j0 (cn+1);refine gJ.cong (f:=fun v=>if v=(xn:Int) then cn+1 else kR LL i R j v) (by simpa using hp) fun v _=>?_
      rw [WT RA.o.2.1 xA.o];split
      ·rename_i e;rw [e,cA.o]
      ·rfl
     ·obtain rfl:j=lR:=by omega
      clear x0;go_wp2;have k2:Bz w wq:=e9.o.1.trans (qA.o.1.below e9.o.1.size (fun k e=>by rw [e];exact f3.o.2));exact⟨⟨i+1,by simp,by omega,k2,e9.o.2.1.keep qA.o.1,qA.o.2.cong fun v _=>by rw [←g8.o.1,←RA.o.1];exact WU LA.o v,j3.o.trans (qA.o.1.below j3.o.size (fun k e=>by rw [e];exact GB.o.2))⟩,by simp [RowKit.intOf];omega⟩
  ·obtain rfl:i=lv:=by omega
   have b4:Aside (Bz w wo∧gJ wo g0 nv (fun v=>gC LL v)):=⟨oA.o.1,oA.o.2.2.cong fun v _=>by rw [←e8.o.1,kD]⟩;have m9:=j1.o
   go_upto_region 23 with fail
   go_loopw [5,72] (fun l6 l7 wr=>∃(k l2 c2:Nat) (a2:Option Addr),l6= .slice a2 l2 c2∧l2≤k∧l7= .int .i64 k∧k≤nv∧Bz w wr∧gJ wr g0 nv (fun v=>gC LL v)∧eL wo.heap.size wr (.slice a2 l2 c2) (gU LL nv k)∧wo.heap.size≤wr.heap.size) (fun _ s _=>nv-(RowKit.intOf s).toNat)
   case atStart=>exact⟨0,0,0,none,rfl,aA _,rfl,cJ _,b4.o.1,b4.o.2,qD _ _ _ _,aA _⟩
   case round=>
    obtain⟨wq,rfl⟩:=enr wr;obtain⟨k,l2,c2,a2,rfl,hl2,rfl,hk,hBq,hCq,hOq,hsq⟩:=hrel;have qA:=aside4 hBq hCq hOq hsq
    by_cases i4:k<nv
    ·obtain⟨z1,z2⟩:=hCq.cell i4;obtain⟨cn,hcn⟩:∃m,gC LL (k:Int)=m:=⟨_,rfl⟩;rw [hcn] at z1;have j2:Aside (gU LL nv (k+1)=if 1<cn then gU LL nv k++ [(k:Int)] else gU LL nv k):=by show _=_;rw [RT LL i4,hcn]
     obtain⟨k3,hk0,hwk⟩:=elt (i:=k) (n:=nv) (by omega) (by omega);clear hBq hCq hOq hsq hcn z2
     by_cases i3:1<cn
     ·have f7:(1:Int)<(cn:Int):=by omega
      have a8:Aside ((gU LL nv k).length=l2):=by
       show _=_;obtain⟨a',c',e,_⟩:=gZ qA.o.2.2.1;injection e with _ e _;exact e.symm
      go_upto_region 26 with fail
      have bB:=aC wq (Obj.cells #[.int .i64 (k:Int)] 3);have i6:=bY wq (Obj.cells #[.int .i64 (k:Int)] 3);obtain⟨U,hU⟩:=enm (Value.slice a2 l2 c2);have f5:(wq.alloc (Obj.cells #[.int .i64 (k:Int)] 3)).ownsRow wo.heap.size 3 1 (.slice a2 l2 c2) (gU LL nv k).length ((gU LL nv k).map (Value.int .i64)):=jF qA.o.2.2.1 bB (aA _);have g3:iT (wq.alloc (Obj.cells #[.int .i64 (k:Int)] 3)) (.slice (some ⟨wq.heap.size,0,none⟩) 1 1) 1 [.int .i64 (k:Int)]:=xH i6;have d5:∀u∈([.int .i64 (k:Int)]:Lv),u.oneCell'=true:=by simp [Value.oneCell']
      have d9:(gU LL nv k).length+1≤maxLen∧((gU LL nv k).length+1)*8≤140737488355328:=by rw [a8.o];unfold maxLen;omega
      have c3:wo.heap.size≤(wq.alloc (Obj.cells #[.int .i64 (k:Int)] 3)).heap.size:=by rw [eX];have:=qA.o.2.2.2;omega
      rw [hU] at f5 ⊢;have j4:=aside bB;clear bB i6 z1
      go_wp2_with (at_builtin;refine lJ AX _ rfl _ _ rfl wo.heap.size _ _ _ rfl f5 _ _ _ rfl g3 rfl d5 d9.1 d9.2 c3 ?_;intro v5 w5 h5 b9 g4;obtain⟨a5,c5,rfl,_⟩:=gZ h5)
      have l1:Below wo.heap.size (wq.alloc (Obj.cells #[.int .i64 (k:Int)] 3)) w5:=(aK _ _).grown b9 c3 (fun g e=>(lX f5 g e).1);have f4:Below wo.heap.size wq w5:=(j4.o.mono qA.o.2.2.2).trans l1;refine⟨⟨k+1,(gU LL nv k).length+1,c5,a5,by simp,?_,by simp,by omega,?_,?_,?_,?_⟩,by simp [RowKit.intOf];omega⟩
      ·rw [a8.o];omega
      ·exact qA.o.1.trans (f4.mono b4.o.1.size)
      ·exact qA.o.2.1.of_block (f4.block g0 (b4.o.2.lt))
      ·rw [j2.o,if_pos i3];unfold eL;rw [aV,pM];exact h5
      ·exact aE qA.o.2.2.2 f4.size
     ·have f7:¬(1:Int)<(cn:Int):=by omega
      go_wp2;exact⟨⟨k+1,l2,c2,a2,rfl,by omega,by simp,by omega,qA.o.1,qA.o.2.1,by rw [j2.o,if_neg (fun h=>i3 h)];exact qA.o.2.2.1,qA.o.2.2.2⟩,by simp [RowKit.intOf];omega⟩
    ·obtain rfl:k=nv:=by omega
     clear hBq hCq hOq hsq;go_wp2
     go_ret2
     exact⟨qA.o.1,_,rfl,fun h=>absurd rfl h,fun _=>by rw [pE.o];have e:(k:Int).toNat=k:=CL k;rw [e,←JF];exact nW qA.o.2.2.1 b4.o.1.size⟩
end Go.Proofs.YtealgacfnbbgdaaGreatDoor
namespace Go.Proofs.YtealgacfnbbgdaaGreatDoor
open Go.RowKit Go.Big
def My {cur:List Nat} {k x:Nat} (hk:k<cur.length):(cur.set k x).drop k=x::cur.drop (k+1):=by
 rw [qF (by simpa using hk)];congr 1
 ·simp
 ·apply CK;intro j;rw [mC,mC,CJ (by omega)]
def LQ:∀(k:Nat) {n:Nat},n<2^k→(lT n).length≤k
 |0,n,h=>by
  have:n=0:=by simpa using h
  subst this;simp [FE]
 | k+1,n,h=>by
  by_cases h0:n=0
  ·subst h0;simp [FE]
  ·rw [LP h0,jD];have:=LQ k (n:=n/10) (by
    rw [gK] at h;generalize 2^k=P at*;omega)
   omega
def WG {v M:Nat} (hv:v<65536^M) (hM:M≤1048576):(lT v).length≤16777216:=by
 have h2:(65536:Nat)^M=2^(16*M):=by rw [uV]
 rw [h2] at hv;have:=LQ _ hv;omega
def IR (r1:Value) (n1 v M:Nat) (hv:v<65536^M) (hM:M≤1048576) (w:Wo) (e8:n1≤w.heap.size) (h1:cM n1 w r1 v):
  Cz 99 #[r1] w fun e w'=>e= .returned (.string (cK (dec v)))∧Bz w w':=by
 by_cases b4:v=0
 ·obtain⟨a1,a0,c1,rfl⟩:=h1.slice;obtain rfl:a0=0:=h1.zero_iff.1 b4;subst b4;clear h1 hv;go_enter Tryz.func99,Tryz.ntmps99;go_wp2
  go_ret
  refine⟨?_,aK _ _⟩;have:cK (dec 0)={ data:=#[48] }:=by rw [show dec 0= [48] from rfl];rfl
  rw [this];rfl
 ·obtain⟨a1,a0,c1,rfl⟩:=h1.slice;have e6:a0≠0:=fun e=>b4 (h1.zero_iff.2 e)
  have e9:((a0:Int)==0)=false:=by simp;omega
  have i1:=h1.up e8;clear h1 e6;go_enter Tryz.func99,Tryz.ntmps99;go_wp2
  go_loopw [0,3] (fun s0 s3 wr=>∃(x:Nat) (D:List Nat),cM wr.heap.size wr s0 x∧lT v=D++lT x∧x≤v∧gA w.heap.size wr s3 (D.map (48+·))∧Bz w wr) (fun s0 _ wr=>natAt wr s0)
  case atStart=>exact⟨v,[],i1,rfl,aA _,gA.nil _ _,aK _ _⟩
  case round=>
   clear i1;obtain⟨x,D,hN,hD,hxv,hR,hB⟩:=hrel;have m0:=hN.natAt;obtain⟨a2,A,c2,rfl,hlc,hcm,hat,hz,hAx⟩:=hN;have a6:D.length≤16777216:=by
    have:=WG hv hM;rw [hD,aV] at this;omega
   have d4:x<65536^M:=iV hxv hv;have d5:A.length≤1048576:=aE (hz.len_of (hAx▸d4)) hM;obtain⟨len,hl⟩:=enm A.length;rw [hl] at hlc d5 m0 ⊢;have Al:=aside3 hl hAx hD;clear hl hAx hD d4
   by_cases d1:len=0
   ·subst d1;have b9:A= []:=mE Al.o.1;have hx:x=0:=by have:=Al.o.2.1;rw [b9] at this;exact this.symm
    have c6:lT v=D:=by have:=Al.o.2.2;rw [hx,FE,yU] at this;exact this
    obtain⟨n,hn⟩:=enm D.length;rw [hn] at a6;have b8:=hR.at;obtain⟨a3,c3,rfl,hc3,hc3m,hbat⟩:=b8;rw [mB,hn] at hc3 ⊢;have d0:=NE (P:=Tryz.prog) 84 5 (.int .u8 0) 1 Tryz.underlying84 inf5 rfl .i64 .i64 n (by omega) (by omega);have AD:=aside2 c6 hn;clear c6 hn hx b9 hat hz m0;obtain⟨wq,rfl⟩:=enr wr;go_wp2
    go_loopw [54] (fun s w2=>∃(i:Nat) (cur:List Nat),s= .int .i64 i∧i≤n∧BBlk w2 wq.heap.size cur∧cur.length=n∧(∀j,j<i→cur[n-1-j]?=(D.map (48+·))[j]?)∧Bz wq w2) (fun s _=>n-(RowKit.intOf s).toNat)
    case atStart=>exact⟨0,List.replicate n 0,rfl,cJ _,BBlk.made _ _,by simp,fun j hj=>absurd hj (by omega),aC _ _⟩
    case round=>
     obtain⟨i,cur,rfl,hi,hQ,hcl,hrev,hB2⟩:=hrel
     by_cases b3:i<n
     ·obtain⟨y,hy⟩:∃y,(D.map (48+·))[i]?=some y:=⟨_,cE (by rw [mB,AD.o.2];exact b3)⟩;obtain⟨b1,o1,rfl,hbn,hcc⟩:=(hbat.below hB2 (aA _)) (by rintro h;rw [h] at hy;simp at hy);have hc:=hcc i y hy;obtain⟨m,hm⟩:=enm (n-1-i);obtain⟨e0,he0⟩:∃e0,cur[m]?=some e0:=⟨_,cE (by omega)⟩;obtain⟨c0,z0⟩:=hQ.cell he0;have f6:IntKind.i64.wrap ((n:Int)-1)=(n:Int)-1:=by rw [eF];omega
      have f7:IntKind.i64.wrap ((n:Int)-1-(i:Int))=(m:Int):=by rw [eF];omega
      have g7:=ewr (i:=i) (by omega);have e2:(i:Int)<(n:Int):=by omega
      have f8:(m:Int)<(n:Int):=by omega
      have e3:(0:Int)≤(i:Int):=by omega
      have f9:(0:Int)≤(m:Int):=by omega
      have a4:∀j,j<i+1→(cur.set m y)[n-1-j]?=(D.map (48+·))[j]?:=fun j hj=>by
       by_cases e4:j=i
       ·subst e4;rw [hm,hy,GW (by omega)]
       ·rw [CJ (by omega)];exact hrev j (by omega)
      have AR:Aside ((∀j,j<i+1→(cur.set m y)[n-1-j]?=(D.map (48+·))[j]?)∧cur.length=n∧m<cur.length):=⟨a4,hcl,by omega⟩;clear hrev a4 hcl hy hm hcc hbat he0;go_wp2;go_roundw
      case rel=>exact⟨i+1,cur.set m y,by simp,by omega,hQ.put AR.o.2.2,by simp [AR.o.2.1],AR.o.1,hB2.setCell (aA _) _⟩
      case measure=>simp [RowKit.intOf];omega
     ·obtain rfl:i=n:=by omega
      have a8:cur=(D.map (48+·)).reverse:=by
       apply CK;intro j
       by_cases hj:j<i
       ·have h9:=hrev (i-1-j) (by omega);rw [show i-1-(i-1-j)=j by omega] at h9;rw [h9,List.getElem?_reverse (by rw [mB,AD.o.2];exact hj),mB,AD.o.2]
       ·rw [wO (by omega),wO (by rw [List.length_reverse,mB,AD.o.2];omega)]
      have g5:=hQ.string hcl;have AF:Aside (cK cur=cK (dec v)):=by
       show cK cur=cK (dec v);unfold dec;rw [if_neg b4,AD.o.1,a8,List.map_reverse]
      clear hrev a8 hcl;go_wp2
      go_ret
      exact⟨by rw [←AF.o];rfl,hB.trans (hB2.mono hB.size)⟩
   ·have g0:(0:Int)<(len:Int):=by omega
    have e7:0<len:=by omega
    have d0:=NE (P:=Tryz.prog) 183 3 (.int .i64 0) 8 Tryz.underlying183 inf3 rfl .i64 .i64 len (by omega) (by omega);have g9:IntKind.i64.wrap ((len:Int)-1)=(len:Int)-1:=by rw [eF];omega
    clear d1;obtain⟨wq,rfl⟩:=enr wr;go_wp2
    go_loopw [4,6] (fun s4 s6 w2=>∃(k r:Nat) (cur:List Nat),s6= .int .i64 ((k:Int)-1)∧s4= .int .i64 r∧k≤len∧r<10∧IRow w2 wq.heap.size cur∧cur.length=len∧(∀y∈cur,y<65536)∧val 65536 (A.drop k)=10*val 65536 (cur.drop k)+r∧Bz wq w2) (fun _ s6 _=>(RowKit.intOf s6+1).toNat)
    case atStart=>exact⟨len,0,List.replicate len 0,rfl,rfl,aA _,by omega,IRow.made _ _,by simp,by simp,by rw [GY (by rw [Al.o.1];exact aA _),GY (by simp)];rfl,aC _ _⟩
    case round=>
     obtain⟨k,r,cur,rfl,rfl,hk,hr,hQ,hcl,hcd,hval,hB2⟩:=hrel
     by_cases e5:k=0
     ·subst e5;rw [gB,gB,Al.o.2.1] at hval;have d2:x/10=val 65536 cur:=by omega
      have d3:x%10=r:=by omega
      have b0:x≠0:=by
       have:=Al.o;intro e;have h9:=(hz.nil_iff (B:=65536) (by decide)).1 (this.2.1.trans e);rw [h9] at this;simp at this;omega
      have c5:lT v=(D++ [r])++lT (val 65536 cur):=by rw [Al.o.2.2,LP b0,d2,d3];simp
      have b3:val 65536 cur<x:=by omega
      have f5:IntKind.u8.wrap (48+(r:Int))=((48+r:Nat):Int):=by
       simp [IntKind.wrap,IntKind.bits,IntKind.signed];omega
      have g6:IntKind.i64.wrap (48+(r:Int))=48+(r:Int):=by rw [eF];omega
      obtain⟨p,hp⟩:=enm (48+r);rw [hp] at f5;have g1:48+(r:Int)=(p:Int):=by omega
      have ho:gA w.heap.size (wr.alloc (Obj.cells #[bv p] 5)) u3 (D.map (48+·)):=(hR.below hB2 (aA _)).below (aC _ _) (aA _);have f0:=sK wr [bv p] 5 (0,0);have f2:=hB.size;have f3:=hB2.size;have d8:(D.map (48+·)).length+1≤17592186044416:=by rw [mB];omega
      have d9:w.heap.size≤(wr.alloc (Obj.cells #[bv p] 5)).heap.size:=by simp;omega
      have d6:Bz w (wr.alloc (Obj.cells #[bv p] 5)):=(hB.trans (hB2.mono f2)).alloc (by omega) _;have c8:IRow (wr.alloc (Obj.cells #[bv p] 5)) wq.heap.size cur:=hQ.kept (aC _ _) (cV.1 hQ).1;have b7:=(cV.1 c8).1;have b6:=hR.own;have AA:=aside4 c5 b3 hp hcl;clear hval d2 d3 b0 c5 b3 hp hcl hB2 hQ d0
      go_wp2_with (at_builtin;refine OI _ rfl _ _ rfl w.heap.size _ (D.map (48+·)) [p] 1 rfl rfl wr.heap.size 1 rfl f0 ho d8 d9 ?_;intro v' w3 a9 a5 e1)
      have d7:IRow w3 wq.heap.size cur:=(e1.block _ b7 (fun e=>by have:=(b6 _ e.symm).2;omega)).trans c8;have a7:=d7.at hcd;have f4:=zH (some ⟨wq.heap.size,0,none⟩) len len w3.heap.size cur AA.o.2.2.2 (by omega) (aA _) w3 (aA _) a7
      go_wp2_with (go_at_call 171;with_reducible refine f4.mono ?_;rintro e w4 ⟨kk,rfl,hT,hb4⟩)
      have c7:cM w4.heap.size w4 (.slice (some ⟨wq.heap.size,0,none⟩) kk len) (val 65536 cur):=cM.of_trim hT (by have:=hT.1;have:=AA.o.2.2.2;omega) (by unfold maxLen;omega) ((a7.below hb4 (aA _)).up hb4.size) rfl;have c4:=d6.trans a5;go_roundw
      case rel=>exact⟨val 65536 cur,D++ [r],c7,AA.o.1,by have:=AA.o.2.1;omega,by rw [pM];show gA _ _ _ (_++ [48+r]);rw [AA.o.2.2.1];exact a9.below hb4 (aA _),c4.trans (hb4.mono c4.size)⟩
      case measure=>
       have q1:=c7.natAt;have q2:=AA.o.2.1;clear AA;simp [q1,m0];omega
     ·obtain⟨k',rfl⟩:∃k',k=k'+1:=⟨k-1,by omega⟩;have e0:(((k'+1:Nat):Int)-1)=k':=by omega
      rw [e0];have hy:=uM (L:=A) (i:=k') (by have:=Al.o.1;omega);obtain⟨y,hye⟩:=enm (dg A k');rw [hye] at hy;obtain⟨b1,o1,rfl,hbn,hyl,hc⟩:=(hat.below hB2 (aA _)).get hy;obtain⟨t,ht⟩:=enm (r*65536+y);have b2:=Na (q:=10) (by decide) hy hval ht.symm;have c9:=My (cur:=cur) (k:=k') (x:=t/10) (by omega);rw [←c9] at b2;obtain⟨p,hp⟩:=enm (t/10);obtain⟨q,hq⟩:=enm (t%10);rw [hp,hq] at b2;have f1:p<65536:=by omega
      have b7:q<10:=by omega
      have f6:IntKind.i64.wrap ((r:Int)*65536)=(r:Int)*65536:=by rw [eF];omega
      have f7:IntKind.i64.wrap ((r:Int)*65536+(y:Int))=(t:Int):=by rw [eF];omega
      have g2:(t:Int)/10=(p:Int):=by omega
      have g3:Int.tdiv (t:Int) 10=(p:Int):=by rw [←hp];exact(Int.ofNat_tdiv t 10).symm
      have g4:Int.tmod (t:Int) 10=(q:Int):=by rw [←hq];exact(Ba t 10).symm
      have g8:IntKind.i64.wrap ((k':Int)-1)=(k':Int)-1:=by rw [eF];omega
      have e2:(k':Int)<(len:Int):=by omega
      have e3:(0:Int)≤(k':Int):=by omega
      obtain⟨c0,z0⟩:=hQ.cell (uM (L:=cur) (i:=k') (by omega));have b5:∀e∈cur.set k' p,e<65536:=fun e he=>by
       rcases GQ he with he|rfl
       ·exact hcd e he
       ·exact f1
      have AA:=aside2 b2 hcl;clear b2 c9 hp hq ht hval hye hy hcl e0;go_wp2;go_roundw
      case rel=>exact⟨k',q,cur.set k' p,by simp,by simp,by omega,b7,hQ.put (by have:=AA.o.2;omega),by simp [AA.o.2],b5,AA.o.1,hB2.setCell (aA _) _⟩
      case measure=>simp [RowKit.intOf]
section
attribute [local go_sem] Heavy.uponW
def Of (y:Nat):(jA y 1==0)=decide (y=1):=by
 unfold jA
 by_cases h1:y<1
 ·rw [if_pos h1];simp;omega
 ·rw [if_neg h1]
  by_cases h2:1<y
  ·rw [if_pos h2];simp;omega
  ·rw [if_neg h2];simp;omega
def Fx (neg:Bool) (r1 r2:Value) (n x y P M:Nat) (hP:P=65536^M) (hM:M≤1048576) (a7:1≤M) (hy:y<P) (w:Wo) (hn:n≤w.heap.size) (h1:cM n w r1 x) (h2:cM n w r2 y):
  Cz 154 #[.agg #[.bool neg,r1,r2]] w fun e w'=>e= .returned (.bool (decide (y=1)))∧Bz w w':=by
 obtain⟨a1,l1,c1,rfl⟩:=h1.slice;obtain⟨a2,l2,c2,rfl⟩:=h2.slice;have a4:=aC w (Obj.cells #[.bool neg,.slice a1 l1 c1,.slice a2 l2 c2] 230);have a5:=aC (w.alloc (Obj.cells #[.bool neg,.slice a1 l1 c1,.slice a2 l2 c2] 230)) (Obj.cells #[.int .i64 1] 3);have hb:Bz w ((w.alloc (Obj.cells #[.bool neg,.slice a1 l1 c1,.slice a2 l2 c2] 230)).alloc (Obj.cells #[.int .i64 1] 3)):=a4.trans (a5.mono (by simp));have a0:=JL (w.alloc (Obj.cells #[.bool neg,.slice a1 l1 c1,.slice a2 l2 c2] 230));have a3:=DJ _ _ _ _ y 1 M _ (h2.below hb hn) a0 (hP▸hy) (ZV (by omega) (by decide)) hM;rw [eX] at a3;have a6:=Of y;obtain⟨cv,hc⟩:=enm (jA y 1);obtain⟨d,hd⟩:=enm (decide (y=1));rw [hc] at a3 a6;rw [hd] at a6 ⊢;clear hc hd a0 a4 a5 h1 h2;go_enter Tryz.func154,Tryz.ntmps154
 go_wp2_with (go_at_call 205;with_reducible refine a3.mono ?_;rintro e w' ⟨rfl,rfl⟩)
 go_ret
 exact⟨rfl,hb⟩
end
def vX {v M:Nat} (hv:v<65536^M) (hM:M≤1048576):(dec v).length≤16777217:=by
 unfold dec;split
 ·simp
 ·have:=WG hv hM;simp;omega
def mZ (neg:Bool) (x y:Nat):List Nat:=(if neg then [45] else [])++(dec x++if y=1 then [] else 114::dec y)
def rL (A C:List Nat) (a c:ByteArray) (ha:a=cK A) (hc:c=cK C) (h:A.length+C.length≤9223372036854775807) (w:Wo):(Op.stringOp .add a c).run Tryz.prog w= .ok (.string (cK (A++C))) w:=by
 subst ha;subst hc;rw [run_string_add_sum w _ _ (by rw [tK,tK];exact h),Cs]
def Eu (v:Value) (neg:Bool) (n x y P M:Nat) (hP:P=65536^M) (hM:M≤1048576) (a5:1≤M) (hx:x<P) (hy:y<P) (w:Wo) (hn:n≤w.heap.size) (h:RatR n w v neg x y):
  Cz 130 #[v] w fun e w'=>e= .returned (.string (cK (mZ neg x y)))∧Bz w w':=by
 obtain⟨r1,r2,rfl,h1,h2⟩:=h;obtain⟨a1,l1,c1,rfl⟩:=h1.slice;obtain⟨a2,l2,c2,rfl⟩:=h2.slice;have lx:=vX (hP▸hx) hM;have ly:=vX (hP▸hy) hM;obtain⟨wb,hwb⟩:=enm (w.alloc (Obj.cells #[.bool neg,.slice a1 l1 c1,.slice a2 l2 c2] 230));have b1:Bz w wb:=hwb▸aC _ _;have q1:wb.heap[w.heap.size]?=_:=hwb▸bY w (Obj.cells #[.bool neg,.slice a1 l1 c1,.slice a2 l2 c2] 230);have a6:w.heap.size<wb.heap.size:=by rw [←hwb,eX];omega
 have g1:=h1.below b1 hn;have g2:=h2.below b1 hn;have d1:=IR _ n x M (hP▸hx) hM wb (by omega) g1;have d2:=fun w' (hb:Bz wb w')=>IR _ n y M (hP▸hy) hM w' (by have:=hb.size;omega) (g2.below hb (by omega))
 have d3:=fun w' (hb:Bz wb w')=>Fx neg _ _ n x y P M hP hM a5 hy w' (by have:=hb.size;omega) (g1.below hb (by omega)) (g2.below hb (by omega))
 have fc:∀w2,Bz wb w2→w2.cell? ⟨w.heap.size,0,none⟩=some (.bool neg)∧w2.cell? ⟨w.heap.size,1,none⟩=some (.slice a1 l1 c1)∧w2.cell? ⟨w.heap.size,2,none⟩=some (.slice a2 l2 c2):=fun w2 hb=>by
  have:=(hb.block w.heap.size a6).trans q1;simp [World.cell?,this]
 obtain⟨k0,k1,k2⟩:=fc wb (aK _ _);have s1:∀w,(Op.stringOp .add { data:=#[45] } (cK (dec x))).run Tryz.prog w= .ok (.string (cK (45::dec x))) w:=fun w=>rL [45] (dec x) { data:=#[45] } _ rfl rfl (by simp;omega) w
 have s2:∀w,(Op.stringOp .add { data:=#[114] } (cK (dec y))).run Tryz.prog w= .ok (.string (cK (114::dec y))) w:=fun w=>rL [114] (dec y) { data:=#[114] } _ rfl rfl (by simp;omega) w
 have s3:∀w,(Op.stringOp .add (cK (dec x)) (cK (114::dec y))).run Tryz.prog w= .ok (.string (cK (dec x++114::dec y))) w:=fun w=>rL (dec x) (114::dec y) _ _ rfl rfl (by simp;omega) w
 have s4:∀w,(Op.stringOp .add (cK (45::dec x)) (cK (114::dec y))).run Tryz.prog w= .ok (.string (cK (45::(dec x++114::dec y)))) w:=fun w=>rL (45::dec x) (114::dec y) _ _ rfl rfl (by simp;omega) w
 unfold mZ;generalize dec x=dx,dec y=dy at*;clear q1 g1 g2 h1 h2 lx ly
 by_cases a3:y=1
 ·have hd:decide (y=1)=true:=mN a3;rw [hd] at d3;have Ay:=aside a3;clear hd a3;cases neg
  ·go_enter Tryz.func130,Tryz.ntmps130
   go_wp2_with first|(go_at_call 99;with_reducible refine d1.mono ?_;rintro e w1 ⟨rfl,hb1⟩;have p0:=(fc _ hb1).1;have p1:=(fc _ hb1).2.1;have p2:=(fc _ hb1).2.2)|(go_at_call 154;with_reducible refine(d3 _ hb1).mono ?_;rintro e w2 ⟨rfl,hb2⟩;have a0:=hb1.trans (hb2.mono hb1.size);have p5:=(fc _ a0).2.2)|(go_at_call 99;with_reducible refine(d2 _ a0).mono ?_;rintro e w3 ⟨rfl,hb3⟩;have a4:=a0.trans (hb3.mono a0.size))
   go_ret
   exact⟨rfl,b1.trans (a0.mono b1.size)⟩
  ·go_enter Tryz.func130,Tryz.ntmps130
   go_wp2_with first|(go_at_call 99;with_reducible refine d1.mono ?_;rintro e w1 ⟨rfl,hb1⟩;have p0:=(fc _ hb1).1;have p1:=(fc _ hb1).2.1;have p2:=(fc _ hb1).2.2)|(go_at_call 154;with_reducible refine(d3 _ hb1).mono ?_;rintro e w2 ⟨rfl,hb2⟩;have a0:=hb1.trans (hb2.mono hb1.size);have p5:=(fc _ a0).2.2)|(go_at_call 99;with_reducible refine(d2 _ a0).mono ?_;rintro e w3 ⟨rfl,hb3⟩;have a4:=a0.trans (hb3.mono a0.size))
   go_ret
   exact⟨rfl,b1.trans (a0.mono b1.size)⟩
 ·have hd:decide (y=1)=false:=kU a3;rw [hd] at d3;have Ay:=aside a3;clear hd a3;cases neg
  ·go_enter Tryz.func130,Tryz.ntmps130
   go_wp2_with first|(go_at_call 99;with_reducible refine d1.mono ?_;rintro e w1 ⟨rfl,hb1⟩;have p0:=(fc _ hb1).1;have p1:=(fc _ hb1).2.1;have p2:=(fc _ hb1).2.2)|(go_at_call 154;with_reducible refine(d3 _ hb1).mono ?_;rintro e w2 ⟨rfl,hb2⟩;have a0:=hb1.trans (hb2.mono hb1.size);have p5:=(fc _ a0).2.2)|(go_at_call 99;with_reducible refine(d2 _ a0).mono ?_;rintro e w3 ⟨rfl,hb3⟩;have a4:=a0.trans (hb3.mono a0.size))
   go_ret
   exact⟨rfl,b1.trans (a4.mono b1.size)⟩
  ·go_enter Tryz.func130,Tryz.ntmps130
   go_wp2_with first|(go_at_call 99;with_reducible refine d1.mono ?_;rintro e w1 ⟨rfl,hb1⟩;have p0:=(fc _ hb1).1;have p1:=(fc _ hb1).2.1;have p2:=(fc _ hb1).2.2)|(go_at_call 154;with_reducible refine(d3 _ hb1).mono ?_;rintro e w2 ⟨rfl,hb2⟩;have a0:=hb1.trans (hb2.mono hb1.size);have p5:=(fc _ a0).2.2)|(go_at_call 99;with_reducible refine(d2 _ a0).mono ?_;rintro e w3 ⟨rfl,hb3⟩;have a4:=a0.trans (hb3.mono a0.size))
   go_ret
   exact⟨rfl,b1.trans (a4.mono b1.size)⟩
