/- Lemmas; no condition. -/
import Derived.Test.YtealgacfnbbgdaaGreatDoorAv
import Derived.Shelf.Strings.Repeat
import Derived.Shelf.Strconv.Itoa3
set_option linter.all false
set_option maxHeartbeats 4000000
set_option maxRecDepth 100000
namespace Go.Proofs.YtealgacfnbbgdaaGreatDoor
open Go.RowKit Go.Big Go.RowsK Go.MapK
variable {LL:List (List Tm)} {cal:Tm→Bool} {C C':Array Value} {T h:Tm} {X us:Lv} {c g i k:Nat}
section
attribute [local go_sem] Heavy.uponW
def KCP (w:Wo) (F:Int) (pl:Bool) (LL:List (List Tm)) (e:Ending) (w':Wo):Prop:=Bz w w'∧∃v,e= .returned (.tuple #[v,.int .i64 (if F=0 then(if pl then 0 else 13) else F)])∧(¬(F=0∧pl=true)→v= .slice none 0 0)∧
 (F=0→pl=true→∃X S,w'.ownsRow w.heap.size 25 1 v LL.length X∧Rws S w.heap.size w' X LL∧(∀b,S b→b<w'.heap.size)∧∀z∈v::X,∀g,z.ownBlock=some g→¬S g)
def Gx (bi:ByteArray→Int→Bool) (C:Cl) (n:Nat) (w:Wo) (vs:Lv) (h:ClV n w C vs) (hn:n≤w.heap.size) (a4:BiOk 80 bi w) (hN:dK C=0→C.b.nodes≤1000000) (hz:dK C=0→∀T∈C.b.gls,T.nsz≤1048576):
  Cz 7 #[.agg vs.toArray] w (KCP w (dK C) C.b.pl (eS (Tm.cal bi) C.h C.b.gls)):=by
 have dc:=fun w2 (hb:Bz w w2)=>IU C n w2 vs (h.below hb hn) (aE hn hb.size)
 have dk:Aside (dK C=0→∀w2,Bz w w2→Cz 21 #[.agg vs.toArray] w2 (ChP n w2 (eS (Tm.cal bi) C.h C.b.gls))):=fun hf w2 (hb:Bz w w2)=>RC bi C n w2 vs (h.below hb hn) (aE hn hb.size) (a4.mono hb) (hN hf) (hz hf)
 obtain⟨vh,vb,rfl,hH,hB⟩:=h;have TA:=aside2 hB hn;obtain⟨kx,vx,nmx,gx,px,nx,qx,rx,mx,ux,ax,lx,cx,rfl⟩:=TmV.seven hH;obtain⟨ky,vy,nmy,gy,py,ny,qy,ry,my,uy,ay,ly,cy,rfl⟩:=TmV.seven hB;obtain⟨vars,hvars⟩:∃v,C.vars=v:=⟨_,rfl⟩;rw [hvars] at dc dk ⊢;obtain⟨F,hF⟩:∃f,dK C=f:=⟨_,rfl⟩;rw [hF] at dc dk ⊢;obtain⟨pl,hpl⟩:∃f,C.b.pl=f:=⟨_,rfl⟩;rw [hpl];obtain⟨LL,hLL⟩:∃f,eS (Tm.cal bi) C.h C.b.gls=f:=⟨_,rfl⟩;rw [hLL] at dk ⊢;have b0:=aC w (Obj.cells (tC kx vx nmx gx px nx qx rx mx ux ax lx cx ky vy nmy gy py ny qy ry my uy ay ly cy vars) 29);have hq:=bY w (Obj.cells (tC kx vx nmx gx px nx qx rx mx ux ax lx cx ky vy nmy gy py ny qy ry my uy ay ly cy vars) 29);obtain⟨wa,hwa⟩:∃x,w.alloc (Obj.cells (tC kx vx nmx gx px nx qx rx mx ux ax lx cx ky vy nmy gy py ny qy ry my uy ay ly cy vars) 29)=x:=⟨_,rfl⟩;have a5:wa.heap.size=w.heap.size+1:=by rw [←hwa];simp
 rw [hwa] at b0 hq;have a3:=aside b0;have fa:Aside (∀w2,Bz wa w2→_):=fun(w2:Wo) (hb:Bz wa w2)=>jK ((hb.block w.heap.size (by omega)).trans hq)
 have d1:=dc wa b0;replace d1:Cz 15 #[.agg (tC kx vx nmx gx px nx qx rx mx ux ax lx cx ky vy nmy gy py ny qy ry my uy ay ly cy vars)] wa _:=d1;have d2:Aside (∀w2,Bz w w2→Cz 20 #[.agg (tA ky vy nmy gy py ny qy ry my uy ay ly cy)] w2 fun e w'=>e= .returned (.bool pl)∧Bz w2 w'):=by
  show∀w2,_;intro w2 hb;rw [←hpl];exact IH C.b n w2 _ (TmV.below hb TA.o.2 _ _ TA.o.1) (aE TA.o.2 hb.size)
 replace dk:Aside (F=0→∀w2,Bz w w2→Cz 21 #[.agg (tC kx vx nmx gx px nx qx rx mx ux ax lx cx ky vy nmy gy py ny qy ry my uy ay ly cy vars)] w2 (ChP n w2 LL)):=dk;obtain⟨x0,x1,x2,x3,x4,x5,x6,x7,x8,x9,x10,x11,x12,x13,x14⟩:=jK hq;clear hH hB hvars hF b0 hq dc hn a4 hN hpl hLL hz;show Cz 7 #[.agg (tC kx vx nmx gx px nx qx rx mx ux ax lx cx ky vy nmy gy py ny qy ry my uy ay ly cy vars)] w _;go_enter Tryz.func7,Tryz.ntmps7
 by_cases a2:F=0
 case neg=>
  have e1:(F==0)=false:=by simpa using a2
  have e2:(F !=0)=true:=by simpa using a2
  have FA:=aside a2;clear a2
  go_wp2_with (go_at_call 15;(with_reducible refine d1.mono ?_);rintro e w2 ⟨rfl,hb2⟩)
  go_ret2
  exact⟨a3.o.trans (hb2.mono a3.o.size),_,by rw [if_neg FA.o];rfl,fun _=>rfl,fun h=>absurd h FA.o⟩
 subst a2;replace dk:Aside (∀w2,Bz w w2→Cz 21 #[.agg (tC kx vx nmx gx px nx qx rx mx ux ax lx cx ky vy nmy gy py ny qy ry my uy ay ly cy vars)] w2 (ChP n w2 LL)):=dk.o rfl
 go_upto_region 4 with(go_at_call 15;(with_reducible refine d1.mono ?_);rintro e w2 ⟨rfl,hb2⟩)
 clear hwa a5 x0 x1 x2 x3 x4 x5 x6 x7 x8 x9 x10 x11 x12 x13 x14;obtain⟨x0,x1,x2,x3,x4,x5,x6,x7,x8,x9,x10,x11,x12,x13,x14⟩:=fa.o w2 hb2;have a0:Aside (Bz w w2∧Bz wa w2):=⟨a3.o.trans (hb2.mono a3.o.size),hb2⟩;clear hb2;cases pl
 case false=>
  go_wp2_with (go_at_call 20;(with_reducible refine(d2.o _ a0.o.1).mono ?_);rintro e w3 ⟨rfl,hb3⟩)
  go_ret2
  exact⟨a0.o.1.trans (hb3.mono a0.o.1.size),_,rfl,fun _=>rfl,fun _ h=>by cases h⟩
 go_upto_region 6 with(go_at_call 20;(with_reducible refine(d2.o _ a0.o.1).mono ?_);rintro e w3 ⟨rfl,hb3⟩)
 clear x0 x1 x2 x3 x4 x5 x6 x7 x8 x9 x10 x11 x12 x13 x14;obtain⟨x0,x1,x2,x3,x4,x5,x6,x7,x8,x9,x10,x11,x12,x13,x14⟩:=fa.o w3 (a0.o.2.trans (hb3.mono a0.o.2.size));have a1:Aside (Bz w w3):=a0.o.1.trans (hb3.mono a0.o.1.size);clear hb3
 go_wp2_with (go_at_call 21;(with_reducible refine(dk.o _ a1.o).mono ?_);rintro e w4 ⟨v4,X,S,rfl,h1,h2,h3,h4,hb4⟩)
 go_ret2
 refine⟨a1.o.trans (hb4.mono a1.o.size),v4,rfl,fun h=>absurd ⟨rfl,rfl⟩ h,fun _ _=>⟨X,S,nW h1 a1.o.size,⟨h2.1,fun k u L hu hL=>?_,h2.2.2⟩,fun b hb=>(h3 b hb).2,h4⟩⟩;obtain⟨Y,y1,y2⟩:=h2.2.1 k u L hu hL;exact⟨Y,nW y1 a1.o.size,y2⟩
end
section
attribute [local go_sem] Heavy.uponW
def Rws.clone {S:Nat→Prop} {base:Nat} {w w3 w4:Wo} {L:List Tm} (h:Rws S base w X LL) (hS:∀b,S b→b<w.heap.size) (hN:∀z∈X,∀g,z.ownBlock=some g→¬S g)
  (hX:X[k]?=some (.slice (some ⟨g,0,none⟩) L.length c)) (hL:LL[k]?=some L) (hT:L[i]?=some T) (a0:Bz w w3) (hC:w3.heap[g]?=some (.cells C 27 (0,0))) (g1:w4.heap[g]?=some (.cells C' 27 (0,0))) (g2:C'.size=C.size)
  (g3:∀j,j<i*7∨i*7+7≤j→C'[j]?=C[j]?) (g4:∀(m:Nat) u,us[m]?=some u→C'[i*7+m]?=some u) (g5:∀b,b≠g→w4.heap[b]?=w3.heap[b]?) (ht:TmS (jM w.heap.size w3.heap.size) w3 T us) (a4:us.length=7):
  Rws (fun b=>S b∨jM w.heap.size w3.heap.size b) base w4 X LL:=by
 have a8:¬S g:=hN _ (bV hX) g rfl;have a9:g<w.heap.size:=(h.lt _ (bV hX) g rfl).2;have a6:eB S w w3:=eB.of_below a0 fun b hb=>hS b hb
 have a7:eB S w3 w4:=fun b hb=>g5 b fun e=>a8 (e▸hb)
 have a3:=(h.2.1 k _ L hX hL).keep a6 fun G hG=>a0.block G ((h.lt _ (bV hX) G hG).2)
 have a2:dN (fun b=>S b∨jM w.heap.size w3.heap.size b) base w4 (.slice (some ⟨g,0,none⟩) L.length c) L:=
  a3.put hT hC g1 g2 g3 g4 a4 a7 (fun b hb=>.inl hb) (TmS.mono (fun b hb=>.inr hb) _ _ (TmS.keep (fun b hb=>g5 b fun e=>by subst e;have:=hb.1;omega) _ _ ht))
 have:=h.upd hX (fun b hb=>Or.inl hb) (fun b hb=>(a7 b hb).trans (a6 b hb)) (fun b hb b0=>(g5 b fun e=>b0 (by rw [e];rfl)).trans (a0.block b hb)) a2 fun G hG=>.inl hG
 have e1:X.set k (.slice (some ⟨g,0,none⟩) L.length c)=X:=by
  apply CK;intro j
  by_cases hj:j=k
  ·subst hj;rw [GW (aZ.1 hX).1,hX]
  ·rw [CJ (fO hj)]
 have e2:LL.set k L=LL:=by
  apply CK;intro j
  by_cases hj:j=k
  ·subst hj;rw [GW (aZ.1 hL).1,hL]
  ·rw [CJ (fO hj)]
 rwa [e1,e2] at this
def CkI (base:Nat) (w wr:Wo) (v:Value) (X:Lv) (LL:List (List Tm)):Prop:=
 ∃S,wr.ownsRow base 25 1 v LL.length X∧Rws S base wr X LL∧(∀b,S b→b<wr.heap.size)∧(∀z∈v::X,∀g,z.ownBlock=some g→¬S g)∧Bz w wr
def CkI.clone {base:Nat} {w wo w3 w4:Wo} {v:Value} {L:List Tm} (h:CkI base w wo v X LL) (hw:w.heap.size≤base)
  (hX:X[k]?=some (.slice (some ⟨g,0,none⟩) L.length c)) (hL:LL[k]?=some L) (hT:L[i]?=some T) (a0:Bz wo w3) (hC:w3.heap[g]?=some (.cells C 27 (0,0))) (g1:w4.heap[g]?=some (.cells C' 27 (0,0))) (g2:C'.size=C.size)
  (g3:∀j,j<i*7∨i*7+7≤j→C'[j]?=C[j]?) (g4:∀(m:Nat) u,us[m]?=some u→C'[i*7+m]?=some u) (g5:∀b,b≠g→w4.heap[b]?=w3.heap[b]?) (g6:Below g w3 w4) (ht:TmS (jM wo.heap.size w3.heap.size) w3 T us) (a4:us.length=7):CkI base w w4 v X LL:=by
 obtain⟨S,h1,h2,h3,h4,h5⟩:=h;have a9:=h2.lt _ (bV hX) g rfl;have hz:=g6.size;have b1:=a0.size;refine⟨fun b=>S b∨jM wo.heap.size w3.heap.size b,tV h1 fun G hG=>?_,h2.clone h3 (fun z hz=>h4 z (mR _ hz)) hX hL hT a0 hC g1 g2 g3 g4 g5 ht a4,fun b hb=>?_,fun z a1 G hG hb=>?_,h5.trans ((a0.mono h5.size).trans (g6.mono (by omega)))⟩
 ·have a5:=(lX h1 G hG).2;refine(g5 G fun e=>?_).trans (a0.block G a5);subst e;rcases h1.2 with⟨q,_⟩|⟨g',cap,C,q,_,hC',_⟩
  ·rw [q] at hG;cases hG
  ·rw [q] at hG;have e':g'=G:=by simpa [Value.ownBlock] using hG
   subst e';have:=(a0.block g' a5).trans hC';exact MF hC this (by decide) rfl
 ·rcases hb with hb|hb
  ·have:=h3 b hb;omega
  ·have:=hb.2;omega
 ·rcases hb with hb|hb
  ·exact h4 z a1 G hG hb
  ·have:G<wo.heap.size:=by
    rcases cN.1 a1 with rfl|a1
    ·exact(lX h1 G hG).2
    ·exact(h2.lt z a1 G hG).2
   have:=hb.1;omega
end
section
attribute [local go_sem] Heavy.uponW
def Om (B:Tm) (hN:B.nodes≤1000000):∀r∈eS cal h B.gls,r.length≤1048576:=by
 have h1:=HX (cal:=cal) (h:=h) B.gls;have h2:=uJ B;intro r hr;unfold eS at hr;split at hr
 ·have:=h1.2.2 r hr;omega
 ·rcases eY.1 hr with hr|hr
  ·have:=h1.2.2 r hr;omega
  ·have e:=mP.1 hr;subst e;omega
def FJ (B:Tm) (hN:B.nodes≤1000000):(eS cal h B.gls).length≤1000001:=by
 have h1:=(HX (cal:=cal) (h:=h) B.gls).1;have h2:=uJ B;unfold eS;split
 ·omega
 ·rw [aV,oJ];omega
def Ht (bi:ByteArray→Int→Bool) (C:Cl) (n:Nat) (w:Wo) (vs:Lv) (h:ClV n w C vs) (hn:n≤w.heap.size) (b1:BiOk 79 bi w) (hN:dK C=0→C.b.nodes≤1000000) (hz:dK C=0→∀T∈C.b.gls,T.nsz≤1048576):
  Cz 6 #[.agg vs.toArray] w (KCP w (dK C) C.b.pl (eS (Tm.cal bi) C.h C.b.gls)):=by
 have dc:=fun w2 (hb:Bz w w2)=>MD C n w2 vs (h.below hb hn) (aE hn hb.size)
 have dk:Aside (dK C=0→∀w2,Bz w w2→Cz 18 #[.agg vs.toArray] w2 (ChP n w2 (eS (Tm.cal bi) C.h C.b.gls))):=fun hf w2 (hb:Bz w w2)=>RU bi C n w2 vs (h.below hb hn) (aE hn hb.size) (b1.mono hb) (hN hf) (hz hf)
 obtain⟨vh,vb,rfl,hH,hB⟩:=h;have TA:=aside2 hB hn;have nR:Aside (dK C=0→∀r∈eS (Tm.cal bi) C.h C.b.gls,r.length≤1048576):=fun hf=>Om C.b (hN hf)
 have nL:Aside (dK C=0→(eS (Tm.cal bi) C.h C.b.gls).length≤1000001):=fun hf=>FJ C.b (hN hf)
 obtain⟨kx,vx,nmx,gx,px,nx,qx,rx,mx,ux,ax,lx,cx,rfl⟩:=TmV.seven hH;obtain⟨ky,vy,nmy,gy,py,ny,qy,ry,my,uy,ay,ly,cy,rfl⟩:=TmV.seven hB;obtain⟨vars,hvars⟩:∃v,C.vars=v:=⟨_,rfl⟩;rw [hvars] at dc dk ⊢;obtain⟨F,hF⟩:∃f,dK C=f:=⟨_,rfl⟩;rw [hF] at dc dk nR nL ⊢;obtain⟨pl,hpl⟩:∃f,C.b.pl=f:=⟨_,rfl⟩;rw [hpl];obtain⟨LL,hLL⟩:∃f,eS (Tm.cal bi) C.h C.b.gls=f:=⟨_,rfl⟩;rw [hLL] at dk nL nR ⊢;have b0:=aC w (Obj.cells (tC kx vx nmx gx px nx qx rx mx ux ax lx cx ky vy nmy gy py ny qy ry my uy ay ly cy vars) 29);have hq:=bY w (Obj.cells (tC kx vx nmx gx px nx qx rx mx ux ax lx cx ky vy nmy gy py ny qy ry my uy ay ly cy vars) 29);obtain⟨wa,hwa⟩:∃x,w.alloc (Obj.cells (tC kx vx nmx gx px nx qx rx mx ux ax lx cx ky vy nmy gy py ny qy ry my uy ay ly cy vars) 29)=x:=⟨_,rfl⟩;have b4:wa.heap.size=w.heap.size+1:=by rw [←hwa];simp
 rw [hwa] at b0 hq;have a5:=aside b0;have fa:Aside (∀w2,Bz wa w2→_):=fun(w2:Wo) (hb:Bz wa w2)=>jK ((hb.block w.heap.size (by omega)).trans hq)
 have d1:=dc wa b0;replace d1:Cz 13 #[.agg (tC kx vx nmx gx px nx qx rx mx ux ax lx cx ky vy nmy gy py ny qy ry my uy ay ly cy vars)] wa _:=d1;have d2:Aside (∀w2,Bz w w2→Cz 17 #[.agg (tA ky vy nmy gy py ny qy ry my uy ay ly cy)] w2 fun e w'=>e= .returned (.bool pl)∧Bz w2 w'):=by
  show∀w2,_;intro w2 hb;rw [←hpl];exact IY C.b n w2 _ (TmV.below hb TA.o.2 _ _ TA.o.1) (aE TA.o.2 hb.size)
 replace dk:Aside (F=0→∀w2,Bz w w2→Cz 18 #[.agg (tC kx vx nmx gx px nx qx rx mx ux ax lx cx ky vy nmy gy py ny qy ry my uy ay ly cy vars)] w2 (ChP n w2 LL)):=dk;obtain⟨x0,x1,x2,x3,x4,x5,x6,x7,x8,x9,x10,x11,x12,x13,x14⟩:=jK hq;clear hH hB hvars hF b0 hq dc hn b1 hN hpl hLL hz;show Cz 6 #[.agg (tC kx vx nmx gx px nx qx rx mx ux ax lx cx ky vy nmy gy py ny qy ry my uy ay ly cy vars)] w _;go_enter Tryz.func6,Tryz.ntmps6
 by_cases a2:F=0
 case neg=>
  have e1:(F==0)=false:=by simpa using a2
  have e2:(F !=0)=true:=by simpa using a2
  have FA:=aside a2;clear a2
  go_wp2_with (go_at_call 13;(with_reducible refine d1.mono ?_);rintro e w2 ⟨rfl,hb2⟩)
  go_ret2
  exact⟨a5.o.trans (hb2.mono a5.o.size),_,by rw [if_neg FA.o];rfl,fun _=>rfl,fun h=>absurd h FA.o⟩
 subst a2;replace dk:Aside (∀w2,Bz w w2→Cz 18 #[.agg (tC kx vx nmx gx px nx qx rx mx ux ax lx cx ky vy nmy gy py ny qy ry my uy ay ly cy vars)] w2 (ChP n w2 LL)):=dk.o rfl
 go_upto_region 4 with(go_at_call 13;(with_reducible refine d1.mono ?_);rintro e w2 ⟨rfl,hb2⟩)
 clear hwa b4 x0 x1 x2 x3 x4 x5 x6 x7 x8 x9 x10 x11 x12 x13 x14;obtain⟨x0,x1,x2,x3,x4,x5,x6,x7,x8,x9,x10,x11,x12,x13,x14⟩:=fa.o w2 hb2;have a0:Aside (Bz w w2∧Bz wa w2):=⟨a5.o.trans (hb2.mono a5.o.size),hb2⟩;clear hb2;cases pl
 case false=>
  go_wp2_with (go_at_call 17;(with_reducible refine(d2.o _ a0.o.1).mono ?_);rintro e w3 ⟨rfl,hb3⟩)
  go_ret2
  exact⟨a0.o.1.trans (hb3.mono a0.o.1.size),_,rfl,fun _=>rfl,fun _ h=>by cases h⟩
 go_upto_region 6 with(go_at_call 17;(with_reducible refine(d2.o _ a0.o.1).mono ?_);rintro e w3 ⟨rfl,hb3⟩)
 clear x0 x1 x2 x3 x4 x5 x6 x7 x8 x9 x10 x11 x12 x13 x14;obtain⟨x0,x1,x2,x3,x4,x5,x6,x7,x8,x9,x10,x11,x12,x13,x14⟩:=fa.o w3 (a0.o.2.trans (hb3.mono a0.o.2.size));have a1:Aside (Bz w w3):=a0.o.1.trans (hb3.mono a0.o.1.size);clear hb3
 go_upto_region 7 with(go_at_call 18;(with_reducible refine(dk.o _ a1.o).mono ?_);rintro e w4 ⟨v4,X,S,rfl,h1,h2,h3,h4,hb4⟩)
 have nA:Aside (LL.length≤1000001):=nL.o trivial;obtain⟨av,cv,rfl,hrd⟩:=gZ h1;obtain⟨lv,hlv⟩:∃n,LL.length=n:=⟨_,rfl⟩;have CA:Aside (CkI w.heap.size w w4 (.slice av lv cv) X LL∧LL.length=lv):=⟨by rw [←hlv];exact⟨S,nW h1 a1.o.size,⟨h2.1,fun k u L hu hL=>by
  obtain⟨Y,y1,y2⟩:=h2.2.1 k u L hu hL;exact⟨Y,nW y1 a1.o.size,y2⟩,h2.2.2⟩,fun b hb=>(h3 b hb).2,h4,a1.o.trans (hb4.mono a1.o.size)⟩,hlv⟩
 have b8:lv≤1000001:=by have:=nA.o;omega
 rw [hlv];clear h1 h2 h3 h4 hb4 hrd hlv x0 x1 x2 x3 x4 x5 x6 x7 x8 x9 x10 x11 x12 x13 x14 a0
 go_upto_region 8 with fail
 go_loopw [22] (fun s wr=>∃k:Nat,s= .int .i64 k∧k≤lv∧CkI w.heap.size w wr (.slice av lv cv) X LL) (fun s _=>lv-(RowKit.intOf s).toNat)
 case atStart=>exact⟨0,rfl,cJ _,CA.o.1⟩
 case round=>
  obtain⟨wo,rfl⟩:=enr wr;obtain⟨k,rfl,hk,hI⟩:=hrel
  by_cases b2:k<lv
  case neg=>
   have IA:Aside _:=hI;clear hI;go_wp2
   go_ret2
   obtain⟨S,i1,i2,i3,i4,i5⟩:=IA.o;exact⟨i5,_,rfl,fun h=>absurd ⟨rfl,rfl⟩ h,fun _ _=>⟨X,S,i1,i2,i3,i4⟩⟩
  obtain⟨L,hL⟩:=egf CA.o.2 b2;have IA:=aside hI;obtain⟨S,i1,i2,i3,i4,i5⟩:=hI;obtain⟨u,hu⟩:=ege (L:=X) (i:=k) (by rw [i2.1,CA.o.2];exact b2);obtain⟨au,cu,rfl⟩:=(i2.2.1 k u L hu hL).form;have b3:L.length≤1048576:=nR.o trivial L (bV hL);obtain⟨b5,cv',e,hr⟩:=gZ i1;injection e with e0 e7 e8
  subst e0;clear e7 e8;rw [CA.o.2] at hr;rcases hr with hr|⟨B,e1,hBb,hBw,hBc⟩
  ·omega
  subst e1;have tB:=hBc k _ hu;obtain⟨ll,hll⟩:∃n,L.length=n:=⟨_,rfl⟩;rw [hll] at tB b3;have UA:=aside3 hL hu hll;obtain⟨b7,hk3,hkw⟩:=elt (i:=k) (n:=lv) (by omega) (by omega);clear hL hu hll hBc hBb hBw i1 i2 i3 i4 i5
  go_upto_region 11 with fail
  clear tB
  go_loopw [28] (fun s wr=>∃i:Nat,s= .int .i64 i∧i≤ll∧CkI w.heap.size w wr (.slice (some ⟨B,0,none⟩) lv cv) X LL) (fun s _=>ll-(RowKit.intOf s).toNat)
  case atStart=>exact⟨0,rfl,cJ _,IA.o⟩
  case round=>
   obtain⟨wi,rfl⟩:=enr wr;obtain⟨i,rfl,hi,hI⟩:=hrel;have JA:=aside hI
   by_cases a7:i<ll
   case neg=>
    obtain rfl:i=ll:=by omega
    clear hI;go_wp2;go_roundw
    case rel=>exact⟨k+1,by simp,by omega,JA.o⟩
    case measure=>simp [RowKit.intOf];omega
   obtain⟨T',hT'⟩:=egf UA.o.2.2 a7;obtain⟨S,i1,i2,i3,i4,i5⟩:=hI;obtain⟨G,c',Cc,vs,e,hbG,hGw,hC,hC7,hv,hc⟩:=(i2.2.1 k _ L UA.o.2.1 UA.o.1).at hT';injection e with e1 e3 e2
   subst e1;clear e3 e2;have a8:TmV wi.heap.size wi T' vs:=TmS.toV (fun b hb=>i3 b hb) _ _ hv;obtain⟨k',v',nm',g',r1,m1',u1,r2,m2',u2,a',l',c',rfl⟩:=TmV.seven a8;have x0:=hc 0 _ rfl;have x1:=hc 1 _ rfl;have x2:=hc 2 _ rfl;have x3:=hc 3 _ rfl;have x4:=hc 4 _ rfl;have x5:=hc 5 _ rfl;have x6:=hc 6 _ rfl;rw [gQ] at x0;obtain⟨b6,hi3,hw3⟩:=elt (i:=i) (n:=ll) (by omega) (by omega);have a6:=LY T' wi.heap.size wi _ a8 (aA _);replace a6:Cz 19 #[.agg (tA k' v' nm' g' r1 m1' u1 r2 m2' u2 a' l' c')] _ _:=a6;have CC:=aside4 hC hC7 hbG hGw;have d3:=a6.mono (R':=fun e w'=>∃k3 v3 a4 g3 p3 n3 q3 r3 m3 u3 a3 l3 c3 z0 z1 z2 z3 z4 z5 z6,e= .returned (.agg (tA k3 v3 a4 g3 p3 n3 q3 r3 m3 u3 a3 l3 c3))∧Aside (TmS (jM wi.heap.size w'.heap.size) w' T' [.int .i64 k3,.int .i64 v3,.string a4,.bool g3,.slice p3 n3 q3,.slice r3 m3 u3,.slice a3 l3 c3])∧Aside (Bz wi w')∧w'.heap[G]?=some (.cells Cc 27 (0,0))∧
     (w'.cell? ⟨G,i*7,none⟩=some z0∧w'.cell? ⟨G,i*7+1,none⟩=some z1∧w'.cell? ⟨G,i*7+2,none⟩=some z2∧w'.cell? ⟨G,i*7+3,none⟩=some z3∧w'.cell? ⟨G,i*7+4,none⟩=some z4∧w'.cell? ⟨G,i*7+5,none⟩=some z5∧w'.cell? ⟨G,i*7+6,none⟩=some z6)) (fun e w' ⟨us,e1,ht,hb⟩=>by
    obtain⟨k3,v3,a4,g3,p3,n3,q3,r3,m3,u3,a3,l3,c3,rfl⟩:=TmV.seven (TmS.toV (n:=w'.heap.size) (fun b hb=>hb.2) _ _ ht);have a9:w'.heap[G]?=some (.cells Cc 27 (0,0)):=(hb.block G CC.o.2.2.2).trans CC.o.1;have at_:∀m,m<7→∃r,w'.cell? ⟨G,i*7+m,none⟩=some r:=fun m hm=>⟨Cc[i*7+m]'(by have:=CC.o.2.1;omega),by simp [World.cell?,a9,show i*7+m<Cc.size by have:=CC.o.2.1;omega]⟩
    obtain⟨z0,e0⟩:=at_ 0 (by omega)
    obtain⟨z1,e1'⟩:=at_ 1 (by omega)
    obtain⟨z2,e2'⟩:=at_ 2 (by omega)
    obtain⟨z3,e3⟩:=at_ 3 (by omega)
    obtain⟨z4,e4⟩:=at_ 4 (by omega)
    obtain⟨z5,e5⟩:=at_ 5 (by omega)
    obtain⟨z6,e6⟩:=at_ 6 (by omega)
    exact⟨_,_,_,_,_,_,_,_,_,_,_,_,_,z0,z1,z2,z3,z4,z5,z6,e1,ht,hb,a9,e0,e1',e2',e3,e4,e5,e6⟩)
   have TT:=aside hT';clear hT' hC hC7 hbG hGw hv hc a8 a6 i1 i2 i3 i4 i5
   go_wp2_with (go_at_call 19;with_reducible refine d3.mono ?_;rintro e w3 ⟨k3,v3,a4,g3,p3,n3,q3,r3,m3,u3,a3,l3,c3,z0,z1,z2,z3,z4,z5,z6,rfl,hts,hb3,hL3,f0,f1,f2,f3,f4,f5,f6⟩;have zz:=qW hL3)
   obtain⟨C',g1,g2,g3',g4,g5,g6⟩:=CY (o:=i*7) (v0:=.int .i64 k3) (v1:=.int .i64 v3) (v2:=.string a4) (v3:=.bool g3) (v4:=.slice p3 n3 q3) (v5:=.slice r3 m3 u3) (v6:=.slice a3 l3 c3) hL3 CC.o.2.1;go_roundw
   case rel=>exact⟨i+1,by simp,by omega,JA.o.clone (aA _) UA.o.2.1 UA.o.1 TT.o hb3.o hL3 g1 g2 g3' g4 g5 g6 hts.o rfl⟩
   case measure=>simp [RowKit.intOf];omega
end
def VZ {L:List (List UInt8 × Nat)} (hL:∀p∈L,p.2≤9) {l:List UInt8} {n:Nat} (hn:10≤n):elB L l n=false:=by
 rw [elB,yW];intro h;obtain⟨p,hp,e⟩:=rT.1 h;simp only [aR,tE] at e;have:=hL p hp;omega
def rsysZ (nm:ByteArray) (z:Int) (w:Wo) (h0:0≤z) (h9:¬z≤9) (h8:¬z≤8) (h1:1≤z) (hn:¬z<0) (h5:5≤z):
  Cz 128 #[.string nm,.int .i64 z] w fun e w'=>(∃v,e= .returned (.tuple #[v,.bool false]))∧Bz w w':=by
 obtain⟨W1,W2,W3,W4,W5,W6,W7,W8,W9,W10,W11,W12,W13,W14,W15,W16,hW1,e1,e2,e3,e4,e5,e6,e7,e8,e9,e10,e11,e12,e13,e14,e15,hB,M,hM,hk⟩:=pP w;have a2:(Instr.makeMap 311 none).run Tryz.prog w= .ok (.map (some w.heap.size)) W1:=by rw [hW1];rfl
 have a1:=aside hB;clear hW1 hk hM hB;cases hc:(nm.toList== [99,97,108,108])
 all_goals
  go_enter Tryz.func128,Tryz.ntmps128;go_wp2
  go_ret2
  exact⟨⟨_,rfl⟩,a1.o⟩
def QH (hR:gY) (nm:ByteArray) (n:Nat) (w:Wo) (hw:Tryz.prog.globals.size≤w.heap.size) (hN:iC w) (hS:eQ w) (hz:nm.size≤1048576):
  Cz 128 #[.string nm,.int .i64 n] w fun e w'=>iU nm n w e w':=by
 by_cases e0:n=0
 ·have ez:(n:Int)=0:=by omega
  rw [ez,e0];exact rsys0 hR nm w hw hN hS hz
 by_cases e1:n=1
 ·have ez:(n:Int)=1:=by omega
  rw [ez,e1];exact rsys1 hR nm w hw hN hS hz
 by_cases e2:n=2
 ·have ez:(n:Int)=2:=by omega
  rw [ez,e2];exact rsys2 hR nm w hw hN hS hz
 by_cases e3:n=3
 ·have ez:(n:Int)=3:=by omega
  rw [ez,e3];exact rsys3 hR nm w hw hN hS hz
 by_cases e4:n=4
 ·have ez:(n:Int)=4:=by omega
  rw [ez,e4];exact rsys4 hR nm w hw hN hS hz
 by_cases e5:n=5
 ·have ez:(n:Int)=5:=by omega
  rw [ez,e5];exact rsys5 hR nm w hw hN hS hz
 by_cases e6:n=6
 ·have ez:(n:Int)=6:=by omega
  rw [ez,e6];exact rsys6 hR nm w hw hN hS hz
 by_cases e7:n=7
 ·have ez:(n:Int)=7:=by omega
  rw [ez,e7];exact rsys7 hR nm w hw hN hS hz
 by_cases e8:n=8
 ·have ez:(n:Int)=8:=by omega
  rw [ez,e8];exact rsys8 hR nm w hw hN hS hz
 by_cases e9:n=9
 ·have ez:(n:Int)=9:=by omega
  rw [ez,e9];exact rsys9 hR nm w hw hN hS hz
 have hb:cS nm.toList n=false:=oT (VZ DT (by omega)) (.inr (.inr (by omega))) (fun h=>absurd h (by omega));unfold iU;rw [hb];exact rsysZ nm n w (by omega) (by omega) (by omega) (by omega) (by omega) (by omega)
def riB (l:List UInt8) (n:Nat):Bool:=cS l n&& !elB (elL++iZ) l n
def Kd (hR:gY) (p:Value) (nm:ByteArray) (n:Nat) (w:Wo) (hw:Tryz.prog.globals.size≤w.heap.size) (hN:iC w) (hS:eQ w) (hz:nm.size≤1048576):
  Cz 129 #[p,.string nm,.int .i64 n] w fun e w'=>e= .returned (.bool (riB nm.toList n))∧Bz w w':=by
 have d1:=QH hR nm n w hw hN hS hz;have d2:Aside (∀w2,Bz w w2→Cz 212 #[.string nm,.int .i64 n] w2 fun e w'=>e= .returned (.bool (elB (elL++iZ) nm.toList n))∧Bz w2 w'):=fun w2 hb=>Mv nm n w2 (aE hw hb.size) (hN.below hb hw) (qK hS hb hw)
 unfold iU at d1;unfold riB;obtain⟨X,hX⟩:∃b,cS nm.toList n=b:=⟨_,rfl⟩;obtain⟨Y,hY⟩:∃b,elB (elL++iZ) nm.toList n=b:=⟨_,rfl⟩;rw [hX] at d1 ⊢;rw [hY] at d2 ⊢;clear hX hY hN hS hw;cases X<;>cases Y
 all_goals
  go_enter Tryz.func129,Tryz.ntmps129
  go_wp2_with first|(go_at_call 128;(with_reducible refine d1.mono ?_);rintro e w2 ⟨⟨v,rfl⟩,hb2⟩;have d3:=d2.o w2 hb2)|(go_at_call 212;(with_reducible refine d3.mono ?_);rintro e w3 ⟨rfl,hb3⟩)
  go_ret
  first|exact⟨rfl,hb2⟩|exact⟨rfl,hb2.trans (hb3.mono hb2.size)⟩
def Fy (hR:gY) (nm:ByteArray) (n:Nat) (w:Wo) (hw:Tryz.prog.globals.size≤w.heap.size) (hN:iC w) (hS:eQ w) (hz:nm.size≤1048576):
  Cz 80 #[.string nm,.int .i64 n] w fun e w'=>e= .returned (.bool (riB nm.toList n))∧Bz w w':=by
 have d1:=QH hR nm n w hw hN hS hz;have d2:Aside (∀p w2,Bz w w2→Cz 129 #[p,.string nm,.int .i64 n] w2 fun e w'=>e= .returned (.bool (riB nm.toList n))∧Bz w2 w'):=fun p w2 hb=>Kd hR p nm n w2 (aE hw hb.size) (hN.below hb hw) (qK hS hb hw) hz
 unfold iU at d1;obtain⟨X,hX⟩:∃b,cS nm.toList n=b:=⟨_,rfl⟩;obtain⟨Y,hY⟩:∃b,riB nm.toList n=b:=⟨_,rfl⟩;have a0:X=false→Y=false:=fun h=>by rw [←hY,riB,hX,h];rfl
 rw [hX] at d1;rw [hY] at d2 ⊢;clear hX hY hN hS hw;cases X
 ·obtain rfl:Y=false:=a0 rfl;go_enter Tryz.func80,Tryz.ntmps80
  go_wp2_with first|(go_at_call 128;(with_reducible refine d1.mono ?_);rintro e w2 ⟨⟨v,rfl⟩,hb2⟩)
  go_ret
  exact⟨rfl,hb2⟩
 ·clear a0;go_enter Tryz.func80,Tryz.ntmps80
  go_wp2_with first|(go_at_call 128;(with_reducible refine d1.mono ?_);rintro e w2 ⟨⟨v,rfl⟩,hb2⟩)|(go_at_call 129;(with_reducible refine(d2.o _ _ (hb2.alloc hb2.size _)).mono ?_);rintro e w3 ⟨rfl,hb3⟩)
  go_ret
  exact⟨rfl,(hb2.alloc hb2.size _).trans (hb3.mono (hb2.alloc hb2.size _).size)⟩
end Go.Proofs.YtealgacfnbbgdaaGreatDoor
namespace Go.Proofs.YtealgacfnbbgdaaGreatDoor
open Go.RowKit Go.Big Go.RowsK
def tO (A B:List (List UInt8)):Bool:=A.all (fun l=>B.contains l)&&B.all (fun l=>A.contains l)
def IE {A B:List (List UInt8)} (h:tO A B=true) (l:List UInt8):A.contains l=B.contains l:=by
 unfold tO at h;rw [aR,kV,kV] at h;rw [nQ];constructor
 ·intro h2;rw [Aw] at h2;exact h.1 l h2
 ·intro h2;rw [Aw] at h2;exact h.2 l h2
def atL (L:List (List UInt8 × Nat)) (n:Nat):List (List UInt8):=(L.filter fun p=>p.2==n).map (·.1)
def WC (L:List (List UInt8 × Nat)) (l:List UInt8) (n:Nat):elB L l n=(atL L n).contains l:=by
 rw [nQ,Aw,elB,rT,atL];simp only [gF,List.mem_filter,aR,tE];constructor
 ·rintro⟨p,hp,rfl,rfl⟩;exact⟨p,⟨hp,rfl⟩,rfl⟩
 ·rintro⟨p,⟨hp,rfl⟩,rfl⟩;exact⟨p,hp,rfl,rfl⟩
def LV (A B:List (List UInt8)) (l:List UInt8):(A++B).contains l=(A.contains l||B.contains l):=by simp
def caL (n:Nat):List (List UInt8):=if 1≤n∧n≤8 then [callL] else []
def XL (l:List UInt8) (n:Nat):(caL n).contains l=(l==callL&&(decide (1≤n)&&decide (n≤8))):=by
 unfold caL
 by_cases h:1≤n∧n≤8
 ·rw [if_pos h,mN h.1,mN h.2,aT,aQ];simp
 ·rw [if_neg h,aQ];have:(decide (1≤n)&&decide (n≤8))=false:=by
   rw [yW];intro e;rw [aR,Qk,Qk] at e;exact h e
  rw [this,Bool.and_false]
def Kq (l:List UInt8) (n:Nat) (h:(clL n).contains callL=false):icB l n=(caL n++clL n).contains l:=by
 rw [LV,XL];unfold icB
 by_cases hl:l=callL
 ·subst hl;rw [if_pos (by simp),h,HD];simp [Bool.decide_and]
 ·have e:(l==callL)=false:=by simpa using hl
  rw [if_neg (by rw [e];exact Be),e];simp
def bi_one (l:List UInt8) (n:Nat) (hf:(flL n).contains l=(decide (n<5)&&(rfL n).contains l)) (hs:tO (spL n) (atL mpL n++caL n)=true) (hc:(clL n).contains callL=false)
  (he:tO (atL (elL++iZ) n) (gdL n++(caL n++clL n))=true):piB l n=riB l n:=by
 unfold piB riB lL cS;rw [WC,WC,IE he,IE hs,Kq l n hc,LV,LV (gdL n),hf,←XL];cases (gdL n).contains l<;>cases (atL mpL n).contains l<;>cases (caL n).contains l<;>cases (decide (n<5)&&(rfL n).contains l)<;>cases (caL n++clL n).contains l<;>rfl
def fl_at (l:List UInt8):∀n,n<10→(flL n).contains l=(decide (n<5)&&(rfL n).contains l)
 |0,_=>by rw [IE (A:=flL 0) (B:=rfL 0) (by kernel_rfl)];simp
 |1,_=>by simp [rfL]
 |2,_=>by simp [rfL]
 |3,_=>by simp [rfL]
 |4,_=>by simp [rfL]
 |n+5,_=>by
  have h:flL (n+5)= []:=by unfold flL;rw [pnS5];rfl
  rw [h,aQ,kU (by omega)];rfl
def bi_eq (l:List UInt8) (n:Nat):piB l n=riB l n:=by
 by_cases hn:n<10
 ·have hf:=fl_at l n hn;have h:∀n,n<10→(tO (spL n) (atL mpL n++caL n)&&(!(clL n).contains callL&&tO (atL (elL++iZ) n) (gdL n++(caL n++clL n))))=true:=by
   intro n hn;have:((List.range 10).all fun n=>(tO (spL n) (atL mpL n++caL n)&&(!(clL n).contains callL&&tO (atL (elL++iZ) n) (gdL n++(caL n++clL n)))))=true:=by kernel_rfl
   exact kV.1 this n (GP.2 hn)
  have h2:=h n hn;rw [aR,aR,yV] at h2;exact bi_one l n hf h2.1 h2.2.1 h2.2.2
 ·have h1:cS l n=false:=oT (VZ DT (by omega)) (.inr (.inr (by omega))) (fun h=>absurd h (by omega));have h2:lL l n=false:=by
   obtain⟨k,rfl⟩:∃k,n=k+9:=⟨n-9,by omega⟩;have h3:flL (k+9)= []:=by unfold flL;rw [show k+9=(k+4)+5 from rfl,pnS5];rfl
   unfold lL;rw [h3];rfl
  unfold piB riB;rw [h1,h2];simp
def Ph:Builder.Extra Tryz.prog Tryz.lays105_ren:={
 sizeBuilder:=by kernel_rfl
 liesBuilder:=by kernel_rfl
 t5:=Tryz.underlying5
 a5:=Tryz.isAgg5
 z5:=Tryz.sizeOf5
 v5:=Tryz.zeroValue5
 infoByte:=by kernel_rfl
 cellsByte:=by kernel_rfl
 sizeByte:=by kernel_rfl
 neB5:=by decide }
def IL:gY:=fun n w hn=>(Any.strings_Repeat Tryz.lays105 Ph ⟨#[63]⟩ n w (by omega) (by show 1*n≤_;omega)).mono (by
 rintro e w' ⟨rfl,hb⟩;refine⟨_,rfl,?_,hb⟩;show(Lib.repeatL [63] n).toArray.size≤100;have:∀n:Fin 9,(Lib.repeatL [(63:UInt8)] n.val).toArray.size≤100:=by decide
 exact this ⟨n,by omega⟩)
def UB:mM:=fun n w hn=>(Any.strconv_Itoa_small Tryz.lays171 n (by omega) w).mono (by
 rintro e w' ⟨rfl,rfl⟩;refine⟨_,rfl,?_,rfl⟩;rw [Lib.decDigits_one (by omega)];show 1≤100;decide)
def biF (nm:ByteArray) (n:Int):Bool:=piB nm.toList n.toNat
def biOk_p (w:Wo) (h3:2<w.heap.size) (hS:eQ w):BiOk 79 biF w:=fun w2 nm n hb hz=>
 Kh IL UB nm n w2 (eE h3 hb.size) (fun b a0=>(hb.cell (p:=⟨2,b,none⟩) h3).trans (hS b a0))
def biOk_r (w:Wo) (hw:Tryz.prog.globals.size≤w.heap.size) (hN:iC w) (hS:eQ w):BiOk 80 biF w:=fun w2 nm n hb hz=>by
 unfold biF;rw [CL,bi_eq];exact Fy IL nm n w2 (aE hw hb.size) (hN.below hb hw) (qK hS hb hw) hz
end Go.Proofs.YtealgacfnbbgdaaGreatDoor
namespace Go.Proofs.YtealgacfnbbgdaaGreatDoor
noncomputable section
mutual
def Tm.ground:Tm→Prop
 | .mk k _ _ _ _ _ args=>k≠1∧Tm.groundL args
def Tm.groundL:List Tm→Prop
 | []=>True
 |T::r=>T.ground∧Tm.groundL r
end
def varT (n:Nat):Tm:=.mk 1 n ⟨#[]⟩ false [] [] []
open Classical in
mutual
def gphi (ix:Tm→Tm→Nat):Tm→Tm→Tm
 | .mk k v nm g num den args,b=>
  if Tm.mk k v nm g num den args=b∧(Tm.mk k v nm g num den args).ground then b
  else match b with
  | .mk k' v' nm' g' num' den' args'=>if k=5∧k'=5∧nm=nm'∧args.length=args'.length then .mk 5 0 nm false [] [] (gphiL ix args args') else varT (ix (.mk k v nm g num den args) (.mk k' v' nm' g' num' den' args'))
def gphiL (ix:Tm→Tm→Nat):List Tm→List Tm→List Tm
 |T::r,U::q=>gphi ix T U::gphiL ix r q
 |_,_=>[]
end
def both (ix:Tm→Tm→Nat) (f1 f2:Int→Option Tm):Int→Option Tm:=fun v=>match f1 v,f2 v with
 |some p,some q=>some (gphi ix p q)
 |_,_=>none
def QL {k v:Int} {sz:Nat} {g:Bool} {num den:List Nat} {len:Nat} (h:cU k v sz g num den len=0):eH k v sz g num den len∧sz≤nG k:=by
 unfold cU at h;split at h
 ·rename_i h1;refine⟨h1,?_⟩;split at h
  ·cases h
  ·omega
 ·cases h
def Mn {k v:Int} {nm:ByteArray} {g:Bool} {num den:List Nat} {args:List Tm} (h:Tm.errE (.mk k v nm g num den args)=0):cU k v nm.size g num den args.length=0∧Tm.errL args=0:=by
 simp only [Tm.errE] at h
 by_cases h0:cU k v nm.size g num den args.length=0
 ·rw [if_neg (by simp [h0])] at h;exact⟨h0,h⟩
 ·rw [if_pos h0] at h;exact absurd h h0
def VT {T:Tm} {r:List Tm} (h:Tm.errL (T::r)=0):T.errE=0∧Tm.errL r=0:=by
 simp only [Tm.errL] at h
 by_cases h0:T.errE=0
 ·rw [if_neg (by simp [h0])] at h;exact⟨h0,h⟩
 ·rw [if_pos h0] at h;exact absurd h h0
end
end Go.Proofs.YtealgacfnbbgdaaGreatDoor
namespace Go.Proofs.YtealgacfnbbgdaaGreatDoor
open Go.RowKit Go.Big Go.RowsK
mutual
theorem KP:∀(T:Tm) (x:Tm),x∈T.gls→(T.errE=0→x.errE=0)∧x.nodes≤T.nodes
 | .mk k v nm g num den args,x,h=>by
  simp only [Tm.gls] at h;split at h
  ·have:=UV args x h;refine⟨fun h0=>this.1 (Mn h0).2,?_⟩;simp only [Tm.nodes];have:=this.2;omega
  ·simp at h;subst h;exact⟨fun h=>h,aA _⟩
theorem UV:∀(L:List Tm) (x:Tm),x∈Tm.glsL L→(Tm.errL L=0→x.errE=0)∧x.nodes≤Tm.nodesL L
 | [],x,h=>by simp [Tm.glsL] at h
 | T::r,x,h=>by
  simp only [Tm.glsL,eY] at h;simp only [Tm.nodesL];rcases h with h|h
  ·have:=KP T x h;exact⟨fun h0=>this.1 (VT h0).1,by omega⟩
  ·have:=UV r x h;exact⟨fun h0=>this.1 (VT h0).2,by omega⟩
end
end Go.Proofs.YtealgacfnbbgdaaGreatDoor
namespace Go.Proofs.YtealgacfnbbgdaaGreatDoor
open Go.RowKit Go.Big Go.RowsK Go.MapK
variable {LL:List (List Tm)} {L G:List Tm} {C:Cl} {cal:Tm→Bool} {i:Nat} {h T:Tm}
def nsz_of (h:T.errE=0):T.nsz≤1048576:=by
 obtain⟨k,v,nm,g,num,den,args⟩:=T;simp only [Tm.errE] at h;split at h
 ·rename_i h1;exact absurd h h1
 ·rename_i h1;have h2:=(QL (HC.1 h1)).2;show nm.size≤1048576;refine aE h2 ?_;unfold nG;(repeat' split)<;>omega
def vZ (h:dK C=0):C.h.faultE=0∧C.b.faultE=0∧C.num:=by
 unfold dK at h;split at h
 ·rename_i h1;exact absurd h h1
 ·rename_i h1;split at h
  ·rename_i h2;exact absurd h h2
  ·rename_i h2;split at h
   ·rename_i h3;exact absurd h h3
   ·split at h
    ·rename_i h4;exact⟨HC.1 h1,HC.1 h2,h4⟩
    ·cases h
def rG (h:dK C=0):C.b.nodes≤1000000:=by
 have:=(kQ (vZ h).2.1).1;omega
def FK (h:dK C=0):∀T∈C.b.gls,T.nsz≤1048576:=fun T hT=>nsz_of ((KP C.b T hT).1 (kQ (vZ h).2.1).2)
mutual
theorem fr_sub:∀(T:Tm) (a0:List Int),(∀x,T.occ x→x∈a0)→T.fr a0=a0
 | .mk k v nm g num den args,a0,h=>by
  simp only [Tm.fr];have h1:¬(k=1∧v∉a0):=fun hk=>hk.2 (h v (by simp only [Tm.occ];first|exact .inl ⟨hk.1,rfl⟩|exact .inl ⟨hk.1,trivial⟩))
  rw [if_neg h1];exact KW args a0 fun x hx=>h x (by simp only [Tm.occ];exact .inr hx)
theorem KW:∀(L:List Tm) (a0:List Int),(∀x,Tm.occL L x→x∈a0)→Tm.frL L a0=a0
 | [],a0,_=>by simp [Tm.frL]
 |T::r,a0,h=>by
  simp only [Tm.frL];rw [fr_sub T a0 fun x hx=>h x (by simp only [Tm.occL];exact .inl hx)];exact KW r a0 fun x hx=>h x (by simp only [Tm.occL];exact .inr hx)
end
def iG (L:List Tm):List Int:=Tm.frL L []
def Fd (hm:L[0]?=some h):iG (L++ [h])=iG L:=by
 unfold iG;rw [KX];refine KW [h] _ fun x hx=>?_
 simp only [Tm.occL,BQ] at hx;rw [zX];cases L with
 |nil=>cases hm
 |cons T r=>
  obtain rfl:T=h:=by simpa using hm
  right;simp only [Tm.occL];exact .inl hx
def Jf {x:Int}:x∈iG L↔Tm.occL L x:=by
 unfold iG;rw [zX];simp
def SH:∀{L:List Tm} {x:Int},Tm.occL L x↔∃T∈L,T.occ x
 | [],x=>by simp [Tm.occL]
 |T::r,x=>by simp [Tm.occL,SH (L:=r)]
mutual
theorem UQ:∀(B T:Tm) (x:Int),T∈B.gls→T.occ x→B.occ x
 | .mk k v nm g num den args,T,x,hT,hx=>by
  simp only [Tm.gls] at hT;split at hT
  ·simp only [Tm.occ];exact .inr (UT args T x hT hx)
  ·obtain rfl:=mP.1 hT;exact hx
theorem UT:∀(L:List Tm) (T:Tm) (x:Int),T∈Tm.glsL L→T.occ x→Tm.occL L x
 | [],T,x,hT,_=>by simp [Tm.glsL] at hT
 |B::r,T,x,hT,hx=>by
  simp only [Tm.glsL] at hT;simp only [Tm.occL];rcases eY.1 hT with hT|hT
  ·exact .inl (UQ B T x hT hx)
  ·exact .inr (UT r T x hT hx)
end
mutual
theorem UR:∀B:Tm,Tm.nodesL B.gls≤B.nodes
 | .mk k v nm g num den args=>by
  simp only [Tm.gls];split
  ·simp only [Tm.nodes];have:=UU args;omega
  ·simp [Tm.nodesL]
theorem UU:∀L:List Tm,Tm.nodesL (Tm.glsL L)≤Tm.nodesL L
 | []=>by simp [Tm.glsL,Tm.nodesL]
 |T::r=>by
  simp only [Tm.glsL,Tm.nodesL,tY];have:=UR T;have:=UU r;omega
end
def StJ (h:Tm) (G:List Tm) (s:List (List Tm) × List Tm):Prop:=
 (∀L∈s.1,L≠ []∧(∀T∈L,T=h∨T∈G)∧Tm.nodesL L≤h.nodes+Tm.nodesL G)∧(∀T∈s.2,T=h∨T∈G)∧Tm.nodesL s.2≤h.nodes+Tm.nodesL G∧
 (s.1= []→s.2[0]?=some h)∧∀L,s.1[0]?=some L→L[0]?=some h
def StJ.step {s:List (List Tm) × List Tm} (J:StJ h G s) (g:Tm):StJ h (G++ [g]) (stp cal s g):=by
 obtain⟨j1,j2,j3,j4,j5⟩:=J;have hG:Tm.nodesL (G++ [g])=Tm.nodesL G+g.nodes:=by rw [tY];simp [Tm.nodesL]
 have hl:∀T∈s.2++ [g],T=h∨T∈G++ [g]:=fun T hT=>by
  rcases eY.1 hT with hT|hT
  ·rcases j2 T hT with e|e
   ·exact .inl e
   ·exact .inr (GR _ e)
  ·exact .inr (Ao _ hT)
 have hn:Tm.nodesL (s.2++ [g])≤h.nodes+Tm.nodesL (G++ [g]):=by rw [hG,tY];simp [Tm.nodesL];omega
 have a1:∀L∈s.1,L≠ []∧(∀T∈L,T=h∨T∈G++ [g])∧Tm.nodesL L≤h.nodes+Tm.nodesL (G++ [g]):=fun L hL=>by
  obtain⟨a,b,c⟩:=j1 L hL;exact⟨a,fun T hT=>(b T hT).imp id (GR _),by omega⟩
 have h0:s.1= []→(s.2++ [g])[0]?=some h:=fun e=>by
  have:=j4 e;rw [gM (aZ.1 this).1];exact this
 unfold stp;split
 ·refine⟨fun L hL=>?_,fun T hT=>(by cases hT),by simp [Tm.nodesL],fun e=>(by simp at e),fun L hL=>?_⟩
  ·rcases eY.1 hL with hL|hL
   ·exact a1 L hL
   ·obtain rfl:=mP.1 hL;exact⟨by simp,hl,hn⟩
  ·cases hs:s.1 with
   |nil=>rw [hs] at hL;simp at hL;subst hL;exact h0 hs
   |cons a r=>
    rw [hs] at hL;simp at hL;subst hL;exact j5 a (by rw [hs];rfl)
 ·exact⟨a1,hl,hn,h0,j5⟩
def PB (cal:Tm→Bool) (h:Tm) (G:List Tm):StJ h G (stc cal h G):=by
 have key:∀(R G:List Tm) (s:List (List Tm) × List Tm),StJ h G s→StJ h (G++R) (R.foldl (stp cal) s):=by
  intro R
  induction R with
  |nil=>intro G s J;simpa using J
  |cons g R ih=>
   intro G s J;have:=ih (G++ [g]) (stp cal s g) (J.step g);simpa using this
 have h0:StJ h [] ([],[h]):=⟨fun L hL=>(by cases hL),fun T hT=>.inl (by simpa using hT),by simp [Tm.nodesL],fun _=>rfl,fun L hL=>(by simp at hL)⟩;have:=key G [] ([],[h]) h0;simpa [stc] using this
def XB (hL:(eS cal h G)[i]?=some L):
  L≠ []∧(∀T∈L,T=h∨T∈G)∧Tm.nodesL L≤h.nodes+Tm.nodesL G∧(i=0→L[0]?=some h):=by
 obtain⟨j1,j2,j3,j4,j5⟩:=PB cal h G;unfold eS at hL;split at hL
 ·have hm:=bV hL;obtain⟨a,b,c⟩:=j1 L hm;exact⟨a,b,c,fun e=>by subst e;exact j5 L hL⟩
 ·rename_i a4
  by_cases hi:i<(stc cal h G).1.length
  ·rw [gM hi] at hL;have hm:=bV hL;obtain⟨a,b,c⟩:=j1 L hm;exact⟨a,b,c,fun e=>by subst e;exact j5 L hL⟩
  ·rw [iE (by omega)] at hL;have a2:i-(stc cal h G).1.length=0:=by
    have:=(aZ.1 hL).1;simp only [oJ] at this;omega
   rw [a2] at hL;obtain rfl:(stc cal h G).2=L:=by simpa using hL
   exact⟨a4,j2,j3,fun e=>j4 (mE (by omega))⟩
def gC:List (List Tm)→Int→Nat
 | [],_=>0
 |L::r,v=>gC r v+if v∈iG L then 1 else 0
def WQ:∀(A B:List (List Tm)) (v:Int),gC (A++B) v=gC A v+gC B v
 | [],B,v=>by simp [gC]
 |L::r,B,v=>by simp only [mF,gC,WQ r B v];omega
def Od (h:LL[i]?=some L) (v:Int):gC (LL.take (i+1)) v=gC (LL.take i) v+if v∈iG L then 1 else 0:=by
 rw [mA,h,WQ];simp [gC]
def LX:∀(A:List (List Tm)) (v:Int),gC A v≤A.length
 | [],v=>by simp [gC]
 |L::r,v=>by
  have:=LX r v;simp only [gC,jD];split<;>omega
def kR (LL:List (List Tm)) (i:Nat) (R:List Int) (j:Nat) (v:Int):Nat:=gC (LL.take i) v+if v∈R.take j then 1 else 0
def WS (LL:List (List Tm)) (i:Nat) (R:List Int) (v:Int):kR LL i R 0 v=gC (LL.take i) v:=by simp [kR]
def WT {R:List Int} (hn:R.Nodup) {j:Nat} {x:Int} (hx:R[j]?=some x) (v:Int):kR LL i R (j+1) v=if v=x then kR LL i R j v+1 else kR LL i R j v:=by
 unfold kR;have hj:=(aZ.1 hx).1;rw [mA,hx];simp only [ZQ,eY,mP]
 by_cases h:v=x
 ·subst h;have h1:v∉R.take j:=fun hm=>by
   obtain⟨k,hk⟩:=mQ.1 hm;have a3:k<j:=by have:=(aZ.1 hk).1;rw [bT] at this;omega
   rw [yT,if_pos a3] at hk;have:=(List.getElem?_inj (by omega) hn).1 (hk.trans hx.symm);omega
  rw [if_pos (.inr rfl),if_neg h1,if_pos rfl]
 ·rw [if_neg h];congr 1;simp [h]
def WU (h:LL[i]?=some L) (v:Int):kR LL i (iG L) (iG L).length v=gC (LL.take (i+1)) v:=by
 unfold kR;rw [Od h,kD]
def vM (n:Nat) (LL:List (List Tm)):List Int:=((List.range n).map Int.ofNat).filter fun v=>decide (1<gC LL v)
def gU (LL:List (List Tm)) (n i:Nat):List Int:=(((List.range n).map Int.ofNat).take i).filter fun v=>decide (1<gC LL v)
def RT (LL:List (List Tm)) {n i:Nat} (h:i<n):gU LL n (i+1)=if 1<gC LL (i:Int) then gU LL n i++ [(i:Int)] else gU LL n i:=by
 unfold gU;rw [mA,jO,uX h,List.filter_append]
 by_cases h1:1<gC LL (i:Int)<;>simp [h1]
def Hi (LL:List (List Tm)) (n i:Nat):(gU LL n i).length≤i:=by
 unfold gU;refine aE (List.length_filter_le _ _) ?_;rw [bT];omega
def JF (LL:List (List Tm)) (n:Nat):gU LL n n=vM n LL:=by
 unfold gU vM;rw [iW (by simp)]
def sF (bi:ByteArray→Int→Bool) (C:Cl):List Int:=if C.b.pl then vM C.vars.toNat (eS (Tm.cal bi) C.h C.b.gls) else C.b.free.mergeSort fun x y=>decide (x≤y)
def num_lt (h:C.num) {x:Int} (hx:C.h.occ x∨C.b.occ x):0≤x∧x<C.vars:=by
 have hm:x∈C.fr:=by
  unfold Cl.fr;rw [zX];right;simp only [Tm.occL,BQ];exact hx
 obtain⟨j,hj⟩:=mQ.1 hm;have h1:=h.1 j x hj;have h2:=(aZ.1 hj).1;have h3:=h.2;omega
def zR (h:dK C=0):0≤C.vars∧C.vars≤20000:=by
 obtain⟨h1,h2,h3⟩:=vZ h;have a:=(kQ h1).1;have b:=(kQ h2).1;have h4:=(qX [C.h,C.b] []).1;have h5:=h3.2;unfold Cl.fr at h5;simp only [Tm.nodesL,pN] at h4;omega
def JE {bi:ByteArray→Int→Bool} (h:dK C=0) {i:Nat} {L:List Tm} (hL:(eS (Tm.cal bi) C.h C.b.gls)[i]?=some L):
  0<L.length∧Tm.nodesL L≤20000∧(i=0→L[0]?=some C.h)∧∀x∈iG L,0≤x∧x<C.vars:=by
 obtain⟨h1,h2,h3⟩:=vZ h;have a:=(kQ h1).1;have b:=(kQ h2).1;obtain⟨c1,c2,c3,c4⟩:=XB hL;have d:=UR C.b;refine⟨GU.2 c1,by omega,c4,fun x hx=>?_⟩;rw [Jf,SH] at hx;obtain⟨T,hT,ho⟩:=hx;refine num_lt h3 ?_;rcases c2 T hT with e|e
 ·subst e;exact .inl ho
 ·exact .inr (UQ C.b T x e ho)
