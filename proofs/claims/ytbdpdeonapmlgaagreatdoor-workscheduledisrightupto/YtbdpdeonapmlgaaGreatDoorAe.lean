/- Lemmas; no condition. -/
import Derived.Test.YtbdpdeonapmlgaaGreatDoorAd
set_option linter.all false
set_option maxHeartbeats 4000000
set_option maxRecDepth 100000
namespace Go.Proofs.YtbdpdeonapmlgaaGreatDoor
open Go.RowKit Go.Big
variable {C L A:List Nat} {neg:Bool} {c:Int} {M n v:Nat}
def CmpD.lt (h:CmpD A C c) (hA:NoZ A) (hC:NoZ C) (b7:∀y∈A,y<4294967296) (b8:∀y∈C,y<4294967296) (c2:val 4294967296 A<val 4294967296 C):c= -1:=by
 rcases h with⟨_,h⟩|⟨h,_⟩|⟨hl,⟨_,h⟩|⟨h,_⟩|⟨_,h⟩⟩
 ·exact h
 ·have:=NoZ.len_le (B:=4294967296) (by decide) hA b8 (by omega);omega
 ·subst h;omega
 ·exact h
 ·omega
def CmpD.ge (h:CmpD A C c) (hA:NoZ A) (hC:NoZ C) (b7:∀y∈A,y<4294967296) (b8:∀y∈C,y<4294967296) (b2:val 4294967296 C≤val 4294967296 A):0≤c:=by
 rcases h with⟨h,_⟩|⟨_,h⟩|⟨hl,⟨h,_⟩|⟨h,h2⟩|⟨h,_⟩⟩
 ·have:=NoZ.len_le (B:=4294967296) (by decide) hC b7 b2;omega
 ·omega
 ·omega
 ·omega
 ·omega
def Gb (a1 a2:Option Addr) (a0 a6 a4 a5 n:Nat) (A C:List Nat) (a7:A.length=a0) (c7:C.length=a6) (a8:a0≤500000) (a9:a6≤500000) (w:Wo) (hn:n≤w.heap.size) (h1:cR n w a1 A) (h2:cR n w a2 C) (hA:NoZ A) (hC:NoZ C) (c2:val 4294967296 A<val 4294967296 C):
  Cz 336 #[.slice a1 a0 a4,.slice a2 a6 a5] w fun e w'=>∃q r,e= .returned (.tuple #[q,r])∧NatL w'.heap.size w' r (val 4294967296 A%val 4294967296 C)∧Bz w w':=by
 have b1:=GT a1 a2 a0 a6 a4 a5 n A C a7 c7 (by omega) (by omega) w hn h1 h2;have c6:∀w2,Bz w w2→_:=fun w2 hb=>wO (.slice a1 a0 a4) n A (by omega) w2 (aD hn hb.size) ⟨a1,a4,by rw [a7],h1.below hb hn⟩
 have hF:=aside3 hA hC c2;have b3:=h1.1;have b4:=h2.1;go_enter Tryz.func336,Tryz.ntmps336
 go_wp2_with first|(go_at_call 353;with_reducible refine b1.mono ?_;rintro e w1 ⟨c,rfl,hc,a8⟩;obtain rfl:=hc.lt hF.o.1 hF.o.2.1 b3 b4 hF.o.2.2;have b5:=c6 w1 a8)|(go_at_call 129;with_reducible refine b5.mono ?_;rintro e w' ⟨sv,rfl,⟨a3,c3,rfl,hL⟩,a9⟩)
 go_ret2
 refine⟨_,_,rfl,?_,a8.trans (a9.mono a8.size)⟩;rw [rF hF.o.2.2];exact⟨a3,A,c3,by rw [a7];rfl,hL.toAt fun k hk=>hk.2,hF.o.1,rfl⟩
def Fz (a1 a2:Option Addr) (a0 a4 a5 n d:Nat) (A:List Nat) (a7:A.length=a0) (a8:a0≤500000) (w:Wo) (hn:n≤w.heap.size) (h1:cR n w a1 A) (h2:cR n w a2 [d]) (hA:NoZ A) (hC:NoZ [d]) (b2:d≤val 4294967296 A):
  Cz 336 #[.slice a1 a0 a4,.slice a2 1 a5] w fun e w'=>∃q r,e= .returned (.tuple #[q,r])∧NatL w'.heap.size w' r (val 4294967296 A%d)∧Bz w w':=by
 have b1:=GT a1 a2 a0 1 a4 a5 n A [d] a7 rfl (by omega) (by omega) w hn h1 h2;have b9:0<d:=by
  have:=hC d rfl;omega
 obtain⟨b,off,rfl,hbn,hdB,hcd⟩:=h2.get (k:=0) rfl;have c1:val 4294967296 [d]=d:=by simp [val]
 have hF:Aside (NoZ A∧NoZ [d]∧val 4294967296 [d]≤val 4294967296 A):=⟨hA,hC,by rw [c1];exact b2⟩;have c0:∀w2,Bz w w2→_:=fun w2 hb=>Fy a1 a0 a4 n d A a7 (by omega) b9 hdB w2 (aD hn hb.size) (h1.below hb hn)
 have b0:∀w2,Bz w w2→w2.cell? ⟨b,off,none⟩=some (.int .u32 d):=fun w2 hb=>(hb.cell (p:=⟨b,off,none⟩) (by show b<_;omega)).trans (by simpa using hcd)
 have b3:=h1.1;have b4:=h2.1;clear c1 hA hC b2;go_enter Tryz.func336,Tryz.ntmps336
 go_upto_region 4 with first|(go_at_call 353;with_reducible refine b1.mono ?_;rintro e w1 ⟨c,rfl,hc,hb1'⟩;have c5:=hc.ge hF.o.1 hF.o.2.1 b3 b4 hF.o.2.2;have d0:¬c<0:=Int.not_lt.2 c5)
 have b6:=c0 w1 hb1';have k1:=b0 w1 hb1';clear c0 b0 b1 hc
 go_upto_region 5 with first|(go_at_call 354;(with_reducible refine b6.mono ?_);rintro e w2 ⟨q,r,rfl,hr,hq,a9⟩;have c4:Aside (r=val 4294967296 A%d):=hr;clear hr)
 have c9:r<4294967296:=by rw [c4.o];exact IW (mT _ b9) hdB
 have m1:IntKind.u64.wrap (r:Int)=(r:Int):=by rw [wrap_u64];omega
 have c8:=Aw r c9 w2
 go_wp2_with first|(go_at_call 355;with_reducible refine c8.mono ?_;rintro e w3 ⟨r3,rfl,hr3,hb3⟩)
 go_ret2
 refine⟨_,_,rfl,?_,(hb1'.trans (a9.mono hb1'.size)).trans (hb3.mono (aD hb1'.size a9.size))⟩;rw [←c4.o];exact hr3
def Ga (a1 a2:Option Addr) (a0 m b1 b2 n:Nat) (A C:List Nat) (f4:A.length=a0) (e7:C.length=m+2) (b0:a0≤500000) (w:Wo) (hn:n≤w.heap.size) (h1:cR n w a1 A) (h2:cR n w a2 C) (hA:NoZ A) (hC:NoZ C) (f3:val 4294967296 C≤val 4294967296 A):
  Cz 336 #[.slice a1 a0 b1,.slice a2 (m+2) b2] w fun e w'=>∃q r,e= .returned (.tuple #[q,r])∧NatL w'.heap.size w' r (val 4294967296 A%val 4294967296 C)∧Bz w w':=by
 have e0:=h1.1;have e8:=h2.1;have c9:m+2≤a0:=by
  have:=NoZ.len_le (B:=4294967296) (by decide) hC e0 f3;omega
 obtain⟨jq,hjq⟩:∃jq,jq+(m+2)=a0+1:=⟨a0+1-(m+2),by omega⟩;have g7:=GT a1 a2 a0 (m+2) b1 b2 n A C f4 e7 (by omega) (by omega) w hn h1 h2;obtain⟨x,hx⟩:∃x,C[m+1]?=some x:=⟨_,bM (by omega)⟩;have i7:0<x:=by
  have:=hC x (by rw [JH,e7];exact hx);omega
 obtain⟨b,off,rfl,hbn,hxB,hcx⟩:=h2.get hx;have hF:=aside3 hA hC f3;have k6:IntKind.i64.wrap ((m:Int)+2-1)=(m:Int)+1:=by rw [dX];omega
 have l5:=ewr (i:=a0) (by omega);have l0:(m:Int)+1<(m:Int)+2:=by omega
 have l1:(0:Int)≤(m:Int)+1:=by omega
 have j7:((m:Int)+2==1)=false:=by simp;omega
 have hJ:=aside2 hjq c9;clear hA hC f3 c9 hjq;go_enter Tryz.func336,Tryz.ntmps336
 go_upto_region 6 with first|(go_at_call 353;with_reducible refine g7.mono ?_;rintro e w1 ⟨c,rfl,hc,hb1'⟩;have j5:=hc.ge hF.o.1 hF.o.2.1 e0 e8 hF.o.2.2;have k9:¬c<0:=Int.not_lt.2 j5)
 have f2:w1.cell? ⟨b,off+(m+1),none⟩=some (.int .u32 x):=(hb1'.cell (p:=⟨b,off+(m+1),none⟩) (by show b<_;omega)).trans hcx;have g9:=Cj x i7 hxB w1;clear g7 hc hcx
 go_upto_region 7 with first|(go_at_call 356;with_reducible refine g9.mono ?_;rintro e wz ⟨s,rfl,hs,hxs,ez⟩;obtain rfl:=ez.symm)
 have b0:=hb1';have i8:=h1.below b0 hn;have g3:=h2.below b0 hn;have h0:n≤w1.heap.size:=aD hn b0.size;have h8:=KX (some ⟨b,off,none⟩) (m+2) b2 n s C e7 (by have:=hJ.o;omega) hs (by omega) e8 w1 h0 g3;have h7:=aside hxs;clear g9 hxs f2 k6
 go_upto_region 8 with first|(go_at_call 357;(with_reducible refine h8.mono ?_);rintro e w2 ⟨L,k,rfl,hL1,hL2,hL3,hL4,hL5,hb2⟩)
 obtain⟨e6,hVge⟩:=YG (m:=m+1) hs e7 e8 hx i7 h7.o hL4.noZ (fun y hy=>hL2 y (jS hy)) (hL4.val.trans hL3);obtain rfl:k=m+2:=by have:=hL4.1;rw [aX] at e6;omega
 obtain⟨vs,hvs⟩:∃vs,vs=L.take (m+2):=⟨_,rfl⟩;rw [←hvs] at e6 hVge;have d8:val 4294967296 vs=val 4294967296 C*2^s:=by rw [hvs];exact hL4.val.trans hL3
 have g2:∀y∈vs,y<4294967296:=fun y hy=>hL2 y (jS (hvs▸hy))
 have d9:NoZ vs:=hvs▸hL4.noZ;have g1:∀(j y:Nat),vs[j]?=some y→w2.cell? ⟨w1.heap.size,0+j,none⟩=some (.int .u32 y):=fun j y hy=>by
  have hj:=(aM.1 hy).1;rw [bT];refine(hL5.cell ?_).1;rw [hvs,iY (by omega)] at hy;exact hy
 have b8:=aside4 e6 hVge d8 d9;obtain⟨bv,hbv⟩:∃bv,bv=w1.heap.size:=⟨_,rfl⟩;rw [←hbv] at g1 ⊢;have c8:bv<w2.heap.size:=hbv▸hL5.lt;have j4:w.heap.size≤bv:=hbv▸b0.size;have e3:Bz w w2:=b0.trans (hb2.mono b0.size);obtain⟨w3,hw3⟩:=enm (w2.alloc (mZ (a0+1)));have mk:(Instr.makeSlice 43 (.int .i64 ((a0:Int)+1)) (.int .i64 ((a0:Int)+1))).run Tryz.prog w2=_:=wZ (a0+1) (by omega) w2;have c3:bW w3 w2.heap.size (List.replicate (a0+1) 0):=hw3▸vV w2 _;have f1:Bz w2 w3:=hw3▸vW w2 _;have c2:Bz w w3:=e3.trans (f1.mono e3.size);have b9:=h1.below c2 hn;have d2:=KX a1 a0 b1 n s A f4 (by omega) hs (by have:=hJ.o;omega) e0 w3 (aD hn c2.size) b9;clear hL1 hL2 hL3 hL4 hL5 hvs e6 hVge d8 d9 h8 hbv i8 g3 h0 hx h7 hb2 b0;clear b9
 go_upto_region 9 with fail
 clear mk hw3;obtain⟨bo,hbo⟩:∃bo,bo=w2.heap.size:=⟨_,rfl⟩;rw [←hbo] at c3 c8 ⊢;have f5:w.heap.size≤bo:=hbo▸e3.size;have f6:bv≠bo:=by omega
 have i4:∀(j y:Nat),vs[j]?=some y→w3.cell? ⟨bv,0+j,none⟩=some (.int .u32 y):=fun j y hy=>(f1.cell (p:=⟨bv,0+j,none⟩) (by show bv<_;omega)).trans (g1 j y hy)
 have b6:bv<w3.heap.size:=by have:=c3.lt;omega
 clear g1 f1 hbo c8
 go_upto_region 10 with first|(go_at_call 357;(with_reducible refine d2.mono ?_);rintro e w4 ⟨La,kA,rfl,hM1,hM2,hM3,hM4,hM5,hb4⟩;obtain⟨w5,hcp,hR5,hO5⟩:=Gq w4 bo w3.heap.size kA (a0+1) La hM1 hM4 ((hb4.block bo c3.lt).trans c3) hM5)
 have a7:Only bo w3 w5:=(Only.of_below hb4).trans hO5;have i5:∀(j y:Nat),vs[j]?=some y→w5.cell? ⟨bv,0+j,none⟩=some (.int .u32 y):=fun j y hy=>(a7.cell (p:=⟨bv,0+j,none⟩) b6 f6).trans (i4 j y hy)
 have b7:bv<w5.heap.size:=aR b6 a7.size;have e4:Bz w w5:=c2.trans (a7.toBelow f5 c2.size);obtain⟨w6,hw6⟩:=enm (w5.alloc (mZ jq));have mk:(Instr.makeSlice 43 (.int .i64 (jq:Int)) (.int .i64 (jq:Int))).run Tryz.prog w5=_:=wZ jq (by have:=hJ.o;omega) w5;have a9:bW w6 w5.heap.size (List.replicate jq 0):=hw6▸vV w5 _;have c7:Bz w5 w6:=hw6▸vW w5 _;have g6:bW w6 bo La:=(c7.block bo hR5.lt).trans hR5;obtain⟨bq,hbq⟩:∃bq,bq=w5.heap.size:=⟨_,rfl⟩;rw [←hbq] at a9 mk;have h3:bo≠bq:=by have:=hR5.lt;omega
 have k0:bv≠bq:=by omega
 have i6:∀(j y:Nat),vs[j]?=some y→w6.cell? ⟨bv,0+j,none⟩=some (.int .u32 y):=fun j y hy=>(c7.cell (p:=⟨bv,0+j,none⟩) b7).trans (i5 j y hy)
 have d7:bv<w6.heap.size:=aR b7 c7.size;have g4:Bz w w6:=e4.trans (c7.mono e4.size);have h4:w.heap.size≤bq:=hbq▸e4.size;have i9:Aside (DivAt 4294967296 (val 4294967296 La) (val 4294967296 vs) jq (m+1+1) La []):=DivAt.begin (l:=a0) (by have:=hJ.o;omega) f4 e0 hM1 hM2 hM3 b8.o.2.1;have j2:=aside hM3;have j8:IntKind.i64.wrap ((a0:Int)+1-((m:Int)+2))=(jq:Int):=by rw [dX];have:=hJ.o;omega
 have i1:IntKind.i64.wrap ((jq:Int)-1)=(jq:Int)-1:=by rw [dX];have:=hJ.o;omega
 have a3:=aside7 g6 a9 g4 i6 d7 f5 h4;clear d2 hM1 hM2 hM3 hM4 hM5 hcp hR5 hO5 hb4 c3 i4 b6 a7 i5 b7 e4 g6 a9 g4 i6 d7 c7 hbq c2 e3 f5 h4 j4
 go_wp2_with fail
 clear mk hw6 ez
 go_loopw [12] (fun k7 wr=>∃(J:Nat) (u qs qr:List Nat),k7= .int .i64 ((J:Int)-1)∧Aside (DivAt 4294967296 (val 4294967296 La) (val 4294967296 vs) J (m+1+1) u qs∧J≤jq∧qr.length=jq∧∀y∈qr,y<4294967296)∧bW wr bo (u++List.replicate (jq-J) 0)∧bW wr bq qr∧(∀(j y:Nat),vs[j]?=some y→wr.cell? ⟨bv,0+j,none⟩=some (.int .u32 y))∧Bz w wr) (fun s _=>(intOf s+1).toNat)
 case atStart=>exact⟨jq,La,[],List.replicate jq 0,rfl,⟨i9.o,aA _,by simp,fun y hy=>by rw [(DE.1 hy).2];decide⟩,by simpa using a3.o.1,a3.o.2.1,a3.o.2.2.2.1,a3.o.2.2.1⟩
 case round=>
  obtain⟨J,u,qs,qr,rfl,hD,hRu,a9,hv,hB⟩:=hrel
  by_cases j1:J=0
  ·subst j1;obtain⟨a5,-,hql,hqB⟩:=hD.o;obtain⟨e1,e2⟩:=a5.done;have g0:=a5.len;have i3:=a5.dig;rw [DB] at hRu;obtain⟨row,hrow⟩:∃row,row=u++List.replicate jq 0:=⟨_,rfl⟩;rw [←hrow] at hRu;have f9:row.length=a0+1:=by rw [hrow,aI,JF];have:=hJ.o;omega
   have f8:∀y∈row,y<4294967296:=fun y hy=>by
    rw [hrow] at hy;rcases cG.1 hy with hy|hy
    ·exact i3 y hy
    ·rw [(DE.1 hy).2];decide
   have h6:val 4294967296 row=val 4294967296 u:=by rw [hrow];exact WY _ _ _
   have d1:val 4294967296 row/2^s=val 4294967296 A%val 4294967296 C:=by
    rw [h6];refine ZI (Q:=val 4294967296 qs) (kW (by decide)) ?_ ?_
    ·rw [←j2.o,←b8.o.2.2.1];exact e1
    ·rw [←b8.o.2.2.1];exact e2
   have i2:=rX (some ⟨bo,0,none⟩) (a0+1) (a0+1) wr.heap.size row f9 (by omega) (aA _) wr (aA _) (by
    have:=hRu.lim0 f8 hRu.lt (a0+1)
    rwa [fH (by omega)] at this)
   have b3:=aside5 d1 f9 f8 hql hqB;clear a5 hql hqB e1 e2 g0 i3 hrow f9 f8 h6 d1 hD
   go_upto_region 17 with first|(go_at_call 360;(with_reducible refine i2.mono ?_);rintro e w8 ⟨k8,rfl,hT8,hb8⟩;have i0:=YF (some ⟨bo,0,none⟩) k8 (a0+1) w8.heap.size s (row.take k8) (by rw [aX];exact oE hT8.1) (by have:=hT8.1;have:=b3.o.2.1;omega) hs (by have:=hT8.1;have:=b3.o.2.1;omega) w8 (aA _) (bW.lim0 (w:=w8) ((hb8.block bo hRu.lt).trans hRu) b3.o.2.2.1 (aR hRu.lt hb8.size) k8))|(go_at_call 359;(with_reducible refine i0.mono ?_);rintro e w9 ⟨r,xx,rfl,hr,hb9⟩)
   have b4:=hb8.trans (hb9.mono hb8.size);have c5:bW w9 bq qr:=(b4.block bq a9.lt).trans a9;have j9:=rX (some ⟨bq,0,none⟩) jq jq w9.heap.size qr b3.o.2.2.2.1 (by have:=hJ.o;omega) (aA _) w9 (aA _) (by
    have:=c5.lim0 b3.o.2.2.2.2 c5.lt jq
    rwa [fH (by rw [b3.o.2.2.2.1];exact aA _)] at this)
   have h5:=aside2 hr hT8;clear hr hT8 i2 i0
   go_wp2_with first|(go_at_call 360;(with_reducible refine j9.mono ?_);rintro e l8 ⟨l7,rfl,hT10,hb10⟩)
   go_ret2
   refine⟨_,_,rfl,?_,hB.trans ((b4.mono hB.size).trans (hb10.mono (aD hB.size b4.size)))⟩;rw [←b3.o.1,←h5.o.2.val];exact(h5.o.1.below hb10 (aA _)).up hb10.size
  ·obtain⟨j,rfl⟩:∃j,J=j+1:=⟨J-1,by omega⟩;obtain⟨a5,hjq,hql,hqB⟩:=hD.o;have g0:=a5.len;obtain⟨lo,hlo⟩:∃lo,lo=u.take j:=⟨_,rfl⟩;obtain⟨us,hus⟩:∃us,us=(u.drop j).take (m+2):=⟨_,rfl⟩;obtain⟨un,hun⟩:∃un,u[j+(m+2)]?=some un:=⟨_,bM (by omega)⟩;have a6:lo.length=j:=by rw [hlo,aX];omega
   have b5:us.length=m+2:=by rw [hus,aX,cW];omega
   have d0:u.drop j=us++ [un]:=by
    have h9:(u.drop j)[m+2]?=some un:=by rw [jF];exact hun
    rw [hus,←nE h9,fH (by rw [cW];omega)]
   have hu:u=lo++(us++ [un]):=by rw [hlo,←d0,pO]
   clear hlo hus hun d0;subst hu;have d4:un<4294967296:=a5.dig un (by simp);have d5:∀y∈us,y<4294967296:=fun y hy=>a5.dig y (by simp [hy])
   have a4:val 4294967296 (us++ [un])=val 4294967296 us+4294967296^(m+2)*un:=by rw [jW,b5]
   have f0:=a5.below a6;rw [a4] at f0;obtain⟨hi,hhi⟩:∃hi,hi=List.replicate (jq-(j+1)) 0:=⟨_,rfl⟩;have c6:bW wr bo (lo++us++un::hi):=by
    rw [←hhi] at hRu;simpa using hRu
   have d6:∀y,vs[m+1]?=some y→0<y:=fun y hy=>by
    have:=b8.o.2.2.2 y (by rw [JH,b8.o.1];exact hy);omega
   have f7:bo≠bv:=fR f6;have j6:=Gh bo j bv 0 m (a0+1-j) (m+2+1) lo us hi vs un (by have:=hJ.o;omega) d4 d5 g2 d6 a6 b5 b8.o.1 wr c6 f7 hv f0;have l4:j+(m+2)+1≤a0+1:=by have:=hJ.o;omega
   have k1:IntKind.i64.wrap ((j:Int)+((m:Int)+2))=(j:Int)+((m:Int)+2):=by rw [dX];omega
   have k2:IntKind.i64.wrap ((j:Int)+((m:Int)+2)+1)=(j:Int)+((m:Int)+2)+1:=by rw [dX];omega
   have l2:(0:Int)≤(j:Int):=by omega
   have l3:(j:Int)<(jq:Int):=by omega
   have l6:IntKind.i64.wrap ((j:Int)-1)=(j:Int)-1:=by rw [dX];omega
   have k3:(j:Int)+((m:Int)+2)+1≤(a0:Int)+1:=by omega
   have k4:(j:Int)≤(j:Int)+((m:Int)+2)+1:=by omega
   have k5:(0:Int)≤(j:Int)+((m:Int)+2)+1:=by omega
   have kl:j+(m+2)+1-j=m+2+1:=by omega
   obtain⟨y0,hy0⟩:∃y,qr[j]?=some y:=⟨_,bM (by omega)⟩;have j3:=aside7 a5 hjq hql hqB a4 hhi a6;clear hD a5 hjq hql hqB g0 a4 hhi f0 hRu c6 a6 b5 d4 d5 d6
   go_wp2_with first|(go_at_call 358;(rw [kl]);(with_reducible refine j6.mono ?_);rintro e w7 ⟨q,es,rfl,hq2,hel,hesB,a8,hes2,hRe,hO⟩;have c4:bW w7 bq qr:=(hO.block bq a9.lt (fR h3)).trans a9;obtain⟨c0,c1⟩:=c4.cell hy0;have j0:Aside (val 4294967296 us+4294967296^(m+2)*un=q*val 4294967296 vs+val 4294967296 es∧es.length=m+2):=⟨a8,hel⟩;clear a8 hel)
   obtain⟨a5,hjq,hql,hqB,a4,hhi,a6⟩:=j3.o;obtain⟨a8,hel⟩:=j0.o;have d3:=DivAt.step (lo:=lo) (mid:=us++ [un]) a5 a6 hq2 hesB hel (by rw [a4];exact a8) hes2;have g5:=Only.set w7 bq j (.int .u32 q);have e9:lo++es++List.replicate (jq-j) 0=lo++es++0::hi:=by
    rw [show jq-j=jq-(j+1)+1 by omega,mV,hhi]
   refine⟨⟨j,lo++es,q::qs,qr.set j q,rfl,⟨d3,by omega,by rw [yU];exact hql,fun y hy=>?_⟩,?_,c4.set,fun j' y hy=>?_,?_⟩,by simp [intOf]⟩
   ·rcases Kr hy with hy|rfl
    ·exact hqB y hy
    ·exact hq2
   ·rw [e9];exact(g5.block bo hRe.lt h3).trans hRe
   ·have g8:=oD (hv j' y hy);exact((g5.cell (p:=⟨bv,0+j',none⟩) (aR g8 hO.size) k0).trans (hO.cell (p:=⟨bv,0+j',none⟩) g8 f6)).trans (hv j' y hy)
   ·have h9:=hB.trans (hO.toBelow a3.o.2.2.2.2.2.1 hB.size);exact h9.setCell (p:=⟨bq,j,none⟩) a3.o.2.2.2.2.2.2 _
def NoZ.pos' (h:NoZ C) (a0:C≠ []):0<val 4294967296 C:=by
 have:=h.pos (B:=4294967296) (by decide) a0;have h2:0<(4294967296:Nat)^(C.length-1):=kW (by decide);omega
def Gc (a1 a2:Option Addr) (a4 a5 a6 a7 n:Nat) (A C:List Nat) (a9:A.length=a4) (b0:C.length=a5) (b2:a4≤500000) (a8:a5≤500000) (w:Wo) (hn:n≤w.heap.size) (h1:cR n w a1 A) (h2:cR n w a2 C) (hA:NoZ A) (hC:NoZ C) (a0:C≠ []):
  Cz 336 #[.slice a1 a4 a6,.slice a2 a5 a7] w fun e w'=>∃q r,e= .returned (.tuple #[q,r])∧NatL w'.heap.size w' r (val 4294967296 A%val 4294967296 C)∧Bz w w':=by
 by_cases b8:val 4294967296 A<val 4294967296 C
 ·exact Gb a1 a2 a4 a5 a6 a7 n A C a9 b0 b2 a8 w hn h1 h2 hA hC b8
 ·have b5:val 4294967296 C≤val 4294967296 A:=by omega
  match C,a5,b0,a0 with
  | [d],_,rfl,_=>
   have b4:val 4294967296 [d]=d:=by simp [val]
   have:=Fz a1 a2 a4 a6 a7 n d A a9 b2 w hn h1 h2 hA hC (by rw [←b4];exact b5);rw [b4];exact this
  |d1::d2::D,_,rfl,_=>exact Ga a1 a2 a4 D.length a6 a7 n A (d1::d2::D) a9 (by simp) b2 w hn h1 h2 hA hC b5
def FR (w:Wo) (b off j:Nat):Nat:=match w.cell? ⟨b,off+j,none⟩ with
 |some (.int _ x)=>x.toNat
 |_=>0
def EE (s:Value) (w:Wo):Nat:=match s with
 | .slice (some ⟨b,off,none⟩) k _=>val 4294967296 ((List.range k).map (FR w b off))
 |_=>0
def NatL.read {w:Wo} {r:Value} (h:NatL n w r v):EE r w=v:=by
 obtain⟨a,L,c,rfl,h1,_,rfl⟩:=h
 by_cases a0:L= []
 ·subst a0;unfold EE;split
  ·rename_i e;cases e;rfl
  ·rfl
 ·obtain⟨b,off,rfl,_,hc⟩:=h1.2 a0;show val 4294967296 ((List.range L.length).map (FR w b off))=_;congr 1;apply WC
  ·simp
  ·intro j h3 h4;have:=hc j L[j] (bM h4);simp [FR,this]
def NoZ.len_pow (h:NoZ L) (hv:val 4294967296 L<4294967296^M):L.length≤M:=by
 by_cases a0:L= []
 ·subst a0;simp
 ·have h1:=h.pos (B:=4294967296) (by decide) a0;have:=(IS (show 1<4294967296 by decide)).1 (vJ h1 hv);omega
def Ba (r1 r2:Value) (n a c M:Nat) (hM:M≤500000) (ha:a<4294967296^M) (hc:c<4294967296^M) (w:Wo) (hn:n≤w.heap.size) (h1:NatL n w r1 a) (h2:NatL n w r2 c):
  Cz 300 #[r1,r2] w fun e w'=>∃r,e= .returned r∧NatL w'.heap.size w' r (Nat.gcd a c)∧Bz w w':=by
 have b1:Aside (NatL w.heap.size w r1 a∧NatL w.heap.size w r2 c∧a<4294967296^M∧c<4294967296^M):=⟨h1.up hn,h2.up hn,ha,hc⟩;clear hn h1 h2 ha hc;go_enter Tryz.func300,Tryz.ntmps300
 go_wp2_with fail
 go_loopw [0,1] (fun s0 s1 wr=>∃(x y:Nat),Aside (NatL wr.heap.size wr s0 x∧NatL wr.heap.size wr s1 y∧Nat.gcd x y=Nat.gcd a c∧x<4294967296^M∧y<4294967296^M∧Bz w wr)) (fun _ s wr=>EE s wr)
 case atStart=>exact⟨a,c,b1.o.1,b1.o.2.1,rfl,b1.o.2.2.1,b1.o.2.2.2,bD _ _⟩
 case round=>
  obtain⟨x,y,hR⟩:=hrel;obtain⟨⟨a1,L1,c1,rfl,hA1,hA2,hA3⟩,⟨a2,L2,c2,rfl,hC1,hC2,hC3⟩,hg,hx,hy,hB⟩:=hR.o;have a9:=hA2.len_pow (M:=M) (by rw [hA3];exact hx);have b0:=hC2.len_pow (M:=M) (by rw [hC3];exact hy)
  by_cases a0:L2= []
  ·subst a0;have b7:=wO (.slice a1 L1.length c1) wr.heap.size L1 (by omega) wr (aA _) ⟨a1,c1,rfl,hA1⟩;have hF:Aside (Nat.gcd a c=x∧NoZ L1∧val 4294967296 L1=x):=⟨by rw [←hg,←hC3];simp [val],hA2,hA3⟩;clear hA1 hA2 hA3 hC1 hC2 hC3 hg hx hy a9 b0 hR
   go_wp2_with first|(go_at_call 129;(with_reducible refine b7.mono ?_);rintro e w' ⟨sv,rfl,⟨a3,c3,rfl,hL⟩,a8⟩)
   go_ret
   refine⟨_,rfl,?_,hB.trans (a8.mono hB.size)⟩;rw [hF.o.1];exact⟨a3,L1,c3,rfl,hL.toAt fun k hk=>hk.2,hF.o.2.1,hF.o.2.2⟩
  ·have b3:=Gc a1 a2 L1.length L2.length c1 c2 wr.heap.size L1 L2 rfl rfl (by omega) (by omega) wr (aA _) hA1 hC1 hA2 hC2 a0;rw [hA3,hC3] at b3;have b6:0<y:=hC3▸hC2.pos' a0;have b9:0<L2.length:=by
    rcases L2 with _|⟨d,D⟩
    ·exact absurd rfl a0
    ·simp
   have hF:Aside (NatL wr.heap.size wr (.slice a2 L2.length c2) y∧0<y∧Nat.gcd x y=Nat.gcd a c∧y<4294967296^M):=⟨⟨a2,L2,c2,rfl,hC1,hC2,hC3⟩,b6,hg,hy⟩;clear hA1 hA2 hA3 hC1 hC2 hC3 hg hx hy a9 b0 hR a0 b6
   go_wp2_with first|(go_at_call 336;(with_reducible refine b3.mono ?_);rintro e w' ⟨q,r,rfl,hr,a8⟩)
   obtain⟨f1,f2,f3,f4⟩:=hF.o;refine⟨⟨y,x%y,(f1.below a8 (aA _)).up a8.size,hr,?_,f4,IW (mT _ f2) f4,hB.trans (a8.mono hB.size)⟩,?_⟩
   ·rw [Nat.gcd_comm,←Nat.gcd_rec,Nat.gcd_comm];exact f3
   ·rw [hr.read,f1.read];exact mT _ f2
def BF (a:Option Addr) (len cap n:Nat) (L:List Nat) (hl:L.length=len) (w:Wo) (h1:cR n w a L):Cz 299 #[.slice a len cap] w fun e w'=>e= .returned (.bool (decide (L= [1])))∧w'=w:=by
 by_cases h:len=1
 ·subst h;obtain⟨x,rfl⟩:∃x,L= [x]:=by
   match L,hl with
   | [x],_=>exact⟨x,rfl⟩
  obtain⟨b,off,rfl,hb,hx,hc⟩:=h1.get (k:=0) rfl;have a4:w.cell? ⟨b,off,none⟩=some (.int .u32 x):=by simpa using hc
  clear hc hl
  by_cases a2:x=1
  ·subst a2;go_enter Tryz.func299,Tryz.ntmps299
   go_wp2_with fail
   go_ret
   exact⟨rfl,rfl⟩
  ·have a3:((x:Int)==1)=false:=by simp;omega
   have hd:decide ([x]= [1])=false:=by simp [a2]
   rw [hd];go_enter Tryz.func299,Tryz.ntmps299
   go_wp2_with fail
   go_ret
   exact⟨rfl,rfl⟩
 ·have a8:((len:Int)==1)=false:=by simp;omega
  have hd:decide (L= [1])=false:=by
   rw [vI];rintro rfl;exact h hl.symm
  rw [hd];go_enter Tryz.func299,Tryz.ntmps299
  go_wp2_with fail
  go_ret
  exact⟨rfl,rfl⟩
def PJ (a:Option Addr) (len cap n:Nat) (L:List Nat) (hl:L.length=len) (hb:len<4611686018427387904) (w:Wo) (h1:cR n w a L):Cz 298 #[.slice a len cap] w fun e w'=>e= .returned (.bool (decide (L.getLast?=some 0)))∧w'=w:=by
 by_cases h:len=0
 ·subst h;obtain rfl:L= []:=DF.1 hl;go_enter Tryz.func298,Tryz.ntmps298
  go_wp2_with fail
  go_ret
  exact⟨rfl,rfl⟩
 ·obtain⟨k,rfl⟩:∃k,len=k+1:=⟨len-1,by omega⟩;obtain⟨x,hx⟩:∃x,L[k]?=some x:=⟨_,bM (by omega)⟩;have a0:L.getLast?=some x:=by rw [JH,hl,IY];exact hx
  obtain⟨b,off,rfl,hbn,a3,hc⟩:=h1.get hx;have a9:IntKind.i64.wrap ((k:Int)+1-1)=(k:Int):=by rw [dX];omega
  have a5:(k:Int)<(k:Int)+1:=by omega
  have a6:(0:Int)≤(k:Int):=by omega
  have a7:(0:Int)<(k:Int)+1:=by omega
  rw [a0];clear a0 hx hl
  by_cases a1:x=0
  ·subst a1;go_enter Tryz.func298,Tryz.ntmps298
   go_wp2_with fail
   go_ret
   exact⟨rfl,rfl⟩
  ·have b0:((x:Int)==0)=false:=by simp;omega
   have hd:decide (some x=some 0)=false:=by simp [a1]
   rw [hd];go_enter Tryz.func298,Tryz.ntmps298
   go_wp2_with fail
   go_ret
   exact⟨rfl,rfl⟩
def NoZ.of_last (h:L.getLast?≠some 0):NoZ L:=fun x hx d6=>h (by rw [hx,d6])
def NoZ.one_iff (h:NoZ L) (hd:∀x∈L,x<4294967296):val 4294967296 L=1↔L= [1]:=by
 constructor
 ·intro hv;exact NoZ.eq (B:=4294967296) h (by intro x hx;simp at hx;omega) hd (by intro x hx;simp at hx;omega) (by decide) (by rw [hv];rfl)
 ·rintro rfl;rfl
def ES (h1:¬128<A.length) (h2:¬128<C.length) (h:A.getLast?=some 0∨C.getLast?=some 0∨C= []):iO neg A C=2:=by
 unfold iO;rw [if_neg (by omega),if_pos];rcases h with h|h|h
 ·exact .inr (.inr h)
 ·exact .inr (.inl h)
 ·exact .inl h
def As (h1:¬128<A.length) (h2:¬128<C.length) (hA:A.getLast?≠some 0) (hC:C.getLast?≠some 0) (a7:C≠ []) (c9:∀x∈C,x<4294967296) (h:A= []):iO neg A C=if neg=true∨C≠ [1] then 2 else 0:=by
 subst h;unfold iO;rw [if_neg (by omega),if_neg (by rintro(h|h|h);exact a7 h;exact hC h;exact hA h)];have e:=(NoZ.of_last hC).one_iff c9
 by_cases hn:neg=true∨C≠ [1]
 ·rw [if_pos ⟨rfl,hn.imp id fun h e'=>h (e.1 e')⟩,if_pos hn]
 ·rw [if_neg (by rintro⟨_,h⟩;exact hn (h.imp id fun h e'=>h (e.2 e'))),if_neg hn];have hc:val 4294967296 C=1:=e.2 (oH fun h=>hn (.inr h));rw [hc];rfl
def Au (h1:¬128<A.length) (h2:¬128<C.length) (hA:A.getLast?≠some 0) (hC:C.getLast?≠some 0) (a7:C≠ []) (d8:∀x∈A,x<4294967296) (c9:∀x∈C,x<4294967296) (h:A≠ []):iO neg A C=if C≠ [1]∧A≠ [1]∧Nat.gcd (val 4294967296 A) (val 4294967296 C)≠1 then 2 else 0:=by
 unfold iO;have hp:=(NoZ.of_last hA).pos' h;rw [if_neg (by omega),if_neg (by rintro(h|h|h);exact a7 h;exact hC h;exact hA h),if_neg (by rintro⟨h,_⟩;omega)]
 by_cases hg:Nat.gcd (val 4294967296 A) (val 4294967296 C)=1
 ·rw [if_neg (by simp [hg]),if_neg (by rintro⟨_,_,h⟩;exact h hg)]
 ·rw [if_pos hg,if_pos];refine⟨?_,?_,hg⟩
  ·rintro rfl;exact hg (by simp [val])
  ·rintro rfl;exact hg (by simp [val])
def Bo (neg:Bool) (a1 a2:Option Addr) (a5 a6 b2 b3 n:Nat) (A C:List Nat) (c4:A.length=a5) (c5:C.length=a6) (d2:a5<4611686018427387904) (d3:a6<4611686018427387904) (w:Wo) (hn:n≤w.heap.size) (h1:cR n w a1 A) (h2:cR n w a2 C):
  Cz 255 #[.agg #[.bool neg,.slice a1 a5 b2,.slice a2 a6 b3]] w fun e w'=>e= .returned (.int .i64 (iO neg A C))∧Bz w w':=by
 by_cases e0:128<a5
 ·have hv:iO neg A C=3:=by unfold iO;rw [if_pos (.inl (by omega))]
  rw [hv];have d0:(128:Int)<(a5:Int):=by omega
  go_enter Tryz.func255,Tryz.ntmps255;go_wp2
  go_ret
  exact⟨rfl,aC _ _⟩
 by_cases e1:128<a6
 ·have hv:iO neg A C=3:=by unfold iO;rw [if_pos (.inr (by omega))]
  rw [hv];have d0:¬(128:Int)<(a5:Int):=by omega
  have d4:(128:Int)<(a6:Int):=by omega
  go_enter Tryz.func255,Tryz.ntmps255;go_wp2
  go_ret
  exact⟨rfl,aC _ _⟩
 have d0:¬(128:Int)<(a5:Int):=by omega
 have d4:¬(128:Int)<(a6:Int):=by omega
 obtain⟨wb,hwb⟩:=enm (w.alloc (Obj.cells #[.bool neg,.slice a1 a5 b2,.slice a2 a6 b3] 45));have a8:Bz w wb:=hwb▸aC _ _;have b4:=h1.below a8 hn;have b5:=h2.below a8 hn;have d5:n≤wb.heap.size:=aD hn a8.size;have b7:=PJ a1 a5 b2 n A c4 d2 wb b4;have b6:=PJ a2 a6 b3 n C c5 d3 wb b5;have b0:=BF a1 a5 b2 n A c4 wb b4;have b1:=BF a2 a6 b3 n C c5 wb b5;have a0:¬128<A.length:=by omega
 have a4:¬128<C.length:=by omega
 subst hwb
 by_cases hA:A.getLast?=some 0
 ·rw [ES a0 a4 (.inl hA)];rw [yJ hA] at b7;clear hA b0 b1 b6 b4 b5 a0 a4;go_enter Tryz.func255,Tryz.ntmps255
  go_wp2_with first|(go_at_call 298;with_reducible refine b7.mono ?_;rintro e w2 ⟨rfl,rfl⟩)|(go_at_call 298;with_reducible refine b6.mono ?_;rintro e w2 ⟨rfl,rfl⟩)
  go_ret
  exact⟨rfl,a8⟩
 rw [oC hA] at b7
 by_cases hC:C.getLast?=some 0
 ·rw [ES a0 a4 (.inr (.inl hC))];rw [yJ hC] at b6;clear hA hC b0 b1 b4 b5 a0 a4;go_enter Tryz.func255,Tryz.ntmps255
  go_wp2_with first|(go_at_call 298;with_reducible refine b7.mono ?_;rintro e w2 ⟨rfl,rfl⟩)|(go_at_call 298;with_reducible refine b6.mono ?_;rintro e w2 ⟨rfl,rfl⟩)
  go_ret
  exact⟨rfl,a8⟩
 rw [oC hC] at b6
 by_cases a7:C= []
 ·rw [ES a0 a4 (.inr (.inr a7))];have c6:a6=0:=by rw [←c5,a7];rfl
  subst c6;clear hA hC b0 b1 b4 b5 a0 a4 a7;go_enter Tryz.func255,Tryz.ntmps255
  go_wp2_with first|(go_at_call 298;with_reducible refine b7.mono ?_;rintro e w2 ⟨rfl,rfl⟩)|(go_at_call 298;with_reducible refine b6.mono ?_;rintro e w2 ⟨rfl,rfl⟩)
  go_ret
  exact⟨rfl,a8⟩
 have d9:((a6:Int)==0)=false:=by
  have:a6≠0:=fun h=>a7 (DF.1 (by omega))
  simp;omega
 by_cases b8:A= []
 ·rw [As a0 a4 hA hC a7 h2.1 b8];have c6:a5=0:=by rw [←c4,b8];rfl
  subst c6
  by_cases d1:neg=true
  ·subst d1;rw [if_pos (.inl rfl)];clear hA hC b0 b1 b4 b5 a0 a4 a7 b8;go_enter Tryz.func255,Tryz.ntmps255
   go_wp2_with first|(go_at_call 298;with_reducible refine b7.mono ?_;rintro e w2 ⟨rfl,rfl⟩)|(go_at_call 298;with_reducible refine b6.mono ?_;rintro e w2 ⟨rfl,rfl⟩)
   go_ret
   exact⟨rfl,a8⟩
  ·obtain rfl:neg=false:=by simpa using d1
   by_cases a9:C= [1]
   ·rw [if_neg (by simp [a9])];rw [yJ a9] at b1;clear hA hC b0 b4 b5 a0 a4 a7 b8 a9;go_enter Tryz.func255,Tryz.ntmps255
    go_wp2_with first|(go_at_call 298;with_reducible refine b7.mono ?_;rintro e w2 ⟨rfl,rfl⟩)|(go_at_call 298;with_reducible refine b6.mono ?_;rintro e w2 ⟨rfl,rfl⟩)|(go_at_call 299;with_reducible refine b1.mono ?_;rintro e w2 ⟨rfl,rfl⟩)|(go_at_call 299;with_reducible refine b0.mono ?_;rintro e w2 ⟨rfl,rfl⟩)
    go_ret
    exact⟨rfl,a8⟩
   ·rw [if_pos (.inr a9)];rw [oC a9] at b1;clear hA hC b0 b4 b5 a0 a4 a7 b8 a9;go_enter Tryz.func255,Tryz.ntmps255
    go_wp2_with first|(go_at_call 298;with_reducible refine b7.mono ?_;rintro e w2 ⟨rfl,rfl⟩)|(go_at_call 298;with_reducible refine b6.mono ?_;rintro e w2 ⟨rfl,rfl⟩)|(go_at_call 299;with_reducible refine b1.mono ?_;rintro e w2 ⟨rfl,rfl⟩)|(go_at_call 299;with_reducible refine b0.mono ?_;rintro e w2 ⟨rfl,rfl⟩)
    go_ret
    exact⟨rfl,a8⟩
 have d7:((a5:Int)==0)=false:=by
  have:a5≠0:=fun h=>b8 (DF.1 (by omega))
  simp;omega
 rw [Au a0 a4 hA hC a7 h1.1 h2.1 b8]
 by_cases a9:C= [1]
 ·rw [if_neg (by simp [a9])];rw [yJ a9] at b1;clear hA hC b0 b4 b5 a0 a4 a7 b8 a9;go_enter Tryz.func255,Tryz.ntmps255
  go_wp2_with first|(go_at_call 298;with_reducible refine b7.mono ?_;rintro e w2 ⟨rfl,rfl⟩)|(go_at_call 298;with_reducible refine b6.mono ?_;rintro e w2 ⟨rfl,rfl⟩)|(go_at_call 299;with_reducible refine b1.mono ?_;rintro e w2 ⟨rfl,rfl⟩)|(go_at_call 299;with_reducible refine b0.mono ?_;rintro e w2 ⟨rfl,rfl⟩)
  go_ret
  exact⟨rfl,a8⟩
 rw [oC a9] at b1
 by_cases b9:A= [1]
 ·rw [if_neg (by simp [b9])];rw [yJ b9] at b0;clear hA hC b4 b5 a0 a4 a7 b8 a9 b9;go_enter Tryz.func255,Tryz.ntmps255
  go_wp2_with first|(go_at_call 298;with_reducible refine b7.mono ?_;rintro e w2 ⟨rfl,rfl⟩)|(go_at_call 298;with_reducible refine b6.mono ?_;rintro e w2 ⟨rfl,rfl⟩)|(go_at_call 299;with_reducible refine b1.mono ?_;rintro e w2 ⟨rfl,rfl⟩)|(go_at_call 299;with_reducible refine b0.mono ?_;rintro e w2 ⟨rfl,rfl⟩)
  go_ret
  exact⟨rfl,a8⟩
 rw [oC b9] at b0;have c7:=val_lt h1.1;have c8:=val_lt h2.1;have c2:∀k,k≤128→(4294967296:Nat)^k≤4294967296^128:=fun k hk=>VB (by decide) hk
 obtain⟨M,hM⟩:∃M:Nat,M=128:=⟨_,rfl⟩;rw [←hM] at c2;have hg:=Ba (.slice a1 a5 b2) (.slice a2 a6 b3) n (val 4294967296 A) (val 4294967296 C) M (by omega) (aR c7 (c2 _ (by omega))) (aR c8 (c2 _ (by omega))) _ d5 ⟨a1,A,b2,by rw [c4],b4,NoZ.of_last hA,rfl⟩ ⟨a2,C,b3,by rw [c5],b5,NoZ.of_last hC,rfl⟩
 by_cases c0:Nat.gcd (val 4294967296 A) (val 4294967296 C)=1
 ·rw [if_neg (by rintro⟨_,_,h⟩;exact h c0)];obtain⟨G,hG⟩:=enm (Nat.gcd (val 4294967296 A) (val 4294967296 C));rw [hG] at hg c0;clear hG c2 c7 c8 hM hA hC b4 b5 a0 a4 a7 b8 a9 b9;go_enter Tryz.func255,Tryz.ntmps255
  go_wp2_with first|(go_at_call 298;with_reducible refine b7.mono ?_;rintro e w2 ⟨rfl,rfl⟩)|(go_at_call 298;with_reducible refine b6.mono ?_;rintro e w2 ⟨rfl,rfl⟩)|(go_at_call 299;with_reducible refine b1.mono ?_;rintro e w2 ⟨rfl,rfl⟩)|(go_at_call 299;with_reducible refine b0.mono ?_;rintro e w2 ⟨rfl,rfl⟩)|(go_at_call 300;(with_reducible refine hg.mono ?_);rintro e w3 ⟨r,rfl,⟨a3,L3,c3,rfl,hL1,hL2,hL3⟩,hb3⟩;have c1:=BF a3 L3.length c3 w3.heap.size L3 rfl w3 hL1;(rw [yJ ((hL2.one_iff hL1.1).1 (hL3.trans c0))] at c1))|(go_at_call 299;with_reducible refine c1.mono ?_;rintro e w4 ⟨rfl,rfl⟩)
  go_ret
  exact⟨rfl,a8.trans (hb3.mono a8.size)⟩
 ·rw [if_pos ⟨a9,b9,c0⟩];obtain⟨G,hG⟩:=enm (Nat.gcd (val 4294967296 A) (val 4294967296 C));rw [hG] at hg c0;clear hG c2 c7 c8 hM hA hC b4 b5 a0 a4 a7 b8 a9 b9;go_enter Tryz.func255,Tryz.ntmps255
  go_wp2_with first|(go_at_call 298;with_reducible refine b7.mono ?_;rintro e w2 ⟨rfl,rfl⟩)|(go_at_call 298;with_reducible refine b6.mono ?_;rintro e w2 ⟨rfl,rfl⟩)|(go_at_call 299;with_reducible refine b1.mono ?_;rintro e w2 ⟨rfl,rfl⟩)|(go_at_call 299;with_reducible refine b0.mono ?_;rintro e w2 ⟨rfl,rfl⟩)|(go_at_call 300;(with_reducible refine hg.mono ?_);rintro e w3 ⟨r,rfl,⟨a3,L3,c3,rfl,hL1,hL2,hL3⟩,hb3⟩;have c1:=BF a3 L3.length c3 w3.heap.size L3 rfl w3 hL1;(rw [oC (fun h=>c0 (hL3.symm.trans ((hL2.one_iff hL1.1).2 h)))] at c1))|(go_at_call 299;with_reducible refine c1.mono ?_;rintro e w4 ⟨rfl,rfl⟩)
  go_ret
  exact⟨rfl,a8.trans (hb3.mono a8.size)⟩
