/- Lemmas; no condition. -/
import Derived.Test.YtbdpdeonapmlgaaGreatDoorAh
set_option linter.all false
set_option maxHeartbeats 4000000
set_option maxRecDepth 100000
namespace Go.Proofs.YtbdpdeonapmlgaaGreatDoor
open Go.RowKit Go.Big Go.RowsK
attribute [local go_sem] Heavy.uponW
def ZO (k v:Int) (nm:ByteArray) (g:Bool) (num den:List Nat) (args:List Tm) (ih:∀T'∈args,LitsOk 20 T'):LitsOk 20 (.mk k v nm g num den args):=by
 intro n w vs hT hN h hn;have hk:=fun w2 (hb:Bz w w2)=>FD (.mk k v nm g num den args) n w2 vs hT (TmV.below hb hn _ _ h) (aE hn hb.size)
 have h0:=h;have d8:=(CP hT).2;obtain⟨Tt,hTt⟩:=enm (Tm.mk k v nm g num den args);have TA:=aside hTt;rw [hTt] at hk h0 hN ⊢;have f4:=aside hN;simp only [TmV] at h;obtain⟨_,_,a,c,rfl,⟨⟨p1,q1,rfl,_⟩,⟨p2,q2,rfl,_⟩⟩,hS,hbig,_⟩:=h;generalize num.length=n1,den.length=n2 at*;obtain⟨len,hl⟩:=enm args.length;rw [hl] at h0 hk ⊢;have Al:=aside2 hl d8;have d0:=aside hS;have c6:=aside ih;have hB:=aC w (bA k v nm g p1 n1 q1 p2 n2 q2 a len c);have hq:=aK w (bA k v nm g p1 n1 q1 p2 n2 q2 a len c);have e9:(w.alloc (bA k v nm g p1 n1 q1 p2 n2 q2 a len c)).heap.size=w.heap.size+1:=by simp
 obtain⟨wb,hwb⟩:=enm (w.alloc (bA k v nm g p1 n1 q1 p2 n2 q2 a len c));rw [hwb] at hB hq e9;have fa:Aside (∀w2,Bz wb w2→_):=fun(w2:Wo) (hb:Bz wb w2)=>eG ((hb.block w.heap.size (by omega)).trans hq)
 have d2:=aside hk;have f2:Aside (∀w2,Bz w w2→TmV n w2 Tt [.int .i64 k,.int .i64 v,.string nm,.bool g,.slice p1 n1 q1,.slice p2 n2 q2,.slice a len c]):=fun w2 hb=>TmV.below hb hn _ _ h0
 obtain⟨x0,x1,x2,x3,x4,x5,x6⟩:=fa.o wb (aG _ _);obtain⟨it,hit⟩:∃b,pI k nm=b:=⟨_,rfl⟩;obtain⟨ia,hia⟩:∃b,pJ k nm len=b:=⟨_,rfl⟩;have b7:=aside2 hit hia;have e0:Bz wb wb:=aG _ _;have b1:Aside (it=false→ia=false→Tt.lits= [Tt]∧Tt.litsB=(Tt.kd !=0)):=by
  show _→_→_;intro a1 a2;have:=OX (k:=k) (v:=v) (nm:=nm) (g:=g) (num:=num) (den:=den) (args:=args) (hit.trans a1) (by rw [hl];exact hia.trans a2);rw [TA.o] at this;exact this
 have b2:Aside (it=true→Tt.lits= []∧Tt.litsB=true):=by
  show _→_;intro a1;have:=OW (k:=k) (v:=v) (nm:=nm) (g:=g) (num:=num) (den:=den) (args:=args) (hit.trans a1);rw [TA.o] at this;exact this
 clear hq e9 hl hS hit hia hk h0 d8 hT hTt hN ih;show Cz 20 #[.agg (tA k v nm g p1 n1 q1 p2 n2 q2 a len c)] w _;go_enter Tryz.func20,Tryz.ntmps20
 go_upto_region 1 with fail
 clear hwb;obtain⟨w2,hw2⟩:=enm wb;have e2:Bz wb w2:=by rw [←hw2];exact e0
 rw [hw2] at x0 x1 x2 x3 x4 x5 x6;rw [hw2];clear hw2;cases it
 case true=>
  have hr:=b2.o rfl;have hP:Aside (eJ n w Tt (.returned (.tuple #[.slice none 0 0,.bool true])) w2):=⟨_,by rw [hr.2],by rw [hr.1];exact OutT.nil _ _ _,hB.trans (e2.mono hB.size)⟩;obtain⟨rfl,f9⟩:k=3∧(nm.toList== [116,114,117,101])=true:=by have:=b7.o.1;unfold pI at this;simpa using this
  clear hr b2 b1;go_wp2
  go_ret2
  exact hP.o
 have b8:k=3→(nm.toList== [116,114,117,101])=false:=by
  have:=b7.o.1;unfold pI at this;intro b0;subst b0;simpa using this
 cases ia
 case true=>
  obtain⟨rfl,hnc,rfl⟩:k=5∧(nm.toList== [44])=true∧len=2:=by
   have:=b7.o.2;unfold pJ at this;simp at this;exact⟨this.1.1,by simpa using this.1.2,by omega⟩
  obtain⟨A,B,rfl⟩:∃A B,args= [A,B]:=by
   match args,Al.o.1 with
   | [A,B],_=>exact⟨A,B,rfl⟩
  obtain⟨d3,b3⟩:=OV (v:=v) (g:=g) (num:=num) (den:=den) (A:=A) (B:=B) b7.o.1 b7.o.2;rw [TA.o] at d3 b3;have d5:=(pM Al.o.2).1;have d6:=(pM (pM Al.o.2).2).1;have a8:A.nodes≤10000∧B.nodes≤10000∧A.lits.length+B.lits.length≤20000:=by
   have h1:=f4.o;rw [←TA.o] at h1;simp only [Tm.nodes,Tm.nodesL] at h1;have:=qQ A;have:=qQ B;omega
  have d7:=d0.o;simp only [TmsV] at d7;obtain⟨⟨b,off,va,rfl,hbn,hca,hva⟩,⟨b',off',vb,eb,_,hcb,hvb⟩,_⟩:=d7;obtain⟨rfl,rfl⟩:b=b'∧off=off':=by injection eb with eb;injection eb with e1 e2;exact⟨e1,e2⟩
  clear eb;have f0:=c6.o A (by simp);have f1:=c6.o B (by simp);have c1:Aside (∀w2,Bz wb w2→TmV n w2 A va):=fun w2 hb=>TmV.below (hB.trans (hb.mono hB.size)) hn _ _ hva
  have c2:Aside (∀w2,Bz wb w2→TmV n w2 B vb):=fun w2 hb=>TmV.below (hB.trans (hb.mono hB.size)) hn _ _ hvb
  have c4:n≤wb.heap.size:=aE hn hB.size;have a6:Aside (∀w2,Bz wb w2→Cz 20 #[.agg va.toArray] w2 (eJ n w2 A)):=fun w2 hb=>f0 n w2 va d5 a8.1 (c1.o w2 hb) (aE c4 hb.size)
  have a7:Aside (∀w2,Bz wb w2→Cz 20 #[.agg vb.toArray] w2 (eJ n w2 B)):=fun w2 hb=>f1 n w2 vb d6 a8.2.1 (c2.o w2 hb) (aE c4 hb.size)
  have b4:Aside (Tt.lits=A.lits++B.lits∧Tt.litsB=(A.litsB&&B.litsB)∧A.lits.length+B.lits.length≤20000):=⟨d3,b3,a8.2.2⟩;clear d3 b3 d5 d6 a8 f0 f1 c1 c2 d0 c6 d2 b2 b1;obtain⟨ka,va1,nma,ga,c3,dena,argsa⟩:=A;obtain⟨kb,vb1,nmb,gb,numb,denb,argsb⟩:=B;simp only [TmV] at hva hvb;obtain⟨_,_,aa,ca,rfl,⟨⟨r1,u1,rfl,_⟩,⟨r2,u2,rfl,_⟩⟩,_⟩:=hva;obtain⟨_,_,ab,cb,rfl,⟨⟨r3,u3,rfl,_⟩,⟨r4,u4,rfl,_⟩⟩,_⟩:=hvb;obtain⟨TAt,hTAt⟩:∃t,Tm.mk ka va1 nma ga c3 dena argsa=t:=⟨_,rfl⟩;obtain⟨TBt,hTBt⟩:∃t,Tm.mk kb vb1 nmb gb numb denb argsb=t:=⟨_,rfl⟩;rw [hTAt] at a6;rw [hTBt] at a7;rw [hTAt,hTBt] at b4;clear hTAt hTBt Al TA;generalize c3.length=ma1,dena.length=ma2,argsa.length=la,numb.length=mb1,denb.length=mb2,argsb.length=lb at*;have ya:Aside (∀w2,Bz wb w2→_):=fun(w2:Wo) (hb:Bz wb w2)=>jL (fun p hp=>((hB.trans (hb.mono hB.size)).mono hn).cell (hp▸hbn)) (by simpa using hca)
  have yb:Aside (∀w2,Bz wb w2→_):=fun(w2:Wo) (hb:Bz wb w2)=>jL (o:=off+7) (fun p hp=>((hB.trans (hb.mono hB.size)).mono hn).cell (hp▸hbn)) (by simpa using hcb)
  clear hca hcb;obtain⟨y0,y1,y2,y3,y4,y5,y6⟩:=ya.o w2 e2;replace a6:Aside (∀w2,Bz wb w2→Cz 20 #[.agg (tA ka va1 nma ga r1 ma1 u1 r2 ma2 u2 aa la ca)] w2 (eJ n w2 TAt)):=a6;replace a7:Aside (∀w2,Bz wb w2→Cz 20 #[.agg (tA kb vb1 nmb gb r3 mb1 u3 r4 mb2 u4 ab lb cb)] w2 (eJ n w2 TBt)):=a7
  go_wp2_with (go_at_call 20;with_reducible refine(a6.o _ e2).mono ?_)
  rintro e w3 ⟨v3,rfl,hO3,hb3⟩;have e3:Bz wb w3:=e2.trans (hb3.mono e2.size);have f3:=e2.size;clear x0 x1 x2 x3 x4 x5 x6 y0 y1 y2 y3 y4 y5 y6 a6 ya hb3;obtain⟨x0,x1,x2,x3,x4,x5,x6⟩:=fa.o w3 e3;obtain⟨y0,y1,y2,y3,y4,y5,y6⟩:=yb.o w3 e3
  go_wp2_with (go_at_call 20;with_reducible refine(a7.o _ e3).mono ?_)
  rintro e w4 ⟨v4,rfl,hO4,hb4⟩;have e4:Bz wb w4:=e3.trans (hb4.mono e3.size);have c7:=e3.size;have d4:n≤w3.heap.size:=aE c4 e3.size;have c8:=(hO3.below hb4 d4 (aA _)).base f3;have c9:=hO4.base c7;clear x0 x1 x2 x3 x4 x5 x6 y0 y1 y2 y3 y4 y5 y6 a7 yb hO3 hO4;obtain⟨X3,hX3,hT3⟩:=c8;obtain⟨X4,hX4,hT4⟩:=c9;have a9:TAt.lits.length+TBt.lits.length≤maxLen∧(TAt.lits.length+TBt.lits.length)*112≤140737488355328:=by
   have:=b4.o.2.2;unfold maxLen;omega
  have c0:=rZ hX4;have e6:=hX4.1;have e8:=hT4.one;have c5:wb.heap.size≤w4.heap.size:=e4.size;have hP:Aside (∀v5 w5,w5.ownsRow wb.heap.size 48 7 v5 (TAt.lits.length+TBt.lits.length) (X3++X4)→w4.grownBy w5 v3.ownBlock→eJ n w Tt (.returned (.tuple #[v5,.bool (TAt.litsB&&TBt.litsB)])) w5):=by
   show∀v5 w5,_;intro v5 w5 h1 h2;have e7:=hX3.lt;have a4:Bz wb w5:=e4.grown h2 c5 fun k hk=>(e7 k hk).1
   have f6:Below wb.heap.size w4 w5:=(aG _ _).grown h2 c5 fun k hk=>(e7 k hk).1
   refine⟨v5,by rw [b4.o.2.1],⟨X3++X4,?_,?_⟩,hB.trans (a4.mono hB.size)⟩
   ·rw [b4.o.1,aI];exact gM h1 hB.size
   ·rw [b4.o.1];exact(hT3.app hT4).below f6 c4
  clear hT3 hT4;cases hba:TAt.litsB
  ·rw [hba] at hP;clear hba b4
   go_wp2_with (at_builtin;refine gE elTm _ rfl _ _ rfl wb.heap.size _ _ X3 rfl hX3 v4 _ X4 rfl c0 e6 e8 a9.1 a9.2 c5 ?_;intro v5 w5 h5 d1 _)
   go_ret2
   exact hP.o _ _ h5 d1
  ·rw [hba] at hP;clear hba b4
   go_wp2_with (at_builtin;refine gE elTm _ rfl _ _ rfl wb.heap.size _ _ X3 rfl hX3 v4 _ X4 rfl c0 e6 e8 a9.1 a9.2 c5 ?_;intro v5 w5 h5 d1 _)
   go_ret2
   exact hP.o _ _ h5 d1
 have b9:k=5→(nm.toList== [44])=true→((len:Int)==2)=false:=by
  have:=b7.o.2;unfold pJ at this;intro a5 f8;subst a5;simp [f8] at this;simp;omega
 have b3:=b1.o (by first|rfl|trivial) (by first|rfl|trivial);have g2:w.heap.size≤wb.heap.size:=hB.size;have hP:Aside (∀w5 w6:Wo,Bz wb w5→w5.heap[w6.heap.size]?=some (.cells (tA k v nm g p1 n1 q1 p2 n2 q2 a len c) 48)→wb.heap.size≤w6.heap.size→∀b:Bool,b=(Tt.kd !=0)→eJ n w Tt (.returned (.tuple #[.slice (some ⟨w6.heap.size,0,none⟩) 1 1,.bool b])) w5):=by
  show∀w5 w6:Wo,_;intro w5 w6 h5 h6 h7 bb f7;refine⟨_,by rw [b3.2,f7],⟨[.int .i64 k,.int .i64 v,.string nm,.bool g,.slice p1 n1 q1,.slice p2 n2 q2,.slice a len c],?_,?_⟩,hB.trans (h5.mono hB.size)⟩
  ·rw [b3.1];exact⟨rfl,.inr ⟨_,_,_,rfl,by omega,h6,aA _,by unfold maxLen;omega,rfl,rfl⟩⟩
  ·rw [b3.1];exact⟨_,[],by simp,f2.o w5 (hB.trans (h5.mono hB.size)),rfl⟩
 have d9:=fun w2 (hb:Bz wb w2)=>d2.o w2 (hB.trans (hb.mono hB.size))
 have a3:Aside (∀w2,Bz wb w2→_):=d9;obtain⟨K,hK⟩:=enm Tt.kd;have g3:0≤K:=by rw [←hK];exact PO Tt
 rw [hK] at a3 hP;have g0:decide (0<K)=(K !=0):=by
  rw [iS];simp;omega
 clear d9 d2 b3 b1 b2 d0 c6 hK;rcases(by omega:k=3∨k=5∨(k≠3∧k≠5)) with b0|a5|⟨b0,a5⟩
 ·have f9:=b8 b0;have b5:(k==3)=true:=by simpa using b0
  have b6:(k==5)=false:=by simp [b0]
  clear b8 b9 b0
  go_upto_region 7 with fail
  clear x0 x1 x2 x3 x4 x5 x6;have fd:Bz wb w2.drew:=e2.trans (cU _ _);refine hRp (Bz wb) 6 (Heavy.lights [0,2] (.two 1 3 (.one 3 (Heavy.lights [4,5] .done)) (.light 4 (.one 1 (.light 5 .done))))) (by kernel_rfl) (by kernel_rfl) fd ?_;simp only [Heavy.lights,aX,bI,aW,bD]
  iterate 2 ((apply hLm;(exact rfl);(exact rfl);(intro a0 hw;have z0:=(fa.o a0 hw).1;have z1:=(fa.o a0 hw).2.1;have z2:=(fa.o a0 hw).2.2.1;have z3:=(fa.o a0 hw).2.2.2.1;have z4:=(fa.o a0 hw).2.2.2.2.1;have z5:=(fa.o a0 hw).2.2.2.2.2.1;have z6:=(fa.o a0 hw).2.2.2.2.2.2;go_simp;exact rfl);(go_simp;exact rfl)))
  (apply hTn;(exact rfl);(exact rfl);(exact rfl);(exact rfl))
  ·go_simp
   have g1:Bz wb ((w2.drew).alloc (.cells (tA k v nm g p1 n1 q1 p2 n2 q2 a len c) 48)):=fd.alloc fd.size _;have gq:=aK (w2.drew) ((.cells (tA k v nm g p1 n1 q1 p2 n2 q2 a len c) 48):Obj);have gs:((w2.drew).alloc ((.cells (tA k v nm g p1 n1 q1 p2 n2 q2 a len c) 48):Obj)).heap.size=w2.drew.heap.size+1:=by simp
   refine⟨g1,?_⟩
   (refine hNa (by go_simp;exact rfl) ?_)
   (apply hOn;(exact rfl);(exact rfl));go_simp
   refine(a3.o _ g1).mono ?_;rintro e w5 ⟨rfl,a4⟩;have g5:=g1.trans (a4.mono g1.size);refine⟨_,rfl,g5,?_⟩
   (refine hNa (by go_simp;exact rfl) ?_)
   iterate 2 ((apply hLm;(exact rfl);(exact rfl);(intro a0 hw;go_simp;exact rfl);(go_simp;exact rfl)))
   apply hPe;show wpList _ _ _ _ _ _;have hQ:Aside (eJ n w Tt _ _):=hP.o w5 (w2.drew) g5 ((a4.block _ (by rw [gs];omega)).trans gq) fd.size _ rfl;clear hP a3 gq gs a4;go_wp2
   go_ret2
   exact hQ.o
  ·go_simp
   refine(a3.o _ fd).mono ?_;rintro e w5 ⟨rfl,a4⟩;have g5:=fd.trans (a4.mono fd.size);refine⟨_,rfl,g5,?_⟩
   (refine hNa (by go_simp;exact rfl) ?_)
   (apply hLm;(exact rfl);(exact rfl);(intro a0 hw;go_simp;exact rfl);(go_simp;exact rfl))
   (apply hOn;(exact rfl);(exact rfl));go_simp
   have g6:Bz wb (w5.alloc (.cells (tA k v nm g p1 n1 q1 p2 n2 q2 a len c) 48)):=g5.alloc g5.size _;have gq:=aK w5 ((.cells (tA k v nm g p1 n1 q1 p2 n2 q2 a len c) 48):Obj);refine⟨g6,?_⟩
   (refine hNa (by go_simp;exact rfl) ?_)
   (apply hLm;(exact rfl);(exact rfl);(intro a0 hw;go_simp;exact rfl);(go_simp;exact rfl))
   apply hPe;show wpList _ _ _ _ _ _;have hQ:Aside (eJ n w Tt _ _):=hP.o _ w5 g6 gq g5.size _ rfl;clear hP a3 gq;go_wp2
   go_ret2
   exact hQ.o
 ·cases hnc:(nm.toList== [44])
  ·have b5:(k==3)=false:=by simp [a5]
   have b6:(k==5)=true:=by simpa using a5
   clear b8 b9 a5
   go_upto_region 7 with fail
   clear x0 x1 x2 x3 x4 x5 x6;have fd:Bz wb w2.drew:=e2.trans (cU _ _);refine hRp (Bz wb) 6 (Heavy.lights [0,2] (.two 1 3 (.one 3 (Heavy.lights [4,5] .done)) (.light 4 (.one 1 (.light 5 .done))))) (by kernel_rfl) (by kernel_rfl) fd ?_;simp only [Heavy.lights,aX,bI,aW,bD]
   iterate 2 ((apply hLm;(exact rfl);(exact rfl);(intro a0 hw;have z0:=(fa.o a0 hw).1;have z1:=(fa.o a0 hw).2.1;have z2:=(fa.o a0 hw).2.2.1;have z3:=(fa.o a0 hw).2.2.2.1;have z4:=(fa.o a0 hw).2.2.2.2.1;have z5:=(fa.o a0 hw).2.2.2.2.2.1;have z6:=(fa.o a0 hw).2.2.2.2.2.2;go_simp;exact rfl);(go_simp;exact rfl)))
   (apply hTn;(exact rfl);(exact rfl);(exact rfl);(exact rfl))
   ·go_simp
    have g1:Bz wb ((w2.drew).alloc (.cells (tA k v nm g p1 n1 q1 p2 n2 q2 a len c) 48)):=fd.alloc fd.size _;have gq:=aK (w2.drew) ((.cells (tA k v nm g p1 n1 q1 p2 n2 q2 a len c) 48):Obj);have gs:((w2.drew).alloc ((.cells (tA k v nm g p1 n1 q1 p2 n2 q2 a len c) 48):Obj)).heap.size=w2.drew.heap.size+1:=by simp
    refine⟨g1,?_⟩
    (refine hNa (by go_simp;exact rfl) ?_)
    (apply hOn;(exact rfl);(exact rfl));go_simp
    refine(a3.o _ g1).mono ?_;rintro e w5 ⟨rfl,a4⟩;have g5:=g1.trans (a4.mono g1.size);refine⟨_,rfl,g5,?_⟩
    (refine hNa (by go_simp;exact rfl) ?_)
    iterate 2 ((apply hLm;(exact rfl);(exact rfl);(intro a0 hw;go_simp;exact rfl);(go_simp;exact rfl)))
    apply hPe;show wpList _ _ _ _ _ _;have hQ:Aside (eJ n w Tt _ _):=hP.o w5 (w2.drew) g5 ((a4.block _ (by rw [gs];omega)).trans gq) fd.size _ rfl;clear hP a3 gq gs a4;go_wp2
    go_ret2
    exact hQ.o
   ·go_simp
    refine(a3.o _ fd).mono ?_;rintro e w5 ⟨rfl,a4⟩;have g5:=fd.trans (a4.mono fd.size);refine⟨_,rfl,g5,?_⟩
    (refine hNa (by go_simp;exact rfl) ?_)
    (apply hLm;(exact rfl);(exact rfl);(intro a0 hw;go_simp;exact rfl);(go_simp;exact rfl))
    (apply hOn;(exact rfl);(exact rfl));go_simp
    have g6:Bz wb (w5.alloc (.cells (tA k v nm g p1 n1 q1 p2 n2 q2 a len c) 48)):=g5.alloc g5.size _;have gq:=aK w5 ((.cells (tA k v nm g p1 n1 q1 p2 n2 q2 a len c) 48):Obj);refine⟨g6,?_⟩
    (refine hNa (by go_simp;exact rfl) ?_)
    (apply hLm;(exact rfl);(exact rfl);(intro a0 hw;go_simp;exact rfl);(go_simp;exact rfl))
    apply hPe;show wpList _ _ _ _ _ _;have hQ:Aside (eJ n w Tt _ _):=hP.o _ w5 g6 gq g5.size _ rfl;clear hP a3 gq;go_wp2
    go_ret2
    exact hQ.o
  ·have g4:=b9 a5 hnc;have b5:(k==3)=false:=by simp [a5]
   have b6:(k==5)=true:=by simpa using a5
   clear b8 b9 a5
   go_upto_region 7 with fail
   clear x0 x1 x2 x3 x4 x5 x6;have fd:Bz wb w2.drew:=e2.trans (cU _ _);refine hRp (Bz wb) 6 (Heavy.lights [0,2] (.two 1 3 (.one 3 (Heavy.lights [4,5] .done)) (.light 4 (.one 1 (.light 5 .done))))) (by kernel_rfl) (by kernel_rfl) fd ?_;simp only [Heavy.lights,aX,bI,aW,bD]
   iterate 2 ((apply hLm;(exact rfl);(exact rfl);(intro a0 hw;have z0:=(fa.o a0 hw).1;have z1:=(fa.o a0 hw).2.1;have z2:=(fa.o a0 hw).2.2.1;have z3:=(fa.o a0 hw).2.2.2.1;have z4:=(fa.o a0 hw).2.2.2.2.1;have z5:=(fa.o a0 hw).2.2.2.2.2.1;have z6:=(fa.o a0 hw).2.2.2.2.2.2;go_simp;exact rfl);(go_simp;exact rfl)))
   (apply hTn;(exact rfl);(exact rfl);(exact rfl);(exact rfl))
   ·go_simp
    have g1:Bz wb ((w2.drew).alloc (.cells (tA k v nm g p1 n1 q1 p2 n2 q2 a len c) 48)):=fd.alloc fd.size _;have gq:=aK (w2.drew) ((.cells (tA k v nm g p1 n1 q1 p2 n2 q2 a len c) 48):Obj);have gs:((w2.drew).alloc ((.cells (tA k v nm g p1 n1 q1 p2 n2 q2 a len c) 48):Obj)).heap.size=w2.drew.heap.size+1:=by simp
    refine⟨g1,?_⟩
    (refine hNa (by go_simp;exact rfl) ?_)
    (apply hOn;(exact rfl);(exact rfl));go_simp
    refine(a3.o _ g1).mono ?_;rintro e w5 ⟨rfl,a4⟩;have g5:=g1.trans (a4.mono g1.size);refine⟨_,rfl,g5,?_⟩
    (refine hNa (by go_simp;exact rfl) ?_)
    iterate 2 ((apply hLm;(exact rfl);(exact rfl);(intro a0 hw;go_simp;exact rfl);(go_simp;exact rfl)))
    apply hPe;show wpList _ _ _ _ _ _;have hQ:Aside (eJ n w Tt _ _):=hP.o w5 (w2.drew) g5 ((a4.block _ (by rw [gs];omega)).trans gq) fd.size _ rfl;clear hP a3 gq gs a4;go_wp2
    go_ret2
    exact hQ.o
   ·go_simp
    refine(a3.o _ fd).mono ?_;rintro e w5 ⟨rfl,a4⟩;have g5:=fd.trans (a4.mono fd.size);refine⟨_,rfl,g5,?_⟩
    (refine hNa (by go_simp;exact rfl) ?_)
    (apply hLm;(exact rfl);(exact rfl);(intro a0 hw;go_simp;exact rfl);(go_simp;exact rfl))
    (apply hOn;(exact rfl);(exact rfl));go_simp
    have g6:Bz wb (w5.alloc (.cells (tA k v nm g p1 n1 q1 p2 n2 q2 a len c) 48)):=g5.alloc g5.size _;have gq:=aK w5 ((.cells (tA k v nm g p1 n1 q1 p2 n2 q2 a len c) 48):Obj);refine⟨g6,?_⟩
    (refine hNa (by go_simp;exact rfl) ?_)
    (apply hLm;(exact rfl);(exact rfl);(intro a0 hw;go_simp;exact rfl);(go_simp;exact rfl))
    apply hPe;show wpList _ _ _ _ _ _;have hQ:Aside (eJ n w Tt _ _):=hP.o _ w5 g6 gq g5.size _ rfl;clear hP a3 gq;go_wp2
    go_ret2
    exact hQ.o
 ·have b5:(k==3)=false:=by simpa using b0
  have b6:(k==5)=false:=by simpa using a5
  clear b8 b9 b0 a5
  go_upto_region 7 with fail
  clear x0 x1 x2 x3 x4 x5 x6;have fd:Bz wb w2.drew:=e2.trans (cU _ _);refine hRp (Bz wb) 6 (Heavy.lights [0,2] (.two 1 3 (.one 3 (Heavy.lights [4,5] .done)) (.light 4 (.one 1 (.light 5 .done))))) (by kernel_rfl) (by kernel_rfl) fd ?_;simp only [Heavy.lights,aX,bI,aW,bD]
  iterate 2 ((apply hLm;(exact rfl);(exact rfl);(intro a0 hw;have z0:=(fa.o a0 hw).1;have z1:=(fa.o a0 hw).2.1;have z2:=(fa.o a0 hw).2.2.1;have z3:=(fa.o a0 hw).2.2.2.1;have z4:=(fa.o a0 hw).2.2.2.2.1;have z5:=(fa.o a0 hw).2.2.2.2.2.1;have z6:=(fa.o a0 hw).2.2.2.2.2.2;go_simp;exact rfl);(go_simp;exact rfl)))
  (apply hTn;(exact rfl);(exact rfl);(exact rfl);(exact rfl))
  ·go_simp
   have g1:Bz wb ((w2.drew).alloc (.cells (tA k v nm g p1 n1 q1 p2 n2 q2 a len c) 48)):=fd.alloc fd.size _;have gq:=aK (w2.drew) ((.cells (tA k v nm g p1 n1 q1 p2 n2 q2 a len c) 48):Obj);have gs:((w2.drew).alloc ((.cells (tA k v nm g p1 n1 q1 p2 n2 q2 a len c) 48):Obj)).heap.size=w2.drew.heap.size+1:=by simp
   refine⟨g1,?_⟩
   (refine hNa (by go_simp;exact rfl) ?_)
   (apply hOn;(exact rfl);(exact rfl));go_simp
   refine(a3.o _ g1).mono ?_;rintro e w5 ⟨rfl,a4⟩;have g5:=g1.trans (a4.mono g1.size);refine⟨_,rfl,g5,?_⟩
   (refine hNa (by go_simp;exact rfl) ?_)
   iterate 2 ((apply hLm;(exact rfl);(exact rfl);(intro a0 hw;go_simp;exact rfl);(go_simp;exact rfl)))
   apply hPe;show wpList _ _ _ _ _ _;have hQ:Aside (eJ n w Tt _ _):=hP.o w5 (w2.drew) g5 ((a4.block _ (by rw [gs];omega)).trans gq) fd.size _ rfl;clear hP a3 gq gs a4;go_wp2
   go_ret2
   exact hQ.o
  ·go_simp
   refine(a3.o _ fd).mono ?_;rintro e w5 ⟨rfl,a4⟩;have g5:=fd.trans (a4.mono fd.size);refine⟨_,rfl,g5,?_⟩
   (refine hNa (by go_simp;exact rfl) ?_)
   (apply hLm;(exact rfl);(exact rfl);(intro a0 hw;go_simp;exact rfl);(go_simp;exact rfl))
   (apply hOn;(exact rfl);(exact rfl));go_simp
   have g6:Bz wb (w5.alloc (.cells (tA k v nm g p1 n1 q1 p2 n2 q2 a len c) 48)):=g5.alloc g5.size _;have gq:=aK w5 ((.cells (tA k v nm g p1 n1 q1 p2 n2 q2 a len c) 48):Obj);refine⟨g6,?_⟩
   (refine hNa (by go_simp;exact rfl) ?_)
   (apply hLm;(exact rfl);(exact rfl);(intro a0 hw;go_simp;exact rfl);(go_simp;exact rfl))
   apply hPe;show wpList _ _ _ _ _ _;have hQ:Aside (eJ n w Tt _ _):=hP.o _ w5 g6 gq g5.size _ rfl;clear hP a3 gq;go_wp2
   go_ret2
   exact hQ.o
def zU:∀T:Tm,LitsOk 20 T
 | .mk k v nm g num den args=>ZO k v nm g num den args fun T' f5=>zU T'
termination_by T=>SizeOf.sizeOf T
decreasing_by
 simp_wf
 have:=tQ f5;omega
end Go.Proofs.YtbdpdeonapmlgaaGreatDoor
namespace Go.MapK
open Go.RowKit
variable {κ:Type} [DecidableEq κ] {P:Program} {kt mt vt:TypeId} {kv:κ→Value}
def jH (kv:κ→Value) (w:Wo) (r b:Nat) (M D:List (κ × Value)):Prop:=
 ∃es a0 seen,w.heap[b]?=some (.map es a0)∧MapIs kv M es a0∧w.heap[r]?=some (.mapIter (some b) a0 seen a0)∧
  ∃ds:List MapEntry,EsR kv D ds∧seen.toList=ds.map (·.born)∧(∀e∈ds,e∈es.toList)∧(ds.map (·.born)).Nodup
def jH.of_blocks {w w':Wo} {r b:Nat} {M D:List (κ × Value)} (h:jH kv w r b M D) (e1:w'.heap[b]?=w.heap[b]?) (e2:w'.heap[r]?=w.heap[r]?):jH kv w' r b M D:=by
 obtain⟨es,c,seen,h1,h2,h3,h4⟩:=h;exact⟨es,c,seen,e1.trans h1,h2,e2.trans h3,h4⟩
def jH.map {w:Wo} {r b:Nat} {M D:List (κ × Value)} (h:jH kv w r b M D):aY kv w b M:=by
 obtain⟨es,c,seen,h1,h2,h3,h4⟩:=h;exact⟨es,c,h1,h2⟩
def Af (hu:P.underlying mt=some (.map kt vt)) {w:Wo} {b:Nat} {M:List (κ × Value)} (h:aY kv w b M):
  ∃o,(Instr.range mt (.map (some b))).run P w= .ok (.pointer (some ⟨w.heap.size,0,none⟩)) (w.alloc o)∧jH kv (w.alloc o) w.heap.size b M []:=by
 obtain⟨es,a0,hb,hM⟩:=h;have c5:(Go.underlying mt).run P w= .ok (.map kt vt) w:=dW hu w;have c1:b<w.heap.size:=(aM.1 hb).1;refine⟨.mapIter (some b) a0 #[] a0,?_,es,a0,#[],?_,hM,?_,[],trivial,rfl,by simp,by simp⟩
 ·unfold Instr.range;simp only [bF,c5,Result.andThen,run_getMap hb,cH];rfl
 ·rw [show(w.alloc (.mapIter (some b) a0 #[] a0)).heap=w.heap.push (.mapIter (some b) a0 #[] a0) from rfl,jE];simp [VC c1,hb]
 ·rw [show(w.alloc (.mapIter (some b) a0 #[] a0)).heap=w.heap.push (.mapIter (some b) a0 #[] a0) from rfl];simp
def EsR.mem:∀{M:List (κ × Value)} {es:List MapEntry} {e:MapEntry},EsR kv M es→e∈es→∃p∈M,e.key=kv p.1∧e.val=p.2
 | p::M,x::es,e,h,he=>by
  obtain⟨h1,h2,h3⟩:=h;rcases cD.1 he with rfl|he
  ·exact⟨p,by simp,h1,h2⟩
  ·obtain⟨q,hq,h4⟩:=EsR.mem h3 he;exact⟨q,by simp [hq],h4⟩
 | [],[],_,_,he=>by cases he
 | [],_::_,_,h,_=>by cases h
 |_::_,[],_,h,_=>by cases h
def Ie (n:Nat) (hn:0<n) (w:Wo):∃i w',(choose (.mapNext n)).run P w= .ok i w'∧i<n∧(w'=w∨w'=w.drew):=by
 rw [run_choose_drew]
 by_cases h:n≤1
 ·refine⟨0,w,?_,hn,.inl rfl⟩;simp [Question.forced,h]
 ·refine⟨w.tape w.drawn (.mapNext n)%n,w.drew,?_,mB _ hn,.inr rfl⟩;simp [Question.forced,h,Question.cut]
def EsR.entry:∀{M:List (κ × Value)} {es:List MapEntry} {p:κ × Value},EsR kv M es→p∈M→∃e∈es,e.key=kv p.1∧e.val=p.2
 | q::M,x::es,p,h,hp=>by
  obtain⟨h1,h2,h3⟩:=h;rcases cD.1 hp with rfl|hp
  ·exact⟨x,by simp,h1,h2⟩
  ·obtain⟨e,he,h4⟩:=EsR.entry h3 hp;exact⟨e,by simp [he],h4⟩
 | [],[],_,_,hp=>by cases hp
 | [],_::_,_,h,_=>by cases h
 |_::_,[],_,h,_=>by cases h
def EsR.one (inj:∀{a b:κ},kv a=kv b→a=b):∀{M:List (κ × Value)} {es:List MapEntry} {e e':MapEntry},EsR kv M es→(M.map (·.1)).Nodup→e∈es→e'∈es→e.key=e'.key→e=e'
 | q::M,x::es,e,e',h,hn,he,a9,hk=>by
  obtain⟨h1,h2,h3⟩:=h;rw [gS,VX] at hn;rcases cD.1 he with rfl|ha<;>rcases cD.1 a9 with rfl|a3
  ·rfl
  ·obtain⟨p,hp,hpk,_⟩:=EsR.mem h3 a3;rw [h1,hpk] at hk;exact absurd (dJ.2 ⟨p,hp,(inj hk).symm⟩) hn.1
  ·obtain⟨p,hp,hpk,_⟩:=EsR.mem h3 ha;rw [h1,hpk] at hk;exact absurd (dJ.2 ⟨p,hp,inj hk⟩) hn.1
  ·exact EsR.one inj h3 hn.2 ha a3 hk
 | [],[],_,_,_,_,he,_,_=>by cases he
 | [],_::_,_,_,h,_,_,_,_=>by cases h
 |_::_,[],_,_,h,_,_,_,_=>by cases h
def TF {l:List MapEntry} (h:l.Pairwise fun x y=>x.born<y.born) {e e':MapEntry} (he:e∈l) (a9:e'∈l) (hb:e.born=e'.born):e=e':=by
 induction l with
 |nil=>cases he
 |cons x l ih=>
  obtain⟨h1,h2⟩:=tR.1 h;rcases cD.1 he with rfl|ha<;>rcases cD.1 a9 with rfl|a3
  ·rfl
  ·have:=h1 _ a3;omega
  ·have:=h1 _ ha;omega
  ·exact ih h2 ha a3
def EsR.snoc {p:κ × Value} {e:MapEntry} (hk:e.key=kv p.1) (hv:e.val=p.2):∀{M:List (κ × Value)} {es:List MapEntry},EsR kv M es→EsR kv (M++ [p]) (es++ [e])
 | [],[],_=>⟨hk,hv,trivial⟩
 |q::M,x::es,h=>⟨h.1,h.2.1,EsR.snoc hk hv h.2.2⟩
 | [],_::_,h=>by cases h
 |_::_,[],h=>by cases h
def Bt (K:KL P kt kv) {w:Wo} {r b:Nat} {M D:List (κ × Value)} (h:jH kv w r b M D) (ty:TypeId):
  ((∀p∈M,p∈D)∧∃w',(Instr.next (.pointer (some ⟨r,0,none⟩)) false ty).run P w= .ok (.tuple #[.bool false]) w'∧(w'=w∨w'=w.drew))∨
  ∃p∈M,p.1∉D.map (·.1)∧∃w1 o,(w1=w∨w1=w.drew)∧(Instr.next (.pointer (some ⟨r,0,none⟩)) false ty).run P w= .ok (.tuple #[.bool true,kv p.1,p.2]) { w1 with heap:=w1.heap.setIfInBounds r o }∧
   jH kv { w1 with heap:=w1.heap.setIfInBounds r o } r b M (D++ [p]):=by
 obtain⟨es,a0,seen,hb,hM,hr,ds,hD,hseen,hds,hnd⟩:=h;have c7:r<w.heap.size:=(aM.1 hr).1;have c4:r≠b:=by intro e;rw [e,hb] at hr;cases hr
 have g1:(getObj r).run P w= .ok (.mapIter (some b) a0 seen a0) w:=MH hr;have g2:(getObj b).run P w= .ok (.map es a0) w:=run_getMap hb;have a1:(!seen.isEmpty&& !es.isEmpty&&es.all (·.born≥a0))=false:=by
  cases he:es.isEmpty with
  |true=>simp
  | false=>
   have c3:0<es.size:=by
    rcases tP es.size with h0|h0
    ·rw [Mj.2 h0] at he;cases he
    ·exact h0
   have a8:es.all (·.born≥a0)=false:=by
    cases ha:es.all (·.born≥a0) with
    |false=>rfl
    |true=>
     rw [Array.all_eq_true'] at ha;have hm:es[0]∈es:=Array.getElem_mem c3;have h1:=ha _ hm;have h2:=hM.lt es[0] (by simpa using hm);simp at h1;omega
   simp [a8]
 obtain⟨left,hleft⟩:∃left,es.filter (fun e=>!seen.contains e.born)=left:=⟨_,rfl⟩;have a2:∀e,e∈left↔e∈es∧e.born∉ds.map (·.born):=by
  intro e;rw [←hleft,Array.mem_filter];constructor
  ·rintro⟨h1,h2⟩;refine⟨h1,fun h3=>?_⟩;rw [←hseen] at h3;have:seen.contains e.born=true:=by simpa using h3
   rw [this] at h2;cases h2
  ·rintro⟨h1,h2⟩;refine⟨h1,?_⟩;rw [←hseen] at h2;simpa using h2
 have a7:left.filter (·.born<a0)=left:=by
  rw [Array.filter_eq_self];intro e he;have:=hM.lt e (by simpa using ((a2 e).1 he).1);simpa using this
 have a6:left.filter (·.born≥a0)=#[]:=by
  rw [Array.filter_eq_empty_iff];intro e he;have:=hM.lt e (by simpa using ((a2 e).1 he).1);simp;omega
 cases hE:left.isEmpty with
 | true=>
  left;have b5:left=#[]:=Array.isEmpty_iff.1 hE;refine⟨fun p hp=>?_,w,?_,.inl rfl⟩
  ·obtain⟨e,he,hk,hv⟩:=hM.rel.entry hp;have hs:e.born∈ds.map (·.born):=by
    apply iR;intro hn;have:e∈left:=(a2 e).2 ⟨by simpa using he,hn⟩;rw [b5] at this;simp at this
   obtain⟨e',h1,h2⟩:=dJ.1 hs;have:=TF hM.borns (hds e' h1) he h2;subst this;obtain⟨q,hq,h3,h4⟩:=hD.mem h1;rw [hk] at h3;rw [hv] at h4;have:p=q:=Prod.ext (K.inj h3) h4;rw [this];exact hq
  ·unfold Instr.next;simp only [bF,Result.andThen,g1,g2,a1,hleft,a7,a6,hE,cH];simp [b5,Question.forced]
 | false=>
  right;have b2:0<left.size:=by
   rcases tP left.size with h0|h0
   ·rw [Mj.2 h0] at hE;cases hE
   ·exact h0
  obtain⟨i,w1,hch,hi,hw1⟩:=Ie (P:=P) left.size b2 w;have b9:left[i]∈left:=Array.getElem_mem hi;obtain⟨b0,he2⟩:=(a2 _).1 b9;obtain⟨p,hp,hk,hv⟩:=hM.rel.mem (show left[i]∈es.toList by simpa using b0);have b6:w1.heap[r]?=some (.mapIter (some b) a0 seen a0):=by rcases hw1 with rfl|rfl<;>exact hr
  have b7:w1.heap[b]?=some (.map es a0):=by rcases hw1 with rfl|rfl<;>exact hb
  have b3:r<w1.heap.size:=(aM.1 b6).1;have b4:∀o,(setObj r o).run P w1= .ok () { w1 with heap:=w1.heap.setIfInBounds r o }:=fun o=>by simp [setObj,Sem.run,b6]
  have b8:((if left.isEmpty=true then #[none] else #[])++Array.map some (left++#[]):Array (Option MapEntry))=left.map some:=by simp [hE]
  refine⟨p,hp,?_,w1,.mapIter (some b) a0 (seen.push left[i].born) a0,hw1,?_,es,a0,seen.push left[i].born,?_,hM,?_,ds++ [left[i]],hD.snoc hk hv,?_,?_,?_⟩
  ·intro c0;obtain⟨q,hq,hqp⟩:=dJ.1 c0;obtain⟨e',h1,h2,_⟩:=hD.entry hq;have:=hM.rel.one K.inj hM.nodup (hds e' h1) (show left[i]∈es.toList by simpa using b0) (by rw [h2,hk,hqp]);subst this;exact he2 (dJ.2 ⟨_,h1,rfl⟩)
  ·unfold Instr.next;simp only [bF,Result.andThen,g1,g2,a1,hleft,a7,a6,cH,b8];have c2:(left.map some).size=left.size:=by simp
   have b1:(left.map some)[i]?=some (some left[i]):=by simp [hi]
   simp only [c2,dX,fN,bF,hch,b1,Result.andThen,b4,cH,hk,hv]
  ·simp [mG,c4,b7]
  ·simp [b3]
  ·simp [hseen]
  ·intro e he;rcases bX.1 he with he|he
   ·exact hds e he
   ·simp at he;subst he;simpa using b0
  ·rw [pX,vR];refine⟨hnd,by simp,?_⟩;intro a ha c hc e;simp at hc;subst hc;subst e;exact he2 ha
def EsR.unsnoc {p:κ × Value}:∀{M:List (κ × Value)} {es:List MapEntry},EsR kv (M++ [p]) es→∃es' e,es=es'++ [e]∧e.key=kv p.1∧e.val=p.2
 | [],[e],h=>⟨[],e,rfl,h.1,h.2.1⟩
 | [],e::e'::es,h=>by cases h.2.2
 |q::M,x::es,h=>by
  obtain⟨es',e,h1,h2⟩:=EsR.unsnoc h.2.2;exact⟨x::es',e,by rw [h1];rfl,h2⟩
 | [],[],h=>by cases h
 |_::_,[],h=>by cases h
def Gm {w:Wo} {r b:Nat} {M D:List (κ × Value)} {p:κ × Value} (h:jH kv w r b M (D++ [p])):
  (Instr.entry (.pointer (some ⟨r,0,none⟩))).run P w= .ok (.tuple #[kv p.1,p.2]) w:=by
 obtain⟨es,a0,seen,hb,hM,hr,ds,hD,hseen,hds,hnd⟩:=h;obtain⟨c6,e,rfl,hk,hv⟩:=hD.unsnoc;have a4:seen.back?=some e.born:=by
  rw [←Array.getLast?_toList,hseen];simp
 have he:e∈es.toList:=hds e (by simp);have a5:es.find? (·.born==e.born)=some e:=by
  rw [←Array.find?_toList];cases hf:es.toList.find? (·.born==e.born) with
  |none=>
   rw [List.find?_eq_none] at hf;have:=hf e he;simp at this
  |some x=>
   have h1:=List.find?_some hf;have h2:=List.mem_of_find?_eq_some hf;have:x=e:=TF hM.borns h2 he (by simpa using h1);rw [this]
 unfold Instr.entry;simp only [bF,Result.andThen,MH hr,run_getMap hb,a4,a5,cH,bne_self_eq_false,dX,fN,hk,hv]
end Go.MapK
namespace Go.Proofs.YtbdpdeonapmlgaaGreatDoor
open Go.RowKit Go.Big Go.RowsK Go.MapK
variable {S:Int→Prop} {w w':Wo} {mb i n:Nat}
mutual
def Tm.fr:Tm→List Int→List Int
 | .mk k v nm g num den args,a0=>Tm.frL args (if k=1∧v∉a0 then a0++ [v] else a0)
def Tm.frL:List Tm→List Int→List Int
 | [],a0=>a0
 |T::r,a0=>Tm.frL r (Tm.fr T a0)
end
def Tm.free (T:Tm):List Int:=T.fr []
def QP:∀(L M:List Tm) (a0:List Int),Tm.frL (L++M) a0=Tm.frL M (Tm.frL L a0)
 | [],M,a0=>by simp [Tm.frL]
 |T::r,M,a0=>by simp [Tm.frL,QP r M]
def QO {L:List Tm} {T:Tm} {a0:List Int} (h:L[i]?=some T):Tm.frL (L.take (i+1)) a0=T.fr (Tm.frL (L.take i) a0):=by
 rw [gK,h,QP];simp [Tm.frL]
mutual
theorem xQ:∀(T:Tm) (a0:List Int),(T.fr a0).length≤a0.length+T.nodes∧a0.length≤(T.fr a0).length
 | .mk k v nm g num den args,a0=>by
  simp only [Tm.fr,Tm.nodes];split
  ·have:=pK args (a0++ [v]);simp at this;omega
  ·have:=pK args a0;omega
theorem pK:∀(L:List Tm) (a0:List Int),(Tm.frL L a0).length≤a0.length+Tm.nodesL L∧a0.length≤(Tm.frL L a0).length
 | [],a0=>by simp [Tm.frL]
 |T::r,a0=>by
  simp only [Tm.frL,Tm.nodesL];have h1:=xQ T a0;have h2:=pK r (T.fr a0);omega
end
mutual
def Tm.occ:Tm→Int→Prop
 | .mk k v nm g num den args,x=>(k=1∧x=v)∨Tm.occL args x
def Tm.occL:List Tm→Int→Prop
 | [],x=>False
 |T::r,x=>T.occ x∨Tm.occL r x
end
mutual
theorem OL:∀(T:Tm) (a0:List Int) (x:Int),x∈T.fr a0↔x∈a0∨T.occ x
 | .mk k v nm g num den args,a0,x=>by
  simp only [Tm.fr,Tm.occ];rw [GP args]
  by_cases hk:k=1
  ·by_cases hv:v∈a0
   ·simp only [hk,hv,UQ,and_false,fN,DN];constructor
    ·rintro(h|h)
     ·exact .inl h
     ·exact .inr (.inr h)
    ·rintro(h|h|h)
     ·exact .inl h
     ·subst h;exact .inl hv
     ·exact .inr h
   ·simp only [hk,hv,not_false_eq_true,and_self,if_true,bX,fS,DN];constructor
    ·rintro((h|h)|h)
     ·exact .inl h
     ·exact .inr (.inl h)
     ·exact .inr (.inr h)
    ·rintro(h|h|h)
     ·exact .inl (.inl h)
     ·exact .inl (.inr h)
     ·exact .inr h
  ·simp [hk]
theorem GP:∀(L:List Tm) (a0:List Int) (x:Int),x∈Tm.frL L a0↔x∈a0∨Tm.occL L x
 | [],a0,x=>by simp [Tm.frL,Tm.occL]
 |T::r,a0,x=>by
  simp only [Tm.frL,Tm.occL];rw [GP r,OL T,or_assoc]
end
def xE {T:Tm} {x:Int}:x∈T.free↔T.occ x:=by
 unfold Tm.free;rw [OL];simp
def ikv (x:Int):Value:=.int .i64 x
def BY:KL Tryz.prog 3 ikv where
 inj:=fun {a b} h=>by unfold ikv at h;injection h
 find:=Fp (.int .i64) Tryz.underlying3 (fun a b=>by
  unfold ikv Instr.sameNow;simp [Bool.beq_eq_decide_eq])
 check:=fun em k w=>by
  have hu:(Go.underlying 3).run Tryz.prog w= .ok (.int .i64) w:=dW Tryz.underlying3 w;unfold ikv;rw [Instr.checkKey];simp only [bF,hu,Result.andThen];simp
 bits:=fun k=>by unfold ikv;simp [Instr.sameBits]
def und93:Tryz.prog.underlying 93=some (.map 3 4):=Tryz.underlying93
def zero4 (w:Wo):(zeroValue 4).run Tryz.prog w= .ok (.bool false) w:=Tryz.zeroValue4 w
def elInt:El Tryz.prog 64 3 1 8 (.int .i64 0):=⟨Tryz.underlying64,by
  obtain⟨i0,h1,h2,h3,h4⟩:=lZ (show(Tryz.prog.info? 3).map (fun i=>(i.zero,i.size,i.bytes))=some (some (.int .i64 0),1,8) by kernel_rfl);exact⟨i0,h1,h2,h3,h4⟩,rfl,by decide⟩
def OutN (base:Nat) (w:Wo) (v:Value) (L:List Int):Prop:=w.ownsRow base 3 1 v L.length (L.map (Value.int .i64))
def bK (w:Wo) (mb:Nat) (S:Int→Prop):Prop:=∃M,aY ikv w mb M∧(∀x,x∈M.map (·.1)↔S x)∧∀p∈M,p.2= .bool true
structure aR (S:Nat→Prop) (w w':Wo):Prop where
 os:w'.os=w.os
 tape:w'.tape=w.tape
 output:w'.output=w.output
 size:w.heap.size≤w'.heap.size
 block:∀k,k<w.heap.size→¬S k→w'.heap[k]?=w.heap[k]?
def aR.refl (S:Nat→Prop) (w:Wo):aR S w w:=⟨rfl,rfl,rfl,aA _,fun _ _ _=>rfl⟩
def aR.trans {S S':Nat→Prop} {w1 w2:Wo} (h:aR S w w1) (h':aR S' w1 w2) (hs:∀k,k<w.heap.size→S' k→S k):aR S w w2:=
 ⟨h'.os.trans h.os,h'.tape.trans h.tape,h'.output.trans h.output,aE h.size h'.size,fun k hk hn=>(h'.block k (bG hk h.size) fun hS=>hn (hs k hk hS)).trans (h.block k hk hn)⟩
def aR.mono {S S':Nat→Prop} (h:aR S w w') (hs:∀k,k<w.heap.size→S k→S' k):aR S' w w':=
 ⟨h.os,h.tape,h.output,h.size,fun k hk hn=>h.block k hk fun hS=>hn (hs k hk hS)⟩
def aR.of_below {S:Nat→Prop} (h:Bz w w'):aR S w w':=⟨h.os,h.tape,h.output,h.size,fun k hk _=>h.block k hk⟩
def aR.below {S:Nat→Prop} (h:aR S w w') (hn:n≤w.heap.size) (hs:∀k,S k→n≤k):Below n w w':=
 ⟨h.os,h.tape,h.output,h.size,fun k hk=>h.block k (bG hk hn) fun hS=>by have:=hs k hS;omega⟩
def aR.of_grown {r:Option Nat} (h:w.grownBy w' r):aR (fun k=>r=some k) w w':=⟨h.os,h.tape,h.output,h.size,fun k hk hn=>h.block k hk fun e=>hn e.symm⟩
def bK.of_block (h:bK w mb S) (e:w'.heap[mb]?=w.heap[mb]?):bK w' mb S:=by
 obtain⟨M,h1,h2,h3⟩:=h;exact⟨M,h1.of_block e,h2,h3⟩
def bK.lt (h:bK w mb S):mb<w.heap.size:=by
 obtain⟨M,h1,h2,h3⟩:=h;exact h1.lt
def bK.new (w:Wo):bK (w.alloc (.map #[] 0)) w.heap.size (fun _=>False):=⟨[],aY.new w 0,by simp,by simp⟩
def bK.look (h:bK w mb S) (x:Int):∃b:Bool,(Instr.lookup 93 (.map (some mb)) (.int .i64 x) false).run Tryz.prog w= .ok (.bool b) w∧(b=true↔S x):=by
 obtain⟨M,h1,h2,h3⟩:=h;have hr:=sP BY und93 zero4 h1 x;cases hv:aQ x M with
 | none=>
  refine⟨false,by rw [hv] at hr;exact hr,?_⟩;rw [←h2 x];constructor
  ·intro h;cases h
  ·intro h;obtain⟨p,hp,rfl⟩:=dJ.1 h;exact absurd rfl (EI.1 hv p hp)
 |some u=>
  have hm:=wF hv;have:=h3 _ hm;simp only at this;subst this;refine⟨true,by rw [hv] at hr;exact hr,?_⟩;rw [←h2 x];exact⟨fun _=>dJ.2 ⟨_,hm,rfl⟩,fun _=>rfl⟩
def bK.put (h:bK w mb S) (x:Int):∃w',(Instr.mapUpdate 93 (.map (some mb)) (.int .i64 x) (.bool true)).run Tryz.prog w= .ok () w'∧bK w' mb (fun y=>S y∨y=x)∧aR (fun k=>k=mb) w w'∧w'.heap.size=w.heap.size:=by
 obtain⟨M,h1,h2,h3⟩:=h;obtain⟨w',hr,h4,h5,h6⟩:=rW BY und93 h1 x (.bool true);refine⟨w',hr,⟨_,h4,fun y=>?_,fun p hp=>?_⟩,(aR.of_grown h5).mono fun k _ e=>(aL e).symm,h6⟩
 ·rw [GO,h2 y];constructor
  ·rintro(h|h)
   ·exact .inr h
   ·exact .inl h
  ·rintro(h|h)
   ·exact .inr h
   ·exact .inl h
 ·rcases xD hp with rfl|hp
  ·rfl
  ·exact h3 p hp
def bK.cong {S':Int→Prop} (h:bK w mb S) (e:∀x,S x↔S' x):bK w mb S':=by
 obtain⟨M,h1,h2,h3⟩:=h;exact⟨M,h1,fun x=>(h2 x).trans (e x),h3⟩
end Go.Proofs.YtbdpdeonapmlgaaGreatDoor
namespace Go.Proofs.YtbdpdeonapmlgaaGreatDoor
open Go.RowKit Go.Big
def AR (L:List Tm) (i:Nat):Tm.nodesL (L.take i)≤Tm.nodesL L:=by
 have:=GG (L.take i) (L.drop i);rw [rP] at this;omega
def SizeOk (T:Tm):Prop:=∀(n:Nat) (w:Wo) (vs:Lv) (m:Nat),m≤1000000→TmV n w T vs→n≤w.heap.size→
  Cz 152 #[.agg vs.toArray,.int .i64 m] w fun e w'=>∃r:Nat,e= .returned (.int .i64 r)∧r=min T.nodes (m+1)∧Bz w w'
def Ak (k v:Int) (nm:ByteArray) (g:Bool) (num den:List Nat) (args:List Tm) (ih:∀T'∈args,SizeOk T'):SizeOk (.mk k v nm g num den args):=by
 intro n w vs m hm h hn;simp only [TmV] at h;obtain⟨s1,s2,a,c,rfl,⟨⟨p1,q1,rfl,hA⟩,⟨p2,q2,rfl,hC⟩⟩,h2,hbig,hbA,hbC⟩:=h;obtain⟨F,hF⟩:=enm (Tm.nodes (.mk k v nm g num den args));have b0:Aside (F=1+Tm.nodesL args):=by show F=_;rw [←hF];simp only [Tm.nodes]
 rw [hF];obtain⟨len,hl⟩:=enm args.length;generalize num.length=l1,den.length=l2 at*;rw [hl] at hbig ⊢;show Cz 152 #[.agg (tA k v nm g p1 l1 q1 p2 l2 q2 a len c),.int .i64 m] w _;have b4:=aC w (bA k v nm g p1 l1 q1 p2 l2 q2 a len c);have Al:=aside hl;have c1:=ewr (i:=m) (by omega);clear hl hA hC hF;go_enter Tryz.func152,Tryz.ntmps152
 go_wp2_with fail
 go_loopw [5,11] (fun s5 b7 wr=>∃i r:Nat,b7= .int .i64 i∧s5= .int .i64 r∧i≤len∧Aside (r=min (1+Tm.nodesL (args.take i)) (m+1))∧Bz w wr) (fun _ s _=>len-(intOf s).toNat)
 case atStart=>exact⟨0,1,rfl,by simp,aJ _,by show 1=_;simp [Tm.nodesL],b4⟩
 case round=>
  obtain⟨i,r,rfl,rfl,hi,hex,hB⟩:=hrel;have b3:r≤m+1:=by rw [hex.o];exact Nat.min_le_right _ _
  by_cases a6:i<len
  ·obtain⟨T',a3⟩:=egf Al.o a6;obtain⟨b,off,vs',rfl,hbn,hc,hv⟩:=h2.get a3;have a9:=hv;have a7:Aside (∀d:Nat,r≤m→d=min T'.nodes (m-r+1)→r+d=min (1+Tm.nodesL (args.take (i+1))) (m+1)∧d≤m-r+1):=by
    show∀d:Nat,_;intro d hr hd;have h3:=hex.o;rw [AS a3];omega
   have a1:Aside (¬r≤m→m+1=min F (m+1)):=by
    show¬r≤m→_;intro hr;have h3:=hex.o;have h4:=AR args i;have h5:=b0.o;omega
   have a4:=aP a3;obtain⟨k',v',nm',g',num',den',a0⟩:=T';simp only [TmV] at hv;obtain⟨t1,t2,a',c',rfl,⟨⟨p1',q1',rfl,_⟩,⟨p2',q2',rfl,_⟩⟩,_⟩:=hv;have a2:∀p:Addr,p.block<n→wr.cell? p=w.cell? p:=fun p hp=>(hB.mono hn).cell hp
   rw [bT] at hc;have x0:=(a2 ⟨b,off+i*7+0,none⟩ hbn).trans (hc 0 _ rfl);have x1:=(a2 ⟨b,off+i*7+1,none⟩ hbn).trans (hc 1 _ rfl);have x2:=(a2 ⟨b,off+i*7+2,none⟩ hbn).trans (hc 2 _ rfl);have x3:=(a2 ⟨b,off+i*7+3,none⟩ hbn).trans (hc 3 _ rfl);have x4:=(a2 ⟨b,off+i*7+4,none⟩ hbn).trans (hc 4 _ rfl);have x5:=(a2 ⟨b,off+i*7+5,none⟩ hbn).trans (hc 5 _ rfl);have x6:=(a2 ⟨b,off+i*7+6,none⟩ hbn).trans (hc 6 _ rfl);rw [iI] at x0;obtain⟨b9,hi3,hw3⟩:=elt (i:=i) (n:=len) (by omega) (by omega);have a5:Bz w (wr.alloc (Obj.cells #[.int .i64 k',.int .i64 v',.string nm',.bool g',.slice p1' num'.length q1',.slice p2' den'.length q2',.slice a' a0.length c'] 48)):=hB.alloc hB.size _;have b2:=aside a6
   by_cases a8:r≤m
   ·have b1:¬(m:Int)<(r:Int):=by omega
    obtain⟨mr,hmr⟩:∃mr,mr=m-r:=⟨_,rfl⟩;have c0:IntKind.i64.wrap ((m:Int)-(r:Int))=(mr:Int):=by rw [cO];omega
    have d1:=ih _ a4 n (wr.alloc (Obj.cells #[.int .i64 k',.int .i64 v',.string nm',.bool g',.slice p1' num'.length q1',.slice p2' den'.length q2',.slice a' a0.length c'] 48)) _ mr (by omega) (TmV.below a5 hn _ _ a9) (aE hn a5.size);rw [hmr] at d1;replace d1:Cz 152 #[.agg #[.int .i64 k',.int .i64 v',.string nm',.bool g',.slice p1' num'.length q1',.slice p2' den'.length q2',.slice a' a0.length c'],.int .i64 (m-r:Nat)] _ _:=d1;rw [←hmr] at d1 a7;have b5:∀d:Nat,d≤mr+1→IntKind.i64.wrap ((r:Int)+(d:Int))=((r+d:Nat):Int):=fun d hd=>by rw [cO];omega
    generalize a0.length=len',num'.length=ln1,den'.length=ln2 at*;clear h2 ih hc a9 a3 a2 a4 hex a6 hmr b3 a1
    go_wp2_with first|(go_at_call 152;(with_reducible refine d1.mono ?_);rintro e w3 ⟨d,rfl,hd,hb3⟩;obtain⟨b8,hd2⟩:=a7.o d a8 hd;have b6:=b5 d hd2;clear hd)
    exact⟨⟨i+1,_,by simp,rfl,by have:=b2.o;omega,rfl,a5.trans (hb3.mono a5.size)⟩,by have:=b2.o;simp [intOf];omega⟩
   ·have b1:(m:Int)<(r:Int):=by omega
    have hL:Aside (m+1=min F (m+1)):=a1.o a8;generalize a0.length=len',num'.length=ln1,den'.length=ln2 at*;clear h2 ih hc a9 a3 a2 a4 hex a6 b3 a1 a7 a8
    go_wp2_with fail
    go_ret
    exact⟨m+1,rfl,hL.o,a5⟩
  ·obtain rfl:i=len:=by omega
   have hL:Aside (r=min F (m+1)):=by
    show r=_;have h3:=hex.o;rw [←Al.o,iP] at h3;rw [h3,b0.o]
   have b1:min (r:Int) ((m:Int)+1)=(r:Int):=by omega
   clear h2 ih hex
   go_wp2_with fail
   go_ret
   exact⟨r,rfl,hL.o,hB⟩
def NJ:∀T:Tm,SizeOk T
 | .mk k v nm g num den args=>Ak k v nm g num den args fun T' a3=>NJ T'
termination_by T=>SizeOf.sizeOf T
decreasing_by
 simp_wf
 have:=tQ a3;omega
