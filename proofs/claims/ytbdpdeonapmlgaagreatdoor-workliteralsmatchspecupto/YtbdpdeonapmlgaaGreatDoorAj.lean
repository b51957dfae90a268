/- Lemmas for the text Card; no condition. -/
import Derived.Test.YtbdpdeonapmlgaaGreatDoorAi
set_option linter.all false
set_option maxHeartbeats 4000000
set_option maxRecDepth 100000
namespace Go.Proofs.YtbdpdeonapmlgaaGreatDoor
open Go.RowKit Go.Big Go.RowsK
attribute [local go_sem] Heavy.uponW
theorem WA (k v:Int) (nm:ByteArray) (g:Bool) (num den:List Nat) (args:List Tm) (ih:∀T'∈args,LitsOk 20 T'):LitsOk 20 (.mk k v nm g num den args):=by
 intro n w vs hT hN h hn;have hk:=fun w2 (hb:Below w.heap.size w w2)=>JJ (.mk k v nm g num den args) n w2 vs hT (TmV.below hb hn _ _ h) (aE hn hb.size)
 have h0:=h;have e9:=(pE hT).2;obtain⟨Tt,hTt⟩:∃Tt,Tm.mk k v nm g num den args=Tt:=⟨_,rfl⟩;have TA:=aside hTt;rw [hTt] at hk h0 hN ⊢;have f9:=aside hN;simp only [TmV] at h;obtain⟨_,_,a,c,rfl,⟨⟨p1,q1,rfl,_⟩,⟨p2,q2,rfl,_⟩⟩,hS,hbig,_⟩:=h;generalize num.length=n1 at*;generalize den.length=n2 at*;obtain⟨len,hl⟩:∃len,args.length=len:=⟨_,rfl⟩;rw [hl] at h0 hk ⊢;have Al:=aside2 hl e9;have d5:=aside hS;have d1:=aside ih;have hB:=aC w (Obj.cells #[.int .i64 k,.int .i64 v,.string nm,.bool g,.slice p1 n1 q1,.slice p2 n2 q2,.slice a len c] 48);have hq:=heap_alloc_new w (Obj.cells #[.int .i64 k,.int .i64 v,.string nm,.bool g,.slice p1 n1 q1,.slice p2 n2 q2,.slice a len c] 48);have f4:(w.alloc (Obj.cells #[.int .i64 k,.int .i64 v,.string nm,.bool g,.slice p1 n1 q1,.slice p2 n2 q2,.slice a len c] 48)).heap.size=w.heap.size+1:=by simp
 obtain⟨wb,hwb⟩:∃wb,w.alloc (Obj.cells #[.int .i64 k,.int .i64 v,.string nm,.bool g,.slice p1 n1 q1,.slice p2 n2 q2,.slice a len c] 48)=wb:=⟨_,rfl⟩;rw [hwb] at hB hq f4;have fa:Aside (∀w2,Below wb.heap.size wb w2→_):=fun(w2:World) (hb:Below wb.heap.size wb w2)=>cY ((hb.block w.heap.size (by omega)).trans hq)
 have d7:=aside hk;have f7:Aside (∀w2,Below w.heap.size w w2→TmV n w2 Tt [.int .i64 k,.int .i64 v,.string nm,.bool g,.slice p1 n1 q1,.slice p2 n2 q2,.slice a len c]):=fun w2 hb=>TmV.below hb hn _ _ h0
 obtain⟨x0,x1,x2,x3,x4,x5,x6⟩:=fa.out wb (aI _ _);obtain⟨it,hit⟩:∃b,nR k nm=b:=⟨_,rfl⟩;obtain⟨ia,hia⟩:∃b,nT k nm len=b:=⟨_,rfl⟩;have b9:=aside2 hit hia;have e0:Below wb.heap.size wb wb:=aI _ _;have b1:Aside (it=false→ia=false→Tt.lits= [Tt]∧Tt.litsB=(Tt.kd !=0)):=by
  show _→_→_;intro a1 a2;have:=LU (k:=k) (v:=v) (nm:=nm) (g:=g) (num:=num) (den:=den) (args:=args) (hit.trans a1) (by rw [hl];exact hia.trans a2);rw [TA.out] at this;exact this
 have b2:Aside (it=true→Tt.lits= []∧Tt.litsB=true):=by
  show _→_;intro a1;have:=LS (k:=k) (v:=v) (nm:=nm) (g:=g) (num:=num) (den:=den) (args:=args) (hit.trans a1);rw [TA.out] at this;exact this
 clear hq f4 hl hS hit hia hk h0 e9 hT hTt hN ih;show Calls Tryz.prog 20 #[.agg #[.int .i64 k,.int .i64 v,.string nm,.bool g,.slice p1 n1 q1,.slice p2 n2 q2,.slice a len c]] w _;go_enter Tryz.func20,Tryz.ntmps20
 go_upto_region 1 with fail
 clear hwb;obtain⟨w2,hw2⟩:∃w2,wb=w2:=⟨_,rfl⟩;have e2:Below wb.heap.size wb w2:=by rw [←hw2];exact e0
 rw [hw2] at x0 x1 x2 x3 x4 x5 x6;rw [hw2];clear hw2;cases it
 case true=>
  have hr:=b2.out rfl;have hP:Aside (dN n w Tt (.returned (.tuple #[.slice none 0 0,.bool true])) w2):=⟨_,by rw [hr.2],by rw [hr.1];exact OutT.nil _ _ _,hB.trans (e2.mono hB.size)⟩;obtain⟨rfl,g7⟩:k=3∧(nm.toList== [116,114,117,101])=true:=by have:=b9.out.1;unfold nR at this;simpa using this
  clear hr b2 b1;go_wp2
  go_ret2
  exact hP.out
 have c2:k=3→(nm.toList== [116,114,117,101])=false:=by
  have:=b9.out.1;unfold nR at this;intro b0;subst b0;simpa using this
 cases ia
 case true=>
  obtain⟨rfl,hnc,rfl⟩:k=5∧(nm.toList== [44])=true∧len=2:=by
   have:=b9.out.2;unfold nT at this;simp at this;exact⟨this.1.1,by simpa using this.1.2,by omega⟩
  obtain⟨A,B,rfl⟩:∃A B,args= [A,B]:=by
   match args,Al.out.1 with
   | [A,B],_=>exact⟨A,B,rfl⟩
  obtain⟨d8,b5⟩:=LR (v:=v) (g:=g) (num:=num) (den:=den) (A:=A) (B:=B) b9.out.1 b9.out.2;rw [TA.out] at d8 b5;have e6:=(mK Al.out.2).1;have e7:=(mK (mK Al.out.2).2).1;have a8:A.nodes≤10000∧B.nodes≤10000∧A.lits.length+B.lits.length≤20000:=by
   have h1:=f9.out;rw [←TA.out] at h1;simp only [Tm.nodes,Tm.nodesL] at h1;have:=sH A;have:=sH B;omega
  have e8:=d5.out;simp only [cR] at e8;obtain⟨⟨b,off,va,rfl,hbn,hca,hva⟩,⟨b',off',vb,eb,_,hcb,hvb⟩,_⟩:=e8;obtain⟨rfl,rfl⟩:b=b'∧off=off':=by injection eb with eb;injection eb with e1 e2;exact⟨e1,e2⟩
  clear eb;have f5:=d1.out A (by simp);have f6:=d1.out B (by simp);have c5:Aside (∀w2,Below wb.heap.size wb w2→TmV n w2 A va):=fun w2 hb=>TmV.below (hB.trans (hb.mono hB.size)) hn _ _ hva
  have c6:Aside (∀w2,Below wb.heap.size wb w2→TmV n w2 B vb):=fun w2 hb=>TmV.below (hB.trans (hb.mono hB.size)) hn _ _ hvb
  have c9:n≤wb.heap.size:=aE hn hB.size;have a6:Aside (∀w2,Below wb.heap.size wb w2→Calls Tryz.prog 20 #[.agg va.toArray] w2 (dN n w2 A)):=fun w2 hb=>f5 n w2 va e6 a8.1 (c5.out w2 hb) (aE c9 hb.size)
  have a7:Aside (∀w2,Below wb.heap.size wb w2→Calls Tryz.prog 20 #[.agg vb.toArray] w2 (dN n w2 B)):=fun w2 hb=>f6 n w2 vb e7 a8.2.1 (c6.out w2 hb) (aE c9 hb.size)
  have b6:Aside (Tt.lits=A.lits++B.lits∧Tt.litsB=(A.litsB&&B.litsB)∧A.lits.length+B.lits.length≤20000):=⟨d8,b5,a8.2.2⟩;clear d8 b5 e6 e7 a8 f5 f6 c5 c6 d5 d1 d7 b2 b1;obtain⟨ka,va1,nma,ga,c7,c0,b3⟩:=A;obtain⟨kb,vb1,nmb,gb,c8,c1,b4⟩:=B;simp only [TmV] at hva hvb;obtain⟨_,_,aa,ca,rfl,⟨⟨r1,u1,rfl,_⟩,⟨r2,u2,rfl,_⟩⟩,_⟩:=hva;obtain⟨_,_,ab,cb,rfl,⟨⟨r3,u3,rfl,_⟩,⟨r4,u4,rfl,_⟩⟩,_⟩:=hvb;obtain⟨TAt,hTAt⟩:∃t,Tm.mk ka va1 nma ga c7 c0 b3=t:=⟨_,rfl⟩;obtain⟨TBt,hTBt⟩:∃t,Tm.mk kb vb1 nmb gb c8 c1 b4=t:=⟨_,rfl⟩;rw [hTAt] at a6;rw [hTBt] at a7;rw [hTAt,hTBt] at b6;clear hTAt hTBt Al TA;generalize c7.length=ma1 at*;generalize c0.length=ma2 at*;generalize b3.length=la at*;generalize c8.length=mb1 at*;generalize c1.length=mb2 at*;generalize b4.length=lb at*;have ya:Aside (∀w2,Below wb.heap.size wb w2→_):=fun(w2:World) (hb:Below wb.heap.size wb w2)=>jP (fun p hp=>((hB.trans (hb.mono hB.size)).mono hn).cell (hp▸hbn)) (by simpa using hca)
  have yb:Aside (∀w2,Below wb.heap.size wb w2→_):=fun(w2:World) (hb:Below wb.heap.size wb w2)=>jP (o:=off+7) (fun p hp=>((hB.trans (hb.mono hB.size)).mono hn).cell (hp▸hbn)) (by simpa using hcb)
  clear hca hcb;obtain⟨y0,y1,y2,y3,y4,y5,y6⟩:=ya.out w2 e2;replace a6:Aside (∀w2,Below wb.heap.size wb w2→Calls Tryz.prog 20 #[.agg #[.int .i64 ka,.int .i64 va1,.string nma,.bool ga,.slice r1 ma1 u1,.slice r2 ma2 u2,.slice aa la ca]] w2 (dN n w2 TAt)):=a6;replace a7:Aside (∀w2,Below wb.heap.size wb w2→Calls Tryz.prog 20 #[.agg #[.int .i64 kb,.int .i64 vb1,.string nmb,.bool gb,.slice r3 mb1 u3,.slice r4 mb2 u4,.slice ab lb cb]] w2 (dN n w2 TBt)):=a7
  go_wp2_with (go_at_call 20;with_reducible refine(a6.out _ e2).mono ?_)
  rintro e w3 ⟨v3,rfl,hO3,hb3⟩;have e3:Below wb.heap.size wb w3:=e2.trans (hb3.mono e2.size);have f8:=e2.size;clear x0 x1 x2 x3 x4 x5 x6 y0 y1 y2 y3 y4 y5 y6 a6 ya hb3;obtain⟨x0,x1,x2,x3,x4,x5,x6⟩:=fa.out w3 e3;obtain⟨y0,y1,y2,y3,y4,y5,y6⟩:=yb.out w3 e3
  go_wp2_with (go_at_call 20;with_reducible refine(a7.out _ e3).mono ?_)
  rintro e w4 ⟨v4,rfl,hO4,hb4⟩;have e4:Below wb.heap.size wb w4:=e3.trans (hb4.mono e3.size);have d2:=e3.size;have d9:n≤w3.heap.size:=aE c9 e3.size;have d3:=(hO3.below hb4 d9 (aA _)).base f8;have d4:=hO4.base d2;clear x0 x1 x2 x3 x4 x5 x6 y0 y1 y2 y3 y4 y5 y6 a7 yb hO3 hO4;obtain⟨X3,hX3,hT3⟩:=d3;obtain⟨X4,hX4,hT4⟩:=d4;have a9:TAt.lits.length+TBt.lits.length≤maxLen∧(TAt.lits.length+TBt.lits.length)*112≤140737488355328:=by
   have:=b6.out.2.2;unfold maxLen;omega
  have c4:=rS hX4;have f1:=hX4.1;have f3:=hT4.one;have d0:wb.heap.size≤w4.heap.size:=e4.size;have hP:Aside (∀v5 w5,w5.ownsRow wb.heap.size 48 7 v5 (TAt.lits.length+TBt.lits.length) (X3++X4)→w4.grownBy w5 v3.ownBlock→dN n w Tt (.returned (.tuple #[v5,.bool (TAt.litsB&&TBt.litsB)])) w5):=by
   show∀v5 w5,_;intro v5 w5 h1 h2;have f2:=hX3.lt;have a4:Below wb.heap.size wb w5:=e4.grown h2 d0 fun k hk=>(f2 k hk).1
   have g2:Below wb.heap.size w4 w5:=(aI _ _).grown h2 d0 fun k hk=>(f2 k hk).1
   refine⟨v5,by rw [b6.out.2.1],⟨X3++X4,?_,?_⟩,hB.trans (a4.mono hB.size)⟩
   ·rw [b6.out.1,aK];exact iZ h1 hB.size
   ·rw [b6.out.1];exact(hT3.app hT4).below g2 c9
  clear hT3 hT4;cases hba:TAt.litsB
  ·rw [hba] at hP;clear hba b6
   go_wp2_with (at_builtin;refine gK elTm _ rfl _ _ rfl wb.heap.size _ _ X3 rfl hX3 v4 _ X4 rfl c4 f1 f3 a9.1 a9.2 d0 ?_;intro v5 w5 h5 d6 _)
   go_ret2
   exact hP.out _ _ h5 d6
  ·rw [hba] at hP;clear hba b6
   go_wp2_with (at_builtin;refine gK elTm _ rfl _ _ rfl wb.heap.size _ _ X3 rfl hX3 v4 _ X4 rfl c4 f1 f3 a9.1 a9.2 d0 ?_;intro v5 w5 h5 d6 _)
   go_ret2
   exact hP.out _ _ h5 d6
 have c3:k=5→(nm.toList== [44])=true→((len:Int)==2)=false:=by
  have:=b9.out.2;unfold nT at this;intro a5 g4;subst a5;simp [g4] at this;simp;omega
 have b5:=b1.out (by first|rfl|trivial) (by first|rfl|trivial);have g9:w.heap.size≤wb.heap.size:=hB.size;have hP:Aside (∀w5 w6:World,Below wb.heap.size wb w5→w5.heap[w6.heap.size]?=some (.cells #[.int .i64 k,.int .i64 v,.string nm,.bool g,.slice p1 n1 q1,.slice p2 n2 q2,.slice a len c] 48)→wb.heap.size≤w6.heap.size→∀b:Bool,b=(Tt.kd !=0)→dN n w Tt (.returned (.tuple #[.slice (some ⟨w6.heap.size,0,none⟩) 1 1,.bool b])) w5):=by
  show∀w5 w6:World,_;intro w5 w6 h5 h6 h7 bb g3;refine⟨_,by rw [b5.2,g3],⟨[.int .i64 k,.int .i64 v,.string nm,.bool g,.slice p1 n1 q1,.slice p2 n2 q2,.slice a len c],?_,?_⟩,hB.trans (h5.mono hB.size)⟩
  ·rw [b5.1];exact⟨rfl,.inr ⟨_,_,_,rfl,by omega,h6,aA _,by unfold maxLen;omega,rfl,rfl⟩⟩
  ·rw [b5.1];exact⟨_,[],by simp,f7.out w5 (hB.trans (h5.mono hB.size)),rfl⟩
 have f0:=fun w2 (hb:Below wb.heap.size wb w2)=>d7.out w2 (hB.trans (hb.mono hB.size))
 have a3:Aside (∀w2,Below wb.heap.size wb w2→_):=f0;obtain⟨K,hK⟩:∃K,Tt.kd=K:=⟨_,rfl⟩;have h3:0≤K:=by rw [←hK];exact MJ Tt
 rw [hK] at a3 hP;have g8:decide (0<K)=(K !=0):=by
  rw [iT];simp;omega
 clear f0 d7 b5 b1 b2 d5 d1 hK;rcases(by omega:k=3∨k=5∨(k≠3∧k≠5)) with b0|a5|⟨b0,a5⟩
 ·have g7:=c2 b0;have b7:(k==3)=true:=by simpa using b0
  have b8:(k==5)=false:=by simp [b0]
  clear c2 c3 b0
  go_upto_region 7 with fail
  clear x0 x1 x2 x3 x4 x5 x6;have fd:Below wb.heap.size wb w2.drew:=e2.trans (dI _ _);refine Heavy.region_plan (fun w'=>Below wb.heap.size wb w') 6 (Heavy.lights [0,2] (.two 1 3 (.one 3 (Heavy.lights [4,5] .done)) (.light 4 (.one 1 (.light 5 .done))))) (by kernel_rfl) (by kernel_rfl) fd ?_;simp only [Heavy.lights,bB,bJ,bF,bE]
  iterate 2 ((apply Heavy.light_n;(exact rfl);(exact rfl);(intro a0 hw;have z0:=(fa.out a0 hw).1;have z1:=(fa.out a0 hw).2.1;have z2:=(fa.out a0 hw).2.2.1;have z3:=(fa.out a0 hw).2.2.2.1;have z4:=(fa.out a0 hw).2.2.2.2.1;have z5:=(fa.out a0 hw).2.2.2.2.2.1;have z6:=(fa.out a0 hw).2.2.2.2.2.2;go_simp;exact rfl));(refine Heavy.norm_a (by go_simp;exact rfl) ?_))
  (apply Heavy.two_n;(exact rfl);(exact rfl);(exact rfl);(exact rfl))
  ·go_simp
   have g1:Below wb.heap.size wb ((w2.drew).alloc (.cells #[.int .i64 k,.int .i64 v,.string nm,.bool g,.slice p1 n1 q1,.slice p2 n2 q2,.slice a len c] 48)):=fd.alloc fd.size _;have gq:=heap_alloc_new (w2.drew) ((.cells #[.int .i64 k,.int .i64 v,.string nm,.bool g,.slice p1 n1 q1,.slice p2 n2 q2,.slice a len c] 48):Obj);have gs:((w2.drew).alloc ((.cells #[.int .i64 k,.int .i64 v,.string nm,.bool g,.slice p1 n1 q1,.slice p2 n2 q2,.slice a len c] 48):Obj)).heap.size=w2.drew.heap.size+1:=by simp
   refine⟨g1,?_⟩
   (refine Heavy.norm_a (by go_simp;exact rfl) ?_)
   (apply Heavy.one_n;(exact rfl);(exact rfl));go_simp
   refine(a3.out _ g1).mono ?_;rintro e w5 ⟨rfl,a4⟩;have g5:=g1.trans (a4.mono g1.size);refine⟨_,rfl,g5,?_⟩
   (refine Heavy.norm_a (by go_simp;exact rfl) ?_)
   iterate 2 ((apply Heavy.light_n;(exact rfl);(exact rfl);(intro a0 hw;go_simp;exact rfl));(refine Heavy.norm_a (by go_simp;exact rfl) ?_))
   apply Heavy.plan_end;show wpList _ _ _ _ _ _;have hQ:Aside (dN n w Tt _ _):=hP.out w5 (w2.drew) g5 ((a4.block _ (by rw [gs];omega)).trans gq) fd.size _ rfl;clear hP a3 gq gs a4;go_wp2
   go_ret2
   exact hQ.out
  ·go_simp
   refine(a3.out _ fd).mono ?_;rintro e w5 ⟨rfl,a4⟩;have g5:=fd.trans (a4.mono fd.size);refine⟨_,rfl,g5,?_⟩
   (refine Heavy.norm_a (by go_simp;exact rfl) ?_)
   (apply Heavy.light_n;(exact rfl);(exact rfl);(intro a0 hw;go_simp;exact rfl));(refine Heavy.norm_a (by go_simp;exact rfl) ?_)
   (apply Heavy.one_n;(exact rfl);(exact rfl));go_simp
   have g6:Below wb.heap.size wb (w5.alloc (.cells #[.int .i64 k,.int .i64 v,.string nm,.bool g,.slice p1 n1 q1,.slice p2 n2 q2,.slice a len c] 48)):=g5.alloc g5.size _;have gq:=heap_alloc_new w5 ((.cells #[.int .i64 k,.int .i64 v,.string nm,.bool g,.slice p1 n1 q1,.slice p2 n2 q2,.slice a len c] 48):Obj);refine⟨g6,?_⟩
   (refine Heavy.norm_a (by go_simp;exact rfl) ?_)
   (apply Heavy.light_n;(exact rfl);(exact rfl);(intro a0 hw;go_simp;exact rfl));(refine Heavy.norm_a (by go_simp;exact rfl) ?_)
   apply Heavy.plan_end;show wpList _ _ _ _ _ _;have hQ:Aside (dN n w Tt _ _):=hP.out _ w5 g6 gq g5.size _ rfl;clear hP a3 gq;go_wp2
   go_ret2
   exact hQ.out
 ·cases hnc:(nm.toList== [44])
  ·have b7:(k==3)=false:=by simp [a5]
   have b8:(k==5)=true:=by simpa using a5
   clear c2 c3 a5
   go_upto_region 7 with fail
   clear x0 x1 x2 x3 x4 x5 x6;have fd:Below wb.heap.size wb w2.drew:=e2.trans (dI _ _);refine Heavy.region_plan (fun w'=>Below wb.heap.size wb w') 6 (Heavy.lights [0,2] (.two 1 3 (.one 3 (Heavy.lights [4,5] .done)) (.light 4 (.one 1 (.light 5 .done))))) (by kernel_rfl) (by kernel_rfl) fd ?_;simp only [Heavy.lights,bB,bJ,bF,bE]
   iterate 2 ((apply Heavy.light_n;(exact rfl);(exact rfl);(intro a0 hw;have z0:=(fa.out a0 hw).1;have z1:=(fa.out a0 hw).2.1;have z2:=(fa.out a0 hw).2.2.1;have z3:=(fa.out a0 hw).2.2.2.1;have z4:=(fa.out a0 hw).2.2.2.2.1;have z5:=(fa.out a0 hw).2.2.2.2.2.1;have z6:=(fa.out a0 hw).2.2.2.2.2.2;go_simp;exact rfl));(refine Heavy.norm_a (by go_simp;exact rfl) ?_))
   (apply Heavy.two_n;(exact rfl);(exact rfl);(exact rfl);(exact rfl))
   ·go_simp
    have g1:Below wb.heap.size wb ((w2.drew).alloc (.cells #[.int .i64 k,.int .i64 v,.string nm,.bool g,.slice p1 n1 q1,.slice p2 n2 q2,.slice a len c] 48)):=fd.alloc fd.size _;have gq:=heap_alloc_new (w2.drew) ((.cells #[.int .i64 k,.int .i64 v,.string nm,.bool g,.slice p1 n1 q1,.slice p2 n2 q2,.slice a len c] 48):Obj);have gs:((w2.drew).alloc ((.cells #[.int .i64 k,.int .i64 v,.string nm,.bool g,.slice p1 n1 q1,.slice p2 n2 q2,.slice a len c] 48):Obj)).heap.size=w2.drew.heap.size+1:=by simp
    refine⟨g1,?_⟩
    (refine Heavy.norm_a (by go_simp;exact rfl) ?_)
    (apply Heavy.one_n;(exact rfl);(exact rfl));go_simp
    refine(a3.out _ g1).mono ?_;rintro e w5 ⟨rfl,a4⟩;have g5:=g1.trans (a4.mono g1.size);refine⟨_,rfl,g5,?_⟩
    (refine Heavy.norm_a (by go_simp;exact rfl) ?_)
    iterate 2 ((apply Heavy.light_n;(exact rfl);(exact rfl);(intro a0 hw;go_simp;exact rfl));(refine Heavy.norm_a (by go_simp;exact rfl) ?_))
    apply Heavy.plan_end;show wpList _ _ _ _ _ _;have hQ:Aside (dN n w Tt _ _):=hP.out w5 (w2.drew) g5 ((a4.block _ (by rw [gs];omega)).trans gq) fd.size _ rfl;clear hP a3 gq gs a4;go_wp2
    go_ret2
    exact hQ.out
   ·go_simp
    refine(a3.out _ fd).mono ?_;rintro e w5 ⟨rfl,a4⟩;have g5:=fd.trans (a4.mono fd.size);refine⟨_,rfl,g5,?_⟩
    (refine Heavy.norm_a (by go_simp;exact rfl) ?_)
    (apply Heavy.light_n;(exact rfl);(exact rfl);(intro a0 hw;go_simp;exact rfl));(refine Heavy.norm_a (by go_simp;exact rfl) ?_)
    (apply Heavy.one_n;(exact rfl);(exact rfl));go_simp
    have g6:Below wb.heap.size wb (w5.alloc (.cells #[.int .i64 k,.int .i64 v,.string nm,.bool g,.slice p1 n1 q1,.slice p2 n2 q2,.slice a len c] 48)):=g5.alloc g5.size _;have gq:=heap_alloc_new w5 ((.cells #[.int .i64 k,.int .i64 v,.string nm,.bool g,.slice p1 n1 q1,.slice p2 n2 q2,.slice a len c] 48):Obj);refine⟨g6,?_⟩
    (refine Heavy.norm_a (by go_simp;exact rfl) ?_)
    (apply Heavy.light_n;(exact rfl);(exact rfl);(intro a0 hw;go_simp;exact rfl));(refine Heavy.norm_a (by go_simp;exact rfl) ?_)
    apply Heavy.plan_end;show wpList _ _ _ _ _ _;have hQ:Aside (dN n w Tt _ _):=hP.out _ w5 g6 gq g5.size _ rfl;clear hP a3 gq;go_wp2
    go_ret2
    exact hQ.out
  ·have h4:=c3 a5 hnc;have b7:(k==3)=false:=by simp [a5]
   have b8:(k==5)=true:=by simpa using a5
   clear c2 c3 a5
   go_upto_region 7 with fail
   clear x0 x1 x2 x3 x4 x5 x6;have fd:Below wb.heap.size wb w2.drew:=e2.trans (dI _ _);refine Heavy.region_plan (fun w'=>Below wb.heap.size wb w') 6 (Heavy.lights [0,2] (.two 1 3 (.one 3 (Heavy.lights [4,5] .done)) (.light 4 (.one 1 (.light 5 .done))))) (by kernel_rfl) (by kernel_rfl) fd ?_;simp only [Heavy.lights,bB,bJ,bF,bE]
   iterate 2 ((apply Heavy.light_n;(exact rfl);(exact rfl);(intro a0 hw;have z0:=(fa.out a0 hw).1;have z1:=(fa.out a0 hw).2.1;have z2:=(fa.out a0 hw).2.2.1;have z3:=(fa.out a0 hw).2.2.2.1;have z4:=(fa.out a0 hw).2.2.2.2.1;have z5:=(fa.out a0 hw).2.2.2.2.2.1;have z6:=(fa.out a0 hw).2.2.2.2.2.2;go_simp;exact rfl));(refine Heavy.norm_a (by go_simp;exact rfl) ?_))
   (apply Heavy.two_n;(exact rfl);(exact rfl);(exact rfl);(exact rfl))
   ·go_simp
    have g1:Below wb.heap.size wb ((w2.drew).alloc (.cells #[.int .i64 k,.int .i64 v,.string nm,.bool g,.slice p1 n1 q1,.slice p2 n2 q2,.slice a len c] 48)):=fd.alloc fd.size _;have gq:=heap_alloc_new (w2.drew) ((.cells #[.int .i64 k,.int .i64 v,.string nm,.bool g,.slice p1 n1 q1,.slice p2 n2 q2,.slice a len c] 48):Obj);have gs:((w2.drew).alloc ((.cells #[.int .i64 k,.int .i64 v,.string nm,.bool g,.slice p1 n1 q1,.slice p2 n2 q2,.slice a len c] 48):Obj)).heap.size=w2.drew.heap.size+1:=by simp
    refine⟨g1,?_⟩
    (refine Heavy.norm_a (by go_simp;exact rfl) ?_)
    (apply Heavy.one_n;(exact rfl);(exact rfl));go_simp
    refine(a3.out _ g1).mono ?_;rintro e w5 ⟨rfl,a4⟩;have g5:=g1.trans (a4.mono g1.size);refine⟨_,rfl,g5,?_⟩
    (refine Heavy.norm_a (by go_simp;exact rfl) ?_)
    iterate 2 ((apply Heavy.light_n;(exact rfl);(exact rfl);(intro a0 hw;go_simp;exact rfl));(refine Heavy.norm_a (by go_simp;exact rfl) ?_))
    apply Heavy.plan_end;show wpList _ _ _ _ _ _;have hQ:Aside (dN n w Tt _ _):=hP.out w5 (w2.drew) g5 ((a4.block _ (by rw [gs];omega)).trans gq) fd.size _ rfl;clear hP a3 gq gs a4;go_wp2
    go_ret2
    exact hQ.out
   ·go_simp
    refine(a3.out _ fd).mono ?_;rintro e w5 ⟨rfl,a4⟩;have g5:=fd.trans (a4.mono fd.size);refine⟨_,rfl,g5,?_⟩
    (refine Heavy.norm_a (by go_simp;exact rfl) ?_)
    (apply Heavy.light_n;(exact rfl);(exact rfl);(intro a0 hw;go_simp;exact rfl));(refine Heavy.norm_a (by go_simp;exact rfl) ?_)
    (apply Heavy.one_n;(exact rfl);(exact rfl));go_simp
    have g6:Below wb.heap.size wb (w5.alloc (.cells #[.int .i64 k,.int .i64 v,.string nm,.bool g,.slice p1 n1 q1,.slice p2 n2 q2,.slice a len c] 48)):=g5.alloc g5.size _;have gq:=heap_alloc_new w5 ((.cells #[.int .i64 k,.int .i64 v,.string nm,.bool g,.slice p1 n1 q1,.slice p2 n2 q2,.slice a len c] 48):Obj);refine⟨g6,?_⟩
    (refine Heavy.norm_a (by go_simp;exact rfl) ?_)
    (apply Heavy.light_n;(exact rfl);(exact rfl);(intro a0 hw;go_simp;exact rfl));(refine Heavy.norm_a (by go_simp;exact rfl) ?_)
    apply Heavy.plan_end;show wpList _ _ _ _ _ _;have hQ:Aside (dN n w Tt _ _):=hP.out _ w5 g6 gq g5.size _ rfl;clear hP a3 gq;go_wp2
    go_ret2
    exact hQ.out
 ·have b7:(k==3)=false:=by simpa using b0
  have b8:(k==5)=false:=by simpa using a5
  clear c2 c3 b0 a5
  go_upto_region 7 with fail
  clear x0 x1 x2 x3 x4 x5 x6;have fd:Below wb.heap.size wb w2.drew:=e2.trans (dI _ _);refine Heavy.region_plan (fun w'=>Below wb.heap.size wb w') 6 (Heavy.lights [0,2] (.two 1 3 (.one 3 (Heavy.lights [4,5] .done)) (.light 4 (.one 1 (.light 5 .done))))) (by kernel_rfl) (by kernel_rfl) fd ?_;simp only [Heavy.lights,bB,bJ,bF,bE]
  iterate 2 ((apply Heavy.light_n;(exact rfl);(exact rfl);(intro a0 hw;have z0:=(fa.out a0 hw).1;have z1:=(fa.out a0 hw).2.1;have z2:=(fa.out a0 hw).2.2.1;have z3:=(fa.out a0 hw).2.2.2.1;have z4:=(fa.out a0 hw).2.2.2.2.1;have z5:=(fa.out a0 hw).2.2.2.2.2.1;have z6:=(fa.out a0 hw).2.2.2.2.2.2;go_simp;exact rfl));(refine Heavy.norm_a (by go_simp;exact rfl) ?_))
  (apply Heavy.two_n;(exact rfl);(exact rfl);(exact rfl);(exact rfl))
  ·go_simp
   have g1:Below wb.heap.size wb ((w2.drew).alloc (.cells #[.int .i64 k,.int .i64 v,.string nm,.bool g,.slice p1 n1 q1,.slice p2 n2 q2,.slice a len c] 48)):=fd.alloc fd.size _;have gq:=heap_alloc_new (w2.drew) ((.cells #[.int .i64 k,.int .i64 v,.string nm,.bool g,.slice p1 n1 q1,.slice p2 n2 q2,.slice a len c] 48):Obj);have gs:((w2.drew).alloc ((.cells #[.int .i64 k,.int .i64 v,.string nm,.bool g,.slice p1 n1 q1,.slice p2 n2 q2,.slice a len c] 48):Obj)).heap.size=w2.drew.heap.size+1:=by simp
   refine⟨g1,?_⟩
   (refine Heavy.norm_a (by go_simp;exact rfl) ?_)
   (apply Heavy.one_n;(exact rfl);(exact rfl));go_simp
   refine(a3.out _ g1).mono ?_;rintro e w5 ⟨rfl,a4⟩;have g5:=g1.trans (a4.mono g1.size);refine⟨_,rfl,g5,?_⟩
   (refine Heavy.norm_a (by go_simp;exact rfl) ?_)
   iterate 2 ((apply Heavy.light_n;(exact rfl);(exact rfl);(intro a0 hw;go_simp;exact rfl));(refine Heavy.norm_a (by go_simp;exact rfl) ?_))
   apply Heavy.plan_end;show wpList _ _ _ _ _ _;have hQ:Aside (dN n w Tt _ _):=hP.out w5 (w2.drew) g5 ((a4.block _ (by rw [gs];omega)).trans gq) fd.size _ rfl;clear hP a3 gq gs a4;go_wp2
   go_ret2
   exact hQ.out
  ·go_simp
   refine(a3.out _ fd).mono ?_;rintro e w5 ⟨rfl,a4⟩;have g5:=fd.trans (a4.mono fd.size);refine⟨_,rfl,g5,?_⟩
   (refine Heavy.norm_a (by go_simp;exact rfl) ?_)
   (apply Heavy.light_n;(exact rfl);(exact rfl);(intro a0 hw;go_simp;exact rfl));(refine Heavy.norm_a (by go_simp;exact rfl) ?_)
   (apply Heavy.one_n;(exact rfl);(exact rfl));go_simp
   have g6:Below wb.heap.size wb (w5.alloc (.cells #[.int .i64 k,.int .i64 v,.string nm,.bool g,.slice p1 n1 q1,.slice p2 n2 q2,.slice a len c] 48)):=g5.alloc g5.size _;have gq:=heap_alloc_new w5 ((.cells #[.int .i64 k,.int .i64 v,.string nm,.bool g,.slice p1 n1 q1,.slice p2 n2 q2,.slice a len c] 48):Obj);refine⟨g6,?_⟩
   (refine Heavy.norm_a (by go_simp;exact rfl) ?_)
   (apply Heavy.light_n;(exact rfl);(exact rfl);(intro a0 hw;go_simp;exact rfl));(refine Heavy.norm_a (by go_simp;exact rfl) ?_)
   apply Heavy.plan_end;show wpList _ _ _ _ _ _;have hQ:Aside (dN n w Tt _ _):=hP.out _ w5 g6 gq g5.size _ rfl;clear hP a3 gq;go_wp2
   go_ret2
   exact hQ.out
theorem xP:∀T:Tm,LitsOk 20 T
 | .mk k v nm g num den args=>WA k v nm g num den args fun T' g0=>xP T'
termination_by T=>SizeOf.sizeOf T
decreasing_by
 simp_wf
 have:=oE g0;omega
end Go.Proofs.YtbdpdeonapmlgaaGreatDoor
namespace Go.MapK
open Go.RowKit
variable {κ:Type} [DecidableEq κ] {P:Program} {kt mt vt:TypeId} {kv:κ→Value}
def iF (kv:κ→Value) (w:World) (r b:Nat) (M D:List (κ × Value)):Prop:=
 ∃es a0 seen,w.heap[b]?=some (.map es a0)∧MapIs kv M es a0∧w.heap[r]?=some (.mapIter (some b) a0 seen a0)∧
  ∃ds:List MapEntry,EsR kv D ds∧seen.toList=ds.map (·.born)∧(∀e∈ds,e∈es.toList)∧(ds.map (·.born)).Nodup
theorem iF.of_blocks {w w':World} {r b:Nat} {M D:List (κ × Value)} (h:iF kv w r b M D) (e1:w'.heap[b]?=w.heap[b]?) (e2:w'.heap[r]?=w.heap[r]?):iF kv w' r b M D:=by
 obtain⟨es,c,seen,h1,h2,h3,h4⟩:=h;exact⟨es,c,seen,e1.trans h1,h2,e2.trans h3,h4⟩
theorem iF.map {w:World} {r b:Nat} {M D:List (κ × Value)} (h:iF kv w r b M D):aS kv w b M:=by
 obtain⟨es,c,seen,h1,h2,h3,h4⟩:=h;exact⟨es,c,h1,h2⟩
theorem WQ (hu:P.underlying mt=some (.map kt vt)) {w:World} {b:Nat} {M:List (κ × Value)} (h:aS kv w b M):
  ∃o,(Instr.range mt (.map (some b))).run P w= .ok (.pointer (some ⟨w.heap.size,0,none⟩)) (w.alloc o)∧iF kv (w.alloc o) w.heap.size b M []:=by
 obtain⟨es,a0,hb,hM⟩:=h;have c5:(Go.underlying mt).run P w= .ok (.map kt vt) w:=dV hu w;have c1:b<w.heap.size:=(Array.getElem?_eq_some_iff.1 hb).1;refine⟨.mapIter (some b) a0 #[] a0,?_,es,a0,#[],?_,hM,?_,[],trivial,rfl,by simp,by simp⟩
 ·unfold Instr.range;simp only [aY,c5,Result.andThen,run_getMap hb,bZ];rfl
 ·rw [show(w.alloc (.mapIter (some b) a0 #[] a0)).heap=w.heap.push (.mapIter (some b) a0 #[] a0) from rfl,iB];simp [RP c1,hb]
 ·rw [show(w.alloc (.mapIter (some b) a0 #[] a0)).heap=w.heap.push (.mapIter (some b) a0 #[] a0) from rfl];simp
theorem EsR.mem:∀{M:List (κ × Value)} {es:List MapEntry} {e:MapEntry},EsR kv M es→e∈es→∃p∈M,e.key=kv p.1∧e.val=p.2
 | p::M,x::es,e,h,he=>by
  obtain⟨h1,h2,h3⟩:=h;rcases cD.1 he with rfl|he
  ·exact⟨p,by simp,h1,h2⟩
  ·obtain⟨q,hq,h4⟩:=EsR.mem h3 he;exact⟨q,by simp [hq],h4⟩
 | [],[],_,_,he=>by cases he
 | [],_::_,_,h,_=>by cases h
 |_::_,[],_,h,_=>by cases h
theorem Dp (n:Nat) (hn:0<n) (w:World):∃i w',(choose (.mapNext n)).run P w= .ok i w'∧i<n∧(w'=w∨w'=w.drew):=by
 rw [run_choose_drew]
 by_cases h:n≤1
 ·refine⟨0,w,?_,hn,.inl rfl⟩;simp [Question.forced,h]
 ·refine⟨w.tape w.drawn (.mapNext n)%n,w.drew,?_,kC _ hn,.inr rfl⟩;simp [Question.forced,h,Question.cut]
theorem EsR.entry:∀{M:List (κ × Value)} {es:List MapEntry} {p:κ × Value},EsR kv M es→p∈M→∃e∈es,e.key=kv p.1∧e.val=p.2
 | q::M,x::es,p,h,hp=>by
  obtain⟨h1,h2,h3⟩:=h;rcases cD.1 hp with rfl|hp
  ·exact⟨x,by simp,h1,h2⟩
  ·obtain⟨e,he,h4⟩:=EsR.entry h3 hp;exact⟨e,by simp [he],h4⟩
 | [],[],_,_,hp=>by cases hp
 | [],_::_,_,h,_=>by cases h
 |_::_,[],_,h,_=>by cases h
theorem EsR.one (inj:∀{a b:κ},kv a=kv b→a=b):∀{M:List (κ × Value)} {es:List MapEntry} {e e':MapEntry},EsR kv M es→(M.map (·.1)).Nodup→e∈es→e'∈es→e.key=e'.key→e=e'
 | q::M,x::es,e,e',h,hn,he,a9,hk=>by
  obtain⟨h1,h2,h3⟩:=h;rw [gB,List.nodup_cons] at hn;rcases cD.1 he with rfl|ha<;>rcases cD.1 a9 with rfl|a3
  ·rfl
  ·obtain⟨p,hp,hpk,_⟩:=EsR.mem h3 a3;rw [h1,hpk] at hk;exact absurd (dG.2 ⟨p,hp,(inj hk).symm⟩) hn.1
  ·obtain⟨p,hp,hpk,_⟩:=EsR.mem h3 ha;rw [h1,hpk] at hk;exact absurd (dG.2 ⟨p,hp,inj hk⟩) hn.1
  ·exact EsR.one inj h3 hn.2 ha a3 hk
 | [],[],_,_,_,_,he,_,_=>by cases he
 | [],_::_,_,_,h,_,_,_,_=>by cases h
 |_::_,[],_,_,h,_,_,_,_=>by cases h
theorem PW {l:List MapEntry} (h:l.Pairwise fun x y=>x.born<y.born) {e e':MapEntry} (he:e∈l) (a9:e'∈l) (hb:e.born=e'.born):e=e':=by
 induction l with
 |nil=>cases he
 |cons x l ih=>
  obtain⟨h1,h2⟩:=List.pairwise_cons.1 h;rcases cD.1 he with rfl|ha<;>rcases cD.1 a9 with rfl|a3
  ·rfl
  ·have:=h1 _ a3;omega
  ·have:=h1 _ ha;omega
  ·exact ih h2 ha a3
theorem EsR.snoc {p:κ × Value} {e:MapEntry} (hk:e.key=kv p.1) (hv:e.val=p.2):∀{M:List (κ × Value)} {es:List MapEntry},EsR kv M es→EsR kv (M++ [p]) (es++ [e])
 | [],[],_=>⟨hk,hv,trivial⟩
 |q::M,x::es,h=>⟨h.1,h.2.1,EsR.snoc hk hv h.2.2⟩
 | [],_::_,h=>by cases h
 |_::_,[],h=>by cases h
theorem XZ (K:KL P kt kv) {w:World} {r b:Nat} {M D:List (κ × Value)} (h:iF kv w r b M D) (ty:TypeId):
  ((∀p∈M,p∈D)∧∃w',(Instr.next (.pointer (some ⟨r,0,none⟩)) false ty).run P w= .ok (.tuple #[.bool false]) w'∧(w'=w∨w'=w.drew))∨
  ∃p∈M,p.1∉D.map (·.1)∧∃w1 o,(w1=w∨w1=w.drew)∧(Instr.next (.pointer (some ⟨r,0,none⟩)) false ty).run P w= .ok (.tuple #[.bool true,kv p.1,p.2]) { w1 with heap:=w1.heap.setIfInBounds r o }∧
   iF kv { w1 with heap:=w1.heap.setIfInBounds r o } r b M (D++ [p]):=by
 obtain⟨es,a0,seen,hb,hM,hr,ds,hD,hseen,hds,hnd⟩:=h;have c7:r<w.heap.size:=(Array.getElem?_eq_some_iff.1 hr).1;have c4:r≠b:=by intro e;rw [e,hb] at hr;cases hr
 have g1:(getObj r).run P w= .ok (.mapIter (some b) a0 seen a0) w:=JD hr;have g2:(getObj b).run P w= .ok (.map es a0) w:=run_getMap hb;have a1:(!seen.isEmpty&& !es.isEmpty&&es.all (·.born≥a0))=false:=by
  cases he:es.isEmpty with
  |true=>simp
  | false=>
   have c3:0<es.size:=by
    rcases rH es.size with h0|h0
    ·rw [Array.isEmpty_iff_size_eq_zero.2 h0] at he;cases he
    ·exact h0
   have a8:es.all (·.born≥a0)=false:=by
    cases ha:es.all (·.born≥a0) with
    |false=>rfl
    |true=>
     rw [Array.all_eq_true'] at ha;have hm:es[0]∈es:=Array.getElem_mem c3;have h1:=ha _ hm;have h2:=hM.lt es[0] (by simpa using hm);simp at h1;omega
   simp [a8]
 obtain⟨left,hleft⟩:∃left,es.filter (fun e=>!seen.contains e.born)=left:=⟨_,rfl⟩;have a2:∀e,e∈left↔e∈es∧e.born∉ds.map (·.born):=by
  intro e;rw [←hleft,Array.mem_filter];constructor
  ·rintro⟨h1,h2⟩;refine⟨h1,fun h3=>?_⟩;rw [←hseen] at h3;have:seen.contains e.born=true:=by simpa using h3
   rw [this] at h2;cases h2
  ·rintro⟨h1,h2⟩;refine⟨h1,?_⟩;rw [←hseen] at h2;simpa using h2
 have a7:left.filter (·.born<a0)=left:=by
  rw [Array.filter_eq_self];intro e he;have:=hM.lt e (by simpa using ((a2 e).1 he).1);simpa using this
 have a6:left.filter (·.born≥a0)=#[]:=by
  rw [Array.filter_eq_empty_iff];intro e he;have:=hM.lt e (by simpa using ((a2 e).1 he).1);simp;omega
 cases hE:left.isEmpty with
 | true=>
  left;have b5:left=#[]:=Array.isEmpty_iff.1 hE;refine⟨fun p hp=>?_,w,?_,.inl rfl⟩
  ·obtain⟨e,he,hk,hv⟩:=hM.rel.entry hp;have hs:e.born∈ds.map (·.born):=by
    apply iA;intro hn;have:e∈left:=(a2 e).2 ⟨by simpa using he,hn⟩;rw [b5] at this;simp at this
   obtain⟨e',h1,h2⟩:=dG.1 hs;have:=PW hM.borns (hds e' h1) he h2;subst this;obtain⟨q,hq,h3,h4⟩:=hD.mem h1;rw [hk] at h3;rw [hv] at h4;have:p=q:=Prod.ext (K.inj h3) h4;rw [this];exact hq
  ·unfold Instr.next;simp only [aY,Result.andThen,g1,g2,a1,hleft,a7,a6,hE,bZ];simp [b5,Question.forced]
 | false=>
  right;have b2:0<left.size:=by
   rcases rH left.size with h0|h0
   ·rw [Array.isEmpty_iff_size_eq_zero.2 h0] at hE;cases hE
   ·exact h0
  obtain⟨i,w1,hch,hi,hw1⟩:=Dp (P:=P) left.size b2 w;have b9:left[i]∈left:=Array.getElem_mem hi;obtain⟨b0,he2⟩:=(a2 _).1 b9;obtain⟨p,hp,hk,hv⟩:=hM.rel.mem (show left[i]∈es.toList by simpa using b0);have b6:w1.heap[r]?=some (.mapIter (some b) a0 seen a0):=by rcases hw1 with rfl|rfl<;>exact hr
  have b7:w1.heap[b]?=some (.map es a0):=by rcases hw1 with rfl|rfl<;>exact hb
  have b3:r<w1.heap.size:=(Array.getElem?_eq_some_iff.1 b6).1;have b4:∀o,(setObj r o).run P w1= .ok () { w1 with heap:=w1.heap.setIfInBounds r o }:=fun o=>by simp [setObj,Sem.run,b6]
  have b8:((if left.isEmpty=true then #[none] else #[])++Array.map some (left++#[]):Array (Option MapEntry))=left.map some:=by simp [hE]
  refine⟨p,hp,?_,w1,.mapIter (some b) a0 (seen.push left[i].born) a0,hw1,?_,es,a0,seen.push left[i].born,?_,hM,?_,ds++ [left[i]],hD.snoc hk hv,?_,?_,?_⟩
  ·intro c0;obtain⟨q,hq,hqp⟩:=dG.1 c0;obtain⟨e',h1,h2,_⟩:=hD.entry hq;have:=hM.rel.one K.inj hM.nodup (hds e' h1) (show left[i]∈es.toList by simpa using b0) (by rw [h2,hk,hqp]);subst this;exact he2 (dG.2 ⟨_,h1,rfl⟩)
  ·unfold Instr.next;simp only [aY,Result.andThen,g1,g2,a1,hleft,a7,a6,bZ,b8];have c2:(left.map some).size=left.size:=by simp
   have b1:(left.map some)[i]?=some (some left[i]):=by simp [hi]
   simp only [c2,dJ,eY,aY,hch,b1,Result.andThen,b4,bZ,hk,hv]
  ·simp [lG,c4,b7]
  ·simp [b3]
  ·simp [hseen]
  ·intro e he;rcases bX.1 he with he|he
   ·exact hds e he
   ·simp at he;subst he;simpa using b0
  ·rw [mZ,tR];refine⟨hnd,by simp,?_⟩;intro a ha c hc e;simp at hc;subst hc;subst e;exact he2 ha
theorem EsR.unsnoc {p:κ × Value}:∀{M:List (κ × Value)} {es:List MapEntry},EsR kv (M++ [p]) es→∃es' e,es=es'++ [e]∧e.key=kv p.1∧e.val=p.2
 | [],[e],h=>⟨[],e,rfl,h.1,h.2.1⟩
 | [],e::e'::es,h=>by cases h.2.2
 |q::M,x::es,h=>by
  obtain⟨es',e,h1,h2⟩:=EsR.unsnoc h.2.2;exact⟨x::es',e,by rw [h1];rfl,h2⟩
 | [],[],h=>by cases h
 |_::_,[],h=>by cases h
theorem Bv {w:World} {r b:Nat} {M D:List (κ × Value)} {p:κ × Value} (h:iF kv w r b M (D++ [p])):
  (Instr.entry (.pointer (some ⟨r,0,none⟩))).run P w= .ok (.tuple #[kv p.1,p.2]) w:=by
 obtain⟨es,a0,seen,hb,hM,hr,ds,hD,hseen,hds,hnd⟩:=h;obtain⟨c6,e,rfl,hk,hv⟩:=hD.unsnoc;have a4:seen.back?=some e.born:=by
  rw [←Array.getLast?_toList,hseen];simp
 have he:e∈es.toList:=hds e (by simp);have a5:es.find? (·.born==e.born)=some e:=by
  rw [←Array.find?_toList];cases hf:es.toList.find? (·.born==e.born) with
  |none=>
   rw [List.find?_eq_none] at hf;have:=hf e he;simp at this
  |some x=>
   have h1:=List.find?_some hf;have h2:=List.mem_of_find?_eq_some hf;have:x=e:=PW hM.borns h2 he (by simpa using h1);rw [this]
 unfold Instr.entry;simp only [aY,Result.andThen,JD hr,run_getMap hb,a4,a5,bZ,bne_self_eq_false,dJ,eY,hk,hv]
end Go.MapK
namespace Go.Proofs.YtbdpdeonapmlgaaGreatDoor
open Go.RowKit Go.Big Go.RowsK Go.MapK
variable {S:Int→Prop} {w w':World} {mb i n:Nat}
mutual
def Tm.fr:Tm→List Int→List Int
 | .mk k v nm g num den args,a0=>Tm.frL args (if k=1∧v∉a0 then a0++ [v] else a0)
def Tm.frL:List Tm→List Int→List Int
 | [],a0=>a0
 |T::r,a0=>Tm.frL r (Tm.fr T a0)
end
def Tm.free (T:Tm):List Int:=T.fr []
theorem NH:∀(L M:List Tm) (a0:List Int),Tm.frL (L++M) a0=Tm.frL M (Tm.frL L a0)
 | [],M,a0=>by simp [Tm.frL]
 |T::r,M,a0=>by simp [Tm.frL,NH r M]
theorem NG {L:List Tm} {T:Tm} {a0:List Int} (h:L[i]?=some T):Tm.frL (L.take (i+1)) a0=T.fr (Tm.frL (L.take i) a0):=by
 rw [fT,h,NH];simp [Tm.frL]
mutual
theorem fr_len:∀(T:Tm) (a0:List Int),(T.fr a0).length≤a0.length+T.nodes∧a0.length≤(T.fr a0).length
 | .mk k v nm g num den args,a0=>by
  simp only [Tm.fr,Tm.nodes];split
  ·have:=qJ args (a0++ [v]);simp at this;omega
  ·have:=qJ args a0;omega
theorem qJ:∀(L:List Tm) (a0:List Int),(Tm.frL L a0).length≤a0.length+Tm.nodesL L∧a0.length≤(Tm.frL L a0).length
 | [],a0=>by simp [Tm.frL]
 |T::r,a0=>by
  simp only [Tm.frL,Tm.nodesL];have h1:=fr_len T a0;have h2:=qJ r (T.fr a0);omega
end
def ikv (x:Int):Value:=.int .i64 x
theorem intKL:KL Tryz.prog 3 ikv where
 inj:=fun {a b} h=>by unfold ikv at h;injection h
 find:=Bc (.int .i64) Tryz.underlying3 (fun a b=>by
  unfold ikv Instr.sameNow;simp [Bool.beq_eq_decide_eq])
 check:=fun em k w=>by
  have hu:(Go.underlying 3).run Tryz.prog w= .ok (.int .i64) w:=dV Tryz.underlying3 w;unfold ikv;rw [Instr.checkKey];simp only [aY,hu,Result.andThen];simp
 bits:=fun k=>by unfold ikv;simp [Instr.sameBits]
theorem und93:Tryz.prog.underlying 93=some (.map 3 4):=Tryz.underlying93
theorem zero4 (w:World):(zeroValue 4).run Tryz.prog w= .ok (.bool false) w:=Tryz.zeroValue4 w
theorem elInt:El Tryz.prog 64 3 1 8 (.int .i64 0):=⟨Tryz.underlying64,by
  obtain⟨i0,h1,h2,h3,h4⟩:=mV (show(Tryz.prog.info? 3).map (fun i=>(i.zero,i.size,i.bytes))=some (some (.int .i64 0),1,8) by kernel_rfl);exact⟨i0,h1,h2,h3,h4⟩,rfl,by decide⟩
def OutN (base:Nat) (w:World) (v:Value) (L:List Int):Prop:=w.ownsRow base 3 1 v L.length (L.map (Value.int .i64))
def dU (w:World) (mb:Nat) (S:Int→Prop):Prop:=∃M,aS ikv w mb M∧(∀x,x∈M.map (·.1)↔S x)∧∀p∈M,p.2= .bool true
structure bU (S:Nat→Prop) (w w':World):Prop where
 os:w'.os=w.os
 tape:w'.tape=w.tape
 output:w'.output=w.output
 size:w.heap.size≤w'.heap.size
 block:∀k,k<w.heap.size→¬S k→w'.heap[k]?=w.heap[k]?
theorem bU.refl (S:Nat→Prop) (w:World):bU S w w:=⟨rfl,rfl,rfl,aA _,fun _ _ _=>rfl⟩
theorem bU.trans {S S':Nat→Prop} {w1 w2:World} (h:bU S w w1) (h':bU S' w1 w2) (hs:∀k,k<w.heap.size→S' k→S k):bU S w w2:=
 ⟨h'.os.trans h.os,h'.tape.trans h.tape,h'.output.trans h.output,aE h.size h'.size,fun k hk hn=>(h'.block k (aZ hk h.size) fun hS=>hn (hs k hk hS)).trans (h.block k hk hn)⟩
theorem bU.mono {S S':Nat→Prop} (h:bU S w w') (hs:∀k,k<w.heap.size→S k→S' k):bU S' w w':=
 ⟨h.os,h.tape,h.output,h.size,fun k hk hn=>h.block k hk fun hS=>hn (hs k hk hS)⟩
theorem bU.of_below {S:Nat→Prop} (h:Below w.heap.size w w'):bU S w w':=⟨h.os,h.tape,h.output,h.size,fun k hk _=>h.block k hk⟩
theorem bU.below {S:Nat→Prop} (h:bU S w w') (hn:n≤w.heap.size) (hs:∀k,S k→n≤k):Below n w w':=
 ⟨h.os,h.tape,h.output,h.size,fun k hk=>h.block k (aZ hk hn) fun hS=>by have:=hs k hS;omega⟩
theorem bU.of_grown {r:Option Nat} (h:w.grownBy w' r):bU (fun k=>r=some k) w w':=⟨h.os,h.tape,h.output,h.size,fun k hk hn=>h.block k hk fun e=>hn e.symm⟩
theorem bU.alloc (S:Nat→Prop) (w:World) (o:Obj):bU S w (w.alloc o):=bU.of_below (aC w o)
theorem dU.of_block (h:dU w mb S) (e:w'.heap[mb]?=w.heap[mb]?):dU w' mb S:=by
 obtain⟨M,h1,h2,h3⟩:=h;exact⟨M,h1.of_block e,h2,h3⟩
theorem dU.lt (h:dU w mb S):mb<w.heap.size:=by
 obtain⟨M,h1,h2,h3⟩:=h;exact h1.lt
theorem dU.new (w:World):dU (w.alloc (.map #[] 0)) w.heap.size (fun _=>False):=⟨[],aS.new w 0,by simp,by simp⟩
theorem dU.look (h:dU w mb S) (x:Int):∃b:Bool,(Instr.lookup 93 (.map (some mb)) (.int .i64 x) false).run Tryz.prog w= .ok (.bool b) w∧(b=true↔S x):=by
 obtain⟨M,h1,h2,h3⟩:=h;have hr:=sG intKL und93 zero4 h1 x;cases hv:aN x M with
 | none=>
  refine⟨false,by rw [hv] at hr;exact hr,?_⟩;rw [←h2 x];constructor
  ·intro h;cases h
  ·intro h;obtain⟨p,hp,rfl⟩:=dG.1 h;exact absurd rfl (IA.1 hv p hp)
 |some u=>
  have hm:=xB hv;have:=h3 _ hm;simp only at this;subst this;refine⟨true,by rw [hv] at hr;exact hr,?_⟩;rw [←h2 x];exact⟨fun _=>dG.2 ⟨_,hm,rfl⟩,fun _=>rfl⟩
theorem dU.put (h:dU w mb S) (x:Int):∃w',(Instr.mapUpdate 93 (.map (some mb)) (.int .i64 x) (.bool true)).run Tryz.prog w= .ok () w'∧dU w' mb (fun y=>S y∨y=x)∧bU (fun k=>k=mb) w w'∧w'.heap.size=w.heap.size:=by
 obtain⟨M,h1,h2,h3⟩:=h;obtain⟨w',hr,h4,h5,h6⟩:=rQ intKL und93 h1 x (.bool true);refine⟨w',hr,⟨_,h4,fun y=>?_,fun p hp=>?_⟩,(bU.of_grown h5).mono fun k _ e=>(aJ e).symm,h6⟩
 ·rw [LF,h2 y];constructor
  ·rintro(h|h)
   ·exact .inr h
   ·exact .inl h
  ·rintro(h|h)
   ·exact .inr h
   ·exact .inl h
 ·rcases yO hp with rfl|hp
  ·rfl
  ·exact h3 p hp
theorem dU.cong {S':Int→Prop} (h:dU w mb S) (e:∀x,S x↔S' x):dU w mb S':=by
 obtain⟨M,h1,h2,h3⟩:=h;exact⟨M,h1,fun x=>(h2 x).trans (e x),h3⟩
end Go.Proofs.YtbdpdeonapmlgaaGreatDoor
namespace Go.Proofs.YtbdpdeonapmlgaaGreatDoor
open Go.RowKit Go.Big
theorem yG (L:List Tm) (i:Nat):Tm.nodesL (L.take i)≤Tm.nodesL L:=by
 have:=DH (L.take i) (L.drop i);rw [pQ] at this;omega
def SizeOk (T:Tm):Prop:=∀(n:Nat) (w:World) (vs:List Value) (m:Nat),m≤1000000→TmV n w T vs→n≤w.heap.size→
  Calls Tryz.prog 152 #[.agg vs.toArray,.int .i64 m] w fun e w'=>∃r:Nat,e= .returned (.int .i64 r)∧r=min T.nodes (m+1)∧Below w.heap.size w w'
theorem WU (k v:Int) (nm:ByteArray) (g:Bool) (num den:List Nat) (args:List Tm) (ih:∀T'∈args,SizeOk T'):SizeOk (.mk k v nm g num den args):=by
 intro n w vs m hm h hn;simp only [TmV] at h;obtain⟨s1,s2,a,c,rfl,⟨⟨p1,q1,rfl,hA⟩,⟨p2,q2,rfl,hC⟩⟩,h2,hbig,hbA,hbC⟩:=h;obtain⟨F,hF⟩:∃F,Tm.nodes (.mk k v nm g num den args)=F:=⟨_,rfl⟩;have b2:Aside (F=1+Tm.nodesL args):=by show F=_;rw [←hF];simp only [Tm.nodes]
 rw [hF];obtain⟨len,hl⟩:∃len,args.length=len:=⟨_,rfl⟩;generalize num.length=l1 at*;generalize den.length=l2 at*;rw [hl] at hbig ⊢;show Calls Tryz.prog 152 #[.agg #[.int .i64 k,.int .i64 v,.string nm,.bool g,.slice p1 l1 q1,.slice p2 l2 q2,.slice a len c],.int .i64 m] w _;have b6:=aC w (Obj.cells #[.int .i64 k,.int .i64 v,.string nm,.bool g,.slice p1 l1 q1,.slice p2 l2 q2,.slice a len c] 48);have Al:=aside hl;have c5:IntKind.i64.wrap ((m:Int)+1)=(m:Int)+1:=by rw [aG];omega
 clear hl hA hC hF;go_enter Tryz.func152,Tryz.ntmps152
 go_wp2_with fail
 go_loopw [5,11] (fun s5 b9 wr=>∃i r:Nat,b9= .int .i64 i∧s5= .int .i64 r∧i≤len∧Aside (r=min (1+Tm.nodesL (args.take i)) (m+1))∧Below w.heap.size w wr) (fun _ s _=>len-(intOf s).toNat)
 case atStart=>exact⟨0,1,rfl,by simp,aT _,by show 1=_;simp [Tm.nodesL],b6⟩
 case round=>
  obtain⟨i,r,rfl,rfl,hi,hex,hB⟩:=hrel;have b5:r≤m+1:=by rw [hex.out];exact Nat.min_le_right _ _
  by_cases a8:i<len
  ·obtain⟨T',a5⟩:∃T',args[i]?=some T':=⟨args[i]'(by rw [Al.out];exact a8),aL _⟩;obtain⟨b,off,vs',rfl,hbn,hc,hv⟩:=h2.get a5;have b1:=hv;have a9:Aside (∀d:Nat,r≤m→d=min T'.nodes (m-r+1)→r+d=min (1+Tm.nodesL (args.take (i+1))) (m+1)∧d≤m-r+1):=by
    show∀d:Nat,_;intro d hr hd;have h3:=hex.out;rw [yH a5];omega
   have a2:Aside (¬r≤m→m+1=min F (m+1)):=by
    show¬r≤m→_;intro hr;have h3:=hex.out;have h4:=yG args i;have h5:=b2.out;omega
   have a6:=aX a5;obtain⟨k',v',nm',g',a3,a1,a0⟩:=T';simp only [TmV] at hv;obtain⟨t1,t2,a',c',rfl,⟨⟨p1',q1',rfl,_⟩,⟨p2',q2',rfl,_⟩⟩,_⟩:=hv;have a4:∀p:Addr,p.block<n→wr.cell? p=w.cell? p:=fun p hp=>(hB.mono hn).cell hp
   rw [cG] at hc;have x0:=(a4 ⟨b,off+i*7+0,none⟩ hbn).trans (hc 0 _ rfl);have x1:=(a4 ⟨b,off+i*7+1,none⟩ hbn).trans (hc 1 _ rfl);have x2:=(a4 ⟨b,off+i*7+2,none⟩ hbn).trans (hc 2 _ rfl);have x3:=(a4 ⟨b,off+i*7+3,none⟩ hbn).trans (hc 3 _ rfl);have x4:=(a4 ⟨b,off+i*7+4,none⟩ hbn).trans (hc 4 _ rfl);have x5:=(a4 ⟨b,off+i*7+5,none⟩ hbn).trans (hc 5 _ rfl);have x6:=(a4 ⟨b,off+i*7+6,none⟩ hbn).trans (hc 6 _ rfl);rw [fP] at x0;have c1:(i:Int)<(len:Int):=by omega
   have c2:(0:Int)≤(i:Int):=by omega
   have c3:IntKind.i64.wrap ((i:Int)+1)=(i:Int)+1:=by rw [aG];omega
   have a7:Below w.heap.size w (wr.alloc (Obj.cells #[.int .i64 k',.int .i64 v',.string nm',.bool g',.slice p1' a3.length q1',.slice p2' a1.length q2',.slice a' a0.length c'] 48)):=hB.alloc hB.size _;have b4:=aside a8
   by_cases b0:r≤m
   ·have b3:¬(m:Int)<(r:Int):=by omega
    obtain⟨mr,hmr⟩:∃mr,mr=m-r:=⟨_,rfl⟩;have c4:IntKind.i64.wrap ((m:Int)-(r:Int))=(mr:Int):=by rw [aG];omega
    have d1:=ih _ a6 n (wr.alloc (Obj.cells #[.int .i64 k',.int .i64 v',.string nm',.bool g',.slice p1' a3.length q1',.slice p2' a1.length q2',.slice a' a0.length c'] 48)) _ mr (by omega) (TmV.below a7 hn _ _ b1) (aE hn a7.size);rw [hmr] at d1;replace d1:Calls Tryz.prog 152 #[.agg #[.int .i64 k',.int .i64 v',.string nm',.bool g',.slice p1' a3.length q1',.slice p2' a1.length q2',.slice a' a0.length c'],.int .i64 (m-r:Nat)] _ _:=d1;rw [←hmr] at d1 a9;have b7:∀d:Nat,d≤mr+1→IntKind.i64.wrap ((r:Int)+(d:Int))=((r+d:Nat):Int):=fun d hd=>by rw [aG];omega
    generalize a0.length=len' at*;generalize a3.length=ln1 at*;generalize a1.length=ln2 at*;clear h2 ih hc b1 a5 a4 a6 hex a8 hmr b5 a2
    go_wp2_with first|(go_at_call 152;(with_reducible refine d1.mono ?_);rintro e w3 ⟨d,rfl,hd,hb3⟩;obtain⟨c0,hd2⟩:=a9.out d b0 hd;have b8:=b7 d hd2;clear hd)
    exact⟨⟨i+1,_,by simp,rfl,by have:=b4.out;omega,rfl,a7.trans (hb3.mono a7.size)⟩,by have:=b4.out;simp [intOf];omega⟩
   ·have b3:(m:Int)<(r:Int):=by omega
    have hL:Aside (m+1=min F (m+1)):=a2.out b0;generalize a0.length=len' at*;generalize a3.length=ln1 at*;generalize a1.length=ln2 at*;clear h2 ih hc b1 a5 a4 a6 hex a8 b5 a2 a9 b0
    go_wp2_with fail
    go_ret
    exact⟨m+1,rfl,hL.out,a7⟩
  ·obtain rfl:i=len:=by omega
   have hL:Aside (r=min F (m+1)):=by
    show r=_;have h3:=hex.out;rw [←Al.out,gA] at h3;rw [h3,b2.out]
   have b3:min (r:Int) ((m:Int)+1)=(r:Int):=by omega
   clear h2 ih hex
   go_wp2_with fail
   go_ret
   exact⟨r,rfl,hL.out,hB⟩
theorem KC:∀T:Tm,SizeOk T
 | .mk k v nm g num den args=>WU k v nm g num den args fun T' a5=>KC T'
termination_by T=>SizeOf.sizeOf T
decreasing_by
 simp_wf
 have:=oE a5;omega
end Go.Proofs.YtbdpdeonapmlgaaGreatDoor
