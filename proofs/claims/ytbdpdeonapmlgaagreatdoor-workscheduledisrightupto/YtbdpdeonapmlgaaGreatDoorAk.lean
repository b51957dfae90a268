/- Lemmas; no condition. -/
import Derived.Test.YtbdpdeonapmlgaaGreatDoorAj
set_option linter.all false
set_option maxHeartbeats 8000000
set_option maxRecDepth 100000
namespace Go.Proofs.YtbdpdeonapmlgaaGreatDoor
open Go.RowKit Go.Big Go.RowsK Go.MapK
variable {D M:List (Ind × Value)} {P:List Cl} {S L:List Ind} {w:Wo} {b ba:Nat} {x y:Ind}
section
attribute [local go_sem] Heavy.uponW
def Eg (P:List Cl) (n:Nat) (w:Wo) (a:Option Addr) (len c:Nat) (hl:P.length=len) (p9:len≤300) (h:ClsV n w P a) (hF:∀C∈P,C.flt=0) (hn:n≤w.heap.size):
  Cz 122 #[.slice a len c] w (GraphP w P):=by
 have Al:=aside hl;have hA:=aside3 h hn hF;clear hl hF h hn;have r3:∀w:Wo,(Instr.makeMap 166 none).run Tryz.prog w= .ok (.map (some w.heap.size)) (w.alloc (.map #[] 0)):=fun w=>rfl
 go_enter Tryz.func122,Tryz.ntmps122
 go_upto_region 2 with fail
 obtain⟨w1,hw1⟩:=enm (((w.alloc (.cells #[.slice none 0 0,.map none] 168)).alloc (.map #[] 0)).alloc (.cells #[.slice none 0 0,.map (some (w.heap.size+1))] 168));have e8:=GSt.start hw1 P;rw [hw1];have r4:Aside (w1.heap[w.heap.size]?=some (.cells #[.slice none 0 0,.map none] 168 (0,0))):=by
  show _=_;have q:=aJ w (Obj.cells #[.slice none 0 0,.map none] 168);have b2:=aC (w.alloc (.cells #[.slice none 0 0,.map none] 168)) (.map #[] 0);have b3:=aC ((w.alloc (.cells #[.slice none 0 0,.map none] 168)).alloc (.map #[] 0)) (.cells #[.slice none 0 0,.map (some (w.heap.size+1))] 168);rw [←hw1];exact(b3.block _ (by simp;omega)).trans ((b2.block _ (by simp)).trans q)
 obtain⟨mb,hmb⟩:∃x,w.heap.size+1=x:=⟨_,rfl⟩;rw [hmb] at e8 ⊢;clear hw1 r3;obtain⟨gc,hgc⟩:∃x,mb+1=x:=⟨_,rfl⟩;rw [hgc] at e8 ⊢;obtain⟨e8,hb1,hs1⟩:=e8;have j5:=aside4 hmb hgc hs1 hb1;have h0:Aside _:=e8;clear hmb hgc hb1 hs1 e8;go_wp2
 go_loopw [17] (fun s wr=>∃(i:Nat) (v:Value) (M:List (Ind × Value)),s= .int .i64 i∧i≤len∧GSt (gc+1) mb gc w1 (.slice none 0 0) [] wr v (fE (P.take i)) M (cE (P.take i))) (fun s _=>len-(intOf s).toNat)
 case atStart=>exact⟨0,_,[],rfl,bX _,h0.o⟩
 case round=>
  clear h0;obtain⟨wo,rfl⟩:=enr wr;obtain⟨i,v,M,rfl,hi,hS⟩:=hrel
  by_cases r1:i<len
  case neg=>
   obtain rfl:i=len:=by omega
   have m6:P.take i=P:=fH (by rw [Al.o];exact aA _);rw [m6] at hS;have hM:=j5.o;have b8:=aside hS;have l5:Aside (∀w2,Bz wo w2→Cz 187 #[v,.func (.func 188) #[] #[]] w2 (SortJ (gc+1) w2 v (fE P))):=fun w2 hb=>XY (fE P) (gc+1) w2 v (b8.o.below hb (aA _)).1.row (by have:=BQ hA.o.2.2;rw [Al.o] at this;omega)
   obtain⟨x0,x1⟩:=gM hS.2.2;clear hS m6
   go_wp2_with (go_at_call 187;with_reducible refine(l5.o _ (bD _ _)).mono ?_)
   rintro e w2 ⟨rfl,L',hO2,hPm,hPw,hg2⟩;clear x0 x1;obtain⟨t1,t2,t3⟩:=b8.o.turn (by omega) (by omega) hO2 rfl hg2;have s2:GSt (gc+1) mb gc w1 (.slice none 0 0) [] w2 v L' M (cE P):=⟨t1,t2,t3⟩;have k5:=aside3 s2 hPm hPw;have k9:=Gt L' (gc+1) w2 v t1.row (by rw [hPm.length_eq];have:=BQ hA.o.2.2;rw [Al.o] at this;omega);obtain⟨x0,x1⟩:=gM t3;clear t1 t2 t3 s2 hO2 hPm hPw hg2 l5
   go_upto_region 18 with fail
   refine dZ ?_
   iterate 2 (refine bE rfl fun K hK=>?_;go_simp;refine hK _ _ ?_;clear hK)
   refine bE rfl fun K hK=>?_
   go_simp
   refine k9.mono ?_;rintro e w3 ⟨v3,rfl,hO3,hv3,hg3⟩;refine hK _ _ ?_;clear hK x0 x1 k9;obtain⟨t1,t2,t3⟩:=k5.o.1.turn (by omega) (by omega) hO3 hv3 hg3;obtain⟨w4,hr4,s4,hz4⟩:=GSt.setv t1 t2 t3 (by omega) (by omega)
   iterate 1 (refine bE rfl fun K hK=>?_;go_simp;refine hK _ _ ?_;clear hK)
   refine eR rfl 127 _ _ rfl (v:=.pointer (some ⟨gc,0,none⟩)) (u:=v3) rfl rfl hr4 ?_;obtain⟨x0,x1⟩:=gM s4.2.2;have h9:w4.heap[w.heap.size]?=some (.cells #[.slice none 0 0,.map none] 168 (0,0)):=s4.same r4.o (by omega) (by omega) (AC _);obtain⟨a5,c5,e5,_⟩:=s4.1.row.read;obtain⟨w6,hst6,hq6,hg6,hs6⟩:=fT (vs:=[v3,.map (some mb)]) h9 rfl (by rw [e5];simp [Value.oneCell']);have j2:Bz w w4:=hM.2.2.2.trans (s4.bel (fun q _=>AC q) (by omega) (by omega) (by omega));have i7:=YZ hst6;have hR:Aside (w6.heap[w.heap.size]?=some (.cells #[v3,.map (some mb)] 168 (0,0))∧GraphP w P (.returned (.agg #[v3,.map (some mb)])) w6):=by
    refine⟨hq6,v3,mb,L',M,rfl,?_,k5.o.2.1,k5.o.2.2,?_,by omega,fun k u hk=>?_,s4.1.non,?_⟩
    ·exact qA (gS s4.1.row fun g hg=>hg6.block g (cF s4.1.row g hg).2 (fun e=>by have:=(cF s4.1.row g hg).1;have:=aK e;omega)) (by omega)
    ·exact s4.1.map.of_block (hg6.block mb s4.1.map.lt (fun e=>by have:=aK e;omega))
    ·have ho:=(s4.1.val k u hk).1;exact qA (gS ho fun g hg=>hg6.block g (cF ho g hg).2 (fun e=>by have:=(cF ho g hg).1;have:=aK e;omega)) (by omega)
    ·exact j2.grown hg6 j2.size (fun k hk=>by have:=aK hk;omega)
   clear e5 hr4 hst6 hq6 hg6 hs6 h9 s4 t1 t2 t3 j2 hO3 hv3 hg3
   go_upto_region 19 with fail
   refine dZ ?_
   iterate 1 (refine bE rfl fun K hK=>?_;go_simp;refine hK _ _ ?_;clear hK)
   refine eR rfl 168 _ _ rfl (v:=.pointer (some ⟨w.heap.size,0,none⟩)) (u:=.agg #[v3,.map (some mb)]) rfl rfl i7 ?_;go_wp2;refine fQ (kU rfl _ _ w.heap.size 168 _ _ _ rfl hR.o.1 Tryz.underlying168 rfl (by kernel_rfl)) rfl ?_;exact hR.o.2
  obtain⟨C,hC⟩:=egf Al.o r1;obtain⟨m1,m2,m3,m4⟩:=j5.o;have hB:Bz w wo:=m4.trans (hS.bel (fun q _=>AC q) (by omega) (by omega) (by omega));obtain⟨g,off,vh,vb,rfl,hg,hc,hvh,hvb⟩:=hA.o.1.read hC;have i9:=hA.o.2.2 C (aV hC);have j8:=lN (sL i9).2.1;have c8:=CM i9;have e7:=Ek hC;have e6:=fun k=>Gg hC k
  have a6:Aside (∀w2,Bz w w2→Cz 59 #[.agg vb.toArray] w2 (LitsP n w2 C.b)):=fun w2 hb=>wP C.b n w2 vb j8.2 j8.1 (TmV.below hb hA.o.2.1 _ _ hvb) (aD hA.o.2.1 hb.size)
  obtain⟨th,tb,vars⟩:=C;unfold Cl.atoms at e7 e6;dsimp only at hc hvh hvb a6 c8 e7 e6;obtain⟨k1,v1,nm1,g1,num1,den1,c7⟩:=th;obtain⟨LT,hLT⟩:=enm tb.lits;obtain⟨LB,hLB⟩:∃b,tb.litsB=b:=⟨_,rfl⟩;unfold LitsP at a6;rw [hLT] at c8 e7;rw [hLT,hLB] at a6;rw [hLT] at e6;obtain⟨k2,v2',nm2,g2,num2,den2,args2⟩:=tb;simp only [TmV] at hvh hvb;obtain⟨_,_,a1,c1,rfl,⟨⟨p1,q1,rfl,_⟩,⟨p2,q2,rfl,_⟩⟩,_⟩:=hvh;obtain⟨_,_,a2,c2,rfl,⟨⟨p3,q3,rfl,_⟩,⟨p4,q4,rfl,_⟩⟩,_⟩:=hvb;have l9:(Tm.ind (.mk k1 v1 nm1 g1 num1 den1 c7))=(nm1,(c7.length:Int)):=rfl;rw [l9] at e7 e6;clear l9 hLT hLB j8 i9;generalize c7.length=l1,num1.length=n1,den1.length=n2,args2.length=l2,num2.length=n3,den2.length=n4 at*;have m9:Aside (∀w2,Bz w w2→_):=fun(w2:Wo) (hb:Bz w w2)=>BW (hc.below hb (aR hg hA.o.2.1))
  have d3:=aside3 e7 e6 c8;obtain⟨r8,hi3,hw3⟩:=elt (i:=i) (n:=len) (by omega) (by omega);have l0:Aside (∀w2,Cz 26 #[.agg (tA k1 v1 nm1 g1 p1 n1 q1 p2 n2 q2 a1 l1 c1)] w2 fun e w'=>e= .returned (.agg #[.string nm1,.int .i64 l1])∧Bz w2 w'):=fun w2=>oR k1 v1 nm1 g1 _ _ _ _ _ w2
  have e3:Aside ((fE (P.take i)).length≤3000300∧∀k,(cE (P.take i) k).length≤3000000):=by
   have m5:∀C∈P.take i,C.flt=0:=fun C hC=>hA.o.2.2 C (jS hC)
   have e1:=BQ m5;have e2:(P.take i).length≤300:=by rw [aX];omega
   exact⟨by omega,fun k=>by have:=GQ m5 k;omega⟩
  replace a6:Aside (∀w2,Bz w w2→Cz 59 #[.agg (tA k2 v2' nm2 g2 p3 n3 q3 p4 n4 q4 a2 l2 c2)] w2 fun e w'=>∃v,e= .returned (.tuple #[v,.bool LB])∧OutT n w2.heap.size w' v LT∧Bz w2 w'):=a6;have b8:=aside2 hS hB;clear hc hC e7 e6 c8 hS m1 m2 m3 m4 hB;obtain⟨x0,x1,x2,x3,x4,x5,x6,x7,x8,x9,x10,x11,x12,x13,x14⟩:=m9.o wo b8.o.2;obtain⟨wa,hwa,b0,hq,hsz⟩:=ebx wo (bC k1 v1 nm1 g1 p1 n1 q1 p2 n2 q2 a1 l1 c1 k2 v2' nm2 g2 p3 n3 q3 p4 n4 q4 a2 l2 c2 vars)
  go_upto_region 5 with fail
  clear x0 x1 x2 x3 x4 x5 x6 x7 x8 x9 x10 x11 x12 x13 x14 hwa;have s1:GSt (gc+1) mb gc w1 (.slice none 0 0) [] wa v (fE (P.take i)) M (cE (P.take i)):=b8.o.1.below b0 (aA _);have o4:=aside s1;have fa:Aside (∀w2,Bz wa w2→w2.heap[wo.heap.size]?=some (.cells (tC k1 v1 nm1 g1 p1 n1 q1 p2 n2 q2 a1 l1 c1 k2 v2' nm2 g2 p3 n3 q3 p4 n4 q4 a2 l2 c2 vars) 50)):=fun w2 hb=>(hb.block wo.heap.size (by omega)).trans hq
  have o9:Aside (Bz w wa∧Bz wo wa):=⟨b8.o.2.trans (b0.mono b8.o.2.size),b0⟩;obtain⟨x0,x1,x2,x3,x4,x5,x6,x7,x8,x9,x10,x11,x12,x13,x14⟩:=pI hq;have d1:=aside hsz;clear b0 hq s1 hsz
  go_wp2_with (go_at_call 26;with_reducible refine(l0.o _).mono ?_)
  rintro e w2 ⟨rfl,hb2⟩;clear x0 x1 x2 x3 x4 x5 x6 x7 x8 x9 x10 x11 x12 x13 x14
  go_upto_region 6 with fail
  obtain⟨w3,hw3'⟩:=enm (w2.alloc (Obj.cells #[.string nm1,.int .i64 l1] 63));have b3:=aC w2 (Obj.cells #[.string nm1,.int .i64 l1] 63);have i6:=aJ w2 (Obj.cells #[.string nm1,.int .i64 l1] 63);rw [hw3'] at b3 i6 ⊢;clear hw3';have s3:=o4.o.below hb2 (aA _)|>.below b3 (aA _);obtain⟨x0,x1⟩:=gM i6;obtain⟨x2,x3⟩:=gM s3.2.2;have hM:=j5.o;have m7:=s3.own (.cells #[.string nm1,.int .i64 l1] 63);have r0:=e3.o.1;have g6:=aJ w3 (Obj.cells #[.string nm1,.int .i64 l1] 63);have d2:Aside (GSt (gc+1) mb gc w1 (.slice none 0 0) [] w3 v (fE (P.take i)) M (cE (P.take i))∧OffG v M wo.heap.size∧OffG v M w2.heap.size):=⟨s3,b8.o.1.off (aA _),b8.o.1.off (by have:=d1.o;have:=hb2.size;omega)⟩;have b1:=aside3 hb2 b3 i6;clear s3 hb2 b3 i6;refine dZ ?_
  iterate 4 (refine bE rfl fun K hK=>?_;go_simp;refine hK _ _ ?_;clear hK)
  refine jK sM _ rfl _ _ rfl (gc+1) v _ _ rfl m7 (.slice (some ⟨w3.heap.size,0,none⟩) 1 1) 1 [.string nm1,.int .i64 l1] rfl (.inr ⟨_,_,rfl,fun j u hj=>by rw [jI,bT];simp only [World.cell?,g6];simpa using hj⟩) rfl (by simp [Value.oneCell']) (by unfold maxLen;omega) (by omega) (by rw [cB];have:=d2.o.1.2.1.size;omega) ?_;intro v5 w5 h5 o0 o1;obtain⟨w6,i7,s6,hz6⟩:=d2.o.1.re.push (by omega) (by omega) (by omega) (by have:=d2.o.1.2.1.size;omega) h5 o0 o1;have i1:=aside s6;have o6:=s6.same (fa.o w3 (b1.o.1.trans (b1.o.2.1.mono b1.o.1.size))|>.trans rfl) (by have:=b8.o.1.2.1.size;omega) (by have:=b8.o.1.2.1.size;omega) d2.o.2.1;have o8:=s6.same (b1.o.2.2) (by have:=b8.o.1.2.1.size;have:=d1.o;have:=b1.o.1.size;omega) (by have:=b8.o.1.2.1.size;have:=d1.o;have:=b1.o.1.size;omega) d2.o.2.2;have b6:Bz w w6:=hM.2.2.2.trans ((d2.o.1.trans s6).bel (fun q _=>AC q) (by omega) (by omega) (by omega));have b9:=aside2 o8 b6;have o3:Aside (OffG v5 M w2.heap.size):=s6.2.1.off _ (aG.1 b1.o.2.2).1 d2.o.2.2;obtain⟨x0,x1,x2,x3,x4,x5,x6,x7,x8,x9,x10,x11,x12,x13,x14⟩:=pI o6;clear h5 o0 o1 s6 hz6 o6 o8 b6 g6 m7
  iterate 1 (refine bE rfl fun K hK=>?_;go_simp;refine hK _ _ ?_;clear hK)
  refine eR rfl 127 _ _ rfl (v:=.pointer (some ⟨gc,0,none⟩)) (u:=v5) rfl rfl i7 ?_;clear i7
  go_wp2_with (go_at_call 59;with_reducible refine(a6.o _ b9.o.2).mono ?_)
  rintro e w7 ⟨v9,rfl,hO9,hb7⟩;obtain⟨a9,c9,rfl,hr9⟩:=hO9.read2;obtain⟨n9,hn9⟩:∃x,LT.length=x:=⟨_,rfl⟩;rw [hn9];have s7:GSt (gc+1) mb gc w7 v5 M w7 v5 (fE (P.take i)++ [(nm1,(l1:Int))]) M (iR P i (nm1,(l1:Int)) []):=(i1.o.below hb7 (aA _)).re.congr fun k=>(Gf P i _ k).symm
  have o7:GSt (gc+1) mb gc w1 (.slice none 0 0) [] w7 v5 (fE (P.take i)++ [(nm1,(l1:Int))]) M (cE (P.take i)):=d2.o.1.trans (i1.o.below hb7 (aA _));have j0:w2.heap.size≠mb∧w2.heap.size≠gc∧w2.heap.size<w7.heap.size:=by
   have q1:=b8.o.1.2.1.size;have q2:=d1.o;have q3:=b1.o.1.size;have q4:=(aG.1 b9.o.1).1;have q5:=hb7.size;omega
  have f7:Aside (w7.heap[w2.heap.size]?=some (.cells #[.string nm1,.int .i64 l1] 63)∧OffG v5 M w2.heap.size∧w2.heap.size≠mb∧w2.heap.size≠gc∧Bz w w7∧LT.length=n9):=⟨(hb7.block _ (aG.1 b9.o.1).1).trans b9.o.1,o3.o,j0.1,j0.2.1,b9.o.2.trans (hb7.mono b9.o.2.size),hn9⟩;have r7:Aside (∀(k:Nat) T,LT[k]?=some T→∃g vs,a9=some ⟨g,0,none⟩∧OffG v5 M g∧g≠mb∧g≠gc∧g<w7.heap.size∧TmV n w7 T vs∧∀(j:Nat) u,vs[j]?=some u→w7.cell? ⟨g,k*7+j,none⟩=some u):=fun k T hk=>by
   obtain⟨g,vs,q1,q2,q3,q4,q5⟩:=hr9 k T hk;have q6:=(d2.o.1.trans i1.o).2.1.size;exact⟨g,vs,q1,i1.o.off q2,by omega,by omega,q3,q4,q5⟩
  have k6:=aside2 s7 o7;have a7:Aside (w.heap.size+1=mb∧mb+1=gc∧w1.heap.size=gc+1):=⟨hM.1,hM.2.1,hM.2.2.1⟩;clear s7 o7 j0 hr9 hO9 hb7 hn9 b9 o3 i1 b1 d2 fa o9 d1 b8 o4 l0 a6 m9 r0 hM;go_wp2
  go_loopw [38] (fun s wr=>∃(k:Nat) (vr:Value) (Mr:List (Ind × Value)),s= .int .i64 k∧k≤n9∧GSt (gc+1) mb gc w7 v5 M wr vr (fE (P.take i)++((nm1,(l1:Int))::(LT.take k).filterMap Tm.atomI)) Mr (iR P i (nm1,(l1:Int)) ((LT.take k).filterMap Tm.atomI))) (fun s _=>n9-(intOf s).toNat)
  case atStart=>exact⟨0,v5,M,rfl,bX _,k6.o.1⟩
  case round=>
   obtain⟨wp,rfl⟩:=enr wr;obtain⟨k,vr,Mr,rfl,hk,hI⟩:=hrel
   by_cases q9:k<n9
   case neg=>
    obtain rfl:k=n9:=by omega
    have hN:Aside (GSt (gc+1) mb gc w1 (.slice none 0 0) [] wp vr (fE (P.take (i+1))) Mr (cE (P.take (i+1)))):=by
     have h1:=(k6.o.2.trans hI).congr (D':=cE (P.take (i+1))) fun q=>by rw [←d3.o.2.1 q,fH (by rw [f7.o.2.2.2.2.2];exact aA _)]
     have h2:LT.take k=LT:=fH (by rw [f7.o.2.2.2.2.2];exact aA _);rw [h2,←d3.o.1] at h1;exact h1
    clear hI;go_wp2;go_roundw
    case rel=>exact⟨i+1,vr,Mr,by simp,by omega,hN.o⟩
    case measure=>simp [intOf];omega
   obtain⟨T,hT⟩:=egf f7.o.2.2.2.2.2 q9;obtain⟨g9,vs,rfl,q1,q2,q3,q4,hTV,hcT⟩:=r7.o k T hT;have c8:=Iz hT;have m8:Below n w7 wp:=hI.bel (fun q hq=>k6.o.1.low (by have:=a7.o;have:=hA.o.2.1;omega)) (by have:=a7.o;have:=hA.o.2.1;omega) (by have:=a7.o;have:=hA.o.2.1;omega) (by have:=f7.o.2.2.2.2.1.size;have:=hA.o.2.1;omega);have c0:Aside (∀w2,Below n w7 w2→Cz 186 #[.agg vs.toArray] w2 (AtomP n w2 T)):=fun w2 hb=>Ja T n w2 vs (TmV.below hb (aA _) _ _ hTV) (by have:=f7.o.2.2.2.2.1.size;have:=hA.o.2.1;have:=hb.size;omega)
   have n0:∀(j:Nat) u,vs[j]?=some u→wp.cell? ⟨g9,k*7+j,none⟩=some u:=fun j u hj=>(IM (w:=w7) (a:=⟨g9,k*7+j,none⟩) (hI.2.1.blk g9 q4 q2 q3 q1)).trans (hcT j u hj)
   obtain⟨k3,v3,nm3,g3,num3,den3,d5⟩:=T;simp only [TmV] at hTV;obtain⟨_,_,a3,c3,rfl,⟨⟨p5,q5,rfl,_⟩,⟨p6,q6,rfl,_⟩⟩,_⟩:=hTV;obtain⟨TT,hTT⟩:∃x,Tm.mk k3 v3 nm3 g3 num3 den3 d5=x:=⟨_,rfl⟩;rw [hTT] at c0 c8;generalize d5.length=l3,num3.length=n5,den3.length=n6 at*;replace c0:Aside (∀w2,Below n w7 w2→Cz 186 #[.agg (tA k3 v3 nm3 g3 p5 n5 q5 p6 n6 q6 a3 l3 c3)] w2 (AtomP n w2 TT)):=c0;have f4:=aside3 hI m8 c8;have r9:(k:Int)<(n9:Int):=by omega
   have s0:(0:Int)≤(k:Int):=by omega
   have s5:IntKind.i64.wrap ((k:Int)+1)=(k:Int)+1:=by rw [dX];have:=d3.o.2.2;have:=f7.o.2.2.2.2.2;omega
   obtain⟨x0,x1,x2,x3,x4,x5,x6⟩:=kM (w2:=wp) (fun p hp=>rfl) n0;have p0:Aside (∃k v nm g num den args,TT=Tm.mk k v nm g num den args):=⟨_,_,_,_,_,_,_,hTT.symm⟩;clear hI c8 n0 hcT q1 q2 q3 q4 m8 hTT hT
   go_upto_region 11 with fail
   clear x0 x1 x2 x3 x4 x5 x6;obtain⟨wq,hwq⟩:=enm (wp.alloc (bA k3 v3 nm3 g3 p5 n5 q5 p6 n6 q6 a3 l3 c3));have bq:=aC wp (bA k3 v3 nm3 g3 p5 n5 q5 p6 n6 q6 a3 l3 c3);have j7:=aJ wp (bA k3 v3 nm3 g3 p5 n5 q5 p6 n6 q6 a3 l3 c3);rw [hwq] at bq j7 ⊢;clear hwq;obtain⟨x0,x1,x2,x3,x4,x5,x6⟩:=bZ j7;have o5:Aside (GSt (gc+1) mb gc w7 v5 M wq vr (fE (P.take i)++((nm1,(l1:Int))::(LT.take k).filterMap Tm.atomI)) Mr (iR P i (nm1,(l1:Int)) ((LT.take k).filterMap Tm.atomI))∧Below n w7 wq):=⟨f4.o.1.below bq (aA _),f4.o.2.1.trans (bq.mono (by have:=f4.o.2.1.size;have:=f7.o.2.2.2.2.1.size;have:=hA.o.2.1;omega))⟩;clear bq j7
   go_wp2_with (go_at_call 186;with_reducible refine(c0.o _ o5.o.2).mono ?_)
   rintro e w8 ⟨us,b,rfl,hf,ht,hb8⟩;clear x0 x1 x2 x3 x4 x5 x6;have e9:Aside (GSt (gc+1) mb gc w7 v5 M w8 vr (fE (P.take i)++((nm1,(l1:Int))::(LT.take k).filterMap Tm.atomI)) Mr (iR P i (nm1,(l1:Int)) ((LT.take k).filterMap Tm.atomI))):=o5.o.1.below hb8 (aA _);cases b
   case false=>
    obtain⟨f1,f2,rfl⟩:=hf rfl;have hN:Aside (∀o,GSt (gc+1) mb gc w7 v5 M (w8.alloc o) vr (fE (P.take i)++((nm1,(l1:Int))::(LT.take (k+1)).filterMap Tm.atomI)) Mr (iR P i (nm1,(l1:Int)) ((LT.take (k+1)).filterMap Tm.atomI))):=fun o=>by
     rw [f4.o.2.2,Jc f1 f2];simp only [Option.toList_none,pS];exact e9.o.below (aC w8 o) (aA _)
    clear hf ht f1 f2 hb8;simp only [zTL];go_wp2;go_roundw
    case rel=>exact⟨k+1,vr,Mr,by simp,by omega,hN.o _⟩
    case measure=>simp [intOf];omega
   obtain⟨A,hA1,hTV⟩:=ht rfl;obtain⟨k4,v4,b4,g4,num4,den4,d6⟩:=A;simp only [TmV] at hTV;obtain⟨_,_,a4,c4,rfl,⟨⟨p7,q7,rfl,_⟩,⟨p8,q8,rfl,_⟩⟩,_⟩:=hTV;have c8:(LT.take (k+1)).filterMap Tm.atomI=(LT.take k).filterMap Tm.atomI++ [(b4,(d6.length:Int))]:=by
    rw [f4.o.2.2,Jb hA1];rfl
   clear hA1 hf ht;generalize d6.length=l4,num4.length=n7,den4.length=n8 at*;have j1:=aside c8;clear c8
   go_upto_region 13 with fail
   obtain⟨wy,hwy⟩:=enm (w8.alloc (bA k4 v4 b4 g4 p7 n7 q7 p8 n8 q8 a4 l4 c4));have i2:=aC w8 (bA k4 v4 b4 g4 p7 n7 q7 p8 n8 q8 a4 l4 c4);have g7:=aJ w8 (bA k4 v4 b4 g4 p7 n7 q7 p8 n8 q8 a4 l4 c4);rw [hwy] at i2 g7 ⊢;clear hwy;have i8:GSt (gc+1) mb gc w7 v5 M wy vr (fE (P.take i)++((nm1,(l1:Int))::(LT.take k).filterMap Tm.atomI)) Mr (iR P i (nm1,(l1:Int)) ((LT.take k).filterMap Tm.atomI)):=e9.o.below i2 (aA _);have q0:gc<w8.heap.size:=(aG.1 e9.o.2.2).1;have r2:mb<w8.heap.size:=e9.o.1.map.lt;have e4:Aside (wy.heap[w8.heap.size]?=some (.cells (tA k4 v4 b4 g4 p7 n7 q7 p8 n8 q8 a4 l4 c4) 48)∧OffG vr Mr w8.heap.size∧w8.heap.size≠mb∧w8.heap.size≠gc):=⟨g7,e9.o.off (aA _),by omega,by omega⟩;have y6:Aside (wy.heap[w2.heap.size]?=some (.cells #[.string nm1,.int .i64 l1] 63)∧OffG vr Mr w2.heap.size∧w2.heap.size≠mb∧w2.heap.size≠gc):=⟨i8.same f7.o.1 f7.o.2.2.1 f7.o.2.2.2.1 f7.o.2.1,i8.2.1.off _ (aG.1 f7.o.1).1 f7.o.2.1,f7.o.2.2.1,f7.o.2.2.2.1⟩;have k7:=aside i8;have g0:Aside (∀w2,Bz wy w2→w2.cell? ⟨gc,0,none⟩=some vr∧w2.cell? ⟨gc,1,none⟩=some (.map (some mb))):=fun w2 hb=>gM ((hb.block gc (by have:=i2.size;omega)).trans k7.o.2.2)
   have d9:Aside (∀w2,Bz wy w2→_):=fun(w2:Wo) (hb:Bz wy w2)=>bZ ((hb.block w8.heap.size (aG.1 g7).1).trans g7)
   have h3:(fE (P.take i)++((nm1,(l1:Int))::(LT.take k).filterMap Tm.atomI)).length≤3010301∧(iR P i (nm1,(l1:Int)) ((LT.take k).filterMap Tm.atomI) (nm1,(l1:Int))).length≤3010000∧gc+1≤wy.heap.size:=by
    have q1:=e3.o.1;have q2:=e3.o.2 (nm1,(l1:Int));have q3:=d3.o.2.2;have q4:((LT.take k).filterMap Tm.atomI).length≤(LT.take k).length:=JG _ _;have q5:(LT.take k).length≤LT.length:=by rw [aX];omega
    refine⟨?_,?_,?_⟩
    ·rw [aI,eW];omega
    ·simp only [iR,if_true,aI];omega
    ·have:=i2.size;omega
   have a8:Aside _:=h3;have i5:Aside (3010301+1≤maxLen∧(3010301+1)*24≤140737488355328):=by show _∧_;unfold maxLen;omega
   have d8:∀u∈([.string b4,.int .i64 l4]:Lv),u.oneCell'=true:=by simp [Value.oneCell']
   have f3:Aside (∀w2,Cz 26 #[.agg (tA k4 v4 b4 g4 p7 n7 q7 p8 n8 q8 a4 l4 c4)] w2 fun e w'=>e= .returned (.agg #[.string b4,.int .i64 l4])∧Bz w2 w'):=fun w2=>oR k4 v4 b4 g4 _ _ _ _ _ w2
   clear g7 i8 q0 r2 h3 e9;have fd:Bz wy wy.drew:=dO _ _;refine hRp (Bz wy) 5 (Heavy.lights [0,1,2] (.one 3 (.one 4 .done))) (by kernel_rfl) (by kernel_rfl) fd ?_;simp only [Heavy.lights,bL,bY,aZ,bG]
   (apply hLm;(exact rfl);(exact rfl);(intro c6 hw;go_simp;exact rfl);(go_simp;exact rfl))
   (apply hLm;(exact rfl);(exact rfl);(intro c6 hw;have z0:=(g0.o c6 hw).1;go_simp;exact rfl);(go_simp;exact rfl))
   (apply hLm;(exact rfl);(exact rfl);(intro c6 hw;obtain⟨x0,x1,x2,x3,x4,x5,x6⟩:=d9.o c6 hw;go_simp;exact rfl);(go_simp;exact rfl))
   (apply hOn;(exact rfl);(exact rfl));go_simp
   refine(f3.o _).mono ?_;rintro e w9 ⟨rfl,hb9⟩;have f9:Bz wy w9:=fd.trans (hb9.mono fd.size);refine⟨_,rfl,f9,?_⟩
   (refine hNa (by go_simp;exact rfl) ?_)
   (apply hOn;(exact rfl);(exact rfl));go_simp
   have l6:Bz wy (w9.alloc (.cells #[.string b4,.int .i64 l4] 63)):=f9.alloc f9.size _;refine⟨l6,?_⟩
   (refine hNa (by go_simp;exact rfl) ?_)
   apply hPe;show wpList _ _ _ _ _ _;have s9:=k7.o.re.below f9 (aA _);have g5:=s9.own (.cells #[.string b4,.int .i64 l4] 63);refine jK sM _ rfl _ _ rfl (gc+1) vr _ _ rfl g5 (.slice (some ⟨w9.heap.size,0,none⟩) 1 1) 1 [.string b4,.int .i64 l4] rfl (AB rfl) rfl d8 (by have:=i5.o;have:=a8.o.1;omega) (by have:=i5.o;have:=a8.o.1;omega) (by rw [cB];have:=f9.size;have:=a8.o.2.2;omega) ?_;intro f0 s8 l7 f8 h4;obtain⟨b5,hr13,s13,hz13⟩:=s9.push (by have:=a7.o;omega) (by omega) (by have:=a7.o;omega) (by have:=f9.size;have:=a8.o.2.2;omega) l7 f8 h4;have d4:=aside s13;have j9:Aside (b5.heap[w8.heap.size]?=some (.cells (tA k4 v4 b4 g4 p7 n7 q7 p8 n8 q8 a4 l4 c4) 48)∧OffG f0 Mr w8.heap.size):=⟨s13.same e4.o.1 e4.o.2.2.1 e4.o.2.2.2 e4.o.2.1,s13.2.1.off _ (aG.1 e4.o.1).1 e4.o.2.1⟩;have p6:Aside (b5.heap[w2.heap.size]?=some (.cells #[.string nm1,.int .i64 l1] 63)∧OffG f0 Mr w2.heap.size):=⟨s13.same y6.o.1 y6.o.2.2.1 y6.o.2.2.2 y6.o.2.1,s13.2.1.off _ (aG.1 y6.o.1).1 y6.o.2.1⟩;clear l7 f8 h4 s13 hz13 s9 g5 l6 f9 hb9 fd g0 d9
   iterate 1 (refine bE rfl fun K hK=>?_;go_simp;refine hK _ _ ?_;clear hK)
   refine eR rfl 127 _ _ rfl (v:=.pointer (some ⟨gc,0,none⟩)) (u:=f0) rfl rfl hr13 ?_;clear hr13
   go_upto_region 14 with fail
   have j3:Aside (∀wz:Wo,wz.heap[gc]?=b5.heap[gc]?→wz.cell? ⟨gc,0,none⟩=some f0∧wz.cell? ⟨gc,1,none⟩=some (.map (some mb))):=fun wz hb=>gM (hb.trans d4.o.2.2)
   have f5:Aside (∀wz:Wo,wz.heap[w8.heap.size]?=b5.heap[w8.heap.size]?→_):=fun(wz:Wo) (hb:wz.heap[w8.heap.size]?=b5.heap[w8.heap.size]?)=>bZ (hb.trans j9.o.1)
   have f6:Aside (∀wz:Wo,wz.heap[w2.heap.size]?=b5.heap[w2.heap.size]?→wz.cell? ⟨w2.heap.size,0,none⟩=some (.string nm1)∧wz.cell? ⟨w2.heap.size,1,none⟩=some (.int .i64 l1)):=fun wz hb=>gM (hb.trans p6.o.1)
   have o2:gc<b5.heap.size∧w8.heap.size<b5.heap.size∧w2.heap.size<b5.heap.size:=⟨(aG.1 d4.o.2.2).1,(aG.1 j9.o.1).1,(aG.1 p6.o.1).1⟩;have b7:Aside _:=o2;have bC:Aside (∀wz,Bz b5 wz→C14 gc w8.heap.size w2.heap.size b5 wz):=fun wz hb=>⟨hb.block _ b7.o.1,hb.block _ b7.o.2.1,hb.block _ b7.o.2.2⟩
   clear o2;have fd:Bz b5 b5.drew:=dO _ _;refine hRp (fun w'=>C14 gc w8.heap.size w2.heap.size b5 w') 10 (Heavy.lights [0,1,2,3] (.one 4 (.one 5 (.one 6 (Heavy.lights [7,9] (.one 8 .done)))))) (by kernel_rfl) (by kernel_rfl) (bC.o _ fd) ?_;simp only [Heavy.lights,bL,bY,aZ,bG]
   (apply hLm;(exact rfl);(exact rfl);(intro c6 hw;go_simp;exact rfl);(go_simp;exact rfl))
   (apply hLm;(exact rfl);(exact rfl);(intro c6 hw;have z0:=(j3.o c6 hw.1).2;go_simp;exact rfl);(go_simp;exact rfl))
   (apply hLm;(exact rfl);(exact rfl);(intro c6 hw;have z0:=(f6.o c6 hw.2.2).1;have z1:=(f6.o c6 hw.2.2).2;go_simp;exact rfl);(go_simp;exact rfl))
   (apply hLm;(exact rfl);(exact rfl);(intro c6 hw;obtain⟨x0,x1,x2,x3,x4,x5,x6⟩:=f5.o c6 hw.2.1;go_simp;exact rfl);(go_simp;exact rfl))
   (apply hOn;(exact rfl);(exact rfl));go_simp
   refine(f3.o _).mono ?_;rintro e e0 ⟨rfl,hb14⟩;have i4:Bz b5 e0:=fd.trans (hb14.mono fd.size);refine⟨_,rfl,(bC.o _ i4),?_⟩
   (refine hNa (by go_simp;exact rfl) ?_)
   (apply hOn;(exact rfl);(exact rfl));go_simp
   have d7:Bz b5 (e0.alloc (.cells #[.string b4,.int .i64 l4] 63)):=i4.alloc i4.size _;refine⟨bC.o _ d7,?_⟩
   (refine hNa (by go_simp;exact rfl) ?_)
   obtain⟨wb,hwb⟩:=enm (e0.alloc (.cells #[.string b4,.int .i64 l4] 63));have j6:=aJ e0 (Obj.cells #[.string b4,.int .i64 l4] 63);have h8:wb.heap.size=e0.heap.size+1:=by rw [←hwb,cB]
   have h7:=aside2 hwb h8;rw [hwb] at d7 j6 ⊢;clear hwb h8;have k0:=d4.o.re.below d7 (aA _);obtain⟨u,st,wc,hu,j4,hgc',hsc,hstp,huo⟩:=k0.entry (by have:=a7.o;omega) (nm1,(l1:Int));have i3:C14 gc w8.heap.size w2.heap.size b5 wc:=by
    have q:=bC.o _ d7;have l:=b7.o;have l2:=d7.size;refine⟨(hgc'.block _ (by omega) (fun e=>?_)).trans q.1,(hgc'.block _ (by omega) (fun e=>?_)).trans q.2.1,(hgc'.block _ (by omega) (fun e=>?_)).trans q.2.2⟩
    ·have:=aK e;have:=a7.o;omega
    ·exact e4.o.2.2.1 (aK e)
    ·exact y6.o.2.2.1 (aK e)
   replace j4:(Instr.mapEntry 166 (.map (some mb)) (.agg #[.string nm1,.int .i64 l1])).run Tryz.prog wb= .ok (.tuple #[u,.int .i64 ((st:Nat):Int)]) wc:=j4;have a0:=aside5 hu hgc' hsc hstp huo;have i0:=aside k0;clear hu hgc' hsc hstp huo k0
   (apply hOn;(exact rfl);(exact rfl));go_simp
   (refine hNa (by go_simp;exact rfl) ?_)
   clear j4
   iterate 2 ((apply hLm;(exact rfl);(exact rfl);(intro c6 hw;go_simp;exact rfl);(go_simp;exact rfl)))
   have g8:SrcAt wc (.slice (some ⟨e0.heap.size,0,none⟩) 1 1) 1 [.string b4,.int .i64 l4]:=AB (by
    have e:=a0.o.2.1.block e0.heap.size (by have:=h7.o.2;omega) (fun e=>by have:=aK e;have:=i4.size;have:=b7.o.1;have:=a7.o;omega);rw [e,←h7.o.1])
   refine Heavy.one_app sM rfl rfl _ _ rfl (gc+1) u _ _ rfl a0.o.2.2.2.2 (.slice (some ⟨e0.heap.size,0,none⟩) 1 1) 1 _ rfl g8 rfl d8 (by have:=i5.o;have:=a8.o.2.1;omega) (by have:=i5.o;have:=a8.o.2.1;omega) (by have:=a0.o.2.2.1;have:=d7.size;have:=b7.o.1;omega) ?_;intro r5 r6 l8 d0 h6;have k8:C14 gc w8.heap.size w2.heap.size b5 r6:=by
    have l:=b7.o;have l2:=d7.size;have l3:=a0.o.2.2.1;refine⟨(d0.block _ (by omega) (fun e=>?_)).trans i3.1,(d0.block _ (by omega) (fun e=>j9.o.2.ent a0.o.1 e.symm)).trans i3.2.1,(d0.block _ (by omega) (fun e=>p6.o.2.ent a0.o.1 e.symm)).trans i3.2.2⟩;have:=(cF a0.o.2.2.2.2 gc e.symm).1;omega
   refine⟨k8,?_⟩
   (refine hNa (by go_simp;exact rfl) ?_)
   apply hPe;show wpList _ _ _ _ _ _;obtain⟨we,hes,s18,_⟩:=i0.o.finish (by have:=a7.o;omega) (by omega) (by have:=a7.o;omega) (by have:=d7.size;have:=b7.o.1;omega) a0.o.1 a0.o.2.1 a0.o.2.2.1 a0.o.2.2.2.1 a0.o.2.2.2.2 l8 d0 h6;have hN:Aside (GSt (gc+1) mb gc w7 v5 M we f0 (fE (P.take i)++((nm1,(l1:Int))::(LT.take (k+1)).filterMap Tm.atomI)) (putM (nm1,(l1:Int)) r5 Mr) (iR P i (nm1,(l1:Int)) ((LT.take (k+1)).filterMap Tm.atomI))):=by
    have h1:=(k7.o.trans (d4.o.trans s18)).congr fun q=>Ge P i (nm1,(l1:Int)) ((LT.take k).filterMap Tm.atomI) (b4,(l4:Int)) q
    rw [j1.o];rw [fJ,mW] at h1;exact h1
   clear l8 d0 h6 k8 i3 s18 a0 i0 g8;go_wp2;go_roundw
   case rel=>exact⟨k+1,f0,_,by simp,by omega,hN.o⟩
   case measure=>simp [intOf];omega
end
def GU (ba:Nat) (w:Wo) (b:Nat) (M:List (Ind × Value)) (P:List Cl):Prop:=
 aQ aO w b M∧(∀k u,aL k M=some u→aF ba w u (cE P k))∧(∀k,aL k M=none→cE P k= [])
def GU.below {m:Nat} {w':Wo} (h:GU ba w b M P) (hb:Below m w w') (hm:w.heap.size≤m):GU ba w' b M P:=
 ⟨h.1.of_block (hb.block b (aR h.1.lt hm)),fun k u hk=>(h.2.1 k u hk).below hb hm,h.2.2⟩
def GU.row (h:GU ba w b M P) (k:Ind):aF ba w ((aL k M).getD (.slice none 0 0)) (cE P k):=by
 cases hk:aL k M with
 |none=>rw [h.2.2 k hk];exact aF.nil _ _
 |some u=>exact h.2.1 k u hk
def GU.look (h:GU ba w b M P) (x:ByteArray) (m:Int):(Instr.lookup 166 (.map (some b)) (.agg #[.string x,.int .i64 m]) false).run Tryz.prog w= .ok ((aL (x,m) M).getD (.slice none 0 0)) w:=
 sF kJ u166 z127 h.1 (x,m)
def aF.cut {base:Nat} {g n cap:Nat} (h:aF base w (.slice (Option.some ⟨g,0,none⟩) n cap) L) (hn:L.length=n) {k:Nat} (hk:k≤n):aF base w (.slice (Option.some ⟨g,0,none⟩) k cap) (L.take k):=by
 unfold aF at h;rw [hn] at h;obtain⟨a2,⟨e,_⟩|⟨g',cap',cur,e,hb,hg,hnc,hm,hs,ht⟩⟩:=h
 ·cases e
 cases e;have a1:(L.take k).length=k:=by rw [aX,hn];omega
 unfold aF;rw [a1];refine⟨by rw [flat_len,a1],.inr ⟨g,cap,cur,rfl,hb,hg,by omega,hm,hs,?_⟩⟩;rw [flat_take,←ht,yP,oE (by omega)]
def RU (P:List Cl):∀(K:List Ind),K.Nodup→(K.map fun k=>(cE P k).length).sum≤(tD P).length:=by
 induction P with
 | nil=>
  intro K _;have:∀K:List Ind,(K.map fun k=>(cE [] k).length).sum=0:=by
   intro K
   induction K with
   |nil=>rfl
   |cons a r ih=>rw [fS,JA,ih];rfl
  rw [this];exact bX _
 | cons C r ih=>
  intro K hK;have h1:=ih K hK;have h2:(K.map fun k=>(lP k C).length).sum≤C.atoms.length:=by
   clear h1 ih
   induction K with
   |nil=>simp
   | cons a K ihK=>
    have a0:=VR.1 hK;simp only [fS,JA]
    by_cases e:C.h.ind=a
    ·have hz:∀K:List Ind,a∉K→(K.map fun k=>(lP k C).length).sum=0:=by
      intro K
      induction K with
      |nil=>simp
      |cons c K ih2=>
       intro hn;have hc:¬C.h.ind=c:=fun q=>hn (by rw [←e,q];simp)
       have a3:a∉K:=fun q=>hn (by simp [q])
       simp only [fS,JA,ih2 a3];simp [lP,hc]
     rw [hz K a0.1];simp [lP,e]
    ·have:=ihK a0.2;simp only [lP,if_neg e,oG,bT];exact this
  have h3:(K.map fun k=>(cE (C::r) k).length).sum=(K.map fun k=>(lP k C).length).sum+(K.map fun k=>(cE r k).length).sum:=by
   clear h1 h2 hK
   induction K with
   |nil=>simp
   |cons a K ihK=>
    simp only [fS,JA,ihK];have:(cE (C::r) a).length=(lP a C).length+(cE r a).length:=by simp [cE]
    omega
  rw [h3];simp only [tD,pR,aI] at h1 ⊢;omega
structure FmS (P:List Cl) (x:Ind) (D:List (Ind × Value)) (S:List Ind):Prop where
 tr:∀p∈D,p.2= .bool true
 us:∀p∈D,Uses P x p.1
 ss:∀y∈S,Uses P x y
 d0:∀z∈cE P x,z∈D.map (·.1)∨z∈S
 cl:∀p∈D,∀z∈cE P p.1,z∈D.map (·.1)∨z∈S
 ln:S.length≤(cE P x).length+((D.map (·.1)).map fun k=>(cE P k).length).sum
def FmS.start (P:List Cl) (x:Ind):FmS P x [] (cE P x) where
 tr:=by simp
 us:=by simp
 ss:=fun y hy=>.single hy
 d0:=fun z hz=>.inr hz
 cl:=by simp
 ln:=by simp
def FmS.old (h:FmS P x D (S++ [y])) (hy:y∈D.map (·.1)):FmS P x D S where
 tr:=h.tr
 us:=h.us
 ss:=fun z hz=>h.ss z (vO _ hz)
 d0:=fun z hz=>by
  rcases h.d0 z hz with q|q
  ·exact .inl q
  ·rcases cG.1 q with q|q
   ·exact .inr q
   ·simp at q;subst q;exact .inl hy
 cl:=fun p hp z hz=>by
  rcases h.cl p hp z hz with q|q
  ·exact .inl q
  ·rcases cG.1 q with q|q
   ·exact .inr q
   ·simp at q;subst q;exact .inl hy
 ln:=by have:=h.ln;simp at this ⊢;omega
def FmS.new (h:FmS P x D (S++ [y])):FmS P x (D++ [(y,.bool true)]) (S++cE P y) where
 tr:=fun p hp=>by
  rcases cG.1 hp with q|q
  ·exact h.tr p q
  ·simp at q;subst q;rfl
 us:=fun p hp=>by
  rcases cG.1 hp with q|q
  ·exact h.us p q
  ·simp at q;subst q;exact h.ss y (by simp)
 ss:=fun z hz=>by
  rcases cG.1 hz with q|q
  ·exact h.ss z (vO _ q)
  ·exact .tail (h.ss y (by simp)) q
 d0:=fun z hz=>by
  rcases h.d0 z hz with q|q
  ·exact .inl (by rw [oF];exact vO _ q)
  ·rcases cG.1 q with q|q
   ·exact .inr (vO _ q)
   ·simp at q;subst q;exact .inl (by simp)
 cl:=fun p hp z hz=>by
  rcases cG.1 hp with q|q
  ·rcases h.cl p q z hz with q|q
   ·exact .inl (by rw [oF];exact vO _ q)
   ·rcases cG.1 q with q|q
    ·exact .inr (vO _ q)
    ·simp at q;subst q;exact .inl (by simp)
  ·simp at q;subst q;exact .inr (VS _ hz)
 ln:=by have:=h.ln;simp at this ⊢;omega
def FmS.done (h:FmS P x D []) (y:Ind):y∈D.map (·.1)↔Uses P x y:=by
 constructor
 ·intro hy;obtain⟨p,hp,rfl⟩:=cL.1 hy;exact h.us p hp
 ·intro hu
  induction hu with
  |single h1=>exact(h.d0 _ h1).resolve_right (by simp)
  |tail _ h1 ih=>
   obtain⟨p,hp,e⟩:=cL.1 ih;subst e;exact(h.cl p hp _ h1).resolve_right (by simp)
def FmS.len (h:FmS P x D S) (hn:(D.map (·.1)).Nodup) (hF:∀C∈P,C.flt=0) (hP:P.length≤300):S.length≤6000000∧D.length≤3000000:=by
 have h1:=US hF;have h2:=RU P _ hn;have h3:=RU P [x] (by simp);have h4:=h.ln;simp at h3;have h5:=Go.Proofs.Plain.nodup_sub_len hn fun y hy=>by
  obtain⟨p,hp,e⟩:=cL.1 hy;subst e;exact KC (h.us p hp)
 rw [jE] at h5;omega
def qI (w:Wo) (b:Nat):Nat:=match w.heap[b]? with
 |some (.map es _)=>es.size
 |_=>0
def xD (h:aQ aO w b D):qI w b=D.length:=by
 obtain⟨es,c,h1,h2⟩:=h;have:=h2.rel.length;rw [cU] at this;simp [qI,h1,this]
def tQ:Tryz.prog.underlying 163=some (.map 63 4):=Tryz.underlying163
def z4:∀w,(zeroValue 4).run Tryz.prog w= .ok (.bool false) w:=fun w=>Tryz.zeroValue4 w
def AT (h:aQ aO w b D) (ht:∀p∈D,p.2= .bool true) (x:ByteArray) (m:Int):(Instr.lookup 163 (.map (some b)) (.agg #[.string x,.int .i64 m]) false).run Tryz.prog w= .ok (.bool (qH (x,m) (D.map (·.1)))) w:=by
 have:=sF kJ tQ z4 h (x,m);refine this.trans ?_;cases hk:aL (x,m) D with
 | none=>
  have hn:(x,m)∉D.map (·.1):=fun hm=>by
   obtain⟨p,hp,e⟩:=cL.1 hm;exact DK.1 hk p hp e.symm
  rw [ON.2 hn];rfl
 |some u=>
  have hm:=vX hk;have hu:=ht _ hm;simp only at hu;subst hu;have hi:(x,m)∈D.map (·.1):=cL.2 ⟨_,hm,rfl⟩;rw [FE.2 hi];rfl
section
attribute [local go_sem] Heavy.uponW
def Hk (ba:Nat) (w:Wo) (u:Value) (L:List Ind) (h:aF ba w u L) (a5:L.length≤3000000):
  Cz 246 #[u] w fun e w'=>∃v,e= .returned v∧aF w.heap.size w' v L∧Bz w w':=by
 have h0:=h;obtain⟨a1,⟨rfl,hz⟩|⟨g,cap,cur,rfl,hb,hg,hnc,hm,hs,ht⟩⟩:=h
 ·obtain rfl:L= []:=gI hz;have hR:Aside (aF w.heap.size w (.slice none 0 0) []):=aF.nil _ _;clear a1 hz h0;have a6:=fun w=>DH (P:=Tryz.prog) w 127 63 none 0 0 0 0 Tryz.underlying127
  go_enter Tryz.func246,Tryz.ntmps246;go_wp2
  go_ret
  exact⟨_,rfl,hR.o,bD _ _⟩
 ·obtain⟨n,hn⟩:=enm L.length;rw [hn];have a0:Aside (L.length=n∧aF ba w (.slice (some ⟨g,0,none⟩) n cap) L):=⟨hn,by rw [hn] at h0;exact h0⟩;clear a1 hb hg hnc hm hs ht h0 hn;have b0:=aC w (Obj.cells #[] 63);have hq:=aJ w (Obj.cells #[] 63);have a2:(w.alloc (Obj.cells #[] 63)).ownsRow w.heap.size 63 2 (.slice (some ⟨w.heap.size,0,none⟩) 0 0) 0 []:=⟨rfl,.inr ⟨w.heap.size,0,#[],rfl,aA _,hq,aA _,bX _,rfl,rfl⟩⟩;have a3:SrcAt (w.alloc (Obj.cells #[] 63)) (.slice (some ⟨g,0,none⟩) n cap) n (L.flatMap bO):=by
   have:=zD (a0.o.2.below b0 (aA _));rw [a0.o.1] at this;exact this
  have a6:=fun w=>DH (P:=Tryz.prog) w 127 63 (some ⟨g,0,none⟩) n cap 0 0 Tryz.underlying127
  go_enter Tryz.func246,Tryz.ntmps246
  go_upto_region 3 with fail
  refine dZ ?_
  iterate 2 (refine bE rfl fun K hK=>?_;go_simp;refine hK _ _ ?_;clear hK)
  refine jK sM _ rfl _ _ rfl w.heap.size (.slice (some ⟨w.heap.size,0,none⟩) 0 0) 0 [] rfl a2 (.slice (some ⟨g,0,none⟩) n cap) n _ rfl a3 (by rw [flat_len,a0.o.1]) (QT L) (by have:=a0.o.1;unfold maxLen;omega) (by have:=a0.o.1;omega) (by rw [cB];omega) ?_;intro v5 w5 h5 a4 a7;have hR:Aside (aF w.heap.size w5 v5 L∧Bz w w5):=by
   refine⟨?_,b0.grown a4 b0.size (fun k hk=>by simp [Value.ownBlock] at hk;omega)⟩;unfold aF;rw [a0.o.1];simpa using h5
  clear h5 a4 a7 a2 a3 hq b0;go_wp2
  go_ret
  exact⟨_,rfl,hR.o.1,hR.o.2⟩
end
section
attribute [local go_sem] Heavy.uponW
def FromP (w:Wo) (P:List Cl) (x:Ind) (e:Ending) (w':Wo):Prop:=
 ∃b D,e= .returned (.map (some b))∧aQ aO w' b D∧(∀p∈D,p.2= .bool true)∧(∀y,y∈D.map (·.1)↔Uses P x y)∧w.heap.size≤b∧Bz w w'
def elems (L:List Ind) (h:L≠ []):∃S y,L=S++ [y]:=⟨L.dropLast,L.getLast h,(Lb h).symm⟩
def En (P:List Cl) (hF:∀C∈P,C.flt=0) (hP:P.length≤300) (ba:Nat) (w:Wo) (av:Option Addr) (nv cv:Nat) (b:Nat) (M:List (Ind × Value)) (hG:GU ba w b M P) (x:ByteArray) (m:Int):
  Cz 190 #[.agg #[.slice av nv cv,.map (some b)],.agg #[.string x,.int .i64 m]] w (FromP w P (x,m)):=by
 have a8:=aside2 hF hP;have d1:Aside (∀w2,Bz w w2→GU ba w2 b M P):=fun w2 hb=>hG.below hb (aA _)
 clear hF hP hG;have e0:∀w:Wo,(Instr.makeMap 163 none).run Tryz.prog w= .ok (.map (some w.heap.size)) (w.alloc (.map #[] 0)):=fun w=>rfl
 go_enter Tryz.func190,Tryz.ntmps190
 go_upto_region 2 with fail
 obtain⟨w1,hw1⟩:=enm (((w.alloc (.cells #[.slice av nv cv,.map (some b)] 168)).alloc (.cells #[.string x,.int .i64 m] 63)).alloc (.map #[] 0));have b1:=aC w (.cells #[.slice av nv cv,.map (some b)] 168);have b2:=aC (w.alloc (.cells #[.slice av nv cv,.map (some b)] 168)) (.cells #[.string x,.int .i64 m] 63);have b3:=aC ((w.alloc (.cells #[.slice av nv cv,.map (some b)] 168)).alloc (.cells #[.string x,.int .i64 m] 63)) (.map #[] 0);have q1:=aJ w (Obj.cells #[.slice av nv cv,.map (some b)] 168);have q2:=aJ (w.alloc (.cells #[.slice av nv cv,.map (some b)] 168)) (Obj.cells #[.string x,.int .i64 m] 63);have c8:=aQ.new (kv:=aO) ((w.alloc (.cells #[.slice av nv cv,.map (some b)] 168)).alloc (.cells #[.string x,.int .i64 m] 63)) 0;have a3:Aside (Bz w w1∧w1.heap.size=w.heap.size+1+1+1∧w1.heap[w.heap.size]?=some (.cells #[.slice av nv cv,.map (some b)] 168)∧w1.heap[w.heap.size+1]?=some (.cells #[.string x,.int .i64 m] 63)∧aQ aO w1 (w.heap.size+1+1) []):=by
  refine⟨?_,?_,?_,?_,?_⟩
  ·rw [←hw1];exact(b1.trans (b2.mono b1.size)).trans (b3.mono (b1.trans (b2.mono b1.size)).size)
  ·rw [←hw1];simp
  ·rw [←hw1];exact(b3.block _ (by simp;omega)).trans ((b2.block _ (by simp)).trans q1)
  ·rw [←hw1];rw [cB] at q2;exact(b3.block _ (by simp)).trans q2
  ·rw [←hw1];simp at c8;exact c8
 rw [hw1];clear hw1 e0 b1 b2 b3 q1 q2 c8;obtain⟨ob,hob⟩:∃z,w.heap.size+1+1=z:=⟨_,rfl⟩;rw [hob] at a3 ⊢;have a0:=aside hob;clear hob;have fk:Aside (∀w2,Below ob w1 w2→w2.cell? ⟨w.heap.size,0,none⟩=some (.slice av nv cv)∧w2.cell? ⟨w.heap.size,1,none⟩=some (.map (some b))):=fun w2 hb=>gM ((hb.block _ (by have:=a0.o;omega)).trans a3.o.2.2.1)
 obtain⟨x0,x1⟩:=fk.o w1 (bD _ _);obtain⟨x2,x3⟩:=gM a3.o.2.2.2.1;have a6:=d1.o w1 a3.o.1;have b4:=a6.look x m;have a7:=a6.row (x,m);obtain⟨u,hu⟩:=enm ((aL (x,m) M).getD (.slice none 0 0));rw [hu] at b4 a7;have c5:(cE P (x,m)).length≤3000000:=by have:=GQ a8.o.1 (x,m);have:=a8.o.2;omega
 have d6:=Hk ba w1 u _ a7 c5;clear hu a6 a7 c5
 go_wp2_with (go_at_call 246;with_reducible refine d6.mono ?_)
 rintro e w2 ⟨v2,rfl,hO2,hb2⟩;clear x0 x1 x2 x3 b4 d6;have c2:Aside (aF (ob+1) w2 v2 (cE P (x,m))∧aQ aO w2 ob []∧Below ob w1 w2):=⟨qA hO2 (by have:=a3.o.2.1;have:=a0.o;omega),a3.o.2.2.2.2.of_block (hb2.block ob a3.o.2.2.2.2.lt),hb2.mono (by have:=a3.o.2.1;have:=a0.o;omega)⟩;clear hO2 hb2;go_wp2
 go_loopw [6] (fun s wr=>∃(v:Value) (S:List Ind) (D:List (Ind × Value)),s=v∧aF (ob+1) wr v S∧aQ aO wr ob D∧FmS P (x,m) D S∧Below ob w1 wr) (fun s wr=>(3000001-qI wr ob)*3000001+lenOf s)
 case atStart=>exact⟨v2,_,[],rfl,c2.o.1,c2.o.2.1,FmS.start _ _,c2.o.2.2⟩
 case round=>
  clear c2;obtain⟨wo,rfl⟩:=enr wr;obtain⟨v,S,D,rfl,hO,hM,hS,hB⟩:=hrel;have b7:=hS.len hM.nodup a8.o.1 a8.o.2
  by_cases hE:S= []
  case pos=>
   subst hE;have hR:Aside (FromP w P (x,m) (.returned (.map (some ob))) wo):=⟨ob,D,rfl,hM,hS.tr,hS.done,by have:=a0.o;omega,a3.o.1.trans (hB.mono (by have:=a0.o;omega))⟩;obtain⟨a,c,rfl,_⟩:=hO.read;clear hO hM hS hB b7;go_wp2
   go_ret
   exact hR.o
  obtain⟨S1,⟨y,p⟩,rfl⟩:=elems S hE;obtain⟨n,hn⟩:=enm S1.length;have c0:(S1++ [(y,p)]).length=n+1:=by rw [aI,hn];rfl
  obtain⟨g,c,rfl,hgb,hgl⟩:=hO.some (by simp);rw [c0] at hO b7 ⊢;obtain⟨z0,z1⟩:=hO.cells (i:=n) (J:=(y,p)) (by rw [dK (by omega),hn];simp);have c4:=hO.cut c0 (k:=n) (by omega);rw [IZ (by omega),fH (by omega)] at c4;have d7:n≤c:=by
   obtain⟨_,⟨e,_⟩|⟨g',cap',cur,e,_,_,d7,_⟩⟩:=hO
   ·injection e with e1;cases e1
   ·injection e with e1 e2 e3;rw [c0] at d7;omega
  have a2:Aside (aF (ob+1) wo (.slice (some ⟨g,0,none⟩) n c) S1∧aQ aO wo ob D∧FmS P (x,m) D (S1++ [(y,p)])∧Below ob w1 wo∧D.length≤3000000∧S1.length=n):=⟨c4,hM,hS,hB,b7.2,hn⟩;have e6:=b7.1;have e8:(0:Int)<((n+1:Nat):Int):=by omega
  have e9:(0:Int)<(n:Int)+1:=by omega
  have f0:(0:Int)≤(n:Int):=by omega
  have f1:(n:Int)<(n:Int)+1:=by omega
  have f2:(n:Int)≤(n:Int)+1:=by omega
  have f3:(n:Int)≤(c:Int):=by omega
  have f4:IntKind.i64.wrap (n:Int)=(n:Int):=by rw [dX];omega
  dsimp only at z0 z1;clear hO c4 hM hS hB hE c0 b7 hn
  go_upto_region 6 with fail
  obtain⟨wa,hwa⟩:=enm (wo.alloc (.cells #[.string y,.int .i64 p] 63));have a9:=aC wo (.cells #[.string y,.int .i64 p] 63);have c1:=aJ wo (Obj.cells #[.string y,.int .i64 p] 63);rw [hwa] at a9 c1 ⊢;clear hwa z0 z1;have c3:=a2.o.2.1.of_block (a9.block ob a2.o.2.1.lt);have d4:=a2.o.1.below a9 (aA _);have b0:ob<wo.heap.size:=a2.o.2.1.lt;have d0:Below ob w1 wa:=a2.o.2.2.2.1.trans (a9.mono (by omega));have a1:=aside5 d4 c3 d0 c1 b0;obtain⟨z0,z1⟩:=gM c1;have b4:=AT c3 a2.o.2.2.1.tr y p;obtain⟨F,hF⟩:=enm (qH (y,p) (D.map (·.1)));rw [hF] at b4;have FA:=aside hF;clear c3 d4 b0 d0 c1 a9 hF;cases F
  case true=>
   have hN:Aside (FmS P (x,m) D S1∧qI wa ob=qI wo ob):=⟨a2.o.2.2.1.old (FE.1 FA.o),by rw [xD a1.o.2.1,xD a2.o.2.1]⟩;go_wp2;go_roundw
   case rel=>exact⟨_,S1,D,rfl,a1.o.1,a1.o.2.1,hN.o.1,a1.o.2.2.1⟩
   case measure=>rw [hN.o.2];simp [lenOf]
  have d8:=ON.1 FA.o;obtain⟨wb,c9,hMb,hgb2,hsb⟩:=pU kJ tQ a1.o.2.1 (y,p) (.bool true);have e4:putM (y,p) (.bool true) D=D++ [((y,p),.bool true)]:=tZ (by
   rw [uL];intro q hq e;exact d8 (cL.2 ⟨q,hq,e.symm⟩))
  rw [e4] at hMb;replace c9:(Instr.mapUpdate 163 (.map (some ob)) (.agg #[.string y,.int .i64 p]) (.bool true)).run Tryz.prog wa= .ok () wb:=c9;have b9:Below ob w1 wb:=a1.o.2.2.1.grown hgb2 (by have:=a1.o.2.2.1.size;have:=a3.o.2.1;have:=a0.o;omega) (fun k hk=>by have:=aK hk;omega);have d5:aF (ob+1) wb (.slice (some ⟨g,0,none⟩) n c) S1:=gS a1.o.1 fun q hq=>hgb2.block q (cF a1.o.1 q hq).2 (fun e=>by have:=(cF a1.o.1 q hq).1;have:=aK e;omega)
  have d9:=(hgb2.block wo.heap.size (aG.1 a1.o.2.2.2.1).1 (fun e=>by have:=aK e;have:=a1.o.2.2.2.2;omega)).trans a1.o.2.2.2.1;have a6:=d1.o wb (a3.o.1.trans (b9.mono (by have:=a0.o;omega)));have b5:=a6.look y p;have a7:=a6.row (y,p);obtain⟨u2,hu2⟩:∃u,(aL (y,p) M).getD (.slice none 0 0)=u:=⟨_,rfl⟩;rw [hu2] at b5 a7;have b6:ob<wb.heap.size:=hMb.lt;have a5:Aside (aF (ob+1) wb (.slice (some ⟨g,0,none⟩) n c) S1∧aQ aO wb ob (D++ [((y,p),.bool true)])∧Below ob w1 wb∧ob+1≤wb.heap.size∧S1.length=n):=⟨d5,hMb,b9,b6,a2.o.2.2.2.2.2⟩;obtain⟨x0,x1⟩:=fk.o wb b9;clear hMb hgb2 hsb b9 d5 a6 hu2 d8 b6
  go_upto_region 8 with fail
  clear z0 z1 c9 b4;obtain⟨z0,z1⟩:=gM d9;have a4:wb.ownsRow (ob+1) 63 2 (.slice (some ⟨g,0,none⟩) n c) n (S1.flatMap bO):=by have:=a5.o.1;unfold aF at this;rw [a5.o.2.2.2.2] at this;exact this
  have c5:(cE P (y,p)).length≤3000000:=by have:=GQ a8.o.1 (y,p);have:=a8.o.2;omega
  have b8:=zD a7;refine dZ ?_
  iterate 5 (refine bE rfl fun K hK=>?_;go_simp;refine hK _ _ ?_;clear hK)
  refine jK sM _ rfl _ _ rfl (ob+1) (.slice (some ⟨g,0,none⟩) n c) n _ rfl a4 u2 _ _ rfl b8 (flat_len _) (QT _) (by unfold maxLen;omega) (by omega) a5.o.2.2.2.1 ?_;intro v5 w5 h5 c6 e7;have hN:Aside (aF (ob+1) w5 v5 (S1++cE P (y,p))∧aQ aO w5 ob (D++ [((y,p),.bool true)])∧Below ob w1 w5∧lenOf v5=n+(cE P (y,p)).length∧qI w5 ob=qI wo ob+1∧qI wo ob=D.length):=by
   have c7:∀q,q<ob+1→some q≠(Value.slice (some ⟨g,0,none⟩) n c).ownBlock:=fun q hq e=>by
    have:=(a4.lt q e.symm).1;omega
   have d3:aF (ob+1) w5 v5 (S1++cE P (y,p)):=by
    unfold aF;rw [aI,tL,a5.o.2.2.2.2];exact h5
   have d2:=a5.o.2.1.of_block (c6.block ob a5.o.2.1.lt (c7 ob (by omega)));refine⟨d3,d2,a5.o.2.2.1.grown c6 (by have:=a5.o.2.2.2.1;omega) (fun k hk=>by
    have:=(a4.lt k hk).1;omega),?_,?_,xD a2.o.2.1⟩
   ·obtain⟨a,c',e,_⟩:=d3.read;rw [e,aI,a5.o.2.2.2.2];rfl
   ·rw [xD d2,xD a2.o.2.1];simp
  clear h5 c6 e7 a4 b8 a7 z0 z1 x0 x1 b5 d9;go_wp2;go_roundw
  case rel=>exact⟨v5,_,_,rfl,hN.o.1,hN.o.2.1,a2.o.2.2.1.new,hN.o.2.2.1⟩
  case measure=>
   have q1:=hN.o.2.2.2.1;have q2:=hN.o.2.2.2.2.1;have q3:=hN.o.2.2.2.2.2;have q4:=a2.o.2.2.2.2.1;rw [q2,q1,q3];simp only [lenOf];omega
end
