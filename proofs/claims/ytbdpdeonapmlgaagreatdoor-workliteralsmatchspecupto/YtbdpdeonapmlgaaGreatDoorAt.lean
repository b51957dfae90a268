/- Lemmas for the text Card; no condition. -/
import Derived.Test.YtbdpdeonapmlgaaGreatDoorAs
set_option linter.all false
set_option maxHeartbeats 8000000
set_option maxRecDepth 100000
namespace Go.Proofs.YtbdpdeonapmlgaaGreatDoor
open Go.RowKit Go.Big Go.RowsK Go.MapK
variable {D M:List (Ind × Value)} {P:List Cl} {w w':World} {S L:List Ind} {b ba:Nat} {x y:Ind}
section
attribute [local go_sem] Heavy.uponW
theorem Am (P:List Cl) (n:Nat) (w:World) (a:Option Addr) (len c:Nat) (hl:P.length=len) (r8:len≤300) (h:ClsV n w P a) (hF:∀C∈P,C.flt=0) (hn:n≤w.heap.size):
  Calls Tryz.prog 122 #[.slice a len c] w (GraphP w P):=by
 have Al:=aside hl;have hA:=aside3 h hn hF;clear hl hF h hn;have t4:∀w:World,(Instr.makeMap 166 none).run Tryz.prog w= .ok (.map (some w.heap.size)) (w.alloc (.map #[] 0)):=fun w=>rfl
 go_enter Tryz.func122,Tryz.ntmps122
 go_upto_region 2 with fail
 obtain⟨w1,hw1⟩:∃w1,((w.alloc (.cells #[.slice none 0 0,.map none] 168)).alloc (.map #[] 0)).alloc (.cells #[.slice none 0 0,.map (some (w.heap.size+1))] 168)=w1:=⟨_,rfl⟩;have e8:=GSt.start hw1 P;rw [hw1];have t5:Aside (w1.heap[w.heap.size]?=some (.cells #[.slice none 0 0,.map none] 168 (0,0))):=by
  show _=_;have q:=heap_alloc_new w (Obj.cells #[.slice none 0 0,.map none] 168);have b2:=aC (w.alloc (.cells #[.slice none 0 0,.map none] 168)) (.map #[] 0);have b3:=aC ((w.alloc (.cells #[.slice none 0 0,.map none] 168)).alloc (.map #[] 0)) (.cells #[.slice none 0 0,.map (some (w.heap.size+1))] 168);rw [←hw1];exact(b3.block _ (by simp;omega)).trans ((b2.block _ (by simp)).trans q)
 obtain⟨mb,hmb⟩:∃x,w.heap.size+1=x:=⟨_,rfl⟩;rw [hmb] at e8 ⊢;clear hw1 t4;obtain⟨gc,hgc⟩:∃x,mb+1=x:=⟨_,rfl⟩;rw [hgc] at e8 ⊢;obtain⟨e8,hb1,hs1⟩:=e8;have k6:=aside4 hmb hgc hs1 hb1;have h6:Aside _:=e8;clear hmb hgc hb1 hs1 e8;go_wp2
 go_loopw [17] (fun s wr=>∃(i:Nat) (v:Value) (M:List (Ind × Value)),s= .int .i64 i∧i≤len∧GSt (gc+1) mb gc w1 (.slice none 0 0) [] wr v (eS (P.take i)) M (aR (P.take i))) (fun s _=>len-(intOf s).toNat)
 case atStart=>exact⟨0,_,[],rfl,aT _,h6.out⟩
 case round=>
  clear h6;obtain⟨wo,rfl⟩:∃wo,wo=wr:=⟨_,rfl⟩;obtain⟨i,v,M,rfl,hi,hS⟩:=hrel
  by_cases s8:i<len
  case neg=>
   obtain rfl:i=len:=by omega
   have o4:P.take i=P:=eP (by rw [Al.out];exact aA _);rw [o4] at hS;have hM:=k6.out;have b8:=aside hS;have m9:Aside (∀w2,Below wo.heap.size wo w2→Calls Tryz.prog 187 #[v,.func (.func 188) #[] #[]] w2 (SortJ (gc+1) w2 v (eS P))):=fun w2 hb=>UM (eS P) (gc+1) w2 v (b8.out.below hb (aA _)).1.row (by have:=zS hA.out.2.2;rw [Al.out] at this;omega)
   obtain⟨x0,x1⟩:=eL hS.2.2;clear hS o4
   go_wp2_with (go_at_call 187;with_reducible refine(m9.out _ (aI _ _)).mono ?_)
   rintro e w2 ⟨rfl,L',hO2,hPm,hPw,hg2⟩;clear x0 x1;obtain⟨t1,t2,t3⟩:=b8.out.turn (by omega) (by omega) hO2 rfl hg2;have s2:GSt (gc+1) mb gc w1 (.slice none 0 0) [] w2 v L' M (aR P):=⟨t1,t2,t3⟩;have l8:=aside3 s2 hPm hPw;have m7:=Cw L' (gc+1) w2 v t1.row (by rw [hPm.length_eq];have:=zS hA.out.2.2;rw [Al.out] at this;omega);obtain⟨x0,x1⟩:=eL t3;clear t1 t2 t3 s2 hO2 hPm hPw hg2 m9
   go_upto_region 18 with fail
   refine iP ?_
   iterate 2 (refine eV rfl fun K hK=>?_;go_simp;refine hK _ _ ?_;clear hK)
   refine eV rfl fun K hK=>?_
   go_simp
   refine m7.mono ?_;rintro e w3 ⟨v3,rfl,hO3,hv3,hg3⟩;refine hK _ _ ?_;clear hK x0 x1 m7;obtain⟨t1,t2,t3⟩:=l8.out.1.turn (by omega) (by omega) hO3 hv3 hg3;obtain⟨w4,hr4,s4,hz4⟩:=GSt.setv t1 t2 t3 (by omega) (by omega)
   iterate 1 (refine eV rfl fun K hK=>?_;go_simp;refine hK _ _ ?_;clear hK)
   refine lJ rfl 127 _ _ rfl (v:=.pointer (some ⟨gc,0,none⟩)) (u:=v3) rfl rfl hr4 ?_;obtain⟨x0,x1⟩:=eL s4.2.2;have i2:w4.heap[w.heap.size]?=some (.cells #[.slice none 0 0,.map none] 168 (0,0)):=s4.same t5.out (by omega) (by omega) (uR _);obtain⟨a5,c5,e5,_⟩:=s4.1.row.read;obtain⟨w6,hst6,hq6,hg6,hs6⟩:=xD (vs:=[v3,.map (some mb)]) i2 rfl (by rw [e5];simp [Value.oneCell']);have j9:Below w.heap.size w w4:=hM.2.2.2.trans (s4.bel (fun q _=>uR q) (by omega) (by omega) (by omega));have j2:=VJ hst6;have hR:Aside (w6.heap[w.heap.size]?=some (.cells #[v3,.map (some mb)] 168 (0,0))∧GraphP w P (.returned (.agg #[v3,.map (some mb)])) w6):=by
    refine⟨hq6,v3,mb,L',M,rfl,?_,l8.out.2.1,l8.out.2.2,?_,by omega,fun k u hk=>?_,s4.1.non,?_⟩
    ·exact iZ (fK s4.1.row fun g hg=>hg6.block g (bT s4.1.row g hg).2 (fun e=>by have:=(bT s4.1.row g hg).1;have:=aJ e;omega)) (by omega)
    ·exact s4.1.map.of_block (hg6.block mb s4.1.map.lt (fun e=>by have:=aJ e;omega))
    ·have ho:=(s4.1.val k u hk).1;exact iZ (fK ho fun g hg=>hg6.block g (bT ho g hg).2 (fun e=>by have:=(bT ho g hg).1;have:=aJ e;omega)) (by omega)
    ·exact j9.grown hg6 j9.size (fun k hk=>by have:=aJ hk;omega)
   clear e5 hr4 hst6 hq6 hg6 hs6 i2 s4 t1 t2 t3 j9 hO3 hv3 hg3
   go_upto_region 19 with fail
   refine iP ?_
   iterate 1 (refine eV rfl fun K hK=>?_;go_simp;refine hK _ _ ?_;clear hK)
   refine lJ rfl 168 _ _ rfl (v:=.pointer (some ⟨w.heap.size,0,none⟩)) (u:=.agg #[v3,.map (some mb)]) rfl rfl j2 ?_;go_wp2;refine kW (results_cell_row rfl _ _ w.heap.size 168 _ _ _ rfl hR.out.1 Tryz.underlying168 rfl (by kernel_rfl)) rfl ?_;exact hR.out.2
  obtain⟨C,hC⟩:∃C,P[i]?=some C:=⟨P[i]'(by rw [Al.out];exact s8),aL _⟩;obtain⟨m1,m2,m3,m4⟩:=k6.out;have hB:Below w.heap.size w wo:=m4.trans (hS.bel (fun q _=>uR q) (by omega) (by omega) (by omega));obtain⟨g,off,vh,vb,rfl,hg,hc,hvh,hvb⟩:=hA.out.1.read hC;have j6:=hA.out.2.2 C (aX hC);have k9:=jG (sN j6).2.1;have c8:=qV j6;have e7:=Ar hC;have e6:=fun k=>Cj hC k
  have a6:Aside (∀w2,Below w.heap.size w w2→Calls Tryz.prog 59 #[.agg vb.toArray] w2 (dN n w2 C.b)):=fun w2 hb=>xZ C.b n w2 vb k9.2 k9.1 (TmV.below hb hA.out.2.1 _ _ hvb) (aE hA.out.2.1 hb.size)
  obtain⟨th,tb,vars⟩:=C;unfold Cl.atoms at e7 e6;dsimp only at hc hvh hvb a6 c8 e7 e6;obtain⟨k1,v1,nm1,g1,i3,f4,c7⟩:=th;obtain⟨LT,hLT⟩:∃LT,tb.lits=LT:=⟨_,rfl⟩;obtain⟨LB,hLB⟩:∃b,tb.litsB=b:=⟨_,rfl⟩;unfold dN at a6;rw [hLT] at c8 e7;rw [hLT,hLB] at a6;rw [hLT] at e6;obtain⟨k2,v2',nm2,g2,l0,j4,f3⟩:=tb;simp only [TmV] at hvh hvb;obtain⟨_,_,a1,c1,rfl,⟨⟨p1,q1,rfl,_⟩,⟨p2,q2,rfl,_⟩⟩,_⟩:=hvh;obtain⟨_,_,a2,c2,rfl,⟨⟨p3,q3,rfl,_⟩,⟨p4,q4,rfl,_⟩⟩,_⟩:=hvb;have o2:(Tm.ind (.mk k1 v1 nm1 g1 i3 f4 c7))=(nm1,(c7.length:Int)):=rfl;rw [o2] at e7 e6;clear o2 hLT hLB k9 j6;generalize c7.length=l1 at*;generalize i3.length=n1 at*;generalize f4.length=n2 at*;generalize f3.length=l2 at*;generalize l0.length=n3 at*;generalize j4.length=n4 at*;have o8:Aside (∀w2,Below w.heap.size w w2→_):=fun(w2:World) (hb:Below w.heap.size w w2)=>vN (hc.below hb (aZ hg hA.out.2.1))
  have d3:=aside3 e7 e6 c8;have t8:(i:Int)<(len:Int):=by omega
  have t9:(0:Int)≤(i:Int):=by omega
  have u2:IntKind.i64.wrap ((i:Int)+1)=(i:Int)+1:=by rw [aG];omega
  have m8:Aside (∀w2,Calls Tryz.prog 26 #[.agg #[.int .i64 k1,.int .i64 v1,.string nm1,.bool g1,.slice p1 n1 q1,.slice p2 n2 q2,.slice a1 l1 c1]] w2 fun e w'=>e= .returned (.agg #[.string nm1,.int .i64 l1])∧Below w2.heap.size w2 w'):=fun w2=>uS k1 v1 nm1 g1 _ _ _ _ _ w2
  have e3:Aside ((eS (P.take i)).length≤3000300∧∀k,(aR (P.take i) k).length≤3000000):=by
   have o3:∀C∈P.take i,C.flt=0:=fun C hC=>hA.out.2.2 C (iQ hC)
   have e1:=zS o3;have e2:(P.take i).length≤300:=by rw [aU];omega
   exact⟨by omega,fun k=>by have:=EV o3 k;omega⟩
  replace a6:Aside (∀w2,Below w.heap.size w w2→Calls Tryz.prog 59 #[.agg #[.int .i64 k2,.int .i64 v2',.string nm2,.bool g2,.slice p3 n3 q3,.slice p4 n4 q4,.slice a2 l2 c2]] w2 fun e w'=>∃v,e= .returned (.tuple #[v,.bool LB])∧OutT n w2.heap.size w' v LT∧Below w2.heap.size w2 w'):=a6;have b8:=aside2 hS hB;clear hc hC e7 e6 c8 hS m1 m2 m3 m4 hB;obtain⟨x0,x1,x2,x3,x4,x5,x6,x7,x8,x9,x10,x11,x12,x13,x14⟩:=o8.out wo b8.out.2;have b0:=aC wo (Obj.cells #[.int .i64 k1,.int .i64 v1,.string nm1,.bool g1,.slice p1 n1 q1,.slice p2 n2 q2,.slice a1 l1 c1,.int .i64 k2,.int .i64 v2',.string nm2,.bool g2,.slice p3 n3 q3,.slice p4 n4 q4,.slice a2 l2 c2,.int .i64 vars] 50);have hq:=heap_alloc_new wo (Obj.cells #[.int .i64 k1,.int .i64 v1,.string nm1,.bool g1,.slice p1 n1 q1,.slice p2 n2 q2,.slice a1 l1 c1,.int .i64 k2,.int .i64 v2',.string nm2,.bool g2,.slice p3 n3 q3,.slice p4 n4 q4,.slice a2 l2 c2,.int .i64 vars] 50);obtain⟨wa,hwa⟩:∃wa,wo.alloc (Obj.cells #[.int .i64 k1,.int .i64 v1,.string nm1,.bool g1,.slice p1 n1 q1,.slice p2 n2 q2,.slice a1 l1 c1,.int .i64 k2,.int .i64 v2',.string nm2,.bool g2,.slice p3 n3 q3,.slice p4 n4 q4,.slice a2 l2 c2,.int .i64 vars] 50)=wa:=⟨_,rfl⟩;have p9:wa.heap.size=wo.heap.size+1:=by rw [←hwa];simp
  rw [hwa] at b0 hq
  go_upto_region 5 with fail
  clear x0 x1 x2 x3 x4 x5 x6 x7 x8 x9 x10 x11 x12 x13 x14 hwa;have s1:GSt (gc+1) mb gc w1 (.slice none 0 0) [] wa v (eS (P.take i)) M (aR (P.take i)):=b8.out.1.below b0 (aA _);have r1:=aside s1;have fa:Aside (∀w2,Below wa.heap.size wa w2→w2.heap[wo.heap.size]?=some (.cells #[.int .i64 k1,.int .i64 v1,.string nm1,.bool g1,.slice p1 n1 q1,.slice p2 n2 q2,.slice a1 l1 c1,.int .i64 k2,.int .i64 v2',.string nm2,.bool g2,.slice p3 n3 q3,.slice p4 n4 q4,.slice a2 l2 c2,.int .i64 vars] 50)):=fun w2 hb=>(hb.block wo.heap.size (by omega)).trans hq
  have r5:Aside (Below w.heap.size w wa∧Below wo.heap.size wo wa):=⟨b8.out.2.trans (b0.mono b8.out.2.size),b0⟩;obtain⟨x0,x1,x2,x3,x4,x5,x6,x7,x8,x9,x10,x11,x12,x13,x14⟩:=jX hq;have d1:=aside p9;clear b0 hq s1 p9
  go_wp2_with (go_at_call 26;with_reducible refine(m8.out _).mono ?_)
  rintro e w2 ⟨rfl,hb2⟩;clear x0 x1 x2 x3 x4 x5 x6 x7 x8 x9 x10 x11 x12 x13 x14
  go_upto_region 6 with fail
  obtain⟨w3,hw3'⟩:∃w3,w2.alloc (Obj.cells #[.string nm1,.int .i64 l1] 63)=w3:=⟨_,rfl⟩;have b3:=aC w2 (Obj.cells #[.string nm1,.int .i64 l1] 63);have j1:=heap_alloc_new w2 (Obj.cells #[.string nm1,.int .i64 l1] 63);rw [hw3'] at b3 j1 ⊢;clear hw3';have s3:=r1.out.below hb2 (aA _)|>.below b3 (aA _);obtain⟨x0,x1⟩:=eL j1;obtain⟨x2,x3⟩:=eL s3.2.2;have hM:=k6.out;have o5:=s3.own (.cells #[.string nm1,.int .i64 l1] 63);have s5:=e3.out.1;have h0:=heap_alloc_new w3 (Obj.cells #[.string nm1,.int .i64 l1] 63);have d2:Aside (GSt (gc+1) mb gc w1 (.slice none 0 0) [] w3 v (eS (P.take i)) M (aR (P.take i))∧OffG v M wo.heap.size∧OffG v M w2.heap.size):=⟨s3,b8.out.1.off (aA _),b8.out.1.off (by have:=d1.out;have:=hb2.size;omega)⟩;have b4:=aside3 hb2 b3 j1;clear s3 hb2 b3 j1;refine iP ?_
  iterate 4 (refine eV rfl fun K hK=>?_;go_simp;refine hK _ _ ?_;clear hK)
  refine gK jV _ rfl _ _ rfl (gc+1) v _ _ rfl o5 (.slice (some ⟨w3.heap.size,0,none⟩) 1 1) 1 [.string nm1,.int .i64 l1] rfl (.inr ⟨_,_,rfl,fun j u hj=>by rw [jN,cG];simp only [World.cell?,h0];simpa using hj⟩) rfl (by simp [Value.oneCell']) (by unfold maxLen;omega) (by omega) (by rw [cT];have:=d2.out.1.2.1.size;omega) ?_;intro v5 w5 h5 p0 q0;obtain⟨w6,j2,s6,hz6⟩:=d2.out.1.re.push (by omega) (by omega) (by omega) (by have:=d2.out.1.2.1.size;omega) h5 p0 q0;have i6:=aside s6;have r3:=s6.same (fa.out w3 (b4.out.1.trans (b4.out.2.1.mono b4.out.1.size))|>.trans rfl) (by have:=b8.out.1.2.1.size;omega) (by have:=b8.out.1.2.1.size;omega) d2.out.2.1;have r4:=s6.same (b4.out.2.2) (by have:=b8.out.1.2.1.size;have:=d1.out;have:=b4.out.1.size;omega) (by have:=b8.out.1.2.1.size;have:=d1.out;have:=b4.out.1.size;omega) d2.out.2.2;have b6:Below w.heap.size w w6:=hM.2.2.2.trans ((d2.out.1.trans s6).bel (fun q _=>uR q) (by omega) (by omega) (by omega));have b9:=aside2 r4 b6;have r0:Aside (OffG v5 M w2.heap.size):=s6.2.1.off _ (Array.getElem?_eq_some_iff.1 b4.out.2.2).1 d2.out.2.2;obtain⟨x0,x1,x2,x3,x4,x5,x6,x7,x8,x9,x10,x11,x12,x13,x14⟩:=jX r3;clear h5 p0 q0 s6 hz6 r3 r4 b6 h0 o5
  iterate 1 (refine eV rfl fun K hK=>?_;go_simp;refine hK _ _ ?_;clear hK)
  refine lJ rfl 127 _ _ rfl (v:=.pointer (some ⟨gc,0,none⟩)) (u:=v5) rfl rfl j2 ?_;clear j2
  go_wp2_with (go_at_call 59;with_reducible refine(a6.out _ b9.out.2).mono ?_)
  rintro e w7 ⟨v9,rfl,hO9,hb7⟩;obtain⟨a9,c9,rfl,hr9⟩:=hO9.read2;obtain⟨n9,hn9⟩:∃x,LT.length=x:=⟨_,rfl⟩;rw [hn9];have s7:GSt (gc+1) mb gc w7 v5 M w7 v5 (eS (P.take i)++ [(nm1,(l1:Int))]) M (gW P i (nm1,(l1:Int)) []):=(i6.out.below hb7 (aA _)).re.congr fun k=>(Ci P i _ k).symm
  have o7:GSt (gc+1) mb gc w1 (.slice none 0 0) [] w7 v5 (eS (P.take i)++ [(nm1,(l1:Int))]) M (aR (P.take i)):=d2.out.1.trans (i6.out.below hb7 (aA _));have j7:w2.heap.size≠mb∧w2.heap.size≠gc∧w2.heap.size<w7.heap.size:=by
   have q1:=b8.out.1.2.1.size;have q2:=d1.out;have q3:=b4.out.1.size;have q4:=(Array.getElem?_eq_some_iff.1 b9.out.1).1;have q5:=hb7.size;omega
  have f7:Aside (w7.heap[w2.heap.size]?=some (.cells #[.string nm1,.int .i64 l1] 63)∧OffG v5 M w2.heap.size∧w2.heap.size≠mb∧w2.heap.size≠gc∧Below w.heap.size w w7∧LT.length=n9):=⟨(hb7.block _ (Array.getElem?_eq_some_iff.1 b9.out.1).1).trans b9.out.1,r0.out,j7.1,j7.2.1,b9.out.2.trans (hb7.mono b9.out.2.size),hn9⟩;have r7:Aside (∀(k:Nat) T,LT[k]?=some T→∃g vs,a9=some ⟨g,0,none⟩∧OffG v5 M g∧g≠mb∧g≠gc∧g<w7.heap.size∧TmV n w7 T vs∧∀(j:Nat) u,vs[j]?=some u→w7.cell? ⟨g,k*7+j,none⟩=some u):=fun k T hk=>by
   obtain⟨g,vs,q1,q2,q3,q4,q5⟩:=hr9 k T hk;have q6:=(d2.out.1.trans i6.out).2.1.size;exact⟨g,vs,q1,i6.out.off q2,by omega,by omega,q3,q4,q5⟩
  have l9:=aside2 s7 o7;have a8:Aside (w.heap.size+1=mb∧mb+1=gc∧w1.heap.size=gc+1):=⟨hM.1,hM.2.1,hM.2.2.1⟩;clear s7 o7 j7 hr9 hO9 hb7 hn9 b9 r0 i6 b4 d2 fa r5 d1 b8 r1 m8 a6 o8 s5 hM;go_wp2
  go_loopw [38] (fun s wr=>∃(k:Nat) (vr:Value) (Mr:List (Ind × Value)),s= .int .i64 k∧k≤n9∧GSt (gc+1) mb gc w7 v5 M wr vr (eS (P.take i)++((nm1,(l1:Int))::(LT.take k).filterMap Tm.atomI)) Mr (gW P i (nm1,(l1:Int)) ((LT.take k).filterMap Tm.atomI))) (fun s _=>n9-(intOf s).toNat)
  case atStart=>exact⟨0,v5,M,rfl,aT _,l9.out.1⟩
  case round=>
   obtain⟨wp,rfl⟩:∃wp,wp=wr:=⟨_,rfl⟩;obtain⟨k,vr,Mr,rfl,hk,hI⟩:=hrel
   by_cases s0:k<n9
   case neg=>
    obtain rfl:k=n9:=by omega
    have hN:Aside (GSt (gc+1) mb gc w1 (.slice none 0 0) [] wp vr (eS (P.take (i+1))) Mr (aR (P.take (i+1)))):=by
     have h1:=(l9.out.2.trans hI).congr (D':=aR (P.take (i+1))) fun q=>by rw [←d3.out.2.1 q,eP (by rw [f7.out.2.2.2.2.2];exact aA _)]
     have h2:LT.take k=LT:=eP (by rw [f7.out.2.2.2.2.2];exact aA _);rw [h2,←d3.out.1] at h1;exact h1
    clear hI;go_wp2;go_roundw
    case rel=>exact⟨i+1,vr,Mr,by simp,by omega,hN.out⟩
    case measure=>simp [intOf];omega
   obtain⟨T,hT⟩:∃T,LT[k]?=some T:=⟨LT[k]'(by rw [f7.out.2.2.2.2.2];exact s0),aL _⟩;obtain⟨g9,vs,rfl,q1,q2,q3,q4,hTV,hcT⟩:=r7.out k T hT;have c8:=Es hT;have o6:Below n w7 wp:=hI.bel (fun q hq=>l9.out.1.low (by have:=a8.out;have:=hA.out.2.1;omega)) (by have:=a8.out;have:=hA.out.2.1;omega) (by have:=a8.out;have:=hA.out.2.1;omega) (by have:=f7.out.2.2.2.2.1.size;have:=hA.out.2.1;omega);have c0:Aside (∀w2,Below n w7 w2→Calls Tryz.prog 186 #[.agg vs.toArray] w2 (AtomP n w2 T)):=fun w2 hb=>Et T n w2 vs (TmV.below hb (aA _) _ _ hTV) (by have:=f7.out.2.2.2.2.1.size;have:=hA.out.2.1;have:=hb.size;omega)
   have o9:∀(j:Nat) u,vs[j]?=some u→wp.cell? ⟨g9,k*7+j,none⟩=some u:=fun j u hj=>(GM (w:=w7) (a:=⟨g9,k*7+j,none⟩) (hI.2.1.blk g9 q4 q2 q3 q1)).trans (hcT j u hj)
   obtain⟨k3,v3,nm3,g3,i4,f5,d5⟩:=T;simp only [TmV] at hTV;obtain⟨_,_,a3,c3,rfl,⟨⟨p5,q5,rfl,_⟩,⟨p6,q6,rfl,_⟩⟩,_⟩:=hTV;obtain⟨TT,hTT⟩:∃x,Tm.mk k3 v3 nm3 g3 i4 f5 d5=x:=⟨_,rfl⟩;rw [hTT] at c0 c8;generalize d5.length=l3 at*;generalize i4.length=n5 at*;generalize f5.length=n6 at*;replace c0:Aside (∀w2,Below n w7 w2→Calls Tryz.prog 186 #[.agg #[.int .i64 k3,.int .i64 v3,.string nm3,.bool g3,.slice p5 n5 q5,.slice p6 n6 q6,.slice a3 l3 c3]] w2 (AtomP n w2 TT)):=c0;have f8:=aside3 hI o6 c8;have u0:(k:Int)<(n9:Int):=by omega
   have u1:(0:Int)≤(k:Int):=by omega
   have u3:IntKind.i64.wrap ((k:Int)+1)=(k:Int)+1:=by rw [aG];have:=d3.out.2.2;have:=f7.out.2.2.2.2.2;omega
   obtain⟨x0,x1,x2,x3,x4,x5,x6⟩:=jP (w2:=wp) (fun p hp=>rfl) o9;have r6:Aside (∃k v nm g num den args,TT=Tm.mk k v nm g num den args):=⟨_,_,_,_,_,_,_,hTT.symm⟩;clear hI c8 o9 hcT q1 q2 q3 q4 o6 hTT hT
   go_upto_region 11 with fail
   clear x0 x1 x2 x3 x4 x5 x6;obtain⟨wq,hwq⟩:∃wq,wp.alloc (Obj.cells #[.int .i64 k3,.int .i64 v3,.string nm3,.bool g3,.slice p5 n5 q5,.slice p6 n6 q6,.slice a3 l3 c3] 48)=wq:=⟨_,rfl⟩;have bq:=aC wp (Obj.cells #[.int .i64 k3,.int .i64 v3,.string nm3,.bool g3,.slice p5 n5 q5,.slice p6 n6 q6,.slice a3 l3 c3] 48);have k8:=heap_alloc_new wp (Obj.cells #[.int .i64 k3,.int .i64 v3,.string nm3,.bool g3,.slice p5 n5 q5,.slice p6 n6 q6,.slice a3 l3 c3] 48);rw [hwq] at bq k8 ⊢;clear hwq;obtain⟨x0,x1,x2,x3,x4,x5,x6⟩:=cY k8;have r2:Aside (GSt (gc+1) mb gc w7 v5 M wq vr (eS (P.take i)++((nm1,(l1:Int))::(LT.take k).filterMap Tm.atomI)) Mr (gW P i (nm1,(l1:Int)) ((LT.take k).filterMap Tm.atomI))∧Below n w7 wq):=⟨f8.out.1.below bq (aA _),f8.out.2.1.trans (bq.mono (by have:=f8.out.2.1.size;have:=f7.out.2.2.2.2.1.size;have:=hA.out.2.1;omega))⟩;clear bq k8
   go_wp2_with (go_at_call 186;with_reducible refine(c0.out _ r2.out.2).mono ?_)
   rintro e w8 ⟨us,b,rfl,hf,ht,hb8⟩;clear x0 x1 x2 x3 x4 x5 x6;have e9:Aside (GSt (gc+1) mb gc w7 v5 M w8 vr (eS (P.take i)++((nm1,(l1:Int))::(LT.take k).filterMap Tm.atomI)) Mr (gW P i (nm1,(l1:Int)) ((LT.take k).filterMap Tm.atomI))):=r2.out.1.below hb8 (aA _);cases b
   case false=>
    obtain⟨f1,f2,rfl⟩:=hf rfl;have hN:Aside (∀o,GSt (gc+1) mb gc w7 v5 M (w8.alloc o) vr (eS (P.take i)++((nm1,(l1:Int))::(LT.take (k+1)).filterMap Tm.atomI)) Mr (gW P i (nm1,(l1:Int)) ((LT.take (k+1)).filterMap Tm.atomI))):=fun o=>by
     rw [f8.out.2.2,Fa f1 f2];simp only [Option.toList_none,tU];exact e9.out.below (aC w8 o) (aA _)
    clear hf ht f1 f2 hb8;simp only [zTL];go_wp2;go_roundw
    case rel=>exact⟨k+1,vr,Mr,by simp,by omega,hN.out _⟩
    case measure=>simp [intOf];omega
   obtain⟨A,hA1,hTV⟩:=ht rfl;obtain⟨k4,v4,b5,g4,l5,j5,d6⟩:=A;simp only [TmV] at hTV;obtain⟨_,_,a4,c4,rfl,⟨⟨p7,q7,rfl,_⟩,⟨p8,q8,rfl,_⟩⟩,_⟩:=hTV;have c8:(LT.take (k+1)).filterMap Tm.atomI=(LT.take k).filterMap Tm.atomI++ [(b5,(d6.length:Int))]:=by
    rw [f8.out.2.2,Eu hA1];rfl
   clear hA1 hf ht;generalize d6.length=l4 at*;generalize l5.length=n7 at*;generalize j5.length=n8 at*;have j8:=aside c8;clear c8
   go_upto_region 13 with fail
   obtain⟨wy,hwy⟩:∃wy,w8.alloc (Obj.cells #[.int .i64 k4,.int .i64 v4,.string b5,.bool g4,.slice p7 n7 q7,.slice p8 n8 q8,.slice a4 l4 c4] 48)=wy:=⟨_,rfl⟩;have i7:=aC w8 (Obj.cells #[.int .i64 k4,.int .i64 v4,.string b5,.bool g4,.slice p7 n7 q7,.slice p8 n8 q8,.slice a4 l4 c4] 48);have h3:=heap_alloc_new w8 (Obj.cells #[.int .i64 k4,.int .i64 v4,.string b5,.bool g4,.slice p7 n7 q7,.slice p8 n8 q8,.slice a4 l4 c4] 48);rw [hwy] at i7 h3 ⊢;clear hwy;have j3:GSt (gc+1) mb gc w7 v5 M wy vr (eS (P.take i)++((nm1,(l1:Int))::(LT.take k).filterMap Tm.atomI)) Mr (gW P i (nm1,(l1:Int)) ((LT.take k).filterMap Tm.atomI)):=e9.out.below i7 (aA _);have r9:gc<w8.heap.size:=(Array.getElem?_eq_some_iff.1 e9.out.2.2).1;have t0:mb<w8.heap.size:=e9.out.1.map.lt;have e4:Aside (wy.heap[w8.heap.size]?=some (.cells #[.int .i64 k4,.int .i64 v4,.string b5,.bool g4,.slice p7 n7 q7,.slice p8 n8 q8,.slice a4 l4 c4] 48)∧OffG vr Mr w8.heap.size∧w8.heap.size≠mb∧w8.heap.size≠gc):=⟨h3,e9.out.off (aA _),by omega,by omega⟩;have y6:Aside (wy.heap[w2.heap.size]?=some (.cells #[.string nm1,.int .i64 l1] 63)∧OffG vr Mr w2.heap.size∧w2.heap.size≠mb∧w2.heap.size≠gc):=⟨j3.same f7.out.1 f7.out.2.2.1 f7.out.2.2.2.1 f7.out.2.1,j3.2.1.off _ (Array.getElem?_eq_some_iff.1 f7.out.1).1 f7.out.2.1,f7.out.2.2.1,f7.out.2.2.2.1⟩;have m5:=aside j3;have g7:Aside (∀w2,Below wy.heap.size wy w2→w2.cell? ⟨gc,0,none⟩=some vr∧w2.cell? ⟨gc,1,none⟩=some (.map (some mb))):=fun w2 hb=>eL ((hb.block gc (by have:=i7.size;omega)).trans m5.out.2.2)
   have d9:Aside (∀w2,Below wy.heap.size wy w2→_):=fun(w2:World) (hb:Below wy.heap.size wy w2)=>cY ((hb.block w8.heap.size (Array.getElem?_eq_some_iff.1 h3).1).trans h3)
   have h7:(eS (P.take i)++((nm1,(l1:Int))::(LT.take k).filterMap Tm.atomI)).length≤3010301∧(gW P i (nm1,(l1:Int)) ((LT.take k).filterMap Tm.atomI) (nm1,(l1:Int))).length≤3010000∧gc+1≤wy.heap.size:=by
    have q1:=e3.out.1;have q2:=e3.out.2 (nm1,(l1:Int));have q3:=d3.out.2.2;have q4:((LT.take k).filterMap Tm.atomI).length≤(LT.take k).length:=HB _ _;have q5:(LT.take k).length≤LT.length:=by rw [aU];omega
    refine⟨?_,?_,?_⟩
    ·rw [aK,fU];omega
    ·simp only [gW,if_true,aK];omega
    ·have:=i7.size;omega
   have b1:Aside _:=h7;have j0:Aside (3010301+1≤maxLen∧(3010301+1)*24≤140737488355328):=by show _∧_;unfold maxLen;omega
   have d8:∀u∈([.string b5,.int .i64 l4]:List Value),u.oneCell'=true:=by simp [Value.oneCell']
   have f6:Aside (∀w2,Calls Tryz.prog 26 #[.agg #[.int .i64 k4,.int .i64 v4,.string b5,.bool g4,.slice p7 n7 q7,.slice p8 n8 q8,.slice a4 l4 c4]] w2 fun e w'=>e= .returned (.agg #[.string b5,.int .i64 l4])∧Below w2.heap.size w2 w'):=fun w2=>uS k4 v4 b5 g4 _ _ _ _ _ w2
   clear h3 j3 r9 t0 h7 e9;have fd:Below wy.heap.size wy wy.drew:=dI _ _;refine Heavy.region_plan (fun w'=>Below wy.heap.size wy w') 5 (Heavy.lights [0,1,2] (.one 3 (.one 4 .done))) (by kernel_rfl) (by kernel_rfl) fd ?_;simp only [Heavy.lights,bB,bJ,bF,bE]
   (apply Heavy.light_n;(exact rfl);(exact rfl);(intro c6 hw;go_simp;exact rfl));(refine Heavy.norm_a (by go_simp;exact rfl) ?_)
   (apply Heavy.light_n;(exact rfl);(exact rfl);(intro c6 hw;have z0:=(g7.out c6 hw).1;go_simp;exact rfl));(refine Heavy.norm_a (by go_simp;exact rfl) ?_)
   (apply Heavy.light_n;(exact rfl);(exact rfl);(intro c6 hw;obtain⟨x0,x1,x2,x3,x4,x5,x6⟩:=d9.out c6 hw;go_simp;exact rfl));(refine Heavy.norm_a (by go_simp;exact rfl) ?_)
   (apply Heavy.one_n;(exact rfl);(exact rfl));go_simp
   refine(f6.out _).mono ?_;rintro e w9 ⟨rfl,hb9⟩;have f9:Below wy.heap.size wy w9:=fd.trans (hb9.mono fd.size);refine⟨_,rfl,f9,?_⟩
   (refine Heavy.norm_a (by go_simp;exact rfl) ?_)
   (apply Heavy.one_n;(exact rfl);(exact rfl));go_simp
   have n0:Below wy.heap.size wy (w9.alloc (.cells #[.string b5,.int .i64 l4] 63)):=f9.alloc f9.size _;refine⟨n0,?_⟩
   (refine Heavy.norm_a (by go_simp;exact rfl) ?_)
   apply Heavy.plan_end;show wpList _ _ _ _ _ _;have s9:=m5.out.re.below f9 (aA _);have g8:=s9.own (.cells #[.string b5,.int .i64 l4] 63);refine gK jV _ rfl _ _ rfl (gc+1) vr _ _ rfl g8 (.slice (some ⟨w9.heap.size,0,none⟩) 1 1) 1 [.string b5,.int .i64 l4] rfl (yE rfl) rfl d8 (by have:=j0.out;have:=b1.out.1;omega) (by have:=j0.out;have:=b1.out.1;omega) (by rw [cT];have:=f9.size;have:=b1.out.2.2;omega) ?_;intro f0 u4 o0 g6 h8;obtain⟨a7,hr13,s13,hz13⟩:=s9.push (by have:=a8.out;omega) (by omega) (by have:=a8.out;omega) (by have:=f9.size;have:=b1.out.2.2;omega) o0 g6 h8;have d4:=aside s13;have l6:Aside (a7.heap[w8.heap.size]?=some (.cells #[.int .i64 k4,.int .i64 v4,.string b5,.bool g4,.slice p7 n7 q7,.slice p8 n8 q8,.slice a4 l4 c4] 48)∧OffG f0 Mr w8.heap.size):=⟨s13.same e4.out.1 e4.out.2.2.1 e4.out.2.2.2 e4.out.2.1,s13.2.1.off _ (Array.getElem?_eq_some_iff.1 e4.out.1).1 e4.out.2.1⟩;have p6:Aside (a7.heap[w2.heap.size]?=some (.cells #[.string nm1,.int .i64 l1] 63)∧OffG f0 Mr w2.heap.size):=⟨s13.same y6.out.1 y6.out.2.2.1 y6.out.2.2.2 y6.out.2.1,s13.2.1.off _ (Array.getElem?_eq_some_iff.1 y6.out.1).1 y6.out.2.1⟩;clear o0 g6 h8 s13 hz13 s9 g8 n0 f9 hb9 fd g7 d9
   iterate 1 (refine eV rfl fun K hK=>?_;go_simp;refine hK _ _ ?_;clear hK)
   refine lJ rfl 127 _ _ rfl (v:=.pointer (some ⟨gc,0,none⟩)) (u:=f0) rfl rfl hr13 ?_;clear hr13
   go_upto_region 14 with fail
   have k0:Aside (∀wz:World,wz.heap[gc]?=a7.heap[gc]?→wz.cell? ⟨gc,0,none⟩=some f0∧wz.cell? ⟨gc,1,none⟩=some (.map (some mb))):=fun wz hb=>eL (hb.trans d4.out.2.2)
   have g0:Aside (∀wz:World,wz.heap[w8.heap.size]?=a7.heap[w8.heap.size]?→_):=fun(wz:World) (hb:wz.heap[w8.heap.size]?=a7.heap[w8.heap.size]?)=>cY (hb.trans l6.out.1)
   have g5:Aside (∀wz:World,wz.heap[w2.heap.size]?=a7.heap[w2.heap.size]?→wz.cell? ⟨w2.heap.size,0,none⟩=some (.string nm1)∧wz.cell? ⟨w2.heap.size,1,none⟩=some (.int .i64 l1)):=fun wz hb=>eL (hb.trans p6.out.1)
   have q9:gc<a7.heap.size∧w8.heap.size<a7.heap.size∧w2.heap.size<a7.heap.size:=⟨(Array.getElem?_eq_some_iff.1 d4.out.2.2).1,(Array.getElem?_eq_some_iff.1 l6.out.1).1,(Array.getElem?_eq_some_iff.1 p6.out.1).1⟩;have b7:Aside _:=q9;have bC:Aside (∀wz,Below a7.heap.size a7 wz→C14 gc w8.heap.size w2.heap.size a7 wz):=fun wz hb=>⟨hb.block _ b7.out.1,hb.block _ b7.out.2.1,hb.block _ b7.out.2.2⟩
   clear q9;have fd:Below a7.heap.size a7 a7.drew:=dI _ _;refine Heavy.region_plan (fun w'=>C14 gc w8.heap.size w2.heap.size a7 w') 10 (Heavy.lights [0,1,2,3] (.one 4 (.one 5 (.one 6 (Heavy.lights [7,9] (.one 8 .done)))))) (by kernel_rfl) (by kernel_rfl) (bC.out _ fd) ?_;simp only [Heavy.lights,bB,bJ,bF,bE]
   (apply Heavy.light_n;(exact rfl);(exact rfl);(intro c6 hw;go_simp;exact rfl));(refine Heavy.norm_a (by go_simp;exact rfl) ?_)
   (apply Heavy.light_n;(exact rfl);(exact rfl);(intro c6 hw;have z0:=(k0.out c6 hw.1).2;go_simp;exact rfl));(refine Heavy.norm_a (by go_simp;exact rfl) ?_)
   (apply Heavy.light_n;(exact rfl);(exact rfl);(intro c6 hw;have z0:=(g5.out c6 hw.2.2).1;have z1:=(g5.out c6 hw.2.2).2;go_simp;exact rfl));(refine Heavy.norm_a (by go_simp;exact rfl) ?_)
   (apply Heavy.light_n;(exact rfl);(exact rfl);(intro c6 hw;obtain⟨x0,x1,x2,x3,x4,x5,x6⟩:=g0.out c6 hw.2.1;go_simp;exact rfl));(refine Heavy.norm_a (by go_simp;exact rfl) ?_)
   (apply Heavy.one_n;(exact rfl);(exact rfl));go_simp
   refine(f6.out _).mono ?_;rintro e e0 ⟨rfl,hb14⟩;have i9:Below a7.heap.size a7 e0:=fd.trans (hb14.mono fd.size);refine⟨_,rfl,(bC.out _ i9),?_⟩
   (refine Heavy.norm_a (by go_simp;exact rfl) ?_)
   (apply Heavy.one_n;(exact rfl);(exact rfl));go_simp
   have d7:Below a7.heap.size a7 (e0.alloc (.cells #[.string b5,.int .i64 l4] 63)):=i9.alloc i9.size _;refine⟨bC.out _ d7,?_⟩
   (refine Heavy.norm_a (by go_simp;exact rfl) ?_)
   obtain⟨wb,hwb⟩:∃wb,e0.alloc (.cells #[.string b5,.int .i64 l4] 63)=wb:=⟨_,rfl⟩;have k7:=heap_alloc_new e0 (Obj.cells #[.string b5,.int .i64 l4] 63);have i1:wb.heap.size=e0.heap.size+1:=by rw [←hwb,cT]
   have i0:=aside2 hwb i1;rw [hwb] at d7 k7 ⊢;clear hwb i1;have l7:=d4.out.re.below d7 (aA _);obtain⟨u,st,wc,hu,k5,hgc',hsc,hstp,huo⟩:=l7.entry (by have:=a8.out;omega) (nm1,(l1:Int));have i8:C14 gc w8.heap.size w2.heap.size a7 wc:=by
    have q:=bC.out _ d7;have l:=b7.out;have l2:=d7.size;refine⟨(hgc'.block _ (by omega) (fun e=>?_)).trans q.1,(hgc'.block _ (by omega) (fun e=>?_)).trans q.2.1,(hgc'.block _ (by omega) (fun e=>?_)).trans q.2.2⟩
    ·have:=aJ e;have:=a8.out;omega
    ·exact e4.out.2.2.1 (aJ e)
    ·exact y6.out.2.2.1 (aJ e)
   replace k5:(Instr.mapEntry 166 (.map (some mb)) (.agg #[.string nm1,.int .i64 l1])).run Tryz.prog wb= .ok (.tuple #[u,.int .i64 ((st:Nat):Int)]) wc:=k5;have a0:=aside5 hu hgc' hsc hstp huo;have i5:=aside l7;clear hu hgc' hsc hstp huo l7
   (apply Heavy.one_n;(exact rfl);(exact rfl));go_simp
   (refine Heavy.norm_a (by go_simp;exact rfl) ?_)
   clear k5
   iterate 2 ((apply Heavy.light_n;(exact rfl);(exact rfl);(intro c6 hw;go_simp;exact rfl));(refine Heavy.norm_a (by go_simp;exact rfl) ?_))
   have h4:SrcAt wc (.slice (some ⟨e0.heap.size,0,none⟩) 1 1) 1 [.string b5,.int .i64 l4]:=yE (by
    have e:=a0.out.2.1.block e0.heap.size (by have:=i0.out.2;omega) (fun e=>by have:=aJ e;have:=i9.size;have:=b7.out.1;have:=a8.out;omega);rw [e,←i0.out.1])
   refine Heavy.one_app jV rfl rfl _ _ rfl (gc+1) u _ _ rfl a0.out.2.2.2.2 (.slice (some ⟨e0.heap.size,0,none⟩) 1 1) 1 _ rfl h4 rfl d8 (by have:=j0.out;have:=b1.out.2.1;omega) (by have:=j0.out;have:=b1.out.2.1;omega) (by have:=a0.out.2.2.1;have:=d7.size;have:=b7.out.1;omega) ?_;intro t6 t7 o1 d0 h9;have m6:C14 gc w8.heap.size w2.heap.size a7 t7:=by
    have l:=b7.out;have l2:=d7.size;have l3:=a0.out.2.2.1;refine⟨(d0.block _ (by omega) (fun e=>?_)).trans i8.1,(d0.block _ (by omega) (fun e=>l6.out.2.ent a0.out.1 e.symm)).trans i8.2.1,(d0.block _ (by omega) (fun e=>p6.out.2.ent a0.out.1 e.symm)).trans i8.2.2⟩;have:=(bT a0.out.2.2.2.2 gc e.symm).1;omega
   refine⟨m6,?_⟩
   (refine Heavy.norm_a (by go_simp;exact rfl) ?_)
   apply Heavy.plan_end;show wpList _ _ _ _ _ _;obtain⟨we,hes,s18,_⟩:=i5.out.finish (by have:=a8.out;omega) (by omega) (by have:=a8.out;omega) (by have:=d7.size;have:=b7.out.1;omega) a0.out.1 a0.out.2.1 a0.out.2.2.1 a0.out.2.2.2.1 a0.out.2.2.2.2 o1 d0 h9;have hN:Aside (GSt (gc+1) mb gc w7 v5 M we f0 (eS (P.take i)++((nm1,(l1:Int))::(LT.take (k+1)).filterMap Tm.atomI)) (putM (nm1,(l1:Int)) t6 Mr) (gW P i (nm1,(l1:Int)) ((LT.take (k+1)).filterMap Tm.atomI))):=by
    have h1:=(m5.out.trans (d4.out.trans s18)).congr fun q=>Ch P i (nm1,(l1:Int)) ((LT.take k).filterMap Tm.atomI) (b5,(l4:Int)) q
    rw [j8.out];rw [eZ,oJ] at h1;exact h1
   clear o1 d0 h9 m6 i8 s18 a0 i5 h4;go_wp2;go_roundw
   case rel=>exact⟨k+1,f0,_,by simp,by omega,hN.out⟩
   case measure=>simp [intOf];omega
end
def GU (ba:Nat) (w:World) (b:Nat) (M:List (Ind × Value)) (P:List Cl):Prop:=
 aS aO w b M∧(∀k u,aN k M=some u→aD ba w u (aR P k))∧(∀k,aN k M=none→aR P k= [])
theorem GU.below {m:Nat} (h:GU ba w b M P) (hb:Below m w w') (hm:w.heap.size≤m):GU ba w' b M P:=
 ⟨h.1.of_block (hb.block b (aZ h.1.lt hm)),fun k u hk=>(h.2.1 k u hk).below hb hm,h.2.2⟩
theorem GU.row (h:GU ba w b M P) (k:Ind):aD ba w ((aN k M).getD (.slice none 0 0)) (aR P k):=by
 cases hk:aN k M with
 |none=>rw [h.2.2 k hk];exact aD.nil _ _
 |some u=>exact h.2.1 k u hk
theorem GU.look (h:GU ba w b M P) (x:ByteArray) (m:Int):(Instr.lookup 166 (.map (some b)) (.agg #[.string x,.int .i64 m]) false).run Tryz.prog w= .ok ((aN (x,m) M).getD (.slice none 0 0)) w:=
 sG jF u166 z127 h.1 (x,m)
theorem aD.cut {base:Nat} {g n cap:Nat} (h:aD base w (.slice (Option.some ⟨g,0,none⟩) n cap) L) (hn:L.length=n) {k:Nat} (hk:k≤n):aD base w (.slice (Option.some ⟨g,0,none⟩) k cap) (L.take k):=by
 unfold aD at h;rw [hn] at h;obtain⟨a2,⟨e,_⟩|⟨g',cap',cur,e,hb,hg,hnc,hm,hs,ht⟩⟩:=h
 ·cases e
 cases e;have a1:(L.take k).length=k:=by rw [aU,hn];omega
 unfold aD;rw [a1];refine⟨by rw [flat_len,a1],.inr ⟨g,cap,cur,rfl,hb,hg,by omega,hm,hs,?_⟩⟩;rw [flat_take,←ht,GV,kY (by omega)]
theorem OI (P:List Cl):∀(K:List Ind),K.Nodup→(K.map fun k=>(aR P k).length).sum≤(qZ P).length:=by
 induction P with
 | nil=>
  intro K _;have:∀K:List Ind,(K.map fun k=>(aR [] k).length).sum=0:=by
   intro K
   induction K with
   |nil=>rfl
   |cons a r ih=>rw [gB,GX,ih];rfl
  rw [this];exact aT _
 | cons C r ih=>
  intro K hK;have h1:=ih K hK;have h2:(K.map fun k=>(jW k C).length).sum≤C.atoms.length:=by
   clear h1 ih
   induction K with
   |nil=>simp
   | cons a K ihK=>
    have a0:=List.nodup_cons.1 hK;simp only [gB,GX]
    by_cases e:C.h.ind=a
    ·have hz:∀K:List Ind,a∉K→(K.map fun k=>(jW k C).length).sum=0:=by
      intro K
      induction K with
      |nil=>simp
      |cons c K ih2=>
       intro hn;have hc:¬C.h.ind=c:=fun q=>hn (by rw [←e,q];simp)
       have a3:a∉K:=fun q=>hn (by simp [q])
       simp only [gB,GX,ih2 a3];simp [jW,hc]
     rw [hz K a0.1];simp [jW,e]
    ·have:=ihK a0.2;simp only [jW,if_neg e,rJ,cG];exact this
  have h3:(K.map fun k=>(aR (C::r) k).length).sum=(K.map fun k=>(jW k C).length).sum+(K.map fun k=>(aR r k).length).sum:=by
   clear h1 h2 hK
   induction K with
   |nil=>simp
   |cons a K ihK=>
    simp only [gB,GX,ihK];have:(aR (C::r) a).length=(jW a C).length+(aR r a).length:=by simp [aR]
    omega
  rw [h3];simp only [qZ,oH,aK] at h1 ⊢;omega
structure FmS (P:List Cl) (x:Ind) (D:List (Ind × Value)) (S:List Ind):Prop where
 tr:∀p∈D,p.2= .bool true
 us:∀p∈D,cQ P x p.1
 ss:∀y∈S,cQ P x y
 d0:∀z∈aR P x,z∈D.map (·.1)∨z∈S
 cl:∀p∈D,∀z∈aR P p.1,z∈D.map (·.1)∨z∈S
 ln:S.length≤(aR P x).length+((D.map (·.1)).map fun k=>(aR P k).length).sum
theorem FmS.start (P:List Cl) (x:Ind):FmS P x [] (aR P x) where
 tr:=by simp
 us:=by simp
 ss:=fun y hy=>.single hy
 d0:=fun z hz=>.inr hz
 cl:=by simp
 ln:=by simp
theorem FmS.old (h:FmS P x D (S++ [y])) (hy:y∈D.map (·.1)):FmS P x D S where
 tr:=h.tr
 us:=h.us
 ss:=fun z hz=>h.ss z (mY _ hz)
 d0:=fun z hz=>by
  rcases h.d0 z hz with q|q
  ·exact .inl q
  ·rcases bX.1 q with q|q
   ·exact .inr q
   ·simp at q;subst q;exact .inl hy
 cl:=fun p hp z hz=>by
  rcases h.cl p hp z hz with q|q
  ·exact .inl q
  ·rcases bX.1 q with q|q
   ·exact .inr q
   ·simp at q;subst q;exact .inl hy
 ln:=by have:=h.ln;simp at this ⊢;omega
theorem FmS.new (h:FmS P x D (S++ [y])):FmS P x (D++ [(y,.bool true)]) (S++aR P y) where
 tr:=fun p hp=>by
  rcases bX.1 hp with q|q
  ·exact h.tr p q
  ·simp at q;subst q;rfl
 us:=fun p hp=>by
  rcases bX.1 hp with q|q
  ·exact h.us p q
  ·simp at q;subst q;exact h.ss y (by simp)
 ss:=fun z hz=>by
  rcases bX.1 hz with q|q
  ·exact h.ss z (mY _ q)
  ·exact .tail (h.ss y (by simp)) q
 d0:=fun z hz=>by
  rcases h.d0 z hz with q|q
  ·exact .inl (by rw [mZ];exact mY _ q)
  ·rcases bX.1 q with q|q
   ·exact .inr (mY _ q)
   ·simp at q;subst q;exact .inl (by simp)
 cl:=fun p hp z hz=>by
  rcases bX.1 hp with q|q
  ·rcases h.cl p q z hz with q|q
   ·exact .inl (by rw [mZ];exact mY _ q)
   ·rcases bX.1 q with q|q
    ·exact .inr (mY _ q)
    ·simp at q;subst q;exact .inl (by simp)
  ·simp at q;subst q;exact .inr (SI _ hz)
 ln:=by have:=h.ln;simp at this ⊢;omega
theorem FmS.done (h:FmS P x D []) (y:Ind):y∈D.map (·.1)↔cQ P x y:=by
 constructor
 ·intro hy;obtain⟨p,hp,rfl⟩:=dG.1 hy;exact h.us p hp
 ·intro hu
  induction hu with
  |single h1=>exact(h.d0 _ h1).resolve_right (by simp)
  |tail _ h1 ih=>
   obtain⟨p,hp,e⟩:=dG.1 ih;subst e;exact(h.cl p hp _ h1).resolve_right (by simp)
theorem FmS.len (h:FmS P x D S) (hn:(D.map (·.1)).Nodup) (hF:∀C∈P,C.flt=0) (hP:P.length≤300):S.length≤6000000∧D.length≤3000000:=by
 have h1:=QY hF;have h2:=OI P _ hn;have h3:=OI P [x] (by simp);have h4:=h.ln;simp at h3;have h5:=Go.Proofs.Plain.nodup_sub_len hn fun y hy=>by
  obtain⟨p,hp,e⟩:=dG.1 hy;subst e;exact IC (h.us p hp)
 rw [oG] at h5;omega
def oW (w:World) (b:Nat):Nat:=match w.heap[b]? with
 |some (.map es _)=>es.size
 |_=>0
theorem uZ (h:aS aO w b D):oW w b=D.length:=by
 obtain⟨es,c,h1,h2⟩:=h;have:=h2.rel.length;rw [cV] at this;simp [oW,h1,this]
theorem rR:Tryz.prog.underlying 163=some (.map 63 4):=Tryz.underlying163
theorem z4:∀w,(zeroValue 4).run Tryz.prog w= .ok (.bool false) w:=fun w=>Tryz.zeroValue4 w
theorem yW (h:aS aO w b D) (ht:∀p∈D,p.2= .bool true) (x:ByteArray) (m:Int):(Instr.lookup 163 (.map (some b)) (.agg #[.string x,.int .i64 m]) false).run Tryz.prog w= .ok (.bool (gT (x,m) (D.map (·.1)))) w:=by
 have:=sG jF rR z4 h (x,m);refine this.trans ?_;cases hk:aN (x,m) D with
 | none=>
  have hn:(x,m)∉D.map (·.1):=fun hm=>by
   obtain⟨p,hp,e⟩:=dG.1 hm;exact IA.1 hk p hp e.symm
  rw [sE.2 hn];rfl
 |some u=>
  have hm:=xB hk;have hu:=ht _ hm;simp only at hu;subst hu;have hi:(x,m)∈D.map (·.1):=dG.2 ⟨_,hm,rfl⟩;rw [mF.2 hi];rfl
section
attribute [local go_sem] Heavy.uponW
theorem Dm (ba:Nat) (w:World) (u:Value) (L:List Ind) (h:aD ba w u L) (a5:L.length≤3000000):
  Calls Tryz.prog 246 #[u] w fun e w'=>∃v,e= .returned v∧aD w.heap.size w' v L∧Below w.heap.size w w':=by
 have h0:=h;obtain⟨a1,⟨rfl,hz⟩|⟨g,cap,cur,rfl,hb,hg,hnc,hm,hs,ht⟩⟩:=h
 ·obtain rfl:L= []:=lB hz;have hR:Aside (aD w.heap.size w (.slice none 0 0) []):=aD.nil _ _;clear a1 hz h0;have a6:=fun w=>SS (P:=Tryz.prog) w 127 63 none 0 0 0 0 Tryz.underlying127
  go_enter Tryz.func246,Tryz.ntmps246;go_wp2
  go_ret
  exact⟨_,rfl,hR.out,aI _ _⟩
 ·obtain⟨n,hn⟩:∃n,L.length=n:=⟨_,rfl⟩;rw [hn];have a0:Aside (L.length=n∧aD ba w (.slice (some ⟨g,0,none⟩) n cap) L):=⟨hn,by rw [hn] at h0;exact h0⟩;clear a1 hb hg hnc hm hs ht h0 hn;have b0:=aC w (Obj.cells #[] 63);have hq:=heap_alloc_new w (Obj.cells #[] 63);have a2:(w.alloc (Obj.cells #[] 63)).ownsRow w.heap.size 63 2 (.slice (some ⟨w.heap.size,0,none⟩) 0 0) 0 []:=⟨rfl,.inr ⟨w.heap.size,0,#[],rfl,aA _,hq,aA _,aT _,rfl,rfl⟩⟩;have a3:SrcAt (w.alloc (Obj.cells #[] 63)) (.slice (some ⟨g,0,none⟩) n cap) n (L.flatMap aP):=by
   have:=rS (a0.out.2.below b0 (aA _));rw [a0.out.1] at this;exact this
  have a6:=fun w=>SS (P:=Tryz.prog) w 127 63 (some ⟨g,0,none⟩) n cap 0 0 Tryz.underlying127
  go_enter Tryz.func246,Tryz.ntmps246
  go_upto_region 3 with fail
  refine iP ?_
  iterate 2 (refine eV rfl fun K hK=>?_;go_simp;refine hK _ _ ?_;clear hK)
  refine gK jV _ rfl _ _ rfl w.heap.size (.slice (some ⟨w.heap.size,0,none⟩) 0 0) 0 [] rfl a2 (.slice (some ⟨g,0,none⟩) n cap) n _ rfl a3 (by rw [flat_len,a0.out.1]) (zT L) (by have:=a0.out.1;unfold maxLen;omega) (by have:=a0.out.1;omega) (by rw [cT];omega) ?_;intro v5 w5 h5 a4 a7;have hR:Aside (aD w.heap.size w5 v5 L∧Below w.heap.size w w5):=by
   refine⟨?_,b0.grown a4 b0.size (fun k hk=>by simp [Value.ownBlock] at hk;omega)⟩;unfold aD;rw [a0.out.1];simpa using h5
  clear h5 a4 a7 a2 a3 hq b0;go_wp2
  go_ret
  exact⟨_,rfl,hR.out.1,hR.out.2⟩
end
end Go.Proofs.YtbdpdeonapmlgaaGreatDoor
