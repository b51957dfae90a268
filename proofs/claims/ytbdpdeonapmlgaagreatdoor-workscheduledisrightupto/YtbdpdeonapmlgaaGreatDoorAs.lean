/- Lemmas; no condition. -/
import Derived.Test.YtbdpdeonapmlgaaGreatDoorAr
set_option linter.all false
set_option maxHeartbeats 4000000
set_option maxRecDepth 100000
namespace Go.Proofs.YtbdpdeonapmlgaaGreatDoor
open Go.RowKit Go.Big Go.RowsK Go.MapK
variable {og:Option Nat} {F:List Int} {w w':Wo} {T h:Tm} {us:Lv} {lo n mb i:Nat}
section
attribute [local go_sem] Heavy.uponW
def XP (f:Int→Int) (k1 v1:Int) (a0:ByteArray) (g1:Bool) (num den:List Nat) (args:List Tm) (ih:∀A∈args,SubOk f A):SubOk f (.mk k1 v1 a0 g1 num den args):=by
 intro V S n mb w ts b9 d6 hn hM hV hE;have hT:=TmS.toV b9 _ _ d6;have d5:=d6;have hR:=LX hE;simp only [TmV] at hT;obtain⟨_,_,a1,c1,rfl,⟨⟨p1,q1,rfl,_⟩,⟨r1,u1,rfl,_⟩⟩,hS,_⟩:=hT;have f8:=TmS.argsS d6;obtain⟨n1,hn1⟩:∃x,num.length=x:=⟨_,rfl⟩;obtain⟨m1,hm1⟩:∃x,den.length=x:=⟨_,rfl⟩;obtain⟨l1,hl1⟩:∃x,args.length=x:=⟨_,rfl⟩;rw [hn1,hm1,hl1] at d5 ⊢;rw [hl1] at hR;have e3:Aside (Tm.ren f (.mk k1 v1 a0 g1 num den args)= .mk k1 v1 a0 g1 num den args→∀w3,Bz w w3→SubP f (.mk k1 v1 a0 g1 num den args) S w [.int .i64 k1,.int .i64 v1,.string a0,.bool g1,.slice p1 n1 q1,.slice r1 m1 u1,.slice a1 l1 c1] (.returned (.agg (tA k1 v1 a0 g1 p1 n1 q1 r1 m1 u1 a1 l1 c1))) w3):=fun hr w3 hb=>sub_un hn1 hm1 hl1 b9 d5 hn hE hr hb
 have b4:Aside (∀(_:k1=5) (ab ao:Nat) (_:a1=some ⟨ab,ao,none⟩) (w3:Wo) (gl cap:Nat) (C:Array Value),0<l1→Bz w w3→w.heap.size≤gl→w3.heap[gl]?=some (.cells C 48)→(∀(j:Nat) A,args[j]?=some A→∃vs,vs.length=7∧(∀(m:Nat) u,vs[m]?=some u→C[j*7+m]?=some u)∧TmS (fun b=>S b∨(w.heap.size≤b∧b<w3.heap.size)) w3 (A.ren f) vs)→
   SubP f (.mk k1 v1 a0 g1 num den args) S w [.int .i64 k1,.int .i64 v1,.string a0,.bool g1,.slice p1 n1 q1,.slice r1 m1 u1,.slice a1 l1 c1] (.returned (.agg #[.int .i64 5,.int .i64 v1,.string a0,.bool g1,.slice p1 n1 q1,.slice r1 m1 u1,.slice (some ⟨gl,0,none⟩) l1 cap])) w3):=by
  intro e5 ab ao ea w3 gl cap C h1 h2 h3 h4 h5;subst e5 ea;exact XR hn1 hm1 hl1 b9 d5 hn h1 h2 h3 h4 h5
 have b6:Aside (k1=1→∀w3,Bz w w3→SubP f (.mk k1 v1 a0 g1 num den args) S w [.int .i64 k1,.int .i64 v1,.string a0,.bool g1,.slice p1 n1 q1,.slice r1 m1 u1,.slice a1 l1 c1] (.returned (.agg #[.int .i64 1,.int .i64 (f v1),.string ⟨#[]⟩,.bool false,.slice none 0 0,.slice none 0 0,.slice none 0 0])) w3):=by
  intro e w3 hb;subst e;exact XQ hE hb
 have vA:Aside (k1=1→V v1):=fun e=>hV v1 (by subst e;simp [Tm.occ])
 have a9:Aside ((∀A∈args,A.ren f=A)→k1≠1→Tm.ren f (.mk k1 v1 a0 g1 num den args)= .mk k1 v1 a0 g1 num den args):=fun h1 h2=>LZ (fun e=>absurd e h2) h1
 have h9:Aside (∀(j:Nat) A,args[j]?=some A→∀w2 vs,TmS S w2 A vs→n≤w2.heap.size→kK f V w2 mb→Cz 197 #[.agg vs.toArray,.map (some mb)] w2 (SubP f A S w2 vs)):=fun j A hj w2 vs h1 h2 h3=>
  ih A (aV hj) V S n mb w2 vs b9 h1 h2 h3 (fun x hx=>hV x (by simp only [Tm.occ];exact .inr (EQ (aV hj) hx))) (Fk (xM hE).2 hj)
 obtain⟨TT,hTT⟩:∃t,Tm.mk k1 v1 a0 g1 num den args=t:=⟨_,rfl⟩;rw [hTT] at e3 b4 b6 a9 ⊢;have lA:Aside (args.length=l1∧(k1≠5→args= [])):=⟨hl1,hR.2⟩;have a6:=aside3 hS f8 b9;have g7:=hR.1;clear ih hV hE hTT hn1 hm1 hl1 d5 hR d6 f8 b9;obtain⟨wb,hwb,b0,hq,hsz⟩:=ebx w (bA k1 v1 a0 g1 p1 n1 q1 r1 m1 u1 a1 l1 c1);have b1:=aC wb (Obj.cells #[.int .i64 0,.int .i64 0,.string ⟨#[]⟩,.bool false,.slice none 0 0,.slice none 0 0,.slice none 0 0] 48);have f0:=aJ wb (Obj.cells #[.int .i64 0,.int .i64 0,.string ⟨#[]⟩,.bool false,.slice none 0 0,.slice none 0 0,.slice none 0 0] 48);obtain⟨wc,hwc⟩:=enm (wb.alloc (Obj.cells #[.int .i64 0,.int .i64 0,.string ⟨#[]⟩,.bool false,.slice none 0 0,.slice none 0 0,.slice none 0 0] 48));have c9:wc.heap.size=w.heap.size+2:=by rw [←hwc,cB];omega
 rw [hwc] at b1 f0;have f1:Bz w wc:=b0.trans (b1.mono b0.size);have xA:Aside (∀w2,Bz wc w2→w2.heap[w.heap.size]?=some (.cells (tA k1 v1 a0 g1 p1 n1 q1 r1 m1 u1 a1 l1 c1) 48)):=fun w2 hb=>((hb.block w.heap.size (by omega)).trans (b1.block w.heap.size (by omega))).trans hq
 have zA:Aside (∀w2,Bz wc w2→w2.heap[w.heap.size+1]?=some (.cells #[.int .i64 0,.int .i64 0,.string ⟨#[]⟩,.bool false,.slice none 0 0,.slice none 0 0,.slice none 0 0] 48)):=fun w2 hb=>(hb.block (w.heap.size+1) (by omega)).trans (by rw [←hsz];exact f0)
 have mA:Aside (∀w2,Bz wc w2→kK f V w2 mb):=fun w2 hb=>hM.below (f1.trans (hb.mono f1.size))
 have fA:=aside2 f1 c9;clear b0 hq b1 f0 f1 hM c9;obtain⟨x0,x1,x2,x3,x4,x5,x6⟩:=bZ (xA.o wc (bD _ _));show Cz 197 #[.agg (tA k1 v1 a0 g1 p1 n1 q1 r1 m1 u1 a1 l1 c1),.map (some mb)] w _
 by_cases h1:k1=1
 case pos=>
  have hR:Aside (∀w3,Bz w w3→_):=b6.o h1;have lk:=(mA.o wc (bD _ _)).look (vA.o h1);subst h1;unfold VarC at lk;go_enter Tryz.func197,Tryz.ntmps197
  go_upto_region 5 with fail
  have bd:=aC wc (Obj.cells #[.int .i64 1,.int .i64 (f v1),.string ⟨#[]⟩,.bool false,.slice none 0 0,.slice none 0 0,.slice none 0 0] 48);have g9:=aJ wc (Obj.cells #[.int .i64 1,.int .i64 (f v1),.string ⟨#[]⟩,.bool false,.slice none 0 0,.slice none 0 0,.slice none 0 0] 48);have h8:=zA.o _ bd;obtain⟨wd,hwd⟩:=enm (wc.alloc (Obj.cells #[.int .i64 1,.int .i64 (f v1),.string ⟨#[]⟩,.bool false,.slice none 0 0,.slice none 0 0,.slice none 0 0] 48));rw [hwd] at bd g9 h8 ⊢;obtain⟨y0,y1,y2,y3,y4,y5,y6⟩:=bZ g9;obtain⟨w4,hst,hq3,hg3,hs3⟩:=fT (vs:=[.int .i64 1,.int .i64 (f v1),.string ⟨#[]⟩,.bool false,.slice none 0 0,.slice none 0 0,.slice none 0 0]) h8 rfl (by simp [Value.oneCell']);have c8:=lY hst;clear hst lk x0 x1 x2 x3 x4 x5 x6;refine dZ ?_
  iterate 1 (refine bE rfl fun K hK=>?_;go_simp;refine hK _ _ ?_;clear hK)
  refine eR rfl 48 _ _ rfl (v:=.pointer (some ⟨w.heap.size+1,0,none⟩)) (u:=.agg #[.int .i64 1,.int .i64 (f v1),.string ⟨#[]⟩,.bool false,.slice none 0 0,.slice none 0 0,.slice none 0 0]) rfl rfl c8 ?_;go_wp2;refine fQ (kU rfl _ _ (w.heap.size+1) 48 _ _ _ rfl hq3 Tryz.underlying48 rfl (by kernel_rfl)) rfl ?_;exact hR.o _ ((fA.o.1.trans (bd.mono fA.o.1.size)).grown hg3 (by have:=bd.size;have:=fA.o.2;omega) (by intro k hk;injection hk with hk;omega))
 by_cases h5:k1=5
 case neg=>
  have hR:Aside (∀w3,Bz w w3→_):=e3.o (a9.o (by rw [lA.o.2 h5];simp) h1);have e1:(k1==1)=false:=by simpa using h1
  have e5:(k1==5)=false:=by simpa using h5
  obtain⟨w4,hst,hq3,hg3,hs3⟩:=fT (vs:=[.int .i64 k1,.int .i64 v1,.string a0,.bool g1,.slice p1 n1 q1,.slice r1 m1 u1,.slice a1 l1 c1]) (zA.o wc (bD _ _)) rfl (by simp [Value.oneCell']);have c8:=lY hst;clear hst;go_enter Tryz.func197,Tryz.ntmps197
  go_upto_region 21 with fail
  refine dZ ?_
  iterate 1 (refine bE rfl fun K hK=>?_;go_simp;refine hK _ _ ?_;clear hK)
  refine eR rfl 48 _ _ rfl (v:=.pointer (some ⟨w.heap.size+1,0,none⟩)) (u:=.agg (tA k1 v1 a0 g1 p1 n1 q1 r1 m1 u1 a1 l1 c1)) rfl rfl c8 ?_;go_wp2;refine fQ (kU rfl _ _ (w.heap.size+1) 48 _ _ _ rfl hq3 Tryz.underlying48 rfl (by kernel_rfl)) rfl ?_;exact hR.o _ (fA.o.1.grown hg3 (by have:=fA.o.2;omega) (by intro k hk;injection hk with hk;omega))
 subst h5;have hl:=g7 rfl;obtain⟨A0,hA0⟩:∃A,args[0]?=some A:=⟨args[0]'(by rw [lA.o.1];exact hl.1),bM _⟩;obtain⟨ab,ao,_,rfl,hab,_,_⟩:=a6.o.1.get hA0;obtain⟨X,hX,hXc,hXe⟩:=KF a6.o.2.2 args 0 a6.o.2.1;have d7:Aside (TsX n w args X∧SrcAt w (.slice (some ⟨ab,ao,none⟩) l1 c1) l1 X∧∀(j:Nat) A,args[j]?=some A→∃vs,TmS S w A vs∧∀(m:Nat) u,vs[m]?=some u→X[j*7+m]?=some u):=⟨hX,.inr ⟨_,_,rfl,fun j u hj=>by rw [jI];have:=hXc j u hj;simpa using this⟩,hXe⟩;have d1:Aside (0<l1∧l1≤32∧ab<n):=⟨hl.1,hl.2,hab⟩;have dC:Aside (∀w2,Bz w w2→Cz 69 #[.slice (some ⟨ab,ao,none⟩) l1 c1] w2 fun e w'=>∃a c',e= .returned (.slice a l1 c')∧w'.ownsRow w2.heap.size 48 7 (.slice a l1 c') l1 X∧Bz w2 w'):=fun w2 hb=>by
  have:=SJ n w2 ab ao c1 args X (by rw [lA.o.1];exact KS d7.o.2.1 hb) (d7.o.1.below hb hn) d7.o.1.len (aD hn hb.size) (by rw [lA.o.1];have:=d1.o.2.1;omega);rw [lA.o.1] at this;exact this
 have e6:Aside (∀(w3:Wo) (gl cap:Nat) (C:Array Value),_):=b4.o rfl ab ao rfl;have f4:Aside ((∀(j:Nat) A,j<l1→args[j]?=some A→A.ren f=A)→∀w3,Bz w w3→SubP f TT S w _ _ w3):=fun h=>e3.o (a9.o (fun A hA=>by
  obtain⟨j,hj,e⟩:=Ks.1 hA;exact h j A (by rw [←lA.o.1];exact hj) (by rw [bM hj,e])) (by decide))
 clear hl g7 hA0 hX hXc hXe b4 h1 hab b6 vA e3 a9;go_enter Tryz.func197,Tryz.ntmps197;go_wp2
 go_loopw [30] (fun s wr=>∃i:Nat,s= .int .i64 i∧i≤l1∧Bz wc wr∧Aside (∀(j:Nat) A,j<i→args[j]?=some A→A.ren f=A)) (fun s _=>l1-(intOf s).toNat)
 case atStart=>exact⟨0,rfl,bX _,bD _ _,fun j A hj=>by omega⟩
 case round=>
  clear x0 x1 x2 x3 x4 x5 x6;obtain⟨i,rfl,hi,hbr,hall⟩:=hrel
  by_cases b5:i<l1
  case neg=>
   obtain rfl:i=l1:=by omega
   obtain⟨w4,hst,hq3,hg3,hs3⟩:=fT (vs:=[.int .i64 5,.int .i64 v1,.string a0,.bool g1,.slice p1 n1 q1,.slice r1 m1 u1,.slice (some ⟨ab,ao,none⟩) i c1]) (zA.o wr hbr) rfl (by simp [Value.oneCell']);have c8:=lY hst;obtain⟨x0,x1,x2,x3,x4,x5,x6⟩:=bZ (xA.o wr hbr);have a7:=aside hbr;clear hst hbr
   go_upto_region 21 with fail
   refine dZ ?_
   iterate 1 (refine bE rfl fun K hK=>?_;go_simp;refine hK _ _ ?_;clear hK)
   refine eR rfl 48 _ _ rfl (v:=.pointer (some ⟨w.heap.size+1,0,none⟩)) (u:=.agg #[.int .i64 5,.int .i64 v1,.string a0,.bool g1,.slice p1 n1 q1,.slice r1 m1 u1,.slice (some ⟨ab,ao,none⟩) i c1]) rfl rfl c8 ?_;go_wp2;refine fQ (kU rfl _ _ (w.heap.size+1) 48 _ _ _ rfl hq3 Tryz.underlying48 rfl (by kernel_rfl)) rfl ?_;exact f4.o hall.o _ ((fA.o.1.trans (a7.o.mono fA.o.1.size)).grown hg3 (by have:=a7.o.size;have:=fA.o.2;omega) (by intro k hk;injection hk with hk;omega))
  obtain⟨A,hA⟩:=egf lA.o.1 b5;obtain⟨i1,ao',vs,ea,d8,hc,hvs⟩:=a6.o.2.1.get hA;have hv:=TmS.toV a6.o.2.2 _ _ hvs;replace d8:=a6.o.2.2 _ d8;obtain⟨rfl,rfl⟩:ab=i1∧ao=ao':=by injection ea with e;injection e with e1 e2;exact⟨e1,e2⟩
  rw [bT] at hc;have f7:=aside hA;have dS:Aside (∀w2,Bz wc w2→Cz 197 #[.agg vs.toArray,.map (some mb)] w2 (SubP f A S w2 vs)):=fun w2 h2=>h9.o i A hA w2 vs (TmS.keep (fun b h=>(fA.o.1.trans (h2.mono fA.o.1.size)).block b (aR (a6.o.2.2 b h) hn)) _ _ hvs) (aD hn (fA.o.1.trans (h2.mono fA.o.1.size)).size) (mA.o w2 h2)
  obtain⟨k2,v2,nm2,g2,p2,n2,q2,r2,m2,u2,a2,l2,c2,rfl⟩:=TmV.seven hv;obtain⟨y0,y1,y2,y3,y4,y5,y6⟩:=seven (w:=w) (w2:=wr) (fun q hq=>(fA.o.1.trans (hbr.mono fA.o.1.size)).cell (hq▸aR d8 hn)) hc;have f9:(i:Int)<(l1:Int):=by omega
  have g0:i<l1:=b5;have g6:(0:Int)≤(i:Int):=by omega
  have h0:IntKind.i64.wrap ((i:Int)+1)=(i:Int)+1:=by rw [dX];have:=d1.o.2.1;omega
  obtain⟨wy,hwy,by0,hqy,hsy⟩:=ebx wr (bA k2 v2 nm2 g2 p2 n2 q2 r2 m2 u2 a2 l2 c2);have c0:Aside (Bz wc wy):=hbr.trans (by0.mono hbr.size);have d2:=(dS.o wy c0.o).mono (fun e w' h=>h.seven);replace d2:Cz 197 #[.agg (tA k2 v2 nm2 g2 p2 n2 q2 r2 m2 u2 a2 l2 c2),.map (some mb)] wy _:=d2;have i0:Aside (wc.heap.size≤wr.heap.size∧wy.heap.size=wr.heap.size+1):=⟨hbr.size,hsy⟩;obtain⟨z0,z1,z2,z3,z4,z5,z6⟩:=bZ hqy;have i7:Aside (∀w2,Bz wy w2→w2.heap[wr.heap.size]?=some (.cells (tA k2 v2 nm2 g2 p2 n2 q2 r2 m2 u2 a2 l2 c2) 48)):=fun w2 hb=>(hb.block _ (by omega)).trans hqy
  clear hc hA ea d8 hv hvs by0 hqy dS b5 hbr hsy
  go_upto_region 10 with fail
  go_wp2_with (go_at_call 197;with_reducible refine d2.mono ?_)
  rintro e w3 ⟨k3,v3,nm3,g3,p3,n3,q3,r3,m3,u3,a3,l3,c3,b,rfl,hTS,hb3,hsm⟩
  go_upto_region 11 with fail
  have b7:=aC w3 (bA k3 v3 nm3 g3 p3 n3 q3 r3 m3 u3 a3 l3 c3);have d9:=aJ w3 (bA k3 v3 nm3 g3 p3 n3 q3 r3 m3 u3 a3 l3 c3);obtain⟨wz,hwz⟩:=enm (w3.alloc (bA k3 v3 nm3 g3 p3 n3 q3 r3 m3 u3 a3 l3 c3));have d0:wz.heap.size=w3.heap.size+1:=by rw [←hwz];simp
  rw [hwz] at b7 d9 ⊢;have dq:=hsm.o wz b7;replace dq:Cz 248 #[.agg (tA k2 v2 nm2 g2 p2 n2 q2 r2 m2 u2 a2 l2 c2),.agg (tA k3 v3 nm3 g3 p3 n3 q3 r3 m3 u3 a3 l3 c3)] wz (dJ wz b):=dq;have b8:Aside (Bz wy w3∧Bz w3 wz∧wz.heap.size=w3.heap.size+1∧Bz wc wz):=⟨hb3,b7,d0,(c0.o.trans (hb3.mono c0.o.size)).trans (b7.mono (c0.o.trans (hb3.mono c0.o.size)).size)⟩;have f2:Aside (∀w2,Bz wz w2→w2.heap[w3.heap.size]?=some (.cells (tA k3 v3 nm3 g3 p3 n3 q3 r3 m3 u3 a3 l3 c3) 48)):=fun w2 hb=>(hb.block _ (by omega)).trans d9
  clear z0 z1 z2 z3 z4 z5 z6 y0 y1 y2 y3 y4 y5 y6 d2 hsm d0;obtain⟨z0,z1,z2,z3,z4,z5,z6⟩:=bZ (i7.o wz (hb3.trans (b7.mono hb3.size)));obtain⟨y0,y1,y2,y3,y4,y5,y6⟩:=bZ d9;clear hb3 b7 d9
  go_wp2_with (go_at_call 248;with_reducible refine dq.mono ?_)
  rintro e w4 ⟨rfl,hb4⟩;have b2:Aside (Bz wc w4∧Bz wz w4):=⟨b8.o.2.2.2.trans (hb4.mono b8.o.2.2.2.size),hb4⟩;clear z0 z1 z2 z3 z4 z5 z6 y0 y1 y2 y3 y4 y5 y6 dq hb4;cases b
  case true=>
   have c7:Aside (∀(j:Nat) A,j<i+1→args[j]?=some A→A.ren f=A):=fun j A' hj e8=>by
    rcases lR j i with h|h
    ·exact hall.o j A' h e8
    ·obtain rfl:j=i:=by omega
     rw [f7.o] at e8;injection e8 with e;exact e▸hTS.o.2 rfl
   go_wp2;exact⟨⟨i+1,by simp,by omega,b2.o.1,c7⟩,by simp [intOf];omega⟩
  obtain⟨x0,x1,x2,x3,x4,x5,x6⟩:=bZ (xA.o w4 b2.o.1);have f6:=dC.o w4 (fA.o.1.trans (b2.o.1.mono fA.o.1.size))
  go_wp2_with (go_at_call 69;with_reducible refine f6.mono ?_)
  rintro e w5 ⟨a5,c5,rfl,hO,hb5⟩;clear x0 x1 x2 x3 x4 x5 x6 f6;obtain⟨i5,⟨e1,e2⟩|⟨gl,cap,cur,e1,hgl,hgq,hgc,hgm,hgs,hgt⟩⟩:=hO
  ·exact absurd e2 (by have:=d1.o.1;omega)
  injection e1 with e1 _ e2
  subst e1 e2;have s1:=b8.o.2.2.1;have s2:=b2.o.2.size;have s3:=b2.o.1.size;have s4:=fA.o.2;have e4:Bz w3 w5:=b8.o.2.1.trans ((b2.o.2.mono (by omega)).trans (hb5.mono (by omega)));have a8:Aside (Bz wc w5∧Bz wz w5∧wc.heap.size≤gl∧n≤gl∧gl<w5.heap.size):=⟨b2.o.1.trans (hb5.mono s3),b2.o.2.trans (hb5.mono s2),by omega,by omega,(aG.1 hgq).1⟩;have hr0:RowQ f args S wc.heap.size gl i w5 cur:=RowQ.start a6.o.2.2 d7.o.2.2 lA.o.1 hgt (fA.o.1.trans (a8.o.1.mono fA.o.1.size)) hn a8.o.2.2.2.1 hall.o;obtain⟨w6,hst,hq6,hg6,hs6⟩:=KP (o:=i*7) (vs:=[.int .i64 k3,.int .i64 v3,.string nm3,.bool g3,.slice p3 n3 q3,.slice r3 m3 u3,.slice a3 l3 c3]) hgq rfl (by simp [Value.oneCell']) (by omega);obtain⟨d3,p2',p3'⟩:=LS (C:=cur) (us:=[.int .i64 k3,.int .i64 v3,.string nm3,.bool g3,.slice p3 n3 q3,.slice r3 m3 u3,.slice a3 l3 c3]) (o:=i*7) rfl (by omega);obtain⟨C6,hC6⟩:∃C,(cur.toList.take (i*7)++([.int .i64 k3,.int .i64 v3,.string nm3,.bool g3,.slice p3 n3 q3,.slice r3 m3 u3,.slice a3 l3 c3]:Lv)++cur.toList.drop (i*7+7)).toArray=C:=⟨_,rfl⟩;rw [hC6] at hq6 d3 p2' p3';have e0:Aside (C6.size=c5*7∧l1≤c5∧RowQ f args S wc.heap.size gl (i+1) w6 C6∧Bz wc w6):=by
   refine⟨by omega,hgc,(hr0.put f7.o (TmS.mono (fun b hb=>?_) _ _ (TmS.keep (fun b hb=>e4.block b ?_) _ _ hTS.o.1)) p2' p3').keep (fun b hb=>hg6.block b hb.2.2 (fun e=>hb.1 (by injection e))) (by omega) a6.o.2.2 a8.o.2.2.2.1 (by have:=a8.o.2.2.2;omega),a8.o.1.grown hg6 a8.o.1.size (by intro k hk;injection hk with hk;have:=a8.o.2.2.1;omega)⟩
   ·have h1:=b8.o.1.size;have h2:=i0.o;have h3:=e4.size;rcases hb with hb|hb
    ·have:=a6.o.2.2 _ hb;exact⟨by omega,.inl hb,by omega⟩
    ·exact⟨by omega,.inr (by omega),by omega⟩
   ·have h1:=b8.o.1.size;have h2:=i0.o;rcases hb with hb|hb
    ·have:=a6.o.2.2 _ hb;omega
    ·omega
  obtain⟨y0,y1,y2,y3,y4,y5,y6⟩:=bZ (f2.o w5 a8.o.2.1);clear i5 hgl hgq hgc hgm hgs hgt s1 s2 s3 s4 e4 hr0 hg6 hs6 d3 p2' p3' hC6 hTS hb5
  go_upto_region 13 with fail
  refine dZ ?_
  iterate 4 (refine bE rfl fun K hK=>?_;go_simp;refine hK _ _ ?_;clear hK)
  refine eR rfl 48 _ _ rfl (v:=.pointer (some ⟨gl,i*7,none⟩)) (u:=.agg (tA k3 v3 nm3 g3 p3 n3 q3 r3 m3 u3 a3 l3 c3)) rfl rfl hst ?_;clear hst y0 y1 y2 y3 y4 y5 y6;go_wp2
  go_loopw [11] (fun s f5=>∃k:Nat,s= .int .i64 k∧k≤l1∧Bz wc f5∧∃C,f5.heap[gl]?=some (.cells C 48)∧Aside (C.size=c5*7∧RowQ f args S wc.heap.size gl k f5 C)) (fun s _=>l1-(intOf s).toNat)
  case atStart=>exact⟨i+1,by simp,by omega,e0.o.2.2.2,C6,hq6,e0.o.1,e0.o.2.2.1⟩
  case round=>
   obtain⟨wx,rfl⟩:=enr wr;obtain⟨k,rfl,hk,hbr,C,hqC,hCA⟩:=hrel
   by_cases b5:k<l1
   case pos=>
    obtain⟨A2,hA2⟩:=egf lA.o.1 b5;obtain⟨vs,hv7,hvc,_,hv⟩:=hCA.o.2 k A2 hA2;have f3:=hv (aA _);have h7:Bz w wx:=fA.o.1.trans (hbr.mono fA.o.1.size);have d4:=(h9.o k A2 hA2 wx vs f3 (aD hn h7.size) (mA.o wx hbr)).mono (fun e w' h=>h.seven);have e7:=aside hA2;obtain⟨k4,v4,nm4,g4,p4,n4,q4,r4,m4,u4,a4,l4,c4,rfl⟩:=TmS.seven f3;replace d4:Cz 197 #[.agg (tA k4 v4 nm4 g4 p4 n4 q4 r4 m4 u4 a4 l4 c4),.map (some mb)] wx _:=d4;have b3:∀(m:Nat) u,([.int .i64 k4,.int .i64 v4,.string nm4,.bool g4,.slice p4 n4 q4,.slice r4 m4 u4,.slice a4 l4 c4]:Lv)[m]?=some u→wx.cell? ⟨gl,k*7+m,none⟩=some u:=fun m u hm=>by
     have:=hvc m u hm;simp [World.cell?,hqC,this]
    have y0:=b3 0 _ rfl;have y1:=b3 1 _ rfl;have y2:=b3 2 _ rfl;have y3:=b3 3 _ rfl;have y4:=b3 4 _ rfl;have y5:=b3 5 _ rfl;have y6:=b3 6 _ rfl;rw [fG] at y0;have i9:(k:Int)<(l1:Int):=by omega
    have j0:k<l1:=b5;have j4:(0:Int)≤(k:Int):=by omega
    have j5:IntKind.i64.wrap ((k:Int)+1)=(k:Int)+1:=by rw [dX];have:=d1.o.2.1;omega
    have a7:=aside2 hbr hqC;clear hvc hv b3 f3 h7 hbr hqC hA2 b5 f9 g0 g6 h0
    go_upto_region 17 with fail
    refine dZ ?_
    iterate 7 (refine bE rfl fun K hK=>?_;go_simp;refine hK _ _ ?_;clear hK)
    refine bE rfl fun K hK=>?_
    go_simp
    refine d4.mono ?_;rintro e w7 ⟨k5,v5,nm5,g5,p5,n5,q5,r5,m5,u5,a5,l5,c6,b,rfl,hTS,hb7,_⟩;have g8:w7.heap[gl]?=some (.cells C 48):=(hb7.block gl (aG.1 a7.o.2).1).trans a7.o.2;have s1:=hCA.o.1;have s2:=e0.o.2.1;have s3:=(aG.1 a7.o.2).1;have s4:=hb7.size;have s5:=a8.o.2.2;obtain⟨w8,hst,hq8,hg8,hs8⟩:=KP (o:=k*7) (vs:=[.int .i64 k5,.int .i64 v5,.string nm5,.bool g5,.slice p5 n5 q5,.slice r5 m5 u5,.slice a5 l5 c6]) g8 rfl (by simp [Value.oneCell']) (by omega);obtain⟨d3,p2',p3'⟩:=LS (C:=C) (us:=[.int .i64 k5,.int .i64 v5,.string nm5,.bool g5,.slice p5 n5 q5,.slice r5 m5 u5,.slice a5 l5 c6]) (o:=k*7) rfl (by omega);obtain⟨C8,hC8⟩:∃C',(C.toList.take (k*7)++([.int .i64 k5,.int .i64 v5,.string nm5,.bool g5,.slice p5 n5 q5,.slice r5 m5 u5,.slice a5 l5 c6]:Lv)++C.toList.drop (k*7+7)).toArray=C':=⟨_,rfl⟩;rw [hC8] at hq8 d3 p2' p3';have i8:Aside (C8.size=c5*7∧RowQ f args S wc.heap.size gl (k+1) w8 C8):=by
     refine⟨by omega,((hCA.o.2.keep (fun b hb=>hb7.block b hb.2.2) s4 a6.o.2.2 s5.2.1 (by omega)).put e7.o (TmS.mono (fun b hb=>?_) _ _ hTS.o.1) p2' p3').keep (fun b hb=>hg8.block b hb.2.2 (fun e=>hb.1 (by injection e))) (by omega) a6.o.2.2 s5.2.1 (by omega)⟩;have h1:=a7.o.1.size;rcases hb with hb|hb
     ·have:=a6.o.2.2 _ hb;exact⟨by omega,.inl hb,by omega⟩
     ·exact⟨by omega,.inr (by omega),by omega⟩
    have i2:Aside (Bz wc w8):=(a7.o.1.trans (hb7.mono a7.o.1.size)).grown hg8 (by have:=a7.o.1.size;omega) (by intro k hk;injection hk with hk;omega);refine hK _ _ ?_;clear hK hTS hb7 g8 s1 s2 s3 s4 s5 hg8 hs8 d3 p2' p3' hC8 d4 y0 y1 y2 y3 y4 y5 y6
    iterate 1 (refine bE rfl fun K hK=>?_;go_simp;refine hK _ _ ?_;clear hK)
    refine eR rfl 48 _ _ rfl (v:=.pointer (some ⟨gl,k*7,none⟩)) (u:=.agg (tA k5 v5 nm5 g5 p5 n5 q5 r5 m5 u5 a5 l5 c6)) rfl rfl hst ?_;clear hst;go_wp2;exact⟨⟨k+1,by simp,by omega,i2.o,C8,hq8,i8.o⟩,by simp [intOf];omega⟩
   obtain rfl:k=l1:=by omega
   have xq:=xA.o wx hbr;have zq:=zA.o wx hbr;obtain⟨x0,x1,x2,x3,x4,x5,x6⟩:=bZ xq;have x7:=qR xq;obtain⟨o0,o1,o2,o3,o4,o5,o6⟩:=bZ zq;have o7:=qR zq;have a7:=aside2 hbr hqC;clear hbr hqC xq f9 g0 g6 h0
   go_wp2_with fail
   have h6:(wx.setCell ⟨w.heap.size,6,none⟩ (.slice (some ⟨gl,0,none⟩) k c5)).heap[w.heap.size+1]?=_:=(lU wx ⟨w.heap.size,6,none⟩ (.slice (some ⟨gl,0,none⟩) k c5) (w.heap.size+1) (by show w.heap.size+1≠w.heap.size;omega)).trans zq;obtain⟨j1,j2,j3⟩:=set7 (v0:=.int .i64 5) (v1:=.int .i64 v1) (v2:=.string a0) (v3:=.bool g1) (v4:=.slice p1 n1 q1) (v5:=.slice r1 m1 u1) (v6:=.slice (some ⟨gl,0,none⟩) k c5) h6;have bw:Bz w wx:=fA.o.1.trans (a7.o.1.mono fA.o.1.size);have i3:=bw.setCell (p:=⟨w.heap.size,6,none⟩) (aA _) (.slice (some ⟨gl,0,none⟩) k c5);refine fQ (kU rfl _ _ (w.heap.size+1) 48 _ _ _ rfl j1 Tryz.underlying48 rfl (by kernel_rfl)) rfl ?_;have hz:=j3.size;rw [UW] at hz;have bf:=i3.trans (j3.mono (by omega));obtain⟨wf,hwf⟩:=enm ((((((((wx.setCell ⟨w.heap.size,6,none⟩ (.slice (some ⟨gl,0,none⟩) k c5)).setCell ⟨w.heap.size+1,0,none⟩ (.int .i64 5)).setCell ⟨w.heap.size+1,1,none⟩ (.int .i64 v1)).setCell ⟨w.heap.size+1,2,none⟩ (.string a0)).setCell ⟨w.heap.size+1,3,none⟩ (.bool g1)).setCell ⟨w.heap.size+1,4,none⟩ (.slice p1 n1 q1)).setCell ⟨w.heap.size+1,5,none⟩ (.slice r1 m1 u1)).setCell ⟨w.heap.size+1,6,none⟩ (.slice (some ⟨gl,0,none⟩) k c5));rw [hwf] at j2 hz bf ⊢;have e9:∀b,b≠w.heap.size→b≠w.heap.size+1→wf.heap[b]?=wx.heap[b]?:=fun b h1 h2=>(j2 b h2).trans (lU wx ⟨w.heap.size,6,none⟩ (.slice (some ⟨gl,0,none⟩) k c5) b (by show b≠w.heap.size;exact h1))
   have s4:=fA.o.2;have s5:=a8.o.2.2;have s6:=bw.size;have i6:=hCA.o.2.keep (w2:=wf) (fun b hb=>by rcases hb.2.1 with h|h;(have:=a6.o.2.2 b h;exact e9 b (by omega) (by omega));exact e9 b (by omega) (by omega)) hz a6.o.2.2 s5.2.1 (by omega);refine e6.o wf gl c5 C d1.o.1 bf (by omega) ((e9 gl (by omega) (by omega)).trans a7.o.2) fun j A' hj=>?_
   obtain⟨vs,g1,g2,g3,_⟩:=i6 j A' hj;exact⟨vs,g1,g2,TmS.mono (fun b hb=>by rcases hb.2.1 with h|h;exact .inl h;exact .inr ⟨by omega,hb.2.2⟩) _ _ (g3 (by have:=(aM.1 hj).1;have:=lA.o.1;omega))⟩
def KN (f:Int→Int):∀(T:Tm),SubOk f T
 | .mk k v nm g num den args=>XP f k v nm g num den args fun T' i4=>KN f T'
termination_by T=>SizeOf.sizeOf T
decreasing_by
 simp_wf
 have:=yQ i4;omega
end
section
attribute [local go_sem] Heavy.uponW
def NMap (F:List Int) (i:Nat) (w:Wo) (mb:Nat):Prop:=∃M,aQ ikv w mb M∧M.length=i∧(∀p∈M,∃j:Nat,j<i∧F[j]?=some p.1)∧∀(j:Nat) x,j<i→F[j]?=some x→aL x M=some (VarC j)
def NMap.new (F:List Int) (w:Wo):NMap F 0 (w.alloc (.map #[] 0)) w.heap.size:=⟨[],aQ.new w 0,rfl,by simp,fun j x hj=>by omega⟩
def NMap.lt (h:NMap F i w mb):mb<w.heap.size:=by
 obtain⟨M,h,_⟩:=h;exact h.lt
def NMap.of_block (h:NMap F i w mb) (e:w'.heap[mb]?=w.heap[mb]?):NMap F i w' mb:=by
 obtain⟨M,h1,h2⟩:=h;exact⟨M,h1.of_block e,h2⟩
def NMap.len (h:NMap F i w mb) (ty:TypeId):(Builtin.len_ #[204] ty #[.map (some mb)]).run Tryz.prog w= .ok (.int .i64 i) w:=by
 obtain⟨M,h1,h2,_⟩:=h;rw [←h2];exact len_of Tryz.underlying204 h1 ty
def NMap.put {x:Int} (h:NMap F i w mb) (hF:F.Nodup) (hx:F[i]?=some x):
  ∃w',(Instr.mapUpdate 204 (.map (some mb)) (.int .i64 x) (.agg #[.int .i64 1,.int .i64 i,.string ⟨#[]⟩,.bool false,.slice none 0 0,.slice none 0 0,.slice none 0 0])).run Tryz.prog w= .ok () w'∧NMap F (i+1) w' mb∧aS (fun k=>k=mb) w w'∧w'.heap.size=w.heap.size:=by
 obtain⟨M,h1,h2,h3,h4⟩:=h;obtain⟨w',hr,h5,h6,h7⟩:=pU sG Tryz.underlying204 h1 x (VarC i);have inj:∀(j:Nat),j<i→F[j]?≠some x:=fun j hj e=>by
  have e1:=AH hF hx;have e2:=AH hF e;omega
 have b7:putM x (VarC i) M=M++ [(x,VarC i)]:=tZ (uL.2 fun p hp e=>by
  obtain⟨j,hj,e2⟩:=h3 p hp;exact inj j hj (e▸e2))
 refine⟨w',hr,⟨_,h5,by rw [b7,aI,h2];rfl,fun p hp=>?_,fun j y hj hy=>?_⟩,(aS.of_grown h6).mono fun k _ e=>(aK e).symm,h7⟩
 ·rcases uG hp with rfl|hp
  ·exact⟨i,by omega,hx⟩
  ·obtain⟨j,hj,e⟩:=h3 p hp;exact⟨j,by omega,e⟩
 ·by_cases c8:j=i
  ·subst c8;rw [hx] at hy;obtain rfl:=aK hy;exact oJ
  ·rw [nC (fun e=>by subst e;exact inj j (by omega) hy)];exact h4 j y (by omega) hy
def NMap.sub (h:NMap F F.length w mb) (hF:F.Nodup):kK (eS F) (fun x=>x∈F) w mb:=by
 obtain⟨M,h1,_,_,h4⟩:=h;refine⟨M,h1,fun x hx=>?_⟩;obtain⟨j,hj,e⟩:=Ks.1 hx;have e2:F[j]?=some x:=by rw [bM hj,e]
 rw [AH hF e2];exact h4 j x hj e2
def NormP (T:Tm) (S:Nat→Prop) (w:Wo) (e:Ending) (w':Wo):Prop:=∃us,e= .returned (.agg us.toArray)∧TmS (fun b=>S b∨(w.heap.size≤b∧b<w'.heap.size)) w' (T.ren (eS T.free)) us∧Bz w w'
def Av (T:Tm) (S:Nat→Prop) (n:Nat) (w:Wo) (ts:Lv) (hS:∀b,S b→b<n) (a8:TmS S w T ts) (hn:n≤w.heap.size) (hE:T.errE=0) (hN:T.nodes≤1000000):Cz 136 #[.agg ts.toArray] w (NormP T S w):=by
 have hT:=TmS.toV hS _ _ a8;obtain⟨F,hF⟩:=enm T.free;have a6:Aside (T.free=F∧F.Nodup∧F.length≤1000000):=⟨hF,by rw [←hF];exact QP T [] List.nodup_nil,by
  rw [←hF];have:=(BR T []).1;simp at this;exact aD this hN⟩
 have dF:Aside (∀w2,Bz w w2→Cz 132 #[.agg ts.toArray] w2 (FreeP w2 F)):=fun w2 hb=>by rw [←hF];exact wR T n w2 ts (TmV.below hb hn _ _ hT) (aD hn hb.size) hN
 have dS:Aside (∀w2 mb,Bz w w2→NMap F F.length w2 mb→Cz 197 #[.agg ts.toArray,.map (some mb)] w2 (SubP (eS F) T S w2 ts)):=fun w2 mb hb hm=>
  KN (eS F) T _ S n mb w2 ts hS (TmS.keep (fun b h=>hb.block b (aR (hS b h) hn)) _ _ a8) (aD hn hb.size) (hm.sub a6.o.2.1) (fun x hx=>by rw [←hF];exact kQ.2 hx) hE
 have c6:Aside (∀b,S b→b<w.heap.size):=fun b h=>aR (hS b h) hn
 obtain⟨len,hl⟩:∃x,F.length=x:=⟨_,rfl⟩;have lA:=aside hl;obtain⟨k1,v1,nm1,g1,p1,n1,q1,r1,m1,u1,a1,l1,c1,rfl⟩:=TmV.seven hT;clear hF hE hN hT hl hn a8 hS;replace dF:Aside (∀w2,Bz w w2→Cz 132 #[.agg (tA k1 v1 nm1 g1 p1 n1 q1 r1 m1 u1 a1 l1 c1)] w2 (FreeP w2 F)):=dF;replace dS:Aside (∀w2 mb,Bz w w2→NMap F F.length w2 mb→Cz 197 #[.agg (tA k1 v1 nm1 g1 p1 n1 q1 r1 m1 u1 a1 l1 c1),.map (some mb)] w2 (SubP (eS F) T S w2 [.int .i64 k1,.int .i64 v1,.string nm1,.bool g1,.slice p1 n1 q1,.slice r1 m1 u1,.slice a1 l1 c1])):=dS;obtain⟨wb,hwb,b0,hq,hsz⟩:=ebx w (bA k1 v1 nm1 g1 p1 n1 q1 r1 m1 u1 a1 l1 c1);have b1:=aC wb (Obj.cells #[.int .i64 0,.int .i64 0,.string ⟨#[]⟩,.bool false,.slice none 0 0,.slice none 0 0,.slice none 0 0] 48);have b8:=aJ wb (Obj.cells #[.int .i64 0,.int .i64 0,.string ⟨#[]⟩,.bool false,.slice none 0 0,.slice none 0 0,.slice none 0 0] 48);obtain⟨wc,hwc⟩:=enm (wb.alloc (Obj.cells #[.int .i64 0,.int .i64 0,.string ⟨#[]⟩,.bool false,.slice none 0 0,.slice none 0 0,.slice none 0 0] 48));have a2:wc.heap.size=w.heap.size+2:=by rw [←hwc,cB,hsz]
 rw [hwc] at b1 b8;have d5:∀w:Wo,(Instr.makeMap 204 none).run Tryz.prog w= .ok (.map (some w.heap.size)) (w.alloc (.map #[] 0)):=fun w=>rfl
 have b2:=aC wc (Obj.map #[] 0);have b4:=NMap.new F wc;obtain⟨wd,hwd⟩:=enm (wc.alloc (Obj.map #[] 0));have a4:wd.heap.size=wc.heap.size+1:=by rw [←hwd,cB]
 rw [hwd] at b2 b4;have f1:Bz w wd:=b0.trans ((b1.trans (b2.mono b1.size)).mono b0.size);have xd:=((b2.block w.heap.size (by omega)).trans (b1.block w.heap.size (by omega))).trans hq;have zq:wc.heap[w.heap.size+1]?=some (.cells #[.int .i64 0,.int .i64 0,.string ⟨#[]⟩,.bool false,.slice none 0 0,.slice none 0 0,.slice none 0 0] 48):=by rw [←hsz];exact b8
 have zd:=(b2.block (w.heap.size+1) (by omega)).trans zq;obtain⟨x0,x1,x2,x3,x4,x5,x6⟩:=bZ xd;have b5:=aside b4;have c5:=aside2 xd zd;have c4:=aside3 a2 a4 f1;have d1:=dF.o wd f1;clear b0 hq b1 b8 b2 b4 f1 xd zd zq a2 a4;go_enter Tryz.func136,Tryz.ntmps136
 go_wp2_with (go_at_call 132;with_reducible refine d1.mono ?_)
 rintro e w4 ⟨v4,rfl,hO4,hb4⟩;obtain⟨pa,pc,rfl,hrd⟩:=iN hO4;rw [lA.o] at hrd ⊢;have b9:Aside (∀(j:Nat) x,F[j]?=some x→∃g,pa=some ⟨g,0,none⟩∧wd.heap.size≤g∧w4.cell? ⟨g,j,none⟩=some (.int .i64 x)):=by
  show∀(j:Nat) x,_;intro j x hj;rcases hrd with h0|⟨g,e,h1,_,hc⟩
  ·have:=(aM.1 hj).1;have:=lA.o;omega
  ·exact⟨g,e,h1,hc j _ (by rw [gO,hj];rfl)⟩
 have a0:=aside hb4;clear hO4 hrd hb4 d1 x0 x1 x2 x3 x4 x5 x6 dF;go_wp2
 go_loopw [10] (fun s wr=>∃i:Nat,s= .int .i64 i∧i≤len∧NMap F i wr wc.heap.size∧aS (fun k=>k=wc.heap.size) w4 wr) (fun s _=>len-(intOf s).toNat)
 case atStart=>exact⟨0,rfl,bX _,b5.o.of_block (a0.o.block _ (by have:=c4.o.2.1;omega)),aS.refl _ _⟩
 case round=>
  obtain⟨i,rfl,hi,hm,hk⟩:=hrel;have s1:=c4.o;have s2:=a0.o.size;have a5:Bz w wr:=s1.2.2.trans ((a0.o.mono s1.2.2.size).trans (hk.below (by omega) fun k hk=>by omega));have xw:wr.heap[w.heap.size]?=some (.cells (tA k1 v1 nm1 g1 p1 n1 q1 r1 m1 u1 a1 l1 c1) 48):=((hk.block _ (by omega) (by omega)).trans (a0.o.block _ (by omega))).trans c5.o.1;have zw:wr.heap[w.heap.size+1]?=some (.cells #[.int .i64 0,.int .i64 0,.string ⟨#[]⟩,.bool false,.slice none 0 0,.slice none 0 0,.slice none 0 0] 48):=((hk.block _ (by omega) (by omega)).trans (a0.o.block _ (by omega))).trans c5.o.2
  by_cases b3:i<len
  case pos=>
   obtain⟨x,hx⟩:=egf lA.o b3;obtain⟨g,rfl,hg,hc⟩:=b9.o i x hx;have c0:g<w4.heap.size:=GZ hc;have c7:wr.cell? ⟨g,i,none⟩=some (.int .i64 x):=by
    have e:=hk.block g c0 (by omega);simp only [World.cell?] at hc ⊢;rw [e];exact hc
   have a9:=hm.len 3;have d0:(i:Int)<(len:Int):=by omega
   have d3:i<len:=b3;have d4:(0:Int)≤(i:Int):=by omega
   have d6:IntKind.i64.wrap ((i:Int)+1)=(i:Int)+1:=by rw [dX];have:=a6.o.2.2;have:=lA.o;omega
   have a7:=aside3 hx hm hk;clear hx hc c0 hm hk b3 s1 s2 a5 xw zw
   go_upto_region 5 with fail
   refine dZ ?_
   iterate 4 (refine bE rfl fun K hK=>?_;go_simp;refine hK _ _ ?_;clear hK)
   refine bE rfl fun K hK=>?_
   go_simp
   refine(XD _ _).mono ?_;rintro e w5 ⟨rfl,hb5⟩;obtain⟨w6,hup,hm6,hk6,hz6⟩:=NMap.put (a7.o.2.1.of_block (hb5.block _ a7.o.2.1.lt)) a6.o.2.1 a7.o.1;have hN:Aside (NMap F (i+1) w6 wc.heap.size∧aS (fun k=>k=wc.heap.size) w4 w6):=⟨hm6,(a7.o.2.2.trans (aS.of_below hb5) (fun _ _ h=>h)).trans hk6 (fun _ _ h=>h)⟩;refine hK _ _ ?_;clear hK hm6 hk6 hz6 hb5 a9 c7
   iterate 1 (refine bE rfl fun K hK=>?_;go_simp;refine hK _ _ ?_;clear hK)
   clear hup;go_wp2;exact⟨⟨i+1,by simp,by omega,hN.o⟩,by simp [intOf];omega⟩
  obtain rfl:i=len:=by omega
  obtain⟨x0,x1,x2,x3,x4,x5,x6⟩:=bZ xw;have d2:=(dS.o wr wc.heap.size a5 (by rw [lA.o];exact hm)).mono (fun e w' h=>h.seven);have bA:=aside2 a5 zw;clear s1 s2 a5 xw zw hm hk
  go_upto_region 7 with fail
  refine dZ ?_
  iterate 2 (refine bE rfl fun K hK=>?_;go_simp;refine hK _ _ ?_;clear hK)
  refine bE rfl fun K hK=>?_
  go_simp
  refine d2.mono ?_;rintro e w5 ⟨k3,v3,nm3,g3,p3,n3,q3,r3,m3,u3,a3,l3,c3,b,rfl,hTS,hb5,_⟩;have c9:=(aG.1 bA.o.2).1;obtain⟨w6,hst,hq6,hg6,hs6⟩:=fT (vs:=[.int .i64 k3,.int .i64 v3,.string nm3,.bool g3,.slice p3 n3 q3,.slice r3 m3 u3,.slice a3 l3 c3]) ((hb5.block _ c9).trans bA.o.2) rfl (by simp [Value.oneCell']);have c2:=lY hst;refine hK _ _ ?_;clear hK hst d2 x0 x1 x2 x3 x4 x5 x6;refine eR rfl 48 _ _ rfl (v:=.pointer (some ⟨w.heap.size+1,0,none⟩)) (u:=.agg (tA k3 v3 nm3 g3 p3 n3 q3 r3 m3 u3 a3 l3 c3)) rfl rfl c2 ?_;clear c2;go_wp2;refine fQ (kU rfl _ _ (w.heap.size+1) 48 _ _ _ rfl hq6 Tryz.underlying48 rfl (by kernel_rfl)) rfl ?_;have b6:=(bA.o.1.trans (hb5.mono bA.o.1.size)).grown hg6 (by have:=bA.o.1.size;have:=hb5.size;omega) (by intro k hk;injection hk with hk;omega);refine⟨[.int .i64 k3,.int .i64 v3,.string nm3,.bool g3,.slice p3 n3 q3,.slice r3 m3 u3,.slice a3 l3 c3],rfl,?_,b6⟩;rw [a6.o.1];have hs:=hb5.size;have hn:=c6.o;have hw:=bA.o.1.size;refine TmS.mono (fun b hb=>?_) _ _ (TmS.keep (w':=w6) (fun b hb=>hg6.block b ?_ (fun e=>?_)) _ _ hTS.o.1)
  ·rcases hb with hb|hb
   ·exact .inl hb
   ·exact .inr (by omega)
  ·rcases hb with hb|hb
   ·have:=hn b hb;omega
   ·omega
  ·injection e with e
   rcases hb with hb|hb
   ·have:=hn b hb;omega
   ·omega
end
section
attribute [local go_sem] Heavy.uponW
def rR {P:Program} {ops:Array Oper} {C:Wo→Prop} {Q R:Act→Wo→Prop} (h:∀a w,R a w→Q a w):∀(p:Heavy.Plan) (a:Act) (w:Wo),Heavy.runP P ops C R p a w→Heavy.runP P ops C Q p a w
 | .done,a,w,hr=>h a w hr
 | .light i p,a,w,⟨o,v,h0,h1,h2⟩=>⟨o,v,h0,h1,rR h p _ _ h2⟩
 | .one i p,a,w,⟨o,h0,h1⟩=>⟨o,h0,Heavy.oneO_mono (fun a' w' ⟨h2,h3⟩=>⟨h2,rR h p a' w' h3⟩) h1⟩
 | .two i j p q,a,w,⟨⟨o,h0,h1⟩,o',h0',h1'⟩=>⟨⟨o,h0,Heavy.oneO_mono (fun a' w' ⟨h2,h3⟩=>⟨h2,rR h p a' w' h3⟩) h1⟩,o',h0',Heavy.oneO_mono (fun a' w' ⟨h2,h3⟩=>⟨h2,rR h q a' w' h3⟩) h1'⟩
def OkG (lo:Nat) (og:Option Nat) (w:Wo):Prop:=∀g,og=some g→lo≤g∧w.heap[g]?=some (.cells #[.int .i64 0,.int .i64 0,.string ⟨#[]⟩,.bool false,.slice none 0 0,.slice none 0 0,.slice none 0 0] 48)
def OkG.below (h:OkG lo og w) (hb:Bz w w'):OkG lo og w':=fun g e=>⟨(h g e).1,(hb.block g (aG.1 (h g e).2).1).trans (h g e).2⟩
def PhB (n lo:Nat) (og:Option Nat) (T:Tm) (w:Wo) (us:Lv):Prop:=TmS (fun b=>(b<n∨lo≤b)∧some b≠og∧b<w.heap.size) w T us
def PhB.below (h:PhB n lo og T w us) (hb:Bz w w'):PhB n lo og T w' us:=
 TmS.mono (fun b h=>⟨h.1,h.2.1,aR h.2.2 hb.size⟩) _ _ (TmS.keep (fun b h=>hb.block b h.2.2) _ _ h)
def PhB.mark (h:PhB n lo none T w us) (hb:Bz w w'):PhB n lo (some w.heap.size) T w' us:=
 TmS.mono (fun b h=>⟨h.1,fun e=>by injection e with e;have:=h.2.2;omega,aR h.2.2 hb.size⟩) _ _ (TmS.keep (fun b h=>hb.block b h.2.2) _ _ h)
def PhB.old {w0:Wo} (h:TmV n w0 T us) (hn:n≤w0.heap.size) (hb:Bz w0 w) (hl:n≤lo) (hg:OkG lo og w):PhB n lo og T w us:=
 TmS.mono (fun b h=>⟨.inl h,fun e=>by have:=(hg b e.symm).1;omega,by have:=hb.size;omega⟩) _ _ (TmV.toS _ _ (TmV.below hb hn _ _ h))
def PhB.made (h:TmS (fun b=>b<n∨(w.heap.size≤b∧b<w'.heap.size)) w' T us) (hb:w.heap.size≤w'.heap.size) (hn:n≤lo) (hl:lo≤w.heap.size) (hg:OkG lo og w):PhB n lo og T w' us:=
 TmS.mono (fun b h=>by
  rcases h with h|h
  ·exact⟨.inl h,fun e=>by have:=(hg b e.symm).1;omega,by omega⟩
  ·exact⟨.inr (by omega),fun e=>by have:=(aG.1 (hg b e.symm).2).1;omega,h.2⟩) _ _ h
def PhB.comp {U:Tm} {s:ByteArray} {vs:Lv} (h1:PhB n lo og T w us) (h2:PhB n lo og U w vs) (hl:lo≤w.heap.size) (hg:OkG lo og w) (hb:Bz w w') (hq:w'.heap[w.heap.size]?=some (.cells (us++vs).toArray 48)):
  PhB n lo og (.mk 5 0 s false [] [] [T,U]) w' [.int .i64 5,.int .i64 0,.string s,.bool false,.slice none 0 0,.slice none 0 0,.slice (some ⟨w.heap.size,0,none⟩) 2 2]:=
 SE ⟨.inr hl,fun e=>by have:=(aG.1 (hg _ e.symm).2).1;omega,(aG.1 hq).1⟩ (h1.below hb) (h2.below hb) hq
def PhB.norm (h:TmS (fun b=>((b<n∨lo≤b)∧some b≠og∧b<w.heap.size)∨(w.heap.size≤b∧b<w'.heap.size)) w' T us) (hb:w.heap.size≤w'.heap.size) (hl:lo≤w.heap.size) (hg:OkG lo og w):PhB n lo og T w' us:=
 TmS.mono (fun b h=>by
  rcases h with h|h
  ·exact⟨h.1,h.2.1,by omega⟩
  ·exact⟨.inr (by omega),fun e=>by have:=(aG.1 (hg b e.symm).2).1;omega,h.2⟩) _ _ h
def nG {W W1:Wo} {A:Addr} {v0 v1 v2 v3 v4 v5 v6 v7 v8 v9 a0 a1 a2 a3 a4:Value} (h:(storeCells A [v0,v1,v2,v3,v4,v5,v6,v7,v8,v9,a0,a1,a2,a3,a4] 0).run Tryz.prog W= .ok () W1):(Instr.storeAt 50 (.pointer (some A)) (.agg #[v0,v1,v2,v3,v4,v5,v6,v7,v8,v9,a0,a1,a2,a3,a4])).run Tryz.prog W= .ok () W1:=by
 have hs:∀w,(sizeOf 50).run Tryz.prog w= .ok 15 w:=fun w=>Tryz.sizeOf50 w
 have ha:(Instr.sureAddr (.pointer (some A))).run Tryz.prog W= .ok A W:=rfl;unfold Instr.storeAt;simp [storeVar,ha,hs,Value.cells,h]
def x_root:bH 5 0 (⟨#[120]⟩:ByteArray).size false [] [] 2=0:=by
 unfold bH;rw [if_pos (by unfold eG cZ;simp)];decide
def fZ (h:Tm) (L:List Tm):Tm:=.mk 5 0 ⟨#[120]⟩ false [] [] [h,dM L]
def WX {L:List Tm} (h1:h.errE=0) (h2:∀T∈L,T.errE=0):(fZ h L).errE=0:=by
 unfold fZ;simp only [Tm.errE,Tm.errL,eW,oG];exact(if_neg (not_not_intro x_root)).trans (by rw [h1,HL L h2];rfl)
def WW (h:Tm) (L:List Tm):(fZ h L).free=fC h L:=SD _ _ _
def JV (h:Tm) (L:List Tm):(fZ h L).ren (eS (fZ h L).free)= .mk 5 0 ⟨#[120]⟩ false [] [] [(eI h L).h,(eI h L).b]:=by
 rw [WW];simp only [fZ,Tm.ren,Tm.renL,eI];rfl
def WV (h:Tm) (L:List Tm):((fZ h L).ren (eS (fZ h L).free)).free.length=(fC h L).length:=by
 rw [JV];show(Tm.frL [_,_] []).length=_;exact(eT List.length (OF h L)).trans (jE _)
def NumP (h:Tm) (L:List Tm) (w:Wo) (e:Ending) (w':Wo):Prop:=∃vh vb,e= .returned (.agg (jR vh vb (eI h L).vars).toArray)∧TmS (fP w.heap.size w'.heap.size) w' (eI h L).h vh∧TmS (fP w.heap.size w'.heap.size) w' (eI h L).b vb∧Bz w w'
end
