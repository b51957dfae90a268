/- Lemmas; no condition. -/
import Derived.Test.YtbdpdeonapmlgaaGreatDoorAl
set_option linter.all false
set_option maxHeartbeats 8000000
set_option maxRecDepth 100000
namespace Go.Proofs.YtbdpdeonapmlgaaGreatDoor
open Go.RowKit Go.Big Go.RowsK Go.MapK
variable {R D Dk:List (Ind × Value)} {LL:List (List Ind)} {w w' a b c:Wo} {rb d m:Nat} {u v va:Value}
section
attribute [local go_sem] Heavy.uponW
open Classical in
noncomputable def nX (K:List Bool) (L:List Tm) (io:List Int):Bool:=decide (∀(i:Nat) T,L[i]?=some T→io[i]?=some 1→cH K T=true)
noncomputable def lM (K:List Bool) (T:Tm) (M:Md):Bool:=decide (M.ind=T.ind)&&nX K T.args M.io
def NX {L:List Tm} {T:Tm} (h:T∈L):T.nodes≤Tm.nodesL L:=by
 induction L with
 |nil=>cases h
 |cons a r ih=>
  simp only [Tm.nodesL];rcases cM.1 h with rfl|h
  ·omega
  ·have:=ih h;omega
def Eu (M:Md) (T:Tm) (K:List Bool) (n tb kb mb:Nat) (w:Wo) (vs vt:Lv) (hM:MdV n w M vs) (c0:(M.io.length:Int)=M.ar) (hT:w.heap[tb]?=some (.cells vt.toArray 48 (0,0))) (c3:TmV n w T vt)
  (hk:w.heap[kb]?=some (.cells #[.map (some mb)] 110 (0,0))) (hK:aW w mb (KnS K)) (h0:∀A∈T.args,∀x∈A.free,0≤x) (hN:Tm.nodesL T.args≤1000000) (hn:n≤w.heap.size):
  Cz 195 #[.agg vs.toArray,.pointer (some ⟨tb,0,none⟩),.pointer (some ⟨kb,0,none⟩)] w (dJ w (lM K T M)):=by
 obtain⟨a,c,rfl,hI,hIl⟩:=hM;obtain⟨xn,xa,io⟩:=M;obtain⟨k,v,nm,g,num,den,args⟩:=T;simp only [TmV] at c3;obtain⟨_,_,a2,c2,rfl,⟨⟨p1,q1,rfl,_⟩,⟨p2,q2,rfl,_⟩⟩,hS,hbig,_⟩:=c3;dsimp only [Tm.args] at h0 hN hI hIl c0 ⊢;obtain⟨B1,hB1⟩:∃b,decide ((xn,xa)=(nm,(args.length:Int)))=b:=⟨_,rfl⟩;obtain⟨B2,a1⟩:∃b,nX K args io=b:=⟨_,rfl⟩;have c1:lM K (.mk k v nm g num den args) ⟨xn,xa,io⟩=(B1&&B2):=by rw [←hB1,←a1];rfl
 rw [c1];have a4:Aside (B2=true↔∀(i:Nat) T,args[i]?=some T→io[i]?=some 1→cH K T=true):=by
  show _↔_;rw [←a1];simp [nX]
 have b5:Aside (B1=true→io.length=args.length):=fun e=>by
  rw [←hB1,IK] at e;injection e with _ e;omega
 have c8:=qN xn nm xa args.length;have d8:=sH;rw [hB1] at c8;have d3:=aside hI;have d4:=aside hS;have d2:Aside (∀A∈args,(∀x∈A.free,0≤x)∧A.nodes≤1000000):=fun A hA=>⟨h0 A hA,aD (NX hA) hN⟩
 have b9:=aside hK;obtain⟨li,hli⟩:∃l,io.length=l:=⟨_,rfl⟩;obtain⟨len,hl⟩:∃l,args.length=l:=⟨_,rfl⟩;have Al:=aside2 hl hli;rw [hl] at hT c8 hbig b5;rw [hli] at b5 ⊢;generalize num.length=n1,den.length=n2 at*;have b0:=aC w (Obj.cells #[.string xn,.int .i64 xa,.slice a li c] 66);have hq:=aJ w (Obj.cells #[.string xn,.int .i64 xa,.slice a li c] 66);have c7:tb<w.heap.size:=(aG.1 hT).1;have c4:kb<w.heap.size:=(aG.1 hk).1;obtain⟨wb,hwb⟩:=enm (w.alloc (Obj.cells #[.string xn,.int .i64 xa,.slice a li c] 66));have c6:wb.heap.size=w.heap.size+1:=by rw [←hwb];simp
 rw [hwb] at b0 hq;have a7:Aside (∀w2,Bz wb w2→(w2.cell? ⟨w.heap.size,0,none⟩=some (.string xn)∧w2.cell? ⟨w.heap.size,1,none⟩=some (.int .i64 xa)∧w2.cell? ⟨w.heap.size,2,none⟩=some (.slice a li c))∧(w2.cell? ⟨tb,0,none⟩=some (.int .i64 k)∧w2.cell? ⟨tb,1,none⟩=some (.int .i64 v)∧w2.cell? ⟨tb,2,none⟩=some (.string nm)∧w2.cell? ⟨tb,3,none⟩=some (.bool g)∧w2.cell? ⟨tb,4,none⟩=some (.slice p1 n1 q1)∧w2.cell? ⟨tb,5,none⟩=some (.slice p2 n2 q2)∧w2.cell? ⟨tb,6,none⟩=some (.slice a2 len c2))∧w2.cell? ⟨kb,0,none⟩=some (.map (some mb))∧Bz w w2):=fun w2 hb=>by
  have h1:=qY ((hb.block w.heap.size (by omega)).trans hq);have hB:=b0.trans (hb.mono b0.size);exact⟨h1,bZ ((hB.block tb c7).trans hT),(iU ((hB.block kb c4).trans hk)).1,hB⟩
 have dk:Aside (∀w2,Cz 26 #[.agg (tA k v nm g p1 n1 q1 p2 n2 q2 a2 len c2)] w2 fun e w'=>e= .returned (.agg #[.string nm,.int .i64 len])∧Bz w2 w'):=fun w2=>oR k v nm g _ _ _ _ _ w2
 have d5:=aside c6;clear hq b0 hT hk hB1 a1 c1 c6 c7 c4 hI hS h0 hN hK hl hli c0 hIl;go_enter Tryz.func195,Tryz.ntmps195
 go_upto_region 1 with fail
 clear hwb;have fd:Bz wb wb.drew:=dO _ _;refine hRp (Bz wb) 4 (Heavy.lights [0,1,2] (.one 3 .done)) (by kernel_rfl) (by kernel_rfl) fd ?_;simp only [Heavy.lights,bL,bY,aZ,bG]
 (apply hLm;(exact rfl);(exact rfl);(intro b1 hw;go_simp;exact rfl);(go_simp;exact rfl))
 (apply hLm;(exact rfl);(exact rfl);(intro b1 hw;obtain⟨⟨x0,x1,_⟩,_⟩:=a7.o b1 hw;go_simp;exact rfl);(go_simp;exact rfl))
 (apply hLm;(exact rfl);(exact rfl);(intro b1 hw;obtain⟨_,⟨x0,x1,x2,x3,x4,x5,x6⟩,_⟩:=a7.o b1 hw;go_simp;exact rfl);(go_simp;exact rfl))
 (apply hOn;(exact rfl);(exact rfl));go_simp
 refine(dk.o _).mono ?_;rintro e wk ⟨rfl,hbk⟩;have ek:Bz wb wk:=fd.trans (hbk.mono fd.size);refine⟨_,rfl,ek,?_⟩
 (refine hNa (by go_simp;exact rfl) ?_)
 apply hPe;show wpList _ _ _ _ _ _;have c9:=aside ek;obtain⟨_,⟨_,_,_,_,_,_,t6⟩,_,hbw⟩:=a7.o wk ek;have b4:=aside hbw;clear hbk ek fd hbw;cases B1
 ·go_wp2
  go_ret
  exact⟨rfl,b4.o⟩
 obtain rfl:li=len:=b5.o rfl;go_wp2
 go_loopw [15] (fun s wr=>∃i:Nat,s= .int .i64 i∧i≤li∧Bz wb wr∧Aside (∀(j:Nat) T,j<i→args[j]?=some T→io[j]?=some 1→cH K T=true)) (fun s _=>li-(intOf s).toNat)
 case atStart=>exact⟨0,rfl,bX _,c9.o,fun j x hj=>by omega⟩
 case round=>
  obtain⟨wo,rfl⟩:=enr wr;obtain⟨i,rfl,hi,hbr,hall⟩:=hrel;have a6:=(a7.o wo hbr).2.2.2
  by_cases c5:i<li
  ·obtain⟨A,hA⟩:=egf Al.o.1 c5;obtain⟨x,hx⟩:=egf Al.o.2 c5;obtain⟨b,off,va,rfl,hbn,hc,hv⟩:=d4.o.get hA;rw [bT] at hc;obtain⟨gi,oi,rfl,hgi,hci⟩:=d3.o i x hx;have b7:=aside hv;obtain⟨b2,h02⟩:=d2.o A (aV hA);obtain⟨k',v',nm',g',a9,den',args'⟩:=A;simp only [TmV] at hv;obtain⟨_,_,a',c',rfl,⟨⟨r1,u1,rfl,_⟩,⟨r2,u2,rfl,_⟩⟩,_⟩:=hv;have a5:b<w.heap.size:=by omega
   have a8:gi<w.heap.size:=by omega
   obtain⟨e0,e1,e2,e3,e4,e5,e6⟩:=seven (w:=w) (w2:=wo) (fun p hp=>a6.cell (hp▸a5)) hc;obtain⟨A,hAA⟩:∃t,Tm.mk k' v' nm' g' a9 den' args'=t:=⟨_,rfl⟩;rw [hAA] at hA b7 b2 h02;generalize a9.length=m1',den'.length=m2',args'.length=l' at*;have d0:=aC wo (bA k' v' nm' g' r1 m1' u1 r2 m2' u2 a' l' c');have a1:=a6.trans (d0.mono a6.size);have b3:=hbr.trans (d0.mono hbr.size);have d1:=pZ A K n mb (wo.alloc (bA k' v' nm' g' r1 m1' u1 r2 m2' u2 a' l' c')) _ (TmV.below a1 hn _ _ b7.o) (aD hn a1.size) h02 (b9.o.of_block (a1.block mb b9.o.lt)) b2;replace d1:Cz 65 #[.map (some mb),.agg (tA k' v' nm' g' r1 m1' u1 r2 m2' u2 a' l' c')] _ _:=d1;have ci:=(a1.cell (p:=⟨gi,oi+i,none⟩) a8).trans hci;obtain⟨⟨m0,m1,m2⟩,_,k0,_⟩:=a7.o _ b3;obtain⟨d6,hi3,hw3⟩:=elt (i:=i) (n:=li) (by omega) (by omega);have a3:=aside4 hA hx b3 a1;obtain⟨H,hH⟩:∃b,cH K A=b:=⟨_,rfl⟩;have b8:=aside hH;rw [hH] at d1;clear hci hc hA hx hbn a5 hgi a8 d0 a1 b3 hH hAA b2 h02 hbr a6
   by_cases b6:x=1
   ·subst b6;cases H
    ·obtain rfl:B2=false:=by
      cases B2
      ·rfl
      ·have:=a4.o.1 rfl i A a3.o.1 a3.o.2.1;rw [b8.o] at this;cases this
     go_wp2_with (go_at_call 65;(with_reducible refine d1.mono ?_);rintro e w6 ⟨rfl,hb6⟩)
     have hL:Bz w w6:=a3.o.2.2.2.trans (hb6.mono a3.o.2.2.2.size)
     go_ret
     exact⟨rfl,hL⟩
    ·have a0:Aside (∀(j:Nat) T,j<i+1→args[j]?=some T→io[j]?=some 1→cH K T=true):=fun j T hj hT ho=>by
      rcases lR j i with h|h
      ·exact hall.o j T h hT ho
      ·obtain rfl:j=i:=by omega
       have:=a3.o.1.symm.trans hT;injection this with e;exact e▸b8.o
     go_wp2_with (go_at_call 65;(with_reducible refine d1.mono ?_);rintro e w6 ⟨rfl,hb6⟩)
     have hL:Bz wb w6:=a3.o.2.2.1.trans (hb6.mono a3.o.2.2.1.size);go_roundw
     case rel=>exact⟨i+1,by simp,by omega,hL,a0⟩
     case measure=>simp [intOf];omega
   ·have d7:(x==1)=false:=by simpa using b6
    have a0:Aside (∀(j:Nat) T,j<i+1→args[j]?=some T→io[j]?=some 1→cH K T=true):=fun j T hj hT ho=>by
     rcases lR j i with h|h
     ·exact hall.o j T h hT ho
     ·obtain rfl:j=i:=by omega
      have:=a3.o.2.1.symm.trans ho;injection this with e;exact absurd e b6
    go_wp2_with (go_at_call 65;(with_reducible refine d1.mono ?_);rintro e w6 ⟨rfl,hb6⟩)
    have hL:=a3.o.2.2.1;go_roundw
    case rel=>exact⟨i+1,by simp,by omega,hL,a0⟩
    case measure=>simp [intOf];omega
  ·obtain rfl:i=li:=by omega
   obtain rfl:B2=true:=by
    rw [a4.o];intro j T hT ho;exact hall.o j T (by rw [←Al.o.1];exact(aM.1 hT).1) hT ho
   go_wp2
   go_ret
   exact⟨rfl,a6⟩
end
section
attribute [local go_sem] Heavy.uponW
def Tm.okV (K:List Bool) (T:Tm):Prop:=InK K T∧∀A∈T.args,InK K A
def MdsOk (Ms:List Md):Prop:=Ms.length≤300∧∀M∈Ms,(M.io.length:Int)=M.ar
def Bw (Ms:List Md) (T:Tm) (K:List Bool) (n mb:Nat) (a:Option Addr) (c:Nat) (w:Wo) (vt:Lv) (hM:MdsV n w Ms a) (a8:MdsOk Ms) (a6:TmV n w T vt)
  (hK:aW w mb (KnS K)) (h0:T.okV K) (hN:T.nodes≤1000000) (hn:n≤w.heap.size):
  Cz 134 #[.agg vt.toArray,.slice a Ms.length c,.map (some mb)] w (IntP w (fD (lM K T) Ms 0)):=by
 obtain⟨R,hR⟩:=enm (fD (lM K T) Ms 0);rw [hR];have a3:Tm.nodesL T.args≤1000000:=by
  obtain⟨k,v,nm,g,num,den,args⟩:=T;simp only [Tm.nodes,Tm.args] at hN ⊢;omega
 have a5:=aside a6;obtain⟨TT,hTT⟩:∃t,T=t:=⟨_,rfl⟩;rw [hTT] at a5 hR a3 h0;obtain⟨k,v,nm,g,num,den,args⟩:=T;simp only [TmV] at a6;obtain⟨_,_,a2,c2,rfl,⟨⟨p1,q1,rfl,_⟩,⟨p2,q2,rfl,_⟩⟩,hS,hbig,_⟩:=a6;clear hTT hN hbig hS;generalize args.length=l1,num.length=n1,den.length=n2 at*;have a0:=aC w (bA k v nm g p1 n1 q1 p2 n2 q2 a2 l1 c2);have a1:=aC (w.alloc (bA k v nm g p1 n1 q1 p2 n2 q2 a2 l1 c2)) (Obj.cells #[.map (some mb)] 110);have hq:=(a1.block w.heap.size (by simp)).trans (aJ w (bA k v nm g p1 n1 q1 p2 n2 q2 a2 l1 c2));have a4:=aJ (w.alloc (bA k v nm g p1 n1 q1 p2 n2 q2 a2 l1 c2)) (Obj.cells #[.map (some mb)] 110);have b0:=a0.trans (a1.mono a0.size);obtain⟨wb,hwb⟩:=enm ((w.alloc (bA k v nm g p1 n1 q1 p2 n2 q2 a2 l1 c2)).alloc (Obj.cells #[.map (some mb)] 110));have b2:wb.heap.size=w.heap.size+2:=by rw [←hwb];simp
 rw [hwb] at b0 hq a4;rw [cB] at a4;have a9:=aside b0;have d1:=PY Ms (lM K TT) 195 #[.pointer (some ⟨w.heap.size,0,none⟩),.pointer (some ⟨w.heap.size+1,0,none⟩)] (enters_of Tryz.func195 (by kernel_rfl) rfl) n a c wb (hM.below b0 hn) (aD hn b0.size) (by have:=a8.1;omega) fun j M hj w2 vs a7 b1=>by
  have hB:=b0.trans (a7.mono b0.size);exact Eu M TT K n _ _ mb w2 vs _ b1 (a8.2 M (aV hj)) ((a7.block _ (by omega)).trans hq) (TmV.below hB hn _ _ a5.o) ((a7.block _ (by omega)).trans a4) (hK.of_block (hB.block mb hK.lt)) (fun A hA x hx=>(h0.2 A hA x hx).1) a3 (aD hn hB.size)
 rw [hR] at d1;generalize Ms.length=l2 at*;clear hq a4 b0 a0 a1 b2 a5 hR h0 a3 hK;go_enter Tryz.func134,Tryz.ntmps134
 go_upto_region 1 with fail
 clear hwb
 go_wp2_with (go_at_call 141;(with_reducible refine d1.mono ?_);rintro e w4 ⟨rfl,hb4⟩)
 go_ret
 exact⟨rfl,a9.o.trans (hb4.mono a9.o.size)⟩
end
section
attribute [local go_sem] Heavy.uponW
def OrdP (w:Wo) (LL:List (List Ind)) (e:Ending) (w':Wo):Prop:=
 ∃v X LO,e= .returned v∧(∃base,w'.ownsRow base 127 1 v (LO:List (List Ind)).length X)∧(∀(k:Nat) L,LO[k]?=some L→∃u,X[k]?=some u∧∃ba,aF ba w' u L)∧(∀L∈LO,L∈LL)∧LO.length≤LL.length∧Bz w w'
def OrdI (ba:Nat) (w:Wo) (va:Value) (X0:Lv) (LL:List (List Ind)) (rb:Nat) (R:List (Ind × Value)):Prop:=
 RowX ba w va X0 LL∧aQ aO w rb R∧LL.length≤4000000∧∀L∈LL,L.length≤4000000∧∃z m r bk Dk,L=(z,m)::r∧aL (z,m) R=some (.map (some bk))∧aQ aO w bk Dk
def OrdI.below {ba:Nat} {X0:Lv} (h:OrdI ba w va X0 LL rb R) (hb:Below m w w') (hm:w.heap.size≤m):OrdI ba w' va X0 LL rb R:=
 ⟨h.1.below hb hm,h.2.1.of_block (hb.block rb (aR h.2.1.lt hm)),h.2.2.1,fun L hL=>by
  obtain⟨h1,z,m',r,bk,Dk,h2,h3,h4⟩:=h.2.2.2 L hL;exact⟨h1,z,m',r,bk,Dk,h2,h3,h4.of_block (hb.block bk (aR h4.lt hm))⟩⟩
def Ad (ba:Nat) (w:Wo) (va:Value) (X0:Lv) (LL:List (List Ind)) (rb:Nat) (R:List (Ind × Value)) (hI:OrdI ba w va X0 LL rb R):
  Cz 191 #[va,.map (some rb)] w (OrdP w LL):=by
 obtain⟨a,c,rfl,_⟩:=hI.1.read;obtain⟨nc,hnc⟩:∃n,LL.length=n:=⟨_,rfl⟩;rw [hnc] at hI ⊢;have a2:Aside ((∀w2,Bz w w2→OrdI ba w2 (.slice a nc c) X0 LL rb R)∧LL.length=nc∧nc≤4000000):=⟨fun w2 hb=>hI.below hb (aA _),hnc,by have:=hI.2.2.1;omega⟩;have f1:=a2.out.2.2;clear hI hnc;have f9:∀w:Wo,(Instr.makeMap 267 none).run Tryz.prog w= .ok (.map (some w.heap.size)) (w.alloc (.map #[] 0)):=fun w=>rfl
 go_enter Tryz.func191,Tryz.ntmps191
 go_upto_region 2 with fail
 obtain⟨w1,hw1⟩:=enm (w.alloc (.map #[] 0));have b1:=aC w (.map #[] 0);have c3:=aQ.new (kv:=aO) w 0;rw [hw1] at b1 c3 ⊢;obtain⟨mo,hmo⟩:∃x,w.heap.size=x:=⟨_,rfl⟩;have d2:=aside hmo;rw [hmo] at c3 ⊢;have d4:=aside2 c3 b1;clear hw1 b1 c3 f9 hmo;go_wp2
 go_loopw [19] (fun s wr=>∃(i:Nat) (D:List (Ind × Value)),s= .int .i64 i∧i≤nc∧aQ aO wr mo D∧NumsM nc D∧Bz w wr) (fun s _=>nc-(intOf s).toNat)
 case atStart=>exact⟨0,[],rfl,bX _,d4.out.1,fun p hp=>by simp at hp,d4.out.2⟩
 case round=>
  clear d4;obtain⟨wo,rfl⟩:=enr wr;obtain⟨i,D,rfl,hi,hM,hN,hB⟩:=hrel
  by_cases e7:i<nc
  case neg=>
   obtain rfl:i=nc:=by omega
   obtain⟨o,hmkb,a5⟩:=Ca i (by omega) wo;have bo:=aC wo o;have c4:mo<wo.heap.size:=hM.lt;obtain⟨wq,hwq⟩:=enm (wo.alloc o);obtain⟨pb,hpb⟩:∃x,wo.heap.size=x:=⟨_,rfl⟩;have g4:wq.heap.size=pb+1:=by rw [←hwq,cB,hpb]
   rw [hwq] at hmkb a5 bo;rw [hpb] at hmkb a5 c4;have b6:Aside (OSt w mo pb i LL wq (.slice none 0 0) [] [] D∧mo<pb∧w.heap.size≤pb):=⟨⟨hB.trans (bo.mono hB.size),hM.of_block (bo.block mo hM.lt),hN,a5,pL _ _ _ _,by simp,by simp⟩,c4,by rw [←hpb];exact hB.size⟩;clear hM hN hB bo a5 c4 hwq hpb;go_wp2
   go_loopw [40,10] (fun g9 d5 wr=>∃(j:Nat) (v:Value) (X:Lv) (LO:List (List Ind)),g9= .int .i64 j∧v=d5∧j≤i∧OSt w mo pb i LL wr v X LO D∧LO.length≤j) (fun s _ _=>i-(intOf s).toNat)
   case atStart=>exact⟨0,_,[],[],rfl,rfl,bX _,b6.out.1,aA _⟩
   case round=>
    clear hmkb g4;obtain⟨wp,rfl⟩:=enr wr;obtain⟨j,v,X,LO,rfl,rfl,hj,hS,hl⟩:=hrel
    by_cases e0:j<i
    case neg=>
     obtain rfl:j=i:=by omega
     have hR:Aside (OrdP w LL (.returned v) wp):=by
      refine⟨v,X,LO,rfl,⟨_,hS.out⟩,fun k L hk=>?_,hS.sub,by have:=a2.out.2.1;omega,hS.bel⟩;obtain⟨u,h1,a8,h2⟩:=hS.row k L hk;exact⟨u,h1,a8,h2.below hS.bel (aA _)⟩
     clear hS hl;go_wp2
     go_ret
     exact hR.out
    obtain⟨f3,f4,hw3⟩:=elt (i:=j) (n:=i) (by omega) (by omega);have b2:=aside2 hS hl;clear hS hl;go_wp2
    go_loopw [44,10] (fun h0 d5 wr=>∃(k:Nat),h0= .int .i64 k∧v=d5∧k≤i∧OSt w mo pb i LL wr v X LO D) (fun s _ _=>i-(intOf s).toNat)
    case atStart=>exact⟨0,rfl,rfl,bX _,b2.out.1⟩
    case round=>
     obtain⟨wk,rfl⟩:=enr wr;obtain⟨k,rfl,rfl,hk,hS⟩:=hrel
     by_cases a9:k<i
     case neg=>
      obtain rfl:k=i:=by omega
      have hN:Aside (OSt w mo pb k LL wk v X LO D∧LO.length≤j+1):=⟨hS,by have:=b2.out.2;omega⟩;clear hS;go_wp2;go_roundw
      case rel=>exact⟨j+1,v,X,LO,by simp,rfl,by omega,hN.out.1,hN.out.2⟩
      case measure=>simp [intOf];omega
     obtain⟨L,hL⟩:=egf a2.out.2.1 a9;have a0:=a2.out.1 wk hS.bel;obtain⟨d6,z,m,r,bk,Dk,hLe,hvk,hMk⟩:=a0.2.2.2 L (aV hL);obtain⟨a',c',e',hrd⟩:=a0.1.read;injection e' with e1 e2 e3
     subst e1;clear e2 e3;obtain⟨g,ai,ci,rfl,_,hgl,hcg,hcx,hO⟩:=hrd k L hL;obtain⟨li,hli⟩:∃n,L.length=n:=⟨_,rfl⟩;have i1:0<li:=by rw [←hli,hLe];simp
     rw [hli] at hcg hO hcx;obtain⟨g8,c8,he,_,_⟩:=hO.some (by rw [hLe];simp);rw [hli] at he;injection he with he1 he2 he3
     subst he1;subst he3;obtain⟨z0,z1⟩:=hO.cells (i:=0) (J:=(z,m)) (by rw [hLe];rfl);rw [pM] at z0 z1;dsimp only at z0 z1;have a9:=sF kJ u226 z163 a0.2.1 (z,m);rw [hvk] at a9;replace a9:(Instr.lookup 226 (.map (some rb)) (.agg #[.string z,.int .i64 m]) false).run Tryz.prog wk= .ok (.map (some bk)) wk:=a9;obtain⟨o,hrg,hit⟩:=MW tQ hMk;have bo:=aC wk o;obtain⟨b0,hb0⟩:=hS.put.read (j:=k) (by omega);obtain⟨wv,hwv⟩:=enm (wk.alloc o);obtain⟨rr,hrr⟩:∃x,wk.heap.size=x:=⟨_,rfl⟩;rw [hwv] at hrg hit bo;have e8:wv.heap.size=rr+1:=by rw [←hwv,cB,hrr]
     have a5:bk<rr:=by rw [←hrr];exact hMk.lt
     rw [hrr] at hrg hit bo;have a3:Aside (OSt w mo pb i LL wk v X LO D∧gH aO wv rr bk Dk []∧Below rr wk wv∧wk.heap.size=rr∧L∈LL∧L.length=li∧wv.heap.size=rr+1∧bk<rr):=⟨hS,hit,bo,hrr,aV hL,hli,e8,a5⟩;have f2:Aside (∃a8,aF a8 w (.slice (some ⟨g8,0,none⟩) li ci) L):=by
      have b8:=a2.out.1 w (bD _ _);obtain⟨u1,h1,h2⟩:=b8.1.2 k L hL;obtain⟨u2,h3,h4⟩:=a0.1.2 k L hL;obtain⟨g3,ai3,ci3,e3,_,_,_,h5,h6⟩:=hrd k L hL;rw [h1] at h5;have e5:=aK h5;have e6:=aK (hcx.symm.trans h1);exact⟨ba,e6▸h2⟩
     obtain⟨h9,hk3,g6⟩:=elt (i:=k) (n:=i) (by omega) (by omega);have i0:(0:Int)<(li:Int):=by omega
     clear hS hit bo hrr hL hli a0 hrd hO hMk hwv e8 a5 hvk hLe;go_wp2
     go_loopw [14] (fun g7 wr=>∃(bb:Bool) (DD:List (Ind × Value)),g7= .bool bb∧gH aO wr rr bk Dk DD∧(∀p∈DD,p∈Dk)∧(DD.map (·.1)).Nodup∧Below rr wk wr∧rr<wr.heap.size) (fun _ wr=>Dk.length-mI wr rr)
     case atStart=>exact⟨_,[],rfl,a3.out.2.1,by simp,by simp,a3.out.2.2.1,by have:=a3.out.2.2.2.2.2.2.1;omega⟩
     case round=>
      clear hrg z0 z1 hb0 a9 hcg;obtain⟨wx,rfl⟩:=enr wr;obtain⟨bb,DD,rfl,hit,hsub,hnd,hbx,hrx⟩:=hrel;have c6:OSt w mo pb i LL wx v X LO D:=a3.out.1.below hbx (by have:=a3.out.2.2.2.1;omega);have c2:=PT hit;rcases Df hit 0 with⟨c9,wn,a7,hbn⟩|⟨p,hp,hnin,wn,a7,hitn,hbn,hsn⟩
      ·have hOn:=c6.below hbn (aA _);have a1:=aside hOn;clear hit hsub hnd c9 c6 hOn c2;cases bb
       case false=>
        go_wp2;go_roundw
        case rel=>exact⟨k+1,by simp,rfl,by omega,a1.out⟩
        case measure=>simp [intOf];omega
       go_upto_region 24 with fail
       clear a7;have b5:=aJ wn (Obj.cells #[.slice (some ⟨g8,0,none⟩) li ci] 127);have b4:(wn.alloc (Obj.cells #[.slice (some ⟨g8,0,none⟩) li ci] 127)).ownsRow (pb+1) 127 1 v LO.length X:=gJ a1.out.out (aC _ _) (aA _);refine dZ ?_
       iterate 3 (refine bE rfl fun K hK=>?_;go_simp;refine hK _ _ ?_;clear hK)
       refine jK elRow _ rfl _ _ rfl (pb+1) v _ _ rfl b4 (.slice (some ⟨wn.heap.size,0,none⟩) 1 1) 1 [.slice (some ⟨g8,0,none⟩) li ci] rfl (.inr ⟨_,_,rfl,fun t u ht=>by rw [jI,bT];simp only [World.cell?,b5];simpa using ht⟩) rfl (by simp [Value.oneCell']) (by have:=b2.out.2;unfold maxLen;omega) (by have:=b2.out.2;omega) (by rw [cB];have:=a1.out.put.lt;omega) ?_;intro v5 w5 h5 d9 g5;have b8:=a2.out.1 w (bD _ _);obtain⟨h7,c'',e'',hrd''⟩:=b8.1.read;have b9:∃a8,aF a8 w (.slice (some ⟨g8,0,none⟩) li ci) L:=f2.out;obtain⟨a8,b9⟩:=b9;have h6:=a1.out.push b6.out.2.1 b6.out.2.2 a3.out.2.2.2.2.1 b9 h5 d9;have f0:=aside h6;obtain⟨w6,hr6,hbr6,hg6,_⟩:=h6.put.store (j:=k) (by omega);have d7:Aside (OSt w mo pb i LL w6 v5 (X++ [.slice (some ⟨g8,0,none⟩) li ci]) (LO++ [L]) D∧(LO++ [L]).length≤j+1):=⟨h6.mark b6.out.2.1 b6.out.2.2 hbr6 hg6,by have:=b2.out.2;simp;omega⟩;clear h5 d9 g5 h6 hbr6 hg6 b4 b5 b8 hrd'' e'' b9
       go_upto_region 25 with fail
       refine dZ ?_
       iterate 3 (refine bE rfl fun K hK=>?_;go_simp;refine hK _ _ ?_;clear hK)
       refine eR rfl 4 _ _ rfl (v:=.pointer (some ⟨pb,k,none⟩)) (u:=.bool true) rfl rfl hr6 ?_;clear hr6;go_wp2;go_roundw
       case rel=>exact⟨j+1,v5,_,_,by simp,rfl,by omega,d7.out.1,d7.out.2⟩
       case measure=>simp [intOf];omega
      ·obtain⟨⟨y,q⟩,pv⟩:=p;have d1:(Instr.entry (.pointer (some ⟨rr,0,none⟩))).run Tryz.prog wn= .ok (.tuple #[.agg #[.string y,.int .i64 q],pv]) wn:=RO hitn;replace a7:(Instr.next (.pointer (some ⟨rr,0,none⟩)) false 0).run Tryz.prog wx= .ok (.tuple #[.bool true,.agg #[.string y,.int .i64 q],pv]) wn:=a7;have b3:=Ax hnd hsub hp hnin;have d8:Below rr wk wn:=hbx.trans hbn;obtain⟨wz,hwz⟩:=enm (wn.alloc (.cells #[.string y,.int .i64 q] 63));have bz:=aC wn (Obj.cells #[.string y,.int .i64 q] 63);have d3:=aJ wn (Obj.cells #[.string y,.int .i64 q] 63);rw [hwz] at bz d3;have d0:Below rr wk wz:=d8.trans (bz.mono (by omega));have c1:OSt w mo pb i LL wz v X LO D:=a3.out.1.below d0 (by have:=a3.out.2.2.2.1;omega);have a6:gH aO wz rr bk Dk (DD++ [((y,q),pv)]):=hitn.of_blocks (bz.block bk (by have:=hitn.map.lt;omega)) (bz.block rr (by omega));have hN:Aside (gH aO wz rr bk Dk (DD++ [((y,q),pv)])∧(∀p∈DD++ [((y,q),pv)],p∈Dk)∧((DD++ [((y,q),pv)]).map (·.1)).Nodup∧Below rr wk wz∧rr<wz.heap.size∧mI wz rr=mI wx rr+1∧mI wx rr<Dk.length):=by
        refine⟨a6,fun p g0=>?_,NU hnd hnin,d0,by have:=bz.size;omega,?_,by rw [c2];exact b3⟩
        ·rcases cG.1 g0 with q1|q1
         ·exact hsub p q1
         ·simp at q1;subst q1;exact hp
        ·rw [PT a6,c2];simp
       obtain⟨jj,hjj,hlk7⟩:=c1.num.look (by omega) c1.map y q;obtain⟨b7,hb7⟩:=c1.put.read (j:=jj) hjj;obtain⟨x0,x1⟩:=gM d3;have f5:(jj:Int)<(i:Int):=by omega
       have f6:(0:Int)≤(jj:Int):=by omega
       clear hit hsub hnd c6 c2 hitn hbn hsn b3 d8 bz d3 d0 c1 a6 hp hnin hbx hrx;cases bb
       case false=>
        go_upto_region 22 with fail
        try rw [hwz]
        clear hwz a7 d1;go_wp2;go_roundw
        case rel=>exact⟨_,_,rfl,hN.out.1,hN.out.2.1,hN.out.2.2.1,hN.out.2.2.2.1,hN.out.2.2.2.2.1⟩
        case measure=>have q1:=hN.out.2.2.2.2.2.1;have q2:=hN.out.2.2.2.2.2.2;omega
       by_cases f7:jj=k
       case pos=>
        subst f7
        go_upto_region 22 with fail
        try rw [hwz]
        clear hwz a7 d1;go_wp2;go_roundw
        case rel=>exact⟨_,_,rfl,hN.out.1,hN.out.2.1,hN.out.2.2.1,hN.out.2.2.2.1,hN.out.2.2.2.2.1⟩
        case measure=>have q1:=hN.out.2.2.2.2.2.1;have q2:=hN.out.2.2.2.2.2.2;omega
       have f8:((jj:Int)==(k:Int))=false:=by simp;omega
       go_upto_region 22 with fail
       try rw [hwz]
       clear hwz a7 d1;go_wp2;go_roundw
       case rel=>exact⟨_,_,rfl,hN.out.1,hN.out.2.1,hN.out.2.2.1,hN.out.2.2.2.1,hN.out.2.2.2.2.1⟩
       case measure=>have q1:=hN.out.2.2.2.2.2.1;have q2:=hN.out.2.2.2.2.2.2;omega
  obtain⟨L,hL⟩:=egf a2.out.2.1 e7;have a0:=a2.out.1 wo hB;have d6:=(a0.2.2.2 L (aV hL)).1;obtain⟨a',c',e',hrd⟩:=a0.1.read;injection e' with e1 e2 e3
  subst e1;clear e2 e3;obtain⟨g,ai,ci,rfl,_,hgl,hcg,_,hO⟩:=hrd i L hL;obtain⟨li,hli⟩:∃n,L.length=n:=⟨_,rfl⟩;rw [hli] at hcg hO;have a4:Aside (aF ba wo (.slice ai li ci) L∧L.length=li∧aQ aO wo mo D∧NumsM nc D∧Bz w wo∧li≤4000000):=⟨hO,hli,hM,hN,hB,by omega⟩;obtain⟨h8,hi3,hw3⟩:=elt (i:=i) (n:=nc) (by omega) (by omega);clear hO hM hN hB hrd a0 d6 hli;go_wp2
  go_loopw [26] (fun s wr=>∃(j:Nat) (D:List (Ind × Value)),s= .int .i64 j∧j≤li∧aQ aO wr mo D∧NumsM nc D∧Bz w wr∧aF ba wr (.slice ai li ci) L) (fun s _=>li-(intOf s).toNat)
  case atStart=>exact⟨0,D,rfl,bX _,a4.out.2.2.1,a4.out.2.2.2.1,a4.out.2.2.2.2.1,a4.out.1⟩
  case round=>
   clear hcg;obtain⟨wp,rfl⟩:=enr wr;obtain⟨j,D2,rfl,hj,hM,hN,hB,hO⟩:=hrel
   by_cases e0:j<li
   case neg=>
    obtain rfl:j=li:=by omega
    clear hO;go_wp2;go_roundw
    case rel=>exact⟨i+1,D2,by simp,by omega,hM,hN,hB⟩
    case measure=>simp [intOf];omega
   obtain⟨⟨y,q⟩,hY⟩:∃Y,L[j]?=some Y:=⟨L[j]'(by rw [a4.out.2.1];exact e0),bM _⟩;obtain⟨g8,c8,he,_,_⟩:=hO.some (by intro e;subst e;simp at hY);rw [a4.out.2.1] at he;injection he with he1 he2 he3
   subst he1;subst he3;obtain⟨z0,z1⟩:=hO.cells hY;dsimp only at z0 z1;have f3:(j:Int)<(li:Int):=by omega
   have f4:(0:Int)≤(j:Int):=by omega
   have g6:IntKind.i64.wrap ((j:Int)+1)=(j:Int)+1:=by rw [dX];have:=a4.out.2.2.2.2.2;omega
   have bp:=aC wp (Obj.cells #[.string y,.int .i64 q] 63);have g1:=aJ wp (Obj.cells #[.string y,.int .i64 q] 63);have c5:=hM.of_block (bp.block mo hM.lt);obtain⟨wu,e9,hMu,hgu,hsu⟩:=pU kJ u267 c5 (y,q) (.int .i64 (i:Int));replace e9:(Instr.mapUpdate 267 (.map (some mo)) (.agg #[.string y,.int .i64 q]) (.int .i64 (i:Int))).run Tryz.prog (wp.alloc (Obj.cells #[.string y,.int .i64 q] 63))= .ok () wu:=e9;have c4:mo<wp.heap.size:=hM.lt;have c0:Aside (aQ aO wu mo (putM (y,q) (.int .i64 (i:Int)) D2)∧NumsM nc (putM (y,q) (.int .i64 (i:Int)) D2)∧Bz w wu∧aF ba wu (.slice (some ⟨g8,0,none⟩) li ci) L):=by
    refine⟨hMu,hN.put e7 _,(hB.trans (bp.mono hB.size)).grown hgu (hB.trans (bp.mono hB.size)).size (fun k hk=>by have:=aK hk;have:=d2.out;omega),?_⟩;have c7:=hO.below bp (aA _);exact gS c7 fun g hg=>hgu.block g (cF c7 g hg).2 (fun e=>by
     have e:=aK e;subst e;simp only [Value.ownBlock,cJ] at hg;subst hg;obtain⟨es,ck,hme,_⟩:=c5;obtain⟨_,⟨e2,_⟩|⟨g2,cap2,cur2,e2,_,hg2,_⟩⟩:=c7
     ·cases e2
     ·injection e2 with e3
      injection e3 with e3
      injection e3 with e4
      rw [←e4,hme] at hg2;cases hg2)
   clear bp c5 hMu hgu hsu hM hN hB hO
   go_upto_region 8 with fail
   obtain⟨x0,x1⟩:=gM g1;go_wp2;go_roundw
   case rel=>exact⟨j+1,_,by simp,by omega,c0.out.1,c0.out.2.1,c0.out.2.2.1,c0.out.2.2.2⟩
   case measure=>simp [intOf];omega
end
def RM (w:Wo) (rb:Nat) (R:List (Ind × Value)):Prop:=
 aQ aO w rb R∧∀k u,aL k R=some u→∃bk Dk,u= .map (some bk)∧rb<bk∧aQ aO w bk Dk∧∀p∈Dk,p.2= .bool true
def RM.below (h:RM w rb R) (hb:Below m w w') (hm:w.heap.size≤m):RM w' rb R:=
 ⟨h.1.of_block (hb.block rb (aR h.1.lt hm)),fun k u hk=>by
  obtain⟨bk,Dk,h1,h2,h3,h4⟩:=h.2 k u hk;exact⟨bk,Dk,h1,h2,h3.of_block (hb.block bk (aR h3.lt hm)),h4⟩⟩
def RM.put {bk:Nat} (h:RM w rb R) (hk:rb<bk) (hm:aQ aO w bk Dk) (ht:∀p∈Dk,p.2= .bool true) (k:Ind):
  ∃w',(Instr.mapUpdate 226 (.map (some rb)) (aO k) (.map (some bk))).run Tryz.prog w= .ok () w'∧RM w' rb (putM k (.map (some bk)) R)∧w.grownBy w' (some rb)∧w'.heap.size=w.heap.size:=by
 obtain⟨w',hr,hM,hg,hs⟩:=pU kJ u226 h.1 k (.map (some bk));have keep:∀{b D},rb<b→aQ aO w b D→aQ aO w' b D:=fun {b D} hb hm=>hm.of_block (hg.block b hm.lt (fun e=>by have:=aK e;omega))
 refine⟨w',hr,⟨hM,fun k' u a0=>?_⟩,hg,hs⟩
 by_cases e:k'=k
 ·subst e;rw [oJ] at a0;injection a0 with a0;subst a0
  exact⟨bk,Dk,rfl,hk,keep hk hm,ht⟩
 ·rw [nC e] at a0;obtain⟨b2,D2,h1,h2,h3,h4⟩:=h.2 k' u a0;exact⟨b2,D2,h1,h2,keep h2 h3,h4⟩
def RV (w:Wo) (u:Value):Prop:=u= .map none∨∃bk Dk,u= .map (some bk)∧aQ aO w bk Dk∧∀p∈Dk,p.2= .bool true
def RM.look (h:RM w rb R) (x:ByteArray) (m:Int):(Instr.lookup 226 (.map (some rb)) (.agg #[.string x,.int .i64 m]) false).run Tryz.prog w= .ok ((aL (x,m) R).getD (.map none)) w:=
 sF kJ u226 z163 h.1 (x,m)
def RM.rv (h:RM w rb R) (k:Ind):RV w ((aL k R).getD (.map none)):=by
 cases hk:aL k R with
 |none=>exact .inl rfl
 |some u=>
  obtain⟨bk,Dk,h1,_,h3,h4⟩:=h.2 k u hk;exact .inr ⟨bk,Dk,h1,h3,h4⟩
def Cn (x:ByteArray) (m:Int) (w:Wo):(Instr.lookup 163 (.map none) (.agg #[.string x,.int .i64 m]) false).run Tryz.prog w= .ok (.bool false) w:=by
 have a2:(Go.underlying 163).run Tryz.prog w= .ok (.map 63 4) w:=dQ tQ w;have hc:=fun em w=>kJ.check em (x,m) w
 simp only [aO] at hc;have hf:=kJ.find (x,m) w [] [] trivial;simp only [aO] at hf;unfold Instr.lookup;simp [aU,a2,hc,hf,z4,bI,Result.andThen]
def RV.look (h:RV w u) (x:ByteArray) (m:Int):∃F:Bool,∀w2,Bz w w2→(Instr.lookup 163 u (.agg #[.string x,.int .i64 m]) false).run Tryz.prog w2= .ok (.bool F) w2:=by
 rcases h with rfl|⟨bk,Dk,rfl,h1,h2⟩
 ·exact⟨false,fun w2 _=>Cn x m w2⟩
 ·exact⟨qH (x,m) (Dk.map (·.1)),fun w2 hb=>AT (h1.of_block (hb.block bk h1.lt)) h2 x m⟩
def RowX.keep {base:Nat} {X:Lv} (h:RowX base w v X LL) (hg:w.grownBy w' (Option.some d)) (hd:d<base):RowX base w' v X LL:=
 ⟨gS h.1 fun q hq=>hg.block q (cF h.1 q hq).2 (fun e=>by have:=(cF h.1 q hq).1;have:=aK e;omega),fun k L hk=>by
  obtain⟨u,h1,h2⟩:=h.2 k L hk;exact⟨u,h1,gS h2 fun q hq=>hg.block q (cF h2 q hq).2 (fun e=>by have:=(cF h2 q hq).1;have:=aK e;omega)⟩⟩
def MX (h:∀p∈D,p.2= .bool true) (k:Ind):∀p∈putM k (.bool true) D,p.2= .bool true:=fun p hp=>by
 rcases uG hp with e|e
 ·rw [e]
 ·exact h p e
def PCompsP (w:Wo) (e:Ending) (w':Wo):Prop:=
 ∃v X LO,e= .returned v∧(∃base,w'.ownsRow base 127 1 v (LO:List (List Ind)).length X)∧(∀(k:Nat) L,LO[k]?=some L→∃u,X[k]?=some u∧∃ba,aF ba w' u L)∧LO.length≤4000000∧(∀L∈LO,L.length≤4000000)∧Bz w w'
def BN {row:Option Nat} (h:a.grownBy b (some d)) (hg:b.grownBy c row) (hr:∀k,row=some k→a.heap.size≤k∨k=d):a.grownBy c (some d):=
 ⟨hg.os.trans h.os,hg.tape.trans h.tape,hg.output.trans h.output,aD h.size hg.size,fun k hk a1=>(hg.block k (aR hk h.size) (fun e=>by
  rcases hr k e.symm with q|q
  ·omega
  ·exact a1 (by rw [q]))).trans (h.block k hk a1)⟩
def qQ (h:a.grownBy b (some d)) (hb:Below m b c) (hm:b.heap.size≤m):a.grownBy c (some d):=
 ⟨hb.os.trans h.os,hb.tape.trans h.tape,hb.output.trans h.output,aD h.size hb.size,fun k hk a1=>(hb.block k (by have:=h.size;omega)).trans (h.block k hk a1)⟩
def HQ (h:a.grownBy b (some d)) (hm:m≤d) (hs:m≤a.heap.size):Below m a b:=
 ⟨h.os,h.tape,h.output,h.size,fun k hk=>h.block k (by omega) (fun e=>by have:=aK e;omega)⟩
