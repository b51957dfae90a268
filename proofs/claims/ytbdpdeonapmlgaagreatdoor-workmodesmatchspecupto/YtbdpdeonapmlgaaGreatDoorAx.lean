/- Lemmas; no condition. -/
import Derived.Test.YtbdpdeonapmlgaaGreatDoorAw
set_option linter.all false
set_option maxHeartbeats 8000000
set_option maxRecDepth 100000
namespace Go.Proofs.YtbdpdeonapmlgaaGreatDoor
open Go.RowKit Go.Big Go.RowsK Go.MapK
section
attribute [local go_sem] Heavy.uponW
def Cq (Ms:List Md) (T:Tm) (K:List Bool) (n base:Nat) (a:Option Addr) (c:Nat) (w:Wo) (vt:Lv) (kv:Value) (hM:MdsV n w Ms a) (c3:MdsOk Ms) (c9:TmV n w T vt)
  (hK:OutB base w kv K) (h0:T.okV K) (hN:T.nodes≤1000000) (hn:n≤w.heap.size):
  Cz 54 #[.agg vt.toArray,.slice a Ms.length c,kv] w (IntP w (fR (gH K T) Ms 0)):=by
 obtain⟨R,hR⟩:=enm (fR (gH K T) Ms 0);have RA:=aside hR;rw [hR];have a7:∀A,A∈T.args→A.nodes≤Tm.nodesL T.args:=fun A h=>AQ h
 obtain⟨TT,hTT⟩:∃t,T=t:=⟨_,rfl⟩;rw [hTT] at RA h0 a7 hN;obtain⟨k,v,nm,g,num,den,args⟩:=T;simp only [TmV] at c9;obtain⟨_,_,a2,c2,rfl,⟨⟨p1,q1,rfl,_⟩,⟨p2,q2,rfl,_⟩⟩,hS,hbig,_⟩:=c9;obtain⟨L,hL⟩:=enm args;have b2:Aside (TT.args=L∧TT.ind=(nm,(L.length:Int))):=by show _∧_;rw [←hTT,←hL];exact⟨rfl,rfl⟩
 rw [hL] at hS hbig ⊢;have d9:=aside hS;have e7:Aside (∀A∈L,InK K A∧A.nodes≤1000000):=fun A hA=>by
  rw [←b2.o.1] at hA;have h1:=a7 A hA;have h2:Tm.nodesL TT.args≤TT.nodes:=by obtain⟨_,_,_,_,_,_,_⟩:=TT;simp only [Tm.nodes,Tm.args];omega
  exact⟨h0.2 A hA,by omega⟩
 have d8:=aside hK;obtain⟨la,hla⟩:∃l,L.length=l:=⟨_,rfl⟩;have Al:=aside hla;rw [hla] at hbig b2 ⊢;obtain⟨len,hl⟩:∃l,Ms.length=l:=⟨_,rfl⟩;have Ll:=aside hl;rw [hl];have c7:=aside2 hM c3;have d6:len≤300:=by have:=c3.1;omega
 generalize num.length=n1,den.length=n2 at*;clear hS hL hTT a7 hN h0 hM c3 hK hR hla hl;obtain⟨wb,hwb,b0,hq,hsz⟩:=ebx w (bA k v nm g p1 n1 q1 p2 n2 q2 a2 la c2);have fa:Aside (∀w2,Bz wb w2→_):=fun(w2:Wo) (hb:Bz wb w2)=>eG ((hb.block w.heap.size (by omega)).trans hq)
 have bw:Aside (∀w2,Bz wb w2→Bz w w2):=fun w2 hb=>b0.trans (hb.mono b0.size)
 have dk:Aside (∀w2,Cz 39 #[.agg (tA k v nm g p1 n1 q1 p2 n2 q2 a2 la c2)] w2 fun e w'=>e= .returned (.agg #[.string nm,.int .i64 la])∧Bz w2 w'):=fun w2=>nW k v nm g _ _ _ _ _ w2
 have d5:Aside (Bz wb wb):=aG _ _;clear b0 hq hsz;go_enter Tryz.func54,Tryz.ntmps54
 go_upto_region 1 with fail
 clear hwb;go_wp2
 go_loopw [7] (fun s wr=>∃i:Nat,s= .int .i64 i∧i≤len∧Bz wb wr∧Aside (∀(j:Nat) M,j<i→Ms[j]?=some M→gH K TT M=false)) (fun s _=>len-(intOf s).toNat)
 case atStart=>exact⟨0,rfl,aJ _,d5.o,fun j x hj=>by omega⟩
 case round=>
  obtain⟨wo,rfl⟩:=enr wr;obtain⟨i,rfl,hi,hbr,hall⟩:=hrel
  by_cases e9:i<len
  ·obtain⟨M,hMi⟩:=egf Ll.o e9;obtain⟨g1,off,vs,rfl,hg1,hc0,hv⟩:=c7.o.1 i M hMi;obtain⟨am,cm,rfl,hI,hIl⟩:=hv;have c8:=c7.o.2.2 M (aP hMi);have b4:Aside (gH K TT M=(decide (M.ind=TT.ind)&&jT K L M.io la)):=by
    show _=_;rw [gH,b2.o.1,←Kj,Al.o]
   obtain⟨mn,ma,io⟩:=M;dsimp only at hc0 hI hIl c8;have d7:=aside hI;obtain⟨li,hli⟩:∃l,io.length=l:=⟨_,rfl⟩;rw [hli] at hc0 hIl c8;have Il:=aside hli;obtain⟨B,hB⟩:∃b,decide ((mn,ma)=(nm,(la:Int)))=b:=⟨_,rfl⟩;have c0:Aside (decide (Md.ind ⟨mn,ma,io⟩=TT.ind)=B):=by show _=_;rw [b2.o.2,←hB];rfl
   have d4:=kX mn nm ma la;have f2:=lV;rw [hB] at d4;have a6:Aside (B=true→li=la):=fun e=>by rw [←hB,rG] at e;injection e with _ e;omega
   have d0:Aside (∀w2,Bz wb w2→w2.cell? ⟨g1,off+i*3,none⟩=some (.string mn)∧w2.cell? ⟨g1,off+i*3+1,none⟩=some (.int .i64 ma)∧w2.cell? ⟨g1,off+i*3+2,none⟩=some (.slice am li cm)):=fun w2 hb=>by
    have h:=hc0.below (bw.o w2 hb) (by omega);exact⟨h 0 _ rfl,h 1 _ rfl,h 2 _ rfl⟩
   have b1:=aside hMi;obtain⟨f3,hi3,hw3⟩:=elt (i:=i) (n:=len) (by omega) (by omega);have b6:Aside (gH K TT ⟨mn,ma,io⟩=false→∀(j:Nat) M,j<i+1→Ms[j]?=some M→gH K TT M=false):=fun e j M hj c1=>by
    rcases gR j i with h|h
    ·exact hall.o j M h c1
    ·obtain rfl:j=i:=by omega
     rw [b1.o] at c1;injection c1 with e2;subst e2;exact e
   have a4:Aside (gH K TT ⟨mn,ma,io⟩=true→R=i):=fun e=>by
    rw [←RA.o];rcases uQ (gH K TT) Ms 0 i hall.o with e2|e2
    ·obtain⟨e8,hx9⟩:=aO.1 b1.o;rw [e2,jC e8,fR,hx9,e,if_pos rfl];simp
    ·have:=Ll.o;omega
   clear hc0 hMi hB hli hI hg1
   go_upto_region 4 with fail
   have fd:Bz wb wo.drew:=hbr.trans (cU _ _);refine hRp (Bz wb) 7 (Heavy.lights [0,1,2,3,4,5] (.one 6 .done)) (by kernel_rfl) (by kernel_rfl) fd ?_;simp only [Heavy.lights,aX,bI,aW,bD]
   iterate 4 ((apply hLm;(exact rfl);(exact rfl);(intro b9 hw;go_simp;exact rfl);(go_simp;exact rfl)))
   (apply hLm;(exact rfl);(exact rfl);(intro b9 hw;obtain⟨m0,m1,_⟩:=d0.o b9 hw;go_simp;exact rfl);(go_simp;exact rfl))
   (apply hLm;(exact rfl);(exact rfl);(intro b9 hw;obtain⟨x0,x1,x2,x3,x4,x5,x6⟩:=fa.o b9 hw;go_simp;exact rfl);(go_simp;exact rfl))
   (apply hOn;(exact rfl);(exact rfl));go_simp
   refine(dk.o _).mono ?_;rintro e wk ⟨rfl,hbk⟩;have ek:Bz wb wk:=fd.trans (hbk.mono fd.size);refine⟨_,rfl,ek,?_⟩
   (refine hNa (by go_simp;exact rfl) ?_)
   apply hPe;show wpList _ _ _ _ _ _;have c4:=aside ek;clear hbk fd hbr ek;cases B
   ·have a5:=b6.o (by rw [b4.o,c0.o];rfl);have a1:=aside a5;clear a5 b6 a4 a6;go_wp2;exact⟨⟨i+1,by simp,by omega,c4.o,a1⟩,by simp [intOf];omega⟩
   obtain rfl:li=la:=a6.o rfl;have a3:Aside (gH K TT ⟨mn,ma,io⟩=jT K L io li):=by show _=_;rw [b4.o,c0.o];rfl
   clear a6;go_wp2
   case roundEnd=>
    exfalso;rename_i f0;have e:=c0.o;rw [rG,b2.o.2] at e;have e2:(mn,ma)=(nm,(li:Int)):=e;injection e2 with e3 _
    exact f0 (by rw [e3])
   clear d4 f2
   go_loopw [8,9] (fun s8 s9 wi=>∃j:Nat,s8= .bool (jT K L io j)∧s9= .int .i64 j∧j≤li∧Bz wb wi) (fun _ s _=>li-(intOf s).toNat)
   case atStart=>exact⟨0,by rw [Kh],rfl,aJ _,c4.o⟩
   case round=>
    obtain⟨wi,rfl⟩:=enr wr;obtain⟨j,rfl,rfl,hj,hbi⟩:=hrel;obtain⟨_,_,m2⟩:=d0.o wi hbi;have x6:=(fa.o wi hbi).2.2.2.2.2.2
    by_cases d2:j<li
    ·obtain⟨A,hA⟩:=egf Al.o d2;obtain⟨x,hx⟩:=egf Il.o d2;obtain⟨b,oA,va,rfl,hbn,hc,hv⟩:=d9.o.get hA;rw [bT] at hc;obtain⟨gi,oi,rfl,hgi,hci⟩:=d7.o j x hx;have c6:=aside hv;obtain⟨c5,h02⟩:=e7.o A (aP hA);have a9:=bw.o wi hbi;have d1:=wL A K n base wi va kv (TmV.below a9 hn _ _ c6.o) (aE hn a9.size) h02 (d8.o.below a9 (aA _) (aA _)) c5;obtain⟨k',v',nm',g',b8,den',args'⟩:=A;simp only [TmV] at hv;obtain⟨_,_,a',c',rfl,⟨⟨r1,u1,rfl,_⟩,⟨r2,u2,rfl,_⟩⟩,_⟩:=hv;have b3:b<w.heap.size:=by omega
     have b5:gi<w.heap.size:=by omega
     obtain⟨e0,e1,e2,e3,e4,e5,e6⟩:=qE (w:=w) (w2:=wi) (fun p hp=>a9.cell (hp▸b3)) hc;have ci:=(a9.cell (p:=⟨gi,oi+j,none⟩) b5).trans hci;obtain⟨f4,hj3,hwj⟩:=elt (i:=j) (n:=li) (by omega) (by omega);obtain⟨H,hH⟩:∃b,cT K (.mk k' v' nm' g' b8 den' args')=b:=⟨_,rfl⟩;have hs:=Ki (K:=K) hA hx;rw [hH] at d1 hs;have a8:=aside hs;obtain⟨F,hF⟩:∃b,jT K L io j=b:=⟨_,rfl⟩;rw [hF] at a8 ⊢;have a0:=aside hbi;generalize b8.length=m1',den'.length=m2',args'.length=l' at*;replace d1:Cz 43 #[kv,.agg (tA k' v' nm' g' r1 m1' u1 r2 m2' u2 a' l' c')] wi (dP wi H):=d1;clear hci hc hA hx hbn b3 hgi b5 hH hs hF c6 c5 h02 a9 hbi
     by_cases d3:x=1
     ·subst d3;cases H
      ·have b7:Aside (jT K L io (j+1)=false):=by show _=_;rw [a8.o];simp
       clear a8
       go_wp2_with (go_at_call 43;(with_reducible refine d1.mono ?_);rintro e w6 ⟨rfl,hb6⟩)
       go_roundw
       case rel=>exact⟨j+1,by rw [b7.o],by simp,by omega,a0.o.trans (hb6.mono a0.o.size)⟩
       case measure=>simp [intOf];omega
      ·have b7:Aside (jT K L io (j+1)=F):=by show _=_;rw [a8.o];simp
       clear a8
       go_wp2_with (go_at_call 43;(with_reducible refine d1.mono ?_);rintro e w6 ⟨rfl,hb6⟩)
       go_roundw
       case rel=>exact⟨j+1,by rw [b7.o],by simp,by omega,a0.o.trans (hb6.mono a0.o.size)⟩
       case measure=>simp [intOf];omega
     ·have f1:(x==1)=false:=by simpa using d3
      have b7:Aside (jT K L io (j+1)=F):=by show _=_;rw [a8.o,f1];simp
      clear a8
      go_wp2_with (go_at_call 43;(with_reducible refine d1.mono ?_);rintro e w6 ⟨rfl,hb6⟩)
      go_roundw
      case rel=>exact⟨j+1,by rw [b7.o],by simp,by omega,a0.o⟩
      case measure=>simp [intOf];omega
    ·obtain rfl:j=li:=by omega
     obtain⟨F,hF⟩:∃b,jT K L io j=b:=⟨_,rfl⟩;rw [hF] at a3 ⊢;have a0:=aside hbi;clear hF hbi;cases F
     ·have a1:Aside (∀(j:Nat) M,j<i+1→Ms[j]?=some M→gH K TT M=false):=b6.o a3.o;clear b6 a4;go_wp2;exact⟨⟨i+1,by simp,by omega,a0.o,a1⟩,by simp [intOf];omega⟩
     ·obtain rfl:R=i:=a4.o a3.o;clear b6 a4;go_wp2
      go_ret
      exact⟨rfl,bw.o _ a0.o⟩
  ·obtain rfl:i=len:=by omega
   obtain rfl:R= -1:=by
    rw [←RA.o];rcases uQ (gH K TT) Ms 0 i hall.o with e|e
    ·rw [e,rS (nF Ll.o)];rfl
    ·have:=Ll.o;omega
   go_wp2
   go_ret
   exact⟨rfl,bw.o _ hbr⟩
end
section
attribute [local go_sem] Heavy.uponW
def NxP (base:Nat) (w:Wo) (r:Int × List Bool) (e:Ending) (w':Wo):Prop:=∃v,e= .returned (.tuple #[.int .i64 r.1,v])∧OutB base w' v r.2∧Bz w w'
def Bu (Ms:List Md) (T:Tm) (K:List Bool) (n base:Nat) (a:Option Addr) (c:Nat) (w:Wo) (vt:Lv) (kv:Value) (hM:MdsV n w Ms a) (d7:MdsOk Ms) (d8:TmV n w T vt) (d9:T.errE=0)
  (hK:OutB base w kv K) (f5:K.length≤1000000) (h0:T.okV K) (hN:T.nodes≤1000000) (hn:n≤w.heap.size) (c6:base≤w.heap.size):
  Cz 42 #[.agg vt.toArray,.slice a Ms.length c,kv] w (NxP base w (bH Ms K T)):=by
 have c1:=aside d8;obtain⟨TT,hTT⟩:∃t,T=t:=⟨_,rfl⟩;rw [hTT] at c1 h0 hN d9 ⊢;obtain⟨k,v,nm,g,num,den,args⟩:=T;simp only [TmV] at d8;obtain⟨_,_,a2,c2,rfl,⟨⟨p1,q1,rfl,_⟩,⟨p2,q2,rfl,_⟩⟩,hS,hbig,_⟩:=d8;have c0:Aside (TmsV n w TT.args a2 0∧args.length=TT.args.length):=by
  show _∧_;rw [←hTT];exact⟨hS,rfl⟩
 clear hTT hbig hS;generalize args.length=l1,num.length=n1,den.length=n2 at*;obtain⟨wb,hwb,b0,hq,hsz⟩:=ebx w (bA k v nm g p1 n1 q1 p2 n2 q2 a2 l1 c2);have fa:Aside (∀w2,Bz wb w2→_):=fun(w2:Wo) (hb:Bz wb w2)=>eG ((hb.block w.heap.size (by omega)).trans hq)
 have bw:Aside (∀w2,Bz wb w2→Bz w w2):=fun w2 hb=>b0.trans (hb.mono b0.size)
 have b7:Aside (∀w2,Bz wb w2→OutB base w2 kv K):=fun w2 hb=>hK.below (b0.trans (hb.mono b0.size)) (aA _) (aA _)
 have dk:Aside (∀w2,Bz wb w2→Cz 52 #[.agg (tA k v nm g p1 n1 q1 p2 n2 q2 a2 l1 c2)] w2 fun e w'=>e= .returned (.int .i64 TT.kd)∧Bz w2 w'):=fun w2 hb=>FD TT n w2 _ d9 (TmV.below (bw.o w2 hb) hn _ _ c1.o) (aE hn (bw.o w2 hb).size)
 have dm:Aside (∀w2,Bz wb w2→Cz 54 #[.agg (tA k v nm g p1 n1 q1 p2 n2 q2 a2 l1 c2),.slice a Ms.length c,kv] w2 (IntP w2 (fR (gH K TT) Ms 0))):=fun w2 hb=>Cq Ms TT K n base a c w2 _ kv (hM.below (bw.o w2 hb) hn) d7 (TmV.below (bw.o w2 hb) hn _ _ c1.o) (b7.o w2 hb) h0 hN (aE hn (bw.o w2 hb).size)
 have da:Aside (∀w2,Bz wb w2→Cz 101 #[kv,.agg (tA k v nm g p1 n1 q1 p2 n2 q2 a2 l1 c2)] w2 (PutP w2 (dY K TT.free))):=fun w2 hb=>MJ TT K n base w2 _ kv (TmV.below (bw.o w2 hb) hn _ _ c1.o) (aE hn (bw.o w2 hb).size) hN (b7.o w2 hb) h0.1 f5
 have dh:Aside (∀w2,Bz wb w2→Cz 43 #[kv,.agg (tA k v nm g p1 n1 q1 p2 n2 q2 a2 l1 c2)] w2 (dP w2 (cT K TT))):=fun w2 hb=>wL TT K n base w2 _ kv (TmV.below (bw.o w2 hb) hn _ _ c1.o) (aE hn (bw.o w2 hb).size) hN (b7.o w2 hb) h0.1
 have a1:Aside (∀w2 f,Bz wb w2→bH Ms K TT=(f,K)→NxP base w (bH Ms K TT) (.returned (.tuple #[.int .i64 f,kv])) w2):=fun w2 f hb e=>⟨kv,by rw [e],by rw [e];exact b7.o w2 hb,bw.o w2 hb⟩
 have a5:Aside (∀w2 w3 v K',Bz wb w2→bH Ms K TT=(0,K')→OutB w2.heap.size w3 v K'→Bz w2 w3→NxP base w (bH Ms K TT) (.returned (.tuple #[.int .i64 0,v])) w3):=fun w2 w3 v K' hb e hs hk=>⟨v,by rw [e],by rw [e];exact gM hs (aE c6 (bw.o w2 hb).size),(bw.o w2 hb).trans (hk.mono (bw.o w2 hb).size)⟩
 obtain⟨P,hP⟩:=enm (NxP base w (bH Ms K TT));have a9:=aside hP;rw [hP];have h6:Aside (wb.heap[w.heap.size]?=_):=hq;have f0:Aside (Bz wb wb):=aG _ _;obtain⟨x0,x1,x2,x3,x4,x5,x6⟩:=fa.o wb f0.o;have d1:=dk.o wb f0.o;obtain⟨kd,hkd⟩:=enm TT.kd;have a6:=aside hkd;rw [hkd] at d1;obtain⟨lm,hlm⟩:∃l,Ms.length=l:=⟨_,rfl⟩;have f4:Aside (MdsV n w Ms a∧lm≤300):=⟨hM,by have:=d7.1;omega⟩;have g0:=f4.o.2;rw [hlm] at dm ⊢;have f7:=aside hlm;clear hP hq b0 hsz hK hkd hlm dk hM d7 d9 f5;go_enter Tryz.func42,Tryz.ntmps42
 go_upto_region 1 with fail
 clear hwb
 by_cases k1:kd=1
 ·subst k1;obtain⟨R,hR⟩:=enm (fR (gH K TT) Ms 0);have RA:=aside hR;rw [hR] at dm;clear hR
  by_cases g4:R<0
  all_goals
   go_wp2_with (first
    |(go_at_call 52;(with_reducible refine d1.mono ?_);rintro e w2 ⟨rfl,hb2⟩;obtain⟨z0,z1,z2,z3,z4,z5,z6⟩:=fa.o w2 hb2)
    |(go_at_call 54;(with_reducible refine(dm.o w2 hb2).mono ?_);rintro e w3 ⟨rfl,hb3⟩;have a0:=hb2.trans (hb3.mono hb2.size);obtain⟨z0,z1,z2,z3,z4,z5,z6⟩:=fa.o w3 a0)
    |(go_at_call 101;(with_reducible refine(da.o w3 a0).mono ?_);rintro e w4 ⟨v4,rfl,hs4,hk4⟩))
   rw [←a9.o]
  ·exact a1.o _ 1 a0 (by rw [bH,if_pos a6.o,RA.o,if_pos g4])
  ·exact a5.o w3 _ _ _ a0 (by rw [bH,if_pos a6.o,RA.o,if_neg (by omega)]) hs4 hk4
 have a8:¬TT.kd=1:=by rw [a6.o];exact k1
 by_cases k2:kd=2
 ·subst k2;obtain⟨H,hH⟩:∃b,cT K TT=b:=⟨_,rfl⟩;have HA:=aside hH;rw [hH] at dh;clear hH;have d2:TT.kd=2:=a6.o;cases H
  ·go_wp2_with (first
    |(go_at_call 52;(with_reducible refine d1.mono ?_);rintro e w2 ⟨rfl,hb2⟩;obtain⟨z0,z1,z2,z3,z4,z5,z6⟩:=fa.o w2 hb2)
    |(go_at_call 43;(with_reducible refine(dh.o w2 hb2).mono ?_);rintro e w3 ⟨rfl,hb3⟩))
   rw [←a9.o];exact a1.o _ 2 (hb2.trans (hb3.mono hb2.size)) (by rw [bH,if_neg a8,if_pos d2,if_pos HA.o])
  ·obtain⟨A,hA⟩:=BR d2;have f2:TT.args[0]?=some A:=by rw [hA];rfl
   obtain⟨b,off,va,rfl,hbn,hc,hv⟩:=c0.o.1.get f2;have e6:l1=1:=by rw [c0.o.2,hA];rfl
   subst e6;have b8:Aside (∀w2,Bz wb w2→CellsAt w2 b off va):=fun w2 hb j u hj=>((bw.o w2 hb).cell (p:=⟨b,off+j,none⟩) (by show b<_;omega)).trans (by have:=hc j u hj;simpa using this)
   have hF:Aside (∀M:Md,decide (some M.ind=pU TT.args)=decide (M.ind=A.ind)):=fun M=>by rw [hA];simp [pU]
   obtain⟨kA,uA,nA,gA,b6,denA,a7⟩:=A;simp only [TmV] at hv;obtain⟨_,_,a3,c3,rfl,⟨⟨p3,q3,rfl,_⟩,⟨p4,q4,rfl,_⟩⟩,_⟩:=hv;have sA:Aside (∀w2,Bz wb w2→_):=fun(w2:Wo) (hb:Bz wb w2)=>jL (w:=w2) (w2:=w2) (fun _ _=>rfl) (b8.o w2 hb)
   obtain⟨l3,hl3⟩:∃l,a7.length=l:=⟨_,rfl⟩;rw [hl3] at sA;have f3:Aside (∀M:Md,decide (some M.ind=pU TT.args)=decide (M.ind=(nA,(l3:Int)))):=fun M=>by rw [hF.o,←hl3];rfl
   generalize b6.length=m1,denA.length=m2 at*;have dk:Aside (∀w2,Cz 39 #[.agg (tA kA uA nA gA p3 m1 q3 p4 m2 q4 a3 l3 c3)] w2 fun e w'=>e= .returned (.agg #[.string nA,.int .i64 l3])∧Bz w2 w'):=fun w2=>nW kA uA nA gA _ _ _ _ _ w2
   have h7:=lV;clear b8 hF hl3 hA f2 hc
   go_wp2_with (first
    |(go_at_call 52;(with_reducible refine d1.mono ?_);rintro e w2 ⟨rfl,hb2⟩;obtain⟨z0,z1,z2,z3,z4,z5,z6⟩:=fa.o w2 hb2)
    |(go_at_call 43;(with_reducible refine(dh.o w2 hb2).mono ?_);rintro e w3 ⟨rfl,hb3⟩))
   have e0:Aside (Bz wb w3):=hb2.trans (hb3.mono hb2.size);clear x0 x1 x2 x3 x4 x5 x6 z0 z1 z2 z3 z4 z5 z6 d1 hb2 hb3
   go_loopw [8] (fun s wr=>∃i:Nat,s= .int .i64 i∧i≤lm∧Bz wb wr∧Aside (∀(j:Nat) M,j<i→Ms[j]?=some M→¬M.ind=(nA,(l3:Int)))) (fun s _=>lm-(intOf s).toNat)
   case atStart=>exact⟨0,rfl,aJ _,e0.o,fun j x hj=>by omega⟩
   case round=>
    obtain⟨wo,rfl⟩:=enr wr;obtain⟨i,rfl,hi,hbr,hall⟩:=hrel
    by_cases g8:i<lm
    ·obtain⟨M,hMi⟩:=egf f7.o g8;obtain⟨g1,o1,vs,rfl,hg1,hc0,hv⟩:=f4.o.1 i M hMi;obtain⟨am,cm,rfl,hI,hIl⟩:=hv;have b9:=aside hMi;obtain⟨mn,ma,io⟩:=M;dsimp only at hc0;generalize io.length=li at*;obtain⟨B,hB⟩:∃b,decide ((mn,ma)=(nA,(l3:Int)))=b:=⟨_,rfl⟩;have d5:=aside hB;have h2:=kX mn nA ma l3;rw [hB] at h2;have g7:Aside (∀w2,Bz wb w2→w2.cell? ⟨g1,o1+i*3,none⟩=some (.string mn)∧w2.cell? ⟨g1,o1+i*3+1,none⟩=some (.int .i64 ma)):=fun w2 hb=>by
      have h:=hc0.below (bw.o w2 hb) (by omega);exact⟨h 0 _ rfl,h 1 _ rfl⟩
     obtain⟨h5,hi3,hw3⟩:=elt (i:=i) (n:=lm) (by omega) (by omega);clear hc0 hMi hB hI hg1
     go_upto_region 12 with fail
     have fd:Bz wb wo.drew:=hbr.trans (cU _ _);refine hRp (Bz wb) 10 (Heavy.lights [0,1,2,3,4,5,6,7,8] (.one 9 .done)) (by kernel_rfl) (by kernel_rfl) fd ?_;simp only [Heavy.lights,aX,bI,aW,bD]
     iterate 4 ((apply hLm;(exact rfl);(exact rfl);(intro b2 hw;go_simp;exact rfl);(go_simp;exact rfl)))
     (apply hLm;(exact rfl);(exact rfl);(intro b2 hw;obtain⟨m0,m1⟩:=g7.o b2 hw;go_simp;exact rfl);(go_simp;exact rfl))
     (apply hLm;(exact rfl);(exact rfl);(intro b2 hw;go_simp;exact rfl);(go_simp;exact rfl))
     (apply hLm;(exact rfl);(exact rfl);(intro b2 hw;obtain⟨x0,x1,x2,x3,x4,x5,x6⟩:=fa.o b2 hw;go_simp;exact rfl);(go_simp;exact rfl))
     (apply hLm;(exact rfl);(exact rfl);(intro b2 hw;go_simp;exact rfl);(go_simp;exact rfl))
     (apply hLm;(exact rfl);(exact rfl);(intro b2 hw;obtain⟨y0,y1,y2,y3,y4,y5,y6⟩:=sA.o b2 hw;go_simp;exact rfl);(go_simp;exact rfl))
     (apply hOn;(exact rfl);(exact rfl));go_simp
     refine(dk.o _).mono ?_;rintro e wk ⟨rfl,hbk⟩;have ek:Bz wb wk:=fd.trans (hbk.mono fd.size);refine⟨_,rfl,ek,?_⟩
     (refine hNa (by go_simp;exact rfl) ?_)
     apply hPe;show wpList _ _ _ _ _ _;have f1:=aside ek;clear hbk fd hbr ek;cases B
     ·have c5:Aside (∀(j:Nat) M,j<i+1→Ms[j]?=some M→¬M.ind=(nA,(l3:Int))):=fun j M hj d6=>by
       rcases gR j i with h|h
       ·exact hall.o j M h d6
       ·obtain rfl:j=i:=by omega
        rw [b9.o] at d6;injection d6 with e2;subst e2
        exact UP d5.o
      go_wp2;exact⟨⟨i+1,by simp,by omega,f1.o,c5⟩,by simp [intOf];omega⟩
     ·have e7:Aside (bH Ms K TT=(0,K)):=by
       show _=_;rw [bH,if_neg a8,if_pos d2,if_neg (by rw [HA.o];simp),if_pos];rw [rT];exact⟨_,aP b9.o,by rw [f3.o];exact d5.o⟩
      have b4:=a1.o wk 0 f1.o e7.o;rw [a9.o] at b4;have c7:=aside b4;clear b4;go_wp2
      all_goals first
       |exact c7.o
       |(exfalso;rename_i g9;have e:=pV d5.o;have e2:(mn,ma)=(nA,(l3:Int)):=e;injection e2 with e3 e4;exact g9 (by rw [e3]))
    ·obtain rfl:i=lm:=by omega
     have h1:Aside (bH Ms K TT=(1,K)):=by
      show _=_;rw [bH,if_neg a8,if_pos d2,if_neg (by rw [HA.o];simp),if_neg];rw [rT];rintro⟨M,hM,e⟩;obtain⟨j,hj⟩:=tW hM;rw [f3.o] at e;exact hall.o j M (by have:=(aO.1 hj).1;have:=f7.o;omega) hj (pV e)
     go_wp2;rw [←a9.o];exact a1.o _ 1 hbr h1.o
 have b1:¬TT.kd=2:=by rw [a6.o];exact k2
 by_cases k6:kd=6
 ·subst k6;obtain⟨H,hH⟩:∃b,cT K TT=b:=⟨_,rfl⟩;have HA:=aside hH;rw [hH] at dh;clear hH;have d3:TT.kd=6:=a6.o;have b5:¬TT.kd=3:=by rw [d3];decide
  have d4:¬TT.kd=5:=by rw [d3];decide
  cases H
  all_goals
   go_wp2_with (first
    |(go_at_call 52;(with_reducible refine d1.mono ?_);rintro e w2 ⟨rfl,hb2⟩;obtain⟨z0,z1,z2,z3,z4,z5,z6⟩:=fa.o w2 hb2)
    |(go_at_call 43;(with_reducible refine(dh.o w2 hb2).mono ?_);rintro e w3 ⟨rfl,hb3⟩;have a0:=hb2.trans (hb3.mono hb2.size)))
   rw [←a9.o]
  ·exact a1.o _ 2 a0 (by rw [bH,if_neg a8,if_neg b1,if_neg b5,if_neg d4,if_pos d3,if_pos HA.o])
  ·exact a1.o _ 0 a0 (by rw [bH,if_neg a8,if_neg b1,if_neg b5,if_neg d4,if_pos d3,if_neg (by rw [HA.o];simp)])
 have h4:¬TT.kd=6:=by rw [a6.o];exact k6
 by_cases h3:kd=3∨kd=5
 case neg=>
  have b5:¬TT.kd=3:=by rw [a6.o];omega
  have d4:¬TT.kd=5:=by rw [a6.o];omega
  have k3:¬kd=3:=by omega
  have k5:¬kd=5:=by omega
  have g1:(kd==1)=false:=by simpa using k1
  have g2:(kd==2)=false:=by simpa using k2
  have g3:(kd==3)=false:=by simpa using k3
  have g5:(kd==5)=false:=by simpa using k5
  have g6:(kd==6)=false:=by simpa using k6
  go_wp2_with (go_at_call 52;(with_reducible refine d1.mono ?_);rintro e w2 ⟨rfl,hb2⟩)
  rw [←a9.o];exact a1.o _ 0 hb2 (by rw [bH,if_neg a8,if_neg b1,if_neg b5,if_neg d4,if_neg h4])
 have e8:TT.kd=3∨TT.kd=5:=by rw [a6.o];exact h3
 obtain⟨A,B,hAB,hmem⟩:=PP e8;obtain⟨bA,oA,va,rfl,hbA,hcA,hvA⟩:=c0.o.1.get (k:=0) (T:=A) (by rw [hAB];rfl);obtain⟨bB,oB,vb,eB,hbB,hcB,hvB⟩:=c0.o.1.get (k:=1) (T:=B) (by rw [hAB];rfl);injection eB with eB
 injection eB with e1 e2 _
 subst e1 e2;have e6:l1=2:=by rw [c0.o.2,hAB];rfl
 subst e6;have f8:InK K A:=h0.2 A (by rw [hAB];simp);have f9:InK K B:=h0.2 B (by rw [hAB];simp);have b3:A.nodes≤1000000∧B.nodes≤1000000:=by
  have hh:=h0.1;clear d1 da dh dm;obtain⟨kk,vv,nn,gg,nu,de,ar⟩:=TT;have e:ar= [A,B]:=hAB;subst e;simp only [Tm.nodes,Tm.nodesL] at hN;omega
 have c8:=aside hvA;have c9:=aside hvB;have dA:Aside (∀w2,Bz wb w2→Cz 43 #[kv,.agg va.toArray] w2 (dP w2 (cT K A))):=fun w2 hb=>wL A K n base w2 _ kv (TmV.below (bw.o w2 hb) hn _ _ c8.o) (aE hn (bw.o w2 hb).size) b3.1 (b7.o w2 hb) f8
 have dB:Aside (∀w2,Bz wb w2→Cz 43 #[kv,.agg vb.toArray] w2 (dP w2 (cT K B))):=fun w2 hb=>wL B K n base w2 _ kv (TmV.below (bw.o w2 hb) hn _ _ c9.o) (aE hn (bw.o w2 hb).size) b3.2 (b7.o w2 hb) f9
 have b8:Aside (∀w2,Bz wb w2→CellsAt w2 bA oA va∧CellsAt w2 bA (oA+7) vb):=fun w2 hb=>
  ⟨fun j u hj=>((bw.o w2 hb).cell (p:=⟨bA,oA+j,none⟩) (by show bA<_;omega)).trans (by have:=hcA j u hj;simpa using this),fun j u hj=>((bw.o w2 hb).cell (p:=⟨bA,oA+7+j,none⟩) (by show bA<_;omega)).trans (by have:=hcB j u hj;simpa using this)⟩
 obtain⟨HA,hHA⟩:∃b,cT K A=b:=⟨_,rfl⟩;obtain⟨HB,hHB⟩:∃b,cT K B=b:=⟨_,rfl⟩;have HAA:=aside3 hHA hHB hAB;rw [hHA] at dA;rw [hHB] at dB;clear hHA hHB hAB hcA hcB hbB;obtain⟨kA,uA,nA,gA,b6,denA,a7⟩:=A;obtain⟨kB,uB,nB,gB,numB,denB,pT⟩:=B;simp only [TmV] at hvA hvB;obtain⟨_,_,a3,c3,rfl,⟨⟨p3,q3,rfl,_⟩,⟨p4,q4,rfl,_⟩⟩,_⟩:=hvA;obtain⟨_,_,a4,c4,rfl,⟨⟨p5,q5,rfl,_⟩,⟨p6,q6,rfl,_⟩⟩,_⟩:=hvB;have sA:Aside (∀w2,Bz wb w2→_):=fun(w2:Wo) (hb:Bz wb w2)=>jL (w:=w2) (w2:=w2) (fun _ _=>rfl) (b8.o w2 hb).1
 have sB:Aside (∀w2,Bz wb w2→_):=fun(w2:Wo) (hb:Bz wb w2)=>jL (w:=w2) (w2:=w2) (fun _ _=>rfl) (b8.o w2 hb).2
 generalize a7.length=l3,b6.length=m1,denA.length=m2,pT.length=l4,numB.length=m3,denB.length=m4 at*;replace dA:Aside (∀w2,Bz wb w2→Cz 43 #[kv,.agg (tA kA uA nA gA p3 m1 q3 p4 m2 q4 a3 l3 c3)] w2 (dP w2 HA)):=dA;replace dB:Aside (∀w2,Bz wb w2→Cz 43 #[kv,.agg (tA kB uB nB gB p5 m3 q5 p6 m4 q6 a4 l4 c4)] w2 (dP w2 HB)):=dB;clear b8 f8 f9 b3 c8 c9 hmem hN h0
 by_cases k3:kd=3
 ·subst k3;have e9:TT.kd=3:=a6.o;cases HA<;>cases HB
  all_goals
   go_wp2_with (first
    |(go_at_call 52;(with_reducible refine d1.mono ?_);rintro e w2 ⟨rfl,hb2⟩;obtain⟨z0,z1,z2,z3,z4,z5,z6⟩:=fa.o w2 hb2;obtain⟨y0,y1,y2,y3,y4,y5,y6⟩:=sA.o w2 hb2;obtain⟨v0,v1,v2,v3,v4,v5,v6⟩:=sB.o w2 hb2)
    |(go_at_call 43;(with_reducible refine(dA.o w2 hb2).mono ?_);rintro e w3 ⟨rfl,hb3⟩;have a0:=hb2.trans (hb3.mono hb2.size);obtain⟨z0,z1,z2,z3,z4,z5,z6⟩:=fa.o w3 a0;obtain⟨v0,v1,v2,v3,v4,v5,v6⟩:=sB.o w3 a0)
    |(go_at_call 43;(with_reducible refine(dB.o w3 a0).mono ?_);rintro e w4 ⟨rfl,hb4⟩;have d0:=a0.trans (hb4.mono a0.size);obtain⟨z0,z1,z2,z3,z4,z5,z6⟩:=fa.o w4 d0)
    |(go_at_call 101;(with_reducible refine(da.o w4 d0).mono ?_);rintro e w5 ⟨v5,rfl,hs5,hk5⟩)
    |(go_at_call 101;(with_reducible refine(da.o w3 a0).mono ?_);rintro e w5 ⟨v5,rfl,hs5,hk5⟩))
   rw [←a9.o]
  ·exact a1.o _ 0 d0 (by rw [bH,if_neg a8,if_neg b1,if_pos e9,if_neg (by rw [HAA.o.2.2];simp [HAA.o.1,HAA.o.2.1])])
  ·exact a5.o w4 _ _ _ d0 (by rw [bH,if_neg a8,if_neg b1,if_pos e9,if_pos (by rw [HAA.o.2.2];simp [HAA.o.1,HAA.o.2.1])]) hs5 hk5
  all_goals exact a5.o w3 _ _ _ a0 (by rw [bH,if_neg a8,if_neg b1,if_pos e9,if_pos (by rw [HAA.o.2.2];simp [HAA.o.1])]) hs5 hk5
 have b5:¬TT.kd=3:=by rw [a6.o];exact k3
 obtain rfl:kd=5:=by have:=a6.o;omega
 have f6:TT.kd=5:=a6.o;cases HB
 all_goals
  go_wp2_with (first
   |(go_at_call 52;(with_reducible refine d1.mono ?_);rintro e w2 ⟨rfl,hb2⟩;obtain⟨z0,z1,z2,z3,z4,z5,z6⟩:=fa.o w2 hb2;obtain⟨y0,y1,y2,y3,y4,y5,y6⟩:=sA.o w2 hb2;obtain⟨v0,v1,v2,v3,v4,v5,v6⟩:=sB.o w2 hb2)
   |(go_at_call 43;(with_reducible refine(dB.o w2 hb2).mono ?_);rintro e w3 ⟨rfl,hb3⟩;have a0:=hb2.trans (hb3.mono hb2.size);obtain⟨z0,z1,z2,z3,z4,z5,z6⟩:=fa.o w3 a0)
   |(go_at_call 101;(with_reducible refine(da.o w3 a0).mono ?_);rintro e w5 ⟨v5,rfl,hs5,hk5⟩))
  rw [←a9.o]
 ·exact a1.o _ 2 a0 (by rw [bH,if_neg a8,if_neg b1,if_neg b5,if_pos f6,if_pos (by rw [HAA.o.2.2];simp [HAA.o.2.1])])
 ·exact a5.o w3 _ _ _ a0 (by rw [bH,if_neg a8,if_neg b1,if_neg b5,if_pos f6,if_neg (by rw [HAA.o.2.2];simp [HAA.o.2.1])]) hs5 hk5
end
section
attribute [local go_sem] Heavy.uponW
def ZP (C:Cl) (n:Nat) (w:Wo) (vc:Lv) (hC:ClV n w C vc) (hF:C.flt=0) (hn:n≤w.heap.size):
  Cz 40 #[.agg vc.toArray] w fun e w'=>∃v,e= .returned v∧OutT n w.heap.size w' v C.b.lits∧Bz w w':=by
 have a3:=iL (qX hF).2.1;obtain⟨vh,vb,rfl,h1,h2⟩:=hC;have dL:Aside (∀w2,Bz w w2→Cz 20 #[.agg vb.toArray] w2 (eJ n w2 C.b)):=fun w2 hb=>zU C.b n w2 vb a3.2 a3.1 (TmV.below hb hn _ _ h2) (aE hn hb.size)
 obtain⟨L,hL⟩:=enm C.b.lits;have a4:Aside (∀w2,Bz w w2→Cz 20 #[.agg vb.toArray] w2 fun e w'=>∃v B,e= .returned (.tuple #[v,.bool B])∧OutT n w2.heap.size w' v L∧Bz w2 w'):=fun w2 hb=>(dL.o w2 hb).mono fun e w' ⟨v,e1,e2,e3⟩=>⟨v,_,e1,by rw [←hL];exact e2,e3⟩
 rw [hL];clear dL hL a3 hF;obtain⟨th,tb,vars⟩:=C;dsimp only at h1 h2 ⊢;obtain⟨k1,v1,nm1,g1,num1,den1,a0⟩:=th;obtain⟨k2,v2,nm2,g2,num2,den2,args2⟩:=tb;simp only [TmV] at h1 h2;obtain⟨_,_,a1,c1,rfl,⟨⟨p1,q1,rfl,_⟩,⟨p2,q2,rfl,_⟩⟩,_⟩:=h1;obtain⟨_,_,a2,c2,rfl,⟨⟨p3,q3,rfl,_⟩,⟨p4,q4,rfl,_⟩⟩,_⟩:=h2;generalize a0.length=l1,num1.length=n1,den1.length=n2,args2.length=l2,num2.length=n3,den2.length=n4 at*;obtain⟨wb,hwb,b0,hq,_⟩:=ebx w (bC k1 v1 nm1 g1 p1 n1 q1 p2 n2 q2 a1 l1 c1 k2 v2 nm2 g2 p3 n3 q3 p4 n4 q4 a2 l2 c2 vars);obtain⟨x0,x1,x2,x3,x4,x5,x6,x7,x8,x9,x10,x11,x12,x13,x14⟩:=mV hq;have d1:=a4.o wb b0;replace d1:Cz 20 #[.agg (tA k2 v2 nm2 g2 p3 n3 q3 p4 n4 q4 a2 l2 c2)] wb fun e w'=>∃v B,e= .returned (.tuple #[v,.bool B])∧OutT n wb.heap.size w' v L∧Bz wb w':=d1
 have a5:=aside b0;have hP:Aside (∀v w',OutT n wb.heap.size w' v L→Bz wb w'→OutT n w.heap.size w' v L∧Bz w w'):=fun v w' h hb=>by
  obtain⟨X,hX,hT⟩:=h;exact⟨⟨X,gM hX b0.size,hT⟩,b0.trans (hb.mono b0.size)⟩
 clear b0 hq a4;show Cz 40 #[.agg (tC k1 v1 nm1 g1 p1 n1 q1 p2 n2 q2 a1 l1 c1 k2 v2 nm2 g2 p3 n3 q3 p4 n4 q4 a2 l2 c2 vars)] w _;go_enter Tryz.func40,Tryz.ntmps40
 go_upto_region 1 with fail
 clear hwb
 go_wp2_with (go_at_call 20;(with_reducible refine d1.mono ?_);rintro e w3 ⟨v3,B3,rfl,hO3,hb3⟩)
 have hh:=hP.o v3 w3 hO3 hb3
 go_ret
 exact⟨_,rfl,hh⟩
end
section
attribute [local go_sem] Heavy.uponW
def Ed (T:Tm):T.ind.2=(T.args.length:Int):=by
 obtain⟨_,_,_,_,_,_,_⟩:=T;rfl
def By (Ms:List Md) (K:List Bool) (T:Tm):0≤(bH Ms K T).1:=by
 unfold bH
 repeat' split
 all_goals(dsimp only;decide)
def ZS (P:List Cl) (Ms:List Md) (n:Nat) (a b:Option Addr) (c d:Nat) (w:Wo) (hP:ClsV n w P a) (i8:MdsV n w Ms b) (d7:(∀C∈P,C.flt=0)∧P.length≤300∧MdsOk Ms) (hn:n≤w.heap.size):
  Cz 11 #[.slice a P.length c,.slice b Ms.length d] w (fun e w'=>∃v,e= .returned v∧OutF w.heap.size w' v (dU Ms P Ms.length)∧Bz w w'):=by
 obtain⟨R,hR⟩:=enm (dU Ms P Ms.length);have RA:=aside hR;have a0:=aside3 hP i8 hn;have c0:=aside d7;rw [hR];obtain⟨lm,hlm⟩:∃l,Ms.length=l:=⟨_,rfl⟩;obtain⟨lp,hlp⟩:∃l,P.length=l:=⟨_,rfl⟩;have La:=aside2 hlp hlm;rw [hlm,hlp];have j9:lm≤300:=by have:=c0.o.2.2.1;omega
 have k0:lp≤300:=by have:=c0.o.2.1;omega
 clear hR hP i8 hlm hlp hn d7;go_enter Tryz.func11,Tryz.ntmps11
 go_upto_region 3 with fail
 go_loopw [5,6] (fun s5 s wr=>∃(i:Nat) (sv:Value),sv=s5∧s= .int .i64 i∧i≤lm∧OutF w.heap.size wr sv (dU Ms P i)∧Bz w wr) (fun _ s _=>lm-(intOf s).toNat)
 case atStart=>exact⟨0,_,rfl,rfl,aJ _,nD _ _ _ _,aG _ _⟩
 case round=>
  obtain⟨wo,rfl⟩:=enr wr;obtain⟨i,s5,rfl,rfl,hi,hO,hbo⟩:=hrel
  by_cases k3:i<lm
  ·obtain⟨M,hM⟩:=egf La.o.2 k3;obtain⟨h0,off,vs,rfl,hg1,hc0,hv⟩:=a0.o.2.1 i M hM;have i7:Aside ((M.io.length:Int)=M.ar):=c0.o.2.2.2 M (aP hM);have i5:=aside hM;have f4:=aside hv;obtain⟨am,cm,rfl,hI,hIl⟩:=hv;have b6:Aside (M.ind=(M.nm,M.ar)):=rfl;obtain⟨MM,hMM⟩:∃m,M=m:=⟨_,rfl⟩;rw [hMM] at i7 i5 b6;obtain⟨mn,ma,io⟩:=M;have i6:Aside (MM.nm=mn∧MM.ar=ma):=by show _∧_;rw [←hMM];exact⟨rfl,rfl⟩
   dsimp only at hc0 hI hIl f4;rw [hMM] at f4;generalize io.length=li at*;have j4:Aside (∀w2,Bz w w2→w2.cell? ⟨h0,off+i*3,none⟩=some (.string mn)∧w2.cell? ⟨h0,off+i*3+1,none⟩=some (.int .i64 ma)∧w2.cell? ⟨h0,off+i*3+2,none⟩=some (.slice am li cm)):=fun w2 hb=>by
    have h:=hc0.below hb (bG hg1 a0.o.2.2);exact⟨h 0 _ rfl,h 1 _ rfl,h 2 _ rfl⟩
   have f6:Aside (OutF w.heap.size wo s5 (dU Ms P i++eL Ms P i MM 0)):=by
    show OutF _ _ _ _;rw [show eL Ms P i MM 0= [] from rfl,mC];exact hO
   have f8:=aside hbo;obtain⟨l3,hi3,hw3⟩:=elt (i:=i) (n:=lm) (by omega) (by omega);have k4:Aside (∀w2 v,OutF w.heap.size w2 v (dU Ms P i++eL Ms P i MM lp)→OutF w.heap.size w2 v (dU Ms P (i+1))):=fun w2 v h=>by rw [JH i5.o,La.o.1];exact h
   clear hO hbo hc0 hg1 hM hI hIl hMM
   go_upto_region 6 with fail
   go_loopw [5,7] (fun s5 s wr=>∃(k:Nat) (sv:Value),sv=s5∧s= .int .i64 k∧k≤lp∧OutF w.heap.size wr sv (dU Ms P i++eL Ms P i MM k)∧Bz w wr) (fun _ s _=>lp-(intOf s).toNat)
   case atStart=>exact⟨0,_,rfl,rfl,aJ _,f6.o,f8.o⟩
   case round=>
    obtain⟨wi,rfl⟩:=enr wr;obtain⟨k,s5,rfl,rfl,hk,hO,hbi⟩:=hrel
    by_cases j8:k<lp
    ·obtain⟨C,hC⟩:=egf La.o.1 j8;have c7:Aside (C.flt=0):=c0.o.1 C (aP hC);have i2:=aside hC;obtain⟨g0,ofc,vh,vb,rfl,hg,hc,hvh,hvb⟩:=a0.o.1.read hC;have c4:=aside2 hvh hvb;have b2:Aside (∀w2,Bz wi w2→Bz w w2):=fun w2 hb=>hbi.trans (hb.mono hbi.size)
     have e7:Aside (∀w2,Bz wi w2→OutF w.heap.size w2 s5 (dU Ms P i++eL Ms P i MM k)):=fun w2 hb=>eT hO hb (aA _)
     have f0:Aside (w.heap.size≤wi.heap.size):=hbi.size;have b1:=aside hbi;have d2:Aside ((dU Ms P i++eL Ms P i MM k).length≤100000):=QL (by omega) (by omega) c0.o.2.1;obtain⟨CC,hCC⟩:∃m,C=m:=⟨_,rfl⟩;have dL:Aside (∀w2,Bz wi w2→Cz 40 #[.agg (lY vh vb C.vars).toArray] w2 fun e w'=>∃v,e= .returned v∧OutT n w2.heap.size w' v CC.b.lits∧Bz w2 w'):=fun w2 hb=>by
      have a4:=b2.o w2 hb;rw [←hCC];exact ZP C n w2 _ ⟨vh,vb,rfl,TmV.below a4 a0.o.2.2 _ _ c4.o.1,TmV.below a4 a0.o.2.2 _ _ c4.o.2⟩ c7.o (aE a0.o.2.2 a4.size)
     obtain⟨K1,hK1⟩:∃K,eN CC.h.args MM.io (List.replicate CC.vars.toNat false) CC.h.args.length=K:=⟨_,rfl⟩;have i3:Aside (K1.length=CC.vars.toNat):=by show _=_;rw [←hK1,yF];simp
     have dB:Aside (∀w2,Bz wi w2→CC.h.ind=MM.ind→Cz 41 #[.agg (lY vh vb C.vars).toArray,.agg #[.string mn,.int .i64 ma,.slice am li cm]] w2 (PutP w2 K1)):=fun w2 hb b5=>by
      have a4:=b2.o w2 hb;rw [←hK1];refine Jg CC MM n w2 _ [.string mn,.int .i64 ma,.slice am li cm] (by rw [←hCC];exact⟨vh,vb,rfl,TmV.below a4 a0.o.2.2 _ _ c4.o.1,TmV.below a4 a0.o.2.2 _ _ c4.o.2⟩) (by rw [←hCC];exact c7.o) (f4.o.below a4 a0.o.2.2) ?_ (aE a0.o.2.2 a4.size);have h2:=i7.o;rw [b6.o] at b5;have h3:CC.h.ind.2=MM.ar:=by rw [b5]
      rw [Ed] at h3;omega
     have j0:Aside (∀K:List Bool,K.length=CC.vars.toNat→CC.h.okV K∧∀T∈CC.b.lits,T.okV K):=fun K hK=>IF (by rw [←hCC];exact c7.o) hK
     have d9:Aside (CC.vars.toNat≤1000000∧CC.h.nodes≤10000∧CC.b.nodes≤10000∧CC.b.errE=0):=by
      show _∧_;rw [←hCC];have g8:=qX c7.o;have j6:=iL g8.1;have i9:=iL g8.2.1;have g6:C.num:=by have:=g8.2.2.1;simpa [Cl.numB] using this
      have h1:=g6.2;have h2:=(pK [C.h,C.b] []).1;simp only [Tm.nodesL,pY] at h2;unfold Cl.fr at h1;refine⟨by omega,j6.1,i9.1,i9.2⟩
     obtain⟨L,hL⟩:=enm CC.b.lits;have i4:L.length≤10000:=by have:=qQ CC.b;have:=d9.o.2.2.1;rw [hL] at*;omega
     have hT:Aside (∀T∈L,T.errE=0∧T.nodes≤1000000):=fun T hT=>by
      rw [←hL] at hT;have:=BI CC.b T hT;exact⟨this.1 d9.o.2.2.2,by have:=d9.o.2.2.1;omega⟩
     obtain⟨RR,hRR⟩:∃r,kN Ms CC MM=r:=⟨_,rfl⟩;have g3:Aside ((let r:=kT Ms L 0 K1;if r.1.2=0 then(if cT r.2 CC.h=true then(0,0) else(L.length,(3:Int))) else r.1)=RR):=by
      show _=_;rw [←hRR,kN,hL,hK1]
     have dH:Aside (∀w2 kv K,Bz wi w2→OutB w.heap.size w2 kv K→K.length=CC.vars.toNat→Cz 43 #[kv,.agg vh.toArray] w2 (dP w2 (cT K CC.h))):=fun w2 kv K hb hO hK=>by
      have a4:=b2.o w2 hb;exact wL CC.h K n _ w2 vh kv (by rw [←hCC];exact TmV.below a4 a0.o.2.2 _ _ c4.o.1) (aE a0.o.2.2 a4.size) (by have:=d9.o.2.1;omega) hO (j0.o K hK).1.1
     have dN:Aside (∀T∈L,∀w2 kv K vt,Bz wi w2→OutB w.heap.size w2 kv K→K.length=CC.vars.toNat→TmV n w2 T vt→Cz 42 #[.agg vt.toArray,.slice (some ⟨h0,off,none⟩) lm d,kv] w2 (NxP w.heap.size w2 (bH Ms K T))):=fun T f7 w2 kv K vt hb hO hK hv=>by
      have a4:=b2.o w2 hb;have:=Bu Ms T K n w.heap.size (some ⟨h0,off,none⟩) d w2 vt kv (a0.o.2.1.below a4 a0.o.2.2) c0.o.2.2 hv (hT.o T f7).1 hO (by have:=d9.o.1;omega) ((j0.o K hK).2 T (by rw [hL];exact f7)) (hT.o T f7).2 (aE a0.o.2.2 a4.size) a4.size;rw [La.o.2] at this;exact this
     have b7:=QR Ms i k MM CC;rw [hRR] at b7;rw [hCC] at i2;have a7:Aside (eL Ms P i MM (k+1)=eL Ms P i MM k++mR Ms i k MM CC):=FC i2.o;obtain⟨ci,hci⟩:∃c,CC.h.ind=c:=⟨_,rfl⟩;have f9:=aside hci;have a5:Aside (C.h.ind=ci):=by show _=_;rw [hCC];exact hci
     clear hci;have a6:Aside _:=b7;have d3:=aside i4;rw [hL] at dL;have g4:Aside (∀w2,Bz wi w2→CellsAt w2 g0 (ofc+k*15) (lY vh vb C.vars)):=fun w2 hb=>hc.below (b2.o w2 hb) (bG hg a0.o.2.2)
     clear hL hRR hK1 hCC b7 hO hbi hc hg hC i4 c4 c7;obtain⟨th,tb,vars⟩:=C;dsimp only at g4 hvh hvb dL dB a5;obtain⟨k1,v1,nm1,g1,num1,den1,c5⟩:=th;obtain⟨k2,v2,nm2,g2,num2,den2,args2⟩:=tb;simp only [TmV] at hvh hvb;obtain⟨_,_,a1,c1,rfl,⟨⟨p1,q1,rfl,_⟩,⟨p2,q2,rfl,_⟩⟩,_⟩:=hvh;obtain⟨_,_,a2,c2,rfl,⟨⟨p3,q3,rfl,_⟩,⟨p4,q4,rfl,_⟩⟩,_⟩:=hvb;simp only [Tm.ind] at a5;generalize c5.length=l1,num1.length=n1,den1.length=n2,args2.length=l2,num2.length=n3,den2.length=n4 at*;have fa:Aside (∀w2,Bz wi w2→_):=fun(w2:Wo) (hb:Bz wi w2)=>sR (g4.o w2 hb)
     have fm:Aside (∀w2,Bz wi w2→_):=fun(w2:Wo) (hb:Bz wi w2)=>j4.o w2 (b2.o w2 hb)
     replace dL:Aside (∀w2,Bz wi w2→Cz 40 #[.agg (tC k1 v1 nm1 g1 p1 n1 q1 p2 n2 q2 a1 l1 c1 k2 v2 nm2 g2 p3 n3 q3 p4 n4 q4 a2 l2 c2 vars)] w2 fun e w'=>∃v,e= .returned v∧OutT n w2.heap.size w' v L∧Bz w2 w'):=dL;replace dB:Aside (∀w2,Bz wi w2→CC.h.ind=MM.ind→Cz 41 #[.agg (tC k1 v1 nm1 g1 p1 n1 q1 p2 n2 q2 a1 l1 c1 k2 v2 nm2 g2 p3 n3 q3 p4 n4 q4 a2 l2 c2 vars),.agg #[.string mn,.int .i64 ma,.slice am li cm]] w2 (PutP w2 K1)):=dB;replace dH:Aside (∀w2 kv K,Bz wi w2→OutB w.heap.size w2 kv K→K.length=CC.vars.toNat→Cz 43 #[kv,.agg (tA k1 v1 nm1 g1 p1 n1 q1 p2 n2 q2 a1 l1 c1)] w2 (dP w2 (cT K CC.h))):=dH;have dk:Aside (∀w2,Cz 39 #[.agg (tA k1 v1 nm1 g1 p1 n1 q1 p2 n2 q2 a1 l1 c1)] w2 fun e w'=>e= .returned (.agg #[.string nm1,.int .i64 l1])∧Bz w2 w'):=fun w2=>nW k1 v1 nm1 g1 _ _ _ _ _ w2
     obtain⟨B,hB⟩:∃b,decide ((nm1,(l1:Int))=(mn,ma))=b:=⟨_,rfl⟩;have j2:=kX nm1 mn l1 ma;have k7:=lV;have j3:=aside hB;rw [hB] at j2;have i1:Aside (decide (CC.h.ind=MM.ind)=B):=by
      show _=_;rw [f9.o,←a5.o,b6.o,i6.o.1,i6.o.2];exact hB
     obtain⟨l4,hk3,hw4⟩:=elt (i:=k) (n:=lp) (by omega) (by omega);clear g4 hB a5
     go_upto_region 8 with fail
     have fd:Bz wi wi.drew:=cU _ _;refine hRp (Bz wi) 11 (Heavy.lights [0,1,2,3,4,6,7,8,9,10] (.one 5 .done)) (by kernel_rfl) (by kernel_rfl) fd ?_;simp only [Heavy.lights,aX,bI,aW,bD]
     iterate 4 ((apply hLm;(exact rfl);(exact rfl);(intro b0 hw;go_simp;exact rfl);(go_simp;exact rfl)))
     (apply hLm;(exact rfl);(exact rfl);(intro b0 hw;obtain⟨x0,x1,x2,x3,x4,x5,x6,x7,x8,x9,x10,x11,x12,x13,x14⟩:=fa.o b0 hw;go_simp;exact rfl);(go_simp;exact rfl))
     iterate 4 ((apply hLm;(exact rfl);(exact rfl);(intro b0 hw;go_simp;exact rfl);(go_simp;exact rfl)))
     (apply hLm;(exact rfl);(exact rfl);(intro b0 hw;obtain⟨m0,m1,m2⟩:=fm.o b0 hw;go_simp;exact rfl);(go_simp;exact rfl))
     (apply hOn;(exact rfl);(exact rfl));go_simp
     refine(dk.o _).mono ?_;rintro e wk ⟨rfl,hbk⟩;have ek:Bz wi wk:=fd.trans (hbk.mono fd.size);refine⟨_,rfl,ek,?_⟩
     (refine hNa (by go_simp;exact rfl) ?_)
     apply hPe;show wpList _ _ _ _ _ _;have b8:=aside ek;clear hbk fd ek;cases B
     ·have g5:Aside (OutF w.heap.size wk s5 (dU Ms P i++eL Ms P i MM (k+1))∧Bz w wk):=by
       show _∧_;rw [a7.o,a6.o.1 (UP i1.o),mC];exact⟨e7.o wk b8.o,b2.o wk b8.o⟩
      go_wp2;exact⟨⟨k+1,_,rfl,by simp,by omega,g5.o⟩,by simp [intOf];omega⟩
     have b5:Aside (CC.h.ind=MM.ind):=by show _=_;exact pV i1.o
     have k5:=pV j3.o;injection k5 with hpe1 hpe2
     obtain rfl:=hpe1.symm;obtain⟨x0,x1,x2,x3,x4,x5,x6,x7,x8,x9,x10,x11,x12,x13,x14⟩:=fa.o wk b8.o;have h5:=dL.o wk b8.o
     go_upto_region 10 with(go_at_call 40;(with_reducible refine h5.mono ?_);rintro e w3 ⟨v3,rfl,hO3,hb3⟩)
     have e3:Bz wi w3:=b8.o.trans (hb3.mono b8.o.size);have f1:=aside e3;obtain⟨X,hX,hTs⟩:=hO3;obtain⟨al,cl,rfl,hrd⟩:=gL hX;obtain⟨len,hl⟩:=enm L.length;have g7:Aside (∀(j:Nat) T,L[j]?=some T→∃g vs,al=some ⟨g,0,none⟩∧wk.heap.size≤g∧g<w3.heap.size∧TmV n w3 T vs∧∀(k:Nat) u,vs[k]?=some u→w3.cell? ⟨g,0+j*7+k,none⟩=some u):=by
      show∀(j:Nat) T,_;intro j T hj;rcases hrd with h0|⟨g,e,hgb,hgl,hc⟩
      ·have:=(aO.1 hj).1;omega
      ·obtain⟨vs,hv,hx⟩:=hTs.get hj;exact⟨g,vs,e,hgb,hgl,hv,fun k u hu=>by rw [bT];exact hc _ _ (hx k u hu)⟩
     rw [hl];have Ll:=aside hl;have l5:len≤10000:=by have:=d3.o;omega
     clear hrd hTs hX hl x0 x1 x2 x3 x4 x5 x6 x7 x8 x9 x10 x11 x12 x13 x14 h5 hb3 e3 j2 k7;have fd:Bz wi w3.drew:=f1.o.trans (cU _ _);refine hRp (Bz wi) 9 (Heavy.lights [0,1,2,3,4,5,6,7] (.one 8 .done)) (by kernel_rfl) (by kernel_rfl) fd ?_;simp only [Heavy.lights,aX,bI,aW,bD]
     iterate 3 ((apply hLm;(exact rfl);(exact rfl);(intro b0 hw;go_simp;exact rfl);(go_simp;exact rfl)))
     (apply hLm;(exact rfl);(exact rfl);(intro b0 hw;obtain⟨x0,x1,x2,x3,x4,x5,x6,x7,x8,x9,x10,x11,x12,x13,x14⟩:=fa.o b0 hw;go_simp;exact rfl);(go_simp;exact rfl))
     iterate 3 ((apply hLm;(exact rfl);(exact rfl);(intro b0 hw;go_simp;exact rfl);(go_simp;exact rfl)))
     (apply hLm;(exact rfl);(exact rfl);(intro b0 hw;obtain⟨m0,m1,m2⟩:=fm.o b0 hw;go_simp;exact rfl);(go_simp;exact rfl))
     (apply hOn;(exact rfl);(exact rfl));go_simp
     have f2:Aside (Bz w3 w3.drew):=cU _ _;refine(dB.o _ ?_ b5.o).mono ?_
     ·first|exact fd|exact f1.o.trans f2.o|(simpa using fd)
     rintro e w4 ⟨v4,rfl,hO4,hb4⟩;have e4:Bz wi w4:=fd.trans (hb4.mono fd.size);have h6:Aside (Bz w3 w4):=f2.o.trans (hb4.mono f2.o.size);refine⟨_,rfl,e4,?_⟩
     (refine hNa (by go_simp;exact rfl) ?_)
     apply hPe;show wpList _ _ _ _ _ _;have h8:=aside e4;have f5:Aside (OutB w.heap.size w4 v4 (dQ Ms L K1 0)):=gM hO4 (aE f0.o fd.size);clear e4 hO4 hb4 fd
     go_upto_region 13 with fail
     go_loopw [9,10,11] (fun s9 k8 s wr=>∃(p:Nat) (sv:Value),sv=s9∧s= .int .i64 p∧p≤len∧k8= .int .i64 0∧OutB w.heap.size wr sv (dQ Ms L K1 p)∧Bz w4 wr∧Aside (∀(j:Nat) T,j<p→L[j]?=some T→(bH Ms (dQ Ms L K1 j) T).1=0)) (fun _ _ s _=>len-(intOf s).toNat)
     case atStart=>exact⟨0,_,rfl,rfl,aJ _,rfl,f5.o,aG _ _,fun j T hj=>by omega⟩
     case round=>
      obtain⟨wp,rfl⟩:=enr wr;obtain⟨p,s9,rfl,rfl,hp,rfl,hOp,hbp,hall⟩:=hrel;have c3:Bz wi wp:=h8.o.trans (hbp.mono h8.o.size);have e8:Bz w3 wp:=h6.o.trans (hbp.mono h6.o.size);have a8:=aside c3
      by_cases k6:p<len
      ·obtain⟨A,hA⟩:=egf Ll.o k6;obtain⟨b9,va,rfl,hbn,hbl,hv,hc⟩:=g7.o p A hA;have c6:TmV n wp A va:=TmV.below e8 (aE a0.o.2.2 (aE f0.o f1.o.size)) _ _ hv;have d5:=dN.o A (aP hA) wp s9 (dQ Ms L K1 p) va c3 hOp (by rw [BJ];exact i3.o) c6;have d4:Aside (dQ Ms L K1 (p+1)=(bH Ms (dQ Ms L K1 p) A).2):=GX hA;have e9:=By Ms (dQ Ms L K1 p) A;have i0:=aside hA;obtain⟨r,hr⟩:=enm (bH Ms (dQ Ms L K1 p) A);have j1:=aside hr;rw [hr] at d5 d4 e9;obtain⟨f,K2⟩:=r;have a9:Aside (f=0→∀(j:Nat) T,j<p+1→L[j]?=some T→(bH Ms (dQ Ms L K1 j) T).1=0):=fun e j T hj hT=>by
        rcases gR j p with h|h
        ·exact hall.o j T h hT
        ·obtain rfl:j=p:=by omega
         rw [i0.o] at hT;injection hT with e2;subst e2
         rw [j1.o];exact e
       have b4:Aside (f≠0→RR=(p,f)):=fun e=>by
        have h9:=zR (K:=K1) (by rw [Ll.o];omega) hall.o;obtain⟨j7,hx9⟩:=aO.1 i0.o;rw [jC j7,hx9,kT,j1.o,if_neg e] at h9;rw [←g3.o,h9,if_neg e]
       obtain⟨k',v',nm',g',g9,den',args'⟩:=A;simp only [TmV] at hv;obtain⟨_,_,a',c',rfl,⟨⟨r1,u1,rfl,_⟩,⟨r2,u2,rfl,_⟩⟩,_⟩:=hv;obtain⟨e0,e1,e2,e3,e4,e5,e6⟩:=qE (w:=w3) (w2:=wp) (fun q hq=>e8.cell (hq▸hbl)) hc;rw [bT] at e0 e1 e2 e3 e4 e5 e6;generalize g9.length=m1',den'.length=m2',args'.length=l' at*;replace d5:Cz 42 #[.agg (tA k' v' nm' g' r1 m1' u1 r2 m2' u2 a' l' c'),.slice (some ⟨h0,off,none⟩) lm d,s9] wp (NxP w.heap.size wp (f,K2)):=d5;obtain⟨l6,hpp,hwp⟩:=elt (i:=p) (n:=len) (by omega) (by omega);have c9:=aside hbp;clear hc hA c6 hOp hbp c3 e8 hr hbl hbn
       by_cases hf:f=0
       ·subst hf;have c8:Aside (∀(j:Nat) T,j<p+1→L[j]?=some T→(bH Ms (dQ Ms L K1 j) T).1=0):=a9.o rfl;clear a9 b4 e9
        go_wp2_with (go_at_call 42;(with_reducible refine d5.mono ?_);rintro e w6 ⟨v6,rfl,hO6,hb6⟩)
        have hL:OutB w.heap.size w6 v6 (dQ Ms L K1 (p+1))∧Bz w4 w6∧Aside (∀(j:Nat) T,j<p+1→L[j]?=some T→(bH Ms (dQ Ms L K1 j) T).1=0):=⟨by rw [d4.o];exact hO6,c9.o.trans (hb6.mono c9.o.size),c8⟩;go_roundw
        case rel=>exact⟨p+1,_,rfl,by simp,by omega,rfl,hL⟩
        case measure=>simp [intOf];omega
       ·have k9:(f==0)=false:=by simpa using hf
        have l0:(0:Int)<f:=by have:=e9;simp only at this;omega
        have hRp:Aside (RR=(p,f)):=b4.o hf;have j5:=aside hf;clear a9 b4 e9
        go_upto_region 20 with(go_at_call 42;(with_reducible refine d5.mono ?_);rintro e w6 ⟨v6,rfl,hO6,hb6⟩)
        have a3:Bz wi w6:=a8.o.trans (hb6.mono a8.o.size);clear d5 hO6 hb6 e0 e1 e2 e3 e4 e5 e6;obtain⟨q1,q2,q3,q4,q5,q6⟩:=(e7.o w6 a3).app rfl (aE f0.o (a3).size) d2.o i k p f;have q7:∀u∈([.int .i64 i,.int .i64 k,.int .i64 p,.int .i64 f]:Lv),u.oneCell'=true:=by simp [Value.oneCell']
        have b3:=aside a3;have h4:Aside _:=q6;clear q6
        go_wp2_with (at_builtin;refine gE elFt _ rfl _ _ rfl w.heap.size _ _ _ rfl q1 _ _ _ rfl q2 rfl q7 q3 q4 q5 ?_;intro v7 w7 h7 d1 d8)
        obtain⟨t1,t2,t3⟩:=h4.o v7 w7 h7 d1 d8;have f3:Aside (OutF w.heap.size w7 v7 (dU Ms P i++eL Ms P i MM (k+1))∧Bz w w7):=by
         show _∧_;rw [a7.o,a6.o.2.2 b5.o (by rw [hRp.o];exact j5.o),hRp.o,←fO];exact⟨t1,(b1.o.trans (b3.o.mono b1.o.size)).trans (t2.mono (aA _))⟩
        clear t1 t2 t3 h7 d1 d8 q1 q2 q3 q4 q5 q7;go_wp2;exact⟨⟨k+1,_,rfl,by simp,by omega,f3.o⟩,by simp [intOf];omega⟩
      ·obtain rfl:p=len:=by omega
       have d0:Aside (kT Ms L 0 K1=((p,0),dQ Ms L K1 p)):=by
        show _=_;rw [zR (by rw [Ll.o];omega) hall.o,rS (nF Ll.o),kT]
       have d6:=dH.o wp s9 (dQ Ms L K1 p) c3 hOp (by rw [BJ];exact i3.o);obtain⟨H,hH⟩:∃b,cT (dQ Ms L K1 p) CC.h=b:=⟨_,rfl⟩;have HA:=aside hH;rw [hH] at d6;obtain⟨x0,x1,x2,x3,x4,x5,x6,x7,x8,x9,x10,x11,x12,x13,x14⟩:=fa.o wp c3;clear hH hOp c3 e8 hbp;cases H
       ·have hRp:Aside (RR=(p,3)):=by
         show _=_;rw [←g3.o,d0.o];simp [HA.o,Ll.o]
        go_upto_region 20 with(go_at_call 43;(with_reducible refine d6.mono ?_);rintro e w6 ⟨rfl,hb6⟩)
        have a3:Bz wi w6:=a8.o.trans (hb6.mono a8.o.size);clear d6 hb6 x0 x1 x2 x3 x4 x5 x6 x7 x8 x9 x10 x11 x12 x13 x14;obtain⟨q1,q2,q3,q4,q5,q6⟩:=(e7.o w6 a3).app rfl (aE f0.o (a3).size) d2.o i k p 3;have q7:∀u∈([.int .i64 i,.int .i64 k,.int .i64 p,.int .i64 3]:Lv),u.oneCell'=true:=by simp [Value.oneCell']
        have b3:=aside a3;have h4:Aside _:=q6;clear q6
        go_wp2_with (at_builtin;refine gE elFt _ rfl _ _ rfl w.heap.size _ _ _ rfl q1 _ _ _ rfl q2 rfl q7 q3 q4 q5 ?_;intro v7 w7 h7 d1 d8)
        obtain⟨t1,t2,t3⟩:=h4.o v7 w7 h7 d1 d8;have f3:Aside (OutF w.heap.size w7 v7 (dU Ms P i++eL Ms P i MM (k+1))∧Bz w w7):=by
         show _∧_;rw [a7.o,a6.o.2.2 b5.o (by rw [hRp.o];simp),hRp.o,←fO];exact⟨t1,(b1.o.trans (b3.o.mono b1.o.size)).trans (t2.mono (aA _))⟩
        clear t1 t2 t3 h7 d1 d8 q1 q2 q3 q4 q5 q7;go_wp2;exact⟨⟨k+1,_,rfl,by simp,by omega,f3.o⟩,by simp [intOf];omega⟩
       ·have hRp:Aside (RR=(0,0)):=by
         show _=_;rw [←g3.o,d0.o];simp [HA.o]
        have g5:Aside (∀w2,Bz wi w2→OutF w.heap.size w2 s5 (dU Ms P i++eL Ms P i MM (k+1))∧Bz w w2):=fun w2 hb=>by
         rw [a7.o,a6.o.2.1 b5.o (by rw [hRp.o]),mC];exact⟨e7.o w2 hb,b2.o w2 hb⟩
        go_wp2_with (go_at_call 43;(with_reducible refine d6.mono ?_);rintro e w6 ⟨rfl,hb6⟩)
        have hL:=g5.o w6 (a8.o.trans (hb6.mono a8.o.size));exact⟨⟨k+1,_,rfl,by simp,by omega,hL⟩,by simp [intOf];omega⟩
    ·obtain rfl:k=lp:=by omega
     have hL:=k4.o wi s5 hO;clear hO;go_wp2;exact⟨⟨i+1,_,rfl,by simp,by omega,hL,hbi⟩,by simp [intOf];omega⟩
  ·obtain rfl:i=lm:=by omega
   have hL:Aside (∃v,(Ending.returned s5)= .returned v∧OutF w.heap.size wo v R∧Bz w wo):=⟨_,rfl,by rw [←RA.o,La.o.2];exact hO,hbo⟩;clear hO hbo;go_wp2
   go_ret
   exact hL.o
end
