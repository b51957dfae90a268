/- Lemmas; no condition. -/
import Derived.Test.YtbdpdeonapmlgaaGreatDoorAp
set_option linter.all false
set_option maxHeartbeats 8000000
set_option maxRecDepth 100000
namespace Go.Proofs.YtbdpdeonapmlgaaGreatDoor
open Go.RowKit Go.Big Go.RowsK Go.MapK
variable {w w':Wo} {S:Nat→Prop} {v:Value} {vs X xs:Lv} {T U:Tm} {n g m nb:Nat}
section
attribute [local go_sem] Heavy.uponW
noncomputable def oK (Ms:List Md) (K:List Bool) (T:Tm):Bool:=(if T.kd=3 then T.args.any (cH K) else true)&&decide ((cA Ms K T).1=0)
def XN (Ms:List Md) (T:Tm) (K:List Bool) (n kb pb mb:Nat) (a:Option Addr) (c:Nat) (w:Wo) (vt:Lv) (hM:MdsV n w Ms a) (d2:MdsOk Ms) (b7:TmV n w T vt) (hK:aW w mb (KnS K))
  (b9:w.heap[kb]?=some (.cells #[.map (some mb)] 110)) (c0:w.heap[pb]?=some (.cells #[.slice a Ms.length c] 23)) (h0:T.okV K) (hN:T.nodes≤1000000) (hn:n≤w.heap.size):
  Cz 63 #[.agg vt.toArray,.pointer (some ⟨kb,0,none⟩),.pointer (some ⟨pb,0,none⟩)] w (dJ w (oK Ms K T)):=by
 have b6:=aside b7;obtain⟨TT,hTT⟩:∃t,T=t:=⟨_,rfl⟩;rw [hTT] at b6 h0 hN ⊢;obtain⟨R,hR⟩:=enm (oK Ms K TT);have RA:=aside hR;rw [hR];obtain⟨f,hf⟩:=enm ((cA Ms K TT).1);have fA:=aside hf;obtain⟨k,v,nm,g,num,den,args⟩:=T;simp only [TmV] at b7;obtain⟨_,_,a2,c2,rfl,⟨⟨p1,q1,rfl,_⟩,⟨p2,q2,rfl,_⟩⟩,hS,hbig,_⟩:=b7;have b5:Aside (bS n w TT.args a2 0∧args.length=TT.args.length):=by
  show _∧_;rw [←hTT];exact⟨hS,rfl⟩
 clear hTT hbig hS hR hf;generalize args.length=l1,num.length=n1,den.length=n2 at*;obtain⟨wb,hwb,b0,hq,hsz⟩:=ebx w (bA k v nm g p1 n1 q1 p2 n2 q2 a2 l1 c2);have c6:=(aG.1 b9).1;have c7:=(aG.1 c0).1;have fa:Aside (∀w2,Bz wb w2→_):=fun(w2:Wo) (hb:Bz wb w2)=>bZ ((hb.block w.heap.size (by omega)).trans hq)
 have bw:Aside (∀w2,Bz wb w2→Bz w w2):=fun w2 hb=>b0.trans (hb.mono b0.size)
 have fk:Aside (∀w2,Bz wb w2→w2.cell? ⟨kb,0,none⟩=some (.map (some mb))∧w2.cell? ⟨pb,0,none⟩=some (.slice a Ms.length c)):=fun w2 hb=>
  ⟨(iU (((b0.trans (hb.mono b0.size)).block kb c6).trans b9)).1,(iU (((b0.trans (hb.mono b0.size)).block pb c7).trans c0)).1⟩
 have b4:Aside (∀w2,Bz wb w2→aW w2 mb (KnS K)):=fun w2 hb=>hK.of_block ((b0.trans (hb.mono b0.size)).block mb hK.lt)
 have dk:Aside (∀w2,Bz wb w2→Cz 64 #[.agg (tA k v nm g p1 n1 q1 p2 n2 q2 a2 l1 c2)] w2 fun e w'=>e= .returned (.int .i64 TT.kd)∧Bz w2 w'):=fun w2 hb=>BB TT n w2 _ (TmV.below (bw.o w2 hb) hn _ _ b6.o) (aD hn (bw.o w2 hb).size)
 have dc:Aside (∀w2,Bz wb w2→Cz 67 #[.map (some mb)] w2 (CopyP w2 (KnS K))):=fun w2 hb=>Gr (KnS K) mb w2 (b4.o w2 hb)
 have dx:Aside (∀w2 m2,Bz wb w2→wb.heap.size≤m2→aW w2 m2 (KnS K)→Cz 66 #[.agg (tA k v nm g p1 n1 q1 p2 n2 q2 a2 l1 c2),.slice a Ms.length c,.map (some m2)] w2 fun e w'=>∃m,e= .returned (.tuple #[.int .i64 f,.int .i64 m])∧True∧aS (fun k=>k=m2) w2 w'):=fun w2 m2 hb hm hs=>by
  refine(GI Ms TT K n m2 a c w2 _ (hM.below (bw.o w2 hb) hn) d2 (TmV.below (bw.o w2 hb) hn _ _ b6.o) hs (aD (aD hn b0.size) hm) h0 hN (aD hn (bw.o w2 hb).size)).mono ?_;rintro e w' ⟨m,rfl,_,h2⟩;exact⟨m,by rw [fA.o],trivial,h2⟩
 obtain⟨kd,hkd⟩:=enm TT.kd;have b3:=aside hkd;rw [hkd] at dk;generalize Ms.length=lm at*;clear hq b0 hsz hK hkd b9 c0 c6 c7 hM;go_enter Tryz.func63,Tryz.ntmps63
 go_upto_region 1 with fail
 clear hwb
 by_cases k3:kd=3
 case neg=>
  have g3:(kd==3)=false:=by simpa using k3
  have a1:Aside (f=0→R=true):=fun e=>by rw [←RA.o,oK,if_neg (by rw [b3.o];exact k3),fA.o,e];rfl
  have a9:Aside (¬f=0→R=false):=fun e=>by rw [←RA.o,oK,if_neg (by rw [b3.o];exact k3),fA.o];simp [e]
  have fd:Bz wb wb.drew:=dO _ _;refine hRp (Bz wb) 19 (Heavy.lights [0] (.one 1 (Heavy.lights [2,3,4,5,6,7,8] (.one 9 (Heavy.lights [10,11,12,13,14,15,16,17] (.one 18 .done)))))) (by kernel_rfl) (by kernel_rfl) fd ?_;simp only [Heavy.lights,bL,bY,aZ,bG]
  (apply hLm;(exact rfl);(exact rfl);(intro a0 hw;obtain⟨x0,x1,x2,x3,x4,x5,x6⟩:=fa.o a0 hw;go_simp;exact rfl);(go_simp;exact rfl))
  (apply hOn;(exact rfl);(exact rfl));go_simp
  refine(dk.o _ fd).mono ?_;rintro e w2 ⟨rfl,hb2⟩;have e2:Bz wb w2:=fd.trans (hb2.mono fd.size);refine⟨_,rfl,e2,?_⟩
  (refine hNa (by go_simp;exact rfl) ?_)
  iterate 2 ((apply hLm;(exact rfl);(exact rfl);(intro a0 hw;go_simp;exact rfl);(go_simp;exact rfl)))
  iterate 5 ((apply hLk;(exact rfl);(go_simp));(refine hNa (by go_simp;exact rfl) ?_))
  (refine Heavy.one_skip rfl (by go_simp) e2 ?_);(refine hNa (by go_simp;exact rfl) ?_)
  (apply hLk;(exact rfl);(go_simp));(refine hNa (by go_simp;exact rfl) ?_)
  iterate 2 ((apply hLm;(exact rfl);(exact rfl);(intro a0 hw;go_simp;exact rfl);(go_simp;exact rfl)))
  iterate 5 ((apply hLk;(exact rfl);(go_simp));(refine hNa (by go_simp;exact rfl) ?_))
  (refine Heavy.one_skip rfl (by go_simp) e2 ?_);(refine hNa (by go_simp;exact rfl) ?_)
  apply hPe;show wpList _ _ _ _ _ _;have d0:=aside e2;clear fd hb2 e2
  go_upto_region 3 with fail
  have fd:Bz wb w2.drew:=(d0.o).trans (dO _ _);refine hRp (Bz wb) 9 (Heavy.lights [0,1,2] (.one 3 (.one 4 (Heavy.lights [5,6,7,8] .done)))) (by kernel_rfl) (by kernel_rfl) fd ?_;simp only [Heavy.lights,bL,bY,aZ,bG]
  (apply hLm;(exact rfl);(exact rfl);(intro a0 hw;obtain⟨x0,x1,x2,x3,x4,x5,x6⟩:=fa.o a0 hw;go_simp;exact rfl);(go_simp;exact rfl))
  (apply hLm;(exact rfl);(exact rfl);(intro a0 hw;have y0:=(fk.o a0 hw).2;go_simp;exact rfl);(go_simp;exact rfl))
  (apply hLm;(exact rfl);(exact rfl);(intro a0 hw;have y0:=(fk.o a0 hw).1;go_simp;exact rfl);(go_simp;exact rfl))
  (apply hOn;(exact rfl);(exact rfl));go_simp
  refine(dc.o _ fd).mono ?_;rintro e w5 ⟨m5,rfl,hm5,hS5,hb5⟩;have e5:Bz wb w5:=fd.trans (hb5.mono fd.size);refine⟨_,rfl,e5,?_⟩
  (refine hNa (by go_simp;exact rfl) ?_)
  (apply hOn;(exact rfl);(exact rfl));go_simp
  have a5:=dx.o w5 m5 e5 (aD fd.size hm5) hS5;refine a5.mono ?_;rintro e w6 ⟨m6,rfl,_,hk6⟩;have e6:Bz wb w6:=e5.trans (hk6.below e5.size fun k hk=>by subst hk;exact aD fd.size hm5);refine⟨_,rfl,e6,?_⟩
  (refine hNa (by go_simp;exact rfl) ?_)
  iterate 4 ((apply hLm;(exact rfl);(exact rfl);(intro a0 hw;go_simp;exact rfl);(go_simp;exact rfl)))
  apply hPe;show wpList _ _ _ _ _ _;have a6:=aside e6;clear fd hb5 e5 hk6 e6 a5 hS5 hm5
  by_cases hf:f=0
  ·have hR:Aside (R=true):=a1.o hf;subst hf;go_wp2
   go_ret
   exact⟨by have e:=hR.o;subst e;rfl,bw.o _ a6.o⟩
  ·have hR:Aside (R=false):=a9.o hf;have c5:(f==0)=false:=by simpa using hf
   go_wp2
   go_ret
   exact⟨by have e:=hR.o;subst e;rfl,bw.o _ a6.o⟩
 subst k3;obtain⟨A,B,hAB,hmem⟩:=PS (.inl b3.o);obtain⟨bA,oA,va,rfl,hbA,hcA,hvA⟩:=b5.o.1.get (k:=0) (T:=A) (by rw [hAB];rfl);obtain⟨bB,oB,vb,eB,hbB,hcB,hvB⟩:=b5.o.1.get (k:=1) (T:=B) (by rw [hAB];rfl);injection eB with eB
 injection eB with e1 e2 _
 subst e1 e2;have d3:l1=2:=by rw [b5.o.2,hAB];rfl
 subst d3;have c8:InK K A:=h0.2 A (by rw [hAB];simp);have c9:InK K B:=h0.2 B (by rw [hAB];simp);have a7:A.nodes≤1000000∧B.nodes≤1000000:=by
  have hh:=h0.1;have h9:Tm.nodesL TT.args≤TT.nodes:=EU TT;rw [hAB] at h9;simp only [Tm.nodesL] at h9;omega
 have b1:=aside hvA;have b2:=aside hvB;have dA:Aside (∀w2,Bz wb w2→Cz 65 #[.map (some mb),.agg va.toArray] w2 (dJ w2 (cH K A))):=fun w2 hb=>pZ A K n mb w2 _ (TmV.below (bw.o w2 hb) hn _ _ b1.o) (aD hn (bw.o w2 hb).size) a7.1 (b4.o w2 hb) fun x hx=>(c8 x hx).1
 have dB:Aside (∀w2,Bz wb w2→Cz 65 #[.map (some mb),.agg vb.toArray] w2 (dJ w2 (cH K B))):=fun w2 hb=>pZ B K n mb w2 _ (TmV.below (bw.o w2 hb) hn _ _ b2.o) (aD hn (bw.o w2 hb).size) a7.2 (b4.o w2 hb) fun x hx=>(c9 x hx).1
 have b8:Aside (∀w2,Bz wb w2→CellsAt w2 bA oA va∧CellsAt w2 bA (oA+7) vb):=fun w2 hb=>
  ⟨fun j u hj=>((bw.o w2 hb).cell (p:=⟨bA,oA+j,none⟩) (by show bA<_;omega)).trans (by have:=hcA j u hj;simpa using this),fun j u hj=>((bw.o w2 hb).cell (p:=⟨bA,oA+7+j,none⟩) (by show bA<_;omega)).trans (by have:=hcB j u hj;simpa using this)⟩
 obtain⟨HA,hHA⟩:∃b,cH K A=b:=⟨_,rfl⟩;obtain⟨HB,hHB⟩:∃b,cH K B=b:=⟨_,rfl⟩;have HR:Aside (R=((HA||HB)&&decide (f=0))):=by
  show _=_;rw [←RA.o,oK,if_pos b3.o,fA.o,hAB];simp [hHA,hHB]
 rw [hHA] at dA;rw [hHB] at dB;clear hHA hHB hAB hcA hcB hbB;obtain⟨kA,uA,nA,gA,numA,denA,a8⟩:=A;obtain⟨kB,uB,nB,gB,numB,denB,nX⟩:=B;simp only [TmV] at hvA hvB;obtain⟨_,_,a3,c3,rfl,⟨⟨p3,q3,rfl,_⟩,⟨p4,q4,rfl,_⟩⟩,_⟩:=hvA;obtain⟨_,_,a4,c4,rfl,⟨⟨p5,q5,rfl,_⟩,⟨p6,q6,rfl,_⟩⟩,_⟩:=hvB;have sA:Aside (∀w2,Bz wb w2→_):=fun(w2:Wo) (hb:Bz wb w2)=>kM (w:=w2) (w2:=w2) (fun _ _=>rfl) (b8.o w2 hb).1
 have sB:Aside (∀w2,Bz wb w2→_):=fun(w2:Wo) (hb:Bz wb w2)=>kM (w:=w2) (w2:=w2) (fun _ _=>rfl) (b8.o w2 hb).2
 generalize a8.length=l3,numA.length=m1,denA.length=m2,nX.length=l4,numB.length=m3,denB.length=m4 at*;replace dA:Aside (∀w2,Bz wb w2→Cz 65 #[.map (some mb),.agg (tA kA uA nA gA p3 m1 q3 p4 m2 q4 a3 l3 c3)] w2 (dJ w2 HA)):=dA;replace dB:Aside (∀w2,Bz wb w2→Cz 65 #[.map (some mb),.agg (tA kB uB nB gB p5 m3 q5 p6 m4 q6 a4 l4 c4)] w2 (dJ w2 HB)):=dB;clear b8 c8 c9 a7 b1 b2 hmem hN h0;have fd:Bz wb wb.drew:=dO _ _;refine hRp (Bz wb) 19 (Heavy.lights [0] (.one 1 (Heavy.lights [2,3,4,5,6,7,8] (.one 9 (Heavy.lights [10,11,12,13,14,15,16,17] (.one 18 .done)))))) (by kernel_rfl) (by kernel_rfl) fd ?_;simp only [Heavy.lights,bL,bY,aZ,bG]
 (apply hLm;(exact rfl);(exact rfl);(intro a0 hw;obtain⟨x0,x1,x2,x3,x4,x5,x6⟩:=fa.o a0 hw;go_simp;exact rfl);(go_simp;exact rfl))
 (apply hOn;(exact rfl);(exact rfl));go_simp
 refine(dk.o _ fd).mono ?_;rintro e w2 ⟨rfl,hb2⟩;have e2:Bz wb w2:=fd.trans (hb2.mono fd.size);refine⟨_,rfl,e2,?_⟩
 (refine hNa (by go_simp;exact rfl) ?_)
 iterate 2 ((apply hLm;(exact rfl);(exact rfl);(intro a0 hw;go_simp;exact rfl);(go_simp;exact rfl)))
 (apply hLs;(exact rfl);(go_simp);(intro a0 hw;have y0:=(fk.o a0 hw).1;go_simp;exact rfl));(refine hNa (by go_simp;exact rfl) ?_)
 (apply hLs;(exact rfl);(go_simp);(intro a0 hw;go_simp;exact rfl));(refine hNa (by go_simp;exact rfl) ?_)
 (apply hLs;(exact rfl);(go_simp);(intro a0 hw;obtain⟨x0,x1,x2,x3,x4,x5,x6⟩:=fa.o a0 hw;go_simp;exact rfl));(refine hNa (by go_simp;exact rfl) ?_)
 (apply hLs;(exact rfl);(go_simp);(intro a0 hw;go_simp;exact rfl));(refine hNa (by go_simp;exact rfl) ?_)
 (apply hLs;(exact rfl);(go_simp);(intro a0 hw;obtain⟨y0,y1,y2,y3,y4,y5,y6⟩:=sA.o a0 hw;go_simp;exact rfl));(refine hNa (by go_simp;exact rfl) ?_)
 (apply Heavy.one_step;(exact rfl);(go_simp));go_simp
 refine(dA.o _ e2).mono ?_;rintro e w3 ⟨rfl,hb3⟩;have e3:Bz wb w3:=e2.trans (hb3.mono e2.size);refine⟨_,rfl,e3,?_⟩
 (refine hNa (by go_simp;exact rfl) ?_)
 cases HA
 case true=>
  have a1:Aside (f=0→R=true):=fun e=>by rw [HR.o,e];rfl
  have a9:Aside (¬f=0→R=false):=fun e=>by rw [HR.o];simp [e]
  (apply hLs;(exact rfl);(go_simp);(intro a0 hw;go_simp;exact rfl));(refine hNa (by go_simp;exact rfl) ?_)
  iterate 2 ((apply hLm;(exact rfl);(exact rfl);(intro a0 hw;go_simp;exact rfl);(go_simp;exact rfl)))
  iterate 5 ((apply hLk;(exact rfl);(go_simp));(refine hNa (by go_simp;exact rfl) ?_))
  (refine Heavy.one_skip rfl (by go_simp) e3 ?_);(refine hNa (by go_simp;exact rfl) ?_)
  apply hPe;show wpList _ _ _ _ _ _;have d1:=aside e3;clear fd hb2 e2 hb3 e3
  go_upto_region 3 with fail
  have fd:Bz wb w3.drew:=(d1.o).trans (dO _ _);refine hRp (Bz wb) 9 (Heavy.lights [0,1,2] (.one 3 (.one 4 (Heavy.lights [5,6,7,8] .done)))) (by kernel_rfl) (by kernel_rfl) fd ?_;simp only [Heavy.lights,bL,bY,aZ,bG]
  (apply hLm;(exact rfl);(exact rfl);(intro a0 hw;obtain⟨x0,x1,x2,x3,x4,x5,x6⟩:=fa.o a0 hw;go_simp;exact rfl);(go_simp;exact rfl))
  (apply hLm;(exact rfl);(exact rfl);(intro a0 hw;have y0:=(fk.o a0 hw).2;go_simp;exact rfl);(go_simp;exact rfl))
  (apply hLm;(exact rfl);(exact rfl);(intro a0 hw;have y0:=(fk.o a0 hw).1;go_simp;exact rfl);(go_simp;exact rfl))
  (apply hOn;(exact rfl);(exact rfl));go_simp
  refine(dc.o _ fd).mono ?_;rintro e w5 ⟨m5,rfl,hm5,hS5,hb5⟩;have e5:Bz wb w5:=fd.trans (hb5.mono fd.size);refine⟨_,rfl,e5,?_⟩
  (refine hNa (by go_simp;exact rfl) ?_)
  (apply hOn;(exact rfl);(exact rfl));go_simp
  have a5:=dx.o w5 m5 e5 (aD fd.size hm5) hS5;refine a5.mono ?_;rintro e w6 ⟨m6,rfl,_,hk6⟩;have e6:Bz wb w6:=e5.trans (hk6.below e5.size fun k hk=>by subst hk;exact aD fd.size hm5);refine⟨_,rfl,e6,?_⟩
  (refine hNa (by go_simp;exact rfl) ?_)
  iterate 4 ((apply hLm;(exact rfl);(exact rfl);(intro a0 hw;go_simp;exact rfl);(go_simp;exact rfl)))
  apply hPe;show wpList _ _ _ _ _ _;have a6:=aside e6;clear fd hb5 e5 hk6 e6 a5 hS5 hm5
  by_cases hf:f=0
  ·have hR:Aside (R=true):=a1.o hf;subst hf;go_wp2
   go_ret
   exact⟨by have e:=hR.o;subst e;rfl,bw.o _ a6.o⟩
  ·have hR:Aside (R=false):=a9.o hf;have c5:(f==0)=false:=by simpa using hf
   go_wp2
   go_ret
   exact⟨by have e:=hR.o;subst e;rfl,bw.o _ a6.o⟩
 (apply hLs;(exact rfl);(go_simp);(intro a0 hw;go_simp;exact rfl));(refine hNa (by go_simp;exact rfl) ?_)
 iterate 2 ((apply hLm;(exact rfl);(exact rfl);(intro a0 hw;go_simp;exact rfl);(go_simp;exact rfl)))
 (apply hLs;(exact rfl);(go_simp);(intro a0 hw;have y0:=(fk.o a0 hw).1;go_simp;exact rfl));(refine hNa (by go_simp;exact rfl) ?_)
 (apply hLs;(exact rfl);(go_simp);(intro a0 hw;go_simp;exact rfl));(refine hNa (by go_simp;exact rfl) ?_)
 (apply hLs;(exact rfl);(go_simp);(intro a0 hw;obtain⟨x0,x1,x2,x3,x4,x5,x6⟩:=fa.o a0 hw;go_simp;exact rfl));(refine hNa (by go_simp;exact rfl) ?_)
 (apply hLs;(exact rfl);(go_simp);(intro a0 hw;go_simp;exact rfl));(refine hNa (by go_simp;exact rfl) ?_)
 (apply hLs;(exact rfl);(go_simp);(intro a0 hw;obtain⟨y0,y1,y2,y3,y4,y5,y6⟩:=sB.o a0 hw;go_simp;exact rfl));(refine hNa (by go_simp;exact rfl) ?_)
 (apply Heavy.one_step;(exact rfl);(go_simp));go_simp
 refine(dB.o _ e3).mono ?_;rintro e w4 ⟨rfl,hb4⟩;have e4:Bz wb w4:=e3.trans (hb4.mono e3.size);refine⟨_,rfl,e4,?_⟩
 (refine hNa (by go_simp;exact rfl) ?_)
 apply hPe;show wpList _ _ _ _ _ _;have c1:=aside e4;clear fd hb2 e2 hb3 e3 hb4 e4;cases HB
 case false=>
  have hR:Aside (R=false):=HR.o;go_wp2
  go_ret
  exact⟨by have e:=hR.o;subst e;rfl,bw.o _ c1.o⟩
 have a1:Aside (f=0→R=true):=fun e=>by rw [HR.o,e];rfl
 have a9:Aside (¬f=0→R=false):=fun e=>by rw [HR.o];simp [e]
 go_upto_region 3 with fail
 have fd:Bz wb w4.drew:=(c1.o).trans (dO _ _);refine hRp (Bz wb) 9 (Heavy.lights [0,1,2] (.one 3 (.one 4 (Heavy.lights [5,6,7,8] .done)))) (by kernel_rfl) (by kernel_rfl) fd ?_;simp only [Heavy.lights,bL,bY,aZ,bG]
 (apply hLm;(exact rfl);(exact rfl);(intro a0 hw;obtain⟨x0,x1,x2,x3,x4,x5,x6⟩:=fa.o a0 hw;go_simp;exact rfl);(go_simp;exact rfl))
 (apply hLm;(exact rfl);(exact rfl);(intro a0 hw;have y0:=(fk.o a0 hw).2;go_simp;exact rfl);(go_simp;exact rfl))
 (apply hLm;(exact rfl);(exact rfl);(intro a0 hw;have y0:=(fk.o a0 hw).1;go_simp;exact rfl);(go_simp;exact rfl))
 (apply hOn;(exact rfl);(exact rfl));go_simp
 refine(dc.o _ fd).mono ?_;rintro e w5 ⟨m5,rfl,hm5,hS5,hb5⟩;have e5:Bz wb w5:=fd.trans (hb5.mono fd.size);refine⟨_,rfl,e5,?_⟩
 (refine hNa (by go_simp;exact rfl) ?_)
 (apply hOn;(exact rfl);(exact rfl));go_simp
 have a5:=dx.o w5 m5 e5 (aD fd.size hm5) hS5;refine a5.mono ?_;rintro e w6 ⟨m6,rfl,_,hk6⟩;have e6:Bz wb w6:=e5.trans (hk6.below e5.size fun k hk=>by subst hk;exact aD fd.size hm5);refine⟨_,rfl,e6,?_⟩
 (refine hNa (by go_simp;exact rfl) ?_)
 iterate 4 ((apply hLm;(exact rfl);(exact rfl);(intro a0 hw;go_simp;exact rfl);(go_simp;exact rfl)))
 apply hPe;show wpList _ _ _ _ _ _;have a6:=aside e6;clear fd hb5 e5 hk6 e6 a5 hS5 hm5
 by_cases hf:f=0
 ·have hR:Aside (R=true):=a1.o hf;subst hf;go_wp2
  go_ret
  exact⟨by have e:=hR.o;subst e;rfl,bw.o _ a6.o⟩
 ·have hR:Aside (R=false):=a9.o hf;have c5:(f==0)=false:=by simpa using hf
  go_wp2
  go_ret
  exact⟨by have e:=hR.o;subst e;rfl,bw.o _ a6.o⟩
end
section
attribute [local go_sem] Heavy.uponW
def GZ {p:Addr} (h:w.cell? p=some v):p.block<w.heap.size:=by
 unfold World.cell? at h;cases e:w.heap[p.block]? with
 |none=>simp [e] at h
 |some x=>exact(aG.1 e).1
def KS (h:SrcAt w v m xs) (hb:Bz w w'):SrcAt w' v m xs:=by
 rcases h with h|⟨ad,c,e,h⟩
 ·exact .inl h
 ·exact .inr ⟨ad,c,e,fun j u hj=>(hb.cell (GZ (h j u hj))).trans (h j u hj)⟩
def SJ (n:Nat) (w:Wo) (b off c:Nat) (L:List Tm) (X:Lv) (hs:SrcAt w (.slice (some ⟨b,off,none⟩) L.length c) L.length X) (hT:TsX n w L X) (a4:X.length=L.length*7) (hn:n≤w.heap.size) (a0:L.length≤1000000):
  Cz 69 #[.slice (some ⟨b,off,none⟩) L.length c] w fun e w'=>∃a c',e= .returned (.slice a L.length c')∧w'.ownsRow w.heap.size 48 7 (.slice a L.length c') L.length X∧Bz w w':=by
 obtain⟨len,hl⟩:∃l,L.length=l:=⟨_,rfl⟩;rw [hl] at hs a4 a0 ⊢;have h1:=TsX.one hT;clear hT hl;have b0:=aC w (Obj.cells #[] 48);have hq:=aJ w (Obj.cells #[] 48);have a1:(w.alloc (Obj.cells #[] 48)).ownsRow w.heap.size 48 7 (.slice (some ⟨w.heap.size,0,none⟩) 0 0) 0 []:=⟨rfl,.inr ⟨w.heap.size,0,#[],rfl,aA _,hq,aA _,bX _,rfl,rfl⟩⟩;have a2:=KS hs b0;have a8:=fun w=>DH (P:=Tryz.prog) w 46 48 (some ⟨b,off,none⟩) len c 0 0 Tryz.underlying46
 go_enter Tryz.func69,Tryz.ntmps69
 go_upto_region 3 with fail
 refine dZ ?_
 iterate 2 (refine bE rfl fun K hK=>?_;go_simp;refine hK _ _ ?_;clear hK)
 refine jK qU _ rfl _ _ rfl w.heap.size (.slice (some ⟨w.heap.size,0,none⟩) 0 0) 0 [] rfl a1 (.slice (some ⟨b,off,none⟩) len c) len _ rfl a2 a4 h1 (by unfold maxLen;omega) (by omega) (by rw [cB];omega) ?_;intro v5 w5 h5 a7 a9;have a6:Bz w w5:=b0.grown a7 b0.size (fun k hk=>by simp [Value.ownBlock] at hk;omega);rw [bT,kX] at h5;obtain⟨a5,c5,rfl,_⟩:=iN h5;have hR:=aside2 h5 a6;clear h5 a7 a9 a1 a2 hq b0 a6;go_wp2
 go_ret
 exact⟨_,_,rfl,hR.o.1,hR.o.2⟩
def Hj (n base:Nat) (w:Wo) (u:Value) (L:List Tm) (h:OutT n base w u L) (hn:n≤w.heap.size) (a0:L.length≤1000000):
  Cz 69 #[u] w fun e w'=>∃a c,e= .returned (.slice a L.length c)∧OutT n w.heap.size w' (.slice a L.length c) L∧Bz w w':=by
 obtain⟨X,hX,hT⟩:=h;have h0:=hX;obtain⟨a3,⟨rfl,hz⟩|⟨g,cap,cur,rfl,hb,hg,hnc,hm,hs,ht⟩⟩:=hX
 ·obtain rfl:L= []:=gI hz;have hR:Aside (OutT n w.heap.size w (.slice none 0 0) []):=OutT.nil _ _ _;clear a3 hz h0 hT;have a8:=fun w=>DH (P:=Tryz.prog) w 46 48 none 0 0 0 0 Tryz.underlying46
  go_enter Tryz.func69,Tryz.ntmps69;go_wp2
  go_ret
  exact⟨_,_,rfl,hR.o,bD _ _⟩
 ·refine(SJ n w g 0 cap L X (zD h0) hT h0.1 hn a0).mono ?_;rintro e w' ⟨a,c,rfl,h1,hb⟩;exact⟨a,c,rfl,⟨X,h1,hT.below hb hn⟩,hb⟩
def tcut {L:List Tm} (h:TsX n w L X) (k:Nat):TsX n w (L.take k) (X.take (k*7))∧TsX n w (L.drop k) (X.drop (k*7)):=by
 induction k generalizing L X with
 |zero=>exact⟨by simp [TsX],by simpa using h⟩
 | succ k ih=>
  cases L with
  |nil=>
   simp only [TsX] at h;subst h;exact⟨by simp [TsX],by simp [TsX]⟩
  |cons T r=>
   simp only [TsX] at h;obtain⟨vs,Y,rfl,h1,h2⟩:=h;have hl:=h1.len;obtain⟨h3,h4⟩:=ih h2;rw [show(k+1)*7=vs.length+k*7 by omega,List.take_length_add_append,List.drop_length_add_append,bL,aZ];exact⟨by simp only [TsX];exact⟨vs,_,rfl,h1,h3⟩,h4⟩
end
section
attribute [local go_sem] Heavy.uponW
def WU {P:Program} {ops:Array Oper} {rest:List Oper} {o:Oper} {a:Act} {Q:Exit→Act→Wo→Prop} (b4:o.guard=none) (s x:Operand) {t t':TypeId}
  (ho:o.op= .call { callee:=.builtin .append,args:=#[s,x],argTypes:=#[t,t'] }) {v v2 r:Value} (hs:a.eval s=v) (hx:a.eval x=v2) (hr:(Builtin.append_ #[t,t'] o.type #[v,v2]).run P w= .ok r w')
  (h:wpList P ops Q rest (a.put o.dst r) w'):wpList P ops Q (o::rest) a w:=by
 refine bE b4 fun K hK=>?_
 unfold Oper.wp execOp;simp only [ho,resolve,invoke,builtin,aU,cC,cI,VU,fS,tK,hs,hx,hr];exact hK _ _ h
def tclear {base:Nat} {cap:Nat} (h:w.ownsRow base 48 7 (.slice (some ⟨g,0,none⟩) n cap) n X) (hc:n<cap) (ty:TypeId) (a1:Nat):
  ∃w1,(Builtin.clear_ #[46] ty #[.slice (some ⟨g,n*7,none⟩) 1 a1]).run Tryz.prog w= .ok (.tuple #[]) w1∧w1.ownsRow base 48 7 (.slice (some ⟨g,0,none⟩) n cap) n X∧w.grownBy w1 (some g):=by
 obtain⟨a6,⟨e,_⟩|⟨g',a1,cur,e,hb,hg,hnc,hm,hs,ht⟩⟩:=h
 ·cases e
 cases e;have c6:cur.toList.length=cap*7:=by rw [cU];exact hs
 obtain⟨Z,hZ⟩:=enm ((Builtin.zeroCells zTm.cells 1).toList);have c5:Z.length=7:=by rw [←hZ];simp [Builtin.zeroCells,zTm,Value.cells]
 have a5:∀v∈Z,v.oneCell'=true:=by
  intro v hv;rw [←hZ] at hv;simp only [Builtin.zeroCells,zTm,Value.cells,Array.toList_map,cL] at hv;obtain⟨j,_,rfl⟩:=hv;have hj:j%7=0∨j%7=1∨j%7=2∨j%7=3∨j%7=4∨j%7=5∨j%7=6:=by omega
  show(#[Value.int IntKind.i64 0,.int .i64 0,.string { data:=#[] },.bool false,.slice none 0 0,.slice none 0 0,.slice none 0 0][j%7]!).oneCell'=true;rcases hj with e|e|e|e|e|e|e<;>rw [e]<;>rfl
 have b0:=yH (P:=Tryz.prog) g (n*7) 48 Z 0 cur w hg (by rw [c5];omega) a5;refine⟨w.setRow g (cur.toList.take (n*7+0)++Z++cur.toList.drop (n*7+0+Z.length)).toArray,?_,?_,⟨rfl,rfl,rfl,by simp [World.setRow],fun j hj c4=>vG _ _ _ _ fun(e:j=g)=>c4 (by rw [e])⟩⟩
 ·have hv:∀w,(zeroValue 48).run Tryz.prog w= .ok zTm w:=fun w=>Tryz.zeroValue48 w
  unfold Builtin.clear_;simp [dQ Tryz.underlying46,hv,hZ];simp at b0;simp [b0]
 ·have c0:(cur.toList.take (n*7+0)++Z++cur.toList.drop (n*7+0+Z.length)).length=cap*7:=by simp;omega
  refine⟨a6,.inr ⟨g,cap,_,rfl,hb,tF _ _ _ _ _ _ hg,by omega,hm,by rw [tH];exact c0,?_⟩⟩;rw [fJ,IZ (by simp;omega),fG,yP,Nat.min_self];exact ht
def DelP (n base:Nat) (w:Wo) (g m cap:Nat) (L:List Tm) (e:Ending) (w':Wo):Prop:=e= .returned (.slice (some ⟨g,0,none⟩) m cap)∧OutT n base w' (.slice (some ⟨g,0,none⟩) m cap) L∧L.length=m∧w.grownBy w' (some g)
def Gj (n base:Nat) (w:Wo) (g m cap i:Nat) (L:List Tm) (h:OutT n base w (.slice (some ⟨g,0,none⟩) (m+1) cap) L) (hl:L.length=m+1) (hi:i<m+1) (hn:n≤base) (b2:m≤1000000):
  Cz 68 #[.slice (some ⟨g,0,none⟩) (m+1) cap,.int .i64 i,.int .i64 ((i:Int)+1)] w (DelP n base w g m cap (L.take i++L.drop (i+1))):=by
 obtain⟨X,hX,hT⟩:=h;rw [hl] at hX;have hc:m+1≤cap:=by
  obtain⟨_,⟨e,_⟩|⟨g',a1,cur,e,hb,hg,hnc,hm,hs,ht⟩⟩:=hX
  ·cases e
  ·cases e;exact hnc
 have b1:X.length=(m+1)*7:=hX.1;have a4:w.ownsRow base 48 7 (.slice (some ⟨g,0,none⟩) i cap) i (X.take (i*7)):=by
  obtain⟨_,⟨e,_⟩|⟨g',a1,cur,e,hb,hg,hnc,hm,hs,ht⟩⟩:=hX
  ·cases e
  cases e;refine⟨by rw [aX];omega,.inr ⟨g,cap,cur,rfl,hb,hg,by omega,hm,hs,?_⟩⟩;rw [←ht,yP,oE (by omega)]
 have b3:base≤g:=(hX.lt g rfl).1;have a0:=hX.cells (g:=g) rfl;have h1:=TsX.one hT;obtain⟨i0,hi0,hz0,a5,hz2⟩:=qU.info;obtain⟨ad,hadr,hnews⟩:∃ad,(if cap=i+1 then some (⟨g,0,none⟩:Addr) else some ⟨g,(i+1)*7,none⟩)=some ad∧∀(j:Nat) u,(X.drop ((i+1)*7))[j]?=some u→w.drew.cell? (ad.add j)=some u:=by
  by_cases a3:cap=i+1
  ·refine⟨_,if_pos a3,fun j u hj=>?_⟩;rw [JM (by omega)] at hj;simp at hj
  ·refine⟨_,if_neg a3,fun j u hj=>?_⟩;rw [jI];rw [jF] at hj;have:=a0 _ _ hj;rw [jI,bT] at this;exact this
 obtain⟨w1,hr1,ho1,hg1⟩:=run_append_fits (P:=Tryz.prog) w.drew base 46 46 48 i0 7 Tryz.underlying46 hi0 a5 g i cap (X.take (i*7)) (gJ a4 (dO _ _) (aA _)) ad (m-i) (cap-(i+1)) (X.drop ((i+1)*7)) (by rw [cW];omega)
  hnews (fun u hu=>h1 u (rI hu)) (by omega)
 obtain⟨c1,c2⟩:=tcut hT i;obtain⟨_,c3⟩:=tcut hT (i+1);rw [show i+(m-i)=m by omega] at hr1 ho1;obtain⟨w2,hr2,ho2,hg2⟩:=tclear ho1 (by omega) 0 (cap-m);have a9:w.grownBy w.drew (some g):=⟨rfl,rfl,rfl,aA _,fun _ _ _=>rfl⟩;have a2:w.grownBy w2 (some g):=sI a9 (sI hg1 hg2);have a8:Below n w w2:=⟨a2.os,a2.tape,a2.output,a2.size,fun k hk=>a2.block k (IW (aR hk (aD hn b3)) (hX.lt g rfl).2) (fun e=>by injection e with e;omega)⟩;have a7:(L.take i++L.drop (i+1)).length=m:=by rw [aI,aX,cW];omega
 have hR:Aside (DelP n base w g m cap (L.take i++L.drop (i+1)) (.returned (.slice (some ⟨g,0,none⟩) m cap)) w2):=⟨rfl,⟨_,by rw [a7];exact ho2,TsX.below a8 (aA _) (TsX.app c1 c3)⟩,a7,a2⟩;have c7:(i:Int)<(m:Int)+1:=by omega
 have c8:(i:Int)≤(m:Int)+1:=by omega
 have c9:(0:Int)≤(i:Int):=by omega
 have d0:(i:Int)+1≤(m:Int)+1:=by omega
 have d1:(i:Int)≤(i:Int)+1:=by omega
 have d2:(m:Int)+1≤(cap:Int):=by omega
 have d3:(0:Int)≤(i:Int)+1:=by omega
 have d4:((i:Int)+1).toNat=i+1:=by omega
 have d5:((m:Int)+1).toNat=m+1:=by omega
 have b5:(i:Int)≤(cap:Int):=by omega
 have b6:(m:Int)≤(m:Int)+1:=by omega
 have b7:(0:Int)≤(m:Int)+1:=by omega
 have b8:(0:Int)≤(m:Int):=by omega
 have b9:((i:Int)==(i:Int)+1)=false:=by simp;omega
 have d6:m+1-(i+1)=m-i:=by omega
 have d7:m+1-m=1:=by omega
 clear h1 a0 a4 hX hT c1 c2 c3 ho1 ho2 hg1 hg2 a2 a8 a7 a9 b1 hi0 hz0 a5 hz2;go_enter Tryz.func68,Tryz.ntmps68
 go_upto_region 5 with fail
 refine iV 6 (by kernel_rfl) (by kernel_rfl) ?_;simp only [bL,bY,aZ,bG,iX]
 repeat (with_reducible refine jD (fun K hK=>?_);go_simp;with_reducible refine hK _ ?_;clear hK K)
 refine iW ?_;show wpList _ _ _ _ _ _;refine WU (v:=.slice (some ⟨g,0,none⟩) i cap) (v2:=.slice (some ad) (m-i) (cap-(i+1))) rfl _ _ rfl rfl rfl hr1 ?_;clear hr1 hnews hadr
 go_upto_region 6 with fail
 go_wp2
 go_ret
 exact hR.o
end
section
attribute [local go_sem] Heavy.uponW
def XD (v:Int) (w:Wo):
  Cz 196 #[.int .i64 v] w fun e w'=>e= .returned (.agg #[.int .i64 1,.int .i64 v,.string ⟨#[]⟩,.bool false,.slice none 0 0,.slice none 0 0,.slice none 0 0])∧Bz w w':=by
 go_enter Tryz.func196,Tryz.ntmps196;go_wp2;refine fQ (kU rfl _ _ w.heap.size 48 _ _ _ rfl (aJ _ _) Tryz.underlying48 rfl (by kernel_rfl)) rfl ?_;exact⟨rfl,aC _ _⟩
def XL (s:ByteArray) (w:Wo):
  Cz 198 #[.string s] w fun e w'=>e= .returned (.agg #[.int .i64 3,.int .i64 0,.string s,.bool false,.slice none 0 0,.slice none 0 0,.slice none 0 0])∧Bz w w':=by
 go_enter Tryz.func198,Tryz.ntmps198;go_wp2;refine fQ (kU rfl _ _ w.heap.size 48 _ _ _ rfl (aJ _ _) Tryz.underlying48 rfl (by kernel_rfl)) rfl ?_;exact⟨rfl,aC _ _⟩
mutual
theorem TmV.toS {n:Nat} {w:Wo}:∀(T:Tm) (vs:Lv),TmV n w T vs→TmS (· <n) w T vs
 | .mk k v nm g num den args,vs,h=>by
  simp only [TmV] at h;simp only [TmS];obtain⟨s1,s2,a,c,rfl,⟨⟨a1,c1,rfl,h1⟩,⟨a2,c2,rfl,h2⟩⟩,h3,h4⟩:=h;exact⟨a1,c1,a2,c2,a,c,rfl,h1,h2,bS.toS args a 0 h3,h4⟩
theorem bS.toS {n:Nat} {w:Wo}:∀(L:List Tm) (a:Option Addr) (i:Nat),bS n w L a i→cX (· <n) w L a i
 | [],_,_,_=>by simp only [cX]
 |T::r,a,i,h=>by
  simp only [bS] at h;simp only [cX];obtain⟨⟨b,off,vs,e,hb,hc,hv⟩,hr⟩:=h;exact⟨⟨b,off,vs,e,hb,hc,TmV.toS T vs hv⟩,bS.toS r a (i+1) hr⟩
end
def TmS.len (h:TmS S w T vs):vs.length=7:=by
 obtain⟨k,v,nm,g,num,den,args⟩:=T;simp only [TmS] at h;obtain⟨_,_,_,_,_,_,rfl,_⟩:=h;rfl
end
section
attribute [local go_sem] Heavy.uponW
def KP {o:Nat} {a0:Array Value} (h:w.heap[g]?=some (.cells a0 48)) (hl:vs.length=7) (h1:∀u∈vs,u.oneCell'=true) (ho:o+7≤a0.size):
  ∃w',(Instr.storeAt 48 (.pointer (some ⟨g,o,none⟩)) (.agg vs.toArray)).run Tryz.prog w= .ok () w'∧w'.heap[g]?=some (.cells (a0.toList.take o++vs++a0.toList.drop (o+7)).toArray 48)∧w.grownBy w' (some g)∧w'.heap.size=w.heap.size:=by
 obtain⟨i0,hi0,hz0,hz1,hz2⟩:=qU.info;have hS:∀W,(Go.sizeOf 48).run Tryz.prog W= .ok 7 W:=fun W=>by simp [Go.sizeOf,typeInfo,hi0,hz1]
 have ha:(Instr.sureAddr (.pointer (some ⟨g,o,none⟩))).run Tryz.prog w= .ok ⟨g,o,none⟩ w:=rfl;have a1:=yH (P:=Tryz.prog) g o 48 vs 0 a0 w h (by rw [hl];omega) h1;rw [hl,fG] at a1;refine⟨w.setRow g (a0.toList.take o++vs++a0.toList.drop (o+7)).toArray,?_,tF _ _ _ _ _ _ h,⟨rfl,rfl,rfl,by simp [World.setRow],fun k hk a2=>vG _ _ _ _ fun(e:k=g)=>a2 (by rw [e])⟩,by simp [World.setRow]⟩;unfold Instr.storeAt;simp [storeVar,ha,hS,Value.cells,a1,hl]
end
section
attribute [local go_sem] Heavy.uponW
def true_V (S:Nat→Prop) (w:Wo):TmS S w (dM []) [.int .i64 3,.int .i64 0,.string ⟨#[116,114,117,101]⟩,.bool false,.slice none 0 0,.slice none 0 0,.slice none 0 0]:=by
 simp only [dM,TmS,cX];exact⟨none,0,none,0,none,0,rfl,⟨by simp,fun h=>absurd rfl h⟩,⟨by simp,fun h=>absurd rfl h⟩,trivial,by simp,by simp,by simp⟩
def SE {s:ByteArray} {us:Lv} (c5:S nb) (h1:TmS S w T us) (h2:TmS S w U vs) (hq:w.heap[nb]?=some (.cells (us++vs).toArray 48)):
  TmS S w (.mk 5 0 s false [] [] [T,U]) [.int .i64 5,.int .i64 0,.string s,.bool false,.slice none 0 0,.slice none 0 0,.slice (some ⟨nb,0,none⟩) 2 2]:=by
 have l1:=h1.len;have l2:=h2.len;simp only [TmS];refine⟨none,0,none,0,some ⟨nb,0,none⟩,2,rfl,⟨by simp,fun h=>absurd rfl h⟩,⟨by simp,fun h=>absurd rfl h⟩,?_,by simp,by simp,by simp⟩;refine zC c5 _ 0 fun k A hk=>?_
 match k,hk with
 |0,hk=>
  simp at hk;subst hk;refine⟨us,fun j u hj=>?_,h1⟩;have c4:=(aM.1 hj).1;simp only [World.cell?,hq];simp [dW c4,hj]
 |1,hk=>
  simp at hk;subst hk;refine⟨vs,fun j u hj=>?_,h2⟩;simp only [World.cell?,hq];have e:0+(0+1)*7+j=us.length+j:=by omega
  rw [e];simp only [JI,Option.bind_eq_bind,IP];rw [dK (by omega)];simp [hj]
 |k+2,hk=>simp at hk
def BodyP (n:Nat) (w:Wo) (L:List Tm) (e:Ending) (w':Wo):Prop:=∃vs,e= .returned (.agg vs.toArray)∧TmS (fun b=>b<n∨(w.heap.size≤b∧b<w'.heap.size)) w' (dM L) vs∧Bz w w'
def Im (L:List Tm) (n:Nat) (a:Option Addr) (c:Nat) (w:Wo) (hL:bS n w L a 0) (hn:n≤w.heap.size) (b0:L.length≤1000000):Cz 138 #[.slice a L.length c] w (BodyP n w L):=by
 have a7:=aside hL;have ba:=aC w (Obj.cells #[.int .i64 0,.int .i64 0,.string ⟨#[]⟩,.bool false,.slice none 0 0,.slice none 0 0,.slice none 0 0] 48);have b2:=aJ w (Obj.cells #[.int .i64 0,.int .i64 0,.string ⟨#[]⟩,.bool false,.slice none 0 0,.slice none 0 0,.slice none 0 0] 48);obtain⟨wa,hwa⟩:∃x,w.alloc (Obj.cells #[.int .i64 0,.int .i64 0,.string ⟨#[]⟩,.bool false,.slice none 0 0,.slice none 0 0,.slice none 0 0] 48)=x:=⟨_,rfl⟩;have b7:wa.heap.size=w.heap.size+1:=by rw [←hwa];simp
 rw [hwa] at ba b2;have a5:=aside2 b7 b2;have a3:=aside ba;obtain⟨len,hl⟩:∃l,L.length=l:=⟨_,rfl⟩;have Ll:=aside hl;rw [hl] at b0 ⊢;clear hL hl ba b2 b7;go_enter Tryz.func138,Tryz.ntmps138
 by_cases h0:len=0
 case pos=>
  subst h0;have hLn:Aside (L= []):=gI Ll.o;have d1:Aside (∀w2,_):=fun w2=>XL ⟨#[116,114,117,101]⟩ w2
  go_upto_region 2 with fail
  refine dZ ?_;refine bE rfl fun K hK=>?_
  go_simp
  refine(d1.o _).mono ?_;rintro e w2 ⟨rfl,hb2⟩;obtain⟨w3,hst,hq3,hg3,hs3⟩:=fT (vs:=[.int .i64 3,.int .i64 0,.string ⟨#[116,114,117,101]⟩,.bool false,.slice none 0 0,.slice none 0 0,.slice none 0 0]) ((hb2.block w.heap.size (by have:=a5.o.1;omega)).trans a5.o.2) rfl (by simp [Value.oneCell']);have a4:=lY hst;refine hK _ _ ?_;clear hK;refine eR rfl 48 _ _ rfl (v:=.pointer (some ⟨w.heap.size,0,none⟩)) (u:=.agg #[.int .i64 3,.int .i64 0,.string ⟨#[116,114,117,101]⟩,.bool false,.slice none 0 0,.slice none 0 0,.slice none 0 0]) rfl rfl a4 ?_;clear a4 hst;go_wp2;refine fQ (kU rfl _ _ w.heap.size 48 _ _ _ rfl hq3 Tryz.underlying48 rfl (by kernel_rfl)) rfl ?_;exact⟨[.int .i64 3,.int .i64 0,.string ⟨#[116,114,117,101]⟩,.bool false,.slice none 0 0,.slice none 0 0,.slice none 0 0],rfl,by rw [hLn.o];exact true_V _ _,(a3.o.trans (hb2.mono a3.o.size)).grown hg3 (by have:=a3.o.size;have:=hb2.size;omega) (by intro k hk;injection hk with hk;omega)⟩
 obtain⟨m,hm⟩:∃m,len=m+1:=⟨len-1,by omega⟩;have mA:=aside hm;have q1:((len:Int)==0)=false:=by simp;omega
 have q2:IntKind.i64.wrap ((len:Int)-1)=(m:Int):=by rw [dX];omega
 have q3:IntKind.i64.wrap ((len:Int)-2)=(m:Int)-1:=by rw [dX];omega
 have q4:(m:Int)<(len:Int):=by omega
 obtain⟨TL,hTL⟩:=ege (L:=L) (i:=m) (by have:=Ll.o;omega);obtain⟨b,off,us,rfl,hbn,hc,hv⟩:=a7.o.get hTL;rw [bT] at hc;have c3:Aside (L.drop m= [TL]):=by
  obtain⟨b1,hx9⟩:=aM.1 hTL;show _=_;rw [iK b1,hx9,tM (by have:=Ll.o;omega)]
 have a8:Aside (bS n w L (some ⟨b,off,none⟩) 0∧b<n):=⟨a7.o,hbn⟩;have c6:=aside hv;obtain⟨k1,v1,nm1,g1,num,den,args⟩:=TL;simp only [TmV] at hv;obtain⟨_,_,a1,c1,rfl,⟨⟨p1,q5,rfl,_⟩,⟨p2,q6,rfl,_⟩⟩,_⟩:=hv;obtain⟨y0,y1,y2,y3,y4,y5,y6⟩:=seven (w:=w) (w2:=wa) (fun p hp=>a3.o.cell (hp▸(aR hbn hn))) hc;generalize args.length=l1,num.length=n1,den.length=n2 at*;clear hc hTL h0 hm hbn a7
 go_upto_region 4 with fail
 have bx:=aC wa (bA k1 v1 nm1 g1 p1 n1 q5 p2 n2 q6 a1 l1 c1);have b3:=aJ wa (bA k1 v1 nm1 g1 p1 n1 q5 p2 n2 q6 a1 l1 c1);obtain⟨wx,hwx⟩:∃x,wa.alloc (bA k1 v1 nm1 g1 p1 n1 q5 p2 n2 q6 a1 l1 c1)=x:=⟨_,rfl⟩;have b8:wx.heap.size=wa.heap.size+1:=by rw [←hwx];simp
 rw [hwx] at bx b3;have xA:=aside3 bx b8 b3;clear bx b8 b3 y0 y1 y2 y3 y4 y5 y6;go_wp2
 go_loopw [4] (fun s wr=>∃(k:Nat) (i:Int),s= .int .i64 i∧i+1=k∧k<len∧Bz w wr∧∃k2 v2 a0 g2 p3 n3 q7 p4 n4 q8 a2 l2 c2,wr.heap[wa.heap.size]?=some (.cells (tA k2 v2 a0 g2 p3 n3 q7 p4 n4 q8 a2 l2 c2) 48)∧Aside (TmS (fun b=>(b<n∨wx.heap.size≤b)∧b<wr.heap.size) wr (dM (L.drop k)) [.int .i64 k2,.int .i64 v2,.string a0,.bool g2,.slice p3 n3 q7,.slice p4 n4 q8,.slice a2 l2 c2]∧wr.heap[w.heap.size]?=some (.cells #[.int .i64 0,.int .i64 0,.string ⟨#[]⟩,.bool false,.slice none 0 0,.slice none 0 0,.slice none 0 0] 48)∧wx.heap.size≤wr.heap.size)) (fun s _=>(intOf s+1).toNat)
 case atStart=>
  refine⟨m,(m:Int)-1,rfl,by omega,by have:=mA.o;omega,a3.o.trans (xA.o.1.mono a3.o.size),_,_,_,_,_,_,_,_,_,_,_,_,_,xA.o.2.2,?_,(xA.o.1.block _ (by have:=a5.o.1;omega)).trans a5.o.2,aA _⟩;rw [c3.o];have h2:=TmV.toS _ _ (TmV.below (a3.o.trans (xA.o.1.mono a3.o.size)) hn _ _ c6.o);exact TmS.mono (fun b hb=>⟨.inl hb,by have:=a5.o.1;have:=xA.o.2.1;omega⟩) _ _ h2
 case round=>
  obtain⟨k,i,rfl,hik,hk,hbr,k2,v2,a0,g2,p3,n3,q7,p4,n4,q8,a2,l2,c2,hqr,hrA⟩:=hrel;cases k with
  |zero=>
   obtain rfl:i= -1:=by omega
   obtain⟨w0,w1,w2,w3,w4,w5,w6⟩:=bZ hqr;obtain⟨wf,hst,hq3,hg3,hs3⟩:=fT (vs:=[.int .i64 k2,.int .i64 v2,.string a0,.bool g2,.slice p3 n3 q7,.slice p4 n4 q8,.slice a2 l2 c2]) hrA.o.2.1 rfl (by simp [Value.oneCell']);have a4:=lY hst;clear hst
   go_upto_region 8 with fail
   refine dZ ?_
   iterate 1 (refine bE rfl fun K hK=>?_;go_simp;refine hK _ _ ?_;clear hK)
   refine eR rfl 48 _ _ rfl (v:=.pointer (some ⟨w.heap.size,0,none⟩)) (u:=.agg (tA k2 v2 a0 g2 p3 n3 q7 p4 n4 q8 a2 l2 c2)) rfl rfl a4 ?_;go_wp2;refine fQ (kU rfl _ _ w.heap.size 48 _ _ _ rfl hq3 Tryz.underlying48 rfl (by kernel_rfl)) rfl ?_;refine⟨[.int .i64 k2,.int .i64 v2,.string a0,.bool g2,.slice p3 n3 q7,.slice p4 n4 q8,.slice a2 l2 c2],rfl,?_,hbr.grown hg3 hbr.size (by intro k hk;injection hk with hk;omega)⟩;have h9:=hrA.o.1;rw [bG] at h9;have s1:=a5.o.1;have s2:=xA.o.2.1;exact TmS.mono (fun b hb=>by rw [hs3];rcases hb.1 with h|h;exact .inl h;exact .inr ⟨by omega,hb.2⟩) _ _ (TmS.keep (fun b hb=>hg3.block b hb.2 (fun e=>by injection e with e;rcases hb.1 with h|h<;>omega)) _ _ h9)
  | succ j=>
   obtain rfl:i=(j:Int):=by omega
   obtain⟨TJ,hTJ⟩:=ege (L:=L) (i:=j) (by have:=Ll.o;omega);obtain⟨b9,off9,vs9,e9,hbn,hc,hv⟩:=a8.o.1.get hTJ;obtain⟨rfl,rfl⟩:b=b9∧off=off9:=by injection e9 with e9;injection e9 with e1 e2;exact⟨e1,e2⟩
   rw [bT] at hc;have c0:Aside (dM (L.drop j)= .mk 5 0 ⟨#[44]⟩ false [] [] [TJ,dM (L.drop (j+1))]):=by
    obtain⟨b1,hx9⟩:=aM.1 hTJ;show _=_;rw [iK b1,hx9,iK (show j+1<L.length by have:=Ll.o;omega)];rfl
   have c7:=aside hv;obtain⟨k1,v1,nm1,g1,num,den,args⟩:=TJ;simp only [TmV] at hv;obtain⟨_,_,a1,c1,rfl,⟨⟨p1,q5,rfl,_⟩,⟨p2,q6,rfl,_⟩⟩,_⟩:=hv;have b5:b<w.heap.size:=aR hbn hn;have yA:Aside (∀w2,Bz wr w2→_):=fun(w2:Wo) (hw:Bz wr w2)=>seven (w:=w) (w2:=w2) (fun p hp=>(hbr.trans (hw.mono hbr.size)).cell (hp▸b5)) hc
   have xB:Aside (∀w2,Bz wr w2→w2.heap[wa.heap.size]?=some (.cells (tA k2 v2 a0 g2 p3 n3 q7 p4 n4 q8 a2 l2 c2) 48)):=fun w2 hw=>(hw.block _ (by have:=xA.o.2.1;have:=hrA.o.2.2;omega)).trans hqr
   have uB:Aside (∀w2,Bz wr w2→_):=fun(w2:Wo) (hw:Bz wr w2)=>bZ (xB.o w2 hw)
   generalize args.length=l1,num.length=n1,den.length=n2 at*;have c8:(j:Int)<(len:Int):=by omega
   have c9:(0:Int)≤(j:Int):=by omega
   have d3:IntKind.i64.wrap ((j:Int)-1)=(j:Int)-1:=by rw [dX];omega
   have a9:=aside hbr;clear hc hTJ hbr hqr hbn b5 e9
   go_upto_region 7 with fail
   have fd:Bz wr wr.drew:=dO _ _;refine hRp (Bz wr) 7 (Heavy.lights [0,1,2,3,4] (.one 5 (.one 6 .done))) (by kernel_rfl) (by kernel_rfl) fd ?_;simp only [Heavy.lights,bL,bY,aZ,bG]
   iterate 3 ((apply hLm;(exact rfl);(exact rfl);(intro a6 hw;go_simp;exact rfl);(go_simp;exact rfl)))
   (apply hLm;(exact rfl);(exact rfl);(intro a6 hw;obtain⟨y0,y1,y2,y3,y4,y5,y6⟩:=yA.o a6 hw;go_simp;exact rfl);(go_simp;exact rfl))
   (apply hLm;(exact rfl);(exact rfl);(intro a6 hw;obtain⟨y0,y1,y2,y3,y4,y5,y6⟩:=uB.o a6 hw;go_simp;exact rfl);(go_simp;exact rfl))
   (apply hOn;(exact rfl);(exact rfl));go_simp
   have f5:Bz wr (wr.drew.alloc (.cells #[.int .i64 k1,.int .i64 v1,.string nm1,.bool g1,.slice p1 n1 q5,.slice p2 n2 q6,.slice a1 l1 c1,.int .i64 k2,.int .i64 v2,.string a0,.bool g2,.slice p3 n3 q7,.slice p4 n4 q8,.slice a2 l2 c2] 48)):=fd.alloc fd.size _;refine⟨f5,?_⟩
   (refine hNa (by go_simp;exact rfl) ?_)
   (apply hOn;(exact rfl);(exact rfl));go_simp
   refine(tR ⟨#[44]⟩ _ 2 2 (by decide) _).mono ?_;rintro e w9 ⟨rfl,hb9⟩;have f9:Bz wr w9:=f5.trans (hb9.mono f5.size);refine⟨_,rfl,f9,?_⟩
   (refine hNa (by go_simp;exact rfl) ?_)
   apply hPe;show wpList _ _ _ _ _ _;have b6:w9.heap[wr.drew.heap.size]?=some (.cells #[.int .i64 k1,.int .i64 v1,.string nm1,.bool g1,.slice p1 n1 q5,.slice p2 n2 q6,.slice a1 l1 c1,.int .i64 k2,.int .i64 v2,.string a0,.bool g2,.slice p3 n3 q7,.slice p4 n4 q8,.slice a2 l2 c2] 48):=(hb9.block _ (by show _<(wr.alloc _).heap.size;rw [cB];exact Nat.lt_succ_self _)).trans (aJ _ _);obtain⟨w4,hst,hq3,hg3,hs3⟩:=fT (vs:=[.int .i64 5,.int .i64 0,.string ⟨#[44]⟩,.bool false,.slice none 0 0,.slice none 0 0,.slice (some ⟨wr.drew.heap.size,0,none⟩) 2 2]) (xB.o w9 f9) rfl (by simp [Value.oneCell']);have a4:=lY hst;have sD:wr.drew.heap.size=wr.heap.size:=rfl;have sA:wr.heap.size<w9.heap.size:=by have:=hb9.size;replace this:(wr.alloc _).heap.size≤_:=this;rw [cB] at this;omega
   have d2:wa.heap.size<wr.heap.size:=by have:=xA.o.2.1;have:=hrA.o.2.2;omega
   have d0:w.heap.size<wa.heap.size:=by have:=a5.o.1;omega
   have b4:Bz w w4:=(a9.o.trans (f9.mono a9.o.size)).grown hg3 (by have:=a9.o.size;omega) (by intro k hk;injection hk with hk;omega);have hN:Aside (TmS (fun b=>(b<n∨wx.heap.size≤b)∧b<w4.heap.size) w4 (dM (L.drop j)) [.int .i64 5,.int .i64 0,.string ⟨#[44]⟩,.bool false,.slice none 0 0,.slice none 0 0,.slice (some ⟨wr.drew.heap.size,0,none⟩) 2 2]∧w4.heap[w.heap.size]?=some (.cells #[.int .i64 0,.int .i64 0,.string ⟨#[]⟩,.bool false,.slice none 0 0,.slice none 0 0,.slice none 0 0] 48)∧wx.heap.size≤w4.heap.size):=by
    refine⟨?_,((hg3.block _ (by omega) (fun e=>by injection e with e;omega)).trans (f9.block _ (by omega))).trans hrA.o.2.1,by have:=hrA.o.2.2;omega⟩;rw [c0.o];have k4:Same (fun b=>(b<n∨wx.heap.size≤b)∧b<wr.heap.size) wr w4:=fun b hb=>(hg3.block b (by omega) (fun e=>by injection e with e;have:=xA.o.2.1;rcases hb.1 with h|h<;>omega)).trans (f9.block b hb.2)
    refine SE ⟨.inr (by have:=hrA.o.2.2;omega),by omega⟩ (us:=[.int .i64 k1,.int .i64 v1,.string nm1,.bool g1,.slice p1 n1 q5,.slice p2 n2 q6,.slice a1 l1 c1]) (vs:=[.int .i64 k2,.int .i64 v2,.string a0,.bool g2,.slice p3 n3 q7,.slice p4 n4 q8,.slice a2 l2 c2]) ?_ (TmS.mono (fun b hb=>⟨hb.1,by omega⟩) _ _ (TmS.keep k4 _ _ hrA.o.1)) ((hg3.block _ (by omega) (fun e=>by injection e with e;omega)).trans b6);exact TmS.mono (fun b hb=>⟨.inl hb,by omega⟩) _ _ (TmV.toS _ _ (TmV.below b4 hn _ _ c7.o))
   clear hst xB uB yA f5 f9 hb9 b6 fd;refine eR rfl 48 _ _ rfl (v:=.pointer (some ⟨wa.heap.size,0,none⟩)) (u:=.agg #[.int .i64 5,.int .i64 0,.string ⟨#[44]⟩,.bool false,.slice none 0 0,.slice none 0 0,.slice (some ⟨wr.drew.heap.size,0,none⟩) 2 2]) rfl rfl a4 ?_;clear a4;go_wp2;exact⟨⟨j,(j:Int)-1,by simp,by omega,by omega,b4,_,_,_,_,_,_,_,_,_,_,_,_,_,hq3,hN.o⟩,by simp [intOf]⟩
end
