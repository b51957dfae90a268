/- Lemmas; no condition. -/
import Derived.Test.YtbdpdeonapmlgaaGreatDoorAm
set_option linter.all false
set_option maxHeartbeats 8000000
set_option maxRecDepth 100000
namespace Go.Proofs.YtbdpdeonapmlgaaGreatDoor
open Go.RowKit Go.Big Go.RowsK Go.MapK
section
attribute [local go_sem] Heavy.uponW
def ZX (P:List Cl) (hF:∀C∈P,C.flt=0) (hP:P.length≤300) (ba:Nat) (w:Wo) (va:Value) (b:Nat) (M:List (Ind × Value)) (L0:List Ind) (hG:GU ba w b M P) (hO:aF ba w va L0) (i0:L0.length≤4000000):
  Cz 123 #[.agg #[va,.map (some b)]] w (PCompsP w):=by
 obtain⟨av,cv,rfl,_⟩:=hO.read;obtain⟨nv,hnv⟩:∃n,L0.length=n:=⟨_,rfl⟩;rw [hnv] at hO i0 ⊢;have hA:Aside ((∀w2,Bz w w2→GU ba w2 b M P∧aF ba w2 (.slice av nv cv) L0)∧L0.length=nv∧(∀C∈P,C.flt=0)∧P.length≤300):=⟨fun w2 hb=>⟨hG.below hb (aA _),hO.below hb (aA _)⟩,hnv,hF,hP⟩;clear hG hO hF hP hnv;have f3:∀w:Wo,(Instr.makeMap 226 none).run Tryz.prog w= .ok (.map (some w.heap.size)) (w.alloc (.map #[] 0)):=fun w=>rfl
 go_enter Tryz.func123,Tryz.ntmps123
 go_upto_region 2 with fail
 obtain⟨w1,hw1⟩:=enm ((w.alloc (.cells #[.slice av nv cv,.map (some b)] 168)).alloc (.map #[] 0));have b1:=aC w (.cells #[.slice av nv cv,.map (some b)] 168);have b2:=aC (w.alloc (.cells #[.slice av nv cv,.map (some b)] 168)) (.map #[] 0);have q1:=aJ w (Obj.cells #[.slice av nv cv,.map (some b)] 168);have f0:=aQ.new (kv:=aO) (w.alloc (.cells #[.slice av nv cv,.map (some b)] 168)) 0;have d7:Aside (Bz w w1∧w1.heap.size=w.heap.size+1+1∧w1.heap[w.heap.size]?=some (.cells #[.slice av nv cv,.map (some b)] 168)∧aQ aO w1 (w.heap.size+1) []):=by
  refine⟨?_,?_,?_,?_⟩
  ·rw [←hw1];exact b1.trans (b2.mono b1.size)
  ·rw [←hw1];simp
  ·rw [←hw1];exact(b2.block _ (by simp)).trans q1
  ·rw [←hw1];simp at f0;exact f0
 rw [hw1];clear hw1 f3 b1 b2 q1 f0;obtain⟨rb,hrb⟩:∃z,w.heap.size+1=z:=⟨_,rfl⟩;rw [hrb] at d7 ⊢;have d1:=aside hrb;clear hrb;have fk:Aside (∀w2,Below rb w1 w2→w2.cell? ⟨w.heap.size,0,none⟩=some (.slice av nv cv)∧w2.cell? ⟨w.heap.size,1,none⟩=some (.map (some b))):=fun w2 hb=>gM ((hb.block _ (by have:=d1.o;omega)).trans d7.o.2.2.1)
 have fw:Aside (∀w2,Below rb w1 w2→Bz w w2):=fun w2 hb=>d7.o.1.trans (hb.mono (by have:=d1.o;omega))
 obtain⟨x0,x1⟩:=fk.o w1 (bD _ _);go_wp2;clear x0 x1
 go_loopw [17] (fun s wr=>∃(i:Nat) (R:List (Ind × Value)),s= .int .i64 i∧i≤nv∧RM wr rb R∧(∀(j:Nat) I,L0[j]?=some I→j<i→aL I R≠none)∧Below rb w1 wr) (fun s _=>nv-(intOf s).toNat)
 case atStart=>exact⟨0,[],rfl,bX _,⟨d7.o.2.2.2,fun k u hk=>by simp [aL] at hk⟩,fun j I _ hj=>absurd hj (VC _),bD _ _⟩
 case round=>
  obtain⟨wo,rfl⟩:=enr wr;obtain⟨i,R,rfl,hi,hR,hall,hB⟩:=hrel
  by_cases i2:i<nv
  case neg=>
   obtain rfl:i=nv:=by omega
   have f3:∀w:Wo,(Instr.makeMap 163 none).run Tryz.prog w= .ok (.map (some w.heap.size)) (w.alloc (.map #[] 0)):=fun w=>rfl
   have d6:=aQ.new (kv:=aO) wo 0;have b0:=aC wo (.map #[] 0)
   go_upto_region 9 with fail
   obtain⟨w2,hw2⟩:=enm (wo.alloc (.map #[] 0));obtain⟨dn,hdn⟩:∃x,wo.heap.size=x:=⟨_,rfl⟩;have h6:w2.heap.size=dn+1:=by rw [←hw2,cB,hdn]
   rw [hw2] at d6 b0
   try rw [hw2]
   rw [hdn] at d6 b0
   try rw [hdn]
   have h4:rb<dn:=by rw [←hdn];exact hR.1.lt
   have c6:Aside (∀I∈L0,aL I R≠none):=fun I hI=>by
    obtain⟨j,hj⟩:=pP.1 hI;exact hall j I hj (by have:=(aM.1 hj).1;have:=hA.o.2.1;omega)
   have c0:Aside (∀w',Below dn w2 w'→RM w' rb R∧Below rb w1 w'):=fun w' hb=>⟨hR.below (b0.trans hb) (by omega),hB.trans ((b0.trans hb).mono (by omega))⟩
   have e4:=aside3 d6 h6 h4;clear hR hall hB d6 b0 hdn h6 h4 hw2 f3;obtain⟨x0,x1⟩:=fk.o w2 (c0.o w2 (bD _ _)).2;go_wp2;clear x0 x1
   go_loopw [31,6] (fun i7 s6 wr=>∃(j:Nat) (v:Value) (X:Lv) (LL:List (List Ind)) (D:List (Ind × Value)),i7= .int .i64 j∧v=s6∧j≤i∧RowX (dn+1) wr v X LL∧LL.length≤j∧(∀L∈LL,L≠ []∧L.length≤i∧∀z∈L,z∈L0)∧aQ aO wr dn D∧(∀p∈D,p.2= .bool true)∧Below dn w2 wr) (fun s _ _=>i-(intOf s).toNat)
   case atStart=>exact⟨0,_,[],[],[],rfl,rfl,bX _,RowX.nil _ _,aA _,by simp,e4.o.1,by simp,bD _ _⟩
   case round=>
    obtain⟨wn,rfl⟩:=enr wr;obtain⟨k,v,X,LL,D,rfl,rfl,hk,hX,hLl,hLs,hM,ht,hB⟩:=hrel
    by_cases g9:k<i
    case neg=>
     obtain rfl:k=i:=by omega
     have g2:OrdI (dn+1) wn v X LL rb R:=by
      refine⟨hX,(c0.o wn hB).1.1,by omega,fun L hL=>⟨by have:=(hLs L hL).2.1;omega,?_⟩⟩;obtain⟨h1,h2,h3⟩:=hLs L hL
      match L,h1,h3 with
      | (z,m)::r,_,h3=>
       have hv:=c6.o (z,m) (h3 (z,m) (by simp));cases hk:aL (z,m) R with
       |none=>exact absurd hk hv
       |some u=>
        obtain⟨bk,Dk,e1,_,e3,_⟩:=(c0.o wn hB).1.2 _ _ hk;subst e1;exact⟨z,m,r,bk,Dk,rfl,hk,e3⟩
     have c5:=Ad (dn+1) wn v X LL rb R g2;have e0:Aside (Bz w wn∧LL.length≤k∧(∀L∈LL,L.length≤k)):=⟨fw.o wn (c0.o wn hB).2,hLl,fun L hL=>(hLs L hL).2.1⟩;clear hX hLs hM ht hB g2 hLl
     go_wp2_with (go_at_call 191;with_reducible refine c5.mono ?_)
     rintro e w9 ⟨v9,X9,LO,rfl,hb9,hr9,hs9,hl9,hB9⟩;have hR:Aside (PCompsP w (.returned v9) w9):=⟨v9,X9,LO,rfl,hb9,hr9,by have:=e0.o.2.1;omega,fun L hL=>by have:=e0.o.2.2 L (hs9 L hL);omega,e0.o.1.trans (hB9.mono e0.o.1.size)⟩;clear hb9 hr9 hs9 hl9 hB9 c5;go_wp2
     go_ret
     exact hR.o
    obtain⟨⟨x,p⟩,hY⟩:∃Y,L0[k]?=some Y:=⟨L0[k]'(by rw [hA.o.2.1];exact g9),bM _⟩;have a9:=(hA.o.1 wn (fw.o wn (c0.o wn hB).2)).2;obtain⟨g8,c8,he,_,_⟩:=a9.some (by intro e;subst e;simp at hY);rw [hA.o.2.1] at he;injection he with he1 he2 he3
    subst he1;subst he3;clear he2;obtain⟨z0,z1⟩:=a9.cells hY;dsimp only at z0 z1;obtain⟨h9,hi3,hw3⟩:=elt (i:=k) (n:=i) (by omega) (by omega);have g4:dn<wn.heap.size:=hM.lt;have a2:=aside8 hX hLl hLs hM ht hB g4 hY;clear hX hLl hLs hM ht hB g4 a9 hY
    go_upto_region 12 with fail
    obtain⟨w4,hw4⟩:=enm (wn.alloc (.cells #[.string x,.int .i64 p] 63));have b4:=aC wn (.cells #[.string x,.int .i64 p] 63);have d8:=aJ wn (Obj.cells #[.string x,.int .i64 p] 63);rw [hw4] at b4 d8 ⊢;clear hw4 z0 z1;have e6:=a2.o.2.2.2.1.of_block (b4.block dn a2.o.2.2.2.1.lt);have c7:=AT e6 a2.o.2.2.2.2.1 x p;obtain⟨F,hF⟩:=enm (qH (x,p) (D.map (·.1)));rw [hF] at c7;obtain⟨z0,z1⟩:=gM d8;have i3:=b4.size;have a7:Aside (RowX (dn+1) w4 v X LL∧aQ aO w4 dn D∧Below dn w2 w4∧w4.heap[wn.heap.size]?=some (.cells #[.string x,.int .i64 p] 63)):=⟨a2.o.1.below b4 (aA _),e6,a2.o.2.2.2.2.2.1.trans (b4.mono (by have:=a2.o.2.2.2.2.2.2.1;omega)),d8⟩;have a5:Aside (dn<w4.heap.size):=by show dn<_;have:=a2.o.2.2.2.2.2.2.1;omega
    clear hF e6 b4 d8 i3;cases F
    case true=>
     go_wp2;go_roundw
     case rel=>exact⟨k+1,v,X,LL,D,by simp,rfl,by omega,a7.o.1,by have:=a2.o.2.1;omega,a2.o.2.2.1,a7.o.2.1,a2.o.2.2.2.2.1,a7.o.2.2.1⟩
     case measure=>simp [intOf];omega
    go_upto_region 14 with fail
    clear c7 z0 z1;obtain⟨w5,hw5⟩:=enm (w4.alloc (.cells #[] 63));have b5:=aC w4 (.cells #[] 63);have f4:=aJ w4 (Obj.cells #[] 63);rw [hw5] at b5 f4 ⊢;clear hw5;have g1:aF w4.heap.size w5 (.slice (some ⟨w4.heap.size,0,none⟩) 0 0) []:=⟨rfl,.inr ⟨w4.heap.size,0,#[],rfl,aA _,f4,aA _,bX _,rfl,rfl⟩⟩;have d5:Aside (aF w4.heap.size w5 (.slice (some ⟨w4.heap.size,0,none⟩) 0 0) []∧aQ aO w5 dn D∧w4.grownBy w5 (some dn)):=⟨g1,a7.o.2.1.of_block (b5.block dn a7.o.2.1.lt),qQ (BO _ _) b5 (aA _)⟩;clear b5 f4 g1;obtain⟨x0,x1⟩:=fk.o w5 (c0.o w5 (a7.o.2.2.1.trans (HQ d5.o.2.2 (aA _) (by have:=a5.o;omega)))).2;go_wp2;clear x0 x1
    go_loopw [42,10] (fun i8 i6 wr=>∃(j:Nat) (vo:Value) (S:List Ind) (D:List (Ind × Value)),i8= .int .i64 j∧vo=i6∧j≤i∧aF w4.heap.size wr vo S∧S.length≤j∧(∀z∈S,z∈L0)∧(k<j→S≠ [])∧aQ aO wr dn D∧(∀p∈D,p.2= .bool true)∧w4.grownBy wr (some dn)) (fun s _ _=>i-(intOf s).toNat)
    case atStart=>exact⟨0,_,[],D,rfl,rfl,bX _,d5.o.1,aA _,by simp,fun h=>absurd h (VC _),d5.o.2.1,a2.o.2.2.2.2.1,d5.o.2.2⟩
    case round=>
     obtain⟨wp,rfl⟩:=enr wr;obtain⟨j,vo,S,D2,rfl,rfl,hj,hO,hSl,hSm,hSn,hM,ht,hg⟩:=hrel
     by_cases i1:j<i
     case neg=>
      obtain rfl:j=i:=by omega
      have h0:=hSn g9;obtain⟨ao,co,rfl,_⟩:=hO.read;obtain⟨nS,hnS⟩:∃x,S.length=x:=⟨_,rfl⟩;rw [hnS] at hO ⊢;have e8:=a7.o.1.keep hg (Nat.lt_succ_self dn);have h8:dn+1≤wp.heap.size:=hM.lt;have c3:Below dn w2 wp:=a7.o.2.2.1.trans (HQ hg (aA _) (by have:=a5.o;omega));have b8:Aside (RowX (dn+1) wp v X LL∧aF (dn+1) wp (.slice ao nS co) S∧Below dn w2 wp∧aQ aO wp dn D2∧(∀p∈D2,p.2= .bool true)∧S≠ []∧S.length≤j∧(∀z∈S,z∈L0)∧dn+1≤wp.heap.size):=⟨e8,qA hO (by have:=a5.o;omega),c3,hM,ht,h0,hSl,hSm,h8⟩;have a6:(wp.alloc (Obj.cells #[.slice ao nS co] 127)).ownsRow (dn+1) 127 1 v LL.length X:=gJ e8.1 (aC _ _) (aA _);have c9:=aJ wp (Obj.cells #[.slice ao nS co] 127);clear e8 c3 hM ht h0 hSl hSm hSn hO hg hnS
      go_upto_region 21 with fail
      refine dZ ?_
      iterate 3 (refine bE rfl fun K hK=>?_;go_simp;refine hK _ _ ?_;clear hK)
      refine jK elRow _ rfl _ _ rfl (dn+1) v _ _ rfl a6 (.slice (some ⟨wp.heap.size,0,none⟩) 1 1) 1 [.slice ao nS co] rfl (.inr ⟨_,_,rfl,fun t u ht=>by rw [jI,bT];simp only [World.cell?,c9];simpa using ht⟩) rfl (by simp [Value.oneCell']) (by have:=a2.o.2.1;unfold maxLen;omega) (by have:=a2.o.2.1;omega) (by rw [cB];omega) ?_;intro v5 f7 h5 g5 i4;have hN:Aside (RowX (dn+1) f7 v5 (X++ [.slice ao nS co]) (LL++ [S])∧aQ aO f7 dn D2∧Below dn w2 f7):=by
       obtain⟨p1,p2,_⟩:=b8.o.1.push h8 b8.o.2.1 h5 g5;exact⟨p1,b8.o.2.2.2.1.of_block (p2.block dn (by omega)),b8.o.2.2.1.trans (p2.mono (by omega))⟩
      clear h5 g5 i4 a6 c9;go_wp2;go_roundw
      case rel=>exact⟨k+1,v5,_,_,D2,by simp,rfl,by omega,hN.o.1,by have:=a2.o.2.1;simp;omega,fun L hL=>by
       rcases cG.1 hL with h|h
       ·exact a2.o.2.2.1 L h
       ·simp at h;subst h;exact⟨b8.o.2.2.2.2.2.1,b8.o.2.2.2.2.2.2.1,b8.o.2.2.2.2.2.2.2.1⟩,hN.o.2.1,b8.o.2.2.2.2.1,hN.o.2.2⟩
      case measure=>simp [intOf];omega
     obtain⟨⟨y,q⟩,hY⟩:∃Y,L0[j]?=some Y:=⟨L0[j]'(by rw [hA.o.2.1];exact i1),bM _⟩;have c3:Below dn w2 wp:=a7.o.2.2.1.trans (HQ hg (aA _) (by have:=a5.o;omega));have a9:=(hA.o.1 wp (fw.o wp (c0.o wp c3).2)).2;obtain⟨z0,z1⟩:=a9.cells hY;dsimp only at z0 z1;obtain⟨i9,hj3,hw5'⟩:=elt (i:=j) (n:=i) (by omega) (by omega);have e7:wp.heap[wn.heap.size]?=some (.cells #[.string x,.int .i64 p] 63):=(hg.block _ (aG.1 a7.o.2.2.2).1 (fun e=>by have:=aK e;have:=a2.o.2.2.2.2.2.2.1;omega)).trans a7.o.2.2.2;have hZ:Aside ((∀z∈S,z∈L0)∧(y,q)∈L0∧(k<j+1→decide ((y,q)=(x,p))=false→S≠ [])):=⟨hSm,aV hY,fun h1 h2=>by
      rcases VG.1 h1 with h|h
      ·exact hSn h
      ·subst h;have e:=a2.o.2.2.2.2.2.2.2;rw [hY] at e;have e:=aK e;rw [vI] at h2;exact absurd e h2⟩
     have b6:=aC wp (.cells #[.string y,.int .i64 q] 63);have f5:=aJ wp (Obj.cells #[.string y,.int .i64 q] 63);have hRp:=(c0.o wp c3).1
     go_upto_region 17 with fail
     obtain⟨w6,hw6⟩:=enm (wp.alloc (.cells #[.string y,.int .i64 q] 63));rw [hw6] at b6 f5 ⊢;clear hw6 z0 z1;have hQ:Aside (aF w4.heap.size w6 vo S∧aQ aO w6 dn D2∧(∀p∈D2,p.2= .bool true)∧w4.grownBy w6 (some dn)∧S.length≤j∧w6.heap[wp.heap.size]?=some (.cells #[.string y,.int .i64 q] 63)∧RM w6 rb R∧vo.ownBlock≠some wp.heap.size):=⟨hO.below b6 (aA _),hM.of_block (b6.block dn hM.lt),ht,qQ hg b6 (aA _),hSl,f5,hRp.below b6 (aA _),fun e=>by have:=(cF hO _ e).2;omega⟩;have a1:Aside (∀w2,Bz w6 w2→w2.cell? ⟨wp.heap.size,0,none⟩=some (.string y)∧w2.cell? ⟨wp.heap.size,1,none⟩=some (.int .i64 q)):=fun w2 hb=>gM ((hb.block _ (aG.1 hQ.o.2.2.2.2.2.1).1).trans hQ.o.2.2.2.2.2.1)
     have c1:=(b6.block _ (aG.1 e7).1).trans e7;have a4:Aside (∀w2,Bz w6 w2→w2.cell? ⟨wn.heap.size,0,none⟩=some (.string x)∧w2.cell? ⟨wn.heap.size,1,none⟩=some (.int .i64 p)):=fun w2 hb=>gM ((hb.block _ (aG.1 c1).1).trans c1)
     obtain⟨u1,hu1⟩:∃u,(aL (x,p) R).getD (.map none)=u:=⟨_,rfl⟩;obtain⟨u2,hu2⟩:∃u,(aL (y,q) R).getD (.map none)=u:=⟨_,rfl⟩;have e9:Aside (∀w2,Bz w6 w2→(Instr.lookup 226 (.map (some rb)) (.agg #[.string x,.int .i64 p]) false).run Tryz.prog w2= .ok u1 w2):=fun w2 hb=>by rw [←hu1];exact(hQ.o.2.2.2.2.2.2.1.below hb (aA _)).look x p
     have g6:Aside (∀w2,Bz w6 w2→(Instr.lookup 226 (.map (some rb)) (.agg #[.string y,.int .i64 q]) false).run Tryz.prog w2= .ok u2 w2):=fun w2 hb=>by rw [←hu2];exact(hQ.o.2.2.2.2.2.2.1.below hb (aA _)).look y q
     have r1:=hQ.o.2.2.2.2.2.2.1.rv (x,p);have r2:=hQ.o.2.2.2.2.2.2.1.rv (y,q);rw [hu1] at r1;rw [hu2] at r2;obtain⟨F1,f1⟩:=r1.look y q;obtain⟨F2,f2⟩:=r2.look x p;have e2:=aside f1;have g0:=aside f2;have i5:=qN y x q p;have j1:=sH;obtain⟨Dq,hDq⟩:∃D,decide ((y,q)=(x,p))=D:=⟨_,rfl⟩;rw [hDq] at i5;have DA:=aside hDq;have a3:Bz w6 w6.drew:=dO _ _;clear hO hSl hSm hSn hM ht hg hY c3 a9 e7 b6 f5 hRp c1 hu1 hu2 r1 r2 f1 f2 hDq;cases Dq
     case true=>
      refine hRp (Bz w6) 16 (Heavy.lights [0,1,2,3,4,5,6,7,8,9,10,11,12,13,14,15] .done) (by kernel_rfl) (by kernel_rfl) a3 ?_;simp only [Heavy.lights,bL,bY,aZ,bG]
      (apply hLm;(exact rfl);(exact rfl);(intro a0 hw;have z0:=(a1.o a0 hw).1;have z1:=(a1.o a0 hw).2;go_simp;exact rfl);(go_simp;exact rfl))
      (apply hLm;(exact rfl);(exact rfl);(intro a0 hw;have z0:=(a4.o a0 hw).1;have z1:=(a4.o a0 hw).2;go_simp;exact rfl);(go_simp;exact rfl))
      iterate 2 ((apply hLm;(exact rfl);(exact rfl);(intro a0 hw;go_simp;exact rfl);(go_simp;exact rfl)))
      iterate 6 ((apply hLk;(exact rfl);(go_simp));(refine hNa (by go_simp;exact rfl) ?_))
      iterate 5 ((apply hLk;(exact rfl);(go_simp<;>(intro h;cases h)));(refine hNa (by go_simp;exact rfl) ?_))
      (apply hLk;(exact rfl);(go_simp));(refine hNa (by go_simp;exact rfl) ?_)
      apply hPe;show wpList _ _ _ _ _ _
      go_upto_region 18 with fail
      obtain⟨z0,z1⟩:=a1.o _ a3;have o6:aF w4.heap.size w6.drew vo S:=hQ.o.1.below a3 (aA _);have b7:=aC w6.drew (.cells #[.string y,.int .i64 q] 63);have a6:(w6.drew.alloc (.cells #[.string y,.int .i64 q] 63)).ownsRow w4.heap.size 63 2 vo S.length (S.flatMap bO):=gJ o6 b7 (aA _);have d2:w4.heap.size≤w6.drew.heap.size:=hQ.o.2.2.2.1.size;refine dZ ?_
      iterate 3 (refine bE rfl fun K hK=>?_;go_simp;refine hK _ _ ?_;clear hK)
      refine jK sM _ rfl _ _ rfl w4.heap.size vo _ _ rfl a6 (.slice (some ⟨w6.drew.heap.size,0,none⟩) 1 1) 1 [.string y,.int .i64 q] rfl (AB rfl) rfl (by simp [Value.oneCell']) (by have:=hQ.o.2.2.2.2.1;unfold maxLen;omega) (by have:=hQ.o.2.2.2.2.1;omega) (by show w4.heap.size≤(w6.drew.alloc _).heap.size;rw [cB];omega) ?_;intro v7 w7 h7 a8 d3;obtain⟨p1,_,_⟩:=o6.push d2 h7 a8 d3;have c2:∀k,vo.ownBlock=some k→w4.heap.size≤k:=fun k hk=>(cF o6 k hk).1
      have gD:w4.grownBy (w6.drew.alloc (.cells #[.string y,.int .i64 q] 63)) (some dn):=qQ (qQ hQ.o.2.2.2.1 a3 (aA _)) b7 (aA _);have g7:=BN gD a8 (fun k hk=>.inl (c2 k hk));have m7:aQ aO w7 dn D2:=by
       have q1:=hQ.o.2.1.of_block (a3.block dn hQ.o.2.1.lt);have q2:=q1.of_block (b7.block dn q1.lt);exact q2.of_block (a8.block dn q2.lt (fun e=>by have:=c2 dn e.symm;have:=a5.o;omega))
      obtain⟨w8,b9,m8,g8',hs8⟩:=pU kJ tQ m7 (y,q) (.bool true);replace b9:(Instr.mapUpdate 163 (.map (some dn)) (.agg #[.string y,.int .i64 q]) (.bool true)).run Tryz.prog w7= .ok () w8:=b9;have f6:w7.heap[wp.heap.size]?=some (.cells #[.string y,.int .i64 q] 63):=by
       have q1:=hQ.o.2.2.2.2.2.1;have l1:=(aG.1 q1).1;have q2:=(a3.block _ l1).trans q1;have l2:=(aG.1 q2).1;have q3:=(b7.block _ l2).trans q2;refine(a8.block _ (aG.1 q3).1 (fun e=>?_)).trans q3;exact hQ.o.2.2.2.2.2.2.2 e.symm
      have hN:Aside (aF w4.heap.size w8 v7 (S++ [(y,q)])∧aQ aO w8 dn (putM (y,q) (.bool true) D2)∧(∀p∈putM (y,q) (.bool true) D2,p.2= .bool true)∧w4.grownBy w8 (some dn)):=
       ⟨gS p1 fun g hg=>g8'.block g (cF p1 g hg).2 (fun e=>by have:=(cF p1 g hg).1;have:=aK e;have:=a5.o;omega),m8,MX hQ.o.2.2.1 _,BN g7 g8' (fun k hk=>.inr (aK hk).symm)⟩
      clear h7 a8 d3 p1 gD g7 m7 m8 g8' hs8 a6 b7 z0 z1 c2 o6 d2
      go_upto_region 19 with fail
      obtain⟨z0,z1⟩:=gM f6;go_wp2;go_roundw
      case rel=>exact⟨j+1,v7,S++ [(y,q)],_,by simp,rfl,by omega,hN.o.1,by have:=hQ.o.2.2.2.2.1;simp;omega,fun z hz=>by
       rcases cG.1 hz with h|h
       ·exact hZ.o.1 z h
       ·simp at h;subst h;exact hZ.o.2.1,fun _=>by simp,hN.o.2.1,hN.o.2.2.1,hN.o.2.2.2⟩
      case measure=>simp [intOf];omega
     cases F1
     case false=>
      refine hRp (Bz w6) 16 (Heavy.lights [0,1,2,3,4,5,6,7,8,9,10,11,12,13,14,15] .done) (by kernel_rfl) (by kernel_rfl) a3 ?_;simp only [Heavy.lights,bL,bY,aZ,bG]
      (apply hLm;(exact rfl);(exact rfl);(intro a0 hw;have z0:=(a1.o a0 hw).1;have z1:=(a1.o a0 hw).2;go_simp;exact rfl);(go_simp;exact rfl))
      (apply hLm;(exact rfl);(exact rfl);(intro a0 hw;have z0:=(a4.o a0 hw).1;have z1:=(a4.o a0 hw).2;go_simp;exact rfl);(go_simp;exact rfl))
      iterate 2 ((apply hLm;(exact rfl);(exact rfl);(intro a0 hw;go_simp;exact rfl);(go_simp;exact rfl)))
      (apply hLs;(exact rfl);(go_simp);(intro a0 hw;go_simp;exact rfl));(refine hNa (by go_simp;exact rfl) ?_)
      (apply hLs;(exact rfl);(go_simp);(intro a0 hw;have z0:=(a4.o a0 hw).1;have z1:=(a4.o a0 hw).2;go_simp;exact rfl));(refine hNa (by go_simp;exact rfl) ?_)
      (apply hLs;(exact rfl);(go_simp);(intro a0 hw;have z2:=e9.o a0 hw;go_simp;exact rfl));(refine hNa (by go_simp;exact rfl) ?_)
      (apply hLs;(exact rfl);(go_simp);(intro a0 hw;have z0:=(a1.o a0 hw).1;have z1:=(a1.o a0 hw).2;go_simp;exact rfl));(refine hNa (by go_simp;exact rfl) ?_)
      (apply hLs;(exact rfl);(go_simp);(intro a0 hw;have z2:=e2.o a0 hw;go_simp;exact rfl));(refine hNa (by go_simp;exact rfl) ?_)
      (apply hLs;(exact rfl);(go_simp);(intro a0 hw;go_simp;exact rfl));(refine hNa (by go_simp;exact rfl) ?_)
      iterate 5 ((apply hLk;(exact rfl);(go_simp));(refine hNa (by go_simp;exact rfl) ?_))
      (apply hLs;(exact rfl);(go_simp);(intro a0 hw;go_simp;exact rfl));(refine hNa (by go_simp;exact rfl) ?_)
      apply hPe;show wpList _ _ _ _ _ _;have hN:Aside (aF w4.heap.size w6.drew vo S∧aQ aO w6.drew dn D2∧w4.grownBy w6.drew (some dn)):=⟨hQ.o.1.below a3 (aA _),hQ.o.2.1.of_block (a3.block dn hQ.o.2.1.lt),qQ hQ.o.2.2.2.1 a3 (aA _)⟩;go_wp2;go_roundw
      case rel=>exact⟨j+1,vo,S,D2,by simp,rfl,by omega,hN.o.1,by have:=hQ.o.2.2.2.2.1;omega,hZ.o.1,fun h=>hZ.o.2.2 h DA.o,hN.o.2.1,hQ.o.2.2.1,hN.o.2.2⟩
      case measure=>simp [intOf];omega
     cases F2
     case false=>
      refine hRp (Bz w6) 16 (Heavy.lights [0,1,2,3,4,5,6,7,8,9,10,11,12,13,14,15] .done) (by kernel_rfl) (by kernel_rfl) a3 ?_;simp only [Heavy.lights,bL,bY,aZ,bG]
      (apply hLm;(exact rfl);(exact rfl);(intro a0 hw;have z0:=(a1.o a0 hw).1;have z1:=(a1.o a0 hw).2;go_simp;exact rfl);(go_simp;exact rfl))
      (apply hLm;(exact rfl);(exact rfl);(intro a0 hw;have z0:=(a4.o a0 hw).1;have z1:=(a4.o a0 hw).2;go_simp;exact rfl);(go_simp;exact rfl))
      iterate 2 ((apply hLm;(exact rfl);(exact rfl);(intro a0 hw;go_simp;exact rfl);(go_simp;exact rfl)))
      (apply hLs;(exact rfl);(go_simp);(intro a0 hw;go_simp;exact rfl));(refine hNa (by go_simp;exact rfl) ?_)
      (apply hLs;(exact rfl);(go_simp);(intro a0 hw;have z0:=(a4.o a0 hw).1;have z1:=(a4.o a0 hw).2;go_simp;exact rfl));(refine hNa (by go_simp;exact rfl) ?_)
      (apply hLs;(exact rfl);(go_simp);(intro a0 hw;have z2:=e9.o a0 hw;go_simp;exact rfl));(refine hNa (by go_simp;exact rfl) ?_)
      (apply hLs;(exact rfl);(go_simp);(intro a0 hw;have z0:=(a1.o a0 hw).1;have z1:=(a1.o a0 hw).2;go_simp;exact rfl));(refine hNa (by go_simp;exact rfl) ?_)
      (apply hLs;(exact rfl);(go_simp);(intro a0 hw;have z2:=e2.o a0 hw;go_simp;exact rfl));(refine hNa (by go_simp;exact rfl) ?_)
      iterate 2 ((apply hLs;(exact rfl);(go_simp);(intro a0 hw;go_simp;exact rfl));(refine hNa (by go_simp;exact rfl) ?_))
      (apply hLs;(exact rfl);(go_simp);(intro a0 hw;have z0:=(a1.o a0 hw).1;have z1:=(a1.o a0 hw).2;go_simp;exact rfl));(refine hNa (by go_simp;exact rfl) ?_)
      (apply hLs;(exact rfl);(go_simp);(intro a0 hw;have z2:=g6.o a0 hw;go_simp;exact rfl));(refine hNa (by go_simp;exact rfl) ?_)
      (apply hLs;(exact rfl);(go_simp);(intro a0 hw;have z0:=(a4.o a0 hw).1;have z1:=(a4.o a0 hw).2;go_simp;exact rfl));(refine hNa (by go_simp;exact rfl) ?_)
      (apply hLs;(exact rfl);(go_simp);(intro a0 hw;have z2:=g0.o a0 hw;go_simp;exact rfl));(refine hNa (by go_simp;exact rfl) ?_)
      (apply hLs;(exact rfl);(go_simp);(intro a0 hw;go_simp;exact rfl));(refine hNa (by go_simp;exact rfl) ?_)
      apply hPe;show wpList _ _ _ _ _ _;have hN:Aside (aF w4.heap.size w6.drew vo S∧aQ aO w6.drew dn D2∧w4.grownBy w6.drew (some dn)):=⟨hQ.o.1.below a3 (aA _),hQ.o.2.1.of_block (a3.block dn hQ.o.2.1.lt),qQ hQ.o.2.2.2.1 a3 (aA _)⟩;go_wp2;go_roundw
      case rel=>exact⟨j+1,vo,S,D2,by simp,rfl,by omega,hN.o.1,by have:=hQ.o.2.2.2.2.1;omega,hZ.o.1,fun h=>hZ.o.2.2 h DA.o,hN.o.2.1,hQ.o.2.2.1,hN.o.2.2⟩
      case measure=>simp [intOf];omega
     refine hRp (Bz w6) 16 (Heavy.lights [0,1,2,3,4,5,6,7,8,9,10,11,12,13,14,15] .done) (by kernel_rfl) (by kernel_rfl) a3 ?_;simp only [Heavy.lights,bL,bY,aZ,bG]
     (apply hLm;(exact rfl);(exact rfl);(intro a0 hw;have z0:=(a1.o a0 hw).1;have z1:=(a1.o a0 hw).2;go_simp;exact rfl);(go_simp;exact rfl))
     (apply hLm;(exact rfl);(exact rfl);(intro a0 hw;have z0:=(a4.o a0 hw).1;have z1:=(a4.o a0 hw).2;go_simp;exact rfl);(go_simp;exact rfl))
     iterate 2 ((apply hLm;(exact rfl);(exact rfl);(intro a0 hw;go_simp;exact rfl);(go_simp;exact rfl)))
     (apply hLs;(exact rfl);(go_simp);(intro a0 hw;go_simp;exact rfl));(refine hNa (by go_simp;exact rfl) ?_)
     (apply hLs;(exact rfl);(go_simp);(intro a0 hw;have z0:=(a4.o a0 hw).1;have z1:=(a4.o a0 hw).2;go_simp;exact rfl));(refine hNa (by go_simp;exact rfl) ?_)
     (apply hLs;(exact rfl);(go_simp);(intro a0 hw;have z2:=e9.o a0 hw;go_simp;exact rfl));(refine hNa (by go_simp;exact rfl) ?_)
     (apply hLs;(exact rfl);(go_simp);(intro a0 hw;have z0:=(a1.o a0 hw).1;have z1:=(a1.o a0 hw).2;go_simp;exact rfl));(refine hNa (by go_simp;exact rfl) ?_)
     (apply hLs;(exact rfl);(go_simp);(intro a0 hw;have z2:=e2.o a0 hw;go_simp;exact rfl));(refine hNa (by go_simp;exact rfl) ?_)
     iterate 2 ((apply hLs;(exact rfl);(go_simp);(intro a0 hw;go_simp;exact rfl));(refine hNa (by go_simp;exact rfl) ?_))
     (apply hLs;(exact rfl);(go_simp);(intro a0 hw;have z0:=(a1.o a0 hw).1;have z1:=(a1.o a0 hw).2;go_simp;exact rfl));(refine hNa (by go_simp;exact rfl) ?_)
     (apply hLs;(exact rfl);(go_simp);(intro a0 hw;have z2:=g6.o a0 hw;go_simp;exact rfl));(refine hNa (by go_simp;exact rfl) ?_)
     (apply hLs;(exact rfl);(go_simp);(intro a0 hw;have z0:=(a4.o a0 hw).1;have z1:=(a4.o a0 hw).2;go_simp;exact rfl));(refine hNa (by go_simp;exact rfl) ?_)
     (apply hLs;(exact rfl);(go_simp);(intro a0 hw;have z2:=g0.o a0 hw;go_simp;exact rfl));(refine hNa (by go_simp;exact rfl) ?_)
     (apply hLs;(exact rfl);(go_simp);(intro a0 hw;go_simp;exact rfl));(refine hNa (by go_simp;exact rfl) ?_)
     apply hPe;show wpList _ _ _ _ _ _
     go_upto_region 18 with fail
     obtain⟨z0,z1⟩:=a1.o _ a3;have o6:aF w4.heap.size w6.drew vo S:=hQ.o.1.below a3 (aA _);have b7:=aC w6.drew (.cells #[.string y,.int .i64 q] 63);have a6:(w6.drew.alloc (.cells #[.string y,.int .i64 q] 63)).ownsRow w4.heap.size 63 2 vo S.length (S.flatMap bO):=gJ o6 b7 (aA _);have d2:w4.heap.size≤w6.drew.heap.size:=hQ.o.2.2.2.1.size;refine dZ ?_
     iterate 3 (refine bE rfl fun K hK=>?_;go_simp;refine hK _ _ ?_;clear hK)
     refine jK sM _ rfl _ _ rfl w4.heap.size vo _ _ rfl a6 (.slice (some ⟨w6.drew.heap.size,0,none⟩) 1 1) 1 [.string y,.int .i64 q] rfl (AB rfl) rfl (by simp [Value.oneCell']) (by have:=hQ.o.2.2.2.2.1;unfold maxLen;omega) (by have:=hQ.o.2.2.2.2.1;omega) (by show w4.heap.size≤(w6.drew.alloc _).heap.size;rw [cB];omega) ?_;intro v7 w7 h7 a8 d3;obtain⟨p1,_,_⟩:=o6.push d2 h7 a8 d3;have c2:∀k,vo.ownBlock=some k→w4.heap.size≤k:=fun k hk=>(cF o6 k hk).1
     have gD:w4.grownBy (w6.drew.alloc (.cells #[.string y,.int .i64 q] 63)) (some dn):=qQ (qQ hQ.o.2.2.2.1 a3 (aA _)) b7 (aA _);have g7:=BN gD a8 (fun k hk=>.inl (c2 k hk));have m7:aQ aO w7 dn D2:=by
      have q1:=hQ.o.2.1.of_block (a3.block dn hQ.o.2.1.lt);have q2:=q1.of_block (b7.block dn q1.lt);exact q2.of_block (a8.block dn q2.lt (fun e=>by have:=c2 dn e.symm;have:=a5.o;omega))
     obtain⟨w8,b9,m8,g8',hs8⟩:=pU kJ tQ m7 (y,q) (.bool true);replace b9:(Instr.mapUpdate 163 (.map (some dn)) (.agg #[.string y,.int .i64 q]) (.bool true)).run Tryz.prog w7= .ok () w8:=b9;have f6:w7.heap[wp.heap.size]?=some (.cells #[.string y,.int .i64 q] 63):=by
      have q1:=hQ.o.2.2.2.2.2.1;have l1:=(aG.1 q1).1;have q2:=(a3.block _ l1).trans q1;have l2:=(aG.1 q2).1;have q3:=(b7.block _ l2).trans q2;refine(a8.block _ (aG.1 q3).1 (fun e=>?_)).trans q3;exact hQ.o.2.2.2.2.2.2.2 e.symm
     have hN:Aside (aF w4.heap.size w8 v7 (S++ [(y,q)])∧aQ aO w8 dn (putM (y,q) (.bool true) D2)∧(∀p∈putM (y,q) (.bool true) D2,p.2= .bool true)∧w4.grownBy w8 (some dn)):=
      ⟨gS p1 fun g hg=>g8'.block g (cF p1 g hg).2 (fun e=>by have:=(cF p1 g hg).1;have:=aK e;have:=a5.o;omega),m8,MX hQ.o.2.2.1 _,BN g7 g8' (fun k hk=>.inr (aK hk).symm)⟩
     clear h7 a8 d3 p1 gD g7 m7 m8 g8' hs8 a6 b7 z0 z1 c2 o6 d2
     go_upto_region 19 with fail
     obtain⟨z0,z1⟩:=gM f6;go_wp2;go_roundw
     case rel=>exact⟨j+1,v7,S++ [(y,q)],_,by simp,rfl,by omega,hN.o.1,by have:=hQ.o.2.2.2.2.1;simp;omega,fun z hz=>by
      rcases cG.1 hz with h|h
      ·exact hZ.o.1 z h
      ·simp at h;subst h;exact hZ.o.2.1,fun _=>by simp,hN.o.2.1,hN.o.2.2.1,hN.o.2.2.2⟩
     case measure=>simp [intOf];omega
  obtain⟨⟨y,q⟩,hY⟩:∃Y,L0[i]?=some Y:=⟨L0[i]'(by rw [hA.o.2.1];exact i2),bM _⟩;have a9:=(hA.o.1 wo (fw.o wo hB)).2;obtain⟨g8,c8,he,_,_⟩:=a9.some (by intro e;subst e;simp at hY);rw [hA.o.2.1] at he;injection he with he1 he2 he3
  subst he1;subst he3;obtain⟨z0,z1⟩:=a9.cells hY;dsimp only at z0 z1;obtain⟨h9,hi3,hw3⟩:=elt (i:=i) (n:=nv) (by omega) (by omega);have a2:Aside (RM wo rb R∧(∀(j:Nat) I,L0[j]?=some I→j<i→aL I R≠none)∧Below rb w1 wo∧L0[i]?=some (y,q)∧rb<wo.heap.size):=⟨hR,hall,hB,hY,hR.1.lt⟩;clear hR hall hB hY a9 he2
  go_upto_region 5 with fail
  obtain⟨wa,hwa⟩:=enm (wo.alloc (.cells #[.string y,.int .i64 q] 63));have d4:=aC wo (.cells #[.string y,.int .i64 q] 63);have d0:=aJ wo (Obj.cells #[.string y,.int .i64 q] 63);rw [hwa] at d4 d0 ⊢;clear hwa z0 z1;have f9:Below rb w1 wa:=a2.o.2.2.1.trans (d4.mono (by have:=a2.o.2.2.2.2;omega));have j0:wo.heap.size<wa.heap.size:=(aG.1 d0).1;have d9:Aside (∀w2,Bz wa w2→w2.cell? ⟨wo.heap.size,0,none⟩=some (.string y)∧w2.cell? ⟨wo.heap.size,1,none⟩=some (.int .i64 q)):=fun w2 hb=>gM ((hb.block _ (aG.1 d0).1).trans d0)
  have b3:Aside (RM wa rb R∧Below rb w1 wa∧rb<wa.heap.size):=⟨a2.o.1.below d4 (aA _),f9,by have:=a2.o.2.2.2.2;omega⟩;have f8:Aside (∀w2,Bz wa w2→w2.cell? ⟨w.heap.size,0,none⟩=some (.slice (some ⟨g8,0,none⟩) nv cv)∧w2.cell? ⟨w.heap.size,1,none⟩=some (.map (some b))):=fun w2 hb=>fk.o w2 (b3.o.2.1.trans (hb.mono (by have:=b3.o.2.2;omega)))
  have c4:Aside (∀w2,Bz wa w2→Cz 190 #[.agg #[.slice (some ⟨g8,0,none⟩) nv cv,.map (some b)],.agg #[.string y,.int .i64 q]] w2 (FromP w2 P (y,q))):=fun w2 hb=>En P hA.o.2.2.1 hA.o.2.2.2 ba w2 _ _ _ b M (hA.o.1 w2 (fw.o w2 (b3.o.2.1.trans (hb.mono (by have:=b3.o.2.2;omega))))).1 y q
  clear d4 d0 f9;have fd:Bz wa wa.drew:=dO _ _;refine hRp (Bz wa) 5 (Heavy.lights [0,1,2,3] (.one 4 .done)) (by kernel_rfl) (by kernel_rfl) fd ?_;simp only [Heavy.lights,bL,bY,aZ,bG]
  (apply hLm;(exact rfl);(exact rfl);(intro a0 hw;go_simp;exact rfl);(go_simp;exact rfl))
  (apply hLm;(exact rfl);(exact rfl);(intro a0 hw;have z0:=(d9.o a0 hw).1;have z1:=(d9.o a0 hw).2;go_simp;exact rfl);(go_simp;exact rfl))
  (apply hLm;(exact rfl);(exact rfl);(intro a0 hw;have z0:=(f8.o a0 hw).1;have z1:=(f8.o a0 hw).2;go_simp;exact rfl);(go_simp;exact rfl))
  (apply hLm;(exact rfl);(exact rfl);(intro a0 hw;have z0:=(d9.o a0 hw).1;have z1:=(d9.o a0 hw).2;go_simp;exact rfl);(go_simp;exact rfl))
  (apply hOn;(exact rfl);(exact rfl));go_simp
  refine(c4.o _ fd).mono ?_;rintro e w2 ⟨bk,Dk,rfl,hMk,htk,huk,hbk,hb2⟩;have f2:Bz wa w2:=fd.trans (hb2.mono fd.size);refine⟨_,rfl,f2,?_⟩
  (refine hNa (by go_simp;exact rfl) ?_)
  apply hPe;show wpList _ _ _ _ _ _;have g3:RM w2 rb R:=b3.o.1.below f2 (aA _);obtain⟨w3,b9,hR3,hg3,hs3⟩:=g3.put (by have:=b3.o.2.2;have:=fd.size;omega) hMk htk (y,q);replace b9:(Instr.mapUpdate 226 (.map (some rb)) (.agg #[.string y,.int .i64 q]) (.map (some bk))).run Tryz.prog w2= .ok () w3:=b9;have hN:Aside (RM w3 rb (putM (y,q) (.map (some bk)) R)∧(∀(j:Nat) I,L0[j]?=some I→j<i+1→aL I (putM (y,q) (.map (some bk)) R)≠none)∧Below rb w1 w3):=by
   refine⟨hR3,fun j I hI hj=>?_,(b3.o.2.1.trans (f2.mono (by have:=b3.o.2.2;omega))).grown hg3 (by have:=b3.o.2.1.size;have:=b3.o.2.2;have:=f2.size;omega) (fun k hk=>by have:=aK hk;omega)⟩
   by_cases e:I=(y,q)
   ·subst e;rw [oJ];simp
   ·rw [nC e];refine a2.o.2.1 j I hI ?_;rcases VG.1 hj with h|h
    ·exact h
    ·subst h;rw [a2.o.2.2.2.1] at hI;exact absurd (aK hI).symm e
  clear g3 hR3 hg3 hs3 hMk htk huk hbk hb2;go_wp2;go_roundw
  case rel=>exact⟨i+1,_,by simp,by omega,hN.o.1,hN.o.2.1,hN.o.2.2⟩
  case measure=>simp [intOf];omega
end
section
attribute [local go_sem] Heavy.uponW
def mP (w:Wo) (pt mb:Nat):Prop:=w.heap[pt]?=some (.cells #[.map (some mb)] 163 (0,0))∧aQ aO w mb []
def mP.below {w w':Wo} {pt mb m:Nat} (h:mP w pt mb) (hb:Below m w w') (hm:w.heap.size≤m):mP w' pt mb:=
 ⟨(hb.block pt (aR (aG.1 h.1).1 hm)).trans h.1,h.2.of_block (hb.block mb (aR h.2.lt hm))⟩
def Hr (x:ByteArray) (m:Int) (w:Wo) (pt mb:Nat) (h:mP w pt mb):
  Cz 125 #[.agg #[.string x,.int .i64 m],.pointer (some ⟨pt,0,none⟩)] w fun e w'=>e= .returned (.bool false)∧Bz w w':=by
 have b0:=aC w (Obj.cells #[.string x,.int .i64 m] 63);have hn:=h.below b0 (aA _);have a2:=AT hn.2 (by simp) x m;have z0:(w.alloc (Obj.cells #[.string x,.int .i64 m] 63)).cell? ⟨pt,0,none⟩=some (.map (some mb)):=by simp [World.cell?,hn.1]
 have hf:qH (x,m) ([]:List Ind)=false:=rfl;simp only [tK,hf] at a2;clear h hn hf;go_enter Tryz.func125,Tryz.ntmps125;go_wp2
 go_ret
 exact⟨rfl,b0⟩
def Do (ba:Nat) (L:List Ind) (a:Option Addr) (len c:Nat) (w:Wo) (pt mb:Nat) (hl:L.length=len) (a0:len≤4000000) (hO:aF ba w (.slice a len c) L) (h:mP w pt mb):
  Cz 192 #[.slice a len c,.func (.func 125) #[] #[.pointer (some ⟨pt,0,none⟩)]] w fun e w'=>e= .returned (.int .i64 (-1))∧Bz w w':=by
 have hA:Aside (L.length=len∧∀w2,Bz w w2→aF ba w2 (.slice a len c) L∧mP w2 pt mb):=⟨hl,fun w2 hb=>⟨hO.below hb (aA _),h.below hb (aA _)⟩⟩;clear hl hO h;go_enter Tryz.func192,Tryz.ntmps192;go_wp2
 go_loopw [8] (fun s wr=>∃i:Nat,s= .int .i64 i∧i≤len∧Bz w wr) (fun s _=>len-(intOf s).toNat)
 case atStart=>exact⟨0,rfl,bX _,bD _ _⟩
 case round=>
  obtain⟨wo,rfl⟩:=enr wr;obtain⟨i,rfl,hi,hB⟩:=hrel
  by_cases a3:i<len
  case neg=>
   obtain rfl:i=len:=by omega
   go_wp2
   go_ret
   exact⟨rfl,hB⟩
  obtain⟨⟨y,q⟩,hY⟩:∃Y,L[i]?=some Y:=⟨L[i]'(by rw [hA.o.1];exact a3),bM _⟩;have hO:=(hA.o.2 wo hB).1;obtain⟨g8,c8,he,_,_⟩:=hO.some (by intro e;subst e;simp at hY);rw [hA.o.1] at he;injection he with he1 he2 he3
  subst he1;subst he3;clear he2;obtain⟨z0,z1⟩:=hO.cells hY;dsimp only at z0 z1;obtain⟨a4,hi3,hw3⟩:=elt (i:=i) (n:=len) (by omega) (by omega);have a1:Aside (Cz 125 #[.agg #[.string y,.int .i64 q],.pointer (some ⟨pt,0,none⟩)] wo fun e w'=>e= .returned (.bool false)∧Bz wo w'):=Hr y q wo pt mb (hA.o.2 wo hB).2;clear hO hY
  go_wp2_with (go_at_call 125;with_reducible refine a1.o.mono ?_;rintro e w2 ⟨rfl,hb2⟩)
  have f2:Bz w w2:=hB.trans (hb2.mono hB.size);go_roundw
  case rel=>exact⟨i+1,by simp,by omega,f2⟩
  case measure=>simp [intOf];omega
def Gs (ba:Nat) (L:List Ind) (a:Option Addr) (len c:Nat) (w:Wo) (pt mb:Nat) (hl:L.length=len) (a0:len≤4000000) (hO:aF ba w (.slice a len c) L) (h:mP w pt mb):
  Cz 124 #[.slice a len c,.func (.func 125) #[] #[.pointer (some ⟨pt,0,none⟩)]] w fun e w'=>e= .returned (.bool false)∧Bz w w':=by
 have d:=Do ba L a len c w pt mb hl a0 hO h;clear hl hO h;go_enter Tryz.func124,Tryz.ntmps124
 go_wp2_with (go_at_call 192;with_reducible refine d.mono ?_;rintro e w2 ⟨rfl,hb2⟩)
 go_ret
 exact⟨rfl,hb2⟩
end
section
attribute [local go_sem] Heavy.uponW
def XK (P:List Cl) (n:Nat) (w:Wo) (a:Option Addr) (len c:Nat) (hl:P.length=len) (h:ClsV n w P a) (hn:n≤w.heap.size):
  Cz 58 #[.slice a len c,.slice none 0 0] w fun e w'=>e= .returned (.int .i64 (kN P))∧Bz w w':=by
 have Al:=aside hl;have hA:=aside2 h hn;obtain⟨FL,hFL⟩:∃f,kN P=f:=⟨_,rfl⟩;rw [hFL];have FA:=aside hFL;clear hl h hn hFL
 by_cases d1:300<len
 case pos=>
  obtain rfl:FL=3:=by
   rw [←FA.o];unfold kN;rw [if_pos (by rw [Al.o];exact d1)]
  have b9:(300:Int)<(len:Int):=by omega
  clear FA hA;go_enter Tryz.func58,Tryz.ntmps58;go_wp2
  go_ret
  exact⟨rfl,bD _ _⟩
 have b9:¬(300:Int)<(len:Int):=by omega
 have FB:Aside (pC P=FL):=by
  show _=_;rw [←FA.o];unfold kN;rw [if_neg (by rw [Al.o];exact d1)]
 clear FA;go_enter Tryz.func58,Tryz.ntmps58;go_wp2
 go_loopw [25] (fun s wr=>∃i:Nat,s= .int .i64 i∧i≤len∧(∀C∈P.take i,C.flt=0)∧Bz w wr) (fun s _=>len-(intOf s).toNat)
 case atStart=>exact⟨0,rfl,bX _,by simp,bD _ _⟩
 case round=>
  obtain⟨wo,rfl⟩:=enr wr;obtain⟨i,rfl,hi,hz,hB⟩:=hrel
  by_cases c0:i<len
  case pos=>
   obtain⟨C,hC⟩:=egf Al.o c0;obtain⟨g,off,vh,vb,rfl,hg,hc,hvh,hvb⟩:=hA.o.1.read hC;have b3:Aside (∀w2,Bz w w2→Cz 120 #[.agg (jR vh vb C.vars).toArray] w2 fun e w'=>e= .returned (.int .i64 C.flt)∧Bz w2 w'):=fun w2 hb=>ZY C n w2 _ ⟨vh,vb,rfl,TmV.below hb hA.o.2 _ _ hvh,TmV.below hb hA.o.2 _ _ hvb⟩ (aD hA.o.2 hb.size)
   obtain⟨fl,hfl⟩:∃f,C.flt=f:=⟨_,rfl⟩;rw [hfl] at b3;have a0:=aside3 hz hC hfl;obtain⟨th,tb,vars⟩:=C;dsimp only at hc hvh hvb b3;obtain⟨k1,v1,nm1,g1,num1,den1,a9⟩:=th;obtain⟨k2,v2',nm2,g2,num2,den2,args2⟩:=tb;simp only [TmV] at hvh hvb;obtain⟨_,_,a1,c1,rfl,⟨⟨p1,q1,rfl,_⟩,⟨p2,q2,rfl,_⟩⟩,_⟩:=hvh;obtain⟨_,_,a2,c2,rfl,⟨⟨p3,q3,rfl,_⟩,⟨p4,q4,rfl,_⟩⟩,_⟩:=hvb;generalize a9.length=l1,num1.length=n1,den1.length=n2,args2.length=l2,num2.length=n3,den2.length=n4 at*;have d5:Aside (∀w2,Bz w w2→_):=fun(w2:Wo) (hb:Bz w w2)=>BW (hc.below hb (aR hg hA.o.2))
   replace b3:Aside (∀w2,Bz w w2→Cz 120 #[.agg (tC k1 v1 nm1 g1 p1 n1 q1 p2 n2 q2 a1 l1 c1 k2 v2' nm2 g2 p3 n3 q3 p4 n4 q4 a2 l2 c2 vars)] w2 fun e w'=>e= .returned (.int .i64 fl)∧Bz w2 w'):=b3;obtain⟨d7,hi3,hw3⟩:=elt (i:=i) (n:=len) (by omega) (by omega);clear hc hC hA hz hfl;obtain⟨x0,x1,x2,x3,x4,x5,x6,x7,x8,x9,x10,x11,x12,x13,x14⟩:=d5.o wo hB
   go_upto_region 6 with fail
   clear x0 x1 x2 x3 x4 x5 x6 x7 x8 x9 x10 x11 x12 x13 x14;obtain⟨wa,hwa⟩:=enm (wo.alloc (bC k1 v1 nm1 g1 p1 n1 q1 p2 n2 q2 a1 l1 c1 k2 v2' nm2 g2 p3 n3 q3 p4 n4 q4 a2 l2 c2 vars));have b0:=aC wo (bC k1 v1 nm1 g1 p1 n1 q1 p2 n2 q2 a1 l1 c1 k2 v2' nm2 g2 p3 n3 q3 p4 n4 q4 a2 l2 c2 vars);have hq:=aJ wo (bC k1 v1 nm1 g1 p1 n1 q1 p2 n2 q2 a1 l1 c1 k2 v2' nm2 g2 p3 n3 q3 p4 n4 q4 a2 l2 c2 vars);rw [hwa] at b0 hq ⊢;clear hwa;have b4:Bz w wa:=hB.trans (b0.mono hB.size);obtain⟨x0,x1,x2,x3,x4,x5,x6,x7,x8,x9,x10,x11,x12,x13,x14⟩:=pI hq;clear b0 hq
   go_wp2_with (go_at_call 120;with_reducible refine(b3.o _ b4).mono ?_)
   rintro e w1 ⟨rfl,hb⟩;have f1:Bz w w1:=b4.trans (hb.mono b4.size);clear hb x0 x1 x2 x3 x4 x5 x6 x7 x8 x9 x10 x11 x12 x13 x14 b4
   by_cases b6:fl=0
   case neg=>
    have e0:(fl !=0)=true:=by simpa using b6
    obtain rfl:FL=fl:=by
     rw [←FB.o,←a0.o.2.2];exact GF a0.o.2.1 a0.o.1 (by rw [a0.o.2.2];exact b6)
    clear b6;go_wp2
    go_ret
    exact⟨rfl,f1⟩
   subst b6;have d9:Aside (∀D∈P.take (i+1),D.flt=0):=by
    show∀D∈_,_;rw [lT,a0.o.2.1];intro D hD;rcases cG.1 hD with hD|hD
    ·exact a0.o.1 D hD
    ·simp at hD;subst hD;exact a0.o.2.2
   clear a0;go_wp2;go_roundw
   case rel=>exact⟨i+1,by simp,by omega,d9.o,f1⟩
   case measure=>simp [intOf];omega
  have d2:len=i:=by omega
  have a4:Aside (∀C∈P,C.flt=0):=by
   show∀C∈P,_;rw [←d2,←Al.o,vL] at hz;exact hz
  subst d2;obtain rfl:FL=0:=by rw [←FB.o];exact BT a4.o
  have d6:Aside (∀w2,Bz w w2→Cz 122 #[.slice a len c] w2 (GraphP w2 P)):=fun w2 hb=>Eg P n w2 a len c Al.o (by omega) (hA.o.1.below hb hA.o.2) a4.o (aD hA.o.2 hb.size)
  clear hz hA FB;have d8:∀w:Wo,(Instr.makeMap 163 none).run Tryz.prog w= .ok (.map (some w.heap.size)) (w.alloc (.map #[] 0)):=fun w=>rfl
  go_wp2
  go_loopw [37] (fun s wr=>s= .int .i64 0∧wr=wo) (fun _ _=>0)
  case atStart=>exact⟨rfl,rfl⟩
  case round=>
   obtain⟨rfl,rfl⟩:=hrel;obtain⟨wq,hwq⟩:∃wq,wq=wr:=⟨_,rfl⟩;have b8:=aQ.new (kv:=aO) wr 0;have b1:=aC wr (.map #[] 0);have b2:=aC (wr.alloc (.map #[] 0)) (.cells #[.map (some wr.heap.size)] 163);have q2:=aJ (wr.alloc (.map #[] 0)) (Obj.cells #[.map (some wr.heap.size)] 163);go_wp2;obtain⟨w3,hw3⟩:=enm ((wr.alloc (.map #[] 0)).alloc (.cells #[.map (some wr.heap.size)] 163));rw [hw3] at b2 q2 ⊢;obtain⟨mb,hmb⟩:∃x,wr.heap.size=x:=⟨_,rfl⟩;have d3:w3.heap.size=mb+1+1:=by rw [←hw3,cB,cB,hmb]
   rw [cB,hmb] at q2 b2;rw [hmb] at b8 b1 ⊢;have d0:mP w3 (mb+1) mb:=⟨q2,b8.of_block (b2.block mb (by omega))⟩;have c7:Aside (mP w3 (mb+1) mb∧Bz w w3∧w3.heap.size=mb+1+1):=⟨d0,hB.trans ((b1.trans (b2.mono (by omega))).mono (by rw [←hmb];exact hB.size)),d3⟩;clear d0 b8 b1 b2 q2 hw3 d3 d8
   go_loopw [51] (fun s wr=>s= .int .i64 0∧wr=w3) (fun _ _=>0)
   case atStart=>exact⟨rfl,rfl⟩
   case round=>
    obtain⟨rfl,hww⟩:=hrel;subst hww;have b7:=c7.o.2.1
    go_upto_region 23 with fail
    refine dZ ?_
    iterate 1 (refine bE rfl fun K hK=>?_;go_simp;refine hK _ _ ?_;clear hK)
    refine bE rfl fun K hK=>?_
    go_simp
    refine(d6.o _ b7).mono ?_;rintro e w4 ⟨v4,gb,L4,M4,rfl,hO4,hP4,hW4,hM4,hgb4,hv4,hn4,hB4⟩;refine hK _ _ ?_;clear hK;have a8:(cpt L4).length≤4000000:=by
     have q1:=cpt_le L4;have q2:=hP4.length_eq;have q3:=BQ a4.o;have q4:=Al.o;omega
    have c4:=ZX P a4.o (by rw [Al.o];omega) _ w4 v4 gb M4 (cpt L4) ⟨hM4,hv4,hn4⟩ hO4 a8;have f4:Bz w w4:=b7.trans (hB4.mono b7.size);have a3:Aside (mP w4 (mb+1) mb∧Bz w w4):=⟨c7.o.1.below hB4 (aA _),f4⟩;clear hO4 hP4 hW4 hM4 hgb4 hv4 hn4 hB4 a8 f4;refine bE rfl fun K hK=>?_
    go_simp
    refine c4.mono ?_;rintro e w5 ⟨v5,X5,LO,rfl,⟨b5,hO5⟩,hr5,hl5,hb5,hB5⟩;refine hK _ _ ?_;clear hK c4;obtain⟨a5,c5,rfl,hrd⟩:=iN hO5;obtain⟨nc,hnc⟩:∃x,LO.length=x:=⟨_,rfl⟩;rw [hnc] at hO5 ⊢;have a7:Aside (mP w5 (mb+1) mb∧Bz w w5∧LO.length=nc∧w5.ownsRow b5 127 1 (.slice a5 nc c5) nc X5∧(∀(k:Nat) L,LO[k]?=some L→∃u,X5[k]?=some u∧∃ba,aF ba w5 u L)∧(∀L∈LO,L.length≤4000000)∧nc≤4000000):=⟨a3.o.1.below hB5 (aA _),a3.o.2.trans (hB5.mono a3.o.2.size),hnc,hO5,hr5,hb5,by omega⟩;have e1:=a7.o.2.2.2.2.2.2;clear hO5 hr5 hb5 hB5 hl5 hrd hnc a3;go_wp2
    go_loopw [66] (fun s wr=>∃i:Nat,s= .int .i64 i∧i≤nc∧Bz w5 wr) (fun s _=>nc-(intOf s).toNat)
    case atStart=>exact⟨0,rfl,bX _,bD _ _⟩
    case round=>
     obtain⟨wo,rfl⟩:=enr wr;obtain⟨i,rfl,hi,hB⟩:=hrel;have d4:Aside (Bz w wo):=a7.o.2.1.trans (hB.mono a7.o.2.1.size)
     by_cases c0:i<nc
     case neg=>
      obtain rfl:i=nc:=by omega
      go_wp2
      go_ret
      exact⟨rfl,d4.o⟩
     obtain⟨L,hL⟩:=egf a7.o.2.2.1 c0;obtain⟨u,hu,ba,hOu⟩:=a7.o.2.2.2.2.1 i L hL;obtain⟨au,cu,rfl,_⟩:=hOu.read;obtain⟨a6,c6,e6,hr6⟩:=iN (gJ a7.o.2.2.2.1 hB (aA _));injection e6 with e7 e8 e9
     subst e7;clear e8 e9;obtain⟨g6,rfl,_,_,hc6⟩:=hr6.resolve_left (by omega);have z0:=hc6 i _ hu;have c9:=a7.o.2.2.2.2.2.1 L (aV hL);have c3:=Gs ba L au L.length cu wo (mb+1) mb rfl c9 (hOu.below hB (aA _)) (a7.o.1.below hB (aA _));obtain⟨lu,hlu⟩:∃x,L.length=x:=⟨_,rfl⟩;rw [hlu] at c3 z0;obtain⟨d7,hi3,hw5⟩:=elt (i:=i) (n:=nc) (by omega) (by omega);have c8:=aside hB;clear hc6 hr6 hOu hu hL hB hlu c9
     go_wp2_with (go_at_call 124;with_reducible refine c3.mono ?_;rintro e w6 ⟨rfl,hb6⟩)
     have f6:Bz w5 w6:=c8.o.trans (hb6.mono c8.o.size);go_roundw
     case rel=>exact⟨i+1,by simp,by omega,f6⟩
     case measure=>simp [intOf];omega
end
