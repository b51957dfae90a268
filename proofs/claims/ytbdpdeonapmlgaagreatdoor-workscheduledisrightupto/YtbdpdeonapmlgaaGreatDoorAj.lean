/- Lemmas; no condition. -/
import Derived.Test.YtbdpdeonapmlgaaGreatDoorAi
import Derived.Shelf.SlSortCmp.WholeK
import Derived.Shelf.SlSortCmp.NoneTotal
import Derived.Shelf.SlLaysF0
import Derived.Shelf.SlGeneric
import Derived.Shelf.SlSortCmp.Insertion
set_option linter.all false
set_option maxHeartbeats 8000000
set_option maxRecDepth 100000
namespace Go.Proofs.YtbdpdeonapmlgaaGreatDoor
open Go.RowKit Go.Big Go.RowsK Go.MapK
variable {M M0 M1 M2 M3:List (Ind × Value)} {P:List Cl} {v v0 u v5 x y:Value} {D D':Ind→List Ind} {b c i base:Nat} {L:List Ind} {w wx w2 w' wr:Wo} {C:Cl}
section
attribute [local go_sem] Heavy.uponW
def CpP (base:Nat) (w:Wo) (sv:Value) (L:List Ind) (e:Ending) (w':Wo):Prop:=
 ∃v,e= .returned v∧aF base w' v (cpt L)∧v.ownBlock=sv.ownBlock∧w.grownBy w' sv.ownBlock
def Gt (L:List Ind) (base:Nat) (w:Wo) (sv:Value) (hO:aF base w sv L) (b2:L.length≤1000000000):
  Cz 189 #[sv] w (CpP base w sv L):=by
 by_cases hs:L.length<2
 case pos=>
  obtain⟨a,c,rfl,_⟩:=hO.read;have hR:Aside (CpP base w (.slice a L.length c) L (.returned (.slice a L.length c)) w):=⟨_,rfl,by rw [RY hs];exact hO,rfl,BO _ _⟩;have c1:(L.length:Int)<2:=by omega
  generalize L.length=len at*;clear hO;go_enter Tryz.func189,Tryz.ntmps189;go_wp2
  go_ret
  exact hR.o
 obtain⟨g,c,rfl,hbg,hgl⟩:=hO.some (by intro e;subst e;simp at hs);obtain⟨len,hl⟩:=enm L.length;rw [hl] at hs b2 hO ⊢;have Al:=aside hl;have c1:¬(len:Int)<2:=by omega
 have b6:=aside hO;have d8:len≤c:=by
  obtain⟨_,⟨e,_⟩|⟨g',cap',cur,e,_,_,hnc,_⟩⟩:=hO
  ·cases e
  ·cases e;rw [←hl];exact hnc
 have c2:c≤maxLen:=by
  obtain⟨_,⟨e,_⟩|⟨g',cap',cur,e,_,_,hnc,hm,_⟩⟩:=hO
  ·cases e
  ·cases e;exact hm
 clear hO hl;go_enter Tryz.func189,Tryz.ntmps189;go_wp2
 go_loopw [3] (fun s wr=>∃i:Nat,s= .int .i64 ((i:Int)+1)∧i+1≤len∧cpt (L.take (i+1))=L.take (i+1)∧aF base wr (.slice (some ⟨g,0,none⟩) len c) L∧w.grownBy wr (some g)) (fun s _=>len-(intOf s).toNat)
 case atStart=>exact⟨0,by simp,by omega,by rw [RY (by rw [aX];omega)],b6.o,BO _ _⟩
 case round=>
  obtain⟨wo,rfl⟩:=enr wr;obtain⟨i,rfl,hi,hcp,hP,hG⟩:=hrel
  by_cases d9:i+1<len
  case neg=>
   obtain rfl:len=i+1:=by omega
   have hR:Aside (CpP base w (.slice (some ⟨g,0,none⟩) (i+1) c) L (.returned (.slice (some ⟨g,0,none⟩) (i+1) c)) wo):=⟨_,rfl,by rw [fH (by rw [Al.o];exact aA _)] at hcp;rw [hcp];exact hP,rfl,hG⟩;have c3:((i+1:Nat):Int)=(i:Int)+1:=by omega
   clear hcp hP hG;go_wp2
   go_ret
   exact hR.o
  obtain⟨⟨y,q⟩,hI0⟩:∃I,L[i]?=some I:=⟨L[i]'(by rw [Al.o];omega),bM _⟩;obtain⟨⟨x,p⟩,hI1⟩:∃I,L[i+1]?=some I:=⟨L[i+1]'(by rw [Al.o];omega),bM _⟩;have a3:Aside (∀w2,Bz wo w2→w2.cell? ⟨g,(i+1)*2,none⟩=some (.string x)∧w2.cell? ⟨g,(i+1)*2+1,none⟩=some (.int .i64 p)):=fun w2 hb=>(hP.below hb (aA _)).cells hI1
  have a4:Aside (∀w2,Bz wo w2→w2.cell? ⟨g,i*2,none⟩=some (.string y)∧w2.cell? ⟨g,i*2+1,none⟩=some (.int .i64 q)):=fun w2 hb=>(hP.below hb (aA _)).cells hI0
  have a2:=aside5 hP hG hcp hI0 hI1;have c4:((i:Int)+1)<(len:Int):=by omega
  have c5:(0:Int)≤(i:Int)+1:=by omega
  have c6:(i:Int)<(len:Int):=by omega
  have c8:(0:Int)≤(i:Int):=by omega
  have c7:((i:Int)+1).toNat=i+1:=by omega
  have c9:((i:Int)+1)≤(len:Int):=by omega
  have e0:IntKind.i64.wrap (i:Int)=(i:Int):=by rw [dX];omega
  have e2:IntKind.i64.wrap ((i:Int)+1+1)=(i:Int)+1+1:=by rw [dX];omega
  have b1:=qN x y p q;have e7:=sH;obtain⟨D,hD⟩:=enm (decide ((x,p)=(y,q)));rw [hD] at b1;have DA:=aside hD;clear hP hG hcp hI0 hI1 hD
  go_upto_region 6 with fail
  have a9:Bz wo wo.drew:=dO _ _;refine hRp (Bz wo) 9 (Heavy.lights [0,1,2,3,4,5,6,7,8] .done) (by kernel_rfl) (by kernel_rfl) a9 ?_;simp only [Heavy.lights,bL,bY,aZ,bG]
  iterate 3 ((apply hLm;(exact rfl);(exact rfl);(intro a0 hw;go_simp;exact rfl);(go_simp;exact rfl)))
  (apply hLm;(exact rfl);(exact rfl);(intro a0 hw;have z0:=(a3.o a0 hw).1;have z1:=(a3.o a0 hw).2;go_simp;exact rfl);(go_simp;exact rfl))
  iterate 4 ((apply hLm;(exact rfl);(exact rfl);(intro a0 hw;go_simp;exact rfl);(go_simp;exact rfl)))
  (apply hLm;(exact rfl);(exact rfl);(intro a0 hw;have z0:=(a4.o a0 hw).1;have z1:=(a4.o a0 hw).2;go_simp;exact rfl);(go_simp;exact rfl))
  apply hPe;show wpList _ _ _ _ _ _;cases D
  case false=>
   have a5:Aside (cpt (L.take (i+1+1))=L.take (i+1+1)):=by
    show _=_;have e:=DA.o;rw [vI] at e;rw [CE a2.o.2.2.2.1 a2.o.2.2.2.2,if_neg e,a2.o.2.2.1,lT (i:=i+1),a2.o.2.2.2.2];rfl
   have b3:=a2.o.1.drew;have b0:=sI a2.o.2.1 (GC wo (some g));go_wp2;go_roundw
   case rel=>exact⟨i+1,by simp,by omega,a5.o,b3,b0⟩
   case measure=>simp [intOf];omega
  case true=>
   have a6:Aside (aF base wo.drew (.slice (some ⟨g,0,none⟩) len c) L∧L.take (i+1)=cpt (L.take (i+1+(0+1)))∧w.grownBy wo.drew (some g)):=⟨a2.o.1.drew,by
    have e:=DA.o;rw [iF] at e;rw [CE a2.o.2.2.2.1 a2.o.2.2.2.2,if_pos e,a2.o.2.2.1],sI a2.o.2.1 (GC wo (some g))⟩
   clear DA a4 a3;obtain⟨m,hm⟩:=enm (len-(i+1));have a7:=aside hm;go_wp2;clear hm b1
   go_loopw [3,5] (fun s3 s5 a0=>∃(j r:Nat) (S:List Ind),s3= .int .i64 (j:Int)∧s5= .int .i64 ((r:Int)+1)∧r+1≤m∧j≤i+1+r∧S.length=len∧aF base a0 (.slice (some ⟨g,0,none⟩) len c) S∧S.take j=cpt (L.take (i+1+(r+1)))∧(∀t,i+1+r≤t→S[t]?=L[t]?)∧w.grownBy a0 (some g)) (fun _ s _=>len-(intOf s).toNat)
   case atStart=>exact⟨i+1,0,L,by simp,by simp,by have:=a7.o;omega,by omega,Al.o,a6.o.1,a6.o.2.1,fun _ _=>rfl,a6.o.2.2⟩
   case round=>
    obtain⟨wp,rfl⟩:=enr wr;obtain⟨j,r,S,rfl,rfl,hr,hjr,hSl,hS,hSc,hSt,hGp⟩:=hrel
    by_cases b9:r+1<m
    case neg=>
     have hm:=a7.o;clear a7;obtain rfl:m=r+1:=by omega
     obtain⟨w9,hcl,hO9,hg9,_⟩:=hS.clear hSl (k:=j) (by omega) 0 (c-j);have hR:Aside (CpP base w (.slice (some ⟨g,0,none⟩) len c) L (.returned (.slice (some ⟨g,0,none⟩) j c)) w9):=⟨_,rfl,by
      have e1:i+1+(r+1)=len:=by omega
      rw [hSc,e1,fH (by rw [Al.o];exact aA _)] at hO9;exact hO9,rfl,sI hGp hg9⟩
     have d0:(j:Int)≤(len:Int):=by omega
     have b7:(j:Int)≤(c:Int):=by omega
     have b8:(0:Int)≤(j:Int):=by omega
     clear hS hSc hSt hGp hO9 hg9;go_wp2
     go_ret
     exact hR.o
    have c0:=a7.o;obtain⟨⟨y2,q2⟩,hI0⟩:∃I,L[i+1+r]?=some I:=⟨L[i+1+r]'(by rw [Al.o];omega),bM _⟩;obtain⟨⟨x2,p2⟩,hI1⟩:∃I,L[i+1+r+1]?=some I:=⟨L[i+1+r+1]'(by rw [Al.o];omega),bM _⟩;have a3:Aside (∀w2,Bz wp w2→w2.cell? ⟨g,(i+1)*2+(r+1)*2,none⟩=some (.string x2)∧w2.cell? ⟨g,(i+1)*2+(r+1)*2+1,none⟩=some (.int .i64 p2)):=fun w2 hb=>by
     have:=(hS.below hb (aA _)).cells ((hSt (i+1+r+1) (by omega)).trans hI1);rw [show(i+1+r+1)*2=(i+1)*2+(r+1)*2 by omega] at this;exact this
    have a4:Aside (∀w2,Bz wp w2→w2.cell? ⟨g,(i+1)*2+r*2,none⟩=some (.string y2)∧w2.cell? ⟨g,(i+1)*2+r*2+1,none⟩=some (.int .i64 q2)):=fun w2 hb=>by
     have:=(hS.below hb (aA _)).cells ((hSt (i+1+r) (by omega)).trans hI0);rw [show(i+1+r)*2=(i+1)*2+r*2 by omega] at this;exact this
    have a1:=aside7 hS hGp hSc hSt hSl hI0 hI1;have d1:((r:Int)+1)<(m:Int):=by omega
    have d2:(0:Int)≤(r:Int)+1:=by omega
    have d3:(r:Int)<(m:Int):=by omega
    have d5:(0:Int)≤(r:Int):=by omega
    have d4:((r:Int)+1).toNat=r+1:=by omega
    have e3:IntKind.i64.wrap (r:Int)=(r:Int):=by rw [dX];omega
    have e4:IntKind.i64.wrap ((r:Int)+1+1)=(r:Int)+1+1:=by rw [dX];omega
    have e6:=ewr (i:=j) (by omega);have d6:(j:Int)<(len:Int):=by omega
    have d7:(0:Int)≤(j:Int):=by omega
    have b4:j<len:=by omega
    have b1:=qN x2 y2 p2 q2;obtain⟨D,hD⟩:=enm (decide ((x2,p2)=(y2,q2)));rw [hD] at b1;have DA:=aside hD;clear hS hGp hSc hSt hSl hI0 hI1 hD c0
    go_upto_region 11 with fail
    have a9:Bz wp wp.drew:=dO _ _;refine hRp (Bz wp) 9 (Heavy.lights [0,1,2,3,4,5,6,7,8] .done) (by kernel_rfl) (by kernel_rfl) a9 ?_;simp only [Heavy.lights,bL,bY,aZ,bG]
    iterate 3 ((apply hLm;(exact rfl);(exact rfl);(intro a0 hw;go_simp;exact rfl);(go_simp;exact rfl)))
    (apply hLm;(exact rfl);(exact rfl);(intro a0 hw;have z0:=(a3.o a0 hw).1;have z1:=(a3.o a0 hw).2;go_simp;exact rfl);(go_simp;exact rfl))
    iterate 4 ((apply hLm;(exact rfl);(exact rfl);(intro a0 hw;go_simp;exact rfl);(go_simp;exact rfl)))
    (apply hLm;(exact rfl);(exact rfl);(intro a0 hw;have z0:=(a4.o a0 hw).1;have z1:=(a4.o a0 hw).2;go_simp;exact rfl);(go_simp;exact rfl))
    apply hPe;show wpList _ _ _ _ _ _;have b0:=sI a1.o.2.1 (GC wp (some g));have a8:=aside b0;clear b0;cases D
    case true=>
     have a5:Aside (S.take j=cpt (L.take (i+1+(r+1+1)))):=by
      show _=_;have e:=DA.o;rw [iF] at e;rw [show i+1+(r+1+1)=i+1+r+1+1 by omega,CE a1.o.2.2.2.2.2.1 a1.o.2.2.2.2.2.2,if_pos e,a1.o.2.2.1];rfl
     have b3:=a1.o.1.drew;go_wp2;go_roundw
     case rel=>exact⟨j,r+1,S,rfl,by simp,by omega,by omega,a1.o.2.2.2.2.1,b3,a5.o,fun t ht=>a1.o.2.2.2.1 t (by omega),a8.o⟩
     case measure=>
      have:=a7.o;simp [intOf];omega
    case false=>
     obtain⟨w9,hst1,hP9,hg9,_⟩:=a1.o.1.drew.store (i:=j) (J:=(x2,p2)) a1.o.2.2.2.2.1 b4;have a5:Aside (aF base w9 (.slice (some ⟨g,0,none⟩) len c) (S.set j (x2,p2))∧(S.set j (x2,p2)).take (j+1)=cpt (L.take (i+1+(r+1+1)))∧w.grownBy w9 (some g)):=by
      refine⟨hP9,?_,sI a8.o hg9⟩;have e:=DA.o;rw [vI] at e;rw [show i+1+(r+1+1)=i+1+r+1+1 by omega,CE a1.o.2.2.2.2.2.1 a1.o.2.2.2.2.2.2,if_neg e,lT,List.take_set_of_le (aA _),a1.o.2.2.1];rw [VY (by rw [a1.o.2.2.2.2.1];exact b4)];rfl
     obtain⟨z0,z1⟩:=a3.o wp.drew a9;clear hP9 hg9 DA a3 a4;have b5:=YY hst1;clear hst1;dsimp only at b5
     go_upto_region 12 with fail
     refine dZ ?_
     iterate 7 (refine bE rfl fun K hK=>?_;go_simp;refine hK _ _ ?_;clear hK)
     refine eR rfl 63 _ _ rfl (v:=.pointer (some ⟨g,j*2,none⟩)) (u:=.agg #[.string x2,.int .i64 p2]) rfl rfl b5 ?_;go_wp2;go_roundw
     case rel=>exact⟨j+1,r+1,_,by simp,by simp,by omega,by omega,by rw [yU];exact a1.o.2.2.2.2.1,a5.o.1,a5.o.2.1,fun t ht=>by rw [VZ (by omega)];exact a1.o.2.2.2.1 t (by omega),a5.o.2.2⟩
     case measure=>
      have:=a7.o;simp [intOf];omega
end
def OffG (v:Value) (M:List (Ind × Value)) (q:Nat):Prop:=v.ownBlock≠Option.some q∧∀k u,aL k M=Option.some u→u.ownBlock≠Option.some q
structure GK (b c:Nat) (wx:Wo) (v0:Value) (M0:List (Ind × Value)) (wr:Wo) (v:Value) (M:List (Ind × Value)):Prop where
 os:wr.os=wx.os
 tape:wr.tape=wx.tape
 output:wr.output=wx.output
 size:wx.heap.size≤wr.heap.size
 blk:∀g,g<wx.heap.size→g≠b→g≠c→OffG v0 M0 g→wr.heap[g]?=wx.heap[g]?
 off:∀g,g<wx.heap.size→OffG v0 M0 g→OffG v M g
def GK.refl (b c:Nat) (w:Wo) (v:Value) (M:List (Ind × Value)):GK b c w v M w v M:=⟨rfl,rfl,rfl,aA _,fun _ _ _ _ _=>rfl,fun _ _ h=>h⟩
def GK.trans {w1 w3:Wo} {v1 v2 v3:Value} (h:GK b c w1 v1 M1 w2 v2 M2) (k:GK b c w2 v2 M2 w3 v3 M3):GK b c w1 v1 M1 w3 v3 M3:=
 ⟨k.os.trans h.os,k.tape.trans h.tape,k.output.trans h.output,aD h.size k.size,fun g hg h1 h2 ho=>(k.blk g (aR hg h.size) h1 h2 (h.off g hg ho)).trans (h.blk g hg h1 h2 ho),fun g hg ho=>k.off g (aR hg h.size) (h.off g hg ho)⟩
def GK.below {m:Nat} (h:GK b c wx v0 M0 wr v M) (hb:Below m wr w') (hm:wr.heap.size≤m):GK b c wx v0 M0 w' v M:=
 ⟨hb.os.trans h.os,hb.tape.trans h.tape,hb.output.trans h.output,aD h.size hb.size,fun g hg h1 h2 ho=>(hb.block g (aR hg (aD h.size hm))).trans (h.blk g hg h1 h2 ho),h.off⟩
def GK.cell (h:GK b c wx v0 M0 wr v M) (hg:wr.grownBy w' (Option.some c)):GK b c wx v0 M0 w' v M:=
 ⟨hg.os.trans h.os,hg.tape.trans h.tape,hg.output.trans h.output,aD h.size hg.size,fun g hl h1 h2 ho=>(hg.block g (aR hl h.size) (fun e=>h2 (aK e))).trans (h.blk g hl h1 h2 ho),h.off⟩
def GK.push {w5:Wo} {o:Obj} (h:GK b c wx v0 M0 w2 v M) (hg:(w2.alloc o).grownBy w5 v.ownBlock) (hv:v5.ownBlock=v.ownBlock∨v5.ownBlock=Option.some (w2.alloc o).heap.size):GK b c wx v0 M0 w5 v5 M:=by
 have hb:=aC w2 o;refine⟨hg.os.trans (hb.os.trans h.os),hg.tape.trans (hb.tape.trans h.tape),hg.output.trans (hb.output.trans h.output),aD h.size (aD hb.size hg.size),fun g hl h1 h2 ho=>?_,fun g hl ho=>⟨?_,(h.off g hl ho).2⟩⟩
 ·have a1:=aR hl h.size;exact(hg.block g (aR a1 hb.size) (fun e=>(h.off g hl ho).1 e.symm)).trans ((hb.block g a1).trans (h.blk g hl h1 h2 ho))
 ·rcases hv with e|e
  ·rw [e];exact(h.off g hl ho).1
  ·rw [e];intro e2;have e2:=aK e2;have hs:=h.size;rw [cB] at e2;omega
def GK.pushAt {w6:Wo} {k:Ind} (h:GK b c wx v0 M0 w2 v M) (a6:w6.os=w2.os) (a9:w6.tape=w2.tape) (a7:w6.output=w2.output) (a8:w2.heap.size≤w6.heap.size) (hu:(aL k M).getD (.slice none 0 0)=u)
  (hg:∀g,g<w2.heap.size→g≠b→u.ownBlock≠Option.some g→w6.heap[g]?=w2.heap[g]?) (hv:v5.ownBlock=u.ownBlock∨∃g,v5.ownBlock=Option.some g∧w2.heap.size≤g):GK b c wx v0 M0 w6 v (putM k v5 M):=by
 have a2:∀g,OffG v M g→u.ownBlock≠Option.some g:=fun g ho=>by
  cases hk:aL k M with
  |none=>rw [hk] at hu;simp at hu;subst hu;simp [Value.ownBlock]
  |some u'=>rw [hk] at hu;simp at hu;subst hu;exact ho.2 _ _ hk
 refine⟨a6.trans h.os,a9.trans h.tape,a7.trans h.output,aD h.size a8,fun g hl h1 h2 ho=>?_,fun g hl ho=>⟨(h.off g hl ho).1,fun k' u' a0=>?_⟩⟩
 ·exact(hg g (aR hl h.size) h1 (a2 g (h.off g hl ho))).trans (h.blk g hl h1 h2 ho)
 ·by_cases e:k'=k
  ·subst e;rw [oJ] at a0;injection a0 with a0;subst a0
   rcases hv with e|⟨g',e,hge⟩
   ·rw [e];exact a2 g (h.off g hl ho)
   ·rw [e];intro e2;have e2:=aK e2;have:=h.size;omega
  ·rw [nC e] at a0;exact(h.off g hl ho).2 _ _ a0
def AC (g:Nat):OffG (.slice none 0 0) [] g:=⟨by simp [Value.ownBlock],fun k u h=>by simp [aL] at h⟩
def Ao (h:GrI base w b v L M D) {q:Nat} (hq:w.heap.size≤q):OffG v M q:=
 ⟨fun e=>by have:=(cF h.row q e).2;omega,fun k u hk e=>by have:=(cF (h.val k u hk).1 q e).2;omega⟩
def GrI.congr (h:GrI base w b v L M D) (e:∀k,D k=D' k):GrI base w b v L M D':=by
 have:D=D':=funext e;exact this▸h
def fE (P:List Cl):List Ind:=P.flatMap fun C=>C.h.ind::C.atoms
def Ek (h:P[i]?=some C):fE (P.take (i+1))=fE (P.take i)++(C.h.ind::C.atoms):=by
 unfold fE;rw [lT,h];simp
def BQ (hF:∀C∈P,C.flt=0):(fE P).length≤P.length*10001:=by
 induction P with
 |nil=>simp [fE]
 |cons C r ih=>
  have h1:=CM (hF C (by simp));have h2:C.atoms.length≤C.b.lits.length:=JG _ _;have h3:=ih fun D hD=>hF D (by simp [hD])
  simp only [fE,pR,aI,eW] at h3 ⊢;omega
def GQ (hF:∀C∈P,C.flt=0) (k:Ind):(cE P k).length≤P.length*10000:=by
 induction P with
 |nil=>simp [cE]
 |cons C r ih=>
  have h1:=CM (hF C (by simp));have h2:C.atoms.length≤C.b.lits.length:=JG _ _;have h3:=ih fun D hD=>hF D (by simp [hD])
  have h4:(lP k C).length≤C.atoms.length:=by unfold lP;split<;>simp
  simp only [cE,pR,aI,eW] at h3 ⊢;omega
def iR (P:List Cl) (i:Nat) (h:Ind) (A:List Ind) (k:Ind):List Ind:=cE (P.take i) k++if h=k then A else []
def Gf (P:List Cl) (i:Nat) (h k:Ind):iR P i h [] k=cE (P.take i) k:=by simp [iR]
def Gg (h:P[i]?=some C) (k:Ind):iR P i C.h.ind C.atoms k=cE (P.take (i+1)) k:=by
 rw [Gd h];rfl
def Ge (P:List Cl) (i:Nat) (h:Ind) (A:List Ind) (x:Ind) (k:Ind):(if k=h then iR P i h A h++ [x] else iR P i h A k)=iR P i h (A++ [x]) k:=by
 by_cases e:k=h
 ·subst e;simp [iR]
 ·have:¬h=k:=fun q=>e q.symm
  simp [iR,e,this]
def KQ (hc:w.heap[c]?=some (.cells #[x,y] 168 (0,0))) (h1:u.oneCell'=true) (a4:u.cells=#[u]):
  ∃w1,(Instr.storeAt 127 (.pointer (some ⟨c,0,none⟩)) u).run Tryz.prog w= .ok () w1∧w1.heap[c]?=some (.cells #[u,y] 168 (0,0))∧w.grownBy w1 (some c)∧w1.heap.size=w.heap.size:=by
 obtain⟨i0,hi,hz1⟩:∃i,Tryz.prog.info? 127=some i∧i.size=1:=by
  have h:=show(Tryz.prog.info? 127).map (fun i=>i.size)=some 1 by kernel_rfl
  rw [tG] at h;exact h
 have hs:∀W,(Go.sizeOf 127).run Tryz.prog W= .ok 1 W:=fun W=>by simp [Go.sizeOf,typeInfo,hi,hz1]
 have ha:(Instr.sureAddr (.pointer (some ⟨c,0,none⟩))).run Tryz.prog w= .ok ⟨c,0,none⟩ w:=rfl;have a3:=yH (P:=Tryz.prog) c 0 168 [u] 0 #[x,y] w hc (by simp) (by simpa using h1);refine⟨w.setRow c #[u,y],?_,tF _ _ _ _ _ _ hc,⟨rfl,rfl,rfl,by simp [World.setRow],fun j hj a5=>vG _ _ _ _ fun(e:j=c)=>a5 (by rw [e])⟩,by simp [World.setRow]⟩;unfold Instr.storeAt;simp at a3;simp [storeVar,ha,hs,a4,a3]
end Go.Proofs.YtbdpdeonapmlgaaGreatDoor
namespace Go.Proofs
open Go.Shelf
def Tryz.sortL_ren:Go.Shelf.Ren:=⟨fun|6=>187|15=>179|14=>245|28=>240|29=>241|20=>275|21=>276|22=>277|23=>278|24=>279|25=>280|26=>281|27=>282|46=>322|47=>271|48=>272|49=>323|50=>324|57=>346|n=>n,fun|22=>127|24=>63|25=>224|3=>3|39=>211|0=>0|53=>175|55=>263|4=>4|46=>256|45=>255|50=>151|5=>5|9=>9|66=>298|70=>302|76=>346|77=>68|n=>n,fun|n=>n⟩
def Tryz.sortL:Go.Proofs.SlLaysF0.n6 Tryz.prog Tryz.sortL_ren:={
 mixed:=by kernel_rfl
 f6:=⟨Tryz.f187.name,by decide,Tryz.func187.trans (eT some (by kernel_rfl))⟩
 f14:=⟨Tryz.f245.name,by decide,Tryz.func245.trans (eT some (by kernel_rfl))⟩
 f15:=Tryz.func179.trans (eT some (by kernel_rfl))
 f20:=⟨Tryz.f275.name,by decide,Tryz.func275.trans (eT some (by kernel_rfl))⟩
 f21:=⟨Tryz.f276.name,by decide,Tryz.func276.trans (eT some (by kernel_rfl))⟩
 f22:=⟨Tryz.f277.name,by decide,Tryz.func277.trans (eT some (by kernel_rfl))⟩
 f23:=⟨Tryz.f278.name,by decide,Tryz.func278.trans (eT some (by kernel_rfl))⟩
 f24:=⟨Tryz.f279.name,by decide,Tryz.func279.trans (eT some (by kernel_rfl))⟩
 f25:=⟨Tryz.f280.name,by decide,Tryz.func280.trans (eT some (by kernel_rfl))⟩
 f26:=⟨Tryz.f281.name,by decide,Tryz.func281.trans (eT some (by kernel_rfl))⟩
 f27:=⟨Tryz.f282.name,by decide,Tryz.func282.trans (eT some (by kernel_rfl))⟩
 f28:=Tryz.func240.trans (eT some (by kernel_rfl))
 f29:=Tryz.func241.trans (eT some (by kernel_rfl))
 f46:=⟨Tryz.f322.name,by decide,Tryz.func322.trans (eT some (by kernel_rfl))⟩
 f47:=Tryz.func271.trans (eT some (by kernel_rfl))
 f48:=Tryz.func272.trans (eT some (by kernel_rfl))
 f49:=⟨Tryz.f323.name,by decide,Tryz.func323.trans (eT some (by kernel_rfl))⟩
 f50:=⟨Tryz.f324.name,by decide,Tryz.func324.trans (eT some (by kernel_rfl))⟩
 f57:=⟨Tryz.f346.name,by decide,Tryz.func346.trans (eT some (by kernel_rfl))⟩
 t0:=Tryz.underlying0
 a0:=Tryz.isAgg0
 z0:=Tryz.sizeOf0
 v0:=Tryz.zeroValue0
 t3:=Tryz.underlying3
 a3:=Tryz.isAgg3
 z3:=Tryz.sizeOf3
 v3:=Tryz.zeroValue3
 t4:=Tryz.underlying4
 a4:=Tryz.isAgg4
 z4:=Tryz.sizeOf4
 v4:=Tryz.zeroValue4
 t5:=Tryz.underlying5
 a5:=Tryz.isAgg5
 z5:=Tryz.sizeOf5
 v5:=Tryz.zeroValue5
 t9:=Tryz.underlying9
 a9:=Tryz.isAgg9
 z9:=Tryz.sizeOf9
 v9:=Tryz.zeroValue9
 t22:=Tryz.underlying127
 a22:=Tryz.isAgg127
 z22:=Tryz.sizeOf127
 v22:=Tryz.zeroValue127
 t25:=Tryz.underlying224
 a25:=Tryz.isAgg224
 z25:=Tryz.sizeOf224
 v25:=Tryz.zeroValue224
 t39:=Tryz.underlying211
 a39:=Tryz.isAgg211
 z39:=Tryz.sizeOf211
 v39:=Tryz.zeroValue211
 t45:=Tryz.underlying255
 a45:=Tryz.isAgg255
 z45:=Tryz.sizeOf255
 v45:=Tryz.zeroValue255
 t46:=Tryz.underlying256
 a46:=Tryz.isAgg256
 z46:=Tryz.sizeOf256
 v46:=Tryz.zeroValue256
 t50:=Tryz.underlying151
 a50:=Tryz.isAgg151
 z50:=Tryz.sizeOf151
 v50:=Tryz.zeroValue151
 t53:=Tryz.underlying175
 a53:=Tryz.isAgg175
 z53:=Tryz.sizeOf175
 v53:=Tryz.zeroValue175
 t55:=Tryz.underlying263
 a55:=Tryz.isAgg263
 z55:=Tryz.sizeOf263
 v55:=Tryz.zeroValue263
 t66:=Tryz.underlying298
 a66:=Tryz.isAgg298
 z66:=Tryz.sizeOf298
 v66:=Tryz.zeroValue298
 t70:=Tryz.underlying302
 a70:=Tryz.isAgg302
 z70:=Tryz.sizeOf302
 v70:=Tryz.zeroValue302
 t76:=Tryz.underlying346
 a76:=Tryz.isAgg346
 z76:=Tryz.sizeOf346
 v76:=Tryz.zeroValue346
 t77:=Tryz.underlying68
 a77:=Tryz.isAgg68
 z77:=Tryz.sizeOf68
 v77:=Tryz.zeroValue68 }
end Go.Proofs
namespace Go.Proofs.YtbdpdeonapmlgaaGreatDoor
open Go.RowKit Go.Sort Go.RowsK
def OR (x y:Ind):ltOf pH x y=true↔jP x y:=by
 unfold ltOf;rw [IK];exact He
def FJ (x y:Ind):ltOf pH x y=false↔¬jP x y:=by
 rw [←OR];cases ltOf pH x y<;>simp
def swoI:SWO (ltOf pH) where
 irrefl x:=by rw [FJ];exact Dt x
 trans x y z h1 h2:=by rw [OR] at*;exact QB h1 h2
 ntrans x y z h1 h2:=by
  rw [FJ] at*;intro h;rcases Ds x y with h3|h3|h3
  ·exact h1 h3
  ·subst h3;exact h2 h
  ·exact h2 (QB h3 h)
def BJ (x:Ind):(bO x).length=2:=rfl
def QV:∀(X:List Ind) (j c:Nat) (x:Ind),X[j]?=some x→c<2→(X.flatMap bO)[j*2+c]?=(bO x)[c]?
 | [],j,c,x,h,_=>by simp at h
 |y::X,0,c,x,h,hc=>by
  obtain rfl:y=x:=by simpa using h
  rw [pR,pM,bT,dW (by rw [BJ];exact hc)]
 |y::X,j+1,c,x,h,hc=>by
  have ih:=QV X j c x (by simpa using h) hc;rw [pR,dK (by rw [BJ];omega),BJ,←ih];congr 1;omega
instance:Inhabited Ind:=⟨(⟨#[]⟩,0)⟩
def QU (X:List Ind):flatK bO 2 X.toArray=(X.flatMap bO).toArray:=by
 refine ext_get! (by simp only [size_flatK,tH,flat_len]) fun t ht=>?_
 have a9:t<X.length*2:=by simpa using ht
 rw [get_flatK _ _ _ t (by simpa using a9)];have hj:t/2<X.length:=by omega
 have h:=QV X (t/2) (t%2) X[t/2] (bM hj) (by omega);rw [show t/2*2+t%2=t by omega] at h;have hl:t<(X.flatMap bO).length:=by rw [flat_len];exact a9
 rw [vH X.toArray (t/2) (by simpa using hj),vH (X.flatMap bO).toArray t (by simpa using hl)];rw [bM hl] at h;have hc:t%2<(bO (X[t/2])).length:=by rw [BJ];omega
 rw [bM hc] at h;simp only [List.getElem_toArray];rw [vH (bO (X[t/2])) (t%2) hc];exact(aK h).symm
def Hb (blk off size:Nat) (w:Wo):CmpLays Tryz.prog 188 #[] bO 2 pH blk off size w:=
 fun _ _ _ _ x y=>Hd x.1 y.1 x.2 y.2 _
def SortJ (base:Nat) (w:Wo) (sv:Value) (L:List Ind) (e:Ending) (w':Wo):Prop:=
 e= .returned (.tuple #[])∧∃L',aF base w' sv L'∧L'.Perm L∧L'.Pairwise (fun a b=>¬jP b a)∧w.grownBy w' sv.ownBlock
def XX (p:Option Addr) (cap:Nat) (fv:Value) (w:Wo):Cz 187 #[.slice p 0 cap,fv] w fun e w'=>e= .returned (.tuple #[])∧w'=w:=
 AnyF.slices_SortFunc_none Tryz.sortL p cap fv w
def XY (L:List Ind) (base:Nat) (w:Wo) (sv:Value) (hO:aF base w sv L) (b1:L.length≤1000000000):
  Cz 187 #[sv,.func (.func 188) #[] #[]] w (SortJ base w sv L):=by
 by_cases hL:L= []
 ·subst hL;obtain⟨a,c,rfl,_⟩:=hO.read;refine(XX a c _ w).mono ?_;rintro e w' ⟨rfl,rfl⟩;exact⟨rfl,[],hO,List.Perm.refl _,by simp,BO _ _⟩
 have b8:=hO;obtain⟨h1,⟨_,h0⟩|⟨g,cap,cur,rfl,hb,hg,hn,hm,hs,ht⟩⟩:=hO
 ·exact absurd (DF.1 h0) hL
 have a7:g<w.heap.size:=(aG.1 hg).1;have hH:HoldsK bO 2 w g 0 L.toArray:=by
  intro j hj;rw [QU] at hj ⊢;have a6:j<L.length*2:=by rw [tH,flat_len] at hj;exact hj
  have a5:cur[j]?=some ((L.flatMap bO).toArray[j]!):=by
   rw [←gP,←iY a6,ht,vH _ j hj];rw [bM (by simpa using hj)];simp
  constructor
  ·simpa [World.cell?,hg] using a5
  ·simp [World.frozen?,hg]
 have a1:=AnyQ.slices_SortFunc Tryz.sortL 2 Tryz.isAgg63 Tryz.sizeOf63 bO (fun _=>rfl) (fun x v hv=>by simp [bO] at hv;rcases hv with rfl|rfl<;>rfl) pH swoI 188 #[] g 0 cap L.toArray w (enters_of Tryz.func188 (by kernel_rfl) rfl) (Hb g 0 _ w) hH a7 (by simp;omega);rw [tH] at a1;refine a1.mono ?_;rintro e w' ⟨rfl,d',n,os,hp,hso,rfl⟩;have a3:d'.size=L.length:=by have:=hp.1;simpa using this
 have k1:HoldsK bO 2 (putRowK bO 2 (Sort.ahead w n) g 0 d') g 0 d':=holdsK_putRowK _ _ _ _ _ L.toArray _ (holdsK_ahead _ _ w n _ _ _ hH) (by simpa using a3);have b0:g<(putRowK bO 2 (Sort.ahead w n) g 0 d').heap.size:=by unfold putRowK;rw [size_putRow];exact a7
 have k2:HoldsK bO 2 (sortWorldK bO 2 w g 0 n d' os) g 0 d':=holdsK_grow _ _ _ os _ _ _ b0 k1;have b3:w.grownBy (sortWorldK bO 2 w g 0 n d' os) (some g):=by
  refine⟨rfl,rfl,rfl,?_,fun k hk b7=>?_⟩
  ·unfold sortWorldK putRowK;rw [size_grow,size_putRow];show w.heap.size≤(Sort.ahead w n).heap.size+_;simp [Sort.ahead]
  ·unfold sortWorldK putRowK putRow mapBlock grow;show(Array.modify w.heap g _++os)[k]?=_;have b6:g≠k:=fun e=>b7 (by rw [e])
   rw [Ln,if_pos (by simpa using hk),mY,if_neg b6]
 obtain⟨a0,hg',hs'⟩:∃a0,(sortWorldK bO 2 w g 0 n d' os).heap[g]?=some (.cells a0 63 (0,0))∧a0.size=cur.size:=by
  refine⟨putCells id 0 (flatK bO 2 d') cur,?_,by simp [putCells]⟩;unfold sortWorldK putRowK putRow mapBlock grow;show(Array.modify w.heap g _++os)[g]?=_;rw [Ln,if_pos (by simpa using a7),mY,if_pos rfl,hg];rfl
 refine⟨rfl,d'.toList,?_,?_,?_,b3⟩
 ·have a4:d'.toList.length=L.length:=by simpa using a3
  unfold aF;rw [a4];refine⟨by rw [flat_len,a4],.inr ⟨g,cap,a0,rfl,hb,hg',hn,hm,by rw [hs',hs],?_⟩⟩;apply JL;intro t
  by_cases a8:t<L.length*2
  ·rw [iY a8];have b2:flatK bO 2 d'=(d'.toList.flatMap bO).toArray:=by
    have:=QU d'.toList;simpa using this
   have hc:=(k2 t (by rw [size_flatK,a3];exact a8)).1;rw [b2] at hc;have a2:t<(d'.toList.flatMap bO).length:=by rw [flat_len,a4];exact a8
   rw [vH _ t (by simpa using a2)] at hc;rw [bM a2];simpa [World.cell?,hg'] using hc
  ·rw [pQ (by rw [aX];omega),pQ (by rw [flat_len,a4];omega)]
 ·have h3:=hp.2.2;rw [←a3,Lo] at h3;have e2:(L.toArray.extract 0 d'.size).toList=L:=by
   rw [a3,←tH,Lo]
  rw [e2] at h3;exact h3
 ·rw [Kp];intro i j hi hj b5;have a6:j<d'.size:=by simpa using hj
  have b4:i<d'.size:=by simpa using hi
  have:=hso i j (bX _) b5 (by omega);rw [vH d' j a6,vH d' i b4] at this;simpa using (FJ _ _).1 this
end Go.Proofs.YtbdpdeonapmlgaaGreatDoor
namespace Go.Proofs.YtbdpdeonapmlgaaGreatDoor
open Go.RowKit Go.Big Go.RowsK Go.MapK
variable {D D':Ind→List Ind} {M M0 M':List (Ind × Value)} {L L':List Ind} {v v0 u v3 v5 y:Value} {base gc mb q st n:Nat} {wx wr w w2 w3 wb:Wo} {x:ByteArray} {m:Int} {T:Tm} {k:Ind}
def GSt (base mb gc:Nat) (wx:Wo) (v0:Value) (M0:List (Ind × Value)) (wr:Wo) (v:Value) (L:List Ind) (M:List (Ind × Value)) (D:Ind→List Ind):Prop:=
 GrI base wr mb v L M D∧GK mb gc wx v0 M0 wr v M∧wr.heap[gc]?=some (.cells #[v,.map (some mb)] 168 (0,0))
def GSt.below {m:Nat} {w':Wo} (h:GSt base mb gc wx v0 M0 wr v L M D) (hb:Below m wr w') (hm:wr.heap.size≤m):GSt base mb gc wx v0 M0 w' v L M D:=
 ⟨h.1.below hb hm,h.2.1.below hb hm,(hb.block gc (aR (aG.1 h.2.2).1 hm)).trans h.2.2⟩
def GSt.start {w1:Wo} (a8:((w.alloc (.cells #[.slice none 0 0,.map none] 168)).alloc (.map #[] 0)).alloc (.cells #[.slice none 0 0,.map (some (w.heap.size+1))] 168)=w1) (P:List Cl):
  GSt (w.heap.size+1+1+1) (w.heap.size+1) (w.heap.size+1+1) w1 (.slice none 0 0) [] w1 (.slice none 0 0) (fE (P.take 0)) [] (cE (P.take 0))∧Bz w w1∧w1.heap.size=w.heap.size+1+1+1:=by
 have hs:w1.heap.size=w.heap.size+1+1+1:=by rw [←a8];simp
 have b1:=aC w (.cells #[.slice none 0 0,.map none] 168);have b2:=aC (w.alloc (.cells #[.slice none 0 0,.map none] 168)) (.map #[] 0);have b3:=aC ((w.alloc (.cells #[.slice none 0 0,.map none] 168)).alloc (.map #[] 0)) (.cells #[.slice none 0 0,.map (some (w.heap.size+1))] 168);have hm:=aQ.new (kv:=aO) (w.alloc (.cells #[.slice none 0 0,.map none] 168)) 0;have hc:=aJ ((w.alloc (.cells #[.slice none 0 0,.map none] 168)).alloc (.map #[] 0)) (.cells #[.slice none 0 0,.map (some (w.heap.size+1))] 168);have hb:Bz w w1:=by
  rw [←a8];have b6:=b1.trans (b2.mono b1.size);exact b6.trans (b3.mono b6.size)
 refine⟨⟨⟨by simp [fE];exact aF.nil _ _,?_,by simp [aL],fun k _=>by simp [cE],by simp [aL]⟩,GK.refl _ _ _ _ _,?_⟩,hb,hs⟩
 ·rw [←a8];have:=hm.of_block (b3.block _ (by simp));simpa using this
 ·rw [←a8];simpa using hc
def u166:Tryz.prog.underlying 166=some (.map 63 127):=Tryz.underlying166
def z127:∀w,(zeroValue 127).run Tryz.prog w= .ok (.slice none 0 0) w:=fun w=>Tryz.zeroValue127 w
def GSt.own (h:GSt base mb gc wx v0 M0 w2 v L M D) (o:Obj):(w2.alloc o).ownsRow base 63 2 v L.length (L.flatMap bO):=
 gJ h.1.row (aC w2 o) (aA _)
def GSt.push {w5:Wo} (h:GSt base mb gc wx v0 M0 w2 v L M D) (a4:mb<base) (a2:gc<base) (a6:gc≠mb) (a0:base≤w2.heap.size)
  (h5:w5.ownsRow base 63 2 v5 (L.length+1) (L.flatMap bO++ [.string x,.int .i64 m])) (hg:(w2.alloc (.cells #[.string x,.int .i64 m] 63)).grownBy w5 v.ownBlock)
  (hv:v5.ownBlock=v.ownBlock∨v5.ownBlock=some (w2.alloc (.cells #[.string x,.int .i64 m] 63)).heap.size):
  ∃w6,(Instr.storeAt 127 (.pointer (some ⟨gc,0,none⟩)) v5).run Tryz.prog w5= .ok () w6∧GSt base mb gc wx v0 M0 w6 v5 (L++ [(x,m)]) M D∧w6.heap.size=w5.heap.size:=by
 obtain⟨h1,h2,h3⟩:=h;obtain⟨g1,g2⟩:=h1.push a4 a0 h5 hg hv;have b9:=(g2.block gc a2).trans h3;obtain⟨a5,c5,e5,_⟩:=g1.row.read;obtain⟨w6,hr,hc6,hg6,hs6⟩:=KQ (u:=v5) b9 (by rw [e5];rfl) (by rw [e5];rfl);refine⟨w6,hr,⟨g1.keep (fun g c0 b4=>hg6.block g b4 (fun e=>by have:=aK e;omega)) (hg6.block mb g1.map.lt (fun e=>a6 (aK e).symm)),(h2.push hg hv).cell hg6,hc6⟩,hs6⟩
def GSt.entry (h:GSt base mb gc wx v0 M0 wb v L M D) (a4:mb<base) (k:Ind):
  ∃u st wc,(aL k M).getD (.slice none 0 0)=u∧(Instr.mapEntry 166 (.map (some mb)) (aO k)).run Tryz.prog wb= .ok (.tuple #[u,.int .i64 ((st:Nat):Int)]) wc∧wb.grownBy wc (some mb)∧wc.heap.size=wb.heap.size∧StampAt aO wc mb (pF k (.slice none 0 0) M) k st∧aF base wc u (D k):=by
 obtain⟨wc,st,hr,hS,hg,hs⟩:=Ce kJ u166 z127 h.1.map k;refine⟨_,st,wc,rfl,hr,hg,hs,hS,?_⟩;cases hk:aL k M with
 |none=>
  rw [h.1.non k hk];exact aF.nil _ _
 |some u=>
  have ho:=(h.1.val k u hk).1;exact gS ho fun g a7=>hg.block g (cF ho g a7).2 (fun e=>by have:=(cF ho g a7).1;have:=aK e;omega)
def GSt.finish {wc wd:Wo} (h:GSt base mb gc wx v0 M0 wb v L M D) (a4:mb<base) (a2:gc<base) (a6:gc≠mb) (a0:base≤wb.heap.size)
  (hu:(aL k M).getD (.slice none 0 0)=u) (a9:wb.grownBy wc (some mb)) (c4:wc.heap.size=wb.heap.size) (b7:StampAt aO wc mb (pF k (.slice none 0 0) M) k st) (c3:aF base wc u (D k))
  (h5:wd.ownsRow base 63 2 v5 ((D k).length+1) ((D k).flatMap bO++ [.string x,.int .i64 m])) (hg:wc.grownBy wd u.ownBlock) (hv:v5.ownBlock=u.ownBlock∨v5.ownBlock=some wc.heap.size):
  ∃we,(Instr.entryStore 166 (.map (some mb)) (.int .i64 ((st:Nat):Int)) v5).run Tryz.prog wd= .ok () we∧GSt base mb gc wx v0 M0 we v L (putM k v5 M) (fun k'=>if k'=k then D k++ [(x,m)] else D k')∧wd.heap.size=we.heap.size:=by
 obtain⟨h1,h2,h3⟩:=h;have a1:∀g,g<base→some g≠u.ownBlock:=fun g a2 e=>by have:=(cF c3 g e.symm).1;omega
 have b5:=b7.of_block (hg.block mb b7.map.lt (a1 mb a4));obtain⟨we,hr,hM,hge,hse⟩:=Fs (P:=Tryz.prog) (mt:=166) b5 v5;rw [ZR] at hM;have a3:∀g,g<wb.heap.size→g≠mb→u.ownBlock≠some g→wd.heap[g]?=wb.heap[g]?:=fun g q1 q2 q3=>
  (hg.block g (by omega) (fun e=>q3 e.symm)).trans (a9.block g q1 (fun e=>q2 (aK e)))
 have c2:wb.heap.size≤wd.heap.size:=by have:=hg.size;omega
 have b8:v5.ownBlock=u.ownBlock∨∃g,v5.ownBlock=some g∧wb.heap.size≤g:=by
  rcases hv with e|e
  ·exact .inl e
  ·exact .inr ⟨_,e,by omega⟩
 have b0:∀g,g<wd.heap.size→g≠mb→we.heap[g]?=wd.heap[g]?:=fun g q1 q2=>hge.block g q1 (fun e=>q2 (aK e))
 have g1:=h1.pushAt a4 a0 hu h5 a3 c2 b8 hM b0;have g2:GK mb gc wx v0 M0 we v (putM k v5 M):=h2.pushAt (hge.os.trans (hg.os.trans a9.os)) (hge.tape.trans (hg.tape.trans a9.tape)) (hge.output.trans (hg.output.trans a9.output)) (by omega) hu (fun g q1 q2 q3=>(b0 g (by omega) q2).trans (a3 g q1 q2 q3)) b8;have c1:gc<wb.heap.size:=(aG.1 h3).1;refine⟨we,hr,⟨g1,g2,?_⟩,hse.symm⟩;exact(b0 gc (by omega) a6).trans ((a3 gc c1 a6 (fun e=>a1 gc a2 e.symm)).trans h3)
def GSt.re (h:GSt base mb gc wx v0 M0 wr v L M D):GSt base mb gc wr v M wr v L M D:=⟨h.1,GK.refl _ _ _ _ _,h.2.2⟩
def GSt.trans {wq:Wo} {v':Value} (h:GSt base mb gc wx v0 M0 wr v L M D) (k:GSt base mb gc wr v M wq v' L' M' D'):GSt base mb gc wx v0 M0 wq v' L' M' D':=⟨k.1,h.2.1.trans k.2.1,k.2.2⟩
def GSt.congr (h:GSt base mb gc wx v0 M0 wr v L M D) (e:∀k,D k=D' k):GSt base mb gc wx v0 M0 wr v L M D':=⟨h.1.congr e,h.2⟩
def GSt.off (h:GSt base mb gc wx v0 M0 wr v L M D) {q:Nat} (hq:wr.heap.size≤q):OffG v M q:=Ao h.1 hq
def GSt.low (h:GSt base mb gc wx v0 M0 wr v L M D) {q:Nat} (hq:q<base):OffG v M q:=
 ⟨fun e=>by have:=(cF h.1.row q e).1;omega,fun k u hk e=>by have:=(cF (h.1.val k u hk).1 q e).1;omega⟩
def GSt.bel {B:Nat} (h:GSt base mb gc wx v0 M0 wr v L M D) (h0:∀q,q<B→OffG v0 M0 q) (h1:B≤mb) (h2:B≤gc) (h3:B≤wx.heap.size):Below B wx wr:=
 ⟨h.2.1.os,h.2.1.tape,h.2.1.output,h.2.1.size,fun g hg=>h.2.1.blk g (by omega) (by omega) (by omega) (h0 g hg)⟩
def GSt.same (h:GSt base mb gc wx v0 M0 wr v L M D) {q:Nat} {o:Obj} (hq:wx.heap[q]?=some o) (hm:q≠mb) (hg:q≠gc) (ho:OffG v0 M0 q):wr.heap[q]?=some o:=
 (h.2.1.blk q (aG.1 hq).1 hm hg ho).trans hq
def OutT.read2 {L:List Tm} (h:OutT n base w v L):∃a c,v= .slice a L.length c∧∀(k:Nat) T,L[k]?=some T→∃g vs,a=some ⟨g,0,none⟩∧base≤g∧g<w.heap.size∧TmV n w T vs∧∀(j:Nat) u,vs[j]?=some u→w.cell? ⟨g,k*7+j,none⟩=some u:=by
 obtain⟨X,h1,h2⟩:=h;obtain⟨a,c,rfl,hr⟩:=iN h1;refine⟨a,c,rfl,fun k T hk=>?_⟩;rcases hr with h0|⟨g,e,hb,hg,hc⟩
 ·have:=(aM.1 hk).1;omega
 ·obtain⟨vs,h3,h4⟩:=h2.get hk;exact⟨g,vs,e,hb,hg,h3,fun j u hj=>hc _ _ (h4 j u hj)⟩
def Jc (h1:T.kd≠1) (h2:T.kd≠2):T.atomI=none:=by
 unfold Tm.atomI;rw [if_neg h1,if_neg h2]
def Jb {A:Tm} (h:T.kd=1∧A=T∨T.kd=2∧T.args= [A]):T.atomI=some A.ind:=by
 unfold Tm.atomI;rcases h with⟨h1,rfl⟩|⟨h1,h2⟩
 ·rw [if_pos h1]
 ·rw [if_neg (by rw [h1];decide),if_pos h1,h2];rfl
def Iz {LT:List Tm} {k:Nat} (h:LT[k]?=some T):(LT.take (k+1)).filterMap Tm.atomI=(LT.take k).filterMap Tm.atomI++T.atomI.toList:=by
 rw [lT,h,List.filterMap_append];cases hT:T.atomI<;>simp [hT]
def OffG.ent (h:OffG v M q) (hu:(aL k M).getD (.slice none 0 0)=u):u.ownBlock≠some q:=by
 cases hk:aL k M with
 |none=>rw [hk] at hu;simp at hu;subst hu;simp [Value.ownBlock]
 |some u'=>rw [hk] at hu;simp at hu;subst hu;exact h.2 _ _ hk
def AB (h:w2.heap[w.heap.size]?=(w.alloc (.cells #[.string x,.int .i64 m] 63)).heap[w.heap.size]?):SrcAt w2 (.slice (some ⟨w.heap.size,0,none⟩) 1 1) 1 [.string x,.int .i64 m]:=.inr ⟨_,_,rfl,fun j u hj=>by
 rw [jI,bT];have hq:=aJ w (Obj.cells #[.string x,.int .i64 m] 63);simp only [World.cell?,h,hq];simpa using hj⟩
def C14 (a b c:Nat) (w w':Wo):Prop:=w'.heap[a]?=w.heap[a]?∧w'.heap[b]?=w.heap[b]?∧w'.heap[c]?=w.heap[c]?
def GSt.turn (h:GSt base mb gc wx v0 M0 w2 v L M D) (a4:mb<base) (a2:gc<base)
  (hO:aF base w3 v3 L') (hv:v3.ownBlock=v.ownBlock) (hg:w2.grownBy w3 v.ownBlock):GrI base w3 mb v3 L' M D∧GK mb gc wx v0 M0 w3 v3 M∧w3.heap[gc]?=some (.cells #[v,.map (some mb)] 168 (0,0)):=by
 obtain⟨h1,h2,h3⟩:=h;have a1:∀g,g<base→some g≠v.ownBlock:=fun g a2 e=>by have:=(cF h1.row g e.symm).1;omega
 refine⟨⟨hO,h1.map.of_block (hg.block mb h1.map.lt (a1 mb a4)),fun k u hk=>?_,h1.non,h1.sep⟩,⟨hg.os.trans h2.os,hg.tape.trans h2.tape,hg.output.trans h2.output,aD h2.size hg.size,fun g hl q1 q2 ho=>?_,fun g hl ho=>?_⟩,?_⟩
 ·obtain⟨q1,q2⟩:=h1.val k u hk;exact⟨gS q1 fun g a7=>hg.block g (cF q1 g a7).2 (fun e=>q2 g a7 e.symm),fun g e1 e2=>q2 g e1 (hv.symm.trans e2)⟩
 ·exact(hg.block g (aR hl h2.size) (fun e=>(h2.off g hl ho).1 e.symm)).trans (h2.blk g hl q1 q2 ho)
 ·exact⟨by rw [hv];exact(h2.off g hl ho).1,(h2.off g hl ho).2⟩
 ·exact(hg.block gc (aG.1 h3).1 (a1 gc a2)).trans h3
def GSt.setv (t1:GrI base w3 mb v3 L M D) (t2:GK mb gc wx v0 M0 w3 v3 M) (t3:w3.heap[gc]?=some (.cells #[v,.map (some mb)] 168 (0,0))) (a2:gc<base) (a6:gc≠mb):
  ∃w4,(Instr.storeAt 127 (.pointer (some ⟨gc,0,none⟩)) v3).run Tryz.prog w3= .ok () w4∧GSt base mb gc wx v0 M0 w4 v3 L M D∧w4.heap.size=w3.heap.size:=by
 obtain⟨a5,c5,e5,_⟩:=t1.row.read;obtain⟨w6,hr,hc6,hg6,hs6⟩:=KQ (u:=v3) t3 (by rw [e5];rfl) (by rw [e5];rfl);exact⟨w6,hr,⟨t1.keep (fun g c0 b4=>hg6.block g b4 (fun e=>by have:=aK e;omega)) (hg6.block mb t1.map.lt (fun e=>a6 (aK e).symm)),t2.cell hg6,hc6⟩,hs6⟩
def YZ {W W1:Wo} {A:Addr} {x:Value} (h:(storeCells A [x,y] 0).run Tryz.prog W= .ok () W1):(Instr.storeAt 168 (.pointer (some A)) (.agg #[x,y])).run Tryz.prog W= .ok () W1:=by
 have hs:∀w,(sizeOf 168).run Tryz.prog w= .ok 2 w:=fun w=>Tryz.sizeOf168 w
 have ha:(Instr.sureAddr (.pointer (some A))).run Tryz.prog W= .ok A W:=rfl;unfold Instr.storeAt;simp [storeVar,ha,hs,Value.cells,h]
def GraphP (w:Wo) (P:List Cl) (e:Ending) (w':Wo):Prop:=
 ∃(v:Value) (b:Nat) (L:List Ind) (M:List (Ind × Value)),e= .returned (.agg #[v,.map (some b)])∧aF w.heap.size w' v (cpt L)∧L.Perm (fE P)∧L.Pairwise (fun a b=>¬jP b a)∧aQ aO w' b M∧w.heap.size≤b∧
  (∀k u,aL k M=some u→aF w.heap.size w' u (cE P k))∧(∀k,aL k M=none→cE P k= [])∧Bz w w'
