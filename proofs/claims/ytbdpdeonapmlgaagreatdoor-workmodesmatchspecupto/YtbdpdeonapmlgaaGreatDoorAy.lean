/- Lemmas; no condition. -/
import Derived.Test.YtbdpdeonapmlgaaGreatDoorAx
import Derived.RangeFuncBox
import Derived.RangeFuncLeaves
import Derived.Shelf.Abstract
import Derived.OwnWalkIn
import Derived.TacticsInMore
import Derived.LoopNIn
import Derived.LoopIn
import Derived.Shelf.SlIterI.Collect
import Derived.Shelf.SlLaysZI
set_option linter.all false
set_option maxHeartbeats 8000000
set_option maxRecDepth 100000
namespace Go.Proofs.YtbdpdeonapmlgaaGreatDoor
open Go.RowKit Go.Big Go.RowsK Go.MapK
section
attribute [local go_sem] Heavy.uponW
def ZC (X M:Md) (n:Nat) (w:Wo) (vs vm:Lv) (hX:MdV n w X vs) (hM:MdV n w M vm) (b4:(X.io.length:Int)=X.ar) (b2:(M.io.length:Int)=M.ar) (hn:n≤w.heap.size):
  Cz 30 #[.agg vs.toArray,.agg vm.toArray] w (dP w (kD X M)):=by
 obtain⟨a,c,rfl,hXI,hXb⟩:=hX;obtain⟨b,d,rfl,hMI,hMb⟩:=hM;obtain⟨xn,xa,L⟩:=X;obtain⟨mn,ma,M⟩:=M;dsimp only at hXI hXb hMI hMb b4 b2 ⊢;obtain⟨B1,hB1⟩:∃b,decide ((xn,xa)=(mn,ma))=b:=⟨_,rfl⟩;obtain⟨R,hB2⟩:∃b,decide (L=M)=b:=⟨_,rfl⟩;have hS:kD ⟨xn,xa,L⟩ ⟨mn,ma,M⟩=(B1&&R):=by rw [←hB1,←hB2];rfl
 have b3:=aside hB2;rw [hS];have a4:Aside (B1=true→L.length=M.length):=fun e=>by
  rw [←hB1,rG] at e;injection e with _ e;omega
 have b8:=kX xn mn xa ma;have c0:=lV;rw [hB1] at b8;have b1:=aside2 hXI hMI;obtain⟨len,hl⟩:=enm L.length;obtain⟨a2,hm⟩:∃len,M.length=len:=⟨_,rfl⟩;have Ll:=aside2 hl hm;rw [hl] at hXb a4 ⊢;rw [hm] at a4 ⊢;have a0:=aC w (Obj.cells #[.string xn,.int .i64 xa,.slice a len c] 66);have a1:=aC (w.alloc (Obj.cells #[.string xn,.int .i64 xa,.slice a len c] 66)) (Obj.cells #[.string mn,.int .i64 ma,.slice b a2 d] 66);have hq:=(a1.block w.heap.size (by simp)).trans (aK w (Obj.cells #[.string xn,.int .i64 xa,.slice a len c] 66));have hr:=aK (w.alloc (Obj.cells #[.string xn,.int .i64 xa,.slice a len c] 66)) (Obj.cells #[.string mn,.int .i64 ma,.slice b a2 d] 66);rw [cW] at hr;have b7:((w.alloc (Obj.cells #[.string xn,.int .i64 xa,.slice a len c] 66)).alloc (Obj.cells #[.string mn,.int .i64 ma,.slice b a2 d] 66)).heap.size=w.heap.size+2:=by simp
 have b0:=a0.trans (a1.mono a0.size);obtain⟨wb,hwb⟩:=enm ((w.alloc (Obj.cells #[.string xn,.int .i64 xa,.slice a len c] 66)).alloc (Obj.cells #[.string mn,.int .i64 ma,.slice b a2 d] 66));rw [hwb] at b0 hq hr b7;have fx:Aside (∀w2,Bz wb w2→_):=fun(w2:Wo) (hb:Bz wb w2)=>mU ((hb.block w.heap.size (by omega)).trans hq)
 have fm:Aside (∀w2,Bz wb w2→_):=fun(w2:Wo) (hb:Bz wb w2)=>mU ((hb.block (w.heap.size+1) (by omega)).trans hr)
 have bw:Aside (∀w2,Bz wb w2→Bz w w2):=fun w2 hb=>b0.trans (hb.mono b0.size)
 obtain⟨x0,x1,x2⟩:=fx.o wb (aG _ _);obtain⟨y0,y1,y2⟩:=fm.o wb (aG _ _);have a8:Aside (Bz wb wb):=aG _ _;clear b0 a0 a1 hq hr b7 hXI hMI b4 b2 hB1 hB2 hS hl hm;go_enter Tryz.func30,Tryz.ntmps30
 go_upto_region 1 with fail
 clear hwb;cases B1
 ·go_wp2
  go_ret
  exact⟨rfl,bw.o _ a8.o⟩
 obtain rfl:a2=len:=(a4.o rfl).symm;clear a4;go_wp2
 go_loopw [5] (fun s wr=>∃i:Nat,s= .int .i64 i∧i≤a2∧Bz wb wr∧Aside (∀(j:Nat) x,j<i→L[j]?=some x→M[j]?=some x)) (fun s _=>a2-(intOf s).toNat)
 case atStart=>exact⟨0,rfl,aJ _,a8.o,fun j x hj=>by omega⟩
 case round=>
  obtain⟨i,rfl,hi,hbr,hall⟩:=hrel;clear x0 x1 x2 y0 y1 y2;obtain⟨x0,x1,x2⟩:=fx.o wr hbr
  by_cases b6:i<a2
  ·obtain⟨x,hx⟩:=egf Ll.o.1 b6;obtain⟨y,hy⟩:=egf Ll.o.2 b6;obtain⟨g1,o1,rfl,hg1,hc1⟩:=b1.o.1 i x hx;obtain⟨g2,o2,rfl,hg2,hc2⟩:=b1.o.2 i y hy;have e1:Aside (∀w2,Bz w w2→w2.cell? ⟨g1,o1+i,none⟩=some (.int .i64 x)∧w2.cell? ⟨g2,o2+i,none⟩=some (.int .i64 y)):=fun w2 b5=>
    ⟨(b5.cell (p:=⟨g1,o1+i,none⟩) (by show g1<_;omega)).trans hc1,(b5.cell (p:=⟨g2,o2+i,none⟩) (by show g2<_;omega)).trans hc2⟩
   obtain⟨b9,hi3,hw3⟩:=elt (i:=i) (n:=a2) (by omega) (by omega);have fd:Bz wb wr.drew:=hbr.trans (cU _ _);obtain⟨z1,z2⟩:=e1.o wr.drew (bw.o _ fd);obtain⟨q0,q1,q2⟩:=fx.o wr.drew fd;obtain⟨r0,r1,r2⟩:=fm.o wr.drew fd;have a9:=aside fd;have a5:=aside2 hx hy;clear hc1 hc2 hg1 hg2 hx hy hbr fd
   by_cases a6:x=y
   ·subst a6;have a3:Aside (∀(j:Nat) x,j<i+1→L[j]?=some x→M[j]?=some x):=fun j x' hj a7=>by
     rcases gR j i with h|h
     ·exact hall.o j x' h a7
     ·obtain rfl:j=i:=by omega
      rw [a5.o.1] at a7;injection a7 with e;exact e▸a5.o.2
    go_upto_region 6 with fail
    refine iA 10 (by kernel_rfl) (by kernel_rfl) ?_;simp only [aX,bI,aW,bD,gQ]
    repeat (with_reducible refine gP (fun K hK=>?_);go_simp;with_reducible refine hK _ ?_;clear hK K)
    refine iB ?_;show wpList _ _ _ _ _ _;go_wp2;go_roundw
    case rel=>exact⟨i+1,by simp,by omega,a9.o,a3⟩
    case measure=>simp [intOf];omega
   ·obtain rfl:R=false:=by
     rw [←b3.o,rH];rintro rfl;have:=a5.o.1.symm.trans a5.o.2;injection this with e
     exact a6 e
    have h1:(x==y)=false:=by simpa using a6
    have h2:(x !=y)=true:=by simpa using a6
    go_upto_region 6 with fail
    refine iA 10 (by kernel_rfl) (by kernel_rfl) ?_;simp only [aX,bI,aW,bD,gQ]
    repeat (with_reducible refine gP (fun K hK=>?_);go_simp;with_reducible refine hK _ ?_;clear hK K)
    refine iB ?_;show wpList _ _ _ _ _ _;go_wp2
    go_ret
    exact⟨rfl,bw.o _ a9.o⟩
  ·obtain rfl:i=a2:=by omega
   obtain rfl:R=true:=by
    rw [←b3.o,rG];refine zA fun j=>?_
    rcases gR j i with h|h
    ·have hx:=aZ (l:=L) (i:=j) (by rw [Ll.o.1];exact h);rw [hx,hall.o j _ h hx]
    ·rw [nK (by rw [Ll.o.1];exact h),nK (by rw [Ll.o.2];exact h)]
   go_wp2
   go_ret
   exact⟨rfl,bw.o _ hbr⟩
end
section
attribute [local go_sem] Heavy.uponW
def Cr {Ms:List Md} {i:Nat} {M:Md} (h:fU Ms i M=0):(M.io.length:Int)=M.ar:=by
 unfold fU at h;split at h
 ·cases h
 next h5=>
 simp at h5;exact h5.1
def ZN (P:List Cl) (Ms:List Md) (n:Nat) (a b:Option Addr) (c d:Nat) (w:Wo) (hP:ClsV n w P a) (c8:MdsV n w Ms b) (hn:n≤w.heap.size):
  Cz 9 #[.slice a P.length c,.slice b Ms.length d] w (fun e w'=>e= .returned (.int .i64 (mO P Ms))∧Bz w w'):=by
 have d1:=ZT P n w a P.length c rfl hP hn;obtain⟨F,hF⟩:=enm (kG P);obtain⟨R,hR⟩:=enm (mO P Ms);have RA:Aside ((if F≠0 then F else if 300<Ms.length then 3 else jN Ms Ms 0)=R):=by show _=_;rw [←hF,←hR];rfl
 rw [hR];rw [hF] at d1;have a4:=aside2 c8 hn;obtain⟨len,hl⟩:∃l,Ms.length=l:=⟨_,rfl⟩;rw [hl] at RA ⊢;have Ll:=aside hl;generalize P.length=lp at*;clear hF hR hP c8 hl hn;go_enter Tryz.func9,Tryz.ntmps9
 by_cases b7:F=0
 case neg=>
  have f1:(F==0)=false:=by simpa using b7
  have f2:(F !=0)=true:=by simpa using b7
  have hR:Aside (R=F):=by show _=_;rw [←RA.o,if_pos b7]
  go_wp2_with (go_at_call 28;(with_reducible refine d1.mono ?_);rintro e w2 ⟨rfl,hb2⟩)
  go_ret
  exact⟨by have e:=hR.o;subst e;rfl,hb2⟩
 subst b7
 by_cases a7:300<len
 case pos=>
  have h3:(300:Int)<(len:Int):=by omega
  have hR:Aside (R=3):=by show _=_;rw [←RA.o];simp [a7]
  go_wp2_with (go_at_call 28;(with_reducible refine d1.mono ?_);rintro e w2 ⟨rfl,hb2⟩)
  go_ret
  exact⟨by have e:=hR.o;subst e;rfl,hb2⟩
 have h3:¬(300:Int)<(len:Int):=by omega
 have RB:Aside (jN Ms Ms 0=R):=by show _=_;rw [←RA.o];simp [a7]
 clear RA
 go_wp2_with (go_at_call 28;(with_reducible refine d1.mono ?_);rintro e w2 ⟨rfl,hb2⟩)
 have c2:=aside hb2;clear d1 hb2
 go_loopw [6] (fun s wr=>∃i:Nat,s= .int .i64 i∧i≤len∧Bz w wr∧Aside (∀(j:Nat) M,j<i→Ms[j]?=some M→fU Ms (0+j) M=0)) (fun s _=>len-(intOf s).toNat)
 case atStart=>exact⟨0,rfl,aJ _,c2.o,fun j T hj=>by omega⟩
 case round=>
  obtain⟨wo,rfl⟩:=enr wr;obtain⟨i,rfl,hi,hbo,hall⟩:=hrel
  by_cases e3:i<len
  ·obtain⟨M,hM⟩:=egf Ll.o e3;obtain⟨g1,off,vs,rfl,hg1,hc0,hv⟩:=a4.o.1 i M hM;have b8:=aside hv;obtain⟨am,cm,rfl,hI,hIl⟩:=hv;have a1:=hc0.below hbo (bG hg1 a4.o.2);have a6:=aside hM;have a0:Aside (∀v:Int,fU Ms (0+i) M=v→v≠0→R=v):=fun v e hv=>by
    have h9:=AX Ms Ms 0 i (by rw [Ll.o];omega) hall.o;obtain⟨d7,hx9⟩:=aO.1 a6.o;rw [jC d7,hx9,jN,e,if_neg hv] at h9;rw [←RB.o,h9]
   have b9:Aside (fU Ms (0+i) M=0→∀(j:Nat) M,j<i+1→Ms[j]?=some M→fU Ms (0+j) M=0):=fun e j M hj c1=>by
    rcases gR j i with h|h
    ·exact hall.o j M h c1
    ·obtain rfl:j=i:=by omega
     rw [a6.o] at c1;injection c1 with e2;subst e2;exact e
   have hE:Aside (fU Ms (0+i) M=if((M.io.length:Int) !=M.ar||M.io.any jS)=true then 1 else if biB M.nm.toList M.ar=true then 8 else if((Ms.take i).any fun X=>kD X M)=true then 5 else 0):=by
    show _=_;rw [bT,fU]
   have c7:=aside hI;obtain⟨MM,hMM⟩:∃m,M=m:=⟨_,rfl⟩;rw [hMM] at a6 a0 b9 hE;obtain⟨mn,ma,io⟩:=M;dsimp only at a1 c7 b8;rw [hMM] at b8;obtain⟨li,hli⟩:∃l,io.length=l:=⟨_,rfl⟩;rw [hli] at a1 b8;dsimp only at hIl;rw [hli] at hIl;have Il:Aside (io.length=li∧MM.io=io∧MM.ar=ma∧MM.nm=mn):=by show _∧_;rw [←hMM];exact⟨hli,rfl,rfl,rfl⟩
   have e0:wo.cell? ⟨g1,off+i*3,none⟩=some (.string mn):=a1 0 _ rfl;have e1:wo.cell? ⟨g1,off+i*3+1,none⟩=some (.int .i64 ma):=a1 1 _ rfl;have e2:wo.cell? ⟨g1,off+i*3+2,none⟩=some (.slice am li cm):=a1 2 _ rfl;have d0:=aC wo (Obj.cells #[.string mn,.int .i64 ma,.slice am li cm] 66);have hq:=aK wo (Obj.cells #[.string mn,.int .i64 ma,.slice am li cm] 66);have b6:=hbo.trans (d0.mono hbo.size);obtain⟨wx,hwx⟩:=enm (wo.alloc (Obj.cells #[.string mn,.int .i64 ma,.slice am li cm] 66));have c5:Aside (wx.heap.size=wo.heap.size+1):=by show _=_;rw [←hwx];simp
   rw [hwx] at hq b6;have fm:Aside (∀w2,Bz wx w2→_):=fun(w2:Wo) (hb:Bz wx w2)=>mU ((hb.block wo.heap.size (by have:=c5.o;omega)).trans hq)
   have bx:Aside (∀w2,Bz wx w2→Bz w w2):=fun w2 hb=>b6.trans (hb.mono b6.size)
   have c0:Aside (Bz wx wx):=aG _ _;obtain⟨e6,hi3,hw3⟩:=elt (i:=i) (n:=len) (by omega) (by omega);clear hMM hli a1 hc0 hI hM hq d0 b6 hbo hg1
   go_upto_region 10 with fail
   clear hwx e0 e1 e2;obtain⟨y0,y1,y2⟩:=fm.o wx c0.o;obtain⟨B0,hB0⟩:∃b,((li:Int) !=ma)=b:=⟨_,rfl⟩;have a5:=aside hB0;cases B0
   case true=>
    have hR:Aside (R=1):=a0.o 1 (by rw [hE.o,Il.o.2.1,Il.o.1,Il.o.2.2.1,a5.o];rfl) (by decide);clear a0 b9 hE;go_wp2
    go_ret
    exact⟨by have e:=hR.o;subst e;rfl,bx.o _ c0.o⟩
   have e4:Aside ((li:Int)=ma):=by show _=_;simpa using a5.o
   go_upto_region 13 with fail
   clear y0 y1 y2 hB0
   go_loopw [8] (fun s wr=>∃j:Nat,s= .int .i64 j∧j≤li∧Bz wx wr∧Aside (∀(k:Nat) x,k<j→io[k]?=some x→jS x=false)) (fun s _=>li-(intOf s).toNat)
   case atStart=>exact⟨0,rfl,aJ _,c0.o,fun j T hj=>by omega⟩
   case round=>
    obtain⟨wi,rfl⟩:=enr wr;obtain⟨j,rfl,hj,hbi,hgood⟩:=hrel;obtain⟨y0,y1,y2⟩:=fm.o wi hbi
    by_cases d8:j<li
    ·obtain⟨x,hx⟩:=egf Il.o.1 d8;obtain⟨gi,oi,rfl,hgi,hci⟩:=c7.o j x hx;have b3:gi<w.heap.size:=bG hgi a4.o.2;have ci:=((bx.o wi hbi).cell (p:=⟨gi,oi+j,none⟩) b3).trans hci;have d2:=aside hx;obtain⟨b1,h1⟩:∃b,(x !=1)=b:=⟨_,rfl⟩;obtain⟨b2,h2⟩:∃b,(x !=2)=b:=⟨_,rfl⟩;have b0:Aside (jS x=(b1&&b2)):=by show _=_;rw [jS,h1,h2]
     obtain⟨e7,hj3,hwj⟩:=elt (i:=j) (n:=li) (by omega) (by omega);have a2:Aside (jS x=false→∀(k:Nat) x,k<j+1→io[k]?=some x→jS x=false):=fun e k y hk hy=>by
      rcases gR k j with h|h
      ·exact hgood.o k y h hy
      ·obtain rfl:k=j:=by omega
       rw [d2.o] at hy;injection hy with e2;subst e2;exact e
     clear hci hgi b3 hx;cases b1
     ·have c4:Aside (∀(k:Nat) x,k<j+1→io[k]?=some x→jS x=false):=a2.o b0.o;go_wp2;go_roundw
      case rel=>exact⟨j+1,by simp,by omega,hbi,c4⟩
      case measure=>simp [intOf];omega
     ·cases b2
      ·have c4:Aside (∀(k:Nat) x,k<j+1→io[k]?=some x→jS x=false):=a2.o b0.o;go_wp2;go_roundw
       case rel=>exact⟨j+1,by simp,by omega,hbi,c4⟩
       case measure=>simp [intOf];omega
      ·have hR:Aside (R=1):=a0.o 1 (by rw [hE.o,Il.o.2.1,if_pos];rw [gT];exact .inr (rT.2 ⟨x,aP d2.o,b0.o⟩)) (by decide);go_wp2
       go_ret
       exact⟨by have e:=hR.o;subst e;rfl,bx.o _ hbi⟩
    ·obtain rfl:li=j:=by omega
     have a8:Aside (fU Ms (0+i) MM=if biB mn.toList ma=true then 8 else if((Ms.take i).any fun X=>kD X MM)=true then 5 else 0):=by
      show _=_;rw [hE.o,Il.o.2.1,Il.o.1,Il.o.2.2.1,Il.o.2.2.2,a5.o,if_neg];rw [nM,rT];rintro⟨x,hx,b0⟩;obtain⟨k,hk⟩:=tW hx;have:=hgood.o k x (by have:=(aO.1 hk).1;have:=Il.o.1;omega) hk;rw [b0] at this;cases this
     obtain⟨B3,hB3⟩:∃b,biB mn.toList ma=b:=⟨_,rfl⟩;have d3:=AB mn ma wi;rw [hB3] at a8 d3;clear hE hgood hB3;cases B3
     case true=>
      have hR:Aside (R=8):=a0.o 8 a8.o (by decide);clear a0 b9 a8
      go_wp2_with (go_at_call 29;(with_reducible refine d3.mono ?_);rintro e w5 ⟨rfl,hb5⟩)
      go_ret
      have h5:=hbi.trans (hb5.mono hbi.size);exact⟨by have e:=hR.o;subst e;rfl,bx.o _ h5⟩
     go_upto_region 20 with(go_at_call 29;(with_reducible refine d3.mono ?_);rintro e w5 ⟨rfl,hb5⟩)
     have d5:Aside (Bz wx w5):=hbi.trans (hb5.mono hbi.size);clear hbi hb5 d3 y0 y1 y2
     go_loopw [9] (fun s wr=>∃k:Nat,s= .int .i64 k∧k≤i∧Bz wx wr∧Aside (∀(q:Nat) X,q<k→Ms[q]?=some X→kD X MM=false)) (fun s _=>i-(intOf s).toNat)
     case atStart=>exact⟨0,rfl,aJ _,d5.o,fun j T hj=>by omega⟩
     case round=>
      obtain⟨wk,rfl⟩:=enr wr;obtain⟨k,rfl,hk,hbk,hdiff⟩:=hrel
      by_cases d9:k<i
      ·obtain⟨X,hX⟩:=ege (L:=Ms) (i:=k) (by rw [Ll.o];omega);obtain⟨g2,o2,vs,e9,hg2,hc2,hv⟩:=a4.o.1 k X hX;injection e9 with e9
       injection e9 with e9 e8 _
       subst e9 e8;have c9:=aside hX;have fd:Bz wx wk.drew:=hbk.trans (cU _ _);have b4:=bx.o _ fd;have d4:Cz 30 #[.agg vs.toArray,.agg #[.string mn,.int .i64 ma,.slice am li cm]] wk.drew (dP wk.drew (kD X MM)):=ZC X MM n wk.drew vs [.string mn,.int .i64 ma,.slice am li cm] (hv.below b4 a4.o.2) (b8.o.below b4 a4.o.2) (Cr (hall.o k X d9 hX)) (by rw [Il.o.2.1,Il.o.1,Il.o.2.2.1];exact e4.o) (aE a4.o.2 b4.size);have a1:=hc2.below b4 (bG hg2 a4.o.2);obtain⟨a3,c3,rfl,_,_⟩:=hv;generalize X.nm=xn,X.ar=xa,X.io.length=xl at*;have e0:wk.drew.cell? ⟨g1,off+k*3,none⟩=some (.string xn):=a1 0 _ rfl;have e1:wk.drew.cell? ⟨g1,off+k*3+1,none⟩=some (.int .i64 xa):=a1 1 _ rfl;have e2:wk.drew.cell? ⟨g1,off+k*3+2,none⟩=some (.slice a3 xl c3):=a1 2 _ rfl;obtain⟨y0,y1,y2⟩:=fm.o _ fd;obtain⟨B,hB⟩:∃b,kD X MM=b:=⟨_,rfl⟩;have c6:=aside hB;rw [hB] at d4;replace d4:Cz 30 #[.agg #[.string xn,.int .i64 xa,.slice a3 xl c3],.agg #[.string mn,.int .i64 ma,.slice am li cm]] wk.drew (dP wk.drew B):=d4;have b5:=aside fd;have f0:(k:Int)<(i:Int):=by omega
       have f3:(0:Int)≤(k:Int):=by omega
       have f4:(k:Int)<(len:Int):=by omega
       have f5:=ewr (i:=k) (by omega);clear a1 hc2 hg2 hX fd b4 hB hbk
       go_upto_region 22 with fail
       refine iA 5 (by kernel_rfl) (by kernel_rfl) ?_;simp only [aX,bI,aW,bD,gQ]
       repeat (with_reducible refine gP (fun K hK=>?_);go_simp;with_reducible refine hK _ ?_;clear hK K)
       refine iB ?_;show wpList _ _ _ _ _ _;cases B
       ·have d6:Aside (∀(q:Nat) X,q<k+1→Ms[q]?=some X→kD X MM=false):=fun q Y hq hY=>by
         rcases gR q k with h|h
         ·exact hdiff.o q Y h hY
         ·obtain rfl:q=k:=by omega
          rw [c9.o] at hY;injection hY with e2;subst e2;exact c6.o
        go_wp2_with (go_at_call 30;(with_reducible refine d4.mono ?_);rintro e w6 ⟨rfl,hb6⟩)
        have h6:=b5.o.trans (hb6.mono b5.o.size);go_roundw
        case rel=>exact⟨k+1,by simp,by omega,h6,d6⟩
        case measure=>simp [intOf];omega
       ·have hR:Aside (R=5):=a0.o 5 (by
         rw [a8.o,if_neg (by simp),if_pos];rw [rT];exact⟨X,aP (i:=k) (by rw [vW,if_pos (by omega)];exact c9.o),c6.o⟩) (by decide)
        go_wp2_with (go_at_call 30;(with_reducible refine d4.mono ?_);rintro e w6 ⟨rfl,hb6⟩)
        have h6:=b5.o.trans (hb6.mono b5.o.size)
        go_ret
        exact⟨by have e:=hR.o;subst e;rfl,bx.o _ h6⟩
      ·obtain rfl:k=i:=by omega
       have h0:Aside (fU Ms (0+k) MM=0):=by
        show _=_;rw [a8.o,if_neg (by simp),if_neg];rw [rT];rintro⟨X,hX,hs⟩;obtain⟨q,hq⟩:=tW hX;rw [vW] at hq;split at hq
        ·next h9=>
         have:=hdiff.o q X h9 hq;rw [hs] at this;cases this
        ·cases hq
       have a9:Aside (∀(j:Nat) M,j<k+1→Ms[j]?=some M→fU Ms (0+j) M=0):=b9.o h0.o;have hL:=bx.o wk hbk;go_wp2;exact⟨⟨k+1,by simp,by omega,hL,a9⟩,by simp [intOf];omega⟩
  ·obtain rfl:i=len:=by omega
   have hR:Aside (R=0):=by
    show _=_;rw [←RB.o,AX Ms Ms 0 i (by rw [Ll.o];omega) hall.o,rS (nF Ll.o),jN]
   go_wp2
   go_ret
   exact⟨by have e:=hR.o;subst e;rfl,hbo⟩
end
section
attribute [local go_sem] Heavy.uponW
def ieqF (p q r s:Int) (w:Wo):(Op.equalIn 10000 32 (.agg #[.int .i64 p,.int .i64 q,.int .i64 r,.int .i64 s]) (.agg #[.int .i64 p,.int .i64 q,.int .i64 r,.int .i64 s])).run Tryz.prog w= .ok true w:=by
 have hu:∀w,(Go.underlying 32).run Tryz.prog w= .ok _ w:=fun w=>dW Tryz.underlying32 w
 have h3:∀w,(Go.underlying 3).run Tryz.prog w= .ok (.int .i64) w:=fun w=>dW Tryz.underlying3 w
 have e3:∀(x y:Int) w,(Op.equalIn 9999 3 (.int .i64 x) (.int .i64 y)).run Tryz.prog w= .ok (x==y) w:=by
  intro x y w;rw [Op.equalIn];simp only [bF,h3,Result.andThen];simp
 have p0:∀w,(part 3 #[.int .i64 p,.int .i64 q,.int .i64 r,.int .i64 s] 0).run Tryz.prog w= .ok (.int .i64 p) w:=fun w=>by simp [part,go_sem,Tryz.isAgg3]
 have p1:∀w,(part 3 #[.int .i64 p,.int .i64 q,.int .i64 r,.int .i64 s] 1).run Tryz.prog w= .ok (.int .i64 q) w:=fun w=>by simp [part,go_sem,Tryz.isAgg3]
 have p2:∀w,(part 3 #[.int .i64 p,.int .i64 q,.int .i64 r,.int .i64 s] 2).run Tryz.prog w= .ok (.int .i64 r) w:=fun w=>by simp [part,go_sem,Tryz.isAgg3]
 have p3:∀w,(part 3 #[.int .i64 p,.int .i64 q,.int .i64 r,.int .i64 s] 3).run Tryz.prog w= .ok (.int .i64 s) w:=fun w=>by simp [part,go_sem,Tryz.isAgg3]
 have b9:Tryz.prog.stoodInHeld 32=false:=by kernel_rfl
 have b7:∀w,(program).run Tryz.prog w= .ok Tryz.prog w:=fun w=>rfl
 rw [Op.equalIn];simp only [bF,hu,b7,b9,Result.andThen];simp [bF,p0,p1,p2,p3,e3,Result.andThen]
def ieqFG (op:BinOp) (x y:Operand) (xs ys:Array Value) (w:Wo):(eqGuard op 32 x y (.agg xs) (.agg ys)).run Tryz.prog w= .ok () w:=run_eqGuard_agg _ _ _ _ _ _ _ (by kernel_rfl)
def Dn (P:List Cl) (Ms:List Md) (n:Nat) (a b:Option Addr) (c d:Nat) (w:Wo) (hP:ClsV n w P a) (a8:MdsV n w Ms b) (a6:Ms.length≤d) (hn:n≤w.heap.size)
  (a5:∀w',Bz w w'→Cz 10 #[] w' fun e c0=>e= .returned (.bool true)∧Bz w' c0):
  Cz 3 #[.slice a P.length c,.slice b Ms.length d] w fun e w'=>e= .returned (.bool true)∧Bz w w':=by
 have a1:=aside a5;have d1:=If P Ms n a b c d w hP a8 a6 hn;have d2:Aside (∀w2,Bz w w2→Cz 9 #[.slice a P.length c,.slice b Ms.length d] w2 (fun e w'=>e= .returned (.int .i64 (mO P Ms))∧Bz w2 w')):=fun w2 hb=>ZN P Ms n a b c d w2 (hP.below hb hn) (a8.below hb hn) (aE hn hb.size)
 have d3:Aside (mO P Ms=0→∀w2,Bz w w2→Cz 11 #[.slice a P.length c,.slice b Ms.length d] w2 (fun e w'=>∃v,e= .returned v∧OutF w2.heap.size w' v (dU Ms P Ms.length)∧Bz w2 w')):=fun h w2 hb=>ZS P Ms n a b c d w2 (hP.below hb hn) (a8.below hb hn) (GL h) (aE hn hb.size)
 obtain⟨F,hF⟩:=enm (mO P Ms);obtain⟨R,hR⟩:=enm (dU Ms P Ms.length);have b5:Aside (F=0→R.length≤100000):=fun e=>by
  have h:=GL (hF.trans e);have h1:=UK Ms P Ms.length;have h2:=oN h.2.2.1 h.2.1;rw [←hR];omega
 rw [hF] at d1 d2 d3;rw [hR] at d1 d3;generalize Ms.length=lm,P.length=lp at*;clear hF hR hP a8 a6 hn a5;go_enter Tryz.func3,Tryz.ntmps3
 by_cases a7:F=0
 case neg=>
  have f1:(F==0)=false:=by simpa using a7
  have f2:(F !=0)=true:=by simpa using a7
  have f3:=aside a7;clear d3
  go_wp2_with (first
   |(go_at_call 8;(with_reducible refine d1.mono ?_);rintro e w2 ⟨a3,v2,rfl,hv,_⟩;obtain rfl:=hv f3.o;clear hv)
   |(go_at_call 9;(with_reducible refine(d2.o w2 a3).mono ?_);rintro e w3 ⟨rfl,hb3⟩;have a0:=a3.trans (hb3.mono a3.size))
   |(go_at_call 10;(with_reducible refine(a1.o w3 a0).mono ?_);rintro e w4 ⟨rfl,hb4⟩))
  go_ret
  exact⟨rfl,a0.trans (hb4.mono a0.size)⟩
 subst a7;have d4:Aside (∀w2,Bz w w2→Cz 11 #[.slice a lp c,.slice b lm d] w2 (fun e w'=>∃v,e= .returned v∧OutF w2.heap.size w' v R∧Bz w2 w')):=d3.o rfl;clear d3;obtain⟨len,hl⟩:∃l,R.length=l:=⟨_,rfl⟩;have Rl:=aside hl;have c3:len≤100000:=by have:=b5.o rfl;omega
 go_upto_region 8 with(first
   |(go_at_call 8;(with_reducible refine d1.mono ?_);rintro e w2 ⟨a3,v2,rfl,_,hv⟩;have b2:=hv rfl;clear hv;obtain⟨a2,c2,rfl,hr2⟩:=b2.read;rw [hl])
   |(go_at_call 9;(with_reducible refine(d2.o w2 a3).mono ?_);rintro e w3 ⟨rfl,hb3⟩;have a0:=a3.trans (hb3.mono a3.size))
   |(go_at_call 11;(with_reducible refine(d4.o w3 a0).mono ?_);rintro e w4 ⟨v4,rfl,hO4,hb4⟩;obtain⟨a4,c4,rfl,hr4⟩:=hO4.read;rw [hl]))
 have b1:Aside (Bz w w4):=a0.trans (hb4.mono a0.size);have b8:Aside (∀(k:Nat) f,R[k]?=some f→∃g g',a2=some ⟨g,0,none⟩∧a4=some ⟨g',0,none⟩∧∀w5,Bz w4 w5→
   (w5.cell? ⟨g,k*4,none⟩=some (.int .i64 f.1)∧w5.cell? ⟨g,k*4+1,none⟩=some (.int .i64 f.2.1)∧w5.cell? ⟨g,k*4+2,none⟩=some (.int .i64 f.2.2.1)∧w5.cell? ⟨g,k*4+3,none⟩=some (.int .i64 f.2.2.2))∧
   (w5.cell? ⟨g',k*4,none⟩=some (.int .i64 f.1)∧w5.cell? ⟨g',k*4+1,none⟩=some (.int .i64 f.2.1)∧w5.cell? ⟨g',k*4+2,none⟩=some (.int .i64 f.2.2.1)∧w5.cell? ⟨g',k*4+3,none⟩=some (.int .i64 f.2.2.2))):=by
  show∀(k:Nat) f,_;intro k f hk;obtain⟨g,e1,hg,x0,x1,x2,x3⟩:=hr2 k f hk;obtain⟨g',e2,hg',y0,y1,y2,y3⟩:=hr4 k f hk;refine⟨g,g',e1,e2,fun w5 b3=>?_⟩;have a9:Bz w2 w5:=(hb3.trans (hb4.mono hb3.size)).trans (b3.mono (aE hb3.size hb4.size));have q (o:Nat):=a9.cell (p:=⟨g,o,none⟩) hg;have q' (o:Nat):=b3.cell (p:=⟨g',o,none⟩) hg';exact⟨⟨(q _).trans x0,(q _).trans x1,(q _).trans x2,(q _).trans x3⟩,⟨(q' _).trans y0,(q' _).trans y1,(q' _).trans y2,(q' _).trans y3⟩⟩
 clear hr2 hr4 b2 hO4 a3 hb3 hb4 a0 d1 d2 d4 hl
 go_upto_region 9 with fail
 go_loopw [9] (fun s wr=>∃i:Nat,s= .int .i64 i∧i≤len∧Bz w4 wr) (fun s _=>len-(intOf s).toNat)
 case atStart=>exact⟨0,rfl,aJ _,aG _ _⟩
 case round=>
  obtain⟨wo,rfl⟩:=enr wr;obtain⟨i,rfl,hi,hbo⟩:=hrel
  by_cases b6:i<len
  ·obtain⟨f,hf⟩:=egf Rl.o b6;obtain⟨g,g',rfl,rfl,hcell⟩:=b8.o i f hf;have fd:Bz w4 wo.drew:=hbo.trans (cU _ _);obtain⟨⟨x0,x1,x2,x3⟩,⟨y0,y1,y2,y3⟩⟩:=hcell wo.drew fd;have b4:=aside fd;obtain⟨p,q,r,s⟩:=f;dsimp only at x0 x1 x2 x3 y0 y1 y2 y3;have c6:=ieqF p q r s;have c5:=ieqFG;obtain⟨c1,hi3,hw3⟩:=elt (i:=i) (n:=len) (by omega) (by omega);clear hf hcell hbo fd
   go_upto_region 11 with fail
   refine iA 8 (by kernel_rfl) (by kernel_rfl) ?_;simp only [aX,bI,aW,bD,gQ]
   repeat (with_reducible refine gP (fun K hK=>?_);go_simp;with_reducible refine hK _ ?_;clear hK K)
   refine iB ?_;show wpList _ _ _ _ _ _;go_wp2;go_roundw
   case rel=>exact⟨i+1,by simp,by omega,b4.o⟩
   case measure=>simp [intOf];omega
  ·obtain rfl:i=len:=by omega
   have b0:Aside (Bz w wo):=b1.o.trans (hbo.mono b1.o.size);clear hbo
   go_wp2_with (go_at_call 10;(with_reducible refine(a1.o wo b0.o).mono ?_);rintro e w6 ⟨rfl,hb6⟩)
   go_ret
   exact⟨rfl,b0.o.trans (hb6.mono b0.o.size)⟩
end
end Go.Proofs.YtbdpdeonapmlgaaGreatDoor
namespace Go.Proofs
open Go.RowKit Go.Maps Go.Sort Go.Shelf
attribute [local go_sem] Oper.semAt_some
def Tryz.upto {α:Type} (f:Nat→α) (k:Nat):List α:=(List.range k).map f
def Tryz.upto_succ {α:Type} (f:Nat→α) (k:Nat):Tryz.upto f (k+1)=Tryz.upto f k++ [f k]:=by simp [Tryz.upto,yW]
def Tryz.upto_length {α:Type} (f:Nat→α) (k:Nat):(Tryz.upto f k).length=k:=by simp [Tryz.upto]
def Tryz.upto_all (zs:List Int):Tryz.upto (fun j=>zs[j]?.getD 0) zs.length=zs:=by
 apply WH
 ·simp [Tryz.upto]
 ·intro i h1 h2;simp [Tryz.upto,h2]
def Tryz.values1_in (F:Fence) (n:Nat) (h7:F.fn 327) (a4:F.round=none) (hn:1≤n) (l Bs oB b off len cap:Nat) (zs:List Int) (a0:len*8≤140737488351232) (J:List Int→Wo→Prop)
  (hY:∀pre x W,J pre W→pre.length<len→YieldAt F (n-1) Tryz.prog l #[.int .i64 x] W fun e W'=>
   e= .returned (.bool true)∧J (pre++ [x]) W'∧KeepsWalks W W')
  (W:Wo) (a5:W.cell? ⟨Bs,oB,none⟩=some (.slice (some ⟨b,off,none⟩) len cap)) (hc:∀pre W,J pre W→∀j,j<len→W.cell? ⟨b,off+j,none⟩=some (.int .i64 (zs[j]?.getD 0))) (h0:J [] W):
  CallsIn F n Tryz.prog 327 #[.func (.yield l) #[] #[],.pointer (some ⟨Bs,oB,none⟩)] W fun e W'=>(∃v,e= .returned v)∧
   J (Tryz.upto (fun j=>zs[j]?.getD 0) len) W':=by
 refine callsIn_of_wp Tryz.func327 rfl h7 ?_ a4;simp only [Tryz.ntmps327,vP,iE,pY,Nat.reduceAdd,Nat.reduceSub,Mi,Mh,List.push_toArray,Mc,oO,qA]
 gi_wp2
 gi_loopw [7] (fun i wr=>∃k:Nat,k≤len∧i= .int .i64 k∧J (Tryz.upto (fun j=>zs[j]?.getD 0) k) wr)
  (fun i _=>len-(Go.RowKit.intOf i).toNat)
 case atStart=>exact⟨0,aJ _,rfl,h0⟩
 case round=>
  obtain⟨k,hk,rfl,hJs⟩:=hrel;have a2:=hc _ _ hJs
  by_cases a1:k<len
  ·obtain⟨fn,tmps,assign,body,hy,hR⟩:=hY _ (zs[k]?.getD 0) wr hJs (by rw [Tryz.upto_length];exact a1);have a3:=a2 k a1
   gi_wp2
   refine hR.mono ?_;rintro e W3 ⟨rfl,hJ3,hk3⟩
   gi_wp2
   go_roundw
   case rel=>exact⟨k+1,by omega,by simp,by rw [Tryz.upto_succ];exact hJ3⟩
   case measure=>simp [Go.RowKit.intOf];omega
  ·obtain rfl:k=len:=by omega
   gi_wp2
   go_end0
   exact⟨⟨_,rfl⟩,hJs⟩
end Go.Proofs
namespace Go.Proofs
open Go.Shelf
def Tryz.apL_ren:Go.Shelf.Ren:=⟨fun|11=>347|n=>n,fun|24=>64|26=>3|28=>314|0=>0|33=>119|4=>4|n=>n,fun|n=>n⟩
def Tryz.apL:Go.Proofs.SlLaysZI.n11 Tryz.prog Tryz.apL_ren:={
 mixed:=by kernel_rfl
 f11:=⟨Tryz.f347.name,by decide,Tryz.func347.trans (eY some (by kernel_rfl))⟩
 t0:=Tryz.underlying0
 a0:=Tryz.isAgg0
 z0:=Tryz.sizeOf0
 v0:=Tryz.zeroValue0
 t24:=Tryz.underlying64
 a24:=Tryz.isAgg64
 z24:=Tryz.sizeOf64
 v24:=Tryz.zeroValue64
 t26:=Tryz.underlying3
 a26:=Tryz.isAgg3
 z26:=Tryz.sizeOf3
 v26:=Tryz.zeroValue3
 t28:=Tryz.underlying314
 a28:=Tryz.isAgg314
 z28:=Tryz.sizeOf314
 v28:=Tryz.zeroValue314
 i26:=by kernel_rfl }
end Go.Proofs
namespace Go.Proofs
open Go.RowKit Go.Maps Go.Sort Go.Shelf
attribute [local go_sem] Oper.semAt_some
variable {P:Program} {ρ:Ren}
def AnyZI.appendSeqAt_in (L:SlLaysZI.n11 P ρ) (F:Fence) (n:Nat) (b3:F.fn (ρ.f 11)) (b1:F.round=none) (hn:2≤n) (g:Nat) (lb:Array Value) (b4:F.fn g) (eg:∀args w,(callFunc g args).run P w= .ok (.enter g args) w)
  (S:List Int→Prop) (N:Nat) (hN:N≤maxLen) (b5:N*8≤140737488355328) (w:Wo)
  (a5:∀(l fn D:Nat) (W:Wo),(∀pre x W1,AnyZI.ApAt ρ w fn (.func (.func g) #[] lb) w.heap.size l D pre W1→pre.length<N→YieldAt F (n-1-1) P l #[encZ x] W1 fun e W'=>e= .returned (.bool true)∧AnyZI.ApAt ρ w fn (.func (.func g) #[] lb) w.heap.size l D (pre++ [x]) W'∧KeepsWalks W1 W')→
    AnyZI.ApAt ρ w fn (.func (.func g) #[] lb) w.heap.size l D [] W→
    CallsIn F (n-1) P g (#[.func (.yield l) #[] #[]]++lb) W fun e W'=>(∃v,e= .returned v)∧∃xs,S xs∧AnyZI.ApAt ρ w fn (.func (.func g) #[] lb) w.heap.size l D xs W'):
  CallsIn F n P (ρ.f 11) #[.slice none 0 0,.func (.func g) #[] lb] w fun e w'=>∃(v:Value) (ss:List Int),e= .returned v∧S ss∧w'.ownsRow w.heap.size (ρ.t 26) 1 v ss.length (ss.map encZ)∧(v= .slice none 0 0↔ss= [])∧Below w.heap.size w w':=by
 have h1:1≤n:=by omega
 have mixed:=L.mixed;have t0:=L.t0;have a0:=L.a0;have z0:=L.z0;have v0:=L.v0;have t24:=L.t24;have a24:=L.a24;have z24:=L.z24;have v24:=L.v24;have t26:=L.t26;have a26:=L.a26;have z26:=L.z26;have v26:=L.v26;have t28:=L.t28;have a28:=L.a28;have z28:=L.z28;have v28:=L.v28;have b0:ρ.t 24≠ρ.t 26:=fun e=>by have h:=L.t24;rw [e,L.t26] at h;cases h
 have u0:=dW L.t0;have c3:=dW L.t24;have c4:=dW L.t26;have c5:=dW L.t28;obtain⟨_,_,FG⟩:=L.f11;refine callsIn_of_wp_marks FG rfl b3 ?_ b1;simp only [SlBodyZ.n11_ntmps ρ,vP,iE,pY,Nat.reduceAdd,Nat.reduceSub,Mi,Mh,List.push_toArray,Mc,oO,qA]
 gi_wp2
 refine wpIn_rangeFunc ?_;intro fn b7;rw [b1];obtain⟨W0,hW0⟩:∃W0,w.alloc (.cells #[.slice none 0 0] (ρ.t 24))=W0:=⟨_,rfl⟩;have b8:W0.heap.size=w.heap.size+1:=by rw [←hW0];simp
 have b9:W0.heap[w.heap.size]?=some (.cells #[.slice none 0 0] (ρ.t 24) (0,0)):=by rw [←hW0];exact US w _
 have a3:Below w.heap.size w W0:=by rw [←hW0];exact(aG _ w).alloc (aA _) _
 rw [hW0];obtain⟨W1,hW1⟩:∃W1,(W0.alloc (.deferred (some []))).alloc (.loop (AnyZI.apRec ρ fn (.func (.func g) #[] lb) w.heap.size W0.heap.size .ready none))=W1:=⟨_,rfl⟩;have a4:∀k,k<W0.heap.size→W1.heap[k]?=W0.heap[k]?:=fun k hk=>by
  rw [←hW1];exact(WP _ _ k (by simp;omega)).trans (WP _ _ k hk)
 have b6:Below w.heap.size w W1:=by rw [←hW1];exact(a3.alloc a3.size _).alloc (by have:=a3.size;simp;omega) _
 have c2:W1.heap.size=W0.heap.size+2:=by rw [←hW1];simp
 have hM:AnyZI.ApAt ρ w fn (.func (.func g) #[] lb) w.heap.size (W0.heap.size+1) W0.heap.size [] W1:=
  ⟨⟨_,(a4 w.heap.size (by omega)).trans b9,⟨rfl,.inl ⟨rfl,rfl⟩⟩,by simp⟩,
   by rw [←hW1];have:=US (W0.alloc (.deferred (some []))) (.loop (AnyZI.apRec ρ fn (.func (.func g) #[] lb) w.heap.size W0.heap.size .ready none));rwa [cW] at this,
   by rw [←hW1];exact(WP _ _ _ (by simp)).trans (US W0 _),b6⟩
 refine⟨W0.heap.size+1,[{ target:=.collected W0.heap.size,args:=#[] }],W1,{ target:=.fn (.func g) lb,args:=#[.func (.yield (W0.heap.size+1)) #[] #[]] },W1,g,
  #[.func (.yield (W0.heap.size+1)) #[] #[]]++lb,W1,?_,?_,?_,?_,fun _=>h1,?_⟩
 ·rw [←hW1];exact run_enterLoop_outer _ _ _ _ _
 ·simp [resolve,go_sem]
 ·intro f' a8;simp [Target.leads] at a8;subst a8;exact b4
 ·simp [invoke,go_sem,eg]
 ·refine(a5 (W0.heap.size+1) fn W0.heap.size W1
    (fun pre x W hJ hl=>AnyZI.apYield { L with } F (n-1-1) w fn b7 _ w.heap.size (W0.heap.size+1) W0.heap.size (by omega) (by omega) (by omega) (aA _) (by omega) N hN b5 pre x W hJ hl) hM).mono ?_
  rintro e W2 ⟨⟨v0,rfl⟩,ss,hS,h2⟩;obtain⟨v,hv,hrow,hnil⟩:=h2.box;have a2:=run_endLoop (P:=P) h2.L (by simp [AnyZI.apRec]);obtain⟨W3,hW3⟩:∃W3,W2.putObj (W0.heap.size+1) (.loop { AnyZI.apRec ρ fn (.func (.func g) #[] lb) w.heap.size W0.heap.size .ready none with state:=.exhausted })=W3:=⟨_,rfl⟩;rw [hW3] at a2;have a9:W2.grownBy W3 (some (W0.heap.size+1)):=by rw [←hW3];exact grownBy_putObj_a _ _ _
  have c0:W3.heap[w.heap.size]?=some (.cells #[v] (ρ.t 24) (0,0)):=by rw [←hW3];exact(Kt (by omega)).trans hv
  have a6:W3.heap[W0.heap.size]?=some (.deferred (some [])):=by rw [←hW3];exact(Kt (by omega)).trans h2.K
  have a1:=hrow.kept a9 (ownsRow_ne_a hrow h2.L (fun b2 e=>by first|cases e|exact b0 (Obj.cells.inj e).2.1));have a7:Below w.heap.size w W3:=h2.below.grown a9 h2.below.size (fun k e=>by cases e;omega);obtain⟨c1,hf3⟩:=cell_of_box_a c0;clear hW3;refine⟨none,W3,a2,?_⟩
  gi_wp2
  rw [←b8];refine⟨by simp,.inl ⟨_,_,rfl,run_takeDeferred a6,?_⟩⟩;exact⟨_,results_tmp rfl _ _ _,v,ss,rfl,hS,a1.kept (grownBy_putObj_a _ _ _) (ownsRow_ne_a a1 a6 (fun b2 e=>by first|cases e|exact b0 (Obj.cells.inj e).2.1)),hnil,a7.grown (grownBy_putObj_a _ _ _) a7.size (fun k e=>by cases e;omega)⟩
end Go.Proofs
