/- Lemmas; no condition. -/
import Derived.Test.YtbdpdeonapmlgaaGreatDoorAu
import Derived.RangeFuncBox
import Derived.RangeFuncLeaves
import Derived.Shelf.Abstract
import Derived.OwnWalkIn
import Derived.TacticsInMore
import Derived.LoopNIn
import Derived.LoopIn
import Derived.Shelf.SlIterI.Collect
import Derived.Shelf.SlLaysZI
set_option linter.all false
set_option maxHeartbeats 4000000
set_option maxRecDepth 100000
namespace Go.Proofs.YtbdpdeonapmlgaaGreatDoor
open Go.RowKit Go.Big Go.RowsK Go.MapK
variable {P L:List Cl} {C:Cl} {k n m g:Nat} {w w2:Wo} {Ms:List Md} {vs X:Lv}
section
attribute [local go_sem] Heavy.uponW
def gZ (P:List Cl) (k:Nat) (C:Cl):List Cl:=P.take k++ [C]++P.drop (k+1)
def LC (hk:k<P.length):(gZ P k C).length=P.length:=by
 unfold gZ;simp;omega
def YL (hk:k<P.length):(gZ P k C)[k]?=some C:=by
 unfold gZ;have h:(P.take k).length=k:=by simp;omega
 rw [fJ,dK (by omega),h];simp
def YK {D:Cl} (h:D∈gZ P k C):D∈P∨D=C:=by
 unfold gZ at h;simp only [cG,fI] at h;rcases h with(h|h)|h
 ·exact .inl (jS h)
 ·exact .inr h
 ·exact .inl (rI h)
def Bu (h:lH P Ms=0) (hk:k<P.length) (hC:C.flt=0):lH (gZ P k C) Ms=0:=by
 have h0:=wY h;have h1:kN P=0:=by
  unfold kN;rw [if_neg (by omega)];exact BT h0.1
 have h2:kN (gZ P k C)=0:=by
  unfold kN;rw [if_neg (by rw [LC hk];omega)];exact BT fun D hD=>(YK hD).elim (h0.1 D) fun e=>by rw [e];exact hC
 unfold lH at h ⊢;rw [if_neg (by rw [h1];simp)] at h;rw [if_neg (by rw [h2];simp)];exact h
def Jv {M:Md} (hk:k<P.length) (hM:Ms[m]?=some M) (hr:iE Ms C M=(0,0)) {f:Ft} (hf:f∈fO Ms (gZ P k C) Ms.length):¬(f.2.1=(k:Int)∧f.1=(m:Int)):=by
 rintro⟨h1,h2⟩;unfold fO at hf;rw [tJ] at hf;obtain⟨i,_,hf⟩:=hf;cases hi:Ms[i]? with
 |none=>simp [hi] at hf
 | some M'=>
  simp only [hi] at hf;unfold iA at hf;rw [tJ] at hf;obtain⟨j,_,hf⟩:=hf;cases hj:(gZ P k C)[j]? with
  |none=>simp [hj] at hf
  | some C'=>
   simp only [hj] at hf;obtain⟨q1,q2,q3⟩:=QS Ms i j M' C'
   by_cases e1:C'.h.ind=M'.ind
   ·by_cases e2:(iE Ms C' M').2=0
    ·rw [q2 e1 e2] at hf;simp at hf
    ·rw [q3 e1 e2] at hf;simp at hf;subst hf;simp at h1 h2;obtain rfl:j=k:=WH h1;obtain rfl:i=m:=WH h2;rw [YL hk] at hj;rw [hM] at hi;injection hj with hj
     injection hi with hi
     subst hj hi;rw [hr] at e2;exact e2 rfl
   ·rw [q1 e1] at hf;simp at hf
def zCl:Value:=.agg #[.int .i64 0,.int .i64 0,.string ⟨#[]⟩,.bool false,.slice none 0 0,.slice none 0 0,.slice none 0 0,.int .i64 0,.int .i64 0,.string ⟨#[]⟩,.bool false,.slice none 0 0,.slice none 0 0,.slice none 0 0,.int .i64 0]
def elCl:El Tryz.prog 22 50 15 232 zCl:=⟨Tryz.underlying22,by
  obtain⟨i0,h1,h2,h3,h4⟩:=mQ (show(Tryz.prog.info? 50).map (fun i=>(i.zero,i.size,i.bytes))=some (some zCl,15,232) by kernel_rfl);exact⟨i0,h1,h2,h3,h4⟩,rfl,by decide⟩
def cY (n:Nat) (w:Wo):List Cl→Lv→Prop
 | [],X=>X= []
 |C::r,X=>∃vs Y,X=vs++Y∧ClV n w C vs∧cY n w r Y
def ClV.len (h:ClV n w C vs):vs.length=15:=by
 obtain⟨vh,vb,rfl,h1,h2⟩:=h;simp only [jR,aI,h1.len,h2.len];rfl
def ClV.one (h:ClV n w C vs):∀u∈vs,u.oneCell'=true:=by
 obtain⟨vh,vb,rfl,h1,h2⟩:=h;intro u hu;simp only [jR,cG,fI] at hu;rcases hu with(hu|hu)|hu
 ·exact h1.one u hu
 ·exact h2.one u hu
 ·subst hu;rfl
def cY.len {n:Nat} {w:Wo}:∀{L:List Cl} {X:Lv},cY n w L X→X.length=L.length*15
 | [],_,h=>by simp only [cY] at h;subst h;rfl
 |C::r,_,h=>by
  simp only [cY] at h;obtain⟨vs,Y,rfl,h1,h2⟩:=h;rw [aI,h1.len,cY.len h2,eW];omega
def cY.one {n:Nat} {w:Wo}:∀{L:List Cl} {X:Lv},cY n w L X→∀u∈X,u.oneCell'=true
 | [],_,h,u,hu=>by simp only [cY] at h;subst h;simp at hu
 |C::r,_,h,u,hu=>by
  simp only [cY] at h;obtain⟨vs,Y,rfl,h1,h2⟩:=h;rcases cG.1 hu with hu|hu
  ·exact h1.one u hu
  ·exact cY.one h2 u hu
def cY.app {n:Nat} {w:Wo}:∀{L:List Cl} {X:Lv} {L2:List Cl} {X2:Lv},cY n w L X→cY n w L2 X2→cY n w (L++L2) (X++X2)
 | [],_,_,_,h,h2=>by simp only [cY] at h;subst h;exact h2
 |C::r,_,_,_,h,h2=>by
  simp only [cY] at h;obtain⟨vs,Y,rfl,h1,h3⟩:=h;simp only [mW,cY];exact⟨vs,_,fJ _ _ _,h1,cY.app h3 h2⟩
def ClV.up (h:n≤m) {C:Cl} {vs:Lv} (hv:ClV n w C vs):ClV m w C vs:=by
 obtain⟨vh,vb,e,h1,h2⟩:=hv;exact⟨vh,vb,e,TmV.up h _ _ h1,TmV.up h _ _ h2⟩
def cY.up {n m:Nat} {w:Wo} (h:n≤m):∀{L:List Cl} {X:Lv},cY n w L X→cY m w L X
 | [],_,hx=>hx
 |C::r,_,hx=>by
  simp only [cY] at hx ⊢;obtain⟨vs,Y,e,h1,h2⟩:=hx;exact⟨vs,Y,e,h1.up h,cY.up h h2⟩
def cY.below {n m:Nat} {w w':Wo} (hb:Below m w w') (hn:n≤m):∀{L:List Cl} {X:Lv},cY n w L X→cY n w' L X
 | [],_,hx=>hx
 |C::r,_,hx=>by
  simp only [cY] at hx ⊢;obtain⟨vs,Y,e,h1,h2⟩:=hx;exact⟨vs,Y,e,h1.below hb hn,cY.below hb hn h2⟩
def SI {n:Nat} {w:Wo}:∀{L:List Cl} {g off i:Nat},(∀(k:Nat) C,L[k]?=some C→∃vs,CellsAt w g (off+(i+k)*15) vs∧ClV n w C vs)→∃X,cY n w L X∧∀(j:Nat) u,X[j]?=some u→w.cell? ⟨g,off+i*15+j,none⟩=some u
 | [],_,_,_,_=>⟨[],rfl,fun j u h=>by simp at h⟩
 | C::r,g,off,i,h=>by
  obtain⟨vs,h1,h2⟩:=h 0 C rfl;obtain⟨Y,h3,h4⟩:=SI (L:=r) (g:=g) (off:=off) (i:=i+1) fun k D hk=>by
   have:=h (k+1) D (by simpa using hk)
   rwa [show i+(k+1)=i+1+k by omega] at this
  refine⟨vs++Y,by simp only [cY];exact⟨vs,Y,rfl,h2,h3⟩,fun j u hj=>?_⟩;have hl:=h2.len
  by_cases a1:j<15
  ·rw [dW (by omega)] at hj;have:=h1 j u hj
   rwa [fG] at this
  ·rw [dK (by omega),hl] at hj;have:=h4 (j-15) u hj
   rwa [show off+(i+1)*15+(j-15)=off+i*15+j by omega] at this
def Hh {a:Option Addr} (h:ClsV n w P a) (hP:P≠ []):∃g off,a=some ⟨g,off,none⟩∧g<n∧∀L i,(∀(k:Nat) C,L[k]?=some C→P[i+k]?=some C)→∃X,cY n w L X∧∀(j:Nat) u,X[j]?=some u→w.cell? ⟨g,off+i*15+j,none⟩=some u:=by
 cases P with
 |nil=>exact absurd rfl hP
 |cons C r=>
  obtain⟨g,off,vs,e,hg,_⟩:=h 0 C rfl;refine⟨g,off,e,hg,fun L i hL=>SI fun k D hk=>?_⟩;obtain⟨g',off',a0,e',_,h1,h2⟩:=h (i+k) D (hL k D hk);rw [e] at e';injection e' with e'
  injection e' with e1 e2
  subst e1 e2;exact⟨a0,h1,h2⟩
def SH {n m:Nat} {w:Wo} {g:Nat} (hg:g<m) (hn:n≤m):∀{L:List Cl} {X:Lv} {i:Nat},cY n w L X→(∀(j:Nat) u,X[j]?=some u→w.cell? ⟨g,i*15+j,none⟩=some u)→∀(k:Nat) C,L[k]?=some C→∃vs,CellsAt w g ((i+k)*15) vs∧ClV m w C vs
 | [],_,_,_,_,k,C,h=>by simp at h
 | D::r,X,i,hx,hc,k,C,h=>by
  simp only [cY] at hx;obtain⟨vs,Y,rfl,h1,h2⟩:=hx;have hl:=h1.len;cases k with
  |zero=>
   simp at h;subst h;exact⟨vs,fun j u hj=>hc j u (by rw [dW (aM.1 hj).1];exact hj),h1.up hn⟩
  | succ k=>
   obtain⟨a0,h3,h4⟩:=SH hg hn (i:=i+1) h2 (fun j u hj=>by
    have:=hc (15+j) u (by rw [dK (by omega),hl,show 15+j-15=j by omega];exact hj)
    rwa [show i*15+(15+j)=(i+1)*15+j by omega] at this) k C (by simpa using h)
   exact⟨a0,by rwa [show i+1+k=i+(k+1) by omega] at h3,h4⟩
def Aa {base:Nat} {v:Value} (h:w.ownsRow base 50 15 v L.length X) (hX:cY n w L X) (hn:n≤w.heap.size):∃a c,v= .slice a L.length c∧ClsV w.heap.size w L a:=by
 obtain⟨a,c,e,h1⟩:=iN h;refine⟨a,c,e,fun k C hk=>?_⟩;rcases h1 with h1|⟨g,rfl,_,hg,hc⟩
 ·obtain rfl:=gI h1;simp at hk
 ·obtain⟨vs,h2,h3⟩:=SH hg hn (i:=0) hX (fun j u hj=>by rw [pM,bT];exact hc j u hj) k C hk;exact⟨g,0,vs,rfl,hg,by rwa [bT] at h2 ⊢,h3⟩
end
section
attribute [local go_sem] Heavy.uponW
def list15 {α:Type} {l:List α} (h:l.length=15):∃u0 u1 u2 u3 u4 u5 u6 u7 u8 u9 a0 a1 a3 a4 a5,l= [u0,u1,u2,u3,u4,u5,u6,u7,u8,u9,a0,a1,a3,a4,a5]:=by
 match l,h with
 | [u0,u1,u2,u3,u4,u5,u6,u7,u8,u9,a0,a1,a3,a4,a5],_=>exact⟨_,_,_,_,_,_,_,_,_,_,_,_,_,_,_,rfl⟩
def NO {t:TypeId} (h:w2.heap[g]?=some (.cells vs.toArray t)):SrcAt w2 (.slice (some ⟨g,0,none⟩) 1 1) 1 vs:=.inr ⟨_,_,rfl,fun j u hj=>by
 rw [jI,bT];simp only [World.cell?,h];simpa using hj⟩
def Cv (P:List Cl) (Ms:List Md) (ci mi:Int) (n:Nat) (a b:Option Addr) (c d:Nat) (w:Wo) (hP:ClsV n w P a) (c6:MdsV n w Ms b) (b2:P.length≤c) (b4:Ms.length≤d) (hn:n≤w.heap.size)
  (c1:∀w',Bz w w'→Cz 10 #[] w' fun e f8=>e= .returned (.bool true)∧Bz w' f8):
  Cz 7 #[.slice a P.length c,.slice b Ms.length d,.int .i64 ci,.int .i64 mi] w fun e w'=>e= .returned (.bool true)∧Bz w w':=by
 have b1:=aside c1;have d1:=YP P Ms ci mi n a b c d w hP c6 b4 hn;have a7:=aside5 hP c6 hn b2 b4;obtain⟨lm,hlm⟩:∃l,Ms.length=l:=⟨_,rfl⟩;obtain⟨lp,hlp⟩:∃l,P.length=l:=⟨_,rfl⟩;have La:=aside2 hlp hlm;rw [hlm,hlp] at d1;rw [hlm,hlp];clear c1 hP c6 b4 b2 hn hlm hlp;go_enter Tryz.func7,Tryz.ntmps7
 go_upto_region 1 with fail
 refine dZ ?_
 iterate 4 (refine bE rfl fun K hK=>?_;go_simp;refine hK _ _ ?_;clear hK)
 refine bE rfl fun KK d3=>?_
 go_simp
 refine d1.mono ?_;rintro e w2 ⟨b8,cs,bb,err,⟨hl,h1⟩,rfl,hyes⟩;obtain⟨u0,u1,u2,u3,u4,u5,u6,u7,u8,u9,a0,a1,a3,a4,a5,rfl⟩:=list15 hl;have f0:Aside (w.heap.size≤w2.heap.size):=b8.size;refine d3 _ _ ?_;clear d3 d1 hl
 iterate 5 (refine bE rfl fun K hK=>?_;go_simp;refine hK _ _ ?_;clear hK)
 have ba:=aC w2 (Obj.cells #[.int .i64 0,.int .i64 0,.string ⟨#[]⟩,.bool false,.slice none 0 0,.slice none 0 0,.slice none 0 0,.int .i64 0,.int .i64 0,.string ⟨#[]⟩,.bool false,.slice none 0 0,.slice none 0 0,.slice none 0 0,.int .i64 0] 50);have e4:=aJ w2 (Obj.cells #[.int .i64 0,.int .i64 0,.string ⟨#[]⟩,.bool false,.slice none 0 0,.slice none 0 0,.slice none 0 0,.int .i64 0,.int .i64 0,.string ⟨#[]⟩,.bool false,.slice none 0 0,.slice none 0 0,.slice none 0 0,.int .i64 0] 50);obtain⟨w3,hst,hq3,hg3,hs3⟩:=fT (vs:=[u0,u1,u2,u3,u4,u5,u6,u7,u8,u9,a0,a1,a3,a4,a5]) e4 rfl h1;have e6:=nG hst;have b3:Bz w2 w3:=ba.grown hg3 ba.size (by intro k hk;injection hk with hk;omega);have a6:Aside (Bz w w3∧Bz w2 w3∧w3.heap[w2.heap.size]?=some (.cells #[u0,u1,u2,u3,u4,u5,u6,u7,u8,u9,a0,a1,a3,a4,a5] 50)∧(∀u∈([u0,u1,u2,u3,u4,u5,u6,u7,u8,u9,a0,a1,a3,a4,a5]:Lv),u.oneCell'=true)):=⟨b8.trans (b3.mono b8.size),b3,hq3,h1⟩;have c3:=aside hyes;clear hst e4 ba hq3 hg3 hs3 b3 hyes h1 b8;refine eR rfl 50 _ _ rfl (v:=.pointer (some ⟨w2.heap.size,0,none⟩)) (u:=.agg #[u0,u1,u2,u3,u4,u5,u6,u7,u8,u9,a0,a1,a3,a4,a5]) rfl rfl e6 ?_;clear e6
 iterate 2 (refine bE rfl fun K hK=>?_;go_simp;refine hK _ _ ?_;clear hK)
 have d2:=b1.o w3 a6.o.1
 by_cases he:err=0
 case neg=>
  have f1:(err==0)=false:=by simpa using he
  have f2:(err !=0)=true:=by simpa using he
  go_wp2_with (go_at_call 10;(with_reducible refine d2.mono ?_);rintro e w4 ⟨rfl,hb4⟩)
  go_ret
  exact⟨rfl,a6.o.1.trans (hb4.mono a6.o.1.size)⟩
 subst he;cases bb
 case false=>
  go_wp2_with (go_at_call 10;(with_reducible refine d2.mono ?_);rintro e w4 ⟨rfl,hb4⟩)
  go_ret
  exact⟨rfl,a6.o.1.trans (hb4.mono a6.o.1.size)⟩
 obtain⟨k,m,C,C',M,rfl,rfl,hPk,hMm,hF,hCf,hcl,hV⟩:=c3.o rfl rfl;clear d2 c3
 go_upto_region 4 with fail
 have e0:=(aM.1 hPk).1;have g3:k<lp:=by have:=La.o.1;omega
 have e3:=wY hF;obtain⟨g,off,rfl,hg,hsrc⟩:=Hh a7.o.1 (fun e=>by rw [e] at hPk;simp at hPk);obtain⟨X1,hX1,hc1⟩:=hsrc (P.take k) 0 fun j D hj=>by
  rw [vQ] at hj;split at hj
  ·rwa [bT]
  ·cases hj
 obtain⟨X2,hX2,hc2⟩:=hsrc (P.drop (k+1)) (k+1) fun j D hj=>by rwa [jF] at hj
 have S1:Aside (∀w5,Bz w w5→SrcAt w5 (.slice (some ⟨g,off,none⟩) k c) k X1):=fun w5 hb=>.inr ⟨_,_,rfl,fun j u hj=>by
  rw [jI];have:=hc1 j u hj;rw [pM,fG] at this;exact(hb.cell (p:=⟨g,off+j,none⟩) (aR hg a7.o.2.2.1)).trans this⟩
 have S2:Aside (∀w5 c',Bz w w5→SrcAt w5 (.slice (some ⟨g,off+(k+1)*15,none⟩) (lp-(k+1)) c') (lp-(k+1)) X2):=fun w5 c' hb=>.inr ⟨_,_,rfl,fun j u hj=>by
  rw [jI];exact(hb.cell (p:=⟨g,off+(k+1)*15+j,none⟩) (aR hg a7.o.2.2.1)).trans (hc2 j u hj)⟩
 have l1:X1.length=k*15:=by rw [hX1.len,aX,La.o.1,oE (by omega)]
 have l2:X2.length=(lp-(k+1))*15:=by rw [hX2.len,cW,La.o.1]
 have XA:Aside (cY n w (P.take k) X1∧cY n w (P.drop (k+1)) X2∧X1.length=k*15∧X2.length=(lp-(k+1))*15∧lp≤300∧(∀u∈X1,u.oneCell'=true)∧(∀u∈X2,u.oneCell'=true)):=⟨hX1,hX2,l1,l2,by have:=La.o.1;have:=e3.2.1;omega,hX1.one,hX2.one⟩;have QA:=aside7 e0 hMm hF hCf hcl hV hPk;have fa:Aside (∀w5,Bz w3 w5→_):=fun(w5:Wo) (hb:Bz w3 w5)=>pI ((hb.block w2.heap.size (aG.1 a6.o.2.2.1).1).trans a6.o.2.2.1)
 have i1:(0:Int)≤(k:Int):=by omega
 have i2:(k:Int)≤(c:Int):=by have:=a7.o.2.2.2.1;omega
 have i3:k≤c:=by have:=a7.o.2.2.2.1;omega
 have i4:k+1≤lp:=by omega
 have i5:lp≤c:=by have:=a7.o.2.2.2.1;have:=La.o.1;omega
 have i6:(k:Int)+1≤(lp:Int):=by omega
 have i7:(lp:Int)≤(c:Int):=by omega
 have i8:(0:Int)≤(k:Int)+1:=by omega
 have i9:((k:Int)+1).toNat=k+1:=by omega
 have g5:IntKind.i64.wrap ((k:Int)+1)=(k:Int)+1:=by rw [dX];have:=XA.o.2.2.2.2.1;omega
 clear hPk e0 hMm hF hCf hcl hV e3 hg hsrc hX1 hX2 hc1 hc2 l1 l2;have fd:Bz w3 w3.drew:=dO _ _;refine hRp (Bz w3) 11 (Heavy.lights [0,1,2,4,7,8,9,10] (.two 3 5 (.one 5 (.one 6 .done)) (.one 3 (.one 6 .done)))) (by kernel_rfl) (by kernel_rfl) fd ?_;obtain⟨a2,ha2⟩:∃x,(if c=k+1 then some (Addr.mk g off none) else some (Addr.mk g (off+(k+1)*15) none))=x:=⟨_,rfl⟩;have S3:Aside (∀w5,Bz w w5→SrcAt w5 (.slice a2 (lp-(k+1)) (c-(k+1))) (lp-(k+1)) X2):=fun w5 hb=>by
  rw [←ha2];split
  ·next hc=>
   have h0:lp-(k+1)=0:=by omega
   have hx:X2= []:=gI (by have:=XA.o.2.2.2.1;rw [h0] at this;omega);rw [h0,hx];exact .inr ⟨_,_,rfl,fun j u hj=>by simp at hj⟩
  ·exact S2.o w5 _ hb
 have b0:Aside ((0+k≤maxLen)∧((0+k)*232≤140737488355328)∧(k+1≤maxLen)∧((k+1)*232≤140737488355328)∧(k+1+(lp-(k+1))≤maxLen)∧((k+1+(lp-(k+1)))*232≤140737488355328)):=by
  show _∧_;have:=XA.o.2.2.2.2.1;unfold maxLen;exact⟨by omega,by omega,by omega,by omega,by omega,by omega⟩
 refine rR (R:=fun a' w'=>∃e7 e8 e9,a'={ tmps:=#[.slice (some ⟨g,off,none⟩) lp c,.slice b lm d,.int .i64 k,.int .i64 m,undef,undef,undef,undef,.bool false,.pointer (some ⟨w2.heap.size,0,none⟩),.bool true,.int .i64 0,undef,undef,undef,undef,.tuple #[.agg #[u0,u1,u2,u3,u4,u5,u6,u7,u8,u9,a0,a1,a3,a4,a5],.bool true,.int .i64 0],.slice (some ⟨g,off,none⟩) lp c,.slice b lm d,.int .i64 k,.int .i64 m,.tuple #[.agg #[u0,u1,u2,u3,u4,u5,u6,u7,u8,u9,a0,a1,a3,a4,a5],.bool true,.int .i64 0],.agg #[u0,u1,u2,u3,u4,u5,u6,u7,u8,u9,a0,a1,a3,a4,a5],.bool true,.int .i64 0,.int .i64 0,.bool false,.bool false,.bool true,.bool false,.bool false,undef,.slice (some ⟨g,off,none⟩) lp c,.int .i64 k,.slice (some ⟨g,off,none⟩) k c,e7,.agg #[u0,u1,u2,u3,u4,u5,u6,u7,u8,u9,a0,a1,a3,a4,a5],e8,e9,.slice (some ⟨g,off,none⟩) lp c,.int .i64 k,.int .i64 ((k:Int)+1),.slice a2 (lp-(k+1)) (c-(k+1)),undef,undef,undef,undef,undef,undef,undef,undef,undef,undef,undef,undef,undef,undef,undef,undef,undef,undef,undef,undef,undef,undef,undef,undef,undef,undef,undef,undef,undef,undef,undef,undef],defers:=[] }∧Bz w3 w'∧w'.ownsRow w3.heap.size 50 15 e9 (k+1) (X1++ [u0,u1,u2,u3,u4,u5,u6,u7,u8,u9,a0,a1,a3,a4,a5])) (fun a' w5 hR=>?_) _ _ _ ?_
 case refine_2=>
  show Heavy.runP _ _ _ _ _ _ w3.drew;obtain⟨z0,hz0⟩:∃x,w3.drew=x:=⟨_,rfl⟩;rw [hz0] at fd ⊢;simp only [Heavy.lights,bL,bY,aZ,bG]
  iterate 3 ((apply hLm;(exact rfl);(exact rfl);(intro d0 hw;go_simp;exact rfl);(go_simp;exact rfl)))
  (apply hLm;(exact rfl);(exact rfl);(intro d0 hw;obtain⟨x0,x1,x2,x3,x4,x5,x6,x7,x8,x9,x10,x11,x12,x13,x14⟩:=fa.o d0 hw;go_simp;exact rfl);(go_simp;exact rfl))
  iterate 4 ((apply hLm;(exact rfl);(exact rfl);(intro d0 hw;go_simp;exact rfl);(go_simp;exact rfl)))
  try rw [ha2]
  apply Heavy.two_of
  ·refine Heavy.one_app elCl rfl rfl _ _ rfl w3.heap.size (.slice none 0 0) 0 [] rfl (pL _ _ _ _) (.slice (some ⟨g,off,none⟩) k c) k X1 rfl (S1.o z0 (a6.o.1.trans (fd.mono a6.o.1.size))) XA.o.2.2.1 XA.o.2.2.2.2.2.1 b0.o.1 b0.o.2.1 fd.size ?_;intro v4 w4 h4 c4 _;rw [bT,kX] at h4;have f4:Bz w3 w4:=fd.grown c4 fd.size (by intro k hk;cases hk);refine⟨f4,?_⟩
   (refine hNa (by go_simp;exact rfl) ?_)
   (apply hOn;(exact rfl);(exact rfl));go_simp
   have bx:=aC w4 (Obj.cells #[u0,u1,u2,u3,u4,u5,u6,u7,u8,u9,a0,a1,a3,a4,a5] 50);have b9:=aJ w4 (Obj.cells #[u0,u1,u2,u3,u4,u5,u6,u7,u8,u9,a0,a1,a3,a4,a5] 50);obtain⟨w6,hw6⟩:∃x,w4.alloc (Obj.cells #[u0,u1,u2,u3,u4,u5,u6,u7,u8,u9,a0,a1,a3,a4,a5] 50)=x:=⟨_,rfl⟩;rw [hw6] at bx b9 ⊢;have f6:Bz w3 w6:=f4.trans (bx.mono f4.size);refine⟨f6,?_⟩
   (refine hNa (by go_simp;exact rfl) ?_)
   have b7:=gJ h4 bx (aA _);have b5:=NO (w2:=w6) (vs:=[u0,u1,u2,u3,u4,u5,u6,u7,u8,u9,a0,a1,a3,a4,a5]) b9;refine Heavy.one_app elCl rfl rfl _ _ rfl w3.heap.size v4 k X1 rfl b7 (.slice (some ⟨w4.heap.size,0,none⟩) 1 1) 1 [u0,u1,u2,u3,u4,u5,u6,u7,u8,u9,a0,a1,a3,a4,a5] rfl b5 rfl a6.o.2.2.2 b0.o.2.2.1 b0.o.2.2.2.1 f6.size ?_;intro v6 w7 h6 c7 _;have f7:Bz w3 w7:=f6.grown c7 f6.size (fun j hj=>(cF b7 j hj).1);refine⟨f7,?_⟩
   (refine hNa (by go_simp;exact rfl) ?_)
   apply hPe;exact⟨_,_,_,rfl,f7,h6⟩
  ·(apply hOn;(exact rfl);(exact rfl));go_simp
   have bx:=aC z0 (Obj.cells #[u0,u1,u2,u3,u4,u5,u6,u7,u8,u9,a0,a1,a3,a4,a5] 50);have b9:=aJ z0 (Obj.cells #[u0,u1,u2,u3,u4,u5,u6,u7,u8,u9,a0,a1,a3,a4,a5] 50);obtain⟨w4,hw4⟩:∃x,z0.alloc (Obj.cells #[u0,u1,u2,u3,u4,u5,u6,u7,u8,u9,a0,a1,a3,a4,a5] 50)=x:=⟨_,rfl⟩;rw [hw4] at bx b9 ⊢;have f4:Bz w3 w4:=fd.trans (bx.mono fd.size);refine⟨f4,?_⟩
   (refine hNa (by go_simp;exact rfl) ?_)
   refine Heavy.one_app elCl rfl rfl _ _ rfl w3.heap.size (.slice none 0 0) 0 [] rfl (pL _ _ _ _) (.slice (some ⟨g,off,none⟩) k c) k X1 rfl (S1.o w4 (a6.o.1.trans (f4.mono a6.o.1.size))) XA.o.2.2.1 XA.o.2.2.2.2.2.1 b0.o.1 b0.o.2.1 f4.size ?_;intro v4 w6 b7 c4 _;rw [bT,kX] at b7;have f6:Bz w3 w6:=f4.grown c4 f4.size (by intro k hk;cases hk);refine⟨f6,?_⟩
   (refine hNa (by go_simp;exact rfl) ?_)
   have b5:=NO (w2:=w6) (vs:=[u0,u1,u2,u3,u4,u5,u6,u7,u8,u9,a0,a1,a3,a4,a5]) ((c4.block z0.heap.size (aG.1 b9).1 (by simp [Value.ownBlock])).trans b9);refine Heavy.one_app elCl rfl rfl _ _ rfl w3.heap.size v4 k X1 rfl b7 (.slice (some ⟨z0.heap.size,0,none⟩) 1 1) 1 [u0,u1,u2,u3,u4,u5,u6,u7,u8,u9,a0,a1,a3,a4,a5] rfl b5 rfl a6.o.2.2.2 b0.o.2.2.1 b0.o.2.2.2.1 f6.size ?_;intro v6 w7 h6 c7 _;have f7:Bz w3 w7:=f6.grown c7 f6.size (fun j hj=>(cF b7 j hj).1);refine⟨f7,?_⟩
   (refine hNa (by go_simp;exact rfl) ?_)
   apply hPe;exact⟨_,_,_,rfl,f7,h6⟩
 case refine_1=>
  obtain⟨e7,e8,v6,rfl,f6,h6⟩:=hR;have f9:=aside f6;show wpList _ _ _ _ _ _;simp only [aZ,bG];refine jK elCl _ rfl _ _ rfl w3.heap.size v6 (k+1) (X1++ [u0,u1,u2,u3,u4,u5,u6,u7,u8,u9,a0,a1,a3,a4,a5]) rfl h6 (.slice a2 (lp-(k+1)) (c-(k+1))) (lp-(k+1)) X2 rfl (S3.o w5 (a6.o.1.trans (f6.mono a6.o.1.size))) XA.o.2.2.2.1 XA.o.2.2.2.2.2.2 b0.o.2.2.2.2.1 b0.o.2.2.2.2.2 f6.size ?_;intro v7 w7 h7 d7 _;have f7:Bz w3 w7:=f6.grown d7 f6.size (fun j hj=>(cF h6 j hj).1);have b6:Aside (Bz w w7∧Bz w3 w7):=⟨a6.o.1.trans (f7.mono a6.o.1.size),f7⟩;have c0:(gZ P k C').length=lp:=(LC QA.o.1).trans La.o.1;have d6:cY w2.heap.size w7 (gZ P k C') (X1++ [u0,u1,u2,u3,u4,u5,u6,u7,u8,u9,a0,a1,a3,a4,a5]++X2):=by
   have b8:Bz w2 w7:=a6.o.2.1.trans (f7.mono a6.o.2.1.size);have e2:n≤w2.heap.size:=by have:=a7.o.2.2.1;have:=f0.o;omega
   have q1:=(XA.o.1.below b6.o.1 a7.o.2.2.1).up e2;have q2:=(XA.o.2.1.below b6.o.1 a7.o.2.2.1).up e2;have q3:cY w2.heap.size w7 [C'] [u0,u1,u2,u3,u4,u5,u6,u7,u8,u9,a0,a1,a3,a4,a5]:=by
    simp only [cY];exact⟨[u0,u1,u2,u3,u4,u5,u6,u7,u8,u9,a0,a1,a3,a4,a5],[],rfl,QA.o.2.2.2.2.2.1.below b8 (aA _),rfl⟩
   exact(q1.app q3).app q2
  have c2:w7.ownsRow w3.heap.size 50 15 v7 (gZ P k C').length (X1++ [u0,u1,u2,u3,u4,u5,u6,u7,u8,u9,a0,a1,a3,a4,a5]++X2):=by
   rw [c0];have e:k+1+(lp-(k+1))=lp:=by omega
   rwa [e] at h7
  obtain⟨a9,c9,rfl,hQ⟩:=Aa c2 d6 (by have:=a6.o.2.1.size;have:=f7.size;omega);have d8:=Hp (gZ P k C') Ms w7.heap.size a9 b c9 d w7 hQ ((a7.o.2.1.below b6.o.1 a7.o.2.2.1).up (aD a7.o.2.2.1 b6.o.1.size)) a7.o.2.2.2.2 (aA _);rw [Bu QA.o.2.2.1 QA.o.1 QA.o.2.2.2.1] at d8;have RF:Aside (∀f∈fO Ms (gZ P k C') Ms.length,¬(f.2.1=(k:Int)∧f.1=(m:Int))):=fun f hf=>Jv QA.o.1 QA.o.2.1 QA.o.2.2.2.2.1 hf
  have Rb:Aside ((fO Ms (gZ P k C') Ms.length).length≤100000):=by
   show _≤_;have h1:=UR Ms (gZ P k C') Ms.length;have h2:=rE (wY QA.o.2.2.1).2.2.1 (show(gZ P k C').length≤300 by rw [c0];exact XA.o.2.2.2.2.1);omega
  obtain⟨R,hR⟩:=enm (fO Ms (gZ P k C') Ms.length);rw [hR] at d8 RF Rb;obtain⟨len,hl⟩:∃l,R.length=l:=⟨_,rfl⟩;have Rl:=aside hl;have g4:len≤100000:=by have:=Rb.o;omega
  rw [c0,La.o.2] at d8;rw [c0];clear hR c0 d6 c2 hQ h6 h7 d7 f6 f7 hl
  iterate 1 (refine bE rfl fun K hK=>?_;go_simp;refine hK _ _ ?_;clear hK)
  go_upto_region 8 with(go_at_call 8;(with_reducible refine d8.mono ?_);rintro e w8 ⟨d5,v8,rfl,_,hv8⟩;have d4:=hv8 rfl;clear hv8)
  obtain⟨a8,c8,rfl,hr8⟩:=d4.read;rw [Rl.o];have h8:Aside (Bz w w8):=b6.o.1.trans (d5.mono b6.o.1.size);have f5:Aside (∀(j:Nat) f,R[j]?=some f→∃g',a8=some ⟨g',0,none⟩∧g'<w8.heap.size∧w8.cell? ⟨g',j*4,none⟩=some (.int .i64 f.1)∧w8.cell? ⟨g',j*4+1,none⟩=some (.int .i64 f.2.1)):=fun j f hj=>by
   obtain⟨g',e1,hg',x0,x1,_⟩:=hr8 j f hj;exact⟨g',e1,hg',x0,x1⟩
  clear hr8 d4 d5 d8
  go_upto_region 9 with fail
  go_loopw [15] (fun s wr=>∃i:Nat,s= .int .i64 i∧i≤len∧wr=w8) (fun s _=>len-(intOf s).toNat)
  case atStart=>exact⟨0,rfl,bX _,rfl⟩
  case round=>
   obtain⟨i,rfl,hi,rfl⟩:=hrel
   by_cases f3:i<len
   ·obtain⟨f,hf⟩:=egf Rl.o f3;obtain⟨g',rfl,_,x0,x1⟩:=f5.o i f hf;have c5:=RF.o f (aV hf);obtain⟨p,q,r,s⟩:=f;dsimp only at x0 x1 c5;obtain⟨g0,hi3,hw4⟩:=elt (i:=i) (n:=len) (by omega) (by omega);clear hf
    by_cases hq:q=(k:Int)
    ·have hp:¬p=(m:Int):=fun e=>c5 ⟨hq,e⟩
     have g1:(q==(k:Int))=true:=by simpa using hq
     have g2:(p==(m:Int))=false:=by simpa using hp
     clear c5 hq hp;go_wp2;exact⟨⟨i+1,by simp,by omega,trivial⟩,by simp [intOf];omega⟩
    ·have g1:(q==(k:Int))=false:=by simpa using hq
     clear c5 hq;go_wp2;exact⟨⟨i+1,by simp,by omega,trivial⟩,by simp [intOf];omega⟩
   ·obtain rfl:i=len:=by omega
    have d9:=b1.o wr h8.o
    go_wp2_with (go_at_call 10;(with_reducible refine d9.mono ?_);rintro e w6 ⟨rfl,hb6⟩)
    go_ret
    exact⟨rfl,h8.o.trans (hb6.mono h8.o.size)⟩
end
end Go.Proofs.YtbdpdeonapmlgaaGreatDoor
namespace Go.Proofs
open Go.RowKit Go.Maps Go.Sort Go.Shelf
attribute [local go_sem] Oper.semAt_some
def Tryz.upto {α:Type} (f:Nat→α) (k:Nat):List α:=(List.range k).map f
def Tryz.upto_succ {α:Type} (f:Nat→α) (k:Nat):Tryz.upto f (k+1)=Tryz.upto f k++ [f k]:=by simp [Tryz.upto,yS]
def Tryz.upto_length {α:Type} (f:Nat→α) (k:Nat):(Tryz.upto f k).length=k:=by simp [Tryz.upto]
def Tryz.upto_all (zs:List Int):Tryz.upto (fun j=>zs[j]?.getD 0) zs.length=zs:=by
 apply WC
 ·simp [Tryz.upto]
 ·intro i h1 h2;simp [Tryz.upto,h2]
def Tryz.values1_in (F:Fence) (n:Nat) (h7:F.fn 327) (a5:F.round=none) (hn:1≤n) (l Bs oB b off len cap:Nat) (zs:List Int) (a1:len*8≤140737488351232) (J:List Int→Wo→Prop)
  (hY:∀a0 x W,J a0 W→a0.length<len→YieldAt F (n-1) Tryz.prog l #[.int .i64 x] W fun e W'=>
   e= .returned (.bool true)∧J (a0++ [x]) W'∧KeepsWalks W W')
  (W:Wo) (a6:W.cell? ⟨Bs,oB,none⟩=some (.slice (some ⟨b,off,none⟩) len cap)) (hc:∀a0 W,J a0 W→∀j,j<len→W.cell? ⟨b,off+j,none⟩=some (.int .i64 (zs[j]?.getD 0))) (h0:J [] W):
  CallsIn F n Tryz.prog 327 #[.func (.yield l) #[] #[],.pointer (some ⟨Bs,oB,none⟩)] W fun e W'=>(∃v,e= .returned v)∧
   J (Tryz.upto (fun j=>zs[j]?.getD 0) len) W':=by
 refine callsIn_of_wp Tryz.func327 rfl h7 ?_ a5;simp only [Tryz.ntmps327,tH,eW,oG,Nat.reduceAdd,Nat.reduceSub,Lj,Li,List.push_toArray,Ld,kX,mW]
 gi_wp2
 gi_loopw [7] (fun i wr=>∃k:Nat,k≤len∧i= .int .i64 k∧J (Tryz.upto (fun j=>zs[j]?.getD 0) k) wr)
  (fun i _=>len-(Go.RowKit.intOf i).toNat)
 case atStart=>exact⟨0,bX _,rfl,h0⟩
 case round=>
  obtain⟨k,hk,rfl,hJs⟩:=hrel;have a3:=hc _ _ hJs
  by_cases a2:k<len
  ·obtain⟨fn,tmps,assign,body,hy,hR⟩:=hY _ (zs[k]?.getD 0) wr hJs (by rw [Tryz.upto_length];exact a2);have a4:=a3 k a2
   gi_wp2
   refine hR.mono ?_;rintro e W3 ⟨rfl,hJ3,hk3⟩
   gi_wp2
   go_roundw
   case rel=>exact⟨k+1,by omega,by simp,by rw [Tryz.upto_succ];exact hJ3⟩
   case measure=>simp [Go.RowKit.intOf];omega
  ·obtain rfl:k=len:=by omega
   gi_wp2
   go_end0
   exact⟨⟨_,rfl⟩,hJs⟩
end Go.Proofs
namespace Go.Proofs
open Go.Shelf
def Tryz.apL_ren:Go.Shelf.Ren:=⟨fun|11=>347|n=>n,fun|24=>64|26=>3|28=>314|0=>0|33=>119|4=>4|n=>n,fun|n=>n⟩
def Tryz.apL:Go.Proofs.SlLaysZI.n11 Tryz.prog Tryz.apL_ren:={
 mixed:=by kernel_rfl
 f11:=⟨Tryz.f347.name,by decide,Tryz.func347.trans (eT some (by kernel_rfl))⟩
 t0:=Tryz.underlying0
 a0:=Tryz.isAgg0
 z0:=Tryz.sizeOf0
 v0:=Tryz.zeroValue0
 t24:=Tryz.underlying64
 a24:=Tryz.isAgg64
 z24:=Tryz.sizeOf64
 v24:=Tryz.zeroValue64
 t26:=Tryz.underlying3
 a26:=Tryz.isAgg3
 z26:=Tryz.sizeOf3
 v26:=Tryz.zeroValue3
 t28:=Tryz.underlying314
 a28:=Tryz.isAgg314
 z28:=Tryz.sizeOf314
 v28:=Tryz.zeroValue314
 i26:=by kernel_rfl }
end Go.Proofs
namespace Go.Proofs
open Go.RowKit Go.Maps Go.Sort Go.Shelf
attribute [local go_sem] Oper.semAt_some
variable {P:Program} {ρ:Ren}
def AnyZI.appendSeqAt_in (L:SlLaysZI.n11 P ρ) (F:Fence) (n:Nat) (b4:F.fn (ρ.f 11)) (b2:F.round=none) (hn:2≤n) (g:Nat) (lb:Array Value) (b5:F.fn g) (eg:∀args w,(callFunc g args).run P w= .ok (.enter g args) w)
  (S:List Int→Prop) (N:Nat) (hN:N≤maxLen) (b6:N*8≤140737488355328) (w:Wo)
  (a6:∀(l fn D:Nat) (W:Wo),(∀a3 x W1,AnyZI.ApAt ρ w fn (.func (.func g) #[] lb) w.heap.size l D a3 W1→a3.length<N→YieldAt F (n-1-1) P l #[encZ x] W1 fun e W'=>e= .returned (.bool true)∧AnyZI.ApAt ρ w fn (.func (.func g) #[] lb) w.heap.size l D (a3++ [x]) W'∧KeepsWalks W1 W')→
    AnyZI.ApAt ρ w fn (.func (.func g) #[] lb) w.heap.size l D [] W→
    CallsIn F (n-1) P g (#[.func (.yield l) #[] #[]]++lb) W fun e W'=>(∃v,e= .returned v)∧∃xs,S xs∧AnyZI.ApAt ρ w fn (.func (.func g) #[] lb) w.heap.size l D xs W'):
  CallsIn F n P (ρ.f 11) #[.slice none 0 0,.func (.func g) #[] lb] w fun e w'=>∃(v:Value) (ss:List Int),e= .returned v∧S ss∧w'.ownsRow w.heap.size (ρ.t 26) 1 v ss.length (ss.map encZ)∧(v= .slice none 0 0↔ss= [])∧Below w.heap.size w w':=by
 have h1:1≤n:=by omega
 have mixed:=L.mixed;have t0:=L.t0;have a0:=L.a0;have z0:=L.z0;have v0:=L.v0;have t24:=L.t24;have a24:=L.a24;have z24:=L.z24;have v24:=L.v24;have t26:=L.t26;have a26:=L.a26;have z26:=L.z26;have v26:=L.v26;have t28:=L.t28;have a28:=L.a28;have z28:=L.z28;have v28:=L.v28;have b1:ρ.t 24≠ρ.t 26:=fun e=>by have h:=L.t24;rw [e,L.t26] at h;cases h
 have u0:=dQ L.t0;have c4:=dQ L.t24;have c5:=dQ L.t26;have c6:=dQ L.t28;obtain⟨_,_,FG⟩:=L.f11;refine callsIn_of_wp_marks FG rfl b4 ?_ b2;simp only [SlBodyZ.n11_ntmps ρ,tH,eW,oG,Nat.reduceAdd,Nat.reduceSub,Lj,Li,List.push_toArray,Ld,kX,mW]
 gi_wp2
 refine wpIn_rangeFunc ?_;intro fn b8;rw [b2];obtain⟨W0,hW0⟩:∃W0,w.alloc (.cells #[.slice none 0 0] (ρ.t 24))=W0:=⟨_,rfl⟩;have b9:W0.heap.size=w.heap.size+1:=by rw [←hW0];simp
 have c0:W0.heap[w.heap.size]?=some (.cells #[.slice none 0 0] (ρ.t 24) (0,0)):=by rw [←hW0];exact UX w _
 have a4:Below w.heap.size w W0:=by rw [←hW0];exact(bD _ w).alloc (aA _) _
 rw [hW0];obtain⟨W1,hW1⟩:∃W1,(W0.alloc (.deferred (some []))).alloc (.loop (AnyZI.apRec ρ fn (.func (.func g) #[] lb) w.heap.size W0.heap.size .ready none))=W1:=⟨_,rfl⟩;have a5:∀k,k<W0.heap.size→W1.heap[k]?=W0.heap[k]?:=fun k hk=>by
  rw [←hW1];exact(WL _ _ k (by simp;omega)).trans (WL _ _ k hk)
 have b7:Below w.heap.size w W1:=by rw [←hW1];exact(a4.alloc a4.size _).alloc (by have:=a4.size;simp;omega) _
 have c3:W1.heap.size=W0.heap.size+2:=by rw [←hW1];simp
 have hM:AnyZI.ApAt ρ w fn (.func (.func g) #[] lb) w.heap.size (W0.heap.size+1) W0.heap.size [] W1:=
  ⟨⟨_,(a5 w.heap.size (by omega)).trans c0,⟨rfl,.inl ⟨rfl,rfl⟩⟩,by simp⟩,
   by rw [←hW1];have:=UX (W0.alloc (.deferred (some []))) (.loop (AnyZI.apRec ρ fn (.func (.func g) #[] lb) w.heap.size W0.heap.size .ready none));rwa [cB] at this,
   by rw [←hW1];exact(WL _ _ _ (by simp)).trans (UX W0 _),b7⟩
 refine⟨W0.heap.size+1,[{ target:=.collected W0.heap.size,args:=#[] }],W1,{ target:=.fn (.func g) lb,args:=#[.func (.yield (W0.heap.size+1)) #[] #[]] },W1,g,
  #[.func (.yield (W0.heap.size+1)) #[] #[]]++lb,W1,?_,?_,?_,?_,fun _=>h1,?_⟩
 ·rw [←hW1];exact run_enterLoop_outer _ _ _ _ _
 ·simp [resolve,go_sem]
 ·intro f' a9;simp [Target.leads] at a9;subst a9;exact b5
 ·simp [invoke,go_sem,eg]
 ·refine(a6 (W0.heap.size+1) fn W0.heap.size W1
    (fun a3 x W hJ hl=>AnyZI.apYield { L with } F (n-1-1) w fn b8 _ w.heap.size (W0.heap.size+1) W0.heap.size (by omega) (by omega) (by omega) (aA _) (by omega) N hN b6 a3 x W hJ hl) hM).mono ?_
  rintro e W2 ⟨⟨v0,rfl⟩,ss,hS,h2⟩;obtain⟨v,hv,hrow,hnil⟩:=h2.box;have a2:=run_endLoop (P:=P) h2.L (by simp [AnyZI.apRec]);obtain⟨W3,hW3⟩:∃W3,W2.putObj (W0.heap.size+1) (.loop { AnyZI.apRec ρ fn (.func (.func g) #[] lb) w.heap.size W0.heap.size .ready none with state:=.exhausted })=W3:=⟨_,rfl⟩;rw [hW3] at a2;have b0:W2.grownBy W3 (some (W0.heap.size+1)):=by rw [←hW3];exact grownBy_putObj_a _ _ _
  have c1:W3.heap[w.heap.size]?=some (.cells #[v] (ρ.t 24) (0,0)):=by rw [←hW3];exact(Jy (by omega)).trans hv
  have a7:W3.heap[W0.heap.size]?=some (.deferred (some [])):=by rw [←hW3];exact(Jy (by omega)).trans h2.K
  have a1:=hrow.kept b0 (ownsRow_ne_a hrow h2.L (fun b3 e=>by first|cases e|exact b1 (Obj.cells.inj e).2.1));have a8:Below w.heap.size w W3:=h2.below.grown b0 h2.below.size (fun k e=>by cases e;omega);obtain⟨c2,hf3⟩:=cell_of_box_a c1;clear hW3;refine⟨none,W3,a2,?_⟩
  gi_wp2
  rw [←b9];refine⟨by simp,.inl ⟨_,_,rfl,run_takeDeferred a7,?_⟩⟩;exact⟨_,results_tmp rfl _ _ _,v,ss,rfl,hS,a1.kept (grownBy_putObj_a _ _ _) (ownsRow_ne_a a1 a7 (fun b3 e=>by first|cases e|exact b1 (Obj.cells.inj e).2.1)),hnil,a8.grown (grownBy_putObj_a _ _ _) a8.size (fun k e=>by cases e;omega)⟩
end Go.Proofs
