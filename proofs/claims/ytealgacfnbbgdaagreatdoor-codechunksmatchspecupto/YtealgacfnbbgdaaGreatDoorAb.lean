/- Lemmas; no condition. -/
import Derived.Test.YtealgacfnbbgdaaGreatDoorAa
import Derived.Deep.OwnRows
import Derived.StillTail
set_option linter.all false
set_option maxHeartbeats 2000000
set_option maxRecDepth 100000
namespace Go.Proofs.YtealgacfnbbgdaaGreatDoor
open Go.RowKit Go.Big
variable {cur:List Nat} {b a n v x g y t len M c m:Nat} {w:Wo} {r:Value}
def IRow (w:Wo) (b:Nat) (cur:List Nat):Prop:=w.heap[b]?=some (.cells (cur.map iv).toArray 3 (0,0))
def IRow.cell (h:IRow w b cur) {k x:Nat} (hx:cur[k]?=some x):w.cell? ⟨b,k,none⟩=some (.int .i64 x)∧w.frozen? ⟨b,k,none⟩=false:=by
 unfold IRow at h;simp [World.cell?,World.frozen?,h,hx,iv]
def IRow.made (w:Wo) (n:Nat):IRow (w.alloc (.cells (madeCells #[.int .i64 0] n) 3)) w.heap.size (List.replicate n 0):=by
 unfold IRow;rw [bY];congr 2;apply wS;intro i
 by_cases hi:i<n
 ·simp [madeCells,hi,CE,iv]
 ·simp [madeCells,hi]
def IRow.kept {w':Wo} (h:IRow w b cur) (hb:Below m w w') (hm:b<m):IRow w' b cur:=(hb.block b hm).trans h
def IRow.put (h:IRow w b cur) {k x:Nat} (hk:k<cur.length):IRow (w.setCell ⟨b,k,none⟩ (.int .i64 x)) b (cur.set k x):=by
 have b6:b<w.heap.size:=(cV.1 h).1;unfold IRow at*;show(Array.modify w.heap b _)[b]?=_;rw [rW,if_pos rfl,h];simp [iv]
def IRow.at (h:IRow w b cur) (hd:∀x∈cur,x<65536):jC w.heap.size w (some ⟨b,0,none⟩) cur:=
 ⟨hd,fun _=>⟨b,0,rfl,(cV.1 h).1,fun j x hx=>by rw [dH];exact(h.cell hx).1⟩⟩
def dg_set {k i:Nat} (hk:k<cur.length):dg (cur.set k x) i=if i=k then x else dg cur i:=by
 unfold dg;rw [List.getElem?_set]
 by_cases h:k=i
 ·subst h;simp [hk]
 ·rw [if_neg h,if_neg (fO h)]
def Kt (p q:Nat) (hp:p<32768) (hq:q<2):bits BinOp.or IntKind.i64 (p:Int) ((q:Int)*32768)=((p+q*32768:Nat):Int):=by
 have e1:((q:Int)*32768)=((q*32768:Nat):Int):=by simp
 have h1:(BitVec.ofInt 64 (p:Int)).toNat=p:=by rw [oM,oL];omega
 have h2:(BitVec.ofInt 64 ((q:Int)*32768)).toNat=q*32768:=by rw [e1,oM,oL];omega
 show IntKind.i64.wrap (((BitVec.ofInt 64 (p:Int))|||BitVec.ofInt 64 ((q:Int)*32768)).toNat:Int)=_;have e:q<<<15+p=q<<<15|||p:=GH (by omega) q;rw [BZ,show(2:Nat)^15=32768 by decide] at e;rw [HF,h1,h2,ZU,←e,eF];omega
def Ga (r1:Value) (n1 v M:Nat) (hv:v<65536^M) (hM:M≤1048576) (w:Wo) (b3:n1≤w.heap.size) (h1:cM n1 w r1 v):
  Cz 279 #[r1] w fun e w'=>∃r,e= .returned r∧cM w'.heap.size w' r (v/2)∧Bz w w':=by
 obtain⟨a1,A,cap1,rfl,hlc,hcm,hat,hz,rfl⟩:=h1;have a8:A.length≤1048576:=aE (hz.len_of hv) hM;obtain⟨a0,hl1⟩:=enm A.length;rw [hl1] at hlc a8 ⊢;clear hv;have b8:=NE (P:=Tryz.prog) 183 3 (.int .i64 0) 8 Tryz.underlying183 inf3 rfl .i64 .i64 a0 (by omega) (by omega);have hA:=aside hl1;go_enter Tryz.func279,Tryz.ntmps279;go_wp2
 go_loopw [10] (fun s wr=>∃(i:Nat) (cur:List Nat),s= .int .i64 i∧i≤a0∧IRow wr w.heap.size cur∧cur.length=a0∧(∀j,j<i→dg cur j=dg A j/2+dg A (j+1)%2*32768)∧(∀x∈cur,x<65536)∧Bz w wr) (fun s _=>a0-(intOf s).toNat)
 case atStart=>exact⟨0,List.replicate a0 0,rfl,cJ _,IRow.made _ _,by simp,fun j hj=>absurd hj (by omega),by simp,aC _ _⟩
 case round=>
  obtain⟨i,cur,rfl,hi,hR,hcl,hd,hcd,hB⟩:=hrel
  by_cases b6:i<a0
  ·have hx:=uM (L:=A) (i:=i) (by omega);obtain⟨b1,o1,rfl,hbn,hxl,hc⟩:=(hat.below hB b3).get hx;have a7:=vI (some ⟨b1,o1,none⟩) a0 cap1 n1 (i+1) A hl1 wr.drew (hat.below hB.drew b3);have b4:dg A (i+1)<65536:=BB (by decide) hat.1 _;have a9:=UL (dg A (i+1)) b4;obtain⟨x,hxe⟩:=enm (dg A i);obtain⟨y,hye⟩:=enm (dg A (i+1));rw [hxe] at hx hxl hc;rw [hye] at a7 b4 a9;have ec:((i+1:Nat):Int)=(i:Int)+1:=by omega
   rw [ec] at a7;clear ec;obtain⟨c3,hi3,hw3⟩:=elt (i:=i) (n:=a0) (by omega) (by omega);obtain⟨z,hz0⟩:∃z,z=x/2+y%2*32768:=⟨_,rfl⟩;have c1:z<65536:=by rw [hz0];exact Kw (B:=65536) rfl hxl
   have c5:IntKind.i64.wrap ((y:Int)%2*32768)=(y:Int)%2*32768:=by rw [eF];omega
   have c4:bits BinOp.or IntKind.i64 ((x:Int)/2) ((y:Int)%2*32768)=(z:Int):=by
    have:=Kt (x/2) (y%2) (by omega) (by omega);rw [hz0,←this];congr 1
   have b0:∀j,j<i+1→dg (cur.set i z) j=dg A j/2+dg A (j+1)%2*32768:=fun j hj=>by
    rw [dg_set (by omega)]
    by_cases b2:j=i
    ·subst b2;rw [if_pos rfl,hz0,hxe,hye]
    ·rw [if_neg b2];exact hd j (by omega)
   have a5:∀e∈cur.set i z,e<65536:=fun e he=>by
    rcases GQ he with he|rfl
    ·exact hcd e he
    ·exact c1
   have b5:=hR.cell (uM (L:=cur) (i:=i) (by omega));have b7:w.heap.size<wr.heap.size:=(cV.1 hR).1;obtain⟨c0,z0⟩:=b5;have c2:Aside (x=dg A i∧y=dg A (i+1)):=⟨hxe.symm,hye.symm⟩;have a3:=aside hcl;have a6:=aside b0;clear hx hcl hd b0 hxe hye hz0 hl1;go_wp2;refine lV 15 (by kernel_rfl) (by kernel_rfl) ?_;simp only [gL,iJ,gS,gB,lY]
   repeat (with_reducible refine kT (fun K hK=>?_);go_simp;with_reducible refine hK _ ?_;clear hK K)
   with_reducible refine kT (fun K hK=>?_)
   go_simp
   refine⟨_,a7,?_⟩
   with_reducible refine hK _ ?_
   clear hK K
   repeat (with_reducible refine kT (fun K hK=>?_);go_simp;with_reducible refine hK _ ?_;clear hK K)
   refine lW ?_;show wpList _ _ _ _ _ _;go_wp2;go_roundw
   case rel=>exact⟨i+1,cur.set i z,by simp,by omega,IRow.put (hR.kept (BL wr) b7) (by have:=a3.o;omega),by simp [a3.o],a6.o,a5,(hB.drew).setCell (aA _) _⟩
   case measure=>simp [intOf];omega
  ·obtain rfl:i=a0:=by omega
   have a2:=hR.at hcd;have b9:=zH (some ⟨w.heap.size,0,none⟩) i i wr.heap.size cur hcl (by omega) (aA _) wr (aA _) a2;have a4:=(Bv (B:=65536) (H:=32768) rfl (hcl.trans hA.o.symm) (fun j hj=>hd j (by rw [hA.o] at hj;exact hj))).1;have hC:=aside hcl;have hV:=aside a4;clear hcl b8 hd hcd a4
   go_wp2_with (go_at_call 171;with_reducible refine b9.mono ?_;rintro e w' ⟨k,rfl,hT,hb2⟩)
   go_ret
   exact⟨_,rfl,cM.of_trim hT (by have:=hT.1;have:=hC.o;omega) (by unfold maxLen;omega) ((a2.below hb2 (aA _)).up hb2.size) hV.o,hB.trans (hb2.mono hB.size)⟩
def IRow.own {base:Nat} (h:IRow w b cur) (hb:base≤b) (hl:cur.length≤1152921504606846976) (hn:cur.length=n:=by simp):gI base w (.slice (some ⟨b,0,none⟩) n n) cur:=by
 subst hn;exact⟨by simp,.inr ⟨b,cur.length,(cur.map iv).toArray,rfl,hb,h,aA _,by unfold maxLen;omega,by simp,by rw [iW (by simp)]⟩⟩
def Ks (x c f:Nat) (hx:x<65536) (hf:f<16) (hc:c<2^f):bits BinOp.or IntKind.i64 ((x*2^f:Nat):Int) (c:Int)=((x*2^f+c:Nat):Int):=by
 have h0:2^f≤2^15:=qE (by decide) (by omega);have h9:(2:Nat)^15=32768:=by decide
 have h8:x*2^f≤65535*32768:=tG (by omega) (by omega);have e:x<<<f+c=x<<<f|||c:=GH hc x;rw [BZ] at e;generalize x*2^f=X at*;have h1:(BitVec.ofInt 64 (X:Int)).toNat=X:=by rw [oM,oL];omega
 have h2:(BitVec.ofInt 64 (c:Int)).toNat=c:=by rw [oM,oL];omega
 show IntKind.i64.wrap (((BitVec.ofInt 64 (X:Int))|||BitVec.ofInt 64 (c:Int)).toNat:Int)=_;rw [HF,h1,h2,←e,eF];omega
def Ex (r1:Value) (k n1 v M:Nat) (hv:v<65536^M) (hM:M≤1048576) (hk:k≤16777216) (w:Wo) (c9:n1≤w.heap.size) (h1:cM n1 w r1 v):
  Cz 235 #[r1,.int .i64 k] w fun e w'=>∃r,e= .returned r∧cM w'.heap.size w' r (v*2^k)∧Bz w w':=by
 obtain⟨a1,A,cap1,rfl,hlc,hcm,hat,hz,rfl⟩:=h1;have b5:A.length≤1048576:=aE (hz.len_of hv) hM;obtain⟨a2,hl1⟩:=enm A.length;rw [hl1] at hlc b5 ⊢;clear hv
 by_cases c7:a2=0
 ·subst c7;have c3:A= []:=mE hl1;subst c3;go_enter Tryz.func235,Tryz.ntmps235;go_wp2
  go_ret
  exact⟨_,rfl,⟨none,[],0,rfl,aA _,cJ _,⟨by simp,fun h=>absurd rfl h⟩,hz,by simp [val]⟩,aK _ _⟩
 ·obtain⟨e,he⟩:=enm (k/16);obtain⟨f,hf⟩:=enm (k%16);have d3:(k:Int)/16=(e:Int):=by omega
  have d4:(k:Int)%16=(f:Int):=by omega
  have d0:((a2:Int)==0)=false:=by simp;omega
  have d7:=NE (P:=Tryz.prog) 183 3 (.int .i64 0) 8 Tryz.underlying183 inf3 rfl .i64 .i64 e (by omega) (by omega);have hA:=aside3 hl1 he hf;clear he hf;go_enter Tryz.func235,Tryz.ntmps235;go_wp2
  go_loopw [5,6,18] (fun s5 s6 d2 wr=>∃(i c:Nat) (D:List Nat),d2= .int .i64 i∧s6= .int .i64 c∧i≤a2∧Shls 65536 f A D i c∧gI w.heap.size wr s5 (List.replicate e 0++D)∧Bz w wr) (fun _ _ s _=>a2-(intOf s).toNat)
  case atStart=>exact⟨0,0,[],rfl,rfl,cJ _,Shls.start _ _ _,by rw [yU];exact(IRow.made w e).own (aA _) (by simp;omega),aC _ _⟩
  case round=>
   obtain⟨i,c,D,rfl,rfl,hi,hS,hR,hB⟩:=hrel
   by_cases d6:i<a2
   ·have hx:=uM (L:=A) (i:=i) (by omega);obtain⟨b1,o1,rfl,hbn,hxl,hc⟩:=(hat.below hB c9).get hx;have b8:=fun s (hs:s=dg A i*2^f+c)=>hS.step (by decide) hxl hs
    have a9:=hS.car;have a8:=hS.len;have b4:f<16:=by have:=hA.o.2.2;omega
    have b7:=Ks (dg A i) c f hxl b4 a9;have h0:2^f≤32768:=aE (qE (n:=2) (by decide) (show f≤15 by omega)) (by decide);have h8:dg A i*2^f≤2147450880:=aE (tG (show dg A i≤65535 by omega) h0) (by decide);have a3:(dg A i:Int)*2^f=((dg A i*2^f:Nat):Int):=by simp
    have a5:=b8 _ rfl;obtain⟨X,hX⟩:=enm (dg A i*2^f);rw [hX] at b7 h8 a3 a5;have e2:wrap64 ((dg A i:Int)*2^f)=(X:Int):=by rw [a3];unfold wrap64;clear a3 b7 a5 b8 hX h0 a9;omega
    obtain⟨s,hs⟩:=enm (X+c);rw [hs] at b7 a5;have e1:s<4294967296:=by rw [←hs];exact eE (Nat.add_lt_add_of_le_of_lt h8 (eE a9 h0)) (by decide)
    obtain⟨p,hp⟩:=enm (s%65536);obtain⟨q,hq⟩:=enm (s/65536);rw [hp,hq] at a5;have d8:Int.tmod (s:Int) 65536=(p:Int):=by rw [←hp];exact(Ba s 65536).symm
    have d9:(s:Int)/65536=(q:Int):=by omega
    have e0:Int.tdiv (s:Int) 65536=(q:Int):=by rw [←hq];exact(Int.ofNat_tdiv s 65536).symm
    clear b8 a3 hX h0 h8 hs hp hq hx a9 b4;generalize dg A i=x at*;obtain⟨d5,hi3,hw3⟩:=elt (i:=i) (n:=a2) (by omega) (by omega);have ho:gI w.heap.size (wr.alloc (Obj.cells #[iv p] 3)) u5 (List.replicate e 0++D):=hR.below (aC _ _) (aA _);have b6:=sK wr [iv p] 3 (0,0);have b9:=hB.size;have c6:e≤1048576:=by have:=hA.o.2.1;omega
    have b2:(List.replicate e 0++D).length+1≤17592186044416:=by rw [aV,GT];omega
    have b3:w.heap.size≤(wr.alloc (Obj.cells #[iv p] 3)).heap.size:=by simp;omega
    have b0:Bz w (wr.alloc (Obj.cells #[iv p] 3)):=hB.alloc b9 _;clear a8 hS
    go_wp2_with (at_builtin;refine wV _ rfl _ _ rfl w.heap.size _ (List.replicate e 0++D) [p] 1 rfl rfl wr.heap.size 1 rfl b6 ho b2 b3 ?_;intro v' w3 a4 a0)
    go_roundw
    case rel=>exact⟨i+1,q,D++ [p],by simp,by simp,by omega,a5,by rw [←iP];exact a4,b0.trans a0⟩
    case measure=>simp [intOf];omega
   ·obtain rfl:i=a2:=by omega
    have b4:f<16:=by have:=hA.o.2.2;omega
    have h0:2^f≤32768:=aE (qE (n:=2) (by decide) (show f≤15 by omega)) (by decide);have a6:=Shls.done (A:=A) (c:=c) (D:=D) (r:=f) (B:=65536) (by rw [hA.o.1];exact hS) e (aE h0 (by decide));have a8:=hS.len;have c6:e≤1048576:=by have:=hA.o.2.1;omega
    have c1:(List.replicate e 0++D).length=e+i:=by rw [aV,GT,a8]
    have a7:2^f*65536^e=2^k:=by
     have:k=f+16*e:=by have:=hA.o;omega
     rw [this,GI,uV]
    rw [fH,a7] at a6;generalize List.replicate e 0++D=E at*;obtain⟨c2,hfd⟩:=a6;have ho:gI w.heap.size (wr.alloc (Obj.cells #[iv c] 3)) u5 E:=hR.below (aC _ _) (aA _);have b6:=sK wr [iv c] 3 (0,0);have b9:=hB.size;have b2:E.length+1≤17592186044416:=by omega
    have b3:w.heap.size≤(wr.alloc (Obj.cells #[iv c] 3)).heap.size:=by simp;omega
    have b0:Bz w (wr.alloc (Obj.cells #[iv c] 3)):=hB.alloc b9 _;have a6:=aside c2;have c4:=aside c1;clear c2 c1 a8 h0 a7 hS d0 hl1
    go_wp2_with (at_builtin;refine wV _ rfl _ _ rfl w.heap.size _ E [c] 1 rfl rfl wr.heap.size 1 rfl b6 ho b2 b3 ?_;intro v' w3 a4 a0)
    obtain⟨a,cp,rfl,hDc,hcm2,hat2⟩:=a4.at hfd;have c0:=b0.trans a0;obtain⟨m,hm⟩:=enm ((E++ [c]).length);rw [hm] at hDc ⊢;have c8:m=e+i+1:=by rw [←hm,aV,c4.o];rfl
    have d1:=zH a m cp w3.heap.size (E++ [c]) hm (by omega) hDc w3 (aA _) hat2;have c5:=aside hm;clear hm c8
    go_wp2_with (go_at_call 171;with_reducible refine d1.mono ?_;rintro e w' ⟨k',rfl,hT,hb2⟩)
    go_ret
    exact⟨_,rfl,cM.of_trim hT (by have:=hT.1;have:=c5.o;omega) hcm2 ((hat2.below hb2 (aA _)).up hb2.size) a6.o,c0.trans (hb2.mono c0.size)⟩
def cellN (w:Wo) (b k:Nat):Nat:=match w.cell? ⟨b,k,none⟩ with
 |some (.int _ q)=>q.toNat
 |_=>0
def natAt (w:Wo):Value→Nat
 | .slice (some ⟨b,off,none⟩) n _=>val 65536 ((List.range n).map fun j=>cellN w b (off+j))
 |_=>0
def cM.natAt (h:cM n w r v):natAt w r=v:=by
 obtain⟨a,L,c,rfl,h2,h3,h4,h5,rfl⟩:=h
 by_cases a1:L= []
 ·subst a1;rcases a with _|⟨b,off,_|p⟩<;>simp [YtealgacfnbbgdaaGreatDoor.natAt,Go.Big.val]
 ·obtain⟨b,off,rfl,hb,hc⟩:=h4.2 a1;show val 65536 _=_;congr 1;apply CK;intro j
  by_cases hj:j<L.length
  ·rw [jO,uX hj];have hx:=cE hj;have:=hc j _ hx;rw [hx];simp [cellN,this]
  ·rw [wO (by simp;omega),wO (by omega)]
def cM.zero_iff {a:Option Addr} (h:cM n w (.slice a len c) v):v=0↔len=0:=by
 obtain⟨a',L,c',e,h2,h3,h4,h5,rfl⟩:=h;cases e;rw [h5.nil_iff (by decide)];exact GV.symm
def cM.slice (h:cM n w r v):∃a len c,r= .slice a len c:=by
 obtain⟨a,L,c,rfl,_⟩:=h;exact⟨_,_,_,rfl⟩
def XI (h:len≤M) (hM:M≤1048576):len<4611686018427387904:=by omega
def DK (r:Value) (n v:Nat) (w:Wo) (h:cM n w r v):Cz 278 #[r,.int .i64 0] w fun e w'=>e= .returned (.int .i64 ((v%2:Nat):Int))∧w'=w:=by
 obtain⟨a,L,c,rfl,h2,h3,h4,h5,rfl⟩:=h;rw [Bu (B:=65536) (H:=32768) rfl];exact Gp a L.length c n L rfl w h4
def DJ (r1 r2:Value) (n1 n2 x y M:Nat) (w:Wo) (h1:cM n1 w r1 x) (h2:cM n2 w r2 y) (hx:x<65536^M) (hy:y<65536^M) (hM:M≤1048576):Cz 205 #[r1,r2] w fun e w'=>e= .returned (.int .i64 (jA x y))∧w'=w:=by
 obtain⟨a,L,c,rfl,h2',h3,h4,h5,rfl⟩:=h1;obtain⟨a',L',c',rfl,k2,k3,k4,k5,rfl⟩:=h2;exact Gk a a' L.length L'.length c c' n1 n2 L L' rfl rfl (XI (h5.len_of hx) hM) (XI (k5.len_of hy) hM) w h4 k4
def rsubN (r1 r2:Value) (n1 n2 x y M:Nat) (w:Wo) (a5:n1≤w.heap.size) (a6:n2≤w.heap.size) (h1:cM n1 w r1 x) (h2:cM n2 w r2 y) (hx:x<65536^M) (hM:M≤1048576) (a3:y≤x):Cz 236 #[r1,r2] w fun e w'=>∃r,e= .returned r∧cM w'.heap.size w' r (x-y)∧Bz w w':=by
 obtain⟨a,L,c,rfl,h2',h3,h4,h5,rfl⟩:=h1;obtain⟨a',L',c',rfl,k2,k3,k4,k5,rfl⟩:=h2;refine(Ew a a' L.length L'.length c c' n1 n2 L L' rfl rfl (aE (h5.len_of hx) hM) w a5 a6 h4 k4).mono ?_;rintro e w' ⟨D,b,a2,k,c2,hS,hT,hkc,hcm,rfl,hat,hb⟩;have a0:L'.length≤L.length:=k5.len_le (B:=65536) (by decide) h4.1 a3;exact⟨_,rfl,cM.of_trim hT hkc hcm hat (hS.done a0 a3),hb⟩
structure Twos (x y t a b:Nat):Prop where
 ha:x=2^t*a
 hb:y=2^t*b
 pa:0<a
 pb:0<b
def Twos.start (hx:0<x) (hy:0<y):Twos x y 0 x y:=⟨by simp,by simp,hx,hy⟩
def Twos.step (h:Twos x y t a b) (h0:a%2=0) (h1:b%2=0):Twos x y (t+1) (a/2) (b/2):=by
 have e1:a=2*(a/2):=by omega
 have e2:b=2*(b/2):=by omega
 have:=h.pa;have:=h.pb;refine⟨?_,?_,by omega,by omega⟩
 ·rw [h.ha,gK,fH,←e1]
 ·rw [h.hb,gK,fH,←e2]
def Twos.lt (h:Twos x y t a b) (hx:x<65536^M):t<16*M:=by
 have h1:2^t≤x:=by
  rw [h.ha];exact Nat.le_mul_of_pos_right _ h.pa
 have h2:(65536:Nat)^M=2^(16*M):=by rw [uV]
 rw [h2] at hx;exact(CD (by decide)).1 (iV h1 hx)
def Twos.gcd (h:Twos x y t a b):Nat.gcd x y=Nat.gcd a b*2^t:=by
 rw [h.ha,h.hb,Nat.gcd_mul_left,dM]
def Twos.le (h:Twos x y t a b):a≤x∧b≤y:=by
 have h0:=ZS t;exact⟨h.ha▸Qt _ h0,h.hb▸Qt _ h0⟩
structure Odd (g a b:Nat):Prop where
 g:Nat.gcd a b=g
 pb:0<b
 odd:a%2=1∨b%2=1
def Odd.left (h:Odd g a b) (pa:0<a) (h0:a%2=0):Odd g (a/2) b:=by
 have hb:b%2=1:=h.odd.resolve_left (by omega);exact⟨(UY h0 hb).trans h.g,h.pb,.inr hb⟩
def Odd.right (h:Odd g a b) (h0:b%2=0):Odd g a (b/2):=by
 have ha:a%2=1:=h.odd.resolve_right (by omega);have:=h.pb;exact⟨by rw [GK,UY h0 ha,GK];exact h.g,by omega,.inl ha⟩
def Odd.sub (h:Odd g a b) (hb:b%2=1) (a0:b≤a):Odd g (a-b) b:=⟨by rw [UX a0];exact h.g,h.pb,.inr hb⟩
def Odd.swap (h:Odd g a b) (ha:a%2=1) (hb:b%2=1) (a4:a<b):Odd g (b-a) a:=by
 refine⟨?_,by omega,.inr ha⟩;rw [UX (Nat.le_of_lt a4),GK];exact h.g
def Odd.done (h:Odd g a b) (h0:a=0):b=g:=by
 have:=h.g;rw [h0,Ad] at this;exact this
def DF (r:Value) (n v P M:Nat) (hP:P=65536^M) (hM:M≤1048576) (hv:v<P) (w:Wo) (hn:n≤w.heap.size) (h:cM n w r v):
  Cz 279 #[r] w fun e w'=>∃r,e= .returned r∧cM w'.heap.size w' r (v/2)∧Bz w w':=Ga r n v M (hP▸hv) hM w hn h
def Gc (r1 r2:Value) (n1 n2 x y P M:Nat) (hP:P=65536^M) (hM:M≤1048576) (hx:x<P) (hy:y<P) (w:Wo) (d8:n1≤w.heap.size) (d9:n2≤w.heap.size) (h1:cM n1 w r1 x) (h2:cM n2 w r2 y):
  Cz 206 #[r1,r2] w fun e w'=>∃r,e= .returned r∧cM w'.heap.size w' r (Nat.gcd x y)∧Bz w w':=by
 obtain⟨a1,a7,c1,rfl⟩:=h1.slice;obtain⟨a2,b8,c2,rfl⟩:=h2.slice;have z1:=h1.zero_iff;have z2:=h2.zero_iff
 by_cases c5:x=0
 ·obtain rfl:a7=0:=z1.1 c5;subst c5;have hr:=(h2.up d9);rw [Ad];clear h1 h2 z1 z2;go_enter Tryz.func206,Tryz.ntmps206;go_wp2
  go_ret
  exact⟨_,rfl,hr,aK _ _⟩
 by_cases d4:y=0
 ·obtain rfl:b8=0:=z2.1 d4;subst d4;have hr:=(h1.up d8);have f1:((a7:Int)==0)=false:=by have:a7≠0:=fun e=>c5 (z1.2 e);simp;omega
  rw [Nat.gcd_zero_right];clear h1 h2 z1 z2;go_enter Tryz.func206,Tryz.ntmps206;go_wp2
  go_ret
  exact⟨_,rfl,hr,aK _ _⟩
 have e6:((a7:Int)==0)=false:=by have:a7≠0:=fun e=>c5 (z1.2 e);simp;omega
 have e7:((b8:Int)==0)=false:=by have:b8≠0:=fun e=>d4 (z2.2 e);simp;omega
 have i1:=h1.up d8;have i2:=h2.up d9;clear h1 h2 z1 z2;go_enter Tryz.func206,Tryz.ntmps206
 go_upto_block 0 with fail
 go_cut [0,1,5] from 15 to 28 (fun s0 s1 s5 wc=>∃a b t:Nat,cM wc.heap.size wc s0 a∧cM wc.heap.size wc s1 b∧s5= .int .i64 t∧Twos x y t a b∧(a%2=1∨b%2=1)∧Bz w wc)
 case first=>
  go_wp2_with fail
  go_loopw [0,1,5] (fun s0 s1 s5 wc=>∃a b t:Nat,cM wc.heap.size wc s0 a∧cM wc.heap.size wc s1 b∧s5= .int .i64 t∧Twos x y t a b∧Bz w wc) (fun _ _ s _=>16777216-(intOf s).toNat)
  case atStart=>exact⟨x,y,0,i1,i2,rfl,Twos.start (by omega) (by omega),aK _ _⟩
  case round=>
   obtain⟨a,b,t,hA,hC,rfl,hT,hB⟩:=hrel;have e0:t<16777216:=by have:=hT.lt (hP▸hx);omega
   have d1:=DK _ _ a wr hA;have d2:=DK _ _ b wr hC;have d0:=hT.le
   by_cases ha:a%2=0
   ·by_cases hb:b%2=0
    ·have e2:=hT.step ha hb;have k1:=DF _ _ a P M hP hM (iV d0.1 hx) wr (aA _) hA;have k2:=fun w2 (a6:Bz wr w2)=>DF _ _ b P M hP hM (iV d0.2 hy) w2 (aA _) ((hC.below a6 (aA _)).up a6.size)
     rw [ha] at d1;rw [hb] at d2;have f3:=ewr (i:=t) (by omega);clear ha hb hT d0 hA hC
     go_wp2_with first|(go_at_call 278;with_reducible refine d1.mono ?_;rintro e w' ⟨rfl,rfl⟩)|(go_at_call 278;with_reducible refine d2.mono ?_;rintro e w' ⟨rfl,rfl⟩)|(go_at_call 279;with_reducible refine k1.mono ?_;rintro e w2 ⟨ra,rfl,a4,a6⟩)|(go_at_call 279;with_reducible refine(k2 _ (by assumption)).mono ?_;rintro e w3 ⟨rb,rfl,hC2,hb3⟩)
     go_roundw
     case rel=>exact⟨a/2,b/2,t+1,(a4.below hb3 (aA _)).up hb3.size,hC2,by simp,e2,hB.trans ((a6.trans (hb3.mono a6.size)).mono hB.size)⟩
     case measure=>simp [intOf];omega
    ·have c7:b%2=1:=by omega
     rw [ha] at d1;rw [c7] at d2;have b6:=aside c7;clear ha hb c7
     go_wp2_with first|(go_at_call 278;with_reducible refine d1.mono ?_;rintro e w' ⟨rfl,rfl⟩)|(go_at_call 278;with_reducible refine d2.mono ?_;rintro e w' ⟨rfl,rfl⟩)
     go_meet
     exact⟨a,b,t,hA,hC,rfl,hT,.inr b6.o,hB⟩
   ·have c6:a%2=1:=by omega
    rw [c6] at d1;have b6:=aside c6;clear ha c6
    go_wp2_with first|(go_at_call 278;with_reducible refine d1.mono ?_;rintro e w' ⟨rfl,rfl⟩)|(go_at_call 278;with_reducible refine d2.mono ?_;rintro e w' ⟨rfl,rfl⟩)
    go_meet
    exact⟨a,b,t,hA,hC,rfl,hT,.inl b6.o,hB⟩
 case rest=>
  obtain⟨a0,b0,t,hA0,hC0,rfl,hT,hod,hB0⟩:=hcut;have b3:=hT.le;have e0:t≤16777216:=by have:=hT.lt (hP▸hx);omega
  have c8:=hT.gcd;obtain⟨g,hg⟩:=enm (Nat.gcd a0 b0);have d6:Odd g a0 b0:=⟨hg,hT.pb,hod⟩;have e9:g<P:=iV (aE (hg▸Nat.gcd_le_right a0 hT.pb) b3.2) hy;rw [hg] at c8;have e1:=aside c8;have b9:a0<P:=iV b3.1 hx;have d7:b0<P:=iV b3.2 hy;clear c8 hg hT hod b3
  go_wp2_with fail
  go_loopw [0,1] (fun s0 s1 wc=>∃a b:Nat,cM wc.heap.size wc s0 a∧cM wc.heap.size wc s1 b∧Odd g a b∧a<P∧b<P∧Bz w wc) (fun s0 s1 wc=>natAt wc s0+natAt wc s1)
  case atStart=>exact⟨a0,b0,hA0,hC0,d6,b9,d7,hB0⟩
  case round=>
   clear hA0 hC0 d6 b9 d7 hB0;obtain⟨a,b,hA,hC,hO,haP,hbP,hB⟩:=hrel;have m0:=hA.natAt;have m1:=hC.natAt;obtain⟨aa,la,ca,rfl⟩:=hA.slice;have hz:=hA.zero_iff
   by_cases b9:a=0
   ·obtain rfl:la=0:=hz.1 b9;have e3:=hO.done b9;subst e3;have hs:=Ex _ t _ b M (hP▸hbP) hM e0 wr (aA _) hC;clear hz m0 m1
    go_wp2_with (go_at_call 235;with_reducible refine hs.mono ?_;rintro e w2 ⟨r,rfl,hR,a6⟩)
    go_ret
    exact⟨_,rfl,by rw [e1.o];exact hR,hB.trans (a6.mono hB.size)⟩
   ·have e5:0<la:=by have:la≠0:=fun e=>b9 (hz.2 e);omega
    have f0:(0:Int)<(la:Int):=by omega
    clear hz
    go_upto_block 4 with fail
    go_cut [0] from 32 to 36 (fun s0 wc=>∃a':Nat,cM wc.heap.size wc s0 a'∧a'%2=1∧a'≤a∧Odd g a' b∧Bz wr wc)
    case first=>
     go_wp2_with fail
     go_loopw [0] (fun s0 wc=>∃a':Nat,cM wc.heap.size wc s0 a'∧0<a'∧a'≤a∧Odd g a' b∧Bz wr wc) (fun s0 wc=>natAt wc s0)
     case atStart=>exact⟨a,hA,by omega,aA _,hO,aK _ _⟩
     case round=>
      clear hO;obtain⟨a',hA',hp',hle',hO',hB'⟩:=hrel;have d1:=DK _ _ a' _ hA';have m2:=hA'.natAt
      by_cases b2:a'%2=0
      ·have k1:=DF _ _ a' P M hP hM (iV hle' haP) _ (aA _) hA';have a5:=hO'.left hp' b2;have d3:0<a'/2:=by omega
       rw [b2] at d1;clear b2
       go_wp2_with first|(go_at_call 278;with_reducible refine d1.mono ?_;rintro e w' ⟨rfl,rfl⟩)|(go_at_call 279;with_reducible refine k1.mono ?_;rintro e w2 ⟨ra,rfl,a4,a6⟩)
       go_roundw
       case rel=>exact⟨a'/2,a4,d3,by omega,a5,hB'.trans (a6.mono hB'.size)⟩
       case measure=>have:=a4.natAt;simp [*];omega
      ·have a3:a'%2=1:=by omega
       rw [a3] at d1;have b6:=aside a3;clear b2 a3
       go_wp2_with (go_at_call 278;with_reducible refine d1.mono ?_;rintro e w' ⟨rfl,rfl⟩)
       go_meet
       exact⟨a',hA',b6.o,hle',hO',hB'⟩
    case rest=>
     obtain⟨a',hA',hodd,hle',hO',hB'⟩:=hcut;have d5:=(hC.below hB' (aA _)).up hB'.size;clear hO hA hC
     go_upto_block 6 with fail
     go_cut [1] from 37 to 41 (fun s1 b4=>∃b':Nat,cM b4.heap.size b4 s1 b'∧b'%2=1∧b'≤b∧Odd g a' b'∧Bz wc b4)
     case first=>
      go_wp2_with fail
      go_loopw [1] (fun s1 b4=>∃b':Nat,cM b4.heap.size b4 s1 b'∧b'≤b∧Odd g a' b'∧Bz wc b4) (fun s1 b4=>natAt b4 s1)
      case atStart=>exact⟨b,d5,aA _,hO',aK _ _⟩
      case round=>
       clear hO';obtain⟨b',hC2,hlb,a5,hB2⟩:=hrel;have d1:=DK _ _ b' _ hC2;have m2:=hC2.natAt;have e4:=a5.pb
       by_cases b2:b'%2=0
       ·have k1:=DF _ _ b' P M hP hM (iV hlb hbP) _ (aA _) hC2;have c3:=a5.right b2;rw [b2] at d1;clear b2 hodd
        go_wp2_with first|(go_at_call 278;with_reducible refine d1.mono ?_;rintro e w' ⟨rfl,rfl⟩)|(go_at_call 279;with_reducible refine k1.mono ?_;rintro e w2 ⟨ra,rfl,a4,a6⟩)
        go_roundw
        case rel=>exact⟨b'/2,a4,by omega,c3,hB2.trans (a6.mono hB2.size)⟩
        case measure=>have:=a4.natAt;simp [*];omega
       ·have a3:b'%2=1:=by omega
        rw [a3] at d1;have b6:=aside a3;clear b2 a3 hodd
        go_wp2_with (go_at_call 278;with_reducible refine d1.mono ?_;rintro e w' ⟨rfl,rfl⟩)
        go_meet
        exact⟨b',hC2,b6.o,hlb,a5,hB2⟩
     case rest=>
      obtain⟨b',hC2,hodb,hlb,a5,hB2⟩:=hcut;have a4:=(hA'.below hB2 (aA _)).up hB2.size;have e4:=a5.pb;have a8:a'<P:=iV hle' haP;have a9:b'<P:=iV hlb hbP;have b1:=DJ _ _ _ _ a' b' M _ a4 hC2 (hP▸a8) (hP▸a9) hM;have c4:Bz w wc:=hB.trans ((hB'.trans (hB2.mono hB'.size)).mono hB.size);clear hO' d5 hA' hB' hB2
      by_cases b5:a'<b'
      ·have c3:=a5.swap hodd hodb b5;have b7:=rsubN _ _ _ _ b' a' M wc (aA _) (aA _) hC2 a4 (hP▸a9) hM (Nat.le_of_lt b5);have c0:jA a' b'= -1:=by simp [jA,b5]
       rw [c0] at b1;have f2:0<a':=by omega
       have c9:=aside b5;clear a5 hodd hodb b5 c0
       go_wp2_with first|(go_at_call 205;with_reducible refine b1.mono ?_;rintro e w' ⟨rfl,rfl⟩)|(go_at_call 236;with_reducible refine b7.mono ?_;rintro e w3 ⟨rs,rfl,hS3,hb3⟩)
       have hN:=(a4.below hb3 (aA _)).up hb3.size;go_roundw
       case rel=>exact⟨b'-a',a',hS3,hN,c3,iV (Nat.sub_le _ _) a9,a8,c4.trans (hb3.mono c4.size)⟩
       case measure=>have q1:=hS3.natAt;have q2:=hN.natAt;have q3:=c9.o;simp [*];omega
      ·have c3:=a5.sub hodb (by omega);have b7:=rsubN _ _ _ _ a' b' M wc (aA _) (aA _) a4 hC2 (hP▸a8) hM (by omega);obtain⟨cv,c0⟩:=enm (jA a' b');have e8:¬cv<0:=by rw [←c0];unfold jA;rw [if_neg b5];split<;>omega
       rw [c0] at b1;have c9:Aside (b'≤a'):=Nat.le_of_not_lt b5;clear a5 hodd hodb b5 c0
       go_wp2_with first|(go_at_call 205;with_reducible refine b1.mono ?_;rintro e w' ⟨rfl,rfl⟩)|(go_at_call 236;with_reducible refine b7.mono ?_;rintro e w3 ⟨rs,rfl,hS3,hb3⟩)
       have hN:=(hC2.below hb3 (aA _)).up hb3.size;go_roundw
       case rel=>exact⟨a'-b',b',hS3,hN,c3,iV (Nat.sub_le _ _) a8,a9,c4.trans (hb3.mono c4.size)⟩
       case measure=>have q1:=hS3.natAt;have q2:=hN.natAt;have q3:=c9.o;simp [*];omega
end Go.Proofs.YtealgacfnbbgdaaGreatDoor
namespace Go.Calm
section
variable {P:Program} {ops:Array Oper} {md:Region.Mode} {C:Wo→Prop}
def upon (P:Program) (C:Wo→Prop) (v:Value):Result Next→Prop
 | .ok (.value u) w'=>u=v∧C w'
 | .ok .skip w'=>v=undef∧C w'
 | .ok (.enter f args) w'=>Calls P f args w' fun e a0=>e= .returned v∧C a0
 |_=>False
def At (P:Program) (ops:Array Oper) (C:Wo→Prop) (o:Oper) (v:Value) (a:Act):Prop:=
 (Region.wanted o (yielded ops a.tmps)=true∧∀w,C w→upon P C v ((execOp a.eval o).run P w))∨(Region.wanted o (yielded ops a.tmps)=false∧v=undef)
def one (P:Program) (ops:Array Oper) (C:Wo→Prop) (i:Nat) (K:Act→Prop) (a:Act):Prop:=
 match ops[i]? with
 |none=>K a
 |some o=>∃v,At P ops C o v a∧K (a.put o.dst v)
def At.one {i:Nat} {o:Oper} {v:Value} {a:Act} (hi:ops[i]?=some o) (hy:At P ops C o v a) {K:Act→Prop} (h:K (a.put o.dst v)):one P ops C i K a:=by
 unfold Calm.one;rw [hi];exact⟨v,hy,h⟩
end
end Go.Calm
namespace Go.Heavy
variable {Q K':Act→Wo→Prop} {a:Act} {Q':Exit→Act→Wo→Prop} {o oi:Oper} {w:Wo} {i id j n:Nat} {v:Value} {K:Value→Wo→Prop}
section
section
variable {P:Program} {ops:Array Oper} {md:Region.Mode} {C:Wo→Prop}
def uponW (P:Program) (K:Value→Wo→Prop):Result Next→Prop
 | .ok (.value u) w'=>K u w'
 | .ok .skip w'=>K undef w'
 | .ok (.enter f args) w'=>Calls P f args w' fun e b1=>∃v,e= .returned v∧K v b1
 |_=>False
def HO {K':Value→Wo→Prop} (h:∀v w,K v w→K' v w) {r:Result Next} (hh:uponW P K r):uponW P K' r:=by
 cases r with
 |ok n w'=>
  cases n<;>simp only [uponW] at hh ⊢
  case enter f args=>exact hh.mono fun e b1 ⟨v,e1,e2⟩=>⟨v,e1,h _ _ e2⟩
  all_goals exact h _ _ hh
 |halt x w'=>simp only [uponW] at hh
def St (P:Program) (ops:Array Oper) (C:Wo→Prop) (o:Oper) (v:Value) (a:Act):Prop:=
 (Region.wanted o (yielded ops a.tmps)=true∧∀w,C w→uponW P (fun u w'=>u=v∧w'=w) ((execOp a.eval o).run P w))∨(Region.wanted o (yielded ops a.tmps)=false∧v=undef)
def St.same {a':Act} (h:St P ops C o v a) (he:execOp a'.eval o=execOp a.eval o) (hw:Region.wanted o (yielded ops a'.tmps)=Region.wanted o (yielded ops a.tmps)):St P ops C o v a':=by
 unfold St at*;rw [he,hw];exact h
def sI (P:Program) (ops:Array Oper) (o:Oper) (K:Act→Wo→Prop) (a:Act) (w:Wo):Prop:=
 (Region.wanted o (yielded ops a.tmps)=true∧uponW P (fun v w'=>K (a.put o.dst v) w') ((execOp a.eval o).run P w))∨(Region.wanted o (yielded ops a.tmps)=false∧K (a.put o.dst undef) w)
def kZ (P:Program) (ops:Array Oper) (i:Nat) (K:Act→Wo→Prop) (a:Act) (w:Wo):Prop:=
 match ops[i]? with
 |none=>K a w
 |some o=>sI P ops o K a w
def vO {K:Act→Wo→Prop} (h:∀a w,K a w→K' a w) (hh:sI P ops o K a w):sI P ops o K' a w:=by
 rcases hh with⟨h1,h2⟩|⟨h1,h2⟩
 ·exact .inl ⟨h1,HO (fun v w'=>h _ _) h2⟩
 ·exact .inr ⟨h1,h _ _ h2⟩
def SG {K:Act→Wo→Prop} (h:∀a w,K a w→K' a w) (hh:kZ P ops i K a w):kZ P ops i K' a w:=by
 unfold kZ at*;split
 ·rename_i ho;rw [ho] at hh;exact h _ _ hh
 ·rename_i o ho;rw [ho] at hh;exact vO h hh
def St.one (hi:ops[i]?=some o) (hw:C w) (hy:St P ops C o v a) {K:Act→Wo→Prop} (h:K (a.put o.dst v) w):kZ P ops i K a w:=by
 unfold kZ;rw [hi];rcases hy with⟨h1,h2⟩|⟨h1,rfl⟩
 ·exact .inl ⟨h1,HO (fun u w' ⟨e1,e2⟩=>by subst e1;subst e2;exact h) (h2 w hw)⟩
 ·exact .inr ⟨h1,h⟩
def Bl {r:Result Next} (h:∀v w,K v w→K' (a.put o.dst v) w) (hh:uponW P K r):o.upon P a K' Q' r:=by
 cases r with
 | ok n w'=>
  cases n<;>simp only [uponW] at hh<;>simp only [Oper.upon]
  case enter f args=>
   exact hh.mono fun e b1 ⟨v,he,hw⟩=>by subst he;exact h _ _ hw
  case value u=>exact h _ _ hh
  case skip=>exact h _ _ hh
 |halt x w'=>simp only [uponW] at hh
def OG {K:Act→Wo→Prop} (h:∀a w,K a w→K' a w) (hh:kZ P ops i K a w):wpOp P ops Q' i K' a w:=by
 unfold kZ at hh;unfold wpOp;split
 ·rename_i ho;rw [ho] at hh;exact h _ _ hh
 ·rename_i o ho;rw [ho] at hh;rcases hh with⟨h1,h2⟩|⟨h1,h2⟩
  ·rw [if_pos h1];exact .inl (Bl (fun v w' c0=>h _ _ c0) h2)
  ·rw [if_neg (by rw [h1];exact Be)];exact h _ _ h2
def SF {oj:Oper} (hj:ops[j]?=some oj) (b4:oi.apart ops oj=true)
  (b8:∀cs b,oi.op≠ .select cs b) (b9:∀cs b,oj.op≠ .select cs b) {K:Act→Wo→Prop} {a:Act} {w:Wo}
  (hy:St P ops C oi v a) (h:kZ P ops j K (a.put oi.dst v) w):kZ P ops j (fun a' w'=>St P ops C oi v a'∧K (a'.put oi.dst v) w') a w:=by
 obtain⟨h1,h2,h3⟩:=Oper.apart_spec b4;unfold kZ at*;rw [hj] at h ⊢;have key:∀u,St P ops C oi v (a.put oj.dst u):=fun u=>hy.same (execOp_put oi b8 a oj.dst u h3) (wanted_put oi a oj.dst u h3)
 have hE:=execOp_put oj b9 a oi.dst v h1;have hW:=wanted_put oj a oi.dst v h1;rcases h with⟨g1,g2⟩|⟨g1,g2⟩
 ·refine .inl ⟨hW.symm.trans g1,?_⟩;rw [hE] at g2;refine HO (fun u w' hk=>⟨key u,?_⟩) g2;rw [←Act.put_comm a v u h2];exact hk
 ·refine .inr ⟨hW.symm.trans g1,key _,?_⟩;rw [←Act.put_comm a v undef h2];exact g2
def AJ (P:Program) (md:Region.Mode) (ops:Array Oper) (C:Wo→Prop) (n:Nat) (L:Array Bool→Act→Wo→Prop):Nat→Array Bool→Act→Wo→Prop
 |0,listed,a,w=>L listed a w
 |f+1,listed,a,w=>Region.ready md ops listed≠ []∧∀i∈Region.ready md ops listed,i<n∧kZ P ops i (fun a' w'=>C w'∧AJ P md ops C n L f (listed.setIfInBounds i true) a' w') a w
def ZD {n g:Nat} {L:Array Bool→Act→Wo→Prop} {Q':Exit→Act→Wo→Prop} (hL:∀listed a w,L listed a w→wpAny P md ops Q' g listed a w):
  ∀(f:Nat) (listed:Array Bool) (a:Act) (w:Wo),AJ P md ops C n L f listed a w→wpAny P md ops Q' (f+g) listed a w
 |0,listed,a,w,h=>by rw [dH];exact hL _ _ _ h
 |f+1,listed,a,w,h=>by
  rw [show f+1+g=(f+g)+1 by omega];exact⟨fun h0=>absurd h0 h.1,fun i hi=>OG (fun a' w' h'=>ZD hL f _ a' w' h'.2) (h.2 i hi).2⟩
def Kv {L:Array Bool→Act→Wo→Prop} (hi:ops[i]?=some oi) (a6:∀(j:Nat) (o:Oper) cs b,ops[j]?=some o→o.op≠ .select cs b)
  (hs:Region.sinkB md ops n=true) (hc:Region.chainB md ops n=true) (hn:n<ops.size) (b2:i<n) (a3:∀listed a w,L listed a w→∀j∈Region.ready md ops listed,n≤j):
  ∀(f:Nat) (listed:Array Bool) (a:Act) (w:Wo),C w→HeadInv md ops n listed→
   (∀j oj,ops[j]?=some oj→j≠i→listed.getD j true=false→(∀e∈oj.after,Region.binds md e=true→e.on≠i)→oi.apart ops oj=true)→
   i∈Region.ready md ops listed→St P ops C oi v a→AJ P md ops C n L f (listed.setIfInBounds i true) (a.put oi.dst v) w→AJ P md ops C n L (f+1) listed a w:=by
 intro f
 induction f with
 | zero=>
  intro listed a w hw a9 _ hr hy H;have a8:=(sW.1 hr).1;refine⟨fun h=>(by rw [h] at hr;cases hr),fun j hj=>?_⟩;have a7:j<n:=Aa fun h=>tail_waits hs hc hn a9 _ i rfl b2 a8 j h hj
  refine⟨a7,?_⟩
  by_cases a1:j=i
  ·subst a1;exact hy.one hi hw ⟨hw,H⟩
  ·have:=a3 _ _ _ H j (BP hj a1);omega
 | succ f ih=>
  intro listed a w hw a9 a0 hr hy H;have a8:=(sW.1 hr).1;refine⟨fun h=>(by rw [h] at hr;cases hr),fun j hj=>?_⟩;have a7:j<n:=Aa fun h=>tail_waits hs hc hn a9 _ i rfl b2 a8 j h hj
  refine⟨a7,?_⟩
  by_cases a1:j=i
  ·subst a1;exact hy.one hi hw ⟨hw,H⟩
  ·have h1:=(H.2 j (BP hj a1)).2;obtain⟨a4,oj,hoj,hall⟩:=sW.1 hj;have b0:∀e∈oj.after,Region.binds md e=true→e.on≠i:=fun e he hb b5=>by
    have h1:=hall e he hb;rw [b5,getD_both a8] at h1;cases h1
   have h2:=SF hoj (a0 j oj hoj a1 a4 b0) (fun cs b=>a6 i oi cs b hi) (fun cs b=>a6 j oj cs b hoj) hy h1;have a2:∀k ok,ops[k]?=some ok→k≠i→(listed.setIfInBounds j true).getD k true=false→
     (∀e∈ok.after,Region.binds md e=true→e.on≠i)→oi.apart ops ok=true:=fun k ok hk b6 a5 b7=>by
    refine a0 k ok hk b6 ?_ b7
    by_cases b3:j=k
    ·subst b3;exact a4
    ·rw [getD_set_ne true b3] at a5;exact a5
   refine SG (fun a' w' h3=>⟨h3.2.1,ih (listed.setIfInBounds j true) a' w' h3.2.1 (a9.set hj a7) a2 (BP hr (fO a1)) h3.1 ?_⟩) h2;rw [Bg _ _ a1];exact h3.2.2
end
end
section
inductive Plan where
 |done
 |light (i:Nat) (p:Plan)
 |one (i:Nat) (p:Plan)
 |two (i j:Nat) (p q:Plan)
def lights:List Nat→Plan→Plan
 | [],p=>p
 |i::is,p=>.light i (lights is p)
def Plan.size:Plan→Nat
 | .done=>0
 | .light _ p=>p.size+1
 | .one _ p=>p.size+1
 | .two _ _ p _=>p.size+1
def sJ (md:Region.Mode) (ops:Array Oper) (g n:Nat):Plan→Array Bool→Bool
 | .done,listed=>Region.seqB md ops g n listed
 | .light i p,listed=>(Region.ready md ops listed).contains i&&Region.free md ops listed i&&decide (i<n)&&sJ md ops g n p (listed.setIfInBounds i true)
 | .one i p,listed=>Region.ready md ops listed== [i]&&decide (i<n)&&sJ md ops g n p (listed.setIfInBounds i true)
 | .two i j p q,listed=>Region.ready md ops listed== [i,j]&&decide (i<n)&&decide (j<n)&&decide (p.size=q.size)&&sJ md ops g n p (listed.setIfInBounds i true)&&sJ md ops g n q (listed.setIfInBounds j true)
section
variable {P:Program} {ops:Array Oper} {md:Region.Mode} {C:Wo→Prop}
def kX (P:Program) (ops:Array Oper) (C:Wo→Prop) (Q:Act→Wo→Prop):Plan→Act→Wo→Prop
 | .done,a,w=>Q a w
 | .light i p,a,w=>∃o v,ops[i]?=some o∧St P ops C o v a∧kX P ops C Q p (a.put o.dst v) w
 | .one i p,a,w=>∃o,ops[i]?=some o∧sI P ops o (fun a' w'=>C w'∧kX P ops C Q p a' w') a w
 | .two i j p q,a,w=>(∃o,ops[i]?=some o∧sI P ops o (fun a' w'=>C w'∧kX P ops C Q p a' w') a w)∧∃o,ops[j]?=some o∧sI P ops o (fun a' w'=>C w'∧kX P ops C Q q a' w') a w
def AI {n g:Nat} {Lq:Act→Wo→Prop} (a1:Region.noSelect ops=true) (hs:Region.sinkB md ops n=true) (hc:Region.chainB md ops n=true) (hn:n<ops.size):
  ∀(p:Plan) (listed:Array Bool) (a:Act) (w:Wo),C w→HeadInv md ops n listed→sJ md ops g n p listed=true→kX P ops C Lq p a w→AJ P md ops C n (fun a2 a' w'=>Region.seqB md ops g n a2=true∧Lq a' w') p.size listed a w
 | .done,listed,a,w,_,_,hB,h=>⟨hB,h⟩
 | .light i p,listed,a,w,hw,inv,hB,h=>by
  simp only [sJ,aR,iO] at hB;obtain⟨⟨⟨hr,hf⟩,hin⟩,hB'⟩:=hB;have a7:i∈Region.ready md ops listed:=by simpa using hr
  obtain⟨o,v,h0,hy,hK⟩:=h;exact Kv h0 (ZO a1) hs hc hn hin (fun a2 a' w' hL=>seqB_ready hL.1) p.size listed a w hw inv (ZP h0 hf) a7 hy
   (AI a1 hs hc hn p _ _ _ hw (inv.set a7 hin) hB' hK)
 | .one i p,listed,a,w,hw,inv,hB,h=>by
  simp only [sJ,aR,iO] at hB;obtain⟨⟨hr,hin⟩,hB'⟩:=hB;have a0:Region.ready md ops listed= [i]:=by simpa using hr
  obtain⟨o,h0,h1⟩:=h;refine⟨by rw [a0];simp,fun k hk=>?_⟩;have a3:k∈Region.ready md ops listed:=hk;rw [a0] at hk;have:k=i:=by simpa using hk
  subst this;refine⟨hin,?_⟩;unfold kZ;rw [h0];exact vO (fun a' w' ⟨h2,h3⟩=>⟨h2,AI a1 hs hc hn p _ a' w' h2 (inv.set a3 hin) hB' h3⟩) h1
 | .two i j p q,listed,a,w,hw,inv,hB,h=>by
  simp only [sJ,aR,iO] at hB;obtain⟨⟨⟨⟨⟨hr,hin⟩,hjn⟩,hpq⟩,hB1⟩,hB2⟩:=hB;have a0:Region.ready md ops listed= [i,j]:=by simpa using hr
  obtain⟨⟨o,h0,h1⟩,o',h0',h1'⟩:=h;refine⟨by rw [a0];simp,fun k hk=>?_⟩;have a3:k∈Region.ready md ops listed:=hk;rw [a0] at hk;have:k=i∨k=j:=by simpa using hk
  rcases this with rfl|rfl
  ·refine⟨hin,?_⟩;unfold kZ;rw [h0];exact vO (fun a' w' ⟨h2,h3⟩=>⟨h2,AI a1 hs hc hn p _ a' w' h2 (inv.set a3 hin) hB1 h3⟩) h1
  ·refine⟨hjn,?_⟩;unfold kZ;rw [h0'];refine vO (fun a' w' ⟨h2,h3⟩=>⟨h2,?_⟩) h1';have:=AI a1 hs hc hn q _ a' w' h2 (inv.set a3 hjn) hB2 h3;rw [hpq];exact this
def region_plan {Q:Exit→Act→Wo→Prop} {l:List Oper} (C:Wo→Prop) (n:Nat) (p:Plan) (hm:P.follows .mixedOrders=true)
  (hB:(Region.noSelect l.toArray&&decide (n<l.toArray.size)&&Region.sinkB .any l.toArray n&&Region.chainB .any l.toArray n&&decide (p.size=n)&&sJ .any l.toArray (l.toArray.size-n) n p (Array.replicate l.toArray.size false))=true)
  (hw:C { w with drawn:=w.drawn+1 }) (a4:kX P l.toArray C (fun a' w'=>wpList P l.toArray Q (l.drop n) a' w') p a { w with drawn:=w.drawn+1 }):(Code.region id l.toArray true).wp P Q a w:=by
 simp only [aR,iO] at hB;obtain⟨⟨⟨⟨⟨a1,hn⟩,hs⟩,hc⟩,hsz⟩,hok⟩:=hB;have a6:(l.drop n).length=l.toArray.size-n:=by simp
 have a5:HeadInv .any l.toArray n (Array.replicate l.toArray.size false):=
  ⟨by simp,fun j oj _ hl=>(by rw [BR] at hl;cases hl),fun t _ ht=>getD_in (by simpa using ht) (BR _ _)⟩
 have H:=AI (md:=.any) a1 hs hc hn p _ a _ hw a5 hok a4;refine ZG hm ?_;have:=ZD (Q':=Q) (g:=l.toArray.size-n) (fun listed a' w' hL=>by
  have:=wpAny_of_seq (md:=.any) (Q':=Q) (l.drop n) n listed a' w' (fun j=>by simp [mC]) (by rw [a6];exact hL.1) hL.2
  rwa [a6] at this) _ _ _ _ H
 rw [hsz,show n+(l.toArray.size-n)=l.toArray.size by omega] at this;exact this
def light_step {p:Plan} (v:Value) (h0:ops[i]?=some o) (hg:Region.wanted o (yielded ops a.tmps)=true) (hs:∀w,C w→uponW P (fun u w'=>u=v∧w'=w) ((execOp a.eval o).run P w)) (hK:kX P ops C Q p (a.put o.dst v) w):kX P ops C Q (.light i p) a w:=
 ⟨o,v,h0,.inl ⟨hg,hs⟩,hK⟩
def light_n {p:Plan} (v:Value) (h0:ops[i]?=some o) (hg:o.guard=none) (hs:∀w,C w→uponW P (fun u w'=>u=v∧w'=w) ((execOp a.eval o).run P w)) (hK:kX P ops C Q p (a.put o.dst v) w):kX P ops C Q (.light i p) a w:=
 ⟨o,v,h0,.inl ⟨by unfold Region.wanted;rw [hg],hs⟩,hK⟩
def one_n {p:Plan} (h0:ops[i]?=some o) (hg:o.guard=none) (hK:uponW P (fun v w'=>C w'∧kX P ops C Q p (a.put o.dst v) w') ((execOp a.eval o).run P w)):kX P ops C Q (.one i p) a w:=
 ⟨o,h0,.inl ⟨by unfold Region.wanted;rw [hg],hK⟩⟩
def plan_end (hQ:Q a w):kX P ops C Q .done a w:=hQ
end
end
end Go.Heavy
