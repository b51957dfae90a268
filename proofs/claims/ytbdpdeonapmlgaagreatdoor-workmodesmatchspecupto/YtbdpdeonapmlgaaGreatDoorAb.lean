/- Lemmas; no condition. -/
import Derived.Test.YtbdpdeonapmlgaaGreatDoorAa
import Derived.Deep.OwnRows
import Derived.StillTail
set_option linter.all false
set_option maxHeartbeats 2000000
set_option maxRecDepth 100000
namespace Go.Proofs.YtbdpdeonapmlgaaGreatDoor
open Go.RowKit Go.Big
variable {a0 a7:List Nat} {b a n v x g y t len M c m:Nat} {w:Wo} {r:Value}
def IRow (w:Wo) (b:Nat) (a0:List Nat):Prop:=w.heap[b]?=some (.cells (a0.map iv).toArray 3 (0,0))
def IRow.cell (h:IRow w b a0) {k x:Nat} (hx:a0[k]?=some x):w.cell? ⟨b,k,none⟩=some (.int .i64 x)∧w.frozen? ⟨b,k,none⟩=false:=by
 unfold IRow at h;simp [World.cell?,World.frozen?,h,hx,iv]
def IRow.made (w:Wo) (n:Nat):IRow (w.alloc (.cells (madeCells #[.int .i64 0] n) 3)) w.heap.size (List.replicate n 0):=by
 unfold IRow;rw [aK];congr 2;apply vX;intro i
 by_cases hi:i<n
 ·simp [madeCells,hi,vN,iv]
 ·simp [madeCells,hi]
def IRow.kept {w':Wo} (h:IRow w b a0) (hb:Below m w w') (hm:b<m):IRow w' b a0:=(hb.block b hm).trans h
def IRow.put (h:IRow w b a0) {k x:Nat} (hk:k<a0.length):IRow (w.setCell ⟨b,k,none⟩ (.int .i64 x)) b (a0.set k x):=by
 have b7:b<w.heap.size:=(aM.1 h).1;unfold IRow at*;show(Array.modify w.heap b _)[b]?=_;rw [oR,if_pos rfl,h];simp [iv]
def IRow.at (h:IRow w b a0) (hd:∀x∈a0,x<65536):fY w.heap.size w (some ⟨b,0,none⟩) a0:=
 ⟨hd,fun _=>⟨b,0,rfl,(aM.1 h).1,fun j x hx=>by rw [bT];exact(h.cell hx).1⟩⟩
def dg_set {k i:Nat} (hk:k<a0.length):dg (a0.set k x) i=if i=k then x else dg a0 i:=by
 unfold dg;rw [List.getElem?_set]
 by_cases h:k=i
 ·subst h;simp [hk]
 ·rw [if_neg h,if_neg (eZ h)]
def Eo (p q:Nat) (hp:p<32768) (hq:q<2):bits BinOp.or IntKind.i64 (p:Int) ((q:Int)*32768)=((p+q*32768:Nat):Int):=by
 have e1:((q:Int)*32768)=((q*32768:Nat):Int):=by simp
 have h1:(BitVec.ofInt 64 (p:Int)).toNat=p:=by rw [mF,mE];omega
 have h2:(BitVec.ofInt 64 ((q:Int)*32768)).toNat=q*32768:=by rw [e1,mF,mE];omega
 show IntKind.i64.wrap (((BitVec.ofInt 64 (p:Int))|||BitVec.ofInt 64 ((q:Int)*32768)).toNat:Int)=_;have e:q<<<15+p=q<<<15|||p:=DW (by omega) q;rw [yT,show(2:Nat)^15=32768 by decide] at e;rw [EF,h1,h2,VA,←e,cO];omega
def ZQ (r1:Value) (n1 v M:Nat) (hv:v<65536^M) (hM:M≤1048576) (w:Wo) (b4:n1≤w.heap.size) (h1:cC n1 w r1 v):
  Cz 317 #[r1] w fun e w'=>∃r,e= .returned r∧cC w'.heap.size w' r (v/2)∧Bz w w':=by
 obtain⟨a1,A,cap1,rfl,hlc,hcm,hat,hz,rfl⟩:=h1;have a9:A.length≤1048576:=aE (hz.len_of hv) hM;obtain⟨a2,hl1⟩:=enm A.length;rw [hl1] at hlc a9 ⊢;clear hv;have b9:=run_make_row' (P:=Tryz.prog) 247 3 (.int .i64 0) 8 Tryz.underlying247 inf3 rfl .i64 .i64 a2 (by omega) (by omega);have hA:=aside hl1;go_enter Tryz.func317,Tryz.ntmps317;go_wp2
 go_loopw [10] (fun s wr=>∃(i:Nat) (a0:List Nat),s= .int .i64 i∧i≤a2∧IRow wr w.heap.size a0∧a0.length=a2∧(∀j,j<i→dg a0 j=dg A j/2+dg A (j+1)%2*32768)∧(∀x∈a0,x<65536)∧Bz w wr) (fun s _=>a2-(intOf s).toNat)
 case atStart=>exact⟨0,List.replicate a2 0,rfl,aJ _,IRow.made _ _,by simp,fun j hj=>absurd hj (by omega),by simp,aC _ _⟩
 case round=>
  obtain⟨i,a0,rfl,hi,hR,hcl,hd,hcd,hB⟩:=hrel
  by_cases b7:i<a2
  ·have hx:=uV (L:=A) (i:=i) (by omega);obtain⟨b1,o1,rfl,hbn,hxl,hc⟩:=(hat.below hB b4).get hx;have a8:=sG (some ⟨b1,o1,none⟩) a2 cap1 n1 (i+1) A hl1 wr.drew (hat.below hB.drew b4);have b5:dg A (i+1)<65536:=xX (by decide) hat.1 _;have b0:=QB (dg A (i+1)) b5;obtain⟨x,hxe⟩:=enm (dg A i);obtain⟨y,hye⟩:=enm (dg A (i+1));rw [hxe] at hx hxl hc;rw [hye] at a8 b5 b0;have ec:((i+1:Nat):Int)=(i:Int)+1:=by omega
   rw [ec] at a8;clear ec;obtain⟨c4,hi3,hw3⟩:=elt (i:=i) (n:=a2) (by omega) (by omega);obtain⟨z,hz0⟩:∃z,z=x/2+y%2*32768:=⟨_,rfl⟩;have c2:z<65536:=by rw [hz0];exact Er (B:=65536) rfl hxl
   have c6:IntKind.i64.wrap ((y:Int)%2*32768)=(y:Int)%2*32768:=by rw [cO];omega
   have c5:bits BinOp.or IntKind.i64 ((x:Int)/2) ((y:Int)%2*32768)=(z:Int):=by
    have:=Eo (x/2) (y%2) (by omega) (by omega);rw [hz0,←this];congr 1
   have b2:∀j,j<i+1→dg (a0.set i z) j=dg A j/2+dg A (j+1)%2*32768:=fun j hj=>by
    rw [dg_set (by omega)]
    by_cases b3:j=i
    ·subst b3;rw [if_pos rfl,hz0,hxe,hye]
    ·rw [if_neg b3];exact hd j (by omega)
   have a6:∀e∈a0.set i z,e<65536:=fun e he=>by
    rcases VY he with he|rfl
    ·exact hcd e he
    ·exact c2
   have b6:=hR.cell (uV (L:=a0) (i:=i) (by omega));have b8:w.heap.size<wr.heap.size:=(aM.1 hR).1;obtain⟨c0,z0⟩:=b6;have c3:Aside (x=dg A i∧y=dg A (i+1)):=⟨hxe.symm,hye.symm⟩;have a4:=aside hcl;have a7:=aside b2;clear hx hcl hd b2 hxe hye hz0 hl1;go_wp2;refine iA 15 (by kernel_rfl) (by kernel_rfl) ?_;simp only [aX,bI,aW,bD,gQ]
   repeat (with_reducible refine gP (fun K hK=>?_);go_simp;with_reducible refine hK _ ?_;clear hK K)
   with_reducible refine gP (fun K hK=>?_)
   go_simp
   refine⟨_,a8,?_⟩
   with_reducible refine hK _ ?_
   clear hK K
   repeat (with_reducible refine gP (fun K hK=>?_);go_simp;with_reducible refine hK _ ?_;clear hK K)
   refine iB ?_;show wpList _ _ _ _ _ _;go_wp2;go_roundw
   case rel=>exact⟨i+1,a0.set i z,by simp,by omega,IRow.put (hR.kept (TS wr) b8) (by have:=a4.o;omega),by simp [a4.o],a7.o,a6,(hB.drew).setCell (aA _) _⟩
   case measure=>simp [intOf];omega
  ·obtain rfl:i=a2:=by omega
   have a3:=hR.at hcd;have c1:=zS (some ⟨w.heap.size,0,none⟩) i i wr.heap.size a0 hcl (by omega) (aA _) wr (aA _) a3;have a5:=(XC (B:=65536) (H:=32768) rfl (hcl.trans hA.o.symm) (fun j hj=>hd j (by rw [hA.o] at hj;exact hj))).1;have hC:=aside hcl;have hV:=aside a5;clear hcl b9 hd hcd a5
   go_wp2_with (go_at_call 314;with_reducible refine c1.mono ?_;rintro e w' ⟨k,rfl,hT,hb2⟩)
   go_ret
   exact⟨_,rfl,cC.of_trim hT (by have:=hT.1;have:=hC.o;omega) (by unfold maxLen;omega) ((a3.below hb2 (aA _)).up hb2.size) hV.o,hB.trans (hb2.mono hB.size)⟩
def IRow.own {base:Nat} (h:IRow w b a7) (hb:base≤b) (hl:a7.length≤1152921504606846976) (hn:a7.length=n:=by simp):eX base w (.slice (some ⟨b,0,none⟩) n n) a7:=by
 subst hn;exact⟨by simp,.inr ⟨b,a7.length,(a7.map iv).toArray,rfl,hb,h,aA _,by unfold maxLen;omega,by simp,by rw [eS (by simp)]⟩⟩
def En (x c f:Nat) (hx:x<65536) (hf:f<16) (hc:c<2^f):bits BinOp.or IntKind.i64 ((x*2^f:Nat):Int) (c:Int)=((x*2^f+c:Nat):Int):=by
 have h0:2^f≤2^15:=tO (by decide) (by omega);have h9:(2:Nat)^15=32768:=by decide
 have h8:x*2^f≤65535*32768:=oN (by omega) (by omega);have e:x<<<f+c=x<<<f|||c:=DW hc x;rw [yT] at e;generalize x*2^f=X at*;have h1:(BitVec.ofInt 64 (X:Int)).toNat=X:=by rw [mF,mE];omega
 have h2:(BitVec.ofInt 64 (c:Int)).toNat=c:=by rw [mF,mE];omega
 show IntKind.i64.wrap (((BitVec.ofInt 64 (X:Int))|||BitVec.ofInt 64 (c:Int)).toNat:Int)=_;rw [EF,h1,h2,←e,cO];omega
def ZB (r1:Value) (k n1 v M:Nat) (hv:v<65536^M) (hM:M≤1048576) (hk:k≤16777216) (w:Wo) (d0:n1≤w.heap.size) (h1:cC n1 w r1 v):
  Cz 319 #[r1,.int .i64 k] w fun e w'=>∃r,e= .returned r∧cC w'.heap.size w' r (v*2^k)∧Bz w w':=by
 obtain⟨a1,A,cap1,rfl,hlc,hcm,hat,hz,rfl⟩:=h1;have b6:A.length≤1048576:=aE (hz.len_of hv) hM;obtain⟨a2,hl1⟩:=enm A.length;rw [hl1] at hlc b6 ⊢;clear hv
 by_cases c8:a2=0
 ·subst c8;have c4:A= []:=nL hl1;subst c4;go_enter Tryz.func319,Tryz.ntmps319;go_wp2
  go_ret
  exact⟨_,rfl,⟨none,[],0,rfl,aA _,aJ _,⟨by simp,fun h=>absurd rfl h⟩,hz,by simp [val]⟩,aG _ _⟩
 ·obtain⟨e,he⟩:=enm (k/16);obtain⟨f,hf⟩:=enm (k%16);have d4:(k:Int)/16=(e:Int):=by omega
  have d5:(k:Int)%16=(f:Int):=by omega
  have d1:((a2:Int)==0)=false:=by simp;omega
  have d8:=run_make_row' (P:=Tryz.prog) 247 3 (.int .i64 0) 8 Tryz.underlying247 inf3 rfl .i64 .i64 e (by omega) (by omega);have hA:=aside3 hl1 he hf;clear he hf;go_enter Tryz.func319,Tryz.ntmps319;go_wp2
  go_loopw [5,6,18] (fun s5 s6 d3 wr=>∃(i c:Nat) (D:List Nat),d3= .int .i64 i∧s6= .int .i64 c∧i≤a2∧Shls 65536 f A D i c∧eX w.heap.size wr s5 (List.replicate e 0++D)∧Bz w wr) (fun _ _ s _=>a2-(intOf s).toNat)
  case atStart=>exact⟨0,0,[],rfl,rfl,aJ _,Shls.start _ _ _,by rw [mC];exact(IRow.made w e).own (aA _) (by simp;omega),aC _ _⟩
  case round=>
   obtain⟨i,c,D,rfl,rfl,hi,hS,hR,hB⟩:=hrel
   by_cases d7:i<a2
   ·have hx:=uV (L:=A) (i:=i) (by omega);obtain⟨b1,o1,rfl,hbn,hxl,hc⟩:=(hat.below hB d0).get hx;have b9:=fun s (hs:s=dg A i*2^f+c)=>hS.step (by decide) hxl hs
    have b0:=hS.car;have a9:=hS.len;have b5:f<16:=by have:=hA.o.2.2;omega
    have b8:=En (dg A i) c f hxl b5 b0;have h0:2^f≤32768:=aE (tO (n:=2) (by decide) (show f≤15 by omega)) (by decide);have h8:dg A i*2^f≤2147450880:=aE (oN (show dg A i≤65535 by omega) h0) (by decide);have a3:(dg A i:Int)*2^f=((dg A i*2^f:Nat):Int):=by simp
    have a5:=b9 _ rfl;obtain⟨X,hX⟩:=enm (dg A i*2^f);rw [hX] at b8 h8 a3 a5;have e3:wrap64 ((dg A i:Int)*2^f)=(X:Int):=by rw [a3];unfold wrap64;clear a3 b8 a5 b9 hX h0 b0;omega
    obtain⟨s,hs⟩:=enm (X+c);rw [hs] at b8 a5;have e2:s<4294967296:=by rw [←hs];exact bG (Nat.add_lt_add_of_le_of_lt h8 (bG b0 h0)) (by decide)
    obtain⟨p,hp⟩:=enm (s%65536);obtain⟨q,hq⟩:=enm (s/65536);rw [hp,hq] at a5;have d9:Int.tmod (s:Int) 65536=(p:Int):=by rw [←hp];exact(Int.ofNat_tmod s 65536).symm
    have e0:(s:Int)/65536=(q:Int):=by omega
    have e1:Int.tdiv (s:Int) 65536=(q:Int):=by rw [←hq];exact(Int.ofNat_tdiv s 65536).symm
    clear b9 a3 hX h0 h8 hs hp hq hx b0 b5;generalize dg A i=x at*;obtain⟨d6,hi3,hw3⟩:=elt (i:=i) (n:=a2) (by omega) (by omega);have ho:eX w.heap.size (wr.alloc (Obj.cells #[iv p] 3)) u5 (List.replicate e 0++D):=hR.below (aC _ _) (aA _);have b7:=uJ wr [iv p] 3 (0,0);have c0:=hB.size;have c7:e≤1048576:=by have:=hA.o.2.1;omega
    have b3:(List.replicate e 0++D).length+1≤17592186044416:=by rw [aI,yZ];omega
    have b4:w.heap.size≤(wr.alloc (Obj.cells #[iv p] 3)).heap.size:=by simp;omega
    have b2:Bz w (wr.alloc (Obj.cells #[iv p] 3)):=hB.alloc c0 _;clear a9 hS
    go_wp2_with (at_builtin;refine wE _ rfl _ _ rfl w.heap.size _ (List.replicate e 0++D) [p] 1 rfl rfl wr.heap.size 1 rfl b7 ho b3 b4 ?_;intro v' w3 a4 a0)
    go_roundw
    case rel=>exact⟨i+1,q,D++ [p],by simp,by simp,by omega,a5,by rw [←fO];exact a4,b2.trans a0⟩
    case measure=>simp [intOf];omega
   ·obtain rfl:i=a2:=by omega
    have b5:f<16:=by have:=hA.o.2.2;omega
    have h0:2^f≤32768:=aE (tO (n:=2) (by decide) (show f≤15 by omega)) (by decide);have a6:=Shls.done (A:=A) (c:=c) (D:=D) (r:=f) (B:=65536) (by rw [hA.o.1];exact hS) e (aE h0 (by decide));have a9:=hS.len;have c7:e≤1048576:=by have:=hA.o.2.1;omega
    have c2:(List.replicate e 0++D).length=e+i:=by rw [aI,yZ,a9]
    have a8:2^f*65536^e=2^k:=by
     have:k=f+16*e:=by have:=hA.o;omega
     rw [this,DX,tN]
    rw [dM,a8] at a6;generalize List.replicate e 0++D=E at*;obtain⟨c3,hfd⟩:=a6;have ho:eX w.heap.size (wr.alloc (Obj.cells #[iv c] 3)) u5 E:=hR.below (aC _ _) (aA _);have b7:=uJ wr [iv c] 3 (0,0);have c0:=hB.size;have b3:E.length+1≤17592186044416:=by omega
    have b4:w.heap.size≤(wr.alloc (Obj.cells #[iv c] 3)).heap.size:=by simp;omega
    have b2:Bz w (wr.alloc (Obj.cells #[iv c] 3)):=hB.alloc c0 _;have a6:=aside c3;have c5:=aside c2;clear c3 c2 a9 h0 a8 hS d1 hl1
    go_wp2_with (at_builtin;refine wE _ rfl _ _ rfl w.heap.size _ E [c] 1 rfl rfl wr.heap.size 1 rfl b7 ho b3 b4 ?_;intro v' w3 a4 a0)
    obtain⟨a,cp,rfl,hDc,hcm2,hat2⟩:=a4.at hfd;have c1:=b2.trans a0;obtain⟨m,hm⟩:=enm ((E++ [c]).length);rw [hm] at hDc ⊢;have c9:m=e+i+1:=by rw [←hm,aI,c5.o];rfl
    have d2:=zS a m cp w3.heap.size (E++ [c]) hm (by omega) hDc w3 (aA _) hat2;have c6:=aside hm;clear hm c9
    go_wp2_with (go_at_call 314;with_reducible refine d2.mono ?_;rintro e w' ⟨k',rfl,hT,hb2⟩)
    go_ret
    exact⟨_,rfl,cC.of_trim hT (by have:=hT.1;have:=c6.o;omega) hcm2 ((hat2.below hb2 (aA _)).up hb2.size) a6.o,c1.trans (hb2.mono c1.size)⟩
def cellN (w:Wo) (b k:Nat):Nat:=match w.cell? ⟨b,k,none⟩ with
 |some (.int _ q)=>q.toNat
 |_=>0
def natAt (w:Wo):Value→Nat
 | .slice (some ⟨b,off,none⟩) n _=>val 65536 ((List.range n).map fun j=>cellN w b (off+j))
 |_=>0
def cC.natAt (h:cC n w r v):natAt w r=v:=by
 obtain⟨a,L,c,rfl,h2,h3,h4,h5,rfl⟩:=h
 by_cases a1:L= []
 ·subst a1;rcases a with _|⟨b,off,_|p⟩<;>simp [YtbdpdeonapmlgaaGreatDoor.natAt,Go.Big.val]
 ·obtain⟨b,off,rfl,hb,hc⟩:=h4.2 a1;show val 65536 _=_;congr 1;apply zA;intro j
  by_cases hj:j<L.length
  ·rw [iJ,EC hj];have hx:=aZ hj;have:=hc j _ hx;rw [hx];simp [cellN,this]
  ·rw [nK (by simp;omega),nK (by omega)]
def cC.zero_iff {a:Option Addr} (h:cC n w (.slice a len c) v):v=0↔len=0:=by
 obtain⟨a',L,c',e,h2,h3,h4,h5,rfl⟩:=h;cases e;rw [h5.nil_iff (by decide)];exact rR.symm
def cC.slice (h:cC n w r v):∃a len c,r= .slice a len c:=by
 obtain⟨a,L,c,rfl,_⟩:=h;exact⟨_,_,_,rfl⟩
def SR (h:len≤M) (hM:M≤1048576):len<4611686018427387904:=by omega
def AA (r:Value) (n v:Nat) (w:Wo) (h:cC n w r v):Cz 316 #[r,.int .i64 0] w fun e w'=>e= .returned (.int .i64 ((v%2:Nat):Int))∧w'=w:=by
 obtain⟨a,L,c,rfl,h2,h3,h4,h5,rfl⟩:=h;rw [XB (B:=65536) (H:=32768) rfl];exact Ad a L.length c n L rfl w h4
def FN (r1 r2:Value) (n1 n2 x y M:Nat) (w:Wo) (h1:cC n1 w r1 x) (h2:cC n2 w r2 y) (hx:x<65536^M) (hy:y<65536^M) (hM:M≤1048576):Cz 265 #[r1,r2] w fun e w'=>e= .returned (.int .i64 (gY x y))∧w'=w:=by
 obtain⟨a,L,c,rfl,h2',h3,h4,h5,rfl⟩:=h1;obtain⟨a',L',c',rfl,k2,k3,k4,k5,rfl⟩:=h2;exact Ab a a' L.length L'.length c c' n1 n2 L L' rfl rfl (SR (h5.len_of hx) hM) (SR (k5.len_of hy) hM) w h4 k4
def rsubN (r1 r2:Value) (n1 n2 x y M:Nat) (w:Wo) (a5:n1≤w.heap.size) (a6:n2≤w.heap.size) (h1:cC n1 w r1 x) (h2:cC n2 w r2 y) (hx:x<65536^M) (hM:M≤1048576) (a3:y≤x):Cz 318 #[r1,r2] w fun e w'=>∃r,e= .returned r∧cC w'.heap.size w' r (x-y)∧Bz w w':=by
 obtain⟨a,L,c,rfl,h2',h3,h4,h5,rfl⟩:=h1;obtain⟨a',L',c',rfl,k2,k3,k4,k5,rfl⟩:=h2;refine(ZA a a' L.length L'.length c c' n1 n2 L L' rfl rfl (aE (h5.len_of hx) hM) w a5 a6 h4 k4).mono ?_;rintro e w' ⟨D,b,a2,k,c2,hS,hT,hkc,hcm,rfl,hat,hb⟩;have a0:L'.length≤L.length:=k5.len_le (B:=65536) (by decide) h4.1 a3;exact⟨_,rfl,cC.of_trim hT hkc hcm hat (hS.done a0 a3),hb⟩
structure Twos (x y t a b:Nat):Prop where
 ha:x=2^t*a
 hb:y=2^t*b
 pa:0<a
 pb:0<b
def Twos.start (hx:0<x) (hy:0<y):Twos x y 0 x y:=⟨by simp,by simp,hx,hy⟩
def Twos.step (h:Twos x y t a b) (h0:a%2=0) (h1:b%2=0):Twos x y (t+1) (a/2) (b/2):=by
 have e1:a=2*(a/2):=by omega
 have e2:b=2*(b/2):=by omega
 have:=h.pa;have:=h.pb;refine⟨?_,?_,by omega,by omega⟩
 ·rw [h.ha,eR,dM,←e1]
 ·rw [h.hb,eR,dM,←e2]
def Twos.lt (h:Twos x y t a b) (hx:x<65536^M):t<16*M:=by
 have h1:2^t≤x:=by
  rw [h.ha];exact Nat.le_mul_of_pos_right _ h.pa
 have h2:(65536:Nat)^M=2^(16*M):=by rw [tN]
 rw [h2] at hx;exact(yU (by decide)).1 (iD h1 hx)
def Twos.gcd (h:Twos x y t a b):Nat.gcd x y=Nat.gcd a b*2^t:=by
 rw [h.ha,h.hb,Nat.gcd_mul_left,bZ]
def Twos.le (h:Twos x y t a b):a≤x∧b≤y:=by
 have h0:=UY t;exact⟨h.ha▸Kz _ h0,h.hb▸Kz _ h0⟩
structure Odd (g a b:Nat):Prop where
 g:Nat.gcd a b=g
 pb:0<b
 odd:a%2=1∨b%2=1
def Odd.left (h:Odd g a b) (pa:0<a) (h0:a%2=0):Odd g (a/2) b:=by
 have hb:b%2=1:=h.odd.resolve_left (by omega);exact⟨(QI h0 hb).trans h.g,h.pb,.inr hb⟩
def Odd.right (h:Odd g a b) (h0:b%2=0):Odd g a (b/2):=by
 have ha:a%2=1:=h.odd.resolve_right (by omega);have:=h.pb;exact⟨by rw [DZ,QI h0 ha,DZ];exact h.g,by omega,.inl ha⟩
def Odd.sub (h:Odd g a b) (hb:b%2=1) (a0:b≤a):Odd g (a-b) b:=⟨by rw [QH a0];exact h.g,h.pb,.inr hb⟩
def Odd.swap (h:Odd g a b) (ha:a%2=1) (hb:b%2=1) (a4:a<b):Odd g (b-a) a:=by
 refine⟨?_,by omega,.inr ha⟩;rw [QH (Nat.le_of_lt a4),DZ];exact h.g
def Odd.done (h:Odd g a b) (h0:a=0):b=g:=by
 have:=h.g;rw [h0,VK] at this;exact this
def zV (r:Value) (n v P M:Nat) (hP:P=65536^M) (hM:M≤1048576) (hv:v<P) (w:Wo) (hn:n≤w.heap.size) (h:cC n w r v):
  Cz 317 #[r] w fun e w'=>∃r,e= .returned r∧cC w'.heap.size w' r (v/2)∧Bz w w':=ZQ r n v M (hP▸hv) hM w hn h
def ZR (r1 r2:Value) (n1 n2 x y P M:Nat) (hP:P=65536^M) (hM:M≤1048576) (hx:x<P) (hy:y<P) (w:Wo) (d8:n1≤w.heap.size) (d9:n2≤w.heap.size) (h1:cC n1 w r1 x) (h2:cC n2 w r2 y):
  Cz 266 #[r1,r2] w fun e w'=>∃r,e= .returned r∧cC w'.heap.size w' r (Nat.gcd x y)∧Bz w w':=by
 obtain⟨a1,a7,c1,rfl⟩:=h1.slice;obtain⟨a2,b8,c2,rfl⟩:=h2.slice;have z1:=h1.zero_iff;have z2:=h2.zero_iff
 by_cases c5:x=0
 ·obtain rfl:a7=0:=z1.1 c5;subst c5;have hr:=(h2.up d9);rw [VK];clear h1 h2 z1 z2;go_enter Tryz.func266,Tryz.ntmps266;go_wp2
  go_ret
  exact⟨_,rfl,hr,aG _ _⟩
 by_cases d4:y=0
 ·obtain rfl:b8=0:=z2.1 d4;subst d4;have hr:=(h1.up d8);have f2:((a7:Int)==0)=false:=by have:a7≠0:=fun e=>c5 (z1.2 e);simp;omega
  rw [Nat.gcd_zero_right];clear h1 h2 z1 z2;go_enter Tryz.func266,Tryz.ntmps266;go_wp2
  go_ret
  exact⟨_,rfl,hr,aG _ _⟩
 have e7:((a7:Int)==0)=false:=by have:a7≠0:=fun e=>c5 (z1.2 e);simp;omega
 have e8:((b8:Int)==0)=false:=by have:b8≠0:=fun e=>d4 (z2.2 e);simp;omega
 have i1:=h1.up d8;have i2:=h2.up d9;clear h1 h2 z1 z2;go_enter Tryz.func266,Tryz.ntmps266
 go_upto_block 0 with fail
 go_cut [0,1,5] from 15 to 28 (fun s0 s1 s5 wc=>∃a b t:Nat,cC wc.heap.size wc s0 a∧cC wc.heap.size wc s1 b∧s5= .int .i64 t∧Twos x y t a b∧(a%2=1∨b%2=1)∧Bz w wc)
 case first=>
  go_wp2_with fail
  go_loopw [0,1,5] (fun s0 s1 s5 wc=>∃a b t:Nat,cC wc.heap.size wc s0 a∧cC wc.heap.size wc s1 b∧s5= .int .i64 t∧Twos x y t a b∧Bz w wc) (fun _ _ s _=>16777216-(intOf s).toNat)
  case atStart=>exact⟨x,y,0,i1,i2,rfl,Twos.start (by omega) (by omega),aG _ _⟩
  case round=>
   obtain⟨a,b,t,hA,hC,rfl,hT,hB⟩:=hrel;have e0:t<16777216:=by have:=hT.lt (hP▸hx);omega
   have d1:=AA _ _ a wr hA;have d2:=AA _ _ b wr hC;have d0:=hT.le
   by_cases ha:a%2=0
   ·by_cases hb:b%2=0
    ·have e2:=hT.step ha hb;have k1:=zV _ _ a P M hP hM (iD d0.1 hx) wr (aA _) hA;have k2:=fun w2 (a6:Bz wr w2)=>zV _ _ b P M hP hM (iD d0.2 hy) w2 (aA _) ((hC.below a6 (aA _)).up a6.size)
     rw [ha] at d1;rw [hb] at d2;have f4:=ewr (i:=t) (by omega);clear ha hb hT d0 hA hC
     go_wp2_with first|(go_at_call 316;with_reducible refine d1.mono ?_;rintro e w' ⟨rfl,rfl⟩)|(go_at_call 316;with_reducible refine d2.mono ?_;rintro e w' ⟨rfl,rfl⟩)|(go_at_call 317;with_reducible refine k1.mono ?_;rintro e w2 ⟨ra,rfl,a4,a6⟩)|(go_at_call 317;with_reducible refine(k2 _ (by assumption)).mono ?_;rintro e w3 ⟨rb,rfl,hC2,hb3⟩)
     go_roundw
     case rel=>exact⟨a/2,b/2,t+1,(a4.below hb3 (aA _)).up hb3.size,hC2,by simp,e2,hB.trans ((a6.trans (hb3.mono a6.size)).mono hB.size)⟩
     case measure=>simp [intOf];omega
    ·have c7:b%2=1:=by omega
     rw [ha] at d1;rw [c7] at d2;have b6:=aside c7;clear ha hb c7
     go_wp2_with first|(go_at_call 316;with_reducible refine d1.mono ?_;rintro e w' ⟨rfl,rfl⟩)|(go_at_call 316;with_reducible refine d2.mono ?_;rintro e w' ⟨rfl,rfl⟩)
     go_meet
     exact⟨a,b,t,hA,hC,rfl,hT,.inr b6.o,hB⟩
   ·have c6:a%2=1:=by omega
    rw [c6] at d1;have b6:=aside c6;clear ha c6
    go_wp2_with first|(go_at_call 316;with_reducible refine d1.mono ?_;rintro e w' ⟨rfl,rfl⟩)|(go_at_call 316;with_reducible refine d2.mono ?_;rintro e w' ⟨rfl,rfl⟩)
    go_meet
    exact⟨a,b,t,hA,hC,rfl,hT,.inl b6.o,hB⟩
 case rest=>
  obtain⟨a0,b0,t,hA0,hC0,rfl,hT,hod,hB0⟩:=hcut;have b3:=hT.le;have e0:t≤16777216:=by have:=hT.lt (hP▸hx);omega
  have c8:=hT.gcd;obtain⟨g,hg⟩:=enm (Nat.gcd a0 b0);have d6:Odd g a0 b0:=⟨hg,hT.pb,hod⟩;have f0:g<P:=iD (aE (hg▸Nat.gcd_le_right a0 hT.pb) b3.2) hy;rw [hg] at c8;have e1:=aside c8;have b9:a0<P:=iD b3.1 hx;have d7:b0<P:=iD b3.2 hy;clear c8 hg hT hod b3
  go_wp2_with fail
  go_loopw [0,1] (fun s0 s1 wc=>∃a b:Nat,cC wc.heap.size wc s0 a∧cC wc.heap.size wc s1 b∧Odd g a b∧a<P∧b<P∧Bz w wc) (fun s0 s1 wc=>natAt wc s0+natAt wc s1)
  case atStart=>exact⟨a0,b0,hA0,hC0,d6,b9,d7,hB0⟩
  case round=>
   clear hA0 hC0 d6 b9 d7 hB0;obtain⟨a,b,hA,hC,hO,haP,hbP,hB⟩:=hrel;have m0:=hA.natAt;have m1:=hC.natAt;obtain⟨aa,la,ca,rfl⟩:=hA.slice;have hz:=hA.zero_iff
   by_cases b9:a=0
   ·obtain rfl:la=0:=hz.1 b9;have e3:=hO.done b9;subst e3;have hs:=ZB _ t _ b M (hP▸hbP) hM e0 wr (aA _) hC;clear hz m0 m1
    go_wp2_with (go_at_call 319;with_reducible refine hs.mono ?_;rintro e w2 ⟨r,rfl,hR,a6⟩)
    go_ret
    exact⟨_,rfl,by rw [e1.o];exact hR,hB.trans (a6.mono hB.size)⟩
   ·have e6:0<la:=by have:la≠0:=fun e=>b9 (hz.2 e);omega
    have f1:(0:Int)<(la:Int):=by omega
    clear hz
    go_upto_block 4 with fail
    go_cut [0] from 32 to 36 (fun s0 wc=>∃a':Nat,cC wc.heap.size wc s0 a'∧a'%2=1∧a'≤a∧Odd g a' b∧Bz wr wc)
    case first=>
     go_wp2_with fail
     go_loopw [0] (fun s0 wc=>∃a':Nat,cC wc.heap.size wc s0 a'∧0<a'∧a'≤a∧Odd g a' b∧Bz wr wc) (fun s0 wc=>natAt wc s0)
     case atStart=>exact⟨a,hA,by omega,aA _,hO,aG _ _⟩
     case round=>
      clear hO;obtain⟨a',hA',hp',hle',hO',hB'⟩:=hrel;have d1:=AA _ _ a' _ hA';have m2:=hA'.natAt
      by_cases b2:a'%2=0
      ·have k1:=zV _ _ a' P M hP hM (iD hle' haP) _ (aA _) hA';have a5:=hO'.left hp' b2;have d3:0<a'/2:=by omega
       rw [b2] at d1;clear b2
       go_wp2_with first|(go_at_call 316;with_reducible refine d1.mono ?_;rintro e w' ⟨rfl,rfl⟩)|(go_at_call 317;with_reducible refine k1.mono ?_;rintro e w2 ⟨ra,rfl,a4,a6⟩)
       go_roundw
       case rel=>exact⟨a'/2,a4,d3,by omega,a5,hB'.trans (a6.mono hB'.size)⟩
       case measure=>have:=a4.natAt;simp [*];omega
      ·have a3:a'%2=1:=by omega
       rw [a3] at d1;have b6:=aside a3;clear b2 a3
       go_wp2_with (go_at_call 316;with_reducible refine d1.mono ?_;rintro e w' ⟨rfl,rfl⟩)
       go_meet
       exact⟨a',hA',b6.o,hle',hO',hB'⟩
    case rest=>
     obtain⟨a',hA',hodd,hle',hO',hB'⟩:=hcut;have d5:=(hC.below hB' (aA _)).up hB'.size;clear hO hA hC
     go_upto_block 6 with fail
     go_cut [1] from 37 to 41 (fun s1 b4=>∃b':Nat,cC b4.heap.size b4 s1 b'∧b'%2=1∧b'≤b∧Odd g a' b'∧Bz wc b4)
     case first=>
      go_wp2_with fail
      go_loopw [1] (fun s1 b4=>∃b':Nat,cC b4.heap.size b4 s1 b'∧b'≤b∧Odd g a' b'∧Bz wc b4) (fun s1 b4=>natAt b4 s1)
      case atStart=>exact⟨b,d5,aA _,hO',aG _ _⟩
      case round=>
       clear hO';obtain⟨b',hC2,hlb,a5,hB2⟩:=hrel;have d1:=AA _ _ b' _ hC2;have m2:=hC2.natAt;have e4:=a5.pb
       by_cases b2:b'%2=0
       ·have k1:=zV _ _ b' P M hP hM (iD hlb hbP) _ (aA _) hC2;have c3:=a5.right b2;rw [b2] at d1;clear b2 hodd
        go_wp2_with first|(go_at_call 316;with_reducible refine d1.mono ?_;rintro e w' ⟨rfl,rfl⟩)|(go_at_call 317;with_reducible refine k1.mono ?_;rintro e w2 ⟨ra,rfl,a4,a6⟩)
        go_roundw
        case rel=>exact⟨b'/2,a4,by omega,c3,hB2.trans (a6.mono hB2.size)⟩
        case measure=>have:=a4.natAt;simp [*];omega
       ·have a3:b'%2=1:=by omega
        rw [a3] at d1;have b6:=aside a3;clear b2 a3 hodd
        go_wp2_with (go_at_call 316;with_reducible refine d1.mono ?_;rintro e w' ⟨rfl,rfl⟩)
        go_meet
        exact⟨b',hC2,b6.o,hlb,a5,hB2⟩
     case rest=>
      obtain⟨b',hC2,hodb,hlb,a5,hB2⟩:=hcut;have a4:=(hA'.below hB2 (aA _)).up hB2.size;have e4:=a5.pb;have a8:a'<P:=iD hle' haP;have a9:b'<P:=iD hlb hbP;have b1:=FN _ _ _ _ a' b' M _ a4 hC2 (hP▸a8) (hP▸a9) hM;have c4:Bz w wc:=hB.trans ((hB'.trans (hB2.mono hB'.size)).mono hB.size);clear hO' d5 hA' hB' hB2
      by_cases b5:a'<b'
      ·have c3:=a5.swap hodd hodb b5;have b7:=rsubN _ _ _ _ b' a' M wc (aA _) (aA _) hC2 a4 (hP▸a9) hM (Nat.le_of_lt b5);have c0:gY a' b'= -1:=by simp [gY,b5]
       rw [c0] at b1;have f3:0<a':=by omega
       have c9:=aside b5;clear a5 hodd hodb b5 c0
       go_wp2_with first|(go_at_call 265;with_reducible refine b1.mono ?_;rintro e w' ⟨rfl,rfl⟩)|(go_at_call 318;with_reducible refine b7.mono ?_;rintro e w3 ⟨rs,rfl,hS3,hb3⟩)
       have hN:=(a4.below hb3 (aA _)).up hb3.size;go_roundw
       case rel=>exact⟨b'-a',a',hS3,hN,c3,iD (Nat.sub_le _ _) a9,a8,c4.trans (hb3.mono c4.size)⟩
       case measure=>have q1:=hS3.natAt;have q2:=hN.natAt;have q3:=c9.o;simp [*];omega
      ·have c3:=a5.sub hodb (by omega);have b7:=rsubN _ _ _ _ a' b' M wc (aA _) (aA _) a4 hC2 (hP▸a8) hM (by omega);obtain⟨cv,c0⟩:=enm (gY a' b');have e9:¬cv<0:=by rw [←c0];unfold gY;rw [if_neg b5];split<;>omega
       rw [c0] at b1;have c9:Aside (b'≤a'):=Nat.le_of_not_lt b5;clear a5 hodd hodb b5 c0
       go_wp2_with first|(go_at_call 265;with_reducible refine b1.mono ?_;rintro e w' ⟨rfl,rfl⟩)|(go_at_call 318;with_reducible refine b7.mono ?_;rintro e w3 ⟨rs,rfl,hS3,hb3⟩)
       have hN:=(hC2.below hb3 (aA _)).up hb3.size;go_roundw
       case rel=>exact⟨a'-b',b',hS3,hN,c3,iD (Nat.sub_le _ _) a8,a9,c4.trans (hb3.mono c4.size)⟩
       case measure=>have q1:=hS3.natAt;have q2:=hN.natAt;have q3:=c9.o;simp [*];omega
end Go.Proofs.YtbdpdeonapmlgaaGreatDoor
namespace Go.Calm
section
variable {P:Program} {ops:Array Oper} {md:Region.Mode} {C:Wo→Prop}
def upon (P:Program) (C:Wo→Prop) (v:Value):Result Next→Prop
 | .ok (.value u) w'=>u=v∧C w'
 | .ok .skip w'=>v=undef∧C w'
 | .ok (.enter f args) w'=>Calls P f args w' fun e a0=>e= .returned v∧C a0
 |_=>False
def At (P:Program) (ops:Array Oper) (C:Wo→Prop) (o:Oper) (v:Value) (a:Act):Prop:=
 (Region.wanted o (yielded ops a.tmps)=true∧∀w,C w→upon P C v ((execOp a.eval o).run P w))∨(Region.wanted o (yielded ops a.tmps)=false∧v=undef)
def one (P:Program) (ops:Array Oper) (C:Wo→Prop) (i:Nat) (K:Act→Prop) (a:Act):Prop:=
 match ops[i]? with
 |none=>K a
 |some o=>∃v,At P ops C o v a∧K (a.put o.dst v)
def At.one {i:Nat} {o:Oper} {v:Value} {a:Act} (hi:ops[i]?=some o) (hy:At P ops C o v a) {K:Act→Prop} (h:K (a.put o.dst v)):one P ops C i K a:=by
 unfold Calm.one;rw [hi];exact⟨v,hy,h⟩
end
end Go.Calm
namespace Go.Heavy
variable {Q K':Act→Wo→Prop} {a:Act} {o oi:Oper} {w:Wo} {i j id h k n:Nat} {Q':Exit→Act→Wo→Prop} {v:Value} {K:Value→Wo→Prop} {l rest:List Oper}
section
section
variable {P:Program} {ops:Array Oper} {md:Region.Mode} {C:Wo→Prop}
def uponW (P:Program) (K:Value→Wo→Prop):Result Next→Prop
 | .ok (.value u) w'=>K u w'
 | .ok .skip w'=>K undef w'
 | .ok (.enter f args) w'=>Calls P f args w' fun e b1=>∃v,e= .returned v∧K v b1
 |_=>False
def EK {K':Value→Wo→Prop} (h:∀v w,K v w→K' v w) {r:Result Next} (hh:uponW P K r):uponW P K' r:=by
 cases r with
 |ok n w'=>
  cases n<;>simp only [uponW] at hh ⊢
  case enter f args=>exact hh.mono fun e b1 ⟨v,e1,e2⟩=>⟨v,e1,h _ _ e2⟩
  all_goals exact h _ _ hh
 |halt x w'=>simp only [uponW] at hh
def St (P:Program) (ops:Array Oper) (C:Wo→Prop) (o:Oper) (v:Value) (a:Act):Prop:=
 (Region.wanted o (yielded ops a.tmps)=true∧∀w,C w→uponW P (fun u w'=>u=v∧w'=w) ((execOp a.eval o).run P w))∨(Region.wanted o (yielded ops a.tmps)=false∧v=undef)
def St.same {a':Act} (h:St P ops C o v a) (he:execOp a'.eval o=execOp a.eval o) (hw:Region.wanted o (yielded ops a'.tmps)=Region.wanted o (yielded ops a.tmps)):St P ops C o v a':=by
 unfold St at*;rw [he,hw];exact h
def qI (P:Program) (ops:Array Oper) (o:Oper) (K:Act→Wo→Prop) (a:Act) (w:Wo):Prop:=
 (Region.wanted o (yielded ops a.tmps)=true∧uponW P (fun v w'=>K (a.put o.dst v) w') ((execOp a.eval o).run P w))∨(Region.wanted o (yielded ops a.tmps)=false∧K (a.put o.dst undef) w)
def jF (P:Program) (ops:Array Oper) (i:Nat) (K:Act→Wo→Prop) (a:Act) (w:Wo):Prop:=
 match ops[i]? with
 |none=>K a w
 |some o=>qI P ops o K a w
def wW {K:Act→Wo→Prop} (h:∀a w,K a w→K' a w) (hh:qI P ops o K a w):qI P ops o K' a w:=by
 rcases hh with⟨h1,h2⟩|⟨h1,h2⟩
 ·exact .inl ⟨h1,EK (fun v w'=>h _ _) h2⟩
 ·exact .inr ⟨h1,h _ _ h2⟩
def NY {K:Act→Wo→Prop} (h:∀a w,K a w→K' a w) (hh:jF P ops i K a w):jF P ops i K' a w:=by
 unfold jF at*;split
 ·rename_i ho;rw [ho] at hh;exact h _ _ hh
 ·rename_i o ho;rw [ho] at hh;exact wW h hh
def St.one (hi:ops[i]?=some o) (hw:C w) (hy:St P ops C o v a) {K:Act→Wo→Prop} (h:K (a.put o.dst v) w):jF P ops i K a w:=by
 unfold jF;rw [hi];rcases hy with⟨h1,h2⟩|⟨h1,rfl⟩
 ·exact .inl ⟨h1,EK (fun u w' ⟨e1,e2⟩=>by subst e1;subst e2;exact h) (h2 w hw)⟩
 ·exact .inr ⟨h1,h⟩
def WV {r:Result Next} (h:∀v w,K v w→K' (a.put o.dst v) w) (hh:uponW P K r):o.upon P a K' Q' r:=by
 cases r with
 | ok n w'=>
  cases n<;>simp only [uponW] at hh<;>simp only [Oper.upon]
  case enter f args=>
   exact hh.mono fun e b1 ⟨v,he,hw⟩=>by subst he;exact h _ _ hw
  case value u=>exact h _ _ hh
  case skip=>exact h _ _ hh
 |halt x w'=>simp only [uponW] at hh
def KP {K:Act→Wo→Prop} (h:∀a w,K a w→K' a w) (hh:jF P ops i K a w):wpOp P ops Q' i K' a w:=by
 unfold jF at hh;unfold wpOp;split
 ·rename_i ho;rw [ho] at hh;exact h _ _ hh
 ·rename_i o ho;rw [ho] at hh;rcases hh with⟨h1,h2⟩|⟨h1,h2⟩
  ·rw [if_pos h1];exact .inl (WV (fun v w' c0=>h _ _ c0) h2)
  ·rw [if_neg (by rw [h1];exact Bool.false_ne_true)];exact h _ _ h2
def NX {oj:Oper} (hj:ops[j]?=some oj) (b4:oi.apart ops oj=true)
  (b8:∀cs b,oi.op≠ .select cs b) (b9:∀cs b,oj.op≠ .select cs b) {K:Act→Wo→Prop} {a:Act} {w:Wo}
  (hy:St P ops C oi v a) (h:jF P ops j K (a.put oi.dst v) w):jF P ops j (fun a' w'=>St P ops C oi v a'∧K (a'.put oi.dst v) w') a w:=by
 obtain⟨h1,h2,h3⟩:=Oper.apart_spec b4;unfold jF at*;rw [hj] at h ⊢;have key:∀u,St P ops C oi v (a.put oj.dst u):=fun u=>hy.same (execOp_put oi b8 a oj.dst u h3) (wanted_put oi a oj.dst u h3)
 have hE:=execOp_put oj b9 a oi.dst v h1;have hW:=wanted_put oj a oi.dst v h1;rcases h with⟨g1,g2⟩|⟨g1,g2⟩
 ·refine .inl ⟨hW.symm.trans g1,?_⟩;rw [hE] at g2;refine EK (fun u w' hk=>⟨key u,?_⟩) g2;rw [←Act.put_comm a v u h2];exact hk
 ·refine .inr ⟨hW.symm.trans g1,key _,?_⟩;rw [←Act.put_comm a v undef h2];exact g2
def xN (P:Program) (md:Region.Mode) (ops:Array Oper) (C:Wo→Prop) (n:Nat) (L:Array Bool→Act→Wo→Prop):Nat→Array Bool→Act→Wo→Prop
 |0,listed,a,w=>L listed a w
 |f+1,listed,a,w=>Region.ready md ops listed≠ []∧∀i∈Region.ready md ops listed,i<n∧jF P ops i (fun a' w'=>C w'∧xN P md ops C n L f (listed.setIfInBounds i true) a' w') a w
def UH {n g:Nat} {L:Array Bool→Act→Wo→Prop} {Q':Exit→Act→Wo→Prop} (hL:∀listed a w,L listed a w→wpAny P md ops Q' g listed a w):
  ∀(f:Nat) (listed:Array Bool) (a:Act) (w:Wo),xN P md ops C n L f listed a w→wpAny P md ops Q' (f+g) listed a w
 |0,listed,a,w,h=>by rw [bT];exact hL _ _ _ h
 |f+1,listed,a,w,h=>by
  rw [show f+1+g=(f+g)+1 by omega];exact⟨fun h0=>absurd h0 h.1,fun i hi=>KP (fun a' w' h'=>UH hL f _ a' w' h'.2) (h.2 i hi).2⟩
def Eq {L:Array Bool→Act→Wo→Prop} (hi:ops[i]?=some oi) (a6:∀(j:Nat) (o:Oper) cs b,ops[j]?=some o→o.op≠ .select cs b)
  (hs:Region.sinkB md ops n=true) (hc:Region.chainB md ops n=true) (hn:n<ops.size) (b2:i<n) (a3:∀listed a w,L listed a w→∀j∈Region.ready md ops listed,n≤j):
  ∀(f:Nat) (listed:Array Bool) (a:Act) (w:Wo),C w→HeadInv md ops n listed→
   (∀j oj,ops[j]?=some oj→j≠i→listed.getD j true=false→(∀e∈oj.after,Region.binds md e=true→e.on≠i)→oi.apart ops oj=true)→
   i∈Region.ready md ops listed→St P ops C oi v a→xN P md ops C n L f (listed.setIfInBounds i true) (a.put oi.dst v) w→xN P md ops C n L (f+1) listed a w:=by
 intro f
 induction f with
 | zero=>
  intro listed a w hw a9 _ hr hy H;have a8:=(rF.1 hr).1;refine⟨fun h=>(by rw [h] at hr;cases hr),fun j hj=>?_⟩;have a7:j<n:=DY fun h=>JL hs hc hn a9 _ i rfl b2 a8 j h hj
  refine⟨a7,?_⟩
  by_cases a1:j=i
  ·subst a1;exact hy.one hi hw ⟨hw,H⟩
  ·have:=a3 _ _ _ H j (yP hj a1);omega
 | succ f ih=>
  intro listed a w hw a9 a0 hr hy H;have a8:=(rF.1 hr).1;refine⟨fun h=>(by rw [h] at hr;cases hr),fun j hj=>?_⟩;have a7:j<n:=DY fun h=>JL hs hc hn a9 _ i rfl b2 a8 j h hj
  refine⟨a7,?_⟩
  by_cases a1:j=i
  ·subst a1;exact hy.one hi hw ⟨hw,H⟩
  ·have h1:=(H.2 j (yP hj a1)).2;obtain⟨a4,oj,hoj,hall⟩:=rF.1 hj;have b0:∀e∈oj.after,Region.binds md e=true→e.on≠i:=fun e he hb b5=>by
    have h1:=hall e he hb;rw [b5,getD_both a8] at h1;cases h1
   have h2:=NX hoj (a0 j oj hoj a1 a4 b0) (fun cs b=>a6 i oi cs b hi) (fun cs b=>a6 j oj cs b hoj) hy h1;have a2:∀k ok,ops[k]?=some ok→k≠i→(listed.setIfInBounds j true).getD k true=false→
     (∀e∈ok.after,Region.binds md e=true→e.on≠i)→oi.apart ops ok=true:=fun k ok hk b6 a5 b7=>by
    refine a0 k ok hk b6 ?_ b7
    by_cases b3:j=k
    ·subst b3;exact a4
    ·rw [getD_set_ne true b3] at a5;exact a5
   refine NY (fun a' w' h3=>⟨h3.2.1,ih (listed.setIfInBounds j true) a' w' h3.2.1 (a9.set hj a7) a2 (yP hr (eZ a1)) h3.1 ?_⟩) h2;rw [WQ _ _ a1];exact h3.2.2
def yA (P:Program) (ops:Array Oper) (C:Wo→Prop) (h:Nat) (Q:Act→Wo→Prop):Nat→List Oper→Act→Wo→Prop
 |_,[],a,w=>Q a w
 |k,o::rest,a,w=>if k=h then qI P ops o (fun a' w'=>C w'∧yA P ops C h Q (k+1) rest a' w') a w else∃v,St P ops C o v a∧yA P ops C h Q (k+1) rest (a.put o.dst v) w
def still_step (v:Value) (hk:¬k=h) (hg:Region.wanted o (yielded ops a.tmps)=true) (hs:∀w,C w→uponW P (fun u w'=>u=v∧w'=w) ((execOp a.eval o).run P w)) (hK:yA P ops C h Q (k+1) rest (a.put o.dst v) w):yA P ops C h Q k (o::rest) a w:=by
 unfold yA;rw [if_neg hk];exact⟨v,.inl ⟨hg,hs⟩,hK⟩
end
end
section
inductive Plan where
 |done
 |light (i:Nat) (p:Plan)
 |one (i:Nat) (p:Plan)
 |two (i j:Nat) (p q:Plan)
def lights:List Nat→Plan→Plan
 | [],p=>p
 |i::is,p=>.light i (lights is p)
def Plan.size:Plan→Nat
 | .done=>0
 | .light _ p=>p.size+1
 | .one _ p=>p.size+1
 | .two _ _ p _=>p.size+1
def oZ (md:Region.Mode) (ops:Array Oper) (g n:Nat):Plan→Array Bool→Bool
 | .done,listed=>Region.seqB md ops g n listed
 | .light i p,listed=>(Region.ready md ops listed).contains i&&Region.free md ops listed i&&decide (i<n)&&oZ md ops g n p (listed.setIfInBounds i true)
 | .one i p,listed=>Region.ready md ops listed== [i]&&decide (i<n)&&oZ md ops g n p (listed.setIfInBounds i true)
 | .two i j p q,listed=>Region.ready md ops listed== [i,j]&&decide (i<n)&&decide (j<n)&&decide (p.size=q.size)&&oZ md ops g n p (listed.setIfInBounds i true)&&oZ md ops g n q (listed.setIfInBounds j true)
section
variable {P:Program} {ops:Array Oper} {md:Region.Mode} {C:Wo→Prop}
def eE (P:Program) (ops:Array Oper) (C:Wo→Prop) (Q:Act→Wo→Prop):Plan→Act→Wo→Prop
 | .done,a,w=>Q a w
 | .light i p,a,w=>∃o v,ops[i]?=some o∧St P ops C o v a∧eE P ops C Q p (a.put o.dst v) w
 | .one i p,a,w=>∃o,ops[i]?=some o∧qI P ops o (fun a' w'=>C w'∧eE P ops C Q p a' w') a w
 | .two i j p q,a,w=>(∃o,ops[i]?=some o∧qI P ops o (fun a' w'=>C w'∧eE P ops C Q p a' w') a w)∧∃o,ops[j]?=some o∧qI P ops o (fun a' w'=>C w'∧eE P ops C Q q a' w') a w
def xM {n g:Nat} {Lq:Act→Wo→Prop} (a1:Region.noSelect ops=true) (hs:Region.sinkB md ops n=true) (hc:Region.chainB md ops n=true) (hn:n<ops.size):
  ∀(p:Plan) (listed:Array Bool) (a:Act) (w:Wo),C w→HeadInv md ops n listed→oZ md ops g n p listed=true→eE P ops C Lq p a w→xN P md ops C n (fun a2 a' w'=>Region.seqB md ops g n a2=true∧Lq a' w') p.size listed a w
 | .done,listed,a,w,_,_,hB,h=>⟨hB,h⟩
 | .light i p,listed,a,w,hw,inv,hB,h=>by
  simp only [oZ,aN,fI] at hB;obtain⟨⟨⟨hr,hf⟩,hin⟩,hB'⟩:=hB;have a8:i∈Region.ready md ops listed:=by simpa using hr
  obtain⟨o,v,h0,hy,hK⟩:=h;exact Eq h0 (UU a1) hs hc hn hin (fun a2 a' w' hL=>seqB_ready hL.1) p.size listed a w hw inv (UV h0 hf) a8 hy
   (xM a1 hs hc hn p _ _ _ hw (inv.set a8 hin) hB' hK)
 | .one i p,listed,a,w,hw,inv,hB,h=>by
  simp only [oZ,aN,fI] at hB;obtain⟨⟨hr,hin⟩,hB'⟩:=hB;have a0:Region.ready md ops listed= [i]:=by simpa using hr
  obtain⟨o,h0,h1⟩:=h;refine⟨by rw [a0];simp,fun k hk=>?_⟩;have a3:k∈Region.ready md ops listed:=hk;rw [a0] at hk;have:k=i:=by simpa using hk
  subst this;refine⟨hin,?_⟩;unfold jF;rw [h0];exact wW (fun a' w' ⟨h2,h3⟩=>⟨h2,xM a1 hs hc hn p _ a' w' h2 (inv.set a3 hin) hB' h3⟩) h1
 | .two i j p q,listed,a,w,hw,inv,hB,h=>by
  simp only [oZ,aN,fI] at hB;obtain⟨⟨⟨⟨⟨hr,hin⟩,hjn⟩,hpq⟩,hB1⟩,hB2⟩:=hB;have a0:Region.ready md ops listed= [i,j]:=by simpa using hr
  obtain⟨⟨o,h0,h1⟩,o',a4,h1'⟩:=h;refine⟨by rw [a0];simp,fun k hk=>?_⟩;have a3:k∈Region.ready md ops listed:=hk;rw [a0] at hk;have:k=i∨k=j:=by simpa using hk
  rcases this with rfl|rfl
  ·refine⟨hin,?_⟩;unfold jF;rw [h0];exact wW (fun a' w' ⟨h2,h3⟩=>⟨h2,xM a1 hs hc hn p _ a' w' h2 (inv.set a3 hin) hB1 h3⟩) h1
  ·refine⟨hjn,?_⟩;unfold jF;rw [a4];refine wW (fun a' w' ⟨h2,h3⟩=>⟨h2,?_⟩) h1';have:=xM a1 hs hc hn q _ a' w' h2 (inv.set a3 hjn) hB2 h3;rw [hpq];exact this
def region_plan {Q:Exit→Act→Wo→Prop} (C:Wo→Prop) (n:Nat) (p:Plan) (hm:P.follows .mixedOrders=true)
  (hB:(Region.noSelect l.toArray&&decide (n<l.toArray.size)&&Region.sinkB .any l.toArray n&&Region.chainB .any l.toArray n&&decide (p.size=n)&&oZ .any l.toArray (l.toArray.size-n) n p (Array.replicate l.toArray.size false))=true)
  (hw:C { w with drawn:=w.drawn+1 }) (a5:eE P l.toArray C (fun a' w'=>wpList P l.toArray Q (l.drop n) a' w') p a { w with drawn:=w.drawn+1 }):(Code.region id l.toArray true).wp P Q a w:=by
 simp only [aN,fI] at hB;obtain⟨⟨⟨⟨⟨a1,hn⟩,hs⟩,hc⟩,hsz⟩,hok⟩:=hB;have a7:(l.drop n).length=l.toArray.size-n:=by simp
 have a6:HeadInv .any l.toArray n (Array.replicate l.toArray.size false):=
  ⟨by simp,fun j oj _ hl=>(by rw [DP] at hl;cases hl),fun t _ ht=>getD_in (by simpa using ht) (DP _ _)⟩
 have H:=xM (md:=.any) a1 hs hc hn p _ a _ hw a6 hok a5;refine UM hm ?_;have:=UH (Q':=Q) (g:=l.toArray.size-n) (fun listed a' w' hL=>by
  have:=wpAny_of_seq (md:=.any) (Q':=Q) (l.drop n) n listed a' w' (fun j=>by simp [kR]) (by rw [a7];exact hL.1) hL.2
  rwa [a7] at this) _ _ _ _ H
 rw [hsz,show n+(l.toArray.size-n)=l.toArray.size by omega] at this;exact this
def light_step {p:Plan} (v:Value) (h0:ops[i]?=some o) (hg:Region.wanted o (yielded ops a.tmps)=true) (hs:∀w,C w→uponW P (fun u w'=>u=v∧w'=w) ((execOp a.eval o).run P w)) (hK:eE P ops C Q p (a.put o.dst v) w):eE P ops C Q (.light i p) a w:=
 ⟨o,v,h0,.inl ⟨hg,hs⟩,hK⟩
def light_n {p:Plan} (v:Value) (h0:ops[i]?=some o) (hg:o.guard=none) (hs:∀w,C w→uponW P (fun u w'=>u=v∧w'=w) ((execOp a.eval o).run P w)) (hK:eE P ops C Q p (a.put o.dst v) w):eE P ops C Q (.light i p) a w:=
 ⟨o,v,h0,.inl ⟨by unfold Region.wanted;rw [hg],hs⟩,hK⟩
def one_n {p:Plan} (h0:ops[i]?=some o) (hg:o.guard=none) (hK:uponW P (fun v w'=>C w'∧eE P ops C Q p (a.put o.dst v) w') ((execOp a.eval o).run P w)):eE P ops C Q (.one i p) a w:=
 ⟨o,h0,.inl ⟨by unfold Region.wanted;rw [hg],hK⟩⟩
def two_n {p q:Plan} {o':Oper} (h0:ops[i]?=some o) (hg:o.guard=none) (a4:ops[j]?=some o') (b0:o'.guard=none)
  (hK:uponW P (fun v w'=>C w'∧eE P ops C Q p (a.put o.dst v) w') ((execOp a.eval o).run P w)) (a9:uponW P (fun v w'=>C w'∧eE P ops C Q q (a.put o'.dst v) w') ((execOp a.eval o').run P w)):eE P ops C Q (.two i j p q) a w:=
 ⟨⟨o,h0,.inl ⟨by unfold Region.wanted;rw [hg],hK⟩⟩,o',a4,.inl ⟨by unfold Region.wanted;rw [b0],a9⟩⟩
def light_skip {p:Plan} (h0:ops[i]?=some o) (hg:Region.wanted o (yielded ops a.tmps)=false) (hK:eE P ops C Q p (a.put o.dst undef) w):eE P ops C Q (.light i p) a w:=
 ⟨o,undef,h0,.inr ⟨hg,rfl⟩,hK⟩
def one_step {p:Plan} (h0:ops[i]?=some o) (hg:Region.wanted o (yielded ops a.tmps)=true) (hK:uponW P (fun v w'=>C w'∧eE P ops C Q p (a.put o.dst v) w') ((execOp a.eval o).run P w)):eE P ops C Q (.one i p) a w:=
 ⟨o,h0,.inl ⟨hg,hK⟩⟩
def plan_end (hQ:Q a w):eE P ops C Q .done a w:=hQ
end
end
end Go.Heavy
