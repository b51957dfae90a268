/- Lemmas; no condition. -/
import Derived.Test.YtbdpdeonapmlgaaGreatDoorZ
import Derived.Test.YtbdpdeonapmlgaaGreatDoorProg
import Derived.WalkKit
import Derived.LoopTactic
import Derived.Below
import Derived.Sort.Grow
import Derived.Sort.Lot0
import Derived.Deep.QuietTactic
import Derived.StillTailTactics
import Derived.BigQuiet
import Derived.Lib.LaidTab
import Derived.Laws.AppendOwn
import Derived.Deep.Cut
import Derived.Deep.CutRange
import Derived.Deep.CutBlock
import Derived.OwnWalk
import Derived.WalkSmall
import Derived.Deep.OwnRows
import Derived.StillTail
import Derived.Laws.BytesArg
import Derived.Laws.Strings
import Derived.Lib.SliceRun
set_option linter.all false
set_option maxHeartbeats 1000000
set_option maxRecDepth 100000
namespace Go.Big
variable {L ds us vs qs a lo mid es u:List Nat} {B i c V n x b g A un U j:Nat}
section
def val (B:Nat):List Nat→Nat
 | []=>0
 |x::xs=>x+B*val B xs
def lX (B:Nat):∀(a b:List Nat),val B (a++b)=val B a+B^a.length*val B b
 | [],b=>by simp [val]
 |x::a,b=>by
  rw [mW,val,lX B a b,val,eW,gN,eD,cP (B^a.length) B,eQ];omega
def val_lt {B:Nat}:∀{a:List Nat},(∀x∈a,x<B)→val B a<B^a.length
 | [],_=>by simp [val]
 |x::a,h=>by
  have h1:=h x (by simp);have h2:=val_lt (a:=a) fun y hy=>h y (by simp [hy])
  rw [val,eW,gN,cP];have h3:(val B a+1)*B≤B^a.length*B:=eZ B h2;rw [dP,mR] at h3;omega
def JW (B:Nat):∀n:Nat,val B (List.replicate n 0)=0
 |0=>rfl
 |n+1=>by rw [mV,val,JW B n];simp
def jW (B:Nat) (a:List Nat) (x:Nat):val B (a++ [x])=val B a+B^a.length*x:=by
 rw [lX];simp [val]
def val_ge (hx:x≠0):B^a.length≤val B (a++ [x]):=by
 rw [jW];have:B^a.length*1≤B^a.length*x:=mS _ (by omega);omega
section
variable {B P Q v1 v2 V3 top u2 U3 q g r:Nat}
def Ed (hP:P=B*Q) (a3:u2<B) (a1:U3<Q) (hq:q*(v1*P+v2*Q+V3)≤top*P+u2*Q+U3):q*v1≤top:=by
 apply oH;intro hn;have h1:(top+1)*P≤q*v1*P:=eZ P (by omega);have h2:q*(v1*P+v2*Q+V3)=q*v1*P+q*(v2*Q)+q*V3:=by
  rw [eD,eD,eQ]
 have h3:(u2+1)*Q≤B*Q:=eZ Q a3;rw [dP,mR] at h1 h3;omega
def Ec (hP:P=B*Q) (a1:U3<Q) (hg:g*v1+r=top) (ht:r*B+u2<g*v2):top*P+u2*Q+U3<g*(v1*P+v2*Q+V3):=by
 have h1:g*(v1*P+v2*Q+V3)=g*v1*P+g*v2*Q+g*V3:=by
  rw [eD,eD,eQ,eQ]
 have h2:(r*B+u2+1)*Q≤g*v2*Q:=eZ Q ht;have h3:top*P=g*v1*P+r*P:=by rw [←hg,dP]
 have h4:r*P=r*B*Q:=by rw [hP,eQ]
 have h5:(r*B+u2+1)*Q=r*B*Q+u2*Q+Q:=by rw [dP,dP,mR]
 omega
def Eb (hP:P=B*Q) (a4:V3<Q) (hg:(g+1)*v1+r=top) (ht:(g+1)*v2≤r*B+u2) (a2:g≤v1*B+v2):g*(v1*P+v2*Q+V3)≤top*P+u2*Q+U3:=by
 have h1:g*(v1*P+v2*Q+V3)=g*v1*P+g*v2*Q+g*V3:=by
  rw [eD,eD,eQ,eQ]
 have h2:(g+1)*v2*Q≤(r*B+u2)*Q:=eZ Q ht;have h3:top*P=g*v1*P+v1*P+r*P:=by rw [←hg,dP,dP,mR,dP]
 have h4:r*P=r*B*Q:=by rw [hP,eQ]
 have h5:(r*B+u2)*Q=r*B*Q+u2*Q:=by rw [dP]
 have h6:(g+1)*v2*Q=g*v2*Q+v2*Q:=by rw [dP,mR,dP]
 have h7:g*V3≤g*Q:=mS g (by omega);have h8:g*Q≤(v1*B+v2)*Q:=eZ Q a2;have h9:(v1*B+v2)*Q=v1*P+v2*Q:=by rw [dP,hP,eQ]
 omega
end
inductive MulSub (B g:Nat):List Nat→List Nat→List Nat→Nat→Nat→Prop
 |nil:MulSub B g [] [] [] 0 0
 |snoc {us vs ds:List Nat} {u v d c b b':Nat} (h:MulSub B g us vs ds c b) (hd:d<B) (a0:b'≤1) (he:u+b'*B=d+(c+g*v)%B+b):MulSub B g (us++ [u]) (vs++ [v]) (ds++ [d]) ((c+g*v)/B) b'
def MulSub.spec (h:MulSub B g us vs ds c b):
  us.length=vs.length∧ds.length=vs.length∧b≤1∧(∀d∈ds,d<B)∧val B us+B^vs.length*(c+b)=val B ds+g*val B vs:=by
 induction h with
 |nil=>simp [val]
 | @snoc us vs ds u v d c b b' h hd a0 he ih=>
  obtain⟨h1,h2,h3,h4,h5⟩:=ih;refine⟨by simp [h1],by simp [h2],a0,fun x hx=>?_,?_⟩
  ·rcases cG.1 hx with hx|hx
   ·exact h4 x hx
   ·simp at hx;omega
  ·rw [jW,jW,jW,h1,h2,aI,vP,gN];generalize B^vs.length=W at*;have e1:(c+g*v)%B+B*((c+g*v)/B)=c+g*v:=VF _ _;generalize (c+g*v)/B=k,(c+g*v)%B=m at*;have e2:W*u+W*(b'*B)=W*d+W*m+W*b:=by rw [←eD,he,eD,eD]
   have e3:W*m+W*(B*k)=W*c+W*(g*v):=by rw [←eD,e1,eD]
   have e4:W*B*(k+b')=W*(B*k)+W*(b'*B):=by rw [eD,eQ,eQ,cP B b']
   have e5:g*(val B vs+W*v)=g*val B vs+W*(g*v):=by rw [eD,Nat.mul_left_comm]
   have e6:W*(c+b)=W*c+W*b:=eD _ _ _;rw [e4,e5];omega
end
inductive AddD (B:Nat):List Nat→List Nat→List Nat→Nat→Prop
 |nil:AddD B [] [] [] 0
 |snoc {us vs ds:List Nat} {u v d c c':Nat} (h:AddD B us vs ds c) (hd:d<B) (he:u+v+c=d+c'*B):AddD B (us++ [u]) (vs++ [v]) (ds++ [d]) c'
def AddD.spec (h:AddD B us vs ds c):
  us.length=vs.length∧ds.length=vs.length∧(∀d∈ds,d<B)∧val B us+val B vs=val B ds+B^vs.length*c:=by
 induction h with
 |nil=>simp [val]
 | @snoc us vs ds u v d c c' h hd he ih=>
  obtain⟨h1,h2,h4,h5⟩:=ih;refine⟨by simp [h1],by simp [h2],fun x hx=>?_,?_⟩
  ·rcases cG.1 hx with hx|hx
   ·exact h4 x hx
   ·simp at hx;omega
  ·rw [jW,jW,jW,h1,h2,aI,vP,gN];generalize B^vs.length=W at*;have e2:W*u+W*v+W*c=W*d+W*(c'*B):=by rw [←eD,←eD,he,eD]
   have e4:W*B*c'=W*(c'*B):=by rw [eQ,cP B c']
   rw [e4];omega
structure Guess (V U g:Nat):Prop where
 ge:∀q,q*V≤U→q≤g
 le:g=0∨(g-1)*V≤U
def Ea (hV:V=val B vs) (hn:n=vs.length) (hU:U=val B us+B^n*un) (a7:∀x∈vs,x<B) (hm:MulSub B g us vs ds c b) (hG:Guess V U g) (a6:0<V) (b1:c+b≤un):
  U=g*V+val B ds∧val B ds<V∧un=c+b:=by
 obtain⟨h1,h2,h3,h4,h5⟩:=hm.spec;subst hn;have a9:V<B^vs.length:=hV▸val_lt a7;obtain⟨k,rfl⟩:∃k,un=c+b+k:=⟨un-(c+b),by omega⟩;have e1:B^vs.length*(c+b+k)=B^vs.length*(c+b)+B^vs.length*k:=eD _ _ _;rw [←hV] at h5;have e2:U=g*V+(val B ds+B^vs.length*k):=by omega
 have a3:val B ds+B^vs.length*k<V:=by
  apply oH;intro hn;have:=hG.ge (g+1) (by rw [dP,mR];omega);omega
 have hk:k=0:=by
  apply oH;intro h;have:B^vs.length*1≤B^vs.length*k:=mS _ (by omega);omega
 subst hk;rw [yN,fG] at e2 a3;exact⟨e2,a3,by omega⟩
def Ee {ca:Nat} (hB:0<B) (hV:V=val B vs) (hn:n=vs.length) (hU:U=val B us+B^n*un) (a7:∀x∈vs,x<B) (hm:MulSub B g us vs ds c b) (hG:Guess V U g) (a6:0<V) (b1:un<c+b) (ha:AddD B ds vs es ca):
  0<g∧U=(g-1)*V+val B es∧val B es<V∧ca=1∧c+b=un+1:=by
 obtain⟨h1,h2,h3,h4,h5⟩:=hm.spec;obtain⟨a1,a2,a4,a5⟩:=ha.spec;subst hn;have a9:V<B^vs.length:=hV▸val_lt a7;have b4:val B ds<B^vs.length:=by have:=val_lt h4;rwa [h2] at this
 have a8:val B es<B^vs.length:=by have:=val_lt a4;rwa [a2] at this
 rw [←hV] at h5 a5;obtain⟨k,hk⟩:∃k,c+b=un+1+k:=⟨c+b-(un+1),by omega⟩;have e1:B^vs.length*(c+b)=B^vs.length*un+B^vs.length+B^vs.length*k:=by rw [hk,eD,eD,yO]
 have e2:U+B^vs.length+B^vs.length*k=val B ds+g*V:=by omega
 have hg:0<g:=by
  rcases vK g with h|h
  ·subst h;rw [pM] at e2;omega
  ·exact h
 have b5:(g-1)*V≤U:=hG.le.resolve_left (by omega);have e3:g*V=(g-1)*V+V:=by
  have:g=g-1+1:=by omega
  rw [this,dP,mR,IY]
 have b3:k=0:=by
  apply oH;intro h;have:B^vs.length*1≤B^vs.length*k:=mS _ (by omega);omega
 subst b3;rw [yN,fG] at e2;have b0:ca=1:=by
  match ca,a5 with
  |0,a5=>rw [yN] at a5;omega
  |1,_=>rfl
  |m+2,a5=>
   have:B^vs.length*(m+2)=B^vs.length*m+B^vs.length*2:=eD _ _ _;omega
 subst b0;rw [yO] at a5;have a3:val B es<V:=by
  apply oH;intro hn;have:=hG.ge g (by omega);have h9:g*V≤U:=by omega
  omega
 exact⟨hg,by omega,a3,rfl,by omega⟩
structure DivAt (B A V:Nat) (j n:Nat) (u qs:List Nat):Prop where
 len:u.length=j+n
 dig:∀x∈u,x<B
 qdig:∀x∈qs,x<B
 small:val B (u.drop j)<V
 sum:A=val B u+B^j*val B qs*V
def DivAt.done (h:DivAt B A V 0 n u qs):A=val B qs*V+val B u∧val B u<V:=by
 have h1:=h.sum;have h2:=h.small;rw [Nat.pow_zero,mR] at h1;rw [bG] at h2;exact⟨by omega,h2⟩
def DivAt.step {q:Nat} (h:DivAt B A V (j+1) n (lo++mid) qs) (a0:lo.length=j) (hq:q<B) (b2:∀x∈es,x<B) (a8:es.length=n) (he:val B mid=q*V+val B es) (hs:val B es<V):
  DivAt B A V j n (lo++es) (q::qs):=by
 refine⟨by simp [a0,a8],fun x hx=>?_,fun x hx=>?_,?_,?_⟩
 ·rcases cG.1 hx with hx|hx
  ·exact h.dig x (vO _ hx)
  ·exact b2 x hx
 ·rcases cM.1 hx with rfl|hx
  ·exact hq
  ·exact h.qdig x hx
 ·rw [Kz (by omega),←a0,JN,kX];exact hs
 ·have h1:=h.sum;rw [lX,a0,he] at h1;rw [lX,a0,val];have e1:B^j*(q*V+val B es)=B^j*(q*V)+B^j*val B es:=eD _ _ _;have e2:B^j*(q+B*val B qs)*V=B^j*(q*V)+B^(j+1)*val B qs*V:=by
   rw [eD,dP,eQ,gN,eQ (B^j) B]
  rw [e2];omega
def DivAt.below (h:DivAt B A V (j+1) n (lo++mid) qs) (a0:lo.length=j):val B mid<B*V:=by
 have hs:=h.small;have hl:=h.len;rw [aI] at hl;rw [WD,a0,JM (by omega),kX,show j+1-j=1 by omega] at hs
 match mid,hs,h,hl with
 | [],hs,h,hl=>simp only [oG] at hl;omega
 |x::m,hs,h,hl=>
  have hx:=h.dig x (by simp);simp only [aZ,bG] at hs;rw [val];have:B*(val B m+1)≤B*V:=mS B hs;rw [eD,yO] at this;omega
section
section
variable {B P Q v1 v2 V3 top u2 U3 g r:Nat}
structure Gue (B P Q v1 v2 V3 top u2 U3 g r:Nat):Prop where
 sum:g*v1+r=top
 ge:∀q,q*(v1*P+v2*Q+V3)≤top*P+u2*Q+U3→q≤g
def Gue.start (hP:P=B*Q) (hv:0<v1) (a5:u2<B) (a2:U3<Q):Gue B P Q v1 v2 V3 top u2 U3 (top/v1) (top%v1):=
 ⟨by rw [cP];exact lS top v1,fun q hq=>(Ke hv).2 (Ed hP a5 a2 hq)⟩
def Gue.less (h:Gue B P Q v1 v2 V3 top u2 U3 g r) (hP:P=B*Q) (a2:U3<Q) (a1:top*P+u2*Q+U3<B*(v1*P+v2*Q+V3)) (ht:B≤g∨r*B+u2<g*v2):
  0<g∧Gue B P Q v1 v2 V3 top u2 U3 (g-1) (r+v1):=by
 have a4:top*P+u2*Q+U3<g*(v1*P+v2*Q+V3):=by
  rcases ht with ht|ht
  ·exact aR a1 (eZ _ ht)
  ·exact Ec hP a2 h.sum ht
 have hg:0<g:=by
  rcases vK g with h0|h0
  ·subst h0;rw [pM] at a4;omega
  ·exact h0
 refine⟨hg,?_,fun q hq=>?_⟩
 ·have:=h.sum;have e:g*v1=(g-1)*v1+v1:=by
   have:g=g-1+1:=by omega
   rw [this,dP,mR,IY]
  omega
 ·have h1:=h.ge q hq;have h2:q≠g:=fun e=>by subst e;omega
  omega
def top_lt (hP:P=B*Q) (a3:v2<B) (a0:V3<Q) (a1:top*P+u2*Q+U3<B*(v1*P+v2*Q+V3)):top<B*(v1+1):=by
 apply oH;intro hn;have h1:B*(v1+1)*P≤top*P:=eZ P (by omega);have h2:v1*P+v2*Q+V3≤(v1+1)*P:=by
  have:(v2+1)*Q≤B*Q:=eZ Q a3;rw [dP,mR] at this;rw [dP,mR];omega
 have h3:B*(v1*P+v2*Q+V3)≤B*((v1+1)*P):=mS B h2;rw [←eQ] at h3;omega
def Gue.ends (h:Gue B P Q v1 v2 V3 top u2 U3 g r) (hP:P=B*Q) (hv:0<v1) (a0:V3<Q) (hg:g<B) (ht:g*v2≤r*B+u2):Guess (v1*P+v2*Q+V3) (top*P+u2*Q+U3) g:=by
 refine⟨h.ge,?_⟩;rcases vK g with h0|h0
 ·exact .inl h0
 ·right;obtain⟨k,rfl⟩:∃k,g=k+1:=⟨g-1,by omega⟩;rw [IY];refine Eb hP a0 h.sum ht ?_;have:1*B≤v1*B:=eZ B hv;omega
def Gue.breaks (h:Gue B P Q v1 v2 V3 top u2 U3 g r) (hP:P=B*Q) (hv:0<v1) (a3:v2<B) (a0:V3<Q) (a1:top*P+u2*Q+U3<B*(v1*P+v2*Q+V3)) (hr:B≤r):g<B∧Guess (v1*P+v2*Q+V3) (top*P+u2*Q+U3) g:=by
 have ht:=top_lt hP a3 a0 a1;have hg:g<B:=by
  apply oH;intro hn;have h1:B*v1≤g*v1:=eZ v1 (by omega);have:=h.sum;rw [eD,yO] at ht;omega
 refine⟨hg,h.ends hP hv a0 hg ?_⟩;have h1:g*v2≤B*B:=rE (by omega) (by omega);have h2:B*B≤r*B:=eZ B hr;omega
end
end
def dg (L:List Nat) (i:Nat):Nat:=L[i]?.getD 0
def valf (B:Nat) (f:Nat→Nat):Nat→Nat
 |0=>0
 |n+1=>valf B f n+B^n*f n
def dg_lt (hB:0<B) (h:∀x∈L,x<B) (i:Nat):dg L i<B:=by
 unfold dg;cases e:L[i]? with
 |none=>exact hB
 |some x=>exact h x (aV e)
def dg_ge (h:L.length≤i):dg L i=0:=by
 unfold dg;rw [pQ h];rfl
def Gi (h:L[i]?=some x):dg L i=x:=by unfold dg;rw [h];rfl
def dg_get (h:i<L.length):L[i]?=some (dg L i):=by
 unfold dg;rw [bM h];rfl
structure Subs (B:Nat) (A C D:List Nat) (i b:Nat):Prop where
 len:D.length=i
 dig:∀x∈D,x<B
 bor:b≤1
 sum:val B D+valf B (dg C) i=valf B (dg A) i+B^i*b
structure Shls (B r:Nat) (A D:List Nat) (i c:Nat):Prop where
 len:D.length=i
 dig:∀x∈D,x<B
 car:c<2^r
 sum:val B D+B^i*c=valf B (dg A) i*2^r
end Go.Big
namespace Go.Proofs.YtbdpdeonapmlgaaGreatDoor
open Go.RowKit Go.Big
variable {L a0 D A C:List Nat} {w:Wo} {n B i b k v m x:Nat} {a:Option Addr} {r sv:Value}
def WO (h:k<4611686018427387904):IntKind.i64.wrap (k:Int)=k:=by
 rw [dX];omega
def aC (w:Wo) (o:Obj):Below w.heap.size w (w.alloc o):=(bD _ _).alloc (aA _) o
def UA (w:Wo):Below w.heap.size w w.drew:=⟨rfl,rfl,rfl,aA _,fun _ _=>rfl⟩
def slen0:Value→Nat
 | .slice _ n _=>n
 |_=>0
def IntAt (n:Nat) (w:Wo) (a:Option Addr) (L:List Nat):Prop:=
 (∀x∈L,x<65536)∧(L≠ []→∃b off,a=some ⟨b,off,none⟩∧b<n∧∀(j x:Nat),L[j]?=some x→w.cell? ⟨b,off+j,none⟩=some (.int .i64 x))
def Trimmed (L:List Nat) (k:Nat):Prop:=k≤L.length∧(∀x∈L.drop k,x=0)∧(k=0∨∃x,L[k-1]?=some x∧x≠0)
def JX {B:Nat}:∀{L:List Nat},(∀x∈L,x=0)→val B L=0
 | [],_=>rfl
 |x::L,h=>by
  have h1:=h x (by simp);have h2:=JX (B:=B) (L:=L) fun y hy=>h y (by simp [hy])
  rw [val,h1,h2];simp
def Trimmed.val (h:Trimmed L k):val B (L.take k)=val B L:=by
 have e:L.take k++L.drop k=L:=pO k L
 conv=>rhs;rw [←e]
 rw [lX,JX h.2.1];simp
def NoZ (L:List Nat):Prop:=∀x,L.getLast?=some x→x≠0
def NoZ.pos (hB:0<B) (h:NoZ L) (a0:L≠ []):B^(L.length-1)≤Go.Big.val B L:=by
 obtain⟨A,x,rfl⟩:∃A x,L=A++ [x]:=⟨L.dropLast,L.getLast a0,(Lb a0).symm⟩;have:=val_ge (B:=B) (a:=A) (x:=x) (h x (by simp));simpa using this
def NoZ.len_le (hB:1<B) (hC:NoZ C) (hA:∀x∈A,x<B) (h:Go.Big.val B C≤Go.Big.val B A):C.length≤A.length:=by
 by_cases a0:C= []
 ·subst a0;simp
 ·have h1:=hC.pos (B:=B) (by omega) a0;have h2:=val_lt hA;have h3:B^(C.length-1)<B^A.length:=by omega
  have:=(IS hB).1 h3;omega
def NoZ.eq:∀{A C:List Nat},NoZ A→NoZ C→(∀x∈A,x<B)→(∀x∈C,x<B)→1<B→Go.Big.val B A=Go.Big.val B C→A=C:=by
 intro A C hA hC ha hc hB h;have l1:=hC.len_le hB ha (rH h.symm);have l2:=hA.len_le hB hc (rH h);have hl:A.length=C.length:=by omega
 clear l1 l2 hA hC
 induction A generalizing C with
 |nil=>cases C with|nil=>rfl|cons y C=>simp at hl
 | cons x A ih=>
  cases C with
  |nil=>simp at hl
  | cons y C=>
   rw [Go.Big.val,Go.Big.val] at h;have hx:=ha x (by simp);have hy:=hc y (by simp);have e1:x=y:=by
    have:=eT (· %B) h;simpa [Ki,rF hx,rF hy] using this
   subst e1;have e2:Go.Big.val B A=Go.Big.val B C:=Nat.eq_of_mul_eq_mul_left (show 0<B by omega) (by omega);rw [ih (fun z hz=>ha z (by simp [hz])) (fun z hz=>hc z (by simp [hz])) e2 (by simpa using hl)]
abbrev tA (k v:Int) (nm:ByteArray) (g:Bool) (a:Option Addr) (b c:Nat) (d:Option Addr) (e f:Nat) (h:Option Addr) (i j:Nat):Array Value:=#[.int .i64 k,.int .i64 v,.string nm,.bool g,.slice a b c,.slice d e f,.slice h i j]
abbrev tC (k v:Int) (nm:ByteArray) (g:Bool) (a:Option Addr) (b c:Nat) (d:Option Addr) (e f:Nat) (h:Option Addr) (i j:Nat) (k' v':Int) (a1:ByteArray) (g':Bool) (a':Option Addr) (b' c':Nat) (d':Option Addr) (e' f':Nat) (h':Option Addr) (i' j':Nat) (l:Int):Array Value:=#[.int .i64 k,.int .i64 v,.string nm,.bool g,.slice a b c,.slice d e f,.slice h i j,.int .i64 k',.int .i64 v',.string a1,.bool g',.slice a' b' c',.slice d' e' f',.slice h' i' j',.int .i64 l]
abbrev bA (k v:Int) (nm:ByteArray) (g:Bool) (a:Option Addr) (b c:Nat) (d:Option Addr) (e f:Nat) (h:Option Addr) (i j:Nat):Obj:=Obj.cells (tA k v nm g a b c d e f h i j) 48
abbrev bC (k v:Int) (nm:ByteArray) (g:Bool) (a:Option Addr) (b c:Nat) (d:Option Addr) (e f:Nat) (h:Option Addr) (i j:Nat) (k' v':Int) (a1:ByteArray) (g':Bool) (a':Option Addr) (b' c':Nat) (d':Option Addr) (e' f':Nat) (h':Option Addr) (i' j':Nat) (l:Int):Obj:=Obj.cells (tC k v nm g a b c d e f h i j k' v' a1 g' a' b' c' d' e' f' h' i' j' l) 50
abbrev Cz (f:Nat) (l:Array Value) (w:Wo) (Q:Ending→Wo→Prop):Prop:=Calls Tryz.prog f l w Q
def egf {α:Type} {L:List α} (hl:L.length=n) (h:i<n):∃A,L[i]?=some A:=⟨L[i]'(by rw [hl];exact h),bM _⟩
abbrev Bz (a b:Wo):=Below a.heap.size a b
def enm {α:Type} (a:α):∃x,a=x:=⟨_,rfl⟩
def enr {α:Type} (a:α):∃x,x=a:=⟨_,rfl⟩
def ewr (h:i<4611686018427387904):IntKind.i64.wrap ((i:Int)+1)=(i:Int)+1:=by rw [dX];omega
def elt (h:i<n) (hn:n<4611686018427387904):(i:Int)<(n:Int)∧(0:Int)≤(i:Int)∧IntKind.i64.wrap ((i:Int)+1)=(i:Int)+1:=⟨by omega,by omega,ewr (by omega)⟩
def ege {α:Type} {L:List α} (h:i<L.length):∃A,L[i]?=some A:=⟨L[i]'h,bM _⟩
def ebx (w:Wo) (o:Obj):∃b,w.alloc o=b∧Bz w b∧b.heap[w.heap.size]?=some o∧b.heap.size=w.heap.size+1:=⟨_,rfl,aC w o,aJ w o,by simp⟩
def iv (x:Nat):Value:=.int .i64 x
def IntRow (base:Nat) (w:Wo) (sv:Value) (D:List Nat):Prop:=w.ownsRow base 3 1 sv D.length (D.map iv)
def IntRow.nil (base:Nat) (w:Wo):IntRow base w (.slice none 0 0) []:=pL _ _ _ _
def IntRow.at {base:Nat} (h:IntRow base w sv D) (hd:∀x∈D,x<65536):∃a c,sv= .slice a D.length c∧D.length≤c∧c≤maxLen∧IntAt w.heap.size w a D:=by
 obtain⟨h1,⟨e,h0⟩|⟨g,cap,cur,e1,hb,hg,hnc,hm,hs,ht⟩⟩:=h
 ·have:D= []:=gI h0;subst this;exact⟨none,0,e,aA _,bX _,hd,fun h=>absurd rfl h⟩
 ·refine⟨some ⟨g,0,none⟩,cap,e1,hnc,hm,hd,fun _=>⟨g,0,rfl,(aG.1 hg).1,fun j x hx=>?_⟩⟩;have hj:=(aM.1 hx).1;have h2:cur[j]?=some (iv x):=by
   rw [←gP,←iY (show j<D.length*1 by omega),ht,gO,hx];rfl
  simpa [World.cell?,hg,iv] using h2
def cR (n:Nat) (w:Wo) (a:Option Addr) (L:List Nat):Prop:=
 (∀x∈L,x<4294967296)∧(L≠ []→∃b off,a=some ⟨b,off,none⟩∧b<n∧∀(j x:Nat),L[j]?=some x→w.cell? ⟨b,off+j,none⟩=some (.int .u32 x))
def cR.below {w':Wo} (h:cR n w a L) (hb:Below m w w') (hm:n≤m):cR n w' a L:=by
 refine⟨h.1,fun a0=>?_⟩;obtain⟨b,off,e,hbn,hc⟩:=h.2 a0;exact⟨b,off,e,hbn,fun j x hx=>((hb.mono hm).cell (p:=⟨b,off+j,none⟩) hbn).trans (hc j x hx)⟩
def cR.get (h:cR n w a L) (hx:L[k]?=some x):∃b off,a=some ⟨b,off,none⟩∧b<n∧x<4294967296∧w.cell? ⟨b,off+k,none⟩=some (.int .u32 x):=by
 have a0:L≠ []:=by intro e;subst e;simp at hx
 obtain⟨b,off,e,hb,hc⟩:=h.2 a0;exact⟨b,off,e,hb,h.1 x (aV hx),hc k x hx⟩
def NatR (n:Nat) (w:Wo) (r:Value) (v:Nat):Prop:=∃a L c,r= .slice a L.length c∧L.length≤c∧c≤maxLen∧IntAt n w a L∧NoZ L∧val 65536 L=v
def IRow (w:Wo) (b:Nat) (a0:List Nat):Prop:=w.heap[b]?=some (.cells (a0.map iv).toArray 3 (0,0))
def IRow.cell (h:IRow w b a0) {k x:Nat} (hx:a0[k]?=some x):w.cell? ⟨b,k,none⟩=some (.int .i64 x)∧w.frozen? ⟨b,k,none⟩=false:=by
 unfold IRow at h;simp [World.cell?,World.frozen?,h,hx,iv]
def IRow.put (h:IRow w b a0) {k x:Nat} (hk:k<a0.length):IRow (w.setCell ⟨b,k,none⟩ (.int .i64 x)) b (a0.set k x):=by
 have a1:b<w.heap.size:=(aG.1 h).1;unfold IRow at*;show(Array.modify w.heap b _)[b]?=_;rw [mY,if_pos rfl,h];simp [iv]
def IRow.at (h:IRow w b a0) (hd:∀x∈a0,x<65536):IntAt w.heap.size w (some ⟨b,0,none⟩) a0:=
 ⟨hd,fun _=>⟨b,0,rfl,(aG.1 h).1,fun j x hx=>by rw [bT];exact(h.cell hx).1⟩⟩
def cellN (w:Wo) (b k:Nat):Nat:=match w.cell? ⟨b,k,none⟩ with
 |some (.int _ q)=>q.toNat
 |_=>0
def natAt (w:Wo):Value→Nat
 | .slice (some ⟨b,off,none⟩) n _=>val 65536 ((List.range n).map fun j=>cellN w b (off+j))
 |_=>0
def NatR.natAt (h:NatR n w r v):natAt w r=v:=by
 obtain⟨a,L,c,rfl,h2,h3,h4,h5,rfl⟩:=h
 by_cases a0:L= []
 ·subst a0;rcases a with _|⟨b,off,_|p⟩<;>simp [YtbdpdeonapmlgaaGreatDoor.natAt,Go.Big.val]
 ·obtain⟨b,off,rfl,hb,hc⟩:=h4.2 a0;show val 65536 _=_;congr 1;apply JL;intro j
  by_cases hj:j<L.length
  ·rw [gO,DG hj];have hx:=bM hj;have:=hc j _ hx;rw [hx];simp [cellN,this]
  ·rw [pQ (by simp;omega),pQ (by omega)]
def NatR.slice (h:NatR n w r v):∃a len c,r= .slice a len c:=by
 obtain⟨a,L,c,rfl,_⟩:=h;exact⟨_,_,_,rfl⟩
structure Twos (x y t a b:Nat):Prop where
 ha:x=2^t*a
 hb:y=2^t*b
 pa:0<a
 pb:0<b
structure Odd (g a b:Nat):Prop where
 g:Nat.gcd a b=g
 pb:0<b
 odd:a%2=1∨b%2=1
end Go.Proofs.YtbdpdeonapmlgaaGreatDoor
namespace Go.Calm
section
variable {P:Program} {ops:Array Oper} {md:Region.Mode} {C:Wo→Prop}
def upon (P:Program) (C:Wo→Prop) (v:Value):Result Next→Prop
 | .ok (.value u) w'=>u=v∧C w'
 | .ok .skip w'=>v=undef∧C w'
 | .ok (.enter f args) w'=>Calls P f args w' fun e a0=>e= .returned v∧C a0
 |_=>False
def At (P:Program) (ops:Array Oper) (C:Wo→Prop) (o:Oper) (v:Value) (a:Act):Prop:=
 (Region.wanted o (yielded ops a.tmps)=true∧∀w,C w→upon P C v ((execOp a.eval o).run P w))∨(Region.wanted o (yielded ops a.tmps)=false∧v=undef)
def one (P:Program) (ops:Array Oper) (C:Wo→Prop) (i:Nat) (K:Act→Prop) (a:Act):Prop:=
 match ops[i]? with
 |none=>K a
 |some o=>∃v,At P ops C o v a∧K (a.put o.dst v)
def At.one {i:Nat} {o:Oper} {v:Value} {a:Act} (hi:ops[i]?=some o) (hy:At P ops C o v a) {K:Act→Prop} (h:K (a.put o.dst v)):one P ops C i K a:=by
 unfold Calm.one;rw [hi];exact⟨v,hy,h⟩
end
end Go.Calm
namespace Go.Heavy
variable {Q K':Act→Wo→Prop} {a:Act} {o oi:Oper} {w:Wo} {i j id h k n:Nat} {Q':Exit→Act→Wo→Prop} {v:Value} {K:Value→Wo→Prop} {l rest:List Oper}
section
section
variable {P:Program} {ops:Array Oper} {md:Region.Mode} {C:Wo→Prop}
def uponW (P:Program) (K:Value→Wo→Prop):Result Next→Prop
 | .ok (.value u) w'=>K u w'
 | .ok .skip w'=>K undef w'
 | .ok (.enter f args) w'=>Calls P f args w' fun e b1=>∃v,e= .returned v∧K v b1
 |_=>False
def DM {K':Value→Wo→Prop} (h:∀v w,K v w→K' v w) {r:Result Next} (hh:uponW P K r):uponW P K' r:=by
 cases r with
 |ok n w'=>
  cases n<;>simp only [uponW] at hh ⊢
  case enter f args=>exact hh.mono fun e b1 ⟨v,e1,e2⟩=>⟨v,e1,h _ _ e2⟩
  all_goals exact h _ _ hh
 |halt x w'=>simp only [uponW] at hh
def St (P:Program) (ops:Array Oper) (C:Wo→Prop) (o:Oper) (v:Value) (a:Act):Prop:=
 (Region.wanted o (yielded ops a.tmps)=true∧∀w,C w→uponW P (fun u w'=>u=v∧w'=w) ((execOp a.eval o).run P w))∨(Region.wanted o (yielded ops a.tmps)=false∧v=undef)
def St.same {a':Act} (h:St P ops C o v a) (he:execOp a'.eval o=execOp a.eval o) (hw:Region.wanted o (yielded ops a'.tmps)=Region.wanted o (yielded ops a.tmps)):St P ops C o v a':=by
 unfold St at*;rw [he,hw];exact h
def rW (P:Program) (ops:Array Oper) (o:Oper) (K:Act→Wo→Prop) (a:Act) (w:Wo):Prop:=
 (Region.wanted o (yielded ops a.tmps)=true∧uponW P (fun v w'=>K (a.put o.dst v) w') ((execOp a.eval o).run P w))∨(Region.wanted o (yielded ops a.tmps)=false∧K (a.put o.dst undef) w)
def kD (P:Program) (ops:Array Oper) (i:Nat) (K:Act→Wo→Prop) (a:Act) (w:Wo):Prop:=
 match ops[i]? with
 |none=>K a w
 |some o=>rW P ops o K a w
def oneO_mono {K:Act→Wo→Prop} (h:∀a w,K a w→K' a w) (hh:rW P ops o K a w):rW P ops o K' a w:=by
 rcases hh with⟨h1,h2⟩|⟨h1,h2⟩
 ·exact .inl ⟨h1,DM (fun v w'=>h _ _) h2⟩
 ·exact .inr ⟨h1,h _ _ h2⟩
def Am {K:Act→Wo→Prop} (h:∀a w,K a w→K' a w) (hh:kD P ops i K a w):kD P ops i K' a w:=by
 unfold kD at*;split
 ·rename_i ho;rw [ho] at hh;exact h _ _ hh
 ·rename_i o ho;rw [ho] at hh;exact oneO_mono h hh
def St.one (hi:ops[i]?=some o) (hw:C w) (hy:St P ops C o v a) {K:Act→Wo→Prop} (h:K (a.put o.dst v) w):kD P ops i K a w:=by
 unfold kD;rw [hi];rcases hy with⟨h1,h2⟩|⟨h1,rfl⟩
 ·exact .inl ⟨h1,DM (fun u w' ⟨e1,e2⟩=>by subst e1;subst e2;exact h) (h2 w hw)⟩
 ·exact .inr ⟨h1,h⟩
def WR {r:Result Next} (h:∀v w,K v w→K' (a.put o.dst v) w) (hh:uponW P K r):o.upon P a K' Q' r:=by
 cases r with
 | ok n w'=>
  cases n<;>simp only [uponW] at hh<;>simp only [Oper.upon]
  case enter f args=>
   exact hh.mono fun e b1 ⟨v,he,hw⟩=>by subst he;exact h _ _ hw
  case value u=>exact h _ _ hh
  case skip=>exact h _ _ hh
 |halt x w'=>simp only [uponW] at hh
def WS {K:Act→Wo→Prop} (h:∀a w,K a w→K' a w) (hh:kD P ops i K a w):wpOp P ops Q' i K' a w:=by
 unfold kD at hh;unfold wpOp;split
 ·rename_i ho;rw [ho] at hh;exact h _ _ hh
 ·rename_i o ho;rw [ho] at hh;rcases hh with⟨h1,h2⟩|⟨h1,h2⟩
  ·rw [if_pos h1];exact .inl (WR (fun v w' c0=>h _ _ c0) h2)
  ·rw [if_neg (by rw [h1];exact Bool.false_ne_true)];exact h _ _ h2
def Ak {oj:Oper} (hj:ops[j]?=some oj) (b4:oi.apart ops oj=true)
  (b8:∀cs b,oi.op≠ .select cs b) (b9:∀cs b,oj.op≠ .select cs b) {K:Act→Wo→Prop} {a:Act} {w:Wo}
  (hy:St P ops C oi v a) (h:kD P ops j K (a.put oi.dst v) w):kD P ops j (fun a' w'=>St P ops C oi v a'∧K (a'.put oi.dst v) w') a w:=by
 obtain⟨h1,h2,h3⟩:=Oper.apart_spec b4;unfold kD at*;rw [hj] at h ⊢;have key:∀u,St P ops C oi v (a.put oj.dst u):=fun u=>hy.same (execOp_put oi b8 a oj.dst u h3) (wanted_put oi a oj.dst u h3)
 have hE:=execOp_put oj b9 a oi.dst v h1;have hW:=wanted_put oj a oi.dst v h1;rcases h with⟨g1,g2⟩|⟨g1,g2⟩
 ·refine .inl ⟨hW.symm.trans g1,?_⟩;rw [hE] at g2;refine DM (fun u w' hk=>⟨key u,?_⟩) g2;rw [←Act.put_comm a v u h2];exact hk
 ·refine .inr ⟨hW.symm.trans g1,key _,?_⟩;rw [←Act.put_comm a v undef h2];exact g2
def xJ (P:Program) (md:Region.Mode) (ops:Array Oper) (C:Wo→Prop) (n:Nat) (L:Array Bool→Act→Wo→Prop):Nat→Array Bool→Act→Wo→Prop
 |0,listed,a,w=>L listed a w
 |f+1,listed,a,w=>Region.ready md ops listed≠ []∧∀i∈Region.ready md ops listed,i<n∧kD P ops i (fun a' w'=>C w'∧xJ P md ops C n L f (listed.setIfInBounds i true) a' w') a w
def UO {n g:Nat} {L:Array Bool→Act→Wo→Prop} {Q':Exit→Act→Wo→Prop} (hL:∀listed a w,L listed a w→wpAny P md ops Q' g listed a w):
  ∀(f:Nat) (listed:Array Bool) (a:Act) (w:Wo),xJ P md ops C n L f listed a w→wpAny P md ops Q' (f+g) listed a w
 |0,listed,a,w,h=>by rw [bT];exact hL _ _ _ h
 |f+1,listed,a,w,h=>by
  rw [show f+1+g=(f+g)+1 by omega];exact⟨fun h0=>absurd h0 h.1,fun i hi=>WS (fun a' w' h'=>UO hL f _ a' w' h'.2) (h.2 i hi).2⟩
def Dz {L:Array Bool→Act→Wo→Prop} (hi:ops[i]?=some oi) (a6:∀(j:Nat) (o:Oper) cs b,ops[j]?=some o→o.op≠ .select cs b)
  (hs:Region.sinkB md ops n=true) (hc:Region.chainB md ops n=true) (hn:n<ops.size) (b2:i<n) (a3:∀listed a w,L listed a w→∀j∈Region.ready md ops listed,n≤j):
  ∀(f:Nat) (listed:Array Bool) (a:Act) (w:Wo),C w→HeadInv md ops n listed→
   (∀j oj,ops[j]?=some oj→j≠i→listed.getD j true=false→(∀e∈oj.after,Region.binds md e=true→e.on≠i)→oi.apart ops oj=true)→
   i∈Region.ready md ops listed→St P ops C oi v a→xJ P md ops C n L f (listed.setIfInBounds i true) (a.put oi.dst v) w→xJ P md ops C n L (f+1) listed a w:=by
 intro f
 induction f with
 | zero=>
  intro listed a w hw a9 _ hr hy H;have a8:=(yI.1 hr).1;refine⟨fun h=>(by rw [h] at hr;cases hr),fun j hj=>?_⟩;have a7:j<n:=VI fun h=>tail_waits hs hc hn a9 _ i rfl b2 a8 j h hj
  refine⟨a7,?_⟩
  by_cases a1:j=i
  ·subst a1;exact hy.one hi hw ⟨hw,H⟩
  ·have:=a3 _ _ _ H j (ready_mono hj a1);omega
 | succ f ih=>
  intro listed a w hw a9 a0 hr hy H;have a8:=(yI.1 hr).1;refine⟨fun h=>(by rw [h] at hr;cases hr),fun j hj=>?_⟩;have a7:j<n:=VI fun h=>tail_waits hs hc hn a9 _ i rfl b2 a8 j h hj
  refine⟨a7,?_⟩
  by_cases a1:j=i
  ·subst a1;exact hy.one hi hw ⟨hw,H⟩
  ·have h1:=(H.2 j (ready_mono hj a1)).2;obtain⟨a4,oj,hoj,hall⟩:=yI.1 hj;have b0:∀e∈oj.after,Region.binds md e=true→e.on≠i:=fun e he hb b5=>by
    have h1:=hall e he hb;rw [b5,getD_both a8] at h1;cases h1
   have h2:=Ak hoj (a0 j oj hoj a1 a4 b0) (fun cs b=>a6 i oi cs b hi) (fun cs b=>a6 j oj cs b hoj) hy h1;have a2:∀k ok,ops[k]?=some ok→k≠i→(listed.setIfInBounds j true).getD k true=false→
     (∀e∈ok.after,Region.binds md e=true→e.on≠i)→oi.apart ops ok=true:=fun k ok hk b6 a5 b7=>by
    refine a0 k ok hk b6 ?_ b7
    by_cases b3:j=k
    ·subst b3;exact a4
    ·rw [getD_set_ne true b3] at a5;exact a5
   refine Am (fun a' w' h3=>⟨h3.2.1,ih (listed.setIfInBounds j true) a' w' h3.2.1 (a9.set hj a7) a2 (ready_mono hr (fR a1)) h3.1 ?_⟩) h2;rw [Array.setIfInBounds_comm _ _ a1];exact h3.2.2
def xS (P:Program) (ops:Array Oper) (C:Wo→Prop) (h:Nat) (Q:Act→Wo→Prop):Nat→List Oper→Act→Wo→Prop
 |_,[],a,w=>Q a w
 |k,o::rest,a,w=>if k=h then rW P ops o (fun a' w'=>C w'∧xS P ops C h Q (k+1) rest a' w') a w else∃v,St P ops C o v a∧xS P ops C h Q (k+1) rest (a.put o.dst v) w
def still_step (v:Value) (hk:¬k=h) (hg:Region.wanted o (yielded ops a.tmps)=true) (hs:∀w,C w→uponW P (fun u w'=>u=v∧w'=w) ((execOp a.eval o).run P w)) (hK:xS P ops C h Q (k+1) rest (a.put o.dst v) w):xS P ops C h Q k (o::rest) a w:=by
 unfold xS;rw [if_neg hk];exact⟨v,.inl ⟨hg,hs⟩,hK⟩
end
end
section
inductive Plan where
 |done
 |light (i:Nat) (p:Plan)
 |one (i:Nat) (p:Plan)
 |two (i j:Nat) (p q:Plan)
def lights:List Nat→Plan→Plan
 | [],p=>p
 |i::is,p=>.light i (lights is p)
def Plan.size:Plan→Nat
 | .done=>0
 | .light _ p=>p.size+1
 | .one _ p=>p.size+1
 | .two _ _ p _=>p.size+1
def oQ (md:Region.Mode) (ops:Array Oper) (g n:Nat):Plan→Array Bool→Bool
 | .done,listed=>Region.seqB md ops g n listed
 | .light i p,listed=>(Region.ready md ops listed).contains i&&Region.free md ops listed i&&decide (i<n)&&oQ md ops g n p (listed.setIfInBounds i true)
 | .one i p,listed=>Region.ready md ops listed== [i]&&decide (i<n)&&oQ md ops g n p (listed.setIfInBounds i true)
 | .two i j p q,listed=>Region.ready md ops listed== [i,j]&&decide (i<n)&&decide (j<n)&&decide (p.size=q.size)&&oQ md ops g n p (listed.setIfInBounds i true)&&oQ md ops g n q (listed.setIfInBounds j true)
section
variable {P:Program} {ops:Array Oper} {md:Region.Mode} {C:Wo→Prop}
def runP (P:Program) (ops:Array Oper) (C:Wo→Prop) (Q:Act→Wo→Prop):Plan→Act→Wo→Prop
 | .done,a,w=>Q a w
 | .light i p,a,w=>∃o v,ops[i]?=some o∧St P ops C o v a∧runP P ops C Q p (a.put o.dst v) w
 | .one i p,a,w=>∃o,ops[i]?=some o∧rW P ops o (fun a' w'=>C w'∧runP P ops C Q p a' w') a w
 | .two i j p q,a,w=>(∃o,ops[i]?=some o∧rW P ops o (fun a' w'=>C w'∧runP P ops C Q p a' w') a w)∧∃o,ops[j]?=some o∧rW P ops o (fun a' w'=>C w'∧runP P ops C Q q a' w') a w
def xI {n g:Nat} {Lq:Act→Wo→Prop} (a1:Region.noSelect ops=true) (hs:Region.sinkB md ops n=true) (hc:Region.chainB md ops n=true) (hn:n<ops.size):
  ∀(p:Plan) (listed:Array Bool) (a:Act) (w:Wo),C w→HeadInv md ops n listed→oQ md ops g n p listed=true→runP P ops C Lq p a w→xJ P md ops C n (fun a2 a' w'=>Region.seqB md ops g n a2=true∧Lq a' w') p.size listed a w
 | .done,listed,a,w,_,_,hB,h=>⟨hB,h⟩
 | .light i p,listed,a,w,hw,inv,hB,h=>by
  simp only [oQ,aN,iF] at hB;obtain⟨⟨⟨hr,hf⟩,hin⟩,hB'⟩:=hB;have a8:i∈Region.ready md ops listed:=by simpa using hr
  obtain⟨o,v,h0,hy,hK⟩:=h;exact Dz h0 (Region.noSelect_spec a1) hs hc hn hin (fun a2 a' w' hL=>seqB_ready hL.1) p.size listed a w hw inv (Region.free_spec h0 hf) a8 hy
   (xI a1 hs hc hn p _ _ _ hw (inv.set a8 hin) hB' hK)
 | .one i p,listed,a,w,hw,inv,hB,h=>by
  simp only [oQ,aN,iF] at hB;obtain⟨⟨hr,hin⟩,hB'⟩:=hB;have a0:Region.ready md ops listed= [i]:=by simpa using hr
  obtain⟨o,h0,h1⟩:=h;refine⟨by rw [a0];simp,fun k hk=>?_⟩;have a3:k∈Region.ready md ops listed:=hk;rw [a0] at hk;have:k=i:=by simpa using hk
  subst this;refine⟨hin,?_⟩;unfold kD;rw [h0];exact oneO_mono (fun a' w' ⟨h2,h3⟩=>⟨h2,xI a1 hs hc hn p _ a' w' h2 (inv.set a3 hin) hB' h3⟩) h1
 | .two i j p q,listed,a,w,hw,inv,hB,h=>by
  simp only [oQ,aN,iF] at hB;obtain⟨⟨⟨⟨⟨hr,hin⟩,hjn⟩,hpq⟩,hB1⟩,hB2⟩:=hB;have a0:Region.ready md ops listed= [i,j]:=by simpa using hr
  obtain⟨⟨o,h0,h1⟩,o',a4,h1'⟩:=h;refine⟨by rw [a0];simp,fun k hk=>?_⟩;have a3:k∈Region.ready md ops listed:=hk;rw [a0] at hk;have:k=i∨k=j:=by simpa using hk
  rcases this with rfl|rfl
  ·refine⟨hin,?_⟩;unfold kD;rw [h0];exact oneO_mono (fun a' w' ⟨h2,h3⟩=>⟨h2,xI a1 hs hc hn p _ a' w' h2 (inv.set a3 hin) hB1 h3⟩) h1
  ·refine⟨hjn,?_⟩;unfold kD;rw [a4];refine oneO_mono (fun a' w' ⟨h2,h3⟩=>⟨h2,?_⟩) h1';have:=xI a1 hs hc hn q _ a' w' h2 (inv.set a3 hjn) hB2 h3;rw [hpq];exact this
def region_plan {Q:Exit→Act→Wo→Prop} (C:Wo→Prop) (n:Nat) (p:Plan) (hm:P.follows .mixedOrders=true)
  (hB:(Region.noSelect l.toArray&&decide (n<l.toArray.size)&&Region.sinkB .any l.toArray n&&Region.chainB .any l.toArray n&&decide (p.size=n)&&oQ .any l.toArray (l.toArray.size-n) n p (Array.replicate l.toArray.size false))=true)
  (hw:C { w with drawn:=w.drawn+1 }) (a5:runP P l.toArray C (fun a' w'=>wpList P l.toArray Q (l.drop n) a' w') p a { w with drawn:=w.drawn+1 }):(Code.region id l.toArray true).wp P Q a w:=by
 simp only [aN,iF] at hB;obtain⟨⟨⟨⟨⟨a1,hn⟩,hs⟩,hc⟩,hsz⟩,hok⟩:=hB;have a7:(l.drop n).length=l.toArray.size-n:=by simp
 have a6:HeadInv .any l.toArray n (Array.replicate l.toArray.size false):=
  ⟨by simp,fun j oj _ hl=>(by rw [getD_replicate_false] at hl;cases hl),fun t _ ht=>getD_in (by simpa using ht) (getD_replicate_false _ _)⟩
 have H:=xI (md:=.any) a1 hs hc hn p _ a _ hw a6 hok a5;refine wp_region_any hm ?_;have:=UO (Q':=Q) (g:=l.toArray.size-n) (fun listed a' w' hL=>by
  have:=wpAny_of_seq (md:=.any) (Q':=Q) (l.drop n) n listed a' w' (fun j=>by simp [jF]) (by rw [a7];exact hL.1) hL.2
  rwa [a7] at this) _ _ _ _ H
 rw [hsz,show n+(l.toArray.size-n)=l.toArray.size by omega] at this;exact this
def light_step {p:Plan} (v:Value) (h0:ops[i]?=some o) (hg:Region.wanted o (yielded ops a.tmps)=true) (hs:∀w,C w→uponW P (fun u w'=>u=v∧w'=w) ((execOp a.eval o).run P w)) (hK:runP P ops C Q p (a.put o.dst v) w):runP P ops C Q (.light i p) a w:=
 ⟨o,v,h0,.inl ⟨hg,hs⟩,hK⟩
def light_n {p:Plan} (v:Value) (h0:ops[i]?=some o) (hg:o.guard=none) (hs:∀w,C w→uponW P (fun u w'=>u=v∧w'=w) ((execOp a.eval o).run P w)) (hK:runP P ops C Q p (a.put o.dst v) w):runP P ops C Q (.light i p) a w:=
 ⟨o,v,h0,.inl ⟨by unfold Region.wanted;rw [hg],hs⟩,hK⟩
def one_n {p:Plan} (h0:ops[i]?=some o) (hg:o.guard=none) (hK:uponW P (fun v w'=>C w'∧runP P ops C Q p (a.put o.dst v) w') ((execOp a.eval o).run P w)):runP P ops C Q (.one i p) a w:=
 ⟨o,h0,.inl ⟨by unfold Region.wanted;rw [hg],hK⟩⟩
def two_n {p q:Plan} {o':Oper} (h0:ops[i]?=some o) (hg:o.guard=none) (a4:ops[j]?=some o') (b0:o'.guard=none)
  (hK:uponW P (fun v w'=>C w'∧runP P ops C Q p (a.put o.dst v) w') ((execOp a.eval o).run P w)) (a9:uponW P (fun v w'=>C w'∧runP P ops C Q q (a.put o'.dst v) w') ((execOp a.eval o').run P w)):runP P ops C Q (.two i j p q) a w:=
 ⟨⟨o,h0,.inl ⟨by unfold Region.wanted;rw [hg],hK⟩⟩,o',a4,.inl ⟨by unfold Region.wanted;rw [b0],a9⟩⟩
def light_skip {p:Plan} (h0:ops[i]?=some o) (hg:Region.wanted o (yielded ops a.tmps)=false) (hK:runP P ops C Q p (a.put o.dst undef) w):runP P ops C Q (.light i p) a w:=
 ⟨o,undef,h0,.inr ⟨hg,rfl⟩,hK⟩
def one_step {p:Plan} (h0:ops[i]?=some o) (hg:Region.wanted o (yielded ops a.tmps)=true) (hK:uponW P (fun v w'=>C w'∧runP P ops C Q p (a.put o.dst v) w') ((execOp a.eval o).run P w)):runP P ops C Q (.one i p) a w:=
 ⟨o,h0,.inl ⟨hg,hK⟩⟩
def plan_end (hQ:Q a w):runP P ops C Q .done a w:=hQ
end
end
end Go.Heavy
namespace Go.Proofs.YtbdpdeonapmlgaaGreatDoor
open Go.RowKit Go.Big
variable {S S':Nat→Prop} {w w':Wo} {a:Option Addr} {L a0 A D C:List Nat} {sv s1 s2:Value} {b base m n g:Nat}
section
attribute [local go_sem] Heavy.uponW
def iO (neg:Bool) (A C:List Nat):Int:=
 if 128<A.length∨128<C.length then 3
 else if C= []∨C.getLast?=some 0∨A.getLast?=some 0 then 2
 else if val 4294967296 A=0∧(neg=true∨val 4294967296 C≠1) then 2
 else if Nat.gcd (val 4294967296 A) (val 4294967296 C)≠1 then 2
 else 0
end
section
attribute [local go_sem] Heavy.uponW
end
def bv (x:Nat):Value:=.int .u8 x
def Ig {a b:ByteArray} (h:a.data.toList=b.data.toList):a=b:=by
 cases a;cases b;simp at h;congr
def BytRow (base:Nat) (w:Wo) (sv:Value) (D:List Nat):Prop:=w.ownsRow base 5 1 sv D.length (D.map bv)
def BytRow.nil (base:Nat) (w:Wo):BytRow base w (.slice none 0 0) []:=pL _ _ _ _
def BytAt (n:Nat) (w:Wo) (a:Option Addr) (L:List Nat):Prop:=
 L≠ []→∃b off,a=some ⟨b,off,none⟩∧b<n∧∀(j x:Nat),L[j]?=some x→w.cell? ⟨b,off+j,none⟩=some (.int .u8 x)
def BytRow.at (h:BytRow base w sv D):∃a c,sv= .slice a D.length c∧D.length≤c∧c≤maxLen∧BytAt w.heap.size w a D:=by
 obtain⟨h1,⟨e,h0⟩|⟨g,cap,a0,e1,hb,hg,hnc,hm,hs,ht⟩⟩:=h
 ·have:D= []:=gI h0;subst this;exact⟨none,0,e,aA _,bX _,fun h=>absurd rfl h⟩
 ·refine⟨some ⟨g,0,none⟩,cap,e1,hnc,hm,fun _=>⟨g,0,rfl,(aG.1 hg).1,fun j x hx=>?_⟩⟩;have hj:=(aM.1 hx).1;have h2:a0[j]?=some (bv x):=by
   rw [←gP,←iY (show j<D.length*1 by omega),ht,gO,hx];rfl
  simpa [World.cell?,hg,bv] using h2
def BBlk (w:Wo) (b:Nat) (a0:List Nat):Prop:=w.heap[b]?=some (.cells (a0.map bv).toArray 5 (0,0))
def BBlk.cell (h:BBlk w b a0) {k x:Nat} (hx:a0[k]?=some x):w.cell? ⟨b,k,none⟩=some (.int .u8 x)∧w.frozen? ⟨b,k,none⟩=false:=by
 unfold BBlk at h;simp [World.cell?,World.frozen?,h,hx,bv]
def BBlk.put (h:BBlk w b a0) {k x:Nat} (hk:k<a0.length):BBlk (w.setCell ⟨b,k,none⟩ (.int .u8 x)) b (a0.set k x):=by
 have a1:b<w.heap.size:=(aG.1 h).1;unfold BBlk at*;show(Array.modify w.heap b _)[b]?=_;rw [mY,if_pos rfl,h];simp [bv]
section
attribute [local go_sem] Heavy.uponW
structure NumAt (n:Nat) (w:Wo) (neg:Bool) (s1 s2:Value) (A C:List Nat):Prop where
 at1:∃a c,s1= .slice a A.length c∧cR n w a A
 at2:∃a c,s2= .slice a C.length c∧cR n w a C
def NumAt.below {neg:Bool} (h:NumAt n w neg s1 s2 A C) (hb:Below m w w') (hm:n≤m):NumAt n w' neg s1 s2 A C:=by
 obtain⟨⟨a,c,e1,h1⟩,⟨a',c',e2,h2⟩⟩:=h;exact⟨⟨a,c,e1,h1.below hb hm⟩,⟨a',c',e2,h2.below hb hm⟩⟩
def strEq (a c:ByteArray):(a.toList==c.toList)=decide (a=c):=by
 rw [pT,pT]
 by_cases h:a=c
 ·subst h;simp
 ·rw [oC h];simp only [beq_eq_false_iff_ne,ne_eq];exact fun e=>h (Ig e)
def bZ {v0 v1 v2 v3 v4 v5 v6:Value} {e:TypeId} {fr:Nat × Nat} (h:w.heap[g]?=some (.cells #[v0,v1,v2,v3,v4,v5,v6] e fr)):
  w.cell? ⟨g,0,none⟩=some v0∧w.cell? ⟨g,1,none⟩=some v1∧w.cell? ⟨g,2,none⟩=some v2∧w.cell? ⟨g,3,none⟩=some v3∧w.cell? ⟨g,4,none⟩=some v4∧w.cell? ⟨g,5,none⟩=some v5∧w.cell? ⟨g,6,none⟩=some v6:=by
 simp [World.cell?,h]
def XC (w:Wo) (o1 o2:Obj):Bz w ((w.alloc o1).alloc o2)∧((w.alloc o1).alloc o2).heap[w.heap.size]?=some o1∧((w.alloc o1).alloc o2).heap[w.heap.size+1]?=some o2∧w.heap.size+2≤((w.alloc o1).alloc o2).heap.size:=by
 have b1:=aC w o1;have b2:=aC (w.alloc o1) o2;have q1:=aJ w o1;have q2:=aJ (w.alloc o1) o2;rw [cB] at q2 b2;exact⟨b1.trans (b2.mono (by omega)),(b2.block w.heap.size (by omega)).trans q1,q2,by simp⟩
end
section
attribute [local go_sem] Heavy.uponW
def FV:(Tryz.prog.info? 175).map (fun i=>(i.zero,i.size,i.bytes))=some (some (.int .u32 0),1,4):=by kernel_rfl
def lv (x:Nat):Value:=.int .u32 x
def LimS (S:Nat→Prop) (w:Wo) (a:Option Addr) (L:List Nat):Prop:=
 (∀x∈L,x<4294967296)∧(L≠ []→∃b off,a=some ⟨b,off,none⟩∧S b∧∀(j x:Nat),L[j]?=some x→w.cell? ⟨b,off+j,none⟩=some (.int .u32 x))
def fP (a b:Nat):Nat→Prop:=fun k=>a≤k∧k<b
def Same (S:Nat→Prop) (w w':Wo):Prop:=∀k,S k→w'.heap[k]?=w.heap[k]?
def Same.cell (h:Same S w w') {p:Addr} (hp:S p.block):w'.cell? p=w.cell? p:=IM (w:=w) (h p.block hp)
def Same.of_below (h:Below m w w') (hS:∀k,S k→k<m):Same S w w':=fun k hk=>h.block k (hS k hk)
def LimS.mono (h:LimS S w a L) (hS:∀k,S k→S' k):LimS S' w a L:=by
 refine⟨h.1,fun a2=>?_⟩;obtain⟨b,off,e,hb,hc⟩:=h.2 a2;exact⟨b,off,e,hS b hb,hc⟩
def LimS.keep (h:LimS S w a L) (hk:Same S w w'):LimS S w' a L:=by
 refine⟨h.1,fun a2=>?_⟩;obtain⟨b,off,e,hb,hc⟩:=h.2 a2;exact⟨b,off,e,hb,fun j x hx=>(hk.cell (p:=⟨b,off+j,none⟩) hb).trans (hc j x hx)⟩
def LimS.toAt (h:LimS S w a L) (hS:∀k,S k→k<n):cR n w a L:=by
 refine⟨h.1,fun a2=>?_⟩;obtain⟨b,off,e,hb,hc⟩:=h.2 a2;exact⟨b,off,e,hS b hb,hc⟩
def Cr (hA:∀x∈A,x<4294967296) (h:w.ownsRow base 175 1 sv A.length (A.map lv)):∃a c,sv= .slice a A.length c∧LimS (fP base w.heap.size) w a A:=by
 obtain⟨h1,⟨e,h0⟩|⟨g,cap,cur,e1,hb,hg,hnc,hm,hs,ht⟩⟩:=h
 ·have:A= []:=gI h0;subst this;exact⟨none,0,e,hA,fun h=>absurd rfl h⟩
 ·refine⟨some ⟨g,0,none⟩,cap,e1,hA,fun _=>⟨g,0,rfl,⟨hb,(aG.1 hg).1⟩,fun j x hx=>?_⟩⟩;have hj:=(aM.1 hx).1;have h2:cur[j]?=some (lv x):=by
   rw [←gP,←iY (show j<A.length*1 by omega),ht,gO,hx];rfl
  simpa [World.cell?,hg,lv] using h2
def wO (s:Value) (n:Nat) (A:List Nat) (hA:A.length≤1048576) (w:Wo) (hn:n≤w.heap.size) (h:∃a c,s= .slice a A.length c∧cR n w a A):
  Cz 129 #[s] w fun e w'=>∃sv,e= .returned sv∧(∃a c,sv= .slice a A.length c∧LimS (fP w.heap.size w'.heap.size) w' a A)∧Bz w w':=by
 obtain⟨a,cap,rfl,h1⟩:=h;have b1:∀(w:Wo) (a:Option Addr) (n c n' c':Nat),(binOp .eql 43 (.slice a n c) (.slice none n' c')).run Tryz.prog w= .ok (.bool a.isNone) w:=fun w a n c n' c'=>DH w _ _ a n c n' c' Tryz.underlying43
 cases a with
 | none=>
  have a7:A= []:=by
   apply oH;intro a2;obtain⟨b,off,e,_⟩:=h1.2 a2;cases e
  subst a7;go_enter Tryz.func129,Tryz.ntmps129;go_wp2
  go_ret
  exact⟨_,rfl,⟨none,0,rfl,h1.1,fun h=>absurd rfl h⟩,bD _ _⟩
 | some ad=>
  obtain⟨i0,hi,hz0,hz1,hz2⟩:=mQ FV;have a4:(w.alloc (Obj.cells #[] 175)).ownsRow w.heap.size 175 1 (.slice (some ⟨w.heap.size,0,none⟩) 0 0) 0 []:=World.ownsRow_made w #[] 0 (aA _) (by unfold maxLen;omega) (by simp);have a3:∀(j:Nat) u,(A.map lv)[j]?=some u→(w.alloc (Obj.cells #[] 175)).cell? (ad.add j)=some u:=fun j u hj=>by
   rw [gO] at hj;obtain⟨x,hx,rfl⟩:=tG.1 hj;obtain⟨b,off,e,hb,hc⟩:=h1.2 (by rintro rfl;simp at hx);cases e;rw [jI];exact((aC w _).cell (p:=⟨b,off+j,none⟩) (by show b<_;omega)).trans (hc j x hx)
  have a5:∀u∈A.map lv,u.oneCell'=true:=by
   intro u hu;obtain⟨y,_,rfl⟩:=cL.1 hu;rfl
  obtain⟨len,hl⟩:=enm A.length;have b0:(A.map lv).length=len*1:=by rw [jE,hl];omega
  rw [hl] at hA ⊢;have Al:=aside hl;have a9:=h1.1;clear h1 hl;go_enter Tryz.func129,Tryz.ntmps129
  go_wp2_with (at_builtin;refine wpList_append_own _ rfl _ _ 43 rfl w.heap.size 175 i0 (.int .u32 0) 1 4 Tryz.underlying43 hi hz0 hz1 hz2 rfl (by decide) _ _ _ rfl a4 ad len cap (A.map lv) rfl b0 a3 a5 (by unfold maxLen;omega) (by omega) (by simp) ?_;intro v' w3 a0 a1 a6)
  go_ret
  have a8:Bz w w3:=((bD _ w).alloc (aA _) _).grown a1 (by simp) (by intro k hk;cases hk;exact aA _);rw [bT,kX,←Al.o] at a0;have:=Cr a9 a0;rw [Al.o] at this;exact⟨_,rfl,this,a8⟩
end
