/- Lemmas for the text Card; no condition. -/
import Derived.Test.YtbdpdeonapmlgaaGreatDoorZ
import Derived.Test.YtbdpdeonapmlgaaGreatDoorProg
import Derived.WalkKit
import Derived.LoopTactic
import Derived.Below
import Derived.Sort.Grow
import Derived.Sort.Lot0
import Derived.Deep.QuietTactic
import Derived.StillTailTactics
import Derived.BigQuiet
import Derived.Lib.LaidTab
import Derived.Laws.AppendOwn
import Derived.Deep.Cut
import Derived.Deep.CutRange
import Derived.Deep.CutBlock
import Derived.OwnWalk
import Derived.WalkSmall
set_option linter.all false
set_option maxHeartbeats 1000000
set_option maxRecDepth 100000
namespace Go.Big
variable {B b c i n H x V r k un U j:Nat} {L A D C ds us vs qs a lo mid es u:List Nat} {f g o:Nat→Nat}
section
def val (B:Nat):List Nat→Nat
 | []=>0
 |x::xs=>x+B*val B xs
theorem kH (B:Nat):∀(a b:List Nat),val B (a++b)=val B a+B^a.length*val B b
 | [],b=>by simp [val]
 |x::a,b=>by
  rw [oJ,val,kH B a b,val,fU,eB,cC,bG (B^a.length) B,cU];omega
theorem val_lt {B:Nat}:∀{a:List Nat},(∀x∈a,x<B)→val B a<B^a.length
 | [],_=>by simp [val]
 |x::a,h=>by
  have h1:=h x (by simp);have h2:=val_lt (a:=a) fun y hy=>h y (by simp [hy])
  rw [val,fU,eB,bG];have h3:(val B a+1)*B≤B^a.length*B:=eI B h2;rw [cL,kX] at h3;omega
theorem wZ (B:Nat):∀n:Nat,val B (List.replicate n 0)=0
 |0=>rfl
 |n+1=>by rw [lW,val,wZ B n];simp
theorem gL (B:Nat) (a:List Nat) (x:Nat):val B (a++ [x])=val B a+B^a.length*x:=by
 rw [kH];simp [val]
theorem val_ge (hx:x≠0):B^a.length≤val B (a++ [x]):=by
 rw [gL];have:B^a.length*1≤B^a.length*x:=kB _ (by omega);omega
section
variable {B P Q v1 v2 V3 top u2 U3 q g r:Nat}
theorem Ai (hP:P=B*Q) (a3:u2<B) (a1:U3<Q) (hq:q*(v1*P+v2*Q+V3)≤top*P+u2*Q+U3):q*v1≤top:=by
 apply iA;intro hn;have h1:(top+1)*P≤q*v1*P:=eI P (by omega);have h2:q*(v1*P+v2*Q+V3)=q*v1*P+q*(v2*Q)+q*V3:=by
  rw [cC,cC,cU]
 have h3:(u2+1)*Q≤B*Q:=eI Q a3;rw [cL,kX] at h1 h3;omega
theorem Ah (hP:P=B*Q) (a1:U3<Q) (hg:g*v1+r=top) (ht:r*B+u2<g*v2):top*P+u2*Q+U3<g*(v1*P+v2*Q+V3):=by
 have h1:g*(v1*P+v2*Q+V3)=g*v1*P+g*v2*Q+g*V3:=by
  rw [cC,cC,cU,cU]
 have h2:(r*B+u2+1)*Q≤g*v2*Q:=eI Q ht;have h3:top*P=g*v1*P+r*P:=by rw [←hg,cL]
 have h4:r*P=r*B*Q:=by rw [hP,cU]
 have h5:(r*B+u2+1)*Q=r*B*Q+u2*Q+Q:=by rw [cL,cL,kX]
 omega
theorem Ag (hP:P=B*Q) (a4:V3<Q) (hg:(g+1)*v1+r=top) (ht:(g+1)*v2≤r*B+u2) (a2:g≤v1*B+v2):g*(v1*P+v2*Q+V3)≤top*P+u2*Q+U3:=by
 have h1:g*(v1*P+v2*Q+V3)=g*v1*P+g*v2*Q+g*V3:=by
  rw [cC,cC,cU,cU]
 have h2:(g+1)*v2*Q≤(r*B+u2)*Q:=eI Q ht;have h3:top*P=g*v1*P+v1*P+r*P:=by rw [←hg,cL,cL,kX,cL]
 have h4:r*P=r*B*Q:=by rw [hP,cU]
 have h5:(r*B+u2)*Q=r*B*Q+u2*Q:=by rw [cL]
 have h6:(g+1)*v2*Q=g*v2*Q+v2*Q:=by rw [cL,kX,cL]
 have h7:g*V3≤g*Q:=kB g (by omega);have h8:g*Q≤(v1*B+v2)*Q:=eI Q a2;have h9:(v1*B+v2)*Q=v1*P+v2*Q:=by rw [cL,hP,cU]
 omega
end
inductive MulSub (B g:Nat):List Nat→List Nat→List Nat→Nat→Nat→Prop
 |nil:MulSub B g [] [] [] 0 0
 |snoc {us vs ds:List Nat} {u v d c b b':Nat} (h:MulSub B g us vs ds c b) (hd:d<B) (a0:b'≤1) (he:u+b'*B=d+(c+g*v)%B+b):MulSub B g (us++ [u]) (vs++ [v]) (ds++ [d]) ((c+g*v)/B) b'
theorem MulSub.spec {g:Nat} (h:MulSub B g us vs ds c b):
  us.length=vs.length∧ds.length=vs.length∧b≤1∧(∀d∈ds,d<B)∧val B us+B^vs.length*(c+b)=val B ds+g*val B vs:=by
 induction h with
 |nil=>simp [val]
 | @snoc us vs ds u v d c b b' h hd a0 he ih=>
  obtain⟨h1,h2,h3,h4,h5⟩:=ih;refine⟨by simp [h1],by simp [h2],a0,fun x hx=>?_,?_⟩
  ·rcases bX.1 hx with hx|hx
   ·exact h4 x hx
   ·simp at hx;omega
  ·rw [gL,gL,gL,h1,h2,aK,rI,eB];generalize B^vs.length=W at*;have e1:(c+g*v)%B+B*((c+g*v)/B)=c+g*v:=BA _ _;generalize (c+g*v)/B=k at*;generalize (c+g*v)%B=m at*;have e2:W*u+W*(b'*B)=W*d+W*m+W*b:=by rw [←cC,he,cC,cC]
   have e3:W*m+W*(B*k)=W*c+W*(g*v):=by rw [←cC,e1,cC]
   have e4:W*B*(k+b')=W*(B*k)+W*(b'*B):=by rw [cC,cU,cU,bG B b']
   have e5:g*(val B vs+W*v)=g*val B vs+W*(g*v):=by rw [cC,tM]
   have e6:W*(c+b)=W*c+W*b:=cC _ _ _;rw [e4,e5];omega
end
inductive AddD (B:Nat):List Nat→List Nat→List Nat→Nat→Prop
 |nil:AddD B [] [] [] 0
 |snoc {us vs ds:List Nat} {u v d c c':Nat} (h:AddD B us vs ds c) (hd:d<B) (he:u+v+c=d+c'*B):AddD B (us++ [u]) (vs++ [v]) (ds++ [d]) c'
theorem AddD.spec (h:AddD B us vs ds c):
  us.length=vs.length∧ds.length=vs.length∧(∀d∈ds,d<B)∧val B us+val B vs=val B ds+B^vs.length*c:=by
 induction h with
 |nil=>simp [val]
 | @snoc us vs ds u v d c c' h hd he ih=>
  obtain⟨h1,h2,h4,h5⟩:=ih;refine⟨by simp [h1],by simp [h2],fun x hx=>?_,?_⟩
  ·rcases bX.1 hx with hx|hx
   ·exact h4 x hx
   ·simp at hx;omega
  ·rw [gL,gL,gL,h1,h2,aK,rI,eB];generalize B^vs.length=W at*;have e2:W*u+W*v+W*c=W*d+W*(c'*B):=by rw [←cC,←cC,he,cC]
   have e4:W*B*c'=W*(c'*B):=by rw [cU,bG B c']
   rw [e4];omega
structure Guess (V U g:Nat):Prop where
 ge:∀q,q*V≤U→q≤g
 le:g=0∨(g-1)*V≤U
theorem Af {g:Nat} (hV:V=val B vs) (hn:n=vs.length) (hU:U=val B us+B^n*un) (a7:∀x∈vs,x<B) (hm:MulSub B g us vs ds c b) (hG:Guess V U g) (a6:0<V) (b1:c+b≤un):
  U=g*V+val B ds∧val B ds<V∧un=c+b:=by
 obtain⟨h1,h2,h3,h4,h5⟩:=hm.spec;subst hn;have a9:V<B^vs.length:=hV▸val_lt a7;obtain⟨k,rfl⟩:∃k,un=c+b+k:=⟨un-(c+b),by omega⟩;have e1:B^vs.length*(c+b+k)=B^vs.length*(c+b)+B^vs.length*k:=cC _ _ _;rw [←hV] at h5;have e2:U=g*V+(val B ds+B^vs.length*k):=by omega
 have a3:val B ds+B^vs.length*k<V:=by
  apply iA;intro hn;have:=hG.ge (g+1) (by rw [cL,kX];omega);omega
 have hk:k=0:=by
  apply iA;intro h;have:B^vs.length*1≤B^vs.length*k:=kB _ (by omega);omega
 subst hk;rw [tL,fP] at e2 a3;exact⟨e2,a3,by omega⟩
theorem Aj {g:Nat} {ca:Nat} (hB:0<B) (hV:V=val B vs) (hn:n=vs.length) (hU:U=val B us+B^n*un) (a7:∀x∈vs,x<B) (hm:MulSub B g us vs ds c b) (hG:Guess V U g) (a6:0<V) (b1:un<c+b) (ha:AddD B ds vs es ca):
  0<g∧U=(g-1)*V+val B es∧val B es<V∧ca=1∧c+b=un+1:=by
 obtain⟨h1,h2,h3,h4,h5⟩:=hm.spec;obtain⟨a1,a2,a4,a5⟩:=ha.spec;subst hn;have a9:V<B^vs.length:=hV▸val_lt a7;have b4:val B ds<B^vs.length:=by have:=val_lt h4;rwa [h2] at this
 have a8:val B es<B^vs.length:=by have:=val_lt a4;rwa [a2] at this
 rw [←hV] at h5 a5;obtain⟨k,hk⟩:∃k,c+b=un+1+k:=⟨c+b-(un+1),by omega⟩;have e1:B^vs.length*(c+b)=B^vs.length*un+B^vs.length+B^vs.length*k:=by rw [hk,cC,cC,pN]
 have e2:U+B^vs.length+B^vs.length*k=val B ds+g*V:=by omega
 have hg:0<g:=by
  rcases rH g with h|h
  ·subst h;rw [rE] at e2;omega
  ·exact h
 have b5:(g-1)*V≤U:=hG.le.resolve_left (by omega);have e3:g*V=(g-1)*V+V:=by
  have:g=g-1+1:=by omega
  rw [this,cL,kX,tO]
 have b3:k=0:=by
  apply iA;intro h;have:B^vs.length*1≤B^vs.length*k:=kB _ (by omega);omega
 subst b3;rw [tL,fP] at e2;have b0:ca=1:=by
  match ca,a5 with
  |0,a5=>rw [tL] at a5;omega
  |1,_=>rfl
  |m+2,a5=>
   have:B^vs.length*(m+2)=B^vs.length*m+B^vs.length*2:=cC _ _ _;omega
 subst b0;rw [pN] at a5;have a3:val B es<V:=by
  apply iA;intro hn;have:=hG.ge g (by omega);have h9:g*V≤U:=by omega
  omega
 exact⟨hg,by omega,a3,rfl,by omega⟩
structure DivAt (B A V:Nat) (j n:Nat) (u qs:List Nat):Prop where
 len:u.length=j+n
 dig:∀x∈u,x<B
 qdig:∀x∈qs,x<B
 small:val B (u.drop j)<V
 sum:A=val B u+B^j*val B qs*V
theorem DivAt.done {A:Nat} (h:DivAt B A V 0 n u qs):A=val B qs*V+val B u∧val B u<V:=by
 have h1:=h.sum;have h2:=h.small;rw [Nat.pow_zero,kX] at h1;rw [bE] at h2;exact⟨by omega,h2⟩
theorem DivAt.step {A q:Nat} (h:DivAt B A V (j+1) n (lo++mid) qs) (a0:lo.length=j) (hq:q<B) (b2:∀x∈es,x<B) (a8:es.length=n) (he:val B mid=q*V+val B es) (hs:val B es<V):
  DivAt B A V j n (lo++es) (q::qs):=by
 refine⟨by simp [a0,a8],fun x hx=>?_,fun x hx=>?_,?_,?_⟩
 ·rcases bX.1 hx with hx|hx
  ·exact h.dig x (mY _ hx)
  ·exact b2 x hx
 ·rcases cD.1 hx with rfl|hx
  ·exact hq
  ·exact h.qdig x hx
 ·rw [Ha (by omega),←a0,BJ,oF];exact hs
 ·have h1:=h.sum;rw [kH,a0,he] at h1;rw [kH,a0,val];have e1:B^j*(q*V+val B es)=B^j*(q*V)+B^j*val B es:=cC _ _ _;have e2:B^j*(q+B*val B qs)*V=B^j*(q*V)+B^(j+1)*val B qs*V:=by
   rw [cC,cL,cU,eB,cU (B^j) B]
  rw [e2];omega
theorem DivAt.below {A:Nat} (h:DivAt B A V (j+1) n (lo++mid) qs) (a0:lo.length=j):val B mid<B*V:=by
 have hs:=h.small;have hl:=h.len;rw [aK] at hl;rw [SO,a0,SN (by omega),oF,show j+1-j=1 by omega] at hs
 match mid,hs,h,hl with
 | [],hs,h,hl=>simp only [rJ] at hl;omega
 |x::m,hs,h,hl=>
  have hx:=h.dig x (by simp);simp only [bF,bE] at hs;rw [val];have:B*(val B m+1)≤B*V:=kB B hs;rw [cC,pN] at this;omega
section
section
variable {B P Q v1 v2 V3 top u2 U3 g r:Nat}
structure Gue (B P Q v1 v2 V3 top u2 U3 g r:Nat):Prop where
 sum:g*v1+r=top
 ge:∀q,q*(v1*P+v2*Q+V3)≤top*P+u2*Q+U3→q≤g
theorem Gue.start (hP:P=B*Q) (hv:0<v1) (a5:u2<B) (a2:U3<Q):Gue B P Q v1 v2 V3 top u2 U3 (top/v1) (top%v1):=
 ⟨by rw [bG];exact kD top v1,fun q hq=>(Gb hv).2 (Ai hP a5 a2 hq)⟩
theorem Gue.less (h:Gue B P Q v1 v2 V3 top u2 U3 g r) (hP:P=B*Q) (a2:U3<Q) (a1:top*P+u2*Q+U3<B*(v1*P+v2*Q+V3)) (ht:B≤g∨r*B+u2<g*v2):
  0<g∧Gue B P Q v1 v2 V3 top u2 U3 (g-1) (r+v1):=by
 have a4:top*P+u2*Q+U3<g*(v1*P+v2*Q+V3):=by
  rcases ht with ht|ht
  ·exact aZ a1 (eI _ ht)
  ·exact Ah hP a2 h.sum ht
 have hg:0<g:=by
  rcases rH g with h0|h0
  ·subst h0;rw [rE] at a4;omega
  ·exact h0
 refine⟨hg,?_,fun q hq=>?_⟩
 ·have:=h.sum;have e:g*v1=(g-1)*v1+v1:=by
   have:g=g-1+1:=by omega
   rw [this,cL,kX,tO]
  omega
 ·have h1:=h.ge q hq;have h2:q≠g:=fun e=>by subst e;omega
  omega
theorem top_lt (hP:P=B*Q) (a3:v2<B) (a0:V3<Q) (a1:top*P+u2*Q+U3<B*(v1*P+v2*Q+V3)):top<B*(v1+1):=by
 apply iA;intro hn;have h1:B*(v1+1)*P≤top*P:=eI P (by omega);have h2:v1*P+v2*Q+V3≤(v1+1)*P:=by
  have:(v2+1)*Q≤B*Q:=eI Q a3;rw [cL,kX] at this;rw [cL,kX];omega
 have h3:B*(v1*P+v2*Q+V3)≤B*((v1+1)*P):=kB B h2;rw [←cU] at h3;omega
theorem Gue.ends (h:Gue B P Q v1 v2 V3 top u2 U3 g r) (hP:P=B*Q) (hv:0<v1) (a0:V3<Q) (hg:g<B) (ht:g*v2≤r*B+u2):Guess (v1*P+v2*Q+V3) (top*P+u2*Q+U3) g:=by
 refine⟨h.ge,?_⟩;rcases rH g with h0|h0
 ·exact .inl h0
 ·right;obtain⟨k,rfl⟩:∃k,g=k+1:=⟨g-1,by omega⟩;rw [tO];refine Ag hP a0 h.sum ht ?_;have:1*B≤v1*B:=eI B hv;omega
theorem Gue.breaks (h:Gue B P Q v1 v2 V3 top u2 U3 g r) (hP:P=B*Q) (hv:0<v1) (a3:v2<B) (a0:V3<Q) (a1:top*P+u2*Q+U3<B*(v1*P+v2*Q+V3)) (hr:B≤r):g<B∧Guess (v1*P+v2*Q+V3) (top*P+u2*Q+U3) g:=by
 have ht:=top_lt hP a3 a0 a1;have hg:g<B:=by
  apply iA;intro hn;have h1:B*v1≤g*v1:=eI v1 (by omega);have:=h.sum;rw [cC,pN] at ht;omega
 refine⟨hg,h.ends hP hv a0 hg ?_⟩;have h1:g*v2≤B*B:=mX (by omega) (by omega);have h2:B*B≤r*B:=eI B hr;omega
end
theorem NA {a:Nat} (ha:a%2=0) (hb:b%2=1):Nat.gcd (a/2) b=Nat.gcd a b:=by
 have e:a=2*(a/2):=by omega
 have hc:Nat.gcd 2 b=1:=by
  rw [Nat.gcd_rec,hb];rfl
 apply Nat.dvd_antisymm
 ·refine RZ ?_ (GR _ _);exact Nat.dvd_trans (RX _ _) ⟨2,by omega⟩
 ·refine RZ ?_ (GR _ _);have h1:Nat.gcd a b ∣ 2*(a/2):=by rw [←e];exact RX _ _
  have h2:Nat.Coprime (Nat.gcd a b) 2:=by
   show Nat.gcd (Nat.gcd a b) 2=1;have h3:Nat.gcd (Nat.gcd a b) 2 ∣ Nat.gcd 2 b:=RZ (GR _ _) (Nat.dvd_trans (RX _ _) (GR _ _));rw [hc] at h3;exact Nat.dvd_one.1 h3
  exact h2.dvd_of_dvd_mul_left h1
theorem MZ {a:Nat} (h:b≤a):Nat.gcd (a-b) b=Nat.gcd a b:=by
 have e:a=(a-b)+b:=by omega
 conv=>rhs;rw [e]
 rw [Nat.gcd_add_self_left]
end
def dg (L:List Nat) (i:Nat):Nat:=L[i]?.getD 0
def cH (B:Nat) (f:Nat→Nat):Nat→Nat
 |0=>0
 |n+1=>cH B f n+B^n*f n
theorem mL (hB:0<B) (h:∀x∈L,x<B) (i:Nat):dg L i<B:=by
 unfold dg;cases e:L[i]? with
 |none=>exact hB
 |some x=>exact h x (aX e)
theorem vS (h:L.length≤i):dg L i=0:=by
 unfold dg;rw [rL h];rfl
theorem Cm (h:L[i]?=some x):dg L i=x:=by unfold dg;rw [h];rfl
theorem nX (h:i<L.length):L[i]?=some (dg L i):=by
 unfold dg;rw [aL h];rfl
theorem Cn (x:Nat) (L:List Nat):dg (x::L) 0=x:=rfl
theorem Co (x:Nat) (L:List Nat) (i:Nat):dg (x::L) (i+1)=dg L i:=by simp [dg]
theorem TL (h:∀i,i<n→f i=g i):cH B f n=cH B g n:=by
 induction n with
 |zero=>rfl
 |succ n ih=>rw [cH,cH,ih fun i hi=>h i (by omega),h n (by omega)]
theorem HP (B:Nat) (f:Nat→Nat):∀n,cH B f (n+1)=f 0+B*cH B (fun i=>f (i+1)) n
 |0=>by simp [cH]
 |n+1=>by
  rw [cH,HP B f n,cH,cC,eB,bG (B^n) B,cU];omega
theorem kG (B:Nat):∀(L:List Nat) (n:Nat),L.length≤n→cH B (dg L) n=val B L
 | [],0,_=>rfl
 | [],n+1,_=>by
  rw [cH,kG B [] n (aT _),vS (aT _)];simp
 |x::L,0,h=>by simp at h
 |x::L,n+1,h=>by
  rw [HP,val,←kG B L n (by simpa using h)];congr 2
theorem HS {B:Nat} {f:Nat→Nat} (h:∀i,f i<B):∀n,cH B f n<B^n
 |0=>by simp [cH]
 |n+1=>by
  have h1:=HS h n;have h2:B^n*(f n+1)≤B^n*B:=kB _ (h n);rw [cC,pN] at h2;rw [cH,eB];omega
theorem TJ (hf:∀i,f i<B) (h:f k<g k):cH B f (k+1)<cH B g (k+1):=by
 have h1:=HS hf k;have h2:B^k*(f k+1)≤B^k*g k:=kB _ h;rw [cC,pN] at h2;rw [cH,cH];omega
theorem HT {B k:Nat} {f g:Nat→Nat}:∀(n:Nat),k≤n→(∀i,k≤i→i<n→f i=g i)→∃c,cH B f n=cH B f k+c∧cH B g n=cH B g k+c
 | n,hk,h=>by
  rcases RY hk with rfl|a5
  ·exact⟨0,rfl,rfl⟩
  ·obtain⟨m,rfl⟩:∃m,n=m+1:=⟨n-1,by omega⟩;obtain⟨c,h1,h2⟩:=HT (B:=B) m (by omega) fun i hi hm=>h i hi (by omega)
   have e:=h m (by omega) (by omega);exact⟨c+B^m*g m,by rw [cH,h1,e];omega,by rw [cH,h2];omega⟩
theorem xA (hB:0<B) (hA:∀x∈A,x<B) (a0:A.length≤n) (a1:C.length≤n) (hk:k<n) (a2:∀i,k<i→i<n→dg A i=dg C i) (h:dg A k<dg C k):val B A<val B C:=by
 obtain⟨c,h1,h2⟩:=HT (B:=B) n (show k+1≤n by omega) (fun i hi hm=>a2 i (by omega) hm);have h3:=TJ (mL hB hA) h;rw [kG B A n a0] at h1;rw [kG B C n a1] at h2;omega
theorem HY (a0:A.length≤n) (a1:C.length≤n) (h:∀i,i<n→dg A i=dg C i):val B A=val B C:=by
 rw [←kG B A n a0,←kG B C n a1];exact TL h
theorem TK (hB:B=2*H) (n:Nat) (ho:∀i,i<n→o i=f i/2+(f (i+1)%2)*H):2*cH B o n+f 0%2=cH B f n+B^n*(f n%2):=by
 induction n with
 |zero=>simp [cH]
 | succ n ih=>
  have h1:=ih fun i hi=>ho i (by omega)
  rw [cH,cH,ho n (by omega),eB];generalize cH B o n=V at*;generalize cH B f n=W at*;generalize B^n=P at*;have e1:P*(f n/2+f (n+1)%2*H)=P*(f n/2)+P*(f (n+1)%2*H):=cC _ _ _;have e2:P*B*(f (n+1)%2)=2*(P*(f (n+1)%2*H)):=by
   rw [hB];simp only [bG,tM]
  have e3:P*f n=2*(P*(f n/2))+P*(f n%2):=by
   have:f n=2*(f n/2)+f n%2:=(kD _ _).symm
   conv=>lhs;rw [this]
   rw [cC,tM]
  rw [e1,e2,e3];omega
theorem TO (hB:B=2*H) (hl:D.length=A.length) (ho:∀i,i<A.length→dg D i=dg A i/2+(dg A (i+1)%2)*H):val B D=val B A/2∧(A.length=0∨val B A%2=dg A 0%2):=by
 have h1:=TK hB A.length ho;rw [vS (aA A.length),kG B A _ (aA _),←hl,kG B D _ (aA _)] at h1;constructor
 ·omega
 ·right;omega
theorem Ae {y:Nat} (hB:B=2*H) (hx:x<B):x/2+y%2*H<B:=by
 have:y%2=0∨y%2=1:=by omega
 rcases this with e|e<;>rw [e]<;>omega
theorem TN (hB:B=2*H) (A:List Nat):val B A%2=dg A 0%2:=by
 cases A with
 |nil=>rfl
 |cons x L=>
  rw [val,Cn,hB,cU];omega
structure Subs (B:Nat) (A C D:List Nat) (i b:Nat):Prop where
 len:D.length=i
 dig:∀x∈D,x<B
 bor:b≤1
 sum:val B D+cH B (dg C) i=cH B (dg A) i+B^i*b
theorem Subs.start (B:Nat) (A C:List Nat):Subs B A C [] 0 0:=⟨rfl,by simp,by omega,by simp [val,cH]⟩
theorem Subs.step {d b':Nat} (h:Subs B A C D i b) (hd:d<B) (a3:b'≤1) (he:dg A i+b'*B=d+dg C i+b):Subs B A C (D++ [d]) (i+1) b':=by
 refine⟨by simp [h.len],fun x hx=>?_,a3,?_⟩
 ·rcases bX.1 hx with hx|hx
  ·exact h.dig x hx
  ·simp at hx;omega
 ·have h1:=h.sum;rw [gL,h.len,cH,cH,eB];generalize B^i=P at*;have e1:P*dg A i+P*(b'*B)=P*d+P*dg C i+P*b:=by rw [←cC,he,cC,cC]
  have e2:P*B*b'=P*(b'*B):=by rw [cU,bG B b']
  rw [e2];omega
theorem Subs.done (h:Subs B A C D A.length b) (hC:C.length≤A.length) (a4:val B C≤val B A):val B D=val B A-val B C:=by
 have h1:=h.sum;rw [kG B A _ (aA _),kG B C _ hC] at h1;have h2:=val_lt h.dig;rw [h.len] at h2;have hb:=h.bor;have:b=0:=by
  apply iA;intro hn;have e:b=1:=by omega
  subst e;rw [pN] at h1;omega
 subst this;rw [tL] at h1;omega
structure Shls (B r:Nat) (A D:List Nat) (i c:Nat):Prop where
 len:D.length=i
 dig:∀x∈D,x<B
 car:c<2^r
 sum:val B D+B^i*c=cH B (dg A) i*2^r
theorem Shls.start (B r:Nat) (A:List Nat):Shls B r A [] 0 0:=⟨rfl,by simp,RL r,by simp [val,cH]⟩
theorem Shls.step {s:Nat} (hB:0<B) (h:Shls B r A D i c) (ha:dg A i<B) (hs:s=dg A i*2^r+c):Shls B r A (D++ [s%B]) (i+1) (s/B):=by
 refine⟨by simp [h.len],fun x hx=>?_,?_,?_⟩
 ·rcases bX.1 hx with hx|hx
  ·exact h.dig x hx
  ·simp at hx;rw [hx];exact kC _ hB
 ·rw [Nat.div_lt_iff_lt_mul hB];have h1:(dg A i+1)*2^r≤B*2^r:=eI _ ha;rw [cL,kX,bG B] at h1;have:=h.car;omega
 ·have h1:=h.sum;rw [gL,h.len,cH,cL,eB,cU,←h1];have e:s%B+B*(s/B)=s:=BA _ _;have e1:B^i*(s%B)+B^i*(B*(s/B))=B^i*(dg A i*2^r)+B^i*c:=by
   rw [←cC,e,hs,cC]
  rw [cU (B^i) (dg A i)];omega
theorem Shls.done (h:Shls B r A D A.length c) (k:Nat) (hB:2^r≤B):val B (List.replicate k 0++D++ [c])=val B A*2^r*B^k∧∀x∈List.replicate k 0++D++ [c],x<B:=by
 have h1:=h.sum;rw [kG B A _ (aA _)] at h1;constructor
 ·rw [eZ,kH,wZ,gL,h.len,h1,BG,cG,bG]
 ·intro x hx;have:=h.car;have h0:=RL r;simp only [bX,wT,fQ] at hx;rcases hx with(⟨_,rfl⟩|hx)|rfl
  ·omega
  ·exact h.dig x hx
  ·omega
end Go.Big
namespace Go.Proofs.YtbdpdeonapmlgaaGreatDoor
open Go.RowKit Go.Big
variable {L D A C:List Nat} {a:Option Addr} {w w':World} {sv r:Value} {n B base k m v x M c i:Nat}
theorem HK (h:k<4611686018427387904):IntKind.i64.wrap (k:Int)=k:=by
 rw [aG];omega
theorem aC (w:World) (o:Obj):Below w.heap.size w (w.alloc o):=(aI _ _).alloc (aA _) o
theorem qT (w:World):Below w.heap.size w w.drew:=⟨rfl,rfl,rfl,aA _,fun _ _=>rfl⟩
def xE:Value→Nat
 | .slice _ n _=>n
 |_=>0
def fI (n:Nat) (w:World) (a:Option Addr) (L:List Nat):Prop:=
 (∀x∈L,x<65536)∧(L≠ []→∃b off,a=some ⟨b,off,none⟩∧b<n∧∀(j x:Nat),L[j]?=some x→w.cell? ⟨b,off+j,none⟩=some (.int .i64 x))
theorem fI.below (h:fI n w a L) (hb:Below m w w') (hm:n≤m):fI n w' a L:=by
 refine⟨h.1,fun a0=>?_⟩;obtain⟨b,off,e,hbn,hc⟩:=h.2 a0;exact⟨b,off,e,hbn,fun j x hx=>((hb.mono hm).cell (p:=⟨b,off+j,none⟩) hbn).trans (hc j x hx)⟩
theorem fI.up (h:fI n w a L) (hm:n≤m):fI m w a L:=by
 refine⟨h.1,fun a0=>?_⟩;obtain⟨b,off,e,hbn,hc⟩:=h.2 a0;exact⟨b,off,e,by omega,hc⟩
theorem fI.get (h:fI n w a L) (hx:L[k]?=some x):∃b off,a=some ⟨b,off,none⟩∧b<n∧x<65536∧w.cell? ⟨b,off+k,none⟩=some (.int .i64 x):=by
 have a0:L≠ []:=by intro e;subst e;simp at hx
 obtain⟨b,off,e,hb,hc⟩:=h.2 a0;exact⟨b,off,e,hb,h.1 x (aX hx),hc k x hx⟩
theorem fI.take (h:fI n w a L) (k:Nat):fI n w a (L.take k):=by
 refine⟨fun x hx=>h.1 x (iQ hx),fun a0=>?_⟩;obtain⟨b,off,e,hb,hc⟩:=h.2 fun e=>a0 (by rw [e];simp)
 refine⟨b,off,e,hb,fun j x hx=>hc j x ?_⟩;have hj:j<k:=by have:=(List.getElem?_eq_some_iff.1 hx).1;rw [aU] at this;omega
 rwa [gC hj] at hx
def jH (L:List Nat) (k:Nat):Prop:=k≤L.length∧(∀x∈L.drop k,x=0)∧(k=0∨∃x,L[k-1]?=some x∧x≠0)
theorem HU {B:Nat}:∀{L:List Nat},(∀x∈L,x=0)→val B L=0
 | [],_=>rfl
 |x::L,h=>by
  have h1:=h x (by simp);have h2:=HU (B:=B) (L:=L) fun y hy=>h y (by simp [hy])
  rw [val,h1,h2];simp
theorem jH.val (h:jH L k):val B (L.take k)=val B L:=by
 have e:L.take k++L.drop k=L:=pQ k L
 conv=>rhs;rw [←e]
 rw [kH,HU h.2.1];simp
def NoZ (L:List Nat):Prop:=∀x,L.getLast?=some x→x≠0
theorem jH.noz (h:jH L k):NoZ (L.take k):=by
 intro x hx;obtain⟨h1,_,h3⟩:=h;rw [rK,aU,show min k L.length=k by omega] at hx;rcases h3 with h3|⟨y,hy,hn⟩
 ·subst h3;simp at hx
 ·have hk:k≠0:=by
   intro e;subst e;simp at hx
  rw [gC (by omega),hy] at hx;cases hx;exact hn
theorem NoZ.pos (hB:0<B) (h:NoZ L) (a0:L≠ []):B^(L.length-1)≤Go.Big.val B L:=by
 obtain⟨A,x,rfl⟩:∃A x,L=A++ [x]:=⟨L.dropLast,L.getLast a0,(Hc a0).symm⟩;have:=val_ge (B:=B) (a:=A) (x:=x) (h x (by simp));simpa using this
theorem NoZ.nil_iff (hB:0<B) (h:NoZ L):Go.Big.val B L=0↔L= []:=by
 constructor
 ·intro e;apply iA;intro a0;have h1:=h.pos hB a0;have h2:0<B^(L.length-1):=jJ hB;omega
 ·rintro rfl;rfl
theorem NoZ.len_le (hB:1<B) (hC:NoZ C) (hA:∀x∈A,x<B) (h:Go.Big.val B C≤Go.Big.val B A):C.length≤A.length:=by
 by_cases a0:C= []
 ·subst a0;simp
 ·have h1:=hC.pos (B:=B) (by omega) a0;have h2:=val_lt hA;have h3:B^(C.length-1)<B^A.length:=by omega
  have:=(tK hB).1 h3;omega
theorem NoZ.eq:∀{A C:List Nat},NoZ A→NoZ C→(∀x∈A,x<B)→(∀x∈C,x<B)→1<B→Go.Big.val B A=Go.Big.val B C→A=C:=by
 intro A C hA hC ha hc hB h;have l1:=hC.len_le hB ha (GQ h.symm);have l2:=hA.len_le hB hc (GQ h);have hl:A.length=C.length:=by omega
 clear l1 l2 hA hC
 induction A generalizing C with
 |nil=>cases C with|nil=>rfl|cons y C=>simp at hl
 | cons x A ih=>
  cases C with
  |nil=>simp at hl
  | cons y C=>
   rw [Go.Big.val,Go.Big.val] at h;have hx:=ha x (by simp);have hy:=hc y (by simp);have e1:x=y:=by
    have:=congrArg (· %B) h;simpa [Gi,pO hx,pO hy] using this
   subst e1;have e2:Go.Big.val B A=Go.Big.val B C:=Nat.eq_of_mul_eq_mul_left (show 0<B by omega) (by omega);rw [ih (fun z hz=>ha z (by simp [hz])) (fun z hz=>hc z (by simp [hz])) e2 (by simpa using hl)]
theorem uE (a:Option Addr) (len cap n:Nat) (L:List Nat) (a0:L.length=len) (a3:len<4611686018427387904) (a4:len≤cap) (w:World) (hn:n≤w.heap.size) (h1:fI n w a L):
  Calls Tryz.prog 314 #[.slice a len cap] w fun e w'=>∃k,e= .returned (.slice a k cap)∧jH L k∧Below w.heap.size w w':=by
 go_enter Tryz.func314,Tryz.ntmps314;go_wp2
 go_loopw [0] (fun s wr=>∃k:Nat,s= .slice a k cap∧k≤len∧(∀x∈L.drop k,x=0)∧Below w.heap.size w wr) (fun s _=>xE s)
 case atStart=>exact⟨len,rfl,aA _,by rw [←a0,BJ];simp,aI _ _⟩
 case round=>
  obtain⟨k,rfl,hk,hz,hB⟩:=hrel
  by_cases a2:k=0
  ·subst a2;go_wp2
   go_ret
   exact⟨0,rfl,⟨aT _,hz,.inl rfl⟩,hB⟩
  ·obtain⟨k',rfl⟩:∃k',k=k'+1:=⟨k-1,by omega⟩;obtain⟨x,hx⟩:∃x,L[k']?=some x:=⟨L[k'],aL (by omega)⟩;obtain⟨b,off,rfl,hb,hxl,hc⟩:=(h1.below hB hn).get hx;have b0:IntKind.i64.wrap (k':Int)=k':=HK (by omega);have a1:(k':Int)<(k':Int)+1:=by omega
   have a6:(0:Int)≤(k':Int):=by omega
   have a7:(0:Int)<(k':Int)+1:=by omega
   have a8:(k':Int)≤(cap:Int):=by omega
   have a9:¬(cap:Int)<(k':Int):=by omega
   clear h1 a2
   by_cases h0:x=0
   ·subst h0;go_wp2;refine⟨⟨k',rfl,by omega,fun y hy=>?_,hB⟩,by simp [xE]⟩;rw [oI (by omega)] at hy;rcases cD.1 hy with rfl|hy
    ·exact(List.getElem?_eq_some_iff.1 hx).2
    ·exact hz y hy
   ·have b1:((x:Int)==0)=false:=by simp;omega
    go_wp2
    go_ret
    exact⟨k'+1,rfl,⟨by omega,hz,.inr ⟨x,by simpa using hx,h0⟩⟩,hB⟩
theorem oP (a:Option Addr) (len cap n i:Nat) (L:List Nat) (a0:L.length=len) (w:World) (h1:fI n w a L):
  Calls Tryz.prog 315 #[.slice a len cap,.int .i64 i] w fun e w'=>e= .returned (.int .i64 (dg L i))∧w'=w:=by
 by_cases hi:i<len
 ·obtain⟨b,off,rfl,hb,hxl,hc⟩:=h1.get (nX (L:=L) (i:=i) (by omega));generalize dg L i=x at*;have a1:(i:Int)<(len:Int):=by omega
  have a5:(0:Int)≤(i:Int):=by omega
  clear h1;go_enter Tryz.func315,Tryz.ntmps315;go_wp2
  go_ret
  exact⟨rfl,rfl⟩
 ·rw [vS (by omega)];have a1:¬(i:Int)<(len:Int):=by omega
  clear h1;go_enter Tryz.func315,Tryz.ntmps315;go_wp2
  go_ret
  exact⟨rfl,rfl⟩
theorem MT (x:Nat) (h:x<65536):bits BinOp.and IntKind.i64 (x:Int) 1=((x%2:Nat):Int):=by
 have h1:(BitVec.ofInt 64 (x:Int)).toNat=x:=by
  rw [lF,lE];omega
 have h2:(BitVec.ofInt 64 (1:Int)).toNat=1:=by decide
 show IntKind.i64.wrap (((BitVec.ofInt 64 (x:Int))&&&BitVec.ofInt 64 (1:Int)).toNat:Int)=_;rw [SW,h1,h2,Gf,aG];omega
theorem WN (a:Option Addr) (len cap n:Nat) (L:List Nat) (a0:L.length=len) (w:World) (h1:fI n w a L):
  Calls Tryz.prog 316 #[.slice a len cap,.int .i64 0] w fun e w'=>e= .returned (.int .i64 ((dg L 0%2:Nat):Int))∧w'=w:=by
 have hd:=oP a len cap n 0 L a0 w h1;have hx:dg L 0<65536:=mL (by decide) h1.1 0;generalize dg L 0=x at*;have ha:=MT x hx;have e0:((0:Nat):Int)=0:=rfl;rw [e0] at hd;clear h1 e0;go_enter Tryz.func316,Tryz.ntmps316
 go_wp2_with (go_at_call 315;refine hd.mono ?_;rintro e w' ⟨rfl,rfl⟩)
 go_ret
 exact⟨by simp,rfl⟩
def eU (x y:Nat):Int:=if x<y then-1 else if y<x then 1 else 0
theorem JV (a1 a2:Option Addr) (a0 a3 a4 a5 n1 n2:Nat) (A C:List Nat) (a8:A.length=a0) (a9:C.length=a3) (b6:a0<4611686018427387904) (b7:a3<4611686018427387904) (w:World) (h1:fI n1 w a1 A) (h2:fI n2 w a2 C):
  Calls Tryz.prog 265 #[.slice a1 a0 a4,.slice a2 a3 a5] w fun e w'=>e= .returned (.int .i64 (eU (val 65536 A) (val 65536 C)))∧w'=w:=by
 rcases BB a0 a3 with h|h
 ·have b1:(a0:Int)<(a3:Int):=by omega
  have b2:a0≤a3:=by omega
  have b3:a3≤a3:=by omega
  have b4:a3<4611686018427387904:=by omega
  have a7:IntKind.i64.wrap ((a3:Int)-1)=(a3:Int)-1:=by rw [aG];omega
  clear h;go_enter Tryz.func265,Tryz.ntmps265;go_wp2
  go_loopw [5] (fun s wr=>∃k:Nat,s= .int .i64 ((k:Int)-1)∧k≤a3∧(∀i,k≤i→i<a3→dg A i=dg C i)∧wr=w) (fun s _=>(intOf s+1).toNat)
  case atStart=>exact⟨a3,by simp [a7],aA _,fun i hi hj=>absurd hj (by omega),rfl⟩
  case round=>
   obtain⟨k,rfl,hk,hz,rfl⟩:=hrel
   by_cases a6:k=0
   ·subst a6;have e0:(((0:Nat):Int)-1)= -1:=by omega
    rw [e0];go_wp2
    go_ret
    refine⟨?_,rfl⟩;have:=HY (B:=65536) (A:=A) (C:=C) (n:=a3) (by omega) (by omega) fun i hi=>hz i (aT _) hi
    simp [eU,this]
   ·obtain⟨k',rfl⟩:∃k',k=k'+1:=⟨k-1,by omega⟩;have e0:(((k'+1:Nat):Int)-1)=k':=by omega
    rw [e0];have d1:=oP a1 a0 a4 n1 k' A a8 wr h1;have d2:=oP a2 a3 a5 n2 k' C a9 wr h2;have hA:dg A k'<dg C k'→val 65536 A<val 65536 C:=fun h=>xA (by decide) h1.1 (n:=a3) (by omega) (by omega) (show k'<a3 by omega) (fun i hi hj=>hz i (by omega) hj) h
    have hC:dg C k'<dg A k'→val 65536 C<val 65536 A:=fun h=>xA (by decide) h2.1 (n:=a3) (by omega) (by omega) (show k'<a3 by omega) (fun i hi hj=>(hz i (by omega) hj).symm) h
    have hE:dg A k'=dg C k'→∀i,k'≤i→i<a3→dg A i=dg C i:=fun h i hi hj=>by
     rcases RY hi with rfl|hi
     ·exact h
     ·exact hz i hi hj
    generalize dg A k'=x at*;generalize dg C k'=y at*;have b5:IntKind.i64.wrap ((k':Int)-1)=(k':Int)-1:=by rw [aG];omega
    clear h1 h2 hz;have b0:(0:Int)≤(k':Int):=by omega
    rcases RR x y with h|h|h
    ·have hI:(x:Int)<(y:Int):=by omega
     have hv:=hA h;clear hA hC hE
     go_wp2_with first|(go_at_call 315;with_reducible refine d1.mono ?_;rintro e w' ⟨rfl,rfl⟩)|(go_at_call 315;with_reducible refine d2.mono ?_;rintro e w' ⟨rfl,rfl⟩)
     go_ret
     exact⟨by simp [eU,hv],rfl⟩
    ·subst h;have hv:Aside _:=hE rfl;clear hA hC hE
     go_wp2_with first|(go_at_call 315;with_reducible refine d1.mono ?_;rintro e w' ⟨rfl,rfl⟩)|(go_at_call 315;with_reducible refine d2.mono ?_;rintro e w' ⟨rfl,rfl⟩)
     go_roundw
     case rel=>exact⟨k',rfl,by omega,hv.out,trivial⟩
     case measure=>simp [intOf]
    ·have hI:(y:Int)<(x:Int):=by omega
     have hv:=hC h;clear hA hC hE
     go_wp2_with first|(go_at_call 315;with_reducible refine d1.mono ?_;rintro e w' ⟨rfl,rfl⟩)|(go_at_call 315;with_reducible refine d2.mono ?_;rintro e w' ⟨rfl,rfl⟩)
     go_ret
     exact⟨by simp [eU,hv];omega,rfl⟩
 ·have b1:¬(a0:Int)<(a3:Int):=by omega
  have b2:a0≤a0:=by omega
  have b3:a3≤a0:=by omega
  have b4:a0<4611686018427387904:=by omega
  have a7:IntKind.i64.wrap ((a0:Int)-1)=(a0:Int)-1:=by rw [aG];omega
  clear h;go_enter Tryz.func265,Tryz.ntmps265;go_wp2
  go_loopw [5] (fun s wr=>∃k:Nat,s= .int .i64 ((k:Int)-1)∧k≤a0∧(∀i,k≤i→i<a0→dg A i=dg C i)∧wr=w) (fun s _=>(intOf s+1).toNat)
  case atStart=>exact⟨a0,by simp [a7],aA _,fun i hi hj=>absurd hj (by omega),rfl⟩
  case round=>
   obtain⟨k,rfl,hk,hz,rfl⟩:=hrel
   by_cases a6:k=0
   ·subst a6;have e0:(((0:Nat):Int)-1)= -1:=by omega
    rw [e0];go_wp2
    go_ret
    refine⟨?_,rfl⟩;have:=HY (B:=65536) (A:=A) (C:=C) (n:=a0) (by omega) (by omega) fun i hi=>hz i (aT _) hi
    simp [eU,this]
   ·obtain⟨k',rfl⟩:∃k',k=k'+1:=⟨k-1,by omega⟩;have e0:(((k'+1:Nat):Int)-1)=k':=by omega
    rw [e0];have d1:=oP a1 a0 a4 n1 k' A a8 wr h1;have d2:=oP a2 a3 a5 n2 k' C a9 wr h2;have hA:dg A k'<dg C k'→val 65536 A<val 65536 C:=fun h=>xA (by decide) h1.1 (n:=a0) (by omega) (by omega) (show k'<a0 by omega) (fun i hi hj=>hz i (by omega) hj) h
    have hC:dg C k'<dg A k'→val 65536 C<val 65536 A:=fun h=>xA (by decide) h2.1 (n:=a0) (by omega) (by omega) (show k'<a0 by omega) (fun i hi hj=>(hz i (by omega) hj).symm) h
    have hE:dg A k'=dg C k'→∀i,k'≤i→i<a0→dg A i=dg C i:=fun h i hi hj=>by
     rcases RY hi with rfl|hi
     ·exact h
     ·exact hz i hi hj
    generalize dg A k'=x at*;generalize dg C k'=y at*;have b5:IntKind.i64.wrap ((k':Int)-1)=(k':Int)-1:=by rw [aG];omega
    clear h1 h2 hz;have b0:(0:Int)≤(k':Int):=by omega
    rcases RR x y with h|h|h
    ·have hI:(x:Int)<(y:Int):=by omega
     have hv:=hA h;clear hA hC hE
     go_wp2_with first|(go_at_call 315;with_reducible refine d1.mono ?_;rintro e w' ⟨rfl,rfl⟩)|(go_at_call 315;with_reducible refine d2.mono ?_;rintro e w' ⟨rfl,rfl⟩)
     go_ret
     exact⟨by simp [eU,hv],rfl⟩
    ·subst h;have hv:Aside _:=hE rfl;clear hA hC hE
     go_wp2_with first|(go_at_call 315;with_reducible refine d1.mono ?_;rintro e w' ⟨rfl,rfl⟩)|(go_at_call 315;with_reducible refine d2.mono ?_;rintro e w' ⟨rfl,rfl⟩)
     go_roundw
     case rel=>exact⟨k',rfl,by omega,hv.out,trivial⟩
     case measure=>simp [intOf]
    ·have hI:(y:Int)<(x:Int):=by omega
     have hv:=hC h;clear hA hC hE
     go_wp2_with first|(go_at_call 315;with_reducible refine d1.mono ?_;rintro e w' ⟨rfl,rfl⟩)|(go_at_call 315;with_reducible refine d2.mono ?_;rintro e w' ⟨rfl,rfl⟩)
     go_ret
     exact⟨by simp [eU,hv];omega,rfl⟩
theorem inf3:(Tryz.prog.info? 3).map (fun i=>(i.zero,i.size,i.bytes))=some (some (.int .i64 0),1,8):=by kernel_rfl
def iv (x:Nat):Value:=.int .i64 x
def dZ (base:Nat) (w:World) (sv:Value) (D:List Nat):Prop:=w.ownsRow base 3 1 sv D.length (D.map iv)
theorem dZ.kept (h:dZ base w sv D) (hk:∀k,base≤k→k<w.heap.size→w'.heap[k]?=w.heap[k]?):dZ base w' sv D:=by
 obtain⟨h1,h2|⟨g,cap,cur,e1,hb,hg,h3⟩⟩:=h
 ·exact⟨h1,.inl h2⟩
 ·exact⟨h1,.inr ⟨g,cap,cur,e1,hb,(hk g hb (Array.getElem?_eq_some_iff.1 hg).1).trans hg,h3⟩⟩
theorem dZ.below (h:dZ base w sv D) (hb:Below m w w') (hm:w.heap.size≤m):dZ base w' sv D:=
 h.kept fun k _ hk=>hb.block k (by omega)
theorem dZ.nil (base:Nat) (w:World):dZ base w (.slice none 0 0) []:=oC _ _ _ _
theorem dZ.at (h:dZ base w sv D) (hd:∀x∈D,x<65536):∃a c,sv= .slice a D.length c∧D.length≤c∧c≤maxLen∧fI w.heap.size w a D:=by
 obtain⟨h1,⟨e,h0⟩|⟨g,cap,cur,e1,hb,hg,hnc,hm,hs,ht⟩⟩:=h
 ·have:D= []:=lB h0;subst this;exact⟨none,0,e,aA _,aT _,hd,fun h=>absurd rfl h⟩
 ·refine⟨some ⟨g,0,none⟩,cap,e1,hnc,hm,hd,fun _=>⟨g,0,rfl,(Array.getElem?_eq_some_iff.1 hg).1,fun j x hx=>?_⟩⟩;have hj:=(List.getElem?_eq_some_iff.1 hx).1;have h2:cur[j]?=some (iv x):=by
   rw [←gQ,←gC (show j<D.length*1 by omega),ht,jK,hx];rfl
  simpa [World.cell?,hg,iv] using h2
theorem dZ.push (h:w.ownsRow base 3 1 sv (D.length+1) (D.map iv++ [iv x])):dZ base w sv (D++ [x]):=by
 unfold dZ;rw [aK,mZ];exact h
theorem dZ.own (h:dZ base w sv D):∀k,sv.ownBlock=some k→base≤k∧k<w.heap.size:=bT h
theorem sC (w:World) (vs:List Value) (e:TypeId) (fr:Nat × Nat):∀(j:Nat) u,vs[j]?=some u→(w.alloc (Obj.cells vs.toArray e fr)).cell? ⟨w.heap.size,j,none⟩=some u:=by
 intro j u hj;have h:=heap_alloc_new w (Obj.cells vs.toArray e fr);unfold World.cell?;rw [h];simpa using hj
theorem tX {ops:Array Oper} {rest:List Oper} {o:Oper} {a:Act} {Q:Exit→Act→World→Prop} (w:World) (c3:o.guard=none) (s x:Operand)
  (ho:o.op= .call { callee:=.builtin .append,args:=#[s,x],argTypes:=#[247,247] }) (base:Nat) (sv:Value) (D xs:List Nat) (m:Nat) (hm:xs.length=m) (hs:a.eval s=sv) (g c:Nat) (hx:a.eval x= .slice (some ⟨g,0,none⟩) m c)
  (hc:∀(j:Nat) u,(xs.map iv)[j]?=some u→w.cell? ⟨g,j,none⟩=some u) (hR:dZ base w sv D) (c5:D.length+m≤17592186044416) (a5:base≤w.heap.size)
  (h:∀v' w',dZ base w' v' (D++xs)→Below base w w'→wpList Tryz.prog ops Q rest (a.put o.dst v') w'):wpList Tryz.prog ops Q (o::rest) a w:=by
 obtain⟨i0,hi0,hz0,hz1,hz2⟩:=mV inf3;refine wpList_append_own w c3 s x 247 ho base 3 i0 (.int .i64 0) 1 8 Tryz.underlying247 hi0 hz0 hz1 hz2 rfl (by decide) sv D.length (D.map iv) hs hR ⟨g,0,none⟩ m c (xs.map iv) hx (by simp [hm]) (fun j u hj=>?_) ?_ (by unfold maxLen;omega) (by omega) a5 ?_
 ·rw [jN,cG];exact hc j u hj
 ·intro u hu;obtain⟨y,_,rfl⟩:=dG.1 hu;rfl
 ·intro v' w' h1 h2 h3;refine h v' w' ?_ ((aI _ w).grown h2 a5 fun k hk=>(dZ.own hR k hk).1);unfold dZ;rw [aK,mZ,hm];exact h1
theorem VN (a1 a2:Option Addr) (a0 a6 b0 a7 n1 n2:Nat) (A C:List Nat) (d6:A.length=a0) (c4:C.length=a6) (d2:a0≤1048576) (w:World) (c6:n1≤w.heap.size) (c7:n2≤w.heap.size) (h1:fI n1 w a1 A) (h2:fI n2 w a2 C):
  Calls Tryz.prog 318 #[.slice a1 a0 b0,.slice a2 a6 a7] w fun e w'=>∃D b a k c,Subs 65536 A C D a0 b∧jH D k∧k≤c∧c≤maxLen∧e= .returned (.slice a k c)∧fI w'.heap.size w' a D∧Below w.heap.size w w':=by
 go_enter Tryz.func318,Tryz.ntmps318;go_wp2
 go_loopw [5,6,11] (fun s5 s6 d0 wr=>∃(i b:Nat) (D:List Nat),d0= .int .i64 i∧s6= .int .i64 b∧i≤a0∧Subs 65536 A C D i b∧dZ w.heap.size wr s5 D∧Below w.heap.size w wr) (fun _ _ s _=>a0-(intOf s).toNat)
 case atStart=>exact⟨0,0,[],rfl,rfl,aT _,Subs.start _ _ _,dZ.nil _ _,aI _ _⟩
 case round=>
  obtain⟨i,b,D,rfl,rfl,hi,hS,hR,hB⟩:=hrel
  by_cases d7:i<a0
  ·have hx:=nX (L:=A) (i:=i) (by omega);obtain⟨b1,o1,rfl,hbn,hxl,hc⟩:=(h1.below hB c6).get hx;have hd:∀q,_:=fun q=>oP a2 a6 a7 n2 i C c4 (wr.drewN q) (h2.below (below_drewN hB q) c7)
   have e0:dg C i<65536:=mL (by decide) h2.1 i;have c0:=fun d b' (h3:d<65536) (h4:b'≤1) (h5:dg A i+b'*65536=d+dg C i+b)=>hS.step h3 h4 h5
   have d3:=hS.bor;have a8:=hS.len;have d1:=hS.dig;clear h1 h2 hS hx;generalize dg A i=x at*;generalize dg C i=y at*;have d4:(i:Int)<(a0:Int):=by omega
   have d5:(0:Int)≤(i:Int):=by omega
   have d8:IntKind.i64.wrap ((x:Int)-(y:Int))=(x:Int)-(y:Int):=by rw [aG];omega
   have c9:IntKind.i64.wrap ((x:Int)-(y:Int)-(b:Int))=(x:Int)-(y:Int)-(b:Int):=by rw [aG];omega
   have d9:IntKind.i64.wrap ((i:Int)+1)=(i:Int)+1:=by rw [aG];omega
   go_wp2
   go_quiet (exact Calls.quiet_of_same (hd _))
   by_cases b6:(x:Int)-(y:Int)-(b:Int)<0
   ·obtain⟨d,hd0⟩:∃d:Nat,d=x+65536-(y+b):=⟨_,rfl⟩;have c1:IntKind.i64.wrap ((x:Int)-(y:Int)-(b:Int)+65536)=(d:Int):=by rw [aG];omega
    have b3:Subs 65536 A C (D++ [d]) (i+1) 1:=c0 d 1 (by omega) (by omega) (by omega);clear hd0;have ho:dZ w.heap.size ((wr.drewN nq).alloc (Obj.cells #[iv d] 3)) u5 D:=hR.below ((below_drewN (aI _ wr) nq).trans (aC _ _)) (aA _);have b7:=sC (wr.drewN nq) [iv d] 3 (0,0);have b8:=hB.size;have b4:D.length+1≤17592186044416:=by omega
    have b5:w.heap.size≤((wr.drewN nq).alloc (Obj.cells #[iv d] 3)).heap.size:=by simp;omega
    have b2:Below w.heap.size w ((wr.drewN nq).alloc (Obj.cells #[iv d] 3)):=(below_drewN hB nq).alloc (by simpa using b8) _;have c2:=aside a8;clear a8
    go_wp2_with (at_builtin;refine tX _ rfl _ _ rfl w.heap.size _ D [d] 1 rfl rfl wr.heap.size 1 rfl b7 ho b4 b5 ?_;intro v' w3 a4 a3)
    go_roundw
    case rel=>exact⟨i+1,1,D++ [d],by simp,rfl,by omega,b3,a4,b2.trans a3⟩
    case measure=>simp [intOf];omega
   ·obtain⟨d,hd0⟩:∃d:Nat,d=x-(y+b):=⟨_,rfl⟩;have c1:(x:Int)-(y:Int)-(b:Int)=(d:Int):=by omega
    have b3:Subs 65536 A C (D++ [d]) (i+1) 0:=c0 d 0 (by omega) (by omega) (by omega);have b9:¬(d:Int)<0:=by omega
    clear hd0;rw [c1] at c9 b6;have ho:dZ w.heap.size ((wr.drewN nq).alloc (Obj.cells #[iv d] 3)) u5 D:=hR.below ((below_drewN (aI _ wr) nq).trans (aC _ _)) (aA _);have b7:=sC (wr.drewN nq) [iv d] 3 (0,0);have b8:=hB.size;have b4:D.length+1≤17592186044416:=by omega
    have b5:w.heap.size≤((wr.drewN nq).alloc (Obj.cells #[iv d] 3)).heap.size:=by simp;omega
    have b2:Below w.heap.size w ((wr.drewN nq).alloc (Obj.cells #[iv d] 3)):=(below_drewN hB nq).alloc (by simpa using b8) _;have c2:=aside a8;clear a8
    go_wp2_with (at_builtin;refine tX _ rfl _ _ rfl w.heap.size _ D [d] 1 rfl rfl wr.heap.size 1 rfl b7 ho b4 b5 ?_;intro v' w3 a4 a3)
    go_roundw
    case rel=>exact⟨i+1,0,D++ [d],by simp,rfl,by omega,b3,a4,b2.trans a3⟩
    case measure=>simp [intOf];omega
  ·obtain rfl:i=a0:=by omega
   obtain⟨a,c,rfl,hDc,hcm,hat⟩:=hR.at hS.dig;have a9:=hS.len;rw [a9] at hDc ⊢;have c8:=uE a i c wr.heap.size D a9 (by omega) hDc wr (aA _) hat;have hA:=aside a9;clear a9
   go_wp2_with (go_at_call 314;with_reducible refine c8.mono ?_;rintro e w' ⟨k,rfl,hT,hb2⟩)
   go_ret
   exact⟨D,b,a,k,c,hS,hT,by have:=hT.1;have:=hA.out;omega,hcm,rfl,(hat.below hb2 (aA _)).up hb2.size,hB.trans (hb2.mono hB.size)⟩
def bV (n:Nat) (w:World) (a:Option Addr) (L:List Nat):Prop:=
 (∀x∈L,x<4294967296)∧(L≠ []→∃b off,a=some ⟨b,off,none⟩∧b<n∧∀(j x:Nat),L[j]?=some x→w.cell? ⟨b,off+j,none⟩=some (.int .u32 x))
theorem bV.below (h:bV n w a L) (hb:Below m w w') (hm:n≤m):bV n w' a L:=by
 refine⟨h.1,fun a3=>?_⟩;obtain⟨b,off,e,hbn,hc⟩:=h.2 a3;exact⟨b,off,e,hbn,fun j x hx=>((hb.mono hm).cell (p:=⟨b,off+j,none⟩) hbn).trans (hc j x hx)⟩
theorem bV.get (h:bV n w a L) (hx:L[k]?=some x):∃b off,a=some ⟨b,off,none⟩∧b<n∧x<4294967296∧w.cell? ⟨b,off+k,none⟩=some (.int .u32 x):=by
 have a3:L≠ []:=by intro e;subst e;simp at hx
 obtain⟨b,off,e,hb,hc⟩:=h.2 a3;exact⟨b,off,e,hb,h.1 x (aX hx),hc k x hx⟩
def aW (n:Nat) (w:World) (r:Value) (v:Nat):Prop:=∃a L c,r= .slice a L.length c∧L.length≤c∧c≤maxLen∧fI n w a L∧NoZ L∧val 65536 L=v
theorem aW.below (h:aW n w r v) (hb:Below m w w') (hm:n≤m):aW n w' r v:=by
 obtain⟨a,L,c,h1,h2,h3,h4,h5⟩:=h;exact⟨a,L,c,h1,h2,h3,h4.below hb hm,h5⟩
theorem aW.up (h:aW n w r v) (hm:n≤m):aW m w r v:=by
 obtain⟨a,L,c,h1,h2,h3,h4,h5⟩:=h;exact⟨a,L,c,h1,h2,h3,h4.up hm,h5⟩
theorem NoZ.len_of (h:NoZ L) (hv:val 65536 L<65536^M):L.length≤M:=by
 by_cases a3:L= []
 ·subst a3;simp
 ·have h1:=h.pos (B:=65536) (by decide) a3;have:=(tK (show 1<65536 by decide)).1 (fO h1 hv);omega
theorem aW.of_trim (hT:jH D k) (b4:k≤c) (a8:c≤maxLen) (a6:fI w'.heap.size w' a D) (hv:val 65536 D=v):aW w'.heap.size w' (.slice a k c) v:=by
 have hl:(D.take k).length=k:=by rw [aU];have:=hT.1;omega
 exact⟨a,D.take k,c,by rw [hl],by rw [hl];exact b4,a8,a6.take k,hT.noz,by rw [hT.val];exact hv⟩
def iV (L:List Nat):List Nat:=L.flatMap fun x=>[x%65536,x/65536]
theorem BR (L:List Nat):(iV L).length=2*L.length:=by
 induction L with
 |nil=>rfl
 |cons x L ih=>simp only [iV,oH,aK,fU,rJ] at ih ⊢;omega
theorem BQ:∀L:List Nat,val 65536 (iV L)=val 4294967296 L
 | []=>rfl
 |x::L=>by
  have ih:=BQ L;have e:iV (x::L)=x%65536::x/65536::iV L:=rfl;rw [e,val,val,val,ih];omega
theorem IE (h:∀x∈L,x<4294967296):∀d∈iV L,d<65536:=by
 intro d hd;obtain⟨x,hx,hd⟩:=List.mem_flatMap.1 hd;have:=h x hx;simp at hd;omega
theorem TU (h:L[i]?=some x):iV (L.take (i+1))=iV (L.take i)++ [x%65536,x/65536]:=by
 rw [fT,h];simp [iV]
theorem TS (x:Nat) (h:x<4294967296):bits BinOp.and IntKind.u32 (x:Int) 65535=((x%65536:Nat):Int):=by
 have h1:(BitVec.ofInt 32 (x:Int)).toNat=x:=by
  rw [lF,lE];omega
 have h2:(BitVec.ofInt 32 (65535:Int)).toNat=2^16-1:=by decide
 show IntKind.u32.wrap (((BitVec.ofInt 32 (x:Int))&&&BitVec.ofInt 32 (65535:Int)).toNat:Int)=_;rw [SW,h1,h2,Nat.and_two_pow_sub_one_eq_mod];simp [IntKind.wrap,IntKind.bits,IntKind.signed];omega
theorem xO (a1:Option Addr) (a0 a7 n1:Nat) (A:List Nat) (b5:A.length=a0) (c1:a0≤1048576) (w:World) (b6:n1≤w.heap.size) (h1:bV n1 w a1 A):
  Calls Tryz.prog 264 #[.slice a1 a0 a7] w fun e w'=>∃r,e= .returned r∧aW w'.heap.size w' r (val 4294967296 A)∧Below w.heap.size w w':=by
 go_enter Tryz.func264,Tryz.ntmps264;go_wp2
 go_loopw [3,8] (fun s3 s8 wr=>∃(i:Nat),s8= .int .i64 i∧i≤a0∧dZ w.heap.size wr s3 (iV (A.take i))∧Below w.heap.size w wr) (fun _ s _=>a0-(intOf s).toNat)
 case atStart=>exact⟨0,rfl,aT _,dZ.nil _ _,aI _ _⟩
 case round=>
  obtain⟨i,rfl,hi,hR,hB⟩:=hrel
  by_cases c4:i<a0
  ·obtain⟨x,hx⟩:∃x,A[i]?=some x:=⟨A[i],aL (by omega)⟩;obtain⟨b1,o1,rfl,hbn,hxl,hc⟩:=(h1.below hB b6).get hx;have a9:=TU hx;have b9:(iV (A.take i)).length=2*i:=by rw [BR,aU];omega
   clear h1 hx;obtain⟨p,hp⟩:∃p,x%65536=p:=⟨_,rfl⟩;obtain⟨q,hq⟩:∃q,x/65536=q:=⟨_,rfl⟩;have ha:=TS x hxl;rw [hp] at ha;rw [hp,hq] at a9;generalize iV (A.take i)=T at*;have Atk:=aside a9;clear a9;have c2:(i:Int)<(a0:Int):=by omega
   have c3:(0:Int)≤(i:Int):=by omega
   have c6:IntKind.i64.wrap ((i:Int)+1)=(i:Int)+1:=by rw [aG];omega
   have c5:(x:Int)/65536=(q:Int):=by omega
   have c7:IntKind.i64.wrap (p:Int)=(p:Int):=by rw [aG];omega
   have c8:IntKind.i64.wrap (q:Int)=(q:Int):=by rw [aG];omega
   clear hp hq;have ho:dZ w.heap.size (wr.alloc (Obj.cells #[iv p,iv q] 3)) u3 T:=hR.below (aC _ _) (aA _);have b7:=sC wr [iv p,iv q] 3 (0,0);have b8:=hB.size;have b2:T.length+2≤17592186044416:=by omega
   have b3:w.heap.size≤(wr.alloc (Obj.cells #[iv p,iv q] 3)).heap.size:=by simp;omega
   have b0:Below w.heap.size w (wr.alloc (Obj.cells #[iv p,iv q] 3)):=hB.alloc b8 _;clear b9
   go_wp2_with (at_builtin;refine tX _ rfl _ _ rfl w.heap.size _ T [p,q] 2 rfl rfl wr.heap.size 2 rfl b7 ho b2 b3 ?_;intro v' w3 a5 a2)
   go_roundw
   case rel=>exact⟨i+1,by simp,by omega,by rw [Atk.out];exact a5,b0.trans a2⟩
   case measure=>simp [intOf];omega
  ·obtain rfl:i=a0:=by omega
   rw [eP (by omega)] at hR;have hd:=IE h1.1;obtain⟨a,c,rfl,hDc,a8,a6⟩:=hR.at hd;have a4:(iV A).length=2*i:=by rw [BR,b5]
   have hv:=BQ A;generalize iV A=D at*;rw [a4] at hDc ⊢;obtain⟨m,hm⟩:∃m,2*i=m:=⟨_,rfl⟩;rw [hm] at a4 hDc ⊢;have c0:=uE a m c wr.heap.size D a4 (by omega) hDc wr (aA _) a6;have hA:=aside a4;clear a4 hm
   go_wp2_with (go_at_call 314;with_reducible refine c0.mono ?_;rintro e w' ⟨k,rfl,hT,hb2⟩)
   go_ret
   exact⟨_,rfl,aW.of_trim hT (by have:=hT.1;have:=hA.out;omega) a8 ((a6.below hb2 (aA _)).up hb2.size) hv,hB.trans (hb2.mono hB.size)⟩
end Go.Proofs.YtbdpdeonapmlgaaGreatDoor
