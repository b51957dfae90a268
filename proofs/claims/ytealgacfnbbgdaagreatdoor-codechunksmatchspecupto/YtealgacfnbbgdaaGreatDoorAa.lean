/- Lemmas; no condition. -/
import Derived.Test.YtealgacfnbbgdaaGreatDoorZ
import Derived.Test.YtealgacfnbbgdaaGreatDoorProg
import Derived.WalkKit
import Derived.LoopTactic
import Derived.Below
import Derived.Sort.Grow
import Derived.Sort.Lot0
import Derived.Deep.QuietTactic
import Derived.StillTailTactics
import Derived.BigQuiet
import Derived.Lib.LaidTab
import Derived.Laws.AppendOwn
import Derived.Deep.Cut
import Derived.Deep.CutRange
import Derived.Deep.CutBlock
import Derived.OwnWalk
import Derived.WalkSmall
set_option linter.all false
set_option maxHeartbeats 1000000
set_option maxRecDepth 100000
namespace Go.Big
variable {B n b c i x H V r k q un U j:Nat} {A L D C ds us vs qs a lo mid es Q u:List Nat} {f g o:Nat→Nat}
section
def val (B:Nat):List Nat→Nat
 | []=>0
 |x::xs=>x+B*val B xs
def oO (B:Nat):∀(a b:List Nat),val B (a++b)=val B a+B^a.length*val B b
 | [],b=>by simp [val]
 |x::a,b=>by
  rw [mF,val,oO B a b,val,jD,gK,eM,dM (B^a.length) B,fH];omega
def val_lt {B:Nat}:∀{a:List Nat},(∀x∈a,x<B)→val B a<B^a.length
 | [],_=>by simp [val]
 |x::a,h=>by
  have h1:=h x (by simp);have h2:=val_lt (a:=a) fun y hy=>h y (by simp [hy])
  rw [val,jD,gK,dM];have h3:(val B a+1)*B≤B^a.length*B:=fP B h2;rw [eO,oH] at h3;omega
def HK (B:Nat):∀n:Nat,val B (List.replicate n 0)=0
 |0=>rfl
 |n+1=>by rw [pL,val,HK B n];simp
def kO (B:Nat) (a:List Nat) (x:Nat):val B (a++ [x])=val B a+B^a.length*x:=by
 rw [oO];simp [val]
def val_ge (hx:x≠0):B^a.length≤val B (a++ [x]):=by
 rw [kO];have:B^a.length*1≤B^a.length*x:=nO _ (by omega);omega
section
variable {B P Q v1 v2 V3 top u2 U3 q g r:Nat}
def Lb (hP:P=B*Q) (a3:u2<B) (a1:U3<Q) (hq:q*(v1*P+v2*Q+V3)≤top*P+u2*Q+U3):q*v1≤top:=by
 apply oK;intro hn;have h1:(top+1)*P≤q*v1*P:=fP P (by omega);have h2:q*(v1*P+v2*Q+V3)=q*v1*P+q*(v2*Q)+q*V3:=by
  rw [eM,eM,fH]
 have h3:(u2+1)*Q≤B*Q:=fP Q a3;rw [eO,oH] at h1 h3;omega
def Kz (hP:P=B*Q) (a1:U3<Q) (hg:g*v1+r=top) (ht:r*B+u2<g*v2):top*P+u2*Q+U3<g*(v1*P+v2*Q+V3):=by
 have h1:g*(v1*P+v2*Q+V3)=g*v1*P+g*v2*Q+g*V3:=by
  rw [eM,eM,fH,fH]
 have h2:(r*B+u2+1)*Q≤g*v2*Q:=fP Q ht;have h3:top*P=g*v1*P+r*P:=by rw [←hg,eO]
 have h4:r*P=r*B*Q:=by rw [hP,fH]
 have h5:(r*B+u2+1)*Q=r*B*Q+u2*Q+Q:=by rw [eO,eO,oH]
 omega
def Ky (hP:P=B*Q) (a4:V3<Q) (hg:(g+1)*v1+r=top) (ht:(g+1)*v2≤r*B+u2) (a2:g≤v1*B+v2):g*(v1*P+v2*Q+V3)≤top*P+u2*Q+U3:=by
 have h1:g*(v1*P+v2*Q+V3)=g*v1*P+g*v2*Q+g*V3:=by
  rw [eM,eM,fH,fH]
 have h2:(g+1)*v2*Q≤(r*B+u2)*Q:=fP Q ht;have h3:top*P=g*v1*P+v1*P+r*P:=by rw [←hg,eO,eO,oH,eO]
 have h4:r*P=r*B*Q:=by rw [hP,fH]
 have h5:(r*B+u2)*Q=r*B*Q+u2*Q:=by rw [eO]
 have h6:(g+1)*v2*Q=g*v2*Q+v2*Q:=by rw [eO,oH,eO]
 have h7:g*V3≤g*Q:=nO g (by omega);have h8:g*Q≤(v1*B+v2)*Q:=fP Q a2;have h9:(v1*B+v2)*Q=v1*P+v2*Q:=by rw [eO,hP,fH]
 omega
end
inductive MulSub (B g:Nat):List Nat→List Nat→List Nat→Nat→Nat→Prop
 |nil:MulSub B g [] [] [] 0 0
 |snoc {us vs ds:List Nat} {u v d c b b':Nat} (h:MulSub B g us vs ds c b) (hd:d<B) (a0:b'≤1) (he:u+b'*B=d+(c+g*v)%B+b):MulSub B g (us++ [u]) (vs++ [v]) (ds++ [d]) ((c+g*v)/B) b'
def MulSub.spec {g:Nat} (h:MulSub B g us vs ds c b):
  us.length=vs.length∧ds.length=vs.length∧b≤1∧(∀d∈ds,d<B)∧val B us+B^vs.length*(c+b)=val B ds+g*val B vs:=by
 induction h with
 |nil=>simp [val]
 | @snoc us vs ds u v d c b b' h hd a0 he ih=>
  obtain⟨h1,h2,h3,h4,h5⟩:=ih;refine⟨by simp [h1],by simp [h2],a0,fun x hx=>?_,?_⟩
  ·rcases eY.1 hx with hx|hx
   ·exact h4 x hx
   ·simp at hx;omega
  ·rw [kO,kO,kO,h1,h2,aV,oJ,gK];generalize B^vs.length=W at*;have e1:(c+g*v)%B+B*((c+g*v)/B)=c+g*v:=GJ _ _;generalize (c+g*v)/B=k,(c+g*v)%B=m at*;have e2:W*u+W*(b'*B)=W*d+W*m+W*b:=by rw [←eM,he,eM,eM]
   have e3:W*m+W*(B*k)=W*c+W*(g*v):=by rw [←eM,e1,eM]
   have e4:W*B*(k+b')=W*(B*k)+W*(b'*B):=by rw [eM,fH,fH,dM B b']
   have e5:g*(val B vs+W*v)=g*val B vs+W*(g*v):=by rw [eM,NO]
   have e6:W*(c+b)=W*c+W*b:=eM _ _ _;rw [e4,e5];omega
end
inductive AddD (B:Nat):List Nat→List Nat→List Nat→Nat→Prop
 |nil:AddD B [] [] [] 0
 |snoc {us vs ds:List Nat} {u v d c c':Nat} (h:AddD B us vs ds c) (hd:d<B) (he:u+v+c=d+c'*B):AddD B (us++ [u]) (vs++ [v]) (ds++ [d]) c'
def AddD.spec (h:AddD B us vs ds c):
  us.length=vs.length∧ds.length=vs.length∧(∀d∈ds,d<B)∧val B us+val B vs=val B ds+B^vs.length*c:=by
 induction h with
 |nil=>simp [val]
 | @snoc us vs ds u v d c c' h hd he ih=>
  obtain⟨h1,h2,h4,h5⟩:=ih;refine⟨by simp [h1],by simp [h2],fun x hx=>?_,?_⟩
  ·rcases eY.1 hx with hx|hx
   ·exact h4 x hx
   ·simp at hx;omega
  ·rw [kO,kO,kO,h1,h2,aV,oJ,gK];generalize B^vs.length=W at*;have e2:W*u+W*v+W*c=W*d+W*(c'*B):=by rw [←eM,←eM,he,eM]
   have e4:W*B*c'=W*(c'*B):=by rw [fH,dM B c']
   rw [e4];omega
structure Guess (V U g:Nat):Prop where
 ge:∀q,q*V≤U→q≤g
 le:g=0∨(g-1)*V≤U
def Kx {g:Nat} (hV:V=val B vs) (hn:n=vs.length) (hU:U=val B us+B^n*un) (a7:∀x∈vs,x<B) (hm:MulSub B g us vs ds c b) (hG:Guess V U g) (a6:0<V) (b1:c+b≤un):
  U=g*V+val B ds∧val B ds<V∧un=c+b:=by
 obtain⟨h1,h2,h3,h4,h5⟩:=hm.spec;subst hn;have a9:V<B^vs.length:=hV▸val_lt a7;obtain⟨k,rfl⟩:∃k,un=c+b+k:=⟨un-(c+b),by omega⟩;have e1:B^vs.length*(c+b+k)=B^vs.length*(c+b)+B^vs.length*k:=eM _ _ _;rw [←hV] at h5;have e2:U=g*V+(val B ds+B^vs.length*k):=by omega
 have a3:val B ds+B^vs.length*k<V:=by
  apply oK;intro hn;have:=hG.ge (g+1) (by rw [eO,oH];omega);omega
 have hk:k=0:=by
  apply oK;intro h;have:B^vs.length*1≤B^vs.length*k:=nO _ (by omega);omega
 subst hk;rw [wL,gQ] at e2 a3;exact⟨e2,a3,by omega⟩
def Lc {g:Nat} {ca:Nat} (hB:0<B) (hV:V=val B vs) (hn:n=vs.length) (hU:U=val B us+B^n*un) (a7:∀x∈vs,x<B) (hm:MulSub B g us vs ds c b) (hG:Guess V U g) (a6:0<V) (b1:un<c+b) (ha:AddD B ds vs es ca):
  0<g∧U=(g-1)*V+val B es∧val B es<V∧ca=1∧c+b=un+1:=by
 obtain⟨h1,h2,h3,h4,h5⟩:=hm.spec;obtain⟨a1,a2,a4,a5⟩:=ha.spec;subst hn;have a9:V<B^vs.length:=hV▸val_lt a7;have b4:val B ds<B^vs.length:=by have:=val_lt h4;rwa [h2] at this
 have a8:val B es<B^vs.length:=by have:=val_lt a4;rwa [a2] at this
 rw [←hV] at h5 a5;obtain⟨k,hk⟩:∃k,c+b=un+1+k:=⟨c+b-(un+1),by omega⟩;have e1:B^vs.length*(c+b)=B^vs.length*un+B^vs.length+B^vs.length*k:=by rw [hk,eM,eM,tF]
 have e2:U+B^vs.length+B^vs.length*k=val B ds+g*V:=by omega
 have hg:0<g:=by
  rcases yQ g with h|h
  ·subst h;rw [wK] at e2;omega
  ·exact h
 have b5:(g-1)*V≤U:=hG.le.resolve_left (by omega);have e3:g*V=(g-1)*V+V:=by
  have:g=g-1+1:=by omega
  rw [this,eO,oH,yR]
 have b3:k=0:=by
  apply oK;intro h;have:B^vs.length*1≤B^vs.length*k:=nO _ (by omega);omega
 subst b3;rw [wL,gQ] at e2;have b0:ca=1:=by
  match ca,a5 with
  |0,a5=>rw [wL] at a5;omega
  |1,_=>rfl
  |m+2,a5=>
   have:B^vs.length*(m+2)=B^vs.length*m+B^vs.length*2:=eM _ _ _;omega
 subst b0;rw [tF] at a5;have a3:val B es<V:=by
  apply oK;intro hn;have:=hG.ge g (by omega);have h9:g*V≤U:=by omega
  omega
 exact⟨hg,by omega,a3,rfl,by omega⟩
structure DivAt (B A V:Nat) (j n:Nat) (u qs:List Nat):Prop where
 len:u.length=j+n
 dig:∀x∈u,x<B
 qdig:∀x∈qs,x<B
 small:val B (u.drop j)<V
 sum:A=val B u+B^j*val B qs*V
def DivAt.done {A:Nat} (h:DivAt B A V 0 n u qs):A=val B qs*V+val B u∧val B u<V:=by
 have h1:=h.sum;have h2:=h.small;rw [Nat.pow_zero,oH] at h1;rw [gB] at h2;exact⟨by omega,h2⟩
def DivAt.step {A:Nat} (h:DivAt B A V (j+1) n (lo++mid) qs) (a0:lo.length=j) (hq:q<B) (b2:∀x∈es,x<B) (a8:es.length=n) (he:val B mid=q*V+val B es) (hs:val B es<V):
  DivAt B A V j n (lo++es) (q::qs):=by
 refine⟨by simp [a0,a8],fun x hx=>?_,fun x hx=>?_,?_,?_⟩
 ·rcases eY.1 hx with hx|hx
  ·exact h.dig x (GR _ hx)
  ·exact b2 x hx
 ·rcases cN.1 hx with rfl|hx
  ·exact hq
  ·exact h.qdig x hx
 ·rw [Ry (by omega),←a0,GZ,lG];exact hs
 ·have h1:=h.sum;rw [oO,a0,he] at h1;rw [oO,a0,val];have e1:B^j*(q*V+val B es)=B^j*(q*V)+B^j*val B es:=eM _ _ _;have e2:B^j*(q+B*val B qs)*V=B^j*(q*V)+B^(j+1)*val B qs*V:=by
   rw [eM,eO,fH,gK,fH (B^j) B]
  rw [e2];omega
def DivAt.below {A:Nat} (h:DivAt B A V (j+1) n (lo++mid) qs) (a0:lo.length=j):val B mid<B*V:=by
 have hs:=h.small;have hl:=h.len;rw [aV] at hl;rw [Av,a0,GY (by omega),lG,show j+1-j=1 by omega] at hs
 match mid,hs,h,hl with
 | [],hs,h,hl=>simp only [pN] at hl;omega
 |x::m,hs,h,hl=>
  have hx:=h.dig x (by simp);simp only [gS,gB] at hs;rw [val];have:B*(val B m+1)≤B*V:=nO B hs;rw [eM,tF] at this;omega
section
section
variable {B P Q v1 v2 V3 top u2 U3 g r:Nat}
structure Gue (B P Q v1 v2 V3 top u2 U3 g r:Nat):Prop where
 sum:g*v1+r=top
 ge:∀q,q*(v1*P+v2*Q+V3)≤top*P+u2*Q+U3→q≤g
def Gue.start (hP:P=B*Q) (hv:0<v1) (a5:u2<B) (a2:U3<Q):Gue B P Q v1 v2 V3 top u2 U3 (top/v1) (top%v1):=
 ⟨by rw [dM];exact lZ top v1,fun q hq=>(Ac hv).2 (Lb hP a5 a2 hq)⟩
def Gue.less (h:Gue B P Q v1 v2 V3 top u2 U3 g r) (hP:P=B*Q) (a2:U3<Q) (a1:top*P+u2*Q+U3<B*(v1*P+v2*Q+V3)) (ht:B≤g∨r*B+u2<g*v2):
  0<g∧Gue B P Q v1 v2 V3 top u2 U3 (g-1) (r+v1):=by
 have a4:top*P+u2*Q+U3<g*(v1*P+v2*Q+V3):=by
  rcases ht with ht|ht
  ·exact eE a1 (fP _ ht)
  ·exact Kz hP a2 h.sum ht
 have hg:0<g:=by
  rcases yQ g with h0|h0
  ·subst h0;rw [wK] at a4;omega
  ·exact h0
 refine⟨hg,?_,fun q hq=>?_⟩
 ·have:=h.sum;have e:g*v1=(g-1)*v1+v1:=by
   have:g=g-1+1:=by omega
   rw [this,eO,oH,yR]
  omega
 ·have h1:=h.ge q hq;have h2:q≠g:=fun e=>by subst e;omega
  omega
def top_lt (hP:P=B*Q) (a3:v2<B) (a0:V3<Q) (a1:top*P+u2*Q+U3<B*(v1*P+v2*Q+V3)):top<B*(v1+1):=by
 apply oK;intro hn;have h1:B*(v1+1)*P≤top*P:=fP P (by omega);have h2:v1*P+v2*Q+V3≤(v1+1)*P:=by
  have:(v2+1)*Q≤B*Q:=fP Q a3;rw [eO,oH] at this;rw [eO,oH];omega
 have h3:B*(v1*P+v2*Q+V3)≤B*((v1+1)*P):=nO B h2;rw [←fH] at h3;omega
def Gue.ends (h:Gue B P Q v1 v2 V3 top u2 U3 g r) (hP:P=B*Q) (hv:0<v1) (a0:V3<Q) (hg:g<B) (ht:g*v2≤r*B+u2):Guess (v1*P+v2*Q+V3) (top*P+u2*Q+U3) g:=by
 refine⟨h.ge,?_⟩;rcases yQ g with h0|h0
 ·exact .inl h0
 ·right;obtain⟨k,rfl⟩:∃k,g=k+1:=⟨g-1,by omega⟩;rw [yR];refine Ky hP a0 h.sum ht ?_;have:1*B≤v1*B:=fP B hv;omega
def Gue.breaks (h:Gue B P Q v1 v2 V3 top u2 U3 g r) (hP:P=B*Q) (hv:0<v1) (a3:v2<B) (a0:V3<Q) (a1:top*P+u2*Q+U3<B*(v1*P+v2*Q+V3)) (hr:B≤r):g<B∧Guess (v1*P+v2*Q+V3) (top*P+u2*Q+U3) g:=by
 have ht:=top_lt hP a3 a0 a1;have hg:g<B:=by
  apply oK;intro hn;have h1:B*v1≤g*v1:=fP v1 (by omega);have:=h.sum;rw [eM,tF] at ht;omega
 refine⟨hg,h.ends hP hv a0 hg ?_⟩;have h1:g*v2≤B*B:=tG (by omega) (by omega);have h2:B*B≤r*B:=fP B hr;omega
end
def UY {a:Nat} (ha:a%2=0) (hb:b%2=1):Nat.gcd (a/2) b=Nat.gcd a b:=by
 have e:a=2*(a/2):=by omega
 have hc:Nat.gcd 2 b=1:=by
  rw [Nat.gcd_rec,hb];rfl
 apply Nat.dvd_antisymm
 ·refine Ag ?_ (NR _ _);exact Nat.dvd_trans (Ae _ _) ⟨2,by omega⟩
 ·refine Ag ?_ (NR _ _);have h1:Nat.gcd a b ∣ 2*(a/2):=by rw [←e];exact Ae _ _
  have h2:Nat.Coprime (Nat.gcd a b) 2:=by
   show Nat.gcd (Nat.gcd a b) 2=1;have h3:Nat.gcd (Nat.gcd a b) 2 ∣ Nat.gcd 2 b:=Ag (NR _ _) (Nat.dvd_trans (Ae _ _) (NR _ _));rw [hc] at h3;exact Nat.dvd_one.1 h3
  exact h2.dvd_of_dvd_mul_left h1
def UX {a:Nat} (h:b≤a):Nat.gcd (a-b) b=Nat.gcd a b:=by
 have e:a=(a-b)+b:=by omega
 conv=>rhs;rw [e]
 rw [Nat.gcd_add_self_left]
end
def dg (L:List Nat) (i:Nat):Nat:=L[i]?.getD 0
def fA (B:Nat) (f:Nat→Nat):Nat→Nat
 |0=>0
 |n+1=>fA B f n+B^n*f n
def BB (hB:0<B) (h:∀x∈L,x<B) (i:Nat):dg L i<B:=by
 unfold dg;cases e:L[i]? with
 |none=>exact hB
 |some x=>exact h x (bV e)
def BC (h:L.length≤i):dg L i=0:=by
 unfold dg;rw [wO h];rfl
def Nj (h:L[i]?=some x):dg L i=x:=by unfold dg;rw [h];rfl
def uM (h:i<L.length):L[i]?=some (dg L i):=by
 unfold dg;rw [cE h];rfl
def Nk (x:Nat) (L:List Nat):dg (x::L) 0=x:=rfl
def Br (h:∀i,i<n→f i=g i):fA B f n=fA B g n:=by
 induction n with
 |zero=>rfl
 |succ n ih=>rw [fA,fA,ih fun i hi=>h i (by omega),h n (by omega)]
def OJ (B:Nat) (f:Nat→Nat):∀n,fA B f (n+1)=f 0+B*fA B (fun i=>f (i+1)) n
 |0=>by simp [fA]
 |n+1=>by
  rw [fA,OJ B f n,fA,eM,gK,dM (B^n) B,fH];omega
def pO (B:Nat):∀(L:List Nat) (n:Nat),L.length≤n→fA B (dg L) n=val B L
 | [],0,_=>rfl
 | [],n+1,_=>by
  rw [fA,pO B [] n (cJ _),BC (cJ _)];simp
 |x::L,0,h=>by simp at h
 |x::L,n+1,h=>by
  rw [OJ,val,←pO B L n (by simpa using h)];congr 2
def OK {B:Nat} {f:Nat→Nat} (h:∀i,f i<B):∀n,fA B f n<B^n
 |0=>by simp [fA]
 |n+1=>by
  have h1:=OK h n;have h2:B^n*(f n+1)≤B^n*B:=nO _ (h n);rw [eM,tF] at h2;rw [fA,gK];omega
def Bp (hf:∀i,f i<B) (h:f k<g k):fA B f (k+1)<fA B g (k+1):=by
 have h1:=OK hf k;have h2:B^k*(f k+1)≤B^k*g k:=nO _ h;rw [eM,tF] at h2;rw [fA,fA];omega
def OL {B k:Nat} {f g:Nat→Nat}:∀(n:Nat),k≤n→(∀i,k≤i→i<n→f i=g i)→∃c,fA B f n=fA B f k+c∧fA B g n=fA B g k+c
 | n,hk,h=>by
  rcases Af hk with rfl|a5
  ·exact⟨0,rfl,rfl⟩
  ·obtain⟨m,rfl⟩:∃m,n=m+1:=⟨n-1,by omega⟩;obtain⟨c,h1,h2⟩:=OL (B:=B) m (by omega) fun i hi hm=>h i hi (by omega)
   have e:=h m (by omega) (by omega);exact⟨c+B^m*g m,by rw [fA,h1,e];omega,by rw [fA,h2];omega⟩
def CN (hB:0<B) (hA:∀x∈A,x<B) (a0:A.length≤n) (a1:C.length≤n) (hk:k<n) (a2:∀i,k<i→i<n→dg A i=dg C i) (h:dg A k<dg C k):val B A<val B C:=by
 obtain⟨c,h1,h2⟩:=OL (B:=B) n (show k+1≤n by omega) (fun i hi hm=>a2 i (by omega) hm);have h3:=Bp (BB hB hA) h;rw [pO B A n a0] at h1;rw [pO B C n a1] at h2;omega
def OP (a0:A.length≤n) (a1:C.length≤n) (h:∀i,i<n→dg A i=dg C i):val B A=val B C:=by
 rw [←pO B A n a0,←pO B C n a1];exact Br h
def Bq (hB:B=2*H) (n:Nat) (ho:∀i,i<n→o i=f i/2+(f (i+1)%2)*H):2*fA B o n+f 0%2=fA B f n+B^n*(f n%2):=by
 induction n with
 |zero=>simp [fA]
 | succ n ih=>
  have h1:=ih fun i hi=>ho i (by omega)
  rw [fA,fA,ho n (by omega),gK];generalize fA B o n=V,fA B f n=W,B^n=P at*;have e1:P*(f n/2+f (n+1)%2*H)=P*(f n/2)+P*(f (n+1)%2*H):=eM _ _ _;have e2:P*B*(f (n+1)%2)=2*(P*(f (n+1)%2*H)):=by
   rw [hB];simp only [dM,NO]
  have e3:P*f n=2*(P*(f n/2))+P*(f n%2):=by
   have:f n=2*(f n/2)+f n%2:=(lZ _ _).symm
   conv=>lhs;rw [this]
   rw [eM,NO]
  rw [e1,e2,e3];omega
def Bv (hB:B=2*H) (hl:D.length=A.length) (ho:∀i,i<A.length→dg D i=dg A i/2+(dg A (i+1)%2)*H):val B D=val B A/2∧(A.length=0∨val B A%2=dg A 0%2):=by
 have h1:=Bq hB A.length ho;rw [BC (aA A.length),pO B A _ (aA _),←hl,pO B D _ (aA _)] at h1;constructor
 ·omega
 ·right;omega
def Kw {y:Nat} (hB:B=2*H) (hx:x<B):x/2+y%2*H<B:=by
 have:y%2=0∨y%2=1:=by omega
 rcases this with e|e<;>rw [e]<;>omega
def Bu (hB:B=2*H) (A:List Nat):val B A%2=dg A 0%2:=by
 cases A with
 |nil=>rfl
 |cons x L=>
  rw [val,Nk,hB,fH];omega
structure Subs (B:Nat) (A C D:List Nat) (i b:Nat):Prop where
 len:D.length=i
 dig:∀x∈D,x<B
 bor:b≤1
 sum:val B D+fA B (dg C) i=fA B (dg A) i+B^i*b
def Subs.start (B:Nat) (A C:List Nat):Subs B A C [] 0 0:=⟨rfl,by simp,by omega,by simp [val,fA]⟩
def Subs.step {d b':Nat} (h:Subs B A C D i b) (hd:d<B) (a3:b'≤1) (he:dg A i+b'*B=d+dg C i+b):Subs B A C (D++ [d]) (i+1) b':=by
 refine⟨by simp [h.len],fun x hx=>?_,a3,?_⟩
 ·rcases eY.1 hx with hx|hx
  ·exact h.dig x hx
  ·simp at hx;omega
 ·have h1:=h.sum;rw [kO,h.len,fA,fA,gK];generalize B^i=P at*;have e1:P*dg A i+P*(b'*B)=P*d+P*dg C i+P*b:=by rw [←eM,he,eM,eM]
  have e2:P*B*b'=P*(b'*B):=by rw [fH,dM B b']
  rw [e2];omega
def Subs.done (h:Subs B A C D A.length b) (hC:C.length≤A.length) (a4:val B C≤val B A):val B D=val B A-val B C:=by
 have h1:=h.sum;rw [pO B A _ (aA _),pO B C _ hC] at h1;have h2:=val_lt h.dig;rw [h.len] at h2;have hb:=h.bor;have:b=0:=by
  apply oK;intro hn;have e:b=1:=by omega
  subst e;rw [tF] at h1;omega
 subst this;rw [wL] at h1;omega
structure Shls (B r:Nat) (A D:List Nat) (i c:Nat):Prop where
 len:D.length=i
 dig:∀x∈D,x<B
 car:c<2^r
 sum:val B D+B^i*c=fA B (dg A) i*2^r
def Shls.start (B r:Nat) (A:List Nat):Shls B r A [] 0 0:=⟨rfl,by simp,ZS r,by simp [val,fA]⟩
def Shls.step {s:Nat} (hB:0<B) (h:Shls B r A D i c) (ha:dg A i<B) (hs:s=dg A i*2^r+c):Shls B r A (D++ [s%B]) (i+1) (s/B):=by
 refine⟨by simp [h.len],fun x hx=>?_,?_,?_⟩
 ·rcases eY.1 hx with hx|hx
  ·exact h.dig x hx
  ·simp at hx;rw [hx];exact nP _ hB
 ·rw [Nat.div_lt_iff_lt_mul hB];have h1:(dg A i+1)*2^r≤B*2^r:=fP _ ha;rw [eO,oH,dM B] at h1;have:=h.car;omega
 ·have h1:=h.sum;rw [kO,h.len,fA,eO,gK,fH,←h1];have e:s%B+B*(s/B)=s:=GJ _ _;have e1:B^i*(s%B)+B^i*(B*(s/B))=B^i*(dg A i*2^r)+B^i*c:=by
   rw [←eM,e,hs,eM]
  rw [fH (B^i) (dg A i)];omega
def Shls.done (h:Shls B r A D A.length c) (k:Nat) (hB:2^r≤B):val B (List.replicate k 0++D++ [c])=val B A*2^r*B^k∧∀x∈List.replicate k 0++D++ [c],x<B:=by
 have h1:=h.sum;rw [pO B A _ (aA _)] at h1;constructor
 ·rw [iP,oO,HK,kO,h.len,h1,GT,dH,dM]
 ·intro x hx;have:=h.car;have h0:=ZS r;simp only [eY,yS,mP] at hx;rcases hx with(⟨_,rfl⟩|hx)|rfl
  ·omega
  ·exact h.dig x hx
  ·omega
def Na {a:Nat} (hq:0<q) (ha:A[i]?=some a) (hs:val B (A.drop (i+1))=q*val B Q+r) (hx:x=r*B+a):val B (A.drop i)=q*val B (x/q::Q)+x%q:=by
 obtain⟨h1,rfl⟩:=aZ.1 ha;rw [qF h1,val,hs,val];have e:q*(x/q)+x%q=x:=lZ _ _;have e1:B*(q*val B Q+r)=q*(B*val B Q)+r*B:=by rw [eM,NO,dM B r]
 rw [e1,eM];omega
def lT (n:Nat):List Nat:=if h:n=0 then [] else n%10::lT (n/10)
decreasing_by omega
def FE:lT 0= []:=by rw [lT];rfl
def LP (h:n≠0):lT n=n%10::lT (n/10):=by rw [lT];simp [h]
def Nh:∀x∈lT n,x<10:=by
 induction n using lT.induct with
 |case1=>simp [FE]
 |case2 n h ih=>
  rw [LP h];intro x hx;rcases cN.1 hx with rfl|hx
  ·exact nP _ (by decide)
  ·exact ih x hx
def dec (n:Nat):List Nat:=if n=0 then [48] else(lT n).reverse.map (48+·)
def FF:∀x∈dec n,48≤x∧x<58:=by
 intro x hx;unfold dec at hx;split at hx
 ·simp at hx;omega
 ·obtain⟨y,hy,rfl⟩:=gF.1 hx;have:=Nh y (An.1 hy);omega
end Go.Big
namespace Go.Proofs.YtealgacfnbbgdaaGreatDoor
open Go.RowKit Go.Big
variable {L D A C:List Nat} {a:Option Addr} {w w':Wo} {n B k i base m v x M c:Nat} {sv r:Value}
def OE (h:k<4611686018427387904):IntKind.i64.wrap (k:Int)=k:=by
 rw [eF];omega
def aC (w:Wo) (o:Obj):Below w.heap.size w (w.alloc o):=(aK _ _).alloc (aA _) o
def BL (w:Wo):Below w.heap.size w w.drew:=⟨rfl,rfl,rfl,aA _,fun _ _=>rfl⟩
def CU:Value→Nat
 | .slice _ n _=>n
 |_=>0
def jC (n:Nat) (w:Wo) (a:Option Addr) (L:List Nat):Prop:=
 (∀x∈L,x<65536)∧(L≠ []→∃b off,a=some ⟨b,off,none⟩∧b<n∧∀(j x:Nat),L[j]?=some x→w.cell? ⟨b,off+j,none⟩=some (.int .i64 x))
def jC.below (h:jC n w a L) (hb:Below m w w') (hm:n≤m):jC n w' a L:=by
 refine⟨h.1,fun a0=>?_⟩;obtain⟨b,off,e,hbn,hc⟩:=h.2 a0;exact⟨b,off,e,hbn,fun j x hx=>((hb.mono hm).cell (p:=⟨b,off+j,none⟩) hbn).trans (hc j x hx)⟩
def jC.up (h:jC n w a L) (hm:n≤m):jC m w a L:=by
 refine⟨h.1,fun a0=>?_⟩;obtain⟨b,off,e,hbn,hc⟩:=h.2 a0;exact⟨b,off,e,by omega,hc⟩
def jC.get (h:jC n w a L) (hx:L[k]?=some x):∃b off,a=some ⟨b,off,none⟩∧b<n∧x<65536∧w.cell? ⟨b,off+k,none⟩=some (.int .i64 x):=by
 have a0:L≠ []:=by intro e;subst e;simp at hx
 obtain⟨b,off,e,hb,hc⟩:=h.2 a0;exact⟨b,off,e,hb,h.1 x (bV hx),hc k x hx⟩
def jC.take (h:jC n w a L) (k:Nat):jC n w a (L.take k):=by
 refine⟨fun x hx=>h.1 x (lH hx),fun a0=>?_⟩;obtain⟨b,off,e,hb,hc⟩:=h.2 fun e=>a0 (by rw [e];simp)
 refine⟨b,off,e,hb,fun j x hx=>hc j x ?_⟩;have hj:j<k:=by have:=(aZ.1 hx).1;rw [bT] at this;omega
 rwa [jN hj] at hx
def nM (L:List Nat) (k:Nat):Prop:=k≤L.length∧(∀x∈L.drop k,x=0)∧(k=0∨∃x,L[k-1]?=some x∧x≠0)
def OM {B:Nat}:∀{L:List Nat},(∀x∈L,x=0)→val B L=0
 | [],_=>rfl
 |x::L,h=>by
  have h1:=h x (by simp);have h2:=OM (B:=B) (L:=L) fun y hy=>h y (by simp [hy])
  rw [val,h1,h2];simp
def nM.val (h:nM L k):val B (L.take k)=val B L:=by
 have e:L.take k++L.drop k=L:=rS k L
 conv=>rhs;rw [←e]
 rw [oO,OM h.2.1];simp
def NoZ (L:List Nat):Prop:=∀x,L.getLast?=some x→x≠0
def nM.noz (h:nM L k):NoZ (L.take k):=by
 intro x hx;obtain⟨h1,_,h3⟩:=h;rw [wN,bT,show min k L.length=k by omega] at hx;rcases h3 with h3|⟨y,hy,hn⟩
 ·subst h3;simp at hx
 ·have hk:k≠0:=by
   intro e;subst e;simp at hx
  rw [jN (by omega),hy] at hx;cases hx;exact hn
def NoZ.pos (hB:0<B) (h:NoZ L) (a0:L≠ []):B^(L.length-1)≤Go.Big.val B L:=by
 obtain⟨A,x,rfl⟩:∃A x,L=A++ [x]:=⟨L.dropLast,L.getLast a0,(List.dropLast_concat_getLast a0).symm⟩;have:=val_ge (B:=B) (a:=A) (x:=x) (h x (by simp));simpa using this
def NoZ.nil_iff (hB:0<B) (h:NoZ L):Go.Big.val B L=0↔L= []:=by
 constructor
 ·intro e;apply oK;intro a0;have h1:=h.pos hB a0;have h2:0<B^(L.length-1):=nN hB;omega
 ·rintro rfl;rfl
def NoZ.len_le (hB:1<B) (hC:NoZ C) (hA:∀x∈A,x<B) (h:Go.Big.val B C≤Go.Big.val B A):C.length≤A.length:=by
 by_cases a0:C= []
 ·subst a0;simp
 ·have h1:=hC.pos (B:=B) (by omega) a0;have h2:=val_lt hA;have h3:B^(C.length-1)<B^A.length:=by omega
  have:=(CD hB).1 h3;omega
def NoZ.eq:∀{A C:List Nat},NoZ A→NoZ C→(∀x∈A,x<B)→(∀x∈C,x<B)→1<B→Go.Big.val B A=Go.Big.val B C→A=C:=by
 intro A C hA hC ha hc hB h;have l1:=hC.len_le hB ha (NQ h.symm);have l2:=hA.len_le hB hc (NQ h);have hl:A.length=C.length:=by omega
 clear l1 l2 hA hC
 induction A generalizing C with
 |nil=>cases C with|nil=>rfl|cons y C=>simp at hl
 | cons x A ih=>
  cases C with
  |nil=>simp at hl
  | cons y C=>
   rw [Go.Big.val,Go.Big.val] at h;have hx:=ha x (by simp);have hy:=hc y (by simp);have e1:x=y:=by
    have:=cI (· %B) h;simpa [Ra,tH hx,tH hy] using this
   subst e1;have e2:Go.Big.val B A=Go.Big.val B C:=Nat.eq_of_mul_eq_mul_left (show 0<B by omega) (by omega);rw [ih (fun z hz=>ha z (by simp [hz])) (fun z hz=>hc z (by simp [hz])) e2 (by simpa using hl)]
abbrev tA (k v:Int) (nm:ByteArray) (g:Bool) (a:Option Addr) (b c:Nat) (d:Option Addr) (e f:Nat) (h:Option Addr) (i j:Nat):Array Value:=#[.int .i64 k,.int .i64 v,.string nm,.bool g,.slice a b c,.slice d e f,.slice h i j]
abbrev tC (k v:Int) (nm:ByteArray) (g:Bool) (a:Option Addr) (b c:Nat) (d:Option Addr) (e f:Nat) (h:Option Addr) (i j:Nat) (k' v':Int) (a1:ByteArray) (g':Bool) (a':Option Addr) (b' c':Nat) (d':Option Addr) (e' f':Nat) (h':Option Addr) (i' j':Nat) (l:Int):Array Value:=#[.int .i64 k,.int .i64 v,.string nm,.bool g,.slice a b c,.slice d e f,.slice h i j,.int .i64 k',.int .i64 v',.string a1,.bool g',.slice a' b' c',.slice d' e' f',.slice h' i' j',.int .i64 l]
abbrev bA (k v:Int) (nm:ByteArray) (g:Bool) (a:Option Addr) (b c:Nat) (d:Option Addr) (e f:Nat) (h:Option Addr) (i j:Nat):Obj:=Obj.cells (tA k v nm g a b c d e f h i j) 48
abbrev bC (k v:Int) (nm:ByteArray) (g:Bool) (a:Option Addr) (b c:Nat) (d:Option Addr) (e f:Nat) (h:Option Addr) (i j:Nat) (k' v':Int) (a1:ByteArray) (g':Bool) (a':Option Addr) (b' c':Nat) (d':Option Addr) (e' f':Nat) (h':Option Addr) (i' j':Nat) (l:Int):Obj:=Obj.cells (tC k v nm g a b c d e f h i j k' v' a1 g' a' b' c' d' e' f' h' i' j' l) 50
abbrev Cz (f:Nat) (l:Array Value) (w:Wo) (Q:Ending→Wo→Prop):Prop:=Calls Tryz.prog f l w Q
def egf {α:Type} {L:List α} (hl:L.length=n) (h:i<n):∃A,L[i]?=some A:=⟨L[i]'(by rw [hl];exact h),cE _⟩
abbrev Bz (a b:Wo):=Below a.heap.size a b
def enm {α:Type} (a:α):∃x,a=x:=⟨_,rfl⟩
def enr {α:Type} (a:α):∃x,x=a:=⟨_,rfl⟩
def ewr (h:i<4611686018427387904):IntKind.i64.wrap ((i:Int)+1)=(i:Int)+1:=by rw [eF];omega
def elt (h:i<n) (hn:n<4611686018427387904):(i:Int)<(n:Int)∧(0:Int)≤(i:Int)∧IntKind.i64.wrap ((i:Int)+1)=(i:Int)+1:=⟨by omega,by omega,ewr (by omega)⟩
def ege {α:Type} {L:List α} (h:i<L.length):∃A,L[i]?=some A:=⟨L[i]'h,cE _⟩
def ebx (w:Wo) (o:Obj):∃b,w.alloc o=b∧Bz w b∧b.heap[w.heap.size]?=some o∧b.heap.size=w.heap.size+1:=⟨_,rfl,aC w o,bY w o,by simp⟩
def zH (a:Option Addr) (len cap n:Nat) (L:List Nat) (a0:L.length=len) (a3:len<4611686018427387904) (a4:len≤cap) (w:Wo) (hn:n≤w.heap.size) (h1:jC n w a L):
  Cz 171 #[.slice a len cap] w fun e w'=>∃k,e= .returned (.slice a k cap)∧nM L k∧Bz w w':=by
 go_enter Tryz.func171,Tryz.ntmps171;go_wp2
 go_loopw [0] (fun s wr=>∃k:Nat,s= .slice a k cap∧k≤len∧(∀x∈L.drop k,x=0)∧Bz w wr) (fun s _=>CU s)
 case atStart=>exact⟨len,rfl,aA _,by rw [←a0,GZ];simp,aK _ _⟩
 case round=>
  obtain⟨k,rfl,hk,hz,hB⟩:=hrel
  by_cases a2:k=0
  ·subst a2;go_wp2
   go_ret
   exact⟨0,rfl,⟨cJ _,hz,.inl rfl⟩,hB⟩
  ·obtain⟨k',rfl⟩:∃k',k=k'+1:=⟨k-1,by omega⟩;obtain⟨x,hx⟩:∃x,L[k']?=some x:=⟨L[k'],cE (by omega)⟩;obtain⟨b,off,rfl,hb,hxl,hc⟩:=(h1.below hB hn).get hx;have b0:IntKind.i64.wrap (k':Int)=k':=OE (by omega);have a1:(k':Int)<(k':Int)+1:=by omega
   have a6:(0:Int)≤(k':Int):=by omega
   have a7:(0:Int)<(k':Int)+1:=by omega
   have a8:(k':Int)≤(cap:Int):=by omega
   have a9:¬(cap:Int)<(k':Int):=by omega
   clear h1 a2
   by_cases h0:x=0
   ·subst h0;go_wp2;refine⟨⟨k',rfl,by omega,fun y hy=>?_,hB⟩,by simp [CU]⟩;rw [qF (by omega)] at hy;rcases cN.1 hy with rfl|hy
    ·exact(aZ.1 hx).2
    ·exact hz y hy
   ·have b1:((x:Int)==0)=false:=by simp;omega
    go_wp2
    go_ret
    exact⟨k'+1,rfl,⟨by omega,hz,.inr ⟨x,by simpa using hx,h0⟩⟩,hB⟩
def vI (a:Option Addr) (len cap n i:Nat) (L:List Nat) (a0:L.length=len) (w:Wo) (h1:jC n w a L):
  Cz 277 #[.slice a len cap,.int .i64 i] w fun e w'=>e= .returned (.int .i64 (dg L i))∧w'=w:=by
 by_cases hi:i<len
 ·obtain⟨b,off,rfl,hb,hxl,hc⟩:=h1.get (uM (L:=L) (i:=i) (by omega));generalize dg L i=x at*;have a1:(i:Int)<(len:Int):=by omega
  have a5:(0:Int)≤(i:Int):=by omega
  clear h1;go_enter Tryz.func277,Tryz.ntmps277;go_wp2
  go_ret
  exact⟨rfl,rfl⟩
 ·rw [BC (by omega)];have a1:¬(i:Int)<(len:Int):=by omega
  clear h1;go_enter Tryz.func277,Tryz.ntmps277;go_wp2
  go_ret
  exact⟨rfl,rfl⟩
def UL (x:Nat) (h:x<65536):bits BinOp.and IntKind.i64 (x:Int) 1=((x%2:Nat):Int):=by
 have h1:(BitVec.ofInt 64 (x:Int)).toNat=x:=by
  rw [oM,oL];omega
 have h2:(BitVec.ofInt 64 (1:Int)).toNat=1:=by decide
 show IntKind.i64.wrap (((BitVec.ofInt 64 (x:Int))&&&BitVec.ofInt 64 (1:Int)).toNat:Int)=_;rw [OA,h1,h2,Qx,eF];omega
def Gp (a:Option Addr) (len cap n:Nat) (L:List Nat) (a0:L.length=len) (w:Wo) (h1:jC n w a L):
  Cz 278 #[.slice a len cap,.int .i64 0] w fun e w'=>e= .returned (.int .i64 ((dg L 0%2:Nat):Int))∧w'=w:=by
 have hd:=vI a len cap n 0 L a0 w h1;have hx:dg L 0<65536:=BB (by decide) h1.1 0;generalize dg L 0=x at*;have ha:=UL x hx;have e0:((0:Nat):Int)=0:=rfl;rw [e0] at hd;clear h1 e0;go_enter Tryz.func278,Tryz.ntmps278
 go_wp2_with (go_at_call 277;refine hd.mono ?_;rintro e w' ⟨rfl,rfl⟩)
 go_ret
 exact⟨by simp,rfl⟩
def jA (x y:Nat):Int:=if x<y then-1 else if y<x then 1 else 0
def Gk (a1 a2:Option Addr) (a0 a3 a4 a5 n1 n2:Nat) (A C:List Nat) (a8:A.length=a0) (a9:C.length=a3) (b6:a0<4611686018427387904) (b7:a3<4611686018427387904) (w:Wo) (h1:jC n1 w a1 A) (h2:jC n2 w a2 C):
  Cz 205 #[.slice a1 a0 a4,.slice a2 a3 a5] w fun e w'=>e= .returned (.int .i64 (jA (val 65536 A) (val 65536 C)))∧w'=w:=by
 rcases Nat.lt_or_ge a0 a3 with h|h
 ·have b1:(a0:Int)<(a3:Int):=by omega
  have b2:a0≤a3:=by omega
  have b3:a3≤a3:=by omega
  have b4:a3<4611686018427387904:=by omega
  have a7:IntKind.i64.wrap ((a3:Int)-1)=(a3:Int)-1:=by rw [eF];omega
  clear h;go_enter Tryz.func205,Tryz.ntmps205;go_wp2
  go_loopw [5] (fun s wr=>∃k:Nat,s= .int .i64 ((k:Int)-1)∧k≤a3∧(∀i,k≤i→i<a3→dg A i=dg C i)∧wr=w) (fun s _=>(intOf s+1).toNat)
  case atStart=>exact⟨a3,by simp [a7],aA _,fun i hi hj=>absurd hj (by omega),rfl⟩
  case round=>
   obtain⟨k,rfl,hk,hz,rfl⟩:=hrel
   by_cases a6:k=0
   ·subst a6;have e0:(((0:Nat):Int)-1)= -1:=by omega
    rw [e0];go_wp2
    go_ret
    refine⟨?_,rfl⟩;have:=OP (B:=65536) (A:=A) (C:=C) (n:=a3) (by omega) (by omega) fun i hi=>hz i (cJ _) hi
    simp [jA,this]
   ·obtain⟨k',rfl⟩:∃k',k=k'+1:=⟨k-1,by omega⟩;have e0:(((k'+1:Nat):Int)-1)=k':=by omega
    rw [e0];have d1:=vI a1 a0 a4 n1 k' A a8 wr h1;have d2:=vI a2 a3 a5 n2 k' C a9 wr h2;have hA:dg A k'<dg C k'→val 65536 A<val 65536 C:=fun h=>CN (by decide) h1.1 (n:=a3) (by omega) (by omega) (show k'<a3 by omega) (fun i hi hj=>hz i (by omega) hj) h
    have hC:dg C k'<dg A k'→val 65536 C<val 65536 A:=fun h=>CN (by decide) h2.1 (n:=a3) (by omega) (by omega) (show k'<a3 by omega) (fun i hi hj=>(hz i (by omega) hj).symm) h
    have hE:dg A k'=dg C k'→∀i,k'≤i→i<a3→dg A i=dg C i:=fun h i hi hj=>by
     rcases Af hi with rfl|hi
     ·exact h
     ·exact hz i hi hj
    generalize dg A k'=x,dg C k'=y at*;have b5:IntKind.i64.wrap ((k':Int)-1)=(k':Int)-1:=by rw [eF];omega
    clear h1 h2 hz;have b0:(0:Int)≤(k':Int):=by omega
    rcases ZZ x y with h|h|h
    ·have hI:(x:Int)<(y:Int):=by omega
     have hv:=hA h;clear hA hC hE
     go_wp2_with first|(go_at_call 277;with_reducible refine d1.mono ?_;rintro e w' ⟨rfl,rfl⟩)|(go_at_call 277;with_reducible refine d2.mono ?_;rintro e w' ⟨rfl,rfl⟩)
     go_ret
     exact⟨by simp [jA,hv],rfl⟩
    ·subst h;have hv:Aside _:=hE rfl;clear hA hC hE
     go_wp2_with first|(go_at_call 277;with_reducible refine d1.mono ?_;rintro e w' ⟨rfl,rfl⟩)|(go_at_call 277;with_reducible refine d2.mono ?_;rintro e w' ⟨rfl,rfl⟩)
     go_roundw
     case rel=>exact⟨k',rfl,by omega,hv.o,trivial⟩
     case measure=>simp [intOf]
    ·have hI:(y:Int)<(x:Int):=by omega
     have hv:=hC h;clear hA hC hE
     go_wp2_with first|(go_at_call 277;with_reducible refine d1.mono ?_;rintro e w' ⟨rfl,rfl⟩)|(go_at_call 277;with_reducible refine d2.mono ?_;rintro e w' ⟨rfl,rfl⟩)
     go_ret
     exact⟨by simp [jA,hv];omega,rfl⟩
 ·have b1:¬(a0:Int)<(a3:Int):=by omega
  have b2:a0≤a0:=by omega
  have b3:a3≤a0:=by omega
  have b4:a0<4611686018427387904:=by omega
  have a7:IntKind.i64.wrap ((a0:Int)-1)=(a0:Int)-1:=by rw [eF];omega
  clear h;go_enter Tryz.func205,Tryz.ntmps205;go_wp2
  go_loopw [5] (fun s wr=>∃k:Nat,s= .int .i64 ((k:Int)-1)∧k≤a0∧(∀i,k≤i→i<a0→dg A i=dg C i)∧wr=w) (fun s _=>(intOf s+1).toNat)
  case atStart=>exact⟨a0,by simp [a7],aA _,fun i hi hj=>absurd hj (by omega),rfl⟩
  case round=>
   obtain⟨k,rfl,hk,hz,rfl⟩:=hrel
   by_cases a6:k=0
   ·subst a6;have e0:(((0:Nat):Int)-1)= -1:=by omega
    rw [e0];go_wp2
    go_ret
    refine⟨?_,rfl⟩;have:=OP (B:=65536) (A:=A) (C:=C) (n:=a0) (by omega) (by omega) fun i hi=>hz i (cJ _) hi
    simp [jA,this]
   ·obtain⟨k',rfl⟩:∃k',k=k'+1:=⟨k-1,by omega⟩;have e0:(((k'+1:Nat):Int)-1)=k':=by omega
    rw [e0];have d1:=vI a1 a0 a4 n1 k' A a8 wr h1;have d2:=vI a2 a3 a5 n2 k' C a9 wr h2;have hA:dg A k'<dg C k'→val 65536 A<val 65536 C:=fun h=>CN (by decide) h1.1 (n:=a0) (by omega) (by omega) (show k'<a0 by omega) (fun i hi hj=>hz i (by omega) hj) h
    have hC:dg C k'<dg A k'→val 65536 C<val 65536 A:=fun h=>CN (by decide) h2.1 (n:=a0) (by omega) (by omega) (show k'<a0 by omega) (fun i hi hj=>(hz i (by omega) hj).symm) h
    have hE:dg A k'=dg C k'→∀i,k'≤i→i<a0→dg A i=dg C i:=fun h i hi hj=>by
     rcases Af hi with rfl|hi
     ·exact h
     ·exact hz i hi hj
    generalize dg A k'=x,dg C k'=y at*;have b5:IntKind.i64.wrap ((k':Int)-1)=(k':Int)-1:=by rw [eF];omega
    clear h1 h2 hz;have b0:(0:Int)≤(k':Int):=by omega
    rcases ZZ x y with h|h|h
    ·have hI:(x:Int)<(y:Int):=by omega
     have hv:=hA h;clear hA hC hE
     go_wp2_with first|(go_at_call 277;with_reducible refine d1.mono ?_;rintro e w' ⟨rfl,rfl⟩)|(go_at_call 277;with_reducible refine d2.mono ?_;rintro e w' ⟨rfl,rfl⟩)
     go_ret
     exact⟨by simp [jA,hv],rfl⟩
    ·subst h;have hv:Aside _:=hE rfl;clear hA hC hE
     go_wp2_with first|(go_at_call 277;with_reducible refine d1.mono ?_;rintro e w' ⟨rfl,rfl⟩)|(go_at_call 277;with_reducible refine d2.mono ?_;rintro e w' ⟨rfl,rfl⟩)
     go_roundw
     case rel=>exact⟨k',rfl,by omega,hv.o,trivial⟩
     case measure=>simp [intOf]
    ·have hI:(y:Int)<(x:Int):=by omega
     have hv:=hC h;clear hA hC hE
     go_wp2_with first|(go_at_call 277;with_reducible refine d1.mono ?_;rintro e w' ⟨rfl,rfl⟩)|(go_at_call 277;with_reducible refine d2.mono ?_;rintro e w' ⟨rfl,rfl⟩)
     go_ret
     exact⟨by simp [jA,hv];omega,rfl⟩
def inf3:(Tryz.prog.info? 3).map (fun i=>(i.zero,i.size,i.bytes))=some (some (.int .i64 0),1,8):=by kernel_rfl
def iv (x:Nat):Value:=.int .i64 x
def gI (base:Nat) (w:Wo) (sv:Value) (D:List Nat):Prop:=w.ownsRow base 3 1 sv D.length (D.map iv)
def gI.kept (h:gI base w sv D) (hk:∀k,base≤k→k<w.heap.size→w'.heap[k]?=w.heap[k]?):gI base w' sv D:=by
 obtain⟨h1,h2|⟨g,cap,cur,e1,hb,hg,h3⟩⟩:=h
 ·exact⟨h1,.inl h2⟩
 ·exact⟨h1,.inr ⟨g,cap,cur,e1,hb,(hk g hb (cV.1 hg).1).trans hg,h3⟩⟩
def gI.below (h:gI base w sv D) (hb:Below m w w') (hm:w.heap.size≤m):gI base w' sv D:=
 h.kept fun k _ hk=>hb.block k (by omega)
def gI.nil (base:Nat) (w:Wo):gI base w (.slice none 0 0) []:=qD _ _ _ _
def gI.at (h:gI base w sv D) (hd:∀x∈D,x<65536):∃a c,sv= .slice a D.length c∧D.length≤c∧c≤maxLen∧jC w.heap.size w a D:=by
 obtain⟨h1,⟨e,h0⟩|⟨g,cap,cur,e1,hb,hg,hnc,hm,hs,ht⟩⟩:=h
 ·have:D= []:=mE h0;subst this;exact⟨none,0,e,aA _,cJ _,hd,fun h=>absurd rfl h⟩
 ·refine⟨some ⟨g,0,none⟩,cap,e1,hnc,hm,hd,fun _=>⟨g,0,rfl,(cV.1 hg).1,fun j x hx=>?_⟩⟩;have hj:=(aZ.1 hx).1;have h2:cur[j]?=some (iv x):=by
   rw [←kE,←jN (show j<D.length*1 by omega),ht,jO,hx];rfl
  simpa [World.cell?,hg,iv] using h2
def gI.own (h:gI base w sv D):∀k,sv.ownBlock=some k→base≤k∧k<w.heap.size:=lX h
def sK (w:Wo) (vs:Lv) (e:TypeId) (fr:Nat × Nat):∀(j:Nat) u,vs[j]?=some u→(w.alloc (Obj.cells vs.toArray e fr)).cell? ⟨w.heap.size,j,none⟩=some u:=by
 intro j u hj;have h:=bY w (Obj.cells vs.toArray e fr);unfold World.cell?;rw [h];simpa using hj
def wV {ops:Array Oper} {rest:List Oper} {o:Oper} {a:Act} {Q:Exit→Act→Wo→Prop} (w:Wo) (c3:o.guard=none) (s x:Operand)
  (ho:o.op= .call { callee:=.builtin .append,args:=#[s,x],argTypes:=#[183,183] }) (base:Nat) (sv:Value) (D xs:List Nat) (m:Nat) (hm:xs.length=m) (hs:a.eval s=sv) (g c:Nat) (hx:a.eval x= .slice (some ⟨g,0,none⟩) m c)
  (hc:∀(j:Nat) u,(xs.map iv)[j]?=some u→w.cell? ⟨g,j,none⟩=some u) (hR:gI base w sv D) (c5:D.length+m≤17592186044416) (a5:base≤w.heap.size)
  (h:∀v' w',gI base w' v' (D++xs)→Below base w w'→wpList Tryz.prog ops Q rest (a.put o.dst v') w'):wpList Tryz.prog ops Q (o::rest) a w:=by
 obtain⟨i0,hi0,hz0,hz1,hz2⟩:=pI inf3;refine ZH w c3 s x 183 ho base 3 i0 (.int .i64 0) 1 8 Tryz.underlying183 hi0 hz0 hz1 hz2 rfl (by decide) sv D.length (D.map iv) hs hR ⟨g,0,none⟩ m c (xs.map iv) hx (by simp [hm]) (fun j u hj=>?_) ?_ (by unfold maxLen;omega) (by omega) a5 ?_
 ·rw [qH,dH];exact hc j u hj
 ·intro u hu;obtain⟨y,_,rfl⟩:=gF.1 hu;rfl
 ·intro v' w' h1 h2 h3;refine h v' w' ?_ ((aK _ w).grown h2 a5 fun k hk=>(gI.own hR k hk).1);unfold gI;rw [aV,pM,hm];exact h1
def Ew (a1 a2:Option Addr) (a0 a6 b0 a7 n1 n2:Nat) (A C:List Nat) (d6:A.length=a0) (c4:C.length=a6) (d2:a0≤1048576) (w:Wo) (c6:n1≤w.heap.size) (c7:n2≤w.heap.size) (h1:jC n1 w a1 A) (h2:jC n2 w a2 C):
  Cz 236 #[.slice a1 a0 b0,.slice a2 a6 a7] w fun e w'=>∃D b a k c,Subs 65536 A C D a0 b∧nM D k∧k≤c∧c≤maxLen∧e= .returned (.slice a k c)∧jC w'.heap.size w' a D∧Bz w w':=by
 go_enter Tryz.func236,Tryz.ntmps236;go_wp2
 go_loopw [5,6,11] (fun s5 s6 d0 wr=>∃(i b:Nat) (D:List Nat),d0= .int .i64 i∧s6= .int .i64 b∧i≤a0∧Subs 65536 A C D i b∧gI w.heap.size wr s5 D∧Bz w wr) (fun _ _ s _=>a0-(intOf s).toNat)
 case atStart=>exact⟨0,0,[],rfl,rfl,cJ _,Subs.start _ _ _,gI.nil _ _,aK _ _⟩
 case round=>
  obtain⟨i,b,D,rfl,rfl,hi,hS,hR,hB⟩:=hrel
  by_cases d7:i<a0
  ·have hx:=uM (L:=A) (i:=i) (by omega);obtain⟨b1,o1,rfl,hbn,hxl,hc⟩:=(h1.below hB c6).get hx;have hd:∀q,_:=fun q=>vI a2 a6 a7 n2 i C c4 (wr.drewN q) (h2.below (GD hB q) c7)
   have e0:dg C i<65536:=BB (by decide) h2.1 i;have c0:=fun d b' (h3:d<65536) (h4:b'≤1) (h5:dg A i+b'*65536=d+dg C i+b)=>hS.step h3 h4 h5
   have d3:=hS.bor;have a8:=hS.len;have d1:=hS.dig;clear h1 h2 hS hx;generalize dg A i=x,dg C i=y at*;have d4:(i:Int)<(a0:Int):=by omega
   have d5:(0:Int)≤(i:Int):=by omega
   have d8:IntKind.i64.wrap ((x:Int)-(y:Int))=(x:Int)-(y:Int):=by rw [eF];omega
   have c9:IntKind.i64.wrap ((x:Int)-(y:Int)-(b:Int))=(x:Int)-(y:Int)-(b:Int):=by rw [eF];omega
   have d9:=ewr (i:=i) (by omega);go_wp2
   go_quiet (exact Calls.quiet_of_same (hd _))
   by_cases b6:(x:Int)-(y:Int)-(b:Int)<0
   ·obtain⟨d,hd0⟩:∃d:Nat,d=x+65536-(y+b):=⟨_,rfl⟩;have c1:IntKind.i64.wrap ((x:Int)-(y:Int)-(b:Int)+65536)=(d:Int):=by rw [eF];omega
    have b3:Subs 65536 A C (D++ [d]) (i+1) 1:=c0 d 1 (by omega) (by omega) (by omega);clear hd0;have ho:gI w.heap.size ((wr.drewN nq).alloc (Obj.cells #[iv d] 3)) u5 D:=hR.below ((GD (aK _ wr) nq).trans (aC _ _)) (aA _);have b7:=sK (wr.drewN nq) [iv d] 3 (0,0);have b8:=hB.size;have b4:D.length+1≤17592186044416:=by omega
    have b5:w.heap.size≤((wr.drewN nq).alloc (Obj.cells #[iv d] 3)).heap.size:=by simp;omega
    have b2:Bz w ((wr.drewN nq).alloc (Obj.cells #[iv d] 3)):=(GD hB nq).alloc (by simpa using b8) _;have c2:=aside a8;clear a8
    go_wp2_with (at_builtin;refine wV _ rfl _ _ rfl w.heap.size _ D [d] 1 rfl rfl wr.heap.size 1 rfl b7 ho b4 b5 ?_;intro v' w3 a4 a3)
    go_roundw
    case rel=>exact⟨i+1,1,D++ [d],by simp,rfl,by omega,b3,a4,b2.trans a3⟩
    case measure=>simp [intOf];omega
   ·obtain⟨d,hd0⟩:∃d:Nat,d=x-(y+b):=⟨_,rfl⟩;have c1:(x:Int)-(y:Int)-(b:Int)=(d:Int):=by omega
    have b3:Subs 65536 A C (D++ [d]) (i+1) 0:=c0 d 0 (by omega) (by omega) (by omega);have b9:¬(d:Int)<0:=by omega
    clear hd0;rw [c1] at c9 b6;have ho:gI w.heap.size ((wr.drewN nq).alloc (Obj.cells #[iv d] 3)) u5 D:=hR.below ((GD (aK _ wr) nq).trans (aC _ _)) (aA _);have b7:=sK (wr.drewN nq) [iv d] 3 (0,0);have b8:=hB.size;have b4:D.length+1≤17592186044416:=by omega
    have b5:w.heap.size≤((wr.drewN nq).alloc (Obj.cells #[iv d] 3)).heap.size:=by simp;omega
    have b2:Bz w ((wr.drewN nq).alloc (Obj.cells #[iv d] 3)):=(GD hB nq).alloc (by simpa using b8) _;have c2:=aside a8;clear a8
    go_wp2_with (at_builtin;refine wV _ rfl _ _ rfl w.heap.size _ D [d] 1 rfl rfl wr.heap.size 1 rfl b7 ho b4 b5 ?_;intro v' w3 a4 a3)
    go_roundw
    case rel=>exact⟨i+1,0,D++ [d],by simp,rfl,by omega,b3,a4,b2.trans a3⟩
    case measure=>simp [intOf];omega
  ·obtain rfl:i=a0:=by omega
   obtain⟨a,c,rfl,hDc,hcm,hat⟩:=hR.at hS.dig;have a9:=hS.len;rw [a9] at hDc ⊢;have c8:=zH a i c wr.heap.size D a9 (by omega) hDc wr (aA _) hat;have hA:=aside a9;clear a9
   go_wp2_with (go_at_call 171;with_reducible refine c8.mono ?_;rintro e w' ⟨k,rfl,hT,hb2⟩)
   go_ret
   exact⟨D,b,a,k,c,hS,hT,by have:=hT.1;have:=hA.o;omega,hcm,rfl,(hat.below hb2 (aA _)).up hb2.size,hB.trans (hb2.mono hB.size)⟩
def dL (n:Nat) (w:Wo) (a:Option Addr) (L:List Nat):Prop:=
 (∀x∈L,x<4294967296)∧(L≠ []→∃b off,a=some ⟨b,off,none⟩∧b<n∧∀(j x:Nat),L[j]?=some x→w.cell? ⟨b,off+j,none⟩=some (.int .u32 x))
def dL.below (h:dL n w a L) (hb:Below m w w') (hm:n≤m):dL n w' a L:=by
 refine⟨h.1,fun a3=>?_⟩;obtain⟨b,off,e,hbn,hc⟩:=h.2 a3;exact⟨b,off,e,hbn,fun j x hx=>((hb.mono hm).cell (p:=⟨b,off+j,none⟩) hbn).trans (hc j x hx)⟩
def dL.get (h:dL n w a L) (hx:L[k]?=some x):∃b off,a=some ⟨b,off,none⟩∧b<n∧x<4294967296∧w.cell? ⟨b,off+k,none⟩=some (.int .u32 x):=by
 have a3:L≠ []:=by intro e;subst e;simp at hx
 obtain⟨b,off,e,hb,hc⟩:=h.2 a3;exact⟨b,off,e,hb,h.1 x (bV hx),hc k x hx⟩
def cM (n:Nat) (w:Wo) (r:Value) (v:Nat):Prop:=∃a L c,r= .slice a L.length c∧L.length≤c∧c≤maxLen∧jC n w a L∧NoZ L∧val 65536 L=v
def cM.below (h:cM n w r v) (hb:Below m w w') (hm:n≤m):cM n w' r v:=by
 obtain⟨a,L,c,h1,h2,h3,h4,h5⟩:=h;exact⟨a,L,c,h1,h2,h3,h4.below hb hm,h5⟩
def cM.up (h:cM n w r v) (hm:n≤m):cM m w r v:=by
 obtain⟨a,L,c,h1,h2,h3,h4,h5⟩:=h;exact⟨a,L,c,h1,h2,h3,h4.up hm,h5⟩
def NoZ.len_of (h:NoZ L) (hv:val 65536 L<65536^M):L.length≤M:=by
 by_cases a3:L= []
 ·subst a3;simp
 ·have h1:=h.pos (B:=65536) (by decide) a3;have:=(CD (show 1<65536 by decide)).1 (iV h1 hv);omega
def cM.of_trim (hT:nM D k) (b4:k≤c) (a8:c≤maxLen) (a6:jC w'.heap.size w' a D) (hv:val 65536 D=v):cM w'.heap.size w' (.slice a k c) v:=by
 have hl:(D.take k).length=k:=by rw [bT];have:=hT.1;omega
 exact⟨a,D.take k,c,by rw [hl],by rw [hl];exact b4,a8,a6.take k,hT.noz,by rw [hT.val];exact hv⟩
def mW (L:List Nat):List Nat:=L.flatMap fun x=>[x%65536,x/65536]
def zD (L:List Nat):(mW L).length=2*L.length:=by
 induction L with
 |nil=>rfl
 |cons x L ih=>simp only [mW,List.flatMap_cons,aV,jD,pN] at ih ⊢;omega
def zC:∀L:List Nat,val 65536 (mW L)=val 4294967296 L
 | []=>rfl
 |x::L=>by
  have ih:=zC L;have e:mW (x::L)=x%65536::x/65536::mW L:=rfl;rw [e,val,val,val,ih];omega
def CP (h:∀x∈L,x<4294967296):∀d∈mW L,d<65536:=by
 intro d hd;obtain⟨x,hx,hd⟩:=List.mem_flatMap.1 hd;have:=h x hx;simp at hd;omega
def Ce (h:L[i]?=some x):mW (L.take (i+1))=mW (L.take i)++ [x%65536,x/65536]:=by
 rw [mA,h];simp [mW]
def Cd (x:Nat) (h:x<4294967296):bits BinOp.and IntKind.u32 (x:Int) 65535=((x%65536:Nat):Int):=by
 have h1:(BitVec.ofInt 32 (x:Int)).toNat=x:=by
  rw [oM,oL];omega
 have h2:(BitVec.ofInt 32 (65535:Int)).toNat=2^16-1:=by decide
 show IntKind.u32.wrap (((BitVec.ofInt 32 (x:Int))&&&BitVec.ofInt 32 (65535:Int)).toNat:Int)=_;rw [OA,h1,h2,Qw];simp [IntKind.wrap,IntKind.bits,IntKind.signed];omega
def DE (a1:Option Addr) (a0 a7 n1:Nat) (A:List Nat) (b5:A.length=a0) (c1:a0≤1048576) (w:Wo) (b6:n1≤w.heap.size) (h1:dL n1 w a1 A):
  Cz 204 #[.slice a1 a0 a7] w fun e w'=>∃r,e= .returned r∧cM w'.heap.size w' r (val 4294967296 A)∧Bz w w':=by
 go_enter Tryz.func204,Tryz.ntmps204;go_wp2
 go_loopw [3,8] (fun s3 s8 wr=>∃(i:Nat),s8= .int .i64 i∧i≤a0∧gI w.heap.size wr s3 (mW (A.take i))∧Bz w wr) (fun _ s _=>a0-(intOf s).toNat)
 case atStart=>exact⟨0,rfl,cJ _,gI.nil _ _,aK _ _⟩
 case round=>
  obtain⟨i,rfl,hi,hR,hB⟩:=hrel
  by_cases c3:i<a0
  ·obtain⟨x,hx⟩:∃x,A[i]?=some x:=⟨A[i],cE (by omega)⟩;obtain⟨b1,o1,rfl,hbn,hxl,hc⟩:=(h1.below hB b6).get hx;have a9:=Ce hx;have b9:(mW (A.take i)).length=2*i:=by rw [zD,bT];omega
   clear h1 hx;obtain⟨p,hp⟩:=enm (x%65536);obtain⟨q,hq⟩:=enm (x/65536);have ha:=Cd x hxl;rw [hp] at ha;rw [hp,hq] at a9;generalize mW (A.take i)=T at*;have Atk:=aside a9;clear a9;obtain⟨c2,hi3,hw3⟩:=elt (i:=i) (n:=a0) (by omega) (by omega);have c4:(x:Int)/65536=(q:Int):=by omega
   have c5:IntKind.i64.wrap (p:Int)=(p:Int):=by rw [eF];omega
   have c6:IntKind.i64.wrap (q:Int)=(q:Int):=by rw [eF];omega
   clear hp hq;have ho:gI w.heap.size (wr.alloc (Obj.cells #[iv p,iv q] 3)) u3 T:=hR.below (aC _ _) (aA _);have b7:=sK wr [iv p,iv q] 3 (0,0);have b8:=hB.size;have b2:T.length+2≤17592186044416:=by omega
   have b3:w.heap.size≤(wr.alloc (Obj.cells #[iv p,iv q] 3)).heap.size:=by simp;omega
   have b0:Bz w (wr.alloc (Obj.cells #[iv p,iv q] 3)):=hB.alloc b8 _;clear b9
   go_wp2_with (at_builtin;refine wV _ rfl _ _ rfl w.heap.size _ T [p,q] 2 rfl rfl wr.heap.size 2 rfl b7 ho b2 b3 ?_;intro v' w3 a5 a2)
   go_roundw
   case rel=>exact⟨i+1,by simp,by omega,by rw [Atk.o];exact a5,b0.trans a2⟩
   case measure=>simp [intOf];omega
  ·obtain rfl:i=a0:=by omega
   rw [iW (by omega)] at hR;have hd:=CP h1.1;obtain⟨a,c,rfl,hDc,a8,a6⟩:=hR.at hd;have a4:(mW A).length=2*i:=by rw [zD,b5]
   have hv:=zC A;generalize mW A=D at*;rw [a4] at hDc ⊢;obtain⟨m,hm⟩:=enm (2*i);rw [hm] at a4 hDc ⊢;have c0:=zH a m c wr.heap.size D a4 (by omega) hDc wr (aA _) a6;have hA:=aside a4;clear a4 hm
   go_wp2_with (go_at_call 171;with_reducible refine c0.mono ?_;rintro e w' ⟨k,rfl,hT,hb2⟩)
   go_ret
   exact⟨_,rfl,cM.of_trim hT (by have:=hT.1;have:=hA.o;omega) a8 ((a6.below hb2 (aA _)).up hb2.size) hv,hB.trans (hb2.mono hB.size)⟩
