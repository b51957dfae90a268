/- Lemmas for the text Card; no condition. -/
import Derived.Test.YtbdpdeonapmlgaaGreatDoorBe
set_option linter.all false
namespace Go.Ev
variable {ops l:List Oper} {bef tl:List Nat} {p:Nat × Oper→Bool} {o:Oper} {i n t s T:Nat} {e:Env} {a:Act} {v:V}
section
variable {P:Program} {m:Mp} {w:World}
theorem uW:∀(l:List Nat) (i:Nat),natAt l i=(l[i]?).getD 0
 | [],_=>by simp [natAt]
 |a::_,0=>by simp [natAt]
 |_::l,i+1=>by simp [natAt,uW l i]
theorem BM:∀(l:List Oper) (k:Nat) (x:Nat × Oper),x∈iU k l↔∃i,l[i]?=some x.2∧x.1=k+i
 | [],k,x=>by simp [iU]
 | o::l,k,x=>by
  simp only [iU,cD,BM l (k+1) x];constructor
  ·rintro(rfl|⟨i,h1,h2⟩)
   ·exact⟨0,rfl,rfl⟩
   ·exact⟨i+1,by simpa using h1,by omega⟩
  ·rintro⟨i,h1,h2⟩;cases i with
   |zero=>left;obtain⟨x1,x2⟩:=x;simp at h1 h2;simp [h1,h2]
   |succ i=>right;exact⟨i,by simpa using h1,by omega⟩
theorem rP (h:(iU 0 l).all p=true) {i:Nat} {o:Oper} (ho:l[i]?=some o):p (i,o)=true:=
 (jM.1 h) (i,o) ((BM l 0 (i,o)).2 ⟨i,ho,by simp⟩)
theorem SZ (h:(iU 0 l).any p=false) {i:Nat} {o:Oper} (ho:l[i]?=some o):p (i,o)=false:=by
 have:=List.any_eq_false.1 h (i,o) ((BM l 0 (i,o)).2 ⟨i,ho,by simp⟩);simpa using this
theorem yP (n:Nat):∀l:List Nat,nK n l=true↔n∈l
 | []=>by simp [nK]
 | a::l=>by
  rw [nK];cases h:Nat.beq a n with
  |true=>have:=aV h;simp [this]
  |false=>
   have:a≠n:=RQ h;simp [yP n l,eH this]
theorem lP {α:Type} (p:α→Bool):∀(l:List α) (x:α),x∈fS p l↔x∈l∧p x=true
 | [],x=>by simp [fS]
 | a::l,x=>by
  rw [fS];cases h:p a with
  | true=>
   simp only [cN,cD,lP p l x];constructor
   ·rintro(rfl|⟨h1,h2⟩)
    ·exact⟨.inl rfl,h⟩
    ·exact⟨.inr h1,h2⟩
   ·rintro⟨rfl|h1,h2⟩
    ·exact .inl rfl
    ·exact .inr ⟨h1,h2⟩
  | false=>
   simp only [jZ,cD,lP p l x];constructor
   ·rintro⟨h1,h2⟩;exact⟨.inr h1,h2⟩
   ·rintro⟨rfl|h1,h2⟩
    ·rw [h] at h2;cases h2
    ·exact⟨h1,h2⟩
theorem zC {α:Type} {r:α→α→Prop} (p:α→Bool):∀{l:List α},l.Pairwise r→(fS p l).Pairwise r
 | [],_=>by simp [fS]
 | a::l,h=>by
  rw [fS];have h1:=List.pairwise_cons.1 h;cases hp:p a with
  |true=>
   simp only [cN];exact List.pairwise_cons.2 ⟨fun y hy=>h1.1 y ((lP p l y).1 hy).1,zC p h1.2⟩
  |false=>simp only [jZ];exact zC p h1.2
theorem DO (a0:List Nat) (j:Nat):∀l:List Edge,Nat.testBit (nM a0 l) j=true↔∃e∈l,gO e=true∧(j=e.on∨Nat.testBit (natAt a0 e.on) j=true)
 | []=>by simp [nM]
 | e ::l=>by
  rw [nM];cases h:gO e with
  | true=>
   simp only [cN,Nat.testBit_or,gJ,DO a0 j l,cD,Nat.one_shiftLeft,Fz,eO];constructor
   ·rintro(h1|h1|⟨e',h1,h2⟩)
    ·exact⟨e,.inl rfl,h,.inl h1.symm⟩
    ·exact⟨e,.inl rfl,h,.inr h1⟩
    ·exact⟨e',.inr h1,h2⟩
   ·rintro⟨e',rfl|h1,h2,h3⟩
    ·rcases h3 with h3|h3
     ·exact .inl h3.symm
     ·exact .inr (.inl h3)
    ·exact .inr (.inr ⟨e',h1,h2,h3⟩)
  | false=>
   simp only [jZ,DO a0 j l,cD];constructor
   ·rintro⟨e',h1,h2⟩;exact⟨e',.inr h1,h2⟩
   ·rintro⟨e',rfl|h1,h2,h3⟩
    ·rw [h] at h2;cases h2
    ·exact⟨e',h1,h2,h3⟩
theorem QJ:∀(l:List Oper) (a0:List Nat),(∃s,aH a0 l=a0++s)∧
  ∀i o,l[i]?=some o→natAt (aH a0 l) (a0.length+i)=nM ((aH a0 l).take (a0.length+i)) o.after.toList
 | [],a0=>⟨⟨[],by simp [aH]⟩,fun i o h=>by simp at h⟩
 | o::l,a0=>by
  obtain⟨⟨s,hs⟩,ih⟩:=QJ l (a0++ [nM a0 o.after.toList]);refine⟨⟨nM a0 o.after.toList::s,by rw [aH,hs];simp⟩,?_⟩;intro i o' h;rw [aH];cases i with
  |zero=>
   simp at h;subst h;rw [hs,uW];simp
  |succ i=>
   have:=ih i o' (by simpa using h);simp only [aK,rI] at this;rw [show a0.length+(i+1)=a0.length+1+i by omega];exact this
theorem QI (a2:rA ops=true) {i:Nat} {o:Oper} (ho:ops[i]?=some o) (j:Nat):
  Nat.testBit (natAt (aH [] ops) i) j=true↔∃e∈o.after.toList,gO e=true∧(j=e.on∨Nat.testBit (natAt (aH [] ops) e.on) j=true):=by
 have h:=(QJ ops []).2 i o ho;simp only [rJ,cG] at h;rw [h,DO];have hk:=jM.1 (rP a2 ho);have key:∀e∈o.after.toList,gO e=true→natAt ((aH [] ops).take i) e.on=natAt (aH [] ops) e.on:=by
  intro e he hb;have:=hk e he;simp only [hb,rM,nA] at this;have a4:e.on<i:=cK this;rw [uW,uW,HC,if_pos a4]
 constructor
 ·rintro⟨e,h1,h2,h3⟩;exact⟨e,h1,h2,by rwa [key e h1 h2] at h3⟩
 ·rintro⟨e,h1,h2,h3⟩;exact⟨e,h1,h2,by rwa [key e h1 h2]⟩
theorem Ep (h:ops[i]?=none):natAt (aH [] ops) i=0:=by
 have hl:∀(l:List Oper) (a0:List Nat),(aH a0 l).length=a0.length+l.length:=by
  intro l
  induction l with
  |nil=>intro a0;simp [aH]
  |cons o l ih=>intro a0;rw [aH,ih];simp;omega
 rw [uW,rL]
 ·rfl
 ·rw [hl];simpa using h
theorem Eq (a2:rA ops=true) {S:Nat→Prop} (hS:∀i o,ops[i]?=some o→S i→∀e∈o.after.toList,gO e=true→S e.on):
  ∀(i j:Nat),S i→Nat.testBit (natAt (aH [] ops) i) j=true→S j:=by
 intro i
 induction i using Nat.strongRecOn with
 | _ i ih=>
  intro j hi hb;cases ho:ops[i]? with
  |none=>rw [Ep ho] at hb;simp at hb
  |some o=>
   obtain⟨e,he,hbe,hj⟩:=(QI a2 ho j).1 hb;have hk:=jM.1 (rP a2 ho) e he;simp only [hbe,rM,nA] at hk;have a4:e.on<i:=cK hk;have a5:=hS i o ho hi e he hbe;rcases hj with rfl|hj
   ·exact a5
   ·exact ih e.on a4 j a5 hj
theorem FT (a2:rA ops=true) {S:Nat→Prop} (hS:∀i o,ops[i]?=some o→S i→∀e∈o.after.toList,gO e=true→S e.on) {i:Nat} {o:Oper} (ho:ops[i]?=some o)
  (hr:∀e∈o.after.toList,gO e=true→S e.on) {j:Nat} (hb:Nat.testBit (natAt (aH [] ops) i) j=true):S j:=by
 obtain⟨e,he,hbe,hj⟩:=(QI a2 ho j).1 hb;rcases hj with rfl|hj
 ·exact hr e he hbe
 ·exact Eq a2 hS e.on j (hr e he hbe) hj
theorem nL (p:Nat→Bool) (i:Id) (mem:Mem):∀pn:List PN,(∀x∈pn,p x.idx=true→x.id≠i)→aB i (dH p pn mem)=aB i mem
 | [],_=>rfl
 | x::l,h=>by
  rw [dH];have ih:=nL p i mem l (fun y hy=>h y (by simp [hy]));cases hp:p x.idx with
  |true=>
   simp only [cN];rw [eM (eH (h x (by simp) hp))];exact ih
  |false=>simpa using ih
theorem kT (p:Nat→Bool) (mem:Mem):∀pn:List PN,pn.Pairwise (fun x y=>x.id≠y.id)→∀x∈pn,p x.idx=true→aB x.id (dH p pn mem)=some x.ob
 | [],_,x,hx,_=>by simp at hx
 | y::l,hd,x,hx,hp=>by
  have h1:=List.pairwise_cons.1 hd;rw [dH];rcases cD.1 hx with rfl|hx
  ·rw [hp];simp [fR]
  ·have ih:=kT p mem l h1.2 x hx hp;have a7:x.id≠y.id:=eH (h1.1 x hx);cases hpy:p y.idx with
   |true=>simp only [cN];rw [eM a7];exact ih
   |false=>simpa using ih
theorem DN {p q:Nat→Bool} (mem:Mem):∀pn:List PN,(∀x∈pn,p x.idx=q x.idx)→dH p pn mem=dH q pn mem
 | [],_=>rfl
 |x::l,h=>by
  rw [dH,dH,h x (by simp),DN mem l (fun y hy=>h y (by simp [hy]))]
theorem sF (p:Nat→Bool) (mem:Mem) (pn:List PN) (hd:pn.Pairwise (fun x y=>x.id≠y.id)) (i:Id) (ob:O) (h:aB i (dH p pn mem)=some ob):
  (∃x∈pn,p x.idx=true∧x.id=i∧x.ob=ob)∨((∀x∈pn,p x.idx=true→x.id≠i)∧aB i mem=some ob):=by
 by_cases hx:∃x∈pn,p x.idx=true∧x.id=i
 ·obtain⟨x,h1,h2,rfl⟩:=hx;rw [kT p mem pn hd x h1 h2] at h;exact .inl ⟨x,h1,h2,rfl,aJ h⟩
 ·have a3:∀x∈pn,p x.idx=true→x.id≠i:=fun x h1 h2 h3=>hx ⟨x,h1,h2,h3⟩
  rw [nL p i mem pn a3] at h;exact .inr ⟨a3,h⟩
theorem Bz (t:Nat):bN t BS= .top:=by
 unfold bN BS N8.all;cases dg (t/64)<;>cases dg (t/8%8)<;>cases dg (t%8)<;>rfl
theorem OF (e:Env):∀l:List Nat,(∀t∈l,t<511)→bN fG (bW e l)=bN fG e
 | [],_=>by rw [bW,sR]
 |t::l,h=>by
  have ht:=h t (by simp);rw [bW,pG (by decide) (by omega) (by show 511≠t;omega)];exact OF e l (fun x hx=>h x (by simp [hx]))
theorem OG (e:Env) (t:Nat) (ht:t<511):∀l:List Nat,(∀t∈l,t<511)→bN t (bW e l)=if t∈l then bN t e else .top
 | [],_=>by
  rw [bW,pG (by omega) (by decide) (by show t≠511;omega)];simp [Bz]
 | x::l,h=>by
  have hx:=h x (by simp);rw [bW]
  by_cases e1:t=x
  ·subst e1;rw [sR];simp
  ·rw [pG (by omega) (by omega) e1,OG e t ht l (fun y hy=>h y (by simp [hy]))];simp [e1]
theorem AB {e e':Env} (hd:bN fG e=bN fG e'):∀l:List Nat,(∀t∈l,bN t e=bN t e')→bW e l=bW e' l
 | [],_=>by rw [bW,bW,hd]
 |t::l,h=>by rw [bW,bW,h t (by simp),AB hd l (fun x hx=>h x (by simp [hx]))]
theorem envM_R (hs:a.tmps.size=n) (hn:n≤511) (hd:∃l,bN fG e= .tup l∧DfrR m l a.defers) (l:List Nat) (hl:∀t∈l,t<n) (hR:∀t∈l,R m (bN t e) (a.tmps.getD t undef)):bD m n (bW e l) a:=by
 refine⟨hs,hn,fun t ht=>?_,?_⟩
 ·rw [OG e t (by omega) l (fun x hx=>by have:=hl x hx;omega)];split
  ·rename_i h;exact hR t h
  ·simp [R]
 ·rw [OF e l (fun x hx=>by have:=hl x hx;omega)];exact hd
theorem vB {ops:Array Oper} (a1:eX P n ops=true) {i:Nat} {o:Oper} (ho:ops[i]?=some o):∀t∈cE ops.toList o,t<n:=by
 intro t ht;obtain⟨h1,h2⟩:=iK a1 ho;simp only [cE,bX] at ht;rcases ht with ht|ht
 ·simp only [II,List.mem_filterMap] at ht;obtain⟨x,hx,hxt⟩:=ht;have:=(jM.1 h1) x hx;cases x with
  |tmp t'=>simp at hxt;subst hxt;simpa [cO] using this
  |_=>simp at hxt
 ·simp only [gDst] at ht;cases hg:o.guard with
  |none=>rw [hg] at ht;simp at ht
  | some jw=>
   obtain⟨j,want⟩:=jw;rw [hg] at ht;simp only [jR,gQ,Option.mem_toList] at ht;cases hj:ops[j]? with
   |none=>rw [hj] at ht;simp at ht
   |some oj=>
    rw [hj] at ht;exact fM (iK a1 hj).2 (by simpa using ht)
theorem zR {ops:Array Oper} (a1:eX P n ops=true) (k:bD m n e a) {o:Oper} {b:Bool} (h:gdC ops.toList o e=some b):Region.wanted o (yielded ops a.tmps)=b:=by
 unfold gdC at h;cases hgd:o.guard with
 |none=>rw [hgd] at h;simp at h;subst h;simp [Region.wanted,hgd]
 | some jw=>
  obtain⟨j,want⟩:=jw;rw [hgd] at h;simp only [jR,gQ] at h;cases hj:(ops[j]?).bind (·.dst) with
  |none=>rw [hj] at h;cases h
  | some g=>
   rw [hj] at h;simp only at h;have a4:g<n:=by
    cases ho:ops[j]? with
    |none=>rw [ho] at hj;cases hj
    |some oj=>rw [ho] at hj;exact fM (iK a1 ho).2 (by simpa using hj)
   obtain⟨g1,g2⟩:=MV a1 hj k.size (k.val g a4) want;have a6:Region.wanted o (yielded ops a.tmps)=(yielded ops a.tmps j==some want):=by simp [Region.wanted,hgd]
   split at h
   ·rename_i b' hb;rw [a6,g1 b' hb];exact aJ h
   ·rename_i hb;rw [a6,g2 hb];exact aJ h
   ·cases h
end
section
variable {P:Program} {m:Mp} {w:World}
def Sb (listed:Array Bool) (j:Nat):Bool:=listed.getD j false
theorem Sb_set {listed:Array Bool} (hi:i<listed.size) (j:Nat):Sb (listed.setIfInBounds i true) j=(decide (j=i)||Sb listed j):=by
 unfold Sb
 by_cases e:j=i
 ·subst e;simp [hi]
 ·simp [nB,lG,eH e,e]
theorem QB (e:Edge):Region.binds .any e=gO e:=by
 unfold Region.binds gO;cases e.ground<;>rfl
theorem IF {d:Nat}:xC ops d o=true↔d∈cE ops o∨o.dst=some d:=by
 unfold xC dstIs;rw [gJ,yP];cases h:o.dst with
 |none=>simp
 | some d'=>
  simp only [cB];constructor
  ·rintro(h1|h1)
   ·exact .inl h1
   ·exact .inr (aV h1)
  ·rintro(h1|h1)
   ·exact .inl h1
   ·exact .inr (by subst h1;exact SB _)
theorem zA (h:sK ops bef i o=false) {d:Nat} (hd:o.dst=some d):
  d∉cE ops o∧∀j oj,ops[j]?=some oj→j≠i→(d∈cE ops oj∨oj.dst=some d)→Nat.testBit (natAt bef j) i=true:=by
 unfold sK at h;rw [hd] at h;simp only [Hf] at h;refine⟨fun hm=>by rw [(yP _ _).2 hm] at h;exact absurd h.1 (by simp),?_⟩;intro j oj hj a6 ht;have:=SZ h.2 hj;simp only [IF.2 ht,Bool.true_and,Hg,Bool.not_eq_false'] at this;rcases this with h1|h1
 ·exact absurd (aV h1) a6
 ·exact h1
theorem zB (h:fL ops bef i o≠ .heavy):sK ops bef i o=false:=by
 unfold fL at h;cases hl:sK ops bef i o with
 |false=>rfl
 |true=>rw [hl] at h;exact absurd rfl h
theorem XG (h:mE ops bef=true) {i:Nat} {o:Oper} (ho:ops[i]?=some o) {d:Nat} (hd:o.dst=some d) {j:Nat} {oj:Oper} (hj:ops[j]?=some oj) (a6:j≠i)
  (ht:d∈cE ops oj∨oj.dst=some d):Nat.testBit (natAt bef j) i=true∨Nat.testBit (natAt bef i) j=true:=by
 have:=rP h ho;simp only [hd] at this;have:=rP this hj;simp only [IF.2 ht,rM,nA,gJ] at this;rcases this with h1|h1
 ·exact absurd (aV h1) a6
 ·exact h1
theorem kU (ht:t<512) {d:Option Nat} (hd:∀x,d=some x→x<512) (v:V) (e:Env):bN t (fV d v e)=if d=some t then v else bN t e:=by
 cases d with
 |none=>simp [fV]
 |some x=>
  simp only [fV,cB]
  by_cases e1:x=t
  ·subst e1;rw [sR];simp
  ·rw [pG ht (hd x rfl) (eH e1)];simp [e1]
theorem fN (T s j:Nat):Nat.testBit (T|||2^s) j=(decide (j=s)||Nat.testBit T j):=by
 rw [Nat.testBit_or,Fz]
 by_cases e:s=j
 ·subst e;simp
 ·simp [e,eH e]
theorem nF {l:List Nat} (h:mC ops bef tl T (s::l)=true):
  Nat.testBit T s=false∧(∀x,Nat.testBit (natAt bef s) x=true→Nat.testBit T x=true)∧(∃o,ops[s]?=some o)∧mC ops bef tl (T|||2^s) l=true:=by
 rw [mC] at h;simp only [aM,BK,jR] at h;obtain⟨h1,h2,h3,h4⟩:=h;refine⟨h1,?_,Option.isSome_iff_exists.1 h3,h4⟩;intro x hx;have:=aV h2;rw [←this,Nat.testBit_and] at hx;simp only [aM] at hx;exact hx.2
theorem FD {l:List Nat} (h:lR ops bef tl (s::l)=true):
  (∀o,ops[s]?=some o→fL ops bef s o= .heavy→(∀x∈l,Nat.testBit (natAt bef x) s=true)∧∀x∈tl,Nat.testBit (natAt bef x) s=true)∧lR ops bef tl l=true:=by
 rw [lR] at h;simp only [aM,jR] at h;refine⟨?_,h.2⟩;intro o ho hk;have h1:=h.1;rw [ho] at h1;simp only [hk,Kn.isHeavy,rM,nA,aM,jM] at h1;exact h1
theorem yA {ops:List Oper} {bef tl:List Nat}:∀(l:List Nat) (T:Nat),mC ops bef tl T l=true→∀i o,ops[i]?=some o→Nat.testBit T i=false→i∈l∨i∈tl
 | [],T,h,i,o,ho,hT=>by
  rw [mC] at h;have:=rP h ho;simp only [hT,nA,yP] at this;exact .inr this
 | s::l,T,h,i,o,ho,hT=>by
  by_cases e:i=s
  ·simp [e]
  ·obtain⟨_,_,_,h4⟩:=nF h;rcases yA l _ h4 i o ho (by rw [fN];simp [e,hT]) with h1|h1
   ·exact .inl (pR _ h1)
   ·exact .inr h1
theorem KJ {h:H}:∀{l:List PC},rX h l=true→∀c∈l,c.chk h=true
 | [],_,c,hc=>by simp at hc
 |x::l,hl,c,hc=>by
  simp only [rX,aM] at hl;rcases cD.1 hc with rfl|hc
  ·exact hl.1
  ·exact KJ hl.2 c hc
theorem pw_ne {α:Type} {r:α→α→Prop} (hs:∀x y,r x y→r y x):∀{l:List α},l.Pairwise r→∀x∈l,∀y∈l,x≠y→r x y
 | [],_,x,hx,_,_,_=>by simp at hx
 |a::l,h,x,hx,y,hy,a6=>by
  have h1:=List.pairwise_cons.1 h;rcases cD.1 hx with ex|c7<;>rcases cD.1 hy with ey|c8
  ·exact absurd (ex.trans ey.symm) a6
  ·rw [ex];exact h1.1 y c8
  ·rw [ey];exact hs _ _ (h1.1 x c7)
  ·exact pw_ne hs h1.2 x c7 y c8 a6
def PendOk (P:Program) (ops:List Oper) (e:Env) (h:H) (pn:List PN) (pc:List PC) (i:Nat) (o:Oper):Kn→Prop
 | .light=>(∀x∈pn,x.idx≠i)∧∃v,(∀d,o.dst=some d→bN d e=v)∧oX P ops o (bW e (cE ops o)) (hq h)=some v∧
   ∃c∈pc,c.idx=i∧c.chk=fun h'=>eqO v (oX P ops o (bW e (cE ops o)) h')
 | .new=>(gdC ops o (bW e (cE ops o))=some true∧∃x∈pn,x.idx=i∧∃nv,(oT P o.op).run (bW e (cE ops o))=some nv∧x.ob=nv.ob x.id∧∀d,o.dst=some d→bN d e=nv.v x.id)∨
   ((∀x∈pn,x.idx≠i)∧gdC ops o (bW e (cE ops o))=some false∧∀d,o.dst=some d→bN d e=cI)
 | .heavy=>False
theorem PendOk.mono {e':Env} {h h':H} {pn d0:List PN} {pc c9:List PC}:∀{kn:Kn},PendOk P ops e h pn pc i o kn→bW e' (cE ops o)=bW e (cE ops o)→(∀d,o.dst=some d→bN d e'=bN d e)→
  (∀x,x.idx=i→(x∈pn↔x∈d0))→(∀c∈pc,c.idx=i→c∈c9)→
  (∀(q:H→Option V) v,(∃c∈pc,c.idx=i∧c.chk=fun h'=>eqO v (q h'))→q (hq h)=some v→q (hq h')=some v)→PendOk P ops e' h' d0 c9 i o kn
 | .light,k,he,hd,hpn,hpc,hh=>by
  obtain⟨k0,v,k1,k2,c,k3,k4,k5⟩:=k;refine⟨fun x hx b1=>k0 x ((hpn x b1).2 hx) b1,v,fun d b2=>by rw [hd d b2];exact k1 d b2,?_,c,hpc c k3 k4,k4,by rw [he];exact k5⟩;rw [he];exact hh (fun h'=>oX P ops o (bW e (cE ops o)) h') v ⟨c,k3,k4,k5⟩ k2
 | .new,k,he,hd,hpn,hpc,hh=>by
  rcases k with⟨k1,x,k2,k3,nv,k4,k5,k6⟩|⟨k0,k1,k2⟩
  ·exact .inl ⟨by rw [he];exact k1,x,(hpn x k3).1 k2,k3,nv,by rw [he];exact k4,k5,fun d b2=>by rw [hd d b2];exact k6 d b2⟩
  ·exact .inr ⟨fun x hx b1=>k0 x ((hpn x b1).2 hx) b1,by rw [he];exact k1,fun d b2=>by rw [hd d b2];exact k2 d b2⟩
 | .heavy,k,_,_,_,_,_=>k.elim
structure Core (P:Program) (n:Nat) (ops:Array Oper) (m0:Mp) (h0:H) (w0:World) (listed:Array Bool) (T:Nat) (e:Env) (h:H) (pn:List PN) (pc:List PC) (m:Mp) (a:Act) (w:World):Prop where
 lsz:listed.size=ops.size
 down:∀i o,ops.toList[i]?=some o→Sb listed i=true→∀x∈o.after.toList,gO x=true→Sb listed x.on=true
 sT:∀j,Sb listed j=true→Nat.testBit T j=true
 tT:∀j,Nat.testBit T j=true→∀x,Nat.testBit (natAt (aH [] ops.toList) j) x=true→Nat.testBit T x=true
 pend:∀j o,ops.toList[j]?=some o→Nat.testBit T j=true→Sb listed j=false→PendOk P ops.toList e h pn pc j o (fL ops.toList (aH [] ops.toList) j o)
 size:a.tmps.size=n
 le:n≤511
 dfr:∃l,bN fG e= .tup l∧DfrR m l a.defers
 env:∀t,t<n→(∃i o,Nat.testBit T i=true∧Sb listed i=false∧ops.toList[i]?=some o∧o.dst=some t)∨R m (bN t e) (a.tmps.getD t undef)
 fr:Fr m0 h0 w0 m (eJ (Sb listed) pn h) w
 gl:Gl P m
 pnd:pn.Pairwise (fun x y=>x.id≠y.id∧x.idx≠y.idx)
 pn1:∀x∈pn,Nat.testBit T x.idx=true∧(∃o,ops.toList[x.idx]?=some o)∧h0.next.toNat≤x.id.toNat∧x.id.toNat<h.next.toNat∧aB x.id h.mem=none
 pn2:∀x∈pn,(∀b sz els f ro,aB b h.mem=some (.cells sz els f ro)→f≠x.id)∧(∀sz els f ro,x.ob= .cells sz els f ro→f=x.id)∧(Sb listed x.idx=false→m x.id=none)
structure Inv (P:Program) (n:Nat) (ops:Array Oper) (base:DOp2) (tl:List Nat) (call:bP) (e':Env) (h':H) (m0:Mp) (h0:H) (w0:World) (listed:Array Bool) (T:Nat) (l:List Nat) (e:Env) (h:H) (pn:List PN) (pc:List PC) (m:Mp) (a:Act) (w:World):Prop
  extends Core P n ops m0 h0 w0 listed T e h pn pc m a w where
 plan:mC ops.toList (aH [] ops.toList) tl T l=true
 run:(eT P base ops.toList (aH [] ops.toList) l).run call e h pn pc= .ok e' h'
section
variable {n:Nat} {ops:Array Oper} {base:DOp2} {tl:List Nat} {call:bP} {e':Env} {h':H} {m0:Mp} {h0:H} {w0:World} {listed:Array Bool} {T:Nat} {l:List Nat} {e:Env} {h:H} {pn:List PN} {pc:List PC} {a:Act}
theorem Core.pid (k:Core P n ops m0 h0 w0 listed T e h pn pc m a w):pn.Pairwise (fun x y=>x.id≠y.id):=k.pnd.imp (fun h=>h.1)
theorem Core.inj (k:Core P n ops m0 h0 w0 listed T e h pn pc m a w) {x y:PN} (hx:x∈pn) (hy:y∈pn) (a6:x≠y):x.id≠y.id∧x.idx≠y.idx:=
 pw_ne (fun _ _ h=>⟨eH h.1,eH h.2⟩) k.pnd x hx y hy a6
theorem AU (a7:mE ops.toList (aH [] ops.toList)=true) (a1:eX P n ops=true) {s:Nat} (k:Inv P n ops base tl call e' h' m0 h0 w0 listed T (s::l) e h pn pc m a w) {o:Oper} (ho:ops.toList[s]?=some o)
  (hS:∀x,Nat.testBit (natAt (aH [] ops.toList) s) x=true→fL ops.toList (aH [] ops.toList) s o= .heavy→Sb listed x=true) (v:V):
  ∀j oj,ops.toList[j]?=some oj→Nat.testBit T j=true→Sb listed j=false→(∀t,t∈cE ops.toList oj∨oj.dst=some t→o.dst≠some t):=by
 intro j oj hj hT c2 t ht hd;obtain⟨a8,hbT,_,_⟩:=nF k.plan;have a6:j≠s:=fun e=>by subst e;rw [hT] at a8;cases a8
 have c4:¬Nat.testBit (natAt (aH [] ops.toList) j) s=true:=fun hb=>by
  have:=k.tT j hT s hb;rw [this] at a8;cases a8
 by_cases hk:fL ops.toList (aH [] ops.toList) s o= .heavy
 ·rcases XG a7 ho hd hj a6 ht with h1|h1
  ·exact c4 h1
  ·rw [hS j h1 hk] at c2;cases c2
 ·exact c4 ((zA (zB hk) hd).2 j oj hj a6 ht)
theorem AA {oj:Oper} {i:Nat} (b4:n≤511) (a1:eX P n ops=true) (a3:qM n o.dst=true) {j:Nat} (hj:ops.toList[j]?=some oj) (a6:∀t,t∈cE ops.toList oj∨oj.dst=some t→o.dst≠some t):
  bW (fV o.dst v e) (cE ops.toList oj)=bW e (cE ops.toList oj)∧∀d,oj.dst=some d→bN d (fV o.dst v e)=bN d e:=by
 have c3:ops[j]?=some oj:=by simpa using hj
 have a4:∀x:Nat,o.dst=some x→x<512:=fun x hx=>by have:=fM a3 hx;omega
 constructor
 ·refine AB ?_ _ ?_
  ·rw [kU (by decide) a4];have:o.dst≠some fG:=fun hx=>by have:=fM a3 hx;simp [fG] at this;omega
   simp [this]
  ·intro t ht;have:=vB a1 c3 t ht;rw [kU (by omega) a4];simp [a6 t (.inl ht)]
 ·intro d hd;have:=fM (iK a1 c3).2 hd;rw [kU (by omega) a4];simp [a6 d (.inr hd)]
theorem sS (b4:n≤511) (a3:qM n o.dst=true):bN fG (fV o.dst v e)=bN fG e:=by
 have a4:∀x:Nat,o.dst=some x→x<512:=fun x hx=>by have:=fM a3 hx;omega
 rw [kU (by decide) a4];have:o.dst≠some fG:=fun hx=>by have:=fM a3 hx;simp [fG] at this;omega
 simp [this]
theorem Fu (a7:mE ops.toList (aH [] ops.toList)=true) (a1:eX P n ops=true) {s:Nat} (k:Inv P n ops base tl call e' h' m0 h0 w0 listed T (s::l) e h pn pc m a w) {o:Oper} (ho:ops.toList[s]?=some o)
  (hk:fL ops.toList (aH [] ops.toList) s o= .light):∃e1 d3,Inv P n ops base tl call e' h' m0 h0 w0 listed (T|||2^s) l e1 h pn d3 m a w:=by
 have a0:=k.run;rw [eT] at a0;simp only [jR,ho,hk] at a0;have b7:ops[s]?=some o:=by simpa using ho
 obtain⟨c1,a3⟩:=iK a1 b7;obtain⟨a8,hbT,_,hpl⟩:=nF k.plan;have b9:Sb listed s=false:=by
  cases hx:Sb listed s with
  |false=>rfl
  |true=>rw [k.sT s hx] at a8;cases a8
 cases hv:oX P ops.toList o (bW e (cE ops.toList o)) (hq h) with
 |none=>rw [hv] at a0;cases a0
 | some v=>
  rw [hv] at a0;simp only at a0;have a5:=AU a7 a1 k ho (fun x _ hh=>by rw [hk] at hh;cases hh) v;have a9:=zB (ops:=ops.toList) (bef:=aH [] ops.toList) (i:=s) (o:=o) (by rw [hk];simp);have b0:∀t,t∈cE ops.toList o→o.dst≠some t:=fun t ht hd=>(zA a9 hd).1 ht
  have a2:bW (fV o.dst v e) (cE ops.toList o)=bW e (cE ops.toList o):=by
   refine AB (sS k.le a3) _ ?_;intro t ht;have:=vB a1 b7 t ht;have b4:=k.le;rw [kU (by omega) (fun x hx=>by have:=fM a3 hx;omega)];simp [b0 t ht]
  refine⟨fV o.dst v e,⟨s,fun h'=>eqO v (oX P ops.toList o (bW e (cE ops.toList o)) h')⟩::pc,⟨⟨k.lsz,k.down,fun j hj=>by rw [fN];simp [k.sT j hj],?_,?_,k.size,k.le,?_,?_,k.fr,k.gl,k.pnd,?_,k.pn2⟩,hpl,a0⟩⟩
  ·intro j hj x hx;rw [fN] at hj ⊢;simp only [gJ,eO] at hj ⊢;rcases hj with rfl|hj
   ·exact .inr (hbT x hx)
   ·exact .inr (k.tT j hj x hx)
  ·intro j oj hj hT hS;rw [fN] at hT;simp only [gJ,eO] at hT
   by_cases e1:j=s
   ·subst e1;rw [ho] at hj;cases hj;rw [hk];refine⟨fun x hx b1=>?_,v,fun d hd=>?_,?_,_,tS,rfl,?_⟩
    ·have:=(k.pn1 x hx).1;rw [b1,a8] at this;cases this
    ·have:=fM a3 hd;have b4:=k.le;rw [kU (by omega) (fun x hx=>by have:=fM a3 hx;omega)];simp [hd]
    ·rw [a2];exact hv
    ·rw [a2]
   ·have hT:Nat.testBit T j=true:=hT.resolve_left e1;obtain⟨q1,q2⟩:=AA (v:=v) (e:=e) (i:=s) k.le a1 a3 hj (a5 j oj hj hT hS);exact(k.pend j oj hj hT hS).mono q1 q2 (fun x _=>Iff.rfl) (fun c hc _=>pR _ hc) (fun q v _ hq=>hq)
  ·rw [sS k.le a3];exact k.dfr
  ·intro t ht
   by_cases e1:o.dst=some t
   ·exact .inl ⟨s,o,by rw [fN];simp,b9,ho,e1⟩
   ·have b4:=k.le;rw [kU (by omega) (fun x hx=>by have:=fM a3 hx;omega)];rw [if_neg e1];rcases k.env t ht with⟨i,oi,h1,h2,h3,h4⟩|h1
    ·exact .inl ⟨i,oi,by rw [fN];simp [h1],h2,h3,h4⟩
    ·exact .inr h1
  ·intro x hx;obtain⟨h1,h2⟩:=k.pn1 x hx;exact⟨by rw [fN];simp [h1],h2⟩
theorem Ft (a7:mE ops.toList (aH [] ops.toList)=true) (a1:eX P n ops=true) {s:Nat} (k:Inv P n ops base tl call e' h' m0 h0 w0 listed T (s::l) e h pn pc m a w) {o:Oper} (ho:ops.toList[s]?=some o)
  (hk:fL ops.toList (aH [] ops.toList) s o= .new) (d1:∀nv,(oT P o.op).run (bW e (cE ops.toList o))=some nv→∀i sz els f ro,nv.ob i= .cells sz els f ro→f=i):
  ∃e1 h1 pn1,Inv P n ops base tl call e' h' m0 h0 w0 listed (T|||2^s) l e1 h1 pn1 pc m a w:=by
 have a0:=k.run;rw [eT] at a0;simp only [jR,ho,hk] at a0;have b7:ops[s]?=some o:=by simpa using ho
 obtain⟨c1,a3⟩:=iK a1 b7;obtain⟨a8,hbT,_,hpl⟩:=nF k.plan;have b4:=k.le;have b9:Sb listed s=false:=by
  cases hx:Sb listed s with
  |false=>rfl
  |true=>rw [k.sT s hx] at a8;cases a8
 have a9:=zB (ops:=ops.toList) (bef:=aH [] ops.toList) (i:=s) (o:=o) (by rw [hk];simp);have b0:∀t,t∈cE ops.toList o→o.dst≠some t:=fun t ht hd=>(zA a9 hd).1 ht
 have a2:∀v,bW (fV o.dst v e) (cE ops.toList o)=bW e (cE ops.toList o):=fun v=>by
  refine AB (sS k.le a3) _ ?_;intro t ht;have:=vB a1 b7 t ht;rw [kU (by omega) (fun x hx=>by have:=fM a3 hx;omega)];simp [b0 t ht]
 have c6:∀j,Nat.testBit (T|||2^s) j=true→∀x,Nat.testBit (natAt (aH [] ops.toList) j) x=true→Nat.testBit (T|||2^s) x=true:=by
  intro j hj x hx;rw [fN] at hj ⊢;simp only [gJ,eO] at hj ⊢;rcases hj with rfl|hj
  ·exact .inr (hbT x hx)
  ·exact .inr (k.tT j hj x hx)
 have b3:∀v t,t<n→(∃i o,Nat.testBit (T|||2^s) i=true∧Sb listed i=false∧ops.toList[i]?=some o∧o.dst=some t)∨R m (bN t (fV o.dst v e)) (a.tmps.getD t undef):=by
  intro v t ht
  by_cases e1:o.dst=some t
  ·exact .inl ⟨s,o,by rw [fN];simp,b9,ho,e1⟩
  ·rw [kU (by omega) (fun x hx=>by have:=fM a3 hx;omega)];rw [if_neg e1];rcases k.env t ht with⟨i,oi,h1,h2,h3,h4⟩|h1
   ·exact .inl ⟨i,oi,by rw [fN];simp [h1],h2,h3,h4⟩
   ·exact .inr h1
 have b6:∀x∈pn,x.idx≠s:=fun x hx b1=>by have:=(k.pn1 x hx).1;rw [b1,a8] at this;cases this
 cases hgd:gdC ops.toList o (bW e (cE ops.toList o)) with
 |none=>rw [hgd] at a0;cases a0
 | some b=>
  rw [hgd] at a0;cases b with
  | false=>
   simp only at a0;have a5:=AU a7 a1 k ho (fun x _ hh=>by rw [hk] at hh;cases hh) cI;refine⟨fV o.dst cI e,h,pn,⟨⟨k.lsz,k.down,fun j hj=>by rw [fN];simp [k.sT j hj],c6,?_,k.size,k.le,by rw [sS k.le a3];exact k.dfr,b3 _,k.fr,k.gl,k.pnd,?_,k.pn2⟩,hpl,a0⟩⟩
   ·intro j oj hj hT hS;rw [fN] at hT;simp only [gJ,eO] at hT
    by_cases e1:j=s
    ·subst e1;rw [ho] at hj;cases hj;rw [hk];refine .inr ⟨b6,by rw [a2];exact hgd,fun d hd=>?_⟩;have:=fM a3 hd;rw [kU (by omega) (fun x hx=>by have:=fM a3 hx;omega)];simp [hd]
    ·have hT:Nat.testBit T j=true:=hT.resolve_left e1;obtain⟨q1,q2⟩:=AA (v:=cI) (e:=e) (i:=s) k.le a1 a3 hj (a5 j oj hj hT hS);exact(k.pend j oj hj hT hS).mono q1 q2 (fun x _=>Iff.rfl) (fun c hc _=>hc) (fun q v _ hq=>hq)
   ·intro x hx;obtain⟨h1,h2⟩:=k.pn1 x hx;exact⟨by rw [fN];simp [h1],h2⟩
  | true=>
   simp only at a0;cases hnw:(oT P o.op).run (bW e (cE ops.toList o)) with
   |none=>rw [hnw] at a0;cases a0
   | some nv=>
    cases hnx:h.next.succ with
    |none=>rw [hnw,hnx] at a0;cases a0
    | some nx=>
     rw [hnw,hnx] at a0;simp only at a0;have d2:=Id.succ_toNat hnx;have a5:=AU a7 a1 k ho (fun x _ hh=>by rw [hk] at hh;cases hh) (nv.v h.next);have c0:eJ (Sb listed) (⟨s,h.next,nv.ob h.next⟩::pn) ⟨h.mem,h.fams,nx⟩=⟨(eJ (Sb listed) pn h).mem,(eJ (Sb listed) pn h).fams,nx⟩:=by
      simp [eJ,dH,b9]
     have c5:m h.next=none:=by
      cases hx:m h.next with
      |none=>rfl
      |some lx=>exact absurd (k.fr.hr.dom _ _ hx) (pP _)
     have b8:∀b ob,aB b h.mem=some ob→aB b (dH (Sb listed) pn h.mem)=some ob:=by
      intro b ob hb;rw [nL]
      ·exact hb
      ·intro x hx _ e1;have:=(k.pn1 x hx).2.2.2.2;rw [e1,hb] at this;cases this
     have b5:aB h.next h.mem=none:=by
      cases hx:aB h.next h.mem with
      |none=>rfl
      |some ob=>
       obtain⟨l,hl,_⟩:=k.fr.hr.obj _ _ (b8 _ _ hx);rw [c5] at hl;cases hl
     refine⟨fV o.dst (nv.v h.next) e,⟨h.mem,h.fams,nx⟩,⟨s,h.next,nv.ob h.next⟩::pn,⟨⟨k.lsz,k.down,fun j hj=>by rw [fN];simp [k.sT j hj],c6,?_,k.size,k.le,by rw [sS k.le a3];exact k.dfr,b3 _,?_,k.gl,?_,?_,?_⟩,hpl,a0⟩⟩
     ·intro j oj hj hT hS;rw [fN] at hT;simp only [gJ,eO] at hT
      by_cases e1:j=s
      ·subst e1;rw [ho] at hj;cases hj;rw [hk];refine .inl ⟨by rw [a2];exact hgd,_,tS,rfl,nv,by rw [a2];exact hnw,rfl,fun d hd=>?_⟩;have:=fM a3 hd;rw [kU (by omega) (fun x hx=>by have:=fM a3 hx;omega)];simp [hd]
      ·have hT:Nat.testBit T j=true:=hT.resolve_left e1;obtain⟨q1,q2⟩:=AA (v:=nv.v h.next) (e:=e) (i:=s) k.le a1 a3 hj (a5 j oj hj hT hS);refine(k.pend j oj hj hT hS).mono q1 q2 (fun x hx=>?_) (fun c hc _=>hc) (fun q v _ hq=>hq);constructor
       ·exact fun h=>pR _ h
       ·intro h;rcases cD.1 h with rfl|h
        ·exact absurd hx.symm e1
        ·exact h
     ·rw [c0];exact k.fr.bump (by show h.next.toNat≤nx.toNat;omega)
     ·refine List.pairwise_cons.2 ⟨fun y hy=>⟨?_,?_⟩,k.pnd⟩
      ·intro e1;have h3:=(k.pn1 y hy).2.2.2.1;have e2:h.next=y.id:=e1;rw [←e2] at h3;exact absurd h3 (pP _)
      ·exact eH (b6 y hy)
     ·intro x hx;rcases cD.1 hx with rfl|hx
      ·refine⟨by rw [fN];simp,⟨o,ho⟩,?_,?_,b5⟩
       ·have:=k.fr.nxt;have h2:(eJ (Sb listed) pn h).next=h.next:=rfl;rw [h2] at this;exact this
       ·show h.next.toNat<nx.toNat;omega
      ·obtain⟨h1,h2,h3,h4,h5⟩:=k.pn1 x hx;exact⟨by rw [fN];simp [h1],h2,h3,by show x.id.toNat<nx.toNat;omega,h5⟩
     ·intro x hx;rcases cD.1 hx with rfl|hx
      ·refine⟨?_,fun sz els f ro e1=>d1 nv hnw _ _ _ _ _ e1,fun _=>c5⟩;intro b sz els f ro hb e1;have:=k.fr.hr.famlt _ _ _ _ _ (b8 _ _ hb);have h2:(eJ (Sb listed) pn h).next=h.next:=rfl;rw [h2] at this;have e2:f=h.next:=e1;rw [e2] at this;exact absurd this (pP _)
      ·exact k.pn2 x hx
end
end
section
variable {P:Program} {m:Mp} {w:World}
theorem YE {op:Op} {nv:NV} (hv:(oT P op).run e=some nv):∀i sz els f ro,nv.ob i= .cells sz els f ro→f=i:=by
 have key:∀ty s els vf,∀i b4 els' f ro,(nJ ty s els vf).ob i= .cells b4 els' f ro→f=i:=by
  intro ty s els vf i b4 els' f ro h;cases h;rfl
 cases op<;>simp only [oT] at hv<;>(try (cases hv;done))
 case alloc t=>
  split at hv
  ·split at hv
   ·cases hv;exact key _ _ _ _
   ·cases hv
  ·cases hv
 case box t x=>
  split at hv
  ·cases hv;exact key _ _ _ _
  ·cases hv
 case makeMap t r=>
  cases r with
  |none=>cases hv;intro i sz els f ro h;cases h
  |some x=>cases hv
 case buildSlice t len ps=>
  split at hv
  ·rename_i el hu;split at hv
   ·rename_i sz z hs hz;split at hv
    ·rename_i zc hc;cases hcd:(Nat.ble (len*(sz+1)) 16777216&&Nat.beq (dP zc) (sz+1)) with
     |false=>rw [hcd] at hv;cases hv
     |true=>
      rw [hcd] at hv;simp only [cN] at hv;split at hv
      ·cases hv;exact key _ _ _ _
      ·cases hv
    ·cases hv
   ·cases hv
  ·cases hv
theorem Ac {call:bP} (b2:eN P call) (k:bD m n e a) (hg:Gl P m) {h h':H} (hr:HR m h w) {o:Oper} (a1:o.op.operands.toList.all (cO P n)=true) {v:V}
  (hv:hvC P o.op call e h= .ok v h'):cJ P ((execOp a.eval o).run P w) m h w v h':=by
 unfold hvC at hv;cases hh:isHeavy o.op with
 |true=>rw [hh] at hv;exact EF b2 k hg hr a1 hv
 | false=>
  rw [hh] at hv;simp only [jZ] at hv;cases hl:(nO P o.op).run e h with
  |none=>rw [hl] at hv;cases hv
  |some v'=>
   rw [hl] at hv;cases hv;obtain⟨u,h1,h2⟩:=yY k hg hr a1 hl;exact .inl ⟨u,w,m,.inl h1,Fr.refl hr,h2⟩
theorem JX (a:Act) (d:Option Nat) (u:Value):(a.put d u).tmps.size=a.tmps.size:=by cases d<;>simp [Act.put]
theorem JZ (a:Act) (d:Option Nat) (u:Value):(a.put d u).defers=a.defers:=by cases d<;>rfl
theorem JY {d:Option Nat} {u:Value} (ht:t<a.tmps.size):(a.put d u).tmps.getD t undef=if d=some t then u else a.tmps.getD t undef:=by
 cases d with
 |none=>simp [Act.put]
 |some x=>
  by_cases e:x=t
  ·subst e;simp [Act.put,nB,ht]
  ·simp [Act.put,nB,lG,e]
section
variable {n:Nat} {ops:Array Oper} {m0:Mp} {h0:H} {w0:World} {listed:Array Bool} {T:Nat} {l:List Nat} {e:Env} {h:H} {pn:List PN} {pc:List PC} {a:Act}
theorem Core.sub (k:Core P n ops m0 h0 w0 listed T e h pn pc m a w):∀b ob,aB b h.mem=some ob→aB b (dH (Sb listed) pn h.mem)=some ob:=by
 intro b ob hb;rw [nL]
 ·exact hb
 ·intro x hx _ e1;have:=(k.pn1 x hx).2.2.2.2;rw [e1,hb] at this;cases this
theorem Core.hrq (k:Core P n ops m0 h0 w0 listed T e h pn pc m a w):HR m (hq h) w:=by
 have:h.next.toNat≤ED.toNat:=by
  have c3:ED.toNat=32767:=rfl;rw [c3];obtain⟨a,b,c,d,e⟩:=h.next;have h1:=D8.toNat_lt a;have h2:=D8.toNat_lt b;have h3:=D8.toNat_lt c;have h4:=D8.toNat_lt d;have h5:=D8.toNat_lt e;simp only [Id.toNat];omega
 exact k.fr.hr.sub (mem':=h.mem) k.sub this
theorem Core.looksR (a0:eX P n ops=true) (k:Core P n ops m0 h0 w0 listed T e h pn pc m a w) {i:Nat} {o:Oper} (ho:ops.toList[i]?=some o)
  (b0:∀x,Nat.testBit (natAt (aH [] ops.toList) i) x=true→Sb listed x=true):bD m n (bW e (cE ops.toList o)) a:=by
 have a4:ops[i]?=some o:=by simpa using ho
 refine envM_R k.size k.le k.dfr _ (vB a0 a4) ?_;intro t ht;rcases k.env t (vB a0 a4 t ht) with⟨x,ox,hT,hS,hx,hd⟩|h1
 ·exfalso;have hp:=k.pend x ox hx hT hS;have c4:fL ops.toList (aH [] ops.toList) x ox≠ .heavy:=fun hh=>by rw [hh] at hp;exact hp
  obtain⟨l1,l2⟩:=zA (zB c4) hd
  by_cases e1:i=x
  ·subst e1;rw [ho] at hx;cases hx;exact l1 ht
  ·have:=b0 x (l2 i o ho e1 (.inl ht));rw [this] at hS;cases hS
 ·exact h1
theorem zH (k:Core P n ops m0 h0 w0 listed T e h pn pc m a w) {i:Nat} {o:Oper} (ho:ops.toList[i]?=some o) (hT:Nat.testBit T i=true)
  (a6:∀x∈o.after.toList,gO x=true→Sb listed x.on=true) {m':Mp} {w':World} {u:Value} (hm:m.le m') (b8:Fr m0 h0 w0 m' (eJ (Sb (listed.setIfInBounds i true)) pn h) w')
  (hu:∀d,o.dst=some d→R m' (bN d e) u) (c5:∀x∈pn,Sb (listed.setIfInBounds i true) x.idx=false→m' x.id=none):
  Core P n ops m0 h0 w0 (listed.setIfInBounds i true) T e h pn pc m' (a.put o.dst u) w':=by
 have a3:i<listed.size:=by
  rw [k.lsz];have:i<ops.toList.length:=(List.getElem?_eq_some_iff.1 ho).1;simpa using this
 have a2:=Sb_set (listed:=listed) a3;have a5:∀j,Sb listed j=true→Sb (listed.setIfInBounds i true) j=true:=fun j hj=>by rw [a2];simp [hj]
 have b1:∀j,Sb (listed.setIfInBounds i true) j=false→j≠i∧Sb listed j=false:=fun j hj=>by
  rw [a2] at hj;simpa using hj
 refine⟨by simp [k.lsz],?_,?_,k.tT,?_,by rw [JX];exact k.size,k.le,?_,?_,b8,k.gl.mono hm,k.pnd,k.pn1,?_⟩
 ·intro j oj hj hS x hx hb;rw [a2] at hS;simp only [gJ,eO] at hS;rcases hS with rfl|hS
  ·rw [ho] at hj;cases hj;exact a5 _ (a6 x hx hb)
  ·exact a5 _ (k.down j oj hj hS x hx hb)
 ·intro j hj;rw [a2] at hj;simp only [gJ,eO] at hj;rcases hj with rfl|hj
  ·exact hT
  ·exact k.sT j hj
 ·intro j oj hj b5 hS;exact k.pend j oj hj b5 (b1 j hS).2
 ·rw [JZ];obtain⟨L,h1,h2⟩:=k.dfr;exact⟨L,h1,h2.mono hm⟩
 ·intro t ht;rw [JY (by rw [k.size];exact ht)]
  by_cases e1:o.dst=some t
  ·rw [if_pos e1];exact .inr (hu t e1)
  ·rw [if_neg e1];rcases k.env t ht with⟨x,ox,h1,h2,h3,h4⟩|h1
   ·refine .inl ⟨x,ox,h1,?_,h3,h4⟩;rw [a2];have:x≠i:=fun e2=>by subst e2;rw [ho] at h3;cases h3;exact e1 h4
    simp [this,h2]
   ·exact .inr (h1.mono hm)
 ·intro x hx;obtain⟨p1,p2,p3⟩:=k.pn2 x hx;exact⟨p1,p2,c5 x hx⟩
theorem yR (k:Core P n ops m0 h0 w0 listed T e h pn pc m a w) {i:Nat} (hi:i<listed.size) (a9:∀x∈pn,x.idx≠i):eJ (Sb (listed.setIfInBounds i true)) pn h=eJ (Sb listed) pn h:=by
 unfold eJ;rw [DN h.mem pn (fun x hx=>by rw [Sb_set hi,lV (a9 x hx),nA])]
theorem UJ (a0:eX P n ops=true) (k:Core P n ops m0 h0 w0 listed T e h pn pc m a w) {i:Nat} {o:Oper} (ho:ops.toList[i]?=some o) (hT:Nat.testBit T i=true) (hS:Sb listed i=false)
  (a6:∀x∈o.after.toList,gO x=true→Sb listed x.on=true) (b0:∀x,Nat.testBit (natAt (aH [] ops.toList) i) x=true→Sb listed x=true)
  (hk:fL ops.toList (aH [] ops.toList) i o= .light) {K:Act→World→Prop} {Q:Exit→Act→World→Prop}
  (hn:∀m' a' w',Core P n ops m0 h0 w0 (listed.setIfInBounds i true) T e h pn pc m' a' w'→K a' w'):wpOp P ops Q i K a w:=by
 have a4:ops[i]?=some o:=by simpa using ho
 have a3:i<listed.size:=by rw [k.lsz];exact(Array.getElem?_eq_some_iff.1 a4).1
 obtain⟨a1,hdo⟩:=iK a0 a4;have hE:=k.looksR a0 ho b0;have hp:=k.pend i o ho hT hS;rw [hk] at hp;obtain⟨a9,v,hv1,hv2,_⟩:=hp;unfold oX at hv2;unfold wpOp;simp only [a4];cases a7:gdC ops.toList o (bW e (cE ops.toList o)) with
 |none=>rw [a7] at hv2;cases hv2
 | some b=>
  rw [a7] at hv2;have hw:=zR a0 hE a7;cases b with
  |true=>
   simp only at hv2;rw [if_pos hw];obtain⟨u,h1,h2⟩:=yY hE k.gl k.hrq a1 hv2;refine .inl ?_;unfold Oper.wp;rw [h1,wP];refine hn m _ w (zH k ho hT a6 (Mp.le_refl m) ?_ (fun d hd=>by rw [hv1 d hd];exact h2) (fun x hx hs=>(k.pn2 x hx).2.2 ?_))
   ·rw [yR k a3 a9];exact k.fr
   ·rw [Sb_set a3] at hs;simp at hs;exact hs.2
  |false=>
   simp only at hv2;cases hv2;rw [if_neg (by rw [hw];simp)];refine hn m _ w (zH k ho hT a6 (Mp.le_refl m) ?_ (fun d hd=>by rw [hv1 d hd];simp [R,Rl,cI,undef]) (fun x hx hs=>(k.pn2 x hx).2.2 ?_))
   ·rw [yR k a3 a9];exact k.fr
   ·rw [Sb_set a3] at hs;simp at hs;exact hs.2
theorem UI (a0:eX P n ops=true) (k:Core P n ops m0 h0 w0 listed T e h pn pc m a w) {i:Nat} {o:Oper} (ho:ops.toList[i]?=some o) (hT:Nat.testBit T i=true) (hS:Sb listed i=false)
  (a6:∀x∈o.after.toList,gO x=true→Sb listed x.on=true) (b0:∀x,Nat.testBit (natAt (aH [] ops.toList) i) x=true→Sb listed x=true)
  (hk:fL ops.toList (aH [] ops.toList) i o= .new) {K:Act→World→Prop} {Q:Exit→Act→World→Prop}
  (hn:∀m' a' w',Core P n ops m0 h0 w0 (listed.setIfInBounds i true) T e h pn pc m' a' w'→K a' w'):wpOp P ops Q i K a w:=by
 have a4:ops[i]?=some o:=by simpa using ho
 have a3:i<listed.size:=by rw [k.lsz];exact(Array.getElem?_eq_some_iff.1 a4).1
 obtain⟨a1,hdo⟩:=iK a0 a4;have hE:=k.looksR a0 ho b0;have hp:=k.pend i o ho hT hS;rw [hk] at hp;unfold wpOp;simp only [a4];have a2:=Sb_set (listed:=listed) a3;rcases hp with⟨a7,x,hx,hxi,nv,hnw,hob,hdst⟩|⟨a9,a7,hdst⟩
 ·rw [if_pos (zR a0 hE a7)];obtain⟨s,hs,u,ob,lc,w',hrun,hheap,hos,htape,hout,hblk,hwr,hfam,hobj,hval⟩:=YD (w:=w) hE k.gl a1 hnw;refine .inl ?_;unfold Oper.wp;have b6:(execOp a.eval o).run P w= .ok (.value u) w':=by rw [hs];simp [hrun]
  rw [b6,wP];have c2:m x.id=none:=(k.pn2 x hx).2.2 (by rw [hxi];exact hS);obtain⟨q1,q2,q3,q4,q5⟩:=k.pn1 x hx;obtain⟨r1,r2,r3⟩:=k.pn2 x hx;have b7:∀b sz els f ro,aB b (dH (Sb listed) pn h.mem)=some (.cells sz els f ro)→f≠x.id:=by
   intro b sz els f ro hb;rcases sF _ _ _ k.pid _ _ hb with⟨y,hy,a8,hyb,hyo⟩|⟨_,hb⟩
   ·have b3:y≠x:=fun e1=>by subst e1;rw [hxi,hS] at a8;cases a8
    have:=(k.pn2 y hy).2.1 _ _ _ _ hyo;rw [this];exact(k.inj hy hx b3).1
   ·exact r1 _ _ _ _ _ hb
  have c0:aB x.id (dH (Sb (listed.setIfInBounds i true)) pn h.mem)=some (nv.ob x.id):=by
   rw [←hob];exact kT _ _ _ k.pid x hx (by rw [a2];simp [hxi])
  have c1:∀b,b≠x.id→aB b (dH (Sb (listed.setIfInBounds i true)) pn h.mem)=aB b (dH (Sb listed) pn h.mem):=by
   intro b hb
   by_cases hy:∃y∈pn,Sb listed y.idx=true∧y.id=b
   ·obtain⟨y,h1,h2,rfl⟩:=hy;rw [kT _ _ _ k.pid y h1 h2,kT _ _ _ k.pid y h1 (by rw [a2];simp [h2])]
   ·rw [nL,nL]
    ·intro y h1 h2 h3;exact hy ⟨y,h1,h2,h3⟩
    ·intro y h1 h2 h3;rw [a2] at h2;simp only [gJ,eO] at h2;rcases h2 with h2|h2
     ·by_cases e1:y=x
      ·subst e1;exact hb h3.symm
      ·exact(k.inj h1 hx e1).2 (h2.trans hxi.symm)
     ·exact hy ⟨y,h1,h2,h3⟩
  obtain⟨hF,hle⟩:=Fr.addNew k.fr c2 q3 q4 hblk (fun sz els f ro e1=>hfam x.id sz els f ro e1) b7 hheap hos htape hout (fun m' b9 w2 c6=>hobj x.id m' b9 w2 c6) c0 c1;refine hn _ _ w' (zH k ho hT a6 hle hF (fun d hd=>by rw [hdst d hd];exact hval x.id _ (by simp)) ?_);intro y hy a8;rw [a2] at a8;simp at a8;have b3:y≠x:=fun e1=>by subst e1;exact a8.1 hxi
  have:=(k.inj hy hx b3).1;simp [this];exact(k.pn2 y hy).2.2 a8.2
 ·rw [if_neg (by rw [zR a0 hE a7];simp)];refine hn m _ w (zH k ho hT a6 (Mp.le_refl m) ?_ (fun d hd=>by rw [hdst d hd];simp [R,Rl,cI,undef]) (fun x hx hs=>(k.pn2 x hx).2.2 ?_))
  ·rw [yR k a3 a9];exact k.fr
  ·rw [Sb_set a3] at hs;simp at hs;exact hs.2
end
end
end Go.Ev
