/- Lemmas; no condition. -/
import Derived.Test.YtealgacfnbbgdaaGreatDoorAt
set_option linter.all false
namespace Go.Proofs.YtealgacfnbbgdaaGreatDoor
open Go.RowKit Go.Big Go.RowsK Go.MapK
variable {LL:List (List Tm)} {S S':Nat→Prop} {base k g n i l:Nat} {w w':Wo} {L L':List Tm} {X:Lv} {e:TypeId} {cal:Tm→Bool} {u u' u5:Value} {h T:Tm}
section
attribute [local go_sem] Heavy.uponW
def Rws (S:Nat→Prop) (base:Nat) (w:Wo) (X:Lv) (LL:List (List Tm)):Prop:=
 X.length=LL.length∧(∀(k:Nat) u L,X[k]?=some u→LL[k]?=some L→dN S base w u L)∧∀(j k:Nat) u u',j≠k→X[j]?=some u→X[k]?=some u'→∀g,u.ownBlock=some g→u'.ownBlock≠some g
def Rws.nil (S:Nat→Prop) (base:Nat) (w:Wo):Rws S base w [] []:=⟨rfl,fun k u L h=>by simp at h,fun j k u u' _ h=>by simp at h⟩
def Rws.keep (h:Rws S base w X LL) (hS:∀b,S b→S' b) (hk:eB S w w') (hb:∀u∈X,∀g,u.ownBlock=some g→w'.heap[g]?=w.heap[g]?):Rws S' base w' X LL:=
 ⟨h.1,fun k u L hX hL=>((h.2.1 k u L hX hL).keep hk (hb u (bV hX))).mono hS,h.2.2⟩
def Rws.lt (h:Rws S base w X LL):∀u∈X,∀g,u.ownBlock=some g→base≤g∧g<w.heap.size:=fun u hu g hg=>by
 obtain⟨k,hk⟩:=mQ.1 hu;have hl:k<LL.length:=by rw [←h.1];exact(aZ.1 hk).1
 exact(h.2.1 k u _ hk (cE hl)).lt g hg
def Rws.push (h:Rws S base w X LL) (hr:dN S base w u L) (hd:∀u'∈X,∀g,u'.ownBlock=some g→u.ownBlock≠some g):Rws S base w (X++ [u]) (LL++ [L]):=by
 have get:∀(k:Nat) z,(X++ [u])[k]?=some z→(X[k]?=some z∧k<X.length)∨(k=X.length∧z=u):=fun k z hz=>by
  by_cases hk:k<X.length
  ·rw [gM hk] at hz;exact .inl ⟨hz,hk⟩
  ·have hl:=(aZ.1 hz).1;rw [aV,oJ] at hl;obtain rfl:k=X.length:=by omega
   simp at hz;exact .inr ⟨rfl,hz.symm⟩
 refine⟨by simp [h.1],fun k z L' hz hL=>?_,fun j k z z' a1 hz a0 g hg=>?_⟩
 ·rcases get k z hz with⟨hz,hk⟩|⟨rfl,rfl⟩
  ·rw [gM (by rw [←h.1];exact hk)] at hL;exact h.2.1 k z L' hz hL
  ·rw [h.1] at hL;simp at hL;exact hL▸hr
 ·rcases get j z hz with⟨a4,hj⟩|⟨rfl,rfl⟩
  ·rcases get k z' a0 with⟨a0,hk⟩|⟨rfl,rfl⟩
   ·exact h.2.2 j k z z' a1 a4 a0 g hg
   ·exact hd z (bV a4) g hg
  ·rcases get k z' a0 with⟨a0,hk⟩|⟨rfl,rfl⟩
   ·exact fun e=>hd z' (bV a0) g e hg
   ·exact absurd rfl a1
def Rws.take (h:Rws S base w X LL) (n:Nat):Rws S base w (X.take n) (LL.take n):=by
 have get:∀{α:Type} {l:List α} {k:Nat} {z:α},(l.take n)[k]?=some z→l[k]?=some z:=fun {α l k z} hz=>by
  by_cases hk:k<n
  ·rw [jN hk] at hz;exact hz
  ·have:=(aZ.1 hz).1;rw [bT] at this;omega
 exact⟨by rw [bT,bT,h.1],fun k u L hu hL=>h.2.1 k u L (get hu) (get hL),fun j k u u' a1 hu a7=>h.2.2 j k u u' a1 (get hu) (get a7)⟩
def Rws.upd (h:Rws S base w X LL) (hX:X[k]?=some u) (hS:∀b,S b→S' b) (hk:eB S w w')
  (hb:∀b,b<w.heap.size→u.ownBlock≠some b→w'.heap[b]?=w.heap[b]?) (hr:dN S' base w' u' L') (hu:∀g,u'.ownBlock=some g→u.ownBlock=some g∨w.heap.size≤g):Rws S' base w' (X.set k u') (LL.set k L'):=by
 have a3:=(aZ.1 hX).1;have get:∀(j:Nat) z,(X.set k u')[j]?=some z→(j=k∧z=u')∨(j≠k∧X[j]?=some z):=fun j z hz=>by
  by_cases hj:j=k
  ·subst hj;rw [GW a3] at hz;exact .inl ⟨rfl,(bP hz).symm⟩
  ·rw [CJ (fO hj)] at hz;exact .inr ⟨hj,hz⟩
 have sep:∀(j:Nat) z,j≠k→X[j]?=some z→∀g,z.ownBlock=some g→g<w.heap.size∧u'.ownBlock≠some g:=fun j z hj hz g hg=>by
  have h1:=h.lt z (bV hz) g hg;refine⟨h1.2,fun e=>?_⟩;rcases hu g e with e|e
  ·exact h.2.2 j k z u hj hz hX g hg e
  ·omega
 refine⟨by simp [h.1],fun j z L hz hL=>?_,fun j i z z' a1 hz a0 g hg=>?_⟩
 ·rcases get j z hz with⟨rfl,rfl⟩|⟨hj,hz⟩
  ·rw [GW (by rw [←h.1];exact a3)] at hL;exact(bP hL)▸hr
  ·rw [CJ (fO hj)] at hL;exact((h.2.1 j z L hz hL).keep hk fun g hg=>hb g (sep j z hj hz g hg).1 (h.2.2 j k z u hj hz hX g hg)).mono hS
 ·rcases get j z hz with⟨rfl,rfl⟩|⟨hj,a4⟩
  ·rcases get i z' a0 with⟨rfl,rfl⟩|⟨hi,hz1⟩
   ·exact absurd rfl a1
   ·exact fun e=>(sep i z' hi hz1 g e).2 hg
  ·rcases get i z' a0 with⟨rfl,rfl⟩|⟨hi,hz1⟩
   ·exact(sep j z hj a4 g hg).2
   ·exact h.2.2 j i z z' a1 a4 hz1 g hg
def Hu {c:Nat} (u:Value) (h:w.ownsRow base e 1 (.slice (some ⟨g,0,none⟩) n c) n X) (hk:k<n):(w.setCell ⟨g,k,none⟩ u).ownsRow base e 1 (.slice (some ⟨g,0,none⟩) n c) n (X.set k u):=by
 obtain⟨hl,⟨e1,_⟩|⟨g',cap,cur,e1,hb,hg,hnc,hm,hs,ht⟩⟩:=h
 ·exact absurd e1 (by simp)
 ·injection e1 with e1 _ e2
  injection e1 with e1
  injection e1 with e1 _
  subst e1;subst e2;refine⟨by simpa using hl,.inr ⟨g,c,_,rfl,hb,lB hg u,hnc,hm,by simpa using hs,?_⟩⟩;rw [HG,←ht,Aj]
def Hv {m c:Nat} (h:w.ownsRow base e 1 (.slice (some ⟨g,0,none⟩) n c) n X) (hm:m≤n):w.ownsRow base e 1 (.slice (some ⟨g,0,none⟩) m c) m (X.take m):=by
 obtain⟨hl,⟨e1,_⟩|⟨g',cap,cur,e1,hb,hg,hnc,hm',hs,ht⟩⟩:=h
 ·exact absurd e1 (by simp)
 ·injection e1 with e1 _ e2
  injection e1 with e1
  injection e1 with e1 _
  subst e1;subst e2;refine⟨by rw [bT];omega,.inr ⟨g,c,cur,rfl,hb,hg,by omega,hm',hs,?_⟩⟩;rw [←ht,List.take_take];congr 1;omega
def dN.grow {w5 w6:Wo} {Z vs:Lv} (h1:w.ownsRow base 27 7 u L.length X) (h2:∀(k:Nat) T,L[k]?=some T→∃vs,vs.length=7∧(∀(m:Nat) u,vs[m]?=some u→X[k*7+m]?=some u)∧TmS S w T vs)
  (h5:w5.ownsRow base 27 7 u5 (L.length+1) (X++Z)) (hz:Z.length=7) (hg:∀C g,u5.ownBlock=some g→w5.heap[g]?=some (.cells C 27 (0,0))→∃C':Array Value,w6.heap[g]?=some (.cells C' 27 (0,0))∧C'.size=C.size∧(∀j,j<L.length*7∨L.length*7+7≤j→C'[j]?=C[j]?)∧∀(m:Nat) u,vs[m]?=some u→C'[L.length*7+m]?=some u)
  (hk:eB S w w6) (hv:TmS S w T vs) (a8:vs.length=7):dN S base w6 u5 (L++ [T]):=by
 obtain⟨hl,⟨e,e0⟩|⟨g,cap,cur,e,hb,hgc,hnc,hm,hs,hX⟩⟩:=h5
 ·omega
 obtain⟨C',c1,c2,c3,c4⟩:=hg cur g (by rw [e];rfl) hgc;have b0:X.length=L.length*7:=h1.1;have b1:(L.length+1)*7≤C'.toList.length:=by
  have e1:C'.toList.length=C'.size:=eZ;have e2:=fP 7 hnc;omega
 refine⟨C'.toList.take ((L.length+1)*7),⟨by rw [bT,aV,oJ];omega,.inr ⟨g,cap,C',by rw [e];simp,hb,c1,by simpa using hnc,hm,by rw [c2,hs],by simp⟩⟩,fun k T' a2=>?_⟩
 by_cases a3:k<L.length
 ·rw [gM a3] at a2;obtain⟨a9,e',h3,h4⟩:=h2 k T' a2;refine⟨a9,e',fun m z hm=>?_,TmS.keep hk _ _ h4⟩;have a6:=(aZ.1 hm).1;have b2:(k+1)*7≤L.length*7:=fP 7 a3;have h6:=h3 m z hm;have h7:(X++Z)[k*7+m]?=some z:=by rw [gM (by omega)];exact h6
  rw [←hX,jN (by omega),kE] at h7;rw [jN (by omega),kE,c3 _ (by omega)];exact h7
 ·have a5:=(aZ.1 a2).1;rw [aV,oJ] at a5;obtain rfl:k=L.length:=by omega
  simp at a2;subst a2;refine⟨vs,a8,fun m z hm=>?_,TmS.keep hk _ _ hv⟩;have a6:=(aZ.1 hm).1;rw [jN (by omega),kE];exact c4 m z hm
end
section
attribute [local go_sem] Heavy.uponW
def elRw:El Tryz.prog 36 25 1 24 (.slice none 0 0):=⟨Tryz.underlying36,by
  obtain⟨i0,h1,h2,h3,h4⟩:=pI (show(Tryz.prog.info? 25).map (fun i=>(i.zero,i.size,i.bytes))=some (some (.slice none 0 0),1,24) by kernel_rfl);exact⟨i0,h1,h2,h3,h4⟩,rfl,by decide⟩
def JI {size:Nat} {c:Array Value} (h:w.heap[g]?=some (.cells c e (0,0))) (hb:base≤g) (hs:c.size=n*size) (hm:n≤maxLen):w.ownsRow base e size (.slice (some ⟨g,0,none⟩) n n) n c.toList:=
 ⟨by rw [eZ,hs],.inr ⟨g,n,c,rfl,hb,h,aA _,hm,hs,by rw [iW];rw [eZ,hs];exact aA _⟩⟩
def eW.get {S:Nat→Prop} {w:Wo} {a:Option Addr}:∀{L:List Tm} {i k:Nat} {T:Tm},eW S w L a i→L[k]?=some T→∃b off vs,a=some ⟨b,off,none⟩∧S b∧(∀(j:Nat) u,vs[j]?=some u→w.cell? ⟨b,off+(i+k)*7+j,none⟩=some u)∧TmS S w T vs
 | [],_,_,_,_,h=>by simp at h
 |T0::r,i,0,T,h,hk=>by
  simp only [eW] at h;simp only [List.getElem?_cons_zero,dW] at hk;subst hk;obtain⟨⟨b,off,vs,e,hb,hc,hv⟩,_⟩:=h;exact⟨b,off,vs,e,hb,fun j u hj=>by rw [gQ];exact hc j u hj,hv⟩
 |T0::r,i,k+1,T,h,hk=>by
  simp only [eW] at h;simp only [Rp] at hk;obtain⟨b,off,vs,e,hb,hc,hv⟩:=eW.get h.2 hk;exact⟨b,off,vs,e,hb,fun j u hj=>by rw [show i+(k+1)=i+1+k by omega];exact hc j u hj,hv⟩
def dN.tms {a:Option Addr} {c:Nat} (h:dN S base w (.slice a l c) L) (hS:∀b,S b→S' b) (hg:∀g,(Value.slice a l c).ownBlock=some g→S' g):eW S' w L a 0:=by
 by_cases hL:L= []
 ·subst hL;simp only [eW]
 ·obtain⟨T,hT⟩:∃T,L[0]?=some T:=by
   cases L with
   |nil=>exact absurd rfl hL
   |cons x r=>exact⟨x,rfl⟩
  obtain⟨g,c',C,vs,e,_,_,hC,_⟩:=h.at hT;injection e with e1 _ _
  subst e1;refine HS (hg g rfl) L 0 fun k T' a0=>?_
  obtain⟨g',c'',C',vs',e',_,_,_,_,hv,hc⟩:=h.at a0;injection e' with e1 _ _
  injection e1 with e1
  injection e1 with e1 _
  subst e1;exact⟨vs',fun j u hj=>by rw [dH,dH];exact hc j u hj,TmS.mono hS _ _ hv⟩
def stp (cal:Tm→Bool) (s:List (List Tm) × List Tm) (g:Tm):List (List Tm) × List Tm:=if cal g then(s.1++ [s.2++ [g]],[]) else(s.1,s.2++ [g])
def stc (cal:Tm→Bool) (h:Tm) (L:List Tm):List (List Tm) × List Tm:=L.foldl (stp cal) ([],[h])
def eS (cal:Tm→Bool) (h:Tm) (L:List Tm):List (List Tm):=if(stc cal h L).2= [] then(stc cal h L).1 else(stc cal h L).1++ [(stc cal h L).2]
def CT {g:Tm} (hg:L[i]?=some g):stc cal h (L.take (i+1))=stp cal (stc cal h (L.take i)) g:=by
 unfold stc;rw [mA,hg,ZQ,GX];rfl
def HX (L:List Tm):(stc cal h L).1.length≤L.length∧(stc cal h L).2.length≤L.length+1∧∀r∈(stc cal h L).1,r.length≤L.length+1:=by
 have key:∀(L:List Tm) (s:List (List Tm) × List Tm) (m:Nat),s.1.length≤m→s.2.length≤m+1→(∀r∈s.1,r.length≤m+1)→(L.foldl (stp cal) s).1.length≤m+L.length∧(L.foldl (stp cal) s).2.length≤m+L.length+1∧∀r∈(L.foldl (stp cal) s).1,r.length≤m+L.length+1:=by
  intro L
  induction L with
  |nil=>intro s m h1 h2 h3;exact⟨by simpa using h1,by simpa using h2,fun r hr=>by have:=h3 r hr;simpa using this⟩
  | cons g r ih=>
   intro s m h1 h2 h3;simp only [wP,jD];have:=ih (stp cal s g) (m+1) (by unfold stp;split<;>simp<;>omega) (by unfold stp;split<;>simp<;>omega) (by
    unfold stp;split
    ·intro r hr;simp only [eY,mP] at hr;rcases hr with hr|rfl
     ·have:=h3 r hr;omega
     ·simp;omega
    ·intro r hr;have:=h3 r hr;omega)
   rw [show m+(r.length+1)=m+1+r.length by omega];exact this
 have:=key L ([],[h]) 0 (by simp) (by simp) (by simp);simpa [stc] using this
end
end Go.Proofs.YtealgacfnbbgdaaGreatDoor
namespace Go.Heavy
variable {Q:Act→Wo→Prop} {b:Bool} {a:Act} {w w':Wo} {i j id:Nat} {listed:Array Bool} {o oi:Oper} {C2 D:Wo→Prop}
inductive WPl where
 |done
 |pre (i:Nat) (p:WPl)
 |both (i:Nat) (p:WPl)
 |one (i:Nat) (p:WPl)
 |two (i j:Nat) (p q:WPl)
def WPl.size:WPl→Nat
 | .done=>0
 | .pre _ p=>p.size+1
 | .both _ p=>p.size+1
 | .one _ p=>p.size+1
 | .two _ _ p _=>p.size+1
def okW (md:Region.Mode) (ops:Array Oper) (s:Nat):WPl→Array Bool→Bool
 | .done,listed=>Region.seqB md ops 0 0 listed
 | .pre i p,listed=>(Region.ready md ops listed).contains i&&Region.free md ops listed i&&decide (i≠s)&&waits md ops s i&&okW md ops s p (listed.setIfInBounds i true)
 | .both i p,listed=>(Region.ready md ops listed).contains i&&Region.free md ops listed i&&decide (i≠s)&&okW md ops s p (listed.setIfInBounds i true)
 | .one i p,listed=>Region.ready md ops listed== [i]&&okW md ops s p (listed.setIfInBounds i true)
 | .two i j p q,listed=>Region.ready md ops listed== [i,j]&&decide (p.size=q.size)&&okW md ops s p (listed.setIfInBounds i true)&&okW md ops s q (listed.setIfInBounds j true)
section
variable {P:Program} {ops:Array Oper} {md:Region.Mode} {C:Wo→Prop} {s:Nat}
def jP (P:Program) (ops:Array Oper) (s:Nat) (C:Wo→Prop) (Q:Act→Wo→Prop):WPl→Bool→Act→Wo→Prop
 | .done,_,a,w=>Q a w
 | .pre i p,b,a,w=>∃o v,ops[i]?=some o∧St P ops C o v a∧jP P ops s C Q p b (a.put o.dst v) w
 | .both i p,b,a,w=>∃o v,ops[i]?=some o∧St P ops (fun _=>True) o v a∧jP P ops s C Q p b (a.put o.dst v) w
 | .one i p,b,a,w=>∃o,ops[i]?=some o∧sI P ops o (fun a' w'=>(b=false→i≠s→C w')∧jP P ops s C Q p (b||i==s) a' w') a w
 | .two i j p q,b,a,w=>(∃o,ops[i]?=some o∧sI P ops o (fun a' w'=>(b=false→i≠s→C w')∧jP P ops s C Q p (b||i==s) a' w') a w)∧∃o,ops[j]?=some o∧sI P ops o (fun a' w'=>(b=false→j≠s→C w')∧jP P ops s C Q q (b||j==s) a' w') a w
def oU (h:j∈Region.ready md ops listed):j<ops.size:=by
 obtain⟨_,oj,hoj,_⟩:=sW.1 h;exact(cV.1 hoj).1
def UM {v:Value} {L:Array Bool→Act→Wo→Prop} (a4:i≠s) (hD:∀listed w,HeadInv md ops ops.size listed→listed.getD i true=false→Kat s C C2 listed w→D w) (hi:ops[i]?=some oi) (a1:∀(j:Nat) (o:Oper) cs b,ops[j]?=some o→o.op≠ .select cs b)
  (b1:∀listed a w,L listed a w→∀j∈Region.ready md ops listed,ops.size≤j):
  ∀(f:Nat) (listed:Array Bool) (a:Act) (w:Wo),Kat s C C2 listed w→HeadInv md ops ops.size listed→
   (∀j oj,ops[j]?=some oj→j≠i→listed.getD j true=false→(∀e∈oj.after,Region.binds md e=true→e.on≠i)→oi.apart ops oj=true)→
   i∈Region.ready md ops listed→St P ops D oi v a→AK P md ops (Kat s C C2) ops.size L f (listed.setIfInBounds i true) (a.put oi.dst v) w→AK P md ops (Kat s C C2) ops.size L (f+1) listed a w:=by
 intro f
 induction f with
 | zero=>
  intro listed a w hw a3 _ hr hy H;have b0:=(sW.1 hr).1;refine⟨fun h=>(by rw [h] at hr;cases hr),fun j hj=>?_⟩;have b6:=oU hj;refine⟨b6,?_⟩
  by_cases a6:j=i
  ·subst a6;exact hy.one hi (hD _ _ a3 b0 hw) ⟨(Kat.other a4).2 hw,H⟩
  ·have:=b1 _ _ _ H j (BP hj a6);omega
 | succ f ih=>
  intro listed a w hw a3 a7 hr hy H;have b0:=(sW.1 hr).1;refine⟨fun h=>(by rw [h] at hr;cases hr),fun j hj=>?_⟩;have b6:=oU hj;refine⟨b6,?_⟩
  by_cases a6:j=i
  ·subst a6;exact hy.one hi (hD _ _ a3 b0 hw) ⟨(Kat.other a4).2 hw,H⟩
  ·have h1:=(H.2 j (BP hj a6)).2;obtain⟨b2,oj,hoj,hall⟩:=sW.1 hj;have b7:∀e∈oj.after,Region.binds md e=true→e.on≠i:=fun e he hb c2=>by
    have h1:=hall e he hb;rw [c2,getD_both b0] at h1;cases h1
   have h2:=SF (C:=D) hoj (a7 j oj hoj a6 b2 b7) (fun cs b=>a1 i oi cs b hi) (fun cs b=>a1 j oj cs b hoj) hy h1;have a8:∀k ok,ops[k]?=some ok→k≠i→(listed.setIfInBounds j true).getD k true=false→
     (∀e∈ok.after,Region.binds md e=true→e.on≠i)→oi.apart ops ok=true:=fun k ok hk c3 b3 c4=>by
    refine a7 k ok hk c3 ?_ c4
    by_cases c0:j=k
    ·subst c0;exact b2
    ·rw [getD_set_ne true c0] at b3;exact b3
   refine SG (fun a' w' h3=>?_) h2;have hK:Kat s C C2 (listed.setIfInBounds j true) w':=by
    have:=h3.2.1;rw [Bg _ _ (fO a6),Kat.other a4] at this;exact this
   refine⟨hK,ih (listed.setIfInBounds j true) a' w' hK (a3.set hj b6) a8 (BP hr (fO a6)) h3.1 ?_⟩;rw [Bg _ _ a6];exact h3.2.2
def KF (hb:listed.getD s false=b) (hi:i<listed.size) (h:b=false→i≠s→C w'):Kat s C (fun _=>True) (listed.setIfInBounds i true) w'∧(listed.setIfInBounds i true).getD s false=(b||i==s):=by
 by_cases a4:i=s
 ·subst a4;have e:(listed.setIfInBounds i true).getD i false=true:=by
   rw [rX,wR hi];rfl
  refine⟨?_,by rw [e];simp⟩;unfold Kat;rw [if_pos e];trivial
 ·have e:=EP (listed:=listed) a4 false;refine⟨?_,by rw [e,hb];simp [a4]⟩;unfold Kat;rw [e,hb];cases b with
  |true=>simp
  |false=>simpa using h rfl a4
def xQ {Lq:Act→Wo→Prop} (a1:Region.noSelect ops=true):
  ∀(p:WPl) (b:Bool) (listed:Array Bool) (a:Act) (w:Wo),listed.getD s false=b→Kat s C (fun _=>True) listed w→HeadInv md ops ops.size listed→okW md ops s p listed=true→jP P ops s C Lq p b a w→
   AK P md ops (Kat s C (fun _=>True)) ops.size (fun a0 a' w'=>Region.seqB md ops 0 0 a0=true∧Lq a' w') p.size listed a w
 | .done,b,listed,a,w,_,_,_,hB,h=>⟨hB,h⟩
 | .pre i p,b,listed,a,w,hb,hw,a3,hB,h=>by
  simp only [okW,aR,iO] at hB;obtain⟨⟨⟨⟨hr,hf⟩,a4⟩,hwt⟩,hB'⟩:=hB;have a9:i∈Region.ready md ops listed:=by simpa using hr
  obtain⟨o,v,h0,hy,hK⟩:=h;refine UM a4 (fun a0 w' b4 b0 b5=>?_) h0 (ZO a1) (fun a0 a' w' hL j hj=>?_) p.size listed a w hw a3 (ZP h0 hf) a9 hy
   (xQ a1 p b _ _ _ (by rw [EP a4];exact hb) ((Kat.other a4).2 hw) (a3.set a9 (oU a9)) hB' hK)
  ·unfold Kat at b5;rw [if_neg] at b5
   ·exact b5
   ·intro c5;unfold waits at hwt;cases hos:ops[s]? with
    |none=>rw [hos] at hwt;cases hwt
    |some os=>
     rw [hos] at hwt;obtain⟨e,he,hb⟩:=Array.any_eq_true'.1 hwt;simp only [aR,tE] at hb;have h3:=b4.closed s os hos c5 e he hb.1;rw [hb.2,getD_both b0] at h3;cases h3
  ·have:=hL.1;simp only [Region.seqB,List.isEmpty_iff] at this;rw [this] at hj;cases hj
 | .both i p,b,listed,a,w,hb,hw,a3,hB,h=>by
  simp only [okW,aR,iO] at hB;obtain⟨⟨⟨hr,hf⟩,a4⟩,hB'⟩:=hB;have a9:i∈Region.ready md ops listed:=by simpa using hr
  obtain⟨o,v,h0,hy,hK⟩:=h;refine UM a4 (fun a0 w' b4 b0 b5=>trivial) h0 (ZO a1) (fun a0 a' w' hL j hj=>?_) p.size listed a w hw a3 (ZP h0 hf) a9 hy
   (xQ a1 p b _ _ _ (by rw [EP a4];exact hb) ((Kat.other a4).2 hw) (a3.set a9 (oU a9)) hB' hK)
  have:=hL.1;simp only [Region.seqB,List.isEmpty_iff] at this;rw [this] at hj;cases hj
 | .one i p,b,listed,a,w,hb,hw,a3,hB,h=>by
  simp only [okW,aR,iO] at hB;obtain⟨hr,hB'⟩:=hB;have a2:Region.ready md ops listed= [i]:=by simpa using hr
  obtain⟨o,h0,h1⟩:=h;refine⟨by rw [a2];simp,fun k hk=>?_⟩;have a5:k∈Region.ready md ops listed:=hk;rw [a2] at hk;have:k=i:=by simpa using hk
  subst this;refine⟨oU a5,?_⟩;unfold kZ;rw [h0];refine vO (fun a' w' ⟨h2,h3⟩=>?_) h1;have hh:=KF (C:=C) hb (by rw [a3.size];exact oU a5) h2;exact⟨hh.1,xQ a1 p _ _ a' w' hh.2 hh.1 (a3.set a5 (oU a5)) hB' h3⟩
 | .two i j p q,b,listed,a,w,hb,hw,a3,hB,h=>by
  simp only [okW,aR,iO] at hB;obtain⟨⟨⟨hr,hpq⟩,hB1⟩,hB2⟩:=hB;have a2:Region.ready md ops listed= [i,j]:=by simpa using hr
  obtain⟨⟨o,h0,h1⟩,o',h0',h1'⟩:=h;refine⟨by rw [a2];simp,fun k hk=>?_⟩;have a5:k∈Region.ready md ops listed:=hk;rw [a2] at hk;refine⟨oU a5,?_⟩;have:k=i∨k=j:=by simpa using hk
  unfold kZ;rcases this with rfl|rfl
  ·rw [h0];refine vO (fun a' w' ⟨h2,h3⟩=>?_) h1;have hh:=KF (C:=C) hb (by rw [a3.size];exact oU a5) h2;exact⟨hh.1,xQ a1 p _ _ a' w' hh.2 hh.1 (a3.set a5 (oU a5)) hB1 h3⟩
  ·rw [h0'];refine vO (fun a' w' ⟨h2,h3⟩=>?_) h1';have hh:=KF (C:=C) hb (by rw [a3.size];exact oU a5) h2;have:=xQ a1 q _ _ a' w' hh.2 hh.1 (a3.set a5 (oU a5)) hB2 h3;rw [←hpq] at this;exact⟨hh.1,this⟩
def region_whole {Q:Exit→Act→Wo→Prop} {l:List Oper} (C:Wo→Prop) (s:Nat) (p:WPl) (hm:P.follows .mixedOrders=true)
  (hB:(Region.noSelect l.toArray&&decide (p.size=l.toArray.size)&&okW .any l.toArray s p (Array.replicate l.toArray.size false))=true)
  (hw:C { w with drawn:=w.drawn+1 }) (b8:jP P l.toArray s C (fun a' w'=>wpList P l.toArray Q [] a' w') p false a { w with drawn:=w.drawn+1 }):(Code.region id l.toArray true).wp P Q a w:=by
 simp only [aR,iO] at hB;obtain⟨⟨a1,hsz⟩,hok⟩:=hB;have b9:HeadInv .any l.toArray l.toArray.size (Array.replicate l.toArray.size false):=
  ⟨by simp,fun j oj _ hl=>(by rw [BR] at hl;cases hl),fun t _ ht=>getD_in (by simpa using ht) (BR _ _)⟩
 have c1:Kat s C (fun _=>True) (Array.replicate l.toArray.size false) { w with drawn:=w.drawn+1 }:=by
  unfold Kat;rw [BR,if_neg (by simp)];exact hw
 have H:=xQ (md:=.any) a1 p false _ a _ (BR _ _) c1 b9 hok b8;refine ZG hm ?_;have:=ZE (Q':=Q) (g:=0) (fun listed a' w' hL=>wpAny_of_seq (md:=.any) (Q':=Q) [] l.toArray.size listed a' w' (fun j=>by simp) hL.1 hL.2) _ _ _ _ H;rw [hsz,gQ] at this;exact this
def wpre {p:WPl} (v:Value) (h0:ops[i]?=some o) (hg:o.guard=none) (hs:∀w,C w→uponW P (fun u w'=>u=v∧w'=w) ((execOp a.eval o).run P w)) (hK:jP P ops s C Q p b (a.put o.dst v) w):jP P ops s C Q (.pre i p) b a w:=
 ⟨o,v,h0,.inl ⟨by unfold Region.wanted;rw [hg],hs⟩,hK⟩
def wboth {p:WPl} (v:Value) (h0:ops[i]?=some o) (hg:o.guard=none) (hs:∀w,uponW P (fun u w'=>u=v∧w'=w) ((execOp a.eval o).run P w)) (hK:jP P ops s C Q p b (a.put o.dst v) w):jP P ops s C Q (.both i p) b a w:=
 ⟨o,v,h0,.inl ⟨by unfold Region.wanted;rw [hg],fun w _=>hs w⟩,hK⟩
def wone {p:WPl} (h0:ops[i]?=some o) (hg:o.guard=none) (hK:uponW P (fun v w'=>(b=false→i≠s→C w')∧jP P ops s C Q p (b||i==s) (a.put o.dst v) w') ((execOp a.eval o).run P w)):jP P ops s C Q (.one i p) b a w:=
 ⟨o,h0,.inl ⟨by unfold Region.wanted;rw [hg],hK⟩⟩
def wtwo {p q:WPl} (h1:jP P ops s C Q (.one i p) b a w) (h2:jP P ops s C Q (.one j q) b a w):jP P ops s C Q (.two i j p q) b a w:=⟨h1,h2⟩
def wnorm {p:WPl} {a':Act} (e:a=a') (h:jP P ops s C Q p b a' w):jP P ops s C Q p b a w:=e▸h
def wdone (hQ:Q a w):jP P ops s C Q .done b a w:=hQ
end
end Go.Heavy
namespace Go.Heavy
open Go.RowKit Go.RowsK
def wone_app {P:Program} {a6 a3:TypeId} {size bytes:Nat} {z:Value} (E:El P a6 a3 size bytes z) {ops:Array Oper} {C:Wo→Prop} {s i:Nat} {p:WPl} {b:Bool} {Q:Act→Wo→Prop} {o:Oper} {a:Act} {w:Wo} (h0:ops[i]?=some o) (hg:o.guard=none) (sr x:Operand)
  (ho:o.op= .call { callee:=.builtin .append,args:=#[sr,x],argTypes:=#[a6,a6] }) (base:Nat) (v:Value) (n:Nat) (xs:Lv) (hs:a.eval sr=v) (a4:w.ownsRow base a3 size v n xs)
  (v2:Value) (m:Nat) (a0:Lv) (hx:a.eval x=v2) (a5:iT w v2 m a0) (hl:a0.length=m*size) (h1:∀u∈a0,u.oneCell'=true)
  (a7:n+m≤maxLen) (a1:(n+m)*bytes≤140737488355328) (a2:base≤w.heap.size)
  (h:∀v' w',w'.ownsRow base a3 size v' (n+m) (xs++a0)→w.grownBy w' v.ownBlock→(v'.ownBlock=v.ownBlock∨v'.ownBlock=some w.heap.size)→(b=false→i≠s→C w')∧jP P ops s C Q p (b||i==s) (a.put o.dst v') w'):jP P ops s C Q (.one i p) b a w:=by
 refine wone h0 hg ?_;obtain⟨v',w',hr,h2,h3,h4⟩:=QG E w o.type base v n xs a4 v2 m a0 a5 hl h1 a7 a1 a2;unfold execOp;simp only [ho,resolve,invoke,builtin,cX,dV,eD,List.map_toArray,kL,GS,hs,hx,hr];exact h v' w' h2 h3 h4
end Go.Heavy
namespace Go.Proofs.YtealgacfnbbgdaaGreatDoor
open Go.RowKit Go.Big Go.RowsK Go.MapK
variable {D:List (List Tm)} {S:Nat→Prop} {l:List Tm} {w w2 wr W:Wo} {v s3 v5:Value} {e e':TypeId} {C' C C5 C6:Array Value} {X xs:Lv} {n base B c k b a:Nat}
attribute [local go_sem] Heavy.uponW
def PZ (w:Wo) {p q:Addr} (h:p.block≠q.block) (u v:Value):(w.setCell p u).setCell q v=(w.setCell q v).setCell p u:=by
 simp only [World.setCell];congr 1;apply wS;intro i;simp only [rW]
 by_cases h1:p.block=i<;>by_cases h2:q.block=i<;>simp_all
def vN {size:Nat} (h:W.ownsRow base e size v (k+1) xs):∃g cap C,v= .slice (some ⟨g,0,none⟩) (k+1) cap∧W.heap[g]?=some (.cells C e (0,0))∧(k+1)*size≤C.size:=by
 rcases h.2 with⟨_,h0⟩|⟨g,cap,C,rfl,_,h1,h2,_,h3,_⟩
 ·omega
 ·exact⟨g,cap,C,rfl,h1,by rw [h3];exact fP _ h2⟩
def MF {f f':Nat × Nat} (h:w.heap[a]?=some (.cells C e f)) (h':w.heap[b]?=some (.cells C' e' f')) (he:e≠e'):a≠b:=fun q=>by
 subst q;rw [h] at h';injection h' with h'
 injection h' with _ h'
 exact he h'
def xD {size:Nat} (h:w.ownsRow base e size v n X) (h':w.heap[b]?=some (.cells C' e' (0,0))) (he:e≠e'):v.ownBlock≠some b:=fun q=>by
 rcases h.2 with⟨rfl,_⟩|⟨g,cap,C,rfl,_,h1,_⟩
 ·cases q
 ·simp only [Value.ownBlock,dW] at q;subst q;exact MF h1 h' he rfl
def RW {a8 size:Nat} {Y:Lv} (h:w.ownsRow base e size v n X) (h':w.ownsRow a8 e size v n Y):X=Y:=by
 obtain⟨hl,⟨rfl,e0⟩|⟨g,cap,cur,rfl,hb,hg,hnc,hm,hs,ht⟩⟩:=h
 ·subst e0;have h2:=h'.1;rw [wK] at hl h2;rw [mE hl,mE h2]
 ·obtain⟨d4,⟨e1,_⟩|⟨g',cap',cur',e1,a2,hg',hnc',hm',hs',ht'⟩⟩:=h'
  ·exact absurd e1 (by simp)
  ·injection e1 with e1 _ _
   injection e1 with e1
   injection e1 with e1
   subst e1;rw [hg] at hg';injection hg' with hg'
   injection hg' with hg'
   subst hg';rw [←ht,ht']
def ChJ (D:List (List Tm)) (l:List Tm) (S:Nat→Prop) (w w2 wr:Wo) (s3:Value):Prop:=
 ∃X,Bz w wr∧w2.heap.size≤wr.heap.size∧wr.ownsRow w.heap.size 25 1 s3 (D.length+1) X∧Rws S w.heap.size wr X (D++ [l])∧(∀z∈s3::X,∀g,z.ownBlock=some g→¬S g)∧eB S w2 wr
def ChJ.size (h:ChJ D l S w w2 wr s3):w.heap.size≤wr.heap.size:=by
 obtain⟨_,hb,_⟩:=h;exact hb.size
def ChJ.same (h:ChJ D l S w w2 wr s3):eB S w2 wr:=by
 obtain⟨_,_,_,_,_,_,h⟩:=h;exact h
def ChJ.below {w':Wo} (h:ChJ D l S w w2 wr s3) (hb:Bz wr w') (hS:∀b,S b→b<w2.heap.size):ChJ D l S w w2 w' s3:=by
 obtain⟨X,h1,h2,h3,h4,h5,h6⟩:=h;have hk:eB S wr w':=eB.of_below hb fun b hb=>by have:=hS b hb;omega
 exact⟨X,h1.trans (hb.mono h1.size),aE h2 hb.size,jF h3 hb (aA _),h4.keep (fun _ h=>h) hk fun u hu g hg=>hb.block g (h4.lt u hu g hg).2,h5,fun b a2=>(hk b a2).trans (h6 b a2)⟩
def ChJ.outer (h:ChJ D l S w w2 wr (.slice (some ⟨B,0,none⟩) n c)):∃CB,wr.heap[B]?=some (.cells CB 25 (0,0))∧D.length+1≤CB.size∧w.heap.size≤B:=by
 obtain⟨_,_,_,h5,_⟩:=h;have d0:=(lX h5 B rfl).1;obtain⟨g,cap,C,e,h1,h2⟩:=vN h5;injection e with e _ _
 injection e with e
 injection e with e
 subst e;exact⟨C,h1,by omega,d0⟩
def ChJ.last (h:ChJ D l S w w2 wr (.slice (some ⟨B,0,none⟩) n c)):
  ∃au cu Xu,B<wr.heap.size∧wr.cell? ⟨B,D.length,none⟩=some (.slice au l.length cu)∧wr.ownsRow w.heap.size 27 7 (.slice au l.length cu) l.length Xu:=by
 obtain⟨X,h3,h4,h5,h6,h7,h8⟩:=h;obtain⟨a0,c0,e0,hr⟩:=gZ h5;obtain⟨u,hu⟩:∃u,X[D.length]?=some u:=⟨X[D.length]'(by rw [h6.1];simp),cE _⟩;have a4:=h6.2.1 D.length u l hu (by simp);obtain⟨au,cu,rfl⟩:=a4.form;obtain⟨Xu,hXu,_⟩:=a4;rcases hr with hr|⟨g,e1,hb,hg,hc⟩
 ·omega
 ·injection e0 with e0 _ _
  rw [←e0] at e1;injection e1 with e1
  injection e1 with e1
  subst e1;exact⟨au,cu,Xu,hg,hc _ _ hu,hXu⟩
def ChJ.store {wo wz w5 w6:Wo} {cu g5 c5:Nat} {au:Option Addr} {Xu Z vs:Lv} {T:Tm} (hJ:ChJ D l S w w2 wo (.slice (some ⟨B,0,none⟩) n c)) (hn:n=D.length+1)
  (hu:wo.cell? ⟨B,D.length,none⟩=some (.slice au l.length cu)) (hX:wo.ownsRow w.heap.size 27 7 (.slice au l.length cu) l.length Xu) (bO:Bz wo wz)
  (a5:wz.grownBy w5 (Value.slice au l.length cu).ownBlock) (b9:(Value.slice (some ⟨g5,0,none⟩) (l.length+1) c5).ownBlock=(Value.slice au l.length cu).ownBlock∨(Value.slice (some ⟨g5,0,none⟩) (l.length+1) c5).ownBlock=some wz.heap.size)
  (h5:w5.ownsRow w.heap.size 27 7 (.slice (some ⟨g5,0,none⟩) (l.length+1) c5) (l.length+1) (Xu++Z)) (hZ:Z.length=7) (c3:w5.heap[g5]?=some (.cells C5 27 (0,0)))
  (k1:w6.heap[g5]?=some (.cells C6 27 (0,0))) (k2:C6.size=C5.size) (k3:∀j,j<l.length*7∨l.length*7+7≤j→C6[j]?=C5[j]?) (k4:∀(m:Nat) u,vs[m]?=some u→C6[l.length*7+m]?=some u) (k5:∀b,b≠g5→w6.heap[b]?=w5.heap[b]?) (k6:Below g5 w5 w6)
  (hT:TmS S wo T vs) (d2:vs.length=7) (hS:∀b,S b→b<w2.heap.size):ChJ D (l++ [T]) S w w2 (w6.setCell ⟨B,D.length,none⟩ (.slice (some ⟨g5,0,none⟩) (l.length+1) c5)) (.slice (some ⟨B,0,none⟩) n c):=by
 subst hn;obtain⟨CB,hCB,_,hBw⟩:=hJ.outer;obtain⟨X,h1,h2,h3,h4,h6,h7⟩:=hJ;have a9:=(cV.1 hCB).1;have b6:w.heap.size≤g5:=(lX h5 g5 rfl).1;have b5:X[D.length]?=some (.slice au l.length cu):=by
  obtain⟨a0,c0,e0,hr⟩:=gZ h3;obtain⟨u,hu'⟩:∃u,X[D.length]?=some u:=⟨X[D.length]'(by rw [h4.1];simp),cE _⟩;rcases hr with hr|⟨g,e1,hb,hg,hc⟩
  ·omega
  ·injection e0 with e0 _ _
   rw [←e0] at e1;injection e1 with e1
   injection e1 with e1
   subst e1;have:=hc _ _ hu';rw [hu] at this;rw [hu',←bP this]
 have a4:=h4.2.1 D.length _ l b5 (by simp);have a7:(Value.slice au l.length cu).ownBlock=some g5∨wz.heap.size=g5:=by
  rcases b9 with e|e
  ·exact .inl e.symm
  ·exact .inr (bP e.symm)
 have a3:∀b,b<wo.heap.size→(Value.slice au l.length cu).ownBlock≠some b→w6.heap[b]?=wo.heap[b]?:=fun b hb b1=>by
  have hz:=bO.size;have c9:b≠g5:=fun e=>by
   subst e;rcases a7 with e|e
   ·exact b1 e
   ·omega
  exact(k5 b c9).trans ((a5.block b (by omega) (fun e=>b1 e.symm)).trans (bO.block b hb))
 have c1:∀b,S b→(Value.slice au l.length cu).ownBlock≠some b:=fun b hb e=>h6 _ (mR _ (bV b5)) b e hb
 have hk:eB S wo w6:=fun b hb=>a3 b (by have:=hS b hb;omega) (c1 b hb)
 have b3:¬S B:=h6 _ (oI ..) B rfl;have b4:¬S g5:=fun hb=>by
  rcases a7 with e|e
  ·exact c1 g5 hb e
  ·have:=hS _ hb;have:=bO.size;omega
 obtain⟨d3,hXu',hterms⟩:=a4;obtain rfl:=RW hXu' hX;have b7:dN S w.heap.size w6 (.slice (some ⟨g5,0,none⟩) (l.length+1) c5) (l++ [T]):=dN.grow hX hterms h5 hZ (fun C g hg hC=>by
  have e:g5=g:=by simpa [Value.ownBlock] using hg
  subst e;rw [c3] at hC;injection hC with hC
  injection hC with hC
  subst hC;exact⟨C6,k1,k2,k3,k4⟩) hk hT d2
 have b0:=h4.upd b5 (fun _ h=>h) hk a3 b7 fun g hg=>by
  have e:g5=g:=by simpa [Value.ownBlock] using hg
  subst e;rcases a7 with e|e
  ·exact .inl e
  ·right;have:=bO.size;omega
 have b8:(D++ [l]).set D.length (l++ [T])=D++ [l++ [T]]:=by simp
 rw [b8] at b0;have c2:(Value.slice au l.length cu).ownBlock≠some B:=xD hX hCB (by decide);have b2:w6.heap[B]?=some (.cells CB 25 (0,0)):=(a3 B a9 c2).trans hCB;have a1:∀b,b≠B→(w6.setCell ⟨B,D.length,none⟩ (.slice (some ⟨g5,0,none⟩) (l.length+1) c5)).heap[b]?=w6.heap[b]?:=fun b hb=>iQ w6 ⟨B,D.length,none⟩ _ b hb
 have c4:w6.ownsRow w.heap.size 25 1 (.slice (some ⟨B,0,none⟩) (D.length+1) c) (D.length+1) X:=tV h3 fun g hg=>by
  have e:B=g:=by simpa [Value.ownBlock] using hg
  subst e;exact a3 B a9 c2
 have c7:Bz w w5:=(h1.trans (bO.mono h1.size)).grown a5 (by have:=h1.size;have:=bO.size;omega) fun k hk=>(lX hX k hk).1
 have c8:Bz w w6:=c7.trans (k6.mono b6);refine⟨X.set D.length (.slice (some ⟨g5,0,none⟩) (l.length+1) c5),c8.setCell (p:=⟨B,D.length,none⟩) hBw _,?_,Hu _ c4 (by omega),?_,?_,?_⟩
 ·have:=k6.size;have:=a5.size;have:=bO.size;rw [ZL];omega
 ·refine b0.keep (fun _ h=>h) (fun b hb=>a1 b fun e=>b3 (e▸hb)) fun u d1 g hg=>a1 g fun e=>?_
  subst e;obtain⟨k,hk'⟩:=mQ.1 d1;have hl:k<(D++ [l++ [T]]).length:=by rw [←b0.1];exact(aZ.1 hk').1
  obtain⟨Y,hY,_⟩:=b0.2.1 k u _ hk' (cE hl);exact xD hY b2 (by decide) hg
 ·intro z hz g hg hb;rcases cN.1 hz with rfl|hz
  ·have e:B=g:=by simpa [Value.ownBlock] using hg
   subst e;exact b3 hb
  ·rcases GQ hz with hz|rfl
   ·exact h6 z (mR _ hz) g hg hb
   ·have e:g5=g:=by simpa [Value.ownBlock] using hg
    subst e;exact b4 hb
 ·intro b hb;exact(a1 b fun e=>b3 (e▸hb)).trans ((hk b hb).trans (h7 b hb))
def ChJ.push {ws w5:Wo} (hb:Bz w wr) (h2:w2.heap.size≤wr.heap.size) (h3:wr.ownsRow w.heap.size 25 1 v (D.length+1) X) (h4:Rws S w.heap.size wr X (D++ [l])) (h6:∀z∈v::X,∀g,z.ownBlock=some g→¬S g) (h7:eB S w2 wr)
  (bO:Bz wr ws) (a5:ws.grownBy w5 v.ownBlock) (b9:v5.ownBlock=v.ownBlock∨v5.ownBlock=some ws.heap.size) (h5:w5.ownsRow w.heap.size 25 1 v5 (D.length+1+1) (X++ [.slice none 0 0])) (hS:∀b,S b→b<w2.heap.size):ChJ (D++ [l]) [] S w w2 w5 v5:=by
 have hz:=bO.size;have b1:∀u∈X,∀g,u.ownBlock=some g→v.ownBlock≠some g:=fun u hu g hg e=>by
  obtain⟨k,hk⟩:=mQ.1 hu;have hl:k<(D++ [l]).length:=by rw [←h4.1];exact(aZ.1 hk).1
  obtain⟨Y,hY,_⟩:=h4.2.1 k u _ hk (cE hl);obtain⟨g',cap,C,rfl,hC,_⟩:=vN h3;have e':g'=g:=by simpa [Value.ownBlock] using e
  subst e';exact xD hY hC (by decide) hg
 have hk:eB S wr w5:=fun b a2=>by
  have:=hS b a2;exact(a5.block b (by omega) fun e=>h6 v (oI ..) b e.symm a2).trans (bO.block b (by omega))
 have c6:Rws S w.heap.size w5 X (D++ [l]):=h4.keep (fun _ h=>h) hk fun u hu g hg=>by
  have:=(h4.lt u hu g hg).2;exact(a5.block g (by omega) fun e=>b1 u hu g hg e.symm).trans (bO.block g this)
 refine⟨X++ [.slice none 0 0],(hb.trans (bO.mono hb.size)).grown a5 (by have:=hb.size;omega) fun k hk=>(lX h3 k hk).1,by have:=a5.size;omega,by rw [aV,oJ];exact h5,c6.push ⟨[],qD _ _ _ _,fun k T hT=>by simp at hT⟩ fun u' _ g _ e=>by simp [Value.ownBlock] at e,?_,fun b a2=>(hk b a2).trans (h7 b a2)⟩;intro z a6 g hg a2;rcases cN.1 a6 with rfl|a6
 ·rcases b9 with e|e
  ·exact h6 v (oI ..) g (e▸hg) a2
  ·rw [e] at hg;have:=bP hg;have:=hS g a2;omega
 ·rcases eY.1 a6 with a6|a6
  ·exact h6 z (mR _ a6) g hg a2
  ·simp at a6;subst a6;simp [Value.ownBlock] at hg
