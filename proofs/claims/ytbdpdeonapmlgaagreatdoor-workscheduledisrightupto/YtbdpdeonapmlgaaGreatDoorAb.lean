/- Lemmas; no condition. -/
import Derived.Test.YtbdpdeonapmlgaaGreatDoorAa
import Derived.Laws.OwnMore
import Derived.ArgAppend
set_option linter.all false
set_option maxHeartbeats 4000000
set_option maxRecDepth 100000
namespace Go.Proofs.YtbdpdeonapmlgaaGreatDoor
open Go.RowKit Go.Big
inductive Tm where
 |mk (k v:Int) (nm:ByteArray) (g:Bool) (num den:List Nat) (args:List Tm)
mutual
def TmV (n:Nat) (w:Wo):Tm→Lv→Prop
 | .mk k v nm g num den args,vs=>∃s1 s2 a c,vs= [.int .i64 k,.int .i64 v,.string nm,.bool g,s1,s2,.slice a args.length c]∧NumAt n w g s1 s2 num den∧bS n w args a 0∧args.length≤1048576∧num.length≤1048576∧den.length≤1048576
def bS (n:Nat) (w:Wo):List Tm→Option Addr→Nat→Prop
 | [],_,_=>True
 |T::r,a,i=>(∃b off vs,a=some ⟨b,off,none⟩∧b<n∧(∀(j:Nat) u,vs[j]?=some u→w.cell? ⟨b,off+i*7+j,none⟩=some u)∧TmV n w T vs)∧bS n w r a (i+1)
end
mutual
theorem TmV.below {n m:Nat} {w w':Wo} (hb:Below m w w') (hm:n≤m):∀(T:Tm) (vs:Lv),TmV n w T vs→TmV n w' T vs
 | .mk k v nm g num den args,vs,h=>by
  simp only [TmV] at h ⊢;obtain⟨s1,s2,a,c,e,h1,h2,h3⟩:=h;exact⟨s1,s2,a,c,e,h1.below hb hm,bS.below hb hm args a 0 h2,h3⟩
theorem bS.below {n m:Nat} {w w':Wo} (hb:Below m w w') (hm:n≤m):∀(L:List Tm) (a:Option Addr) (i:Nat),bS n w L a i→bS n w' L a i
 | [],_,_,_=>by simp only [bS]
 |T::r,a,i,h=>by
  simp only [bS] at h ⊢;obtain⟨⟨b,off,vs,e,hbn,hc,hv⟩,hr⟩:=h;exact⟨⟨b,off,vs,e,hbn,fun j u hj=>((hb.mono hm).cell (p:=⟨b,off+i*7+j,none⟩) hbn).trans (hc j u hj),TmV.below hb hm T vs hv⟩,bS.below hb hm r a (i+1) hr⟩
end
def bS.get {n:Nat} {w:Wo} {a:Option Addr}:∀{L:List Tm} {i k:Nat} {T:Tm},bS n w L a i→L[k]?=some T→∃b off vs,a=some ⟨b,off,none⟩∧b<n∧(∀(j:Nat) u,vs[j]?=some u→w.cell? ⟨b,off+(i+k)*7+j,none⟩=some u)∧TmV n w T vs
 | [],_,_,_,_,h=>by simp at h
 |T0::r,i,0,T,hs,h=>by
  simp only [bS] at hs;simp at h;subst h;simpa using hs.1
 |T0::r,i,k+1,T,hs,h=>by
  simp only [bS] at hs;have:=bS.get hs.2 (show r[k]?=some T by simpa using h);rw [show i+1+k=i+(k+1) by omega] at this;exact this
mutual
def Tm.nodes:Tm→Nat
 | .mk _ _ _ _ _ _ args=>1+Tm.nodesL args
def Tm.nodesL:List Tm→Nat
 | []=>0
 |T::r=>Tm.nodes T+Tm.nodesL r
end
def AD:∀(L M:List Tm),Tm.nodesL (L++M)=Tm.nodesL L+Tm.nodesL M
 | [],M=>by simp [Tm.nodesL]
 |T::r,M=>by simp [Tm.nodesL,AD r M];omega
def NZ {L:List Tm} {i:Nat} {T:Tm} (h:L[i]?=some T):Tm.nodesL (L.take (i+1))=Tm.nodesL (L.take i)+Tm.nodes T:=by
 rw [lT,h,AD];simp [Tm.nodesL]
end Go.Proofs.YtbdpdeonapmlgaaGreatDoor
namespace Go.RowsK
open Go.RowKit
variable {e a3 a4:TypeId} {v z:Value} {size n base m:Nat} {P:Program} {xs:Lv} {w w':Wo}
structure El (P:Program) (a4 a3:TypeId) (size bytes:Nat) (z:Value):Prop where
 und:P.underlying a4=some (.slice a3)
 info:∃i,P.info? a3=some i∧i.zero=some z∧i.size=size∧i.bytes=bytes
 zs:z.cells.size=size
 pos:0<size
def SrcAt (w:Wo) (v:Value) (m:Nat) (xs:Lv):Prop:=
 (v= .slice none 0 0∧m=0∧xs= [])∨∃ad c,v= .slice (some ad) m c∧∀(j:Nat) u,xs[j]?=some u→w.cell? (ad.add j)=some u
def zD (h:w.ownsRow base e size v n xs):SrcAt w v n xs:=by
 have h0:=h;obtain⟨hl,⟨rfl,rfl⟩|⟨g,cap,cur,rfl,hb,hg,hnc,hm,hs,ht⟩⟩:=h
 ·exact .inl ⟨rfl,rfl,gI (by rw [hl];simp)⟩
 ·exact .inr ⟨⟨g,0,none⟩,cap,rfl,h0.cells (g:=g) rfl⟩
def LM {bytes:Nat} (E:El P a4 a3 size bytes z) (w:Wo) (ty:TypeId) (base:Nat) (v:Value) (n:Nat) (xs:Lv) (a2:w.ownsRow base a3 size v n xs)
  (v2:Value) (m:Nat) (a0:Lv) (a8:SrcAt w v2 m a0) (hl:a0.length=m*size) (h1:∀u∈a0,u.oneCell'=true)
  (a9:n+m≤maxLen) (a1:(n+m)*bytes≤140737488355328) (a5:base≤w.heap.size):
  ∃v' w',(Builtin.append_ #[a4,a4] ty #[v,v2]).run P w= .ok v' w'∧w'.ownsRow base a3 size v' (n+m) (xs++a0)∧w.grownBy w' v.ownBlock∧(v'.ownBlock=v.ownBlock∨v'.ownBlock=some w.heap.size):=by
 obtain⟨i,hi,hz,hz1,hz2⟩:=E.info;rcases a8 with⟨rfl,rfl,rfl⟩|⟨ad,c,rfl,hnews⟩
 ·refine⟨v,w,run_append_owned_none w base a4 ty a3 i size E.und hi v n xs a2,by simpa using a2,⟨rfl,rfl,rfl,aA _,fun _ _ _=>rfl⟩,.inl rfl⟩
 ·obtain⟨v',w',hr,h2,h3,h4⟩:=run_append_own (P:=P) w base a4 ty a3 i z size bytes E.und hi hz hz1 hz2 E.zs E.pos v n xs a2 ad m c a0 hl hnews h1 a9 a1 a5;refine⟨v',w',hr,h2,h3,?_⟩;have b1:maxLen≤9223372036854775807:=by decide
  by_cases hm:m=0
  ·subst hm;rcases a2.2 with⟨rfl,rfl⟩|⟨g,cap,cur,rfl,hbg,hg,hnc,hcm,hcs,htake⟩
   ·rw [h4.2 ⟨rfl,rfl⟩];exact .inl rfl
   ·have a6:=run_append_room (P:=P) w a4 ty a3 i E.und hi g n cap cur hg ad 0 c a0 (by rw [hz1];omega) hnews h1 (by omega) (by rw [hz1,hl,hcs,pM,fG];exact eZ _ hnc);rw [hr] at a6;injection a6 with e1 e2
    subst e1;exact .inl rfl
  ·rcases a2.2 with⟨rfl,rfl⟩|⟨g,cap,cur,rfl,hbg,hg,hnc,hcm,hcs,htake⟩
   ·have a6:=run_append_nil (P:=P) w a4 ty a3 i z E.und hi hz ad m c a0 (by rw [hz1];omega) hnews (by omega) (by omega) (by rw [hz2];rw [bT] at a1;omega);rw [hr] at a6;injection a6 with e1 e2
    subst e1;exact .inr rfl
   ·by_cases a7:n+m≤cap
    ·have a6:=run_append_room (P:=P) w a4 ty a3 i E.und hi g n cap cur hg ad m c a0 (by rw [hz1];omega) hnews h1 a7 (by rw [hz1,hl,hcs,←dP];exact eZ _ a7);rw [hr] at a6;injection a6 with e1 e2
     subst e1;exact .inl rfl
    ·have holds:∀(j:Nat) u,xs[j]?=some u→w.cell? ((⟨g,0,none⟩:Addr).add j)=some u:=a2.cells (g:=g) rfl;have a6:=run_append_grow (P:=P) w a4 ty a3 i z E.und hi hz ⟨g,0,none⟩ n cap xs (by rw [hz1];exact a2.1) holds ad m c a0 (by rw [hz1];omega) hnews (by omega) (by omega) (growslice_fits (by omega) (by rw [hz2];omega));rw [hr] at a6;injection a6 with e1 e2
     subst e1;exact .inr rfl
def jK {bytes:Nat} (E:El P a4 a3 size bytes z) {ops:Array Oper} {rest:List Oper} {o:Oper} {a:Act} {Q:Exit→Act→Wo→Prop} (w:Wo) (b0:o.guard=none) (s x:Operand)
  (ho:o.op= .call { callee:=.builtin .append,args:=#[s,x],argTypes:=#[a4,a4] }) (base:Nat) (v:Value) (n:Nat) (xs:Lv) (hs:a.eval s=v) (a2:w.ownsRow base a3 size v n xs)
  (v2:Value) (m:Nat) (a0:Lv) (hx:a.eval x=v2) (a8:SrcAt w v2 m a0) (hl:a0.length=m*size) (h1:∀u∈a0,u.oneCell'=true)
  (a9:n+m≤maxLen) (a1:(n+m)*bytes≤140737488355328) (a5:base≤w.heap.size)
  (h:∀v' w',w'.ownsRow base a3 size v' (n+m) (xs++a0)→w.grownBy w' v.ownBlock→(v'.ownBlock=v.ownBlock∨v'.ownBlock=some w.heap.size)→wpList P ops Q rest (a.put o.dst v') w'):wpList P ops Q (o::rest) a w:=by
 refine bE b0 fun K hK=>?_
 obtain⟨v',w',hr,h2,h3,h4⟩:=LM E w o.type base v n xs a2 v2 m a0 a8 hl h1 a9 a1 a5;unfold Oper.wp execOp;simp only [ho,resolve,invoke,builtin,aU,cC,cI,VU,fS,tK,hs,hx,hr];exact hK _ _ (h v' w' h2 h3 h4)
def iN (h:w.ownsRow base e size v n xs):
  ∃a cap,v= .slice a n cap∧(n=0∨∃g,a=some ⟨g,0,none⟩∧base≤g∧g<w.heap.size∧∀(j:Nat) u,xs[j]?=some u→w.cell? ⟨g,j,none⟩=some u):=by
 have h0:=h;obtain⟨hl,⟨rfl,rfl⟩|⟨g,cap,cur,rfl,hb,hg,hnc,hm,hs,ht⟩⟩:=h
 ·exact⟨none,0,rfl,.inl rfl⟩
 ·refine⟨some ⟨g,0,none⟩,cap,rfl,.inr ⟨g,rfl,hb,(aG.1 hg).1,fun j u hj=>?_⟩⟩;have:=h0.cells (g:=g) rfl j u hj;rw [jI,bT] at this;exact this
def gS (h:w.ownsRow base e size v n xs) (hk:∀g,v.ownBlock=some g→w'.heap[g]?=w.heap[g]?):w'.ownsRow base e size v n xs:=by
 obtain⟨hl,hn|⟨g,cap,cur,rfl,hb,hg,rest⟩⟩:=h
 ·exact⟨hl,.inl hn⟩
 ·exact⟨hl,.inr ⟨g,cap,cur,rfl,hb,(hk g rfl).trans hg,rest⟩⟩
def gJ (h:w.ownsRow base e size v n xs) (hb:Below m w w') (hm:w.heap.size≤m):w'.ownsRow base e size v n xs:=
 gS h fun g hg=>hb.block g (aR (h.lt g hg).2 hm)
end Go.RowsK
namespace Go.MapK
open Go.RowKit
variable {b c d j:Nat} {w:Wo}
variable {κ:Type} [DecidableEq κ]
def EsR (kv:κ→Value):List (κ × Value)→List MapEntry→Prop
 | [],[]=>True
 |p::M,e::es=>e.key=kv p.1∧e.val=p.2∧EsR kv M es
 |_,_=>False
def bI (k:κ):List (κ × Value)→Option Nat
 | []=>none
 |p::M=>if k=p.1 then some 0 else(bI k M).map (· +1)
def aL (k:κ):List (κ × Value)→Option Value
 | []=>none
 |p::M=>if k=p.1 then some p.2 else aL k M
def putM (k:κ) (v:Value):List (κ × Value)→List (κ × Value)
 | []=>[(k,v)]
 |p::M=>if k=p.1 then(p.1,v)::M else p::putM k v M
structure KL (P:Program) (kt:TypeId) (kv:κ→Value):Prop where
 inj:∀{a b:κ},kv a=kv b→a=b
 find:∀(k:κ) (w:Wo) (M:List (κ × Value)) (es:List MapEntry),EsR kv M es→(Instr.findKey kt (kv k) es).run P w= .ok ((bI k M).bind fun j=>(aL k M).map fun v=>(j,v)) w
 check:∀(em:Bool) (k:κ) (w:Wo),(Instr.checkKey em 10000 kt (kv k)).run P w= .ok () w
 bits:∀k:κ,Instr.sameBits 10000 (kv k) (kv k)=true
variable {P:Program} {kt mt vt:TypeId} {kv:κ→Value}
def RC (eq:∀(k k':κ) (w:Wo),(Op.equal kt (kv k) (kv k')).run P w= .ok (decide (k=k')) w) (k:κ) (w:Wo):∀(M:List (κ × Value)) (es:List MapEntry) (i:Nat),EsR kv M es→
  (Instr.findAsking kt (kv k) es i).run P w= .ok ((bI k M).bind fun j=>(aL k M).map fun v=>(i+j,v)) w
 | [],[],i,_=>by simp [Instr.findAsking,bI]
 | p::M,e::es,i,h=>by
  obtain⟨h1,h2,h3⟩:=h;have ih:=RC eq k w M es (i+1) h3;rw [Instr.findAsking];simp only [aU,h1,eq,Result.andThen]
  by_cases hk:k=p.1
  ·simp [hk,bI,aL,h2]
  ·simp only [hk,decide_false,eH,gX,ih,bI,aL];congr 1;cases bI k M with
   |none=>rfl
   |some j=>simp [mU,VN 1 j]
 | [],_::_,_,h=>by cases h
 |_::_,[],_,h=>by cases h
def Ex (d:TypeDesc) (hd:P.underlying kt=some d) (hn:∀a b:κ,Instr.sameNow d (kv a) (kv b)=none) (eq:∀(k k':κ) (w:Wo),(Op.equal kt (kv k) (kv k')).run P w= .ok (decide (k=k')) w) (k:κ) (w:Wo) (M:List (κ × Value)) (es:List MapEntry) (h:EsR kv M es):
  (Instr.findKey kt (kv k) es).run P w= .ok ((bI k M).bind fun j=>(aL k M).map fun v=>(j,v)) w:=by
 have e:=RC eq k w M es 0 h;have hu:(Go.underlying kt).run P w= .ok d w:=dQ hd w;unfold Instr.findKey;simp only [aU,hu,Result.andThen];cases es with
 |nil=>
  cases M with
  |nil=>simp [Instr.findNow,bI]
  |cons p M=>cases h
 | cons x es=>
  cases M with
  |nil=>cases h
  | cons p M=>
   have hx:Instr.findNow d (kv k) (x::es) 0=none:=by
    rw [Instr.findNow,h.1,hn]
   rw [hx];simpa using e
def QX (d:TypeDesc) (hn:∀a b:κ,Instr.sameNow d (kv a) (kv b)=some (decide (a=b))) (k:κ):∀(M:List (κ × Value)) (es:List MapEntry) (i:Nat),EsR kv M es→
  Instr.findNow d (kv k) es i=some ((bI k M).bind fun j=>(aL k M).map fun v=>(i+j,v))
 | [],[],i,_=>by simp [Instr.findNow,bI]
 | p::M,e::es,i,h=>by
  obtain⟨h1,h2,h3⟩:=h;have ih:=QX d hn k M es (i+1) h3;rw [Instr.findNow,h1,hn]
  by_cases hk:k=p.1
  ·simp [hk,bI,aL,h2]
  ·simp only [hk,decide_false,ih,bI,aL,gX];congr 1;cases bI k M with
   |none=>rfl
   |some j=>simp [mU,VN 1 j]
 | [],_::_,_,h=>by cases h
 |_::_,[],_,h=>by cases h
def Ew (d:TypeDesc) (hd:P.underlying kt=some d) (hn:∀a b:κ,Instr.sameNow d (kv a) (kv b)=some (decide (a=b))) (k:κ) (w:Wo) (M:List (κ × Value)) (es:List MapEntry) (h:EsR kv M es):
  (Instr.findKey kt (kv k) es).run P w= .ok ((bI k M).bind fun j=>(aL k M).map fun v=>(j,v)) w:=by
 have e:=QX d hn k M es 0 h;have hu:(Go.underlying kt).run P w= .ok d w:=dQ hd w;unfold Instr.findKey;simp only [aU,hu,Result.andThen];rw [e];simp
structure MapIs (kv:κ→Value) (M:List (κ × Value)) (es:Array MapEntry) (a0:Nat):Prop where
 rel:EsR kv M es.toList
 nodup:(M.map (·.1)).Nodup
 borns:es.toList.Pairwise fun x y=>x.born<y.born
 lt:∀e∈es.toList,e.born<a0
def aQ (kv:κ→Value) (w:Wo) (b:Nat) (M:List (κ × Value)):Prop:=∃es a0,w.heap[b]?=some (.map es a0)∧MapIs kv M es a0
def aQ.of_block {w':Wo} {M:List (κ × Value)} (h:aQ kv w b M) (e:w'.heap[b]?=w.heap[b]?):aQ kv w' b M:=by
 obtain⟨es,c,h1,h2⟩:=h;exact⟨es,c,e.trans h1,h2⟩
def aQ.lt {M:List (κ × Value)} (h:aQ kv w b M):b<w.heap.size:=by
 obtain⟨es,c,h1,h2⟩:=h;exact(aG.1 h1).1
def aQ.nodup {M:List (κ × Value)} (h:aQ kv w b M):(M.map (·.1)).Nodup:=by
 obtain⟨es,c,h1,h2⟩:=h;exact h2.nodup
def aQ.new (w:Wo) (c:Nat):aQ kv (w.alloc (.map #[] c)) w.heap.size []:=
 ⟨#[],c,by rw [show(w.alloc (.map #[] c)).heap=w.heap.push (.map #[] c) from rfl];simp,⟨trivial,by simp,by simp,by simp⟩⟩
def uL {k:κ}:∀{M:List (κ × Value)},bI k M=none↔∀p∈M,k≠p.1
 | []=>by simp [bI]
 |p::M=>by
  by_cases hk:k=p.1
  ·simp [bI,hk]
  ·simp [bI,hk,uL (M:=M)]
def qO {k:κ}:∀{M:List (κ × Value)},bI k M=none↔aL k M=none
 | []=>by simp [bI,aL]
 |p::M=>by by_cases hk:k=p.1<;>simp [bI,aL,hk,qO (M:=M)]
def DK {k:κ} {M:List (κ × Value)}:aL k M=none↔∀p∈M,k≠p.1:=qO.symm.trans uL
def vX {k:κ} {v:Value}:∀{M:List (κ × Value)},aL k M=some v→(k,v)∈M
 | [],h=>by simp [aL] at h
 | p::M,h=>by
  by_cases hk:k=p.1
  ·simp [aL,hk] at h;subst hk;subst h;simp
  ·simp [aL,hk] at h;exact rJ _ (vX h)
def oJ {k:κ} {v:Value}:∀{M:List (κ × Value)},aL k (putM k v M)=some v
 | []=>by simp [putM,aL]
 |p::M=>by
  by_cases hk:k=p.1
  ·simp [putM,aL,hk]
  ·simp [putM,aL,hk,oJ (M:=M)]
def nC {k k':κ} {v:Value} (a2:k'≠k):∀{M:List (κ × Value)},aL k' (putM k v M)=aL k' M
 | []=>by simp [putM,aL,a2]
 |p::M=>by
  by_cases hk:k=p.1
  ·subst hk;simp [putM,aL,a2]
  ·by_cases h2:k'=p.1<;>simp [putM,aL,hk,h2,nC a2 (M:=M)]
def uG {k:κ} {v:Value} {q:κ × Value}:∀{M:List (κ × Value)},q∈putM k v M→q=(k,v)∨q∈M
 | [],h=>by simp [putM] at h;exact .inl h
 | p::M,h=>by
  by_cases hk:k=p.1
  ·simp [putM,hk] at h;rcases h with h|h
   ·left;rw [h,hk]
   ·right;simp [h]
  ·simp [putM,hk] at h;rcases h with h|h
   ·right;simp [h]
   ·rcases uG h with h|h
    ·exact .inl h
    ·right;simp [h]
def FC {k k':κ} {v:Value}:∀{M:List (κ × Value)},k'∈(putM k v M).map (·.1)↔k'=k∨k'∈M.map (·.1)
 | []=>by simp [putM]
 | p::M=>by
  by_cases hk:k=p.1
  ·simp [putM,hk]
  ·simp only [putM,hk,gX,fS,cM,FC (M:=M)];constructor
   ·rintro(h|h|h)
    ·exact .inr (.inl h)
    ·exact .inl h
    ·exact .inr (.inr h)
   ·rintro(h|h|h)
    ·exact .inr (.inl h)
    ·exact .inl h
    ·exact .inr (.inr h)
def run_getMap {es:Array MapEntry} (h:w.heap[b]?=some (.map es c)):(getObj b).run P w= .ok (.map es c) w:=by simp [getObj,Sem.run,h]
def LK {m:Option Nat} {s:Array Nat} (h:w.heap[b]?=some (.mapIter m c s d)):(getObj b).run P w= .ok (.mapIter m c s d) w:=by simp [getObj,Sem.run,h]
def sF (K:KL P kt kv) (hu:P.underlying mt=some (.map kt vt)) {z:Value} (hz:∀w,(zeroValue vt).run P w= .ok z w) {w:Wo} {b:Nat} {M:List (κ × Value)} (h:aQ kv w b M) (k:κ):
  (Instr.lookup mt (.map (some b)) (kv k) false).run P w= .ok ((aL k M).getD z) w:=by
 obtain⟨es,a0,hb,hM⟩:=h;have a1:(Go.underlying mt).run P w= .ok (.map kt vt) w:=dQ hu w;unfold Instr.lookup;simp only [aU,a1,Result.andThen,run_getMap hb,cC,K.check,K.find k w M _ hM.rel];cases hi:bI k M with
 |none=>simp [qO.1 hi,hz,Result.andThen]
 |some j=>
  cases hv:aL k M with
  |none=>rw [qO.2 hv] at hi;cases hi
  |some v=>simp [Result.andThen]
def Cm (K:KL P kt kv) (hu:P.underlying mt=some (.map kt vt)) {z:Value} (hz:∀w,(zeroValue vt).run P w= .ok z w) {w:Wo} {b:Nat} {M:List (κ × Value)} (h:aQ kv w b M) (k:κ):
  (Instr.lookup mt (.map (some b)) (kv k) true).run P w= .ok (.tuple #[(aL k M).getD z,.bool (aL k M).isSome]) w:=by
 obtain⟨es,a0,hb,hM⟩:=h;have a1:(Go.underlying mt).run P w= .ok (.map kt vt) w:=dQ hu w;unfold Instr.lookup;simp only [aU,a1,Result.andThen,run_getMap hb,cC,K.check,K.find k w M _ hM.rel];cases hi:bI k M with
 |none=>simp [qO.1 hi,hz,Result.andThen]
 |some j=>
  cases hv:aL k M with
  |none=>rw [qO.2 hv] at hi;cases hi
  |some v=>simp [Result.andThen]
def EsR.length:∀{M:List (κ × Value)} {es:List MapEntry},EsR kv M es→es.length=M.length
 | [],[],_=>rfl
 |p::M,e::es,h=>by simp [EsR.length h.2.2]
 | [],_::_,h=>by cases h
 |_::_,[],h=>by cases h
def len_of (hu:P.underlying mt=some (.map kt vt)) {w:Wo} {b:Nat} {M:List (κ × Value)} (h:aQ kv w b M) (ty:TypeId):
  (Builtin.len_ #[mt] ty #[.map (some b)]).run P w= .ok (.int .i64 (M.length:Nat)) w:=by
 obtain⟨es,a0,hb,hM⟩:=h;have a1:(Go.underlying mt).run P w= .ok (.map kt vt) w:=dQ hu w;have hl:=hM.rel.length;unfold Builtin.len_;simp only [show(#[mt]:Array TypeId)[0]?=some mt from rfl,show(#[Value.map (some b)]:Array Value)[0]?=some (.map (some b)) from rfl,aU,a1,Result.andThen,run_getMap hb,cC];rw [←hl];simp [goInt]
def tZ {k:κ} {v:Value}:∀{M:List (κ × Value)},bI k M=none→putM k v M=M++ [(k,v)]
 | [],_=>rfl
 | p::M,h=>by
  by_cases hk:k=p.1
  ·simp [bI,hk] at h
  ·have:bI k M=none:=by simpa [bI,hk] using h
   simp [putM,hk,tZ this]
def EsR.put {k:κ} {v:Value}:∀{M:List (κ × Value)} {es:List MapEntry} {j:Nat},EsR kv M es→bI k M=some j→EsR kv (putM k v M) (es.modify j fun e=>{ e with key:=kv k,val:=v })
 | p::M,e::es,j,h,hi=>by
  obtain⟨h1,h2,h3⟩:=h
  by_cases hk:k=p.1
  ·obtain rfl:j=0:=by simpa [bI,hk] using hi.symm
   subst hk;simp [putM,EsR,h3]
  ·obtain⟨i,hi2,rfl⟩:∃i,bI k M=some i∧j=i+1:=by
    simp only [bI,hk,gX,tG] at hi;obtain⟨i,h,e⟩:=hi;exact⟨i,h,e.symm⟩
   simp only [putM,hk,gX,Kq,EsR];exact⟨h1,h2,EsR.put h3 hi2⟩
 | [],[],_,_,hi=>by simp [bI] at hi
 | [],_::_,_,h,_=>by cases h
 |_::_,[],_,h,_=>by cases h
def EsR.append {k:κ} {v:Value} (n:Nat):∀{M:List (κ × Value)} {es:List MapEntry},EsR kv M es→EsR kv (M++ [(k,v)]) (es++ [{ key:=kv k,val:=v,born:=n }])
 | [],[],_=>⟨rfl,rfl,trivial⟩
 |p::M,e::es,h=>⟨h.1,h.2.1,EsR.append n h.2.2⟩
 | [],_::_,h=>by cases h
 |_::_,[],h=>by cases h
def EH {k:κ} {v:Value}:∀{M:List (κ × Value)} {j:Nat},bI k M=some j→(putM k v M).map (·.1)=M.map (·.1)
 | p::M,j,hi=>by
  by_cases hk:k=p.1
  ·simp [putM,hk]
  ·obtain⟨i,hi2,rfl⟩:∃i,bI k M=some i∧j=i+1:=by
    simp only [bI,hk,gX,tG] at hi;obtain⟨i,h,e⟩:=hi;exact⟨i,h,e.symm⟩
   simp [putM,hk,EH hi2]
 | [],_,hi=>by simp [bI] at hi
def EsR.key {k:κ}:∀{M:List (κ × Value)} {es:List MapEntry} {j:Nat},EsR kv M es→bI k M=some j→∃e,es[j]?=some e∧e.key=kv k
 | p::M,e::es,j,h,hi=>by
  obtain⟨h1,h2,h3⟩:=h
  by_cases hk:k=p.1
  ·obtain rfl:j=0:=by simpa [bI,hk] using hi.symm
   exact⟨e,rfl,by rw [h1,hk]⟩
  ·obtain⟨i,hi2,rfl⟩:∃i,bI k M=some i∧j=i+1:=by
    simp only [bI,hk,gX,tG] at hi;obtain⟨i,h,e⟩:=hi;exact⟨i,h,e.symm⟩
   obtain⟨e',h4,h5⟩:=EsR.key h3 hi2;exact⟨e',by simpa using h4,h5⟩
 | [],[],_,_,hi=>by simp [bI] at hi
 | [],_::_,_,h,_=>by cases h
 |_::_,[],_,h,_=>by cases h
def KA {k:κ} {M:List (κ × Value)} (h:bI k M=some j):∃v,aL k M=some v:=by
 cases hv:aL k M with
 |none=>rw [qO.2 hv] at h;cases h
 |some v=>exact⟨v,rfl⟩
def EX (f:MapEntry→MapEntry) (hf:∀e,(f e).born=e.born):∀(l:List MapEntry) (j:Nat),(l.modify j f).map (·.born)=l.map (·.born)
 | [],_=>by simp
 |e::l,0=>by simp [hf]
 |e::l,j+1=>by simp [EX f hf l j]
def pU (K:KL P kt kv) (hu:P.underlying mt=some (.map kt vt)) {w:Wo} {b:Nat} {M:List (κ × Value)} (h:aQ kv w b M) (k:κ) (v:Value):
  ∃w',(Instr.mapUpdate mt (.map (some b)) (kv k) v).run P w= .ok () w'∧aQ kv w' b (putM k v M)∧w.grownBy w' (some b)∧w'.heap.size=w.heap.size:=by
 obtain⟨es,a0,hb,hM⟩:=h;have a1:(Go.underlying mt).run P w= .ok (.map kt vt) w:=dQ hu w;have b0:b<w.heap.size:=(aG.1 hb).1;have a3:∀o,(setObj b o).run P w= .ok () { w with heap:=w.heap.setIfInBounds b o }:=fun o=>by simp [setObj,Sem.run,hb]
 have a4:∀o,({ w with heap:=w.heap.setIfInBounds b o }:Wo).heap[b]?=some o:=fun o=>by simp [b0]
 have a6:∀o,w.grownBy { w with heap:=w.heap.setIfInBounds b o } (some b):=fun o=>⟨rfl,rfl,rfl,by simp,fun k hk a2=>by
  have:b≠k:=fun e=>a2 (by rw [e])
  simp [lV,this]⟩
 have a7:∀o,({ w with heap:=w.heap.setIfInBounds b o }:Wo).heap.size=w.heap.size:=fun o=>by simp
 unfold Instr.mapUpdate;simp only [aU,a1,Result.andThen,run_getMap hb,cC,K.check,K.find k w M _ hM.rel];cases hi:bI k M with
 | none=>
  refine⟨_,?_,⟨_,_,a4 (.map (es.push { key:=kv k,val:=v,born:=a0 }) (a0+1)),?_⟩,a6 _,a7 _⟩
  ·simp [a3]
  ·refine⟨?_,?_,?_,?_⟩
   ·rw [tZ hi];simpa using EsR.append a0 hM.rel
   ·rw [tZ hi,oF,yT];refine⟨hM.nodup,by simp,?_⟩;intro a ha c hc e;obtain⟨p,hp,rfl⟩:=cL.1 ha;simp at hc;exact uL.1 hi p hp (by rw [e,hc])
   ·rw [JQ,JD];exact⟨hM.borns,by simp,fun x hx y hy=>by simp at hy;subst hy;exact hM.lt x hx⟩
   ·intro e he;rw [JQ,cG] at he;rcases he with he|he
    ·have:=hM.lt e he;omega
    ·simp at he;subst he;show a0<a0+1;omega
 | some j=>
  obtain⟨v0,hv0⟩:=KA hi;obtain⟨e0,he0,hk0⟩:=hM.rel.key hi;have b1:∀w,(Instr.keyThatStays (kv k) (kv k)).run P w= .ok (kv k) w:=fun w=>by
   unfold Instr.keyThatStays;rw [K.bits k];simp
  refine⟨_,?_,⟨_,_,a4 (.map (es.modify j fun e=>{ e with key:=kv k,val:=v }) a0),?_⟩,a6 _,a7 _⟩
  ·have a9:es[j]?=some e0:=by rw [←gP];exact he0
   simp [hv0,a9,hk0,b1,a3,Result.andThen]
  ·have a5:=EX (fun e=>{ e with key:=kv k,val:=v }) (fun _=>rfl) es.toList j;refine⟨?_,?_,?_,?_⟩
   ·simpa using EsR.put (v:=v) hM.rel hi
   ·rw [EH hi];exact hM.nodup
   ·have:=JC.2 hM.borns;rw [←a5] at this;simpa using JC.1 this
   ·intro e he;have a8:e∈es.toList.modify j (fun e=>{ e with key:=kv k,val:=v }):=by simpa using he
    have h1:e.born∈(es.toList.modify j (fun e=>{ e with key:=kv k,val:=v })).map (·.born):=cL.2 ⟨e,a8,rfl⟩;rw [a5] at h1;obtain⟨e',h2,h3⟩:=cL.1 h1;rw [←h3];exact hM.lt e' h2
end Go.MapK
namespace Go.Proofs.YtbdpdeonapmlgaaGreatDoor
open Go.RowKit Go.Big
def bkN (l:List UInt8):Int:=
 if l= [61] then 3
 else if l= [92,61]∨l= [61,61]∨l= [92,61,61]∨l= [64,60]∨l= [64,61,60]∨l= [64,62]∨l= [64,62,61] then 4
 else if l= [105,115] then 5
 else if l= [61,58,61]∨l= [61,92,61]∨l= [60]∨l= [61,60]∨l= [62]∨l= [62,61] then 6
 else 0
def biB (l:List UInt8) (a:Int):Bool:=
 if a=0 then(l== [116,114,117,101]||l== [33])
 else if a=1 then l== [92,43]
 else if a=2 then(l== [44]||l== [59]||l== [45,62]||l== [42,45,62]||bkN l !=0)
 else false
def NK (nm:ByteArray) (w:Wo):Cz 131 #[.string nm] w fun e w'=>e= .returned (.int .i64 (bkN nm.toList))∧w=w':=by
 obtain⟨K,hK⟩:=enm (bkN nm.toList);rw [hK];have a0:=aside hK;clear hK;go_enter Tryz.func131,Tryz.ntmps131;go_wp2
 all_goals(have hk:=a0.o;clear a0;go_ret;refine⟨?_,rfl⟩;subst hk;simp_all [bkN])
def zY (nm:ByteArray) (a:Int) (w:Wo):Cz 74 #[.agg #[.string nm,.int .i64 a]] w fun e w'=>e= .returned (.bool (biB nm.toList a))∧Bz w w':=by
 have hB:=aC w (Obj.cells #[.string nm,.int .i64 a] 63);obtain⟨K,hK⟩:=enm (biB nm.toList a);rw [hK];have a0:=aside hK;clear hK;obtain⟨b,hb⟩:=enm (bkN nm.toList);have a1:=aside hb;have d1:∀w,Cz 131 #[.string nm] w fun e w'=>e= .returned (.int .i64 b)∧w=w':=fun w=>by rw [←a1.o];exact NK nm w
 clear hb;go_enter Tryz.func74,Tryz.ntmps74
 go_wp2_with (go_at_call 131;(with_reducible refine(d1 _).mono ?_);rintro e w' ⟨rfl,rfl⟩)
 all_goals(have hk:=a0.o;have a2:=a1.o;clear a0 a1;go_ret;refine⟨?_,hB⟩;clear hB;subst hk;subst a2;simp_all [biB])
def Dh (k v:Int) (nm s:ByteArray) (g:Bool) (s1 s2 s3:Value) (w:Wo):
  Cz 127 #[.agg #[.int .i64 k,.int .i64 v,.string nm,.bool g,s1,s2,s3],.string s] w fun e w'=>e= .returned (.bool (k==3&&nm.toList==s.toList))∧Bz w w':=by
 have hB:=aC w (Obj.cells #[.int .i64 k,.int .i64 v,.string nm,.bool g,s1,s2,s3] 48)
 by_cases hk:k=3
 ·subst hk;go_enter Tryz.func127,Tryz.ntmps127;go_wp2
  all_goals(go_ret;exact⟨by simp_all,hB⟩)
 ·have a0:(k==3)=false:=by simpa using hk
  go_enter Tryz.func127,Tryz.ntmps127;go_wp2
  all_goals(go_ret;exact⟨by simp_all,hB⟩)
def PW (k v:Int) (nm s:ByteArray) (g:Bool) (s1 s2:Value) (a:Option Addr) (len c:Nat) (n:Int) (w:Wo):
  Cz 128 #[.agg #[.int .i64 k,.int .i64 v,.string nm,.bool g,s1,s2,.slice a len c],.string s,.int .i64 n] w fun e w'=>e= .returned (.bool (k==5&&nm.toList==s.toList&&((len:Int)==n)))∧Bz w w':=by
 have hB:=aC w (Obj.cells #[.int .i64 k,.int .i64 v,.string nm,.bool g,s1,s2,.slice a len c] 48)
 by_cases hk:k=5
 ·subst hk;cases hb:(nm.toList==s.toList)
  ·go_enter Tryz.func128,Tryz.ntmps128;go_wp2
   all_goals(go_ret;exact⟨by simp_all,hB⟩)
  ·go_enter Tryz.func128,Tryz.ntmps128;go_wp2
   all_goals(go_ret;exact⟨by simp_all,hB⟩)
 ·have a0:(k==5)=false:=by simpa using hk
  go_enter Tryz.func128,Tryz.ntmps128;go_wp2
  all_goals(go_ret;exact⟨by simp_all,hB⟩)
def HD (k v:Int) (nm:ByteArray) (g:Bool) (s1 s2 s3:Value) (w:Wo):
  Cz 89 #[.agg #[.int .i64 k,.int .i64 v,.string nm,.bool g,s1,s2,s3]] w fun e w'=>e= .returned (.bool (k==3||k==5))∧Bz w w':=by
 have hB:=aC w (Obj.cells #[.int .i64 k,.int .i64 v,.string nm,.bool g,s1,s2,s3] 48)
 by_cases hk:k=3
 ·subst hk;go_enter Tryz.func89,Tryz.ntmps89;go_wp2
  all_goals(go_ret;exact⟨by simp_all,hB⟩)
 ·have a0:(k==3)=false:=by simpa using hk
  go_enter Tryz.func89,Tryz.ntmps89;go_wp2
  all_goals(go_ret;exact⟨by simp_all,hB⟩)
def oR (k v:Int) (nm:ByteArray) (g:Bool) (s1 s2:Value) (a:Option Addr) (len c:Nat) (w:Wo):
  Cz 26 #[.agg #[.int .i64 k,.int .i64 v,.string nm,.bool g,s1,s2,.slice a len c]] w fun e w'=>e= .returned (.agg #[.string nm,.int .i64 len])∧Bz w w':=by
 have hB:=aC w (Obj.cells #[.int .i64 k,.int .i64 v,.string nm,.bool g,s1,s2,.slice a len c] 48);go_enter Tryz.func26,Tryz.ntmps26;go_wp2;refine fQ (v:=.agg #[.string nm,.int .i64 len]) (by simp [results,Tryz.results26,go_sem]) rfl ⟨rfl,?_⟩;exact hB.alloc hB.size _
end Go.Proofs.YtbdpdeonapmlgaaGreatDoor
namespace Go.Heavy
variable {Q:Act→Wo→Prop} {ops:Array Oper} {C:Wo→Prop} {P:Program} {p:Plan} {w:Wo} {a a':Act}
def norm_a (h:a=a') (hK:runP P ops C Q p a' w):runP P ops C Q p a w:=by subst h;exact hK
def light_m {i:Nat} {o:Oper} (v:Value) (h0:ops[i]?=some o) (hg:o.guard=none) (hs:∀w,C w→uponW P (fun u w'=>u=v∧w'=w) ((execOp a.eval o).run P w)) (ha:a.put o.dst v=a') (hK:runP P ops C Q p a' w):runP P ops C Q (.light i p) a w:=light_n v h0 hg hs (by rw [ha];exact hK)
end Go.Heavy
namespace Go
def hNa:=@Heavy.norm_a
def hLm:=@Heavy.light_m
def hLn:=@Heavy.light_n
def hRp:=@Heavy.region_plan
def hPe:=@Heavy.plan_end
def hOn:=@Heavy.one_n
def hLs:=@Heavy.light_step
def hLk:=@Heavy.light_skip
def hTn:=@Heavy.two_n
end Go
namespace Go.Heavy
def one_skip {P:Program} {ops:Array Oper} {C:Wo→Prop} {i:Nat} {p:Plan} {Q:Act→Wo→Prop} {o:Oper} {a:Act} {w:Wo} (h0:ops[i]?=some o) (hg:Region.wanted o (yielded ops a.tmps)=false) (hC:C w) (hK:runP P ops C Q p (a.put o.dst undef) w):runP P ops C Q (.one i p) a w:=
 ⟨o,h0,.inr ⟨hg,hC,hK⟩⟩
end Go.Heavy
namespace Go.Proofs.YtbdpdeonapmlgaaGreatDoor
open Go.RowKit Go.Big
section
attribute [local go_sem] Heavy.uponW
end
section
attribute [local go_sem] Heavy.uponW
def gM {w:Wo} {g:Nat} {v0 v1:Value} {e:TypeId} {fr:Nat × Nat} (h:w.heap[g]?=some (.cells #[v0,v1] e fr)):w.cell? ⟨g,0,none⟩=some v0∧w.cell? ⟨g,1,none⟩=some v1:=by
 simp [World.cell?,h]
def dO (n:Nat) (w:Wo):Below n w w.drew:=⟨rfl,rfl,rfl,aA _,fun _ _=>rfl⟩
end
section
attribute [local go_sem] Heavy.uponW
def tl (a:Array UInt8):(⟨a⟩:ByteArray).toList=a.toList:=pT _
def Tm.callB:Tm→Bool
 | .mk k _ _ _ _ _ _=>k==3||k==5
def Tm.ind:Tm→ByteArray × Int
 | .mk _ _ nm _ _ _ args=>(nm,args.length)
def Tm.bi:Tm→Bool
 | .mk _ _ nm _ _ _ args=>biB nm.toList args.length
def mE:List Tm→Int
 | []=>0
 |A::_=>if(A.callB&& !A.bi)=true then 2 else 0
def Tm.kd:Tm→Int
 | .mk k _ nm _ _ _ args=>
  if(k==3||k==5)=false then 0
  else if(k==5&&nm.toList== [92,43]&&((args.length:Int)==1))=true then
   mE args
  else if biB nm.toList args.length=false then 1
  else if((args.length:Int)==2)=true then bkN nm.toList else 0
def seven {w w2:Wo} {b o i:Nat} {v0 v1 v2 v3 v4 v5 v6:Value} (hx:∀p:Addr,p.block=b→w2.cell? p=w.cell? p) (hc:∀(j:Nat) u,[v0,v1,v2,v3,v4,v5,v6][j]?=some u→w.cell? ⟨b,o+i*7+j,none⟩=some u):
  w2.cell? ⟨b,o+i*7,none⟩=some v0∧w2.cell? ⟨b,o+i*7+1,none⟩=some v1∧w2.cell? ⟨b,o+i*7+2,none⟩=some v2∧w2.cell? ⟨b,o+i*7+3,none⟩=some v3∧w2.cell? ⟨b,o+i*7+4,none⟩=some v4∧w2.cell? ⟨b,o+i*7+5,none⟩=some v5∧w2.cell? ⟨b,o+i*7+6,none⟩=some v6:=
 ⟨(hx _ rfl).trans (hc 0 _ rfl),(hx _ rfl).trans (hc 1 _ rfl),(hx _ rfl).trans (hc 2 _ rfl),(hx _ rfl).trans (hc 3 _ rfl),(hx _ rfl).trans (hc 4 _ rfl),(hx _ rfl).trans (hc 5 _ rfl),(hx _ rfl).trans (hc 6 _ rfl)⟩
def kM {w w2:Wo} {b o:Nat} {v0 v1 v2 v3 v4 v5 v6:Value} (hx:∀p:Addr,p.block=b→w2.cell? p=w.cell? p) (hc:∀(j:Nat) u,[v0,v1,v2,v3,v4,v5,v6][j]?=some u→w.cell? ⟨b,o+j,none⟩=some u):
  w2.cell? ⟨b,o,none⟩=some v0∧w2.cell? ⟨b,o+1,none⟩=some v1∧w2.cell? ⟨b,o+2,none⟩=some v2∧w2.cell? ⟨b,o+3,none⟩=some v3∧w2.cell? ⟨b,o+4,none⟩=some v4∧w2.cell? ⟨b,o+5,none⟩=some v5∧w2.cell? ⟨b,o+6,none⟩=some v6:=
 ⟨(hx _ rfl).trans (hc 0 _ rfl),(hx _ rfl).trans (hc 1 _ rfl),(hx _ rfl).trans (hc 2 _ rfl),(hx _ rfl).trans (hc 3 _ rfl),(hx _ rfl).trans (hc 4 _ rfl),(hx _ rfl).trans (hc 5 _ rfl),(hx _ rfl).trans (hc 6 _ rfl)⟩
def BB (T:Tm) (n:Nat) (w:Wo) (vs:Lv) (h:TmV n w T vs) (hn:n≤w.heap.size):
  Cz 64 #[.agg vs.toArray] w fun e w'=>e= .returned (.int .i64 T.kd)∧Bz w w':=by
 obtain⟨k,v,nm,g,num,den,args⟩:=T;simp only [TmV] at h;obtain⟨s1,s2,a,c,rfl,_,hS,hbig,_⟩:=h;obtain⟨len,hl⟩:=enm args.length;obtain⟨K,hK⟩:=enm (Tm.kd (.mk k v nm g num den args));rw [hK,hl];have b1:=aside hK;have Al:=aside hl;have b2:=aside hS;have hB:=aC w (Obj.cells #[.int .i64 k,.int .i64 v,.string nm,.bool g,s1,s2,.slice a len c] 48);have hq:=aJ w (Obj.cells #[.int .i64 k,.int .i64 v,.string nm,.bool g,s1,s2,.slice a len c] 48);have b4:(w.alloc (Obj.cells #[.int .i64 k,.int .i64 v,.string nm,.bool g,s1,s2,.slice a len c] 48)).heap.size=w.heap.size+1:=by simp
 obtain⟨wb,hwb⟩:=enm (w.alloc (Obj.cells #[.int .i64 k,.int .i64 v,.string nm,.bool g,s1,s2,.slice a len c] 48));rw [hwb] at hB hq b4;have fa:Aside (∀w2,Bz wb w2→_):=fun(w2:Wo) (hb:Bz wb w2)=>bZ ((hb.block w.heap.size (by omega)).trans hq)
 obtain⟨x0,x1,x2,x3,x4,x5,x6⟩:=fa.o wb (bD _ _);clear hq b4 hl hK hS;have b0:Aside (∀w2,_):=fun w2=>HD k v nm g s1 s2 (.slice a len c) w2
 have a1:Aside (∀w2,_):=fun w2=>PW k v nm ⟨#[92,43]⟩ g s1 s2 a len c 1 w2
 have b7:Aside (∀w2,_):=fun w2=>oR k v nm g s1 s2 a len c w2
 have a9:Aside (∀w2,_):=fun w2=>zY nm len w2
 have a6:Aside (∀w2,_):=fun w2=>NK nm w2
 obtain⟨cb,hcb⟩:∃b,(k==3||k==5)=b:=⟨_,rfl⟩;rw [tl #[92,43]] at a1;obtain⟨ic,hic⟩:∃b,(k==5&&nm.toList==(#[92,43]:Array UInt8).toList&&((len:Int)==1))=b:=⟨_,rfl⟩;obtain⟨bi,hbi⟩:∃b,biB nm.toList len=b:=⟨_,rfl⟩;rw [hcb] at b0;rw [hic] at a1;rw [hbi] at a9;have a0:Aside ((if cb=false then 0 else if ic=true then mE args else if bi=false then 1 else if((len:Int)==2)=true then bkN nm.toList else 0)=K):=by
  show _=K;rw [←b1.o,←hcb,←hic,←hbi,←Al.o];rfl
 have a3:Aside (ic=true→len=1):=by
  show _→_;rw [←hic];intro h;simp at h;omega
 have e0:Bz wb wb:=bD _ _;clear b1 hcb hic hbi;show Cz 64 #[.agg #[.int .i64 k,.int .i64 v,.string nm,.bool g,s1,s2,.slice a len c]] w _;go_enter Tryz.func64,Tryz.ntmps64
 go_upto_region 1 with fail
 clear hwb
 go_wp2_with (go_at_call 89;with_reducible refine(b0.o _).mono ?_)
 rintro e w1 ⟨rfl,hb1⟩;have e1:Bz wb w1:=e0.trans (hb1.mono e0.size);clear x0 x1 x2 x3 x4 x5 x6 hb1;obtain⟨x0,x1,x2,x3,x4,x5,x6⟩:=fa.o w1 e1;cases cb
 ·obtain rfl:K=0:=by rw [←a0.o];rfl
  clear a0 a3;go_wp2
  go_ret
  exact⟨rfl,hB.trans (e1.mono hB.size)⟩
 go_wp2_with (go_at_call 128;with_reducible refine(a1.o _).mono ?_)
 rintro e w2 ⟨rfl,hb2⟩;have e2:Bz wb w2:=e1.trans (hb2.mono e1.size);clear x0 x1 x2 x3 x4 x5 x6 hb2;obtain⟨x0,x1,x2,x3,x4,x5,x6⟩:=fa.o w2 e2;cases ic
 ·go_wp2_with (go_at_call 26;with_reducible refine(b7.o _).mono ?_)
  rintro e w3 ⟨rfl,hb3⟩;have e3:Bz wb w3:=e2.trans (hb3.mono e2.size);clear x0 x1 x2 x3 x4 x5 x6 hb3;obtain⟨x0,x1,x2,x3,x4,x5,x6⟩:=fa.o w3 e3
  go_wp2_with (go_at_call 74;with_reducible refine(a9.o _).mono ?_)
  rintro e w4 ⟨rfl,hb4⟩;have e4:Bz wb w4:=e3.trans (hb4.mono e3.size);clear x0 x1 x2 x3 x4 x5 x6 hb4;obtain⟨x0,x1,x2,x3,x4,x5,x6⟩:=fa.o w4 e4;cases bi
  ·obtain rfl:K=1:=by rw [←a0.o];rfl
   clear a0 a3;go_wp2
   go_ret
   exact⟨rfl,hB.trans (e4.mono hB.size)⟩
  ·by_cases h2:len=2
   ·subst h2;have b9:Aside (bkN nm.toList=K):=a0.o;clear a0 a3
    go_wp2_with (go_at_call 131;with_reducible refine(a6.o _).mono ?_)
    rintro e w5 ⟨rfl,rfl⟩;go_wp2
    go_ret
    exact⟨by have:=b9.o;simp_all,hB.trans (e4.mono hB.size)⟩
   ·have b8:((len:Int)==2)=false:=by simp;omega
    obtain rfl:K=0:=by rw [←a0.o,b8];rfl
    clear a0 a3;go_wp2
    go_ret
    exact⟨rfl,hB.trans (e4.mono hB.size)⟩
 ·have c0:=a3.o rfl;subst c0;obtain⟨A,rfl⟩:∃A,args= [A]:=Ku.1 Al.o;have b3:=b2.o;simp only [bS] at b3;obtain⟨⟨b,off,vs',rfl,hbn,hc,hv⟩,_⟩:=b3;obtain⟨k',v',nm',g',a8,den',args'⟩:=A;simp only [TmV] at hv;obtain⟨_,_,a',c',rfl,⟨⟨p1,q1,rfl,_⟩,⟨p2,q2,rfl,_⟩⟩,_⟩:=hv;generalize a8.length=n1,den'.length=n2 at*;obtain⟨l',hl'⟩:=enm args'.length;rw [hl'] at hc;have a2:Aside ((if((k'==3||k'==5)&& !biB nm'.toList l')=true then 2 else 0)=K):=by
   show _=K;rw [←a0.o,←hl'];rfl
  have ya:Aside (∀w2,Bz wb w2→_):=fun(w2:Wo) (hb:Bz wb w2)=>kM (fun p hp=>((hB.trans (hb.mono hB.size)).mono hn).cell (hp▸hbn)) (by simpa using hc)
  obtain⟨y0,y1,y2,y3,y4,y5,y6⟩:=ya.o w2 e2;clear a0 a3 hl' hc b2
  go_upto_region 5 with fail
  have z0:=aC w2 (bA k' v' nm' g' p1 n1 q1 p2 n2 q2 a' l' c');have zq:=aJ w2 (bA k' v' nm' g' p1 n1 q1 p2 n2 q2 a' l' c');have zs:(w2.alloc (bA k' v' nm' g' p1 n1 q1 p2 n2 q2 a' l' c')).heap.size=w2.heap.size+1:=by simp
  obtain⟨wc,hwc⟩:=enm (w2.alloc (bA k' v' nm' g' p1 n1 q1 p2 n2 q2 a' l' c'));rw [hwc] at z0 zq zs ⊢;clear hwc;have fb:Aside (∀w3,Bz wc w3→_):=fun(w3:Wo) (hb:Bz wc w3)=>bZ ((hb.block w2.heap.size (by omega)).trans zq)
  have e3:Bz wb wc:=e2.trans (z0.mono e2.size);have f0:Bz wc wc:=bD _ _;have a5:Aside (∀w2,_):=fun w2=>HD k' v' nm' g' (.slice p1 n1 q1) (.slice p2 n2 q2) (.slice a' l' c') w2
  have a7:Aside (∀w2,_):=fun w2=>oR k' v' nm' g' (.slice p1 n1 q1) (.slice p2 n2 q2) a' l' c' w2
  have a4:Aside (∀w2,_):=fun w2=>zY nm' l' w2
  obtain⟨b6,hcb'⟩:∃b,(k'==3||k'==5)=b:=⟨_,rfl⟩;obtain⟨b5,hbi'⟩:∃b,biB nm'.toList l'=b:=⟨_,rfl⟩;rw [hcb'] at a5;rw [hbi'] at a4;rw [hcb',hbi'] at a2;clear x0 x1 x2 x3 x4 x5 x6 y0 y1 y2 y3 y4 y5 y6 zq zs z0 hcb' hbi' ya;obtain⟨x0,x1,x2,x3,x4,x5,x6⟩:=fb.o wc f0
  go_wp2_with (go_at_call 89;with_reducible refine(a5.o _).mono ?_)
  rintro e w3 ⟨rfl,hb3⟩;have f1:Bz wc w3:=f0.trans (hb3.mono f0.size);clear x0 x1 x2 x3 x4 x5 x6 hb3;obtain⟨x0,x1,x2,x3,x4,x5,x6⟩:=fb.o w3 f1;cases b6
  ·obtain rfl:K=0:=by rw [←a2.o];rfl
   clear a2;go_wp2
   go_ret
   exact⟨rfl,hB.trans ((e3.trans (f1.mono e3.size)).mono hB.size)⟩
  go_wp2_with (go_at_call 26;with_reducible refine(a7.o _).mono ?_)
  rintro e w4 ⟨rfl,hb4⟩;have f2:Bz wc w4:=f1.trans (hb4.mono f1.size);clear x0 x1 x2 x3 x4 x5 x6 hb4;obtain⟨x0,x1,x2,x3,x4,x5,x6⟩:=fb.o w4 f2
  go_wp2_with (go_at_call 74;with_reducible refine(a4.o _).mono ?_)
  rintro e w5 ⟨rfl,hb5⟩;have f3:Bz wc w5:=f2.trans (hb5.mono f2.size);clear x0 x1 x2 x3 x4 x5 x6 hb5;cases b5
  ·obtain rfl:K=2:=by rw [←a2.o];rfl
   clear a2;go_wp2
   go_ret
   exact⟨rfl,hB.trans ((e3.trans (f3.mono e3.size)).mono hB.size)⟩
  ·obtain rfl:K=0:=by rw [←a2.o];rfl
   clear a2;go_wp2
   go_ret
   exact⟨rfl,hB.trans ((e3.trans (f3.mono e3.size)).mono hB.size)⟩
end
end Go.Proofs.YtbdpdeonapmlgaaGreatDoor
namespace Go.Proofs.YtbdpdeonapmlgaaGreatDoor
noncomputable section
mutual
def Tm.ground:Tm→Prop
 | .mk k _ _ _ _ _ args=>k≠1∧Tm.groundL args
def Tm.groundL:List Tm→Prop
 | []=>True
 |T::r=>T.ground∧Tm.groundL r
end
def varT (n:Nat):Tm:=.mk 1 n ⟨#[]⟩ false [] [] []
open Classical in
mutual
def gphi (ix:Tm→Tm→Nat):Tm→Tm→Tm
 | .mk k v nm g num den args,b=>
  if Tm.mk k v nm g num den args=b∧(Tm.mk k v nm g num den args).ground then b
  else match b with
  | .mk k' v' nm' g' num' den' args'=>if k=5∧k'=5∧nm=nm'∧args.length=args'.length then .mk 5 0 nm false [] [] (gphiL ix args args') else varT (ix (.mk k v nm g num den args) (.mk k' v' nm' g' num' den' args'))
def gphiL (ix:Tm→Tm→Nat):List Tm→List Tm→List Tm
 |T::r,U::q=>gphi ix T U::gphiL ix r q
 |_,_=>[]
end
def both (ix:Tm→Tm→Nat) (f1 f2:Int→Option Tm):Int→Option Tm:=fun v=>match f1 v,f2 v with
 |some p,some q=>some (gphi ix p q)
 |_,_=>none
end
end Go.Proofs.YtbdpdeonapmlgaaGreatDoor
namespace Go.Proofs.YtbdpdeonapmlgaaGreatDoor
open Go.RowKit Go.Big
structure RootOk (k:Int) (g:Bool) (num den:List Nat):Prop where
 kind:k=1∨k=2∨k=3∨k=4∨k=5
 sound:k=2→iO g num den=0
 non:k≠2→g=false∧num= []∧den= []
structure NodeOk (k v:Int) (nm:ByteArray) (g:Bool) (num den:List Nat) (len:Nat):Prop where
 root:RootOk k g num den
 var:k=1→0≤v∧v≤1073741824
 name:nm.size≤4000
 args:len≤32
def rX (a:Option Addr) (len cap n:Nat) (L:List Nat) (a0:L.length=len) (a2:len<4611686018427387904) (a3:len≤cap) (w:Wo) (hn:n≤w.heap.size) (h1:cR n w a L):
  Cz 360 #[.slice a len cap] w fun e w'=>∃k,e= .returned (.slice a k cap)∧Trimmed L k∧Bz w w':=by
 go_enter Tryz.func360,Tryz.ntmps360;go_wp2
 go_loopw [0] (fun s wr=>∃k:Nat,s= .slice a k cap∧k≤len∧(∀x∈L.drop k,x=0)∧Bz w wr) (fun s _=>slen0 s)
 case atStart=>exact⟨len,rfl,aA _,by rw [←a0,JN];simp,bD _ _⟩
 case round=>
  obtain⟨k,rfl,hk,hz,hB⟩:=hrel
  by_cases a1:k=0
  ·subst a1;go_wp2
   go_ret
   exact⟨0,rfl,⟨bX _,hz,.inl rfl⟩,hB⟩
  ·obtain⟨k',rfl⟩:∃k',k=k'+1:=⟨k-1,by omega⟩;obtain⟨x,hx⟩:∃x,L[k']?=some x:=⟨L[k'],bM (by omega)⟩;obtain⟨b,off,rfl,hb,hxl,hc⟩:=(h1.below hB hn).get hx;have a9:IntKind.i64.wrap (k':Int)=k':=WO (by omega);have a4:(k':Int)<(k':Int)+1:=by omega
   have a5:(0:Int)≤(k':Int):=by omega
   have a6:(0:Int)<(k':Int)+1:=by omega
   have a7:(k':Int)≤(cap:Int):=by omega
   have a8:¬(cap:Int)<(k':Int):=by omega
   clear h1 a1
   by_cases h0:x=0
   ·subst h0;go_wp2;refine⟨⟨k',rfl,by omega,fun y hy=>?_,hB⟩,by simp [slen0]⟩;rw [iK (by omega)] at hy;rcases cM.1 hy with rfl|hy
    ·exact(aM.1 hx).2
    ·exact hz y hy
   ·have b0:((x:Int)==0)=false:=by simp;omega
    go_wp2
    go_ret
    exact⟨k'+1,rfl,⟨by omega,hz,.inr ⟨x,by simpa using hx,h0⟩⟩,hB⟩
def JZ {B:Nat} {A C:List Nat} {k x y:Nat} (hA:∀d∈A,d<B) (hx:A[k]?=some x) (hy:C[k]?=some y) (hd:A.drop (k+1)=C.drop (k+1)) (b2:x<y):val B A<val B C:=by
 obtain⟨h1,rfl⟩:=aM.1 hx;obtain⟨h2,rfl⟩:=aM.1 hy;have eA:A=A.take k++(A[k]::A.drop (k+1)):=by rw [←iK h1,pO]
 have eC:C=C.take k++(C[k]::C.drop (k+1)):=by rw [←iK h2,pO]
 have lA:(A.take k).length=k:=by rw [aX];omega
 have lC:(C.take k).length=k:=by rw [aX];omega
 have vA:val B A=val B (A.take k)+B^k*(A[k]+B*val B (A.drop (k+1))):=by
  conv=>lhs;rw [eA]
  rw [lX,lA,val]
 have vC:val B C=val B (C.take k)+B^k*(C[k]+B*val B (A.drop (k+1))):=by
  conv=>lhs;rw [eC]
  rw [lX,lC,val,hd]
 have hl:val B (A.take k)<B^k:=by
  have:=val_lt (B:=B) (a:=A.take k) fun d hd=>hA d (jS hd)
  rwa [lA] at this
 have hm:B^k*(A[k]+B*val B (A.drop (k+1))+1)≤B^k*(C[k]+B*val B (A.drop (k+1))):=mS _ (by omega);rw [eD,yO] at hm;omega
def YD (x:Int) (w:Wo):Cz 391 #[.int .i64 x] w fun e w'=>e= .returned (.int .i64 (if x<0 then-1 else if 0<x then 1 else 0))∧Bz w w':=by
 by_cases h1:x<0
 ·go_enter Tryz.func391,Tryz.ntmps391;go_wp2
  go_ret
  exact⟨by simp [h1],bD _ _⟩
 ·by_cases h2:0<x
  ·go_enter Tryz.func391,Tryz.ntmps391;go_wp2
   go_ret
   exact⟨by simp [h1,h2],bD _ _⟩
  ·go_enter Tryz.func391,Tryz.ntmps391;go_wp2
   go_ret
   exact⟨by simp [h1,h2],bD _ _⟩
def CmpD (A C:List Nat) (c:Int):Prop:=
 (A.length<C.length∧c= -1)∨(C.length<A.length∧c=1)∨(A.length=C.length∧((c=0∧A=C)∨(c= -1∧val 4294967296 A<val 4294967296 C)∨(c=1∧val 4294967296 C<val 4294967296 A)))
def GT (a1 a2:Option Addr) (a0 a3 a6 a7 n:Nat) (A C:List Nat) (b1:A.length=a0) (b5:C.length=a3) (b9:a0<4611686018427387904) (c0:a3<4611686018427387904) (w:Wo) (hn:n≤w.heap.size) (h1:cR n w a1 A) (h2:cR n w a2 C):
  Cz 353 #[.slice a1 a0 a6,.slice a2 a3 a7] w fun e w'=>∃c,e= .returned (.int .i64 c)∧CmpD A C c∧Bz w w':=by
 by_cases b7:a0=a3
 ·subst b7;have a5:(((a0:Nat):Int)==a0)=true:=by simp
  go_enter Tryz.func353,Tryz.ntmps353;go_wp2
  go_loopw [5] (fun s wr=>∃k:Nat,s= .int .i64 ((k:Int)-1)∧k≤a0∧A.drop k=C.drop k∧Bz w wr) (fun s _=>(intOf s+1).toNat)
  case atStart=>exact⟨a0,rfl,aA _,by rw [←b1,JN,b1,←b5,JN],bD _ _⟩
  case round=>
   obtain⟨k,rfl,hk,hd,hB⟩:=hrel
   by_cases b0:k=0
   ·subst b0;have e0:(((0:Nat):Int)-1)= -1:=by omega
    rw [e0];have b3:A=C:=by simpa using hd
    go_wp2
    go_ret
    exact⟨0,rfl,.inr (.inr ⟨by omega,.inl ⟨rfl,b3⟩⟩),hB⟩
   ·obtain⟨k',rfl⟩:∃k',k=k'+1:=⟨k-1,by omega⟩;have e0:(((k'+1:Nat):Int)-1)=k':=by omega
    rw [e0];obtain⟨x,hx⟩:∃x,A[k']?=some x:=⟨A[k'],bM (by omega)⟩;obtain⟨y,hy⟩:∃y,C[k']?=some y:=⟨C[k'],bM (by omega)⟩;obtain⟨b,off,rfl,hb,hxl,hc⟩:=(h1.below hB hn).get hx;obtain⟨b',off',rfl,hb',hyl,hc'⟩:=(h2.below hB hn).get hy;have c1:(k':Int)<(a0:Int):=by omega
    have c2:(0:Int)≤(k':Int):=by omega
    have hA:∀d∈A,d<4294967296:=h1.1;have hC:∀d∈C,d<4294967296:=h2.1;have a9:Bz w wr.drew:=hB.trans ⟨rfl,rfl,rfl,aA _,fun _ _=>rfl⟩;have a4:Bz w wr.drew.drew:=a9.trans ⟨rfl,rfl,rfl,aA _,fun _ _=>rfl⟩;clear h1 h2 b0
    by_cases a8:x=y
    ·subst a8;have b4:A.drop k'=C.drop k':=by
      obtain⟨q1,q2⟩:=aM.1 hx;obtain⟨q3,q4⟩:=aM.1 hy;rw [iK q1,iK q3,hd,q2,q4]
     go_wp2;refine iV 8 (by kernel_rfl) (by kernel_rfl) ?_;simp only [bL,bY,aZ,bG,iX]
     repeat (with_reducible refine jD (fun K hK=>?_);go_simp;with_reducible refine hK _ ?_;clear hK K)
     refine iW ?_;show wpList _ _ _ _ _ _;go_wp2;exact⟨⟨k',by simp,by omega,b4,a9⟩,by simp [intOf]⟩
    ·have b8:((x:Int)==y)=false:=by simp;omega
     by_cases b2:x<y
     ·have b6:(x:Int)<(y:Int):=by omega
      have hv:=JZ hA hx hy hd b2;clear a8;go_wp2;refine iV 8 (by kernel_rfl) (by kernel_rfl) ?_;simp only [bL,bY,aZ,bG,iX]
      repeat (with_reducible refine jD (fun K hK=>?_);go_simp;with_reducible refine hK _ ?_;clear hK K)
      refine iW ?_;show wpList _ _ _ _ _ _;go_wp2;refine iV 8 (by kernel_rfl) (by kernel_rfl) ?_;simp only [bL,bY,aZ,bG,iX]
      repeat (with_reducible refine jD (fun K hK=>?_);go_simp;with_reducible refine hK _ ?_;clear hK K)
      refine iW ?_;show wpList _ _ _ _ _ _;go_wp2
      go_ret
      exact⟨-1,rfl,.inr (.inr ⟨by omega,.inr (.inl ⟨rfl,hv⟩)⟩),a4⟩
     ·have b6:¬(x:Int)<(y:Int):=by omega
      have hv:=JZ hC hy hx hd.symm (by omega);clear a8;go_wp2;refine iV 8 (by kernel_rfl) (by kernel_rfl) ?_;simp only [bL,bY,aZ,bG,iX]
      repeat (with_reducible refine jD (fun K hK=>?_);go_simp;with_reducible refine hK _ ?_;clear hK K)
      refine iW ?_;show wpList _ _ _ _ _ _;go_wp2;refine iV 8 (by kernel_rfl) (by kernel_rfl) ?_;simp only [bL,bY,aZ,bG,iX]
      repeat (with_reducible refine jD (fun K hK=>?_);go_simp;with_reducible refine hK _ ?_;clear hK K)
      refine iW ?_;show wpList _ _ _ _ _ _;go_wp2
      go_ret
      exact⟨1,rfl,.inr (.inr ⟨by omega,.inr (.inr ⟨rfl,hv⟩)⟩),a4⟩
 ·have a5:((a0:Int)==a3)=false:=by simp;omega
  have c3:IntKind.i64.wrap ((a0:Int)-a3)=(a0:Int)-a3:=by rw [dX];omega
  have sc:=YD ((a0:Int)-a3) w;clear h1 h2;rcases lR a0 a3 with h|h
  ·rw [if_pos (by omega)] at sc;go_enter Tryz.func353,Tryz.ntmps353
   go_wp2_with (go_at_call 391;refine sc.mono ?_;rintro e w' ⟨rfl,hb⟩)
   go_ret
   exact⟨-1,rfl,.inl ⟨by omega,rfl⟩,hb⟩
  ·rw [if_neg (by omega),if_pos (by omega)] at sc;go_enter Tryz.func353,Tryz.ntmps353
   go_wp2_with (go_at_call 391;refine sc.mono ?_;rintro e w' ⟨rfl,hb⟩)
   go_ret
   exact⟨1,rfl,.inr (.inl ⟨by omega,rfl⟩),hb⟩
