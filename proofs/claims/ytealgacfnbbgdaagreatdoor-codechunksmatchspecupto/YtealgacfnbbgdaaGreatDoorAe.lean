/- Lemmas; no condition. -/
import Derived.Test.YtealgacfnbbgdaaGreatDoorAd
import Derived.Shelf.Small.Bits
set_option linter.all false
set_option maxHeartbeats 2000000
set_option maxRecDepth 100000
namespace Go.MapK
open Go.RowKit
variable {b c r d j:Nat} {w:Wo}
section
variable {κ:Type} [DecidableEq κ]
def EsR (kv:κ→Value):List (κ × Value)→List MapEntry→Prop
 | [],[]=>True
 |p::M,e::es=>e.key=kv p.1∧e.val=p.2∧EsR kv M es
 |_,_=>False
def fJ (k:κ):List (κ × Value)→Option Nat
 | []=>none
 |p::M=>if k=p.1 then some 0 else(fJ k M).map (· +1)
def gT (k:κ):List (κ × Value)→Option Value
 | []=>none
 |p::M=>if k=p.1 then some p.2 else gT k M
def jX (k:κ) (v:Value):List (κ × Value)→List (κ × Value)
 | []=>[(k,v)]
 |p::M=>if k=p.1 then(p.1,v)::M else p::jX k v M
structure KL (P:Program) (kt:TypeId) (kv:κ→Value):Prop where
 inj:∀{a b:κ},kv a=kv b→a=b
 find:∀(k:κ) (w:Wo) (M:List (κ × Value)) (es:List MapEntry),EsR kv M es→(Instr.findKey kt (kv k) es).run P w= .ok ((fJ k M).bind fun j=>(gT k M).map fun v=>(j,v)) w
 check:∀(em:Bool) (k:κ) (w:Wo),(Instr.checkKey em 10000 kt (kv k)).run P w= .ok () w
 bits:∀k:κ,Instr.sameBits 10000 (kv k) (kv k)=true
variable {P:Program} {kt mt vt:TypeId} {kv:κ→Value}
def VM (d:TypeDesc) (hn:∀a b:κ,Instr.sameNow d (kv a) (kv b)=some (decide (a=b))) (k:κ):∀(M:List (κ × Value)) (es:List MapEntry) (i:Nat),EsR kv M es→
  Instr.findNow d (kv k) es i=some ((fJ k M).bind fun j=>(gT k M).map fun v=>(i+j,v))
 | [],[],i,_=>by simp [Instr.findNow,fJ]
 | p::M,e::es,i,h=>by
  obtain⟨h1,h2,h3⟩:=h;have ih:=VM d hn k M es (i+1) h3;rw [Instr.findNow,h1,hn]
  by_cases hk:k=p.1
  ·simp [hk,fJ,gT,h2]
  ·simp only [hk,decide_false,ih,fJ,gT,kK];congr 1;cases fJ k M with
   |none=>rfl
   |some j=>simp [pJ,Nat.add_comm 1 j]
 | [],_::_,_,h=>by cases h
 |_::_,[],_,h=>by cases h
def VL (d:TypeDesc) (hd:P.underlying kt=some d) (hn:∀a b:κ,Instr.sameNow d (kv a) (kv b)=some (decide (a=b))) (k:κ) (w:Wo) (M:List (κ × Value)) (es:List MapEntry) (h:EsR kv M es):
  (Instr.findKey kt (kv k) es).run P w= .ok ((fJ k M).bind fun j=>(gT k M).map fun v=>(j,v)) w:=by
 have e:=VM d hn k M es 0 h;have hu:(Go.underlying kt).run P w= .ok d w:=iN hd w;unfold Instr.findKey;simp only [cX,hu,Result.andThen];rw [e];simp
structure MapIs (kv:κ→Value) (M:List (κ × Value)) (es:Array MapEntry) (a0:Nat):Prop where
 rel:EsR kv M es.toList
 nodup:(M.map (·.1)).Nodup
 borns:es.toList.Pairwise fun x y=>x.born<y.born
 lt:∀e∈es.toList,e.born<a0
def gE (kv:κ→Value) (w:Wo) (b:Nat) (M:List (κ × Value)):Prop:=∃es a0,w.heap[b]?=some (.map es a0)∧MapIs kv M es a0
def gE.of_block {w':Wo} {M:List (κ × Value)} (h:gE kv w b M) (e:w'.heap[b]?=w.heap[b]?):gE kv w' b M:=by
 obtain⟨es,c,h1,h2⟩:=h;exact⟨es,c,e.trans h1,h2⟩
def gE.lt {M:List (κ × Value)} (h:gE kv w b M):b<w.heap.size:=by
 obtain⟨es,c,h1,h2⟩:=h;exact(cV.1 h1).1
def gE.new (w:Wo) (c:Nat):gE kv (w.alloc (.map #[] c)) w.heap.size []:=
 ⟨#[],c,by rw [show(w.alloc (.map #[] c)).heap=w.heap.push (.map #[] c) from rfl];simp,⟨trivial,by simp,by simp,by simp⟩⟩
def EM {k:κ}:∀{M:List (κ × Value)},fJ k M=none↔∀p∈M,k≠p.1
 | []=>by simp [fJ]
 |p::M=>by
  by_cases hk:k=p.1
  ·simp [fJ,hk]
  ·simp [fJ,hk,EM (M:=M)]
def vS {k:κ}:∀{M:List (κ × Value)},fJ k M=none↔gT k M=none
 | []=>by simp [fJ,gT]
 |p::M=>by by_cases hk:k=p.1<;>simp [fJ,gT,hk,vS (M:=M)]
def HM {k:κ} {M:List (κ × Value)}:gT k M=none↔∀p∈M,k≠p.1:=vS.symm.trans EM
def CO {k:κ} {v:Value}:∀{M:List (κ × Value)},gT k M=some v→(k,v)∈M
 | [],h=>by simp [gT] at h
 | p::M,h=>by
  by_cases hk:k=p.1
  ·simp [gT,hk] at h;subst hk;subst h;simp
  ·simp [gT,hk] at h;exact mR _ (CO h)
def mem_putM {k:κ} {v:Value} {q:κ × Value}:∀{M:List (κ × Value)},q∈jX k v M→q=(k,v)∨q∈M
 | [],h=>by simp [jX] at h;exact .inl h
 | p::M,h=>by
  by_cases hk:k=p.1
  ·simp [jX,hk] at h;rcases h with h|h
   ·left;rw [h,hk]
   ·right;simp [h]
  ·simp [jX,hk] at h;rcases h with h|h
   ·right;simp [h]
   ·rcases mem_putM h with h|h
    ·exact .inl h
    ·right;simp [h]
def JU {k k':κ} {v:Value}:∀{M:List (κ × Value)},k'∈(jX k v M).map (·.1)↔k'=k∨k'∈M.map (·.1)
 | []=>by simp [jX]
 | p::M=>by
  by_cases hk:k=p.1
  ·simp [jX,hk]
  ·simp only [jX,hk,kK,kL,cN,JU (M:=M)];constructor
   ·rintro(h|h|h)
    ·exact .inr (.inl h)
    ·exact .inl h
    ·exact .inr (.inr h)
   ·rintro(h|h|h)
    ·exact .inr (.inl h)
    ·exact .inl h
    ·exact .inr (.inr h)
def run_getMap {es:Array MapEntry} (h:w.heap[b]?=some (.map es c)):(getObj b).run P w= .ok (.map es c) w:=by simp [getObj,Sem.run,h]
def QF {m:Option Nat} {s:Array Nat} (h:w.heap[b]?=some (.mapIter m c s d)):(getObj b).run P w= .ok (.mapIter m c s d) w:=by simp [getObj,Sem.run,h]
def Jm (K:KL P kt kv) (hu:P.underlying mt=some (.map kt vt)) {z:Value} (hz:∀w,(zeroValue vt).run P w= .ok z w) {w:Wo} {b:Nat} {M:List (κ × Value)} (h:gE kv w b M) (k:κ):
  (Instr.lookup mt (.map (some b)) (kv k) false).run P w= .ok ((gT k M).getD z) w:=by
 obtain⟨es,a0,hb,hM⟩:=h;have a1:(Go.underlying mt).run P w= .ok (.map kt vt) w:=iN hu w;unfold Instr.lookup;simp only [cX,a1,Result.andThen,run_getMap hb,dV,K.check,K.find k w M _ hM.rel];cases hi:fJ k M with
 |none=>simp [vS.1 hi,hz,Result.andThen]
 |some j=>
  cases hv:gT k M with
  |none=>rw [vS.2 hv] at hi;cases hi
  |some v=>simp [Result.andThen]
def TH (K:KL P kt kv) (hu:P.underlying mt=some (.map kt vt)) {z:Value} (hz:∀w,(zeroValue vt).run P w= .ok z w) {w:Wo} {b:Nat} {M:List (κ × Value)} (h:gE kv w b M) (k:κ):
  (Instr.lookup mt (.map (some b)) (kv k) true).run P w= .ok (.tuple #[(gT k M).getD z,.bool (gT k M).isSome]) w:=by
 obtain⟨es,a0,hb,hM⟩:=h;have a1:(Go.underlying mt).run P w= .ok (.map kt vt) w:=iN hu w;unfold Instr.lookup;simp only [cX,a1,Result.andThen,run_getMap hb,dV,K.check,K.find k w M _ hM.rel];cases hi:fJ k M with
 |none=>simp [vS.1 hi,hz,Result.andThen]
 |some j=>
  cases hv:gT k M with
  |none=>rw [vS.2 hv] at hi;cases hi
  |some v=>simp [Result.andThen]
def EsR.length:∀{M:List (κ × Value)} {es:List MapEntry},EsR kv M es→es.length=M.length
 | [],[],_=>rfl
 |p::M,e::es,h=>by simp [EsR.length h.2.2]
 | [],_::_,h=>by cases h
 |_::_,[],h=>by cases h
def len_of (hu:P.underlying mt=some (.map kt vt)) {w:Wo} {b:Nat} {M:List (κ × Value)} (h:gE kv w b M) (ty:TypeId):
  (Builtin.len_ #[mt] ty #[.map (some b)]).run P w= .ok (.int .i64 (M.length:Nat)) w:=by
 obtain⟨es,a0,hb,hM⟩:=h;have a1:(Go.underlying mt).run P w= .ok (.map kt vt) w:=iN hu w;have hl:=hM.rel.length;unfold Builtin.len_;simp only [show(#[mt]:Array TypeId)[0]?=some mt from rfl,show(#[Value.map (some b)]:Array Value)[0]?=some (.map (some b)) from rfl,cX,a1,Result.andThen,run_getMap hb,dV];rw [←hl];simp [goInt]
def DL {k:κ} {v:Value}:∀{M:List (κ × Value)},fJ k M=none→jX k v M=M++ [(k,v)]
 | [],_=>rfl
 | p::M,h=>by
  by_cases hk:k=p.1
  ·simp [fJ,hk] at h
  ·have:fJ k M=none:=by simpa [fJ,hk] using h
   simp [jX,hk,DL this]
def EsR.put {k:κ} {v:Value}:∀{M:List (κ × Value)} {es:List MapEntry} {j:Nat},EsR kv M es→fJ k M=some j→EsR kv (jX k v M) (es.modify j fun e=>{ e with key:=kv k,val:=v })
 | p::M,e::es,j,h,hi=>by
  obtain⟨h1,h2,h3⟩:=h
  by_cases hk:k=p.1
  ·obtain rfl:j=0:=by simpa [fJ,hk] using hi.symm
   subst hk;simp [jX,EsR,h3]
  ·obtain⟨i,hi2,rfl⟩:∃i,fJ k M=some i∧j=i+1:=by
    simp only [fJ,hk,kK,wJ] at hi;obtain⟨i,h,e⟩:=hi;exact⟨i,h,e.symm⟩
   simp only [jX,hk,kK,Rm,EsR];exact⟨h1,h2,EsR.put h3 hi2⟩
 | [],[],_,_,hi=>by simp [fJ] at hi
 | [],_::_,_,h,_=>by cases h
 |_::_,[],_,h,_=>by cases h
def EsR.append {k:κ} {v:Value} (n:Nat):∀{M:List (κ × Value)} {es:List MapEntry},EsR kv M es→EsR kv (M++ [(k,v)]) (es++ [{ key:=kv k,val:=v,born:=n }])
 | [],[],_=>⟨rfl,rfl,trivial⟩
 |p::M,e::es,h=>⟨h.1,h.2.1,EsR.append n h.2.2⟩
 | [],_::_,h=>by cases h
 |_::_,[],h=>by cases h
def RI {k:κ} {v:Value}:∀{M:List (κ × Value)} {j:Nat},fJ k M=some j→(jX k v M).map (·.1)=M.map (·.1)
 | p::M,j,hi=>by
  by_cases hk:k=p.1
  ·simp [jX,hk]
  ·obtain⟨i,hi2,rfl⟩:∃i,fJ k M=some i∧j=i+1:=by
    simp only [fJ,hk,kK,wJ] at hi;obtain⟨i,h,e⟩:=hi;exact⟨i,h,e.symm⟩
   simp [jX,hk,RI hi2]
 | [],_,hi=>by simp [fJ] at hi
def EsR.key {k:κ}:∀{M:List (κ × Value)} {es:List MapEntry} {j:Nat},EsR kv M es→fJ k M=some j→∃e,es[j]?=some e∧e.key=kv k
 | p::M,e::es,j,h,hi=>by
  obtain⟨h1,h2,h3⟩:=h
  by_cases hk:k=p.1
  ·obtain rfl:j=0:=by simpa [fJ,hk] using hi.symm
   exact⟨e,rfl,by rw [h1,hk]⟩
  ·obtain⟨i,hi2,rfl⟩:∃i,fJ k M=some i∧j=i+1:=by
    simp only [fJ,hk,kK,wJ] at hi;obtain⟨i,h,e⟩:=hi;exact⟨i,h,e.symm⟩
   obtain⟨e',h4,h5⟩:=EsR.key h3 hi2;exact⟨e',by simpa using h4,h5⟩
 | [],[],_,_,hi=>by simp [fJ] at hi
 | [],_::_,_,h,_=>by cases h
 |_::_,[],_,h,_=>by cases h
def Bw {k:κ} {M:List (κ × Value)} (h:fJ k M=some j):∃v,gT k M=some v:=by
 cases hv:gT k M with
 |none=>rw [vS.2 hv] at h;cases h
 |some v=>exact⟨v,rfl⟩
def SP (f:MapEntry→MapEntry) (hf:∀e,(f e).born=e.born):∀(l:List MapEntry) (j:Nat),(l.modify j f).map (·.born)=l.map (·.born)
 | [],_=>by simp
 |e::l,0=>by simp [hf]
 |e::l,j+1=>by simp [SP f hf l j]
def kW (K:KL P kt kv) (hu:P.underlying mt=some (.map kt vt)) {w:Wo} {b:Nat} {M:List (κ × Value)} (h:gE kv w b M) (k:κ) (v:Value):
  ∃w',(Instr.mapUpdate mt (.map (some b)) (kv k) v).run P w= .ok () w'∧gE kv w' b (jX k v M)∧w.grownBy w' (some b)∧w'.heap.size=w.heap.size:=by
 obtain⟨es,a0,hb,hM⟩:=h;have a1:(Go.underlying mt).run P w= .ok (.map kt vt) w:=iN hu w;have a9:b<w.heap.size:=(cV.1 hb).1;have a2:∀o,(setObj b o).run P w= .ok () { w with heap:=w.heap.setIfInBounds b o }:=fun o=>by simp [setObj,Sem.run,hb]
 have a3:∀o,({ w with heap:=w.heap.setIfInBounds b o }:Wo).heap[b]?=some o:=fun o=>by simp [a9]
 have a5:∀o,w.grownBy { w with heap:=w.heap.setIfInBounds b o } (some b):=fun o=>⟨rfl,rfl,rfl,by simp,fun k hk b0=>by
  have:b≠k:=fun e=>b0 (by rw [e])
  simp [qG,this]⟩
 have a6:∀o,({ w with heap:=w.heap.setIfInBounds b o }:Wo).heap.size=w.heap.size:=fun o=>by simp
 unfold Instr.mapUpdate;simp only [cX,a1,Result.andThen,run_getMap hb,dV,K.check,K.find k w M _ hM.rel];cases hi:fJ k M with
 | none=>
  refine⟨_,?_,⟨_,_,a3 (.map (es.push { key:=kv k,val:=v,born:=a0 }) (a0+1)),?_⟩,a5 _,a6 _⟩
  ·simp [a2]
  ·refine⟨?_,?_,?_,?_⟩
   ·rw [DL hi];simpa using EsR.append a0 hM.rel
   ·rw [DL hi,pM,NX];refine⟨hM.nodup,by simp,?_⟩;intro a ha c hc e;obtain⟨p,hp,rfl⟩:=gF.1 ha;simp at hc;exact EM.1 hi p hp (by rw [e,hc])
   ·rw [Array.toList_push,Am];exact⟨hM.borns,by simp,fun x hx y hy=>by simp at hy;subst hy;exact hM.lt x hx⟩
   ·intro e he;rw [Array.toList_push,eY] at he;rcases he with he|he
    ·have:=hM.lt e he;omega
    ·simp at he;subst he;show a0<a0+1;omega
 | some j=>
  obtain⟨v0,hv0⟩:=Bw hi;obtain⟨e0,he0,hk0⟩:=hM.rel.key hi;have b1:∀w,(Instr.keyThatStays (kv k) (kv k)).run P w= .ok (kv k) w:=fun w=>by
   unfold Instr.keyThatStays;rw [K.bits k];simp
  refine⟨_,?_,⟨_,_,a3 (.map (es.modify j fun e=>{ e with key:=kv k,val:=v }) a0),?_⟩,a5 _,a6 _⟩
  ·have a8:es[j]?=some e0:=by rw [←kE];exact he0
   simp [hv0,a8,hk0,b1,a2,Result.andThen]
  ·have a4:=SP (fun e=>{ e with key:=kv k,val:=v }) (fun _=>rfl) es.toList j;refine⟨?_,?_,?_,?_⟩
   ·simpa using EsR.put (v:=v) hM.rel hi
   ·rw [RI hi];exact hM.nodup
   ·have:=List.pairwise_map.2 hM.borns;rw [←a4] at this;simpa using List.pairwise_map.1 this
   ·intro e he;have a7:e∈es.toList.modify j (fun e=>{ e with key:=kv k,val:=v }):=by simpa using he
    have h1:e.born∈(es.toList.modify j (fun e=>{ e with key:=kv k,val:=v })).map (·.born):=gF.2 ⟨e,a7,rfl⟩;rw [a4] at h1;obtain⟨e',h2,h3⟩:=gF.1 h1;rw [←h3];exact hM.lt e' h2
end
section
variable {κ:Type} [DecidableEq κ] {P:Program} {kt mt vt:TypeId} {kv:κ→Value}
def IterAt (kv:κ→Value) (w:Wo) (r b:Nat) (M D:List (κ × Value)):Prop:=
 ∃es a0 seen,w.heap[b]?=some (.map es a0)∧MapIs kv M es a0∧w.heap[r]?=some (.mapIter (some b) a0 seen a0)∧
  ∃ds:List MapEntry,EsR kv D ds∧seen.toList=ds.map (·.born)∧(∀e∈ds,e∈es.toList)∧(ds.map (·.born)).Nodup
def IterAt.map {M D:List (κ × Value)} (h:IterAt kv w r b M D):gE kv w b M:=by
 obtain⟨es,c,seen,h1,h2,h3,h4⟩:=h;exact⟨es,c,h1,h2⟩
def Gs (hu:P.underlying mt=some (.map kt vt)) {w:Wo} {b:Nat} {M:List (κ × Value)} (h:gE kv w b M):
  ∃o,(Instr.range mt (.map (some b))).run P w= .ok (.pointer (some ⟨w.heap.size,0,none⟩)) (w.alloc o)∧IterAt kv (w.alloc o) w.heap.size b M []:=by
 obtain⟨es,a0,hb,hM⟩:=h;have c5:(Go.underlying mt).run P w= .ok (.map kt vt) w:=iN hu w;have c1:b<w.heap.size:=(cV.1 hb).1;refine⟨.mapIter (some b) a0 #[] a0,?_,es,a0,#[],?_,hM,?_,[],trivial,rfl,by simp,by simp⟩
 ·unfold Instr.range;simp only [cX,c5,Result.andThen,run_getMap hb,dV];rfl
 ·rw [show(w.alloc (.mapIter (some b) a0 #[] a0)).heap=w.heap.push (.mapIter (some b) a0 #[] a0) from rfl,lI];simp [ZW c1,hb]
 ·rw [show(w.alloc (.mapIter (some b) a0 #[] a0)).heap=w.heap.push (.mapIter (some b) a0 #[] a0) from rfl];simp
def EsR.mem:∀{M:List (κ × Value)} {es:List MapEntry} {e:MapEntry},EsR kv M es→e∈es→∃p∈M,e.key=kv p.1∧e.val=p.2
 | p::M,x::es,e,h,he=>by
  obtain⟨h1,h2,h3⟩:=h;rcases cN.1 he with rfl|he
  ·exact⟨p,by simp,h1,h2⟩
  ·obtain⟨q,hq,h4⟩:=EsR.mem h3 he;exact⟨q,by simp [hq],h4⟩
 | [],[],_,_,he=>by cases he
 | [],_::_,_,h,_=>by cases h
 |_::_,[],_,h,_=>by cases h
def On (n:Nat) (hn:0<n) (w:Wo):∃i w',(choose (.mapNext n)).run P w= .ok i w'∧i<n∧(w'=w∨w'=w.drew):=by
 rw [run_choose_drew]
 by_cases h:n≤1
 ·refine⟨0,w,?_,hn,.inl rfl⟩;simp [Question.forced,h]
 ·refine⟨w.tape w.drawn (.mapNext n)%n,w.drew,?_,nP _ hn,.inr rfl⟩;simp [Question.forced,h,Question.cut]
def EsR.entry:∀{M:List (κ × Value)} {es:List MapEntry} {p:κ × Value},EsR kv M es→p∈M→∃e∈es,e.key=kv p.1∧e.val=p.2
 | q::M,x::es,p,h,hp=>by
  obtain⟨h1,h2,h3⟩:=h;rcases cN.1 hp with rfl|hp
  ·exact⟨x,by simp,h1,h2⟩
  ·obtain⟨e,he,h4⟩:=EsR.entry h3 hp;exact⟨e,by simp [he],h4⟩
 | [],[],_,_,hp=>by cases hp
 | [],_::_,_,h,_=>by cases h
 |_::_,[],_,h,_=>by cases h
def EsR.one (inj:∀{a b:κ},kv a=kv b→a=b):∀{M:List (κ × Value)} {es:List MapEntry} {e e':MapEntry},EsR kv M es→(M.map (·.1)).Nodup→e∈es→e'∈es→e.key=e'.key→e=e'
 | q::M,x::es,e,e',h,hn,he,a9,hk=>by
  obtain⟨h1,h2,h3⟩:=h;rw [kL,List.nodup_cons] at hn;rcases cN.1 he with rfl|ha<;>rcases cN.1 a9 with rfl|a3
  ·rfl
  ·obtain⟨p,hp,hpk,_⟩:=EsR.mem h3 a3;rw [h1,hpk] at hk;exact absurd (gF.2 ⟨p,hp,(inj hk).symm⟩) hn.1
  ·obtain⟨p,hp,hpk,_⟩:=EsR.mem h3 ha;rw [h1,hpk] at hk;exact absurd (gF.2 ⟨p,hp,inj hk⟩) hn.1
  ·exact EsR.one inj h3 hn.2 ha a3 hk
 | [],[],_,_,_,_,he,_,_=>by cases he
 | [],_::_,_,_,h,_,_,_,_=>by cases h
 |_::_,[],_,_,h,_,_,_,_=>by cases h
def XY {l:List MapEntry} (h:l.Pairwise fun x y=>x.born<y.born) {e e':MapEntry} (he:e∈l) (a9:e'∈l) (hb:e.born=e'.born):e=e':=by
 induction l with
 |nil=>cases he
 |cons x l ih=>
  obtain⟨h1,h2⟩:=wM.1 h;rcases cN.1 he with rfl|ha<;>rcases cN.1 a9 with rfl|a3
  ·rfl
  ·have:=h1 _ a3;omega
  ·have:=h1 _ ha;omega
  ·exact ih h2 ha a3
def EsR.snoc {p:κ × Value} {e:MapEntry} (hk:e.key=kv p.1) (hv:e.val=p.2):∀{M:List (κ × Value)} {es:List MapEntry},EsR kv M es→EsR kv (M++ [p]) (es++ [e])
 | [],[],_=>⟨hk,hv,trivial⟩
 |q::M,x::es,h=>⟨h.1,h.2.1,EsR.snoc hk hv h.2.2⟩
 | [],_::_,h=>by cases h
 |_::_,[],h=>by cases h
def Iq (K:KL P kt kv) {w:Wo} {r b:Nat} {M D:List (κ × Value)} (h:IterAt kv w r b M D) (ty:TypeId):
  ((∀p∈M,p∈D)∧∃w',(Instr.next (.pointer (some ⟨r,0,none⟩)) false ty).run P w= .ok (.tuple #[.bool false]) w'∧(w'=w∨w'=w.drew))∨
  ∃p∈M,p.1∉D.map (·.1)∧∃w1 o,(w1=w∨w1=w.drew)∧(Instr.next (.pointer (some ⟨r,0,none⟩)) false ty).run P w= .ok (.tuple #[.bool true,kv p.1,p.2]) { w1 with heap:=w1.heap.setIfInBounds r o }∧
   IterAt kv { w1 with heap:=w1.heap.setIfInBounds r o } r b M (D++ [p]):=by
 obtain⟨es,a0,seen,hb,hM,hr,ds,hD,hseen,hds,hnd⟩:=h;have c7:r<w.heap.size:=(cV.1 hr).1;have c4:r≠b:=by intro e;rw [e,hb] at hr;cases hr
 have g1:(getObj r).run P w= .ok (.mapIter (some b) a0 seen a0) w:=QF hr;have g2:(getObj b).run P w= .ok (.map es a0) w:=run_getMap hb;have a1:(!seen.isEmpty&& !es.isEmpty&&es.all (·.born≥a0))=false:=by
  cases he:es.isEmpty with
  |true=>simp
  | false=>
   have c3:0<es.size:=by
    rcases yQ es.size with h0|h0
    ·rw [Sf.2 h0] at he;cases he
    ·exact h0
   have a8:es.all (·.born≥a0)=false:=by
    cases ha:es.all (·.born≥a0) with
    |false=>rfl
    |true=>
     rw [Array.all_eq_true'] at ha;have hm:es[0]∈es:=Array.getElem_mem c3;have h1:=ha _ hm;have h2:=hM.lt es[0] (by simpa using hm);simp at h1;omega
   simp [a8]
 obtain⟨left,hleft⟩:∃left,es.filter (fun e=>!seen.contains e.born)=left:=⟨_,rfl⟩;have a2:∀e,e∈left↔e∈es∧e.born∉ds.map (·.born):=by
  intro e;rw [←hleft,Array.mem_filter];constructor
  ·rintro⟨h1,h2⟩;refine⟨h1,fun h3=>?_⟩;rw [←hseen] at h3;have:seen.contains e.born=true:=by simpa using h3
   rw [this] at h2;cases h2
  ·rintro⟨h1,h2⟩;refine⟨h1,?_⟩;rw [←hseen] at h2;simpa using h2
 have a7:left.filter (·.born<a0)=left:=by
  rw [Array.filter_eq_self];intro e he;have:=hM.lt e (by simpa using ((a2 e).1 he).1);simpa using this
 have a6:left.filter (·.born≥a0)=#[]:=by
  rw [Array.filter_eq_empty_iff];intro e he;have:=hM.lt e (by simpa using ((a2 e).1 he).1);simp;omega
 cases hE:left.isEmpty with
 | true=>
  left;have b5:left=#[]:=Array.isEmpty_iff.1 hE;refine⟨fun p hp=>?_,w,?_,.inl rfl⟩
  ·obtain⟨e,he,hk,hv⟩:=hM.rel.entry hp;have hs:e.born∈ds.map (·.born):=by
    apply oK;intro hn;have:e∈left:=(a2 e).2 ⟨by simpa using he,hn⟩;rw [b5] at this;simp at this
   obtain⟨e',h1,h2⟩:=gF.1 hs;have:=XY hM.borns (hds e' h1) he h2;subst this;obtain⟨q,hq,h3,h4⟩:=hD.mem h1;rw [hk] at h3;rw [hv] at h4;have:p=q:=Prod.ext (K.inj h3) h4;rw [this];exact hq
  ·unfold Instr.next;simp only [cX,Result.andThen,g1,g2,a1,hleft,a7,a6,hE,dV];simp [b5,Question.forced]
 | false=>
  right;have b2:0<left.size:=by
   rcases yQ left.size with h0|h0
   ·rw [Sf.2 h0] at hE;cases hE
   ·exact h0
  obtain⟨i,w1,hch,hi,hw1⟩:=On (P:=P) left.size b2 w;have b9:left[i]∈left:=Array.getElem_mem hi;obtain⟨b0,he2⟩:=(a2 _).1 b9;obtain⟨p,hp,hk,hv⟩:=hM.rel.mem (show left[i]∈es.toList by simpa using b0);have b6:w1.heap[r]?=some (.mapIter (some b) a0 seen a0):=by rcases hw1 with rfl|rfl<;>exact hr
  have b7:w1.heap[b]?=some (.map es a0):=by rcases hw1 with rfl|rfl<;>exact hb
  have b3:r<w1.heap.size:=(cV.1 b6).1;have b4:∀o,(setObj r o).run P w1= .ok () { w1 with heap:=w1.heap.setIfInBounds r o }:=fun o=>by simp [setObj,Sem.run,b6]
  have b8:((if left.isEmpty=true then #[none] else #[])++Array.map some (left++#[]):Array (Option MapEntry))=left.map some:=by simp [hE]
  refine⟨p,hp,?_,w1,.mapIter (some b) a0 (seen.push left[i].born) a0,hw1,?_,es,a0,seen.push left[i].born,?_,hM,?_,ds++ [left[i]],hD.snoc hk hv,?_,?_,?_⟩
  ·intro c0;obtain⟨q,hq,hqp⟩:=gF.1 c0;obtain⟨e',h1,h2,_⟩:=hD.entry hq;have:=hM.rel.one K.inj hM.nodup (hds e' h1) (show left[i]∈es.toList by simpa using b0) (by rw [h2,hk,hqp]);subst this;exact he2 (gF.2 ⟨_,h1,rfl⟩)
  ·unfold Instr.next;simp only [cX,Result.andThen,g1,g2,a1,hleft,a7,a6,dV,b8];have c2:(left.map some).size=left.size:=by simp
   have b1:(left.map some)[i]?=some (some left[i]):=by simp [hi]
   simp only [c2,fT,kK,cX,hch,b1,Result.andThen,b4,dV,hk,hv]
  ·simp [qG,c4,b7]
  ·simp [b3]
  ·simp [hseen]
  ·intro e he;rcases eY.1 he with he|he
   ·exact hds e he
   ·simp at he;subst he;simpa using b0
  ·rw [pM,NX];refine⟨hnd,by simp,?_⟩;intro a ha c hc e;simp at hc;subst hc;subst e;exact he2 ha
def EsR.unsnoc {p:κ × Value}:∀{M:List (κ × Value)} {es:List MapEntry},EsR kv (M++ [p]) es→∃es' e,es=es'++ [e]∧e.key=kv p.1∧e.val=p.2
 | [],[e],h=>⟨[],e,rfl,h.1,h.2.1⟩
 | [],e::e'::es,h=>by cases h.2.2
 |q::M,x::es,h=>by
  obtain⟨es',e,h1,h2⟩:=EsR.unsnoc h.2.2;exact⟨x::es',e,by rw [h1];rfl,h2⟩
 | [],[],h=>by cases h
 |_::_,[],h=>by cases h
def Ms {M D:List (κ × Value)} {p:κ × Value} (h:IterAt kv w r b M (D++ [p])):
  (Instr.entry (.pointer (some ⟨r,0,none⟩))).run P w= .ok (.tuple #[kv p.1,p.2]) w:=by
 obtain⟨es,a0,seen,hb,hM,hr,ds,hD,hseen,hds,hnd⟩:=h;obtain⟨c6,e,rfl,hk,hv⟩:=hD.unsnoc;have a4:seen.back?=some e.born:=by
  rw [←Array.getLast?_toList,hseen];simp
 have he:e∈es.toList:=hds e (by simp);have a5:es.find? (·.born==e.born)=some e:=by
  rw [←Array.find?_toList];cases hf:es.toList.find? (·.born==e.born) with
  |none=>
   rw [List.find?_eq_none] at hf;have:=hf e he;simp at this
  |some x=>
   have h1:=List.find?_some hf;have h2:=List.mem_of_find?_eq_some hf;have:x=e:=XY hM.borns h2 he (by simpa using h1);rw [this]
 unfold Instr.entry;simp only [cX,Result.andThen,QF hr,run_getMap hb,a4,a5,dV,bne_self_eq_false,fT,kK,hk,hv]
end
end Go.MapK
namespace Go.Proofs.YtealgacfnbbgdaaGreatDoor
open Go.RowKit Go.Big Go.RowsK Go.MapK
variable {S:Int→Prop} {w w':Wo} {mb i n:Nat}
mutual
def Tm.fr:Tm→List Int→List Int
 | .mk k v nm g num den args,a0=>Tm.frL args (if k=1∧v∉a0 then a0++ [v] else a0)
def Tm.frL:List Tm→List Int→List Int
 | [],a0=>a0
 |T::r,a0=>Tm.frL r (Tm.fr T a0)
end
def Tm.free (T:Tm):List Int:=T.fr []
def KX:∀(L M:List Tm) (a0:List Int),Tm.frL (L++M) a0=Tm.frL M (Tm.frL L a0)
 | [],M,a0=>by simp [Tm.frL]
 |T::r,M,a0=>by simp [Tm.frL,KX r M]
def KV {L:List Tm} {T:Tm} {a0:List Int} (h:L[i]?=some T):Tm.frL (L.take (i+1)) a0=T.fr (Tm.frL (L.take i) a0):=by
 rw [mA,h,KX];simp [Tm.frL]
mutual
theorem AO:∀(T:Tm) (a0:List Int),(T.fr a0).length≤a0.length+T.nodes∧a0.length≤(T.fr a0).length
 | .mk k v nm g num den args,a0=>by
  simp only [Tm.fr,Tm.nodes];split
  ·have:=qX args (a0++ [v]);simp at this;omega
  ·have:=qX args a0;omega
theorem qX:∀(L:List Tm) (a0:List Int),(Tm.frL L a0).length≤a0.length+Tm.nodesL L∧a0.length≤(Tm.frL L a0).length
 | [],a0=>by simp [Tm.frL]
 |T::r,a0=>by
  simp only [Tm.frL,Tm.nodesL];have h1:=AO T a0;have h2:=qX r (T.fr a0);omega
end
mutual
theorem Lt:∀(T:Tm) (a0:List Int),a0.Nodup→(T.fr a0).Nodup
 | .mk k v nm g num den args,a0,h=>by
  simp only [Tm.fr];split
  ·rename_i hk;refine AQ args _ ?_;rw [NX];refine⟨h,by simp,fun a ha b hb e=>?_⟩;simp at hb;subst hb;subst e;exact hk.2 ha
  ·exact AQ args _ h
theorem AQ:∀(L:List Tm) (a0:List Int),a0.Nodup→(Tm.frL L a0).Nodup
 | [],a0,h=>by simpa [Tm.frL] using h
 |T::r,a0,h=>by
  simp only [Tm.frL];exact AQ r _ (Lt T a0 h)
end
mutual
def Tm.occ:Tm→Int→Prop
 | .mk k v nm g num den args,x=>(k=1∧x=v)∨Tm.occL args x
def Tm.occL:List Tm→Int→Prop
 | [],x=>False
 |T::r,x=>T.occ x∨Tm.occL r x
end
mutual
theorem mem_fr:∀(T:Tm) (a0:List Int) (x:Int),x∈T.fr a0↔x∈a0∨T.occ x
 | .mk k v nm g num den args,a0,x=>by
  simp only [Tm.fr,Tm.occ];rw [zX args]
  by_cases hk:k=1
  ·by_cases hv:v∈a0
   ·simp only [hk,hv,not_true_eq_false,and_false,kK,FY];constructor
    ·rintro(h|h)
     ·exact .inl h
     ·exact .inr (.inr h)
    ·rintro(h|h|h)
     ·exact .inl h
     ·subst h;exact .inl hv
     ·exact .inr h
   ·simp only [hk,hv,not_false_eq_true,and_self,if_true,eY,mP,FY];constructor
    ·rintro((h|h)|h)
     ·exact .inl h
     ·exact .inr (.inl h)
     ·exact .inr (.inr h)
    ·rintro(h|h|h)
     ·exact .inl (.inl h)
     ·exact .inl (.inr h)
     ·exact .inr h
  ·simp [hk]
theorem zX:∀(L:List Tm) (a0:List Int) (x:Int),x∈Tm.frL L a0↔x∈a0∨Tm.occL L x
 | [],a0,x=>by simp [Tm.frL,Tm.occL]
 |T::r,a0,x=>by
  simp only [Tm.frL,Tm.occL];rw [zX r,mem_fr T,or_assoc]
end
def ikv (x:Int):Value:=.int .i64 x
def AC:KL Tryz.prog 3 ikv where
 inj:=fun {a b} h=>by unfold ikv at h;injection h
 find:=VL (.int .i64) Tryz.underlying3 (fun a b=>by
  unfold ikv Instr.sameNow;simp [Bool.beq_eq_decide_eq])
 check:=fun em k w=>by
  have hu:(Go.underlying 3).run Tryz.prog w= .ok (.int .i64) w:=iN Tryz.underlying3 w;unfold ikv;rw [Instr.checkKey];simp only [cX,hu,Result.andThen];simp
 bits:=fun k=>by unfold ikv;simp [Instr.sameBits]
def und93:Tryz.prog.underlying 87=some (.map 3 4):=Tryz.underlying87
def zero4 (w:Wo):(zeroValue 4).run Tryz.prog w= .ok (.bool false) w:=Tryz.zeroValue4 w
def AX:El Tryz.prog 40 3 1 8 (.int .i64 0):=⟨Tryz.underlying40,by
  obtain⟨i0,h1,h2,h3,h4⟩:=pI (show(Tryz.prog.info? 3).map (fun i=>(i.zero,i.size,i.bytes))=some (some (.int .i64 0),1,8) by kernel_rfl);exact⟨i0,h1,h2,h3,h4⟩,rfl,by decide⟩
def eL (base:Nat) (w:Wo) (v:Value) (L:List Int):Prop:=w.ownsRow base 3 1 v L.length (L.map (Value.int .i64))
def gD (w:Wo) (mb:Nat) (S:Int→Prop):Prop:=∃M,gE ikv w mb M∧(∀x,x∈M.map (·.1)↔S x)∧∀p∈M,p.2= .bool true
structure bL (S:Nat→Prop) (w w':Wo):Prop where
 os:w'.os=w.os
 tape:w'.tape=w.tape
 output:w'.output=w.output
 size:w.heap.size≤w'.heap.size
 block:∀k,k<w.heap.size→¬S k→w'.heap[k]?=w.heap[k]?
def bL.refl (S:Nat→Prop) (w:Wo):bL S w w:=⟨rfl,rfl,rfl,aA _,fun _ _ _=>rfl⟩
def bL.trans {S S':Nat→Prop} {w1 w2:Wo} (h:bL S w w1) (h':bL S' w1 w2) (hs:∀k,k<w.heap.size→S' k→S k):bL S w w2:=
 ⟨h'.os.trans h.os,h'.tape.trans h.tape,h'.output.trans h.output,aE h.size h'.size,fun k hk hn=>(h'.block k (eE hk h.size) fun hS=>hn (hs k hk hS)).trans (h.block k hk hn)⟩
def bL.mono {S S':Nat→Prop} (h:bL S w w') (hs:∀k,k<w.heap.size→S k→S' k):bL S' w w':=
 ⟨h.os,h.tape,h.output,h.size,fun k hk hn=>h.block k hk fun hS=>hn (hs k hk hS)⟩
def bL.of_below {S:Nat→Prop} (h:Bz w w'):bL S w w':=⟨h.os,h.tape,h.output,h.size,fun k hk _=>h.block k hk⟩
def bL.below {S:Nat→Prop} (h:bL S w w') (hn:n≤w.heap.size) (hs:∀k,S k→n≤k):Below n w w':=
 ⟨h.os,h.tape,h.output,h.size,fun k hk=>h.block k (eE hk hn) fun hS=>by have:=hs k hS;omega⟩
def bL.of_grown {r:Option Nat} (h:w.grownBy w' r):bL (fun k=>r=some k) w w':=⟨h.os,h.tape,h.output,h.size,fun k hk hn=>h.block k hk fun e=>hn e.symm⟩
def gD.of_block (h:gD w mb S) (e:w'.heap[mb]?=w.heap[mb]?):gD w' mb S:=by
 obtain⟨M,h1,h2,h3⟩:=h;exact⟨M,h1.of_block e,h2,h3⟩
def gD.lt (h:gD w mb S):mb<w.heap.size:=by
 obtain⟨M,h1,h2,h3⟩:=h;exact h1.lt
def gD.new (w:Wo):gD (w.alloc (.map #[] 0)) w.heap.size (fun _=>False):=⟨[],gE.new w 0,by simp,by simp⟩
def gD.look (h:gD w mb S) (x:Int):∃b:Bool,(Instr.lookup 87 (.map (some mb)) (.int .i64 x) false).run Tryz.prog w= .ok (.bool b) w∧(b=true↔S x):=by
 obtain⟨M,h1,h2,h3⟩:=h;have hr:=Jm AC und93 zero4 h1 x;cases hv:gT x M with
 | none=>
  refine⟨false,by rw [hv] at hr;exact hr,?_⟩;rw [←h2 x];constructor
  ·intro h;cases h
  ·intro h;obtain⟨p,hp,rfl⟩:=gF.1 h;exact absurd rfl (HM.1 hv p hp)
 |some u=>
  have hm:=CO hv;have:=h3 _ hm;simp only at this;subst this;refine⟨true,by rw [hv] at hr;exact hr,?_⟩;rw [←h2 x];exact⟨fun _=>gF.2 ⟨_,hm,rfl⟩,fun _=>rfl⟩
def gD.put (h:gD w mb S) (x:Int):∃w',(Instr.mapUpdate 87 (.map (some mb)) (.int .i64 x) (.bool true)).run Tryz.prog w= .ok () w'∧gD w' mb (fun y=>S y∨y=x)∧bL (fun k=>k=mb) w w'∧w'.heap.size=w.heap.size:=by
 obtain⟨M,h1,h2,h3⟩:=h;obtain⟨w',hr,h4,h5,h6⟩:=kW AC und93 h1 x (.bool true);refine⟨w',hr,⟨_,h4,fun y=>?_,fun p hp=>?_⟩,(bL.of_grown h5).mono fun k _ e=>(bP e).symm,h6⟩
 ·rw [JU,h2 y];constructor
  ·rintro(h|h)
   ·exact .inr h
   ·exact .inl h
  ·rintro(h|h)
   ·exact .inr h
   ·exact .inl h
 ·rcases mem_putM hp with rfl|hp
  ·rfl
  ·exact h3 p hp
def gD.cong {S':Int→Prop} (h:gD w mb S) (e:∀x,S x↔S' x):gD w mb S':=by
 obtain⟨M,h1,h2,h3⟩:=h;exact⟨M,h1,fun x=>(h2 x).trans (e x),h3⟩
end Go.Proofs.YtealgacfnbbgdaaGreatDoor
namespace Go.Proofs.YtealgacfnbbgdaaGreatDoor
open Go.RowKit Go.Big
def vP (a:Option Addr) (len cap n:Nat) (L:List Nat) (a0:L.length=len) (a2:len<4611686018427387904) (a3:len≤cap) (w:Wo) (hn:n≤w.heap.size) (h1:dL n w a L):
  Cz 367 #[.slice a len cap] w fun e w'=>∃k,e= .returned (.slice a k cap)∧nM L k∧Bz w w':=by
 go_enter Tryz.func367,Tryz.ntmps367;go_wp2
 go_loopw [0] (fun s wr=>∃k:Nat,s= .slice a k cap∧k≤len∧(∀x∈L.drop k,x=0)∧Bz w wr) (fun s _=>CU s)
 case atStart=>exact⟨len,rfl,aA _,by rw [←a0,GZ];simp,aK _ _⟩
 case round=>
  obtain⟨k,rfl,hk,hz,hB⟩:=hrel
  by_cases a1:k=0
  ·subst a1;go_wp2
   go_ret
   exact⟨0,rfl,⟨cJ _,hz,.inl rfl⟩,hB⟩
  ·obtain⟨k',rfl⟩:∃k',k=k'+1:=⟨k-1,by omega⟩;obtain⟨x,hx⟩:∃x,L[k']?=some x:=⟨L[k'],cE (by omega)⟩;obtain⟨b,off,rfl,hb,hxl,hc⟩:=(h1.below hB hn).get hx;have a9:IntKind.i64.wrap (k':Int)=k':=OE (by omega);have a4:(k':Int)<(k':Int)+1:=by omega
   have a5:(0:Int)≤(k':Int):=by omega
   have a6:(0:Int)<(k':Int)+1:=by omega
   have a7:(k':Int)≤(cap:Int):=by omega
   have a8:¬(cap:Int)<(k':Int):=by omega
   clear h1 a1
   by_cases h0:x=0
   ·subst h0;go_wp2;refine⟨⟨k',rfl,by omega,fun y hy=>?_,hB⟩,by simp [CU]⟩;rw [qF (by omega)] at hy;rcases cN.1 hy with rfl|hy
    ·exact(aZ.1 hx).2
    ·exact hz y hy
   ·have b0:((x:Int)==0)=false:=by simp;omega
    go_wp2
    go_ret
    exact⟨k'+1,rfl,⟨by omega,hz,.inr ⟨x,by simpa using hx,h0⟩⟩,hB⟩
def OO {B:Nat} {A C:List Nat} {k x y:Nat} (hA:∀d∈A,d<B) (hx:A[k]?=some x) (hy:C[k]?=some y) (hd:A.drop (k+1)=C.drop (k+1)) (b2:x<y):val B A<val B C:=by
 obtain⟨h1,rfl⟩:=aZ.1 hx;obtain⟨h2,rfl⟩:=aZ.1 hy;have eA:A=A.take k++(A[k]::A.drop (k+1)):=by rw [←qF h1,rS]
 have eC:C=C.take k++(C[k]::C.drop (k+1)):=by rw [←qF h2,rS]
 have lA:(A.take k).length=k:=by rw [bT];omega
 have lC:(C.take k).length=k:=by rw [bT];omega
 have vA:val B A=val B (A.take k)+B^k*(A[k]+B*val B (A.drop (k+1))):=by
  conv=>lhs;rw [eA]
  rw [oO,lA,val]
 have vC:val B C=val B (C.take k)+B^k*(C[k]+B*val B (A.drop (k+1))):=by
  conv=>lhs;rw [eC]
  rw [oO,lC,val,hd]
 have hl:val B (A.take k)<B^k:=by
  have:=val_lt (B:=B) (a:=A.take k) fun d hd=>hA d (lH hd)
  rwa [lA] at this
 have hm:B^k*(A[k]+B*val B (A.drop (k+1))+1)≤B^k*(C[k]+B*val B (A.drop (k+1))):=nO _ (by omega);rw [eM,tF] at hm;omega
def Dy (x:Int) (w:Wo):Cz 380 #[.int .i64 x] w fun e w'=>e= .returned (.int .i64 (if x<0 then-1 else if 0<x then 1 else 0))∧Bz w w':=by
 by_cases h1:x<0
 ·go_enter Tryz.func380,Tryz.ntmps380;go_wp2
  go_ret
  exact⟨by simp [h1],aK _ _⟩
 ·by_cases h2:0<x
  ·go_enter Tryz.func380,Tryz.ntmps380;go_wp2
   go_ret
   exact⟨by simp [h1,h2],aK _ _⟩
  ·go_enter Tryz.func380,Tryz.ntmps380;go_wp2
   go_ret
   exact⟨by simp [h1,h2],aK _ _⟩
def CmpD (A C:List Nat) (c:Int):Prop:=
 (A.length<C.length∧c= -1)∨(C.length<A.length∧c=1)∨(A.length=C.length∧((c=0∧A=C)∨(c= -1∧val 4294967296 A<val 4294967296 C)∨(c=1∧val 4294967296 C<val 4294967296 A)))
def LW (a1 a2:Option Addr) (a0 a3 a6 a7 n:Nat) (A C:List Nat) (b1:A.length=a0) (b5:C.length=a3) (b9:a0<4611686018427387904) (c0:a3<4611686018427387904) (w:Wo) (hn:n≤w.heap.size) (h1:dL n w a1 A) (h2:dL n w a2 C):
  Cz 360 #[.slice a1 a0 a6,.slice a2 a3 a7] w fun e w'=>∃c,e= .returned (.int .i64 c)∧CmpD A C c∧Bz w w':=by
 by_cases b7:a0=a3
 ·subst b7;have a5:(((a0:Nat):Int)==a0)=true:=by simp
  go_enter Tryz.func360,Tryz.ntmps360;go_wp2
  go_loopw [5] (fun s wr=>∃k:Nat,s= .int .i64 ((k:Int)-1)∧k≤a0∧A.drop k=C.drop k∧Bz w wr) (fun s _=>(intOf s+1).toNat)
  case atStart=>exact⟨a0,rfl,aA _,by rw [←b1,GZ,b1,←b5,GZ],aK _ _⟩
  case round=>
   obtain⟨k,rfl,hk,hd,hB⟩:=hrel
   by_cases b0:k=0
   ·subst b0;have e0:(((0:Nat):Int)-1)= -1:=by omega
    rw [e0];have b3:A=C:=by simpa using hd
    go_wp2
    go_ret
    exact⟨0,rfl,.inr (.inr ⟨by omega,.inl ⟨rfl,b3⟩⟩),hB⟩
   ·obtain⟨k',rfl⟩:∃k',k=k'+1:=⟨k-1,by omega⟩;have e0:(((k'+1:Nat):Int)-1)=k':=by omega
    rw [e0];obtain⟨x,hx⟩:∃x,A[k']?=some x:=⟨A[k'],cE (by omega)⟩;obtain⟨y,hy⟩:∃y,C[k']?=some y:=⟨C[k'],cE (by omega)⟩;obtain⟨b,off,rfl,hb,hxl,hc⟩:=(h1.below hB hn).get hx;obtain⟨b',off',rfl,hb',hyl,hc'⟩:=(h2.below hB hn).get hy;have c1:(k':Int)<(a0:Int):=by omega
    have c2:(0:Int)≤(k':Int):=by omega
    have hA:∀d∈A,d<4294967296:=h1.1;have hC:∀d∈C,d<4294967296:=h2.1;have a9:Bz w wr.drew:=hB.trans ⟨rfl,rfl,rfl,aA _,fun _ _=>rfl⟩;have a4:Bz w wr.drew.drew:=a9.trans ⟨rfl,rfl,rfl,aA _,fun _ _=>rfl⟩;clear h1 h2 b0
    by_cases a8:x=y
    ·subst a8;have b4:A.drop k'=C.drop k':=by
      obtain⟨q1,q2⟩:=aZ.1 hx;obtain⟨q3,q4⟩:=aZ.1 hy;rw [qF q1,qF q3,hd,q2,q4]
     go_wp2;refine lV 8 (by kernel_rfl) (by kernel_rfl) ?_;simp only [gL,iJ,gS,gB,lY]
     repeat (with_reducible refine kT (fun K hK=>?_);go_simp;with_reducible refine hK _ ?_;clear hK K)
     refine lW ?_;show wpList _ _ _ _ _ _;go_wp2;exact⟨⟨k',by simp,by omega,b4,a9⟩,by simp [intOf]⟩
    ·have b8:((x:Int)==y)=false:=by simp;omega
     by_cases b2:x<y
     ·have b6:(x:Int)<(y:Int):=by omega
      have hv:=OO hA hx hy hd b2;clear a8;go_wp2;refine lV 8 (by kernel_rfl) (by kernel_rfl) ?_;simp only [gL,iJ,gS,gB,lY]
      repeat (with_reducible refine kT (fun K hK=>?_);go_simp;with_reducible refine hK _ ?_;clear hK K)
      refine lW ?_;show wpList _ _ _ _ _ _;go_wp2;refine lV 8 (by kernel_rfl) (by kernel_rfl) ?_;simp only [gL,iJ,gS,gB,lY]
      repeat (with_reducible refine kT (fun K hK=>?_);go_simp;with_reducible refine hK _ ?_;clear hK K)
      refine lW ?_;show wpList _ _ _ _ _ _;go_wp2
      go_ret
      exact⟨-1,rfl,.inr (.inr ⟨by omega,.inr (.inl ⟨rfl,hv⟩)⟩),a4⟩
     ·have b6:¬(x:Int)<(y:Int):=by omega
      have hv:=OO hC hy hx hd.symm (by omega);clear a8;go_wp2;refine lV 8 (by kernel_rfl) (by kernel_rfl) ?_;simp only [gL,iJ,gS,gB,lY]
      repeat (with_reducible refine kT (fun K hK=>?_);go_simp;with_reducible refine hK _ ?_;clear hK K)
      refine lW ?_;show wpList _ _ _ _ _ _;go_wp2;refine lV 8 (by kernel_rfl) (by kernel_rfl) ?_;simp only [gL,iJ,gS,gB,lY]
      repeat (with_reducible refine kT (fun K hK=>?_);go_simp;with_reducible refine hK _ ?_;clear hK K)
      refine lW ?_;show wpList _ _ _ _ _ _;go_wp2
      go_ret
      exact⟨1,rfl,.inr (.inr ⟨by omega,.inr (.inr ⟨rfl,hv⟩)⟩),a4⟩
 ·have a5:((a0:Int)==a3)=false:=by simp;omega
  have c3:IntKind.i64.wrap ((a0:Int)-a3)=(a0:Int)-a3:=by rw [eF];omega
  have sc:=Dy ((a0:Int)-a3) w;clear h1 h2;rcases Nat.lt_or_ge a0 a3 with h|h
  ·rw [if_pos (by omega)] at sc;go_enter Tryz.func360,Tryz.ntmps360
   go_wp2_with (go_at_call 380;refine sc.mono ?_;rintro e w' ⟨rfl,hb⟩)
   go_ret
   exact⟨-1,rfl,.inl ⟨by omega,rfl⟩,hb⟩
  ·rw [if_neg (by omega),if_pos (by omega)] at sc;go_enter Tryz.func360,Tryz.ntmps360
   go_wp2_with (go_at_call 380;refine sc.mono ?_;rintro e w' ⟨rfl,hb⟩)
   go_ret
   exact⟨1,rfl,.inr (.inl ⟨by omega,rfl⟩),hb⟩
end Go.Proofs.YtealgacfnbbgdaaGreatDoor
namespace Go.Proofs.YtealgacfnbbgdaaGreatDoor
def MQ (x y:Nat) (hx:x<4294967296) (hy:y<4294967296):bits .or .u64 ((x:Int)*4294967296) y=(x:Int)*4294967296+y:=by
 have e:x<<<32+y=x<<<32|||y:=GH (by omega) x;rw [BZ] at e;have e1:((x:Int)*4294967296)=((x*4294967296:Nat):Int):=by simp
 have h1:(BitVec.ofInt 64 ((x:Int)*4294967296)).toNat=x*4294967296:=by
  rw [e1,oM,oL];omega
 have h2:(BitVec.ofInt 64 (y:Int)).toNat=y:=by
  rw [oM,oL];omega
 show IntKind.u64.wrap (((BitVec.ofInt 64 ((x:Int)*4294967296))|||BitVec.ofInt 64 (y:Int)).toNat:Int)=_;rw [HF,h1,h2];have e2:x*4294967296|||y=x*4294967296+y:=by
  have:(2:Nat)^32=4294967296:=by decide
  rw [this] at e;exact e.symm
 rw [e2,IntKind.wrap_u64];omega
def YD (x:Nat):bits .and .u64 (x:Int) 1=((x%2:Nat):Int):=by
 have h1:(BitVec.ofInt 64 (x:Int)).toNat=x%18446744073709551616:=by
  rw [oM,oL]
 have h2:(BitVec.ofInt 64 (1:Int)).toNat=1:=by decide
 show IntKind.u64.wrap (((BitVec.ofInt 64 (x:Int))&&&BitVec.ofInt 64 (1:Int)).toNat:Int)=_;rw [OA,h1,h2,Qx,IntKind.wrap_u64];omega
end Go.Proofs.YtealgacfnbbgdaaGreatDoor
namespace Go.Proofs.YtealgacfnbbgdaaGreatDoor
open Go.RowKit Go.Big
variable {b x k d off:Nat} {L cur ds lo rest us:List Nat} {w w':Wo}
def dP (w:Wo) (b:Nat) (cur:List Nat):Prop:=w.heap[b]?=some (.cells (cur.map fun x:Nat=>Value.int .u32 x).toArray 83 (0,0))
def dP.cell (h:dP w b cur) {k x:Nat} (hx:cur[k]?=some x):w.cell? ⟨b,k,none⟩=some (.int .u32 x)∧w.frozen? ⟨b,k,none⟩=false:=by
 unfold dP at h;simp [World.cell?,World.frozen?,h,hx]
def dP.set (h:dP w b cur):dP (w.setCell ⟨b,k,none⟩ (.int .u32 d)) b (cur.set k d):=by
 unfold dP at h ⊢;have e:(w.setCell ⟨b,k,none⟩ (.int .u32 d)).heap[b]?=some (.cells ((cur.map fun x:Nat=>Value.int .u32 x).toArray.setIfInBounds k (.int .u32 d)) 83 (0,0)):=by
  simp [World.setCell,rW,h]
 rw [e,Rh,List.map_set]
structure Only (b:Nat) (w w':Wo):Prop where
 os:w'.os=w.os
 tape:w'.tape=w.tape
 output:w'.output=w.output
 size:w.heap.size≤w'.heap.size
 block:∀k,k<w.heap.size→k≠b→w'.heap[k]?=w.heap[k]?
def Only.refl (b:Nat) (w:Wo):Only b w w:=⟨rfl,rfl,rfl,aA _,fun _ _ _=>rfl⟩
def Only.trans {a c d:Wo} (h:Only b a c) (h':Only b c d):Only b a d:=
 ⟨h'.os.trans h.os,h'.tape.trans h.tape,h'.output.trans h.output,aE h.size h'.size,fun k hk hb=>(h'.block k (eE hk h.size) hb).trans (h.block k hk hb)⟩
def Only.of_below (h:Bz w w'):Only b w w':=⟨h.os,h.tape,h.output,h.size,fun k hk _=>h.block k hk⟩
def Only.toBelow {base:Nat} (h:Only b w w') (hb:base≤b) (hw:base≤w.heap.size):Below base w w':=⟨h.os,h.tape,h.output,h.size,fun k hk=>h.block k (by omega) (by omega)⟩
def Only.set (w:Wo) (b k:Nat) (v:Value):Only b w (w.setCell ⟨b,k,none⟩ v):=⟨rfl,rfl,rfl,by simp,fun j hj a2=>iQ w ⟨b,k,none⟩ v j a2⟩
def Only.drew (b:Nat) (w:Wo):Only b w w.drew:=⟨rfl,rfl,rfl,aA _,fun _ _ _=>rfl⟩
def Only.cell (h:Only b w w') {p:Addr} (hp:p.block<w.heap.size) (hb:p.block≠b):w'.cell? p=w.cell? p:=BU (w:=w) (h.block p.block hp hb)
def QI (a1:lo.length=off) (a0:ds.length=k) (hx:us[k]?=some x):(lo++ds++us.drop k++rest).set (off+k) d=lo++(ds++ [d])++us.drop (k+1)++rest:=by
 obtain⟨h1,rfl⟩:=aZ.1 hx;obtain⟨t,ht⟩:=enm (us.drop (k+1));rw [qF h1,ht];have hl:(lo++ds).length=off+k:=by rw [aV,a1,a0]
 rw [iP (lo++ds),CG _ _ (by omega),hl,rQ];simp
def QJ (a1:lo.length=off) (a0:ds.length=k) (hx:us[k]?=some x):(lo++ds++us.drop k++rest)[off+k]?=some x:=by
 obtain⟨h1,rfl⟩:=aZ.1 hx;rw [qF h1];have hl:(lo++ds).length=off+k:=by rw [aV,a1,a0]
 rw [iP (lo++ds),iE (by omega),hl,rQ];rfl
def DC {n:Nat} (a1:lo.length=off) (a0:ds.length=n):(lo++ds++x::rest)[off+n]?=some x∧(lo++ds++x::rest).set (off+n) d=lo++ds++d::rest:=by
 have hl:(lo++ds).length=off+n:=by rw [aV,a1,a0]
 constructor
 ·rw [iE (by omega),hl,rQ];rfl
 ·rw [CG _ _ (by omega),hl,rQ];rfl
def qJ (h:L[k]?=some x):L.take (k+1)=L.take k++ [x]:=by rw [mA,h];rfl
def ON {B m y:Nat} (hl:L.length=m+2) (h1:L[m+1]?=some x) (h2:L[m]?=some y):val B L=x*B^(m+1)+y*B^m+val B (L.take m):=by
 have e:L=L.take m++ [y]++ [x]:=by
  rw [←qJ h2,←qJ h1,iW (by omega)]
 have lm:(L.take m).length=m:=by rw [bT];omega
 conv=>lhs;rw [e]
 rw [oO,oO,aV,lm];simp only [val,oJ,wL,gQ];rw [dM (B^m),dM (B^(m+1))];omega
def wrap_u64 (x:Int):IntKind.u64.wrap x=x%18446744073709551616:=by
 simp [IntKind.wrap,IntKind.bits,IntKind.signed]
def nS (x:Int):IntKind.u32.wrap x=x%4294967296:=by
 simp [IntKind.wrap,IntKind.bits,IntKind.signed]
def OZ (x l b:Nat) (hx:x<4294967296) (hl:l<4294967296) (hb:b≤1):∃b' d:Nat,b'≤1∧d<4294967296∧x+b'*4294967296=d+l+b∧∃t1 t2 q:Nat,
  IntKind.u64.wrap ((x:Int)-(l:Int))=(t1:Int)∧IntKind.u64.wrap ((t1:Int)-(b:Int))=(t2:Int)∧(t2:Int)/4294967296=(q:Int)∧bits .and .u64 (q:Int) 1=(b':Int)∧IntKind.u32.wrap (t2:Int)=(d:Int):=by
 by_cases h:l+b≤x
 ·refine⟨0,x-l-b,by omega,by omega,by omega,(x+18446744073709551616-l)%18446744073709551616,x-l-b,0,?_,?_,by omega,?_,?_⟩
  ·rw [wrap_u64];omega
  ·rw [wrap_u64];omega
  ·have:=YD 0;simpa using this
  ·rw [nS];omega
 ·refine⟨1,x+4294967296-l-b,by omega,by omega,by omega,(x+18446744073709551616-l)%18446744073709551616,x+18446744073709551616-l-b,4294967295,?_,?_,by omega,?_,?_⟩
  ·rw [wrap_u64];omega
  ·rw [wrap_u64];omega
  ·have:=YD 4294967295;simpa using this
  ·rw [nS];omega
end Go.Proofs.YtealgacfnbbgdaaGreatDoor
namespace Go.Proofs.YtealgacfnbbgdaaGreatDoor
open Go.RowKit Go.Big Go.Shelf
def Tryz.lz_ren:Go.Shelf.Ren:=⟨fun|128=>142|133=>363|n=>n,fun|3=>3|4=>4|5=>5|9=>9|46=>156|51=>83|n=>n,fun n=>n⟩
def Tryz.lz:Go.Proofs.Lays.n133 Tryz.prog Tryz.lz_ren:={
 mixed:=by kernel_rfl
 f128:=Tryz.func142.trans (cI some (by kernel_rfl))
 f133:=Tryz.func363.trans (cI some (by kernel_rfl))
 t3:=Tryz.underlying3
 a3:=Tryz.isAgg3
 z3:=Tryz.sizeOf3
 v3:=Tryz.zeroValue3
 t4:=Tryz.underlying4
 a4:=Tryz.isAgg4
 z4:=Tryz.sizeOf4
 v4:=Tryz.zeroValue4
 t5:=Tryz.underlying5
 a5:=Tryz.isAgg5
 z5:=Tryz.sizeOf5
 v5:=Tryz.zeroValue5
 t9:=Tryz.underlying9
 a9:=Tryz.isAgg9
 z9:=Tryz.sizeOf9
 v9:=Tryz.zeroValue9
 t46:=Tryz.underlying156
 a46:=Tryz.isAgg156
 z46:=Tryz.sizeOf156
 v46:=Tryz.zeroValue156
 t51:=Tryz.underlying83
 a51:=Tryz.isAgg83
 z51:=Tryz.sizeOf83
 v51:=Tryz.zeroValue83 }
def YE:∀(f x:Nat),x<2^f→x<2^Lib.bitLenAux f x
 |0,x,h=>by simpa [Lib.bitLenAux] using h
 | f+1,x,h=>by
  unfold Lib.bitLenAux;split
  ·subst x;simp
  ·have h1:=YE f (x/2) (by rw [gK] at h;omega);rw [Nat.add_comm,gK];omega
def Pr {x:Nat} (h:0<x):1≤Lib.bitLen x:=by
 unfold Lib.bitLen Lib.bitLenAux;rw [if_neg (by omega)];omega
def Jl (x:Nat) (h0:0<x) (h1:x<4294967296) (w:Wo):Cz 363 #[.int .u32 x] w fun e w'=>∃s:Nat,e= .returned (.int .i64 s)∧s<32∧x*2^s<4294967296∧w'=w:=by
 have h:=Any.bits_LeadingZeros32 Tryz.lz (x:Int) w (by omega) (by omega);refine(show Cz 363 #[.int .u32 x] w _ from h).mono ?_;rintro e w' ⟨rfl,rfl⟩;have l1:=Any.bitLen_le32 (x:Int) (by omega) (by omega);rw [CL] at l1 ⊢;have l2:=Pr h0;have l3:x<2^Lib.bitLen x:=YE 64 x (eE h1 (by decide));refine⟨32-Lib.bitLen x,?_,by omega,?_,rfl⟩
 ·congr 2;omega
 ·have e:(4294967296:Nat)=2^Lib.bitLen x*2^(32-Lib.bitLen x):=by
   rw [←GI,show Lib.bitLen x+(32-Lib.bitLen x)=32 by omega]
  rw [e];exact NM l3 (nN (by decide))
