/- Lemmas for the text Card; no condition. -/
import Derived.Test.YtbdpdeonapmlgaaGreatDoorAc
set_option linter.all false
set_option maxHeartbeats 4000000
set_option maxRecDepth 100000
namespace Go.MapK
open Go.RowKit
variable {w w':World} {b c d j:Nat}
variable {κ:Type} [DecidableEq κ]
def EsR (kv:κ→Value):List (κ × Value)→List MapEntry→Prop
 | [],[]=>True
 |p::M,e::es=>e.key=kv p.1∧e.val=p.2∧EsR kv M es
 |_,_=>False
def bI (k:κ):List (κ × Value)→Option Nat
 | []=>none
 |p::M=>if k=p.1 then some 0 else(bI k M).map (· +1)
def aN (k:κ):List (κ × Value)→Option Value
 | []=>none
 |p::M=>if k=p.1 then some p.2 else aN k M
def putM (k:κ) (v:Value):List (κ × Value)→List (κ × Value)
 | []=>[(k,v)]
 |p::M=>if k=p.1 then(p.1,v)::M else p::putM k v M
structure KL (P:Program) (kt:TypeId) (kv:κ→Value):Prop where
 inj:∀{a b:κ},kv a=kv b→a=b
 find:∀(k:κ) (w:World) (M:List (κ × Value)) (es:List MapEntry),EsR kv M es→(Instr.findKey kt (kv k) es).run P w= .ok ((bI k M).bind fun j=>(aN k M).map fun v=>(j,v)) w
 check:∀(em:Bool) (k:κ) (w:World),(Instr.checkKey em 10000 kt (kv k)).run P w= .ok () w
 bits:∀k:κ,Instr.sameBits 10000 (kv k) (kv k)=true
variable {P:Program} {kt mt vt:TypeId} {kv:κ→Value}
theorem NQ (eq:∀(k k':κ) (w:World),(Op.equal kt (kv k) (kv k')).run P w= .ok (decide (k=k')) w) (k:κ) (w:World):∀(M:List (κ × Value)) (es:List MapEntry) (i:Nat),EsR kv M es→
  (Instr.findAsking kt (kv k) es i).run P w= .ok ((bI k M).bind fun j=>(aN k M).map fun v=>(i+j,v)) w
 | [],[],i,_=>by simp [Instr.findAsking,bI]
 | p::M,e::es,i,h=>by
  obtain⟨h1,h2,h3⟩:=h;have ih:=NQ eq k w M es (i+1) h3;rw [Instr.findAsking];simp only [aY,h1,eq,Result.andThen]
  by_cases hk:k=p.1
  ·simp [hk,bI,aN,h2]
  ·simp only [hk,decide_false,dJ,eY,ih,bI,aN];congr 1;cases bI k M with
   |none=>rfl
   |some j=>simp [kE,SD 1 j]
 | [],_::_,_,h=>by cases h
 |_::_,[],_,h=>by cases h
theorem Bd (d:TypeDesc) (hd:P.underlying kt=some d) (hn:∀a b:κ,Instr.sameNow d (kv a) (kv b)=none) (eq:∀(k k':κ) (w:World),(Op.equal kt (kv k) (kv k')).run P w= .ok (decide (k=k')) w) (k:κ) (w:World) (M:List (κ × Value)) (es:List MapEntry) (h:EsR kv M es):
  (Instr.findKey kt (kv k) es).run P w= .ok ((bI k M).bind fun j=>(aN k M).map fun v=>(j,v)) w:=by
 have e:=NQ eq k w M es 0 h;have hu:(Go.underlying kt).run P w= .ok d w:=dV hd w;unfold Instr.findKey;simp only [aY,hu,Result.andThen];cases es with
 |nil=>
  cases M with
  |nil=>simp [Instr.findNow,bI]
  |cons p M=>cases h
 | cons x es=>
  cases M with
  |nil=>cases h
  | cons p M=>
   have hx:Instr.findNow d (kv k) (x::es) 0=none:=by
    rw [Instr.findNow,h.1,hn]
   rw [hx];simpa using e
theorem NM (d:TypeDesc) (hn:∀a b:κ,Instr.sameNow d (kv a) (kv b)=some (decide (a=b))) (k:κ):∀(M:List (κ × Value)) (es:List MapEntry) (i:Nat),EsR kv M es→
  Instr.findNow d (kv k) es i=some ((bI k M).bind fun j=>(aN k M).map fun v=>(i+j,v))
 | [],[],i,_=>by simp [Instr.findNow,bI]
 | p::M,e::es,i,h=>by
  obtain⟨h1,h2,h3⟩:=h;have ih:=NM d hn k M es (i+1) h3;rw [Instr.findNow,h1,hn]
  by_cases hk:k=p.1
  ·simp [hk,bI,aN,h2]
  ·simp only [hk,decide_false,ih,bI,aN,eY];congr 1;cases bI k M with
   |none=>rfl
   |some j=>simp [kE,SD 1 j]
 | [],_::_,_,h=>by cases h
 |_::_,[],_,h=>by cases h
theorem Bc (d:TypeDesc) (hd:P.underlying kt=some d) (hn:∀a b:κ,Instr.sameNow d (kv a) (kv b)=some (decide (a=b))) (k:κ) (w:World) (M:List (κ × Value)) (es:List MapEntry) (h:EsR kv M es):
  (Instr.findKey kt (kv k) es).run P w= .ok ((bI k M).bind fun j=>(aN k M).map fun v=>(j,v)) w:=by
 have e:=NM d hn k M es 0 h;have hu:(Go.underlying kt).run P w= .ok d w:=dV hd w;unfold Instr.findKey;simp only [aY,hu,Result.andThen];rw [e];simp
structure MapIs (kv:κ→Value) (M:List (κ × Value)) (es:Array MapEntry) (a0:Nat):Prop where
 rel:EsR kv M es.toList
 nodup:(M.map (·.1)).Nodup
 borns:es.toList.Pairwise fun x y=>x.born<y.born
 lt:∀e∈es.toList,e.born<a0
def aS (kv:κ→Value) (w:World) (b:Nat) (M:List (κ × Value)):Prop:=∃es a0,w.heap[b]?=some (.map es a0)∧MapIs kv M es a0
theorem aS.of_block {M:List (κ × Value)} (h:aS kv w b M) (e:w'.heap[b]?=w.heap[b]?):aS kv w' b M:=by
 obtain⟨es,c,h1,h2⟩:=h;exact⟨es,c,e.trans h1,h2⟩
theorem aS.lt {M:List (κ × Value)} (h:aS kv w b M):b<w.heap.size:=by
 obtain⟨es,c,h1,h2⟩:=h;exact(Array.getElem?_eq_some_iff.1 h1).1
theorem aS.nodup {M:List (κ × Value)} (h:aS kv w b M):(M.map (·.1)).Nodup:=by
 obtain⟨es,c,h1,h2⟩:=h;exact h2.nodup
theorem aS.new (w:World) (c:Nat):aS kv (w.alloc (.map #[] c)) w.heap.size []:=
 ⟨#[],c,by rw [show(w.alloc (.map #[] c)).heap=w.heap.push (.map #[] c) from rfl];simp,⟨trivial,by simp,by simp,by simp⟩⟩
theorem vG {k:κ}:∀{M:List (κ × Value)},bI k M=none↔∀p∈M,k≠p.1
 | []=>by simp [bI]
 |p::M=>by
  by_cases hk:k=p.1
  ·simp [bI,hk]
  ·simp [bI,hk,vG (M:=M)]
theorem sL {k:κ}:∀{M:List (κ × Value)},bI k M=none↔aN k M=none
 | []=>by simp [bI,aN]
 |p::M=>by by_cases hk:k=p.1<;>simp [bI,aN,hk,sL (M:=M)]
theorem IA {k:κ} {M:List (κ × Value)}:aN k M=none↔∀p∈M,k≠p.1:=sL.symm.trans vG
theorem xB {k:κ} {v:Value}:∀{M:List (κ × Value)},aN k M=some v→(k,v)∈M
 | [],h=>by simp [aN] at h
 | p::M,h=>by
  by_cases hk:k=p.1
  ·simp [aN,hk] at h;subst hk;subst h;simp
  ·simp [aN,hk] at h;exact pR _ (xB h)
theorem oL {k:κ} {v:Value}:∀{M:List (κ × Value)},aN k (putM k v M)=some v
 | []=>by simp [putM,aN]
 |p::M=>by
  by_cases hk:k=p.1
  ·simp [putM,aN,hk]
  ·simp [putM,aN,hk,oL (M:=M)]
theorem nC {k k':κ} {v:Value} (a1:k'≠k):∀{M:List (κ × Value)},aN k' (putM k v M)=aN k' M
 | []=>by simp [putM,aN,a1]
 |p::M=>by
  by_cases hk:k=p.1
  ·subst hk;simp [putM,aN,a1]
  ·by_cases h2:k'=p.1<;>simp [putM,aN,hk,h2,nC a1 (M:=M)]
theorem yO {k:κ} {v:Value} {q:κ × Value}:∀{M:List (κ × Value)},q∈putM k v M→q=(k,v)∨q∈M
 | [],h=>by simp [putM] at h;exact .inl h
 | p::M,h=>by
  by_cases hk:k=p.1
  ·simp [putM,hk] at h;rcases h with h|h
   ·left;rw [h,hk]
   ·right;simp [h]
  ·simp [putM,hk] at h;rcases h with h|h
   ·right;simp [h]
   ·rcases yO h with h|h
    ·exact .inl h
    ·right;simp [h]
theorem LF {k k':κ} {v:Value}:∀{M:List (κ × Value)},k'∈(putM k v M).map (·.1)↔k'=k∨k'∈M.map (·.1)
 | []=>by simp [putM]
 | p::M=>by
  by_cases hk:k=p.1
  ·simp [putM,hk]
  ·simp only [putM,hk,eY,gB,cD,LF (M:=M)];constructor
   ·rintro(h|h|h)
    ·exact .inr (.inl h)
    ·exact .inl h
    ·exact .inr (.inr h)
   ·rintro(h|h|h)
    ·exact .inr (.inl h)
    ·exact .inl h
    ·exact .inr (.inr h)
theorem run_getMap {es:Array MapEntry} (h:w.heap[b]?=some (.map es c)):(getObj b).run P w= .ok (.map es c) w:=by simp [getObj,Sem.run,h]
theorem JD {m:Option Nat} {s:Array Nat} (h:w.heap[b]?=some (.mapIter m c s d)):(getObj b).run P w= .ok (.mapIter m c s d) w:=by simp [getObj,Sem.run,h]
theorem sG (K:KL P kt kv) (hu:P.underlying mt=some (.map kt vt)) {z:Value} (hz:∀w,(zeroValue vt).run P w= .ok z w) {w:World} {b:Nat} {M:List (κ × Value)} (h:aS kv w b M) (k:κ):
  (Instr.lookup mt (.map (some b)) (kv k) false).run P w= .ok ((aN k M).getD z) w:=by
 obtain⟨es,a0,hb,hM⟩:=h;have a3:(Go.underlying mt).run P w= .ok (.map kt vt) w:=dV hu w;unfold Instr.lookup;simp only [aY,a3,Result.andThen,run_getMap hb,bZ,K.check,K.find k w M _ hM.rel];cases hi:bI k M with
 |none=>simp [sL.1 hi,hz,Result.andThen]
 |some j=>
  cases hv:aN k M with
  |none=>rw [sL.2 hv] at hi;cases hi
  |some v=>simp [Result.andThen]
theorem EsR.length:∀{M:List (κ × Value)} {es:List MapEntry},EsR kv M es→es.length=M.length
 | [],[],_=>rfl
 |p::M,e::es,h=>by simp [EsR.length h.2.2]
 | [],_::_,h=>by cases h
 |_::_,[],h=>by cases h
theorem len_of (hu:P.underlying mt=some (.map kt vt)) {w:World} {b:Nat} {M:List (κ × Value)} (h:aS kv w b M) (ty:TypeId):
  (Builtin.len_ #[mt] ty #[.map (some b)]).run P w= .ok (.int .i64 (M.length:Nat)) w:=by
 obtain⟨es,a0,hb,hM⟩:=h;have a3:(Go.underlying mt).run P w= .ok (.map kt vt) w:=dV hu w;have hl:=hM.rel.length;unfold Builtin.len_;simp only [show(#[mt]:Array TypeId)[0]?=some mt from rfl,show(#[Value.map (some b)]:Array Value)[0]?=some (.map (some b)) from rfl,aY,a3,Result.andThen,run_getMap hb,bZ];rw [←hl];simp [goInt]
theorem uM {k:κ} {v:Value}:∀{M:List (κ × Value)},bI k M=none→putM k v M=M++ [(k,v)]
 | [],_=>rfl
 | p::M,h=>by
  by_cases hk:k=p.1
  ·simp [bI,hk] at h
  ·have:bI k M=none:=by simpa [bI,hk] using h
   simp [putM,hk,uM this]
theorem EsR.put {k:κ} {v:Value}:∀{M:List (κ × Value)} {es:List MapEntry} {j:Nat},EsR kv M es→bI k M=some j→EsR kv (putM k v M) (es.modify j fun e=>{ e with key:=kv k,val:=v })
 | p::M,e::es,j,h,hi=>by
  obtain⟨h1,h2,h3⟩:=h
  by_cases hk:k=p.1
  ·obtain rfl:j=0:=by simpa [bI,hk] using hi.symm
   subst hk;simp [putM,EsR,h3]
  ·obtain⟨i,hi2,rfl⟩:∃i,bI k M=some i∧j=i+1:=by
    simp only [bI,hk,eY,rD] at hi;obtain⟨i,h,e⟩:=hi;exact⟨i,h,e.symm⟩
   simp only [putM,hk,eY,Gs,EsR];exact⟨h1,h2,EsR.put h3 hi2⟩
 | [],[],_,_,hi=>by simp [bI] at hi
 | [],_::_,_,h,_=>by cases h
 |_::_,[],_,h,_=>by cases h
theorem EsR.append {k:κ} {v:Value} (n:Nat):∀{M:List (κ × Value)} {es:List MapEntry},EsR kv M es→EsR kv (M++ [(k,v)]) (es++ [{ key:=kv k,val:=v,born:=n }])
 | [],[],_=>⟨rfl,rfl,trivial⟩
 |p::M,e::es,h=>⟨h.1,h.2.1,EsR.append n h.2.2⟩
 | [],_::_,h=>by cases h
 |_::_,[],h=>by cases h
theorem CT {k:κ} {v:Value}:∀{M:List (κ × Value)} {j:Nat},bI k M=some j→(putM k v M).map (·.1)=M.map (·.1)
 | p::M,j,hi=>by
  by_cases hk:k=p.1
  ·simp [putM,hk]
  ·obtain⟨i,hi2,rfl⟩:∃i,bI k M=some i∧j=i+1:=by
    simp only [bI,hk,eY,rD] at hi;obtain⟨i,h,e⟩:=hi;exact⟨i,h,e.symm⟩
   simp [putM,hk,CT hi2]
 | [],_,hi=>by simp [bI] at hi
theorem EsR.key {k:κ}:∀{M:List (κ × Value)} {es:List MapEntry} {j:Nat},EsR kv M es→bI k M=some j→∃e,es[j]?=some e∧e.key=kv k
 | p::M,e::es,j,h,hi=>by
  obtain⟨h1,h2,h3⟩:=h
  by_cases hk:k=p.1
  ·obtain rfl:j=0:=by simpa [bI,hk] using hi.symm
   exact⟨e,rfl,by rw [h1,hk]⟩
  ·obtain⟨i,hi2,rfl⟩:∃i,bI k M=some i∧j=i+1:=by
    simp only [bI,hk,eY,rD] at hi;obtain⟨i,h,e⟩:=hi;exact⟨i,h,e.symm⟩
   obtain⟨e',h4,h5⟩:=EsR.key h3 hi2;exact⟨e',by simpa using h4,h5⟩
 | [],[],_,_,hi=>by simp [bI] at hi
 | [],_::_,_,h,_=>by cases h
 |_::_,[],_,h,_=>by cases h
theorem HZ {k:κ} {M:List (κ × Value)} (h:bI k M=some j):∃v,aN k M=some v:=by
 cases hv:aN k M with
 |none=>rw [sL.2 hv] at h;cases h
 |some v=>exact⟨v,rfl⟩
theorem DK (f:MapEntry→MapEntry) (hf:∀e,(f e).born=e.born):∀(l:List MapEntry) (j:Nat),(l.modify j f).map (·.born)=l.map (·.born)
 | [],_=>by simp
 |e::l,0=>by simp [hf]
 |e::l,j+1=>by simp [DK f hf l j]
theorem rQ (K:KL P kt kv) (hu:P.underlying mt=some (.map kt vt)) {w:World} {b:Nat} {M:List (κ × Value)} (h:aS kv w b M) (k:κ) (v:Value):
  ∃w',(Instr.mapUpdate mt (.map (some b)) (kv k) v).run P w= .ok () w'∧aS kv w' b (putM k v M)∧w.grownBy w' (some b)∧w'.heap.size=w.heap.size:=by
 obtain⟨es,a0,hb,hM⟩:=h;have a3:(Go.underlying mt).run P w= .ok (.map kt vt) w:=dV hu w;have b0:b<w.heap.size:=(Array.getElem?_eq_some_iff.1 hb).1;have a2:∀o,(setObj b o).run P w= .ok () { w with heap:=w.heap.setIfInBounds b o }:=fun o=>by simp [setObj,Sem.run,hb]
 have a4:∀o,({ w with heap:=w.heap.setIfInBounds b o }:World).heap[b]?=some o:=fun o=>by simp [b0]
 have a6:∀o,w.grownBy { w with heap:=w.heap.setIfInBounds b o } (some b):=fun o=>⟨rfl,rfl,rfl,by simp,fun k hk a1=>by
  have:b≠k:=fun e=>a1 (by rw [e])
  simp [lG,this]⟩
 have a7:∀o,({ w with heap:=w.heap.setIfInBounds b o }:World).heap.size=w.heap.size:=fun o=>by simp
 unfold Instr.mapUpdate;simp only [aY,a3,Result.andThen,run_getMap hb,bZ,K.check,K.find k w M _ hM.rel];cases hi:bI k M with
 | none=>
  refine⟨_,?_,⟨_,_,a4 (.map (es.push { key:=kv k,val:=v,born:=a0 }) (a0+1)),?_⟩,a6 _,a7 _⟩
  ·simp [a2]
  ·refine⟨?_,?_,?_,?_⟩
   ·rw [uM hi];simpa using EsR.append a0 hM.rel
   ·rw [uM hi,mZ,tR];refine⟨hM.nodup,by simp,?_⟩;intro a ha c hc e;obtain⟨p,hp,rfl⟩:=dG.1 ha;simp at hc;exact vG.1 hi p hp (by rw [e,hc])
   ·rw [HH,GZ];exact⟨hM.borns,by simp,fun x hx y hy=>by simp at hy;subst hy;exact hM.lt x hx⟩
   ·intro e he;rw [HH,bX] at he;rcases he with he|he
    ·have:=hM.lt e he;omega
    ·simp at he;subst he;show a0<a0+1;omega
 | some j=>
  obtain⟨v0,hv0⟩:=HZ hi;obtain⟨e0,he0,hk0⟩:=hM.rel.key hi;have b1:∀w,(Instr.keyThatStays (kv k) (kv k)).run P w= .ok (kv k) w:=fun w=>by
   unfold Instr.keyThatStays;rw [K.bits k];simp
  refine⟨_,?_,⟨_,_,a4 (.map (es.modify j fun e=>{ e with key:=kv k,val:=v }) a0),?_⟩,a6 _,a7 _⟩
  ·have a9:es[j]?=some e0:=by rw [←gQ];exact he0
   simp [hv0,a9,hk0,b1,a2,Result.andThen]
  ·have a5:=DK (fun e=>{ e with key:=kv k,val:=v }) (fun _=>rfl) es.toList j;refine⟨?_,?_,?_,?_⟩
   ·simpa using EsR.put (v:=v) hM.rel hi
   ·rw [CT hi];exact hM.nodup
   ·have:=List.pairwise_map.2 hM.borns;rw [←a5] at this;simpa using List.pairwise_map.1 this
   ·intro e he;have a8:e∈es.toList.modify j (fun e=>{ e with key:=kv k,val:=v }):=by simpa using he
    have h1:e.born∈(es.toList.modify j (fun e=>{ e with key:=kv k,val:=v })).map (·.born):=dG.2 ⟨e,a8,rfl⟩;rw [a5] at h1;obtain⟨e',h2,h3⟩:=dG.1 h1;rw [←h3];exact hM.lt e' h2
end Go.MapK
namespace Go.Proofs.YtbdpdeonapmlgaaGreatDoor
open Go.RowKit Go.Big
def bkN (l:List UInt8):Int:=
 if l= [61] then 3
 else if l= [92,61]∨l= [61,61]∨l= [92,61,61]∨l= [64,60]∨l= [64,61,60]∨l= [64,62]∨l= [64,62,61] then 4
 else if l= [105,115] then 5
 else if l= [61,58,61]∨l= [61,92,61]∨l= [60]∨l= [61,60]∨l= [62]∨l= [62,61] then 6
 else 0
def biB (l:List UInt8) (a:Int):Bool:=
 if a=0 then(l== [116,114,117,101]||l== [33])
 else if a=1 then l== [92,43]
 else if a=2 then(l== [44]||l== [59]||l== [45,62]||l== [42,45,62]||bkN l !=0)
 else false
theorem KK (nm:ByteArray) (w:World):Calls Tryz.prog 131 #[.string nm] w fun e w'=>e= .returned (.int .i64 (bkN nm.toList))∧w=w':=by
 obtain⟨K,hK⟩:∃K,bkN nm.toList=K:=⟨_,rfl⟩;rw [hK];have a0:=aside hK;clear hK;go_enter Tryz.func131,Tryz.ntmps131;go_wp2
 all_goals(have hk:=a0.out;clear a0;go_ret;refine⟨?_,rfl⟩;subst hk;simp_all [bkN])
theorem CU (nm:ByteArray) (a:Int) (w:World):Calls Tryz.prog 74 #[.agg #[.string nm,.int .i64 a]] w fun e w'=>e= .returned (.bool (biB nm.toList a))∧Below w.heap.size w w':=by
 have hB:=aC w (Obj.cells #[.string nm,.int .i64 a] 63);obtain⟨K,hK⟩:∃K,biB nm.toList a=K:=⟨_,rfl⟩;rw [hK];have a0:=aside hK;clear hK;obtain⟨b,hb⟩:∃b,bkN nm.toList=b:=⟨_,rfl⟩;have a1:=aside hb;have d1:∀w,Calls Tryz.prog 131 #[.string nm] w fun e w'=>e= .returned (.int .i64 b)∧w=w':=fun w=>by rw [←a1.out];exact KK nm w
 clear hb;go_enter Tryz.func74,Tryz.ntmps74
 go_wp2_with (go_at_call 131;(with_reducible refine(d1 _).mono ?_);rintro e w' ⟨rfl,rfl⟩)
 all_goals(have hk:=a0.out;have a2:=a1.out;clear a0 a1;go_ret;refine⟨?_,hB⟩;clear hB;subst hk;subst a2;simp_all [biB])
theorem ZO (k v:Int) (nm s:ByteArray) (g:Bool) (s1 s2 s3:Value) (w:World):
  Calls Tryz.prog 127 #[.agg #[.int .i64 k,.int .i64 v,.string nm,.bool g,s1,s2,s3],.string s] w fun e w'=>e= .returned (.bool (k==3&&nm.toList==s.toList))∧Below w.heap.size w w':=by
 have hB:=aC w (Obj.cells #[.int .i64 k,.int .i64 v,.string nm,.bool g,s1,s2,s3] 48)
 by_cases hk:k=3
 ·subst hk;go_enter Tryz.func127,Tryz.ntmps127;go_wp2
  all_goals(go_ret;exact⟨by simp_all,hB⟩)
 ·have a0:(k==3)=false:=by simpa using hk
  go_enter Tryz.func127,Tryz.ntmps127;go_wp2
  all_goals(go_ret;exact⟨by simp_all,hB⟩)
theorem MN (k v:Int) (nm s:ByteArray) (g:Bool) (s1 s2:Value) (a:Option Addr) (len c:Nat) (n:Int) (w:World):
  Calls Tryz.prog 128 #[.agg #[.int .i64 k,.int .i64 v,.string nm,.bool g,s1,s2,.slice a len c],.string s,.int .i64 n] w fun e w'=>e= .returned (.bool (k==5&&nm.toList==s.toList&&((len:Int)==n)))∧Below w.heap.size w w':=by
 have hB:=aC w (Obj.cells #[.int .i64 k,.int .i64 v,.string nm,.bool g,s1,s2,.slice a len c] 48)
 by_cases hk:k=5
 ·subst hk;cases hb:(nm.toList==s.toList)
  ·go_enter Tryz.func128,Tryz.ntmps128;go_wp2
   all_goals(go_ret;exact⟨by simp_all,hB⟩)
  ·go_enter Tryz.func128,Tryz.ntmps128;go_wp2
   all_goals(go_ret;exact⟨by simp_all,hB⟩)
 ·have a0:(k==5)=false:=by simpa using hk
  go_enter Tryz.func128,Tryz.ntmps128;go_wp2
  all_goals(go_ret;exact⟨by simp_all,hB⟩)
theorem FH (k v:Int) (nm:ByteArray) (g:Bool) (s1 s2 s3:Value) (w:World):
  Calls Tryz.prog 89 #[.agg #[.int .i64 k,.int .i64 v,.string nm,.bool g,s1,s2,s3]] w fun e w'=>e= .returned (.bool (k==3||k==5))∧Below w.heap.size w w':=by
 have hB:=aC w (Obj.cells #[.int .i64 k,.int .i64 v,.string nm,.bool g,s1,s2,s3] 48)
 by_cases hk:k=3
 ·subst hk;go_enter Tryz.func89,Tryz.ntmps89;go_wp2
  all_goals(go_ret;exact⟨by simp_all,hB⟩)
 ·have a0:(k==3)=false:=by simpa using hk
  go_enter Tryz.func89,Tryz.ntmps89;go_wp2
  all_goals(go_ret;exact⟨by simp_all,hB⟩)
theorem uS (k v:Int) (nm:ByteArray) (g:Bool) (s1 s2:Value) (a:Option Addr) (len c:Nat) (w:World):
  Calls Tryz.prog 26 #[.agg #[.int .i64 k,.int .i64 v,.string nm,.bool g,s1,s2,.slice a len c]] w fun e w'=>e= .returned (.agg #[.string nm,.int .i64 len])∧Below w.heap.size w w':=by
 have hB:=aC w (Obj.cells #[.int .i64 k,.int .i64 v,.string nm,.bool g,s1,s2,.slice a len c] 48);go_enter Tryz.func26,Tryz.ntmps26;go_wp2;refine kW (v:=.agg #[.string nm,.int .i64 len]) (by simp [results,Tryz.results26,go_sem]) rfl ⟨rfl,?_⟩;exact hB.alloc hB.size _
end Go.Proofs.YtbdpdeonapmlgaaGreatDoor
namespace Go.Heavy
variable {Q:Act→World→Prop} {C:World→Prop} {ops:Array Oper} {P:Program} {w:World} {p:Plan} {a:Act}
theorem norm_a {a':Act} (h:a=a') (hK:eE P ops C Q p a' w):eE P ops C Q p a w:=by subst h;exact hK
theorem one_skip {i:Nat} {o:Oper} (h0:ops[i]?=some o) (hg:Region.wanted o (yielded ops a.tmps)=false) (hC:C w) (hK:eE P ops C Q p (a.put o.dst undef) w):eE P ops C Q (.one i p) a w:=
 ⟨o,h0,.inr ⟨hg,hC,hK⟩⟩
end Go.Heavy
namespace Go.Proofs.YtbdpdeonapmlgaaGreatDoor
open Go.RowKit Go.Big
theorem CI (k v:Int) (nm:ByteArray) (g:Bool) (s1 s2 s3:Value) (w:World):
  Calls Tryz.prog 117 #[.agg #[.int .i64 k,.int .i64 v,.string nm,.bool g,s1,s2,s3]] w fun e w'=>e= .returned (.bool (k==3||k==5))∧Below w.heap.size w w':=by
 have hB:=aC w (Obj.cells #[.int .i64 k,.int .i64 v,.string nm,.bool g,s1,s2,s3] 48)
 by_cases hk:k=3
 ·subst hk;go_enter Tryz.func117,Tryz.ntmps117;go_wp2
  all_goals(go_ret;exact⟨by simp_all,hB⟩)
 ·have a8:(k==3)=false:=by simpa using hk
  go_enter Tryz.func117,Tryz.ntmps117;go_wp2
  all_goals(go_ret;exact⟨by simp_all,hB⟩)
theorem qI (k v:Int) (nm:ByteArray) (g:Bool) (s1 s2:Value) (a:Option Addr) (len c:Nat) (w:World):
  Calls Tryz.prog 39 #[.agg #[.int .i64 k,.int .i64 v,.string nm,.bool g,s1,s2,.slice a len c]] w fun e w'=>e= .returned (.agg #[.string nm,.int .i64 len])∧Below w.heap.size w w':=by
 have hB:=aC w (Obj.cells #[.int .i64 k,.int .i64 v,.string nm,.bool g,s1,s2,.slice a len c] 48);go_enter Tryz.func39,Tryz.ntmps39;go_wp2;refine kW (v:=.agg #[.string nm,.int .i64 len]) (by simp [results,Tryz.results39,go_sem]) rfl ⟨rfl,?_⟩;exact hB.alloc hB.size _
def StrsV (n:Nat) (w:World) (L:List ByteArray) (a:Option Addr):Prop:=
 ∀(k:Nat) s,L[k]?=some s→∃g off,a=some ⟨g,off,none⟩∧g<n∧w.cell? ⟨g,off+k,none⟩=some (.string s)
def eR (nm:ByteArray) (L:List ByteArray):Bool:=L.any fun s=>s.toList==nm.toList
theorem XL {nm s:ByteArray} {L:List ByteArray} {i:Nat} (h:L[i]?=some s):eR nm (L.take (i+1))=(eR nm (L.take i)||s.toList==nm.toList):=by
 unfold eR;rw [fT,h];simp
theorem CZ (nm:ByteArray) (L:List ByteArray) (n:Nat) (w:World) (a:Option Addr) (len c:Nat) (hl:L.length=len) (a3:len≤1048576) (h:StrsV n w L a):
  Calls Tryz.prog 83 #[.string nm,.slice a len c] w fun e w'=>e= .returned (.bool (eR nm L))∧w=w':=by
 have Al:=aside hl;have hA:=aside h;obtain⟨F,hF⟩:∃F,eR nm L=F:=⟨_,rfl⟩;rw [hF];have FA:=aside hF;clear hl h hF;go_enter Tryz.func83,Tryz.ntmps83;go_wp2
 go_loop [5] (fun s=>∃i:Nat,s= .int .i64 i∧i≤len∧Aside (eR nm (L.take i)=false)) (fun s=>len-(intOf s).toNat)
 case atStart=>exact⟨0,rfl,aT _,by show _=_;simp [eR]⟩
 case round=>
  obtain⟨i,rfl,hi,hx⟩:=hrel
  by_cases a4:i<len
  ·obtain⟨s,hs⟩:∃s,L[i]?=some s:=⟨L[i]'(by rw [Al.out];exact a4),aL _⟩;obtain⟨g,off,rfl,hg,hc⟩:=hA.out i s hs;have a5:Aside (∀b,(s.toList==nm.toList)=b→eR nm (L.take (i+1))=b):=by
    show∀b,_;intro b hb;rw [XL hs,hx.out,hb];rfl
   have a0:Aside ((s.toList==nm.toList)=true→F=true):=by
    show _→_;intro hb;rw [←FA.out];unfold eR;rw [SQ];exact⟨s,aX hs,hb⟩
   have a6:(i:Int)<(len:Int):=by omega
   have a7:(0:Int)≤(i:Int):=by omega
   have a9:IntKind.i64.wrap ((i:Int)+1)=(i:Int)+1:=by rw [aG];omega
   obtain⟨b,hb⟩:∃b,(s.toList==nm.toList)=b:=⟨_,rfl⟩;have Hb:=aside hb;cases b
   ·go_wp2
    go_round
    case rel=>exact⟨i+1,by simp,by omega,a5.out _ Hb.out⟩
    case measure=>simp [intOf];omega
   ·have a2:=a0.out hb;subst a2;go_wp2
    go_ret
    exact⟨rfl,rfl⟩
  ·obtain rfl:i=len:=by omega
   have a1:F=false:=by
    rw [←FA.out,←hx.out,←Al.out,gA]
   subst a1;go_wp2
   go_ret
   exact⟨rfl,rfl⟩
def kN:List ByteArray:=[⟨#[92,61]⟩,⟨#[61,61]⟩,⟨#[92,61,61]⟩,⟨#[64,60]⟩,⟨#[64,61,60]⟩,⟨#[64,62]⟩,⟨#[64,62,61]⟩]
def kI:List ByteArray:=[⟨#[61,58,61]⟩,⟨#[61,92,61]⟩,⟨#[60]⟩,⟨#[61,60]⟩,⟨#[62]⟩,⟨#[62,61]⟩]
def qL:List ByteArray:=[⟨#[61]⟩,⟨#[105,115]⟩,⟨#[44]⟩,⟨#[59]⟩,⟨#[45,62]⟩,⟨#[42,45,62]⟩]
theorem BV (w:World) (L:List ByteArray):StrsV (w.heap.size+1) (w.alloc (.cells (L.map Value.string).toArray 9)) L (some ⟨w.heap.size,0,none⟩):=fun k s hk=>by
 refine⟨_,_,rfl,by omega,?_⟩;have hq:=heap_alloc_new w (Obj.cells (L.map Value.string).toArray 9);simp only [World.cell?,hq,cG];simp [hk]
theorem StrsV.mono {n m:Nat} {w:World} {L:List ByteArray} {a:Option Addr} (h:StrsV n w L a) (hm:n≤m):StrsV m w L a:=fun k s hk=>by
 obtain⟨g,off,e,hg,hc⟩:=h k s hk;exact⟨g,off,e,by omega,hc⟩
theorem KN (w:World):Calls Tryz.prog 84 #[] w fun e w'=>∃a,e= .returned (.slice a 7 7)∧StrsV w'.heap.size w' kN a∧Below w.heap.size w w':=by
 have h1:=BV w kN;have hB:=aC w (.cells (kN.map Value.string).toArray 9);go_enter Tryz.func84,Tryz.ntmps84;go_wp2
 go_ret
 exact⟨_,rfl,h1.mono (by simp),hB⟩
theorem HO (w:World):Calls Tryz.prog 85 #[] w fun e w'=>∃a,e= .returned (.slice a 6 6)∧StrsV w'.heap.size w' kI a∧Below w.heap.size w w':=by
 have h1:=BV w kI;have hB:=aC w (.cells (kI.map Value.string).toArray 9);go_enter Tryz.func85,Tryz.ntmps85;go_wp2
 go_ret
 exact⟨_,rfl,h1.mono (by simp),hB⟩
section
attribute [local go_sem] Heavy.uponW
theorem bkN_ne {l:List UInt8}:bkN l≠0↔(l= [61]∨(l= [92,61]∨l= [61,61]∨l= [92,61,61]∨l= [64,60]∨l= [64,61,60]∨l= [64,62]∨l= [64,62,61])∨l= [105,115]∨(l= [61,58,61]∨l= [61,92,61]∨l= [60]∨l= [61,60]∨l= [62]∨l= [62,61])):=by
 unfold bkN;split
 ·simp [*]
 ·split
  ·simp [*]
  ·split
   ·simp [*]
   ·split<;>simp [*]
theorem KP {nm:ByteArray}:eR nm kN=true↔(nm.toList= [92,61]∨nm.toList= [61,61]∨nm.toList= [92,61,61]∨nm.toList= [64,60]∨nm.toList= [64,61,60]∨nm.toList= [64,62]∨nm.toList= [64,62,61]):=by
 unfold eR kN;simp only [SR,SP,HF,gJ,rB,lD];generalize nm.data.toList=l;constructor
 ·rintro(rfl|rfl|rfl|rfl|rfl|rfl|rfl)<;>simp
 ·rintro(rfl|rfl|rfl|rfl|rfl|rfl|rfl)<;>simp
theorem IB {nm:ByteArray}:eR nm kI=true↔(nm.toList= [61,58,61]∨nm.toList= [61,92,61]∨nm.toList= [60]∨nm.toList= [61,60]∨nm.toList= [62]∨nm.toList= [62,61]):=by
 unfold eR kI;simp only [SR,SP,HF,gJ,rB,lD];generalize nm.data.toList=l;constructor
 ·rintro(rfl|rfl|rfl|rfl|rfl|rfl)<;>simp
 ·rintro(rfl|rfl|rfl|rfl|rfl|rfl)<;>simp
theorem Br {nm:ByteArray}:eR nm qL=true↔(nm.toList= [61]∨nm.toList= [105,115]∨nm.toList= [44]∨nm.toList= [59]∨nm.toList= [45,62]∨nm.toList= [42,45,62]):=by
 unfold eR qL;simp only [SR,SP,HF,gJ,rB,lD];generalize nm.data.toList=l;constructor
 ·rintro(rfl|rfl|rfl|rfl|rfl|rfl)<;>simp
 ·rintro(rfl|rfl|rfl|rfl|rfl|rfl)<;>simp
theorem WO (nm:ByteArray):(eR nm kN||(eR nm kI||eR nm qL))=biB nm.toList 2:=by
 rw [iT];simp only [gJ,KP,IB,Br,biB,show¬(2:Int)=0 by decide,show¬(2:Int)=1 by decide,eY,if_true,rB,bne_iff_ne,bkN_ne];generalize nm.toList=l
 grind
end
section
attribute [local go_sem] Heavy.uponW
theorem eL {w:World} {g:Nat} {v0 v1:Value} {e:TypeId} {fr:Nat × Nat} (h:w.heap[g]?=some (.cells #[v0,v1] e fr)):w.cell? ⟨g,0,none⟩=some v0∧w.cell? ⟨g,1,none⟩=some v1:=by
 simp [World.cell?,h]
theorem dI (n:Nat) (w:World):Below n w w.drew:=⟨rfl,rfl,rfl,aA _,fun _ _=>rfl⟩
theorem CP (nm:ByteArray) (a:Int) (w:World):Calls Tryz.prog 29 #[.agg #[.string nm,.int .i64 a]] w fun e w'=>e= .returned (.bool (biB nm.toList a))∧Below w.heap.size w w':=by
 have hB:=aC w (Obj.cells #[.string nm,.int .i64 a] 63)
 by_cases ha:a=2
 ·subst ha;rw [←WO];have hq:=heap_alloc_new w (Obj.cells #[.string nm,.int .i64 2] 63);have a8:(w.alloc (Obj.cells #[.string nm,.int .i64 2] 63)).heap.size=w.heap.size+1:=by simp
  obtain⟨wb,hwb⟩:∃wb,w.alloc (Obj.cells #[.string nm,.int .i64 2] 63)=wb:=⟨_,rfl⟩;rw [hwb] at hB hq a8;have fa:Aside (∀w2,Below wb.heap.size wb w2→_):=fun(w2:World) (hb:Below wb.heap.size wb w2)=>eL ((hb.block w.heap.size (by omega)).trans hq)
  have x0:=(fa.out wb (aI _ _)).1;have x1:=(fa.out wb (aI _ _)).2;have a9:Aside (∀w2,_):=fun w2=>KN w2
  have b0:Aside (∀w2,_):=fun w2=>HO w2
  have a4:Aside (∀(L:List ByteArray) (w2:World) (p:Option Addr) (len c:Nat),L.length=len→len≤1048576→StrsV w2.heap.size w2 L p→_):=fun L w2 p len c h1 h2 h3=>CZ nm L w2.heap.size w2 p len c h1 h2 h3
  obtain⟨o1,ho1⟩:∃o,eR nm kN=o:=⟨_,rfl⟩;obtain⟨o2,ho2⟩:∃o,eR nm kI=o:=⟨_,rfl⟩;obtain⟨o3,ho3⟩:∃o,eR nm qL=o:=⟨_,rfl⟩;rw [ho1,ho2,ho3];have a6:=aside3 ho1 ho2 ho3;clear hq a8 ho1 ho2 ho3;go_enter Tryz.func29,Tryz.ntmps29
  go_upto_region 2 with fail
  clear hwb;have a7:Below wb.heap.size wb wb.drew:=dI _ _;refine Heavy.region_plan (fun w'=>Below wb.heap.size wb w') 15 (Heavy.lights [0,1] (.one 2 (.one 3 (Heavy.lights [4,5,6] (.one 7 (.one 8 (Heavy.lights [9,10,11,12] (.one 13 (.one 14 .done))))))))) (by kernel_rfl) (by kernel_rfl) a7 ?_;simp only [Heavy.lights,bB,bJ,bF,bE]
  (apply Heavy.light_n;(exact rfl);(exact rfl);(intro a2 hw;go_simp;exact rfl));(refine Heavy.norm_a (by go_simp;exact rfl) ?_)
  (apply Heavy.light_n;(exact rfl);(exact rfl);(intro a2 hw;have y0:=(fa.out a2 hw).1;go_simp;exact rfl));(refine Heavy.norm_a (by go_simp;exact rfl) ?_)
  (apply Heavy.one_n;(exact rfl);(exact rfl));go_simp
  refine(a9.out _).mono ?_;rintro e w3 ⟨pa,rfl,hS,hb3⟩;have a0:=a7.trans (hb3.mono (aA _));refine⟨_,rfl,a0,?_⟩
  (refine Heavy.norm_a (by go_simp;exact rfl) ?_)
  (apply Heavy.one_n;(exact rfl);(exact rfl));go_simp
  refine(a4.out kN _ _ _ _ rfl (by decide) hS).mono ?_;rintro e w4 ⟨rfl,rfl⟩;rw [a6.out.1];refine⟨_,rfl,a0,?_⟩
  (refine Heavy.norm_a (by go_simp;exact rfl) ?_)
  clear hS hb3
  (apply Heavy.light_n;(exact rfl);(exact rfl);(intro a2 hw;go_simp;exact rfl));(refine Heavy.norm_a (by go_simp;exact rfl) ?_)
  cases o1
  ·(apply Heavy.light_step;(exact rfl);(go_simp);(intro a2 hw;go_simp;exact rfl));(refine Heavy.norm_a (by go_simp;exact rfl) ?_)
   (apply Heavy.light_step;(exact rfl);(go_simp);(intro a2 hw;have y0:=(fa.out a2 hw).1;go_simp;exact rfl));(refine Heavy.norm_a (by go_simp;exact rfl) ?_)
   (apply Heavy.one_step;(exact rfl);(go_simp));go_simp
   refine(b0.out _).mono ?_;rintro e w5 ⟨pb,rfl,hS,hb5⟩;have a1:=a0.trans (hb5.mono a0.size);refine⟨_,rfl,a1,?_⟩
   (refine Heavy.norm_a (by go_simp;exact rfl) ?_)
   (apply Heavy.one_step;(exact rfl);(go_simp));go_simp
   refine(a4.out kI _ _ _ _ rfl (by decide) hS).mono ?_;rintro e w6 ⟨rfl,rfl⟩;rw [a6.out.2.1];refine⟨_,rfl,a1,?_⟩
   (refine Heavy.norm_a (by go_simp;exact rfl) ?_)
   clear hS hb5
   iterate 2 ((apply Heavy.light_n;(exact rfl);(exact rfl);(intro a2 hw;go_simp;exact rfl));(refine Heavy.norm_a (by go_simp;exact rfl) ?_))
   cases o2
   ·(apply Heavy.light_step;(exact rfl);(go_simp);(intro a2 hw;go_simp;exact rfl));(refine Heavy.norm_a (by go_simp;exact rfl) ?_)
    (apply Heavy.light_step;(exact rfl);(go_simp);(intro a2 hw;have y0:=(fa.out a2 hw).1;go_simp;exact rfl));(refine Heavy.norm_a (by go_simp;exact rfl) ?_)
    have hS:=BV w5 qL;have a5:=a1.trans ((aC w5 (.cells (qL.map Value.string).toArray 9)).mono a1.size)
    (apply Heavy.one_step;(exact rfl);(go_simp));go_simp
    refine⟨a5,?_⟩
    (refine Heavy.norm_a (by go_simp;exact rfl) ?_)
    (apply Heavy.one_step;(exact rfl);(go_simp));go_simp
    refine(a4.out qL _ _ _ _ rfl (by decide) (hS.mono (by simp))).mono ?_;rintro e w6 ⟨rfl,rfl⟩;rw [a6.out.2.2];refine⟨_,rfl,a5,?_⟩
    (refine Heavy.norm_a (by go_simp;exact rfl) ?_)
    apply Heavy.plan_end;show wpList _ _ _ _ _ _;go_wp2
    go_ret
    exact⟨rfl,hB.trans (a5.mono hB.size)⟩
   ·(apply Heavy.light_skip;(exact rfl);(go_simp));(refine Heavy.norm_a (by go_simp;exact rfl) ?_)
    (apply Heavy.light_skip;(exact rfl);(go_simp));(refine Heavy.norm_a (by go_simp;exact rfl) ?_)
    (refine Heavy.one_skip rfl (by go_simp) a1 ?_);(refine Heavy.norm_a (by go_simp;exact rfl) ?_)
    (refine Heavy.one_skip rfl (by go_simp) a1 ?_);(refine Heavy.norm_a (by go_simp;exact rfl) ?_)
    apply Heavy.plan_end;show wpList _ _ _ _ _ _;go_wp2
    go_ret
    exact⟨rfl,hB.trans (a1.mono hB.size)⟩
  ·(apply Heavy.light_skip;(exact rfl);(go_simp));(refine Heavy.norm_a (by go_simp;exact rfl) ?_)
   (apply Heavy.light_skip;(exact rfl);(go_simp));(refine Heavy.norm_a (by go_simp;exact rfl) ?_)
   (refine Heavy.one_skip rfl (by go_simp) a0 ?_);(refine Heavy.norm_a (by go_simp;exact rfl) ?_)
   (refine Heavy.one_skip rfl (by go_simp) a0 ?_);(refine Heavy.norm_a (by go_simp;exact rfl) ?_)
   iterate 2 ((apply Heavy.light_n;(exact rfl);(exact rfl);(intro a2 hw;go_simp;exact rfl));(refine Heavy.norm_a (by go_simp;exact rfl) ?_))
   iterate 2 ((apply Heavy.light_skip;(exact rfl);(go_simp));(refine Heavy.norm_a (by go_simp;exact rfl) ?_))
   (refine Heavy.one_skip rfl (by go_simp) a0 ?_);(refine Heavy.norm_a (by go_simp;exact rfl) ?_)
   (refine Heavy.one_skip rfl (by go_simp) a0 ?_);(refine Heavy.norm_a (by go_simp;exact rfl) ?_)
   apply Heavy.plan_end;show wpList _ _ _ _ _ _;go_wp2
   go_ret
   exact⟨rfl,hB.trans (a0.mono hB.size)⟩
 ·have b3:(a==2)=false:=by simpa using ha
  obtain⟨K,hK⟩:∃K,biB nm.toList a=K:=⟨_,rfl⟩;rw [hK];have a3:=aside hK;clear hK
  by_cases h1:a=1
  ·subst h1;go_enter Tryz.func29,Tryz.ntmps29;go_wp2
   all_goals(have hk:=a3.out;clear a3;go_ret;refine⟨?_,hB⟩;clear hB;subst hk;simp_all [biB])
  ·have b2:(a==1)=false:=by simpa using h1
   by_cases h0:a=0
   ·subst h0;go_enter Tryz.func29,Tryz.ntmps29;go_wp2
    all_goals(have hk:=a3.out;clear a3;go_ret;refine⟨?_,hB⟩;clear hB;subst hk;simp_all [biB])
   ·have b1:(a==0)=false:=by simpa using h0
    go_enter Tryz.func29,Tryz.ntmps29;go_wp2
    all_goals(have hk:=a3.out;clear a3;go_ret;refine⟨?_,hB⟩;clear hB;subst hk;simp_all [biB])
end
section
attribute [local go_sem] Heavy.uponW
theorem tl (a:Array UInt8):(⟨a⟩:ByteArray).toList=a.toList:=lD _
def Tm.callB:Tm→Bool
 | .mk k _ _ _ _ _ _=>k==3||k==5
def Tm.ind:Tm→ByteArray × Int
 | .mk _ _ nm _ _ _ args=>(nm,args.length)
def Tm.bi:Tm→Bool
 | .mk _ _ nm _ _ _ args=>biB nm.toList args.length
def negK:List Tm→Int
 | []=>0
 |A::_=>if(A.callB&& !A.bi)=true then 2 else 0
def Tm.kd:Tm→Int
 | .mk k _ nm _ _ _ args=>
  if(k==3||k==5)=false then 0
  else if(k==5&&nm.toList== [92,43]&&((args.length:Int)==1))=true then
   negK args
  else if biB nm.toList args.length=false then 1
  else if((args.length:Int)==2)=true then bkN nm.toList else 0
theorem xH {w w2:World} {b o i:Nat} {v0 v1 v2 v3 v4 v5 v6:Value} (hx:∀p:Addr,p.block=b→w2.cell? p=w.cell? p) (hc:∀(j:Nat) u,[v0,v1,v2,v3,v4,v5,v6][j]?=some u→w.cell? ⟨b,o+i*7+j,none⟩=some u):
  w2.cell? ⟨b,o+i*7,none⟩=some v0∧w2.cell? ⟨b,o+i*7+1,none⟩=some v1∧w2.cell? ⟨b,o+i*7+2,none⟩=some v2∧w2.cell? ⟨b,o+i*7+3,none⟩=some v3∧w2.cell? ⟨b,o+i*7+4,none⟩=some v4∧w2.cell? ⟨b,o+i*7+5,none⟩=some v5∧w2.cell? ⟨b,o+i*7+6,none⟩=some v6:=
 ⟨(hx _ rfl).trans (hc 0 _ rfl),(hx _ rfl).trans (hc 1 _ rfl),(hx _ rfl).trans (hc 2 _ rfl),(hx _ rfl).trans (hc 3 _ rfl),(hx _ rfl).trans (hc 4 _ rfl),(hx _ rfl).trans (hc 5 _ rfl),(hx _ rfl).trans (hc 6 _ rfl)⟩
theorem jP {w w2:World} {b o:Nat} {v0 v1 v2 v3 v4 v5 v6:Value} (hx:∀p:Addr,p.block=b→w2.cell? p=w.cell? p) (hc:∀(j:Nat) u,[v0,v1,v2,v3,v4,v5,v6][j]?=some u→w.cell? ⟨b,o+j,none⟩=some u):
  w2.cell? ⟨b,o,none⟩=some v0∧w2.cell? ⟨b,o+1,none⟩=some v1∧w2.cell? ⟨b,o+2,none⟩=some v2∧w2.cell? ⟨b,o+3,none⟩=some v3∧w2.cell? ⟨b,o+4,none⟩=some v4∧w2.cell? ⟨b,o+5,none⟩=some v5∧w2.cell? ⟨b,o+6,none⟩=some v6:=
 ⟨(hx _ rfl).trans (hc 0 _ rfl),(hx _ rfl).trans (hc 1 _ rfl),(hx _ rfl).trans (hc 2 _ rfl),(hx _ rfl).trans (hc 3 _ rfl),(hx _ rfl).trans (hc 4 _ rfl),(hx _ rfl).trans (hc 5 _ rfl),(hx _ rfl).trans (hc 6 _ rfl)⟩
theorem MC (T:Tm) (n:Nat) (w:World) (vs:List Value) (h:TmV n w T vs) (hn:n≤w.heap.size):
  Calls Tryz.prog 64 #[.agg vs.toArray] w fun e w'=>e= .returned (.int .i64 T.kd)∧Below w.heap.size w w':=by
 obtain⟨k,v,nm,g,num,den,args⟩:=T;simp only [TmV] at h;obtain⟨s1,s2,a,c,rfl,_,hS,hbig,_⟩:=h;obtain⟨len,hl⟩:∃len,args.length=len:=⟨_,rfl⟩;obtain⟨K,hK⟩:∃K,Tm.kd (.mk k v nm g num den args)=K:=⟨_,rfl⟩;rw [hK,hl];have b2:=aside hK;have Al:=aside hl;have b3:=aside hS;have hB:=aC w (Obj.cells #[.int .i64 k,.int .i64 v,.string nm,.bool g,s1,s2,.slice a len c] 48);have hq:=heap_alloc_new w (Obj.cells #[.int .i64 k,.int .i64 v,.string nm,.bool g,s1,s2,.slice a len c] 48);have b5:(w.alloc (Obj.cells #[.int .i64 k,.int .i64 v,.string nm,.bool g,s1,s2,.slice a len c] 48)).heap.size=w.heap.size+1:=by simp
 obtain⟨wb,hwb⟩:∃wb,w.alloc (Obj.cells #[.int .i64 k,.int .i64 v,.string nm,.bool g,s1,s2,.slice a len c] 48)=wb:=⟨_,rfl⟩;rw [hwb] at hB hq b5;have fa:Aside (∀w2,Below wb.heap.size wb w2→_):=fun(w2:World) (hb:Below wb.heap.size wb w2)=>cY ((hb.block w.heap.size (by omega)).trans hq)
 obtain⟨x0,x1,x2,x3,x4,x5,x6⟩:=fa.out wb (aI _ _);clear hq b5 hl hK hS;have b1:Aside (∀w2,_):=fun w2=>FH k v nm g s1 s2 (.slice a len c) w2
 have a1:Aside (∀w2,_):=fun w2=>MN k v nm ⟨#[92,43]⟩ g s1 s2 a len c 1 w2
 have b8:Aside (∀w2,_):=fun w2=>uS k v nm g s1 s2 a len c w2
 have b0:Aside (∀w2,_):=fun w2=>CU nm len w2
 have a6:Aside (∀w2,_):=fun w2=>KK nm w2
 obtain⟨cb,hcb⟩:∃b,(k==3||k==5)=b:=⟨_,rfl⟩;rw [tl #[92,43]] at a1;obtain⟨ic,hic⟩:∃b,(k==5&&nm.toList==(#[92,43]:Array UInt8).toList&&((len:Int)==1))=b:=⟨_,rfl⟩;obtain⟨bi,hbi⟩:∃b,biB nm.toList len=b:=⟨_,rfl⟩;rw [hcb] at b1;rw [hic] at a1;rw [hbi] at b0;have a0:Aside ((if cb=false then 0 else if ic=true then negK args else if bi=false then 1 else if((len:Int)==2)=true then bkN nm.toList else 0)=K):=by
  show _=K;rw [←b2.out,←hcb,←hic,←hbi,←Al.out];rfl
 have a3:Aside (ic=true→len=1):=by
  show _→_;rw [←hic];intro h;simp at h;omega
 have e0:Below wb.heap.size wb wb:=aI _ _;clear b2 hcb hic hbi;show Calls Tryz.prog 64 #[.agg #[.int .i64 k,.int .i64 v,.string nm,.bool g,s1,s2,.slice a len c]] w _;go_enter Tryz.func64,Tryz.ntmps64
 go_upto_region 1 with fail
 clear hwb
 go_wp2_with (go_at_call 89;with_reducible refine(b1.out _).mono ?_)
 rintro e w1 ⟨rfl,hb1⟩;have e1:Below wb.heap.size wb w1:=e0.trans (hb1.mono e0.size);clear x0 x1 x2 x3 x4 x5 x6 hb1;obtain⟨x0,x1,x2,x3,x4,x5,x6⟩:=fa.out w1 e1;cases cb
 ·obtain rfl:K=0:=by rw [←a0.out];rfl
  clear a0 a3;go_wp2
  go_ret
  exact⟨rfl,hB.trans (e1.mono hB.size)⟩
 go_wp2_with (go_at_call 128;with_reducible refine(a1.out _).mono ?_)
 rintro e w2 ⟨rfl,hb2⟩;have e2:Below wb.heap.size wb w2:=e1.trans (hb2.mono e1.size);clear x0 x1 x2 x3 x4 x5 x6 hb2;obtain⟨x0,x1,x2,x3,x4,x5,x6⟩:=fa.out w2 e2;cases ic
 ·go_wp2_with (go_at_call 26;with_reducible refine(b8.out _).mono ?_)
  rintro e w3 ⟨rfl,hb3⟩;have e3:Below wb.heap.size wb w3:=e2.trans (hb3.mono e2.size);clear x0 x1 x2 x3 x4 x5 x6 hb3;obtain⟨x0,x1,x2,x3,x4,x5,x6⟩:=fa.out w3 e3
  go_wp2_with (go_at_call 74;with_reducible refine(b0.out _).mono ?_)
  rintro e w4 ⟨rfl,hb4⟩;have e4:Below wb.heap.size wb w4:=e3.trans (hb4.mono e3.size);clear x0 x1 x2 x3 x4 x5 x6 hb4;obtain⟨x0,x1,x2,x3,x4,x5,x6⟩:=fa.out w4 e4;cases bi
  ·obtain rfl:K=1:=by rw [←a0.out];rfl
   clear a0 a3;go_wp2
   go_ret
   exact⟨rfl,hB.trans (e4.mono hB.size)⟩
  ·by_cases h2:len=2
   ·subst h2;have c0:Aside (bkN nm.toList=K):=a0.out;clear a0 a3
    go_wp2_with (go_at_call 131;with_reducible refine(a6.out _).mono ?_)
    rintro e w5 ⟨rfl,rfl⟩;go_wp2
    go_ret
    exact⟨by have:=c0.out;simp_all,hB.trans (e4.mono hB.size)⟩
   ·have b9:((len:Int)==2)=false:=by simp;omega
    obtain rfl:K=0:=by rw [←a0.out,b9];rfl
    clear a0 a3;go_wp2
    go_ret
    exact⟨rfl,hB.trans (e4.mono hB.size)⟩
 ·have c1:=a3.out rfl;subst c1;obtain⟨A,rfl⟩:∃A,args= [A]:=List.length_eq_one_iff.1 Al.out;have b4:=b3.out;simp only [cR] at b4;obtain⟨⟨b,off,vs',rfl,hbn,hc,hv⟩,_⟩:=b4;obtain⟨k',v',nm',g',a9,a8,args'⟩:=A;simp only [TmV] at hv;obtain⟨_,_,a',c',rfl,⟨⟨p1,q1,rfl,_⟩,⟨p2,q2,rfl,_⟩⟩,_⟩:=hv;generalize a9.length=n1 at*;generalize a8.length=n2 at*;obtain⟨l',hl'⟩:∃l',args'.length=l':=⟨_,rfl⟩;rw [hl'] at hc;have a2:Aside ((if((k'==3||k'==5)&& !biB nm'.toList l')=true then 2 else 0)=K):=by
   show _=K;rw [←a0.out,←hl'];rfl
  have ya:Aside (∀w2,Below wb.heap.size wb w2→_):=fun(w2:World) (hb:Below wb.heap.size wb w2)=>jP (fun p hp=>((hB.trans (hb.mono hB.size)).mono hn).cell (hp▸hbn)) (by simpa using hc)
  obtain⟨y0,y1,y2,y3,y4,y5,y6⟩:=ya.out w2 e2;clear a0 a3 hl' hc b3
  go_upto_region 5 with fail
  have z0:=aC w2 (Obj.cells #[.int .i64 k',.int .i64 v',.string nm',.bool g',.slice p1 n1 q1,.slice p2 n2 q2,.slice a' l' c'] 48);have zq:=heap_alloc_new w2 (Obj.cells #[.int .i64 k',.int .i64 v',.string nm',.bool g',.slice p1 n1 q1,.slice p2 n2 q2,.slice a' l' c'] 48);have zs:(w2.alloc (Obj.cells #[.int .i64 k',.int .i64 v',.string nm',.bool g',.slice p1 n1 q1,.slice p2 n2 q2,.slice a' l' c'] 48)).heap.size=w2.heap.size+1:=by simp
  obtain⟨wc,hwc⟩:∃wc,w2.alloc (Obj.cells #[.int .i64 k',.int .i64 v',.string nm',.bool g',.slice p1 n1 q1,.slice p2 n2 q2,.slice a' l' c'] 48)=wc:=⟨_,rfl⟩;rw [hwc] at z0 zq zs ⊢;clear hwc;have fb:Aside (∀w3,Below wc.heap.size wc w3→_):=fun(w3:World) (hb:Below wc.heap.size wc w3)=>cY ((hb.block w2.heap.size (by omega)).trans zq)
  have e3:Below wb.heap.size wb wc:=e2.trans (z0.mono e2.size);have f0:Below wc.heap.size wc wc:=aI _ _;have a5:Aside (∀w2,_):=fun w2=>FH k' v' nm' g' (.slice p1 n1 q1) (.slice p2 n2 q2) (.slice a' l' c') w2
  have a7:Aside (∀w2,_):=fun w2=>uS k' v' nm' g' (.slice p1 n1 q1) (.slice p2 n2 q2) a' l' c' w2
  have a4:Aside (∀w2,_):=fun w2=>CU nm' l' w2
  obtain⟨b7,hcb'⟩:∃b,(k'==3||k'==5)=b:=⟨_,rfl⟩;obtain⟨b6,hbi'⟩:∃b,biB nm'.toList l'=b:=⟨_,rfl⟩;rw [hcb'] at a5;rw [hbi'] at a4;rw [hcb',hbi'] at a2;clear x0 x1 x2 x3 x4 x5 x6 y0 y1 y2 y3 y4 y5 y6 zq zs z0 hcb' hbi' ya;obtain⟨x0,x1,x2,x3,x4,x5,x6⟩:=fb.out wc f0
  go_wp2_with (go_at_call 89;with_reducible refine(a5.out _).mono ?_)
  rintro e w3 ⟨rfl,hb3⟩;have f1:Below wc.heap.size wc w3:=f0.trans (hb3.mono f0.size);clear x0 x1 x2 x3 x4 x5 x6 hb3;obtain⟨x0,x1,x2,x3,x4,x5,x6⟩:=fb.out w3 f1;cases b7
  ·obtain rfl:K=0:=by rw [←a2.out];rfl
   clear a2;go_wp2
   go_ret
   exact⟨rfl,hB.trans ((e3.trans (f1.mono e3.size)).mono hB.size)⟩
  go_wp2_with (go_at_call 26;with_reducible refine(a7.out _).mono ?_)
  rintro e w4 ⟨rfl,hb4⟩;have f2:Below wc.heap.size wc w4:=f1.trans (hb4.mono f1.size);clear x0 x1 x2 x3 x4 x5 x6 hb4;obtain⟨x0,x1,x2,x3,x4,x5,x6⟩:=fb.out w4 f2
  go_wp2_with (go_at_call 74;with_reducible refine(a4.out _).mono ?_)
  rintro e w5 ⟨rfl,hb5⟩;have f3:Below wc.heap.size wc w5:=f2.trans (hb5.mono f2.size);clear x0 x1 x2 x3 x4 x5 x6 hb5;cases b6
  ·obtain rfl:K=2:=by rw [←a2.out];rfl
   clear a2;go_wp2
   go_ret
   exact⟨rfl,hB.trans ((e3.trans (f3.mono e3.size)).mono hB.size)⟩
  ·obtain rfl:K=0:=by rw [←a2.out];rfl
   clear a2;go_wp2
   go_ret
   exact⟨rfl,hB.trans ((e3.trans (f3.mono e3.size)).mono hB.size)⟩
end
end Go.Proofs.YtbdpdeonapmlgaaGreatDoor
namespace Go.Proofs.YtbdpdeonapmlgaaGreatDoor
noncomputable section
mutual
def Tm.ground:Tm→Prop
 | .mk k _ _ _ _ _ args=>k≠1∧Tm.groundL args
def Tm.groundL:List Tm→Prop
 | []=>True
 |T::r=>T.ground∧Tm.groundL r
end
mutual
def Tm.vd:Tm→Prop
 | .mk k v _ g num den args=>(k≠5→args= [])∧(k≠1→v=0)∧(k≠2→g=false∧num= []∧den= [])∧Tm.vdL args
def Tm.vdL:List Tm→Prop
 | []=>True
 |T::r=>T.vd∧Tm.vdL r
end
def varT (n:Nat):Tm:=.mk 1 n ⟨#[]⟩ false [] [] []
open Classical in
mutual
def gphi (ix:Tm→Tm→Nat):Tm→Tm→Tm
 | .mk k v nm g num den args,b=>
  if Tm.mk k v nm g num den args=b∧(Tm.mk k v nm g num den args).ground then b
  else match b with
  | .mk k' v' nm' g' num' den' args'=>if k=5∧k'=5∧nm=nm'∧args.length=args'.length then .mk 5 0 nm false [] [] (gphiL ix args args') else varT (ix (.mk k v nm g num den args) (.mk k' v' nm' g' num' den' args'))
def gphiL (ix:Tm→Tm→Nat):List Tm→List Tm→List Tm
 |T::r,U::q=>gphi ix T U::gphiL ix r q
 |_,_=>[]
end
def both (ix:Tm→Tm→Nat) (f1 f2:Int→Option Tm):Int→Option Tm:=fun v=>match f1 v,f2 v with
 |some p,some q=>some (gphi ix p q)
 |_,_=>none
end
end Go.Proofs.YtbdpdeonapmlgaaGreatDoor
namespace Go.Proofs.YtbdpdeonapmlgaaGreatDoor
open Go.RowKit Go.Big
structure RootOk (k:Int) (g:Bool) (num den:List Nat):Prop where
 kind:k=1∨k=2∨k=3∨k=4∨k=5
 sound:k=2→cP g num den=0
 non:k≠2→g=false∧num= []∧den= []
structure NodeOk (k v:Int) (nm:ByteArray) (g:Bool) (num den:List Nat) (len:Nat):Prop where
 root:RootOk k g num den
 var:k=1→0≤v∧v≤1073741824
 name:nm.size≤4000
 args:len≤32
mutual
def AllOk:Tm→Prop
 | .mk k v nm g num den args=>NodeOk k v nm g num den args.length∧AllOks args
def AllOks:List Tm→Prop
 | []=>True
 |T::r=>AllOk T∧AllOks r
end
theorem AllOks.get:∀{L:List Tm},AllOks L→∀{j:Nat} {T:Tm},L[j]?=some T→AllOk T
 | [],_,j,T,h=>by simp at h
 |T0::r,hs,0,T,h=>by
  simp only [AllOks] at hs;simp at h;subst h;exact hs.1
 |T0::r,hs,j+1,T,h=>by
  simp only [AllOks] at hs;exact AllOks.get hs.2 (show r[j]?=some T by simpa using h)
end Go.Proofs.YtbdpdeonapmlgaaGreatDoor
