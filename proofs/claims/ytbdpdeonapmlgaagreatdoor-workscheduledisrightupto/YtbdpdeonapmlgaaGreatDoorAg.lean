/- Lemmas; no condition. -/
import Derived.Test.YtbdpdeonapmlgaaGreatDoorAf
import Derived.OneCell
set_option linter.all false
set_option maxHeartbeats 4000000
set_option maxRecDepth 100000
namespace Go.MapK
open Go.RowKit
variable {κ:Type} [DecidableEq κ] {P:Program} {kt mt vt:TypeId} {kv:κ→Value}
def gH (kv:κ→Value) (w:Wo) (r b:Nat) (M D:List (κ × Value)):Prop:=
 ∃es a0 seen,w.heap[b]?=some (.map es a0)∧MapIs kv M es a0∧w.heap[r]?=some (.mapIter (some b) a0 seen a0)∧
  ∃ds:List MapEntry,EsR kv D ds∧seen.toList=ds.map (·.born)∧(∀e∈ds,e∈es.toList)∧(ds.map (·.born)).Nodup
def gH.of_blocks {w w':Wo} {r b:Nat} {M D:List (κ × Value)} (h:gH kv w r b M D) (e1:w'.heap[b]?=w.heap[b]?) (e2:w'.heap[r]?=w.heap[r]?):gH kv w' r b M D:=by
 obtain⟨es,c,seen,h1,h2,h3,h4⟩:=h;exact⟨es,c,seen,e1.trans h1,h2,e2.trans h3,h4⟩
def gH.map {w:Wo} {r b:Nat} {M D:List (κ × Value)} (h:gH kv w r b M D):aQ kv w b M:=by
 obtain⟨es,c,seen,h1,h2,h3,h4⟩:=h;exact⟨es,c,h1,h2⟩
def MW (hu:P.underlying mt=some (.map kt vt)) {w:Wo} {b:Nat} {M:List (κ × Value)} (h:aQ kv w b M):
  ∃o,(Instr.range mt (.map (some b))).run P w= .ok (.pointer (some ⟨w.heap.size,0,none⟩)) (w.alloc o)∧gH kv (w.alloc o) w.heap.size b M []:=by
 obtain⟨es,a0,hb,hM⟩:=h;have c5:(Go.underlying mt).run P w= .ok (.map kt vt) w:=dQ hu w;have c1:b<w.heap.size:=(aG.1 hb).1;refine⟨.mapIter (some b) a0 #[] a0,?_,es,a0,#[],?_,hM,?_,[],trivial,rfl,by simp,by simp⟩
 ·unfold Instr.range;simp only [aU,c5,Result.andThen,run_getMap hb,cC];rfl
 ·rw [show(w.alloc (.mapIter (some b) a0 #[] a0)).heap=w.heap.push (.mapIter (some b) a0 #[] a0) from rfl,jA];simp [VD c1,hb]
 ·rw [show(w.alloc (.mapIter (some b) a0 #[] a0)).heap=w.heap.push (.mapIter (some b) a0 #[] a0) from rfl];simp
def EsR.mem:∀{M:List (κ × Value)} {es:List MapEntry} {e:MapEntry},EsR kv M es→e∈es→∃p∈M,e.key=kv p.1∧e.val=p.2
 | p::M,x::es,e,h,he=>by
  obtain⟨h1,h2,h3⟩:=h;rcases cM.1 he with rfl|he
  ·exact⟨p,by simp,h1,h2⟩
  ·obtain⟨q,hq,h4⟩:=EsR.mem h3 he;exact⟨q,by simp [hq],h4⟩
 | [],[],_,_,he=>by cases he
 | [],_::_,_,h,_=>by cases h
 |_::_,[],_,h,_=>by cases h
def Ho (n:Nat) (hn:0<n) (w:Wo):∃i w',(choose (.mapNext n)).run P w= .ok i w'∧i<n∧(w'=w∨w'=w.drew):=by
 rw [run_choose_drew]
 by_cases h:n≤1
 ·refine⟨0,w,?_,hn,.inl rfl⟩;simp [Question.forced,h]
 ·refine⟨w.tape w.drawn (.mapNext n)%n,w.drew,?_,mT _ hn,.inr rfl⟩;simp [Question.forced,h,Question.cut]
def EsR.entry:∀{M:List (κ × Value)} {es:List MapEntry} {p:κ × Value},EsR kv M es→p∈M→∃e∈es,e.key=kv p.1∧e.val=p.2
 | q::M,x::es,p,h,hp=>by
  obtain⟨h1,h2,h3⟩:=h;rcases cM.1 hp with rfl|hp
  ·exact⟨x,by simp,h1,h2⟩
  ·obtain⟨e,he,h4⟩:=EsR.entry h3 hp;exact⟨e,by simp [he],h4⟩
 | [],[],_,_,hp=>by cases hp
 | [],_::_,_,h,_=>by cases h
 |_::_,[],_,h,_=>by cases h
def EsR.one (inj:∀{a b:κ},kv a=kv b→a=b):∀{M:List (κ × Value)} {es:List MapEntry} {e e':MapEntry},EsR kv M es→(M.map (·.1)).Nodup→e∈es→e'∈es→e.key=e'.key→e=e'
 | q::M,x::es,e,e',h,hn,he,a9,hk=>by
  obtain⟨h1,h2,h3⟩:=h;rw [fS,VR] at hn;rcases cM.1 he with rfl|ha<;>rcases cM.1 a9 with rfl|a3
  ·rfl
  ·obtain⟨p,hp,hpk,_⟩:=EsR.mem h3 a3;rw [h1,hpk] at hk;exact absurd (cL.2 ⟨p,hp,(inj hk).symm⟩) hn.1
  ·obtain⟨p,hp,hpk,_⟩:=EsR.mem h3 ha;rw [h1,hpk] at hk;exact absurd (cL.2 ⟨p,hp,inj hk⟩) hn.1
  ·exact EsR.one inj h3 hn.2 ha a3 hk
 | [],[],_,_,_,_,he,_,_=>by cases he
 | [],_::_,_,_,h,_,_,_,_=>by cases h
 |_::_,[],_,_,h,_,_,_,_=>by cases h
def TK {l:List MapEntry} (h:l.Pairwise fun x y=>x.born<y.born) {e e':MapEntry} (he:e∈l) (a9:e'∈l) (hb:e.born=e'.born):e=e':=by
 induction l with
 |nil=>cases he
 |cons x l ih=>
  obtain⟨h1,h2⟩:=tI.1 h;rcases cM.1 he with rfl|ha<;>rcases cM.1 a9 with rfl|a3
  ·rfl
  ·have:=h1 _ a3;omega
  ·have:=h1 _ ha;omega
  ·exact ih h2 ha a3
def EsR.snoc {p:κ × Value} {e:MapEntry} (hk:e.key=kv p.1) (hv:e.val=p.2):∀{M:List (κ × Value)} {es:List MapEntry},EsR kv M es→EsR kv (M++ [p]) (es++ [e])
 | [],[],_=>⟨hk,hv,trivial⟩
 |q::M,x::es,h=>⟨h.1,h.2.1,EsR.snoc hk hv h.2.2⟩
 | [],_::_,h=>by cases h
 |_::_,[],h=>by cases h
def OB (K:KL P kt kv) {w:Wo} {r b:Nat} {M D:List (κ × Value)} (h:gH kv w r b M D) (ty:TypeId):
  ((∀p∈M,p∈D)∧∃w',(Instr.next (.pointer (some ⟨r,0,none⟩)) false ty).run P w= .ok (.tuple #[.bool false]) w'∧(w'=w∨w'=w.drew))∨
  ∃p∈M,p.1∉D.map (·.1)∧∃w1 o,(w1=w∨w1=w.drew)∧(Instr.next (.pointer (some ⟨r,0,none⟩)) false ty).run P w= .ok (.tuple #[.bool true,kv p.1,p.2]) { w1 with heap:=w1.heap.setIfInBounds r o }∧
   gH kv { w1 with heap:=w1.heap.setIfInBounds r o } r b M (D++ [p]):=by
 obtain⟨es,a0,seen,hb,hM,hr,ds,hD,hseen,hds,hnd⟩:=h;have c7:r<w.heap.size:=(aG.1 hr).1;have c4:r≠b:=by intro e;rw [e,hb] at hr;cases hr
 have g1:(getObj r).run P w= .ok (.mapIter (some b) a0 seen a0) w:=LK hr;have g2:(getObj b).run P w= .ok (.map es a0) w:=run_getMap hb;have a1:(!seen.isEmpty&& !es.isEmpty&&es.all (·.born≥a0))=false:=by
  cases he:es.isEmpty with
  |true=>simp
  | false=>
   have c3:0<es.size:=by
    rcases vK es.size with h0|h0
    ·rw [Lk.2 h0] at he;cases he
    ·exact h0
   have a8:es.all (·.born≥a0)=false:=by
    cases ha:es.all (·.born≥a0) with
    |false=>rfl
    |true=>
     rw [Array.all_eq_true'] at ha;have hm:es[0]∈es:=Array.getElem_mem c3;have h1:=ha _ hm;have h2:=hM.lt es[0] (by simpa using hm);simp at h1;omega
   simp [a8]
 obtain⟨left,hleft⟩:∃left,es.filter (fun e=>!seen.contains e.born)=left:=⟨_,rfl⟩;have a2:∀e,e∈left↔e∈es∧e.born∉ds.map (·.born):=by
  intro e;rw [←hleft,Array.mem_filter];constructor
  ·rintro⟨h1,h2⟩;refine⟨h1,fun h3=>?_⟩;rw [←hseen] at h3;have:seen.contains e.born=true:=by simpa using h3
   rw [this] at h2;cases h2
  ·rintro⟨h1,h2⟩;refine⟨h1,?_⟩;rw [←hseen] at h2;simpa using h2
 have a7:left.filter (·.born<a0)=left:=by
  rw [Array.filter_eq_self];intro e he;have:=hM.lt e (by simpa using ((a2 e).1 he).1);simpa using this
 have a6:left.filter (·.born≥a0)=#[]:=by
  rw [Array.filter_eq_empty_iff];intro e he;have:=hM.lt e (by simpa using ((a2 e).1 he).1);simp;omega
 cases hE:left.isEmpty with
 | true=>
  left;have b5:left=#[]:=Array.isEmpty_iff.1 hE;refine⟨fun p hp=>?_,w,?_,.inl rfl⟩
  ·obtain⟨e,he,hk,hv⟩:=hM.rel.entry hp;have hs:e.born∈ds.map (·.born):=by
    apply oH;intro hn;have:e∈left:=(a2 e).2 ⟨by simpa using he,hn⟩;rw [b5] at this;simp at this
   obtain⟨e',h1,h2⟩:=cL.1 hs;have:=TK hM.borns (hds e' h1) he h2;subst this;obtain⟨q,hq,h3,h4⟩:=hD.mem h1;rw [hk] at h3;rw [hv] at h4;have:p=q:=Prod.ext (K.inj h3) h4;rw [this];exact hq
  ·unfold Instr.next;simp only [aU,Result.andThen,g1,g2,a1,hleft,a7,a6,hE,cC];simp [b5,Question.forced]
 | false=>
  right;have b2:0<left.size:=by
   rcases vK left.size with h0|h0
   ·rw [Lk.2 h0] at hE;cases hE
   ·exact h0
  obtain⟨i,w1,hch,hi,hw1⟩:=Ho (P:=P) left.size b2 w;have b9:left[i]∈left:=Array.getElem_mem hi;obtain⟨b0,he2⟩:=(a2 _).1 b9;obtain⟨p,hp,hk,hv⟩:=hM.rel.mem (show left[i]∈es.toList by simpa using b0);have b6:w1.heap[r]?=some (.mapIter (some b) a0 seen a0):=by rcases hw1 with rfl|rfl<;>exact hr
  have b7:w1.heap[b]?=some (.map es a0):=by rcases hw1 with rfl|rfl<;>exact hb
  have b3:r<w1.heap.size:=(aG.1 b6).1;have b4:∀o,(setObj r o).run P w1= .ok () { w1 with heap:=w1.heap.setIfInBounds r o }:=fun o=>by simp [setObj,Sem.run,b6]
  have b8:((if left.isEmpty=true then #[none] else #[])++Array.map some (left++#[]):Array (Option MapEntry))=left.map some:=by simp [hE]
  refine⟨p,hp,?_,w1,.mapIter (some b) a0 (seen.push left[i].born) a0,hw1,?_,es,a0,seen.push left[i].born,?_,hM,?_,ds++ [left[i]],hD.snoc hk hv,?_,?_,?_⟩
  ·intro c0;obtain⟨q,hq,hqp⟩:=cL.1 c0;obtain⟨e',h1,h2,_⟩:=hD.entry hq;have:=hM.rel.one K.inj hM.nodup (hds e' h1) (show left[i]∈es.toList by simpa using b0) (by rw [h2,hk,hqp]);subst this;exact he2 (cL.2 ⟨_,h1,rfl⟩)
  ·unfold Instr.next;simp only [aU,Result.andThen,g1,g2,a1,hleft,a7,a6,cC,b8];have c2:(left.map some).size=left.size:=by simp
   have b1:(left.map some)[i]?=some (some left[i]):=by simp [hi]
   simp only [c2,eH,gX,aU,hch,b1,Result.andThen,b4,cC,hk,hv]
  ·simp [lV,c4,b7]
  ·simp [b3]
  ·simp [hseen]
  ·intro e he;rcases cG.1 he with he|he
   ·exact hds e he
   ·simp at he;subst he;simpa using b0
  ·rw [oF,yT];refine⟨hnd,by simp,?_⟩;intro a ha c hc e;simp at hc;subst hc;subst e;exact he2 ha
def EsR.unsnoc {p:κ × Value}:∀{M:List (κ × Value)} {es:List MapEntry},EsR kv (M++ [p]) es→∃es' e,es=es'++ [e]∧e.key=kv p.1∧e.val=p.2
 | [],[e],h=>⟨[],e,rfl,h.1,h.2.1⟩
 | [],e::e'::es,h=>by cases h.2.2
 |q::M,x::es,h=>by
  obtain⟨es',e,h1,h2⟩:=EsR.unsnoc h.2.2;exact⟨x::es',e,by rw [h1];rfl,h2⟩
 | [],[],h=>by cases h
 |_::_,[],h=>by cases h
def RO {w:Wo} {r b:Nat} {M D:List (κ × Value)} {p:κ × Value} (h:gH kv w r b M (D++ [p])):
  (Instr.entry (.pointer (some ⟨r,0,none⟩))).run P w= .ok (.tuple #[kv p.1,p.2]) w:=by
 obtain⟨es,a0,seen,hb,hM,hr,ds,hD,hseen,hds,hnd⟩:=h;obtain⟨c6,e,rfl,hk,hv⟩:=hD.unsnoc;have a4:seen.back?=some e.born:=by
  rw [←Array.getLast?_toList,hseen];simp
 have he:e∈es.toList:=hds e (by simp);have a5:es.find? (·.born==e.born)=some e:=by
  rw [←Array.find?_toList];cases hf:es.toList.find? (·.born==e.born) with
  |none=>
   rw [List.find?_eq_none] at hf;have:=hf e he;simp at this
  |some x=>
   have h1:=List.find?_some hf;have h2:=List.mem_of_find?_eq_some hf;have:x=e:=TK hM.borns h2 he (by simpa using h1);rw [this]
 unfold Instr.entry;simp only [aU,Result.andThen,LK hr,run_getMap hb,a4,a5,cC,bne_self_eq_false,eH,gX,hk,hv]
end Go.MapK
namespace Go.Proofs.YtbdpdeonapmlgaaGreatDoor
open Go.RowKit Go.Big Go.RowsK Go.MapK
variable {S:Int→Prop} {w w':Wo} {mb i n:Nat}
mutual
def Tm.fr:Tm→List Int→List Int
 | .mk k v nm g num den args,a0=>Tm.frL args (if k=1∧v∉a0 then a0++ [v] else a0)
def Tm.frL:List Tm→List Int→List Int
 | [],a0=>a0
 |T::r,a0=>Tm.frL r (Tm.fr T a0)
end
def Tm.free (T:Tm):List Int:=T.fr []
def QQ:∀(L M:List Tm) (a0:List Int),Tm.frL (L++M) a0=Tm.frL M (Tm.frL L a0)
 | [],M,a0=>by simp [Tm.frL]
 |T::r,M,a0=>by simp [Tm.frL,QQ r M]
def Er {L:List Tm} {T:Tm} {a0:List Int} (h:L[i]?=some T):Tm.frL (L.take (i+1)) a0=T.fr (Tm.frL (L.take i) a0):=by
 rw [lT,h,QQ];simp [Tm.frL]
mutual
theorem BR:∀(T:Tm) (a0:List Int),(T.fr a0).length≤a0.length+T.nodes∧a0.length≤(T.fr a0).length
 | .mk k v nm g num den args,a0=>by
  simp only [Tm.fr,Tm.nodes];split
  ·have:=uN args (a0++ [v]);simp at this;omega
  ·have:=uN args a0;omega
theorem uN:∀(L:List Tm) (a0:List Int),(Tm.frL L a0).length≤a0.length+Tm.nodesL L∧a0.length≤(Tm.frL L a0).length
 | [],a0=>by simp [Tm.frL]
 |T::r,a0=>by
  simp only [Tm.frL,Tm.nodesL];have h1:=BR T a0;have h2:=uN r (T.fr a0);omega
end
mutual
theorem QP:∀(T:Tm) (a0:List Int),a0.Nodup→(T.fr a0).Nodup
 | .mk k v nm g num den args,a0,h=>by
  simp only [Tm.fr];split
  ·rename_i hk;refine BS args _ ?_;rw [yT];refine⟨h,by simp,fun a ha b hb e=>?_⟩;simp at hb;subst hb;subst e;exact hk.2 ha
  ·exact BS args _ h
theorem BS:∀(L:List Tm) (a0:List Int),a0.Nodup→(Tm.frL L a0).Nodup
 | [],a0,h=>by simpa [Tm.frL] using h
 |T::r,a0,h=>by
  simp only [Tm.frL];exact BS r _ (QP T a0 h)
end
mutual
def Tm.occ:Tm→Int→Prop
 | .mk k v nm g num den args,x=>(k=1∧x=v)∨Tm.occL args x
def Tm.occL:List Tm→Int→Prop
 | [],x=>False
 |T::r,x=>T.occ x∨Tm.occL r x
end
mutual
theorem FD:∀(T:Tm) (a0:List Int) (x:Int),x∈T.fr a0↔x∈a0∨T.occ x
 | .mk k v nm g num den args,a0,x=>by
  simp only [Tm.fr,Tm.occ];rw [AK args]
  by_cases hk:k=1
  ·by_cases hv:v∈a0
   ·simp only [hk,hv,UV,and_false,gX,yG];constructor
    ·rintro(h|h)
     ·exact .inl h
     ·exact .inr (.inr h)
    ·rintro(h|h|h)
     ·exact .inl h
     ·subst h;exact .inl hv
     ·exact .inr h
   ·simp only [hk,hv,not_false_eq_true,and_self,if_true,cG,fI,yG];constructor
    ·rintro((h|h)|h)
     ·exact .inl h
     ·exact .inr (.inl h)
     ·exact .inr (.inr h)
    ·rintro(h|h|h)
     ·exact .inl (.inl h)
     ·exact .inl (.inr h)
     ·exact .inr h
  ·simp [hk]
theorem AK:∀(L:List Tm) (a0:List Int) (x:Int),x∈Tm.frL L a0↔x∈a0∨Tm.occL L x
 | [],a0,x=>by simp [Tm.frL,Tm.occL]
 |T::r,a0,x=>by
  simp only [Tm.frL,Tm.occL];rw [AK r,FD T,or_assoc]
end
def kQ {T:Tm} {x:Int}:x∈T.free↔T.occ x:=by
 unfold Tm.free;rw [FD];simp
def ikv (x:Int):Value:=.int .i64 x
def sG:KL Tryz.prog 3 ikv where
 inj:=fun {a b} h=>by unfold ikv at h;injection h
 find:=Ew (.int .i64) Tryz.underlying3 (fun a b=>by
  unfold ikv Instr.sameNow;simp [Bool.beq_eq_decide_eq])
 check:=fun em k w=>by
  have hu:(Go.underlying 3).run Tryz.prog w= .ok (.int .i64) w:=dQ Tryz.underlying3 w;unfold ikv;rw [Instr.checkKey];simp only [aU,hu,Result.andThen];simp
 bits:=fun k=>by unfold ikv;simp [Instr.sameBits]
def und93:Tryz.prog.underlying 93=some (.map 3 4):=Tryz.underlying93
def zero4 (w:Wo):(zeroValue 4).run Tryz.prog w= .ok (.bool false) w:=Tryz.zeroValue4 w
def elInt:El Tryz.prog 64 3 1 8 (.int .i64 0):=⟨Tryz.underlying64,by
  obtain⟨i0,h1,h2,h3,h4⟩:=mQ (show(Tryz.prog.info? 3).map (fun i=>(i.zero,i.size,i.bytes))=some (some (.int .i64 0),1,8) by kernel_rfl);exact⟨i0,h1,h2,h3,h4⟩,rfl,by decide⟩
def OutN (base:Nat) (w:Wo) (v:Value) (L:List Int):Prop:=w.ownsRow base 3 1 v L.length (L.map (Value.int .i64))
def aW (w:Wo) (mb:Nat) (S:Int→Prop):Prop:=∃M,aQ ikv w mb M∧(∀x,x∈M.map (·.1)↔S x)∧∀p∈M,p.2= .bool true
structure aS (S:Nat→Prop) (w w':Wo):Prop where
 os:w'.os=w.os
 tape:w'.tape=w.tape
 output:w'.output=w.output
 size:w.heap.size≤w'.heap.size
 block:∀k,k<w.heap.size→¬S k→w'.heap[k]?=w.heap[k]?
def aS.refl (S:Nat→Prop) (w:Wo):aS S w w:=⟨rfl,rfl,rfl,aA _,fun _ _ _=>rfl⟩
def aS.trans {S S':Nat→Prop} {w1 w2:Wo} (h:aS S w w1) (h':aS S' w1 w2) (hs:∀k,k<w.heap.size→S' k→S k):aS S w w2:=
 ⟨h'.os.trans h.os,h'.tape.trans h.tape,h'.output.trans h.output,aD h.size h'.size,fun k hk hn=>(h'.block k (aR hk h.size) fun hS=>hn (hs k hk hS)).trans (h.block k hk hn)⟩
def aS.mono {S S':Nat→Prop} (h:aS S w w') (hs:∀k,k<w.heap.size→S k→S' k):aS S' w w':=
 ⟨h.os,h.tape,h.output,h.size,fun k hk hn=>h.block k hk fun hS=>hn (hs k hk hS)⟩
def aS.of_below {S:Nat→Prop} (h:Bz w w'):aS S w w':=⟨h.os,h.tape,h.output,h.size,fun k hk _=>h.block k hk⟩
def aS.below {S:Nat→Prop} (h:aS S w w') (hn:n≤w.heap.size) (hs:∀k,S k→n≤k):Below n w w':=
 ⟨h.os,h.tape,h.output,h.size,fun k hk=>h.block k (aR hk hn) fun hS=>by have:=hs k hS;omega⟩
def aS.of_grown {r:Option Nat} (h:w.grownBy w' r):aS (fun k=>r=some k) w w':=⟨h.os,h.tape,h.output,h.size,fun k hk hn=>h.block k hk fun e=>hn e.symm⟩
def aW.of_block (h:aW w mb S) (e:w'.heap[mb]?=w.heap[mb]?):aW w' mb S:=by
 obtain⟨M,h1,h2,h3⟩:=h;exact⟨M,h1.of_block e,h2,h3⟩
def aW.lt (h:aW w mb S):mb<w.heap.size:=by
 obtain⟨M,h1,h2,h3⟩:=h;exact h1.lt
def aW.new (w:Wo):aW (w.alloc (.map #[] 0)) w.heap.size (fun _=>False):=⟨[],aQ.new w 0,by simp,by simp⟩
def aW.look (h:aW w mb S) (x:Int):∃b:Bool,(Instr.lookup 93 (.map (some mb)) (.int .i64 x) false).run Tryz.prog w= .ok (.bool b) w∧(b=true↔S x):=by
 obtain⟨M,h1,h2,h3⟩:=h;have hr:=sF sG und93 zero4 h1 x;cases hv:aL x M with
 | none=>
  refine⟨false,by rw [hv] at hr;exact hr,?_⟩;rw [←h2 x];constructor
  ·intro h;cases h
  ·intro h;obtain⟨p,hp,rfl⟩:=cL.1 h;exact absurd rfl (DK.1 hv p hp)
 |some u=>
  have hm:=vX hv;have:=h3 _ hm;simp only at this;subst this;refine⟨true,by rw [hv] at hr;exact hr,?_⟩;rw [←h2 x];exact⟨fun _=>cL.2 ⟨_,hm,rfl⟩,fun _=>rfl⟩
def aW.put (h:aW w mb S) (x:Int):∃w',(Instr.mapUpdate 93 (.map (some mb)) (.int .i64 x) (.bool true)).run Tryz.prog w= .ok () w'∧aW w' mb (fun y=>S y∨y=x)∧aS (fun k=>k=mb) w w'∧w'.heap.size=w.heap.size:=by
 obtain⟨M,h1,h2,h3⟩:=h;obtain⟨w',hr,h4,h5,h6⟩:=pU sG und93 h1 x (.bool true);refine⟨w',hr,⟨_,h4,fun y=>?_,fun p hp=>?_⟩,(aS.of_grown h5).mono fun k _ e=>(aK e).symm,h6⟩
 ·rw [FC,h2 y];constructor
  ·rintro(h|h)
   ·exact .inr h
   ·exact .inl h
  ·rintro(h|h)
   ·exact .inr h
   ·exact .inl h
 ·rcases uG hp with rfl|hp
  ·rfl
  ·exact h3 p hp
def aW.cong {S':Int→Prop} (h:aW w mb S) (e:∀x,S x↔S' x):aW w mb S':=by
 obtain⟨M,h1,h2,h3⟩:=h;exact⟨M,h1,fun x=>(h2 x).trans (e x),h3⟩
end Go.Proofs.YtbdpdeonapmlgaaGreatDoor
namespace Go.Proofs.YtbdpdeonapmlgaaGreatDoor
open Go.RowKit Go.Big
def NY (L:List Tm) (i:Nat):Tm.nodesL (L.take i)≤Tm.nodesL L:=by
 have:=AD (L.take i) (L.drop i);rw [pO] at this;omega
def SizeOk (T:Tm):Prop:=∀(n:Nat) (w:Wo) (vs:Lv) (m:Nat),m≤1000000→TmV n w T vs→n≤w.heap.size→
  Cz 152 #[.agg vs.toArray,.int .i64 m] w fun e w'=>∃r:Nat,e= .returned (.int .i64 r)∧r=min T.nodes (m+1)∧Bz w w'
def ZT (k v:Int) (nm:ByteArray) (g:Bool) (num den:List Nat) (args:List Tm) (ih:∀T'∈args,SizeOk T'):SizeOk (.mk k v nm g num den args):=by
 intro n w vs m hm h hn;simp only [TmV] at h;obtain⟨s1,s2,a,c,rfl,⟨⟨p1,q1,rfl,hA⟩,⟨p2,q2,rfl,hC⟩⟩,h2,hbig,hbA,hbC⟩:=h;obtain⟨F,hF⟩:=enm (Tm.nodes (.mk k v nm g num den args));have b0:Aside (F=1+Tm.nodesL args):=by show F=_;rw [←hF];simp only [Tm.nodes]
 rw [hF];obtain⟨len,hl⟩:=enm args.length;generalize num.length=l1,den.length=l2 at*;rw [hl] at hbig ⊢;show Cz 152 #[.agg (tA k v nm g p1 l1 q1 p2 l2 q2 a len c),.int .i64 m] w _;have b4:=aC w (bA k v nm g p1 l1 q1 p2 l2 q2 a len c);have Al:=aside hl;have c1:=ewr (i:=m) (by omega);clear hl hA hC hF;go_enter Tryz.func152,Tryz.ntmps152
 go_wp2_with fail
 go_loopw [5,11] (fun s5 b7 wr=>∃i r:Nat,b7= .int .i64 i∧s5= .int .i64 r∧i≤len∧Aside (r=min (1+Tm.nodesL (args.take i)) (m+1))∧Bz w wr) (fun _ s _=>len-(intOf s).toNat)
 case atStart=>exact⟨0,1,rfl,by simp,bX _,by show 1=_;simp [Tm.nodesL],b4⟩
 case round=>
  obtain⟨i,r,rfl,rfl,hi,hex,hB⟩:=hrel;have b3:r≤m+1:=by rw [hex.o];exact Nat.min_le_right _ _
  by_cases a6:i<len
  ·obtain⟨T',a3⟩:=egf Al.o a6;obtain⟨b,off,vs',rfl,hbn,hc,hv⟩:=h2.get a3;have a9:=hv;have a7:Aside (∀d:Nat,r≤m→d=min T'.nodes (m-r+1)→r+d=min (1+Tm.nodesL (args.take (i+1))) (m+1)∧d≤m-r+1):=by
    show∀d:Nat,_;intro d hr hd;have h3:=hex.o;rw [NZ a3];omega
   have a1:Aside (¬r≤m→m+1=min F (m+1)):=by
    show¬r≤m→_;intro hr;have h3:=hex.o;have h4:=NY args i;have h5:=b0.o;omega
   have a4:=aV a3;obtain⟨k',v',nm',g',num',den',a0⟩:=T';simp only [TmV] at hv;obtain⟨t1,t2,a',c',rfl,⟨⟨p1',q1',rfl,_⟩,⟨p2',q2',rfl,_⟩⟩,_⟩:=hv;have a2:∀p:Addr,p.block<n→wr.cell? p=w.cell? p:=fun p hp=>(hB.mono hn).cell hp
   rw [bT] at hc;have x0:=(a2 ⟨b,off+i*7+0,none⟩ hbn).trans (hc 0 _ rfl);have x1:=(a2 ⟨b,off+i*7+1,none⟩ hbn).trans (hc 1 _ rfl);have x2:=(a2 ⟨b,off+i*7+2,none⟩ hbn).trans (hc 2 _ rfl);have x3:=(a2 ⟨b,off+i*7+3,none⟩ hbn).trans (hc 3 _ rfl);have x4:=(a2 ⟨b,off+i*7+4,none⟩ hbn).trans (hc 4 _ rfl);have x5:=(a2 ⟨b,off+i*7+5,none⟩ hbn).trans (hc 5 _ rfl);have x6:=(a2 ⟨b,off+i*7+6,none⟩ hbn).trans (hc 6 _ rfl);rw [fG] at x0;obtain⟨b9,hi3,hw3⟩:=elt (i:=i) (n:=len) (by omega) (by omega);have a5:Bz w (wr.alloc (Obj.cells #[.int .i64 k',.int .i64 v',.string nm',.bool g',.slice p1' num'.length q1',.slice p2' den'.length q2',.slice a' a0.length c'] 48)):=hB.alloc hB.size _;have b2:=aside a6
   by_cases a8:r≤m
   ·have b1:¬(m:Int)<(r:Int):=by omega
    obtain⟨mr,hmr⟩:∃mr,mr=m-r:=⟨_,rfl⟩;have c0:IntKind.i64.wrap ((m:Int)-(r:Int))=(mr:Int):=by rw [dX];omega
    have d1:=ih _ a4 n (wr.alloc (Obj.cells #[.int .i64 k',.int .i64 v',.string nm',.bool g',.slice p1' num'.length q1',.slice p2' den'.length q2',.slice a' a0.length c'] 48)) _ mr (by omega) (TmV.below a5 hn _ _ a9) (aD hn a5.size);rw [hmr] at d1;replace d1:Cz 152 #[.agg #[.int .i64 k',.int .i64 v',.string nm',.bool g',.slice p1' num'.length q1',.slice p2' den'.length q2',.slice a' a0.length c'],.int .i64 (m-r:Nat)] _ _:=d1;rw [←hmr] at d1 a7;have b5:∀d:Nat,d≤mr+1→IntKind.i64.wrap ((r:Int)+(d:Int))=((r+d:Nat):Int):=fun d hd=>by rw [dX];omega
    generalize a0.length=len',num'.length=ln1,den'.length=ln2 at*;clear h2 ih hc a9 a3 a2 a4 hex a6 hmr b3 a1
    go_wp2_with first|(go_at_call 152;(with_reducible refine d1.mono ?_);rintro e w3 ⟨d,rfl,hd,hb3⟩;obtain⟨b8,hd2⟩:=a7.o d a8 hd;have b6:=b5 d hd2;clear hd)
    exact⟨⟨i+1,_,by simp,rfl,by have:=b2.o;omega,rfl,a5.trans (hb3.mono a5.size)⟩,by have:=b2.o;simp [intOf];omega⟩
   ·have b1:(m:Int)<(r:Int):=by omega
    have hL:Aside (m+1=min F (m+1)):=a1.o a8;generalize a0.length=len',num'.length=ln1,den'.length=ln2 at*;clear h2 ih hc a9 a3 a2 a4 hex a6 b3 a1 a7 a8
    go_wp2_with fail
    go_ret
    exact⟨m+1,rfl,hL.o,a5⟩
  ·obtain rfl:i=len:=by omega
   have hL:Aside (r=min F (m+1)):=by
    show r=_;have h3:=hex.o;rw [←Al.o,vL] at h3;rw [h3,b0.o]
   have b1:min (r:Int) ((m:Int)+1)=(r:Int):=by omega
   clear h2 ih hex
   go_wp2_with fail
   go_ret
   exact⟨r,rfl,hL.o,hB⟩
def NE:∀T:Tm,SizeOk T
 | .mk k v nm g num den args=>ZT k v nm g num den args fun T' a3=>NE T'
termination_by T=>SizeOf.sizeOf T
decreasing_by
 simp_wf
 have:=yQ a3;omega
end Go.Proofs.YtbdpdeonapmlgaaGreatDoor
namespace Go.Proofs.YtbdpdeonapmlgaaGreatDoor
open Go.RowKit Go.Big Go.RowsK Go.MapK
def FreeP (w:Wo) (R:List Int) (e:Ending) (w':Wo):Prop:=∃v,e= .returned v∧OutN w.heap.size w' v R∧Bz w w'
structure Boxes (w:Wo) (sb ob vb mb:Nat) (v:Value):Prop where
 s:w.heap[sb]?=some (.cells #[.map (some mb)] 93 (0,0))
 o:w.heap[ob]?=some (.cells #[v] 64 (0,0))
 f:w.heap[vb]?=some (.cells #[.func (.func 194) #[] #[.pointer (some ⟨sb,0,none⟩),.pointer (some ⟨ob,0,none⟩),.pointer (some ⟨vb,0,none⟩)]] 176 (0,0))
structure Apart (n sb ob vb mb:Nat):Prop where
 a1:n≤sb
 a2:n≤ob
 a3:n≤vb
 a4:n≤mb
 d1:sb≠ob
 d2:sb≠vb
 d3:sb≠mb
 d4:ob≠vb
 d5:ob≠mb
 d6:vb≠mb
def Sep (v:Value) (sb ob vb mb:Nat):Prop:=∀k,v.ownBlock=some k→k≠sb∧k≠ob∧k≠vb∧k≠mb
def FvS (ob mb:Nat) (v:Value):Nat→Prop:=fun k=>k=mb∨k=ob∨v.ownBlock=some k
def Boxes.kept {w w':Wo} {sb ob vb mb:Nat} {v v':Value} {n:Nat} {S:Nat→Prop} (h:Boxes w sb ob vb mb v) (hk:aS S w w') (h1:¬S sb) (h2:¬S vb) (ho:w'.heap[ob]?=some (.cells #[v'] 64 (0,0))):Boxes w' sb ob vb mb v':=
 ⟨(hk.block _ (aG.1 h.s).1 h1).trans h.s,ho,(hk.block _ (aG.1 h.f).1 h2).trans h.f⟩
def Boxes.below {w w':Wo} {sb ob vb mb:Nat} {v:Value} (h:Boxes w sb ob vb mb v) (hb:Bz w w'):Boxes w' sb ob vb mb v:=
 ⟨(hb.block _ (aG.1 h.s).1).trans h.s,(hb.block _ (aG.1 h.o).1).trans h.o,(hb.block _ (aG.1 h.f).1).trans h.f⟩
def iU {w:Wo} {b:Nat} {u:Value} {t:TypeId} (h:w.heap[b]?=some (.cells #[u] t (0,0))):w.cell? ⟨b,0,none⟩=some u∧w.frozen? ⟨b,0,none⟩=false:=by
 constructor
 ·simp [World.cell?,h]
 ·simp [World.frozen?,h]
def FvQ (base:Nat) (w:Wo) (sb ob vb mb:Nat) (v0:Value) (R:List Int) (w':Wo):Prop:=
 ∃v,Boxes w' sb ob vb mb v∧OutN base w' v R∧aW w' mb (· ∈R)∧aS (FvS ob mb v0) w w'∧(∀k,v.ownBlock=some k→v0.ownBlock=some k∨w.heap.size≤k)∧Sep v sb ob vb mb
def FvP (base:Nat) (w:Wo) (sb ob vb mb:Nat) (v0:Value) (R:List Int) (e:Ending) (w':Wo):Prop:=e= .returned (.tuple #[])∧FvQ base w sb ob vb mb v0 R w'
def FvOk (T:Tm):Prop:=∀(n base sb ob vb mb:Nat) (w:Wo) (vs:Lv) (v:Value) (a5:List Int),TmV n w T vs→n≤base→Apart base sb ob vb mb→Boxes w sb ob vb mb v→OutN base w v a5→aW w mb (· ∈a5)→Sep v sb ob vb mb→a5.length+T.nodes≤1000000→
 Cz 194 #[.agg vs.toArray,.pointer (some ⟨sb,0,none⟩),.pointer (some ⟨ob,0,none⟩),.pointer (some ⟨vb,0,none⟩)] w (FvP base w sb ob vb mb v (T.fr a5))
def Eq (k v:Int) (nm:ByteArray) (g:Bool) (num den:List Nat) (args:List Tm) (ih:∀T'∈args,FvOk T'):FvOk (.mk k v nm g num den args):=by
 intro n base sb ob vb mb w vs sv a5 h f8 a8 e4 hO hS g0 hN;have i3:=aside ih;simp only [TmV] at h;obtain⟨_,_,a,c,rfl,⟨⟨p1,q1,rfl,_⟩,⟨p2,q2,rfl,_⟩⟩,hT,hbig,_⟩:=h;generalize num.length=n1,den.length=n2 at*;simp only [Tm.fr];simp only [Tm.nodes] at hN;obtain⟨a0,hacc2⟩:∃x,(if k=1∧v∉a5 then a5++ [v] else a5)=x:=⟨_,rfl⟩;rw [hacc2];obtain⟨len,hl⟩:=enm args.length;rw [hl] at hbig ⊢;have Al:=aside hl;have g9:=aside hT;obtain⟨R,hR⟩:=enm (Tm.frL args a0);rw [hR];have c2:Aside (Tm.frL args a0=R∧a0.length+Tm.nodesL args≤1000000∧(if k=1∧v∉a5 then a5++ [v] else a5)=a0∧a5.length≤1000000):=by
  refine⟨hR,?_,hacc2,by omega⟩;rw [←hacc2];split
  ·simp;omega
  ·omega
 have b9:=hS.lt;have e8:=(aG.1 e4.o).1;have a9:=aside3 a8 b9 e8;have h0:base≤w.heap.size:=by have:=a8.a4;omega
 obtain⟨wb,hwb,b0,hq,hsz⟩:=ebx w (bA k v nm g p1 n1 q1 p2 n2 q2 a len c);have b5:aW wb mb (· ∈a5):=hS.of_block (b0.block mb b9);have c1:OutN base wb sv a5:=gJ hO b0 (aA _);have b3:Boxes wb sb ob vb mb sv:=e4.below b0;obtain⟨x0,x1,x2,x3,x4,x5,x6⟩:=bZ hq;obtain⟨b,hlk,hbv⟩:=b5.look v;have a7:=hO.lt;have c0:=aside2 hsz b9;have ys:=(iU b3.s).1;have g8:=aside a7;have a6:=aside g0;clear hT hR hacc2 hl hS hO e4 a8 g0;show Cz 194 #[.agg (tA k v nm g p1 n1 q1 p2 n2 q2 a len c),.pointer (some ⟨sb,0,none⟩),.pointer (some ⟨ob,0,none⟩),.pointer (some ⟨vb,0,none⟩)] w _;go_enter Tryz.func194,Tryz.ntmps194
 go_upto_region 1 with fail
 clear hwb
 by_cases hk:k=1
 case' neg=>
  have i8:(k==1)=false:=by simpa using hk
  have hL:Aside (FvQ base w sb ob vb mb sv a0 wb):=by
   obtain rfl:a5=a0:=by rw [←c2.o.2.2.1,if_neg (fun h=>hk h.1)]
   exact⟨sv,b3,c1,b5,aS.of_below b0,fun k h=>.inl h,a6.o⟩
  clear b5 c1 b0 hlk hbv a7 hN hq hk b3
  go_upto_region 4 with fail
 case' pos=>
  subst hk;cases b
  case' true=>
   have hL:Aside (FvQ base w sb ob vb mb sv a0 wb):=by
    obtain rfl:a5=a0:=by rw [←c2.o.2.2.1,if_neg (fun h=>h.2 (hbv.1 rfl))]
    exact⟨sv,b3,c1,b5,aS.of_below b0,fun k h=>.inl h,a6.o⟩
   clear b5 c1 b0 hbv a7 hN hq b3
   go_upto_region 4 with fail
  case' false=>
   have h8:v∉a5:=fun h=>by have:=hbv.2 h;cases this
   have f5:a0=a5++ [v]:=by rw [←c2.o.2.2.1,if_pos ⟨rfl,h8⟩]
   obtain⟨w3,hup,hS3,hK3,hz3⟩:=b5.put v;have a8:=a9.o.1;have f0:w3.heap[w.heap.size]?=some (.cells #[.int .i64 1,.int .i64 v,.string nm,.bool g,.slice p1 n1 q1,.slice p2 n2 q2,.slice a len c] 48):=(hK3.block _ (by rw [hsz];omega) (by omega)).trans hq;have f3:OutN base w3 sv a5:=gS c1 fun g hg=>hK3.block g (by have:=(a7 g hg).2;omega) (fun e=>(a6.o g hg).2.2.2 e)
   have e1:Boxes w3 sb ob vb mb sv:=b3.kept (n:=0) hK3 a8.d3 a8.d6 ((hK3.block ob (by omega) a8.d5).trans b3.o);obtain⟨z0,z1,z2,z3,z4,z5,z6⟩:=bZ f0;have yo:=(iU e1.o).1;have b6:=aside6 hS3 hK3 hz3 f5 b0 e1;have c7:=aside f0;have c3:=aC w3 (Obj.cells #[.int .i64 v] 3);have f9:=aJ w3 (Obj.cells #[.int .i64 v] 3);have f4:OutN base (w3.alloc (Obj.cells #[.int .i64 v] 3)) sv a5:=gJ f3 c3 (aA _);have c9:SrcAt (w3.alloc (Obj.cells #[.int .i64 v] 3)) (.slice (some ⟨w3.heap.size,0,none⟩) 1 1) 1 [.int .i64 v]:=.inr ⟨_,_,rfl,fun j u hj=>by
    rw [jI,bT];simp only [World.cell?,f9];simpa using hj⟩
   have b8:a5.length+1≤maxLen∧(a5.length+1)*8≤140737488355328:=by
    have:=c2.o.2.2.2;unfold maxLen;omega
   have f6:base≤(w3.alloc (Obj.cells #[.int .i64 v] 3)).heap.size:=by rw [cB];omega
   have c6:∀u∈ [(.int .i64 v:Value)],u.oneCell'=true:=by simp [Value.oneCell']
   have b2:Aside (∀v5 w5,w5.ownsRow base 3 1 v5 (a5.length+1) (a5.map (Value.int .i64)++ [.int .i64 v])→(w3.alloc (Obj.cells #[.int .i64 v] 3)).grownBy w5 sv.ownBlock→(v5.ownBlock=sv.ownBlock∨v5.ownBlock=some (w3.alloc (Obj.cells #[.int .i64 v] 3)).heap.size)→
     (w5.heap[ob]?=some (.cells #[sv] 64 (0,0)))∧FvQ base w sb ob vb mb sv a0 (w5.setCell ⟨ob,0,none⟩ v5)∧(w5.setCell ⟨ob,0,none⟩ v5).heap[w.heap.size]?=some (.cells #[.int .i64 1,.int .i64 v,.string nm,.bool g,.slice p1 n1 q1,.slice p2 n2 q2,.slice a len c] 48)):=by
    show∀v5 w5,_;intro v5 w5 h1 h2 h3;obtain⟨g1,g2,g3,g4,g5,g6⟩:=b6.o;have i9:(w3.alloc (Obj.cells #[.int .i64 v] 3)).heap.size=w.heap.size+2:=by rw [cB];have:=c0.o.1;omega
    have e9:∀k,sv.ownBlock=some k→k<w.heap.size:=fun k hk=>(a7 k hk).2
    have h6:=c0.o.2;have i1:=(aG.1 g6.s).1;have i2:=(aG.1 g6.f).1;have i0:=(aG.1 g6.o).1;have k1:aS (FvS ob mb sv) w wb:=aS.of_below g5;have k2:aS (FvS ob mb sv) wb w3:=g2.mono fun k _ e=>.inl e
    have k3:aS (FvS ob mb sv) w3 (w3.alloc (Obj.cells #[.int .i64 v] 3)):=aS.of_below c3;have k4:aS (FvS ob mb sv) (w3.alloc (Obj.cells #[.int .i64 v] 3)) w5:=(aS.of_grown h2).mono fun k _ e=>.inr (.inr e)
    have b1:w5.heap[ob]?=some (.cells #[sv] 64 (0,0)):=((h2.block ob (by omega) (fun e=>(a6.o ob e.symm).2.1 rfl)).trans (c3.block ob (by omega))).trans g6.o;have k5:aS (FvS ob mb sv) w5 (w5.setCell ⟨ob,0,none⟩ v5):=⟨rfl,rfl,rfl,by simp,fun k _ hk=>heap_setCell_other _ _ _ _ fun e=>hk (.inr (.inl e))⟩;have f2:=(k3.trans k4 (fun k _ e=>e)).trans k5 (fun k _ e=>e);have b4:Sep v5 sb ob vb mb:=fun k hk=>by
     rcases h3 with h3|h3
     ·exact a6.o k (h3.symm.trans hk)
     ·rw [h3] at hk;have:=aK hk;omega
    have e7:aW (w5.setCell ⟨ob,0,none⟩ v5) mb (fun y=>y∈a5∨y=v):=g1.of_block ((heap_setCell_other _ _ _ _ (fun e=>a8.d5 e.symm)).trans ((h2.block mb (by omega) (fun e=>(a6.o mb e.symm).2.2.2 rfl)).trans (c3.block mb (by omega))));have e3:(w5.setCell ⟨ob,0,none⟩ v5).heap[w.heap.size]?=w3.heap[w.heap.size]?:=f2.block _ (by omega) (fun e=>by
     rcases e with e|e|e
     ·omega
     ·have:=a9.o.2.2;omega
     ·have:=e9 _ e;omega)
    refine⟨b1,⟨v5,g6.kept (n:=0) f2 (fun e=>?_) (fun e=>?_) (one_setCell b1),?_,e7.cong (fun x=>by rw [g4,cG,fI]),(k1.trans k2 (fun k _ e=>e)).trans f2 (fun k _ e=>e),?_,b4⟩,e3.trans c7.o⟩
    ·rcases e with e|e|e
     ·exact a8.d3 e
     ·exact a8.d1 e
     ·exact(a6.o _ e).1 rfl
    ·rcases e with e|e|e
     ·exact a8.d6 e
     ·exact a8.d4 e.symm
     ·exact(a6.o _ e).2.2.1 rfl
    ·unfold OutN;rw [g4,aI,oF];exact ownsRow_setCell_other h1 (fun e=>(b4 ob e).2.1 rfl) _
    ·intro k hk;rcases h3 with h3|h3
     ·exact .inl (h3.symm.trans hk)
     ·rw [h3] at hk;have:=aK hk;right;omega
   clear b5 c1 b0 hbv a7 hN hK3 hS3 hz3 f0 f3 f5 b3 e1 a8
   go_upto_region 3 with fail
   have i6:(w3.alloc (Obj.cells #[.int .i64 v] 3)).cell? ⟨ob,0,none⟩=some sv:=(IM (c3.block ob (by have:=b6.o.2.2.1;have:=c0.o.1;have:=a9.o.2.2;omega))).trans yo;clear x0 x1 x2 x3 x4 x5 x6 hup hlk
   go_upto_region 4 with(at_builtin;refine jK elInt _ rfl _ _ rfl base _ _ _ rfl f4 _ _ _ rfl c9 rfl c6 b8.1 b8.2 f6 ?_;intro v5 w5 h5 f7 g7;obtain⟨b1,hL0,hbx5⟩:=b2.o _ _ h5 f7 g7;obtain⟨pa,pc,rfl,hrd⟩:=iN h5;obtain⟨i5,yf5⟩:=iU b1;clear b2 h5 f7 g7 hrd b1)
   have hL:Aside (FvQ base w sb ob vb mb sv a0 (w5.setCell ⟨ob,0,none⟩ _)):=hL0;clear z0 z1 z2 z3 z4 z5 z6 yo i6 i5 yf5 ys hL0 c9 c6 b8 f6 f4 f9 c3 c7 b6;obtain⟨x0,x1,x2,x3,x4,x5,x6⟩:=bZ hbx5;clear hbx5
 all_goals
  go_wp2
  go_loopw [28] (fun i4 wr=>∃(i:Nat),i4= .int .i64 i∧i≤len∧FvQ base w sb ob vb mb sv (Tm.frL (args.take i) a0) wr) (fun s _=>len-(intOf s).toNat)
  case atStart=>exact⟨0,rfl,bX _,by simpa [Tm.frL] using hL.o⟩
  case round=>
   clear hL;obtain⟨wo,rfl⟩:=enr wr;obtain⟨i,rfl,hi,hQi⟩:=hrel
   by_cases h4:i<len
   ·obtain⟨v2,hbi,hOi,hSi,hKi,hwi,hni⟩:=hQi;obtain⟨T',b7⟩:=egf Al.o h4;obtain⟨b,off,vs',rfl,hbn,hc,hv⟩:=g9.o.get b7;rw [bT] at hc;have d9:Below n w wo:=(hKi.below (aD f8 h0) (fun k hk=>by
     have:=a9.o.1;rcases hk with hk|hk|hk
     ·have:=this.a4;omega
     ·have:=this.a2;omega
     ·have:=(g8.o k hk).1;omega))
    have e6:=i3.o T' (aV b7);have f1:=aside hv;have c5:Aside (Tm.frL (args.take (i+1)) a0=T'.fr (Tm.frL (args.take i) a0)):=Er b7;have d8:(Tm.frL (args.take i) a0).length+T'.nodes≤1000000:=by
     have h1:=(uN (args.take i) a0).1;have h2:=NZ b7;have h3:Tm.nodesL (args.take (i+1))≤Tm.nodesL args:=NY args (i+1);have:=c2.o.2.1;omega
    obtain⟨c4,hacci⟩:∃x,Tm.frL (args.take i) a0=x:=⟨_,rfl⟩;rw [hacci] at hOi hSi c5 d8;obtain⟨k',v',nm',g',d7,den',args'⟩:=T';simp only [TmV] at hv;obtain⟨_,_,a',c',rfl,⟨⟨r1,u1,rfl,_⟩,⟨r2,u2,rfl,_⟩⟩,_⟩:=hv;obtain⟨m0,m1,m2,m3,m4,m5,m6⟩:=seven (w:=w) (w2:=wo) (fun p hp=>d9.cell (hp▸hbn)) hc;obtain⟨Tt,hTt⟩:∃t,Tm.mk k' v' nm' g' d7 den' args'=t:=⟨_,rfl⟩;rw [hTt] at c5 d8 e6 f1;generalize d7.length=m1',den'.length=m2',args'.length=l' at*;have h9:n≤wo.heap.size:=by have:=hKi.size;omega
    have d0:=aC wo (bA k' v' nm' g' r1 m1' u1 r2 m2' u2 a' l' c');have h7:=hSi.lt;have e2:=hbi.below d0;have yf:=(iU e2.f).1;have d1:=e6 n base sb ob vb mb (wo.alloc (bA k' v' nm' g' r1 m1' u1 r2 m2' u2 a' l' c')) _ _ c4 (TmV.below (d9.trans (d0.mono (by omega))) (aA _) _ _ f1.o) f8 a9.o.1 e2 (gJ hOi d0 (aA _)) (hSi.of_block (d0.block mb h7)) hni d8;replace d1:Cz 194 #[.agg (tA k' v' nm' g' r1 m1' u1 r2 m2' u2 a' l' c'),.pointer (some ⟨sb,0,none⟩),.pointer (some ⟨ob,0,none⟩),.pointer (some ⟨vb,0,none⟩)] _ _:=d1;have c8:Aside (∀e w6,FvP base (wo.alloc (bA k' v' nm' g' r1 m1' u1 r2 m2' u2 a' l' c')) sb ob vb mb v2 (Tt.fr c4) e w6→e= .returned (.tuple #[])∧FvQ base w sb ob vb mb sv (Tm.frL (args.take (i+1)) a0) w6):=by
     show∀e w6,_;rintro e w6 ⟨rfl,v6,q0',q1',q2',q3',q4',q5'⟩;have j0:=hKi.size;refine⟨rfl,v6,q0',by rw [c5.o];exact q1',by rw [c5.o];exact q2',?_,?_,q5'⟩
     ·refine hKi.trans ((aS.of_below d0 (S:=FvS ob mb v2)).trans q3' fun k _ e=>e) fun k hk e=>?_
      rcases e with e|e|e
      ·exact .inl e
      ·exact .inr (.inl e)
      ·rcases hwi k e with e|e
       ·exact .inr (.inr e)
       ·omega
     ·intro k hk;rcases q4' k hk with e|e
      ·exact hwi k e
      ·rw [cB] at e;right;omega
    obtain⟨i7,hi3,hw3⟩:=elt (i:=i) (n:=len) (by omega) (by omega);clear hTt hacci hc b7 hOi hSi hKi hwi hni d8 e6 f1 d9 c5 d0 hbi e2
    go_wp2_with (go_at_call 194;with_reducible refine d1.mono ?_)
    intro e w6 hF;obtain⟨rfl,hR6⟩:=c8.o e w6 hF;have e0:Aside _:=hR6;clear hF c8 d1 m0 m1 m2 m3 m4 m5 m6 hR6 yf;go_wp2;go_roundw
    case rel=>exact⟨i+1,by simp,by omega,e0.o⟩
    case measure=>simp [intOf];omega
   ·obtain rfl:i=len:=by omega
    have b2:Aside (Tm.frL (args.take i) a0=R):=by show _=R;rw [←Al.o,vL];exact c2.o.1
    rw [b2.o] at hQi;have hP:Aside (FvP base w sb ob vb mb sv R (.returned (.tuple #[])) wo):=⟨rfl,hQi⟩;clear hQi;go_wp2
    go_end0
    exact hP.o
def QO:∀T:Tm,FvOk T
 | .mk k v nm g num den args=>Eq k v nm g num den args fun T' b7=>QO T'
termination_by T=>SizeOf.sizeOf T
decreasing_by
 simp_wf
 have:=yQ b7;omega
def Et (w:Wo) (o1 o2 o3 o4 o5:Obj):∃w5,w5=((((w.alloc o1).alloc o2).alloc o3).alloc o4).alloc o5∧Bz w w5∧w5.heap[w.heap.size]?=some o1∧w5.heap[w.heap.size+1]?=some o2∧w5.heap[w.heap.size+1+1]?=some o3∧w5.heap[w.heap.size+1+1+1]?=some o4∧w5.heap[w.heap.size+1+1+1+1]?=some o5∧w5.heap.size=w.heap.size+5:=by
 refine⟨_,rfl,?_,?_⟩
 ·have b1:=aC w o1;have b2:=b1.alloc b1.size o2;have b3:=b2.alloc b2.size o3;have b4:=b3.alloc b3.size o4;exact b4.alloc b4.size o5
 ·have e:(((((w.alloc o1).alloc o2).alloc o3).alloc o4).alloc o5).heap=((((w.heap.push o1).push o2).push o3).push o4).push o5:=rfl;rw [e];refine⟨?_,?_,?_,?_,?_,by simp⟩
  ·rw [jA,if_neg (by simp<;>omega),jA,if_neg (by simp<;>omega),jA,if_neg (by simp<;>omega),jA,if_neg (by simp),jA,if_pos rfl]
  ·rw [jA,if_neg (by simp<;>omega),jA,if_neg (by simp<;>omega),jA,if_neg (by simp),jA,if_pos (by simp)]
  ·rw [jA,if_neg (by simp<;>omega),jA,if_neg (by simp),jA,if_pos (by simp)]
  ·rw [jA,if_neg (by simp),jA,if_pos (by simp)]
  ·rw [jA,if_pos (by simp)]
def XT (w:Wo) (a:Addr) (v u:Value) (hv:v.oneCell'=true) (hc:w.cell? a=some u) (hf:w.frozen? a=false):(store a v).run Tryz.prog w= .ok () (w.setCell a v):=by
 rw [run_store _ _ _ _ _ hv,hc];simp [hf]
def wR (T:Tm) (n:Nat) (w:Wo) (vs:Lv) (h:TmV n w T vs) (hn:n≤w.heap.size) (hN:T.nodes≤1000000):
  Cz 132 #[.agg vs.toArray] w (FreeP w T.free):=by
 have h0:=h;have hF:=QO T;obtain⟨R,hR⟩:=enm T.free;rw [hR];obtain⟨k,v,nm,g,num,den,args⟩:=T;simp only [TmV] at h;obtain⟨_,_,a,c,rfl,⟨⟨p1,q1,rfl,_⟩,⟨p2,q2,rfl,_⟩⟩,_⟩:=h;obtain⟨Tt,hTt⟩:∃t,Tm.mk k v nm g num den args=t:=⟨_,rfl⟩;rw [hTt] at hF hR h0 hN;generalize args.length=l0,num.length=l1,den.length=l2 at*;obtain⟨w5,hw5,hB5,e1,e2,e3,e4,e5,hs5⟩:=Et w (bA k v nm g p1 l1 q1 p2 l2 q2 a l0 c) (.cells #[.slice none 0 0] 64) (.map #[] 0) (.cells #[.map (some (w.heap.size+1+1))] 93) (.cells #[.func (.func 194) #[] #[.pointer (some ⟨w.heap.size+1+1+1,0,none⟩),.pointer (some ⟨w.heap.size+1,0,none⟩),.pointer (some ⟨w.heap.size+1+1+1+1,0,none⟩)]] 176);have hS:aW w5 (w.heap.size+1+1) (· ∈([]:List Int)):=⟨[],⟨#[],0,e3,⟨trivial,by simp,by simp,by simp⟩⟩,by simp,by simp⟩;have a1:Apart w.heap.size (w.heap.size+1+1+1) (w.heap.size+1) (w.heap.size+1+1+1+1) (w.heap.size+1+1):=⟨by omega,by omega,by omega,by omega,by omega,by omega,by omega,by omega,by omega,by omega⟩;have d1:=hF n w.heap.size (w.heap.size+1+1+1) (w.heap.size+1) (w.heap.size+1+1+1+1) (w.heap.size+1+1) w5 _ (.slice none 0 0) [] (TmV.below hB5 hn _ _ h0) hn a1 ⟨e4,e2,e5⟩ (pL _ _ _ _) hS (fun k hk=>by simp [Value.ownBlock] at hk) (by simpa using hN);replace d1:Cz 194 #[.agg (tA k v nm g p1 l1 q1 p2 l2 q2 a l0 c),.pointer (some ⟨w.heap.size+1+1+1,0,none⟩),.pointer (some ⟨w.heap.size+1,0,none⟩),.pointer (some ⟨w.heap.size+1+1+1+1,0,none⟩)] w5 _:=d1;have hP:Aside (∀e w',FvP w.heap.size w5 (w.heap.size+1+1+1) (w.heap.size+1) (w.heap.size+1+1+1+1) (w.heap.size+1+1) (.slice none 0 0) (Tt.fr []) e w'→e= .returned (.tuple #[])∧∃v',w'.cell? ⟨w.heap.size+1,0,none⟩=some v'∧FreeP w R (.returned v') w'):=by
  show∀e w',_;rintro e w' ⟨rfl,v',q0',q1',q2',q3',q4',q5'⟩;refine⟨rfl,v',(iU q0'.o).1,v',rfl,by rw [←hR];exact q1',hB5.trans (q3'.below hB5.size ?_)⟩;intro k hk;rcases hk with hk|hk|hk
  ·omega
  ·omega
  ·simp [Value.ownBlock] at hk
 have a3:∀w:Wo,(Instr.makeMap 93 none).run Tryz.prog w= .ok (.map (some w.heap.size)) (w.alloc (.map #[] 0)):=fun w=>rfl
 obtain⟨x0,x1,x2,x3,x4,x5,x6⟩:=bZ e1;have y5:=(iU e5).1;have a0:Aside (w5=_):=hw5;have a2:(store ⟨w.heap.size+1+1+1+1,0,none⟩ (.func (.func 194) #[] #[.pointer (some ⟨w.heap.size+1+1+1,0,none⟩),.pointer (some ⟨w.heap.size+1,0,none⟩),.pointer (some ⟨w.heap.size+1+1+1+1,0,none⟩)])).run Tryz.prog (((((w.alloc (bA k v nm g p1 l1 q1 p2 l2 q2 a l0 c)).alloc (Obj.cells #[.slice none 0 0] 64)).alloc (Obj.map #[] 0)).alloc (Obj.cells #[.map (some (w.heap.size+1+1))] 93)).alloc (Obj.cells #[.nilFunc] 176))= .ok () w5:=by
  have hb:=aJ ((((w.alloc (bA k v nm g p1 l1 q1 p2 l2 q2 a l0 c)).alloc (Obj.cells #[.slice none 0 0] 64)).alloc (Obj.map #[] 0)).alloc (Obj.cells #[.map (some (w.heap.size+1+1))] 93)) (Obj.cells #[.nilFunc] 176);simp only [cB] at hb;obtain⟨bc,bf⟩:=iU hb;rw [XT _ _ _ .nilFunc rfl bc bf,hw5];rw [World.setCell_alloc_at _ _ _ _ _ (by simp [cB])];rfl
 clear h0 hF hR hS a1 hN hTt e1 e2 e3 e4 e5 hs5 hB5 hw5;generalize Tm.fr Tt []=L at*;show Cz 132 #[.agg (tA k v nm g p1 l1 q1 p2 l2 q2 a l0 c)] w _;go_enter Tryz.func132,Tryz.ntmps132
 go_upto_region 5 with fail
 clear a2
 go_wp2_with (go_at_call 194;with_reducible refine d1.mono ?_)
 intro e w6 hr;obtain⟨rfl,v',hcv,hfp⟩:=hP.o e w6 hr;have hA:Aside _:=hfp;clear hr hfp d1 hP a0 x0 x1 x2 x3 x4 x5 x6 y5;go_wp2
 go_ret
 exact hA.o
section
attribute [local go_sem] Heavy.uponW
def NumAt.up {n m:Nat} {w:Wo} {neg:Bool} {s1 s2:Value} {A C:List Nat} (h:NumAt n w neg s1 s2 A C) (hm:n≤m):NumAt m w neg s1 s2 A C:=by
 obtain⟨⟨a,c,e1,h1⟩,⟨a',c',e2,h2⟩⟩:=h;refine⟨⟨a,c,e1,h1.1,fun h=>?_⟩,⟨a',c',e2,h2.1,fun h=>?_⟩⟩
 ·obtain⟨b,off,e,hb,hc⟩:=h1.2 h;exact⟨b,off,e,by omega,hc⟩
 ·obtain⟨b,off,e,hb,hc⟩:=h2.2 h;exact⟨b,off,e,by omega,hc⟩
mutual
theorem TmV.up {n m:Nat} {w:Wo} (hm:n≤m):∀(T:Tm) (vs:Lv),TmV n w T vs→TmV m w T vs
 | .mk k v nm g num den args,vs,h=>by
  simp only [TmV] at h ⊢;obtain⟨s1,s2,a,c,e,h1,h2,h3⟩:=h;exact⟨s1,s2,a,c,e,h1.up hm,bS.up hm args a 0 h2,h3⟩
theorem bS.up {n m:Nat} {w:Wo} (hm:n≤m):∀(L:List Tm) (a:Option Addr) (i:Nat),bS n w L a i→bS m w L a i
 | [],_,_,_=>by simp only [bS]
 |T::r,a,i,h=>by
  simp only [bS] at h ⊢;obtain⟨⟨b,off,vs,e,hbn,hc,hv⟩,hr⟩:=h;exact⟨⟨b,off,vs,e,by omega,hc,TmV.up hm T vs hv⟩,bS.up hm r a (i+1) hr⟩
end
structure Cl where
 h:Tm
 b:Tm
 vars:Int
def jR (vh vb:Lv) (v:Int):Lv:=vh++vb++ [.int .i64 v]
def ClV (n:Nat) (w:Wo) (C:Cl) (vs:Lv):Prop:=∃vh vb,vs=jR vh vb C.vars∧TmV n w C.h vh∧TmV n w C.b vb
def ClV.below {n m:Nat} {w w':Wo} (hb:Below m w w') (hm:n≤m) {C:Cl} {vs:Lv} (h:ClV n w C vs):ClV n w' C vs:=by
 obtain⟨vh,vb,e,h1,h2⟩:=h;exact⟨vh,vb,e,TmV.below hb hm _ _ h1,TmV.below hb hm _ _ h2⟩
def Cl.fr (C:Cl):List Int:=Tm.frL [C.h,C.b] []
def Cl.num (C:Cl):Prop:=(∀(j:Nat) x,C.fr[j]?=some x→x=j)∧(C.fr.length:Int)=C.vars
open Classical in
noncomputable def Cl.numB (C:Cl):Bool:=decide C.num
def pI {w:Wo} {g:Nat} {v0 v1 v2 v3 v4 v5 v6 v7 v8 v9 a0 a1 a2 a3 a4:Value} {e:TypeId} {fr:Nat × Nat} (h:w.heap[g]?=some (.cells #[v0,v1,v2,v3,v4,v5,v6,v7,v8,v9,a0,a1,a2,a3,a4] e fr)):
  w.cell? ⟨g,0,none⟩=some v0∧w.cell? ⟨g,1,none⟩=some v1∧w.cell? ⟨g,2,none⟩=some v2∧w.cell? ⟨g,3,none⟩=some v3∧w.cell? ⟨g,4,none⟩=some v4∧w.cell? ⟨g,5,none⟩=some v5∧w.cell? ⟨g,6,none⟩=some v6∧w.cell? ⟨g,7,none⟩=some v7∧w.cell? ⟨g,8,none⟩=some v8∧w.cell? ⟨g,9,none⟩=some v9∧w.cell? ⟨g,10,none⟩=some a0∧w.cell? ⟨g,11,none⟩=some a1∧w.cell? ⟨g,12,none⟩=some a2∧w.cell? ⟨g,13,none⟩=some a3∧w.cell? ⟨g,14,none⟩=some a4:=by
 simp [World.cell?,h]
def tR (s:ByteArray) (a:Option Addr) (len c:Nat) (hl:0<len) (w:Wo):
  Cz 137 #[.string s,.slice a len c] w fun e w'=>e= .returned (.agg #[.int .i64 5,.int .i64 0,.string s,.bool false,.slice none 0 0,.slice none 0 0,.slice a len c])∧Bz w w':=by
 have a5:((len:Int)==0)=false:=by simp;omega
 go_enter Tryz.func137,Tryz.ntmps137;go_wp2;refine fQ (kU rfl _ _ w.heap.size 48 _ _ _ rfl (aJ _ _) Tryz.underlying48 rfl (by kernel_rfl)) rfl ?_;exact⟨rfl,aC _ _⟩
def Gu {n:Nat} {w w':Wo} {h b:Tm} {s:ByteArray} (hn:n≤w.heap.size) {vh vb:Lv} (h1:TmV n w h vh) (h2:TmV n w b vb) (hb:Bz w w') (hq:w'.heap[w.heap.size]?=some (.cells (vh++vb).toArray 48)):
  TmV (w.heap.size+1) w' (.mk 5 0 s false [] [] [h,b]) [.int .i64 5,.int .i64 0,.string s,.bool false,.slice none 0 0,.slice none 0 0,.slice (some ⟨w.heap.size,0,none⟩) 2 2]:=by
 have l1:=h1.len;have l2:=h2.len;have g1:=TmV.up (show n≤w.heap.size+1 by omega) _ _ (TmV.below hb hn _ _ h1);have g2:=TmV.up (show n≤w.heap.size+1 by omega) _ _ (TmV.below hb hn _ _ h2);simp only [TmV];refine⟨.slice none 0 0,.slice none 0 0,_,2,rfl,⟨⟨none,0,rfl,by simp,fun h=>absurd rfl h⟩,⟨none,0,rfl,by simp,fun h=>absurd rfl h⟩⟩,?_,by simp,by decide,by decide⟩;simp only [bS];refine⟨⟨_,_,vh,rfl,by omega,fun j u hj=>?_,g1⟩,⟨_,_,vb,rfl,by omega,fun j u hj=>?_,g2⟩,trivial⟩
 ·have:=(aM.1 hj).1;simp only [World.cell?,hq];simp [dW this,hj]
 ·have:=(aM.1 hj).1;simp only [World.cell?,hq];simp [dK (show vh.length≤7+j by omega),l1,hj]
def SC (s:ByteArray) (h b:Tm):Tm.nodes (.mk 5 0 s false [] [] [h,b])=1+(h.nodes+b.nodes):=by simp [Tm.nodes,Tm.nodesL]
def SD (s:ByteArray) (h b:Tm):Tm.free (.mk 5 0 s false [] [] [h,b])=Tm.frL [h,b] []:=by simp [Tm.free,Tm.fr]
end
