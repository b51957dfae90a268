/- Lemmas; no condition. -/
import Derived.Test.YtbdpdeonapmlgaaGreatDoorAo
import Derived.Shelf.Small.Strs
set_option linter.all false
set_option maxHeartbeats 8000000
set_option maxRecDepth 100000
namespace Go.Proofs.YtbdpdeonapmlgaaGreatDoor
open Go.RowKit Go.Big Go.RowsK Go.MapK
attribute [local go_sem] Heavy.uponW
def zTL:Lv:=[.int .i64 0,.int .i64 0,.string ⟨#[]⟩,.bool false,.slice none 0 0,.slice none 0 0,.slice none 0 0]
def AtomP (n:Nat) (w:Wo) (T:Tm) (e:Ending) (w':Wo):Prop:=
 ∃us b,e= .returned (.tuple #[.agg (us:Lv).toArray,.bool b])∧(b=false→T.kd≠1∧T.kd≠2∧us=zTL)∧(b=true→∃A,(T.kd=1∧A=T∨T.kd=2∧T.args= [A])∧TmV n w' A us)∧Bz w w'
def Jo (T:Tm) (n:Nat) (w:Wo) (vs:Lv) (h:TmV n w T vs) (hn:n≤w.heap.size):
  Cz 186 #[.agg vs.toArray] w (AtomP n w T):=by
 have dk:Aside (∀w2,Bz w w2→Cz 64 #[.agg vs.toArray] w2 fun e w'=>e= .returned (.int .i64 T.kd)∧Bz w2 w'):=fun w2 hb=>GZ T n w2 vs (TmV.below hb hn _ _ h) (aE hn hb.size)
 obtain⟨K,hK⟩:∃x,T.kd=x:=⟨_,rfl⟩;have a1:=aside hK;rw [hK] at dk;have hT:=h;have b2:=BR (T:=T);obtain⟨k,v,nm,g,num,den,args⟩:=T;simp only [TmV] at h;obtain⟨_,_,a,c,rfl,⟨⟨p1,q1,rfl,_⟩,⟨p2,q2,rfl,_⟩⟩,hS,_⟩:=h;have a8:Aside (TmsV n w args a 0∧(K=2→∃A,args= [A])):=⟨hS,fun e=>b2 (hK.trans e)⟩;have a3:Aside (TmV n w (Tm.mk k v nm g num den args) _):=hT;clear b2 hT;obtain⟨len,hl⟩:∃x,args.length=x:=⟨_,rfl⟩;have Al:=aside hl;rw [hl] at dk a3 ⊢;generalize num.length=n1,den.length=n2 at*;replace dk:Aside (∀w2,Bz w w2→Cz 64 #[.agg (tA k v nm g p1 n1 q1 p2 n2 q2 a len c)] w2 fun e w'=>e= .returned (.int .i64 K)∧Bz w2 w'):=dk;replace a3:Aside (TmV n w (Tm.mk k v nm g num den args) [.int .i64 k,.int .i64 v,.string nm,.bool g,.slice p1 n1 q1,.slice p2 n2 q2,.slice a len c]):=a3;obtain⟨TT,hTT⟩:∃x,Tm.mk k v nm g num den args=x:=⟨_,rfl⟩;rw [hTT] at a3 a1 ⊢;have b6:Aside (TT.args=args):=by show _=_;rw [←hTT];rfl
 clear hS hK hl hTT;obtain⟨wb,hwb,b0,hq,hsz⟩:=ebx w (bA k v nm g p1 n1 q1 p2 n2 q2 a len c);show Cz 186 #[.agg (tA k v nm g p1 n1 q1 p2 n2 q2 a len c)] w _;go_enter Tryz.func186,Tryz.ntmps186
 go_upto_region 1 with fail
 have b1:=aC wb (Obj.cells #[.int .i64 0,.int .i64 0,.string ⟨#[]⟩,.bool false,.slice none 0 0,.slice none 0 0,.slice none 0 0] 48);have a7:=aK wb (Obj.cells #[.int .i64 0,.int .i64 0,.string ⟨#[]⟩,.bool false,.slice none 0 0,.slice none 0 0,.slice none 0 0] 48);obtain⟨wc,hwc⟩:=enm (wb.alloc (Obj.cells #[.int .i64 0,.int .i64 0,.string ⟨#[]⟩,.bool false,.slice none 0 0,.slice none 0 0,.slice none 0 0] 48));have b7:wc.heap.size=w.heap.size+2:=by rw [←hwc,cW];omega
 rw [hwc] at b1 a7 ⊢;have f1:Bz w wc:=b0.trans (b1.mono b0.size);have fa:Aside (∀w2,Bz wc w2→_):=fun(w2:Wo) (hb:Bz wc w2)=>eG (((hb.block w.heap.size (by omega)).trans (b1.block w.heap.size (by omega))).trans hq)
 have fz:Aside (∀w2,Bz wc w2→w2.heap[w.heap.size+1]?=some (.cells #[.int .i64 0,.int .i64 0,.string ⟨#[]⟩,.bool false,.slice none 0 0,.slice none 0 0,.slice none 0 0] 48)):=fun(w2:Wo) (hb:Bz wc w2)=>(hb.block (w.heap.size+1) (by omega)).trans (by rw [←hsz];exact a7)
 clear hwb hwc hq a7 hsz;obtain⟨x0,x1,x2,x3,x4,x5,x6⟩:=fa.o wc (aG _ _)
 go_wp2_with (go_at_call 64;with_reducible refine(dk.o _ f1).mono ?_)
 rintro e w2 ⟨rfl,hb2⟩;clear x0 x1 x2 x3 x4 x5 x6;obtain⟨x0,x1,x2,x3,x4,x5,x6⟩:=fa.o w2 hb2;have z0:=fz.o w2 hb2
 by_cases h1:K=1
 case pos=>
  subst h1;obtain⟨w3,hst,hq3,hg3,hs3⟩:=zJ (vs:=[.int .i64 k,.int .i64 v,.string nm,.bool g,.slice p1 n1 q1,.slice p2 n2 q2,.slice a len c]) z0 rfl (by simp [Value.oneCell']);have b3:Bz w w3:=(f1.trans (hb2.mono f1.size)).grown hg3 (by have:=hb2.size;omega) (by intro k hk;injection hk with hk;omega);have hR:=aside2 hq3 b3;have a4:=EW hst;clear hst hq3 hg3 b3
  go_upto_region 3 with fail
  refine jU ?_
  iterate 1 (refine fZ rfl fun K hK=>?_;go_simp;refine hK _ _ ?_;clear hK)
  refine mI rfl 48 _ _ rfl (v:=.pointer (some ⟨w.heap.size+1,0,none⟩)) (u:=.agg (tA k v nm g p1 n1 q1 p2 n2 q2 a len c)) rfl rfl a4 ?_;go_wp2;refine tK (FI rfl _ _ (w.heap.size+1) 48 _ _ _ rfl hR.o.1 rfl rfl) rfl ?_;exact⟨_,true,rfl,by simp,fun _=>⟨TT,.inl ⟨a1.o,rfl⟩,TmV.below hR.o.2 hn _ _ a3.o⟩,hR.o.2⟩
 by_cases h2:K=2
 case pos=>
  subst h2;obtain⟨A,hA⟩:=a8.o.2 rfl;have hS:=a8.o.1;have a6:=Al.o;have a5:=b6.o;rw [hA] at hS a6 a5;obtain rfl:len=1:=by rw [←a6];rfl
  simp only [TmsV] at hS;obtain⟨⟨b,off,us,rfl,hbn,hc,hv⟩,_⟩:=hS;have b5:=aside2 hv a5;have⟨k2,v2,nm2,g2,num2,den2,a0⟩:=A;simp only [TmV] at hv;obtain⟨_,_,a2,c2,rfl,⟨⟨p3,q3,rfl,_⟩,⟨p4,q4,rfl,_⟩⟩,_⟩:=hv;generalize a0.length=len2,num2.length=n3,den2.length=n4 at*;have a9:Bz w w2:=f1.trans (hb2.mono f1.size);obtain⟨y0,y1,y2,y3,y4,y5,y6⟩:=jL (w2:=w2) (fun p hp=>(a9.mono hn).cell (hp▸hbn)) (by simpa using hc);clear hc a6 a5 hA a9;obtain⟨w3,hst,hq3,hg3,hs3⟩:=zJ (vs:=[.int .i64 k2,.int .i64 v2,.string nm2,.bool g2,.slice p3 n3 q3,.slice p4 n4 q4,.slice a2 len2 c2]) z0 rfl (by simp [Value.oneCell']);have b3:Bz w w3:=(f1.trans (hb2.mono f1.size)).grown hg3 (by have:=hb2.size;omega) (by intro k hk;injection hk with hk;omega);have hR:=aside2 hq3 b3;have a4:=EW hst;clear hst hq3 hg3 b3
  go_upto_region 5 with fail
  refine jU ?_
  iterate 4 (refine fZ rfl fun K hK=>?_;go_simp;refine hK _ _ ?_;clear hK)
  refine mI rfl 48 _ _ rfl (v:=.pointer (some ⟨w.heap.size+1,0,none⟩)) (u:=.agg (tA k2 v2 nm2 g2 p3 n3 q3 p4 n4 q4 a2 len2 c2)) rfl rfl a4 ?_;go_wp2;refine tK (FI rfl _ _ (w.heap.size+1) 48 _ _ _ rfl hR.o.1 rfl rfl) rfl ?_;exact⟨_,true,rfl,by simp,fun _=>⟨_,.inr ⟨a1.o,b5.o.2⟩,TmV.below hR.o.2 hn _ _ b5.o.1⟩,hR.o.2⟩
 have b8:(K==1)=false:=by simpa using h1
 have b9:(K==2)=false:=by simpa using h2
 have b4:=aside2 h1 h2;clear h1 h2;obtain⟨w3,hst,hq3,hg3,hs3⟩:=zJ (vs:=[.int .i64 0,.int .i64 0,.string ⟨#[]⟩,.bool false,.slice none 0 0,.slice none 0 0,.slice none 0 0]) z0 rfl (by simp [Value.oneCell']);have b3:Bz w w3:=(f1.trans (hb2.mono f1.size)).grown hg3 (by have:=hb2.size;omega) (by intro k hk;injection hk with hk;omega);have hR:=aside2 hq3 b3;have a4:=EW hst;clear hst hq3 hg3 b3
 go_upto_region 6 with fail
 refine jU ?_
 iterate 1 (refine fZ rfl fun K hK=>?_;go_simp;refine hK _ _ ?_;clear hK)
 refine mI rfl 48 _ _ rfl (v:=.pointer (some ⟨w.heap.size+1,0,none⟩)) (u:=.agg #[.int .i64 0,.int .i64 0,.string ⟨#[]⟩,.bool false,.slice none 0 0,.slice none 0 0,.slice none 0 0]) rfl rfl a4 ?_;go_wp2;refine tK (FI rfl _ _ (w.heap.size+1) 48 _ _ _ rfl hR.o.1 rfl rfl) rfl ?_;exact⟨zTL,false,rfl,fun _=>⟨by rw [a1.o];exact b4.o.1,by rw [a1.o];exact b4.o.2,rfl⟩,by simp,hR.o.2⟩
end Go.Proofs.YtbdpdeonapmlgaaGreatDoor
namespace Go.MapK
open Go.RowKit
variable {b st j:Nat} {w:Wo}
variable {κ:Type} [DecidableEq κ] {P:Program} {kt mt vt:TypeId} {kv:κ→Value}
def StampAt (kv:κ→Value) (w:Wo) (b:Nat) (M:List (κ × Value)) (k:κ) (st:Nat):Prop:=
 ∃es a0,w.heap[b]?=some (.map es a0)∧MapIs kv M es a0∧∃j e,bN k M=some j∧es[j]?=some e∧e.born=st
def StampAt.of_block {w':Wo} {M:List (κ × Value)} {k:κ} (h:StampAt kv w b M k st) (e:w'.heap[b]?=w.heap[b]?):StampAt kv w' b M k st:=by
 obtain⟨es,c,h1,h2⟩:=h;exact⟨es,c,e.trans h1,h2⟩
def StampAt.map {M:List (κ × Value)} {k:κ} (h:StampAt kv w b M k st):aY kv w b M:=by
 obtain⟨es,c,h1,h2,_⟩:=h;exact⟨es,c,h1,h2⟩
def pO (k:κ) (z:Value) (M:List (κ × Value)):List (κ × Value):=if bN k M=none then M++ [(k,z)] else M
def PY {k:κ} {z:Value}:∀{M:List (κ × Value)},bN k M=none→bN k (M++ [(k,z)])=some M.length
 | [],_=>by simp [bN]
 | p::M,h=>by
  by_cases hk:k=p.1
  ·simp [bN,hk] at h
  ·have h1:bN k M=none:=by simpa [bN,hk] using h
   simp [bN,hk,PY h1]
def Ah {k:κ} {z v:Value} {M:List (κ × Value)}:putM k v (pO k z M)=putM k v M:=by
 unfold pO;split
 ·rename_i h;rw [wS h]
  induction M with
  |nil=>simp [putM]
  | cons p M ih=>
   by_cases hk:k=p.1
   ·simp [bN,hk] at h
   ·have h1:bN k M=none:=by simpa [bN,hk] using h
    simp [putM,hk,ih h1]
 ·rfl
def Da (K:KL P kt kv) (hu:P.underlying mt=some (.map kt vt)) {z:Value} (hz:∀w,(zeroValue vt).run P w= .ok z w) {w:Wo} {b:Nat} {M:List (κ × Value)} (h:aY kv w b M) (k:κ):
  ∃w' st,(Instr.mapEntry mt (.map (some b)) (kv k)).run P w= .ok (.tuple #[(aQ k M).getD z,.int .i64 (st:Nat)]) w'∧StampAt kv w' b (pO k z M) k st∧w.grownBy w' (some b)∧w'.heap.size=w.heap.size:=by
 obtain⟨es,a0,hb,hM⟩:=h;have b5:(Go.underlying mt).run P w= .ok (.map kt vt) w:=dW hu w;have a7:b<w.heap.size:=(aM.1 hb).1;have a1:∀o,(setObj b o).run P w= .ok () { w with heap:=w.heap.setIfInBounds b o }:=fun o=>by simp [setObj,Sem.run,hb]
 have a4:∀o,({ w with heap:=w.heap.setIfInBounds b o }:Wo).heap[b]?=some o:=fun o=>by simp [a7]
 have a5:∀o,w.grownBy { w with heap:=w.heap.setIfInBounds b o } (some b):=fun o=>⟨rfl,rfl,rfl,by simp,fun k hk a9=>by
  have:b≠k:=fun e=>a9 (by rw [e])
  simp [mG,this]⟩
 have a6:∀o,({ w with heap:=w.heap.setIfInBounds b o }:Wo).heap.size=w.heap.size:=fun o=>by simp
 unfold Instr.mapEntry;simp only [bF,b5,Result.andThen,run_getMap hb,cH,K.check,K.find k w M _ hM.rel];cases hi:bN k M with
 | none=>
  have hl:=hM.rel.length;rw [cZ] at hl;have he:pO k z M=M++ [(k,z)]:=by unfold pO;rw [if_pos hi]
  refine⟨_,a0,?_,⟨_,_,a4 (.map (es.push { key:=kv k,val:=z,born:=a0 }) (a0+1)),?_,M.length,{ key:=kv k,val:=z,born:=a0 },?_,?_,rfl⟩,a5 _,a6 _⟩
  ·simp [a1,hz,uP.1 hi,goInt,Result.andThen]
  ·rw [he];refine⟨?_,?_,?_,?_⟩
   ·simpa using EsR.append a0 hM.rel
   ·rw [pX,vR];refine⟨hM.nodup,by simp,?_⟩;intro a ha c hc e;obtain⟨p,hp,rfl⟩:=dJ.1 ha;simp at hc;exact xL.1 hi p hp (by rw [e,hc])
   ·rw [KI,JX];exact⟨hM.borns,by simp,fun x hx y hy=>by simp at hy;subst hy;exact hM.lt x hx⟩
   ·intro e he;rw [KI,bX] at he;rcases he with he|he
    ·have:=hM.lt e he;omega
    ·simp at he;subst he;show a0<a0+1;omega
  ·rw [he];exact PY hi
  ·rw [←hl];simp
 | some j=>
  obtain⟨v0,hv0⟩:=KY hi;obtain⟨e0,he0,hk0⟩:=hM.rel.key hi;have a3:es[j]?=some e0:=by rw [←iT];exact he0
  have b4:∀w,(Instr.keyThatStays (kv k) (kv k)).run P w= .ok (kv k) w:=fun w=>by
   unfold Instr.keyThatStays;rw [K.bits k];simp
  have a2:(es.modify j fun e=>{ e with key:=kv k })=es:=by
   apply vX;intro i;rw [oR];split
   ·rename_i e;subst e;rw [a3];simp [←hk0]
   ·rfl
  have he:pO k z M=M:=by unfold pO;rw [if_neg (by rw [hi];simp)]
  refine⟨_,e0.born,?_,⟨_,_,a4 (.map (es.modify j fun e=>{ e with key:=kv k }) a0),?_,j,e0,?_,?_,rfl⟩,a5 _,a6 _⟩
  ·simp [hv0,a3,hk0,b4,a1,goInt,Result.andThen]
  ·rw [he,a2];exact hM
  ·rw [he];exact hi
  ·rw [a2];exact a3
def Fu {es:Array MapEntry} {e:MapEntry} (hp:es.toList.Pairwise fun x y=>x.born<y.born) (he:es[j]?=some e):es.findIdx? (fun x=>(x.born:Int)==(e.born:Nat))=some j:=by
 have hj:j<es.size:=(aM.1 he).1;have b1:es[j]=e:=(aM.1 he).2;rw [Array.findIdx?_eq_some_iff_getElem];refine⟨hj,by simp [b1],fun i hi=>?_⟩;rw [Lr] at hp;have:=hp i j (by simp;omega) (by simpa using hj) hi;simp only [Array.getElem_toList,b1] at this;simp;omega
def Gn {M:List (κ × Value)} {k:κ} (h:StampAt kv w b M k st) (v:Value):
  ∃w',(Instr.entryStore mt (.map (some b)) (.int .i64 (st:Nat)) v).run P w= .ok () w'∧aY kv w' b (putM k v M)∧w.grownBy w' (some b)∧w'.heap.size=w.heap.size:=by
 obtain⟨es,a0,hb,hM,j,e,hi,he,rfl⟩:=h;have a7:b<w.heap.size:=(aM.1 hb).1;have a1:∀o,(setObj b o).run P w= .ok () { w with heap:=w.heap.setIfInBounds b o }:=fun o=>by simp [setObj,Sem.run,hb]
 have a4:∀o,({ w with heap:=w.heap.setIfInBounds b o }:Wo).heap[b]?=some o:=fun o=>by simp [a7]
 have a5:∀o,w.grownBy { w with heap:=w.heap.setIfInBounds b o } (some b):=fun o=>⟨rfl,rfl,rfl,by simp,fun k hk a9=>by
  have:b≠k:=fun e=>a9 (by rw [e])
  simp [mG,this]⟩
 have a6:∀o,({ w with heap:=w.heap.setIfInBounds b o }:Wo).heap.size=w.heap.size:=fun o=>by simp
 obtain⟨e1,a3,hk1⟩:=hM.rel.key hi;have b3:e1=e:=by
  rw [←iT,a3] at he;exact aL he
 subst b3;have a8:es.modify j (fun x=>{ x with val:=v })=es.modify j fun x=>{ x with key:=kv k,val:=v }:=by
  apply vX;intro i;rw [oR,oR];split
  ·rename_i e;subst e;rw [he];simp [←hk1]
  ·rfl
 refine⟨_,?_,⟨_,_,a4 (.map (es.modify j fun x=>{ x with key:=kv k,val:=v }) a0),?_⟩,a5 _,a6 _⟩
 ·unfold Instr.entryStore;simp only [bF,Result.andThen,run_getMap hb,cH,asInt,asIntOf,Fu hM.borns he,a8,a1]
 ·have b0:=GJ (fun e=>{ e with key:=kv k,val:=v }) (fun _=>rfl) es.toList j;refine⟨?_,?_,?_,?_⟩
  ·simpa using EsR.put (v:=v) hM.rel hi
  ·rw [FQ hi];exact hM.nodup
  ·have:=JW.2 hM.borns;rw [←b0] at this;simpa using JW.1 this
  ·intro e he;have b2:e∈es.toList.modify j (fun e=>{ e with key:=kv k,val:=v }):=by simpa using he
   have h1:e.born∈(es.toList.modify j (fun e=>{ e with key:=kv k,val:=v })).map (·.born):=dJ.2 ⟨e,b2,rfl⟩;rw [b0] at h1;obtain⟨e',h2,h3⟩:=dJ.1 h1;rw [←h3];exact hM.lt e' h2
end Go.MapK
namespace Go.Proofs.YtbdpdeonapmlgaaGreatDoor
open Go.RowKit Go.Big Go.RowsK Go.MapK
variable {M:List (Ind × Value)} {D:Ind→List Ind} {L:List Ind} {v u v5:Value} {x:ByteArray} {b base c:Nat} {m:Int} {w w' w2 w5:Wo}
def SepJ.symm (h:SepJ v u):SepJ u v:=fun g h1 h2=>h g h2 h1
def SepJ.nil (v:Value):SepJ v (.slice none 0 c):=fun g h=>by simp [Value.ownBlock] at h
structure GrI (base:Nat) (w:Wo) (b:Nat) (v:Value) (L:List Ind) (M:List (Ind × Value)) (D:Ind→List Ind):Prop where
 row:aD base w v L
 map:aY aS w b M
 val:∀k u,aQ k M=some u→aD base w u (D k)∧SepJ v u
 non:∀k,aQ k M=none→D k= []
 sep:∀k k' u u',k≠k'→aQ k M=some u→aQ k' M=some u'→SepJ u u'
def GrI.below {m:Nat} (h:GrI base w b v L M D) (hb:Below m w w') (hm:w.heap.size≤m):GrI base w' b v L M D where
 row:=h.row.below hb hm
 map:=h.map.of_block (hb.block b (bG h.map.lt hm))
 val:=fun k u hk=>⟨(h.val k u hk).1.below hb hm,(h.val k u hk).2⟩
 non:=h.non
 sep:=h.sep
def GrI.keep (h:GrI base w b v L M D) (hk:∀g,base≤g→g<w.heap.size→w'.heap[g]?=w.heap[g]?) (a8:w'.heap[b]?=w.heap[b]?):GrI base w' b v L M D where
 row:=gF h.row fun g hg=>hk g (cB h.row g hg).1 (cB h.row g hg).2
 map:=h.map.of_block a8
 val:=fun k u hu=>⟨gF (h.val k u hu).1 fun g hg=>hk g (cB (h.val k u hu).1 g hg).1 (cB (h.val k u hu).1 g hg).2,(h.val k u hu).2⟩
 non:=h.non
 sep:=h.sep
def GrI.push (h:GrI base w2 b v L M D) (a7:b<base) (a2:base≤w2.heap.size)
  (h5:w5.ownsRow base 63 2 v5 (L.length+1) (L.flatMap aT++ [.string x,.int .i64 m]))
  (hg:(w2.alloc (.cells #[.string x,.int .i64 m] 63)).grownBy w5 v.ownBlock) (hv:v5.ownBlock=v.ownBlock∨v5.ownBlock=Option.some (w2.alloc (.cells #[.string x,.int .i64 m] 63)).heap.size):
  GrI base w5 b v5 (L++ [(x,m)]) M D∧Below base w2 w5:=by
 obtain⟨h1,h2,h3⟩:=h.row.push a2 h5 hg hv;exact⟨⟨h1,h.map.of_block (h2.block b a7),fun k u hk=>h3 _ _ _ (h.val k u hk).1 (h.val k u hk).2,h.non,h.sep⟩,h2⟩
def GrI.pushAt {w6:Wo} {k:Ind} (h:GrI base w2 b v L M D) (a7:b<base) (a2:base≤w2.heap.size)
  (hu:(aQ k M).getD (.slice none 0 0)=u)
  (h5:w5.ownsRow base 63 2 v5 ((D k).length+1) ((D k).flatMap aT++ [.string x,.int .i64 m]))
  (hg:∀g,g<w2.heap.size→g≠b→u.ownBlock≠some g→w5.heap[g]?=w2.heap[g]?) (hs:w2.heap.size≤w5.heap.size) (hv:v5.ownBlock=u.ownBlock∨∃g,v5.ownBlock=Option.some g∧w2.heap.size≤g)
  (hm:aY aS w6 b (putM k v5 M)) (h6:∀g,g<w5.heap.size→g≠b→w6.heap[g]?=w5.heap[g]?):
  GrI base w6 b v L (putM k v5 M) (fun k'=>if k'=k then D k++ [(x,m)] else D k'):=by
 have a3:SepJ v u:=by
  cases hk:aQ k M with
  |none=>rw [hk] at hu;simp at hu;subst hu;exact SepJ.nil v
  |some u'=>rw [hk] at hu;simp at hu;subst hu;exact(h.val k u' hk).2
 have a1:∀k' u',k'≠k→aQ k' M=some u'→SepJ u' u:=fun k' u' a4 a0=>by
  cases hk:aQ k M with
  |none=>rw [hk] at hu;simp at hu;subst hu;exact SepJ.nil u'
  |some u2=>rw [hk] at hu;simp at hu;subst hu;exact h.sep _ _ _ _ a4 a0 hk
 have kp:∀{L':List Ind} {x':Value},aD base w2 x' L'→SepJ x' u→aD base w6 x' L':=fun {L' x'} ho a6=>gF ho fun g a5=>by
  obtain⟨q1,q2⟩:=cB ho g a5;have a4:g≠b:=by omega
  rw [h6 g (bG q2 hs) a4,hg g q2 a4 (fun e=>a6 g e a5)]
 have ks:∀{L':List Ind} {x':Value},aD base w2 x' L'→SepJ x' u→SepJ x' v5:=fun {L' x'} ho a6 g h1 h2=>by
  obtain⟨q1,q2⟩:=cB ho g h2;rcases hv with e|⟨g',e,hge⟩
  ·rw [e] at h1;exact a6 g h1 h2
  ·rw [e] at h1;injection h1 with h1;omega
 refine⟨kp h.row a3,hm,fun k' u' a0=>?_,fun k' a0=>?_,fun k1 k2 u1 u2 a4 h1 h2=>?_⟩
 ·by_cases e:k'=k
  ·subst e;rw [qC] at a0;injection a0 with a0;subst a0
   refine⟨?_,ks h.row a3⟩;simp only [if_true];have:aD base w5 v5 (D k'++ [(x,m)]):=by
    unfold aD;rw [aI,pZ];simpa [aT] using h5
   exact gF this fun g a5=>by
    obtain⟨q1,q2⟩:=cB this g a5;exact h6 g q2 (by omega)
  ·rw [oT e] at a0;simp only [if_neg e];obtain⟨o1,o2⟩:=h.val _ _ a0;exact⟨kp o1 (a1 _ _ e a0),o2⟩
 ·by_cases e:k'=k
  ·subst e;rw [qC] at a0;cases a0
  ·rw [oT e] at a0;simp only [if_neg e];exact h.non _ a0
 ·by_cases e1:k1=k
  ·by_cases e2:k2=k
   ·exact absurd (e1.trans e2.symm) a4
   ·subst e1;rw [qC] at h1;injection h1 with h1;subst h1
    rw [oT e2] at h2;exact(ks (h.val _ _ h2).1 (a1 _ _ e2 h2)).symm
  ·rw [oT e1] at h1
   by_cases e2:k2=k
   ·subst e2;rw [qC] at h2;injection h2 with h2;subst h2
    exact ks (h.val _ _ h1).1 (a1 _ _ e1 h1)
   ·rw [oT e2] at h2;exact h.sep _ _ _ _ a4 h1 h2
end Go.Proofs.YtbdpdeonapmlgaaGreatDoor
namespace Go.Proofs
open Go.Shelf
def Tryz.lays106_ren:Go.Shelf.Ren:=⟨fun|106=>228|213=>268|265=>320|n=>n,fun|9=>9|3=>3|n=>n,fun|n=>n⟩
def Tryz.lays106:Go.Proofs.Lays.n106 Tryz.prog Tryz.lays106_ren:={
 mixed:=by kernel_rfl
 f106:=Tryz.func228.trans (eY some (by kernel_rfl))
 f213:=Tryz.func268.trans (eY some (by kernel_rfl))
 f265:=Tryz.func320.trans (eY some (by kernel_rfl))
 t3:=Tryz.underlying3
 a3:=Tryz.isAgg3
 z3:=Tryz.sizeOf3
 v3:=Tryz.zeroValue3
 t9:=Tryz.underlying9
 a9:=Tryz.isAgg9
 z9:=Tryz.sizeOf9
 v9:=Tryz.zeroValue9 }
open Go.RowKit in
def Tryz.strings_Compare (a b:ByteArray) (w:Wo):
  Calls Tryz.prog 228 #[.string a,.string b] w fun e w'=>e= .returned (.int .i64 (Lib.compareBytes a.data.toList b.data.toList))∧w'=w:=Any.strings_Compare Tryz.lays106 a b w
end Go.Proofs
namespace Go.Proofs.YtbdpdeonapmlgaaGreatDoor
open Go.RowKit Go.Sort
def oE (x y:Int):Int:=if x<y then-1 else if y<x then 1 else 0
def Ch (x:Int) (w:Wo):Cz 230 #[.int .i64 x] w fun e w'=>e= .returned (.bool false)∧w'=w:=by
 go_enter Tryz.func230,Tryz.ntmps230;go_wp2
 all_goals go_ret
 all_goals exact⟨by simp,rfl⟩
def Ht (x y:Int) (w:Wo):Cz 174 #[.int .i64 x,.int .i64 y] w fun e w'=>e= .returned (.int .i64 (oE x y))∧w'=w:=by
 go_enter Tryz.func174,Tryz.ntmps174
 go_wp2_with (go_at_call 230;refine(Ch _ _).mono ?_;rintro e w' ⟨rfl,rfl⟩)
 all_goals go_ret
 all_goals refine⟨?_,rfl⟩
 all_goals unfold oE
 all_goals(repeat' split)
 all_goals first|rfl|omega|skip
def orZ:List Int→Int
 | []=>0
 |z::r=>if z=0 then orZ r else z
def FX:∀(zs:List Int) (k:Nat),(∀j,j<k→zs[j]?.getD 0=0)→orZ zs=orZ (zs.drop k)
 |zs,0,_=>by simp
 | [],k+1,_=>by simp
 |z::r,k+1,h=>by
  have h0:z=0:=by simpa using h 0 (by omega)
  simp only [orZ,h0,if_true,aW];exact FX r k (fun j hj=>by have:=h (j+1) (by omega);simpa using this)
def orZ_at (zs:List Int) (k:Nat) (hk:k<zs.length) (h:∀j,j<k→zs[j]?.getD 0=0) (hz:zs[k]?.getD 0≠0):orZ zs=zs[k]?.getD 0:=by
 rw [FX zs k h,jC hk];have e:zs[k]?.getD 0=zs[k]:=by simp [hk]
 rw [e] at hz ⊢;simp [orZ,hz]
def Bb (zs:List Int) (h:∀j,j<zs.length→zs[j]?.getD 0=0):orZ zs=0:=by
 rw [FX zs zs.length h];simp [orZ]
def Ba (b cap:Nat) (zs:List Int) (w:Wo) (a0:zs.length≤1000) (hc:∀j,j<zs.length→w.cell? ⟨b,j,none⟩=some (.int .i64 (zs[j]?.getD 0))):
  Cz 173 #[.slice (some ⟨b,0,none⟩) zs.length cap] w fun e w'=>e= .returned (.int .i64 (orZ zs))∧w'=w:=by
 generalize hL:zs.length=len at hc a0 ⊢;go_enter Tryz.func173,Tryz.ntmps173;go_wp2
 go_loopw [8] (fun i wr=>∃k:Nat,k≤len∧i= .int .i64 k∧wr=w∧∀j,j<k→zs[j]?.getD 0=0) (fun i _=>len-(intOf i).toNat)
 case atStart=>exact⟨0,aJ _,rfl,rfl,fun j hj=>absurd hj (by omega)⟩
 case round=>
  obtain⟨k,hk,rfl,rfl,hz⟩:=hrel
  by_cases a4:k<len
  ·have a3:=hc k a4;generalize a2:zs[k]?.getD 0=z at a3;clear hc;go_wp2
   ·have a5:z≠0:=by simpa using (by assumption:(z !=0)=true)
    have a1:=orZ_at zs k (by omega) hz (by rw [a2];exact a5);refine tK (results_tmp rfl _ _ _) rfl ?_;exact⟨by rw [a1,a2];rfl,rfl⟩
   ·have h0:z=0:=by simpa using (by assumption:(z !=0)=false)
    go_roundw
    case rel=>exact⟨k+1,by omega,by simp,by trivial,fun j hj=>by
     rcases VI.1 hj with h|h
     ·exact hz j h
     ·rw [h,a2,h0]⟩
    case measure=>simp [intOf];omega
  ·obtain rfl:k=len:=by omega
   have a1:=Bb zs (by rw [hL];exact hz);go_wp2
   go_ret
   exact⟨by rw [a1];rfl,rfl⟩
def Bc (b cap:Nat) (x y:Int) (w:Wo) (h0:w.cell? ⟨b,0,none⟩=some (.int .i64 x)) (h1:w.cell? ⟨b,1,none⟩=some (.int .i64 y)):
  Cz 173 #[.slice (some ⟨b,0,none⟩) 2 cap] w fun e w'=>e= .returned (.int .i64 (orZ [x,y]))∧w'=w:=
 Ba b cap [x,y] w (by simp) fun j hj=>by
  match j,hj with
  |0,_=>exact h0
  |1,_=>exact h1
  |n+2,hj=>exact absurd hj (by simp)
def Hp {x y:Int} (h:x<y):oE x y= -1:=by simp [oE,h]
def Hq {x y:Int} (h:y<x):oE x y=1:=by
 have:¬x<y:=by omega
 simp [oE,h,this]
def Hr {x y:Int} (h:x=y):oE x y=0:=by subst h;simp [oE]
def pQ (a b:ByteArray × Int):Int:=orZ [Lib.compareBytes a.1.data.toList b.1.data.toList,oE a.2 b.2]
def Hu (x y:ByteArray) (m n:Int) (w:Wo):
  Cz 188 #[.agg #[.string x,.int .i64 m],.agg #[.string y,.int .i64 n]] w fun e w'=>e= .returned (.int .i64 (pQ (x,m) (y,n)))∧∃q a6,w'=grow (w.drewN q) a6:=by
 go_enter Tryz.func188,Tryz.ntmps188;go_wp2;refine iA 10 (by kernel_rfl) (by kernel_rfl) ?_;simp only [aX,bI,aW,bD,gQ]
 repeat (first|still_step|still_call (Tryz.strings_Compare _ _ _)|still_call (Ht _ _ _))
 refine iB ?_;show wpList _ _ _ _ _ _
 go_wp2_with (go_at_call 173;refine(Bc _ _ (Lib.compareBytes x.data.toList y.data.toList) (oE m n) _ (by go_simp) (by go_simp)).mono ?_;rintro e w' ⟨rfl,rfl⟩)
 go_ret
 exact⟨rfl,1,_,by rw [alloc_eq_grow,alloc_eq_grow,alloc_eq_grow,grow_grow,grow_grow];rfl⟩
def EL (a c:UInt8):a<c∨a=c∨c<a:=by
 rcases VF a.toNat c.toNat with h|h|h
 ·exact .inl h
 ·exact .inr (.inl (DS.1 h))
 ·exact .inr (.inr h)
def bLt:List UInt8→List UInt8→Prop
 | [],[]=>False
 | [],_::_=>True
 |_::_,[]=>False
 |a::A,c::C=>a<c∨a=c∧bLt A C
def SG:∀{A C:List UInt8},Lib.compareBytes A C<0↔bLt A C
 | [],[]=>by simp [Lib.compareBytes,bLt]
 | [],c::C=>by simp [Lib.compareBytes,bLt]
 |a::A,[]=>by simp [Lib.compareBytes,bLt]
 | a::A,c::C=>by
  have ih:=SG (A:=A) (C:=C);unfold Lib.compareBytes bLt;rcases EL a c with h|h|h
  ·simp [h]
  ·subst h;simp [rK,ih]
  ·have h1:¬a<c:=fun h2=>rK _ (UT h h2)
   have h2:a≠c:=fun e=>by subst e;exact rK _ h
   simp [h,h1,h2]
def CZ:∀{A C:List UInt8},Lib.compareBytes A C=0↔A=C
 | [],[]=>by simp [Lib.compareBytes]
 | [],c::C=>by simp [Lib.compareBytes]
 |a::A,[]=>by simp [Lib.compareBytes]
 | a::A,c::C=>by
  have ih:=CZ (A:=A) (C:=C);unfold Lib.compareBytes;rcases EL a c with h|h|h
  ·have h2:a≠c:=fun e=>by subst e;exact rK _ h
   simp [h,h2]
  ·subst h;simp [rK,ih]
  ·have h1:¬a<c:=fun h2=>rK _ (UT h h2)
   have h2:a≠c:=fun e=>by subst e;exact rK _ h
   simp [h,h1,h2]
def yH:∀A:List UInt8,¬bLt A A
 | []=>by simp [bLt]
 |a::A=>by simp [bLt,rK,yH A]
def TZ:∀{A B C:List UInt8},bLt A B→bLt B C→bLt A C
 | [],[],_,h,_=>by simp [bLt] at h
 | [],b::B,[],_,h=>by simp [bLt] at h
 | [],b::B,c::C,_,_=>by simp [bLt]
 |a::A,[],_,h,_=>by simp [bLt] at h
 |a::A,b::B,[],_,h=>by simp [bLt] at h
 | a::A,b::B,c::C,h1,h2=>by
  simp only [bLt] at*;rcases h1 with h1|⟨rfl,h1⟩
  ·rcases h2 with h2|⟨rfl,h2⟩
   ·exact .inl (UT h1 h2)
   ·exact .inl h1
  ·rcases h2 with h2|⟨rfl,h2⟩
   ·exact .inl h2
   ·exact .inr ⟨rfl,TZ h1 h2⟩
def TY:∀(A C:List UInt8),bLt A C∨A=C∨bLt C A
 | [],[]=>by simp
 | [],c::C=>by simp [bLt]
 |a::A,[]=>by simp [bLt]
 | a::A,c::C=>by
  simp only [bLt];rcases EL a c with h|h|h
  ·exact .inl (.inl h)
  ·subst h;rcases TY A C with h|h|h
   ·exact .inl (.inr ⟨rfl,h⟩)
   ·exact .inr (.inl (by rw [h]))
   ·exact .inr (.inr (.inr ⟨rfl,h⟩))
  ·exact .inr (.inr (.inl h))
def jQ (a b:ByteArray × Int):Prop:=bLt a.1.data.toList b.1.data.toList∨a.1=b.1∧a.2<b.2
def TX {a b:ByteArray} (h:a.data.toList=b.data.toList):a=b:=by
 cases a;cases b;congr 1;exact lH.1 h
def Hv {a b:ByteArray × Int}:pQ a b<0↔jQ a b:=by
 unfold pQ jQ
 by_cases h:Lib.compareBytes a.1.data.toList b.1.data.toList=0
 ·have e:=CZ.1 h;have e2:=TX e;have:¬bLt a.1.data.toList b.1.data.toList:=by rw [e];exact yH _
  have hz:Lib.compareBytes b.1.data.toList b.1.data.toList=0:=CZ.2 rfl;simp only [orZ,if_true,this,false_or,e2,DN,hz];rcases Int.lt_trichotomy a.2 b.2 with h3|h3|h3
  ·rw [Hp h3];simp [h3]
  ·rw [Hr h3];simp [h3,yH]
  ·rw [Hq h3];simp [yH];omega
 ·have e:a.1≠b.1:=fun e=>h (by rw [e];exact CZ.2 rfl)
  simp only [orZ,h,fN,e,false_and,or_false];exact SG
def Eh (a:ByteArray × Int):¬jQ a a:=by
 unfold jQ;rintro(h|h)
 ·exact yH _ h
 ·omega
def PX {a b c:ByteArray × Int} (h1:jQ a b) (h2:jQ b c):jQ a c:=by
 unfold jQ at*;rcases h1 with h1|⟨e1,h1⟩
 ·rcases h2 with h2|⟨e2,h2⟩
  ·exact .inl (TZ h1 h2)
  ·rw [←e2];exact .inl h1
 ·rcases h2 with h2|⟨e2,h2⟩
  ·rw [e1];exact .inl h2
  ·exact .inr ⟨e1.trans e2,by omega⟩
def Eg (a b:ByteArray × Int):jQ a b∨a=b∨jQ b a:=by
 unfold jQ;rcases TY a.1.data.toList b.1.data.toList with h|h|h
 ·exact .inl (.inl h)
 ·have e:=TX h;rcases Int.lt_trichotomy a.2 b.2 with h3|h3|h3
  ·exact .inl (.inr ⟨e,h3⟩)
  ·exact .inr (.inl (Prod.ext e h3))
  ·exact .inr (.inr (.inr ⟨e.symm,h3⟩))
 ·exact .inr (.inr (.inl h))
end Go.Proofs.YtbdpdeonapmlgaaGreatDoor
namespace Go.Proofs.YtbdpdeonapmlgaaGreatDoor
open Go.RowKit Go.Big Go.RowsK Go.MapK
variable {L:List Ind} {i base:Nat} {w:Wo} {x y:Ind}
section
attribute [local go_sem] Heavy.uponW
def pP (a0:List Ind) (x:Ind):List Ind:=if a0.getLast?=some x then a0 else a0++ [x]
def cpt (L:List Ind):List Ind:=L.foldl pP []
def Hg (L:List Ind) (x:Ind):cpt (L++ [x])=pP (cpt L) x:=by
 unfold cpt;rw [WG];rfl
def RW (h:L[i]?=some x):cpt (L.take (i+1))=pP (cpt (L.take i)) x:=by
 rw [gK,h];exact Hg _ _
def Hh (h:L[i]?=some y):(cpt (L.take (i+1))).getLast?=some y:=by
 rw [RW h];unfold pP;split
 ·assumption
 ·simp
def CY (h:L[i]?=some y) (h1:L[i+1]?=some x):cpt (L.take (i+1+1))=if x=y then cpt (L.take (i+1)) else cpt (L.take (i+1))++ [x]:=by
 rw [RW h1];unfold pP;rw [Hh h]
 by_cases e:x=y
 ·subst e;simp
 ·have:¬y=x:=fun q=>e q.symm
  simp [e,this]
def RX (h:L.length<2):cpt L=L:=by
 match L,h with
 | [],_=>rfl
 | [a],_=>rfl
 |a::b::r,h=>simp at h;omega
def cpt_le (L:List Ind):(cpt L).length≤L.length:=by
 unfold cpt;have:∀(L a0:List Ind),(L.foldl pP a0).length≤a0.length+L.length:=by
  intro L
  induction L with
  |nil=>intro a0;simp
  |cons a r ih=>
   intro a0;have:=ih (pP a0 a);have h2:(pP a0 a).length≤a0.length+1:=by unfold pP;split<;>simp
   simp only [KB,iE];omega
 simpa using this L []
def xP {a b c:Wo} {row:Option Nat} (h:a.grownBy b row) (k:b.grownBy c row):a.grownBy c row:=
 ⟨k.os.trans h.os,k.tape.trans h.tape,k.output.trans h.output,aE h.size k.size,fun j hj a2=>(k.block j (bG hj h.size) a2).trans (h.block j hj a2)⟩
def HM (a:Wo) (row:Option Nat):a.grownBy a.drew row:=⟨rfl,rfl,rfl,aA _,fun _ _ _=>rfl⟩
def CH (a:Wo) (row:Option Nat):a.grownBy a row:=⟨rfl,rfl,rfl,aA _,fun _ _ _=>rfl⟩
def aD.drew {v:Value} (h:aD base w v L):aD base w.drew v L:=h.below (cU w.heap.size w) (aA _)
def flat_take:∀(L:List Ind) (k:Nat),(L.take k).flatMap aT=(L.flatMap aT).take (k*2)
 | [],k=>by simp
 |a::r,0=>by simp
 |a::r,k+1=>by
  simp only [aX,oQ,flat_take r k,aT];rw [show(k+1)*2=k*2+1+1 by omega];simp
def aD.clear {g n cap:Nat} (h:aD base w (.slice (Option.some ⟨g,0,none⟩) n cap) L) (hn:L.length=n) {k:Nat} (hk:k<n) (ty:TypeId) (a1:Nat):
  ∃w1,(Builtin.clear_ #[127] ty #[.slice (Option.some ⟨g,k*2,none⟩) (n-k) a1]).run Tryz.prog w= .ok (.tuple #[]) w1∧aD base w1 (.slice (Option.some ⟨g,0,none⟩) k cap) (L.take k)∧w.grownBy w1 (Option.some g)∧w1.heap.size=w.heap.size:=by
 unfold aD at h;rw [hn] at h;obtain⟨a6,⟨e,_⟩|⟨g',a1,cur,e,hb,hg,hnc,hm,hs,ht⟩⟩:=h
 ·cases e
 cases e;have a9:cur.toList.length=cap*2:=by rw [cZ];exact hs
 obtain⟨Z,hZ⟩:=enm ((Builtin.zeroCells rU.cells (n-k)).toList);have a8:Z.length=(n-k)*2:=by rw [←hZ];simp [Builtin.zeroCells,rU,Value.cells]
 have a7:∀v∈Z,v.oneCell'=true:=by
  intro v hv;rw [←hZ] at hv;simp only [Builtin.zeroCells,rU,Value.cells,Array.toList_map,dJ] at hv;obtain⟨j,_,rfl⟩:=hv;have:j%2=0∨j%2=1:=by omega
  show(#[Value.string { data:=#[] },Value.int IntKind.i64 0][j%2]!).oneCell'=true;rcases this with e|e<;>rw [e]<;>rfl
 have a3:=DO (P:=Tryz.prog) g (k*2) 63 Z 0 cur w hg (by rw [a8];omega) a7;refine⟨w.setRow g (cur.toList.take (k*2+0)++Z++cur.toList.drop (k*2+0+Z.length)).toArray,?_,?_,⟨rfl,rfl,rfl,by simp [World.setRow],fun j hj a2=>yO _ _ _ _ fun(e:j=g)=>a2 (by rw [e])⟩,by simp [World.setRow]⟩
 ·obtain⟨m,hm⟩:∃m,n-k=m+1:=⟨n-k-1,by omega⟩;have hv:∀w,(zeroValue 63).run Tryz.prog w= .ok rU w:=fun w=>Tryz.zeroValue63 w
  rw [hm] at hZ ⊢;unfold Builtin.clear_;simp [dW Tryz.underlying127,hv,hZ];simp at a3;simp [a3]
 ·have a5:(cur.toList.take (k*2+0)++Z++cur.toList.drop (k*2+0+Z.length)).length=cap*2:=by simp;omega
  unfold aD;have a4:(L.take k).length=k:=by rw [bJ,hn];omega
  rw [a4];refine⟨by rw [flat_len,a4],.inr ⟨g,cap,_,rfl,hb,vJ _ _ _ _ _ _ hg,by omega,hm,by rw [vP];exact a5,?_⟩⟩;rw [fO,JT (by simp;omega),iI,JS,Nat.min_self];have:=flat_take L k;rw [this,←ht,JS,rN (by omega)]
end
section
attribute [local go_sem] Heavy.uponW
def CpP (base:Nat) (w:Wo) (sv:Value) (L:List Ind) (e:Ending) (w':Wo):Prop:=
 ∃v,e= .returned v∧aD base w' v (cpt L)∧v.ownBlock=sv.ownBlock∧w.grownBy w' sv.ownBlock
def Hm (L:List Ind) (base:Nat) (w:Wo) (sv:Value) (hO:aD base w sv L) (b2:L.length≤1000000000):
  Cz 189 #[sv] w (CpP base w sv L):=by
 by_cases hs:L.length<2
 case pos=>
  obtain⟨a,c,rfl,_⟩:=hO.read;have hR:Aside (CpP base w (.slice a L.length c) L (.returned (.slice a L.length c)) w):=⟨_,rfl,by rw [RX hs];exact hO,rfl,CH _ _⟩;have c1:(L.length:Int)<2:=by omega
  generalize L.length=len at*;clear hO;go_enter Tryz.func189,Tryz.ntmps189;go_wp2
  go_ret
  exact hR.o
 obtain⟨g,c,rfl,hbg,hgl⟩:=hO.some (by intro e;subst e;simp at hs);obtain⟨len,hl⟩:=enm L.length;rw [hl] at hs b2 hO ⊢;have Al:=aside hl;have c1:¬(len:Int)<2:=by omega
 have b6:=aside hO;have d8:len≤c:=by
  obtain⟨_,⟨e,_⟩|⟨g',cap',cur,e,_,_,hnc,_⟩⟩:=hO
  ·cases e
  ·cases e;rw [←hl];exact hnc
 have c2:c≤maxLen:=by
  obtain⟨_,⟨e,_⟩|⟨g',cap',cur,e,_,_,hnc,hm,_⟩⟩:=hO
  ·cases e
  ·cases e;exact hm
 clear hO hl;go_enter Tryz.func189,Tryz.ntmps189;go_wp2
 go_loopw [3] (fun s wr=>∃i:Nat,s= .int .i64 ((i:Int)+1)∧i+1≤len∧cpt (L.take (i+1))=L.take (i+1)∧aD base wr (.slice (some ⟨g,0,none⟩) len c) L∧w.grownBy wr (some g)) (fun s _=>len-(intOf s).toNat)
 case atStart=>exact⟨0,by simp,by omega,by rw [RX (by rw [bJ];omega)],b6.o,CH _ _⟩
 case round=>
  obtain⟨wo,rfl⟩:=enr wr;obtain⟨i,rfl,hi,hcp,hP,hG⟩:=hrel
  by_cases d9:i+1<len
  case neg=>
   obtain rfl:len=i+1:=by omega
   have hR:Aside (CpP base w (.slice (some ⟨g,0,none⟩) (i+1) c) L (.returned (.slice (some ⟨g,0,none⟩) (i+1) c)) wo):=⟨_,rfl,by rw [eS (by rw [Al.o];exact aA _)] at hcp;rw [hcp];exact hP,rfl,hG⟩;have c3:((i+1:Nat):Int)=(i:Int)+1:=by omega
   clear hcp hP hG;go_wp2
   go_ret
   exact hR.o
  obtain⟨⟨y,q⟩,hI0⟩:∃I,L[i]?=some I:=⟨L[i]'(by rw [Al.o];omega),aZ _⟩;obtain⟨⟨x,p⟩,hI1⟩:∃I,L[i+1]?=some I:=⟨L[i+1]'(by rw [Al.o];omega),aZ _⟩;have a3:Aside (∀w2,Bz wo w2→w2.cell? ⟨g,(i+1)*2,none⟩=some (.string x)∧w2.cell? ⟨g,(i+1)*2+1,none⟩=some (.int .i64 p)):=fun w2 hb=>(hP.below hb (aA _)).cells hI1
  have a4:Aside (∀w2,Bz wo w2→w2.cell? ⟨g,i*2,none⟩=some (.string y)∧w2.cell? ⟨g,i*2+1,none⟩=some (.int .i64 q)):=fun w2 hb=>(hP.below hb (aA _)).cells hI0
  have a2:=aside5 hP hG hcp hI0 hI1;have c4:((i:Int)+1)<(len:Int):=by omega
  have c5:(0:Int)≤(i:Int)+1:=by omega
  have c6:(i:Int)<(len:Int):=by omega
  have c8:(0:Int)≤(i:Int):=by omega
  have c7:((i:Int)+1).toNat=i+1:=by omega
  have c9:((i:Int)+1)≤(len:Int):=by omega
  have e0:IntKind.i64.wrap (i:Int)=(i:Int):=by rw [cO];omega
  have e2:IntKind.i64.wrap ((i:Int)+1+1)=(i:Int)+1+1:=by rw [cO];omega
  have b1:=kX x y p q;have e7:=lV;obtain⟨D,hD⟩:=enm (decide ((x,p)=(y,q)));rw [hD] at b1;have DA:=aside hD;clear hP hG hcp hI0 hI1 hD
  go_upto_region 6 with fail
  have a9:Bz wo wo.drew:=cU _ _;refine hRp (Bz wo) 9 (Heavy.lights [0,1,2,3,4,5,6,7,8] .done) (by kernel_rfl) (by kernel_rfl) a9 ?_;simp only [Heavy.lights,aX,bI,aW,bD]
  iterate 3 ((apply hLm;(exact rfl);(exact rfl);(intro a0 hw;go_simp;exact rfl);(go_simp;exact rfl)))
  (apply hLm;(exact rfl);(exact rfl);(intro a0 hw;have z0:=(a3.o a0 hw).1;have z1:=(a3.o a0 hw).2;go_simp;exact rfl);(go_simp;exact rfl))
  iterate 4 ((apply hLm;(exact rfl);(exact rfl);(intro a0 hw;go_simp;exact rfl);(go_simp;exact rfl)))
  (apply hLm;(exact rfl);(exact rfl);(intro a0 hw;have z0:=(a4.o a0 hw).1;have z1:=(a4.o a0 hw).2;go_simp;exact rfl);(go_simp;exact rfl))
  apply hPe;show wpList _ _ _ _ _ _;cases D
  case false=>
   have a5:Aside (cpt (L.take (i+1+1))=L.take (i+1+1)):=by
    show _=_;have e:=DA.o;rw [rH] at e;rw [CY a2.o.2.2.2.1 a2.o.2.2.2.2,if_neg e,a2.o.2.2.1,gK (i:=i+1),a2.o.2.2.2.2];rfl
   have b3:=a2.o.1.drew;have b0:=xP a2.o.2.1 (HM wo (some g));go_wp2;go_roundw
   case rel=>exact⟨i+1,by simp,by omega,a5.o,b3,b0⟩
   case measure=>simp [intOf];omega
  case true=>
   have a6:Aside (aD base wo.drew (.slice (some ⟨g,0,none⟩) len c) L∧L.take (i+1)=cpt (L.take (i+1+(0+1)))∧w.grownBy wo.drew (some g)):=⟨a2.o.1.drew,by
    have e:=DA.o;rw [fI] at e;rw [CY a2.o.2.2.2.1 a2.o.2.2.2.2,if_pos e,a2.o.2.2.1],xP a2.o.2.1 (HM wo (some g))⟩
   clear DA a4 a3;obtain⟨m,hm⟩:=enm (len-(i+1));have a7:=aside hm;go_wp2;clear hm b1
   go_loopw [3,5] (fun s3 s5 a0=>∃(j r:Nat) (S:List Ind),s3= .int .i64 (j:Int)∧s5= .int .i64 ((r:Int)+1)∧r+1≤m∧j≤i+1+r∧S.length=len∧aD base a0 (.slice (some ⟨g,0,none⟩) len c) S∧S.take j=cpt (L.take (i+1+(r+1)))∧(∀t,i+1+r≤t→S[t]?=L[t]?)∧w.grownBy a0 (some g)) (fun _ s _=>len-(intOf s).toNat)
   case atStart=>exact⟨i+1,0,L,by simp,by simp,by have:=a7.o;omega,by omega,Al.o,a6.o.1,a6.o.2.1,fun _ _=>rfl,a6.o.2.2⟩
   case round=>
    obtain⟨wp,rfl⟩:=enr wr;obtain⟨j,r,S,rfl,rfl,hr,hjr,hSl,hS,hSc,hSt,hGp⟩:=hrel
    by_cases b9:r+1<m
    case neg=>
     have hm:=a7.o;clear a7;obtain rfl:m=r+1:=by omega
     obtain⟨w9,hcl,hO9,hg9,_⟩:=hS.clear hSl (k:=j) (by omega) 0 (c-j);have hR:Aside (CpP base w (.slice (some ⟨g,0,none⟩) len c) L (.returned (.slice (some ⟨g,0,none⟩) j c)) w9):=⟨_,rfl,by
      have e1:i+1+(r+1)=len:=by omega
      rw [hSc,e1,eS (by rw [Al.o];exact aA _)] at hO9;exact hO9,rfl,xP hGp hg9⟩
     have d0:(j:Int)≤(len:Int):=by omega
     have b7:(j:Int)≤(c:Int):=by omega
     have b8:(0:Int)≤(j:Int):=by omega
     clear hS hSc hSt hGp hO9 hg9;go_wp2
     go_ret
     exact hR.o
    have c0:=a7.o;obtain⟨⟨y2,q2⟩,hI0⟩:∃I,L[i+1+r]?=some I:=⟨L[i+1+r]'(by rw [Al.o];omega),aZ _⟩;obtain⟨⟨x2,p2⟩,hI1⟩:∃I,L[i+1+r+1]?=some I:=⟨L[i+1+r+1]'(by rw [Al.o];omega),aZ _⟩;have a3:Aside (∀w2,Bz wp w2→w2.cell? ⟨g,(i+1)*2+(r+1)*2,none⟩=some (.string x2)∧w2.cell? ⟨g,(i+1)*2+(r+1)*2+1,none⟩=some (.int .i64 p2)):=fun w2 hb=>by
     have:=(hS.below hb (aA _)).cells ((hSt (i+1+r+1) (by omega)).trans hI1);rw [show(i+1+r+1)*2=(i+1)*2+(r+1)*2 by omega] at this;exact this
    have a4:Aside (∀w2,Bz wp w2→w2.cell? ⟨g,(i+1)*2+r*2,none⟩=some (.string y2)∧w2.cell? ⟨g,(i+1)*2+r*2+1,none⟩=some (.int .i64 q2)):=fun w2 hb=>by
     have:=(hS.below hb (aA _)).cells ((hSt (i+1+r) (by omega)).trans hI0);rw [show(i+1+r)*2=(i+1)*2+r*2 by omega] at this;exact this
    have a1:=aside7 hS hGp hSc hSt hSl hI0 hI1;have d1:((r:Int)+1)<(m:Int):=by omega
    have d2:(0:Int)≤(r:Int)+1:=by omega
    have d3:(r:Int)<(m:Int):=by omega
    have d5:(0:Int)≤(r:Int):=by omega
    have d4:((r:Int)+1).toNat=r+1:=by omega
    have e3:IntKind.i64.wrap (r:Int)=(r:Int):=by rw [cO];omega
    have e4:IntKind.i64.wrap ((r:Int)+1+1)=(r:Int)+1+1:=by rw [cO];omega
    have e6:=ewr (i:=j) (by omega);have d6:(j:Int)<(len:Int):=by omega
    have d7:(0:Int)≤(j:Int):=by omega
    have b4:j<len:=by omega
    have b1:=kX x2 y2 p2 q2;obtain⟨D,hD⟩:=enm (decide ((x2,p2)=(y2,q2)));rw [hD] at b1;have DA:=aside hD;clear hS hGp hSc hSt hSl hI0 hI1 hD c0
    go_upto_region 11 with fail
    have a9:Bz wp wp.drew:=cU _ _;refine hRp (Bz wp) 9 (Heavy.lights [0,1,2,3,4,5,6,7,8] .done) (by kernel_rfl) (by kernel_rfl) a9 ?_;simp only [Heavy.lights,aX,bI,aW,bD]
    iterate 3 ((apply hLm;(exact rfl);(exact rfl);(intro a0 hw;go_simp;exact rfl);(go_simp;exact rfl)))
    (apply hLm;(exact rfl);(exact rfl);(intro a0 hw;have z0:=(a3.o a0 hw).1;have z1:=(a3.o a0 hw).2;go_simp;exact rfl);(go_simp;exact rfl))
    iterate 4 ((apply hLm;(exact rfl);(exact rfl);(intro a0 hw;go_simp;exact rfl);(go_simp;exact rfl)))
    (apply hLm;(exact rfl);(exact rfl);(intro a0 hw;have z0:=(a4.o a0 hw).1;have z1:=(a4.o a0 hw).2;go_simp;exact rfl);(go_simp;exact rfl))
    apply hPe;show wpList _ _ _ _ _ _;have b0:=xP a1.o.2.1 (HM wp (some g));have a8:=aside b0;clear b0;cases D
    case true=>
     have a5:Aside (S.take j=cpt (L.take (i+1+(r+1+1)))):=by
      show _=_;have e:=DA.o;rw [fI] at e;rw [show i+1+(r+1+1)=i+1+r+1+1 by omega,CY a1.o.2.2.2.2.2.1 a1.o.2.2.2.2.2.2,if_pos e,a1.o.2.2.1];rfl
     have b3:=a1.o.1.drew;go_wp2;go_roundw
     case rel=>exact⟨j,r+1,S,rfl,by simp,by omega,by omega,a1.o.2.2.2.2.1,b3,a5.o,fun t ht=>a1.o.2.2.2.1 t (by omega),a8.o⟩
     case measure=>
      have:=a7.o;simp [intOf];omega
    case false=>
     obtain⟨w9,hst1,hP9,hg9,_⟩:=a1.o.1.drew.store (i:=j) (J:=(x2,p2)) a1.o.2.2.2.2.1 b4;have a5:Aside (aD base w9 (.slice (some ⟨g,0,none⟩) len c) (S.set j (x2,p2))∧(S.set j (x2,p2)).take (j+1)=cpt (L.take (i+1+(r+1+1)))∧w.grownBy w9 (some g)):=by
      refine⟨hP9,?_,xP a8.o hg9⟩;have e:=DA.o;rw [rH] at e;rw [show i+1+(r+1+1)=i+1+r+1+1 by omega,CY a1.o.2.2.2.2.2.1 a1.o.2.2.2.2.2.2,if_neg e,gK,List.take_set_of_le (aA _),a1.o.2.2.1];rw [WC (by rw [a1.o.2.2.2.2.1];exact b4)];rfl
     obtain⟨z0,z1⟩:=a3.o wp.drew a9;clear hP9 hg9 DA a3 a4;have b5:=EV hst1;clear hst1;dsimp only at b5
     go_upto_region 12 with fail
     refine jU ?_
     iterate 7 (refine fZ rfl fun K hK=>?_;go_simp;refine hK _ _ ?_;clear hK)
     refine mI rfl 63 _ _ rfl (v:=.pointer (some ⟨g,j*2,none⟩)) (u:=.agg #[.string x2,.int .i64 p2]) rfl rfl b5 ?_;go_wp2;go_roundw
     case rel=>exact⟨j+1,r+1,_,by simp,by simp,by omega,by omega,by rw [tU];exact a1.o.2.2.2.2.1,a5.o.1,a5.o.2.1,fun t ht=>by rw [WD (by omega)];exact a1.o.2.2.2.1 t (by omega),a5.o.2.2⟩
     case measure=>
      have:=a7.o;simp [intOf];omega
end
