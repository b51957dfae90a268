/- Lemmas; no condition. -/
import Derived.Test.YtealgacfnbbgdaaGreatDoorAw
import Derived.Shelf.Sort.Plain
import Derived.Shelf.Slices.In.SortNone2
import Derived.Shelf.SlIterI.Sorted
set_option linter.all false
set_option maxHeartbeats 4000000
set_option maxRecDepth 100000
namespace Go.Proofs
open Go.RowKit Go.Maps Go.Sort Go.Shelf
open YtealgacfnbbgdaaGreatDoor (Bz Cz enm)
attribute [local go_sem] Oper.semAt_some
def Tryz.upto {α:Type} (f:Nat→α) (k:Nat):List α:=(List.range k).map f
def Tryz.upto_succ {α:Type} (f:Nat→α) (k:Nat):Tryz.upto f (k+1)=Tryz.upto f k++ [f k]:=by simp [Tryz.upto,List.range_succ]
def Tryz.upto_length {α:Type} (f:Nat→α) (k:Nat):(Tryz.upto f k).length=k:=by simp [Tryz.upto]
def Tryz.upto_all (zs:List Int):Tryz.upto (fun j=>zs[j]?.getD 0) zs.length=zs:=by
 apply Au
 ·simp [Tryz.upto]
 ·intro i h1 h2;simp [Tryz.upto,h2]
def Tryz.values1_in (F:Fence) (n:Nat) (h7:F.fn 53) (a4:F.round=none) (hn:1≤n) (l Bs oB b off len cap:Nat) (zs:List Int) (a1:len*8≤140737488351232) (J:List Int→Wo→Prop)
  (hY:∀pre x W,J pre W→pre.length<len→YieldAt F (n-1) Tryz.prog l #[.int .i64 x] W fun e W'=>
    e= .returned (.bool true)∧J (pre++ [x]) W'∧KeepsWalks W W')
  (W:Wo) (ad:Option Addr) (ha:len=0∨ad=some ⟨b,off,none⟩) (b0:W.cell? ⟨Bs,oB,none⟩=some (.slice ad len cap)) (hc:∀pre W,J pre W→∀j,j<len→W.cell? ⟨b,off+j,none⟩=some (.int .i64 (zs[j]?.getD 0))) (h0:J [] W):
  CallsIn F n Tryz.prog 53 #[.func (.yield l) #[] #[],.pointer (some ⟨Bs,oB,none⟩)] W fun e W'=>(∃v,e= .returned v)∧
    J (Tryz.upto (fun j=>zs[j]?.getD 0) len) W':=by
 refine callsIn_of_wp Tryz.func53 rfl h7 ?_ a4;simp only [Tryz.ntmps53,GN,jD,pN,Nat.reduceAdd,Nat.reduceSub,HI,HH,GO,HB,lG,mF]
 gi_wp2
 gi_loopw [7] (fun i wr=>∃k:Nat,k≤len∧i= .int .i64 k∧J (Tryz.upto (fun j=>zs[j]?.getD 0) k) wr)
  (fun i _=>len-(Go.RowKit.intOf i).toNat)
 case atStart=>exact⟨0,cJ _,rfl,h0⟩
 case round=>
  obtain⟨k,hk,rfl,hJs⟩:=hrel;have c1:=hc _ _ hJs
  by_cases b5:k<len
  · obtain⟨fn,tmps,assign,body,hy,hR⟩:=hY _ (zs[k]?.getD 0) wr hJs (by rw [Tryz.upto_length];exact b5);have c2:=c1 k b5;obtain rfl:ad=some ⟨b,off,none⟩:=by rcases ha with ha|ha<;>first|exact ha|omega
    gi_wp2
    refine hR.mono ?_;rintro e W3 ⟨rfl,hJ3,hk3⟩
    gi_wp2
    go_roundw
    case rel=>exact⟨k+1,by omega,by simp,by rw [Tryz.upto_succ];exact hJ3⟩
    case measure=>simp [Go.RowKit.intOf];omega
  · obtain rfl:k=len:=by omega
    gi_wp2
    go_end0
    exact⟨⟨_,rfl⟩,hJs⟩
section
variable {P:Program} {ρ:Ren}
def AnyZI.appendSeqAt_in (L:SlLaysZI.n11 P ρ) (F:Fence) (n:Nat) (b7:F.fn (ρ.f 11)) (a4:F.round=none) (hn:2≤n) (g:Nat) (lb:Array Value) (b8:F.fn g) (eg:∀args w,(callFunc g args).run P w= .ok (.enter g args) w)
  (S:List Int→Prop) (N:Nat) (hN:N≤maxLen) (b9:N*8≤140737488355328) (w:Wo)
  (a8:∀(l fn D:Nat) (W:Wo),(∀pre x W1,AnyZI.ApAt ρ w fn (.func (.func g) #[] lb) w.heap.size l D pre W1→pre.length<N→YieldAt F (n-1-1) P l #[encZ x] W1 fun e W'=>e= .returned (.bool true)∧AnyZI.ApAt ρ w fn (.func (.func g) #[] lb) w.heap.size l D (pre++ [x]) W'∧KeepsWalks W1 W')→
    AnyZI.ApAt ρ w fn (.func (.func g) #[] lb) w.heap.size l D [] W→
    CallsIn F (n-1) P g (#[.func (.yield l) #[] #[]]++lb) W fun e W'=>(∃v,e= .returned v)∧∃xs,S xs∧AnyZI.ApAt ρ w fn (.func (.func g) #[] lb) w.heap.size l D xs W'):
  CallsIn F n P (ρ.f 11) #[.slice none 0 0,.func (.func g) #[] lb] w fun e w'=>∃(v:Value) (ss:List Int),e= .returned v∧S ss∧w'.ownsRow w.heap.size (ρ.t 26) 1 v ss.length (ss.map encZ)∧(v= .slice none 0 0↔ss= [])∧Bz w w':=by
 have h1:1≤n:=by omega
 have mixed:=L.mixed;have t0:=L.t0;have a0:=L.a0;have z0:=L.z0;have v0:=L.v0;have t24:=L.t24;have a24:=L.a24;have z24:=L.z24;have v24:=L.v24;have t26:=L.t26;have a26:=L.a26;have z26:=L.z26;have v26:=L.v26;have t28:=L.t28;have a28:=L.a28;have z28:=L.z28;have v28:=L.v28;have b6:ρ.t 24≠ρ.t 26:=fun e=>by have h:=L.t24;rw [e,L.t26] at h;cases h
 have u0:=iN L.t0;have d2:=iN L.t24;have d3:=iN L.t26;have d4:=iN L.t28;obtain⟨_,_,FG⟩:=L.f11;refine ZK FG rfl b7 ?_ a4;simp only [SlBodyZ.n11_ntmps ρ,GN,jD,pN,Nat.reduceAdd,Nat.reduceSub,HI,HH,GO,HB,lG,mF]
 gi_wp2
 refine wpIn_rangeFunc ?_;intro fn c3;rw [a4];obtain⟨W0,hW0⟩:=enm (w.alloc (.cells #[.slice none 0 0] (ρ.t 24)));have c5:W0.heap.size=w.heap.size+1:=by rw [←hW0];simp
 have c7:W0.heap[w.heap.size]?=some (.cells #[.slice none 0 0] (ρ.t 24) (0,0)):=by rw [←hW0];exact GE w _
 have a5:Bz w W0:=by rw [←hW0];exact(aK _ w).alloc (aA _) _
 rw [hW0];obtain⟨W1,hW1⟩:=enm ((W0.alloc (.deferred (some []))).alloc (.loop (AnyZI.apRec ρ fn (.func (.func g) #[] lb) w.heap.size W0.heap.size .ready none)));have a7:∀k,k<W0.heap.size→W1.heap[k]?=W0.heap[k]?:=fun k hk=>by
  rw [←hW1];exact(Bf _ _ k (by simp;omega)).trans (Bf _ _ k hk)
 have c0:Bz w W1:=by rw [←hW1];exact(a5.alloc a5.size _).alloc (by have:=a5.size;simp;omega) _
 have d0:W1.heap.size=W0.heap.size+2:=by rw [←hW1];simp
 have hM:AnyZI.ApAt ρ w fn (.func (.func g) #[] lb) w.heap.size (W0.heap.size+1) W0.heap.size [] W1:=
  ⟨⟨_,(a7 w.heap.size (by omega)).trans c7,⟨rfl,.inl ⟨rfl,rfl⟩⟩,by simp⟩,
   by rw [←hW1];have:=GE (W0.alloc (.deferred (some []))) (.loop (AnyZI.apRec ρ fn (.func (.func g) #[] lb) w.heap.size W0.heap.size .ready none));rwa [eX] at this,
   by rw [←hW1];exact(Bf _ _ _ (by simp)).trans (GE W0 _),c0⟩
 refine⟨W0.heap.size+1,[{ target:=.collected W0.heap.size,args:=#[] }],W1,{ target:=.fn (.func g) lb,args:=#[.func (.yield (W0.heap.size+1)) #[] #[]] },W1,g,
  #[.func (.yield (W0.heap.size+1)) #[] #[]]++lb,W1,?_,?_,?_,?_,fun _=>h1,?_⟩
 ·rw [←hW1];exact run_enterLoop_outer _ _ _ _ _
 ·simp [resolve,go_sem]
 ·intro f' b3;simp [Target.leads] at b3;subst b3;exact b8
 ·simp [invoke,go_sem,eg]
 ·refine(a8 (W0.heap.size+1) fn W0.heap.size W1
    (fun pre x W hJ hl=>AnyZI.apYield { L with } F (n-1-1) w fn c3 _ w.heap.size (W0.heap.size+1) W0.heap.size (by omega) (by omega) (by omega) (aA _) (by omega) N hN b9 pre x W hJ hl) hM).mono ?_
  rintro e W2 ⟨⟨v0,rfl⟩,ss,hS,h2⟩;obtain⟨v,hv,hrow,hnil⟩:=h2.box;have a3:=run_endLoop (P:=P) h2.L (by simp [AnyZI.apRec]);obtain⟨W3,hW3⟩:=enm (W2.putObj (W0.heap.size+1) (.loop { AnyZI.apRec ρ fn (.func (.func g) #[] lb) w.heap.size W0.heap.size .ready none with state:=.exhausted }));rw [hW3] at a3;have b4:W2.grownBy W3 (some (W0.heap.size+1)):=by rw [←hW3];exact grownBy_putObj_a _ _ _
  have c8:W3.heap[w.heap.size]?=some (.cells #[v] (ρ.t 24) (0,0)):=by rw [←hW3];exact(Qm (by omega)).trans hv
  have b1:W3.heap[W0.heap.size]?=some (.deferred (some [])):=by rw [←hW3];exact(Qm (by omega)).trans h2.K
  have a2:=hrow.kept b4 (ownsRow_ne_a hrow h2.L (fun cur e=>by first|cases e|exact b6 (Obj.cells.inj e).2.1));have b2:Bz w W3:=h2.below.grown b4 h2.below.size (fun k e=>by cases e;omega);obtain⟨c9,hf3⟩:=cell_of_box_a c8;clear hW3;refine⟨none,W3,a3,?_⟩
  gi_wp2
  rw [←c5];refine⟨by simp,.inl ⟨_,_,rfl,FZ b1,?_⟩⟩;exact⟨_,results_tmp rfl _ _ _,v,ss,rfl,hS,a2.kept (grownBy_putObj_a _ _ _) (ownsRow_ne_a a2 b1 (fun cur e=>by first|cases e|exact b6 (Obj.cells.inj e).2.1)),hnil,b2.grown (grownBy_putObj_a _ _ _) b2.size (fun k e=>by cases e;omega)⟩
end
def Tryz.apL_ren:Go.Shelf.Ren:=⟨fun|11=>83|n=>n,fun|24=>40|26=>3|28=>54|0=>0|33=>86|4=>4|n=>n,fun|n=>n⟩
def Tryz.apL:Go.Proofs.SlLaysZI.n11 Tryz.prog Tryz.apL_ren:={
 mixed:=by kernel_rfl
 f11:=⟨Tryz.f83.name,by decide,Tryz.func83.trans (cI some (by kernel_rfl))⟩
 t0:=Tryz.underlying0
 a0:=Tryz.isAgg0
 z0:=Tryz.sizeOf0
 v0:=Tryz.zeroValue0
 t24:=Tryz.underlying40
 a24:=Tryz.isAgg40
 z24:=Tryz.sizeOf40
 v24:=Tryz.zeroValue40
 t26:=Tryz.underlying3
 a26:=Tryz.isAgg3
 z26:=Tryz.sizeOf3
 v26:=Tryz.zeroValue3
 t28:=Tryz.underlying54
 a28:=Tryz.isAgg54
 z28:=Tryz.sizeOf54
 v28:=Tryz.zeroValue54
 i26:=by kernel_rfl }
def Tryz.e53:∀args w,(callFunc 53 args).run Tryz.prog w= .ok (.enter 53 args) w:=enters_of Tryz.func53 (by kernel_rfl) rfl
def Tryz.appendValues (w:Wo) (Bs b off len cap:Nat) (ad:Option Addr) (zs:List Int) (a6:zs.length=len) (ha:len=0∨ad=some ⟨b,off,none⟩) (a1:len*8≤140737488351232) (hB:Bs<w.heap.size) (hb:len=0∨b<w.heap.size)
  (b0:w.cell? ⟨Bs,0,none⟩=some (.slice ad len cap)) (hc:∀j,j<len→w.cell? ⟨b,off+j,none⟩=some (.int .i64 (zs[j]?.getD 0))):
  Cz 83 #[.slice none 0 0,.func (.func 53) #[] #[.pointer (some ⟨Bs,0,none⟩)]] w fun e w'=>∃v:Value,e= .returned v∧w'.ownsRow w.heap.size 3 1 v zs.length (zs.map encZ)∧(v= .slice none 0 0↔zs= [])∧Bz w w':=by
 subst a6;have a9:=AnyZI.appendSeqAt_in Tryz.apL Fence.wide 3 trivial rfl (by decide) 53 #[.pointer (some ⟨Bs,0,none⟩)] trivial Tryz.e53 (fun ss=>ss=zs) zs.length (by unfold maxLen;omega) (by omega) w ?_
 ·refine(sZ.1 a9).mono ?_;rintro e w' ⟨v,ss,rfl,rfl,h1,h2,h3⟩;exact⟨v,rfl,h1,h2,h3⟩
 ·intro l fn D W hY h0;refine(Tryz.values1_in Fence.wide (3-1) trivial rfl (by decide) l Bs 0 b off zs.length cap zs a1 (AnyZI.ApAt Tryz.apL_ren w fn (.func (.func 53) #[] #[.pointer (some ⟨Bs,0,none⟩)]) w.heap.size l D) hY W ad ha ?_ ?_ h0).mono ?_
  · exact(h0.below.cell (p:=⟨Bs,0,none⟩) hB).trans b0
  · intro pre W' hJ j hj;exact(hJ.below.cell (p:=⟨b,off+j,none⟩) (by rcases hb with hb|hb<;>first|exact hb|omega)).trans (hc j hj)
  · rintro e W' ⟨h1,h2⟩;exact⟨h1,zs,rfl,by rw [Tryz.upto_all] at h2;exact h2⟩
end Go.Proofs
namespace Go.Proofs.YtealgacfnbbgdaaGreatDoor
open Go.RowKit Go.Maps Go.Sort Go.Shelf Go.RowsK
def Bo (a:Option Addr) (len cap:Nat) (w:Wo):Cz 24 #[.slice a len cap] w fun e w'=>e= .returned (.func (.func 53) #[] #[.pointer (some ⟨w.heap.size,0,none⟩)])∧w'=w.alloc (.cells #[.slice a len cap] 40):=by
 go_enter Tryz.func24,Tryz.ntmps24;go_wp2
 go_ret
 exact⟨rfl,rfl⟩
def PH (zs:List Int):(zs.mergeSort fun x y=>decide (x≤y)).length=zs.length:=Ro _
def PI (base:Nat) (v:Value) (zs:List Int) (w:Wo) (h:eL base w v zs) (d1:zs.length≤1000000):
  Cz 52 #[v] w fun e w'=>e= .returned (.tuple #[])∧eL base w' v (zs.mergeSort fun x y=>decide (x≤y))∧Below base w w':=by
 unfold eL at h ⊢;rcases h.2 with⟨rfl,hz⟩|⟨g,cap,cur,rfl,hbase,hg,r1,r2,r3,r4⟩
 ·have c6:zs= []:=mE hz;subst c6;refine(Any.slices_Sort_int_none Tryz.lays189 none 0 w).mono ?_;rintro e w' ⟨rfl,rfl⟩;exact⟨rfl,by rw [List.mergeSort_nil];exact h,aK _ _⟩
 ·have hH:Holds (Value.int .i64) w g 0 zs.toArray:=holds_of_block_i hg (by simpa using r4);have c4:g<w.heap.size:=(cV.1 hg).1;refine(Any.slices_Sort_int Tryz.lays189 g 0 cap zs w hH c4 (by omega)).mono ?_;rintro e w' ⟨rfl,n,os,rfl⟩;refine⟨rfl,?_,(aK base w).grown (grownBy_sorted_i _) (by omega) (fun j hj=>by cases hj;exact hbase)⟩;rw [PH];exact ownsRow_sorted_i (PH zs) hbase hg r1 r2 r3
end Go.Proofs.YtealgacfnbbgdaaGreatDoor
namespace Go.Proofs.YtealgacfnbbgdaaGreatDoor
open Go.RowKit Go.Big Go.RowsK Go.MapK
variable {f f':Int→Nat} {w w':Wo} {S:Nat→Prop} {LL:List (List Tm)} {a:Option Addr} {g n base c g0 m G l x:Nat} {L:List Tm} {v:Value}
def ReadN (w:Wo) (v:Value) (L:List Int):Prop:=∃a len cap,v= .slice a len cap∧L.length=len∧(len=0∨∃b,a=some ⟨b,0,none⟩∧b<w.heap.size∧∀j,j<len→w.cell? ⟨b,0+j,none⟩=some (.int .i64 (L[j]?.getD 0)))
def eL.read {L:List Int} (h:eL base w v L):ReadN w v L:=by
 obtain⟨a,cap,rfl,h1⟩:=gZ h;refine⟨a,_,cap,rfl,rfl,?_⟩;rcases h1 with h1|⟨g,rfl,hb,hl,hc⟩
 ·exact .inl h1
 ·refine .inr ⟨g,rfl,hl,fun j hj=>?_⟩;rw [dH];refine hc j _ ?_;rw [jO,cE hj];simp
def Dt (v:Value) (L:List Int) (w:Wo) (h:ReadN w v L) (a1:L.length≤1000000):
  Cz 23 #[.func (.func 53) #[] #[.pointer (some ⟨w.heap.size,0,none⟩)]] (w.alloc (.cells #[v] 40)) fun e w'=>∃u,e= .returned u∧eL (w.heap.size+1) w' u (L.mergeSort fun x y=>decide (x≤y))∧Below (w.heap.size+1) (w.alloc (.cells #[v] 40)) w':=by
 obtain⟨a,len,cap,rfl,hl,hc⟩:=h;have d1:Cz 83 #[.slice none 0 0,.func (.func 53) #[] #[.pointer (some ⟨w.heap.size,0,none⟩)]] (w.alloc (.cells #[.slice a len cap] 40)) fun e w'=>∃v:Value,e= .returned v∧eL (w.heap.size+1) w' v L∧Below (w.heap.size+1) (w.alloc (.cells #[.slice a len cap] 40)) w':=by
  have a3:=aC w (.cells #[.slice a len cap] 40);have hq:(w.alloc (.cells #[.slice a len cap] 40)).cell? ⟨w.heap.size,0,none⟩=some (.slice a len cap):=(oF w _ 40).1;have a2:∀b off,(len=0∨a=some ⟨b,off,none⟩)→(len=0∨b<(w.alloc (.cells #[.slice a len cap] 40)).heap.size)→(∀j,j<len→(w.alloc (.cells #[.slice a len cap] 40)).cell? ⟨b,off+j,none⟩=some (.int .i64 (L[j]?.getD 0)))→_:=
   fun b off ha hb a0=>Tryz.appendValues (w.alloc (.cells #[.slice a len cap] 40)) w.heap.size b off len cap a L hl ha (by omega) (by simp) hb hq a0
  have key:∀b off,(len=0∨a=some ⟨b,off,none⟩)→(len=0∨b<(w.alloc (.cells #[.slice a len cap] 40)).heap.size)→(∀j,j<len→(w.alloc (.cells #[.slice a len cap] 40)).cell? ⟨b,off+j,none⟩=some (.int .i64 (L[j]?.getD 0)))→Cz 83 #[.slice none 0 0,.func (.func 53) #[] #[.pointer (some ⟨w.heap.size,0,none⟩)]] (w.alloc (.cells #[.slice a len cap] 40)) fun e w'=>∃v:Value,e= .returned v∧eL (w.heap.size+1) w' v L∧Below (w.heap.size+1) (w.alloc (.cells #[.slice a len cap] 40)) w':=fun b off ha hb a0=>(a2 b off ha hb a0).mono (by
   rintro e w' ⟨v,rfl,h1,_,h2⟩;rw [eX] at h1;exact⟨v,rfl,h1,h2.mono (by rw [eX];exact Nat.le_refl _)⟩)
  rcases hc with h0|⟨b,rfl,hb,hc⟩
  ·exact key 0 0 (.inl h0) (.inl h0) (fun j hj=>by omega)
  ·exact key b 0 (.inr rfl) (.inr (by simp;omega)) (fun j hj=>(a3.cell (p:=⟨b,0+j,none⟩) hb).trans (hc j hj))
 have d2:Cz 51 #[.func (.func 53) #[] #[.pointer (some ⟨w.heap.size,0,none⟩)]] (w.alloc (.cells #[.slice a len cap] 40)) fun e w'=>∃v:Value,e= .returned v∧eL (w.heap.size+1) w' v L∧Below (w.heap.size+1) (w.alloc (.cells #[.slice a len cap] 40)) w':=by
  generalize w.alloc (.cells #[.slice a len cap] 40)=wa at d1 ⊢;go_enter Tryz.func51,Tryz.ntmps51
  go_wp2_with (go_at_call 83;(with_reducible refine d1.mono ?_);rintro e w2 ⟨v,rfl,h1,h2⟩)
  go_ret
  exact⟨v,rfl,h1,h2⟩
 clear d1 hc;generalize w.alloc (.cells #[.slice a len cap] 40)=wa at d2 ⊢;have d3:Aside (∀v w2,eL (w.heap.size+1) w2 v L→Cz 52 #[v] w2 fun e w'=>e= .returned (.tuple #[])∧eL (w.heap.size+1) w' v (L.mergeSort fun x y=>decide (x≤y))∧Below (w.heap.size+1) w2 w'):=fun v w2 h=>PI _ v L w2 h a1
 go_enter Tryz.func23,Tryz.ntmps23
 go_wp2_with first
  |(go_at_call 51;(with_reducible refine d2.mono ?_);rintro e w2 ⟨v,rfl,h1,h2⟩)
  |(go_at_call 52;(with_reducible refine(d3.o _ _ h1).mono ?_);rintro e w3 ⟨rfl,h3,h4⟩)
 go_ret
 exact⟨v,rfl,h3,h2.trans h4⟩
def Ki (base:Nat) (v:Value) (L:List Int) (w:Wo) (h:eL base w v L) (a1:L.length≤1000000):
  Cz 28 #[v] w fun e w'=>e= .returned (.tuple #[])∧eL base w' v (L.mergeSort fun x y=>decide (x≤y))∧Below base w w':=by
 have d1:=PI base v L w h a1;go_enter Tryz.func28,Tryz.ntmps28
 go_wp2_with (go_at_call 52;(with_reducible refine d1.mono ?_);rintro e w2 ⟨rfl,h1,h2⟩)
 go_end0
 exact⟨rfl,h1,h2⟩
def gJ (w:Wo) (g n:Nat) (f:Int→Nat):Prop:=∃C,w.heap[g]?=some (.cells C 3 (0,0))∧C.size=n∧∀v:Nat,v<n→C[v]?=some (.int .i64 (f v:Nat))
def gJ.of_block (h:gJ w g n f) (e:w'.heap[g]?=w.heap[g]?):gJ w' g n f:=by
 obtain⟨C,h1,h2⟩:=h;exact⟨C,e.trans h1,h2⟩
def gJ.lt (h:gJ w g n f):g<w.heap.size:=by
 obtain⟨C,h1,_⟩:=h;exact(cV.1 h1).1
def gJ.cong (h:gJ w g n f) (e:∀v:Nat,v<n→f v=f' v):gJ w g n f':=by
 obtain⟨C,h1,h2,h3⟩:=h;exact⟨C,h1,h2,fun v hv=>by rw [h3 v hv,e v hv]⟩
def gJ.cell (h:gJ w g n f) {v:Nat} (hv:v<n):w.cell? ⟨g,v,none⟩=some (.int .i64 (f v:Nat))∧w.frozen? ⟨g,v,none⟩=false:=by
 obtain⟨C,h1,h2,h3⟩:=h;constructor
 ·simp only [World.cell?,h1];exact h3 v hv
 ·simp [World.frozen?,h1]
def gJ.put (h:gJ w g n f) {x:Nat} (hx:x<n) (k:Nat):gJ (w.setCell ⟨g,x,none⟩ (.int .i64 (k:Nat))) g n (fun v=>if v=x then k else f v):=by
 obtain⟨C,h1,h2,h3⟩:=h;refine⟨C.setIfInBounds x (.int .i64 (k:Nat)),?_,by simp [h2],fun v hv=>?_⟩
 ·simp [World.setCell,rW,h1]
 ·rw [qG]
  by_cases e:x=v
  ·subst e;rw [if_pos rfl,if_pos (by rw [h2];exact hx)];simp
  ·rw [if_neg e,h3 v hv];show _=some (Value.int IntKind.i64 ((if(v:Int)=(x:Int) then k else f v:Nat):Int));rw [if_neg (fun e2=>e (by omega))]
def bL.set (v:Value):bL (· =g) w (w.setCell ⟨g,x,none⟩ v):=by
 have hb:=(aK 0 w).setCell (p:=⟨g,x,none⟩) (cJ _) v;exact⟨hb.os,hb.tape,hb.output,hb.size,fun k _ a1=>iQ w ⟨g,x,none⟩ v k a1⟩
def mkCnt (n:Nat) (hb:n≤1000000) (w:Wo):∃w',(Instr.makeSlice 40 (.int .i64 n) (.int .i64 n)).run Tryz.prog w= .ok (.slice (some ⟨w.heap.size,0,none⟩) n n) w'∧gJ w' w.heap.size n (fun _=>0)∧Bz w w':=by
 obtain⟨i0,hi,hz0,hz1,hz2⟩:=pI (show(Tryz.prog.info? 3).map (fun i=>(i.zero,i.size,i.bytes))=some (some (.int .i64 0),1,8) by kernel_rfl);have hr:=GC (P:=Tryz.prog) w 40 3 i0 (.int .i64 0) Tryz.underlying40 hi hz0 .i64 .i64 n n (by omega) (Bb _) (by rw [hz2];omega) (by omega);refine⟨_,by simpa using hr,⟨_,bY w _,by rw [size_madeCells,hz1];simp,fun v hv=>?_⟩,aC w _⟩;simp [madeCells,Value.cells,hz1,hv,CE]
def RwV (g0:Nat) (w:Wo) (G:Nat) (LL:List (List Tm)):Prop:=
 (G≠g0∧G<w.heap.size)∧∀(i:Nat) L,LL[i]?=some L→∃a c,w.cell? ⟨G,i,none⟩=some (.slice a L.length c)∧eW (fun b=>b≠g0∧b<w.heap.size) w L a 0∧dN (fun b=>b≠g0∧b<w.heap.size) (g0+1) w (.slice a L.length c) L
def RwV.keep (h:RwV g0 w G LL) (hk:bL (· =g0) w w'):RwV g0 w' G LL:=by
 refine⟨⟨h.1.1,eE h.1.2 hk.size⟩,fun i L hL=>?_⟩;obtain⟨a,c,h1,h2,h3⟩:=h.2 i L hL;refine⟨a,c,?_,?_,?_⟩
 ·rw [←h1];exact BU (w:=w) (hk.block G h.1.2 h.1.1)
 rotate_left
 ·refine dN.mono (dN.keep h3 (fun k a0=>hk.block k a0.2 a0.1) (fun g hg=>hk.block g (h3.lt g hg).2 ?_)) (fun k a0=>⟨a0.1,eE a0.2 hk.size⟩);have:=(h3.lt g hg).1;omega
 ·exact eW.mono (fun k a0=>⟨a0.1,eE a0.2 hk.size⟩) _ _ _ (eW.keep (fun k a0=>hk.block k a0.2 a0.1) _ _ _ h2)
def RwV.of {X:Lv} (hn:n≤g0) (hg:g0<w.heap.size) (h1:w'.ownsRow w.heap.size 25 1 (.slice a l c) LL.length X) (h2:Rws S w.heap.size w' X LL)
  (h3:∀b,S b→(b<n∨w.heap.size≤b)∧b<w'.heap.size) (hL:0<LL.length):∃G,a=some ⟨G,0,none⟩∧w.heap.size≤G∧RwV g0 w' G LL:=by
 obtain⟨a',cap,e,hh⟩:=gZ h1;injection e with e1 e2 e3
 subst e1;rcases hh with hh|⟨G,rfl,hb,hlt,hc⟩
 ·omega
 ·refine⟨G,rfl,hb,⟨by omega,hlt⟩,fun i L hL=>?_⟩;have hi:i<X.length:=by rw [h2.1];exact(aZ.1 hL).1
  obtain⟨u,hu⟩:∃u,X[i]?=some u:=⟨_,cE hi⟩;have hr:=h2.2.1 i u L hu hL;obtain⟨ai,ci,rfl⟩:=hr.form;have a2:dN (fun b=>b≠g0∧b<w'.heap.size) (g0+1) w' (.slice ai L.length ci) L:=by
   obtain⟨Xr,q1,q2⟩:=dN.mono hr (S':=fun b=>b≠g0∧b<w'.heap.size) (fun b hb=>⟨by have:=(h3 b hb).1;omega,(h3 b hb).2⟩);exact⟨Xr,nW q1 (by omega),q2⟩
  refine⟨ai,ci,hc i _ hu,?_,a2⟩;refine hr.tms (fun b hb=>⟨?_,(h3 b hb).2⟩) (fun g hg=>⟨?_,(hr.lt g hg).2⟩)
  ·have:=(h3 b hb).1;omega
  ·have:=(hr.lt g hg).1;omega
def TmS.one {T:Tm} {vs:Lv} (h:TmS S w T vs):∀u∈vs,u.oneCell'=true:=by
 obtain⟨k,v,nm,g,num,den,args⟩:=T;simp only [TmS] at h;obtain⟨_,_,_,_,a,c,rfl,_⟩:=h;intro u hu;simp only [cN,NW,BQ] at hu;rcases hu with rfl|rfl|rfl|rfl|rfl|rfl|rfl<;>rfl
def dN.src (h:dN S base w v L):
  ∃X,X.length=L.length*7∧w.ownsRow base 27 7 v L.length X∧(∀u∈X,u.oneCell'=true)∧∀(k:Nat) T,L[k]?=some T→∃vs,vs.length=7∧(∀(m:Nat) u,vs[m]?=some u→X[k*7+m]?=some u)∧TmS S w T vs:=by
 obtain⟨X,h1,h2⟩:=h;refine⟨X,h1.1,h1,fun u hu=>?_,h2⟩;obtain⟨j,hj⟩:=mQ.1 hu;have a3:j<L.length*7:=by have:=(aZ.1 hj).1;rw [h1.1] at this;exact this
 obtain⟨T,hT⟩:∃T,L[j/7]?=some T:=⟨_,cE (by omega)⟩;obtain⟨vs,hl,hv,ht⟩:=h2 (j/7) T hT;obtain⟨z,hz⟩:∃z,vs[j%7]?=some z:=⟨_,cE (by omega)⟩;have:=hv (j%7) z hz;rw [show j/7*7+j%7=j by omega,hj] at this;obtain rfl:=bP this;exact TmS.one ht u (bV hz)
def compV {s:ByteArray} (h:eV m w L a 0) (hL:L.length≤1048576):TmV m w (.mk 5 0 s false [] [] L) [.int .i64 5,.int .i64 0,.string s,.bool false,.slice none 0 0,.slice none 0 0,.slice a L.length c]:=by
 simp only [TmV];exact⟨.slice none 0 0,.slice none 0 0,a,c,rfl,⟨⟨none,0,rfl,⟨by simp,fun h=>absurd rfl h⟩⟩,⟨none,0,rfl,⟨by simp,fun h=>absurd rfl h⟩⟩⟩,h,hL,by decide,by decide⟩
def WO (s:ByteArray) (L:List Tm):Tm.free (.mk 5 0 s false [] [] L)=iG L:=by simp [Tm.free,Tm.fr,iG]
def WN (s:ByteArray) (L:List Tm):Tm.nodes (.mk 5 0 s false [] [] L)=1+Tm.nodesL L:=by simp [Tm.nodes]
def xK:∀L:List Tm,L.length≤Tm.nodesL L
 | []=>by simp [Tm.nodesL]
 | .mk k v nm g num den args::r=>by
  have:=xK r;simp only [Tm.nodesL,Tm.nodes,jD];omega
def XC (cal:Tm→Bool) (h:Tm) (G:List Tm):0<(eS cal h G).length:=by
 obtain⟨j1,j2,j3,j4,j5⟩:=PB cal h G;unfold eS;split
 ·rename_i h0;refine GU.2 fun e=>?_
  have:=j4 e;rw [h0] at this;cases this
 ·simp
def PmP (w:Wo) (F:Int) (L:List Int) (e:Ending) (w':Wo):Prop:=Bz w w'∧∃v,e= .returned (.tuple #[v,.int .i64 F])∧(F≠0→v= .slice none 0 0)∧(F=0→eL w.heap.size w' v L)
section
attribute [local go_sem] Heavy.uponW
def Hr (bi:ByteArray→Int→Bool) (C:Cl) (n:Nat) (w:Wo) (vs:Lv) (h:ClV n w C vs) (hn:n≤w.heap.size) (d8:BiOk 79 bi w):
  Cz 9 #[.agg vs.toArray] w (PmP w (dK C) (sF bi C)):=by
 have dc:=fun w2 (hb:Bz w w2)=>MD C n w2 vs (h.below hb hn) (aE hn hb.size)
 have dk:Aside (dK C=0→∀w2,Bz w w2→Cz 18 #[.agg vs.toArray] w2 (ChP n w2 (eS (Tm.cal bi) C.h C.b.gls))):=fun hf w2 (hb:Bz w w2)=>RU bi C n w2 vs (h.below hb hn) (aE hn hb.size) (d8.mono hb) (rG hf) (FK hf)
 obtain⟨vh,vb,rfl,hH,hB⟩:=h;have TA:=aside3 hB hn hH;have nL:Aside (dK C=0→(eS (Tm.cal bi) C.h C.b.gls).length≤1000001):=fun hf=>FJ C.b (rG hf)
 have rA:Aside (dK C=0→∀(i:Nat) L,(eS (Tm.cal bi) C.h C.b.gls)[i]?=some L→0<L.length∧Tm.nodesL L≤20000∧(i=0→L[0]?=some C.h)∧∀x∈iG L,0≤x∧x<C.vars):=fun hf i L hL=>JE hf hL
 have lA:Aside (0<(eS (Tm.cal bi) C.h C.b.gls).length):=XC _ _ _;have vA:Aside (dK C=0→0≤C.vars∧C.vars≤20000∧C.b.nodes≤1000000):=fun hf=>⟨(zR hf).1,(zR hf).2,rG hf⟩
 have pA:Aside (sF bi C=if C.b.pl then vM C.vars.toNat (eS (Tm.cal bi) C.h C.b.gls) else C.b.free.mergeSort fun x y=>decide (x≤y)):=rfl;obtain⟨PF,hPF⟩:∃p,sF bi C=p:=⟨_,rfl⟩;rw [hPF] at pA ⊢;obtain⟨kx,vx,nmx,gx,px,nx,qx,rx,mx,ux,ax,lx,cx,rfl⟩:=TmV.seven hH;obtain⟨ky,vy,nmy,gy,py,ny,qy,ry,my,uy,ay,ly,cy,rfl⟩:=TmV.seven hB;obtain⟨vars,hvars⟩:∃v,C.vars=v:=⟨_,rfl⟩;rw [hvars] at dc dk rA vA pA ⊢;obtain⟨F,hF⟩:∃f,dK C=f:=⟨_,rfl⟩;rw [hF] at dc dk nL rA vA ⊢;obtain⟨pl,hpl⟩:∃f,C.b.pl=f:=⟨_,rfl⟩;rw [hpl] at pA;obtain⟨LL,hLL⟩:∃f,eS (Tm.cal bi) C.h C.b.gls=f:=⟨_,rfl⟩;rw [hLL] at dk nL rA pA lA;have b0:=aC w (Obj.cells (tC kx vx nmx gx px nx qx rx mx ux ax lx cx ky vy nmy gy py ny qy ry my uy ay ly cy vars) 29);have hq:=bY w (Obj.cells (tC kx vx nmx gx px nx qx rx mx ux ax lx cx ky vy nmy gy py ny qy ry my uy ay ly cy vars) 29);obtain⟨wa,hwa⟩:∃x,w.alloc (Obj.cells (tC kx vx nmx gx px nx qx rx mx ux ax lx cx ky vy nmy gy py ny qy ry my uy ay ly cy vars) 29)=x:=⟨_,rfl⟩;have e5:wa.heap.size=w.heap.size+1:=by rw [←hwa];simp
 rw [hwa] at b0 hq;have b7:=aside2 b0 e5;have fa:Aside (∀w2,Bz wa w2→_):=fun(w2:Wo) (hb:Bz wa w2)=>jK ((hb.block w.heap.size (by omega)).trans hq)
 have d1:=dc wa b0;replace d1:Cz 13 #[.agg (tC kx vx nmx gx px nx qx rx mx ux ax lx cx ky vy nmy gy py ny qy ry my uy ay ly cy vars)] wa _:=d1;have d2:Aside (∀w2,Bz w w2→Cz 17 #[.agg (tA ky vy nmy gy py ny qy ry my uy ay ly cy)] w2 fun e w'=>e= .returned (.bool pl)∧Bz w2 w'):=by
  show∀w2,_;intro w2 hb;rw [←hpl];exact IY C.b n w2 _ (TmV.below hb TA.o.2.1 _ _ TA.o.1) (aE TA.o.2.1 hb.size)
 replace dk:Aside (F=0→∀w2,Bz w w2→Cz 18 #[.agg (tC kx vx nmx gx px nx qx rx mx ux ax lx cx ky vy nmy gy py ny qy ry my uy ay ly cy vars)] w2 (ChP n w2 LL)):=dk;obtain⟨x0,x1,x2,x3,x4,x5,x6,x7,x8,x9,x10,x11,x12,x13,x14⟩:=jK hq;clear hH hB hvars hF b0 hq dc hn d8 hpl hLL hPF;show Cz 9 #[.agg (tC kx vx nmx gx px nx qx rx mx ux ax lx cx ky vy nmy gy py ny qy ry my uy ay ly cy vars)] w _;go_enter Tryz.func9,Tryz.ntmps9
 by_cases b3:F=0
 case neg=>
  have e1:(F==0)=false:=by simpa using b3
  have e2:(F !=0)=true:=by simpa using b3
  have FA:=aside b3;clear b3
  go_wp2_with (go_at_call 13;(with_reducible refine d1.mono ?_);rintro e w2 ⟨rfl,hb2⟩)
  go_ret2
  exact⟨b7.o.1.trans (hb2.mono b7.o.1.size),_,rfl,fun _=>rfl,fun h=>absurd h FA.o⟩
 subst b3;replace dk:Aside (∀w2,Bz w w2→Cz 18 #[.agg (tC kx vx nmx gx px nx qx rx mx ux ax lx cx ky vy nmy gy py ny qy ry my uy ay ly cy vars)] w2 (ChP n w2 LL)):=dk.o rfl;replace nL:Aside (LL.length≤1000001):=nL.o rfl;replace rA:Aside (∀(i:Nat) L,LL[i]?=some L→0<L.length∧Tm.nodesL L≤20000∧(i=0→L[0]?=some C.h)∧∀x∈iG L,0≤x∧x<vars):=rA.o rfl;replace vA:Aside (0≤vars∧vars≤20000∧C.b.nodes≤1000000):=vA.o rfl
 go_upto_region 4 with(go_at_call 13;(with_reducible refine d1.mono ?_);rintro e w2 ⟨rfl,hb2⟩)
 clear hwa e5 x0 x1 x2 x3 x4 x5 x6 x7 x8 x9 x10 x11 x12 x13 x14;obtain⟨x0,x1,x2,x3,x4,x5,x6,x7,x8,x9,x10,x11,x12,x13,x14⟩:=fa.o w2 hb2;have a0:Aside (Bz w w2∧Bz wa w2):=⟨b7.o.1.trans (hb2.mono b7.o.1.size),hb2⟩;clear hb2;cases pl
 case false=>
  have pE:Aside (PF=C.b.free.mergeSort fun x y=>decide (x≤y)):=pA.o;have df:Aside (∀w2,Bz w w2→Cz 25 #[.agg (tA ky vy nmy gy py ny qy ry my uy ay ly cy)] w2 (FreeP w2 C.b.free)):=fun w2 hb=>JD C.b n w2 _ (TmV.below hb TA.o.2.1 _ _ TA.o.1) (aE TA.o.2.1 hb.size) vA.o.2.2
  have fl:C.b.free.length≤1000000:=by have:=(AO C.b []).1;have:=vA.o.2.2;unfold Tm.free;simp at*;omega
  have dv:=Bo;have ds:Aside (∀v w2,ReadN w2 v C.b.free→Cz 23 #[.func (.func 53) #[] #[.pointer (some ⟨w2.heap.size,0,none⟩)]] (w2.alloc (.cells #[v] 40)) fun e w'=>∃u,e= .returned u∧eL (w2.heap.size+1) w' u (C.b.free.mergeSort fun x y=>decide (x≤y))∧Below (w2.heap.size+1) (w2.alloc (.cells #[v] 40)) w'):=fun v w2 h=>Dt v _ w2 h fl
  clear fl
  go_wp2_with first
   |(go_at_call 17;(with_reducible refine(d2.o _ a0.o.1).mono ?_);rintro e w3 ⟨rfl,hb3⟩;obtain⟨y0,y1,y2,y3,y4,y5,y6,y7,y8,y9,y10,y11,y12,y13,y14⟩:=fa.o w3 (a0.o.2.trans (hb3.mono a0.o.2.size));have a3:Aside (Bz w w3):=a0.o.1.trans (hb3.mono a0.o.1.size))
   |(go_at_call 25;(with_reducible refine(df.o _ a3.o).mono ?_);rintro e w4 ⟨v4,rfl,ho4,hb4⟩;have g2:Aside (ReadN w4 v4 C.b.free):=ho4.read;obtain⟨a4,c4,rfl,_⟩:=gZ ho4;have b8:Aside (Bz w w4):=a3.o.trans (hb4.mono a3.o.size))
   |(go_at_call 24;(with_reducible refine(dv _ _ _ _).mono ?_);rintro e w5 ⟨rfl,d4⟩;subst d4)
   |(go_at_call 23;(with_reducible refine(ds.o _ _ g2.o).mono ?_);rintro e w6 ⟨u6,rfl,ho6,hb6⟩)
  go_ret2
  have b5:=b8.o.alloc b8.o.size (.cells #[.slice a4 C.b.free.length c4] 40);exact⟨b5.trans (hb6.mono (by have:=b8.o.size;omega)),u6,rfl,fun h=>absurd rfl h,fun _=>by rw [pE.o];exact nW ho6 (by have:=b8.o.size;omega)⟩
 have pE:Aside (PF=vM vars.toNat LL):=pA.o;obtain⟨nv,hnv⟩:∃k:Nat,vars=(k:Int):=⟨vars.toNat,by have:=vA.o.1;omega⟩;subst hnv;have e7:Aside (nv≤20000):=by show _≤_;have:=vA.o.2.1;omega
 go_upto_region 6 with(go_at_call 17;(with_reducible refine(d2.o _ a0.o.1).mono ?_);rintro e w3 ⟨rfl,hb3⟩)
 clear x0 x1 x2 x3 x4 x5 x6 x7 x8 x9 x10 x11 x12 x13 x14;obtain⟨x0,x1,x2,x3,x4,x5,x6,x7,x8,x9,x10,x11,x12,x13,x14⟩:=fa.o w3 (a0.o.2.trans (hb3.mono a0.o.2.size));have a3:Aside (Bz w w3∧Bz wa w3):=⟨a0.o.1.trans (hb3.mono a0.o.1.size),a0.o.2.trans (hb3.mono a0.o.2.size)⟩;clear hb3;obtain⟨wm,mk,hC0,hbm⟩:=mkCnt nv (by have:=e7.o;omega) w3;have b2:Aside (gJ wm w3.heap.size nv (fun _=>0)):=hC0;have a8:Aside (Bz w wm∧Bz wa wm∧w3.heap.size<wm.heap.size):=⟨a3.o.1.trans (hbm.mono a3.o.1.size),a3.o.2.trans (hbm.mono a3.o.2.size),hC0.lt⟩;clear hC0 hbm
 go_upto_region 7 with fail
 clear mk x0 x1 x2 x3 x4 x5 x6 x7 x8 x9 x10 x11 x12 x13 x14;obtain⟨x0,x1,x2,x3,x4,x5,x6,x7,x8,x9,x10,x11,x12,x13,x14⟩:=fa.o wm a8.o.2.1;obtain⟨g0,hg0⟩:∃g,w3.heap.size=g:=⟨_,rfl⟩;rw [hg0] at b2 a8 ⊢;have d7:Aside (n≤g0∧w.heap.size≤g0):=⟨by have:=a3.o.1.size;have:=TA.o.2.1;omega,by have:=a3.o.1.size;omega⟩;clear hg0
 go_upto_region 8 with(go_at_call 18;(with_reducible refine(dk.o _ a8.o.1).mono ?_);rintro e w4 ⟨v4,X,S,rfl,h1,h2,h3,h4,hb4⟩;obtain⟨av,cv,rfl,_⟩:=gZ h1)
 obtain⟨G,rfl,hG⟩:∃G,av=some ⟨G,0,none⟩∧RwV g0 w4 G LL:=by
  obtain⟨G,e,_,hR⟩:=RwV.of d7.o.1 a8.o.2.2 h1 h2 h3 lA.o;exact⟨G,e,hR⟩
 have GA:Aside (RwV g0 w4 G LL∧Bz w w4∧gJ w4 g0 nv (fun _=>0)):=⟨hG,a8.o.1.trans (hb4.mono a8.o.1.size),b2.o.of_block (hb4.block g0 a8.o.2.2)⟩;obtain⟨lv,hlv⟩:∃l,LL.length=l:=⟨_,rfl⟩;have c0:Aside (LL.length=lv∧lv≤1000001):=⟨hlv,by rw [←hlv];exact nL.o⟩;have g8:lv≤1000001:=c0.o.2;rw [hlv];clear h1 h2 h3 h4 hb4 hG hlv x0 x1 x2 x3 x4 x5 x6 x7 x8 x9 x10 x11 x12 x13 x14 d1
 go_loopw [33] (fun s wr=>∃i:Nat,s= .int .i64 i∧i≤lv∧Bz w wr∧RwV g0 wr G LL∧gJ wr g0 nv (fun v=>gC (LL.take i) v)) (fun s _=>lv-(RowKit.intOf s).toNat)
 case atStart=>exact⟨0,rfl,cJ _,GA.o.2.1,GA.o.1,GA.o.2.2.cong fun v _=>by simp [gC]⟩
 case round=>
  clear GA;obtain⟨wo,rfl⟩:=enr wr;obtain⟨i,rfl,hi,hBo,hRo,hCo⟩:=hrel;have oA:=aside3 hBo hRo hCo;clear hBo hRo hCo
  by_cases f9:i<lv
  ·obtain⟨L,hL⟩:∃L,LL[i]?=some L:=⟨_,cE (by rw [c0.o.1];exact f9)⟩;have LA:=aside hL;obtain⟨r1,r2,r3,r4⟩:=rA.o i L hL;have a9:=aside4 r1 r2 r3 r4;obtain⟨a,c,x0,hT,_⟩:=oA.o.2.1.2 i L hL;have TmA:=aside hT;obtain⟨ln,hln⟩:∃l,L.length=l:=⟨_,rfl⟩;have d6:Aside (L.length=ln∧ln≤20000):=⟨hln,by have:=xK L;omega⟩;rw [hln] at x0;obtain⟨g1,hi0,hwi⟩:=elt (i:=i) (n:=lv) (by omega) (by omega);have f6:0<ln:=by rw [←hln];exact r1
   have f8:ln≤20000:=d6.o.2;clear r1 r2 r3 r4 hT hln hL;have a7:Aside (∀w5,Bz wo w5→Cz 25 #[.agg #[.int .i64 5,.int .i64 0,.string ⟨#[120]⟩,.bool false,.slice none 0 0,.slice none 0 0,.slice a ln c]] w5 (FreeP w5 (iG L))):=by
    show∀w5,_;intro w5 hb;have hv:=TmV.below hb (aA _) _ _ (compV (s:=⟨#[120]⟩) (c:=c) (eW.toV (n:=wo.heap.size) (fun k hk=>hk.2) _ _ _ TmA.o) (by have:=d6.o;omega));rw [d6.o.1] at hv;have:=JD _ wo.heap.size w5 _ hv hb.size (by rw [WN];have:=a9.o.2.1;omega)
    rwa [WO] at this
   have b1:=fun w=>Cm ⟨#[120]⟩ a ln c f6 w
   obtain⟨R,hR⟩:=enm (iG L);have RA:Aside (iG L=R∧R.Nodup∧R.length≤20001):=⟨hR,by rw [←hR];exact AQ L [] List.nodup_nil,by rw [←hR];have:=(qX L []).1;have:=a9.o.2.1;unfold iG;simp at*;omega⟩;rw [hR] at a7
   go_upto_region 11 with first
    |(go_at_call 26;(with_reducible refine(b1 _).mono ?_);rintro e w5 ⟨rfl,hb5⟩;have b9:Aside (Bz wo w5):=hb5)
    |(go_at_call 25;(with_reducible refine(a7.o _ b9.o).mono ?_);rintro e w6 ⟨v6,rfl,h6,hb6⟩;obtain⟨a6,c6,rfl,hrd⟩:=gZ h6)
   obtain⟨lR,hlR⟩:∃l,R.length=l:=⟨_,rfl⟩;have d5:Aside (R.length=lR∧lR≤20001):=⟨hlR,by rw [←hlR];exact RA.o.2.2⟩;have f7:lR≤20001:=d5.o.2;rw [hlR] at hrd ⊢;have d0:=aside hrd;have g5:Aside (g0<w5.heap.size):=by show _<_;have:=oA.o.2.2.lt;have:=b9.o.size;omega
   have c1:Aside (Bz w w6∧RwV g0 w6 G LL∧gJ w6 g0 nv (fun v=>gC (LL.take i) v)):=by
    have hb:Bz wo w6:=b9.o.trans (hb6.mono b9.o.size);exact⟨oA.o.1.trans (hb.mono oA.o.1.size),oA.o.2.1.keep (bL.of_below hb),oA.o.2.2.of_block (hb.block g0 oA.o.2.2.lt)⟩
   clear hrd h6 hlR hR hb6
   go_loopw [41] (fun s wr=>∃j:Nat,s= .int .i64 j∧j≤lR∧bL (· =g0) w6 wr∧gJ wr g0 nv (fun v=>kR LL i R j v)) (fun s _=>lR-(RowKit.intOf s).toNat)
   case atStart=>exact⟨0,rfl,cJ _,bL.refl _ _,c1.o.2.2.cong fun v _=>(WS LL i R v).symm⟩
   case round=>
    obtain⟨wq,rfl⟩:=enr wr;obtain⟨j,rfl,hj,hK,hC⟩:=hrel;have qA:=aside2 hK hC;clear hK hC
    by_cases f2:j<lR
    ·obtain⟨x,hx⟩:∃x,R[j]?=some x:=⟨_,cE (by rw [d5.o.1];exact f2)⟩;have g3:=a9.o.2.2.2 x (by rw [RA.o.1];exact bV hx);obtain⟨xn,rfl⟩:∃k:Nat,x=(k:Int):=⟨x.toNat,by omega⟩;have e6:xn<nv:=by omega
     have xA:=aside hx;obtain⟨gR,rfl,hg1,hg2,hg3⟩:∃g,a6=some ⟨g,0,none⟩∧w5.heap.size≤g∧g<w6.heap.size∧∀(j:Nat) u,(R.map (Value.int .i64))[j]?=some u→w6.cell? ⟨g,j,none⟩=some u:=by
      rcases d0.o with h|h
      ·omega
      ·exact h
     have z0:wq.cell? ⟨gR,j,none⟩=some (.int .i64 (xn:Int)):=(BU (w:=w6) (qA.o.1.block gR hg2 (by have:=g5.o;omega))).trans (hg3 j _ (by rw [jO,hx];rfl));obtain⟨z1,z2⟩:=qA.o.2.cell e6;have f0:kR LL i R j (xn:Int)≤1000002:=by
      unfold kR;have h1:=LX (LL.take i) (xn:Int);rw [bT] at h1;have:=c0.o.1;split<;>omega
     obtain⟨cn,hcn⟩:∃k,kR LL i R j (xn:Int)=k:=⟨_,rfl⟩;rw [hcn] at z1 f0;have cA:=aside hcn;have f3:(j:Int)<(lR:Int):=by omega
     have g7:(0:Int)≤(j:Int):=by omega
     have h8:(0:Int)≤(xn:Int):=by omega
     have h9:(xn:Int)<(nv:Int):=by omega
     have h7:=ewr (i:=j) (by omega);have h0:=ewr (i:=cn) (by omega);clear hx g3 hg1 hg2 hg3 hcn x0;go_wp2;refine⟨⟨j+1,by simp,by omega,qA.o.1.trans (bL.set (.int .i64 ((cn:Int)+1))) (fun k _ e=>e),?_⟩,by simp [RowKit.intOf];omega⟩;have hp:=qA.o.2.put e6 (cn+1);refine gJ.cong (f:=fun v=>if v=(xn:Int) then cn+1 else kR LL i R j v) (by simpa using hp) fun v _=>?_
     rw [WT RA.o.2.1 xA.o];split
     ·rename_i e;rw [e,cA.o]
     ·rfl
    ·obtain rfl:j=lR:=by omega
     clear x0;go_wp2;have f4:Bz w wq:=c1.o.1.trans (qA.o.1.below c1.o.1.size (fun k e=>by rw [e];exact d7.o.2));exact⟨⟨i+1,by simp,by omega,f4,c1.o.2.1.keep qA.o.1,qA.o.2.cong fun v _=>by rw [←d5.o.1,←RA.o.1];exact WU LA.o v⟩,by simp [RowKit.intOf];omega⟩
  ·obtain rfl:i=lv:=by omega
   have a1:Aside (Bz w wo∧gJ wo g0 nv (fun v=>gC LL v)):=⟨oA.o.1,oA.o.2.2.cong fun v _=>by rw [←c0.o.1,kD]⟩;have i0:=e7.o
   go_upto_region 18 with fail
   go_loopw [10,55] (fun g4 g6 wr=>∃(k l2 c2:Nat) (a2:Option Addr),g4= .slice a2 l2 c2∧l2≤k∧g6= .int .i64 k∧k≤nv∧Bz w wr∧gJ wr g0 nv (fun v=>gC LL v)∧eL wo.heap.size wr (.slice a2 l2 c2) (gU LL nv k)∧wo.heap.size≤wr.heap.size) (fun _ s _=>nv-(RowKit.intOf s).toNat)
   case atStart=>exact⟨0,0,0,none,rfl,aA _,rfl,cJ _,a1.o.1,a1.o.2,qD _ _ _ _,aA _⟩
   case round=>
    obtain⟨wq,rfl⟩:=enr wr;obtain⟨k,l2,c2,a2,rfl,hl2,rfl,hk,hBq,hCq,hOq,hsq⟩:=hrel;have qA:=aside4 hBq hCq hOq hsq
    by_cases e3:k<nv
    ·obtain⟨z1,z2⟩:=hCq.cell e3;obtain⟨cn,hcn⟩:∃m,gC LL (k:Int)=m:=⟨_,rfl⟩;rw [hcn] at z1;have e8:Aside (gU LL nv (k+1)=if 1<cn then gU LL nv k++ [(k:Int)] else gU LL nv k):=by show _=_;rw [RT LL e3,hcn]
     obtain⟨f5,hk0,hwk⟩:=elt (i:=k) (n:=nv) (by omega) (by omega);clear hBq hCq hOq hsq hcn z2
     by_cases e0:1<cn
     ·have c8:(1:Int)<(cn:Int):=by omega
      have b6:Aside ((gU LL nv k).length=l2):=by
       show _=_;obtain⟨a',c',e,_⟩:=gZ qA.o.2.2.1;injection e with _ e _;exact e.symm
      go_upto_region 21 with fail
      have bB:=aC wq (Obj.cells #[.int .i64 (k:Int)] 3);have e4:=bY wq (Obj.cells #[.int .i64 (k:Int)] 3);obtain⟨U,hU⟩:=enm (Value.slice a2 l2 c2);have c7:(wq.alloc (Obj.cells #[.int .i64 (k:Int)] 3)).ownsRow wo.heap.size 3 1 (.slice a2 l2 c2) (gU LL nv k).length ((gU LL nv k).map (Value.int .i64)):=jF qA.o.2.2.1 bB (aA _);have d3:iT (wq.alloc (Obj.cells #[.int .i64 (k:Int)] 3)) (.slice (some ⟨wq.heap.size,0,none⟩) 1 1) 1 [.int .i64 (k:Int)]:=xH e4;have c9:∀u∈([.int .i64 (k:Int)]:Lv),u.oneCell'=true:=by simp [Value.oneCell']
      have b4:(gU LL nv k).length+1≤maxLen∧((gU LL nv k).length+1)*8≤140737488355328:=by rw [b6.o];unfold maxLen;omega
      have d9:wo.heap.size≤(wq.alloc (Obj.cells #[.int .i64 (k:Int)] 3)).heap.size:=by rw [eX];have:=qA.o.2.2.2;omega
      rw [hU] at c7 ⊢;have e9:=aside bB;clear bB e4 z1
      go_wp2_with (at_builtin;refine lJ AX _ rfl _ _ rfl wo.heap.size _ _ _ rfl c7 _ _ _ rfl d3 rfl c9 b4.1 b4.2 d9 ?_;intro v5 w5 h5 f1 g9;obtain⟨a5,c5,rfl,_⟩:=gZ h5)
      have d4:Below wo.heap.size (wq.alloc (Obj.cells #[.int .i64 (k:Int)] 3)) w5:=(aK _ _).grown f1 d9 (fun g e=>(lX c7 g e).1);have c3:Below wo.heap.size wq w5:=(e9.o.mono qA.o.2.2.2).trans d4;refine⟨⟨k+1,(gU LL nv k).length+1,c5,a5,by simp,?_,by simp,by omega,?_,?_,?_,?_⟩,by simp [RowKit.intOf];omega⟩
      ·rw [b6.o];omega
      ·exact qA.o.1.trans (c3.mono a1.o.1.size)
      ·exact qA.o.2.1.of_block (c3.block g0 (a1.o.2.lt))
      ·rw [e8.o,if_pos e0];unfold eL;rw [aV,pM];exact h5
      ·exact aE qA.o.2.2.2 c3.size
     ·have c8:¬(1:Int)<(cn:Int):=by omega
      go_wp2;exact⟨⟨k+1,l2,c2,a2,rfl,by omega,by simp,by omega,qA.o.1,qA.o.2.1,by rw [e8.o,if_neg (fun h=>e0 h)];exact qA.o.2.2.1,qA.o.2.2.2⟩,by simp [RowKit.intOf];omega⟩
    ·obtain rfl:k=nv:=by omega
     clear hBq hCq hOq hsq;go_wp2
     go_ret2
     exact⟨qA.o.1,_,rfl,fun h=>absurd rfl h,fun _=>by rw [pE.o];have e:(k:Int).toNat=k:=CL k;rw [e,←JF];exact nW qA.o.2.2.1 a1.o.1.size⟩
end
