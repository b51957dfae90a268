/- Lemmas; no condition. -/
import Derived.Test.YtbdpdeonapmlgaaGreatDoorAk
set_option linter.all false
set_option maxHeartbeats 2000000
set_option maxRecDepth 100000
namespace Go.Proofs.YtbdpdeonapmlgaaGreatDoor
open Go.RowKit Go.Big Go.RowsK Go.MapK
variable {D M:List (Ind × Value)} {w w' w2 w5:Wo} {a:Option Addr} {nc pb n m mb mo b r ba g:Nat} {p:Ind × Value} {LL LO:List (List Ind)} {S:Int→Prop} {K:List Bool} {L:List Int} {v u:Value} {X vs:Lv}
def u226:Tryz.prog.underlying 226=some (.map 63 163):=Tryz.underlying226
def u267:Tryz.prog.underlying 267=some (.map 63 3):=Tryz.underlying267
def z163:∀w,(zeroValue 163).run Tryz.prog w= .ok (.map none) w:=fun w=>Tryz.zeroValue163 w
def z3:∀w,(zeroValue 3).run Tryz.prog w= .ok (.int .i64 0) w:=fun w=>Tryz.zeroValue3 w
def kT (w:Wo) (pb nc:Nat):Prop:=∃a0:Array Value,w.heap[pb]?=some (.cells a0 4 (0,0))∧a0.size=nc∧∀(j:Nat),j<nc→∃b,a0[j]?=some (.bool b)
def kT.of_block (h:kT w pb nc) (e:w'.heap[pb]?=w.heap[pb]?):kT w' pb nc:=by
 obtain⟨a0,h1,h2⟩:=h;exact⟨a0,e.trans h1,h2⟩
def kT.lt (h:kT w pb nc):pb<w.heap.size:=by
 obtain⟨a0,h1,_⟩:=h;exact(aG.1 h1).1
def kT.read (h:kT w pb nc) {j:Nat} (hj:j<nc):∃b,w.cell? ⟨pb,j,none⟩=some (.bool b):=by
 obtain⟨a0,h1,h2,h3⟩:=h;obtain⟨b,hb⟩:=h3 j hj;exact⟨b,by simpa [World.cell?,h1] using hb⟩
def kT.store (h:kT w pb nc) {j:Nat} (hj:j<nc):∃w1,(Instr.storeAt 4 (.pointer (some ⟨pb,j,none⟩)) (.bool true)).run Tryz.prog w= .ok () w1∧kT w1 pb nc∧w.grownBy w1 (some pb)∧w1.heap.size=w.heap.size:=by
 obtain⟨a0,h1,h2,h3⟩:=h;obtain⟨i0,hi,hz1⟩:∃i,Tryz.prog.info? 4=some i∧i.size=1:=by
  have h:=show(Tryz.prog.info? 4).map (fun i=>i.size)=some 1 by kernel_rfl
  rw [tG] at h;exact h
 have hs:∀W,(Go.sizeOf 4).run Tryz.prog W= .ok 1 W:=fun W=>by simp [Go.sizeOf,typeInfo,hi,hz1]
 have ha:(Instr.sureAddr (.pointer (some ⟨pb,j,none⟩))).run Tryz.prog w= .ok ⟨pb,j,none⟩ w:=rfl;have a5:=yH (P:=Tryz.prog) pb j 4 [.bool true] 0 a0 w h1 (by simp;omega) (by simp [Value.oneCell']);have a4:(a0.toList.take (j+0)++ [Value.bool true]++a0.toList.drop (j+0+ [Value.bool true].length))=a0.toList.set j (.bool true):=by
  rw [List.set_eq_take_append_cons_drop,if_pos (by simp;omega)];simp
 rw [a4] at a5;refine⟨_,?_,⟨_,tF _ _ _ (a0.toList.set j (.bool true)).toArray _ _ h1,by simp [h2],fun k hk=>?_⟩,⟨rfl,rfl,rfl,by simp [World.setRow],fun k hk a2=>vG _ _ _ _ fun(e:k=pb)=>a2 (by rw [e])⟩,by simp [World.setRow]⟩
 ·unfold Instr.storeAt;simp [storeVar,ha,hs,Value.cells,a5]
 ·rw [JI,List.getElem?_set]
  by_cases e:j=k
  ·subst e;exact⟨true,by simp;omega⟩
  ·obtain⟨b,hb⟩:=h3 k hk;refine⟨b,?_⟩;rw [if_neg e];simpa using hb
def inf4:(Tryz.prog.info? 4).map (fun i=>(i.zero,i.size,i.bytes))=some (some (.bool false),1,1):=by kernel_rfl
def Ca (len:Nat) (hb:len≤1000000000) (w:Wo):∃o,(Instr.makeSlice 87 (.int .i64 len) (.int .i64 len)).run Tryz.prog w= .ok (.slice (some ⟨w.heap.size,0,none⟩) len len) (w.alloc o)∧kT (w.alloc o) w.heap.size len:=by
 obtain⟨i0,hi,hz0,hz1,hz2⟩:=mQ inf4;have:=run_make (P:=Tryz.prog) w 87 4 i0 (.bool false) Tryz.underlying87 hi hz0 .i64 .i64 len len (by omega) (WI _) (by rw [hz2];omega) (by omega);rw [hz1] at this;refine⟨_,by simpa using this,_,aJ _ _,?_,fun j hj=>⟨false,?_⟩⟩
 ·simp [madeCells,Value.cells]
 ·simp [madeCells,Value.cells,hj,IV]
def NumsM (nc:Nat) (D:List (Ind × Value)):Prop:=∀p∈D,∃j:Nat,j<nc∧p.2= .int .i64 (j:Int)
def NumsM.look (h:NumsM nc D) (h0:0<nc) {w:Wo} {b:Nat} (hm:aQ aO w b D) (x:ByteArray) (m:Int):∃j:Nat,j<nc∧(Instr.lookup 267 (.map (some b)) (.agg #[.string x,.int .i64 m]) false).run Tryz.prog w= .ok (.int .i64 (j:Int)) w:=by
 have hl:=sF kJ u267 z3 hm (x,m);cases hk:aL (x,m) D with
 |none=>exact⟨0,h0,by rw [hk] at hl;exact hl⟩
 |some u=>
  obtain⟨j,hj,e⟩:=h _ (vX hk);refine⟨j,hj,?_⟩;rw [hk] at hl;simp only at e;subst e;exact hl
def NumsM.put (h:NumsM nc D) {j:Nat} (hj:j<nc) (k:Ind):NumsM nc (putM k (.int .i64 (j:Int)) D):=fun p hp=>by
 rcases uG hp with e|e
 ·exact⟨j,hj,by rw [e]⟩
 ·exact h p e
def mI (w:Wo) (r:Nat):Nat:=match w.heap[r]? with
 |some (.mapIter _ _ seen _)=>seen.size
 |_=>0
def PT (h:gH aO w r b M D):mI w r=D.length:=by
 obtain⟨es,clock,seen,h1,h2,h3,ds,h4,h5,_⟩:=h;have e1:=h4.length;have e2:seen.toList.length=(ds.map (·.born)).length:=by rw [h5]
 rw [jE,cU] at e2;simp [mI,h3];omega
structure OSt (w:Wo) (mo pb nc:Nat) (LL:List (List Ind)) (wr:Wo) (v:Value) (X:Lv) (LO:List (List Ind)) (D:List (Ind × Value)):Prop where
 bel:Bz w wr
 map:aQ aO wr mo D
 num:NumsM nc D
 put:kT wr pb nc
 out:wr.ownsRow (pb+1) 127 1 v LO.length X
 row:∀(k:Nat) L,LO[k]?=some L→∃u,X[k]?=some u∧∃ba,aF ba w u L
 sub:∀L∈LO,L∈LL
def OSt.below {wr:Wo} (h:OSt w mo pb nc LL wr v X LO D) (hb:Below m wr w') (hm:wr.heap.size≤m):OSt w mo pb nc LL w' v X LO D where
 bel:=h.bel.trans (hb.mono (aD h.bel.size hm))
 map:=h.map.of_block (hb.block mo (aR h.map.lt hm))
 num:=h.num
 put:=h.put.of_block (hb.block pb (aR h.put.lt hm))
 out:=gJ h.out hb hm
 row:=h.row
 sub:=h.sub
def OSt.push {v5:Value} {L:List Ind} (h:OSt w mo pb nc LL w2 v X LO D) (b0:mo<pb) (hw:w.heap.size≤pb) (hL:L∈LL) (hu:aF ba w u L)
  (h5:w5.ownsRow (pb+1) 127 1 v5 (LO.length+1) (X++ [u])) (hg:(w2.alloc (.cells #[u] 127)).grownBy w5 v.ownBlock):OSt w mo pb nc LL w5 v5 (X++ [u]) (LO++ [L]) D:=by
 have hb:=aC w2 (.cells #[u] 127);have a3:∀q,q<pb+1→some q≠v.ownBlock:=fun q hq e=>by have:=(cF h.out q e.symm).1;omega
 have hk:∀q,q<pb+1→q<w2.heap.size→w5.heap[q]?=w2.heap[q]?:=fun q q1 q2=>(hg.block q (by rw [cB];omega) (a3 q q1)).trans (hb.block q q2)
 have a7:X.length=LO.length:=by have:=h.out.1;omega
 refine⟨⟨hg.os.trans h.bel.os,hg.tape.trans h.bel.tape,hg.output.trans h.bel.output,aD h.bel.size (aD hb.size hg.size),fun q hq=>(hk q (by omega) (aR hq h.bel.size)).trans (h.bel.block q hq)⟩,h.map.of_block (hk mo (by omega) h.map.lt),h.num,h.put.of_block (hk pb (by omega) h.put.lt),?_,fun k L' a1=>?_,fun L' a6=>?_⟩
 ·rw [aI];exact h5
 ·by_cases a8:k<LO.length
  ·rw [dW a8] at a1;obtain⟨u',h1,h2⟩:=h.row k L' a1;exact⟨u',by rw [dW (by omega)];exact h1,h2⟩
  ·have a9:=(aM.1 a1).1;rw [aI,vP] at a9;obtain rfl:k=LO.length:=by omega
   rw [dK (aA _)] at a1;simp at a1;subst a1;exact⟨u,by rw [dK (by omega)];simp [a7],ba,hu⟩
 ·rcases cG.1 a6 with q|q
  ·exact h.sub L' q
  ·simp at q;subst q;exact hL
def OSt.mark (h:OSt w mo pb nc LL w2 v X LO D) (b0:mo<pb) (hw:w.heap.size≤pb) (hp:kT w5 pb nc) (hg:w2.grownBy w5 (some pb)):OSt w mo pb nc LL w5 v X LO D where
 bel:=h.bel.grown hg h.bel.size (fun k hk=>by have:=aK hk;omega)
 map:=h.map.of_block (hg.block mo h.map.lt (fun e=>by have:=aK e;omega))
 num:=h.num
 put:=hp
 out:=gS h.out fun q hq=>hg.block q (cF h.out q hq).2 (fun e=>by have:=(cF h.out q hq).1;have:=aK e;omega)
 row:=h.row
 sub:=h.sub
def Df (h:gH aO w r b M D) (ty:TypeId):
  ((∀p∈M,p∈D)∧∃w',(Instr.next (.pointer (some ⟨r,0,none⟩)) false ty).run Tryz.prog w= .ok (.tuple #[.bool false]) w'∧Bz w w')∨
  ∃p∈M,p.1∉D.map (·.1)∧∃w',(Instr.next (.pointer (some ⟨r,0,none⟩)) false ty).run Tryz.prog w= .ok (.tuple #[.bool true,aO p.1,p.2]) w'∧gH aO w' r b M (D++ [p])∧Below r w w'∧w'.heap.size=w.heap.size:=by
 rcases OB kJ h ty with⟨h1,w',h2,h3⟩|⟨p,hp,hn,w1,o,h3,h2,h4⟩
 ·refine .inl ⟨h1,w',h2,?_⟩;rcases h3 with rfl|rfl
  ·exact bD _ _
  ·exact dO _ _
 ·refine .inr ⟨p,hp,hn,_,h2,h4,?_,?_⟩
  ·have a2:∀k,k<r→(w1.heap.setIfInBounds r o)[k]?=w1.heap[k]?:=fun k hk=>rK (by omega)
   rcases h3 with rfl|rfl
   ·exact⟨rfl,rfl,rfl,by simp,fun k hk=>a2 k hk⟩
   ·exact⟨rfl,rfl,rfl,by simp,fun k hk=>(a2 k hk).trans rfl⟩
  ·rcases h3 with rfl|rfl<;>simp
def NU (h:(D.map (·.1)).Nodup) (hn:p.1∉D.map (·.1)):((D++ [p]).map (·.1)).Nodup:=by
 rw [oF,yT];exact⟨h,by simp,fun a ha b hb e=>by simp at hb;subst hb;subst e;exact hn ha⟩
def Ax (h:(D.map (·.1)).Nodup) (hs:∀q∈D,q∈M) (hp:p∈M) (hn:p.1∉D.map (·.1)):D.length<M.length:=by
 have h1:=NU h hn;have h2:=Go.Proofs.Plain.nodup_sub_len (m:=M.map (·.1)) h1 fun y hy=>by
  obtain⟨q,hq,e⟩:=cL.1 hy;subst e;rcases cG.1 hq with hq|hq
  ·exact cL.2 ⟨q,hs q hq,rfl⟩
  ·simp at hq;subst hq;exact cL.2 ⟨q,hp,rfl⟩
 rw [jE,jE,aI] at h2;simp at h2;omega
def zS (L:List Int) (K:List Bool):(fU K L).length=K.length:=by
 unfold fU
 induction L generalizing K with
 |nil=>rfl
 |cons a r ih=>rw [JK,ih,yU]
def dJ (w:Wo) (b:Bool) (e:Ending) (w':Wo):Prop:=e= .returned (.bool b)∧Bz w w'
def IntP (w:Wo) (i:Int) (e:Ending) (w':Wo):Prop:=e= .returned (.int .i64 i)∧Bz w w'
def fD {α:Type} (p:α→Bool):List α→Nat→Int
 | [],_=>-1
 |x::r,i=>if p x then i else fD p r (i+1)
def uM {α:Type} (p:α→Bool) (L:List α) (k i:Nat) (h:∀(j:Nat) x,j<i→L[j]?=some x→p x=false):fD p L k=fD p (L.drop i) (k+i)∨L.length<i:=by
 induction i generalizing L k with
 |zero=>exact .inl rfl
 | succ i ih=>
  cases L with
  |nil=>exact .inr (by simp)
  | cons a r=>
   have h0:=h 0 a (by omega) rfl;rcases ih r (k+1) (fun j x hj hx=>h (j+1) x (by omega) hx) with e|e
   ·left;rw [fD,h0,if_neg (by simp),e,aZ,show k+1+i=k+(i+1) by omega]
   ·right;simpa using e
def QD {α:Type} (p:α→Bool) (L:List α) (k:Nat):decide (0≤fD p L k)=L.any p:=by
 induction L generalizing k with
 |nil=>rfl
 |cons a r ih=>
  rw [fD,WE];cases h:p a
  ·rw [if_neg (by simp),ih];rfl
  ·rw [if_pos rfl];simp
def Dn (L:List Int) (p:Int→Bool) (f:Nat) (lb:Array Value) (ef:∀args w,(callFunc f args).run Tryz.prog w= .ok (.enter f args) w) (a:Option Addr) (c:Nat) (w:Wo)
  (hL:∀(j:Nat) x,L[j]?=some x→∃g off,a=some ⟨g,off,none⟩∧g<w.heap.size∧w.cell? ⟨g,off+j,none⟩=some (.int .i64 x)) (hb:L.length≤1048576)
  (hf:∀x∈L,∀w2,Bz w w2→Cz f (#[.int .i64 x]++lb) w2 (dJ w2 (p x))):
  Cz 140 #[.slice a L.length c,.func (.func f) #[] lb] w (IntP w (fD p L 0)):=by
 obtain⟨R,hR⟩:=enm (fD p L 0);obtain⟨len,hl⟩:=enm L.length;have a5:=aside hR;have Ll:=aside hl;have a8:Aside _:=hL;have a9:Aside _:=hf;rw [hR,hl];rw [hl] at hb;clear hL hf hR hl;go_enter Tryz.func140,Tryz.ntmps140;go_wp2
 go_loopw [8] (fun s wr=>∃i:Nat,s= .int .i64 i∧i≤len∧Bz w wr∧Aside (∀(j:Nat) x,j<i→L[j]?=some x→p x=false)) (fun s _=>len-(intOf s).toNat)
 case atStart=>exact⟨0,rfl,bX _,bD _ _,fun j x hj=>by omega⟩
 case round=>
  obtain⟨i,rfl,hi,hbr,hall⟩:=hrel
  by_cases b1:i<len
  ·obtain⟨x,hx⟩:=egf Ll.o b1;obtain⟨g1,off,rfl,hg1,hc0⟩:=a8.o i x hx;have hc:wr.cell? ⟨g1,off+i,none⟩=some (.int .i64 x):=(hbr.cell (p:=⟨g1,off+i,none⟩) hg1).trans hc0;have a0:=a9.o x (aV hx) wr hbr;obtain⟨b2,hi3,hw3⟩:=elt (i:=i) (n:=len) (by omega) (by omega);have a1:=aside hbr;have a7:=aside hx;obtain⟨b,hb2⟩:=enm (p x);have a6:=aside hb2;rw [hb2] at a0;clear hb2 hc0 hbr hx hg1;cases b
   ·go_wp2_with (go_at_fn f;(with_reducible refine a0.mono ?_);rintro e w3 ⟨rfl,hb3⟩)
    have a3:Bz w w3:=a1.o.trans (hb3.mono a1.o.size);have a2:Aside (∀(j:Nat) x,j<i+1→L[j]?=some x→p x=false):=fun j x' hj a4=>by
     rcases lR j i with h|h
     ·exact hall.o j x' h a4
     ·obtain rfl:j=i:=by omega
      rw [a7.o] at a4;injection a4 with e;exact e▸a6.o
    go_roundw
    case rel=>exact⟨i+1,by simp,by omega,a3,a2⟩
    case measure=>simp [intOf];omega
   ·obtain rfl:R=i:=by
     rw [←a5.o];rcases uM p L 0 i hall.o with e|e
     ·obtain⟨b0,hx9⟩:=aM.1 a7.o;rw [e,iK b0,fD,hx9,a6.o,if_pos rfl];simp
     ·have:=Ll.o;omega
    go_wp2_with (go_at_fn f;(with_reducible refine a0.mono ?_);rintro e w3 ⟨rfl,hb3⟩)
    have a3:Bz w w3:=a1.o.trans (hb3.mono a1.o.size)
    go_ret
    exact⟨rfl,a3⟩
  ·obtain rfl:i=len:=by omega
   obtain rfl:R= -1:=by
    rw [←a5.o];rcases uM p L 0 i hall.o with e|e
    ·rw [e,tM (rH Ll.o)];rfl
    ·have:=Ll.o;omega
   go_wp2
   go_ret
   exact⟨rfl,hbr⟩
def SA (L:List Int) (p:Int→Bool) (f:Nat) (lb:Array Value) (ef:∀args w,(callFunc f args).run Tryz.prog w= .ok (.enter f args) w) (a:Option Addr) (c:Nat) (w:Wo)
  (hL:∀(j:Nat) x,L[j]?=some x→∃g off,a=some ⟨g,off,none⟩∧g<w.heap.size∧w.cell? ⟨g,off+j,none⟩=some (.int .i64 x)) (hb:L.length≤1048576)
  (hf:∀x∈L,∀w2,Bz w w2→Cz f (#[.int .i64 x]++lb) w2 (dJ w2 (p x))):
  Cz 72 #[.slice a L.length c,.func (.func f) #[] lb] w (dJ w (L.any p)):=by
 have d1:=Dn L p f lb ef a c w hL hb hf;rw [←QD p L 0];generalize fD p L 0=R,L.length=len at*;clear hL hf;go_enter Tryz.func72,Tryz.ntmps72
 go_wp2_with (go_at_call 140;(with_reducible refine d1.mono ?_);rintro e w3 ⟨rfl,hb3⟩)
 go_ret
 exact⟨rfl,hb3⟩
def DN:Tryz.prog.underlying 110=some (.map 3 4):=Tryz.underlying110
def KnownAt.look (h:aW w mb S) (x:Int):∃b:Bool,(Instr.lookup 110 (.map (some mb)) (.int .i64 x) false).run Tryz.prog w= .ok (.bool b) w∧(b=true↔S x):=by
 obtain⟨M,h1,h2,h3⟩:=h;have hr:=sF sG DN zero4 h1 x;cases hv:aL x M with
 | none=>
  refine⟨false,by rw [hv] at hr;exact hr,?_⟩;rw [←h2 x];constructor
  ·intro h;cases h
  ·intro h;obtain⟨p,hp,rfl⟩:=cL.1 h;exact absurd rfl (DK.1 hv p hp)
 |some u=>
  have hm:=vX hv;have:=h3 _ hm;simp only at this;subst this;refine⟨true,by rw [hv] at hr;exact hr,?_⟩;rw [←h2 x];exact⟨fun _=>cL.2 ⟨_,hm,rfl⟩,fun _=>rfl⟩
def KnownAt.put (h:aW w mb S) (x:Int):∃w',(Instr.mapUpdate 110 (.map (some mb)) (.int .i64 x) (.bool true)).run Tryz.prog w= .ok () w'∧aW w' mb (fun y=>S y∨y=x)∧aS (fun k=>k=mb) w w'∧w'.heap.size=w.heap.size:=by
 obtain⟨M,h1,h2,h3⟩:=h;obtain⟨w',hr,h4,h5,h6⟩:=pU sG DN h1 x (.bool true);refine⟨w',hr,⟨_,h4,fun y=>?_,fun p hp=>?_⟩,(aS.of_grown h5).mono fun k _ e=>(aK e).symm,h6⟩
 ·rw [FC,h2 y];exact or_comm
 ·rcases uG hp with rfl|hp
  ·rfl
  ·exact h3 p hp
def KnS (K:List Bool) (x:Int):Prop:=∃n:Nat,x=n∧K[n]?=some true
def KnS_getD {x:Int} (h:0≤x):KnS K x↔K.getD x.toNat false=true:=by
 obtain⟨n,rfl⟩:∃n:Nat,x=n:=⟨x.toNat,(WF h).symm⟩;rw [WG,WA];constructor
 ·rintro⟨m,e,hm⟩;obtain rfl:n=m:=WH e;rw [hm];rfl
 ·intro e;refine⟨n,rfl,?_⟩;cases hk:K[n]? with
  |none=>rw [hk] at e;cases e
  |some b=>rw [hk] at e;exact eT some e
def KnS_put (h:∀x∈L,0≤x∧x.toNat<K.length) (x:Int):KnS (fU K L) x↔KnS K x∨x∈L:=by
 induction L generalizing K with
 |nil=>simp [fU]
 | cons a r ih=>
  obtain⟨h1,h2⟩:=h a (by simp);have:=ih (K:=K.set a.toNat true) (fun y hy=>by rw [yU];exact h y (by simp [hy]));show KnS (fU (K.set a.toNat true) r) x↔_;rw [this,cM];have e:KnS (K.set a.toNat true) x↔KnS K x∨x=a:=by
   unfold KnS;constructor
   ·rintro⟨n,rfl,hn⟩
    by_cases e:a.toNat=n
    ·right;omega
    ·rw [VZ e] at hn;exact .inl ⟨n,rfl,hn⟩
   ·rintro(⟨n,rfl,hn⟩|rfl)
    ·refine⟨n,rfl,?_⟩
     by_cases e:a.toNat=n
     ·subst e;rw [VY h2]
     ·rw [VZ e];exact hn
    ·exact⟨x.toNat,(WF h1).symm,VY h2⟩
  rw [e];constructor
  ·rintro((h|h)|h)
   ·exact .inl h
   ·exact .inr (.inl h)
   ·exact .inr (.inr h)
  ·rintro(h|h|h)
   ·exact .inl (.inl h)
   ·exact .inl (.inr h)
   ·exact .inr h
def Db (x:Int) (kb mb:Nat) (w:Wo) (K:List Bool) (h:aW w mb (KnS K)) (hx:0≤x) (hk:w.heap[kb]?=some (.cells #[.map (some mb)] 110 (0,0))):
  Cz 133 #[.int .i64 x,.pointer (some ⟨kb,0,none⟩)] w (dJ w (!(K.getD x.toNat false))):=by
 obtain⟨b,hl,hb⟩:=KnownAt.look h x;obtain rfl:b=K.getD x.toNat false:=by rw [jH,hb,KnS_getD hx]
 generalize K.getD x.toNat false=b at*;obtain⟨hc,_⟩:=iU hk;clear hb h hk;go_enter Tryz.func133,Tryz.ntmps133;go_wp2
 go_ret
 exact⟨rfl,bD _ _⟩
def pZ (T:Tm) (K:List Bool) (n mb:Nat) (w:Wo) (vs:Lv) (h:TmV n w T vs) (hn:n≤w.heap.size) (hN:T.nodes≤1000000) (hK:aW w mb (KnS K)) (h0:∀x∈T.free,0≤x):
  Cz 65 #[.map (some mb),.agg vs.toArray] w (dJ w (cH K T)):=by
 obtain⟨R,hR⟩:=enm T.free;have b6:R.length≤1000000:=by rw [←hR];have:=(BR T []).1;simp at this;exact aD this hN
 have b1:Aside (∀x∈R,0≤x):=by show∀x∈R,_;rw [←hR];exact h0
 obtain⟨HB,hHB⟩:∃b,cH K T=b:=⟨_,rfl⟩;have b3:Aside (R.all (fun x=>K.getD x.toNat false)=HB):=by show _=_;rw [←hHB,←hR];rfl
 have dF:Aside (∀(n':Nat) (w2:Wo) (us:Lv),TmV n' w2 T us→n'≤w2.heap.size→Cz 132 #[.agg us.toArray] w2 (FreeP w2 R)):=fun n' w2 us hv b5=>by rw [←hR];exact wR T n' w2 us hv b5 hN
 rw [hHB];have a6:=aside h;have a9:=aside hK;clear h0 hR hHB hN hK;obtain⟨k,v,nm,g,num,den,args⟩:=T;simp only [TmV] at h;obtain⟨_,_,a,c,rfl,⟨⟨p1,q1,rfl,_⟩,⟨p2,q2,rfl,_⟩⟩,_⟩:=h;obtain⟨TT,hTT⟩:∃t,Tm.mk k v nm g num den args=t:=⟨_,rfl⟩;rw [hTT] at dF a6;clear hTT;generalize args.length=l1,num.length=n1,den.length=n2 at*;have a0:=aC w (Obj.cells #[.map (some mb)] 110);have a1:=aC (w.alloc (Obj.cells #[.map (some mb)] 110)) (bA k v nm g p1 n1 q1 p2 n2 q2 a l1 c);have hq:=aJ (w.alloc (Obj.cells #[.map (some mb)] 110)) (bA k v nm g p1 n1 q1 p2 n2 q2 a l1 c);have a4:=(a1.block w.heap.size (by simp)).trans (aJ w (Obj.cells #[.map (some mb)] 110));have b0:=a0.trans (a1.mono a0.size);obtain⟨wb,hwb⟩:=enm ((w.alloc (Obj.cells #[.map (some mb)] 110)).alloc (bA k v nm g p1 n1 q1 p2 n2 q2 a l1 c));have a8:wb.heap.size=w.heap.size+2:=by rw [←hwb];simp
 rw [hwb] at b0 hq a4;rw [cB] at hq;obtain⟨x0,x1,x2,x3,x4,x5,x6⟩:=bZ hq;have a3:=aside b0;have b7:Aside (wb.heap[w.heap.size]?=_∧wb.heap.size=w.heap.size+2):=⟨a4,a8⟩;have d1:=dF.o n wb _ (TmV.below b0 hn _ _ a6.o) (aD hn b0.size);replace d1:Cz 132 #[.agg (tA k v nm g p1 n1 q1 p2 n2 q2 a l1 c)] wb _:=d1;have a7:Aside (∀v4 w4,OutN wb.heap.size w4 v4 R→Bz wb w4→Cz 72 #[v4,.func (.func 133) #[] #[.pointer (some ⟨w.heap.size,0,none⟩)]] w4 (dJ w4 (!HB))):=by
  show∀v4 w4,_;intro v4 w4 a5 a2;obtain⟨pa,pc,rfl,hrd⟩:=iN a5;have e:(!HB)=R.any (fun x=>!(K.getD x.toNat false)):=by rw [←b3.o,List.not_all_eq_any_not]
  rw [e];refine SA R _ 133 _ (enters_of Tryz.func133 (by kernel_rfl) rfl) pa pc w4 (fun j x hj=>?_) (by omega) (fun x hx w2 b4=>?_)
  ·rcases hrd with h0|⟨g,e,_,hgl,hc⟩
   ·have:=(aM.1 hj).1;omega
   ·exact⟨g,0,e,hgl,by rw [bT];exact hc j _ (by rw [gO,hj];rfl)⟩
  ·have hB:=a2.trans (b4.mono a2.size);have b2:=a3.o.trans (hB.mono a3.o.size);exact Db x _ mb w2 K (a9.o.of_block (b2.block mb a9.o.lt)) (b1.o x hx) ((hB.block _ (by rw [a8];omega)).trans a4)
 clear hq a4 b0 a0 a1 a8 a6 dF;go_enter Tryz.func65,Tryz.ntmps65
 go_upto_region 1 with fail
 clear hwb
 go_wp2_with (first
  |(go_at_call 132;(with_reducible refine d1.mono ?_);rintro e w4 ⟨v4,rfl,a5,a2⟩)
  |(go_at_call 72;(with_reducible refine(a7.o v4 w4 a5 a2).mono ?_);rintro e w5 ⟨rfl,hb5⟩))
 go_ret
 exact⟨by simp,a3.o.trans ((a2.trans (hb5.mono a2.size)).mono a3.o.size)⟩
def AddP (w:Wo) (mb:Nat) (K:List Bool) (e:Ending) (w':Wo):Prop:=e= .returned (.tuple #[])∧aW w' mb (KnS K)∧aS (fun k=>k=mb) w w'
def EK (T:Tm) (K:List Bool) (n mb:Nat) (w:Wo) (vs:Lv) (h:TmV n w T vs) (hn:n≤w.heap.size) (hN:T.nodes≤1000000) (hK:aW w mb (KnS K)) (hI:InK K T):
  Cz 130 #[.map (some mb),.agg vs.toArray] w (AddP w mb (fU K T.free)):=by
 obtain⟨R,hR⟩:=enm T.free;have a9:R.length≤1000000:=by rw [←hR];have:=(BR T []).1;simp at this;exact aD this hN
 have a7:Aside (∀x∈R,0≤x∧x.toNat<K.length):=by show∀x∈R,_;rw [←hR];exact hI
 have dF:Aside (∀(n':Nat) (w2:Wo) (us:Lv),TmV n' w2 T us→n'≤w2.heap.size→Cz 132 #[.agg us.toArray] w2 (FreeP w2 R)):=fun n' w2 us hv b2=>by rw [←hR];exact wR T n' w2 us hv b2 hN
 rw [hR];have a1:=aside h;have a5:=aside hK;clear hI hR hN hK;obtain⟨k,v,nm,g,num,den,args⟩:=T;simp only [TmV] at h;obtain⟨_,_,a,c,rfl,⟨⟨p1,q1,rfl,_⟩,⟨p2,q2,rfl,_⟩⟩,_⟩:=h;obtain⟨TT,hTT⟩:∃t,Tm.mk k v nm g num den args=t:=⟨_,rfl⟩;rw [hTT] at dF a1;clear hTT;generalize args.length=l1,num.length=n1,den.length=n2 at*;obtain⟨wb,hwb,b0,hq,_⟩:=ebx w (bA k v nm g p1 n1 q1 p2 n2 q2 a l1 c);obtain⟨x0,x1,x2,x3,x4,x5,x6⟩:=bZ hq;have a2:=aside b0;have d1:=dF.o n wb _ (TmV.below b0 hn _ _ a1.o) (aD hn b0.size);replace d1:Cz 132 #[.agg (tA k v nm g p1 n1 q1 p2 n2 q2 a l1 c)] wb _:=d1;clear hq b0 a1 dF;go_enter Tryz.func130,Tryz.ntmps130
 go_upto_region 1 with fail
 clear hwb
 go_upto_region 2 with(go_at_call 132;(with_reducible refine d1.mono ?_);rintro e w4 ⟨v4,rfl,hO4,hb4⟩;obtain⟨pa,pc,rfl,hrd⟩:=iN hO4)
 obtain⟨len,hl⟩:=enm R.length;rw [hl] at hrd a9 ⊢;have Rl:=aside hl;have a0:Aside (mb<w.heap.size):=a5.o.lt;have a3:Aside (∀(j:Nat) x,R[j]?=some x→∃g,pa=some ⟨g,0,none⟩∧wb.heap.size≤g∧g<w4.heap.size∧w4.cell? ⟨g,j,none⟩=some (.int .i64 x)):=by
  show∀(j:Nat) x,_;intro j x hj;rcases hrd with h0|⟨g,e,hgb,hgl,hc⟩
  ·have:=(aM.1 hj).1;omega
  ·exact⟨g,e,hgb,hgl,hc j _ (by rw [gO,hj];rfl)⟩
 have a4:Aside (Bz w w4):=a2.o.trans (hb4.mono a2.o.size);have a8:Aside (aW w4 mb (KnS K)):=a5.o.of_block (a4.o.block mb a0.o);have a6:Aside (∀i,(∀x∈R.take i,0≤x∧x.toNat<K.length)):=fun i x hx=>a7.o x (jS hx)
 clear hO4 hrd hl hb4 d1 x0 x1 x2 x3 x4 x5 x6
 go_loopw [9] (fun s wr=>∃i:Nat,s= .int .i64 i∧i≤len∧aW wr mb (KnS (fU K (R.take i)))∧aS (fun k=>k=mb) w4 wr) (fun s _=>len-(intOf s).toNat)
 case atStart=>exact⟨0,rfl,bX _,a8.o,aS.refl _ _⟩
 case round=>
  obtain⟨i,rfl,hi,hSr,hKr⟩:=hrel
  by_cases b1:i<len
  ·obtain⟨x,hx⟩:=egf Rl.o b1;obtain⟨g1,rfl,hg1,hg2,hc0⟩:=a3.o i x hx;have hc:wr.cell? ⟨g1,i,none⟩=some (.int .i64 x):=by
    have:=hKr.block g1 hg2 (fun e=>by have:=a0.o;have:=a2.o.size;omega);simpa [World.cell?,this] using hc0
   obtain⟨w6,hup,hS6,hK6,hz6⟩:=KnownAt.put hSr x;obtain⟨b3,hi3,hw3⟩:=elt (i:=i) (n:=len) (by omega) (by omega);have hP:Aside (aW w6 mb (KnS (fU K (R.take (i+1))))∧aS (fun k=>k=mb) w4 w6):=
    ⟨hS6.cong fun y=>by rw [KnS_put (a6.o i),KnS_put (a6.o (i+1)),lT,hx,Option.toList_some,cG,fI,or_assoc],hKr.trans hK6 fun k _ e=>e⟩
   clear hSr hKr hS6 hK6 hz6 hc0 hg1 hg2 hx;go_wp2;go_roundw
   case rel=>exact⟨i+1,by simp,by omega,hP.o⟩
   case measure=>simp [intOf];omega
  ·obtain rfl:i=len:=by omega
   have hL:Aside (aW wr mb (KnS (fU K R))∧aS (fun k=>k=mb) w wr):=⟨by rw [←fH (rH Rl.o)];exact hSr,(aS.of_below a4.o).trans hKr fun k _ e=>e⟩;clear hSr hKr;go_wp2
   go_end0
   exact⟨rfl,hL.o⟩
structure Md where
 nm:ByteArray
 ar:Int
 io:List Int
def IntsAt (n:Nat) (w:Wo) (a:Option Addr) (L:List Int):Prop:=∀(j:Nat) x,L[j]?=some x→∃b off,a=some ⟨b,off,none⟩∧b<n∧w.cell? ⟨b,off+j,none⟩=some (.int .i64 x)
def IntsAt.below (h:IntsAt n w a L) (hb:Below m w w') (hm:n≤m):IntsAt n w' a L:=fun j x hj=>by
 obtain⟨b,off,e,hbn,hc⟩:=h j x hj;exact⟨b,off,e,hbn,((hb.mono hm).cell (p:=⟨b,off+j,none⟩) hbn).trans hc⟩
def MdV (n:Nat) (w:Wo) (M:Md) (vs:Lv):Prop:=∃a c,vs= [.string M.nm,.int .i64 M.ar,.slice a M.io.length c]∧IntsAt n w a M.io∧M.io.length≤1048576
def MdV.below {M:Md} (h:MdV n w M vs) (hb:Below m w w') (hm:n≤m):MdV n w' M vs:=by
 obtain⟨a,c,e,h1,h2⟩:=h;exact⟨a,c,e,h1.below hb hm,h2⟩
def MdsV (n:Nat) (w:Wo) (L:List Md) (a:Option Addr):Prop:=
 ∀(k:Nat) M,L[k]?=some M→∃g off vs,a=some ⟨g,off,none⟩∧g<n∧CellsAt w g (off+k*3) vs∧MdV n w M vs
def MdsV.below {L:List Md} (h:MdsV n w L a) (hb:Below m w w') (hm:n≤m):MdsV n w' L a:=fun k M hk=>by
 obtain⟨g,off,vs,e,hg,hc,h1⟩:=h k M hk;exact⟨g,off,vs,e,hg,hc.below hb (by omega),h1.below hb hm⟩
def MdsV.take {L:List Md} (h:MdsV n w L a) (i:Nat):MdsV n w (L.take i) a:=fun k M hk=>h k M (by
 rw [vQ] at hk;split at hk
 ·exact hk
 ·cases hk)
def PY (L:List Md) (p:Md→Bool) (f:Nat) (lb:Array Value) (ef:∀args w,(callFunc f args).run Tryz.prog w= .ok (.enter f args) w) (n:Nat) (a:Option Addr) (c:Nat) (w:Wo)
  (hL:MdsV n w L a) (hn:n≤w.heap.size) (hb:L.length≤1000000)
  (hf:∀(j:Nat) M,L[j]?=some M→∀w2 vs,Bz w w2→MdV n w2 M vs→Cz f (#[.agg vs.toArray]++lb) w2 (dJ w2 (p M))):
  Cz 141 #[.slice a L.length c,.func (.func f) #[] lb] w (IntP w (fD p L 0)):=by
 obtain⟨R,hR⟩:=enm (fD p L 0);obtain⟨len,hl⟩:=enm L.length;have a7:=aside hR;have Ll:=aside hl;have b1:=aside hL;have b2:Aside _:=hf;rw [hR,hl];rw [hl] at hb;clear hL hf hR hl;go_enter Tryz.func141,Tryz.ntmps141;go_wp2
 go_loopw [8] (fun s wr=>∃i:Nat,s= .int .i64 i∧i≤len∧Bz w wr∧Aside (∀(j:Nat) x,j<i→L[j]?=some x→p x=false)) (fun s _=>len-(intOf s).toNat)
 case atStart=>exact⟨0,rfl,bX _,bD _ _,fun j x hj=>by omega⟩
 case round=>
  obtain⟨i,rfl,hi,hbr,hall⟩:=hrel
  by_cases b4:i<len
  ·obtain⟨x,hx⟩:=egf Ll.o b4;obtain⟨g1,off,vs,rfl,hg1,hc0,hv⟩:=b1.o i x hx;have a4:=hc0.below hbr (by omega);have a9:=hv.below hbr hn;have a0:=b2.o i x hx wr vs hbr a9;obtain⟨a1,c1,rfl,_⟩:=hv;obtain⟨b5,hi3,hw3⟩:=elt (i:=i) (n:=len) (by omega) (by omega);have y0:wr.cell? ⟨g1,off+i*3,none⟩=some (.string x.nm):=a4 0 _ rfl;have y1:wr.cell? ⟨g1,off+i*3+1,none⟩=some (.int .i64 x.ar):=a4 1 _ rfl;have y2:wr.cell? ⟨g1,off+i*3+2,none⟩=some (.slice a1 x.io.length c1):=a4 2 _ rfl;have a2:=aside hbr;have b0:=aside hx;obtain⟨b,hb2⟩:=enm (p x);have a8:=aside hb2;rw [hb2] at a0;replace a0:Cz f (#[.agg #[.string x.nm,.int .i64 x.ar,.slice a1 x.io.length c1]]++lb) wr (dJ wr b):=a0;obtain⟨xn,hxn⟩:∃t,x.nm=t:=⟨_,rfl⟩;obtain⟨xa,hxa⟩:∃t,x.ar=t:=⟨_,rfl⟩;obtain⟨xl,hxl⟩:∃t,x.io.length=t:=⟨_,rfl⟩;rw [hxn] at y0 a0;rw [hxa] at y1 a0;rw [hxl] at y2 a0;clear hb2 hc0 hbr hx hg1 a4 a9 hxn hxa hxl;cases b
   ·go_wp2_with (go_at_fn f;(with_reducible refine a0.mono ?_);rintro e w3 ⟨rfl,hb3⟩)
    have a5:Bz w w3:=a2.o.trans (hb3.mono a2.o.size);have a3:Aside (∀(j:Nat) x,j<i+1→L[j]?=some x→p x=false):=fun j x' hj a6=>by
     rcases lR j i with h|h
     ·exact hall.o j x' h a6
     ·obtain rfl:j=i:=by omega
      rw [b0.o] at a6;injection a6 with e;exact e▸a8.o
    go_roundw
    case rel=>exact⟨i+1,by simp,by omega,a5,a3⟩
    case measure=>simp [intOf];omega
   ·obtain rfl:R=i:=by
     rw [←a7.o];rcases uM p L 0 i hall.o with e|e
     ·obtain⟨b3,hx9⟩:=aM.1 b0.o;rw [e,iK b3,fD,hx9,a8.o,if_pos rfl];simp
     ·have:=Ll.o;omega
    go_wp2_with (go_at_fn f;(with_reducible refine a0.mono ?_);rintro e w3 ⟨rfl,hb3⟩)
    have a5:Bz w w3:=a2.o.trans (hb3.mono a2.o.size)
    go_ret
    exact⟨rfl,a5⟩
  ·obtain rfl:i=len:=by omega
   obtain rfl:R= -1:=by
    rw [←a7.o];rcases uM p L 0 i hall.o with e|e
    ·rw [e,tM (rH Ll.o)];rfl
    ·have:=Ll.o;omega
   go_wp2
   go_ret
   exact⟨rfl,hbr⟩
def RZ (L:List Md) (p:Md→Bool) (f:Nat) (lb:Array Value) (ef:∀args w,(callFunc f args).run Tryz.prog w= .ok (.enter f args) w) (n:Nat) (a:Option Addr) (c:Nat) (w:Wo)
  (hL:MdsV n w L a) (hn:n≤w.heap.size) (hb:L.length≤1000000)
  (hf:∀(j:Nat) M,L[j]?=some M→∀w2 vs,Bz w w2→MdV n w2 M vs→Cz f (#[.agg vs.toArray]++lb) w2 (dJ w2 (p M))):
  Cz 75 #[.slice a L.length c,.func (.func f) #[] lb] w (dJ w (L.any p)):=by
 have d1:=PY L p f lb ef n a c w hL hn hb hf;rw [←QD p L 0];generalize fD p L 0=R,L.length=len at*;clear hL hf;go_enter Tryz.func75,Tryz.ntmps75
 go_wp2_with (go_at_call 141;(with_reducible refine d1.mono ?_);rintro e w3 ⟨rfl,hb3⟩)
 go_ret
 exact⟨rfl,hb3⟩
def Fl (L M:List Int) (n:Nat) (a b:Option Addr) (c d:Nat) (w:Wo) (hL:IntsAt n w a L) (hM:IntsAt n w b M) (hn:n≤w.heap.size) (hb:L.length≤1048576):
  Cz 77 #[.slice a L.length c,.slice b M.length d] w (dJ w (decide (L=M))):=by
 obtain⟨R,hR⟩:=enm (decide (L=M));obtain⟨len,hl⟩:=enm L.length;obtain⟨a0,hm⟩:∃len,M.length=len:=⟨_,rfl⟩;have a4:=aside hR;have Ll:=aside2 hl hm;have a7:=aside2 hL hM;rw [hR,hl,hm];rw [hl] at hb;clear hL hM hR hl hm
 by_cases b1:(len:Int)=a0
 ·obtain rfl:a0=len:=by omega
  clear b1;go_enter Tryz.func77,Tryz.ntmps77;go_wp2
  go_loopw [13] (fun s wr=>∃i:Nat,s= .int .i64 i∧i≤a0∧Bz w wr∧Aside (∀(j:Nat) x,j<i→L[j]?=some x→M[j]?=some x)) (fun s _=>a0-(intOf s).toNat)
  case atStart=>exact⟨0,rfl,bX _,bD _ _,fun j x hj=>by omega⟩
  case round=>
   obtain⟨i,rfl,hi,hbr,hall⟩:=hrel
   by_cases a9:i<a0
   ·obtain⟨x,hx⟩:=egf Ll.o.1 a9;obtain⟨y,hy⟩:=egf Ll.o.2 a9;obtain⟨g1,o1,rfl,hg1,hc1⟩:=a7.o.1 i x hx;obtain⟨g2,o2,rfl,hg2,hc2⟩:=a7.o.2 i y hy;have e1:Aside (∀w2,Bz w w2→w2.cell? ⟨g1,o1+i,none⟩=some (.int .i64 x)∧w2.cell? ⟨g2,o2+i,none⟩=some (.int .i64 y)):=fun w2 a8=>
     ⟨(a8.cell (p:=⟨g1,o1+i,none⟩) (by show g1<_;omega)).trans hc1,(a8.cell (p:=⟨g2,o2+i,none⟩) (by show g2<_;omega)).trans hc2⟩
    obtain⟨b2,hi3,hw3⟩:=elt (i:=i) (n:=a0) (by omega) (by omega);have b0:=aside hbr;have fd:Bz w wr.drew:=hbr.trans (dO _ _);obtain⟨y1,y2⟩:=e1.o wr hbr;obtain⟨z1,z2⟩:=e1.o wr.drew fd;have a6:=aside fd;have a2:=aside2 hx hy;clear hc1 hc2 hg1 hg2 hx hy hbr fd
    by_cases a3:x=y
    ·subst a3;have a1:Aside (∀(j:Nat) x,j<i+1→L[j]?=some x→M[j]?=some x):=fun j x' hj a5=>by
      rcases lR j i with h|h
      ·exact hall.o j x' h a5
      ·obtain rfl:j=i:=by omega
       rw [a2.o.1] at a5;injection a5 with e;exact e▸a2.o.2
     go_upto_region 6 with fail
     refine iV 8 (by kernel_rfl) (by kernel_rfl) ?_;simp only [bL,bY,aZ,bG,iX]
     repeat (with_reducible refine jD (fun K hK=>?_);go_simp;with_reducible refine hK _ ?_;clear hK K)
     refine iW ?_;show wpList _ _ _ _ _ _;go_wp2;go_roundw
     case rel=>exact⟨i+1,by simp,by omega,a6.o,a1⟩
     case measure=>simp [intOf];omega
    ·obtain rfl:R=false:=by
      rw [←a4.o,vI];rintro rfl;have:=a2.o.1.symm.trans a2.o.2;injection this with e
      exact a3 e
     have h1:(x==y)=false:=by simpa using a3
     have h2:(x !=y)=true:=by simpa using a3
     go_upto_region 6 with fail
     refine iV 8 (by kernel_rfl) (by kernel_rfl) ?_;simp only [bL,bY,aZ,bG,iX]
     repeat (with_reducible refine jD (fun K hK=>?_);go_simp;with_reducible refine hK _ ?_;clear hK K)
     refine iW ?_;show wpList _ _ _ _ _ _;go_wp2
     go_ret
     exact⟨rfl,a6.o⟩
   ·obtain rfl:i=a0:=by omega
    obtain rfl:R=true:=by
     rw [←a4.o,IK];refine JL fun j=>?_
     rcases lR j i with h|h
     ·have hx:=bM (l:=L) (i:=j) (by rw [Ll.o.1];exact h);rw [hx,hall.o j _ h hx]
     ·rw [pQ (by rw [Ll.o.1];exact h),pQ (by rw [Ll.o.2];exact h)]
    go_wp2
    go_ret
    exact⟨rfl,hbr⟩
 ·obtain rfl:R=false:=by
   rw [←a4.o,vI];rintro rfl;have:=Ll.o;omega
  go_enter Tryz.func77,Tryz.ntmps77;go_wp2
  go_ret
  exact⟨rfl,bD _ _⟩
def Md.ind (M:Md):Ind:=(M.nm,M.ar)
def tV (X M:Md):Bool:=decide (X.ind=M.ind)&&decide (X.io=M.io)
def qY {v0 v1 v2:Value} {e:TypeId} {fr:Nat × Nat} (h:w.heap[g]?=some (.cells #[v0,v1,v2] e fr)):
  w.cell? ⟨g,0,none⟩=some v0∧w.cell? ⟨g,1,none⟩=some v1∧w.cell? ⟨g,2,none⟩=some v2:=by
 simp [World.cell?,h]
def YS (X M:Md) (n mb:Nat) (b:Option Addr) (d:Nat) (w:Wo) (vs:Lv) (hX:MdV n w X vs) (hM:w.heap[mb]?=some (.cells #[.string M.nm,.int .i64 M.ar,.slice b M.io.length d] 66 (0,0))) (hI:IntsAt n w b M.io) (hn:n≤w.heap.size):
  Cz 76 #[.agg vs.toArray,.pointer (some ⟨mb,0,none⟩)] w (dJ w (tV X M)):=by
 obtain⟨a,c,rfl,hXI,hXl⟩:=hX;obtain⟨xn,xa,xs⟩:=X;obtain⟨mn,ma,ms⟩:=M;dsimp only at hXI hXl hM hI ⊢;obtain⟨B1,hB1⟩:∃b,decide ((xn,xa)=(mn,ma))=b:=⟨_,rfl⟩;obtain⟨B2,hB2⟩:∃b,decide (xs=ms)=b:=⟨_,rfl⟩;have hS:tV ⟨xn,xa,xs⟩ ⟨mn,ma,ms⟩=(B1&&B2):=by rw [←hB1,←hB2];rfl
 rw [hS];have b0:=aC w (Obj.cells #[.string xn,.int .i64 xa,.slice a xs.length c] 66);have hq:=aJ w (Obj.cells #[.string xn,.int .i64 xa,.slice a xs.length c] 66);have a1:mb<w.heap.size:=(aG.1 hM).1;obtain⟨wb,hwb⟩:=enm (w.alloc (Obj.cells #[.string xn,.int .i64 xa,.slice a xs.length c] 66));rw [hwb] at b0 hq;obtain⟨y0,y1,y2⟩:=qY ((b0.block mb a1).trans hM);obtain⟨x0,x1,x2⟩:=qY hq;have d1:=Fl xs ms n a b c d wb (hXI.below b0 hn) (hI.below b0 hn) (aD hn b0.size) hXl;rw [hB2] at d1;have a2:=qN xn mn xa ma;have a3:=sH;rw [hB1] at a2;have a0:=aside b0;generalize xs.length=l1,ms.length=l2 at*;clear hq b0 hM hI hXI hB1 hB2 hS;go_enter Tryz.func76,Tryz.ntmps76
 go_upto_region 1 with fail
 clear hwb;cases B1
 ·go_wp2_with (go_at_call 77;(with_reducible refine d1.mono ?_);rintro e w3 ⟨rfl,hb3⟩)
  go_ret
  exact⟨rfl,a0.o⟩
 ·go_wp2_with (go_at_call 77;(with_reducible refine d1.mono ?_);rintro e w3 ⟨rfl,hb3⟩)
  go_ret
  exact⟨by simp,a0.o.trans (hb3.mono a0.o.size)⟩
section
attribute [local go_sem] Heavy.uponW
def Bk (X:Md) (A:Tm) (n tb ab ao len c:Nat) (u0 u1 u2 u3 u4 u5:Value) (w:Wo) (vs va:Lv) (hX:MdV n w X vs) (hT:w.heap[tb]?=some (.cells #[u0,u1,u2,u3,u4,u5,.slice (some ⟨ab,ao,none⟩) len c] 48 (0,0)))
  (hl:0<len) (a7:ab<n) (hc:CellsAt w ab ao va) (hA:TmV n w A va) (hn:n≤w.heap.size):
  Cz 135 #[.agg vs.toArray,.pointer (some ⟨tb,0,none⟩)] w (dJ w (decide (X.ind=A.ind))):=by
 obtain⟨a,c',rfl,_⟩:=hX;obtain⟨xn,xa,xs⟩:=X;dsimp only;obtain⟨k,v,nm,g,num,den,args⟩:=A;simp only [TmV] at hA;obtain⟨_,_,a2,c2,rfl,⟨⟨p1,q1,rfl,_⟩,⟨p2,q2,rfl,_⟩⟩,_⟩:=hA;obtain⟨B1,hB1⟩:∃b,decide ((xn,xa)=(nm,(args.length:Int)))=b:=⟨_,rfl⟩;have hS:decide (Md.ind ⟨xn,xa,xs⟩=(Tm.mk k v nm g num den args).ind)=B1:=by rw [←hB1];rfl
 rw [hS];have a6:=qN xn nm xa args.length;have a9:=sH;rw [hB1] at a6;generalize xs.length=l1,args.length=l2,num.length=n1,den.length=n2 at*;have b0:=aC w (Obj.cells #[.string xn,.int .i64 xa,.slice a l1 c'] 66);have hq:=aJ w (Obj.cells #[.string xn,.int .i64 xa,.slice a l1 c'] 66);have a4:tb<w.heap.size:=(aG.1 hT).1;obtain⟨wb,hwb⟩:=enm (w.alloc (Obj.cells #[.string xn,.int .i64 xa,.slice a l1 c'] 66));have a5:wb.heap.size=w.heap.size+1:=by rw [←hwb];simp
 rw [hwb] at b0 hq;have a1:Aside (∀w2,Bz wb w2→(w2.cell? ⟨w.heap.size,0,none⟩=some (.string xn)∧w2.cell? ⟨w.heap.size,1,none⟩=some (.int .i64 xa))∧w2.cell? ⟨tb,6,none⟩=some (.slice (some ⟨ab,ao,none⟩) len c)∧CellsAt w2 ab ao [.int .i64 k,.int .i64 v,.string nm,.bool g,.slice p1 n1 q1,.slice p2 n2 q2,.slice a2 l2 c2]):=fun w2 hb=>by
  have h1:=qY ((hb.block w.heap.size (by omega)).trans hq);have hB:=b0.trans (hb.mono b0.size);have h2:=bZ ((hB.block tb a4).trans hT);exact⟨⟨h1.1,h1.2.1⟩,h2.2.2.2.2.2.2,hc.below hB (by omega)⟩
 have dk:Aside (∀w2,Cz 26 #[.agg (tA k v nm g p1 n1 q1 p2 n2 q2 a2 l2 c2)] w2 fun e w'=>e= .returned (.agg #[.string nm,.int .i64 l2])∧Bz w2 w'):=fun w2=>oR k v nm g _ _ _ _ _ w2
 have a3:=aside b0;have a8:(0:Int)<(len:Int):=by omega
 clear hq b0 hT hc hB1 hS a5 a4;go_enter Tryz.func135,Tryz.ntmps135
 go_upto_region 1 with fail
 clear hwb;have fd:Bz wb wb.drew:=dO _ _;refine hRp (Bz wb) 7 (Heavy.lights [0,1,2,3,4,5] (.one 6 .done)) (by kernel_rfl) (by kernel_rfl) fd ?_;simp only [Heavy.lights,bL,bY,aZ,bG]
 (apply hLm;(exact rfl);(exact rfl);(intro a0 hw;go_simp;exact rfl);(go_simp;exact rfl))
 (apply hLm;(exact rfl);(exact rfl);(intro a0 hw;obtain⟨⟨x0,x1⟩,_⟩:=a1.o a0 hw;go_simp;exact rfl);(go_simp;exact rfl))
 (apply hLm;(exact rfl);(exact rfl);(intro a0 hw;go_simp;exact rfl);(go_simp;exact rfl))
 (apply hLm;(exact rfl);(exact rfl);(intro a0 hw;obtain⟨_,x0,_⟩:=a1.o a0 hw;go_simp;exact rfl);(go_simp;exact rfl))
 (apply hLm;(exact rfl);(exact rfl);(intro a0 hw;go_simp;exact rfl);(go_simp;exact rfl))
 (apply hLm;(exact rfl);(exact rfl);(intro a0 hw;obtain⟨_,_,hh⟩:=a1.o a0 hw;have x0:a0.cell? ⟨ab,ao,none⟩=_:=hh 0 _ rfl;have x1:=hh 1 _ rfl;have x2:=hh 2 _ rfl;have x3:=hh 3 _ rfl;have x4:=hh 4 _ rfl;have x5:=hh 5 _ rfl;have x6:=hh 6 _ rfl;clear hh;go_simp;exact rfl);(go_simp;exact rfl))
 (apply hOn;(exact rfl);(exact rfl));go_simp
 refine(dk.o _).mono ?_;rintro e wk ⟨rfl,hbk⟩;have ek:Bz wb wk:=fd.trans (hbk.mono fd.size);refine⟨_,rfl,ek,?_⟩
 (refine hNa (by go_simp;exact rfl) ?_)
 apply hPe;show wpList _ _ _ _ _ _;have hL:Aside (Bz w wk):=a3.o.trans (ek.mono a3.o.size);clear hbk ek fd;go_wp2
 go_ret
 exact⟨rfl,hL.o⟩
end
