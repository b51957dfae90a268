/- Lemmas; no condition. -/
import Derived.Test.YtealgacfnbbgdaaGreatDoorAi
import Derived.Test.YtealgacfnbbgdaaGreatDoorRows
import Derived.ProofKit
import Derived.OpenShut
import Derived.Deep.Slices
import Derived.Deep.Fields
import Derived.ChangeSame
import Derived.Lib.SmallJoins
import Derived.Carry
import Derived.RangeFuncFrom
import Derived.RangeFuncBox
import Derived.RangeFuncLeaves
import Derived.Shelf.Abstract
import Derived.OwnWalkIn
import Derived.TacticsInMore
import Derived.LoopNIn
import Derived.LoopIn
import Derived.Shelf.SlIterI.Collect
import Derived.KernelRfl
import Derived.Deep.LoopGhost
set_option linter.all false
set_option maxHeartbeats 4000000
set_option maxRecDepth 100000
namespace Go.Proofs.YtealgacfnbbgdaaGreatDoor
open Go.ChangeShapes Go.WideShapes Go.Deep Go.RowKit Go.Joins
variable {H:Type} {v:Value} {cs:Lv} {a7:Nat} {W:Wo}
def uT {d:DataW H} {l:List (DataW H)} (h:d∈l):Rows.uptoBulk d≤Rows.uptoBulkAll l:=by
 induction l with
 |nil=>cases h
 |cons x r ih=>
  simp only [Rows.uptoBulkAll];cases cN.1 h with
  |inl e=>subst e;omega
  |inr e=>have:=ih e;omega
def XW (d:DataW H):1≤Rows.uptoBulk d:=by
 cases d with
 |lit l=>cases l<;>simp [Rows.uptoBulk]
 |nil=>simp [Rows.uptoBulk]
 |ptr d=>simp [Rows.uptoBulk]
 |slice elems spare=>simp [Rows.uptoBulk]
 |agg parts=>simp [Rows.uptoBulk]
 |iface t d=>simp [Rows.uptoBulk]
 |map entries=>simp [Rows.uptoBulk]
 |held h=>simp [Rows.uptoBulk]
def XX (l:List (DataW H)):l.length≤Rows.uptoBulkAll l:=by
 induction l with
 |nil=>simp [Rows.uptoBulkAll]
 |cons x r ih=>have:=XW x;simp only [Rows.uptoBulkAll,jD];omega
def KB {A:Type} {P:Nat→A→Prop}:∀n:Nat,(∀i,i<n→∃x,P i x)→∃L:List A,L.length=n∧∀i x,L[i]?=some x→P i x
 |0,_=>⟨[],rfl,fun i x h=>by simp at h⟩
 | n+1,h=>by
  obtain⟨L,h1,h2⟩:=KB n fun i hi=>h i (by omega)
  obtain⟨x,hx⟩:=h n (by omega);refine⟨L++ [x],by simp [h1],fun i y hy=>?_⟩
  by_cases hi:i<n
  ·rw [gM (by omega)] at hy;exact h2 i y hy
  ·rw [iE (by omega)] at hy;have h0:i-L.length=0:=by
    have:=(aZ.1 hy).1;simp at this;omega
   rw [h0] at hy;simp at hy;subst hy;have:i=n:=by omega
   rw [this];exact hx
def Cb {z:Int} (h:(Lit.int .u32 z).wf=true):0≤z∧z<4294967296:=by
 simp [Lit.wf,IntKind.wrap,IntKind.min,IntKind.max,IntKind.bits,IntKind.signed] at h;omega
def ZF {a:Addr} (h:W.cell? a=some v):∃b o,a=⟨b,o,none⟩:=by
 have c8:a.spot=none:=by
  cases hs:a.spot with
  |none=>rfl
  |some s=>
   unfold World.cell? at h;rw [hs] at h;split at h<;>simp at h
 obtain⟨ab,ao,asp⟩:=a;simp only at c8;subst c8;exact⟨ab,ao,rfl⟩
def NC (ab ao k:Nat):Addr.add ⟨ab,ao,none⟩ k=⟨ab,ao+k,none⟩:=by
 unfold Addr.add;split
 ·next h=>subst h;rfl
 ·rfl
def Ou:Tryz.prog.cellsOf 83=1:=by kernel_rfl
def FM:Tryz.prog.cellsOf 27=7:=by kernel_rfl
def XG:Tryz.prog.cellsOf 24=3:=by kernel_rfl
def Ow:Tryz.prog.cellsOf 25=1:=by kernel_rfl
def XH:Tryz.prog.cellsOf 22=1:=by kernel_rfl
def MG:Tryz.prog.cellsOf 3=1:=by kernel_rfl
def cells4:Tryz.prog.cellsOf 4=1:=by kernel_rfl
def cells9:Tryz.prog.cellsOf 9=1:=by kernel_rfl
section
variable {H:Type} {a8:TypeId × Value→H} {W:Wo}
def TM {x:DataW H × List MemPlace} (h:DataW.trod a8 Tryz.prog W 0 (fun _=>true) true a7 22 cs=some x):
  ∃(ao:Option Addr) (cap:Nat) (L:List Nat),cs= [.slice ao L.length cap]∧L.length≤Rows.uptoBulk x.1∧dL W.heap.size W ao L:=by
 rcases open_slice Tryz.underlying22 h with⟨rfl,rfl⟩|⟨a,len,cap,m,n,D,Pl,rfl,_,hl,_,hm,rfl,hi⟩
 ·exact⟨none,0,[],rfl,by simp,(fun x hx=>by simp at hx),fun h=>absurd rfl h⟩
 ·have b7:len≤Rows.uptoBulkAll ((List.range len).map D):=by
   have h1:=XX ((List.range len).map D);rw [mB,List.length_range] at h1;omega
  have d1:len≤m:=by rw [hm];simpa using hl
  obtain⟨L,hL1,hL2⟩:=KB (P:=fun i (x:Nat)=>x<4294967296∧W.cell? (a.add i)=some (.int .u32 x)) len fun i c7=>by
   obtain⟨b8,hc,ht⟩:=hi i (by omega);obtain⟨z,rfl,_,hw⟩:=NZ Tryz.underlying83 ht;obtain⟨h0,h1⟩:=Cb hw;rw [Ou,tF] at hc;obtain⟨_,_,hat⟩:=ZM hc;have h3:=hat 0 (by decide);rw [Go.Deep.add_add,gQ] at h3;refine⟨z.toNat,by omega,?_⟩;rw [h3,Int.toNat_of_nonneg h0];rfl
  refine⟨some a,cap,L,by rw [hL1],by simp only [Rows.uptoBulk];omega,?_,fun d2=>?_⟩
  ·intro x hx;obtain⟨i,hi⟩:=List.getElem?_of_mem hx;exact(hL2 i x hi).1
  ·obtain⟨x0,hx0⟩:∃x0,L[0]?=some x0:=by
    cases L with
    |nil=>exact absurd rfl d2
    |cons x L=>exact⟨x,rfl⟩
   have a9:=(hL2 0 x0 hx0).2;have b9:a.add 0=a:=by simp [Addr.add]
   rw [b9] at a9;obtain⟨ab,ao,rfl⟩:=ZF a9;refine⟨ab,ao,rfl,tD a9,fun j x hx=>?_⟩;have:=(hL2 j x hx).2
   rwa [NC] at this
def KC {α:Type} {l:List α} (h:l.length=3):∃a b c,l= [a,b,c]:=by
 match l,h with
 | [a,b,c],_=>exact⟨a,b,c,rfl⟩
def list5 {α:Type} {l:List α} (h:l.length=5):∃a b c d e,l= [a,b,c,d,e]:=by
 match l,h with
 | [a,b,c,d,e],_=>exact⟨a,b,c,d,e,rfl⟩
def list7 {α:Type} {l:List α} (h:l.length=7):∃a b c d e f g,l= [a,b,c,d,e,f,g]:=by
 match l,h with
 | [a,b,c,d,e,f,g],_=>exact⟨a,b,c,d,e,f,g,rfl⟩
def If {x:DataW H × List MemPlace} (h:DataW.trod a8 Tryz.prog W 0 (fun _=>true) true a7 24 cs=some x):
  ∃(g:Bool) (s1 s2:Value) (num den:List Nat),cs= [.bool g,s1,s2]∧NumAt W.heap.size W g s1 s2 num den∧num.length≤Rows.uptoBulk x.1∧den.length≤Rows.uptoBulk x.1:=by
 obtain⟨xs,n,_,rfl,hl,hx,hf⟩:=Bc Tryz.underlying24 h;rw [XG] at hl;obtain⟨c0,c1,c2,rfl⟩:=KC hl;obtain⟨y0,y1,y2,rfl⟩:=KC (hx.trans rfl);have h0:DataW.trod a8 Tryz.prog W 0 (fun _=>true) true n 4 (([c0,c1,c2].drop 0).take (Tryz.prog.cellsOf 4))=some y0:=hf 0 _ rfl;rw [cells4] at h0;have h1:DataW.trod a8 Tryz.prog W 0 (fun _=>true) true n 22 (([c0,c1,c2].drop 1).take (Tryz.prog.cellsOf 22))=some y1:=hf 1 _ rfl;rw [XH] at h1;have h2:DataW.trod a8 Tryz.prog W 0 (fun _=>true) true n 22 (([c0,c1,c2].drop 2).take (Tryz.prog.cellsOf 22))=some y2:=hf 2 _ rfl;rw [XH] at h2;obtain⟨g,e0,_⟩:=DataW.trod_bool Tryz.underlying4 h0;obtain⟨a1,p1,L1,e1,b1,l1⟩:=TM h1;obtain⟨a2,p2,L2,e2,b2,l2⟩:=TM h2;simp only [gB,gS,gL,iJ,kM,BS] at e0 e1 e2;subst e0 e1 e2;have m1:=uT (d:=y1.1) (l:=[y0.1,y1.1,y2.1]) (by simp);have m2:=uT (d:=y2.1) (l:=[y0.1,y1.1,y2.1]) (by simp);refine⟨g,_,_,L1,L2,rfl,⟨⟨a1,p1,rfl,l1⟩,⟨a2,p2,rfl,l2⟩⟩,?_,?_⟩<;>simp only [kL,GS,Rows.uptoBulk]<;>omega
def OU {n:Nat} {w:Wo} {b off:Nat} (hb:b<n):∀(L:List Tm) (i:Nat),(∀k T,L[k]?=some T→∃vs,(∀(j:Nat) u,vs[j]?=some u→w.cell? ⟨b,off+(i+k)*7+j,none⟩=some u)∧TmV n w T vs)→eV n w L (some ⟨b,off,none⟩) i
 | [],_,_=>by simp only [eV]
 |T::r,i,h=>by
  simp only [eV];obtain⟨vs,h1,h2⟩:=h 0 T rfl;refine⟨⟨b,off,vs,rfl,hb,fun j u hj=>by have:=h1 j u hj;rwa [gQ] at this,h2⟩,OU hb r (i+1) fun k T' hk=>?_⟩;obtain⟨d4,h3,h4⟩:=h (k+1) T' (by simpa using hk);exact⟨d4,fun j u hj=>by have:=h3 j u hj;rwa [show i+(k+1)=i+1+k by omega] at this,h4⟩
def OW:∀(B:Nat),B≤1048576→∀(a7:Nat) (cs:Lv) (x:DataW H × List MemPlace),DataW.trod a8 Tryz.prog W 0 (fun _=>true) true a7 27 cs=some x→Rows.uptoBulk x.1≤B→∃T,TmV W.heap.size W T cs:=by
 intro B
 induction B with
 |zero=>
  intro _ a7 cs x _ hb;have:=XW x.1;omega
 | succ B ih=>
  intro hB a7 cs x h hb;obtain⟨xs,n,_,rfl,hl,hx,hf⟩:=Bc Tryz.underlying27 h;rw [FM] at hl;obtain⟨c0,c1,c2,c3,c4,c5,c6,rfl⟩:=list7 hl;obtain⟨y0,y1,y2,y3,y4,rfl⟩:=list5 (hx.trans rfl);have h0:DataW.trod a8 Tryz.prog W 0 (fun _=>true) true n 3 (([c0,c1,c2,c3,c4,c5,c6].drop 0).take (Tryz.prog.cellsOf 3))=some y0:=hf 0 _ rfl;rw [MG] at h0;have h1:DataW.trod a8 Tryz.prog W 0 (fun _=>true) true n 3 (([c0,c1,c2,c3,c4,c5,c6].drop 1).take (Tryz.prog.cellsOf 3))=some y1:=hf 1 _ rfl;rw [MG] at h1;have h2:DataW.trod a8 Tryz.prog W 0 (fun _=>true) true n 9 (([c0,c1,c2,c3,c4,c5,c6].drop 2).take (Tryz.prog.cellsOf 9))=some y2:=hf 2 _ rfl;rw [cells9] at h2;have h3:DataW.trod a8 Tryz.prog W 0 (fun _=>true) true n 24 (([c0,c1,c2,c3,c4,c5,c6].drop 3).take (Tryz.prog.cellsOf 24))=some y3:=hf 3 _ rfl;rw [XG] at h3;have h4:DataW.trod a8 Tryz.prog W 0 (fun _=>true) true n 25 (([c0,c1,c2,c3,c4,c5,c6].drop 6).take (Tryz.prog.cellsOf 25))=some y4:=hf 4 _ rfl;rw [Ow] at h4;obtain⟨k,e0,_⟩:=NZ Tryz.underlying3 h0;obtain⟨v,e1,_⟩:=NZ Tryz.underlying3 h1;obtain⟨nm,e2,_⟩:=DataW.trod_string Tryz.underlying9 h2;obtain⟨g,s1,s2,num,den,e3,hN,bn,bd⟩:=If h3;simp only [gB,gS,gL,iJ,kM,BS] at e0 e1 e2 e3;obtain⟨rfl,rfl,rfl⟩:=e3;subst e0 e1 e2;have m3:=uT (d:=y3.1) (l:=[y0.1,y1.1,y2.1,y3.1,y4.1]) (by simp);have m4:=uT (d:=y4.1) (l:=[y0.1,y1.1,y2.1,y3.1,y4.1]) (by simp);simp only [kL,GS,Rows.uptoBulk] at hb;rcases open_slice Tryz.underlying25 h4 with⟨e4,_⟩|⟨a,len,cap,m,n',D,Pl,e4,_,hl4,_,hm,e5,hi⟩
  ·simp only [gB,gS,gL,iJ,kM,BS] at e4;subst e4;refine⟨.mk k v nm g num den [],?_⟩;simp only [TmV,eV];exact⟨c4,c5,none,0,rfl,hN,trivial,by simp,by omega,by omega⟩
  ·simp only [gB,gS,gL,iJ,kM,BS] at e4;subst e4;have d3:Rows.uptoBulk y4.1=Rows.uptoBulk (DataW.slice ((List.range len).map D) ((List.range (m-len)).map fun j=>D (len+j))):=by rw [e5]
   simp only [Rows.uptoBulk] at d3;clear e5;have b7:len≤Rows.uptoBulkAll ((List.range len).map D):=by
    have h1:=XX ((List.range len).map D);rw [mB,List.length_range] at h1;omega
   have d1:len≤m:=by rw [hm];simpa using hl4
   obtain⟨L,hL1,hL2⟩:=KB (P:=fun i (T:Tm)=>∃vs,W.cells? 0 (a.add (i*7)) 7=some vs∧TmV W.heap.size W T vs) len fun i c7=>by
    obtain⟨b8,hc,ht⟩:=hi i (by omega);rw [FM] at hc;have hd:=uT (d:=D i) (l:=(List.range len).map D) (gF.2 ⟨i,GP.2 c7,rfl⟩);obtain⟨T,hT⟩:=ih (by omega) n' b8 (D i,Pl i) ht (by show Rows.uptoBulk (D i)≤B;omega);exact⟨T,b8,hc,hT⟩
   refine⟨.mk k v nm g num den L,?_⟩;simp only [TmV];refine⟨c4,c5,some a,cap,by rw [hL1],hN,?_,by omega,by omega,by omega⟩;cases L with
   |nil=>simp only [eV]
   |cons T0 L0=>
    obtain⟨d5,hc0,hv0⟩:=hL2 0 T0 rfl;obtain⟨_,hlen0,hat0⟩:=ZM hc0;have a9:=hat0 0 (by decide);rw [wK,Go.Deep.add_add,cE (by omega)] at a9;have b9:a.add (0+0)=a:=by simp [Addr.add]
    rw [b9] at a9;obtain⟨ab,ao,rfl⟩:=ZF a9;refine OU (tD a9) _ 0 fun kk T hT=>?_
    obtain⟨vs,hc,hv⟩:=hL2 kk T hT;refine⟨vs,fun j u hj=>?_,hv⟩;obtain⟨_,b7,hat⟩:=ZM hc;have d0:j<7:=by have:=(aZ.1 hj).1;omega
    have:=hat j d0;rw [NC,NC,hj] at this;rw [dH];exact this
end
def Ov:Tryz.prog.cellsOf 29=15:=by kernel_rfl
def Cn (h:cs.length=15):∃c,cs=(cs.drop 0).take 7++(cs.drop 7).take 7++ [c]∧(cs.drop 14).take 1= [c]:=by
 match cs,h with
 | [a0,a1,a2,a3,a4,a5,a6,b0,b1,b2,b3,b4,b5,b6,c],_=>exact⟨c,rfl,rfl⟩
def Ok {a8:TypeId × Value→H} {base:Nat} {d:DataW H} {p:List MemPlace} (hv:Value.okWide Tryz.prog W .any base 29 v) (h:DataW.Trod a8 Tryz.prog W 0 (fun _=>true) true 29 v d p) (hb:Rows.uptoBulk d≤1048576):
  ∃(C:Cl) (vs:Lv),v= .agg vs.toArray∧ClV W.heap.size W C vs:=by
 obtain⟨cs,rfl,_⟩:=okWide_struct Tryz.underlying29 hv;obtain⟨a7,hf⟩:=h;obtain⟨xs,n,_,he,hl,hx,hf⟩:=Bc Tryz.underlying29 hf;have c9:d= .agg (xs.map (·.1)):=cI Prod.fst he;rw [Ov] at hl;replace hl:cs.toList.length=15:=hl;obtain⟨y0,y1,y2,rfl⟩:=KC (hx.trans rfl);have h0:DataW.trod a8 Tryz.prog W 0 (fun _=>true) true n 27 ((cs.toList.drop 0).take (Tryz.prog.cellsOf 27))=some y0:=hf 0 _ rfl;rw [FM] at h0;have h1:DataW.trod a8 Tryz.prog W 0 (fun _=>true) true n 27 ((cs.toList.drop 7).take (Tryz.prog.cellsOf 27))=some y1:=hf 1 _ rfl;rw [FM] at h1;have h2:DataW.trod a8 Tryz.prog W 0 (fun _=>true) true n 3 ((cs.toList.drop 14).take (Tryz.prog.cellsOf 3))=some y2:=hf 2 _ rfl;rw [MG] at h2;have m0:=uT (d:=y0.1) (l:=[y0.1,y1.1,y2.1]) (by simp);have m1:=uT (d:=y1.1) (l:=[y0.1,y1.1,y2.1]) (by simp);rw [c9] at hb;simp only [kL,GS,Rows.uptoBulk] at hb;obtain⟨T,hT⟩:=OW 1048576 (aA _) n _ y0 h0 (by omega);obtain⟨U,hU⟩:=OW 1048576 (aA _) n _ y1 h1 (by omega);obtain⟨z,e2,_⟩:=NZ Tryz.underlying3 h2;obtain⟨c,e3,e4⟩:=Cn hl;rw [e4] at e2;simp only [kM,BS] at e2;refine⟨⟨T,U,z⟩,cs.toList,by simp,_,_,?_,hT,hU⟩;show cs.toList=_++_++ [.int .i64 z];rw [←e2];exact e3
end Go.Proofs.YtealgacfnbbgdaaGreatDoor
namespace Go.Proofs.YtealgacfnbbgdaaGreatDoor
open Go.RowKit Go.Maps Go.Sort Go.Shelf
variable {s:ByteArray} {v:Value} {W:Wo} {a:Addr} {Bs B:Nat}
attribute [local go_sem] Oper.semAt_some
def spB (b:Nat):Bool:=b==9||b==10||b==11||b==12||b==13||b==32
def eQ (w:Wo):Prop:=∀b,b<256→w.cell? ⟨2,b,none⟩=some (.int .u8 (if spB b then 1 else 0))
def Ox {t:TypeId} (h:W.heap[B]?=some (.cells #[v] t (0,0))):W.cell? ⟨B,0,none⟩=some v∧W.frozen? ⟨B,0,none⟩=false:=by
 constructor<;>simp [World.cell?,World.frozen?,h]
def oF (W:Wo) (v:Value) (t:TypeId):(W.alloc (.cells #[v] t)).cell? ⟨W.heap.size,0,none⟩=some v∧(W.alloc (.cells #[v] t)).frozen? ⟨W.heap.size,0,none⟩=false:=
 Ox (GE W _)
def kI (o:Obj) (h:W.cell? a=some v):(W.alloc o).cell? a=some v:=cell_kept h (World.grownBy_alloc W o none) (fun r e=>by cases e)
def AM (o:Obj) (h:W.cell? a=some v) (hf:W.frozen? a=false):(W.alloc o).frozen? a=false:=(NI h (World.grownBy_alloc W o none) (fun r e=>by cases e)).trans hf
def VQ (s:ByteArray) (w:Wo):Cz 208 #[.string s] w fun e w'=>e= .returned (.func (.func 282) #[] #[.pointer (some ⟨w.heap.size,0,none⟩)])∧w'=w.alloc (.cells #[.string s] 9):=by
 go_enter Tryz.func208,Tryz.ntmps208;go_wp2
 go_ret
 exact⟨rfl,rfl⟩
def kG (s:ByteArray):Nat→List ByteArray × Option Nat
 |0=>([],none)
 |i+1=>match kG s i with
  |(pre,none)=>if spB (s[i]!).toNat then(pre,none) else(pre,some i)
  |(pre,some a)=>if spB (s[i]!).toNat then(pre++ [s.extract a i],none) else(pre,some a)
def fieldsOf (s:ByteArray):List ByteArray:=
 match kG s s.size with
 |(pre,none)=>pre
 |(pre,some a)=>pre++ [s.extract a s.size]
def Lj (s:ByteArray) (i:Nat):(kG s i).1<+:(kG s (i+1)).1:=by
 rw [kG];cases h:kG s i with
 | mk pre o=>
  cases o with
  |none=>dsimp only;split<;>exact List.prefix_refl _
  |some a=>
   dsimp only;split
   ·exact Rk _ _
   ·exact List.prefix_refl _
def VC (s:ByteArray) {i:Nat}:∀{j:Nat},i≤j→(kG s i).1<+:(kG s j).1
 |0,h=>by
  obtain rfl:i=0:=by omega
  exact List.prefix_refl _
 |j+1,h=>by
  by_cases e:i=j+1
  ·subst e;exact List.prefix_refl _
  ·exact(VC s (by omega:i≤j)).trans (Lj s j)
def Lk (s:ByteArray) {i:Nat} {l:List ByteArray} {o:Option Nat} (h:i≤s.size) (e:kG s i=(l,o)):l<+:fieldsOf s:=by
 have h1:=VC s h;rw [e] at h1;unfold fieldsOf;cases hs:kG s s.size with
 |mk pre o=>
  rw [hs] at h1;cases o with
  |none=>exact h1
  |some a=>exact h1.trans (Rk _ _)
def KpF (Bs:Nat) (s:ByteArray) (W W':Wo):Prop:=(W.cell? ⟨Bs,0,none⟩=some (.string s)→W'.cell? ⟨Bs,0,none⟩=some (.string s))∧(eQ W→eQ W')
def KpF.trans {A B C:Wo} (h:KpF Bs s A B) (k:KpF Bs s B C):KpF Bs s A C:=⟨fun x=>k.1 (h.1 x),fun x=>k.2 (h.2 x)⟩
def KpF.putObj (W:Wo) (l:Nat) (o o':Obj) (hl:W.heap[l]?=some o) (ho:o.isCells=false):KpF Bs s W (W.putObj l o'):=by
 have key:∀(b j:Nat) (v:Value),W.cell? ⟨b,j,none⟩=some v→(W.putObj l o').cell? ⟨b,j,none⟩=some v:=by
  intro b j v hc;refine cell_kept hc (yO W l o') (fun r e=>?_);cases e;exact⟨o,hl,ho⟩
 exact⟨fun x=>key _ _ _ x,fun x b hb=>key _ _ _ (x b hb)⟩
def Lz (F:Fence) (n:Nat) (hf:F.fn 282) (a4:F.round=none) (hn:1≤n) (l Bs:Nat) (s:ByteArray) (b1:s.size≤1000000) (a2:∀i,i<s.size→(s[i]!).toNat<128) (J Jx:List ByteArray→Wo→Prop)
  (hY:∀pre y W,J pre W→pre.length<s.size→YieldAt F (n-1) Tryz.prog l #[.string y] W fun e W'=>
   (e= .returned (.bool true)∧J (pre++ [y]) W'∧KpF Bs s W W')∨(e= .returned (.bool false)∧Jx (pre++ [y]) W'))
  (W:Wo) (b3:W.cell? ⟨Bs,0,none⟩=some (.string s)) (a5:eQ W) (h0:J [] W):
  CallsIn F n Tryz.prog 282 #[.func (.yield l) #[] #[],.pointer (some ⟨Bs,0,none⟩)] W fun e W'=>(∃v,e= .returned v)∧
   ((∃ys,ys=fieldsOf s∧J ys W')∨(∃pre,pre<+:fieldsOf s∧Jx pre W')):=by
 refine callsIn_of_wp Tryz.func282 rfl hf ?_ a4;simp only [Tryz.ntmps282,GN,jD,pN,Nat.reduceAdd,Nat.reduceSub,HI,HH,GO,HB,lG,mF]
 gi_wp2
 gi_loopw [3,4] (fun p q wr=>∃(pre:List ByteArray) (i:Nat),q= .int .i64 i∧i≤s.size∧J pre wr∧wr.cell? ⟨Bs,0,none⟩=some (.string s)∧eQ wr∧
   ((p= .int .i64 (-1)∧pre.length≤i∧Aside (kG s i=(pre,none)))∨∃a:Nat,p= .int .i64 a∧a<i∧pre.length≤a∧Aside (kG s i=(pre,some a))))
  (fun _ q _=>s.size-(Go.RowKit.intOf q).toNat)
 case atStart=>exact⟨[],0,rfl,cJ _,h0,b3,a5,.inl ⟨rfl,by simp,rfl⟩⟩
 case round=>
  obtain⟨pre,i,rfl,hi,hJ,hc,hsw,hst⟩:=hrel
  by_cases hlt:i<s.size
  ·have a1:(s[i]!)=s[i]:=getElem!_pos s i hlt;obtain⟨c,hcc⟩:=enm ((s[i]'hlt).toNat);have hb:c<128:=by have:=a2 i hlt;rw [a1,hcc] at this;exact this
   have b0:=hsw c (by omega);have b9:(c:Int)<256:=by omega
   have c0:(c:Int)<128:=by omega
   have c1:¬(128:Int)≤(c:Int):=by omega
   have b7:wrap32 (c:Int)=(c:Int):=by unfold wrap32;omega
   have b6:(i:Int)<(s.size:Int):=by omega
   have c2:=ewr (i:=i) (by omega);have a6:spB (s[i]!).toNat=spB c:=by rw [a1,hcc]
   have a0:Aside (kG s (i+1)=match kG s i with
    |(pre,none)=>if spB c then(pre,none) else(pre,some i)
    |(pre,some a)=>if spB c then(pre++ [s.extract a i],none) else(pre,some a)):=by
    show _=_;rw [kG,a6]
   cases hspb:spB c
   ·simp only [hspb,fT,kK] at b0;rcases hst with⟨rfl,hp,ha⟩|⟨a,rfl,hai,hp,ha⟩
    ·have hA:Aside (kG s (i+1)=(pre,some i)):=by have h1:=a0.o;rw [ha.o,hspb] at h1;exact h1
     gi_wp2
     exact⟨⟨pre,i+1,by simp,by omega,hJ,hc,hsw,.inr ⟨i,rfl,by omega,hp,hA⟩⟩,by simp [Go.RowKit.intOf];omega⟩
    ·have a8:(0:Int)≤(a:Int):=by omega
     have a9:¬(a:Int)<0:=by omega
     have hA:Aside (kG s (i+1)=(pre,some a)):=by have h1:=a0.o;rw [ha.o,hspb] at h1;exact h1
     gi_wp2
     exact⟨⟨pre,i+1,by simp,by omega,hJ,hc,hsw,.inr ⟨a,rfl,by omega,hp,hA⟩⟩,by simp [Go.RowKit.intOf];omega⟩
   ·simp only [hspb,if_true] at b0;rcases hst with⟨rfl,hp,ha⟩|⟨a,rfl,hai,hp,ha⟩
    ·have hA:Aside (kG s (i+1)=(pre,none)):=by have h1:=a0.o;rw [ha.o,hspb] at h1;exact h1
     gi_wp2
     exact⟨⟨pre,i+1,by simp,by omega,hJ,hc,hsw,.inl ⟨rfl,by omega,hA⟩⟩,by simp [Go.RowKit.intOf];omega⟩
    ·have a8:(0:Int)≤(a:Int):=by omega
     have a9:¬(a:Int)<0:=by omega
     have b4:(a:Int)≤(i:Int):=by omega
     have b8:(i:Int)≤(s.size:Int):=by omega
     have hA:Aside (kG s (i+1)=(pre++ [s.extract a i],none)):=by have h1:=a0.o;rw [ha.o,hspb] at h1;exact h1
     have a3:Aside (pre++ [s.extract a i]<+:fieldsOf s):=Lk s (Nat.succ_le_of_lt hlt) hA.o;obtain⟨fn,tmps,assign,body,hy,hR⟩:=hY pre (s.extract a i) wr hJ (by omega)
     gi_wp2
     refine hR.mono ?_;rintro e W3 (⟨rfl,hJ3,hk3⟩|⟨rfl,hJx3⟩)
     ·have b5:W3.cell? ⟨Bs,0,none⟩=some (.string s):=hk3.1 hc;have a7:eQ W3:=hk3.2 hsw
      gi_wp2
      exact⟨⟨pre++ [s.extract a i],i+1,by simp,by omega,hJ3,b5,a7,.inl ⟨rfl,by simp;omega,hA⟩⟩,by simp [Go.RowKit.intOf];omega⟩
     ·gi_wp2
      refine rN (results_none rfl _ _ _) rfl ?_;exact⟨⟨_,rfl⟩,.inr ⟨_,a3.o,hJx3⟩⟩
  ·obtain rfl:i=s.size:=by omega
   rcases hst with⟨rfl,hp,ha⟩|⟨a,rfl,hai,hp,ha⟩
   ·have hA:Aside (pre=fieldsOf s):=by show _=_;unfold fieldsOf;rw [ha.o]
    gi_wp2
    go_end0
    exact⟨⟨_,rfl⟩,.inl ⟨pre,hA,hJ⟩⟩
   ·have a8:(0:Int)≤(a:Int):=by omega
    have a9:¬(a:Int)<0:=by omega
    have b4:(a:Int)≤(s.size:Int):=by omega
    have hA:Aside (pre++ [s.extract a s.size]=fieldsOf s):=by show _=_;unfold fieldsOf;rw [ha.o]
    have a3:Aside (pre++ [s.extract a s.size]<+:fieldsOf s):=by show _<+:_;rw [hA.o];exact List.prefix_refl _
    obtain⟨fn,tmps,assign,body,hy,hR⟩:=hY pre (s.extract a s.size) wr hJ (by omega)
    gi_wp2
    refine hR.mono ?_;rintro e W3 (⟨rfl,hJ3,hk3⟩|⟨rfl,hJx3⟩)
    ·gi_wp2
     go_end0
     exact⟨⟨_,rfl⟩,.inl ⟨_,hA,hJ3⟩⟩
    ·gi_wp2
     go_end0
     exact⟨⟨_,rfl⟩,.inr ⟨_,a3.o,hJx3⟩⟩
def VP (F:Fence) (n:Nat) (hf:F.fn 282) (a4:F.round=none) (hn:1≤n) (Bs:Nat) (s:ByteArray) (w:Wo) (h0:2<w.heap.size) (hB:Bs<w.heap.size) (b1:s.size≤1000000) (a2:∀i,i<s.size→(s[i]!).toNat<128)
  (hc:w.cell? ⟨Bs,0,none⟩=some (.string s)) (a5:eQ w):
  SeqStopsK F n Tryz.prog 282 #[.pointer (some ⟨Bs,0,none⟩)] (fun y:ByteArray=>#[Value.string y]) (KpF Bs s) (fun ys=>ys=fieldsOf s) (fun pre=>pre<+:fieldsOf s) s.size w:=fun l J Jx W hW _ _ hY b2=>
 Lz F n hf a4 hn l Bs s b1 a2 J Jx hY W ((hW.cell (p:=⟨Bs,0,none⟩) hB).trans hc)
  (fun b hb=>(hW.cell (p:=⟨2,b,none⟩) h0).trans (a5 b hb)) b2
