/- Lemmas for the text Card; no condition. -/
import Derived.Test.YtbdpdeonapmlgaaGreatDoorAk
import Derived.Test.YtbdpdeonapmlgaaGreatDoorRows
import Derived.ProofKit
import Derived.OpenShut
import Derived.Deep.Slices
import Derived.Deep.Fields
import Derived.ChangeSame
import Derived.Lib.SmallJoins
import Derived.Carry
import Derived.Laws.StructEq
import Derived.Laws.CopyOwn
set_option linter.all false
set_option maxHeartbeats 2000000
set_option maxRecDepth 100000
namespace Go.Proofs.YtbdpdeonapmlgaaGreatDoor
open Go.ChangeShapes Go.WideShapes Go.Deep Go.RowKit Go.Joins
variable {cs:List Value} {H:Type} {W:World} {v:Value}
theorem pK {d:DataW H} {l:List (DataW H)} (h:d∈l):Rows.uptoBulk d≤Rows.uptoBulkAll l:=by
 induction l with
 |nil=>cases h
 |cons x r ih=>
  simp only [Rows.uptoBulkAll];cases cD.1 h with
  |inl e=>subst e;omega
  |inr e=>have:=ih e;omega
theorem PU (d:DataW H):1≤Rows.uptoBulk d:=by
 cases d with
 |lit l=>cases l<;>simp [Rows.uptoBulk]
 |nil=>simp [Rows.uptoBulk]
 |ptr d=>simp [Rows.uptoBulk]
 |slice elems spare=>simp [Rows.uptoBulk]
 |agg parts=>simp [Rows.uptoBulk]
 |iface t d=>simp [Rows.uptoBulk]
 |map entries=>simp [Rows.uptoBulk]
 |held h=>simp [Rows.uptoBulk]
theorem PV (l:List (DataW H)):l.length≤Rows.uptoBulkAll l:=by
 induction l with
 |nil=>simp [Rows.uptoBulkAll]
 |cons x r ih=>have:=PU x;simp only [Rows.uptoBulkAll,fU];omega
theorem DU {A:Type} {P:Nat→A→Prop}:∀n:Nat,(∀i,i<n→∃x,P i x)→∃L:List A,L.length=n∧∀i x,L[i]?=some x→P i x
 |0,_=>⟨[],rfl,fun i x h=>by simp at h⟩
 | n+1,h=>by
  obtain⟨L,h1,h2⟩:=DU n fun i hi=>h i (by omega)
  obtain⟨x,hx⟩:=h n (by omega);refine⟨L++ [x],by simp [h1],fun i y hy=>?_⟩
  by_cases hi:i<n
  ·rw [eG (by omega)] at hy;exact h2 i y hy
  ·rw [dO (by omega)] at hy;have h0:i-L.length=0:=by
    have:=(List.getElem?_eq_some_iff.1 hy).1;simp at this;omega
   rw [h0] at hy;simp at hy;subst hy;have:i=n:=by omega
   rw [this];exact hx
theorem TR {z:Int} (h:(Lit.int .u32 z).wf=true):0≤z∧z<4294967296:=by
 simp [Lit.wf,IntKind.wrap,IntKind.min,IntKind.max,IntKind.bits,IntKind.signed] at h;omega
theorem QZ {a:Addr} (h:W.cell? a=some v):∃b o,a=⟨b,o,none⟩:=by
 have c7:a.spot=none:=by
  cases hs:a.spot with
  |none=>rfl
  |some s=>
   unfold World.cell? at h;rw [hs] at h;split at h<;>simp at h
 obtain⟨ab,ao,asp⟩:=a;simp only at c7;subst c7;exact⟨ab,ao,rfl⟩
theorem GH (ab ao k:Nat):Addr.add ⟨ab,ao,none⟩ k=⟨ab,ao+k,none⟩:=by
 unfold Addr.add;split
 ·next h=>subst h;rfl
 ·rfl
theorem Dv:Tryz.prog.cellsOf 175=1:=by kernel_rfl
theorem AH:Tryz.prog.cellsOf 48=7:=by kernel_rfl
theorem PF:Tryz.prog.cellsOf 45=3:=by kernel_rfl
theorem Du:Tryz.prog.cellsOf 46=1:=by kernel_rfl
theorem PG:Tryz.prog.cellsOf 43=1:=by kernel_rfl
theorem FE:Tryz.prog.cellsOf 3=1:=by kernel_rfl
theorem cells4:Tryz.prog.cellsOf 4=1:=by kernel_rfl
theorem cells9:Tryz.prog.cellsOf 9=1:=by kernel_rfl
section
variable {H:Type} {a7:TypeId × Value→H} {W:World}
theorem LX {fuel:Nat} {x:DataW H × List MemPlace} (h:DataW.trod a7 Tryz.prog W 0 (fun _=>true) true fuel 43 cs=some x):
  ∃(ao:Option Addr) (cap:Nat) (L:List Nat),cs= [.slice ao L.length cap]∧L.length≤Rows.uptoBulk x.1∧bV W.heap.size W ao L:=by
 rcases open_slice Tryz.underlying43 h with⟨rfl,rfl⟩|⟨a,len,cap,m,n,D,Pl,rfl,_,hl,_,hm,rfl,hi⟩
 ·exact⟨none,0,[],rfl,by simp,(fun x hx=>by simp at hx),fun h=>absurd rfl h⟩
 ·have a9:len≤Rows.uptoBulkAll ((List.range len).map D):=by
   have h1:=PV ((List.range len).map D);rw [oG,List.length_range] at h1;omega
  have d0:len≤m:=by rw [hm];simpa using hl
  obtain⟨L,hL1,hL2⟩:=DU (P:=fun i (x:Nat)=>x<4294967296∧W.cell? (a.add i)=some (.int .u32 x)) len fun i b9=>by
   obtain⟨b7,hc,ht⟩:=hi i (by omega);obtain⟨z,rfl,_,hw⟩:=HE Tryz.underlying175 ht;obtain⟨h0,h1⟩:=TR hw;rw [Dv,pN] at hc;obtain⟨_,_,hat⟩:=RF hc;have h3:=hat 0 (by decide);rw [Go.Deep.add_add,fP] at h3;refine⟨z.toNat,by omega,?_⟩;rw [h3,Int.toNat_of_nonneg h0];rfl
  refine⟨some a,cap,L,by rw [hL1],by simp only [Rows.uptoBulk];omega,?_,fun d1=>?_⟩
  ·intro x hx;obtain⟨i,hi⟩:=List.getElem?_of_mem hx;exact(hL2 i x hi).1
  ·obtain⟨x0,hx0⟩:∃x0,L[0]?=some x0:=by
    cases L with
    |nil=>exact absurd rfl d1
    |cons x L=>exact⟨x,rfl⟩
   have a8:=(hL2 0 x0 hx0).2;have b8:a.add 0=a:=by simp [Addr.add]
   rw [b8] at a8;obtain⟨ab,ao,rfl⟩:=QZ a8;refine⟨ab,ao,rfl,block_lt_of_cell a8,fun j x hx=>?_⟩;have:=(hL2 j x hx).2
   rwa [GH] at this
theorem DV {α:Type} {l:List α} (h:l.length=3):∃a b c,l= [a,b,c]:=by
 match l,h with
 | [a,b,c],_=>exact⟨a,b,c,rfl⟩
theorem list5 {α:Type} {l:List α} (h:l.length=5):∃a b c d e,l= [a,b,c,d,e]:=by
 match l,h with
 | [a,b,c,d,e],_=>exact⟨a,b,c,d,e,rfl⟩
theorem list7 {α:Type} {l:List α} (h:l.length=7):∃a b c d e f g,l= [a,b,c,d,e,f,g]:=by
 match l,h with
 | [a,b,c,d,e,f,g],_=>exact⟨a,b,c,d,e,f,g,rfl⟩
theorem XO {fuel:Nat} {x:DataW H × List MemPlace} (h:DataW.trod a7 Tryz.prog W 0 (fun _=>true) true fuel 45 cs=some x):
  ∃(g:Bool) (s1 s2:Value) (num den:List Nat),cs= [.bool g,s1,s2]∧NumAt W.heap.size W g s1 s2 num den∧num.length≤Rows.uptoBulk x.1∧den.length≤Rows.uptoBulk x.1:=by
 obtain⟨xs,n,_,rfl,hl,hx,hf⟩:=SV Tryz.underlying45 h;rw [PF] at hl;obtain⟨c0,c1,c2,rfl⟩:=DV hl;obtain⟨y0,y1,y2,rfl⟩:=DV (hx.trans rfl);have h0:DataW.trod a7 Tryz.prog W 0 (fun _=>true) true n 4 (([c0,c1,c2].drop 0).take (Tryz.prog.cellsOf 4))=some y0:=hf 0 _ rfl;rw [cells4] at h0;have h1:DataW.trod a7 Tryz.prog W 0 (fun _=>true) true n 43 (([c0,c1,c2].drop 1).take (Tryz.prog.cellsOf 43))=some y1:=hf 1 _ rfl;rw [PG] at h1;have h2:DataW.trod a7 Tryz.prog W 0 (fun _=>true) true n 43 (([c0,c1,c2].drop 2).take (Tryz.prog.cellsOf 43))=some y2:=hf 2 _ rfl;rw [PG] at h2;obtain⟨g,e0,_⟩:=DataW.trod_bool Tryz.underlying4 h0;obtain⟨a1,p1,L1,e1,b1,l1⟩:=LX h1;obtain⟨a2,p2,L2,e2,b2,l2⟩:=LX h2;simp only [bE,bF,bB,bJ,jL,wM] at e0 e1 e2;subst e0 e1 e2;have m1:=pK (d:=y1.1) (l:=[y0.1,y1.1,y2.1]) (by simp);have m2:=pK (d:=y2.1) (l:=[y0.1,y1.1,y2.1]) (by simp);refine⟨g,_,_,L1,L2,rfl,⟨⟨a1,p1,rfl,l1⟩,⟨a2,p2,rfl,l2⟩⟩,?_,?_⟩<;>simp only [gB,wV,Rows.uptoBulk]<;>omega
theorem IG {n:Nat} {w:World} {b off:Nat} (hb:b<n):∀(L:List Tm) (i:Nat),(∀k T,L[k]?=some T→∃vs,(∀(j:Nat) u,vs[j]?=some u→w.cell? ⟨b,off+(i+k)*7+j,none⟩=some u)∧TmV n w T vs)→cR n w L (some ⟨b,off,none⟩) i
 | [],_,_=>by simp only [cR]
 |T::r,i,h=>by
  simp only [cR];obtain⟨vs,h1,h2⟩:=h 0 T rfl;refine⟨⟨b,off,vs,rfl,hb,fun j u hj=>by have:=h1 j u hj;rwa [fP] at this,h2⟩,IG hb r (i+1) fun k T' hk=>?_⟩;obtain⟨d3,h3,h4⟩:=h (k+1) T' (by simpa using hk);exact⟨d3,fun j u hj=>by have:=h3 j u hj;rwa [show i+(k+1)=i+1+k by omega] at this,h4⟩
theorem IJ:∀(B:Nat),B≤1048576→∀(fuel:Nat) (cs:List Value) (x:DataW H × List MemPlace),DataW.trod a7 Tryz.prog W 0 (fun _=>true) true fuel 48 cs=some x→Rows.uptoBulk x.1≤B→∃T,TmV W.heap.size W T cs:=by
 intro B
 induction B with
 |zero=>
  intro _ fuel cs x _ hb;have:=PU x.1;omega
 | succ B ih=>
  intro hB fuel cs x h hb;obtain⟨xs,n,_,rfl,hl,hx,hf⟩:=SV Tryz.underlying48 h;rw [AH] at hl;obtain⟨c0,c1,c2,c3,c4,c5,c6,rfl⟩:=list7 hl;obtain⟨y0,y1,y2,y3,y4,rfl⟩:=list5 (hx.trans rfl);have h0:DataW.trod a7 Tryz.prog W 0 (fun _=>true) true n 3 (([c0,c1,c2,c3,c4,c5,c6].drop 0).take (Tryz.prog.cellsOf 3))=some y0:=hf 0 _ rfl;rw [FE] at h0;have h1:DataW.trod a7 Tryz.prog W 0 (fun _=>true) true n 3 (([c0,c1,c2,c3,c4,c5,c6].drop 1).take (Tryz.prog.cellsOf 3))=some y1:=hf 1 _ rfl;rw [FE] at h1;have h2:DataW.trod a7 Tryz.prog W 0 (fun _=>true) true n 9 (([c0,c1,c2,c3,c4,c5,c6].drop 2).take (Tryz.prog.cellsOf 9))=some y2:=hf 2 _ rfl;rw [cells9] at h2;have h3:DataW.trod a7 Tryz.prog W 0 (fun _=>true) true n 45 (([c0,c1,c2,c3,c4,c5,c6].drop 3).take (Tryz.prog.cellsOf 45))=some y3:=hf 3 _ rfl;rw [PF] at h3;have h4:DataW.trod a7 Tryz.prog W 0 (fun _=>true) true n 46 (([c0,c1,c2,c3,c4,c5,c6].drop 6).take (Tryz.prog.cellsOf 46))=some y4:=hf 4 _ rfl;rw [Du] at h4;obtain⟨k,e0,_⟩:=HE Tryz.underlying3 h0;obtain⟨v,e1,_⟩:=HE Tryz.underlying3 h1;obtain⟨nm,e2,_⟩:=DataW.trod_string Tryz.underlying9 h2;obtain⟨g,s1,s2,num,den,e3,hN,bn,bd⟩:=XO h3;simp only [bE,bF,bB,bJ,jL,wM] at e0 e1 e2 e3;obtain⟨rfl,rfl,rfl⟩:=e3;subst e0 e1 e2;have m3:=pK (d:=y3.1) (l:=[y0.1,y1.1,y2.1,y3.1,y4.1]) (by simp);have m4:=pK (d:=y4.1) (l:=[y0.1,y1.1,y2.1,y3.1,y4.1]) (by simp);simp only [gB,wV,Rows.uptoBulk] at hb;rcases open_slice Tryz.underlying46 h4 with⟨e4,_⟩|⟨a,len,cap,m,n',D,Pl,e4,_,hl4,_,hm,e5,hi⟩
  ·simp only [bE,bF,bB,bJ,jL,wM] at e4;subst e4;refine⟨.mk k v nm g num den [],?_⟩;simp only [TmV,cR];exact⟨c4,c5,none,0,rfl,hN,trivial,by simp,by omega,by omega⟩
  ·simp only [bE,bF,bB,bJ,jL,wM] at e4;subst e4;have d2:Rows.uptoBulk y4.1=Rows.uptoBulk (DataW.slice ((List.range len).map D) ((List.range (m-len)).map fun j=>D (len+j))):=by rw [e5]
   simp only [Rows.uptoBulk] at d2;clear e5;have a9:len≤Rows.uptoBulkAll ((List.range len).map D):=by
    have h1:=PV ((List.range len).map D);rw [oG,List.length_range] at h1;omega
   have d0:len≤m:=by rw [hm];simpa using hl4
   obtain⟨L,hL1,hL2⟩:=DU (P:=fun i (T:Tm)=>∃vs,W.cells? 0 (a.add (i*7)) 7=some vs∧TmV W.heap.size W T vs) len fun i b9=>by
    obtain⟨b7,hc,ht⟩:=hi i (by omega);rw [AH] at hc;have hd:=pK (d:=D i) (l:=(List.range len).map D) (dG.2 ⟨i,SH.2 b9,rfl⟩);obtain⟨T,hT⟩:=ih (by omega) n' b7 (D i,Pl i) ht (by show Rows.uptoBulk (D i)≤B;omega);exact⟨T,b7,hc,hT⟩
   refine⟨.mk k v nm g num den L,?_⟩;simp only [TmV];refine⟨c4,c5,some a,cap,by rw [hL1],hN,?_,by omega,by omega,by omega⟩;cases L with
   |nil=>simp only [cR]
   |cons T0 L0=>
    obtain⟨d4,hc0,hv0⟩:=hL2 0 T0 rfl;obtain⟨_,hlen0,hat0⟩:=RF hc0;have a8:=hat0 0 (by decide);rw [rE,Go.Deep.add_add,aL (by omega)] at a8;have b8:a.add (0+0)=a:=by simp [Addr.add]
    rw [b8] at a8;obtain⟨ab,ao,rfl⟩:=QZ a8;refine IG (block_lt_of_cell a8) _ 0 fun kk T hT=>?_
    obtain⟨vs,hc,hv⟩:=hL2 kk T hT;refine⟨vs,fun j u hj=>?_,hv⟩;obtain⟨_,a9,hat⟩:=RF hc;have c9:j<7:=by have:=(List.getElem?_eq_some_iff.1 hj).1;omega
    have:=hat j c9;rw [GH,GH,hj] at this;rw [cG];exact this
end
theorem Dt:Tryz.prog.cellsOf 50=15:=by kernel_rfl
theorem UC (h:cs.length=15):∃c,cs=(cs.drop 0).take 7++(cs.drop 7).take 7++ [c]∧(cs.drop 14).take 1= [c]:=by
 match cs,h with
 | [a0,a1,a2,a3,a4,a5,a6,b0,b1,b2,b3,b4,b5,b6,c],_=>exact⟨c,rfl,rfl⟩
theorem Do {a7:TypeId × Value→H} {base:Nat} {d:DataW H} {p:List MemPlace} (hv:Value.okWide Tryz.prog W .any base 50 v) (h:DataW.Trod a7 Tryz.prog W 0 (fun _=>true) true 50 v d p) (hb:Rows.uptoBulk d≤1048576):
  ∃(C:Cl) (vs:List Value),v= .agg vs.toArray∧ClV W.heap.size W C vs:=by
 obtain⟨cs,rfl,_⟩:=okWide_struct Tryz.underlying50 hv;obtain⟨fuel,hf⟩:=h;obtain⟨xs,n,_,he,hl,hx,hf⟩:=SV Tryz.underlying50 hf;have c8:d= .agg (xs.map (·.1)):=congrArg Prod.fst he;rw [Dt] at hl;replace hl:cs.toList.length=15:=hl;obtain⟨y0,y1,y2,rfl⟩:=DV (hx.trans rfl);have h0:DataW.trod a7 Tryz.prog W 0 (fun _=>true) true n 48 ((cs.toList.drop 0).take (Tryz.prog.cellsOf 48))=some y0:=hf 0 _ rfl;rw [AH] at h0;have h1:DataW.trod a7 Tryz.prog W 0 (fun _=>true) true n 48 ((cs.toList.drop 7).take (Tryz.prog.cellsOf 48))=some y1:=hf 1 _ rfl;rw [AH] at h1;have h2:DataW.trod a7 Tryz.prog W 0 (fun _=>true) true n 3 ((cs.toList.drop 14).take (Tryz.prog.cellsOf 3))=some y2:=hf 2 _ rfl;rw [FE] at h2;have m0:=pK (d:=y0.1) (l:=[y0.1,y1.1,y2.1]) (by simp);have m1:=pK (d:=y1.1) (l:=[y0.1,y1.1,y2.1]) (by simp);rw [c8] at hb;simp only [gB,wV,Rows.uptoBulk] at hb;obtain⟨T,hT⟩:=IJ 1048576 (aA _) n _ y0 h0 (by omega);obtain⟨U,hU⟩:=IJ 1048576 (aA _) n _ y1 h1 (by omega);obtain⟨z,e2,_⟩:=HE Tryz.underlying3 h2;obtain⟨c,e3,e4⟩:=UC hl;rw [e4] at e2;simp only [jL,wM] at e2;refine⟨⟨T,U,z⟩,cs.toList,by simp,_,_,?_,hT,hU⟩;show cs.toList=_++_++ [.int .i64 z];rw [←e2];exact e3
end Go.Proofs.YtbdpdeonapmlgaaGreatDoor
namespace Go.Proofs.YtbdpdeonapmlgaaGreatDoor
open Go.RowKit Go.Big Go.RowsK Go.MapK
variable {a:Option Addr} {w w':World} {m n:Nat}
abbrev Ind:=ByteArray × Int
def aO (k:Ind):Value:=.agg #[.string k.1,.int .i64 k.2]
theorem MP (d:Nat) (a b:Ind) (w:World):(Op.equalIn (d+1+1) 63 (aO a) (aO b)).run Tryz.prog w= .ok (decide (a=b)) w:=by
 have hu:∀w,(Go.underlying 63).run Tryz.prog w= .ok _ w:=fun w=>dV Tryz.underlying63 w
 have h9:∀w,(Go.underlying 9).run Tryz.prog w= .ok .string w:=fun w=>dV Tryz.underlying9 w
 have h3:∀w,(Go.underlying 3).run Tryz.prog w= .ok (.int .i64) w:=fun w=>dV Tryz.underlying3 w
 have e9:∀(x y:ByteArray) w,(Op.equalIn (d+1) 9 (.string x) (.string y)).run Tryz.prog w= .ok (decide (x=y)) w:=by
  intro x y w;rw [RE w d 9 x y Tryz.underlying9,strEq]
 have e3:∀(x y:Int) w,(Op.equalIn (d+1) 3 (.int .i64 x) (.int .i64 y)).run Tryz.prog w= .ok (x==y) w:=by
  intro x y w;rw [Op.equalIn];simp only [aY,h3,Result.andThen];simp
 have p0:∀(x:ByteArray) (y:Int) w,(part 9 #[.string x,.int .i64 y] 0).run Tryz.prog w= .ok (.string x) w:=by
  intro x y w;simp [part,go_sem,Tryz.isAgg9]
 have p1:∀(x:ByteArray) (y:Int) w,(part 3 #[.string x,.int .i64 y] 1).run Tryz.prog w= .ok (.int .i64 y) w:=by
  intro x y w;simp [part,go_sem,Tryz.isAgg3]
 have a1:Tryz.prog.stoodInHeld 63=false:=by kernel_rfl
 have a0:∀w,(program).run Tryz.prog w= .ok Tryz.prog w:=fun w=>rfl
 obtain⟨x,n⟩:=a;obtain⟨y,m⟩:=b;rw [Op.equalIn];simp only [aY,hu,Result.andThen,aO,a0,a1];simp [aY,p0,p1,e9,e3,Result.andThen]
 by_cases h1:x=y<;>by_cases h2:n=m<;>simp [h1,h2,p1,e3,aY,Result.andThen]
theorem ZS (a b:Ind) (w:World):(Op.equal 63 (aO a) (aO b)).run Tryz.prog w= .ok (decide (a=b)) w:=MP 9998 a b w
theorem ZT (em:Bool) (d:Nat) (k:Ind) (w:World):(Instr.checkKey em (d+1+1) 63 (aO k)).run Tryz.prog w= .ok () w:=by
 have hu:∀w,(Go.underlying 63).run Tryz.prog w= .ok _ w:=fun w=>dV Tryz.underlying63 w
 have h9:∀w,(Go.underlying 9).run Tryz.prog w= .ok .string w:=fun w=>dV Tryz.underlying9 w
 have h3:∀w,(Go.underlying 3).run Tryz.prog w= .ok (.int .i64) w:=fun w=>dV Tryz.underlying3 w
 have e9:∀(x:ByteArray) w,(Instr.checkKey em (d+1) 9 (.string x)).run Tryz.prog w= .ok () w:=by
  intro x w;rw [Instr.checkKey];simp only [aY,h9,Result.andThen];simp
 have e3:∀(x:Int) w,(Instr.checkKey em (d+1) 3 (.int .i64 x)).run Tryz.prog w= .ok () w:=by
  intro x w;rw [Instr.checkKey];simp only [aY,h3,Result.andThen];simp
 have p0:∀(x:ByteArray) (y:Int) w,(part 9 #[.string x,.int .i64 y] 0).run Tryz.prog w= .ok (.string x) w:=by
  intro x y w;simp [part,go_sem,Tryz.isAgg9]
 have p1:∀(x:ByteArray) (y:Int) w,(part 3 #[.string x,.int .i64 y] 1).run Tryz.prog w= .ok (.int .i64 y) w:=by
  intro x y w;simp [part,go_sem,Tryz.isAgg3]
 obtain⟨x,n⟩:=k;rw [Instr.checkKey];simp only [aY,hu,Result.andThen,aO];simp [aY,p0,p1,e9,e3,Result.andThen]
theorem jF:KL Tryz.prog 63 aO where
 inj:=fun {a b} h=>by
  obtain⟨x,n⟩:=a;obtain⟨y,m⟩:=b;simp only [aO] at h;injection h with h
  simp only [Array.mk.injEq,jL,Value.string.injEq,Value.int.injEq,true_and,wM] at h;exact Prod.ext h.1 h.2
 find:=fun k w M es h=>Bd _ Tryz.underlying63 (fun a b=>rfl) ZS k w M es h
 check:=fun em k w=>ZT em 9998 k w
 bits:=fun k=>by
  have:=(Go.MapKept.bytes_beq k.1 k.1).2 rfl;simp [aO,Instr.sameBits,this]
variable {L:List Ind} {k:Ind}
section
attribute [local go_sem] Heavy.uponW
def aP (k:Ind):List Value:=[.string k.1,.int .i64 k.2]
def IndsV (n:Nat) (w:World) (L:List Ind) (a:Option Addr):Prop:=
 ∀(k:Nat) (I:Ind),L[k]?=some I→∃g off,a=some ⟨g,off,none⟩∧g<n∧w.cell? ⟨g,off+k*2,none⟩=some (.string I.1)∧w.cell? ⟨g,off+k*2+1,none⟩=some (.int .i64 I.2)
theorem IndsV.below (h:IndsV n w L a) (hb:Below m w w') (hm:n≤m):IndsV n w' L a:=fun k I hk=>by
 obtain⟨g,off,e,hg,h1,h2⟩:=h k I hk;exact⟨g,off,e,hg,(hb.cell (p:=⟨g,off+k*2,none⟩) (by show g<m;omega)).trans h1,(hb.cell (p:=⟨g,off+k*2+1,none⟩) (by show g<m;omega)).trans h2⟩
theorem IndsV.up (h:IndsV n w L a) (hm:n≤m):IndsV m w L a:=fun k I hk=>by
 obtain⟨g,off,e,hg,h1⟩:=h k I hk;exact⟨g,off,e,by omega,h1⟩
def pT:Value:=.agg #[.string { data:=#[] },.int .i64 0]
theorem jV:El Tryz.prog 127 63 2 24 pT:=⟨Tryz.underlying127,by
  obtain⟨i0,h1,h2,h3,h4⟩:=mV (show(Tryz.prog.info? 63).map (fun i=>(i.zero,i.size,i.bytes))=some (some pT,2,24) by kernel_rfl);exact⟨i0,h1,h2,h3,h4⟩,rfl,by decide⟩
def aD (base:Nat) (w:World) (v:Value) (L:List Ind):Prop:=w.ownsRow base 63 2 v L.length (L.flatMap aP)
theorem flat_get:∀{L:List Ind} {k:Nat} {I:Ind},L[k]?=some I→(L.flatMap aP)[k*2]?=some (.string I.1)∧(L.flatMap aP)[k*2+1]?=some (.int .i64 I.2)
 | [],_,_,h=>by simp at h
 |J::r,0,I,h=>by
  simp at h;subst h;simp [aP]
 |J::r,k+1,I,h=>by
  have:=flat_get (L:=r) (k:=k) (I:=I) (by simpa using h);simp only [oH,aP];rw [show(k+1)*2=k*2+2 by omega,show k*2+2+1=k*2+1+2 by omega];simpa using this
theorem flat_len (L:List Ind):(L.flatMap aP).length=L.length*2:=by
 induction L with
 |nil=>rfl
 |cons a r ih=>simp [aP] at ih ⊢;omega
theorem zT (L:List Ind):∀u∈L.flatMap aP,u.oneCell'=true:=by
 intro u hu;obtain⟨I,_,h⟩:=List.mem_flatMap.1 hu;simp [aP] at h;rcases h with rfl|rfl<;>rfl
theorem aD.read {base:Nat} {v:Value} (h:aD base w v L):∃a c,v= .slice a L.length c∧IndsV w.heap.size w L a:=by
 obtain⟨a,c,rfl,hr⟩:=mD h;refine⟨a,c,rfl,fun k I hk=>?_⟩;rcases hr with h0|⟨g,e,_,hg,hc⟩
 ·have:=(List.getElem?_eq_some_iff.1 hk).1;omega
 ·obtain⟨h1,h2⟩:=flat_get hk;exact⟨g,0,e,hg,by rw [cG];exact hc _ _ h1,by rw [cG];exact hc _ _ h2⟩
theorem ieqA (x y:ByteArray) (n m:Int) (w:World):(Op.equalIn 10000 63 (.agg #[.string x,.int .i64 n]) (.agg #[.string y,.int .i64 m])).run Tryz.prog w= .ok (decide ((x,n)=(y,m))) w:=MP 9998 (x,n) (y,m) w
theorem ieqG (op:BinOp) (x y:Operand) (xs ys:Array Value) (w:World):(eqGuard op 63 x y (.agg xs) (.agg ys)).run Tryz.prog w= .ok () w:=run_eqGuard_agg _ _ _ _ _ _ _ (by kernel_rfl)
def gT (k:Ind) (L:List Ind):Bool:=L.any fun J=>decide (J=k)
theorem mF:gT k L=true↔k∈L:=by
 unfold gT;rw [SQ];constructor
 ·rintro⟨J,h1,h2⟩;rw [eO] at h2;subst h2;exact h1
 ·intro h;exact⟨k,h,by simp⟩
theorem sE:gT k L=false↔k∉L:=by
 rw [←mF];simp
theorem EA (L:List Ind) (x:ByteArray) (m:Int) (n:Nat) (w:World) (a:Option Addr) (len c:Nat) (hl:L.length=len) (a3:len≤1099511627776) (h:IndsV n w L a) (hn:n≤w.heap.size):
  Calls Tryz.prog 146 #[.slice a len c,.agg #[.string x,.int .i64 m]] w fun e w'=>e= .returned (.bool (gT (x,m) L))∧Below w.heap.size w w':=by
 have Al:=aside hl;obtain⟨F,hF⟩:∃F,gT (x,m) L=F:=⟨_,rfl⟩;rw [hF];have FA:=aside hF;have b0:=aC w (Obj.cells #[.string x,.int .i64 m] 63);have hq:=heap_alloc_new w (Obj.cells #[.string x,.int .i64 m] 63);obtain⟨wb,hwb⟩:∃wb,w.alloc (Obj.cells #[.string x,.int .i64 m] 63)=wb:=⟨_,rfl⟩;have a7:wb.heap.size=w.heap.size+1:=by rw [←hwb];simp
 rw [hwb] at b0 hq;have fa:Aside (∀w2,Below wb.heap.size wb w2→_):=fun(w2:World) (hb:Below wb.heap.size wb w2)=>eL ((hb.block w.heap.size (by omega)).trans hq)
 have hA:Aside (∀w2,Below wb.heap.size wb w2→IndsV n w2 L a∧Below w.heap.size w w2):=fun w2 hb=>⟨(h.below (b0.trans (hb.mono b0.size)) hn),b0.trans (hb.mono b0.size)⟩
 clear hq a7 hl hF h;go_enter Tryz.func146,Tryz.ntmps146
 go_upto_region 1 with fail
 clear hwb;go_wp2
 go_loopw [5] (fun s wr=>∃i:Nat,s= .int .i64 i∧i≤len∧(∀J∈L.take i,J≠(x,m))∧Below wb.heap.size wb wr) (fun s _=>len-(intOf s).toNat)
 case atStart=>exact⟨0,rfl,aT _,by simp,aI _ _⟩
 case round=>
  obtain⟨wo,rfl⟩:∃wo,wo=wr:=⟨_,rfl⟩;obtain⟨i,rfl,hi,hno,hB⟩:=hrel
  by_cases a4:i<len
  ·obtain⟨J,hJ⟩:∃J,L[i]?=some J:=⟨L[i]'(by rw [Al.out];exact a4),aL _⟩;obtain⟨g,off,rfl,_,_,_⟩:=(hA.out wo hB).1 i J hJ;have hc:Aside (∀w2,Below wb.heap.size wb w2→w2.cell? ⟨g,off+i*2,none⟩=some (.string J.1)∧w2.cell? ⟨g,off+i*2+1,none⟩=some (.int .i64 J.2)):=fun w2 hb=>by
    obtain⟨g',off',e,_,c0,c1⟩:=(hA.out w2 hb).1 i J hJ;injection e with e;injection e with e1 e2
    subst e1;subst e2;exact⟨c0,c1⟩
   have a1:=aX hJ;have a2:=aside hno;have a8:Aside (L.take (i+1)=L.take i++ [J]):=by show _=_;rw [fT,hJ];rfl
   obtain⟨y,k⟩:=J;dsimp only at hc;have b1:(i:Int)<(len:Int):=by omega
   have b2:(0:Int)≤(i:Int):=by omega
   have b3:IntKind.i64.wrap ((i:Int)+1)=(i:Int)+1:=by rw [aG];omega
   have a9:=ieqA y x k m;have b4:=ieqG;obtain⟨D,hD⟩:∃D,decide ((y,k)=(x,m))=D:=⟨_,rfl⟩;rw [hD] at a9;have DA:=aside hD;have a5:=aside a1;clear hJ hno hD a1
   go_upto_region 4 with fail
   have fd:Below wb.heap.size wb wo.drew:=hB.trans (dI _ _);refine Heavy.region_plan (fun w'=>Below wb.heap.size wb w') 5 (Heavy.lights [0,1,2,3,4] .done) (by kernel_rfl) (by kernel_rfl) fd ?_;simp only [Heavy.lights,bB,bJ,bF,bE]
   iterate 3 ((apply Heavy.light_n;(exact rfl);(exact rfl);(intro a0 hw;go_simp;exact rfl));(refine Heavy.norm_a (by go_simp;exact rfl) ?_))
   (apply Heavy.light_n;(exact rfl);(exact rfl);(intro a0 hw;have z0:=(hc.out a0 hw).1;have z1:=(hc.out a0 hw).2;go_simp;exact rfl));(refine Heavy.norm_a (by go_simp;exact rfl) ?_)
   (apply Heavy.light_n;(exact rfl);(exact rfl);(intro a0 hw;have z0:=(fa.out a0 hw).1;have z1:=(fa.out a0 hw).2;go_simp;exact rfl));(refine Heavy.norm_a (by go_simp;exact rfl) ?_)
   apply Heavy.plan_end;show wpList _ _ _ _ _ _;cases D
   ·have a6:Aside (∀K∈L.take (i+1),K≠(x,m)):=by
     show∀K∈_,_;rw [a8.out];intro K hK;rcases bX.1 hK with hK|hK
     ·exact a2.out K hK
     ·simp at hK;subst hK;simpa using DA.out
    go_wp2;go_roundw
    case rel=>exact⟨i+1,by simp,by omega,a6.out,fd⟩
    case measure=>simp [intOf];omega
   ·obtain rfl:F=true:=by
     rw [←FA.out,mF];have e:=DA.out;rw [eO] at e;rw [←e];exact a5.out
    go_wp2
    go_ret
    exact⟨rfl,(hA.out _ fd).2⟩
  ·obtain rfl:i=len:=by omega
   obtain rfl:F=false:=by
    rw [←FA.out,sE];intro hm;rw [←Al.out,gA] at hno;exact hno _ hm rfl
   clear hno;go_wp2
   go_ret
   exact⟨rfl,(hA.out _ hB).2⟩
theorem Eo (x y:ByteArray) (n m:Int) (w:World):
  Calls Tryz.prog 201 #[.agg #[.string x,.int .i64 n],.agg #[.string y,.int .i64 m]] w fun e w'=>(∃b:Bool,e= .returned (.bool b))∧Below w.heap.size w w':=by
 have b0:=(tY w (Obj.cells #[.string x,.int .i64 n] 63) (Obj.cells #[.string y,.int .i64 m] 63)).1;go_enter Tryz.func201,Tryz.ntmps201;go_wp2
 all_goals(go_ret;exact⟨⟨_,rfl⟩,b0⟩)
end
end Go.Proofs.YtbdpdeonapmlgaaGreatDoor
namespace Go.Heavy
variable {Q:Act→World→Prop} {w:World} {a:Act} {listed:Array Bool} {i id n s:Nat} {o oi:Oper}
inductive Step where
 |pre (i:Nat)
 |both (i:Nat)
 |sw
def waits (md:Region.Mode) (ops:Array Oper) (s i:Nat):Bool:=
 match ops[s]? with
 |some o=>o.after.any fun e=>Region.binds md e&&(e.on==i)
 |none=>false
def okS (md:Region.Mode) (ops:Array Oper) (g n s:Nat):List Step→Array Bool→Bool
 | [],listed=>Region.seqB md ops g n listed
 | .pre i::r,listed=>(Region.ready md ops listed).contains i&&Region.free md ops listed i&&decide (i<n)&&decide (i≠s)&&waits md ops s i&&okS md ops g n s r (listed.setIfInBounds i true)
 | .both i::r,listed=>(Region.ready md ops listed).contains i&&Region.free md ops listed i&&decide (i<n)&&decide (i≠s)&&okS md ops g n s r (listed.setIfInBounds i true)
 | .sw::r,listed=>Region.ready md ops listed== [s]&&decide (s<n)&&okS md ops g n s r (listed.setIfInBounds s true)
section
variable {P:Program} {ops:Array Oper} {md:Region.Mode} {C C2:World→Prop} {s:Nat}
def Kat (s:Nat) (C C2:World→Prop) (listed:Array Bool) (w:World):Prop:=if listed.getD s false=true then C2 w else C w
def vJ (P:Program) (md:Region.Mode) (ops:Array Oper) (K:Array Bool→World→Prop) (n:Nat) (L:Array Bool→Act→World→Prop):Nat→Array Bool→Act→World→Prop
 |0,listed,a,w=>L listed a w
 |f+1,listed,a,w=>Region.ready md ops listed≠ []∧∀i∈Region.ready md ops listed,i<n∧iC P ops i (fun a' w'=>K (listed.setIfInBounds i true) w'∧vJ P md ops K n L f (listed.setIfInBounds i true) a' w') a w
theorem QW {K:Array Bool→World→Prop} {n g:Nat} {L:Array Bool→Act→World→Prop} {Q':Exit→Act→World→Prop} (hL:∀listed a w,L listed a w→wpAny P md ops Q' g listed a w):
  ∀(f:Nat) (listed:Array Bool) (a:Act) (w:World),vJ P md ops K n L f listed a w→wpAny P md ops Q' (f+g) listed a w
 |0,listed,a,w,h=>by rw [cG];exact hL _ _ _ h
 |f+1,listed,a,w,h=>by
  rw [show f+1+g=(f+g)+1 by omega];exact⟨fun h0=>absurd h0 h.1,fun i hi=>HN (fun a' w' h'=>QW hL f _ a' w' h'.2) (h.2 i hi).2⟩
theorem Aq (h:i≠s) (d:Bool):(listed.setIfInBounds i true).getD s d=listed.getD s d:=by
 rw [nB,nB,pS h]
theorem Kat.other (h:i≠s):Kat s C C2 (listed.setIfInBounds i true) w↔Kat s C C2 listed w:=by
 unfold Kat;rw [Aq h]
theorem MU {D:World→Prop} {v:Value} {L:Array Bool→Act→World→Prop} (a5:i≠s) (hD:∀listed w,HeadInv md ops n listed→listed.getD i true=false→Kat s C C2 listed w→D w) (hi:ops[i]?=some oi) (a1:∀(j:Nat) (o:Oper) cs b,ops[j]?=some o→o.op≠ .select cs b)
  (hs:Region.sinkB md ops n=true) (hc:Region.chainB md ops n=true) (hn:n<ops.size) (a3:i<n) (b1:∀listed a w,L listed a w→∀j∈Region.ready md ops listed,n≤j):
  ∀(f:Nat) (listed:Array Bool) (a:Act) (w:World),Kat s C C2 listed w→HeadInv md ops n listed→
   (∀j oj,ops[j]?=some oj→j≠i→listed.getD j true=false→(∀e∈oj.after,Region.binds md e=true→e.on≠i)→oi.apart ops oj=true)→
   i∈Region.ready md ops listed→St P ops D oi v a→vJ P md ops (Kat s C C2) n L f (listed.setIfInBounds i true) (a.put oi.dst v) w→vJ P md ops (Kat s C C2) n L (f+1) listed a w:=by
 intro f
 induction f with
 | zero=>
  intro listed a w hw a2 _ hr hy H;have a7:=(mem_ready.1 hr).1;refine⟨fun h=>(by rw [h] at hr;cases hr),fun j hj=>?_⟩;have b6:j<n:=BC fun h=>GI hs hc hn a2 _ i rfl a3 a7 j h hj
  refine⟨b6,?_⟩
  by_cases a6:j=i
  ·subst a6;exact hy.one hi (hD _ _ a2 a7 hw) ⟨(Kat.other a5).2 hw,H⟩
  ·have:=b1 _ _ _ H j (ready_mono hj a6);omega
 | succ f ih=>
  intro listed a w hw a2 a9 hr hy H;have a7:=(mem_ready.1 hr).1;refine⟨fun h=>(by rw [h] at hr;cases hr),fun j hj=>?_⟩;have b6:j<n:=BC fun h=>GI hs hc hn a2 _ i rfl a3 a7 j h hj
  refine⟨b6,?_⟩
  by_cases a6:j=i
  ·subst a6;exact hy.one hi (hD _ _ a2 a7 hw) ⟨(Kat.other a5).2 hw,H⟩
  ·have h1:=(H.2 j (ready_mono hj a6)).2;obtain⟨b2,oj,hoj,hall⟩:=mem_ready.1 hj;have b8:∀e∈oj.after,Region.binds md e=true→e.on≠i:=fun e he hb c5=>by
    have h1:=hall e he hb;rw [c5,getD_both a7] at h1;cases h1
   have h2:=KS (C:=D) hoj (a9 j oj hoj a6 b2 b8) (fun cs b=>a1 i oi cs b hi) (fun cs b=>a1 j oj cs b hoj) hy h1;have b0:∀k ok,ops[k]?=some ok→k≠i→(listed.setIfInBounds j true).getD k true=false→
     (∀e∈ok.after,Region.binds md e=true→e.on≠i)→oi.apart ops ok=true:=fun k ok hk c6 b3 c7=>by
    refine a9 k ok hk c6 ?_ c7
    by_cases c2:j=k
    ·subst c2;exact b2
    ·rw [getD_set_ne true c2] at b3;exact b3
   refine KT (fun a' w' h3=>?_) h2;have hK:Kat s C C2 (listed.setIfInBounds j true) w':=by
    have:=h3.2.1;rw [SY _ _ (eH a6),Kat.other a5] at this;exact this
   refine⟨hK,ih (listed.setIfInBounds j true) a' w' hK (a2.set hj b6) b0 (ready_mono hr (eH a6)) h3.1 ?_⟩;rw [SY _ _ a6];exact h3.2.2
def runS (P:Program) (ops:Array Oper) (s:Nat) (C C2:World→Prop) (Q:Act→World→Prop):List Step→Act→World→Prop
 | [],a,w=>Q a w
 | .pre i::r,a,w=>∃o v,ops[i]?=some o∧St P ops C o v a∧runS P ops s C C2 Q r (a.put o.dst v) w
 | .both i::r,a,w=>∃o v,ops[i]?=some o∧St P ops (fun w=>C w∨C2 w) o v a∧runS P ops s C C2 Q r (a.put o.dst v) w
 | .sw::r,a,w=>∃o,ops[s]?=some o∧oR P ops o (fun a' w'=>C2 w'∧runS P ops s C C2 Q r a' w') a w
theorem zO {n g:Nat} {Lq:Act→World→Prop} (a1:Region.noSelect ops=true) (hs:Region.sinkB md ops n=true) (hc:Region.chainB md ops n=true) (hn:n<ops.size):
  ∀(r:List Step) (listed:Array Bool) (a:Act) (w:World),Kat s C C2 listed w→HeadInv md ops n listed→okS md ops g n s r listed=true→runS P ops s C C2 Lq r a w→
   vJ P md ops (Kat s C C2) n (fun a0 a' w'=>Region.seqB md ops g n a0=true∧Lq a' w') r.length listed a w
 | [],listed,a,w,_,_,hB,h=>⟨hB,h⟩
 | .pre i::r,listed,a,w,hw,a2,hB,h=>by
  simp only [okS,aM,eO] at hB;obtain⟨⟨⟨⟨⟨hr,hf⟩,a3⟩,a5⟩,hwt⟩,hB'⟩:=hB;have b4:i∈Region.ready md ops listed:=by simpa using hr
  obtain⟨o,v,h0,hy,hK⟩:=h;refine MU a5 (fun a0 w' b5 a7 a8=>?_) h0 (RI a1) hs hc hn a3 (fun a0 a' w' hL=>seqB_ready hL.1) r.length listed a w hw a2 (RJ h0 hf) b4 hy
   (zO a1 hs hc hn r _ _ _ ((Kat.other a5).2 hw) (a2.set b4 a3) hB' hK)
  unfold Kat at a8;rw [if_neg] at a8
  ·exact a8
  ·intro c8;unfold waits at hwt;cases hos:ops[s]? with
   |none=>rw [hos] at hwt;cases hwt
   |some os=>
    rw [hos] at hwt;obtain⟨e,he,hb⟩:=Array.any_eq_true'.1 hwt;simp only [aM,rB] at hb;have h3:=b5.closed s os hos c8 e he hb.1;rw [hb.2,getD_both a7] at h3;cases h3
 | .both i::r,listed,a,w,hw,a2,hB,h=>by
  simp only [okS,aM,eO] at hB;obtain⟨⟨⟨⟨hr,hf⟩,a3⟩,a5⟩,hB'⟩:=hB;have b4:i∈Region.ready md ops listed:=by simpa using hr
  obtain⟨o,v,h0,hy,hK⟩:=h;refine MU a5 (fun a0 w' b5 a7 a8=>?_) h0 (RI a1) hs hc hn a3 (fun a0 a' w' hL=>seqB_ready hL.1) r.length listed a w hw a2 (RJ h0 hf) b4 hy
   (zO a1 hs hc hn r _ _ _ ((Kat.other a5).2 hw) (a2.set b4 a3) hB' hK)
  unfold Kat at a8;split at a8
  ·exact .inr a8
  ·exact .inl a8
 | .sw::r,listed,a,w,hw,a2,hB,h=>by
  simp only [okS,aM,eO] at hB;obtain⟨⟨hr,a3⟩,hB'⟩:=hB;have a4:Region.ready md ops listed= [s]:=by simpa using hr
  obtain⟨o,h0,h1⟩:=h;refine⟨by rw [a4];simp,fun k hk=>?_⟩;have c3:k∈Region.ready md ops listed:=hk;rw [a4] at hk;have b7:k=s:=by simpa using hk
  rw [b7] at c3 ⊢;refine⟨a3,?_⟩;unfold iC;rw [h0];refine uP (fun a' w' ⟨h2,h3⟩=>?_) h1;have hK:Kat s C C2 (listed.setIfInBounds s true) w':=by
   unfold Kat;rw [if_pos]
   ·exact h2
   ·have b7:s<listed.size:=by rw [a2.size];exact(Array.getElem?_eq_some_iff.1 h0).1
    rw [nB,rN b7];rfl
  exact⟨hK,zO a1 hs hc hn r _ a' w' hK (a2.set c3 a3) hB' h3⟩
theorem region_switch {Q:Exit→Act→World→Prop} {l:List Oper} (C C2:World→Prop) (n s:Nat) (r:List Step) (hm:P.follows .mixedOrders=true)
  (hB:(Region.noSelect l.toArray&&decide (n<l.toArray.size)&&Region.sinkB .any l.toArray n&&Region.chainB .any l.toArray n&&decide (r.length=n)&&okS .any l.toArray (l.toArray.size-n) n s r (Array.replicate l.toArray.size false))=true)
  (hw:C { w with drawn:=w.drawn+1 }) (b9:runS P l.toArray s C C2 (fun a' w'=>wpList P l.toArray Q (l.drop n) a' w') r a { w with drawn:=w.drawn+1 }):(Code.region id l.toArray true).wp P Q a w:=by
 simp only [aM,eO] at hB;obtain⟨⟨⟨⟨⟨a1,hn⟩,hs⟩,hc⟩,hsz⟩,hok⟩:=hB;have c1:(l.drop n).length=l.toArray.size-n:=by simp
 have c0:HeadInv .any l.toArray n (Array.replicate l.toArray.size false):=
  ⟨by simp,fun j oj _ hl=>(by rw [getD_replicate_false] at hl;cases hl),fun t _ ht=>getD_in (by simpa using ht) (getD_replicate_false _ _)⟩
 have c4:Kat s C C2 (Array.replicate l.toArray.size false) { w with drawn:=w.drawn+1 }:=by
  unfold Kat;rw [getD_replicate_false,if_neg (by simp)];exact hw
 have H:=zO (md:=.any) a1 hs hc hn r _ a _ c4 c0 hok b9;refine RB hm ?_;have:=QW (Q':=Q) (g:=l.toArray.size-n) (fun listed a' w' hL=>by
  have:=wpAny_of_seq (md:=.any) (Q':=Q) (l.drop n) n listed a' w' (fun j=>by simp [iR]) (by rw [c1];exact hL.1) hL.2
  rwa [c1] at this) _ _ _ _ H
 rw [hsz,show n+(l.toArray.size-n)=l.toArray.size by omega] at this;exact this
theorem pre_step {r:List Step} (v:Value) (h0:ops[i]?=some o) (hg:o.guard=none) (hs:∀w,C w→uponW P (fun u w'=>u=v∧w'=w) ((execOp a.eval o).run P w)) (hK:runS P ops s C C2 Q r (a.put o.dst v) w):runS P ops s C C2 Q (.pre i::r) a w:=
 ⟨o,v,h0,.inl ⟨by unfold Region.wanted;rw [hg],hs⟩,hK⟩
theorem both_step {r:List Step} (v:Value) (h0:ops[i]?=some o) (hg:o.guard=none) (hs:∀w,uponW P (fun u w'=>u=v∧w'=w) ((execOp a.eval o).run P w)) (hK:runS P ops s C C2 Q r (a.put o.dst v) w):runS P ops s C C2 Q (.both i::r) a w:=
 ⟨o,v,h0,.inl ⟨by unfold Region.wanted;rw [hg],fun w _=>hs w⟩,hK⟩
theorem sw_step {r:List Step} (h0:ops[s]?=some o) (hg:o.guard=none) (hK:uponW P (fun v w'=>C2 w'∧runS P ops s C C2 Q r (a.put o.dst v) w') ((execOp a.eval o).run P w)):runS P ops s C C2 Q (.sw::r) a w:=
 ⟨o,h0,.inl ⟨by unfold Region.wanted;rw [hg],hK⟩⟩
theorem switch_end (hQ:Q a w):runS P ops s C C2 Q [] a w:=hQ
end
end Go.Heavy
namespace Go.Heavy
open Go.RowKit Go.RowsK
theorem two_of {P:Program} {ops:Array Oper} {C:World→Prop} {i j:Nat} {p q:Plan} {Q:Act→World→Prop} {a:Act} {w:World} (h1:eE P ops C Q (.one i p) a w) (h2:eE P ops C Q (.one j q) a w):eE P ops C Q (.two i j p q) a w:=⟨h1,h2⟩
theorem one_app {P:Program} {a6 a3:TypeId} {size bytes:Nat} {z:Value} (E:El P a6 a3 size bytes z) {ops:Array Oper} {C:World→Prop} {i:Nat} {p:Plan} {Q:Act→World→Prop} {o:Oper} {a:Act} {w:World} (h0:ops[i]?=some o) (hg:o.guard=none) (s x:Operand)
  (ho:o.op= .call { callee:=.builtin .append,args:=#[s,x],argTypes:=#[a6,a6] }) (base:Nat) (v:Value) (n:Nat) (xs:List Value) (hs:a.eval s=v) (a4:w.ownsRow base a3 size v n xs)
  (v2:Value) (m:Nat) (a0:List Value) (hx:a.eval x=v2) (a5:SrcAt w v2 m a0) (hl:a0.length=m*size) (h1:∀u∈a0,u.oneCell'=true)
  (a7:n+m≤maxLen) (a1:(n+m)*bytes≤140737488355328) (a2:base≤w.heap.size)
  (h:∀v' w',w'.ownsRow base a3 size v' (n+m) (xs++a0)→w.grownBy w' v.ownBlock→(v'.ownBlock=v.ownBlock∨v'.ownBlock=some w.heap.size)→C w'∧eE P ops C Q p (a.put o.dst v') w'):eE P ops C Q (.one i p) a w:=by
 refine one_n h0 hg ?_;obtain⟨v',w',hr,h2,h3,h4⟩:=JE E w o.type base v n xs a4 v2 m a0 a5 hl h1 a7 a1 a2;unfold execOp;simp only [ho,resolve,invoke,builtin,aY,bZ,cF,List.map_toArray,gB,wV,hs,hx,hr];exact h v' w' h2 h3 h4
end Go.Heavy
namespace Go.Proofs.YtbdpdeonapmlgaaGreatDoor
open Go.RowKit Go.Big Go.RowsK Go.MapK
variable {Q:Act→World→Prop} {w w' W W1:World} {P:Program} {ops:Array Oper} {r:List Heavy.Step} {L:List Ind} {o:Oper} {i base s cap g n:Nat} {C C2:World→Prop} {a:Act} {J:Ind}
theorem NX {ev:Operand→Value} (t:TypeId) (x y:Operand) (ho:o.op= .store t x y) {v u:Value} (hx:ev x=v) (hy:ev y=u) (hr:(Instr.storeAt t v u).run P w= .ok () w'):(execOp ev o).run P w= .ok .skip w':=by
 unfold execOp;simp only [ho,hx,hy,aY,bZ,hr,cF]
theorem CD {A:Addr} {x y:Value} (h:(storeCells A [x,y] 0).run Tryz.prog W= .ok () W1):(Instr.storeAt 63 (.pointer (some A)) (.agg #[x,y])).run Tryz.prog W= .ok () W1:=by
 obtain⟨i0,hi,hz0,hz1,hz2⟩:=mV (show(Tryz.prog.info? 63).map (fun i=>(i.zero,i.size,i.bytes))=some (some pT,2,24) by kernel_rfl);have hs:∀W,(Go.sizeOf 63).run Tryz.prog W= .ok 2 W:=fun W=>by simp [Go.sizeOf,typeInfo,hi,hz1]
 have ha:(Instr.sureAddr (.pointer (some A))).run Tryz.prog W= .ok A W:=rfl;unfold Instr.storeAt;simp [storeVar,ha,hs,Value.cells,h]
theorem lJ {rest:List Oper} {Q:Exit→Act→World→Prop} (a0:o.guard=none) (t:TypeId) (x y:Operand)
  (ho:o.op= .store t x y) {v u:Value} (hx:a.eval x=v) (hy:a.eval y=u) {w':World}
  (hr:(Instr.storeAt t v u).run P w= .ok () w') (h:wpList P ops Q rest (a.put o.dst undef) w'):wpList P ops Q (o::rest) a w:=
 eV a0 fun _ hK=>by
  unfold Oper.wp;rw [NX t x y ho hx hy hr];exact hK _ _ h
theorem UE (v u:Value) (h0:ops[s]?=some o) (hg:o.guard=none) (t:TypeId) (x y:Operand) (ho:o.op= .store t x y)
  (hx:a.eval x=v) (hy:a.eval y=u) (hr:(Instr.storeAt t v u).run P w= .ok () w') (hC:C2 w') (hK:Heavy.runS P ops s C C2 Q r (a.put o.dst undef) w'):Heavy.runS P ops s C C2 Q (.sw::r) a w:=
 Heavy.sw_step h0 hg (by rw [NX t x y ho hx hy hr];exact⟨hC,hK⟩)
theorem norm_s {a':Act} (h:a=a') (hK:Heavy.runS P ops s C C2 Q r a' w):Heavy.runS P ops s C C2 Q r a w:=by subst h;exact hK
theorem flat_set (h:i<L.length):(L.set i J).flatMap aP=(L.flatMap aP).take (i*2)++aP J++(L.flatMap aP).drop (i*2+2):=by
 induction L generalizing i with
 |nil=>simp at h
 | cons a r ih=>
  cases i with
  |zero=>simp [aP]
  |succ j=>
   have:=ih (i:=j) (by simpa using h);simp only [BE,oH,this];rw [show(j+1)*2=j*2+2 by omega];simp [aP]
theorem UB {α:Type} (C X:List α) (o N:Nat) (h:o+X.length≤N) (hC:N≤C.length):(C.take o++X++C.drop (o+X.length)).take N=(C.take N).take o++X++(C.take N).drop (o+X.length):=by
 have hl:(C.take o++X).length=o+X.length:=by simp;omega
 rw [SE,eP (by rw [hl];exact h),hl,List.drop_take,GV,kY (by omega)]
theorem aD.store (h:aD base w (.slice (some ⟨g,0,none⟩) n cap) L) (hn:L.length=n) (hi:i<n):
  ∃w1,(storeCells ⟨g,i*2,none⟩ [.string J.1,.int .i64 J.2] 0).run Tryz.prog w= .ok () w1∧aD base w1 (.slice (some ⟨g,0,none⟩) n cap) (L.set i J)∧w.grownBy w1 (some g)∧w1.heap.size=w.heap.size:=by
 unfold aD at h;rw [hn] at h;obtain⟨a1,⟨e,_⟩|⟨g',cap',cur,e,hb,hg,hnc,hm,hs,ht⟩⟩:=h
 ·cases e
 cases e;have a4:cur.toList.length=cap*2:=by rw [cV];exact hs
 have a3:=AV (P:=Tryz.prog) g (i*2) 63 [.string J.1,.int .i64 J.2] 0 cur w hg (by simp;omega) (by simp [Value.oneCell']);refine⟨_,a3,?_,⟨rfl,rfl,rfl,by simp [World.setRow],fun k hk a2=>wK _ _ _ _ fun e=>a2 (by rw [e])⟩,by simp [World.setRow]⟩;unfold aD;rw [BF,hn];refine⟨by rw [flat_len,BF,hn],.inr ⟨g,cap,_,rfl,hb,tH _ _ _ _ _ _ hg,hnc,hm,?_,?_⟩⟩
 ·simp;omega
 ·rw [flat_set (by omega),←ht];have:=UB cur.toList [Value.string J.1,Value.int .i64 J.2] (i*2) (n*2) (by simp;omega) (by omega);simpa [aP] using this
theorem aD.cells (h:aD base w (.slice (some ⟨g,0,none⟩) n cap) L) {i:Nat} {J:Ind} (hi:L[i]?=some J):w.cell? ⟨g,i*2,none⟩=some (.string J.1)∧w.cell? ⟨g,i*2+1,none⟩=some (.int .i64 J.2):=by
 obtain⟨a,c,e,hr⟩:=aD.read h;injection e with e1 e2 e3
 obtain⟨g',off,e4,_,h1,h2⟩:=hr i J hi;have hO:=h;obtain⟨a',c',e5,hr2⟩:=mD h;injection e5 with e6 _ _
 rcases hr2 with h0|⟨g2,e7,_,_,hc⟩
 ·have:=(List.getElem?_eq_some_iff.1 hi).1;omega
 ·rw [e7] at e6;injection e6 with e6;injection e6 with e8 _ _
  subst e8;obtain⟨q1,q2⟩:=flat_get hi;exact⟨hc _ _ q1,hc _ _ q2⟩
theorem UD {α:Type} {L:List α} {x y:α} (h1:L[i]?=some x) (h2:L[i+1]?=some y):((L.set (i+1) x).set i y).Perm L:=by
 induction L generalizing i with
 |nil=>simp at h1
 | cons a r ih=>
  cases i with
  | zero=>
   cases r with
   |nil=>simp at h2
   |cons b q=>
    simp at h1 h2;subst h1;subst h2;simp;exact List.Perm.swap _ _ _
  |succ j=>
   simp only [BE];exact(ih (by simpa using h1) (by simpa using h2)).cons a
end Go.Proofs.YtbdpdeonapmlgaaGreatDoor
