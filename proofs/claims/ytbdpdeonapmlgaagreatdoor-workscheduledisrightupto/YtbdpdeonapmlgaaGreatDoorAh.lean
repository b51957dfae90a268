/- Lemmas; no condition. -/
import Derived.Test.YtbdpdeonapmlgaaGreatDoorAg
import Derived.Test.YtbdpdeonapmlgaaGreatDoorRows
import Derived.ProofKit
import Derived.OpenShut
import Derived.Deep.Slices
import Derived.Deep.Fields
import Derived.ChangeSame
import Derived.Lib.SmallJoins
import Derived.Carry
import Derived.Laws.StructEq
import Derived.Laws.CopyOwn
set_option linter.all false
set_option maxHeartbeats 4000000
set_option maxRecDepth 100000
namespace Go.Proofs.YtbdpdeonapmlgaaGreatDoor
open Go.ChangeShapes Go.WideShapes Go.Deep Go.RowKit Go.Joins
variable {H:Type} {cs:Lv}
def mM {d:DataW H} {l:List (DataW H)} (h:d∈l):Rows.uptoBulk d≤Rows.uptoBulkAll l:=by
 induction l with
 |nil=>cases h
 |cons x r ih=>
  simp only [Rows.uptoBulkAll];cases cM.1 h with
  |inl e=>subst e;omega
  |inr e=>have:=ih e;omega
def TI (d:DataW H):1≤Rows.uptoBulk d:=by
 cases d with
 |lit l=>cases l<;>simp [Rows.uptoBulk]
 |nil=>simp [Rows.uptoBulk]
 |ptr d=>simp [Rows.uptoBulk]
 |slice elems spare=>simp [Rows.uptoBulk]
 |agg parts=>simp [Rows.uptoBulk]
 |iface t d=>simp [Rows.uptoBulk]
 |map entries=>simp [Rows.uptoBulk]
 |held h=>simp [Rows.uptoBulk]
def HI (l:List (DataW H)):l.length≤Rows.uptoBulkAll l:=by
 induction l with
 |nil=>simp [Rows.uptoBulkAll]
 |cons x r ih=>have:=TI x;simp only [Rows.uptoBulkAll,eW];omega
def AV {A:Type} {P:Nat→A→Prop}:∀n:Nat,(∀i,i<n→∃x,P i x)→∃L:List A,L.length=n∧∀i x,L[i]?=some x→P i x
 |0,_=>⟨[],rfl,fun i x h=>by simp at h⟩
 | n+1,h=>by
  obtain⟨L,h1,h2⟩:=AV n fun i hi=>h i (by omega)
  obtain⟨x,hx⟩:=h n (by omega);refine⟨L++ [x],by simp [h1],fun i y hy=>?_⟩
  by_cases hi:i<n
  ·rw [dW (by omega)] at hy;exact h2 i y hy
  ·rw [dK (by omega)] at hy;have h0:i-L.length=0:=by
    have:=(aM.1 hy).1;simp at this;omega
   rw [h0] at hy;simp at hy;subst hy;have:i=n:=by omega
   rw [this];exact hx
def XB {z:Int} (h:(Lit.int .u32 z).wf=true):0≤z∧z<4294967296:=by
 simp [Lit.wf,IntKind.wrap,IntKind.min,IntKind.max,IntKind.bits,IntKind.signed] at h;omega
def II {W:Wo} {a:Addr} {v:Value} (h:W.cell? a=some v):∃b o,a=⟨b,o,none⟩:=by
 have c7:a.spot=none:=by
  cases hs:a.spot with
  |none=>rfl
  |some s=>
   unfold World.cell? at h;rw [hs] at h;split at h<;>simp at h
 obtain⟨ab,ao,asp⟩:=a;simp only at c7;subst c7;exact⟨ab,ao,rfl⟩
def yF (ab ao k:Nat):Addr.add ⟨ab,ao,none⟩ k=⟨ab,ao+k,none⟩:=by
 unfold Addr.add;split
 ·next h=>subst h;rfl
 ·rfl
def Hw:Tryz.prog.cellsOf 175=1:=by kernel_rfl
def CG:Tryz.prog.cellsOf 48=7:=by kernel_rfl
def SU:Tryz.prog.cellsOf 45=3:=by kernel_rfl
def Hv:Tryz.prog.cellsOf 46=1:=by kernel_rfl
def SV:Tryz.prog.cellsOf 43=1:=by kernel_rfl
def cel3:Tryz.prog.cellsOf 3=1:=by kernel_rfl
def cells4:Tryz.prog.cellsOf 4=1:=by kernel_rfl
def SR:Tryz.prog.cellsOf 9=1:=by kernel_rfl
section
variable {H:Type} {a7:TypeId × Value→H} {W:Wo}
def PG {fuel:Nat} {x:DataW H × List MemPlace} (h:DataW.trod a7 Tryz.prog W 0 (fun _=>true) true fuel 43 cs=some x):
  ∃(ao:Option Addr) (cap:Nat) (L:List Nat),cs= [.slice ao L.length cap]∧L.length≤Rows.uptoBulk x.1∧cR W.heap.size W ao L:=by
 rcases open_slice Tryz.underlying43 h with⟨rfl,rfl⟩|⟨a,len,cap,m,n,D,Pl,rfl,_,hl,_,hm,rfl,hi⟩
 ·exact⟨none,0,[],rfl,by simp,(fun x hx=>by simp at hx),fun h=>absurd rfl h⟩
 ·have a9:len≤Rows.uptoBulkAll ((List.range len).map D):=by
   have h1:=HI ((List.range len).map D);rw [jE,VW] at h1;omega
  have c9:len≤m:=by rw [hm];simpa using hl
  obtain⟨L,hL1,hL2⟩:=AV (P:=fun i (x:Nat)=>x<4294967296∧W.cell? (a.add i)=some (.int .u32 x)) len fun i b9=>by
   obtain⟨b7,hc,ht⟩:=hi i (by omega);obtain⟨z,rfl,_,hw⟩:=yW Tryz.underlying175 ht;obtain⟨h0,h1⟩:=XB hw;rw [Hw,yO] at hc;obtain⟨_,_,hat⟩:=CW hc;have h3:=hat 0 (by decide);rw [WJ,fG] at h3;refine⟨z.toNat,by omega,?_⟩;rw [h3,WF h0];rfl
  refine⟨some a,cap,L,by rw [hL1],by simp only [Rows.uptoBulk];omega,?_,fun d0=>?_⟩
  ·intro x hx;obtain⟨i,hi⟩:=JJ hx;exact(hL2 i x hi).1
  ·obtain⟨x0,hx0⟩:∃x0,L[0]?=some x0:=by
    cases L with
    |nil=>exact absurd rfl d0
    |cons x L=>exact⟨x,rfl⟩
   have a8:=(hL2 0 x0 hx0).2;have b8:a.add 0=a:=by simp [Addr.add]
   rw [b8] at a8;obtain⟨ab,ao,rfl⟩:=II a8;refine⟨ab,ao,rfl,oD a8,fun j x hx=>?_⟩;have:=(hL2 j x hx).2
   rwa [yF] at this
def AW {α:Type} {l:List α} (h:l.length=3):∃a b c,l= [a,b,c]:=by
 match l,h with
 | [a,b,c],_=>exact⟨a,b,c,rfl⟩
def list5 {α:Type} {l:List α} (h:l.length=5):∃a b c d e,l= [a,b,c,d,e]:=by
 match l,h with
 | [a,b,c,d,e],_=>exact⟨a,b,c,d,e,rfl⟩
def list7 {α:Type} {l:List α} (h:l.length=7):∃a b c d e f g,l= [a,b,c,d,e,f,g]:=by
 match l,h with
 | [a,b,c,d,e,f,g],_=>exact⟨a,b,c,d,e,f,g,rfl⟩
def Ar {fuel:Nat} {x:DataW H × List MemPlace} (h:DataW.trod a7 Tryz.prog W 0 (fun _=>true) true fuel 45 cs=some x):
  ∃(g:Bool) (s1 s2:Value) (num den:List Nat),cs= [.bool g,s1,s2]∧NumAt W.heap.size W g s1 s2 num den∧num.length≤Rows.uptoBulk x.1∧den.length≤Rows.uptoBulk x.1:=by
 obtain⟨xs,n,_,rfl,hl,hx,hf⟩:=DI Tryz.underlying45 h;rw [SU] at hl;obtain⟨c0,c1,c2,rfl⟩:=AW hl;obtain⟨y0,y1,y2,rfl⟩:=AW (hx.trans rfl);have h0:DataW.trod a7 Tryz.prog W 0 (fun _=>true) true n 4 (([c0,c1,c2].drop 0).take (Tryz.prog.cellsOf 4))=some y0:=hf 0 _ rfl;rw [cells4] at h0;have h1:DataW.trod a7 Tryz.prog W 0 (fun _=>true) true n 43 (([c0,c1,c2].drop 1).take (Tryz.prog.cellsOf 43))=some y1:=hf 1 _ rfl;rw [SV] at h1;have h2:DataW.trod a7 Tryz.prog W 0 (fun _=>true) true n 43 (([c0,c1,c2].drop 2).take (Tryz.prog.cellsOf 43))=some y2:=hf 2 _ rfl;rw [SV] at h2;obtain⟨g,e0,_⟩:=DataW.trod_bool Tryz.underlying4 h0;obtain⟨a1,p1,L1,e1,b1,l1⟩:=PG h1;obtain⟨a2,p2,L2,e2,b2,l2⟩:=PG h2;simp only [bG,aZ,bL,bY,iZ,rB] at e0 e1 e2;subst e0 e1 e2;have m1:=mM (d:=y1.1) (l:=[y0.1,y1.1,y2.1]) (by simp);have m2:=mM (d:=y2.1) (l:=[y0.1,y1.1,y2.1]) (by simp);refine⟨g,_,_,L1,L2,rfl,⟨⟨a1,p1,rfl,l1⟩,⟨a2,p2,rfl,l2⟩⟩,?_,?_⟩<;>simp only [fS,tK,Rows.uptoBulk]<;>omega
def KI {n:Nat} {w:Wo} {b off:Nat} (hb:b<n):∀(L:List Tm) (i:Nat),(∀k T,L[k]?=some T→∃vs,(∀(j:Nat) u,vs[j]?=some u→w.cell? ⟨b,off+(i+k)*7+j,none⟩=some u)∧TmV n w T vs)→bS n w L (some ⟨b,off,none⟩) i
 | [],_,_=>by simp only [bS]
 |T::r,i,h=>by
  simp only [bS];obtain⟨vs,h1,h2⟩:=h 0 T rfl;refine⟨⟨b,off,vs,rfl,hb,fun j u hj=>by have:=h1 j u hj;rwa [fG] at this,h2⟩,KI hb r (i+1) fun k T' hk=>?_⟩;obtain⟨d2,h3,h4⟩:=h (k+1) T' (by simpa using hk);exact⟨d2,fun j u hj=>by have:=h3 j u hj;rwa [show i+(k+1)=i+1+k by omega] at this,h4⟩
def KM:∀(B:Nat),B≤1048576→∀(fuel:Nat) (cs:Lv) (x:DataW H × List MemPlace),DataW.trod a7 Tryz.prog W 0 (fun _=>true) true fuel 48 cs=some x→Rows.uptoBulk x.1≤B→∃T,TmV W.heap.size W T cs:=by
 intro B
 induction B with
 |zero=>
  intro _ fuel cs x _ hb;have:=TI x.1;omega
 | succ B ih=>
  intro hB fuel cs x h hb;obtain⟨xs,n,_,rfl,hl,hx,hf⟩:=DI Tryz.underlying48 h;rw [CG] at hl;obtain⟨c0,c1,c2,c3,c4,c5,c6,rfl⟩:=list7 hl;obtain⟨y0,y1,y2,y3,y4,rfl⟩:=list5 (hx.trans rfl);have h0:DataW.trod a7 Tryz.prog W 0 (fun _=>true) true n 3 (([c0,c1,c2,c3,c4,c5,c6].drop 0).take (Tryz.prog.cellsOf 3))=some y0:=hf 0 _ rfl;rw [cel3] at h0;have h1:DataW.trod a7 Tryz.prog W 0 (fun _=>true) true n 3 (([c0,c1,c2,c3,c4,c5,c6].drop 1).take (Tryz.prog.cellsOf 3))=some y1:=hf 1 _ rfl;rw [cel3] at h1;have h2:DataW.trod a7 Tryz.prog W 0 (fun _=>true) true n 9 (([c0,c1,c2,c3,c4,c5,c6].drop 2).take (Tryz.prog.cellsOf 9))=some y2:=hf 2 _ rfl;rw [SR] at h2;have h3:DataW.trod a7 Tryz.prog W 0 (fun _=>true) true n 45 (([c0,c1,c2,c3,c4,c5,c6].drop 3).take (Tryz.prog.cellsOf 45))=some y3:=hf 3 _ rfl;rw [SU] at h3;have h4:DataW.trod a7 Tryz.prog W 0 (fun _=>true) true n 46 (([c0,c1,c2,c3,c4,c5,c6].drop 6).take (Tryz.prog.cellsOf 46))=some y4:=hf 4 _ rfl;rw [Hv] at h4;obtain⟨k,e0,_⟩:=yW Tryz.underlying3 h0;obtain⟨v,e1,_⟩:=yW Tryz.underlying3 h1;obtain⟨nm,e2,_⟩:=DataW.trod_string Tryz.underlying9 h2;obtain⟨g,s1,s2,num,den,e3,hN,bn,bd⟩:=Ar h3;simp only [bG,aZ,bL,bY,iZ,rB] at e0 e1 e2 e3;obtain⟨rfl,rfl,rfl⟩:=e3;subst e0 e1 e2;have m3:=mM (d:=y3.1) (l:=[y0.1,y1.1,y2.1,y3.1,y4.1]) (by simp);have m4:=mM (d:=y4.1) (l:=[y0.1,y1.1,y2.1,y3.1,y4.1]) (by simp);simp only [fS,tK,Rows.uptoBulk] at hb;rcases open_slice Tryz.underlying46 h4 with⟨e4,_⟩|⟨a,len,cap,m,n',D,Pl,e4,_,hl4,_,hm,e5,hi⟩
  ·simp only [bG,aZ,bL,bY,iZ,rB] at e4;subst e4;refine⟨.mk k v nm g num den [],?_⟩;simp only [TmV,bS];exact⟨c4,c5,none,0,rfl,hN,trivial,by simp,by omega,by omega⟩
  ·simp only [bG,aZ,bL,bY,iZ,rB] at e4;subst e4;have d1:Rows.uptoBulk y4.1=Rows.uptoBulk (DataW.slice ((List.range len).map D) ((List.range (m-len)).map fun j=>D (len+j))):=by rw [e5]
   simp only [Rows.uptoBulk] at d1;clear e5;have a9:len≤Rows.uptoBulkAll ((List.range len).map D):=by
    have h1:=HI ((List.range len).map D);rw [jE,VW] at h1;omega
   have c9:len≤m:=by rw [hm];simpa using hl4
   obtain⟨L,hL1,hL2⟩:=AV (P:=fun i (T:Tm)=>∃vs,W.cells? 0 (a.add (i*7)) 7=some vs∧TmV W.heap.size W T vs) len fun i b9=>by
    obtain⟨b7,hc,ht⟩:=hi i (by omega);rw [CG] at hc;have hd:=mM (d:=D i) (l:=(List.range len).map D) (cL.2 ⟨i,JE.2 b9,rfl⟩);obtain⟨T,hT⟩:=ih (by omega) n' b7 (D i,Pl i) ht (by show Rows.uptoBulk (D i)≤B;omega);exact⟨T,b7,hc,hT⟩
   refine⟨.mk k v nm g num den L,?_⟩;simp only [TmV];refine⟨c4,c5,some a,cap,by rw [hL1],hN,?_,by omega,by omega,by omega⟩;cases L with
   |nil=>simp only [bS]
   |cons T0 L0=>
    obtain⟨d3,hc0,hv0⟩:=hL2 0 T0 rfl;obtain⟨_,hlen0,hat0⟩:=CW hc0;have a8:=hat0 0 (by decide);rw [pM,WJ,bM (by omega)] at a8;have b8:a.add (0+0)=a:=by simp [Addr.add]
    rw [b8] at a8;obtain⟨ab,ao,rfl⟩:=II a8;refine KI (oD a8) _ 0 fun kk T hT=>?_
    obtain⟨vs,hc,hv⟩:=hL2 kk T hT;refine⟨vs,fun j u hj=>?_,hv⟩;obtain⟨_,a9,hat⟩:=CW hc;have c8:j<7:=by have:=(aM.1 hj).1;omega
    have:=hat j c8;rw [yF,yF,hj] at this;rw [bT];exact this
end
def ST:Tryz.prog.cellsOf 50=15:=by kernel_rfl
def XO (h:cs.length=15):∃c,cs=(cs.drop 0).take 7++(cs.drop 7).take 7++ [c]∧(cs.drop 14).take 1= [c]:=by
 match cs,h with
 | [a0,a1,a2,a3,a4,a5,a6,b0,b1,b2,b3,b4,b5,b6,c],_=>exact⟨c,rfl,rfl⟩
end Go.Proofs.YtbdpdeonapmlgaaGreatDoor
namespace Go.Proofs.YtbdpdeonapmlgaaGreatDoor
open Go.RowKit Go.Big Go.RowsK Go.MapK
def cH (K:List Bool) (T:Tm):Bool:=T.free.all fun x=>K.getD x.toNat false
def fU (K:List Bool) (L:List Int):List Bool:=L.foldl (fun K x=>K.set x.toNat true) K
def InK (K:List Bool) (T:Tm):Prop:=∀x∈T.free,0≤x∧x.toNat<K.length
abbrev Ind:=ByteArray × Int
def aO (k:Ind):Value:=.agg #[.string k.1,.int .i64 k.2]
def PZ (d:Nat) (a b:Ind) (w:Wo):(Op.equalIn (d+1+1) 63 (aO a) (aO b)).run Tryz.prog w= .ok (decide (a=b)) w:=by
 have hu:∀w,(Go.underlying 63).run Tryz.prog w= .ok _ w:=fun w=>dQ Tryz.underlying63 w
 have h9:∀w,(Go.underlying 9).run Tryz.prog w= .ok .string w:=fun w=>dQ Tryz.underlying9 w
 have h3:∀w,(Go.underlying 3).run Tryz.prog w= .ok (.int .i64) w:=fun w=>dQ Tryz.underlying3 w
 have e9:∀(x y:ByteArray) w,(Op.equalIn (d+1) 9 (.string x) (.string y)).run Tryz.prog w= .ok (decide (x=y)) w:=by
  intro x y w;rw [UU w d 9 x y Tryz.underlying9,strEq]
 have e3:∀(x y:Int) w,(Op.equalIn (d+1) 3 (.int .i64 x) (.int .i64 y)).run Tryz.prog w= .ok (x==y) w:=by
  intro x y w;rw [Op.equalIn];simp only [aU,h3,Result.andThen];simp
 have p0:∀(x:ByteArray) (y:Int) w,(part 9 #[.string x,.int .i64 y] 0).run Tryz.prog w= .ok (.string x) w:=by
  intro x y w;simp [part,go_sem,Tryz.isAgg9]
 have p1:∀(x:ByteArray) (y:Int) w,(part 3 #[.string x,.int .i64 y] 1).run Tryz.prog w= .ok (.int .i64 y) w:=by
  intro x y w;simp [part,go_sem,Tryz.isAgg3]
 have a1:Tryz.prog.stoodInHeld 63=false:=by kernel_rfl
 have a0:∀w,(program).run Tryz.prog w= .ok Tryz.prog w:=fun w=>rfl
 obtain⟨x,n⟩:=a;obtain⟨y,m⟩:=b;rw [Op.equalIn];simp only [aU,hu,Result.andThen,aO,a0,a1];simp [aU,p0,p1,e9,e3,Result.andThen]
 by_cases h1:x=y<;>by_cases h2:n=m<;>simp [h1,h2,p1,e3,aU,Result.andThen]
def Dp (a b:Ind) (w:Wo):(Op.equal 63 (aO a) (aO b)).run Tryz.prog w= .ok (decide (a=b)) w:=PZ 9998 a b w
def Dr (em:Bool) (d:Nat) (k:Ind) (w:Wo):(Instr.checkKey em (d+1+1) 63 (aO k)).run Tryz.prog w= .ok () w:=by
 have hu:∀w,(Go.underlying 63).run Tryz.prog w= .ok _ w:=fun w=>dQ Tryz.underlying63 w
 have h9:∀w,(Go.underlying 9).run Tryz.prog w= .ok .string w:=fun w=>dQ Tryz.underlying9 w
 have h3:∀w,(Go.underlying 3).run Tryz.prog w= .ok (.int .i64) w:=fun w=>dQ Tryz.underlying3 w
 have e9:∀(x:ByteArray) w,(Instr.checkKey em (d+1) 9 (.string x)).run Tryz.prog w= .ok () w:=by
  intro x w;rw [Instr.checkKey];simp only [aU,h9,Result.andThen];simp
 have e3:∀(x:Int) w,(Instr.checkKey em (d+1) 3 (.int .i64 x)).run Tryz.prog w= .ok () w:=by
  intro x w;rw [Instr.checkKey];simp only [aU,h3,Result.andThen];simp
 have p0:∀(x:ByteArray) (y:Int) w,(part 9 #[.string x,.int .i64 y] 0).run Tryz.prog w= .ok (.string x) w:=by
  intro x y w;simp [part,go_sem,Tryz.isAgg9]
 have p1:∀(x:ByteArray) (y:Int) w,(part 3 #[.string x,.int .i64 y] 1).run Tryz.prog w= .ok (.int .i64 y) w:=by
  intro x y w;simp [part,go_sem,Tryz.isAgg3]
 obtain⟨x,n⟩:=k;rw [Instr.checkKey];simp only [aU,hu,Result.andThen,aO];simp [aU,p0,p1,e9,e3,Result.andThen]
def kJ:KL Tryz.prog 63 aO where
 inj:=fun {a b} h=>by
  obtain⟨x,n⟩:=a;obtain⟨y,m⟩:=b;simp only [aO] at h;injection h with h
  simp only [Array.mk.injEq,iZ,Value.string.injEq,Value.int.injEq,yG,rB] at h;exact Prod.ext h.1 h.2
 find:=fun k w M es h=>Ex _ Tryz.underlying63 (fun a b=>rfl) Dp k w M es h
 check:=fun em k w=>Dr em 9998 k w
 bits:=fun k=>by
  have:=(Go.MapKept.bytes_beq k.1 k.1).2 rfl;simp [aO,Instr.sameBits,this]
variable {L:List Ind} {k:Ind}
section
attribute [local go_sem] Heavy.uponW
def bO (k:Ind):Lv:=[.string k.1,.int .i64 k.2]
def IndsV (n:Nat) (w:Wo) (L:List Ind) (a:Option Addr):Prop:=
 ∀(k:Nat) (I:Ind),L[k]?=some I→∃g off,a=some ⟨g,off,none⟩∧g<n∧w.cell? ⟨g,off+k*2,none⟩=some (.string I.1)∧w.cell? ⟨g,off+k*2+1,none⟩=some (.int .i64 I.2)
def rL:Value:=.agg #[.string { data:=#[] },.int .i64 0]
def sM:El Tryz.prog 127 63 2 24 rL:=⟨Tryz.underlying127,by
  obtain⟨i0,h1,h2,h3,h4⟩:=mQ (show(Tryz.prog.info? 63).map (fun i=>(i.zero,i.size,i.bytes))=some (some rL,2,24) by kernel_rfl);exact⟨i0,h1,h2,h3,h4⟩,rfl,by decide⟩
def aF (base:Nat) (w:Wo) (v:Value) (L:List Ind):Prop:=w.ownsRow base 63 2 v L.length (L.flatMap bO)
def flat_get:∀{L:List Ind} {k:Nat} {I:Ind},L[k]?=some I→(L.flatMap bO)[k*2]?=some (.string I.1)∧(L.flatMap bO)[k*2+1]?=some (.int .i64 I.2)
 | [],_,_,h=>by simp at h
 |J::r,0,I,h=>by
  simp at h;subst h;simp [bO]
 |J::r,k+1,I,h=>by
  have:=flat_get (L:=r) (k:=k) (I:=I) (by simpa using h);simp only [pR,bO];rw [show(k+1)*2=k*2+2 by omega,show k*2+2+1=k*2+1+2 by omega];simpa using this
def flat_len (L:List Ind):(L.flatMap bO).length=L.length*2:=by
 induction L with
 |nil=>rfl
 |cons a r ih=>simp [bO] at ih ⊢;omega
def QT (L:List Ind):∀u∈L.flatMap bO,u.oneCell'=true:=by
 intro u hu;obtain⟨I,_,h⟩:=tJ.1 hu;simp [bO] at h;rcases h with rfl|rfl<;>rfl
def aF.read {base:Nat} {w:Wo} {v:Value} (h:aF base w v L):∃a c,v= .slice a L.length c∧IndsV w.heap.size w L a:=by
 obtain⟨a,c,rfl,hr⟩:=iN h;refine⟨a,c,rfl,fun k I hk=>?_⟩;rcases hr with h0|⟨g,e,_,hg,hc⟩
 ·have:=(aM.1 hk).1;omega
 ·obtain⟨h1,h2⟩:=flat_get hk;exact⟨g,0,e,hg,by rw [bT];exact hc _ _ h1,by rw [bT];exact hc _ _ h2⟩
def qN (x y:ByteArray) (n m:Int) (w:Wo):(Op.equalIn 10000 63 (.agg #[.string x,.int .i64 n]) (.agg #[.string y,.int .i64 m])).run Tryz.prog w= .ok (decide ((x,n)=(y,m))) w:=PZ 9998 (x,n) (y,m) w
def sH (op:BinOp) (x y:Operand) (xs ys:Array Value) (w:Wo):(eqGuard op 63 x y (.agg xs) (.agg ys)).run Tryz.prog w= .ok () w:=run_eqGuard_agg _ _ _ _ _ _ _ (by kernel_rfl)
def qH (k:Ind) (L:List Ind):Bool:=L.any fun J=>decide (J=k)
def FE:qH k L=true↔k∈L:=by
 unfold qH;rw [List.any_eq_true];constructor
 ·rintro⟨J,h1,h2⟩;rw [iF] at h2;subst h2;exact h1
 ·intro h;exact⟨k,h,by simp⟩
def ON:qH k L=false↔k∉L:=by
 rw [←FE];simp
end
end Go.Proofs.YtbdpdeonapmlgaaGreatDoor
namespace Go.Heavy
inductive Step where
 |pre (i:Nat)
 |both (i:Nat)
 |sw
section
variable {P:Program} {ops:Array Oper} {md:Region.Mode} {C C2:Wo→Prop} {s:Nat}
end
end Go.Heavy
namespace Go.Heavy
open Go.RowKit Go.RowsK
def two_of {P:Program} {ops:Array Oper} {C:Wo→Prop} {i j:Nat} {p q:Plan} {Q:Act→Wo→Prop} {a:Act} {w:Wo} (h1:runP P ops C Q (.one i p) a w) (h2:runP P ops C Q (.one j q) a w):runP P ops C Q (.two i j p q) a w:=⟨h1,h2⟩
def one_app {P:Program} {a6 a3:TypeId} {size bytes:Nat} {z:Value} (E:El P a6 a3 size bytes z) {ops:Array Oper} {C:Wo→Prop} {i:Nat} {p:Plan} {Q:Act→Wo→Prop} {o:Oper} {a:Act} {w:Wo} (h0:ops[i]?=some o) (hg:o.guard=none) (s x:Operand)
  (ho:o.op= .call { callee:=.builtin .append,args:=#[s,x],argTypes:=#[a6,a6] }) (base:Nat) (v:Value) (n:Nat) (xs:Lv) (hs:a.eval s=v) (a4:w.ownsRow base a3 size v n xs)
  (v2:Value) (m:Nat) (a0:Lv) (hx:a.eval x=v2) (a5:SrcAt w v2 m a0) (hl:a0.length=m*size) (h1:∀u∈a0,u.oneCell'=true)
  (a7:n+m≤maxLen) (a1:(n+m)*bytes≤140737488355328) (a2:base≤w.heap.size)
  (h:∀v' w',w'.ownsRow base a3 size v' (n+m) (xs++a0)→w.grownBy w' v.ownBlock→(v'.ownBlock=v.ownBlock∨v'.ownBlock=some w.heap.size)→C w'∧runP P ops C Q p (a.put o.dst v') w'):runP P ops C Q (.one i p) a w:=by
 refine one_n h0 hg ?_;obtain⟨v',w',hr,h2,h3,h4⟩:=LM E w o.type base v n xs a4 v2 m a0 a5 hl h1 a7 a1 a2;unfold execOp;simp only [ho,resolve,invoke,builtin,aU,cC,cI,VU,fS,tK,hs,hx,hr];exact h v' w' h2 h3 h4
end Go.Heavy
namespace Go.Proofs.YtbdpdeonapmlgaaGreatDoor
open Go.RowKit Go.Big Go.RowsK Go.MapK
variable {L:List Ind} {w w':Wo} {base i cap g n m:Nat} {P:Program} {v x y:Value} {o:Oper} {J:Ind}
def RH {ev:Operand→Value} (t:TypeId) (x y:Operand) (ho:o.op= .store t x y) {v u:Value} (hx:ev x=v) (hy:ev y=u) (hr:(Instr.storeAt t v u).run P w= .ok () w'):(execOp ev o).run P w= .ok .skip w':=by
 unfold execOp;simp only [ho,hx,hy,aU,cC,hr,cI]
def YY {W W1:Wo} {A:Addr} (h:(storeCells A [x,y] 0).run Tryz.prog W= .ok () W1):(Instr.storeAt 63 (.pointer (some A)) (.agg #[x,y])).run Tryz.prog W= .ok () W1:=by
 obtain⟨i0,hi,hz0,hz1,hz2⟩:=mQ (show(Tryz.prog.info? 63).map (fun i=>(i.zero,i.size,i.bytes))=some (some rL,2,24) by kernel_rfl);have hs:∀W,(Go.sizeOf 63).run Tryz.prog W= .ok 2 W:=fun W=>by simp [Go.sizeOf,typeInfo,hi,hz1]
 have ha:(Instr.sureAddr (.pointer (some A))).run Tryz.prog W= .ok A W:=rfl;unfold Instr.storeAt;simp [storeVar,ha,hs,Value.cells,h]
def eR {ops:Array Oper} {rest:List Oper} {a:Act} {Q:Exit→Act→Wo→Prop} (a0:o.guard=none) (t:TypeId) (x y:Operand)
  (ho:o.op= .store t x y) {v u:Value} (hx:a.eval x=v) (hy:a.eval y=u) {w':Wo}
  (hr:(Instr.storeAt t v u).run P w= .ok () w') (h:wpList P ops Q rest (a.put o.dst undef) w'):wpList P ops Q (o::rest) a w:=
 bE a0 fun _ hK=>by
  unfold Oper.wp;rw [RH t x y ho hx hy hr];exact hK _ _ h
def flat_set (h:i<L.length):(L.set i J).flatMap bO=(L.flatMap bO).take (i*2)++bO J++(L.flatMap bO).drop (i*2+2):=by
 induction L generalizing i with
 |nil=>simp at h
 | cons a r ih=>
  cases i with
  |zero=>simp [bO]
  |succ j=>
   have:=ih (i:=j) (by simpa using h);simp only [VP,pR,this];rw [show(j+1)*2=j*2+2 by omega];simp [bO]
def XM {α:Type} (C X:List α) (o N:Nat) (h:o+X.length≤N) (hC:N≤C.length):(C.take o++X++C.drop (o+X.length)).take N=(C.take N).take o++X++(C.take N).drop (o+X.length):=by
 have hl:(C.take o++X).length=o+X.length:=by simp;omega
 rw [VO,fH (by rw [hl];exact h),hl,List.drop_take,yP,oE (by omega)]
def aF.store (h:aF base w (.slice (some ⟨g,0,none⟩) n cap) L) (hn:L.length=n) (hi:i<n):
  ∃w1,(storeCells ⟨g,i*2,none⟩ [.string J.1,.int .i64 J.2] 0).run Tryz.prog w= .ok () w1∧aF base w1 (.slice (some ⟨g,0,none⟩) n cap) (L.set i J)∧w.grownBy w1 (some g)∧w1.heap.size=w.heap.size:=by
 unfold aF at h;rw [hn] at h;obtain⟨a1,⟨e,_⟩|⟨g',cap',cur,e,hb,hg,hnc,hm,hs,ht⟩⟩:=h
 ·cases e
 cases e;have a4:cur.toList.length=cap*2:=by rw [cU];exact hs
 have a3:=yH (P:=Tryz.prog) g (i*2) 63 [.string J.1,.int .i64 J.2] 0 cur w hg (by simp;omega) (by simp [Value.oneCell']);refine⟨_,a3,?_,⟨rfl,rfl,rfl,by simp [World.setRow],fun k hk a2=>vG _ _ _ _ fun e=>a2 (by rw [e])⟩,by simp [World.setRow]⟩;unfold aF;rw [yU,hn];refine⟨by rw [flat_len,yU,hn],.inr ⟨g,cap,_,rfl,hb,tF _ _ _ _ _ _ hg,hnc,hm,?_,?_⟩⟩
 ·simp;omega
 ·rw [flat_set (by omega),←ht];have:=XM cur.toList [Value.string J.1,Value.int .i64 J.2] (i*2) (n*2) (by simp;omega) (by omega);simpa [bO] using this
def aF.cells (h:aF base w (.slice (some ⟨g,0,none⟩) n cap) L) {i:Nat} {J:Ind} (hi:L[i]?=some J):w.cell? ⟨g,i*2,none⟩=some (.string J.1)∧w.cell? ⟨g,i*2+1,none⟩=some (.int .i64 J.2):=by
 obtain⟨a,c,e,hr⟩:=aF.read h;injection e with e1 e2 e3
 obtain⟨g',off,e4,_,h1,h2⟩:=hr i J hi;have hO:=h;obtain⟨a',c',e5,hr2⟩:=iN h;injection e5 with e6 _ _
 rcases hr2 with h0|⟨g2,e7,_,_,hc⟩
 ·have:=(aM.1 hi).1;omega
 ·rw [e7] at e6;injection e6 with e6;injection e6 with e8 _ _
  subst e8;obtain⟨q1,q2⟩:=flat_get hi;exact⟨hc _ _ q1,hc _ _ q2⟩
section
attribute [local go_sem] Heavy.uponW
def aF.some (h:aF base w v L) (hL:L≠ []):∃g c,v= .slice (some ⟨g,0,none⟩) L.length c∧base≤g∧g<w.heap.size:=by
 obtain⟨a0,⟨e,h0⟩|⟨g,cap,cur,e,hb,hg,_⟩⟩:=h
 ·exact absurd (gI h0) hL
 ·exact⟨g,cap,e,hb,(aG.1 hg).1⟩
def aF.below (h:aF base w v L) (hb:Below m w w') (hm:w.heap.size≤m):aF base w' v L:=gJ h hb hm
def aF.nil (base:Nat) (w:Wo):aF base w (.slice none 0 0) []:=pL _ _ _ _
end
def ZU (C:Cl) (n:Nat) (w:Wo) (vs:Lv) (h:ClV n w C vs) (hn:n≤w.heap.size) (hN:C.h.nodes+C.b.nodes≤20000):
  Cz 182 #[.agg vs.toArray] w fun e w'=>e= .returned (.bool C.numB)∧Bz w w':=by
 obtain⟨vh,vb,rfl,h1,h2⟩:=h;obtain⟨th,tb,vars⟩:=C;dsimp only at h1 h2 hN ⊢;have b9:=aside h1;have c0:=aside h2;obtain⟨R,hR⟩:=enm (Tm.frL [th,tb] []);have a9:Cl.num ⟨th,tb,vars⟩↔(∀(j:Nat) x,R[j]?=some x→x=j)∧(R.length:Int)=vars:=by rw [←hR];rfl
 have b3:Tm.free (.mk 5 0 ⟨#[120]⟩ false [] [] [th,tb])=R:=by rw [SD,hR]
 have c8:R.length≤20000:=by
  rw [←hR];have:=(uN [th,tb] []).1;simp [Tm.nodesL] at this;omega
 have b4:Tm.nodes (.mk 5 0 ⟨#[120]⟩ false [] [] [th,tb])≤1000000:=by rw [SC];omega
 obtain⟨NB,hNB⟩:∃b,Cl.numB ⟨th,tb,vars⟩=b:=⟨_,rfl⟩;have a7:Aside (NB=true↔(∀(j:Nat) x,R[j]?=some x→x=j)∧(R.length:Int)=vars):=by
  show _↔_;rw [←hNB,←a9];simp [Cl.numB]
 rw [hNB];have hV:Aside (∀w2 w3,Bz w w2→Bz w2 w3→w3.heap[w2.heap.size]?=some (.cells (vh++vb).toArray 48)→TmV (w2.heap.size+1) w3 (.mk 5 0 ⟨#[120]⟩ false [] [] [th,tb]) [.int .i64 5,.int .i64 0,.string ⟨#[120]⟩,.bool false,.slice none 0 0,.slice none 0 0,.slice (some ⟨w2.heap.size,0,none⟩) 2 2]):=
  fun w2 w3 b2 a0 hq=>Gu (aD hn b2.size) (TmV.below b2 hn _ _ b9.o) (TmV.below b2 hn _ _ c0.o) a0 hq
 obtain⟨TT,hTT⟩:∃t,Tm.mk 5 0 ⟨#[120]⟩ false [] [] [th,tb]=t:=⟨_,rfl⟩;rw [hTT] at b3 b4 hV;have dF:Aside (∀(n':Nat) (w2:Wo) (us:Lv),TmV n' w2 TT us→n'≤w2.heap.size→Cz 132 #[.agg us.toArray] w2 (FreeP w2 R)):=fun n' w2 us hv d0=>by rw [←b3];exact wR TT n' w2 us hv d0 b4
 clear hTT b3 b4 hNB a9 hR b9 c0 hN;obtain⟨k1,v1,nm1,g1,num1,den1,a6⟩:=th;obtain⟨k2,v2,nm2,g2,num2,den2,args2⟩:=tb;simp only [TmV] at h1 h2;obtain⟨_,_,a1,c1,rfl,⟨⟨p1,q1,rfl,_⟩,⟨p2,q2,rfl,_⟩⟩,_⟩:=h1;obtain⟨_,_,a2,c2,rfl,⟨⟨p3,q3,rfl,_⟩,⟨p4,q4,rfl,_⟩⟩,_⟩:=h2;generalize a6.length=l1,num1.length=n1,den1.length=n2,args2.length=l2,num2.length=n3,den2.length=n4 at*;obtain⟨wb,hwb,b0,hq,hsz⟩:=ebx w (bC k1 v1 nm1 g1 p1 n1 q1 p2 n2 q2 a1 l1 c1 k2 v2 nm2 g2 p3 n3 q3 p4 n4 q4 a2 l2 c2 vars);obtain⟨x0,x1,x2,x3,x4,x5,x6,x7,x8,x9,x10,x11,x12,x13,b8⟩:=pI hq;have b1:=aC wb (Obj.cells #[.int .i64 k1,.int .i64 v1,.string nm1,.bool g1,.slice p1 n1 q1,.slice p2 n2 q2,.slice a1 l1 c1,.int .i64 k2,.int .i64 v2,.string nm2,.bool g2,.slice p3 n3 q3,.slice p4 n4 q4,.slice a2 l2 c2] 48);have c5:=aJ wb (Obj.cells #[.int .i64 k1,.int .i64 v1,.string nm1,.bool g1,.slice p1 n1 q1,.slice p2 n2 q2,.slice a1 l1 c1,.int .i64 k2,.int .i64 v2,.string nm2,.bool g2,.slice p3 n3 q3,.slice p4 n4 q4,.slice a2 l2 c2] 48);have c6:Aside (∀w3,Bz (wb.alloc (Obj.cells #[.int .i64 k1,.int .i64 v1,.string nm1,.bool g1,.slice p1 n1 q1,.slice p2 n2 q2,.slice a1 l1 c1,.int .i64 k2,.int .i64 v2,.string nm2,.bool g2,.slice p3 n3 q3,.slice p4 n4 q4,.slice a2 l2 c2] 48)) w3→TmV (wb.heap.size+1) w3 TT [.int .i64 5,.int .i64 0,.string ⟨#[120]⟩,.bool false,.slice none 0 0,.slice none 0 0,.slice (some ⟨wb.heap.size,0,none⟩) 2 2]):=fun w3 a0=>
  hV.o wb w3 b0 (b1.trans (a0.mono b1.size)) ((a0.block _ (by rw [cB];omega)).trans c5)
 have c7:Aside (∀w3,Bz (wb.alloc (Obj.cells #[.int .i64 k1,.int .i64 v1,.string nm1,.bool g1,.slice p1 n1 q1,.slice p2 n2 q2,.slice a1 l1 c1,.int .i64 k2,.int .i64 v2,.string nm2,.bool g2,.slice p3 n3 q3,.slice p4 n4 q4,.slice a2 l2 c2] 48)) w3→w3.cell? ⟨w.heap.size,14,none⟩=some (.int .i64 vars)∧Bz w w3):=fun w3 a0=>
  ⟨((b1.trans (a0.mono b1.size)).cell (p:=⟨w.heap.size,14,none⟩) (by show w.heap.size<_;omega)).trans b8,b0.trans ((b1.trans (a0.mono b1.size)).mono b0.size)⟩
 have b6:Aside ((wb.alloc (Obj.cells #[.int .i64 k1,.int .i64 v1,.string nm1,.bool g1,.slice p1 n1 q1,.slice p2 n2 q2,.slice a1 l1 c1,.int .i64 k2,.int .i64 v2,.string nm2,.bool g2,.slice p3 n3 q3,.slice p4 n4 q4,.slice a2 l2 c2] 48)).heap.size=wb.heap.size+1):=by show _=_;rw [cB]
 clear hq hV c5 b0 b1 hsz;show Cz 182 #[.agg (tC k1 v1 nm1 g1 p1 n1 q1 p2 n2 q2 a1 l1 c1 k2 v2 nm2 g2 p3 n3 q3 p4 n4 q4 a2 l2 c2 vars)] w _;go_enter Tryz.func182,Tryz.ntmps182
 go_upto_region 1 with fail
 clear hwb
 go_wp2_with (go_at_call 137;with_reducible refine(tR ⟨#[120]⟩ _ 2 2 (by decide) _).mono ?_)
 rintro e w3 ⟨rfl,a0⟩;have d1:=dF.o _ w3 _ (c6.o w3 a0) (by have:=a0.size;have:=b6.o;omega);replace d1:Cz 132 #[.agg #[.int .i64 5,.int .i64 0,.string ⟨#[120]⟩,.bool false,.slice none 0 0,.slice none 0 0,.slice (some ⟨wb.heap.size,0,none⟩) 2 2]] w3 _:=d1;have a8:Aside (Below _ _ w3):=a0;clear a0 x0 x1 x2 x3 x4 x5 x6 x7 x8 x9 x10 x11 x12 x13 b8
 go_wp2_with (go_at_call 132;with_reducible refine d1.mono ?_)
 rintro e w4 ⟨v4,rfl,hO4,hb4⟩;have b7:=c7.o w4 (a8.o.trans (hb4.mono a8.o.size));obtain⟨pa,pc,rfl,hrd⟩:=iN hO4;obtain⟨len,hl⟩:=enm R.length;rw [hl] at hrd c8 ⊢;have Rl:=aside hl;have b5:Aside (∀(j:Nat) x,R[j]?=some x→∃g,pa=some ⟨g,0,none⟩∧w4.cell? ⟨g,j,none⟩=some (.int .i64 x)):=by
  show∀(j:Nat) x,_;intro j x hj;rcases hrd with h0|⟨g,e,_,_,hc⟩
  ·have:=(aM.1 hj).1;omega
  ·exact⟨g,e,hc j _ (by rw [gO,hj];rfl)⟩
 have b8:=b7.1;have c3:Aside (Bz w w4):=b7.2;clear hO4 hrd hl hb4 d1 b7 dF c6 c7;go_wp2
 go_loop [15] (fun s=>∃i:Nat,s= .int .i64 i∧i≤len∧Aside (∀(j:Nat) x,j<i→R[j]?=some x→x=j)) (fun s=>len-(intOf s).toNat)
 case atStart=>exact⟨0,rfl,bX _,fun j x hj=>by omega⟩
 case round=>
  obtain⟨i,rfl,hi,hall⟩:=hrel
  by_cases c9:i<len
  ·obtain⟨x,hx⟩:=egf Rl.o c9;obtain⟨g,rfl,hc⟩:=b5.o i x hx;obtain⟨d2,hi3,hw3⟩:=elt (i:=i) (n:=len) (by omega) (by omega)
   by_cases a4:x=i
   ·subst a4;have a3:Aside (∀(j:Nat) x,j<i+1→R[j]?=some x→x=j):=fun j x hj a5=>by
     rcases lR j i with h|h
     ·exact hall.o j x h a5
     ·obtain rfl:j=i:=by omega
      rw [hx] at a5;injection a5 with e;exact e.symm
    clear hall hx;go_wp2
    go_round
    case rel=>exact⟨i+1,by simp,by omega,a3⟩
    case measure=>simp [intOf];omega
   ·have e1:((i:Int)==x)=false:=by simpa using fun e=>a4 e.symm
    have e2:((i:Int) !=x)=true:=by simpa using fun e=>a4 e.symm
    have e3:(x==(i:Int))=false:=by simpa using a4
    have e4:(x !=(i:Int))=true:=by simpa using a4
    obtain rfl:NB=false:=by
     cases NB
     ·rfl
     ·exact absurd ((a7.o.1 rfl).1 i x hx) a4
    clear hall hx a4;go_wp2
    go_ret
    exact⟨rfl,c3.o⟩
  ·obtain rfl:i=len:=by omega
   have a3:Aside (∀(j:Nat) x,R[j]?=some x→x=j):=fun j x a5=>hall.o j x (by rw [←Rl.o];exact(aM.1 a5).1) a5
   clear hall;obtain⟨bb,hbb⟩:∃b,((i:Int)==vars)=b:=⟨_,rfl⟩;have c4:=aside hbb;obtain rfl:NB=bb:=by
    rw [jH,a7.o,←c4.o,Rl.o];simp only [IL];exact⟨fun h=>h.2,fun h=>⟨a3.o,h⟩⟩
   clear hbb;go_wp2
   go_ret
   exact⟨by first|rfl|(have:=c4.o;simp_all),c3.o⟩
end Go.Proofs.YtbdpdeonapmlgaaGreatDoor
namespace Go.Proofs.YtbdpdeonapmlgaaGreatDoor
open Go.RowKit Go.Big
noncomputable def Tm.faultE (T:Tm):Int:=if 10000<T.nodes then 3 else T.errE
def Hq (T:Tm) (n:Nat) (w:Wo) (vs:Lv) (h:TmV n w T vs) (hn:n≤w.heap.size):
  Cz 87 #[.agg vs.toArray] w fun e w'=>e= .returned (.int .i64 T.faultE)∧Bz w w':=by
 have hs:=NE T n;have hd:=NW T n;obtain⟨F,hF⟩:=enm T.errE;have a2:Aside (T.faultE=if 10000<T.nodes then 3 else F):=by rw [←hF];rfl
 rw [hF] at hd;have h0:=h;obtain⟨k,v,nm,g,num,den,args⟩:=T;simp only [TmV] at h;obtain⟨s1,s2,a,c,rfl,⟨⟨p1,q1,rfl,_⟩,⟨p2,q2,rfl,_⟩⟩,_⟩:=h;obtain⟨N,hN⟩:=enm (Tm.nodes (.mk k v nm g num den args));obtain⟨E,hE⟩:=enm (Tm.faultE (.mk k v nm g num den args));rw [hE,hN] at a2;rw [hE];have hB:=aC w (Obj.cells #[.int .i64 k,.int .i64 v,.string nm,.bool g,.slice p1 num.length q1,.slice p2 den.length q2,.slice a args.length c] 48);have hq:=aJ w (Obj.cells #[.int .i64 k,.int .i64 v,.string nm,.bool g,.slice p1 num.length q1,.slice p2 den.length q2,.slice a args.length c] 48);have d1:=hs (w.alloc (Obj.cells #[.int .i64 k,.int .i64 v,.string nm,.bool g,.slice p1 num.length q1,.slice p2 den.length q2,.slice a args.length c] 48)) _ 10000 (by omega) (TmV.below hB hn _ _ h0) (aD hn hB.size);have d2:∀w2,Bz w w2→_:=fun w2 hb=>hd w2 _ (TmV.below hb hn _ _ h0) (aD hn hb.size)
 rw [hN] at d1;replace d1:Cz 152 #[.agg #[.int .i64 k,.int .i64 v,.string nm,.bool g,.slice p1 num.length q1,.slice p2 den.length q2,.slice a args.length c],.int .i64 10000] _ _:=d1;replace d2:∀w2,Bz w w2→Cz 153 #[.agg #[.int .i64 k,.int .i64 v,.string nm,.bool g,.slice p1 num.length q1,.slice p2 den.length q2,.slice a args.length c]] w2 _:=d2;clear h0 hs hd hN hE hF;generalize args.length=l0,num.length=l1,den.length=l2 at*;show Cz 87 #[.agg (tA k v nm g p1 l1 q1 p2 l2 q2 a l0 c)] w _
 by_cases hb:10000<N
 ·have a1:Aside (E=3):=by show E=3;rw [a2.o,if_pos hb]
  go_enter Tryz.func87,Tryz.ntmps87
  go_wp2_with first|(go_at_call 152;(with_reducible refine d1.mono ?_);rintro e w3 ⟨r,rfl,hr,hb3⟩;obtain⟨r2,a3⟩:∃r2:Nat,r=r2∧(10000:Int)<(r2:Int):=⟨r,rfl,by omega⟩;obtain⟨rfl,hr3⟩:=a3;clear hr)
  go_ret
  rw [a1.o];exact⟨rfl,hB.trans (hb3.mono hB.size)⟩
 ·have a1:Aside (E=F):=by show E=F;rw [a2.o,if_neg hb]
  go_enter Tryz.func87,Tryz.ntmps87
  go_wp2_with first|(go_at_call 152;(with_reducible refine d1.mono ?_);rintro e w3 ⟨r,rfl,hr,hb3⟩;have a3:(r:Int)≤10000:=(by omega);have a0:=hB.trans (hb3.mono hB.size);obtain⟨y0,y1,y2,y3,y4,y5,y6⟩:=bZ ((hb3.block w.heap.size (by simp)).trans hq);clear hr)|(go_at_call 153;(with_reducible refine(d2 _ a0).mono ?_);rintro e w4 ⟨rfl,hb4⟩)
  go_ret
  rw [a1.o];exact⟨rfl,a0.trans (hb4.mono a0.size)⟩
end Go.Proofs.YtbdpdeonapmlgaaGreatDoor
namespace Go.Proofs.YtbdpdeonapmlgaaGreatDoor
open Go.RowKit Go.Big Go.RowsK Go.MapK
variable {a:Option Addr} {w w':Wo} {n i g m o:Nat}
def lN {T:Tm} (h:T.faultE=0):T.nodes≤10000∧T.errE=0:=by
 unfold Tm.faultE at h;split at h
 ·cases h
 ·exact⟨by omega,h⟩
noncomputable def Cl.flt (C:Cl):Int:=
 if C.h.faultE≠0 then C.h.faultE else if C.b.faultE≠0 then C.b.faultE else if C.numB=false then 2 else if C.h.callB=false then 7 else if C.h.bi=true then 8 else if C.b.litsB=false then 7 else 0
def ZY (C:Cl) (n:Nat) (w:Wo) (vs:Lv) (h:ClV n w C vs) (hn:n≤w.heap.size):
  Cz 120 #[.agg vs.toArray] w fun e w'=>e= .returned (.int .i64 C.flt)∧Bz w w':=by
 have hC:=h;obtain⟨vh,vb,rfl,h1,h2⟩:=h;obtain⟨FL,hFL⟩:∃f,C.flt=f:=⟨_,rfl⟩;rw [hFL];have a5:Aside (∀(T:Tm) (w2:Wo) (us:Lv),TmV n w2 T us→n≤w2.heap.size→_):=fun T w2 us a b=>Hq T n w2 us a b
 have a8:Aside (∀(w2:Wo),Bz w w2→C.h.faultE=0→C.b.faultE=0→_):=fun w2 hb ha c5=>ZU C n w2 (jR vh vb C.vars) (hC.below hb hn) (aD hn hb.size) (by have:=(lN ha).1;have:=(lN c5).1;omega)
 have a7:Aside (∀(w2:Wo),Bz w w2→C.b.faultE=0→_):=fun w2 hb ha=>wP C.b n w2 vb (lN ha).2 (lN ha).1 (TmV.below hb hn _ _ h2) (aD hn hb.size)
 obtain⟨fh,hfh⟩:∃f,C.h.faultE=f:=⟨_,rfl⟩;obtain⟨fb,hfb⟩:∃f,C.b.faultE=f:=⟨_,rfl⟩;obtain⟨nb,hnb⟩:∃f,C.numB=f:=⟨_,rfl⟩;obtain⟨cb,hcb⟩:∃f,C.h.callB=f:=⟨_,rfl⟩;obtain⟨bi,hbi⟩:∃f,C.h.bi=f:=⟨_,rfl⟩;obtain⟨lb,hlb⟩:∃f,C.b.litsB=f:=⟨_,rfl⟩;have a0:Aside (FL=if fh≠0 then fh else if fb≠0 then fb else if nb=false then 2 else if cb=false then 7 else if bi=true then 8 else if lb=false then 7 else 0):=by
  show FL=_;rw [←hFL,←hfh,←hfb,←hnb,←hcb,←hbi,←hlb];rfl
 have dh:=fun w2 (hb:Bz w w2)=>a5.o C.h w2 vh (TmV.below hb hn _ _ h1) (aD hn hb.size)
 have db:=fun w2 (hb:Bz w w2)=>a5.o C.b w2 vb (TmV.below hb hn _ _ h2) (aD hn hb.size)
 rw [hfh] at dh;rw [hfb] at db;have a3:fh=0→fb=0→∀w2,Bz w w2→_:=fun a b w2 hb=>a8.o w2 hb (hfh.trans a) (hfb.trans b)
 have a4:fb=0→∀w2,Bz w w2→_:=fun b w2 hb=>a7.o w2 hb (hfb.trans b)
 rw [hnb] at a3;have b2:=aside dh;have b5:=aside db;have a6:=aside a3;have b3:Aside (fb=0→∀w2,Bz w w2→Cz 59 #[.agg vb.toArray] w2 fun e w'=>∃v,e= .returned (.tuple #[v,.bool lb])∧Bz w2 w'):=fun b w2 hb=>(a4 b w2 hb).mono fun e w' hp=>by
  obtain⟨v,e1,_,e3⟩:=hp;exact⟨v,by rw [e1,hlb],e3⟩
 clear dh db a3 a4 a5 a8 a7 hC hFL hfh hfb hnb hlb;obtain⟨th,tb,vars⟩:=C;dsimp only at h1 h2 hcb hbi a6;obtain⟨k1,v1,nm1,g1,b6,den1,args1⟩:=th;obtain⟨k2,v2,nm2,g2,num2,den2,args2⟩:=tb;simp only [TmV] at h1 h2;obtain⟨_,_,a1,c1,rfl,⟨⟨p1,q1,rfl,_⟩,⟨p2,q2,rfl,_⟩⟩,_⟩:=h1;obtain⟨_,_,a2,c2,rfl,⟨⟨p3,q3,rfl,_⟩,⟨p4,q4,rfl,_⟩⟩,_⟩:=h2;obtain⟨l1,hl1⟩:∃l,args1.length=l:=⟨_,rfl⟩;generalize b6.length=n1,den1.length=n2,args2.length=l2,num2.length=n3,den2.length=n4 at*;rw [hl1] at b2 a6 ⊢;have c0:Aside (∀w2,Cz 89 #[.agg (tA k1 v1 nm1 g1 p1 n1 q1 p2 n2 q2 a1 l1 c1)] w2 fun e w'=>e= .returned (.bool cb)∧Bz w2 w'):=fun w2=>by rw [←hcb];exact HD k1 v1 nm1 g1 _ _ _ w2
 have b8:Aside (∀w2,Cz 26 #[.agg (tA k1 v1 nm1 g1 p1 n1 q1 p2 n2 q2 a1 l1 c1)] w2 fun e w'=>e= .returned (.agg #[.string nm1,.int .i64 l1])∧Bz w2 w'):=fun w2=>oR k1 v1 nm1 g1 _ _ _ _ _ w2
 have b9:Aside (∀w2,Cz 74 #[.agg #[.string nm1,.int .i64 l1]] w2 fun e w'=>e= .returned (.bool bi)∧Bz w2 w'):=fun w2=>by
  have:biB nm1.toList l1=bi:=by rw [←hbi,←hl1];rfl
  rw [←this];exact zY nm1 l1 w2
 replace b2:Aside (∀w2,Bz w w2→Cz 87 #[.agg (tA k1 v1 nm1 g1 p1 n1 q1 p2 n2 q2 a1 l1 c1)] w2 fun e w'=>e= .returned (.int .i64 fh)∧Bz w2 w'):=b2;replace b5:Aside (∀w2,Bz w w2→Cz 87 #[.agg (tA k2 v2 nm2 g2 p3 n3 q3 p4 n4 q4 a2 l2 c2)] w2 fun e w'=>e= .returned (.int .i64 fb)∧Bz w2 w'):=b5;replace a6:Aside (fh=0→fb=0→∀w2,Bz w w2→Cz 182 #[.agg (tC k1 v1 nm1 g1 p1 n1 q1 p2 n2 q2 a1 l1 c1 k2 v2 nm2 g2 p3 n3 q3 p4 n4 q4 a2 l2 c2 vars)] w2 fun e w'=>e= .returned (.bool nb)∧Bz w2 w'):=a6;replace b3:Aside (fb=0→∀w2,Bz w w2→Cz 59 #[.agg (tA k2 v2 nm2 g2 p3 n3 q3 p4 n4 q4 a2 l2 c2)] w2 fun e w'=>∃v,e= .returned (.tuple #[v,.bool lb])∧Bz w2 w'):=b3;obtain⟨wb,hwb,b0,hq,hsz⟩:=ebx w (bC k1 v1 nm1 g1 p1 n1 q1 p2 n2 q2 a1 l1 c1 k2 v2 nm2 g2 p3 n3 q3 p4 n4 q4 a2 l2 c2 vars);have fa:Aside (∀w2,Bz wb w2→_):=fun(w2:Wo) (hb:Bz wb w2)=>pI ((hb.block w.heap.size (by omega)).trans hq)
 obtain⟨x0,x1,x2,x3,x4,x5,x6,x7,x8,x9,x10,x11,x12,x13,x14⟩:=fa.o wb (bD _ _);have e0:Bz wb wb:=bD _ _;have b4:Aside (∀w2,Bz wb w2→Bz w w2):=fun w2 hb=>b0.trans (hb.mono b0.size)
 clear hq hsz hcb hbi hl1;show Cz 120 #[.agg (tC k1 v1 nm1 g1 p1 n1 q1 p2 n2 q2 a1 l1 c1 k2 v2 nm2 g2 p3 n3 q3 p4 n4 q4 a2 l2 c2 vars)] w _;go_enter Tryz.func120,Tryz.ntmps120
 go_upto_region 1 with fail
 clear hwb
 go_wp2_with (go_at_call 87;with_reducible refine(b2.o _ (b4.o _ e0)).mono ?_)
 rintro e w1 ⟨rfl,hb1⟩;have e1:Bz wb w1:=e0.trans (hb1.mono e0.size);clear x0 x1 x2 x3 x4 x5 x6 x7 x8 x9 x10 x11 x12 x13 x14;obtain⟨x0,x1,x2,x3,x4,x5,x6,x7,x8,x9,x10,x11,x12,x13,x14⟩:=fa.o w1 e1;clear hb1
 by_cases a9:fh=0
 case neg=>
  have f1:(fh==0)=false:=by simpa using a9
  have f2:(fh !=0)=true:=by simpa using a9
  obtain rfl:FL=fh:=by have:=a0.o;rw [if_pos a9] at this;exact this
  clear a9;clear a0;go_wp2
  go_ret
  exact⟨rfl,b0.trans (e1.mono b0.size)⟩
 subst a9;have b7:Aside (fb=0→∀w2,Bz w w2→Cz 182 #[.agg (tC k1 v1 nm1 g1 p1 n1 q1 p2 n2 q2 a1 l1 c1 k2 v2 nm2 g2 p3 n3 q3 p4 n4 q4 a2 l2 c2 vars)] w2 fun e w'=>e= .returned (.bool nb)∧Bz w2 w'):=a6.o rfl;clear a6
 go_wp2_with (go_at_call 87;with_reducible refine(b5.o _ (b4.o _ e1)).mono ?_)
 rintro e w2 ⟨rfl,hb2⟩;have e2:Bz wb w2:=e1.trans (hb2.mono e1.size);clear x0 x1 x2 x3 x4 x5 x6 x7 x8 x9 x10 x11 x12 x13 x14;obtain⟨x0,x1,x2,x3,x4,x5,x6,x7,x8,x9,x10,x11,x12,x13,x14⟩:=fa.o w2 e2;clear hb2
 by_cases b1:fb=0
 case neg=>
  have f1:(fb==0)=false:=by simpa using b1
  have f2:(fb !=0)=true:=by simpa using b1
  obtain rfl:FL=fb:=by have:=a0.o;rw [if_neg (by simp),if_pos b1] at this;exact this
  clear b1;clear a0;go_wp2
  go_ret
  exact⟨rfl,b0.trans (e2.mono b0.size)⟩
 subst b1;have c4:Aside (∀w2,Bz w w2→Cz 182 #[.agg (tC k1 v1 nm1 g1 p1 n1 q1 p2 n2 q2 a1 l1 c1 k2 v2 nm2 g2 p3 n3 q3 p4 n4 q4 a2 l2 c2 vars)] w2 fun e w'=>e= .returned (.bool nb)∧Bz w2 w'):=b7.o rfl;have c3:Aside (∀w2,Bz w w2→Cz 59 #[.agg (tA k2 v2 nm2 g2 p3 n3 q3 p4 n4 q4 a2 l2 c2)] w2 fun e w'=>∃v,e= .returned (.tuple #[v,.bool lb])∧Bz w2 w'):=b3.o rfl;clear b7 b3
 go_wp2_with (go_at_call 59;with_reducible refine(c3.o _ (b4.o _ e2)).mono ?_)
 rintro e w3 ⟨vl,rfl,hb3⟩;have e3:Bz wb w3:=e2.trans (hb3.mono e2.size);clear x0 x1 x2 x3 x4 x5 x6 x7 x8 x9 x10 x11 x12 x13 x14;obtain⟨x0,x1,x2,x3,x4,x5,x6,x7,x8,x9,x10,x11,x12,x13,x14⟩:=fa.o w3 e3;clear hb3
 go_wp2_with (go_at_call 182;with_reducible refine(c4.o _ (b4.o _ e3)).mono ?_)
 rintro e w4 ⟨rfl,hb4⟩;have e4:Bz wb w4:=e3.trans (hb4.mono e3.size);clear x0 x1 x2 x3 x4 x5 x6 x7 x8 x9 x10 x11 x12 x13 x14;obtain⟨x0,x1,x2,x3,x4,x5,x6,x7,x8,x9,x10,x11,x12,x13,x14⟩:=fa.o w4 e4;clear hb4;cases nb
 case false=>
  obtain rfl:FL=2:=a0.o;clear a0;go_wp2
  go_ret
  exact⟨rfl,b0.trans (e4.mono b0.size)⟩
 go_wp2_with (go_at_call 89;with_reducible refine(c0.o _).mono ?_)
 rintro e w5 ⟨rfl,hb5⟩;have e5:Bz wb w5:=e4.trans (hb5.mono e4.size);clear x0 x1 x2 x3 x4 x5 x6 x7 x8 x9 x10 x11 x12 x13 x14;obtain⟨x0,x1,x2,x3,x4,x5,x6,x7,x8,x9,x10,x11,x12,x13,x14⟩:=fa.o w5 e5;clear hb5;cases cb
 case false=>
  obtain rfl:FL=7:=a0.o;clear a0;go_wp2
  go_ret
  exact⟨rfl,b0.trans (e5.mono b0.size)⟩
 go_wp2_with (go_at_call 26;with_reducible refine(b8.o _).mono ?_)
 rintro e w6 ⟨rfl,hb6⟩;have e6:Bz wb w6:=e5.trans (hb6.mono e5.size);clear x0 x1 x2 x3 x4 x5 x6 x7 x8 x9 x10 x11 x12 x13 x14;obtain⟨x0,x1,x2,x3,x4,x5,x6,x7,x8,x9,x10,x11,x12,x13,x14⟩:=fa.o w6 e6;clear hb6
 go_wp2_with (go_at_call 74;with_reducible refine(b9.o _).mono ?_)
 rintro e w7 ⟨rfl,hb7⟩;have e7:Bz wb w7:=e6.trans (hb7.mono e6.size);clear x0 x1 x2 x3 x4 x5 x6 x7 x8 x9 x10 x11 x12 x13 x14;obtain⟨x0,x1,x2,x3,x4,x5,x6,x7,x8,x9,x10,x11,x12,x13,x14⟩:=fa.o w7 e7;clear hb7;cases bi
 case true=>
  obtain rfl:FL=8:=a0.o;clear a0;go_wp2
  go_ret
  exact⟨rfl,b0.trans (e7.mono b0.size)⟩
 cases lb
 case false=>
  obtain rfl:FL=7:=a0.o;clear a0;go_wp2
  go_ret
  exact⟨rfl,b0.trans (e7.mono b0.size)⟩
 obtain rfl:FL=0:=a0.o;clear a0;go_wp2
 go_ret
 exact⟨rfl,b0.trans (e7.mono b0.size)⟩
def CellsAt (w:Wo) (g off:Nat) (vs:Lv):Prop:=∀(j:Nat) u,vs[j]?=some u→w.cell? ⟨g,off+j,none⟩=some u
def CellsAt.below {off:Nat} {vs:Lv} (h:CellsAt w g off vs) (hb:Below n w w') (hg:g<n):CellsAt w' g off vs:=fun j u hj=>(hb.cell (p:=⟨g,off+j,none⟩) hg).trans (h j u hj)
def ClsV (n:Nat) (w:Wo) (L:List Cl) (a:Option Addr):Prop:=
 ∀(k:Nat) C,L[k]?=some C→∃g off vs,a=some ⟨g,off,none⟩∧g<n∧CellsAt w g (off+k*15) vs∧ClV n w C vs
def ClsV.below {L:List Cl} (h:ClsV n w L a) (hb:Below m w w') (hm:n≤m):ClsV n w' L a:=fun k C hk=>by
 obtain⟨g,off,vs,e,hg,hc,h1⟩:=h k C hk;exact⟨g,off,vs,e,hg,hc.below hb (by omega),h1.below hb hm⟩
def mN:List Tm→Option Ind
 | []=>none
 |A::_=>some A.ind
def Tm.args:Tm→List Tm
 | .mk _ _ _ _ _ _ args=>args
def Tm.atomI (T:Tm):Option Ind:=if T.kd=1 then some T.ind else if T.kd=2 then mN T.args else none
def Cl.atoms (C:Cl):List Ind:=C.b.lits.filterMap Tm.atomI
def lP (k:Ind) (C:Cl):List Ind:=if C.h.ind=k then C.atoms else []
def cE (P:List Cl) (k:Ind):List Ind:=P.flatMap (lP k)
def Gd {P:List Cl} {k:Ind} {C:Cl} (h:P[i]?=some C):cE (P.take (i+1)) k=cE (P.take i) k++lP k C:=by
 unfold cE;rw [lT,h];simp
def sL {C:Cl} (h:C.flt=0):C.h.faultE=0∧C.b.faultE=0∧C.numB=true∧C.h.callB=true∧C.h.bi=false∧C.b.litsB=true:=by
 unfold Cl.flt at h
 by_cases h1:C.h.faultE=0
 ·by_cases h2:C.b.faultE=0
  ·simp only [h1,h2,ne_eq,UV,gX] at h;cases e1:C.numB
   ·simp [e1] at h
   ·cases e2:C.h.callB
    ·simp [e1,e2] at h
    ·cases e3:C.h.bi
     ·cases e4:C.b.litsB
      ·simp [e1,e2,e3,e4] at h
      ·exact⟨h1,h2,rfl,rfl,rfl,rfl⟩
     ·simp [e1,e2,e3] at h
  ·simp [h1,h2] at h
 ·simp [h1] at h
def CM {C:Cl} (h:C.flt=0):C.b.lits.length≤10000:=by
 have:=(lN (sL h).2.1).1;have:=uI C.b;omega
def PR {T:Tm} (h:T.kd=2):∃A,T.args= [A]:=by
 obtain⟨k,v,nm,g,num,den,args⟩:=T;simp only [Tm.kd] at h;split at h
 ·cases h
 ·split at h
  ·rename_i h1;simp only [aN,IL] at h1;have:args.length=1:=by have:=h1.2;omega
   exact Ku.1 this
  ·split at h
   ·cases h
   ·split at h
    ·unfold bkN at h
     repeat' split at h
     all_goals cases h
    ·cases h
section
attribute [local go_sem] Heavy.uponW
def ClsV.read {L:List Cl} {C:Cl} (h:ClsV n w L a) (hk:L[i]?=some C):∃g off vh vb,a=some ⟨g,off,none⟩∧g<n∧CellsAt w g (off+i*15) (jR vh vb C.vars)∧TmV n w C.h vh∧TmV n w C.b vb:=by
 obtain⟨g,off,vs,e,hg,hc,vh,vb,rfl,h1,h2⟩:=h i C hk;exact⟨g,off,vh,vb,e,hg,hc,h1,h2⟩
def BW {u0 u1 u2 u3 u4 u5 u6 u7 u8 u9 a0 a1 a2 a3 a4:Value} (h:CellsAt w g o [u0,u1,u2,u3,u4,u5,u6,u7,u8,u9,a0,a1,a2,a3,a4]):w.cell? ⟨g,o,none⟩=some u0∧w.cell? ⟨g,o+1,none⟩=some u1∧w.cell? ⟨g,o+2,none⟩=some u2∧w.cell? ⟨g,o+3,none⟩=some u3∧w.cell? ⟨g,o+4,none⟩=some u4∧w.cell? ⟨g,o+5,none⟩=some u5∧w.cell? ⟨g,o+6,none⟩=some u6∧w.cell? ⟨g,o+7,none⟩=some u7∧w.cell? ⟨g,o+8,none⟩=some u8∧w.cell? ⟨g,o+9,none⟩=some u9∧w.cell? ⟨g,o+10,none⟩=some a0∧w.cell? ⟨g,o+11,none⟩=some a1∧w.cell? ⟨g,o+12,none⟩=some a2∧w.cell? ⟨g,o+13,none⟩=some a3∧w.cell? ⟨g,o+14,none⟩=some a4:=
 ⟨h 0 _ rfl,h 1 _ rfl,h 2 _ rfl,h 3 _ rfl,h 4 _ rfl,h 5 _ rfl,h 6 _ rfl,h 7 _ rfl,h 8 _ rfl,h 9 _ rfl,h 10 _ rfl,h 11 _ rfl,h 12 _ rfl,h 13 _ rfl,h 14 _ rfl⟩
end
end Go.Proofs.YtbdpdeonapmlgaaGreatDoor
namespace Go.Proofs.Plain
def nodup_sub_len {α:Type} [DecidableEq α]:∀{l m:List α},l.Nodup→(∀x∈l,x∈m)→l.length≤m.length
 | [],m,_,_=>by simp
 |x::l,m,hn,hs=>by
  obtain⟨hx,hn⟩:=VR.1 hn;have hm:=hs x (by simp);have h1:l.length≤(m.erase x).length:=nodup_sub_len hn fun y hy=>(List.mem_erase_of_ne (fun e=>hx (by rw [←e];exact hy))).2 (hs y (by simp [hy]))
  rw [List.length_erase_of_mem hm] at h1;have h2:=List.length_pos_of_mem hm;simp;omega
end Go.Proofs.Plain
