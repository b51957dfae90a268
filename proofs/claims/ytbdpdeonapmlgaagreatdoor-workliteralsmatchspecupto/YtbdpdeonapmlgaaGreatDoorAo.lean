/- Lemmas for the text Card; no condition. -/
import Derived.Test.YtbdpdeonapmlgaaGreatDoorAn
set_option linter.all false
set_option maxHeartbeats 8000000
set_option maxRecDepth 100000
namespace Go.Proofs.YtbdpdeonapmlgaaGreatDoor
open Go.RowKit Go.Big Go.RowsK Go.MapK
variable {w w':World} {v:Value} {S S':List Ind} {a:Option Addr} {base n k i g m j o:Nat}
theorem WM (C:Cl) (n:Nat) (w:World) (vs:List Value) (h:ClV n w C vs) (hn:n≤w.heap.size):
  Calls Tryz.prog 78 #[.agg vs.toArray] w fun e w'=>e= .returned (.int .i64 C.flt)∧Below w.heap.size w w':=by
 have hC:=h;obtain⟨vh,vb,rfl,h1,h2⟩:=h;obtain⟨FL,hFL⟩:∃f,C.flt=f:=⟨_,rfl⟩;rw [hFL];have a5:Aside (∀(T:Tm) (w2:World) (us:List Value),TmV n w2 T us→n≤w2.heap.size→_):=fun T w2 us a b=>NR T n w2 us a b
 have a9:Aside (∀(w2:World),Below w.heap.size w w2→C.h.faultE=0→C.b.faultE=0→_):=fun w2 hb ha c9=>VX C n w2 (pI vh vb C.vars) (hC.below hb hn) (aE hn hb.size) (by have:=(jG ha).1;have:=(jG c9).1;omega)
 have a8:Aside (∀(w2:World),Below w.heap.size w w2→C.b.faultE=0→_):=fun w2 hb ha=>xP C.b n w2 vb (jG ha).2 (jG ha).1 (TmV.below hb hn _ _ h2) (aE hn hb.size)
 obtain⟨fh,hfh⟩:∃f,C.h.faultE=f:=⟨_,rfl⟩;obtain⟨fb,hfb⟩:∃f,C.b.faultE=f:=⟨_,rfl⟩;obtain⟨nb,hnb⟩:∃f,C.numB=f:=⟨_,rfl⟩;obtain⟨cb,hcb⟩:∃f,C.h.callB=f:=⟨_,rfl⟩;obtain⟨bi,hbi⟩:∃f,C.h.bi=f:=⟨_,rfl⟩;obtain⟨lb,hlb⟩:∃f,C.b.litsB=f:=⟨_,rfl⟩;have a0:Aside (FL=if fh≠0 then fh else if fb≠0 then fb else if nb=false then 2 else if cb=false then 7 else if bi=true then 8 else if lb=false then 7 else 0):=by
  show FL=_;rw [←hFL,←hfh,←hfb,←hnb,←hcb,←hbi,←hlb];rfl
 have dh:=fun w2 (hb:Below w.heap.size w w2)=>a5.out C.h w2 vh (TmV.below hb hn _ _ h1) (aE hn hb.size)
 have db:=fun w2 (hb:Below w.heap.size w w2)=>a5.out C.b w2 vb (TmV.below hb hn _ _ h2) (aE hn hb.size)
 rw [hfh] at dh;rw [hfb] at db;have a3:fh=0→fb=0→∀w2,Below w.heap.size w w2→_:=fun a b w2 hb=>a9.out w2 hb (hfh.trans a) (hfb.trans b)
 have a4:fb=0→∀w2,Below w.heap.size w w2→_:=fun b w2 hb=>a8.out w2 hb (hfb.trans b)
 rw [hnb] at a3;have b3:=aside dh;have b6:=aside db;have a6:=aside a3;have b4:Aside (fb=0→∀w2,Below w.heap.size w w2→Calls Tryz.prog 20 #[.agg vb.toArray] w2 fun e w'=>∃v,e= .returned (.tuple #[v,.bool lb])∧Below w2.heap.size w2 w'):=fun b w2 hb=>(a4 b w2 hb).mono fun e w' hp=>by
  obtain⟨v,e1,_,e3⟩:=hp;exact⟨v,by rw [e1,hlb],e3⟩
 clear dh db a3 a4 a5 a9 a8 hC hFL hfh hfb hnb hlb;obtain⟨th,tb,vars⟩:=C;dsimp only at h1 h2 hcb hbi a6;obtain⟨k1,v1,nm1,g1,b9,b7,args1⟩:=th;obtain⟨k2,v2,nm2,g2,c0,b8,a7⟩:=tb;simp only [TmV] at h1 h2;obtain⟨_,_,a1,c1,rfl,⟨⟨p1,q1,rfl,_⟩,⟨p2,q2,rfl,_⟩⟩,_⟩:=h1;obtain⟨_,_,a2,c2,rfl,⟨⟨p3,q3,rfl,_⟩,⟨p4,q4,rfl,_⟩⟩,_⟩:=h2;obtain⟨l1,hl1⟩:∃l,args1.length=l:=⟨_,rfl⟩;generalize b9.length=n1 at*;generalize b7.length=n2 at*;generalize a7.length=l2 at*;generalize c0.length=n3 at*;generalize b8.length=n4 at*;rw [hl1] at b3 a6 ⊢;have c6:Aside (∀w2,Calls Tryz.prog 117 #[.agg #[.int .i64 k1,.int .i64 v1,.string nm1,.bool g1,.slice p1 n1 q1,.slice p2 n2 q2,.slice a1 l1 c1]] w2 fun e w'=>e= .returned (.bool cb)∧Below w2.heap.size w2 w'):=fun w2=>by rw [←hcb];exact CI k1 v1 nm1 g1 _ _ _ w2
 have c4:Aside (∀w2,Calls Tryz.prog 39 #[.agg #[.int .i64 k1,.int .i64 v1,.string nm1,.bool g1,.slice p1 n1 q1,.slice p2 n2 q2,.slice a1 l1 c1]] w2 fun e w'=>e= .returned (.agg #[.string nm1,.int .i64 l1])∧Below w2.heap.size w2 w'):=fun w2=>qI k1 v1 nm1 g1 _ _ _ _ _ w2
 have c5:Aside (∀w2,Calls Tryz.prog 29 #[.agg #[.string nm1,.int .i64 l1]] w2 fun e w'=>e= .returned (.bool bi)∧Below w2.heap.size w2 w'):=fun w2=>by
  have:biB nm1.toList l1=bi:=by rw [←hbi,←hl1];rfl
  rw [←this];exact CP nm1 l1 w2
 replace b3:Aside (∀w2,Below w.heap.size w w2→Calls Tryz.prog 99 #[.agg #[.int .i64 k1,.int .i64 v1,.string nm1,.bool g1,.slice p1 n1 q1,.slice p2 n2 q2,.slice a1 l1 c1]] w2 fun e w'=>e= .returned (.int .i64 fh)∧Below w2.heap.size w2 w'):=b3;replace b6:Aside (∀w2,Below w.heap.size w w2→Calls Tryz.prog 99 #[.agg #[.int .i64 k2,.int .i64 v2,.string nm2,.bool g2,.slice p3 n3 q3,.slice p4 n4 q4,.slice a2 l2 c2]] w2 fun e w'=>e= .returned (.int .i64 fb)∧Below w2.heap.size w2 w'):=b6;replace a6:Aside (fh=0→fb=0→∀w2,Below w.heap.size w w2→Calls Tryz.prog 142 #[.agg #[.int .i64 k1,.int .i64 v1,.string nm1,.bool g1,.slice p1 n1 q1,.slice p2 n2 q2,.slice a1 l1 c1,.int .i64 k2,.int .i64 v2,.string nm2,.bool g2,.slice p3 n3 q3,.slice p4 n4 q4,.slice a2 l2 c2,.int .i64 vars]] w2 fun e w'=>e= .returned (.bool nb)∧Below w2.heap.size w2 w'):=a6;replace b4:Aside (fb=0→∀w2,Below w.heap.size w w2→Calls Tryz.prog 20 #[.agg #[.int .i64 k2,.int .i64 v2,.string nm2,.bool g2,.slice p3 n3 q3,.slice p4 n4 q4,.slice a2 l2 c2]] w2 fun e w'=>∃v,e= .returned (.tuple #[v,.bool lb])∧Below w2.heap.size w2 w'):=b4;have b0:=aC w (Obj.cells #[.int .i64 k1,.int .i64 v1,.string nm1,.bool g1,.slice p1 n1 q1,.slice p2 n2 q2,.slice a1 l1 c1,.int .i64 k2,.int .i64 v2,.string nm2,.bool g2,.slice p3 n3 q3,.slice p4 n4 q4,.slice a2 l2 c2,.int .i64 vars] 50);have hq:=heap_alloc_new w (Obj.cells #[.int .i64 k1,.int .i64 v1,.string nm1,.bool g1,.slice p1 n1 q1,.slice p2 n2 q2,.slice a1 l1 c1,.int .i64 k2,.int .i64 v2,.string nm2,.bool g2,.slice p3 n3 q3,.slice p4 n4 q4,.slice a2 l2 c2,.int .i64 vars] 50);obtain⟨wb,hwb⟩:∃wb,w.alloc (Obj.cells #[.int .i64 k1,.int .i64 v1,.string nm1,.bool g1,.slice p1 n1 q1,.slice p2 n2 q2,.slice a1 l1 c1,.int .i64 k2,.int .i64 v2,.string nm2,.bool g2,.slice p3 n3 q3,.slice p4 n4 q4,.slice a2 l2 c2,.int .i64 vars] 50)=wb:=⟨_,rfl⟩;have d0:wb.heap.size=w.heap.size+1:=by rw [←hwb];simp
 rw [hwb] at b0 hq;have fa:Aside (∀w2,Below wb.heap.size wb w2→_):=fun(w2:World) (hb:Below wb.heap.size wb w2)=>jX ((hb.block w.heap.size (by omega)).trans hq)
 obtain⟨x0,x1,x2,x3,x4,x5,x6,x7,x8,x9,x10,x11,x12,x13,x14⟩:=fa.out wb (aI _ _);have e0:Below wb.heap.size wb wb:=aI _ _;have b5:Aside (∀w2,Below wb.heap.size wb w2→Below w.heap.size w w2):=fun w2 hb=>b0.trans (hb.mono b0.size)
 clear hq d0 hcb hbi hl1;show Calls Tryz.prog 78 #[.agg #[.int .i64 k1,.int .i64 v1,.string nm1,.bool g1,.slice p1 n1 q1,.slice p2 n2 q2,.slice a1 l1 c1,.int .i64 k2,.int .i64 v2,.string nm2,.bool g2,.slice p3 n3 q3,.slice p4 n4 q4,.slice a2 l2 c2,.int .i64 vars]] w _;go_enter Tryz.func78,Tryz.ntmps78
 go_upto_region 1 with fail
 clear hwb
 go_wp2_with (go_at_call 99;with_reducible refine(b3.out _ (b5.out _ e0)).mono ?_)
 rintro e w1 ⟨rfl,hb1⟩;have e1:Below wb.heap.size wb w1:=e0.trans (hb1.mono e0.size);clear x0 x1 x2 x3 x4 x5 x6 x7 x8 x9 x10 x11 x12 x13 x14;obtain⟨x0,x1,x2,x3,x4,x5,x6,x7,x8,x9,x10,x11,x12,x13,x14⟩:=fa.out w1 e1;clear hb1
 by_cases b1:fh=0
 case neg=>
  have f1:(fh==0)=false:=by simpa using b1
  have f2:(fh !=0)=true:=by simpa using b1
  obtain rfl:FL=fh:=by have:=a0.out;rw [if_pos b1] at this;exact this
  clear b1;clear a0;go_wp2
  go_ret
  exact⟨rfl,b0.trans (e1.mono b0.size)⟩
 subst b1;have c3:Aside (fb=0→∀w2,Below w.heap.size w w2→Calls Tryz.prog 142 #[.agg #[.int .i64 k1,.int .i64 v1,.string nm1,.bool g1,.slice p1 n1 q1,.slice p2 n2 q2,.slice a1 l1 c1,.int .i64 k2,.int .i64 v2,.string nm2,.bool g2,.slice p3 n3 q3,.slice p4 n4 q4,.slice a2 l2 c2,.int .i64 vars]] w2 fun e w'=>e= .returned (.bool nb)∧Below w2.heap.size w2 w'):=a6.out rfl;clear a6
 go_wp2_with (go_at_call 99;with_reducible refine(b6.out _ (b5.out _ e1)).mono ?_)
 rintro e w2 ⟨rfl,hb2⟩;have e2:Below wb.heap.size wb w2:=e1.trans (hb2.mono e1.size);clear x0 x1 x2 x3 x4 x5 x6 x7 x8 x9 x10 x11 x12 x13 x14;obtain⟨x0,x1,x2,x3,x4,x5,x6,x7,x8,x9,x10,x11,x12,x13,x14⟩:=fa.out w2 e2;clear hb2
 by_cases b2:fb=0
 case neg=>
  have f1:(fb==0)=false:=by simpa using b2
  have f2:(fb !=0)=true:=by simpa using b2
  obtain rfl:FL=fb:=by have:=a0.out;rw [if_neg (by simp),if_pos b2] at this;exact this
  clear b2;clear a0;go_wp2
  go_ret
  exact⟨rfl,b0.trans (e2.mono b0.size)⟩
 subst b2;have c8:Aside (∀w2,Below w.heap.size w w2→Calls Tryz.prog 142 #[.agg #[.int .i64 k1,.int .i64 v1,.string nm1,.bool g1,.slice p1 n1 q1,.slice p2 n2 q2,.slice a1 l1 c1,.int .i64 k2,.int .i64 v2,.string nm2,.bool g2,.slice p3 n3 q3,.slice p4 n4 q4,.slice a2 l2 c2,.int .i64 vars]] w2 fun e w'=>e= .returned (.bool nb)∧Below w2.heap.size w2 w'):=c3.out rfl;have c7:Aside (∀w2,Below w.heap.size w w2→Calls Tryz.prog 20 #[.agg #[.int .i64 k2,.int .i64 v2,.string nm2,.bool g2,.slice p3 n3 q3,.slice p4 n4 q4,.slice a2 l2 c2]] w2 fun e w'=>∃v,e= .returned (.tuple #[v,.bool lb])∧Below w2.heap.size w2 w'):=b4.out rfl;clear c3 b4
 go_wp2_with (go_at_call 142;with_reducible refine(c8.out _ (b5.out _ e2)).mono ?_)
 rintro e w3 ⟨rfl,hb3⟩;have e3:Below wb.heap.size wb w3:=e2.trans (hb3.mono e2.size);clear x0 x1 x2 x3 x4 x5 x6 x7 x8 x9 x10 x11 x12 x13 x14;obtain⟨x0,x1,x2,x3,x4,x5,x6,x7,x8,x9,x10,x11,x12,x13,x14⟩:=fa.out w3 e3;clear hb3;cases nb
 case false=>
  obtain rfl:FL=2:=a0.out;clear a0;go_wp2
  go_ret
  exact⟨rfl,b0.trans (e3.mono b0.size)⟩
 go_wp2_with (go_at_call 117;with_reducible refine(c6.out _).mono ?_)
 rintro e w4 ⟨rfl,hb4⟩;have e4:Below wb.heap.size wb w4:=e3.trans (hb4.mono e3.size);clear x0 x1 x2 x3 x4 x5 x6 x7 x8 x9 x10 x11 x12 x13 x14;obtain⟨x0,x1,x2,x3,x4,x5,x6,x7,x8,x9,x10,x11,x12,x13,x14⟩:=fa.out w4 e4;clear hb4;cases cb
 case false=>
  obtain rfl:FL=7:=a0.out;clear a0;go_wp2
  go_ret
  exact⟨rfl,b0.trans (e4.mono b0.size)⟩
 go_wp2_with (go_at_call 39;with_reducible refine(c4.out _).mono ?_)
 rintro e w5 ⟨rfl,hb5⟩;have e5:Below wb.heap.size wb w5:=e4.trans (hb5.mono e4.size);clear x0 x1 x2 x3 x4 x5 x6 x7 x8 x9 x10 x11 x12 x13 x14;obtain⟨x0,x1,x2,x3,x4,x5,x6,x7,x8,x9,x10,x11,x12,x13,x14⟩:=fa.out w5 e5;clear hb5
 go_wp2_with (go_at_call 29;with_reducible refine(c5.out _).mono ?_)
 rintro e w6 ⟨rfl,hb6⟩;have e6:Below wb.heap.size wb w6:=e5.trans (hb6.mono e5.size);clear x0 x1 x2 x3 x4 x5 x6 x7 x8 x9 x10 x11 x12 x13 x14;obtain⟨x0,x1,x2,x3,x4,x5,x6,x7,x8,x9,x10,x11,x12,x13,x14⟩:=fa.out w6 e6;clear hb6;cases bi
 case true=>
  obtain rfl:FL=8:=a0.out;clear a0;go_wp2
  go_ret
  exact⟨rfl,b0.trans (e6.mono b0.size)⟩
 go_wp2_with (go_at_call 20;with_reducible refine(c7.out _ (b5.out _ e6)).mono ?_)
 rintro e w7 ⟨vl,rfl,hb7⟩;have e7:Below wb.heap.size wb w7:=e6.trans (hb7.mono e6.size);clear x0 x1 x2 x3 x4 x5 x6 x7 x8 x9 x10 x11 x12 x13 x14;obtain⟨x0,x1,x2,x3,x4,x5,x6,x7,x8,x9,x10,x11,x12,x13,x14⟩:=fa.out w7 e7;clear hb7;cases lb
 case false=>
  obtain rfl:FL=7:=a0.out;clear a0;go_wp2
  go_ret
  exact⟨rfl,b0.trans (e7.mono b0.size)⟩
 obtain rfl:FL=0:=a0.out;clear a0;go_wp2
 go_ret
 exact⟨rfl,b0.trans (e7.mono b0.size)⟩
def CellsAt (w:World) (g off:Nat) (vs:List Value):Prop:=∀(j:Nat) u,vs[j]?=some u→w.cell? ⟨g,off+j,none⟩=some u
theorem CellsAt.below {off:Nat} {vs:List Value} (h:CellsAt w g off vs) (hb:Below n w w') (hg:g<n):CellsAt w' g off vs:=fun j u hj=>(hb.cell (p:=⟨g,off+j,none⟩) hg).trans (h j u hj)
def ClsV (n:Nat) (w:World) (L:List Cl) (a:Option Addr):Prop:=
 ∀(k:Nat) C,L[k]?=some C→∃g off vs,a=some ⟨g,off,none⟩∧g<n∧CellsAt w g (off+k*15) vs∧ClV n w C vs
theorem ClsV.below {L:List Cl} (h:ClsV n w L a) (hb:Below m w w') (hm:n≤m):ClsV n w' L a:=fun k C hk=>by
 obtain⟨g,off,vs,e,hg,hc,h1⟩:=h k C hk;exact⟨g,off,vs,e,hg,hc.below hb (by omega),h1.below hb hm⟩
def argI:List Tm→Option Ind
 | []=>none
 |A::_=>some A.ind
def Tm.args:Tm→List Tm
 | .mk _ _ _ _ _ _ args=>args
def Tm.atomI (T:Tm):Option Ind:=if T.kd=1 then some T.ind else if T.kd=2 then argI T.args else none
def Cl.atoms (C:Cl):List Ind:=C.b.lits.filterMap Tm.atomI
def jW (k:Ind) (C:Cl):List Ind:=if C.h.ind=k then C.atoms else []
def aR (P:List Cl) (k:Ind):List Ind:=P.flatMap (jW k)
theorem OK {P:List Cl} {k:Ind} {C:Cl} (h:P[i]?=some C):aR (P.take (i+1)) k=aR (P.take i) k++jW k C:=by
 unfold aR;rw [fT,h];simp
theorem sN {C:Cl} (h:C.flt=0):C.h.faultE=0∧C.b.faultE=0∧C.numB=true∧C.h.callB=true∧C.h.bi=false∧C.b.litsB=true:=by
 unfold Cl.flt at h
 by_cases h1:C.h.faultE=0
 ·by_cases h2:C.b.faultE=0
  ·simp only [h1,h2,ne_eq,not_true_eq_false,eY] at h;cases e1:C.numB
   ·simp [e1] at h
   ·cases e2:C.h.callB
    ·simp [e1,e2] at h
    ·cases e3:C.h.bi
     ·cases e4:C.b.litsB
      ·simp [e1,e2,e3,e4] at h
      ·exact⟨h1,h2,rfl,rfl,rfl,rfl⟩
     ·simp [e1,e2,e3] at h
  ·simp [h1,h2] at h
 ·simp [h1] at h
theorem qV {C:Cl} (h:C.flt=0):C.b.lits.length≤10000:=by
 have:=(jG (sN h).2.1).1;have:=sH C.b;omega
theorem MI {T:Tm} (h:T.kd=2):∃A,T.args= [A]:=by
 obtain⟨k,v,nm,g,num,den,args⟩:=T;simp only [Tm.kd] at h;split at h
 ·cases h
 ·split at h
  ·rename_i h1;simp only [aM,rB] at h1;have:args.length=1:=by have:=h1.2;omega
   exact List.length_eq_one_iff.1 this
  ·split at h
   ·cases h
   ·split at h
    ·unfold bkN at h
     repeat' split at h
     all_goals cases h
    ·cases h
theorem OutT.read {L:List Tm} (h:OutT n base w v L):∃a c,v= .slice a L.length c∧∀(k:Nat) T,L[k]?=some T→∃g vs,a=some ⟨g,0,none⟩∧g<w.heap.size∧TmV n w T vs∧∀(j:Nat) u,vs[j]?=some u→w.cell? ⟨g,k*7+j,none⟩=some u:=by
 obtain⟨X,h1,h2⟩:=h;obtain⟨a,c,rfl,hr⟩:=mD h1;refine⟨a,c,rfl,fun k T hk=>?_⟩;rcases hr with h0|⟨g,e,_,hg,hc⟩
 ·have:=(List.getElem?_eq_some_iff.1 hk).1;omega
 ·obtain⟨vs,h3,h4⟩:=h2.get hk;exact⟨g,vs,e,hg,h3,fun j u hj=>hc _ _ (h4 j u hj)⟩
section
attribute [local go_sem] Heavy.uponW
theorem ClsV.read {L:List Cl} {C:Cl} (h:ClsV n w L a) (hk:L[i]?=some C):∃g off vh vb,a=some ⟨g,off,none⟩∧g<n∧CellsAt w g (off+i*15) (pI vh vb C.vars)∧TmV n w C.h vh∧TmV n w C.b vb:=by
 obtain⟨g,off,vs,e,hg,hc,vh,vb,rfl,h1,h2⟩:=h i C hk;exact⟨g,off,vh,vb,e,hg,hc,h1,h2⟩
theorem vN {u0 u1 u2 u3 u4 u5 u6 u7 u8 u9 g0 g5 g6 g7 g8:Value} (h:CellsAt w g o [u0,u1,u2,u3,u4,u5,u6,u7,u8,u9,g0,g5,g6,g7,g8]):w.cell? ⟨g,o,none⟩=some u0∧w.cell? ⟨g,o+1,none⟩=some u1∧w.cell? ⟨g,o+2,none⟩=some u2∧w.cell? ⟨g,o+3,none⟩=some u3∧w.cell? ⟨g,o+4,none⟩=some u4∧w.cell? ⟨g,o+5,none⟩=some u5∧w.cell? ⟨g,o+6,none⟩=some u6∧w.cell? ⟨g,o+7,none⟩=some u7∧w.cell? ⟨g,o+8,none⟩=some u8∧w.cell? ⟨g,o+9,none⟩=some u9∧w.cell? ⟨g,o+10,none⟩=some g0∧w.cell? ⟨g,o+11,none⟩=some g5∧w.cell? ⟨g,o+12,none⟩=some g6∧w.cell? ⟨g,o+13,none⟩=some g7∧w.cell? ⟨g,o+14,none⟩=some g8:=
 ⟨h 0 _ rfl,h 1 _ rfl,h 2 _ rfl,h 3 _ rfl,h 4 _ rfl,h 5 _ rfl,h 6 _ rfl,h 7 _ rfl,h 8 _ rfl,h 9 _ rfl,h 10 _ rfl,h 11 _ rfl,h 12 _ rfl,h 13 _ rfl,h 14 _ rfl⟩
def DirP (w:World) (P:List Cl) (k:Ind) (e:Ending) (w':World):Prop:=
 ∃v L,e= .returned v∧aD w.heap.size w' v L∧L.Nodup∧(∀y,y∈L↔y∈aR P k)∧L.length≤3000000∧Below w.heap.size w w'
def bM (base:Nat) (w:World) (v:Value) (S:List Ind) (m:Nat):Prop:=∃L,aD base w v L∧L.Nodup∧(∀y,y∈L↔y∈S)∧L.length≤m
theorem bM.below (h:bM base w v S k) (hb:Below m w w') (hm:w.heap.size≤m):bM base w' v S k:=by
 obtain⟨L,h1,h2⟩:=h;exact⟨L,h1.below hb hm,h2⟩
theorem bM.mono {k':Nat} (h:bM base w v S k) (hS:S=S') (hk:k≤k'):bM base w v S' k':=by
 obtain⟨L,h1,h2,h3,h4⟩:=h;exact⟨L,h1,h2,hS▸h3,by omega⟩
theorem bM.sorted (h:bM base w v S k) (i0:base≤w.heap.size) (hk:k≤1000000000) (x:ByteArray) (m:Int):
  Calls Tryz.prog 147 #[v,.agg #[.string x,.int .i64 m]] w fun e w'=>∃v',e= .returned v'∧bM base w' v' (S++ [(x,m)]) (k+1)∧Below w.heap.size w w':=by
 obtain⟨L,h1,h2,h3,h4⟩:=h;refine(UK L x m base w v h1 i0 (by omega)).mono ?_;rintro e w' ⟨v',L',e1,q1,q2,q3,q4,q5⟩;exact⟨v',e1,⟨L',q1,q2 h2,fun y=>by rw [q3,h3];simp,by omega⟩,q5⟩
theorem Ex {L:List Tm} {T:Tm} (h:L[j]?=some T):(L.take (j+1)).filterMap Tm.atomI=(L.take j).filterMap Tm.atomI++T.atomI.toList:=by
 rw [fT,h,Gx];cases hT:T.atomI<;>simp [hT]
theorem Ey {T:Tm} (h:T.kd=1):T.atomI=some T.ind:=by unfold Tm.atomI;rw [if_pos h]
theorem Ew {T A:Tm} (h:T.kd=2) (hA:T.args= [A]):T.atomI=some A.ind:=by unfold Tm.atomI;rw [if_neg (by omega),if_pos h,hA];rfl
theorem Ez {T:Tm} (h1:T.kd≠1) (h2:T.kd≠2):T.atomI=none:=by unfold Tm.atomI;rw [if_neg h1,if_neg h2]
theorem OJ (P:List Cl) (x:ByteArray) (m:Int) (n:Nat) (w:World) (a:Option Addr) (len c:Nat) (hl:P.length=len) (h9:len≤300) (h:ClsV n w P a) (hF:∀C∈P,C.flt=0) (hn:n≤w.heap.size):
  Calls Tryz.prog 200 #[.slice a len c,.agg #[.string x,.int .i64 m]] w (DirP w P (x,m)):=by
 have Al:=aside2 hl hF;have b0:=aC w (Obj.cells #[.string x,.int .i64 m] 63);have hq:=heap_alloc_new w (Obj.cells #[.string x,.int .i64 m] 63);obtain⟨wb,hwb⟩:∃wb,w.alloc (Obj.cells #[.string x,.int .i64 m] 63)=wb:=⟨_,rfl⟩;have i3:wb.heap.size=w.heap.size+1:=by rw [←hwb];simp
 rw [hwb] at b0 hq;have fa:Aside (∀w2,Below wb.heap.size wb w2→_):=fun(w2:World) (hb:Below wb.heap.size wb w2)=>eL ((hb.block w.heap.size (by omega)).trans hq)
 have g9:Aside (∀w2,Below wb.heap.size wb w2→Below w.heap.size w w2):=fun w2 hb=>b0.trans (hb.mono b0.size)
 have hA:Aside (ClsV n wb P a):=h.below b0 hn;have d8:Aside (n≤wb.heap.size):=by show _≤_;omega
 have c9:Aside (∀w2 v2,Below wb.heap.size wb w2→bM wb.heap.size w2 v2 (aR P (x,m)) (len*10000)→DirP w P (x,m) (.returned v2) w2):=by
  show∀w2 v2,_;rintro w2 v2 hb ⟨L,h1,h2,h3,h4⟩;exact⟨v2,L,rfl,iZ h1 b0.size,h2,h3,by omega,g9.out w2 hb⟩
 clear hq i3 hl hF h b0;go_enter Tryz.func200,Tryz.ntmps200
 go_upto_region 1 with fail
 clear hwb;go_wp2
 go_loopw [5,6] (fun s5 s6 wr=>∃(i:Nat) (v2:Value),v2=s5∧s6= .int .i64 i∧i≤len∧bM wb.heap.size wr v2 (aR (P.take i) (x,m)) (i*10000)∧Below wb.heap.size wb wr) (fun _ s _=>len-(intOf s).toNat)
 case atStart=>exact⟨0,_,rfl,rfl,aT _,⟨[],aD.nil _ _,by simp,by simp [aR],by simp⟩,aI _ _⟩
 case round=>
  obtain⟨wo,rfl⟩:∃wo,wo=wr:=⟨_,rfl⟩;obtain⟨i,v2,rfl,rfl,hi,hD,hB⟩:=hrel
  by_cases i2:i<len
  case neg=>
   obtain rfl:i=len:=by omega
   have hR:=c9.out wo v2 hB (by rw [←Al.out.1,gA] at hD;rw [←Al.out.1];exact hD);have h7:Aside _:=hR;clear hD hR c9;go_wp2
   go_ret
   exact h7.out
  obtain⟨C,hC⟩:∃C,P[i]?=some C:=⟨P[i]'(by rw [Al.out.1];exact i2),aL _⟩;have e4:=Al.out.2 C (aX hC);have d9:=jG (sN e4).2.1;have d7:=qV e4;obtain⟨g,off,vh,vb,rfl,hg,hc,hvh,hvb⟩:=hA.out.read hC;have a8:=OK (k:=(x,m)) hC;have a5:Aside (∀w2,Below wb.heap.size wb w2→Calls Tryz.prog 20 #[.agg vb.toArray] w2 (dN n w2 C.b)):=fun w2 hb=>xP C.b n w2 vb d9.2 d9.1 (TmV.below hb d8.out _ _ hvb) (aE d8.out hb.size)
  obtain⟨th,tb,vars⟩:=C;have f6:Aside (∀T∈tb.lits,T.errE=0):=fun T hT=>(DT tb T hT).1 d9.2
  unfold jW Cl.atoms at a8;dsimp only at hc hvh hvb a8 d7 a5;obtain⟨k1,v1,nm1,g1,d2,c6,a9⟩:=th;obtain⟨LT,hLT⟩:∃LT,tb.lits=LT:=⟨_,rfl⟩;obtain⟨LB,hLB⟩:∃b,tb.litsB=b:=⟨_,rfl⟩;unfold dN at a5;rw [hLT] at d7 f6 a8;rw [hLT,hLB] at a5;obtain⟨k2,v2',nm2,g2,f1,e0,c5⟩:=tb;simp only [TmV] at hvh hvb;obtain⟨_,_,a1,c1,rfl,⟨⟨p1,q1,rfl,_⟩,⟨p2,q2,rfl,_⟩⟩,_⟩:=hvh;obtain⟨_,_,a2,c2,rfl,⟨⟨p3,q3,rfl,_⟩,⟨p4,q4,rfl,_⟩⟩,_⟩:=hvb;have f2:(Tm.ind (.mk k1 v1 nm1 g1 d2 c6 a9))=(nm1,(a9.length:Int)):=rfl;rw [f2] at a8;clear f2 hLT hLB d9 e4;generalize a9.length=l1 at*;generalize d2.length=n1 at*;generalize c6.length=n2 at*;generalize c5.length=l2 at*;generalize f1.length=n3 at*;generalize e0.length=n4 at*;have e7:Aside (∀w2,Below wb.heap.size wb w2→_):=fun(w2:World) (hb:Below wb.heap.size wb w2)=>vN (hc.below hb (aZ hg d8.out))
  obtain⟨D,hDD⟩:∃D,decide ((nm1,(l1:Int))=(x,m))=D:=⟨_,rfl⟩;have a6:Aside (aR (P.take (i+1)) (x,m)=aR (P.take i) (x,m)++if D=true then LT.filterMap Tm.atomI else []):=by
   show _=_;rw [a8,←hDD];simp
  have f7:=ieqA nm1 x l1 m;have i4:=ieqG;rw [hDD] at f7;have i7:(i:Int)<(len:Int):=by omega
  have i8:(0:Int)≤(i:Int):=by omega
  have j1:IntKind.i64.wrap ((i:Int)+1)=(i:Int)+1:=by rw [aG];omega
  have dk:Aside (∀w2,Calls Tryz.prog 39 #[.agg #[.int .i64 k1,.int .i64 v1,.string nm1,.bool g1,.slice p1 n1 q1,.slice p2 n2 q2,.slice a1 l1 c1]] w2 fun e w'=>e= .returned (.agg #[.string nm1,.int .i64 l1])∧Below w2.heap.size w2 w'):=fun w2=>qI k1 v1 nm1 g1 _ _ _ _ _ w2
  have h6:=aside hD;replace a5:Aside (∀w2,Below wb.heap.size wb w2→Calls Tryz.prog 20 #[.agg #[.int .i64 k2,.int .i64 v2',.string nm2,.bool g2,.slice p3 n3 q3,.slice p4 n4 q4,.slice a2 l2 c2]] w2 fun e w'=>∃v,e= .returned (.tuple #[v,.bool LB])∧OutT n w2.heap.size w' v LT∧Below w2.heap.size w2 w'):=a5;have e6:Aside (LT.length≤10000):=by
   show _≤_;exact d7
  clear hc hC a8 hDD hD hA d7
  go_upto_region 5 with fail
  have fd:Below wb.heap.size wb wo.drew:=hB.trans (dI _ _);have sD:bM wb.heap.size wo.drew v2 (aR (P.take i) (x,m)) (i*10000):=h6.out.below (dI wo.heap.size wo) (aA _);refine Heavy.region_plan (fun w'=>Below wb.heap.size wb w'∧bM wb.heap.size w' v2 (aR (P.take i) (x,m)) (i*10000)) 7 (Heavy.lights [0,1,2,3,4,6] (.one 5 .done)) (by kernel_rfl) (by kernel_rfl) ⟨fd,sD⟩ ?_;simp only [Heavy.lights,bB,bJ,bF,bE]
  iterate 4 ((apply Heavy.light_n;(exact rfl);(exact rfl);(intro d4 hw;go_simp;exact rfl));(refine Heavy.norm_a (by go_simp;exact rfl) ?_))
  (apply Heavy.light_n;(exact rfl);(exact rfl);(intro d4 hw;have hw:=hw.1;have zz:=e7.out d4 hw;obtain⟨x0,x1,x2,x3,x4,x5,x6,x7,x8,x9,x10,x11,x12,x13,x14⟩:=zz;go_simp;exact rfl));(refine Heavy.norm_a (by go_simp;exact rfl) ?_)
  (apply Heavy.light_n;(exact rfl);(exact rfl);(intro d4 hw;have hw:=hw.1;have z0:=(fa.out d4 hw).1;have z1:=(fa.out d4 hw).2;go_simp;exact rfl));(refine Heavy.norm_a (by go_simp;exact rfl) ?_)
  (apply Heavy.one_n;(exact rfl);(exact rfl));go_simp
  refine(dk.out _).mono ?_;rintro e wk ⟨rfl,hbk⟩;have ek:Below wb.heap.size wb wk:=fd.trans (hbk.mono fd.size);refine⟨_,rfl,⟨ek,sD.below hbk (aA _)⟩,?_⟩;have sk:=sD.below hbk (aA _)
  (refine Heavy.norm_a (by go_simp;exact rfl) ?_)
  apply Heavy.plan_end;show wpList _ _ _ _ _ _;clear hbk sD;have f9:=aside sk;clear sk;cases D
  case false=>
   have e8:Aside (aR (P.take (i+1)) (x,m)=aR (P.take i) (x,m)):=by
    show _=_;rw [a6.out];simp
   clear a6;go_wp2;go_roundw
   case rel=>exact⟨i+1,v2,rfl,by simp,by omega,by rw [e8.out];exact f9.out.mono rfl (by omega),ek⟩
   case measure=>simp [intOf];omega
  have e8:Aside (aR (P.take (i+1)) (x,m)=aR (P.take i) (x,m)++LT.filterMap Tm.atomI):=by
   show _=_;rw [a6.out];simp
  clear a6;obtain⟨x0,x1,x2,x3,x4,x5,x6,x7,x8,x9,x10,x11,x12,x13,x14⟩:=e7.out wk ek
  go_wp2_with (go_at_call 20;with_reducible refine(a5.out _ ek).mono ?_)
  rintro e w1 ⟨v7,rfl,hO7,hb1⟩;have e1:Below wb.heap.size wb w1:=ek.trans (hb1.mono ek.size);have s1:=f9.out.below hb1 (aA _);have f0:Aside (n≤w1.heap.size):=aE d8.out e1.size;obtain⟨al,cl,rfl,hrd⟩:=hO7.read;obtain⟨ml,hml⟩:∃ml,LT.length=ml:=⟨_,rfl⟩;rw [hml];have d0:=aside hml;have d1:=aside hrd;have i6:=aside s1;have j3:ml≤10000:=by have:=e6.out;omega
  clear x0 x1 x2 x3 x4 x5 x6 x7 x8 x9 x10 x11 x12 x13 x14 hml hrd hO7 hb1 s1 a5 e7 dk f7 i4;go_wp2
  go_loopw [5,9] (fun s5 s9 wr=>∃(j:Nat) (u2:Value),u2=s5∧s9= .int .i64 j∧j≤ml∧bM wb.heap.size wr u2 (aR (P.take i) (x,m)++(LT.take j).filterMap Tm.atomI) (i*10000+j)∧Below w1.heap.size w1 wr) (fun _ s _=>ml-(intOf s).toNat)
  case atStart=>exact⟨0,_,rfl,rfl,aT _,by simpa using i6.out,aI _ _⟩
  case round=>
   obtain⟨wi,rfl⟩:∃wi,wi=wr:=⟨_,rfl⟩;obtain⟨j,u2,rfl,rfl,hj,hE,hBi⟩:=hrel
   by_cases i1:j<ml
   case neg=>
    obtain rfl:j=ml:=by omega
    have d5:Aside (bM wb.heap.size wi u2 (aR (P.take (i+1)) (x,m)) ((i+1)*10000)):=by
     rw [e8.out];refine hE.mono ?_ (by omega);rw [←d0.out,gA]
    clear hE;go_wp2;go_roundw
    case rel=>exact⟨i+1,u2,rfl,by simp,by omega,d5.out,e1.trans (hBi.mono e1.size)⟩
    case measure=>simp [intOf];omega
   obtain⟨T,hT⟩:∃T,LT[j]?=some T:=⟨LT[j]'(by rw [d0.out];exact i1),aL _⟩;have f5:=f6.out T (aX hT);obtain⟨g',us,rfl,hg',hvT,hcT⟩:=d1.out j T hT;have e9:=Ex hT;have c8:Aside (∀w2,Below w1.heap.size w1 w2→Calls Tryz.prog 52 #[.agg us.toArray] w2 fun e w'=>e= .returned (.int .i64 T.kd)∧Below w2.heap.size w2 w'):=fun w2 hb=>JJ T n w2 us f5 (TmV.below hb f0.out _ _ hvT) (aE f0.out hb.size)
   have d5:=aside hE;have c0:Aside (T.kd=2→∃A,T.args= [A]):=MI;obtain⟨KD,hKD⟩:∃k,T.kd=k:=⟨_,rfl⟩;have b6:Aside ((KD=1→T.atomI=some T.ind)∧(KD=2→∀A,T.args= [A]→T.atomI=some A.ind)∧(KD≠1→KD≠2→T.atomI=none)):=⟨fun h=>Ey (hKD.trans h),fun h A h2=>Ew (hKD.trans h) h2,fun h1 h2=>Ez (by rw [hKD];exact h1) (by rw [hKD];exact h2)⟩;rw [hKD] at c8 c0;obtain⟨k3,v3,b3,g3,b8,b5,args3⟩:=T;simp only [TmV] at hvT;obtain⟨_,_,a3,c3,rfl,⟨⟨p5,q5,rfl,_⟩,⟨p6,q6,rfl,_⟩⟩,hS3,_⟩:=hvT;have f3:Tm.ind (.mk k3 v3 b3 g3 b8 b5 args3)=(b3,(args3.length:Int)):=rfl;have e3:Tm.args (.mk k3 v3 b3 g3 b8 b5 args3)=args3:=rfl;rw [f3,e3] at b6;rw [e3] at c0;have d6:=aside hS3;obtain⟨l3,hl3⟩:∃l,args3.length=l:=⟨_,rfl⟩;have i5:=aside hl3;rw [hl3] at b6 hcT;generalize b8.length=n5 at*;generalize b5.length=n6 at*;have ya:Aside (∀w2,Below w1.heap.size w1 w2→_):=fun(w2:World) (hb:Below w1.heap.size w1 w2)=>jP (fun p hp=>hb.cell (hp▸hg')) (by simpa using hcT)
   have h0:Aside (∀w2,Calls Tryz.prog 39 #[.agg #[.int .i64 k3,.int .i64 v3,.string b3,.bool g3,.slice p5 n5 q5,.slice p6 n6 q6,.slice a3 l3 c3]] w2 fun e w'=>e= .returned (.agg #[.string b3,.int .i64 l3])∧Below w2.heap.size w2 w'):=fun w2=>qI k3 v3 b3 g3 _ _ _ _ _ w2
   replace c8:Aside (∀w2,Below w1.heap.size w1 w2→Calls Tryz.prog 52 #[.agg #[.int .i64 k3,.int .i64 v3,.string b3,.bool g3,.slice p5 n5 q5,.slice p6 n6 q6,.slice a3 l3 c3]] w2 fun e w'=>e= .returned (.int .i64 KD)∧Below w2.heap.size w2 w'):=by
    have dd:=c8.out;rw [←hl3];exact dd
   obtain⟨TI,hTI⟩:∃t,Tm.atomI (.mk k3 v3 b3 g3 b8 b5 args3)=t:=⟨_,rfl⟩;rw [hTI] at b6 e9;have b7:=aside e9;have i9:(j:Int)<(ml:Int):=by omega
   have j0:(0:Int)≤(j:Int):=by omega
   have j2:IntKind.i64.wrap ((j:Int)+1)=(j:Int)+1:=by rw [aG];omega
   clear hE hT f5 hKD hcT hS3 f3 e3 hl3 hTI e9 d1;have fi:Below w1.heap.size w1 wi:=hBi;obtain⟨y0,y1,y2,y3,y4,y5,y6⟩:=ya.out wi fi;have b9:Below w1.heap.size w1 wi:=fi;have E_wi:Aside (bM wb.heap.size wi u2 (aR (P.take i) (x,m)++(LT.take j).filterMap Tm.atomI) (i*10000+j)):=d5.out;clear fi d5
   go_wp2_with (go_at_call 52;with_reducible refine(c8.out _ b9).mono ?_)
   rintro e w2 ⟨rfl,hb⟩;have a7:Below w1.heap.size w1 w2:=b9.trans (hb.mono b9.size);have E_w2:Aside (bM wb.heap.size w2 u2 (aR (P.take i) (x,m)++(LT.take j).filterMap Tm.atomI) (i*10000+j)):=bM.below E_wi.out hb (aA _);clear hb;clear y0 y1 y2 y3 y4 y5 y6;obtain⟨y0,y1,y2,y3,y4,y5,y6⟩:=ya.out w2 a7
   by_cases h1:KD=1
   case pos=>
    subst h1;obtain rfl:TI=some (b3,(l3:Int)):=b6.out.1 rfl;clear b6 c0 d6
    go_wp2_with (go_at_call 39;with_reducible refine(h0.out _).mono ?_)
    rintro e w3 ⟨rfl,hb⟩;have a0:Below w1.heap.size w1 w3:=a7.trans (hb.mono a7.size);have E_w3:Aside (bM wb.heap.size w3 u2 (aR (P.take i) (x,m)++(LT.take j).filterMap Tm.atomI) (i*10000+j)):=bM.below E_w2.out hb (aA _);clear hb
    go_wp2_with (go_at_call 147;with_reducible refine(bM.sorted E_w3.out (aE e1.size a0.size) (by omega) b3 l3).mono ?_)
    rintro e w4 ⟨u3,rfl,hE,hb⟩;have b2:Below w1.heap.size w1 w4:=a0.trans (hb.mono a0.size);have E_w4:=aside hE;clear hE hb;go_wp2;go_roundw
    case rel=>exact⟨j+1,u3,rfl,by simp,by omega,bM.mono E_w4.out (by rw [b7.out];simp) (by omega),b2⟩
    case measure=>simp [intOf];omega
   have n1:(KD==1)=false:=by simpa using h1
   go_wp2_with (go_at_call 52;with_reducible refine(c8.out _ a7).mono ?_)
   rintro e w3 ⟨rfl,hb⟩;have a0:Below w1.heap.size w1 w3:=a7.trans (hb.mono a7.size);have E_w3:Aside (bM wb.heap.size w3 u2 (aR (P.take i) (x,m)++(LT.take j).filterMap Tm.atomI) (i*10000+j)):=bM.below E_w2.out hb (aA _);clear hb
   by_cases h2:KD=2
   case neg=>
    have n2:(KD==2)=false:=by simpa using h2
    obtain rfl:TI=none:=b6.out.2.2 h1 h2;clear b6 c0 d6 h1 h2;go_wp2;go_roundw
    case rel=>exact⟨j+1,u2,rfl,by simp,by omega,bM.mono E_w3.out (by rw [b7.out];simp) (by omega),a0⟩
    case measure=>simp [intOf];omega
   subst h2;obtain⟨A,hA0⟩:=c0.out rfl;have h8:=b6.out.2.1 rfl A hA0;subst hA0;subst h8;have f8:=i5.out;simp at f8;subst f8;have hS:=d6.out;simp only [cR] at hS;obtain⟨⟨b4,o4,vs4,rfl,hb4,hc4,hv4⟩,_⟩:=hS;obtain⟨k4,v4,nm4,g4,d3,c7,b1⟩:=A;simp only [TmV] at hv4;obtain⟨_,_,a4,c4,rfl,⟨⟨p7,q7,rfl,_⟩,⟨p8,q8,rfl,_⟩⟩,_⟩:=hv4;have f4:Tm.ind (.mk k4 v4 nm4 g4 d3 c7 b1)=(nm4,(b1.length:Int)):=rfl;rw [f4] at b7;generalize b1.length=l4 at*;generalize d3.length=n7 at*;generalize c7.length=n8 at*;have za:Aside (∀w2,Below w1.heap.size w1 w2→_):=fun(w2:World) (hb:Below w1.heap.size w1 w2)=>jP (fun p hp=>hb.cell (hp▸aZ hb4 f0.out)) (by simpa using hc4)
   have h5:Aside (∀w2,Calls Tryz.prog 39 #[.agg #[.int .i64 k4,.int .i64 v4,.string nm4,.bool g4,.slice p7 n7 q7,.slice p8 n8 q8,.slice a4 l4 c4]] w2 fun e w'=>e= .returned (.agg #[.string nm4,.int .i64 l4])∧Below w2.heap.size w2 w'):=fun w2=>qI k4 v4 nm4 g4 _ _ _ _ _ w2
   clear hc4 d6 b6 c0 f4 h1;clear y0 y1 y2 y3 y4 y5 y6;obtain⟨y0,y1,y2,y3,y4,y5,y6⟩:=ya.out w3 a0;obtain⟨z0,z1,z2,z3,z4,z5,z6⟩:=za.out w3 a0
   go_wp2_with (go_at_call 39;with_reducible refine(h5.out _).mono ?_)
   rintro e w4 ⟨rfl,hb⟩;have b2:Below w1.heap.size w1 w4:=a0.trans (hb.mono a0.size);have E_w4:Aside (bM wb.heap.size w4 u2 (aR (P.take i) (x,m)++(LT.take j).filterMap Tm.atomI) (i*10000+j)):=bM.below E_w3.out hb (aA _);clear hb
   go_wp2_with (go_at_call 147;with_reducible refine(bM.sorted E_w4.out (aE e1.size b2.size) (by omega) nm4 l4).mono ?_)
   rintro e w5 ⟨u3,rfl,hE,hb⟩;have e2:Below w1.heap.size w1 w5:=b2.trans (hb.mono b2.size);have E_w5:=aside hE;clear hE hb;go_wp2;go_roundw
   case rel=>exact⟨j+1,u3,rfl,by simp,by omega,bM.mono E_w5.out (by rw [b7.out];simp) (by omega),e2⟩
   case measure=>simp [intOf];omega
end
end Go.Proofs.YtbdpdeonapmlgaaGreatDoor
namespace Go.Proofs.Plain
theorem nodup_sub_len {α:Type} [DecidableEq α]:∀{l m:List α},l.Nodup→(∀x∈l,x∈m)→l.length≤m.length
 | [],m,_,_=>by simp
 |x::l,m,hn,hs=>by
  obtain⟨hx,hn⟩:=List.nodup_cons.1 hn;have hm:=hs x (by simp);have h1:l.length≤(m.erase x).length:=nodup_sub_len hn fun y hy=>(List.mem_erase_of_ne (fun e=>hx (by rw [←e];exact hy))).2 (hs y (by simp [hy]))
  rw [List.length_erase_of_mem hm] at h1;have h2:=Gt hm;simp;omega
theorem OO {α:Type} {p q:α→Bool}:∀{l:List α},(∀x∈l,p x=true→q x=true)→(∃x∈l,q x=true∧p x=false)→l.countP p<l.countP q
 | [],_,h=>by obtain⟨x,hx,_⟩:=h;cases hx
 | y::l,hpq,h=>by
  have a4:l.countP p≤l.countP q:=List.countP_mono_left fun x hx=>hpq x (by simp [hx])
  by_cases hy:q y=true∧p y=false
  ·rw [HD,HD,hy.1,hy.2];simp;omega
  ·have h2:l.countP p<l.countP q:=OO (fun x hx=>hpq x (by simp [hx])) (by
    obtain⟨x,hx,h3⟩:=h;rcases cD.1 hx with rfl|hx
    ·exact absurd h3 hy
    ·exact⟨x,hx,h3⟩)
   rw [HD,HD];have:=hpq y (by simp);cases hp:p y
   ·simp;split<;>omega
   ·rw [this hp];simp;omega
theorem exists_ready {α:Type} [DecidableEq α] (all done:List α) (U:α→α→Prop) [∀x y,Decidable (U x y)] (ht:∀i k x,U i k→U k x→U i x) (a1:∃i∈all,i∉done):
  ∃i∈all,i∉done∧∀k∈all,U i k→U k i∨k∈done:=by
 have key:∀n i,i∈all→i∉done→all.countP (fun x=>decide (U i x∨x=i))≤n→∃i∈all,i∉done∧∀k∈all,U i k→U k i∨k∈done:=by
  intro n
  induction n with
  |zero=>
   intro i hi _ hc;have:0<all.countP (fun x=>decide (U i x∨x=i)):=List.countP_pos_iff.2 ⟨i,hi,by simp⟩;omega
  | succ n ih=>
   intro i hi hd hc
   by_cases hr:∀k∈all,U i k→U k i∨k∈done
   ·exact⟨i,hi,hd,hr⟩
   ·have⟨k,hk,hu,hn⟩:∃k,k∈all∧U i k∧¬(U k i∨k∈done):=by
     apply iA;intro a3;apply hr;intro k hk hu;apply iA;intro h;exact a3 ⟨k,hk,hu,h⟩
    have a0:¬U k i:=fun h=>hn (.inl h)
    have a2:k∉done:=fun h=>hn (.inr h)
    refine ih k hk a2 ?_;have:=OO (p:=fun x=>decide (U k x∨x=k)) (q:=fun x=>decide (U i x∨x=i)) (l:=all) (fun x hx h=>by
     simp only [eO] at h ⊢;rcases h with h|rfl
     ·exact .inl (ht _ _ _ hu h)
     ·exact .inl hu) ⟨i,hi,by simp,by
     simp only [wL];rintro(h|rfl)
     ·exact a0 h
     ·exact a0 hu⟩
    omega
 obtain⟨i,hi,hd⟩:=a1;exact key _ i hi hd (aA _)
theorem exists_left {α:Type} [DecidableEq α] {all done:List α} (hn:all.Nodup) (hl:done.length<all.length):∃i∈all,i∉done:=by
 apply iA;intro h;have:all.length≤done.length:=nodup_sub_len hn fun x hx=>by
  apply iA;intro h2;exact h ⟨x,hx,h2⟩
 omega
end Go.Proofs.Plain
namespace Go.Proofs.YtbdpdeonapmlgaaGreatDoor
open Go.RowKit Go.Big Go.RowsK Go.MapK
variable {L L8:List Ind} {P:List Cl} {v v' v5 v8:Value} {w w' w2 w5 w8:World} {base i b:Nat} {k y z:Ind}
def Dir (P:List Cl) (a b:Ind):Prop:=b∈aR P a
def cQ (P:List Cl) (a b:Ind):Prop:=Relation.TransGen (Dir P) a b
def qZ (P:List Cl):List Ind:=P.flatMap Cl.atoms
theorem QY (hF:∀C∈P,C.flt=0):(qZ P).length≤P.length*10000:=by
 induction P with
 |nil=>simp [qZ]
 |cons C r ih=>
  have h1:=qV (hF C (by simp));have h2:C.atoms.length≤C.b.lits.length:=HB _ _;have h3:=ih fun D hD=>hF D (by simp [hD])
  simp only [qZ,oH,aK,fU] at h3 ⊢;omega
theorem OL (h:y∈aR P k):y∈qZ P:=by
 unfold aR at h;obtain⟨C,hC,h⟩:=List.mem_flatMap.1 h;unfold jW at h;split at h
 ·exact List.mem_flatMap.2 ⟨C,hC,h⟩
 ·cases h
theorem IC (h:cQ P k y):y∈qZ P:=by
 induction h with
 |single h=>exact OL h
 |tail _ h _=>exact OL h
def lenOf:Value→Nat
 | .slice _ n _=>n
 |_=>0
def UsI (base:Nat) (w:World) (v:Value) (P:List Cl) (k:Ind) (L:List Ind):Prop:=aD base w v L∧L.Nodup∧(∀y∈L,cQ P k y)∧∀y∈aR P k,y∈L
theorem UsI.below {m:Nat} (h:UsI base w v P k L) (hb:Below m w w') (hm:w.heap.size≤m):UsI base w' v P k L:=⟨h.1.below hb hm,h.2⟩
theorem UsI.len (h:UsI base w v P k L) (hF:∀C∈P,C.flt=0) (hP:P.length≤300):L.length≤3000000:=by
 have h1:=Go.Proofs.Plain.nodup_sub_len h.2.1 fun y hy=>IC (h.2.2.1 y hy)
 have h2:=QY hF;omega
def jI (P:List Cl) (L M:List Ind):Prop:=∀y∈M,∀z∈aR P y,z∈L
theorem UsI.done (h:UsI base w v P k L) (hc:jI P L L):∀y,y∈L↔cQ P k y:=fun y=>⟨h.2.2.1 y,fun hu=>by
 induction hu with
 |single h1=>exact h.2.2.2 _ h1
 |tail _ h1 ih=>exact hc _ ih _ h1⟩
def UsesP (w:World) (P:List Cl) (k:Ind) (e:Ending) (w':World):Prop:=
 ∃v L,e= .returned v∧aD w.heap.size w' v L∧L.Nodup∧(∀y,y∈L↔cQ P k y)∧L.length≤3000000∧Below w.heap.size w w'
theorem aD.some2 (h:aD base w v L) (hL:L≠ []):∃g c,v= .slice (Option.some ⟨g,0,none⟩) L.length c∧base≤g∧g<w.heap.size∧IndsV w.heap.size w L (Option.some ⟨g,0,none⟩):=by
 obtain⟨g,c,e,h1,h2⟩:=h.some hL;obtain⟨a,c',e',h3⟩:=h.read;rw [e] at e';injection e' with e1 e2 e3
 exact⟨g,c,e,h1,h2,e1▸h3⟩
def SepJ (v v8:Value):Prop:=∀g,v8.ownBlock=some g→v.ownBlock≠some g
theorem SepJ.of (h:aD b w v L) (h8:aD w.heap.size w8 v8 L8):SepJ v v8:=fun g h1 h2=>by
 have:=(bT h8 g h1).1;have:=(bT h g h2).2;omega
theorem aD.push {x:ByteArray} {m:Int} (h:aD base w2 v L) (a0:base≤w2.heap.size)
  (h5:w5.ownsRow base 63 2 v5 (L.length+1) (L.flatMap aP++ [.string x,.int .i64 m]))
  (hg:(w2.alloc (.cells #[.string x,.int .i64 m] 63)).grownBy w5 v.ownBlock) (hv:v5.ownBlock=v.ownBlock∨v5.ownBlock=Option.some (w2.alloc (.cells #[.string x,.int .i64 m] 63)).heap.size):
  aD base w5 v5 (L++ [(x,m)])∧Below base w2 w5∧(∀b8 v8 L8,aD b8 w2 v8 L8→SepJ v v8→aD b8 w5 v8 L8∧SepJ v5 v8):=by
 have hb:=aC w2 (.cells #[.string x,.int .i64 m] 63);refine⟨?_,?_,fun b8 v8 L8 h8 hs=>⟨fK (h8.below hb (aA _)) fun g a1=>hg.block g ?_ (fun e=>hs g a1 e.symm),fun g a1 e=>?_⟩⟩
 ·unfold aD;rw [aK,BI];simpa [aP] using h5
 ·exact((hb.mono a0)).grown hg (aE a0 hb.size) fun k hk=>(bT h k hk).1
 ·have:=(bT h8 g a1).2;rw [cT];omega
 ·rcases hv with hv|hv
  ·exact hs g a1 (hv▸e)
  ·rw [hv] at e;have h1:=aJ e;have:=(bT h8 g a1).2;rw [cT] at h1;omega
theorem UsI.push (h:UsI base w v P k L) (h':aD base w' v' (L++ [z])) (hz:z∉L) (hy:y∈L) (hd:z∈aR P y):UsI base w' v' P k (L++ [z]):=by
 refine⟨h',?_,fun u hu=>?_,fun u hu=>mY _ (h.2.2.2 u hu)⟩
 ·rw [tR];exact⟨h.2.1,by simp,fun a ha b hb e=>by simp at hb;subst hb;subst e;exact hz ha⟩
 ·rcases bX.1 hu with hu|hu
  ·exact h.2.2.1 u hu
  ·simp at hu;subst hu;exact .tail (h.2.2.1 y hy) hd
theorem jI.push (h:jI P L (L.take i)) (hi:i≤L.length):jI P (L++ [z]) ((L++ [z]).take i):=by
 rw [GW hi];exact fun y hy u hu=>mY _ (h y hy u hu)
theorem jI.step (h:jI P L (L.take i)) (hy:L[i]?=some y) (hd:∀z∈aR P y,z∈L):jI P L (L.take (i+1)):=by
 rw [fT,hy];intro u hu;rcases bX.1 hu with hu|hu
 ·exact h u hu
 ·simp at hu;subst hu;exact hd
end Go.Proofs.YtbdpdeonapmlgaaGreatDoor
