/- Lemmas; no condition. -/
import Derived.Test.YtbdpdeonapmlgaaGreatDoorAj
set_option linter.all false
set_option maxHeartbeats 40000000
set_option maxRecDepth 100000
namespace Go.Proofs.YtbdpdeonapmlgaaGreatDoor
open Go.RowKit Go.Big Go.RowsK Go.MapK
def An (C:Cl) (n:Nat) (w:Wo) (vs:Lv) (h:ClV n w C vs) (hn:n≤w.heap.size) (hN:C.h.nodes+C.b.nodes≤20000):
  Cz 182 #[.agg vs.toArray] w fun e w'=>e= .returned (.bool C.numB)∧Bz w w':=by
 obtain⟨vh,vb,rfl,h1,h2⟩:=h;obtain⟨th,tb,vars⟩:=C;dsimp only at h1 h2 hN ⊢;have b9:=aside h1;have c0:=aside h2;obtain⟨R,hR⟩:=enm (Tm.frL [th,tb] []);have a9:Cl.num ⟨th,tb,vars⟩↔(∀(j:Nat) x,R[j]?=some x→x=j)∧(R.length:Int)=vars:=by rw [←hR];rfl
 have b3:Tm.free (.mk 5 0 ⟨#[120]⟩ false [] [] [th,tb])=R:=by rw [SD,hR]
 have c8:R.length≤20000:=by
  rw [←hR];have:=(pK [th,tb] []).1;simp [Tm.nodesL] at this;omega
 have b4:Tm.nodes (.mk 5 0 ⟨#[120]⟩ false [] [] [th,tb])≤1000000:=by rw [SC];omega
 obtain⟨NB,hNB⟩:∃b,Cl.numB ⟨th,tb,vars⟩=b:=⟨_,rfl⟩;have a7:Aside (NB=true↔(∀(j:Nat) x,R[j]?=some x→x=j)∧(R.length:Int)=vars):=by
  show _↔_;rw [←hNB,←a9];simp [Cl.numB]
 rw [hNB];have hV:Aside (∀w2 w3,Bz w w2→Bz w2 w3→w3.heap[w2.heap.size]?=some (.cells (vh++vb).toArray 48)→TmV (w2.heap.size+1) w3 (.mk 5 0 ⟨#[120]⟩ false [] [] [th,tb]) [.int .i64 5,.int .i64 0,.string ⟨#[120]⟩,.bool false,.slice none 0 0,.slice none 0 0,.slice (some ⟨w2.heap.size,0,none⟩) 2 2]):=
  fun w2 w3 b2 a0 hq=>SE (aE hn b2.size) (TmV.below b2 hn _ _ b9.o) (TmV.below b2 hn _ _ c0.o) a0 hq
 obtain⟨TT,hTT⟩:∃t,Tm.mk 5 0 ⟨#[120]⟩ false [] [] [th,tb]=t:=⟨_,rfl⟩;rw [hTT] at b3 b4 hV;have dF:Aside (∀(n':Nat) (w2:Wo) (us:Lv),TmV n' w2 TT us→n'≤w2.heap.size→Cz 132 #[.agg us.toArray] w2 (FreeP w2 R)):=fun n' w2 us hv d0=>by rw [←b3];exact FT TT n' w2 us hv d0 b4
 clear hTT b3 b4 hNB a9 hR b9 c0 hN;obtain⟨k1,v1,nm1,g1,num1,den1,a6⟩:=th;obtain⟨k2,v2,nm2,g2,num2,den2,args2⟩:=tb;simp only [TmV] at h1 h2;obtain⟨_,_,a1,c1,rfl,⟨⟨p1,q1,rfl,_⟩,⟨p2,q2,rfl,_⟩⟩,_⟩:=h1;obtain⟨_,_,a2,c2,rfl,⟨⟨p3,q3,rfl,_⟩,⟨p4,q4,rfl,_⟩⟩,_⟩:=h2;generalize a6.length=l1,num1.length=n1,den1.length=n2,args2.length=l2,num2.length=n3,den2.length=n4 at*;obtain⟨wb,hwb,b0,hq,hsz⟩:=ebx w (bC k1 v1 nm1 g1 p1 n1 q1 p2 n2 q2 a1 l1 c1 k2 v2 nm2 g2 p3 n3 q3 p4 n4 q4 a2 l2 c2 vars);obtain⟨x0,x1,x2,x3,x4,x5,x6,x7,x8,x9,x10,x11,x12,x13,b8⟩:=mV hq;have b1:=aC wb (Obj.cells #[.int .i64 k1,.int .i64 v1,.string nm1,.bool g1,.slice p1 n1 q1,.slice p2 n2 q2,.slice a1 l1 c1,.int .i64 k2,.int .i64 v2,.string nm2,.bool g2,.slice p3 n3 q3,.slice p4 n4 q4,.slice a2 l2 c2] 48);have c5:=aK wb (Obj.cells #[.int .i64 k1,.int .i64 v1,.string nm1,.bool g1,.slice p1 n1 q1,.slice p2 n2 q2,.slice a1 l1 c1,.int .i64 k2,.int .i64 v2,.string nm2,.bool g2,.slice p3 n3 q3,.slice p4 n4 q4,.slice a2 l2 c2] 48);have c6:Aside (∀w3,Bz (wb.alloc (Obj.cells #[.int .i64 k1,.int .i64 v1,.string nm1,.bool g1,.slice p1 n1 q1,.slice p2 n2 q2,.slice a1 l1 c1,.int .i64 k2,.int .i64 v2,.string nm2,.bool g2,.slice p3 n3 q3,.slice p4 n4 q4,.slice a2 l2 c2] 48)) w3→TmV (wb.heap.size+1) w3 TT [.int .i64 5,.int .i64 0,.string ⟨#[120]⟩,.bool false,.slice none 0 0,.slice none 0 0,.slice (some ⟨wb.heap.size,0,none⟩) 2 2]):=fun w3 a0=>
  hV.o wb w3 b0 (b1.trans (a0.mono b1.size)) ((a0.block _ (by rw [cW];omega)).trans c5)
 have c7:Aside (∀w3,Bz (wb.alloc (Obj.cells #[.int .i64 k1,.int .i64 v1,.string nm1,.bool g1,.slice p1 n1 q1,.slice p2 n2 q2,.slice a1 l1 c1,.int .i64 k2,.int .i64 v2,.string nm2,.bool g2,.slice p3 n3 q3,.slice p4 n4 q4,.slice a2 l2 c2] 48)) w3→w3.cell? ⟨w.heap.size,14,none⟩=some (.int .i64 vars)∧Bz w w3):=fun w3 a0=>
  ⟨((b1.trans (a0.mono b1.size)).cell (p:=⟨w.heap.size,14,none⟩) (by show w.heap.size<_;omega)).trans b8,b0.trans ((b1.trans (a0.mono b1.size)).mono b0.size)⟩
 have b6:Aside ((wb.alloc (Obj.cells #[.int .i64 k1,.int .i64 v1,.string nm1,.bool g1,.slice p1 n1 q1,.slice p2 n2 q2,.slice a1 l1 c1,.int .i64 k2,.int .i64 v2,.string nm2,.bool g2,.slice p3 n3 q3,.slice p4 n4 q4,.slice a2 l2 c2] 48)).heap.size=wb.heap.size+1):=by show _=_;rw [cW]
 clear hq hV c5 b0 b1 hsz;show Cz 182 #[.agg (tC k1 v1 nm1 g1 p1 n1 q1 p2 n2 q2 a1 l1 c1 k2 v2 nm2 g2 p3 n3 q3 p4 n4 q4 a2 l2 c2 vars)] w _;go_enter Tryz.func182,Tryz.ntmps182
 go_upto_region 1 with fail
 clear hwb
 go_wp2_with (go_at_call 137;with_reducible refine(XO ⟨#[120]⟩ _ 2 2 (by decide) _).mono ?_)
 rintro e w3 ⟨rfl,a0⟩;have d1:=dF.o _ w3 _ (c6.o w3 a0) (by have:=a0.size;have:=b6.o;omega);replace d1:Cz 132 #[.agg #[.int .i64 5,.int .i64 0,.string ⟨#[120]⟩,.bool false,.slice none 0 0,.slice none 0 0,.slice (some ⟨wb.heap.size,0,none⟩) 2 2]] w3 _:=d1;have a8:Aside (Below _ _ w3):=a0;clear a0 x0 x1 x2 x3 x4 x5 x6 x7 x8 x9 x10 x11 x12 x13 b8
 go_wp2_with (go_at_call 132;with_reducible refine d1.mono ?_)
 rintro e w4 ⟨v4,rfl,hO4,hb4⟩;have b7:=c7.o w4 (a8.o.trans (hb4.mono a8.o.size));obtain⟨pa,pc,rfl,hrd⟩:=gL hO4;obtain⟨len,hl⟩:=enm R.length;rw [hl] at hrd c8 ⊢;have Rl:=aside hl;have b5:Aside (∀(j:Nat) x,R[j]?=some x→∃g,pa=some ⟨g,0,none⟩∧w4.cell? ⟨g,j,none⟩=some (.int .i64 x)):=by
  show∀(j:Nat) x,_;intro j x hj;rcases hrd with h0|⟨g,e,_,_,hc⟩
  ·have:=(aO.1 hj).1;omega
  ·exact⟨g,e,hc j _ (by rw [iJ,hj];rfl)⟩
 have b8:=b7.1;have c3:Aside (Bz w w4):=b7.2;clear hO4 hrd hl hb4 d1 b7 dF c6 c7;go_wp2
 go_loop [15] (fun s=>∃i:Nat,s= .int .i64 i∧i≤len∧Aside (∀(j:Nat) x,j<i→R[j]?=some x→x=j)) (fun s=>len-(intOf s).toNat)
 case atStart=>exact⟨0,rfl,aJ _,fun j x hj=>by omega⟩
 case round=>
  obtain⟨i,rfl,hi,hall⟩:=hrel
  by_cases c9:i<len
  ·obtain⟨x,hx⟩:=egf Rl.o c9;obtain⟨g,rfl,hc⟩:=b5.o i x hx;obtain⟨d2,hi3,hw3⟩:=elt (i:=i) (n:=len) (by omega) (by omega)
   by_cases a4:x=i
   ·subst a4;have a3:Aside (∀(j:Nat) x,j<i+1→R[j]?=some x→x=j):=fun j x hj a5=>by
     rcases gR j i with h|h
     ·exact hall.o j x h a5
     ·obtain rfl:j=i:=by omega
      rw [hx] at a5;injection a5 with e;exact e.symm
    clear hall hx;go_wp2
    go_round
    case rel=>exact⟨i+1,by simp,by omega,a3⟩
    case measure=>simp [intOf];omega
   ·have e1:((i:Int)==x)=false:=by simpa using fun e=>a4 e.symm
    have e2:((i:Int) !=x)=true:=by simpa using fun e=>a4 e.symm
    have e3:(x==(i:Int))=false:=by simpa using a4
    have e4:(x !=(i:Int))=true:=by simpa using a4
    obtain rfl:NB=false:=by
     cases NB
     ·rfl
     ·exact absurd ((a7.o.1 rfl).1 i x hx) a4
    clear hall hx a4;go_wp2
    go_ret
    exact⟨rfl,c3.o⟩
  ·obtain rfl:i=len:=by omega
   have a3:Aside (∀(j:Nat) x,R[j]?=some x→x=j):=fun j x a5=>hall.o j x (by rw [←Rl.o];exact(aO.1 a5).1) a5
   clear hall;obtain⟨bb,hbb⟩:∃b,((i:Int)==vars)=b:=⟨_,rfl⟩;have c4:=aside hbb;obtain rfl:NB=bb:=by
    rw [iS,a7.o,←c4.o,Rl.o];simp only [rI];exact⟨fun h=>h.2,fun h=>⟨a3.o,h⟩⟩
   clear hbb;go_wp2
   go_ret
   exact⟨by first|rfl|(have:=c4.o;simp_all),c3.o⟩
def ZK (C:Cl) (n:Nat) (w:Wo) (vs:Lv) (h:ClV n w C vs) (hn:n≤w.heap.size) (hN:C.h.nodes+C.b.nodes≤20000):
  Cz 142 #[.agg vs.toArray] w fun e w'=>e= .returned (.bool C.numB)∧Bz w w':=by
 obtain⟨vh,vb,rfl,h1,h2⟩:=h;obtain⟨th,tb,vars⟩:=C;dsimp only at h1 h2 hN ⊢;have c0:=aside h1;have c3:=aside h2;obtain⟨R,hR⟩:=enm (Tm.frL [th,tb] []);have a9:Cl.num ⟨th,tb,vars⟩↔(∀(j:Nat) x,R[j]?=some x→x=j)∧(R.length:Int)=vars:=by rw [←hR];rfl
 have b4:Tm.free (.mk 5 0 ⟨#[99]⟩ false [] [] [th,tb])=R:=by rw [SD,hR]
 have c7:R.length≤20000:=by
  rw [←hR];have:=(pK [th,tb] []).1;simp [Tm.nodesL] at this;omega
 have b5:Tm.nodes (.mk 5 0 ⟨#[99]⟩ false [] [] [th,tb])≤1000000:=by rw [SC];omega
 obtain⟨NB,hNB⟩:∃b,Cl.numB ⟨th,tb,vars⟩=b:=⟨_,rfl⟩;have a3:Aside (NB=true↔(∀(j:Nat) x,R[j]?=some x→x=j)∧(R.length:Int)=vars):=by
  show _↔_;rw [←hNB,←a9];simp [Cl.numB]
 rw [hNB];have hV:Aside (∀w2 w3,Bz w w2→Bz w2 w3→w3.heap[w2.heap.size]?=some (.cells (vh++vb).toArray 48)→TmV (w2.heap.size+1) w3 (.mk 5 0 ⟨#[99]⟩ false [] [] [th,tb]) [.int .i64 5,.int .i64 0,.string ⟨#[99]⟩,.bool false,.slice none 0 0,.slice none 0 0,.slice (some ⟨w2.heap.size,0,none⟩) 2 2]):=
  fun w2 w3 b3 a4 hq=>SE (aE hn b3.size) (TmV.below b3 hn _ _ c0.o) (TmV.below b3 hn _ _ c3.o) a4 hq
 obtain⟨TT,hTT⟩:∃t,Tm.mk 5 0 ⟨#[99]⟩ false [] [] [th,tb]=t:=⟨_,rfl⟩;rw [hTT] at b4 b5 hV;have dF:Aside (∀(n':Nat) (w2:Wo) (us:Lv),TmV n' w2 TT us→n'≤w2.heap.size→Cz 102 #[.agg us.toArray] w2 (FreeP w2 R)):=fun n' w2 us hv c9=>by rw [←b4];exact FF TT n' w2 us hv c9 b5
 clear hTT b4 b5 hNB a9 hR c0 c3 hN;obtain⟨k1,v1,nm1,g1,num1,den1,a7⟩:=th;obtain⟨k2,v2,nm2,g2,num2,den2,args2⟩:=tb;simp only [TmV] at h1 h2;obtain⟨_,_,a1,c1,rfl,⟨⟨p1,q1,rfl,_⟩,⟨p2,q2,rfl,_⟩⟩,_⟩:=h1;obtain⟨_,_,a2,c2,rfl,⟨⟨p3,q3,rfl,_⟩,⟨p4,q4,rfl,_⟩⟩,_⟩:=h2;generalize a7.length=l1,num1.length=n1,den1.length=n2,args2.length=l2,num2.length=n3,den2.length=n4 at*;obtain⟨wb,hwb,b0,hq,hsz⟩:=ebx w (bC k1 v1 nm1 g1 p1 n1 q1 p2 n2 q2 a1 l1 c1 k2 v2 nm2 g2 p3 n3 q3 p4 n4 q4 a2 l2 c2 vars);obtain⟨x0,x1,x2,x3,x4,x5,x6,x7,x8,x9,x10,x11,x12,x13,b9⟩:=mV hq;have b1:=aC wb (Obj.cells #[.int .i64 k1,.int .i64 v1,.string nm1,.bool g1,.slice p1 n1 q1,.slice p2 n2 q2,.slice a1 l1 c1,.int .i64 k2,.int .i64 v2,.string nm2,.bool g2,.slice p3 n3 q3,.slice p4 n4 q4,.slice a2 l2 c2] 48);have c4:=aK wb (Obj.cells #[.int .i64 k1,.int .i64 v1,.string nm1,.bool g1,.slice p1 n1 q1,.slice p2 n2 q2,.slice a1 l1 c1,.int .i64 k2,.int .i64 v2,.string nm2,.bool g2,.slice p3 n3 q3,.slice p4 n4 q4,.slice a2 l2 c2] 48);have c5:Aside (∀w3,Bz (wb.alloc (Obj.cells #[.int .i64 k1,.int .i64 v1,.string nm1,.bool g1,.slice p1 n1 q1,.slice p2 n2 q2,.slice a1 l1 c1,.int .i64 k2,.int .i64 v2,.string nm2,.bool g2,.slice p3 n3 q3,.slice p4 n4 q4,.slice a2 l2 c2] 48)) w3→TmV (wb.heap.size+1) w3 TT [.int .i64 5,.int .i64 0,.string ⟨#[99]⟩,.bool false,.slice none 0 0,.slice none 0 0,.slice (some ⟨wb.heap.size,0,none⟩) 2 2]):=fun w3 a4=>
  hV.o wb w3 b0 (b1.trans (a4.mono b1.size)) ((a4.block _ (by rw [cW];omega)).trans c4)
 have c6:Aside (∀w3,Bz (wb.alloc (Obj.cells #[.int .i64 k1,.int .i64 v1,.string nm1,.bool g1,.slice p1 n1 q1,.slice p2 n2 q2,.slice a1 l1 c1,.int .i64 k2,.int .i64 v2,.string nm2,.bool g2,.slice p3 n3 q3,.slice p4 n4 q4,.slice a2 l2 c2] 48)) w3→w3.cell? ⟨w.heap.size,14,none⟩=some (.int .i64 vars)∧Bz w w3):=fun w3 a4=>
  ⟨((b1.trans (a4.mono b1.size)).cell (p:=⟨w.heap.size,14,none⟩) (by show w.heap.size<_;omega)).trans b9,b0.trans ((b1.trans (a4.mono b1.size)).mono b0.size)⟩
 have b7:Aside ((wb.alloc (Obj.cells #[.int .i64 k1,.int .i64 v1,.string nm1,.bool g1,.slice p1 n1 q1,.slice p2 n2 q2,.slice a1 l1 c1,.int .i64 k2,.int .i64 v2,.string nm2,.bool g2,.slice p3 n3 q3,.slice p4 n4 q4,.slice a2 l2 c2] 48)).heap.size=wb.heap.size+1):=by show _=_;rw [cW]
 clear hq hV c4 b0 b1 hsz;show Cz 142 #[.agg (tC k1 v1 nm1 g1 p1 n1 q1 p2 n2 q2 a1 l1 c1 k2 v2 nm2 g2 p3 n3 q3 p4 n4 q4 a2 l2 c2 vars)] w _;go_enter Tryz.func142,Tryz.ntmps142
 go_upto_region 1 with fail
 clear hwb;have d1:=dF.o _ _ _ (c5.o _ (aG _ _)) (by have:=b7.o;omega);replace d1:Cz 102 #[.agg #[.int .i64 5,.int .i64 0,.string ⟨#[99]⟩,.bool false,.slice none 0 0,.slice none 0 0,.slice (some ⟨wb.heap.size,0,none⟩) 2 2]] _ _:=d1
 go_wp2_with (go_at_call 102;with_reducible refine d1.mono ?_)
 rintro e w4 ⟨v4,rfl,hO4,hb4⟩;have b8:=c6.o w4 hb4;clear x0 x1 x2 x3 x4 x5 x6 x7 x8 x9 x10 x11 x12 x13 b9;obtain⟨pa,pc,rfl,hrd⟩:=gL hO4;obtain⟨len,hl⟩:=enm R.length;rw [hl] at hrd c7 ⊢;have Rl:=aside hl;have b6:Aside (∀(j:Nat) x,R[j]?=some x→∃g,pa=some ⟨g,0,none⟩∧w4.cell? ⟨g,j,none⟩=some (.int .i64 x)):=by
  show∀(j:Nat) x,_;intro j x hj;rcases hrd with h0|⟨g,e,_,_,hc⟩
  ·have:=(aO.1 hj).1;omega
  ·exact⟨g,e,hc j _ (by rw [iJ,hj];rfl)⟩
 have b9:=b8.1;have b2:Aside (Bz w w4):=b8.2;clear hO4 hrd hl hb4 d1 b8 dF c5 c6
 by_cases a8:(len:Int)=vars
 ·subst a8;go_wp2
  go_loop [4] (fun s=>∃i:Nat,s= .int .i64 i∧i≤len∧Aside (∀(j:Nat) x,j<i→R[j]?=some x→x=j)) (fun s=>len-(intOf s).toNat)
  case atStart=>exact⟨0,rfl,aJ _,fun j x hj=>by omega⟩
  case round=>
   obtain⟨i,rfl,hi,hall⟩:=hrel
   by_cases c8:i<len
   ·obtain⟨x,hx⟩:=egf Rl.o c8;obtain⟨g,rfl,hc⟩:=b6.o i x hx;obtain⟨d0,hi3,hw3⟩:=elt (i:=i) (n:=len) (by omega) (by omega)
    by_cases a5:x=i
    ·subst a5;have a0:Aside (∀(j:Nat) x,j<i+1→R[j]?=some x→x=j):=fun j x hj a6=>by
      rcases gR j i with h|h
      ·exact hall.o j x h a6
      ·obtain rfl:j=i:=by omega
       rw [hx] at a6;injection a6 with e;exact e.symm
     clear hall hx;go_wp2
     go_round
     case rel=>exact⟨i+1,by simp,by omega,a0⟩
     case measure=>simp [intOf];omega
    ·have e1:((i:Int)==x)=false:=by simpa using fun e=>a5 e.symm
     have e2:((i:Int) !=x)=true:=by simpa using fun e=>a5 e.symm
     have e3:(x==(i:Int))=false:=by simpa using a5
     have e4:(x !=(i:Int))=true:=by simpa using a5
     obtain rfl:NB=false:=by
      cases NB
      ·rfl
      ·exact absurd ((a3.o.1 rfl).1 i x hx) a5
     clear hall hx a5;go_wp2
     go_ret
     exact⟨rfl,b2.o⟩
   ·obtain rfl:i=len:=by omega
    have a0:Aside (∀(j:Nat) x,R[j]?=some x→x=j):=fun j x a6=>hall.o j x (by rw [←Rl.o];exact(aO.1 a6).1) a6
    clear hall;obtain rfl:NB=true:=a3.o.2 ⟨a0.o,by rw [Rl.o]⟩;go_wp2
    go_ret
    exact⟨rfl,b2.o⟩
 ·have e1:((len:Int)==vars)=false:=by simpa using a8
  have e2:((len:Int) !=vars)=true:=by simpa using a8
  obtain rfl:NB=false:=by
   cases NB
   ·rfl
   ·exact absurd (by have:=(a3.o.1 rfl).2;rw [Rl.o] at this;exact this) a8
  clear a8;go_wp2
  go_ret
  exact⟨rfl,b2.o⟩
end Go.Proofs.YtbdpdeonapmlgaaGreatDoor
namespace Go.Proofs.YtbdpdeonapmlgaaGreatDoor
open Go.RowKit Go.Big
variable {g:Bool} {den num:List Nat} {len sz:Nat} {k v:Int}
noncomputable def Tm.faultE (T:Tm):Int:=if 10000<T.nodes then 3 else T.errE
def Ig (T:Tm) (n:Nat) (w:Wo) (vs:Lv) (h:TmV n w T vs) (hn:n≤w.heap.size):
  Cz 87 #[.agg vs.toArray] w fun e w'=>e= .returned (.int .i64 T.faultE)∧Bz w w':=by
 have hs:=NJ T n;have hd:=OF T n;obtain⟨F,hF⟩:=enm T.errE;have a2:Aside (T.faultE=if 10000<T.nodes then 3 else F):=by rw [←hF];rfl
 rw [hF] at hd;have h0:=h;obtain⟨k,v,nm,g,num,den,args⟩:=T;simp only [TmV] at h;obtain⟨s1,s2,a,c,rfl,⟨⟨p1,q1,rfl,_⟩,⟨p2,q2,rfl,_⟩⟩,_⟩:=h;obtain⟨N,hN⟩:=enm (Tm.nodes (.mk k v nm g num den args));obtain⟨E,hE⟩:=enm (Tm.faultE (.mk k v nm g num den args));rw [hE,hN] at a2;rw [hE];have hB:=aC w (Obj.cells #[.int .i64 k,.int .i64 v,.string nm,.bool g,.slice p1 num.length q1,.slice p2 den.length q2,.slice a args.length c] 48);have hq:=aK w (Obj.cells #[.int .i64 k,.int .i64 v,.string nm,.bool g,.slice p1 num.length q1,.slice p2 den.length q2,.slice a args.length c] 48);have d1:=hs (w.alloc (Obj.cells #[.int .i64 k,.int .i64 v,.string nm,.bool g,.slice p1 num.length q1,.slice p2 den.length q2,.slice a args.length c] 48)) _ 10000 (by omega) (TmV.below hB hn _ _ h0) (aE hn hB.size);have d2:∀w2,Bz w w2→_:=fun w2 hb=>hd w2 _ (TmV.below hb hn _ _ h0) (aE hn hb.size)
 rw [hN] at d1;replace d1:Cz 152 #[.agg #[.int .i64 k,.int .i64 v,.string nm,.bool g,.slice p1 num.length q1,.slice p2 den.length q2,.slice a args.length c],.int .i64 10000] _ _:=d1;replace d2:∀w2,Bz w w2→Cz 153 #[.agg #[.int .i64 k,.int .i64 v,.string nm,.bool g,.slice p1 num.length q1,.slice p2 den.length q2,.slice a args.length c]] w2 _:=d2;clear h0 hs hd hN hE hF;generalize args.length=l0,num.length=l1,den.length=l2 at*;show Cz 87 #[.agg (tA k v nm g p1 l1 q1 p2 l2 q2 a l0 c)] w _
 by_cases hb:10000<N
 ·have a1:Aside (E=3):=by show E=3;rw [a2.o,if_pos hb]
  go_enter Tryz.func87,Tryz.ntmps87
  go_wp2_with first|(go_at_call 152;(with_reducible refine d1.mono ?_);rintro e w3 ⟨r,rfl,hr,hb3⟩;obtain⟨r2,a3⟩:∃r2:Nat,r=r2∧(10000:Int)<(r2:Int):=⟨r,rfl,by omega⟩;obtain⟨rfl,hr3⟩:=a3;clear hr)
  go_ret
  rw [a1.o];exact⟨rfl,hB.trans (hb3.mono hB.size)⟩
 ·have a1:Aside (E=F):=by show E=F;rw [a2.o,if_neg hb]
  go_enter Tryz.func87,Tryz.ntmps87
  go_wp2_with first|(go_at_call 152;(with_reducible refine d1.mono ?_);rintro e w3 ⟨r,rfl,hr,hb3⟩;have a3:(r:Int)≤10000:=(by omega);have a0:=hB.trans (hb3.mono hB.size);obtain⟨y0,y1,y2,y3,y4,y5,y6⟩:=eG ((hb3.block w.heap.size (by simp)).trans hq);clear hr)|(go_at_call 153;(with_reducible refine(d2 _ a0).mono ?_);rintro e w4 ⟨rfl,hb4⟩)
  go_ret
  rw [a1.o];exact⟨rfl,a0.trans (hb4.mono a0.size)⟩
def pf20 (h:k<1∨5<k):¬bY k v sz g num den len:=by
 unfold bY;omega
def pf29 (h:(¬k=1∧¬v=0)∨v<0∨1073741824<v):¬bY k v sz g num den len:=by
 unfold bY;omega
def pf48 (h:(¬(k=3∨k=4∨k=5)∧¬sz=0)∨(¬k=2∧cF g num.length den.length=false)):¬bY k v sz g num den len:=by
 rcases h with h|⟨h,h2⟩
 ·unfold bY;omega
 ·unfold bY;rw [h2];simp;omega
def pf67 (h:k=2∧¬dO g num den=0):¬bY k v sz g num den len:=by
 obtain⟨rfl,h2⟩:=h;unfold bY;rintro(h|h|h|h|h)
 ·omega
 ·exact h2 h.2.2.2.2
 ·omega
 ·omega
 ·omega
def pf77 (h:(¬k=5∧0<len)∨(k=5∧(len<1∨32<len))):¬bY k v sz g num den len:=by
 unfold bY;omega
def pf_all (h1:¬(k<1∨5<k)) (h2:¬((¬k=1∧¬v=0)∨v<0∨1073741824<v)) (h3:¬((¬(k=3∨k=4∨k=5)∧¬sz=0)∨(¬k=2∧cF g num.length den.length=false))) (h4:¬(k=2∧¬dO g num den=0)) (h5:¬((¬k=5∧0<len)∨(k=5∧(len<1∨32<len)))):bY k v sz g num den len:=by
 have hn:¬k=2→cF g num.length den.length=true:=fun h=>by
  cases hc:cF g num.length den.length with
  |true=>rfl
  |false=>exact absurd (.inr ⟨h,hc⟩) h3
 have hs:¬(¬(k=3∨k=4∨k=5)∧¬sz=0):=fun h=>h3 (.inl h)
 unfold bY;have hk:k=1∨k=2∨k=3∨k=4∨k=5:=by omega
 rcases hk with rfl|rfl|rfl|rfl|rfl
 ·exact .inl ⟨rfl,by omega,by omega,by omega,hn (by decide),by omega⟩
 ·exact .inr (.inl ⟨rfl,by omega,by omega,by omega,iR fun h=>h4 ⟨rfl,h⟩⟩)
 ·exact .inr (.inr (.inl ⟨rfl,by omega,hn (by decide),by omega⟩))
 ·exact .inr (.inr (.inr (.inl ⟨rfl,by omega,hn (by decide),by omega⟩)))
 ·exact .inr (.inr (.inr (.inr ⟨rfl,by omega,hn (by decide),by omega,by omega⟩)))
def ZH (h:bY k v sz g num den len) (hs:¬((k=4∧4000<sz)∨(¬k=4∧255<sz))):bP k v sz g num den len=0:=by
 unfold bP;rw [if_pos h,if_neg];unfold lQ bY at*;split
 ·omega
 ·split<;>omega
def ZI (h:bY k v sz g num den len) (hs:(k=4∧4000<sz)∨(¬k=4∧255<sz)):bP k v sz g num den len=3:=by
 unfold bP;rw [if_pos h,if_pos];unfold lQ;split
 ·omega
 ·split<;>omega
def NfOk (T:Tm):Prop:=∀(n:Nat) (w:Wo) (vs:Lv),TmV n w T vs→n≤w.heap.size→
  Cz 168 #[.agg vs.toArray] w fun e w'=>e= .returned (.int .i64 T.errE)∧Bz w w'
def Bq (k v:Int) (nm:ByteArray) (g:Bool) (num den:List Nat) (args:List Tm) (ih:∀T'∈args,NfOk T'):NfOk (.mk k v nm g num den args):=by
  intro n w vs h hn;obtain⟨F,hF⟩:=enm (Tm.errE (.mk k v nm g num den args));have b8:Aside (F=if bP k v nm.size g num den args.length≠0 then bP k v nm.size g num den args.length else Tm.errL args):=by
   show F=_;rw [←hF];simp only [Tm.errE]
  have a3:Aside (¬bY k v nm.size g num den args.length→F=2):=fun h=>by
   have e:bP k v nm.size g num den args.length=2:=if_neg h;rw [b8.o,e];rfl
  rw [hF];clear hF;simp only [TmV] at h;obtain⟨s1,s2,a,c,rfl,⟨⟨p1,q1,rfl,hA⟩,⟨p2,q2,rfl,hC⟩⟩,h2,hbig,hbA,hbC⟩:=h;obtain⟨len,hl⟩:=enm args.length;obtain⟨l1,hl1⟩:=enm num.length;obtain⟨l2,hl2⟩:=enm den.length;rw [hl] at hbig a3 b8 ⊢;rw [hl1] at hbA ⊢;rw [hl2] at hbC ⊢;show Cz 168 #[.agg (tA k v nm g p1 l1 q1 p2 l2 q2 a len c)] w _;have b0:=aC w (bA k v nm g p1 l1 q1 p2 l2 q2 a len c);have hq:=aK w (bA k v nm g p1 l1 q1 p2 l2 q2 a len c);have i3:w.heap.size+1≤(w.alloc (bA k v nm g p1 l1 q1 p2 l2 q2 a len c)).heap.size:=by simp
  go_enter Tryz.func168,Tryz.ntmps168
  go_upto_region 1 with fail
  generalize w.alloc (bA k v nm g p1 l1 q1 p2 l2 q2 a len c)=wb at*;have fc:∀w2,Bz wb w2→_:=fun w2 hb=>eG ((hb.block w.heap.size (by omega)).trans hq)
  obtain⟨x0,x1,x2,x3,x4,x5,x6⟩:=fc wb (aG _ _);have Al:=aside3 hl hl1 hl2;clear hl hl1 hl2 hq;obtain⟨P3,hP3r⟩:∃P:Prop,P=(k=3∨k=4∨k=5):=⟨_,rfl⟩;have b9:=aside hP3r;clear hP3r
  go_cut [3] from 7 to 19 (fun s3 wx=>∃b,s3= .bool b∧(b=true↔P3)∧wx=wb)
  case first=>
   as_aux_lemma=>
    clear fc ih h2 hA hC b0 hbig hbA hbC
    by_cases k3:k=3
    ·subst k3;have a0:Aside P3:=by show P3;rw [b9.o];exact .inl rfl
     go_wp2_with fail
     go_meet
     exact⟨true,rfl,⟨fun _=>a0.o,fun _=>rfl⟩,rfl⟩
    ·have i5:(k==3)=false:=by simpa using k3
     by_cases k4:k=4
     ·subst k4;clear k3;have a0:Aside P3:=by show P3;rw [b9.o];exact .inr (.inl rfl)
      go_wp2_with fail
      go_meet
      exact⟨true,rfl,⟨fun _=>a0.o,fun _=>rfl⟩,rfl⟩
     ·have h8:(k==4)=false:=by simpa using k4
      have kA:=aside2 k3 k4;clear k3 k4
      go_wp2_with fail
      go_meet
      exact⟨_,rfl,by rw [b9.o];have:=kA.o;simp;omega,rfl⟩
  case rest=>
   obtain⟨b3,rfl,hb3c,rfl⟩:=hcut;rw [b9.o] at hb3c;have e6:=aside hb3c;clear b9;clear hb3c
   go_upto_region 2 with fail
   obtain⟨c5,hP20r⟩:∃P:Prop,P=(k<1∨5<k):=⟨_,rfl⟩;have a7:=aside hP20r;clear hP20r
   go_cut [20] from 21 to 28 (fun s wx=>∃b,s= .bool b∧(b=true↔c5)∧wx=wc)
   case first=>
    as_aux_lemma=>
     clear fc ih h2 hA hC b0 hbig hbA hbC
     by_cases k1:k<1
     ·have hk:=aside k1;have a0:Aside c5:=by show c5;rw [a7.o];exact .inl hk.o
      go_wp2_with fail
      go_meet
      exact⟨true,rfl,⟨fun _=>a0.o,fun _=>rfl⟩,rfl⟩
     ·by_cases k5:5<k
      ·have hk:=aside k5;have a0:Aside c5:=by show c5;rw [a7.o];exact .inr hk.o
       go_wp2_with fail
       go_meet
       exact⟨true,rfl,⟨fun _=>a0.o,fun _=>rfl⟩,rfl⟩
      ·have hk:Aside (¬(k<1∨5<k)):=by show¬_;omega
       have a0:Aside (¬c5):=by show¬c5;rw [a7.o];exact fun h=>absurd h hk.o
       go_wp2_with fail
       go_meet
       exact⟨false,rfl,⟨fun h=>(by cases h),fun h=>absurd h a0.o⟩,rfl⟩
   case rest=>
    obtain⟨g0,rfl,hb20,rfl⟩:=hcut;rw [a7.o] at hb20;clear a7;cases g0
    ·have b1:Aside (¬(k<1∨5<k)):=fun h=>by have:=hb20.2 h;cases this
     clear hb20
     go_upto_region 4 with fail
     obtain⟨b6,hP29r⟩:∃P:Prop,P=((¬k=1∧¬v=0)∨v<0∨1073741824<v):=⟨_,rfl⟩;have a4:=aside hP29r;clear hP29r
     go_cut [29] from 30 to 47 (fun s wx=>∃b,s= .bool b∧(b=true↔b6)∧wx=wc)
     case first=>
      as_aux_lemma=>
       clear fc ih h2 hA hC b0 hbig hbA hbC;clear b1
       by_cases k1:k=1
       ·subst k1
        by_cases v0:v<0
        ·have hv:=aside v0;have a0:Aside b6:=by show b6;rw [a4.o];exact .inr (.inl hv.o)
         go_wp2_with fail
         go_meet
         exact⟨true,rfl,⟨fun _=>a0.o,fun _=>rfl⟩,rfl⟩
        ·by_cases v1:1073741824<v
         ·have hv:=aside v1;have a0:Aside b6:=by show b6;rw [a4.o];exact .inr (.inr hv.o)
          go_wp2_with fail
          go_meet
          exact⟨true,rfl,⟨fun _=>a0.o,fun _=>rfl⟩,rfl⟩
         ·have hv:Aside (0≤v∧v≤1073741824):=⟨by omega,by omega⟩;have a0:Aside (¬b6):=by show¬b6;rw [a4.o];exact fun h=>by have:=hv.o;omega
          go_wp2_with fail
          go_meet
          exact⟨false,rfl,⟨fun h=>(by cases h),fun h=>absurd h a0.o⟩,rfl⟩
       ·have i4:(k !=1)=true:=by simpa using k1
        have h7:=aside k1
        by_cases vz:v=0
        ·subst vz;have a0:Aside (¬b6):=by show¬b6;rw [a4.o];exact fun h=>by omega
         go_wp2_with fail
         go_meet
         exact⟨false,rfl,⟨fun h=>(by cases h),fun h=>absurd h a0.o⟩,rfl⟩
        ·have i9:(v !=0)=true:=by simpa using vz
         have h9:=aside vz;have a0:Aside b6:=by show b6;rw [a4.o];exact .inl ⟨h7.o,h9.o⟩
         go_wp2_with fail
         go_meet
         exact⟨true,rfl,⟨fun _=>a0.o,fun _=>rfl⟩,rfl⟩
     case rest=>
      obtain⟨g1,rfl,hb29,rfl⟩:=hcut;rw [a4.o] at hb29;clear a4;cases g1
      ·have d2:Aside (¬((¬k=1∧¬v=0)∨v<0∨1073741824<v)):=fun h=>by have:=hb29.2 h;cases this
       clear hb29;obtain⟨wb,rfl⟩:=enr wc;have d3:=ZM g p1 p2 l1 l2 q1 q2 wb
       go_upto_region 6 with fail
       obtain⟨a9,hP48r⟩:∃P:Prop,P=((b3=false∧¬nm.toList= [])∨(¬k=2∧cF g l1 l2=false)):=⟨_,rfl⟩;have a1:=aside hP48r;clear hP48r
       go_cut [48] from 49 to 66 (fun s wx=>∃b,s= .bool b∧(b=true↔a9)∧Bz wb wx)
       case first=>
        as_aux_lemma=>
         obtain⟨NN,hNN⟩:=enm ((!g&&(((l1:Int)==0)&&((l2:Int)==0))));rw [hNN] at d3;have AN:Aside (cF g l1 l2=NN):=by
          show _=_;rw [←hNN];unfold cF;cases g
          ·by_cases h0:l1=0<;>by_cases h1:l2=0<;>simp [h0,h1]
          ·rfl
         clear hNN fc ih h2 hA hC b0 hbig hbA hbC b1;cases b3
         ·by_cases f5:nm.toList= []
          ·have c4:=aside f5
           by_cases k2:k=2
           ·subst k2;have a0:Aside (¬a9):=by show¬a9;rw [a1.o];exact fun h=>by rcases h with h|h;exact absurd c4.o h.2;exact absurd rfl h.1
            go_wp2_with fail
            go_meet
            exact⟨false,rfl,⟨fun h=>(by cases h),fun h=>absurd h a0.o⟩,aG _ _⟩
           ·have f7:(k !=2)=true:=by simpa using k2
            have d8:=aside k2;cases NN
            ·have a0:Aside a9:=by show a9;rw [a1.o];exact .inr ⟨d8.o,AN.o⟩
             go_wp2_with (go_at_call 223;with_reducible refine d3.mono ?_;rintro e w3 ⟨rfl,hb3⟩)
             go_meet
             exact⟨true,rfl,⟨fun _=>a0.o,fun _=>rfl⟩,hb3⟩
            ·have a0:Aside (¬a9):=by show¬a9;rw [a1.o];exact fun h=>by rcases h with h|h;exact absurd c4.o h.2;have:=h.2;rw [AN.o] at this;cases this
             go_wp2_with (go_at_call 223;with_reducible refine d3.mono ?_;rintro e w3 ⟨rfl,hb3⟩)
             go_meet
             exact⟨false,rfl,⟨fun h=>(by cases h),fun h=>absurd h a0.o⟩,hb3⟩
          ·have c4:=aside f5;have a0:Aside a9:=by show a9;rw [a1.o];exact .inl ⟨rfl,c4.o⟩
           go_wp2_with fail
           go_meet
           exact⟨true,rfl,⟨fun _=>a0.o,fun _=>rfl⟩,aG _ _⟩
         ·skip
          by_cases k2:k=2
          ·subst k2;have a0:Aside (¬a9):=by show¬a9;rw [a1.o];exact fun h=>by rcases h with h|h;exact absurd h.1 (by decide);exact absurd rfl h.1
           go_wp2_with fail
           go_meet
           exact⟨false,rfl,⟨fun h=>(by cases h),fun h=>absurd h a0.o⟩,aG _ _⟩
          ·have f7:(k !=2)=true:=by simpa using k2
           have d8:=aside k2;cases NN
           ·have a0:Aside a9:=by show a9;rw [a1.o];exact .inr ⟨d8.o,AN.o⟩
            go_wp2_with (go_at_call 223;with_reducible refine d3.mono ?_;rintro e w3 ⟨rfl,hb3⟩)
            go_meet
            exact⟨true,rfl,⟨fun _=>a0.o,fun _=>rfl⟩,hb3⟩
           ·have a0:Aside (¬a9):=by show¬a9;rw [a1.o];exact fun h=>by rcases h with h|h;exact absurd h.1 (by decide);have:=h.2;rw [AN.o] at this;cases this
            go_wp2_with (go_at_call 223;with_reducible refine d3.mono ?_;rintro e w3 ⟨rfl,hb3⟩)
            go_meet
            exact⟨false,rfl,⟨fun h=>(by cases h),fun h=>absurd h a0.o⟩,hb3⟩
       case rest=>
        obtain⟨f2,rfl,hb48,hB48⟩:=hcut;rw [a1.o] at hb48;clear a1;have c7:Aside (f2=true↔(¬(k=3∨k=4∨k=5)∧¬nm.size=0)∨(¬k=2∧cF g num.length den.length=false)):=by
         show _↔_;rw [hb48,Al.o.2.1,Al.o.2.2,←e6.o,←eK];cases b3<;>simp
        clear hb48;cases f2
        ·have c0:Aside (¬((¬(k=3∨k=4∨k=5)∧¬nm.size=0)∨(¬k=2∧cF g num.length den.length=false))):=fun h=>by have:=c7.o.2 h;cases this
         clear c7 d3;have b5:=b0.trans (hB48.mono b0.size);obtain⟨wd,rfl⟩:=enr wc;have e0:=fc wd hB48;obtain⟨y0,y1,y2,y3,y4,y5,y6⟩:=e0;have d5:=ZL g p1 p2 l1 l2 q1 q2 n num den Al.o.2.1 Al.o.2.2 (by omega) (by omega) wd (aE hn b5.size) (hA.below b5 hn) (hC.below b5 hn);have d4:=h2;clear x0 x1 x2 x3 x4 x5 x6 hA hC
         go_upto_region 8 with fail
         obtain⟨c6,hP67r⟩:∃P:Prop,P=(k=2∧¬dO g num den=0):=⟨_,rfl⟩;have a8:=aside hP67r;clear hP67r
         go_cut [67] from 68 to 76 (fun s wx=>∃b,s= .bool b∧(b=true↔c6)∧Bz wd wx)
         case first=>
          as_aux_lemma=>
           by_cases k2:k=2
           ·subst k2;obtain⟨NF,hF⟩:=enm (dO g num den);rw [hF] at d5;have AF:=aside hF;clear hF fc ih h2 d4 c0 b1 b0 hB48 b5 hbig hbA hbC
            by_cases e4:NF=0
            ·subst e4;have a0:Aside (¬c6):=by show¬c6;rw [a8.o];exact fun h=>absurd AF.o h.2
             go_wp2_with (go_at_call 224;with_reducible refine d5.mono ?_;rintro e w3 ⟨rfl,hb3⟩)
             go_meet
             exact⟨false,rfl,⟨fun h=>(by cases h),fun h=>absurd h a0.o⟩,hb3⟩
            ·have i0:(NF !=0)=true:=by simpa using e4
             have AF2:Aside (¬dO g num den=0):=by show¬_;rw [AF.o];exact e4
             have a0:Aside c6:=by show c6;rw [a8.o];exact⟨rfl,AF2.o⟩
             go_wp2_with (go_at_call 224;with_reducible refine d5.mono ?_;rintro e w3 ⟨rfl,hb3⟩)
             go_meet
             exact⟨true,rfl,⟨fun _=>a0.o,fun _=>rfl⟩,hb3⟩
           ·have f7:(k==2)=false:=by simpa using k2
            have d8:=aside k2;clear fc ih h2 d4 c0 b1 b0 hB48 d5 k2 b5 hbig hbA hbC;have a0:Aside (¬c6):=by show¬c6;rw [a8.o];exact fun h=>absurd h.1 d8.o
            go_wp2_with fail
            go_meet
            exact⟨false,rfl,⟨fun h=>(by cases h),fun h=>absurd h a0.o⟩,aG _ _⟩
         case rest=>
          obtain⟨g2,rfl,hb67,hB67⟩:=hcut;rw [a8.o] at hb67;clear a8;cases g2
          ·have d0:Aside (¬(k=2∧¬dO g num den=0)):=fun h=>by have:=hb67.2 h;cases this
           have b4:=b5.trans (hB67.mono b5.size);obtain⟨we,rfl⟩:=enr wc;have fe:∀w2,Bz we w2→_:=fun w2 hb=>fc w2 (hB48.trans ((hB67.trans (hb.mono hB67.size)).mono hB48.size))
           obtain⟨z0,z1,z2,z3,z4,z5,z6⟩:=fe we (aG _ _);clear hb67 d5 y0 y1 y2 y3 y4 y5 y6 fc
           go_upto_region 10 with fail
           obtain⟨b7,hP77r⟩:∃P:Prop,P=((¬k=5∧0<len)∨(k=5∧(len<1∨32<len))):=⟨_,rfl⟩;have a5:=aside hP77r;clear hP77r
           go_cut [77] from 78 to 103 (fun s wx=>∃b,s= .bool b∧(b=true↔b7)∧wx=we)
           case first=>
            as_aux_lemma=>
             clear ih h2 d4 fe b0 hB48 hB67 b5 b4 hbig hbA hbC b1 d2 c0 d0
             by_cases k5:k=5
             ·subst k5
              by_cases e7:len<1
              ·have c9:(len:Int)<1:=by omega
               have d6:=aside e7;have a0:Aside b7:=by show b7;rw [a5.o];exact .inr ⟨rfl,.inl d6.o⟩
               go_wp2_with fail
               go_meet
               exact⟨true,rfl,⟨fun _=>a0.o,fun _=>rfl⟩,rfl⟩
              ·have c9:¬(len:Int)<1:=by omega
               by_cases g4:32<len
               ·have e3:(32:Int)<(len:Int):=by omega
                have d6:=aside g4;have a0:Aside b7:=by show b7;rw [a5.o];exact .inr ⟨rfl,.inr d6.o⟩
                go_wp2_with fail
                go_meet
                exact⟨true,rfl,⟨fun _=>a0.o,fun _=>rfl⟩,rfl⟩
               ·have e3:¬(32:Int)<(len:Int):=by omega
                have e8:Aside (len≤32∧1≤len):=⟨by omega,by omega⟩;have a0:Aside (¬b7):=by show¬b7;rw [a5.o];exact fun h=>by have:=e8.o;omega
                go_wp2_with fail
                go_meet
                exact⟨false,rfl,⟨fun h=>(by cases h),fun h=>absurd h a0.o⟩,rfl⟩
             ·have i7:(k !=5)=true:=by simpa using k5
              have i8:(k==5)=false:=by simpa using k5
              have f9:=aside k5
              by_cases e7:0<len
              ·have c9:(0:Int)<(len:Int):=by omega
               have d6:=aside e7;have a0:Aside b7:=by show b7;rw [a5.o];exact .inl ⟨f9.o,d6.o⟩
               go_wp2_with fail
               go_meet
               exact⟨true,rfl,⟨fun _=>a0.o,fun _=>rfl⟩,rfl⟩
              ·have c9:¬(0:Int)<(len:Int):=by omega
               have e8:Aside (len=0):=by show len=0;omega
               have a0:Aside (¬b7):=by show¬b7;rw [a5.o];exact fun h=>by have:=e8.o;have:=f9.o;omega
               go_wp2_with fail
               go_meet
               exact⟨false,rfl,⟨fun h=>(by cases h),fun h=>absurd h a0.o⟩,rfl⟩
           case rest=>
            obtain⟨g3,rfl,hb77,rfl⟩:=hcut;rw [a5.o] at hb77;clear a5;cases g3
            ·have c1:Aside (bY k v nm.size g num den len):=pf_all b1.o d2.o c0.o d0.o fun h=>by have:=hb77.2 h;cases this
             clear hb77 b1 d2 c0 d0
             go_upto_region 12 with fail
             obtain⟨a6,hP104r⟩:∃P:Prop,P=((k=4∧4000<nm.size)∨(¬k=4∧255<nm.size)):=⟨_,rfl⟩;have a2:=aside hP104r;clear hP104r
             go_cut [104] from 105 to 124 (fun s wx=>∃b,s= .bool b∧(b=true↔a6)∧wx=wc)
             case first=>
              as_aux_lemma=>
               clear ih h2 d4 fe c1 b0 hB48 hB67 b5 b4 hbig hbA hbC
               by_cases k4:k=4
               ·subst k4
                by_cases g9:(4000:Int)<(nm.size:Int)
                ·have c4:Aside (4000<nm.size):=by show _<_;omega
                 have a0:Aside a6:=by show a6;rw [a2.o];exact .inl ⟨rfl,c4.o⟩
                 go_wp2_with fail
                 go_meet
                 exact⟨true,rfl,⟨fun _=>a0.o,fun _=>rfl⟩,rfl⟩
                ·have f0:Aside (nm.size≤4000):=by show nm.size≤4000;omega
                 have a0:Aside (¬a6):=by show¬a6;rw [a2.o];exact fun h=>by have:=f0.o;omega
                 go_wp2_with fail
                 go_meet
                 exact⟨false,rfl,⟨fun h=>(by cases h),fun h=>absurd h a0.o⟩,rfl⟩
               ·have h8:(k !=4)=true:=by simpa using k4
                have i6:(k==4)=false:=by simpa using k4
                have f8:=aside k4
                by_cases g9:(255:Int)<(nm.size:Int)
                ·have c4:Aside (255<nm.size):=by show _<_;omega
                 have a0:Aside a6:=by show a6;rw [a2.o];exact .inr ⟨f8.o,c4.o⟩
                 go_wp2_with fail
                 go_meet
                 exact⟨true,rfl,⟨fun _=>a0.o,fun _=>rfl⟩,rfl⟩
                ·have f0:Aside (nm.size≤255):=by show nm.size≤255;omega
                 have a0:Aside (¬a6):=by show¬a6;rw [a2.o];exact fun h=>by have:=f0.o;have:=f8.o;omega
                 go_wp2_with fail
                 go_meet
                 exact⟨false,rfl,⟨fun h=>(by cases h),fun h=>absurd h a0.o⟩,rfl⟩
             case rest=>
              obtain⟨e2,rfl,hb104,rfl⟩:=hcut;rw [a2.o] at hb104;clear a2;cases e2
              ·have f3:Aside (F=Tm.errL args):=by
                show F=_;rw [b8.o,if_neg];rw [ZH c1.o fun h=>by have:=hb104.2 h;cases this];simp
               clear hb104 a3 b8;have g5:=aside b4;obtain⟨wf,rfl⟩:=enr wc;clear b0 hB48 hB67 b5;go_wp2
               go_loopw [128] (fun f1 wr=>∃i:Nat,f1= .int .i64 i∧i≤len∧Aside (Tm.errL (args.take i)=0)∧Bz w wr) (fun s _=>len-(intOf s).toNat)
               case atStart=>exact⟨0,rfl,aJ _,by simp [Tm.errL,Aside],b4⟩
               case round=>
                clear z0 z1 z2 z3 z4 z5 z6 fe b4 g5;obtain⟨i,rfl,hi,hex,hB⟩:=hrel
                by_cases e9:i<len
                ·obtain⟨T',c8⟩:=egf Al.o.1 e9;obtain⟨b,off,vs',rfl,hbn,hc,hv⟩:=h2.get c8;have f6:=hv;obtain⟨G,hG⟩:=enm T'.errE;have e1:Aside ((G=0→Tm.errL (args.take (i+1))=0)∧(G≠0→F=G)):=⟨fun h=>HS c8 hex.o (hG.trans h),fun h=>by rw [f3.o,HT c8 hex.o (by rw [hG];exact h),hG]⟩;have d7:=aP c8;obtain⟨k',v',nm',g',num',den',b2⟩:=T';simp only [TmV] at hv;obtain⟨t1,t2,a',c',rfl,⟨⟨p1',q1',rfl,_⟩,⟨p2',q2',rfl,_⟩⟩,_⟩:=hv;have c3:∀p:Addr,p.block<n→wr.cell? p=w.cell? p:=fun p hp=>(hB.mono hn).cell hp
                 rw [bT] at hc;have x0:=(c3 ⟨b,off+i*7+0,none⟩ hbn).trans (hc 0 _ rfl);have x1:=(c3 ⟨b,off+i*7+1,none⟩ hbn).trans (hc 1 _ rfl);have x2:=(c3 ⟨b,off+i*7+2,none⟩ hbn).trans (hc 2 _ rfl);have x3:=(c3 ⟨b,off+i*7+3,none⟩ hbn).trans (hc 3 _ rfl);have x4:=(c3 ⟨b,off+i*7+4,none⟩ hbn).trans (hc 4 _ rfl);have x5:=(c3 ⟨b,off+i*7+5,none⟩ hbn).trans (hc 5 _ rfl);have x6:=(c3 ⟨b,off+i*7+6,none⟩ hbn).trans (hc 6 _ rfl);rw [iI] at x0;obtain⟨i2,hi3,hw3⟩:=elt (i:=i) (n:=len) (by omega) (by omega);have b4:Bz w (wr.alloc (Obj.cells #[.int .i64 k',.int .i64 v',.string nm',.bool g',.slice p1' num'.length q1',.slice p2' den'.length q2',.slice a' b2.length c'] 48)):=hB.alloc hB.size _;have d1:=ih _ d7 n (wr.alloc (Obj.cells #[.int .i64 k',.int .i64 v',.string nm',.bool g',.slice p1' num'.length q1',.slice p2' den'.length q2',.slice a' b2.length c'] 48)) _ (TmV.below b4 hn _ _ f6) (aE hn b4.size);rw [hG] at d1;replace d1:Cz 168 #[.agg #[.int .i64 k',.int .i64 v',.string nm',.bool g',.slice p1' num'.length q1',.slice p2' den'.length q2',.slice a' b2.length c']] _ _:=d1;have f4:=aside e9;generalize b2.length=len',num'.length=ln1,den'.length=ln2 at*;clear h2 d4 ih hc f6 c8 c3 hG d7 hex e9
                 by_cases d9:G=0
                 ·subst d9;have h6:Aside (Tm.errL (args.take (i+1))=0):=e1.o.1 rfl;clear e1
                  go_wp2_with first|(go_at_call 168;(with_reducible refine d1.mono ?_);rintro e w3 ⟨rfl,hb3⟩)
                  exact⟨⟨i+1,by simp,by have:=f4.o;omega,h6,b4.trans (hb3.mono b4.size)⟩,by have:=f4.o;simp [intOf];omega⟩
                 ·have i1:(G==0)=false:=by simpa using d9
                  have g7:Aside (F=G):=e1.o.2 d9;clear d9 e1
                  go_wp2_with first|(go_at_call 168;(with_reducible refine d1.mono ?_);rintro e w3 ⟨rfl,hb3⟩)
                  go_ret
                  rw [g7.o];exact⟨rfl,b4.trans (hb3.mono b4.size)⟩
                ·obtain rfl:i=len:=by omega
                 have g8:Aside (F=0):=by show F=0;rw [f3.o,←hex.o,←Al.o.1,iP]
                 clear h2 d4 ih hex
                 go_wp2_with fail
                 go_ret
                 rw [g8.o];exact⟨rfl,hB⟩
              ·have g6:Aside (F=3):=by
                show F=3;rw [b8.o,ZI c1.o (hb104.1 rfl)];rfl
               clear hb104 b8 a3;go_wp2
               go_ret
               rw [g6.o];exact⟨rfl,b4⟩
            ·have c2:Aside (F=2):=a3.o (by exact pf77 (hb77.1 rfl));clear a3 b8;go_wp2
             go_ret
             rw [c2.o];exact⟨rfl,b4⟩
          ·have c2:Aside (F=2):=a3.o (by exact pf67 (hb67.1 rfl));clear a3 b8;go_wp2
           go_ret
           rw [c2.o];exact⟨rfl,b5.trans (hB67.mono b5.size)⟩
        ·have c2:Aside (F=2):=a3.o (by exact pf48 (c7.o.1 rfl));clear a3 b8;go_wp2
         go_ret
         rw [c2.o];exact⟨rfl,b0.trans (hB48.mono b0.size)⟩
      ·have c2:Aside (F=2):=a3.o (by exact pf29 (hb29.1 rfl));clear a3 b8;go_wp2
       go_ret
       rw [c2.o];exact⟨rfl,b0⟩
    ·have c2:Aside (F=2):=a3.o (by exact pf20 (hb20.1 rfl));clear a3 b8;go_wp2
     go_ret
     rw [c2.o];exact⟨rfl,b0⟩
def nf_ok:∀T:Tm,NfOk T
 | .mk k v nm g num den args=>Bq k v nm g num den args fun T' c8=>nf_ok T'
termination_by T=>SizeOf.sizeOf T
decreasing_by
 simp_wf
 have:=tQ c8;omega
