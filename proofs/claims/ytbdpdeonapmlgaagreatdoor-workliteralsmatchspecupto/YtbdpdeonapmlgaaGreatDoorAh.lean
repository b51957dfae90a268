/- Lemmas for the text Card; no condition. -/
import Derived.Test.YtbdpdeonapmlgaaGreatDoorAg
set_option linter.all false
set_option maxHeartbeats 4000000
set_option maxRecDepth 100000
namespace Go.Proofs.YtbdpdeonapmlgaaGreatDoor
open Go.RowKit Go.Big
noncomputable section
variable {nm b:ByteArray} {den num L C A:List Nat} {len M n:Nat} {v:Int} {g nn neg:Bool}
theorem NoZ.pos' (h:NoZ C) (a0:C≠ []):0<val 4294967296 C:=by
 have:=h.pos (B:=4294967296) (by decide) a0;have h2:0<(4294967296:Nat)^(C.length-1):=jJ (by decide);omega
theorem Cg (a1 a2:Option Addr) (a4 a5 a6 a7 n:Nat) (A C:List Nat) (a9:A.length=a4) (b0:C.length=a5) (b2:a4≤500000) (a8:a5≤500000) (w:World) (hn:n≤w.heap.size) (h1:bV n w a1 A) (h2:bV n w a2 C) (hA:NoZ A) (hC:NoZ C) (a0:C≠ []):
  Calls Tryz.prog 336 #[.slice a1 a4 a6,.slice a2 a5 a7] w fun e w'=>∃q r,e= .returned (.tuple #[q,r])∧NatL w'.heap.size w' r (val 4294967296 A%val 4294967296 C)∧Below w.heap.size w w':=by
 by_cases b8:val 4294967296 A<val 4294967296 C
 ·exact Cf a1 a2 a4 a5 a6 a7 n A C a9 b0 b2 a8 w hn h1 h2 hA hC b8
 ·have b5:val 4294967296 C≤val 4294967296 A:=by omega
  match C,a5,b0,a0 with
  | [d],_,rfl,_=>
   have b4:val 4294967296 [d]=d:=by simp [val]
   have:=Cd a1 a2 a4 a6 a7 n d A a9 b2 w hn h1 h2 hA hC (by rw [←b4];exact b5);rw [b4];exact this
  |d1::d2::D,_,rfl,_=>exact Ce a1 a2 a4 D.length a6 a7 n A (d1::d2::D) a9 (by simp) b2 w hn h1 h2 hA hC b5
def DW (w:World) (b off j:Nat):Nat:=match w.cell? ⟨b,off+j,none⟩ with
 |some (.int _ x)=>x.toNat
 |_=>0
def CM (s:Value) (w:World):Nat:=match s with
 | .slice (some ⟨b,off,none⟩) k _=>val 4294967296 ((List.range k).map (DW w b off))
 |_=>0
theorem NatL.read {w:World} {r:Value} {v:Nat} (h:NatL n w r v):CM r w=v:=by
 obtain⟨a,L,c,rfl,h1,_,rfl⟩:=h
 by_cases a0:L= []
 ·subst a0;unfold CM;split
  ·rename_i e;cases e;rfl
  ·rfl
 ·obtain⟨b,off,rfl,_,hc⟩:=h1.2 a0;show val 4294967296 ((List.range L.length).map (DW w b off))=_;congr 1;apply SM
  ·simp
  ·intro j h3 h4;have:=hc j L[j] (aL h4);simp [DW,this]
theorem NoZ.len_pow (h:NoZ L) (hv:val 4294967296 L<4294967296^M):L.length≤M:=by
 by_cases a0:L= []
 ·subst a0;simp
 ·have h1:=h.pos (B:=4294967296) (by decide) a0;have:=(tK (show 1<4294967296 by decide)).1 (fO h1 hv);omega
theorem XW (r1 r2:Value) (n a c M:Nat) (hM:M≤500000) (ha:a<4294967296^M) (hc:c<4294967296^M) (w:World) (hn:n≤w.heap.size) (h1:NatL n w r1 a) (h2:NatL n w r2 c):
  Calls Tryz.prog 300 #[r1,r2] w fun e w'=>∃r,e= .returned r∧NatL w'.heap.size w' r (Nat.gcd a c)∧Below w.heap.size w w':=by
 have b1:Aside (NatL w.heap.size w r1 a∧NatL w.heap.size w r2 c∧a<4294967296^M∧c<4294967296^M):=⟨h1.up hn,h2.up hn,ha,hc⟩;clear hn h1 h2 ha hc;go_enter Tryz.func300,Tryz.ntmps300
 go_wp2_with fail
 go_loopw [0,1] (fun s0 s1 wr=>∃(x y:Nat),Aside (NatL wr.heap.size wr s0 x∧NatL wr.heap.size wr s1 y∧Nat.gcd x y=Nat.gcd a c∧x<4294967296^M∧y<4294967296^M∧Below w.heap.size w wr)) (fun _ s wr=>CM s wr)
 case atStart=>exact⟨a,c,b1.out.1,b1.out.2.1,rfl,b1.out.2.2.1,b1.out.2.2.2,aI _ _⟩
 case round=>
  obtain⟨x,y,hR⟩:=hrel;obtain⟨⟨a1,L1,c1,rfl,hA1,hA2,hA3⟩,⟨a2,L2,c2,rfl,hC1,hC2,hC3⟩,hg,hx,hy,hB⟩:=hR.out;have a9:=hA2.len_pow (M:=M) (by rw [hA3];exact hx);have b0:=hC2.len_pow (M:=M) (by rw [hC3];exact hy)
  by_cases a0:L2= []
  ·subst a0;have b7:=uL (.slice a1 L1.length c1) wr.heap.size L1 (by omega) wr (aA _) ⟨a1,c1,rfl,hA1⟩;have hF:Aside (Nat.gcd a c=x∧NoZ L1∧val 4294967296 L1=x):=⟨by rw [←hg,←hC3];simp [val],hA2,hA3⟩;clear hA1 hA2 hA3 hC1 hC2 hC3 hg hx hy a9 b0 hR
   go_wp2_with first|(go_at_call 129;(with_reducible refine b7.mono ?_);rintro e w' ⟨sv,rfl,⟨a3,c3,rfl,hL⟩,a8⟩)
   go_ret
   refine⟨_,rfl,?_,hB.trans (a8.mono hB.size)⟩;rw [hF.out.1];exact⟨a3,L1,c3,rfl,hL.toAt fun k hk=>hk.2,hF.out.2.1,hF.out.2.2⟩
  ·have b3:=Cg a1 a2 L1.length L2.length c1 c2 wr.heap.size L1 L2 rfl rfl (by omega) (by omega) wr (aA _) hA1 hC1 hA2 hC2 a0;rw [hA3,hC3] at b3;have b6:0<y:=hC3▸hC2.pos' a0;have b9:0<L2.length:=by
    rcases L2 with _|⟨d,D⟩
    ·exact absurd rfl a0
    ·simp
   have hF:Aside (NatL wr.heap.size wr (.slice a2 L2.length c2) y∧0<y∧Nat.gcd x y=Nat.gcd a c∧y<4294967296^M):=⟨⟨a2,L2,c2,rfl,hC1,hC2,hC3⟩,b6,hg,hy⟩;clear hA1 hA2 hA3 hC1 hC2 hC3 hg hx hy a9 b0 hR a0 b6
   go_wp2_with first|(go_at_call 336;(with_reducible refine b3.mono ?_);rintro e w' ⟨q,r,rfl,hr,a8⟩)
   obtain⟨f1,f2,f3,f4⟩:=hF.out;refine⟨⟨y,x%y,(f1.below a8 (aA _)).up a8.size,hr,?_,f4,RS (kC _ f2) f4,hB.trans (a8.mono hB.size)⟩,?_⟩
   ·rw [tN,←Nat.gcd_rec,tN];exact f3
   ·rw [hr.read,f1.read];exact kC _ f2
theorem zF (a:Option Addr) (len cap n:Nat) (L:List Nat) (hl:L.length=len) (w:World) (h1:bV n w a L):Calls Tryz.prog 299 #[.slice a len cap] w fun e w'=>e= .returned (.bool (decide (L= [1])))∧w'=w:=by
 by_cases h:len=1
 ·subst h;obtain⟨x,rfl⟩:∃x,L= [x]:=by
   match L,hl with
   | [x],_=>exact⟨x,rfl⟩
  obtain⟨b,off,rfl,hb,hx,hc⟩:=h1.get (k:=0) rfl;have a4:w.cell? ⟨b,off,none⟩=some (.int .u32 x):=by simpa using hc
  clear hc hl
  by_cases a2:x=1
  ·subst a2;go_enter Tryz.func299,Tryz.ntmps299
   go_wp2_with fail
   go_ret
   exact⟨rfl,rfl⟩
  ·have a3:((x:Int)==1)=false:=by simp;omega
   have hd:decide ([x]= [1])=false:=by simp [a2]
   rw [hd];go_enter Tryz.func299,Tryz.ntmps299
   go_wp2_with fail
   go_ret
   exact⟨rfl,rfl⟩
 ·have a8:((len:Int)==1)=false:=by simp;omega
  have hd:decide (L= [1])=false:=by
   rw [wL];rintro rfl;exact h hl.symm
  rw [hd];go_enter Tryz.func299,Tryz.ntmps299
  go_wp2_with fail
  go_ret
  exact⟨rfl,rfl⟩
theorem MA (a:Option Addr) (len cap n:Nat) (L:List Nat) (hl:L.length=len) (hb:len<4611686018427387904) (w:World) (h1:bV n w a L):Calls Tryz.prog 298 #[.slice a len cap] w fun e w'=>e= .returned (.bool (decide (L.getLast?=some 0)))∧w'=w:=by
 by_cases h:len=0
 ·subst h;obtain rfl:L= []:=kZ.1 hl;go_enter Tryz.func298,Tryz.ntmps298
  go_wp2_with fail
  go_ret
  exact⟨rfl,rfl⟩
 ·obtain⟨k,rfl⟩:∃k,len=k+1:=⟨len-1,by omega⟩;obtain⟨x,hx⟩:∃x,L[k]?=some x:=⟨_,aL (by omega)⟩;have a0:L.getLast?=some x:=by rw [rK,hl,tO];exact hx
  obtain⟨b,off,rfl,hbn,a3,hc⟩:=h1.get hx;have a9:IntKind.i64.wrap ((k:Int)+1-1)=(k:Int):=by rw [aG];omega
  have a5:(k:Int)<(k:Int)+1:=by omega
  have a6:(0:Int)≤(k:Int):=by omega
  have a7:(0:Int)<(k:Int)+1:=by omega
  rw [a0];clear a0 hx hl
  by_cases a1:x=0
  ·subst a1;go_enter Tryz.func298,Tryz.ntmps298
   go_wp2_with fail
   go_ret
   exact⟨rfl,rfl⟩
  ·have b0:((x:Int)==0)=false:=by simp;omega
   have hd:decide (some x=some 0)=false:=by simp [a1]
   rw [hd];go_enter Tryz.func298,Tryz.ntmps298
   go_wp2_with fail
   go_ret
   exact⟨rfl,rfl⟩
theorem NoZ.of_last (h:L.getLast?≠some 0):NoZ L:=fun x hx d6=>h (by rw [hx,d6])
theorem NoZ.one_iff (h:NoZ L) (hd:∀x∈L,x<4294967296):val 4294967296 L=1↔L= [1]:=by
 constructor
 ·intro hv;exact NoZ.eq (B:=4294967296) h (by intro x hx;simp at hx;omega) hd (by intro x hx;simp at hx;omega) (by decide) (by rw [hv];rfl)
 ·rintro rfl;rfl
theorem DF (h1:¬128<A.length) (h2:¬128<C.length) (h:A.getLast?=some 0∨C.getLast?=some 0∨C= []):cP neg A C=2:=by
 unfold cP;rw [if_neg (by omega),if_pos];rcases h with h|h|h
 ·exact .inr (.inr h)
 ·exact .inr (.inl h)
 ·exact .inl h
theorem XQ (h1:¬128<A.length) (h2:¬128<C.length) (hA:A.getLast?≠some 0) (hC:C.getLast?≠some 0) (a7:C≠ []) (c9:∀x∈C,x<4294967296) (h:A= []):cP neg A C=if neg=true∨C≠ [1] then 2 else 0:=by
 subst h;unfold cP;rw [if_neg (by omega),if_neg (by rintro(h|h|h);exact a7 h;exact hC h;exact hA h)];have e:=(NoZ.of_last hC).one_iff c9
 by_cases hn:neg=true∨C≠ [1]
 ·rw [if_pos ⟨rfl,hn.imp id fun h e'=>h (e.1 e')⟩,if_pos hn]
 ·rw [if_neg (by rintro⟨_,h⟩;exact hn (h.imp id fun h e'=>h (e.2 e'))),if_neg hn];have hc:val 4294967296 C=1:=e.2 (iA fun h=>hn (.inr h));rw [hc];rfl
theorem XR (h1:¬128<A.length) (h2:¬128<C.length) (hA:A.getLast?≠some 0) (hC:C.getLast?≠some 0) (a7:C≠ []) (d8:∀x∈A,x<4294967296) (c9:∀x∈C,x<4294967296) (h:A≠ []):cP neg A C=if C≠ [1]∧A≠ [1]∧Nat.gcd (val 4294967296 A) (val 4294967296 C)≠1 then 2 else 0:=by
 unfold cP;have hp:=(NoZ.of_last hA).pos' h;rw [if_neg (by omega),if_neg (by rintro(h|h|h);exact a7 h;exact hC h;exact hA h),if_neg (by rintro⟨h,_⟩;omega)]
 by_cases hg:Nat.gcd (val 4294967296 A) (val 4294967296 C)=1
 ·rw [if_neg (by simp [hg]),if_neg (by rintro⟨_,_,h⟩;exact h hg)]
 ·rw [if_pos hg,if_pos];refine⟨?_,?_,hg⟩
  ·rintro rfl;exact hg (by simp [val])
  ·rintro rfl;exact hg (by simp [val])
theorem YH (neg:Bool) (a1 a2:Option Addr) (a5 a6 b2 b3 n:Nat) (A C:List Nat) (c4:A.length=a5) (c5:C.length=a6) (d2:a5<4611686018427387904) (d3:a6<4611686018427387904) (w:World) (hn:n≤w.heap.size) (h1:bV n w a1 A) (h2:bV n w a2 C):
  Calls Tryz.prog 255 #[.agg #[.bool neg,.slice a1 a5 b2,.slice a2 a6 b3]] w fun e w'=>e= .returned (.int .i64 (cP neg A C))∧Below w.heap.size w w':=by
 by_cases e0:128<a5
 ·have hv:cP neg A C=3:=by unfold cP;rw [if_pos (.inl (by omega))]
  rw [hv];have d0:(128:Int)<(a5:Int):=by omega
  go_enter Tryz.func255,Tryz.ntmps255;go_wp2
  go_ret
  exact⟨rfl,aC _ _⟩
 by_cases e1:128<a6
 ·have hv:cP neg A C=3:=by unfold cP;rw [if_pos (.inr (by omega))]
  rw [hv];have d0:¬(128:Int)<(a5:Int):=by omega
  have d4:(128:Int)<(a6:Int):=by omega
  go_enter Tryz.func255,Tryz.ntmps255;go_wp2
  go_ret
  exact⟨rfl,aC _ _⟩
 have d0:¬(128:Int)<(a5:Int):=by omega
 have d4:¬(128:Int)<(a6:Int):=by omega
 obtain⟨wb,hwb⟩:∃wb,w.alloc (Obj.cells #[.bool neg,.slice a1 a5 b2,.slice a2 a6 b3] 45)=wb:=⟨_,rfl⟩;have a8:Below w.heap.size w wb:=hwb▸aC _ _;have b4:=h1.below a8 hn;have b5:=h2.below a8 hn;have d5:n≤wb.heap.size:=aE hn a8.size;have b7:=MA a1 a5 b2 n A c4 d2 wb b4;have b6:=MA a2 a6 b3 n C c5 d3 wb b5;have b0:=zF a1 a5 b2 n A c4 wb b4;have b1:=zF a2 a6 b3 n C c5 wb b5;have a0:¬128<A.length:=by omega
 have a4:¬128<C.length:=by omega
 subst hwb
 by_cases hA:A.getLast?=some 0
 ·rw [DF a0 a4 (.inl hA)];rw [tJ hA] at b7;clear hA b0 b1 b6 b4 b5 a0 a4;go_enter Tryz.func255,Tryz.ntmps255
  go_wp2_with first|(go_at_call 298;with_reducible refine b7.mono ?_;rintro e w2 ⟨rfl,rfl⟩)|(go_at_call 298;with_reducible refine b6.mono ?_;rintro e w2 ⟨rfl,rfl⟩)
  go_ret
  exact⟨rfl,a8⟩
 rw [lV hA] at b7
 by_cases hC:C.getLast?=some 0
 ·rw [DF a0 a4 (.inr (.inl hC))];rw [tJ hC] at b6;clear hA hC b0 b1 b4 b5 a0 a4;go_enter Tryz.func255,Tryz.ntmps255
  go_wp2_with first|(go_at_call 298;with_reducible refine b7.mono ?_;rintro e w2 ⟨rfl,rfl⟩)|(go_at_call 298;with_reducible refine b6.mono ?_;rintro e w2 ⟨rfl,rfl⟩)
  go_ret
  exact⟨rfl,a8⟩
 rw [lV hC] at b6
 by_cases a7:C= []
 ·rw [DF a0 a4 (.inr (.inr a7))];have c6:a6=0:=by rw [←c5,a7];rfl
  subst c6;clear hA hC b0 b1 b4 b5 a0 a4 a7;go_enter Tryz.func255,Tryz.ntmps255
  go_wp2_with first|(go_at_call 298;with_reducible refine b7.mono ?_;rintro e w2 ⟨rfl,rfl⟩)|(go_at_call 298;with_reducible refine b6.mono ?_;rintro e w2 ⟨rfl,rfl⟩)
  go_ret
  exact⟨rfl,a8⟩
 have d9:((a6:Int)==0)=false:=by
  have:a6≠0:=fun h=>a7 (kZ.1 (by omega))
  simp;omega
 by_cases b8:A= []
 ·rw [XQ a0 a4 hA hC a7 h2.1 b8];have c6:a5=0:=by rw [←c4,b8];rfl
  subst c6
  by_cases d1:neg=true
  ·subst d1;rw [if_pos (.inl rfl)];clear hA hC b0 b1 b4 b5 a0 a4 a7 b8;go_enter Tryz.func255,Tryz.ntmps255
   go_wp2_with first|(go_at_call 298;with_reducible refine b7.mono ?_;rintro e w2 ⟨rfl,rfl⟩)|(go_at_call 298;with_reducible refine b6.mono ?_;rintro e w2 ⟨rfl,rfl⟩)
   go_ret
   exact⟨rfl,a8⟩
  ·obtain rfl:neg=false:=by simpa using d1
   by_cases a9:C= [1]
   ·rw [if_neg (by simp [a9])];rw [tJ a9] at b1;clear hA hC b0 b4 b5 a0 a4 a7 b8 a9;go_enter Tryz.func255,Tryz.ntmps255
    go_wp2_with first|(go_at_call 298;with_reducible refine b7.mono ?_;rintro e w2 ⟨rfl,rfl⟩)|(go_at_call 298;with_reducible refine b6.mono ?_;rintro e w2 ⟨rfl,rfl⟩)|(go_at_call 299;with_reducible refine b1.mono ?_;rintro e w2 ⟨rfl,rfl⟩)|(go_at_call 299;with_reducible refine b0.mono ?_;rintro e w2 ⟨rfl,rfl⟩)
    go_ret
    exact⟨rfl,a8⟩
   ·rw [if_pos (.inr a9)];rw [lV a9] at b1;clear hA hC b0 b4 b5 a0 a4 a7 b8 a9;go_enter Tryz.func255,Tryz.ntmps255
    go_wp2_with first|(go_at_call 298;with_reducible refine b7.mono ?_;rintro e w2 ⟨rfl,rfl⟩)|(go_at_call 298;with_reducible refine b6.mono ?_;rintro e w2 ⟨rfl,rfl⟩)|(go_at_call 299;with_reducible refine b1.mono ?_;rintro e w2 ⟨rfl,rfl⟩)|(go_at_call 299;with_reducible refine b0.mono ?_;rintro e w2 ⟨rfl,rfl⟩)
    go_ret
    exact⟨rfl,a8⟩
 have d7:((a5:Int)==0)=false:=by
  have:a5≠0:=fun h=>b8 (kZ.1 (by omega))
  simp;omega
 rw [XR a0 a4 hA hC a7 h1.1 h2.1 b8]
 by_cases a9:C= [1]
 ·rw [if_neg (by simp [a9])];rw [tJ a9] at b1;clear hA hC b0 b4 b5 a0 a4 a7 b8 a9;go_enter Tryz.func255,Tryz.ntmps255
  go_wp2_with first|(go_at_call 298;with_reducible refine b7.mono ?_;rintro e w2 ⟨rfl,rfl⟩)|(go_at_call 298;with_reducible refine b6.mono ?_;rintro e w2 ⟨rfl,rfl⟩)|(go_at_call 299;with_reducible refine b1.mono ?_;rintro e w2 ⟨rfl,rfl⟩)|(go_at_call 299;with_reducible refine b0.mono ?_;rintro e w2 ⟨rfl,rfl⟩)
  go_ret
  exact⟨rfl,a8⟩
 rw [lV a9] at b1
 by_cases b9:A= [1]
 ·rw [if_neg (by simp [b9])];rw [tJ b9] at b0;clear hA hC b4 b5 a0 a4 a7 b8 a9 b9;go_enter Tryz.func255,Tryz.ntmps255
  go_wp2_with first|(go_at_call 298;with_reducible refine b7.mono ?_;rintro e w2 ⟨rfl,rfl⟩)|(go_at_call 298;with_reducible refine b6.mono ?_;rintro e w2 ⟨rfl,rfl⟩)|(go_at_call 299;with_reducible refine b1.mono ?_;rintro e w2 ⟨rfl,rfl⟩)|(go_at_call 299;with_reducible refine b0.mono ?_;rintro e w2 ⟨rfl,rfl⟩)
  go_ret
  exact⟨rfl,a8⟩
 rw [lV b9] at b0;have c7:=val_lt h1.1;have c8:=val_lt h2.1;have c2:∀k,k≤128→(4294967296:Nat)^k≤4294967296^128:=fun k hk=>pM (by decide) hk
 obtain⟨M,hM⟩:∃M:Nat,M=128:=⟨_,rfl⟩;rw [←hM] at c2;have hg:=XW (.slice a1 a5 b2) (.slice a2 a6 b3) n (val 4294967296 A) (val 4294967296 C) M (by omega) (aZ c7 (c2 _ (by omega))) (aZ c8 (c2 _ (by omega))) _ d5 ⟨a1,A,b2,by rw [c4],b4,NoZ.of_last hA,rfl⟩ ⟨a2,C,b3,by rw [c5],b5,NoZ.of_last hC,rfl⟩
 by_cases c0:Nat.gcd (val 4294967296 A) (val 4294967296 C)=1
 ·rw [if_neg (by rintro⟨_,_,h⟩;exact h c0)];obtain⟨G,hG⟩:∃G,Nat.gcd (val 4294967296 A) (val 4294967296 C)=G:=⟨_,rfl⟩;rw [hG] at hg c0;clear hG c2 c7 c8 hM hA hC b4 b5 a0 a4 a7 b8 a9 b9;go_enter Tryz.func255,Tryz.ntmps255
  go_wp2_with first|(go_at_call 298;with_reducible refine b7.mono ?_;rintro e w2 ⟨rfl,rfl⟩)|(go_at_call 298;with_reducible refine b6.mono ?_;rintro e w2 ⟨rfl,rfl⟩)|(go_at_call 299;with_reducible refine b1.mono ?_;rintro e w2 ⟨rfl,rfl⟩)|(go_at_call 299;with_reducible refine b0.mono ?_;rintro e w2 ⟨rfl,rfl⟩)|(go_at_call 300;(with_reducible refine hg.mono ?_);rintro e w3 ⟨r,rfl,⟨a3,L3,c3,rfl,hL1,hL2,hL3⟩,hb3⟩;have c1:=zF a3 L3.length c3 w3.heap.size L3 rfl w3 hL1;(rw [tJ ((hL2.one_iff hL1.1).1 (hL3.trans c0))] at c1))|(go_at_call 299;with_reducible refine c1.mono ?_;rintro e w4 ⟨rfl,rfl⟩)
  go_ret
  exact⟨rfl,a8.trans (hb3.mono a8.size)⟩
 ·rw [if_pos ⟨a9,b9,c0⟩];obtain⟨G,hG⟩:∃G,Nat.gcd (val 4294967296 A) (val 4294967296 C)=G:=⟨_,rfl⟩;rw [hG] at hg c0;clear hG c2 c7 c8 hM hA hC b4 b5 a0 a4 a7 b8 a9 b9;go_enter Tryz.func255,Tryz.ntmps255
  go_wp2_with first|(go_at_call 298;with_reducible refine b7.mono ?_;rintro e w2 ⟨rfl,rfl⟩)|(go_at_call 298;with_reducible refine b6.mono ?_;rintro e w2 ⟨rfl,rfl⟩)|(go_at_call 299;with_reducible refine b1.mono ?_;rintro e w2 ⟨rfl,rfl⟩)|(go_at_call 299;with_reducible refine b0.mono ?_;rintro e w2 ⟨rfl,rfl⟩)|(go_at_call 300;(with_reducible refine hg.mono ?_);rintro e w3 ⟨r,rfl,⟨a3,L3,c3,rfl,hL1,hL2,hL3⟩,hb3⟩;have c1:=zF a3 L3.length c3 w3.heap.size L3 rfl w3 hL1;(rw [lV (fun h=>c0 (hL3.symm.trans ((hL2.one_iff hL1.1).2 h)))] at c1))|(go_at_call 299;with_reducible refine c1.mono ?_;rintro e w4 ⟨rfl,rfl⟩)
  go_ret
  exact⟨rfl,a8.trans (hb3.mono a8.size)⟩
def bY (g:Bool) (l1 l2:Nat):Bool:=!g&&decide (l1+l2=0)
def bS (k v:Int) (sz:Nat) (g:Bool) (num den:List Nat) (len:Nat):Prop:=
 (k=1∧0≤v∧v≤1073741824∧sz=0∧bY g num.length den.length=true∧len=0)∨
 (k=2∧v=0∧sz=0∧len=0∧cP g num den=0)∨
 (k=3∧v=0∧bY g num.length den.length=true∧len=0)∨
 (k=4∧v=0∧bY g num.length den.length=true∧len=0)∨
 (k=5∧v=0∧bY g num.length den.length=true∧1≤len∧len≤32)
def kP (k:Int):Nat:=if k=4 then 4000 else if k=3∨k=5 then 255 else 0
open Classical in
def bK (k v:Int) (sz:Nat) (g:Bool) (num den:List Nat) (len:Nat):Int:=
 if bS k v sz g num den len then(if kP k<sz then 3 else 0) else 2
theorem dX:b.toList= []↔b.size=0:=by
 rw [lD];constructor
 ·intro h;have:b.data.toList.length=0:=by rw [h];rfl
  simpa using this
 ·intro h;exact lB (by simpa using h)
theorem re3a (hN:Aside (bY g num.length den.length=nn)) (h1:v=0) (h2:nn=true) (h3:(!((len:Int)==0))=true):bK 3 v nm.size g num den len=2:=by
 refine if_neg ?_;have a0:=hN.out;unfold bS;simp only [a0]
 try simp only [dX] at*
 simp at*
 try omega
 try grind
theorem re3b (hN:Aside (bY g num.length den.length=nn)) (h1:v=0) (h2:nn=true) (h3:(!((len:Int)==0))=false) (h4:(255:Int)<(nm.size:Int)):bK 3 v nm.size g num den len=3:=by
 have a0:=hN.out;unfold bK
 try simp only [dX] at*
 simp at*;rw [if_pos,if_pos]
 ·unfold kP;simp;omega
 ·unfold bS;simp only [a0];simp;try omega
  try grind
theorem re3c (hN:Aside (bY g num.length den.length=nn)) (h1:v=0) (h2:nn=true) (h3:(!((len:Int)==0))=false) (h4:(nm.size:Int)≤255):bK 3 v nm.size g num den len=0:=by
 have a0:=hN.out;unfold bK
 try simp only [dX] at*
 simp at*;rw [if_pos,if_neg]
 ·unfold kP;simp;omega
 ·unfold bS;simp only [a0];simp;try omega
  try grind
theorem re3d (hN:Aside (bY g num.length den.length=nn)) (h1:v=0) (h2:¬nn=true):bK 3 v nm.size g num den len=2:=by
 refine if_neg ?_;have a0:=hN.out;unfold bS;simp only [a0]
 try simp only [dX] at*
 simp at*
 try omega
 try grind
theorem re3e (hN:Aside (bY g num.length den.length=nn)) (h1:¬v=0):bK 3 v nm.size g num den len=2:=by
 refine if_neg ?_;have a0:=hN.out;unfold bS;simp only [a0]
 try simp only [dX] at*
 simp at*
 try omega
 try grind
theorem re4a (hN:Aside (bY g num.length den.length=nn)) (h1:v=0) (h2:nn=true) (h3:(!((len:Int)==0))=true):bK 4 v nm.size g num den len=2:=by
 refine if_neg ?_;have a0:=hN.out;unfold bS;simp only [a0]
 try simp only [dX] at*
 simp at*
 try omega
 try grind
theorem re4b (hN:Aside (bY g num.length den.length=nn)) (h1:v=0) (h2:nn=true) (h3:(!((len:Int)==0))=false) (h4:(4000:Int)<(nm.size:Int)):bK 4 v nm.size g num den len=3:=by
 have a0:=hN.out;unfold bK
 try simp only [dX] at*
 simp at*;rw [if_pos,if_pos]
 ·unfold kP;simp;omega
 ·unfold bS;simp only [a0];simp;try omega
  try grind
theorem re4c (hN:Aside (bY g num.length den.length=nn)) (h1:v=0) (h2:nn=true) (h3:(!((len:Int)==0))=false) (h4:(nm.size:Int)≤4000):bK 4 v nm.size g num den len=0:=by
 have a0:=hN.out;unfold bK
 try simp only [dX] at*
 simp at*;rw [if_pos,if_neg]
 ·unfold kP;simp;omega
 ·unfold bS;simp only [a0];simp;try omega
  try grind
theorem re4d (hN:Aside (bY g num.length den.length=nn)) (h1:v=0) (h2:¬nn=true):bK 4 v nm.size g num den len=2:=by
 refine if_neg ?_;have a0:=hN.out;unfold bS;simp only [a0]
 try simp only [dX] at*
 simp at*
 try omega
 try grind
theorem re4e (hN:Aside (bY g num.length den.length=nn)) (h1:¬v=0):bK 4 v nm.size g num den len=2:=by
 refine if_neg ?_;have a0:=hN.out;unfold bS;simp only [a0]
 try simp only [dX] at*
 simp at*
 try omega
 try grind
theorem re5a (hN:Aside (bY g num.length den.length=nn)) (h1:v=0) (h2:nn=true) (h3:(1:Int)≤(len:Int)) (h4:(!decide ((len:Int)≤32))=true):bK 5 v nm.size g num den len=2:=by
 refine if_neg ?_;have a0:=hN.out;unfold bS;simp only [a0]
 try simp only [dX] at*
 simp at*
 try omega
 try grind
theorem re5b (hN:Aside (bY g num.length den.length=nn)) (h1:v=0) (h2:nn=true) (h3:(1:Int)≤(len:Int)) (h4:(!decide ((len:Int)≤32))=false) (h5:(255:Int)<(nm.size:Int)):bK 5 v nm.size g num den len=3:=by
 have a0:=hN.out;unfold bK
 try simp only [dX] at*
 simp at*;rw [if_pos,if_pos]
 ·unfold kP;simp;omega
 ·unfold bS;simp only [a0];simp;try omega
  try grind
theorem re5c (hN:Aside (bY g num.length den.length=nn)) (h1:v=0) (h2:nn=true) (h3:(1:Int)≤(len:Int)) (h4:(!decide ((len:Int)≤32))=false) (h5:(nm.size:Int)≤255):bK 5 v nm.size g num den len=0:=by
 have a0:=hN.out;unfold bK
 try simp only [dX] at*
 simp at*;rw [if_pos,if_neg]
 ·unfold kP;simp;omega
 ·unfold bS;simp only [a0];simp;try omega
  try grind
theorem re5d (hN:Aside (bY g num.length den.length=nn)) (h1:v=0) (h2:nn=true) (h3:(len:Int)<1):bK 5 v nm.size g num den len=2:=by
 refine if_neg ?_;have a0:=hN.out;unfold bS;simp only [a0]
 try simp only [dX] at*
 simp at*
 try omega
 try grind
theorem re5e (hN:Aside (bY g num.length den.length=nn)) (h1:v=0) (h2:¬nn=true):bK 5 v nm.size g num den len=2:=by
 refine if_neg ?_;have a0:=hN.out;unfold bS;simp only [a0]
 try simp only [dX] at*
 simp at*
 try omega
 try grind
theorem re5f (hN:Aside (bY g num.length den.length=nn)) (h1:¬v=0):bK 5 v nm.size g num den len=2:=by
 refine if_neg ?_;have a0:=hN.out;unfold bS;simp only [a0]
 try simp only [dX] at*
 simp at*
 try omega
 try grind
theorem re1a (hN:Aside (bY g num.length den.length=nn)) (h1:0≤v) (h2:v≤1073741824) (h3:nm.toList= []) (h4:nn=true) (h5:(!((len:Int)==0))=true):bK 1 v nm.size g num den len=2:=by
 refine if_neg ?_;have a0:=hN.out;unfold bS;simp only [a0]
 try simp only [dX] at*
 simp at*
 try omega
 try grind
theorem re1c (hN:Aside (bY g num.length den.length=nn)) (h1:0≤v) (h2:v≤1073741824) (h3:nm.toList= []) (h4:nn=true) (h5:(!((len:Int)==0))=false) (h6:¬0<nm.size):bK 1 v nm.size g num den len=0:=by
 have a0:=hN.out;unfold bK
 try simp only [dX] at*
 simp at*;rw [if_pos,if_neg]
 ·unfold kP;simp;omega
 ·unfold bS;simp only [a0];simp;try omega
  try grind
theorem re1d (hN:Aside (bY g num.length den.length=nn)) (h1:0≤v) (h2:v≤1073741824) (h3:nm.toList= []) (h4:¬nn=true):bK 1 v nm.size g num den len=2:=by
 refine if_neg ?_;have a0:=hN.out;unfold bS;simp only [a0]
 try simp only [dX] at*
 simp at*
 try omega
 try grind
theorem re1e (hN:Aside (bY g num.length den.length=nn)) (h1:0≤v) (h2:v≤1073741824) (h3:¬nm.toList= []):bK 1 v nm.size g num den len=2:=by
 refine if_neg ?_;have a0:=hN.out;unfold bS;simp only [a0]
 try simp only [dX] at*
 simp at*
 try omega
 try grind
theorem re1f (hN:Aside (bY g num.length den.length=nn)) (h1:1073741824<v):bK 1 v nm.size g num den len=2:=by
 refine if_neg ?_;have a0:=hN.out;unfold bS;simp only [a0]
 try simp only [dX] at*
 simp at*
 try omega
 try grind
theorem re1g (hN:Aside (bY g num.length den.length=nn)) (h1:v<0):bK 1 v nm.size g num den len=2:=by
 refine if_neg ?_;have a0:=hN.out;unfold bS;simp only [a0]
 try simp only [dX] at*
 simp at*
 try omega
 try grind
theorem re2a (hN:Aside (bY g num.length den.length=nn)) (h1:v=0) (h2:nm.toList= []) (h3:len=0) (h4:cP g num den=0):bK 2 v nm.size g num den len=0:=by
 have a0:=hN.out;unfold bK
 try simp only [dX] at*
 simp at*;rw [if_pos,if_neg]
 ·unfold kP;simp;omega
 ·unfold bS;simp only [a0];simp;try omega
  try grind
theorem re2b (hN:Aside (bY g num.length den.length=nn)) (h1:¬cP g num den=0):bK 2 v nm.size g num den len=2:=by
 refine if_neg ?_;have a0:=hN.out;unfold bS;simp only [a0]
 try simp only [dX] at*
 simp at*
 try omega
 try grind
theorem re2c (hN:Aside (bY g num.length den.length=nn)) (h1:¬len=0):bK 2 v nm.size g num den len=2:=by
 refine if_neg ?_;have a0:=hN.out;unfold bS;simp only [a0]
 try simp only [dX] at*
 simp at*
 try omega
 try grind
theorem re2d (hN:Aside (bY g num.length den.length=nn)) (h1:¬nm.toList= []):bK 2 v nm.size g num den len=2:=by
 refine if_neg ?_;have a0:=hN.out;unfold bS;simp only [a0]
 try simp only [dX] at*
 simp at*
 try omega
 try grind
theorem re2e (hN:Aside (bY g num.length den.length=nn)) (h1:¬v=0):bK 2 v nm.size g num den len=2:=by
 refine if_neg ?_;have a0:=hN.out;unfold bS;simp only [a0]
 try simp only [dX] at*
 simp at*
 try omega
 try grind
theorem XV (k v:Int) (nm:ByteArray) (g:Bool) (p1 p2 a:Option Addr) (l1 l2 len q1 q2 c n:Nat) (num den:List Nat) (a9:num.length=l1) (b0:den.length=l2) (b7:l1≤1048576) (b8:l2≤1048576) (hb:len≤1048576) (w:World) (hn:n≤w.heap.size) (h1:bV n w p1 num) (h2:bV n w p2 den):
  Calls Tryz.prog 210 #[.agg #[.int .i64 k,.int .i64 v,.string nm,.bool g,.slice p1 l1 q1,.slice p2 l2 q2,.slice a len c]] w fun e w'=>e= .returned (.int .i64 (bK k v nm.size g num den len))∧Below w.heap.size w w':=by
 have a2:=fun w2 (a1:Below w.heap.size w w2)=>YH g p1 p2 l1 l2 q1 q2 n num den a9 b0 (by omega) (by omega) w2 (aE hn a1.size) (h1.below a1 hn) (h2.below a1 hn)
 obtain⟨nn,hnn⟩:∃nn,bY g l1 l2=nn:=⟨_,rfl⟩;have hN:Aside (bY g num.length den.length=nn):=by rw [a9,b0];exact hnn
 go_enter Tryz.func210,Tryz.ntmps210
 go_upto_region 1 with fail
 go_cut [3] from 6 to 21 (fun s3 wx=>s3= .bool nn∧wx=w.alloc (Obj.cells #[.int .i64 k,.int .i64 v,.string nm,.bool g,.slice p1 l1 q1,.slice p2 l2 q2,.slice a len c] 48))
 case first=>
  have c2:IntKind.i64.wrap ((l1:Int)+(l2:Int))=(l1:Int)+(l2:Int):=by rw [aG];omega
  cases g with
  |true=>
   obtain rfl:nn=false:=by rw [←hnn];rfl
   clear a2 hnn
   go_wp2_with fail
   go_meet
   exact⟨rfl,rfl⟩
  | false=>
   by_cases h0:l1+l2=0
   ·obtain rfl:nn=true:=by rw [←hnn];simp only [bY,h0];rfl
    have hz:((l1:Int)+(l2:Int)==0)=true:=by simp;omega
    clear a2 hnn h0
    go_wp2_with fail
    go_meet
    exact⟨rfl,rfl⟩
   ·obtain rfl:nn=false:=by rw [←hnn];simp only [bY,h0];rfl
    have hz:((l1:Int)+(l2:Int)==0)=false:=by simp;omega
    clear a2 hnn h0
    go_wp2_with fail
    go_meet
    exact⟨rfl,rfl⟩
 case rest=>
  obtain⟨rfl,rfl⟩:=hcut;clear hnn
  by_cases a3:k=1
  ·subst a3
   go_wp2_with fail
   all_goals go_ret
   all_goals first|(rw [re1a hN (by assumption) (by assumption) (by assumption) (by assumption) (by assumption)];exact⟨rfl,aC _ _⟩)|(rw [re1c hN (by assumption) (by assumption) (by assumption) (by assumption) (by assumption) (by assumption)];exact⟨rfl,aC _ _⟩)|(rw [re1d hN (by assumption) (by assumption) (by assumption) (by assumption)];exact⟨rfl,aC _ _⟩)|(rw [re1e hN (by assumption) (by assumption) (by assumption)];exact⟨rfl,aC _ _⟩)|(rw [re1f hN (by assumption)];exact⟨rfl,aC _ _⟩)|(rw [re1g hN (by assumption)];exact⟨rfl,aC _ _⟩)|(exfalso;have e1:=dX.1 (show nm.toList= [] from (by assumption));have e2:0<nm.size:=(by assumption);omega)
  have b1:(k==1)=false:=by simpa using a3
  by_cases a4:k=2
  ·subst a4
   by_cases hv:v=0
   ·subst hv
    by_cases a8:nm.toList= []
    ·by_cases hl:len=0
     ·subst hl
      by_cases hF:cP g num den=0
      ·have hr:Aside (bK 2 0 nm.size g num den 0=0):=re2a hN rfl a8 rfl hF;rw [hF] at a2;have c0:¬0<nm.size:=by rw [dX.1 a8];omega
       have hq:=heap_alloc_new w (Obj.cells #[.int .i64 2,.int .i64 0,.string nm,.bool g,.slice p1 l1 q1,.slice p2 l2 q2,.slice a 0 c] 48);clear hF
       go_wp2_with first|(go_at_call 255;(with_reducible refine(a2 _ (aC w _)).mono ?_);rintro e w3 ⟨rfl,hb3⟩;have x2:=(cY ((hb3.block w.heap.size (by simp)).trans hq)).2.2.1)
       go_ret
       rw [hr.out];exact⟨rfl,(aC _ _).trans (hb3.mono (by simp))⟩
      ·have hr:Aside (bK 2 0 nm.size g num den 0=2):=re2b hN hF;have b6:(cP g num den==0)=false:=by simpa using hF
       clear hF
       go_wp2_with first|(go_at_call 255;(with_reducible refine(a2 _ (aC w _)).mono ?_);rintro e w3 ⟨rfl,hb3⟩)
       go_ret
       rw [hr.out];exact⟨rfl,(aC _ _).trans (hb3.mono (by simp))⟩
     ·have hr:Aside (bK 2 0 nm.size g num den len=2):=re2c hN hl;have b9:((len:Int)==0)=false:=by simp;omega
      clear hl
      go_wp2_with fail
      go_ret
      rw [hr.out];exact⟨rfl,aC _ _⟩
    ·have hr:Aside (bK 2 0 nm.size g num den len=2):=re2d hN a8
     go_wp2_with fail
     go_ret
     rw [hr.out];exact⟨rfl,aC _ _⟩
   ·have hr:Aside (bK 2 v nm.size g num den len=2):=re2e hN hv;have c1:(v==0)=false:=by simpa using hv
    go_wp2_with fail
    go_ret
    rw [hr.out];exact⟨rfl,aC _ _⟩
  have b2:(k==2)=false:=by simpa using a4
  by_cases a5:k=3
  ·subst a5
   go_wp2_with fail
   all_goals go_ret
   all_goals first|(rw [re3a hN (by assumption) (by assumption) (by assumption)];exact⟨rfl,aC _ _⟩)|(rw [re3b hN (by assumption) (by assumption) (by assumption) (by assumption)];exact⟨rfl,aC _ _⟩)|(rw [re3c hN (by assumption) (by assumption) (by assumption) (by assumption)];exact⟨rfl,aC _ _⟩)|(rw [re3d hN (by assumption) (by assumption)];exact⟨rfl,aC _ _⟩)|(rw [re3e hN (by assumption)];exact⟨rfl,aC _ _⟩)|(rw [re3a (v:=0) hN rfl (by assumption) (by assumption)];exact⟨rfl,aC _ _⟩)|(rw [re3b (v:=0) hN rfl (by assumption) (by assumption) (by assumption)];exact⟨rfl,aC _ _⟩)|(rw [re3c (v:=0) hN rfl (by assumption) (by assumption) (by assumption)];exact⟨rfl,aC _ _⟩)|(rw [re3d (v:=0) hN rfl (by assumption)];exact⟨rfl,aC _ _⟩)
  have b3:(k==3)=false:=by simpa using a5
  by_cases a6:k=4
  ·subst a6
   go_wp2_with fail
   all_goals go_ret
   all_goals first|(rw [re4a hN (by assumption) (by assumption) (by assumption)];exact⟨rfl,aC _ _⟩)|(rw [re4b hN (by assumption) (by assumption) (by assumption) (by assumption)];exact⟨rfl,aC _ _⟩)|(rw [re4c hN (by assumption) (by assumption) (by assumption) (by assumption)];exact⟨rfl,aC _ _⟩)|(rw [re4d hN (by assumption) (by assumption)];exact⟨rfl,aC _ _⟩)|(rw [re4e hN (by assumption)];exact⟨rfl,aC _ _⟩)|(rw [re4a (v:=0) hN rfl (by assumption) (by assumption)];exact⟨rfl,aC _ _⟩)|(rw [re4b (v:=0) hN rfl (by assumption) (by assumption) (by assumption)];exact⟨rfl,aC _ _⟩)|(rw [re4c (v:=0) hN rfl (by assumption) (by assumption) (by assumption)];exact⟨rfl,aC _ _⟩)|(rw [re4d (v:=0) hN rfl (by assumption)];exact⟨rfl,aC _ _⟩)
  have b4:(k==4)=false:=by simpa using a6
  by_cases a7:k=5
  ·subst a7
   go_wp2_with fail
   all_goals go_ret
   all_goals first|(rw [re5a hN (by assumption) (by assumption) (by assumption) (by assumption)];exact⟨rfl,aC _ _⟩)|(rw [re5b hN (by assumption) (by assumption) (by assumption) (by assumption) (by assumption)];exact⟨rfl,aC _ _⟩)|(rw [re5c hN (by assumption) (by assumption) (by assumption) (by assumption) (by assumption)];exact⟨rfl,aC _ _⟩)|(rw [re5d hN (by assumption) (by assumption) (by assumption)];exact⟨rfl,aC _ _⟩)|(rw [re5e hN (by assumption) (by assumption)];exact⟨rfl,aC _ _⟩)|(rw [re5f hN (by assumption)];exact⟨rfl,aC _ _⟩)|(rw [re5a (v:=0) hN rfl (by assumption) (by assumption) (by assumption)];exact⟨rfl,aC _ _⟩)|(rw [re5b (v:=0) hN rfl (by assumption) (by assumption) (by assumption) (by assumption)];exact⟨rfl,aC _ _⟩)|(rw [re5c (v:=0) hN rfl (by assumption) (by assumption) (by assumption) (by assumption)];exact⟨rfl,aC _ _⟩)|(rw [re5d (v:=0) hN rfl (by assumption) (by assumption)];exact⟨rfl,aC _ _⟩)|(rw [re5e (v:=0) hN rfl (by assumption)];exact⟨rfl,aC _ _⟩)
  have b5:(k==5)=false:=by simpa using a7
  go_wp2_with fail
  go_ret
  rw [show bK k v nm.size g num den len=2 from if_neg (by rintro(h|h|h|h|h);exact a3 h.1;exact a4 h.1;exact a5 h.1;exact a6 h.1;exact a7 h.1)];exact⟨rfl,aC _ _⟩
mutual
def Tm.errE:Tm→Int
 | .mk k v nm g num den args=>if bK k v nm.size g num den args.length≠0 then bK k v nm.size g num den args.length else Tm.errL args
def Tm.errL:List Tm→Int
 | []=>0
 |T::r=>if Tm.errE T≠0 then Tm.errE T else Tm.errL r
end
theorem EN:∀{L:List Tm} {i:Nat} {T:Tm},L[i]?=some T→Tm.errL (L.take i)=0→Tm.errE T=0→Tm.errL (L.take (i+1))=0
 | [],_,_,h,_,_=>by simp at h
 |T0::r,0,T,h,_,h2=>by
  simp at h;subst h;simp [Tm.errL,h2]
 | T0::r,i+1,T,h,h1,h2=>by
  simp only [bB,Tm.errL] at h1 ⊢
  by_cases h0:T0.errE=0
  ·rw [if_neg (by simp [h0])] at h1 ⊢;exact EN (by simpa using h) h1 h2
  ·rw [if_pos h0] at h1;exact absurd h1 h0
theorem EO:∀{L:List Tm} {i:Nat} {T:Tm},L[i]?=some T→Tm.errL (L.take i)=0→Tm.errE T≠0→Tm.errL L=Tm.errE T
 | [],_,_,h,_,_=>by simp at h
 |T0::r,0,T,h,_,h2=>by
  simp at h;subst h;simp [Tm.errL,h2]
 | T0::r,i+1,T,h,h1,h2=>by
  simp only [bB,Tm.errL] at h1 ⊢
  by_cases h0:T0.errE=0
  ·rw [if_neg (by simp [h0])] at h1 ⊢;exact EO (by simpa using h) h1 h2
  ·rw [if_pos h0] at h1;exact absurd h1 h0
def NodesOk (T:Tm):Prop:=∀(n:Nat) (w:World) (vs:List Value),TmV n w T vs→n≤w.heap.size→
  Calls Tryz.prog 153 #[.agg vs.toArray] w fun e w'=>e= .returned (.int .i64 T.errE)∧Below w.heap.size w w'
theorem XU (k v:Int) (nm:ByteArray) (g:Bool) (num den:List Nat) (args:List Tm) (ih:∀T'∈args,NodesOk T'):NodesOk (.mk k v nm g num den args):=by
 intro n w vs h hn;simp only [TmV] at h;obtain⟨s1,s2,a,c,rfl,⟨⟨p1,q1,rfl,hA⟩,⟨p2,q2,rfl,hC⟩⟩,h2,hbig,hbA,hbC⟩:=h;obtain⟨E,hE⟩:∃E,bK k v nm.size g num den args.length=E:=⟨_,rfl⟩;obtain⟨F,hF⟩:∃F,Tm.errE (.mk k v nm g num den args)=F:=⟨_,rfl⟩;have a9:Aside (F=if E≠0 then E else Tm.errL args):=by
  show F=_;rw [←hF,←hE];simp only [Tm.errE]
 rw [hF];obtain⟨len,hl⟩:∃len,args.length=len:=⟨_,rfl⟩;obtain⟨l1,hl1⟩:∃l1,num.length=l1:=⟨_,rfl⟩;obtain⟨l2,hl2⟩:∃l2,den.length=l2:=⟨_,rfl⟩;rw [hl] at hbig hE ⊢;rw [hl1] at hbA ⊢;rw [hl2] at hbC ⊢;show Calls Tryz.prog 153 #[.agg #[.int .i64 k,.int .i64 v,.string nm,.bool g,.slice p1 l1 q1,.slice p2 l2 q2,.slice a len c]] w _;have a6:=aC w (Obj.cells #[.int .i64 k,.int .i64 v,.string nm,.bool g,.slice p1 l1 q1,.slice p2 l2 q2,.slice a len c] 48);have hq:=heap_alloc_new w (Obj.cells #[.int .i64 k,.int .i64 v,.string nm,.bool g,.slice p1 l1 q1,.slice p2 l2 q2,.slice a len c] 48);have b3:=XV k v nm g p1 p2 a l1 l2 len q1 q2 c n num den hl1 hl2 hbA hbC hbig _ (aE hn a6.size) (hA.below a6 hn) (hC.below a6 hn);rw [hE] at b3;have Al:=aside hl;clear hE hl hl1 hl2 hA hC hF;go_enter Tryz.func153,Tryz.ntmps153
 go_upto_region 2 with first|(go_at_call 210;(with_reducible refine b3.mono ?_);rintro e w1 ⟨rfl,hb1⟩)
 have b4:=a6.trans (hb1.mono a6.size);have c1:=cY ((hb1.block w.heap.size (by simp)).trans hq);obtain⟨y0,y1,y2,y3,y4,y5,y6⟩:=c1;clear b3 hq y0 y1 y2 y3 y4 y5
 by_cases a8:E=0
 ·subst a8;have b5:Aside (F=Tm.errL args):=by show F=_;rw [a9.out];simp
  clear a9
  go_wp2_with fail
  go_loopw [15] (fun c3 wr=>∃i:Nat,c3= .int .i64 i∧i≤len∧Aside (Tm.errL (args.take i)=0)∧Below w.heap.size w wr) (fun s _=>len-(intOf s).toNat)
  case atStart=>exact⟨0,rfl,aT _,by simp [Tm.errL,Aside],b4⟩
  case round=>
   obtain⟨i,rfl,hi,hex,hB⟩:=hrel
   by_cases b2:i<len
   ·obtain⟨T',a4⟩:∃T',args[i]?=some T':=⟨args[i]'(by rw [Al.out];exact b2),aL _⟩;obtain⟨b,off,vs',rfl,hbn,hc,hv⟩:=h2.get a4;have b7:=hv;obtain⟨G,hG⟩:∃G,T'.errE=G:=⟨_,rfl⟩;have b1:Aside ((G=0→Tm.errL (args.take (i+1))=0)∧(G≠0→F=G)):=⟨fun h=>EN a4 hex.out (hG.trans h),fun h=>by rw [b5.out,EO a4 hex.out (by rw [hG];exact h),hG]⟩;have a7:=aX a4;obtain⟨k',v',nm',g',a2,a1,a0⟩:=T';simp only [TmV] at hv;obtain⟨t1,t2,a',c',rfl,⟨⟨p1',q1',rfl,_⟩,⟨p2',q2',rfl,_⟩⟩,_⟩:=hv;have a3:∀p:Addr,p.block<n→wr.cell? p=w.cell? p:=fun p hp=>(hB.mono hn).cell hp
    rw [cG] at hc;have x0:=(a3 ⟨b,off+i*7+0,none⟩ hbn).trans (hc 0 _ rfl);have x1:=(a3 ⟨b,off+i*7+1,none⟩ hbn).trans (hc 1 _ rfl);have x2:=(a3 ⟨b,off+i*7+2,none⟩ hbn).trans (hc 2 _ rfl);have x3:=(a3 ⟨b,off+i*7+3,none⟩ hbn).trans (hc 3 _ rfl);have x4:=(a3 ⟨b,off+i*7+4,none⟩ hbn).trans (hc 4 _ rfl);have x5:=(a3 ⟨b,off+i*7+5,none⟩ hbn).trans (hc 5 _ rfl);have x6:=(a3 ⟨b,off+i*7+6,none⟩ hbn).trans (hc 6 _ rfl);rw [fP] at x0;have c6:(i:Int)<(len:Int):=by omega
    have c7:(0:Int)≤(i:Int):=by omega
    have c8:IntKind.i64.wrap ((i:Int)+1)=(i:Int)+1:=by rw [aG];omega
    have a5:Below w.heap.size w (wr.alloc (Obj.cells #[.int .i64 k',.int .i64 v',.string nm',.bool g',.slice p1' a2.length q1',.slice p2' a1.length q2',.slice a' a0.length c'] 48)):=hB.alloc hB.size _;have d1:=ih _ a7 n (wr.alloc (Obj.cells #[.int .i64 k',.int .i64 v',.string nm',.bool g',.slice p1' a2.length q1',.slice p2' a1.length q2',.slice a' a0.length c'] 48)) _ (TmV.below a5 hn _ _ b7) (aE hn a5.size);rw [hG] at d1;replace d1:Calls Tryz.prog 153 #[.agg #[.int .i64 k',.int .i64 v',.string nm',.bool g',.slice p1' a2.length q1',.slice p2' a1.length q2',.slice a' a0.length c']] _ _:=d1;have b6:=aside b2;generalize a0.length=len' at*;generalize a2.length=ln1 at*;generalize a1.length=ln2 at*;clear h2 ih hc b7 a4 a3 hG a7 hex b2
    by_cases b0:G=0
    ·subst b0;have c2:Aside (Tm.errL (args.take (i+1))=0):=b1.out.1 rfl;clear b1
     go_wp2_with first|(go_at_call 153;(with_reducible refine d1.mono ?_);rintro e w3 ⟨rfl,hb3⟩)
     exact⟨⟨i+1,by simp,by have:=b6.out;omega,c2,a5.trans (hb3.mono a5.size)⟩,by have:=b6.out;simp [intOf];omega⟩
    ·have c5:(G==0)=false:=by simpa using b0
     have b9:Aside (F=G):=b1.out.2 b0;clear b0 b1
     go_wp2_with first|(go_at_call 153;(with_reducible refine d1.mono ?_);rintro e w3 ⟨rfl,hb3⟩)
     go_ret
     rw [b9.out];exact⟨rfl,a5.trans (hb3.mono a5.size)⟩
   ·obtain rfl:i=len:=by omega
    have c0:Aside (F=0):=by show F=0;rw [b5.out,←hex.out,←Al.out,gA]
    clear h2 ih hex
    go_wp2_with fail
    go_ret
    rw [c0.out];exact⟨rfl,hB⟩
 ·have c4:(E==0)=false:=by simpa using a8
  have b8:Aside (F=E):=by show F=E;rw [a9.out,if_pos a8]
  clear a8 a9
  go_wp2_with fail
  go_ret
  rw [b8.out];exact⟨rfl,b4⟩
theorem KY:∀T:Tm,NodesOk T
 | .mk k v nm g num den args=>XU k v nm g num den args fun T' a4=>KY T'
termination_by T=>SizeOf.sizeOf T
decreasing_by
 simp_wf
 have:=oE a4;omega
end
end Go.Proofs.YtbdpdeonapmlgaaGreatDoor
namespace Go.Proofs.YtbdpdeonapmlgaaGreatDoor
theorem CH {k v:Int} {sz:Nat} {g:Bool} {num den:List Nat} {len:Nat} (h:bK k v sz g num den len=0):bS k v sz g num den len∧sz≤kP k:=by
 unfold bK at h;split at h
 ·rename_i h1;refine⟨h1,?_⟩;split at h
  ·cases h
  ·omega
 ·cases h
theorem yI {g:Bool} {num den:List Nat} (h:bY g num.length den.length=true):g=false∧num= []∧den= []:=by
 unfold bY at h;simp only [aM,BK,eO] at h;exact⟨h.1,kZ.1 (by omega),kZ.1 (by omega)⟩
theorem pE {k v:Int} {nm:ByteArray} {g:Bool} {num den:List Nat} {args:List Tm} (h:Tm.errE (.mk k v nm g num den args)=0):bK k v nm.size g num den args.length=0∧Tm.errL args=0:=by
 simp only [Tm.errE] at h
 by_cases h0:bK k v nm.size g num den args.length=0
 ·rw [if_neg (by simp [h0])] at h;exact⟨h0,h⟩
 ·rw [if_pos h0] at h;exact absurd h h0
theorem mK {T:Tm} {r:List Tm} (h:Tm.errL (T::r)=0):T.errE=0∧Tm.errL r=0:=by
 simp only [Tm.errL] at h
 by_cases h0:T.errE=0
 ·rw [if_neg (by simp [h0])] at h;exact⟨h0,h⟩
 ·rw [if_pos h0] at h;exact absurd h h0
mutual
theorem zX:∀T:Tm,T.errE=0→T.vd
 | .mk k v nm g num den args,h=>by
  obtain⟨h1,h2⟩:=pE h;have h3:=(CH h1).1;simp only [Tm.vd];refine⟨fun hk=>kZ.1 ?_,fun hk=>?_,fun hk=>?_,NY args h2⟩
  ·unfold bS at h3;omega
  ·unfold bS at h3;omega
  ·unfold bS at h3;rcases h3 with h|h|h|h|h
   ·exact yI h.2.2.2.2.1
   ·exact absurd h.1 hk
   ·exact yI h.2.2.1
   ·exact yI h.2.2.1
   ·exact yI h.2.2.1
theorem NY:∀L:List Tm,Tm.errL L=0→Tm.vdL L
 | [],_=>by simp only [Tm.vdL]
 |T::r,h=>by
  obtain⟨h1,h2⟩:=mK h;simp only [Tm.vdL];exact⟨zX T h1,NY r h2⟩
end
end Go.Proofs.YtbdpdeonapmlgaaGreatDoor
