/- Lemmas; no condition. -/
import Derived.Test.YtealgacfnbbgdaaGreatDoorAg
set_option linter.all false
set_option maxHeartbeats 4000000
set_option maxRecDepth 100000
namespace Go.Proofs.YtealgacfnbbgdaaGreatDoor
open Go.RowKit Go.Big
noncomputable section
variable {nm b:ByteArray} {den num L A C:List Nat} {len:Nat} {v:Int} {g nn neg:Bool}
def EI (a:Option Addr) (len cap n:Nat) (L:List Nat) (hl:L.length=len) (w:Wo) (h1:dL n w a L):Cz 275 #[.slice a len cap] w fun e w'=>e= .returned (.bool (decide (L= [1])))∧w'=w:=by
 by_cases h:len=1
 ·subst h;obtain⟨x,rfl⟩:∃x,L= [x]:=by
   match L,hl with
   | [x],_=>exact⟨x,rfl⟩
  obtain⟨b,off,rfl,hb,hx,hc⟩:=h1.get (k:=0) rfl;have a4:w.cell? ⟨b,off,none⟩=some (.int .u32 x):=by simpa using hc
  clear hc hl
  by_cases a2:x=1
  ·subst a2;go_enter Tryz.func275,Tryz.ntmps275
   go_wp2_with fail
   go_ret
   exact⟨rfl,rfl⟩
  ·have a3:((x:Int)==1)=false:=by simp;omega
   have hd:decide ([x]= [1])=false:=by simp [a2]
   rw [hd];go_enter Tryz.func275,Tryz.ntmps275
   go_wp2_with fail
   go_ret
   exact⟨rfl,rfl⟩
 ·have a8:((len:Int)==1)=false:=by simp;omega
  have hd:decide (L= [1])=false:=by
   rw [Ql];rintro rfl;exact h hl.symm
  rw [hd];go_enter Tryz.func275,Tryz.ntmps275
  go_wp2_with fail
  go_ret
  exact⟨rfl,rfl⟩
def TQ (a:Option Addr) (len cap n:Nat) (L:List Nat) (hl:L.length=len) (hb:len<4611686018427387904) (w:Wo) (h1:dL n w a L):Cz 274 #[.slice a len cap] w fun e w'=>e= .returned (.bool (decide (L.getLast?=some 0)))∧w'=w:=by
 by_cases h:len=0
 ·subst h;obtain rfl:L= []:=GV.1 hl;go_enter Tryz.func274,Tryz.ntmps274
  go_wp2_with fail
  go_ret
  exact⟨rfl,rfl⟩
 ·obtain⟨k,rfl⟩:∃k,len=k+1:=⟨len-1,by omega⟩;obtain⟨x,hx⟩:∃x,L[k]?=some x:=⟨_,cE (by omega)⟩;have a0:L.getLast?=some x:=by rw [wN,hl,yR];exact hx
  obtain⟨b,off,rfl,hbn,a3,hc⟩:=h1.get hx;have a9:IntKind.i64.wrap ((k:Int)+1-1)=(k:Int):=by rw [eF];omega
  have a5:(k:Int)<(k:Int)+1:=by omega
  have a6:(0:Int)≤(k:Int):=by omega
  have a7:(0:Int)<(k:Int)+1:=by omega
  rw [a0];clear a0 hx hl
  by_cases a1:x=0
  ·subst a1;go_enter Tryz.func274,Tryz.ntmps274
   go_wp2_with fail
   go_ret
   exact⟨rfl,rfl⟩
  ·have b0:((x:Int)==0)=false:=by simp;omega
   have hd:decide (some x=some 0)=false:=by simp [a1]
   rw [hd];go_enter Tryz.func274,Tryz.ntmps274
   go_wp2_with fail
   go_ret
   exact⟨rfl,rfl⟩
def NoZ.of_last (h:L.getLast?≠some 0):NoZ L:=fun x hx d6=>h (by rw [hx,d6])
def NoZ.one_iff (h:NoZ L) (hd:∀x∈L,x<4294967296):val 4294967296 L=1↔L= [1]:=by
 constructor
 ·intro hv;exact NoZ.eq (B:=4294967296) h (by intro x hx;simp at hx;omega) hd (by intro x hx;simp at hx;omega) (by decide) (by rw [hv];rfl)
 ·rintro rfl;rfl
def JN (h1:¬128<A.length) (h2:¬128<C.length) (h:A.getLast?=some 0∨C.getLast?=some 0∨C= []):fF neg A C=2:=by
 unfold fF;rw [if_neg (by omega),if_pos];rcases h with h|h|h
 ·exact .inr (.inr h)
 ·exact .inr (.inl h)
 ·exact .inl h
def Ih (h1:¬128<A.length) (h2:¬128<C.length) (hA:A.getLast?≠some 0) (hC:C.getLast?≠some 0) (a7:C≠ []) (c9:∀x∈C,x<4294967296) (h:A= []):fF neg A C=if neg=true∨C≠ [1] then 2 else 0:=by
 subst h;unfold fF;rw [if_neg (by omega),if_neg (by rintro(h|h|h);exact a7 h;exact hC h;exact hA h)];have e:=(NoZ.of_last hC).one_iff c9
 by_cases hn:neg=true∨C≠ [1]
 ·rw [if_pos ⟨rfl,hn.imp id fun h e'=>h (e.1 e')⟩,if_pos hn]
 ·rw [if_neg (by rintro⟨_,h⟩;exact hn (h.imp id fun h e'=>h (e.2 e'))),if_neg hn];have hc:val 4294967296 C=1:=e.2 (oK fun h=>hn (.inr h));rw [hc];rfl
def Ij (h1:¬128<A.length) (h2:¬128<C.length) (hA:A.getLast?≠some 0) (hC:C.getLast?≠some 0) (a7:C≠ []) (d8:∀x∈A,x<4294967296) (c9:∀x∈C,x<4294967296) (h:A≠ []):fF neg A C=if C≠ [1]∧A≠ [1]∧Nat.gcd (val 4294967296 A) (val 4294967296 C)≠1 then 2 else 0:=by
 unfold fF;have hp:=(NoZ.of_last hA).pos' h;rw [if_neg (by omega),if_neg (by rintro(h|h|h);exact a7 h;exact hC h;exact hA h),if_neg (by rintro⟨h,_⟩;omega)]
 by_cases hg:Nat.gcd (val 4294967296 A) (val 4294967296 C)=1
 ·rw [if_neg (by simp [hg]),if_neg (by rintro⟨_,_,h⟩;exact h hg)]
 ·rw [if_pos hg,if_pos];refine⟨?_,?_,hg⟩
  ·rintro rfl;exact hg (by simp [val])
  ·rintro rfl;exact hg (by simp [val])
def Iw (neg:Bool) (a1 a2:Option Addr) (a5 a6 b2 b3 n:Nat) (A C:List Nat) (c4:A.length=a5) (c5:C.length=a6) (d2:a5<4611686018427387904) (d3:a6<4611686018427387904) (w:Wo) (hn:n≤w.heap.size) (h1:dL n w a1 A) (h2:dL n w a2 C):
  Cz 203 #[.agg #[.bool neg,.slice a1 a5 b2,.slice a2 a6 b3]] w fun e w'=>e= .returned (.int .i64 (fF neg A C))∧Bz w w':=by
 by_cases e0:128<a5
 ·have hv:fF neg A C=3:=by unfold fF;rw [if_pos (.inl (by omega))]
  rw [hv];have d0:(128:Int)<(a5:Int):=by omega
  go_enter Tryz.func203,Tryz.ntmps203;go_wp2
  go_ret
  exact⟨rfl,aC _ _⟩
 by_cases e1:128<a6
 ·have hv:fF neg A C=3:=by unfold fF;rw [if_pos (.inr (by omega))]
  rw [hv];have d0:¬(128:Int)<(a5:Int):=by omega
  have d4:(128:Int)<(a6:Int):=by omega
  go_enter Tryz.func203,Tryz.ntmps203;go_wp2
  go_ret
  exact⟨rfl,aC _ _⟩
 have d0:¬(128:Int)<(a5:Int):=by omega
 have d4:¬(128:Int)<(a6:Int):=by omega
 obtain⟨wb,hwb⟩:=enm (w.alloc (Obj.cells #[.bool neg,.slice a1 a5 b2,.slice a2 a6 b3] 24));have a8:Bz w wb:=hwb▸aC _ _;have b4:=h1.below a8 hn;have b5:=h2.below a8 hn;have d5:n≤wb.heap.size:=aE hn a8.size;have b7:=TQ a1 a5 b2 n A c4 d2 wb b4;have b6:=TQ a2 a6 b3 n C c5 d3 wb b5;have b0:=EI a1 a5 b2 n A c4 wb b4;have b1:=EI a2 a6 b3 n C c5 wb b5;have a0:¬128<A.length:=by omega
 have a4:¬128<C.length:=by omega
 subst hwb
 by_cases hA:A.getLast?=some 0
 ·rw [JN a0 a4 (.inl hA)];rw [mN hA] at b7;clear hA b0 b1 b6 b4 b5 a0 a4;go_enter Tryz.func203,Tryz.ntmps203
  go_wp2_with first|(go_at_call 274;with_reducible refine b7.mono ?_;rintro e w2 ⟨rfl,rfl⟩)|(go_at_call 274;with_reducible refine b6.mono ?_;rintro e w2 ⟨rfl,rfl⟩)
  go_ret
  exact⟨rfl,a8⟩
 rw [kU hA] at b7
 by_cases hC:C.getLast?=some 0
 ·rw [JN a0 a4 (.inr (.inl hC))];rw [mN hC] at b6;clear hA hC b0 b1 b4 b5 a0 a4;go_enter Tryz.func203,Tryz.ntmps203
  go_wp2_with first|(go_at_call 274;with_reducible refine b7.mono ?_;rintro e w2 ⟨rfl,rfl⟩)|(go_at_call 274;with_reducible refine b6.mono ?_;rintro e w2 ⟨rfl,rfl⟩)
  go_ret
  exact⟨rfl,a8⟩
 rw [kU hC] at b6
 by_cases a7:C= []
 ·rw [JN a0 a4 (.inr (.inr a7))];have c6:a6=0:=by rw [←c5,a7];rfl
  subst c6;clear hA hC b0 b1 b4 b5 a0 a4 a7;go_enter Tryz.func203,Tryz.ntmps203
  go_wp2_with first|(go_at_call 274;with_reducible refine b7.mono ?_;rintro e w2 ⟨rfl,rfl⟩)|(go_at_call 274;with_reducible refine b6.mono ?_;rintro e w2 ⟨rfl,rfl⟩)
  go_ret
  exact⟨rfl,a8⟩
 have d9:((a6:Int)==0)=false:=by
  have:a6≠0:=fun h=>a7 (GV.1 (by omega))
  simp;omega
 by_cases b8:A= []
 ·rw [Ih a0 a4 hA hC a7 h2.1 b8];have c6:a5=0:=by rw [←c4,b8];rfl
  subst c6
  by_cases d1:neg=true
  ·subst d1;rw [if_pos (.inl rfl)];clear hA hC b0 b1 b4 b5 a0 a4 a7 b8;go_enter Tryz.func203,Tryz.ntmps203
   go_wp2_with first|(go_at_call 274;with_reducible refine b7.mono ?_;rintro e w2 ⟨rfl,rfl⟩)|(go_at_call 274;with_reducible refine b6.mono ?_;rintro e w2 ⟨rfl,rfl⟩)
   go_ret
   exact⟨rfl,a8⟩
  ·obtain rfl:neg=false:=by simpa using d1
   by_cases a9:C= [1]
   ·rw [if_neg (by simp [a9])];rw [mN a9] at b1;clear hA hC b0 b4 b5 a0 a4 a7 b8 a9;go_enter Tryz.func203,Tryz.ntmps203
    go_wp2_with first|(go_at_call 274;with_reducible refine b7.mono ?_;rintro e w2 ⟨rfl,rfl⟩)|(go_at_call 274;with_reducible refine b6.mono ?_;rintro e w2 ⟨rfl,rfl⟩)|(go_at_call 275;with_reducible refine b1.mono ?_;rintro e w2 ⟨rfl,rfl⟩)|(go_at_call 275;with_reducible refine b0.mono ?_;rintro e w2 ⟨rfl,rfl⟩)
    go_ret
    exact⟨rfl,a8⟩
   ·rw [if_pos (.inr a9)];rw [kU a9] at b1;clear hA hC b0 b4 b5 a0 a4 a7 b8 a9;go_enter Tryz.func203,Tryz.ntmps203
    go_wp2_with first|(go_at_call 274;with_reducible refine b7.mono ?_;rintro e w2 ⟨rfl,rfl⟩)|(go_at_call 274;with_reducible refine b6.mono ?_;rintro e w2 ⟨rfl,rfl⟩)|(go_at_call 275;with_reducible refine b1.mono ?_;rintro e w2 ⟨rfl,rfl⟩)|(go_at_call 275;with_reducible refine b0.mono ?_;rintro e w2 ⟨rfl,rfl⟩)
    go_ret
    exact⟨rfl,a8⟩
 have d7:((a5:Int)==0)=false:=by
  have:a5≠0:=fun h=>b8 (GV.1 (by omega))
  simp;omega
 rw [Ij a0 a4 hA hC a7 h1.1 h2.1 b8]
 by_cases a9:C= [1]
 ·rw [if_neg (by simp [a9])];rw [mN a9] at b1;clear hA hC b0 b4 b5 a0 a4 a7 b8 a9;go_enter Tryz.func203,Tryz.ntmps203
  go_wp2_with first|(go_at_call 274;with_reducible refine b7.mono ?_;rintro e w2 ⟨rfl,rfl⟩)|(go_at_call 274;with_reducible refine b6.mono ?_;rintro e w2 ⟨rfl,rfl⟩)|(go_at_call 275;with_reducible refine b1.mono ?_;rintro e w2 ⟨rfl,rfl⟩)|(go_at_call 275;with_reducible refine b0.mono ?_;rintro e w2 ⟨rfl,rfl⟩)
  go_ret
  exact⟨rfl,a8⟩
 rw [kU a9] at b1
 by_cases b9:A= [1]
 ·rw [if_neg (by simp [b9])];rw [mN b9] at b0;clear hA hC b4 b5 a0 a4 a7 b8 a9 b9;go_enter Tryz.func203,Tryz.ntmps203
  go_wp2_with first|(go_at_call 274;with_reducible refine b7.mono ?_;rintro e w2 ⟨rfl,rfl⟩)|(go_at_call 274;with_reducible refine b6.mono ?_;rintro e w2 ⟨rfl,rfl⟩)|(go_at_call 275;with_reducible refine b1.mono ?_;rintro e w2 ⟨rfl,rfl⟩)|(go_at_call 275;with_reducible refine b0.mono ?_;rintro e w2 ⟨rfl,rfl⟩)
  go_ret
  exact⟨rfl,a8⟩
 rw [kU b9] at b0;have c7:=val_lt h1.1;have c8:=val_lt h2.1;have c2:∀k,k≤128→(4294967296:Nat)^k≤4294967296^128:=fun k hk=>qE (by decide) hk
 obtain⟨M,hM⟩:∃M:Nat,M=128:=⟨_,rfl⟩;rw [←hM] at c2;have hg:=In (.slice a1 a5 b2) (.slice a2 a6 b3) n (val 4294967296 A) (val 4294967296 C) M (by omega) (eE c7 (c2 _ (by omega))) (eE c8 (c2 _ (by omega))) _ d5 ⟨a1,A,b2,by rw [c4],b4,NoZ.of_last hA,rfl⟩ ⟨a2,C,b3,by rw [c5],b5,NoZ.of_last hC,rfl⟩
 by_cases c0:Nat.gcd (val 4294967296 A) (val 4294967296 C)=1
 ·rw [if_neg (by rintro⟨_,_,h⟩;exact h c0)];obtain⟨G,hG⟩:=enm (Nat.gcd (val 4294967296 A) (val 4294967296 C));rw [hG] at hg c0;clear hG c2 c7 c8 hM hA hC b4 b5 a0 a4 a7 b8 a9 b9;go_enter Tryz.func203,Tryz.ntmps203
  go_wp2_with first|(go_at_call 274;with_reducible refine b7.mono ?_;rintro e w2 ⟨rfl,rfl⟩)|(go_at_call 274;with_reducible refine b6.mono ?_;rintro e w2 ⟨rfl,rfl⟩)|(go_at_call 275;with_reducible refine b1.mono ?_;rintro e w2 ⟨rfl,rfl⟩)|(go_at_call 275;with_reducible refine b0.mono ?_;rintro e w2 ⟨rfl,rfl⟩)|(go_at_call 276;(with_reducible refine hg.mono ?_);rintro e w3 ⟨r,rfl,⟨a3,L3,c3,rfl,hL1,hL2,hL3⟩,hb3⟩;have c1:=EI a3 L3.length c3 w3.heap.size L3 rfl w3 hL1;(rw [mN ((hL2.one_iff hL1.1).1 (hL3.trans c0))] at c1))|(go_at_call 275;with_reducible refine c1.mono ?_;rintro e w4 ⟨rfl,rfl⟩)
  go_ret
  exact⟨rfl,a8.trans (hb3.mono a8.size)⟩
 ·rw [if_pos ⟨a9,b9,c0⟩];obtain⟨G,hG⟩:=enm (Nat.gcd (val 4294967296 A) (val 4294967296 C));rw [hG] at hg c0;clear hG c2 c7 c8 hM hA hC b4 b5 a0 a4 a7 b8 a9 b9;go_enter Tryz.func203,Tryz.ntmps203
  go_wp2_with first|(go_at_call 274;with_reducible refine b7.mono ?_;rintro e w2 ⟨rfl,rfl⟩)|(go_at_call 274;with_reducible refine b6.mono ?_;rintro e w2 ⟨rfl,rfl⟩)|(go_at_call 275;with_reducible refine b1.mono ?_;rintro e w2 ⟨rfl,rfl⟩)|(go_at_call 275;with_reducible refine b0.mono ?_;rintro e w2 ⟨rfl,rfl⟩)|(go_at_call 276;(with_reducible refine hg.mono ?_);rintro e w3 ⟨r,rfl,⟨a3,L3,c3,rfl,hL1,hL2,hL3⟩,hb3⟩;have c1:=EI a3 L3.length c3 w3.heap.size L3 rfl w3 hL1;(rw [kU (fun h=>c0 (hL3.symm.trans ((hL2.one_iff hL1.1).2 h)))] at c1))|(go_at_call 275;with_reducible refine c1.mono ?_;rintro e w4 ⟨rfl,rfl⟩)
  go_ret
  exact⟨rfl,a8.trans (hb3.mono a8.size)⟩
def eK (g:Bool) (l1 l2:Nat):Bool:=!g&&decide (l1+l2=0)
def eH (k v:Int) (sz:Nat) (g:Bool) (num den:List Nat) (len:Nat):Prop:=
 (k=1∧0≤v∧v≤1073741824∧sz=0∧eK g num.length den.length=true∧len=0)∨
 (k=2∧v=0∧sz=0∧len=0∧fF g num den=0)∨
 (k=3∧v=0∧eK g num.length den.length=true∧len=0)∨
 (k=4∧v=0∧eK g num.length den.length=true∧len=0)∨
 (k=5∧v=0∧eK g num.length den.length=true∧1≤len∧len≤32)
def nG (k:Int):Nat:=if k=4 then 4000 else if k=3∨k=5 then 255 else 0
open Classical in
def cU (k v:Int) (sz:Nat) (g:Bool) (num den:List Nat) (len:Nat):Int:=
 if eH k v sz g num den len then(if nG k<sz then 3 else 0) else 2
def gG:b.toList= []↔b.size=0:=by
 rw [mS];constructor
 ·intro h;have:b.data.toList.length=0:=by rw [h];rfl
  simpa using this
 ·intro h;exact mE (by simpa using h)
def re3a (hN:Aside (eK g num.length den.length=nn)) (h1:v=0) (h2:nn=true) (h3:(!((len:Int)==0))=true):cU 3 v nm.size g num den len=2:=by
 refine if_neg ?_;have a0:=hN.o;unfold eH;simp only [a0]
 try simp only [gG] at*
 simp at*
 try omega
 try grind
def re3b (hN:Aside (eK g num.length den.length=nn)) (h1:v=0) (h2:nn=true) (h3:(!((len:Int)==0))=false) (h4:(255:Int)<(nm.size:Int)):cU 3 v nm.size g num den len=3:=by
 have a0:=hN.o;unfold cU
 try simp only [gG] at*
 simp at*;rw [if_pos,if_pos]
 ·unfold nG;simp;omega
 ·unfold eH;simp only [a0];simp;try omega
  try grind
def re3c (hN:Aside (eK g num.length den.length=nn)) (h1:v=0) (h2:nn=true) (h3:(!((len:Int)==0))=false) (h4:(nm.size:Int)≤255):cU 3 v nm.size g num den len=0:=by
 have a0:=hN.o;unfold cU
 try simp only [gG] at*
 simp at*;rw [if_pos,if_neg]
 ·unfold nG;simp;omega
 ·unfold eH;simp only [a0];simp;try omega
  try grind
def re3d (hN:Aside (eK g num.length den.length=nn)) (h1:v=0) (h2:¬nn=true):cU 3 v nm.size g num den len=2:=by
 refine if_neg ?_;have a0:=hN.o;unfold eH;simp only [a0]
 try simp only [gG] at*
 simp at*
 try omega
 try grind
def re3e (hN:Aside (eK g num.length den.length=nn)) (h1:¬v=0):cU 3 v nm.size g num den len=2:=by
 refine if_neg ?_;have a0:=hN.o;unfold eH;simp only [a0]
 try simp only [gG] at*
 simp at*
 try omega
 try grind
def re4a (hN:Aside (eK g num.length den.length=nn)) (h1:v=0) (h2:nn=true) (h3:(!((len:Int)==0))=true):cU 4 v nm.size g num den len=2:=by
 refine if_neg ?_;have a0:=hN.o;unfold eH;simp only [a0]
 try simp only [gG] at*
 simp at*
 try omega
 try grind
def re4b (hN:Aside (eK g num.length den.length=nn)) (h1:v=0) (h2:nn=true) (h3:(!((len:Int)==0))=false) (h4:(4000:Int)<(nm.size:Int)):cU 4 v nm.size g num den len=3:=by
 have a0:=hN.o;unfold cU
 try simp only [gG] at*
 simp at*;rw [if_pos,if_pos]
 ·unfold nG;simp;omega
 ·unfold eH;simp only [a0];simp;try omega
  try grind
def re4c (hN:Aside (eK g num.length den.length=nn)) (h1:v=0) (h2:nn=true) (h3:(!((len:Int)==0))=false) (h4:(nm.size:Int)≤4000):cU 4 v nm.size g num den len=0:=by
 have a0:=hN.o;unfold cU
 try simp only [gG] at*
 simp at*;rw [if_pos,if_neg]
 ·unfold nG;simp;omega
 ·unfold eH;simp only [a0];simp;try omega
  try grind
def re4d (hN:Aside (eK g num.length den.length=nn)) (h1:v=0) (h2:¬nn=true):cU 4 v nm.size g num den len=2:=by
 refine if_neg ?_;have a0:=hN.o;unfold eH;simp only [a0]
 try simp only [gG] at*
 simp at*
 try omega
 try grind
def re4e (hN:Aside (eK g num.length den.length=nn)) (h1:¬v=0):cU 4 v nm.size g num den len=2:=by
 refine if_neg ?_;have a0:=hN.o;unfold eH;simp only [a0]
 try simp only [gG] at*
 simp at*
 try omega
 try grind
def re5a (hN:Aside (eK g num.length den.length=nn)) (h1:v=0) (h2:nn=true) (h3:(1:Int)≤(len:Int)) (h4:(!decide ((len:Int)≤32))=true):cU 5 v nm.size g num den len=2:=by
 refine if_neg ?_;have a0:=hN.o;unfold eH;simp only [a0]
 try simp only [gG] at*
 simp at*
 try omega
 try grind
def re5b (hN:Aside (eK g num.length den.length=nn)) (h1:v=0) (h2:nn=true) (h3:(1:Int)≤(len:Int)) (h4:(!decide ((len:Int)≤32))=false) (h5:(255:Int)<(nm.size:Int)):cU 5 v nm.size g num den len=3:=by
 have a0:=hN.o;unfold cU
 try simp only [gG] at*
 simp at*;rw [if_pos,if_pos]
 ·unfold nG;simp;omega
 ·unfold eH;simp only [a0];simp;try omega
  try grind
def re5c (hN:Aside (eK g num.length den.length=nn)) (h1:v=0) (h2:nn=true) (h3:(1:Int)≤(len:Int)) (h4:(!decide ((len:Int)≤32))=false) (h5:(nm.size:Int)≤255):cU 5 v nm.size g num den len=0:=by
 have a0:=hN.o;unfold cU
 try simp only [gG] at*
 simp at*;rw [if_pos,if_neg]
 ·unfold nG;simp;omega
 ·unfold eH;simp only [a0];simp;try omega
  try grind
def re5d (hN:Aside (eK g num.length den.length=nn)) (h1:v=0) (h2:nn=true) (h3:(len:Int)<1):cU 5 v nm.size g num den len=2:=by
 refine if_neg ?_;have a0:=hN.o;unfold eH;simp only [a0]
 try simp only [gG] at*
 simp at*
 try omega
 try grind
def re5e (hN:Aside (eK g num.length den.length=nn)) (h1:v=0) (h2:¬nn=true):cU 5 v nm.size g num den len=2:=by
 refine if_neg ?_;have a0:=hN.o;unfold eH;simp only [a0]
 try simp only [gG] at*
 simp at*
 try omega
 try grind
def re5f (hN:Aside (eK g num.length den.length=nn)) (h1:¬v=0):cU 5 v nm.size g num den len=2:=by
 refine if_neg ?_;have a0:=hN.o;unfold eH;simp only [a0]
 try simp only [gG] at*
 simp at*
 try omega
 try grind
def re1a (hN:Aside (eK g num.length den.length=nn)) (h1:0≤v) (h2:v≤1073741824) (h3:nm.toList= []) (h4:nn=true) (h5:(!((len:Int)==0))=true):cU 1 v nm.size g num den len=2:=by
 refine if_neg ?_;have a0:=hN.o;unfold eH;simp only [a0]
 try simp only [gG] at*
 simp at*
 try omega
 try grind
def re1c (hN:Aside (eK g num.length den.length=nn)) (h1:0≤v) (h2:v≤1073741824) (h3:nm.toList= []) (h4:nn=true) (h5:(!((len:Int)==0))=false) (h6:¬0<nm.size):cU 1 v nm.size g num den len=0:=by
 have a0:=hN.o;unfold cU
 try simp only [gG] at*
 simp at*;rw [if_pos,if_neg]
 ·unfold nG;simp;omega
 ·unfold eH;simp only [a0];simp;try omega
  try grind
def re1d (hN:Aside (eK g num.length den.length=nn)) (h1:0≤v) (h2:v≤1073741824) (h3:nm.toList= []) (h4:¬nn=true):cU 1 v nm.size g num den len=2:=by
 refine if_neg ?_;have a0:=hN.o;unfold eH;simp only [a0]
 try simp only [gG] at*
 simp at*
 try omega
 try grind
def re1e (hN:Aside (eK g num.length den.length=nn)) (h1:0≤v) (h2:v≤1073741824) (h3:¬nm.toList= []):cU 1 v nm.size g num den len=2:=by
 refine if_neg ?_;have a0:=hN.o;unfold eH;simp only [a0]
 try simp only [gG] at*
 simp at*
 try omega
 try grind
def re1f (hN:Aside (eK g num.length den.length=nn)) (h1:1073741824<v):cU 1 v nm.size g num den len=2:=by
 refine if_neg ?_;have a0:=hN.o;unfold eH;simp only [a0]
 try simp only [gG] at*
 simp at*
 try omega
 try grind
def re1g (hN:Aside (eK g num.length den.length=nn)) (h1:v<0):cU 1 v nm.size g num den len=2:=by
 refine if_neg ?_;have a0:=hN.o;unfold eH;simp only [a0]
 try simp only [gG] at*
 simp at*
 try omega
 try grind
def re2a (hN:Aside (eK g num.length den.length=nn)) (h1:v=0) (h2:nm.toList= []) (h3:len=0) (h4:fF g num den=0):cU 2 v nm.size g num den len=0:=by
 have a0:=hN.o;unfold cU
 try simp only [gG] at*
 simp at*;rw [if_pos,if_neg]
 ·unfold nG;simp;omega
 ·unfold eH;simp only [a0];simp;try omega
  try grind
def re2b (hN:Aside (eK g num.length den.length=nn)) (h1:¬fF g num den=0):cU 2 v nm.size g num den len=2:=by
 refine if_neg ?_;have a0:=hN.o;unfold eH;simp only [a0]
 try simp only [gG] at*
 simp at*
 try omega
 try grind
def re2c (hN:Aside (eK g num.length den.length=nn)) (h1:¬len=0):cU 2 v nm.size g num den len=2:=by
 refine if_neg ?_;have a0:=hN.o;unfold eH;simp only [a0]
 try simp only [gG] at*
 simp at*
 try omega
 try grind
def re2d (hN:Aside (eK g num.length den.length=nn)) (h1:¬nm.toList= []):cU 2 v nm.size g num den len=2:=by
 refine if_neg ?_;have a0:=hN.o;unfold eH;simp only [a0]
 try simp only [gG] at*
 simp at*
 try omega
 try grind
def re2e (hN:Aside (eK g num.length den.length=nn)) (h1:¬v=0):cU 2 v nm.size g num den len=2:=by
 refine if_neg ?_;have a0:=hN.o;unfold eH;simp only [a0]
 try simp only [gG] at*
 simp at*
 try omega
 try grind
def Im (k v:Int) (nm:ByteArray) (g:Bool) (p1 p2 a:Option Addr) (l1 l2 len q1 q2 c n:Nat) (num den:List Nat) (a9:num.length=l1) (b0:den.length=l2) (b7:l1≤1048576) (b8:l2≤1048576) (hb:len≤1048576) (w:Wo) (hn:n≤w.heap.size) (h1:dL n w p1 num) (h2:dL n w p2 den):
  Cz 122 #[.agg (tA k v nm g p1 l1 q1 p2 l2 q2 a len c)] w fun e w'=>e= .returned (.int .i64 (cU k v nm.size g num den len))∧Bz w w':=by
 have a2:=fun w2 (a1:Bz w w2)=>Iw g p1 p2 l1 l2 q1 q2 n num den a9 b0 (by omega) (by omega) w2 (aE hn a1.size) (h1.below a1 hn) (h2.below a1 hn)
 obtain⟨nn,hnn⟩:=enm (eK g l1 l2);have hN:Aside (eK g num.length den.length=nn):=by rw [a9,b0];exact hnn
 go_enter Tryz.func122,Tryz.ntmps122
 go_upto_region 1 with fail
 go_cut [3] from 6 to 21 (fun s3 wx=>s3= .bool nn∧wx=w.alloc (Obj.cells (tA k v nm g p1 l1 q1 p2 l2 q2 a len c) 27))
 case first=>
  have c2:IntKind.i64.wrap ((l1:Int)+(l2:Int))=(l1:Int)+(l2:Int):=by rw [eF];omega
  cases g with
  |true=>
   obtain rfl:nn=false:=by rw [←hnn];rfl
   clear a2 hnn
   go_wp2_with fail
   go_meet
   exact⟨rfl,rfl⟩
  | false=>
   by_cases h0:l1+l2=0
   ·obtain rfl:nn=true:=by rw [←hnn];simp only [eK,h0];rfl
    have hz:((l1:Int)+(l2:Int)==0)=true:=by simp;omega
    clear a2 hnn h0
    go_wp2_with fail
    go_meet
    exact⟨rfl,rfl⟩
   ·obtain rfl:nn=false:=by rw [←hnn];simp only [eK,h0];rfl
    have hz:((l1:Int)+(l2:Int)==0)=false:=by simp;omega
    clear a2 hnn h0
    go_wp2_with fail
    go_meet
    exact⟨rfl,rfl⟩
 case rest=>
  obtain⟨rfl,rfl⟩:=hcut;clear hnn
  by_cases a3:k=1
  ·subst a3
   go_wp2_with fail
   all_goals go_ret
   all_goals first|(rw [re1a hN (by assumption) (by assumption) (by assumption) (by assumption) (by assumption)];exact⟨rfl,aC _ _⟩)|(rw [re1c hN (by assumption) (by assumption) (by assumption) (by assumption) (by assumption) (by assumption)];exact⟨rfl,aC _ _⟩)|(rw [re1d hN (by assumption) (by assumption) (by assumption) (by assumption)];exact⟨rfl,aC _ _⟩)|(rw [re1e hN (by assumption) (by assumption) (by assumption)];exact⟨rfl,aC _ _⟩)|(rw [re1f hN (by assumption)];exact⟨rfl,aC _ _⟩)|(rw [re1g hN (by assumption)];exact⟨rfl,aC _ _⟩)|(exfalso;have e1:=gG.1 (show nm.toList= [] from (by assumption));have e2:0<nm.size:=(by assumption);omega)
  have b1:(k==1)=false:=by simpa using a3
  by_cases a4:k=2
  ·subst a4
   by_cases hv:v=0
   ·subst hv
    by_cases a8:nm.toList= []
    ·by_cases hl:len=0
     ·subst hl
      by_cases hF:fF g num den=0
      ·have hr:Aside (cU 2 0 nm.size g num den 0=0):=re2a hN rfl a8 rfl hF;rw [hF] at a2;have c0:¬0<nm.size:=by rw [gG.1 a8];omega
       have hq:=bY w (Obj.cells #[.int .i64 2,.int .i64 0,.string nm,.bool g,.slice p1 l1 q1,.slice p2 l2 q2,.slice a 0 c] 27);clear hF
       go_wp2_with first|(go_at_call 203;(with_reducible refine(a2 _ (aC w _)).mono ?_);rintro e w3 ⟨rfl,hb3⟩;have x2:=(dZ ((hb3.block w.heap.size (by simp)).trans hq)).2.2.1)
       go_ret
       rw [hr.o];exact⟨rfl,(aC _ _).trans (hb3.mono (by simp))⟩
      ·have hr:Aside (cU 2 0 nm.size g num den 0=2):=re2b hN hF;have b6:(fF g num den==0)=false:=by simpa using hF
       clear hF
       go_wp2_with first|(go_at_call 203;(with_reducible refine(a2 _ (aC w _)).mono ?_);rintro e w3 ⟨rfl,hb3⟩)
       go_ret
       rw [hr.o];exact⟨rfl,(aC _ _).trans (hb3.mono (by simp))⟩
     ·have hr:Aside (cU 2 0 nm.size g num den len=2):=re2c hN hl;have b9:((len:Int)==0)=false:=by simp;omega
      clear hl
      go_wp2_with fail
      go_ret
      rw [hr.o];exact⟨rfl,aC _ _⟩
    ·have hr:Aside (cU 2 0 nm.size g num den len=2):=re2d hN a8
     go_wp2_with fail
     go_ret
     rw [hr.o];exact⟨rfl,aC _ _⟩
   ·have hr:Aside (cU 2 v nm.size g num den len=2):=re2e hN hv;have c1:(v==0)=false:=by simpa using hv
    go_wp2_with fail
    go_ret
    rw [hr.o];exact⟨rfl,aC _ _⟩
  have b2:(k==2)=false:=by simpa using a4
  by_cases a5:k=3
  ·subst a5
   go_wp2_with fail
   all_goals go_ret
   all_goals first|(rw [re3a hN (by assumption) (by assumption) (by assumption)];exact⟨rfl,aC _ _⟩)|(rw [re3b hN (by assumption) (by assumption) (by assumption) (by assumption)];exact⟨rfl,aC _ _⟩)|(rw [re3c hN (by assumption) (by assumption) (by assumption) (by assumption)];exact⟨rfl,aC _ _⟩)|(rw [re3d hN (by assumption) (by assumption)];exact⟨rfl,aC _ _⟩)|(rw [re3e hN (by assumption)];exact⟨rfl,aC _ _⟩)|(rw [re3a (v:=0) hN rfl (by assumption) (by assumption)];exact⟨rfl,aC _ _⟩)|(rw [re3b (v:=0) hN rfl (by assumption) (by assumption) (by assumption)];exact⟨rfl,aC _ _⟩)|(rw [re3c (v:=0) hN rfl (by assumption) (by assumption) (by assumption)];exact⟨rfl,aC _ _⟩)|(rw [re3d (v:=0) hN rfl (by assumption)];exact⟨rfl,aC _ _⟩)
  have b3:(k==3)=false:=by simpa using a5
  by_cases a6:k=4
  ·subst a6
   go_wp2_with fail
   all_goals go_ret
   all_goals first|(rw [re4a hN (by assumption) (by assumption) (by assumption)];exact⟨rfl,aC _ _⟩)|(rw [re4b hN (by assumption) (by assumption) (by assumption) (by assumption)];exact⟨rfl,aC _ _⟩)|(rw [re4c hN (by assumption) (by assumption) (by assumption) (by assumption)];exact⟨rfl,aC _ _⟩)|(rw [re4d hN (by assumption) (by assumption)];exact⟨rfl,aC _ _⟩)|(rw [re4e hN (by assumption)];exact⟨rfl,aC _ _⟩)|(rw [re4a (v:=0) hN rfl (by assumption) (by assumption)];exact⟨rfl,aC _ _⟩)|(rw [re4b (v:=0) hN rfl (by assumption) (by assumption) (by assumption)];exact⟨rfl,aC _ _⟩)|(rw [re4c (v:=0) hN rfl (by assumption) (by assumption) (by assumption)];exact⟨rfl,aC _ _⟩)|(rw [re4d (v:=0) hN rfl (by assumption)];exact⟨rfl,aC _ _⟩)
  have b4:(k==4)=false:=by simpa using a6
  by_cases a7:k=5
  ·subst a7
   go_wp2_with fail
   all_goals go_ret
   all_goals first|(rw [re5a hN (by assumption) (by assumption) (by assumption) (by assumption)];exact⟨rfl,aC _ _⟩)|(rw [re5b hN (by assumption) (by assumption) (by assumption) (by assumption) (by assumption)];exact⟨rfl,aC _ _⟩)|(rw [re5c hN (by assumption) (by assumption) (by assumption) (by assumption) (by assumption)];exact⟨rfl,aC _ _⟩)|(rw [re5d hN (by assumption) (by assumption) (by assumption)];exact⟨rfl,aC _ _⟩)|(rw [re5e hN (by assumption) (by assumption)];exact⟨rfl,aC _ _⟩)|(rw [re5f hN (by assumption)];exact⟨rfl,aC _ _⟩)|(rw [re5a (v:=0) hN rfl (by assumption) (by assumption) (by assumption)];exact⟨rfl,aC _ _⟩)|(rw [re5b (v:=0) hN rfl (by assumption) (by assumption) (by assumption) (by assumption)];exact⟨rfl,aC _ _⟩)|(rw [re5c (v:=0) hN rfl (by assumption) (by assumption) (by assumption) (by assumption)];exact⟨rfl,aC _ _⟩)|(rw [re5d (v:=0) hN rfl (by assumption) (by assumption)];exact⟨rfl,aC _ _⟩)|(rw [re5e (v:=0) hN rfl (by assumption)];exact⟨rfl,aC _ _⟩)
  have b5:(k==5)=false:=by simpa using a7
  go_wp2_with fail
  go_ret
  rw [show cU k v nm.size g num den len=2 from if_neg (by rintro(h|h|h|h|h);exact a3 h.1;exact a4 h.1;exact a5 h.1;exact a6 h.1;exact a7 h.1)];exact⟨rfl,aC _ _⟩
mutual
def Tm.errE:Tm→Int
 | .mk k v nm g num den args=>if cU k v nm.size g num den args.length≠0 then cU k v nm.size g num den args.length else Tm.errL args
def Tm.errL:List Tm→Int
 | []=>0
 |T::r=>if Tm.errE T≠0 then Tm.errE T else Tm.errL r
end
def LF:∀{L:List Tm} {i:Nat} {T:Tm},L[i]?=some T→Tm.errL (L.take i)=0→Tm.errE T=0→Tm.errL (L.take (i+1))=0
 | [],_,_,h,_,_=>by simp at h
 |T0::r,0,T,h,_,h2=>by
  simp at h;subst h;simp [Tm.errL,h2]
 | T0::r,i+1,T,h,h1,h2=>by
  simp only [gL,Tm.errL] at h1 ⊢
  by_cases h0:T0.errE=0
  ·rw [if_neg (by simp [h0])] at h1 ⊢;exact LF (by simpa using h) h1 h2
  ·rw [if_pos h0] at h1;exact absurd h1 h0
def LG:∀{L:List Tm} {i:Nat} {T:Tm},L[i]?=some T→Tm.errL (L.take i)=0→Tm.errE T≠0→Tm.errL L=Tm.errE T
 | [],_,_,h,_,_=>by simp at h
 |T0::r,0,T,h,_,h2=>by
  simp at h;subst h;simp [Tm.errL,h2]
 | T0::r,i+1,T,h,h1,h2=>by
  simp only [gL,Tm.errL] at h1 ⊢
  by_cases h0:T0.errE=0
  ·rw [if_neg (by simp [h0])] at h1 ⊢;exact LG (by simpa using h) h1 h2
  ·rw [if_pos h0] at h1;exact absurd h1 h0
def NodesOk (T:Tm):Prop:=∀(n:Nat) (w:Wo) (vs:Lv),TmV n w T vs→n≤w.heap.size→
  Cz 73 #[.agg vs.toArray] w fun e w'=>e= .returned (.int .i64 T.errE)∧Bz w w'
def Il (k v:Int) (nm:ByteArray) (g:Bool) (num den:List Nat) (args:List Tm) (ih:∀T'∈args,NodesOk T'):NodesOk (.mk k v nm g num den args):=by
 intro n w vs h hn;simp only [TmV] at h;obtain⟨s1,s2,a,c,rfl,⟨⟨p1,q1,rfl,hA⟩,⟨p2,q2,rfl,hC⟩⟩,h2,hbig,hbA,hbC⟩:=h;obtain⟨E,hE⟩:=enm (cU k v nm.size g num den args.length);obtain⟨F,hF⟩:=enm (Tm.errE (.mk k v nm g num den args));have a7:Aside (F=if E≠0 then E else Tm.errL args):=by
  show F=_;rw [←hF,←hE];simp only [Tm.errE]
 rw [hF];obtain⟨len,hl⟩:=enm args.length;obtain⟨l1,hl1⟩:=enm num.length;obtain⟨l2,hl2⟩:=enm den.length;rw [hl] at hbig hE ⊢;rw [hl1] at hbA ⊢;rw [hl2] at hbC ⊢;show Cz 73 #[.agg (tA k v nm g p1 l1 q1 p2 l2 q2 a len c)] w _;have a4:=aC w (Obj.cells (tA k v nm g p1 l1 q1 p2 l2 q2 a len c) 27);have hq:=bY w (Obj.cells (tA k v nm g p1 l1 q1 p2 l2 q2 a len c) 27);have b1:=Im k v nm g p1 p2 a l1 l2 len q1 q2 c n num den hl1 hl2 hbA hbC hbig _ (aE hn a4.size) (hA.below a4 hn) (hC.below a4 hn);rw [hE] at b1;have Al:=aside hl;clear hE hl hl1 hl2 hA hC hF;go_enter Tryz.func73,Tryz.ntmps73
 go_upto_region 2 with first|(go_at_call 122;(with_reducible refine b1.mono ?_);rintro e w1 ⟨rfl,hb1⟩)
 have b2:=a4.trans (hb1.mono a4.size);have b9:=dZ ((hb1.block w.heap.size (by simp)).trans hq);obtain⟨y0,y1,y2,y3,y4,y5,y6⟩:=b9;clear b1 hq y0 y1 y2 y3 y4 y5
 by_cases a6:E=0
 ·subst a6;have b3:Aside (F=Tm.errL args):=by show F=_;rw [a7.o];simp
  clear a7
  go_wp2_with fail
  go_loopw [15] (fun c1 wr=>∃i:Nat,c1= .int .i64 i∧i≤len∧Aside (Tm.errL (args.take i)=0)∧Bz w wr) (fun s _=>len-(intOf s).toNat)
  case atStart=>exact⟨0,rfl,cJ _,by simp [Tm.errL,Aside],b2⟩
  case round=>
   obtain⟨i,rfl,hi,hex,hB⟩:=hrel
   by_cases b0:i<len
   ·obtain⟨T',a2⟩:=egf Al.o b0;obtain⟨b,off,vs',rfl,hbn,hc,hv⟩:=h2.get a2;have b5:=hv;obtain⟨G,hG⟩:=enm T'.errE;have a9:Aside ((G=0→Tm.errL (args.take (i+1))=0)∧(G≠0→F=G)):=⟨fun h=>LF a2 hex.o (hG.trans h),fun h=>by rw [b3.o,LG a2 hex.o (by rw [hG];exact h),hG]⟩;have a5:=bV a2;obtain⟨k',v',nm',g',num',den',a0⟩:=T';simp only [TmV] at hv;obtain⟨t1,t2,a',c',rfl,⟨⟨p1',q1',rfl,_⟩,⟨p2',q2',rfl,_⟩⟩,_⟩:=hv;have a1:∀p:Addr,p.block<n→wr.cell? p=w.cell? p:=fun p hp=>(hB.mono hn).cell hp
    rw [dH] at hc;have x0:=(a1 ⟨b,off+i*7+0,none⟩ hbn).trans (hc 0 _ rfl);have x1:=(a1 ⟨b,off+i*7+1,none⟩ hbn).trans (hc 1 _ rfl);have x2:=(a1 ⟨b,off+i*7+2,none⟩ hbn).trans (hc 2 _ rfl);have x3:=(a1 ⟨b,off+i*7+3,none⟩ hbn).trans (hc 3 _ rfl);have x4:=(a1 ⟨b,off+i*7+4,none⟩ hbn).trans (hc 4 _ rfl);have x5:=(a1 ⟨b,off+i*7+5,none⟩ hbn).trans (hc 5 _ rfl);have x6:=(a1 ⟨b,off+i*7+6,none⟩ hbn).trans (hc 6 _ rfl);rw [gQ] at x0;obtain⟨c4,hi3,hw3⟩:=elt (i:=i) (n:=len) (by omega) (by omega);have a3:Bz w (wr.alloc (Obj.cells #[.int .i64 k',.int .i64 v',.string nm',.bool g',.slice p1' num'.length q1',.slice p2' den'.length q2',.slice a' a0.length c'] 27)):=hB.alloc hB.size _;have d1:=ih _ a5 n (wr.alloc (Obj.cells #[.int .i64 k',.int .i64 v',.string nm',.bool g',.slice p1' num'.length q1',.slice p2' den'.length q2',.slice a' a0.length c'] 27)) _ (TmV.below a3 hn _ _ b5) (aE hn a3.size);rw [hG] at d1;replace d1:Cz 73 #[.agg #[.int .i64 k',.int .i64 v',.string nm',.bool g',.slice p1' num'.length q1',.slice p2' den'.length q2',.slice a' a0.length c']] _ _:=d1;have b4:=aside b0;generalize a0.length=len',num'.length=ln1,den'.length=ln2 at*;clear h2 ih hc b5 a2 a1 hG a5 hex b0
    by_cases a8:G=0
    ·subst a8;have c0:Aside (Tm.errL (args.take (i+1))=0):=a9.o.1 rfl;clear a9
     go_wp2_with first|(go_at_call 73;(with_reducible refine d1.mono ?_);rintro e w3 ⟨rfl,hb3⟩)
     exact⟨⟨i+1,by simp,by have:=b4.o;omega,c0,a3.trans (hb3.mono a3.size)⟩,by have:=b4.o;simp [intOf];omega⟩
    ·have c3:(G==0)=false:=by simpa using a8
     have b7:Aside (F=G):=a9.o.2 a8;clear a8 a9
     go_wp2_with first|(go_at_call 73;(with_reducible refine d1.mono ?_);rintro e w3 ⟨rfl,hb3⟩)
     go_ret
     rw [b7.o];exact⟨rfl,a3.trans (hb3.mono a3.size)⟩
   ·obtain rfl:i=len:=by omega
    have b8:Aside (F=0):=by show F=0;rw [b3.o,←hex.o,←Al.o,kD]
    clear h2 ih hex
    go_wp2_with fail
    go_ret
    rw [b8.o];exact⟨rfl,hB⟩
 ·have c2:(E==0)=false:=by simpa using a6
  have b6:Aside (F=E):=by show F=E;rw [a7.o,if_pos a6]
  clear a6 a7
  go_wp2_with fail
  go_ret
  rw [b6.o];exact⟨rfl,b2⟩
def SK:∀T:Tm,NodesOk T
 | .mk k v nm g num den args=>Il k v nm g num den args fun T' a2=>SK T'
termination_by T=>SizeOf.sizeOf T
decreasing_by
 simp_wf
 have:=pK a2;omega
def nodesL_take_le (L:List Tm) (i:Nat):Tm.nodesL (L.take i)≤Tm.nodesL L:=by
 have:=tY (L.take i) (L.drop i);rw [rS] at this;omega
def SizeOk (T:Tm):Prop:=∀(n:Nat) (w:Wo) (vs:Lv) (m:Nat),m≤1000000→TmV n w T vs→n≤w.heap.size→
  Cz 72 #[.agg vs.toArray,.int .i64 m] w fun e w'=>∃r:Nat,e= .returned (.int .i64 r)∧r=min T.nodes (m+1)∧Bz w w'
def Hb (k v:Int) (nm:ByteArray) (g:Bool) (num den:List Nat) (args:List Tm) (ih:∀T'∈args,SizeOk T'):SizeOk (.mk k v nm g num den args):=by
 intro n w vs m hm h hn;simp only [TmV] at h;obtain⟨s1,s2,a,c,rfl,⟨⟨p1,q1,rfl,hA⟩,⟨p2,q2,rfl,hC⟩⟩,h2,hbig,hbA,hbC⟩:=h;obtain⟨F,hF⟩:=enm (Tm.nodes (.mk k v nm g num den args));have b0:Aside (F=1+Tm.nodesL args):=by show F=_;rw [←hF];simp only [Tm.nodes]
 rw [hF];obtain⟨len,hl⟩:=enm args.length;generalize num.length=l1,den.length=l2 at*;rw [hl] at hbig ⊢;show Cz 72 #[.agg (tA k v nm g p1 l1 q1 p2 l2 q2 a len c),.int .i64 m] w _;have b4:=aC w (Obj.cells (tA k v nm g p1 l1 q1 p2 l2 q2 a len c) 27);have Al:=aside hl;have c1:=ewr (i:=m) (by omega);clear hl hA hC hF;go_enter Tryz.func72,Tryz.ntmps72
 go_wp2_with fail
 go_loopw [5,11] (fun s5 b7 wr=>∃i r:Nat,b7= .int .i64 i∧s5= .int .i64 r∧i≤len∧Aside (r=min (1+Tm.nodesL (args.take i)) (m+1))∧Bz w wr) (fun _ s _=>len-(intOf s).toNat)
 case atStart=>exact⟨0,1,rfl,by simp,cJ _,by show 1=_;simp [Tm.nodesL],b4⟩
 case round=>
  obtain⟨i,r,rfl,rfl,hi,hex,hB⟩:=hrel;have b3:r≤m+1:=by rw [hex.o];exact Nat.min_le_right _ _
  by_cases a6:i<len
  ·obtain⟨T',a3⟩:=egf Al.o a6;obtain⟨b,off,vs',rfl,hbn,hc,hv⟩:=h2.get a3;have a9:=hv;have a7:Aside (∀d:Nat,r≤m→d=min T'.nodes (m-r+1)→r+d=min (1+Tm.nodesL (args.take (i+1))) (m+1)∧d≤m-r+1):=by
    show∀d:Nat,_;intro d hr hd;have h3:=hex.o;rw [xJ a3];omega
   have a1:Aside (¬r≤m→m+1=min F (m+1)):=by
    show¬r≤m→_;intro hr;have h3:=hex.o;have h4:=nodesL_take_le args i;have h5:=b0.o;omega
   have a4:=bV a3;obtain⟨k',v',nm',g',num',den',a0⟩:=T';simp only [TmV] at hv;obtain⟨t1,t2,a',c',rfl,⟨⟨p1',q1',rfl,_⟩,⟨p2',q2',rfl,_⟩⟩,_⟩:=hv;have a2:∀p:Addr,p.block<n→wr.cell? p=w.cell? p:=fun p hp=>(hB.mono hn).cell hp
   rw [dH] at hc;have x0:=(a2 ⟨b,off+i*7+0,none⟩ hbn).trans (hc 0 _ rfl);have x1:=(a2 ⟨b,off+i*7+1,none⟩ hbn).trans (hc 1 _ rfl);have x2:=(a2 ⟨b,off+i*7+2,none⟩ hbn).trans (hc 2 _ rfl);have x3:=(a2 ⟨b,off+i*7+3,none⟩ hbn).trans (hc 3 _ rfl);have x4:=(a2 ⟨b,off+i*7+4,none⟩ hbn).trans (hc 4 _ rfl);have x5:=(a2 ⟨b,off+i*7+5,none⟩ hbn).trans (hc 5 _ rfl);have x6:=(a2 ⟨b,off+i*7+6,none⟩ hbn).trans (hc 6 _ rfl);rw [gQ] at x0;obtain⟨b9,hi3,hw3⟩:=elt (i:=i) (n:=len) (by omega) (by omega);have a5:Bz w (wr.alloc (Obj.cells #[.int .i64 k',.int .i64 v',.string nm',.bool g',.slice p1' num'.length q1',.slice p2' den'.length q2',.slice a' a0.length c'] 27)):=hB.alloc hB.size _;have b2:=aside a6
   by_cases a8:r≤m
   ·have b1:¬(m:Int)<(r:Int):=by omega
    obtain⟨mr,hmr⟩:∃mr,mr=m-r:=⟨_,rfl⟩;have c0:IntKind.i64.wrap ((m:Int)-(r:Int))=(mr:Int):=by rw [eF];omega
    have d1:=ih _ a4 n (wr.alloc (Obj.cells #[.int .i64 k',.int .i64 v',.string nm',.bool g',.slice p1' num'.length q1',.slice p2' den'.length q2',.slice a' a0.length c'] 27)) _ mr (by omega) (TmV.below a5 hn _ _ a9) (aE hn a5.size);rw [hmr] at d1;replace d1:Cz 72 #[.agg #[.int .i64 k',.int .i64 v',.string nm',.bool g',.slice p1' num'.length q1',.slice p2' den'.length q2',.slice a' a0.length c'],.int .i64 (m-r:Nat)] _ _:=d1;rw [←hmr] at d1 a7;have b5:∀d:Nat,d≤mr+1→IntKind.i64.wrap ((r:Int)+(d:Int))=((r+d:Nat):Int):=fun d hd=>by rw [eF];omega
    generalize a0.length=len',num'.length=ln1,den'.length=ln2 at*;clear h2 ih hc a9 a3 a2 a4 hex a6 hmr b3 a1
    go_wp2_with first|(go_at_call 72;(with_reducible refine d1.mono ?_);rintro e w3 ⟨d,rfl,hd,hb3⟩;obtain⟨b8,hd2⟩:=a7.o d a8 hd;have b6:=b5 d hd2;clear hd)
    exact⟨⟨i+1,_,by simp,rfl,by have:=b2.o;omega,rfl,a5.trans (hb3.mono a5.size)⟩,by have:=b2.o;simp [intOf];omega⟩
   ·have b1:(m:Int)<(r:Int):=by omega
    have hL:Aside (m+1=min F (m+1)):=a1.o a8;generalize a0.length=len',num'.length=ln1,den'.length=ln2 at*;clear h2 ih hc a9 a3 a2 a4 hex a6 b3 a1 a7 a8
    go_wp2_with fail
    go_ret
    exact⟨m+1,rfl,hL.o,a5⟩
  ·obtain rfl:i=len:=by omega
   have hL:Aside (r=min F (m+1)):=by
    show r=_;have h3:=hex.o;rw [←Al.o,kD] at h3;rw [h3,b0.o]
   have b1:min (r:Int) ((m:Int)+1)=(r:Int):=by omega
   clear h2 ih hex
   go_wp2_with fail
   go_ret
   exact⟨r,rfl,hL.o,hB⟩
def RK:∀T:Tm,SizeOk T
 | .mk k v nm g num den args=>Hb k v nm g num den args fun T' a3=>RK T'
termination_by T=>SizeOf.sizeOf T
decreasing_by
 simp_wf
 have:=pK a3;omega
end
