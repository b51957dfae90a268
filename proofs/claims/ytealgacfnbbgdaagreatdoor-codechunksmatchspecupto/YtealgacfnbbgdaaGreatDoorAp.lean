/- Lemmas; no condition. -/
import Derived.Test.YtealgacfnbbgdaaGreatDoorAo
set_option linter.all false
set_option maxHeartbeats 4000000
set_option maxRecDepth 100000
namespace Go.Proofs.YtealgacfnbbgdaaGreatDoor
open Go.RowKit Go.Big Go.RowsK Go.MapK
variable {l x:List UInt8} {L:List (List UInt8)} {n b i:Nat}
def iU (nm:ByteArray) (n:Nat) (w:Wo) (e:Ending) (w':Wo):Prop:=(∃v,e= .returned (.tuple #[v,.bool (cS nm.toList n)]))∧Bz w w'
def key_of (nm:ByteArray) (n:Nat) (hn:n≤9):nm++⟨#[32]⟩++Utf8.encode ((48+n:Nat):Int)=gW (nm.toList,n):=by
 have h:Utf8.encode ((48+n:Nat):Int)=⟨#[(48+n).toUInt8]⟩:=by
  have:∀n:Fin 10,Utf8.encode ((48+n.val:Nat):Int)=⟨#[(48+n.val).toUInt8]⟩:=by decide
  exact this ⟨n,by omega⟩
 rw [h];unfold gW;rw [mS];apply ByteArray.ext;apply Array.ext';simp
def qU {w:Wo} {M:List (ByteArray × Value)} (hM:gE skv w b M) (hk:∀k,k∈M.map (·.1)↔∃p∈mpL.reverse,k=gW p) (nm:ByteArray) (n:Nat) (hn:n≤9):
  ∃V,(Instr.lookup 311 (.map (some b)) (.string (nm++⟨#[32]⟩++Utf8.encode ((48+n:Nat):Int))) true).run Tryz.prog w= .ok (.tuple #[V,.bool (elB mpL nm.toList n)]) w:=by
 have:=TH lM lK zero9 hM (nm++⟨#[32]⟩++Utf8.encode ((48+n:Nat):Int));rw [lookB (key_of nm n hn) hn (hk _)] at this;exact⟨_,this⟩
def yD (h:L[i]?=some l) (e:(l==x)=true):L.contains x=true:=by
 rw [NY,rT];exact⟨l,bV h,by rw [tE] at e ⊢;exact e.symm⟩
def yC (h:∀(i:Nat) l,i<L.length→L[i]?=some l→(l==x)=false):L.contains x=false:=by
 rw [yW];intro h2;rw [NY,rT] at h2;obtain⟨l,hl,e⟩:=h2;obtain⟨i,hi⟩:=mQ.1 hl;have h3:=h i l (aZ.1 hi).1 hi;rw [tE] at e;subst e;simp at h3
def zJ:∀n,n<5→(rfL n).length≤1000
 |0,_=>by decide
 |1,_=>cY (by kernel_rfl)
 |2,_=>cY (by kernel_rfl)
 |3,_=>cY (by kernel_rfl)
 |4,_=>cY (by kernel_rfl)
 |n+5,h=>absurd h (by omega)
def qM (h:elB mpL l n=true):cS l n=true:=by unfold cS;rw [h];rfl
def tP (h:(l==callL)=true) (h1:1≤n) (h8:n≤8):cS l n=true:=by unfold cS;rw [h,mN h1,mN h8];simp
def zI (h:n<5) (h2:(rfL n).contains l=true):cS l n=true:=by unfold cS;rw [mN h,h2];simp
def oT (h:elB mpL l n=false) (hc:(l==callL)=false∨n=0∨8<n) (h2:n<5→(rfL n).contains l=false):cS l n=false:=by
 unfold cS;rw [h];have a:(l==callL&&(decide (1≤n)&&decide (n≤8)))=false:=by
  rcases hc with hc|hc|hc
  ·rw [hc];rfl
  ·subst hc;simp
  ·rw [show decide (n≤8)=false from kU (by omega)];simp
 have b:(decide (n<5)&&(rfL n).contains l)=false:=by
  by_cases h5:n<5
  ·rw [h2 h5];simp
  ·rw [kU h5];rfl
 rw [a,b];rfl
def rsys0 (hR:gY) (nm:ByteArray) (w:Wo) (hw:Tryz.prog.globals.size≤w.heap.size) (hN:iC w) (hS:eQ w) (hz:nm.size≤1048576):
  Cz 128 #[.string nm,.int .i64 0] w fun e w'=>iU nm 0 w e w':=by
 obtain⟨W1,W2,W3,W4,W5,W6,W7,W8,W9,W10,W11,W12,W13,W14,W15,W16,hW1,e1,e2,e3,e4,e5,e6,e7,e8,e9,e10,e11,e12,e13,e14,e15,hB,M,hM,hk⟩:=pP w;have b6:(Instr.makeMap 311 none).run Tryz.prog w= .ok (.map (some w.heap.size)) W1:=by rw [hW1];rfl
 obtain⟨V0,hl⟩:=qU hM hk nm 0 (by decide);replace hl:(Instr.lookup 311 (.map (some w.heap.size)) (.string (nm++⟨#[32]⟩++Utf8.encode 48)) true).run Tryz.prog W16= .ok (.tuple #[V0,.bool (elB mpL nm.toList 0)]) W16:=hl;have a0:=aside hB;have b0:Tryz.prog.globals.size≤W16.heap.size:=aE hw hB.size;have a5:=hN.below hB hw;have a8:=qK hS hB hw;obtain⟨_,_,s,_,_,x0,_⟩:=a5 0 (by decide);have dS:=zF 0 (by decide) W16 b0 a5 a8 s x0;have a2:Aside ((rfL 0).contains nm.toList=false→elB mpL nm.toList 0=false→cS nm.toList 0=false):=fun h h2=>oT h2 (.inr (.inl rfl)) (fun _=>h)
 have a3:Aside ((rfL 0).contains nm.toList=true→cS nm.toList 0=true):=fun h=>zI (by decide) h
 have a6:Aside ((rfL 0).length≤1000):=zJ 0 (by decide);obtain⟨LL,hLL⟩:∃L,rfL 0=L:=⟨_,rfl⟩;rw [hLL] at dS a2 a3 a6;obtain⟨ln,hln⟩:∃l,LL.length=l:=⟨_,rfl⟩;have a7:=aside hln;rw [hln] at dS a6;have c1:ln≤1000:=a6.o;have r1:∀w,Cz 210 #[.string ⟨#[63]⟩,.int .i64 0] w fun e w'=>∃s,e= .returned (.string s)∧s.size≤100∧Bz w w':=fun w=>hR 0 w (by decide)
 clear b0 a5 a8 hLL hln;have a4:Aside (elB mpL nm.toList 0=true→cS nm.toList 0=true):=qM;obtain⟨RR,hRR⟩:∃b,cS nm.toList 0=b:=⟨_,rfl⟩;obtain⟨B0,hB0⟩:∃b,elB mpL nm.toList 0=b:=⟨_,rfl⟩;unfold iU;rw [hRR] at a2 a4 a3 ⊢;rw [hB0] at hl a2 a4;have c2:¬9223372036854775807<nm.size+1:=by omega
 have c3:¬9223372036854775807<nm.size+1+(Utf8.encode 48).size:=by
  have:(Utf8.encode 48).size=1:=by decide
  omega
 clear hW1 hk hB hM hRR hB0 hN hS hw;cases B0
 case true=>
  obtain rfl:RR=true:=a4.o rfl;go_enter Tryz.func128,Tryz.ntmps128;go_wp2
  go_ret2
  exact⟨⟨_,rfl⟩,a0.o⟩
 case false=>
  cases hc:(nm.toList== [99,97,108,108])
  case false=>
   have b7:Aside (LL.contains nm.toList=false→RR=false):=fun h=>a2.o h rfl
   go_enter Tryz.func128,Tryz.ntmps128
   go_wp2_with (go_at_call 211;(with_reducible refine dS.mono ?_);rintro e w2 ⟨B,off,cap,rfl,hcl,hb2⟩)
   have b2:=aside hcl;have a1:Aside (Bz w w2):=a0.o.trans (hb2.mono a0.o.size);clear hcl hb2 dS hl b6 e1 e2 e3 e4 e5 e6 e7 e8 e9 e10 e11 e12 e13 e14 e15 x0
   go_loopw [63] (fun iv wr=>∃i:Nat,iv= .int .i64 i∧i≤ln∧(∀(k:Nat) l,k<i→LL[k]?=some l→(l==nm.toList)=false)∧wr=w2) (fun iv _=>ln-(Go.RowKit.intOf iv).toNat)
   case atStart=>exact⟨0,rfl,by omega,fun k p h=>absurd h (rR k),rfl⟩
   case round=>
    obtain⟨i,rfl,hi,hno,hwr⟩:=hrel;subst hwr
    by_cases b9:i<ln
    ·obtain⟨l,hl⟩:∃l,LL[i]?=some l:=⟨_,cE (by rw [a7.o];exact b9)⟩;have y0:=b2.o i l hl;have b5:=aside hl;obtain⟨c0,hi0,hwi⟩:=elt (i:=i) (n:=ln) (by omega) (by omega);have tL:=toL l;obtain⟨s1,hs1⟩:=enm (ByteArray.mk ⟨l⟩);rw [hs1] at y0 tL;have a9:(l==nm.toList)=(s1.toList==nm.toList):=by rw [tL]
     have b4:=aside hno;clear hno hl tL hs1;cases ha:(s1.toList==nm.toList)
     ·have b3:Aside (∀(k:Nat) q,k<i+1→LL[k]?=some q→(q==nm.toList)=false):=fun k q hk hq=>by
       by_cases b8:k<i
       ·exact b4.o k q b8 hq
       ·obtain rfl:k=i:=by omega
        rw [b5.o] at hq;obtain rfl:=bP hq;rw [a9,ha]
      clear a9;go_wp2;exact⟨⟨i+1,by simp,by omega,b3.o,by simp⟩,by simp [Go.RowKit.intOf];omega⟩
     ·obtain rfl:RR=true:=a3.o (yD b5.o (by rw [a9,ha]));clear a9
      go_wp2_with (go_at_call 210;(with_reducible refine(r1 _).mono ?_);rintro e w3 ⟨s3,rfl,_,hb3⟩)
      go_ret2
      exact⟨⟨_,rfl⟩,a1.o.trans (hb3.mono a1.o.size)⟩
    ·obtain rfl:i=ln:=by omega
     obtain rfl:RR=false:=b7.o (yC fun k q hk hq=>hno k q (by rw [←a7.o];exact hk) hq);clear hno;go_wp2
     go_ret2
     exact⟨⟨_,rfl⟩,a1.o⟩
  case true=>
   have b7:Aside (LL.contains nm.toList=false→RR=false):=fun h=>a2.o h rfl
   go_enter Tryz.func128,Tryz.ntmps128
   go_wp2_with (go_at_call 211;(with_reducible refine dS.mono ?_);rintro e w2 ⟨B,off,cap,rfl,hcl,hb2⟩)
   have b2:=aside hcl;have a1:Aside (Bz w w2):=a0.o.trans (hb2.mono a0.o.size);clear hcl hb2 dS hl b6 e1 e2 e3 e4 e5 e6 e7 e8 e9 e10 e11 e12 e13 e14 e15 x0
   go_loopw [63] (fun iv wr=>∃i:Nat,iv= .int .i64 i∧i≤ln∧(∀(k:Nat) l,k<i→LL[k]?=some l→(l==nm.toList)=false)∧wr=w2) (fun iv _=>ln-(Go.RowKit.intOf iv).toNat)
   case atStart=>exact⟨0,rfl,by omega,fun k p h=>absurd h (rR k),rfl⟩
   case round=>
    obtain⟨i,rfl,hi,hno,hwr⟩:=hrel;subst hwr
    by_cases b9:i<ln
    ·obtain⟨l,hl⟩:∃l,LL[i]?=some l:=⟨_,cE (by rw [a7.o];exact b9)⟩;have y0:=b2.o i l hl;have b5:=aside hl;obtain⟨c0,hi0,hwi⟩:=elt (i:=i) (n:=ln) (by omega) (by omega);have tL:=toL l;obtain⟨s1,hs1⟩:=enm (ByteArray.mk ⟨l⟩);rw [hs1] at y0 tL;have a9:(l==nm.toList)=(s1.toList==nm.toList):=by rw [tL]
     have b4:=aside hno;clear hno hl tL hs1;cases ha:(s1.toList==nm.toList)
     ·have b3:Aside (∀(k:Nat) q,k<i+1→LL[k]?=some q→(q==nm.toList)=false):=fun k q hk hq=>by
       by_cases b8:k<i
       ·exact b4.o k q b8 hq
       ·obtain rfl:k=i:=by omega
        rw [b5.o] at hq;obtain rfl:=bP hq;rw [a9,ha]
      clear a9;go_wp2;exact⟨⟨i+1,by simp,by omega,b3.o,by simp⟩,by simp [Go.RowKit.intOf];omega⟩
     ·obtain rfl:RR=true:=a3.o (yD b5.o (by rw [a9,ha]));clear a9
      go_wp2_with (go_at_call 210;(with_reducible refine(r1 _).mono ?_);rintro e w3 ⟨s3,rfl,_,hb3⟩)
      go_ret2
      exact⟨⟨_,rfl⟩,a1.o.trans (hb3.mono a1.o.size)⟩
    ·obtain rfl:i=ln:=by omega
     obtain rfl:RR=false:=b7.o (yC fun k q hk hq=>hno k q (by rw [←a7.o];exact hk) hq);clear hno;go_wp2
     go_ret2
     exact⟨⟨_,rfl⟩,a1.o⟩
def rsys1 (hR:gY) (nm:ByteArray) (w:Wo) (hw:Tryz.prog.globals.size≤w.heap.size) (hN:iC w) (hS:eQ w) (hz:nm.size≤1048576):
  Cz 128 #[.string nm,.int .i64 1] w fun e w'=>iU nm 1 w e w':=by
 obtain⟨W1,W2,W3,W4,W5,W6,W7,W8,W9,W10,W11,W12,W13,W14,W15,W16,hW1,e1,e2,e3,e4,e5,e6,e7,e8,e9,e10,e11,e12,e13,e14,e15,hB,M,hM,hk⟩:=pP w;have b6:(Instr.makeMap 311 none).run Tryz.prog w= .ok (.map (some w.heap.size)) W1:=by rw [hW1];rfl
 obtain⟨V0,hl⟩:=qU hM hk nm 1 (by decide);replace hl:(Instr.lookup 311 (.map (some w.heap.size)) (.string (nm++⟨#[32]⟩++Utf8.encode 49)) true).run Tryz.prog W16= .ok (.tuple #[V0,.bool (elB mpL nm.toList 1)]) W16:=hl;have a0:=aside hB;have b0:Tryz.prog.globals.size≤W16.heap.size:=aE hw hB.size;have a5:=hN.below hB hw;have a8:=qK hS hB hw;obtain⟨_,_,s,_,_,x0,_⟩:=a5 1 (by decide);have dS:=zF 1 (by decide) W16 b0 a5 a8 s x0;have a2:Aside ((rfL 1).contains nm.toList=false→elB mpL nm.toList 1=false→(nm.toList==callL)=false→cS nm.toList 1=false):=fun h h2 h3=>oT h2 (.inl h3) (fun _=>h)
 have a3:Aside ((rfL 1).contains nm.toList=true→cS nm.toList 1=true):=fun h=>zI (by decide) h
 have a6:Aside ((rfL 1).length≤1000):=zJ 1 (by decide);obtain⟨LL,hLL⟩:∃L,rfL 1=L:=⟨_,rfl⟩;rw [hLL] at dS a2 a3 a6;obtain⟨ln,hln⟩:∃l,LL.length=l:=⟨_,rfl⟩;have a7:=aside hln;rw [hln] at dS a6;have c1:ln≤1000:=a6.o;have r1:∀w,Cz 210 #[.string ⟨#[63]⟩,.int .i64 1] w fun e w'=>∃s,e= .returned (.string s)∧s.size≤100∧Bz w w':=fun w=>hR 1 w (by decide)
 clear b0 a5 a8 hLL hln;have r2:∀w,Cz 210 #[.string ⟨#[63]⟩,.int .i64 0] w fun e w'=>∃s,e= .returned (.string s)∧s.size≤100∧Bz w w':=fun w=>hR 0 w (by decide)
 have b1:Aside ((nm.toList==callL)=true→cS nm.toList 1=true):=fun h=>tP h (by decide) (by decide)
 have a4:Aside (elB mpL nm.toList 1=true→cS nm.toList 1=true):=qM;obtain⟨RR,hRR⟩:∃b,cS nm.toList 1=b:=⟨_,rfl⟩;obtain⟨B0,hB0⟩:∃b,elB mpL nm.toList 1=b:=⟨_,rfl⟩;unfold iU;rw [hRR] at a2 a4 a3 b1 ⊢;rw [hB0] at hl a2 a4;have c2:¬9223372036854775807<nm.size+1:=by omega
 have c3:¬9223372036854775807<nm.size+1+(Utf8.encode 49).size:=by
  have:(Utf8.encode 49).size=1:=by decide
  omega
 clear hW1 hk hB hM hRR hB0 hN hS hw;cases B0
 case true=>
  obtain rfl:RR=true:=a4.o rfl;go_enter Tryz.func128,Tryz.ntmps128;go_wp2
  go_ret2
  exact⟨⟨_,rfl⟩,a0.o⟩
 case false=>
  cases hc:(nm.toList== [99,97,108,108])
  case false=>
   have b7:Aside (LL.contains nm.toList=false→RR=false):=fun h=>a2.o h rfl hc
   go_enter Tryz.func128,Tryz.ntmps128
   go_wp2_with (go_at_call 211;(with_reducible refine dS.mono ?_);rintro e w2 ⟨B,off,cap,rfl,hcl,hb2⟩)
   have b2:=aside hcl;have a1:Aside (Bz w w2):=a0.o.trans (hb2.mono a0.o.size);clear hcl hb2 dS hl b6 e1 e2 e3 e4 e5 e6 e7 e8 e9 e10 e11 e12 e13 e14 e15 x0
   go_loopw [63] (fun iv wr=>∃i:Nat,iv= .int .i64 i∧i≤ln∧(∀(k:Nat) l,k<i→LL[k]?=some l→(l==nm.toList)=false)∧wr=w2) (fun iv _=>ln-(Go.RowKit.intOf iv).toNat)
   case atStart=>exact⟨0,rfl,by omega,fun k p h=>absurd h (rR k),rfl⟩
   case round=>
    obtain⟨i,rfl,hi,hno,hwr⟩:=hrel;subst hwr
    by_cases b9:i<ln
    ·obtain⟨l,hl⟩:∃l,LL[i]?=some l:=⟨_,cE (by rw [a7.o];exact b9)⟩;have y0:=b2.o i l hl;have b5:=aside hl;obtain⟨c0,hi0,hwi⟩:=elt (i:=i) (n:=ln) (by omega) (by omega);have tL:=toL l;obtain⟨s1,hs1⟩:=enm (ByteArray.mk ⟨l⟩);rw [hs1] at y0 tL;have a9:(l==nm.toList)=(s1.toList==nm.toList):=by rw [tL]
     have b4:=aside hno;clear hno hl tL hs1;cases ha:(s1.toList==nm.toList)
     ·have b3:Aside (∀(k:Nat) q,k<i+1→LL[k]?=some q→(q==nm.toList)=false):=fun k q hk hq=>by
       by_cases b8:k<i
       ·exact b4.o k q b8 hq
       ·obtain rfl:k=i:=by omega
        rw [b5.o] at hq;obtain rfl:=bP hq;rw [a9,ha]
      clear a9;go_wp2;exact⟨⟨i+1,by simp,by omega,b3.o,by simp⟩,by simp [Go.RowKit.intOf];omega⟩
     ·obtain rfl:RR=true:=a3.o (yD b5.o (by rw [a9,ha]));clear a9
      go_wp2_with (go_at_call 210;(with_reducible refine(r1 _).mono ?_);rintro e w3 ⟨s3,rfl,_,hb3⟩)
      go_ret2
      exact⟨⟨_,rfl⟩,a1.o.trans (hb3.mono a1.o.size)⟩
    ·obtain rfl:i=ln:=by omega
     obtain rfl:RR=false:=b7.o (yC fun k q hk hq=>hno k q (by rw [←a7.o];exact hk) hq);clear hno;go_wp2
     go_ret2
     exact⟨⟨_,rfl⟩,a1.o⟩
  case true=>
   obtain rfl:RR=true:=b1.o hc;go_enter Tryz.func128,Tryz.ntmps128
   go_wp2_with (go_at_call 210;(with_reducible refine(r2 _).mono ?_);rintro e w3 ⟨s3,rfl,hz3,hb3⟩;have c4:¬9223372036854775807<1+s3.size:=(by omega);have c5:¬9223372036854775807<s3.size+1:=(by omega))
   go_ret2
   exact⟨⟨_,rfl⟩,a0.o.trans (hb3.mono a0.o.size)⟩
def rsys2 (hR:gY) (nm:ByteArray) (w:Wo) (hw:Tryz.prog.globals.size≤w.heap.size) (hN:iC w) (hS:eQ w) (hz:nm.size≤1048576):
  Cz 128 #[.string nm,.int .i64 2] w fun e w'=>iU nm 2 w e w':=by
 obtain⟨W1,W2,W3,W4,W5,W6,W7,W8,W9,W10,W11,W12,W13,W14,W15,W16,hW1,e1,e2,e3,e4,e5,e6,e7,e8,e9,e10,e11,e12,e13,e14,e15,hB,M,hM,hk⟩:=pP w;have b6:(Instr.makeMap 311 none).run Tryz.prog w= .ok (.map (some w.heap.size)) W1:=by rw [hW1];rfl
 obtain⟨V0,hl⟩:=qU hM hk nm 2 (by decide);replace hl:(Instr.lookup 311 (.map (some w.heap.size)) (.string (nm++⟨#[32]⟩++Utf8.encode 50)) true).run Tryz.prog W16= .ok (.tuple #[V0,.bool (elB mpL nm.toList 2)]) W16:=hl;have a0:=aside hB;have b0:Tryz.prog.globals.size≤W16.heap.size:=aE hw hB.size;have a5:=hN.below hB hw;have a8:=qK hS hB hw;obtain⟨_,_,s,_,_,x0,_⟩:=a5 2 (by decide);have dS:=zF 2 (by decide) W16 b0 a5 a8 s x0;have a2:Aside ((rfL 2).contains nm.toList=false→elB mpL nm.toList 2=false→(nm.toList==callL)=false→cS nm.toList 2=false):=fun h h2 h3=>oT h2 (.inl h3) (fun _=>h)
 have a3:Aside ((rfL 2).contains nm.toList=true→cS nm.toList 2=true):=fun h=>zI (by decide) h
 have a6:Aside ((rfL 2).length≤1000):=zJ 2 (by decide);obtain⟨LL,hLL⟩:∃L,rfL 2=L:=⟨_,rfl⟩;rw [hLL] at dS a2 a3 a6;obtain⟨ln,hln⟩:∃l,LL.length=l:=⟨_,rfl⟩;have a7:=aside hln;rw [hln] at dS a6;have c1:ln≤1000:=a6.o;have r1:∀w,Cz 210 #[.string ⟨#[63]⟩,.int .i64 2] w fun e w'=>∃s,e= .returned (.string s)∧s.size≤100∧Bz w w':=fun w=>hR 2 w (by decide)
 clear b0 a5 a8 hLL hln;have r2:∀w,Cz 210 #[.string ⟨#[63]⟩,.int .i64 1] w fun e w'=>∃s,e= .returned (.string s)∧s.size≤100∧Bz w w':=fun w=>hR 1 w (by decide)
 have b1:Aside ((nm.toList==callL)=true→cS nm.toList 2=true):=fun h=>tP h (by decide) (by decide)
 have a4:Aside (elB mpL nm.toList 2=true→cS nm.toList 2=true):=qM;obtain⟨RR,hRR⟩:∃b,cS nm.toList 2=b:=⟨_,rfl⟩;obtain⟨B0,hB0⟩:∃b,elB mpL nm.toList 2=b:=⟨_,rfl⟩;unfold iU;rw [hRR] at a2 a4 a3 b1 ⊢;rw [hB0] at hl a2 a4;have c2:¬9223372036854775807<nm.size+1:=by omega
 have c3:¬9223372036854775807<nm.size+1+(Utf8.encode 50).size:=by
  have:(Utf8.encode 50).size=1:=by decide
  omega
 clear hW1 hk hB hM hRR hB0 hN hS hw;cases B0
 case true=>
  obtain rfl:RR=true:=a4.o rfl;go_enter Tryz.func128,Tryz.ntmps128;go_wp2
  go_ret2
  exact⟨⟨_,rfl⟩,a0.o⟩
 case false=>
  cases hc:(nm.toList== [99,97,108,108])
  case false=>
   have b7:Aside (LL.contains nm.toList=false→RR=false):=fun h=>a2.o h rfl hc
   go_enter Tryz.func128,Tryz.ntmps128
   go_wp2_with (go_at_call 211;(with_reducible refine dS.mono ?_);rintro e w2 ⟨B,off,cap,rfl,hcl,hb2⟩)
   have b2:=aside hcl;have a1:Aside (Bz w w2):=a0.o.trans (hb2.mono a0.o.size);clear hcl hb2 dS hl b6 e1 e2 e3 e4 e5 e6 e7 e8 e9 e10 e11 e12 e13 e14 e15 x0
   go_loopw [63] (fun iv wr=>∃i:Nat,iv= .int .i64 i∧i≤ln∧(∀(k:Nat) l,k<i→LL[k]?=some l→(l==nm.toList)=false)∧wr=w2) (fun iv _=>ln-(Go.RowKit.intOf iv).toNat)
   case atStart=>exact⟨0,rfl,by omega,fun k p h=>absurd h (rR k),rfl⟩
   case round=>
    obtain⟨i,rfl,hi,hno,hwr⟩:=hrel;subst hwr
    by_cases b9:i<ln
    ·obtain⟨l,hl⟩:∃l,LL[i]?=some l:=⟨_,cE (by rw [a7.o];exact b9)⟩;have y0:=b2.o i l hl;have b5:=aside hl;obtain⟨c0,hi0,hwi⟩:=elt (i:=i) (n:=ln) (by omega) (by omega);have tL:=toL l;obtain⟨s1,hs1⟩:=enm (ByteArray.mk ⟨l⟩);rw [hs1] at y0 tL;have a9:(l==nm.toList)=(s1.toList==nm.toList):=by rw [tL]
     have b4:=aside hno;clear hno hl tL hs1;cases ha:(s1.toList==nm.toList)
     ·have b3:Aside (∀(k:Nat) q,k<i+1→LL[k]?=some q→(q==nm.toList)=false):=fun k q hk hq=>by
       by_cases b8:k<i
       ·exact b4.o k q b8 hq
       ·obtain rfl:k=i:=by omega
        rw [b5.o] at hq;obtain rfl:=bP hq;rw [a9,ha]
      clear a9;go_wp2;exact⟨⟨i+1,by simp,by omega,b3.o,by simp⟩,by simp [Go.RowKit.intOf];omega⟩
     ·obtain rfl:RR=true:=a3.o (yD b5.o (by rw [a9,ha]));clear a9
      go_wp2_with (go_at_call 210;(with_reducible refine(r1 _).mono ?_);rintro e w3 ⟨s3,rfl,_,hb3⟩)
      go_ret2
      exact⟨⟨_,rfl⟩,a1.o.trans (hb3.mono a1.o.size)⟩
    ·obtain rfl:i=ln:=by omega
     obtain rfl:RR=false:=b7.o (yC fun k q hk hq=>hno k q (by rw [←a7.o];exact hk) hq);clear hno;go_wp2
     go_ret2
     exact⟨⟨_,rfl⟩,a1.o⟩
  case true=>
   obtain rfl:RR=true:=b1.o hc;go_enter Tryz.func128,Tryz.ntmps128
   go_wp2_with (go_at_call 210;(with_reducible refine(r2 _).mono ?_);rintro e w3 ⟨s3,rfl,hz3,hb3⟩;have c4:¬9223372036854775807<1+s3.size:=(by omega);have c5:¬9223372036854775807<s3.size+1:=(by omega))
   go_ret2
   exact⟨⟨_,rfl⟩,a0.o.trans (hb3.mono a0.o.size)⟩
def rsys3 (hR:gY) (nm:ByteArray) (w:Wo) (hw:Tryz.prog.globals.size≤w.heap.size) (hN:iC w) (hS:eQ w) (hz:nm.size≤1048576):
  Cz 128 #[.string nm,.int .i64 3] w fun e w'=>iU nm 3 w e w':=by
 obtain⟨W1,W2,W3,W4,W5,W6,W7,W8,W9,W10,W11,W12,W13,W14,W15,W16,hW1,e1,e2,e3,e4,e5,e6,e7,e8,e9,e10,e11,e12,e13,e14,e15,hB,M,hM,hk⟩:=pP w;have b6:(Instr.makeMap 311 none).run Tryz.prog w= .ok (.map (some w.heap.size)) W1:=by rw [hW1];rfl
 obtain⟨V0,hl⟩:=qU hM hk nm 3 (by decide);replace hl:(Instr.lookup 311 (.map (some w.heap.size)) (.string (nm++⟨#[32]⟩++Utf8.encode 51)) true).run Tryz.prog W16= .ok (.tuple #[V0,.bool (elB mpL nm.toList 3)]) W16:=hl;have a0:=aside hB;have b0:Tryz.prog.globals.size≤W16.heap.size:=aE hw hB.size;have a5:=hN.below hB hw;have a8:=qK hS hB hw;obtain⟨_,_,s,_,_,x0,_⟩:=a5 3 (by decide);have dS:=zF 3 (by decide) W16 b0 a5 a8 s x0;have a2:Aside ((rfL 3).contains nm.toList=false→elB mpL nm.toList 3=false→(nm.toList==callL)=false→cS nm.toList 3=false):=fun h h2 h3=>oT h2 (.inl h3) (fun _=>h)
 have a3:Aside ((rfL 3).contains nm.toList=true→cS nm.toList 3=true):=fun h=>zI (by decide) h
 have a6:Aside ((rfL 3).length≤1000):=zJ 3 (by decide);obtain⟨LL,hLL⟩:∃L,rfL 3=L:=⟨_,rfl⟩;rw [hLL] at dS a2 a3 a6;obtain⟨ln,hln⟩:∃l,LL.length=l:=⟨_,rfl⟩;have a7:=aside hln;rw [hln] at dS a6;have c1:ln≤1000:=a6.o;have r1:∀w,Cz 210 #[.string ⟨#[63]⟩,.int .i64 3] w fun e w'=>∃s,e= .returned (.string s)∧s.size≤100∧Bz w w':=fun w=>hR 3 w (by decide)
 clear b0 a5 a8 hLL hln;have r2:∀w,Cz 210 #[.string ⟨#[63]⟩,.int .i64 2] w fun e w'=>∃s,e= .returned (.string s)∧s.size≤100∧Bz w w':=fun w=>hR 2 w (by decide)
 have b1:Aside ((nm.toList==callL)=true→cS nm.toList 3=true):=fun h=>tP h (by decide) (by decide)
 have a4:Aside (elB mpL nm.toList 3=true→cS nm.toList 3=true):=qM;obtain⟨RR,hRR⟩:∃b,cS nm.toList 3=b:=⟨_,rfl⟩;obtain⟨B0,hB0⟩:∃b,elB mpL nm.toList 3=b:=⟨_,rfl⟩;unfold iU;rw [hRR] at a2 a4 a3 b1 ⊢;rw [hB0] at hl a2 a4;have c2:¬9223372036854775807<nm.size+1:=by omega
 have c3:¬9223372036854775807<nm.size+1+(Utf8.encode 51).size:=by
  have:(Utf8.encode 51).size=1:=by decide
  omega
 clear hW1 hk hB hM hRR hB0 hN hS hw;cases B0
 case true=>
  obtain rfl:RR=true:=a4.o rfl;go_enter Tryz.func128,Tryz.ntmps128;go_wp2
  go_ret2
  exact⟨⟨_,rfl⟩,a0.o⟩
 case false=>
  cases hc:(nm.toList== [99,97,108,108])
  case false=>
   have b7:Aside (LL.contains nm.toList=false→RR=false):=fun h=>a2.o h rfl hc
   go_enter Tryz.func128,Tryz.ntmps128
   go_wp2_with (go_at_call 211;(with_reducible refine dS.mono ?_);rintro e w2 ⟨B,off,cap,rfl,hcl,hb2⟩)
   have b2:=aside hcl;have a1:Aside (Bz w w2):=a0.o.trans (hb2.mono a0.o.size);clear hcl hb2 dS hl b6 e1 e2 e3 e4 e5 e6 e7 e8 e9 e10 e11 e12 e13 e14 e15 x0
   go_loopw [63] (fun iv wr=>∃i:Nat,iv= .int .i64 i∧i≤ln∧(∀(k:Nat) l,k<i→LL[k]?=some l→(l==nm.toList)=false)∧wr=w2) (fun iv _=>ln-(Go.RowKit.intOf iv).toNat)
   case atStart=>exact⟨0,rfl,by omega,fun k p h=>absurd h (rR k),rfl⟩
   case round=>
    obtain⟨i,rfl,hi,hno,hwr⟩:=hrel;subst hwr
    by_cases b9:i<ln
    ·obtain⟨l,hl⟩:∃l,LL[i]?=some l:=⟨_,cE (by rw [a7.o];exact b9)⟩;have y0:=b2.o i l hl;have b5:=aside hl;obtain⟨c0,hi0,hwi⟩:=elt (i:=i) (n:=ln) (by omega) (by omega);have tL:=toL l;obtain⟨s1,hs1⟩:=enm (ByteArray.mk ⟨l⟩);rw [hs1] at y0 tL;have a9:(l==nm.toList)=(s1.toList==nm.toList):=by rw [tL]
     have b4:=aside hno;clear hno hl tL hs1;cases ha:(s1.toList==nm.toList)
     ·have b3:Aside (∀(k:Nat) q,k<i+1→LL[k]?=some q→(q==nm.toList)=false):=fun k q hk hq=>by
       by_cases b8:k<i
       ·exact b4.o k q b8 hq
       ·obtain rfl:k=i:=by omega
        rw [b5.o] at hq;obtain rfl:=bP hq;rw [a9,ha]
      clear a9;go_wp2;exact⟨⟨i+1,by simp,by omega,b3.o,by simp⟩,by simp [Go.RowKit.intOf];omega⟩
     ·obtain rfl:RR=true:=a3.o (yD b5.o (by rw [a9,ha]));clear a9
      go_wp2_with (go_at_call 210;(with_reducible refine(r1 _).mono ?_);rintro e w3 ⟨s3,rfl,_,hb3⟩)
      go_ret2
      exact⟨⟨_,rfl⟩,a1.o.trans (hb3.mono a1.o.size)⟩
    ·obtain rfl:i=ln:=by omega
     obtain rfl:RR=false:=b7.o (yC fun k q hk hq=>hno k q (by rw [←a7.o];exact hk) hq);clear hno;go_wp2
     go_ret2
     exact⟨⟨_,rfl⟩,a1.o⟩
  case true=>
   obtain rfl:RR=true:=b1.o hc;go_enter Tryz.func128,Tryz.ntmps128
   go_wp2_with (go_at_call 210;(with_reducible refine(r2 _).mono ?_);rintro e w3 ⟨s3,rfl,hz3,hb3⟩;have c4:¬9223372036854775807<1+s3.size:=(by omega);have c5:¬9223372036854775807<s3.size+1:=(by omega))
   go_ret2
   exact⟨⟨_,rfl⟩,a0.o.trans (hb3.mono a0.o.size)⟩
def rsys4 (hR:gY) (nm:ByteArray) (w:Wo) (hw:Tryz.prog.globals.size≤w.heap.size) (hN:iC w) (hS:eQ w) (hz:nm.size≤1048576):
  Cz 128 #[.string nm,.int .i64 4] w fun e w'=>iU nm 4 w e w':=by
 obtain⟨W1,W2,W3,W4,W5,W6,W7,W8,W9,W10,W11,W12,W13,W14,W15,W16,hW1,e1,e2,e3,e4,e5,e6,e7,e8,e9,e10,e11,e12,e13,e14,e15,hB,M,hM,hk⟩:=pP w;have b6:(Instr.makeMap 311 none).run Tryz.prog w= .ok (.map (some w.heap.size)) W1:=by rw [hW1];rfl
 obtain⟨V0,hl⟩:=qU hM hk nm 4 (by decide);replace hl:(Instr.lookup 311 (.map (some w.heap.size)) (.string (nm++⟨#[32]⟩++Utf8.encode 52)) true).run Tryz.prog W16= .ok (.tuple #[V0,.bool (elB mpL nm.toList 4)]) W16:=hl;have a0:=aside hB;have b0:Tryz.prog.globals.size≤W16.heap.size:=aE hw hB.size;have a5:=hN.below hB hw;have a8:=qK hS hB hw;obtain⟨_,_,s,_,_,x0,_⟩:=a5 4 (by decide);have dS:=zF 4 (by decide) W16 b0 a5 a8 s x0;have a2:Aside ((rfL 4).contains nm.toList=false→elB mpL nm.toList 4=false→(nm.toList==callL)=false→cS nm.toList 4=false):=fun h h2 h3=>oT h2 (.inl h3) (fun _=>h)
 have a3:Aside ((rfL 4).contains nm.toList=true→cS nm.toList 4=true):=fun h=>zI (by decide) h
 have a6:Aside ((rfL 4).length≤1000):=zJ 4 (by decide);obtain⟨LL,hLL⟩:∃L,rfL 4=L:=⟨_,rfl⟩;rw [hLL] at dS a2 a3 a6;obtain⟨ln,hln⟩:∃l,LL.length=l:=⟨_,rfl⟩;have a7:=aside hln;rw [hln] at dS a6;have c1:ln≤1000:=a6.o;have r1:∀w,Cz 210 #[.string ⟨#[63]⟩,.int .i64 4] w fun e w'=>∃s,e= .returned (.string s)∧s.size≤100∧Bz w w':=fun w=>hR 4 w (by decide)
 clear b0 a5 a8 hLL hln;have r2:∀w,Cz 210 #[.string ⟨#[63]⟩,.int .i64 3] w fun e w'=>∃s,e= .returned (.string s)∧s.size≤100∧Bz w w':=fun w=>hR 3 w (by decide)
 have b1:Aside ((nm.toList==callL)=true→cS nm.toList 4=true):=fun h=>tP h (by decide) (by decide)
 have a4:Aside (elB mpL nm.toList 4=true→cS nm.toList 4=true):=qM;obtain⟨RR,hRR⟩:∃b,cS nm.toList 4=b:=⟨_,rfl⟩;obtain⟨B0,hB0⟩:∃b,elB mpL nm.toList 4=b:=⟨_,rfl⟩;unfold iU;rw [hRR] at a2 a4 a3 b1 ⊢;rw [hB0] at hl a2 a4;have c2:¬9223372036854775807<nm.size+1:=by omega
 have c3:¬9223372036854775807<nm.size+1+(Utf8.encode 52).size:=by
  have:(Utf8.encode 52).size=1:=by decide
  omega
 clear hW1 hk hB hM hRR hB0 hN hS hw;cases B0
 case true=>
  obtain rfl:RR=true:=a4.o rfl;go_enter Tryz.func128,Tryz.ntmps128;go_wp2
  go_ret2
  exact⟨⟨_,rfl⟩,a0.o⟩
 case false=>
  cases hc:(nm.toList== [99,97,108,108])
  case false=>
   have b7:Aside (LL.contains nm.toList=false→RR=false):=fun h=>a2.o h rfl hc
   go_enter Tryz.func128,Tryz.ntmps128
   go_wp2_with (go_at_call 211;(with_reducible refine dS.mono ?_);rintro e w2 ⟨B,off,cap,rfl,hcl,hb2⟩)
   have b2:=aside hcl;have a1:Aside (Bz w w2):=a0.o.trans (hb2.mono a0.o.size);clear hcl hb2 dS hl b6 e1 e2 e3 e4 e5 e6 e7 e8 e9 e10 e11 e12 e13 e14 e15 x0
   go_loopw [63] (fun iv wr=>∃i:Nat,iv= .int .i64 i∧i≤ln∧(∀(k:Nat) l,k<i→LL[k]?=some l→(l==nm.toList)=false)∧wr=w2) (fun iv _=>ln-(Go.RowKit.intOf iv).toNat)
   case atStart=>exact⟨0,rfl,by omega,fun k p h=>absurd h (rR k),rfl⟩
   case round=>
    obtain⟨i,rfl,hi,hno,hwr⟩:=hrel;subst hwr
    by_cases b9:i<ln
    ·obtain⟨l,hl⟩:∃l,LL[i]?=some l:=⟨_,cE (by rw [a7.o];exact b9)⟩;have y0:=b2.o i l hl;have b5:=aside hl;obtain⟨c0,hi0,hwi⟩:=elt (i:=i) (n:=ln) (by omega) (by omega);have tL:=toL l;obtain⟨s1,hs1⟩:=enm (ByteArray.mk ⟨l⟩);rw [hs1] at y0 tL;have a9:(l==nm.toList)=(s1.toList==nm.toList):=by rw [tL]
     have b4:=aside hno;clear hno hl tL hs1;cases ha:(s1.toList==nm.toList)
     ·have b3:Aside (∀(k:Nat) q,k<i+1→LL[k]?=some q→(q==nm.toList)=false):=fun k q hk hq=>by
       by_cases b8:k<i
       ·exact b4.o k q b8 hq
       ·obtain rfl:k=i:=by omega
        rw [b5.o] at hq;obtain rfl:=bP hq;rw [a9,ha]
      clear a9;go_wp2;exact⟨⟨i+1,by simp,by omega,b3.o,by simp⟩,by simp [Go.RowKit.intOf];omega⟩
     ·obtain rfl:RR=true:=a3.o (yD b5.o (by rw [a9,ha]));clear a9
      go_wp2_with (go_at_call 210;(with_reducible refine(r1 _).mono ?_);rintro e w3 ⟨s3,rfl,_,hb3⟩)
      go_ret2
      exact⟨⟨_,rfl⟩,a1.o.trans (hb3.mono a1.o.size)⟩
    ·obtain rfl:i=ln:=by omega
     obtain rfl:RR=false:=b7.o (yC fun k q hk hq=>hno k q (by rw [←a7.o];exact hk) hq);clear hno;go_wp2
     go_ret2
     exact⟨⟨_,rfl⟩,a1.o⟩
  case true=>
   obtain rfl:RR=true:=b1.o hc;go_enter Tryz.func128,Tryz.ntmps128
   go_wp2_with (go_at_call 210;(with_reducible refine(r2 _).mono ?_);rintro e w3 ⟨s3,rfl,hz3,hb3⟩;have c4:¬9223372036854775807<1+s3.size:=(by omega);have c5:¬9223372036854775807<s3.size+1:=(by omega))
   go_ret2
   exact⟨⟨_,rfl⟩,a0.o.trans (hb3.mono a0.o.size)⟩
def rsys5 (hR:gY) (nm:ByteArray) (w:Wo) (hw:Tryz.prog.globals.size≤w.heap.size) (hN:iC w) (hS:eQ w) (hz:nm.size≤1048576):
  Cz 128 #[.string nm,.int .i64 5] w fun e w'=>iU nm 5 w e w':=by
 obtain⟨W1,W2,W3,W4,W5,W6,W7,W8,W9,W10,W11,W12,W13,W14,W15,W16,hW1,e1,e2,e3,e4,e5,e6,e7,e8,e9,e10,e11,e12,e13,e14,e15,hB,M,hM,hk⟩:=pP w;have b6:(Instr.makeMap 311 none).run Tryz.prog w= .ok (.map (some w.heap.size)) W1:=by rw [hW1];rfl
 obtain⟨V0,hl⟩:=qU hM hk nm 5 (by decide);replace hl:(Instr.lookup 311 (.map (some w.heap.size)) (.string (nm++⟨#[32]⟩++Utf8.encode 53)) true).run Tryz.prog W16= .ok (.tuple #[V0,.bool (elB mpL nm.toList 5)]) W16:=hl;have a0:=aside hB;have a2:Aside (elB mpL nm.toList 5=false→(nm.toList==callL)=false→cS nm.toList 5=false):=fun h2 h3=>oT h2 (.inl h3) (fun h=>absurd h (by decide))
 have r2:∀w,Cz 210 #[.string ⟨#[63]⟩,.int .i64 4] w fun e w'=>∃s,e= .returned (.string s)∧s.size≤100∧Bz w w':=fun w=>hR 4 w (by decide)
 have b1:Aside ((nm.toList==callL)=true→cS nm.toList 5=true):=fun h=>tP h (by decide) (by decide)
 have a4:Aside (elB mpL nm.toList 5=true→cS nm.toList 5=true):=qM;obtain⟨RR,hRR⟩:∃b,cS nm.toList 5=b:=⟨_,rfl⟩;obtain⟨B0,hB0⟩:∃b,elB mpL nm.toList 5=b:=⟨_,rfl⟩;unfold iU;rw [hRR] at a2 a4 b1 ⊢;rw [hB0] at hl a2 a4;have c2:¬9223372036854775807<nm.size+1:=by omega
 have c3:¬9223372036854775807<nm.size+1+(Utf8.encode 53).size:=by
  have:(Utf8.encode 53).size=1:=by decide
  omega
 clear hW1 hk hB hM hRR hB0 hN hS hw;cases B0
 case true=>
  obtain rfl:RR=true:=a4.o rfl;go_enter Tryz.func128,Tryz.ntmps128;go_wp2
  go_ret2
  exact⟨⟨_,rfl⟩,a0.o⟩
 case false=>
  cases hc:(nm.toList== [99,97,108,108])
  case false=>
   obtain rfl:RR=false:=a2.o rfl hc;go_enter Tryz.func128,Tryz.ntmps128;go_wp2
   go_ret2
   exact⟨⟨_,rfl⟩,a0.o⟩
  case true=>
   obtain rfl:RR=true:=b1.o hc;go_enter Tryz.func128,Tryz.ntmps128
   go_wp2_with (go_at_call 210;(with_reducible refine(r2 _).mono ?_);rintro e w3 ⟨s3,rfl,hz3,hb3⟩;have c4:¬9223372036854775807<1+s3.size:=(by omega);have c5:¬9223372036854775807<s3.size+1:=(by omega))
   go_ret2
   exact⟨⟨_,rfl⟩,a0.o.trans (hb3.mono a0.o.size)⟩
def rsys6 (hR:gY) (nm:ByteArray) (w:Wo) (hw:Tryz.prog.globals.size≤w.heap.size) (hN:iC w) (hS:eQ w) (hz:nm.size≤1048576):
  Cz 128 #[.string nm,.int .i64 6] w fun e w'=>iU nm 6 w e w':=by
 obtain⟨W1,W2,W3,W4,W5,W6,W7,W8,W9,W10,W11,W12,W13,W14,W15,W16,hW1,e1,e2,e3,e4,e5,e6,e7,e8,e9,e10,e11,e12,e13,e14,e15,hB,M,hM,hk⟩:=pP w;have b6:(Instr.makeMap 311 none).run Tryz.prog w= .ok (.map (some w.heap.size)) W1:=by rw [hW1];rfl
 obtain⟨V0,hl⟩:=qU hM hk nm 6 (by decide);replace hl:(Instr.lookup 311 (.map (some w.heap.size)) (.string (nm++⟨#[32]⟩++Utf8.encode 54)) true).run Tryz.prog W16= .ok (.tuple #[V0,.bool (elB mpL nm.toList 6)]) W16:=hl;have a0:=aside hB;have a2:Aside (elB mpL nm.toList 6=false→(nm.toList==callL)=false→cS nm.toList 6=false):=fun h2 h3=>oT h2 (.inl h3) (fun h=>absurd h (by decide))
 have r2:∀w,Cz 210 #[.string ⟨#[63]⟩,.int .i64 5] w fun e w'=>∃s,e= .returned (.string s)∧s.size≤100∧Bz w w':=fun w=>hR 5 w (by decide)
 have b1:Aside ((nm.toList==callL)=true→cS nm.toList 6=true):=fun h=>tP h (by decide) (by decide)
 have a4:Aside (elB mpL nm.toList 6=true→cS nm.toList 6=true):=qM;obtain⟨RR,hRR⟩:∃b,cS nm.toList 6=b:=⟨_,rfl⟩;obtain⟨B0,hB0⟩:∃b,elB mpL nm.toList 6=b:=⟨_,rfl⟩;unfold iU;rw [hRR] at a2 a4 b1 ⊢;rw [hB0] at hl a2 a4;have c2:¬9223372036854775807<nm.size+1:=by omega
 have c3:¬9223372036854775807<nm.size+1+(Utf8.encode 54).size:=by
  have:(Utf8.encode 54).size=1:=by decide
  omega
 clear hW1 hk hB hM hRR hB0 hN hS hw;cases B0
 case true=>
  obtain rfl:RR=true:=a4.o rfl;go_enter Tryz.func128,Tryz.ntmps128;go_wp2
  go_ret2
  exact⟨⟨_,rfl⟩,a0.o⟩
 case false=>
  cases hc:(nm.toList== [99,97,108,108])
  case false=>
   obtain rfl:RR=false:=a2.o rfl hc;go_enter Tryz.func128,Tryz.ntmps128;go_wp2
   go_ret2
   exact⟨⟨_,rfl⟩,a0.o⟩
  case true=>
   obtain rfl:RR=true:=b1.o hc;go_enter Tryz.func128,Tryz.ntmps128
   go_wp2_with (go_at_call 210;(with_reducible refine(r2 _).mono ?_);rintro e w3 ⟨s3,rfl,hz3,hb3⟩;have c4:¬9223372036854775807<1+s3.size:=(by omega);have c5:¬9223372036854775807<s3.size+1:=(by omega))
   go_ret2
   exact⟨⟨_,rfl⟩,a0.o.trans (hb3.mono a0.o.size)⟩
def rsys7 (hR:gY) (nm:ByteArray) (w:Wo) (hw:Tryz.prog.globals.size≤w.heap.size) (hN:iC w) (hS:eQ w) (hz:nm.size≤1048576):
  Cz 128 #[.string nm,.int .i64 7] w fun e w'=>iU nm 7 w e w':=by
 obtain⟨W1,W2,W3,W4,W5,W6,W7,W8,W9,W10,W11,W12,W13,W14,W15,W16,hW1,e1,e2,e3,e4,e5,e6,e7,e8,e9,e10,e11,e12,e13,e14,e15,hB,M,hM,hk⟩:=pP w;have b6:(Instr.makeMap 311 none).run Tryz.prog w= .ok (.map (some w.heap.size)) W1:=by rw [hW1];rfl
 obtain⟨V0,hl⟩:=qU hM hk nm 7 (by decide);replace hl:(Instr.lookup 311 (.map (some w.heap.size)) (.string (nm++⟨#[32]⟩++Utf8.encode 55)) true).run Tryz.prog W16= .ok (.tuple #[V0,.bool (elB mpL nm.toList 7)]) W16:=hl;have a0:=aside hB;have a2:Aside (elB mpL nm.toList 7=false→(nm.toList==callL)=false→cS nm.toList 7=false):=fun h2 h3=>oT h2 (.inl h3) (fun h=>absurd h (by decide))
 have r2:∀w,Cz 210 #[.string ⟨#[63]⟩,.int .i64 6] w fun e w'=>∃s,e= .returned (.string s)∧s.size≤100∧Bz w w':=fun w=>hR 6 w (by decide)
 have b1:Aside ((nm.toList==callL)=true→cS nm.toList 7=true):=fun h=>tP h (by decide) (by decide)
 have a4:Aside (elB mpL nm.toList 7=true→cS nm.toList 7=true):=qM;obtain⟨RR,hRR⟩:∃b,cS nm.toList 7=b:=⟨_,rfl⟩;obtain⟨B0,hB0⟩:∃b,elB mpL nm.toList 7=b:=⟨_,rfl⟩;unfold iU;rw [hRR] at a2 a4 b1 ⊢;rw [hB0] at hl a2 a4;have c2:¬9223372036854775807<nm.size+1:=by omega
 have c3:¬9223372036854775807<nm.size+1+(Utf8.encode 55).size:=by
  have:(Utf8.encode 55).size=1:=by decide
  omega
 clear hW1 hk hB hM hRR hB0 hN hS hw;cases B0
 case true=>
  obtain rfl:RR=true:=a4.o rfl;go_enter Tryz.func128,Tryz.ntmps128;go_wp2
  go_ret2
  exact⟨⟨_,rfl⟩,a0.o⟩
 case false=>
  cases hc:(nm.toList== [99,97,108,108])
  case false=>
   obtain rfl:RR=false:=a2.o rfl hc;go_enter Tryz.func128,Tryz.ntmps128;go_wp2
   go_ret2
   exact⟨⟨_,rfl⟩,a0.o⟩
  case true=>
   obtain rfl:RR=true:=b1.o hc;go_enter Tryz.func128,Tryz.ntmps128
   go_wp2_with (go_at_call 210;(with_reducible refine(r2 _).mono ?_);rintro e w3 ⟨s3,rfl,hz3,hb3⟩;have c4:¬9223372036854775807<1+s3.size:=(by omega);have c5:¬9223372036854775807<s3.size+1:=(by omega))
   go_ret2
   exact⟨⟨_,rfl⟩,a0.o.trans (hb3.mono a0.o.size)⟩
def rsys8 (hR:gY) (nm:ByteArray) (w:Wo) (hw:Tryz.prog.globals.size≤w.heap.size) (hN:iC w) (hS:eQ w) (hz:nm.size≤1048576):
  Cz 128 #[.string nm,.int .i64 8] w fun e w'=>iU nm 8 w e w':=by
 obtain⟨W1,W2,W3,W4,W5,W6,W7,W8,W9,W10,W11,W12,W13,W14,W15,W16,hW1,e1,e2,e3,e4,e5,e6,e7,e8,e9,e10,e11,e12,e13,e14,e15,hB,M,hM,hk⟩:=pP w;have b6:(Instr.makeMap 311 none).run Tryz.prog w= .ok (.map (some w.heap.size)) W1:=by rw [hW1];rfl
 obtain⟨V0,hl⟩:=qU hM hk nm 8 (by decide);replace hl:(Instr.lookup 311 (.map (some w.heap.size)) (.string (nm++⟨#[32]⟩++Utf8.encode 56)) true).run Tryz.prog W16= .ok (.tuple #[V0,.bool (elB mpL nm.toList 8)]) W16:=hl;have a0:=aside hB;have a2:Aside (elB mpL nm.toList 8=false→(nm.toList==callL)=false→cS nm.toList 8=false):=fun h2 h3=>oT h2 (.inl h3) (fun h=>absurd h (by decide))
 have r2:∀w,Cz 210 #[.string ⟨#[63]⟩,.int .i64 7] w fun e w'=>∃s,e= .returned (.string s)∧s.size≤100∧Bz w w':=fun w=>hR 7 w (by decide)
 have b1:Aside ((nm.toList==callL)=true→cS nm.toList 8=true):=fun h=>tP h (by decide) (by decide)
 have a4:Aside (elB mpL nm.toList 8=true→cS nm.toList 8=true):=qM;obtain⟨RR,hRR⟩:∃b,cS nm.toList 8=b:=⟨_,rfl⟩;obtain⟨B0,hB0⟩:∃b,elB mpL nm.toList 8=b:=⟨_,rfl⟩;unfold iU;rw [hRR] at a2 a4 b1 ⊢;rw [hB0] at hl a2 a4;have c2:¬9223372036854775807<nm.size+1:=by omega
 have c3:¬9223372036854775807<nm.size+1+(Utf8.encode 56).size:=by
  have:(Utf8.encode 56).size=1:=by decide
  omega
 clear hW1 hk hB hM hRR hB0 hN hS hw;cases B0
 case true=>
  obtain rfl:RR=true:=a4.o rfl;go_enter Tryz.func128,Tryz.ntmps128;go_wp2
  go_ret2
  exact⟨⟨_,rfl⟩,a0.o⟩
 case false=>
  cases hc:(nm.toList== [99,97,108,108])
  case false=>
   obtain rfl:RR=false:=a2.o rfl hc;go_enter Tryz.func128,Tryz.ntmps128;go_wp2
   go_ret2
   exact⟨⟨_,rfl⟩,a0.o⟩
  case true=>
   obtain rfl:RR=true:=b1.o hc;go_enter Tryz.func128,Tryz.ntmps128
   go_wp2_with (go_at_call 210;(with_reducible refine(r2 _).mono ?_);rintro e w3 ⟨s3,rfl,hz3,hb3⟩;have c4:¬9223372036854775807<1+s3.size:=(by omega);have c5:¬9223372036854775807<s3.size+1:=(by omega))
   go_ret2
   exact⟨⟨_,rfl⟩,a0.o.trans (hb3.mono a0.o.size)⟩
def rsys9 (hR:gY) (nm:ByteArray) (w:Wo) (hw:Tryz.prog.globals.size≤w.heap.size) (hN:iC w) (hS:eQ w) (hz:nm.size≤1048576):
  Cz 128 #[.string nm,.int .i64 9] w fun e w'=>iU nm 9 w e w':=by
 obtain⟨W1,W2,W3,W4,W5,W6,W7,W8,W9,W10,W11,W12,W13,W14,W15,W16,hW1,e1,e2,e3,e4,e5,e6,e7,e8,e9,e10,e11,e12,e13,e14,e15,hB,M,hM,hk⟩:=pP w;have b6:(Instr.makeMap 311 none).run Tryz.prog w= .ok (.map (some w.heap.size)) W1:=by rw [hW1];rfl
 obtain⟨V0,hl⟩:=qU hM hk nm 9 (by decide);replace hl:(Instr.lookup 311 (.map (some w.heap.size)) (.string (nm++⟨#[32]⟩++Utf8.encode 57)) true).run Tryz.prog W16= .ok (.tuple #[V0,.bool (elB mpL nm.toList 9)]) W16:=hl;have a0:=aside hB;have a2:Aside (elB mpL nm.toList 9=false→cS nm.toList 9=false):=fun h2=>oT h2 (.inr (.inr (by decide))) (fun h=>absurd h (by decide))
 have a4:Aside (elB mpL nm.toList 9=true→cS nm.toList 9=true):=qM;obtain⟨RR,hRR⟩:∃b,cS nm.toList 9=b:=⟨_,rfl⟩;obtain⟨B0,hB0⟩:∃b,elB mpL nm.toList 9=b:=⟨_,rfl⟩;unfold iU;rw [hRR] at a2 a4 ⊢;rw [hB0] at hl a2 a4;have c2:¬9223372036854775807<nm.size+1:=by omega
 have c3:¬9223372036854775807<nm.size+1+(Utf8.encode 57).size:=by
  have:(Utf8.encode 57).size=1:=by decide
  omega
 clear hW1 hk hB hM hRR hB0 hN hS hw;cases B0
 case true=>
  obtain rfl:RR=true:=a4.o rfl;go_enter Tryz.func128,Tryz.ntmps128;go_wp2
  go_ret2
  exact⟨⟨_,rfl⟩,a0.o⟩
 case false=>
  cases hc:(nm.toList== [99,97,108,108])
  case false=>
   obtain rfl:RR=false:=a2.o rfl;go_enter Tryz.func128,Tryz.ntmps128;go_wp2
   go_ret2
   exact⟨⟨_,rfl⟩,a0.o⟩
  case true=>
   obtain rfl:RR=false:=a2.o rfl;go_enter Tryz.func128,Tryz.ntmps128;go_wp2
   go_ret2
   exact⟨⟨_,rfl⟩,a0.o⟩
end Go.Proofs.YtealgacfnbbgdaaGreatDoor
namespace Go.Proofs.YtealgacfnbbgdaaGreatDoor
open Go.RowKit Go.Big Go.RowsK
mutual
def Tm.gls:Tm→List Tm
 | .mk k v nm g num den args=>if jS k nm.toList args.length then Tm.glsL args else [.mk k v nm g num den args]
def Tm.glsL:List Tm→List Tm
 | []=>[]
 |T::r=>Tm.gls T++Tm.glsL r
end
mutual
theorem uJ:∀T:Tm,T.gls.length≤T.nodes
 | .mk k v nm g num den args=>by
  simp only [Tm.gls,Tm.nodes];split
  ·have:=KQ args;omega
  ·simp
theorem KQ:∀L:List Tm,(Tm.glsL L).length≤Tm.nodesL L
 | []=>by simp [Tm.glsL]
 |T::r=>by
  simp only [Tm.glsL,Tm.nodesL,aV];have:=uJ T;have:=KQ r;omega
end
def UW:∀(L M:List Tm),Tm.glsL (L++M)=Tm.glsL L++Tm.glsL M
 | [],M=>rfl
 |T::r,M=>by simp only [mF,Tm.glsL,UW r M,iP]
def US {L:List Tm} {i:Nat} {T:Tm} (h:L[i]?=some T):Tm.glsL (L.take (i+1))=Tm.glsL (L.take i)++T.gls:=by
 rw [mA,h,ZQ,UW];simp [Tm.glsL]
def TmV.seven {n:Nat} {w:Wo} {T:Tm} {vs:Lv} (h:TmV n w T vs):∃k3 v3 a0 g3 p3 n3 q3 r3 m3 u3 a3 l3 c3,vs= [.int .i64 k3,.int .i64 v3,.string a0,.bool g3,.slice p3 n3 q3,.slice r3 m3 u3,.slice a3 l3 c3]:=by
 obtain⟨k,v,nm,g,num,den,args⟩:=T;simp only [TmV] at h;obtain⟨_,_,a,c,rfl,⟨⟨p1,q1,rfl,_⟩,⟨p2,q2,rfl,_⟩⟩,_⟩:=h;exact⟨_,_,_,_,_,_,_,_,_,_,_,_,_,rfl⟩
