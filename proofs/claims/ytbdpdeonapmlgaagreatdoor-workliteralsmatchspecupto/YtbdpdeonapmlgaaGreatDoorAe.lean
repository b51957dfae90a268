/- Lemmas for the text Card; no condition. -/
import Derived.Test.YtbdpdeonapmlgaaGreatDoorAd
import Derived.Shelf.Small.Bits
set_option linter.all false
set_option maxHeartbeats 4000000
set_option maxRecDepth 100000
namespace Go.Proofs.YtbdpdeonapmlgaaGreatDoor
open Go.RowKit Go.Big
theorem qD (a:Option Addr) (len cap n:Nat) (L:List Nat) (a0:L.length=len) (a2:len<4611686018427387904) (a3:len≤cap) (w:World) (hn:n≤w.heap.size) (h1:bV n w a L):
  Calls Tryz.prog 360 #[.slice a len cap] w fun e w'=>∃k,e= .returned (.slice a k cap)∧jH L k∧Below w.heap.size w w':=by
 go_enter Tryz.func360,Tryz.ntmps360;go_wp2
 go_loopw [0] (fun s wr=>∃k:Nat,s= .slice a k cap∧k≤len∧(∀x∈L.drop k,x=0)∧Below w.heap.size w wr) (fun s _=>xE s)
 case atStart=>exact⟨len,rfl,aA _,by rw [←a0,BJ];simp,aI _ _⟩
 case round=>
  obtain⟨k,rfl,hk,hz,hB⟩:=hrel
  by_cases a1:k=0
  ·subst a1;go_wp2
   go_ret
   exact⟨0,rfl,⟨aT _,hz,.inl rfl⟩,hB⟩
  ·obtain⟨k',rfl⟩:∃k',k=k'+1:=⟨k-1,by omega⟩;obtain⟨x,hx⟩:∃x,L[k']?=some x:=⟨L[k'],aL (by omega)⟩;obtain⟨b,off,rfl,hb,hxl,hc⟩:=(h1.below hB hn).get hx;have a9:IntKind.i64.wrap (k':Int)=k':=HK (by omega);have a4:(k':Int)<(k':Int)+1:=by omega
   have a5:(0:Int)≤(k':Int):=by omega
   have a6:(0:Int)<(k':Int)+1:=by omega
   have a7:(k':Int)≤(cap:Int):=by omega
   have a8:¬(cap:Int)<(k':Int):=by omega
   clear h1 a1
   by_cases h0:x=0
   ·subst h0;go_wp2;refine⟨⟨k',rfl,by omega,fun y hy=>?_,hB⟩,by simp [xE]⟩;rw [oI (by omega)] at hy;rcases cD.1 hy with rfl|hy
    ·exact(List.getElem?_eq_some_iff.1 hx).2
    ·exact hz y hy
   ·have b0:((x:Int)==0)=false:=by simp;omega
    go_wp2
    go_ret
    exact⟨k'+1,rfl,⟨by omega,hz,.inr ⟨x,by simpa using hx,h0⟩⟩,hB⟩
theorem HW {B:Nat} {A C:List Nat} {k x y:Nat} (hA:∀d∈A,d<B) (hx:A[k]?=some x) (hy:C[k]?=some y) (hd:A.drop (k+1)=C.drop (k+1)) (b2:x<y):val B A<val B C:=by
 obtain⟨h1,rfl⟩:=List.getElem?_eq_some_iff.1 hx;obtain⟨h2,rfl⟩:=List.getElem?_eq_some_iff.1 hy;have eA:A=A.take k++(A[k]::A.drop (k+1)):=by rw [←oI h1,pQ]
 have eC:C=C.take k++(C[k]::C.drop (k+1)):=by rw [←oI h2,pQ]
 have lA:(A.take k).length=k:=by rw [aU];omega
 have lC:(C.take k).length=k:=by rw [aU];omega
 have vA:val B A=val B (A.take k)+B^k*(A[k]+B*val B (A.drop (k+1))):=by
  conv=>lhs;rw [eA]
  rw [kH,lA,val]
 have vC:val B C=val B (C.take k)+B^k*(C[k]+B*val B (A.drop (k+1))):=by
  conv=>lhs;rw [eC]
  rw [kH,lC,val,hd]
 have hl:val B (A.take k)<B^k:=by
  have:=val_lt (B:=B) (a:=A.take k) fun d hd=>hA d (iQ hd)
  rwa [lA] at this
 have hm:B^k*(A[k]+B*val B (A.drop (k+1))+1)≤B^k*(C[k]+B*val B (A.drop (k+1))):=kB _ (by omega);rw [cC,pN] at hm;omega
theorem UR (x:Int) (w:World):Calls Tryz.prog 391 #[.int .i64 x] w fun e w'=>e= .returned (.int .i64 (if x<0 then-1 else if 0<x then 1 else 0))∧Below w.heap.size w w':=by
 by_cases h1:x<0
 ·go_enter Tryz.func391,Tryz.ntmps391;go_wp2
  go_ret
  exact⟨by simp [h1],aI _ _⟩
 ·by_cases h2:0<x
  ·go_enter Tryz.func391,Tryz.ntmps391;go_wp2
   go_ret
   exact⟨by simp [h1,h2],aI _ _⟩
  ·go_enter Tryz.func391,Tryz.ntmps391;go_wp2
   go_ret
   exact⟨by simp [h1,h2],aI _ _⟩
def CmpD (A C:List Nat) (c:Int):Prop:=
 (A.length<C.length∧c= -1)∨(C.length<A.length∧c=1)∨(A.length=C.length∧((c=0∧A=C)∨(c= -1∧val 4294967296 A<val 4294967296 C)∨(c=1∧val 4294967296 C<val 4294967296 A)))
theorem EY (a1 a2:Option Addr) (a0 a3 a6 a7 n:Nat) (A C:List Nat) (b1:A.length=a0) (b5:C.length=a3) (b9:a0<4611686018427387904) (c0:a3<4611686018427387904) (w:World) (hn:n≤w.heap.size) (h1:bV n w a1 A) (h2:bV n w a2 C):
  Calls Tryz.prog 353 #[.slice a1 a0 a6,.slice a2 a3 a7] w fun e w'=>∃c,e= .returned (.int .i64 c)∧CmpD A C c∧Below w.heap.size w w':=by
 by_cases b7:a0=a3
 ·subst b7;have a5:(((a0:Nat):Int)==a0)=true:=by simp
  go_enter Tryz.func353,Tryz.ntmps353;go_wp2
  go_loopw [5] (fun s wr=>∃k:Nat,s= .int .i64 ((k:Int)-1)∧k≤a0∧A.drop k=C.drop k∧Below w.heap.size w wr) (fun s _=>(intOf s+1).toNat)
  case atStart=>exact⟨a0,rfl,aA _,by rw [←b1,BJ,b1,←b5,BJ],aI _ _⟩
  case round=>
   obtain⟨k,rfl,hk,hd,hB⟩:=hrel
   by_cases b0:k=0
   ·subst b0;have e0:(((0:Nat):Int)-1)= -1:=by omega
    rw [e0];have b3:A=C:=by simpa using hd
    go_wp2
    go_ret
    exact⟨0,rfl,.inr (.inr ⟨by omega,.inl ⟨rfl,b3⟩⟩),hB⟩
   ·obtain⟨k',rfl⟩:∃k',k=k'+1:=⟨k-1,by omega⟩;have e0:(((k'+1:Nat):Int)-1)=k':=by omega
    rw [e0];obtain⟨x,hx⟩:∃x,A[k']?=some x:=⟨A[k'],aL (by omega)⟩;obtain⟨y,hy⟩:∃y,C[k']?=some y:=⟨C[k'],aL (by omega)⟩;obtain⟨b,off,rfl,hb,hxl,hc⟩:=(h1.below hB hn).get hx;obtain⟨b',off',rfl,hb',hyl,hc'⟩:=(h2.below hB hn).get hy;have c1:(k':Int)<(a0:Int):=by omega
    have c2:(0:Int)≤(k':Int):=by omega
    have hA:∀d∈A,d<4294967296:=h1.1;have hC:∀d∈C,d<4294967296:=h2.1;have a9:Below w.heap.size w wr.drew:=hB.trans ⟨rfl,rfl,rfl,aA _,fun _ _=>rfl⟩;have a4:Below w.heap.size w wr.drew.drew:=a9.trans ⟨rfl,rfl,rfl,aA _,fun _ _=>rfl⟩;clear h1 h2 b0
    by_cases a8:x=y
    ·subst a8;have b4:A.drop k'=C.drop k':=by
      obtain⟨q1,q2⟩:=List.getElem?_eq_some_iff.1 hx;obtain⟨q3,q4⟩:=List.getElem?_eq_some_iff.1 hy;rw [oI q1,oI q3,hd,q2,q4]
     go_wp2;refine iG 8 (by kernel_rfl) (by kernel_rfl) ?_;simp only [bB,bJ,bF,bE,gZ]
     repeat (with_reducible refine gH (fun K hK=>?_);go_simp;with_reducible refine hK _ ?_;clear hK K)
     refine iH ?_;show wpList _ _ _ _ _ _;go_wp2;exact⟨⟨k',by simp,by omega,b4,a9⟩,by simp [intOf]⟩
    ·have b8:((x:Int)==y)=false:=by simp;omega
     by_cases b2:x<y
     ·have b6:(x:Int)<(y:Int):=by omega
      have hv:=HW hA hx hy hd b2;clear a8;go_wp2;refine iG 8 (by kernel_rfl) (by kernel_rfl) ?_;simp only [bB,bJ,bF,bE,gZ]
      repeat (with_reducible refine gH (fun K hK=>?_);go_simp;with_reducible refine hK _ ?_;clear hK K)
      refine iH ?_;show wpList _ _ _ _ _ _;go_wp2;refine iG 8 (by kernel_rfl) (by kernel_rfl) ?_;simp only [bB,bJ,bF,bE,gZ]
      repeat (with_reducible refine gH (fun K hK=>?_);go_simp;with_reducible refine hK _ ?_;clear hK K)
      refine iH ?_;show wpList _ _ _ _ _ _;go_wp2
      go_ret
      exact⟨-1,rfl,.inr (.inr ⟨by omega,.inr (.inl ⟨rfl,hv⟩)⟩),a4⟩
     ·have b6:¬(x:Int)<(y:Int):=by omega
      have hv:=HW hC hy hx hd.symm (by omega);clear a8;go_wp2;refine iG 8 (by kernel_rfl) (by kernel_rfl) ?_;simp only [bB,bJ,bF,bE,gZ]
      repeat (with_reducible refine gH (fun K hK=>?_);go_simp;with_reducible refine hK _ ?_;clear hK K)
      refine iH ?_;show wpList _ _ _ _ _ _;go_wp2;refine iG 8 (by kernel_rfl) (by kernel_rfl) ?_;simp only [bB,bJ,bF,bE,gZ]
      repeat (with_reducible refine gH (fun K hK=>?_);go_simp;with_reducible refine hK _ ?_;clear hK K)
      refine iH ?_;show wpList _ _ _ _ _ _;go_wp2
      go_ret
      exact⟨1,rfl,.inr (.inr ⟨by omega,.inr (.inr ⟨rfl,hv⟩)⟩),a4⟩
 ·have a5:((a0:Int)==a3)=false:=by simp;omega
  have c3:IntKind.i64.wrap ((a0:Int)-a3)=(a0:Int)-a3:=by rw [aG];omega
  have sc:=UR ((a0:Int)-a3) w;clear h1 h2;rcases BB a0 a3 with h|h
  ·rw [if_pos (by omega)] at sc;go_enter Tryz.func353,Tryz.ntmps353
   go_wp2_with (go_at_call 391;refine sc.mono ?_;rintro e w' ⟨rfl,hb⟩)
   go_ret
   exact⟨-1,rfl,.inl ⟨by omega,rfl⟩,hb⟩
  ·rw [if_neg (by omega),if_pos (by omega)] at sc;go_enter Tryz.func353,Tryz.ntmps353
   go_wp2_with (go_at_call 391;refine sc.mono ?_;rintro e w' ⟨rfl,hb⟩)
   go_ret
   exact⟨1,rfl,.inr (.inl ⟨by omega,rfl⟩),hb⟩
end Go.Proofs.YtbdpdeonapmlgaaGreatDoor
namespace Go.Proofs.YtbdpdeonapmlgaaGreatDoor
theorem FO (x y:Nat) (hx:x<4294967296) (hy:y<4294967296):bits .or .u64 ((x:Int)*4294967296) y=(x:Int)*4294967296+y:=by
 have e:x<<<32+y=x<<<32|||y:=AZ (by omega) x;rw [wQ] at e;have e1:((x:Int)*4294967296)=((x*4294967296:Nat):Int):=by simp
 have h1:(BitVec.ofInt 64 ((x:Int)*4294967296)).toNat=x*4294967296:=by
  rw [e1,lF,lE];omega
 have h2:(BitVec.ofInt 64 (y:Int)).toNat=y:=by
  rw [lF,lE];omega
 show IntKind.u64.wrap (((BitVec.ofInt 64 ((x:Int)*4294967296))|||BitVec.ofInt 64 (y:Int)).toNat:Int)=_;rw [BL,h1,h2];have e2:x*4294967296|||y=x*4294967296+y:=by
  have:(2:Nat)^32=4294967296:=by decide
  rw [this] at e;exact e.symm
 rw [e2,IntKind.wrap_u64];omega
theorem PZ (x:Nat):bits .and .u64 (x:Int) 1=((x%2:Nat):Int):=by
 have h1:(BitVec.ofInt 64 (x:Int)).toNat=x%18446744073709551616:=by
  rw [lF,lE]
 have h2:(BitVec.ofInt 64 (1:Int)).toNat=1:=by decide
 show IntKind.u64.wrap (((BitVec.ofInt 64 (x:Int))&&&BitVec.ofInt 64 (1:Int)).toNat:Int)=_;rw [SW,h1,h2,Gf,IntKind.wrap_u64];omega
end Go.Proofs.YtbdpdeonapmlgaaGreatDoor
namespace Go.Proofs.YtbdpdeonapmlgaaGreatDoor
open Go.RowKit Go.Big
variable {w w' a c:World} {b x k d off:Nat} {a0 L ds lo rest us:List Nat}
def bO (w:World) (b:Nat) (a0:List Nat):Prop:=w.heap[b]?=some (.cells (a0.map fun x:Nat=>Value.int .u32 x).toArray 175 (0,0))
theorem bO.cell (h:bO w b a0) {k x:Nat} (hx:a0[k]?=some x):w.cell? ⟨b,k,none⟩=some (.int .u32 x)∧w.frozen? ⟨b,k,none⟩=false:=by
 unfold bO at h;simp [World.cell?,World.frozen?,h,hx]
theorem bO.set (h:bO w b a0):bO (w.setCell ⟨b,k,none⟩ (.int .u32 d)) b (a0.set k d):=by
 unfold bO at h ⊢;have e:(w.setCell ⟨b,k,none⟩ (.int .u32 d)).heap[b]?=some (.cells ((a0.map fun x:Nat=>Value.int .u32 x).toArray.setIfInBounds k (.int .u32 d)) 175 (0,0)):=by
  simp [World.setCell,lH,h]
 rw [e,Gp,List.map_set]
structure Only (b:Nat) (w w':World):Prop where
 os:w'.os=w.os
 tape:w'.tape=w.tape
 output:w'.output=w.output
 size:w.heap.size≤w'.heap.size
 block:∀k,k<w.heap.size→k≠b→w'.heap[k]?=w.heap[k]?
theorem Only.refl (b:Nat) (w:World):Only b w w:=⟨rfl,rfl,rfl,aA _,fun _ _ _=>rfl⟩
theorem Only.trans {d:World} (h:Only b a c) (h':Only b c d):Only b a d:=
 ⟨h'.os.trans h.os,h'.tape.trans h.tape,h'.output.trans h.output,aE h.size h'.size,fun k hk hb=>(h'.block k (aZ hk h.size) hb).trans (h.block k hk hb)⟩
theorem Only.of_below (h:Below w.heap.size w w'):Only b w w':=⟨h.os,h.tape,h.output,h.size,fun k hk _=>h.block k hk⟩
theorem Only.toBelow {base:Nat} (h:Only b w w') (hb:base≤b) (hw:base≤w.heap.size):Below base w w':=⟨h.os,h.tape,h.output,h.size,fun k hk=>h.block k (by omega) (by omega)⟩
theorem Only.set (w:World) (b k:Nat) (v:Value):Only b w (w.setCell ⟨b,k,none⟩ v):=⟨rfl,rfl,rfl,by simp,fun j hj a3=>kF w ⟨b,k,none⟩ v j a3⟩
theorem Only.drew (b:Nat) (w:World):Only b w w.drew:=⟨rfl,rfl,rfl,aA _,fun _ _ _=>rfl⟩
theorem Only.cell (h:Only b w w') {p:Addr} (hp:p.block<w.heap.size) (hb:p.block≠b):w'.cell? p=w.cell? p:=GM (w:=w) (h.block p.block hp hb)
theorem bO.drew (h:bO w b a0):bO w.drew b a0:=h
theorem JF (a2:lo.length=off) (a1:ds.length=k) (hx:us[k]?=some x):(lo++ds++us.drop k++rest).set (off+k) d=lo++(ds++ [d])++us.drop (k+1)++rest:=by
 obtain⟨h1,rfl⟩:=List.getElem?_eq_some_iff.1 hx;obtain⟨t,ht⟩:∃t,us.drop (k+1)=t:=⟨_,rfl⟩;rw [oI h1,ht];have hl:(lo++ds).length=off+k:=by rw [aK,a2,a1]
 rw [eZ (lo++ds),wS _ _ (by omega),hl,oD];simp
theorem JG (a2:lo.length=off) (a1:ds.length=k) (hx:us[k]?=some x):(lo++ds++us.drop k++rest)[off+k]?=some x:=by
 obtain⟨h1,rfl⟩:=List.getElem?_eq_some_iff.1 hx;rw [oI h1];have hl:(lo++ds).length=off+k:=by rw [aK,a2,a1]
 rw [eZ (lo++ds),dO (by omega),hl,oD];rfl
theorem xN {n:Nat} (a2:lo.length=off) (a1:ds.length=n):(lo++ds++x::rest)[off+n]?=some x∧(lo++ds++x::rest).set (off+n) d=lo++ds++d::rest:=by
 have hl:(lo++ds).length=off+n:=by rw [aK,a2,a1]
 constructor
 ·rw [dO (by omega),hl,oD];rfl
 ·rw [wS _ _ (by omega),hl,oD];rfl
theorem lZ (h:L[k]?=some x):L.take (k+1)=L.take k++ [x]:=by rw [fT,h];rfl
theorem HV {B m y:Nat} (hl:L.length=m+2) (h1:L[m+1]?=some x) (h2:L[m]?=some y):val B L=x*B^(m+1)+y*B^m+val B (L.take m):=by
 have e:L=L.take m++ [y]++ [x]:=by
  rw [←lZ h2,←lZ h1,eP (by omega)]
 have lm:(L.take m).length=m:=by rw [aU];omega
 conv=>lhs;rw [e]
 rw [kH,kH,aK,lm];simp only [val,rI,tL,fP];rw [bG (B^m),bG (B^(m+1))];omega
theorem wrap_u64 (x:Int):IntKind.u64.wrap x=x%18446744073709551616:=by
 simp [IntKind.wrap,IntKind.bits,IntKind.signed]
theorem jO (x:Int):IntKind.u32.wrap x=x%4294967296:=by
 simp [IntKind.wrap,IntKind.bits,IntKind.signed]
theorem IL (x l b:Nat) (hx:x<4294967296) (hl:l<4294967296) (hb:b≤1):∃b' d:Nat,b'≤1∧d<4294967296∧x+b'*4294967296=d+l+b∧∃t1 t2 q:Nat,
  IntKind.u64.wrap ((x:Int)-(l:Int))=(t1:Int)∧IntKind.u64.wrap ((t1:Int)-(b:Int))=(t2:Int)∧(t2:Int)/4294967296=(q:Int)∧bits .and .u64 (q:Int) 1=(b':Int)∧IntKind.u32.wrap (t2:Int)=(d:Int):=by
 by_cases h:l+b≤x
 ·refine⟨0,x-l-b,by omega,by omega,by omega,(x+18446744073709551616-l)%18446744073709551616,x-l-b,0,?_,?_,by omega,?_,?_⟩
  ·rw [wrap_u64];omega
  ·rw [wrap_u64];omega
  ·have:=PZ 0;simpa using this
  ·rw [jO];omega
 ·refine⟨1,x+4294967296-l-b,by omega,by omega,by omega,(x+18446744073709551616-l)%18446744073709551616,x+18446744073709551616-l-b,4294967295,?_,?_,by omega,?_,?_⟩
  ·rw [wrap_u64];omega
  ·rw [wrap_u64];omega
  ·have:=PZ 4294967295;simpa using this
  ·rw [jO];omega
end Go.Proofs.YtbdpdeonapmlgaaGreatDoor
namespace Go.Proofs.YtbdpdeonapmlgaaGreatDoor
open Go.RowKit Go.Big Go.Shelf
def Tryz.lz_ren:Go.Shelf.Ren:=⟨fun|128=>240|133=>356|n=>n,fun|3=>3|4=>4|5=>5|9=>9|46=>211|51=>175|n=>n,fun n=>n⟩
theorem Tryz.lz:Go.Proofs.Lays.n133 Tryz.prog Tryz.lz_ren:={
 mixed:=by kernel_rfl
 f128:=Tryz.func240.trans (congrArg some (by kernel_rfl))
 f133:=Tryz.func356.trans (congrArg some (by kernel_rfl))
 t3:=Tryz.underlying3
 a3:=Tryz.isAgg3
 z3:=Tryz.sizeOf3
 v3:=Tryz.zeroValue3
 t4:=Tryz.underlying4
 a4:=Tryz.isAgg4
 z4:=Tryz.sizeOf4
 v4:=Tryz.zeroValue4
 t5:=Tryz.underlying5
 a5:=Tryz.isAgg5
 z5:=Tryz.sizeOf5
 v5:=Tryz.zeroValue5
 t9:=Tryz.underlying9
 a9:=Tryz.isAgg9
 z9:=Tryz.sizeOf9
 v9:=Tryz.zeroValue9
 t46:=Tryz.underlying211
 a46:=Tryz.isAgg211
 z46:=Tryz.sizeOf211
 v46:=Tryz.zeroValue211
 t51:=Tryz.underlying175
 a51:=Tryz.isAgg175
 z51:=Tryz.sizeOf175
 v51:=Tryz.zeroValue175 }
theorem QA:∀(f x:Nat),x<2^f→x<2^Lib.bitLenAux f x
 |0,x,h=>by simpa [Lib.bitLenAux] using h
 | f+1,x,h=>by
  unfold Lib.bitLenAux;split
  ·subst x;simp
  ·have h1:=QA f (x/2) (by rw [eB] at h;omega);rw [SD,eB];omega
theorem Em {x:Nat} (h:0<x):1≤Lib.bitLen x:=by
 unfold Lib.bitLen Lib.bitLenAux;rw [if_neg (by omega)];omega
theorem YY (x:Nat) (h0:0<x) (h1:x<4294967296) (w:World):Calls Tryz.prog 356 #[.int .u32 x] w fun e w'=>∃s:Nat,e= .returned (.int .i64 s)∧s<32∧x*2^s<4294967296∧w'=w:=by
 have h:=Any.bits_LeadingZeros32 Tryz.lz (x:Int) w (by omega) (by omega);refine(show Calls Tryz.prog 356 #[.int .u32 x] w _ from h).mono ?_;rintro e w' ⟨rfl,rfl⟩;have l1:=Any.bitLen_le32 (x:Int) (by omega) (by omega);rw [Int.toNat_natCast] at l1 ⊢;have l2:=Em h0;have l3:x<2^Lib.bitLen x:=QA 64 x (aZ h1 (by decide));refine⟨32-Lib.bitLen x,?_,by omega,?_,rfl⟩
 ·congr 2;omega
 ·have e:(4294967296:Nat)=2^Lib.bitLen x*2^(32-Lib.bitLen x):=by
   rw [←rG,show Lib.bitLen x+(32-Lib.bitLen x)=32 by omega]
  rw [e];exact GP l3 (jJ (by decide))
end Go.Proofs.YtbdpdeonapmlgaaGreatDoor
namespace Go.Proofs.YtbdpdeonapmlgaaGreatDoor
open Go.RowKit Go.Big
variable {ds a0 rest xs:List Nat} {c k b s B d e n p:Nat} {w:World}
inductive ShlD (B p:Nat):List Nat→List Nat→Nat→Prop
 |nil:ShlD B p [] [] 0
 |snoc {xs ds:List Nat} {c x:Nat} (h:ShlD B p xs ds c) (hx:x<B):ShlD B p (xs++ [x]) (ds++ [x*p%B+c]) (x*p/B)
theorem ShlD.spec {m:Nat} (hB:B=p*m) (hp:0<p) (h:ShlD B p xs ds c):ds.length=xs.length∧c<p∧(∀d∈ds,d<B)∧val B ds+B^xs.length*c=val B xs*p:=by
 induction h with
 |nil=>exact⟨rfl,hp,by simp,by simp [val]⟩
 | @snoc xs ds c x h hx ih=>
  obtain⟨h1,h2,h3,h4⟩:=ih;have hm:0<m:=by
   rcases rH m with h|h
   ·subst h;rw [tL] at hB;omega
   ·exact h
  have e1:x*p%B=p*(x%m):=by rw [hB,bG x p,Ga]
  have e2:p*(x%m)+p≤B:=by
   rw [hB,←Nat.mul_succ];exact kB _ (kC _ hm)
  refine⟨by simp [h1],GT (GP hx hp),fun d hd=>?_,?_⟩
  ·rcases bX.1 hd with hd|hd
   ·exact h3 d hd
   ·simp at hd;rw [hd,e1];omega
  ·rw [gL,gL,h1,aK,rI,eB];have e3:x*p%B+B*(x*p/B)=x*p:=BA _ _;generalize x*p%B=r at*;generalize x*p/B=q at*;generalize B^xs.length=W at*;have e4:W*B*q=W*(B*q):=cU _ _ _;have e5:(val B xs+W*x)*p=val B xs*p+W*(x*p):=by rw [cL,cU]
   rw [e4,e5,←e3,cC,cC,←h4];omega
theorem PY {y:Nat} (hc:c<2^s) (hy:∃k,y=k*2^s) (b9:y<4294967296) (d6:c<4294967296) (hs:y+c<4294967296):bits .or .u32 (c:Int) (y:Int)=((y+c:Nat):Int):=by
 obtain⟨k,rfl⟩:=hy;have e:k<<<s+c=k<<<s|||c:=AZ hc k;rw [wQ] at e;have h1:(BitVec.ofInt 32 (c:Int)).toNat=c:=by rw [lF,lE];omega
 have h2:(BitVec.ofInt 32 ((k*2^s:Nat):Int)).toNat=k*2^s:=by rw [lF,lE];omega
 show IntKind.u32.wrap (((BitVec.ofInt 32 (c:Int))|||BitVec.ofInt 32 ((k*2^s:Nat):Int)).toNat:Int)=_;rw [BL,h1,h2,RO,←e,jO];omega
def lX (len:Nat):Obj:=.cells ((List.replicate len 0).map fun x:Nat=>Value.int .u32 x).toArray 175
theorem uX (len:Nat) (hb:len≤1048576) (w:World):(Instr.makeSlice 43 (.int .i64 len) (.int .i64 len)).run Tryz.prog w= .ok (.slice (some ⟨w.heap.size,0,none⟩) len len) (w.alloc (lX len)):=by
 unfold lX;obtain⟨i0,hi,hz0,hz1,hz2⟩:=mV DZ;have:=run_make (P:=Tryz.prog) w 43 175 i0 (.int .u32 0) Tryz.underlying43 hi hz0 .i64 .i64 len len (by omega) (SU _) (by rw [hz2];omega) (by omega);rw [hz1] at this;have e:madeCells (Value.int .u32 0).cells (len*1)=((List.replicate len 0).map fun x:Nat=>Value.int .u32 x).toArray:=by
  apply Array.ext';simp [madeCells,Value.cells];apply SM
  ·simp
  ·intro i h1 h2;simp [wR]
 rw [←e];simpa using this
theorem tV (w:World) (m:Nat):bO (w.alloc (lX m)) w.heap.size (List.replicate m 0):=by
 unfold bO lX;generalize (List.replicate m 0)=L;show(w.heap.push _)[w.heap.size]?=_;rw [Hj]
theorem tW (w:World) (m:Nat):Below w.heap.size w (w.alloc (lX m)):=(aI _ _).alloc (aA _) _
theorem bO.lim {off:Nat} {lo mid hi:List Nat} (h:bO w b a0) (e:a0=lo++mid++hi) (e8:lo.length=off) (hd:∀x∈mid,x<4294967296) (hb:b<n):bV n w (some ⟨b,off,none⟩) mid:=by
 refine⟨hd,fun _=>⟨b,off,rfl,hb,fun j x hx=>?_⟩⟩;have h1:=(List.getElem?_eq_some_iff.1 hx).1;refine(h.cell ?_).1;rw [e,eZ,dO (by omega),show off+j-lo.length=j by omega,eG h1];exact hx
theorem bO.lim0 (h:bO w b a0) (hd:∀x∈a0,x<4294967296) (hb:b<n) (k:Nat):bV n w (some ⟨b,0,none⟩) (a0.take k):=
 h.lim (lo:=[]) (hi:=a0.drop k) (by simp) rfl (fun x hx=>hd x (iQ hx)) hb
theorem bO.lt (h:bO w b a0):b<w.heap.size:=(Array.getElem?_eq_some_iff.1 h).1
theorem xY (hs:s<32):(4294967296:Nat)=2^s*2^(32-s):=by
 rw [←rG,show s+(32-s)=32 by omega]
theorem ShlD.len (h:ShlD B p xs ds c):ds.length=xs.length:=by
 induction h with
 |nil=>rfl
 |snoc h hx ih=>simp [ih]
theorem CF (hk:ds.length=k):(ds++c::rest).set k d=ds++d::rest:=by
 rw [wS _ _ (by omega),hk,oD];rfl
theorem VQ (hk:ds.length=k):(ds++c::e::rest).set (k+1) d=ds++c::d::rest:=by
 rw [wS _ _ (by omega),hk,show k+1-k=1 by omega];rfl
theorem CG (hk:ds.length=k):(ds++c::rest)[k]?=some c:=by
 rw [dO (by omega),hk,oD];rfl
theorem VS (hk:ds.length=k):(ds++c::e::rest)[k+1]?=some e:=by
 rw [dO (by omega),hk,show k+1-k=1 by omega];rfl
theorem IT (a:Option Addr) (len cap n s:Nat) (A:List Nat) (hl:A.length=len) (hb:len≤1000000) (hs:s<32) (e9:0<len) (c4:∀x∈A,x<4294967296) (w:World) (hn:n≤w.heap.size) (h1:bV n w a A):
  Calls Tryz.prog 357 #[.slice a len cap,.int .i64 s] w fun e w'=>∃L k,e= .returned (.slice (some ⟨w.heap.size,0,none⟩) k (len+1))∧L.length=len+1∧(∀x∈L,x<4294967296)∧val 4294967296 L=val 4294967296 A*2^s∧jH L k∧bO w' w.heap.size L∧Below w.heap.size w w':=by
 have e7:((len:Int)==0)=false:=by simp;omega
 have hq:(s:Int)/32=0:=by omega
 have hr:(s:Int)%32=s:=by omega
 have f1:IntKind.i64.wrap ((len:Int)+1)=(len:Int)+1:=by rw [aG];omega
 have mk:∀w:World,(Instr.makeSlice 43 (.int .i64 ((len:Int)+1)) (.int .i64 ((len:Int)+1))).run Tryz.prog w=_:=fun w=>uX (len+1) (by omega) w
 obtain⟨wb,hwb⟩:∃wb,w.alloc (lX (len+1))=wb:=⟨_,rfl⟩;go_enter Tryz.func357,Tryz.ntmps357
 go_wp2_with fail
 have b3:bO wb w.heap.size (List.replicate (len+1) 0):=by
  rw [←hwb];exact tV w _
 have a6:Below w.heap.size w wb:=hwb▸tW w _;have d5:bV n wb a A:=h1.below a6 hn;have b1:=aside2 b3 a6;clear hwb b3 a6 mk
 go_loopw [21] (fun d4 wr=>∃(i c:Nat) (ds:List Nat),d4= .int .i64 i∧i≤len∧Aside (ds.length=i∧ShlD 4294967296 (2^s) (A.take i) ds c)∧bO wr w.heap.size (ds++c::List.replicate (len-i) 0)∧Below w.heap.size w wr) (fun s _=>len-(intOf s).toNat)
 case atStart=>exact⟨0,0,[],rfl,aT _,⟨rfl,by simpa using ShlD.nil⟩,by simpa [lW] using b1.out.1,b1.out.2⟩
 case round=>
  obtain⟨i,c,ds,rfl,hi,hD,hR,hB⟩:=hrel
  by_cases c9:i<len
  ·obtain⟨x,hx⟩:∃x,A[i]?=some x:=⟨_,aL (by omega)⟩;obtain⟨b,off,rfl,hbk,hxl,hc⟩:=(h1.below hB hn).get hx;have d2:=c4 x (aX hx);obtain⟨z,hz⟩:∃z,len-i=z+1:=⟨len-i-1,by omega⟩;rw [hz,lW] at hR;obtain⟨p,hp⟩:∃p,p=2^s:=⟨_,rfl⟩;obtain⟨m,hm⟩:∃m,m=2^(32-s):=⟨_,rfl⟩;have a4:4294967296=p*m:=by rw [hp,hm];exact xY hs
   have b8:0<p:=by rw [hp];exact jJ (by decide)
   have d0:0<m:=by rw [hm];exact jJ (by decide)
   obtain⟨y,hy⟩:∃y,y=x*p:=⟨_,rfl⟩;have a2:p≤2147483648:=by rw [hp];exact pM (by decide) (show s≤31 by omega)
   have b9:y≤4294967295*2147483648:=by rw [hy];exact mX (by omega) a2
   have sp:=hD.out.2.spec (m:=m) (by rw [←hp];exact a4) (by rw [←hp];exact b8);have b4:c<p:=by rw [hp];exact sp.2.1
   obtain⟨k,hk⟩:∃k,y%4294967296=k*p:=⟨x%m,by rw [hy,a4,bG x p,Ga,bG]⟩;have c8:k*p+p≤4294967296:=by
    have c7:k<m:=by
     have:k*p<m*p:=by rw [←hk,bG m p,←a4];omega
     exact RT this
    rw [a4,←gI,bG p m];exact eI _ c7
   obtain⟨lw,hlw⟩:∃lw,lw=y%4294967296:=⟨_,rfl⟩;obtain⟨hg,hhg⟩:∃hg,hg=y/4294967296:=⟨_,rfl⟩;have m1:IntKind.u64.wrap (x:Int)=(x:Int):=by rw [wrap_u64];omega
   have m5:IntKind.u32.wrap (y:Int)=(lw:Int):=by rw [jO];omega
   have m7:(y:Int)/4294967296=(hg:Int):=by omega
   have m8:IntKind.u32.wrap (hg:Int)=(hg:Int):=by rw [jO];omega
   have d7:(i:Int)<(len:Int):=by omega
   have d8:(0:Int)≤(i:Int):=by omega
   have d9:(i:Int)<(len:Int)+1:=by omega
   have e0:(i:Int)+1<(len:Int)+1:=by omega
   have e6:(0:Int)≤(i:Int)+1:=by omega
   have f0:IntKind.i64.wrap ((i:Int)+1)=(i:Int)+1:=by rw [aG];omega
   have m2:IntKind.u64.wrap ((x:Int)*2^s)=(y:Int):=by
    have e:(x:Int)*2^s=(y:Int):=by rw [hy,hp];simp
    rw [e,wrap_u64];omega
   obtain⟨d,hd⟩:∃d,d=lw+c:=⟨_,rfl⟩;have b7:lw=k*2^s:=by rw [hlw,hk,hp]
   have mo:bits .or .u32 (c:Int) (lw:Int)=(d:Int):=by
    rw [hd];exact PY (s:=s) (by rw [←hp];exact b4) ⟨k,b7⟩ (by omega) (by omega) (by omega)
   have mz:bits .or .u32 (0:Int) (hg:Int)=(hg:Int):=by
    have:=PY (s:=0) (c:=0) (y:=hg) (by decide) ⟨hg,by simp⟩ (by omega) (by decide) (by omega);simpa using this
   have a1:=hD.out.1;obtain⟨c0,c1⟩:=hR.cell (CG (c:=c) (rest:=0::List.replicate z 0) a1);have a5:=hR.set (k:=i) (d:=d);rw [CF a1] at a5;obtain⟨c2,c3⟩:=a5.cell (VS (c:=d) (e:=0) (rest:=List.replicate z 0) a1);have b0:=a5.set (k:=i+1) (d:=hg);rw [VQ a1] at b0;have c5:=(hB.setCell (p:=⟨w.heap.size,i,none⟩) (aA _) (.int .u32 d)).setCell (p:=⟨w.heap.size,i+1,none⟩) (aA _) (.int .u32 hg);have c6:Aside ((ds++ [d]).length=i+1∧ShlD 4294967296 (2^s) (A.take (i+1)) (ds++ [d]) hg):=by
    refine⟨by rw [aK,a1];rfl,?_⟩;have:=ShlD.snoc hD.out.2 d2;rw [lZ hx];have e1:d=x*2^s%4294967296+c:=by rw [hd,hlw,hy,hp]
    have e2:hg=x*2^s/4294967296:=by rw [hhg,hy,hp]
    rw [e1,e2];exact this
   have d3:Aside (len-(i+1)=z):=by show _=_;omega
   have b5:=aside c9;clear sp hR a5 hB hd b7 hlw hhg hy hp hm a4 b8 d0 hk c8 b4 a1 hz hD b9 a2 hx
   go_wp2_with fail
   exact⟨⟨i+1,hg,ds++ [d],by simp,by have:=b5.out;omega,c6,by rw [d3.out];simpa using b0,c5⟩,by have:=b5.out;simp [intOf];omega⟩
  ·obtain rfl:i=len:=by omega
   obtain⟨a1,hSD⟩:=hD.out;rw [eP (by omega)] at hSD;rw [oD,GY] at hR;obtain⟨q1,q2,q3,q4⟩:=hSD.spec (xY hs) (jJ (by decide));have a2:2^s≤2147483648:=pM (by decide) (show s≤31 by omega);have a7:∀x∈ds++ [c],x<4294967296:=fun x hx=>by
    rcases bX.1 hx with hx|hx
    ·exact q3 x hx
    ·simp at hx;omega
   have a8:(ds++ [c]).length=i+1:=by rw [aK,a1];rfl
   have a9:val 4294967296 (ds++ [c])=val 4294967296 A*2^s:=by rw [gL,q1];exact q4
   have b6:bV wr.heap.size wr (some ⟨w.heap.size,0,none⟩) (ds++ [c]):=by
    have:=hR.lim0 a7 hR.lt (i+1)
    rwa [eP (by omega)] at this
   have d1:=qD (some ⟨w.heap.size,0,none⟩) (i+1) (i+1) wr.heap.size (ds++ [c]) a8 (by omega) (aA _) wr (aA _) b6;have a3:=aside3 a8 a7 a9;have b2:=aside hR;clear a8 a7 a9 b6 q1 q2 q3 q4 hSD a1 hR a2 hD
   go_wp2_with (go_at_call 360;with_reducible refine d1.mono ?_;rintro e w' ⟨k,rfl,hT,hb2⟩)
   go_ret
   exact⟨_,k,rfl,a3.out.1,a3.out.2.1,a3.out.2.2,hT,(hb2.block w.heap.size b2.out.lt).trans b2.out,hB.trans (hb2.mono hB.size)⟩
mutual
def TmS (S:Nat→Prop) (w:World):Tm→List Value→Prop
 | .mk k v nm g num den args,vs=>∃a1 c1 a2 c2 a c,vs= [.int .i64 k,.int .i64 v,.string nm,.bool g,.slice a1 num.length c1,.slice a2 den.length c2,.slice a args.length c]∧LimS S w a1 num∧LimS S w a2 den∧TmsS S w args a 0∧args.length≤1048576∧num.length≤1048576∧den.length≤1048576
def TmsS (S:Nat→Prop) (w:World):List Tm→Option Addr→Nat→Prop
 | [],_,_=>True
 |T::r,a,i=>(∃b off vs,a=some ⟨b,off,none⟩∧S b∧(∀(j:Nat) u,vs[j]?=some u→w.cell? ⟨b,off+i*7+j,none⟩=some u)∧TmS S w T vs)∧TmsS S w r a (i+1)
end
mutual
theorem TmS.mono {S S':Nat→Prop} {w:World} (hS:∀k,S k→S' k):∀(T:Tm) (vs:List Value),TmS S w T vs→TmS S' w T vs
 | .mk k v nm g num den args,vs,h=>by
  simp only [TmS] at h ⊢;obtain⟨a1,c1,a2,c2,a,c,e,h1,h2,h3,h4⟩:=h;exact⟨a1,c1,a2,c2,a,c,e,h1.mono hS,h2.mono hS,TmsS.mono hS args a 0 h3,h4⟩
theorem TmsS.mono {S S':Nat→Prop} {w:World} (hS:∀k,S k→S' k):∀(L:List Tm) (a:Option Addr) (i:Nat),TmsS S w L a i→TmsS S' w L a i
 | [],_,_,_=>by simp only [TmsS]
 |T::r,a,i,h=>by
  simp only [TmsS] at h ⊢;obtain⟨⟨b,off,vs,e,hb,hc,hv⟩,hr⟩:=h;exact⟨⟨b,off,vs,e,hS b hb,hc,TmS.mono hS T vs hv⟩,TmsS.mono hS r a (i+1) hr⟩
end
mutual
theorem TmS.keep {S:Nat→Prop} {w w':World} (hk:Same S w w'):∀(T:Tm) (vs:List Value),TmS S w T vs→TmS S w' T vs
 | .mk k v nm g num den args,vs,h=>by
  simp only [TmS] at h ⊢;obtain⟨a1,c1,a2,c2,a,c,e,h1,h2,h3,h4⟩:=h;exact⟨a1,c1,a2,c2,a,c,e,h1.keep hk,h2.keep hk,TmsS.keep hk args a 0 h3,h4⟩
theorem TmsS.keep {S:Nat→Prop} {w w':World} (hk:Same S w w'):∀(L:List Tm) (a:Option Addr) (i:Nat),TmsS S w L a i→TmsS S w' L a i
 | [],_,_,_=>by simp only [TmsS]
 |T::r,a,i,h=>by
  simp only [TmsS] at h ⊢;obtain⟨⟨b,off,vs,e,hb,hc,hv⟩,hr⟩:=h;exact⟨⟨b,off,vs,e,hb,fun j u hj=>(hk.cell (p:=⟨b,off+i*7+j,none⟩) hb).trans (hc j u hj),TmS.keep hk T vs hv⟩,TmsS.keep hk r a (i+1) hr⟩
end
mutual
theorem TmS.toV {S:Nat→Prop} {n:Nat} {w:World} (hS:∀k,S k→k<n):∀(T:Tm) (vs:List Value),TmS S w T vs→TmV n w T vs
 | .mk k v nm g num den args,vs,h=>by
  simp only [TmS] at h;simp only [TmV];obtain⟨a1,c1,a2,c2,a,c,e,h1,h2,h3,h4⟩:=h;exact⟨_,_,a,c,e,⟨⟨a1,c1,rfl,h1.toAt hS⟩,⟨a2,c2,rfl,h2.toAt hS⟩⟩,TmsS.toV hS args a 0 h3,h4⟩
theorem TmsS.toV {S:Nat→Prop} {n:Nat} {w:World} (hS:∀k,S k→k<n):∀(L:List Tm) (a:Option Addr) (i:Nat),TmsS S w L a i→cR n w L a i
 | [],_,_,_=>by simp only [cR]
 |T::r,a,i,h=>by
  simp only [TmsS] at h;simp only [cR];obtain⟨⟨b,off,vs,e,hb,hc,hv⟩,hr⟩:=h;exact⟨⟨b,off,vs,e,hS b hb,hc,TmS.toV hS T vs hv⟩,TmsS.toV hS r a (i+1) hr⟩
end
theorem IH {S:Nat→Prop} {w:World} {b off:Nat} (hb:S b):∀(L:List Tm) (i:Nat),(∀k T,L[k]?=some T→∃vs,(∀(j:Nat) u,vs[j]?=some u→w.cell? ⟨b,off+(i+k)*7+j,none⟩=some u)∧TmS S w T vs)→TmsS S w L (some ⟨b,off,none⟩) i
 | [],_,_=>by simp only [TmsS]
 |T::r,i,h=>by
  simp only [TmsS];obtain⟨vs,h1,h2⟩:=h 0 T rfl;refine⟨⟨b,off,vs,rfl,hb,fun j u hj=>by have:=h1 j u hj;rwa [fP] at this,h2⟩,IH hb r (i+1) fun k T' hk=>?_⟩;obtain⟨a0,h3,h4⟩:=h (k+1) T' (by simpa using hk);exact⟨a0,fun j u hj=>by have:=h3 j u hj;rwa [show i+(k+1)=i+1+k by omega] at this,h4⟩
end Go.Proofs.YtbdpdeonapmlgaaGreatDoor
