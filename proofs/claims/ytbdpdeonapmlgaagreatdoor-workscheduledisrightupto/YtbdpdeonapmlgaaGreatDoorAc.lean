/- Lemmas; no condition. -/
import Derived.Test.YtbdpdeonapmlgaaGreatDoorAb
import Derived.Shelf.Small.Bits
set_option linter.all false
set_option maxHeartbeats 4000000
set_option maxRecDepth 100000
namespace Go.Proofs.YtbdpdeonapmlgaaGreatDoor
def HN (x y:Nat) (hx:x<4294967296) (hy:y<4294967296):bits .or .u64 ((x:Int)*4294967296) y=(x:Int)*4294967296+y:=by
 have e:x<<<32+y=x<<<32|||y:=VA (by omega) x;rw [IQ] at e;have e1:((x:Int)*4294967296)=((x*4294967296:Nat):Int):=by simp
 have h1:(BitVec.ofInt 64 ((x:Int)*4294967296)).toNat=x*4294967296:=by
  rw [e1,vS,vR];omega
 have h2:(BitVec.ofInt 64 (y:Int)).toNat=y:=by
  rw [vS,vR];omega
 show IntKind.u64.wrap (((BitVec.ofInt 64 ((x:Int)*4294967296))|||BitVec.ofInt 64 (y:Int)).toNat:Int)=_;rw [WK,h1,h2];have e2:x*4294967296|||y=x*4294967296+y:=by
  have:(2:Nat)^32=4294967296:=by decide
  rw [this] at e;exact e.symm
 rw [e2,IntKind.wrap_u64];omega
def TQ (x:Nat):bits .and .u64 (x:Int) 1=((x%2:Nat):Int):=by
 have h1:(BitVec.ofInt 64 (x:Int)).toNat=x%18446744073709551616:=by
  rw [vS,vR]
 have h2:(BitVec.ofInt 64 (1:Int)).toNat=1:=by decide
 show IntKind.u64.wrap (((BitVec.ofInt 64 (x:Int))&&&BitVec.ofInt 64 (1:Int)).toNat:Int)=_;rw [BitVec.toNat_and,h1,h2,Nat.and_one_is_mod,IntKind.wrap_u64];omega
end Go.Proofs.YtbdpdeonapmlgaaGreatDoor
namespace Go.Proofs.YtbdpdeonapmlgaaGreatDoor
open Go.RowKit Go.Big
variable {b x k d off:Nat} {L a0 ds lo rest us:List Nat} {w w':Wo}
def bW (w:Wo) (b:Nat) (a0:List Nat):Prop:=w.heap[b]?=some (.cells (a0.map fun x:Nat=>Value.int .u32 x).toArray 175 (0,0))
def bW.cell (h:bW w b a0) {k x:Nat} (hx:a0[k]?=some x):w.cell? ⟨b,k,none⟩=some (.int .u32 x)∧w.frozen? ⟨b,k,none⟩=false:=by
 unfold bW at h;simp [World.cell?,World.frozen?,h,hx]
def bW.set (h:bW w b a0):bW (w.setCell ⟨b,k,none⟩ (.int .u32 d)) b (a0.set k d):=by
 unfold bW at h ⊢;have e:(w.setCell ⟨b,k,none⟩ (.int .u32 d)).heap[b]?=some (.cells ((a0.map fun x:Nat=>Value.int .u32 x).toArray.setIfInBounds k (.int .u32 d)) 175 (0,0)):=by
  simp [World.setCell,mY,h]
 rw [e,Km,List.map_set]
structure Only (b:Nat) (w w':Wo):Prop where
 os:w'.os=w.os
 tape:w'.tape=w.tape
 output:w'.output=w.output
 size:w.heap.size≤w'.heap.size
 block:∀k,k<w.heap.size→k≠b→w'.heap[k]?=w.heap[k]?
def Only.refl (b:Nat) (w:Wo):Only b w w:=⟨rfl,rfl,rfl,aA _,fun _ _ _=>rfl⟩
def Only.trans {a c d:Wo} (h:Only b a c) (h':Only b c d):Only b a d:=
 ⟨h'.os.trans h.os,h'.tape.trans h.tape,h'.output.trans h.output,aD h.size h'.size,fun k hk hb=>(h'.block k (aR hk h.size) hb).trans (h.block k hk hb)⟩
def Only.of_below (h:Bz w w'):Only b w w':=⟨h.os,h.tape,h.output,h.size,fun k hk _=>h.block k hk⟩
def Only.toBelow {base:Nat} (h:Only b w w') (hb:base≤b) (hw:base≤w.heap.size):Below base w w':=⟨h.os,h.tape,h.output,h.size,fun k hk=>h.block k (by omega) (by omega)⟩
def Only.set (w:Wo) (b k:Nat) (v:Value):Only b w (w.setCell ⟨b,k,none⟩ v):=⟨rfl,rfl,rfl,by simp,fun j hj a3=>lU w ⟨b,k,none⟩ v j a3⟩
def Only.drew (b:Nat) (w:Wo):Only b w w.drew:=⟨rfl,rfl,rfl,aA _,fun _ _ _=>rfl⟩
def Only.cell (h:Only b w w') {p:Addr} (hp:p.block<w.heap.size) (hb:p.block≠b):w'.cell? p=w.cell? p:=IM (w:=w) (h.block p.block hp hb)
def LR (a2:lo.length=off) (a1:ds.length=k) (hx:us[k]?=some x):(lo++ds++us.drop k++rest).set (off+k) d=lo++(ds++ [d])++us.drop (k+1)++rest:=by
 obtain⟨h1,rfl⟩:=aM.1 hx;obtain⟨t,ht⟩:=enm (us.drop (k+1));rw [iK h1,ht];have hl:(lo++ds).length=off+k:=by rw [aI,a2,a1]
 rw [fJ (lo++ds),yR _ _ (by omega),hl,pN];simp
def LU (a2:lo.length=off) (a1:ds.length=k) (hx:us[k]?=some x):(lo++ds++us.drop k++rest)[off+k]?=some x:=by
 obtain⟨h1,rfl⟩:=aM.1 hx;rw [iK h1];have hl:(lo++ds).length=off+k:=by rw [aI,a2,a1]
 rw [fJ (lo++ds),dK (by omega),hl,pN];rfl
def zK {n:Nat} (a2:lo.length=off) (a1:ds.length=n):(lo++ds++x::rest)[off+n]?=some x∧(lo++ds++x::rest).set (off+n) d=lo++ds++d::rest:=by
 have hl:(lo++ds).length=off+n:=by rw [aI,a2,a1]
 constructor
 ·rw [dK (by omega),hl,pN];rfl
 ·rw [yR _ _ (by omega),hl,pN];rfl
def nE (h:L[k]?=some x):L.take (k+1)=L.take k++ [x]:=by rw [lT,h];rfl
def JY {B m y:Nat} (hl:L.length=m+2) (h1:L[m+1]?=some x) (h2:L[m]?=some y):val B L=x*B^(m+1)+y*B^m+val B (L.take m):=by
 have e:L=L.take m++ [y]++ [x]:=by
  rw [←nE h2,←nE h1,fH (by omega)]
 have lm:(L.take m).length=m:=by rw [aX];omega
 conv=>lhs;rw [e]
 rw [lX,lX,aI,lm];simp only [val,vP,yN,fG];rw [cP (B^m),cP (B^(m+1))];omega
def wrap_u64 (x:Int):IntKind.u64.wrap x=x%18446744073709551616:=by
 simp [IntKind.wrap,IntKind.bits,IntKind.signed]
def kL (x:Int):IntKind.u32.wrap x=x%4294967296:=by
 simp [IntKind.wrap,IntKind.bits,IntKind.signed]
def KO (x l b:Nat) (hx:x<4294967296) (hl:l<4294967296) (hb:b≤1):∃b' d:Nat,b'≤1∧d<4294967296∧x+b'*4294967296=d+l+b∧∃t1 t2 q:Nat,
  IntKind.u64.wrap ((x:Int)-(l:Int))=(t1:Int)∧IntKind.u64.wrap ((t1:Int)-(b:Int))=(t2:Int)∧(t2:Int)/4294967296=(q:Int)∧bits .and .u64 (q:Int) 1=(b':Int)∧IntKind.u32.wrap (t2:Int)=(d:Int):=by
 by_cases h:l+b≤x
 ·refine⟨0,x-l-b,by omega,by omega,by omega,(x+18446744073709551616-l)%18446744073709551616,x-l-b,0,?_,?_,by omega,?_,?_⟩
  ·rw [wrap_u64];omega
  ·rw [wrap_u64];omega
  ·have:=TQ 0;simpa using this
  ·rw [kL];omega
 ·refine⟨1,x+4294967296-l-b,by omega,by omega,by omega,(x+18446744073709551616-l)%18446744073709551616,x+18446744073709551616-l-b,4294967295,?_,?_,by omega,?_,?_⟩
  ·rw [wrap_u64];omega
  ·rw [wrap_u64];omega
  ·have:=TQ 4294967295;simpa using this
  ·rw [kL];omega
end Go.Proofs.YtbdpdeonapmlgaaGreatDoor
namespace Go.Proofs.YtbdpdeonapmlgaaGreatDoor
open Go.RowKit Go.Big Go.Shelf
def Tryz.lz_ren:Go.Shelf.Ren:=⟨fun|128=>240|133=>356|n=>n,fun|3=>3|4=>4|5=>5|9=>9|46=>211|51=>175|n=>n,fun n=>n⟩
def Tryz.lz:Go.Proofs.Lays.n133 Tryz.prog Tryz.lz_ren:={
 mixed:=by kernel_rfl
 f128:=Tryz.func240.trans (eT some (by kernel_rfl))
 f133:=Tryz.func356.trans (eT some (by kernel_rfl))
 t3:=Tryz.underlying3
 a3:=Tryz.isAgg3
 z3:=Tryz.sizeOf3
 v3:=Tryz.zeroValue3
 t4:=Tryz.underlying4
 a4:=Tryz.isAgg4
 z4:=Tryz.sizeOf4
 v4:=Tryz.zeroValue4
 t5:=Tryz.underlying5
 a5:=Tryz.isAgg5
 z5:=Tryz.sizeOf5
 v5:=Tryz.zeroValue5
 t9:=Tryz.underlying9
 a9:=Tryz.isAgg9
 z9:=Tryz.sizeOf9
 v9:=Tryz.zeroValue9
 t46:=Tryz.underlying211
 a46:=Tryz.isAgg211
 z46:=Tryz.sizeOf211
 v46:=Tryz.zeroValue211
 t51:=Tryz.underlying175
 a51:=Tryz.isAgg175
 z51:=Tryz.sizeOf175
 v51:=Tryz.zeroValue175 }
def TR:∀(f x:Nat),x<2^f→x<2^Lib.bitLenAux f x
 |0,x,h=>by simpa [Lib.bitLenAux] using h
 | f+1,x,h=>by
  unfold Lib.bitLenAux;split
  ·subst x;simp
  ·have h1:=TR f (x/2) (by rw [gN] at h;omega);rw [VN,gN];omega
def Iq {x:Nat} (h:0<x):1≤Lib.bitLen x:=by
 unfold Lib.bitLen Lib.bitLenAux;rw [if_neg (by omega)];omega
def Cj (x:Nat) (h0:0<x) (h1:x<4294967296) (w:Wo):Cz 356 #[.int .u32 x] w fun e w'=>∃s:Nat,e= .returned (.int .i64 s)∧s<32∧x*2^s<4294967296∧w'=w:=by
 have h:=Any.bits_LeadingZeros32 Tryz.lz (x:Int) w (by omega) (by omega);refine(show Cz 356 #[.int .u32 x] w _ from h).mono ?_;rintro e w' ⟨rfl,rfl⟩;have l1:=Any.bitLen_le32 (x:Int) (by omega) (by omega);rw [WG] at l1 ⊢;have l2:=Iq h0;have l3:x<2^Lib.bitLen x:=TR 64 x (aR h1 (by decide));refine⟨32-Lib.bitLen x,?_,by omega,?_,rfl⟩
 ·congr 2;omega
 ·have e:(4294967296:Nat)=2^Lib.bitLen x*2^(32-Lib.bitLen x):=by
   rw [←IT,show Lib.bitLen x+(32-Lib.bitLen x)=32 by omega]
  rw [e];exact IU l3 (kW (by decide))
end Go.Proofs.YtbdpdeonapmlgaaGreatDoor
namespace Go.Proofs.YtbdpdeonapmlgaaGreatDoor
open Go.RowKit Go.Big
variable {ds a0 rest xs:List Nat} {w:Wo} {c k b g s B d e n p i o:Nat} {C cs:Array Value} {t T:TypeId}
inductive ShlD (B p:Nat):List Nat→List Nat→Nat→Prop
 |nil:ShlD B p [] [] 0
 |snoc {xs ds:List Nat} {c x:Nat} (h:ShlD B p xs ds c) (hx:x<B):ShlD B p (xs++ [x]) (ds++ [x*p%B+c]) (x*p/B)
def ShlD.spec {m:Nat} (hB:B=p*m) (hp:0<p) (h:ShlD B p xs ds c):ds.length=xs.length∧c<p∧(∀d∈ds,d<B)∧val B ds+B^xs.length*c=val B xs*p:=by
 induction h with
 |nil=>exact⟨rfl,hp,by simp,by simp [val]⟩
 | @snoc xs ds c x h hx ih=>
  obtain⟨h1,h2,h3,h4⟩:=ih;have hm:0<m:=by
   rcases vK m with h|h
   ·subst h;rw [yN] at hB;omega
   ·exact h
  have e1:x*p%B=p*(x%m):=by rw [hB,cP x p,Kd]
  have e2:p*(x%m)+p≤B:=by
   rw [hB,←Nat.mul_succ];exact mS _ (mT _ hm)
  refine⟨by simp [h1],VK (IU hx hp),fun d hd=>?_,?_⟩
  ·rcases cG.1 hd with hd|hd
   ·exact h3 d hd
   ·simp at hd;rw [hd,e1];omega
  ·rw [jW,jW,h1,aI,vP,gN];have e3:x*p%B+B*(x*p/B)=x*p:=VF _ _;generalize x*p%B=r,x*p/B=q,B^xs.length=W at*;have e4:W*B*q=W*(B*q):=eQ _ _ _;have e5:(val B xs+W*x)*p=val B xs*p+W*(x*p):=by rw [dP,eQ]
   rw [e4,e5,←e3,eD,eD,←h4];omega
def TP {y:Nat} (hc:c<2^s) (hy:∃k,y=k*2^s) (b9:y<4294967296) (d6:c<4294967296) (hs:y+c<4294967296):bits .or .u32 (c:Int) (y:Int)=((y+c:Nat):Int):=by
 obtain⟨k,rfl⟩:=hy;have e:k<<<s+c=k<<<s|||c:=VA hc k;rw [IQ] at e;have h1:(BitVec.ofInt 32 (c:Int)).toNat=c:=by rw [vS,vR];omega
 have h2:(BitVec.ofInt 32 ((k*2^s:Nat):Int)).toNat=k*2^s:=by rw [vS,vR];omega
 show IntKind.u32.wrap (((BitVec.ofInt 32 (c:Int))|||BitVec.ofInt 32 ((k*2^s:Nat):Int)).toNat:Int)=_;rw [WK,h1,h2,Nat.or_comm,←e,kL];omega
def mZ (len:Nat):Obj:=.cells ((List.replicate len 0).map fun x:Nat=>Value.int .u32 x).toArray 175
def wZ (len:Nat) (hb:len≤1048576) (w:Wo):(Instr.makeSlice 43 (.int .i64 len) (.int .i64 len)).run Tryz.prog w= .ok (.slice (some ⟨w.heap.size,0,none⟩) len len) (w.alloc (mZ len)):=by
 unfold mZ;obtain⟨i0,hi,hz0,hz1,hz2⟩:=mQ FV;have:=run_make (P:=Tryz.prog) w 43 175 i0 (.int .u32 0) Tryz.underlying43 hi hz0 .i64 .i64 len len (by omega) (WI _) (by rw [hz2];omega) (by omega);rw [hz1] at this;have e:madeCells (Value.int .u32 0).cells (len*1)=((List.replicate len 0).map fun x:Nat=>Value.int .u32 x).toArray:=by
  apply Array.ext';simp [madeCells,Value.cells];apply WC
  ·simp
  ·intro i h1 h2;simp [IV]
 rw [←e];simpa using this
def vV (w:Wo) (m:Nat):bW (w.alloc (mZ m)) w.heap.size (List.replicate m 0):=by
 unfold bW mZ;generalize (List.replicate m 0)=L;show(w.heap.push _)[w.heap.size]?=_;rw [Lm]
def vW (w:Wo) (m:Nat):Bz w (w.alloc (mZ m)):=(bD _ _).alloc (aA _) _
def bW.lim {off:Nat} {lo mid hi:List Nat} (h:bW w b a0) (e:a0=lo++mid++hi) (e8:lo.length=off) (hd:∀x∈mid,x<4294967296) (hb:b<n):cR n w (some ⟨b,off,none⟩) mid:=by
 refine⟨hd,fun _=>⟨b,off,rfl,hb,fun j x hx=>?_⟩⟩;have h1:=(aM.1 hx).1;refine(h.cell ?_).1;rw [e,fJ,dK (by omega),show off+j-lo.length=j by omega,dW h1];exact hx
def bW.lim0 (h:bW w b a0) (hd:∀x∈a0,x<4294967296) (hb:b<n) (k:Nat):cR n w (some ⟨b,0,none⟩) (a0.take k):=
 h.lim (lo:=[]) (hi:=a0.drop k) (by simp) rfl (fun x hx=>hd x (jS hx)) hb
def bW.lt (h:bW w b a0):b<w.heap.size:=(aG.1 h).1
def zV (hs:s<32):(4294967296:Nat)=2^s*2^(32-s):=by
 rw [←IT,show s+(32-s)=32 by omega]
def ShlD.len (h:ShlD B p xs ds c):ds.length=xs.length:=by
 induction h with
 |nil=>rfl
 |snoc h hx ih=>simp [ih]
def DX (hk:ds.length=k):(ds++c::rest).set k d=ds++d::rest:=by
 rw [yR _ _ (by omega),hk,pN];rfl
def ZE (hk:ds.length=k):(ds++c::e::rest).set (k+1) d=ds++c::d::rest:=by
 rw [yR _ _ (by omega),hk,show k+1-k=1 by omega];rfl
def DZ (hk:ds.length=k):(ds++c::rest)[k]?=some c:=by
 rw [dK (by omega),hk,pN];rfl
def ZG (hk:ds.length=k):(ds++c::e::rest)[k+1]?=some e:=by
 rw [dK (by omega),hk,show k+1-k=1 by omega];rfl
def KX (a:Option Addr) (len cap n s:Nat) (A:List Nat) (hl:A.length=len) (hb:len≤1000000) (hs:s<32) (e9:0<len) (c4:∀x∈A,x<4294967296) (w:Wo) (hn:n≤w.heap.size) (h1:cR n w a A):
  Cz 357 #[.slice a len cap,.int .i64 s] w fun e w'=>∃L k,e= .returned (.slice (some ⟨w.heap.size,0,none⟩) k (len+1))∧L.length=len+1∧(∀x∈L,x<4294967296)∧val 4294967296 L=val 4294967296 A*2^s∧Trimmed L k∧bW w' w.heap.size L∧Bz w w':=by
 have e7:((len:Int)==0)=false:=by simp;omega
 have hq:(s:Int)/32=0:=by omega
 have hr:(s:Int)%32=s:=by omega
 have f1:=ewr (i:=len) (by omega);have mk:∀w:Wo,(Instr.makeSlice 43 (.int .i64 ((len:Int)+1)) (.int .i64 ((len:Int)+1))).run Tryz.prog w=_:=fun w=>wZ (len+1) (by omega) w
 obtain⟨wb,hwb⟩:=enm (w.alloc (mZ (len+1)));go_enter Tryz.func357,Tryz.ntmps357
 go_wp2_with fail
 have b3:bW wb w.heap.size (List.replicate (len+1) 0):=by
  rw [←hwb];exact vV w _
 have a6:Bz w wb:=hwb▸vW w _;have d5:cR n wb a A:=h1.below a6 hn;have b1:=aside2 b3 a6;clear hwb b3 a6 mk
 go_loopw [21] (fun d4 wr=>∃(i c:Nat) (ds:List Nat),d4= .int .i64 i∧i≤len∧Aside (ds.length=i∧ShlD 4294967296 (2^s) (A.take i) ds c)∧bW wr w.heap.size (ds++c::List.replicate (len-i) 0)∧Bz w wr) (fun s _=>len-(intOf s).toNat)
 case atStart=>exact⟨0,0,[],rfl,bX _,⟨rfl,by simpa using ShlD.nil⟩,by simpa [mV] using b1.o.1,b1.o.2⟩
 case round=>
  obtain⟨i,c,ds,rfl,hi,hD,hR,hB⟩:=hrel
  by_cases c9:i<len
  ·obtain⟨x,hx⟩:∃x,A[i]?=some x:=⟨_,bM (by omega)⟩;obtain⟨b,off,rfl,hbk,hxl,hc⟩:=(h1.below hB hn).get hx;have d2:=c4 x (aV hx);obtain⟨z,hz⟩:∃z,len-i=z+1:=⟨len-i-1,by omega⟩;rw [hz,mV] at hR;obtain⟨p,hp⟩:∃p,p=2^s:=⟨_,rfl⟩;obtain⟨m,hm⟩:∃m,m=2^(32-s):=⟨_,rfl⟩;have a4:4294967296=p*m:=by rw [hp,hm];exact zV hs
   have b8:0<p:=by rw [hp];exact kW (by decide)
   have d0:0<m:=by rw [hm];exact kW (by decide)
   obtain⟨y,hy⟩:∃y,y=x*p:=⟨_,rfl⟩;have a2:p≤2147483648:=by rw [hp];exact VB (by decide) (show s≤31 by omega)
   have b9:y≤4294967295*2147483648:=by rw [hy];exact rE (by omega) a2
   have sp:=hD.o.2.spec (m:=m) (by rw [←hp];exact a4) (by rw [←hp];exact b8);have b4:c<p:=by rw [hp];exact sp.2.1
   obtain⟨k,hk⟩:∃k,y%4294967296=k*p:=⟨x%m,by rw [hy,a4,cP x p,Kd,cP]⟩;have c8:k*p+p≤4294967296:=by
    have c7:k<m:=by
     have:k*p<m*p:=by rw [←hk,cP m p,←a4];omega
     exact VJ this
    rw [a4,←gY,cP p m];exact eZ _ c7
   obtain⟨lw,hlw⟩:∃lw,lw=y%4294967296:=⟨_,rfl⟩;obtain⟨hg,hhg⟩:∃hg,hg=y/4294967296:=⟨_,rfl⟩;have m1:IntKind.u64.wrap (x:Int)=(x:Int):=by rw [wrap_u64];omega
   have m5:IntKind.u32.wrap (y:Int)=(lw:Int):=by rw [kL];omega
   have m7:(y:Int)/4294967296=(hg:Int):=by omega
   have m8:IntKind.u32.wrap (hg:Int)=(hg:Int):=by rw [kL];omega
   have d7:(i:Int)<(len:Int):=by omega
   have d8:(0:Int)≤(i:Int):=by omega
   have d9:(i:Int)<(len:Int)+1:=by omega
   have e0:(i:Int)+1<(len:Int)+1:=by omega
   have e6:(0:Int)≤(i:Int)+1:=by omega
   have f0:=ewr (i:=i) (by omega);have m2:IntKind.u64.wrap ((x:Int)*2^s)=(y:Int):=by
    have e:(x:Int)*2^s=(y:Int):=by rw [hy,hp];simp
    rw [e,wrap_u64];omega
   obtain⟨d,hd⟩:∃d,d=lw+c:=⟨_,rfl⟩;have b7:lw=k*2^s:=by rw [hlw,hk,hp]
   have mo:bits .or .u32 (c:Int) (lw:Int)=(d:Int):=by
    rw [hd];exact TP (s:=s) (by rw [←hp];exact b4) ⟨k,b7⟩ (by omega) (by omega) (by omega)
   have mz:bits .or .u32 (0:Int) (hg:Int)=(hg:Int):=by
    have:=TP (s:=0) (c:=0) (y:=hg) (by decide) ⟨hg,by simp⟩ (by omega) (by decide) (by omega);simpa using this
   have a1:=hD.o.1;obtain⟨c0,c1⟩:=hR.cell (DZ (c:=c) (rest:=0::List.replicate z 0) a1);have a5:=hR.set (k:=i) (d:=d);rw [DX a1] at a5;obtain⟨c2,c3⟩:=a5.cell (ZG (c:=d) (e:=0) (rest:=List.replicate z 0) a1);have b0:=a5.set (k:=i+1) (d:=hg);rw [ZE a1] at b0;have c5:=(hB.setCell (p:=⟨w.heap.size,i,none⟩) (aA _) (.int .u32 d)).setCell (p:=⟨w.heap.size,i+1,none⟩) (aA _) (.int .u32 hg);have c6:Aside ((ds++ [d]).length=i+1∧ShlD 4294967296 (2^s) (A.take (i+1)) (ds++ [d]) hg):=by
    refine⟨by rw [aI,a1];rfl,?_⟩;have:=ShlD.snoc hD.o.2 d2;rw [nE hx];have e1:d=x*2^s%4294967296+c:=by rw [hd,hlw,hy,hp]
    have e2:hg=x*2^s/4294967296:=by rw [hhg,hy,hp]
    rw [e1,e2];exact this
   have d3:Aside (len-(i+1)=z):=by show _=_;omega
   have b5:=aside c9;clear sp hR a5 hB hd b7 hlw hhg hy hp hm a4 b8 d0 hk c8 b4 a1 hz hD b9 a2 hx
   go_wp2_with fail
   exact⟨⟨i+1,hg,ds++ [d],by simp,by have:=b5.o;omega,c6,by rw [d3.o];simpa using b0,c5⟩,by have:=b5.o;simp [intOf];omega⟩
  ·obtain rfl:i=len:=by omega
   obtain⟨a1,hSD⟩:=hD.o;rw [fH (by omega)] at hSD;rw [pN,JB] at hR;obtain⟨q1,q2,q3,q4⟩:=hSD.spec (zV hs) (kW (by decide));have a2:2^s≤2147483648:=VB (by decide) (show s≤31 by omega);have a7:∀x∈ds++ [c],x<4294967296:=fun x hx=>by
    rcases cG.1 hx with hx|hx
    ·exact q3 x hx
    ·simp at hx;omega
   have a8:(ds++ [c]).length=i+1:=by rw [aI,a1];rfl
   have a9:val 4294967296 (ds++ [c])=val 4294967296 A*2^s:=by rw [jW,q1];exact q4
   have b6:cR wr.heap.size wr (some ⟨w.heap.size,0,none⟩) (ds++ [c]):=by
    have:=hR.lim0 a7 hR.lt (i+1)
    rwa [fH (by omega)] at this
   have d1:=rX (some ⟨w.heap.size,0,none⟩) (i+1) (i+1) wr.heap.size (ds++ [c]) a8 (by omega) (aA _) wr (aA _) b6;have a3:=aside3 a8 a7 a9;have b2:=aside hR;clear a8 a7 a9 b6 q1 q2 q3 q4 hSD a1 hR a2 hD
   go_wp2_with (go_at_call 360;with_reducible refine d1.mono ?_;rintro e w' ⟨k,rfl,hT,hb2⟩)
   go_ret
   exact⟨_,k,rfl,a3.o.1,a3.o.2.1,a3.o.2.2,hT,(hb2.block w.heap.size b2.o.lt).trans b2.o,hB.trans (hb2.mono hB.size)⟩
mutual
def TmS (S:Nat→Prop) (w:Wo):Tm→Lv→Prop
 | .mk k v nm g num den args,vs=>∃a1 c1 a2 c2 a c,vs= [.int .i64 k,.int .i64 v,.string nm,.bool g,.slice a1 num.length c1,.slice a2 den.length c2,.slice a args.length c]∧LimS S w a1 num∧LimS S w a2 den∧cX S w args a 0∧args.length≤1048576∧num.length≤1048576∧den.length≤1048576
def cX (S:Nat→Prop) (w:Wo):List Tm→Option Addr→Nat→Prop
 | [],_,_=>True
 |T::r,a,i=>(∃b off vs,a=some ⟨b,off,none⟩∧S b∧(∀(j:Nat) u,vs[j]?=some u→w.cell? ⟨b,off+i*7+j,none⟩=some u)∧TmS S w T vs)∧cX S w r a (i+1)
end
mutual
theorem TmS.mono {S S':Nat→Prop} {w:Wo} (hS:∀k,S k→S' k):∀(T:Tm) (vs:Lv),TmS S w T vs→TmS S' w T vs
 | .mk k v nm g num den args,vs,h=>by
  simp only [TmS] at h ⊢;obtain⟨a1,c1,a2,c2,a,c,e,h1,h2,h3,h4⟩:=h;exact⟨a1,c1,a2,c2,a,c,e,h1.mono hS,h2.mono hS,cX.mono hS args a 0 h3,h4⟩
theorem cX.mono {S S':Nat→Prop} {w:Wo} (hS:∀k,S k→S' k):∀(L:List Tm) (a:Option Addr) (i:Nat),cX S w L a i→cX S' w L a i
 | [],_,_,_=>by simp only [cX]
 |T::r,a,i,h=>by
  simp only [cX] at h ⊢;obtain⟨⟨b,off,vs,e,hb,hc,hv⟩,hr⟩:=h;exact⟨⟨b,off,vs,e,hS b hb,hc,TmS.mono hS T vs hv⟩,cX.mono hS r a (i+1) hr⟩
end
mutual
theorem TmS.keep {S:Nat→Prop} {w w':Wo} (hk:Same S w w'):∀(T:Tm) (vs:Lv),TmS S w T vs→TmS S w' T vs
 | .mk k v nm g num den args,vs,h=>by
  simp only [TmS] at h ⊢;obtain⟨a1,c1,a2,c2,a,c,e,h1,h2,h3,h4⟩:=h;exact⟨a1,c1,a2,c2,a,c,e,h1.keep hk,h2.keep hk,cX.keep hk args a 0 h3,h4⟩
theorem cX.keep {S:Nat→Prop} {w w':Wo} (hk:Same S w w'):∀(L:List Tm) (a:Option Addr) (i:Nat),cX S w L a i→cX S w' L a i
 | [],_,_,_=>by simp only [cX]
 |T::r,a,i,h=>by
  simp only [cX] at h ⊢;obtain⟨⟨b,off,vs,e,hb,hc,hv⟩,hr⟩:=h;exact⟨⟨b,off,vs,e,hb,fun j u hj=>(hk.cell (p:=⟨b,off+i*7+j,none⟩) hb).trans (hc j u hj),TmS.keep hk T vs hv⟩,cX.keep hk r a (i+1) hr⟩
end
mutual
theorem TmS.toV {S:Nat→Prop} {n:Nat} {w:Wo} (hS:∀k,S k→k<n):∀(T:Tm) (vs:Lv),TmS S w T vs→TmV n w T vs
 | .mk k v nm g num den args,vs,h=>by
  simp only [TmS] at h;simp only [TmV];obtain⟨a1,c1,a2,c2,a,c,e,h1,h2,h3,h4⟩:=h;exact⟨_,_,a,c,e,⟨⟨a1,c1,rfl,h1.toAt hS⟩,⟨a2,c2,rfl,h2.toAt hS⟩⟩,cX.toV hS args a 0 h3,h4⟩
theorem cX.toV {S:Nat→Prop} {n:Nat} {w:Wo} (hS:∀k,S k→k<n):∀(L:List Tm) (a:Option Addr) (i:Nat),cX S w L a i→bS n w L a i
 | [],_,_,_=>by simp only [bS]
 |T::r,a,i,h=>by
  simp only [cX] at h;simp only [bS];obtain⟨⟨b,off,vs,e,hb,hc,hv⟩,hr⟩:=h;exact⟨⟨b,off,vs,e,hS b hb,hc,TmS.toV hS T vs hv⟩,cX.toV hS r a (i+1) hr⟩
end
def zC {S:Nat→Prop} {w:Wo} {b off:Nat} (hb:S b):∀(L:List Tm) (i:Nat),(∀k T,L[k]?=some T→∃vs,(∀(j:Nat) u,vs[j]?=some u→w.cell? ⟨b,off+(i+k)*7+j,none⟩=some u)∧TmS S w T vs)→cX S w L (some ⟨b,off,none⟩) i
 | [],_,_=>by simp only [cX]
 |T::r,i,h=>by
  simp only [cX];obtain⟨vs,h1,h2⟩:=h 0 T rfl;refine⟨⟨b,off,vs,rfl,hb,fun j u hj=>by have:=h1 j u hj;rwa [fG] at this,h2⟩,zC hb r (i+1) fun k T' hk=>?_⟩;obtain⟨a0,h3,h4⟩:=h (k+1) T' (by simpa using hk);exact⟨a0,fun j u hj=>by have:=h3 j u hj;rwa [show i+(k+1)=i+1+k by omega] at this,h4⟩
section
attribute [local go_sem] Heavy.uponW
def qR (h:w.heap[g]?=some (.cells C t (0,0))) (o:Nat):w.frozen? ⟨g,o,none⟩=false:=by
 simp [World.frozen?,h]
def jB {fr:Nat × Nat} (hb:w.heap[b]?=some (.cells cs T fr)) (v:Value):
  (w.setCell ⟨b,i,none⟩ v).heap[b]?=some (.cells (cs.setIfInBounds i v) T fr):=by
 simp [World.setCell,mY,hb]
def set7 {u0 u1 u2 u3 u4 u5 u6 v0 v1 v2 v3 v4 v5 v6:Value} (h:w.heap[g]?=some (.cells #[u0,u1,u2,u3,u4,u5,u6] t (0,0))):
  (((((((w.setCell ⟨g,0,none⟩ v0).setCell ⟨g,1,none⟩ v1).setCell ⟨g,2,none⟩ v2).setCell ⟨g,3,none⟩ v3).setCell ⟨g,4,none⟩ v4).setCell ⟨g,5,none⟩ v5).setCell ⟨g,6,none⟩ v6).heap[g]?=some (.cells #[v0,v1,v2,v3,v4,v5,v6] t (0,0))∧
  (∀b,b≠g→(((((((w.setCell ⟨g,0,none⟩ v0).setCell ⟨g,1,none⟩ v1).setCell ⟨g,2,none⟩ v2).setCell ⟨g,3,none⟩ v3).setCell ⟨g,4,none⟩ v4).setCell ⟨g,5,none⟩ v5).setCell ⟨g,6,none⟩ v6).heap[b]?=w.heap[b]?)∧
  Below g w (((((((w.setCell ⟨g,0,none⟩ v0).setCell ⟨g,1,none⟩ v1).setCell ⟨g,2,none⟩ v2).setCell ⟨g,3,none⟩ v3).setCell ⟨g,4,none⟩ v4).setCell ⟨g,5,none⟩ v5).setCell ⟨g,6,none⟩ v6):=by
 refine⟨?_,fun b hb=>?_,?_⟩
 ·have:=jB (jB (jB (jB (jB (jB (jB h (i:=0) v0) (i:=1) v1) (i:=2) v2) (i:=3) v3) (i:=4) v4) (i:=5) v5) (i:=6) v6;simpa using this
 ·iterate 7 rw [lU _ _ _ _ (by exact hb)]
 ·iterate 7 refine Below.setCell ?_ (aA g) _
  exact bD _ _
def CloneOk (T:Tm):Prop:=∀(n:Nat) (w:Wo) (vs:Lv),TmV n w T vs→n≤w.heap.size→
  Cz 60 #[.agg vs.toArray] w fun e w'=>∃g7,e= .returned (.agg g7.toArray)∧TmS (fP w.heap.size w'.heap.size) w' T g7∧Bz w w'
def set7at {v0 v1 v2 v3 v4 v5 v6:Value} (h:w.heap[g]?=some (.cells C t (0,0))) (ho:o+7≤C.size):
  ∃C':Array Value,(((((((w.setCell ⟨g,o,none⟩ v0).setCell ⟨g,o+1,none⟩ v1).setCell ⟨g,o+2,none⟩ v2).setCell ⟨g,o+3,none⟩ v3).setCell ⟨g,o+4,none⟩ v4).setCell ⟨g,o+5,none⟩ v5).setCell ⟨g,o+6,none⟩ v6).heap[g]?=some (.cells C' t (0,0))∧
  C'.size=C.size∧(∀j,j<o∨o+7≤j→C'[j]?=C[j]?)∧(∀(m:Nat) u,[v0,v1,v2,v3,v4,v5,v6][m]?=some u→C'[o+m]?=some u)∧
  (∀b,b≠g→(((((((w.setCell ⟨g,o,none⟩ v0).setCell ⟨g,o+1,none⟩ v1).setCell ⟨g,o+2,none⟩ v2).setCell ⟨g,o+3,none⟩ v3).setCell ⟨g,o+4,none⟩ v4).setCell ⟨g,o+5,none⟩ v5).setCell ⟨g,o+6,none⟩ v6).heap[b]?=w.heap[b]?)∧
  Below g w (((((((w.setCell ⟨g,o,none⟩ v0).setCell ⟨g,o+1,none⟩ v1).setCell ⟨g,o+2,none⟩ v2).setCell ⟨g,o+3,none⟩ v3).setCell ⟨g,o+4,none⟩ v4).setCell ⟨g,o+5,none⟩ v5).setCell ⟨g,o+6,none⟩ v6):=by
 refine⟨_,jB (jB (jB (jB (jB (jB (jB h (i:=o) v0) (i:=o+1) v1) (i:=o+2) v2) (i:=o+3) v3) (i:=o+4) v4) (i:=o+5) v5) (i:=o+6) v6,by simp,fun j hj=>?_,fun m u hm=>?_,fun b hb=>?_,?_⟩
 ·iterate 7 rw [rK (by omega)]
 ·match m,hm with
  |0,hm=>
   cases hm
   iterate 6 rw [rK (by omega)]
   rw [fG,vU (by omega)]
  |1,hm=>
   cases hm
   iterate 5 rw [rK (by omega)]
   rw [vU (by simp;omega)]
  |2,hm=>
   cases hm
   iterate 4 rw [rK (by omega)]
   rw [vU (by simp;omega)]
  |3,hm=>
   cases hm
   iterate 3 rw [rK (by omega)]
   rw [vU (by simp;omega)]
  |4,hm=>
   cases hm
   iterate 2 rw [rK (by omega)]
   rw [vU (by simp;omega)]
  |5,hm=>
   cases hm
   iterate 1 rw [rK (by omega)]
   rw [vU (by simp;omega)]
  |6,hm=>
   cases hm;rw [vU (by simp;omega)]
  |m+7,hm=>simp at hm
 ·iterate 7 rw [lU _ _ _ _ (by exact hb)]
 ·iterate 7 refine Below.setCell ?_ (aA g) _
  exact bD _ _
def zTm:Value:=.agg #[.int .i64 0,.int .i64 0,.string { data:=#[] },.bool false,.slice none 0 0,.slice none 0 0,.slice none 0 0]
def inf48:(Tryz.prog.info? 48).map (fun i=>(i.zero,i.size,i.bytes))=some (some zTm,7,112):=by kernel_rfl
def By (len:Nat) (hb:len≤1048576) (w:Wo):(Instr.makeSlice 46 (.int .i64 len) (.int .i64 len)).run Tryz.prog w= .ok (.slice (some ⟨w.heap.size,0,none⟩) len len) (w.alloc (.cells (madeCells zTm.cells (len*7)) 48)):=by
 obtain⟨i0,hi,hz0,hz1,hz2⟩:=mQ inf48;have:=run_make (P:=Tryz.prog) w 46 48 i0 zTm Tryz.underlying46 hi hz0 .i64 .i64 len len (by omega) (WI _) (by rw [hz2];omega) (by omega);rw [hz1] at this;simpa using this
def Hi (k v:Int) (nm:ByteArray) (g:Bool) (num den:List Nat) (args:List Tm) (ih:∀T'∈args,CloneOk T'):CloneOk (.mk k v nm g num den args):=by
  intro n w vs h hn;simp only [TmV] at h;obtain⟨s1,s2,a,c,rfl,⟨⟨p1,q1,rfl,hA⟩,⟨p2,q2,rfl,hC⟩⟩,h2,hbig,hbA,hbC⟩:=h;obtain⟨len,hl⟩:=enm args.length;obtain⟨l1,hl1⟩:=enm num.length;obtain⟨l2,hl2⟩:=enm den.length;rw [hl] at hbig ⊢;rw [hl1] at hbA ⊢;rw [hl2] at hbC ⊢;show Cz 60 #[.agg (tA k v nm g p1 l1 q1 p2 l2 q2 a len c)] w _;have Al:=aside3 hl hl1 hl2;obtain⟨wb,hwb⟩:=enm ((w.alloc (bA k v nm g p1 l1 q1 p2 l2 q2 a len c)).alloc (Obj.cells #[.int .i64 0,.int .i64 0,.string { data:=#[] },.bool false,.slice none 0 0,.slice none 0 0,.slice none 0 0] 48));obtain⟨b9,hq1,hq2⟩:=XC w (bA k v nm g p1 l1 q1 p2 l2 q2 a len c) (Obj.cells #[.int .i64 0,.int .i64 0,.string { data:=#[] },.bool false,.slice none 0 0,.slice none 0 0,.slice none 0 0] 48);have d4:wb.heap.size=w.heap.size+2:=by rw [←hwb];simp
  have b3:=aside d4;rw [hwb] at b9 hq1 hq2;have fc:∀w2,Bz wb w2→_:=fun w2 hb=>bZ ((hb.block w.heap.size (by omega)).trans hq1)
  obtain⟨x0,x1,x2,x3,x4,x5,x6⟩:=fc wb (bD _ _);have d0:n≤wb.heap.size:=by omega
  have d1:∀w2,Bz wb w2→Cz 129 #[.slice p1 l1 q1] w2 fun e w'=>∃sv,e= .returned sv∧(∃a c,sv= .slice a num.length c∧LimS (fP w2.heap.size w'.heap.size) w' a num)∧Bz w2 w':=fun w2 hb=>wO (.slice p1 l1 q1) n num (by omega) w2 (aD d0 hb.size) ⟨p1,q1,by rw [hl1],(hA.below b9 hn).below hb d0⟩
  have d2:∀w2,Bz wb w2→Cz 129 #[.slice p2 l2 q2] w2 fun e w'=>∃sv,e= .returned sv∧(∃a c,sv= .slice a den.length c∧LimS (fP w2.heap.size w'.heap.size) w' a den)∧Bz w2 w':=fun w2 hb=>wO (.slice p2 l2 q2) n den (by omega) w2 (aD d0 hb.size) ⟨p2,q2,by rw [hl2],(hC.below b9 hn).below hb d0⟩
  clear hl hl1 hl2 hA hC d4;go_enter Tryz.func60,Tryz.ntmps60
  go_upto_region 1 with fail
  clear hwb;have a5:Bz wb { wb with drawn:=wb.drawn+1 }:=UA wb;refine Heavy.region_plan (Bz wb) 10 (Heavy.lights [0,1,2,4,5,6] (.one 3 (Heavy.lights [8,9] (.one 7 .done)))) (by kernel_rfl) (by kernel_rfl) a5 ?_;simp only [Heavy.lights,bL,bY,aZ,bG]
  iterate 6 (apply Heavy.light_n;(exact rfl);(exact rfl);(intro g8 hw;have j9:=(fc g8 hw).2.2.2.2.1;have k0:=(fc g8 hw).2.2.2.2.2.1;go_simp;exact rfl))
  apply Heavy.one_n
  ·exact rfl
  ·exact rfl
  go_simp
  refine(d1 _ a5).mono ?_;rintro e w3 ⟨k1,rfl,⟨b1,e1,rfl,hL1⟩,hb3⟩;have b4:Bz wb w3:=a5.trans hb3;refine⟨_,rfl,b4,?_⟩
  iterate 2 (apply Heavy.light_n;(exact rfl);(exact rfl);(intro g8 hw;go_simp;exact rfl))
  apply Heavy.one_n
  ·exact rfl
  ·exact rfl
  go_simp
  refine(d2 _ b4).mono ?_;rintro e w4 ⟨k2,rfl,⟨b2,e2,rfl,hL2⟩,hb4⟩;have b5:Bz wb w4:=b4.trans (hb4.mono b4.size);refine⟨_,rfl,b5,?_⟩;refine Heavy.plan_end ?_;have d3:w4.heap[w.heap.size]?=some (Obj.cells (tA k v nm g p1 l1 q1 p2 l2 q2 a len c) 48 (0,0)):=(b5.block w.heap.size (by have:=b3.o;omega)).trans hq1;have h8:w4.heap[w.heap.size+1]?=some (Obj.cells #[.int .i64 0,.int .i64 0,.string { data:=#[] },.bool false,.slice none 0 0,.slice none 0 0,.slice none 0 0] 48 (0,0)):=(b5.block (w.heap.size+1) (by have:=b3.o;omega)).trans hq2.1;have z4:∀o,w4.frozen? ⟨w.heap.size,o,none⟩=false:=fun o=>qR d3 o
  obtain⟨y0,y1,y2,y3,y4,y5,y6⟩:=bZ d3;have a6:Aside (wb.heap.size≤w4.heap.size∧wb.heap.size≤w3.heap.size∧w3.heap.size≤w4.heap.size):=⟨b5.size,b4.size,hb4.size⟩;have g9:=(b9.trans (b5.mono (by have:=b3.o;omega)))
  go_upto_region 2 with fail
  have b7:=jB (jB d3 (i:=4) (.slice b1 num.length e1)) (i:=5) (.slice b2 den.length e2);have b8:((w4.setCell ⟨w.heap.size,4,none⟩ (.slice b1 num.length e1)).setCell ⟨w.heap.size,5,none⟩ (.slice b2 den.length e2)).heap[w.heap.size+1]?=_:=(lU _ ⟨w.heap.size,5,none⟩ _ _ (by show w.heap.size+1≠w.heap.size;omega)).trans ((lU _ ⟨w.heap.size,4,none⟩ _ _ (by show w.heap.size+1≠w.heap.size;omega)).trans h8);have c9:Same (fun b=>w.heap.size+2≤b) w4 ((w4.setCell ⟨w.heap.size,4,none⟩ (.slice b1 num.length e1)).setCell ⟨w.heap.size,5,none⟩ (.slice b2 den.length e2)):=fun b hb=>(lU _ ⟨w.heap.size,5,none⟩ _ _ (by show b≠w.heap.size;omega)).trans (lU _ ⟨w.heap.size,4,none⟩ _ _ (by show b≠w.heap.size;omega))
  have d5:Bz w ((w4.setCell ⟨w.heap.size,4,none⟩ (.slice b1 num.length e1)).setCell ⟨w.heap.size,5,none⟩ (.slice b2 den.length e2)):=(g9.setCell (p:=⟨w.heap.size,4,none⟩) (aA _) _).setCell (p:=⟨w.heap.size,5,none⟩) (aA _) _;obtain⟨wc,hwc⟩:=enm ((w4.setCell ⟨w.heap.size,4,none⟩ (.slice b1 num.length e1)).setCell ⟨w.heap.size,5,none⟩ (.slice b2 den.length e2));have j2:wc.heap.size=w4.heap.size:=by rw [←hwc];simp
  rw [hwc] at b7 b8 c9 d5 ⊢;have a9:LimS (fP (w.heap.size+2) wc.heap.size) wc b1 num:=((hL1.keep (Same.of_below hb4 fun k hk=>hk.2)).mono fun k hk=>⟨by have:=hk.1;have:=a5.size;have:=b3.o;have e:({ wb with drawn:=wb.drawn+1 }:Wo).heap.size=wb.heap.size:=rfl;omega,by have:=hk.2;have:=a6.o;omega⟩).keep (fun b hb=>c9 b hb.1);have b0:LimS (fP (w.heap.size+2) wc.heap.size) wc b2 den:=(hL2.mono fun k hk=>⟨by have:=hk.1;have:=b3.o;have:=a6.o;omega,by have:=hk.2;omega⟩).keep (fun b hb=>c9 b hb.1);have a7:Aside (w.heap.size+2≤wc.heap.size):=by have:=b3.o;have:=a6.o;show _≤_;omega
  simp only [Km,VP,Kl] at b7;clear hwc j2 hL1 hL2 y0 y1 y2 y3 y4 y5 y6 z4 d3 h8 hb3 hb4 b4 b5 fc d1 d2 x0 x1 x2 x3 x4 x5 x6 a5 b3 a6 hq1 hq2 b9 c9 g9;obtain⟨y0,y1,y2,y3,y4,y5,y6⟩:=bZ b7;have z5:=qR b7;obtain⟨u0,u1,u2,u3,u4,u5,u6⟩:=bZ b8;have t5:=qR b8
  by_cases d9:len=0
  ·subst d9;have c4:args= []:=gI Al.o.1;clear ih h2
   go_wp2_with fail
   have h6:(wc.setCell ⟨w.heap.size,6,none⟩ (.slice none 0 0)).heap[w.heap.size+1]?=_:=(lU wc ⟨w.heap.size,6,none⟩ (.slice none 0 0) (w.heap.size+1) (by show w.heap.size+1≠w.heap.size;omega)).trans b8;obtain⟨g1,g2,g3⟩:=set7 (v0:=.int .i64 k) (v1:=.int .i64 v) (v2:=.string nm) (v3:=.bool g) (v4:=.slice b1 num.length e1) (v5:=.slice b2 den.length e2) (v6:=.slice none 0 0) h6;have c7:=d5.setCell (p:=⟨w.heap.size,6,none⟩) (aA _) (.slice none 0 0);refine fQ (kU rfl _ _ (w.heap.size+1) 48 _ _ _ rfl g1 Tryz.underlying48 rfl (by kernel_rfl)) rfl ?_;refine⟨[.int .i64 k,.int .i64 v,.string nm,.bool g,.slice b1 num.length e1,.slice b2 den.length e2,.slice none 0 0],rfl,?_,c7.trans (g3.mono (by omega))⟩;have hk:Same (fP (w.heap.size+2) wc.heap.size) wc _:=fun b hb=>(g2 b (by have:=hb.1;omega)).trans (lU wc ⟨w.heap.size,6,none⟩ (.slice none 0 0) b (by have:=hb.1;show b≠w.heap.size;omega))
   have hz:=g3.size;rw [UW] at hz;subst c4;simp only [TmS,cX];exact⟨b1,e1,b2,e2,none,0,rfl,(a9.keep hk).mono fun b hb=>⟨by have:=hb.1;omega,aR hb.2 hz⟩,(b0.keep hk).mono fun b hb=>⟨by have:=hb.1;omega,aR hb.2 hz⟩,trivial,by simp,by rw [Al.o.2.1];exact hbA,by rw [Al.o.2.2];exact hbC⟩
  ·have j6:((len:Int)==0)=false:=by simpa using d9
   have i9:Aside (0<len):=by show 0<len;omega
   clear d9
   go_upto_region 5 with fail
   obtain⟨C0,hC0⟩:=enm (madeCells zTm.cells (len*7));have mk:∀w:Wo,(Instr.makeSlice 46 (.int .i64 len) (.int .i64 len)).run Tryz.prog w= .ok (.slice (some ⟨w.heap.size,0,none⟩) len len) (w.alloc (.cells C0 48)):=fun w=>by rw [←hC0];exact By len hbig w
   have i2:Aside (C0.size=len*7):=by rw [←hC0];exact size_madeCells _ _
   clear hC0
   go_upto_region 6 with fail
   have a5:=aC wc (Obj.cells C0 48);have e9:=(a5.block w.heap.size (by have:=a7.o;omega)).trans b7;have h9:=(a5.block (w.heap.size+1) (by have:=a7.o;omega)).trans b8;have c8:=aJ wc (Obj.cells C0 48);obtain⟨L,hL⟩:=enm wc.heap.size;rw [hL] at a5 c8 a7 a9 b0 ⊢;have j3:=aside hL;have g0:Aside ((wc.alloc (Obj.cells C0 48)).heap.size=L+1):=by show _=_;rw [cB,hL]
   generalize wc.alloc (Obj.cells C0 48)=wd at*;clear mk hL b7 b8 y0 y1 y2 y3 y4 y5 y6 z5 u0 u1 u2 u3 u4 u5 u6 t5;obtain⟨y0,y1,y2,y3,y4,y5,y6⟩:=bZ e9
   go_wp2_with fail
   have c0:Bz w wd:=d5.trans (a5.mono (by have:=a7.o;omega))
   go_loopw [31] (fun s wr=>∃i:Nat,s= .int .i64 i∧i≤len∧Below L wd wr∧∃C:Array Value,wr.heap[L]?=some (.cells C 48 (0,0))∧Aside (C.size=len*7∧L+1≤wr.heap.size∧∀(j:Nat) T,j<i→args[j]?=some T→∃vs,vs.length=7∧(∀(m:Nat) u,vs[m]?=some u→C[j*7+m]?=some u)∧TmS (fP (L+1) wr.heap.size) wr T vs)) (fun s _=>len-(intOf s).toNat)
   case atStart=>exact⟨0,rfl,bX _,bD _ _,C0,c8,i2.o,rH g0.o.symm,fun j T hj=>absurd hj (VC j)⟩
   case round=>
    obtain⟨i,rfl,hi,hBr,C,hC,hinv⟩:=hrel
    by_cases i7:i<len
    ·obtain⟨T',b6⟩:=egf Al.o.1 i7;obtain⟨b,off,g7,rfl,hbn,hc,hv⟩:=h2.get b6;have i1:=hv
     match T',hv with
     | .mk k' v' nm' g' num' den' a0,hv=>
      simp only [TmV] at hv;obtain⟨t1,t2,a',c',rfl,⟨⟨p1',q1',rfl,_⟩,⟨p2',q2',rfl,_⟩⟩,_⟩:=hv;have c6:Bz w wr:=c0.trans (hBr.mono (by have:=a7.o;omega));have a8:∀p:Addr,p.block<n→wr.cell? p=w.cell? p:=fun p hp=>(c6.mono hn).cell hp
      rw [bT] at hc;have x0:=(a8 ⟨b,off+i*7+0,none⟩ hbn).trans (hc 0 _ rfl);have x1:=(a8 ⟨b,off+i*7+1,none⟩ hbn).trans (hc 1 _ rfl);have x2:=(a8 ⟨b,off+i*7+2,none⟩ hbn).trans (hc 2 _ rfl);have x3:=(a8 ⟨b,off+i*7+3,none⟩ hbn).trans (hc 3 _ rfl);have x4:=(a8 ⟨b,off+i*7+4,none⟩ hbn).trans (hc 4 _ rfl);have x5:=(a8 ⟨b,off+i*7+5,none⟩ hbn).trans (hc 5 _ rfl);have x6:=(a8 ⟨b,off+i*7+6,none⟩ hbn).trans (hc 6 _ rfl);rw [fG] at x0;obtain⟨j5,hi3,hw3⟩:=elt (i:=i) (n:=len) (by omega) (by omega);have c5:Bz wr (wr.alloc (Obj.cells #[.int .i64 k',.int .i64 v',.string nm',.bool g',.slice p1' num'.length q1',.slice p2' den'.length q2',.slice a' a0.length c'] 48)):=aC _ _;have a4:Aside ((wr.alloc (Obj.cells #[.int .i64 k',.int .i64 v',.string nm',.bool g',.slice p1' num'.length q1',.slice p2' den'.length q2',.slice a' a0.length c'] 48)).heap.size=wr.heap.size+1):=by show _=_;simp
      have d1:=ih _ (aV b6) n (wr.alloc (Obj.cells #[.int .i64 k',.int .i64 v',.string nm',.bool g',.slice p1' num'.length q1',.slice p2' den'.length q2',.slice a' a0.length c'] 48)) _ (TmV.below (c6.trans (c5.mono c6.size)) hn _ _ i1) (by have:=a4.o;have:=c6.size;omega);replace d1:Cz 60 #[.agg #[.int .i64 k',.int .i64 v',.string nm',.bool g',.slice p1' num'.length q1',.slice p2' den'.length q2',.slice a' a0.length c']] _ _:=d1;have j0:=aJ wr (Obj.cells #[.int .i64 k',.int .i64 v',.string nm',.bool g',.slice p1' num'.length q1',.slice p2' den'.length q2',.slice a' a0.length c'] 48);generalize j8:wr.alloc (Obj.cells #[.int .i64 k',.int .i64 v',.string nm',.bool g',.slice p1' num'.length q1',.slice p2' den'.length q2',.slice a' a0.length c'] 48)=we at*;have d7:Aside (i*7+7≤C.size):=by show _≤_;have:=hinv.o.1;rw [this];omega
      have d2:=d1.mono (R':=fun e w'=>∃a1 c1 a2 c2 a3 c3 r0 r1 r2 r3 r4 r5 r6,e= .returned (.agg #[.int .i64 k',.int .i64 v',.string nm',.bool g',.slice a1 num'.length c1,.slice a2 den'.length c2,.slice a3 a0.length c3])∧Aside (TmS (fP we.heap.size w'.heap.size) w' (.mk k' v' nm' g' num' den' a0) [.int .i64 k',.int .i64 v',.string nm',.bool g',.slice a1 num'.length c1,.slice a2 den'.length c2,.slice a3 a0.length c3])∧Bz we w'∧w'.heap[L]?=some (.cells C 48 (0,0))∧
        (w'.cell? ⟨L,i*7,none⟩=some r0∧w'.cell? ⟨L,i*7+1,none⟩=some r1∧w'.cell? ⟨L,i*7+2,none⟩=some r2∧w'.cell? ⟨L,i*7+3,none⟩=some r3∧w'.cell? ⟨L,i*7+4,none⟩=some r4∧w'.cell? ⟨L,i*7+5,none⟩=some r5∧w'.cell? ⟨L,i*7+6,none⟩=some r6)) (fun e w' ⟨vs,e1,ht,hb⟩=>by
       have j1:=ht;simp only [TmS] at ht;obtain⟨a1,c1,a2,c2,a3,c3,rfl,_⟩:=ht;have h0:w'.heap[L]?=some (.cells C 48 (0,0)):=((hb.block L (by have:=hinv.o.2.1;have:=a4.o;omega)).trans (c5.block L (by have:=hinv.o.2.1;omega))).trans hC;have at_:∀m,m<7→∃r,w'.cell? ⟨L,i*7+m,none⟩=some r:=fun m hm=>⟨C[i*7+m]'(by have:=d7.o;omega),by simp [World.cell?,h0,show i*7+m<C.size by have:=d7.o;omega]⟩
       obtain⟨r0,e0⟩:=at_ 0 (by omega)
       obtain⟨r1,e1'⟩:=at_ 1 (by omega)
       obtain⟨r2,e2'⟩:=at_ 2 (by omega)
       obtain⟨r3,e3⟩:=at_ 3 (by omega)
       obtain⟨r4,e4⟩:=at_ 4 (by omega)
       obtain⟨r5,e5⟩:=at_ 5 (by omega)
       obtain⟨r6,e6⟩:=at_ 6 (by omega)
       exact⟨a1,c1,a2,c2,a3,c3,r0,r1,r2,r3,r4,r5,r6,e1,j1,hb,h0,e0,e1',e2',e3,e4,e5,e6⟩)
      have i8:Aside (∀(w3 w4:Wo) (C':Array Value) us,us.length=7→TmS (fP we.heap.size w3.heap.size) w3 (.mk k' v' nm' g' num' den' a0) us→Bz we w3→(∀b,b≠L→w4.heap[b]?=w3.heap[b]?)→w3.heap.size≤w4.heap.size→
        (∀j,j<i*7∨i*7+7≤j→C'[j]?=C[j]?)→(∀(m:Nat) u,us[m]?=some u→C'[i*7+m]?=some u)→∀(j:Nat) T,j<i+1→args[j]?=some T→∃vs,vs.length=7∧(∀(m:Nat) u,vs[m]?=some u→C'[j*7+m]?=some u)∧TmS (fP (L+1) w4.heap.size) w4 T vs):=by
       show∀(w3 w4:Wo) (C':Array Value) us,_;intro w3 w4 C' us e7 ht d8 hk d4 e8 i4 j T hj hT;have h5:∀m,Same (fP (L+1) m) w3 w4:=fun m b hb=>hk b (by have:=hb.1;omega)
       by_cases i5:j<i
       ·obtain⟨vs,h1,h2,h3⟩:=hinv.o.2.2 j T i5 hT;refine⟨vs,h1,fun m u hm=>?_,?_⟩
        ·have j7:m<7:=by have:=(aM.1 hm).1;omega
         rw [e8 (j*7+m) (.inl (by omega))];exact h2 m u hm
        ·refine TmS.mono (fun b hb=>⟨hb.1,?_⟩) _ _ (TmS.keep (h5 _) _ _ (TmS.keep (Same.of_below d8 fun b hb=>?_) _ _ (TmS.keep (Same.of_below c5 fun b hb=>hb.2) _ _ h3)))
         ·have h1:=hb.2;have h2:=a4.o;have h3:=d8.size;omega
         ·have h1:=hb.2;have h2:=a4.o;have h3:=d8.size;omega
       ·obtain rfl:j=i:=by omega
        rw [b6] at hT;obtain rfl:=aK hT;refine⟨us,e7,i4,?_⟩;have i6:L+1≤we.heap.size:=by have:=hinv.o.2.1;have:=a4.o;omega
        refine TmS.mono (fun b hb=>⟨aD i6 hb.1,aR hb.2 d4⟩) _ _ (TmS.keep (fun b hb=>hk b (by have:=hb.1;omega)) _ _ ht)
      generalize a0.length=len',num'.length=ln1,den'.length=ln2 at*;clear h2 ih hc i1 b6 a8 d1 c8;obtain⟨s0,s1,s2,s3,s4,s5,s6⟩:=bZ j0
      go_wp2_with (go_at_call 60;with_reducible refine d2.mono ?_;rintro e w3 ⟨a1,c1,a2,c2,a3,c3,r0,r1,r2,r3,r4,r5,r6,rfl,hts,hb3,hL3,f0,f1,f2,f3,f4,f5,f6⟩;have z3:=qR hL3)
      obtain⟨C',g1,g2,g3,g4,g5,g6⟩:=set7at (o:=i*7) (v0:=.int .i64 k') (v1:=.int .i64 v') (v2:=.string nm') (v3:=.bool g') (v4:=.slice a1 ln1 c1) (v5:=.slice a2 ln2 c2) (v6:=.slice a3 len' c3) hL3 d7.o;have d6:Below L wd _:=hBr.trans ((c5.mono (by have:=hinv.o.2.1;omega)).trans ((hb3.mono (by have:=hinv.o.2.1;have:=a4.o;omega)).trans g6));exact⟨⟨i+1,by simp,by omega,d6,C',g1,by rw [g2];exact hinv.o.1,by have:=g6.size;have:=hb3.size;have:=hinv.o.2.1;have:=a4.o;omega,i8.o w3 _ C' _ rfl hts.o hb3 g5 g6.size g3 g4⟩,by simp [intOf];omega⟩
    ·obtain rfl:i=len:=by omega
     have h7:=(hBr.block w.heap.size (by have:=a7.o;omega)).trans e9;have f7:=(hBr.block (w.heap.size+1) (by have:=a7.o;omega)).trans h9;obtain⟨w0,w1,w2,w3,w4,w5,w6⟩:=bZ h7;have z7:=qR h7;obtain⟨o0,o1,o2,o3,o4,o5,o6⟩:=bZ f7;have z8:=qR f7;clear ih h2 y0 y1 y2 y3 y4 y5 y6 e9 h9 c8
     go_wp2_with fail
     have h6:(wr.setCell ⟨w.heap.size,6,none⟩ (.slice (some ⟨L,0,none⟩) i i)).heap[w.heap.size+1]?=_:=(lU wr ⟨w.heap.size,6,none⟩ (.slice (some ⟨L,0,none⟩) i i) (w.heap.size+1) (by show w.heap.size+1≠w.heap.size;omega)).trans f7;obtain⟨g1,g2,g3⟩:=set7 (v0:=.int .i64 k) (v1:=.int .i64 v) (v2:=.string nm) (v3:=.bool g) (v4:=.slice b1 num.length e1) (v5:=.slice b2 den.length e2) (v6:=.slice (some ⟨L,0,none⟩) i i) h6;have c7:=(c0.trans (hBr.mono (by have:=a7.o;omega))).setCell (p:=⟨w.heap.size,6,none⟩) (aA _) (.slice (some ⟨L,0,none⟩) i i);refine fQ (kU rfl _ _ (w.heap.size+1) 48 _ _ _ rfl g1 Tryz.underlying48 rfl (by kernel_rfl)) rfl ?_;refine⟨[.int .i64 k,.int .i64 v,.string nm,.bool g,.slice b1 num.length e1,.slice b2 den.length e2,.slice (some ⟨L,0,none⟩) i i],rfl,?_,c7.trans (g3.mono (by omega))⟩;have hz:=g3.size;rw [UW] at hz;obtain⟨wf,hwf⟩:=enm ((((((((wr.setCell ⟨w.heap.size,6,none⟩ (.slice (some ⟨L,0,none⟩) i i)).setCell ⟨w.heap.size+1,0,none⟩ (.int .i64 k)).setCell ⟨w.heap.size+1,1,none⟩ (.int .i64 v)).setCell ⟨w.heap.size+1,2,none⟩ (.string nm)).setCell ⟨w.heap.size+1,3,none⟩ (.bool g)).setCell ⟨w.heap.size+1,4,none⟩ (.slice b1 num.length e1)).setCell ⟨w.heap.size+1,5,none⟩ (.slice b2 den.length e2)).setCell ⟨w.heap.size+1,6,none⟩ (.slice (some ⟨L,0,none⟩) i i));rw [hwf] at g2 hz ⊢;have hk:∀b,w.heap.size+2≤b→wf.heap[b]?=wr.heap[b]?:=fun b hb=>(g2 b (by omega)).trans (lU wr ⟨w.heap.size,6,none⟩ (.slice (some ⟨L,0,none⟩) i i) b (by show b≠w.heap.size;omega))
     clear hwf g2 g1 g3 c7 h6;have j4:=hinv.o.2.1;have f8:=a7.o;have h5:Same (fun b=>w.heap.size+2≤b) wr wf:=hk;have f9:∀b,b<L→wr.heap[b]?=wc.heap[b]?:=fun b hb=>(hBr.block b hb).trans (a5.block b hb)
     have h4:Same (fP (w.heap.size+2) L) wc wf:=fun b hb=>(hk b hb.1).trans (f9 b hb.2)
     simp only [TmS];refine⟨b1,e1,b2,e2,some ⟨L,0,none⟩,i,by rw [Al.o.1],(a9.keep h4).mono fun b hb=>⟨by have:=hb.1;omega,by have:=hb.2;omega⟩,(b0.keep h4).mono fun b hb=>⟨by have:=hb.1;omega,by have:=hb.2;omega⟩,?_,by rw [Al.o.1];exact hbig,by rw [Al.o.2.1];exact hbA,by rw [Al.o.2.2];exact hbC⟩;refine zC ⟨by omega,by omega⟩ args 0 fun kk T hT=>?_
     obtain⟨vs,e1,e2,e3⟩:=hinv.o.2.2 kk T (by have:=(aM.1 hT).1;have:=Al.o.1;omega) hT;refine⟨vs,fun m u hm=>?_,TmS.mono (fun b hb=>⟨by have:=hb.1;omega,by have:=hb.2;omega⟩) _ _ (TmS.keep (fun b hb=>hk b (by have:=hb.1;omega)) _ _ e3)⟩;have i3:wf.heap[L]?=some (.cells C 48 (0,0)):=(hk L f8).trans hC;have:=e2 m u hm;simp [World.cell?,i3,this]
def GV:∀(T:Tm),CloneOk T
 | .mk k v nm g num den args=>Hi k v nm g num den args fun T' b6=>GV T'
termination_by T=>SizeOf.sizeOf T
decreasing_by
 simp_wf
 have:=yQ b6;omega
end
