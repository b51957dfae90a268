/- Lemmas; no condition. -/
import Derived.Test.YtealgacfnbbgdaaGreatDoorAy
import Derived.Lib.AppendStr
import Derived.Laws.Runes
set_option linter.all false
set_option maxHeartbeats 4000000
set_option maxRecDepth 100000
namespace Go.Proofs.YtealgacfnbbgdaaGreatDoor
open Go.RowKit Go.Big
variable {D den num A C L s:List Nat} {nm:ByteArray} {g neg:Bool} {l3 x base m n y i:Nat} {k v:Int} {sv:Value}
def Ca (x:Nat) (h:x<18446744073709551616):bits BinOp.and IntKind.u64 (x:Int) 65535=((x%65536:Nat):Int):=by
 have h1:(BitVec.ofInt 64 (x:Int)).toNat=x:=by
  rw [oM,oL];omega
 have h2:(BitVec.ofInt 64 (65535:Int)).toNat=2^16-1:=by decide
 show IntKind.u64.wrap (((BitVec.ofInt 64 (x:Int))&&&BitVec.ofInt 64 (65535:Int)).toNat:Int)=_;rw [OA,h1,h2,Qw];simp [IntKind.wrap,IntKind.bits,IntKind.signed];omega
structure OfI (n:Nat) (D:List Nat) (m:Nat):Prop where
 sum:n=val 65536 D+65536^D.length*m
 dig:∀x∈D,x<65536
 noz:m=0→NoZ D
def OfI.step (h:OfI n D m) (hm:m≠0):OfI n (D++ [m%65536]) (m/65536):=by
 refine⟨?_,fun x hx=>?_,fun h0 x hx=>?_⟩
 ·rw [kO,aV,oJ,gK,fH,pJ,←eM,GJ];exact h.sum
 ·rcases eY.1 hx with hx|hx
  ·exact h.dig x hx
  ·simp at hx;omega
 ·simp at hx;omega
def OfI.len (h:OfI n D m) (hm:m≠0) (hn:n<18446744073709551616):D.length<4:=by
 have h1:=h.sum;apply oK;intro hl;have h2:65536^4≤65536^D.length:=qE (by decide) (by omega);have h3:65536^D.length*1≤65536^D.length*m:=nO _ (by omega);have h4:(65536:Nat)^4=18446744073709551616:=by decide
 omega
def Fj (n:Nat) (hn:n<18446744073709551616) (w:Wo):
  Cz 100 #[.int .u64 n] w fun e w'=>∃r,e= .returned r∧cM w'.heap.size w' r n∧Bz w w':=by
 go_enter Tryz.func100,Tryz.ntmps100;go_wp2
 go_loopw [0,3] (fun s0 s3 wr=>∃(m:Nat) (D:List Nat),s0= .int .u64 m∧m≤n∧OfI n D m∧gI w.heap.size wr s3 D∧Bz w wr) (fun s0 _ _=>(RowKit.intOf s0).toNat)
 case atStart=>exact⟨n,[],rfl,aA _,⟨by simp [val],by simp,fun _ x hx=>by simp at hx⟩,gI.nil _ _,aK _ _⟩
 case round=>
  obtain⟨m,D,rfl,hmn,hO,hR,hB⟩:=hrel
  by_cases hm:m=0
  ·subst hm;have hs:=hO.sum;have hz:=hO.noz rfl;rw [wL,gQ] at hs;obtain⟨a,c,rfl,hc,hcm,hat⟩:=hR.at hO.dig;have a3:cM wr.heap.size wr (.slice a D.length c) n:=⟨a,D,c,rfl,hc,hcm,hat,hz,hs.symm⟩;clear hs hz hO hat;go_wp2
   go_ret
   exact⟨_,rfl,a3,hB⟩
  ·have a2:=hO.step hm;have a7:=hO.len hm hn;obtain⟨p,hp⟩:=enm (m%65536);obtain⟨q,hq⟩:=enm (m/65536);have ha:=Ca m (by omega);rw [hp] at ha a2;rw [hq] at a2;have b2:IntKind.i64.wrap (p:Int)=(p:Int):=by rw [eF];omega
   have b3:(m:Int)/65536=(q:Int):=by omega
   have b0:(0:Int)<(m:Int):=by omega
   have b1:0<m:=by omega
   have b4:q<m:=by omega
   have ho:gI w.heap.size (wr.alloc (Obj.cells #[iv p] 3)) u3 D:=hR.below (aC _ _) (aA _);have a8:=sK wr [iv p] 3 (0,0);have a9:=hB.size;have a5:D.length+1≤17592186044416:=by omega
   have a6:w.heap.size≤(wr.alloc (Obj.cells #[iv p] 3)).heap.size:=by simp;omega
   have a4:Bz w (wr.alloc (Obj.cells #[iv p] 3)):=hB.alloc a9 _;clear hp hq hO hm
   go_wp2_with (at_builtin;refine wV _ rfl _ _ rfl w.heap.size _ D [p] 1 rfl rfl wr.heap.size 1 rfl a8 ho a5 a6 ?_;intro v' w3 a1 a0)
   go_roundw
   case rel=>exact⟨q,D++ [p],rfl,by omega,a2,a1,a4.trans a0⟩
   case measure=>simp [RowKit.intOf];omega
def En (k:Nat) (w:Wo):
  Cz 132 #[.int .i64 k] w fun e w'=>e= .returned (.agg #[.int .i64 1,.int .i64 k,.string { data:=#[] },.bool false,.slice none 0 0,.slice none 0 0,.slice none 0 0])∧Bz w w':=by
 go_enter Tryz.func132,Tryz.ntmps132;go_wp2;refine rN (sV rfl _ _ w.heap.size 27 _ _ _ rfl (bY _ _) Tryz.underlying27 rfl (by kernel_rfl)) rfl ?_;exact⟨rfl,aC _ _⟩
def QM (k:Nat) (hk:k<4611686018427387904) (nm:Value) (b:Value) (s1 s2 s3:Value) (w:Wo):
  Cz 81 #[.agg #[.int .i64 1,.int .i64 k,nm,b,s1,s2,s3]] w fun e w'=>e= .returned (.string (cK (118::dec k)))∧Bz w w':=by
 have b5:IntKind.u64.wrap (k:Int)=(k:Int):=by
  simp [IntKind.wrap,IntKind.bits,IntKind.signed];omega
 have a6:k<65536^4:=by
  have h4:(65536:Nat)^4=18446744073709551616:=by decide
  omega
 have b1:=aC w (Obj.cells #[.int .i64 1,.int .i64 k,nm,b,s1,s2,s3] 27);have d1:=Fj k (by omega) (w.alloc (Obj.cells #[.int .i64 1,.int .i64 k,nm,b,s1,s2,s3] 27));have d2:=fun w' r (h:cM w'.heap.size w' r k)=>IR r _ k 4 a6 (by omega) w' (aA _) h
 have lk:=vX a6 (by omega);have b4:∀w,(Op.stringOp .add { data:=#[118] } (cK (dec k))).run Tryz.prog w= .ok (.string (cK (118::dec k))) w:=fun w=>rL [118] (dec k) { data:=#[118] } _ rfl rfl (by simp;omega) w
 generalize dec k=dk at*;clear a6;go_enter Tryz.func81,Tryz.ntmps81
 go_wp2_with first|(go_at_call 100;with_reducible refine d1.mono ?_;rintro e w1 ⟨r,rfl,hN,a7⟩)|(go_at_call 99;with_reducible refine(d2 _ _ hN).mono ?_;rintro e w2 ⟨rfl,a8⟩)
 go_ret
 have b2:=b1.trans (a7.mono b1.size);exact⟨rfl,b2.trans (a8.mono b2.size)⟩
def Fq (k:Value) (nm:Value) (s3:Value) (neg:Bool) (a1 a2:Option Addr) (a0 a3 a4 a5 n:Nat) (A C:List Nat) (b0:A.length=a0) (b3:C.length=a3) (a7:a0≤1000) (a8:a3≤1000) (w:Wo) (hn:n≤w.heap.size) (h1:dL n w a1 A) (h2:dL n w a2 C):
  Cz 81 #[.agg #[.int .i64 2,k,nm,.bool neg,.slice a1 a0 a4,.slice a2 a3 a5,s3]] w fun e w'=>e= .returned (.string (cK (110::mZ neg (val 4294967296 A) (val 4294967296 C))))∧Bz w w':=by
 obtain⟨M,hMe⟩:∃M,M=2*(a0+a3)+1:=⟨_,rfl⟩;obtain⟨P,hP⟩:∃P,P=65536^M:=⟨_,rfl⟩;have hA:val 4294967296 A<P:=by
  rw [←zC A,hP];refine eE (val_lt (CP h1.1)) (qE (by decide) ?_);rw [zD];omega
 have hC:val 4294967296 C<P:=by
  rw [←zC C,hP];refine eE (val_lt (CP h2.1)) (qE (by decide) ?_);rw [zD];omega
 have b1:=aC w (Obj.cells #[.int .i64 2,k,nm,.bool neg,.slice a1 a0 a4,.slice a2 a3 a5,s3] 27);have d1:=Fi neg a1 a2 a0 a3 a4 a5 n A C b0 b3 (by omega) (by omega) (w.alloc (Obj.cells #[.int .i64 2,k,nm,.bool neg,.slice a1 a0 a4,.slice a2 a3 a5,s3] 27)) (by simp;omega) (h1.below b1 hn) (h2.below b1 hn);generalize val 4294967296 A=x,val 4294967296 C=y at*;have hM:M≤1048576:=by omega
 have a9:1≤M:=by omega
 have d2:=fun w' r (h:RatR w'.heap.size w' r neg x y)=>Eu r neg _ x y P M hP hM a9 hA hC w' (aA _) h
 have lx:=vX (hP▸hA) hM;have ly:=vX (hP▸hC) hM;have hl:(mZ neg x y).length≤100000000:=by
  unfold mZ;rw [aV,aV];have e1:(if neg=true then [45] else([]:List Nat)).length≤1:=by split<;>simp
  have e2:(if y=1 then([]:List Nat) else 114::dec y).length≤16777218:=by split<;>simp;omega
  omega
 have b4:∀w,(Op.stringOp .add { data:=#[110] } (cK (mZ neg x y))).run Tryz.prog w= .ok (.string (cK (110::mZ neg x y))) w:=fun w=>rL [110] (mZ neg x y) { data:=#[110] } _ rfl rfl (by simp;omega) w
 generalize mZ neg x y=tx at*;clear h1 h2 hA hC lx ly hMe hP;go_enter Tryz.func81,Tryz.ntmps81
 go_wp2_with first|(go_at_call 131;with_reducible refine d1.mono ?_;rintro e w1 ⟨r,rfl,hN,a7⟩)|(go_at_call 130;with_reducible refine(d2 _ _ hN).mono ?_;rintro e w2 ⟨rfl,a8⟩)
 go_ret
 have b2:=b1.trans (a7.mono b1.size);exact⟨rfl,b2.trans (a8.mono b2.size)⟩
def Cr (x:Nat) (L:List Nat):(cK (x::L)).extract 1 (cK (x::L)).size=cK L:=by
 apply ML;rw [ByteArray.data_extract,Array.toList_extract,vF,vF,tK];simp [List.extract];rw [iW (by simp)]
def Et (k:Nat) (hk:k<4611686018427387904) (w:Wo):
  Cz 82 #[.int .i64 k] w fun e w'=>e= .returned (.string (cK (dec k)))∧Bz w w':=by
 have d1:=En k w;have d2:=fun w'=>QM k hk (.string { data:=#[] }) (.bool false) (.slice none 0 0) (.slice none 0 0) (.slice none 0 0) w'
 have a1:¬((cK (118::dec k)).size:Int)<1:=by rw [tK];simp;omega
 have a0:=Cr 118 (dec k);generalize dec k=dk at*;go_enter Tryz.func82,Tryz.ntmps82
 go_wp2_with first|(go_at_call 132;with_reducible refine d1.mono ?_;rintro e w1 ⟨rfl,hb1⟩)|(go_at_call 81;with_reducible refine(d2 _).mono ?_;rintro e w2 ⟨rfl,hb2⟩)
 go_ret
 exact⟨rfl,hb1.trans (hb2.mono hb1.size)⟩
def Ct (h:∀x∈L,x<256):Lib.strCells (cK L)=L.map bv:=by
 unfold Lib.strCells;rw [vF,Ap];refine Aq fun x hx=>?_
 simp [bv,tH (h x hx)]
def gA.string {w:Wo} (h:gA base w sv D):(convert 84 9 sv).run Tryz.prog w= .ok (.string (cK D)) w:=by
 obtain⟨a,c,rfl,_,_,hat⟩:=h.at
 by_cases a0:D= []
 ·subst a0;rcases h.2 with⟨e,_⟩|⟨g,cap,cur,e,hr⟩
  ·cases e;exact run_convert_bytes_nil w 84 5 Tryz.underlying84 Tryz.underlying5 0 0 9 Tryz.underlying9
  ·cases e;exact ZJ w 84 5 Tryz.underlying84 Tryz.underlying5 g 0 0 c [] rfl (fun i hi=>absurd hi (by omega)) 9 Tryz.underlying9
 ·obtain⟨b,off,rfl,hb,hc⟩:=hat a0;exact ZJ w 84 5 Tryz.underlying84 Tryz.underlying5 b off D.length c (D.map fun x:Nat=>(x:Int)) (by simp) (fun i hi=>by
   obtain⟨x,hx⟩:∃x,D[i]?=some x:=⟨D[i],cE hi⟩;rw [hc i x hx];simp [hx]) 9 Tryz.underlying9
def nU (s:List Nat):List Nat:=dec s.length++58::s
section
attribute [local go_sem] Heavy.uponW
def JM (neg:Bool) (A C:List Nat):List Nat:=110::mZ neg (val 4294967296 A) (val 4294967296 C)
def Gq:∀z∈mZ neg x y,z<256:=by
 intro z hz;unfold mZ at hz;rcases eY.1 hz with h|h
 ·split at h
  ·simp at h;omega
  ·simp at h
 ·rcases eY.1 h with h|h
  ·have:=FF z h;omega
  ·split at h
   ·simp at h
   ·rcases cN.1 h with rfl|h
    ·omega
    ·have:=FF z h;omega
def Gr {M:Nat} (hx:x<65536^M) (hy:y<65536^M) (hM:M≤1048576):(mZ neg x y).length≤100000000:=by
 have lx:=vX hx hM;have ly:=vX hy hM;unfold mZ;rw [aV,aV];have e1:(if neg=true then [45] else([]:List Nat)).length≤1:=by split<;>simp
 have e2:(if y=1 then([]:List Nat) else 114::dec y).length≤16777218:=by split<;>simp;omega
 omega
def Ig:∀x∈JM neg A C,x<256:=by
 intro x hx;rcases cN.1 hx with rfl|hx
 ·omega
 ·exact Gq x hx
end
def kB (s:ByteArray):List Nat:=s.data.toList.map UInt8.toNat
def HW (s:ByteArray):cK (kB s)=s:=by
 apply ML;rw [vF,kB,Ap]
 conv=>rhs;rw [←List.map_id s.data.toList]
 refine Aq fun x hx=>?_
 show UInt8.ofNat x.toNat=x;exact UInt8.ofNat_toNat
def yG (s:ByteArray):(kB s).length=s.size:=by
 unfold kB;rw [mB,eZ];rfl
def MM (s:ByteArray):∀x∈kB s,x<256:=by
 intro x hx;obtain⟨b,_,rfl⟩:=gF.1 hx;exact b.toNat_lt
def uG (k v:Int) (nm:ByteArray) (g:Bool) (num den:List Nat) (len:Nat):List Nat:=
 if k=1 then 118::dec v.toNat else if k=2 then JM g num den else if k=3 then 97::kB nm else if k=4 then 115::kB nm else 99::(48+len)::kB nm
def Ii (h:fF g A C=0):A.length≤128∧C.length≤128:=by
 unfold fF at h
 by_cases h1:128<A.length∨128<C.length
 ·rw [if_pos h1] at h;exact absurd h (by decide)
 ·omega
def RootOk.len (h:RootOk k g num den):num.length≤128∧den.length≤128:=by
 by_cases hk:k=2
 ·exact Ii (h.sound hk)
 ·obtain⟨_,rfl,rfl⟩:=h.non hk;exact⟨by simp,by simp⟩
def Eo:∀n:Fin 33,Utf8.encode ((48+n.1:Nat):Int)=cK [48+n.1]:=by decide+kernel
def Ep {len:Nat} (h:len≤32):Utf8.encode ((48+len:Nat):Int)=cK [48+len]:=Eo ⟨len,by omega⟩
def Ft (v:Int) (nm:ByteArray) (g:Bool) (s1 s2 s3:Value) (a1:nm.size≤4000) (w:Wo):
  Cz 81 #[.agg #[.int .i64 3,.int .i64 v,.string nm,.bool g,s1,s2,s3]] w fun e w'=>e= .returned (.string (cK (97::kB nm)))∧Bz w w':=by
 have b1:=aC w (Obj.cells #[.int .i64 3,.int .i64 v,.string nm,.bool g,s1,s2,s3] 27);have a2:∀w,(Op.stringOp .add { data:=#[97] } nm).run Tryz.prog w= .ok (.string (cK (97::kB nm))) w:=fun w=>rL [97] (kB nm) { data:=#[97] } _ rfl (HW nm).symm (by rw [yG];simp;omega) w
 generalize kB nm=L at*;go_enter Tryz.func81,Tryz.ntmps81
 go_wp2_with fail
 go_ret
 exact⟨rfl,b1⟩
def Fp (v:Int) (nm:ByteArray) (g:Bool) (s1 s2 s3:Value) (a1:nm.size≤4000) (w:Wo):
  Cz 81 #[.agg #[.int .i64 4,.int .i64 v,.string nm,.bool g,s1,s2,s3]] w fun e w'=>e= .returned (.string (cK (115::kB nm)))∧Bz w w':=by
 have b1:=aC w (Obj.cells #[.int .i64 4,.int .i64 v,.string nm,.bool g,s1,s2,s3] 27);have a2:∀w,(Op.stringOp .add { data:=#[115] } nm).run Tryz.prog w= .ok (.string (cK (115::kB nm))) w:=fun w=>rL [115] (kB nm) { data:=#[115] } _ rfl (HW nm).symm (by rw [yG];simp;omega) w
 generalize kB nm=L at*;go_enter Tryz.func81,Tryz.ntmps81
 go_wp2_with fail
 go_ret
 exact⟨rfl,b1⟩
def Fs (v:Int) (nm:ByteArray) (g:Bool) (s1 s2:Value) (a:Option Addr) (len c:Nat) (a0:len≤32) (a1:nm.size≤4000) (w:Wo):
  Cz 81 #[.agg #[.int .i64 5,.int .i64 v,.string nm,.bool g,s1,s2,.slice a len c]] w fun e w'=>e= .returned (.string (cK (99::(48+len)::kB nm)))∧Bz w w':=by
 have b1:=aC w (Obj.cells #[.int .i64 5,.int .i64 v,.string nm,.bool g,s1,s2,.slice a len c] 27);obtain⟨m,hm⟩:=enm (48+len);have a3:=Ep a0;have w1:IntKind.i64.wrap (48+(len:Int))=(m:Int):=by rw [eF];omega
 have w2:wrap32 (m:Int)=(m:Int):=by unfold wrap32;omega
 rw [hm] at a3 ⊢;have a2:∀w,(Op.stringOp .add (cK [99,m]) nm).run Tryz.prog w= .ok (.string (cK (99::m::kB nm))) w:=fun w=>rL [99,m] (kB nm) _ _ rfl (HW nm).symm (by rw [yG];simp;omega) w
 have a4:∀w,(Op.stringOp .add { data:=#[99] } (cK [m])).run Tryz.prog w= .ok (.string (cK [99,m])) w:=fun w=>rL [99] [m] _ _ rfl rfl (by simp) w
 clear hm;generalize kB nm=L at*;go_enter Tryz.func81,Tryz.ntmps81
 go_wp2_with fail
 go_ret
 exact⟨rfl,b1⟩
def Fo (ok:NodeOk k v nm g num den l3) (a1 a2 a3:Option Addr) (l1 l2 c1 c2 c3 n:Nat) (a6:num.length=l1) (a7:den.length=l2) (w:Wo) (hn:n≤w.heap.size) (h1:dL n w a1 num) (h2:dL n w a2 den):
  Cz 81 #[.agg (tA k v nm g a1 l1 c1 a2 l2 c2 a3 l3 c3)] w fun e w'=>e= .returned (.string (cK (uG k v nm g num den l3)))∧Bz w w':=by
 rcases ok.root.kind with rfl|rfl|rfl|rfl|rfl
 ·obtain⟨v0,v1⟩:=ok.var rfl;obtain⟨x,rfl⟩:∃x:Nat,v=(x:Int):=⟨v.toNat,by omega⟩;exact QM x (by omega) _ _ _ _ _ w
 ·have:=ok.root.len;exact Fq _ _ _ g a1 a2 l1 l2 c1 c2 n num den a6 a7 (by omega) (by omega) w hn h1 h2
 ·exact Ft _ _ _ _ _ _ ok.name w
 ·exact Fp _ _ _ _ _ _ ok.name w
 ·exact Fs _ _ _ _ _ _ _ _ ok.args ok.name w
def LS (h:x<2^64):(dec x).length≤1000:=by
 unfold dec;split
 ·simp
 ·have:=LQ 64 (n:=x) h;simp;omega
def Jy (h:l3≤32):∀x∈uG k v nm g num den l3,x<256:=by
 intro x hx;unfold uG at hx;split at hx
 ·rcases cN.1 hx with rfl|hx
  ·omega
  ·have:=FF x hx;omega
 ·split at hx
  ·exact Ig x hx
  ·split at hx
   ·rcases cN.1 hx with rfl|hx
    ·omega
    ·exact MM _ x hx
   ·split at hx
    ·rcases cN.1 hx with rfl|hx
     ·omega
     ·exact MM _ x hx
    ·rcases cN.1 hx with rfl|hx
     ·omega
     ·rcases cN.1 hx with rfl|hx
      ·omega
      ·exact MM _ x hx
def TS (ok:NodeOk k v nm g num den l3) (hA:∀x∈num,x<4294967296) (hC:∀x∈den,x<4294967296):(uG k v nm g num den l3).length≤100000001:=by
 unfold uG;split
 ·have hv:=ok.var ‹_›;have:=LS (x:=v.toNat) (iV (show v.toNat≤1073741824 by omega) (by decide));simp;omega
 ·split
  ·have:=ok.root.len;obtain⟨M,hM⟩:∃M,M=1024:=⟨_,rfl⟩;have:=Gr (neg:=g) (x:=val 4294967296 num) (y:=val 4294967296 den) (M:=M) (TN hA (by omega)) (TN hC (by omega)) (by omega);simp [JM];omega
  ·have:=ok.name;split
   ·simp [yG];omega
   ·split
    ·simp [yG];omega
    ·simp [yG];omega
mutual
def nT:Tm→List Nat
 | .mk k v nm g num den args=>nU (uG k v nm g num den args.length)++iX args
def iX:List Tm→List Nat
 | []=>[]
 |T::r=>nT T++iX r
end
def PV:∀(L M:List Tm),iX (L++M)=iX L++iX M
 | [],M=>by simp [iX]
 |T::r,M=>by simp [iX,PV r M]
def PT {L:List Tm} {T:Tm} (h:L[i]?=some T):iX (L.take (i+1))=iX (L.take i)++nT T:=by
 rw [mA,h,PV];simp [iX]
def PX (h:s.length≤100000001):(nU s).length≤100001002:=by
 have:=LS (x:=s.length) (iV h (by decide));simp [nU];omega
mutual
theorem PW:∀(T:Tm),AllOk T→(∃n w vs,TmV n w T vs)→(nT T).length≤T.nodes*100001002
 | .mk k v nm g num den args,h,⟨n,w,vs,hv⟩=>by
  simp only [AllOk] at h;simp only [TmV] at hv;obtain⟨s1,s2,a,c,rfl,⟨⟨p1,q1,rfl,hA⟩,⟨p2,q2,rfl,hC⟩⟩,h2,_⟩:=hv;have h1:=PX (TS h.1 hA.1 hC.1);have h3:=PU args h.2 ⟨n,w,a,0,h2⟩;simp only [nT,Tm.nodes,aV];rw [eO];omega
theorem PU:∀(L:List Tm),oG L→(∃n w a i,eV n w L a i)→(iX L).length≤Tm.nodesL L*100001002
 | [],_,_=>by simp [iX,Tm.nodesL]
 |T::r,h,⟨n,w,a,i,hv⟩=>by
  simp only [oG] at h;simp only [eV] at hv;obtain⟨⟨b,off,vs,e,hb,hc,hv1⟩,hr⟩:=hv;have h1:=PW T h.1 ⟨n,w,vs,hv1⟩;have h2:=PU r h.2 ⟨n,w,a,i+1,hr⟩;simp only [iX,Tm.nodesL,aV];rw [eO];omega
end
def ShapeOk (T:Tm):Prop:=∀(n base:Nat) (w:Wo) (vs:Lv) (sv:Value) (D:List Nat),TmV n w T vs→n≤base→base≤w.heap.size→AllOk T→gA base w sv D→D.length+T.nodes*100001002≤17592186044416→
  Cz 50 #[sv,.agg vs.toArray] w fun e w'=>∃a4,e= .returned a4∧gA base w' a4 (D++nT T)∧Below base w w'
def OH {ops:Array Oper} {rest:List Oper} {o:Oper} {a:Act} {Q:Exit→Act→Wo→Prop} (w:Wo) (a5:o.guard=none) (s x:Operand)
  (ho:o.op= .call { callee:=.builtin .append,args:=#[s,x],argTypes:=#[84,9] }) (base:Nat) (sv:Value) (D xs:List Nat) (a9:∀x∈xs,x<256) (hs:a.eval s=sv) (hx:a.eval x= .string (cK xs))
  (hR:gA base w sv D) (a8:D.length+xs.length≤17592186044416) (a0:base≤w.heap.size)
  (h:∀v' w',gA base w' v' (D++xs)→Below base w w'→w.grownBy w' sv.ownBlock→wpList Tryz.prog ops Q rest (a.put o.dst v') w'):wpList Tryz.prog ops Q (o::rest) a w:=by
 obtain⟨i0,hi0,hz0,hz1,hz2⟩:=pI inf5;refine Lib.wpList_append_own_string w a5 s x 84 9 ho base 5 i0 Tryz.underlying84 Tryz.underlying9 hi0 hz0 hz1 hz2 sv D.length (D.map bv) hs hR (cK xs) hx (by rw [tK];unfold maxLen;omega) (by rw [tK];omega) a0 ?_;intro v' w' h1 h2 h3;refine h v' w' ?_ ((aK _ w).grown h2 a0 fun k hk=>(gA.own hR k hk).1) h2;unfold gA;rw [aV,pM,←Ct a9,←tK xs];exact h1
def MO {w w':Wo} (h:gA base w sv D) (hg:w.grownBy w' sv.ownBlock) {b:Nat} {C:Array Value} (hb:w.heap[b]?=some (.cells C 27 (0,0))):w'.heap[b]?=some (.cells C 27 (0,0)):=by
 rw [←hb];refine hg.block b (cV.1 hb).1 fun e=>?_
 obtain⟨_,⟨e1,_⟩|⟨g,cap,cur,e1,_,hgb,_⟩⟩:=h
 ·subst e1;simp [Value.ownBlock] at e
 ·subst e1;have:b=g:=by simpa [Value.ownBlock] using e
  subst this;rw [hgb] at hb;cases hb
def PS {n:Nat} {w:Wo} {a:Option Addr} {L:List Tm} (h:oG L) (hv:eV n w L a 0):∀i,i≤L.length→(iX (L.take i)).length≤Tm.nodesL (L.take i)*100001002
 |0,_=>by simp [iX,Tm.nodesL]
 |i+1,hi=>by
  have hT:L[i]?=some (L[i]'(by omega)):=cE _;obtain⟨b,off,vs,_,_,_,hv1⟩:=hv.get hT;have h1:=PW _ (h.get hT) ⟨n,w,vs,hv1⟩;have h2:=PS h hv i (by omega);rw [PT hT,xJ hT,aV,eO];omega
def Ed (k v:Int) (nm:ByteArray) (g:Bool) (num den:List Nat) (args:List Tm) (ih:∀T'∈args,ShapeOk T'):ShapeOk (.mk k v nm g num den args):=by
 intro n base w vs sv D h hn a9 e1 hR a7;simp only [TmV] at h;obtain⟨s1,s2,a,c,rfl,⟨⟨p1,q1,rfl,hA⟩,⟨p2,q2,rfl,hC⟩⟩,h2,hbig,hbA,hbC⟩:=h;simp only [AllOk] at e1;obtain⟨a2,hall⟩:=e1;obtain⟨len,hl⟩:=enm args.length;obtain⟨l1,hl1⟩:=enm num.length;obtain⟨l2,hl2⟩:=enm den.length;have a4:=TS a2 hA.1 hC.1;have a6:=Jy (k:=k) (v:=v) (nm:=nm) (g:=g) (num:=num) (den:=den) a2.args;have e7:nT (.mk k v nm g num den args)=nU (uG k v nm g num den args.length)++iX args:=by rw [nT]
 rw [e7];clear e7;have c0:(Tm.mk k v nm g num den args).nodes=1+Tm.nodesL args:=by rw [Tm.nodes]
 rw [c0] at a7;clear c0;rw [hl] at hbig a2 a4 a6 ⊢;rw [hl1] at hbA ⊢;rw [hl2] at hbC ⊢;have Al:=aside3 hl hl1 hl2;have b1:=aC w (Obj.cells (tA k v nm g p1 l1 q1 p2 l2 q2 a len c) 27);have hq:=bY w (Obj.cells (tA k v nm g p1 l1 q1 p2 l2 q2 a len c) 27);have a5:Aside ((w.alloc (Obj.cells (tA k v nm g p1 l1 q1 p2 l2 q2 a len c) 27)).heap.size=w.heap.size+1):=by show _=_;simp
 have d1:=Fo a2 p1 p2 a l1 l2 q1 q2 c n hl1 hl2 (w.alloc (Obj.cells (tA k v nm g p1 l1 q1 p2 l2 q2 a len c) 27)) (by have:=a5.o;omega) (hA.below b1 (by omega)) (hC.below b1 (by omega));have c4:=hR.below b1 (aA _);obtain⟨wb,hwb⟩:=enm (w.alloc (Obj.cells (tA k v nm g p1 l1 q1 p2 l2 q2 a len c) 27));rw [hwb] at b1 hq a5 d1 c4;obtain⟨a3,hlab⟩:=enm (uG k v nm g num den len);rw [hlab] at d1 a4 a6 ⊢;obtain⟨m,hm⟩:=enm a3.length;have f2:(cK a3).size=m:=by rw [tK,hm]
 have d2:=fun w'=>Et m (by omega) w'
 have f0:∀x∈dec m,x<256:=fun x hx=>by have:=FF x hx;omega
 have d7:(dec m).length≤1000:=LS (iV (show m≤100000001 by omega) (by decide));have c9:Aside (nU a3=dec m++58::a3):=by show _=_;rw [nU,hm]
 have c2:=aside4 hlab hm hall a4;have b9:=aside a7;have hD:Aside (D.length+(dec m).length+1+m≤17592186044416):=by show _≤_;rw [eO] at a7;omega
 have d4:=aside b1;clear hl hl1 hl2 hA hC a2 hlab hall hm a4 a7 hR b1;obtain⟨x0,x1,x2,x3,x4,x5,x6⟩:=dZ hq;go_enter Tryz.func50,Tryz.ntmps50
 go_wp2_with first
  |(go_at_call 81;with_reducible refine d1.mono ?_;rintro e w1 ⟨rfl,hb1⟩;have d5:=c4.below hb1 (by have:=a5.o;omega);have e2:=(hb1.block w.heap.size (by have:=a5.o;omega)).trans hq)
  |(go_at_call 82;with_reducible refine(d2 _).mono ?_;rintro e w2 ⟨rfl,a1⟩;have c5:=d5.below a1 (by have:=a5.o;have:=hb1.size;omega);have e3:=(a1.block w.heap.size (by have:=a5.o;have:=hb1.size;omega)).trans e2)
  |(at_builtin;refine OH _ rfl _ _ rfl base _ D (dec m) f0 rfl rfl c5 (by have:=hD.o;omega) (by have:=a5.o;have:=hb1.size;have:=a1.size;omega) ?_;intro v1 w3 c6 b4 d8;have c8:=MO c5 d8 e3)
  |(at_builtin;refine OI _ rfl _ _ rfl base _ (D++dec m) [58] 1 rfl rfl w3.heap.size 1 rfl (sK w3 [bv 58] 5 (0,0)) (c6.below (aC _ _) (aA _)) (by have:=hD.o;simp;omega) (by have:=a5.o;have:=hb1.size;have:=a1.size;have:=b4.size;simp;omega) ?_;intro v2 w4 c7 c3 d9;have e4:=MO (c6.below (aC _ _) (aA _)) d9 (((aC w3 _).block w.heap.size (cV.1 c8).1).trans c8))
  |(at_builtin;refine OH _ rfl _ _ rfl base _ (D++dec m++ [58]) a3 a6 rfl rfl c7 (by have:=hD.o;have:=c2.o.2.1;simp;omega) (by have:=a5.o;have:=hb1.size;have:=a1.size;have:=b4.size;have:=c3.size;simp at this;omega) ?_;intro v3 w5 d6 d3 e0;have e5:=MO c7 e0 e4;obtain⟨y0,y1,y2,y3,y4,y5,y6⟩:=dZ e5)
 have b5:Below base w w5:=(((((d4.o.mono a9).trans (hb1.mono (by have:=a5.o;omega))).trans (a1.mono (by have:=a5.o;have:=hb1.size;omega))).trans b4).trans ((aC w3 _).mono (by have:=a5.o;have:=hb1.size;have:=a1.size;have:=b4.size;omega))).trans (c3.trans d3);have b6:gA base w5 v3 (D++nU a3):=by
  rw [c9.o];have e:D++(dec m++58::a3)=D++dec m++ [58]++a3:=by simp
  rw [e];exact d6
 clear c4 d5 c5 c6 c7 d6 hq e2 e3 c8 e4 e5 d8 d9 e0 b4 c3 d3 hb1 a1 d1 d2 x0 x1 x2 x3 x4 x5 x6 y0 y1 y2 y3 y4 y5 y6 d4
 go_loopw [0,24] (fun s0 f3 wr=>∃i:Nat,f3= .int .i64 i∧i≤len∧gA base wr s0 (D++nU a3++iX (args.take i))∧Below base w wr) (fun _ s _=>len-(RowKit.intOf s).toNat)
 case atStart=>exact⟨0,rfl,cJ _,by simpa [iX] using b6,b5⟩
 case round=>
  obtain⟨i,rfl,hi,hR,hB⟩:=hrel;clear b6 b5
  by_cases f1:i<len
  ·obtain⟨T',a8⟩:=egf Al.o.1 f1;obtain⟨b,off,vs',rfl,hbn,hc,hv⟩:=h2.get a8;have e8:=hv;have c1:AllOk T':=c2.o.2.2.1.get a8;have b8:=PS c2.o.2.2.1 h2 i (by rw [Al.o.1];exact hi);have b0:=nodesL_take_le args (i+1);rw [xJ a8] at b0;have b2:(D++nU a3++iX (args.take i)).length+T'.nodes*100001002≤17592186044416:=by
    have h1:=b9.o;have h2:=PX (s:=a3) c2.o.2.2.2;rw [aV,aV];have h3:(1+(Tm.nodesL (args.take i)+T'.nodes))*100001002≤(1+Tm.nodesL args)*100001002:=fP _ (by omega);rw [eO,eO] at h3;omega
   have b3:D++nU a3++iX (args.take i)++nT T'=D++nU a3++iX (args.take (i+1)):=by
    rw [PT a8,iP]
   obtain⟨k',v',nm',g',num',den',a0⟩:=T';simp only [TmV] at hv;obtain⟨t1,t2,a',c',rfl,⟨⟨p1',q1',rfl,_⟩,⟨p2',q2',rfl,_⟩⟩,_⟩:=hv;have a1:∀p:Addr,p.block<n→wr.cell? p=w.cell? p:=fun p hp=>(hB.mono hn).cell hp
   rw [dH] at hc;have x0:=(a1 ⟨b,off+i*7+0,none⟩ hbn).trans (hc 0 _ rfl);have x1:=(a1 ⟨b,off+i*7+1,none⟩ hbn).trans (hc 1 _ rfl);have x2:=(a1 ⟨b,off+i*7+2,none⟩ hbn).trans (hc 2 _ rfl);have x3:=(a1 ⟨b,off+i*7+3,none⟩ hbn).trans (hc 3 _ rfl);have x4:=(a1 ⟨b,off+i*7+4,none⟩ hbn).trans (hc 4 _ rfl);have x5:=(a1 ⟨b,off+i*7+5,none⟩ hbn).trans (hc 5 _ rfl);have x6:=(a1 ⟨b,off+i*7+6,none⟩ hbn).trans (hc 6 _ rfl);rw [gQ] at x0;obtain⟨f4,hi3,hw3⟩:=elt (i:=i) (n:=len) (by omega) (by omega);have e9:base≤wr.heap.size:=aE a9 hB.size;have d0:Below base w (wr.alloc (Obj.cells #[.int .i64 k',.int .i64 v',.string nm',.bool g',.slice p1' num'.length q1',.slice p2' den'.length q2',.slice a' a0.length c'] 27)):=hB.alloc e9 _;have d1:=ih _ (bV a8) n base (wr.alloc (Obj.cells #[.int .i64 k',.int .i64 v',.string nm',.bool g',.slice p1' num'.length q1',.slice p2' den'.length q2',.slice a' a0.length c'] 27)) _ _ _ (TmV.below d0 hn _ _ e8) hn (by rw [eX];omega) c1 (hR.below (aC _ _) (aA _)) b2;rw [b3] at d1;replace d1:Cz 50 #[_,.agg #[.int .i64 k',.int .i64 v',.string nm',.bool g',.slice p1' num'.length q1',.slice p2' den'.length q2',.slice a' a0.length c']] _ _:=d1;have e6:=bY wr (Obj.cells #[.int .i64 k',.int .i64 v',.string nm',.bool g',.slice p1' num'.length q1',.slice p2' den'.length q2',.slice a' a0.length c'] 27);generalize a0.length=len',num'.length=ln1,den'.length=ln2 at*;obtain⟨z0,z1,z2,z3,z4,z5,z6⟩:=dZ e6;clear h2 ih hc e8 a8 a1 c1 b2 b3 b8 b0 e6 hR
   go_wp2_with (go_at_call 50;with_reducible refine d1.mono ?_;rintro e w6 ⟨f5,rfl,hR6,hB6⟩)
   exact⟨⟨i+1,by simp,by omega,hR6,d0.trans hB6⟩,by simp [RowKit.intOf];omega⟩
  ·obtain rfl:i=len:=by omega
   clear h2 ih;have b7:D++nU a3++iX (args.take i)=D++(nU a3++iX args):=by
    rw [←Al.o.1,kD,iP]
   rw [b7] at hR;clear b7;go_wp2
   go_ret
   exact⟨_,rfl,hR,hB⟩
def PR:∀(T:Tm),ShapeOk T
 | .mk k v nm g num den args=>Ed k v nm g num den args fun T' a8=>PR T'
termination_by T=>SizeOf.sizeOf T
decreasing_by
 simp_wf
 have:=pK a8;omega
def Shape_calls (T:Tm) (n:Nat) (w:Wo) (vs:Lv) (h:TmV n w T vs) (hn:n≤w.heap.size) (hf:Fine T):
  Cz 22 #[.agg vs.toArray] w fun e w'=>e= .returned (.string (cK (nT T)))∧Bz w w':=by
 have hs:=PR T;obtain⟨TT,hTT⟩:=enm T;have h0:=h;rw [hTT] at hs h0 hf ⊢;obtain⟨k,v,nm,g,num,den,args⟩:=T;simp only [TmV] at h;obtain⟨s1,s2,a,c,rfl,⟨⟨p1,q1,rfl,_⟩,⟨p2,q2,rfl,_⟩⟩,_⟩:=h;have b1:=aC w (Obj.cells #[.int .i64 k,.int .i64 v,.string nm,.bool g,.slice p1 num.length q1,.slice p2 den.length q2,.slice a args.length c] 27);have d1:=hs n (w.alloc (Obj.cells #[.int .i64 k,.int .i64 v,.string nm,.bool g,.slice p1 num.length q1,.slice p2 den.length q2,.slice a args.length c] 27)).heap.size (w.alloc (Obj.cells #[.int .i64 k,.int .i64 v,.string nm,.bool g,.slice p1 num.length q1,.slice p2 den.length q2,.slice a args.length c] 27)) _ (.slice none 0 0) [] (TmV.below b1 hn _ _ h0) (by simp;omega) (aA _) hf.1 (gA.nil _ _) (by have:=hf.2;simp;omega);rw [lG] at d1;replace d1:Cz 50 #[.slice none 0 0,.agg #[.int .i64 k,.int .i64 v,.string nm,.bool g,.slice p1 num.length q1,.slice p2 den.length q2,.slice a args.length c]] _ _:=d1;show Cz 22 #[.agg #[.int .i64 k,.int .i64 v,.string nm,.bool g,.slice p1 num.length q1,.slice p2 den.length q2,.slice a args.length c]] w _;generalize args.length=l0,num.length=l1,den.length=l2 at*;clear hs h0 hTT;go_enter Tryz.func22,Tryz.ntmps22
 go_wp2_with (go_at_call 50;with_reducible refine d1.mono ?_;rintro e w1 ⟨sv,rfl,hR,hb1⟩;have a0:=hR.string)
 go_ret
 exact⟨rfl,b1.trans (hb1.mono b1.size)⟩
end Go.Proofs.YtealgacfnbbgdaaGreatDoor
namespace Go.Proofs.YtealgacfnbbgdaaGreatDoor
open Go.RowKit Go.Big Go.RowsK Go.MapK
variable {LL:List (List Tm)} {bi:ByteArray→Int→Bool} {v:Value} {L:List Int} {w w':Wo} {e:Ending} {C:Cl} {F k:Int} {base len:Nat} {g pl:Bool}
def Fh {v:Int} {nm:ByteArray} {num den:List Nat} (h:cU k v nm.size g num den len=0):NodeOk k v nm g num den len:=by
 obtain⟨hf,hn⟩:=QL h;have a1:∀{a b:List Nat},eK g a.length b.length=true→g=false∧a= []∧b= []:=by
  intro a b h;unfold eK at h;simp only [aR,yV,iO] at h;exact⟨h.1,mE (by omega),mE (by omega)⟩
 have a0:nm.size≤4000:=by
  refine aE hn ?_;unfold nG;(repeat' split)<;>omega
 rcases hf with⟨rfl,h1,h2,h3,h4,h5⟩|⟨rfl,h1,h2,h3,h4⟩|⟨rfl,h1,h2,h3⟩|⟨rfl,h1,h2,h3⟩|⟨rfl,h1,h2,h3,h4⟩
 ·exact⟨⟨by simp,by simp,fun _=>a1 h4⟩,fun _=>⟨h1,h2⟩,a0,by omega⟩
 ·exact⟨⟨by simp,fun _=>h4,by simp⟩,by simp,a0,by omega⟩
 ·exact⟨⟨by simp,by simp,fun _=>a1 h2⟩,by simp,a0,by omega⟩
 ·exact⟨⟨by simp,by simp,fun _=>a1 h2⟩,by simp,a0,by omega⟩
 ·exact⟨⟨by simp,by simp,fun _=>a1 h2⟩,by simp,a0,by omega⟩
mutual
theorem LH:∀T:Tm,T.errE=0→AllOk T
 | .mk k v nm g num den args,h=>by
  simp only [Tm.errE] at h;split at h
  ·rename_i h1;exact absurd h h1
  ·rename_i h1;simp only [AllOk];exact⟨Fh (HC.1 h1),VU args h⟩
theorem VU:∀L:List Tm,Tm.errL L=0→oG L
 | [],_=>by simp only [oG]
 | T::r,h=>by
  simp only [Tm.errL] at h;split at h
  ·rename_i h1;exact absurd h h1
  ·rename_i h1;simp only [oG];exact⟨LH T (HC.1 h1),VU r h⟩
end
def Lx (h:dK C=0) {i j:Nat} {L:List Tm} {T:Tm} (hL:(eS (Tm.cal bi) C.h C.b.gls)[i]?=some L) (hT:L[j]?=some T):Fine T:=by
 obtain⟨h1,h2,_⟩:=vZ h;obtain⟨_,c2,_,_⟩:=XB hL;rcases c2 T (bV hT) with e|e
 ·subst e;exact⟨LH _ (kQ h1).2,(kQ h1).1⟩
 ·have:=KP C.b T e;have hb:=kQ h2;exact⟨LH _ (this.1 hb.2),by omega⟩
def TG (T:Tm) (n:Nat) (w:Wo) (vs:Lv) (h:TmV n w T vs) (hn:n≤w.heap.size) (hf:Fine T):
  Cz 8 #[.agg vs.toArray] w fun e w'=>e= .returned (.string (cK (nT T)))∧Bz w w':=by
 obtain⟨k,v,nm,g,p1,n1,q1,p2,n2,q2,a,len,c,rfl⟩:=TmV.seven h;have hk:¬k=0:=by
  obtain⟨k',v',nm',g',num,den,args⟩:=T;have h2:=hf.1;simp only [AllOk] at h2;have h3:=h2.1.root.kind;simp only [TmV] at h;obtain⟨_,_,_,_,e,_⟩:=h;simp only [kM,ZN] at e;omega
 have b0:=aC w (Obj.cells (tA k v nm g p1 n1 q1 p2 n2 q2 a len c) 27);have hq:=bY w (Obj.cells (tA k v nm g p1 n1 q1 p2 n2 q2 a len c) 27);obtain⟨x0,x1,x2,x3,x4,x5,x6⟩:=dZ hq;have d1:=Shape_calls T n _ _ (TmV.below b0 hn _ _ h) (aE hn b0.size) hf;replace d1:Cz 22 #[.agg (tA k v nm g p1 n1 q1 p2 n2 q2 a len c)] _ _:=d1;have a2:Aside (Bz w _):=b0;clear h hf hq b0;show Cz 8 #[.agg (tA k v nm g p1 n1 q1 p2 n2 q2 a len c)] w _;go_enter Tryz.func8,Tryz.ntmps8
 go_wp2_with (go_at_call 22;(with_reducible refine d1.mono ?_);rintro e w2 ⟨rfl,hb2⟩)
 go_ret
 exact⟨rfl,a2.o.trans (hb2.mono a2.o.size)⟩
def IntsRd (w:Wo) (v:Value) (L:List Int):Prop:=∃a c,v= .slice a L.length c∧(L.length=0∨∃g,a=some ⟨g,0,none⟩∧g<w.heap.size∧∀(j:Nat) x,L[j]?=some x→w.cell? ⟨g,j,none⟩=some (.int .i64 x))
def IntsRd.nil (w:Wo):IntsRd w (.slice none 0 0) []:=⟨none,0,rfl,.inl rfl⟩
def IntsRd.of (h:eL base w v L):IntsRd w v L:=by
 obtain⟨a,cap,rfl,h1⟩:=gZ h;refine⟨a,cap,rfl,h1.imp id ?_⟩;rintro⟨g,rfl,hb,hl,hc⟩;exact⟨g,rfl,hl,fun j x hx=>hc j _ (by rw [jO,hx];rfl)⟩
def IntsRd.below (h:IntsRd w v L) (hb:Bz w w'):IntsRd w' v L:=by
 obtain⟨a,c,e,h1⟩:=h;refine⟨a,c,e,h1.imp id ?_⟩;rintro⟨g,e,hl,hc⟩;exact⟨g,e,eE hl hb.size,fun j x hx=>(hb.cell (p:=⟨g,j,none⟩) hl).trans (hc j x hx)⟩
def Ek (L:List Int) (u v:Value) (w:Wo) (h1:IntsRd w u L) (h2:IntsRd w v L) (hl:L.length≤1000000):
  Cz 11 #[u,v] w fun e w'=>e= .returned (.bool true)∧Bz w w':=by
 obtain⟨a,c,rfl,h1⟩:=h1;obtain⟨b,d,rfl,h2⟩:=h2;obtain⟨l,hle⟩:=enm L.length;have lA:=aside hle;rw [hle] at h1 h2 hl ⊢;have A1:=aside h1;have A2:=aside h2;clear hle h1 h2;go_enter Tryz.func11,Tryz.ntmps11;go_wp2
 go_loopw [5] (fun s wr=>∃i:Nat,s= .int .i64 i∧i≤l∧Bz w wr) (fun s _=>l-(RowKit.intOf s).toNat)
 case atStart=>exact⟨0,rfl,cJ _,aK _ _⟩
 case round=>
  obtain⟨i,rfl,hi,hB⟩:=hrel
  by_cases a4:i<l
  ·obtain⟨x,hx⟩:∃x,L[i]?=some x:=⟨_,cE (by rw [lA.o];exact a4)⟩;obtain⟨g1,rfl,hg1,hc1⟩:∃g,a=some ⟨g,0,none⟩∧g<w.heap.size∧∀(j:Nat) x,L[j]?=some x→w.cell? ⟨g,j,none⟩=some (.int .i64 x):=by
    rcases A1.o with h|h
    ·omega
    ·exact h
   obtain⟨g2,rfl,hg2,hc2⟩:∃g,b=some ⟨g,0,none⟩∧g<w.heap.size∧∀(j:Nat) x,L[j]?=some x→w.cell? ⟨g,j,none⟩=some (.int .i64 x):=by
    rcases A2.o with h|h
    ·omega
    ·exact h
   have y1:wr.drew.cell? ⟨g1,i,none⟩=some (.int .i64 x):=(hB.cell (p:=⟨g1,i,none⟩) hg1).trans (hc1 i x hx);have y2:wr.drew.cell? ⟨g2,i,none⟩=some (.int .i64 x):=(hB.cell (p:=⟨g2,i,none⟩) hg2).trans (hc2 i x hx);have a3:Bz w wr.drew:=hB.trans ⟨rfl,rfl,rfl,aA _,fun _ _=>rfl⟩;obtain⟨a5,hi0,hwi⟩:=elt (i:=i) (n:=l) (by omega) (by omega);clear hx hg1 hg2 hc1 hc2;go_wp2;refine lV 8 (by kernel_rfl) (by kernel_rfl) ?_;simp only [gL,iJ,gS,gB,lY]
   repeat (with_reducible refine kT (fun K hK=>?_);go_simp;with_reducible refine hK _ ?_;clear hK K)
   refine lW ?_;show wpList _ _ _ _ _ _;go_wp2;exact⟨⟨i+1,by simp,by omega,a3⟩,by simp [RowKit.intOf];omega⟩
  ·obtain rfl:i=l:=by omega
   go_wp2
   go_ret
   exact⟨rfl,hB⟩
def KeysRd (w:Wo) (v:Value) (L:List Tm):Prop:=∃a c,v= .slice a L.length c∧∀(k:Nat) T,L[k]?=some T→∃g kc,a=some ⟨g,0,none⟩∧g<w.heap.size∧KeyC T kc∧∀(j:Nat) u,kc[j]?=some u→w.cell? ⟨g,k*6+j,none⟩=some u
def KeysRd.below {L:List Tm} (h:KeysRd w v L) (hb:Bz w w'):KeysRd w' v L:=by
 obtain⟨a,c,e,h1⟩:=h;refine⟨a,c,e,fun k T hk=>?_⟩;obtain⟨g,kc,e2,hg,hK,hc⟩:=h1 k T hk;exact⟨g,kc,e2,eE hg hb.size,hK,fun j u hj=>(hb.cell (p:=⟨g,k*6+j,none⟩) hg).trans (hc j u hj)⟩
def KHR (w:Wo) (F:Int) (HL:List Tm) (e:Ending) (w':Wo):Prop:=Bz w w'∧∃v,e= .returned (.tuple #[v,.int .i64 F])∧KeysRd w' v HL
def KHP.rd (h:KHP w C F e w'):KHR w F (if F=0 then C.h.argsOf else []) e w':=by
 obtain⟨hb,v,he,h1,h2⟩:=h;refine⟨hb,v,he,?_⟩
 by_cases hF:F=0
 ·rw [if_pos hF];obtain⟨a,c,e1,h3⟩:=(h2 hF).readK;refine⟨a,c,e1,fun k T hk=>?_⟩;obtain⟨g,kc,h4,_,h5,h6,h7⟩:=h3 k T hk;exact⟨g,kc,h4,h5,h6,h7⟩
 ·rw [if_neg hF];exact⟨none,0,h1 hF,fun k T hk=>by simp at hk⟩
def RowsRd (w:Wo) (v:Value) (LL:List (List Tm)):Prop:=∃a c,v= .slice a LL.length c∧∀(i:Nat) L,LL[i]?=some L→∃g b d,a=some ⟨g,0,none⟩∧g<w.heap.size∧w.cell? ⟨g,i,none⟩=some (.slice b L.length d)∧
 ∀(k:Nat) T,L[k]?=some T→∃q vs,b=some ⟨q,0,none⟩∧q<w.heap.size∧TmV w.heap.size w T vs∧∀(j:Nat) u,vs[j]?=some u→w.cell? ⟨q,k*7+j,none⟩=some u
def RowsRd.below (h:RowsRd w v LL) (hb:Bz w w'):RowsRd w' v LL:=by
 obtain⟨a,c,e,h1⟩:=h;refine⟨a,c,e,fun i L hi=>?_⟩;obtain⟨g,b,d,e2,hg,hcl,h2⟩:=h1 i L hi;refine⟨g,b,d,e2,eE hg hb.size,(hb.cell (p:=⟨g,i,none⟩) hg).trans hcl,fun k T hk=>?_⟩;obtain⟨q,vs,e3,hq,hT,hc⟩:=h2 k T hk;exact⟨q,vs,e3,eE hq hb.size,TmV.up hb.size _ _ (TmV.below hb (aA _) _ _ hT),fun j u hj=>(hb.cell (p:=⟨q,k*7+j,none⟩) hq).trans (hc j u hj)⟩
def RowsRd.of {S:Nat→Prop} {X:Lv} (h1:w.ownsRow base 25 1 v LL.length X) (h2:Rws S base w X LL) (h3:∀b,S b→b<w.heap.size):RowsRd w v LL:=by
 obtain⟨a,c,e,hr⟩:=gZ h1;refine⟨a,c,e,fun i L hi=>?_⟩;have hX:i<X.length:=by rw [h2.1];exact(aZ.1 hi).1
 obtain⟨u,hu⟩:∃u,X[i]?=some u:=⟨_,cE hX⟩;obtain⟨Y,r1,r2⟩:=h2.2.1 i u L hu hi;obtain⟨b,d,rfl,hb⟩:=gZ r1;rcases hr with h0|⟨g,rfl,_,hg,hc⟩
 ·have:=(aZ.1 hi).1;omega
 ·refine⟨g,b,d,rfl,hg,hc i _ hu,fun k T hk=>?_⟩;obtain⟨vs,_,q2,q3⟩:=r2 k T hk;rcases hb with h0|⟨q,rfl,_,hq,hcc⟩
  ·have:=(aZ.1 hk).1;omega
  ·exact⟨q,vs,rfl,hq,TmS.toV h3 _ _ q3,fun j u hj=>hcc _ u (q2 j u hj)⟩
def KCR (w:Wo) (F:Int) (LL:List (List Tm)) (e:Ending) (w':Wo):Prop:=Bz w w'∧∃v,e= .returned (.tuple #[v,.int .i64 F])∧RowsRd w' v LL
def KCP.rd (h:KCP w F pl LL e w'):KCR w (if F=0 then(if pl then 0 else 13) else F) (if F=0∧pl=true then LL else []) e w':=by
 obtain⟨hb,v,he,h1,h2⟩:=h;refine⟨hb,v,he,?_⟩
 by_cases hF:F=0∧pl=true
 ·rw [if_pos hF];obtain⟨X,S,q1,q2,q3,_⟩:=h2 hF.1 hF.2;exact RowsRd.of q1 q2 q3
 ·rw [if_neg hF];exact⟨none,0,h1 hF,fun k T hk=>by simp at hk⟩
def PmR (w:Wo) (F:Int) (L:List Int) (e:Ending) (w':Wo):Prop:=Bz w w'∧∃v,e= .returned (.tuple #[v,.int .i64 F])∧IntsRd w' v L
def PmP.rd (h:PmP w F L e w'):PmR w F (if F=0 then L else []) e w':=by
 obtain⟨hb,v,he,h1,h2⟩:=h;refine⟨hb,v,he,?_⟩
 by_cases hF:F=0
 ·rw [if_pos hF];exact IntsRd.of (h2 hF)
 ·rw [if_neg hF,h1 hF];exact IntsRd.nil _
def Hj (h:dK C=0):(sF bi C).length≤1000000:=by
 have hN:=rG h;obtain⟨v1,v2⟩:=zR h;unfold sF;split
 ·rw [←JF];have:=Hi (eS (Tm.cal bi) C.h C.b.gls) C.vars.toNat C.vars.toNat;omega
 ·rw [Ro];have:=(AO C.b []).1;unfold Tm.free;simp at this;omega
def Qd (h:dK C=0):C.h.argsOf.length≤1000000:=by
 have h1:=(kQ (vZ h).1).1;have h2:=xK C.h.argsOf;have h3:Tm.nodesL C.h.argsOf≤C.h.nodes:=by
  obtain⟨th,tb,vv⟩:=C;obtain⟨k,v,nm,g,num,den,args⟩:=th;simp only [Tm.argsOf,Tm.nodes];omega
 omega
end Go.Proofs.YtealgacfnbbgdaaGreatDoor
namespace Go.Heavy
variable {Q:Act→Wo→Prop} {ops:Array Oper} {C:Wo→Prop} {P:Program} {p:Plan} {w:Wo} {a a':Act}
def norm_a (h:a=a') (hK:kX P ops C Q p a' w):kX P ops C Q p a w:=by subst h;exact hK
def light_m {i:Nat} {o:Oper} (v:Value) (h0:ops[i]?=some o) (hg:o.guard=none) (hs:∀w,C w→uponW P (fun u w'=>u=v∧w'=w) ((execOp a.eval o).run P w)) (ha:a.put o.dst v=a') (hK:kX P ops C Q p a' w):kX P ops C Q (.light i p) a w:=light_n v h0 hg hs (by rw [ha];exact hK)
end Go.Heavy
namespace Go
def hNa:=@Heavy.norm_a
def hLm:=@Heavy.light_m
def hRp:=@Heavy.region_plan
def hPe:=@Heavy.plan_end
def hOn:=@Heavy.one_n
end Go
