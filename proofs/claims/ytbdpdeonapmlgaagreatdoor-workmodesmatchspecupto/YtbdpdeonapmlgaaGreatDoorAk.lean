/- Lemmas; no condition. -/
import Derived.Test.YtbdpdeonapmlgaaGreatDoorAj
import Derived.Laws.StructEq
import Derived.Laws.CopyOwn
set_option linter.all false
set_option maxHeartbeats 8000000
set_option maxRecDepth 100000
namespace Go.Proofs.YtbdpdeonapmlgaaGreatDoor
open Go.RowKit Go.Big Go.RowsK Go.MapK
def OutB (base:Nat) (w:Wo) (v:Value) (K:List Bool):Prop:=w.ownsRow base 4 1 v K.length (K.map Value.bool)
def cT (K:List Bool) (T:Tm):Bool:=T.free.all fun x=>K.getD x.toNat false
def dY (K:List Bool) (L:List Int):List Bool:=L.foldl (fun K x=>K.set x.toNat true) K
def InK (K:List Bool) (T:Tm):Prop:=∀x∈T.free,0≤x∧x.toNat<K.length
def wL (T:Tm) (K:List Bool) (n base:Nat) (w:Wo) (vs:Lv) (kv:Value) (h:TmV n w T vs) (hn:n≤w.heap.size) (hN:T.nodes≤1000000) (hK:OutB base w kv K) (hI:InK K T):
  Cz 43 #[kv,.agg vs.toArray] w fun e w'=>e= .returned (.bool (cT K T))∧Bz w w':=by
 obtain⟨ka,kc,rfl,hkr⟩:=gL hK;obtain⟨R,hR⟩:=enm T.free;have b2:R.length≤1000000:=by rw [←hR];have:=(xQ T []).1;simp at this;exact aE this hN
 have a1:Aside (∀x∈R,0≤x∧x.toNat<K.length):=by show∀x∈R,_;rw [←hR];exact hI
 obtain⟨HB,hHB⟩:∃b,cT K T=b:=⟨_,rfl⟩;have a9:Aside (R.all (fun x=>K.getD x.toNat false)=HB):=by show _=_;rw [←hHB,←hR];rfl
 have b1:Aside (∀x∈R,∃g b,ka=some ⟨g,0,none⟩∧g<w.heap.size∧K.getD x.toNat false=b∧w.cell? ⟨g,x.toNat,none⟩=some (.bool b)):=by
  show∀x∈R,_;intro x hx;obtain⟨q1,q2⟩:=a1.o x hx;rcases hkr with h0|⟨g,e,_,hg,hc⟩
  ·omega
  ·refine⟨g,_,e,hg,rfl,hc _ _ ?_⟩;rw [iJ,aZ q2,KA,aZ q2];rfl
 have dF:Aside (∀(n':Nat) (w2:Wo) (us:Lv),TmV n' w2 T us→n'≤w2.heap.size→Cz 102 #[.agg us.toArray] w2 (FreeP w2 R)):=fun n' w2 us hv b5=>by rw [←hR];exact FF T n' w2 us hv b5 hN
 rw [hHB];have a3:=aside h;have a8:Aside (∀x∈R,0≤x):=fun x hx=>(a1.o x hx).1
 have a6:Aside (∀x∈R,x<(K.length:Int)):=fun x hx=>by have:=a1.o x hx;omega
 obtain⟨kl,hkl⟩:∃k,K.length=k:=⟨_,rfl⟩;rw [hkl] at a6 ⊢;clear hK hkr hI hHB hR hkl a1 hN;have h0:=h;obtain⟨k,v,nm,g,num,den,args⟩:=T;simp only [TmV] at h;obtain⟨_,_,a,c,rfl,⟨⟨p1,q1,rfl,_⟩,⟨p2,q2,rfl,_⟩⟩,_⟩:=h;obtain⟨TT,hTT⟩:∃t,Tm.mk k v nm g num den args=t:=⟨_,rfl⟩;rw [hTT] at dF a3;clear h0 hTT;generalize args.length=l1,num.length=n1,den.length=n2 at*;obtain⟨wb,hwb,b0,hq,hsz⟩:=ebx w (bA k v nm g p1 n1 q1 p2 n2 q2 a l1 c);obtain⟨x0,x1,x2,x3,x4,x5,x6⟩:=eG hq;have a4:=aside b0;have d1:=dF.o n wb _ (TmV.below b0 hn _ _ a3.o) (aE hn b0.size);replace d1:Cz 102 #[.agg (tA k v nm g p1 n1 q1 p2 n2 q2 a l1 c)] wb _:=d1;clear hq b0 hsz a3 dF;go_enter Tryz.func43,Tryz.ntmps43
 go_upto_region 1 with fail
 clear hwb
 go_wp2_with (go_at_call 102;with_reducible refine d1.mono ?_)
 rintro e w4 ⟨v4,rfl,hO4,hb4⟩;obtain⟨pa,pc,rfl,hrd⟩:=gL hO4;obtain⟨len,hl⟩:=enm R.length;rw [hl] at hrd b2 ⊢;have Rl:=aside hl;have a7:Aside (∀(j:Nat) x,R[j]?=some x→∃g,pa=some ⟨g,0,none⟩∧w4.cell? ⟨g,j,none⟩=some (.int .i64 x)):=by
  show∀(j:Nat) x,_;intro j x hj;rcases hrd with h0|⟨g,e,_,_,hc⟩
  ·have:=(aO.1 hj).1;omega
  ·exact⟨g,e,hc j _ (by rw [iJ,hj];rfl)⟩
 have a2:Aside (Bz w w4):=a4.o.trans (hb4.mono a4.o.size);have b3:Aside (∀x∈R,0≤x∧x<(kl:Int)∧∃g,ka=some ⟨g,0,none⟩∧w4.cell? ⟨g,x.toNat,none⟩=some (.bool (K.getD x.toNat false))):=by
  show∀x∈R,_;intro x hx;obtain⟨g,b,e,hg,rfl,hc⟩:=b1.o x hx;exact⟨a8.o x hx,a6.o x hx,g,e,(a2.o.cell (p:=⟨g,x.toNat,none⟩) hg).trans hc⟩
 clear hO4 hrd hl hb4 d1 b1 a6 a8 a4 x0 x1 x2 x3 x4 x5 x6;go_wp2
 go_loop [6] (fun s=>∃i:Nat,s= .int .i64 i∧i≤len∧Aside (∀(j:Nat) x,j<i→R[j]?=some x→K.getD x.toNat false=true)) (fun s=>len-(intOf s).toNat)
 case atStart=>exact⟨0,rfl,aJ _,fun j x hj=>by omega⟩
 case round=>
  obtain⟨i,rfl,hi,hall⟩:=hrel
  by_cases b4:i<len
  ·obtain⟨x,hx⟩:=egf Rl.o b4;obtain⟨g,rfl,hc⟩:=a7.o i x hx;obtain⟨r1,r2,g2,rfl,hc2⟩:=b3.o x (aP hx);obtain⟨b6,hi3,hw3⟩:=elt (i:=i) (n:=len) (by omega) (by omega);obtain⟨xn,rfl⟩:∃xn:Nat,x=xn:=⟨x.toNat,by omega⟩;obtain⟨bb,hbb⟩:∃b,K.getD (xn:Int).toNat false=b:=⟨_,rfl⟩;rw [hbb] at hc2;rw [zC] at hc2;cases bb
   ·obtain rfl:HB=false:=by
     rw [←a9.o,List.all_eq_false];exact⟨_,aP hx,by rw [hbb];simp⟩
    clear hall hx hbb;go_wp2
    go_ret
    exact⟨rfl,a2.o⟩
   ·have a0:Aside (∀(j:Nat) x,j<i+1→R[j]?=some x→K.getD x.toNat false=true):=fun j x hj a5=>by
     rcases gR j i with h|h
     ·exact hall.o j x h a5
     ·obtain rfl:j=i:=by omega
      rw [hx] at a5;injection a5 with e;exact e▸hbb
    clear hall hx hbb;go_wp2
    go_round
    case rel=>exact⟨i+1,by simp,by omega,a0⟩
    case measure=>simp [intOf];omega
  ·obtain rfl:i=len:=by omega
   obtain rfl:HB=true:=by
    rw [←a9.o,jI];intro x hx;obtain⟨j,hj⟩:=tW hx;exact hall.o j x (by rw [←Rl.o];exact(aO.1 hj).1) hj
   clear hall;go_wp2
   go_ret
   exact⟨rfl,a2.o⟩
abbrev Ind:=ByteArray × Int
def aS (k:Ind):Value:=.agg #[.string k.1,.int .i64 k.2]
def PW (d:Nat) (a b:Ind) (w:Wo):(Op.equalIn (d+1+1) 63 (aS a) (aS b)).run Tryz.prog w= .ok (decide (a=b)) w:=by
 have hu:∀w,(Go.underlying 63).run Tryz.prog w= .ok _ w:=fun w=>dW Tryz.underlying63 w
 have h9:∀w,(Go.underlying 9).run Tryz.prog w= .ok .string w:=fun w=>dW Tryz.underlying9 w
 have h3:∀w,(Go.underlying 3).run Tryz.prog w= .ok (.int .i64) w:=fun w=>dW Tryz.underlying3 w
 have e9:∀(x y:ByteArray) w,(Op.equalIn (d+1) 9 (.string x) (.string y)).run Tryz.prog w= .ok (decide (x=y)) w:=by
  intro x y w;rw [UO w d 9 x y Tryz.underlying9,strEq]
 have e3:∀(x y:Int) w,(Op.equalIn (d+1) 3 (.int .i64 x) (.int .i64 y)).run Tryz.prog w= .ok (x==y) w:=by
  intro x y w;rw [Op.equalIn];simp only [bF,h3,Result.andThen];simp
 have p0:∀(x:ByteArray) (y:Int) w,(part 9 #[.string x,.int .i64 y] 0).run Tryz.prog w= .ok (.string x) w:=by
  intro x y w;simp [part,go_sem,Tryz.isAgg9]
 have p1:∀(x:ByteArray) (y:Int) w,(part 3 #[.string x,.int .i64 y] 1).run Tryz.prog w= .ok (.int .i64 y) w:=by
  intro x y w;simp [part,go_sem,Tryz.isAgg3]
 have a1:Tryz.prog.stoodInHeld 63=false:=by kernel_rfl
 have a0:∀w,(program).run Tryz.prog w= .ok Tryz.prog w:=fun w=>rfl
 obtain⟨x,n⟩:=a;obtain⟨y,m⟩:=b;rw [Op.equalIn];simp only [bF,hu,Result.andThen,aS,a0,a1];simp [bF,p0,p1,e9,e3,Result.andThen]
 by_cases h1:x=y<;>by_cases h2:n=m<;>simp [h1,h2,p1,e3,bF,Result.andThen]
def Ee (a b:Ind) (w:Wo):(Op.equal 63 (aS a) (aS b)).run Tryz.prog w= .ok (decide (a=b)) w:=PW 9998 a b w
def Ef (em:Bool) (d:Nat) (k:Ind) (w:Wo):(Instr.checkKey em (d+1+1) 63 (aS k)).run Tryz.prog w= .ok () w:=by
 have hu:∀w,(Go.underlying 63).run Tryz.prog w= .ok _ w:=fun w=>dW Tryz.underlying63 w
 have h9:∀w,(Go.underlying 9).run Tryz.prog w= .ok .string w:=fun w=>dW Tryz.underlying9 w
 have h3:∀w,(Go.underlying 3).run Tryz.prog w= .ok (.int .i64) w:=fun w=>dW Tryz.underlying3 w
 have e9:∀(x:ByteArray) w,(Instr.checkKey em (d+1) 9 (.string x)).run Tryz.prog w= .ok () w:=by
  intro x w;rw [Instr.checkKey];simp only [bF,h9,Result.andThen];simp
 have e3:∀(x:Int) w,(Instr.checkKey em (d+1) 3 (.int .i64 x)).run Tryz.prog w= .ok () w:=by
  intro x w;rw [Instr.checkKey];simp only [bF,h3,Result.andThen];simp
 have p0:∀(x:ByteArray) (y:Int) w,(part 9 #[.string x,.int .i64 y] 0).run Tryz.prog w= .ok (.string x) w:=by
  intro x y w;simp [part,go_sem,Tryz.isAgg9]
 have p1:∀(x:ByteArray) (y:Int) w,(part 3 #[.string x,.int .i64 y] 1).run Tryz.prog w= .ok (.int .i64 y) w:=by
  intro x y w;simp [part,go_sem,Tryz.isAgg3]
 obtain⟨x,n⟩:=k;rw [Instr.checkKey];simp only [bF,hu,Result.andThen,aS];simp [bF,p0,p1,e9,e3,Result.andThen]
def kM:KL Tryz.prog 63 aS where
 inj:=fun {a b} h=>by
  obtain⟨x,n⟩:=a;obtain⟨y,m⟩:=b;simp only [aS] at h;injection h with h
  simp only [Array.mk.injEq,jD,Value.string.injEq,Value.int.injEq,DN,rJ] at h;exact Prod.ext h.1 h.2
 find:=fun k w M es h=>Fq _ Tryz.underlying63 (fun a b=>rfl) Ee k w M es h
 check:=fun em k w=>Ef em 9998 k w
 bits:=fun k=>by
  have:=(Go.MapKept.bytes_beq k.1 k.1).2 rfl;simp [aS,Instr.sameBits,this]
variable {L:List Ind} {k:Ind}
section
attribute [local go_sem] Heavy.uponW
def aT (k:Ind):Lv:=[.string k.1,.int .i64 k.2]
def IndsV (n:Nat) (w:Wo) (L:List Ind) (a:Option Addr):Prop:=
 ∀(k:Nat) (I:Ind),L[k]?=some I→∃g off,a=some ⟨g,off,none⟩∧g<n∧w.cell? ⟨g,off+k*2,none⟩=some (.string I.1)∧w.cell? ⟨g,off+k*2+1,none⟩=some (.int .i64 I.2)
def IndsV.below {n m:Nat} {w w':Wo} {a:Option Addr} (h:IndsV n w L a) (hb:Below m w w') (hm:n≤m):IndsV n w' L a:=fun k I hk=>by
 obtain⟨g,off,e,hg,h1,h2⟩:=h k I hk;exact⟨g,off,e,hg,(hb.cell (p:=⟨g,off+k*2,none⟩) (by show g<m;omega)).trans h1,(hb.cell (p:=⟨g,off+k*2+1,none⟩) (by show g<m;omega)).trans h2⟩
def rU:Value:=.agg #[.string { data:=#[] },.int .i64 0]
def kZ:El Tryz.prog 127 63 2 24 rU:=⟨Tryz.underlying127,by
  obtain⟨i0,h1,h2,h3,h4⟩:=lZ (show(Tryz.prog.info? 63).map (fun i=>(i.zero,i.size,i.bytes))=some (some rU,2,24) by kernel_rfl);exact⟨i0,h1,h2,h3,h4⟩,rfl,by decide⟩
def aD (base:Nat) (w:Wo) (v:Value) (L:List Ind):Prop:=w.ownsRow base 63 2 v L.length (L.flatMap aT)
def flat_get:∀{L:List Ind} {k:Nat} {I:Ind},L[k]?=some I→(L.flatMap aT)[k*2]?=some (.string I.1)∧(L.flatMap aT)[k*2+1]?=some (.int .i64 I.2)
 | [],_,_,h=>by simp at h
 |J::r,0,I,h=>by
  simp at h;subst h;simp [aT]
 |J::r,k+1,I,h=>by
  have:=flat_get (L:=r) (k:=k) (I:=I) (by simpa using h);simp only [oQ,aT];rw [show(k+1)*2=k*2+2 by omega,show k*2+2+1=k*2+1+2 by omega];simpa using this
def flat_len (L:List Ind):(L.flatMap aT).length=L.length*2:=by
 induction L with
 |nil=>rfl
 |cons a r ih=>simp [aT] at ih ⊢;omega
def CL (L:List Ind):∀u∈L.flatMap aT,u.oneCell'=true:=by
 intro u hu;obtain⟨I,_,h⟩:=vS.1 hu;simp [aT] at h;rcases h with rfl|rfl<;>rfl
def aD.read {base:Nat} {w:Wo} {v:Value} (h:aD base w v L):∃a c,v= .slice a L.length c∧IndsV w.heap.size w L a:=by
 obtain⟨a,c,rfl,hr⟩:=gL h;refine⟨a,c,rfl,fun k I hk=>?_⟩;rcases hr with h0|⟨g,e,_,hg,hc⟩
 ·have:=(aO.1 hk).1;omega
 ·obtain⟨h1,h2⟩:=flat_get hk;exact⟨g,0,e,hg,by rw [bT];exact hc _ _ h1,by rw [bT];exact hc _ _ h2⟩
def kX (x y:ByteArray) (n m:Int) (w:Wo):(Op.equalIn 10000 63 (.agg #[.string x,.int .i64 n]) (.agg #[.string y,.int .i64 m])).run Tryz.prog w= .ok (decide ((x,n)=(y,m))) w:=PW 9998 (x,n) (y,m) w
def lV (op:BinOp) (x y:Operand) (xs ys:Array Value) (w:Wo):(eqGuard op 63 x y (.agg xs) (.agg ys)).run Tryz.prog w= .ok () w:=run_eqGuard_agg _ _ _ _ _ _ _ (by kernel_rfl)
def iW (k:Ind) (L:List Ind):Bool:=L.any fun J=>decide (J=k)
def nV:iW k L=true↔k∈L:=by
 unfold iW;rw [rT];constructor
 ·rintro⟨J,h1,h2⟩;rw [fI] at h2;subst h2;exact h1
 ·intro h;exact⟨k,h,by simp⟩
def uK:iW k L=false↔k∉L:=by
 rw [←nV];simp
def HF (L:List Ind) (x:ByteArray) (m:Int) (n:Nat) (w:Wo) (a:Option Addr) (len c:Nat) (hl:L.length=len) (a3:len≤1099511627776) (h:IndsV n w L a) (hn:n≤w.heap.size):
  Cz 146 #[.slice a len c,.agg #[.string x,.int .i64 m]] w fun e w'=>e= .returned (.bool (iW (x,m) L))∧Bz w w':=by
 have Al:=aside hl;obtain⟨F,hF⟩:=enm (iW (x,m) L);rw [hF];have FA:=aside hF;obtain⟨wb,hwb,b0,hq,hsz⟩:=ebx w (Obj.cells #[.string x,.int .i64 m] 63);have fa:Aside (∀w2,Bz wb w2→_):=fun(w2:Wo) (hb:Bz wb w2)=>eW ((hb.block w.heap.size (by omega)).trans hq)
 have hA:Aside (∀w2,Bz wb w2→IndsV n w2 L a∧Bz w w2):=fun w2 hb=>⟨(h.below (b0.trans (hb.mono b0.size)) hn),b0.trans (hb.mono b0.size)⟩
 clear hq hsz hl hF h;go_enter Tryz.func146,Tryz.ntmps146
 go_upto_region 1 with fail
 clear hwb;go_wp2
 go_loopw [5] (fun s wr=>∃i:Nat,s= .int .i64 i∧i≤len∧(∀J∈L.take i,J≠(x,m))∧Bz wb wr) (fun s _=>len-(intOf s).toNat)
 case atStart=>exact⟨0,rfl,aJ _,by simp,aG _ _⟩
 case round=>
  obtain⟨wo,rfl⟩:=enr wr;obtain⟨i,rfl,hi,hno,hB⟩:=hrel
  by_cases a4:i<len
  ·obtain⟨J,hJ⟩:=egf Al.o a4;obtain⟨g,off,rfl,_,_,_⟩:=(hA.o wo hB).1 i J hJ;have hc:Aside (∀w2,Bz wb w2→w2.cell? ⟨g,off+i*2,none⟩=some (.string J.1)∧w2.cell? ⟨g,off+i*2+1,none⟩=some (.int .i64 J.2)):=fun w2 hb=>by
    obtain⟨g',off',e,_,c0,c1⟩:=(hA.o w2 hb).1 i J hJ;injection e with e;injection e with e1 e2
    subst e1;subst e2;exact⟨c0,c1⟩
   have a1:=aP hJ;have a2:=aside hno;have a7:Aside (L.take (i+1)=L.take i++ [J]):=by show _=_;rw [gK,hJ];rfl
   obtain⟨y,k⟩:=J;dsimp only at hc;obtain⟨a9,hi3,hw3⟩:=elt (i:=i) (n:=len) (by omega) (by omega);have a8:=kX y x k m;have b1:=lV;obtain⟨D,hD⟩:=enm (decide ((y,k)=(x,m)));rw [hD] at a8;have DA:=aside hD;have a5:=aside a1;clear hJ hno hD a1
   go_upto_region 4 with fail
   have fd:Bz wb wo.drew:=hB.trans (cU _ _);refine hRp (Bz wb) 5 (Heavy.lights [0,1,2,3,4] .done) (by kernel_rfl) (by kernel_rfl) fd ?_;simp only [Heavy.lights,aX,bI,aW,bD]
   iterate 3 ((apply hLm;(exact rfl);(exact rfl);(intro a0 hw;go_simp;exact rfl);(go_simp;exact rfl)))
   (apply hLm;(exact rfl);(exact rfl);(intro a0 hw;have z0:=(hc.o a0 hw).1;have z1:=(hc.o a0 hw).2;go_simp;exact rfl);(go_simp;exact rfl))
   (apply hLm;(exact rfl);(exact rfl);(intro a0 hw;have z0:=(fa.o a0 hw).1;have z1:=(fa.o a0 hw).2;go_simp;exact rfl);(go_simp;exact rfl))
   apply hPe;show wpList _ _ _ _ _ _;cases D
   ·have a6:Aside (∀K∈L.take (i+1),K≠(x,m)):=by
     show∀K∈_,_;rw [a7.o];intro K hK;rcases bX.1 hK with hK|hK
     ·exact a2.o K hK
     ·simp at hK;subst hK;simpa using DA.o
    go_wp2;go_roundw
    case rel=>exact⟨i+1,by simp,by omega,a6.o,fd⟩
    case measure=>simp [intOf];omega
   ·obtain rfl:F=true:=by
     rw [←FA.o,nV];have e:=DA.o;rw [fI] at e;rw [←e];exact a5.o
    go_wp2
    go_ret
    exact⟨rfl,(hA.o _ fd).2⟩
  ·obtain rfl:i=len:=by omega
   obtain rfl:F=false:=by
    rw [←FA.o,uK];intro hm;rw [←Al.o,iP] at hno;exact hno _ hm rfl
   clear hno;go_wp2
   go_ret
   exact⟨rfl,(hA.o _ hB).2⟩
def Ji (x y:ByteArray) (n m:Int) (w:Wo):
  Cz 201 #[.agg #[.string x,.int .i64 n],.agg #[.string y,.int .i64 m]] w fun e w'=>(∃b:Bool,e= .returned (.bool b))∧Bz w w':=by
 have b0:=(XJ w (Obj.cells #[.string x,.int .i64 n] 63) (Obj.cells #[.string y,.int .i64 m] 63)).1;go_enter Tryz.func201,Tryz.ntmps201;go_wp2
 all_goals(go_ret;exact⟨⟨_,rfl⟩,b0⟩)
end
end Go.Proofs.YtbdpdeonapmlgaaGreatDoor
namespace Go.Heavy
variable {Q:Act→Wo→Prop} {a:Act} {w:Wo} {listed:Array Bool} {i id n s:Nat} {o oi:Oper}
inductive Step where
 |pre (i:Nat)
 |both (i:Nat)
 |sw
def waits (md:Region.Mode) (ops:Array Oper) (s i:Nat):Bool:=
 match ops[s]? with
 |some o=>o.after.any fun e=>Region.binds md e&&(e.on==i)
 |none=>false
def okS (md:Region.Mode) (ops:Array Oper) (g n s:Nat):List Step→Array Bool→Bool
 | [],listed=>Region.seqB md ops g n listed
 | .pre i::r,listed=>(Region.ready md ops listed).contains i&&Region.free md ops listed i&&decide (i<n)&&decide (i≠s)&&waits md ops s i&&okS md ops g n s r (listed.setIfInBounds i true)
 | .both i::r,listed=>(Region.ready md ops listed).contains i&&Region.free md ops listed i&&decide (i<n)&&decide (i≠s)&&okS md ops g n s r (listed.setIfInBounds i true)
 | .sw::r,listed=>Region.ready md ops listed== [s]&&decide (s<n)&&okS md ops g n s r (listed.setIfInBounds s true)
section
variable {P:Program} {ops:Array Oper} {md:Region.Mode} {C C2:Wo→Prop} {s:Nat}
def Kat (s:Nat) (C C2:Wo→Prop) (listed:Array Bool) (w:Wo):Prop:=if listed.getD s false=true then C2 w else C w
def xO (P:Program) (md:Region.Mode) (ops:Array Oper) (K:Array Bool→Wo→Prop) (n:Nat) (L:Array Bool→Act→Wo→Prop):Nat→Array Bool→Act→Wo→Prop
 |0,listed,a,w=>L listed a w
 |f+1,listed,a,w=>Region.ready md ops listed≠ []∧∀i∈Region.ready md ops listed,i<n∧jF P ops i (fun a' w'=>K (listed.setIfInBounds i true) w'∧xO P md ops K n L f (listed.setIfInBounds i true) a' w') a w
def UI {K:Array Bool→Wo→Prop} {n g:Nat} {L:Array Bool→Act→Wo→Prop} {Q':Exit→Act→Wo→Prop} (hL:∀listed a w,L listed a w→wpAny P md ops Q' g listed a w):
  ∀(f:Nat) (listed:Array Bool) (a:Act) (w:Wo),xO P md ops K n L f listed a w→wpAny P md ops Q' (f+g) listed a w
 |0,listed,a,w,h=>by rw [bT];exact hL _ _ _ h
 |f+1,listed,a,w,h=>by
  rw [show f+1+g=(f+g)+1 by omega];exact⟨fun h0=>absurd h0 h.1,fun i hi=>KP (fun a' w' h'=>UI hL f _ a' w' h'.2) (h.2 i hi).2⟩
def Fe (h:i≠s) (d:Bool):(listed.setIfInBounds i true).getD s d=listed.getD s d:=by
 rw [oS,oS,Mk h]
def Kat.other (h:i≠s):Kat s C C2 (listed.setIfInBounds i true) w↔Kat s C C2 listed w:=by
 unfold Kat;rw [Fe h]
def QC {D:Wo→Prop} {v:Value} {L:Array Bool→Act→Wo→Prop} (a5:i≠s) (hD:∀listed w,HeadInv md ops n listed→listed.getD i true=false→Kat s C C2 listed w→D w) (hi:ops[i]?=some oi) (a1:∀(j:Nat) (o:Oper) cs b,ops[j]?=some o→o.op≠ .select cs b)
  (hs:Region.sinkB md ops n=true) (hc:Region.chainB md ops n=true) (hn:n<ops.size) (a3:i<n) (b1:∀listed a w,L listed a w→∀j∈Region.ready md ops listed,n≤j):
  ∀(f:Nat) (listed:Array Bool) (a:Act) (w:Wo),Kat s C C2 listed w→HeadInv md ops n listed→
   (∀j oj,ops[j]?=some oj→j≠i→listed.getD j true=false→(∀e∈oj.after,Region.binds md e=true→e.on≠i)→oi.apart ops oj=true)→
   i∈Region.ready md ops listed→St P ops D oi v a→xO P md ops (Kat s C C2) n L f (listed.setIfInBounds i true) (a.put oi.dst v) w→xO P md ops (Kat s C C2) n L (f+1) listed a w:=by
 intro f
 induction f with
 | zero=>
  intro listed a w hw a2 _ hr hy H;have a7:=(rF.1 hr).1;refine⟨fun h=>(by rw [h] at hr;cases hr),fun j hj=>?_⟩;have b6:j<n:=DY fun h=>JL hs hc hn a2 _ i rfl a3 a7 j h hj
  refine⟨b6,?_⟩
  by_cases a6:j=i
  ·subst a6;exact hy.one hi (hD _ _ a2 a7 hw) ⟨(Kat.other a5).2 hw,H⟩
  ·have:=b1 _ _ _ H j (yP hj a6);omega
 | succ f ih=>
  intro listed a w hw a2 a9 hr hy H;have a7:=(rF.1 hr).1;refine⟨fun h=>(by rw [h] at hr;cases hr),fun j hj=>?_⟩;have b6:j<n:=DY fun h=>JL hs hc hn a2 _ i rfl a3 a7 j h hj
  refine⟨b6,?_⟩
  by_cases a6:j=i
  ·subst a6;exact hy.one hi (hD _ _ a2 a7 hw) ⟨(Kat.other a5).2 hw,H⟩
  ·have h1:=(H.2 j (yP hj a6)).2;obtain⟨b2,oj,hoj,hall⟩:=rF.1 hj;have b8:∀e∈oj.after,Region.binds md e=true→e.on≠i:=fun e he hb c5=>by
    have h1:=hall e he hb;rw [c5,getD_both a7] at h1;cases h1
   have h2:=NX (C:=D) hoj (a9 j oj hoj a6 b2 b8) (fun cs b=>a1 i oi cs b hi) (fun cs b=>a1 j oj cs b hoj) hy h1;have b0:∀k ok,ops[k]?=some ok→k≠i→(listed.setIfInBounds j true).getD k true=false→
     (∀e∈ok.after,Region.binds md e=true→e.on≠i)→oi.apart ops ok=true:=fun k ok hk c6 b3 c7=>by
    refine a9 k ok hk c6 ?_ c7
    by_cases c2:j=k
    ·subst c2;exact b2
    ·rw [getD_set_ne true c2] at b3;exact b3
   refine NY (fun a' w' h3=>?_) h2;have hK:Kat s C C2 (listed.setIfInBounds j true) w':=by
    have:=h3.2.1;rw [WQ _ _ (eZ a6),Kat.other a5] at this;exact this
   refine⟨hK,ih (listed.setIfInBounds j true) a' w' hK (a2.set hj b6) b0 (yP hr (eZ a6)) h3.1 ?_⟩;rw [WQ _ _ a6];exact h3.2.2
def runS (P:Program) (ops:Array Oper) (s:Nat) (C C2:Wo→Prop) (Q:Act→Wo→Prop):List Step→Act→Wo→Prop
 | [],a,w=>Q a w
 | .pre i::r,a,w=>∃o v,ops[i]?=some o∧St P ops C o v a∧runS P ops s C C2 Q r (a.put o.dst v) w
 | .both i::r,a,w=>∃o v,ops[i]?=some o∧St P ops (fun w=>C w∨C2 w) o v a∧runS P ops s C C2 Q r (a.put o.dst v) w
 | .sw::r,a,w=>∃o,ops[s]?=some o∧qI P ops o (fun a' w'=>C2 w'∧runS P ops s C C2 Q r a' w') a w
def CF {n g:Nat} {Lq:Act→Wo→Prop} (a1:Region.noSelect ops=true) (hs:Region.sinkB md ops n=true) (hc:Region.chainB md ops n=true) (hn:n<ops.size):
  ∀(r:List Step) (listed:Array Bool) (a:Act) (w:Wo),Kat s C C2 listed w→HeadInv md ops n listed→okS md ops g n s r listed=true→runS P ops s C C2 Lq r a w→
   xO P md ops (Kat s C C2) n (fun a0 a' w'=>Region.seqB md ops g n a0=true∧Lq a' w') r.length listed a w
 | [],listed,a,w,_,_,hB,h=>⟨hB,h⟩
 | .pre i::r,listed,a,w,hw,a2,hB,h=>by
  simp only [okS,aN,fI] at hB;obtain⟨⟨⟨⟨⟨hr,hf⟩,a3⟩,a5⟩,hwt⟩,hB'⟩:=hB;have b4:i∈Region.ready md ops listed:=by simpa using hr
  obtain⟨o,v,h0,hy,hK⟩:=h;refine QC a5 (fun a0 w' b5 a7 a8=>?_) h0 (UU a1) hs hc hn a3 (fun a0 a' w' hL=>seqB_ready hL.1) r.length listed a w hw a2 (UV h0 hf) b4 hy
   (CF a1 hs hc hn r _ _ _ ((Kat.other a5).2 hw) (a2.set b4 a3) hB' hK)
  unfold Kat at a8;rw [if_neg] at a8
  ·exact a8
  ·intro c8;unfold waits at hwt;cases hos:ops[s]? with
   |none=>rw [hos] at hwt;cases hwt
   |some os=>
    rw [hos] at hwt;obtain⟨e,he,hb⟩:=Array.any_eq_true'.1 hwt;simp only [aN,rI] at hb;have h3:=b5.closed s os hos c8 e he hb.1;rw [hb.2,getD_both a7] at h3;cases h3
 | .both i::r,listed,a,w,hw,a2,hB,h=>by
  simp only [okS,aN,fI] at hB;obtain⟨⟨⟨⟨hr,hf⟩,a3⟩,a5⟩,hB'⟩:=hB;have b4:i∈Region.ready md ops listed:=by simpa using hr
  obtain⟨o,v,h0,hy,hK⟩:=h;refine QC a5 (fun a0 w' b5 a7 a8=>?_) h0 (UU a1) hs hc hn a3 (fun a0 a' w' hL=>seqB_ready hL.1) r.length listed a w hw a2 (UV h0 hf) b4 hy
   (CF a1 hs hc hn r _ _ _ ((Kat.other a5).2 hw) (a2.set b4 a3) hB' hK)
  unfold Kat at a8;split at a8
  ·exact .inr a8
  ·exact .inl a8
 | .sw::r,listed,a,w,hw,a2,hB,h=>by
  simp only [okS,aN,fI] at hB;obtain⟨⟨hr,a3⟩,hB'⟩:=hB;have a4:Region.ready md ops listed= [s]:=by simpa using hr
  obtain⟨o,h0,h1⟩:=h;refine⟨by rw [a4];simp,fun k hk=>?_⟩;have c3:k∈Region.ready md ops listed:=hk;rw [a4] at hk;have b7:k=s:=by simpa using hk
  rw [b7] at c3 ⊢;refine⟨a3,?_⟩;unfold jF;rw [h0];refine wW (fun a' w' ⟨h2,h3⟩=>?_) h1;have hK:Kat s C C2 (listed.setIfInBounds s true) w':=by
   unfold Kat;rw [if_pos]
   ·exact h2
   ·have b7:s<listed.size:=by rw [a2.size];exact(aM.1 h0).1
    rw [oS,Array.getElem?_setIfInBounds_self_of_lt b7];rfl
  exact⟨hK,CF a1 hs hc hn r _ a' w' hK (a2.set c3 a3) hB' h3⟩
def region_switch {Q:Exit→Act→Wo→Prop} {l:List Oper} (C C2:Wo→Prop) (n s:Nat) (r:List Step) (hm:P.follows .mixedOrders=true)
  (hB:(Region.noSelect l.toArray&&decide (n<l.toArray.size)&&Region.sinkB .any l.toArray n&&Region.chainB .any l.toArray n&&decide (r.length=n)&&okS .any l.toArray (l.toArray.size-n) n s r (Array.replicate l.toArray.size false))=true)
  (hw:C { w with drawn:=w.drawn+1 }) (b9:runS P l.toArray s C C2 (fun a' w'=>wpList P l.toArray Q (l.drop n) a' w') r a { w with drawn:=w.drawn+1 }):(Code.region id l.toArray true).wp P Q a w:=by
 simp only [aN,fI] at hB;obtain⟨⟨⟨⟨⟨a1,hn⟩,hs⟩,hc⟩,hsz⟩,hok⟩:=hB;have c1:(l.drop n).length=l.toArray.size-n:=by simp
 have c0:HeadInv .any l.toArray n (Array.replicate l.toArray.size false):=
  ⟨by simp,fun j oj _ hl=>(by rw [DP] at hl;cases hl),fun t _ ht=>getD_in (by simpa using ht) (DP _ _)⟩
 have c4:Kat s C C2 (Array.replicate l.toArray.size false) { w with drawn:=w.drawn+1 }:=by
  unfold Kat;rw [DP,if_neg (by simp)];exact hw
 have H:=CF (md:=.any) a1 hs hc hn r _ a _ c4 c0 hok b9;refine UM hm ?_;have:=UI (Q':=Q) (g:=l.toArray.size-n) (fun listed a' w' hL=>by
  have:=wpAny_of_seq (md:=.any) (Q':=Q) (l.drop n) n listed a' w' (fun j=>by simp [kR]) (by rw [c1];exact hL.1) hL.2
  rwa [c1] at this) _ _ _ _ H
 rw [hsz,show n+(l.toArray.size-n)=l.toArray.size by omega] at this;exact this
def pre_step {r:List Step} (v:Value) (h0:ops[i]?=some o) (hg:o.guard=none) (hs:∀w,C w→uponW P (fun u w'=>u=v∧w'=w) ((execOp a.eval o).run P w)) (hK:runS P ops s C C2 Q r (a.put o.dst v) w):runS P ops s C C2 Q (.pre i::r) a w:=
 ⟨o,v,h0,.inl ⟨by unfold Region.wanted;rw [hg],hs⟩,hK⟩
def both_step {r:List Step} (v:Value) (h0:ops[i]?=some o) (hg:o.guard=none) (hs:∀w,uponW P (fun u w'=>u=v∧w'=w) ((execOp a.eval o).run P w)) (hK:runS P ops s C C2 Q r (a.put o.dst v) w):runS P ops s C C2 Q (.both i::r) a w:=
 ⟨o,v,h0,.inl ⟨by unfold Region.wanted;rw [hg],fun w _=>hs w⟩,hK⟩
def sw_step {r:List Step} (h0:ops[s]?=some o) (hg:o.guard=none) (hK:uponW P (fun v w'=>C2 w'∧runS P ops s C C2 Q r (a.put o.dst v) w') ((execOp a.eval o).run P w)):runS P ops s C C2 Q (.sw::r) a w:=
 ⟨o,h0,.inl ⟨by unfold Region.wanted;rw [hg],hK⟩⟩
def switch_end (hQ:Q a w):runS P ops s C C2 Q [] a w:=hQ
end
end Go.Heavy
namespace Go.Heavy
open Go.RowKit Go.RowsK
def two_of {P:Program} {ops:Array Oper} {C:Wo→Prop} {i j:Nat} {p q:Plan} {Q:Act→Wo→Prop} {a:Act} {w:Wo} (h1:eE P ops C Q (.one i p) a w) (h2:eE P ops C Q (.one j q) a w):eE P ops C Q (.two i j p q) a w:=⟨h1,h2⟩
def one_app {P:Program} {a6 a3:TypeId} {size bytes:Nat} {z:Value} (E:El P a6 a3 size bytes z) {ops:Array Oper} {C:Wo→Prop} {i:Nat} {p:Plan} {Q:Act→Wo→Prop} {o:Oper} {a:Act} {w:Wo} (h0:ops[i]?=some o) (hg:o.guard=none) (s x:Operand)
  (ho:o.op= .call { callee:=.builtin .append,args:=#[s,x],argTypes:=#[a6,a6] }) (base:Nat) (v:Value) (n:Nat) (xs:Lv) (hs:a.eval s=v) (a4:w.ownsRow base a3 size v n xs)
  (v2:Value) (m:Nat) (a0:Lv) (hx:a.eval x=v2) (a5:SrcAt w v2 m a0) (hl:a0.length=m*size) (h1:∀u∈a0,u.oneCell'=true)
  (a7:n+m≤maxLen) (a1:(n+m)*bytes≤140737488355328) (a2:base≤w.heap.size)
  (h:∀v' w',w'.ownsRow base a3 size v' (n+m) (xs++a0)→w.grownBy w' v.ownBlock→(v'.ownBlock=v.ownBlock∨v'.ownBlock=some w.heap.size)→C w'∧eE P ops C Q p (a.put o.dst v') w'):eE P ops C Q (.one i p) a w:=by
 refine one_n h0 hg ?_;obtain⟨v',w',hr,h2,h3,h4⟩:=MI E w o.type base v n xs a4 v2 m a0 a5 hl h1 a7 a1 a2;unfold execOp;simp only [ho,resolve,invoke,builtin,bF,cH,cK,List.map_toArray,gS,vV,hs,hx,hr];exact h v' w' h2 h3 h4
end Go.Heavy
namespace Go.Proofs.YtbdpdeonapmlgaaGreatDoor
open Go.RowKit Go.Big Go.RowsK Go.MapK
variable {L:List Ind} {P:Program} {ops:Array Oper} {Q:Act→Wo→Prop} {r:List Heavy.Step} {w w':Wo} {base i s cap g n m:Nat} {o:Oper} {v x y:Value} {a:Act} {C C2:Wo→Prop} {J:Ind}
def RE {ev:Operand→Value} (t:TypeId) (x y:Operand) (ho:o.op= .store t x y) {v u:Value} (hx:ev x=v) (hy:ev y=u) (hr:(Instr.storeAt t v u).run P w= .ok () w'):(execOp ev o).run P w= .ok .skip w':=by
 unfold execOp;simp only [ho,hx,hy,bF,cH,hr,cK]
def EV {W W1:Wo} {A:Addr} (h:(storeCells A [x,y] 0).run Tryz.prog W= .ok () W1):(Instr.storeAt 63 (.pointer (some A)) (.agg #[x,y])).run Tryz.prog W= .ok () W1:=by
 obtain⟨i0,hi,hz0,hz1,hz2⟩:=lZ (show(Tryz.prog.info? 63).map (fun i=>(i.zero,i.size,i.bytes))=some (some rU,2,24) by kernel_rfl);have hs:∀W,(Go.sizeOf 63).run Tryz.prog W= .ok 2 W:=fun W=>by simp [Go.sizeOf,typeInfo,hi,hz1]
 have ha:(Instr.sureAddr (.pointer (some A))).run Tryz.prog W= .ok A W:=rfl;unfold Instr.storeAt;simp [storeVar,ha,hs,Value.cells,h]
def mI {rest:List Oper} {Q:Exit→Act→Wo→Prop} (a0:o.guard=none) (t:TypeId) (x y:Operand)
  (ho:o.op= .store t x y) {v u:Value} (hx:a.eval x=v) (hy:a.eval y=u) {w':Wo}
  (hr:(Instr.storeAt t v u).run P w= .ok () w') (h:wpList P ops Q rest (a.put o.dst undef) w'):wpList P ops Q (o::rest) a w:=
 fZ a0 fun _ hK=>by
  unfold Oper.wp;rw [RE t x y ho hx hy hr];exact hK _ _ h
def XT (v u:Value) (h0:ops[s]?=some o) (hg:o.guard=none) (t:TypeId) (x y:Operand) (ho:o.op= .store t x y)
  (hx:a.eval x=v) (hy:a.eval y=u) (hr:(Instr.storeAt t v u).run P w= .ok () w') (hC:C2 w') (hK:Heavy.runS P ops s C C2 Q r (a.put o.dst undef) w'):Heavy.runS P ops s C C2 Q (.sw::r) a w:=
 Heavy.sw_step h0 hg (by rw [RE t x y ho hx hy hr];exact⟨hC,hK⟩)
def norm_s {a':Act} (h:a=a') (hK:Heavy.runS P ops s C C2 Q r a' w):Heavy.runS P ops s C C2 Q r a w:=by subst h;exact hK
def flat_set (h:i<L.length):(L.set i J).flatMap aT=(L.flatMap aT).take (i*2)++aT J++(L.flatMap aT).drop (i*2+2):=by
 induction L generalizing i with
 |nil=>simp at h
 | cons a r ih=>
  cases i with
  |zero=>simp [aT]
  |succ j=>
   have:=ih (i:=j) (by simpa using h);simp only [VV,oQ,this];rw [show(j+1)*2=j*2+2 by omega];simp [aT]
def XQ {α:Type} (C X:List α) (o N:Nat) (h:o+X.length≤N) (hC:N≤C.length):(C.take o++X++C.drop (o+X.length)).take N=(C.take N).take o++X++(C.take N).drop (o+X.length):=by
 have hl:(C.take o++X).length=o+X.length:=by simp;omega
 rw [VU,eS (by rw [hl];exact h),hl,List.drop_take,JS,rN (by omega)]
def aD.store (h:aD base w (.slice (some ⟨g,0,none⟩) n cap) L) (hn:L.length=n) (hi:i<n):
  ∃w1,(storeCells ⟨g,i*2,none⟩ [.string J.1,.int .i64 J.2] 0).run Tryz.prog w= .ok () w1∧aD base w1 (.slice (some ⟨g,0,none⟩) n cap) (L.set i J)∧w.grownBy w1 (some g)∧w1.heap.size=w.heap.size:=by
 unfold aD at h;rw [hn] at h;obtain⟨a1,⟨e,_⟩|⟨g',cap',cur,e,hb,hg,hnc,hm,hs,ht⟩⟩:=h
 ·cases e
 cases e;have a4:cur.toList.length=cap*2:=by rw [cZ];exact hs
 have a3:=DO (P:=Tryz.prog) g (i*2) 63 [.string J.1,.int .i64 J.2] 0 cur w hg (by simp;omega) (by simp [Value.oneCell']);refine⟨_,a3,?_,⟨rfl,rfl,rfl,by simp [World.setRow],fun k hk a2=>yO _ _ _ _ fun e=>a2 (by rw [e])⟩,by simp [World.setRow]⟩;unfold aD;rw [tU,hn];refine⟨by rw [flat_len,tU,hn],.inr ⟨g,cap,_,rfl,hb,vJ _ _ _ _ _ _ hg,hnc,hm,?_,?_⟩⟩
 ·simp;omega
 ·rw [flat_set (by omega),←ht];have:=XQ cur.toList [Value.string J.1,Value.int .i64 J.2] (i*2) (n*2) (by simp;omega) (by omega);simpa [aT] using this
def aD.cells (h:aD base w (.slice (some ⟨g,0,none⟩) n cap) L) {i:Nat} {J:Ind} (hi:L[i]?=some J):w.cell? ⟨g,i*2,none⟩=some (.string J.1)∧w.cell? ⟨g,i*2+1,none⟩=some (.int .i64 J.2):=by
 obtain⟨a,c,e,hr⟩:=aD.read h;injection e with e1 e2 e3
 obtain⟨g',off,e4,_,h1,h2⟩:=hr i J hi;have hO:=h;obtain⟨a',c',e5,hr2⟩:=gL h;injection e5 with e6 _ _
 rcases hr2 with h0|⟨g2,e7,_,_,hc⟩
 ·have:=(aO.1 hi).1;omega
 ·rw [e7] at e6;injection e6 with e6;injection e6 with e8 _ _
  subst e8;obtain⟨q1,q2⟩:=flat_get hi;exact⟨hc _ _ q1,hc _ _ q2⟩
def XS {α:Type} {L:List α} {x y:α} (h1:L[i]?=some x) (h2:L[i+1]?=some y):((L.set (i+1) x).set i y).Perm L:=by
 induction L generalizing i with
 |nil=>simp at h1
 | cons a r ih=>
  cases i with
  | zero=>
   cases r with
   |nil=>simp at h2
   |cons b q=>
    simp at h1 h2;subst h1;subst h2;simp;exact List.Perm.swap _ _ _
  |succ j=>
   simp only [VV];exact(ih (by simpa using h1) (by simpa using h2)).cons a
section
attribute [local go_sem] Heavy.uponW
def aD.some (h:aD base w v L) (hL:L≠ []):∃g c,v= .slice (some ⟨g,0,none⟩) L.length c∧base≤g∧g<w.heap.size:=by
 obtain⟨d8,⟨e,h0⟩|⟨g,cap,cur,e,hb,hg,_⟩⟩:=h
 ·exact absurd (nL h0) hL
 ·exact⟨g,cap,e,hb,(aM.1 hg).1⟩
def aD.below (h:aD base w v L) (hb:Below m w w') (hm:w.heap.size≤m):aD base w' v L:=eT h hb hm
def aD.nil (base:Nat) (w:Wo):aD base w (.slice none 0 0) []:=nD _ _ _ _
def SortP (base:Nat) (w:Wo) (L:List Ind) (k:Ind) (e:Ending) (w':Wo):Prop:=
 ∃v' L',e= .returned v'∧aD base w' v' L'∧(L.Nodup→L'.Nodup)∧(∀x,x∈L'↔x∈L∨x=k)∧L'.length≤L.length+1∧Bz w w'
def XZ (L:List Ind) (x:ByteArray) (m:Int) (base:Nat) (w:Wo) (sv:Value) (hO:aD base w sv L) (e7:base≤w.heap.size) (c1:L.length≤1000000000):
  Cz 147 #[sv,.agg #[.string x,.int .i64 m]] w (SortP base w L (x,m)):=by
 obtain⟨a,c,rfl,hV⟩:=hO.read;have b9:=aside hO;obtain⟨len,hl⟩:=enm L.length;rw [hl] at c1 b9 ⊢;have Al:=aside hl;obtain⟨wb,hwb,b0,hq,hsz⟩:=ebx w (Obj.cells #[.string x,.int .i64 m] 63);have fa:Aside (∀w2,Bz wb w2→_):=fun(w2:Wo) (hb:Bz wb w2)=>eW ((hb.block w.heap.size (by omega)).trans hq)
 have b1:Aside (∀w2,Bz wb w2→Bz w w2):=fun w2 hb=>b0.trans (hb.mono b0.size)
 have a8:Aside (base≤wb.heap.size):=by show _≤_;omega
 have x0:=(fa.o wb (aG _ _)).1;have x1:=(fa.o wb (aG _ _)).2;have d1:=HF L x m w.heap.size wb a len c hl (by omega) (hV.below b0 (aA _)) b0.size;obtain⟨F,hF⟩:=enm (iW (x,m) L);rw [hF] at d1;have FA:=aside hF;clear hq hsz hl hF hV hO b0;go_enter Tryz.func147,Tryz.ntmps147
 go_upto_region 1 with fail
 clear hwb
 go_wp2_with (go_at_call 146;with_reducible refine d1.mono ?_)
 rintro e w2 ⟨rfl,hb2⟩;have e2:Bz wb w2:=hb2;clear d1 hb2 x0 x1;cases F
 case true=>
  have hP:Aside (SortP base w L (x,m) (.returned (.slice a len c)) w2):=⟨_,L,rfl,b9.o.below (b1.o w2 e2) (aA _),id,fun y=>by
   constructor
   ·exact .inl
   ·rintro(h|rfl)
    ·exact h
    ·exact nV.1 FA.o,by omega,b1.o w2 e2⟩
  go_wp2
  go_ret
  exact hP.o
 have d9:Aside ((x,m)∉L):=uK.1 FA.o;have x0:=(fa.o w2 e2).1;have x1:=(fa.o w2 e2).2
 go_upto_region 3 with fail
 have fd:Bz wb w2.drew:=e2.trans (cU _ _);have a5:Aside (∀w3,Bz wb w3→SrcAt w3 (.slice a len c) len (L.flatMap aT)):=fun w3 hb=>rZ (show w3.ownsRow base 63 2 (.slice a len c) len (L.flatMap aT) by have:=b9.o.below (b1.o w3 hb) (aA _);unfold aD at this;rw [Al.o] at this;exact this)
 have b4:len+1≤maxLen∧(len+1)*24≤140737488355328:=by unfold maxLen;omega
 have a2:0+len≤maxLen∧(0+len)*24≤140737488355328:=by unfold maxLen;omega
 have c9:(L.flatMap aT).length=len*2:=by rw [flat_len,Al.o]
 have c8:=CL L;have a4:∀u∈([.string x,.int .i64 m]:Lv),u.oneCell'=true:=by simp [Value.oneCell']
 refine hRp (Bz wb) 5 (Heavy.lights [0,2] (.two 1 3 (.one 3 (.one 4 .done)) (.one 1 (.one 4 .done)))) (by kernel_rfl) (by kernel_rfl) fd ?_;simp only [Heavy.lights,aX,bI,aW,bD]
 (apply hLm;(exact rfl);(exact rfl);(intro a0 hw;go_simp;exact rfl);(go_simp;exact rfl))
 (apply hLm;(exact rfl);(exact rfl);(intro a0 hw;have z0:=(fa.o a0 hw).1;have z1:=(fa.o a0 hw).2;go_simp;exact rfl);(go_simp;exact rfl))
 apply Heavy.two_of
 case' h1=>
  refine Heavy.one_app kZ rfl rfl _ _ rfl wb.heap.size (.slice none 0 0) 0 [] rfl (nD _ _ _ _) (.slice a len c) len _ rfl (a5.o _ fd) c9 c8 a2.1 a2.2 fd.size ?_;intro v5 w5 h5 a9 _;have g5:Bz wb w5:=fd.trans ⟨a9.os,a9.tape,a9.output,a9.size,fun k hk=>a9.block k (bG hk fd.size) (by simp [Value.ownBlock])⟩;refine⟨g5,?_⟩
  (refine hNa (by go_simp;exact rfl) ?_)
  (apply hOn;(exact rfl);(exact rfl));go_simp
  have g6:Bz wb (w5.alloc (.cells #[.string x,.int .i64 m] 63)):=g5.alloc g5.size _;have d6:=aC w5 ((.cells #[.string x,.int .i64 m] 63):Obj);have e3:=aK w5 ((.cells #[.string x,.int .i64 m] 63):Obj);refine⟨g6,?_⟩
  (refine hNa (by go_simp;exact rfl) ?_)
  have h6:(w5.alloc (.cells #[.string x,.int .i64 m] 63)).ownsRow wb.heap.size 63 2 v5 len (L.flatMap aT):=by
   have:=eT h5 d6 (aA _);simpa using this
  have c3:SrcAt (w5.alloc (.cells #[.string x,.int .i64 m] 63)) (.slice (some ⟨w5.heap.size,0,none⟩) 1 1) 1 [.string x,.int .i64 m]:=.inr ⟨_,_,rfl,fun j u hj=>by
   rw [jX,bT];simp only [World.cell?,e3];simpa using hj⟩
  refine Heavy.one_app kZ rfl rfl _ _ rfl wb.heap.size v5 len _ rfl h6 (.slice (some ⟨w5.heap.size,0,none⟩) 1 1) 1 _ rfl c3 rfl a4 b4.1 b4.2 g6.size ?_;intro v7 w7 h7 b5 _;have g7:Bz wb w7:=g6.grown b5 g6.size fun k hk=>(h6.lt k hk).1
 case' h2=>
  (apply hOn;(exact rfl);(exact rfl));go_simp
  have g5:Bz wb (w2.alloc (.cells #[.string x,.int .i64 m] 63)).drew:=(e2.alloc e2.size _).trans (cU _ _);have e1:(w2.alloc (.cells #[.string x,.int .i64 m] 63)).drew.heap[w2.heap.size]?=some (.cells #[.string x,.int .i64 m] 63):=aK w2 ((.cells #[.string x,.int .i64 m] 63):Obj);have e4:(w2.alloc (.cells #[.string x,.int .i64 m] 63)).drew.heap.size=w2.heap.size+1:=by show(w2.alloc (.cells #[.string x,.int .i64 m] 63)).heap.size=_;rw [cW]
  refine⟨g5,?_⟩
  (refine hNa (by go_simp;exact rfl) ?_)
  refine Heavy.one_app kZ rfl rfl _ _ rfl wb.heap.size (.slice none 0 0) 0 [] rfl (nD _ _ _ _) (.slice a len c) len _ rfl (a5.o _ g5) c9 c8 a2.1 a2.2 g5.size ?_;intro v6 w6 d4 a7 _;have g6:Bz wb w6:=g5.trans ⟨a7.os,a7.tape,a7.output,a7.size,fun k hk=>a7.block k (bG hk g5.size) (by simp [Value.ownBlock])⟩;refine⟨g6,?_⟩
  (refine hNa (by go_simp;exact rfl) ?_)
  have h6:w6.ownsRow wb.heap.size 63 2 v6 len (L.flatMap aT):=by simpa using d4
  have c3:SrcAt w6 (.slice (some ⟨w2.heap.size,0,none⟩) 1 1) 1 [.string x,.int .i64 m]:=.inr ⟨_,_,rfl,fun j u hj=>by
   rw [jX,bT];simp only [World.cell?,(a7.block w2.heap.size (by rw [e4];omega) (by simp [Value.ownBlock])).trans e1];simpa using hj⟩
  refine Heavy.one_app kZ rfl rfl _ _ rfl wb.heap.size v6 len _ rfl h6 (.slice (some ⟨w2.heap.size,0,none⟩) 1 1) 1 _ rfl c3 rfl a4 b4.1 b4.2 g6.size ?_;intro v7 w7 h7 b5 _;have g7:Bz wb w7:=g6.grown b5 g6.size fun k hk=>(h6.lt k hk).1
 all_goals
  have b8:aD wb.heap.size w7 v7 (L++ [(x,m)]):=by
   unfold aD;rw [aI,pZ,Al.o];simpa [aT] using h7
  have el:(L++ [(x,m)]).length=len+1:=by rw [aI,Al.o];rfl
  obtain⟨g,c7,hv7,hgb,_⟩:=b8.some (by simp);rw [el] at hv7;subst hv7;refine⟨g7,?_⟩
  (refine hNa (by go_simp;exact rfl) ?_)
  apply hPe;show wpList _ _ _ _ _ _;have d5:=aside b8;have c5:=aside el;have d7:=aside hgb;clear el b8 h7 h6 b5 hgb;have a3:Aside (∀(w8:Wo) (P:List Ind),aD wb.heap.size w8 (.slice (some ⟨g,0,none⟩) (len+1) c7) P→P.Perm (L++ [(x,m)])→Bz wb w8→SortP base w L (x,m) (.returned (.slice (some ⟨g,0,none⟩) (len+1) c7)) w8):=by
   show∀w8 P,_;intro w8 P q1 q2 q3;refine⟨_,P,rfl,gM q1 a8.o,fun hn=>?_,fun y=>?_,(by rw [q2.length_eq,c5.o,Al.o];exact aA _),b1.o _ q3⟩
   ·rw [q2.nodup_iff,vR];exact⟨hn,by simp,fun a ha b hb e=>by simp at hb;subst hb;subst e;exact d9.o ha⟩
   ·rw [q2.mem_iff];simp
  have f5:IntKind.i64.wrap ((len:Int)+1-1)=(len:Int):=by rw [cO];omega
  go_wp2
  go_loopw [6] (fun s6 wr=>∃i:Nat,s6= .int .i64 i∧i≤len∧∃P,aD wb.heap.size wr (.slice (some ⟨g,0,none⟩) (len+1) c7) P∧P.Perm (L++ [(x,m)])∧Bz wb wr) (fun s _=>(intOf s).toNat)
  case atStart=>exact⟨len,by simp,aA _,_,d5.o,List.Perm.refl _,g7⟩
  case round=>
   obtain⟨wo,rfl⟩:=enr wr;obtain⟨i,rfl,hi,P,hP,hperm,hB⟩:=hrel;have b3:=hperm.length_eq;rw [c5.o] at b3;rcases tP i with rfl|e0
   ·have hR:=a3.o wo.drew P (hP.below (cU wo.heap.size wo) (aA _)) hperm (hB.trans (cU _ _));have c0:Aside _:=hR;clear hP hperm b3 hR
    go_upto_region 5 with fail
    have a6:Bz wo wo.drew:=cU _ _;refine hRp (Bz wo) 13 (Heavy.lights [0,1,2,3,4,5,6,7,8,9,10,11] (.one 12 .done)) (by kernel_rfl) (by kernel_rfl) a6 ?_;simp only [Heavy.lights,aX,bI,aW,bD]
    iterate 3 ((apply hLm;(exact rfl);(exact rfl);(intro a0 hw;go_simp;exact rfl);(go_simp;exact rfl)))
    iterate 9 ((apply hLk;(exact rfl);(go_simp));(refine hNa (by go_simp;exact rfl) ?_))
    (refine Heavy.one_skip rfl (by go_simp) a6 ?_);(refine hNa (by go_simp;exact rfl) ?_)
    apply hPe;show wpList _ _ _ _ _ _;go_wp2
    go_ret
    exact c0.o
   ·obtain⟨j,rfl⟩:∃j,i=j+1:=⟨i-1,by omega⟩;obtain⟨⟨y1,m1⟩,hI1⟩:∃I,P[j+1]?=some I:=⟨P[j+1]'(by omega),aZ _⟩;obtain⟨⟨y0,m0⟩,hI0⟩:∃I,P[j]?=some I:=⟨P[j]'(by omega),aZ _⟩;have b7:Aside (∀w2,Bz wo w2→w2.cell? ⟨g,(j+1)*2,none⟩=some (.string y1)∧w2.cell? ⟨g,(j+1)*2+1,none⟩=some (.int .i64 m1)):=fun w2 hb=>(hP.below hb (aA _)).cells hI1
    have b6:Aside (∀w2,Bz wo w2→w2.cell? ⟨g,j*2,none⟩=some (.string y0)∧w2.cell? ⟨g,j*2+1,none⟩=some (.int .i64 m0)):=fun w2 hb=>(hP.below hb (aA _)).cells hI0
    have a1:=aside5 hP hperm b3 hI1 hI0;have c4:Aside (∀w2,_):=fun w2=>Ji y1 y0 m1 m0 w2
    have e8:((j:Int)+1)<(len:Int)+1:=by omega
    have e9:(0:Int)≤(j:Int)+1:=by omega
    have f0:(j:Int)<(len:Int)+1:=by omega
    have f1:(0:Int)<(j:Int)+1:=by omega
    have f2:((j:Int)+1).toNat=j+1:=by omega
    have f4:IntKind.i64.wrap (j:Int)=(j:Int):=by rw [cO];omega
    have f3:(0:Int)≤(j:Int):=by omega
    clear hP hperm b3 hI1 hI0
    go_upto_region 5 with fail
    have a6:Bz wo wo.drew:=cU _ _;refine hRp (Bz wo) 13 (Heavy.lights [0,1,2,3,4,5,6,7,8,9,10,11] (.one 12 .done)) (by kernel_rfl) (by kernel_rfl) a6 ?_;simp only [Heavy.lights,aX,bI,aW,bD]
    iterate 3 ((apply hLm;(exact rfl);(exact rfl);(intro a0 hw;go_simp;exact rfl);(go_simp;exact rfl)))
    iterate 3 ((apply hLs;(exact rfl);(go_simp);(intro a0 hw;go_simp;exact rfl));(refine hNa (by go_simp;exact rfl) ?_))
    (apply hLs;(exact rfl);(go_simp);(intro a0 hw;have z0:=(b7.o a0 hw).1;have z1:=(b7.o a0 hw).2;go_simp;exact rfl));(refine hNa (by go_simp;exact rfl) ?_)
    iterate 4 ((apply hLs;(exact rfl);(go_simp);(intro a0 hw;go_simp;exact rfl));(refine hNa (by go_simp;exact rfl) ?_))
    (apply hLs;(exact rfl);(go_simp);(intro a0 hw;have z0:=(b6.o a0 hw).1;have z1:=(b6.o a0 hw).2;go_simp;exact rfl));(refine hNa (by go_simp;exact rfl) ?_)
    (apply Heavy.one_step;(exact rfl);(go_simp));go_simp
    refine(c4.o _).mono ?_;rintro e w8 ⟨⟨bb,rfl⟩,hb8⟩;have f8:Bz wo w8:=a6.trans (hb8.mono a6.size);refine⟨_,rfl,f8,?_⟩
    (refine hNa (by go_simp;exact rfl) ?_)
    apply hPe;show wpList _ _ _ _ _ _;cases bb
    ·have hR:=a3.o w8 P (a1.o.1.below f8 (aA _)) a1.o.2.1 (hB.trans (f8.mono hB.size));have c0:Aside _:=hR;clear hR a3;go_wp2
     go_ret
     exact c0.o
    ·have f9:Bz wo w8.drew:=f8.trans (cU _ _);have b2:=a1.o.1.below f9 (aA _);obtain⟨z2,z3⟩:=b2.cells a1.o.2.2.2.1;obtain⟨z0,z1⟩:=b2.cells a1.o.2.2.2.2;obtain⟨w9,hst1,hP9,hg9,hz9⟩:=b2.store (i:=j+1) (J:=(y0,m0)) a1.o.2.2.1 (by omega);obtain⟨e6,hst2,hP10,hg10,hz10⟩:=hP9.store (i:=j) (J:=(y1,m1)) (by rw [tU];exact a1.o.2.2.1) (by omega);have d0:((P.set (j+1) (y0,m0)).set j (y1,m1)).Perm (L++ [(x,m)]):=(XS a1.o.2.2.2.2 a1.o.2.2.2.1).trans a1.o.2.1;have c2:=d7.o;have c6:Bz wb e6:=((hB.trans (f9.mono hB.size)).grown hg9 (by have:=f9.size;have:=hB.size;omega) (fun k hk=>by cases hk;exact c2)).grown hg10 (by have:=f9.size;have:=hB.size;omega) (fun k hk=>by cases hk;exact c2);have hE:=aside3 hP10 d0 c6;have d2:=EV hst1;have d3:=EV hst2;clear b2 hst1 hP9 hg9 hz9 hst2 hP10 hg10 hz10 d0 c2 c6 a3 c4 b6 b7
     go_upto_region 7 with fail
     refine Heavy.region_switch (fun w'=>w'=w8.drew) (fun _=>True) 17 15 [.both 0,.both 1,.both 2,.both 3,.both 4,.both 5,.both 6,.both 7,.both 8,.pre 9,.both 10,.both 11,.both 12,.pre 13,.both 14,.sw,.both 16] (by kernel_rfl) (by kernel_rfl) rfl ?_;simp only [aX,bI,aW,bD,gQ]
     iterate 15 ((first|(apply Heavy.pre_step;(exact rfl);(exact rfl);(intro a0 hw;subst hw;go_simp;exact rfl))|(apply Heavy.both_step;(exact rfl);(exact rfl);(intro a0;go_simp;exact rfl)));(refine norm_s (by go_simp;exact rfl) ?_))
     refine XT (.pointer (some ⟨g,(j+1)*2,none⟩)) (.agg #[.string y0,.int .i64 m0]) rfl rfl 63 _ _ rfl rfl rfl d2 trivial ?_;apply Heavy.both_step
     ·exact rfl
     ·exact rfl
     ·intro a0
      go_simp
      exact rfl
     apply Heavy.switch_end;show wpList _ _ _ _ _ _;refine mI rfl 63 _ _ rfl (v:=.pointer (some ⟨g,j*2,none⟩)) (u:=.agg #[.string y1,.int .i64 m1]) rfl rfl d3 ?_;clear d2 d3 z0 z1 z2 z3;go_wp2;go_roundw
     case rel=>exact⟨j,by simp,by omega,_,hE.o⟩
     case measure=>simp [intOf]
end
