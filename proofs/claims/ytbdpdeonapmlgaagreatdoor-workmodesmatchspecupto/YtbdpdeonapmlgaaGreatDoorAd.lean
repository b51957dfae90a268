/- Lemmas; no condition. -/
import Derived.Test.YtbdpdeonapmlgaaGreatDoorAc
import Derived.Shelf.Small.Bits
set_option linter.all false
set_option maxHeartbeats 4000000
set_option maxRecDepth 100000
namespace Go.Heavy
def one_skip {P:Program} {ops:Array Oper} {C:Wo→Prop} {i:Nat} {p:Plan} {Q:Act→Wo→Prop} {o:Oper} {a:Act} {w:Wo} (h0:ops[i]?=some o) (hg:Region.wanted o (yielded ops a.tmps)=false) (hC:C w) (hK:eE P ops C Q p (a.put o.dst undef) w):eE P ops C Q (.one i p) a w:=
 ⟨o,h0,.inr ⟨hg,hC,hK⟩⟩
end Go.Heavy
namespace Go.Proofs.YtbdpdeonapmlgaaGreatDoor
open Go.RowKit Go.Big
def FE (k v:Int) (nm:ByteArray) (g:Bool) (s1 s2 s3:Value) (w:Wo):
  Cz 117 #[.agg #[.int .i64 k,.int .i64 v,.string nm,.bool g,s1,s2,s3]] w fun e w'=>e= .returned (.bool (k==3||k==5))∧Bz w w':=by
 have hB:=aC w (Obj.cells #[.int .i64 k,.int .i64 v,.string nm,.bool g,s1,s2,s3] 48)
 by_cases hk:k=3
 ·subst hk;go_enter Tryz.func117,Tryz.ntmps117;go_wp2
  all_goals(go_ret;exact⟨by simp_all,hB⟩)
 ·have a7:(k==3)=false:=by simpa using hk
  go_enter Tryz.func117,Tryz.ntmps117;go_wp2
  all_goals(go_ret;exact⟨by simp_all,hB⟩)
def nW (k v:Int) (nm:ByteArray) (g:Bool) (s1 s2:Value) (a:Option Addr) (len c:Nat) (w:Wo):
  Cz 39 #[.agg #[.int .i64 k,.int .i64 v,.string nm,.bool g,s1,s2,.slice a len c]] w fun e w'=>e= .returned (.agg #[.string nm,.int .i64 len])∧Bz w w':=by
 have hB:=aC w (Obj.cells #[.int .i64 k,.int .i64 v,.string nm,.bool g,s1,s2,.slice a len c] 48);go_enter Tryz.func39,Tryz.ntmps39;go_wp2;refine tK (v:=.agg #[.string nm,.int .i64 len]) (by simp [results,Tryz.results39,go_sem]) rfl ⟨rfl,?_⟩;exact hB.alloc hB.size _
def StrsV (n:Nat) (w:Wo) (L:List ByteArray) (a:Option Addr):Prop:=
 ∀(k:Nat) s,L[k]?=some s→∃g off,a=some ⟨g,off,none⟩∧g<n∧w.cell? ⟨g,off+k,none⟩=some (.string s)
def fK (nm:ByteArray) (L:List ByteArray):Bool:=L.any fun s=>s.toList==nm.toList
def Be {nm s:ByteArray} {L:List ByteArray} {i:Nat} (h:L[i]?=some s):fK nm (L.take (i+1))=(fK nm (L.take i)||s.toList==nm.toList):=by
 unfold fK;rw [gK,h];simp
def FZ (nm:ByteArray) (L:List ByteArray) (n:Nat) (w:Wo) (a:Option Addr) (len c:Nat) (hl:L.length=len) (a3:len≤1048576) (h:StrsV n w L a):
  Cz 83 #[.string nm,.slice a len c] w fun e w'=>e= .returned (.bool (fK nm L))∧w=w':=by
 have Al:=aside hl;have hA:=aside h;obtain⟨F,hF⟩:=enm (fK nm L);rw [hF];have FA:=aside hF;clear hl h hF;go_enter Tryz.func83,Tryz.ntmps83;go_wp2
 go_loop [5] (fun s=>∃i:Nat,s= .int .i64 i∧i≤len∧Aside (fK nm (L.take i)=false)) (fun s=>len-(intOf s).toNat)
 case atStart=>exact⟨0,rfl,aJ _,by show _=_;simp [fK]⟩
 case round=>
  obtain⟨i,rfl,hi,hx⟩:=hrel
  by_cases a4:i<len
  ·obtain⟨s,hs⟩:=egf Al.o a4;obtain⟨g,off,rfl,hg,hc⟩:=hA.o i s hs;have a5:Aside (∀b,(s.toList==nm.toList)=b→fK nm (L.take (i+1))=b):=by
    show∀b,_;intro b hb;rw [Be hs,hx.o,hb];rfl
   have a0:Aside ((s.toList==nm.toList)=true→F=true):=by
    show _→_;intro hb;rw [←FA.o];unfold fK;rw [rT];exact⟨s,aP hs,hb⟩
   obtain⟨a6,hi3,hw3⟩:=elt (i:=i) (n:=len) (by omega) (by omega);obtain⟨b,hb⟩:=enm (s.toList==nm.toList);have Hb:=aside hb;cases b
   ·go_wp2
    go_round
    case rel=>exact⟨i+1,by simp,by omega,a5.o _ Hb.o⟩
    case measure=>simp [intOf];omega
   ·have a2:=a0.o hb;subst a2;go_wp2
    go_ret
    exact⟨rfl,rfl⟩
  ·obtain rfl:i=len:=by omega
   have a1:F=false:=by
    rw [←FA.o,←hx.o,←Al.o,iP]
   subst a1;go_wp2
   go_ret
   exact⟨rfl,rfl⟩
def lO:List ByteArray:=[⟨#[92,61]⟩,⟨#[61,61]⟩,⟨#[92,61,61]⟩,⟨#[64,60]⟩,⟨#[64,61,60]⟩,⟨#[64,62]⟩,⟨#[64,62,61]⟩]
def lJ:List ByteArray:=[⟨#[61,58,61]⟩,⟨#[61,92,61]⟩,⟨#[60]⟩,⟨#[61,60]⟩,⟨#[62]⟩,⟨#[62,61]⟩]
def sS:List ByteArray:=[⟨#[61]⟩,⟨#[105,115]⟩,⟨#[44]⟩,⟨#[59]⟩,⟨#[45,62]⟩,⟨#[42,45,62]⟩]
def EP (w:Wo) (L:List ByteArray):StrsV (w.heap.size+1) (w.alloc (.cells (L.map Value.string).toArray 9)) L (some ⟨w.heap.size,0,none⟩):=fun k s hk=>by
 refine⟨_,_,rfl,by omega,?_⟩;have hq:=aK w (Obj.cells (L.map Value.string).toArray 9);simp only [World.cell?,hq,bT];simp [hk]
def StrsV.mono {n m:Nat} {w:Wo} {L:List ByteArray} {a:Option Addr} (h:StrsV n w L a) (hm:n≤m):StrsV m w L a:=fun k s hk=>by
 obtain⟨g,off,e,hg,hc⟩:=h k s hk;exact⟨g,off,e,by omega,hc⟩
def NR (w:Wo):Cz 84 #[] w fun e w'=>∃a,e= .returned (.slice a 7 7)∧StrsV w'.heap.size w' lO a∧Bz w w':=by
 have h1:=EP w lO;have hB:=aC w (.cells (lO.map Value.string).toArray 9);go_enter Tryz.func84,Tryz.ntmps84;go_wp2
 go_ret
 exact⟨_,rfl,h1.mono (by simp),hB⟩
def KQ (w:Wo):Cz 85 #[] w fun e w'=>∃a,e= .returned (.slice a 6 6)∧StrsV w'.heap.size w' lJ a∧Bz w w':=by
 have h1:=EP w lJ;have hB:=aC w (.cells (lJ.map Value.string).toArray 9);go_enter Tryz.func85,Tryz.ntmps85;go_wp2
 go_ret
 exact⟨_,rfl,h1.mono (by simp),hB⟩
section
attribute [local go_sem] Heavy.uponW
def bkN_ne {l:List UInt8}:bkN l≠0↔(l= [61]∨(l= [92,61]∨l= [61,61]∨l= [92,61,61]∨l= [64,60]∨l= [64,61,60]∨l= [64,62]∨l= [64,62,61])∨l= [105,115]∨(l= [61,58,61]∨l= [61,92,61]∨l= [60]∨l= [61,60]∨l= [62]∨l= [62,61])):=by
 unfold bkN;split
 ·simp [*]
 ·split
  ·simp [*]
  ·split
   ·simp [*]
   ·split<;>simp [*]
def NT {nm:ByteArray}:fK nm lO=true↔(nm.toList= [92,61]∨nm.toList= [61,61]∨nm.toList= [92,61,61]∨nm.toList= [64,60]∨nm.toList= [64,61,60]∨nm.toList= [64,62]∨nm.toList= [64,62,61]):=by
 unfold fK lO;simp only [KE,WL,KG,gT,rI,mD];generalize nm.data.toList=l;constructor
 ·rintro(rfl|rfl|rfl|rfl|rfl|rfl|rfl)<;>simp
 ·rintro(rfl|rfl|rfl|rfl|rfl|rfl|rfl)<;>simp
def KZ {nm:ByteArray}:fK nm lJ=true↔(nm.toList= [61,58,61]∨nm.toList= [61,92,61]∨nm.toList= [60]∨nm.toList= [61,60]∨nm.toList= [62]∨nm.toList= [62,61]):=by
 unfold fK lJ;simp only [KE,WL,KG,gT,rI,mD];generalize nm.data.toList=l;constructor
 ·rintro(rfl|rfl|rfl|rfl|rfl|rfl)<;>simp
 ·rintro(rfl|rfl|rfl|rfl|rfl|rfl)<;>simp
def Gg {nm:ByteArray}:fK nm sS=true↔(nm.toList= [61]∨nm.toList= [105,115]∨nm.toList= [44]∨nm.toList= [59]∨nm.toList= [45,62]∨nm.toList= [42,45,62]):=by
 unfold fK sS;simp only [KE,WL,KG,gT,rI,mD];generalize nm.data.toList=l;constructor
 ·rintro(rfl|rfl|rfl|rfl|rfl|rfl)<;>simp
 ·rintro(rfl|rfl|rfl|rfl|rfl|rfl)<;>simp
def Ae (nm:ByteArray):(fK nm lO||(fK nm lJ||fK nm sS))=biB nm.toList 2:=by
 rw [iS];simp only [gT,NT,KZ,Gg,biB,show¬(2:Int)=0 by decide,show¬(2:Int)=1 by decide,fN,if_true,rI,bne_iff_ne,bkN_ne];generalize nm.toList=l
 grind
end
section
attribute [local go_sem] Heavy.uponW
def eW {w:Wo} {g:Nat} {v0 v1:Value} {e:TypeId} {fr:Nat × Nat} (h:w.heap[g]?=some (.cells #[v0,v1] e fr)):w.cell? ⟨g,0,none⟩=some v0∧w.cell? ⟨g,1,none⟩=some v1:=by
 simp [World.cell?,h]
def cU (n:Nat) (w:Wo):Below n w w.drew:=⟨rfl,rfl,rfl,aA _,fun _ _=>rfl⟩
def AB (nm:ByteArray) (a:Int) (w:Wo):Cz 29 #[.agg #[.string nm,.int .i64 a]] w fun e w'=>e= .returned (.bool (biB nm.toList a))∧Bz w w':=by
 have hB:=aC w (Obj.cells #[.string nm,.int .i64 a] 63)
 by_cases ha:a=2
 ·subst ha;rw [←Ae];have hq:=aK w (Obj.cells #[.string nm,.int .i64 2] 63);have a8:(w.alloc (Obj.cells #[.string nm,.int .i64 2] 63)).heap.size=w.heap.size+1:=by simp
  obtain⟨wb,hwb⟩:=enm (w.alloc (Obj.cells #[.string nm,.int .i64 2] 63));rw [hwb] at hB hq a8;have fa:Aside (∀w2,Bz wb w2→_):=fun(w2:Wo) (hb:Bz wb w2)=>eW ((hb.block w.heap.size (by omega)).trans hq)
  have x0:=(fa.o wb (aG _ _)).1;have x1:=(fa.o wb (aG _ _)).2;have a9:Aside (∀w2,_):=fun w2=>NR w2
  have b0:Aside (∀w2,_):=fun w2=>KQ w2
  have a4:Aside (∀(L:List ByteArray) (w2:Wo) (p:Option Addr) (len c:Nat),L.length=len→len≤1048576→StrsV w2.heap.size w2 L p→_):=fun L w2 p len c h1 h2 h3=>FZ nm L w2.heap.size w2 p len c h1 h2 h3
  obtain⟨o1,ho1⟩:∃o,fK nm lO=o:=⟨_,rfl⟩;obtain⟨o2,ho2⟩:∃o,fK nm lJ=o:=⟨_,rfl⟩;obtain⟨o3,ho3⟩:∃o,fK nm sS=o:=⟨_,rfl⟩;rw [ho1,ho2,ho3];have a6:=aside3 ho1 ho2 ho3;clear hq a8 ho1 ho2 ho3;go_enter Tryz.func29,Tryz.ntmps29
  go_upto_region 2 with fail
  clear hwb;have a7:Bz wb wb.drew:=cU _ _;refine hRp (Bz wb) 15 (Heavy.lights [0,1] (.one 2 (.one 3 (Heavy.lights [4,5,6] (.one 7 (.one 8 (Heavy.lights [9,10,11,12] (.one 13 (.one 14 .done))))))))) (by kernel_rfl) (by kernel_rfl) a7 ?_;simp only [Heavy.lights,aX,bI,aW,bD]
  (apply hLm;(exact rfl);(exact rfl);(intro a2 hw;go_simp;exact rfl);(go_simp;exact rfl))
  (apply hLm;(exact rfl);(exact rfl);(intro a2 hw;have y0:=(fa.o a2 hw).1;go_simp;exact rfl);(go_simp;exact rfl))
  (apply hOn;(exact rfl);(exact rfl));go_simp
  refine(a9.o _).mono ?_;rintro e w3 ⟨pa,rfl,hS,hb3⟩;have a0:=a7.trans (hb3.mono (aA _));refine⟨_,rfl,a0,?_⟩
  (refine hNa (by go_simp;exact rfl) ?_)
  (apply hOn;(exact rfl);(exact rfl));go_simp
  refine(a4.o lO _ _ _ _ rfl (by decide) hS).mono ?_;rintro e w4 ⟨rfl,rfl⟩;rw [a6.o.1];refine⟨_,rfl,a0,?_⟩
  (refine hNa (by go_simp;exact rfl) ?_)
  clear hS hb3
  (apply hLm;(exact rfl);(exact rfl);(intro a2 hw;go_simp;exact rfl);(go_simp;exact rfl))
  cases o1
  ·(apply hLs;(exact rfl);(go_simp);(intro a2 hw;go_simp;exact rfl));(refine hNa (by go_simp;exact rfl) ?_)
   (apply hLs;(exact rfl);(go_simp);(intro a2 hw;have y0:=(fa.o a2 hw).1;go_simp;exact rfl));(refine hNa (by go_simp;exact rfl) ?_)
   (apply Heavy.one_step;(exact rfl);(go_simp));go_simp
   refine(b0.o _).mono ?_;rintro e w5 ⟨pb,rfl,hS,hb5⟩;have a1:=a0.trans (hb5.mono a0.size);refine⟨_,rfl,a1,?_⟩
   (refine hNa (by go_simp;exact rfl) ?_)
   (apply Heavy.one_step;(exact rfl);(go_simp));go_simp
   refine(a4.o lJ _ _ _ _ rfl (by decide) hS).mono ?_;rintro e w6 ⟨rfl,rfl⟩;rw [a6.o.2.1];refine⟨_,rfl,a1,?_⟩
   (refine hNa (by go_simp;exact rfl) ?_)
   clear hS hb5
   iterate 2 ((apply hLm;(exact rfl);(exact rfl);(intro a2 hw;go_simp;exact rfl);(go_simp;exact rfl)))
   cases o2
   ·(apply hLs;(exact rfl);(go_simp);(intro a2 hw;go_simp;exact rfl));(refine hNa (by go_simp;exact rfl) ?_)
    (apply hLs;(exact rfl);(go_simp);(intro a2 hw;have y0:=(fa.o a2 hw).1;go_simp;exact rfl));(refine hNa (by go_simp;exact rfl) ?_)
    have hS:=EP w5 sS;have a5:=a1.trans ((aC w5 (.cells (sS.map Value.string).toArray 9)).mono a1.size)
    (apply Heavy.one_step;(exact rfl);(go_simp));go_simp
    refine⟨a5,?_⟩
    (refine hNa (by go_simp;exact rfl) ?_)
    (apply Heavy.one_step;(exact rfl);(go_simp));go_simp
    refine(a4.o sS _ _ _ _ rfl (by decide) (hS.mono (by simp))).mono ?_;rintro e w6 ⟨rfl,rfl⟩;rw [a6.o.2.2];refine⟨_,rfl,a5,?_⟩
    (refine hNa (by go_simp;exact rfl) ?_)
    apply hPe;show wpList _ _ _ _ _ _;go_wp2
    go_ret
    exact⟨rfl,hB.trans (a5.mono hB.size)⟩
   ·(apply hLk;(exact rfl);(go_simp));(refine hNa (by go_simp;exact rfl) ?_)
    (apply hLk;(exact rfl);(go_simp));(refine hNa (by go_simp;exact rfl) ?_)
    (refine Heavy.one_skip rfl (by go_simp) a1 ?_);(refine hNa (by go_simp;exact rfl) ?_)
    (refine Heavy.one_skip rfl (by go_simp) a1 ?_);(refine hNa (by go_simp;exact rfl) ?_)
    apply hPe;show wpList _ _ _ _ _ _;go_wp2
    go_ret
    exact⟨rfl,hB.trans (a1.mono hB.size)⟩
  ·(apply hLk;(exact rfl);(go_simp));(refine hNa (by go_simp;exact rfl) ?_)
   (apply hLk;(exact rfl);(go_simp));(refine hNa (by go_simp;exact rfl) ?_)
   (refine Heavy.one_skip rfl (by go_simp) a0 ?_);(refine hNa (by go_simp;exact rfl) ?_)
   (refine Heavy.one_skip rfl (by go_simp) a0 ?_);(refine hNa (by go_simp;exact rfl) ?_)
   iterate 2 ((apply hLm;(exact rfl);(exact rfl);(intro a2 hw;go_simp;exact rfl);(go_simp;exact rfl)))
   iterate 2 ((apply hLk;(exact rfl);(go_simp));(refine hNa (by go_simp;exact rfl) ?_))
   (refine Heavy.one_skip rfl (by go_simp) a0 ?_);(refine hNa (by go_simp;exact rfl) ?_)
   (refine Heavy.one_skip rfl (by go_simp) a0 ?_);(refine hNa (by go_simp;exact rfl) ?_)
   apply hPe;show wpList _ _ _ _ _ _;go_wp2
   go_ret
   exact⟨rfl,hB.trans (a0.mono hB.size)⟩
 ·have b3:(a==2)=false:=by simpa using ha
  obtain⟨K,hK⟩:=enm (biB nm.toList a);rw [hK];have a3:=aside hK;clear hK
  by_cases h1:a=1
  ·subst h1;go_enter Tryz.func29,Tryz.ntmps29;go_wp2
   all_goals(have hk:=a3.o;clear a3;go_ret;refine⟨?_,hB⟩;clear hB;subst hk;simp_all [biB])
  ·have b2:(a==1)=false:=by simpa using h1
   by_cases h0:a=0
   ·subst h0;go_enter Tryz.func29,Tryz.ntmps29;go_wp2
    all_goals(have hk:=a3.o;clear a3;go_ret;refine⟨?_,hB⟩;clear hB;subst hk;simp_all [biB])
   ·have b1:(a==0)=false:=by simpa using h0
    go_enter Tryz.func29,Tryz.ntmps29;go_wp2
    all_goals(have hk:=a3.o;clear a3;go_ret;refine⟨?_,hB⟩;clear hB;subst hk;simp_all [biB])
end
section
attribute [local go_sem] Heavy.uponW
def tl (a:Array UInt8):(⟨a⟩:ByteArray).toList=a.toList:=mD _
def Tm.callB:Tm→Bool
 | .mk k _ _ _ _ _ _=>k==3||k==5
def Tm.ind:Tm→ByteArray × Int
 | .mk _ _ nm _ _ _ args=>(nm,args.length)
def Tm.bi:Tm→Bool
 | .mk _ _ nm _ _ _ args=>biB nm.toList args.length
def qM:List Tm→Int
 | []=>0
 |A::_=>if(A.callB&& !A.bi)=true then 2 else 0
def Tm.kd:Tm→Int
 | .mk k _ nm _ _ _ args=>
  if(k==3||k==5)=false then 0
  else if(k==5&&nm.toList== [92,43]&&((args.length:Int)==1))=true then
   qM args
  else if biB nm.toList args.length=false then 1
  else if((args.length:Int)==2)=true then bkN nm.toList else 0
def qE {w w2:Wo} {b o i:Nat} {v0 v1 v2 v3 v4 v5 v6:Value} (hx:∀p:Addr,p.block=b→w2.cell? p=w.cell? p) (hc:∀(j:Nat) u,[v0,v1,v2,v3,v4,v5,v6][j]?=some u→w.cell? ⟨b,o+i*7+j,none⟩=some u):
  w2.cell? ⟨b,o+i*7,none⟩=some v0∧w2.cell? ⟨b,o+i*7+1,none⟩=some v1∧w2.cell? ⟨b,o+i*7+2,none⟩=some v2∧w2.cell? ⟨b,o+i*7+3,none⟩=some v3∧w2.cell? ⟨b,o+i*7+4,none⟩=some v4∧w2.cell? ⟨b,o+i*7+5,none⟩=some v5∧w2.cell? ⟨b,o+i*7+6,none⟩=some v6:=
 ⟨(hx _ rfl).trans (hc 0 _ rfl),(hx _ rfl).trans (hc 1 _ rfl),(hx _ rfl).trans (hc 2 _ rfl),(hx _ rfl).trans (hc 3 _ rfl),(hx _ rfl).trans (hc 4 _ rfl),(hx _ rfl).trans (hc 5 _ rfl),(hx _ rfl).trans (hc 6 _ rfl)⟩
def jL {w w2:Wo} {b o:Nat} {v0 v1 v2 v3 v4 v5 v6:Value} (hx:∀p:Addr,p.block=b→w2.cell? p=w.cell? p) (hc:∀(j:Nat) u,[v0,v1,v2,v3,v4,v5,v6][j]?=some u→w.cell? ⟨b,o+j,none⟩=some u):
  w2.cell? ⟨b,o,none⟩=some v0∧w2.cell? ⟨b,o+1,none⟩=some v1∧w2.cell? ⟨b,o+2,none⟩=some v2∧w2.cell? ⟨b,o+3,none⟩=some v3∧w2.cell? ⟨b,o+4,none⟩=some v4∧w2.cell? ⟨b,o+5,none⟩=some v5∧w2.cell? ⟨b,o+6,none⟩=some v6:=
 ⟨(hx _ rfl).trans (hc 0 _ rfl),(hx _ rfl).trans (hc 1 _ rfl),(hx _ rfl).trans (hc 2 _ rfl),(hx _ rfl).trans (hc 3 _ rfl),(hx _ rfl).trans (hc 4 _ rfl),(hx _ rfl).trans (hc 5 _ rfl),(hx _ rfl).trans (hc 6 _ rfl)⟩
def GZ (T:Tm) (n:Nat) (w:Wo) (vs:Lv) (h:TmV n w T vs) (hn:n≤w.heap.size):
  Cz 64 #[.agg vs.toArray] w fun e w'=>e= .returned (.int .i64 T.kd)∧Bz w w':=by
 obtain⟨k,v,nm,g,num,den,args⟩:=T;simp only [TmV] at h;obtain⟨s1,s2,a,c,rfl,_,hS,hbig,_⟩:=h;obtain⟨len,hl⟩:=enm args.length;obtain⟨K,hK⟩:=enm (Tm.kd (.mk k v nm g num den args));rw [hK,hl];have b1:=aside hK;have Al:=aside hl;have b2:=aside hS;have hB:=aC w (Obj.cells #[.int .i64 k,.int .i64 v,.string nm,.bool g,s1,s2,.slice a len c] 48);have hq:=aK w (Obj.cells #[.int .i64 k,.int .i64 v,.string nm,.bool g,s1,s2,.slice a len c] 48);have b4:(w.alloc (Obj.cells #[.int .i64 k,.int .i64 v,.string nm,.bool g,s1,s2,.slice a len c] 48)).heap.size=w.heap.size+1:=by simp
 obtain⟨wb,hwb⟩:=enm (w.alloc (Obj.cells #[.int .i64 k,.int .i64 v,.string nm,.bool g,s1,s2,.slice a len c] 48));rw [hwb] at hB hq b4;have fa:Aside (∀w2,Bz wb w2→_):=fun(w2:Wo) (hb:Bz wb w2)=>eG ((hb.block w.heap.size (by omega)).trans hq)
 obtain⟨x0,x1,x2,x3,x4,x5,x6⟩:=fa.o wb (aG _ _);clear hq b4 hl hK hS;have b0:Aside (∀w2,_):=fun w2=>IJ k v nm g s1 s2 (.slice a len c) w2
 have a1:Aside (∀w2,_):=fun w2=>PT k v nm ⟨#[92,43]⟩ g s1 s2 a len c 1 w2
 have b7:Aside (∀w2,_):=fun w2=>qK k v nm g s1 s2 a len c w2
 have a9:Aside (∀w2,_):=fun w2=>AJ nm len w2
 have a6:Aside (∀w2,_):=fun w2=>NP nm w2
 obtain⟨cb,hcb⟩:∃b,(k==3||k==5)=b:=⟨_,rfl⟩;rw [tl #[92,43]] at a1;obtain⟨ic,hic⟩:∃b,(k==5&&nm.toList==(#[92,43]:Array UInt8).toList&&((len:Int)==1))=b:=⟨_,rfl⟩;obtain⟨bi,hbi⟩:∃b,biB nm.toList len=b:=⟨_,rfl⟩;rw [hcb] at b0;rw [hic] at a1;rw [hbi] at a9;have a0:Aside ((if cb=false then 0 else if ic=true then qM args else if bi=false then 1 else if((len:Int)==2)=true then bkN nm.toList else 0)=K):=by
  show _=K;rw [←b1.o,←hcb,←hic,←hbi,←Al.o];rfl
 have a3:Aside (ic=true→len=1):=by
  show _→_;rw [←hic];intro h;simp at h;omega
 have e0:Bz wb wb:=aG _ _;clear b1 hcb hic hbi;show Cz 64 #[.agg #[.int .i64 k,.int .i64 v,.string nm,.bool g,s1,s2,.slice a len c]] w _;go_enter Tryz.func64,Tryz.ntmps64
 go_upto_region 1 with fail
 clear hwb
 go_wp2_with (go_at_call 89;with_reducible refine(b0.o _).mono ?_)
 rintro e w1 ⟨rfl,hb1⟩;have e1:Bz wb w1:=e0.trans (hb1.mono e0.size);clear x0 x1 x2 x3 x4 x5 x6 hb1;obtain⟨x0,x1,x2,x3,x4,x5,x6⟩:=fa.o w1 e1;cases cb
 ·obtain rfl:K=0:=by rw [←a0.o];rfl
  clear a0 a3;go_wp2
  go_ret
  exact⟨rfl,hB.trans (e1.mono hB.size)⟩
 go_wp2_with (go_at_call 128;with_reducible refine(a1.o _).mono ?_)
 rintro e w2 ⟨rfl,hb2⟩;have e2:Bz wb w2:=e1.trans (hb2.mono e1.size);clear x0 x1 x2 x3 x4 x5 x6 hb2;obtain⟨x0,x1,x2,x3,x4,x5,x6⟩:=fa.o w2 e2;cases ic
 ·go_wp2_with (go_at_call 26;with_reducible refine(b7.o _).mono ?_)
  rintro e w3 ⟨rfl,hb3⟩;have e3:Bz wb w3:=e2.trans (hb3.mono e2.size);clear x0 x1 x2 x3 x4 x5 x6 hb3;obtain⟨x0,x1,x2,x3,x4,x5,x6⟩:=fa.o w3 e3
  go_wp2_with (go_at_call 74;with_reducible refine(a9.o _).mono ?_)
  rintro e w4 ⟨rfl,hb4⟩;have e4:Bz wb w4:=e3.trans (hb4.mono e3.size);clear x0 x1 x2 x3 x4 x5 x6 hb4;obtain⟨x0,x1,x2,x3,x4,x5,x6⟩:=fa.o w4 e4;cases bi
  ·obtain rfl:K=1:=by rw [←a0.o];rfl
   clear a0 a3;go_wp2
   go_ret
   exact⟨rfl,hB.trans (e4.mono hB.size)⟩
  ·by_cases h2:len=2
   ·subst h2;have b9:Aside (bkN nm.toList=K):=a0.o;clear a0 a3
    go_wp2_with (go_at_call 131;with_reducible refine(a6.o _).mono ?_)
    rintro e w5 ⟨rfl,rfl⟩;go_wp2
    go_ret
    exact⟨by have:=b9.o;simp_all,hB.trans (e4.mono hB.size)⟩
   ·have b8:((len:Int)==2)=false:=by simp;omega
    obtain rfl:K=0:=by rw [←a0.o,b8];rfl
    clear a0 a3;go_wp2
    go_ret
    exact⟨rfl,hB.trans (e4.mono hB.size)⟩
 ·have c0:=a3.o rfl;subst c0;obtain⟨A,rfl⟩:∃A,args= [A]:=WB.1 Al.o;have b3:=b2.o;simp only [TmsV] at b3;obtain⟨⟨b,off,vs',rfl,hbn,hc,hv⟩,_⟩:=b3;obtain⟨k',v',nm',g',a8,den',args'⟩:=A;simp only [TmV] at hv;obtain⟨_,_,a',c',rfl,⟨⟨p1,q1,rfl,_⟩,⟨p2,q2,rfl,_⟩⟩,_⟩:=hv;generalize a8.length=n1,den'.length=n2 at*;obtain⟨l',hl'⟩:=enm args'.length;rw [hl'] at hc;have a2:Aside ((if((k'==3||k'==5)&& !biB nm'.toList l')=true then 2 else 0)=K):=by
   show _=K;rw [←a0.o,←hl'];rfl
  have ya:Aside (∀w2,Bz wb w2→_):=fun(w2:Wo) (hb:Bz wb w2)=>jL (fun p hp=>((hB.trans (hb.mono hB.size)).mono hn).cell (hp▸hbn)) (by simpa using hc)
  obtain⟨y0,y1,y2,y3,y4,y5,y6⟩:=ya.o w2 e2;clear a0 a3 hl' hc b2
  go_upto_region 5 with fail
  have z0:=aC w2 (bA k' v' nm' g' p1 n1 q1 p2 n2 q2 a' l' c');have zq:=aK w2 (bA k' v' nm' g' p1 n1 q1 p2 n2 q2 a' l' c');have zs:(w2.alloc (bA k' v' nm' g' p1 n1 q1 p2 n2 q2 a' l' c')).heap.size=w2.heap.size+1:=by simp
  obtain⟨wc,hwc⟩:=enm (w2.alloc (bA k' v' nm' g' p1 n1 q1 p2 n2 q2 a' l' c'));rw [hwc] at z0 zq zs ⊢;clear hwc;have fb:Aside (∀w3,Bz wc w3→_):=fun(w3:Wo) (hb:Bz wc w3)=>eG ((hb.block w2.heap.size (by omega)).trans zq)
  have e3:Bz wb wc:=e2.trans (z0.mono e2.size);have f0:Bz wc wc:=aG _ _;have a5:Aside (∀w2,_):=fun w2=>IJ k' v' nm' g' (.slice p1 n1 q1) (.slice p2 n2 q2) (.slice a' l' c') w2
  have a7:Aside (∀w2,_):=fun w2=>qK k' v' nm' g' (.slice p1 n1 q1) (.slice p2 n2 q2) a' l' c' w2
  have a4:Aside (∀w2,_):=fun w2=>AJ nm' l' w2
  obtain⟨b6,hcb'⟩:∃b,(k'==3||k'==5)=b:=⟨_,rfl⟩;obtain⟨b5,hbi'⟩:∃b,biB nm'.toList l'=b:=⟨_,rfl⟩;rw [hcb'] at a5;rw [hbi'] at a4;rw [hcb',hbi'] at a2;clear x0 x1 x2 x3 x4 x5 x6 y0 y1 y2 y3 y4 y5 y6 zq zs z0 hcb' hbi' ya;obtain⟨x0,x1,x2,x3,x4,x5,x6⟩:=fb.o wc f0
  go_wp2_with (go_at_call 89;with_reducible refine(a5.o _).mono ?_)
  rintro e w3 ⟨rfl,hb3⟩;have f1:Bz wc w3:=f0.trans (hb3.mono f0.size);clear x0 x1 x2 x3 x4 x5 x6 hb3;obtain⟨x0,x1,x2,x3,x4,x5,x6⟩:=fb.o w3 f1;cases b6
  ·obtain rfl:K=0:=by rw [←a2.o];rfl
   clear a2;go_wp2
   go_ret
   exact⟨rfl,hB.trans ((e3.trans (f1.mono e3.size)).mono hB.size)⟩
  go_wp2_with (go_at_call 26;with_reducible refine(a7.o _).mono ?_)
  rintro e w4 ⟨rfl,hb4⟩;have f2:Bz wc w4:=f1.trans (hb4.mono f1.size);clear x0 x1 x2 x3 x4 x5 x6 hb4;obtain⟨x0,x1,x2,x3,x4,x5,x6⟩:=fb.o w4 f2
  go_wp2_with (go_at_call 74;with_reducible refine(a4.o _).mono ?_)
  rintro e w5 ⟨rfl,hb5⟩;have f3:Bz wc w5:=f2.trans (hb5.mono f2.size);clear x0 x1 x2 x3 x4 x5 x6 hb5;cases b5
  ·obtain rfl:K=2:=by rw [←a2.o];rfl
   clear a2;go_wp2
   go_ret
   exact⟨rfl,hB.trans ((e3.trans (f3.mono e3.size)).mono hB.size)⟩
  ·obtain rfl:K=0:=by rw [←a2.o];rfl
   clear a2;go_wp2
   go_ret
   exact⟨rfl,hB.trans ((e3.trans (f3.mono e3.size)).mono hB.size)⟩
end
end Go.Proofs.YtbdpdeonapmlgaaGreatDoor
namespace Go.Proofs.YtbdpdeonapmlgaaGreatDoor
noncomputable section
mutual
def Tm.ground:Tm→Prop
 | .mk k _ _ _ _ _ args=>k≠1∧Tm.groundL args
def Tm.groundL:List Tm→Prop
 | []=>True
 |T::r=>T.ground∧Tm.groundL r
end
mutual
def Tm.vd:Tm→Prop
 | .mk k v _ g num den args=>(k≠5→args= [])∧(k≠1→v=0)∧(k≠2→g=false∧num= []∧den= [])∧Tm.vdL args
def Tm.vdL:List Tm→Prop
 | []=>True
 |T::r=>T.vd∧Tm.vdL r
end
def varT (n:Nat):Tm:=.mk 1 n ⟨#[]⟩ false [] [] []
open Classical in
mutual
def gphi (ix:Tm→Tm→Nat):Tm→Tm→Tm
 | .mk k v nm g num den args,b=>
  if Tm.mk k v nm g num den args=b∧(Tm.mk k v nm g num den args).ground then b
  else match b with
  | .mk k' v' nm' g' num' den' args'=>if k=5∧k'=5∧nm=nm'∧args.length=args'.length then .mk 5 0 nm false [] [] (gphiL ix args args') else varT (ix (.mk k v nm g num den args) (.mk k' v' nm' g' num' den' args'))
def gphiL (ix:Tm→Tm→Nat):List Tm→List Tm→List Tm
 |T::r,U::q=>gphi ix T U::gphiL ix r q
 |_,_=>[]
end
def both (ix:Tm→Tm→Nat) (f1 f2:Int→Option Tm):Int→Option Tm:=fun v=>match f1 v,f2 v with
 |some p,some q=>some (gphi ix p q)
 |_,_=>none
end
end Go.Proofs.YtbdpdeonapmlgaaGreatDoor
namespace Go.Proofs.YtbdpdeonapmlgaaGreatDoor
open Go.RowKit Go.Big
structure RootOk (k:Int) (g:Bool) (num den:List Nat):Prop where
 kind:k=1∨k=2∨k=3∨k=4∨k=5
 sound:k=2→dO g num den=0
 non:k≠2→g=false∧num= []∧den= []
structure NodeOk (k v:Int) (nm:ByteArray) (g:Bool) (num den:List Nat) (len:Nat):Prop where
 root:RootOk k g num den
 var:k=1→0≤v∧v≤1073741824
 name:nm.size≤4000
 args:len≤32
def sK (a:Option Addr) (len cap n:Nat) (L:List Nat) (a0:L.length=len) (a2:len<4611686018427387904) (a3:len≤cap) (w:Wo) (hn:n≤w.heap.size) (h1:cG n w a L):
  Cz 360 #[.slice a len cap] w fun e w'=>∃k,e= .returned (.slice a k cap)∧kO L k∧Bz w w':=by
 go_enter Tryz.func360,Tryz.ntmps360;go_wp2
 go_loopw [0] (fun s wr=>∃k:Nat,s= .slice a k cap∧k≤len∧(∀x∈L.drop k,x=0)∧Bz w wr) (fun s _=>zK s)
 case atStart=>exact⟨len,rfl,aA _,by rw [←a0,ED];simp,aG _ _⟩
 case round=>
  obtain⟨k,rfl,hk,hz,hB⟩:=hrel
  by_cases a1:k=0
  ·subst a1;go_wp2
   go_ret
   exact⟨0,rfl,⟨aJ _,hz,.inl rfl⟩,hB⟩
  ·obtain⟨k',rfl⟩:∃k',k=k'+1:=⟨k-1,by omega⟩;obtain⟨x,hx⟩:∃x,L[k']?=some x:=⟨L[k'],aZ (by omega)⟩;obtain⟨b,off,rfl,hb,hxl,hc⟩:=(h1.below hB hn).get hx;have a9:IntKind.i64.wrap (k':Int)=k':=KM (by omega);have a4:(k':Int)<(k':Int)+1:=by omega
   have a5:(0:Int)≤(k':Int):=by omega
   have a6:(0:Int)<(k':Int)+1:=by omega
   have a7:(k':Int)≤(cap:Int):=by omega
   have a8:¬(cap:Int)<(k':Int):=by omega
   clear h1 a1
   by_cases h0:x=0
   ·subst h0;go_wp2;refine⟨⟨k',rfl,by omega,fun y hy=>?_,hB⟩,by simp [zK]⟩;rw [jC (by omega)] at hy;rcases cD.1 hy with rfl|hy
    ·exact(aO.1 hx).2
    ·exact hz y hy
   ·have b0:((x:Int)==0)=false:=by simp;omega
    go_wp2
    go_ret
    exact⟨k'+1,rfl,⟨by omega,hz,.inr ⟨x,by simpa using hx,h0⟩⟩,hB⟩
def KW {B:Nat} {A C:List Nat} {k x y:Nat} (hA:∀d∈A,d<B) (hx:A[k]?=some x) (hy:C[k]?=some y) (hd:A.drop (k+1)=C.drop (k+1)) (b2:x<y):val B A<val B C:=by
 obtain⟨h1,rfl⟩:=aO.1 hx;obtain⟨h2,rfl⟩:=aO.1 hy;have eA:A=A.take k++(A[k]::A.drop (k+1)):=by rw [←jC h1,rP]
 have eC:C=C.take k++(C[k]::C.drop (k+1)):=by rw [←jC h2,rP]
 have lA:(A.take k).length=k:=by rw [bJ];omega
 have lC:(C.take k).length=k:=by rw [bJ];omega
 have vA:val B A=val B (A.take k)+B^k*(A[k]+B*val B (A.drop (k+1))):=by
  conv=>lhs;rw [eA]
  rw [lI,lA,val]
 have vC:val B C=val B (C.take k)+B^k*(C[k]+B*val B (A.drop (k+1))):=by
  conv=>lhs;rw [eC]
  rw [lI,lC,val,hd]
 have hl:val B (A.take k)<B^k:=by
  have:=val_lt (B:=B) (a:=A.take k) fun d hd=>hA d (jV hd)
  rwa [lA] at this
 have hm:B^k*(A[k]+B*val B (A.drop (k+1))+1)≤B^k*(C[k]+B*val B (A.drop (k+1))):=lF _ (by omega);rw [cR,nE] at hm;omega
def YG (x:Int) (w:Wo):Cz 391 #[.int .i64 x] w fun e w'=>e= .returned (.int .i64 (if x<0 then-1 else if 0<x then 1 else 0))∧Bz w w':=by
 by_cases h1:x<0
 ·go_enter Tryz.func391,Tryz.ntmps391;go_wp2
  go_ret
  exact⟨by simp [h1],aG _ _⟩
 ·by_cases h2:0<x
  ·go_enter Tryz.func391,Tryz.ntmps391;go_wp2
   go_ret
   exact⟨by simp [h1,h2],aG _ _⟩
  ·go_enter Tryz.func391,Tryz.ntmps391;go_wp2
   go_ret
   exact⟨by simp [h1,h2],aG _ _⟩
def CmpD (A C:List Nat) (c:Int):Prop:=
 (A.length<C.length∧c= -1)∨(C.length<A.length∧c=1)∨(A.length=C.length∧((c=0∧A=C)∨(c= -1∧val 4294967296 A<val 4294967296 C)∨(c=1∧val 4294967296 C<val 4294967296 A)))
def ID (a1 a2:Option Addr) (a0 a3 a6 a7 n:Nat) (A C:List Nat) (b1:A.length=a0) (b5:C.length=a3) (b9:a0<4611686018427387904) (c0:a3<4611686018427387904) (w:Wo) (hn:n≤w.heap.size) (h1:cG n w a1 A) (h2:cG n w a2 C):
  Cz 353 #[.slice a1 a0 a6,.slice a2 a3 a7] w fun e w'=>∃c,e= .returned (.int .i64 c)∧CmpD A C c∧Bz w w':=by
 by_cases b7:a0=a3
 ·subst b7;have a5:(((a0:Nat):Int)==a0)=true:=by simp
  go_enter Tryz.func353,Tryz.ntmps353;go_wp2
  go_loopw [5] (fun s wr=>∃k:Nat,s= .int .i64 ((k:Int)-1)∧k≤a0∧A.drop k=C.drop k∧Bz w wr) (fun s _=>(intOf s+1).toNat)
  case atStart=>exact⟨a0,rfl,aA _,by rw [←b1,ED,b1,←b5,ED],aG _ _⟩
  case round=>
   obtain⟨k,rfl,hk,hd,hB⟩:=hrel
   by_cases b0:k=0
   ·subst b0;have e0:(((0:Nat):Int)-1)= -1:=by omega
    rw [e0];have b3:A=C:=by simpa using hd
    go_wp2
    go_ret
    exact⟨0,rfl,.inr (.inr ⟨by omega,.inl ⟨rfl,b3⟩⟩),hB⟩
   ·obtain⟨k',rfl⟩:∃k',k=k'+1:=⟨k-1,by omega⟩;have e0:(((k'+1:Nat):Int)-1)=k':=by omega
    rw [e0];obtain⟨x,hx⟩:∃x,A[k']?=some x:=⟨A[k'],aZ (by omega)⟩;obtain⟨y,hy⟩:∃y,C[k']?=some y:=⟨C[k'],aZ (by omega)⟩;obtain⟨b,off,rfl,hb,hxl,hc⟩:=(h1.below hB hn).get hx;obtain⟨b',off',rfl,hb',hyl,hc'⟩:=(h2.below hB hn).get hy;have c1:(k':Int)<(a0:Int):=by omega
    have c2:(0:Int)≤(k':Int):=by omega
    have hA:∀d∈A,d<4294967296:=h1.1;have hC:∀d∈C,d<4294967296:=h2.1;have a9:Bz w wr.drew:=hB.trans ⟨rfl,rfl,rfl,aA _,fun _ _=>rfl⟩;have a4:Bz w wr.drew.drew:=a9.trans ⟨rfl,rfl,rfl,aA _,fun _ _=>rfl⟩;clear h1 h2 b0
    by_cases a8:x=y
    ·subst a8;have b4:A.drop k'=C.drop k':=by
      obtain⟨q1,q2⟩:=aO.1 hx;obtain⟨q3,q4⟩:=aO.1 hy;rw [jC q1,jC q3,hd,q2,q4]
     go_wp2;refine iA 8 (by kernel_rfl) (by kernel_rfl) ?_;simp only [aX,bI,aW,bD,gQ]
     repeat (with_reducible refine gP (fun K hK=>?_);go_simp;with_reducible refine hK _ ?_;clear hK K)
     refine iB ?_;show wpList _ _ _ _ _ _;go_wp2;exact⟨⟨k',by simp,by omega,b4,a9⟩,by simp [intOf]⟩
    ·have b8:((x:Int)==y)=false:=by simp;omega
     by_cases b2:x<y
     ·have b6:(x:Int)<(y:Int):=by omega
      have hv:=KW hA hx hy hd b2;clear a8;go_wp2;refine iA 8 (by kernel_rfl) (by kernel_rfl) ?_;simp only [aX,bI,aW,bD,gQ]
      repeat (with_reducible refine gP (fun K hK=>?_);go_simp;with_reducible refine hK _ ?_;clear hK K)
      refine iB ?_;show wpList _ _ _ _ _ _;go_wp2;refine iA 8 (by kernel_rfl) (by kernel_rfl) ?_;simp only [aX,bI,aW,bD,gQ]
      repeat (with_reducible refine gP (fun K hK=>?_);go_simp;with_reducible refine hK _ ?_;clear hK K)
      refine iB ?_;show wpList _ _ _ _ _ _;go_wp2
      go_ret
      exact⟨-1,rfl,.inr (.inr ⟨by omega,.inr (.inl ⟨rfl,hv⟩)⟩),a4⟩
     ·have b6:¬(x:Int)<(y:Int):=by omega
      have hv:=KW hC hy hx hd.symm (by omega);clear a8;go_wp2;refine iA 8 (by kernel_rfl) (by kernel_rfl) ?_;simp only [aX,bI,aW,bD,gQ]
      repeat (with_reducible refine gP (fun K hK=>?_);go_simp;with_reducible refine hK _ ?_;clear hK K)
      refine iB ?_;show wpList _ _ _ _ _ _;go_wp2;refine iA 8 (by kernel_rfl) (by kernel_rfl) ?_;simp only [aX,bI,aW,bD,gQ]
      repeat (with_reducible refine gP (fun K hK=>?_);go_simp;with_reducible refine hK _ ?_;clear hK K)
      refine iB ?_;show wpList _ _ _ _ _ _;go_wp2
      go_ret
      exact⟨1,rfl,.inr (.inr ⟨by omega,.inr (.inr ⟨rfl,hv⟩)⟩),a4⟩
 ·have a5:((a0:Int)==a3)=false:=by simp;omega
  have c3:IntKind.i64.wrap ((a0:Int)-a3)=(a0:Int)-a3:=by rw [cO];omega
  have sc:=YG ((a0:Int)-a3) w;clear h1 h2;rcases gR a0 a3 with h|h
  ·rw [if_pos (by omega)] at sc;go_enter Tryz.func353,Tryz.ntmps353
   go_wp2_with (go_at_call 391;refine sc.mono ?_;rintro e w' ⟨rfl,hb⟩)
   go_ret
   exact⟨-1,rfl,.inl ⟨by omega,rfl⟩,hb⟩
  ·rw [if_neg (by omega),if_pos (by omega)] at sc;go_enter Tryz.func353,Tryz.ntmps353
   go_wp2_with (go_at_call 391;refine sc.mono ?_;rintro e w' ⟨rfl,hb⟩)
   go_ret
   exact⟨1,rfl,.inr (.inl ⟨by omega,rfl⟩),hb⟩
end Go.Proofs.YtbdpdeonapmlgaaGreatDoor
namespace Go.Proofs.YtbdpdeonapmlgaaGreatDoor
def IR (x y:Nat) (hx:x<4294967296) (hy:y<4294967296):bits .or .u64 ((x:Int)*4294967296) y=(x:Int)*4294967296+y:=by
 have e:x<<<32+y=x<<<32|||y:=DW (by omega) x;rw [yT] at e;have e1:((x:Int)*4294967296)=((x*4294967296:Nat):Int):=by simp
 have h1:(BitVec.ofInt 64 ((x:Int)*4294967296)).toNat=x*4294967296:=by
  rw [e1,mF,mE];omega
 have h2:(BitVec.ofInt 64 (y:Int)).toNat=y:=by
  rw [mF,mE];omega
 show IntKind.u64.wrap (((BitVec.ofInt 64 ((x:Int)*4294967296))|||BitVec.ofInt 64 (y:Int)).toNat:Int)=_;rw [EF,h1,h2];have e2:x*4294967296|||y=x*4294967296+y:=by
  have:(2:Nat)^32=4294967296:=by decide
  rw [this] at e;exact e.symm
 rw [e2,IntKind.wrap_u64];omega
def TJ (x:Nat):bits .and .u64 (x:Int) 1=((x%2:Nat):Int):=by
 have h1:(BitVec.ofInt 64 (x:Int)).toNat=x%18446744073709551616:=by
  rw [mF,mE]
 have h2:(BitVec.ofInt 64 (1:Int)).toNat=1:=by decide
 show IntKind.u64.wrap (((BitVec.ofInt 64 (x:Int))&&&BitVec.ofInt 64 (1:Int)).toNat:Int)=_;rw [WO,h1,h2,Le,IntKind.wrap_u64];omega
end Go.Proofs.YtbdpdeonapmlgaaGreatDoor
namespace Go.Proofs.YtbdpdeonapmlgaaGreatDoor
open Go.RowKit Go.Big
variable {b x k d off:Nat} {L a0 ds lo rest us:List Nat} {w w':Wo}
def bW (w:Wo) (b:Nat) (a0:List Nat):Prop:=w.heap[b]?=some (.cells (a0.map fun x:Nat=>Value.int .u32 x).toArray 175 (0,0))
def bW.cell (h:bW w b a0) {k x:Nat} (hx:a0[k]?=some x):w.cell? ⟨b,k,none⟩=some (.int .u32 x)∧w.frozen? ⟨b,k,none⟩=false:=by
 unfold bW at h;simp [World.cell?,World.frozen?,h,hx]
def bW.set (h:bW w b a0):bW (w.setCell ⟨b,k,none⟩ (.int .u32 d)) b (a0.set k d):=by
 unfold bW at h ⊢;have e:(w.setCell ⟨b,k,none⟩ (.int .u32 d)).heap[b]?=some (.cells ((a0.map fun x:Nat=>Value.int .u32 x).toArray.setIfInBounds k (.int .u32 d)) 175 (0,0)):=by
  simp [World.setCell,oR,h]
 rw [e,List.setIfInBounds_toArray,List.map_set]
structure Only (b:Nat) (w w':Wo):Prop where
 os:w'.os=w.os
 tape:w'.tape=w.tape
 output:w'.output=w.output
 size:w.heap.size≤w'.heap.size
 block:∀k,k<w.heap.size→k≠b→w'.heap[k]?=w.heap[k]?
def Only.refl (b:Nat) (w:Wo):Only b w w:=⟨rfl,rfl,rfl,aA _,fun _ _ _=>rfl⟩
def Only.trans {a c d:Wo} (h:Only b a c) (h':Only b c d):Only b a d:=
 ⟨h'.os.trans h.os,h'.tape.trans h.tape,h'.output.trans h.output,aE h.size h'.size,fun k hk hb=>(h'.block k (bG hk h.size) hb).trans (h.block k hk hb)⟩
def Only.of_below (h:Bz w w'):Only b w w':=⟨h.os,h.tape,h.output,h.size,fun k hk _=>h.block k hk⟩
def Only.toBelow {base:Nat} (h:Only b w w') (hb:base≤b) (hw:base≤w.heap.size):Below base w w':=⟨h.os,h.tape,h.output,h.size,fun k hk=>h.block k (by omega) (by omega)⟩
def Only.set (w:Wo) (b k:Nat) (v:Value):Only b w (w.setCell ⟨b,k,none⟩ v):=⟨rfl,rfl,rfl,by simp,fun j hj a3=>Below.heap_setCell w ⟨b,k,none⟩ v j a3⟩
def Only.drew (b:Nat) (w:Wo):Only b w w.drew:=⟨rfl,rfl,rfl,aA _,fun _ _ _=>rfl⟩
def Only.cell (h:Only b w w') {p:Addr} (hp:p.block<w.heap.size) (hb:p.block≠b):w'.cell? p=w.cell? p:=UR (w:=w) (h.block p.block hp hb)
def MK (a2:lo.length=off) (a1:ds.length=k) (hx:us[k]?=some x):(lo++ds++us.drop k++rest).set (off+k) d=lo++(ds++ [d])++us.drop (k+1)++rest:=by
 obtain⟨h1,rfl⟩:=aO.1 hx;obtain⟨t,ht⟩:=enm (us.drop (k+1));rw [jC h1,ht];have hl:(lo++ds).length=off+k:=by rw [aI,a2,a1]
 rw [fO (lo++ds),yV _ _ (by omega),hl,pW];simp
def ML (a2:lo.length=off) (a1:ds.length=k) (hx:us[k]?=some x):(lo++ds++us.drop k++rest)[off+k]?=some x:=by
 obtain⟨h1,rfl⟩:=aO.1 hx;rw [jC h1];have hl:(lo++ds).length=off+k:=by rw [aI,a2,a1]
 rw [fO (lo++ds),eO (by omega),hl,pW];rfl
def zT {n:Nat} (a2:lo.length=off) (a1:ds.length=n):(lo++ds++x::rest)[off+n]?=some x∧(lo++ds++x::rest).set (off+n) d=lo++ds++d::rest:=by
 have hl:(lo++ds).length=off+n:=by rw [aI,a2,a1]
 constructor
 ·rw [eO (by omega),hl,pW];rfl
 ·rw [yV _ _ (by omega),hl,pW];rfl
def nP (h:L[k]?=some x):L.take (k+1)=L.take k++ [x]:=by rw [gK,h];rfl
def KV {B m y:Nat} (hl:L.length=m+2) (h1:L[m+1]?=some x) (h2:L[m]?=some y):val B L=x*B^(m+1)+y*B^m+val B (L.take m):=by
 have e:L=L.take m++ [y]++ [x]:=by
  rw [←nP h2,←nP h1,eS (by omega)]
 have lm:(L.take m).length=m:=by rw [bJ];omega
 conv=>lhs;rw [e]
 rw [lI,lI,aI,lm];simp only [val,tS,vM,iI];rw [bZ (B^m),bZ (B^(m+1))];omega
def wrap_u64 (x:Int):IntKind.u64.wrap x=x%18446744073709551616:=by
 simp [IntKind.wrap,IntKind.bits,IntKind.signed]
def kS (x:Int):IntKind.u32.wrap x=x%4294967296:=by
 simp [IntKind.wrap,IntKind.bits,IntKind.signed]
def LN (x l b:Nat) (hx:x<4294967296) (hl:l<4294967296) (hb:b≤1):∃b' d:Nat,b'≤1∧d<4294967296∧x+b'*4294967296=d+l+b∧∃t1 t2 q:Nat,
  IntKind.u64.wrap ((x:Int)-(l:Int))=(t1:Int)∧IntKind.u64.wrap ((t1:Int)-(b:Int))=(t2:Int)∧(t2:Int)/4294967296=(q:Int)∧bits .and .u64 (q:Int) 1=(b':Int)∧IntKind.u32.wrap (t2:Int)=(d:Int):=by
 by_cases h:l+b≤x
 ·refine⟨0,x-l-b,by omega,by omega,by omega,(x+18446744073709551616-l)%18446744073709551616,x-l-b,0,?_,?_,by omega,?_,?_⟩
  ·rw [wrap_u64];omega
  ·rw [wrap_u64];omega
  ·have:=TJ 0;simpa using this
  ·rw [kS];omega
 ·refine⟨1,x+4294967296-l-b,by omega,by omega,by omega,(x+18446744073709551616-l)%18446744073709551616,x+18446744073709551616-l-b,4294967295,?_,?_,by omega,?_,?_⟩
  ·rw [wrap_u64];omega
  ·rw [wrap_u64];omega
  ·have:=TJ 4294967295;simpa using this
  ·rw [kS];omega
end Go.Proofs.YtbdpdeonapmlgaaGreatDoor
namespace Go.Proofs.YtbdpdeonapmlgaaGreatDoor
open Go.RowKit Go.Big Go.Shelf
def Tryz.lz_ren:Go.Shelf.Ren:=⟨fun|128=>240|133=>356|n=>n,fun|3=>3|4=>4|5=>5|9=>9|46=>211|51=>175|n=>n,fun n=>n⟩
def Tryz.lz:Go.Proofs.Lays.n133 Tryz.prog Tryz.lz_ren:={
 mixed:=by kernel_rfl
 f128:=Tryz.func240.trans (eY some (by kernel_rfl))
 f133:=Tryz.func356.trans (eY some (by kernel_rfl))
 t3:=Tryz.underlying3
 a3:=Tryz.isAgg3
 z3:=Tryz.sizeOf3
 v3:=Tryz.zeroValue3
 t4:=Tryz.underlying4
 a4:=Tryz.isAgg4
 z4:=Tryz.sizeOf4
 v4:=Tryz.zeroValue4
 t5:=Tryz.underlying5
 a5:=Tryz.isAgg5
 z5:=Tryz.sizeOf5
 v5:=Tryz.zeroValue5
 t9:=Tryz.underlying9
 a9:=Tryz.isAgg9
 z9:=Tryz.sizeOf9
 v9:=Tryz.zeroValue9
 t46:=Tryz.underlying211
 a46:=Tryz.isAgg211
 z46:=Tryz.sizeOf211
 v46:=Tryz.zeroValue211
 t51:=Tryz.underlying175
 a51:=Tryz.isAgg175
 z51:=Tryz.sizeOf175
 v51:=Tryz.zeroValue175 }
def TK:∀(f x:Nat),x<2^f→x<2^Lib.bitLenAux f x
 |0,x,h=>by simpa [Lib.bitLenAux] using h
 | f+1,x,h=>by
  unfold Lib.bitLenAux;split
  ·subst x;simp
  ·have h1:=TK f (x/2) (by rw [eR] at h;omega);rw [VR,eR];omega
def Je {x:Nat} (h:0<x):1≤Lib.bitLen x:=by
 unfold Lib.bitLen Lib.bitLenAux;rw [if_neg (by omega)];omega
def Df (x:Nat) (h0:0<x) (h1:x<4294967296) (w:Wo):Cz 356 #[.int .u32 x] w fun e w'=>∃s:Nat,e= .returned (.int .i64 s)∧s<32∧x*2^s<4294967296∧w'=w:=by
 have h:=Any.bits_LeadingZeros32 Tryz.lz (x:Int) w (by omega) (by omega);refine(show Cz 356 #[.int .u32 x] w _ from h).mono ?_;rintro e w' ⟨rfl,rfl⟩;have l1:=Any.bitLen_le32 (x:Int) (by omega) (by omega);rw [zC] at l1 ⊢;have l2:=Je h0;have l3:x<2^Lib.bitLen x:=TK 64 x (bG h1 (by decide));refine⟨32-Lib.bitLen x,?_,by omega,?_,rfl⟩
 ·congr 2;omega
 ·have e:(4294967296:Nat)=2^Lib.bitLen x*2^(32-Lib.bitLen x):=by
   rw [←DX,show Lib.bitLen x+(32-Lib.bitLen x)=32 by omega]
  rw [e];exact JO l3 (kQ (by decide))
