/- Lemmas; no condition. -/
import Derived.Test.YtbdpdeonapmlgaaGreatDoorAv
set_option linter.all false
set_option maxHeartbeats 8000000
set_option maxRecDepth 100000
namespace Go.Proofs.YtbdpdeonapmlgaaGreatDoor
open Go.RowKit Go.Big Go.RowsK Go.MapK
noncomputable section
variable {Ms:List Md} {P:List Cl} {v:Value} {i base k len n:Nat} {M:Md} {w:Wo}
section
attribute [local go_sem] Heavy.uponW
def jS (x:Int):Bool:=(x !=1)&&(x !=2)
def fU (Ms:List Md) (i:Nat) (M:Md):Int:=
 if((M.io.length:Int) !=M.ar||M.io.any jS)=true then 1 else if biB M.nm.toList M.ar=true then 8 else if(Ms.take i).any (fun X=>kD X M)=true then 5 else 0
def jN (Ms:List Md):List Md→Nat→Int
 | [],_=>0
 |M::r,i=>if fU Ms i M=0 then jN Ms r (i+1) else fU Ms i M
def mO (P:List Cl) (Ms:List Md):Int:=if kG P≠0 then kG P else if 300<Ms.length then 3 else jN Ms Ms 0
def AX (Ms L:List Md) (k i:Nat) (hi:i≤L.length) (h:∀(j:Nat) M,j<i→L[j]?=some M→fU Ms (k+j) M=0):jN Ms L k=jN Ms (L.drop i) (k+i):=by
 induction i generalizing L k with
 |zero=>rfl
 | succ i ih=>
  cases L with
  |nil=>simp at hi
  |cons a r=>
   have h0:=h 0 a (by omega) rfl;rw [iI] at h0;rw [jN,if_pos h0,ih r (k+1) (by simpa using hi) (fun j M hj hM=>by have:=h (j+1) M (by omega) hM;rwa [show k+1+j=k+(j+1) by omega]),aW,show k+1+i=k+(i+1) by omega]
def Jm (x:Int) (w:Wo):Cz 73 #[.int .i64 x] w (dP w (jS x)):=by
 obtain⟨b1,h1⟩:∃b,(x !=1)=b:=⟨_,rfl⟩;obtain⟨b2,h2⟩:∃b,(x !=2)=b:=⟨_,rfl⟩;have hb:jS x=(b1&&b2):=by rw [jS,h1,h2]
 rw [hb];clear hb;go_enter Tryz.func73,Tryz.ntmps73;cases b1<;>cases b2
 all_goals
  go_wp2
  go_ret
  exact⟨rfl,aG _ _⟩
def Ao (P:List Cl) (Ms:List Md) (n:Nat) (a b:Option Addr) (c d:Nat) (w:Wo) (hP:ClsV n w P a) (c1:MdsV n w Ms b) (b8:Ms.length≤d) (hn:n≤w.heap.size):
  Cz 25 #[.slice a P.length c,.slice b Ms.length d] w (fun e w'=>e= .returned (.int .i64 (mO P Ms))∧Bz w w'):=by
 have d1:=XP P n w a P.length c rfl hP hn;obtain⟨F,hF⟩:=enm (kG P);obtain⟨R,hR⟩:=enm (mO P Ms);have RA:Aside ((if F≠0 then F else if 300<Ms.length then 3 else jN Ms Ms 0)=R):=by show _=_;rw [←hF,←hR];rfl
 rw [hR];rw [hF] at d1;have c0:=aside c1;obtain⟨len,hl⟩:∃l,Ms.length=l:=⟨_,rfl⟩;rw [hl] at RA b8 ⊢;have Ll:=aside hl;generalize P.length=lp at*;clear hF hR hP c1 hl;go_enter Tryz.func25,Tryz.ntmps25
 by_cases b5:F=0
 case neg=>
  have f1:(F==0)=false:=by simpa using b5
  have f2:(F !=0)=true:=by simpa using b5
  have hR:Aside (R=F):=by show _=_;rw [←RA.o,if_pos b5]
  go_wp2_with (go_at_call 58;(with_reducible refine d1.mono ?_);rintro e w2 ⟨rfl,hb2⟩)
  go_ret
  exact⟨by have e:=hR.o;subst e;rfl,hb2⟩
 subst b5
 by_cases a9:300<len
 case pos=>
  have h3:(300:Int)<(len:Int):=by omega
  have hR:Aside (R=3):=by show _=_;rw [←RA.o];simp [a9]
  go_wp2_with (go_at_call 58;(with_reducible refine d1.mono ?_);rintro e w2 ⟨rfl,hb2⟩)
  go_ret
  exact⟨by have e:=hR.o;subst e;rfl,hb2⟩
 have h3:¬(300:Int)<(len:Int):=by omega
 have RB:Aside (jN Ms Ms 0=R):=by show _=_;rw [←RA.o];simp [a9]
 clear RA
 go_wp2_with (go_at_call 58;(with_reducible refine d1.mono ?_);rintro e w2 ⟨rfl,hb2⟩)
 have b7:=aside hb2;clear d1 hb2
 go_loopw [18] (fun s wr=>∃i:Nat,s= .int .i64 i∧i≤len∧Bz w wr∧Aside (∀(j:Nat) M,j<i→Ms[j]?=some M→fU Ms (0+j) M=0)) (fun s _=>len-(intOf s).toNat)
 case atStart=>exact⟨0,rfl,aJ _,b7.o,fun j T hj=>by omega⟩
 case round=>
  obtain⟨wo,rfl⟩:=enr wr;obtain⟨i,rfl,hi,hbo,hall⟩:=hrel
  by_cases c6:i<len
  ·obtain⟨M,hM⟩:=egf Ll.o c6;obtain⟨g1,off,vs,rfl,hg1,hc0,hv⟩:=c0.o i M hM;have c9:=aside hv;obtain⟨am,cm,rfl,hI,hIl⟩:=hv;have a7:=hc0.below hbo (by omega);obtain⟨mn,ma,io⟩:=M;dsimp only at a7 hI hIl;obtain⟨li,hli⟩:∃l,io.length=l:=⟨_,rfl⟩;rw [hli] at a7 hIl;have e0:wo.cell? ⟨g1,off+i*3,none⟩=some (.string mn):=a7 0 _ rfl;have e1:wo.cell? ⟨g1,off+i*3+1,none⟩=some (.int .i64 ma):=a7 1 _ rfl;have e2:wo.cell? ⟨g1,off+i*3+2,none⟩=some (.slice am li cm):=a7 2 _ rfl;have d0:=aC wo (Obj.cells #[.string mn,.int .i64 ma,.slice am li cm] 66);have hq:=aK wo (Obj.cells #[.string mn,.int .i64 ma,.slice am li cm] 66);have a5:=hbo.trans (d0.mono hbo.size);have a3:=aside a5;have fm:Aside (∀w2,Bz (wo.alloc (Obj.cells #[.string mn,.int .i64 ma,.slice am li cm] 66)) w2→_):=fun(w2:Wo) (hb:Bz (wo.alloc (Obj.cells #[.string mn,.int .i64 ma,.slice am li cm] 66)) w2)=>mU ((hb.block wo.heap.size (by simp)).trans hq)
   have a4:Aside (Cz 72 #[.slice am li cm,.func (.func 73) #[] #[]] (wo.alloc (Obj.cells #[.string mn,.int .i64 ma,.slice am li cm] 66)) (dP (wo.alloc (Obj.cells #[.string mn,.int .i64 ma,.slice am li cm] 66)) (io.any jS))):=by
    show Calls _ _ _ _ _;have:=SA io jS 73 #[] (enters_of Tryz.func73 (by kernel_rfl) rfl) am cm (wo.alloc (Obj.cells #[.string mn,.int .i64 ma,.slice am li cm] 66)) (fun j x hj=>?_) (by omega) fun x hx w2 hb=>Jm x w2
    ·rw [hli] at this;exact this
    obtain⟨g,o,e,hg,hc⟩:=(hI.below a5 hn) j x hj;exact⟨g,o,e,bG hg (aE hn a5.size),hc⟩
   have b3:Aside (∀w2,Cz 74 #[.agg #[.string mn,.int .i64 ma]] w2 fun e w'=>e= .returned (.bool (biB mn.toList ma))∧Bz w2 w'):=fun w2=>AJ mn ma w2
   have a1:Aside (∀w2,Bz (wo.alloc (Obj.cells #[.string mn,.int .i64 ma,.slice am li cm] 66)) w2→Cz 75 #[.slice (some ⟨g1,off,none⟩) i d,.func (.func 76) #[] #[.pointer (some ⟨wo.heap.size,0,none⟩)]] w2 (dP w2 ((Ms.take i).any fun X=>kD X ⟨mn,ma,io⟩))):=by
    show∀w2,_;intro w2 hb;have b4:=a5.trans (hb.mono a5.size);have c7:(Ms.take i).length=i:=by rw [bJ,Ll.o];omega
    have:=RZ (Ms.take i) (fun X=>kD X ⟨mn,ma,io⟩) 76 #[.pointer (some ⟨wo.heap.size,0,none⟩)] (enters_of Tryz.func76 (by kernel_rfl) rfl) n (some ⟨g1,off,none⟩) d w2 ((c0.o.take i).below b4 hn) (aE hn b4.size) (by omega) fun j X hj w3 vs c2 c3=>by
     have a6:=b4.trans (c2.mono b4.size);refine YR X ⟨mn,ma,io⟩ n wo.heap.size am cm w3 vs c3 ?_ (hI.below a6 hn) (aE hn a6.size);rw [hli];exact((hb.trans (c2.mono hb.size)).block wo.heap.size (by simp)).trans hq
    rw [c7] at this;exact this
   obtain⟨B0,hB0⟩:∃b,((li:Int) !=ma)=b:=⟨_,rfl⟩;obtain⟨B1,hB1⟩:∃b,io.any jS=b:=⟨_,rfl⟩;obtain⟨B3,a6⟩:∃b,biB mn.toList ma=b:=⟨_,rfl⟩;obtain⟨B4,hB4⟩:∃b,((Ms.take i).any fun X=>kD X ⟨mn,ma,io⟩)=b:=⟨_,rfl⟩;have hE:Aside (fU Ms (0+i) ⟨mn,ma,io⟩=if(B0||B1)=true then 1 else if B3=true then 8 else if B4=true then 5 else 0):=by
    show _=_;rw [bT,fU,hli,hB0,hB1,a6,hB4]
   rw [hB1] at a4;rw [a6] at b3;rw [hB4] at a1;obtain⟨d3,hi3,hw3⟩:=elt (i:=i) (n:=len) (by omega) (by omega);have b0:=aside hM;have d2:(i:Int)≤(d:Int):=by omega
   have c4:i≤d:=by omega
   have a0:Aside (∀v:Int,fU Ms (0+i) ⟨mn,ma,io⟩=v→v≠0→R=v):=fun v e hv=>by
    have h9:=AX Ms Ms 0 i (by rw [Ll.o];omega) hall.o;obtain⟨c5,hx9⟩:=aO.1 b0.o;rw [jC c5,hx9,jN,e,if_neg hv] at h9;rw [←RB.o,h9]
   have a8:Aside (fU Ms (0+i) ⟨mn,ma,io⟩=0→∀(j:Nat) M,j<i+1→Ms[j]?=some M→fU Ms (0+j) M=0):=fun e j M hj b6=>by
    rcases gR j i with h|h
    ·exact hall.o j M h b6
    ·obtain rfl:j=i:=by omega
     rw [b0.o] at b6;injection b6 with e2;subst e2;exact e
   obtain⟨y0,y1,y2⟩:=fm.o _ (aG _ _);have c8:Aside (Bz (wo.alloc (Obj.cells #[.string mn,.int .i64 ma,.slice am li cm] 66)) (wo.alloc (Obj.cells #[.string mn,.int .i64 ma,.slice am li cm] 66))):=aG _ _;clear hB1 a6 hB4 hM hc0 a7 d0 hq a5 hI hIl hli hbo;cases B0
   case true=>
    have hR:Aside (R=1):=a0.o 1 hE.o (by decide);clear a0 a8 hE
    go_wp2_with (first
    |(go_at_call 72;(with_reducible refine a4.o.mono ?_);rintro e w4 ⟨rfl,hb4⟩;obtain⟨z0,z1,z2⟩:=fm.o w4 hb4))
    go_ret
    exact⟨by have e:=hR.o;subst e;rfl,a3.o⟩
   cases B1
   case true=>
    have hR:Aside (R=1):=a0.o 1 hE.o (by decide);clear a0 a8 hE
    go_wp2_with (first
    |(go_at_call 72;(with_reducible refine a4.o.mono ?_);rintro e w4 ⟨rfl,hb4⟩;obtain⟨z0,z1,z2⟩:=fm.o w4 hb4))
    go_ret
    exact⟨by have e:=hR.o;subst e;rfl,a3.o.trans (hb4.mono a3.o.size)⟩
   cases B3
   case true=>
    have hR:Aside (R=8):=a0.o 8 hE.o (by decide);clear a0 a8 hE
    go_wp2_with (first
    |(go_at_call 72;(with_reducible refine a4.o.mono ?_);rintro e w4 ⟨rfl,hb4⟩;obtain⟨z0,z1,z2⟩:=fm.o w4 hb4)
    |(go_at_call 74;(with_reducible refine(b3.o w4).mono ?_);rintro e w5 ⟨rfl,hb5⟩;have a2:=hb4.trans (hb5.mono hb4.size)))
    go_ret
    exact⟨by have e:=hR.o;subst e;rfl,a3.o.trans (a2.mono a3.o.size)⟩
   cases B4
   case true=>
    have hR:Aside (R=5):=a0.o 5 hE.o (by decide);clear a0 a8 hE
    go_wp2_with (first
    |(go_at_call 72;(with_reducible refine a4.o.mono ?_);rintro e w4 ⟨rfl,hb4⟩;obtain⟨z0,z1,z2⟩:=fm.o w4 hb4)
    |(go_at_call 74;(with_reducible refine(b3.o w4).mono ?_);rintro e w5 ⟨rfl,hb5⟩;have a2:=hb4.trans (hb5.mono hb4.size))
    |(go_at_call 75;(with_reducible refine(a1.o w5 a2).mono ?_);rintro e w6 ⟨rfl,hb6⟩))
    go_ret
    exact⟨by have e:=hR.o;subst e;rfl,a3.o.trans ((a2.trans (hb6.mono a2.size)).mono a3.o.size)⟩
   have b9:Aside (∀(j:Nat) M,j<i+1→Ms[j]?=some M→fU Ms (0+j) M=0):=a8.o hE.o;clear a0 a8 hE
   go_wp2_with (first
    |(go_at_call 72;(with_reducible refine a4.o.mono ?_);rintro e w4 ⟨rfl,hb4⟩;obtain⟨z0,z1,z2⟩:=fm.o w4 hb4)
    |(go_at_call 74;(with_reducible refine(b3.o w4).mono ?_);rintro e w5 ⟨rfl,hb5⟩;have a2:=hb4.trans (hb5.mono hb4.size))
    |(go_at_call 75;(with_reducible refine(a1.o w5 a2).mono ?_);rintro e w6 ⟨rfl,hb6⟩))
   have hL:=a3.o.trans ((a2.trans (hb6.mono a2.size)).mono a3.o.size);go_roundw
   case rel=>exact⟨i+1,by simp,by omega,hL,b9⟩
   case measure=>simp [intOf];omega
  ·obtain rfl:i=len:=by omega
   have hR:Aside (R=0):=by
    show _=_;rw [←RB.o,AX Ms Ms 0 i (by rw [Ll.o];omega) hall.o,rS (nF Ll.o),jN]
   go_wp2
   go_ret
   exact⟨by have e:=hR.o;subst e;rfl,hbo⟩
end
abbrev Ft:=Int × Int × Int × Int
def ftC (f:Ft):Lv:=[.int .i64 f.1,.int .i64 f.2.1,.int .i64 f.2.2.1,.int .i64 f.2.2.2]
def OutF (base:Nat) (w:Wo) (v:Value) (L:List Ft):Prop:=w.ownsRow base 32 4 v L.length (L.flatMap ftC)
def zFt:Value:=.agg #[.int .i64 0,.int .i64 0,.int .i64 0,.int .i64 0]
def elFt:El Tryz.prog 24 32 4 32 zFt:=⟨Tryz.underlying24,by
  obtain⟨i0,h1,h2,h3,h4⟩:=lZ (show(Tryz.prog.info? 32).map (fun i=>(i.zero,i.size,i.bytes))=some (some zFt,4,32) by kernel_rfl);exact⟨i0,h1,h2,h3,h4⟩,rfl,by decide⟩
def QK:∀{L:List Ft} {k:Nat} {f:Ft},L[k]?=some f→(L.flatMap ftC)[k*4]?=some (.int .i64 f.1)∧(L.flatMap ftC)[k*4+1]?=some (.int .i64 f.2.1)∧(L.flatMap ftC)[k*4+2]?=some (.int .i64 f.2.2.1)∧(L.flatMap ftC)[k*4+3]?=some (.int .i64 f.2.2.2)
 | [],_,_,h=>by simp at h
 |J::r,0,I,h=>by
  simp at h;subst h;simp [ftC]
 |J::r,k+1,I,h=>by
  have:=QK (L:=r) (k:=k) (f:=I) (by simpa using h);simp only [oQ,ftC];rw [show(k+1)*4=k*4+4 by omega,show k*4+4+1=k*4+1+4 by omega,show k*4+4+2=k*4+2+4 by omega,show k*4+4+3=k*4+3+4 by omega];simpa using this
def OutF.read {L:List Ft} (h:OutF base w v L):∃a c,v= .slice a L.length c∧∀(k:Nat) f,L[k]?=some f→∃g,a=some ⟨g,0,none⟩∧g<w.heap.size∧w.cell? ⟨g,k*4,none⟩=some (.int .i64 f.1)∧w.cell? ⟨g,k*4+1,none⟩=some (.int .i64 f.2.1)∧w.cell? ⟨g,k*4+2,none⟩=some (.int .i64 f.2.2.1)∧w.cell? ⟨g,k*4+3,none⟩=some (.int .i64 f.2.2.2):=by
 obtain⟨a,c,rfl,hr⟩:=gL h;refine⟨a,c,rfl,fun k f hk=>?_⟩;rcases hr with h0|⟨g,e,_,hg,hc⟩
 ·have:=(aO.1 hk).1;omega
 ·obtain⟨h1,h2,h3,h4⟩:=QK hk;exact⟨g,e,hg,hc _ _ h1,hc _ _ h2,hc _ _ h3,hc _ _ h4⟩
def OutF.app {L:List Ft} (h:OutF base w v L) (hl:L.length=len) (hb:base≤w.heap.size) (a3:len≤100000) (i k a q:Int):
  let wx:=w.alloc (.cells #[.int .i64 i,.int .i64 k,.int .i64 a,.int .i64 q] 32)
  wx.ownsRow base 32 4 v len (L.flatMap ftC)∧SrcAt wx (.slice (some ⟨w.heap.size,0,none⟩) 1 1) 1 [.int .i64 i,.int .i64 k,.int .i64 a,.int .i64 q]∧len+1≤maxLen∧(len+1)*32≤140737488355328∧base≤wx.heap.size∧
   ∀v5 w5,w5.ownsRow base 32 4 v5 (len+1) (L.flatMap ftC++ [.int .i64 i,.int .i64 k,.int .i64 a,.int .i64 q])→wx.grownBy w5 v.ownBlock→(v5.ownBlock=v.ownBlock∨v5.ownBlock=some wx.heap.size)→
    OutF base w5 v5 (L++ [(i,k,a,q)])∧Below base w w5∧∀j,j<w.heap.size→v.ownBlock≠some j→w5.heap[j]?=w.heap[j]?∧v5.ownBlock≠some j:=by
 have a0:=aC w (Obj.cells #[.int .i64 i,.int .i64 k,.int .i64 a,.int .i64 q] 32);have a2:=aK w (Obj.cells #[.int .i64 i,.int .i64 k,.int .i64 a,.int .i64 q] 32);have hO:=eT h a0 (aA _);subst hl;refine⟨hO,.inr ⟨_,_,rfl,fun t u ht=>?_⟩,by unfold maxLen;omega,by omega,aE hb a0.size,fun v5 w5 h5 hg hv=>⟨?_,(a0.mono hb).trans ⟨hg.os,hg.tape,hg.output,hg.size,fun j hj=>hg.block j (by have:=a0.size;omega) fun e=>?_⟩,fun j hj a1=>⟨(hg.block j (by have:=a0.size;omega) a1.symm).trans (a0.block j hj),?_⟩⟩⟩
 ·rw [jX,bT];simp only [World.cell?,a2];simpa using ht
 ·unfold OutF;rw [aI,pZ];simpa [ftC] using h5
 ·have:=(hO.lt j e.symm).1;omega
 ·rcases hv with e|e<;>rw [e]
  ·exact a1
  ·intro e2;injection e2 with e2
   have:=a0.size;omega
def mR (Ms:List Md) (i k:Nat) (M:Md) (C:Cl):List Ft:=if C.h.ind=M.ind then(if(kN Ms C M).2=0 then [] else [((i:Int),(k:Int),((kN Ms C M).1:Int),(kN Ms C M).2)]) else []
def eL (Ms:List Md) (P:List Cl) (i:Nat) (M:Md) (n:Nat):List Ft:=(List.range n).flatMap fun k=>match P[k]? with
 |none=>[]
 |some C=>mR Ms i k M C
def dU (Ms:List Md) (P:List Cl) (n:Nat):List Ft:=(List.range n).flatMap fun i=>match Ms[i]? with
 |none=>[]
 |some M=>eL Ms P i M P.length
def QR (Ms:List Md) (i k:Nat) (M:Md) (C:Cl):(¬C.h.ind=M.ind→mR Ms i k M C= [])∧(C.h.ind=M.ind→(kN Ms C M).2=0→mR Ms i k M C= [])∧(C.h.ind=M.ind→¬(kN Ms C M).2=0→mR Ms i k M C= [((i:Int),(k:Int),((kN Ms C M).1:Int),(kN Ms C M).2)]):=
 ⟨fun h=>by rw [mR,if_neg h],fun h h2=>by rw [mR,if_pos h,if_pos h2],fun h h2=>by rw [mR,if_pos h,if_neg h2]⟩
def FC {C:Cl} (h:P[k]?=some C):eL Ms P i M (k+1)=eL Ms P i M k++mR Ms i k M C:=by
 unfold eL;rw [yW,pZ];simp [h]
def JH (h:Ms[i]?=some M):dU Ms P (i+1)=dU Ms P i++eL Ms P i M P.length:=by
 unfold dU;rw [yW,pZ];simp [h]
def MO (Ms:List Md) (P:List Cl) (i:Nat) (M:Md) (n:Nat):(eL Ms P i M n).length≤n:=by
 induction n with
 |zero=>simp [eL]
 | succ n ih=>
  cases h:P[n]? with
  |none=>
   unfold eL at ih ⊢;rw [yW,pZ,aI];simp [h];simp at ih;omega
  | some C=>
   rw [FC h,aI];have:(mR Ms i n M C).length≤1:=by
    unfold mR;split
    ·split<;>simp
    ·simp
   omega
def UK (Ms:List Md) (P:List Cl) (n:Nat):(dU Ms P n).length≤n*P.length:=by
 induction n with
 |zero=>simp [dU]
 | succ n ih=>
  rw [iC];cases h:Ms[n]? with
  |none=>
   unfold dU at ih ⊢;rw [yW,pZ,aI];simp [h];simp at ih;omega
  |some M=>
   rw [JH h,aI];have:=MO Ms P n M P.length;omega
def OI:∀{Ms L:List Md} {k:Nat},jN Ms L k=0→∀(j:Nat) M,L[j]?=some M→fU Ms (k+j) M=0
 |_,[],_,_,j,M,h=>by simp at h
 | Ms,A::r,k,h,j,M,hj=>by
  rw [jN] at h;split at h
  ·next h0=>
   cases j with
   |zero=>simp at hj;subst hj;exact h0
   |succ j=>
    have:=OI h j M (by simpa using hj)
    rwa [show k+1+j=k+(j+1) by omega] at this
  ·next h0=>exact absurd h h0
def Fl:∀{P:List Cl},nZ P=0→∀C∈P,C.flt=0:=by
 intro P h C hC;obtain⟨j,hj⟩:=tW hC;have key:∀i,i≤P.length→∀D∈P.take i,D.flt=0:=by
  intro i
  induction i with
  |zero=>simp
  | succ i ih=>
   intro hi D hD;have hx:=aZ (l:=P) (i:=i) (by omega);rw [gK,hx] at hD;rcases bX.1 hD with hD|hD
   ·exact ih (by omega) D hD
   ·simp at hD;subst hD;exact iR fun a1=>a1 (by rw [CK hx (ih (by omega)) a1] at h;exact h)
 exact key P.length (aA _) C (by rw [iP];exact hC)
def GL (h:mO P Ms=0):(∀C∈P,C.flt=0)∧P.length≤300∧MdsOk Ms:=by
 unfold mO at h;split at h
 ·next h0=>exact absurd h h0
 next h0=>
 have h0:kG P=0:=by simpa using h0
 split at h
 ·cases h
 next h3=>
 unfold kG at h0;split at h0
 ·cases h0
 next h4=>
 refine⟨Fl h0,by omega,by omega,fun M hM=>?_⟩;obtain⟨j,hj⟩:=tW hM;have:=OI h j M hj;unfold fU at this;split at this
 ·cases this
 next h5=>
 simp at h5;exact h5.1
def QL (h1:i≤300) (h2:k≤300) (h3:P.length≤300):(dU Ms P i++eL Ms P i M k).length≤100000:=by
 have a:=UK Ms P i;have b:=MO Ms P i M k;have c:i*P.length≤300*300:=oN h1 h3;rw [aI];omega
section
attribute [local go_sem] Heavy.uponW
def ChkP (w:Wo) (F:Int) (L:List Ft) (e:Ending) (w':Wo):Prop:=Bz w w'∧∃v,e= .returned (.tuple #[v,.int .i64 F])∧(F≠0→v= .slice none 0 0)∧(F=0→OutF w.heap.size w' v L)
def If (P:List Cl) (Ms:List Md) (n:Nat) (a b:Option Addr) (c d:Nat) (w:Wo) (hP:ClsV n w P a) (d3:MdsV n w Ms b) (b6:Ms.length≤d) (hn:n≤w.heap.size):
  Cz 8 #[.slice a P.length c,.slice b Ms.length d] w (ChkP w (mO P Ms) (dU Ms P Ms.length)):=by
 have d1:=Ao P Ms n a b c d w hP d3 b6 hn;obtain⟨F,hF⟩:=enm (mO P Ms);obtain⟨R,hR⟩:=enm (dU Ms P Ms.length);have FA:=aside hF;have RA:=aside hR;have a7:=aside3 hP d3 hn;rw [hF] at d1 ⊢;rw [hR];obtain⟨lm,hlm⟩:∃l,Ms.length=l:=⟨_,rfl⟩;obtain⟨lp,hlp⟩:∃l,P.length=l:=⟨_,rfl⟩;have La:=aside2 hlp hlm;rw [hlm,hlp] at d1 ⊢;clear hF hR hP d3 hlm hlp hn b6;go_enter Tryz.func8,Tryz.ntmps8
 by_cases c5:F=0
 case neg=>
  have f1:(F==0)=false:=by simpa using c5
  have f2:(F !=0)=true:=by simpa using c5
  have f3:=aside c5
  go_wp2_with (go_at_call 25;(with_reducible refine d1.mono ?_);rintro e w2 ⟨rfl,a8⟩)
  go_ret2
  exact⟨a8,_,rfl,fun _=>rfl,fun e=>absurd e f3.o⟩
 subst c5;have b2:Aside ((∀C∈P,C.flt=0)∧P.length≤300∧MdsOk Ms):=GL FA.o;have h5:lm≤300:=by have:=b2.o.2.2.1;have:=La.o.2;omega
 have h6:lp≤300:=by have:=b2.o.2.1;have:=La.o.1;omega
 go_upto_region 6 with(go_at_call 25;(with_reducible refine d1.mono ?_);rintro e w2 ⟨rfl,a8⟩)
 have d8:=aside a8;clear d1 a8
 go_loopw [7,22] (fun s7 s wr=>∃(i:Nat) (sv:Value),sv=s7∧s= .int .i64 i∧i≤lm∧OutF w.heap.size wr sv (dU Ms P i)∧Bz w wr) (fun _ s _=>lm-(intOf s).toNat)
 case atStart=>exact⟨0,_,rfl,rfl,aJ _,nD _ _ _ _,d8.o⟩
 case round=>
  obtain⟨wo,rfl⟩:=enr wr;obtain⟨i,s7,rfl,rfl,hi,hO,hbo⟩:=hrel
  by_cases h8:i<lm
  ·obtain⟨M,hM⟩:=egf La.o.2 h8;obtain⟨h0,off,vs,rfl,hg1,hc0,hv⟩:=a7.o.2.1 i M hM;have g4:Aside ((M.io.length:Int)=M.ar):=b2.o.2.2.2 M (aP hM);have f9:=aside hM;have c9:=aside hv;obtain⟨am,cm,rfl,hI,hIl⟩:=hv;have b7:=hc0.below hbo (bG hg1 a7.o.2.2);have b9:Aside (M.ind=(M.nm,M.ar)):=rfl;obtain⟨MM,hMM⟩:∃m,M=m:=⟨_,rfl⟩;rw [hMM] at g4 f9 b9;obtain⟨mn,ma,io⟩:=M;have g3:Aside (MM.nm=mn∧MM.ar=ma):=by show _∧_;rw [←hMM];exact⟨rfl,rfl⟩
   dsimp only at b7 hI hIl c9;rw [hMM] at c9;generalize io.length=li at*;have e0:wo.cell? ⟨h0,off+i*3,none⟩=some (.string mn):=b7 0 _ rfl;have e1:wo.cell? ⟨h0,off+i*3+1,none⟩=some (.int .i64 ma):=b7 1 _ rfl;have e2:wo.cell? ⟨h0,off+i*3+2,none⟩=some (.slice am li cm):=b7 2 _ rfl;have d0:=aC wo (Obj.cells #[.string mn,.int .i64 ma,.slice am li cm] 66);have hq:=aK wo (Obj.cells #[.string mn,.int .i64 ma,.slice am li cm] 66);have c8:=hbo.trans (d0.mono hbo.size);have d6:=eT hO d0 (aA _);obtain⟨wm,hwm⟩:=enm (wo.alloc (Obj.cells #[.string mn,.int .i64 ma,.slice am li cm] 66));have i1:Aside (wm.heap.size=wo.heap.size+1):=by show _=_;rw [←hwm];simp
   rw [hwm] at d0 hq c8 d6;have d5:Aside (∀j,s7.ownBlock=some j→w.heap.size≤j∧j<wo.heap.size):=fun j hj=>hO.lt j hj
   have h2:Aside (Bz w wm∧wm.heap[wo.heap.size]?=some (.cells #[.string mn,.int .i64 ma,.slice am li cm] 66)∧s7.ownBlock≠some wo.heap.size):=⟨c8,hq,fun e=>by have:=(d5.o _ e).2;omega⟩;have d7:Aside (OutF w.heap.size wm s7 (dU Ms P i++eL Ms P i MM 0)):=by
    show OutF _ _ _ _;rw [show eL Ms P i MM 0= [] from rfl,mC];exact d6
   have i6:Aside (w.heap.size≤wo.heap.size):=hbo.size;obtain⟨i4,hi3,hw3⟩:=elt (i:=i) (n:=lm) (by omega) (by omega);have h9:Aside (∀w2 v,OutF w.heap.size w2 v (dU Ms P i++eL Ms P i MM lp)→OutF w.heap.size w2 v (dU Ms P (i+1))):=fun w2 v h=>by rw [JH f9.o,La.o.1];exact h
   clear hO hbo b7 hc0 hg1 hM hI hIl hMM d0 hq c8 d6
   go_upto_region 8 with fail
   clear hwm e0 e1 e2
   go_upto_region 9 with fail
   go_loopw [7,29] (fun s7 s wr=>∃(k:Nat) (sv:Value),sv=s7∧s= .int .i64 k∧k≤lp∧OutF w.heap.size wr sv (dU Ms P i++eL Ms P i MM k)∧Bz w wr∧wr.heap[wo.heap.size]?=some (.cells #[.string mn,.int .i64 ma,.slice am li cm] 66)∧sv.ownBlock≠some wo.heap.size) (fun _ s _=>lp-(intOf s).toNat)
   case atStart=>exact⟨0,_,rfl,rfl,aJ _,d7.o,h2.o⟩
   case round=>
    obtain⟨wi,rfl⟩:=enr wr;obtain⟨k,s7,rfl,rfl,hk,hO,hbi,hkb,hks⟩:=hrel
    by_cases h4:k<lp
    ·obtain⟨C,hC⟩:=egf La.o.1 h4;have f8:Aside (C.flt=0):=b2.o.1 C (aP hC);have h1:=a7.o.1 k C hC;have f7:=aside hC;obtain⟨g0,ofc,vh,vb,rfl,hg,hc,hvh,hvb⟩:=a7.o.1.read hC;have g9:Aside (ClV n w C (lY vh vb C.vars)):=⟨vh,vb,rfl,hvh,hvb⟩;have e4:=hc.below hbi (bG hg a7.o.2.2);obtain⟨CC,hCC⟩:∃m,C=m:=⟨_,rfl⟩;have b4:Aside (∀w2,Bz w w2→CC.h.ind=MM.ind→Cz 27 #[.agg (lY vh vb C.vars).toArray,.agg #[.string mn,.int .i64 ma,.slice am li cm],.slice (some ⟨h0,off,none⟩) lm d] w2 (CfP w2 (kN Ms CC MM))):=fun w2 hb b8=>by
      have:=Ii CC MM Ms n (some ⟨h0,off,none⟩) d w2 (lY vh vb C.vars) [.string mn,.int .i64 ma,.slice am li cm] (by rw [←hCC];exact g9.o.below hb a7.o.2.2) (by rw [←hCC];exact f8.o) (c9.o.below hb a7.o.2.2) g4.o (a7.o.2.1.below hb a7.o.2.2) b2.o.2.2 b8 (aE a7.o.2.2 hb.size);rw [La.o.2] at this;exact this
     rw [hCC] at f7 f8;have b1:=QR Ms i k MM CC;obtain⟨⟨f1,f2⟩,hf⟩:∃r,kN Ms CC MM=r:=⟨_,rfl⟩;rw [hf] at b4 b1;have c3:=FC (Ms:=Ms) (P:=P) (i:=i) (k:=k) (M:=MM) f7.o;obtain⟨ci,hci⟩:∃c,CC.h.ind=c:=⟨_,rfl⟩;have e3:=aside hci;have a4:Aside (C.h.ind=ci):=by show _=_;rw [hCC];exact hci
     clear hci;obtain⟨th,tb,vars⟩:=C;dsimp only at e4 hvh hvb b4 a4;obtain⟨k1,v1,nm1,g1,num1,den1,b3⟩:=th;obtain⟨k2,v2,nm2,g2,num2,den2,args2⟩:=tb;simp only [TmV] at hvh hvb;obtain⟨_,_,a1,c1,rfl,⟨⟨p1,q1,rfl,_⟩,⟨p2,q2,rfl,_⟩⟩,_⟩:=hvh;obtain⟨_,_,a2,c2,rfl,⟨⟨p3,q3,rfl,_⟩,⟨p4,q4,rfl,_⟩⟩,_⟩:=hvb;simp only [Tm.ind] at a4;generalize b3.length=l1,num1.length=n1,den1.length=n2,args2.length=l2,num2.length=n3,den2.length=n4 at*;obtain⟨x0,x1,x2,x3,x4,x5,x6,x7,x8,x9,x10,x11,x12,x13,x14⟩:=sR e4;replace b4:Aside (∀w2,Bz w w2→CC.h.ind=MM.ind→Cz 27 #[.agg (tC k1 v1 nm1 g1 p1 n1 q1 p2 n2 q2 a1 l1 c1 k2 v2 nm2 g2 p3 n3 q3 p4 n4 q4 a2 l2 c2 vars),.agg #[.string mn,.int .i64 ma,.slice am li cm],.slice (some ⟨h0,off,none⟩) lm d] w2 (CfP w2 (f1,f2))):=b4;have dk:Aside (∀w2,Cz 26 #[.agg (tA k1 v1 nm1 g1 p1 n1 q1 p2 n2 q2 a1 l1 c1)] w2 fun e w'=>e= .returned (.agg #[.string nm1,.int .i64 l1])∧Bz w2 w'):=fun w2=>qK k1 v1 nm1 g1 _ _ _ _ _ w2
     obtain⟨B,hB⟩:∃b,decide ((nm1,(l1:Int))=(mn,ma))=b:=⟨_,rfl⟩;have g7:=kX nm1 mn l1 ma;have i2:=lV;have g8:=aside hB;rw [hB] at g7;have f6:Aside (decide (CC.h.ind=MM.ind)=B):=by
      show _=_;rw [e3.o,←a4.o,b9.o,g3.o.1,g3.o.2];exact hB
     have d0:=aC wi (bC k1 v1 nm1 g1 p1 n1 q1 p2 n2 q2 a1 l1 c1 k2 v2 nm2 g2 p3 n3 q3 p4 n4 q4 a2 l2 c2 vars);have hq:=aK wi (bC k1 v1 nm1 g1 p1 n1 q1 p2 n2 q2 a1 l1 c1 k2 v2 nm2 g2 p3 n3 q3 p4 n4 q4 a2 l2 c2 vars);have c7:=hbi.trans (d0.mono hbi.size);have d4:=eT hO d0 (aA _);obtain⟨wc,hwc⟩:=enm (wi.alloc (bC k1 v1 nm1 g1 p1 n1 q1 p2 n2 q2 a1 l1 c1 k2 v2 nm2 g2 p3 n3 q3 p4 n4 q4 a2 l2 c2 vars));have f0:Aside (wc.heap.size=wi.heap.size+1):=by show _=_;rw [←hwc];simp
     rw [hwc] at d0 hq c7 d4;have fa:Aside (∀w2,Bz wc w2→_):=fun(w2:Wo) (hb:Bz wc w2)=>mV ((hb.block wi.heap.size (by have:=f0.o;omega)).trans hq)
     have e7:wc.heap[wo.heap.size]?=some (.cells #[.string mn,.int .i64 ma,.slice am li cm] 66):=(d0.block _ (aM.1 hkb).1).trans hkb;have c0:Aside (wo.heap.size<wc.heap.size):=(aM.1 e7).1;have a0:=aside3 c7 e7 hks;have a3:Aside (∀w2,Bz wc w2→Bz w w2∧w2.heap[wo.heap.size]?=some (.cells #[.string mn,.int .i64 ma,.slice am li cm] 66)∧s7.ownBlock≠some wo.heap.size):=fun w2 hb=>⟨a0.o.1.trans (hb.mono a0.o.1.size),(hb.block _ c0.o).trans a0.o.2.1,a0.o.2.2⟩
     have fm:Aside (∀w2,Bz wc w2→_):=fun(w2:Wo) (hb:Bz wc w2)=>mU (a3.o w2 hb).2.1
     have b0:=aside d4;have f4:Aside (w.heap.size≤wc.heap.size):=a0.o.1.size;obtain⟨i5,hk3,hw4⟩:=elt (i:=k) (n:=lp) (by omega) (by omega);have a6:=aside c3;have a5:Aside _:=b1;have e8:Aside ((dU Ms P i++eL Ms P i MM k).length≤100000):=QL (by omega) (by omega) b2.o.2.1;clear hO hbi e4 hc hg hC hCC h1 d0 hq c7 d4 hB hf c3 b1 hkb hks e7
     go_upto_region 11 with fail
     clear hwc x0 x1 x2 x3 x4 x5 x6 x7 x8 x9 x10 x11 x12 x13 x14;have fd:Bz wc wc.drew:=cU _ _;refine hRp (Bz wc) 5 (Heavy.lights [0,1,3,4] (.one 2 .done)) (by kernel_rfl) (by kernel_rfl) fd ?_;simp only [Heavy.lights,aX,bI,aW,bD]
     (apply hLm;(exact rfl);(exact rfl);(intro c4 hw;go_simp;exact rfl);(go_simp;exact rfl))
     (apply hLm;(exact rfl);(exact rfl);(intro c4 hw;obtain⟨x0,x1,x2,x3,x4,x5,x6,x7,x8,x9,x10,x11,x12,x13,x14⟩:=fa.o c4 hw;go_simp;exact rfl);(go_simp;exact rfl))
     (apply hLm;(exact rfl);(exact rfl);(intro c4 hw;go_simp;exact rfl);(go_simp;exact rfl))
     (apply hLm;(exact rfl);(exact rfl);(intro c4 hw;obtain⟨m0,m1,m2⟩:=fm.o c4 hw;go_simp;exact rfl);(go_simp;exact rfl))
     (apply hOn;(exact rfl);(exact rfl));go_simp
     refine(dk.o _).mono ?_;rintro e wk ⟨rfl,hbk⟩;have ek:Bz wc wk:=fd.trans (hbk.mono fd.size);refine⟨_,rfl,ek,?_⟩
     (refine hNa (by go_simp;exact rfl) ?_)
     apply hPe;show wpList _ _ _ _ _ _;have a9:=aside ek;clear hbk fd ek;cases B
     ·have e9:Aside (OutF w.heap.size wk s7 (dU Ms P i++eL Ms P i MM (k+1))∧Bz w wk∧wk.heap[wo.heap.size]?=some (.cells #[.string mn,.int .i64 ma,.slice am li cm] 66)∧s7.ownBlock≠some wo.heap.size):=by
       show _∧_;rw [a6.o,a5.o.1 (UP f6.o),mC];exact⟨eT b0.o a9.o (aA _),a3.o wk a9.o⟩
      go_wp2;exact⟨⟨k+1,_,rfl,by simp,by omega,e9.o⟩,by simp [intOf];omega⟩
     ·have b8:Aside (CC.h.ind=MM.ind):=by show _=_;exact pV f6.o
      have i0:=pV g8.o;injection i0 with hpe1 hpe2
      obtain rfl:=hpe1.symm;obtain⟨x0,x1,x2,x3,x4,x5,x6,x7,x8,x9,x10,x11,x12,x13,x14⟩:=fa.o wk a9.o;obtain⟨m0,m1,m2⟩:=fm.o wk a9.o;have d2:=b4.o wk (a3.o wk a9.o).1 b8.o;clear g7 i2
      by_cases c6:f2=0
      ·subst c6;have e9:Aside (∀w2,Bz wk w2→OutF w.heap.size w2 s7 (dU Ms P i++eL Ms P i MM (k+1))∧Bz w w2∧w2.heap[wo.heap.size]?=some (.cells #[.string mn,.int .i64 ma,.slice am li cm] 66)∧s7.ownBlock≠some wo.heap.size):=fun w2 hb=>by
        have a8:Bz wc w2:=a9.o.trans (hb.mono a9.o.size);rw [a6.o,a5.o.2.1 b8.o rfl,mC];exact⟨eT b0.o a8 (aA _),a3.o w2 a8⟩
       go_wp2_with (go_at_call 27;(with_reducible refine d2.mono ?_);rintro e w5 ⟨rfl,hb5⟩)
       exact⟨⟨k+1,_,rfl,by simp,by omega,e9.o w5 hb5⟩,by simp [intOf];omega⟩
      ·have g1:(f2==0)=false:=by simpa using c6
       have g2:(f2 !=0)=true:=by simpa using c6
       have e6:=aside c6;have f5:Aside (∀w2,Bz wk w2→Bz wc w2∧OutF w.heap.size w2 s7 (dU Ms P i++eL Ms P i MM k)):=fun w2 hb=>by
        have a8:Bz wc w2:=a9.o.trans (hb.mono a9.o.size);exact⟨a8,eT b0.o a8 (aA _)⟩
       go_upto_region 14 with(go_at_call 27;(with_reducible refine d2.mono ?_);rintro e w5 ⟨rfl,hb5⟩)
       obtain⟨d9,hO6⟩:=f5.o w5 hb5;obtain⟨q1,q2,q3,q4,q5,q6⟩:=hO6.app rfl (aE f4.o d9.size) e8.o i k f1 f2;have q7:∀u∈([.int .i64 i,.int .i64 k,.int .i64 f1,.int .i64 f2]:Lv),u.oneCell'=true:=by simp [Value.oneCell']
       have b5:=aside d9;have i3:Aside _:=q6;clear d9 hO6 hb5 d2 x0 x1 x2 x3 x4 x5 x6 x7 x8 x9 x10 x11 x12 x13 x14 m0 m1 m2 q6
       go_wp2_with (at_builtin;refine gE elFt _ rfl _ _ rfl w.heap.size _ _ _ rfl q1 _ _ _ rfl q2 rfl q7 q3 q4 q5 ?_;intro v7 w7 h7 g5 g6)
       obtain⟨r1,r2,r3⟩:=i3.o v7 w7 h7 g5 g6;have hS:=a3.o w5 b5.o;obtain⟨r4,r5⟩:=r3 wo.heap.size (bG c0.o b5.o.size) hS.2.2;have hL:OutF w.heap.size w7 v7 (dU Ms P i++eL Ms P i MM (k+1))∧Bz w w7∧w7.heap[wo.heap.size]?=some (.cells #[.string mn,.int .i64 ma,.slice am li cm] 66)∧v7.ownBlock≠some wo.heap.size:=by
        rw [a6.o,a5.o.2.2 b8.o e6.o,←fO];exact⟨r1,hS.1.trans (r2.mono (aA _)),r4.trans hS.2.1,r5⟩
       have h3:Aside _:=hL;clear hL r1 r2 r3 r4 r5 hS h7 g5 g6 q1 q2 q3 q4 q5 q7;go_wp2;exact⟨⟨k+1,_,rfl,by simp,by omega,h3.o⟩,by simp [intOf];omega⟩
    ·obtain rfl:k=lp:=by omega
     have hL:=h9.o wi s7 hO;clear hO hkb hks;go_wp2;exact⟨⟨i+1,_,rfl,by simp,by omega,hL,hbi⟩,by simp [intOf];omega⟩
  ·obtain rfl:i=lm:=by omega
   have hL:Aside (ChkP w 0 R (.returned (.tuple #[s7,.int .i64 0])) wo):=⟨hbo,_,rfl,fun h=>absurd rfl h,fun _=>by rw [←RA.o,La.o.2];exact hO⟩;clear hO hbo;go_wp2
   go_ret2
   exact hL.o
end
section
attribute [local go_sem] Heavy.uponW
def Cs (len:Nat) (hb:len≤1000000) (w:Wo):∃w',(Instr.makeSlice 88 (.int .i64 len) (.int .i64 len)).run Tryz.prog w= .ok (.slice (some ⟨w.heap.size,0,none⟩) len len) w'∧OutB w.heap.size w' (.slice (some ⟨w.heap.size,0,none⟩) len len) (List.replicate len false)∧Bz w w':=by
 obtain⟨i0,hi,hz0,hz1,hz2⟩:=lZ inf4;obtain⟨w',h1,h2,h3⟩:=run_make_full (P:=Tryz.prog) w w.heap.size 88 4 i0 (.bool false) 1 Tryz.underlying88 hi hz0 hz1 .i64 .i64 len (by rw [hz2];omega) (by unfold maxLen;omega) (aA _);refine⟨w',h1,?_,⟨h3.os,h3.tape,h3.output,h3.size,fun k hk=>h3.block k hk (by simp)⟩⟩;unfold OutB;have e:(madeCells (Value.cells (.bool false)) (len*1)).toList=(List.replicate len false).map Value.bool:=by
  rw [nE];apply zA;intro j
  by_cases hj:j<len
  ·simp [madeCells,Value.cells,hj,vN,WE]
  ·simp [madeCells,Value.cells,hj,vN,WE]
 rw [e] at h2
 rwa [yZ]
def Jg (C:Cl) (M:Md) (n:Nat) (w:Wo) (vc vm:Lv) (hC:ClV n w C vc) (hF:C.flt=0) (hM:MdV n w M vm) (a3:M.io.length=C.h.args.length) (hn:n≤w.heap.size):
  Cz 41 #[.agg vc.toArray,.agg vm.toArray] w (PutP w (eN C.h.args M.io (List.replicate C.vars.toNat false) C.h.args.length)):=by
 have a8:=qX hF;have d2:=iL a8.1;have d0:=iL a8.2.1;have a6:C.num:=by have:=a8.2.2.1;simpa [Cl.numB] using this
 have a9:0≤C.vars∧C.vars.toNat≤1000000:=by
  have h1:=a6.2;have h2:=(pK [C.h,C.b] []).1;simp only [Tm.nodesL,pY] at h2;unfold Cl.fr at h1;omega
 obtain⟨K0,hK0⟩:∃K,List.replicate C.vars.toNat false=K:=⟨_,rfl⟩;have b4:K0.length=C.vars.toNat:=by rw [←hK0];simp
 have b3:Aside (∀A∈C.h.args,InK K0 A∧A.nodes≤1000000):=fun A hA=>⟨(IF hF b4).1.2 A hA,by have:=AQ hA;have:=OG C.h;omega⟩
 obtain⟨vh,vb,rfl,h1,h2⟩:=hC;obtain⟨am,cm,rfl,hI,hIl⟩:=hM;obtain⟨th,tb,vars⟩:=C;obtain⟨mn,ma,io⟩:=M;dsimp only at hK0 a9 hI hIl a3 b3 h1 h2 ⊢;clear a8 d2 d0 a6 hF;obtain⟨k1,v1,nm1,g1,c0,den1,args⟩:=th;obtain⟨k2,v2,nm2,g2,num2,den2,args2⟩:=tb;simp only [TmV] at h1 h2;obtain⟨_,_,a1,c1,rfl,⟨⟨p1,q1,rfl,_⟩,⟨p2,q2,rfl,_⟩⟩,hS,hbig,_⟩:=h1;obtain⟨_,_,a2,c2,rfl,⟨⟨p3,q3,rfl,_⟩,⟨p4,q4,rfl,_⟩⟩,_⟩:=h2;dsimp only [Tm.args] at a3 b3 ⊢;obtain⟨nv,rfl⟩:∃nv:Nat,vars=nv:=⟨vars.toNat,by omega⟩;rw [zC] at hK0 a9 b4;rw [show List.replicate (nv:Int).toNat false=K0 by rw [zC];exact hK0];obtain⟨R,hR⟩:=enm (eN args io K0 args.length);have RA:=aside hR;rw [hR];have c8:=aside hI;have c9:=aside hS;obtain⟨len,hl⟩:∃l,args.length=l:=⟨_,rfl⟩;have Al:Aside (args.length=len∧io.length=len):=⟨hl,a3.trans hl⟩;rw [hl] at a3 hbig ⊢;rw [a3];have K0l:Aside (K0.length≤1000000):=by show _≤_;omega
 have d4:=a9.2;generalize c0.length=n1,den1.length=n2,args2.length=l2,num2.length=n3,den2.length=n4 at*;clear hS hI hIl a9 hR hl a3;have b0:=aC w (bC k1 v1 nm1 g1 p1 n1 q1 p2 n2 q2 a1 len c1 k2 v2 nm2 g2 p3 n3 q3 p4 n4 q4 a2 l2 c2 (nv:Int));have b1:=aC (w.alloc (bC k1 v1 nm1 g1 p1 n1 q1 p2 n2 q2 a1 len c1 k2 v2 nm2 g2 p3 n3 q3 p4 n4 q4 a2 l2 c2 (nv:Int))) (Obj.cells #[.string mn,.int .i64 ma,.slice am len cm] 66);have hq:=(b1.block w.heap.size (by simp)).trans (aK w (bC k1 v1 nm1 g1 p1 n1 q1 p2 n2 q2 a1 len c1 k2 v2 nm2 g2 p3 n3 q3 p4 n4 q4 a2 l2 c2 (nv:Int)));have hr:=aK (w.alloc (bC k1 v1 nm1 g1 p1 n1 q1 p2 n2 q2 a1 len c1 k2 v2 nm2 g2 p3 n3 q3 p4 n4 q4 a2 l2 c2 (nv:Int))) (Obj.cells #[.string mn,.int .i64 ma,.slice am len cm] 66);rw [cW] at hr;have c7:((w.alloc (bC k1 v1 nm1 g1 p1 n1 q1 p2 n2 q2 a1 len c1 k2 v2 nm2 g2 p3 n3 q3 p4 n4 q4 a2 l2 c2 (nv:Int))).alloc (Obj.cells #[.string mn,.int .i64 ma,.slice am len cm] 66)).heap.size=w.heap.size+2:=by simp
 have b2:=b0.trans (b1.mono b0.size);obtain⟨wb,hwb⟩:=enm ((w.alloc (bC k1 v1 nm1 g1 p1 n1 q1 p2 n2 q2 a1 len c1 k2 v2 nm2 g2 p3 n3 q3 p4 n4 q4 a2 l2 c2 (nv:Int))).alloc (Obj.cells #[.string mn,.int .i64 ma,.slice am len cm] 66));rw [hwb] at b2 hq hr c7;have fa:Aside (∀w2,Bz wb w2→_):=fun(w2:Wo) (hb:Bz wb w2)=>mV ((hb.block w.heap.size (by omega)).trans hq)
 have fm:Aside (∀w2,Bz wb w2→_):=fun(w2:Wo) (hb:Bz wb w2)=>mU ((hb.block (w.heap.size+1) (by omega)).trans hr)
 have bw:Aside (∀w2,Bz wb w2→Bz w w2):=fun w2 hb=>b2.trans (hb.mono b2.size)
 obtain⟨x0,x1,x2,x3,x4,x5,x6,x7,x8,x9,x10,x11,x12,x13,x14⟩:=fa.o wb (aG _ _);clear b0 b1 b2 hq hr c7;obtain⟨w1,hmk,hO1,hb1⟩:=Cs nv d4 wb;rw [hK0] at hO1;have b5:=aside hO1;have b6:=aside hb1;clear hO1 hb1 hK0 b4;show Cz 41 #[.agg (tC k1 v1 nm1 g1 p1 n1 q1 p2 n2 q2 a1 len c1 k2 v2 nm2 g2 p3 n3 q3 p4 n4 q4 a2 l2 c2 (nv:Int)),.agg #[.string mn,.int .i64 ma,.slice am len cm]] w _;go_enter Tryz.func41,Tryz.ntmps41
 go_upto_region 1 with fail
 clear hwb
 go_upto_region 2 with fail
 clear x0 x1 x2 x3 x4 x5 x6 x7 x8 x9 x10 x11 x12 x13 x14 hmk
 go_upto_region 3 with fail
 go_loopw [5,6] (fun s5 s wr=>∃(i:Nat) (sv:Value),sv=s5∧s= .int .i64 i∧i≤len∧OutB wb.heap.size wr sv (eN args io K0 i)∧Bz wb wr) (fun _ s _=>len-(intOf s).toNat)
 case atStart=>exact⟨0,_,rfl,rfl,aJ _,b5.o,b6.o⟩
 case round=>
  obtain⟨wo,rfl⟩:=enr wr;obtain⟨i,s5,rfl,rfl,hi,hO,hbi⟩:=hrel;have a0:Bz w wo:=bw.o wo hbi;obtain⟨x0,x1,x2,x3,x4,x5,x6,x7,x8,x9,x10,x11,x12,x13,x14⟩:=fa.o wo hbi;clear x0 x1 x2 x3 x4 x5 x7 x8 x9 x10 x11 x12 x13 x14;obtain⟨m0,m1,m2⟩:=fm.o wo hbi;clear m0 m1
  by_cases c5:i<len
  ·obtain⟨A,hA⟩:=egf Al.o.1 c5;obtain⟨x,hx⟩:=egf Al.o.2 c5;obtain⟨b,off,va,rfl,hbn,hc,hv⟩:=c9.o.get hA;rw [bT] at hc;obtain⟨gi,oi,rfl,hgi,hci⟩:=c8.o i x hx;have c4:=aside hv;obtain⟨c3,h02⟩:=b3.o A (aP hA);have d1:=MJ A (eN args io K0 i) n _ wo _ _ (TmV.below a0 hn _ _ c4.o) (aE hn a0.size) h02 hO (fun y hy=>by rw [yF];exact c3 y hy) (by rw [yF];exact K0l.o);have b7:Aside (x=1→eN args io K0 (i+1)=dY (eN args io K0 i) A.free):=fun e=>by rw [yE,rE,hA];simp [hx,e]
   have c6:Aside (x≠1→eN args io K0 (i+1)=eN args io K0 i):=fun e=>by rw [yE,rE,hA];simp [hx,e]
   obtain⟨F,hF⟩:=enm (dY (eN args io K0 i) A.free);rw [hF] at d1 b7;obtain⟨k',v',nm',g',b9,den',args'⟩:=A;simp only [TmV] at hv;obtain⟨_,_,a',c',rfl,⟨⟨r1,u1,rfl,_⟩,⟨r2,u2,rfl,_⟩⟩,_⟩:=hv;have a4:b<w.heap.size:=by omega
   have a5:gi<w.heap.size:=by omega
   obtain⟨e0,e1,e2,e3,e4,e5,e6⟩:=qE (w:=w) (w2:=wo) (fun p hp=>a0.cell (hp▸a4)) hc;generalize b9.length=m1',den'.length=m2',args'.length=l' at*;replace d1:Cz 101 #[s5,.agg (tA k' v' nm' g' r1 m1' u1 r2 m2' u2 a' l' c')] _ _:=d1;have ci:=(a0.cell (p:=⟨gi,oi+i,none⟩) a5).trans hci;obtain⟨d5,hi3,hw3⟩:=elt (i:=i) (n:=len) (by omega) (by omega);have a7:=aside2 hO hbi;clear hci hc hA hx hbn a4 hgi a5 c3 h02 a0 hO hbi hF c4
   by_cases b8:x=1
   ·subst b8;have d3:Aside (eN args io K0 (i+1)=F):=b7.o rfl;clear b7 c6
    go_wp2_with (go_at_call 101;(with_reducible refine d1.mono ?_);rintro e w6 ⟨v6,rfl,hO6,hb6⟩)
    have hL:OutB wb.heap.size w6 v6 (eN args io K0 (i+1))∧Bz wb w6:=⟨by rw [d3.o];exact gM hO6 a7.o.2.size,a7.o.2.trans (hb6.mono a7.o.2.size)⟩;go_roundw
    case rel=>exact⟨i+1,_,rfl,by simp,by omega,hL⟩
    case measure=>simp [intOf];omega
   ·have d6:(x==1)=false:=by simpa using b8
    go_wp2_with (go_at_call 101;(with_reducible refine d1.mono ?_);rintro e w6 ⟨v6,rfl,hO6,hb6⟩)
    go_roundw
    case rel=>exact⟨i+1,_,rfl,by simp,by omega,by rw [c6.o b8];exact a7.o⟩
    case measure=>simp [intOf];omega
  ·obtain rfl:i=len:=by omega
   have hL:Aside (PutP w R (.returned s5) wo):=⟨_,rfl,gM (by rw [←RA.o,Al.o.1];exact hO) (by have:=(bw.o wb (aG _ _)).size;exact this),a0⟩;clear hO hbi a0;go_wp2
   go_ret
   exact hL.o
end
section
attribute [local go_sem] Heavy.uponW
open Classical in
def jT (K:List Bool) (L:List Tm) (io:List Int) (n:Nat):Bool:=decide (∀(i:Nat) T,i<n→L[i]?=some T→io[i]?=some 1→cT K T=true)
def Kh (K:List Bool) (L:List Tm) (io:List Int):jT K L io 0=true:=by simp [jT]
def Ki {K:List Bool} {L:List Tm} {io:List Int} {T:Tm} {x:Int} (hT:L[n]?=some T) (hx:io[n]?=some x):jT K L io (n+1)=(jT K L io n&&(!(x==1)||cT K T)):=by
 rw [iS];simp only [jT,rG,aN,gT,zE,Ks];constructor
 ·intro h;refine⟨fun i A hi hA a0=>h i A (by omega) hA a0,?_⟩
  by_cases e:x=1
  ·exact .inr (h n T (by omega) hT (by rw [hx,e]))
  ·exact .inl e
 ·rintro⟨h1,h2⟩ i A hi hA a0;rcases gR i n with h|h
  ·exact h1 i A h hA a0
  ·obtain rfl:i=n:=by omega
   rw [hT] at hA;injection hA with hA
   subst hA;rw [hx] at a0;injection a0 with a0
   rcases h2 with h2|h2
   ·exact absurd a0 h2
   ·exact h2
def Kj (K:List Bool) (L:List Tm) (io:List Int):jT K L io L.length=pT K L io:=by
 rw [iS];simp only [jT,pT,rG];exact⟨fun h i T hT=>h i T (aO.1 hT).1 hT,fun h i T _ hT=>h i T hT⟩
end
end
