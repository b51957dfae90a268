/- Lemmas; no condition. -/
import Derived.Test.YtbdpdeonapmlgaaGreatDoorAo
set_option linter.all false
set_option maxHeartbeats 8000000
set_option maxRecDepth 100000
namespace Go.Proofs.YtbdpdeonapmlgaaGreatDoor
open Go.RowKit Go.Big Go.RowsK Go.MapK
noncomputable section
variable {V:Int→Prop} {f:Int→Int} {K K':List Bool} {Ms:List Md} {P:List Cl} {F:List Int} {x y:Int} {v:Value} {i base k len b r:Nat} {C:Cl} {M:Md} {w:Wo}
section
attribute [local go_sem] Heavy.uponW
def sV (x:Int):Bool:=(x !=1)&&(x !=2)
def lI (Ms:List Md) (i:Nat) (M:Md):Int:=
 if((M.io.length:Int) !=M.ar||M.io.any sV)=true then 1 else if biB M.nm.toList M.ar=true then 8 else if(Ms.take i).any (fun X=>tV X M)=true then 5 else 0
def mF (Ms:List Md):List Md→Nat→Int
 | [],_=>0
 |M::r,i=>if lI Ms i M=0 then mF Ms r (i+1) else lI Ms i M
def lH (P:List Cl) (Ms:List Md):Int:=if kN P≠0 then kN P else if 300<Ms.length then 3 else mF Ms Ms 0
def OI (Ms L:List Md) (k i:Nat) (hi:i≤L.length) (h:∀(j:Nat) M,j<i→L[j]?=some M→lI Ms (k+j) M=0):mF Ms L k=mF Ms (L.drop i) (k+i):=by
 induction i generalizing L k with
 |zero=>rfl
 | succ i ih=>
  cases L with
  |nil=>simp at hi
  |cons a r=>
   have h0:=h 0 a (by omega) rfl;rw [fG] at h0;rw [mF,if_pos h0,ih r (k+1) (by simpa using hi) (fun j M hj hM=>by have:=h (j+1) M (by omega) hM;rwa [show k+1+j=k+(j+1) by omega]),aZ,show k+1+i=k+(i+1) by omega]
def Iy (x:Int) (w:Wo):Cz 73 #[.int .i64 x] w (dJ w (sV x)):=by
 obtain⟨b1,h1⟩:∃b,(x !=1)=b:=⟨_,rfl⟩;obtain⟨b2,h2⟩:∃b,(x !=2)=b:=⟨_,rfl⟩;have hb:sV x=(b1&&b2):=by rw [sV,h1,h2]
 rw [hb];clear hb;go_enter Tryz.func73,Tryz.ntmps73;cases b1<;>cases b2
 all_goals
  go_wp2
  go_ret
  exact⟨rfl,bD _ _⟩
def NF (P:List Cl) (Ms:List Md) (n:Nat) (a b:Option Addr) (c d:Nat) (w:Wo) (hP:ClsV n w P a) (c1:MdsV n w Ms b) (b8:Ms.length≤d) (hn:n≤w.heap.size):
  Cz 25 #[.slice a P.length c,.slice b Ms.length d] w (fun e w'=>e= .returned (.int .i64 (lH P Ms))∧Bz w w'):=by
 have d1:=XK P n w a P.length c rfl hP hn;obtain⟨F,hF⟩:=enm (kN P);obtain⟨R,hR⟩:=enm (lH P Ms);have RA:Aside ((if F≠0 then F else if 300<Ms.length then 3 else mF Ms Ms 0)=R):=by show _=_;rw [←hF,←hR];rfl
 rw [hR];rw [hF] at d1;have c0:=aside c1;obtain⟨len,hl⟩:∃l,Ms.length=l:=⟨_,rfl⟩;rw [hl] at RA b8 ⊢;have Ll:=aside hl;generalize P.length=lp at*;clear hF hR hP c1 hl;go_enter Tryz.func25,Tryz.ntmps25
 by_cases b5:F=0
 case neg=>
  have f1:(F==0)=false:=by simpa using b5
  have f2:(F !=0)=true:=by simpa using b5
  have hR:Aside (R=F):=by show _=_;rw [←RA.o,if_pos b5]
  go_wp2_with (go_at_call 58;(with_reducible refine d1.mono ?_);rintro e w2 ⟨rfl,hb2⟩)
  go_ret
  exact⟨by have e:=hR.o;subst e;rfl,hb2⟩
 subst b5
 by_cases a9:300<len
 case pos=>
  have h3:(300:Int)<(len:Int):=by omega
  have hR:Aside (R=3):=by show _=_;rw [←RA.o];simp [a9]
  go_wp2_with (go_at_call 58;(with_reducible refine d1.mono ?_);rintro e w2 ⟨rfl,hb2⟩)
  go_ret
  exact⟨by have e:=hR.o;subst e;rfl,hb2⟩
 have h3:¬(300:Int)<(len:Int):=by omega
 have RB:Aside (mF Ms Ms 0=R):=by show _=_;rw [←RA.o];simp [a9]
 clear RA
 go_wp2_with (go_at_call 58;(with_reducible refine d1.mono ?_);rintro e w2 ⟨rfl,hb2⟩)
 have b7:=aside hb2;clear d1 hb2
 go_loopw [18] (fun s wr=>∃i:Nat,s= .int .i64 i∧i≤len∧Bz w wr∧Aside (∀(j:Nat) M,j<i→Ms[j]?=some M→lI Ms (0+j) M=0)) (fun s _=>len-(intOf s).toNat)
 case atStart=>exact⟨0,rfl,bX _,b7.o,fun j T hj=>by omega⟩
 case round=>
  obtain⟨wo,rfl⟩:=enr wr;obtain⟨i,rfl,hi,hbo,hall⟩:=hrel
  by_cases c6:i<len
  ·obtain⟨M,hM⟩:=egf Ll.o c6;obtain⟨g1,off,vs,rfl,hg1,hc0,hv⟩:=c0.o i M hM;have c9:=aside hv;obtain⟨am,cm,rfl,hI,hIl⟩:=hv;have a7:=hc0.below hbo (by omega);obtain⟨mn,ma,io⟩:=M;dsimp only at a7 hI hIl;obtain⟨li,hli⟩:∃l,io.length=l:=⟨_,rfl⟩;rw [hli] at a7 hIl;have e0:wo.cell? ⟨g1,off+i*3,none⟩=some (.string mn):=a7 0 _ rfl;have e1:wo.cell? ⟨g1,off+i*3+1,none⟩=some (.int .i64 ma):=a7 1 _ rfl;have e2:wo.cell? ⟨g1,off+i*3+2,none⟩=some (.slice am li cm):=a7 2 _ rfl;have d0:=aC wo (Obj.cells #[.string mn,.int .i64 ma,.slice am li cm] 66);have hq:=aJ wo (Obj.cells #[.string mn,.int .i64 ma,.slice am li cm] 66);have a5:=hbo.trans (d0.mono hbo.size);have a3:=aside a5;have fm:Aside (∀w2,Bz (wo.alloc (Obj.cells #[.string mn,.int .i64 ma,.slice am li cm] 66)) w2→_):=fun(w2:Wo) (hb:Bz (wo.alloc (Obj.cells #[.string mn,.int .i64 ma,.slice am li cm] 66)) w2)=>qY ((hb.block wo.heap.size (by simp)).trans hq)
   have a4:Aside (Cz 72 #[.slice am li cm,.func (.func 73) #[] #[]] (wo.alloc (Obj.cells #[.string mn,.int .i64 ma,.slice am li cm] 66)) (dJ (wo.alloc (Obj.cells #[.string mn,.int .i64 ma,.slice am li cm] 66)) (io.any sV))):=by
    show Calls _ _ _ _ _;have:=SA io sV 73 #[] (enters_of Tryz.func73 (by kernel_rfl) rfl) am cm (wo.alloc (Obj.cells #[.string mn,.int .i64 ma,.slice am li cm] 66)) (fun j x hj=>?_) (by omega) fun x hx w2 hb=>Iy x w2
    ·rw [hli] at this;exact this
    obtain⟨g,o,e,hg,hc⟩:=(hI.below a5 hn) j x hj;exact⟨g,o,e,aR hg (aD hn a5.size),hc⟩
   have b3:Aside (∀w2,Cz 74 #[.agg #[.string mn,.int .i64 ma]] w2 fun e w'=>e= .returned (.bool (biB mn.toList ma))∧Bz w2 w'):=fun w2=>zY mn ma w2
   have a1:Aside (∀w2,Bz (wo.alloc (Obj.cells #[.string mn,.int .i64 ma,.slice am li cm] 66)) w2→Cz 75 #[.slice (some ⟨g1,off,none⟩) i d,.func (.func 76) #[] #[.pointer (some ⟨wo.heap.size,0,none⟩)]] w2 (dJ w2 ((Ms.take i).any fun X=>tV X ⟨mn,ma,io⟩))):=by
    show∀w2,_;intro w2 hb;have b4:=a5.trans (hb.mono a5.size);have c7:(Ms.take i).length=i:=by rw [aX,Ll.o];omega
    have:=RZ (Ms.take i) (fun X=>tV X ⟨mn,ma,io⟩) 76 #[.pointer (some ⟨wo.heap.size,0,none⟩)] (enters_of Tryz.func76 (by kernel_rfl) rfl) n (some ⟨g1,off,none⟩) d w2 ((c0.o.take i).below b4 hn) (aD hn b4.size) (by omega) fun j X hj w3 vs c2 c3=>by
     have a6:=b4.trans (c2.mono b4.size);refine YS X ⟨mn,ma,io⟩ n wo.heap.size am cm w3 vs c3 ?_ (hI.below a6 hn) (aD hn a6.size);rw [hli];exact((hb.trans (c2.mono hb.size)).block wo.heap.size (by simp)).trans hq
    rw [c7] at this;exact this
   obtain⟨B0,hB0⟩:∃b,((li:Int) !=ma)=b:=⟨_,rfl⟩;obtain⟨B1,hB1⟩:∃b,io.any sV=b:=⟨_,rfl⟩;obtain⟨B3,a6⟩:∃b,biB mn.toList ma=b:=⟨_,rfl⟩;obtain⟨B4,hB4⟩:∃b,((Ms.take i).any fun X=>tV X ⟨mn,ma,io⟩)=b:=⟨_,rfl⟩;have hE:Aside (lI Ms (0+i) ⟨mn,ma,io⟩=if(B0||B1)=true then 1 else if B3=true then 8 else if B4=true then 5 else 0):=by
    show _=_;rw [bT,lI,hli,hB0,hB1,a6,hB4]
   rw [hB1] at a4;rw [a6] at b3;rw [hB4] at a1;obtain⟨d3,hi3,hw3⟩:=elt (i:=i) (n:=len) (by omega) (by omega);have b0:=aside hM;have d2:(i:Int)≤(d:Int):=by omega
   have c4:i≤d:=by omega
   have a0:Aside (∀v:Int,lI Ms (0+i) ⟨mn,ma,io⟩=v→v≠0→R=v):=fun v e hv=>by
    have h9:=OI Ms Ms 0 i (by rw [Ll.o];omega) hall.o;obtain⟨c5,hx9⟩:=aM.1 b0.o;rw [iK c5,hx9,mF,e,if_neg hv] at h9;rw [←RB.o,h9]
   have a8:Aside (lI Ms (0+i) ⟨mn,ma,io⟩=0→∀(j:Nat) M,j<i+1→Ms[j]?=some M→lI Ms (0+j) M=0):=fun e j M hj b6=>by
    rcases lR j i with h|h
    ·exact hall.o j M h b6
    ·obtain rfl:j=i:=by omega
     rw [b0.o] at b6;injection b6 with e2;subst e2;exact e
   obtain⟨y0,y1,y2⟩:=fm.o _ (bD _ _);have c8:Aside (Bz (wo.alloc (Obj.cells #[.string mn,.int .i64 ma,.slice am li cm] 66)) (wo.alloc (Obj.cells #[.string mn,.int .i64 ma,.slice am li cm] 66))):=bD _ _;clear hB1 a6 hB4 hM hc0 a7 d0 hq a5 hI hIl hli hbo;cases B0
   case true=>
    have hR:Aside (R=1):=a0.o 1 hE.o (by decide);clear a0 a8 hE
    go_wp2_with (first
    |(go_at_call 72;(with_reducible refine a4.o.mono ?_);rintro e w4 ⟨rfl,hb4⟩;obtain⟨z0,z1,z2⟩:=fm.o w4 hb4))
    go_ret
    exact⟨by have e:=hR.o;subst e;rfl,a3.o⟩
   cases B1
   case true=>
    have hR:Aside (R=1):=a0.o 1 hE.o (by decide);clear a0 a8 hE
    go_wp2_with (first
    |(go_at_call 72;(with_reducible refine a4.o.mono ?_);rintro e w4 ⟨rfl,hb4⟩;obtain⟨z0,z1,z2⟩:=fm.o w4 hb4))
    go_ret
    exact⟨by have e:=hR.o;subst e;rfl,a3.o.trans (hb4.mono a3.o.size)⟩
   cases B3
   case true=>
    have hR:Aside (R=8):=a0.o 8 hE.o (by decide);clear a0 a8 hE
    go_wp2_with (first
    |(go_at_call 72;(with_reducible refine a4.o.mono ?_);rintro e w4 ⟨rfl,hb4⟩;obtain⟨z0,z1,z2⟩:=fm.o w4 hb4)
    |(go_at_call 74;(with_reducible refine(b3.o w4).mono ?_);rintro e w5 ⟨rfl,hb5⟩;have a2:=hb4.trans (hb5.mono hb4.size)))
    go_ret
    exact⟨by have e:=hR.o;subst e;rfl,a3.o.trans (a2.mono a3.o.size)⟩
   cases B4
   case true=>
    have hR:Aside (R=5):=a0.o 5 hE.o (by decide);clear a0 a8 hE
    go_wp2_with (first
    |(go_at_call 72;(with_reducible refine a4.o.mono ?_);rintro e w4 ⟨rfl,hb4⟩;obtain⟨z0,z1,z2⟩:=fm.o w4 hb4)
    |(go_at_call 74;(with_reducible refine(b3.o w4).mono ?_);rintro e w5 ⟨rfl,hb5⟩;have a2:=hb4.trans (hb5.mono hb4.size))
    |(go_at_call 75;(with_reducible refine(a1.o w5 a2).mono ?_);rintro e w6 ⟨rfl,hb6⟩))
    go_ret
    exact⟨by have e:=hR.o;subst e;rfl,a3.o.trans ((a2.trans (hb6.mono a2.size)).mono a3.o.size)⟩
   have b9:Aside (∀(j:Nat) M,j<i+1→Ms[j]?=some M→lI Ms (0+j) M=0):=a8.o hE.o;clear a0 a8 hE
   go_wp2_with (first
    |(go_at_call 72;(with_reducible refine a4.o.mono ?_);rintro e w4 ⟨rfl,hb4⟩;obtain⟨z0,z1,z2⟩:=fm.o w4 hb4)
    |(go_at_call 74;(with_reducible refine(b3.o w4).mono ?_);rintro e w5 ⟨rfl,hb5⟩;have a2:=hb4.trans (hb5.mono hb4.size))
    |(go_at_call 75;(with_reducible refine(a1.o w5 a2).mono ?_);rintro e w6 ⟨rfl,hb6⟩))
   have hL:=a3.o.trans ((a2.trans (hb6.mono a2.size)).mono a3.o.size);go_roundw
   case rel=>exact⟨i+1,by simp,by omega,hL,b9⟩
   case measure=>simp [intOf];omega
  ·obtain rfl:i=len:=by omega
   have hR:Aside (R=0):=by
    show _=_;rw [←RB.o,OI Ms Ms 0 i (by rw [Ll.o];omega) hall.o,tM (rH Ll.o),mF]
   go_wp2
   go_ret
   exact⟨by have e:=hR.o;subst e;rfl,hbo⟩
end
abbrev Ft:=Int × Int × Int × Int
def ftC (f:Ft):Lv:=[.int .i64 f.1,.int .i64 f.2.1,.int .i64 f.2.2.1,.int .i64 f.2.2.2]
def OutF (base:Nat) (w:Wo) (v:Value) (L:List Ft):Prop:=w.ownsRow base 32 4 v L.length (L.flatMap ftC)
def zFt:Value:=.agg #[.int .i64 0,.int .i64 0,.int .i64 0,.int .i64 0]
def elFt:El Tryz.prog 24 32 4 32 zFt:=⟨Tryz.underlying24,by
  obtain⟨i0,h1,h2,h3,h4⟩:=mQ (show(Tryz.prog.info? 32).map (fun i=>(i.zero,i.size,i.bytes))=some (some zFt,4,32) by kernel_rfl);exact⟨i0,h1,h2,h3,h4⟩,rfl,by decide⟩
def QN:∀{L:List Ft} {k:Nat} {f:Ft},L[k]?=some f→(L.flatMap ftC)[k*4]?=some (.int .i64 f.1)∧(L.flatMap ftC)[k*4+1]?=some (.int .i64 f.2.1)∧(L.flatMap ftC)[k*4+2]?=some (.int .i64 f.2.2.1)∧(L.flatMap ftC)[k*4+3]?=some (.int .i64 f.2.2.2)
 | [],_,_,h=>by simp at h
 |J::r,0,I,h=>by
  simp at h;subst h;simp [ftC]
 |J::r,k+1,I,h=>by
  have:=QN (L:=r) (k:=k) (f:=I) (by simpa using h);simp only [pR,ftC];rw [show(k+1)*4=k*4+4 by omega,show k*4+4+1=k*4+1+4 by omega,show k*4+4+2=k*4+2+4 by omega,show k*4+4+3=k*4+3+4 by omega];simpa using this
def OutF.read {L:List Ft} (h:OutF base w v L):∃a c,v= .slice a L.length c∧∀(k:Nat) f,L[k]?=some f→∃g,a=some ⟨g,0,none⟩∧g<w.heap.size∧w.cell? ⟨g,k*4,none⟩=some (.int .i64 f.1)∧w.cell? ⟨g,k*4+1,none⟩=some (.int .i64 f.2.1)∧w.cell? ⟨g,k*4+2,none⟩=some (.int .i64 f.2.2.1)∧w.cell? ⟨g,k*4+3,none⟩=some (.int .i64 f.2.2.2):=by
 obtain⟨a,c,rfl,hr⟩:=iN h;refine⟨a,c,rfl,fun k f hk=>?_⟩;rcases hr with h0|⟨g,e,_,hg,hc⟩
 ·have:=(aM.1 hk).1;omega
 ·obtain⟨h1,h2,h3,h4⟩:=QN hk;exact⟨g,e,hg,hc _ _ h1,hc _ _ h2,hc _ _ h3,hc _ _ h4⟩
def OutF.app {L:List Ft} (h:OutF base w v L) (hl:L.length=len) (hb:base≤w.heap.size) (a3:len≤100000) (i k a q:Int):
  let wx:=w.alloc (.cells #[.int .i64 i,.int .i64 k,.int .i64 a,.int .i64 q] 32)
  wx.ownsRow base 32 4 v len (L.flatMap ftC)∧SrcAt wx (.slice (some ⟨w.heap.size,0,none⟩) 1 1) 1 [.int .i64 i,.int .i64 k,.int .i64 a,.int .i64 q]∧len+1≤maxLen∧(len+1)*32≤140737488355328∧base≤wx.heap.size∧
   ∀v5 w5,w5.ownsRow base 32 4 v5 (len+1) (L.flatMap ftC++ [.int .i64 i,.int .i64 k,.int .i64 a,.int .i64 q])→wx.grownBy w5 v.ownBlock→(v5.ownBlock=v.ownBlock∨v5.ownBlock=some wx.heap.size)→
    OutF base w5 v5 (L++ [(i,k,a,q)])∧Below base w w5∧∀j,j<w.heap.size→v.ownBlock≠some j→w5.heap[j]?=w.heap[j]?∧v5.ownBlock≠some j:=by
 have a0:=aC w (Obj.cells #[.int .i64 i,.int .i64 k,.int .i64 a,.int .i64 q] 32);have a2:=aJ w (Obj.cells #[.int .i64 i,.int .i64 k,.int .i64 a,.int .i64 q] 32);have hO:=gJ h a0 (aA _);subst hl;refine⟨hO,.inr ⟨_,_,rfl,fun t u ht=>?_⟩,by unfold maxLen;omega,by omega,aD hb a0.size,fun v5 w5 h5 hg hv=>⟨?_,(a0.mono hb).trans ⟨hg.os,hg.tape,hg.output,hg.size,fun j hj=>hg.block j (by have:=a0.size;omega) fun e=>?_⟩,fun j hj a1=>⟨(hg.block j (by have:=a0.size;omega) a1.symm).trans (a0.block j hj),?_⟩⟩⟩
 ·rw [jI,bT];simp only [World.cell?,a2];simpa using ht
 ·unfold OutF;rw [aI,tL];simpa [ftC] using h5
 ·have:=(hO.lt j e.symm).1;omega
 ·rcases hv with e|e<;>rw [e]
  ·exact a1
  ·intro e2;injection e2 with e2
   have:=a0.size;omega
def nN (Ms:List Md) (i k:Nat) (M:Md) (C:Cl):List Ft:=if C.h.ind=M.ind then(if(iE Ms C M).2=0 then [] else [((i:Int),(k:Int),((iE Ms C M).1:Int),(iE Ms C M).2)]) else []
def iA (Ms:List Md) (P:List Cl) (i:Nat) (M:Md) (n:Nat):List Ft:=(List.range n).flatMap fun k=>match P[k]? with
 |none=>[]
 |some C=>nN Ms i k M C
def fO (Ms:List Md) (P:List Cl) (n:Nat):List Ft:=(List.range n).flatMap fun i=>match Ms[i]? with
 |none=>[]
 |some M=>iA Ms P i M P.length
def QS (Ms:List Md) (i k:Nat) (M:Md) (C:Cl):(¬C.h.ind=M.ind→nN Ms i k M C= [])∧(C.h.ind=M.ind→(iE Ms C M).2=0→nN Ms i k M C= [])∧(C.h.ind=M.ind→¬(iE Ms C M).2=0→nN Ms i k M C= [((i:Int),(k:Int),((iE Ms C M).1:Int),(iE Ms C M).2)]):=
 ⟨fun h=>by rw [nN,if_neg h],fun h h2=>by rw [nN,if_pos h,if_pos h2],fun h h2=>by rw [nN,if_pos h,if_neg h2]⟩
def LV (h:P[k]?=some C):iA Ms P i M (k+1)=iA Ms P i M k++nN Ms i k M C:=by
 unfold iA;rw [yS,tL];simp [h]
def UQ (h:Ms[i]?=some M):fO Ms P (i+1)=fO Ms P i++iA Ms P i M P.length:=by
 unfold fO;rw [yS,tL];simp [h]
def LW (Ms:List Md) (P:List Cl) (i:Nat) (M:Md) (n:Nat):(iA Ms P i M n).length≤n:=by
 induction n with
 |zero=>simp [iA]
 | succ n ih=>
  cases h:P[n]? with
  |none=>
   unfold iA at ih ⊢;rw [yS,tL,aI];simp [h];simp at ih;omega
  | some C=>
   rw [LV h,aI];have:(nN Ms i n M C).length≤1:=by
    unfold nN;split
    ·split<;>simp
    ·simp
   omega
def UR (Ms:List Md) (P:List Cl) (n:Nat):(fO Ms P n).length≤n*P.length:=by
 induction n with
 |zero=>simp [fO]
 | succ n ih=>
  rw [gY];cases h:Ms[n]? with
  |none=>
   unfold fO at ih ⊢;rw [yS,tL,aI];simp [h];simp at ih;omega
  |some M=>
   rw [UQ h,aI];have:=LW Ms P n M P.length;omega
def OJ:∀{Ms L:List Md} {k:Nat},mF Ms L k=0→∀(j:Nat) M,L[j]?=some M→lI Ms (k+j) M=0
 |_,[],_,_,j,M,h=>by simp at h
 | Ms,A::r,k,h,j,M,hj=>by
  rw [mF] at h;split at h
  ·next h0=>
   cases j with
   |zero=>simp at hj;subst hj;exact h0
   |succ j=>
    have:=OJ h j M (by simpa using hj)
    rwa [show k+1+j=k+(j+1) by omega] at this
  ·next h0=>exact absurd h h0
def Es:∀{P:List Cl},pC P=0→∀C∈P,C.flt=0:=by
 intro P h C hC;obtain⟨j,hj⟩:=JJ hC;have key:∀i,i≤P.length→∀D∈P.take i,D.flt=0:=by
  intro i
  induction i with
  |zero=>simp
  | succ i ih=>
   intro hi D hD;have hx:=bM (l:=P) (i:=i) (by omega);rw [lT,hx] at hD;rcases cG.1 hD with hD|hD
   ·exact ih (by omega) D hD
   ·simp at hD;subst hD;exact oH fun a1=>a1 (by rw [GF hx (ih (by omega)) a1] at h;exact h)
 exact key P.length (aA _) C (by rw [vL];exact hC)
def wY (h:lH P Ms=0):(∀C∈P,C.flt=0)∧P.length≤300∧MdsOk Ms:=by
 unfold lH at h;split at h
 ·next h0=>exact absurd h h0
 next h0=>
 have h0:kN P=0:=by simpa using h0
 split at h
 ·cases h
 next h3=>
 unfold kN at h0;split at h0
 ·cases h0
 next h4=>
 refine⟨Es h0,by omega,by omega,fun M hM=>?_⟩;obtain⟨j,hj⟩:=JJ hM;have:=OJ h j M hj;unfold lI at this;split at this
 ·cases this
 next h5=>
 simp at h5;exact h5.1
def Em (h1:i≤300) (h2:k≤300) (h3:P.length≤300):(fO Ms P i++iA Ms P i M k).length≤100000:=by
 have a:=UR Ms P i;have b:=LW Ms P i M k;have c:i*P.length≤300*300:=rE h1 h3;rw [aI];omega
mutual
def Tm.ren (f:Int→Int):Tm→Tm
 | .mk k v nm g num den args=>.mk k (if k=1 then f v else v) nm g num den (Tm.renL f args)
def Tm.renL (f:Int→Int):List Tm→List Tm
 | []=>[]
 |T::r=>Tm.ren f T::Tm.renL f r
end
def zP (f:Int→Int) (L:List Tm):Tm.renL f L=L.map (Tm.ren f):=by
 induction L with
 |nil=>rfl
 |cons a r ih=>rw [Tm.renL,ih];rfl
def pY (f:Int→Int) (L:List Tm):(Tm.renL f L).length=L.length:=by rw [zP,jE]
def MD (f:Int→Int) (T:Tm):(T.ren f).ind=T.ind:=by
 obtain⟨k,v,nm,g,num,den,args⟩:=T;simp only [Tm.ren,Tm.ind,pY]
def ME (f:Int→Int) (T:Tm):(T.ren f).callB=T.callB:=by
 obtain⟨k,v,nm,g,num,den,args⟩:=T;rfl
def MF (f:Int→Int) (T:Tm):(T.ren f).bi=T.bi:=by
 obtain⟨k,v,nm,g,num,den,args⟩:=T;simp only [Tm.ren,Tm.bi,pY]
def wF (f:Int→Int) (T:Tm):(T.ren f).args=T.args.map (Tm.ren f):=by
 obtain⟨k,v,nm,g,num,den,args⟩:=T;simp only [Tm.ren,Tm.args,zP]
def ZK (f:Int→Int) (L:List Tm):mE (Tm.renL f L)=mE L:=by
 cases L with
 |nil=>rfl
 |cons a r=>rw [Tm.renL,mE,mE,ME,MF]
def MC (f:Int→Int) (T:Tm):(T.ren f).kd=T.kd:=by
 obtain⟨k,v,nm,g,num,den,args⟩:=T;simp only [Tm.ren,Tm.kd,pY,ZK]
def ZL (f:Int→Int) (L:List Tm):mN (L.map (Tm.ren f))=mN L:=by
 cases L with
 |nil=>rfl
 |cons a r=>simp only [fS,mN,MD]
mutual
theorem zN (f:Int→Int):∀T:Tm,(T.ren f).nodes=T.nodes
 | .mk k v nm g num den args=>by simp only [Tm.ren,Tm.nodes,MJ f args]
theorem MJ (f:Int→Int):∀L:List Tm,Tm.nodesL (Tm.renL f L)=Tm.nodesL L
 | []=>rfl
 |T::r=>by simp only [Tm.renL,Tm.nodesL,zN f T,MJ f r]
end
mutual
theorem MB (f:Int→Int):∀T:Tm,(T.ren f).lits=T.lits.map (Tm.ren f)
 | .mk k v nm g num den args=>by
  simp only [Tm.ren,Tm.lits,pY,ML f args];split
  ·rfl
  ·split
   ·rfl
   ·simp [Tm.ren]
theorem ML (f:Int→Int):∀L:List Tm,Tm.litsL (Tm.renL f L)=(Tm.litsL L).map (Tm.ren f)
 | []=>rfl
 |T::r=>by simp only [Tm.renL,Tm.litsL,MB f T,ML f r,oF]
end
mutual
theorem MA (f:Int→Int):∀T:Tm,(T.ren f).litsB=T.litsB
 | .mk k v nm g num den args=>by
  have h:=MC f (.mk k v nm g num den args);simp only [Tm.ren] at h;simp only [Tm.ren,Tm.litsB,pY,MK f args,h]
theorem MK (f:Int→Int):∀L:List Tm,Tm.litsBL (Tm.renL f L)=Tm.litsBL L
 | []=>rfl
 |T::r=>by simp only [Tm.renL,Tm.litsBL,MA f T,MK f r]
end
mutual
theorem EC (f:Int→Int):∀T:Tm,(∀x,T.occ x→0≤f x∧f x≤1073741824)→T.errE=0→(T.ren f).errE=0
 | .mk k v nm g num den args,h,h0=>by
  simp only [Tm.ren,Tm.errE,pY] at h0 ⊢
  by_cases hr:bH k v nm.size g num den args.length=0
  ·rw [if_neg (by simpa using hr)] at h0;have a1:bH k (if k=1 then f v else v) nm.size g num den args.length=0:=by
    by_cases hk:k=1
    ·subst hk;have h1:=h v (by simp [Tm.occ]);unfold bH at hr ⊢
     by_cases hf:eG 1 v nm.size g num den args.length
     ·rw [if_pos hf] at hr;rw [if_pos]
      ·exact hr
      ·rcases hf with h2|h2|h2|h2|h2
       ·refine .inl ⟨rfl,?_,?_,h2.2.2.2⟩
        ·simpa using h1.1
        ·simpa using h1.2
       all_goals exact absurd h2.1 (by decide)
     ·rw [if_neg hf] at hr;exact absurd hr (by decide)
    ·rw [if_neg hk];exact hr
   rw [if_neg (by simpa using a1)];exact MO f args (fun x hx=>h x (by simp only [Tm.occ];exact .inr hx)) h0
  ·rw [if_pos hr] at h0;exact absurd h0 hr
theorem MO (f:Int→Int):∀L:List Tm,(∀x,Tm.occL L x→0≤f x∧f x≤1073741824)→Tm.errL L=0→Tm.errL (Tm.renL f L)=0
 | [],_,_=>rfl
 | T::r,h,h0=>by
  simp only [Tm.renL,Tm.errL] at h0 ⊢
  by_cases hT:T.errE=0
  ·rw [if_neg (by simpa using hT)] at h0;rw [if_neg (by simpa using EC f T (fun x hx=>h x (by simp only [Tm.occL];exact .inl hx)) hT)];exact MO f r (fun x hx=>h x (by simp only [Tm.occL];exact .inr hx)) h0
  ·rw [if_pos hT] at h0;exact absurd h0 hT
end
mutual
theorem tY (f:Int→Int):∀(T:Tm) (y:Int),(T.ren f).occ y↔∃x,T.occ x∧y=f x
 | .mk k v nm g num den args,y=>by
  simp only [Tm.ren,Tm.occ,MI f args];constructor
  ·rintro(⟨rfl,h⟩|⟨x,h1,h2⟩)
   ·exact⟨v,.inl ⟨rfl,rfl⟩,by simpa using h⟩
   ·exact⟨x,.inr h1,h2⟩
  ·rintro⟨x,⟨rfl,rfl⟩|h1,h2⟩
   ·exact .inl ⟨rfl,by simpa using h2⟩
   ·exact .inr ⟨x,h1,h2⟩
theorem MI (f:Int→Int):∀(L:List Tm) (y:Int),Tm.occL (Tm.renL f L) y↔∃x,Tm.occL L x∧y=f x
 | [],y=>by simp [Tm.renL,Tm.occL]
 | T::r,y=>by
  simp only [Tm.renL,Tm.occL,tY f T,MI f r];constructor
  ·rintro(⟨x,h1,h2⟩|⟨x,h1,h2⟩)
   ·exact⟨x,.inl h1,h2⟩
   ·exact⟨x,.inr h1,h2⟩
  ·rintro⟨x,h1|h1,h2⟩
   ·exact .inl ⟨x,h1,h2⟩
   ·exact .inr ⟨x,h1,h2⟩
end
mutual
theorem ren_fr (f:Int→Int):∀(T:Tm) (a0:List Int),(∀x y,(x∈a0∨T.occ x)→(y∈a0∨T.occ y)→f x=f y→x=y)→(T.ren f).fr (a0.map f)=(T.fr a0).map f
 | .mk k v nm g num den args,a0,h=>by
  simp only [Tm.ren,Tm.fr]
  by_cases hk:k=1
  ·subst hk;have hm:f v∈a0.map f↔v∈a0:=by
    rw [cL];constructor
    ·rintro⟨x,hx,e⟩;exact h x v (.inl hx) (.inr (by simp [Tm.occ])) e▸hx
    ·intro hv;exact⟨v,hv,rfl⟩
   simp only [if_true,yG]
   by_cases hv:v∈a0
   ·rw [if_neg (by rw [hm];exact fun h=>h hv),if_neg (fun h=>h hv)];exact wI f args a0 fun x y hx hy=>h x y (hx.imp_right fun hx=>by simp only [Tm.occ];exact .inr hx) (hy.imp_right fun hy=>by simp only [Tm.occ];exact .inr hy)
   ·rw [if_pos (by rw [hm];exact hv),if_pos hv];have:=wI f args (a0++ [v]) fun x y hx hy=>h x y (by
     rcases hx with hx|hx
     ·rcases cG.1 hx with hx|hx
      ·exact .inl hx
      ·simp at hx;subst hx;exact .inr (by simp [Tm.occ])
     ·exact .inr (by simp only [Tm.occ];exact .inr hx)) (by
     rcases hy with hx|hx
     ·rcases cG.1 hx with hx|hx
      ·exact .inl hx
      ·simp at hx;subst hx;exact .inr (by simp [Tm.occ])
     ·exact .inr (by simp only [Tm.occ];exact .inr hx))
    rw [oF] at this;exact this
  ·rw [if_neg (by simp [hk]),if_neg (by simp [hk])];exact wI f args a0 fun x y hx hy=>h x y (hx.imp_right fun hx=>by simp only [Tm.occ];exact .inr hx) (hy.imp_right fun hy=>by simp only [Tm.occ];exact .inr hy)
theorem wI (f:Int→Int):∀(L:List Tm) (a0:List Int),(∀x y,(x∈a0∨Tm.occL L x)→(y∈a0∨Tm.occL L y)→f x=f y→x=y)→Tm.frL (Tm.renL f L) (a0.map f)=(Tm.frL L a0).map f
 | [],a0,_=>rfl
 | T::r,a0,h=>by
  simp only [Tm.renL,Tm.frL];rw [ren_fr f T a0 fun x y hx hy=>h x y (hx.imp_right fun hx=>by simp only [Tm.occL];exact .inl hx) (hy.imp_right fun hy=>by simp only [Tm.occL];exact .inl hy)];have key:∀x,(x∈T.fr a0∨Tm.occL r x)→(x∈a0∨Tm.occL (T::r) x):=fun x hx=>by
   simp only [Tm.occL];rcases hx with hx|hx
   ·rcases(FD T a0 x).1 hx with h|h
    ·exact .inl h
    ·exact .inr (.inl h)
   ·exact .inr (.inr hx)
  exact wI f r (T.fr a0) fun x y hx hy=>h x y (key x hx) (key y hy)
end
variable {L:List Tm} {T h:Tm}
structure RelK (V:Int→Prop) (f:Int→Int) (K K':List Bool):Prop where
 kn:∀x,V x→(KnS K x↔KnS K' (f x))
 lo:∀x,V x→0≤x∧x.toNat<K.length
 hi:∀x,V x→0≤f x∧(f x).toNat<K'.length
 inj:∀x y,V x→V y→f x=f y→x=y
def QG (h:∀x,T.occ x→0≤x):cH K T=true↔∀x,T.occ x→KnS K x:=by
 unfold cH;rw [jG];exact⟨fun h1 x hx=>(KnS_getD (h x hx)).2 (h1 x (kQ.2 hx)),fun h1 x hx=>(KnS_getD (h x (kQ.1 hx))).1 (h1 x (kQ.1 hx))⟩
def RelK.has (h:RelK V f K K') {T:Tm} (hT:∀x,T.occ x→V x):cH K' (T.ren f)=cH K T:=by
 rw [jH,QG (fun x hx=>(h.lo x (hT x hx)).1),QG (fun y hy=>by
  obtain⟨x,hx,rfl⟩:=(tY f T y).1 hy;exact(h.hi x (hT x hx)).1)]
 constructor
 ·intro h1 x hx;exact(h.kn x (hT x hx)).2 (h1 _ ((tY f T _).2 ⟨x,hx,rfl⟩))
 ·intro h1 y hy;obtain⟨x,hx,rfl⟩:=(tY f T y).1 hy;exact(h.kn x (hT x hx)).1 (h1 x hx)
def RelK.put (h:RelK V f K K') {T:Tm} (hT:∀x,T.occ x→V x):RelK V f (fU K T.free) (fU K' (T.ren f).free) where
 kn x hx:=by
  rw [KnS_put (fun y hy=>h.lo y (hT y (kQ.1 hy))),KnS_put (fun y hy=>by
   obtain⟨z,hz,rfl⟩:=(tY f T y).1 (kQ.1 hy);exact h.hi z (hT z hz)),h.kn x hx,kQ,kQ,tY]
  constructor
  ·rintro(h1|h1)
   ·exact .inl h1
   ·exact .inr ⟨x,h1,rfl⟩
  ·rintro(h1|⟨z,hz,e⟩)
   ·exact .inl h1
   ·exact .inr (h.inj x z hx (hT z hz) e▸hz)
 lo x hx:=by rw [zS];exact h.lo x hx
 hi x hx:=by rw [zS];exact h.hi x hx
 inj:=h.inj
def RelK.args (h:RelK V f K K') {L:List Tm} (hL:∀A∈L,∀x,A.occ x→V x) (io:List Int):nX K' (L.map (Tm.ren f)) io=nX K L io:=by
 rw [jH];simp only [nX,IK];constructor
 ·intro h1 i T hi a0;rw [←h.has (hL T (aV hi))];exact h1 i _ (by rw [gO,hi];rfl) a0
 ·intro h1 i T hi a0;rw [gO] at hi;cases hA:L[i]? with
  |none=>rw [hA] at hi;cases hi
  |some A=>
   rw [hA] at hi;simp at hi;subst hi;rw [h.has (hL A (aV hA))];exact h1 i A hA a0
def Jr {α:Type} {p q:α→Bool} {L:List α} (h:∀A∈L,p A=q A):L.any p=L.any q:=by
 induction L with
 |nil=>rfl
 |cons a r ih=>rw [WE,WE,h a (by simp),ih fun A hA=>h A (by simp [hA])]
def Ju {α:Type} {p q:α→Bool} {L:List α} (h:∀A∈L,p A=q A):L.all p=L.all q:=by
 induction L with
 |nil=>rfl
 |cons a r ih=>rw [mX,mX,h a (by simp),ih fun A hA=>h A (by simp [hA])]
def RelK.next (h:RelK V f K K') (Ms:List Md) {T:Tm} (hT:∀x,T.occ x→V x):(cA Ms K' (T.ren f)).1=(cA Ms K T).1∧RelK V f (cA Ms K T).2 (cA Ms K' (T.ren f)).2:=by
 have hA:∀A∈T.args,∀x,A.occ x→V x:=fun A hA x hx=>hT x (ID hA hx)
 have e1:lM K' (T.ren f)=lM K T:=by
  funext M;rw [lM,lM,MD,wF,h.args hA]
 have e2:cH K' (T.ren f)=cH K T:=h.has hT;have e3:(T.ren f).args.any (cH K')=T.args.any (cH K):=by
  rw [wF,List.any_map];refine Jr fun A hm=>?_
  exact h.has (hA A hm)
 have e4:((T.ren f).args.drop 1).all (cH K')=(T.args.drop 1).all (cH K):=by
  rw [wF,←VV,List.all_map];refine Ju fun A hm=>?_
  exact h.has (hA A (rI hm))
 have e5:mN (T.ren f).args=mN T.args:=by rw [wF,ZL]
 unfold cA;rw [MC,e1,e2,e3,e4,e5];split
 ·split
  ·exact⟨rfl,h⟩
  ·exact⟨rfl,h.put hT⟩
 split
 ·split
  ·exact⟨rfl,h⟩
  ·split
   ·exact⟨rfl,h⟩
   ·exact⟨rfl,h⟩
 split
 ·split
  ·exact⟨rfl,h.put hT⟩
  ·exact⟨rfl,h⟩
 split
 ·split
  ·exact⟨rfl,h⟩
  ·exact⟨rfl,h.put hT⟩
 split
 ·split
  ·exact⟨rfl,h⟩
  ·exact⟨rfl,h⟩
 ·exact⟨rfl,h⟩
def okRun (Ms:List Md) (K:List Bool) (L:List Tm) (K2:List Bool):Prop:=fL Ms L 0 K=((L.length,0),K2)
def LQ {V:Int→Prop} {f:Int→Int} (Ms:List Md):∀(L:List Tm) (i:Nat) (K K' K2:List Bool) (r:Nat × Int),RelK V f K K'→(∀T∈L,∀x,T.occ x→V x)→fL Ms L i K=((r.1,0),K2)→∃a1,fL Ms (L.map (Tm.ren f)) i K'=((r.1,0),a1)∧RelK V f K2 a1
 | [],i,K,K',K2,r,h,_,e=>by
  rw [fL] at e;injection e with e1 e2
  injection e1 with e3 e4
  subst e2 e3;exact⟨K',rfl,h⟩
 | T::l,i,K,K',K2,r,h,hV,e=>by
  obtain⟨h1,h2⟩:=h.next Ms (hV T (by simp));rw [fL] at e;rw [fS,fL,h1]
  by_cases h0:(cA Ms K T).1=0
  ·rw [if_pos h0] at e ⊢;exact LQ Ms l (i+1) _ _ K2 r h2 (fun T' a2=>hV T' (by simp [a2])) e
  ·rw [if_neg h0] at e;injection e with e1 e2
   injection e1 with e3 e4
   exact absurd e4 h0
def It (h:RelK V f K K') {L:List Tm} (hL:∀A∈L,∀x,A.occ x→V x) (io:List Int) (i:Nat):RelK V f (pJ L io K i) (pJ (L.map (Tm.ren f)) io K' i):=by
 unfold pJ;rw [gO];cases hA:L[i]? with
 |none=>exact h
 |some A=>
  simp only [rD];split
  ·exact h.put (hL A (aV hA))
  ·exact h
def Is (h:RelK V f K K') {L:List Tm} (hL:∀A∈L,∀x,A.occ x→V x) (io:List Int) (n:Nat):RelK V f (gG L io K n) (gG (L.map (Tm.ren f)) io K' n):=by
 induction n with
 |zero=>exact h
 |succ n ih=>rw [xX,xX];exact It ih hL io n
def dM:List Tm→Tm
 | []=>.mk 3 0 ⟨#[116,114,117,101]⟩ false [] [] []
 | [T]=>T
 |T::U::r=>.mk 5 0 ⟨#[44]⟩ false [] [] [T,dM (U::r)]
def HK:∀L:List Tm,L≠ []→(dM L).nodes+1=Tm.nodesL L+L.length
 | [],h=>absurd rfl h
 | [T],_=>by simp [dM,Tm.nodesL]
 |T::U::r,_=>by
  have:=HK (U::r) (by simp);simp only [dM,Tm.nodes,Tm.nodesL,eW] at this ⊢;omega
def Gv:bH 5 0 (⟨#[44]⟩:ByteArray).size false [] [] 2=0:=by
 unfold bH;rw [if_pos (by unfold eG cZ;simp)];decide
def XE:bH 3 0 (⟨#[116,114,117,101]⟩:ByteArray).size false [] [] 0=0:=by
 unfold bH;rw [if_pos (by unfold eG cZ;simp)];decide
def HL:∀L:List Tm,(∀T∈L,T.errE=0)→(dM L).errE=0
 | [],_=>by
  simp only [dM,Tm.errE,oG];rw [XE];rfl
 | [T],h=>h T (by simp)
 |T::U::r,h=>by
  have h1:=HL (U::r) fun A hA=>h A (by simp at hA ⊢;exact .inr hA)
  have h2:=h T (by simp);simp only [dM,Tm.errE,Tm.errL,eW,oG];exact(if_neg (not_not_intro Gv)).trans (by rw [h1,h2];rfl)
def xW (x:Int):∀L:List Tm,(dM L).occ x↔Tm.occL L x
 | []=>by simp [dM,Tm.occ,Tm.occL]
 | [T]=>by simp [dM,Tm.occL]
 |T::U::r=>by
  have:=xW x (U::r);simp only [dM,Tm.occ,Tm.occL] at this ⊢;rw [this];simp
def TO:∀L:List Tm,(∀T∈L,T.lits= [T])→(dM L).lits=L
 | [],_=>by
  simp only [dM,Tm.lits];rw [if_pos (by simp [nK,tl])]
 | [T],h=>h T (by simp)
 |T::U::r,h=>by
  have h1:=TO (U::r) fun A hA=>h A (by simp at hA ⊢;exact .inr hA)
  have h2:=h T (by simp);simp only [dM,Tm.lits,Tm.litsL];rw [if_neg (by simp [nK]),if_pos (by simp [pB,tl]),h1,h2];simp
mutual
theorem FP:∀T:Tm,Tm.nodesL T.lits+T.lits.length≤T.nodes+1
 | .mk k v nm g num den args=>by
  have h:=OZ args;simp only [Tm.lits,Tm.nodes];split
  ·simp [Tm.nodesL]
  ·split
   ·next h2=>
    have h3:args.length=2:=by simp [pB] at h2;omega
    omega
   ·simp [Tm.nodesL,Tm.nodes]<;>omega
theorem OZ:∀L:List Tm,Tm.nodesL (Tm.litsL L)+(Tm.litsL L).length≤Tm.nodesL L+L.length
 | []=>by simp [Tm.litsL,Tm.nodesL]
 |T::r=>by
  have h1:=FP T;have h2:=OZ r;simp only [Tm.litsL,AD,aI,Tm.nodesL,eW];omega
end
mutual
theorem FN:∀(T x:Tm),x∈T.lits→x.lits= [x]
 | .mk k v nm g num den args,x,h=>by
  simp only [Tm.lits] at h;split at h
  ·cases h
  ·next h1=>
   split at h
   ·exact OX args x h
   ·next h2=>
    simp at h;subst h;simp only [Tm.lits];rw [if_neg h1,if_neg h2]
theorem OX:∀(L:List Tm) (x:Tm),x∈Tm.litsL L→x.lits= [x]
 | [],x,h=>by simp [Tm.litsL] at h
 |T::r,x,h=>by
  simp only [Tm.litsL,cG] at h;rcases h with h|h
  ·exact FN T x h
  ·exact OX r x h
end
mutual
theorem OW:∀(T x:Tm),T.litsB=true→x∈T.lits→x.kd≠0
 | .mk k v nm g num den args,x,hB,h=>by
  simp only [Tm.lits] at h;simp only [Tm.litsB] at hB;split at h
  ·cases h
  ·next h1=>
   rw [if_neg h1] at hB;split at h
   ·next h2=>rw [if_pos h2] at hB;exact PB args x hB h
   ·next h2=>
    rw [if_neg h2] at hB;simp at h;subst h;simpa using hB
theorem PB:∀(L:List Tm) (x:Tm),Tm.litsBL L=true→x∈Tm.litsL L→x.kd≠0
 | [],x,_,h=>by simp [Tm.litsL] at h
 |T::r,x,hB,h=>by
  simp only [Tm.litsL,cG] at h;simp only [Tm.litsBL,aN] at hB;rcases h with h|h
  ·exact OW T x hB.1 h
  ·exact PB r x hB.2 h
end
def PD (h:T.lits= [T]) (hk:T.kd≠0):T.litsB=true:=by
 obtain⟨k,v,nm,g,num,den,args⟩:=T;simp only [Tm.lits] at h;simp only [Tm.litsB];split at h
 ·cases h
 ·next h1=>
  rw [if_neg h1];split at h
  ·next h2=>
   have h3:=(FQ args (.mk k v nm g num den args) (by rw [h];simp)).2;simp only [Tm.nodes] at h3;omega
  ·next h2=>rw [if_neg h2];simpa using hk
def TN:∀L:List Tm,(∀T∈L,T.lits= [T]∧T.kd≠0)→(dM L).litsB=true
 | [],_=>by
  simp only [dM,Tm.litsB];rw [if_pos (by simp [nK,tl])]
 | [T],h=>PD (h T (by simp)).1 (h T (by simp)).2
 |T::U::r,h=>by
  have h1:=TN (U::r) fun A hA=>h A (by simp at hA ⊢;exact .inr hA)
  have h2:=PD (h T (by simp)).1 (h T (by simp)).2;simp only [dM,Tm.litsB,Tm.litsBL];rw [if_neg (by simp [nK]),if_pos (by simp [pB,tl]),h1,h2];rfl
def fC (h:Tm) (L:List Tm):List Int:=Tm.frL [h,dM L] []
def eS (F:List Int) (x:Int):Int:=(F.idxOf x:Nat)
def eI (h:Tm) (L:List Tm):Cl:=⟨h.ren (eS (fC h L)),(dM L).ren (eS (fC h L)),((fC h L).length:Nat)⟩
def qE:x∈fC h L↔h.occ x∨Tm.occL L x:=by
 unfold fC;rw [AK];simp [Tm.occL,xW]
def Bh (h:Tm) (L:List Tm):(fC h L).Nodup:=BS _ _ List.nodup_nil
def AH (hn:F.Nodup) {j:Nat} {x:Int} (h:F[j]?=some x):eS F x=j:=by
 unfold eS;obtain⟨hj,rfl⟩:=aM.1 h;rw [List.Nodup.idxOf_getElem hn]
def OE (hx:x∈F) (hy:y∈F) (e:eS F x=eS F y):x=y:=by
 unfold eS at e;have e2:F.idxOf x=F.idxOf y:=by omega
 have h1:=Kv (VX hx);have h2:=Kv (VX hy);rw [←h1,←h2];congr 1
def OD (hx:x∈F):0≤eS F x∧(eS F x).toNat<F.length:=by
 unfold eS;have:=VX hx;omega
def OF (h:Tm) (L:List Tm):(eI h L).fr=(fC h L).map (eS (fC h L)):=by
 have:=wI (eS (fC h L)) [h,dM L] [] fun x y hx hy e=>OE (qE.2 (by simpa [Tm.occL,xW] using hx)) (qE.2 (by simpa [Tm.occL,xW] using hy)) e
 exact this
def OA {M:List Tm} (h:L.Perm M):Tm.nodesL L=Tm.nodesL M:=by
 induction h with
 |nil=>rfl
 |cons a _ ih=>simp only [Tm.nodesL,ih]
 |swap a b l=>simp only [Tm.nodesL];omega
 |trans _ _ h1 h2=>exact h1.trans h2
def Ap (h:Tm.occL L x):∃T∈L,T.occ x:=by
 induction L with
 |nil=>simp [Tm.occL] at h
 | cons a r ih=>
  simp only [Tm.occL] at h;rcases h with h|h
  ·exact⟨a,by simp,h⟩
  ·obtain⟨T,hT,ho⟩:=ih h;exact⟨T,by simp [hT],ho⟩
def Bj (h0:C.flt=0) {L:List Tm} (hp:L.Perm C.b.lits):(eI C.h L).flt=0:=by
 obtain⟨a1,a2,a3,a4,a5,a6⟩:=sL h0;obtain⟨n1,e1⟩:=lN a1;obtain⟨n2,e2⟩:=lN a2;have a0:∀T∈L,T∈C.b.lits:=fun T hT=>hp.mem_iff.1 hT
 have hN:Tm.nodesL L=Tm.nodesL C.b.lits:=OA hp;have b2:=FP C.b;have b1:=hp.length_eq;have n3:(dM L).nodes≤10000:=by
  by_cases hL:L= []
  ·subst hL;simp [dM,Tm.nodes,Tm.nodesL]
  ·have:=HK L hL;omega
 have hF:(fC C.h L).length≤20000:=by
  have:=(uN [C.h,dM L] []).1;simp only [Tm.nodesL,oG] at this;unfold fC;omega
 have hb:∀x,x∈fC C.h L→0≤eS (fC C.h L) x∧eS (fC C.h L) x≤1073741824:=fun x hx=>by
  have:=OD hx;omega
 have f1:(eI C.h L).h.faultE=0:=by
  show Tm.faultE _=0;unfold Tm.faultE;rw [if_neg (by show¬_<Tm.nodes (Tm.ren _ _);rw [zN];omega)];exact EC _ _ (fun x hx=>hb x (qE.2 (.inl hx))) e1
 have f2:(eI C.h L).b.faultE=0:=by
  show Tm.faultE _=0;unfold Tm.faultE;rw [if_neg (by show¬_<Tm.nodes (Tm.ren _ _);rw [zN];omega)];exact EC _ _ (fun x hx=>hb x (qE.2 (.inr ((xW x L).1 hx)))) (HL L fun T hT=>(AU C.b T (a0 T hT)).1 e2)
 have f3:(eI C.h L).numB=true:=by
  have:(eI C.h L).num:=by
   unfold Cl.num;rw [OF];refine⟨fun j x hj=>?_,by simp [eI]⟩;rw [gO] at hj;cases hx:(fC C.h L)[j]? with
   |none=>rw [hx] at hj;cases hj
   |some y=>
    rw [hx] at hj;simp at hj;rw [←hj];exact AH (Bh _ _) hx
  unfold Cl.numB;simpa using this
 have f4:(eI C.h L).h.callB=true:=(ME _ _).trans a4;have f5:(eI C.h L).h.bi=false:=(MF _ _).trans a5;have f6:(eI C.h L).b.litsB=true:=(MA _ _).trans (TN L fun T hT=>⟨FN C.b T (a0 T hT),OW C.b T a6 (a0 T hT)⟩);unfold Cl.flt;rw [f1,f2,f3,f4,f5,f6];rfl
def Bi (h0:C.flt=0) {L:List Tm} (hp:L.Perm C.b.lits) (Ms:List Md) (M:Md) {K2:List Bool}
  (hr:okRun Ms (gG C.h.args M.io (List.replicate C.vars.toNat false) C.h.args.length) L K2) (hh:cH K2 C.h=true):iE Ms (eI C.h L) M=(0,0):=by
 have a0:∀T∈L,T∈C.b.lits:=fun T hT=>hp.mem_iff.1 hT
 have b0:∀x,Tm.occL L x→C.b.occ x:=fun x hx=>by
  obtain⟨T,hT,ho⟩:=Ap hx;exact FO C.b T x (a0 T hT) ho
 have a8:RelK (fun x=>x∈fC C.h L) (eS (fC C.h L)) (List.replicate C.vars.toNat false) (List.replicate (fC C.h L).length false):={
  kn:=fun x hx=>by rw [KnS_new,KnS_new]
  lo:=fun x hx=>by
   rw [JF];exact ER h0 ((qE.1 hx).imp_right (b0 x))
  hi:=fun x hx=>by rw [JF];exact OD hx
  inj:=fun x y hx hy e=>OE hx hy e }
 have a7:∀A∈C.h.args,∀x,A.occ x→x∈fC C.h L:=fun A hA x hx=>qE.2 (.inl (ID hA hx))
 have h1:=Is a8 a7 M.io C.h.args.length;obtain⟨a9,h2,h3⟩:=LQ Ms L 0 _ _ K2 (L.length,0) h1 (fun T hT x hx=>qE.2 (.inr (EQ hT hx))) hr;have e1:(eI C.h L).b.lits=L.map (Tm.ren (eS (fC C.h L))):=(MB _ _).trans (by rw [TO L fun T hT=>FN C.b T (a0 T hT)]);have e2:(eI C.h L).h.args=C.h.args.map (Tm.ren (eS (fC C.h L))):=wF _ _;have e3:(eI C.h L).vars.toNat=(fC C.h L).length:=rfl;unfold iE;rw [e1,e2,e3,jE,h2];have h4:cH a9 (eI C.h L).h=true:=(h3.has fun x hx=>qE.2 (.inl hx)).trans hh;simp [h4]
section
attribute [local go_sem] Heavy.uponW
def itLen {κ:Type} [DecidableEq κ] {kv:κ→Value} {M D:List (κ × Value)} (h:gH kv w r b M D):mI w r=D.length:=by
 obtain⟨es,clock,seen,h1,h2,h3,ds,h4,h5,_⟩:=h;have e1:=h4.length;have e2:seen.toList.length=(ds.map (·.born)).length:=by rw [h5]
 rw [jE,cU] at e2;simp [mI,h3];omega
def itNext {κ:Type} [DecidableEq κ] {kt:TypeId} {kv:κ→Value} (K:KL Tryz.prog kt kv) {w:Wo} {r b:Nat} {M D:List (κ × Value)} (h:gH kv w r b M D) (ty:TypeId):
  ((∀p∈M,p∈D)∧∃w',(Instr.next (.pointer (some ⟨r,0,none⟩)) false ty).run Tryz.prog w= .ok (.tuple #[.bool false]) w'∧Bz w w')∨
  ∃p∈M,p.1∉D.map (·.1)∧∃w',(Instr.next (.pointer (some ⟨r,0,none⟩)) false ty).run Tryz.prog w= .ok (.tuple #[.bool true,kv p.1,p.2]) w'∧gH kv w' r b M (D++ [p])∧aS (fun k=>k=r) w w'∧w'.heap.size=w.heap.size:=by
 rcases OB K h ty with⟨h1,w',h2,h3⟩|⟨p,hp,hn,w1,o,h3,h2,h4⟩
 ·refine .inl ⟨h1,w',h2,?_⟩;rcases h3 with rfl|rfl
  ·exact bD _ _
  ·exact dO _ _
 ·refine .inr ⟨p,hp,hn,_,h2,h4,?_,?_⟩
  ·have b8:∀k,k≠r→(w1.heap.setIfInBounds r o)[k]?=w1.heap[k]?:=fun k hk=>rK (by omega)
   rcases h3 with rfl|rfl
   ·exact⟨rfl,rfl,rfl,by simp,fun k hk a0=>b8 k a0⟩
   ·exact⟨rfl,rfl,rfl,by simp,fun k hk a0=>(b8 k a0).trans rfl⟩
  ·rcases h3 with rfl|rfl<;>simp
def OG {κ:Type} {D:List (κ × Value)} {p:κ × Value} (h:(D.map (·.1)).Nodup) (hn:p.1∉D.map (·.1)):((D++ [p]).map (·.1)).Nodup:=by
 rw [oF,yT];exact⟨h,by simp,fun a ha b hb e=>by simp at hb;subst hb;subst e;exact hn ha⟩
def Bl {κ:Type} [DecidableEq κ] {M D:List (κ × Value)} {p:κ × Value} (h:(D.map (·.1)).Nodup) (hs:∀q∈D,q∈M) (hp:p∈M) (hn:p.1∉D.map (·.1)):D.length<M.length:=by
 have h1:=OG h hn;have h2:=Go.Proofs.Plain.nodup_sub_len (m:=M.map (·.1)) h1 fun y hy=>by
  obtain⟨q,hq,e⟩:=cL.1 hy;subst e;rcases cG.1 hq with hq|hq
  ·exact cL.2 ⟨q,hs q hq,rfl⟩
  ·simp at hq;subst hq;exact cL.2 ⟨q,hp,rfl⟩
 rw [jE,jE,aI] at h2;simp at h2;omega
def CopyP (w:Wo) (S:Int→Prop) (e:Ending) (w':Wo):Prop:=∃m2,e= .returned (.map (some m2))∧w.heap.size≤m2∧aW w' m2 S∧Bz w w'
def Gr (S:Int→Prop) (mb:Nat) (w:Wo) (hS:aW w mb S):Cz 67 #[.map (some mb)] w (CopyP w S):=by
 obtain⟨M,hM,hMS,hMt⟩:=hS;have c0:=aside2 hMS hMt;have c1:∀w:Wo,(Instr.makeMap 110 none).run Tryz.prog w= .ok (.map (some w.heap.size)) (w.alloc (.map #[] 0)):=fun w=>rfl
 have b1:=aC w (.map #[] 0);have a7:=aW.new w;have a6:=hM.of_block (b1.block mb hM.lt);have a3:=hM.lt;obtain⟨w1,hw1⟩:=enm (w.alloc (.map #[] 0));have b6:w1.heap.size=w.heap.size+1:=by rw [←hw1,cB]
 rw [hw1] at b1 a7 a6;obtain⟨o,hrg,hit⟩:=MW DN a6;have b2:=aC w1 o;have a8:=a7.of_block (b2.block _ (by omega));obtain⟨w2,hw2⟩:=enm (w1.alloc o);have b9:w2.heap.size=w.heap.size+2:=by rw [←hw2,cB,b6]
 rw [hw2] at hrg b2 a8 hit;rw [b6] at hrg hit;have b3:=b1.trans (b2.mono b1.size);have a5:Aside (gH ikv w2 (w.heap.size+1) mb M []∧aW w2 w.heap.size (fun _=>False)∧Bz w w2∧w2.heap.size=w.heap.size+2∧mb<w.heap.size):=⟨hit,a8,b3,b9,a3⟩;clear hit a8 b3 b9 a3 a6 a7 b1 b2 hM hMS hMt b6 hw2;go_enter Tryz.func67,Tryz.ntmps67
 go_upto_region 2 with fail
 clear c1 hw1
 go_upto_region 3 with fail
 clear hrg
 go_loopw [4] (fun s wr=>∃DD:List (Int × Value),gH ikv wr (w.heap.size+1) mb M DD∧(∀p∈DD,p∈M)∧(DD.map (·.1)).Nodup∧aW wr w.heap.size (fun x=>x∈DD.map (·.1))∧Bz w wr) (fun _ wr=>M.length-mI wr (w.heap.size+1))
 case atStart=>exact⟨[],a5.o.1,by simp,by simp,a5.o.2.1.cong fun x=>by simp,a5.o.2.2.1⟩
 case round=>
  obtain⟨wx,rfl⟩:=enr wr;obtain⟨DD,hit,hsub,hnd,hSx,hbx⟩:=hrel;have b0:=itLen hit;have c3:w.heap.size+1<wx.heap.size:=by
   obtain⟨_,_,_,_,_,h,_⟩:=hit;exact(aG.1 h).1
  rcases itNext sG hit 0 with⟨a1,wn,b5,hbn⟩|⟨p,hp,hnin,wn,b5,hitn,hkn,hsn⟩
  ·have a9:Aside (CopyP w S (.returned (.map (some w.heap.size))) wn):=by
    refine⟨_,rfl,aA _,(hSx.of_block (hbn.block _ (by omega))).cong fun x=>?_,hbx.trans (hbn.mono hbx.size)⟩;rw [←c0.o.1 x];constructor
    ·intro h;obtain⟨q,hq,rfl⟩:=cL.1 h;exact cL.2 ⟨q,hsub q hq,rfl⟩
    ·intro h;obtain⟨q,hq,rfl⟩:=cL.1 h;exact cL.2 ⟨q,a1 q hq,rfl⟩
   clear hit hsub hnd hSx hbx b0 a1 hbn;go_wp2
   go_ret
   exact a9.o
  ·obtain⟨x,u⟩:=p;have c4:(Instr.entry (.pointer (some ⟨w.heap.size+1,0,none⟩))).run Tryz.prog wn= .ok (.tuple #[.int .i64 x,u]) wn:=RO hitn;replace b5:(Instr.next (.pointer (some ⟨w.heap.size+1,0,none⟩)) false 0).run Tryz.prog wx= .ok (.tuple #[.bool true,.int .i64 x,u]) wn:=b5;have b4:=Bl hnd hsub hp hnin;have b7:=hSx.of_block (hkn.block w.heap.size (by omega) (by omega));obtain⟨w6,hput,hS6,hk6,hz6⟩:=KnownAt.put b7 x;have a2:=hitn.of_blocks (w':=w6) (hk6.block mb (by have:=a5.o.2.2.2.2;omega) (by have:=a5.o.2.2.2.2;omega)) (hk6.block (w.heap.size+1) (by omega) (by omega));have a4:Aside (gH ikv w6 (w.heap.size+1) mb M (DD++ [(x,u)])∧(∀p∈DD++ [(x,u)],p∈M)∧((DD++ [(x,u)]).map (·.1)).Nodup∧aW w6 w.heap.size (fun y=>y∈(DD++ [(x,u)]).map (·.1))∧Bz w w6):=by
    refine⟨a2,fun q hq=>?_,OG hnd hnin,hS6.cong fun y=>by simp,hbx.trans ((hkn.below (by omega) fun k hk=>by omega).trans (hk6.below (by omega) fun k hk=>by omega))⟩;rcases cG.1 hq with hq|hq
    ·exact hsub q hq
    ·simp at hq;subst hq;exact hp
   have c2:Aside (M.length-mI w6 (w.heap.size+1)<M.length-mI wx (w.heap.size+1)):=by
    show _<_;rw [itLen a4.o.1,b0,aI];simp;omega
   clear hit hsub hnd hSx hbx b0 hitn hkn hsn b4 b7 hS6 hk6 hz6 a2 hp hnin;go_wp2;exact⟨⟨_,a4.o⟩,c2.o⟩
end
section
attribute [local go_sem] Heavy.uponW
def Dl (L:List Tm) (p:Tm→Bool) (f:Nat) (lb:Array Value) (ef:∀args w,(callFunc f args).run Tryz.prog w= .ok (.enter f args) w) (n:Nat) (a:Option Addr) (c:Nat) (w:Wo)
  (hL:bS n w L a 0) (hn:n≤w.heap.size) (hb:L.length≤1000000)
  (hf:∀(j:Nat) T,L[j]?=some T→∀w2 vs,Bz w w2→TmV n w2 T vs→Cz f (#[.agg vs.toArray]++lb) w2 (dJ w2 (p T))):
  Cz 62 #[.slice a L.length c,.func (.func f) #[] lb] w (IntP w (fD p L 0)):=by
 obtain⟨R,hR⟩:=enm (fD p L 0);obtain⟨len,hl⟩:=enm L.length;have a8:=aside hR;have Ll:=aside hl;have b0:=aside hL;have b1:Aside _:=hf;rw [hR,hl];rw [hl] at hb;clear hL hf hR hl;go_enter Tryz.func62,Tryz.ntmps62;go_wp2
 go_loopw [8] (fun s wr=>∃i:Nat,s= .int .i64 i∧i≤len∧Bz w wr∧Aside (∀(j:Nat) x,j<i→L[j]?=some x→p x=false)) (fun s _=>len-(intOf s).toNat)
 case atStart=>exact⟨0,rfl,bX _,bD _ _,fun j x hj=>by omega⟩
 case round=>
  obtain⟨i,rfl,hi,hbr,hall⟩:=hrel
  by_cases b3:i<len
  ·obtain⟨x,hx⟩:=egf Ll.o b3;obtain⟨g1,off,vs,rfl,hg1,hc0,hv⟩:=b0.o.get hx;rw [bT] at hc0;have a0:=b1.o i x hx wr vs hbr (TmV.below hbr hn _ _ hv);have a6:=aside hx;obtain⟨b,hb2⟩:=enm (p x);have a4:=aside hb2;rw [hb2] at a0;obtain⟨X,hX⟩:∃t,x=t:=⟨_,rfl⟩;rw [hX] at a6 a4;clear hX hb2;obtain⟨k',v',nm',g',a7,den',args'⟩:=x;simp only [TmV] at hv;obtain⟨_,_,a',c',rfl,⟨⟨r1,u1,rfl,_⟩,⟨r2,u2,rfl,_⟩⟩,_⟩:=hv;have a9:g1<w.heap.size:=by omega
   obtain⟨e0,e1,e2,e3,e4,e5,e6⟩:=seven (w:=w) (w2:=wr) (fun q hq=>hbr.cell (hq▸a9)) hc0;generalize a7.length=m1',den'.length=m2',args'.length=l' at*;replace a0:Cz f (#[.agg (tA k' v' nm' g' r1 m1' u1 r2 m2' u2 a' l' c')]++lb) wr (dJ wr b):=a0;obtain⟨b4,hi3,hw3⟩:=elt (i:=i) (n:=len) (by omega) (by omega);have a1:=aside hbr;clear hc0 hbr hx hg1 a9;cases b
   ·go_wp2_with (go_at_fn f;(with_reducible refine a0.mono ?_);rintro e w3 ⟨rfl,hb3⟩)
    have a3:Bz w w3:=a1.o.trans (hb3.mono a1.o.size);have a2:Aside (∀(j:Nat) x,j<i+1→L[j]?=some x→p x=false):=fun j x' hj a5=>by
     rcases lR j i with h|h
     ·exact hall.o j x' h a5
     ·obtain rfl:j=i:=by omega
      rw [a6.o] at a5;injection a5 with e;exact e▸a4.o
    go_roundw
    case rel=>exact⟨i+1,by simp,by omega,a3,a2⟩
    case measure=>simp [intOf];omega
   ·obtain rfl:R=i:=by
     rw [←a8.o];rcases uM p L 0 i hall.o with e|e
     ·obtain⟨b2,hx9⟩:=aM.1 a6.o;rw [e,iK b2,fD,hx9,a4.o,if_pos rfl];simp
     ·have:=Ll.o;omega
    go_wp2_with (go_at_fn f;(with_reducible refine a0.mono ?_);rintro e w3 ⟨rfl,hb3⟩)
    have a3:Bz w w3:=a1.o.trans (hb3.mono a1.o.size)
    go_ret
    exact⟨rfl,a3⟩
  ·obtain rfl:i=len:=by omega
   obtain rfl:R= -1:=by
    rw [←a8.o];rcases uM p L 0 i hall.o with e|e
    ·rw [e,tM (rH Ll.o)];rfl
    ·have:=Ll.o;omega
   go_wp2
   go_ret
   exact⟨rfl,hbr⟩
end
end
