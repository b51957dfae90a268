/- Lemmas; no condition. -/
import Derived.Test.YtbdpdeonapmlgaaGreatDoorAq
set_option linter.all false
set_option maxHeartbeats 4000000
set_option maxRecDepth 100000
namespace Go.Proofs.YtbdpdeonapmlgaaGreatDoor
open Go.RowKit Go.Big Go.RowsK Go.MapK
variable {f:Int→Int} {S:Nat→Prop} {args:List Tm} {C C':Array Value} {w wr w' w3:Wo} {V:Int→Prop} {nm a0 b:ByteArray} {den num:List Nat} {p1 r1 a1 a:Option Addr} {g g1:Bool} {mb n q1 u1 c1 l1 gl m1 n1 lo o c l:Nat} {v v1 k:Int} {T A:Tm} {us vs X ts:Lv}
section
attribute [local go_sem] Heavy.uponW
def Fo {b1 o1 b2 o2:Nat} {v:Value} (a3:b1≠b2) (ha:w.cell? ⟨b1,o1,none⟩=some v) (hb:w.heap[b2]?=some (.cells C 48)) (hC:0<C.size):
  (binOp .eql 309 (.pointer (some ⟨b1,o1,none⟩)) (.pointer (some ⟨b2,o2,none⟩))).run Tryz.prog w= .ok (.bool false) w:=by
 obtain⟨i0,hi0,hz0,hz1,hz2⟩:=qU.info;have a5:(b1==b2)=false:=by simpa using a3
 have fb:∀o,w.frozen? ⟨b2,o,none⟩=false:=by intro o;simp [World.frozen?,hb]
 have a8:∃cs t fr,w.heap[b1]?=some (.cells cs t fr):=by
  unfold World.cell? at ha;cases h:w.heap[b1]? with
  |none=>simp [h] at ha
  |some o=>cases o<;>simp [h] at ha<;>exact⟨_,_,_,rfl⟩
 obtain⟨cs,t,fr,hs⟩:=a8;have a9:0<cs.size:=by
  simp [World.cell?,hs] at ha;have:=(aG.1 ha).1;omega
 obtain⟨m1,hm1⟩:∃m,cs.size=m+1:=⟨cs.size-1,by omega⟩;obtain⟨m2,hm2⟩:∃m,C.size=m+1:=⟨C.size-1,by omega⟩;have sa:w.shape? b1=some (t,m1+1):=by simp [World.shape?,hs,hm1]
 have sb:w.shape? b2=some (48,m2+1):=by simp [World.shape?,hb,hm2]
 have a4:(sameAddr ⟨b1,o1,none⟩ ⟨b2,o2,none⟩).run Tryz.prog w= .ok false w:=by
  simp [sameAddr,a5,fb,noView,viewAt,hs,hb,sb,sa,mayBeOne,stringish]
 have h:∀d:Nat,(Op.equalIn (d+1) 309 (.pointer (some ⟨b1,o1,none⟩)) (.pointer (some ⟨b2,o2,none⟩))).run Tryz.prog w= .ok false w:=fun d=>by
  simp [Op.equalIn,dQ Tryz.underlying309,sizeOf,typeInfo,hi0,hz1,a4]
 simp only [binOp];simp [Op.equal,Op.maxDepth,h 9999]
def Fm (a:Addr):(binOp .eql 309 (.pointer (some a)) (.pointer (some a))).run Tryz.prog w= .ok (.bool true) w:=by
 obtain⟨i0,hi0,_⟩:=qU.info;have h:∀d:Nat,(Op.equalIn (d+1) 309 (.pointer (some a)) (.pointer (some a))).run Tryz.prog w= .ok true w:=fun d=>by
  simp [Op.equalIn,dQ Tryz.underlying309,sizeOf,typeInfo,hi0,sameAddr]
 simp only [binOp];simp [Op.equal,Op.maxDepth,h 9999]
def iL (k1 v1 k2 v2:Int) (a1 a2:Option Addr):Bool:=decide (k1=k2∧v1=v2∧(k1=5→a1=a2))
def GE (k1 v1:Int) (a6:ByteArray) (g1:Bool) (p1:Option Addr) (n1 q1:Nat) (r1:Option Addr) (m1 u1:Nat) (a1:Option Addr) (l1 c1:Nat) (k2 v2:Int) (a7:ByteArray) (g2:Bool) (p2:Option Addr) (n2 q2:Nat) (r2:Option Addr) (m2 u2:Nat) (a2:Option Addr) (l2 c2:Nat) (w:Wo)
  (h5:k1=5→k2=5→a6=a7∧l1=l2∧0<l1∧∃b1 o1,a1=some ⟨b1,o1,none⟩∧(a2=some ⟨b1,o1,none⟩∨∃b2 C v,a2=some ⟨b2,0,none⟩∧b1≠b2∧w.cell? ⟨b1,o1,none⟩=some v∧w.heap[b2]?=some (.cells C 48)∧0<C.size)):
  Cz 248 #[.agg (tA k1 v1 a6 g1 p1 n1 q1 r1 m1 u1 a1 l1 c1),.agg (tA k2 v2 a7 g2 p2 n2 q2 r2 m2 u2 a2 l2 c2)] w (dJ w (iL k1 v1 k2 v2 a1 a2)):=by
 obtain⟨wa,hwa,b0,hq,hsa⟩:=ebx w (bA k1 v1 a6 g1 p1 n1 q1 r1 m1 u1 a1 l1 c1);obtain⟨wb,hwb,b1,hq2,hsb⟩:=ebx wa (bA k2 v2 a7 g2 p2 n2 q2 r2 m2 u2 a2 l2 c2);have bA:Aside (Bz w wb):=b0.trans (b1.mono b0.size);obtain⟨x0,x1,x2,x3,x4,x5,x6⟩:=bZ ((b1.block w.heap.size (by omega)).trans hq);obtain⟨y0,y1,y2,y3,y4,y5,y6⟩:=bZ hq2;rw [hsa] at y0 y1 y2 y3 y4 y5 y6;have xA:Aside (∀w2,Bz wb w2→_):=fun(w2:Wo) (hw:Bz wb w2)=>bZ ((hw.block w.heap.size (by omega)).trans ((b1.block w.heap.size (by omega)).trans hq))
 have yA:Aside (∀w2,Bz wb w2→_):=fun(w2:Wo) (hw:Bz wb w2)=>bZ ((hw.block (w.heap.size+1) (by omega)).trans (by rw [←hsa];exact hq2))
 clear hq hq2 b0 b1
 by_cases hk:k1=k2
 case neg=>
  have e1:(k1==k2)=false:=by simpa using hk
  have e2:(k1 !=k2)=true:=by simpa using hk
  have hR:Aside (iL k1 v1 k2 v2 a1 a2=false):=by show _=_;simp [iL,hk]
  clear hk h5;go_enter Tryz.func248,Tryz.ntmps248;go_wp2
  go_ret
  exact⟨by rw [hR.o];rfl,bA.o⟩
 subst hk
 by_cases hv:v1=v2
 case neg=>
  have e1:(v1==v2)=false:=by simpa using hv
  have e2:(v1 !=v2)=true:=by simpa using hv
  have hR:Aside (iL k1 v1 k1 v2 a1 a2=false):=by show _=_;simp [iL,hv]
  clear hv h5;go_enter Tryz.func248,Tryz.ntmps248;go_wp2
  go_ret
  exact⟨by rw [hR.o];rfl,bA.o⟩
 subst hv
 by_cases h:k1=5
 case neg=>
  have e1:(k1==5)=false:=by simpa using h
  have e2:(k1 !=5)=true:=by simpa using h
  have hR:Aside (iL k1 v1 k1 v1 a1 a2=true):=by show _=_;simp [iL,h]
  clear h h5;go_enter Tryz.func248,Tryz.ntmps248
  go_upto_region 3 with fail
  clear x0 x1 x2 x3 x4 x5 x6 y0 y1 y2 y3 y4 y5 y6;refine hRp (Bz wb) 28 (Heavy.lights [0,1,2,3,4,5,6,7,8,9,10,11,12,13,14,15,16,17,18,19,20,21,22,23,24,25,26,27] .done) (by kernel_rfl) (by kernel_rfl) (dO _ _) ?_;simp only [Heavy.lights,bL,bY,aZ,bG]
  (apply hLm;(exact rfl);(exact rfl);(intro a0 hw;go_simp;exact rfl);(go_simp;exact rfl))
  (apply hLm;(exact rfl);(exact rfl);(intro a0 hw;obtain⟨x0,x1,x2,x3,x4,x5,x6⟩:=xA.o a0 hw;obtain⟨y0,y1,y2,y3,y4,y5,y6⟩:=yA.o a0 hw;go_simp;exact rfl);(go_simp;exact rfl))
  iterate 2 ((apply hLm;(exact rfl);(exact rfl);(intro a0 hw;go_simp;exact rfl);(go_simp;exact rfl)))
  iterate 23 ((apply hLk;(exact rfl);(go_simp<;>simp [undef]));(refine hNa (by go_simp;exact rfl) ?_))
  (apply hLm;(exact rfl);(exact rfl);(intro a0 hw;go_simp;exact rfl);(go_simp;exact rfl))
  apply hPe;show wpList _ _ _ _ _ _;go_wp2
  go_ret
  exact⟨by rw [hR.o];rfl,bA.o.trans (dO _ _)⟩
 subst h;obtain⟨rfl,rfl,hl,b1,o1,rfl,hb⟩:=h5 rfl rfl;have b3:0<l1:=hl;clear h5 hl;rcases hb with rfl|⟨b2,C,v,rfl,a3,hc1,hc2,hC⟩
 case inl=>
  have hR:Aside (iL 5 v1 5 v1 (some ⟨b1,o1,none⟩) (some ⟨b1,o1,none⟩)=true):=by show _=_;simp [iL]
  have eA:Aside (∀w2:Wo,(binOp .eql 309 (.pointer (some ⟨b1,o1,none⟩)) (.pointer (some ⟨b1,o1,none⟩))).run Tryz.prog w2= .ok (.bool true) w2):=fun w2=>Fm _
  go_enter Tryz.func248,Tryz.ntmps248
  go_upto_region 3 with fail
  clear x0 x1 x2 x3 x4 x5 x6 y0 y1 y2 y3 y4 y5 y6;refine hRp (Bz wb) 28 (Heavy.lights [0,1,2,3,4,5,6,7,8,9,10,11,12,13,14,15,16,17,18,19,20,21,22,23,24,25,26,27] .done) (by kernel_rfl) (by kernel_rfl) (dO _ _) ?_;simp only [Heavy.lights,bL,bY,aZ,bG]
  (apply hLm;(exact rfl);(exact rfl);(intro a0 hw;go_simp;exact rfl);(go_simp;exact rfl))
  (apply hLm;(exact rfl);(exact rfl);(intro a0 hw;obtain⟨x0,x1,x2,x3,x4,x5,x6⟩:=xA.o a0 hw;obtain⟨y0,y1,y2,y3,y4,y5,y6⟩:=yA.o a0 hw;go_simp;exact rfl);(go_simp;exact rfl))
  iterate 2 ((apply hLm;(exact rfl);(exact rfl);(intro a0 hw;go_simp;exact rfl);(go_simp;exact rfl)))
  (apply hLs;(exact rfl);(go_simp);(intro a0 hw;go_simp;exact rfl));(refine hNa (by go_simp;exact rfl) ?_)
  (apply hLs;(exact rfl);(go_simp);(intro a0 hw;obtain⟨x0,x1,x2,x3,x4,x5,x6⟩:=xA.o a0 hw;obtain⟨y0,y1,y2,y3,y4,y5,y6⟩:=yA.o a0 hw;go_simp;exact rfl));(refine hNa (by go_simp;exact rfl) ?_)
  iterate 2 ((apply hLs;(exact rfl);(go_simp);(intro a0 hw;go_simp;exact rfl));(refine hNa (by go_simp;exact rfl) ?_))
  (apply hLs;(exact rfl);(go_simp);(intro a0 hw;obtain⟨x0,x1,x2,x3,x4,x5,x6⟩:=xA.o a0 hw;obtain⟨y0,y1,y2,y3,y4,y5,y6⟩:=yA.o a0 hw;go_simp;exact rfl));(refine hNa (by go_simp;exact rfl) ?_)
  (apply hLs;(exact rfl);(go_simp);(intro a0 hw;go_simp;exact rfl));(refine hNa (by go_simp;exact rfl) ?_)
  (apply hLs;(exact rfl);(go_simp);(intro a0 hw;have e0:=eA.o a0;go_simp;exact rfl));(refine hNa (by go_simp;exact rfl) ?_)
  iterate 2 ((apply hLs;(exact rfl);(go_simp);(intro a0 hw;go_simp;exact rfl));(refine hNa (by go_simp;exact rfl) ?_))
  (apply hLs;(exact rfl);(go_simp);(intro a0 hw;obtain⟨x0,x1,x2,x3,x4,x5,x6⟩:=xA.o a0 hw;obtain⟨y0,y1,y2,y3,y4,y5,y6⟩:=yA.o a0 hw;go_simp;exact rfl));(refine hNa (by go_simp;exact rfl) ?_)
  (apply hLs;(exact rfl);(go_simp);(intro a0 hw;go_simp;exact rfl));(refine hNa (by go_simp;exact rfl) ?_)
  (apply hLs;(exact rfl);(go_simp);(intro a0 hw;obtain⟨x0,x1,x2,x3,x4,x5,x6⟩:=xA.o a0 hw;obtain⟨y0,y1,y2,y3,y4,y5,y6⟩:=yA.o a0 hw;go_simp;exact rfl));(refine hNa (by go_simp;exact rfl) ?_)
  iterate 4 ((apply hLs;(exact rfl);(go_simp);(intro a0 hw;go_simp;exact rfl));(refine hNa (by go_simp;exact rfl) ?_))
  (apply hLs;(exact rfl);(go_simp);(intro a0 hw;obtain⟨x0,x1,x2,x3,x4,x5,x6⟩:=xA.o a0 hw;obtain⟨y0,y1,y2,y3,y4,y5,y6⟩:=yA.o a0 hw;go_simp;exact rfl));(refine hNa (by go_simp;exact rfl) ?_)
  iterate 2 ((apply hLs;(exact rfl);(go_simp);(intro a0 hw;go_simp;exact rfl));(refine hNa (by go_simp;exact rfl) ?_))
  (apply hLs;(exact rfl);(go_simp);(intro a0 hw;obtain⟨x0,x1,x2,x3,x4,x5,x6⟩:=xA.o a0 hw;obtain⟨y0,y1,y2,y3,y4,y5,y6⟩:=yA.o a0 hw;go_simp;exact rfl));(refine hNa (by go_simp;exact rfl) ?_)
  iterate 3 ((apply hLs;(exact rfl);(go_simp);(intro a0 hw;go_simp;exact rfl));(refine hNa (by go_simp;exact rfl) ?_))
  (apply hLm;(exact rfl);(exact rfl);(intro a0 hw;go_simp;exact rfl);(go_simp;exact rfl))
  apply hPe;show wpList _ _ _ _ _ _;go_wp2
  go_ret
  exact⟨by rw [hR.o];rfl,bA.o.trans (dO _ _)⟩
 have hR:Aside (iL 5 v1 5 v1 (some ⟨b1,o1,none⟩) (some ⟨b2,0,none⟩)=false):=by show _=_;simp [iL,a3]
 have eA:Aside (∀w2,Bz wb w2→(binOp .eql 309 (.pointer (some ⟨b1,o1,none⟩)) (.pointer (some ⟨b2,0,none⟩))).run Tryz.prog w2= .ok (.bool false) w2):=fun w2 hw=>Fo a3 (((bA.o.trans (hw.mono bA.o.size)).cell (p:=⟨b1,o1,none⟩) (GZ hc1)).trans hc1) (((bA.o.trans (hw.mono bA.o.size)).block b2 (aG.1 hc2).1).trans hc2) hC
 clear a3 hc1 hc2 hC;go_enter Tryz.func248,Tryz.ntmps248
 go_upto_region 3 with fail
 clear x0 x1 x2 x3 x4 x5 x6 y0 y1 y2 y3 y4 y5 y6;refine hRp (Bz wb) 28 (Heavy.lights [0,1,2,3,4,5,6,7,8,9,10,11,12,13,14,15,16,17,18,19,20,21,22,23,24,25,26,27] .done) (by kernel_rfl) (by kernel_rfl) (dO _ _) ?_;simp only [Heavy.lights,bL,bY,aZ,bG]
 (apply hLm;(exact rfl);(exact rfl);(intro a0 hw;go_simp;exact rfl);(go_simp;exact rfl))
 (apply hLm;(exact rfl);(exact rfl);(intro a0 hw;obtain⟨x0,x1,x2,x3,x4,x5,x6⟩:=xA.o a0 hw;obtain⟨y0,y1,y2,y3,y4,y5,y6⟩:=yA.o a0 hw;go_simp;exact rfl);(go_simp;exact rfl))
 iterate 2 ((apply hLm;(exact rfl);(exact rfl);(intro a0 hw;go_simp;exact rfl);(go_simp;exact rfl)))
 (apply hLs;(exact rfl);(go_simp);(intro a0 hw;go_simp;exact rfl));(refine hNa (by go_simp;exact rfl) ?_)
 (apply hLs;(exact rfl);(go_simp);(intro a0 hw;obtain⟨x0,x1,x2,x3,x4,x5,x6⟩:=xA.o a0 hw;obtain⟨y0,y1,y2,y3,y4,y5,y6⟩:=yA.o a0 hw;go_simp;exact rfl));(refine hNa (by go_simp;exact rfl) ?_)
 iterate 2 ((apply hLs;(exact rfl);(go_simp);(intro a0 hw;go_simp;exact rfl));(refine hNa (by go_simp;exact rfl) ?_))
 (apply hLs;(exact rfl);(go_simp);(intro a0 hw;obtain⟨x0,x1,x2,x3,x4,x5,x6⟩:=xA.o a0 hw;obtain⟨y0,y1,y2,y3,y4,y5,y6⟩:=yA.o a0 hw;go_simp;exact rfl));(refine hNa (by go_simp;exact rfl) ?_)
 (apply hLs;(exact rfl);(go_simp);(intro a0 hw;go_simp;exact rfl));(refine hNa (by go_simp;exact rfl) ?_)
 (apply hLs;(exact rfl);(go_simp);(intro a0 hw;have e0:=eA.o a0 hw;go_simp;exact rfl));(refine hNa (by go_simp;exact rfl) ?_)
 (apply hLs;(exact rfl);(go_simp);(intro a0 hw;go_simp;exact rfl));(refine hNa (by go_simp;exact rfl) ?_)
 iterate 5 ((apply hLk;(exact rfl);(go_simp<;>simp [undef]));(refine hNa (by go_simp;exact rfl) ?_))
 iterate 2 ((apply hLs;(exact rfl);(go_simp);(intro a0 hw;go_simp;exact rfl));(refine hNa (by go_simp;exact rfl) ?_))
 iterate 7 ((apply hLk;(exact rfl);(go_simp<;>simp [undef]));(refine hNa (by go_simp;exact rfl) ?_))
 (apply hLs;(exact rfl);(go_simp);(intro a0 hw;go_simp;exact rfl));(refine hNa (by go_simp;exact rfl) ?_)
 (apply hLm;(exact rfl);(exact rfl);(intro a0 hw;go_simp;exact rfl);(go_simp;exact rfl))
 apply hPe;show wpList _ _ _ _ _ _;go_wp2
 go_ret
 exact⟨by rw [hR.o];rfl,bA.o.trans (dO _ _)⟩
end
section
attribute [local go_sem] Heavy.uponW
def KF {S:Nat→Prop} {n:Nat} {w:Wo} {b off:Nat} (hS:∀k,S k→k<n):∀(L:List Tm) (i:Nat),cX S w L (some ⟨b,off,none⟩) i→∃X,TsX n w L X∧(∀(j:Nat) u,X[j]?=some u→w.cell? ⟨b,off+i*7+j,none⟩=some u)∧∀(j:Nat) A,L[j]?=some A→∃vs,TmS S w A vs∧∀(m:Nat) u,vs[m]?=some u→X[j*7+m]?=some u
 | [],_,_=>⟨[],by simp only [TsX],by simp,by simp⟩
 | T::r,i,h=>by
  simp only [cX] at h;obtain⟨⟨b',off',vs,e,hb,hc,hv⟩,hr⟩:=h;injection e with e
  injection e with e1 e2
  subst e1 e2;obtain⟨Y,h1,h2,h3⟩:=KF hS r (i+1) hr;have hl:=hv.len;refine⟨vs++Y,by simp only [TsX];exact⟨vs,Y,rfl,TmS.toV hS _ _ hv,h1⟩,fun j u hj=>?_,fun j A hj=>?_⟩
  ·rcases lR j 7 with h7|h7
   ·rw [dW (by omega)] at hj;exact hc j u hj
   ·rw [dK (by omega),hl] at hj;have:=h2 _ _ hj
    rwa [show off+(i+1)*7+(j-7)=off+i*7+j by omega] at this
  ·cases j with
   |zero=>
    simp at hj;subst hj;refine⟨vs,hv,fun m u hm=>?_⟩;have:=(aM.1 hm).1;rw [dW (by omega),show 0*7+m=m by omega,hm]
   |succ j=>
    obtain⟨us,h4,h5⟩:=h3 j A (by simpa using hj);refine⟨us,h4,fun m u hm=>?_⟩;rw [dK (by omega),hl,show(j+1)*7+m-7=j*7+m by omega];exact h5 m u hm
def LS (hl:us.length=7) (ho:o+7≤C.size):
  (C.toList.take o++us++C.toList.drop (o+7)).toArray.size=C.size∧(∀j,j<o∨o+7≤j→(C.toList.take o++us++C.toList.drop (o+7)).toArray[j]?=C[j]?)∧(∀(m:Nat) u,us[m]?=some u→(C.toList.take o++us++C.toList.drop (o+7)).toArray[o+m]?=some u):=by
 have hs:C.toList.length=C.size:=cU;have ht:(C.toList.take o).length=o:=by rw [aX];omega
 refine⟨by simp;omega,fun j hj=>?_,fun m u hm=>?_⟩
 ·rw [JI];rcases hj with hj|hj
  ·rw [dW (by rw [aI];omega),dW (by omega),iY hj,gP]
  ·rw [dK (by rw [aI];omega),jF,aI,ht,hl,show o+7+(j-(o+7))=j by omega,gP]
 ·have a0:=(aM.1 hm).1;rw [JI,dW (by rw [aI];omega),dK (by omega),ht,show o+m-o=m by omega,hm]
def VarC (x:Int):Value:=.agg #[.int .i64 1,.int .i64 x,.string ⟨#[]⟩,.bool false,.slice none 0 0,.slice none 0 0,.slice none 0 0]
def kK (f:Int→Int) (V:Int→Prop) (w:Wo) (mb:Nat):Prop:=∃M,aQ ikv w mb M∧∀x,V x→aL x M=some (VarC (f x))
def kK.lt (h:kK f V w mb):mb<w.heap.size:=by
 obtain⟨M,h,_⟩:=h;exact h.lt
def kK.of_block (h:kK f V w mb) (e:w'.heap[mb]?=w.heap[mb]?):kK f V w' mb:=by
 obtain⟨M,h1,h2⟩:=h;exact⟨M,h1.of_block e,h2⟩
def kK.below (h:kK f V w mb) (hb:Bz w w'):kK f V w' mb:=h.of_block (hb.block mb h.lt)
def kK.look (h:kK f V w mb) {x:Int} (hx:V x):(Instr.lookup 204 (.map (some mb)) (.int .i64 x) true).run Tryz.prog w= .ok (.tuple #[VarC (f x),.bool true]) w:=by
 obtain⟨M,h1,h2⟩:=h;have:=Cm sG Tryz.underlying204 (fun w=>Tryz.zeroValue48 w) h1 x;rw [h2 x hx] at this;exact this
def YC (h:b.size=0):b=⟨#[]⟩:=by
 obtain⟨⟨l⟩⟩:=b;have:l= []:=gI h;rw [this]
def ZH (h:Tm.errE (.mk 1 v nm g num den args)=0):nm=⟨#[]⟩∧g=false∧num= []∧den= []∧args= []:=by
 have h1:=(xM h).1;unfold bH at h1;split at h1
 ·next hf=>
  rcases hf with hf|hf|hf|hf|hf
  ·obtain⟨_,_,_,h2,h3,h4⟩:=hf;have h5:=gI h4;simp [cZ] at h3;exact⟨YC h2,h3.1,h3.2.1,h3.2.2,h5⟩
  all_goals exact absurd hf.1 (by decide)
 ·exact absurd h1 (by decide)
def LX (h:Tm.errE (.mk k v nm g num den args)=0):(k=5→0<args.length∧args.length≤32)∧(k≠5→args= []):=by
 have h1:=(xM h).1;unfold bH at h1;split at h1
 ·next hf=>
  rcases hf with hf|hf|hf|hf|hf
  ·exact⟨fun e=>by omega,fun _=>gI hf.2.2.2.2.2⟩
  ·exact⟨fun e=>by omega,fun _=>gI hf.2.2.2.1⟩
  ·exact⟨fun e=>by omega,fun _=>gI hf.2.2.2⟩
  ·exact⟨fun e=>by omega,fun _=>gI hf.2.2.2⟩
  ·exact⟨fun e=>hf.2.2.2,fun e=>absurd hf.1 e⟩
 ·exact absurd h1 (by decide)
def LZ (h1:k=1→f v=v) (h2:∀A∈args,A.ren f=A):Tm.ren f (.mk k v nm g num den args)= .mk k v nm g num den args:=by
 have e:args.map (Tm.ren f)=args:=by
  conv=>rhs;rw [←List.map_id args]
  exact Kt h2
 rw [Tm.ren,zP,e]
 by_cases hk:k=1
 ·rw [if_pos hk,h1 hk]
 ·rw [if_neg hk]
def SubP (f:Int→Int) (T:Tm) (S:Nat→Prop) (w:Wo) (ts:Lv) (e:Ending) (w':Wo):Prop:=
 ∃us b,e= .returned (.agg us.toArray)∧TmS (fun b=>S b∨(w.heap.size≤b∧b<w'.heap.size)) w' (T.ren f) us∧Bz w w'∧(b=true→T.ren f=T)∧∀w2,Bz w' w2→Cz 248 #[.agg ts.toArray,.agg us.toArray] w2 (dJ w2 b)
def SubOk (f:Int→Int) (T:Tm):Prop:=∀(V:Int→Prop) (S:Nat→Prop) (n mb:Nat) (w:Wo) (ts:Lv),(∀b,S b→b<n)→TmS S w T ts→n≤w.heap.size→kK f V w mb→(∀x,T.occ x→V x)→T.errE=0→Cz 197 #[.agg ts.toArray,.map (some mb)] w (SubP f T S w ts)
end
section
attribute [local go_sem] Heavy.uponW
def sub_un {k1:Int} (e1:num.length=n1) (e2:den.length=m1) (e3:args.length=l1)
  (hS:∀b,S b→b<n) (a4:TmS S w (.mk k1 v1 a0 g1 num den args) [.int .i64 k1,.int .i64 v1,.string a0,.bool g1,.slice p1 n1 q1,.slice r1 m1 u1,.slice a1 l1 c1]) (hn:n≤w.heap.size) (hE:Tm.errE (.mk k1 v1 a0 g1 num den args)=0) (hr:Tm.ren f (.mk k1 v1 a0 g1 num den args)= .mk k1 v1 a0 g1 num den args) (hb:Bz w w3):
  SubP f (.mk k1 v1 a0 g1 num den args) S w [.int .i64 k1,.int .i64 v1,.string a0,.bool g1,.slice p1 n1 q1,.slice r1 m1 u1,.slice a1 l1 c1] (.returned (.agg (tA k1 v1 a0 g1 p1 n1 q1 r1 m1 u1 a1 l1 c1))) w3:=by
 have hT:=TmS.toV hS _ _ a4;refine⟨[.int .i64 k1,.int .i64 v1,.string a0,.bool g1,.slice p1 n1 q1,.slice r1 m1 u1,.slice a1 l1 c1],true,rfl,?_,hb,fun _=>hr,fun w2 a6=>?_⟩
 ·rw [hr];exact TmS.mono (fun b hb=>.inl hb) _ _ (TmS.keep (fun b h=>hb.block b (aR (hS b h) hn)) _ _ a4)
 ·have h0:=GE k1 v1 a0 g1 p1 n1 q1 r1 m1 u1 a1 l1 c1 k1 v1 a0 g1 p1 n1 q1 r1 m1 u1 a1 l1 c1 w2 (fun h5 _=>by
   have hl:=((LX hE).1 h5).1;obtain⟨A,hA⟩:∃A,args[0]?=some A:=⟨args[0]'hl,bM _⟩;simp only [TmV] at hT;obtain⟨_,_,_,_,e,_,hS,_⟩:=hT;injection e with _ e;injection e with _ e;injection e with _ e;injection e with _ e;injection e with _ e;injection e with _ e;injection e with e _;injection e with e _ _
   subst e;obtain⟨b,off,_,e,_⟩:=hS.get hA;exact⟨rfl,rfl,by omega,b,off,e,.inl e⟩)
  have e:iL k1 v1 k1 v1 a1 a1=true:=by simp [iL]
  rw [e] at h0;exact h0
def XQ 
  (hE:Tm.errE (.mk 1 v1 a0 g1 num den args)=0) (hb:Bz w w3):
  SubP f (.mk 1 v1 a0 g1 num den args) S w [.int .i64 1,.int .i64 v1,.string a0,.bool g1,.slice p1 n1 q1,.slice r1 m1 u1,.slice a1 l1 c1] (.returned (VarC (f v1))) w3:=by
 obtain⟨rfl,rfl,rfl,rfl,rfl⟩:=ZH hE;refine⟨[.int .i64 1,.int .i64 (f v1),.string ⟨#[]⟩,.bool false,.slice none 0 0,.slice none 0 0,.slice none 0 0],iL 1 v1 1 (f v1) a1 none,rfl,?_,hb,fun h=>?_,fun w2 a6=>?_⟩
 ·simp only [Tm.ren,Tm.renL,TmS,cX,if_true];exact⟨none,0,none,0,none,0,rfl,⟨by simp,fun h=>absurd rfl h⟩,⟨by simp,fun h=>absurd rfl h⟩,trivial,by simp,by simp,by simp⟩
 ·refine LZ (fun _=>?_) (by simp);simp [iL] at h;exact h.symm
 ·exact GE 1 v1 _ _ _ _ _ _ _ _ _ _ _ 1 (f v1) _ _ _ _ _ _ _ _ _ _ _ w2 (fun h=>absurd h (by decide))
def XR {ab ao cap:Nat} (e1:num.length=n1) (e2:den.length=m1) (e3:args.length=l1)
  (hS:∀b,S b→b<n) (a4:TmS S w (.mk 5 v1 a0 g1 num den args) [.int .i64 5,.int .i64 v1,.string a0,.bool g1,.slice p1 n1 q1,.slice r1 m1 u1,.slice (some ⟨ab,ao,none⟩) l1 c1]) (hn:n≤w.heap.size) (hl:0<l1) (hb:Bz w w3) (h1:w.heap.size≤gl) (hq:w3.heap[gl]?=some (.cells C 48))
  (a5:∀(j:Nat) A,args[j]?=some A→∃vs,vs.length=7∧(∀(m:Nat) u,vs[m]?=some u→C[j*7+m]?=some u)∧TmS (fun b=>S b∨(w.heap.size≤b∧b<w3.heap.size)) w3 (A.ren f) vs):
  SubP f (.mk 5 v1 a0 g1 num den args) S w [.int .i64 5,.int .i64 v1,.string a0,.bool g1,.slice p1 n1 q1,.slice r1 m1 u1,.slice (some ⟨ab,ao,none⟩) l1 c1] (.returned (.agg #[.int .i64 5,.int .i64 v1,.string a0,.bool g1,.slice p1 n1 q1,.slice r1 m1 u1,.slice (some ⟨gl,0,none⟩) l1 cap])) w3:=by
 subst e1 e2 e3;have a8:=(aG.1 hq).1;have hT:=TmS.toV hS _ _ a4;have a7:=TmS.keep (fun b h=>hb.block b (aR (hS b h) hn)) _ _ a4;simp only [TmS] at a7;obtain⟨_,_,_,_,_,_,e,h3,h4,_,h6,h7,h8⟩:=a7;injection e with _ e;injection e with _ e;injection e with _ e;injection e with _ e;injection e with e5 e;injection e with e6 e
 injection e5 with e5 _ _
 injection e6 with e6 _ _
 subst e5 e6;refine⟨[.int .i64 5,.int .i64 v1,.string a0,.bool g1,.slice p1 num.length q1,.slice r1 den.length u1,.slice (some ⟨gl,0,none⟩) args.length cap],false,rfl,?_,hb,(fun h=>by cases h),fun w2 a6=>?_⟩
 ·simp only [Tm.ren,TmS];refine⟨p1,q1,r1,u1,some ⟨gl,0,none⟩,cap,by rw [pY];rfl,h3.mono fun b hb=>.inl hb,h4.mono fun b hb=>.inl hb,?_,by rw [pY];exact h6,h7,h8⟩;refine zC (.inr ⟨h1,a8⟩) _ 0 fun k T hk=>?_
  rw [zP,gO] at hk;cases hA:args[k]? with
  |none=>rw [hA] at hk;cases hk
  |some A=>
   rw [hA] at hk;simp at hk;subst hk;obtain⟨vs,_,h5,h9⟩:=a5 k A hA;refine⟨vs,fun m u hm=>?_,h9⟩;have:=h5 m u hm;simp [World.cell?,hq,this]
 ·obtain⟨A,hA⟩:∃A,args[0]?=some A:=⟨args[0]'hl,bM _⟩;simp only [TmV] at hT;obtain⟨_,_,_,_,e,_,hS,_⟩:=hT;injection e with _ e;injection e with _ e;injection e with _ e;injection e with _ e;injection e with _ e;injection e with _ e;injection e with e _;injection e with e _ _
  subst e;obtain⟨b,off,vs,e,hbn,hc,hv⟩:=hS.get hA;injection e with e
  injection e with e e'
  subst e e';have b3:=hv.len;have a9:=hc 0 (vs[0]'(by omega)) (bM _);have hC:0<C.size:=by
   obtain⟨us,hu7,h5,_⟩:=a5 0 A hA;have:=(aG.1 (h5 0 (us[0]'(by omega)) (bM _))).1;omega
  have b2:=hb.trans (a6.mono hb.size);have h0:=GE 5 v1 a0 g1 p1 num.length q1 r1 den.length u1 (some ⟨ab,ao,none⟩) args.length c1 5 v1 a0 g1 p1 num.length q1 r1 den.length u1 (some ⟨gl,0,none⟩) args.length cap w2 (fun _ _=>
   ⟨rfl,rfl,hl,ab,ao,rfl,.inr ⟨gl,C,vs[0]'(by omega),rfl,by omega,by rw [b2.cell (p:=⟨ab,ao,none⟩) (by show ab<_;omega)];exact a9,(a6.block gl a8).trans hq,hC⟩⟩)
  have e:iL 5 v1 5 v1 (some ⟨ab,ao,none⟩) (some ⟨gl,0,none⟩)=false:=by
   have:ab≠gl:=by omega
   simp [iL,this]
  rw [e] at h0;exact h0
def SubP.seven {e:Ending} (h:SubP f T S w ts e w'):∃k3 v3 a2 g3 p3 n3 q3 r3 m3 u3 a3 l3 c3 b,e= .returned (.agg (tA k3 v3 a2 g3 p3 n3 q3 r3 m3 u3 a3 l3 c3))∧Aside (TmS (fun b=>S b∨(w.heap.size≤b∧b<w'.heap.size)) w' (T.ren f) [.int .i64 k3,.int .i64 v3,.string a2,.bool g3,.slice p3 n3 q3,.slice r3 m3 u3,.slice a3 l3 c3]∧(b=true→T.ren f=T))∧Bz w w'∧Aside (∀w2,Bz w' w2→Cz 248 #[.agg ts.toArray,.agg (tA k3 v3 a2 g3 p3 n3 q3 r3 m3 u3 a3 l3 c3)] w2 (dJ w2 b)):=by
 obtain⟨us,b,rfl,h1,h2,h3,h4⟩:=h;have h0:=h1;obtain⟨T',hT'⟩:∃t,T.ren f=t:=⟨_,rfl⟩;rw [hT'] at h0;obtain⟨k,v,nm,g,num,den,args⟩:=T';simp only [TmS] at h0;obtain⟨_,_,_,_,_,_,rfl,_⟩:=h0;exact⟨_,_,_,_,_,_,_,_,_,_,_,_,_,b,rfl,⟨h1,h3⟩,h2,h4⟩
def TmV.seven (h:TmV n w T vs):∃k3 v3 a2 g3 p3 n3 q3 r3 m3 u3 a3 l3 c3,vs= [.int .i64 k3,.int .i64 v3,.string a2,.bool g3,.slice p3 n3 q3,.slice r3 m3 u3,.slice a3 l3 c3]:=by
 obtain⟨k,v,nm,g,num,den,args⟩:=T;simp only [TmV] at h;obtain⟨_,_,a1,c1,rfl,⟨⟨p1,q1,rfl,_⟩,⟨r1,u1,rfl,_⟩⟩,_⟩:=h;exact⟨_,_,_,_,_,_,_,_,_,_,_,_,_,rfl⟩
def TmS.seven (h:TmS S w T vs):∃k3 v3 a2 g3 p3 n3 q3 r3 m3 u3 a3 l3 c3,vs= [.int .i64 k3,.int .i64 v3,.string a2,.bool g3,.slice p3 n3 q3,.slice r3 m3 u3,.slice a3 l3 c3]:=by
 obtain⟨k,v,nm,g,num,den,args⟩:=T;simp only [TmS] at h;obtain⟨_,_,_,_,_,_,rfl,_⟩:=h;exact⟨_,_,_,_,_,_,_,_,_,_,_,_,_,rfl⟩
def TmS.argsS {x0 x1 x2 x3 x4 x5:Value} (h:TmS S w (.mk k v nm g num den args) [x0,x1,x2,x3,x4,x5,.slice a l c]):cX S w args a 0:=by
 simp only [TmS] at h;obtain⟨_,_,_,_,_,_,e,_,_,h,_⟩:=h;injection e with _ e;injection e with _ e;injection e with _ e;injection e with _ e;injection e with _ e;injection e with _ e;injection e with e _;injection e with e _ _
 rw [e];exact h
def cX.get {S:Nat→Prop} {w:Wo} {a:Option Addr}:∀{L:List Tm} {i k:Nat} {T:Tm},cX S w L a i→L[k]?=some T→∃b off vs,a=some ⟨b,off,none⟩∧S b∧(∀(j:Nat) u,vs[j]?=some u→w.cell? ⟨b,off+(i+k)*7+j,none⟩=some u)∧TmS S w T vs
 | [],_,_,_,_,hk=>by simp at hk
 |U::r,i,0,T,h,hk=>by
  simp at hk;subst hk;simp only [cX] at h;exact h.1
 |U::r,i,k+1,T,h,hk=>by
  simp only [cX] at h;have:=cX.get h.2 (show r[k]?=some T by simpa using hk)
  rwa [show i+1+k=i+(k+1) by omega] at this
def RowQ (f:Int→Int) (args:List Tm) (S:Nat→Prop) (lo gl k:Nat) (wr:Wo) (C:Array Value):Prop:=∀(j:Nat) A,args[j]?=some A→∃vs,vs.length=7∧(∀(m:Nat) u,vs[m]?=some u→C[j*7+m]?=some u)∧(j<k→TmS (fun b=>b≠gl∧(S b∨lo≤b)∧b<wr.heap.size) wr (A.ren f) vs)∧(k≤j→TmS S wr A vs)
def RowQ.keep {k:Nat} {w2:Wo} (h:RowQ f args S lo gl k wr C) (hk:Same (fun b=>b≠gl∧(S b∨lo≤b)∧b<wr.heap.size) wr w2) (hs:wr.heap.size≤w2.heap.size) (hS:∀b,S b→b<n) (hn:n≤gl) (b1:n≤wr.heap.size):RowQ f args S lo gl k w2 C:=fun j A hA=>by
 obtain⟨vs,h1,h2,h3,h4⟩:=h j A hA;refine⟨vs,h1,h2,fun hj=>?_,fun hj=>?_⟩
 ·exact TmS.mono (fun b hb=>⟨hb.1,hb.2.1,aR hb.2.2 hs⟩) _ _ (TmS.keep hk _ _ (h3 hj))
 ·exact TmS.keep (fun b hb=>hk b ⟨by have:=hS b hb;omega,.inl hb,by have:=hS b hb;omega⟩) _ _ (h4 hj)
def RowQ.put {k:Nat} (h:RowQ f args S lo gl k wr C) (hA:args[k]?=some A) (hu:TmS (fun b=>b≠gl∧(S b∨lo≤b)∧b<wr.heap.size) wr (A.ren f) us)
  (h1:∀j,j<k*7∨k*7+7≤j→C'[j]?=C[j]?) (h2:∀(m:Nat) u,us[m]?=some u→C'[k*7+m]?=some u):RowQ f args S lo gl (k+1) wr C':=fun j B hB=>by
 by_cases e:j=k
 ·subst e;rw [hA] at hB;obtain rfl:=aK hB;exact⟨us,hu.len,h2,fun _=>hu,fun hj=>by omega⟩
 ·obtain⟨vs,h3,h4,h5,h6⟩:=h j B hB;refine⟨vs,h3,fun m u hm=>?_,fun hj=>h5 (by omega),fun hj=>h6 (by omega)⟩;have b0:=(aM.1 hm).1;rw [h1 _ (by omega)];exact h4 m u hm
def RowQ.start {k:Nat} (hS:∀b,S b→b<n) (hX:∀(j:Nat) A,args[j]?=some A→∃vs,TmS S w A vs∧∀(m:Nat) u,vs[m]?=some u→X[j*7+m]?=some u) (hl:args.length=l1) (ht:C.toList.take (l1*7)=X) (hb:Bz w wr) (hn:n≤w.heap.size) (hg:n≤gl) (hs:∀(j:Nat) A,j<k→args[j]?=some A→A.ren f=A):RowQ f args S lo gl k wr C:=fun j A hA=>by
 obtain⟨vs,h1,h2⟩:=hX j A hA;have h3:=TmS.keep (fun b h=>hb.block b (aR (hS b h) hn)) _ _ h1;refine⟨vs,h1.len,fun m u hm=>?_,fun hj=>?_,fun _=>h3⟩
 ·have:=h2 m u hm;rw [←ht,vQ] at this;split at this
  ·rwa [gP] at this
  ·cases this
 ·rw [hs j A hj hA];have:=hb.size;exact TmS.mono (fun b hb=>⟨by have:=hS b hb;omega,.inl hb,by have:=hS b hb;omega⟩) _ _ h3
end
