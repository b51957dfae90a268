/- Lemmas; no condition. -/
import Derived.Test.YtealgacfnbbgdaaGreatDoorAb
import Derived.Laws.BytesArg
import Derived.Laws.Strings
import Derived.Lib.SliceRun
set_option linter.all false
set_option maxHeartbeats 2000000
set_option maxRecDepth 100000
namespace Go.Proofs.YtealgacfnbbgdaaGreatDoor
open Go.RowKit Go.Big
variable {w w':Wo} {S S':Nat→Prop} {a:Option Addr} {fr:Nat × Nat} {D L cur A C:List Nat} {sv r v s1 s2:Value} {e:TypeId} {cs:Array Value} {base n m b g i M k:Nat}
section
attribute [local go_sem] Heavy.uponW
def fF (neg:Bool) (A C:List Nat):Int:=
 if 128<A.length∨128<C.length then 3
 else if C= []∨C.getLast?=some 0∨A.getLast?=some 0 then 2
 else if val 4294967296 A=0∧(neg=true∨val 4294967296 C≠1) then 2
 else if Nat.gcd (val 4294967296 A) (val 4294967296 C)≠1 then 2
 else 0
def JL (w:Wo):cM (w.heap.size+1) (w.alloc (Obj.cells #[.int .i64 1] 3)) (.slice (some ⟨w.heap.size,0,none⟩) 1 1) 1:=by
 have hn:=sK w [iv 1] 3 (0,0);refine⟨_,[1],1,rfl,aA _,by unfold maxLen;omega,⟨by simp,fun _=>⟨w.heap.size,0,rfl,by omega,fun j x hx=>?_⟩⟩,by intro x hx;simp at hx;omega,by simp [val]⟩;rcases j with _|j
 ·simp at hx;subst hx;exact hn 0 (iv 1) rfl
 ·simp at hx
def Fk (neg:Bool) (a1 a2:Option Addr) (a0 a7 a9 b0 n:Nat) (A C:List Nat) (e5:A.length=a0) (e6:C.length=a7) (g9:a0<4611686018427387904) (c0:a7<4611686018427387904) (w:Wo) (hn:n≤w.heap.size) (h1:dL n w a1 A) (h2:dL n w a2 C):
  Cz 125 #[.agg #[.bool neg,.slice a1 a0 a9,.slice a2 a7 b0]] w fun e w'=>e= .returned (.int .i64 (fF neg A C))∧Bz w w':=by
 by_cases h0:128<a0
 ·have hv:fF neg A C=3:=by unfold fF;rw [if_pos (.inl (by omega))]
  rw [hv];have e2:(128:Int)<(a0:Int):=by omega
  go_enter Tryz.func125,Tryz.ntmps125;go_wp2
  go_ret
  exact⟨rfl,aC _ _⟩
 by_cases h3:128<a7
 ·have hv:fF neg A C=3:=by unfold fF;rw [if_pos (.inr (by omega))]
  rw [hv];have e2:¬(128:Int)<(a0:Int):=by omega
  have f3:(128:Int)<(a7:Int):=by omega
  go_enter Tryz.func125,Tryz.ntmps125;go_wp2
  go_ret
  exact⟨rfl,aC _ _⟩
 have e2:¬(128:Int)<(a0:Int):=by omega
 have f3:¬(128:Int)<(a7:Int):=by omega
 by_cases f7:a7=0
 ·have hv:fF neg A C=2:=by
   unfold fF;rw [if_neg (by omega),if_pos (.inl (mE (by omega)))]
  rw [hv];subst f7;go_enter Tryz.func125,Tryz.ntmps125;go_wp2
  go_ret
  exact⟨rfl,aC _ _⟩
 obtain⟨k2,rfl⟩:∃k2,a7=k2+1:=⟨a7-1,by omega⟩;obtain⟨y,hy⟩:∃y,C[k2]?=some y:=⟨C[k2],cE (by omega)⟩;have a5:C.getLast?=some y:=by rw [wN,e6,yR];exact hy
 have d5:C≠ []:=by rintro rfl;simp at e6
 obtain⟨b2,o2,rfl,hbn2,hyl,hcy⟩:=h2.get hy;have g5:IntKind.i64.wrap ((k2:Int)+1-1)=(k2:Int):=by rw [eF];omega
 have f9:(k2:Int)<(k2:Int)+1:=by omega
 have e4:(0:Int)≤(k2:Int):=by omega
 have e7:((k2:Int)+1==0)=false:=by simp;omega
 have d9:∀o,(w.alloc o).cell? ⟨b2,o2+k2,none⟩=some (.int .u32 y):=fun o=>((aC w o).cell (p:=⟨b2,o2+k2,none⟩) (by show b2<_;omega)).trans hcy
 by_cases d6:y=0
 ·have hv:fF neg A C=2:=by
   unfold fF;rw [if_neg (by omega),if_pos (.inr (.inl (by rw [a5,d6])))]
  rw [hv];subst d6;clear a5;go_enter Tryz.func125,Tryz.ntmps125;go_wp2
  go_ret
  exact⟨rfl,aC _ _⟩
 have g6:((y:Int)==0)=false:=by simp;omega
 clear hcy
 by_cases b4:A.getLast?=some 0
 ·have hv:fF neg A C=2:=by
   unfold fF;rw [if_neg (by omega),if_pos (.inr (.inr b4))]
  rw [hv];have d2:A≠ []:=by rintro rfl;simp at b4
  obtain⟨k1,rfl⟩:∃k1,a0=k1+1:=⟨a0-1,by have:=GU.2 d2;omega⟩;rw [wN,e5,yR] at b4;obtain⟨b1,o1,rfl,hbn1,hxl,hcx⟩:=h1.get b4;have g4:IntKind.i64.wrap ((k1:Int)+1-1)=(k1:Int):=by rw [eF];omega
  have f8:(k1:Int)<(k1:Int)+1:=by omega
  have e3:(0:Int)≤(k1:Int):=by omega
  have c6:(0:Int)<(k1:Int)+1:=by omega
  have d8:∀o,(w.alloc o).cell? ⟨b1,o1+k1,none⟩=some (.int .u32 (0:Nat)):=fun o=>((aC w o).cell (p:=⟨b1,o1+k1,none⟩) (by show b1<_;omega)).trans hcx
  clear a5 hcx b4;go_enter Tryz.func125,Tryz.ntmps125;go_wp2
  go_ret
  exact⟨rfl,aC _ _⟩
 obtain⟨x,hX⟩:=enm (val 4294967296 A);obtain⟨z,hY⟩:=enm (val 4294967296 C);have a6:fF neg A C=if x=0∧(neg=true∨z≠1) then 2 else if Nat.gcd x z≠1 then 2 else 0:=by
  unfold fF;rw [if_neg (by omega),if_neg (by rw [a5];rintro(h|h|h);exact d5 h;exact d6 (by simpa using h);exact b4 h),hX,hY]
 obtain⟨F,hF⟩:∃F:Int,(if x=0∧(neg=true∨z≠1) then 2 else if Nat.gcd x z≠1 then 2 else 0)=F:=⟨_,rfl⟩;rw [a6,hF];have AF:=aside hF;clear a6 hF;obtain⟨P,hP⟩:∃P,P=65536^256:=⟨_,rfl⟩;have e8:x<P:=by
  rw [hP,←show(4294967296:Nat)^128=65536^256 by rw [show(256:Nat)=2*128 from rfl,uV],←hX];exact eE (val_lt h1.1) (qE (by decide) (by omega))
 have e9:z<P:=by
  rw [hP,←show(4294967296:Nat)^128=65536^256 by rw [show(256:Nat)=2*128 from rfl,uV],←hY];exact eE (val_lt h2.1) (qE (by decide) (by omega))
 have AXY:=aside2 hX hY;have AP:=aside hP;clear hX hY hP;go_enter Tryz.func125,Tryz.ntmps125
 go_upto_region 3 with fail
 go_cut [46] from 15 to 45 (fun g7 wx=>g7= .bool false∧wx=w.alloc (Obj.cells #[.bool neg,.slice a1 a0 a9,.slice (some ⟨b2,o2,none⟩) (k2+1) b0] 24))
 case first=>
  by_cases g0:a0=0
  ·subst g0
   go_wp2_with fail
   go_meet
   exact⟨rfl,rfl⟩
  ·obtain⟨k1,rfl⟩:∃k1,a0=k1+1:=⟨a0-1,by omega⟩;obtain⟨x,hx⟩:∃x,A[k1]?=some x:=⟨A[k1],cE (by omega)⟩;rw [wN,e5,yR,hx] at b4;obtain⟨b1,o1,rfl,hbn1,hxl,hcx⟩:=h1.get hx;have h5:((x:Int)==0)=false:=by have:x≠0:=fun e=>b4 (by rw [e]);simp;omega
   have g4:IntKind.i64.wrap ((k1:Int)+1-1)=(k1:Int):=by rw [eF];omega
   have f8:(k1:Int)<(k1:Int)+1:=by omega
   have e3:(0:Int)≤(k1:Int):=by omega
   have c6:(0:Int)<(k1:Int)+1:=by omega
   have d8:∀o,(w.alloc o).cell? ⟨b1,o1+k1,none⟩=some (.int .u32 x):=fun o=>((aC w o).cell (p:=⟨b1,o1+k1,none⟩) (by show b1<_;omega)).trans hcx
   clear a5 hcx b4
   go_wp2_with fail
   go_meet
   exact⟨rfl,rfl⟩
 case rest=>
  obtain⟨rfl,hwx⟩:=hcut;have g3:w.heap.size<wc.heap.size:=by rw [hwx,eX];omega
  have c1:Bz w wc:=hwx▸aC _ _;have b5:wc.heap[w.heap.size]?=some (Obj.cells #[.bool neg,.slice a1 a0 a9,.slice (some ⟨b2,o2,none⟩) (k2+1) b0] 24):=by rw [hwx];exact bY _ _
  have c9:wc.cell? ⟨w.heap.size,0,none⟩=some (.bool neg):=by simp [World.cell?,b5]
  have d0:wc.cell? ⟨w.heap.size,1,none⟩=some (.slice a1 a0 a9):=by simp [World.cell?,b5]
  have d1:wc.cell? ⟨w.heap.size,2,none⟩=some (.slice (some ⟨b2,o2,none⟩) (k2+1) b0):=by simp [World.cell?,b5]
  have g1:=h1.below c1 hn;have g2:=h2.below c1 hn;clear hwx;generalize wc=wb at*;clear b5 a5 d9 e2 f3 g5 f9 e4 e7 g6
  go_upto_region 5 with fail
  go_cut [3,4] from 47 to 52 (fun s3 s4 wx=>cM wx.heap.size wx s3 x∧cM wx.heap.size wx s4 z∧Bz wb wx)
  case first=>
   refine Heavy.region_plan (Bz wb) 6 (Heavy.lights [0,1,3,4] (.one 2 (.one 5 .done))) (by kernel_rfl) (by kernel_rfl) ⟨rfl,rfl,rfl,aA _,fun _ _=>rfl⟩ ?_;simp only [Heavy.lights,gL,iJ,gS,gB];have fc:∀w2,Bz wb w2→w2.cell? ⟨w.heap.size,1,none⟩=some (.slice a1 a0 a9)∧w2.cell? ⟨w.heap.size,2,none⟩=some (.slice (some ⟨b2,o2,none⟩) (k2+1) b0):=fun w2 hb=>
    ⟨(hb.cell (p:=⟨w.heap.size,1,none⟩) (by show w.heap.size<_;omega)).trans d0,(hb.cell (p:=⟨w.heap.size,2,none⟩) (by show w.heap.size<_;omega)).trans d1⟩
   clear c9 d0 d1;have f0:Bz wb { wb with drawn:=wb.drawn+1 }:=⟨rfl,rfl,rfl,aA _,fun _ _=>rfl⟩;have n1:=fun w' (hb:Bz wb w')=>DE a1 a0 a9 n A e5 (by omega) w' (by have:=hb.size;omega) (g1.below hb (by omega))
   rw [AXY.o.1] at n1;have n2:=fun w' (hb:Bz wb w')=>DE (some ⟨b2,o2,none⟩) (k2+1) b0 n C e6 (by omega) w' (by have:=hb.size;omega) (g2.below hb (by omega))
   rw [AXY.o.2] at n2
   iterate 4 (apply Heavy.light_n;(exact rfl);(exact rfl);(intro f4 hw;have x0:=(fc f4 hw).1;have x1:=(fc f4 hw).2;go_simp;exact rfl))
   apply Heavy.one_n
   ·exact rfl
   ·exact rfl
   go_simp
   refine(n1 _ f0).mono ?_;rintro e w3 ⟨r3,rfl,hN3,hb3⟩;have b9:Bz wb w3:=f0.trans hb3;refine⟨_,rfl,b9,?_⟩;apply Heavy.one_n
   ·exact rfl
   ·exact rfl
   go_simp
   refine(n2 _ b9).mono ?_;rintro e w4 ⟨r4,rfl,hN4,hb4⟩;refine⟨_,rfl,b9.trans (hb4.mono b9.size),?_⟩;apply Heavy.plan_end;show wpList _ _ _ _ _ _;go_wp2
   go_meet
   exact⟨(hN3.below hb4 (aA _)).up hb4.size,hN4,b9.trans (hb4.mono b9.size)⟩
  case rest=>
   obtain⟨hA,hC,hB⟩:=hcut;have e0:wc.cell? ⟨w.heap.size,0,none⟩=some (.bool neg):=(hB.cell (p:=⟨w.heap.size,0,none⟩) g3).trans c9;have d4:Bz w wc:=c1.trans (hB.mono c1.size);clear c9 d0 d1 g1 g2 hB c1;have hP:=AP.o;clear h1 h2 b4;obtain⟨a3,l3,c3,rfl⟩:=hA.slice;obtain⟨a4,l4,c4,rfl⟩:=hC.slice;have c8:=hA.zero_iff
   go_upto_region 6 with fail
   go_cut [65] from 53 to 64 (fun g8 wx=>g8= .bool (decide (x=0∧(neg=true∨z≠1)))∧Bz wc wx)
   case first=>
    by_cases b7:x=0
    ·obtain rfl:l3=0:=c8.1 b7;have Ax:=aside b7;clear b7 c8;cases neg
     ·have d3:=aC wc (Obj.cells #[.int .i64 1] 3);have b6:=DJ _ _ _ _ z 1 256 (wc.alloc (Obj.cells #[.int .i64 1] 3)) (hC.below d3 (aA _)) (JL wc) (hP▸e9) (ZV (by decide) (by decide)) (by decide)
      by_cases c7:z=1
      ·have b3:jA z 1=0:=by simp [jA,c7]
       rw [b3] at b6;have Ay:=aside c7;clear c7 b3
       go_wp2_with (go_at_call 205;with_reducible refine b6.mono ?_;rintro e w' ⟨rfl,rfl⟩)
       go_meet
       exact⟨by simp [Ax.o,Ay.o],d3⟩
      ·obtain⟨cv,b3⟩:=enm (jA z 1);have f1:(cv==0)=false:=by
        rw [←b3];unfold jA;split
        ·rfl
        ·split
         ·rfl
         ·exfalso;omega
       have d7:Aside (¬cv=0):=by intro h;simp [h] at f1
       rw [b3] at b6;have Ay:=aside c7;clear c7 b3
       go_wp2_with (go_at_call 205;with_reducible refine b6.mono ?_;rintro e w' ⟨rfl,rfl⟩)
       go_meet
       exact⟨by have:=d7.o;simp [Ax.o,Ay.o,this],d3⟩
     ·go_wp2_with fail
      go_meet
      exact⟨by simp [Ax.o],aK _ _⟩
    ·have h4:((l3:Int)==0)=false:=by have:l3≠0:=fun e=>b7 (c8.2 e);simp;omega
     have Ax:=aside b7;clear b7 c8
     go_wp2_with fail
     go_meet
     exact⟨by simp [Ax.o],aK _ _⟩
   case rest=>
    obtain⟨rfl,hB2⟩:=hcut;have a8:=d4.trans (hB2.mono d4.size);have f5:=(hA.below hB2 (aA _)).up hB2.size;have f6:=(hC.below hB2 (aA _)).up hB2.size;clear hA hC hB2 e0 d4 c8
    by_cases a6:x=0∧(neg=true∨z≠1)
    ·have c2:Aside (F=2):=by have:=AF.o;rw [if_pos a6] at this;exact this.symm
     have hd:decide (x=0∧(neg=true∨z≠1))=true:=mN a6;rw [hd];clear hd a6;go_wp2
     go_ret
     exact⟨by rw [c2.o];rfl,a8⟩
    ·have b8:=AF.o;rw [if_neg a6] at b8;have hd:decide (x=0∧(neg=true∨z≠1))=false:=kU a6;rw [hd];clear hd a6;have hg:=Gc _ _ _ _ x z P 256 hP (by decide) e8 e9 wc (aA _) (aA _) f5 f6;obtain⟨g,hgg⟩:=enm (Nat.gcd x z);have f2:g<P∨x=0∧z=0:=by
      rw [←hgg]
      by_cases b7:x=0
      ·subst b7;rw [Ad];exact .inl e9
      ·exact .inl (iV (Nat.gcd_le_left z (Nat.pos_of_ne_zero b7)) e8)
     have e1:g<P:=by
      rcases f2 with h|⟨rfl,rfl⟩
      ·exact h
      ·rw [←hgg];exact e8
     rw [hgg] at hg;have Agg:=aside hgg;have b6:=fun w' r (hr:cM w'.heap.size w' r g)=>DJ _ _ _ _ g 1 256 (w'.alloc (Obj.cells #[.int .i64 1] 3)) (hr.below (aC w' (Obj.cells #[.int .i64 1] 3)) (aA _)) (JL w') (hP▸e1) (ZV (by decide) (by decide)) (by decide)
     clear f2 hgg
     by_cases c5:g=1
     ·have b3:jA g 1=0:=by simp [jA,c5]
      rw [if_neg (by rw [Agg.o];simpa using c5)] at b8;have c2:Aside (F=0):=b8.symm;rw [b3] at b6;clear b3 c5 b8
      go_wp2_with first|(go_at_call 206;with_reducible refine hg.mono ?_;rintro e w2 ⟨rg,rfl,hR,c0⟩)|(go_at_call 205;with_reducible refine(b6 _ _ (by assumption)).mono ?_;rintro e w' ⟨rfl,rfl⟩)
      go_ret
      exact⟨by rw [c2.o];rfl,a8.trans ((c0.mono a8.size).alloc (aE a8.size c0.size) _)⟩
     ·obtain⟨cv,b3⟩:=enm (jA g 1);have f1:(cv==0)=false:=by
       rw [←b3];unfold jA;split
       ·rfl
       ·split
        ·rfl
        ·exfalso;omega
      rw [if_pos (by rw [Agg.o];simpa using c5)] at b8;have c2:Aside (F=2):=b8.symm;rw [b3] at b6;clear b3 c5 b8
      go_wp2_with first|(go_at_call 206;with_reducible refine hg.mono ?_;rintro e w2 ⟨rg,rfl,hR,c0⟩)|(go_at_call 205;with_reducible refine(b6 _ _ (by assumption)).mono ?_;rintro e w' ⟨rfl,rfl⟩)
      go_ret
      exact⟨by rw [c2.o];rfl,a8.trans ((c0.mono a8.size).alloc (aE a8.size c0.size) _)⟩
end
section
attribute [local go_sem] Heavy.uponW
def pR (h:w.heap[g]?=some (.cells cs e fr)) (k:Nat):
  (w.setCell ⟨g,i,none⟩ v).heap[k]?=if k=g then some (.cells (cs.setIfInBounds i v) e fr) else w.heap[k]?:=by
 show(Array.modify w.heap g _)[k]?=_;rw [rW]
 by_cases hk:k=g
 ·subst hk;simp [h]
 ·rw [if_neg (fO hk),if_neg hk]
def wY (w:Wo) (g i:Nat) (v:Value):(w.setCell ⟨g,i,none⟩ v).heap.size=w.heap.size:=by
 simp [World.setCell]
def Gz {x y z a b c:Value} (h:w.heap[k]?=some (.cells #[x,y,z] e fr)):(((w.setCell ⟨k,0,none⟩ a).setCell ⟨k,1,none⟩ b).setCell ⟨k,2,none⟩ c).heap[k]?=some (.cells #[a,b,c] e fr):=by
 have h1:=pR (i:=0) (v:=a) h k;rw [if_pos rfl] at h1;have h2:=pR (i:=1) (v:=b) h1 k;rw [if_pos rfl] at h2;have h3:=pR (i:=2) (v:=c) h2 k;rw [if_pos rfl] at h3;exact h3
def pY (w:Wo) (n g i:Nat) (v:Value) (h:n≤g):Below n w (w.setCell ⟨g,i,none⟩ v):=(aK n w).setCell h v
def cM.aside {v:Nat} (h:cM n w r v) (hg:w.heap[g]?=some (.cells cs e fr)) (b4:∀(i:Nat) (x:Int),cs[i]?≠some (.int .i64 x)) (hk:∀k,k≠g→w'.heap[k]?=w.heap[k]?):cM n w' r v:=by
 obtain⟨a,L,c,h1,h2,h3,⟨h4,h4'⟩,h5⟩:=h;refine⟨a,L,c,h1,h2,h3,⟨h4,fun c7=>?_⟩,h5⟩;obtain⟨b,off,e1,hb,hc⟩:=h4' c7;refine⟨b,off,e1,hb,fun j x hx=>?_⟩;have b3:=hc j x hx;have c2:b≠g:=by
  rintro rfl;simp only [World.cell?,hg] at b3;exact b4 _ _ b3
 simp only [World.cell?,hk b c2] at b3 ⊢;exact b3
def RatR (n:Nat) (w:Wo) (v:Value) (neg:Bool) (x y:Nat):Prop:=∃r1 r2,v= .agg #[.bool neg,r1,r2]∧cM n w r1 x∧cM n w r2 y
def Fi (neg:Bool) (a1 a2:Option Addr) (a0 a5 a6 a7 n:Nat) (A C:List Nat) (c5:A.length=a0) (c6:C.length=a5) (c0:a0≤1048576) (c1:a5≤1048576) (w:Wo) (hn:n≤w.heap.size) (h1:dL n w a1 A) (h2:dL n w a2 C):
  Cz 131 #[.agg #[.bool neg,.slice a1 a0 a6,.slice a2 a5 a7]] w fun e w'=>∃v,e= .returned v∧RatR w'.heap.size w' v neg (val 4294967296 A) (val 4294967296 C)∧Bz w w':=by
 have b1:=aC w (Obj.cells #[.bool neg,.slice a1 a0 a6,.slice a2 a5 a7] 24);have b2:=aC (w.alloc (Obj.cells #[.bool neg,.slice a1 a0 a6,.slice a2 a5 a7] 24)) (Obj.cells #[.bool false,.slice none 0 0,.slice none 0 0] 230);have q1:=bY w (Obj.cells #[.bool neg,.slice a1 a0 a6,.slice a2 a5 a7] 24);have q2:=bY (w.alloc (Obj.cells #[.bool neg,.slice a1 a0 a6,.slice a2 a5 a7] 24)) (Obj.cells #[.bool false,.slice none 0 0,.slice none 0 0] 230);have sz:((w.alloc (Obj.cells #[.bool neg,.slice a1 a0 a6,.slice a2 a5 a7] 24)).alloc (Obj.cells #[.bool false,.slice none 0 0,.slice none 0 0] 230)).heap.size=w.heap.size+2:=by simp
 rw [eX] at q2 b2;have b5:=(b2.block w.heap.size (by omega)).trans q1;have b0:=b1.trans (b2.mono (by omega));clear b1 b2 q1;go_enter Tryz.func131,Tryz.ntmps131
 go_upto_region 1 with fail
 generalize (w.alloc (Obj.cells #[.bool neg,.slice a1 a0 a6,.slice a2 a5 a7] 24)).alloc (Obj.cells #[.bool false,.slice none 0 0,.slice none 0 0] 230)=wb at*;have c9:=b0.size;have c8:w.heap.size+1<wb.heap.size:=by omega
 clear sz;have g1:=h1.below b0 hn;have g2:=h2.below b0 hn;have k1:wb.cell? ⟨w.heap.size,0,none⟩=some (.bool neg):=by simp [World.cell?,b5]
 have k2:wb.cell? ⟨w.heap.size,1,none⟩=some (.slice a1 a0 a6):=by simp [World.cell?,b5]
 have k3:wb.cell? ⟨w.heap.size,2,none⟩=some (.slice a2 a5 a7):=by simp [World.cell?,b5]
 have fc:∀w2,Bz wb w2→w2.cell? ⟨w.heap.size,0,none⟩=some (.bool neg)∧w2.cell? ⟨w.heap.size,1,none⟩=some (.slice a1 a0 a6)∧w2.cell? ⟨w.heap.size,2,none⟩=some (.slice a2 a5 a7):=fun w2 hb=>
  ⟨(hb.cell (p:=⟨w.heap.size,0,none⟩) (by show w.heap.size<_;omega)).trans k1,(hb.cell (p:=⟨w.heap.size,1,none⟩) (by show w.heap.size<_;omega)).trans k2,(hb.cell (p:=⟨w.heap.size,2,none⟩) (by show w.heap.size<_;omega)).trans k3⟩
 clear k1 k2 k3 b5;have b7:Bz wb { wb with drawn:=wb.drawn+1 }:=⟨rfl,rfl,rfl,aA _,fun _ _=>rfl⟩;have n1:=fun w' (hb:Bz wb w')=>DE a1 a0 a6 n A c5 c0 w' (by have:=hb.size;omega) (g1.below hb (by omega))
 have n2:=fun w' (hb:Bz wb w')=>DE a2 a5 a7 n C c6 c1 w' (by have:=hb.size;omega) (g2.below hb (by omega))
 refine Heavy.region_plan (Bz wb) 8 (Heavy.lights [0,1,2,3,5,6] (.one 4 (.one 7 .done))) (by kernel_rfl) (by kernel_rfl) b7 ?_;simp only [Heavy.lights,gL,iJ,gS,gB]
 iterate 6 (apply Heavy.light_n;(exact rfl);(exact rfl);(intro b9 hw;have x0:=(fc b9 hw).1;have x1:=(fc b9 hw).2.1;have x2:=(fc b9 hw).2.2;go_simp;exact rfl))
 apply Heavy.one_n
 ·exact rfl
 ·exact rfl
 go_simp
 refine(n1 _ b7).mono ?_;rintro e w3 ⟨r3,rfl,hN3,hb3⟩;have a9:Bz wb w3:=b7.trans hb3;refine⟨_,rfl,a9,?_⟩;apply Heavy.one_n
 ·exact rfl
 ·exact rfl
 go_simp
 refine(n2 _ a9).mono ?_;rintro e w4 ⟨r4,rfl,hN4,hb4⟩;have b6:=a9.trans (hb4.mono a9.size);refine⟨_,rfl,b6,?_⟩;apply Heavy.plan_end;show wpList _ _ _ _ _ _;have q4:=(b6.block (w.heap.size+1) (by omega)).trans q2;have a8:=(hN3.below hb4 (aA _)).up hb4.size;obtain⟨a3,l3,c3,rfl⟩:=a8.slice;obtain⟨a4,l4,c4,rfl⟩:=hN4.slice;obtain⟨d0,d1,d2,z0,z1,z2⟩:w4.cell? ⟨w.heap.size+1,0,none⟩=some (.bool false)∧w4.cell? ⟨w.heap.size+1,1,none⟩=some (.slice none 0 0)∧w4.cell? ⟨w.heap.size+1,2,none⟩=some (.slice none 0 0)∧
   w4.frozen? ⟨w.heap.size+1,0,none⟩=false∧w4.frozen? ⟨w.heap.size+1,1,none⟩=false∧w4.frozen? ⟨w.heap.size+1,2,none⟩=false:=by
  simp [World.cell?,World.frozen?,q4]
 go_wp2;have b8:=Gz (a:=.bool neg) (b:=.slice a3 l3 c3) (c:=.slice a4 l4 c4) q4;have hk:∀k,k≠w.heap.size+1→(((w4.setCell ⟨w.heap.size+1,0,none⟩ (.bool neg)).setCell ⟨w.heap.size+1,1,none⟩ (.slice a3 l3 c3)).setCell ⟨w.heap.size+1,2,none⟩ (.slice a4 l4 c4)).heap[k]?=w4.heap[k]?:=fun k hk=>by
  rw [iQ _ _ _ _ hk,iQ _ _ _ _ hk,iQ _ _ _ _ hk]
 have b4:∀(i:Nat) (x:Int),(#[Value.bool false,.slice none 0 0,.slice none 0 0]:Array Value)[i]?≠some (.int .i64 x):=by
  intro i x;rcases i with _|_|_|i<;>simp
 refine rN (sV rfl _ _ (w.heap.size+1) 230 _ _ _ rfl b8 Tryz.underlying230 rfl (by kernel_rfl)) rfl ?_;refine⟨_,rfl,⟨_,_,rfl,?_,?_⟩,?_⟩
 ·rw [wY,wY,wY];exact a8.aside q4 b4 hk
 ·rw [wY,wY,wY];exact hN4.aside q4 b4 hk
 ·refine b0.trans ((b6.mono (by omega)).trans ?_);exact(pY _ _ _ _ _ (by omega)).trans ((pY _ _ _ _ _ (by omega)).trans (pY _ _ _ _ _ (by omega)))
end
def inf5:(Tryz.prog.info? 5).map (fun i=>(i.zero,i.size,i.bytes))=some (some (.int .u8 0),1,1):=by kernel_rfl
def bv (x:Nat):Value:=.int .u8 x
def cK (L:List Nat):ByteArray:=strOfNums (L.map fun x:Nat=>(x:Int))
def tK (L:List Nat):(cK L).size=L.length:=by simp [cK,strOfNums_size]
def vF (L:List Nat):(cK L).data.toList=L.map UInt8.ofNat:=by simp [cK,strOfNums_data]
def ML {a b:ByteArray} (h:a.data.toList=b.data.toList):a=b:=by
 cases a;cases b;simp at h;congr
def Cs (A C:List Nat):cK A++cK C=cK (A++C):=by
 apply ML;rw [Sd,Array.toList_append,vF,vF,vF,pM]
def gA (base:Nat) (w:Wo) (sv:Value) (D:List Nat):Prop:=w.ownsRow base 5 1 sv D.length (D.map bv)
def gA.kept (h:gA base w sv D) (hk:∀k,base≤k→k<w.heap.size→w'.heap[k]?=w.heap[k]?):gA base w' sv D:=by
 obtain⟨h1,h2|⟨g,cap,cur,e1,hb,hg,h3⟩⟩:=h
 ·exact⟨h1,.inl h2⟩
 ·exact⟨h1,.inr ⟨g,cap,cur,e1,hb,(hk g hb (cV.1 hg).1).trans hg,h3⟩⟩
def gA.below (h:gA base w sv D) (hb:Below m w w') (hm:w.heap.size≤m):gA base w' sv D:=
 h.kept fun k _ hk=>hb.block k (by omega)
def gA.nil (base:Nat) (w:Wo):gA base w (.slice none 0 0) []:=qD _ _ _ _
def gA.own (h:gA base w sv D):∀k,sv.ownBlock=some k→base≤k∧k<w.heap.size:=lX h
def BytAt (n:Nat) (w:Wo) (a:Option Addr) (L:List Nat):Prop:=
 L≠ []→∃b off,a=some ⟨b,off,none⟩∧b<n∧∀(j x:Nat),L[j]?=some x→w.cell? ⟨b,off+j,none⟩=some (.int .u8 x)
def BytAt.below (h:BytAt n w a L) (hb:Below m w w') (hm:n≤m):BytAt n w' a L:=by
 intro a3;obtain⟨b,off,e,hbn,hc⟩:=h a3;exact⟨b,off,e,hbn,fun j x hx=>((hb.mono hm).cell (p:=⟨b,off+j,none⟩) hbn).trans (hc j x hx)⟩
def gA.at (h:gA base w sv D):∃a c,sv= .slice a D.length c∧D.length≤c∧c≤maxLen∧BytAt w.heap.size w a D:=by
 obtain⟨h1,⟨e,h0⟩|⟨g,cap,cur,e1,hb,hg,hnc,hm,hs,ht⟩⟩:=h
 ·have:D= []:=mE h0;subst this;exact⟨none,0,e,aA _,cJ _,fun h=>absurd rfl h⟩
 ·refine⟨some ⟨g,0,none⟩,cap,e1,hnc,hm,fun _=>⟨g,0,rfl,(cV.1 hg).1,fun j x hx=>?_⟩⟩;have hj:=(aZ.1 hx).1;have h2:cur[j]?=some (bv x):=by
   rw [←kE,←jN (show j<D.length*1 by omega),ht,jO,hx];rfl
  simpa [World.cell?,hg,bv] using h2
def OI {ops:Array Oper} {rest:List Oper} {o:Oper} {a:Act} {Q:Exit→Act→Wo→Prop} (w:Wo) (a1:o.guard=none) (s x:Operand)
  (ho:o.op= .call { callee:=.builtin .append,args:=#[s,x],argTypes:=#[84,84] }) (base:Nat) (sv:Value) (D xs:List Nat) (m:Nat) (hm:xs.length=m) (hs:a.eval s=sv) (g c:Nat) (hx:a.eval x= .slice (some ⟨g,0,none⟩) m c)
  (hc:∀(j:Nat) u,(xs.map bv)[j]?=some u→w.cell? ⟨g,j,none⟩=some u) (hR:gA base w sv D) (a2:D.length+m≤17592186044416) (a0:base≤w.heap.size)
  (h:∀v' w',gA base w' v' (D++xs)→Below base w w'→w.grownBy w' sv.ownBlock→wpList Tryz.prog ops Q rest (a.put o.dst v') w'):wpList Tryz.prog ops Q (o::rest) a w:=by
 obtain⟨i0,hi0,hz0,hz1,hz2⟩:=pI inf5;refine ZH w a1 s x 84 ho base 5 i0 (.int .u8 0) 1 1 Tryz.underlying84 hi0 hz0 hz1 hz2 rfl (by decide) sv D.length (D.map bv) hs hR ⟨g,0,none⟩ m c (xs.map bv) hx (by simp [hm]) (fun j u hj=>?_) ?_ (by unfold maxLen;omega) (by omega) a0 ?_
 ·rw [qH,dH];exact hc j u hj
 ·intro u hu;obtain⟨y,_,rfl⟩:=gF.1 hu;rfl
 ·intro v' w' h1 h2 h3;refine h v' w' ?_ ((aK _ w).grown h2 a0 fun k hk=>(gA.own hR k hk).1) h2;unfold gA;rw [aV,pM,hm];exact h1
def BBlk (w:Wo) (b:Nat) (cur:List Nat):Prop:=w.heap[b]?=some (.cells (cur.map bv).toArray 5 (0,0))
def BBlk.cell (h:BBlk w b cur) {k x:Nat} (hx:cur[k]?=some x):w.cell? ⟨b,k,none⟩=some (.int .u8 x)∧w.frozen? ⟨b,k,none⟩=false:=by
 unfold BBlk at h;simp [World.cell?,World.frozen?,h,hx,bv]
def BBlk.made (w:Wo) (n:Nat):BBlk (w.alloc (.cells (madeCells #[.int .u8 0] n) 5)) w.heap.size (List.replicate n 0):=by
 unfold BBlk;rw [bY];congr 2;apply wS;intro i
 by_cases hi:i<n
 ·simp [madeCells,hi,CE,bv]
 ·simp [madeCells,hi]
def BBlk.put (h:BBlk w b cur) {k x:Nat} (hk:k<cur.length):BBlk (w.setCell ⟨b,k,none⟩ (.int .u8 x)) b (cur.set k x):=by
 have a4:b<w.heap.size:=(cV.1 h).1;unfold BBlk at*;show(Array.modify w.heap b _)[b]?=_;rw [rW,if_pos rfl,h];simp [bv]
def BBlk.string (h:BBlk w b cur) (hn:cur.length=n):(convert 84 9 (.slice (some ⟨b,0,none⟩) n n)).run Tryz.prog w= .ok (.string (cK cur)) w:=
 ZJ w 84 5 Tryz.underlying84 Tryz.underlying5 b 0 n n _ (by simp [hn]) (fun i hi=>by
  obtain⟨x,hx⟩:∃x,cur[i]?=some x:=⟨cur[i],cE (by omega)⟩;rw [dH,(h.cell hx).1];simp [hx]) 9 Tryz.underlying9
section
attribute [local go_sem] Heavy.uponW
def TN (h:∀x∈A,x<4294967296) (hM:2*A.length≤M):val 4294967296 A<65536^M:=by
 rw [←zC A];refine eE (val_lt (CP h)) (qE (by decide) ?_);rw [zD];exact hM
structure NumAt (n:Nat) (w:Wo) (neg:Bool) (s1 s2:Value) (A C:List Nat):Prop where
 at1:∃a c,s1= .slice a A.length c∧dL n w a A
 at2:∃a c,s2= .slice a C.length c∧dL n w a C
def NumAt.below {neg:Bool} (h:NumAt n w neg s1 s2 A C) (hb:Below m w w') (hm:n≤m):NumAt n w' neg s1 s2 A C:=by
 obtain⟨⟨a,c,e1,h1⟩,⟨a',c',e2,h2⟩⟩:=h;exact⟨⟨a,c,e1,h1.below hb hm⟩,⟨a',c',e2,h2.below hb hm⟩⟩
def dZ {v0 v1 v2 v3 v4 v5 v6:Value} (h:w.heap[g]?=some (.cells #[v0,v1,v2,v3,v4,v5,v6] e fr)):
  w.cell? ⟨g,0,none⟩=some v0∧w.cell? ⟨g,1,none⟩=some v1∧w.cell? ⟨g,2,none⟩=some v2∧w.cell? ⟨g,3,none⟩=some v3∧w.cell? ⟨g,4,none⟩=some v4∧w.cell? ⟨g,5,none⟩=some v5∧w.cell? ⟨g,6,none⟩=some v6:=by
 simp [World.cell?,h]
def tI (w:Wo) (o1 o2:Obj):Bz w ((w.alloc o1).alloc o2)∧((w.alloc o1).alloc o2).heap[w.heap.size]?=some o1∧((w.alloc o1).alloc o2).heap[w.heap.size+1]?=some o2∧w.heap.size+2≤((w.alloc o1).alloc o2).heap.size:=by
 have b1:=aC w o1;have b2:=aC (w.alloc o1) o2;have q1:=bY w o1;have q2:=bY (w.alloc o1) o2;rw [eX] at q2 b2;exact⟨b1.trans (b2.mono (by omega)),(b2.block w.heap.size (by omega)).trans q1,q2,by simp⟩
end
section
attribute [local go_sem] Heavy.uponW
def KH:(Tryz.prog.info? 83).map (fun i=>(i.zero,i.size,i.bytes))=some (some (.int .u32 0),1,4):=by kernel_rfl
def lv (x:Nat):Value:=.int .u32 x
def LimS (S:Nat→Prop) (w:Wo) (a:Option Addr) (L:List Nat):Prop:=
 (∀x∈L,x<4294967296)∧(L≠ []→∃b off,a=some ⟨b,off,none⟩∧S b∧∀(j x:Nat),L[j]?=some x→w.cell? ⟨b,off+j,none⟩=some (.int .u32 x))
def jM (a b:Nat):Nat→Prop:=fun k=>a≤k∧k<b
def eB (S:Nat→Prop) (w w':Wo):Prop:=∀k,S k→w'.heap[k]?=w.heap[k]?
def eB.cell (h:eB S w w') {p:Addr} (hp:S p.block):w'.cell? p=w.cell? p:=BU (w:=w) (h p.block hp)
def eB.of_below (h:Below m w w') (hS:∀k,S k→k<m):eB S w w':=fun k hk=>h.block k (hS k hk)
def eB.trans {a b c:Wo} (h:eB S a b) (h':eB S b c):eB S a c:=fun k hk=>(h' k hk).trans (h k hk)
def LimS.mono (h:LimS S w a L) (hS:∀k,S k→S' k):LimS S' w a L:=by
 refine⟨h.1,fun a2=>?_⟩;obtain⟨b,off,e,hb,hc⟩:=h.2 a2;exact⟨b,off,e,hS b hb,hc⟩
def LimS.keep (h:LimS S w a L) (hk:eB S w w'):LimS S w' a L:=by
 refine⟨h.1,fun a2=>?_⟩;obtain⟨b,off,e,hb,hc⟩:=h.2 a2;exact⟨b,off,e,hb,fun j x hx=>(hk.cell (p:=⟨b,off+j,none⟩) hb).trans (hc j x hx)⟩
def LimS.toAt (h:LimS S w a L) (hS:∀k,S k→k<n):dL n w a L:=by
 refine⟨h.1,fun a2=>?_⟩;obtain⟨b,off,e,hb,hc⟩:=h.2 a2;exact⟨b,off,e,hS b hb,hc⟩
def Jn (hA:∀x∈A,x<4294967296) (h:w.ownsRow base 83 1 sv A.length (A.map lv)):∃a c,sv= .slice a A.length c∧LimS (jM base w.heap.size) w a A:=by
 obtain⟨h1,⟨e,h0⟩|⟨g,cap,cur,e1,hb,hg,hnc,hm,hs,ht⟩⟩:=h
 ·have:A= []:=mE h0;subst this;exact⟨none,0,e,hA,fun h=>absurd rfl h⟩
 ·refine⟨some ⟨g,0,none⟩,cap,e1,hA,fun _=>⟨g,0,rfl,⟨hb,(cV.1 hg).1⟩,fun j x hx=>?_⟩⟩;have hj:=(aZ.1 hx).1;have h2:cur[j]?=some (lv x):=by
   rw [←kE,←jN (show j<A.length*1 by omega),ht,jO,hx];rfl
  simpa [World.cell?,hg,lv] using h2
def vJ (s:Value) (n:Nat) (A:List Nat) (hA:A.length≤1048576) (w:Wo) (hn:n≤w.heap.size) (h:∃a c,s= .slice a A.length c∧dL n w a A):
  Cz 46 #[s] w fun e w'=>∃sv,e= .returned sv∧(∃a c,sv= .slice a A.length c∧LimS (jM w.heap.size w'.heap.size) w' a A)∧Bz w w':=by
 obtain⟨a,cap,rfl,h1⟩:=h;have b1:∀(w:Wo) (a:Option Addr) (n c n' c':Nat),(binOp .eql 22 (.slice a n c) (.slice none n' c')).run Tryz.prog w= .ok (.bool a.isNone) w:=fun w a n c n' c'=>Lib.run_eql_slice_nil w _ _ a n c n' c' Tryz.underlying22
 cases a with
 | none=>
  have a7:A= []:=by
   apply oK;intro a2;obtain⟨b,off,e,_⟩:=h1.2 a2;cases e
  subst a7;go_enter Tryz.func46,Tryz.ntmps46;go_wp2
  go_ret
  exact⟨_,rfl,⟨none,0,rfl,h1.1,fun h=>absurd rfl h⟩,aK _ _⟩
 | some ad=>
  obtain⟨i0,hi,hz0,hz1,hz2⟩:=pI KH;have a4:(w.alloc (Obj.cells #[] 83)).ownsRow w.heap.size 83 1 (.slice (some ⟨w.heap.size,0,none⟩) 0 0) 0 []:=World.ownsRow_made w #[] 0 (aA _) (by unfold maxLen;omega) (by simp);have a3:∀(j:Nat) u,(A.map lv)[j]?=some u→(w.alloc (Obj.cells #[] 83)).cell? (ad.add j)=some u:=fun j u hj=>by
   rw [jO] at hj;obtain⟨x,hx,rfl⟩:=wJ.1 hj;obtain⟨b,off,e,hb,hc⟩:=h1.2 (by rintro rfl;simp at hx);cases e;rw [qH];exact((aC w _).cell (p:=⟨b,off+j,none⟩) (by show b<_;omega)).trans (hc j x hx)
  have a5:∀u∈A.map lv,u.oneCell'=true:=by
   intro u hu;obtain⟨y,_,rfl⟩:=gF.1 hu;rfl
  obtain⟨len,hl⟩:=enm A.length;have b0:(A.map lv).length=len*1:=by rw [mB,hl];omega
  rw [hl] at hA ⊢;have Al:=aside hl;have a9:=h1.1;clear h1 hl;go_enter Tryz.func46,Tryz.ntmps46
  go_wp2_with (at_builtin;refine ZH _ rfl _ _ 22 rfl w.heap.size 83 i0 (.int .u32 0) 1 4 Tryz.underlying22 hi hz0 hz1 hz2 rfl (by decide) _ _ _ rfl a4 ad len cap (A.map lv) rfl b0 a3 a5 (by unfold maxLen;omega) (by omega) (by simp) ?_;intro v' w3 a0 a1 a6)
  go_ret
  have a8:Bz w w3:=((aK _ w).alloc (aA _) _).grown a1 (by simp) (by intro k hk;cases hk;exact aA _);rw [dH,lG,←Al.o] at a0;have:=Jn a9 a0;rw [Al.o] at this;exact⟨_,rfl,this,a8⟩
end
def Fm (g:Bool) (a1 a2:Option Addr) (l1 l2 c1 c2:Nat) (w:Wo):
  Cz 124 #[.agg #[.bool g,.slice a1 l1 c1,.slice a2 l2 c2]] w fun e w'=>e= .returned (.bool (!g&&(((l1:Int)==0)&&((l2:Int)==0))))∧Bz w w':=by
 have hB:=aC w (Obj.cells #[.bool g,.slice a1 l1 c1,.slice a2 l2 c2] 24);obtain⟨F,hF⟩:=enm ((!g&&(((l1:Int)==0)&&((l2:Int)==0))));rw [hF];cases g
 ·by_cases h1:l1=0
  ·subst h1;have a0:F=((l2:Int)==0):=by rw [←hF];simp
   subst a0;clear hF;go_enter Tryz.func124,Tryz.ntmps124;go_wp2
   go_ret
   exact⟨rfl,hB⟩
  ·have a3:((l1:Int)==0)=false:=by simp;omega
   have a0:F=false:=by rw [←hF,a3];rfl
   subst a0;clear hF;go_enter Tryz.func124,Tryz.ntmps124;go_wp2
   go_ret
   exact⟨rfl,hB⟩
 ·have a0:F=false:=by rw [←hF];rfl
  subst a0;clear hF;go_enter Tryz.func124,Tryz.ntmps124;go_wp2
  go_ret
  exact⟨rfl,hB⟩
inductive Tm where
 |mk (k v:Int) (nm:ByteArray) (g:Bool) (num den:List Nat) (args:List Tm)
mutual
def TmV (n:Nat) (w:Wo):Tm→Lv→Prop
 | .mk k v nm g num den args,vs=>∃s1 s2 a c,vs= [.int .i64 k,.int .i64 v,.string nm,.bool g,s1,s2,.slice a args.length c]∧NumAt n w g s1 s2 num den∧eV n w args a 0∧args.length≤1048576∧num.length≤1048576∧den.length≤1048576
def eV (n:Nat) (w:Wo):List Tm→Option Addr→Nat→Prop
 | [],_,_=>True
 |T::r,a,i=>(∃b off vs,a=some ⟨b,off,none⟩∧b<n∧(∀(j:Nat) u,vs[j]?=some u→w.cell? ⟨b,off+i*7+j,none⟩=some u)∧TmV n w T vs)∧eV n w r a (i+1)
end
mutual
theorem TmV.below {n m:Nat} {w w':Wo} (hb:Below m w w') (hm:n≤m):∀(T:Tm) (vs:Lv),TmV n w T vs→TmV n w' T vs
 | .mk k v nm g num den args,vs,h=>by
  simp only [TmV] at h ⊢;obtain⟨s1,s2,a,c,e,h1,h2,h3⟩:=h;exact⟨s1,s2,a,c,e,h1.below hb hm,eV.below hb hm args a 0 h2,h3⟩
theorem eV.below {n m:Nat} {w w':Wo} (hb:Below m w w') (hm:n≤m):∀(L:List Tm) (a:Option Addr) (i:Nat),eV n w L a i→eV n w' L a i
 | [],_,_,_=>by simp only [eV]
 |T::r,a,i,h=>by
  simp only [eV] at h ⊢;obtain⟨⟨b,off,vs,e,hbn,hc,hv⟩,hr⟩:=h;exact⟨⟨b,off,vs,e,hbn,fun j u hj=>((hb.mono hm).cell (p:=⟨b,off+i*7+j,none⟩) hbn).trans (hc j u hj),TmV.below hb hm T vs hv⟩,eV.below hb hm r a (i+1) hr⟩
end
def eV.get {n:Nat} {w:Wo} {a:Option Addr}:∀{L:List Tm} {i k:Nat} {T:Tm},eV n w L a i→L[k]?=some T→∃b off vs,a=some ⟨b,off,none⟩∧b<n∧(∀(j:Nat) u,vs[j]?=some u→w.cell? ⟨b,off+(i+k)*7+j,none⟩=some u)∧TmV n w T vs
 | [],_,_,_,_,h=>by simp at h
 |T0::r,i,0,T,hs,h=>by
  simp only [eV] at hs;simp at h;subst h;simpa using hs.1
 |T0::r,i,k+1,T,hs,h=>by
  simp only [eV] at hs;have:=eV.get hs.2 (show r[k]?=some T by simpa using h);rw [show i+1+k=i+(k+1) by omega] at this;exact this
mutual
def Tm.nodes:Tm→Nat
 | .mk _ _ _ _ _ _ args=>1+Tm.nodesL args
def Tm.nodesL:List Tm→Nat
 | []=>0
 |T::r=>Tm.nodes T+Tm.nodesL r
end
def tY:∀(L M:List Tm),Tm.nodesL (L++M)=Tm.nodesL L+Tm.nodesL M
 | [],M=>by simp [Tm.nodesL]
 |T::r,M=>by simp [Tm.nodesL,tY r M];omega
def xJ {L:List Tm} {T:Tm} (h:L[i]?=some T):Tm.nodesL (L.take (i+1))=Tm.nodesL (L.take i)+Tm.nodes T:=by
 rw [mA,h,tY];simp [Tm.nodesL]
structure RootOk (k:Int) (g:Bool) (num den:List Nat):Prop where
 kind:k=1∨k=2∨k=3∨k=4∨k=5
 sound:k=2→fF g num den=0
 non:k≠2→g=false∧num= []∧den= []
structure NodeOk (k v:Int) (nm:ByteArray) (g:Bool) (num den:List Nat) (len:Nat):Prop where
 root:RootOk k g num den
 var:k=1→0≤v∧v≤1073741824
 name:nm.size≤4000
 args:len≤32
mutual
def AllOk:Tm→Prop
 | .mk k v nm g num den args=>NodeOk k v nm g num den args.length∧oG args
def oG:List Tm→Prop
 | []=>True
 |T::r=>AllOk T∧oG r
end
def oG.get:∀{L:List Tm},oG L→∀{j:Nat} {T:Tm},L[j]?=some T→AllOk T
 | [],_,j,T,h=>by simp at h
 |T0::r,hs,0,T,h=>by
  simp only [oG] at hs;simp at h;subst h;exact hs.1
 |T0::r,hs,j+1,T,h=>by
  simp only [oG] at hs;exact oG.get hs.2 (show r[j]?=some T by simpa using h)
def Fine (T:Tm):Prop:=AllOk T∧T.nodes≤10000
mutual
def TmS (S:Nat→Prop) (w:Wo):Tm→Lv→Prop
 | .mk k v nm g num den args,vs=>∃a1 c1 a2 c2 a c,vs= [.int .i64 k,.int .i64 v,.string nm,.bool g,.slice a1 num.length c1,.slice a2 den.length c2,.slice a args.length c]∧LimS S w a1 num∧LimS S w a2 den∧eW S w args a 0∧args.length≤1048576∧num.length≤1048576∧den.length≤1048576
def eW (S:Nat→Prop) (w:Wo):List Tm→Option Addr→Nat→Prop
 | [],_,_=>True
 |T::r,a,i=>(∃b off vs,a=some ⟨b,off,none⟩∧S b∧(∀(j:Nat) u,vs[j]?=some u→w.cell? ⟨b,off+i*7+j,none⟩=some u)∧TmS S w T vs)∧eW S w r a (i+1)
end
mutual
theorem TmS.mono {S S':Nat→Prop} {w:Wo} (hS:∀k,S k→S' k):∀(T:Tm) (vs:Lv),TmS S w T vs→TmS S' w T vs
 | .mk k v nm g num den args,vs,h=>by
  simp only [TmS] at h ⊢;obtain⟨a1,c1,a2,c2,a,c,e,h1,h2,h3,h4⟩:=h;exact⟨a1,c1,a2,c2,a,c,e,h1.mono hS,h2.mono hS,eW.mono hS args a 0 h3,h4⟩
theorem eW.mono {S S':Nat→Prop} {w:Wo} (hS:∀k,S k→S' k):∀(L:List Tm) (a:Option Addr) (i:Nat),eW S w L a i→eW S' w L a i
 | [],_,_,_=>by simp only [eW]
 |T::r,a,i,h=>by
  simp only [eW] at h ⊢;obtain⟨⟨b,off,vs,e,hb,hc,hv⟩,hr⟩:=h;exact⟨⟨b,off,vs,e,hS b hb,hc,TmS.mono hS T vs hv⟩,eW.mono hS r a (i+1) hr⟩
end
mutual
theorem TmS.keep {S:Nat→Prop} {w w':Wo} (hk:eB S w w'):∀(T:Tm) (vs:Lv),TmS S w T vs→TmS S w' T vs
 | .mk k v nm g num den args,vs,h=>by
  simp only [TmS] at h ⊢;obtain⟨a1,c1,a2,c2,a,c,e,h1,h2,h3,h4⟩:=h;exact⟨a1,c1,a2,c2,a,c,e,h1.keep hk,h2.keep hk,eW.keep hk args a 0 h3,h4⟩
theorem eW.keep {S:Nat→Prop} {w w':Wo} (hk:eB S w w'):∀(L:List Tm) (a:Option Addr) (i:Nat),eW S w L a i→eW S w' L a i
 | [],_,_,_=>by simp only [eW]
 |T::r,a,i,h=>by
  simp only [eW] at h ⊢;obtain⟨⟨b,off,vs,e,hb,hc,hv⟩,hr⟩:=h;exact⟨⟨b,off,vs,e,hb,fun j u hj=>(hk.cell (p:=⟨b,off+i*7+j,none⟩) hb).trans (hc j u hj),TmS.keep hk T vs hv⟩,eW.keep hk r a (i+1) hr⟩
end
mutual
theorem TmS.toV {S:Nat→Prop} {n:Nat} {w:Wo} (hS:∀k,S k→k<n):∀(T:Tm) (vs:Lv),TmS S w T vs→TmV n w T vs
 | .mk k v nm g num den args,vs,h=>by
  simp only [TmS] at h;simp only [TmV];obtain⟨a1,c1,a2,c2,a,c,e,h1,h2,h3,h4⟩:=h;exact⟨_,_,a,c,e,⟨⟨a1,c1,rfl,h1.toAt hS⟩,⟨a2,c2,rfl,h2.toAt hS⟩⟩,eW.toV hS args a 0 h3,h4⟩
theorem eW.toV {S:Nat→Prop} {n:Nat} {w:Wo} (hS:∀k,S k→k<n):∀(L:List Tm) (a:Option Addr) (i:Nat),eW S w L a i→eV n w L a i
 | [],_,_,_=>by simp only [eV]
 |T::r,a,i,h=>by
  simp only [eW] at h;simp only [eV];obtain⟨⟨b,off,vs,e,hb,hc,hv⟩,hr⟩:=h;exact⟨⟨b,off,vs,e,hS b hb,hc,TmS.toV hS T vs hv⟩,eW.toV hS r a (i+1) hr⟩
end
def HS {S:Nat→Prop} {w:Wo} {b off:Nat} (hb:S b):∀(L:List Tm) (i:Nat),(∀k T,L[k]?=some T→∃vs,(∀(j:Nat) u,vs[j]?=some u→w.cell? ⟨b,off+(i+k)*7+j,none⟩=some u)∧TmS S w T vs)→eW S w L (some ⟨b,off,none⟩) i
 | [],_,_=>by simp only [eW]
 |T::r,i,h=>by
  simp only [eW];obtain⟨vs,h1,h2⟩:=h 0 T rfl;refine⟨⟨b,off,vs,rfl,hb,fun j u hj=>by have:=h1 j u hj;rwa [gQ] at this,h2⟩,HS hb r (i+1) fun k T' hk=>?_⟩;obtain⟨a0,h3,h4⟩:=h (k+1) T' (by simpa using hk);exact⟨a0,fun j u hj=>by have:=h3 j u hj;rwa [show i+(k+1)=i+1+k by omega] at this,h4⟩
