/- Lemmas for the text Card; no condition. -/
import Derived.Test.YtbdpdeonapmlgaaGreatDoorAb
import Derived.Laws.BytesArg
import Derived.Laws.Strings
import Derived.Lib.SliceRun
import Derived.Laws.OwnMore
import Derived.ArgAppend
set_option linter.all false
set_option maxHeartbeats 2000000
set_option maxRecDepth 100000
namespace Go.Proofs.YtbdpdeonapmlgaaGreatDoor
open Go.RowKit Go.Big
variable {w w' c:World} {S S':Nat→Prop} {a:Option Addr} {fr:Nat × Nat} {D L a0 A C:List Nat} {sv r v s1 s2:Value} {e:TypeId} {cs:Array Value} {base m n b g i M k:Nat}
section
attribute [local go_sem] Heavy.uponW
def cP (neg:Bool) (A C:List Nat):Int:=
 if 128<A.length∨128<C.length then 3
 else if C= []∨C.getLast?=some 0∨A.getLast?=some 0 then 2
 else if val 4294967296 A=0∧(neg=true∨val 4294967296 C≠1) then 2
 else if Nat.gcd (val 4294967296 A) (val 4294967296 C)≠1 then 2
 else 0
theorem KR (w:World):aW (w.heap.size+1) (w.alloc (Obj.cells #[.int .i64 1] 3)) (.slice (some ⟨w.heap.size,0,none⟩) 1 1) 1:=by
 have hn:=sC w [iv 1] 3 (0,0);refine⟨_,[1],1,rfl,aA _,by unfold maxLen;omega,⟨by simp,fun _=>⟨w.heap.size,0,rfl,by omega,fun j x hx=>?_⟩⟩,by intro x hx;simp at hx;omega,by simp [val]⟩;rcases j with _|j
 ·simp at hx;subst hx;exact hn 0 (iv 1) rfl
 ·simp at hx
theorem VY (neg:Bool) (a1 a2:Option Addr) (a0 a7 a9 b0 n:Nat) (A C:List Nat) (e6:A.length=a0) (e7:C.length=a7) (h0:a0<4611686018427387904) (c0:a7<4611686018427387904) (w:World) (hn:n≤w.heap.size) (h1:bV n w a1 A) (h2:bV n w a2 C):
  Calls Tryz.prog 224 #[.agg #[.bool neg,.slice a1 a0 a9,.slice a2 a7 b0]] w fun e w'=>e= .returned (.int .i64 (cP neg A C))∧Below w.heap.size w w':=by
 by_cases h3:128<a0
 ·have hv:cP neg A C=3:=by unfold cP;rw [if_pos (.inl (by omega))]
  rw [hv];have e2:(128:Int)<(a0:Int):=by omega
  go_enter Tryz.func224,Tryz.ntmps224;go_wp2
  go_ret
  exact⟨rfl,aC _ _⟩
 by_cases h4:128<a7
 ·have hv:cP neg A C=3:=by unfold cP;rw [if_pos (.inr (by omega))]
  rw [hv];have e2:¬(128:Int)<(a0:Int):=by omega
  have f4:(128:Int)<(a7:Int):=by omega
  go_enter Tryz.func224,Tryz.ntmps224;go_wp2
  go_ret
  exact⟨rfl,aC _ _⟩
 have e2:¬(128:Int)<(a0:Int):=by omega
 have f4:¬(128:Int)<(a7:Int):=by omega
 by_cases f8:a7=0
 ·have hv:cP neg A C=2:=by
   unfold cP;rw [if_neg (by omega),if_pos (.inl (lB (by omega)))]
  rw [hv];subst f8;go_enter Tryz.func224,Tryz.ntmps224;go_wp2
  go_ret
  exact⟨rfl,aC _ _⟩
 obtain⟨k2,rfl⟩:∃k2,a7=k2+1:=⟨a7-1,by omega⟩;obtain⟨y,hy⟩:∃y,C[k2]?=some y:=⟨C[k2],aL (by omega)⟩;have a5:C.getLast?=some y:=by rw [rK,e7,tO];exact hy
 have d5:C≠ []:=by rintro rfl;simp at e7
 obtain⟨b2,o2,rfl,hbn2,hyl,hcy⟩:=h2.get hy;have g6:IntKind.i64.wrap ((k2:Int)+1-1)=(k2:Int):=by rw [aG];omega
 have g0:(k2:Int)<(k2:Int)+1:=by omega
 have e4:(0:Int)≤(k2:Int):=by omega
 have e8:((k2:Int)+1==0)=false:=by simp;omega
 have d9:∀o,(w.alloc o).cell? ⟨b2,o2+k2,none⟩=some (.int .u32 y):=fun o=>((aC w o).cell (p:=⟨b2,o2+k2,none⟩) (by show b2<_;omega)).trans hcy
 by_cases d6:y=0
 ·have hv:cP neg A C=2:=by
   unfold cP;rw [if_neg (by omega),if_pos (.inr (.inl (by rw [a5,d6])))]
  rw [hv];subst d6;clear a5;go_enter Tryz.func224,Tryz.ntmps224;go_wp2
  go_ret
  exact⟨rfl,aC _ _⟩
 have g7:((y:Int)==0)=false:=by simp;omega
 clear hcy
 by_cases b4:A.getLast?=some 0
 ·have hv:cP neg A C=2:=by
   unfold cP;rw [if_neg (by omega),if_pos (.inr (.inr b4))]
  rw [hv];have d2:A≠ []:=by rintro rfl;simp at b4
  obtain⟨k1,rfl⟩:∃k1,a0=k1+1:=⟨a0-1,by have:=List.length_pos_iff.2 d2;omega⟩;rw [rK,e6,tO] at b4;obtain⟨b1,o1,rfl,hbn1,hxl,hcx⟩:=h1.get b4;have g5:IntKind.i64.wrap ((k1:Int)+1-1)=(k1:Int):=by rw [aG];omega
  have f9:(k1:Int)<(k1:Int)+1:=by omega
  have e3:(0:Int)≤(k1:Int):=by omega
  have c6:(0:Int)<(k1:Int)+1:=by omega
  have d8:∀o,(w.alloc o).cell? ⟨b1,o1+k1,none⟩=some (.int .u32 (0:Nat)):=fun o=>((aC w o).cell (p:=⟨b1,o1+k1,none⟩) (by show b1<_;omega)).trans hcx
  clear a5 hcx b4;go_enter Tryz.func224,Tryz.ntmps224;go_wp2
  go_ret
  exact⟨rfl,aC _ _⟩
 obtain⟨x,hX⟩:∃x,val 4294967296 A=x:=⟨_,rfl⟩;obtain⟨z,hY⟩:∃z,val 4294967296 C=z:=⟨_,rfl⟩;have a6:cP neg A C=if x=0∧(neg=true∨z≠1) then 2 else if Nat.gcd x z≠1 then 2 else 0:=by
  unfold cP;rw [if_neg (by omega),if_neg (by rw [a5];rintro(h|h|h);exact d5 h;exact d6 (by simpa using h);exact b4 h),hX,hY]
 obtain⟨F,hF⟩:∃F:Int,(if x=0∧(neg=true∨z≠1) then 2 else if Nat.gcd x z≠1 then 2 else 0)=F:=⟨_,rfl⟩;rw [a6,hF];have AF:=aside hF;clear a6 hF;obtain⟨P,hP⟩:∃P,P=65536^256:=⟨_,rfl⟩;have e9:x<P:=by
  rw [hP,←show(4294967296:Nat)^128=65536^256 by rw [show(256:Nat)=2*128 from rfl,rF],←hX];exact aZ (val_lt h1.1) (pM (by decide) (by omega))
 have f0:z<P:=by
  rw [hP,←show(4294967296:Nat)^128=65536^256 by rw [show(256:Nat)=2*128 from rfl,rF],←hY];exact aZ (val_lt h2.1) (pM (by decide) (by omega))
 have AXY:=aside2 hX hY;have AP:=aside hP;clear hX hY hP;go_enter Tryz.func224,Tryz.ntmps224
 go_upto_region 3 with fail
 go_cut [46] from 15 to 45 (fun g8 wx=>g8= .bool false∧wx=w.alloc (Obj.cells #[.bool neg,.slice a1 a0 a9,.slice (some ⟨b2,o2,none⟩) (k2+1) b0] 45))
 case first=>
  by_cases g3:a0=0
  ·subst g3
   go_wp2_with fail
   go_meet
   exact⟨rfl,rfl⟩
  ·obtain⟨k1,rfl⟩:∃k1,a0=k1+1:=⟨a0-1,by omega⟩;obtain⟨x,hx⟩:∃x,A[k1]?=some x:=⟨A[k1],aL (by omega)⟩;rw [rK,e6,tO,hx] at b4;obtain⟨b1,o1,rfl,hbn1,hxl,hcx⟩:=h1.get hx;have h6:((x:Int)==0)=false:=by have:x≠0:=fun e=>b4 (by rw [e]);simp;omega
   have g5:IntKind.i64.wrap ((k1:Int)+1-1)=(k1:Int):=by rw [aG];omega
   have f9:(k1:Int)<(k1:Int)+1:=by omega
   have e3:(0:Int)≤(k1:Int):=by omega
   have c6:(0:Int)<(k1:Int)+1:=by omega
   have d8:∀o,(w.alloc o).cell? ⟨b1,o1+k1,none⟩=some (.int .u32 x):=fun o=>((aC w o).cell (p:=⟨b1,o1+k1,none⟩) (by show b1<_;omega)).trans hcx
   clear a5 hcx b4
   go_wp2_with fail
   go_meet
   exact⟨rfl,rfl⟩
 case rest=>
  obtain⟨rfl,hwx⟩:=hcut;have g4:w.heap.size<wc.heap.size:=by rw [hwx,cT];omega
  have c1:Below w.heap.size w wc:=hwx▸aC _ _;have b5:wc.heap[w.heap.size]?=some (Obj.cells #[.bool neg,.slice a1 a0 a9,.slice (some ⟨b2,o2,none⟩) (k2+1) b0] 45):=by rw [hwx];exact heap_alloc_new _ _
  have c9:wc.cell? ⟨w.heap.size,0,none⟩=some (.bool neg):=by simp [World.cell?,b5]
  have d0:wc.cell? ⟨w.heap.size,1,none⟩=some (.slice a1 a0 a9):=by simp [World.cell?,b5]
  have d1:wc.cell? ⟨w.heap.size,2,none⟩=some (.slice (some ⟨b2,o2,none⟩) (k2+1) b0):=by simp [World.cell?,b5]
  have g1:=h1.below c1 hn;have g2:=h2.below c1 hn;clear hwx;generalize wc=wb at*;clear b5 a5 d9 e2 f4 g6 g0 e4 e8 g7
  go_upto_region 5 with fail
  go_cut [3,4] from 47 to 52 (fun s3 s4 wx=>aW wx.heap.size wx s3 x∧aW wx.heap.size wx s4 z∧Below wb.heap.size wb wx)
  case first=>
   refine Heavy.region_plan (fun w'=>Below wb.heap.size wb w') 6 (Heavy.lights [0,1,3,4] (.one 2 (.one 5 .done))) (by kernel_rfl) (by kernel_rfl) ⟨rfl,rfl,rfl,aA _,fun _ _=>rfl⟩ ?_;simp only [Heavy.lights,bB,bJ,bF,bE];have fc:∀w2,Below wb.heap.size wb w2→w2.cell? ⟨w.heap.size,1,none⟩=some (.slice a1 a0 a9)∧w2.cell? ⟨w.heap.size,2,none⟩=some (.slice (some ⟨b2,o2,none⟩) (k2+1) b0):=fun w2 hb=>
    ⟨(hb.cell (p:=⟨w.heap.size,1,none⟩) (by show w.heap.size<_;omega)).trans d0,(hb.cell (p:=⟨w.heap.size,2,none⟩) (by show w.heap.size<_;omega)).trans d1⟩
   clear c9 d0 d1;have f1:Below wb.heap.size wb { wb with drawn:=wb.drawn+1 }:=⟨rfl,rfl,rfl,aA _,fun _ _=>rfl⟩;have n1:=fun w' (hb:Below wb.heap.size wb w')=>xO a1 a0 a9 n A e6 (by omega) w' (by have:=hb.size;omega) (g1.below hb (by omega))
   rw [AXY.out.1] at n1;have n2:=fun w' (hb:Below wb.heap.size wb w')=>xO (some ⟨b2,o2,none⟩) (k2+1) b0 n C e7 (by omega) w' (by have:=hb.size;omega) (g2.below hb (by omega))
   rw [AXY.out.2] at n2
   iterate 4 (apply Heavy.light_n;(exact rfl);(exact rfl);(intro f5 hw;have x0:=(fc f5 hw).1;have x1:=(fc f5 hw).2;go_simp;exact rfl))
   apply Heavy.one_n
   ·exact rfl
   ·exact rfl
   go_simp
   refine(n1 _ f1).mono ?_;rintro e w3 ⟨r3,rfl,hN3,hb3⟩;have b9:Below wb.heap.size wb w3:=f1.trans hb3;refine⟨_,rfl,b9,?_⟩;apply Heavy.one_n
   ·exact rfl
   ·exact rfl
   go_simp
   refine(n2 _ b9).mono ?_;rintro e w4 ⟨r4,rfl,hN4,hb4⟩;refine⟨_,rfl,b9.trans (hb4.mono b9.size),?_⟩;apply Heavy.plan_end;show wpList _ _ _ _ _ _;go_wp2
   go_meet
   exact⟨(hN3.below hb4 (aA _)).up hb4.size,hN4,b9.trans (hb4.mono b9.size)⟩
  case rest=>
   obtain⟨hA,hC,hB⟩:=hcut;have e0:wc.cell? ⟨w.heap.size,0,none⟩=some (.bool neg):=(hB.cell (p:=⟨w.heap.size,0,none⟩) g4).trans c9;have d4:Below w.heap.size w wc:=c1.trans (hB.mono c1.size);clear c9 d0 d1 g1 g2 hB c1;have hP:=AP.out;clear h1 h2 b4;obtain⟨a3,l3,c3,rfl⟩:=hA.slice;obtain⟨a4,l4,c4,rfl⟩:=hC.slice;have c8:=hA.zero_iff
   go_upto_region 6 with fail
   go_cut [65] from 53 to 64 (fun g9 wx=>g9= .bool (decide (x=0∧(neg=true∨z≠1)))∧Below wc.heap.size wc wx)
   case first=>
    by_cases b7:x=0
    ·obtain rfl:l3=0:=c8.1 b7;have Ax:=aside b7;clear b7 c8;cases neg
     ·have d3:=aC wc (Obj.cells #[.int .i64 1] 3);have b6:=CO _ _ _ _ z 1 256 (wc.alloc (Obj.cells #[.int .i64 1] 3)) (hC.below d3 (aA _)) (KR wc) (hP▸f0) (Nat.one_lt_pow (by decide) (by decide)) (by decide)
      by_cases c7:z=1
      ·have b3:eU z 1=0:=by simp [eU,c7]
       rw [b3] at b6;have Ay:=aside c7;clear c7 b3
       go_wp2_with (go_at_call 265;with_reducible refine b6.mono ?_;rintro e w' ⟨rfl,rfl⟩)
       go_meet
       exact⟨by simp [Ax.out,Ay.out],d3⟩
      ·obtain⟨cv,b3⟩:∃cv,eU z 1=cv:=⟨_,rfl⟩;have f2:(cv==0)=false:=by
        rw [←b3];unfold eU;split
        ·rfl
        ·split
         ·rfl
         ·exfalso;omega
       have d7:Aside (¬cv=0):=by intro h;simp [h] at f2
       rw [b3] at b6;have Ay:=aside c7;clear c7 b3
       go_wp2_with (go_at_call 265;with_reducible refine b6.mono ?_;rintro e w' ⟨rfl,rfl⟩)
       go_meet
       exact⟨by have:=d7.out;simp [Ax.out,Ay.out,this],d3⟩
     ·go_wp2_with fail
      go_meet
      exact⟨by simp [Ax.out],aI _ _⟩
    ·have h5:((l3:Int)==0)=false:=by have:l3≠0:=fun e=>b7 (c8.2 e);simp;omega
     have Ax:=aside b7;clear b7 c8
     go_wp2_with fail
     go_meet
     exact⟨by simp [Ax.out],aI _ _⟩
   case rest=>
    obtain⟨rfl,hB2⟩:=hcut;have a8:=d4.trans (hB2.mono d4.size);have f6:=(hA.below hB2 (aA _)).up hB2.size;have f7:=(hC.below hB2 (aA _)).up hB2.size;clear hA hC hB2 e0 d4 c8
    by_cases a6:x=0∧(neg=true∨z≠1)
    ·have c2:Aside (F=2):=by have:=AF.out;rw [if_pos a6] at this;exact this.symm
     have hd:decide (x=0∧(neg=true∨z≠1))=true:=tJ a6;rw [hd];clear hd a6;go_wp2
     go_ret
     exact⟨by rw [c2.out];rfl,a8⟩
    ·have b8:=AF.out;rw [if_neg a6] at b8;have hd:decide (x=0∧(neg=true∨z≠1))=false:=lV a6;rw [hd];clear hd a6;have hg:=WC _ _ _ _ x z P 256 hP (by decide) e9 f0 wc (aA _) (aA _) f6 f7;obtain⟨g,hgg⟩:∃g,Nat.gcd x z=g:=⟨_,rfl⟩;have f3:g<P∨x=0∧z=0:=by
      rw [←hgg]
      by_cases b7:x=0
      ·subst b7;rw [RW];exact .inl f0
      ·exact .inl (fO (Nat.gcd_le_left z (Nat.pos_of_ne_zero b7)) e9)
     have e1:g<P:=by
      rcases f3 with h|⟨rfl,rfl⟩
      ·exact h
      ·rw [←hgg];exact e9
     rw [hgg] at hg;have Agg:=aside hgg;have b6:=fun w' r (hr:aW w'.heap.size w' r g)=>CO _ _ _ _ g 1 256 (w'.alloc (Obj.cells #[.int .i64 1] 3)) (hr.below (aC w' (Obj.cells #[.int .i64 1] 3)) (aA _)) (KR w') (hP▸e1) (Nat.one_lt_pow (by decide) (by decide)) (by decide)
     clear f3 hgg
     by_cases c5:g=1
     ·have b3:eU g 1=0:=by simp [eU,c5]
      rw [if_neg (by rw [Agg.out];simpa using c5)] at b8;have c2:Aside (F=0):=b8.symm;rw [b3] at b6;clear b3 c5 b8
      go_wp2_with first|(go_at_call 266;with_reducible refine hg.mono ?_;rintro e w2 ⟨rg,rfl,hR,c0⟩)|(go_at_call 265;with_reducible refine(b6 _ _ (by assumption)).mono ?_;rintro e w' ⟨rfl,rfl⟩)
      go_ret
      exact⟨by rw [c2.out];rfl,a8.trans ((c0.mono a8.size).alloc (aE a8.size c0.size) _)⟩
     ·obtain⟨cv,b3⟩:∃cv,eU g 1=cv:=⟨_,rfl⟩;have f2:(cv==0)=false:=by
       rw [←b3];unfold eU;split
       ·rfl
       ·split
        ·rfl
        ·exfalso;omega
      rw [if_pos (by rw [Agg.out];simpa using c5)] at b8;have c2:Aside (F=2):=b8.symm;rw [b3] at b6;clear b3 c5 b8
      go_wp2_with first|(go_at_call 266;with_reducible refine hg.mono ?_;rintro e w2 ⟨rg,rfl,hR,c0⟩)|(go_at_call 265;with_reducible refine(b6 _ _ (by assumption)).mono ?_;rintro e w' ⟨rfl,rfl⟩)
      go_ret
      exact⟨by rw [c2.out];rfl,a8.trans ((c0.mono a8.size).alloc (aE a8.size c0.size) _)⟩
end
section
attribute [local go_sem] Heavy.uponW
theorem CA (h:w.heap[g]?=some (.cells cs e fr)) (k:Nat):
  (w.setCell ⟨g,i,none⟩ v).heap[k]?=if k=g then some (.cells (cs.setIfInBounds i v) e fr) else w.heap[k]?:=by
 show(Array.modify w.heap g _)[k]?=_;rw [lH]
 by_cases hk:k=g
 ·subst hk;simp [h]
 ·rw [if_neg (eH hk),if_neg hk]
theorem rU (w:World) (g i:Nat) (v:Value):(w.setCell ⟨g,i,none⟩ v).heap.size=w.heap.size:=by
 simp [World.setCell]
theorem WT {x y z a b c:Value} (h:w.heap[k]?=some (.cells #[x,y,z] e fr)):(((w.setCell ⟨k,0,none⟩ a).setCell ⟨k,1,none⟩ b).setCell ⟨k,2,none⟩ c).heap[k]?=some (.cells #[a,b,c] e fr):=by
 have h1:=CA (i:=0) (v:=a) h k;rw [if_pos rfl] at h1;have h2:=CA (i:=1) (v:=b) h1 k;rw [if_pos rfl] at h2;have h3:=CA (i:=2) (v:=c) h2 k;rw [if_pos rfl] at h3;exact h3
theorem FR (w:World) (n g i:Nat) (v:Value) (h:n≤g):Below n w (w.setCell ⟨g,i,none⟩ v):=(aI n w).setCell h v
theorem aW.aside {v:Nat} (h:aW n w r v) (hg:w.heap[g]?=some (.cells cs e fr)) (b4:∀(i:Nat) (x:Int),cs[i]?≠some (.int .i64 x)) (hk:∀k,k≠g→w'.heap[k]?=w.heap[k]?):aW n w' r v:=by
 obtain⟨a,L,c,h1,h2,h3,⟨h4,h4'⟩,h5⟩:=h;refine⟨a,L,c,h1,h2,h3,⟨h4,fun c7=>?_⟩,h5⟩;obtain⟨b,off,e1,hb,hc⟩:=h4' c7;refine⟨b,off,e1,hb,fun j x hx=>?_⟩;have b3:=hc j x hx;have c2:b≠g:=by
  rintro rfl;simp only [World.cell?,hg] at b3;exact b4 _ _ b3
 simp only [World.cell?,hk b c2] at b3 ⊢;exact b3
def RatR (n:Nat) (w:World) (v:Value) (neg:Bool) (x y:Nat):Prop:=∃r1 r2,v= .agg #[.bool neg,r1,r2]∧aW n w r1 x∧aW n w r2 y
theorem JH (neg:Bool) (a1 a2:Option Addr) (a0 a5 a6 a7 n:Nat) (A C:List Nat) (c5:A.length=a0) (c6:C.length=a5) (c0:a0≤1048576) (c1:a5≤1048576) (w:World) (hn:n≤w.heap.size) (h1:bV n w a1 A) (h2:bV n w a2 C):
  Calls Tryz.prog 227 #[.agg #[.bool neg,.slice a1 a0 a6,.slice a2 a5 a7]] w fun e w'=>∃v,e= .returned v∧RatR w'.heap.size w' v neg (val 4294967296 A) (val 4294967296 C)∧Below w.heap.size w w':=by
 have b1:=aC w (Obj.cells #[.bool neg,.slice a1 a0 a6,.slice a2 a5 a7] 45);have b2:=aC (w.alloc (Obj.cells #[.bool neg,.slice a1 a0 a6,.slice a2 a5 a7] 45)) (Obj.cells #[.bool false,.slice none 0 0,.slice none 0 0] 249);have q1:=heap_alloc_new w (Obj.cells #[.bool neg,.slice a1 a0 a6,.slice a2 a5 a7] 45);have q2:=heap_alloc_new (w.alloc (Obj.cells #[.bool neg,.slice a1 a0 a6,.slice a2 a5 a7] 45)) (Obj.cells #[.bool false,.slice none 0 0,.slice none 0 0] 249);have sz:((w.alloc (Obj.cells #[.bool neg,.slice a1 a0 a6,.slice a2 a5 a7] 45)).alloc (Obj.cells #[.bool false,.slice none 0 0,.slice none 0 0] 249)).heap.size=w.heap.size+2:=by simp
 rw [cT] at q2 b2;have b5:=(b2.block w.heap.size (by omega)).trans q1;have b0:=b1.trans (b2.mono (by omega));clear b1 b2 q1;go_enter Tryz.func227,Tryz.ntmps227
 go_upto_region 1 with fail
 generalize (w.alloc (Obj.cells #[.bool neg,.slice a1 a0 a6,.slice a2 a5 a7] 45)).alloc (Obj.cells #[.bool false,.slice none 0 0,.slice none 0 0] 249)=wb at*;have c9:=b0.size;have c8:w.heap.size+1<wb.heap.size:=by omega
 clear sz;have g1:=h1.below b0 hn;have g2:=h2.below b0 hn;have k1:wb.cell? ⟨w.heap.size,0,none⟩=some (.bool neg):=by simp [World.cell?,b5]
 have k2:wb.cell? ⟨w.heap.size,1,none⟩=some (.slice a1 a0 a6):=by simp [World.cell?,b5]
 have k3:wb.cell? ⟨w.heap.size,2,none⟩=some (.slice a2 a5 a7):=by simp [World.cell?,b5]
 have fc:∀w2,Below wb.heap.size wb w2→w2.cell? ⟨w.heap.size,0,none⟩=some (.bool neg)∧w2.cell? ⟨w.heap.size,1,none⟩=some (.slice a1 a0 a6)∧w2.cell? ⟨w.heap.size,2,none⟩=some (.slice a2 a5 a7):=fun w2 hb=>
  ⟨(hb.cell (p:=⟨w.heap.size,0,none⟩) (by show w.heap.size<_;omega)).trans k1,(hb.cell (p:=⟨w.heap.size,1,none⟩) (by show w.heap.size<_;omega)).trans k2,(hb.cell (p:=⟨w.heap.size,2,none⟩) (by show w.heap.size<_;omega)).trans k3⟩
 clear k1 k2 k3 b5;have b7:Below wb.heap.size wb { wb with drawn:=wb.drawn+1 }:=⟨rfl,rfl,rfl,aA _,fun _ _=>rfl⟩;have n1:=fun w' (hb:Below wb.heap.size wb w')=>xO a1 a0 a6 n A c5 c0 w' (by have:=hb.size;omega) (g1.below hb (by omega))
 have n2:=fun w' (hb:Below wb.heap.size wb w')=>xO a2 a5 a7 n C c6 c1 w' (by have:=hb.size;omega) (g2.below hb (by omega))
 refine Heavy.region_plan (fun w'=>Below wb.heap.size wb w') 8 (Heavy.lights [0,1,2,3,5,6] (.one 4 (.one 7 .done))) (by kernel_rfl) (by kernel_rfl) b7 ?_;simp only [Heavy.lights,bB,bJ,bF,bE]
 iterate 6 (apply Heavy.light_n;(exact rfl);(exact rfl);(intro b9 hw;have x0:=(fc b9 hw).1;have x1:=(fc b9 hw).2.1;have x2:=(fc b9 hw).2.2;go_simp;exact rfl))
 apply Heavy.one_n
 ·exact rfl
 ·exact rfl
 go_simp
 refine(n1 _ b7).mono ?_;rintro e w3 ⟨r3,rfl,hN3,hb3⟩;have a9:Below wb.heap.size wb w3:=b7.trans hb3;refine⟨_,rfl,a9,?_⟩;apply Heavy.one_n
 ·exact rfl
 ·exact rfl
 go_simp
 refine(n2 _ a9).mono ?_;rintro e w4 ⟨r4,rfl,hN4,hb4⟩;have b6:=a9.trans (hb4.mono a9.size);refine⟨_,rfl,b6,?_⟩;apply Heavy.plan_end;show wpList _ _ _ _ _ _;have q4:=(b6.block (w.heap.size+1) (by omega)).trans q2;have a8:=(hN3.below hb4 (aA _)).up hb4.size;obtain⟨a3,l3,c3,rfl⟩:=a8.slice;obtain⟨a4,l4,c4,rfl⟩:=hN4.slice;obtain⟨d0,d1,d2,z0,z1,z2⟩:w4.cell? ⟨w.heap.size+1,0,none⟩=some (.bool false)∧w4.cell? ⟨w.heap.size+1,1,none⟩=some (.slice none 0 0)∧w4.cell? ⟨w.heap.size+1,2,none⟩=some (.slice none 0 0)∧
   w4.frozen? ⟨w.heap.size+1,0,none⟩=false∧w4.frozen? ⟨w.heap.size+1,1,none⟩=false∧w4.frozen? ⟨w.heap.size+1,2,none⟩=false:=by
  simp [World.cell?,World.frozen?,q4]
 go_wp2;have b8:=WT (a:=.bool neg) (b:=.slice a3 l3 c3) (c:=.slice a4 l4 c4) q4;have hk:∀k,k≠w.heap.size+1→(((w4.setCell ⟨w.heap.size+1,0,none⟩ (.bool neg)).setCell ⟨w.heap.size+1,1,none⟩ (.slice a3 l3 c3)).setCell ⟨w.heap.size+1,2,none⟩ (.slice a4 l4 c4)).heap[k]?=w4.heap[k]?:=fun k hk=>by
  rw [kF _ _ _ _ hk,kF _ _ _ _ hk,kF _ _ _ _ hk]
 have b4:∀(i:Nat) (x:Int),(#[Value.bool false,.slice none 0 0,.slice none 0 0]:Array Value)[i]?≠some (.int .i64 x):=by
  intro i x;rcases i with _|_|_|i<;>simp
 refine kW (results_cell_row rfl _ _ (w.heap.size+1) 249 _ _ _ rfl b8 Tryz.underlying249 rfl (by kernel_rfl)) rfl ?_;refine⟨_,rfl,⟨_,_,rfl,?_,?_⟩,?_⟩
 ·rw [rU,rU,rU];exact a8.aside q4 b4 hk
 ·rw [rU,rU,rU];exact hN4.aside q4 b4 hk
 ·refine b0.trans ((b6.mono (by omega)).trans ?_);exact(FR _ _ _ _ _ (by omega)).trans ((FR _ _ _ _ _ (by omega)).trans (FR _ _ _ _ _ (by omega)))
end
def bv (x:Nat):Value:=.int .u8 x
def strN (L:List Nat):ByteArray:=strOfNums (L.map fun x:Nat=>(x:Int))
theorem AJ {a b:ByteArray} (h:a.data.toList=b.data.toList):a=b:=by
 cases a;cases b;simp at h;congr
def BytRow (base:Nat) (w:World) (sv:Value) (D:List Nat):Prop:=w.ownsRow base 5 1 sv D.length (D.map bv)
theorem BytRow.kept (h:BytRow base w sv D) (hk:∀k,base≤k→k<w.heap.size→w'.heap[k]?=w.heap[k]?):BytRow base w' sv D:=by
 obtain⟨h1,h2|⟨g,cap,a0,e1,hb,hg,h3⟩⟩:=h
 ·exact⟨h1,.inl h2⟩
 ·exact⟨h1,.inr ⟨g,cap,a0,e1,hb,(hk g hb (Array.getElem?_eq_some_iff.1 hg).1).trans hg,h3⟩⟩
theorem BytRow.below (h:BytRow base w sv D) (hb:Below m w w') (hm:w.heap.size≤m):BytRow base w' sv D:=
 h.kept fun k _ hk=>hb.block k (by omega)
theorem BytRow.nil (base:Nat) (w:World):BytRow base w (.slice none 0 0) []:=oC _ _ _ _
theorem BytRow.own (h:BytRow base w sv D):∀k,sv.ownBlock=some k→base≤k∧k<w.heap.size:=bT h
def BytAt (n:Nat) (w:World) (a:Option Addr) (L:List Nat):Prop:=
 L≠ []→∃b off,a=some ⟨b,off,none⟩∧b<n∧∀(j x:Nat),L[j]?=some x→w.cell? ⟨b,off+j,none⟩=some (.int .u8 x)
theorem BytAt.below (h:BytAt n w a L) (hb:Below m w w') (hm:n≤m):BytAt n w' a L:=by
 intro a1;obtain⟨b,off,e,hbn,hc⟩:=h a1;exact⟨b,off,e,hbn,fun j x hx=>((hb.mono hm).cell (p:=⟨b,off+j,none⟩) hbn).trans (hc j x hx)⟩
theorem BytRow.at (h:BytRow base w sv D):∃a c,sv= .slice a D.length c∧D.length≤c∧c≤maxLen∧BytAt w.heap.size w a D:=by
 obtain⟨h1,⟨e,h0⟩|⟨g,cap,a0,e1,hb,hg,hnc,hm,hs,ht⟩⟩:=h
 ·have:D= []:=lB h0;subst this;exact⟨none,0,e,aA _,aT _,fun h=>absurd rfl h⟩
 ·refine⟨some ⟨g,0,none⟩,cap,e1,hnc,hm,fun _=>⟨g,0,rfl,(Array.getElem?_eq_some_iff.1 hg).1,fun j x hx=>?_⟩⟩;have hj:=(List.getElem?_eq_some_iff.1 hx).1;have h2:a0[j]?=some (bv x):=by
   rw [←gQ,←gC (show j<D.length*1 by omega),ht,jK,hx];rfl
  simpa [World.cell?,hg,bv] using h2
def BBlk (w:World) (b:Nat) (a0:List Nat):Prop:=w.heap[b]?=some (.cells (a0.map bv).toArray 5 (0,0))
theorem BBlk.cell (h:BBlk w b a0) {k x:Nat} (hx:a0[k]?=some x):w.cell? ⟨b,k,none⟩=some (.int .u8 x)∧w.frozen? ⟨b,k,none⟩=false:=by
 unfold BBlk at h;simp [World.cell?,World.frozen?,h,hx,bv]
theorem BBlk.made (w:World) (n:Nat):BBlk (w.alloc (.cells (madeCells #[.int .u8 0] n) 5)) w.heap.size (List.replicate n 0):=by
 unfold BBlk;rw [heap_alloc_new];congr 2;apply rO;intro i
 by_cases hi:i<n
 ·simp [madeCells,hi,wR,bv]
 ·simp [madeCells,hi]
theorem BBlk.kept (h:BBlk w b a0) (hb:Below m w w') (hm:b<m):BBlk w' b a0:=(hb.block b hm).trans h
theorem BBlk.put (h:BBlk w b a0) {k x:Nat} (hk:k<a0.length):BBlk (w.setCell ⟨b,k,none⟩ (.int .u8 x)) b (a0.set k x):=by
 have a2:b<w.heap.size:=(Array.getElem?_eq_some_iff.1 h).1;unfold BBlk at*;show(Array.modify w.heap b _)[b]?=_;rw [lH,if_pos rfl,h];simp [bv]
theorem BBlk.string (h:BBlk w b a0) (hn:a0.length=n):(convert 279 9 (.slice (some ⟨b,0,none⟩) n n)).run Tryz.prog w= .ok (.string (strN a0)) w:=
 run_convert_bytes_arg w 279 5 Tryz.underlying279 Tryz.underlying5 b 0 n n _ (by simp [hn]) (fun i hi=>by
  obtain⟨x,hx⟩:∃x,a0[i]?=some x:=⟨a0[i],aL (by omega)⟩;rw [cG,(h.cell hx).1];simp [hx]) 9 Tryz.underlying9
section
attribute [local go_sem] Heavy.uponW
theorem yX (h:∀x∈A,x<4294967296) (hM:2*A.length≤M):val 4294967296 A<65536^M:=by
 rw [←BQ A];refine aZ (val_lt (IE h)) (pM (by decide) ?_);rw [BR];exact hM
structure NumAt (n:Nat) (w:World) (neg:Bool) (s1 s2:Value) (A C:List Nat):Prop where
 at1:∃a c,s1= .slice a A.length c∧bV n w a A
 at2:∃a c,s2= .slice a C.length c∧bV n w a C
theorem NumAt.below {neg:Bool} (h:NumAt n w neg s1 s2 A C) (hb:Below m w w') (hm:n≤m):NumAt n w' neg s1 s2 A C:=by
 obtain⟨⟨a,c,e1,h1⟩,⟨a',c',e2,h2⟩⟩:=h;exact⟨⟨a,c,e1,h1.below hb hm⟩,⟨a',c',e2,h2.below hb hm⟩⟩
theorem strEq (a c:ByteArray):(a.toList==c.toList)=decide (a=c):=by
 rw [lD,lD]
 by_cases h:a=c
 ·subst h;simp
 ·rw [lV h];simp only [beq_eq_false_iff_ne,ne_eq];exact fun e=>h (AJ e)
theorem cY {v0 v1 v2 v3 v4 v5 v6:Value} (h:w.heap[g]?=some (.cells #[v0,v1,v2,v3,v4,v5,v6] e fr)):
  w.cell? ⟨g,0,none⟩=some v0∧w.cell? ⟨g,1,none⟩=some v1∧w.cell? ⟨g,2,none⟩=some v2∧w.cell? ⟨g,3,none⟩=some v3∧w.cell? ⟨g,4,none⟩=some v4∧w.cell? ⟨g,5,none⟩=some v5∧w.cell? ⟨g,6,none⟩=some v6:=by
 simp [World.cell?,h]
theorem tY (w:World) (o1 o2:Obj):Below w.heap.size w ((w.alloc o1).alloc o2)∧((w.alloc o1).alloc o2).heap[w.heap.size]?=some o1∧((w.alloc o1).alloc o2).heap[w.heap.size+1]?=some o2∧w.heap.size+2≤((w.alloc o1).alloc o2).heap.size:=by
 have b1:=aC w o1;have b2:=aC (w.alloc o1) o2;have q1:=heap_alloc_new w o1;have q2:=heap_alloc_new (w.alloc o1) o2;rw [cT] at q2 b2;exact⟨b1.trans (b2.mono (by omega)),(b2.block w.heap.size (by omega)).trans q1,q2,by simp⟩
end
section
attribute [local go_sem] Heavy.uponW
theorem DZ:(Tryz.prog.info? 175).map (fun i=>(i.zero,i.size,i.bytes))=some (some (.int .u32 0),1,4):=by kernel_rfl
def lv (x:Nat):Value:=.int .u32 x
def LimS (S:Nat→Prop) (w:World) (a:Option Addr) (L:List Nat):Prop:=
 (∀x∈L,x<4294967296)∧(L≠ []→∃b off,a=some ⟨b,off,none⟩∧S b∧∀(j x:Nat),L[j]?=some x→w.cell? ⟨b,off+j,none⟩=some (.int .u32 x))
def Fresh (a b:Nat):Nat→Prop:=fun k=>a≤k∧k<b
def Same (S:Nat→Prop) (w w':World):Prop:=∀k,S k→w'.heap[k]?=w.heap[k]?
theorem Same.cell (h:Same S w w') {p:Addr} (hp:S p.block):w'.cell? p=w.cell? p:=GM (w:=w) (h p.block hp)
theorem Same.of_below (h:Below m w w') (hS:∀k,S k→k<m):Same S w w':=fun k hk=>h.block k (hS k hk)
theorem Same.trans {a b:World} (h:Same S a b) (h':Same S b c):Same S a c:=fun k hk=>(h' k hk).trans (h k hk)
theorem LimS.mono (h:LimS S w a L) (hS:∀k,S k→S' k):LimS S' w a L:=by
 refine⟨h.1,fun a2=>?_⟩;obtain⟨b,off,e,hb,hc⟩:=h.2 a2;exact⟨b,off,e,hS b hb,hc⟩
theorem LimS.keep (h:LimS S w a L) (hk:Same S w w'):LimS S w' a L:=by
 refine⟨h.1,fun a2=>?_⟩;obtain⟨b,off,e,hb,hc⟩:=h.2 a2;exact⟨b,off,e,hb,fun j x hx=>(hk.cell (p:=⟨b,off+j,none⟩) hb).trans (hc j x hx)⟩
theorem LimS.toAt (h:LimS S w a L) (hS:∀k,S k→k<n):bV n w a L:=by
 refine⟨h.1,fun a2=>?_⟩;obtain⟨b,off,e,hb,hc⟩:=h.2 a2;exact⟨b,off,e,hS b hb,hc⟩
theorem ZC (hA:∀x∈A,x<4294967296) (h:w.ownsRow base 175 1 sv A.length (A.map lv)):∃a c,sv= .slice a A.length c∧LimS (Fresh base w.heap.size) w a A:=by
 obtain⟨h1,⟨e,h0⟩|⟨g,cap,cur,e1,hb,hg,hnc,hm,hs,ht⟩⟩:=h
 ·have:A= []:=lB h0;subst this;exact⟨none,0,e,hA,fun h=>absurd rfl h⟩
 ·refine⟨some ⟨g,0,none⟩,cap,e1,hA,fun _=>⟨g,0,rfl,⟨hb,(Array.getElem?_eq_some_iff.1 hg).1⟩,fun j x hx=>?_⟩⟩;have hj:=(List.getElem?_eq_some_iff.1 hx).1;have h2:cur[j]?=some (lv x):=by
   rw [←gQ,←gC (show j<A.length*1 by omega),ht,jK,hx];rfl
  simpa [World.cell?,hg,lv] using h2
theorem uL (s:Value) (n:Nat) (A:List Nat) (hA:A.length≤1048576) (w:World) (hn:n≤w.heap.size) (h:∃a c,s= .slice a A.length c∧bV n w a A):
  Calls Tryz.prog 129 #[s] w fun e w'=>∃sv,e= .returned sv∧(∃a c,sv= .slice a A.length c∧LimS (Fresh w.heap.size w'.heap.size) w' a A)∧Below w.heap.size w w':=by
 obtain⟨a,cap,rfl,h1⟩:=h;have b1:∀(w:World) (a:Option Addr) (n c n' c':Nat),(binOp .eql 43 (.slice a n c) (.slice none n' c')).run Tryz.prog w= .ok (.bool a.isNone) w:=fun w a n c n' c'=>SS w _ _ a n c n' c' Tryz.underlying43
 cases a with
 | none=>
  have a7:A= []:=by
   apply iA;intro a2;obtain⟨b,off,e,_⟩:=h1.2 a2;cases e
  subst a7;go_enter Tryz.func129,Tryz.ntmps129;go_wp2
  go_ret
  exact⟨_,rfl,⟨none,0,rfl,h1.1,fun h=>absurd rfl h⟩,aI _ _⟩
 | some ad=>
  obtain⟨i0,hi,hz0,hz1,hz2⟩:=mV DZ;have a4:(w.alloc (Obj.cells #[] 175)).ownsRow w.heap.size 175 1 (.slice (some ⟨w.heap.size,0,none⟩) 0 0) 0 []:=World.ownsRow_made w #[] 0 (aA _) (by unfold maxLen;omega) (by simp);have a3:∀(j:Nat) u,(A.map lv)[j]?=some u→(w.alloc (Obj.cells #[] 175)).cell? (ad.add j)=some u:=fun j u hj=>by
   rw [jK] at hj;obtain⟨x,hx,rfl⟩:=rD.1 hj;obtain⟨b,off,e,hb,hc⟩:=h1.2 (by rintro rfl;simp at hx);cases e;rw [jN];exact((aC w _).cell (p:=⟨b,off+j,none⟩) (by show b<_;omega)).trans (hc j x hx)
  have a5:∀u∈A.map lv,u.oneCell'=true:=by
   intro u hu;obtain⟨y,_,rfl⟩:=dG.1 hu;rfl
  obtain⟨len,hl⟩:∃len,A.length=len:=⟨_,rfl⟩;have b0:(A.map lv).length=len*1:=by rw [oG,hl];omega
  rw [hl] at hA ⊢;have Al:=aside hl;have a9:=h1.1;clear h1 hl;go_enter Tryz.func129,Tryz.ntmps129
  go_wp2_with (at_builtin;refine wpList_append_own _ rfl _ _ 43 rfl w.heap.size 175 i0 (.int .u32 0) 1 4 Tryz.underlying43 hi hz0 hz1 hz2 rfl (by decide) _ _ _ rfl a4 ad len cap (A.map lv) rfl b0 a3 a5 (by unfold maxLen;omega) (by omega) (by simp) ?_;intro v' w3 a0 a1 a6)
  go_ret
  have a8:Below w.heap.size w w3:=((aI _ w).alloc (aA _) _).grown a1 (by simp) (by intro k hk;cases hk;exact aA _);rw [cG,oF,←Al.out] at a0;have:=ZC a9 a0;rw [Al.out] at this;exact⟨_,rfl,this,a8⟩
end
theorem VZ (g:Bool) (a1 a2:Option Addr) (l1 l2 c1 c2:Nat) (w:World):
  Calls Tryz.prog 223 #[.agg #[.bool g,.slice a1 l1 c1,.slice a2 l2 c2]] w fun e w'=>e= .returned (.bool (!g&&(((l1:Int)==0)&&((l2:Int)==0))))∧Below w.heap.size w w':=by
 have hB:=aC w (Obj.cells #[.bool g,.slice a1 l1 c1,.slice a2 l2 c2] 45);obtain⟨F,hF⟩:∃F,(!g&&(((l1:Int)==0)&&((l2:Int)==0)))=F:=⟨_,rfl⟩;rw [hF];cases g
 ·by_cases h1:l1=0
  ·subst h1;have a0:F=((l2:Int)==0):=by rw [←hF];simp
   subst a0;clear hF;go_enter Tryz.func223,Tryz.ntmps223;go_wp2
   go_ret
   exact⟨rfl,hB⟩
  ·have a3:((l1:Int)==0)=false:=by simp;omega
   have a0:F=false:=by rw [←hF,a3];rfl
   subst a0;clear hF;go_enter Tryz.func223,Tryz.ntmps223;go_wp2
   go_ret
   exact⟨rfl,hB⟩
 ·have a0:F=false:=by rw [←hF];rfl
  subst a0;clear hF;go_enter Tryz.func223,Tryz.ntmps223;go_wp2
  go_ret
  exact⟨rfl,hB⟩
inductive Tm where
 |mk (k v:Int) (nm:ByteArray) (g:Bool) (num den:List Nat) (args:List Tm)
mutual
def TmV (n:Nat) (w:World):Tm→List Value→Prop
 | .mk k v nm g num den args,vs=>∃s1 s2 a c,vs= [.int .i64 k,.int .i64 v,.string nm,.bool g,s1,s2,.slice a args.length c]∧NumAt n w g s1 s2 num den∧cR n w args a 0∧args.length≤1048576∧num.length≤1048576∧den.length≤1048576
def cR (n:Nat) (w:World):List Tm→Option Addr→Nat→Prop
 | [],_,_=>True
 |T::r,a,i=>(∃b off vs,a=some ⟨b,off,none⟩∧b<n∧(∀(j:Nat) u,vs[j]?=some u→w.cell? ⟨b,off+i*7+j,none⟩=some u)∧TmV n w T vs)∧cR n w r a (i+1)
end
mutual
theorem TmV.below {n m:Nat} {w w':World} (hb:Below m w w') (hm:n≤m):∀(T:Tm) (vs:List Value),TmV n w T vs→TmV n w' T vs
 | .mk k v nm g num den args,vs,h=>by
  simp only [TmV] at h ⊢;obtain⟨s1,s2,a,c,e,h1,h2,h3⟩:=h;exact⟨s1,s2,a,c,e,h1.below hb hm,cR.below hb hm args a 0 h2,h3⟩
theorem cR.below {n m:Nat} {w w':World} (hb:Below m w w') (hm:n≤m):∀(L:List Tm) (a:Option Addr) (i:Nat),cR n w L a i→cR n w' L a i
 | [],_,_,_=>by simp only [cR]
 |T::r,a,i,h=>by
  simp only [cR] at h ⊢;obtain⟨⟨b,off,vs,e,hbn,hc,hv⟩,hr⟩:=h;exact⟨⟨b,off,vs,e,hbn,fun j u hj=>((hb.mono hm).cell (p:=⟨b,off+i*7+j,none⟩) hbn).trans (hc j u hj),TmV.below hb hm T vs hv⟩,cR.below hb hm r a (i+1) hr⟩
end
theorem cR.get {n:Nat} {w:World} {a:Option Addr}:∀{L:List Tm} {i k:Nat} {T:Tm},cR n w L a i→L[k]?=some T→∃b off vs,a=some ⟨b,off,none⟩∧b<n∧(∀(j:Nat) u,vs[j]?=some u→w.cell? ⟨b,off+(i+k)*7+j,none⟩=some u)∧TmV n w T vs
 | [],_,_,_,_,h=>by simp at h
 |T0::r,i,0,T,hs,h=>by
  simp only [cR] at hs;simp at h;subst h;simpa using hs.1
 |T0::r,i,k+1,T,hs,h=>by
  simp only [cR] at hs;have:=cR.get hs.2 (show r[k]?=some T by simpa using h);rw [show i+1+k=i+(k+1) by omega] at this;exact this
mutual
def Tm.nodes:Tm→Nat
 | .mk _ _ _ _ _ _ args=>1+Tm.nodesL args
def Tm.nodesL:List Tm→Nat
 | []=>0
 |T::r=>Tm.nodes T+Tm.nodesL r
end
theorem DH:∀(L M:List Tm),Tm.nodesL (L++M)=Tm.nodesL L+Tm.nodesL M
 | [],M=>by simp [Tm.nodesL]
 |T::r,M=>by simp [Tm.nodesL,DH r M];omega
theorem yH {L:List Tm} {T:Tm} (h:L[i]?=some T):Tm.nodesL (L.take (i+1))=Tm.nodesL (L.take i)+Tm.nodes T:=by
 rw [fT,h,DH];simp [Tm.nodesL]
end Go.Proofs.YtbdpdeonapmlgaaGreatDoor
namespace Go.RowsK
open Go.RowKit
variable {xs:List Value} {e a3 a4:TypeId} {v z:Value} {size n base m:Nat} {w w':World} {P:Program}
structure El (P:Program) (a4 a3:TypeId) (size bytes:Nat) (z:Value):Prop where
 und:P.underlying a4=some (.slice a3)
 info:∃i,P.info? a3=some i∧i.zero=some z∧i.size=size∧i.bytes=bytes
 zs:z.cells.size=size
 pos:0<size
def SrcAt (w:World) (v:Value) (m:Nat) (xs:List Value):Prop:=
 (v= .slice none 0 0∧m=0∧xs= [])∨∃ad c,v= .slice (some ad) m c∧∀(j:Nat) u,xs[j]?=some u→w.cell? (ad.add j)=some u
theorem rS (h:w.ownsRow base e size v n xs):SrcAt w v n xs:=by
 have h0:=h;obtain⟨hl,⟨rfl,rfl⟩|⟨g,cap,cur,rfl,hb,hg,hnc,hm,hs,ht⟩⟩:=h
 ·exact .inl ⟨rfl,rfl,lB (by rw [hl];simp)⟩
 ·exact .inr ⟨⟨g,0,none⟩,cap,rfl,h0.cells (g:=g) rfl⟩
theorem JE {bytes:Nat} (E:El P a4 a3 size bytes z) (w:World) (ty:TypeId) (base:Nat) (v:Value) (n:Nat) (xs:List Value) (a2:w.ownsRow base a3 size v n xs)
  (v2:Value) (m:Nat) (a0:List Value) (a8:SrcAt w v2 m a0) (hl:a0.length=m*size) (h1:∀u∈a0,u.oneCell'=true)
  (a9:n+m≤maxLen) (a1:(n+m)*bytes≤140737488355328) (a5:base≤w.heap.size):
  ∃v' w',(Builtin.append_ #[a4,a4] ty #[v,v2]).run P w= .ok v' w'∧w'.ownsRow base a3 size v' (n+m) (xs++a0)∧w.grownBy w' v.ownBlock∧(v'.ownBlock=v.ownBlock∨v'.ownBlock=some w.heap.size):=by
 obtain⟨i,hi,hz,hz1,hz2⟩:=E.info;rcases a8 with⟨rfl,rfl,rfl⟩|⟨ad,c,rfl,hnews⟩
 ·refine⟨v,w,run_append_owned_none w base a4 ty a3 i size E.und hi v n xs a2,by simpa using a2,⟨rfl,rfl,rfl,aA _,fun _ _ _=>rfl⟩,.inl rfl⟩
 ·obtain⟨v',w',hr,h2,h3,h4⟩:=run_append_own (P:=P) w base a4 ty a3 i z size bytes E.und hi hz hz1 hz2 E.zs E.pos v n xs a2 ad m c a0 hl hnews h1 a9 a1 a5;refine⟨v',w',hr,h2,h3,?_⟩;have b1:maxLen≤9223372036854775807:=by decide
  by_cases hm:m=0
  ·subst hm;rcases a2.2 with⟨rfl,rfl⟩|⟨g,cap,cur,rfl,hbg,hg,hnc,hcm,hcs,htake⟩
   ·rw [h4.2 ⟨rfl,rfl⟩];exact .inl rfl
   ·have a6:=run_append_room (P:=P) w a4 ty a3 i E.und hi g n cap cur hg ad 0 c a0 (by rw [hz1];omega) hnews h1 (by omega) (by rw [hz1,hl,hcs,rE,fP];exact eI _ hnc);rw [hr] at a6;injection a6 with e1 e2
    subst e1;exact .inl rfl
  ·rcases a2.2 with⟨rfl,rfl⟩|⟨g,cap,cur,rfl,hbg,hg,hnc,hcm,hcs,htake⟩
   ·have a6:=run_append_nil (P:=P) w a4 ty a3 i z E.und hi hz ad m c a0 (by rw [hz1];omega) hnews (by omega) (by omega) (by rw [hz2];rw [cG] at a1;omega);rw [hr] at a6;injection a6 with e1 e2
    subst e1;exact .inr rfl
   ·by_cases a7:n+m≤cap
    ·have a6:=run_append_room (P:=P) w a4 ty a3 i E.und hi g n cap cur hg ad m c a0 (by rw [hz1];omega) hnews h1 a7 (by rw [hz1,hl,hcs,←cL];exact eI _ a7);rw [hr] at a6;injection a6 with e1 e2
     subst e1;exact .inl rfl
    ·have holds:∀(j:Nat) u,xs[j]?=some u→w.cell? ((⟨g,0,none⟩:Addr).add j)=some u:=a2.cells (g:=g) rfl;have a6:=run_append_grow (P:=P) w a4 ty a3 i z E.und hi hz ⟨g,0,none⟩ n cap xs (by rw [hz1];exact a2.1) holds ad m c a0 (by rw [hz1];omega) hnews (by omega) (by omega) (growslice_fits (by omega) (by rw [hz2];omega));rw [hr] at a6;injection a6 with e1 e2
     subst e1;exact .inr rfl
theorem gK {bytes:Nat} (E:El P a4 a3 size bytes z) {ops:Array Oper} {rest:List Oper} {o:Oper} {a:Act} {Q:Exit→Act→World→Prop} (w:World) (b0:o.guard=none) (s x:Operand)
  (ho:o.op= .call { callee:=.builtin .append,args:=#[s,x],argTypes:=#[a4,a4] }) (base:Nat) (v:Value) (n:Nat) (xs:List Value) (hs:a.eval s=v) (a2:w.ownsRow base a3 size v n xs)
  (v2:Value) (m:Nat) (a0:List Value) (hx:a.eval x=v2) (a8:SrcAt w v2 m a0) (hl:a0.length=m*size) (h1:∀u∈a0,u.oneCell'=true)
  (a9:n+m≤maxLen) (a1:(n+m)*bytes≤140737488355328) (a5:base≤w.heap.size)
  (h:∀v' w',w'.ownsRow base a3 size v' (n+m) (xs++a0)→w.grownBy w' v.ownBlock→(v'.ownBlock=v.ownBlock∨v'.ownBlock=some w.heap.size)→wpList P ops Q rest (a.put o.dst v') w'):wpList P ops Q (o::rest) a w:=by
 refine eV b0 fun K hK=>?_
 obtain⟨v',w',hr,h2,h3,h4⟩:=JE E w o.type base v n xs a2 v2 m a0 a8 hl h1 a9 a1 a5;unfold Oper.wp execOp;simp only [ho,resolve,invoke,builtin,aY,bZ,cF,List.map_toArray,gB,wV,hs,hx,hr];exact hK _ _ (h v' w' h2 h3 h4)
theorem mD (h:w.ownsRow base e size v n xs):
  ∃a cap,v= .slice a n cap∧(n=0∨∃g,a=some ⟨g,0,none⟩∧base≤g∧g<w.heap.size∧∀(j:Nat) u,xs[j]?=some u→w.cell? ⟨g,j,none⟩=some u):=by
 have h0:=h;obtain⟨hl,⟨rfl,rfl⟩|⟨g,cap,cur,rfl,hb,hg,hnc,hm,hs,ht⟩⟩:=h
 ·exact⟨none,0,rfl,.inl rfl⟩
 ·refine⟨some ⟨g,0,none⟩,cap,rfl,.inr ⟨g,rfl,hb,(Array.getElem?_eq_some_iff.1 hg).1,fun j u hj=>?_⟩⟩;have:=h0.cells (g:=g) rfl j u hj;rw [jN,cG] at this;exact this
theorem fK (h:w.ownsRow base e size v n xs) (hk:∀g,v.ownBlock=some g→w'.heap[g]?=w.heap[g]?):w'.ownsRow base e size v n xs:=by
 obtain⟨hl,hn|⟨g,cap,cur,rfl,hb,hg,rest⟩⟩:=h
 ·exact⟨hl,.inl hn⟩
 ·exact⟨hl,.inr ⟨g,cap,cur,rfl,hb,(hk g rfl).trans hg,rest⟩⟩
theorem gS (h:w.ownsRow base e size v n xs) (hb:Below m w w') (hm:w.heap.size≤m):w'.ownsRow base e size v n xs:=
 fK h fun g hg=>hb.block g (aZ (h.lt g hg).2 hm)
end Go.RowsK
