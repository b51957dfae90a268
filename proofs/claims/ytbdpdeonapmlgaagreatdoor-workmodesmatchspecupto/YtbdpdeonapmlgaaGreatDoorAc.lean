/- Lemmas; no condition. -/
import Derived.Test.YtbdpdeonapmlgaaGreatDoorAb
import Derived.Laws.BytesArg
import Derived.Laws.Strings
import Derived.Lib.SliceRun
import Derived.Laws.OwnMore
import Derived.ArgAppend
set_option linter.all false
set_option maxHeartbeats 2000000
set_option maxRecDepth 100000
namespace Go.Proofs.YtbdpdeonapmlgaaGreatDoor
open Go.RowKit Go.Big
section
attribute [local go_sem] Heavy.uponW
def dO (neg:Bool) (A C:List Nat):Int:=
 if 128<A.length∨128<C.length then 3
 else if C= []∨C.getLast?=some 0∨A.getLast?=some 0 then 2
 else if val 4294967296 A=0∧(neg=true∨val 4294967296 C≠1) then 2
 else if Nat.gcd (val 4294967296 A) (val 4294967296 C)≠1 then 2
 else 0
def NW (w:Wo):cC (w.heap.size+1) (w.alloc (Obj.cells #[.int .i64 1] 3)) (.slice (some ⟨w.heap.size,0,none⟩) 1 1) 1:=by
 have hn:=uJ w [iv 1] 3 (0,0);refine⟨_,[1],1,rfl,aA _,by unfold maxLen;omega,⟨by simp,fun _=>⟨w.heap.size,0,rfl,by omega,fun j x hx=>?_⟩⟩,by intro x hx;simp at hx;omega,by simp [val]⟩;rcases j with _|j
 ·simp at hx;subst hx;exact hn 0 (iv 1) rfl
 ·simp at hx
def ZL (neg:Bool) (a1 a2:Option Addr) (a0 a7 a9 b0 n:Nat) (A C:List Nat) (e6:A.length=a0) (e7:C.length=a7) (h0:a0<4611686018427387904) (c0:a7<4611686018427387904) (w:Wo) (hn:n≤w.heap.size) (h1:cG n w a1 A) (h2:cG n w a2 C):
  Cz 224 #[.agg #[.bool neg,.slice a1 a0 a9,.slice a2 a7 b0]] w fun e w'=>e= .returned (.int .i64 (dO neg A C))∧Bz w w':=by
 by_cases h3:128<a0
 ·have hv:dO neg A C=3:=by unfold dO;rw [if_pos (.inl (by omega))]
  rw [hv];have e2:(128:Int)<(a0:Int):=by omega
  go_enter Tryz.func224,Tryz.ntmps224;go_wp2
  go_ret
  exact⟨rfl,aC _ _⟩
 by_cases h4:128<a7
 ·have hv:dO neg A C=3:=by unfold dO;rw [if_pos (.inr (by omega))]
  rw [hv];have e2:¬(128:Int)<(a0:Int):=by omega
  have f4:(128:Int)<(a7:Int):=by omega
  go_enter Tryz.func224,Tryz.ntmps224;go_wp2
  go_ret
  exact⟨rfl,aC _ _⟩
 have e2:¬(128:Int)<(a0:Int):=by omega
 have f4:¬(128:Int)<(a7:Int):=by omega
 by_cases f8:a7=0
 ·have hv:dO neg A C=2:=by
   unfold dO;rw [if_neg (by omega),if_pos (.inl (nL (by omega)))]
  rw [hv];subst f8;go_enter Tryz.func224,Tryz.ntmps224;go_wp2
  go_ret
  exact⟨rfl,aC _ _⟩
 obtain⟨k2,rfl⟩:∃k2,a7=k2+1:=⟨a7-1,by omega⟩;obtain⟨y,hy⟩:∃y,C[k2]?=some y:=⟨C[k2],aZ (by omega)⟩;have a5:C.getLast?=some y:=by rw [tV,e7,vO];exact hy
 have d5:C≠ []:=by rintro rfl;simp at e7
 obtain⟨b2,o2,rfl,hbn2,hyl,hcy⟩:=h2.get hy;have g6:IntKind.i64.wrap ((k2:Int)+1-1)=(k2:Int):=by rw [cO];omega
 have g0:(k2:Int)<(k2:Int)+1:=by omega
 have e4:(0:Int)≤(k2:Int):=by omega
 have e8:((k2:Int)+1==0)=false:=by simp;omega
 have d9:∀o,(w.alloc o).cell? ⟨b2,o2+k2,none⟩=some (.int .u32 y):=fun o=>((aC w o).cell (p:=⟨b2,o2+k2,none⟩) (by show b2<_;omega)).trans hcy
 by_cases d6:y=0
 ·have hv:dO neg A C=2:=by
   unfold dO;rw [if_neg (by omega),if_pos (.inr (.inl (by rw [a5,d6])))]
  rw [hv];subst d6;clear a5;go_enter Tryz.func224,Tryz.ntmps224;go_wp2
  go_ret
  exact⟨rfl,aC _ _⟩
 have g7:((y:Int)==0)=false:=by simp;omega
 clear hcy
 by_cases b4:A.getLast?=some 0
 ·have hv:dO neg A C=2:=by
   unfold dO;rw [if_neg (by omega),if_pos (.inr (.inr b4))]
  rw [hv];have d2:A≠ []:=by rintro rfl;simp at b4
  obtain⟨k1,rfl⟩:∃k1,a0=k1+1:=⟨a0-1,by have:=List.length_pos_iff.2 d2;omega⟩;rw [tV,e6,vO] at b4;obtain⟨b1,o1,rfl,hbn1,hxl,hcx⟩:=h1.get b4;have g5:IntKind.i64.wrap ((k1:Int)+1-1)=(k1:Int):=by rw [cO];omega
  have f9:(k1:Int)<(k1:Int)+1:=by omega
  have e3:(0:Int)≤(k1:Int):=by omega
  have c6:(0:Int)<(k1:Int)+1:=by omega
  have d8:∀o,(w.alloc o).cell? ⟨b1,o1+k1,none⟩=some (.int .u32 (0:Nat)):=fun o=>((aC w o).cell (p:=⟨b1,o1+k1,none⟩) (by show b1<_;omega)).trans hcx
  clear a5 hcx b4;go_enter Tryz.func224,Tryz.ntmps224;go_wp2
  go_ret
  exact⟨rfl,aC _ _⟩
 obtain⟨x,hX⟩:=enm (val 4294967296 A);obtain⟨z,hY⟩:=enm (val 4294967296 C);have a6:dO neg A C=if x=0∧(neg=true∨z≠1) then 2 else if Nat.gcd x z≠1 then 2 else 0:=by
  unfold dO;rw [if_neg (by omega),if_neg (by rw [a5];rintro(h|h|h);exact d5 h;exact d6 (by simpa using h);exact b4 h),hX,hY]
 obtain⟨F,hF⟩:∃F:Int,(if x=0∧(neg=true∨z≠1) then 2 else if Nat.gcd x z≠1 then 2 else 0)=F:=⟨_,rfl⟩;rw [a6,hF];have AF:=aside hF;clear a6 hF;obtain⟨P,hP⟩:∃P,P=65536^256:=⟨_,rfl⟩;have e9:x<P:=by
  rw [hP,←show(4294967296:Nat)^128=65536^256 by rw [show(256:Nat)=2*128 from rfl,tN],←hX];exact bG (val_lt h1.1) (tO (by decide) (by omega))
 have f0:z<P:=by
  rw [hP,←show(4294967296:Nat)^128=65536^256 by rw [show(256:Nat)=2*128 from rfl,tN],←hY];exact bG (val_lt h2.1) (tO (by decide) (by omega))
 have AXY:=aside2 hX hY;have AP:=aside hP;clear hX hY hP;go_enter Tryz.func224,Tryz.ntmps224
 go_upto_region 3 with fail
 go_cut [46] from 15 to 45 (fun g8 wx=>g8= .bool false∧wx=w.alloc (Obj.cells #[.bool neg,.slice a1 a0 a9,.slice (some ⟨b2,o2,none⟩) (k2+1) b0] 45))
 case first=>
  by_cases g3:a0=0
  ·subst g3
   go_wp2_with fail
   go_meet
   exact⟨rfl,rfl⟩
  ·obtain⟨k1,rfl⟩:∃k1,a0=k1+1:=⟨a0-1,by omega⟩;obtain⟨x,hx⟩:∃x,A[k1]?=some x:=⟨A[k1],aZ (by omega)⟩;rw [tV,e6,vO,hx] at b4;obtain⟨b1,o1,rfl,hbn1,hxl,hcx⟩:=h1.get hx;have h6:((x:Int)==0)=false:=by have:x≠0:=fun e=>b4 (by rw [e]);simp;omega
   have g5:IntKind.i64.wrap ((k1:Int)+1-1)=(k1:Int):=by rw [cO];omega
   have f9:(k1:Int)<(k1:Int)+1:=by omega
   have e3:(0:Int)≤(k1:Int):=by omega
   have c6:(0:Int)<(k1:Int)+1:=by omega
   have d8:∀o,(w.alloc o).cell? ⟨b1,o1+k1,none⟩=some (.int .u32 x):=fun o=>((aC w o).cell (p:=⟨b1,o1+k1,none⟩) (by show b1<_;omega)).trans hcx
   clear a5 hcx b4
   go_wp2_with fail
   go_meet
   exact⟨rfl,rfl⟩
 case rest=>
  obtain⟨rfl,hwx⟩:=hcut;have g4:w.heap.size<wc.heap.size:=by rw [hwx,cW];omega
  have c1:Bz w wc:=hwx▸aC _ _;have b5:wc.heap[w.heap.size]?=some (Obj.cells #[.bool neg,.slice a1 a0 a9,.slice (some ⟨b2,o2,none⟩) (k2+1) b0] 45):=by rw [hwx];exact aK _ _
  have c9:wc.cell? ⟨w.heap.size,0,none⟩=some (.bool neg):=by simp [World.cell?,b5]
  have d0:wc.cell? ⟨w.heap.size,1,none⟩=some (.slice a1 a0 a9):=by simp [World.cell?,b5]
  have d1:wc.cell? ⟨w.heap.size,2,none⟩=some (.slice (some ⟨b2,o2,none⟩) (k2+1) b0):=by simp [World.cell?,b5]
  have g1:=h1.below c1 hn;have g2:=h2.below c1 hn;clear hwx;generalize wc=wb at*;clear b5 a5 d9 e2 f4 g6 g0 e4 e8 g7
  go_upto_region 5 with fail
  go_cut [3,4] from 47 to 52 (fun s3 s4 wx=>cC wx.heap.size wx s3 x∧cC wx.heap.size wx s4 z∧Bz wb wx)
  case first=>
   refine Heavy.region_plan (Bz wb) 6 (Heavy.lights [0,1,3,4] (.one 2 (.one 5 .done))) (by kernel_rfl) (by kernel_rfl) ⟨rfl,rfl,rfl,aA _,fun _ _=>rfl⟩ ?_;simp only [Heavy.lights,aX,bI,aW,bD];have fc:∀w2,Bz wb w2→w2.cell? ⟨w.heap.size,1,none⟩=some (.slice a1 a0 a9)∧w2.cell? ⟨w.heap.size,2,none⟩=some (.slice (some ⟨b2,o2,none⟩) (k2+1) b0):=fun w2 hb=>
    ⟨(hb.cell (p:=⟨w.heap.size,1,none⟩) (by show w.heap.size<_;omega)).trans d0,(hb.cell (p:=⟨w.heap.size,2,none⟩) (by show w.heap.size<_;omega)).trans d1⟩
   clear c9 d0 d1;have f1:Bz wb { wb with drawn:=wb.drawn+1 }:=⟨rfl,rfl,rfl,aA _,fun _ _=>rfl⟩;have n1:=fun w' (hb:Bz wb w')=>MP a1 a0 a9 n A e6 (by omega) w' (by have:=hb.size;omega) (g1.below hb (by omega))
   rw [AXY.o.1] at n1;have n2:=fun w' (hb:Bz wb w')=>MP (some ⟨b2,o2,none⟩) (k2+1) b0 n C e7 (by omega) w' (by have:=hb.size;omega) (g2.below hb (by omega))
   rw [AXY.o.2] at n2
   iterate 4 (apply Heavy.light_n;(exact rfl);(exact rfl);(intro f5 hw;have x0:=(fc f5 hw).1;have x1:=(fc f5 hw).2;go_simp;exact rfl))
   apply Heavy.one_n
   ·exact rfl
   ·exact rfl
   go_simp
   refine(n1 _ f1).mono ?_;rintro e w3 ⟨r3,rfl,hN3,hb3⟩;have b9:Bz wb w3:=f1.trans hb3;refine⟨_,rfl,b9,?_⟩;apply Heavy.one_n
   ·exact rfl
   ·exact rfl
   go_simp
   refine(n2 _ b9).mono ?_;rintro e w4 ⟨r4,rfl,hN4,hb4⟩;refine⟨_,rfl,b9.trans (hb4.mono b9.size),?_⟩;apply Heavy.plan_end;show wpList _ _ _ _ _ _;go_wp2
   go_meet
   exact⟨(hN3.below hb4 (aA _)).up hb4.size,hN4,b9.trans (hb4.mono b9.size)⟩
  case rest=>
   obtain⟨hA,hC,hB⟩:=hcut;have e0:wc.cell? ⟨w.heap.size,0,none⟩=some (.bool neg):=(hB.cell (p:=⟨w.heap.size,0,none⟩) g4).trans c9;have d4:Bz w wc:=c1.trans (hB.mono c1.size);clear c9 d0 d1 g1 g2 hB c1;have hP:=AP.o;clear h1 h2 b4;obtain⟨a3,l3,c3,rfl⟩:=hA.slice;obtain⟨a4,l4,c4,rfl⟩:=hC.slice;have c8:=hA.zero_iff
   go_upto_region 6 with fail
   go_cut [65] from 53 to 64 (fun g9 wx=>g9= .bool (decide (x=0∧(neg=true∨z≠1)))∧Bz wc wx)
   case first=>
    by_cases b7:x=0
    ·obtain rfl:l3=0:=c8.1 b7;have Ax:=aside b7;clear b7 c8;cases neg
     ·have d3:=aC wc (Obj.cells #[.int .i64 1] 3);have b6:=FN _ _ _ _ z 1 256 (wc.alloc (Obj.cells #[.int .i64 1] 3)) (hC.below d3 (aA _)) (NW wc) (hP▸f0) (Nat.one_lt_pow (by decide) (by decide)) (by decide)
      by_cases c7:z=1
      ·have b3:gY z 1=0:=by simp [gY,c7]
       rw [b3] at b6;have Ay:=aside c7;clear c7 b3
       go_wp2_with (go_at_call 265;with_reducible refine b6.mono ?_;rintro e w' ⟨rfl,rfl⟩)
       go_meet
       exact⟨by simp [Ax.o,Ay.o],d3⟩
      ·obtain⟨cv,b3⟩:=enm (gY z 1);have f2:(cv==0)=false:=by
        rw [←b3];unfold gY;split
        ·rfl
        ·split
         ·rfl
         ·exfalso;omega
       have d7:Aside (¬cv=0):=by intro h;simp [h] at f2
       rw [b3] at b6;have Ay:=aside c7;clear c7 b3
       go_wp2_with (go_at_call 265;with_reducible refine b6.mono ?_;rintro e w' ⟨rfl,rfl⟩)
       go_meet
       exact⟨by have:=d7.o;simp [Ax.o,Ay.o,this],d3⟩
     ·go_wp2_with fail
      go_meet
      exact⟨by simp [Ax.o],aG _ _⟩
    ·have h5:((l3:Int)==0)=false:=by have:l3≠0:=fun e=>b7 (c8.2 e);simp;omega
     have Ax:=aside b7;clear b7 c8
     go_wp2_with fail
     go_meet
     exact⟨by simp [Ax.o],aG _ _⟩
   case rest=>
    obtain⟨rfl,hB2⟩:=hcut;have a8:=d4.trans (hB2.mono d4.size);have f6:=(hA.below hB2 (aA _)).up hB2.size;have f7:=(hC.below hB2 (aA _)).up hB2.size;clear hA hC hB2 e0 d4 c8
    by_cases a6:x=0∧(neg=true∨z≠1)
    ·have c2:Aside (F=2):=by have:=AF.o;rw [if_pos a6] at this;exact this.symm
     have hd:decide (x=0∧(neg=true∨z≠1))=true:=vL a6;rw [hd];clear hd a6;go_wp2
     go_ret
     exact⟨by rw [c2.o];rfl,a8⟩
    ·have b8:=AF.o;rw [if_neg a6] at b8;have hd:decide (x=0∧(neg=true∨z≠1))=false:=nC a6;rw [hd];clear hd a6;have hg:=ZR _ _ _ _ x z P 256 hP (by decide) e9 f0 wc (aA _) (aA _) f6 f7;obtain⟨g,hgg⟩:=enm (Nat.gcd x z);have f3:g<P∨x=0∧z=0:=by
      rw [←hgg]
      by_cases b7:x=0
      ·subst b7;rw [VK];exact .inl f0
      ·exact .inl (iD (Nat.gcd_le_left z (Nat.pos_of_ne_zero b7)) e9)
     have e1:g<P:=by
      rcases f3 with h|⟨rfl,rfl⟩
      ·exact h
      ·rw [←hgg];exact e9
     rw [hgg] at hg;have Agg:=aside hgg;have b6:=fun w' r (hr:cC w'.heap.size w' r g)=>FN _ _ _ _ g 1 256 (w'.alloc (Obj.cells #[.int .i64 1] 3)) (hr.below (aC w' (Obj.cells #[.int .i64 1] 3)) (aA _)) (NW w') (hP▸e1) (Nat.one_lt_pow (by decide) (by decide)) (by decide)
     clear f3 hgg
     by_cases c5:g=1
     ·have b3:gY g 1=0:=by simp [gY,c5]
      rw [if_neg (by rw [Agg.o];simpa using c5)] at b8;have c2:Aside (F=0):=b8.symm;rw [b3] at b6;clear b3 c5 b8
      go_wp2_with first|(go_at_call 266;with_reducible refine hg.mono ?_;rintro e w2 ⟨rg,rfl,hR,c0⟩)|(go_at_call 265;with_reducible refine(b6 _ _ (by assumption)).mono ?_;rintro e w' ⟨rfl,rfl⟩)
      go_ret
      exact⟨by rw [c2.o];rfl,a8.trans ((c0.mono a8.size).alloc (aE a8.size c0.size) _)⟩
     ·obtain⟨cv,b3⟩:=enm (gY g 1);have f2:(cv==0)=false:=by
       rw [←b3];unfold gY;split
       ·rfl
       ·split
        ·rfl
        ·exfalso;omega
      rw [if_pos (by rw [Agg.o];simpa using c5)] at b8;have c2:Aside (F=2):=b8.symm;rw [b3] at b6;clear b3 c5 b8
      go_wp2_with first|(go_at_call 266;with_reducible refine hg.mono ?_;rintro e w2 ⟨rg,rfl,hR,c0⟩)|(go_at_call 265;with_reducible refine(b6 _ _ (by assumption)).mono ?_;rintro e w' ⟨rfl,rfl⟩)
      go_ret
      exact⟨by rw [c2.o];rfl,a8.trans ((c0.mono a8.size).alloc (aE a8.size c0.size) _)⟩
end
section
attribute [local go_sem] Heavy.uponW
end
def bv (x:Nat):Value:=.int .u8 x
def Iv {a b:ByteArray} (h:a.data.toList=b.data.toList):a=b:=by
 cases a;cases b;simp at h;congr
def BytRow (base:Nat) (w:Wo) (sv:Value) (D:List Nat):Prop:=w.ownsRow base 5 1 sv D.length (D.map bv)
def BytAt (n:Nat) (w:Wo) (a:Option Addr) (L:List Nat):Prop:=
 L≠ []→∃b off,a=some ⟨b,off,none⟩∧b<n∧∀(j x:Nat),L[j]?=some x→w.cell? ⟨b,off+j,none⟩=some (.int .u8 x)
def BytRow.at {base:Nat} {w:Wo} {sv:Value} {D:List Nat} (h:BytRow base w sv D):∃a c,sv= .slice a D.length c∧D.length≤c∧c≤maxLen∧BytAt w.heap.size w a D:=by
 obtain⟨h1,⟨e,h0⟩|⟨g,cap,a0,e1,hb,hg,hnc,hm,hs,ht⟩⟩:=h
 ·have:D= []:=nL h0;subst this;exact⟨none,0,e,aA _,aJ _,fun h=>absurd rfl h⟩
 ·refine⟨some ⟨g,0,none⟩,cap,e1,hnc,hm,fun _=>⟨g,0,rfl,(aM.1 hg).1,fun j x hx=>?_⟩⟩;have hj:=(aO.1 hx).1;have h2:a0[j]?=some (bv x):=by
   rw [←iT,←iQ (show j<D.length*1 by omega),ht,iJ,hx];rfl
  simpa [World.cell?,hg,bv] using h2
def BBlk (w:Wo) (b:Nat) (a0:List Nat):Prop:=w.heap[b]?=some (.cells (a0.map bv).toArray 5 (0,0))
def BBlk.put {w:Wo} {b:Nat} {a0:List Nat} (h:BBlk w b a0) {k x:Nat} (hk:k<a0.length):BBlk (w.setCell ⟨b,k,none⟩ (.int .u8 x)) b (a0.set k x):=by
 have a1:b<w.heap.size:=(aM.1 h).1;unfold BBlk at*;show(Array.modify w.heap b _)[b]?=_;rw [oR,if_pos rfl,h];simp [bv]
section
attribute [local go_sem] Heavy.uponW
structure NumAt (n:Nat) (w:Wo) (neg:Bool) (s1 s2:Value) (A C:List Nat):Prop where
 at1:∃a c,s1= .slice a A.length c∧cG n w a A
 at2:∃a c,s2= .slice a C.length c∧cG n w a C
def NumAt.below {n m:Nat} {w w':Wo} {neg:Bool} {s1 s2:Value} {A C:List Nat} (h:NumAt n w neg s1 s2 A C) (hb:Below m w w') (hm:n≤m):NumAt n w' neg s1 s2 A C:=by
 obtain⟨⟨a,c,e1,h1⟩,⟨a',c',e2,h2⟩⟩:=h;exact⟨⟨a,c,e1,h1.below hb hm⟩,⟨a',c',e2,h2.below hb hm⟩⟩
def strEq (a c:ByteArray):(a.toList==c.toList)=decide (a=c):=by
 rw [mD,mD]
 by_cases h:a=c
 ·subst h;simp
 ·rw [nC h];simp only [Ks,ne_eq];exact fun e=>h (Iv e)
def eG {w:Wo} {g:Nat} {v0 v1 v2 v3 v4 v5 v6:Value} {e:TypeId} {fr:Nat × Nat} (h:w.heap[g]?=some (.cells #[v0,v1,v2,v3,v4,v5,v6] e fr)):
  w.cell? ⟨g,0,none⟩=some v0∧w.cell? ⟨g,1,none⟩=some v1∧w.cell? ⟨g,2,none⟩=some v2∧w.cell? ⟨g,3,none⟩=some v3∧w.cell? ⟨g,4,none⟩=some v4∧w.cell? ⟨g,5,none⟩=some v5∧w.cell? ⟨g,6,none⟩=some v6:=by
 simp [World.cell?,h]
def XJ (w:Wo) (o1 o2:Obj):Bz w ((w.alloc o1).alloc o2)∧((w.alloc o1).alloc o2).heap[w.heap.size]?=some o1∧((w.alloc o1).alloc o2).heap[w.heap.size+1]?=some o2∧w.heap.size+2≤((w.alloc o1).alloc o2).heap.size:=by
 have b1:=aC w o1;have b2:=aC (w.alloc o1) o2;have q1:=aK w o1;have q2:=aK (w.alloc o1) o2;rw [cW] at q2 b2;exact⟨b1.trans (b2.mono (by omega)),(b2.block w.heap.size (by omega)).trans q1,q2,by simp⟩
end
section
attribute [local go_sem] Heavy.uponW
def HE:(Tryz.prog.info? 175).map (fun i=>(i.zero,i.size,i.bytes))=some (some (.int .u32 0),1,4):=by kernel_rfl
def lv (x:Nat):Value:=.int .u32 x
def LimS (S:Nat→Prop) (w:Wo) (a:Option Addr) (L:List Nat):Prop:=
 (∀x∈L,x<4294967296)∧(L≠ []→∃b off,a=some ⟨b,off,none⟩∧S b∧∀(j x:Nat),L[j]?=some x→w.cell? ⟨b,off+j,none⟩=some (.int .u32 x))
def Fresh (a b:Nat):Nat→Prop:=fun k=>a≤k∧k<b
def LimS.toAt {S:Nat→Prop} {n:Nat} {w:Wo} {a:Option Addr} {L:List Nat} (h:LimS S w a L) (hS:∀k,S k→k<n):cG n w a L:=by
 refine⟨h.1,fun a4=>?_⟩;obtain⟨b,off,e,hb,hc⟩:=h.2 a4;exact⟨b,off,e,hS b hb,hc⟩
def Di {base:Nat} {w:Wo} {sv:Value} {A:List Nat} (hA:∀x∈A,x<4294967296) (h:w.ownsRow base 175 1 sv A.length (A.map lv)):∃a c,sv= .slice a A.length c∧LimS (Fresh base w.heap.size) w a A:=by
 obtain⟨h1,⟨e,h0⟩|⟨g,cap,cur,e1,hb,hg,hnc,hm,hs,ht⟩⟩:=h
 ·have:A= []:=nL h0;subst this;exact⟨none,0,e,hA,fun h=>absurd rfl h⟩
 ·refine⟨some ⟨g,0,none⟩,cap,e1,hA,fun _=>⟨g,0,rfl,⟨hb,(aM.1 hg).1⟩,fun j x hx=>?_⟩⟩;have hj:=(aO.1 hx).1;have h2:cur[j]?=some (lv x):=by
   rw [←iT,←iQ (show j<A.length*1 by omega),ht,iJ,hx];rfl
  simpa [World.cell?,hg,lv] using h2
def FO (s:Value) (n:Nat) (A:List Nat) (hA:A.length≤1048576) (w:Wo) (hn:n≤w.heap.size) (h:∃a c,s= .slice a A.length c∧cG n w a A):
  Cz 129 #[s] w fun e w'=>∃sv,e= .returned sv∧(∃a c,sv= .slice a A.length c∧LimS (Fresh w.heap.size w'.heap.size) w' a A)∧Bz w w':=by
 obtain⟨a,cap,rfl,h1⟩:=h;have b1:∀(w:Wo) (a:Option Addr) (n c n' c':Nat),(binOp .eql 43 (.slice a n c) (.slice none n' c')).run Tryz.prog w= .ok (.bool a.isNone) w:=fun w a n c n' c'=>WM w _ _ a n c n' c' Tryz.underlying43
 cases a with
 | none=>
  have a7:A= []:=by
   apply iR;intro a4;obtain⟨b,off,e,_⟩:=h1.2 a4;cases e
  subst a7;go_enter Tryz.func129,Tryz.ntmps129;go_wp2
  go_ret
  exact⟨_,rfl,⟨none,0,rfl,h1.1,fun h=>absurd rfl h⟩,aG _ _⟩
 | some ad=>
  obtain⟨i0,hi,hz0,hz1,hz2⟩:=lZ HE;have a3:(w.alloc (Obj.cells #[] 175)).ownsRow w.heap.size 175 1 (.slice (some ⟨w.heap.size,0,none⟩) 0 0) 0 []:=World.ownsRow_made w #[] 0 (aA _) (by unfold maxLen;omega) (by simp);have a2:∀(j:Nat) u,(A.map lv)[j]?=some u→(w.alloc (Obj.cells #[] 175)).cell? (ad.add j)=some u:=fun j u hj=>by
   rw [iJ] at hj;obtain⟨x,hx,rfl⟩:=rL.1 hj;obtain⟨b,off,e,hb,hc⟩:=h1.2 (by rintro rfl;simp at hx);cases e;rw [jX];exact((aC w _).cell (p:=⟨b,off+j,none⟩) (by show b<_;omega)).trans (hc j x hx)
  have a5:∀u∈A.map lv,u.oneCell'=true:=by
   intro u hu;obtain⟨y,_,rfl⟩:=dJ.1 hu;rfl
  obtain⟨len,hl⟩:=enm A.length;have b0:(A.map lv).length=len*1:=by rw [nJ,hl];omega
  rw [hl] at hA ⊢;have Al:=aside hl;have a9:=h1.1;clear h1 hl;go_enter Tryz.func129,Tryz.ntmps129
  go_wp2_with (at_builtin;refine wpList_append_own _ rfl _ _ 43 rfl w.heap.size 175 i0 (.int .u32 0) 1 4 Tryz.underlying43 hi hz0 hz1 hz2 rfl (by decide) _ _ _ rfl a3 ad len cap (A.map lv) rfl b0 a2 a5 (by unfold maxLen;omega) (by omega) (by simp) ?_;intro v' w3 a0 a1 a6)
  go_ret
  have a8:Bz w w3:=((aG _ w).alloc (aA _) _).grown a1 (by simp) (by intro k hk;cases hk;exact aA _);rw [bT,oO,←Al.o] at a0;have:=Di a9 a0;rw [Al.o] at this;exact⟨_,rfl,this,a8⟩
end
def ZM (g:Bool) (a1 a2:Option Addr) (l1 l2 c1 c2:Nat) (w:Wo):
  Cz 223 #[.agg #[.bool g,.slice a1 l1 c1,.slice a2 l2 c2]] w fun e w'=>e= .returned (.bool (!g&&(((l1:Int)==0)&&((l2:Int)==0))))∧Bz w w':=by
 have hB:=aC w (Obj.cells #[.bool g,.slice a1 l1 c1,.slice a2 l2 c2] 45);obtain⟨F,hF⟩:=enm ((!g&&(((l1:Int)==0)&&((l2:Int)==0))));rw [hF];cases g
 ·by_cases h1:l1=0
  ·subst h1;have a0:F=((l2:Int)==0):=by rw [←hF];simp
   subst a0;clear hF;go_enter Tryz.func223,Tryz.ntmps223;go_wp2
   go_ret
   exact⟨rfl,hB⟩
  ·have a3:((l1:Int)==0)=false:=by simp;omega
   have a0:F=false:=by rw [←hF,a3];rfl
   subst a0;clear hF;go_enter Tryz.func223,Tryz.ntmps223;go_wp2
   go_ret
   exact⟨rfl,hB⟩
 ·have a0:F=false:=by rw [←hF];rfl
  subst a0;clear hF;go_enter Tryz.func223,Tryz.ntmps223;go_wp2
  go_ret
  exact⟨rfl,hB⟩
inductive Tm where
 |mk (k v:Int) (nm:ByteArray) (g:Bool) (num den:List Nat) (args:List Tm)
mutual
def TmV (n:Nat) (w:Wo):Tm→Lv→Prop
 | .mk k v nm g num den args,vs=>∃s1 s2 a c,vs= [.int .i64 k,.int .i64 v,.string nm,.bool g,s1,s2,.slice a args.length c]∧NumAt n w g s1 s2 num den∧TmsV n w args a 0∧args.length≤1048576∧num.length≤1048576∧den.length≤1048576
def TmsV (n:Nat) (w:Wo):List Tm→Option Addr→Nat→Prop
 | [],_,_=>True
 |T::r,a,i=>(∃b off vs,a=some ⟨b,off,none⟩∧b<n∧(∀(j:Nat) u,vs[j]?=some u→w.cell? ⟨b,off+i*7+j,none⟩=some u)∧TmV n w T vs)∧TmsV n w r a (i+1)
end
mutual
theorem TmV.below {n m:Nat} {w w':Wo} (hb:Below m w w') (hm:n≤m):∀(T:Tm) (vs:Lv),TmV n w T vs→TmV n w' T vs
 | .mk k v nm g num den args,vs,h=>by
  simp only [TmV] at h ⊢;obtain⟨s1,s2,a,c,e,h1,h2,h3⟩:=h;exact⟨s1,s2,a,c,e,h1.below hb hm,TmsV.below hb hm args a 0 h2,h3⟩
theorem TmsV.below {n m:Nat} {w w':Wo} (hb:Below m w w') (hm:n≤m):∀(L:List Tm) (a:Option Addr) (i:Nat),TmsV n w L a i→TmsV n w' L a i
 | [],_,_,_=>by simp only [TmsV]
 |T::r,a,i,h=>by
  simp only [TmsV] at h ⊢;obtain⟨⟨b,off,vs,e,hbn,hc,hv⟩,hr⟩:=h;exact⟨⟨b,off,vs,e,hbn,fun j u hj=>((hb.mono hm).cell (p:=⟨b,off+i*7+j,none⟩) hbn).trans (hc j u hj),TmV.below hb hm T vs hv⟩,TmsV.below hb hm r a (i+1) hr⟩
end
def TmsV.get {n:Nat} {w:Wo} {a:Option Addr}:∀{L:List Tm} {i k:Nat} {T:Tm},TmsV n w L a i→L[k]?=some T→∃b off vs,a=some ⟨b,off,none⟩∧b<n∧(∀(j:Nat) u,vs[j]?=some u→w.cell? ⟨b,off+(i+k)*7+j,none⟩=some u)∧TmV n w T vs
 | [],_,_,_,_,h=>by simp at h
 |T0::r,i,0,T,hs,h=>by
  simp only [TmsV] at hs;simp at h;subst h;simpa using hs.1
 |T0::r,i,k+1,T,hs,h=>by
  simp only [TmsV] at hs;have:=TmsV.get hs.2 (show r[k]?=some T by simpa using h);rw [show i+1+k=i+(k+1) by omega] at this;exact this
mutual
def Tm.nodes:Tm→Nat
 | .mk _ _ _ _ _ _ args=>1+Tm.nodesL args
def Tm.nodesL:List Tm→Nat
 | []=>0
 |T::r=>Tm.nodes T+Tm.nodesL r
end
def GG:∀(L M:List Tm),Tm.nodesL (L++M)=Tm.nodesL L+Tm.nodesL M
 | [],M=>by simp [Tm.nodesL]
 |T::r,M=>by simp [Tm.nodesL,GG r M];omega
def AS {L:List Tm} {i:Nat} {T:Tm} (h:L[i]?=some T):Tm.nodesL (L.take (i+1))=Tm.nodesL (L.take i)+Tm.nodes T:=by
 rw [gK,h,GG];simp [Tm.nodesL]
end Go.Proofs.YtbdpdeonapmlgaaGreatDoor
namespace Go.RowsK
open Go.RowKit
variable {e a3 a4:TypeId} {v z:Value} {size n base m:Nat} {P:Program} {xs:Lv} {w w':Wo}
structure El (P:Program) (a4 a3:TypeId) (size bytes:Nat) (z:Value):Prop where
 und:P.underlying a4=some (.slice a3)
 info:∃i,P.info? a3=some i∧i.zero=some z∧i.size=size∧i.bytes=bytes
 zs:z.cells.size=size
 pos:0<size
def SrcAt (w:Wo) (v:Value) (m:Nat) (xs:Lv):Prop:=
 (v= .slice none 0 0∧m=0∧xs= [])∨∃ad c,v= .slice (some ad) m c∧∀(j:Nat) u,xs[j]?=some u→w.cell? (ad.add j)=some u
def rZ (h:w.ownsRow base e size v n xs):SrcAt w v n xs:=by
 have h0:=h;obtain⟨hl,⟨rfl,rfl⟩|⟨g,cap,cur,rfl,hb,hg,hnc,hm,hs,ht⟩⟩:=h
 ·exact .inl ⟨rfl,rfl,nL (by rw [hl];simp)⟩
 ·exact .inr ⟨⟨g,0,none⟩,cap,rfl,h0.cells (g:=g) rfl⟩
def MI {bytes:Nat} (E:El P a4 a3 size bytes z) (w:Wo) (ty:TypeId) (base:Nat) (v:Value) (n:Nat) (xs:Lv) (a2:w.ownsRow base a3 size v n xs)
  (v2:Value) (m:Nat) (a0:Lv) (a8:SrcAt w v2 m a0) (hl:a0.length=m*size) (h1:∀u∈a0,u.oneCell'=true)
  (a9:n+m≤maxLen) (a1:(n+m)*bytes≤140737488355328) (a5:base≤w.heap.size):
  ∃v' w',(Builtin.append_ #[a4,a4] ty #[v,v2]).run P w= .ok v' w'∧w'.ownsRow base a3 size v' (n+m) (xs++a0)∧w.grownBy w' v.ownBlock∧(v'.ownBlock=v.ownBlock∨v'.ownBlock=some w.heap.size):=by
 obtain⟨i,hi,hz,hz1,hz2⟩:=E.info;rcases a8 with⟨rfl,rfl,rfl⟩|⟨ad,c,rfl,hnews⟩
 ·refine⟨v,w,run_append_owned_none w base a4 ty a3 i size E.und hi v n xs a2,by simpa using a2,⟨rfl,rfl,rfl,aA _,fun _ _ _=>rfl⟩,.inl rfl⟩
 ·obtain⟨v',w',hr,h2,h3,h4⟩:=run_append_own (P:=P) w base a4 ty a3 i z size bytes E.und hi hz hz1 hz2 E.zs E.pos v n xs a2 ad m c a0 hl hnews h1 a9 a1 a5;refine⟨v',w',hr,h2,h3,?_⟩;have b1:maxLen≤9223372036854775807:=by decide
  by_cases hm:m=0
  ·subst hm;rcases a2.2 with⟨rfl,rfl⟩|⟨g,cap,cur,rfl,hbg,hg,hnc,hcm,hcs,htake⟩
   ·rw [h4.2 ⟨rfl,rfl⟩];exact .inl rfl
   ·have a6:=run_append_room (P:=P) w a4 ty a3 i E.und hi g n cap cur hg ad 0 c a0 (by rw [hz1];omega) hnews h1 (by omega) (by rw [hz1,hl,hcs,tM,iI];exact fE _ hnc);rw [hr] at a6;injection a6 with e1 e2
    subst e1;exact .inl rfl
  ·rcases a2.2 with⟨rfl,rfl⟩|⟨g,cap,cur,rfl,hbg,hg,hnc,hcm,hcs,htake⟩
   ·have a6:=run_append_nil (P:=P) w a4 ty a3 i z E.und hi hz ad m c a0 (by rw [hz1];omega) hnews (by omega) (by omega) (by rw [hz2];rw [bT] at a1;omega);rw [hr] at a6;injection a6 with e1 e2
    subst e1;exact .inr rfl
   ·by_cases a7:n+m≤cap
    ·have a6:=run_append_room (P:=P) w a4 ty a3 i E.und hi g n cap cur hg ad m c a0 (by rw [hz1];omega) hnews h1 a7 (by rw [hz1,hl,hcs,←dI];exact fE _ a7);rw [hr] at a6;injection a6 with e1 e2
     subst e1;exact .inl rfl
    ·have holds:∀(j:Nat) u,xs[j]?=some u→w.cell? ((⟨g,0,none⟩:Addr).add j)=some u:=a2.cells (g:=g) rfl;have a6:=run_append_grow (P:=P) w a4 ty a3 i z E.und hi hz ⟨g,0,none⟩ n cap xs (by rw [hz1];exact a2.1) holds ad m c a0 (by rw [hz1];omega) hnews (by omega) (by omega) (growslice_fits (by omega) (by rw [hz2];omega));rw [hr] at a6;injection a6 with e1 e2
     subst e1;exact .inr rfl
def gE {bytes:Nat} (E:El P a4 a3 size bytes z) {ops:Array Oper} {rest:List Oper} {o:Oper} {a:Act} {Q:Exit→Act→Wo→Prop} (w:Wo) (b0:o.guard=none) (s x:Operand)
  (ho:o.op= .call { callee:=.builtin .append,args:=#[s,x],argTypes:=#[a4,a4] }) (base:Nat) (v:Value) (n:Nat) (xs:Lv) (hs:a.eval s=v) (a2:w.ownsRow base a3 size v n xs)
  (v2:Value) (m:Nat) (a0:Lv) (hx:a.eval x=v2) (a8:SrcAt w v2 m a0) (hl:a0.length=m*size) (h1:∀u∈a0,u.oneCell'=true)
  (a9:n+m≤maxLen) (a1:(n+m)*bytes≤140737488355328) (a5:base≤w.heap.size)
  (h:∀v' w',w'.ownsRow base a3 size v' (n+m) (xs++a0)→w.grownBy w' v.ownBlock→(v'.ownBlock=v.ownBlock∨v'.ownBlock=some w.heap.size)→wpList P ops Q rest (a.put o.dst v') w'):wpList P ops Q (o::rest) a w:=by
 refine fZ b0 fun K hK=>?_
 obtain⟨v',w',hr,h2,h3,h4⟩:=MI E w o.type base v n xs a2 v2 m a0 a8 hl h1 a9 a1 a5;unfold Oper.wp execOp;simp only [ho,resolve,invoke,builtin,bF,cH,cK,List.map_toArray,gS,vV,hs,hx,hr];exact hK _ _ (h v' w' h2 h3 h4)
def gL (h:w.ownsRow base e size v n xs):
  ∃a cap,v= .slice a n cap∧(n=0∨∃g,a=some ⟨g,0,none⟩∧base≤g∧g<w.heap.size∧∀(j:Nat) u,xs[j]?=some u→w.cell? ⟨g,j,none⟩=some u):=by
 have h0:=h;obtain⟨hl,⟨rfl,rfl⟩|⟨g,cap,cur,rfl,hb,hg,hnc,hm,hs,ht⟩⟩:=h
 ·exact⟨none,0,rfl,.inl rfl⟩
 ·refine⟨some ⟨g,0,none⟩,cap,rfl,.inr ⟨g,rfl,hb,(aM.1 hg).1,fun j u hj=>?_⟩⟩;have:=h0.cells (g:=g) rfl j u hj;rw [jX,bT] at this;exact this
def gF (h:w.ownsRow base e size v n xs) (hk:∀g,v.ownBlock=some g→w'.heap[g]?=w.heap[g]?):w'.ownsRow base e size v n xs:=by
 obtain⟨hl,hn|⟨g,cap,cur,rfl,hb,hg,rest⟩⟩:=h
 ·exact⟨hl,.inl hn⟩
 ·exact⟨hl,.inr ⟨g,cap,cur,rfl,hb,(hk g rfl).trans hg,rest⟩⟩
def eT (h:w.ownsRow base e size v n xs) (hb:Below m w w') (hm:w.heap.size≤m):w'.ownsRow base e size v n xs:=
 gF h fun g hg=>hb.block g (bG (h.lt g hg).2 hm)
end Go.RowsK
namespace Go.MapK
open Go.RowKit
variable {b c d j:Nat} {w:Wo}
variable {κ:Type} [DecidableEq κ]
def EsR (kv:κ→Value):List (κ × Value)→List MapEntry→Prop
 | [],[]=>True
 |p::M,e::es=>e.key=kv p.1∧e.val=p.2∧EsR kv M es
 |_,_=>False
def bN (k:κ):List (κ × Value)→Option Nat
 | []=>none
 |p::M=>if k=p.1 then some 0 else(bN k M).map (· +1)
def aQ (k:κ):List (κ × Value)→Option Value
 | []=>none
 |p::M=>if k=p.1 then some p.2 else aQ k M
def putM (k:κ) (v:Value):List (κ × Value)→List (κ × Value)
 | []=>[(k,v)]
 |p::M=>if k=p.1 then(p.1,v)::M else p::putM k v M
structure KL (P:Program) (kt:TypeId) (kv:κ→Value):Prop where
 inj:∀{a b:κ},kv a=kv b→a=b
 find:∀(k:κ) (w:Wo) (M:List (κ × Value)) (es:List MapEntry),EsR kv M es→(Instr.findKey kt (kv k) es).run P w= .ok ((bN k M).bind fun j=>(aQ k M).map fun v=>(j,v)) w
 check:∀(em:Bool) (k:κ) (w:Wo),(Instr.checkKey em 10000 kt (kv k)).run P w= .ok () w
 bits:∀k:κ,Instr.sameBits 10000 (kv k) (kv k)=true
variable {P:Program} {kt mt vt:TypeId} {kv:κ→Value}
def QY (eq:∀(k k':κ) (w:Wo),(Op.equal kt (kv k) (kv k')).run P w= .ok (decide (k=k')) w) (k:κ) (w:Wo):∀(M:List (κ × Value)) (es:List MapEntry) (i:Nat),EsR kv M es→
  (Instr.findAsking kt (kv k) es i).run P w= .ok ((bN k M).bind fun j=>(aQ k M).map fun v=>(i+j,v)) w
 | [],[],i,_=>by simp [Instr.findAsking,bN]
 | p::M,e::es,i,h=>by
  obtain⟨h1,h2,h3⟩:=h;have ih:=QY eq k w M es (i+1) h3;rw [Instr.findAsking];simp only [bF,h1,eq,Result.andThen]
  by_cases hk:k=p.1
  ·simp [hk,bN,aQ,h2]
  ·simp only [hk,decide_false,dX,fN,ih,bN,aQ];congr 1;cases bN k M with
   |none=>rfl
   |some j=>simp [nG,VR 1 j]
 | [],_::_,_,h=>by cases h
 |_::_,[],_,h=>by cases h
def Fq (d:TypeDesc) (hd:P.underlying kt=some d) (hn:∀a b:κ,Instr.sameNow d (kv a) (kv b)=none) (eq:∀(k k':κ) (w:Wo),(Op.equal kt (kv k) (kv k')).run P w= .ok (decide (k=k')) w) (k:κ) (w:Wo) (M:List (κ × Value)) (es:List MapEntry) (h:EsR kv M es):
  (Instr.findKey kt (kv k) es).run P w= .ok ((bN k M).bind fun j=>(aQ k M).map fun v=>(j,v)) w:=by
 have e:=QY eq k w M es 0 h;have hu:(Go.underlying kt).run P w= .ok d w:=dW hd w;unfold Instr.findKey;simp only [bF,hu,Result.andThen];cases es with
 |nil=>
  cases M with
  |nil=>simp [Instr.findNow,bN]
  |cons p M=>cases h
 | cons x es=>
  cases M with
  |nil=>cases h
  | cons p M=>
   have hx:Instr.findNow d (kv k) (x::es) 0=none:=by
    rw [Instr.findNow,h.1,hn]
   rw [hx];simpa using e
def QV (d:TypeDesc) (hn:∀a b:κ,Instr.sameNow d (kv a) (kv b)=some (decide (a=b))) (k:κ):∀(M:List (κ × Value)) (es:List MapEntry) (i:Nat),EsR kv M es→
  Instr.findNow d (kv k) es i=some ((bN k M).bind fun j=>(aQ k M).map fun v=>(i+j,v))
 | [],[],i,_=>by simp [Instr.findNow,bN]
 | p::M,e::es,i,h=>by
  obtain⟨h1,h2,h3⟩:=h;have ih:=QV d hn k M es (i+1) h3;rw [Instr.findNow,h1,hn]
  by_cases hk:k=p.1
  ·simp [hk,bN,aQ,h2]
  ·simp only [hk,decide_false,ih,bN,aQ,fN];congr 1;cases bN k M with
   |none=>rfl
   |some j=>simp [nG,VR 1 j]
 | [],_::_,_,h=>by cases h
 |_::_,[],_,h=>by cases h
def Fp (d:TypeDesc) (hd:P.underlying kt=some d) (hn:∀a b:κ,Instr.sameNow d (kv a) (kv b)=some (decide (a=b))) (k:κ) (w:Wo) (M:List (κ × Value)) (es:List MapEntry) (h:EsR kv M es):
  (Instr.findKey kt (kv k) es).run P w= .ok ((bN k M).bind fun j=>(aQ k M).map fun v=>(j,v)) w:=by
 have e:=QV d hn k M es 0 h;have hu:(Go.underlying kt).run P w= .ok d w:=dW hd w;unfold Instr.findKey;simp only [bF,hu,Result.andThen];rw [e];simp
structure MapIs (kv:κ→Value) (M:List (κ × Value)) (es:Array MapEntry) (a0:Nat):Prop where
 rel:EsR kv M es.toList
 nodup:(M.map (·.1)).Nodup
 borns:es.toList.Pairwise fun x y=>x.born<y.born
 lt:∀e∈es.toList,e.born<a0
def aY (kv:κ→Value) (w:Wo) (b:Nat) (M:List (κ × Value)):Prop:=∃es a0,w.heap[b]?=some (.map es a0)∧MapIs kv M es a0
def aY.of_block {w':Wo} {M:List (κ × Value)} (h:aY kv w b M) (e:w'.heap[b]?=w.heap[b]?):aY kv w' b M:=by
 obtain⟨es,c,h1,h2⟩:=h;exact⟨es,c,e.trans h1,h2⟩
def aY.lt {M:List (κ × Value)} (h:aY kv w b M):b<w.heap.size:=by
 obtain⟨es,c,h1,h2⟩:=h;exact(aM.1 h1).1
def aY.nodup {M:List (κ × Value)} (h:aY kv w b M):(M.map (·.1)).Nodup:=by
 obtain⟨es,c,h1,h2⟩:=h;exact h2.nodup
def aY.new (w:Wo) (c:Nat):aY kv (w.alloc (.map #[] c)) w.heap.size []:=
 ⟨#[],c,by rw [show(w.alloc (.map #[] c)).heap=w.heap.push (.map #[] c) from rfl];simp,⟨trivial,by simp,by simp,by simp⟩⟩
def xL {k:κ}:∀{M:List (κ × Value)},bN k M=none↔∀p∈M,k≠p.1
 | []=>by simp [bN]
 |p::M=>by
  by_cases hk:k=p.1
  ·simp [bN,hk]
  ·simp [bN,hk,xL (M:=M)]
def uP {k:κ}:∀{M:List (κ × Value)},bN k M=none↔aQ k M=none
 | []=>by simp [bN,aQ]
 |p::M=>by by_cases hk:k=p.1<;>simp [bN,aQ,hk,uP (M:=M)]
def EI {k:κ} {M:List (κ × Value)}:aQ k M=none↔∀p∈M,k≠p.1:=uP.symm.trans xL
def wF {k:κ} {v:Value}:∀{M:List (κ × Value)},aQ k M=some v→(k,v)∈M
 | [],h=>by simp [aQ] at h
 | p::M,h=>by
  by_cases hk:k=p.1
  ·simp [aQ,hk] at h;subst hk;subst h;simp
  ·simp [aQ,hk] at h;exact rQ _ (wF h)
def qC {k:κ} {v:Value}:∀{M:List (κ × Value)},aQ k (putM k v M)=some v
 | []=>by simp [putM,aQ]
 |p::M=>by
  by_cases hk:k=p.1
  ·simp [putM,aQ,hk]
  ·simp [putM,aQ,hk,qC (M:=M)]
def oT {k k':κ} {v:Value} (a1:k'≠k):∀{M:List (κ × Value)},aQ k' (putM k v M)=aQ k' M
 | []=>by simp [putM,aQ,a1]
 |p::M=>by
  by_cases hk:k=p.1
  ·subst hk;simp [putM,aQ,a1]
  ·by_cases h2:k'=p.1<;>simp [putM,aQ,hk,h2,oT a1 (M:=M)]
def xD {k:κ} {v:Value} {q:κ × Value}:∀{M:List (κ × Value)},q∈putM k v M→q=(k,v)∨q∈M
 | [],h=>by simp [putM] at h;exact .inl h
 | p::M,h=>by
  by_cases hk:k=p.1
  ·simp [putM,hk] at h;rcases h with h|h
   ·left;rw [h,hk]
   ·right;simp [h]
  ·simp [putM,hk] at h;rcases h with h|h
   ·right;simp [h]
   ·rcases xD h with h|h
    ·exact .inl h
    ·right;simp [h]
def GO {k k':κ} {v:Value}:∀{M:List (κ × Value)},k'∈(putM k v M).map (·.1)↔k'=k∨k'∈M.map (·.1)
 | []=>by simp [putM]
 | p::M=>by
  by_cases hk:k=p.1
  ·simp [putM,hk]
  ·simp only [putM,hk,fN,gS,cD,GO (M:=M)];constructor
   ·rintro(h|h|h)
    ·exact .inr (.inl h)
    ·exact .inl h
    ·exact .inr (.inr h)
   ·rintro(h|h|h)
    ·exact .inr (.inl h)
    ·exact .inl h
    ·exact .inr (.inr h)
def run_getMap {es:Array MapEntry} (h:w.heap[b]?=some (.map es c)):(getObj b).run P w= .ok (.map es c) w:=by simp [getObj,Sem.run,h]
def MH {m:Option Nat} {s:Array Nat} (h:w.heap[b]?=some (.mapIter m c s d)):(getObj b).run P w= .ok (.mapIter m c s d) w:=by simp [getObj,Sem.run,h]
def sP (K:KL P kt kv) (hu:P.underlying mt=some (.map kt vt)) {z:Value} (hz:∀w,(zeroValue vt).run P w= .ok z w) {w:Wo} {b:Nat} {M:List (κ × Value)} (h:aY kv w b M) (k:κ):
  (Instr.lookup mt (.map (some b)) (kv k) false).run P w= .ok ((aQ k M).getD z) w:=by
 obtain⟨es,a0,hb,hM⟩:=h;have a3:(Go.underlying mt).run P w= .ok (.map kt vt) w:=dW hu w;unfold Instr.lookup;simp only [bF,a3,Result.andThen,run_getMap hb,cH,K.check,K.find k w M _ hM.rel];cases hi:bN k M with
 |none=>simp [uP.1 hi,hz,Result.andThen]
 |some j=>
  cases hv:aQ k M with
  |none=>rw [uP.2 hv] at hi;cases hi
  |some v=>simp [Result.andThen]
def EsR.length:∀{M:List (κ × Value)} {es:List MapEntry},EsR kv M es→es.length=M.length
 | [],[],_=>rfl
 |p::M,e::es,h=>by simp [EsR.length h.2.2]
 | [],_::_,h=>by cases h
 |_::_,[],h=>by cases h
def len_of (hu:P.underlying mt=some (.map kt vt)) {w:Wo} {b:Nat} {M:List (κ × Value)} (h:aY kv w b M) (ty:TypeId):
  (Builtin.len_ #[mt] ty #[.map (some b)]).run P w= .ok (.int .i64 (M.length:Nat)) w:=by
 obtain⟨es,a0,hb,hM⟩:=h;have a3:(Go.underlying mt).run P w= .ok (.map kt vt) w:=dW hu w;have hl:=hM.rel.length;unfold Builtin.len_;simp only [show(#[mt]:Array TypeId)[0]?=some mt from rfl,show(#[Value.map (some b)]:Array Value)[0]?=some (.map (some b)) from rfl,bF,a3,Result.andThen,run_getMap hb,cH];rw [←hl];simp [goInt]
def wS {k:κ} {v:Value}:∀{M:List (κ × Value)},bN k M=none→putM k v M=M++ [(k,v)]
 | [],_=>rfl
 | p::M,h=>by
  by_cases hk:k=p.1
  ·simp [bN,hk] at h
  ·have:bN k M=none:=by simpa [bN,hk] using h
   simp [putM,hk,wS this]
def EsR.put {k:κ} {v:Value}:∀{M:List (κ × Value)} {es:List MapEntry} {j:Nat},EsR kv M es→bN k M=some j→EsR kv (putM k v M) (es.modify j fun e=>{ e with key:=kv k,val:=v })
 | p::M,e::es,j,h,hi=>by
  obtain⟨h1,h2,h3⟩:=h
  by_cases hk:k=p.1
  ·obtain rfl:j=0:=by simpa [bN,hk] using hi.symm
   subst hk;simp [putM,EsR,h3]
  ·obtain⟨i,hi2,rfl⟩:∃i,bN k M=some i∧j=i+1:=by
    simp only [bN,hk,fN,rL] at hi;obtain⟨i,h,e⟩:=hi;exact⟨i,h,e.symm⟩
   simp only [putM,hk,fN,Ls,EsR];exact⟨h1,h2,EsR.put h3 hi2⟩
 | [],[],_,_,hi=>by simp [bN] at hi
 | [],_::_,_,h,_=>by cases h
 |_::_,[],_,h,_=>by cases h
def EsR.append {k:κ} {v:Value} (n:Nat):∀{M:List (κ × Value)} {es:List MapEntry},EsR kv M es→EsR kv (M++ [(k,v)]) (es++ [{ key:=kv k,val:=v,born:=n }])
 | [],[],_=>⟨rfl,rfl,trivial⟩
 |p::M,e::es,h=>⟨h.1,h.2.1,EsR.append n h.2.2⟩
 | [],_::_,h=>by cases h
 |_::_,[],h=>by cases h
def FQ {k:κ} {v:Value}:∀{M:List (κ × Value)} {j:Nat},bN k M=some j→(putM k v M).map (·.1)=M.map (·.1)
 | p::M,j,hi=>by
  by_cases hk:k=p.1
  ·simp [putM,hk]
  ·obtain⟨i,hi2,rfl⟩:∃i,bN k M=some i∧j=i+1:=by
    simp only [bN,hk,fN,rL] at hi;obtain⟨i,h,e⟩:=hi;exact⟨i,h,e.symm⟩
   simp [putM,hk,FQ hi2]
 | [],_,hi=>by simp [bN] at hi
def EsR.key {k:κ}:∀{M:List (κ × Value)} {es:List MapEntry} {j:Nat},EsR kv M es→bN k M=some j→∃e,es[j]?=some e∧e.key=kv k
 | p::M,e::es,j,h,hi=>by
  obtain⟨h1,h2,h3⟩:=h
  by_cases hk:k=p.1
  ·obtain rfl:j=0:=by simpa [bN,hk] using hi.symm
   exact⟨e,rfl,by rw [h1,hk]⟩
  ·obtain⟨i,hi2,rfl⟩:∃i,bN k M=some i∧j=i+1:=by
    simp only [bN,hk,fN,rL] at hi;obtain⟨i,h,e⟩:=hi;exact⟨i,h,e.symm⟩
   obtain⟨e',h4,h5⟩:=EsR.key h3 hi2;exact⟨e',by simpa using h4,h5⟩
 | [],[],_,_,hi=>by simp [bN] at hi
 | [],_::_,_,h,_=>by cases h
 |_::_,[],_,h,_=>by cases h
def KY {k:κ} {M:List (κ × Value)} (h:bN k M=some j):∃v,aQ k M=some v:=by
 cases hv:aQ k M with
 |none=>rw [uP.2 hv] at h;cases h
 |some v=>exact⟨v,rfl⟩
def GJ (f:MapEntry→MapEntry) (hf:∀e,(f e).born=e.born):∀(l:List MapEntry) (j:Nat),(l.modify j f).map (·.born)=l.map (·.born)
 | [],_=>by simp
 |e::l,0=>by simp [hf]
 |e::l,j+1=>by simp [GJ f hf l j]
def rW (K:KL P kt kv) (hu:P.underlying mt=some (.map kt vt)) {w:Wo} {b:Nat} {M:List (κ × Value)} (h:aY kv w b M) (k:κ) (v:Value):
  ∃w',(Instr.mapUpdate mt (.map (some b)) (kv k) v).run P w= .ok () w'∧aY kv w' b (putM k v M)∧w.grownBy w' (some b)∧w'.heap.size=w.heap.size:=by
 obtain⟨es,a0,hb,hM⟩:=h;have a3:(Go.underlying mt).run P w= .ok (.map kt vt) w:=dW hu w;have b0:b<w.heap.size:=(aM.1 hb).1;have a2:∀o,(setObj b o).run P w= .ok () { w with heap:=w.heap.setIfInBounds b o }:=fun o=>by simp [setObj,Sem.run,hb]
 have a4:∀o,({ w with heap:=w.heap.setIfInBounds b o }:Wo).heap[b]?=some o:=fun o=>by simp [b0]
 have a6:∀o,w.grownBy { w with heap:=w.heap.setIfInBounds b o } (some b):=fun o=>⟨rfl,rfl,rfl,by simp,fun k hk a1=>by
  have:b≠k:=fun e=>a1 (by rw [e])
  simp [mG,this]⟩
 have a7:∀o,({ w with heap:=w.heap.setIfInBounds b o }:Wo).heap.size=w.heap.size:=fun o=>by simp
 unfold Instr.mapUpdate;simp only [bF,a3,Result.andThen,run_getMap hb,cH,K.check,K.find k w M _ hM.rel];cases hi:bN k M with
 | none=>
  refine⟨_,?_,⟨_,_,a4 (.map (es.push { key:=kv k,val:=v,born:=a0 }) (a0+1)),?_⟩,a6 _,a7 _⟩
  ·simp [a2]
  ·refine⟨?_,?_,?_,?_⟩
   ·rw [wS hi];simpa using EsR.append a0 hM.rel
   ·rw [wS hi,pX,vR];refine⟨hM.nodup,by simp,?_⟩;intro a ha c hc e;obtain⟨p,hp,rfl⟩:=dJ.1 ha;simp at hc;exact xL.1 hi p hp (by rw [e,hc])
   ·rw [KI,JX];exact⟨hM.borns,by simp,fun x hx y hy=>by simp at hy;subst hy;exact hM.lt x hx⟩
   ·intro e he;rw [KI,bX] at he;rcases he with he|he
    ·have:=hM.lt e he;omega
    ·simp at he;subst he;show a0<a0+1;omega
 | some j=>
  obtain⟨v0,hv0⟩:=KY hi;obtain⟨e0,he0,hk0⟩:=hM.rel.key hi;have b1:∀w,(Instr.keyThatStays (kv k) (kv k)).run P w= .ok (kv k) w:=fun w=>by
   unfold Instr.keyThatStays;rw [K.bits k];simp
  refine⟨_,?_,⟨_,_,a4 (.map (es.modify j fun e=>{ e with key:=kv k,val:=v }) a0),?_⟩,a6 _,a7 _⟩
  ·have a9:es[j]?=some e0:=by rw [←iT];exact he0
   simp [hv0,a9,hk0,b1,a2,Result.andThen]
  ·have a5:=GJ (fun e=>{ e with key:=kv k,val:=v }) (fun _=>rfl) es.toList j;refine⟨?_,?_,?_,?_⟩
   ·simpa using EsR.put (v:=v) hM.rel hi
   ·rw [FQ hi];exact hM.nodup
   ·have:=JW.2 hM.borns;rw [←a5] at this;simpa using JW.1 this
   ·intro e he;have a8:e∈es.toList.modify j (fun e=>{ e with key:=kv k,val:=v }):=by simpa using he
    have h1:e.born∈(es.toList.modify j (fun e=>{ e with key:=kv k,val:=v })).map (·.born):=dJ.2 ⟨e,a8,rfl⟩;rw [a5] at h1;obtain⟨e',h2,h3⟩:=dJ.1 h1;rw [←h3];exact hM.lt e' h2
end Go.MapK
namespace Go.Proofs.YtbdpdeonapmlgaaGreatDoor
open Go.RowKit Go.Big
def bkN (l:List UInt8):Int:=
 if l= [61] then 3
 else if l= [92,61]∨l= [61,61]∨l= [92,61,61]∨l= [64,60]∨l= [64,61,60]∨l= [64,62]∨l= [64,62,61] then 4
 else if l= [105,115] then 5
 else if l= [61,58,61]∨l= [61,92,61]∨l= [60]∨l= [61,60]∨l= [62]∨l= [62,61] then 6
 else 0
def biB (l:List UInt8) (a:Int):Bool:=
 if a=0 then(l== [116,114,117,101]||l== [33])
 else if a=1 then l== [92,43]
 else if a=2 then(l== [44]||l== [59]||l== [45,62]||l== [42,45,62]||bkN l !=0)
 else false
def NP (nm:ByteArray) (w:Wo):Cz 131 #[.string nm] w fun e w'=>e= .returned (.int .i64 (bkN nm.toList))∧w=w':=by
 obtain⟨K,hK⟩:=enm (bkN nm.toList);rw [hK];have a0:=aside hK;clear hK;go_enter Tryz.func131,Tryz.ntmps131;go_wp2
 all_goals(have hk:=a0.o;clear a0;go_ret;refine⟨?_,rfl⟩;subst hk;simp_all [bkN])
def AJ (nm:ByteArray) (a:Int) (w:Wo):Cz 74 #[.agg #[.string nm,.int .i64 a]] w fun e w'=>e= .returned (.bool (biB nm.toList a))∧Bz w w':=by
 have hB:=aC w (Obj.cells #[.string nm,.int .i64 a] 63);obtain⟨K,hK⟩:=enm (biB nm.toList a);rw [hK];have a0:=aside hK;clear hK;obtain⟨b,hb⟩:=enm (bkN nm.toList);have a1:=aside hb;have d1:∀w,Cz 131 #[.string nm] w fun e w'=>e= .returned (.int .i64 b)∧w=w':=fun w=>by rw [←a1.o];exact NP nm w
 clear hb;go_enter Tryz.func74,Tryz.ntmps74
 go_wp2_with (go_at_call 131;(with_reducible refine(d1 _).mono ?_);rintro e w' ⟨rfl,rfl⟩)
 all_goals(have hk:=a0.o;have a2:=a1.o;clear a0 a1;go_ret;refine⟨?_,hB⟩;clear hB;subst hk;subst a2;simp_all [biB])
def Dx (k v:Int) (nm s:ByteArray) (g:Bool) (s1 s2 s3:Value) (w:Wo):
  Cz 127 #[.agg #[.int .i64 k,.int .i64 v,.string nm,.bool g,s1,s2,s3],.string s] w fun e w'=>e= .returned (.bool (k==3&&nm.toList==s.toList))∧Bz w w':=by
 have hB:=aC w (Obj.cells #[.int .i64 k,.int .i64 v,.string nm,.bool g,s1,s2,s3] 48)
 by_cases hk:k=3
 ·subst hk;go_enter Tryz.func127,Tryz.ntmps127;go_wp2
  all_goals(go_ret;exact⟨by simp_all,hB⟩)
 ·have a0:(k==3)=false:=by simpa using hk
  go_enter Tryz.func127,Tryz.ntmps127;go_wp2
  all_goals(go_ret;exact⟨by simp_all,hB⟩)
def PT (k v:Int) (nm s:ByteArray) (g:Bool) (s1 s2:Value) (a:Option Addr) (len c:Nat) (n:Int) (w:Wo):
  Cz 128 #[.agg #[.int .i64 k,.int .i64 v,.string nm,.bool g,s1,s2,.slice a len c],.string s,.int .i64 n] w fun e w'=>e= .returned (.bool (k==5&&nm.toList==s.toList&&((len:Int)==n)))∧Bz w w':=by
 have hB:=aC w (Obj.cells #[.int .i64 k,.int .i64 v,.string nm,.bool g,s1,s2,.slice a len c] 48)
 by_cases hk:k=5
 ·subst hk;cases hb:(nm.toList==s.toList)
  ·go_enter Tryz.func128,Tryz.ntmps128;go_wp2
   all_goals(go_ret;exact⟨by simp_all,hB⟩)
  ·go_enter Tryz.func128,Tryz.ntmps128;go_wp2
   all_goals(go_ret;exact⟨by simp_all,hB⟩)
 ·have a0:(k==5)=false:=by simpa using hk
  go_enter Tryz.func128,Tryz.ntmps128;go_wp2
  all_goals(go_ret;exact⟨by simp_all,hB⟩)
def IJ (k v:Int) (nm:ByteArray) (g:Bool) (s1 s2 s3:Value) (w:Wo):
  Cz 89 #[.agg #[.int .i64 k,.int .i64 v,.string nm,.bool g,s1,s2,s3]] w fun e w'=>e= .returned (.bool (k==3||k==5))∧Bz w w':=by
 have hB:=aC w (Obj.cells #[.int .i64 k,.int .i64 v,.string nm,.bool g,s1,s2,s3] 48)
 by_cases hk:k=3
 ·subst hk;go_enter Tryz.func89,Tryz.ntmps89;go_wp2
  all_goals(go_ret;exact⟨by simp_all,hB⟩)
 ·have a0:(k==3)=false:=by simpa using hk
  go_enter Tryz.func89,Tryz.ntmps89;go_wp2
  all_goals(go_ret;exact⟨by simp_all,hB⟩)
def qK (k v:Int) (nm:ByteArray) (g:Bool) (s1 s2:Value) (a:Option Addr) (len c:Nat) (w:Wo):
  Cz 26 #[.agg #[.int .i64 k,.int .i64 v,.string nm,.bool g,s1,s2,.slice a len c]] w fun e w'=>e= .returned (.agg #[.string nm,.int .i64 len])∧Bz w w':=by
 have hB:=aC w (Obj.cells #[.int .i64 k,.int .i64 v,.string nm,.bool g,s1,s2,.slice a len c] 48);go_enter Tryz.func26,Tryz.ntmps26;go_wp2;refine tK (v:=.agg #[.string nm,.int .i64 len]) (by simp [results,Tryz.results26,go_sem]) rfl ⟨rfl,?_⟩;exact hB.alloc hB.size _
end Go.Proofs.YtbdpdeonapmlgaaGreatDoor
namespace Go.Heavy
variable {Q:Act→Wo→Prop} {ops:Array Oper} {C:Wo→Prop} {P:Program} {p:Plan} {w:Wo} {a a':Act}
def norm_a (h:a=a') (hK:eE P ops C Q p a' w):eE P ops C Q p a w:=by subst h;exact hK
def light_m {i:Nat} {o:Oper} (v:Value) (h0:ops[i]?=some o) (hg:o.guard=none) (hs:∀w,C w→uponW P (fun u w'=>u=v∧w'=w) ((execOp a.eval o).run P w)) (ha:a.put o.dst v=a') (hK:eE P ops C Q p a' w):eE P ops C Q (.light i p) a w:=light_n v h0 hg hs (by rw [ha];exact hK)
end Go.Heavy
namespace Go
def hNa:=@Heavy.norm_a
def hLm:=@Heavy.light_m
def hLn:=@Heavy.light_n
def hRp:=@Heavy.region_plan
def hPe:=@Heavy.plan_end
def hOn:=@Heavy.one_n
def hLs:=@Heavy.light_step
def hLk:=@Heavy.light_skip
def hTn:=@Heavy.two_n
end Go
