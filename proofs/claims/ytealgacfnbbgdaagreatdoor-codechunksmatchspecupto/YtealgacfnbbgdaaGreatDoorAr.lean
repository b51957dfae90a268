/- Lemmas; no condition. -/
import Derived.Test.YtealgacfnbbgdaaGreatDoorAh
set_option linter.all false
set_option maxHeartbeats 40000000
set_option maxRecDepth 100000
namespace Go.Proofs.YtealgacfnbbgdaaGreatDoor
open Go.RowKit Go.Big
variable {g:Bool} {den num:List Nat} {len sz:Nat} {k v:Int}
noncomputable def Tm.faultE (T:Tm):Int:=if 10000<T.nodes then 3 else T.errE
def Oq (T:Tm) (n:Nat) (w:Wo) (vs:Lv) (h:TmV n w T vs) (hn:n≤w.heap.size):
  Cz 34 #[.agg vs.toArray] w fun e w'=>e= .returned (.int .i64 T.faultE)∧Bz w w':=by
 have hs:=RK T n;have hd:=SK T n;obtain⟨F,hF⟩:=enm T.errE;have a2:Aside (T.faultE=if 10000<T.nodes then 3 else F):=by rw [←hF];rfl
 rw [hF] at hd;have h0:=h;obtain⟨k,v,nm,g,num,den,args⟩:=T;simp only [TmV] at h;obtain⟨s1,s2,a,c,rfl,⟨⟨p1,q1,rfl,_⟩,⟨p2,q2,rfl,_⟩⟩,_⟩:=h;obtain⟨N,hN⟩:=enm (Tm.nodes (.mk k v nm g num den args));obtain⟨E,hE⟩:=enm (Tm.faultE (.mk k v nm g num den args));rw [hE,hN] at a2;rw [hE];have hB:=aC w (Obj.cells #[.int .i64 k,.int .i64 v,.string nm,.bool g,.slice p1 num.length q1,.slice p2 den.length q2,.slice a args.length c] 27);have hq:=bY w (Obj.cells #[.int .i64 k,.int .i64 v,.string nm,.bool g,.slice p1 num.length q1,.slice p2 den.length q2,.slice a args.length c] 27);have d1:=hs (w.alloc (Obj.cells #[.int .i64 k,.int .i64 v,.string nm,.bool g,.slice p1 num.length q1,.slice p2 den.length q2,.slice a args.length c] 27)) _ 10000 (by omega) (TmV.below hB hn _ _ h0) (aE hn hB.size);have d2:∀w2,Bz w w2→_:=fun w2 hb=>hd w2 _ (TmV.below hb hn _ _ h0) (aE hn hb.size)
 rw [hN] at d1;replace d1:Cz 72 #[.agg #[.int .i64 k,.int .i64 v,.string nm,.bool g,.slice p1 num.length q1,.slice p2 den.length q2,.slice a args.length c],.int .i64 10000] _ _:=d1;replace d2:∀w2,Bz w w2→Cz 73 #[.agg #[.int .i64 k,.int .i64 v,.string nm,.bool g,.slice p1 num.length q1,.slice p2 den.length q2,.slice a args.length c]] w2 _:=d2;clear h0 hs hd hN hE hF;generalize args.length=l0,num.length=l1,den.length=l2 at*;show Cz 34 #[.agg (tA k v nm g p1 l1 q1 p2 l2 q2 a l0 c)] w _
 by_cases hb:10000<N
 ·have a1:Aside (E=3):=by show E=3;rw [a2.o,if_pos hb]
  go_enter Tryz.func34,Tryz.ntmps34
  go_wp2_with first|(go_at_call 72;(with_reducible refine d1.mono ?_);rintro e w3 ⟨r,rfl,hr,hb3⟩;obtain⟨r2,a3⟩:∃r2:Nat,r=r2∧(10000:Int)<(r2:Int):=⟨r,rfl,by omega⟩;obtain⟨rfl,hr3⟩:=a3;clear hr)
  go_ret
  rw [a1.o];exact⟨rfl,hB.trans (hb3.mono hB.size)⟩
 ·have a1:Aside (E=F):=by show E=F;rw [a2.o,if_neg hb]
  go_enter Tryz.func34,Tryz.ntmps34
  go_wp2_with first|(go_at_call 72;(with_reducible refine d1.mono ?_);rintro e w3 ⟨r,rfl,hr,hb3⟩;have a3:(r:Int)≤10000:=(by omega);have a0:=hB.trans (hb3.mono hB.size);obtain⟨y0,y1,y2,y3,y4,y5,y6⟩:=dZ ((hb3.block w.heap.size (by simp)).trans hq);clear hr)|(go_at_call 73;(with_reducible refine(d2 _ a0).mono ?_);rintro e w4 ⟨rfl,hb4⟩)
  go_ret
  rw [a1.o];exact⟨rfl,a0.trans (hb4.mono a0.size)⟩
def pf20 (h:k<1∨5<k):¬eH k v sz g num den len:=by
 unfold eH;omega
def pf29 (h:(¬k=1∧¬v=0)∨v<0∨1073741824<v):¬eH k v sz g num den len:=by
 unfold eH;omega
def pf48 (h:(¬(k=3∨k=4∨k=5)∧¬sz=0)∨(¬k=2∧eK g num.length den.length=false)):¬eH k v sz g num den len:=by
 rcases h with h|⟨h,h2⟩
 ·unfold eH;omega
 ·unfold eH;rw [h2];simp;omega
def pf67 (h:k=2∧¬fF g num den=0):¬eH k v sz g num den len:=by
 obtain⟨rfl,h2⟩:=h;unfold eH;rintro(h|h|h|h|h)
 ·omega
 ·exact h2 h.2.2.2.2
 ·omega
 ·omega
 ·omega
def pf77 (h:(¬k=5∧0<len)∨(k=5∧(len<1∨32<len))):¬eH k v sz g num den len:=by
 unfold eH;omega
def pf_all (h1:¬(k<1∨5<k)) (h2:¬((¬k=1∧¬v=0)∨v<0∨1073741824<v)) (h3:¬((¬(k=3∨k=4∨k=5)∧¬sz=0)∨(¬k=2∧eK g num.length den.length=false))) (h4:¬(k=2∧¬fF g num den=0)) (h5:¬((¬k=5∧0<len)∨(k=5∧(len<1∨32<len)))):eH k v sz g num den len:=by
 have hn:¬k=2→eK g num.length den.length=true:=fun h=>by
  cases hc:eK g num.length den.length with
  |true=>rfl
  |false=>exact absurd (.inr ⟨h,hc⟩) h3
 have hs:¬(¬(k=3∨k=4∨k=5)∧¬sz=0):=fun h=>h3 (.inl h)
 unfold eH;have hk:k=1∨k=2∨k=3∨k=4∨k=5:=by omega
 rcases hk with rfl|rfl|rfl|rfl|rfl
 ·exact .inl ⟨rfl,by omega,by omega,by omega,hn (by decide),by omega⟩
 ·exact .inr (.inl ⟨rfl,by omega,by omega,by omega,oK fun h=>h4 ⟨rfl,h⟩⟩)
 ·exact .inr (.inr (.inl ⟨rfl,by omega,hn (by decide),by omega⟩))
 ·exact .inr (.inr (.inr (.inl ⟨rfl,by omega,hn (by decide),by omega⟩)))
 ·exact .inr (.inr (.inr (.inr ⟨rfl,by omega,hn (by decide),by omega,by omega⟩)))
def Ff (h:eH k v sz g num den len) (hs:¬((k=4∧4000<sz)∨(¬k=4∧255<sz))):cU k v sz g num den len=0:=by
 unfold cU;rw [if_pos h,if_neg];unfold nG eH at*;split
 ·omega
 ·split<;>omega
def Fg (h:eH k v sz g num den len) (hs:(k=4∧4000<sz)∨(¬k=4∧255<sz)):cU k v sz g num den len=3:=by
 unfold cU;rw [if_pos h,if_pos];unfold nG;split
 ·omega
 ·split<;>omega
def NfOk (T:Tm):Prop:=∀(n:Nat) (w:Wo) (vs:Lv),TmV n w T vs→n≤w.heap.size→
  Cz 77 #[.agg vs.toArray] w fun e w'=>e= .returned (.int .i64 T.errE)∧Bz w w'
def Io (k v:Int) (nm:ByteArray) (g:Bool) (num den:List Nat) (args:List Tm) (ih:∀T'∈args,NfOk T'):NfOk (.mk k v nm g num den args):=by
  intro n w vs h hn;obtain⟨F,hF⟩:=enm (Tm.errE (.mk k v nm g num den args));have b8:Aside (F=if cU k v nm.size g num den args.length≠0 then cU k v nm.size g num den args.length else Tm.errL args):=by
   show F=_;rw [←hF];simp only [Tm.errE]
  have a3:Aside (¬eH k v nm.size g num den args.length→F=2):=fun h=>by
   have e:cU k v nm.size g num den args.length=2:=if_neg h;rw [b8.o,e];rfl
  rw [hF];clear hF;simp only [TmV] at h;obtain⟨s1,s2,a,c,rfl,⟨⟨p1,q1,rfl,hA⟩,⟨p2,q2,rfl,hC⟩⟩,h2,hbig,hbA,hbC⟩:=h;obtain⟨len,hl⟩:=enm args.length;obtain⟨l1,hl1⟩:=enm num.length;obtain⟨l2,hl2⟩:=enm den.length;rw [hl] at hbig a3 b8 ⊢;rw [hl1] at hbA ⊢;rw [hl2] at hbC ⊢;show Cz 77 #[.agg (tA k v nm g p1 l1 q1 p2 l2 q2 a len c)] w _;have b0:=aC w (Obj.cells (tA k v nm g p1 l1 q1 p2 l2 q2 a len c) 27);have hq:=bY w (Obj.cells (tA k v nm g p1 l1 q1 p2 l2 q2 a len c) 27);have i2:w.heap.size+1≤(w.alloc (Obj.cells (tA k v nm g p1 l1 q1 p2 l2 q2 a len c) 27)).heap.size:=by simp
  go_enter Tryz.func77,Tryz.ntmps77
  go_upto_region 1 with fail
  generalize w.alloc (Obj.cells (tA k v nm g p1 l1 q1 p2 l2 q2 a len c) 27)=wb at*;have fc:∀w2,Bz wb w2→_:=fun w2 hb=>dZ ((hb.block w.heap.size (by omega)).trans hq)
  obtain⟨x0,x1,x2,x3,x4,x5,x6⟩:=fc wb (aK _ _);have Al:=aside3 hl hl1 hl2;clear hl hl1 hl2 hq;obtain⟨P3,hP3r⟩:∃P:Prop,P=(k=3∨k=4∨k=5):=⟨_,rfl⟩;have b9:=aside hP3r;clear hP3r
  go_cut [3] from 7 to 19 (fun s3 wx=>∃b,s3= .bool b∧(b=true↔P3)∧wx=wb)
  case first=>
   as_aux_lemma=>
    clear fc ih h2 hA hC b0 hbig hbA hbC
    by_cases k3:k=3
    ·subst k3;have a0:Aside P3:=by show P3;rw [b9.o];exact .inl rfl
     go_wp2_with fail
     go_meet
     exact⟨true,rfl,⟨fun _=>a0.o,fun _=>rfl⟩,rfl⟩
    ·have i4:(k==3)=false:=by simpa using k3
     by_cases k4:k=4
     ·subst k4;clear k3;have a0:Aside P3:=by show P3;rw [b9.o];exact .inr (.inl rfl)
      go_wp2_with fail
      go_meet
      exact⟨true,rfl,⟨fun _=>a0.o,fun _=>rfl⟩,rfl⟩
     ·have h7:(k==4)=false:=by simpa using k4
      have kA:=aside2 k3 k4;clear k3 k4
      go_wp2_with fail
      go_meet
      exact⟨_,rfl,by rw [b9.o];have:=kA.o;simp;omega,rfl⟩
  case rest=>
   obtain⟨b3,rfl,hb3c,rfl⟩:=hcut;rw [b9.o] at hb3c;have e5:=aside hb3c;clear b9;clear hb3c
   go_upto_region 2 with fail
   obtain⟨c5,hP20r⟩:∃P:Prop,P=(k<1∨5<k):=⟨_,rfl⟩;have a7:=aside hP20r;clear hP20r
   go_cut [20] from 21 to 28 (fun s wx=>∃b,s= .bool b∧(b=true↔c5)∧wx=wc)
   case first=>
    as_aux_lemma=>
     clear fc ih h2 hA hC b0 hbig hbA hbC
     by_cases k1:k<1
     ·have hk:=aside k1;have a0:Aside c5:=by show c5;rw [a7.o];exact .inl hk.o
      go_wp2_with fail
      go_meet
      exact⟨true,rfl,⟨fun _=>a0.o,fun _=>rfl⟩,rfl⟩
     ·by_cases k5:5<k
      ·have hk:=aside k5;have a0:Aside c5:=by show c5;rw [a7.o];exact .inr hk.o
       go_wp2_with fail
       go_meet
       exact⟨true,rfl,⟨fun _=>a0.o,fun _=>rfl⟩,rfl⟩
      ·have hk:Aside (¬(k<1∨5<k)):=by show¬_;omega
       have a0:Aside (¬c5):=by show¬c5;rw [a7.o];exact fun h=>absurd h hk.o
       go_wp2_with fail
       go_meet
       exact⟨false,rfl,⟨fun h=>(by cases h),fun h=>absurd h a0.o⟩,rfl⟩
   case rest=>
    obtain⟨f9,rfl,hb20,rfl⟩:=hcut;rw [a7.o] at hb20;clear a7;cases f9
    ·have b1:Aside (¬(k<1∨5<k)):=fun h=>by have:=hb20.2 h;cases this
     clear hb20
     go_upto_region 4 with fail
     obtain⟨b6,hP29r⟩:∃P:Prop,P=((¬k=1∧¬v=0)∨v<0∨1073741824<v):=⟨_,rfl⟩;have a4:=aside hP29r;clear hP29r
     go_cut [29] from 30 to 47 (fun s wx=>∃b,s= .bool b∧(b=true↔b6)∧wx=wc)
     case first=>
      as_aux_lemma=>
       clear fc ih h2 hA hC b0 hbig hbA hbC;clear b1
       by_cases k1:k=1
       ·subst k1
        by_cases v0:v<0
        ·have hv:=aside v0;have a0:Aside b6:=by show b6;rw [a4.o];exact .inr (.inl hv.o)
         go_wp2_with fail
         go_meet
         exact⟨true,rfl,⟨fun _=>a0.o,fun _=>rfl⟩,rfl⟩
        ·by_cases v1:1073741824<v
         ·have hv:=aside v1;have a0:Aside b6:=by show b6;rw [a4.o];exact .inr (.inr hv.o)
          go_wp2_with fail
          go_meet
          exact⟨true,rfl,⟨fun _=>a0.o,fun _=>rfl⟩,rfl⟩
         ·have hv:Aside (0≤v∧v≤1073741824):=⟨by omega,by omega⟩;have a0:Aside (¬b6):=by show¬b6;rw [a4.o];exact fun h=>by have:=hv.o;omega
          go_wp2_with fail
          go_meet
          exact⟨false,rfl,⟨fun h=>(by cases h),fun h=>absurd h a0.o⟩,rfl⟩
       ·have i3:(k !=1)=true:=by simpa using k1
        have h6:=aside k1
        by_cases vz:v=0
        ·subst vz;have a0:Aside (¬b6):=by show¬b6;rw [a4.o];exact fun h=>by omega
         go_wp2_with fail
         go_meet
         exact⟨false,rfl,⟨fun h=>(by cases h),fun h=>absurd h a0.o⟩,rfl⟩
        ·have i8:(v !=0)=true:=by simpa using vz
         have h8:=aside vz;have a0:Aside b6:=by show b6;rw [a4.o];exact .inl ⟨h6.o,h8.o⟩
         go_wp2_with fail
         go_meet
         exact⟨true,rfl,⟨fun _=>a0.o,fun _=>rfl⟩,rfl⟩
     case rest=>
      obtain⟨g0,rfl,hb29,rfl⟩:=hcut;rw [a4.o] at hb29;clear a4;cases g0
      ·have d2:Aside (¬((¬k=1∧¬v=0)∨v<0∨1073741824<v)):=fun h=>by have:=hb29.2 h;cases this
       clear hb29;obtain⟨wb,rfl⟩:=enr wc;have d3:=Fm g p1 p2 l1 l2 q1 q2 wb
       go_upto_region 6 with fail
       obtain⟨a9,hP48r⟩:∃P:Prop,P=((b3=false∧¬nm.toList= [])∨(¬k=2∧eK g l1 l2=false)):=⟨_,rfl⟩;have a1:=aside hP48r;clear hP48r
       go_cut [48] from 49 to 66 (fun s wx=>∃b,s= .bool b∧(b=true↔a9)∧Bz wb wx)
       case first=>
        as_aux_lemma=>
         obtain⟨NN,hNN⟩:=enm ((!g&&(((l1:Int)==0)&&((l2:Int)==0))));rw [hNN] at d3;have AN:Aside (eK g l1 l2=NN):=by
          show _=_;rw [←hNN];unfold eK;cases g
          ·by_cases h0:l1=0<;>by_cases h1:l2=0<;>simp [h0,h1]
          ·rfl
         clear hNN fc ih h2 hA hC b0 hbig hbA hbC b1;cases b3
         ·by_cases f4:nm.toList= []
          ·have c4:=aside f4
           by_cases k2:k=2
           ·subst k2;have a0:Aside (¬a9):=by show¬a9;rw [a1.o];exact fun h=>by rcases h with h|h;exact absurd c4.o h.2;exact absurd rfl h.1
            go_wp2_with fail
            go_meet
            exact⟨false,rfl,⟨fun h=>(by cases h),fun h=>absurd h a0.o⟩,aK _ _⟩
           ·have f6:(k !=2)=true:=by simpa using k2
            have d8:=aside k2;cases NN
            ·have a0:Aside a9:=by show a9;rw [a1.o];exact .inr ⟨d8.o,AN.o⟩
             go_wp2_with (go_at_call 124;with_reducible refine d3.mono ?_;rintro e w3 ⟨rfl,hb3⟩)
             go_meet
             exact⟨true,rfl,⟨fun _=>a0.o,fun _=>rfl⟩,hb3⟩
            ·have a0:Aside (¬a9):=by show¬a9;rw [a1.o];exact fun h=>by rcases h with h|h;exact absurd c4.o h.2;have:=h.2;rw [AN.o] at this;cases this
             go_wp2_with (go_at_call 124;with_reducible refine d3.mono ?_;rintro e w3 ⟨rfl,hb3⟩)
             go_meet
             exact⟨false,rfl,⟨fun h=>(by cases h),fun h=>absurd h a0.o⟩,hb3⟩
          ·have c4:=aside f4;have a0:Aside a9:=by show a9;rw [a1.o];exact .inl ⟨rfl,c4.o⟩
           go_wp2_with fail
           go_meet
           exact⟨true,rfl,⟨fun _=>a0.o,fun _=>rfl⟩,aK _ _⟩
         ·skip
          by_cases k2:k=2
          ·subst k2;have a0:Aside (¬a9):=by show¬a9;rw [a1.o];exact fun h=>by rcases h with h|h;exact absurd h.1 (by decide);exact absurd rfl h.1
           go_wp2_with fail
           go_meet
           exact⟨false,rfl,⟨fun h=>(by cases h),fun h=>absurd h a0.o⟩,aK _ _⟩
          ·have f6:(k !=2)=true:=by simpa using k2
           have d8:=aside k2;cases NN
           ·have a0:Aside a9:=by show a9;rw [a1.o];exact .inr ⟨d8.o,AN.o⟩
            go_wp2_with (go_at_call 124;with_reducible refine d3.mono ?_;rintro e w3 ⟨rfl,hb3⟩)
            go_meet
            exact⟨true,rfl,⟨fun _=>a0.o,fun _=>rfl⟩,hb3⟩
           ·have a0:Aside (¬a9):=by show¬a9;rw [a1.o];exact fun h=>by rcases h with h|h;exact absurd h.1 (by decide);have:=h.2;rw [AN.o] at this;cases this
            go_wp2_with (go_at_call 124;with_reducible refine d3.mono ?_;rintro e w3 ⟨rfl,hb3⟩)
            go_meet
            exact⟨false,rfl,⟨fun h=>(by cases h),fun h=>absurd h a0.o⟩,hb3⟩
       case rest=>
        obtain⟨f1,rfl,hb48,hB48⟩:=hcut;rw [a1.o] at hb48;clear a1;have c7:Aside (f1=true↔(¬(k=3∨k=4∨k=5)∧¬nm.size=0)∨(¬k=2∧eK g num.length den.length=false)):=by
         show _↔_;rw [hb48,Al.o.2.1,Al.o.2.2,←e5.o,←gG];cases b3<;>simp
        clear hb48;cases f1
        ·have c0:Aside (¬((¬(k=3∨k=4∨k=5)∧¬nm.size=0)∨(¬k=2∧eK g num.length den.length=false))):=fun h=>by have:=c7.o.2 h;cases this
         clear c7 d3;have b5:=b0.trans (hB48.mono b0.size);obtain⟨wd,rfl⟩:=enr wc;have e0:=fc wd hB48;obtain⟨y0,y1,y2,y3,y4,y5,y6⟩:=e0;have d5:=Fk g p1 p2 l1 l2 q1 q2 n num den Al.o.2.1 Al.o.2.2 (by omega) (by omega) wd (aE hn b5.size) (hA.below b5 hn) (hC.below b5 hn);have d4:=h2;clear x0 x1 x2 x3 x4 x5 x6 hA hC
         go_upto_region 8 with fail
         obtain⟨c6,hP67r⟩:∃P:Prop,P=(k=2∧¬fF g num den=0):=⟨_,rfl⟩;have a8:=aside hP67r;clear hP67r
         go_cut [67] from 68 to 76 (fun s wx=>∃b,s= .bool b∧(b=true↔c6)∧Bz wd wx)
         case first=>
          as_aux_lemma=>
           by_cases k2:k=2
           ·subst k2;obtain⟨NF,hF⟩:=enm (fF g num den);rw [hF] at d5;have AF:=aside hF;clear hF fc ih h2 d4 c0 b1 b0 hB48 b5 hbig hbA hbC
            by_cases e4:NF=0
            ·subst e4;have a0:Aside (¬c6):=by show¬c6;rw [a8.o];exact fun h=>absurd AF.o h.2
             go_wp2_with (go_at_call 125;with_reducible refine d5.mono ?_;rintro e w3 ⟨rfl,hb3⟩)
             go_meet
             exact⟨false,rfl,⟨fun h=>(by cases h),fun h=>absurd h a0.o⟩,hb3⟩
            ·have h9:(NF !=0)=true:=by simpa using e4
             have AF2:Aside (¬fF g num den=0):=by show¬_;rw [AF.o];exact e4
             have a0:Aside c6:=by show c6;rw [a8.o];exact⟨rfl,AF2.o⟩
             go_wp2_with (go_at_call 125;with_reducible refine d5.mono ?_;rintro e w3 ⟨rfl,hb3⟩)
             go_meet
             exact⟨true,rfl,⟨fun _=>a0.o,fun _=>rfl⟩,hb3⟩
           ·have f6:(k==2)=false:=by simpa using k2
            have d8:=aside k2;clear fc ih h2 d4 c0 b1 b0 hB48 d5 k2 b5 hbig hbA hbC;have a0:Aside (¬c6):=by show¬c6;rw [a8.o];exact fun h=>absurd h.1 d8.o
            go_wp2_with fail
            go_meet
            exact⟨false,rfl,⟨fun h=>(by cases h),fun h=>absurd h a0.o⟩,aK _ _⟩
         case rest=>
          obtain⟨g1,rfl,hb67,hB67⟩:=hcut;rw [a8.o] at hb67;clear a8;cases g1
          ·have d0:Aside (¬(k=2∧¬fF g num den=0)):=fun h=>by have:=hb67.2 h;cases this
           have b4:=b5.trans (hB67.mono b5.size);obtain⟨we,rfl⟩:=enr wc;have fe:∀w2,Bz we w2→_:=fun w2 hb=>fc w2 (hB48.trans ((hB67.trans (hb.mono hB67.size)).mono hB48.size))
           obtain⟨z0,z1,z2,z3,z4,z5,z6⟩:=fe we (aK _ _);clear hb67 d5 y0 y1 y2 y3 y4 y5 y6 fc
           go_upto_region 10 with fail
           obtain⟨b7,hP77r⟩:∃P:Prop,P=((¬k=5∧0<len)∨(k=5∧(len<1∨32<len))):=⟨_,rfl⟩;have a5:=aside hP77r;clear hP77r
           go_cut [77] from 78 to 103 (fun s wx=>∃b,s= .bool b∧(b=true↔b7)∧wx=we)
           case first=>
            as_aux_lemma=>
             clear ih h2 d4 fe b0 hB48 hB67 b5 b4 hbig hbA hbC b1 d2 c0 d0
             by_cases k5:k=5
             ·subst k5
              by_cases e6:len<1
              ·have c9:(len:Int)<1:=by omega
               have d6:=aside e6;have a0:Aside b7:=by show b7;rw [a5.o];exact .inr ⟨rfl,.inl d6.o⟩
               go_wp2_with fail
               go_meet
               exact⟨true,rfl,⟨fun _=>a0.o,fun _=>rfl⟩,rfl⟩
              ·have c9:¬(len:Int)<1:=by omega
               by_cases g3:32<len
               ·have e3:(32:Int)<(len:Int):=by omega
                have d6:=aside g3;have a0:Aside b7:=by show b7;rw [a5.o];exact .inr ⟨rfl,.inr d6.o⟩
                go_wp2_with fail
                go_meet
                exact⟨true,rfl,⟨fun _=>a0.o,fun _=>rfl⟩,rfl⟩
               ·have e3:¬(32:Int)<(len:Int):=by omega
                have e7:Aside (len≤32∧1≤len):=⟨by omega,by omega⟩;have a0:Aside (¬b7):=by show¬b7;rw [a5.o];exact fun h=>by have:=e7.o;omega
                go_wp2_with fail
                go_meet
                exact⟨false,rfl,⟨fun h=>(by cases h),fun h=>absurd h a0.o⟩,rfl⟩
             ·have i6:(k !=5)=true:=by simpa using k5
              have i7:(k==5)=false:=by simpa using k5
              have f8:=aside k5
              by_cases e6:0<len
              ·have c9:(0:Int)<(len:Int):=by omega
               have d6:=aside e6;have a0:Aside b7:=by show b7;rw [a5.o];exact .inl ⟨f8.o,d6.o⟩
               go_wp2_with fail
               go_meet
               exact⟨true,rfl,⟨fun _=>a0.o,fun _=>rfl⟩,rfl⟩
              ·have c9:¬(0:Int)<(len:Int):=by omega
               have e7:Aside (len=0):=by show len=0;omega
               have a0:Aside (¬b7):=by show¬b7;rw [a5.o];exact fun h=>by have:=e7.o;have:=f8.o;omega
               go_wp2_with fail
               go_meet
               exact⟨false,rfl,⟨fun h=>(by cases h),fun h=>absurd h a0.o⟩,rfl⟩
           case rest=>
            obtain⟨g2,rfl,hb77,rfl⟩:=hcut;rw [a5.o] at hb77;clear a5;cases g2
            ·have c1:Aside (eH k v nm.size g num den len):=pf_all b1.o d2.o c0.o d0.o fun h=>by have:=hb77.2 h;cases this
             clear hb77 b1 d2 c0 d0
             go_upto_region 12 with fail
             obtain⟨a6,hP104r⟩:∃P:Prop,P=((k=4∧4000<nm.size)∨(¬k=4∧255<nm.size)):=⟨_,rfl⟩;have a2:=aside hP104r;clear hP104r
             go_cut [104] from 105 to 124 (fun s wx=>∃b,s= .bool b∧(b=true↔a6)∧wx=wc)
             case first=>
              as_aux_lemma=>
               clear ih h2 d4 fe c1 b0 hB48 hB67 b5 b4 hbig hbA hbC
               by_cases k4:k=4
               ·subst k4
                by_cases g8:(4000:Int)<(nm.size:Int)
                ·have c4:Aside (4000<nm.size):=by show _<_;omega
                 have a0:Aside a6:=by show a6;rw [a2.o];exact .inl ⟨rfl,c4.o⟩
                 go_wp2_with fail
                 go_meet
                 exact⟨true,rfl,⟨fun _=>a0.o,fun _=>rfl⟩,rfl⟩
                ·have e9:Aside (nm.size≤4000):=by show nm.size≤4000;omega
                 have a0:Aside (¬a6):=by show¬a6;rw [a2.o];exact fun h=>by have:=e9.o;omega
                 go_wp2_with fail
                 go_meet
                 exact⟨false,rfl,⟨fun h=>(by cases h),fun h=>absurd h a0.o⟩,rfl⟩
               ·have h7:(k !=4)=true:=by simpa using k4
                have i5:(k==4)=false:=by simpa using k4
                have f7:=aside k4
                by_cases g8:(255:Int)<(nm.size:Int)
                ·have c4:Aside (255<nm.size):=by show _<_;omega
                 have a0:Aside a6:=by show a6;rw [a2.o];exact .inr ⟨f7.o,c4.o⟩
                 go_wp2_with fail
                 go_meet
                 exact⟨true,rfl,⟨fun _=>a0.o,fun _=>rfl⟩,rfl⟩
                ·have e9:Aside (nm.size≤255):=by show nm.size≤255;omega
                 have a0:Aside (¬a6):=by show¬a6;rw [a2.o];exact fun h=>by have:=e9.o;have:=f7.o;omega
                 go_wp2_with fail
                 go_meet
                 exact⟨false,rfl,⟨fun h=>(by cases h),fun h=>absurd h a0.o⟩,rfl⟩
             case rest=>
              obtain⟨e2,rfl,hb104,rfl⟩:=hcut;rw [a2.o] at hb104;clear a2;cases e2
              ·have f2:Aside (F=Tm.errL args):=by
                show F=_;rw [b8.o,if_neg];rw [Ff c1.o fun h=>by have:=hb104.2 h;cases this];simp
               clear hb104 a3 b8;have g4:=aside b4;obtain⟨wf,rfl⟩:=enr wc;clear b0 hB48 hB67 b5;go_wp2
               go_loopw [128] (fun f0 wr=>∃i:Nat,f0= .int .i64 i∧i≤len∧Aside (Tm.errL (args.take i)=0)∧Bz w wr) (fun s _=>len-(intOf s).toNat)
               case atStart=>exact⟨0,rfl,cJ _,by simp [Tm.errL,Aside],b4⟩
               case round=>
                clear z0 z1 z2 z3 z4 z5 z6 fe b4 g4;obtain⟨i,rfl,hi,hex,hB⟩:=hrel
                by_cases e8:i<len
                ·obtain⟨T',c8⟩:=egf Al.o.1 e8;obtain⟨b,off,vs',rfl,hbn,hc,hv⟩:=h2.get c8;have f5:=hv;obtain⟨G,hG⟩:=enm T'.errE;have e1:Aside ((G=0→Tm.errL (args.take (i+1))=0)∧(G≠0→F=G)):=⟨fun h=>LF c8 hex.o (hG.trans h),fun h=>by rw [f2.o,LG c8 hex.o (by rw [hG];exact h),hG]⟩;have d7:=bV c8;obtain⟨k',v',nm',g',num',den',b2⟩:=T';simp only [TmV] at hv;obtain⟨t1,t2,a',c',rfl,⟨⟨p1',q1',rfl,_⟩,⟨p2',q2',rfl,_⟩⟩,_⟩:=hv;have c3:∀p:Addr,p.block<n→wr.cell? p=w.cell? p:=fun p hp=>(hB.mono hn).cell hp
                 rw [dH] at hc;have x0:=(c3 ⟨b,off+i*7+0,none⟩ hbn).trans (hc 0 _ rfl);have x1:=(c3 ⟨b,off+i*7+1,none⟩ hbn).trans (hc 1 _ rfl);have x2:=(c3 ⟨b,off+i*7+2,none⟩ hbn).trans (hc 2 _ rfl);have x3:=(c3 ⟨b,off+i*7+3,none⟩ hbn).trans (hc 3 _ rfl);have x4:=(c3 ⟨b,off+i*7+4,none⟩ hbn).trans (hc 4 _ rfl);have x5:=(c3 ⟨b,off+i*7+5,none⟩ hbn).trans (hc 5 _ rfl);have x6:=(c3 ⟨b,off+i*7+6,none⟩ hbn).trans (hc 6 _ rfl);rw [gQ] at x0;obtain⟨i1,hi3,hw3⟩:=elt (i:=i) (n:=len) (by omega) (by omega);have b4:Bz w (wr.alloc (Obj.cells #[.int .i64 k',.int .i64 v',.string nm',.bool g',.slice p1' num'.length q1',.slice p2' den'.length q2',.slice a' b2.length c'] 27)):=hB.alloc hB.size _;have d1:=ih _ d7 n (wr.alloc (Obj.cells #[.int .i64 k',.int .i64 v',.string nm',.bool g',.slice p1' num'.length q1',.slice p2' den'.length q2',.slice a' b2.length c'] 27)) _ (TmV.below b4 hn _ _ f5) (aE hn b4.size);rw [hG] at d1;replace d1:Cz 77 #[.agg #[.int .i64 k',.int .i64 v',.string nm',.bool g',.slice p1' num'.length q1',.slice p2' den'.length q2',.slice a' b2.length c']] _ _:=d1;have f3:=aside e8;generalize b2.length=len',num'.length=ln1,den'.length=ln2 at*;clear h2 d4 ih hc f5 c8 c3 hG d7 hex e8
                 by_cases d9:G=0
                 ·subst d9;have g9:Aside (Tm.errL (args.take (i+1))=0):=e1.o.1 rfl;clear e1
                  go_wp2_with first|(go_at_call 77;(with_reducible refine d1.mono ?_);rintro e w3 ⟨rfl,hb3⟩)
                  exact⟨⟨i+1,by simp,by have:=f3.o;omega,g9,b4.trans (hb3.mono b4.size)⟩,by have:=f3.o;simp [intOf];omega⟩
                 ·have i0:(G==0)=false:=by simpa using d9
                  have g6:Aside (F=G):=e1.o.2 d9;clear d9 e1
                  go_wp2_with first|(go_at_call 77;(with_reducible refine d1.mono ?_);rintro e w3 ⟨rfl,hb3⟩)
                  go_ret
                  rw [g6.o];exact⟨rfl,b4.trans (hb3.mono b4.size)⟩
                ·obtain rfl:i=len:=by omega
                 have g7:Aside (F=0):=by show F=0;rw [f2.o,←hex.o,←Al.o.1,kD]
                 clear h2 d4 ih hex
                 go_wp2_with fail
                 go_ret
                 rw [g7.o];exact⟨rfl,hB⟩
              ·have g5:Aside (F=3):=by
                show F=3;rw [b8.o,Fg c1.o (hb104.1 rfl)];rfl
               clear hb104 b8 a3;go_wp2
               go_ret
               rw [g5.o];exact⟨rfl,b4⟩
            ·have c2:Aside (F=2):=a3.o (by exact pf77 (hb77.1 rfl));clear a3 b8;go_wp2
             go_ret
             rw [c2.o];exact⟨rfl,b4⟩
          ·have c2:Aside (F=2):=a3.o (by exact pf67 (hb67.1 rfl));clear a3 b8;go_wp2
           go_ret
           rw [c2.o];exact⟨rfl,b5.trans (hB67.mono b5.size)⟩
        ·have c2:Aside (F=2):=a3.o (by exact pf48 (c7.o.1 rfl));clear a3 b8;go_wp2
         go_ret
         rw [c2.o];exact⟨rfl,b0.trans (hB48.mono b0.size)⟩
      ·have c2:Aside (F=2):=a3.o (by exact pf29 (hb29.1 rfl));clear a3 b8;go_wp2
       go_ret
       rw [c2.o];exact⟨rfl,b0⟩
    ·have c2:Aside (F=2):=a3.o (by exact pf20 (hb20.1 rfl));clear a3 b8;go_wp2
     go_ret
     rw [c2.o];exact⟨rfl,b0⟩
def nf_ok:∀T:Tm,NfOk T
 | .mk k v nm g num den args=>Io k v nm g num den args fun T' c8=>nf_ok T'
termination_by T=>SizeOf.sizeOf T
decreasing_by
 simp_wf
 have:=pK c8;omega
def PM:∀(T:Tm) (n:Nat) (w:Wo) (vs:Lv) (k:Nat),TmV n w T vs→n≤w.heap.size→k<1000000→
  Cz 123 #[.agg vs.toArray,.int .i64 k] w fun e w'=>∃r:Nat,e= .returned (.int .i64 r)∧Aside (r=min (k+T.nodes) 1000000)∧Bz w w'
 | .mk kk v nm g num den args,n,w,vs,k,h,hn,hk=>by
  have ih:∀T'∈args,∀(n:Nat) (w:Wo) (vs:Lv) (k:Nat),TmV n w T' vs→n≤w.heap.size→k<1000000→
    Cz 123 #[.agg vs.toArray,.int .i64 k] w fun e w'=>∃r:Nat,e= .returned (.int .i64 r)∧Aside (r=min (k+T'.nodes) 1000000)∧Bz w w':=fun T' a3=>PM T'
  simp only [TmV] at h;obtain⟨s1,s2,a,c,rfl,h1,h2,a2,_,_⟩:=h;obtain⟨len,hl⟩:=enm args.length;rw [hl] at a2 ⊢;have b6:=ewr (i:=k) (by omega);have Al:=aside hl;have a8:=aC w (Obj.cells #[.int .i64 kk,.int .i64 v,.string nm,.bool g,s1,s2,.slice a len c] 27);clear hl h1;show Cz 123 #[.agg #[.int .i64 kk,.int .i64 v,.string nm,.bool g,s1,s2,.slice a len c],.int .i64 k] w _;go_enter Tryz.func123,Tryz.ntmps123;go_wp2
  go_loopw [1,12] (fun s1 b2 wr=>∃(i r:Nat),b2= .int .i64 i∧s1= .int .i64 r∧i≤len∧Aside (r=min (k+1+Tm.nodesL (args.take i)) 1000000)∧Bz w wr) (fun _ s _=>len-(intOf s).toNat)
  case atStart=>exact⟨0,k+1,rfl,by simp,cJ _,(by show k+1=_;simp [Tm.nodesL];omega),a8⟩
  case round=>
   obtain⟨i,r,rfl,rfl,hi,hex,hB⟩:=hrel;have hr:r≤1000000:=by rw [hex.o];exact Nat.min_le_right _ _
   by_cases a9:i<len
   ·obtain⟨T',a3⟩:=egf Al.o a9;obtain⟨b,off,vs',rfl,hbn,hc,hv⟩:=h2.get a3;have a7:=hv;have b0:Aside (∀r3:Nat,Aside (r3=min (r+T'.nodes) 1000000)→r<1000000→r3=min (k+1+Tm.nodesL (args.take (i+1))) 1000000):=by
     show∀r3:Nat,_;intro r3 h3 h4;have h5:=h3.o;have h6:=hex.o;rw [xJ a3];omega
    have a5:Aside (¬r<1000000→1000000=min (k+Tm.nodes (.mk kk v nm g num den args)) 1000000):=by
     show¬r<1000000→_;intro h4;have h6:=hex.o;have h7:=nodesL_take_le args i;simp only [Tm.nodes];omega
    match T',hv with
    | .mk k' v' nm' g' num' den' a0,hv=>
     simp only [TmV] at hv;obtain⟨t1,t2,a',c',rfl,⟨⟨p1,q1,rfl,_⟩,⟨p2,q2,rfl,_⟩⟩,_⟩:=hv;have a1:∀p:Addr,p.block<n→wr.cell? p=w.cell? p:=fun p hp=>(hB.mono hn).cell hp
     rw [dH] at hc;have x0:=(a1 ⟨b,off+i*7+0,none⟩ hbn).trans (hc 0 _ rfl);have x1:=(a1 ⟨b,off+i*7+1,none⟩ hbn).trans (hc 1 _ rfl);have x2:=(a1 ⟨b,off+i*7+2,none⟩ hbn).trans (hc 2 _ rfl);have x3:=(a1 ⟨b,off+i*7+3,none⟩ hbn).trans (hc 3 _ rfl);have x4:=(a1 ⟨b,off+i*7+4,none⟩ hbn).trans (hc 4 _ rfl);have x5:=(a1 ⟨b,off+i*7+5,none⟩ hbn).trans (hc 5 _ rfl);have x6:=(a1 ⟨b,off+i*7+6,none⟩ hbn).trans (hc 6 _ rfl);rw [gQ] at x0;obtain⟨b4,hi3,hw3⟩:=elt (i:=i) (n:=len) (by omega) (by omega);have a4:Bz w (wr.alloc (Obj.cells #[.int .i64 k',.int .i64 v',.string nm',.bool g',.slice p1 num'.length q1,.slice p2 den'.length q2,.slice a' a0.length c'] 27)):=hB.alloc hB.size _
     by_cases a6:r<1000000
     ·have b1:¬(1000000:Int)≤(r:Int):=by omega
      have d1:=ih _ (bV a3) n (wr.alloc (Obj.cells #[.int .i64 k',.int .i64 v',.string nm',.bool g',.slice p1 num'.length q1,.slice p2 den'.length q2,.slice a' a0.length c'] 27)) _ r (TmV.below a4 hn _ _ a7) (aE hn a4.size) a6;replace d1:Cz 123 #[.agg #[.int .i64 k',.int .i64 v',.string nm',.bool g',.slice p1 num'.length q1,.slice p2 den'.length q2,.slice a' a0.length c'],.int .i64 r] _ _:=d1;generalize a0.length=len',num'.length=ln1,den'.length=ln2 at*;clear h2 ih hc a7 a3 a1
      go_wp2_with (go_at_call 123;with_reducible refine d1.mono ?_;rintro e w3 ⟨r3,rfl,hr5,hb3⟩)
      go_roundw
      case rel=>exact⟨i+1,r3,by simp,rfl,by omega,b0.o r3 hr5 a6,a4.trans (hb3.mono a4.size)⟩
      case measure=>simp [intOf];omega
     ·have b1:(1000000:Int)≤(r:Int):=by omega
      have hL:Aside (1000000=min (k+Tm.nodes (.mk kk v nm g num den args)) 1000000):=a5.o a6;generalize a0.length=len',num'.length=ln1,den'.length=ln2 at*;clear h2 ih hc a7 a3 a1;go_wp2
      go_ret
      exact⟨1000000,rfl,hL.o,a4⟩
   ·obtain rfl:i=len:=by omega
    have hL:Aside (r=min (k+Tm.nodes (.mk kk v nm g num den args)) 1000000):=by
     show r=_;have h6:=hex.o;rw [←Al.o,kD] at h6;simp only [Tm.nodes];omega
    clear h2 ih;go_wp2
    go_ret
    exact⟨r,rfl,hL.o,hB⟩
termination_by T=>SizeOf.sizeOf T
decreasing_by
 simp_wf
 have:=pK a3;omega
def Dx (T:Tm) (n:Nat) (w:Wo) (vs:Lv) (h:TmV n w T vs) (hn:n≤w.heap.size):
  Cz 76 #[.agg vs.toArray] w fun e w'=>∃r:Nat,e= .returned (.int .i64 r)∧Aside (r=min T.nodes 1000000)∧Bz w w':=by
 match T,h with
 | .mk kk v nm g num den args,h=>
  have h0:=h;simp only [TmV] at h;obtain⟨s1,s2,a,c,rfl,⟨⟨p1,q1,rfl,_⟩,⟨p2,q2,rfl,_⟩⟩,_⟩:=h;have hB:=aC w (Obj.cells #[.int .i64 kk,.int .i64 v,.string nm,.bool g,.slice p1 num.length q1,.slice p2 den.length q2,.slice a args.length c] 27);have d1:=PM _ n (w.alloc (Obj.cells #[.int .i64 kk,.int .i64 v,.string nm,.bool g,.slice p1 num.length q1,.slice p2 den.length q2,.slice a args.length c] 27)) _ 0 (TmV.below hB hn _ _ h0) (aE hn hB.size) (by omega);replace d1:Cz 123 #[.agg #[.int .i64 kk,.int .i64 v,.string nm,.bool g,.slice p1 num.length q1,.slice p2 den.length q2,.slice a args.length c],.int .i64 0] _ _:=d1;clear h0;generalize args.length=l0,num.length=l1,den.length=l2 at*;show Cz 76 #[.agg (tA kk v nm g p1 l1 q1 p2 l2 q2 a l0 c)] w _;go_enter Tryz.func76,Tryz.ntmps76
  go_wp2_with (go_at_call 123;with_reducible refine d1.mono ?_;rintro e w3 ⟨r3,rfl,hr4,hb3⟩)
  go_ret
  exact⟨r3,rfl,(by show r3=_;rw [hr4.o,dH]),hB.trans (hb3.mono hB.size)⟩
def Ma (T:Tm) (n:Nat) (w:Wo) (vs:Lv) (h:TmV n w T vs) (hn:n≤w.heap.size):
  Cz 38 #[.agg vs.toArray] w fun e w'=>e= .returned (.int .i64 T.faultE)∧Bz w w':=by
 match T,h with
 | .mk kk v nm g num den args,h=>
  have h0:=h;simp only [TmV] at h;obtain⟨s1,s2,a,c,rfl,⟨⟨p1,q1,rfl,_⟩,⟨p2,q2,rfl,_⟩⟩,_⟩:=h;obtain⟨T,hT⟩:=enm (Tm.mk kk v nm g num den args);rw [hT] at h0 ⊢;obtain⟨l0,hl0⟩:=enm args.length;obtain⟨l1,hl1⟩:=enm num.length;obtain⟨l2,hl2⟩:=enm den.length;rw [hl0,hl1,hl2];rw [hl0,hl1,hl2] at h0;have hB:=aC w (Obj.cells (tA kk v nm g p1 l1 q1 p2 l2 q2 a l0 c) 27);have hq:=bY w (Obj.cells (tA kk v nm g p1 l1 q1 p2 l2 q2 a l0 c) 27);obtain⟨wb,hwb⟩:=enm (w.alloc (Obj.cells (tA kk v nm g p1 l1 q1 p2 l2 q2 a l0 c) 27));have b5:w.heap.size+1≤wb.heap.size:=by rw [←hwb];simp
  rw [hwb] at hB hq;have d1:=Dx _ n wb _ (TmV.below hB hn _ _ h0) (aE hn hB.size);have d2:=fun w' (hb:Bz wb w')=>nf_ok _ n w' _ (TmV.below hb (aE hn hB.size) _ _ (TmV.below hB hn _ _ h0)) (aE (aE hn hB.size) hb.size)
  replace d1:Cz 76 #[.agg (tA kk v nm g p1 l1 q1 p2 l2 q2 a l0 c)] _ _:=d1;replace d2:∀w',Bz wb w'→Cz 77 #[.agg (tA kk v nm g p1 l1 q1 p2 l2 q2 a l0 c)] w' fun e b3=>e= .returned (.int .i64 T.errE)∧Bz w' b3:=d2
  have fc:∀w2,Bz wb w2→_:=fun w2 hb=>dZ ((hb.block w.heap.size (by omega)).trans hq)
  obtain⟨x0,x1,x2,x3,x4,x5,x6⟩:=fc wb (aK _ _);show Cz 38 #[.agg (tA kk v nm g p1 l1 q1 p2 l2 q2 a l0 c)] w fun e w'=>e= .returned (.int .i64 T.faultE)∧Bz w w'
  clear hl0 hl1 hl2 h0 hq hT;have hN:Aside (T.faultE=if 10000<T.nodes then 3 else T.errE):=rfl
  by_cases a2:10000<T.nodes
  ·have hE:Aside (T.faultE=3):=by show _=_;rw [hN.o,if_pos a2]
   go_enter Tryz.func38,Tryz.ntmps38
   go_wp2_with first|(go_at_call 76;(with_reducible refine d1.mono ?_);rintro e w1 ⟨r1,rfl,hr1,hb1⟩;have a6:(10000:Int)<(r1:Int):=(by have:=hr1.o;omega))
   go_ret
   rw [hE.o];exact⟨rfl,hB.trans (hb1.mono hB.size)⟩
  ·have hE:Aside (T.faultE=T.errE):=by show _=_;rw [hN.o,if_neg a2]
   go_enter Tryz.func38,Tryz.ntmps38
   go_wp2_with first|(go_at_call 76;(with_reducible refine d1.mono ?_);rintro e w1 ⟨r1,rfl,hr1,hb1⟩;have a6:(r1:Int)≤10000:=(by have:=hr1.o;omega);obtain⟨y0,y1,y2,y3,y4,y5,y6⟩:=fc _ hb1;have d3:=d2 _ hb1)|(go_at_call 77;(with_reducible refine d3.mono ?_);rintro e w2 ⟨rfl,a1⟩)
   go_ret
   rw [hE.o];exact⟨rfl,hB.trans ((hb1.trans (a1.mono hb1.size)).mono hB.size)⟩
end Go.Proofs.YtealgacfnbbgdaaGreatDoor
namespace Go.Proofs.Plain
def nodup_sub_len {α:Type} [DecidableEq α]:∀{l m:List α},l.Nodup→(∀x∈l,x∈m)→l.length≤m.length
 | [],m,_,_=>by simp
 |x::l,m,hn,hs=>by
  obtain⟨hx,hn⟩:=List.nodup_cons.1 hn;have hm:=hs x (by simp);have h1:l.length≤(m.erase x).length:=nodup_sub_len hn fun y hy=>(List.mem_erase_of_ne (fun e=>hx (by rw [←e];exact hy))).2 (hs y (by simp [hy]))
  rw [List.length_erase_of_mem hm] at h1;have h2:=List.length_pos_of_mem hm;simp;omega
end Go.Proofs.Plain
