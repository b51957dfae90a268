/- Lemmas for the text Card; no condition. -/
import Derived.Test.YtbdpdeonapmlgaaGreatDoorAm
set_option linter.all false
set_option maxHeartbeats 40000000
set_option maxRecDepth 100000
namespace Go.Proofs.YtbdpdeonapmlgaaGreatDoor
open Go.RowKit Go.Big
variable {g:Bool} {den num:List Nat} {len sz:Nat} {k v:Int}
theorem pf20 (h:k<1∨5<k):¬bS k v sz g num den len:=by
 unfold bS;omega
theorem pf29 (h:(¬k=1∧¬v=0)∨v<0∨1073741824<v):¬bS k v sz g num den len:=by
 unfold bS;omega
theorem pf48 (h:(¬(k=3∨k=4∨k=5)∧¬sz=0)∨(¬k=2∧bY g num.length den.length=false)):¬bS k v sz g num den len:=by
 rcases h with h|⟨h,h2⟩
 ·unfold bS;omega
 ·unfold bS;rw [h2];simp;omega
theorem pf67 (h:k=2∧¬cP g num den=0):¬bS k v sz g num den len:=by
 obtain⟨rfl,h2⟩:=h;unfold bS;rintro(h|h|h|h|h)
 ·omega
 ·exact h2 h.2.2.2.2
 ·omega
 ·omega
 ·omega
theorem pf77 (h:(¬k=5∧0<len)∨(k=5∧(len<1∨32<len))):¬bS k v sz g num den len:=by
 unfold bS;omega
theorem pf_all (h1:¬(k<1∨5<k)) (h2:¬((¬k=1∧¬v=0)∨v<0∨1073741824<v)) (h3:¬((¬(k=3∨k=4∨k=5)∧¬sz=0)∨(¬k=2∧bY g num.length den.length=false))) (h4:¬(k=2∧¬cP g num den=0)) (h5:¬((¬k=5∧0<len)∨(k=5∧(len<1∨32<len)))):bS k v sz g num den len:=by
 have hn:¬k=2→bY g num.length den.length=true:=fun h=>by
  cases hc:bY g num.length den.length with
  |true=>rfl
  |false=>exact absurd (.inr ⟨h,hc⟩) h3
 have hs:¬(¬(k=3∨k=4∨k=5)∧¬sz=0):=fun h=>h3 (.inl h)
 unfold bS;have hk:k=1∨k=2∨k=3∨k=4∨k=5:=by omega
 rcases hk with rfl|rfl|rfl|rfl|rfl
 ·exact .inl ⟨rfl,by omega,by omega,by omega,hn (by decide),by omega⟩
 ·exact .inr (.inl ⟨rfl,by omega,by omega,by omega,iA fun h=>h4 ⟨rfl,h⟩⟩)
 ·exact .inr (.inr (.inl ⟨rfl,by omega,hn (by decide),by omega⟩))
 ·exact .inr (.inr (.inr (.inl ⟨rfl,by omega,hn (by decide),by omega⟩)))
 ·exact .inr (.inr (.inr (.inr ⟨rfl,by omega,hn (by decide),by omega,by omega⟩)))
theorem VV (h:bS k v sz g num den len) (hs:¬((k=4∧4000<sz)∨(¬k=4∧255<sz))):bK k v sz g num den len=0:=by
 unfold bK;rw [if_pos h,if_neg];unfold kP bS at*;split
 ·omega
 ·split<;>omega
theorem VW (h:bS k v sz g num den len) (hs:(k=4∧4000<sz)∨(¬k=4∧255<sz)):bK k v sz g num den len=3:=by
 unfold bK;rw [if_pos h,if_pos];unfold kP;split
 ·omega
 ·split<;>omega
def NfOk (T:Tm):Prop:=∀(n:Nat) (w:World) (vs:List Value),TmV n w T vs→n≤w.heap.size→
  Calls Tryz.prog 168 #[.agg vs.toArray] w fun e w'=>e= .returned (.int .i64 T.errE)∧Below w.heap.size w w'
theorem XX (k v:Int) (nm:ByteArray) (g:Bool) (num den:List Nat) (args:List Tm) (ih:∀T'∈args,NfOk T'):NfOk (.mk k v nm g num den args):=by
  intro n w vs h hn;obtain⟨F,hF⟩:∃F,Tm.errE (.mk k v nm g num den args)=F:=⟨_,rfl⟩;have b8:Aside (F=if bK k v nm.size g num den args.length≠0 then bK k v nm.size g num den args.length else Tm.errL args):=by
   show F=_;rw [←hF];simp only [Tm.errE]
  have a3:Aside (¬bS k v nm.size g num den args.length→F=2):=fun h=>by
   have e:bK k v nm.size g num den args.length=2:=if_neg h;rw [b8.out,e];rfl
  rw [hF];clear hF;simp only [TmV] at h;obtain⟨s1,s2,a,c,rfl,⟨⟨p1,q1,rfl,hA⟩,⟨p2,q2,rfl,hC⟩⟩,h2,hbig,hbA,hbC⟩:=h;obtain⟨len,hl⟩:∃len,args.length=len:=⟨_,rfl⟩;obtain⟨l1,hl1⟩:∃l1,num.length=l1:=⟨_,rfl⟩;obtain⟨l2,hl2⟩:∃l2,den.length=l2:=⟨_,rfl⟩;rw [hl] at hbig a3 b8 ⊢;rw [hl1] at hbA ⊢;rw [hl2] at hbC ⊢;show Calls Tryz.prog 168 #[.agg #[.int .i64 k,.int .i64 v,.string nm,.bool g,.slice p1 l1 q1,.slice p2 l2 q2,.slice a len c]] w _;have b0:=aC w (Obj.cells #[.int .i64 k,.int .i64 v,.string nm,.bool g,.slice p1 l1 q1,.slice p2 l2 q2,.slice a len c] 48);have hq:=heap_alloc_new w (Obj.cells #[.int .i64 k,.int .i64 v,.string nm,.bool g,.slice p1 l1 q1,.slice p2 l2 q2,.slice a len c] 48);have i6:w.heap.size+1≤(w.alloc (Obj.cells #[.int .i64 k,.int .i64 v,.string nm,.bool g,.slice p1 l1 q1,.slice p2 l2 q2,.slice a len c] 48)).heap.size:=by simp
  go_enter Tryz.func168,Tryz.ntmps168
  go_upto_region 1 with fail
  generalize w.alloc (Obj.cells #[.int .i64 k,.int .i64 v,.string nm,.bool g,.slice p1 l1 q1,.slice p2 l2 q2,.slice a len c] 48)=wb at*;have fc:∀w2,Below wb.heap.size wb w2→_:=fun w2 hb=>cY ((hb.block w.heap.size (by omega)).trans hq)
  obtain⟨x0,x1,x2,x3,x4,x5,x6⟩:=fc wb (aI _ _);have Al:=aside3 hl hl1 hl2;clear hl hl1 hl2 hq;obtain⟨P3,hP3r⟩:∃P:Prop,P=(k=3∨k=4∨k=5):=⟨_,rfl⟩;have b9:=aside hP3r;clear hP3r
  go_cut [3] from 7 to 19 (fun s3 wx=>∃b,s3= .bool b∧(b=true↔P3)∧wx=wb)
  case first=>
   as_aux_lemma=>
    clear fc ih h2 hA hC b0 hbig hbA hbC
    by_cases k3:k=3
    ·subst k3;have a0:Aside P3:=by show P3;rw [b9.out];exact .inl rfl
     go_wp2_with fail
     go_meet
     exact⟨true,rfl,⟨fun _=>a0.out,fun _=>rfl⟩,rfl⟩
    ·have i9:(k==3)=false:=by simpa using k3
     by_cases k4:k=4
     ·subst k4;clear k3;have a0:Aside P3:=by show P3;rw [b9.out];exact .inr (.inl rfl)
      go_wp2_with fail
      go_meet
      exact⟨true,rfl,⟨fun _=>a0.out,fun _=>rfl⟩,rfl⟩
     ·have i0:(k==4)=false:=by simpa using k4
      have kA:=aside2 k3 k4;clear k3 k4
      go_wp2_with fail
      go_meet
      exact⟨_,rfl,by rw [b9.out];have:=kA.out;simp;omega,rfl⟩
  case rest=>
   obtain⟨b3,rfl,hb3c,rfl⟩:=hcut;rw [b9.out] at hb3c;have e8:=aside hb3c;clear b9;clear hb3c
   go_upto_region 2 with fail
   obtain⟨c7,hP20r⟩:∃P:Prop,P=(k<1∨5<k):=⟨_,rfl⟩;have a7:=aside hP20r;clear hP20r
   go_cut [20] from 21 to 28 (fun s wx=>∃b,s= .bool b∧(b=true↔c7)∧wx=wc)
   case first=>
    as_aux_lemma=>
     clear fc ih h2 hA hC b0 hbig hbA hbC
     by_cases k1:k<1
     ·have hk:=aside k1;have a0:Aside c7:=by show c7;rw [a7.out];exact .inl hk.out
      go_wp2_with fail
      go_meet
      exact⟨true,rfl,⟨fun _=>a0.out,fun _=>rfl⟩,rfl⟩
     ·by_cases k5:5<k
      ·have hk:=aside k5;have a0:Aside c7:=by show c7;rw [a7.out];exact .inr hk.out
       go_wp2_with fail
       go_meet
       exact⟨true,rfl,⟨fun _=>a0.out,fun _=>rfl⟩,rfl⟩
      ·have hk:Aside (¬(k<1∨5<k)):=by show¬_;omega
       have a0:Aside (¬c7):=by show¬c7;rw [a7.out];exact fun h=>absurd h hk.out
       go_wp2_with fail
       go_meet
       exact⟨false,rfl,⟨fun h=>(by cases h),fun h=>absurd h a0.out⟩,rfl⟩
   case rest=>
    obtain⟨g2,rfl,hb20,rfl⟩:=hcut;rw [a7.out] at hb20;clear a7;cases g2
    ·have b1:Aside (¬(k<1∨5<k)):=fun h=>by have:=hb20.2 h;cases this
     clear hb20
     go_upto_region 4 with fail
     obtain⟨b6,hP29r⟩:∃P:Prop,P=((¬k=1∧¬v=0)∨v<0∨1073741824<v):=⟨_,rfl⟩;have a4:=aside hP29r;clear hP29r
     go_cut [29] from 30 to 47 (fun s wx=>∃b,s= .bool b∧(b=true↔b6)∧wx=wc)
     case first=>
      as_aux_lemma=>
       clear fc ih h2 hA hC b0 hbig hbA hbC;clear b1
       by_cases k1:k=1
       ·subst k1
        by_cases v0:v<0
        ·have hv:=aside v0;have a0:Aside b6:=by show b6;rw [a4.out];exact .inr (.inl hv.out)
         go_wp2_with fail
         go_meet
         exact⟨true,rfl,⟨fun _=>a0.out,fun _=>rfl⟩,rfl⟩
        ·by_cases v1:1073741824<v
         ·have hv:=aside v1;have a0:Aside b6:=by show b6;rw [a4.out];exact .inr (.inr hv.out)
          go_wp2_with fail
          go_meet
          exact⟨true,rfl,⟨fun _=>a0.out,fun _=>rfl⟩,rfl⟩
         ·have hv:Aside (0≤v∧v≤1073741824):=⟨by omega,by omega⟩;have a0:Aside (¬b6):=by show¬b6;rw [a4.out];exact fun h=>by have:=hv.out;omega
          go_wp2_with fail
          go_meet
          exact⟨false,rfl,⟨fun h=>(by cases h),fun h=>absurd h a0.out⟩,rfl⟩
       ·have i8:(k !=1)=true:=by simpa using k1
        have h9:=aside k1
        by_cases vz:v=0
        ·subst vz;have a0:Aside (¬b6):=by show¬b6;rw [a4.out];exact fun h=>by omega
         go_wp2_with fail
         go_meet
         exact⟨false,rfl,⟨fun h=>(by cases h),fun h=>absurd h a0.out⟩,rfl⟩
        ·have j3:(v !=0)=true:=by simpa using vz
         have i1:=aside vz;have a0:Aside b6:=by show b6;rw [a4.out];exact .inl ⟨h9.out,i1.out⟩
         go_wp2_with fail
         go_meet
         exact⟨true,rfl,⟨fun _=>a0.out,fun _=>rfl⟩,rfl⟩
     case rest=>
      obtain⟨g3,rfl,hb29,rfl⟩:=hcut;rw [a4.out] at hb29;clear a4;cases g3
      ·have d4:Aside (¬((¬k=1∧¬v=0)∨v<0∨1073741824<v)):=fun h=>by have:=hb29.2 h;cases this
       clear hb29;obtain⟨wb,rfl⟩:∃wb,wb=wc:=⟨_,rfl⟩;have d5:=VZ g p1 p2 l1 l2 q1 q2 wb
       go_upto_region 6 with fail
       obtain⟨a9,hP48r⟩:∃P:Prop,P=((b3=false∧¬nm.toList= [])∨(¬k=2∧bY g l1 l2=false)):=⟨_,rfl⟩;have a1:=aside hP48r;clear hP48r
       go_cut [48] from 49 to 66 (fun s wx=>∃b,s= .bool b∧(b=true↔a9)∧Below wb.heap.size wb wx)
       case first=>
        as_aux_lemma=>
         obtain⟨NN,hNN⟩:∃NN,(!g&&(((l1:Int)==0)&&((l2:Int)==0)))=NN:=⟨_,rfl⟩;rw [hNN] at d5;have AN:Aside (bY g l1 l2=NN):=by
          show _=_;rw [←hNN];unfold bY;cases g
          ·by_cases h0:l1=0<;>by_cases h1:l2=0<;>simp [h0,h1]
          ·rfl
         clear hNN fc ih h2 hA hC b0 hbig hbA hbC b1;cases b3
         ·by_cases f7:nm.toList= []
          ·have c6:=aside f7
           by_cases k2:k=2
           ·subst k2;have a0:Aside (¬a9):=by show¬a9;rw [a1.out];exact fun h=>by rcases h with h|h;exact absurd c6.out h.2;exact absurd rfl h.1
            go_wp2_with fail
            go_meet
            exact⟨false,rfl,⟨fun h=>(by cases h),fun h=>absurd h a0.out⟩,aI _ _⟩
           ·have f9:(k !=2)=true:=by simpa using k2
            have e1:=aside k2;cases NN
            ·have a0:Aside a9:=by show a9;rw [a1.out];exact .inr ⟨e1.out,AN.out⟩
             go_wp2_with (go_at_call 223;with_reducible refine d5.mono ?_;rintro e w3 ⟨rfl,hb3⟩)
             go_meet
             exact⟨true,rfl,⟨fun _=>a0.out,fun _=>rfl⟩,hb3⟩
            ·have a0:Aside (¬a9):=by show¬a9;rw [a1.out];exact fun h=>by rcases h with h|h;exact absurd c6.out h.2;have:=h.2;rw [AN.out] at this;cases this
             go_wp2_with (go_at_call 223;with_reducible refine d5.mono ?_;rintro e w3 ⟨rfl,hb3⟩)
             go_meet
             exact⟨false,rfl,⟨fun h=>(by cases h),fun h=>absurd h a0.out⟩,hb3⟩
          ·have c6:=aside f7;have a0:Aside a9:=by show a9;rw [a1.out];exact .inl ⟨rfl,c6.out⟩
           go_wp2_with fail
           go_meet
           exact⟨true,rfl,⟨fun _=>a0.out,fun _=>rfl⟩,aI _ _⟩
         ·skip
          by_cases k2:k=2
          ·subst k2;have a0:Aside (¬a9):=by show¬a9;rw [a1.out];exact fun h=>by rcases h with h|h;exact absurd h.1 (by decide);exact absurd rfl h.1
           go_wp2_with fail
           go_meet
           exact⟨false,rfl,⟨fun h=>(by cases h),fun h=>absurd h a0.out⟩,aI _ _⟩
          ·have f9:(k !=2)=true:=by simpa using k2
           have e1:=aside k2;cases NN
           ·have a0:Aside a9:=by show a9;rw [a1.out];exact .inr ⟨e1.out,AN.out⟩
            go_wp2_with (go_at_call 223;with_reducible refine d5.mono ?_;rintro e w3 ⟨rfl,hb3⟩)
            go_meet
            exact⟨true,rfl,⟨fun _=>a0.out,fun _=>rfl⟩,hb3⟩
           ·have a0:Aside (¬a9):=by show¬a9;rw [a1.out];exact fun h=>by rcases h with h|h;exact absurd h.1 (by decide);have:=h.2;rw [AN.out] at this;cases this
            go_wp2_with (go_at_call 223;with_reducible refine d5.mono ?_;rintro e w3 ⟨rfl,hb3⟩)
            go_meet
            exact⟨false,rfl,⟨fun h=>(by cases h),fun h=>absurd h a0.out⟩,hb3⟩
       case rest=>
        obtain⟨f4,rfl,hb48,hB48⟩:=hcut;rw [a1.out] at hb48;clear a1;have c9:Aside (f4=true↔(¬(k=3∨k=4∨k=5)∧¬nm.size=0)∨(¬k=2∧bY g num.length den.length=false)):=by
         show _↔_;rw [hb48,Al.out.2.1,Al.out.2.2,←e8.out,←dX];cases b3<;>simp
        clear hb48;cases f4
        ·have c0:Aside (¬((¬(k=3∨k=4∨k=5)∧¬nm.size=0)∨(¬k=2∧bY g num.length den.length=false))):=fun h=>by have:=c9.out.2 h;cases this
         clear c9 d5;have b5:=b0.trans (hB48.mono b0.size);obtain⟨wd,rfl⟩:∃wd,wd=wc:=⟨_,rfl⟩;have e0:=fc wd hB48;obtain⟨y0,y1,y2,y3,y4,y5,y6⟩:=e0;have d7:=VY g p1 p2 l1 l2 q1 q2 n num den Al.out.2.1 Al.out.2.2 (by omega) (by omega) wd (aE hn b5.size) (hA.below b5 hn) (hC.below b5 hn);have d6:=h2;clear x0 x1 x2 x3 x4 x5 x6 hA hC
         go_upto_region 8 with fail
         obtain⟨c8,hP67r⟩:∃P:Prop,P=(k=2∧¬cP g num den=0):=⟨_,rfl⟩;have a8:=aside hP67r;clear hP67r
         go_cut [67] from 68 to 76 (fun s wx=>∃b,s= .bool b∧(b=true↔c8)∧Below wd.heap.size wd wx)
         case first=>
          as_aux_lemma=>
           by_cases k2:k=2
           ·subst k2;obtain⟨NF,hF⟩:∃NF,cP g num den=NF:=⟨_,rfl⟩;rw [hF] at d7;have AF:=aside hF;clear hF fc ih h2 d6 c0 b1 b0 hB48 b5 hbig hbA hbC
            by_cases e7:NF=0
            ·subst e7;have a0:Aside (¬c8):=by show¬c8;rw [a8.out];exact fun h=>absurd AF.out h.2
             go_wp2_with (go_at_call 224;with_reducible refine d7.mono ?_;rintro e w3 ⟨rfl,hb3⟩)
             go_meet
             exact⟨false,rfl,⟨fun h=>(by cases h),fun h=>absurd h a0.out⟩,hb3⟩
            ·have i2:(NF !=0)=true:=by simpa using e7
             have AF2:Aside (¬cP g num den=0):=by show¬_;rw [AF.out];exact e7
             have a0:Aside c8:=by show c8;rw [a8.out];exact⟨rfl,AF2.out⟩
             go_wp2_with (go_at_call 224;with_reducible refine d7.mono ?_;rintro e w3 ⟨rfl,hb3⟩)
             go_meet
             exact⟨true,rfl,⟨fun _=>a0.out,fun _=>rfl⟩,hb3⟩
           ·have f9:(k==2)=false:=by simpa using k2
            have e1:=aside k2;clear fc ih h2 d6 c0 b1 b0 hB48 d7 k2 b5 hbig hbA hbC;have a0:Aside (¬c8):=by show¬c8;rw [a8.out];exact fun h=>absurd h.1 e1.out
            go_wp2_with fail
            go_meet
            exact⟨false,rfl,⟨fun h=>(by cases h),fun h=>absurd h a0.out⟩,aI _ _⟩
         case rest=>
          obtain⟨g4,rfl,hb67,hB67⟩:=hcut;rw [a8.out] at hb67;clear a8;cases g4
          ·have d3:Aside (¬(k=2∧¬cP g num den=0)):=fun h=>by have:=hb67.2 h;cases this
           have b4:=b5.trans (hB67.mono b5.size);obtain⟨we,rfl⟩:∃we,we=wc:=⟨_,rfl⟩;have fe:∀w2,Below we.heap.size we w2→_:=fun w2 hb=>fc w2 (hB48.trans ((hB67.trans (hb.mono hB67.size)).mono hB48.size))
           obtain⟨z0,z1,z2,z3,z4,z5,z6⟩:=fe we (aI _ _);clear hb67 d7 y0 y1 y2 y3 y4 y5 y6 fc
           go_upto_region 10 with fail
           obtain⟨b7,hP77r⟩:∃P:Prop,P=((¬k=5∧0<len)∨(k=5∧(len<1∨32<len))):=⟨_,rfl⟩;have a5:=aside hP77r;clear hP77r
           go_cut [77] from 78 to 103 (fun s wx=>∃b,s= .bool b∧(b=true↔b7)∧wx=we)
           case first=>
            as_aux_lemma=>
             clear ih h2 d6 fe b0 hB48 hB67 b5 b4 hbig hbA hbC b1 d4 c0 d3
             by_cases k5:k=5
             ·subst k5
              by_cases e9:len<1
              ·have d2:(len:Int)<1:=by omega
               have d8:=aside e9;have a0:Aside b7:=by show b7;rw [a5.out];exact .inr ⟨rfl,.inl d8.out⟩
               go_wp2_with fail
               go_meet
               exact⟨true,rfl,⟨fun _=>a0.out,fun _=>rfl⟩,rfl⟩
              ·have d2:¬(len:Int)<1:=by omega
               by_cases g6:32<len
               ·have e6:(32:Int)<(len:Int):=by omega
                have d8:=aside g6;have a0:Aside b7:=by show b7;rw [a5.out];exact .inr ⟨rfl,.inr d8.out⟩
                go_wp2_with fail
                go_meet
                exact⟨true,rfl,⟨fun _=>a0.out,fun _=>rfl⟩,rfl⟩
               ·have e6:¬(32:Int)<(len:Int):=by omega
                have f0:Aside (len≤32∧1≤len):=⟨by omega,by omega⟩;have a0:Aside (¬b7):=by show¬b7;rw [a5.out];exact fun h=>by have:=f0.out;omega
                go_wp2_with fail
                go_meet
                exact⟨false,rfl,⟨fun h=>(by cases h),fun h=>absurd h a0.out⟩,rfl⟩
             ·have j1:(k !=5)=true:=by simpa using k5
              have j2:(k==5)=false:=by simpa using k5
              have g1:=aside k5
              by_cases e9:0<len
              ·have d2:(0:Int)<(len:Int):=by omega
               have d8:=aside e9;have a0:Aside b7:=by show b7;rw [a5.out];exact .inl ⟨g1.out,d8.out⟩
               go_wp2_with fail
               go_meet
               exact⟨true,rfl,⟨fun _=>a0.out,fun _=>rfl⟩,rfl⟩
              ·have d2:¬(0:Int)<(len:Int):=by omega
               have f0:Aside (len=0):=by show len=0;omega
               have a0:Aside (¬b7):=by show¬b7;rw [a5.out];exact fun h=>by have:=f0.out;have:=g1.out;omega
               go_wp2_with fail
               go_meet
               exact⟨false,rfl,⟨fun h=>(by cases h),fun h=>absurd h a0.out⟩,rfl⟩
           case rest=>
            obtain⟨g5,rfl,hb77,rfl⟩:=hcut;rw [a5.out] at hb77;clear a5;cases g5
            ·have c1:Aside (bS k v nm.size g num den len):=pf_all b1.out d4.out c0.out d3.out fun h=>by have:=hb77.2 h;cases this
             clear hb77 b1 d4 c0 d3
             go_upto_region 12 with fail
             obtain⟨a6,hP104r⟩:∃P:Prop,P=((k=4∧4000<nm.size)∨(¬k=4∧255<nm.size)):=⟨_,rfl⟩;have a2:=aside hP104r;clear hP104r
             go_cut [104] from 105 to 124 (fun s wx=>∃b,s= .bool b∧(b=true↔a6)∧wx=wc)
             case first=>
              as_aux_lemma=>
               clear ih h2 d6 fe c1 b0 hB48 hB67 b5 b4 hbig hbA hbC
               by_cases k4:k=4
               ·subst k4
                by_cases h7:(4000:Int)<(nm.size:Int)
                ·have c6:Aside (4000<nm.size):=by show _<_;omega
                 have a0:Aside a6:=by show a6;rw [a2.out];exact .inl ⟨rfl,c6.out⟩
                 go_wp2_with fail
                 go_meet
                 exact⟨true,rfl,⟨fun _=>a0.out,fun _=>rfl⟩,rfl⟩
                ·have f2:Aside (nm.size≤4000):=by show nm.size≤4000;omega
                 have a0:Aside (¬a6):=by show¬a6;rw [a2.out];exact fun h=>by have:=f2.out;omega
                 go_wp2_with fail
                 go_meet
                 exact⟨false,rfl,⟨fun h=>(by cases h),fun h=>absurd h a0.out⟩,rfl⟩
               ·have i0:(k !=4)=true:=by simpa using k4
                have j0:(k==4)=false:=by simpa using k4
                have g0:=aside k4
                by_cases h7:(255:Int)<(nm.size:Int)
                ·have c6:Aside (255<nm.size):=by show _<_;omega
                 have a0:Aside a6:=by show a6;rw [a2.out];exact .inr ⟨g0.out,c6.out⟩
                 go_wp2_with fail
                 go_meet
                 exact⟨true,rfl,⟨fun _=>a0.out,fun _=>rfl⟩,rfl⟩
                ·have f2:Aside (nm.size≤255):=by show nm.size≤255;omega
                 have a0:Aside (¬a6):=by show¬a6;rw [a2.out];exact fun h=>by have:=f2.out;have:=g0.out;omega
                 go_wp2_with fail
                 go_meet
                 exact⟨false,rfl,⟨fun h=>(by cases h),fun h=>absurd h a0.out⟩,rfl⟩
             case rest=>
              obtain⟨e4,rfl,hb104,rfl⟩:=hcut;rw [a2.out] at hb104;clear a2;cases e4
              ·have f5:Aside (F=Tm.errL args):=by
                show F=_;rw [b8.out,if_neg];rw [VV c1.out fun h=>by have:=hb104.2 h;cases this];simp
               clear hb104 a3 b8;have g7:=aside b4;obtain⟨wf,rfl⟩:∃wf,wf=wc:=⟨_,rfl⟩;clear b0 hB48 hB67 b5;go_wp2
               go_loopw [128] (fun f3 wr=>∃i:Nat,f3= .int .i64 i∧i≤len∧Aside (Tm.errL (args.take i)=0)∧Below w.heap.size w wr) (fun s _=>len-(intOf s).toNat)
               case atStart=>exact⟨0,rfl,aT _,by simp [Tm.errL,Aside],b4⟩
               case round=>
                clear z0 z1 z2 z3 z4 z5 z6 fe b4 g7;obtain⟨i,rfl,hi,hex,hB⟩:=hrel
                by_cases f1:i<len
                ·obtain⟨T',d0⟩:∃T',args[i]?=some T':=⟨args[i]'(by rw [Al.out.1];exact f1),aL _⟩;obtain⟨b,off,vs',rfl,hbn,hc,hv⟩:=h2.get d0;have f8:=hv;obtain⟨G,hG⟩:∃G,T'.errE=G:=⟨_,rfl⟩;have e3:Aside ((G=0→Tm.errL (args.take (i+1))=0)∧(G≠0→F=G)):=⟨fun h=>EN d0 hex.out (hG.trans h),fun h=>by rw [f5.out,EO d0 hex.out (by rw [hG];exact h),hG]⟩;have d9:=aX d0;obtain⟨k',v',nm',g',c4,c2,b2⟩:=T';simp only [TmV] at hv;obtain⟨t1,t2,a',c',rfl,⟨⟨p1',q1',rfl,_⟩,⟨p2',q2',rfl,_⟩⟩,_⟩:=hv;have c5:∀p:Addr,p.block<n→wr.cell? p=w.cell? p:=fun p hp=>(hB.mono hn).cell hp
                 rw [cG] at hc;have x0:=(c5 ⟨b,off+i*7+0,none⟩ hbn).trans (hc 0 _ rfl);have x1:=(c5 ⟨b,off+i*7+1,none⟩ hbn).trans (hc 1 _ rfl);have x2:=(c5 ⟨b,off+i*7+2,none⟩ hbn).trans (hc 2 _ rfl);have x3:=(c5 ⟨b,off+i*7+3,none⟩ hbn).trans (hc 3 _ rfl);have x4:=(c5 ⟨b,off+i*7+4,none⟩ hbn).trans (hc 4 _ rfl);have x5:=(c5 ⟨b,off+i*7+5,none⟩ hbn).trans (hc 5 _ rfl);have x6:=(c5 ⟨b,off+i*7+6,none⟩ hbn).trans (hc 6 _ rfl);rw [fP] at x0;have i4:(i:Int)<(len:Int):=by omega
                 have i5:(0:Int)≤(i:Int):=by omega
                 have i7:IntKind.i64.wrap ((i:Int)+1)=(i:Int)+1:=by rw [aG];omega
                 have b4:Below w.heap.size w (wr.alloc (Obj.cells #[.int .i64 k',.int .i64 v',.string nm',.bool g',.slice p1' c4.length q1',.slice p2' c2.length q2',.slice a' b2.length c'] 48)):=hB.alloc hB.size _;have d1:=ih _ d9 n (wr.alloc (Obj.cells #[.int .i64 k',.int .i64 v',.string nm',.bool g',.slice p1' c4.length q1',.slice p2' c2.length q2',.slice a' b2.length c'] 48)) _ (TmV.below b4 hn _ _ f8) (aE hn b4.size);rw [hG] at d1;replace d1:Calls Tryz.prog 168 #[.agg #[.int .i64 k',.int .i64 v',.string nm',.bool g',.slice p1' c4.length q1',.slice p2' c2.length q2',.slice a' b2.length c']] _ _:=d1;have f6:=aside f1;generalize b2.length=len' at*;generalize c4.length=ln1 at*;generalize c2.length=ln2 at*;clear h2 d6 ih hc f8 d0 c5 hG d9 hex f1
                 by_cases e2:G=0
                 ·subst e2;have h8:Aside (Tm.errL (args.take (i+1))=0):=e3.out.1 rfl;clear e3
                  go_wp2_with first|(go_at_call 168;(with_reducible refine d1.mono ?_);rintro e w3 ⟨rfl,hb3⟩)
                  exact⟨⟨i+1,by simp,by have:=f6.out;omega,h8,b4.trans (hb3.mono b4.size)⟩,by have:=f6.out;simp [intOf];omega⟩
                 ·have i3:(G==0)=false:=by simpa using e2
                  have g9:Aside (F=G):=e3.out.2 e2;clear e2 e3
                  go_wp2_with first|(go_at_call 168;(with_reducible refine d1.mono ?_);rintro e w3 ⟨rfl,hb3⟩)
                  go_ret
                  rw [g9.out];exact⟨rfl,b4.trans (hb3.mono b4.size)⟩
                ·obtain rfl:i=len:=by omega
                 have h6:Aside (F=0):=by show F=0;rw [f5.out,←hex.out,←Al.out.1,gA]
                 clear h2 d6 ih hex
                 go_wp2_with fail
                 go_ret
                 rw [h6.out];exact⟨rfl,hB⟩
              ·have g8:Aside (F=3):=by
                show F=3;rw [b8.out,VW c1.out (hb104.1 rfl)];rfl
               clear hb104 b8 a3;go_wp2
               go_ret
               rw [g8.out];exact⟨rfl,b4⟩
            ·have c3:Aside (F=2):=a3.out (by exact pf77 (hb77.1 rfl));clear a3 b8;go_wp2
             go_ret
             rw [c3.out];exact⟨rfl,b4⟩
          ·have c3:Aside (F=2):=a3.out (by exact pf67 (hb67.1 rfl));clear a3 b8;go_wp2
           go_ret
           rw [c3.out];exact⟨rfl,b5.trans (hB67.mono b5.size)⟩
        ·have c3:Aside (F=2):=a3.out (by exact pf48 (c9.out.1 rfl));clear a3 b8;go_wp2
         go_ret
         rw [c3.out];exact⟨rfl,b0.trans (hB48.mono b0.size)⟩
      ·have c3:Aside (F=2):=a3.out (by exact pf29 (hb29.1 rfl));clear a3 b8;go_wp2
       go_ret
       rw [c3.out];exact⟨rfl,b0⟩
    ·have c3:Aside (F=2):=a3.out (by exact pf20 (hb20.1 rfl));clear a3 b8;go_wp2
     go_ret
     rw [c3.out];exact⟨rfl,b0⟩
theorem nf_ok:∀T:Tm,NfOk T
 | .mk k v nm g num den args=>XX k v nm g num den args fun T' d0=>nf_ok T'
termination_by T=>SizeOf.sizeOf T
decreasing_by
 simp_wf
 have:=oE d0;omega
theorem IR:∀(T:Tm) (n:Nat) (w:World) (vs:List Value) (k:Nat),TmV n w T vs→n≤w.heap.size→k<1000000→
  Calls Tryz.prog 222 #[.agg vs.toArray,.int .i64 k] w fun e w'=>∃r:Nat,e= .returned (.int .i64 r)∧Aside (r=min (k+T.nodes) 1000000)∧Below w.heap.size w w'
 | .mk kk v nm g num den args,n,w,vs,k,h,hn,hk=>by
  have ih:∀T'∈args,∀(n:Nat) (w:World) (vs:List Value) (k:Nat),TmV n w T' vs→n≤w.heap.size→k<1000000→
    Calls Tryz.prog 222 #[.agg vs.toArray,.int .i64 k] w fun e w'=>∃r:Nat,e= .returned (.int .i64 r)∧Aside (r=min (k+T'.nodes) 1000000)∧Below w.heap.size w w':=fun T' a5=>IR T'
  simp only [TmV] at h;obtain⟨s1,s2,a,c,rfl,h1,h2,a4,_,_⟩:=h;obtain⟨len,hl⟩:∃len,args.length=len:=⟨_,rfl⟩;rw [hl] at a4 ⊢;have c0:IntKind.i64.wrap ((k:Int)+1)=(k:Int)+1:=by rw [aG];omega
  have Al:=aside hl;have b0:=aC w (Obj.cells #[.int .i64 kk,.int .i64 v,.string nm,.bool g,s1,s2,.slice a len c] 48);clear hl h1;show Calls Tryz.prog 222 #[.agg #[.int .i64 kk,.int .i64 v,.string nm,.bool g,s1,s2,.slice a len c],.int .i64 k] w _;go_enter Tryz.func222,Tryz.ntmps222;go_wp2
  go_loopw [1,12] (fun s1 b4 wr=>∃(i r:Nat),b4= .int .i64 i∧s1= .int .i64 r∧i≤len∧Aside (r=min (k+1+Tm.nodesL (args.take i)) 1000000)∧Below w.heap.size w wr) (fun _ s _=>len-(intOf s).toNat)
  case atStart=>exact⟨0,k+1,rfl,by simp,aT _,(by show k+1=_;simp [Tm.nodesL];omega),b0⟩
  case round=>
   obtain⟨i,r,rfl,rfl,hi,hex,hB⟩:=hrel;have hr:r≤1000000:=by rw [hex.out];exact Nat.min_le_right _ _
   by_cases b1:i<len
   ·obtain⟨T',a5⟩:∃T',args[i]?=some T':=⟨args[i]'(by rw [Al.out];exact b1),aL _⟩;obtain⟨b,off,vs',rfl,hbn,hc,hv⟩:=h2.get a5;have a9:=hv;have b2:Aside (∀r3:Nat,Aside (r3=min (r+T'.nodes) 1000000)→r<1000000→r3=min (k+1+Tm.nodesL (args.take (i+1))) 1000000):=by
     show∀r3:Nat,_;intro r3 h3 h4;have h5:=h3.out;have h6:=hex.out;rw [yH a5];omega
    have a7:Aside (¬r<1000000→1000000=min (k+Tm.nodes (.mk kk v nm g num den args)) 1000000):=by
     show¬r<1000000→_;intro h4;have h6:=hex.out;have h7:=yG args i;simp only [Tm.nodes];omega
    match T',hv with
    | .mk k' v' nm' g' a3 a1 a0,hv=>
     simp only [TmV] at hv;obtain⟨t1,t2,a',c',rfl,⟨⟨p1,q1,rfl,_⟩,⟨p2,q2,rfl,_⟩⟩,_⟩:=hv;have a2:∀p:Addr,p.block<n→wr.cell? p=w.cell? p:=fun p hp=>(hB.mono hn).cell hp
     rw [cG] at hc;have x0:=(a2 ⟨b,off+i*7+0,none⟩ hbn).trans (hc 0 _ rfl);have x1:=(a2 ⟨b,off+i*7+1,none⟩ hbn).trans (hc 1 _ rfl);have x2:=(a2 ⟨b,off+i*7+2,none⟩ hbn).trans (hc 2 _ rfl);have x3:=(a2 ⟨b,off+i*7+3,none⟩ hbn).trans (hc 3 _ rfl);have x4:=(a2 ⟨b,off+i*7+4,none⟩ hbn).trans (hc 4 _ rfl);have x5:=(a2 ⟨b,off+i*7+5,none⟩ hbn).trans (hc 5 _ rfl);have x6:=(a2 ⟨b,off+i*7+6,none⟩ hbn).trans (hc 6 _ rfl);rw [fP] at x0;have b6:(i:Int)<(len:Int):=by omega
     have b7:(0:Int)≤(i:Int):=by omega
     have b9:IntKind.i64.wrap ((i:Int)+1)=(i:Int)+1:=by rw [aG];omega
     have a6:Below w.heap.size w (wr.alloc (Obj.cells #[.int .i64 k',.int .i64 v',.string nm',.bool g',.slice p1 a3.length q1,.slice p2 a1.length q2,.slice a' a0.length c'] 48)):=hB.alloc hB.size _
     by_cases a8:r<1000000
     ·have b3:¬(1000000:Int)≤(r:Int):=by omega
      have d1:=ih _ (aX a5) n (wr.alloc (Obj.cells #[.int .i64 k',.int .i64 v',.string nm',.bool g',.slice p1 a3.length q1,.slice p2 a1.length q2,.slice a' a0.length c'] 48)) _ r (TmV.below a6 hn _ _ a9) (aE hn a6.size) a8;replace d1:Calls Tryz.prog 222 #[.agg #[.int .i64 k',.int .i64 v',.string nm',.bool g',.slice p1 a3.length q1,.slice p2 a1.length q2,.slice a' a0.length c'],.int .i64 r] _ _:=d1;generalize a0.length=len' at*;generalize a3.length=ln1 at*;generalize a1.length=ln2 at*;clear h2 ih hc a9 a5 a2
      go_wp2_with (go_at_call 222;with_reducible refine d1.mono ?_;rintro e w3 ⟨r3,rfl,hr5,hb3⟩)
      go_roundw
      case rel=>exact⟨i+1,r3,by simp,rfl,by omega,b2.out r3 hr5 a8,a6.trans (hb3.mono a6.size)⟩
      case measure=>simp [intOf];omega
     ·have b3:(1000000:Int)≤(r:Int):=by omega
      have hL:Aside (1000000=min (k+Tm.nodes (.mk kk v nm g num den args)) 1000000):=a7.out a8;generalize a0.length=len' at*;generalize a3.length=ln1 at*;generalize a1.length=ln2 at*;clear h2 ih hc a9 a5 a2;go_wp2
      go_ret
      exact⟨1000000,rfl,hL.out,a6⟩
   ·obtain rfl:i=len:=by omega
    have hL:Aside (r=min (k+Tm.nodes (.mk kk v nm g num den args)) 1000000):=by
     show r=_;have h6:=hex.out;rw [←Al.out,gA] at h6;simp only [Tm.nodes];omega
    clear h2 ih;go_wp2
    go_ret
    exact⟨r,rfl,hL.out,hB⟩
termination_by T=>SizeOf.sizeOf T
decreasing_by
 simp_wf
 have:=oE a5;omega
theorem UQ (T:Tm) (n:Nat) (w:World) (vs:List Value) (h:TmV n w T vs) (hn:n≤w.heap.size):
  Calls Tryz.prog 167 #[.agg vs.toArray] w fun e w'=>∃r:Nat,e= .returned (.int .i64 r)∧Aside (r=min T.nodes 1000000)∧Below w.heap.size w w':=by
 match T,h with
 | .mk kk v nm g num den args,h=>
  have h0:=h;simp only [TmV] at h;obtain⟨s1,s2,a,c,rfl,⟨⟨p1,q1,rfl,_⟩,⟨p2,q2,rfl,_⟩⟩,_⟩:=h;have hB:=aC w (Obj.cells #[.int .i64 kk,.int .i64 v,.string nm,.bool g,.slice p1 num.length q1,.slice p2 den.length q2,.slice a args.length c] 48);have d1:=IR _ n (w.alloc (Obj.cells #[.int .i64 kk,.int .i64 v,.string nm,.bool g,.slice p1 num.length q1,.slice p2 den.length q2,.slice a args.length c] 48)) _ 0 (TmV.below hB hn _ _ h0) (aE hn hB.size) (by omega);replace d1:Calls Tryz.prog 222 #[.agg #[.int .i64 kk,.int .i64 v,.string nm,.bool g,.slice p1 num.length q1,.slice p2 den.length q2,.slice a args.length c],.int .i64 0] _ _:=d1;clear h0;generalize args.length=l0 at*;generalize num.length=l1 at*;generalize den.length=l2 at*;show Calls Tryz.prog 167 #[.agg #[.int .i64 kk,.int .i64 v,.string nm,.bool g,.slice p1 l1 q1,.slice p2 l2 q2,.slice a l0 c]] w _;go_enter Tryz.func167,Tryz.ntmps167
  go_wp2_with (go_at_call 222;with_reducible refine d1.mono ?_;rintro e w3 ⟨r3,rfl,hr4,hb3⟩)
  go_ret
  exact⟨r3,rfl,(by show r3=_;rw [hr4.out,cG]),hB.trans (hb3.mono hB.size)⟩
theorem NR (T:Tm) (n:Nat) (w:World) (vs:List Value) (h:TmV n w T vs) (hn:n≤w.heap.size):
  Calls Tryz.prog 99 #[.agg vs.toArray] w fun e w'=>e= .returned (.int .i64 T.faultE)∧Below w.heap.size w w':=by
 match T,h with
 | .mk kk v nm g num den args,h=>
  have h0:=h;simp only [TmV] at h;obtain⟨s1,s2,a,c,rfl,⟨⟨p1,q1,rfl,_⟩,⟨p2,q2,rfl,_⟩⟩,_⟩:=h;obtain⟨T,hT⟩:∃T,Tm.mk kk v nm g num den args=T:=⟨_,rfl⟩;rw [hT] at h0 ⊢;obtain⟨l0,hl0⟩:∃l0,args.length=l0:=⟨_,rfl⟩;obtain⟨l1,hl1⟩:∃l1,num.length=l1:=⟨_,rfl⟩;obtain⟨l2,hl2⟩:∃l2,den.length=l2:=⟨_,rfl⟩;rw [hl0,hl1,hl2];rw [hl0,hl1,hl2] at h0;have hB:=aC w (Obj.cells #[.int .i64 kk,.int .i64 v,.string nm,.bool g,.slice p1 l1 q1,.slice p2 l2 q2,.slice a l0 c] 48);have hq:=heap_alloc_new w (Obj.cells #[.int .i64 kk,.int .i64 v,.string nm,.bool g,.slice p1 l1 q1,.slice p2 l2 q2,.slice a l0 c] 48);obtain⟨wb,hwb⟩:∃wb,w.alloc (Obj.cells #[.int .i64 kk,.int .i64 v,.string nm,.bool g,.slice p1 l1 q1,.slice p2 l2 q2,.slice a l0 c] 48)=wb:=⟨_,rfl⟩;have b8:w.heap.size+1≤wb.heap.size:=by rw [←hwb];simp
  rw [hwb] at hB hq;have d1:=UQ _ n wb _ (TmV.below hB hn _ _ h0) (aE hn hB.size);have d2:=fun w' (hb:Below wb.heap.size wb w')=>nf_ok _ n w' _ (TmV.below hb (aE hn hB.size) _ _ (TmV.below hB hn _ _ h0)) (aE (aE hn hB.size) hb.size)
  replace d1:Calls Tryz.prog 167 #[.agg #[.int .i64 kk,.int .i64 v,.string nm,.bool g,.slice p1 l1 q1,.slice p2 l2 q2,.slice a l0 c]] _ _:=d1;replace d2:∀w',Below wb.heap.size wb w'→Calls Tryz.prog 168 #[.agg #[.int .i64 kk,.int .i64 v,.string nm,.bool g,.slice p1 l1 q1,.slice p2 l2 q2,.slice a l0 c]] w' fun e b5=>e= .returned (.int .i64 T.errE)∧Below w'.heap.size w' b5:=d2
  have fc:∀w2,Below wb.heap.size wb w2→_:=fun w2 hb=>cY ((hb.block w.heap.size (by omega)).trans hq)
  obtain⟨x0,x1,x2,x3,x4,x5,x6⟩:=fc wb (aI _ _);show Calls Tryz.prog 99 #[.agg #[.int .i64 kk,.int .i64 v,.string nm,.bool g,.slice p1 l1 q1,.slice p2 l2 q2,.slice a l0 c]] w fun e w'=>e= .returned (.int .i64 T.faultE)∧Below w.heap.size w w'
  clear hl0 hl1 hl2 h0 hq hT;have hN:Aside (T.faultE=if 10000<T.nodes then 3 else T.errE):=rfl
  by_cases a4:10000<T.nodes
  ·have hE:Aside (T.faultE=3):=by show _=_;rw [hN.out,if_pos a4]
   go_enter Tryz.func99,Tryz.ntmps99
   go_wp2_with first|(go_at_call 167;(with_reducible refine d1.mono ?_);rintro e w1 ⟨r1,rfl,hr1,hb1⟩;have a8:(10000:Int)<(r1:Int):=(by have:=hr1.out;omega))
   go_ret
   rw [hE.out];exact⟨rfl,hB.trans (hb1.mono hB.size)⟩
  ·have hE:Aside (T.faultE=T.errE):=by show _=_;rw [hN.out,if_neg a4]
   go_enter Tryz.func99,Tryz.ntmps99
   go_wp2_with first|(go_at_call 167;(with_reducible refine d1.mono ?_);rintro e w1 ⟨r1,rfl,hr1,hb1⟩;have a8:(r1:Int)≤10000:=(by have:=hr1.out;omega);obtain⟨y0,y1,y2,y3,y4,y5,y6⟩:=fc _ hb1;have d3:=d2 _ hb1)|(go_at_call 168;(with_reducible refine d3.mono ?_);rintro e w2 ⟨rfl,a2⟩)
   go_ret
   rw [hE.out];exact⟨rfl,hB.trans ((hb1.trans (a2.mono hb1.size)).mono hB.size)⟩
end Go.Proofs.YtbdpdeonapmlgaaGreatDoor
namespace Go.Proofs.YtbdpdeonapmlgaaGreatDoor
open Go.RowKit Go.Big Go.RowsK Go.MapK
theorem jG {T:Tm} (h:T.faultE=0):T.nodes≤10000∧T.errE=0:=by
 unfold Tm.faultE at h;split at h
 ·cases h
 ·exact⟨by omega,h⟩
noncomputable def Cl.flt (C:Cl):Int:=
 if C.h.faultE≠0 then C.h.faultE else if C.b.faultE≠0 then C.b.faultE else if C.numB=false then 2 else if C.h.callB=false then 7 else if C.h.bi=true then 8 else if C.b.litsB=false then 7 else 0
theorem XA (C:Cl) (n:Nat) (w:World) (vs:List Value) (h:ClV n w C vs) (hn:n≤w.heap.size):
  Calls Tryz.prog 120 #[.agg vs.toArray] w fun e w'=>e= .returned (.int .i64 C.flt)∧Below w.heap.size w w':=by
 have hC:=h;obtain⟨vh,vb,rfl,h1,h2⟩:=h;obtain⟨FL,hFL⟩:∃f,C.flt=f:=⟨_,rfl⟩;rw [hFL];have a5:Aside (∀(T:Tm) (w2:World) (us:List Value),TmV n w2 T us→n≤w2.heap.size→_):=fun T w2 us a b=>Dr T n w2 us a b
 have a9:Aside (∀(w2:World),Below w.heap.size w w2→C.h.faultE=0→C.b.faultE=0→_):=fun w2 hb ha c9=>WW C n w2 (pI vh vb C.vars) (hC.below hb hn) (aE hn hb.size) (by have:=(jG ha).1;have:=(jG c9).1;omega)
 have a8:Aside (∀(w2:World),Below w.heap.size w w2→C.b.faultE=0→_):=fun w2 hb ha=>xZ C.b n w2 vb (jG ha).2 (jG ha).1 (TmV.below hb hn _ _ h2) (aE hn hb.size)
 obtain⟨fh,hfh⟩:∃f,C.h.faultE=f:=⟨_,rfl⟩;obtain⟨fb,hfb⟩:∃f,C.b.faultE=f:=⟨_,rfl⟩;obtain⟨nb,hnb⟩:∃f,C.numB=f:=⟨_,rfl⟩;obtain⟨cb,hcb⟩:∃f,C.h.callB=f:=⟨_,rfl⟩;obtain⟨bi,hbi⟩:∃f,C.h.bi=f:=⟨_,rfl⟩;obtain⟨lb,hlb⟩:∃f,C.b.litsB=f:=⟨_,rfl⟩;have a0:Aside (FL=if fh≠0 then fh else if fb≠0 then fb else if nb=false then 2 else if cb=false then 7 else if bi=true then 8 else if lb=false then 7 else 0):=by
  show FL=_;rw [←hFL,←hfh,←hfb,←hnb,←hcb,←hbi,←hlb];rfl
 have dh:=fun w2 (hb:Below w.heap.size w w2)=>a5.out C.h w2 vh (TmV.below hb hn _ _ h1) (aE hn hb.size)
 have db:=fun w2 (hb:Below w.heap.size w w2)=>a5.out C.b w2 vb (TmV.below hb hn _ _ h2) (aE hn hb.size)
 rw [hfh] at dh;rw [hfb] at db;have a3:fh=0→fb=0→∀w2,Below w.heap.size w w2→_:=fun a b w2 hb=>a9.out w2 hb (hfh.trans a) (hfb.trans b)
 have a4:fb=0→∀w2,Below w.heap.size w w2→_:=fun b w2 hb=>a8.out w2 hb (hfb.trans b)
 rw [hnb] at a3;have b3:=aside dh;have b6:=aside db;have a6:=aside a3;have b4:Aside (fb=0→∀w2,Below w.heap.size w w2→Calls Tryz.prog 59 #[.agg vb.toArray] w2 fun e w'=>∃v,e= .returned (.tuple #[v,.bool lb])∧Below w2.heap.size w2 w'):=fun b w2 hb=>(a4 b w2 hb).mono fun e w' hp=>by
  obtain⟨v,e1,_,e3⟩:=hp;exact⟨v,by rw [e1,hlb],e3⟩
 clear dh db a3 a4 a5 a9 a8 hC hFL hfh hfb hnb hlb;obtain⟨th,tb,vars⟩:=C;dsimp only at h1 h2 hcb hbi a6;obtain⟨k1,v1,nm1,g1,b9,b7,args1⟩:=th;obtain⟨k2,v2,nm2,g2,c0,b8,a7⟩:=tb;simp only [TmV] at h1 h2;obtain⟨_,_,a1,c1,rfl,⟨⟨p1,q1,rfl,_⟩,⟨p2,q2,rfl,_⟩⟩,_⟩:=h1;obtain⟨_,_,a2,c2,rfl,⟨⟨p3,q3,rfl,_⟩,⟨p4,q4,rfl,_⟩⟩,_⟩:=h2;obtain⟨l1,hl1⟩:∃l,args1.length=l:=⟨_,rfl⟩;generalize b9.length=n1 at*;generalize b7.length=n2 at*;generalize a7.length=l2 at*;generalize c0.length=n3 at*;generalize b8.length=n4 at*;rw [hl1] at b3 a6 ⊢;have c6:Aside (∀w2,Calls Tryz.prog 89 #[.agg #[.int .i64 k1,.int .i64 v1,.string nm1,.bool g1,.slice p1 n1 q1,.slice p2 n2 q2,.slice a1 l1 c1]] w2 fun e w'=>e= .returned (.bool cb)∧Below w2.heap.size w2 w'):=fun w2=>by rw [←hcb];exact FH k1 v1 nm1 g1 _ _ _ w2
 have c4:Aside (∀w2,Calls Tryz.prog 26 #[.agg #[.int .i64 k1,.int .i64 v1,.string nm1,.bool g1,.slice p1 n1 q1,.slice p2 n2 q2,.slice a1 l1 c1]] w2 fun e w'=>e= .returned (.agg #[.string nm1,.int .i64 l1])∧Below w2.heap.size w2 w'):=fun w2=>uS k1 v1 nm1 g1 _ _ _ _ _ w2
 have c5:Aside (∀w2,Calls Tryz.prog 74 #[.agg #[.string nm1,.int .i64 l1]] w2 fun e w'=>e= .returned (.bool bi)∧Below w2.heap.size w2 w'):=fun w2=>by
  have:biB nm1.toList l1=bi:=by rw [←hbi,←hl1];rfl
  rw [←this];exact CU nm1 l1 w2
 replace b3:Aside (∀w2,Below w.heap.size w w2→Calls Tryz.prog 87 #[.agg #[.int .i64 k1,.int .i64 v1,.string nm1,.bool g1,.slice p1 n1 q1,.slice p2 n2 q2,.slice a1 l1 c1]] w2 fun e w'=>e= .returned (.int .i64 fh)∧Below w2.heap.size w2 w'):=b3;replace b6:Aside (∀w2,Below w.heap.size w w2→Calls Tryz.prog 87 #[.agg #[.int .i64 k2,.int .i64 v2,.string nm2,.bool g2,.slice p3 n3 q3,.slice p4 n4 q4,.slice a2 l2 c2]] w2 fun e w'=>e= .returned (.int .i64 fb)∧Below w2.heap.size w2 w'):=b6;replace a6:Aside (fh=0→fb=0→∀w2,Below w.heap.size w w2→Calls Tryz.prog 182 #[.agg #[.int .i64 k1,.int .i64 v1,.string nm1,.bool g1,.slice p1 n1 q1,.slice p2 n2 q2,.slice a1 l1 c1,.int .i64 k2,.int .i64 v2,.string nm2,.bool g2,.slice p3 n3 q3,.slice p4 n4 q4,.slice a2 l2 c2,.int .i64 vars]] w2 fun e w'=>e= .returned (.bool nb)∧Below w2.heap.size w2 w'):=a6;replace b4:Aside (fb=0→∀w2,Below w.heap.size w w2→Calls Tryz.prog 59 #[.agg #[.int .i64 k2,.int .i64 v2,.string nm2,.bool g2,.slice p3 n3 q3,.slice p4 n4 q4,.slice a2 l2 c2]] w2 fun e w'=>∃v,e= .returned (.tuple #[v,.bool lb])∧Below w2.heap.size w2 w'):=b4;have b0:=aC w (Obj.cells #[.int .i64 k1,.int .i64 v1,.string nm1,.bool g1,.slice p1 n1 q1,.slice p2 n2 q2,.slice a1 l1 c1,.int .i64 k2,.int .i64 v2,.string nm2,.bool g2,.slice p3 n3 q3,.slice p4 n4 q4,.slice a2 l2 c2,.int .i64 vars] 50);have hq:=heap_alloc_new w (Obj.cells #[.int .i64 k1,.int .i64 v1,.string nm1,.bool g1,.slice p1 n1 q1,.slice p2 n2 q2,.slice a1 l1 c1,.int .i64 k2,.int .i64 v2,.string nm2,.bool g2,.slice p3 n3 q3,.slice p4 n4 q4,.slice a2 l2 c2,.int .i64 vars] 50);obtain⟨wb,hwb⟩:∃wb,w.alloc (Obj.cells #[.int .i64 k1,.int .i64 v1,.string nm1,.bool g1,.slice p1 n1 q1,.slice p2 n2 q2,.slice a1 l1 c1,.int .i64 k2,.int .i64 v2,.string nm2,.bool g2,.slice p3 n3 q3,.slice p4 n4 q4,.slice a2 l2 c2,.int .i64 vars] 50)=wb:=⟨_,rfl⟩;have d0:wb.heap.size=w.heap.size+1:=by rw [←hwb];simp
 rw [hwb] at b0 hq;have fa:Aside (∀w2,Below wb.heap.size wb w2→_):=fun(w2:World) (hb:Below wb.heap.size wb w2)=>jX ((hb.block w.heap.size (by omega)).trans hq)
 obtain⟨x0,x1,x2,x3,x4,x5,x6,x7,x8,x9,x10,x11,x12,x13,x14⟩:=fa.out wb (aI _ _);have e0:Below wb.heap.size wb wb:=aI _ _;have b5:Aside (∀w2,Below wb.heap.size wb w2→Below w.heap.size w w2):=fun w2 hb=>b0.trans (hb.mono b0.size)
 clear hq d0 hcb hbi hl1;show Calls Tryz.prog 120 #[.agg #[.int .i64 k1,.int .i64 v1,.string nm1,.bool g1,.slice p1 n1 q1,.slice p2 n2 q2,.slice a1 l1 c1,.int .i64 k2,.int .i64 v2,.string nm2,.bool g2,.slice p3 n3 q3,.slice p4 n4 q4,.slice a2 l2 c2,.int .i64 vars]] w _;go_enter Tryz.func120,Tryz.ntmps120
 go_upto_region 1 with fail
 clear hwb
 go_wp2_with (go_at_call 87;with_reducible refine(b3.out _ (b5.out _ e0)).mono ?_)
 rintro e w1 ⟨rfl,hb1⟩;have e1:Below wb.heap.size wb w1:=e0.trans (hb1.mono e0.size);clear x0 x1 x2 x3 x4 x5 x6 x7 x8 x9 x10 x11 x12 x13 x14;obtain⟨x0,x1,x2,x3,x4,x5,x6,x7,x8,x9,x10,x11,x12,x13,x14⟩:=fa.out w1 e1;clear hb1
 by_cases b1:fh=0
 case neg=>
  have f1:(fh==0)=false:=by simpa using b1
  have f2:(fh !=0)=true:=by simpa using b1
  obtain rfl:FL=fh:=by have:=a0.out;rw [if_pos b1] at this;exact this
  clear b1;clear a0;go_wp2
  go_ret
  exact⟨rfl,b0.trans (e1.mono b0.size)⟩
 subst b1;have c3:Aside (fb=0→∀w2,Below w.heap.size w w2→Calls Tryz.prog 182 #[.agg #[.int .i64 k1,.int .i64 v1,.string nm1,.bool g1,.slice p1 n1 q1,.slice p2 n2 q2,.slice a1 l1 c1,.int .i64 k2,.int .i64 v2,.string nm2,.bool g2,.slice p3 n3 q3,.slice p4 n4 q4,.slice a2 l2 c2,.int .i64 vars]] w2 fun e w'=>e= .returned (.bool nb)∧Below w2.heap.size w2 w'):=a6.out rfl;clear a6
 go_wp2_with (go_at_call 87;with_reducible refine(b6.out _ (b5.out _ e1)).mono ?_)
 rintro e w2 ⟨rfl,hb2⟩;have e2:Below wb.heap.size wb w2:=e1.trans (hb2.mono e1.size);clear x0 x1 x2 x3 x4 x5 x6 x7 x8 x9 x10 x11 x12 x13 x14;obtain⟨x0,x1,x2,x3,x4,x5,x6,x7,x8,x9,x10,x11,x12,x13,x14⟩:=fa.out w2 e2;clear hb2
 by_cases b2:fb=0
 case neg=>
  have f1:(fb==0)=false:=by simpa using b2
  have f2:(fb !=0)=true:=by simpa using b2
  obtain rfl:FL=fb:=by have:=a0.out;rw [if_neg (by simp),if_pos b2] at this;exact this
  clear b2;clear a0;go_wp2
  go_ret
  exact⟨rfl,b0.trans (e2.mono b0.size)⟩
 subst b2;have c8:Aside (∀w2,Below w.heap.size w w2→Calls Tryz.prog 182 #[.agg #[.int .i64 k1,.int .i64 v1,.string nm1,.bool g1,.slice p1 n1 q1,.slice p2 n2 q2,.slice a1 l1 c1,.int .i64 k2,.int .i64 v2,.string nm2,.bool g2,.slice p3 n3 q3,.slice p4 n4 q4,.slice a2 l2 c2,.int .i64 vars]] w2 fun e w'=>e= .returned (.bool nb)∧Below w2.heap.size w2 w'):=c3.out rfl;have c7:Aside (∀w2,Below w.heap.size w w2→Calls Tryz.prog 59 #[.agg #[.int .i64 k2,.int .i64 v2,.string nm2,.bool g2,.slice p3 n3 q3,.slice p4 n4 q4,.slice a2 l2 c2]] w2 fun e w'=>∃v,e= .returned (.tuple #[v,.bool lb])∧Below w2.heap.size w2 w'):=b4.out rfl;clear c3 b4
 go_wp2_with (go_at_call 59;with_reducible refine(c7.out _ (b5.out _ e2)).mono ?_)
 rintro e w3 ⟨vl,rfl,hb3⟩;have e3:Below wb.heap.size wb w3:=e2.trans (hb3.mono e2.size);clear x0 x1 x2 x3 x4 x5 x6 x7 x8 x9 x10 x11 x12 x13 x14;obtain⟨x0,x1,x2,x3,x4,x5,x6,x7,x8,x9,x10,x11,x12,x13,x14⟩:=fa.out w3 e3;clear hb3
 go_wp2_with (go_at_call 182;with_reducible refine(c8.out _ (b5.out _ e3)).mono ?_)
 rintro e w4 ⟨rfl,hb4⟩;have e4:Below wb.heap.size wb w4:=e3.trans (hb4.mono e3.size);clear x0 x1 x2 x3 x4 x5 x6 x7 x8 x9 x10 x11 x12 x13 x14;obtain⟨x0,x1,x2,x3,x4,x5,x6,x7,x8,x9,x10,x11,x12,x13,x14⟩:=fa.out w4 e4;clear hb4;cases nb
 case false=>
  obtain rfl:FL=2:=a0.out;clear a0;go_wp2
  go_ret
  exact⟨rfl,b0.trans (e4.mono b0.size)⟩
 go_wp2_with (go_at_call 89;with_reducible refine(c6.out _).mono ?_)
 rintro e w5 ⟨rfl,hb5⟩;have e5:Below wb.heap.size wb w5:=e4.trans (hb5.mono e4.size);clear x0 x1 x2 x3 x4 x5 x6 x7 x8 x9 x10 x11 x12 x13 x14;obtain⟨x0,x1,x2,x3,x4,x5,x6,x7,x8,x9,x10,x11,x12,x13,x14⟩:=fa.out w5 e5;clear hb5;cases cb
 case false=>
  obtain rfl:FL=7:=a0.out;clear a0;go_wp2
  go_ret
  exact⟨rfl,b0.trans (e5.mono b0.size)⟩
 go_wp2_with (go_at_call 26;with_reducible refine(c4.out _).mono ?_)
 rintro e w6 ⟨rfl,hb6⟩;have e6:Below wb.heap.size wb w6:=e5.trans (hb6.mono e5.size);clear x0 x1 x2 x3 x4 x5 x6 x7 x8 x9 x10 x11 x12 x13 x14;obtain⟨x0,x1,x2,x3,x4,x5,x6,x7,x8,x9,x10,x11,x12,x13,x14⟩:=fa.out w6 e6;clear hb6
 go_wp2_with (go_at_call 74;with_reducible refine(c5.out _).mono ?_)
 rintro e w7 ⟨rfl,hb7⟩;have e7:Below wb.heap.size wb w7:=e6.trans (hb7.mono e6.size);clear x0 x1 x2 x3 x4 x5 x6 x7 x8 x9 x10 x11 x12 x13 x14;obtain⟨x0,x1,x2,x3,x4,x5,x6,x7,x8,x9,x10,x11,x12,x13,x14⟩:=fa.out w7 e7;clear hb7;cases bi
 case true=>
  obtain rfl:FL=8:=a0.out;clear a0;go_wp2
  go_ret
  exact⟨rfl,b0.trans (e7.mono b0.size)⟩
 cases lb
 case false=>
  obtain rfl:FL=7:=a0.out;clear a0;go_wp2
  go_ret
  exact⟨rfl,b0.trans (e7.mono b0.size)⟩
 obtain rfl:FL=0:=a0.out;clear a0;go_wp2
 go_ret
 exact⟨rfl,b0.trans (e7.mono b0.size)⟩
end Go.Proofs.YtbdpdeonapmlgaaGreatDoor
