/- Lemmas for the text Card; no condition. -/
import Derived.Test.YtbdpdeonapmlgaaGreatDoorAj
import Derived.OneCell
set_option linter.all false
set_option maxHeartbeats 4000000
set_option maxRecDepth 100000
namespace Go.Proofs.YtbdpdeonapmlgaaGreatDoor
open Go.RowKit Go.Big Go.RowsK Go.MapK
def FrS (mb:Nat) (v:Value):Nat→Prop:=fun k=>k=mb∨v.ownBlock=some k
def FrP (base:Nat) (w:World) (mb:Nat) (v0:Value) (R:List Int) (e:Ending) (w':World):Prop:=
 ∃v,e= .returned v∧OutN base w' v R∧dU w' mb (· ∈R)∧bU (FrS mb v0) w w'∧(∀k,v.ownBlock=some k→v0.ownBlock=some k∨w.heap.size≤k)∧v.ownBlock≠some mb
def FrOk (T:Tm):Prop:=∀(n base mb:Nat) (w:World) (vs:List Value) (v:Value) (a1:List Int),TmV n w T vs→n≤base→base≤mb→OutN base w v a1→dU w mb (· ∈a1)→v.ownBlock≠some mb→a1.length+T.nodes≤1000000→
 Calls Tryz.prog 170 #[.agg vs.toArray,.map (some mb),v] w (FrP base w mb v (T.fr a1))
theorem Az (k v:Int) (nm:ByteArray) (g:Bool) (num den:List Nat) (args:List Tm) (ih:∀T'∈args,FrOk T'):FrOk (.mk k v nm g num den args):=by
 intro n base mb w vs sv a1 h e1 e9 hO hS c5 hN;have f5:=aside ih;simp only [TmV] at h;obtain⟨_,_,a,c,rfl,⟨⟨p1,q1,rfl,_⟩,⟨p2,q2,rfl,_⟩⟩,hT,hbig,_⟩:=h;generalize num.length=n1 at*;generalize den.length=n2 at*;simp only [Tm.fr];simp only [Tm.nodes] at hN;obtain⟨a0,hacc2⟩:∃x,(if k=1∧v∉a1 then a1++ [v] else a1)=x:=⟨_,rfl⟩;rw [hacc2];obtain⟨len,hl⟩:∃len,args.length=len:=⟨_,rfl⟩;rw [hl] at hbig ⊢;have Al:=aside hl;have e8:=aside hT;obtain⟨R,hR⟩:∃R,Tm.frL args a0=R:=⟨_,rfl⟩;rw [hR];have b1:Aside (Tm.frL args a0=R∧a0.length+Tm.nodesL args≤1000000∧(if k=1∧v∉a1 then a1++ [v] else a1)=a0∧a1.length≤1000000):=by
  refine⟨hR,?_,hacc2,by omega⟩;rw [←hacc2];split
  ·simp;omega
  ·omega
 have b5:=hS.lt;have f0:base≤w.heap.size:=by omega
 have b0:=aC w (Obj.cells #[.int .i64 k,.int .i64 v,.string nm,.bool g,.slice p1 n1 q1,.slice p2 n2 q2,.slice a len c] 48);have hq:=heap_alloc_new w (Obj.cells #[.int .i64 k,.int .i64 v,.string nm,.bool g,.slice p1 n1 q1,.slice p2 n2 q2,.slice a len c] 48);obtain⟨wb,hwb⟩:∃wb,w.alloc (Obj.cells #[.int .i64 k,.int .i64 v,.string nm,.bool g,.slice p1 n1 q1,.slice p2 n2 q2,.slice a len c] 48)=wb:=⟨_,rfl⟩;have e3:wb.heap.size=w.heap.size+1:=by rw [←hwb];simp
 rw [hwb] at b0 hq;have a5:dU wb mb (· ∈a1):=hS.of_block (b0.block mb b5);have a9:OutN base wb sv a1:=gS hO b0 (aA _);obtain⟨x0,x1,x2,x3,x4,x5,x6⟩:=cY hq;obtain⟨b,hlk,hbv⟩:=a5.look v;have a2:=hO.lt;have c1:=aside2 e3 b5;clear hT hR hacc2 hl hS hO;show Calls Tryz.prog 170 #[.agg #[.int .i64 k,.int .i64 v,.string nm,.bool g,.slice p1 n1 q1,.slice p2 n2 q2,.slice a len c],.map (some mb),sv] w _;go_enter Tryz.func170,Tryz.ntmps170
 go_upto_region 1 with fail
 clear hwb;have e7:=aside a2
 by_cases hk:k=1
 case' neg=>
  have f9:(k==1)=false:=by simpa using hk
  have hL:Aside (OutN base wb sv a0∧dU wb mb (· ∈a0)∧bU (FrS mb sv) w wb∧(∀k,sv.ownBlock=some k→sv.ownBlock=some k∨w.heap.size≤k)∧sv.ownBlock≠some mb):=by
   obtain rfl:a1=a0:=by rw [←b1.out.2.2.1,if_neg (fun h=>hk h.1)]
   exact⟨a9,a5,bU.of_below b0,fun k h=>.inl h,c5⟩
  clear a5 a9 b0 hlk hbv a2 hN hq hk
  go_upto_region 4 with fail
 case' pos=>
  subst hk;cases b
  case' true=>
   have hL:Aside (OutN base wb sv a0∧dU wb mb (· ∈a0)∧bU (FrS mb sv) w wb∧(∀k,sv.ownBlock=some k→sv.ownBlock=some k∨w.heap.size≤k)∧sv.ownBlock≠some mb):=by
    obtain rfl:a1=a0:=by rw [←b1.out.2.2.1,if_neg (fun h=>h.2 (hbv.1 rfl))]
    exact⟨a9,a5,bU.of_below b0,fun k h=>.inl h,c5⟩
   clear a5 a9 b0 hbv a2 hN hq
   go_upto_region 4 with fail
  case' false=>
   have f4:v∉a1:=fun h=>by have:=hbv.2 h;cases this
   have d8:a0=a1++ [v]:=by rw [←b1.out.2.2.1,if_pos ⟨rfl,f4⟩]
   obtain⟨w3,hup,hS3,hK3,hz3⟩:=a5.put v;have d4:w3.heap[w.heap.size]?=some (.cells #[.int .i64 1,.int .i64 v,.string nm,.bool g,.slice p1 n1 q1,.slice p2 n2 q2,.slice a len c] 48):=(hK3.block _ (by rw [e3];omega) (by omega)).trans hq;have d6:OutN base w3 sv a1:=fK a9 fun g hg=>hK3.block g (by have:=(a2 g hg).2;omega) (fun e=>c5 (by rw [hg,e]))
   obtain⟨z0,z1,z2,z3,z4,z5,z6⟩:=cY d4;have b4:=aside5 hS3 hK3 hz3 d8 b0;have b8:=aside d4;have a8:=aside c5;have c3:=aC w3 (Obj.cells #[.int .i64 v] 3);have e2:=heap_alloc_new w3 (Obj.cells #[.int .i64 v] 3);have d7:OutN base (w3.alloc (Obj.cells #[.int .i64 v] 3)) sv a1:=gS d6 c3 (aA _);have c0:SrcAt (w3.alloc (Obj.cells #[.int .i64 v] 3)) (.slice (some ⟨w3.heap.size,0,none⟩) 1 1) 1 [.int .i64 v]:=.inr ⟨_,_,rfl,fun j u hj=>by
    rw [jN,cG];simp only [World.cell?,e2];simpa using hj⟩
   have a7:a1.length+1≤maxLen∧(a1.length+1)*8≤140737488355328:=by
    have:=b1.out.2.2.2;unfold maxLen;omega
   have d9:base≤(w3.alloc (Obj.cells #[.int .i64 v] 3)).heap.size:=by rw [cT];omega
   have b7:∀u∈ [(.int .i64 v:Value)],u.oneCell'=true:=by simp [Value.oneCell']
   have a3:Aside (∀v5 w5,w5.ownsRow base 3 1 v5 (a1.length+1) (a1.map (Value.int .i64)++ [.int .i64 v])→(w3.alloc (Obj.cells #[.int .i64 v] 3)).grownBy w5 sv.ownBlock→(v5.ownBlock=sv.ownBlock∨v5.ownBlock=some (w3.alloc (Obj.cells #[.int .i64 v] 3)).heap.size)→
     OutN base w5 v5 a0∧dU w5 mb (· ∈a0)∧bU (FrS mb sv) w w5∧(∀k,v5.ownBlock=some k→sv.ownBlock=some k∨w.heap.size≤k)∧v5.ownBlock≠some mb∧w5.heap[w.heap.size]?=some (.cells #[.int .i64 1,.int .i64 v,.string nm,.bool g,.slice p1 n1 q1,.slice p2 n2 q2,.slice a len c] 48)):=by
    show∀v5 w5,_;intro v5 w5 h1 h2 h3;obtain⟨g1,g2,g3,g4,g5⟩:=b4.out;have g0:(w3.alloc (Obj.cells #[.int .i64 v] 3)).heap.size=w.heap.size+2:=by rw [cT];have:=c1.out.1;omega
    have d3:∀k,sv.ownBlock=some k→k<w.heap.size:=fun k hk=>(a2 k hk).2
    have f2:=c1.out.2;have k1:bU (FrS mb sv) w wb:=bU.of_below g5;have k2:bU (FrS mb sv) wb w3:=g2.mono fun k _ e=>.inl e
    have k3:bU (FrS mb sv) w3 (w3.alloc (Obj.cells #[.int .i64 v] 3)):=bU.of_below c3;have k4:bU (FrS mb sv) (w3.alloc (Obj.cells #[.int .i64 v] 3)) w5:=(bU.of_grown h2).mono fun k _ e=>.inr e
    have e6:=k3.trans k4 (fun k _ e=>e);have d2:dU w5 mb (fun y=>y∈a1∨y=v):=hS3.of_block ((h2.block mb (by omega) (fun e=>a8.out e.symm)).trans (c3.block mb (by omega)));have c8:w5.heap[w.heap.size]?=w3.heap[w.heap.size]?:=e6.block _ (by omega) (fun e=>e.elim (fun e=>by omega) (fun e=>by have:=d3 _ e;omega));refine⟨?_,d2.cong (fun x=>by rw [g4,bX,fQ]),(k1.trans k2 (fun k _ e=>e)).trans e6 (fun k _ e=>e),?_,?_,c8.trans b8.out⟩
    ·unfold OutN;rw [g4,aK,mZ];exact h1
    ·intro k hk;rcases h3 with h3|h3
     ·exact .inl (h3.symm.trans hk)
     ·rw [h3] at hk;have:=aJ hk;right;omega
    ·intro e;rcases h3 with h3|h3
     ·exact a8.out (h3.symm.trans e)
     ·rw [h3] at e;have:=aJ e;omega
   clear a5 a9 b0 hbv a2 hN hK3 hS3 hz3 d4 d6 d8
   go_upto_region 4 with(at_builtin;refine gK elInt _ rfl _ _ rfl base _ _ _ rfl d7 _ _ _ rfl c0 rfl b7 a7.1 a7.2 d9 ?_;intro v5 w5 h5 e0 e4)
   have hF:=a3.out _ _ h5 e0 e4;have hL:Aside (OutN base w5 v5 a0∧dU w5 mb (· ∈a0)∧bU (FrS mb sv) w w5∧(∀k,v5.ownBlock=some k→sv.ownBlock=some k∨w.heap.size≤k)∧v5.ownBlock≠some mb):=⟨hF.1,hF.2.1,hF.2.2.1,hF.2.2.2.1,hF.2.2.2.2.1⟩;clear x0 x1 x2 x3 x4 x5 x6 z0 z1 z2 z3 z4 z5 z6;obtain⟨x0,x1,x2,x3,x4,x5,x6⟩:=cY hF.2.2.2.2.2;clear hF a3 h5 e0 e4 c0 b7 a7 d9 d7 e2 c3 b8 a8 b4 hup hlk
 all_goals
  go_wp2
  go_loopw [2,30] (fun s2 f6 wr=>∃(i:Nat) (v2:Value),v2=s2∧f6= .int .i64 i∧i≤len∧OutN base wr s2 (Tm.frL (args.take i) a0)∧dU wr mb (· ∈Tm.frL (args.take i) a0)∧bU (FrS mb sv) w wr∧(∀k,s2.ownBlock=some k→sv.ownBlock=some k∨w.heap.size≤k)∧s2.ownBlock≠some mb) (fun _ s _=>len-(intOf s).toNat)
  case atStart=>exact⟨0,_,rfl,rfl,aT _,hL.out.1,hL.out.2.1,hL.out.2.2.1,hL.out.2.2.2.1,hL.out.2.2.2.2⟩
  case round=>
   clear hL;obtain⟨wo,rfl⟩:∃wo,wo=wr:=⟨_,rfl⟩;obtain⟨i,v2,rfl,rfl,hi,hOi,hSi,hKi,hwi,hni⟩:=hrel
   by_cases f1:i<len
   ·obtain⟨T',a6⟩:∃T',args[i]?=some T':=⟨args[i]'(by rw [Al.out];exact f1),aL _⟩;obtain⟨b,off,vs',rfl,hbn,hc,hv⟩:=e8.out.get a6;rw [cG] at hc;have c6:Below n w wo:=(hKi.below (aE e1 f0) (fun k hk=>by
     rcases hk with hk|hk
     ·omega
     ·have:=(e7.out k hk).1;omega))
    have c9:=f5.out T' (aX a6);have d5:=aside hv;have b6:Aside (Tm.frL (args.take (i+1)) a0=T'.fr (Tm.frL (args.take i) a0)):=NG a6;have c4:(Tm.frL (args.take i) a0).length+T'.nodes≤1000000:=by
     have h1:=(qJ (args.take i) a0).1;have h2:=yH a6;have h3:Tm.nodesL (args.take (i+1))≤Tm.nodesL args:=yG args (i+1);have:=b1.out.2.1;omega
    obtain⟨b2,hacci⟩:∃x,Tm.frL (args.take i) a0=x:=⟨_,rfl⟩;rw [hacci] at hOi hSi b6 c4;obtain⟨k',v',nm',g',c2,b3,a4⟩:=T';simp only [TmV] at hv;obtain⟨_,_,a',c',rfl,⟨⟨r1,u1,rfl,_⟩,⟨r2,u2,rfl,_⟩⟩,_⟩:=hv;obtain⟨m0,m1,m2,m3,m4,m5,m6⟩:=xH (w:=w) (w2:=wo) (fun p hp=>c6.cell (hp▸hbn)) hc;obtain⟨Tt,hTt⟩:∃t,Tm.mk k' v' nm' g' c2 b3 a4=t:=⟨_,rfl⟩;rw [hTt] at b6 c4 c9 d5;generalize c2.length=m1' at*;generalize b3.length=m2' at*;generalize a4.length=l' at*;have d0:=aC wo (Obj.cells #[.int .i64 k',.int .i64 v',.string nm',.bool g',.slice r1 m1' u1,.slice r2 m2' u2,.slice a' l' c'] 48);have f3:=hSi.lt;have d1:=c9 n base mb (wo.alloc (Obj.cells #[.int .i64 k',.int .i64 v',.string nm',.bool g',.slice r1 m1' u1,.slice r2 m2' u2,.slice a' l' c'] 48)) _ _ b2 (TmV.below (c6.trans (d0.mono (by omega))) (aA _) _ _ d5.out) e1 e9 (gS hOi d0 (aA _)) (hSi.of_block (d0.block mb f3)) hni c4;replace d1:Calls Tryz.prog 170 #[.agg #[.int .i64 k',.int .i64 v',.string nm',.bool g',.slice r1 m1' u1,.slice r2 m2' u2,.slice a' l' c'],.map (some mb),_] _ _:=d1;have b9:Aside (∀e w6,FrP base (wo.alloc (Obj.cells #[.int .i64 k',.int .i64 v',.string nm',.bool g',.slice r1 m1' u1,.slice r2 m2' u2,.slice a' l' c'] 48)) mb v2 (Tt.fr b2) e w6→∃v6,e= .returned v6∧OutN base w6 v6 (Tm.frL (args.take (i+1)) a0)∧dU w6 mb (· ∈Tm.frL (args.take (i+1)) a0)∧bU (FrS mb sv) w w6∧(∀k,v6.ownBlock=some k→sv.ownBlock=some k∨w.heap.size≤k)∧v6.ownBlock≠some mb):=by
     show∀e w6,_;rintro e w6 ⟨v6,rfl,q1',q2',q3',q4',q5'⟩;have g7:=hKi.size;refine⟨v6,rfl,by rw [b6.out];exact q1',by rw [b6.out];exact q2',?_,?_,q5'⟩
     ·refine hKi.trans ((bU.of_below d0 (S:=FrS mb v2)).trans q3' fun k _ e=>e) fun k hk e=>?_
      rcases e with e|e
      ·exact .inl e
      ·rcases hwi k e with e|e
       ·exact .inr e
       ·omega
     ·intro k hk;rcases q4' k hk with e|e
      ·exact hwi k e
      ·rw [cT] at e;right;omega
    have f7:(i:Int)<(len:Int):=by omega
    have f8:(0:Int)≤(i:Int):=by omega
    have g6:IntKind.i64.wrap ((i:Int)+1)=(i:Int)+1:=by rw [aG];omega
    clear hTt hacci hc a6 hOi hSi hKi hwi hni c4 c9 d5 c6 b6 d0
    go_wp2_with (go_at_call 170;with_reducible refine d1.mono ?_)
    intro e w6 hF;obtain⟨v6,rfl,hR6⟩:=b9.out e w6 hF;have c7:Aside _:=hR6;clear hF b9 d1 m0 m1 m2 m3 m4 m5 m6 hR6;go_wp2;go_roundw
    case rel=>exact⟨i+1,_,rfl,by simp,by omega,c7.out⟩
    case measure=>simp [intOf];omega
   ·obtain rfl:i=len:=by omega
    have a3:Aside (Tm.frL (args.take i) a0=R):=by show _=R;rw [←Al.out,gA];exact b1.out.1
    rw [a3.out] at hOi hSi;have hP:Aside (FrP base w mb sv R (.returned _) wo):=⟨_,rfl,hOi,hSi,hKi,hwi,hni⟩;clear hOi hSi hKi hwi hni;go_wp2
    go_ret
    exact hP.out
theorem NE:∀T:Tm,FrOk T
 | .mk k v nm g num den args=>Az k v nm g num den args fun T' a6=>NE T'
termination_by T=>SizeOf.sizeOf T
decreasing_by
 simp_wf
 have:=oE a6;omega
def FreeP (w:World) (R:List Int) (e:Ending) (w':World):Prop:=∃v,e= .returned v∧OutN w.heap.size w' v R∧Below w.heap.size w w'
theorem WD (T:Tm) (n:Nat) (w:World) (vs:List Value) (h:TmV n w T vs) (hn:n≤w.heap.size) (hN:T.nodes≤1000000):
  Calls Tryz.prog 102 #[.agg vs.toArray] w (FreeP w T.free):=by
 have h0:=h;have hF:=NE T;obtain⟨R,hR⟩:∃R,T.free=R:=⟨_,rfl⟩;rw [hR];obtain⟨k,v,nm,g,num,den,args⟩:=T;simp only [TmV] at h;obtain⟨_,_,a,c,rfl,⟨⟨p1,q1,rfl,_⟩,⟨p2,q2,rfl,_⟩⟩,_⟩:=h;have b0:=aC w (Obj.cells #[.int .i64 k,.int .i64 v,.string nm,.bool g,.slice p1 num.length q1,.slice p2 den.length q2,.slice a args.length c] 48);have b1:=aC (w.alloc (Obj.cells #[.int .i64 k,.int .i64 v,.string nm,.bool g,.slice p1 num.length q1,.slice p2 den.length q2,.slice a args.length c] 48)) (Obj.map #[] 0);have a2:(w.alloc (Obj.cells #[.int .i64 k,.int .i64 v,.string nm,.bool g,.slice p1 num.length q1,.slice p2 den.length q2,.slice a args.length c] 48)).heap.size=w.heap.size+1:=by simp
 have hS:=dU.new (w.alloc (Obj.cells #[.int .i64 k,.int .i64 v,.string nm,.bool g,.slice p1 num.length q1,.slice p2 den.length q2,.slice a args.length c] 48));have a0:=b0.trans (b1.mono b0.size);have d1:=hF n w.heap.size (w.heap.size+1) ((w.alloc (Obj.cells #[.int .i64 k,.int .i64 v,.string nm,.bool g,.slice p1 num.length q1,.slice p2 den.length q2,.slice a args.length c] 48)).alloc (Obj.map #[] 0)) _ (.slice none 0 0) [] (TmV.below a0 hn _ _ h0) hn (by omega) (oC _ _ _ _) (by rw [a2] at hS;exact hS.cong (fun x=>by simp)) (by simp [Value.ownBlock]) (by simpa using hN);have hP:Aside (∀e w',FrP w.heap.size ((w.alloc (Obj.cells #[.int .i64 k,.int .i64 v,.string nm,.bool g,.slice p1 num.length q1,.slice p2 den.length q2,.slice a args.length c] 48)).alloc (Obj.map #[] 0)) (w.heap.size+1) (.slice none 0 0) (Tm.fr (.mk k v nm g num den args) []) e w'→FreeP w R e w'):=by
  show∀e w',_;rintro e w' ⟨v',rfl,q1',q2',q3',q4',q5'⟩;refine⟨v',rfl,by rw [←hR];exact q1',a0.trans (q3'.below a0.size ?_)⟩;intro k hk;rcases hk with hk|hk
  ·omega
  ·simp [Value.ownBlock] at hk
 replace d1:Calls Tryz.prog 170 #[.agg #[.int .i64 k,.int .i64 v,.string nm,.bool g,.slice p1 num.length q1,.slice p2 den.length q2,.slice a args.length c],.map (some (w.heap.size+1)),.slice none 0 0] _ _:=d1;have a4:∀w:World,(Instr.makeMap 93 none).run Tryz.prog w= .ok (.map (some w.heap.size)) (w.alloc (.map #[] 0)):=fun w=>rfl
 clear h0 hF hR hS a0 b0 b1 a2;generalize Tm.fr (.mk k v nm g num den args) []=L at*;generalize args.length=l0 at*;generalize num.length=l1 at*;generalize den.length=l2 at*;show Calls Tryz.prog 102 #[.agg #[.int .i64 k,.int .i64 v,.string nm,.bool g,.slice p1 l1 q1,.slice p2 l2 q2,.slice a l0 c]] w _;go_enter Tryz.func102,Tryz.ntmps102
 go_wp2_with (go_at_call 170;with_reducible refine d1.mono ?_)
 intro e w3 hr;have a3:=hP.out e w3 hr;obtain⟨v',rfl,hr1⟩:=a3;have a1:Aside _:=hr1;clear hr hr1 d1 hP;go_wp2
 go_ret
 exact⟨_,rfl,a1.out⟩
structure Boxes (w:World) (sb ob vb mb:Nat) (v:Value):Prop where
 s:w.heap[sb]?=some (.cells #[.map (some mb)] 93 (0,0))
 o:w.heap[ob]?=some (.cells #[v] 64 (0,0))
 f:w.heap[vb]?=some (.cells #[.func (.func 194) #[] #[.pointer (some ⟨sb,0,none⟩),.pointer (some ⟨ob,0,none⟩),.pointer (some ⟨vb,0,none⟩)]] 176 (0,0))
structure Apart (n sb ob vb mb:Nat):Prop where
 a1:n≤sb
 a2:n≤ob
 a3:n≤vb
 a4:n≤mb
 d1:sb≠ob
 d2:sb≠vb
 d3:sb≠mb
 d4:ob≠vb
 d5:ob≠mb
 d6:vb≠mb
def Sep (v:Value) (sb ob vb mb:Nat):Prop:=∀k,v.ownBlock=some k→k≠sb∧k≠ob∧k≠vb∧k≠mb
def FvS (ob mb:Nat) (v:Value):Nat→Prop:=fun k=>k=mb∨k=ob∨v.ownBlock=some k
theorem Boxes.kept {w w':World} {sb ob vb mb:Nat} {v v':Value} {n:Nat} {S:Nat→Prop} (h:Boxes w sb ob vb mb v) (hk:bU S w w') (h1:¬S sb) (h2:¬S vb) (ho:w'.heap[ob]?=some (.cells #[v'] 64 (0,0))):Boxes w' sb ob vb mb v':=
 ⟨(hk.block _ (Array.getElem?_eq_some_iff.1 h.s).1 h1).trans h.s,ho,(hk.block _ (Array.getElem?_eq_some_iff.1 h.f).1 h2).trans h.f⟩
theorem Boxes.below {w w':World} {sb ob vb mb:Nat} {v:Value} (h:Boxes w sb ob vb mb v) (hb:Below w.heap.size w w'):Boxes w' sb ob vb mb v:=
 ⟨(hb.block _ (Array.getElem?_eq_some_iff.1 h.s).1).trans h.s,(hb.block _ (Array.getElem?_eq_some_iff.1 h.o).1).trans h.o,(hb.block _ (Array.getElem?_eq_some_iff.1 h.f).1).trans h.f⟩
theorem qP {w:World} {b:Nat} {u:Value} {t:TypeId} (h:w.heap[b]?=some (.cells #[u] t (0,0))):w.cell? ⟨b,0,none⟩=some u∧w.frozen? ⟨b,0,none⟩=false:=by
 constructor
 ·simp [World.cell?,h]
 ·simp [World.frozen?,h]
def FvQ (base:Nat) (w:World) (sb ob vb mb:Nat) (v0:Value) (R:List Int) (w':World):Prop:=
 ∃v,Boxes w' sb ob vb mb v∧OutN base w' v R∧dU w' mb (· ∈R)∧bU (FvS ob mb v0) w w'∧(∀k,v.ownBlock=some k→v0.ownBlock=some k∨w.heap.size≤k)∧Sep v sb ob vb mb
def FvP (base:Nat) (w:World) (sb ob vb mb:Nat) (v0:Value) (R:List Int) (e:Ending) (w':World):Prop:=e= .returned (.tuple #[])∧FvQ base w sb ob vb mb v0 R w'
def FvOk (T:Tm):Prop:=∀(n base sb ob vb mb:Nat) (w:World) (vs:List Value) (v:Value) (a5:List Int),TmV n w T vs→n≤base→Apart base sb ob vb mb→Boxes w sb ob vb mb v→OutN base w v a5→dU w mb (· ∈a5)→Sep v sb ob vb mb→a5.length+T.nodes≤1000000→
 Calls Tryz.prog 194 #[.agg vs.toArray,.pointer (some ⟨sb,0,none⟩),.pointer (some ⟨ob,0,none⟩),.pointer (some ⟨vb,0,none⟩)] w (FvP base w sb ob vb mb v (T.fr a5))
theorem Aw (k v:Int) (nm:ByteArray) (g:Bool) (num den:List Nat) (args:List Tm) (ih:∀T'∈args,FvOk T'):FvOk (.mk k v nm g num den args):=by
 intro n base sb ob vb mb w vs sv a5 h g0 a8 e7 hO hS g8 hN;have i6:=aside ih;simp only [TmV] at h;obtain⟨_,_,a,c,rfl,⟨⟨p1,q1,rfl,_⟩,⟨p2,q2,rfl,_⟩⟩,hT,hbig,_⟩:=h;generalize num.length=n1 at*;generalize den.length=n2 at*;simp only [Tm.fr];simp only [Tm.nodes] at hN;obtain⟨a0,hacc2⟩:∃x,(if k=1∧v∉a5 then a5++ [v] else a5)=x:=⟨_,rfl⟩;rw [hacc2];obtain⟨len,hl⟩:∃len,args.length=len:=⟨_,rfl⟩;rw [hl] at hbig ⊢;have Al:=aside hl;have h6:=aside hT;obtain⟨R,hR⟩:∃R,Tm.frL args a0=R:=⟨_,rfl⟩;rw [hR];have c3:Aside (Tm.frL args a0=R∧a0.length+Tm.nodesL args≤1000000∧(if k=1∧v∉a5 then a5++ [v] else a5)=a0∧a5.length≤1000000):=by
  refine⟨hR,?_,hacc2,by omega⟩;rw [←hacc2];split
  ·simp;omega
  ·omega
 have c0:=hS.lt;have f0:=(Array.getElem?_eq_some_iff.1 e7.o).1;have a9:=aside3 a8 c0 f0;have h7:base≤w.heap.size:=by have:=a8.a4;omega
 have b0:=aC w (Obj.cells #[.int .i64 k,.int .i64 v,.string nm,.bool g,.slice p1 n1 q1,.slice p2 n2 q2,.slice a len c] 48);have hq:=heap_alloc_new w (Obj.cells #[.int .i64 k,.int .i64 v,.string nm,.bool g,.slice p1 n1 q1,.slice p2 n2 q2,.slice a len c] 48);obtain⟨wb,hwb⟩:∃wb,w.alloc (Obj.cells #[.int .i64 k,.int .i64 v,.string nm,.bool g,.slice p1 n1 q1,.slice p2 n2 q2,.slice a len c] 48)=wb:=⟨_,rfl⟩;have g9:wb.heap.size=w.heap.size+1:=by rw [←hwb];simp
 rw [hwb] at b0 hq;have b6:dU wb mb (· ∈a5):=hS.of_block (b0.block mb c0);have c2:OutN base wb sv a5:=gS hO b0 (aA _);have b4:Boxes wb sb ob vb mb sv:=e7.below b0;obtain⟨x0,x1,x2,x3,x4,x5,x6⟩:=cY hq;obtain⟨b,hlk,hbv⟩:=b6.look v;have a7:=hO.lt;have c1:=aside2 g9 c0;have ys:=(qP b4.s).1;have h4:=aside a7;have a6:=aside g8;clear hT hR hacc2 hl hS hO e7 a8 g8;show Calls Tryz.prog 194 #[.agg #[.int .i64 k,.int .i64 v,.string nm,.bool g,.slice p1 n1 q1,.slice p2 n2 q2,.slice a len c],.pointer (some ⟨sb,0,none⟩),.pointer (some ⟨ob,0,none⟩),.pointer (some ⟨vb,0,none⟩)] w _;go_enter Tryz.func194,Tryz.ntmps194
 go_upto_region 1 with fail
 clear hwb
 by_cases hk:k=1
 case' neg=>
  have j2:(k==1)=false:=by simpa using hk
  have hL:Aside (FvQ base w sb ob vb mb sv a0 wb):=by
   obtain rfl:a5=a0:=by rw [←c3.out.2.2.1,if_neg (fun h=>hk h.1)]
   exact⟨sv,b4,c2,b6,bU.of_below b0,fun k h=>.inl h,a6.out⟩
  clear b6 c2 b0 hlk hbv a7 hN hq hk b4
  go_upto_region 4 with fail
 case' pos=>
  subst hk;cases b
  case' true=>
   have hL:Aside (FvQ base w sb ob vb mb sv a0 wb):=by
    obtain rfl:a5=a0:=by rw [←c3.out.2.2.1,if_neg (fun h=>h.2 (hbv.1 rfl))]
    exact⟨sv,b4,c2,b6,bU.of_below b0,fun k h=>.inl h,a6.out⟩
   clear b6 c2 b0 hbv a7 hN hq b4
   go_upto_region 4 with fail
  case' false=>
   have i1:v∉a5:=fun h=>by have:=hbv.2 h;cases this
   have f7:a0=a5++ [v]:=by rw [←c3.out.2.2.1,if_pos ⟨rfl,i1⟩]
   obtain⟨w3,hup,hS3,hK3,hz3⟩:=b6.put v;have a8:=a9.out.1;have f2:w3.heap[w.heap.size]?=some (.cells #[.int .i64 1,.int .i64 v,.string nm,.bool g,.slice p1 n1 q1,.slice p2 n2 q2,.slice a len c] 48):=(hK3.block _ (by rw [g9];omega) (by omega)).trans hq;have f5:OutN base w3 sv a5:=fK c2 fun g hg=>hK3.block g (by have:=(a7 g hg).2;omega) (fun e=>(a6.out g hg).2.2.2 e)
   have e3:Boxes w3 sb ob vb mb sv:=b4.kept (n:=0) hK3 a8.d3 a8.d6 ((hK3.block ob (by omega) a8.d5).trans b4.o);obtain⟨z0,z1,z2,z3,z4,z5,z6⟩:=cY f2;have yo:=(qP e3.o).1;have b7:=aside6 hS3 hK3 hz3 f7 b0 e3;have c9:=aside f2;have c4:=aC w3 (Obj.cells #[.int .i64 v] 3);have g7:=heap_alloc_new w3 (Obj.cells #[.int .i64 v] 3);have f6:OutN base (w3.alloc (Obj.cells #[.int .i64 v] 3)) sv a5:=gS f5 c4 (aA _);have d8:SrcAt (w3.alloc (Obj.cells #[.int .i64 v] 3)) (.slice (some ⟨w3.heap.size,0,none⟩) 1 1) 1 [.int .i64 v]:=.inr ⟨_,_,rfl,fun j u hj=>by
    rw [jN,cG];simp only [World.cell?,g7];simpa using hj⟩
   have b9:a5.length+1≤maxLen∧(a5.length+1)*8≤140737488355328:=by
    have:=c3.out.2.2.2;unfold maxLen;omega
   have f8:base≤(w3.alloc (Obj.cells #[.int .i64 v] 3)).heap.size:=by rw [cT];omega
   have c8:∀u∈ [(.int .i64 v:Value)],u.oneCell'=true:=by simp [Value.oneCell']
   have b2:Aside (∀v5 w5,w5.ownsRow base 3 1 v5 (a5.length+1) (a5.map (Value.int .i64)++ [.int .i64 v])→(w3.alloc (Obj.cells #[.int .i64 v] 3)).grownBy w5 sv.ownBlock→(v5.ownBlock=sv.ownBlock∨v5.ownBlock=some (w3.alloc (Obj.cells #[.int .i64 v] 3)).heap.size)→
     (w5.heap[ob]?=some (.cells #[sv] 64 (0,0)))∧FvQ base w sb ob vb mb sv a0 (w5.setCell ⟨ob,0,none⟩ v5)∧(w5.setCell ⟨ob,0,none⟩ v5).heap[w.heap.size]?=some (.cells #[.int .i64 1,.int .i64 v,.string nm,.bool g,.slice p1 n1 q1,.slice p2 n2 q2,.slice a len c] 48)):=by
    show∀v5 w5,_;intro v5 w5 h1 h2 h3;obtain⟨g1,g2,g3,g4,g5,g6⟩:=b7.out;have j3:(w3.alloc (Obj.cells #[.int .i64 v] 3)).heap.size=w.heap.size+2:=by rw [cT];have:=c1.out.1;omega
    have f1:∀k,sv.ownBlock=some k→k<w.heap.size:=fun k hk=>(a7 k hk).2
    have h9:=c1.out.2;have i4:=(Array.getElem?_eq_some_iff.1 g6.s).1;have i5:=(Array.getElem?_eq_some_iff.1 g6.f).1;have i3:=(Array.getElem?_eq_some_iff.1 g6.o).1;have k1:bU (FvS ob mb sv) w wb:=bU.of_below g5;have k2:bU (FvS ob mb sv) wb w3:=g2.mono fun k _ e=>.inl e
    have k3:bU (FvS ob mb sv) w3 (w3.alloc (Obj.cells #[.int .i64 v] 3)):=bU.of_below c4;have k4:bU (FvS ob mb sv) (w3.alloc (Obj.cells #[.int .i64 v] 3)) w5:=(bU.of_grown h2).mono fun k _ e=>.inr (.inr e)
    have b1:w5.heap[ob]?=some (.cells #[sv] 64 (0,0)):=((h2.block ob (by omega) (fun e=>(a6.out ob e.symm).2.1 rfl)).trans (c4.block ob (by omega))).trans g6.o;have k5:bU (FvS ob mb sv) w5 (w5.setCell ⟨ob,0,none⟩ v5):=⟨rfl,rfl,rfl,by simp,fun k _ hk=>heap_setCell_other _ _ _ _ fun e=>hk (.inr (.inl e))⟩;have f4:=(k3.trans k4 (fun k _ e=>e)).trans k5 (fun k _ e=>e);have b5:Sep v5 sb ob vb mb:=fun k hk=>by
     rcases h3 with h3|h3
     ·exact a6.out k (h3.symm.trans hk)
     ·rw [h3] at hk;have:=aJ hk;omega
    have e9:dU (w5.setCell ⟨ob,0,none⟩ v5) mb (fun y=>y∈a5∨y=v):=g1.of_block ((heap_setCell_other _ _ _ _ (fun e=>a8.d5 e.symm)).trans ((h2.block mb (by omega) (fun e=>(a6.out mb e.symm).2.2.2 rfl)).trans (c4.block mb (by omega))));have e6:(w5.setCell ⟨ob,0,none⟩ v5).heap[w.heap.size]?=w3.heap[w.heap.size]?:=f4.block _ (by omega) (fun e=>by
     rcases e with e|e|e
     ·omega
     ·have:=a9.out.2.2;omega
     ·have:=f1 _ e;omega)
    refine⟨b1,⟨v5,g6.kept (n:=0) f4 (fun e=>?_) (fun e=>?_) (one_setCell b1),?_,e9.cong (fun x=>by rw [g4,bX,fQ]),(k1.trans k2 (fun k _ e=>e)).trans f4 (fun k _ e=>e),?_,b5⟩,e6.trans c9.out⟩
    ·rcases e with e|e|e
     ·exact a8.d3 e
     ·exact a8.d1 e
     ·exact(a6.out _ e).1 rfl
    ·rcases e with e|e|e
     ·exact a8.d6 e
     ·exact a8.d4 e.symm
     ·exact(a6.out _ e).2.2.1 rfl
    ·unfold OutN;rw [g4,aK,mZ];exact ownsRow_setCell_other h1 (fun e=>(b5 ob e).2.1 rfl) _
    ·intro k hk;rcases h3 with h3|h3
     ·exact .inl (h3.symm.trans hk)
     ·rw [h3] at hk;have:=aJ hk;right;omega
   clear b6 c2 b0 hbv a7 hN hK3 hS3 hz3 f2 f5 f7 b4 e3 a8
   go_upto_region 3 with fail
   have i9:(w3.alloc (Obj.cells #[.int .i64 v] 3)).cell? ⟨ob,0,none⟩=some sv:=(GM (c4.block ob (by have:=b7.out.2.2.1;have:=c1.out.1;have:=a9.out.2.2;omega))).trans yo;clear x0 x1 x2 x3 x4 x5 x6 hup hlk
   go_upto_region 4 with(at_builtin;refine gK elInt _ rfl _ _ rfl base _ _ _ rfl f6 _ _ _ rfl d8 rfl c8 b9.1 b9.2 f8 ?_;intro v5 w5 h5 f9 h0;obtain⟨b1,hL0,hbx5⟩:=b2.out _ _ h5 f9 h0;obtain⟨pa,pc,rfl,hrd⟩:=mD h5;obtain⟨i8,yf5⟩:=qP b1;clear b2 h5 f9 h0 hrd b1)
   have hL:Aside (FvQ base w sb ob vb mb sv a0 (w5.setCell ⟨ob,0,none⟩ _)):=hL0;clear z0 z1 z2 z3 z4 z5 z6 yo i9 i8 yf5 ys hL0 d8 c8 b9 f8 f6 g7 c4 c9 b7;obtain⟨x0,x1,x2,x3,x4,x5,x6⟩:=cY hbx5;clear hbx5
 all_goals
  go_wp2
  go_loopw [28] (fun i7 wr=>∃(i:Nat),i7= .int .i64 i∧i≤len∧FvQ base w sb ob vb mb sv (Tm.frL (args.take i) a0) wr) (fun s _=>len-(intOf s).toNat)
  case atStart=>exact⟨0,rfl,aT _,by simpa [Tm.frL] using hL.out⟩
  case round=>
   clear hL;obtain⟨wo,rfl⟩:∃wo,wo=wr:=⟨_,rfl⟩;obtain⟨i,rfl,hi,hQi⟩:=hrel
   by_cases h8:i<len
   ·obtain⟨v2,hbi,hOi,hSi,hKi,hwi,hni⟩:=hQi;obtain⟨T',b8⟩:∃T',args[i]?=some T':=⟨args[i]'(by rw [Al.out];exact h8),aL _⟩;obtain⟨b,off,vs',rfl,hbn,hc,hv⟩:=h6.out.get b8;rw [cG] at hc;have e1:Below n w wo:=(hKi.below (aE g0 h7) (fun k hk=>by
     have:=a9.out.1;rcases hk with hk|hk|hk
     ·have:=this.a4;omega
     ·have:=this.a2;omega
     ·have:=(h4.out k hk).1;omega))
    have e8:=i6.out T' (aX b8);have f3:=aside hv;have c7:Aside (Tm.frL (args.take (i+1)) a0=T'.fr (Tm.frL (args.take i) a0)):=NG b8;have e0:(Tm.frL (args.take i) a0).length+T'.nodes≤1000000:=by
     have h1:=(qJ (args.take i) a0).1;have h2:=yH b8;have h3:Tm.nodesL (args.take (i+1))≤Tm.nodesL args:=yG args (i+1);have:=c3.out.2.1;omega
    obtain⟨c5,hacci⟩:∃x,Tm.frL (args.take i) a0=x:=⟨_,rfl⟩;rw [hacci] at hOi hSi c7 e0;obtain⟨k',v',nm',g',d9,c6,b3⟩:=T';simp only [TmV] at hv;obtain⟨_,_,a',c',rfl,⟨⟨r1,u1,rfl,_⟩,⟨r2,u2,rfl,_⟩⟩,_⟩:=hv;obtain⟨m0,m1,m2,m3,m4,m5,m6⟩:=xH (w:=w) (w2:=wo) (fun p hp=>e1.cell (hp▸hbn)) hc;obtain⟨Tt,hTt⟩:∃t,Tm.mk k' v' nm' g' d9 c6 b3=t:=⟨_,rfl⟩;rw [hTt] at c7 e0 e8 f3;generalize d9.length=m1' at*;generalize c6.length=m2' at*;generalize b3.length=l' at*;have i2:n≤wo.heap.size:=by have:=hKi.size;omega
    have d0:=aC wo (Obj.cells #[.int .i64 k',.int .i64 v',.string nm',.bool g',.slice r1 m1' u1,.slice r2 m2' u2,.slice a' l' c'] 48);have i0:=hSi.lt;have e4:=hbi.below d0;have yf:=(qP e4.f).1;have d1:=e8 n base sb ob vb mb (wo.alloc (Obj.cells #[.int .i64 k',.int .i64 v',.string nm',.bool g',.slice r1 m1' u1,.slice r2 m2' u2,.slice a' l' c'] 48)) _ _ c5 (TmV.below (e1.trans (d0.mono (by omega))) (aA _) _ _ f3.out) g0 a9.out.1 e4 (gS hOi d0 (aA _)) (hSi.of_block (d0.block mb i0)) hni e0;replace d1:Calls Tryz.prog 194 #[.agg #[.int .i64 k',.int .i64 v',.string nm',.bool g',.slice r1 m1' u1,.slice r2 m2' u2,.slice a' l' c'],.pointer (some ⟨sb,0,none⟩),.pointer (some ⟨ob,0,none⟩),.pointer (some ⟨vb,0,none⟩)] _ _:=d1;have d7:Aside (∀e w6,FvP base (wo.alloc (Obj.cells #[.int .i64 k',.int .i64 v',.string nm',.bool g',.slice r1 m1' u1,.slice r2 m2' u2,.slice a' l' c'] 48)) sb ob vb mb v2 (Tt.fr c5) e w6→e= .returned (.tuple #[])∧FvQ base w sb ob vb mb sv (Tm.frL (args.take (i+1)) a0) w6):=by
     show∀e w6,_;rintro e w6 ⟨rfl,v6,q0',q1',q2',q3',q4',q5'⟩;have j5:=hKi.size;refine⟨rfl,v6,q0',by rw [c7.out];exact q1',by rw [c7.out];exact q2',?_,?_,q5'⟩
     ·refine hKi.trans ((bU.of_below d0 (S:=FvS ob mb v2)).trans q3' fun k _ e=>e) fun k hk e=>?_
      rcases e with e|e|e
      ·exact .inl e
      ·exact .inr (.inl e)
      ·rcases hwi k e with e|e
       ·exact .inr (.inr e)
       ·omega
     ·intro k hk;rcases q4' k hk with e|e
      ·exact hwi k e
      ·rw [cT] at e;right;omega
    have j0:(i:Int)<(len:Int):=by omega
    have j1:(0:Int)≤(i:Int):=by omega
    have j4:IntKind.i64.wrap ((i:Int)+1)=(i:Int)+1:=by rw [aG];omega
    clear hTt hacci hc b8 hOi hSi hKi hwi hni e0 e8 f3 e1 c7 d0 hbi e4
    go_wp2_with (go_at_call 194;with_reducible refine d1.mono ?_)
    intro e w6 hF;obtain⟨rfl,hR6⟩:=d7.out e w6 hF;have e2:Aside _:=hR6;clear hF d7 d1 m0 m1 m2 m3 m4 m5 m6 hR6 yf;go_wp2;go_roundw
    case rel=>exact⟨i+1,by simp,by omega,e2.out⟩
    case measure=>simp [intOf];omega
   ·obtain rfl:i=len:=by omega
    have b2:Aside (Tm.frL (args.take i) a0=R):=by show _=R;rw [←Al.out,gA];exact c3.out.1
    rw [b2.out] at hQi;have hP:Aside (FvP base w sb ob vb mb sv R (.returned (.tuple #[])) wo):=⟨rfl,hQi⟩;clear hQi;go_wp2
    go_end0
    exact hP.out
theorem ND:∀T:Tm,FvOk T
 | .mk k v nm g num den args=>Aw k v nm g num den args fun T' b8=>ND T'
termination_by T=>SizeOf.sizeOf T
decreasing_by
 simp_wf
 have:=oE b8;omega
variable {w w':World} {n m g:Nat}
theorem Bb (w:World) (o1 o2 o3 o4 o5:Obj):∃w5,w5=((((w.alloc o1).alloc o2).alloc o3).alloc o4).alloc o5∧Below w.heap.size w w5∧w5.heap[w.heap.size]?=some o1∧w5.heap[w.heap.size+1]?=some o2∧w5.heap[w.heap.size+1+1]?=some o3∧w5.heap[w.heap.size+1+1+1]?=some o4∧w5.heap[w.heap.size+1+1+1+1]?=some o5∧w5.heap.size=w.heap.size+5:=by
 refine⟨_,rfl,?_,?_⟩
 ·have b1:=aC w o1;have b2:=b1.alloc b1.size o2;have b3:=b2.alloc b2.size o3;have b4:=b3.alloc b3.size o4;exact b4.alloc b4.size o5
 ·have e:(((((w.alloc o1).alloc o2).alloc o3).alloc o4).alloc o5).heap=((((w.heap.push o1).push o2).push o3).push o4).push o5:=rfl;rw [e];refine⟨?_,?_,?_,?_,?_,by simp⟩
  ·rw [iB,if_neg (by simp<;>omega),iB,if_neg (by simp<;>omega),iB,if_neg (by simp<;>omega),iB,if_neg (by simp),iB,if_pos rfl]
  ·rw [iB,if_neg (by simp<;>omega),iB,if_neg (by simp<;>omega),iB,if_neg (by simp),iB,if_pos (by simp)]
  ·rw [iB,if_neg (by simp<;>omega),iB,if_neg (by simp),iB,if_pos (by simp)]
  ·rw [iB,if_neg (by simp),iB,if_pos (by simp)]
  ·rw [iB,if_pos (by simp)]
theorem UG (w:World) (a:Addr) (v u:Value) (hv:v.oneCell'=true) (hc:w.cell? a=some u) (hf:w.frozen? a=false):(store a v).run Tryz.prog w= .ok () (w.setCell a v):=by
 rw [run_store _ _ _ _ _ hv,hc];simp [hf]
theorem WY (T:Tm) (n:Nat) (w:World) (vs:List Value) (h:TmV n w T vs) (hn:n≤w.heap.size) (hN:T.nodes≤1000000):
  Calls Tryz.prog 132 #[.agg vs.toArray] w (FreeP w T.free):=by
 have h0:=h;have hF:=ND T;obtain⟨R,hR⟩:∃R,T.free=R:=⟨_,rfl⟩;rw [hR];obtain⟨k,v,nm,g,num,den,args⟩:=T;simp only [TmV] at h;obtain⟨_,_,a,c,rfl,⟨⟨p1,q1,rfl,_⟩,⟨p2,q2,rfl,_⟩⟩,_⟩:=h;obtain⟨Tt,hTt⟩:∃t,Tm.mk k v nm g num den args=t:=⟨_,rfl⟩;rw [hTt] at hF hR h0 hN;generalize args.length=l0 at*;generalize num.length=l1 at*;generalize den.length=l2 at*;obtain⟨w5,hw5,hB5,e1,e2,e3,e4,e5,hs5⟩:=Bb w (Obj.cells #[.int .i64 k,.int .i64 v,.string nm,.bool g,.slice p1 l1 q1,.slice p2 l2 q2,.slice a l0 c] 48) (.cells #[.slice none 0 0] 64) (.map #[] 0) (.cells #[.map (some (w.heap.size+1+1))] 93) (.cells #[.func (.func 194) #[] #[.pointer (some ⟨w.heap.size+1+1+1,0,none⟩),.pointer (some ⟨w.heap.size+1,0,none⟩),.pointer (some ⟨w.heap.size+1+1+1+1,0,none⟩)]] 176);have hS:dU w5 (w.heap.size+1+1) (· ∈([]:List Int)):=⟨[],⟨#[],0,e3,⟨trivial,by simp,by simp,by simp⟩⟩,by simp,by simp⟩;have a1:Apart w.heap.size (w.heap.size+1+1+1) (w.heap.size+1) (w.heap.size+1+1+1+1) (w.heap.size+1+1):=⟨by omega,by omega,by omega,by omega,by omega,by omega,by omega,by omega,by omega,by omega⟩;have d1:=hF n w.heap.size (w.heap.size+1+1+1) (w.heap.size+1) (w.heap.size+1+1+1+1) (w.heap.size+1+1) w5 _ (.slice none 0 0) [] (TmV.below hB5 hn _ _ h0) hn a1 ⟨e4,e2,e5⟩ (oC _ _ _ _) hS (fun k hk=>by simp [Value.ownBlock] at hk) (by simpa using hN);replace d1:Calls Tryz.prog 194 #[.agg #[.int .i64 k,.int .i64 v,.string nm,.bool g,.slice p1 l1 q1,.slice p2 l2 q2,.slice a l0 c],.pointer (some ⟨w.heap.size+1+1+1,0,none⟩),.pointer (some ⟨w.heap.size+1,0,none⟩),.pointer (some ⟨w.heap.size+1+1+1+1,0,none⟩)] w5 _:=d1;have hP:Aside (∀e w',FvP w.heap.size w5 (w.heap.size+1+1+1) (w.heap.size+1) (w.heap.size+1+1+1+1) (w.heap.size+1+1) (.slice none 0 0) (Tt.fr []) e w'→e= .returned (.tuple #[])∧∃v',w'.cell? ⟨w.heap.size+1,0,none⟩=some v'∧FreeP w R (.returned v') w'):=by
  show∀e w',_;rintro e w' ⟨rfl,v',q0',q1',q2',q3',q4',q5'⟩;refine⟨rfl,v',(qP q0'.o).1,v',rfl,by rw [←hR];exact q1',hB5.trans (q3'.below hB5.size ?_)⟩;intro k hk;rcases hk with hk|hk|hk
  ·omega
  ·omega
  ·simp [Value.ownBlock] at hk
 have a3:∀w:World,(Instr.makeMap 93 none).run Tryz.prog w= .ok (.map (some w.heap.size)) (w.alloc (.map #[] 0)):=fun w=>rfl
 obtain⟨x0,x1,x2,x3,x4,x5,x6⟩:=cY e1;have y5:=(qP e5).1;have a0:Aside (w5=_):=hw5;have a2:(store ⟨w.heap.size+1+1+1+1,0,none⟩ (.func (.func 194) #[] #[.pointer (some ⟨w.heap.size+1+1+1,0,none⟩),.pointer (some ⟨w.heap.size+1,0,none⟩),.pointer (some ⟨w.heap.size+1+1+1+1,0,none⟩)])).run Tryz.prog (((((w.alloc (Obj.cells #[.int .i64 k,.int .i64 v,.string nm,.bool g,.slice p1 l1 q1,.slice p2 l2 q2,.slice a l0 c] 48)).alloc (Obj.cells #[.slice none 0 0] 64)).alloc (Obj.map #[] 0)).alloc (Obj.cells #[.map (some (w.heap.size+1+1))] 93)).alloc (Obj.cells #[.nilFunc] 176))= .ok () w5:=by
  have hb:=heap_alloc_new ((((w.alloc (Obj.cells #[.int .i64 k,.int .i64 v,.string nm,.bool g,.slice p1 l1 q1,.slice p2 l2 q2,.slice a l0 c] 48)).alloc (Obj.cells #[.slice none 0 0] 64)).alloc (Obj.map #[] 0)).alloc (Obj.cells #[.map (some (w.heap.size+1+1))] 93)) (Obj.cells #[.nilFunc] 176);simp only [cT] at hb;obtain⟨bc,bf⟩:=qP hb;rw [UG _ _ _ .nilFunc rfl bc bf,hw5];rw [World.setCell_alloc_at _ _ _ _ _ (by simp [cT])];rfl
 clear h0 hF hR hS a1 hN hTt e1 e2 e3 e4 e5 hs5 hB5 hw5;generalize Tm.fr Tt []=L at*;show Calls Tryz.prog 132 #[.agg #[.int .i64 k,.int .i64 v,.string nm,.bool g,.slice p1 l1 q1,.slice p2 l2 q2,.slice a l0 c]] w _;go_enter Tryz.func132,Tryz.ntmps132
 go_upto_region 5 with fail
 clear a2
 go_wp2_with (go_at_call 194;with_reducible refine d1.mono ?_)
 intro e w6 hr;obtain⟨rfl,v',hcv,hfp⟩:=hP.out e w6 hr;have hA:Aside _:=hfp;clear hr hfp d1 hP a0 x0 x1 x2 x3 x4 x5 x6 y5;go_wp2
 go_ret
 exact hA.out
section
attribute [local go_sem] Heavy.uponW
theorem NumAt.up {neg:Bool} {s1 s2:Value} {A C:List Nat} (h:NumAt n w neg s1 s2 A C) (hm:n≤m):NumAt m w neg s1 s2 A C:=by
 obtain⟨⟨a,c,e1,h1⟩,⟨a',c',e2,h2⟩⟩:=h;refine⟨⟨a,c,e1,h1.1,fun h=>?_⟩,⟨a',c',e2,h2.1,fun h=>?_⟩⟩
 ·obtain⟨b,off,e,hb,hc⟩:=h1.2 h;exact⟨b,off,e,by omega,hc⟩
 ·obtain⟨b,off,e,hb,hc⟩:=h2.2 h;exact⟨b,off,e,by omega,hc⟩
mutual
theorem TmV.up {n m:Nat} {w:World} (hm:n≤m):∀(T:Tm) (vs:List Value),TmV n w T vs→TmV m w T vs
 | .mk k v nm g num den args,vs,h=>by
  simp only [TmV] at h ⊢;obtain⟨s1,s2,a,c,e,h1,h2,h3⟩:=h;exact⟨s1,s2,a,c,e,h1.up hm,cR.up hm args a 0 h2,h3⟩
theorem cR.up {n m:Nat} {w:World} (hm:n≤m):∀(L:List Tm) (a:Option Addr) (i:Nat),cR n w L a i→cR m w L a i
 | [],_,_,_=>by simp only [cR]
 |T::r,a,i,h=>by
  simp only [cR] at h ⊢;obtain⟨⟨b,off,vs,e,hbn,hc,hv⟩,hr⟩:=h;exact⟨⟨b,off,vs,e,by omega,hc,TmV.up hm T vs hv⟩,cR.up hm r a (i+1) hr⟩
end
structure Cl where
 h:Tm
 b:Tm
 vars:Int
def pI (vh vb:List Value) (v:Int):List Value:=vh++vb++ [.int .i64 v]
def ClV (n:Nat) (w:World) (C:Cl) (vs:List Value):Prop:=∃vh vb,vs=pI vh vb C.vars∧TmV n w C.h vh∧TmV n w C.b vb
theorem ClV.below (hb:Below m w w') (hm:n≤m) {C:Cl} {vs:List Value} (h:ClV n w C vs):ClV n w' C vs:=by
 obtain⟨vh,vb,e,h1,h2⟩:=h;exact⟨vh,vb,e,TmV.below hb hm _ _ h1,TmV.below hb hm _ _ h2⟩
def Cl.fr (C:Cl):List Int:=Tm.frL [C.h,C.b] []
def Cl.num (C:Cl):Prop:=(∀(j:Nat) x,C.fr[j]?=some x→x=j)∧(C.fr.length:Int)=C.vars
open Classical in
noncomputable def Cl.numB (C:Cl):Bool:=decide C.num
theorem jX {v0 v1 v2 v3 v4 v5 v6 v7 v8 v9 a0 a1 a2 a3 a4:Value} {e:TypeId} {fr:Nat × Nat} (h:w.heap[g]?=some (.cells #[v0,v1,v2,v3,v4,v5,v6,v7,v8,v9,a0,a1,a2,a3,a4] e fr)):
  w.cell? ⟨g,0,none⟩=some v0∧w.cell? ⟨g,1,none⟩=some v1∧w.cell? ⟨g,2,none⟩=some v2∧w.cell? ⟨g,3,none⟩=some v3∧w.cell? ⟨g,4,none⟩=some v4∧w.cell? ⟨g,5,none⟩=some v5∧w.cell? ⟨g,6,none⟩=some v6∧w.cell? ⟨g,7,none⟩=some v7∧w.cell? ⟨g,8,none⟩=some v8∧w.cell? ⟨g,9,none⟩=some v9∧w.cell? ⟨g,10,none⟩=some a0∧w.cell? ⟨g,11,none⟩=some a1∧w.cell? ⟨g,12,none⟩=some a2∧w.cell? ⟨g,13,none⟩=some a3∧w.cell? ⟨g,14,none⟩=some a4:=by
 simp [World.cell?,h]
theorem TZ (s:ByteArray) (a:Option Addr) (len c:Nat) (hl:0<len) (w:World):
  Calls Tryz.prog 137 #[.string s,.slice a len c] w fun e w'=>e= .returned (.agg #[.int .i64 5,.int .i64 0,.string s,.bool false,.slice none 0 0,.slice none 0 0,.slice a len c])∧Below w.heap.size w w':=by
 have a5:((len:Int)==0)=false:=by simp;omega
 go_enter Tryz.func137,Tryz.ntmps137;go_wp2;refine kW (results_cell_row rfl _ _ w.heap.size 48 _ _ _ rfl (heap_alloc_new _ _) Tryz.underlying48 rfl (by kernel_rfl)) rfl ?_;exact⟨rfl,aC _ _⟩
theorem OS {h b:Tm} {s:ByteArray} (hn:n≤w.heap.size) {vh vb:List Value} (h1:TmV n w h vh) (h2:TmV n w b vb) (hb:Below w.heap.size w w') (hq:w'.heap[w.heap.size]?=some (.cells (vh++vb).toArray 48)):
  TmV (w.heap.size+1) w' (.mk 5 0 s false [] [] [h,b]) [.int .i64 5,.int .i64 0,.string s,.bool false,.slice none 0 0,.slice none 0 0,.slice (some ⟨w.heap.size,0,none⟩) 2 2]:=by
 have l1:=h1.len;have l2:=h2.len;have g1:=TmV.up (show n≤w.heap.size+1 by omega) _ _ (TmV.below hb hn _ _ h1);have g2:=TmV.up (show n≤w.heap.size+1 by omega) _ _ (TmV.below hb hn _ _ h2);simp only [TmV];refine⟨.slice none 0 0,.slice none 0 0,_,2,rfl,⟨⟨none,0,rfl,by simp,fun h=>absurd rfl h⟩,⟨none,0,rfl,by simp,fun h=>absurd rfl h⟩⟩,?_,by simp,by decide,by decide⟩;simp only [cR];refine⟨⟨_,_,vh,rfl,by omega,fun j u hj=>?_,g1⟩,⟨_,_,vb,rfl,by omega,fun j u hj=>?_,g2⟩,trivial⟩
 ·have:=(List.getElem?_eq_some_iff.1 hj).1;simp only [World.cell?,hq];simp [eG this,hj]
 ·have:=(List.getElem?_eq_some_iff.1 hj).1;simp only [World.cell?,hq];simp [dO (show vh.length≤7+j by omega),l1,hj]
theorem OQ (s:ByteArray) (h b:Tm):Tm.nodes (.mk 5 0 s false [] [] [h,b])=1+(h.nodes+b.nodes):=by simp [Tm.nodes,Tm.nodesL]
theorem OR (s:ByteArray) (h b:Tm):Tm.free (.mk 5 0 s false [] [] [h,b])=Tm.frL [h,b] []:=by simp [Tm.free,Tm.fr]
end
end Go.Proofs.YtbdpdeonapmlgaaGreatDoor
