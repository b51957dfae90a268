/- Lemmas; no condition. -/
import Derived.Test.YtealgacfnbbgdaaGreatDoorAh
import Derived.OneCell
set_option linter.all false
set_option maxHeartbeats 4000000
set_option maxRecDepth 100000
namespace Go.Proofs.YtealgacfnbbgdaaGreatDoor
open Go.RowKit Go.Big Go.RowsK Go.MapK
def FrS (mb:Nat) (v:Value):Nat→Prop:=fun k=>k=mb∨v.ownBlock=some k
def FrP (base:Nat) (w:Wo) (mb:Nat) (v0:Value) (R:List Int) (e:Ending) (w':Wo):Prop:=
 ∃v,e= .returned v∧eL base w' v R∧gD w' mb (· ∈R)∧bL (FrS mb v0) w w'∧(∀k,v.ownBlock=some k→v0.ownBlock=some k∨w.heap.size≤k)∧v.ownBlock≠some mb
def FrOk (T:Tm):Prop:=∀(n base mb:Nat) (w:Wo) (vs:Lv) (v:Value) (a1:List Int),TmV n w T vs→n≤base→base≤mb→eL base w v a1→gD w mb (· ∈a1)→v.ownBlock≠some mb→a1.length+T.nodes≤1000000→
 Cz 56 #[.agg vs.toArray,.map (some mb),v] w (FrP base w mb v (T.fr a1))
def Ls (k v:Int) (nm:ByteArray) (g:Bool) (num den:List Nat) (args:List Tm) (ih:∀T'∈args,FrOk T'):FrOk (.mk k v nm g num den args):=by
 intro n base mb w vs sv a1 h d9 e5 hO hS c3 hN;have f1:=aside ih;simp only [TmV] at h;obtain⟨_,_,a,c,rfl,⟨⟨p1,q1,rfl,_⟩,⟨p2,q2,rfl,_⟩⟩,hT,hbig,_⟩:=h;generalize num.length=n1,den.length=n2 at*;simp only [Tm.fr];simp only [Tm.nodes] at hN;obtain⟨a0,hacc2⟩:∃x,(if k=1∧v∉a1 then a1++ [v] else a1)=x:=⟨_,rfl⟩;rw [hacc2];obtain⟨len,hl⟩:=enm args.length;rw [hl] at hbig ⊢;have Al:=aside hl;have e4:=aside hT;obtain⟨R,hR⟩:=enm (Tm.frL args a0);rw [hR];have a9:Aside (Tm.frL args a0=R∧a0.length+Tm.nodesL args≤1000000∧(if k=1∧v∉a1 then a1++ [v] else a1)=a0∧a1.length≤1000000):=by
  refine⟨hR,?_,hacc2,by omega⟩;rw [←hacc2];split
  ·simp;omega
  ·omega
 have b3:=hS.lt;have e6:base≤w.heap.size:=by omega
 obtain⟨wb,hwb,b0,hq,hsz⟩:=ebx w (Obj.cells (tA k v nm g p1 n1 q1 p2 n2 q2 a len c) 27);have a4:gD wb mb (· ∈a1):=hS.of_block (b0.block mb b3);have a8:eL base wb sv a1:=jF hO b0 (aA _);obtain⟨x0,x1,x2,x3,x4,x5,x6⟩:=dZ hq;obtain⟨b,hlk,hbv⟩:=a4.look v;have a2:=hO.lt;have b9:=aside2 hsz b3;clear hT hR hacc2 hl hS hO;show Cz 56 #[.agg (tA k v nm g p1 n1 q1 p2 n2 q2 a len c),.map (some mb),sv] w _;go_enter Tryz.func56,Tryz.ntmps56
 go_upto_region 1 with fail
 clear hwb;have e3:=aside a2
 by_cases hk:k=1
 case' neg=>
  have f4:(k==1)=false:=by simpa using hk
  have hL:Aside (eL base wb sv a0∧gD wb mb (· ∈a0)∧bL (FrS mb sv) w wb∧(∀k,sv.ownBlock=some k→sv.ownBlock=some k∨w.heap.size≤k)∧sv.ownBlock≠some mb):=by
   obtain rfl:a1=a0:=by rw [←a9.o.2.2.1,if_neg (fun h=>hk h.1)]
   exact⟨a8,a4,bL.of_below b0,fun k h=>.inl h,c3⟩
  clear a4 a8 b0 hlk hbv a2 hN hq hk
  go_upto_region 4 with fail
 case' pos=>
  subst hk;cases b
  case' true=>
   have hL:Aside (eL base wb sv a0∧gD wb mb (· ∈a0)∧bL (FrS mb sv) w wb∧(∀k,sv.ownBlock=some k→sv.ownBlock=some k∨w.heap.size≤k)∧sv.ownBlock≠some mb):=by
    obtain rfl:a1=a0:=by rw [←a9.o.2.2.1,if_neg (fun h=>h.2 (hbv.1 rfl))]
    exact⟨a8,a4,bL.of_below b0,fun k h=>.inl h,c3⟩
   clear a4 a8 b0 hbv a2 hN hq
   go_upto_region 4 with fail
  case' false=>
   have f0:v∉a1:=fun h=>by have:=hbv.2 h;cases this
   have d6:a0=a1++ [v]:=by rw [←a9.o.2.2.1,if_pos ⟨rfl,f0⟩]
   obtain⟨w3,hup,hS3,hK3,hz3⟩:=a4.put v;have d2:w3.heap[w.heap.size]?=some (.cells #[.int .i64 1,.int .i64 v,.string nm,.bool g,.slice p1 n1 q1,.slice p2 n2 q2,.slice a len c] 27):=(hK3.block _ (by rw [hsz];omega) (by omega)).trans hq;have d4:eL base w3 sv a1:=tV a8 fun g hg=>hK3.block g (by have:=(a2 g hg).2;omega) (fun e=>c3 (by rw [hg,e]))
   obtain⟨z0,z1,z2,z3,z4,z5,z6⟩:=dZ d2;have b2:=aside5 hS3 hK3 hz3 d6 b0;have b6:=aside d2;have a7:=aside c3;have c1:=aC w3 (Obj.cells #[.int .i64 v] 3);have e0:=bY w3 (Obj.cells #[.int .i64 v] 3);have d5:eL base (w3.alloc (Obj.cells #[.int .i64 v] 3)) sv a1:=jF d4 c1 (aA _);have b8:iT (w3.alloc (Obj.cells #[.int .i64 v] 3)) (.slice (some ⟨w3.heap.size,0,none⟩) 1 1) 1 [.int .i64 v]:=.inr ⟨_,_,rfl,fun j u hj=>by
    rw [qH,dH];simp only [World.cell?,e0];simpa using hj⟩
   have a6:a1.length+1≤maxLen∧(a1.length+1)*8≤140737488355328:=by
    have:=a9.o.2.2.2;unfold maxLen;omega
   have d7:base≤(w3.alloc (Obj.cells #[.int .i64 v] 3)).heap.size:=by rw [eX];omega
   have b5:∀u∈ [(.int .i64 v:Value)],u.oneCell'=true:=by simp [Value.oneCell']
   have a3:Aside (∀v5 w5,w5.ownsRow base 3 1 v5 (a1.length+1) (a1.map (Value.int .i64)++ [.int .i64 v])→(w3.alloc (Obj.cells #[.int .i64 v] 3)).grownBy w5 sv.ownBlock→(v5.ownBlock=sv.ownBlock∨v5.ownBlock=some (w3.alloc (Obj.cells #[.int .i64 v] 3)).heap.size)→
     eL base w5 v5 a0∧gD w5 mb (· ∈a0)∧bL (FrS mb sv) w w5∧(∀k,v5.ownBlock=some k→sv.ownBlock=some k∨w.heap.size≤k)∧v5.ownBlock≠some mb∧w5.heap[w.heap.size]?=some (.cells #[.int .i64 1,.int .i64 v,.string nm,.bool g,.slice p1 n1 q1,.slice p2 n2 q2,.slice a len c] 27)):=by
    show∀v5 w5,_;intro v5 w5 h1 h2 h3;obtain⟨g1,g2,g3,g4,g5⟩:=b2.o;have f5:(w3.alloc (Obj.cells #[.int .i64 v] 3)).heap.size=w.heap.size+2:=by rw [eX];have:=b9.o.1;omega
    have c9:∀k,sv.ownBlock=some k→k<w.heap.size:=fun k hk=>(a2 k hk).2
    have e8:=b9.o.2;have k1:bL (FrS mb sv) w wb:=bL.of_below g5;have k2:bL (FrS mb sv) wb w3:=g2.mono fun k _ e=>.inl e
    have k3:bL (FrS mb sv) w3 (w3.alloc (Obj.cells #[.int .i64 v] 3)):=bL.of_below c1;have k4:bL (FrS mb sv) (w3.alloc (Obj.cells #[.int .i64 v] 3)) w5:=(bL.of_grown h2).mono fun k _ e=>.inr e
    have e2:=k3.trans k4 (fun k _ e=>e);have c8:gD w5 mb (fun y=>y∈a1∨y=v):=hS3.of_block ((h2.block mb (by omega) (fun e=>a7.o e.symm)).trans (c1.block mb (by omega)));have c6:w5.heap[w.heap.size]?=w3.heap[w.heap.size]?:=e2.block _ (by omega) (fun e=>e.elim (fun e=>by omega) (fun e=>by have:=c9 _ e;omega));refine⟨?_,c8.cong (fun x=>by rw [g4,eY,mP]),(k1.trans k2 (fun k _ e=>e)).trans e2 (fun k _ e=>e),?_,?_,c6.trans b6.o⟩
    ·unfold eL;rw [g4,aV,pM];exact h1
    ·intro k hk;rcases h3 with h3|h3
     ·exact .inl (h3.symm.trans hk)
     ·rw [h3] at hk;have:=bP hk;right;omega
    ·intro e;rcases h3 with h3|h3
     ·exact a7.o (h3.symm.trans e)
     ·rw [h3] at e;have:=bP e;omega
   clear a4 a8 b0 hbv a2 hN hK3 hS3 hz3 d2 d4 d6
   go_upto_region 4 with(at_builtin;refine lJ AX _ rfl _ _ rfl base _ _ _ rfl d5 _ _ _ rfl b8 rfl b5 a6.1 a6.2 d7 ?_;intro v5 w5 h5 d8 e1)
   have hF:=a3.o _ _ h5 d8 e1;have hL:Aside (eL base w5 v5 a0∧gD w5 mb (· ∈a0)∧bL (FrS mb sv) w w5∧(∀k,v5.ownBlock=some k→sv.ownBlock=some k∨w.heap.size≤k)∧v5.ownBlock≠some mb):=⟨hF.1,hF.2.1,hF.2.2.1,hF.2.2.2.1,hF.2.2.2.2.1⟩;clear x0 x1 x2 x3 x4 x5 x6 z0 z1 z2 z3 z4 z5 z6;obtain⟨x0,x1,x2,x3,x4,x5,x6⟩:=dZ hF.2.2.2.2.2;clear hF a3 h5 d8 e1 b8 b5 a6 d7 d5 e0 c1 b6 a7 b2 hup hlk
 all_goals
  go_wp2
  go_loopw [2,30] (fun s2 f2 wr=>∃(i:Nat) (v2:Value),v2=s2∧f2= .int .i64 i∧i≤len∧eL base wr s2 (Tm.frL (args.take i) a0)∧gD wr mb (· ∈Tm.frL (args.take i) a0)∧bL (FrS mb sv) w wr∧(∀k,s2.ownBlock=some k→sv.ownBlock=some k∨w.heap.size≤k)∧s2.ownBlock≠some mb) (fun _ s _=>len-(intOf s).toNat)
  case atStart=>exact⟨0,_,rfl,rfl,cJ _,hL.o.1,hL.o.2.1,hL.o.2.2.1,hL.o.2.2.2.1,hL.o.2.2.2.2⟩
  case round=>
   clear hL;obtain⟨wo,rfl⟩:=enr wr;obtain⟨i,v2,rfl,rfl,hi,hOi,hSi,hKi,hwi,hni⟩:=hrel
   by_cases e7:i<len
   ·obtain⟨T',a5⟩:=egf Al.o e7;obtain⟨b,off,vs',rfl,hbn,hc,hv⟩:=e4.o.get a5;rw [dH] at hc;have c4:Below n w wo:=(hKi.below (aE d9 e6) (fun k hk=>by
     rcases hk with hk|hk
     ·omega
     ·have:=(e3.o k hk).1;omega))
    have c7:=f1.o T' (bV a5);have d3:=aside hv;have b4:Aside (Tm.frL (args.take (i+1)) a0=T'.fr (Tm.frL (args.take i) a0)):=KV a5;have c2:(Tm.frL (args.take i) a0).length+T'.nodes≤1000000:=by
     have h1:=(qX (args.take i) a0).1;have h2:=xJ a5;have h3:Tm.nodesL (args.take (i+1))≤Tm.nodesL args:=nodesL_take_le args (i+1);have:=a9.o.2.1;omega
    obtain⟨b1,hacci⟩:∃x,Tm.frL (args.take i) a0=x:=⟨_,rfl⟩;rw [hacci] at hOi hSi b4 c2;obtain⟨k',v',nm',g',c0,den',args'⟩:=T';simp only [TmV] at hv;obtain⟨_,_,a',c',rfl,⟨⟨r1,u1,rfl,_⟩,⟨r2,u2,rfl,_⟩⟩,_⟩:=hv;obtain⟨m0,m1,m2,m3,m4,m5,m6⟩:=seven (w:=w) (w2:=wo) (fun p hp=>c4.cell (hp▸hbn)) hc;obtain⟨Tt,hTt⟩:∃t,Tm.mk k' v' nm' g' c0 den' args'=t:=⟨_,rfl⟩;rw [hTt] at b4 c2 c7 d3;generalize c0.length=m1',den'.length=m2',args'.length=l' at*;have d0:=aC wo (Obj.cells (tA k' v' nm' g' r1 m1' u1 r2 m2' u2 a' l' c') 27);have e9:=hSi.lt;have d1:=c7 n base mb (wo.alloc (Obj.cells (tA k' v' nm' g' r1 m1' u1 r2 m2' u2 a' l' c') 27)) _ _ b1 (TmV.below (c4.trans (d0.mono (by omega))) (aA _) _ _ d3.o) d9 e5 (jF hOi d0 (aA _)) (hSi.of_block (d0.block mb e9)) hni c2;replace d1:Cz 56 #[.agg (tA k' v' nm' g' r1 m1' u1 r2 m2' u2 a' l' c'),.map (some mb),_] _ _:=d1;have b7:Aside (∀e w6,FrP base (wo.alloc (Obj.cells (tA k' v' nm' g' r1 m1' u1 r2 m2' u2 a' l' c') 27)) mb v2 (Tt.fr b1) e w6→∃v6,e= .returned v6∧eL base w6 v6 (Tm.frL (args.take (i+1)) a0)∧gD w6 mb (· ∈Tm.frL (args.take (i+1)) a0)∧bL (FrS mb sv) w w6∧(∀k,v6.ownBlock=some k→sv.ownBlock=some k∨w.heap.size≤k)∧v6.ownBlock≠some mb):=by
     show∀e w6,_;rintro e w6 ⟨v6,rfl,q1',q2',q3',q4',q5'⟩;have f6:=hKi.size;refine⟨v6,rfl,by rw [b4.o];exact q1',by rw [b4.o];exact q2',?_,?_,q5'⟩
     ·refine hKi.trans ((bL.of_below d0 (S:=FrS mb v2)).trans q3' fun k _ e=>e) fun k hk e=>?_
      rcases e with e|e
      ·exact .inl e
      ·rcases hwi k e with e|e
       ·exact .inr e
       ·omega
     ·intro k hk;rcases q4' k hk with e|e
      ·exact hwi k e
      ·rw [eX] at e;right;omega
    obtain⟨f3,hi3,hw3⟩:=elt (i:=i) (n:=len) (by omega) (by omega);clear hTt hacci hc a5 hOi hSi hKi hwi hni c2 c7 d3 c4 b4 d0
    go_wp2_with (go_at_call 56;with_reducible refine d1.mono ?_)
    intro e w6 hF;obtain⟨v6,rfl,hR6⟩:=b7.o e w6 hF;have c5:Aside _:=hR6;clear hF b7 d1 m0 m1 m2 m3 m4 m5 m6 hR6;go_wp2;go_roundw
    case rel=>exact⟨i+1,_,rfl,by simp,by omega,c5.o⟩
    case measure=>simp [intOf];omega
   ·obtain rfl:i=len:=by omega
    have a3:Aside (Tm.frL (args.take i) a0=R):=by show _=R;rw [←Al.o,kD];exact a9.o.1
    rw [a3.o] at hOi hSi;have hP:Aside (FrP base w mb sv R (.returned _) wo):=⟨_,rfl,hOi,hSi,hKi,hwi,hni⟩;clear hOi hSi hKi hwi hni;go_wp2
    go_ret
    exact hP.o
def VE:∀T:Tm,FrOk T
 | .mk k v nm g num den args=>Ls k v nm g num den args fun T' a5=>VE T'
termination_by T=>SizeOf.sizeOf T
decreasing_by
 simp_wf
 have:=pK a5;omega
def FreeP (w:Wo) (R:List Int) (e:Ending) (w':Wo):Prop:=∃v,e= .returned v∧eL w.heap.size w' v R∧Bz w w'
def IK (T:Tm) (n:Nat) (w:Wo) (vs:Lv) (h:TmV n w T vs) (hn:n≤w.heap.size) (hN:T.nodes≤1000000):
  Cz 27 #[.agg vs.toArray] w (FreeP w T.free):=by
 have h0:=h;have hF:=VE T;obtain⟨R,hR⟩:=enm T.free;rw [hR];obtain⟨k,v,nm,g,num,den,args⟩:=T;simp only [TmV] at h;obtain⟨_,_,a,c,rfl,⟨⟨p1,q1,rfl,_⟩,⟨p2,q2,rfl,_⟩⟩,_⟩:=h;have b0:=aC w (Obj.cells #[.int .i64 k,.int .i64 v,.string nm,.bool g,.slice p1 num.length q1,.slice p2 den.length q2,.slice a args.length c] 27);have b1:=aC (w.alloc (Obj.cells #[.int .i64 k,.int .i64 v,.string nm,.bool g,.slice p1 num.length q1,.slice p2 den.length q2,.slice a args.length c] 27)) (Obj.map #[] 0);have a2:(w.alloc (Obj.cells #[.int .i64 k,.int .i64 v,.string nm,.bool g,.slice p1 num.length q1,.slice p2 den.length q2,.slice a args.length c] 27)).heap.size=w.heap.size+1:=by simp
 have hS:=gD.new (w.alloc (Obj.cells #[.int .i64 k,.int .i64 v,.string nm,.bool g,.slice p1 num.length q1,.slice p2 den.length q2,.slice a args.length c] 27));have a0:=b0.trans (b1.mono b0.size);have d1:=hF n w.heap.size (w.heap.size+1) ((w.alloc (Obj.cells #[.int .i64 k,.int .i64 v,.string nm,.bool g,.slice p1 num.length q1,.slice p2 den.length q2,.slice a args.length c] 27)).alloc (Obj.map #[] 0)) _ (.slice none 0 0) [] (TmV.below a0 hn _ _ h0) hn (by omega) (qD _ _ _ _) (by rw [a2] at hS;exact hS.cong (fun x=>by simp)) (by simp [Value.ownBlock]) (by simpa using hN);have hP:Aside (∀e w',FrP w.heap.size ((w.alloc (Obj.cells #[.int .i64 k,.int .i64 v,.string nm,.bool g,.slice p1 num.length q1,.slice p2 den.length q2,.slice a args.length c] 27)).alloc (Obj.map #[] 0)) (w.heap.size+1) (.slice none 0 0) (Tm.fr (.mk k v nm g num den args) []) e w'→FreeP w R e w'):=by
  show∀e w',_;rintro e w' ⟨v',rfl,q1',q2',q3',q4',q5'⟩;refine⟨v',rfl,by rw [←hR];exact q1',a0.trans (q3'.below a0.size ?_)⟩;intro k hk;rcases hk with hk|hk
  ·omega
  ·simp [Value.ownBlock] at hk
 replace d1:Cz 56 #[.agg #[.int .i64 k,.int .i64 v,.string nm,.bool g,.slice p1 num.length q1,.slice p2 den.length q2,.slice a args.length c],.map (some (w.heap.size+1)),.slice none 0 0] _ _:=d1;have a4:∀w:Wo,(Instr.makeMap 87 none).run Tryz.prog w= .ok (.map (some w.heap.size)) (w.alloc (.map #[] 0)):=fun w=>rfl
 clear h0 hF hR hS a0 b0 b1 a2;generalize Tm.fr (.mk k v nm g num den args) []=L,args.length=l0,num.length=l1,den.length=l2 at*;show Cz 27 #[.agg (tA k v nm g p1 l1 q1 p2 l2 q2 a l0 c)] w _;go_enter Tryz.func27,Tryz.ntmps27
 go_wp2_with (go_at_call 56;with_reducible refine d1.mono ?_)
 intro e w3 hr;have a3:=hP.o e w3 hr;obtain⟨v',rfl,hr1⟩:=a3;have a1:Aside _:=hr1;clear hr hr1 d1 hP;go_wp2
 go_ret
 exact⟨_,rfl,a1.o⟩
structure Boxes (w:Wo) (sb ob vb mb:Nat) (v:Value):Prop where
 s:w.heap[sb]?=some (.cells #[.map (some mb)] 87 (0,0))
 o:w.heap[ob]?=some (.cells #[v] 40 (0,0))
 f:w.heap[vb]?=some (.cells #[.func (.func 54) #[] #[.pointer (some ⟨sb,0,none⟩),.pointer (some ⟨ob,0,none⟩),.pointer (some ⟨vb,0,none⟩)]] 88 (0,0))
structure Apart (n sb ob vb mb:Nat):Prop where
 a1:n≤sb
 a2:n≤ob
 a3:n≤vb
 a4:n≤mb
 d1:sb≠ob
 d2:sb≠vb
 d3:sb≠mb
 d4:ob≠vb
 d5:ob≠mb
 d6:vb≠mb
def Sep (v:Value) (sb ob vb mb:Nat):Prop:=∀k,v.ownBlock=some k→k≠sb∧k≠ob∧k≠vb∧k≠mb
def FvS (ob mb:Nat) (v:Value):Nat→Prop:=fun k=>k=mb∨k=ob∨v.ownBlock=some k
def Boxes.kept {w w':Wo} {sb ob vb mb:Nat} {v v':Value} {n:Nat} {S:Nat→Prop} (h:Boxes w sb ob vb mb v) (hk:bL S w w') (h1:¬S sb) (h2:¬S vb) (ho:w'.heap[ob]?=some (.cells #[v'] 40 (0,0))):Boxes w' sb ob vb mb v':=
 ⟨(hk.block _ (cV.1 h.s).1 h1).trans h.s,ho,(hk.block _ (cV.1 h.f).1 h2).trans h.f⟩
def Boxes.below {w w':Wo} {sb ob vb mb:Nat} {v:Value} (h:Boxes w sb ob vb mb v) (hb:Bz w w'):Boxes w' sb ob vb mb v:=
 ⟨(hb.block _ (cV.1 h.s).1).trans h.s,(hb.block _ (cV.1 h.o).1).trans h.o,(hb.block _ (cV.1 h.f).1).trans h.f⟩
def wC {w:Wo} {b:Nat} {u:Value} {t:TypeId} (h:w.heap[b]?=some (.cells #[u] t (0,0))):w.cell? ⟨b,0,none⟩=some u∧w.frozen? ⟨b,0,none⟩=false:=by
 constructor
 ·simp [World.cell?,h]
 ·simp [World.frozen?,h]
def FvQ (base:Nat) (w:Wo) (sb ob vb mb:Nat) (v0:Value) (R:List Int) (w':Wo):Prop:=
 ∃v,Boxes w' sb ob vb mb v∧eL base w' v R∧gD w' mb (· ∈R)∧bL (FvS ob mb v0) w w'∧(∀k,v.ownBlock=some k→v0.ownBlock=some k∨w.heap.size≤k)∧Sep v sb ob vb mb
def FvP (base:Nat) (w:Wo) (sb ob vb mb:Nat) (v0:Value) (R:List Int) (e:Ending) (w':Wo):Prop:=e= .returned (.tuple #[])∧FvQ base w sb ob vb mb v0 R w'
def FvOk (T:Tm):Prop:=∀(n base sb ob vb mb:Nat) (w:Wo) (vs:Lv) (v:Value) (a5:List Int),TmV n w T vs→n≤base→Apart base sb ob vb mb→Boxes w sb ob vb mb v→eL base w v a5→gD w mb (· ∈a5)→Sep v sb ob vb mb→a5.length+T.nodes≤1000000→
 Cz 54 #[.agg vs.toArray,.pointer (some ⟨sb,0,none⟩),.pointer (some ⟨ob,0,none⟩),.pointer (some ⟨vb,0,none⟩)] w (FvP base w sb ob vb mb v (T.fr a5))
def Lp (k v:Int) (nm:ByteArray) (g:Bool) (num den:List Nat) (args:List Tm) (ih:∀T'∈args,FvOk T'):FvOk (.mk k v nm g num den args):=by
 intro n base sb ob vb mb w vs sv a5 h f7 a8 e4 hO hS f9 hN;have i2:=aside ih;simp only [TmV] at h;obtain⟨_,_,a,c,rfl,⟨⟨p1,q1,rfl,_⟩,⟨p2,q2,rfl,_⟩⟩,hT,hbig,_⟩:=h;generalize num.length=n1,den.length=n2 at*;simp only [Tm.fr];simp only [Tm.nodes] at hN;obtain⟨a0,hacc2⟩:∃x,(if k=1∧v∉a5 then a5++ [v] else a5)=x:=⟨_,rfl⟩;rw [hacc2];obtain⟨len,hl⟩:=enm args.length;rw [hl] at hbig ⊢;have Al:=aside hl;have g8:=aside hT;obtain⟨R,hR⟩:=enm (Tm.frL args a0);rw [hR];have c2:Aside (Tm.frL args a0=R∧a0.length+Tm.nodesL args≤1000000∧(if k=1∧v∉a5 then a5++ [v] else a5)=a0∧a5.length≤1000000):=by
  refine⟨hR,?_,hacc2,by omega⟩;rw [←hacc2];split
  ·simp;omega
  ·omega
 have b9:=hS.lt;have e7:=(cV.1 e4.o).1;have a9:=aside3 a8 b9 e7;have g9:base≤w.heap.size:=by have:=a8.a4;omega
 obtain⟨wb,hwb,b0,hq,hsz⟩:=ebx w (Obj.cells (tA k v nm g p1 n1 q1 p2 n2 q2 a len c) 27);have b5:gD wb mb (· ∈a5):=hS.of_block (b0.block mb b9);have c1:eL base wb sv a5:=jF hO b0 (aA _);have b3:Boxes wb sb ob vb mb sv:=e4.below b0;obtain⟨x0,x1,x2,x3,x4,x5,x6⟩:=dZ hq;obtain⟨b,hlk,hbv⟩:=b5.look v;have a7:=hO.lt;have c0:=aside2 hsz b9;have ys:=(wC b3.s).1;have g7:=aside a7;have a6:=aside f9;clear hT hR hacc2 hl hS hO e4 a8 f9;show Cz 54 #[.agg (tA k v nm g p1 n1 q1 p2 n2 q2 a len c),.pointer (some ⟨sb,0,none⟩),.pointer (some ⟨ob,0,none⟩),.pointer (some ⟨vb,0,none⟩)] w _;go_enter Tryz.func54,Tryz.ntmps54
 go_upto_region 1 with fail
 clear hwb
 by_cases hk:k=1
 case' neg=>
  have i7:(k==1)=false:=by simpa using hk
  have hL:Aside (FvQ base w sb ob vb mb sv a0 wb):=by
   obtain rfl:a5=a0:=by rw [←c2.o.2.2.1,if_neg (fun h=>hk h.1)]
   exact⟨sv,b3,c1,b5,bL.of_below b0,fun k h=>.inl h,a6.o⟩
  clear b5 c1 b0 hlk hbv a7 hN hq hk b3
  go_upto_region 4 with fail
 case' pos=>
  subst hk;cases b
  case' true=>
   have hL:Aside (FvQ base w sb ob vb mb sv a0 wb):=by
    obtain rfl:a5=a0:=by rw [←c2.o.2.2.1,if_neg (fun h=>h.2 (hbv.1 rfl))]
    exact⟨sv,b3,c1,b5,bL.of_below b0,fun k h=>.inl h,a6.o⟩
   clear b5 c1 b0 hbv a7 hN hq b3
   go_upto_region 4 with fail
  case' false=>
   have h7:v∉a5:=fun h=>by have:=hbv.2 h;cases this
   have f4:a0=a5++ [v]:=by rw [←c2.o.2.2.1,if_pos ⟨rfl,h7⟩]
   obtain⟨w3,hup,hS3,hK3,hz3⟩:=b5.put v;have a8:=a9.o.1;have e9:w3.heap[w.heap.size]?=some (.cells #[.int .i64 1,.int .i64 v,.string nm,.bool g,.slice p1 n1 q1,.slice p2 n2 q2,.slice a len c] 27):=(hK3.block _ (by rw [hsz];omega) (by omega)).trans hq;have f2:eL base w3 sv a5:=tV c1 fun g hg=>hK3.block g (by have:=(a7 g hg).2;omega) (fun e=>(a6.o g hg).2.2.2 e)
   have e1:Boxes w3 sb ob vb mb sv:=b3.kept (n:=0) hK3 a8.d3 a8.d6 ((hK3.block ob (by omega) a8.d5).trans b3.o);obtain⟨z0,z1,z2,z3,z4,z5,z6⟩:=dZ e9;have yo:=(wC e1.o).1;have b6:=aside6 hS3 hK3 hz3 f4 b0 e1;have c7:=aside e9;have c3:=aC w3 (Obj.cells #[.int .i64 v] 3);have f8:=bY w3 (Obj.cells #[.int .i64 v] 3);have f3:eL base (w3.alloc (Obj.cells #[.int .i64 v] 3)) sv a5:=jF f2 c3 (aA _);have c9:iT (w3.alloc (Obj.cells #[.int .i64 v] 3)) (.slice (some ⟨w3.heap.size,0,none⟩) 1 1) 1 [.int .i64 v]:=.inr ⟨_,_,rfl,fun j u hj=>by
    rw [qH,dH];simp only [World.cell?,f8];simpa using hj⟩
   have b8:a5.length+1≤maxLen∧(a5.length+1)*8≤140737488355328:=by
    have:=c2.o.2.2.2;unfold maxLen;omega
   have f5:base≤(w3.alloc (Obj.cells #[.int .i64 v] 3)).heap.size:=by rw [eX];omega
   have c6:∀u∈ [(.int .i64 v:Value)],u.oneCell'=true:=by simp [Value.oneCell']
   have b2:Aside (∀v5 w5,w5.ownsRow base 3 1 v5 (a5.length+1) (a5.map (Value.int .i64)++ [.int .i64 v])→(w3.alloc (Obj.cells #[.int .i64 v] 3)).grownBy w5 sv.ownBlock→(v5.ownBlock=sv.ownBlock∨v5.ownBlock=some (w3.alloc (Obj.cells #[.int .i64 v] 3)).heap.size)→
     (w5.heap[ob]?=some (.cells #[sv] 40 (0,0)))∧FvQ base w sb ob vb mb sv a0 (w5.setCell ⟨ob,0,none⟩ v5)∧(w5.setCell ⟨ob,0,none⟩ v5).heap[w.heap.size]?=some (.cells #[.int .i64 1,.int .i64 v,.string nm,.bool g,.slice p1 n1 q1,.slice p2 n2 q2,.slice a len c] 27)):=by
    show∀v5 w5,_;intro v5 w5 h1 h2 h3;obtain⟨g1,g2,g3,g4,g5,g6⟩:=b6.o;have i8:(w3.alloc (Obj.cells #[.int .i64 v] 3)).heap.size=w.heap.size+2:=by rw [eX];have:=c0.o.1;omega
    have e8:∀k,sv.ownBlock=some k→k<w.heap.size:=fun k hk=>(a7 k hk).2
    have h4:=c0.o.2;have i0:=(cV.1 g6.s).1;have i1:=(cV.1 g6.f).1;have h9:=(cV.1 g6.o).1;have k1:bL (FvS ob mb sv) w wb:=bL.of_below g5;have k2:bL (FvS ob mb sv) wb w3:=g2.mono fun k _ e=>.inl e
    have k3:bL (FvS ob mb sv) w3 (w3.alloc (Obj.cells #[.int .i64 v] 3)):=bL.of_below c3;have k4:bL (FvS ob mb sv) (w3.alloc (Obj.cells #[.int .i64 v] 3)) w5:=(bL.of_grown h2).mono fun k _ e=>.inr (.inr e)
    have b1:w5.heap[ob]?=some (.cells #[sv] 40 (0,0)):=((h2.block ob (by omega) (fun e=>(a6.o ob e.symm).2.1 rfl)).trans (c3.block ob (by omega))).trans g6.o;have k5:bL (FvS ob mb sv) w5 (w5.setCell ⟨ob,0,none⟩ v5):=⟨rfl,rfl,rfl,by simp,fun k _ hk=>heap_setCell_other _ _ _ _ fun e=>hk (.inr (.inl e))⟩;have f1:=(k3.trans k4 (fun k _ e=>e)).trans k5 (fun k _ e=>e);have b4:Sep v5 sb ob vb mb:=fun k hk=>by
     rcases h3 with h3|h3
     ·exact a6.o k (h3.symm.trans hk)
     ·rw [h3] at hk;have:=bP hk;omega
    have e6:gD (w5.setCell ⟨ob,0,none⟩ v5) mb (fun y=>y∈a5∨y=v):=g1.of_block ((heap_setCell_other _ _ _ _ (fun e=>a8.d5 e.symm)).trans ((h2.block mb (by omega) (fun e=>(a6.o mb e.symm).2.2.2 rfl)).trans (c3.block mb (by omega))));have e3:(w5.setCell ⟨ob,0,none⟩ v5).heap[w.heap.size]?=w3.heap[w.heap.size]?:=f1.block _ (by omega) (fun e=>by
     rcases e with e|e|e
     ·omega
     ·have:=a9.o.2.2;omega
     ·have:=e8 _ e;omega)
    refine⟨b1,⟨v5,g6.kept (n:=0) f1 (fun e=>?_) (fun e=>?_) (one_setCell b1),?_,e6.cong (fun x=>by rw [g4,eY,mP]),(k1.trans k2 (fun k _ e=>e)).trans f1 (fun k _ e=>e),?_,b4⟩,e3.trans c7.o⟩
    ·rcases e with e|e|e
     ·exact a8.d3 e
     ·exact a8.d1 e
     ·exact(a6.o _ e).1 rfl
    ·rcases e with e|e|e
     ·exact a8.d6 e
     ·exact a8.d4 e.symm
     ·exact(a6.o _ e).2.2.1 rfl
    ·unfold eL;rw [g4,aV,pM];exact ownsRow_setCell_other h1 (fun e=>(b4 ob e).2.1 rfl) _
    ·intro k hk;rcases h3 with h3|h3
     ·exact .inl (h3.symm.trans hk)
     ·rw [h3] at hk;have:=bP hk;right;omega
   clear b5 c1 b0 hbv a7 hN hK3 hS3 hz3 e9 f2 f4 b3 e1 a8
   go_upto_region 3 with fail
   have i5:(w3.alloc (Obj.cells #[.int .i64 v] 3)).cell? ⟨ob,0,none⟩=some sv:=(BU (c3.block ob (by have:=b6.o.2.2.1;have:=c0.o.1;have:=a9.o.2.2;omega))).trans yo;clear x0 x1 x2 x3 x4 x5 x6 hup hlk
   go_upto_region 4 with(at_builtin;refine lJ AX _ rfl _ _ rfl base _ _ _ rfl f3 _ _ _ rfl c9 rfl c6 b8.1 b8.2 f5 ?_;intro v5 w5 h5 f6 g0;obtain⟨b1,hL0,hbx5⟩:=b2.o _ _ h5 f6 g0;obtain⟨pa,pc,rfl,hrd⟩:=gZ h5;obtain⟨i4,yf5⟩:=wC b1;clear b2 h5 f6 g0 hrd b1)
   have hL:Aside (FvQ base w sb ob vb mb sv a0 (w5.setCell ⟨ob,0,none⟩ _)):=hL0;clear z0 z1 z2 z3 z4 z5 z6 yo i5 i4 yf5 ys hL0 c9 c6 b8 f5 f3 f8 c3 c7 b6;obtain⟨x0,x1,x2,x3,x4,x5,x6⟩:=dZ hbx5;clear hbx5
 all_goals
  go_wp2
  go_loopw [28] (fun i3 wr=>∃(i:Nat),i3= .int .i64 i∧i≤len∧FvQ base w sb ob vb mb sv (Tm.frL (args.take i) a0) wr) (fun s _=>len-(intOf s).toNat)
  case atStart=>exact⟨0,rfl,cJ _,by simpa [Tm.frL] using hL.o⟩
  case round=>
   clear hL;obtain⟨wo,rfl⟩:=enr wr;obtain⟨i,rfl,hi,hQi⟩:=hrel
   by_cases h0:i<len
   ·obtain⟨v2,hbi,hOi,hSi,hKi,hwi,hni⟩:=hQi;obtain⟨T',b7⟩:=egf Al.o h0;obtain⟨b,off,vs',rfl,hbn,hc,hv⟩:=g8.o.get b7;rw [dH] at hc;have d9:Below n w wo:=(hKi.below (aE f7 g9) (fun k hk=>by
     have:=a9.o.1;rcases hk with hk|hk|hk
     ·have:=this.a4;omega
     ·have:=this.a2;omega
     ·have:=(g7.o k hk).1;omega))
    have e5:=i2.o T' (bV b7);have f0:=aside hv;have c5:Aside (Tm.frL (args.take (i+1)) a0=T'.fr (Tm.frL (args.take i) a0)):=KV b7;have d8:(Tm.frL (args.take i) a0).length+T'.nodes≤1000000:=by
     have h1:=(qX (args.take i) a0).1;have h2:=xJ b7;have h3:Tm.nodesL (args.take (i+1))≤Tm.nodesL args:=nodesL_take_le args (i+1);have:=c2.o.2.1;omega
    obtain⟨c4,hacci⟩:∃x,Tm.frL (args.take i) a0=x:=⟨_,rfl⟩;rw [hacci] at hOi hSi c5 d8;obtain⟨k',v',nm',g',d7,den',args'⟩:=T';simp only [TmV] at hv;obtain⟨_,_,a',c',rfl,⟨⟨r1,u1,rfl,_⟩,⟨r2,u2,rfl,_⟩⟩,_⟩:=hv;obtain⟨m0,m1,m2,m3,m4,m5,m6⟩:=seven (w:=w) (w2:=wo) (fun p hp=>d9.cell (hp▸hbn)) hc;obtain⟨Tt,hTt⟩:∃t,Tm.mk k' v' nm' g' d7 den' args'=t:=⟨_,rfl⟩;rw [hTt] at c5 d8 e5 f0;generalize d7.length=m1',den'.length=m2',args'.length=l' at*;have h8:n≤wo.heap.size:=by have:=hKi.size;omega
    have d0:=aC wo (Obj.cells (tA k' v' nm' g' r1 m1' u1 r2 m2' u2 a' l' c') 27);have h6:=hSi.lt;have e2:=hbi.below d0;have yf:=(wC e2.f).1;have d1:=e5 n base sb ob vb mb (wo.alloc (Obj.cells (tA k' v' nm' g' r1 m1' u1 r2 m2' u2 a' l' c') 27)) _ _ c4 (TmV.below (d9.trans (d0.mono (by omega))) (aA _) _ _ f0.o) f7 a9.o.1 e2 (jF hOi d0 (aA _)) (hSi.of_block (d0.block mb h6)) hni d8;replace d1:Cz 54 #[.agg (tA k' v' nm' g' r1 m1' u1 r2 m2' u2 a' l' c'),.pointer (some ⟨sb,0,none⟩),.pointer (some ⟨ob,0,none⟩),.pointer (some ⟨vb,0,none⟩)] _ _:=d1;have c8:Aside (∀e w6,FvP base (wo.alloc (Obj.cells (tA k' v' nm' g' r1 m1' u1 r2 m2' u2 a' l' c') 27)) sb ob vb mb v2 (Tt.fr c4) e w6→e= .returned (.tuple #[])∧FvQ base w sb ob vb mb sv (Tm.frL (args.take (i+1)) a0) w6):=by
     show∀e w6,_;rintro e w6 ⟨rfl,v6,q0',q1',q2',q3',q4',q5'⟩;have i9:=hKi.size;refine⟨rfl,v6,q0',by rw [c5.o];exact q1',by rw [c5.o];exact q2',?_,?_,q5'⟩
     ·refine hKi.trans ((bL.of_below d0 (S:=FvS ob mb v2)).trans q3' fun k _ e=>e) fun k hk e=>?_
      rcases e with e|e|e
      ·exact .inl e
      ·exact .inr (.inl e)
      ·rcases hwi k e with e|e
       ·exact .inr (.inr e)
       ·omega
     ·intro k hk;rcases q4' k hk with e|e
      ·exact hwi k e
      ·rw [eX] at e;right;omega
    obtain⟨i6,hi3,hw3⟩:=elt (i:=i) (n:=len) (by omega) (by omega);clear hTt hacci hc b7 hOi hSi hKi hwi hni d8 e5 f0 d9 c5 d0 hbi e2
    go_wp2_with (go_at_call 54;with_reducible refine d1.mono ?_)
    intro e w6 hF;obtain⟨rfl,hR6⟩:=c8.o e w6 hF;have e0:Aside _:=hR6;clear hF c8 d1 m0 m1 m2 m3 m4 m5 m6 hR6 yf;go_wp2;go_roundw
    case rel=>exact⟨i+1,by simp,by omega,e0.o⟩
    case measure=>simp [intOf];omega
   ·obtain rfl:i=len:=by omega
    have b2:Aside (Tm.frL (args.take i) a0=R):=by show _=R;rw [←Al.o,kD];exact c2.o.1
    rw [b2.o] at hQi;have hP:Aside (FvP base w sb ob vb mb sv R (.returned (.tuple #[])) wo):=⟨rfl,hQi⟩;clear hQi;go_wp2
    go_end0
    exact hP.o
def VD:∀T:Tm,FvOk T
 | .mk k v nm g num den args=>Lp k v nm g num den args fun T' b7=>VD T'
termination_by T=>SizeOf.sizeOf T
decreasing_by
 simp_wf
 have:=pK b7;omega
def Lw (w:Wo) (o1 o2 o3 o4 o5:Obj):∃w5,w5=((((w.alloc o1).alloc o2).alloc o3).alloc o4).alloc o5∧Bz w w5∧w5.heap[w.heap.size]?=some o1∧w5.heap[w.heap.size+1]?=some o2∧w5.heap[w.heap.size+1+1]?=some o3∧w5.heap[w.heap.size+1+1+1]?=some o4∧w5.heap[w.heap.size+1+1+1+1]?=some o5∧w5.heap.size=w.heap.size+5:=by
 refine⟨_,rfl,?_,?_⟩
 ·have b1:=aC w o1;have b2:=b1.alloc b1.size o2;have b3:=b2.alloc b2.size o3;have b4:=b3.alloc b3.size o4;exact b4.alloc b4.size o5
 ·have e:(((((w.alloc o1).alloc o2).alloc o3).alloc o4).alloc o5).heap=((((w.heap.push o1).push o2).push o3).push o4).push o5:=rfl;rw [e];refine⟨?_,?_,?_,?_,?_,by simp⟩
  ·rw [lI,if_neg (by simp<;>omega),lI,if_neg (by simp<;>omega),lI,if_neg (by simp<;>omega),lI,if_neg (by simp),lI,if_pos rfl]
  ·rw [lI,if_neg (by simp<;>omega),lI,if_neg (by simp<;>omega),lI,if_neg (by simp),lI,if_pos (by simp)]
  ·rw [lI,if_neg (by simp<;>omega),lI,if_neg (by simp),lI,if_pos (by simp)]
  ·rw [lI,if_neg (by simp),lI,if_pos (by simp)]
  ·rw [lI,if_pos (by simp)]
def Cw (w:Wo) (a:Addr) (v u:Value) (hv:v.oneCell'=true) (hc:w.cell? a=some u) (hf:w.frozen? a=false):(store a v).run Tryz.prog w= .ok () (w.setCell a v):=by
 rw [run_store _ _ _ _ _ hv,hc];simp [hf]
def JD (T:Tm) (n:Nat) (w:Wo) (vs:Lv) (h:TmV n w T vs) (hn:n≤w.heap.size) (hN:T.nodes≤1000000):
  Cz 25 #[.agg vs.toArray] w (FreeP w T.free):=by
 have h0:=h;have hF:=VD T;obtain⟨R,hR⟩:=enm T.free;rw [hR];obtain⟨k,v,nm,g,num,den,args⟩:=T;simp only [TmV] at h;obtain⟨_,_,a,c,rfl,⟨⟨p1,q1,rfl,_⟩,⟨p2,q2,rfl,_⟩⟩,_⟩:=h;obtain⟨Tt,hTt⟩:∃t,Tm.mk k v nm g num den args=t:=⟨_,rfl⟩;rw [hTt] at hF hR h0 hN;generalize args.length=l0,num.length=l1,den.length=l2 at*;obtain⟨w5,hw5,hB5,e1,e2,e3,e4,e5,hs5⟩:=Lw w (Obj.cells (tA k v nm g p1 l1 q1 p2 l2 q2 a l0 c) 27) (.cells #[.slice none 0 0] 40) (.map #[] 0) (.cells #[.map (some (w.heap.size+1+1))] 87) (.cells #[.func (.func 54) #[] #[.pointer (some ⟨w.heap.size+1+1+1,0,none⟩),.pointer (some ⟨w.heap.size+1,0,none⟩),.pointer (some ⟨w.heap.size+1+1+1+1,0,none⟩)]] 88);have hS:gD w5 (w.heap.size+1+1) (· ∈([]:List Int)):=⟨[],⟨#[],0,e3,⟨trivial,by simp,by simp,by simp⟩⟩,by simp,by simp⟩;have a1:Apart w.heap.size (w.heap.size+1+1+1) (w.heap.size+1) (w.heap.size+1+1+1+1) (w.heap.size+1+1):=⟨by omega,by omega,by omega,by omega,by omega,by omega,by omega,by omega,by omega,by omega⟩;have d1:=hF n w.heap.size (w.heap.size+1+1+1) (w.heap.size+1) (w.heap.size+1+1+1+1) (w.heap.size+1+1) w5 _ (.slice none 0 0) [] (TmV.below hB5 hn _ _ h0) hn a1 ⟨e4,e2,e5⟩ (qD _ _ _ _) hS (fun k hk=>by simp [Value.ownBlock] at hk) (by simpa using hN);replace d1:Cz 54 #[.agg (tA k v nm g p1 l1 q1 p2 l2 q2 a l0 c),.pointer (some ⟨w.heap.size+1+1+1,0,none⟩),.pointer (some ⟨w.heap.size+1,0,none⟩),.pointer (some ⟨w.heap.size+1+1+1+1,0,none⟩)] w5 _:=d1;have hP:Aside (∀e w',FvP w.heap.size w5 (w.heap.size+1+1+1) (w.heap.size+1) (w.heap.size+1+1+1+1) (w.heap.size+1+1) (.slice none 0 0) (Tt.fr []) e w'→e= .returned (.tuple #[])∧∃v',w'.cell? ⟨w.heap.size+1,0,none⟩=some v'∧FreeP w R (.returned v') w'):=by
  show∀e w',_;rintro e w' ⟨rfl,v',q0',q1',q2',q3',q4',q5'⟩;refine⟨rfl,v',(wC q0'.o).1,v',rfl,by rw [←hR];exact q1',hB5.trans (q3'.below hB5.size ?_)⟩;intro k hk;rcases hk with hk|hk|hk
  ·omega
  ·omega
  ·simp [Value.ownBlock] at hk
 have a3:∀w:Wo,(Instr.makeMap 87 none).run Tryz.prog w= .ok (.map (some w.heap.size)) (w.alloc (.map #[] 0)):=fun w=>rfl
 obtain⟨x0,x1,x2,x3,x4,x5,x6⟩:=dZ e1;have y5:=(wC e5).1;have a0:Aside (w5=_):=hw5;have a2:(store ⟨w.heap.size+1+1+1+1,0,none⟩ (.func (.func 54) #[] #[.pointer (some ⟨w.heap.size+1+1+1,0,none⟩),.pointer (some ⟨w.heap.size+1,0,none⟩),.pointer (some ⟨w.heap.size+1+1+1+1,0,none⟩)])).run Tryz.prog (((((w.alloc (Obj.cells (tA k v nm g p1 l1 q1 p2 l2 q2 a l0 c) 27)).alloc (Obj.cells #[.slice none 0 0] 40)).alloc (Obj.map #[] 0)).alloc (Obj.cells #[.map (some (w.heap.size+1+1))] 87)).alloc (Obj.cells #[.nilFunc] 88))= .ok () w5:=by
  have hb:=bY ((((w.alloc (Obj.cells (tA k v nm g p1 l1 q1 p2 l2 q2 a l0 c) 27)).alloc (Obj.cells #[.slice none 0 0] 40)).alloc (Obj.map #[] 0)).alloc (Obj.cells #[.map (some (w.heap.size+1+1))] 87)) (Obj.cells #[.nilFunc] 88);simp only [eX] at hb;obtain⟨bc,bf⟩:=wC hb;rw [Cw _ _ _ .nilFunc rfl bc bf,hw5];rw [World.setCell_alloc_at _ _ _ _ _ (by simp [eX])];rfl
 clear h0 hF hR hS a1 hN hTt e1 e2 e3 e4 e5 hs5 hB5 hw5;generalize Tm.fr Tt []=L at*;show Cz 25 #[.agg (tA k v nm g p1 l1 q1 p2 l2 q2 a l0 c)] w _;go_enter Tryz.func25,Tryz.ntmps25
 go_upto_region 5 with fail
 clear a2
 go_wp2_with (go_at_call 54;with_reducible refine d1.mono ?_)
 intro e w6 hr;obtain⟨rfl,v',hcv,hfp⟩:=hP.o e w6 hr;have hA:Aside _:=hfp;clear hr hfp d1 hP a0 x0 x1 x2 x3 x4 x5 x6 y5;go_wp2
 go_ret
 exact hA.o
section
attribute [local go_sem] Heavy.uponW
def NumAt.up {n m:Nat} {w:Wo} {neg:Bool} {s1 s2:Value} {A C:List Nat} (h:NumAt n w neg s1 s2 A C) (hm:n≤m):NumAt m w neg s1 s2 A C:=by
 obtain⟨⟨a,c,e1,h1⟩,⟨a',c',e2,h2⟩⟩:=h;refine⟨⟨a,c,e1,h1.1,fun h=>?_⟩,⟨a',c',e2,h2.1,fun h=>?_⟩⟩
 ·obtain⟨b,off,e,hb,hc⟩:=h1.2 h;exact⟨b,off,e,by omega,hc⟩
 ·obtain⟨b,off,e,hb,hc⟩:=h2.2 h;exact⟨b,off,e,by omega,hc⟩
mutual
theorem TmV.up {n m:Nat} {w:Wo} (hm:n≤m):∀(T:Tm) (vs:Lv),TmV n w T vs→TmV m w T vs
 | .mk k v nm g num den args,vs,h=>by
  simp only [TmV] at h ⊢;obtain⟨s1,s2,a,c,e,h1,h2,h3⟩:=h;exact⟨s1,s2,a,c,e,h1.up hm,eV.up hm args a 0 h2,h3⟩
theorem eV.up {n m:Nat} {w:Wo} (hm:n≤m):∀(L:List Tm) (a:Option Addr) (i:Nat),eV n w L a i→eV m w L a i
 | [],_,_,_=>by simp only [eV]
 |T::r,a,i,h=>by
  simp only [eV] at h ⊢;obtain⟨⟨b,off,vs,e,hbn,hc,hv⟩,hr⟩:=h;exact⟨⟨b,off,vs,e,by omega,hc,TmV.up hm T vs hv⟩,eV.up hm r a (i+1) hr⟩
end
structure Cl where
 h:Tm
 b:Tm
 vars:Int
def Ol (vh vb:Lv) (v:Int):Lv:=vh++vb++ [.int .i64 v]
def ClV (n:Nat) (w:Wo) (C:Cl) (vs:Lv):Prop:=∃vh vb,vs=Ol vh vb C.vars∧TmV n w C.h vh∧TmV n w C.b vb
def ClV.below {n m:Nat} {w w':Wo} (hb:Below m w w') (hm:n≤m) {C:Cl} {vs:Lv} (h:ClV n w C vs):ClV n w' C vs:=by
 obtain⟨vh,vb,e,h1,h2⟩:=h;exact⟨vh,vb,e,TmV.below hb hm _ _ h1,TmV.below hb hm _ _ h2⟩
def Cl.fr (C:Cl):List Int:=Tm.frL [C.h,C.b] []
def Cl.num (C:Cl):Prop:=(∀(j:Nat) x,C.fr[j]?=some x→x=j)∧(C.fr.length:Int)=C.vars
def jK {w:Wo} {g:Nat} {v0 v1 v2 v3 v4 v5 v6 v7 v8 v9 a0 a1 a2 a3 a4:Value} {e:TypeId} {fr:Nat × Nat} (h:w.heap[g]?=some (.cells #[v0,v1,v2,v3,v4,v5,v6,v7,v8,v9,a0,a1,a2,a3,a4] e fr)):
  w.cell? ⟨g,0,none⟩=some v0∧w.cell? ⟨g,1,none⟩=some v1∧w.cell? ⟨g,2,none⟩=some v2∧w.cell? ⟨g,3,none⟩=some v3∧w.cell? ⟨g,4,none⟩=some v4∧w.cell? ⟨g,5,none⟩=some v5∧w.cell? ⟨g,6,none⟩=some v6∧w.cell? ⟨g,7,none⟩=some v7∧w.cell? ⟨g,8,none⟩=some v8∧w.cell? ⟨g,9,none⟩=some v9∧w.cell? ⟨g,10,none⟩=some a0∧w.cell? ⟨g,11,none⟩=some a1∧w.cell? ⟨g,12,none⟩=some a2∧w.cell? ⟨g,13,none⟩=some a3∧w.cell? ⟨g,14,none⟩=some a4:=by
 simp [World.cell?,h]
def Cm (s:ByteArray) (a:Option Addr) (len c:Nat) (hl:0<len) (w:Wo):
  Cz 26 #[.string s,.slice a len c] w fun e w'=>e= .returned (.agg #[.int .i64 5,.int .i64 0,.string s,.bool false,.slice none 0 0,.slice none 0 0,.slice a len c])∧Bz w w':=by
 have a5:((len:Int)==0)=false:=by simp;omega
 go_enter Tryz.func26,Tryz.ntmps26;go_wp2;refine rN (sV rfl _ _ w.heap.size 27 _ _ _ rfl (bY _ _) Tryz.underlying27 rfl (by kernel_rfl)) rfl ?_;exact⟨rfl,aC _ _⟩
def Oa {n:Nat} {w w':Wo} {h b:Tm} {s:ByteArray} (hn:n≤w.heap.size) {vh vb:Lv} (h1:TmV n w h vh) (h2:TmV n w b vb) (hb:Bz w w') (hq:w'.heap[w.heap.size]?=some (.cells (vh++vb).toArray 27)):
  TmV (w.heap.size+1) w' (.mk 5 0 s false [] [] [h,b]) [.int .i64 5,.int .i64 0,.string s,.bool false,.slice none 0 0,.slice none 0 0,.slice (some ⟨w.heap.size,0,none⟩) 2 2]:=by
 have l1:=h1.len;have l2:=h2.len;have g1:=TmV.up (show n≤w.heap.size+1 by omega) _ _ (TmV.below hb hn _ _ h1);have g2:=TmV.up (show n≤w.heap.size+1 by omega) _ _ (TmV.below hb hn _ _ h2);simp only [TmV];refine⟨.slice none 0 0,.slice none 0 0,_,2,rfl,⟨⟨none,0,rfl,by simp,fun h=>absurd rfl h⟩,⟨none,0,rfl,by simp,fun h=>absurd rfl h⟩⟩,?_,by simp,by decide,by decide⟩;simp only [eV];refine⟨⟨_,_,vh,rfl,by omega,fun j u hj=>?_,g1⟩,⟨_,_,vb,rfl,by omega,fun j u hj=>?_,g2⟩,trivial⟩
 ·have:=(aZ.1 hj).1;simp only [World.cell?,hq];simp [gM this,hj]
 ·have:=(aZ.1 hj).1;simp only [World.cell?,hq];simp [iE (show vh.length≤7+j by omega),l1,hj]
def Ny (s:ByteArray) (h b:Tm):Tm.nodes (.mk 5 0 s false [] [] [h,b])=1+(h.nodes+b.nodes):=by simp [Tm.nodes,Tm.nodesL]
def Nz (s:ByteArray) (h b:Tm):Tm.free (.mk 5 0 s false [] [] [h,b])=Tm.frL [h,b] []:=by simp [Tm.free,Tm.fr]
end
