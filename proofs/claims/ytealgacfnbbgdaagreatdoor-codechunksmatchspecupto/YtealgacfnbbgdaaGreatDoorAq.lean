/- Lemmas; no condition. -/
import Derived.Test.YtealgacfnbbgdaaGreatDoorAp
set_option linter.all false
set_option maxHeartbeats 4000000
set_option maxRecDepth 100000
namespace Go.Proofs.YtealgacfnbbgdaaGreatDoor
open Go.RowKit Go.Big Go.RowsK Go.MapK
variable {L a0:List Int} {v:Value} {w w2:Wo} {base n g i:Nat} {x k:Int} {X vs:Lv}
section
attribute [local go_sem] Heavy.uponW
def GlsP (n base:Nat) (w:Wo) (v0:Value) (R:List Tm) (e:Ending) (w':Wo):Prop:=
 ∃v,e= .returned v∧OutT n base w' v R∧bL (fun k=>v0.ownBlock=some k) w w'∧∀k,v.ownBlock=some k→v0.ownBlock=some k∨w.heap.size≤k
def GlsOk (T:Tm):Prop:=∀(n base:Nat) (w:Wo) (vs:Lv) (v:Value) (L:List Tm),TmV n w T vs→n≤base→base≤w.heap.size→OutT n base w v L→L.length+T.nodes≤1000000→
 Cz 78 #[.agg vs.toArray,v] w (GlsP n base w v (L++T.gls))
def OutT.push {w5:Wo} {v v5:Value} {L:List Tm} {T:Tm} (hT:TsX n w L X) (hv:TmV n w T vs) (h5:w5.ownsRow base 27 7 v5 (L.length+1) (X++vs)) (hb:Below n w w5):OutT n base w5 v5 (L++ [T]):=by
 refine⟨X++vs,by rw [aV];exact h5,?_⟩;have:TsX n w [T] vs:=by simp only [TsX];exact⟨vs,[],by simp,hv,rfl⟩
 exact(TsX.app hT this).below hb (aA _)
def JK (h:w2.heap[g]?=some (.cells vs.toArray 27)):iT w2 (.slice (some ⟨g,0,none⟩) 1 1) 1 vs:=.inr ⟨_,_,rfl,fun j u hj=>by
 rw [qH,dH];simp only [World.cell?,h];simpa using hj⟩
def OutT.lt {L:List Tm} (h:OutT n base w v L):∀k,v.ownBlock=some k→base≤k∧k<w.heap.size:=by
 obtain⟨X,hX,_⟩:=h;exact fun k hk=>lX hX k hk
def SM (L:List Tm) (i:Nat) {T:Tm} (h:L[i]?=some T):(Tm.glsL (L.take i)).length+T.nodes≤Tm.nodesL L:=by
 have e:L=L.take i++T::L.drop (i+1):=by
  obtain⟨hi,rfl⟩:=aZ.1 h;rw [←qF hi,rS]
 have h1:∀A B:List Tm,Tm.nodesL (A++B)=Tm.nodesL A+Tm.nodesL B:=fun A B=>by
  induction A with
  |nil=>simp [Tm.nodesL]
  |cons a r ih=>simp only [mF,Tm.nodesL,ih];omega
 have h2:=KQ (L.take i);have h3:Tm.nodesL L=Tm.nodesL (L.take i)+(T.nodes+Tm.nodesL (L.drop (i+1))):=by
  conv=>lhs;rw [e]
  rw [h1];rfl
 omega
def Lg (k v:Int) (nm:ByteArray) (g:Bool) (num den:List Nat) (args:List Tm) (ih:∀T'∈args,GlsOk T'):GlsOk (.mk k v nm g num den args):=by
 intro n base w vs sv L h c0 b8 hO hN;have c8:=aside ih;have h0:=h;simp only [TmV] at h;obtain⟨_,_,a,c,rfl,⟨⟨p1,q1,rfl,_⟩,⟨p2,q2,rfl,_⟩⟩,hT,hbig,_⟩:=h;have b6:Aside (TmV n w (.mk k v nm g num den args) _):=h0;simp only [Tm.gls,Tm.nodes] at hN ⊢;generalize c6:num.length=n1 at*;generalize c7:den.length=n2 at*;obtain⟨len,hl⟩:=enm args.length;rw [hl] at hbig b6 ⊢;have Al:=aside2 hl hN;have c4:=aside hT;obtain⟨wb,hwb,b0,hq,hsz⟩:=ebx w (Obj.cells (tA k v nm g p1 n1 q1 p2 n2 q2 a len c) 27);have fa:Aside (∀w2,Bz wb w2→_):=fun(w2:Wo) (hb:Bz wb w2)=>dZ ((hb.block w.heap.size (by omega)).trans hq)
 have a0:=aside4 b0 hsz c0 b8;have a4:=aside hO;obtain⟨B,hB⟩:∃b,jS k nm.toList len=b:=⟨_,rfl⟩;have d1:Aside (∀w2,Cz 43 #[.agg (tA k v nm g p1 n1 q1 p2 n2 q2 a len c)] w2 fun e w'=>e= .returned (.bool B)∧Bz w2 w'):=fun w2=>by rw [←hB];exact WJ k v nm g _ _ a len c w2
 rw [hB];obtain⟨x0,x1,x2,x3,x4,x5,x6⟩:=fa.o wb (aK _ _);clear hT hl hO hB h0 c6 c7 hN ih b0 hq c0 b8;show Cz 78 #[.agg (tA k v nm g p1 n1 q1 p2 n2 q2 a len c),sv] w _;go_enter Tryz.func78,Tryz.ntmps78
 go_upto_region 1 with fail
 clear hwb hsz;cases B
 case false=>
  go_upto_region 2 with(go_at_call 43;(with_reducible refine(d1.o _).mono ?_);rintro e w2 ⟨rfl,hb2⟩)
  have b2:Bz w w2:=a0.o.1.trans (hb2.mono a0.o.1.size);clear x0 x1 x2 x3 x4 x5 x6;obtain⟨x0,x1,x2,x3,x4,x5,x6⟩:=fa.o w2 hb2;have bx:=aC w2 (Obj.cells (tA k v nm g p1 n1 q1 p2 n2 q2 a len c) 27);have b3:=bY w2 (Obj.cells (tA k v nm g p1 n1 q1 p2 n2 q2 a len c) 27);have bX:=b2.trans (bx.mono b2.size);obtain⟨wx,hwx⟩:=enm (w2.alloc (Obj.cells (tA k v nm g p1 n1 q1 p2 n2 q2 a len c) 27));rw [hwx] at bx b3 bX;have b5:=aside bX;obtain⟨X4,hX4,hT4⟩:=a4.o.below bX (aE a0.o.2.2.1 a0.o.2.2.2) (aA _);have src:Aside (iT wx (.slice (some ⟨w2.heap.size,0,none⟩) 1 1) 1 [.int .i64 k,.int .i64 v,.string nm,.bool g,.slice p1 n1 q1,.slice p2 n2 q2,.slice a len c]):=JK b3;have c3:Aside (TmV n wx (.mk k v nm g num den args) [.int .i64 k,.int .i64 v,.string nm,.bool g,.slice p1 n1 q1,.slice p2 n2 q2,.slice a len c]):=TmV.below bX (aE a0.o.2.2.1 a0.o.2.2.2) _ _ b6.o;have b7:=aside2 hX4 hT4;have a3:Aside (L.length+1≤maxLen∧(L.length+1)*112≤140737488355328∧base≤wx.heap.size):=⟨by have:=Al.o.2;unfold maxLen;omega,by have:=Al.o.2;omega,by have:=a0.o.2.2.2;have:=bX.size;omega⟩;clear hX4 hT4 bX bx b3 b2;refine rM ?_
  iterate 3 (refine iD rfl fun K hK=>?_;go_simp;refine hK _ _ ?_;clear hK)
  try rw [hwx]
  refine lJ xW _ rfl _ _ rfl base sv L.length X4 rfl b7.o.1 (.slice (some ⟨w2.heap.size,0,none⟩) 1 1) 1 _ rfl src.o rfl c3.o.one a3.o.1 a3.o.2.1 a3.o.2.2 ?_;intro v5 w5 h5 a8 c1;have q5:Aside (OutT n base w5 v5 (L++ [.mk k v nm g num den args])):=OutT.push (v:=sv) b7.o.2 c3.o h5 ((aK n _).grown a8 (by have:=a0.o.2.2;have:=a3.o.2.2;omega) (fun k hk=>by have:=(a4.o.lt k hk).1;have:=a0.o.2.2;omega));have kx:bL (fun k=>sv.ownBlock=some k) w w5:=(bL.of_below (S:=fun k=>sv.ownBlock=some k) b5.o).trans (bL.of_grown a8) fun k _ h=>h
  have R5:Aside (GlsP n base w sv (L++ [.mk k v nm g num den args]) (.returned v5) w5):=⟨v5,rfl,q5.o,kx,fun k hk=>by
   rcases c1 with e|e
   ·exact .inl (e▸hk)
   ·rw [e] at hk;injection hk with hk;right;have:=b5.o.size;omega⟩
  clear h5 a8 c1 kx x0 x1 x2 x3 x4 x5 x6
  iterate 1 (refine iD rfl fun K hK=>?_;go_simp;refine hK _ _ ?_;clear hK)
  go_wp2
  go_ret
  exact R5.o
 go_upto_region 3 with(go_at_call 43;(with_reducible refine(d1.o _).mono ?_);rintro e w2 ⟨rfl,hb2⟩)
 clear x0 x1 x2 x3 x4 x5 x6;obtain⟨x0,x1,x2,x3,x4,x5,x6⟩:=fa.o w2 hb2;have b4:Aside (Bz w w2):=a0.o.1.trans (hb2.mono a0.o.1.size);have O2A:Aside (OutT n base w2 sv L):=a4.o.below b4.o (aE a0.o.2.2.1 a0.o.2.2.2) (aA _);clear hb2
 go_upto_region 4 with fail
 clear x0 x1 x2 x3 x4 x5 x6
 go_loopw [1,17] (fun s1 c9 wr=>∃(i:Nat) (v2:Value),v2=s1∧c9= .int .i64 i∧i≤len∧OutT n base wr v2 (L++Tm.glsL (args.take i))∧bL (fun k=>sv.ownBlock=some k) w wr∧(∀k,v2.ownBlock=some k→sv.ownBlock=some k∨w.heap.size≤k)) (fun _ s _=>len-(RowKit.intOf s).toNat)
 case atStart=>exact⟨0,_,rfl,rfl,cJ _,by simpa [Tm.glsL] using O2A.o,bL.of_below b4.o,fun k hk=>.inl hk⟩
 case round=>
  obtain⟨wo,rfl⟩:=enr wr;obtain⟨i,v2,rfl,rfl,hi,hOi,hKi,hwi⟩:=hrel
  by_cases c5:i<len
  case neg=>
   obtain rfl:i=len:=by omega
   have hP:Aside (GlsP n base w sv (L++Tm.glsL args) (.returned v2) wo):=⟨v2,rfl,by rw [←Al.o.1,kD] at hOi;exact hOi,hKi,hwi⟩;clear hOi hKi hwi;go_wp2
   go_ret
   exact hP.o
  obtain⟨T',a1⟩:=egf Al.o.1 c5;obtain⟨b,off,vs',rfl,hbn,hc,hv⟩:=c4.o.get a1;rw [dH] at hc;have a6:Below n w wo:=hKi.below (aE a0.o.2.2.1 a0.o.2.2.2) fun k hk=>by have:=(a4.o.lt k hk).1;have:=a0.o.2.2.1;omega
  have b9:=c8.o T' (bV a1);have c2:=aside hv;have b1:Aside (L++Tm.glsL (args.take (i+1))=(L++Tm.glsL (args.take i))++T'.gls):=by show _=_;rw [US a1,iP]
  have a9:(L++Tm.glsL (args.take i)).length+T'.nodes≤1000000:=by
   rw [aV];have:=SM args i a1;have:=Al.o.2;omega
  obtain⟨Li,hLi⟩:∃x,L++Tm.glsL (args.take i)=x:=⟨_,rfl⟩;rw [hLi] at hOi b1 a9;obtain⟨k',v',nm',g',r1,m1',u1,r2,m2',u2,a',l',c',rfl⟩:=TmV.seven hv;obtain⟨m0,m1,m2,m3,m4,m5,m6⟩:=seven (w:=w) (w2:=wo) (fun p hp=>a6.cell (hp▸hbn)) hc;have d0:=aC wo (Obj.cells (tA k' v' nm' g' r1 m1' u1 r2 m2' u2 a' l' c') 27);have a5:Aside (w.heap.size≤wo.heap.size∧base≤wo.heap.size):=⟨hKi.size,by have:=hKi.size;have:=a0.o.2.2.2;omega⟩;have d2:=b9 n base (wo.alloc (Obj.cells (tA k' v' nm' g' r1 m1' u1 r2 m2' u2 a' l' c') 27)) _ _ Li (TmV.below (a6.trans (d0.mono (by have:=a5.o.2;have:=a0.o.2.2.1;omega))) (aA _) _ _ c2.o) a0.o.2.2.1 (by rw [eX];have:=a5.o.2;omega) (hOi.below d0 (by have:=a5.o.2;have:=a0.o.2.2.1;omega) (aA _)) a9;replace d2:Cz 78 #[.agg (tA k' v' nm' g' r1 m1' u1 r2 m2' u2 a' l' c'),v2] _ _:=d2;have a2:Aside (∀e w6,GlsP n base (wo.alloc (Obj.cells (tA k' v' nm' g' r1 m1' u1 r2 m2' u2 a' l' c') 27)) v2 (Li++T'.gls) e w6→∃v6,e= .returned v6∧OutT n base w6 v6 (L++Tm.glsL (args.take (i+1)))∧bL (fun k=>sv.ownBlock=some k) w w6∧(∀k,v6.ownBlock=some k→sv.ownBlock=some k∨w.heap.size≤k)):=by
   show∀e w6,_;rintro e w6 ⟨v6,rfl,q1',q3',q4'⟩;refine⟨v6,rfl,by rw [b1.o];exact q1',?_,?_⟩
   ·refine hKi.trans ((bL.of_below d0 (S:=fun k=>v2.ownBlock=some k)).trans q3' fun k _ e=>e) fun k hk e=>?_
    rcases hwi k e with e|e
    ·exact e
    ·omega
   ·intro k hk;rcases q4' k hk with e|e
    ·exact hwi k e
    ·rw [eX] at e;have:=a5.o.1;right;omega
  obtain⟨d3,hi3,hw3⟩:=elt (i:=i) (n:=len) (by omega) (by omega);clear hLi hc a1 hOi hKi hwi a9 b9 c2 hv a6 b1 d0
  go_wp2_with (go_at_call 78;with_reducible refine d2.mono ?_)
  intro e w6 hF;obtain⟨v6,rfl,hR6⟩:=a2.o e w6 hF;have a7:Aside _:=hR6;clear hF a2 d2 m0 m1 m2 m3 m4 m5 m6 hR6;go_wp2;go_roundw
  case rel=>exact⟨i+1,_,rfl,by simp,by omega,a7.o⟩
  case measure=>simp [RowKit.intOf];omega
def KO:∀T:Tm,GlsOk T
 | .mk k v nm g num den args=>Lg k v nm g num den args fun T' a1=>KO T'
termination_by T=>SizeOf.sizeOf T
decreasing_by
 simp_wf
 have:=pK a1;omega
end
section
attribute [local go_sem] Heavy.uponW
def RGlsP (n:Nat) (w:Wo) (R:List Tm) (e:Ending) (w':Wo):Prop:=∃v,e= .returned v∧OutT n w.heap.size w' v R∧Bz w w'
def RGlsOk (T:Tm):Prop:=∀(n:Nat) (w:Wo) (vs:Lv),TmV n w T vs→n≤w.heap.size→T.nodes≤1000000→Cz 48 #[.agg vs.toArray] w (RGlsP n w T.gls)
def Gb (k v:Int) (nm:ByteArray) (g:Bool) (num den:List Nat) (args:List Tm) (ih:∀T'∈args,RGlsOk T'):RGlsOk (.mk k v nm g num den args):=by
 intro n w vs h b6 hN;have c8:=aside ih;have h0:=h;simp only [TmV] at h;obtain⟨_,_,a,c,rfl,⟨⟨p1,q1,rfl,_⟩,⟨p2,q2,rfl,_⟩⟩,hT,hbig,_⟩:=h;have b4:Aside (TmV n w (.mk k v nm g num den args) _):=h0;simp only [Tm.gls,Tm.nodes] at hN ⊢;generalize c5:num.length=n1 at*;generalize c6:den.length=n2 at*;obtain⟨len,hl⟩:=enm args.length;rw [hl] at hbig b4 ⊢;have Al:=aside2 hl hN;have c3:=aside hT;obtain⟨wb,hwb,b0,hq,hsz⟩:=ebx w (Obj.cells (tA k v nm g p1 n1 q1 p2 n2 q2 a len c) 27);have fa:Aside (∀w2,Bz wb w2→_):=fun(w2:Wo) (hb:Bz wb w2)=>dZ ((hb.block w.heap.size (by omega)).trans hq)
 have a0:=aside3 b0 hsz b6;obtain⟨B,hB⟩:∃b,jS k nm.toList len=b:=⟨_,rfl⟩;have d1:Aside (∀w2,Cz 47 #[.agg (tA k v nm g p1 n1 q1 p2 n2 q2 a len c)] w2 fun e w'=>e= .returned (.bool B)∧Bz w2 w'):=fun w2=>by rw [←hB];exact IT k v nm g _ _ a len c w2
 rw [hB];obtain⟨x0,x1,x2,x3,x4,x5,x6⟩:=fa.o wb (aK _ _);clear hT hl hB h0 c5 c6 hN ih b0 hq b6;show Cz 48 #[.agg (tA k v nm g p1 n1 q1 p2 n2 q2 a len c)] w _;go_enter Tryz.func48,Tryz.ntmps48
 go_upto_region 1 with fail
 clear hwb hsz;cases B
 case false=>
  go_upto_region 2 with(go_at_call 47;(with_reducible refine(d1.o _).mono ?_);rintro e w2 ⟨rfl,hb2⟩)
  have b2:Bz w w2:=a0.o.1.trans (hb2.mono a0.o.1.size);clear x0 x1 x2 x3 x4 x5 x6;obtain⟨x0,x1,x2,x3,x4,x5,x6⟩:=fa.o w2 hb2;have bx:=aC w2 (Obj.cells (tA k v nm g p1 n1 q1 p2 n2 q2 a len c) 27);have b9:=bY w2 (Obj.cells (tA k v nm g p1 n1 q1 p2 n2 q2 a len c) 27);have bX:=b2.trans (bx.mono b2.size);have c1:=TmV.below bX a0.o.2.2 _ _ b4.o;have R5:Aside (RGlsP n w [.mk k v nm g num den args] (.returned (.slice (some ⟨w2.heap.size,0,none⟩) 1 1)) (w2.alloc (Obj.cells (tA k v nm g p1 n1 q1 p2 n2 q2 a len c) 27))):=by
   refine⟨_,rfl,⟨[.int .i64 k,.int .i64 v,.string nm,.bool g,.slice p1 n1 q1,.slice p2 n2 q2,.slice a len c],⟨rfl,.inr ⟨_,_,_,rfl,b2.size,b9,aA _,by unfold maxLen;omega,rfl,rfl⟩⟩,?_⟩,bX⟩;simp only [TsX];exact⟨_,[],by simp,c1,rfl⟩
  clear bx b9 bX c1 b2 hb2;go_wp2
  go_ret
  exact R5.o
 go_upto_region 3 with(go_at_call 47;(with_reducible refine(d1.o _).mono ?_);rintro e w2 ⟨rfl,hb2⟩)
 clear x0 x1 x2 x3 x4 x5 x6;obtain⟨x0,x1,x2,x3,x4,x5,x6⟩:=fa.o w2 hb2;have c2:Aside (Bz w w2):=a0.o.1.trans (hb2.mono a0.o.1.size);clear hb2
 go_upto_region 5 with fail
 clear x0 x1 x2 x3 x4 x5 x6
 go_loopw [3,14] (fun s1 c9 wr=>∃(i:Nat) (v2:Value),v2=s1∧c9= .int .i64 i∧i≤len∧OutT n w.heap.size wr v2 (Tm.glsL (args.take i))∧Bz w wr) (fun _ s _=>len-(RowKit.intOf s).toNat)
 case atStart=>exact⟨0,_,rfl,rfl,cJ _,OutT.nil _ _ _,c2.o⟩
 case round=>
  obtain⟨wo,rfl⟩:=enr wr;obtain⟨i,v2,rfl,rfl,hi,hOi,hBi⟩:=hrel
  by_cases c4:i<len
  case neg=>
   obtain rfl:i=len:=by omega
   have hP:Aside (RGlsP n w (Tm.glsL args) (.returned v2) wo):=⟨v2,rfl,by rw [←Al.o.1,kD] at hOi;exact hOi,hBi⟩;clear hOi hBi;go_wp2
   go_ret
   exact hP.o
  obtain⟨T',a1⟩:=egf Al.o.1 c4;obtain⟨b,off,vs',rfl,hbn,hc,hv⟩:=c3.o.get a1;rw [dH] at hc;have b5:=c8.o T' (bV a1);have c0:=aside hv;have b7:Aside (Tm.glsL (args.take (i+1))=Tm.glsL (args.take i)++T'.gls):=US a1;have a6:Aside ((Tm.glsL (args.take i)).length+T'.nodes≤1000000∧T'.gls.length≤T'.nodes):=⟨by have:=SM args i a1;have:=Al.o.2;omega,uJ T'⟩;obtain⟨Li,hLi⟩:∃x,Tm.glsL (args.take i)=x:=⟨_,rfl⟩;rw [hLi] at hOi b7 a6;obtain⟨k',v',nm',g',r1,m1',u1,r2,m2',u2,a',l',c',rfl⟩:=TmV.seven hv;obtain⟨m0,m1,m2,m3,m4,m5,m6⟩:=seven (w:=w) (w2:=wo) (fun p hp=>hBi.cell (hp▸(eE hbn a0.o.2.2))) hc;have d0:=aC wo (Obj.cells (tA k' v' nm' g' r1 m1' u1 r2 m2' u2 a' l' c') 27);have a3:=hBi.trans (d0.mono hBi.size);have a9:=hOi.below d0 (aE a0.o.2.2 hBi.size) (aA _);obtain⟨w4,hw4⟩:∃x,wo.alloc (Obj.cells (tA k' v' nm' g' r1 m1' u1 r2 m2' u2 a' l' c') 27)=x:=⟨_,rfl⟩;rw [hw4] at a3 a9;have b8:w4.heap[wo.heap.size]?=some (.cells (tA k' v' nm' g' r1 m1' u1 r2 m2' u2 a' l' c') 27):=by rw [←hw4];exact bY _ _
  have a7:=aside2 a9 a3;have d2:=b5 n w4 _ (TmV.below a3 a0.o.2.2 _ _ c0.o) (aE a0.o.2.2 a3.size) (by have:=a6.o;omega);replace d2:Cz 48 #[.agg (tA k' v' nm' g' r1 m1' u1 r2 m2' u2 a' l' c')] w4 _:=d2;obtain⟨d3,hi3,hw3⟩:=elt (i:=i) (n:=len) (by omega) (by omega);clear hLi hc a1 hOi hBi b5 c0 hv a9 a3 d0
  go_upto_region 7 with fail
  clear hw4 m0 m1 m2 m3 m4 m5 m6;obtain⟨m0,m1,m2,m3,m4,m5,m6⟩:=dZ b8;clear b8;refine rM ?_
  iterate 2 (refine iD rfl fun K hK=>?_;go_simp;refine hK _ _ ?_;clear hK)
  refine iD rfl fun KK b3=>?_
  go_simp
  refine d2.mono ?_;rintro e w6 ⟨v6,rfl,hO6,hb6⟩;refine b3 _ _ ?_;clear b3 d2 m0 m1 m2 m3 m4 m5 m6;have a5:Aside (Bz w w6):=a7.o.2.trans (hb6.mono a7.o.2.size);obtain⟨X4,hX4,hT4⟩:=a7.o.1.below hb6 (aE a0.o.2.2 a7.o.2.size) (aA _);obtain⟨X6,hX6,hT6⟩:=hO6;have a2:Aside (w6.ownsRow w.heap.size 27 7 v2 Li.length X4∧iT w6 v6 T'.gls.length X6∧X6.length=T'.gls.length*7∧(∀u∈X6,u.oneCell'=true)∧TsX n w6 (Li++T'.gls) (X4++X6)):=⟨hX4,HY hX6,hX6.1,hT6.one,hT4.app hT6⟩;have a8:Aside (Li.length+T'.gls.length≤maxLen∧(Li.length+T'.gls.length)*112≤140737488355328∧w.heap.size≤w6.heap.size):=⟨by have:=a6.o;unfold maxLen;omega,by have:=a6.o;omega,a5.o.size⟩;clear hX4 hT4 hX6 hT6 hb6;refine lJ xW _ rfl _ _ rfl w.heap.size v2 Li.length X4 rfl a2.o.1 v6 T'.gls.length X6 rfl a2.o.2.1 a2.o.2.2.1 a2.o.2.2.2.1 a8.o.1 a8.o.2.1 a8.o.2.2 ?_;intro v7 w7 h7 b1 c7;have R7:Aside (OutT n w.heap.size w7 v7 (Tm.glsL (args.take (i+1)))∧Bz w w7):=by
   have a4:=a2.o.1.lt;refine⟨?_,a5.o.grown b1 a5.o.size fun k hk=>(a4 k hk).1⟩;rw [b7.o];refine⟨X4++X6,by rw [aV];exact h7,?_⟩;exact a2.o.2.2.2.2.below ((aK n _).grown b1 (aE a0.o.2.2 a5.o.size) fun k hk=>aE a0.o.2.2 (a4 k hk).1) (aA _)
  clear h7 b1 c7
  iterate 1 (refine iD rfl fun K hK=>?_;go_simp;refine hK _ _ ?_;clear hK)
  go_wp2;go_roundw
  case rel=>exact⟨i+1,_,rfl,by simp,by omega,R7.o⟩
  case measure=>simp [RowKit.intOf];omega
def QN:∀T:Tm,RGlsOk T
 | .mk k v nm g num den args=>Gb k v nm g num den args fun T' a1=>QN T'
termination_by T=>SizeOf.sizeOf T
decreasing_by
 simp_wf
 have:=pK a1;omega
end
section
attribute [local go_sem] Heavy.uponW
def Tm.knd:Tm→Int
 | .mk k _ _ _ _ _ _=>k
def nE (k:Int):Bool:=k==2||k==4
def gOk (T:Tm):Bool:=T.gls.all fun x=>!nE x.knd
def OutT.read2 {L:List Tm} (h:OutT n base w v L):∃a c,v= .slice a L.length c∧∀(k:Nat) T,L[k]?=some T→∃g vs,a=some ⟨g,0,none⟩∧base≤g∧g<w.heap.size∧TmV n w T vs∧∀(j:Nat) u,vs[j]?=some u→w.cell? ⟨g,k*7+j,none⟩=some u:=by
 obtain⟨X,h1,h2⟩:=h;obtain⟨a,c,rfl,hr⟩:=gZ h1;refine⟨a,c,rfl,fun k T hk=>?_⟩;obtain⟨vs,hv,hx⟩:=h2.get hk;rcases hr with h0|⟨g,rfl,hb,hg,hc⟩
 ·have:=(aZ.1 hk).1;omega
 ·exact⟨g,vs,rfl,hb,hg,hv,fun j u hj=>hc _ u (hx j u hj)⟩
def TmV.kndV {T:Tm} (h:TmV n w T (.int .i64 k::X)):T.knd=k:=by
 obtain⟨k',v',nm',g',num,den,args⟩:=T;simp only [TmV] at h;obtain⟨_,_,_,_,e,_⟩:=h;injection e with e _
 injection e with _ e
 exact e.symm
def Hl (T:Tm) (n:Nat) (w:Wo) (vs:Lv) (h:TmV n w T vs) (hn:n≤w.heap.size) (hN:T.nodes≤1000000):
  Cz 75 #[.agg vs.toArray] w fun e w'=>e= .returned (.int .i64 (if gOk T then 0 else 7))∧Bz w w':=by
 have hA:=aside h;obtain⟨k,v,nm,g,p1,n1,q1,p2,n2,q2,a,len,c,rfl⟩:=TmV.seven h;obtain⟨wb,hwb,b0,hq,_⟩:=ebx w (Obj.cells (tA k v nm g p1 n1 q1 p2 n2 q2 a len c) 27);have a7:=aside b0;have a5:n≤wb.heap.size:=aE hn b0.size;have d1:Cz 78 #[.agg (tA k v nm g p1 n1 q1 p2 n2 q2 a len c),.slice none 0 0] wb (GlsP n wb.heap.size wb (.slice none 0 0) ([]++T.gls)):=
  KO T n wb.heap.size wb _ (.slice none 0 0) [] (TmV.below b0 hn _ _ h) a5 (aA _) (OutT.nil _ _ _) (by simpa using hN)
 rw [lG] at d1;obtain⟨x0,x1,x2,x3,x4,x5,x6⟩:=dZ hq;obtain⟨R,hR⟩:=enm T.gls;obtain⟨G,hG⟩:∃b,gOk T=b:=⟨_,rfl⟩;have GA:Aside (R.all (fun x=>!nE x.knd)=G∧R.length≤1000000):=⟨by rw [←hR];exact hG,by rw [←hR];exact aE (uJ T) hN⟩;rw [hR] at d1;rw [hG];obtain⟨lr,hlr⟩:∃l,R.length=l:=⟨_,rfl⟩;have Rl:=aside hlr;have b5:lr≤1000000:=by have:=GA.o.2;omega
 clear h hR hG b0 hq hN hlr hn;go_enter Tryz.func75,Tryz.ntmps75
 go_upto_region 1 with fail
 clear hwb
 go_upto_region 2 with(go_at_call 78;(with_reducible refine d1.mono ?_);rintro e w2 ⟨v2,rfl,hO2,hK2,_⟩;obtain⟨a2,c2,rfl,hr2⟩:=hO2.read2;rw [Rl.o])
 have a1:Aside (Bz w w2∧n≤w2.heap.size):=⟨a7.o.trans (hK2.below a7.o.size (fun k hk=>by simp [Value.ownBlock] at hk)),aE a5 hK2.size⟩;have b3:Aside (∀(k:Nat) T,R[k]?=some T→∃g vs,a2=some ⟨g,0,none⟩∧g<w2.heap.size∧TmV n w2 T vs∧∀(j:Nat) u,vs[j]?=some u→w2.cell? ⟨g,k*7+j,none⟩=some u):=fun k T hk=>by
  obtain⟨g,vs,e,_,h1,h2,h3⟩:=hr2 k T hk;exact⟨g,vs,e,h1,h2,h3⟩
 clear hO2 hK2 hr2 d1 x0 x1 x2 x3 x4 x5 x6 a5
 go_loopw [8] (fun s wr=>∃i:Nat,s= .int .i64 i∧i≤lr∧Bz w2 wr∧(R.take i).all (fun x=>!nE x.knd)=true) (fun s _=>lr-(RowKit.intOf s).toNat)
 case atStart=>exact⟨0,rfl,cJ _,aK _ _,rfl⟩
 case round=>
  obtain⟨wo,rfl⟩:=enr wr;obtain⟨i,rfl,hi,hB,hall⟩:=hrel
  by_cases b2:i<lr
  case neg=>
   obtain rfl:i=lr:=by omega
   rw [←Rl.o,kD] at hall;obtain rfl:true=G:=hall.symm.trans GA.o.1;have hb:Aside (Bz w wo):=a1.o.1.trans (hB.mono a1.o.1.size);clear hall hB;go_wp2
   go_ret
   exact⟨rfl,hb.o⟩
  obtain⟨A,hAk⟩:=egf Rl.o b2;obtain⟨g2,us,rfl,hg2,hv2,hc2⟩:=b3.o i A hAk;obtain⟨k',v',nm',g',r1,m1',u1,r2,m2',u2,a',l',c',rfl⟩:=TmV.seven hv2;have b1:=hv2.kndV;obtain⟨m0,m1,m2,m3,m4,m5,m6⟩:=qL (w:=w2) (w2:=wo) (fun p hp=>hB.cell (hp▸hg2)) hc2;have d0:=aC wo (Obj.cells (tA k' v' nm' g' r1 m1' u1 r2 m2' u2 a' l' c') 27);have a4:Aside (Bz w2 (wo.alloc (Obj.cells (tA k' v' nm' g' r1 m1' u1 r2 m2' u2 a' l' c') 27))):=hB.trans (d0.mono hB.size);obtain⟨b4,hi3,hw3⟩:=elt (i:=i) (n:=lr) (by omega) (by omega);have a3:Aside ((R.take (i+1)).all (fun x=>!nE x.knd)= !nE k'):=by
   show _=_;rw [mA,hAk,Az,hall];simp [b1]
  have a0:Aside ((R.take (i+1)).all (fun x=>!nE x.knd)=false→G=false):=fun hf=>by
   rw [←GA.o.1];rw [List.all_eq_false] at hf ⊢;obtain⟨x,hx,hx2⟩:=hf;exact⟨x,lH hx,hx2⟩
  clear hAk hg2 hv2 hc2 hB d0 hall b1
  by_cases a8:k'=2
  ·subst a8;obtain rfl:=a0.o (a3.o.trans rfl);have hb:Aside (Bz w _):=a1.o.1.trans (a4.o.mono a1.o.1.size);go_wp2
   go_ret
   exact⟨rfl,hb.o⟩
  ·have e2:(k'==2)=false:=by simpa using a8
   by_cases a9:k'=4
   ·subst a9;obtain rfl:=a0.o (a3.o.trans rfl);have hb:Aside (Bz w _):=a1.o.1.trans (a4.o.mono a1.o.1.size);go_wp2
    go_ret
    exact⟨rfl,hb.o⟩
   ·have e4:(k'==4)=false:=by simpa using a9
    have a6:Aside ((R.take (i+1)).all (fun x=>!nE x.knd)=true):=by show _=_;rw [a3.o,nE,e2,e4];rfl
    clear a3 a0;go_wp2;go_roundw
    case rel=>exact⟨i+1,by simp,by omega,a4.o,a6.o⟩
    case measure=>simp [RowKit.intOf];omega
end
section
attribute [local go_sem] Heavy.uponW
def cllB (T:Tm):Bool:=T.knd==3||T.knd==5
def nC (H B:Tm):Int:=if cllB H then(if gOk B then 0 else 7) else 7
def Hm (H B:Tm) (n:Nat) (w:Wo) (hs bs:Lv) (hH:TmV n w H hs) (hB:TmV n w B bs) (hn:n≤w.heap.size) (hN:B.nodes≤1000000):
  Cz 35 #[.agg hs.toArray,.agg bs.toArray] w fun e w'=>e= .returned (.int .i64 (nC H B))∧Bz w w':=by
 have b7:∀k X,hs= .int .i64 k::X→H.knd=k:=fun k X e=>by subst e;exact hH.kndV
 have c3:=aside hB;obtain⟨k1,v1,nm1,g1,p1,n1,q1,r1,m1,u1,a1,l1,c1,rfl⟩:=TmV.seven hH;obtain⟨k2,v2,nm2,g2,p2,n2,q2,r2,m2,u2,a2,l2,c2,rfl⟩:=TmV.seven hB;have hk:=b7 k1 _ rfl;have b0:=aC w (Obj.cells (tA k1 v1 nm1 g1 p1 n1 q1 r1 m1 u1 a1 l1 c1) 27);have hq:=bY w (Obj.cells (tA k1 v1 nm1 g1 p1 n1 q1 r1 m1 u1 a1 l1 c1) 27);obtain⟨wa,hwa⟩:∃x,w.alloc (Obj.cells (tA k1 v1 nm1 g1 p1 n1 q1 r1 m1 u1 a1 l1 c1) 27)=x:=⟨_,rfl⟩;have a6:wa.heap.size=w.heap.size+1:=by rw [←hwa];simp
 rw [hwa] at b0 hq;have b1:=aC wa (Obj.cells (tA k2 v2 nm2 g2 p2 n2 q2 r2 m2 u2 a2 l2 c2) 27);have a8:=bY wa (Obj.cells (tA k2 v2 nm2 g2 p2 n2 q2 r2 m2 u2 a2 l2 c2) 27);obtain⟨wb,hwb⟩:∃x,wa.alloc (Obj.cells (tA k2 v2 nm2 g2 p2 n2 q2 r2 m2 u2 a2 l2 c2) 27)=x:=⟨_,rfl⟩;rw [hwb] at b1 a8;rw [a6] at a8;have hz:wb.heap.size=w.heap.size+2:=by rw [←hwb,eX,a6]
 have fb:Aside (Bz w wb):=b0.trans (b1.mono b0.size);have f1:Aside (∀w2,Bz wb w2→_):=fun(w2:Wo) (hb:Bz wb w2)=>dZ ((hb.block w.heap.size (by omega)).trans ((b1.block w.heap.size (by omega)).trans hq))
 have f2:Aside (∀w2,Bz wb w2→_):=fun(w2:Wo) (hb:Bz wb w2)=>dZ ((hb.block (w.heap.size+1) (by omega)).trans a8)
 obtain⟨F,hF⟩:∃f,nC H B=f:=⟨_,rfl⟩;have FA:=aside hF;rw [hF];obtain⟨G,hG⟩:∃b,(if gOk B then(0:Int) else 7)=b:=⟨_,rfl⟩;have GA:=aside hG;have d1:Aside (∀w2,Cz 74 #[.agg (tA k1 v1 nm1 g1 p1 n1 q1 r1 m1 u1 a1 l1 c1)] w2 fun e w'=>e= .returned (.bool (k1==3||k1==5))∧Bz w2 w'):=fun w2=>Pa k1 v1 nm1 g1 _ _ _ w2
 have d2:Aside (∀w2,Bz w w2→Cz 75 #[.agg (tA k2 v2 nm2 g2 p2 n2 q2 r2 m2 u2 a2 l2 c2)] w2 fun e w'=>e= .returned (.int .i64 G)∧Bz w2 w'):=fun w2 hb=>by
  rw [←hG];exact Hl B n w2 _ (TmV.below hb hn _ _ c3.o) (aE hn hb.size) hN
 obtain⟨C,hC⟩:∃b,(k1==3||k1==5)=b:=⟨_,rfl⟩;have CA:Aside (cllB H=C):=by show _=_;rw [cllB,hk];exact hC
 rw [hC] at d1;obtain⟨x0,x1,x2,x3,x4,x5,x6⟩:=f1.o wb (aK _ _);clear hH hB b7 hk hF hG hC b0 hq b1 a8 hn hN;show Cz 35 #[.agg (tA k1 v1 nm1 g1 p1 n1 q1 r1 m1 u1 a1 l1 c1),.agg (tA k2 v2 nm2 g2 p2 n2 q2 r2 m2 u2 a2 l2 c2)] w _;go_enter Tryz.func35,Tryz.ntmps35
 go_upto_region 1 with fail
 clear hwa hwb a6 hz;cases C
 case false=>
  obtain rfl:F=7:=by have h1:=FA.o;have h2:=CA.o;rw [nC,h2] at h1;exact h1.symm
  go_wp2_with (go_at_call 74;(with_reducible refine(d1.o _).mono ?_);rintro e w2 ⟨rfl,hb2⟩)
  go_ret
  exact⟨rfl,fb.o.trans (hb2.mono fb.o.size)⟩
 obtain rfl:F=G:=by have h1:=FA.o;have h2:=CA.o;rw [nC,h2] at h1;exact h1.symm.trans GA.o
 go_upto_region 3 with(go_at_call 74;(with_reducible refine(d1.o _).mono ?_);rintro e w2 ⟨rfl,hb2⟩)
 clear x0 x1 x2 x3 x4 x5 x6;obtain⟨x0,x1,x2,x3,x4,x5,x6⟩:=f2.o w2 hb2;have b2:=fb.o.trans (hb2.mono fb.o.size);have d3:=d2.o w2 b2
 go_wp2_with (go_at_call 75;(with_reducible refine d3.mono ?_);rintro e w3 ⟨rfl,hb3⟩)
 go_ret
 exact⟨rfl,b2.trans (hb3.mono b2.size)⟩
def UZ:∀L:List Tm,(Tm.glsL L).all (fun x=>!nE x.knd)=L.all gOk
 | []=>rfl
 |T::r=>by simp only [Tm.glsL,Az,UZ r,rU];rfl
def gOk_eq (k v:Int) (nm:ByteArray) (g:Bool) (num den:List Nat) (args:List Tm):gOk (.mk k v nm g num den args)=(!nE k&&(!jS k nm.toList args.length||args.all gOk)):=by
 show(Tm.gls _).all (fun x=>!nE x.knd)=_;simp only [Tm.gls];cases hc:jS k nm.toList args.length
 ·simp [Tm.knd]
 ·have h5:k=5:=by
   unfold jS at hc;simp at hc;exact hc.1
  subst h5;simp only [if_true,UZ];simp [nE]
def RBOk (T:Tm):Prop:=∀(n:Nat) (w:Wo) (vs:Lv),TmV n w T vs→n≤w.heap.size→Cz 40 #[.agg vs.toArray] w fun e w'=>e= .returned (.bool (gOk T))∧Bz w w'
def Gn (k v:Int) (nm:ByteArray) (g:Bool) (num den:List Nat) (args:List Tm) (ih:∀T'∈args,RBOk T'):RBOk (.mk k v nm g num den args):=by
 intro n w vs h b8;have c8:=aside ih;obtain⟨F,hF⟩:∃f,gOk (.mk k v nm g num den args)=f:=⟨_,rfl⟩;have FA:Aside ((!nE k&&(!jS k nm.toList args.length||args.all gOk))=F):=(gOk_eq k v nm g num den args).symm.trans hF;rw [hF];simp only [TmV] at h;obtain⟨_,_,a,c,rfl,⟨⟨p1,q1,rfl,_⟩,⟨p2,q2,rfl,_⟩⟩,hT,hbig,_⟩:=h;generalize c6:num.length=n1 at*;generalize c7:den.length=n2 at*;obtain⟨len,hl⟩:=enm args.length;rw [hl] at hbig FA ⊢;have Al:=aside hl;have c4:=aside hT;obtain⟨wb,hwb,b0,hq,a6⟩:=ebx w (Obj.cells (tA k v nm g p1 n1 q1 p2 n2 q2 a len c) 27);have fa:Aside (∀w2,Bz wb w2→_):=fun(w2:Wo) (hb:Bz wb w2)=>dZ ((hb.block w.heap.size (by omega)).trans hq)
 have a3:=aside2 b0 b8;obtain⟨B,hB⟩:∃b,jS k nm.toList len=b:=⟨_,rfl⟩;have d1:Aside (∀w2,Cz 47 #[.agg (tA k v nm g p1 n1 q1 p2 n2 q2 a len c)] w2 fun e w'=>e= .returned (.bool B)∧Bz w2 w'):=fun w2=>by rw [←hB];exact IT k v nm g _ _ a len c w2
 rw [hB] at FA;obtain⟨x0,x1,x2,x3,x4,x5,x6⟩:=fa.o wb (aK _ _);clear hT hl hB c6 c7 ih b0 hq b8 hF;show Cz 40 #[.agg (tA k v nm g p1 n1 q1 p2 n2 q2 a len c)] w _;go_enter Tryz.func40,Tryz.ntmps40
 by_cases a9:k=2
 ·subst a9;obtain rfl:F=false:=FA.o.symm.trans rfl;go_wp2
  go_ret
  exact⟨rfl,a3.o.1⟩
 by_cases b3:k=4
 ·subst b3;obtain rfl:F=false:=FA.o.symm.trans rfl;go_wp2
  go_ret
  exact⟨rfl,a3.o.1⟩
 have e2:(k==2)=false:=by simpa using a9
 have e4:(k==4)=false:=by simpa using b3
 have FB:Aside ((!B||args.all gOk)=F):=by
  show _=_;have:=FA.o;rw [nE,e2,e4] at this;simpa using this
 clear FA
 go_upto_region 3 with fail
 clear hwb a6 a9 b3 e2 e4;cases B
 case false=>
  obtain rfl:F=true:=FB.o.symm.trans rfl
  go_wp2_with (go_at_call 47;(with_reducible refine(d1.o _).mono ?_);rintro e w2 ⟨rfl,hb2⟩)
  go_ret
  exact⟨rfl,a3.o.1.trans (hb2.mono a3.o.1.size)⟩
 have FC:Aside (args.all gOk=F):=FB.o
 go_upto_region 4 with(go_at_call 47;(with_reducible refine(d1.o _).mono ?_);rintro e w2 ⟨rfl,hb2⟩)
 clear x0 x1 x2 x3 x4 x5 x6 FB;obtain⟨x0,x1,x2,x3,x4,x5,x6⟩:=fa.o w2 hb2;have c0:Aside (Bz w w2):=a3.o.1.trans (hb2.mono a3.o.1.size);clear hb2
 go_upto_region 5 with fail
 clear x0 x1 x2 x3 x4 x5 x6
 go_loopw [18] (fun s wr=>∃i:Nat,s= .int .i64 i∧i≤len∧Bz w wr∧(args.take i).all gOk=true) (fun s _=>len-(RowKit.intOf s).toNat)
 case atStart=>exact⟨0,rfl,cJ _,c0.o,rfl⟩
 case round=>
  obtain⟨wo,rfl⟩:=enr wr;obtain⟨i,rfl,hi,hBi,hall⟩:=hrel
  by_cases c5:i<len
  case neg=>
   obtain rfl:i=len:=by omega
   rw [←Al.o,kD] at hall;obtain rfl:true=F:=hall.symm.trans FC.o;have hb:=aside hBi;clear hall hBi;go_wp2
   go_ret
   exact⟨rfl,hb.o⟩
  obtain⟨T',a5⟩:=egf Al.o c5;obtain⟨b,off,vs',rfl,hbn,hc,hv⟩:=c4.o.get a5;rw [dH] at hc;have b6:=c8.o T' (bV a5);have b9:=aside hv;have b4:Aside ((args.take (i+1)).all gOk=gOk T'):=by
   show _=_;rw [mA,a5,Az,hall];simp
  have a0:Aside (gOk T'=false→F=false):=fun hf=>by
   rw [←FC.o,List.all_eq_false];exact⟨T',bV a5,by simp [hf]⟩
  obtain⟨k',v',nm',g',r1,m1',u1,r2,m2',u2,a',l',c',rfl⟩:=TmV.seven hv;obtain⟨m0,m1,m2,m3,m4,m5,m6⟩:=seven (w:=w) (w2:=wo) (fun p hp=>hBi.cell (hp▸(eE hbn a3.o.2))) hc;have d0:=aC wo (Obj.cells (tA k' v' nm' g' r1 m1' u1 r2 m2' u2 a' l' c') 27);have a7:=hBi.trans (d0.mono hBi.size);have d2:=b6 n _ _ (TmV.below a7 a3.o.2 _ _ b9.o) (aE a3.o.2 a7.size);replace d2:Cz 40 #[.agg (tA k' v' nm' g' r1 m1' u1 r2 m2' u2 a' l' c')] _ _:=d2;obtain⟨G,hG⟩:∃b,gOk T'=b:=⟨_,rfl⟩;rw [hG] at d2 b4 a0;have a4:Aside (Bz w _):=a7;obtain⟨c9,hi3,hw3⟩:=elt (i:=i) (n:=len) (by omega) (by omega);clear hc a5 hBi hall b6 b9 hv a7 d0 hG;cases G
  case false=>
   obtain rfl:=a0.o rfl
   go_wp2_with (go_at_call 40;(with_reducible refine d2.mono ?_);rintro e w6 ⟨rfl,hb6⟩)
   go_ret
   exact⟨rfl,a4.o.trans (hb6.mono a4.o.size)⟩
  case true=>
   have b5:Aside ((args.take (i+1)).all gOk=true):=b4.o;clear b4 a0
   go_wp2_with (go_at_call 40;(with_reducible refine d2.mono ?_);rintro e w6 ⟨rfl,hb6⟩)
   have h6:=a4.o.trans (hb6.mono a4.o.size);go_roundw
   case rel=>exact⟨i+1,by simp,by omega,h6,b5.o⟩
   case measure=>simp [RowKit.intOf];omega
def RD:∀T:Tm,RBOk T
 | .mk k v nm g num den args=>Gn k v nm g num den args fun T' a5=>RD T'
termination_by T=>SizeOf.sizeOf T
decreasing_by
 simp_wf
 have:=pK a5;omega
end
section
attribute [local go_sem] Heavy.uponW
def iM (a0:List Int) (v:Int):List Int:=if v∈a0 then a0 else a0++ [v]
mutual
def Tm.vl:Tm→List Int
 | .mk k v _ _ _ _ args=>(if k=1 then [v] else [])++Tm.vlL args
def Tm.vlL:List Tm→List Int
 | []=>[]
 |T::r=>Tm.vl T++Tm.vlL r
end
mutual
theorem KU:∀(T:Tm) (a0:List Int),T.fr a0=T.vl.foldl iM a0
 | .mk k v nm g num den args,a0=>by
  simp only [Tm.fr,Tm.vl,GX];rw [VF args]
  by_cases hk:k=1
  ·subst hk;simp only [if_true,FY,wP,List.foldl_nil];unfold iM
   by_cases hv:v∈a0<;>simp [hv]
  ·simp [hk]
theorem VF:∀(L:List Tm) (a0:List Int),Tm.frL L a0=(Tm.vlL L).foldl iM a0
 | [],a0=>rfl
 |T::r,a0=>by
  simp only [Tm.frL,Tm.vlL,GX];rw [KU T,VF r]
end
def Jg {v:Int}:x∈iM a0 v↔x∈a0∨x=v:=by
 unfold iM
 by_cases h:v∈a0
 ·rw [if_pos h];constructor
  ·exact .inl
  ·rintro(h2|rfl)
   ·exact h2
   ·exact h
 ·rw [if_neg h];simp
def ST {x:Int}:∀{V a0:List Int},x∈V.foldl iM a0↔x∈a0∨x∈V
 | [],a0=>by simp
 |v::r,a0=>by
  rw [wP,ST,Jg,cN,or_assoc]
def VI:∀(V a0 a1:List Int),(V.foldl iM a1).foldl iM a0=V.foldl iM (a1.foldl iM a0)
 | [],a0,a1=>rfl
 | v::r,a0,a1=>by
  rw [wP,wP,VI r];congr 1;unfold iM
  by_cases h:v∈a1
  ·rw [if_pos h,if_pos];exact ST.2 (.inr h)
  ·rw [if_neg h,GX];rfl
def fr_add (T:Tm) (a0:List Int):T.fr a0=(T.fr []).foldl iM a0:=by
 rw [KU T a0,KU T [],VI];rfl
def Lu (V a0:List Int):(V.foldl iM a0).length≤a0.length+V.length:=by
 induction V generalizing a0 with
 |nil=>simp
 |cons v r ih=>
  rw [wP,jD];have:=ih (iM a0 v);have:(iM a0 v).length≤a0.length+1:=by unfold iM;split<;>simp
  omega
def fQ:List Int→Nat→List (Int × Value)
 | [],_=>[]
 |x::r,i=>(x,.int .i64 i)::fQ r (i+1)
def SB:∀(L M:List Int) (i:Nat),fQ (L++M) i=fQ L i++fQ M (i+L.length)
 | [],M,i=>by simp [fQ]
 |x::r,M,i=>by
  simp only [mF,fQ,jD];rw [SB r M (i+1)];congr 2;congr 1;omega
def zP:∀(L:List Int) (i:Nat),(fQ L i).map (·.1)=L
 | [],_=>rfl
 |x::r,i=>by simp [fQ,zP r]
def RZ (L:List Int) (i:Nat):(fQ L i).length=L.length:=by rw [←mB (f:=(·.1)),zP]
def JJ:∀{L:List Int} {i:Nat} {x:Int} {v:Value},(x,v)∈fQ L i↔∃j,L[j]?=some x∧v= .int .i64 ((i+j:Nat):Int)
 | [],i,x,v=>by simp [fQ]
 | y::r,i,x,v=>by
  simp only [fQ,cN,JJ (L:=r)];constructor
  ·rintro(h|⟨j,h1,h2⟩)
   ·injection h with h1 h2
    exact⟨0,by simp [h1],by simpa using h2⟩
   ·exact⟨j+1,by simpa using h1,by rw [h2];congr 2;omega⟩
  ·rintro⟨j,h1,h2⟩;cases j with
   |zero=>simp at h1;left;rw [h1,h2];simp
   |succ j=>right;exact⟨j,by simpa using h1,by rw [h2];congr 2;omega⟩
def Ia:(gT x (fQ L i)).isSome=decide (x∈L):=by
 cases h:gT x (fQ L i) with
 | none=>
  have:=HM.1 h;have hn:x∉L:=fun hx=>by
   rw [←zP L i] at hx;obtain⟨p,hp,rfl⟩:=gF.1 hx;exact this p hp rfl
  simp [hn]
 | some v=>
  have:=CO h;have hx:x∈L:=by
   rw [←zP L i];exact gF.2 ⟨_,this,rfl⟩
  simp [hx]
def Hz (h:x∉L):jX x (.int .i64 L.length) (fQ L 0)=fQ (L++ [x]) 0:=by
 rw [DL,SB]
 ·simp [fQ]
 ·rw [EM];intro p hp e;apply h;rw [←zP L 0,e];exact gF.2 ⟨p,hp,rfl⟩
def zB:Tryz.prog.underlying 78=some (.map 3 3):=Tryz.underlying78
def zero3:∀w:Wo,(zeroValue 3).run Tryz.prog w= .ok (.int .i64 0) w:=fun w=>Tryz.zeroValue3 w
def OrdP (w:Wo) (L:List Int) (e:Ending) (w':Wo):Prop:=∃mb,e= .returned (.map (some mb))∧w.heap.size≤mb∧gE ikv w' mb (fQ L 0)∧Bz w w'
def two (H B:Tm) (i:Nat):List Int:=Tm.frL ([H,B].take i) []
def eL.readN (h:eL base w v L):∃a c,v= .slice a L.length c∧∀(k:Nat) x,L[k]?=some x→∃g,a=some ⟨g,0,none⟩∧base≤g∧g<w.heap.size∧w.cell? ⟨g,k,none⟩=some (.int .i64 x):=by
 obtain⟨a,c,rfl,hr⟩:=gZ h;refine⟨a,c,rfl,fun k x hk=>?_⟩;rcases hr with h0|⟨g,rfl,hb,hg,hc⟩
 ·have:=(aZ.1 hk).1;omega
 ·exact⟨g,rfl,hb,hg,hc k _ (by simp [hk])⟩
end
section
attribute [local go_sem] Heavy.uponW
def Kl (H B:Tm) (n:Nat) (w:Wo) (hs bs:Lv) (hH:TmV n w H hs) (hB:TmV n w B bs) (hn:n≤w.heap.size) (c7:H.nodes≤100000) (c6:B.nodes≤100000):
  Cz 36 #[.agg hs.toArray,.agg bs.toArray] w (OrdP w (Tm.frL [H,B] [])):=by
 have TA:=aside5 hH hB hn c7 c6;obtain⟨k1,v1,nm1,g1,p1,n1,q1,r1,m1,u1,a1,l1,c1,rfl⟩:=TmV.seven hH;obtain⟨k2,v2,nm2,g2,p2,n2,q2,r2,m2,u2,a2,l2,c2,rfl⟩:=TmV.seven hB;have b0:=aC w (Obj.cells (tA k1 v1 nm1 g1 p1 n1 q1 r1 m1 u1 a1 l1 c1) 27);have hq:=bY w (Obj.cells (tA k1 v1 nm1 g1 p1 n1 q1 r1 m1 u1 a1 l1 c1) 27);obtain⟨wa,hwa⟩:∃x,w.alloc (Obj.cells (tA k1 v1 nm1 g1 p1 n1 q1 r1 m1 u1 a1 l1 c1) 27)=x:=⟨_,rfl⟩;have b9:wa.heap.size=w.heap.size+1:=by rw [←hwa];simp
 rw [hwa] at b0 hq;have b1:=aC wa (Obj.cells (tA k2 v2 nm2 g2 p2 n2 q2 r2 m2 u2 a2 l2 c2) 27);have a9:=bY wa (Obj.cells (tA k2 v2 nm2 g2 p2 n2 q2 r2 m2 u2 a2 l2 c2) 27);obtain⟨wb,hwb⟩:∃x,wa.alloc (Obj.cells (tA k2 v2 nm2 g2 p2 n2 q2 r2 m2 u2 a2 l2 c2) 27)=x:=⟨_,rfl⟩;have b5:wb.heap.size=w.heap.size+2:=by rw [←hwb,eX,b9]
 rw [hwb] at b1 a9;rw [b9] at a9;have b2:=aC wb (Obj.map #[] 0);have a8:gE ikv (wb.alloc (Obj.map #[] 0)) wb.heap.size []:=gE.new wb 0;obtain⟨wc,hwc⟩:∃x,wb.alloc (Obj.map #[] 0)=x:=⟨_,rfl⟩;have c0:wc.heap.size=w.heap.size+3:=by rw [←hwc,eX,b5]
 rw [hwc] at b2 a8;rw [b5] at a8;have b3:=aC wc (Obj.cells #[.int .i64 k1,.int .i64 v1,.string nm1,.bool g1,.slice p1 n1 q1,.slice r1 m1 u1,.slice a1 l1 c1,.int .i64 k2,.int .i64 v2,.string nm2,.bool g2,.slice p2 n2 q2,.slice r2 m2 u2,.slice a2 l2 c2] 27);have b4:=bY wc (Obj.cells #[.int .i64 k1,.int .i64 v1,.string nm1,.bool g1,.slice p1 n1 q1,.slice r1 m1 u1,.slice a1 l1 c1,.int .i64 k2,.int .i64 v2,.string nm2,.bool g2,.slice p2 n2 q2,.slice r2 m2 u2,.slice a2 l2 c2] 27);obtain⟨wd,hwd⟩:∃x,wc.alloc (Obj.cells #[.int .i64 k1,.int .i64 v1,.string nm1,.bool g1,.slice p1 n1 q1,.slice r1 m1 u1,.slice a1 l1 c1,.int .i64 k2,.int .i64 v2,.string nm2,.bool g2,.slice p2 n2 q2,.slice r2 m2 u2,.slice a2 l2 c2] 27)=x:=⟨_,rfl⟩;have d4:wd.heap.size=w.heap.size+4:=by rw [←hwd,eX,c0]
 rw [hwd] at b3 b4;rw [c0] at b4;have c9:gE ikv wd (w.heap.size+2) []:=a8.of_block (b3.block _ (by omega));have bd:Bz w wd:=((b0.trans (b1.mono (by omega))).trans (b2.mono (by omega))).trans (b3.mono (by omega));have DA:=aside4 bd d4 b4 c9;have d2:wc.heap[w.heap.size]?=some (.cells (tA k1 v1 nm1 g1 p1 n1 q1 r1 m1 u1 a1 l1 c1) 27):=(b2.block _ (by omega)).trans ((b1.block _ (by omega)).trans hq);have d3:wc.heap[w.heap.size+1]?=some (.cells (tA k2 v2 nm2 g2 p2 n2 q2 r2 m2 u2 a2 l2 c2) 27):=(b2.block _ (by omega)).trans a9;obtain⟨x0,x1,x2,x3,x4,x5,x6⟩:=dZ d2;obtain⟨y0,y1,y2,y3,y4,y5,y6⟩:=dZ d3;have e1:∀w:Wo,(Instr.makeMap 78 none).run Tryz.prog w= .ok (.map (some w.heap.size)) (w.alloc (.map #[] 0)):=fun w=>rfl
 obtain⟨mb,hmb⟩:∃m,w.heap.size+2=m:=⟨_,rfl⟩;obtain⟨rb,hrb⟩:∃m,w.heap.size+3=m:=⟨_,rfl⟩;have RM:=aside2 hmb hrb;rw [hmb,hrb] at DA;clear hH hB hn c7 c6 b0 hq b1 a9 b2 a8 b3 b4 c9 bd d2 d3 hmb hrb;show Cz 36 #[.agg (tA k1 v1 nm1 g1 p1 n1 q1 r1 m1 u1 a1 l1 c1),.agg (tA k2 v2 nm2 g2 p2 n2 q2 r2 m2 u2 a2 l2 c2)] w _;go_enter Tryz.func36,Tryz.ntmps36
 go_upto_region 2 with fail
 rw [b5] at*
 go_upto_region 3 with fail
 rw [RM.o.1,RM.o.2];clear hwa hwb hwc hwd b9 b5 c0 d4 e1 x0 x1 x2 x3 x4 x5 x6 y0 y1 y2 y3 y4 y5 y6;have a4:Aside (n≤wd.heap.size∧n≤mb∧mb<wd.heap.size∧rb<wd.heap.size∧rb≠mb∧w.heap.size≤mb):=by
  have h1:=TA.o.2.2.1;have h2:=DA.o.2.1;have h3:=RM.o;exact⟨by omega,by omega,by omega,by omega,by omega,by omega⟩
 go_loopw [16] (fun s wr=>∃i:Nat,s= .int .i64 i∧i≤2∧gE ikv wr mb (fQ (two H B i) 0)∧bL (fun k=>k=mb) wd wr) (fun s _=>2-(RowKit.intOf s).toNat)
 case atStart=>exact⟨0,rfl,by omega,DA.o.2.2.2,bL.refl _ _⟩
 case round=>
  obtain⟨wo,rfl⟩:=enr wr;obtain⟨i,rfl,hi,hM,hK⟩:=hrel
  by_cases c8:i<2
  case neg=>
   obtain rfl:i=2:=by omega
   have hP:Aside (OrdP w (Tm.frL [H,B] []) (.returned (.map (some mb))) wo):=⟨mb,rfl,a4.o.2.2.2.2.2,hM,DA.o.1.trans (hK.below DA.o.1.size fun k e=>by subst e;exact a4.o.2.2.2.2.2)⟩;clear hM hK;go_wp2
   go_ret
   exact hP.o
  obtain⟨T',us,hT',hv,hcs,hnd⟩:∃T' us,[H,B][i]?=some T'∧TmV n w T' us∧(∀(j:Nat) u,us[j]?=some u→wd.cell? ⟨rb,i*7+j,none⟩=some u)∧T'.nodes≤100000:=by
   have hc:∀(j:Nat) u,(#[.int .i64 k1,.int .i64 v1,.string nm1,.bool g1,.slice p1 n1 q1,.slice r1 m1 u1,.slice a1 l1 c1,.int .i64 k2,.int .i64 v2,.string nm2,.bool g2,.slice p2 n2 q2,.slice r2 m2 u2,.slice a2 l2 c2]:Array Value)[j]?=some u→wd.cell? ⟨rb,j,none⟩=some u:=fun j u hj=>by simp only [World.cell?,DA.o.2.2.1];simpa using hj
   match i,c8 with
   | 0,_=>exact⟨H,[.int .i64 k1,.int .i64 v1,.string nm1,.bool g1,.slice p1 n1 q1,.slice r1 m1 u1,.slice a1 l1 c1],rfl,TA.o.1,fun j u hj=>hc (0*7+j) u (by
     have:=(aZ.1 hj).1;have h7:j<7:=this
     match j,h7 with
     |0,_=>exact hj
     |1,_=>exact hj
     |2,_=>exact hj
     |3,_=>exact hj
     |4,_=>exact hj
     |5,_=>exact hj
     |6,_=>exact hj),TA.o.2.2.2.1⟩
   | 1,_=>exact⟨B,[.int .i64 k2,.int .i64 v2,.string nm2,.bool g2,.slice p2 n2 q2,.slice r2 m2 u2,.slice a2 l2 c2],rfl,TA.o.2.1,fun j u hj=>hc (1*7+j) u (by
     have:=(aZ.1 hj).1;have h7:j<7:=this
     match j,h7 with
     |0,_=>exact hj
     |1,_=>exact hj
     |2,_=>exact hj
     |3,_=>exact hj
     |4,_=>exact hj
     |5,_=>exact hj
     |6,_=>exact hj),TA.o.2.2.2.2⟩
  obtain⟨k5,v5,nm5,g5,p5,n5,q5,r5,m5,u5,a5,l5,c5,rfl⟩:=TmV.seven hv;have c4:Below n w wo:=DA.o.1.mono TA.o.2.2.1|>.trans (hK.below a4.o.1 fun k e=>by subst e;exact a4.o.2.1);obtain⟨z0,z1,z2,z3,z4,z5,z6⟩:=qL (w:=wd) (w2:=wo) (fun p hp=>by
   have:=hK.block rb a4.o.2.2.2.1 a4.o.2.2.2.2.1;obtain⟨pb,po,pp⟩:=p;simp only at hp;subst hp;simp only [World.cell?,this]) hcs
  have d0:=aC wo (Obj.cells (tA k5 v5 nm5 g5 p5 n5 q5 r5 m5 u5 a5 l5 c5) 27);have e2:=bY wo (Obj.cells (tA k5 v5 nm5 g5 p5 n5 q5 r5 m5 u5 a5 l5 c5) 27);have d6:n≤wo.heap.size:=by have:=hK.size;have:=a4.o.1;omega
  have d1:=JD T' n (wo.alloc (Obj.cells (tA k5 v5 nm5 g5 p5 n5 q5 r5 m5 u5 a5 l5 c5) 27)) _ (TmV.below (c4.trans (d0.mono d6)) (aA _) _ _ hv) (by rw [eX];omega) (by omega);replace d1:Cz 25 #[.agg (tA k5 v5 nm5 g5 p5 n5 q5 r5 m5 u5 a5 l5 c5)] (wo.alloc (Obj.cells (tA k5 v5 nm5 g5 p5 n5 q5 r5 m5 u5 a5 l5 c5) 27)) (FreeP (wo.alloc (Obj.cells (tA k5 v5 nm5 g5 p5 n5 q5 r5 m5 u5 a5 l5 c5) 27)) (T'.fr [])):=d1;have oA:Aside (gE ikv (wo.alloc (Obj.cells (tA k5 v5 nm5 g5 p5 n5 q5 r5 m5 u5 a5 l5 c5) 27)) mb (fQ (two H B i) 0)∧bL (fun k=>k=mb) wd (wo.alloc (Obj.cells (tA k5 v5 nm5 g5 p5 n5 q5 r5 m5 u5 a5 l5 c5) 27))∧mb<(wo.alloc (Obj.cells (tA k5 v5 nm5 g5 p5 n5 q5 r5 m5 u5 a5 l5 c5) 27)).heap.size):=by
   refine⟨hM.of_block (d0.block mb hM.lt),hK.trans (bL.of_below d0 (S:=fun k=>k=mb)) fun k _ e=>e,?_⟩;rw [eX];have:=hM.lt;omega
  have b8:Aside ((T'.fr []).foldl iM (two H B i)=two H B (i+1)):=by
   show _=_;rw [←fr_add];exact(KV hT').symm
  have hF:Aside (∀R,T'.fr []=R→R.length≤100000∧(two H B i).length≤100000):=fun R e=>by
   have h1:=AO T' [];have h2:(two H B i).length≤Tm.nodesL ([H,B].take i):=by have:=(qX ([H,B].take i) []).1;rw [pN,dH] at this;exact this
   have h3:Tm.nodesL ([H,B].take i)≤100000:=by
    match i,c8 with
    |0,_=>simp [Tm.nodesL]
    |1,_=>simpa [Tm.nodesL] using TA.o.2.2.2.1
   rw [←e];exact⟨by have:=h1.1;simp at this;omega,by omega⟩
  obtain⟨F,hF0⟩:=enm (T'.fr []);rw [hF0] at d1 b8;have b6:Aside (F.length≤100000∧(two H B i).length≤100000):=hF.o F hF0;obtain⟨a0,hacc⟩:∃x,two H B i=x:=⟨_,rfl⟩;rw [hacc] at oA b8 b6;obtain⟨lf,hlf⟩:∃l,F.length=l:=⟨_,rfl⟩;have Fl:=aside hlf;have e9:lf≤100000:=by have:=b6.o.1;omega
  have e6:(i:Int)<2:=by omega
  have e7:(0:Int)≤(i:Int):=by omega
  have f0:=ewr (i:=i) (by omega);clear hv hcs hnd c4 e2 d0 hM hK hT' hF hF0 hacc hlf d6
  go_upto_region 6 with(go_at_call 25;(with_reducible refine d1.mono ?_);rintro e w5 ⟨f1,rfl,hO5,hb5⟩;obtain⟨d9,c5x,rfl,hr5⟩:=hO5.readN;rw [Fl.o])
  have d7:Aside (gE ikv w5 mb (fQ a0 0)∧bL (fun k=>k=mb) wd w5∧mb<w5.heap.size):=⟨oA.o.1.of_block (hb5.block mb oA.o.2.2),oA.o.2.1.trans (bL.of_below hb5 (S:=fun k=>k=mb)) fun k _ e=>e,by have:=oA.o.2.2;have:=hb5.size;omega⟩;have e3:Aside (∀(k:Nat) x,F[k]?=some x→∃g,d9=some ⟨g,0,none⟩∧mb<g∧g<w5.heap.size∧w5.cell? ⟨g,k,none⟩=some (.int .i64 x)):=fun k x hk=>by
   obtain⟨g,e,h1,h2,h3⟩:=hr5 k x hk;exact⟨g,e,by have:=oA.o.2.2;omega,h2,h3⟩
  clear hO5 hb5 hr5 d1 oA z0 z1 z2 z3 z4 z5 z6
  go_loopw [23] (fun s d8=>∃j:Nat,s= .int .i64 j∧j≤lf∧gE ikv d8 mb (fQ ((F.take j).foldl iM a0) 0)∧bL (fun k=>k=mb) w5 d8) (fun s _=>lf-(RowKit.intOf s).toNat)
  case atStart=>exact⟨0,rfl,cJ _,by simpa using d7.o.1,bL.refl _ _⟩
  case round=>
   obtain⟨wi,rfl⟩:=enr wr;obtain⟨j,rfl,hj,hM,hK⟩:=hrel
   by_cases e0:j<lf
   case neg=>
    obtain rfl:j=lf:=by omega
    have a7:Aside (gE ikv wi mb (fQ (two H B (i+1)) 0)∧bL (fun k=>k=mb) wd wi):=by
     refine⟨?_,d7.o.2.1.trans hK fun k _ e=>e⟩;rw [←Fl.o,kD,b8.o] at hM;exact hM
    clear hM hK;go_wp2;go_roundw
    case rel=>exact⟨i+1,by simp,by omega,a7.o.1,a7.o.2⟩
    case measure=>simp [RowKit.intOf];omega
   obtain⟨x,hx⟩:=egf Fl.o e0;obtain⟨g,rfl,hg1,hg2,hg3⟩:=e3.o j x hx;have e5:wi.cell? ⟨g,j,none⟩=some (.int .i64 x):=by
    have:=hK.block g hg2 (by omega);simp only [World.cell?,this] at hg3 ⊢;exact hg3
   obtain⟨A,hA⟩:=enm ((F.take j).foldl iM a0);have c3:Aside ((F.take (j+1)).foldl iM a0=iM A x):=by
    show _=_;rw [mA,hx,GX,hA];rfl
   have e4:A.length≤200000:=by
    rw [←hA];have:=Lu (F.take j) a0;have h2:(F.take j).length≤F.length:=by rw [bT];omega
    have:=b6.o;omega
   rw [hA] at hM;have a6:=TH AC zB zero3 hM x;rw [Ia] at a6;obtain⟨lv,hlv⟩:∃v,(gT x (fQ A 0)).getD (.int .i64 0)=v:=⟨_,rfl⟩;rw [hlv] at a6;replace a6:(Instr.lookup 78 (.map (some mb)) (.int .i64 x) true).run Tryz.prog wi= .ok (.tuple #[lv,.bool (decide (x∈A))]) wi:=a6;obtain⟨e8,hj3,hwj⟩:=elt (i:=j) (n:=lf) (by omega) (by omega);clear hx hA hlv hg1 hg2 hg3
   by_cases a3:x∈A
   case pos=>
    rw [mN a3] at a6;have hP:Aside (gE ikv wi mb (fQ ((F.take (j+1)).foldl iM a0) 0)∧bL (fun k=>k=mb) w5 wi):=⟨by rw [c3.o,iM,if_pos a3];exact hM,hK⟩;clear hM hK a3;go_wp2;go_roundw
    case rel=>exact⟨j+1,by simp,by omega,hP.o.1,hP.o.2⟩
    case measure=>simp [RowKit.intOf];omega
   rw [kU a3] at a6;have b7:=len_of zB hM 3;rw [RZ] at b7;obtain⟨w9,d5,hM9,hg9,hz9⟩:=kW AC zB hM x (.int .i64 (A.length:Nat));rw [Hz a3] at hM9;replace d5:(Instr.mapUpdate 78 (.map (some mb)) (.int .i64 x) (.int .i64 (A.length:Nat))).run Tryz.prog wi= .ok () w9:=d5;have hP:Aside (gE ikv w9 mb (fQ ((F.take (j+1)).foldl iM a0) 0)∧bL (fun k=>k=mb) w5 w9):=⟨by rw [c3.o,iM,if_neg a3];exact hM9,hK.trans ((bL.of_grown hg9).mono fun k _ e=>(bP e).symm) fun k _ e=>e⟩;clear hM hK a3 hM9 hg9 hz9;go_wp2;go_roundw
   case rel=>exact⟨j+1,by simp,by omega,hP.o.1,hP.o.2⟩
   case measure=>simp [RowKit.intOf];omega
end
