/- Lemmas; no condition. -/
import Derived.Test.YtbdpdeonapmlgaaGreatDoorAk
import Derived.Test.YtbdpdeonapmlgaaGreatDoorAl
set_option linter.all false
set_option maxHeartbeats 8000000
set_option maxRecDepth 100000
namespace Go.Proofs.YtbdpdeonapmlgaaGreatDoor
open Go.RowKit Go.Big
def LV:∀(T:Tm) (n:Nat) (w:Wo) (vs:Lv) (k:Nat),TmV n w T vs→n≤w.heap.size→k<1000000→
  Cz 222 #[.agg vs.toArray,.int .i64 k] w fun e w'=>∃r:Nat,e= .returned (.int .i64 r)∧Aside (r=min (k+T.nodes) 1000000)∧Bz w w'
 | .mk kk v nm g num den args,n,w,vs,k,h,hn,hk=>by
  have ih:∀T'∈args,∀(n:Nat) (w:Wo) (vs:Lv) (k:Nat),TmV n w T' vs→n≤w.heap.size→k<1000000→
    Cz 222 #[.agg vs.toArray,.int .i64 k] w fun e w'=>∃r:Nat,e= .returned (.int .i64 r)∧Aside (r=min (k+T'.nodes) 1000000)∧Bz w w':=fun T' a3=>LV T'
  simp only [TmV] at h;obtain⟨s1,s2,a,c,rfl,h1,h2,a2,_,_⟩:=h;obtain⟨len,hl⟩:=enm args.length;rw [hl] at a2 ⊢;have b6:=ewr (i:=k) (by omega);have Al:=aside hl;have a8:=aC w (Obj.cells #[.int .i64 kk,.int .i64 v,.string nm,.bool g,s1,s2,.slice a len c] 48);clear hl h1;show Cz 222 #[.agg #[.int .i64 kk,.int .i64 v,.string nm,.bool g,s1,s2,.slice a len c],.int .i64 k] w _;go_enter Tryz.func222,Tryz.ntmps222;go_wp2
  go_loopw [1,12] (fun s1 b2 wr=>∃(i r:Nat),b2= .int .i64 i∧s1= .int .i64 r∧i≤len∧Aside (r=min (k+1+Tm.nodesL (args.take i)) 1000000)∧Bz w wr) (fun _ s _=>len-(intOf s).toNat)
  case atStart=>exact⟨0,k+1,rfl,by simp,aJ _,(by show k+1=_;simp [Tm.nodesL];omega),a8⟩
  case round=>
   obtain⟨i,r,rfl,rfl,hi,hex,hB⟩:=hrel;have hr:r≤1000000:=by rw [hex.o];exact Nat.min_le_right _ _
   by_cases a9:i<len
   ·obtain⟨T',a3⟩:=egf Al.o a9;obtain⟨b,off,vs',rfl,hbn,hc,hv⟩:=h2.get a3;have a7:=hv;have b0:Aside (∀r3:Nat,Aside (r3=min (r+T'.nodes) 1000000)→r<1000000→r3=min (k+1+Tm.nodesL (args.take (i+1))) 1000000):=by
     show∀r3:Nat,_;intro r3 h3 h4;have h5:=h3.o;have h6:=hex.o;rw [AS a3];omega
    have a5:Aside (¬r<1000000→1000000=min (k+Tm.nodes (.mk kk v nm g num den args)) 1000000):=by
     show¬r<1000000→_;intro h4;have h6:=hex.o;have h7:=AR args i;simp only [Tm.nodes];omega
    match T',hv with
    | .mk k' v' nm' g' num' den' a0,hv=>
     simp only [TmV] at hv;obtain⟨t1,t2,a',c',rfl,⟨⟨p1,q1,rfl,_⟩,⟨p2,q2,rfl,_⟩⟩,_⟩:=hv;have a1:∀p:Addr,p.block<n→wr.cell? p=w.cell? p:=fun p hp=>(hB.mono hn).cell hp
     rw [bT] at hc;have x0:=(a1 ⟨b,off+i*7+0,none⟩ hbn).trans (hc 0 _ rfl);have x1:=(a1 ⟨b,off+i*7+1,none⟩ hbn).trans (hc 1 _ rfl);have x2:=(a1 ⟨b,off+i*7+2,none⟩ hbn).trans (hc 2 _ rfl);have x3:=(a1 ⟨b,off+i*7+3,none⟩ hbn).trans (hc 3 _ rfl);have x4:=(a1 ⟨b,off+i*7+4,none⟩ hbn).trans (hc 4 _ rfl);have x5:=(a1 ⟨b,off+i*7+5,none⟩ hbn).trans (hc 5 _ rfl);have x6:=(a1 ⟨b,off+i*7+6,none⟩ hbn).trans (hc 6 _ rfl);rw [iI] at x0;obtain⟨b4,hi3,hw3⟩:=elt (i:=i) (n:=len) (by omega) (by omega);have a4:Bz w (wr.alloc (Obj.cells #[.int .i64 k',.int .i64 v',.string nm',.bool g',.slice p1 num'.length q1,.slice p2 den'.length q2,.slice a' a0.length c'] 48)):=hB.alloc hB.size _
     by_cases a6:r<1000000
     ·have b1:¬(1000000:Int)≤(r:Int):=by omega
      have d1:=ih _ (aP a3) n (wr.alloc (Obj.cells #[.int .i64 k',.int .i64 v',.string nm',.bool g',.slice p1 num'.length q1,.slice p2 den'.length q2,.slice a' a0.length c'] 48)) _ r (TmV.below a4 hn _ _ a7) (aE hn a4.size) a6;replace d1:Cz 222 #[.agg #[.int .i64 k',.int .i64 v',.string nm',.bool g',.slice p1 num'.length q1,.slice p2 den'.length q2,.slice a' a0.length c'],.int .i64 r] _ _:=d1;generalize a0.length=len',num'.length=ln1,den'.length=ln2 at*;clear h2 ih hc a7 a3 a1
      go_wp2_with (go_at_call 222;with_reducible refine d1.mono ?_;rintro e w3 ⟨r3,rfl,hr5,hb3⟩)
      go_roundw
      case rel=>exact⟨i+1,r3,by simp,rfl,by omega,b0.o r3 hr5 a6,a4.trans (hb3.mono a4.size)⟩
      case measure=>simp [intOf];omega
     ·have b1:(1000000:Int)≤(r:Int):=by omega
      have hL:Aside (1000000=min (k+Tm.nodes (.mk kk v nm g num den args)) 1000000):=a5.o a6;generalize a0.length=len',num'.length=ln1,den'.length=ln2 at*;clear h2 ih hc a7 a3 a1;go_wp2
      go_ret
      exact⟨1000000,rfl,hL.o,a4⟩
   ·obtain rfl:i=len:=by omega
    have hL:Aside (r=min (k+Tm.nodes (.mk kk v nm g num den args)) 1000000):=by
     show r=_;have h6:=hex.o;rw [←Al.o,iP] at h6;simp only [Tm.nodes];omega
    clear h2 ih;go_wp2
    go_ret
    exact⟨r,rfl,hL.o,hB⟩
termination_by T=>SizeOf.sizeOf T
decreasing_by
 simp_wf
 have:=tQ a3;omega
def YF (T:Tm) (n:Nat) (w:Wo) (vs:Lv) (h:TmV n w T vs) (hn:n≤w.heap.size):
  Cz 167 #[.agg vs.toArray] w fun e w'=>∃r:Nat,e= .returned (.int .i64 r)∧Aside (r=min T.nodes 1000000)∧Bz w w':=by
 match T,h with
 | .mk kk v nm g num den args,h=>
  have h0:=h;simp only [TmV] at h;obtain⟨s1,s2,a,c,rfl,⟨⟨p1,q1,rfl,_⟩,⟨p2,q2,rfl,_⟩⟩,_⟩:=h;have hB:=aC w (Obj.cells #[.int .i64 kk,.int .i64 v,.string nm,.bool g,.slice p1 num.length q1,.slice p2 den.length q2,.slice a args.length c] 48);have d1:=LV _ n (w.alloc (Obj.cells #[.int .i64 kk,.int .i64 v,.string nm,.bool g,.slice p1 num.length q1,.slice p2 den.length q2,.slice a args.length c] 48)) _ 0 (TmV.below hB hn _ _ h0) (aE hn hB.size) (by omega);replace d1:Cz 222 #[.agg #[.int .i64 kk,.int .i64 v,.string nm,.bool g,.slice p1 num.length q1,.slice p2 den.length q2,.slice a args.length c],.int .i64 0] _ _:=d1;clear h0;generalize args.length=l0,num.length=l1,den.length=l2 at*;show Cz 167 #[.agg (tA kk v nm g p1 l1 q1 p2 l2 q2 a l0 c)] w _;go_enter Tryz.func167,Tryz.ntmps167
  go_wp2_with (go_at_call 222;with_reducible refine d1.mono ?_;rintro e w3 ⟨r3,rfl,hr4,hb3⟩)
  go_ret
  exact⟨r3,rfl,(by show r3=_;rw [hr4.o,bT]),hB.trans (hb3.mono hB.size)⟩
def Fv (T:Tm) (n:Nat) (w:Wo) (vs:Lv) (h:TmV n w T vs) (hn:n≤w.heap.size):
  Cz 99 #[.agg vs.toArray] w fun e w'=>e= .returned (.int .i64 T.faultE)∧Bz w w':=by
 match T,h with
 | .mk kk v nm g num den args,h=>
  have h0:=h;simp only [TmV] at h;obtain⟨s1,s2,a,c,rfl,⟨⟨p1,q1,rfl,_⟩,⟨p2,q2,rfl,_⟩⟩,_⟩:=h;obtain⟨T,hT⟩:=enm (Tm.mk kk v nm g num den args);rw [hT] at h0 ⊢;obtain⟨l0,hl0⟩:=enm args.length;obtain⟨l1,hl1⟩:=enm num.length;obtain⟨l2,hl2⟩:=enm den.length;rw [hl0,hl1,hl2];rw [hl0,hl1,hl2] at h0;have hB:=aC w (bA kk v nm g p1 l1 q1 p2 l2 q2 a l0 c);have hq:=aK w (bA kk v nm g p1 l1 q1 p2 l2 q2 a l0 c);obtain⟨wb,hwb⟩:=enm (w.alloc (bA kk v nm g p1 l1 q1 p2 l2 q2 a l0 c));have b5:w.heap.size+1≤wb.heap.size:=by rw [←hwb];simp
  rw [hwb] at hB hq;have d1:=YF _ n wb _ (TmV.below hB hn _ _ h0) (aE hn hB.size);have d2:=fun w' (hb:Bz wb w')=>nf_ok _ n w' _ (TmV.below hb (aE hn hB.size) _ _ (TmV.below hB hn _ _ h0)) (aE (aE hn hB.size) hb.size)
  replace d1:Cz 167 #[.agg (tA kk v nm g p1 l1 q1 p2 l2 q2 a l0 c)] _ _:=d1;replace d2:∀w',Bz wb w'→Cz 168 #[.agg (tA kk v nm g p1 l1 q1 p2 l2 q2 a l0 c)] w' fun e b3=>e= .returned (.int .i64 T.errE)∧Bz w' b3:=d2
  have fc:∀w2,Bz wb w2→_:=fun w2 hb=>eG ((hb.block w.heap.size (by omega)).trans hq)
  obtain⟨x0,x1,x2,x3,x4,x5,x6⟩:=fc wb (aG _ _);show Cz 99 #[.agg (tA kk v nm g p1 l1 q1 p2 l2 q2 a l0 c)] w fun e w'=>e= .returned (.int .i64 T.faultE)∧Bz w w'
  clear hl0 hl1 hl2 h0 hq hT;have hN:Aside (T.faultE=if 10000<T.nodes then 3 else T.errE):=rfl
  by_cases a2:10000<T.nodes
  ·have hE:Aside (T.faultE=3):=by show _=_;rw [hN.o,if_pos a2]
   go_enter Tryz.func99,Tryz.ntmps99
   go_wp2_with first|(go_at_call 167;(with_reducible refine d1.mono ?_);rintro e w1 ⟨r1,rfl,hr1,hb1⟩;have a6:(10000:Int)<(r1:Int):=(by have:=hr1.o;omega))
   go_ret
   rw [hE.o];exact⟨rfl,hB.trans (hb1.mono hB.size)⟩
  ·have hE:Aside (T.faultE=T.errE):=by show _=_;rw [hN.o,if_neg a2]
   go_enter Tryz.func99,Tryz.ntmps99
   go_wp2_with first|(go_at_call 167;(with_reducible refine d1.mono ?_);rintro e w1 ⟨r1,rfl,hr1,hb1⟩;have a6:(r1:Int)≤10000:=(by have:=hr1.o;omega);obtain⟨y0,y1,y2,y3,y4,y5,y6⟩:=fc _ hb1;have d3:=d2 _ hb1)|(go_at_call 168;(with_reducible refine d3.mono ?_);rintro e w2 ⟨rfl,a1⟩)
   go_ret
   rw [hE.o];exact⟨rfl,hB.trans ((hb1.trans (a1.mono hb1.size)).mono hB.size)⟩
end Go.Proofs.YtbdpdeonapmlgaaGreatDoor
namespace Go.Proofs.YtbdpdeonapmlgaaGreatDoor
open Go.RowKit Go.Big Go.RowsK Go.MapK
variable {w w':Wo} {v:Value} {S S':List Ind} {a:Option Addr} {base n k i g m j o:Nat}
def iL {T:Tm} (h:T.faultE=0):T.nodes≤10000∧T.errE=0:=by
 unfold Tm.faultE at h;split at h
 ·cases h
 ·exact⟨by omega,h⟩
noncomputable def Cl.flt (C:Cl):Int:=
 if C.h.faultE≠0 then C.h.faultE else if C.b.faultE≠0 then C.b.faultE else if C.numB=false then 2 else if C.h.callB=false then 7 else if C.h.bi=true then 8 else if C.b.litsB=false then 7 else 0
def Ar (C:Cl) (n:Nat) (w:Wo) (vs:Lv) (h:ClV n w C vs) (hn:n≤w.heap.size):
  Cz 120 #[.agg vs.toArray] w fun e w'=>e= .returned (.int .i64 C.flt)∧Bz w w':=by
 have hC:=h;obtain⟨vh,vb,rfl,h1,h2⟩:=h;obtain⟨FL,hFL⟩:∃f,C.flt=f:=⟨_,rfl⟩;rw [hFL];have a5:Aside (∀(T:Tm) (w2:Wo) (us:Lv),TmV n w2 T us→n≤w2.heap.size→_):=fun T w2 us a b=>Ig T n w2 us a b
 have a8:Aside (∀(w2:Wo),Bz w w2→C.h.faultE=0→C.b.faultE=0→_):=fun w2 hb ha c5=>An C n w2 (lY vh vb C.vars) (hC.below hb hn) (aE hn hb.size) (by have:=(iL ha).1;have:=(iL c5).1;omega)
 have a7:Aside (∀(w2:Wo),Bz w w2→C.b.faultE=0→_):=fun w2 hb ha=>AG C.b n w2 vb (iL ha).2 (iL ha).1 (TmV.below hb hn _ _ h2) (aE hn hb.size)
 obtain⟨fh,hfh⟩:∃f,C.h.faultE=f:=⟨_,rfl⟩;obtain⟨fb,hfb⟩:∃f,C.b.faultE=f:=⟨_,rfl⟩;obtain⟨nb,hnb⟩:∃f,C.numB=f:=⟨_,rfl⟩;obtain⟨cb,hcb⟩:∃f,C.h.callB=f:=⟨_,rfl⟩;obtain⟨bi,hbi⟩:∃f,C.h.bi=f:=⟨_,rfl⟩;obtain⟨lb,hlb⟩:∃f,C.b.litsB=f:=⟨_,rfl⟩;have a0:Aside (FL=if fh≠0 then fh else if fb≠0 then fb else if nb=false then 2 else if cb=false then 7 else if bi=true then 8 else if lb=false then 7 else 0):=by
  show FL=_;rw [←hFL,←hfh,←hfb,←hnb,←hcb,←hbi,←hlb];rfl
 have dh:=fun w2 (hb:Bz w w2)=>a5.o C.h w2 vh (TmV.below hb hn _ _ h1) (aE hn hb.size)
 have db:=fun w2 (hb:Bz w w2)=>a5.o C.b w2 vb (TmV.below hb hn _ _ h2) (aE hn hb.size)
 rw [hfh] at dh;rw [hfb] at db;have a3:fh=0→fb=0→∀w2,Bz w w2→_:=fun a b w2 hb=>a8.o w2 hb (hfh.trans a) (hfb.trans b)
 have a4:fb=0→∀w2,Bz w w2→_:=fun b w2 hb=>a7.o w2 hb (hfb.trans b)
 rw [hnb] at a3;have b2:=aside dh;have b5:=aside db;have a6:=aside a3;have b3:Aside (fb=0→∀w2,Bz w w2→Cz 59 #[.agg vb.toArray] w2 fun e w'=>∃v,e= .returned (.tuple #[v,.bool lb])∧Bz w2 w'):=fun b w2 hb=>(a4 b w2 hb).mono fun e w' hp=>by
  obtain⟨v,e1,_,e3⟩:=hp;exact⟨v,by rw [e1,hlb],e3⟩
 clear dh db a3 a4 a5 a8 a7 hC hFL hfh hfb hnb hlb;obtain⟨th,tb,vars⟩:=C;dsimp only at h1 h2 hcb hbi a6;obtain⟨k1,v1,nm1,g1,b6,den1,args1⟩:=th;obtain⟨k2,v2,nm2,g2,num2,den2,args2⟩:=tb;simp only [TmV] at h1 h2;obtain⟨_,_,a1,c1,rfl,⟨⟨p1,q1,rfl,_⟩,⟨p2,q2,rfl,_⟩⟩,_⟩:=h1;obtain⟨_,_,a2,c2,rfl,⟨⟨p3,q3,rfl,_⟩,⟨p4,q4,rfl,_⟩⟩,_⟩:=h2;obtain⟨l1,hl1⟩:∃l,args1.length=l:=⟨_,rfl⟩;generalize b6.length=n1,den1.length=n2,args2.length=l2,num2.length=n3,den2.length=n4 at*;rw [hl1] at b2 a6 ⊢;have c0:Aside (∀w2,Cz 89 #[.agg (tA k1 v1 nm1 g1 p1 n1 q1 p2 n2 q2 a1 l1 c1)] w2 fun e w'=>e= .returned (.bool cb)∧Bz w2 w'):=fun w2=>by rw [←hcb];exact IJ k1 v1 nm1 g1 _ _ _ w2
 have b8:Aside (∀w2,Cz 26 #[.agg (tA k1 v1 nm1 g1 p1 n1 q1 p2 n2 q2 a1 l1 c1)] w2 fun e w'=>e= .returned (.agg #[.string nm1,.int .i64 l1])∧Bz w2 w'):=fun w2=>qK k1 v1 nm1 g1 _ _ _ _ _ w2
 have b9:Aside (∀w2,Cz 74 #[.agg #[.string nm1,.int .i64 l1]] w2 fun e w'=>e= .returned (.bool bi)∧Bz w2 w'):=fun w2=>by
  have:biB nm1.toList l1=bi:=by rw [←hbi,←hl1];rfl
  rw [←this];exact AJ nm1 l1 w2
 replace b2:Aside (∀w2,Bz w w2→Cz 87 #[.agg (tA k1 v1 nm1 g1 p1 n1 q1 p2 n2 q2 a1 l1 c1)] w2 fun e w'=>e= .returned (.int .i64 fh)∧Bz w2 w'):=b2;replace b5:Aside (∀w2,Bz w w2→Cz 87 #[.agg (tA k2 v2 nm2 g2 p3 n3 q3 p4 n4 q4 a2 l2 c2)] w2 fun e w'=>e= .returned (.int .i64 fb)∧Bz w2 w'):=b5;replace a6:Aside (fh=0→fb=0→∀w2,Bz w w2→Cz 182 #[.agg (tC k1 v1 nm1 g1 p1 n1 q1 p2 n2 q2 a1 l1 c1 k2 v2 nm2 g2 p3 n3 q3 p4 n4 q4 a2 l2 c2 vars)] w2 fun e w'=>e= .returned (.bool nb)∧Bz w2 w'):=a6;replace b3:Aside (fb=0→∀w2,Bz w w2→Cz 59 #[.agg (tA k2 v2 nm2 g2 p3 n3 q3 p4 n4 q4 a2 l2 c2)] w2 fun e w'=>∃v,e= .returned (.tuple #[v,.bool lb])∧Bz w2 w'):=b3;obtain⟨wb,hwb,b0,hq,hsz⟩:=ebx w (bC k1 v1 nm1 g1 p1 n1 q1 p2 n2 q2 a1 l1 c1 k2 v2 nm2 g2 p3 n3 q3 p4 n4 q4 a2 l2 c2 vars);have fa:Aside (∀w2,Bz wb w2→_):=fun(w2:Wo) (hb:Bz wb w2)=>mV ((hb.block w.heap.size (by omega)).trans hq)
 obtain⟨x0,x1,x2,x3,x4,x5,x6,x7,x8,x9,x10,x11,x12,x13,x14⟩:=fa.o wb (aG _ _);have e0:Bz wb wb:=aG _ _;have b4:Aside (∀w2,Bz wb w2→Bz w w2):=fun w2 hb=>b0.trans (hb.mono b0.size)
 clear hq hsz hcb hbi hl1;show Cz 120 #[.agg (tC k1 v1 nm1 g1 p1 n1 q1 p2 n2 q2 a1 l1 c1 k2 v2 nm2 g2 p3 n3 q3 p4 n4 q4 a2 l2 c2 vars)] w _;go_enter Tryz.func120,Tryz.ntmps120
 go_upto_region 1 with fail
 clear hwb
 go_wp2_with (go_at_call 87;with_reducible refine(b2.o _ (b4.o _ e0)).mono ?_)
 rintro e w1 ⟨rfl,hb1⟩;have e1:Bz wb w1:=e0.trans (hb1.mono e0.size);clear x0 x1 x2 x3 x4 x5 x6 x7 x8 x9 x10 x11 x12 x13 x14;obtain⟨x0,x1,x2,x3,x4,x5,x6,x7,x8,x9,x10,x11,x12,x13,x14⟩:=fa.o w1 e1;clear hb1
 by_cases a9:fh=0
 case neg=>
  have f1:(fh==0)=false:=by simpa using a9
  have f2:(fh !=0)=true:=by simpa using a9
  obtain rfl:FL=fh:=by have:=a0.o;rw [if_pos a9] at this;exact this
  clear a9;clear a0;go_wp2
  go_ret
  exact⟨rfl,b0.trans (e1.mono b0.size)⟩
 subst a9;have b7:Aside (fb=0→∀w2,Bz w w2→Cz 182 #[.agg (tC k1 v1 nm1 g1 p1 n1 q1 p2 n2 q2 a1 l1 c1 k2 v2 nm2 g2 p3 n3 q3 p4 n4 q4 a2 l2 c2 vars)] w2 fun e w'=>e= .returned (.bool nb)∧Bz w2 w'):=a6.o rfl;clear a6
 go_wp2_with (go_at_call 87;with_reducible refine(b5.o _ (b4.o _ e1)).mono ?_)
 rintro e w2 ⟨rfl,hb2⟩;have e2:Bz wb w2:=e1.trans (hb2.mono e1.size);clear x0 x1 x2 x3 x4 x5 x6 x7 x8 x9 x10 x11 x12 x13 x14;obtain⟨x0,x1,x2,x3,x4,x5,x6,x7,x8,x9,x10,x11,x12,x13,x14⟩:=fa.o w2 e2;clear hb2
 by_cases b1:fb=0
 case neg=>
  have f1:(fb==0)=false:=by simpa using b1
  have f2:(fb !=0)=true:=by simpa using b1
  obtain rfl:FL=fb:=by have:=a0.o;rw [if_neg (by simp),if_pos b1] at this;exact this
  clear b1;clear a0;go_wp2
  go_ret
  exact⟨rfl,b0.trans (e2.mono b0.size)⟩
 subst b1;have c4:Aside (∀w2,Bz w w2→Cz 182 #[.agg (tC k1 v1 nm1 g1 p1 n1 q1 p2 n2 q2 a1 l1 c1 k2 v2 nm2 g2 p3 n3 q3 p4 n4 q4 a2 l2 c2 vars)] w2 fun e w'=>e= .returned (.bool nb)∧Bz w2 w'):=b7.o rfl;have c3:Aside (∀w2,Bz w w2→Cz 59 #[.agg (tA k2 v2 nm2 g2 p3 n3 q3 p4 n4 q4 a2 l2 c2)] w2 fun e w'=>∃v,e= .returned (.tuple #[v,.bool lb])∧Bz w2 w'):=b3.o rfl;clear b7 b3
 go_wp2_with (go_at_call 59;with_reducible refine(c3.o _ (b4.o _ e2)).mono ?_)
 rintro e w3 ⟨vl,rfl,hb3⟩;have e3:Bz wb w3:=e2.trans (hb3.mono e2.size);clear x0 x1 x2 x3 x4 x5 x6 x7 x8 x9 x10 x11 x12 x13 x14;obtain⟨x0,x1,x2,x3,x4,x5,x6,x7,x8,x9,x10,x11,x12,x13,x14⟩:=fa.o w3 e3;clear hb3
 go_wp2_with (go_at_call 182;with_reducible refine(c4.o _ (b4.o _ e3)).mono ?_)
 rintro e w4 ⟨rfl,hb4⟩;have e4:Bz wb w4:=e3.trans (hb4.mono e3.size);clear x0 x1 x2 x3 x4 x5 x6 x7 x8 x9 x10 x11 x12 x13 x14;obtain⟨x0,x1,x2,x3,x4,x5,x6,x7,x8,x9,x10,x11,x12,x13,x14⟩:=fa.o w4 e4;clear hb4;cases nb
 case false=>
  obtain rfl:FL=2:=a0.o;clear a0;go_wp2
  go_ret
  exact⟨rfl,b0.trans (e4.mono b0.size)⟩
 go_wp2_with (go_at_call 89;with_reducible refine(c0.o _).mono ?_)
 rintro e w5 ⟨rfl,hb5⟩;have e5:Bz wb w5:=e4.trans (hb5.mono e4.size);clear x0 x1 x2 x3 x4 x5 x6 x7 x8 x9 x10 x11 x12 x13 x14;obtain⟨x0,x1,x2,x3,x4,x5,x6,x7,x8,x9,x10,x11,x12,x13,x14⟩:=fa.o w5 e5;clear hb5;cases cb
 case false=>
  obtain rfl:FL=7:=a0.o;clear a0;go_wp2
  go_ret
  exact⟨rfl,b0.trans (e5.mono b0.size)⟩
 go_wp2_with (go_at_call 26;with_reducible refine(b8.o _).mono ?_)
 rintro e w6 ⟨rfl,hb6⟩;have e6:Bz wb w6:=e5.trans (hb6.mono e5.size);clear x0 x1 x2 x3 x4 x5 x6 x7 x8 x9 x10 x11 x12 x13 x14;obtain⟨x0,x1,x2,x3,x4,x5,x6,x7,x8,x9,x10,x11,x12,x13,x14⟩:=fa.o w6 e6;clear hb6
 go_wp2_with (go_at_call 74;with_reducible refine(b9.o _).mono ?_)
 rintro e w7 ⟨rfl,hb7⟩;have e7:Bz wb w7:=e6.trans (hb7.mono e6.size);clear x0 x1 x2 x3 x4 x5 x6 x7 x8 x9 x10 x11 x12 x13 x14;obtain⟨x0,x1,x2,x3,x4,x5,x6,x7,x8,x9,x10,x11,x12,x13,x14⟩:=fa.o w7 e7;clear hb7;cases bi
 case true=>
  obtain rfl:FL=8:=a0.o;clear a0;go_wp2
  go_ret
  exact⟨rfl,b0.trans (e7.mono b0.size)⟩
 cases lb
 case false=>
  obtain rfl:FL=7:=a0.o;clear a0;go_wp2
  go_ret
  exact⟨rfl,b0.trans (e7.mono b0.size)⟩
 obtain rfl:FL=0:=a0.o;clear a0;go_wp2
 go_ret
 exact⟨rfl,b0.trans (e7.mono b0.size)⟩
def Ac (C:Cl) (n:Nat) (w:Wo) (vs:Lv) (h:ClV n w C vs) (hn:n≤w.heap.size):
  Cz 78 #[.agg vs.toArray] w fun e w'=>e= .returned (.int .i64 C.flt)∧Bz w w':=by
 have hC:=h;obtain⟨vh,vb,rfl,h1,h2⟩:=h;obtain⟨FL,hFL⟩:∃f,C.flt=f:=⟨_,rfl⟩;rw [hFL];have a5:Aside (∀(T:Tm) (w2:Wo) (us:Lv),TmV n w2 T us→n≤w2.heap.size→_):=fun T w2 us a b=>Fv T n w2 us a b
 have a8:Aside (∀(w2:Wo),Bz w w2→C.h.faultE=0→C.b.faultE=0→_):=fun w2 hb ha c5=>ZK C n w2 (lY vh vb C.vars) (hC.below hb hn) (aE hn hb.size) (by have:=(iL ha).1;have:=(iL c5).1;omega)
 have a7:Aside (∀(w2:Wo),Bz w w2→C.b.faultE=0→_):=fun w2 hb ha=>zU C.b n w2 vb (iL ha).2 (iL ha).1 (TmV.below hb hn _ _ h2) (aE hn hb.size)
 obtain⟨fh,hfh⟩:∃f,C.h.faultE=f:=⟨_,rfl⟩;obtain⟨fb,hfb⟩:∃f,C.b.faultE=f:=⟨_,rfl⟩;obtain⟨nb,hnb⟩:∃f,C.numB=f:=⟨_,rfl⟩;obtain⟨cb,hcb⟩:∃f,C.h.callB=f:=⟨_,rfl⟩;obtain⟨bi,hbi⟩:∃f,C.h.bi=f:=⟨_,rfl⟩;obtain⟨lb,hlb⟩:∃f,C.b.litsB=f:=⟨_,rfl⟩;have a0:Aside (FL=if fh≠0 then fh else if fb≠0 then fb else if nb=false then 2 else if cb=false then 7 else if bi=true then 8 else if lb=false then 7 else 0):=by
  show FL=_;rw [←hFL,←hfh,←hfb,←hnb,←hcb,←hbi,←hlb];rfl
 have dh:=fun w2 (hb:Bz w w2)=>a5.o C.h w2 vh (TmV.below hb hn _ _ h1) (aE hn hb.size)
 have db:=fun w2 (hb:Bz w w2)=>a5.o C.b w2 vb (TmV.below hb hn _ _ h2) (aE hn hb.size)
 rw [hfh] at dh;rw [hfb] at db;have a3:fh=0→fb=0→∀w2,Bz w w2→_:=fun a b w2 hb=>a8.o w2 hb (hfh.trans a) (hfb.trans b)
 have a4:fb=0→∀w2,Bz w w2→_:=fun b w2 hb=>a7.o w2 hb (hfb.trans b)
 rw [hnb] at a3;have b2:=aside dh;have b5:=aside db;have a6:=aside a3;have b3:Aside (fb=0→∀w2,Bz w w2→Cz 20 #[.agg vb.toArray] w2 fun e w'=>∃v,e= .returned (.tuple #[v,.bool lb])∧Bz w2 w'):=fun b w2 hb=>(a4 b w2 hb).mono fun e w' hp=>by
  obtain⟨v,e1,_,e3⟩:=hp;exact⟨v,by rw [e1,hlb],e3⟩
 clear dh db a3 a4 a5 a8 a7 hC hFL hfh hfb hnb hlb;obtain⟨th,tb,vars⟩:=C;dsimp only at h1 h2 hcb hbi a6;obtain⟨k1,v1,nm1,g1,b6,den1,args1⟩:=th;obtain⟨k2,v2,nm2,g2,num2,den2,args2⟩:=tb;simp only [TmV] at h1 h2;obtain⟨_,_,a1,c1,rfl,⟨⟨p1,q1,rfl,_⟩,⟨p2,q2,rfl,_⟩⟩,_⟩:=h1;obtain⟨_,_,a2,c2,rfl,⟨⟨p3,q3,rfl,_⟩,⟨p4,q4,rfl,_⟩⟩,_⟩:=h2;obtain⟨l1,hl1⟩:∃l,args1.length=l:=⟨_,rfl⟩;generalize b6.length=n1,den1.length=n2,args2.length=l2,num2.length=n3,den2.length=n4 at*;rw [hl1] at b2 a6 ⊢;have c0:Aside (∀w2,Cz 117 #[.agg (tA k1 v1 nm1 g1 p1 n1 q1 p2 n2 q2 a1 l1 c1)] w2 fun e w'=>e= .returned (.bool cb)∧Bz w2 w'):=fun w2=>by rw [←hcb];exact FE k1 v1 nm1 g1 _ _ _ w2
 have b8:Aside (∀w2,Cz 39 #[.agg (tA k1 v1 nm1 g1 p1 n1 q1 p2 n2 q2 a1 l1 c1)] w2 fun e w'=>e= .returned (.agg #[.string nm1,.int .i64 l1])∧Bz w2 w'):=fun w2=>nW k1 v1 nm1 g1 _ _ _ _ _ w2
 have b9:Aside (∀w2,Cz 29 #[.agg #[.string nm1,.int .i64 l1]] w2 fun e w'=>e= .returned (.bool bi)∧Bz w2 w'):=fun w2=>by
  have:biB nm1.toList l1=bi:=by rw [←hbi,←hl1];rfl
  rw [←this];exact AB nm1 l1 w2
 replace b2:Aside (∀w2,Bz w w2→Cz 99 #[.agg (tA k1 v1 nm1 g1 p1 n1 q1 p2 n2 q2 a1 l1 c1)] w2 fun e w'=>e= .returned (.int .i64 fh)∧Bz w2 w'):=b2;replace b5:Aside (∀w2,Bz w w2→Cz 99 #[.agg (tA k2 v2 nm2 g2 p3 n3 q3 p4 n4 q4 a2 l2 c2)] w2 fun e w'=>e= .returned (.int .i64 fb)∧Bz w2 w'):=b5;replace a6:Aside (fh=0→fb=0→∀w2,Bz w w2→Cz 142 #[.agg (tC k1 v1 nm1 g1 p1 n1 q1 p2 n2 q2 a1 l1 c1 k2 v2 nm2 g2 p3 n3 q3 p4 n4 q4 a2 l2 c2 vars)] w2 fun e w'=>e= .returned (.bool nb)∧Bz w2 w'):=a6;replace b3:Aside (fb=0→∀w2,Bz w w2→Cz 20 #[.agg (tA k2 v2 nm2 g2 p3 n3 q3 p4 n4 q4 a2 l2 c2)] w2 fun e w'=>∃v,e= .returned (.tuple #[v,.bool lb])∧Bz w2 w'):=b3;obtain⟨wb,hwb,b0,hq,hsz⟩:=ebx w (bC k1 v1 nm1 g1 p1 n1 q1 p2 n2 q2 a1 l1 c1 k2 v2 nm2 g2 p3 n3 q3 p4 n4 q4 a2 l2 c2 vars);have fa:Aside (∀w2,Bz wb w2→_):=fun(w2:Wo) (hb:Bz wb w2)=>mV ((hb.block w.heap.size (by omega)).trans hq)
 obtain⟨x0,x1,x2,x3,x4,x5,x6,x7,x8,x9,x10,x11,x12,x13,x14⟩:=fa.o wb (aG _ _);have e0:Bz wb wb:=aG _ _;have b4:Aside (∀w2,Bz wb w2→Bz w w2):=fun w2 hb=>b0.trans (hb.mono b0.size)
 clear hq hsz hcb hbi hl1;show Cz 78 #[.agg (tC k1 v1 nm1 g1 p1 n1 q1 p2 n2 q2 a1 l1 c1 k2 v2 nm2 g2 p3 n3 q3 p4 n4 q4 a2 l2 c2 vars)] w _;go_enter Tryz.func78,Tryz.ntmps78
 go_upto_region 1 with fail
 clear hwb
 go_wp2_with (go_at_call 99;with_reducible refine(b2.o _ (b4.o _ e0)).mono ?_)
 rintro e w1 ⟨rfl,hb1⟩;have e1:Bz wb w1:=e0.trans (hb1.mono e0.size);clear x0 x1 x2 x3 x4 x5 x6 x7 x8 x9 x10 x11 x12 x13 x14;obtain⟨x0,x1,x2,x3,x4,x5,x6,x7,x8,x9,x10,x11,x12,x13,x14⟩:=fa.o w1 e1;clear hb1
 by_cases a9:fh=0
 case neg=>
  have f1:(fh==0)=false:=by simpa using a9
  have f2:(fh !=0)=true:=by simpa using a9
  obtain rfl:FL=fh:=by have:=a0.o;rw [if_pos a9] at this;exact this
  clear a9;clear a0;go_wp2
  go_ret
  exact⟨rfl,b0.trans (e1.mono b0.size)⟩
 subst a9;have b7:Aside (fb=0→∀w2,Bz w w2→Cz 142 #[.agg (tC k1 v1 nm1 g1 p1 n1 q1 p2 n2 q2 a1 l1 c1 k2 v2 nm2 g2 p3 n3 q3 p4 n4 q4 a2 l2 c2 vars)] w2 fun e w'=>e= .returned (.bool nb)∧Bz w2 w'):=a6.o rfl;clear a6
 go_wp2_with (go_at_call 99;with_reducible refine(b5.o _ (b4.o _ e1)).mono ?_)
 rintro e w2 ⟨rfl,hb2⟩;have e2:Bz wb w2:=e1.trans (hb2.mono e1.size);clear x0 x1 x2 x3 x4 x5 x6 x7 x8 x9 x10 x11 x12 x13 x14;obtain⟨x0,x1,x2,x3,x4,x5,x6,x7,x8,x9,x10,x11,x12,x13,x14⟩:=fa.o w2 e2;clear hb2
 by_cases b1:fb=0
 case neg=>
  have f1:(fb==0)=false:=by simpa using b1
  have f2:(fb !=0)=true:=by simpa using b1
  obtain rfl:FL=fb:=by have:=a0.o;rw [if_neg (by simp),if_pos b1] at this;exact this
  clear b1;clear a0;go_wp2
  go_ret
  exact⟨rfl,b0.trans (e2.mono b0.size)⟩
 subst b1;have c4:Aside (∀w2,Bz w w2→Cz 142 #[.agg (tC k1 v1 nm1 g1 p1 n1 q1 p2 n2 q2 a1 l1 c1 k2 v2 nm2 g2 p3 n3 q3 p4 n4 q4 a2 l2 c2 vars)] w2 fun e w'=>e= .returned (.bool nb)∧Bz w2 w'):=b7.o rfl;have c3:Aside (∀w2,Bz w w2→Cz 20 #[.agg (tA k2 v2 nm2 g2 p3 n3 q3 p4 n4 q4 a2 l2 c2)] w2 fun e w'=>∃v,e= .returned (.tuple #[v,.bool lb])∧Bz w2 w'):=b3.o rfl;clear b7 b3
 go_wp2_with (go_at_call 142;with_reducible refine(c4.o _ (b4.o _ e2)).mono ?_)
 rintro e w3 ⟨rfl,hb3⟩;have e3:Bz wb w3:=e2.trans (hb3.mono e2.size);clear x0 x1 x2 x3 x4 x5 x6 x7 x8 x9 x10 x11 x12 x13 x14;obtain⟨x0,x1,x2,x3,x4,x5,x6,x7,x8,x9,x10,x11,x12,x13,x14⟩:=fa.o w3 e3;clear hb3;cases nb
 case false=>
  obtain rfl:FL=2:=a0.o;clear a0;go_wp2
  go_ret
  exact⟨rfl,b0.trans (e3.mono b0.size)⟩
 go_wp2_with (go_at_call 117;with_reducible refine(c0.o _).mono ?_)
 rintro e w4 ⟨rfl,hb4⟩;have e4:Bz wb w4:=e3.trans (hb4.mono e3.size);clear x0 x1 x2 x3 x4 x5 x6 x7 x8 x9 x10 x11 x12 x13 x14;obtain⟨x0,x1,x2,x3,x4,x5,x6,x7,x8,x9,x10,x11,x12,x13,x14⟩:=fa.o w4 e4;clear hb4;cases cb
 case false=>
  obtain rfl:FL=7:=a0.o;clear a0;go_wp2
  go_ret
  exact⟨rfl,b0.trans (e4.mono b0.size)⟩
 go_wp2_with (go_at_call 39;with_reducible refine(b8.o _).mono ?_)
 rintro e w5 ⟨rfl,hb5⟩;have e5:Bz wb w5:=e4.trans (hb5.mono e4.size);clear x0 x1 x2 x3 x4 x5 x6 x7 x8 x9 x10 x11 x12 x13 x14;obtain⟨x0,x1,x2,x3,x4,x5,x6,x7,x8,x9,x10,x11,x12,x13,x14⟩:=fa.o w5 e5;clear hb5
 go_wp2_with (go_at_call 29;with_reducible refine(b9.o _).mono ?_)
 rintro e w6 ⟨rfl,hb6⟩;have e6:Bz wb w6:=e5.trans (hb6.mono e5.size);clear x0 x1 x2 x3 x4 x5 x6 x7 x8 x9 x10 x11 x12 x13 x14;obtain⟨x0,x1,x2,x3,x4,x5,x6,x7,x8,x9,x10,x11,x12,x13,x14⟩:=fa.o w6 e6;clear hb6;cases bi
 case true=>
  obtain rfl:FL=8:=a0.o;clear a0;go_wp2
  go_ret
  exact⟨rfl,b0.trans (e6.mono b0.size)⟩
 go_wp2_with (go_at_call 20;with_reducible refine(c3.o _ (b4.o _ e6)).mono ?_)
 rintro e w7 ⟨vl,rfl,hb7⟩;have e7:Bz wb w7:=e6.trans (hb7.mono e6.size);clear x0 x1 x2 x3 x4 x5 x6 x7 x8 x9 x10 x11 x12 x13 x14;obtain⟨x0,x1,x2,x3,x4,x5,x6,x7,x8,x9,x10,x11,x12,x13,x14⟩:=fa.o w7 e7;clear hb7;cases lb
 case false=>
  obtain rfl:FL=7:=a0.o;clear a0;go_wp2
  go_ret
  exact⟨rfl,b0.trans (e7.mono b0.size)⟩
 obtain rfl:FL=0:=a0.o;clear a0;go_wp2
 go_ret
 exact⟨rfl,b0.trans (e7.mono b0.size)⟩
def CellsAt (w:Wo) (g off:Nat) (vs:Lv):Prop:=∀(j:Nat) u,vs[j]?=some u→w.cell? ⟨g,off+j,none⟩=some u
def CellsAt.below {off:Nat} {vs:Lv} (h:CellsAt w g off vs) (hb:Below n w w') (hg:g<n):CellsAt w' g off vs:=fun j u hj=>(hb.cell (p:=⟨g,off+j,none⟩) hg).trans (h j u hj)
def ClsV (n:Nat) (w:Wo) (L:List Cl) (a:Option Addr):Prop:=
 ∀(k:Nat) C,L[k]?=some C→∃g off vs,a=some ⟨g,off,none⟩∧g<n∧CellsAt w g (off+k*15) vs∧ClV n w C vs
def ClsV.below {L:List Cl} (h:ClsV n w L a) (hb:Below m w w') (hm:n≤m):ClsV n w' L a:=fun k C hk=>by
 obtain⟨g,off,vs,e,hg,hc,h1⟩:=h k C hk;exact⟨g,off,vs,e,hg,hc.below hb (by omega),h1.below hb hm⟩
def pU:List Tm→Option Ind
 | []=>none
 |A::_=>some A.ind
def Tm.args:Tm→List Tm
 | .mk _ _ _ _ _ _ args=>args
def Tm.atomI (T:Tm):Option Ind:=if T.kd=1 then some T.ind else if T.kd=2 then pU T.args else none
def Cl.atoms (C:Cl):List Ind:=C.b.lits.filterMap Tm.atomI
def lB (k:Ind) (C:Cl):List Ind:=if C.h.ind=k then C.atoms else []
def aV (P:List Cl) (k:Ind):List Ind:=P.flatMap (lB k)
def RT {P:List Cl} {k:Ind} {C:Cl} (h:P[i]?=some C):aV (P.take (i+1)) k=aV (P.take i) k++lB k C:=by
 unfold aV;rw [gK,h];simp
def qX {C:Cl} (h:C.flt=0):C.h.faultE=0∧C.b.faultE=0∧C.numB=true∧C.h.callB=true∧C.h.bi=false∧C.b.litsB=true:=by
 unfold Cl.flt at h
 by_cases h1:C.h.faultE=0
 ·by_cases h2:C.b.faultE=0
  ·simp only [h1,h2,ne_eq,UQ,fN] at h;cases e1:C.numB
   ·simp [e1] at h
   ·cases e2:C.h.callB
    ·simp [e1,e2] at h
    ·cases e3:C.h.bi
     ·cases e4:C.b.litsB
      ·simp [e1,e2,e3,e4] at h
      ·exact⟨h1,h2,rfl,rfl,rfl,rfl⟩
     ·simp [e1,e2,e3] at h
  ·simp [h1,h2] at h
 ·simp [h1] at h
def yI {C:Cl} (h:C.flt=0):C.b.lits.length≤10000:=by
 have:=(iL (qX h).2.1).1;have:=qQ C.b;omega
def BR {T:Tm} (h:T.kd=2):∃A,T.args= [A]:=by
 obtain⟨k,v,nm,g,num,den,args⟩:=T;simp only [Tm.kd] at h;split at h
 ·cases h
 ·split at h
  ·rename_i h1;simp only [aN,rI] at h1;have:args.length=1:=by have:=h1.2;omega
   exact WB.1 this
  ·split at h
   ·cases h
   ·split at h
    ·unfold bkN at h
     repeat' split at h
     all_goals cases h
    ·cases h
def OutT.read {L:List Tm} (h:OutT n base w v L):∃a c,v= .slice a L.length c∧∀(k:Nat) T,L[k]?=some T→∃g vs,a=some ⟨g,0,none⟩∧g<w.heap.size∧TmV n w T vs∧∀(j:Nat) u,vs[j]?=some u→w.cell? ⟨g,k*7+j,none⟩=some u:=by
 obtain⟨X,h1,h2⟩:=h;obtain⟨a,c,rfl,hr⟩:=gL h1;refine⟨a,c,rfl,fun k T hk=>?_⟩;rcases hr with h0|⟨g,e,_,hg,hc⟩
 ·have:=(aO.1 hk).1;omega
 ·obtain⟨vs,h3,h4⟩:=h2.get hk;exact⟨g,vs,e,hg,h3,fun j u hj=>hc _ _ (h4 j u hj)⟩
section
attribute [local go_sem] Heavy.uponW
def ClsV.read {L:List Cl} {C:Cl} (h:ClsV n w L a) (hk:L[i]?=some C):∃g off vh vb,a=some ⟨g,off,none⟩∧g<n∧CellsAt w g (off+i*15) (lY vh vb C.vars)∧TmV n w C.h vh∧TmV n w C.b vb:=by
 obtain⟨g,off,vs,e,hg,hc,vh,vb,rfl,h1,h2⟩:=h i C hk;exact⟨g,off,vh,vb,e,hg,hc,h1,h2⟩
def sR {u0 u1 u2 u3 u4 u5 u6 u7 u8 u9 f2 f3 f4 f5 f6:Value} (h:CellsAt w g o [u0,u1,u2,u3,u4,u5,u6,u7,u8,u9,f2,f3,f4,f5,f6]):w.cell? ⟨g,o,none⟩=some u0∧w.cell? ⟨g,o+1,none⟩=some u1∧w.cell? ⟨g,o+2,none⟩=some u2∧w.cell? ⟨g,o+3,none⟩=some u3∧w.cell? ⟨g,o+4,none⟩=some u4∧w.cell? ⟨g,o+5,none⟩=some u5∧w.cell? ⟨g,o+6,none⟩=some u6∧w.cell? ⟨g,o+7,none⟩=some u7∧w.cell? ⟨g,o+8,none⟩=some u8∧w.cell? ⟨g,o+9,none⟩=some u9∧w.cell? ⟨g,o+10,none⟩=some f2∧w.cell? ⟨g,o+11,none⟩=some f3∧w.cell? ⟨g,o+12,none⟩=some f4∧w.cell? ⟨g,o+13,none⟩=some f5∧w.cell? ⟨g,o+14,none⟩=some f6:=
 ⟨h 0 _ rfl,h 1 _ rfl,h 2 _ rfl,h 3 _ rfl,h 4 _ rfl,h 5 _ rfl,h 6 _ rfl,h 7 _ rfl,h 8 _ rfl,h 9 _ rfl,h 10 _ rfl,h 11 _ rfl,h 12 _ rfl,h 13 _ rfl,h 14 _ rfl⟩
def DirP (w:Wo) (P:List Cl) (k:Ind) (e:Ending) (w':Wo):Prop:=
 ∃v L,e= .returned v∧aD w.heap.size w' v L∧L.Nodup∧(∀y,y∈L↔y∈aV P k)∧L.length≤3000000∧Bz w w'
def bO (base:Nat) (w:Wo) (v:Value) (S:List Ind) (m:Nat):Prop:=∃L,aD base w v L∧L.Nodup∧(∀y,y∈L↔y∈S)∧L.length≤m
def bO.below (h:bO base w v S k) (hb:Below m w w') (hm:w.heap.size≤m):bO base w' v S k:=by
 obtain⟨L,h1,h2⟩:=h;exact⟨L,h1.below hb hm,h2⟩
def bO.mono {k':Nat} (h:bO base w v S k) (hS:S=S') (hk:k≤k'):bO base w v S' k':=by
 obtain⟨L,h1,h2,h3,h4⟩:=h;exact⟨L,h1,h2,hS▸h3,by omega⟩
def bO.sorted (h:bO base w v S k) (g8:base≤w.heap.size) (hk:k≤1000000000) (x:ByteArray) (m:Int):
  Cz 147 #[v,.agg #[.string x,.int .i64 m]] w fun e w'=>∃v',e= .returned v'∧bO base w' v' (S++ [(x,m)]) (k+1)∧Bz w w':=by
 obtain⟨L,h1,h2,h3,h4⟩:=h;refine(XZ L x m base w v h1 g8 (by omega)).mono ?_;rintro e w' ⟨v',L',e1,q1,q2,q3,q4,q5⟩;exact⟨v',e1,⟨L',q1,q2 h2,fun y=>by rw [q3,h3];simp,by omega⟩,q5⟩
def Jr {L:List Tm} {T:Tm} (h:L[j]?=some T):(L.take (j+1)).filterMap Tm.atomI=(L.take j).filterMap Tm.atomI++T.atomI.toList:=by
 rw [gK,h,Ly];cases hT:T.atomI<;>simp [hT]
def Js {T:Tm} (h:T.kd=1):T.atomI=some T.ind:=by unfold Tm.atomI;rw [if_pos h]
def Jq {T A:Tm} (h:T.kd=2) (hA:T.args= [A]):T.atomI=some A.ind:=by unfold Tm.atomI;rw [if_neg (by omega),if_pos h,hA];rfl
def Jt {T:Tm} (h1:T.kd≠1) (h2:T.kd≠2):T.atomI=none:=by unfold Tm.atomI;rw [if_neg h1,if_neg h2]
def RS (P:List Cl) (x:ByteArray) (m:Int) (n:Nat) (w:Wo) (a:Option Addr) (len c:Nat) (hl:P.length=len) (g7:len≤300) (h:ClsV n w P a) (hF:∀C∈P,C.flt=0) (hn:n≤w.heap.size):
  Cz 200 #[.slice a len c,.agg #[.string x,.int .i64 m]] w (DirP w P (x,m)):=by
 have Al:=aside2 hl hF;obtain⟨wb,hwb,b0,hq,hsz⟩:=ebx w (Obj.cells #[.string x,.int .i64 m] 63);have fa:Aside (∀w2,Bz wb w2→_):=fun(w2:Wo) (hb:Bz wb w2)=>eW ((hb.block w.heap.size (by omega)).trans hq)
 have f7:Aside (∀w2,Bz wb w2→Bz w w2):=fun w2 hb=>b0.trans (hb.mono b0.size)
 have hA:Aside (ClsV n wb P a):=h.below b0 hn;have d2:Aside (n≤wb.heap.size):=by show _≤_;omega
 have c5:Aside (∀w2 v2,Bz wb w2→bO wb.heap.size w2 v2 (aV P (x,m)) (len*10000)→DirP w P (x,m) (.returned v2) w2):=by
  show∀w2 v2,_;rintro w2 v2 hb ⟨L,h1,h2,h3,h4⟩;exact⟨v2,L,rfl,gM h1 b0.size,h2,h3,by omega,f7.o w2 hb⟩
 clear hq hsz hl hF h b0;go_enter Tryz.func200,Tryz.ntmps200
 go_upto_region 1 with fail
 clear hwb;go_wp2
 go_loopw [5,6] (fun s5 s6 wr=>∃(i:Nat) (v2:Value),v2=s5∧s6= .int .i64 i∧i≤len∧bO wb.heap.size wr v2 (aV (P.take i) (x,m)) (i*10000)∧Bz wb wr) (fun _ s _=>len-(intOf s).toNat)
 case atStart=>exact⟨0,_,rfl,rfl,aJ _,⟨[],aD.nil _ _,by simp,by simp [aV],by simp⟩,aG _ _⟩
 case round=>
  obtain⟨wo,rfl⟩:=enr wr;obtain⟨i,v2,rfl,rfl,hi,hD,hB⟩:=hrel
  by_cases h0:i<len
  case neg=>
   obtain rfl:i=len:=by omega
   have hR:=c5.o wo v2 hB (by rw [←Al.o.1,iP] at hD;rw [←Al.o.1];exact hD);have g5:Aside _:=hR;clear hD hR c5;go_wp2
   go_ret
   exact g5.o
  obtain⟨C,hC⟩:=egf Al.o.1 h0;have d6:=Al.o.2 C (aP hC);have d3:=iL (qX d6).2.1;have d1:=yI d6;obtain⟨g,off,vh,vb,rfl,hg,hc,hvh,hvb⟩:=hA.o.read hC;have a8:=RT (k:=(x,m)) hC;have a5:Aside (∀w2,Bz wb w2→Cz 20 #[.agg vb.toArray] w2 (eJ n w2 C.b)):=fun w2 hb=>zU C.b n w2 vb d3.2 d3.1 (TmV.below hb d2.o _ _ hvb) (aE d2.o hb.size)
  obtain⟨th,tb,vars⟩:=C;have e8:Aside (∀T∈tb.lits,T.errE=0):=fun T hT=>(BI tb T hT).1 d3.2
  unfold lB Cl.atoms at a8;dsimp only at hc hvh hvb a8 d1 a5;obtain⟨k1,v1,nm1,g1,num1,den1,a9⟩:=th;obtain⟨LT,hLT⟩:=enm tb.lits;obtain⟨LB,hLB⟩:∃b,tb.litsB=b:=⟨_,rfl⟩;unfold eJ at a5;rw [hLT] at d1 e8 a8;rw [hLT,hLB] at a5;obtain⟨k2,v2',nm2,g2,num2,den2,args2⟩:=tb;simp only [TmV] at hvh hvb;obtain⟨_,_,a1,c1,rfl,⟨⟨p1,q1,rfl,_⟩,⟨p2,q2,rfl,_⟩⟩,_⟩:=hvh;obtain⟨_,_,a2,c2,rfl,⟨⟨p3,q3,rfl,_⟩,⟨p4,q4,rfl,_⟩⟩,_⟩:=hvb;have e3:(Tm.ind (.mk k1 v1 nm1 g1 num1 den1 a9))=(nm1,(a9.length:Int)):=rfl;rw [e3] at a8;clear e3 hLT hLB d3 d6;generalize a9.length=l1,num1.length=n1,den1.length=n2,args2.length=l2,num2.length=n3,den2.length=n4 at*;have d8:Aside (∀w2,Bz wb w2→_):=fun(w2:Wo) (hb:Bz wb w2)=>sR (hc.below hb (bG hg d2.o))
  obtain⟨D,hDD⟩:=enm (decide ((nm1,(l1:Int))=(x,m)));have a6:Aside (aV (P.take (i+1)) (x,m)=aV (P.take i) (x,m)++if D=true then LT.filterMap Tm.atomI else []):=by
   show _=_;rw [a8,←hDD];simp
  have e9:=kX nm1 x l1 m;have h5:=lV;rw [hDD] at e9;obtain⟨h8,hi3,hw3⟩:=elt (i:=i) (n:=len) (by omega) (by omega);have dk:Aside (∀w2,Cz 39 #[.agg (tA k1 v1 nm1 g1 p1 n1 q1 p2 n2 q2 a1 l1 c1)] w2 fun e w'=>e= .returned (.agg #[.string nm1,.int .i64 l1])∧Bz w2 w'):=fun w2=>nW k1 v1 nm1 g1 _ _ _ _ _ w2
  have g0:=aside hD;replace a5:Aside (∀w2,Bz wb w2→Cz 20 #[.agg (tA k2 v2' nm2 g2 p3 n3 q3 p4 n4 q4 a2 l2 c2)] w2 fun e w'=>∃v,e= .returned (.tuple #[v,.bool LB])∧OutT n w2.heap.size w' v LT∧Bz w2 w'):=a5;have d7:Aside (LT.length≤10000):=by
   show _≤_;exact d1
  clear hc hC a8 hDD hD hA d1
  go_upto_region 5 with fail
  have fd:Bz wb wo.drew:=hB.trans (cU _ _);have sD:bO wb.heap.size wo.drew v2 (aV (P.take i) (x,m)) (i*10000):=g0.o.below (cU wo.heap.size wo) (aA _);refine hRp (fun w'=>Bz wb w'∧bO wb.heap.size w' v2 (aV (P.take i) (x,m)) (i*10000)) 7 (Heavy.lights [0,1,2,3,4,6] (.one 5 .done)) (by kernel_rfl) (by kernel_rfl) ⟨fd,sD⟩ ?_;simp only [Heavy.lights,aX,bI,aW,bD]
  iterate 4 ((apply hLm;(exact rfl);(exact rfl);(intro c8 hw;go_simp;exact rfl);(go_simp;exact rfl)))
  (apply hLm;(exact rfl);(exact rfl);(intro c8 hw;have hw:=hw.1;have zz:=d8.o c8 hw;obtain⟨x0,x1,x2,x3,x4,x5,x6,x7,x8,x9,x10,x11,x12,x13,x14⟩:=zz;go_simp;exact rfl);(go_simp;exact rfl))
  (apply hLm;(exact rfl);(exact rfl);(intro c8 hw;have hw:=hw.1;have z0:=(fa.o c8 hw).1;have z1:=(fa.o c8 hw).2;go_simp;exact rfl);(go_simp;exact rfl))
  (apply hOn;(exact rfl);(exact rfl));go_simp
  refine(dk.o _).mono ?_;rintro e wk ⟨rfl,hbk⟩;have ek:Bz wb wk:=fd.trans (hbk.mono fd.size);refine⟨_,rfl,⟨ek,sD.below hbk (aA _)⟩,?_⟩;have sk:=sD.below hbk (aA _)
  (refine hNa (by go_simp;exact rfl) ?_)
  apply hPe;show wpList _ _ _ _ _ _;clear hbk sD;have f1:=aside sk;clear sk;cases D
  case false=>
   have d9:Aside (aV (P.take (i+1)) (x,m)=aV (P.take i) (x,m)):=by
    show _=_;rw [a6.o];simp
   clear a6;go_wp2;go_roundw
   case rel=>exact⟨i+1,v2,rfl,by simp,by omega,by rw [d9.o];exact f1.o.mono rfl (by omega),ek⟩
   case measure=>simp [intOf];omega
  have d9:Aside (aV (P.take (i+1)) (x,m)=aV (P.take i) (x,m)++LT.filterMap Tm.atomI):=by
   show _=_;rw [a6.o];simp
  clear a6;obtain⟨x0,x1,x2,x3,x4,x5,x6,x7,x8,x9,x10,x11,x12,x13,x14⟩:=d8.o wk ek
  go_wp2_with (go_at_call 20;with_reducible refine(a5.o _ ek).mono ?_)
  rintro e w1 ⟨v7,rfl,hO7,hb1⟩;have e1:Bz wb w1:=ek.trans (hb1.mono ek.size);have s1:=f1.o.below hb1 (aA _);have e2:Aside (n≤w1.heap.size):=aE d2.o e1.size;obtain⟨al,cl,rfl,hrd⟩:=hO7.read;obtain⟨ml,hml⟩:=enm LT.length;rw [hml];have c6:=aside hml;have c7:=aside hrd;have h7:=aside s1;have i0:ml≤10000:=by have:=d7.o;omega
  clear x0 x1 x2 x3 x4 x5 x6 x7 x8 x9 x10 x11 x12 x13 x14 hml hrd hO7 hb1 s1 a5 d8 dk e9 h5;go_wp2
  go_loopw [5,9] (fun s5 s9 wr=>∃(j:Nat) (u2:Value),u2=s5∧s9= .int .i64 j∧j≤ml∧bO wb.heap.size wr u2 (aV (P.take i) (x,m)++(LT.take j).filterMap Tm.atomI) (i*10000+j)∧Bz w1 wr) (fun _ s _=>ml-(intOf s).toNat)
  case atStart=>exact⟨0,_,rfl,rfl,aJ _,by simpa using h7.o,aG _ _⟩
  case round=>
   obtain⟨wi,rfl⟩:=enr wr;obtain⟨j,u2,rfl,rfl,hj,hE,hBi⟩:=hrel
   by_cases g9:j<ml
   case neg=>
    obtain rfl:j=ml:=by omega
    have c9:Aside (bO wb.heap.size wi u2 (aV (P.take (i+1)) (x,m)) ((i+1)*10000)):=by
     rw [d9.o];refine hE.mono ?_ (by omega);rw [←c6.o,iP]
    clear hE;go_wp2;go_roundw
    case rel=>exact⟨i+1,u2,rfl,by simp,by omega,c9.o,e1.trans (hBi.mono e1.size)⟩
    case measure=>simp [intOf];omega
   obtain⟨T,hT⟩:=egf c6.o g9;have e7:=e8.o T (aP hT);obtain⟨g',us,rfl,hg',hvT,hcT⟩:=c7.o j T hT;have e0:=Jr hT;have c0:Aside (∀w2,Bz w1 w2→Cz 52 #[.agg us.toArray] w2 fun e w'=>e= .returned (.int .i64 T.kd)∧Bz w2 w'):=fun w2 hb=>FD T n w2 us e7 (TmV.below hb e2.o _ _ hvT) (aE e2.o hb.size)
   have c9:=aside hE;have b9:Aside (T.kd=2→∃A,T.args= [A]):=BR;obtain⟨KD,hKD⟩:∃k,T.kd=k:=⟨_,rfl⟩;have b5:Aside ((KD=1→T.atomI=some T.ind)∧(KD=2→∀A,T.args= [A]→T.atomI=some A.ind)∧(KD≠1→KD≠2→T.atomI=none)):=⟨fun h=>Js (hKD.trans h),fun h A h2=>Jq (hKD.trans h) h2,fun h1 h2=>Jt (by rw [hKD];exact h1) (by rw [hKD];exact h2)⟩;rw [hKD] at c0 b9;obtain⟨k3,v3,b3,g3,b7,den3,args3⟩:=T;simp only [TmV] at hvT;obtain⟨_,_,a3,c3,rfl,⟨⟨p5,q5,rfl,_⟩,⟨p6,q6,rfl,_⟩⟩,hS3,_⟩:=hvT;have e4:Tm.ind (.mk k3 v3 b3 g3 b7 den3 args3)=(b3,(args3.length:Int)):=rfl;have d5:Tm.args (.mk k3 v3 b3 g3 b7 den3 args3)=args3:=rfl;rw [e4,d5] at b5;rw [d5] at b9;have d0:=aside hS3;obtain⟨l3,hl3⟩:∃l,args3.length=l:=⟨_,rfl⟩;have h6:=aside hl3;rw [hl3] at b5 hcT;generalize b7.length=n5,den3.length=n6 at*;have ya:Aside (∀w2,Bz w1 w2→_):=fun(w2:Wo) (hb:Bz w1 w2)=>jL (fun p hp=>hb.cell (hp▸hg')) (by simpa using hcT)
   have f8:Aside (∀w2,Cz 39 #[.agg (tA k3 v3 b3 g3 p5 n5 q5 p6 n6 q6 a3 l3 c3)] w2 fun e w'=>e= .returned (.agg #[.string b3,.int .i64 l3])∧Bz w2 w'):=fun w2=>nW k3 v3 b3 g3 _ _ _ _ _ w2
   replace c0:Aside (∀w2,Bz w1 w2→Cz 52 #[.agg (tA k3 v3 b3 g3 p5 n5 q5 p6 n6 q6 a3 l3 c3)] w2 fun e w'=>e= .returned (.int .i64 KD)∧Bz w2 w'):=by
    have dd:=c0.o;rw [←hl3];exact dd
   obtain⟨TI,hTI⟩:∃t,Tm.atomI (.mk k3 v3 b3 g3 b7 den3 args3)=t:=⟨_,rfl⟩;rw [hTI] at b5 e0;have b6:=aside e0;obtain⟨h9,hj3,hw5⟩:=elt (i:=j) (n:=ml) (by omega) (by omega);clear hE hT e7 hKD hcT hS3 e4 d5 hl3 hTI e0 c7;have fi:Bz w1 wi:=hBi;obtain⟨y0,y1,y2,y3,y4,y5,y6⟩:=ya.o wi fi;have b8:Bz w1 wi:=fi;have E_wi:Aside (bO wb.heap.size wi u2 (aV (P.take i) (x,m)++(LT.take j).filterMap Tm.atomI) (i*10000+j)):=c9.o;clear fi c9
   go_wp2_with (go_at_call 52;with_reducible refine(c0.o _ b8).mono ?_)
   rintro e w2 ⟨rfl,hb⟩;have a7:Bz w1 w2:=b8.trans (hb.mono b8.size);have E_w2:Aside (bO wb.heap.size w2 u2 (aV (P.take i) (x,m)++(LT.take j).filterMap Tm.atomI) (i*10000+j)):=bO.below E_wi.o hb (aA _);clear hb;clear y0 y1 y2 y3 y4 y5 y6;obtain⟨y0,y1,y2,y3,y4,y5,y6⟩:=ya.o w2 a7
   by_cases h1:KD=1
   case pos=>
    subst h1;obtain rfl:TI=some (b3,(l3:Int)):=b5.o.1 rfl;clear b5 b9 d0
    go_wp2_with (go_at_call 39;with_reducible refine(f8.o _).mono ?_)
    rintro e w3 ⟨rfl,hb⟩;have a0:Bz w1 w3:=a7.trans (hb.mono a7.size);have E_w3:Aside (bO wb.heap.size w3 u2 (aV (P.take i) (x,m)++(LT.take j).filterMap Tm.atomI) (i*10000+j)):=bO.below E_w2.o hb (aA _);clear hb
    go_wp2_with (go_at_call 147;with_reducible refine(bO.sorted E_w3.o (aE e1.size a0.size) (by omega) b3 l3).mono ?_)
    rintro e w4 ⟨u3,rfl,hE,hb⟩;have b2:Bz w1 w4:=a0.trans (hb.mono a0.size);have E_w4:=aside hE;clear hE hb;go_wp2;go_roundw
    case rel=>exact⟨j+1,u3,rfl,by simp,by omega,bO.mono E_w4.o (by rw [b6.o];simp) (by omega),b2⟩
    case measure=>simp [intOf];omega
   have n1:(KD==1)=false:=by simpa using h1
   go_wp2_with (go_at_call 52;with_reducible refine(c0.o _ a7).mono ?_)
   rintro e w3 ⟨rfl,hb⟩;have a0:Bz w1 w3:=a7.trans (hb.mono a7.size);have E_w3:Aside (bO wb.heap.size w3 u2 (aV (P.take i) (x,m)++(LT.take j).filterMap Tm.atomI) (i*10000+j)):=bO.below E_w2.o hb (aA _);clear hb
   by_cases h2:KD=2
   case neg=>
    have n2:(KD==2)=false:=by simpa using h2
    obtain rfl:TI=none:=b5.o.2.2 h1 h2;clear b5 b9 d0 h1 h2;go_wp2;go_roundw
    case rel=>exact⟨j+1,u2,rfl,by simp,by omega,bO.mono E_w3.o (by rw [b6.o];simp) (by omega),a0⟩
    case measure=>simp [intOf];omega
   subst h2;obtain⟨A,hA0⟩:=b9.o rfl;have g6:=b5.o.2.1 rfl A hA0;subst hA0;subst g6;have f0:=h6.o;simp at f0;subst f0;have hS:=d0.o;simp only [TmsV] at hS;obtain⟨⟨b4,o4,vs4,rfl,hb4,hc4,hv4⟩,_⟩:=hS;obtain⟨k4,v4,nm4,g4,num4,den4,b1⟩:=A;simp only [TmV] at hv4;obtain⟨_,_,a4,c4,rfl,⟨⟨p7,q7,rfl,_⟩,⟨p8,q8,rfl,_⟩⟩,_⟩:=hv4;have e6:Tm.ind (.mk k4 v4 nm4 g4 num4 den4 b1)=(nm4,(b1.length:Int)):=rfl;rw [e6] at b6;generalize b1.length=l4,num4.length=n7,den4.length=n8 at*;have za:Aside (∀w2,Bz w1 w2→_):=fun(w2:Wo) (hb:Bz w1 w2)=>jL (fun p hp=>hb.cell (hp▸bG hb4 e2.o)) (by simpa using hc4)
   have f9:Aside (∀w2,Cz 39 #[.agg (tA k4 v4 nm4 g4 p7 n7 q7 p8 n8 q8 a4 l4 c4)] w2 fun e w'=>e= .returned (.agg #[.string nm4,.int .i64 l4])∧Bz w2 w'):=fun w2=>nW k4 v4 nm4 g4 _ _ _ _ _ w2
   clear hc4 d0 b5 b9 e6 h1;clear y0 y1 y2 y3 y4 y5 y6;obtain⟨y0,y1,y2,y3,y4,y5,y6⟩:=ya.o w3 a0;obtain⟨z0,z1,z2,z3,z4,z5,z6⟩:=za.o w3 a0
   go_wp2_with (go_at_call 39;with_reducible refine(f9.o _).mono ?_)
   rintro e w4 ⟨rfl,hb⟩;have b2:Bz w1 w4:=a0.trans (hb.mono a0.size);have E_w4:Aside (bO wb.heap.size w4 u2 (aV (P.take i) (x,m)++(LT.take j).filterMap Tm.atomI) (i*10000+j)):=bO.below E_w3.o hb (aA _);clear hb
   go_wp2_with (go_at_call 147;with_reducible refine(bO.sorted E_w4.o (aE e1.size b2.size) (by omega) nm4 l4).mono ?_)
   rintro e w5 ⟨u3,rfl,hE,hb⟩;have d4:Bz w1 w5:=b2.trans (hb.mono b2.size);have E_w5:=aside hE;clear hE hb;go_wp2;go_roundw
   case rel=>exact⟨j+1,u3,rfl,by simp,by omega,bO.mono E_w5.o (by rw [b6.o];simp) (by omega),d4⟩
   case measure=>simp [intOf];omega
end
end Go.Proofs.YtbdpdeonapmlgaaGreatDoor
namespace Go.Proofs.Plain
def nodup_sub_len {α:Type} [DecidableEq α]:∀{l m:List α},l.Nodup→(∀x∈l,x∈m)→l.length≤m.length
 | [],m,_,_=>by simp
 |x::l,m,hn,hs=>by
  obtain⟨hx,hn⟩:=VX.1 hn;have hm:=hs x (by simp);have h1:l.length≤(m.erase x).length:=nodup_sub_len hn fun y hy=>(List.mem_erase_of_ne (fun e=>hx (by rw [←e];exact hy))).2 (hs y (by simp [hy]))
  rw [List.length_erase_of_mem hm] at h1;have h2:=Lt hm;simp;omega
def RY {α:Type} {p q:α→Bool}:∀{l:List α},(∀x∈l,p x=true→q x=true)→(∃x∈l,q x=true∧p x=false)→l.countP p<l.countP q
 | [],_,h=>by obtain⟨x,hx,_⟩:=h;cases hx
 | y::l,hpq,h=>by
  have a4:l.countP p≤l.countP q:=List.countP_mono_left fun x hx=>hpq x (by simp [hx])
  by_cases hy:q y=true∧p y=false
  ·rw [KC,KC,hy.1,hy.2];simp;omega
  ·have h2:l.countP p<l.countP q:=RY (fun x hx=>hpq x (by simp [hx])) (by
    obtain⟨x,hx,h3⟩:=h;rcases cD.1 hx with rfl|hx
    ·exact absurd h3 hy
    ·exact⟨x,hx,h3⟩)
   rw [KC,KC];have:=hpq y (by simp);cases hp:p y
   ·simp;split<;>omega
   ·rw [this hp];simp;omega
def exists_ready {α:Type} [DecidableEq α] (all done:List α) (U:α→α→Prop) [∀x y,Decidable (U x y)] (ht:∀i k x,U i k→U k x→U i x) (a1:∃i∈all,i∉done):
  ∃i∈all,i∉done∧∀k∈all,U i k→U k i∨k∈done:=by
 have key:∀n i,i∈all→i∉done→all.countP (fun x=>decide (U i x∨x=i))≤n→∃i∈all,i∉done∧∀k∈all,U i k→U k i∨k∈done:=by
  intro n
  induction n with
  |zero=>
   intro i hi _ hc;have:0<all.countP (fun x=>decide (U i x∨x=i)):=WK.2 ⟨i,hi,by simp⟩;omega
  | succ n ih=>
   intro i hi hd hc
   by_cases hr:∀k∈all,U i k→U k i∨k∈done
   ·exact⟨i,hi,hd,hr⟩
   ·have⟨k,hk,hu,hn⟩:∃k,k∈all∧U i k∧¬(U k i∨k∈done):=by
     apply iR;intro a3;apply hr;intro k hk hu;apply iR;intro h;exact a3 ⟨k,hk,hu,h⟩
    have a0:¬U k i:=fun h=>hn (.inl h)
    have a2:k∉done:=fun h=>hn (.inr h)
    refine ih k hk a2 ?_;have:=RY (p:=fun x=>decide (U k x∨x=k)) (q:=fun x=>decide (U i x∨x=i)) (l:=all) (fun x hx h=>by
     simp only [fI] at h ⊢;rcases h with h|rfl
     ·exact .inl (ht _ _ _ hu h)
     ·exact .inl hu) ⟨i,hi,by simp,by
     simp only [rH];rintro(h|rfl)
     ·exact a0 h
     ·exact a0 hu⟩
    omega
 obtain⟨i,hi,hd⟩:=a1;exact key _ i hi hd (aA _)
def exists_left {α:Type} [DecidableEq α] {all done:List α} (hn:all.Nodup) (hl:done.length<all.length):∃i∈all,i∉done:=by
 apply iR;intro h;have:all.length≤done.length:=nodup_sub_len hn fun x hx=>by
  apply iR;intro h2;exact h ⟨x,hx,h2⟩
 omega
end Go.Proofs.Plain
