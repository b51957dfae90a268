/- Lemmas; no condition. -/
import Derived.Test.YtbdpdeonapmlgaaGreatDoorAs
set_option linter.all false
set_option maxHeartbeats 8000000
set_option maxRecDepth 100000
namespace Go.Proofs.YtbdpdeonapmlgaaGreatDoor
open Go.RowKit Go.Big Go.RowsK Go.MapK
variable {L args:List Tm} {v:Value} {w:Wo} {base n i c l:Nat}
section
attribute [local go_sem] Heavy.uponW
def TmS.lenS {S:Nat→Prop} {k v:Int} {nm:ByteArray} {g:Bool} {num den:List Nat} {x0 x1 x2 x3 x4 x5:Value} {a:Option Addr} (h:TmS S w (.mk k v nm g num den args) [x0,x1,x2,x3,x4,x5,.slice a l c]):l=args.length:=by
 simp only [TmS] at h;obtain⟨_,_,_,_,_,_,e,_⟩:=h;injection e with _ e;injection e with _ e;injection e with _ e;injection e with _ e;injection e with _ e;injection e with _ e;injection e with e _;injection e
def NumR (n:Nat) (wc:Wo) (rb:Nat) (T:Tm) (a':Act) (w':Wo):Prop:=∃(x0 x1 x2 x3 x6 x7 x8 x9 h4:Value) (g:Nat),∃k3 v3 a2 g3 p3 n3 q3 r3 m3 u3 a3 l3 c3,a'={ tmps:=#[x0,x1,x2,x3,.pointer (some ⟨rb+1,0,none⟩),.pointer (some ⟨g,0,none⟩),x6,x7,x8,x9,h4,.agg (tA k3 v3 a2 g3 p3 n3 q3 r3 m3 u3 a3 l3 c3),undef,undef,undef,undef,undef,undef,undef,undef,undef,undef,undef,undef,undef,undef],defers:=[] }∧Bz wc w'∧w'.heap[g]?=some (.cells #[.int .i64 0,.int .i64 0,.string ⟨#[]⟩,.bool false,.slice none 0 0,.slice none 0 0,.slice none 0 0] 48)∧wc.heap.size≤g∧PhB n wc.heap.size (some g) (T.ren (eS T.free)) w' [.int .i64 k3,.int .i64 v3,.string a2,.bool g3,.slice p3 n3 q3,.slice r3 m3 u3,.slice a3 l3 c3]
def Aq (h:Tm) (L:List Tm) (n:Nat) (w:Wo) (hs:Lv) (a:Option Addr) (c:Nat) (hT:TmV n w h hs) (hL:bS n w L a 0) (hn:n≤w.heap.size) (hE:h.errE=0) (e6:∀T∈L,T.errE=0) (hN:(fZ h L).nodes≤1000000) (d0:L.length≤1000000):
  Cz 70 #[.agg hs.toArray,.slice a L.length c] w (NumP h L w):=by
 have dB:Aside (∀w2,Bz w w2→Cz 138 #[.slice a L.length c] w2 fun e w'=>∃k8 v8 b2 g8 p8 n8 q8 r8 m8 u8 a8 l8 c8,e= .returned (.agg (tA k8 v8 b2 g8 p8 n8 q8 r8 m8 u8 a8 l8 c8))∧Aside (TmS (fun b=>b<n∨(w2.heap.size≤b∧b<w'.heap.size)) w' (dM L) [.int .i64 k8,.int .i64 v8,.string b2,.bool g8,.slice p8 n8 q8,.slice r8 m8 u8,.slice a8 l8 c8])∧Bz w2 w'):=fun w2 hb=>
  (Im L n a c w2 (bS.below hb hn _ _ _ hL) (aD hn hb.size) d0).mono fun e w' ⟨vs,h1,h2,h3⟩=>by
   have c2:=h2;obtain⟨k,v,nm,g,p,n9,q,r,m,u,a9,l,c9,rfl⟩:=TmS.seven h2;exact⟨_,_,_,_,_,_,_,_,_,_,_,_,_,h1,c2,h3⟩
 have e9:=WX hE e6;have hA:=aside2 hT hn;have e7:=aside hN;obtain⟨len,hl⟩:∃l,L.length=l:=⟨_,rfl⟩;rw [hl] at dB ⊢;obtain⟨k1,v1,nm1,g1,p1,n1,q1,r1,m1,u1,a1,l1,c1,rfl⟩:=TmV.seven hT;clear hT hL e6 hN hl d0 hE;obtain⟨wb,hwb,b0,hq,hsz⟩:=ebx w (bA k1 v1 nm1 g1 p1 n1 q1 r1 m1 u1 a1 l1 c1);have b1:=aC wb (Obj.cells #[.int .i64 0,.int .i64 0,.string ⟨#[]⟩,.bool false,.slice none 0 0,.slice none 0 0,.slice none 0 0,.int .i64 0,.int .i64 0,.string ⟨#[]⟩,.bool false,.slice none 0 0,.slice none 0 0,.slice none 0 0,.int .i64 0] 50);have b4:=aJ wb (Obj.cells #[.int .i64 0,.int .i64 0,.string ⟨#[]⟩,.bool false,.slice none 0 0,.slice none 0 0,.slice none 0 0,.int .i64 0,.int .i64 0,.string ⟨#[]⟩,.bool false,.slice none 0 0,.slice none 0 0,.slice none 0 0,.int .i64 0] 50);obtain⟨wc,hwc⟩:=enm (wb.alloc (Obj.cells #[.int .i64 0,.int .i64 0,.string ⟨#[]⟩,.bool false,.slice none 0 0,.slice none 0 0,.slice none 0 0,.int .i64 0,.int .i64 0,.string ⟨#[]⟩,.bool false,.slice none 0 0,.slice none 0 0,.slice none 0 0,.int .i64 0] 50));have d2:wc.heap.size=w.heap.size+2:=by rw [←hwc,cB,hsz]
 rw [hwc] at b1 b4;rw [hsz] at b4;have fc:Aside (Bz w wc):=b0.trans (b1.mono b0.size);have xA:Aside (∀w2,Bz wc w2→_):=fun(w2:Wo) (hb:Bz wc w2)=>bZ ((hb.block w.heap.size (by omega)).trans ((b1.block w.heap.size (by omega)).trans hq))
 have zA:Aside (∀w2,Bz wc w2→w2.heap[w.heap.size+1]?=some (.cells #[.int .i64 0,.int .i64 0,.string ⟨#[]⟩,.bool false,.slice none 0 0,.slice none 0 0,.slice none 0 0,.int .i64 0,.int .i64 0,.string ⟨#[]⟩,.bool false,.slice none 0 0,.slice none 0 0,.slice none 0 0,.int .i64 0] 50)):=fun w2 hb=>(hb.block (w.heap.size+1) (by omega)).trans b4
 have d3:Aside (n≤wc.heap.size):=by show _≤_;omega
 have h9:=aside d2;replace dB:Aside (∀w2,Bz wc w2→_):=fun(w2:Wo) (hb:Bz wc w2)=>dB.o w2 (fc.o.trans (hb.mono fc.o.size))
 have d5:Aside (∀(og:Option Nat) (w2:Wo) us,PhB n wc.heap.size og (fZ h L) w2 us→wc.heap.size≤w2.heap.size→OkG wc.heap.size og w2→Cz 136 #[.agg us.toArray] w2 fun e w'=>∃k3 v3 a2 g3 p3 n3 q3 r3 m3 u3 a3 l3 c3,e= .returned (.agg (tA k3 v3 a2 g3 p3 n3 q3 r3 m3 u3 a3 l3 c3))∧Aside (PhB n wc.heap.size og ((fZ h L).ren (eS (fZ h L).free)) w' [.int .i64 k3,.int .i64 v3,.string a2,.bool g3,.slice p3 n3 q3,.slice r3 m3 u3,.slice a3 l3 c3])∧Bz w2 w'):=fun og w2 us h1 h2 h3=>
  (Av (fZ h L) _ w2.heap.size w2 us (fun b h=>h.2.2) h1 (aA _) e9 e7.o).mono fun e w' ⟨vs,g1,g2,g3⟩=>by
   have g4:=PhB.norm g2 g3.size h2 h3;obtain⟨k,v,nm,g,p,n9,q,r,m,u,a9,l,c9,rfl⟩:=TmS.seven g2;exact⟨_,_,_,_,_,_,_,_,_,_,_,_,_,g1,g4,g3⟩
 obtain⟨x0,x1,x2,x3,x4,x5,x6⟩:=xA.o wc (bD _ _);clear b0 hq b1 b4 d2 e9 hn x0 x1 x2 x3 x4 x5 x6;go_enter Tryz.func70,Tryz.ntmps70
 go_upto_region 1 with fail
 refine hRp (Bz wc) 7 (Heavy.lights [0,1] (.two 2 6 (.two 3 6 (.two 4 6 (.two 5 6 (.one 6 .done) (.one 5 .done)) (.one 4 (.one 5 .done))) (.one 3 (.one 4 (.one 5 .done)))) (.one 2 (.one 3 (.one 4 (.one 5 .done)))))) (by kernel_rfl) (by kernel_rfl) (dO _ _) ?_;refine rR (R:=NumR n wc w.heap.size (fZ h L)) (fun a' w5 hR=>?_) _ _ _ ?_
 case refine_2=>
  have f0:Bz wc wc.drew:=dO _ _;show Heavy.runP _ _ _ _ _ _ wc.drew;obtain⟨z0,hz0⟩:∃x,wc.drew=x:=⟨_,rfl⟩;rw [hz0] at f0 ⊢;have G0:OkG wc.heap.size none z0:=fun g e=>by cases e
  simp only [Heavy.lights,bL,bY,aZ,bG]
  (apply hLm;(exact rfl);(exact rfl);(intro a0 hw;obtain⟨x0,x1,x2,x3,x4,x5,x6⟩:=xA.o a0 hw;go_simp;exact rfl);(go_simp;exact rfl))
  (apply hLm;(exact rfl);(exact rfl);(intro a0 hw;go_simp;exact rfl);(go_simp;exact rfl))
  apply Heavy.two_of
  ·(apply hOn;(exact rfl);(exact rfl));go_simp
   refine(dB.o z0 f0).mono ?_;rintro e z1 ⟨k8,v8,b2,g8,p8,n8,q8,r8,m8,u8,a8,l8,c8,rfl,hB,hb0⟩;have f1:Bz wc z1:=f0.trans (hb0.mono f0.size);have P1:PhB n wc.heap.size none (dM L) z1 [.int .i64 k8,.int .i64 v8,.string b2,.bool g8,.slice p8 n8 q8,.slice r8 m8 u8,.slice a8 l8 c8]:=PhB.made hB.o hb0.size d3.o f0.size G0;have G1:=G0.below hb0;refine⟨_,rfl,f1,?_⟩
   (refine hNa (by go_simp;exact rfl) ?_)
   apply Heavy.two_of
   ·(apply hOn;(exact rfl);(exact rfl));go_simp
    have b5:=aC z1 (.cells #[.int .i64 k1,.int .i64 v1,.string nm1,.bool g1,.slice p1 n1 q1,.slice r1 m1 u1,.slice a1 l1 c1,.int .i64 k8,.int .i64 v8,.string b2,.bool g8,.slice p8 n8 q8,.slice r8 m8 u8,.slice a8 l8 c8] 48);have b4:=aJ z1 (Obj.cells #[.int .i64 k1,.int .i64 v1,.string nm1,.bool g1,.slice p1 n1 q1,.slice r1 m1 u1,.slice a1 l1 c1,.int .i64 k8,.int .i64 v8,.string b2,.bool g8,.slice p8 n8 q8,.slice r8 m8 u8,.slice a8 l8 c8] 48);obtain⟨z2,hz1⟩:∃x,z1.alloc (.cells #[.int .i64 k1,.int .i64 v1,.string nm1,.bool g1,.slice p1 n1 q1,.slice r1 m1 u1,.slice a1 l1 c1,.int .i64 k8,.int .i64 v8,.string b2,.bool g8,.slice p8 n8 q8,.slice r8 m8 u8,.slice a8 l8 c8] 48)=x:=⟨_,rfl⟩;rw [hz1] at b5 b4 ⊢;have f2:Bz wc z2:=f1.trans (b5.mono f1.size);have G2:=G1.below b5;have P2:PhB n wc.heap.size none (fZ h L) z2 [.int .i64 5,.int .i64 0,.string ⟨#[120]⟩,.bool false,.slice none 0 0,.slice none 0 0,.slice (some ⟨z1.heap.size,0,none⟩) 2 2]:=PhB.comp (PhB.old hA.o.1 hA.o.2 (fc.o.trans (f1.mono fc.o.size)) d3.o G1) P1 f1.size G1 b5 b4;refine⟨f2,?_⟩
    (refine hNa (by go_simp;exact rfl) ?_)
    apply Heavy.two_of
    ·(apply hOn;(exact rfl);(exact rfl));go_simp
     refine(tR ⟨#[120]⟩ _ 2 2 (by decide) _).mono ?_;rintro e z3 ⟨rfl,hb2⟩;have f3:Bz wc z3:=f2.trans (hb2.mono f2.size);have P3:=P2.below hb2;have G3:=G2.below hb2;refine⟨_,rfl,f3,?_⟩
     (refine hNa (by go_simp;exact rfl) ?_)
     apply Heavy.two_of
     ·(apply hOn;(exact rfl);(exact rfl));go_simp
      refine(d5.o none z3 _ P3 f3.size G3).mono ?_;rintro e z4 ⟨k3,v3,a2,g3,p3,n3,q3,r3,m3,u3,a3,l3,c3,rfl,hN,hb3⟩;have f4:Bz wc z4:=f3.trans (hb3.mono f3.size);have P4:=hN.o;have G4:=G3.below hb3;refine⟨_,rfl,f4,?_⟩
      (refine hNa (by go_simp;exact rfl) ?_)
      (apply hOn;(exact rfl);(exact rfl));go_simp
      have d6:=aC z4 (.cells #[.int .i64 0,.int .i64 0,.string ⟨#[]⟩,.bool false,.slice none 0 0,.slice none 0 0,.slice none 0 0] 48);have g9:=aJ z4 (Obj.cells #[.int .i64 0,.int .i64 0,.string ⟨#[]⟩,.bool false,.slice none 0 0,.slice none 0 0,.slice none 0 0] 48);obtain⟨z5,hz4⟩:∃x,z4.alloc (.cells #[.int .i64 0,.int .i64 0,.string ⟨#[]⟩,.bool false,.slice none 0 0,.slice none 0 0,.slice none 0 0] 48)=x:=⟨_,rfl⟩;rw [hz4] at d6 g9 ⊢;have f5:Bz wc z5:=f4.trans (d6.mono f4.size);have G5:OkG wc.heap.size (some z4.heap.size) z5:=fun g e=>by injection e with e;subst e;exact⟨f4.size,g9⟩
      have h7:=P4.mark d6;refine⟨f5,?_⟩
      (refine hNa (by go_simp;exact rfl) ?_)
      apply hPe;unfold NumR;exact⟨_,_,_,_,_,_,_,_,_,_,_,_,_,_,_,_,_,_,_,_,_,_,_,rfl,f5,(G5 _ rfl).2,(G5 _ rfl).1,h7⟩
     ·(apply hOn;(exact rfl);(exact rfl));go_simp
      have d4:=aC z3 (.cells #[.int .i64 0,.int .i64 0,.string ⟨#[]⟩,.bool false,.slice none 0 0,.slice none 0 0,.slice none 0 0] 48);have g0:=aJ z3 (Obj.cells #[.int .i64 0,.int .i64 0,.string ⟨#[]⟩,.bool false,.slice none 0 0,.slice none 0 0,.slice none 0 0] 48);obtain⟨z4,hz3⟩:∃x,z3.alloc (.cells #[.int .i64 0,.int .i64 0,.string ⟨#[]⟩,.bool false,.slice none 0 0,.slice none 0 0,.slice none 0 0] 48)=x:=⟨_,rfl⟩;rw [hz3] at d4 g0 ⊢;have f4:Bz wc z4:=f3.trans (d4.mono f3.size);have G4:OkG wc.heap.size (some z3.heap.size) z4:=fun g e=>by injection e with e;subst e;exact⟨f3.size,g0⟩
      have h6:=P3.mark d4;refine⟨f4,?_⟩
      (refine hNa (by go_simp;exact rfl) ?_)
      (apply hOn;(exact rfl);(exact rfl));go_simp
      refine(d5.o (some z3.heap.size) z4 _ h6 f4.size G4).mono ?_;rintro e z5 ⟨k3,v3,a2,g3,p3,n3,q3,r3,m3,u3,a3,l3,c3,rfl,hN,hb4⟩;have f5:Bz wc z5:=f4.trans (hb4.mono f4.size);have P5:=hN.o;have G5:=G4.below hb4;refine⟨_,rfl,f5,?_⟩
      (refine hNa (by go_simp;exact rfl) ?_)
      apply hPe;unfold NumR;exact⟨_,_,_,_,_,_,_,_,_,_,_,_,_,_,_,_,_,_,_,_,_,_,_,rfl,f5,(G5 _ rfl).2,(G5 _ rfl).1,P5⟩
    ·(apply hOn;(exact rfl);(exact rfl));go_simp
     have b3:=aC z2 (.cells #[.int .i64 0,.int .i64 0,.string ⟨#[]⟩,.bool false,.slice none 0 0,.slice none 0 0,.slice none 0 0] 48);have b7:=aJ z2 (Obj.cells #[.int .i64 0,.int .i64 0,.string ⟨#[]⟩,.bool false,.slice none 0 0,.slice none 0 0,.slice none 0 0] 48);obtain⟨z3,hz2⟩:∃x,z2.alloc (.cells #[.int .i64 0,.int .i64 0,.string ⟨#[]⟩,.bool false,.slice none 0 0,.slice none 0 0,.slice none 0 0] 48)=x:=⟨_,rfl⟩;rw [hz2] at b3 b7 ⊢;have f3:Bz wc z3:=f2.trans (b3.mono f2.size);have G3:OkG wc.heap.size (some z2.heap.size) z3:=fun g e=>by injection e with e;subst e;exact⟨f2.size,b7⟩
     have P3w:=P2.mark b3;refine⟨f3,?_⟩
     (refine hNa (by go_simp;exact rfl) ?_)
     (apply hOn;(exact rfl);(exact rfl));go_simp
     refine(tR ⟨#[120]⟩ _ 2 2 (by decide) _).mono ?_;rintro e z4 ⟨rfl,hb3⟩;have f4:Bz wc z4:=f3.trans (hb3.mono f3.size);have P4:=P3w.below hb3;have G4:=G3.below hb3;refine⟨_,rfl,f4,?_⟩
     (refine hNa (by go_simp;exact rfl) ?_)
     (apply hOn;(exact rfl);(exact rfl));go_simp
     refine(d5.o (some z2.heap.size) z4 _ P4 f4.size G4).mono ?_;rintro e z5 ⟨k3,v3,a2,g3,p3,n3,q3,r3,m3,u3,a3,l3,c3,rfl,hN,hb4⟩;have f5:Bz wc z5:=f4.trans (hb4.mono f4.size);have P5:=hN.o;have G5:=G4.below hb4;refine⟨_,rfl,f5,?_⟩
     (refine hNa (by go_simp;exact rfl) ?_)
     apply hPe;unfold NumR;exact⟨_,_,_,_,_,_,_,_,_,_,_,_,_,_,_,_,_,_,_,_,_,_,_,rfl,f5,(G5 _ rfl).2,(G5 _ rfl).1,P5⟩
   ·(apply hOn;(exact rfl);(exact rfl));go_simp
    have b5:=aC z1 (.cells #[.int .i64 0,.int .i64 0,.string ⟨#[]⟩,.bool false,.slice none 0 0,.slice none 0 0,.slice none 0 0] 48);have b4:=aJ z1 (Obj.cells #[.int .i64 0,.int .i64 0,.string ⟨#[]⟩,.bool false,.slice none 0 0,.slice none 0 0,.slice none 0 0] 48);obtain⟨z2,hz1⟩:∃x,z1.alloc (.cells #[.int .i64 0,.int .i64 0,.string ⟨#[]⟩,.bool false,.slice none 0 0,.slice none 0 0,.slice none 0 0] 48)=x:=⟨_,rfl⟩;rw [hz1] at b5 b4 ⊢;have f2:Bz wc z2:=f1.trans (b5.mono f1.size);have G2:OkG wc.heap.size (some z1.heap.size) z2:=fun g e=>by injection e with e;subst e;exact⟨f1.size,b4⟩
    have h5:=P1.mark b5;refine⟨f2,?_⟩
    (refine hNa (by go_simp;exact rfl) ?_)
    (apply hOn;(exact rfl);(exact rfl));go_simp
    have b3:=aC z2 (.cells #[.int .i64 k1,.int .i64 v1,.string nm1,.bool g1,.slice p1 n1 q1,.slice r1 m1 u1,.slice a1 l1 c1,.int .i64 k8,.int .i64 v8,.string b2,.bool g8,.slice p8 n8 q8,.slice r8 m8 u8,.slice a8 l8 c8] 48);have b7:=aJ z2 (Obj.cells #[.int .i64 k1,.int .i64 v1,.string nm1,.bool g1,.slice p1 n1 q1,.slice r1 m1 u1,.slice a1 l1 c1,.int .i64 k8,.int .i64 v8,.string b2,.bool g8,.slice p8 n8 q8,.slice r8 m8 u8,.slice a8 l8 c8] 48);obtain⟨z3,hz2⟩:∃x,z2.alloc (.cells #[.int .i64 k1,.int .i64 v1,.string nm1,.bool g1,.slice p1 n1 q1,.slice r1 m1 u1,.slice a1 l1 c1,.int .i64 k8,.int .i64 v8,.string b2,.bool g8,.slice p8 n8 q8,.slice r8 m8 u8,.slice a8 l8 c8] 48)=x:=⟨_,rfl⟩;rw [hz2] at b3 b7 ⊢;have f3:Bz wc z3:=f2.trans (b3.mono f2.size);have G3:=G2.below b3;have P3:PhB n wc.heap.size (some z1.heap.size) (fZ h L) z3 [.int .i64 5,.int .i64 0,.string ⟨#[120]⟩,.bool false,.slice none 0 0,.slice none 0 0,.slice (some ⟨z2.heap.size,0,none⟩) 2 2]:=PhB.comp (PhB.old hA.o.1 hA.o.2 (fc.o.trans (f2.mono fc.o.size)) d3.o G2) h5 f2.size G2 b3 b7;refine⟨f3,?_⟩
    (refine hNa (by go_simp;exact rfl) ?_)
    (apply hOn;(exact rfl);(exact rfl));go_simp
    refine(tR ⟨#[120]⟩ _ 2 2 (by decide) _).mono ?_;rintro e z4 ⟨rfl,hb3⟩;have f4:Bz wc z4:=f3.trans (hb3.mono f3.size);have P4:=P3.below hb3;have G4:=G3.below hb3;refine⟨_,rfl,f4,?_⟩
    (refine hNa (by go_simp;exact rfl) ?_)
    (apply hOn;(exact rfl);(exact rfl));go_simp
    refine(d5.o (some z1.heap.size) z4 _ P4 f4.size G4).mono ?_;rintro e z5 ⟨k3,v3,a2,g3,p3,n3,q3,r3,m3,u3,a3,l3,c3,rfl,hN,hb4⟩;have f5:Bz wc z5:=f4.trans (hb4.mono f4.size);have P5:=hN.o;have G5:=G4.below hb4;refine⟨_,rfl,f5,?_⟩
    (refine hNa (by go_simp;exact rfl) ?_)
    apply hPe;unfold NumR;exact⟨_,_,_,_,_,_,_,_,_,_,_,_,_,_,_,_,_,_,_,_,_,_,_,rfl,f5,(G5 _ rfl).2,(G5 _ rfl).1,P5⟩
  ·(apply hOn;(exact rfl);(exact rfl));go_simp
   have e4:=aC z0 (.cells #[.int .i64 0,.int .i64 0,.string ⟨#[]⟩,.bool false,.slice none 0 0,.slice none 0 0,.slice none 0 0] 48);have f6:=aJ z0 (Obj.cells #[.int .i64 0,.int .i64 0,.string ⟨#[]⟩,.bool false,.slice none 0 0,.slice none 0 0,.slice none 0 0] 48);obtain⟨z1,hz0⟩:∃x,z0.alloc (.cells #[.int .i64 0,.int .i64 0,.string ⟨#[]⟩,.bool false,.slice none 0 0,.slice none 0 0,.slice none 0 0] 48)=x:=⟨_,rfl⟩;rw [hz0] at e4 f6 ⊢;have f1:Bz wc z1:=f0.trans (e4.mono f0.size);have G1:OkG wc.heap.size (some z0.heap.size) z1:=fun g e=>by injection e with e;subst e;exact⟨f0.size,f6⟩
   refine⟨f1,?_⟩
   (refine hNa (by go_simp;exact rfl) ?_)
   (apply hOn;(exact rfl);(exact rfl));go_simp
   refine(dB.o z1 f1).mono ?_;rintro e z2 ⟨k8,v8,b2,g8,p8,n8,q8,r8,m8,u8,a8,l8,c8,rfl,hB,hb1⟩;have f2:Bz wc z2:=f1.trans (hb1.mono f1.size);have P2:PhB n wc.heap.size (some z0.heap.size) (dM L) z2 [.int .i64 k8,.int .i64 v8,.string b2,.bool g8,.slice p8 n8 q8,.slice r8 m8 u8,.slice a8 l8 c8]:=PhB.made hB.o hb1.size d3.o f1.size G1;have G2:=G1.below hb1;refine⟨_,rfl,f2,?_⟩
   (refine hNa (by go_simp;exact rfl) ?_)
   (apply hOn;(exact rfl);(exact rfl));go_simp
   have b3:=aC z2 (.cells #[.int .i64 k1,.int .i64 v1,.string nm1,.bool g1,.slice p1 n1 q1,.slice r1 m1 u1,.slice a1 l1 c1,.int .i64 k8,.int .i64 v8,.string b2,.bool g8,.slice p8 n8 q8,.slice r8 m8 u8,.slice a8 l8 c8] 48);have b7:=aJ z2 (Obj.cells #[.int .i64 k1,.int .i64 v1,.string nm1,.bool g1,.slice p1 n1 q1,.slice r1 m1 u1,.slice a1 l1 c1,.int .i64 k8,.int .i64 v8,.string b2,.bool g8,.slice p8 n8 q8,.slice r8 m8 u8,.slice a8 l8 c8] 48);obtain⟨z3,hz2⟩:∃x,z2.alloc (.cells #[.int .i64 k1,.int .i64 v1,.string nm1,.bool g1,.slice p1 n1 q1,.slice r1 m1 u1,.slice a1 l1 c1,.int .i64 k8,.int .i64 v8,.string b2,.bool g8,.slice p8 n8 q8,.slice r8 m8 u8,.slice a8 l8 c8] 48)=x:=⟨_,rfl⟩;rw [hz2] at b3 b7 ⊢;have f3:Bz wc z3:=f2.trans (b3.mono f2.size);have G3:=G2.below b3;have P3:PhB n wc.heap.size (some z0.heap.size) (fZ h L) z3 [.int .i64 5,.int .i64 0,.string ⟨#[120]⟩,.bool false,.slice none 0 0,.slice none 0 0,.slice (some ⟨z2.heap.size,0,none⟩) 2 2]:=PhB.comp (PhB.old hA.o.1 hA.o.2 (fc.o.trans (f2.mono fc.o.size)) d3.o G2) P2 f2.size G2 b3 b7;refine⟨f3,?_⟩
   (refine hNa (by go_simp;exact rfl) ?_)
   (apply hOn;(exact rfl);(exact rfl));go_simp
   refine(tR ⟨#[120]⟩ _ 2 2 (by decide) _).mono ?_;rintro e z4 ⟨rfl,hb3⟩;have f4:Bz wc z4:=f3.trans (hb3.mono f3.size);have P4:=P3.below hb3;have G4:=G3.below hb3;refine⟨_,rfl,f4,?_⟩
   (refine hNa (by go_simp;exact rfl) ?_)
   (apply hOn;(exact rfl);(exact rfl));go_simp
   refine(d5.o (some z0.heap.size) z4 _ P4 f4.size G4).mono ?_;rintro e z5 ⟨k3,v3,a2,g3,p3,n3,q3,r3,m3,u3,a3,l3,c3,rfl,hN,hb4⟩;have f5:Bz wc z5:=f4.trans (hb4.mono f4.size);have P5:=hN.o;have G5:=G4.below hb4;refine⟨_,rfl,f5,?_⟩
   (refine hNa (by go_simp;exact rfl) ?_)
   apply hPe;unfold NumR;exact⟨_,_,_,_,_,_,_,_,_,_,_,_,_,_,_,_,_,_,_,_,_,_,_,rfl,f5,(G5 _ rfl).2,(G5 _ rfl).1,P5⟩
 case refine_1=>
  unfold NumR at hR;obtain⟨x0,x1,x2,x3,x6,x7,x8,x9,h4,g,k3,v3,a2,g3,p3,n3,q3,r3,m3,u3,a3,l3,c3,rfl,hb5,hg,hgl,hP⟩:=hR;clear dB d5 xA;obtain⟨w6,hst,hq6,hg6,hs6⟩:=fT (vs:=[.int .i64 k3,.int .i64 v3,.string a2,.bool g3,.slice p3 n3 q3,.slice r3 m3 u3,.slice a3 l3 c3]) hg rfl (by simp [Value.oneCell']);have d1:=lY hst;have b6:Bz wc w6:=hb5.grown hg6 hb5.size (by intro k hk;injection hk with hk;omega);have e0:TmV w6.heap.size w6 ((fZ h L).ren (eS (fZ h L).free)) [.int .i64 k3,.int .i64 v3,.string a2,.bool g3,.slice p3 n3 q3,.slice r3 m3 u3,.slice a3 l3 c3]:=TmS.toV (fun b hb=>hb) _ _ (TmS.mono (fun b hb=>by rw [hs6];exact hb.2.2) _ _ (TmS.keep (fun b hb=>hg6.block b hb.2.2 (fun e=>hb.2.1 (by injection e with e;rw [e]))) _ _ hP));obtain⟨R,hR⟩:=enm (((fZ h L).ren (eS (fZ h L).free)).free);have e8:R.length=(fC h L).length:=by rw [←hR];exact WV h L
  have dF:Aside (∀w2,Bz w6 w2→Cz 132 #[.agg (tA k3 v3 a2 g3 p3 n3 q3 r3 m3 u3 a3 l3 c3)] w2 (FreeP w2 R)):=fun w2 hb=>by
   rw [←hR];exact wR _ w6.heap.size w2 _ (TmV.below hb (aA _) _ _ e0) hb.size (by rw [zN];exact e7.o)
  have hW:=e0;rw [JV] at hW;have e3:=TmV.toS _ _ hW;have e2:=TmS.lenS e3;have d9:=TmS.argsS e3;obtain⟨ab,ao,v0,rfl,hab,hc0,hv0⟩:=cX.get d9 (k:=0) rfl;obtain⟨h8,ao',v9,ea,_,hc1,hv1⟩:=cX.get d9 (k:=1) rfl;obtain⟨rfl,rfl⟩:ab=h8∧ao=ao':=by injection ea with e;injection e with e1 e2;exact⟨e1,e2⟩
  replace e2:l3=2:=e2;subst e2;have d7:Aside (∀w2,Bz w6 w2→Cz 60 #[.agg v0.toArray] w2 fun e w'=>∃k6 v6 b8 g6 p6 n6 q6 r6 m6 u6 a6 l6 c6,e= .returned (.agg (tA k6 v6 b8 g6 p6 n6 q6 r6 m6 u6 a6 l6 c6))∧Aside (TmS (fP w2.heap.size w'.heap.size) w' (eI h L).h [.int .i64 k6,.int .i64 v6,.string b8,.bool g6,.slice p6 n6 q6,.slice r6 m6 u6,.slice a6 l6 c6])∧Bz w2 w'):=fun w2 hb=>
   (GV _ w6.heap.size w2 v0 (TmV.below hb (aA _) _ _ (TmS.toV (fun b h=>h) _ _ hv0)) hb.size).mono fun e w' ⟨vs,h1,h2,h3⟩=>by
    have c2:=h2;obtain⟨k,v,nm,g,p,n9,q,r,m,u,a9,l,c9,rfl⟩:=TmS.seven h2;exact⟨_,_,_,_,_,_,_,_,_,_,_,_,_,h1,c2,h3⟩
  have d8:Aside (∀w2,Bz w6 w2→Cz 60 #[.agg v9.toArray] w2 fun e w'=>∃k7 v7 b9 g7 p7 n7 q7 r7 m7 u7 a7 l7 c7,e= .returned (.agg (tA k7 v7 b9 g7 p7 n7 q7 r7 m7 u7 a7 l7 c7))∧Aside (TmS (fP w2.heap.size w'.heap.size) w' (eI h L).b [.int .i64 k7,.int .i64 v7,.string b9,.bool g7,.slice p7 n7 q7,.slice r7 m7 u7,.slice a7 l7 c7])∧Bz w2 w'):=fun w2 hb=>
   (GV _ w6.heap.size w2 v9 (TmV.below hb (aA _) _ _ (TmS.toV (fun b h=>h) _ _ hv1)) hb.size).mono fun e w' ⟨vs,h1,h2,h3⟩=>by
    have c2:=h2;obtain⟨k,v,nm,g,p,n9,q,r,m,u,a9,l,c9,rfl⟩:=TmS.seven h2;exact⟨_,_,_,_,_,_,_,_,_,_,_,_,_,h1,c2,h3⟩
  obtain⟨k4,v4,nm4,g4,p4,n4,q4,r4,m4,u4,a4,l4,c4,rfl⟩:=TmS.seven hv0;obtain⟨k5,v5,nm5,g5,p5,n5,q5,r5,m5,u5,a5,l5,c5,rfl⟩:=TmS.seven hv1;replace d7:Aside (∀w2,Bz w6 w2→Cz 60 #[.agg (tA k4 v4 nm4 g4 p4 n4 q4 r4 m4 u4 a4 l4 c4)] w2 _):=d7;replace d8:Aside (∀w2,Bz w6 w2→Cz 60 #[.agg (tA k5 v5 nm5 g5 p5 n5 q5 r5 m5 u5 a5 l5 c5)] w2 _):=d8;have yA:Aside (∀w2,Bz w6 w2→_):=fun(w2:Wo) (hb:Bz w6 w2)=>kM (w:=w6) (w2:=w2) (fun p hp=>hb.cell (hp▸hab)) (by simpa using hc0)
  have uA:Aside (∀w2,Bz w6 w2→_):=fun(w2:Wo) (hb:Bz w6 w2)=>kM (w:=w6) (w2:=w2) (o:=ao+7) (fun p hp=>hb.cell (hp▸hab)) (by simpa using hc1)
  have gA:Aside (∀w2,Bz w6 w2→_):=fun(w2:Wo) (hb:Bz w6 w2)=>bZ ((hb.block g (by rw [hs6];exact(aG.1 hg).1)).trans hq6)
  have c0:=aside2 b6 e8;clear hst hq6 hg6 hs6 e0 hR e8 hW e3 d9 hab hc0 hv0 hc1 hv1 ea hb5 hg hgl hP b6;show wpList _ _ _ _ _ _;simp only [aZ,bG];refine eR rfl 48 _ _ rfl (v:=.pointer (some ⟨g,0,none⟩)) (u:=.agg #[.int .i64 k3,.int .i64 v3,.string a2,.bool g3,.slice p3 n3 q3,.slice r3 m3 u3,.slice (some ⟨ab,ao,none⟩) 2 c3]) rfl rfl d1 ?_;clear d1
  go_upto_region 2 with fail
  refine hRp (Bz w6) 14 (Heavy.lights [0,1,2,3,5,6,7,8,10] (.one 4 (.one 9 (.one 11 (Heavy.lights [12,13] .done))))) (by kernel_rfl) (by kernel_rfl) (dO _ _) ?_;have f0:Bz w6 w6.drew:=dO _ _;simp only [Heavy.lights,bL,bY,aZ,bG]
  (apply hLm;(exact rfl);(exact rfl);(intro a0 hw;go_simp;exact rfl);(go_simp;exact rfl))
  (apply hLm;(exact rfl);(exact rfl);(intro a0 hw;obtain⟨y0,y1,y2,y3,y4,y5,y6⟩:=gA.o a0 hw;go_simp;exact rfl);(go_simp;exact rfl))
  (apply hLm;(exact rfl);(exact rfl);(intro a0 hw;go_simp;exact rfl);(go_simp;exact rfl))
  (apply hLm;(exact rfl);(exact rfl);(intro a0 hw;obtain⟨y0,y1,y2,y3,y4,y5,y6⟩:=yA.o a0 hw;go_simp;exact rfl);(go_simp;exact rfl))
  (apply hLm;(exact rfl);(exact rfl);(intro a0 hw;go_simp;exact rfl);(go_simp;exact rfl))
  (apply hLm;(exact rfl);(exact rfl);(intro a0 hw;obtain⟨y0,y1,y2,y3,y4,y5,y6⟩:=gA.o a0 hw;go_simp;exact rfl);(go_simp;exact rfl))
  (apply hLm;(exact rfl);(exact rfl);(intro a0 hw;go_simp;exact rfl);(go_simp;exact rfl))
  (apply hLm;(exact rfl);(exact rfl);(intro a0 hw;obtain⟨y0,y1,y2,y3,y4,y5,y6⟩:=uA.o a0 hw;go_simp;exact rfl);(go_simp;exact rfl))
  (apply hLm;(exact rfl);(exact rfl);(intro a0 hw;obtain⟨y0,y1,y2,y3,y4,y5,y6⟩:=gA.o a0 hw;go_simp;exact rfl);(go_simp;exact rfl))
  (apply hOn;(exact rfl);(exact rfl));go_simp
  refine(d7.o _ f0).mono ?_;rintro e w7 ⟨k6,v6,b8,g6,p6,n6,q6,r6,m6,u6,a6,l6,c6,rfl,hH,hb7⟩;have f7:Bz w6 w7:=f0.trans (hb7.mono f0.size);refine⟨_,rfl,f7,?_⟩
  (refine hNa (by go_simp;exact rfl) ?_)
  (apply hOn;(exact rfl);(exact rfl));go_simp
  refine(d8.o _ f7).mono ?_;rintro e w8 ⟨k7,v7,b9,g7,p7,n7,q7,r7,m7,u7,a7,l7,c7,rfl,hB,hb8⟩;have f8:Bz w6 w8:=f7.trans (hb8.mono f7.size);refine⟨_,rfl,f8,?_⟩
  (refine hNa (by go_simp;exact rfl) ?_)
  (apply hOn;(exact rfl);(exact rfl));go_simp
  refine(dF.o _ f8).mono ?_;rintro e w9 ⟨v9,rfl,hO9,hb9⟩;have f9:Bz w6 w9:=f8.trans (hb9.mono f8.size);obtain⟨pa,pc,rfl,_⟩:=iN hO9;refine⟨_,rfl,f9,?_⟩
  (refine hNa (by go_simp;exact rfl) ?_)
  iterate 2 ((apply hLm;(exact rfl);(exact rfl);(intro a0 hw;go_simp;exact rfl);(go_simp;exact rfl)))
  apply hPe;show wpList _ _ _ _ _ _;have h0:=zA.o w9 (c0.o.1.trans (f9.mono c0.o.1.size));obtain⟨wf,hst,hqf,hgf,hsf⟩:=fT (vs:=[.int .i64 k6,.int .i64 v6,.string b8,.bool g6,.slice p6 n6 q6,.slice r6 m6 u6,.slice a6 l6 c6,.int .i64 k7,.int .i64 v7,.string b9,.bool g7,.slice p7 n7 q7,.slice r7 m7 u7,.slice a7 l7 c7,.int .i64 R.length]) h0 rfl (by simp [Value.oneCell']);have d1:=nG hst;refine eR rfl 50 _ _ rfl (v:=.pointer (some ⟨w.heap.size+1,0,none⟩)) (u:=.agg #[.int .i64 k6,.int .i64 v6,.string b8,.bool g6,.slice p6 n6 q6,.slice r6 m6 u6,.slice a6 l6 c6,.int .i64 k7,.int .i64 v7,.string b9,.bool g7,.slice p7 n7 q7,.slice r7 m7 u7,.slice a7 l7 c7,.int .i64 R.length]) rfl rfl d1 ?_;clear d1 hst h0;go_wp2;refine fQ (kU rfl _ _ (w.heap.size+1) 50 _ _ _ rfl hqf Tryz.underlying50 rfl (by kernel_rfl)) rfl ?_;have s1:=c0.o.1.size;have s2:=h9.o;have s7:=hb7.size;replace s7:w6.heap.size≤w7.heap.size:=s7;have s8:=hb8.size;have s9:=hb9.size;have s0:=fc.o.size;refine⟨[.int .i64 k6,.int .i64 v6,.string b8,.bool g6,.slice p6 n6 q6,.slice r6 m6 u6,.slice a6 l6 c6],[.int .i64 k7,.int .i64 v7,.string b9,.bool g7,.slice p7 n7 q7,.slice r7 m7 u7,.slice a7 l7 c7],?_,?_,?_,(fc.o.trans ((c0.o.1.trans (f9.mono s1)).mono fc.o.size)).grown hgf (by omega) (by intro k hk;injection hk with hk;omega)⟩
  ·have e:(eI h L).vars=(R.length:Nat):=by rw [c0.o.2];rfl
   rw [e];rfl
  ·refine TmS.mono (fun b (hb:fP _ _ b)=>⟨by have:=hb.1;replace this:w6.heap.size≤b:=this;omega,by have:=hb.2;omega⟩) _ _ (TmS.keep (fun b hb=>?_) _ _ hH.o);have h1:=hb.1;have h2:=hb.2;replace h1:w6.heap.size≤b:=h1;exact(hgf.block b (by omega) (fun e=>by injection e with e;omega)).trans ((hb9.block b (by omega)).trans (hb8.block b h2))
  ·refine TmS.mono (fun b (hb:fP _ _ b)=>⟨by have:=hb.1;omega,by have:=hb.2;omega⟩) _ _ (TmS.keep (fun b hb=>?_) _ _ hB.o);have h1:=hb.1;have h2:=hb.2;exact(hgf.block b (by omega) (fun e=>by injection e with e;omega)).trans (hb9.block b h2)
end
section
attribute [local go_sem] Heavy.uponW
def ChkP (w:Wo) (F:Int) (L:List Ft) (e:Ending) (w':Wo):Prop:=Bz w w'∧∃v,e= .returned (.tuple #[v,.int .i64 F])∧(F≠0→v= .slice none 0 0)∧(F=0→OutF w.heap.size w' v L)
def Hp (P:List Cl) (Ms:List Md) (n:Nat) (a b:Option Addr) (c d:Nat) (w:Wo) (hP:ClsV n w P a) (d3:MdsV n w Ms b) (b6:Ms.length≤d) (hn:n≤w.heap.size):
  Cz 8 #[.slice a P.length c,.slice b Ms.length d] w (ChkP w (lH P Ms) (fO Ms P Ms.length)):=by
 have d1:=NF P Ms n a b c d w hP d3 b6 hn;obtain⟨F,hF⟩:=enm (lH P Ms);obtain⟨R,hR⟩:=enm (fO Ms P Ms.length);have FA:=aside hF;have RA:=aside hR;have a7:=aside3 hP d3 hn;rw [hF] at d1 ⊢;rw [hR];obtain⟨lm,hlm⟩:∃l,Ms.length=l:=⟨_,rfl⟩;obtain⟨lp,hlp⟩:∃l,P.length=l:=⟨_,rfl⟩;have La:=aside2 hlp hlm;rw [hlm,hlp] at d1 ⊢;clear hF hR hP d3 hlm hlp hn b6;go_enter Tryz.func8,Tryz.ntmps8
 by_cases c5:F=0
 case neg=>
  have f1:(F==0)=false:=by simpa using c5
  have f2:(F !=0)=true:=by simpa using c5
  have f3:=aside c5
  go_wp2_with (go_at_call 25;(with_reducible refine d1.mono ?_);rintro e w2 ⟨rfl,a8⟩)
  go_ret2
  exact⟨a8,_,rfl,fun _=>rfl,fun e=>absurd e f3.o⟩
 subst c5;have b2:Aside ((∀C∈P,C.flt=0)∧P.length≤300∧MdsOk Ms):=wY FA.o;have h5:lm≤300:=by have:=b2.o.2.2.1;have:=La.o.2;omega
 have h6:lp≤300:=by have:=b2.o.2.1;have:=La.o.1;omega
 go_upto_region 6 with(go_at_call 25;(with_reducible refine d1.mono ?_);rintro e w2 ⟨rfl,a8⟩)
 have d8:=aside a8;clear d1 a8
 go_loopw [7,22] (fun s7 s wr=>∃(i:Nat) (sv:Value),sv=s7∧s= .int .i64 i∧i≤lm∧OutF w.heap.size wr sv (fO Ms P i)∧Bz w wr) (fun _ s _=>lm-(intOf s).toNat)
 case atStart=>exact⟨0,_,rfl,rfl,bX _,pL _ _ _ _,d8.o⟩
 case round=>
  obtain⟨wo,rfl⟩:=enr wr;obtain⟨i,s7,rfl,rfl,hi,hO,hbo⟩:=hrel
  by_cases h8:i<lm
  ·obtain⟨M,hM⟩:=egf La.o.2 h8;obtain⟨h0,off,vs,rfl,hg1,hc0,hv⟩:=a7.o.2.1 i M hM;have g4:Aside ((M.io.length:Int)=M.ar):=b2.o.2.2.2 M (aV hM);have f9:=aside hM;have c9:=aside hv;obtain⟨am,cm,rfl,hI,hIl⟩:=hv;have b7:=hc0.below hbo (aR hg1 a7.o.2.2);have b9:Aside (M.ind=(M.nm,M.ar)):=rfl;obtain⟨MM,hMM⟩:∃m,M=m:=⟨_,rfl⟩;rw [hMM] at g4 f9 b9;obtain⟨mn,ma,io⟩:=M;have g3:Aside (MM.nm=mn∧MM.ar=ma):=by show _∧_;rw [←hMM];exact⟨rfl,rfl⟩
   dsimp only at b7 hI hIl c9;rw [hMM] at c9;generalize io.length=li at*;have e0:wo.cell? ⟨h0,off+i*3,none⟩=some (.string mn):=b7 0 _ rfl;have e1:wo.cell? ⟨h0,off+i*3+1,none⟩=some (.int .i64 ma):=b7 1 _ rfl;have e2:wo.cell? ⟨h0,off+i*3+2,none⟩=some (.slice am li cm):=b7 2 _ rfl;have d0:=aC wo (Obj.cells #[.string mn,.int .i64 ma,.slice am li cm] 66);have hq:=aJ wo (Obj.cells #[.string mn,.int .i64 ma,.slice am li cm] 66);have c8:=hbo.trans (d0.mono hbo.size);have d6:=gJ hO d0 (aA _);obtain⟨wm,hwm⟩:=enm (wo.alloc (Obj.cells #[.string mn,.int .i64 ma,.slice am li cm] 66));have i1:Aside (wm.heap.size=wo.heap.size+1):=by show _=_;rw [←hwm];simp
   rw [hwm] at d0 hq c8 d6;have d5:Aside (∀j,s7.ownBlock=some j→w.heap.size≤j∧j<wo.heap.size):=fun j hj=>hO.lt j hj
   have h2:Aside (Bz w wm∧wm.heap[wo.heap.size]?=some (.cells #[.string mn,.int .i64 ma,.slice am li cm] 66)∧s7.ownBlock≠some wo.heap.size):=⟨c8,hq,fun e=>by have:=(d5.o _ e).2;omega⟩;have d7:Aside (OutF w.heap.size wm s7 (fO Ms P i++iA Ms P i MM 0)):=by
    show OutF _ _ _ _;rw [show iA Ms P i MM 0= [] from rfl,pS];exact d6
   have i6:Aside (w.heap.size≤wo.heap.size):=hbo.size;obtain⟨i4,hi3,hw3⟩:=elt (i:=i) (n:=lm) (by omega) (by omega);have h9:Aside (∀w2 v,OutF w.heap.size w2 v (fO Ms P i++iA Ms P i MM lp)→OutF w.heap.size w2 v (fO Ms P (i+1))):=fun w2 v h=>by rw [UQ f9.o,La.o.1];exact h
   clear hO hbo b7 hc0 hg1 hM hI hIl hMM d0 hq c8 d6
   go_upto_region 8 with fail
   clear hwm e0 e1 e2
   go_upto_region 9 with fail
   go_loopw [7,29] (fun s7 s wr=>∃(k:Nat) (sv:Value),sv=s7∧s= .int .i64 k∧k≤lp∧OutF w.heap.size wr sv (fO Ms P i++iA Ms P i MM k)∧Bz w wr∧wr.heap[wo.heap.size]?=some (.cells #[.string mn,.int .i64 ma,.slice am li cm] 66)∧sv.ownBlock≠some wo.heap.size) (fun _ s _=>lp-(intOf s).toNat)
   case atStart=>exact⟨0,_,rfl,rfl,bX _,d7.o,h2.o⟩
   case round=>
    obtain⟨wi,rfl⟩:=enr wr;obtain⟨k,s7,rfl,rfl,hk,hO,hbi,hkb,hks⟩:=hrel
    by_cases h4:k<lp
    ·obtain⟨C,hC⟩:=egf La.o.1 h4;have f8:Aside (C.flt=0):=b2.o.1 C (aV hC);have h1:=a7.o.1 k C hC;have f7:=aside hC;obtain⟨g0,ofc,vh,vb,rfl,hg,hc,hvh,hvb⟩:=a7.o.1.read hC;have g9:Aside (ClV n w C (jR vh vb C.vars)):=⟨vh,vb,rfl,hvh,hvb⟩;have e4:=hc.below hbi (aR hg a7.o.2.2);obtain⟨CC,hCC⟩:∃m,C=m:=⟨_,rfl⟩;have b4:Aside (∀w2,Bz w w2→CC.h.ind=MM.ind→Cz 27 #[.agg (jR vh vb C.vars).toArray,.agg #[.string mn,.int .i64 ma,.slice am li cm],.slice (some ⟨h0,off,none⟩) lm d] w2 (CfP w2 (iE Ms CC MM))):=fun w2 hb b8=>by
      have:=Hs CC MM Ms n (some ⟨h0,off,none⟩) d w2 (jR vh vb C.vars) [.string mn,.int .i64 ma,.slice am li cm] (by rw [←hCC];exact g9.o.below hb a7.o.2.2) (by rw [←hCC];exact f8.o) (c9.o.below hb a7.o.2.2) g4.o (a7.o.2.1.below hb a7.o.2.2) b2.o.2.2 b8 (aD a7.o.2.2 hb.size);rw [La.o.2] at this;exact this
     rw [hCC] at f7 f8;have b1:=QS Ms i k MM CC;obtain⟨⟨f1,f2⟩,hf⟩:∃r,iE Ms CC MM=r:=⟨_,rfl⟩;rw [hf] at b4 b1;have c3:=LV (Ms:=Ms) (P:=P) (i:=i) (k:=k) (M:=MM) f7.o;obtain⟨ci,hci⟩:∃c,CC.h.ind=c:=⟨_,rfl⟩;have e3:=aside hci;have a4:Aside (C.h.ind=ci):=by show _=_;rw [hCC];exact hci
     clear hci;obtain⟨th,tb,vars⟩:=C;dsimp only at e4 hvh hvb b4 a4;obtain⟨k1,v1,nm1,g1,num1,den1,b3⟩:=th;obtain⟨k2,v2,nm2,g2,num2,den2,args2⟩:=tb;simp only [TmV] at hvh hvb;obtain⟨_,_,a1,c1,rfl,⟨⟨p1,q1,rfl,_⟩,⟨p2,q2,rfl,_⟩⟩,_⟩:=hvh;obtain⟨_,_,a2,c2,rfl,⟨⟨p3,q3,rfl,_⟩,⟨p4,q4,rfl,_⟩⟩,_⟩:=hvb;simp only [Tm.ind] at a4;generalize b3.length=l1,num1.length=n1,den1.length=n2,args2.length=l2,num2.length=n3,den2.length=n4 at*;obtain⟨x0,x1,x2,x3,x4,x5,x6,x7,x8,x9,x10,x11,x12,x13,x14⟩:=BW e4;replace b4:Aside (∀w2,Bz w w2→CC.h.ind=MM.ind→Cz 27 #[.agg (tC k1 v1 nm1 g1 p1 n1 q1 p2 n2 q2 a1 l1 c1 k2 v2 nm2 g2 p3 n3 q3 p4 n4 q4 a2 l2 c2 vars),.agg #[.string mn,.int .i64 ma,.slice am li cm],.slice (some ⟨h0,off,none⟩) lm d] w2 (CfP w2 (f1,f2))):=b4;have dk:Aside (∀w2,Cz 26 #[.agg (tA k1 v1 nm1 g1 p1 n1 q1 p2 n2 q2 a1 l1 c1)] w2 fun e w'=>e= .returned (.agg #[.string nm1,.int .i64 l1])∧Bz w2 w'):=fun w2=>oR k1 v1 nm1 g1 _ _ _ _ _ w2
     obtain⟨B,hB⟩:∃b,decide ((nm1,(l1:Int))=(mn,ma))=b:=⟨_,rfl⟩;have g7:=qN nm1 mn l1 ma;have i2:=sH;have g8:=aside hB;rw [hB] at g7;have f6:Aside (decide (CC.h.ind=MM.ind)=B):=by
      show _=_;rw [e3.o,←a4.o,b9.o,g3.o.1,g3.o.2];exact hB
     have d0:=aC wi (bC k1 v1 nm1 g1 p1 n1 q1 p2 n2 q2 a1 l1 c1 k2 v2 nm2 g2 p3 n3 q3 p4 n4 q4 a2 l2 c2 vars);have hq:=aJ wi (bC k1 v1 nm1 g1 p1 n1 q1 p2 n2 q2 a1 l1 c1 k2 v2 nm2 g2 p3 n3 q3 p4 n4 q4 a2 l2 c2 vars);have c7:=hbi.trans (d0.mono hbi.size);have d4:=gJ hO d0 (aA _);obtain⟨wc,hwc⟩:=enm (wi.alloc (bC k1 v1 nm1 g1 p1 n1 q1 p2 n2 q2 a1 l1 c1 k2 v2 nm2 g2 p3 n3 q3 p4 n4 q4 a2 l2 c2 vars));have f0:Aside (wc.heap.size=wi.heap.size+1):=by show _=_;rw [←hwc];simp
     rw [hwc] at d0 hq c7 d4;have fa:Aside (∀w2,Bz wc w2→_):=fun(w2:Wo) (hb:Bz wc w2)=>pI ((hb.block wi.heap.size (by have:=f0.o;omega)).trans hq)
     have e7:wc.heap[wo.heap.size]?=some (.cells #[.string mn,.int .i64 ma,.slice am li cm] 66):=(d0.block _ (aG.1 hkb).1).trans hkb;have c0:Aside (wo.heap.size<wc.heap.size):=(aG.1 e7).1;have a0:=aside3 c7 e7 hks;have a3:Aside (∀w2,Bz wc w2→Bz w w2∧w2.heap[wo.heap.size]?=some (.cells #[.string mn,.int .i64 ma,.slice am li cm] 66)∧s7.ownBlock≠some wo.heap.size):=fun w2 hb=>⟨a0.o.1.trans (hb.mono a0.o.1.size),(hb.block _ c0.o).trans a0.o.2.1,a0.o.2.2⟩
     have fm:Aside (∀w2,Bz wc w2→_):=fun(w2:Wo) (hb:Bz wc w2)=>qY (a3.o w2 hb).2.1
     have b0:=aside d4;have f4:Aside (w.heap.size≤wc.heap.size):=a0.o.1.size;obtain⟨i5,hk3,hw4⟩:=elt (i:=k) (n:=lp) (by omega) (by omega);have a6:=aside c3;have a5:Aside _:=b1;have e8:Aside ((fO Ms P i++iA Ms P i MM k).length≤100000):=Em (by omega) (by omega) b2.o.2.1;clear hO hbi e4 hc hg hC hCC h1 d0 hq c7 d4 hB hf c3 b1 hkb hks e7
     go_upto_region 11 with fail
     clear hwc x0 x1 x2 x3 x4 x5 x6 x7 x8 x9 x10 x11 x12 x13 x14;have fd:Bz wc wc.drew:=dO _ _;refine hRp (Bz wc) 5 (Heavy.lights [0,1,3,4] (.one 2 .done)) (by kernel_rfl) (by kernel_rfl) fd ?_;simp only [Heavy.lights,bL,bY,aZ,bG]
     (apply hLm;(exact rfl);(exact rfl);(intro c4 hw;go_simp;exact rfl);(go_simp;exact rfl))
     (apply hLm;(exact rfl);(exact rfl);(intro c4 hw;obtain⟨x0,x1,x2,x3,x4,x5,x6,x7,x8,x9,x10,x11,x12,x13,x14⟩:=fa.o c4 hw;go_simp;exact rfl);(go_simp;exact rfl))
     (apply hLm;(exact rfl);(exact rfl);(intro c4 hw;go_simp;exact rfl);(go_simp;exact rfl))
     (apply hLm;(exact rfl);(exact rfl);(intro c4 hw;obtain⟨m0,m1,m2⟩:=fm.o c4 hw;go_simp;exact rfl);(go_simp;exact rfl))
     (apply hOn;(exact rfl);(exact rfl));go_simp
     refine(dk.o _).mono ?_;rintro e wk ⟨rfl,hbk⟩;have ek:Bz wc wk:=fd.trans (hbk.mono fd.size);refine⟨_,rfl,ek,?_⟩
     (refine hNa (by go_simp;exact rfl) ?_)
     apply hPe;show wpList _ _ _ _ _ _;have a9:=aside ek;clear hbk fd ek;cases B
     ·have e9:Aside (OutF w.heap.size wk s7 (fO Ms P i++iA Ms P i MM (k+1))∧Bz w wk∧wk.heap[wo.heap.size]?=some (.cells #[.string mn,.int .i64 ma,.slice am li cm] 66)∧s7.ownBlock≠some wo.heap.size):=by
       show _∧_;rw [a6.o,a5.o.1 (of_decide_eq_false f6.o),pS];exact⟨gJ b0.o a9.o (aA _),a3.o wk a9.o⟩
      go_wp2;exact⟨⟨k+1,_,rfl,by simp,by omega,e9.o⟩,by simp [intOf];omega⟩
     ·have b8:Aside (CC.h.ind=MM.ind):=by show _=_;exact rA f6.o
      have i0:=rA g8.o;injection i0 with hpe1 hpe2
      obtain rfl:=hpe1.symm;obtain⟨x0,x1,x2,x3,x4,x5,x6,x7,x8,x9,x10,x11,x12,x13,x14⟩:=fa.o wk a9.o;obtain⟨m0,m1,m2⟩:=fm.o wk a9.o;have d2:=b4.o wk (a3.o wk a9.o).1 b8.o;clear g7 i2
      by_cases c6:f2=0
      ·subst c6;have e9:Aside (∀w2,Bz wk w2→OutF w.heap.size w2 s7 (fO Ms P i++iA Ms P i MM (k+1))∧Bz w w2∧w2.heap[wo.heap.size]?=some (.cells #[.string mn,.int .i64 ma,.slice am li cm] 66)∧s7.ownBlock≠some wo.heap.size):=fun w2 hb=>by
        have a8:Bz wc w2:=a9.o.trans (hb.mono a9.o.size);rw [a6.o,a5.o.2.1 b8.o rfl,pS];exact⟨gJ b0.o a8 (aA _),a3.o w2 a8⟩
       go_wp2_with (go_at_call 27;(with_reducible refine d2.mono ?_);rintro e w5 ⟨rfl,hb5⟩)
       exact⟨⟨k+1,_,rfl,by simp,by omega,e9.o w5 hb5⟩,by simp [intOf];omega⟩
      ·have g1:(f2==0)=false:=by simpa using c6
       have g2:(f2 !=0)=true:=by simpa using c6
       have e6:=aside c6;have f5:Aside (∀w2,Bz wk w2→Bz wc w2∧OutF w.heap.size w2 s7 (fO Ms P i++iA Ms P i MM k)):=fun w2 hb=>by
        have a8:Bz wc w2:=a9.o.trans (hb.mono a9.o.size);exact⟨a8,gJ b0.o a8 (aA _)⟩
       go_upto_region 14 with(go_at_call 27;(with_reducible refine d2.mono ?_);rintro e w5 ⟨rfl,hb5⟩)
       obtain⟨d9,hO6⟩:=f5.o w5 hb5;obtain⟨q1,q2,q3,q4,q5,q6⟩:=hO6.app rfl (aD f4.o d9.size) e8.o i k f1 f2;have q7:∀u∈([.int .i64 i,.int .i64 k,.int .i64 f1,.int .i64 f2]:Lv),u.oneCell'=true:=by simp [Value.oneCell']
       have b5:=aside d9;have i3:Aside _:=q6;clear d9 hO6 hb5 d2 x0 x1 x2 x3 x4 x5 x6 x7 x8 x9 x10 x11 x12 x13 x14 m0 m1 m2 q6
       go_wp2_with (at_builtin;refine jK elFt _ rfl _ _ rfl w.heap.size _ _ _ rfl q1 _ _ _ rfl q2 rfl q7 q3 q4 q5 ?_;intro v7 w7 h7 g5 g6)
       obtain⟨r1,r2,r3⟩:=i3.o v7 w7 h7 g5 g6;have hS:=a3.o w5 b5.o;obtain⟨r4,r5⟩:=r3 wo.heap.size (aR c0.o b5.o.size) hS.2.2;have hL:OutF w.heap.size w7 v7 (fO Ms P i++iA Ms P i MM (k+1))∧Bz w w7∧w7.heap[wo.heap.size]?=some (.cells #[.string mn,.int .i64 ma,.slice am li cm] 66)∧v7.ownBlock≠some wo.heap.size:=by
        rw [a6.o,a5.o.2.2 b8.o e6.o,←fJ];exact⟨r1,hS.1.trans (r2.mono (aA _)),r4.trans hS.2.1,r5⟩
       have h3:Aside _:=hL;clear hL r1 r2 r3 r4 r5 hS h7 g5 g6 q1 q2 q3 q4 q5 q7;go_wp2;exact⟨⟨k+1,_,rfl,by simp,by omega,h3.o⟩,by simp [intOf];omega⟩
    ·obtain rfl:k=lp:=by omega
     have hL:=h9.o wi s7 hO;clear hO hkb hks;go_wp2;exact⟨⟨i+1,_,rfl,by simp,by omega,hL,hbi⟩,by simp [intOf];omega⟩
  ·obtain rfl:i=lm:=by omega
   have hL:Aside (ChkP w 0 R (.returned (.tuple #[s7,.int .i64 0])) wo):=⟨hbo,_,rfl,fun h=>absurd rfl h,fun _=>by rw [←RA.o,La.o.2];exact hO⟩;clear hO hbo;go_wp2
   go_ret2
   exact hL.o
end
section
attribute [local go_sem] Heavy.uponW
def tX {fn:Func} {p q r:Tmp} (h:fn.results=#[.cell p 50,.tmp q,.tmp r]) (tmps:Array Value) (w:Wo) (g:Nat) (t:TypeId) (cs:Array Value) (fr:Nat × Nat) (v u:Value)
  (hp:tmps.getD p undef= .pointer (some ⟨g,0,none⟩)) (hg:w.heap[g]?=some (.cells cs t fr)) (hl:cs.size=15) (hq:tmps.getD q undef=v) (hr:tmps.getD r undef=u):
  (results fn tmps).run Tryz.prog w= .ok (.tuple #[.agg cs,v,u]) w:=by
 have a2:tmps[p]?.getD undef= .pointer (some ⟨g,0,none⟩):=by simpa using hp
 have a3:tmps[q]?.getD undef=v:=by simpa using hq
 have a4:tmps[r]?.getD undef=u:=by simpa using hr
 have hi:(Tryz.prog.info? 50).map (·.size)=some cs.size:=by rw [hl];kernel_rfl
 simp [results,h,a2,a3,a4,asAddr,run_loadVar_row w g t 50 cs fr _ hg Tryz.underlying50 rfl hi]
def SchP (P:List Cl) (Ms:List Md) (ci mi:Int) (w:Wo) (e:Ending) (w':Wo):Prop:=Bz w w'∧∃cs b a0,(List.length cs=15∧∀u∈cs,u.oneCell'=true)∧e= .returned (.tuple #[.agg cs.toArray,.bool b,.int .i64 a0])∧
 (b=true→a0=0→∃(k m:Nat) (C C':Cl) (M:Md),ci=k∧mi=m∧P[k]?=some C∧Ms[m]?=some M∧lH P Ms=0∧C'.flt=0∧iE Ms C' M=(0,0)∧ClV w'.heap.size w' C' cs)
def QE {α:Type} (p:α→Bool):∀(L:List α) (k:Nat),fD p L k= -1∨∃i x,L[i]?=some x∧p x=true∧fD p L k=((k+i:Nat):Int)
 | [],k=>.inl rfl
 | x::r,k=>by
  rw [fD]
  by_cases h:p x=true
  ·rw [if_pos h];exact .inr ⟨0,x,rfl,h,rfl⟩
  ·rw [if_neg h];rcases QE p r (k+1) with h1|⟨i,y,h1,h2,h3⟩
   ·exact .inl h1
   ·exact .inr ⟨i+1,y,by simpa using h1,h2,by rw [h3];congr 1;omega⟩
def KE {n m:Nat} {w:Wo} (h:n≤m):∀{L:List Tm} {X:Lv},TsX n w L X→TsX m w L X
 | [],_,hx=>hx
 |T::r,_,hx=>by
  simp only [TsX] at hx ⊢;obtain⟨vs,Y,e,h1,h2⟩:=hx;exact⟨vs,Y,e,TmV.up h _ _ h1,KE h h2⟩
def KH {m:Nat} {w:Wo} {g:Nat} (hg:g<m):∀{L:List Tm} {X:Lv} {i:Nat},TsX m w L X→(∀(j:Nat) u,X[j]?=some u→w.cell? ⟨g,i*7+j,none⟩=some u)→bS m w L (some ⟨g,0,none⟩) i
 | [],_,_,_,_=>by simp only [bS]
 | T::r,_,i,hx,hc=>by
  simp only [TsX] at hx;obtain⟨vs,Y,rfl,h1,h2⟩:=hx;have hl:=h1.len;simp only [bS];refine⟨⟨g,0,vs,rfl,hg,fun j u hj=>?_,h1⟩,KH hg h2 fun j u hj=>?_⟩
  ·rw [bT];exact hc j u (by rw [dW (aM.1 hj).1];exact hj)
  ·have:=hc (7+j) u (by rw [dK (by omega),hl,show 7+j-7=j by omega];exact hj)
   rwa [show i*7+(7+j)=(i+1)*7+j by omega] at this
def OutT.tms (h:OutT n base w v L) (hn:n≤w.heap.size):∃a c,v= .slice a L.length c∧bS w.heap.size w L a 0:=by
 obtain⟨X,hX,hT⟩:=h;have h0:=hX;obtain⟨a1,⟨rfl,hz⟩|⟨g,cap,cur,rfl,hb,hg,hnc,hm,hs,ht⟩⟩:=hX
 ·obtain rfl:L= []:=gI hz;exact⟨none,0,rfl,by simp only [bS]⟩
 ·refine⟨_,_,rfl,KH (aG.1 hg).1 (KE hn hT) fun j u hj=>?_⟩;have:=h0.cells (g:=g) rfl j u hj;rw [jI,bT] at this;rw [show 0*7+j=j by omega];exact this
def OutT.keep {w':Wo} (h:OutT n base w v L) (hk:∀g,v.ownBlock=some g→w'.heap[g]?=w.heap[g]?) (hb:Below n w w'):OutT n base w' v L:=by
 obtain⟨X,h1,h2⟩:=h;exact⟨X,gS h1 hk,h2.below hb (aA _)⟩
def OutT.push {w5:Wo} {v v5:Value} {T:Tm} {X vs:Lv} (hT:TsX n w L X) (hv:TmV n w T vs) (h5:w5.ownsRow base 48 7 v5 (L.length+1) (X++vs)) (hb:Below n w w5):OutT n base w5 v5 (L++ [T]):=by
 refine⟨X++vs,by rw [aI];exact h5,?_⟩;have:TsX n w [T] vs:=by simp only [TsX];exact⟨vs,[],by simp,hv,rfl⟩
 exact(TsX.app hT this).below hb (aA _)
def Aj {w w2:Wo} {vs:Lv} {g:Nat} (h:w2.heap[g]?=some (.cells vs.toArray 48)):SrcAt w2 (.slice (some ⟨g,0,none⟩) 1 1) 1 vs:=.inr ⟨_,_,rfl,fun j u hj=>by
 rw [jI,bT];simp only [World.cell?,h];simpa using hj⟩
def LN {Ms:List Md} {T:Tm}:∀{L:List Tm} {i:Nat} {K K2:List Bool},fL Ms L i K=((i+L.length,0),K2)→(cA Ms K2 T).1=0→fL Ms (L++ [T]) i K=((i+L.length+1,0),(cA Ms K2 T).2)
 | [],i,K,K2,h,h0=>by
  rw [fL] at h;injection h with _ h
  subst h;rw [kX,fL,if_pos h0,fL];simp
 | A::r,i,K,K2,h,h0=>by
  rw [fL] at h;rw [mW,fL]
  by_cases hA:(cA Ms K A).1=0
  ·rw [if_pos hA] at h ⊢;have:=LN (L:=r) (i:=i+1) (K2:=K2) (by rw [h,eW];congr 2;omega) h0;rw [this,eW];congr 2;omega
  ·rw [if_neg hA] at h;injection h with h1 h2
   injection h1 with h1 h3
   exact absurd h3 hA
def ZW {α:Type} {O L C:List α} {T:α} (h:(O++L).Perm C) (hT:L[i]?=some T):((O++ [T])++(L.take i++L.drop (i+1))).Perm C:=by
 obtain⟨hi,rfl⟩:=aM.1 hT;refine List.Perm.trans ?_ h;rw [fJ];refine List.Perm.append_left O ?_;have e:L=L.take i++(L[i]::L.drop (i+1)):=by rw [←iK hi,pO]
 conv=>rhs;rw [e]
 exact(show(L[i]::(L.take i++L.drop (i+1))).Perm _ from List.perm_middle.symm)
def slLen:Value→Nat
 | .slice _ n _=>n
 |_=>0
def SchS (Ms:List Md) (n mb:Nat) (K1:List Bool) (CL:List Tm) (wK wr:Wo) (lv ov:Value):Prop:=
 ∃Lf Ou K,(Ou++Lf).Perm CL∧fL Ms Ou 0 K1=((0+Ou.length,0),K)∧K.length=K1.length∧aW wr mb (KnS K)∧aS (fun k=>k=mb) wK wr∧OutT n wK.heap.size wr lv Lf∧OutT n wK.heap.size wr ov Ou∧SepJ lv ov
end
