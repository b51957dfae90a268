/- Lemmas; no condition. -/
import Derived.Test.YtbdpdeonapmlgaaGreatDoorAt
set_option linter.all false
set_option maxHeartbeats 16000000
set_option maxRecDepth 100000
namespace Go.Proofs.YtbdpdeonapmlgaaGreatDoor
open Go.RowKit Go.Big Go.RowsK Go.MapK
variable {a:Option Addr} {n i c l m:Nat} {w:Wo} {T:Tm} {v k:Int}
attribute [local go_sem] Heavy.uponW
def IntsAt.up (hm:n≤m) {w:Wo} {a:Option Addr} {L:List Int} (h:IntsAt n w a L):IntsAt m w a L:=fun j x hj=>by
 obtain⟨b,off,e,hb,hc⟩:=h j x hj;exact⟨b,off,e,aR hb hm,hc⟩
def MdsV.up (hm:n≤m) {w:Wo} {L:List Md} {a:Option Addr} (h:MdsV n w L a):MdsV m w L a:=fun k M hk=>by
 obtain⟨g,off,vs,e,hg,hc,a1,c1,e1,h1,h2⟩:=h k M hk;exact⟨g,off,vs,e,aR hg hm,hc,a1,c1,e1,h1.up hm,h2⟩
def YX {W W1:Wo} {A:Addr} {v0 v1 v2:Value} (h:(storeCells A [v0,v1,v2] 0).run Tryz.prog W= .ok () W1):(Instr.storeAt 66 (.pointer (some A)) (.agg #[v0,v1,v2])).run Tryz.prog W= .ok () W1:=by
 have hs:∀w,(sizeOf 66).run Tryz.prog w= .ok 3 w:=fun w=>Tryz.sizeOf66 w
 have ha:(Instr.sureAddr (.pointer (some A))).run Tryz.prog W= .ok A W:=rfl;unfold Instr.storeAt;simp [storeVar,ha,hs,Value.cells,h]
def SchR (wb:Wo) (rb:Nat) (cs ms:Lv) (a':Act) (w':Wo):Prop:=∃(x0 x1 x2 x3 f5 u9 v6 v7 v8 v9 w0 w1 w4 y2 y3 y4 y5 y6 y7 y8 y9 z5 z6 z7 z8 z9 ab ac ad ae af ag ah ai aj:Value) (gc gm:Nat),a'={ tmps:=#[x0,x1,x2,x3,undef,.pointer (some ⟨rb,0,none⟩),undef,undef,.pointer (some ⟨rb+1,0,none⟩),.bool false,.int .i64 0,f5,.pointer (some ⟨gc,0,none⟩),.pointer (some ⟨gm,0,none⟩),undef,undef,undef,undef,undef,u9,v6,v7,v8,v9,undef,undef,w0,w1,w4,y2,y3,y4,y5,y6,y7,y8,y9,z5,z6,z7,z8,z9,ab,ac,undef,ad,ae,af,ag,ah,ai,aj,.agg ms.toArray,undef,undef,undef,undef,undef,undef,undef,undef,undef,undef,undef,undef,undef,undef,undef,undef,undef,undef,undef,undef,undef,undef,undef,undef,undef,undef,undef,undef,undef,undef,undef,undef,undef,undef,undef,undef,undef,undef,undef,undef,undef,undef,undef,undef,undef,undef,undef,undef,undef,undef,undef,undef,undef,undef,undef,undef,undef],defers:=[] }∧Bz wb w'∧w'.heap[gc]?=some (.cells cs.toArray 50)∧w'.heap[gm]?=some (.cells #[.string ⟨#[]⟩,.int .i64 0,.slice none 0 0] 66)∧wb.heap.size≤gc∧wb.heap.size≤gm∧gc≠gm
def NN {P:Program} {ops:Array Oper} {C:Wo→Prop} {p:Heavy.Plan} {Q:Act→Wo→Prop} {o:Oper} {a:Act} {w':Wo} (h0:ops[i]?=some o) (hg:o.guard=none) (t:TypeId) (x y:Operand) (ho:o.op= .store t x y) {v u:Value} (hx:a.eval x=v) (hy:a.eval y=u) (hr:(Instr.storeAt t v u).run P w= .ok () w') (hC:C w') (hK:Heavy.runP P ops C Q p (a.put o.dst undef) w'):Heavy.runP P ops C Q (.one i p) a w:=
 hOn h0 hg (by rw [RH t x y ho hx hy hr];exact⟨hC,hK⟩)
def TmV.indV {nm:ByteArray} {g:Bool} {s1 s2:Value} (h:TmV n w T [.int .i64 k,.int .i64 v,.string nm,.bool g,s1,s2,.slice a l c]):T.ind=(nm,(l:Int)):=by
 obtain⟨k',v',nm',g',num,den,args⟩:=T;simp only [TmV] at h;obtain⟨_,_,_,_,e,_⟩:=h;injection e with _ e;injection e with _ e;injection e with e1 e;injection e with _ e;injection e with _ e;injection e with _ e;injection e with e _
 injection e1 with e1
 injection e with _ e _
 subst e1 e;rfl
def OutT.someT {base:Nat} {L:List Tm} (h:OutT n base w (.slice a l c) L) (hk:L[i]?=some T):∃g,a=some ⟨g,0,none⟩∧base≤g:=by
 obtain⟨a',c',e,h1⟩:=h.read2;obtain⟨g,vs,e2,h2,_⟩:=h1 i T hk;injection e with e3
 exact⟨g,e3.trans e2,h2⟩
def ClV.one1 {A B:Tm} {vh vb:Lv} (h1:TmV n w A vh) (h2:TmV n w B vb):∀u∈jR vh vb v,u.oneCell'=true:=by
 intro u hu;simp only [jR,cG,fI] at hu;rcases hu with(hu|hu)|hu
 · exact h1.one u hu
 · exact h2.one u hu
 · subst hu;rfl
def YP (P:List Cl) (Ms:List Md) (ci mi:Int) (n:Nat) (a b:Option Addr) (c d:Nat) (w:Wo) (hP:ClsV n w P a) (o7:MdsV n w Ms b) (i9:Ms.length≤d) (hn:n≤w.heap.size):
   Cz 22 #[.slice a P.length c,.slice b Ms.length d,.int .i64 ci,.int .i64 mi] w (SchP P Ms ci mi w):=by
 have dF:Aside (∀w2,Bz w w2→Cz 25 #[.slice a P.length c,.slice b Ms.length d] w2 (fun e w'=>e= .returned (.int .i64 (lH P Ms))∧Bz w2 w')):=fun w2 hb=>NF P Ms n a b c d w2 (hP.below hb hn) (o7.below hb hn) i9 (aD hn hb.size)
 obtain⟨F,hF⟩:=enm (lH P Ms);have FA:=aside hF;have d0:=aside4 hP o7 hn i9;rw [hF] at dF;obtain⟨lm,hlm⟩:∃l,Ms.length=l:=⟨_,rfl⟩;obtain⟨lp,hlp⟩:∃l,P.length=l:=⟨_,rfl⟩;have La:=aside2 hlp hlm;rw [hlm,hlp] at dF;rw [hlm,hlp];clear hF hP o7 hlm hlp hn i9;have b0:=aC w (Obj.cells #[.slice b lm d] 23);have hq:=aJ w (Obj.cells #[.slice b lm d] 23);obtain⟨wa,hwa⟩:∃x,w.alloc (Obj.cells #[.slice b lm d] 23)=x:=⟨_,rfl⟩;have p8:wa.heap.size=w.heap.size+1:=by rw [←hwa];simp
 rw [hwa] at b0 hq;have b1:=aC wa (Obj.cells #[.int .i64 0,.int .i64 0,.string ⟨#[]⟩,.bool false,.slice none 0 0,.slice none 0 0,.slice none 0 0,.int .i64 0,.int .i64 0,.string ⟨#[]⟩,.bool false,.slice none 0 0,.slice none 0 0,.slice none 0 0,.int .i64 0] 50);have o1:=aJ wa (Obj.cells #[.int .i64 0,.int .i64 0,.string ⟨#[]⟩,.bool false,.slice none 0 0,.slice none 0 0,.slice none 0 0,.int .i64 0,.int .i64 0,.string ⟨#[]⟩,.bool false,.slice none 0 0,.slice none 0 0,.slice none 0 0,.int .i64 0] 50);obtain⟨wb,hwb⟩:∃x,wa.alloc (Obj.cells #[.int .i64 0,.int .i64 0,.string ⟨#[]⟩,.bool false,.slice none 0 0,.slice none 0 0,.slice none 0 0,.int .i64 0,.int .i64 0,.string ⟨#[]⟩,.bool false,.slice none 0 0,.slice none 0 0,.slice none 0 0,.int .i64 0] 50)=x:=⟨_,rfl⟩;have m6:wb.heap.size=w.heap.size+2:=by rw [←hwb,cB,p8]
 rw [hwb] at b1 o1;rw [p8] at o1;have fb:Aside (Bz w wb):=b0.trans (b1.mono b0.size);have bw:Aside (∀w2,Bz wb w2→Bz w w2):=fun w2 hb=>fb.o.trans (hb.mono fb.o.size)
 have xA:Aside (∀w2,Bz wb w2→w2.heap[w.heap.size]?=some (.cells #[.slice b lm d] 23)):=fun w2 hb=>(hb.block w.heap.size (by omega)).trans ((b1.block w.heap.size (by omega)).trans hq)
 have zA:Aside (∀w2,Bz wb w2→w2.heap[w.heap.size+1]?=some (.cells #[.int .i64 0,.int .i64 0,.string ⟨#[]⟩,.bool false,.slice none 0 0,.slice none 0 0,.slice none 0 0,.int .i64 0,.int .i64 0,.string ⟨#[]⟩,.bool false,.slice none 0 0,.slice none 0 0,.slice none 0 0,.int .i64 0] 50)):=fun w2 hb=>(hb.block (w.heap.size+1) (by omega)).trans o1
 have bk:=aside m6;have n0:Aside (∀w3 o5,Bz w w3→SchP P Ms ci mi w (.returned (.tuple #[.agg #[.int .i64 0,.int .i64 0,.string ⟨#[]⟩,.bool false,.slice none 0 0,.slice none 0 0,.slice none 0 0,.int .i64 0,.int .i64 0,.string ⟨#[]⟩,.bool false,.slice none 0 0,.slice none 0 0,.slice none 0 0,.int .i64 0],.bool false,.int .i64 o5])) w3):=fun w3 o5 hb=>⟨hb,[.int .i64 0,.int .i64 0,.string ⟨#[]⟩,.bool false,.slice none 0 0,.slice none 0 0,.slice none 0 0,.int .i64 0,.int .i64 0,.string ⟨#[]⟩,.bool false,.slice none 0 0,.slice none 0 0,.slice none 0 0,.int .i64 0],false,o5,⟨rfl,by simp [Value.oneCell']⟩,rfl,fun h=>by cases h⟩
 have d1:=dF.o wb fb.o;clear b0 hq b1 o1 m6;obtain⟨y0,_⟩:=iU (xA.o wb (bD _ _));go_enter Tryz.func22,Tryz.ntmps22
 by_cases o6:F=0
 case neg=>
   have f1:(F==0)=false:=by simpa using o6
   have f2:(F !=0)=true:=by simpa using o6
   go_upto_region 3 with(go_at_call 25;(with_reducible refine d1.mono ?_);rintro e w2 ⟨rfl,d4⟩)
   clear p8;obtain⟨wf,a0,c6,hgf,hsf⟩:=fT (vs:=[.int .i64 0,.int .i64 0,.string ⟨#[]⟩,.bool false,.slice none 0 0,.slice none 0 0,.slice none 0 0,.int .i64 0,.int .i64 0,.string ⟨#[]⟩,.bool false,.slice none 0 0,.slice none 0 0,.slice none 0 0,.int .i64 0]) (zA.o w2 d4) rfl (by simp [Value.oneCell']);have a6:=nG a0;have b9:Aside (Bz w w2):=bw.o w2 d4;clear a0
   go_upto_region 3 with fail
   refine dZ ?_
   iterate 2 (refine bE rfl fun K hK=>?_;go_simp;refine hK _ _ ?_;clear hK)
   refine eR rfl 50 _ _ rfl (v:=.pointer (some ⟨w.heap.size+1,0,none⟩)) (u:=.agg #[.int .i64 0,.int .i64 0,.string ⟨#[]⟩,.bool false,.slice none 0 0,.slice none 0 0,.slice none 0 0,.int .i64 0,.int .i64 0,.string ⟨#[]⟩,.bool false,.slice none 0 0,.slice none 0 0,.slice none 0 0,.int .i64 0]) rfl rfl a6 ?_;clear a6;go_wp2;refine fQ (tX rfl _ _ (w.heap.size+1) 50 _ _ _ _ rfl c6 rfl rfl rfl) rfl ?_;exact n0.o wf _ (b9.o.grown hgf (by have:=b9.o.size;omega) (by intro k hk;injection hk with hk;omega))
 subst o6;have o0:Aside ((∀C∈P,C.flt=0)∧P.length≤300∧MdsOk Ms):=wY FA.o
 go_upto_region 4 with(go_at_call 25;(with_reducible refine d1.mono ?_);rintro e w2 ⟨rfl,d4⟩)
 clear d1 y0;obtain⟨y0,_⟩:=iU (xA.o w2 d4);have l8:ci<0∨((¬ci<0)∧(lp:Int)≤ci)∨((¬ci<0)∧(¬(lp:Int)≤ci)∧mi<0)∨((¬ci<0)∧(¬(lp:Int)≤ci)∧(¬mi<0)∧(lm:Int)≤mi)∨((¬ci<0)∧(¬(lp:Int)≤ci)∧(¬mi<0)∧(¬(lm:Int)≤mi)):=by omega
 rcases l8 with h1|⟨h1,h2⟩|⟨h1,h2,h3⟩|⟨h1,h2,h3,h4⟩|⟨h1,h2,h3,h4⟩
 iterate 4
  ·
   obtain⟨wf,a0,c6,hgf,hsf⟩:=fT (vs:=[.int .i64 0,.int .i64 0,.string ⟨#[]⟩,.bool false,.slice none 0 0,.slice none 0 0,.slice none 0 0,.int .i64 0,.int .i64 0,.string ⟨#[]⟩,.bool false,.slice none 0 0,.slice none 0 0,.slice none 0 0,.int .i64 0]) (zA.o w2 d4) rfl (by simp [Value.oneCell']);have a6:=nG a0;have b9:Aside (Bz w w2):=bw.o w2 d4;clear a0
   go_upto_region 5 with fail
   refine dZ ?_
   iterate 1 (refine bE rfl fun K hK=>?_;go_simp;refine hK _ _ ?_;clear hK)
   refine eR rfl 50 _ _ rfl (v:=.pointer (some ⟨w.heap.size+1,0,none⟩)) (u:=.agg #[.int .i64 0,.int .i64 0,.string ⟨#[]⟩,.bool false,.slice none 0 0,.slice none 0 0,.slice none 0 0,.int .i64 0,.int .i64 0,.string ⟨#[]⟩,.bool false,.slice none 0 0,.slice none 0 0,.slice none 0 0,.int .i64 0]) rfl rfl a6 ?_;clear a6;go_wp2;refine fQ (tX rfl _ _ (w.heap.size+1) 50 _ _ _ _ rfl c6 rfl rfl rfl) rfl ?_;exact n0.o wf _ (b9.o.grown hgf (by have:=b9.o.size;omega) (by intro k hk;injection hk with hk;omega))
 obtain⟨k,hk⟩:∃k:Nat,ci=k:=⟨ci.toNat,by omega⟩;obtain⟨m,hm⟩:∃m:Nat,mi=m:=⟨mi.toNat,by omega⟩;subst hk hm;have s9:k<lp:=by omega
 have t7:m<lm:=by omega
 obtain⟨C,hC⟩:=egf La.o.1 s9;obtain⟨M,hM⟩:=egf La.o.2 t7;obtain⟨g0,ofc,vh,vb,rfl,hg0,hc0,hvh,hvb⟩:=d0.o.1.read hC;obtain⟨h0,off,vs,rfl,hgm0,hcm0,hMV⟩:=d0.o.2.1 m M hM;have ap:=aside hMV;obtain⟨am,cm,rfl,hI,hIl⟩:=hMV;have PMA:Aside (P[k]?=some C∧Ms[m]?=some M∧C.flt=0∧(M.io.length:Int)=M.ar):=⟨hC,hM,o0.o.1 C (aV hC),o0.o.2.2.2 M (aV hM)⟩;have j6:=aside3 hvh hvb hI;have k6:Aside (∀w2,Bz w w2→CellsAt w2 g0 (ofc+k*15) (jR vh vb C.vars)):=fun w2 hb=>hc0.below hb (aR hg0 d0.o.2.2.1)
 have k7:Aside (∀w2,Bz w w2→CellsAt w2 h0 (off+m*3) [.string M.nm,.int .i64 M.ar,.slice am M.io.length cm]):=fun w2 hb=>hcm0.below hb (aR hgm0 d0.o.2.2.1)
 obtain⟨vars,hvars⟩:∃v,C.vars=v:=⟨_,rfl⟩;obtain⟨mn,hmn⟩:∃v,M.nm=v:=⟨_,rfl⟩;obtain⟨ma,hma⟩:∃v,M.ar=v:=⟨_,rfl⟩;obtain⟨li,hli⟩:∃v,M.io.length=v:=⟨_,rfl⟩;rw [hvars] at k6;rw [hmn,hma,hli] at k7;have u7:Aside (M.ind=(mn,ma)∧M.io.length=li):=⟨by rw [←hmn,←hma];rfl,hli⟩;obtain⟨k1,v1,nm1,g1,p1,n1,q1,r1,m1,u1,a1,l1,c1,rfl⟩:=TmV.seven hvh;obtain⟨k2,v2,nm2,g2,p2,n2,q2,r2,m2,u2,a2,l2,c2,rfl⟩:=TmV.seven hvb;have bf:Aside (C.h.ind=(nm1,(l1:Int))):=TmV.indV hvh;replace k6:Aside (∀w2,Bz w w2→CellsAt w2 g0 (ofc+k*15) [.int .i64 k1,.int .i64 v1,.string nm1,.bool g1,.slice p1 n1 q1,.slice r1 m1 u1,.slice a1 l1 c1,.int .i64 k2,.int .i64 v2,.string nm2,.bool g2,.slice p2 n2 q2,.slice r2 m2 u2,.slice a2 l2 c2,.int .i64 vars]):=k6;have bm:Aside (∀w2,Bz w w2→_):=fun(w2:Wo) (hb:Bz w w2)=>BW (k6.o w2 hb)
 have m3:Aside (∀w2,Bz w w2→w2.cell? ⟨h0,off+m*3,none⟩=some (.string mn)∧w2.cell? ⟨h0,off+m*3+1,none⟩=some (.int .i64 ma)∧w2.cell? ⟨h0,off+m*3+2,none⟩=some (.slice am li cm)):=fun w2 hb=>⟨k7.o w2 hb 0 _ rfl,k7.o w2 hb 1 _ rfl,k7.o w2 hb 2 _ rfl⟩
 have i1:(k:Int)<(lp:Int):=by omega
 have i2:(0:Int)≤(k:Int):=by omega
 have i3:(m:Int)<(lm:Int):=by omega
 have i4:(0:Int)≤(m:Int):=by omega
 have o9:=aside d4;clear hC hM hg0 hc0 hvh hvb hgm0 hcm0 hI hIl hvars hmn hma hli d4 k6 k7
 go_upto_region 6 with fail
 clear h1 h2 h3 h4 s9 t7 y0;have f0:Bz wb w2.drew:=o9.o.trans (dO _ _);refine hRp (Bz wb) 11 (Heavy.lights [0,1,2,3,4,5,6,7] (.two 8 9 (.one 9 (.one 10 .done)) (.one 8 (.one 10 .done)))) (by kernel_rfl) (by kernel_rfl) f0 ?_;refine rR (R:=SchR wb w.heap.size [.int .i64 k1,.int .i64 v1,.string nm1,.bool g1,.slice p1 n1 q1,.slice r1 m1 u1,.slice a1 l1 c1,.int .i64 k2,.int .i64 v2,.string nm2,.bool g2,.slice p2 n2 q2,.slice r2 m2 u2,.slice a2 l2 c2,.int .i64 vars] [.string mn,.int .i64 ma,.slice am li cm]) (fun a' w5 hR=>?_) _ _ _ ?_
 case refine_2=>
   show Heavy.runP _ _ _ _ _ _ w2.drew;obtain⟨z0,hz0⟩:∃x,w2.drew=x:=⟨_,rfl⟩;rw [hz0] at f0 ⊢;have xB:Aside (∀w2,Bz wb w2→w2.cell? ⟨w.heap.size,0,none⟩=some (.slice (some ⟨h0,off,none⟩) lm d)):=fun w2 hb=>(iU (xA.o w2 hb)).1
   simp only [Heavy.lights,bL,bY,aZ,bG]
   iterate 3 ((apply hLm;(exact rfl);(exact rfl);(intro b5 hw;go_simp;exact rfl);(go_simp;exact rfl)))
   (apply hLm;(exact rfl);(exact rfl);(intro b5 hw;obtain⟨x0,x1,x2,x3,x4,x5,x6,x7,x8,x9,x10,f5,x12,x13,x14⟩:=bm.o b5 (bw.o b5 hw);go_simp;exact rfl);(go_simp;exact rfl))
   (apply hLm;(exact rfl);(exact rfl);(intro b5 hw;have y0:=xB.o b5 hw;go_simp;exact rfl);(go_simp;exact rfl))
   iterate 2 ((apply hLm;(exact rfl);(exact rfl);(intro b5 hw;go_simp;exact rfl);(go_simp;exact rfl)))
   (apply hLm;(exact rfl);(exact rfl);(intro b5 hw;obtain⟨e0,e1,e2⟩:=m3.o b5 (bw.o b5 hw);go_simp;exact rfl);(go_simp;exact rfl))
   apply Heavy.two_of
   ·(apply hOn;(exact rfl);(exact rfl));go_simp
    have ba:=aC z0 (Obj.cells #[.int .i64 0,.int .i64 0,.string ⟨#[]⟩,.bool false,.slice none 0 0,.slice none 0 0,.slice none 0 0,.int .i64 0,.int .i64 0,.string ⟨#[]⟩,.bool false,.slice none 0 0,.slice none 0 0,.slice none 0 0,.int .i64 0] 50);have e6:=aJ z0 (Obj.cells #[.int .i64 0,.int .i64 0,.string ⟨#[]⟩,.bool false,.slice none 0 0,.slice none 0 0,.slice none 0 0,.int .i64 0,.int .i64 0,.string ⟨#[]⟩,.bool false,.slice none 0 0,.slice none 0 0,.slice none 0 0,.int .i64 0] 50);obtain⟨z1,hz1⟩:∃x,z0.alloc (Obj.cells #[.int .i64 0,.int .i64 0,.string ⟨#[]⟩,.bool false,.slice none 0 0,.slice none 0 0,.slice none 0 0,.int .i64 0,.int .i64 0,.string ⟨#[]⟩,.bool false,.slice none 0 0,.slice none 0 0,.slice none 0 0,.int .i64 0] 50)=x:=⟨_,rfl⟩;have s1:Aside (z1.heap.size=z0.heap.size+1):=by show _=_;rw [←hz1];simp
    rw [hz1] at ba e6 ⊢;have f1:Bz wb z1:=f0.trans (ba.mono f0.size);refine⟨f1,?_⟩
    (refine hNa (by go_simp;exact rfl) ?_)
    (apply hOn;(exact rfl);(exact rfl));go_simp
    have bc:=aC z1 (Obj.cells #[.string ⟨#[]⟩,.int .i64 0,.slice none 0 0] 66);have f4:=aJ z1 (Obj.cells #[.string ⟨#[]⟩,.int .i64 0,.slice none 0 0] 66);obtain⟨z2,hz2⟩:∃x,z1.alloc (Obj.cells #[.string ⟨#[]⟩,.int .i64 0,.slice none 0 0] 66)=x:=⟨_,rfl⟩;have s2:Aside (z2.heap.size=z1.heap.size+1):=by show _=_;rw [←hz2];simp
    rw [hz2] at bc f4 ⊢;have f2:Bz wb z2:=f1.trans (bc.mono f1.size);refine⟨f2,?_⟩
    (refine hNa (by go_simp;exact rfl) ?_)
    obtain⟨z3,a0,hqs,hgs,hss⟩:=fT (vs:=[.int .i64 k1,.int .i64 v1,.string nm1,.bool g1,.slice p1 n1 q1,.slice r1 m1 u1,.slice a1 l1 c1,.int .i64 k2,.int .i64 v2,.string nm2,.bool g2,.slice p2 n2 q2,.slice r2 m2 u2,.slice a2 l2 c2,.int .i64 vars]) ((bc.block z0.heap.size (by have:=s1.o;omega)).trans e6) rfl (by simp [Value.oneCell']);have a6:=nG a0;clear a0;have f3:Bz wb z3:=f2.grown hgs f2.size (by intro k hk;injection hk with hk;have:=f0.size;omega);refine NN rfl rfl 50 _ _ rfl (v:=.pointer (some ⟨z0.heap.size,0,none⟩)) (u:=.agg (tC k1 v1 nm1 g1 p1 n1 q1 r1 m1 u1 a1 l1 c1 k2 v2 nm2 g2 p2 n2 q2 r2 m2 u2 a2 l2 c2 vars)) rfl rfl a6 f3 ?_
    (refine hNa (by go_simp;exact rfl) ?_)
    apply hPe;unfold SchR;have t1:=s1.o;have t2:=s2.o;refine⟨_,_,_,_,_,_,_,_,_,_,_,_,_,_,_,_,_,_,_,_,_,_,_,_,_,_,_,_,_,_,_,_,_,_,_,_,_,rfl,f3,hqs,(hgs.block z1.heap.size (by omega) (fun e=>by injection e with e;omega)).trans f4,f0.size,f1.size,by omega⟩
   ·(apply hOn;(exact rfl);(exact rfl));go_simp
    have ba:=aC z0 (Obj.cells #[.string ⟨#[]⟩,.int .i64 0,.slice none 0 0] 66);have e6:=aJ z0 (Obj.cells #[.string ⟨#[]⟩,.int .i64 0,.slice none 0 0] 66);obtain⟨z1,hz1⟩:∃x,z0.alloc (Obj.cells #[.string ⟨#[]⟩,.int .i64 0,.slice none 0 0] 66)=x:=⟨_,rfl⟩;have s1:Aside (z1.heap.size=z0.heap.size+1):=by show _=_;rw [←hz1];simp
    rw [hz1] at ba e6 ⊢;have f1:Bz wb z1:=f0.trans (ba.mono f0.size);refine⟨f1,?_⟩
    (refine hNa (by go_simp;exact rfl) ?_)
    (apply hOn;(exact rfl);(exact rfl));go_simp
    have bc:=aC z1 (Obj.cells #[.int .i64 0,.int .i64 0,.string ⟨#[]⟩,.bool false,.slice none 0 0,.slice none 0 0,.slice none 0 0,.int .i64 0,.int .i64 0,.string ⟨#[]⟩,.bool false,.slice none 0 0,.slice none 0 0,.slice none 0 0,.int .i64 0] 50);have f4:=aJ z1 (Obj.cells #[.int .i64 0,.int .i64 0,.string ⟨#[]⟩,.bool false,.slice none 0 0,.slice none 0 0,.slice none 0 0,.int .i64 0,.int .i64 0,.string ⟨#[]⟩,.bool false,.slice none 0 0,.slice none 0 0,.slice none 0 0,.int .i64 0] 50);obtain⟨z2,hz2⟩:∃x,z1.alloc (Obj.cells #[.int .i64 0,.int .i64 0,.string ⟨#[]⟩,.bool false,.slice none 0 0,.slice none 0 0,.slice none 0 0,.int .i64 0,.int .i64 0,.string ⟨#[]⟩,.bool false,.slice none 0 0,.slice none 0 0,.slice none 0 0,.int .i64 0] 50)=x:=⟨_,rfl⟩;have s2:Aside (z2.heap.size=z1.heap.size+1):=by show _=_;rw [←hz2];simp
    rw [hz2] at bc f4 ⊢;have f2:Bz wb z2:=f1.trans (bc.mono f1.size);refine⟨f2,?_⟩
    (refine hNa (by go_simp;exact rfl) ?_)
    obtain⟨z3,a0,hqs,hgs,hss⟩:=fT (vs:=[.int .i64 k1,.int .i64 v1,.string nm1,.bool g1,.slice p1 n1 q1,.slice r1 m1 u1,.slice a1 l1 c1,.int .i64 k2,.int .i64 v2,.string nm2,.bool g2,.slice p2 n2 q2,.slice r2 m2 u2,.slice a2 l2 c2,.int .i64 vars]) f4 rfl (by simp [Value.oneCell']);have a6:=nG a0;clear a0;have f3:Bz wb z3:=f2.grown hgs f2.size (by intro k hk;injection hk with hk;have:=f1.size;omega);refine NN rfl rfl 50 _ _ rfl (v:=.pointer (some ⟨z1.heap.size,0,none⟩)) (u:=.agg (tC k1 v1 nm1 g1 p1 n1 q1 r1 m1 u1 a1 l1 c1 k2 v2 nm2 g2 p2 n2 q2 r2 m2 u2 a2 l2 c2 vars)) rfl rfl a6 f3 ?_
    (refine hNa (by go_simp;exact rfl) ?_)
    apply hPe;unfold SchR;have t1:=s1.o;have t2:=s2.o;refine⟨_,_,_,_,_,_,_,_,_,_,_,_,_,_,_,_,_,_,_,_,_,_,_,_,_,_,_,_,_,_,_,_,_,_,_,_,_,rfl,f3,hqs,(hgs.block z0.heap.size (by omega) (fun e=>by injection e with e;omega)).trans ((bc.block z0.heap.size (by have:=s1.o;omega)).trans e6),f1.size,f0.size,by omega⟩
 case refine_1=>
   unfold SchR at hR;obtain⟨x0,x1,x2,x3,f5,u9,v6,v7,v8,v9,w0,w1,w4,y2,y3,y4,y5,y6,y7,y8,y9,z5,z6,z7,z8,z9,ab,ac,ad,ae,af,ag,ah,ai,aj,gc,gm,rfl,hb5,f4,hqm,hgc,hgm,p0⟩:=hR;obtain⟨w6,a0,hq6,hg6,hs6⟩:=fT (vs:=[.string mn,.int .i64 ma,.slice am li cm]) hqm rfl (by simp [Value.oneCell']);have a6:=YX a0;have b6:Bz wb w6:=hb5.grown hg6 hb5.size (by intro k hk;injection hk with hk;omega);have s0:=(aG.1 f4).1;have an:=(aG.1 hqm).1;have l9:=(hg6.block gc s0 (fun e=>by injection e with e;omega)).trans f4;have j4:Aside (Bz wb w6∧w6.heap[gc]?=some (.cells (tC k1 v1 nm1 g1 p1 n1 q1 r1 m1 u1 a1 l1 c1 k2 v2 nm2 g2 p2 n2 q2 r2 m2 u2 a2 l2 c2 vars) 50)∧w6.heap[gm]?=some (.cells #[.string mn,.int .i64 ma,.slice am li cm] 66)∧gc<w6.heap.size∧gm<w6.heap.size):=⟨b6,l9,hq6,by omega,by omega⟩;have fa:Aside (∀w2,Bz w6 w2→_):=fun(w2:Wo) (hb:Bz w6 w2)=>pI ((hb.block gc j4.o.2.2.2.1).trans j4.o.2.1)
   have fm:Aside (∀w2,Bz w6 w2→_):=fun(w2:Wo) (hb:Bz w6 w2)=>qY ((hb.block gm j4.o.2.2.2.2).trans j4.o.2.2.1)
   clear a0 hq6 hg6 hs6 b6 l9 s0 an f4 hqm hgc hgm p0 hb5;show wpList _ _ _ _ _ _;simp only [aZ,bG];refine eR rfl 66 _ _ rfl (v:=.pointer (some ⟨gm,0,none⟩)) (u:=.agg #[.string mn,.int .i64 ma,.slice am li cm]) rfl rfl a6 ?_;clear a6;obtain⟨B,hB⟩:∃b,decide ((nm1,(l1:Int))=(mn,ma))=b:=⟨_,rfl⟩;have u6:=qN nm1 mn l1 ma;have bg:=sH;have s3:=aside hB;rw [hB] at u6;clear hB
   go_upto_region 7 with fail
   have fd:Bz w6 w6.drew:=dO _ _;refine hRp (Bz w6) 5 (Heavy.lights [0,1,3,4] (.one 2 .done)) (by kernel_rfl) (by kernel_rfl) fd ?_;simp only [Heavy.lights,bL,bY,aZ,bG]
   (apply hLm;(exact rfl);(exact rfl);(intro b5 hw;go_simp;exact rfl);(go_simp;exact rfl))
   (apply hLm;(exact rfl);(exact rfl);(intro b5 hw;obtain⟨x0,x1,x2,x3,x4,x5,x6,x7,x8,x9,x10,f5,x12,x13,x14⟩:=fa.o b5 hw;go_simp;exact rfl);(go_simp;exact rfl))
   (apply hLm;(exact rfl);(exact rfl);(intro b5 hw;go_simp;exact rfl);(go_simp;exact rfl))
   (apply hLm;(exact rfl);(exact rfl);(intro b5 hw;obtain⟨e0,e1,e2⟩:=fm.o b5 hw;go_simp;exact rfl);(go_simp;exact rfl))
   (apply hOn;(exact rfl);(exact rfl));go_simp
   refine(oR k1 v1 nm1 g1 _ _ _ _ _ _).mono ?_;rintro e w7 ⟨rfl,hb7⟩;have f7:Bz w6 w7:=fd.trans (hb7.mono fd.size);refine⟨_,rfl,f7,?_⟩
   (refine hNa (by go_simp;exact rfl) ?_)
   apply hPe;show wpList _ _ _ _ _ _;have l0:=aside f7;have b7:Bz wb w7:=j4.o.1.trans (f7.mono j4.o.1.size);clear f7 fd hb7;cases B
   case false=>
    iterate 1 (refine bE rfl fun K hK=>?_;go_simp;refine hK _ _ ?_;clear hK)
    obtain⟨wf,a0,c6,hgf,hsf⟩:=fT (vs:=[.int .i64 0,.int .i64 0,.string ⟨#[]⟩,.bool false,.slice none 0 0,.slice none 0 0,.slice none 0 0,.int .i64 0,.int .i64 0,.string ⟨#[]⟩,.bool false,.slice none 0 0,.slice none 0 0,.slice none 0 0,.int .i64 0]) (zA.o w7 b7) rfl (by simp [Value.oneCell']);have a6:=nG a0;have b9:Aside (Bz w w7):=bw.o w7 b7;clear a0
    go_upto_region 8 with fail
    refine dZ ?_
    iterate 1 (refine bE rfl fun K hK=>?_;go_simp;refine hK _ _ ?_;clear hK)
    refine eR rfl 50 _ _ rfl (v:=.pointer (some ⟨w.heap.size+1,0,none⟩)) (u:=.agg #[.int .i64 0,.int .i64 0,.string ⟨#[]⟩,.bool false,.slice none 0 0,.slice none 0 0,.slice none 0 0,.int .i64 0,.int .i64 0,.string ⟨#[]⟩,.bool false,.slice none 0 0,.slice none 0 0,.slice none 0 0,.int .i64 0]) rfl rfl a6 ?_;clear a6;go_wp2;refine fQ (tX rfl _ _ (w.heap.size+1) 50 _ _ _ _ rfl c6 rfl rfl rfl) rfl ?_;exact n0.o wf _ (b9.o.grown hgf (by have:=b9.o.size;omega) (by intro k hk;injection hk with hk;omega))
   iterate 1 (refine bE rfl fun K hK=>?_;go_simp;refine hK _ _ ?_;clear hK)
   have hn:=d0.o.2.2.1;have s7:C.h.ind=M.ind:=by rw [bf.o,u7.o.1];exact rA s3.o
   have s5:=lN (sL PMA.o.2.2.1).1;have n7:=lN (sL PMA.o.2.2.1).2.1;obtain⟨K0,hK0⟩:∃K,List.replicate C.vars.toNat false=K:=⟨_,rfl⟩;have l6:K0.length=C.vars.toNat:=by rw [←hK0];simp
   have e8:=fun K (h:K.length=K0.length)=>SM PMA.o.2.2.1 (K:=K) (h.trans l6)
   have s6:M.io.length=C.h.args.length:=by
    have h1:C.h.ind.2=(C.h.args.length:Int):=by obtain⟨k,v,nm,g,num,den,args⟩:=C.h;rfl
    have h2:M.ind.2=M.ar:=rfl;have h3:=PMA.o.2.2.2;rw [s7,h2] at h1;omega
   obtain⟨K1,hK1⟩:∃K,gG C.h.args M.io K0 C.h.args.length=K:=⟨_,rfl⟩;have i8:K1.length=K0.length:=by rw [←hK1];exact HS _ _ _ _
   obtain⟨CL,hCL⟩:∃L,C.b.lits=L:=⟨_,rfl⟩;have dG:Aside (∀w2,Bz w w2→Cz 61 #[.agg (tA k1 v1 nm1 g1 p1 n1 q1 r1 m1 u1 a1 l1 c1),.slice am li cm] w2 (GivP w2 K1)):=fun w2 hb=>by
    rw [←hK1,←hK0];have:=QL C.h M.io C.vars.toNat n am cm w2 _ (TmV.below hb hn _ _ j6.o.1) (j6.o.2.2.below hb hn) s6 (fun A hA=>by rw [hK0];exact(e8 K0 rfl).1.2 A hA) (by have:=EU C.h;omega) (aD hn hb.size);rw [u7.o.2] at this;exact this
   have dL:Aside (∀w2,Bz w w2→Cz 59 #[.agg (tA k2 v2 nm2 g2 p2 n2 q2 r2 m2 u2 a2 l2 c2)] w2 fun e w'=>∃v B,e= .returned (.tuple #[v,.bool B])∧OutT n w2.heap.size w' v CL∧Bz w2 w'):=fun w2 hb=>(wP C.b n w2 _ n7.2 n7.1 (TmV.below hb hn _ _ j6.o.2.1) (aD hn hb.size)).mono fun e w' ⟨v,e1,e2,e3⟩=>⟨v,_,e1,by rw [←hCL];exact e2,e3⟩
   have dH:Aside (∀w2 mb K,Below n w w2→K.length=K1.length→aW w2 mb (KnS K)→Cz 65 #[.map (some mb),.agg (tA k1 v1 nm1 g1 p1 n1 q1 r1 m1 u1 a1 l1 c1)] w2 (dJ w2 (cH K C.h))):=fun w2 mb K hb hk hs=>pZ C.h K n mb w2 _ (TmV.below hb (aA _) _ _ j6.o.1) (aD hn hb.size) (by omega) hs fun x hx=>((e8 K (hk.trans i8)).1.1 x hx).1
   have b3:∀T∈CL,T.nodes≤1000000∧T.errE=0∧∀K,K.length=K1.length→T.okV K:=fun T hT=>by
    rw [←hCL] at hT;have:=AU C.b T hT;exact⟨by omega,this.1 n7.2,fun K hk=>(e8 K (hk.trans i8)).2 T hT⟩
   have dE:Aside (∀T∈CL,∀w2 mb K vt,Below n w w2→n≤mb→K.length=K1.length→aW w2 mb (KnS K)→TmV n w2 T vt→Cz 66 #[.agg vt.toArray,.slice (some ⟨h0,off,none⟩) lm d,.map (some mb)] w2 (ExP w2 mb (cA Ms K T))):=by
    intro T hT w2 mb K vt hb ax hk hs hv;have:=GI Ms T K n mb (some ⟨h0,off,none⟩) d w2 vt (d0.o.2.1.below hb (aA _)) o0.o.2.2 hv hs ax ((b3 T hT).2.2 K hk) (b3 T hT).1 (aD hn hb.size);rw [La.o.2] at this;exact this
   have dT:Aside (∀T∈CL,∀w2 vt m' mb kb K,Below n w w2→n≤m'→m'≤w2.heap.size→TmV m' w2 T vt→K.length=K1.length→aW w2 mb (KnS K)→w2.heap[kb]?=some (.cells #[.map (some mb)] 110)→w2.heap[w.heap.size]?=some (.cells #[.slice (some ⟨h0,off,none⟩) lm d] 23)→Cz 63 #[.agg vt.toArray,.pointer (some ⟨kb,0,none⟩),.pointer (some ⟨w.heap.size,0,none⟩)] w2 (dJ w2 (oK Ms K T))):=by
    intro T hT w2 vt m' mb kb K h1 h2 h3 hv hk hs d6 ay;exact XN Ms T K m' kb w.heap.size mb (some ⟨h0,off,none⟩) d w2 vt ((d0.o.2.1.below h1 (aA _)).up h2) o0.o.2.2 hv hs d6 (by rw [La.o.2];exact ay) ((b3 T hT).2.2 K hk) (b3 T hT).1 h3
   have i0:CL.length≤10000:=by have:=uI C.b;rw [hCL] at this;omega
   have dN:Aside (∀w2 L a' c',Below n w w2→L.Perm CL→bS w2.heap.size w2 L a' 0→Cz 70 #[.agg (tA k1 v1 nm1 g1 p1 n1 q1 r1 m1 u1 a1 l1 c1),.slice a' L.length c'] w2 (NumP C.h L w2)):=by
    intro w2 L a' c' hb hp ao;have n8:=hp.length_eq;have hN:=OA hp;have aw:=FP C.b;rw [hCL] at aw;refine Aq C.h L w2.heap.size w2 _ a' c' (TmV.up (aD hn hb.size) _ _ (TmV.below hb (aA _) _ _ j6.o.1)) ao (aA _) s5.2 (fun T hT=>(b3 T (hp.mem_iff.1 hT)).2.1) ?_ (by omega);have h3:(dM L).nodes≤20000:=by
     by_cases hL:L= []
     ·subst hL;simp [dM,Tm.nodes,Tm.nodesL]
     ·have:=HK L hL;omega
    simp only [fZ,SC];omega
   have j2:Aside (∀L K2,L.Perm CL→fL Ms L 0 K1=((0+L.length,0),K2)→cH K2 C.h=true→(eI C.h L).flt=0∧iE Ms (eI C.h L) M=(0,0)):=fun L K2 hp hr hh=>by
    rw [←hCL] at hp;rw [←hK1,←hK0,bT] at hr;exact⟨Bj PMA.o.2.2.1 hp,Bi PMA.o.2.2.1 hp Ms M hr hh⟩
   have bn:Aside (∀T∈CL,T.nodes≤1000000∧CL.length≤10000):=fun T hT=>⟨(b3 T hT).1,i0⟩
   have j5:=aside2 b7 i0;clear s3 s7 s5 n7 hK0 l6 e8 s6 hK1 i8 hCL b3 i0 u6 bg j6;obtain⟨x0,x1,x2,x3,x4,x5,x6,x7,x8,x9,x10,f5,x12,x13,x14⟩:=fa.o w7 l0.o;obtain⟨e0,e1,e2⟩:=fm.o w7 l0.o;have d2:=dG.o w7 (bw.o w7 b7);clear b7 dG
   go_upto_region 9 with fail
   go_upto_region 10 with(go_at_call 61;(with_reducible refine d2.mono ?_);rintro e w8 ⟨mb,rfl,hmb,hs8,hb8⟩)
   have b8:Bz wb w8:=j5.o.1.trans (hb8.mono j5.o.1.size);have f8:Bz w6 w8:=l0.o.trans (hb8.mono l0.o.size);have ba:=aC w8 (Obj.cells #[.map (some mb)] 110);have e6:=aJ w8 (Obj.cells #[.map (some mb)] 110);obtain⟨wK,hwK⟩:∃x,w8.alloc (Obj.cells #[.map (some mb)] 110)=x:=⟨_,rfl⟩;have sK:wK.heap.size=w8.heap.size+1:=by rw [←hwK];simp
   rw [hwK] at ba e6;have bK:Bz wb wK:=b8.trans (ba.mono b8.size);have fK:Bz w6 wK:=f8.trans (ba.mono f8.size);have u8:=hs8.lt;have j8:Aside (n≤mb∧wb.heap.size≤mb∧w6.heap.size≤mb):=⟨by have:=j5.o.1.size;have:=fb.o.size;have:=d0.o.2.2.1;omega,by have:=j5.o.1.size;omega,by have:=l0.o.size;omega⟩;obtain⟨kb,d6⟩:∃k,w8.heap.size=k:=⟨_,rfl⟩;rw [d6] at e6 sK;have q0:Aside (kb≠mb∧mb<kb∧kb<wK.heap.size∧w6.heap.size≤kb):=⟨by omega,by omega,by omega,by have:=f8.size;omega⟩;have KB:Aside (∀w2,aS (fun k=>k=mb) wK w2→Bz w6 w2∧Bz wb w2∧w2.heap[kb]?=some (.cells #[.map (some mb)] 110)):=fun w2 h=>
    ⟨fK.trans (h.below fK.size fun k e=>by subst e;exact j8.o.2.2),bK.trans (h.below bK.size fun k e=>by subst e;exact j8.o.2.1),(h.block kb q0.o.2.2.1 q0.o.1).trans e6⟩
   have SK:Aside (aW wK mb (KnS K1)∧Bz wb wK∧Bz w6 wK∧mb<wK.heap.size):=⟨hs8.of_block (ba.block mb u8),bK,fK,by omega⟩;clear b8 f8 ba e6 bK fK u8 hs8 hb8 hmb;rw [hwK,d6];clear hwK d6 sK;obtain⟨x0,x1,x2,x3,x4,x5,x6,x7,x8,x9,x10,f5,x12,x13,x14⟩:=fa.o wK SK.o.2.2.1;have d3:=dL.o wK (bw.o wK SK.o.2.1)
   go_upto_region 11 with(go_at_call 59;(with_reducible refine d3.mono ?_);rintro e wL ⟨lv,Bx,rfl,hO,hbL⟩)
   clear x0 x1 x2 x3 x4 x5 x6 x7 x8 x9 x10 f5 x12 x13 x14 d3 dL;have LA:=aside2 hO hbL;clear hO hbL
   go_upto_region 12 with fail
   go_loopw [15,17] (fun q8 bj wr=>∃lv ov,lv=q8∧ov=bj∧SchS Ms n mb K1 CL wK wr lv ov) (fun q8 _ _=>slLen q8)
   case atStart=>
    exact⟨_,_,rfl,rfl,CL,[],K1,by simp,rfl,rfl,SK.o.1.of_block (LA.o.2.block mb SK.o.2.2.2),aS.of_below LA.o.2,LA.o.1,OutT.nil _ _ _,fun g h=>by simp [Value.ownBlock] at h⟩
   case round=>
    obtain⟨wo,rfl⟩:=enr wr;obtain⟨lv,ov,rfl,rfl,Lf,Ou,K,hperm,hrun,hKl,hSeen,hKept,hLv,hOv,hSep⟩:=hrel;obtain⟨s8,d6,hkk⟩:=KB.o wo hKept;have t8:Below n w wo:=(bw.o wo d6).mono d0.o.2.2.1;have p6:n≤wo.heap.size:=aD d0.o.2.2.1 (bw.o wo d6).size;obtain⟨a9,c9,rfl,hTs⟩:=hLv.tms p6;obtain⟨ll,n8⟩:∃l,Lf.length=l:=⟨_,rfl⟩;have RA:=aside8 hperm hrun hKl hSeen hKept hLv hOv hSep;have RB:Aside (Bz w6 wo∧Bz wb wo∧wo.heap[kb]?=some (.cells #[.map (some mb)] 110)∧Below n w wo∧n≤wo.heap.size∧Lf.length=ll∧Lf.length≤10000∧Ou.length≤10000):=⟨s8,d6,hkk,t8,p6,n8,by have:=hperm.length_eq;rw [aI] at this;have:=j5.o.2;omega,by have:=hperm.length_eq;rw [aI] at this;have:=j5.o.2;omega⟩;rw [n8];have o8:=aside hTs;clear hperm hrun hKl hSeen hKept hLv hOv hSep s8 d6 hkk t8 p6 n8 hTs
    by_cases av:ll=0
    case pos=>
     subst av;obtain⟨x0,x1,x2,x3,x4,x5,x6,x7,x8,x9,x10,f5,x12,x13,x14⟩:=fa.o wo RB.o.1;obtain⟨y0,_⟩:=iU RB.o.2.2.1;have d9:=dH.o wo mb K RB.o.2.2.2.1 RA.o.2.2.1 RA.o.2.2.2.1;obtain⟨B9,hB9⟩:∃b,cH K C.h=b:=⟨_,rfl⟩;have B9A:=aside hB9;rw [hB9] at d9;clear hB9;cases B9
     case false=>
      go_upto_region 20 with(go_at_call 65;(with_reducible refine d9.mono ?_);rintro e w9 ⟨rfl,hb9⟩)
      have e9:Bz wb w9:=RB.o.2.1.trans (hb9.mono RB.o.2.1.size);obtain⟨wf,a0,c6,hgf,hsf⟩:=fT (vs:=[.int .i64 0,.int .i64 0,.string ⟨#[]⟩,.bool false,.slice none 0 0,.slice none 0 0,.slice none 0 0,.int .i64 0,.int .i64 0,.string ⟨#[]⟩,.bool false,.slice none 0 0,.slice none 0 0,.slice none 0 0,.int .i64 0]) (zA.o w9 e9) rfl (by simp [Value.oneCell']);have a6:=nG a0;have b9:Aside (Bz w w9):=bw.o w9 e9;clear a0
      go_upto_region 20 with fail
      refine dZ ?_
      iterate 1 (refine bE rfl fun K hK=>?_;go_simp;refine hK _ _ ?_;clear hK)
      refine eR rfl 50 _ _ rfl (v:=.pointer (some ⟨w.heap.size+1,0,none⟩)) (u:=.agg #[.int .i64 0,.int .i64 0,.string ⟨#[]⟩,.bool false,.slice none 0 0,.slice none 0 0,.slice none 0 0,.int .i64 0,.int .i64 0,.string ⟨#[]⟩,.bool false,.slice none 0 0,.slice none 0 0,.slice none 0 0,.int .i64 0]) rfl rfl a6 ?_;clear a6;go_wp2;refine fQ (tX rfl _ _ (w.heap.size+1) 50 _ _ _ _ rfl c6 rfl rfl rfl) rfl ?_;exact n0.o wf _ (b9.o.grown hgf (by have:=b9.o.size;omega) (by intro k hk;injection hk with hk;omega))
     go_upto_region 21 with(go_at_call 65;(with_reducible refine d9.mono ?_);rintro e w9 ⟨rfl,hb9⟩)
     have e9:Bz wb w9:=RB.o.2.1.trans (hb9.mono RB.o.2.1.size);have n9:Below n w w9:=RB.o.2.2.2.1.trans (hb9.mono RB.o.2.2.2.2.1);have p7:Ou.Perm CL:=by
      have:=RA.o.1;obtain rfl:Lf= []:=gI RB.o.2.2.2.2.2.1
      rwa [pS] at this
     obtain⟨a8,c8,rfl,hOs⟩:=(RA.o.2.2.2.2.2.2.1.below hb9 RB.o.2.2.2.2.1 (aA _)).tms (aD RB.o.2.2.2.2.1 hb9.size);have d7:=dN.o w9 Ou a8 c8 n9 p7 hOs;have l7:Aside ((eI C.h Ou).flt=0∧iE Ms (eI C.h Ou) M=(0,0)):=j2.o Ou K p7 RA.o.2.1 B9A.o;have o4:=aside e9;obtain⟨x0,x1,x2,x3,x4,x5,x6,x7,x8,x9,x10,f5,x12,x13,x14⟩:=fa.o w9 (RB.o.1.trans (hb9.mono RB.o.1.size));obtain⟨lo,hlo⟩:∃l,Ou.length=l:=⟨_,rfl⟩;rw [hlo] at d7 ⊢;clear p7 hOs n9 e9 hb9 d9 y0 hlo
     go_upto_region 21 with fail
     refine dZ ?_
     iterate 3 (refine bE rfl fun K hK=>?_;go_simp;refine hK _ _ ?_;clear hK)
     refine bE rfl fun KK h8=>?_
     go_simp
     refine d7.mono ?_;rintro e wN ⟨vh,vb,rfl,hvh,hvb,hbN⟩;have bN:Bz wb wN:=o4.o.trans (hbN.mono o4.o.size);have j1:Aside (∀u∈jR vh vb (eI C.h Ou).vars,u.oneCell'=true):=by
      show∀u∈_,_;exact ClV.one1 (TmS.toV (n:=wN.heap.size) (fun b hb=>hb.2) _ _ hvh) (TmS.toV (n:=wN.heap.size) (fun b hb=>hb.2) _ _ hvb)
     have u0:=aside2 hvh hvb;have aq:=aside hbN;obtain⟨vn,hvn⟩:∃v,(eI C.h Ou).vars=v:=⟨_,rfl⟩;have p9:=aside hvn;rw [hvn] at j1 ⊢;obtain⟨k3,v3,nm3,g3,p3,n3,q3,r3,m3,u3,a3,l3,c3,rfl⟩:=TmS.seven hvh;obtain⟨k4,v4,nm4,g4,p4,n4,q4,r4,m4,u4,a4,l4,c4,rfl⟩:=TmS.seven hvb;obtain⟨wf,a0,c6,hgf,hsf⟩:=fT (vs:=jR [.int .i64 k3,.int .i64 v3,.string nm3,.bool g3,.slice p3 n3 q3,.slice r3 m3 u3,.slice a3 l3 c3] [.int .i64 k4,.int .i64 v4,.string nm4,.bool g4,.slice p4 n4 q4,.slice r4 m4 u4,.slice a4 l4 c4] vn) (zA.o wN bN) rfl j1.o;replace a0:(storeCells ⟨w.heap.size+1,0,none⟩ [.int .i64 k3,.int .i64 v3,.string nm3,.bool g3,.slice p3 n3 q3,.slice r3 m3 u3,.slice a3 l3 c3,.int .i64 k4,.int .i64 v4,.string nm4,.bool g4,.slice p4 n4 q4,.slice r4 m4 u4,.slice a4 l4 c4,.int .i64 vn] 0).run Tryz.prog wN= .ok () wf:=a0;replace c6:wf.heap[w.heap.size+1]?=some (.cells (tC k3 v3 nm3 g3 p3 n3 q3 r3 m3 u3 a3 l3 c3 k4 v4 nm4 g4 p4 n4 q4 r4 m4 u4 a4 l4 c4 vn) 50 (0,0)):=c6;have a6:=nG a0;have r9:=aside bN;clear a0 hvn hvh hvb bN hbN;refine h8 _ _ ?_;clear h8 d7
     go_simp
     refine eR rfl 50 _ _ rfl (v:=.pointer (some ⟨w.heap.size+1,0,none⟩)) (u:=.agg (tC k3 v3 nm3 g3 p3 n3 q3 r3 m3 u3 a3 l3 c3 k4 v4 nm4 g4 p4 n4 q4 r4 m4 u4 a4 l4 c4 vn)) rfl rfl a6 ?_;clear a6;go_wp2;refine fQ (tX rfl _ _ (w.heap.size+1) 50 _ _ _ _ rfl c6 rfl rfl rfl) rfl ?_;have bF:Bz w wf:=(bw.o wN r9.o).grown hgf (bw.o wN r9.o).size (by intro k hk;injection hk with hk;omega);have kF:∀b,fP w9.heap.size wN.heap.size b→wf.heap[b]?=wN.heap[b]?:=fun b hb=>hgf.block b hb.2 (fun e=>by injection e with e;have:=hb.1;have:=o4.o.size;have:=bk.o;omega)
     exact⟨bF,[.int .i64 k3,.int .i64 v3,.string nm3,.bool g3,.slice p3 n3 q3,.slice r3 m3 u3,.slice a3 l3 c3,.int .i64 k4,.int .i64 v4,.string nm4,.bool g4,.slice p4 n4 q4,.slice r4 m4 u4,.slice a4 l4 c4,.int .i64 vn],true,0,⟨rfl,j1.o⟩,rfl,fun _ _=>⟨k,m,C,eI C.h Ou,M,rfl,rfl,PMA.o.1,PMA.o.2.1,FA.o,l7.o.1,l7.o.2,[.int .i64 k3,.int .i64 v3,.string nm3,.bool g3,.slice p3 n3 q3,.slice r3 m3 u3,.slice a3 l3 c3],[.int .i64 k4,.int .i64 v4,.string nm4,.bool g4,.slice p4 n4 q4,.slice r4 m4 u4,.slice a4 l4 c4],by rw [p9.o];rfl,TmS.toV (fun b (hb:fP _ _ b)=>by have:=hb.2;omega) _ _ (TmS.keep kF _ _ u0.o.1),TmS.toV (fun b (hb:fP _ _ b)=>by have:=hb.2;omega) _ _ (TmS.keep kF _ _ u0.o.2)⟩⟩
    obtain⟨m9,rfl⟩:∃m9,ll=m9+1:=⟨ll-1,by omega⟩;have bi:(0:Int)<((m9+1:Nat):Int):=by omega
    have dI:=Dl Lf (oK Ms K) 63 #[.pointer (some ⟨kb,0,none⟩),.pointer (some ⟨w.heap.size,0,none⟩)] (enters_of Tryz.func63 (by kernel_rfl) rfl) wo.heap.size a9 c9 wo o8.o (aA _) (by have:=RB.o.2.2.2.2.2.2.1;omega) fun j T hj w2 vs hb hv=>by
     have d4:Below n w w2:=RB.o.2.2.2.1.trans (hb.mono RB.o.2.2.2.2.1);exact dT.o T (RA.o.1.mem_iff.1 (VS _ (aV hj))) w2 vs wo.heap.size mb kb K d4 RB.o.2.2.2.2.1 hb.size hv RA.o.2.2.1 (RA.o.2.2.2.1.of_block (hb.block mb RA.o.2.2.2.1.lt)) ((hb.block kb (by have:=q0.o.2.2.1;have:=RA.o.2.2.2.2.1.size;omega)).trans RB.o.2.2.1) (xA.o w2 (RB.o.2.1.trans (hb.mono RB.o.2.1.size)))
    rw [RB.o.2.2.2.2.2.1] at dI;rcases QE (oK Ms K) Lf 0 with hc|⟨i,T,hiT,htk,hc⟩
    ·rw [hc] at dI
     go_upto_region 15 with(go_at_call 62;(with_reducible refine dI.mono ?_);rintro e w9 ⟨rfl,hb9⟩)
     have e9:Bz wb w9:=RB.o.2.1.trans (hb9.mono RB.o.2.1.size);obtain⟨wf,a0,c6,hgf,hsf⟩:=fT (vs:=[.int .i64 0,.int .i64 0,.string ⟨#[]⟩,.bool false,.slice none 0 0,.slice none 0 0,.slice none 0 0,.int .i64 0,.int .i64 0,.string ⟨#[]⟩,.bool false,.slice none 0 0,.slice none 0 0,.slice none 0 0,.int .i64 0]) (zA.o w9 e9) rfl (by simp [Value.oneCell']);have a6:=nG a0;have b9:Aside (Bz w w9):=bw.o w9 e9;clear a0
     go_upto_region 15 with fail
     refine dZ ?_
     iterate 1 (refine bE rfl fun K hK=>?_;go_simp;refine hK _ _ ?_;clear hK)
     refine eR rfl 50 _ _ rfl (v:=.pointer (some ⟨w.heap.size+1,0,none⟩)) (u:=.agg #[.int .i64 0,.int .i64 0,.string ⟨#[]⟩,.bool false,.slice none 0 0,.slice none 0 0,.slice none 0 0,.int .i64 0,.int .i64 0,.string ⟨#[]⟩,.bool false,.slice none 0 0,.slice none 0 0,.slice none 0 0,.int .i64 0]) rfl rfl a6 ?_;clear a6;go_wp2;refine fQ (tX rfl _ _ (w.heap.size+1) 50 _ _ _ _ rfl c6 rfl rfl rfl) rfl ?_;exact n0.o wf _ (b9.o.grown hgf (by have:=b9.o.size;omega) (by intro k hk;injection hk with hk;omega))
    rw [hc,bT] at dI;have s4:T∈CL:=RA.o.1.mem_iff.1 (VS _ (aV hiT));obtain⟨X9,hX9,hXT9⟩:=RA.o.2.2.2.2.2.1;obtain⟨vt,hvt,hvc⟩:=hXT9.get hiT;obtain⟨aa,ca,eaa,hrd⟩:=iN hX9;have au:i<m9+1:=by have:=(aM.1 hiT).1;have:=RB.o.2.2.2.2.2.1;omega
    obtain⟨g9,rfl,hg9,hgs9,hc9⟩:∃g,a9=some ⟨g,0,none⟩∧wK.heap.size≤g∧g<wo.heap.size∧∀(j:Nat) u,vt[j]?=some u→wo.cell? ⟨g,i*7+j,none⟩=some u:=by
     injection eaa with e1 e2 e3
     rcases hrd with hz|⟨g,e4,h1,h2,h3⟩
     ·have:=RB.o.2.2.2.2.2.1;omega
     ·exact⟨g,e1.trans e4,h1,h2,fun j u hj=>h3 _ u (hvc j u hj)⟩
    obtain⟨⟨r1,K2⟩,hr⟩:∃r,cA Ms K T=r:=⟨_,rfl⟩;have bb:r1=0:=by
     unfold oK at htk;rw [hr] at htk;simp at htk;exact htk.2
    subst bb;have K2l:Aside (K2.length=K1.length):=by
     show _=_;have:=OC Ms K T;rw [hr] at this;exact this.trans RA.o.2.2.1
    have TA:Aside (T∈CL∧TmV n wo T vt∧cA Ms K T=(0,K2)∧Lf[i]?=some T∧wK.heap.size≤g9∧g9<wo.heap.size∧mb<g9):=⟨s4,hvt,hr,hiT,hg9,hgs9,by have:=SK.o.2.2.2;omega⟩;have o3:Aside (∀w2,aS (fun k=>k=mb) wo w2→∀(j:Nat) u,vt[j]?=some u→w2.cell? ⟨g9,i*7+j,none⟩=some u):=fun w2 hw j u hj=>by
     have:=hw.block g9 TA.o.2.2.2.2.2.1 (by have:=TA.o.2.2.2.2.2.2;omega);have h2:=hc9 j u hj;unfold World.cell? at h2 ⊢
     rwa [this]
    have r0:=aside hvt;obtain⟨k5,v5,nm5,g5,p5,n5,q5,r5,m5,u5,a5,l5,c5,rfl⟩:=TmV.seven hvt;replace o3:Aside (∀w2,aS (fun k=>k=mb) wo w2→CellsAt w2 g9 (i*7) [.int .i64 k5,.int .i64 v5,.string nm5,.bool g5,.slice p5 n5 q5,.slice r5 m5 u5,.slice a5 l5 c5]):=o3;have i5:(i:Int)<((m9+1:Nat):Int):=by omega
    have bp:(i:Int)<(m9:Int)+1:=by omega
    have i6:(0:Int)≤(i:Int):=by omega
    have i7:¬((i:Int)<0):=by omega
    have bo:IntKind.i64.wrap ((i:Int)+1)=(i:Int)+1:=by rw [dX];have:=RB.o.2.2.2.2.2;omega
    clear hc s4 hX9 hXT9 hvt hvc eaa hrd hg9 hgs9 hc9 hr htk au
    go_upto_region 16 with(go_at_call 62;(with_reducible refine dI.mono ?_);rintro e w9 ⟨rfl,hb9⟩)
    clear dI;have f9:aS (fun k=>k=mb) wo w9.drew:=aS.of_below (hb9.trans (dO _ _));have ak:=aside f9;have k9:aS (fun k=>k=mb) wK w9.drew:=RA.o.2.2.2.2.1.trans f9 fun k _ h=>h
    obtain⟨g6,g7,g8⟩:=KB.o _ k9;have d5:=dE.o T TA.o.1 w9.drew mb K _ ((bw.o _ g7).mono d0.o.2.2.1) j8.o.1 RA.o.2.2.1 (RA.o.2.2.2.1.of_block (hb9.block mb RA.o.2.2.2.1.lt)) (TmV.below ((hb9.trans (dO _ _)).mono RB.o.2.2.2.2.1) (aA _) _ _ r0.o);rw [TA.o.2.2.1] at d5;obtain⟨t0,t1,t2,t3,t4,t5,t6⟩:=kM (w2:=w9.drew) (fun p hp=>rfl) (o3.o _ f9);obtain⟨y0,_⟩:=iU (xA.o _ g7);obtain⟨y1,_⟩:=iU g8;clear f9 k9 g6 g7 g8;refine iV 6 (by kernel_rfl) (by kernel_rfl) ?_;simp only [bL,bY,aZ,bG,iX]
    repeat (with_reducible refine jD (fun K hK=>?_);go_simp;with_reducible refine hK _ ?_;clear hK K)
    refine iW ?_;show wpList _ _ _ _ _ _
    go_upto_region 17 with(go_at_call 66;(with_reducible refine d5.mono ?_);rintro e a7 ⟨mx,rfl,hs10,hk10⟩)
    clear t0 t1 t2 t3 t4 t5 t6 y0 y1 d5;have h7:aS (fun k=>k=mb) wo a7:=ak.o.trans hk10 fun k _ h=>h
    have k8:=aside h7;have q7:=aside hs10;have j9:Aside (∀g,ov.ownBlock=some g→wK.heap.size≤g∧g<wo.heap.size):=fun g hg=>by
     obtain⟨X,hX,_⟩:=RA.o.2.2.2.2.2.2.1;exact cF hX g hg
    have b4:Aside (Below n wo a7):=h7.below RB.o.2.2.2.2.1 fun k e=>by subst e;exact j8.o.1
    have h9:=RA.o.2.2.2.2.2.2.1.keep (fun g hg=>h7.block g (j9.o g hg).2 (by have:=(j9.o g hg).1;have:=SK.o.2.2.2;omega)) b4.o;have bx:=aC a7 (bA k5 v5 nm5 g5 p5 n5 q5 r5 m5 u5 a5 l5 c5);have t9:=aJ a7 (bA k5 v5 nm5 g5 p5 n5 q5 r5 m5 u5 a5 l5 c5);obtain⟨X4,hX4,hT4⟩:=h9.below bx (aD RB.o.2.2.2.2.1 h7.size) (aA _);have be:Aside (TmV n (a7.alloc (bA k5 v5 nm5 g5 p5 n5 q5 r5 m5 u5 a5 l5 c5)) T [.int .i64 k5,.int .i64 v5,.string nm5,.bool g5,.slice p5 n5 q5,.slice r5 m5 u5,.slice a5 l5 c5]):=TmV.below bx (aD RB.o.2.2.2.2.1 h7.size) _ _ (TmV.below b4.o (aA _) _ _ r0.o);have j7:=aside3 hX4 hT4 bx;have az:=aside t9;have q6:Aside (∀u∈([.int .i64 k5,.int .i64 v5,.string nm5,.bool g5,.slice p5 n5 q5,.slice r5 m5 u5,.slice a5 l5 c5]:Lv),u.oneCell'=true):=r0.o.one;have c7:Aside (wo.heap.size≤a7.heap.size∧wK.heap.size≤wo.heap.size):=⟨h7.size,RA.o.2.2.2.2.1.size⟩;have q9:Aside (SrcAt (a7.alloc (bA k5 v5 nm5 g5 p5 n5 q5 r5 m5 u5 a5 l5 c5)) (.slice (some ⟨a7.heap.size,0,none⟩) 1 1) 1 [.int .i64 k5,.int .i64 v5,.string nm5,.bool g5,.slice p5 n5 q5,.slice r5 m5 u5,.slice a5 l5 c5]):=Aj (w:=a7) az.o;have n6:Aside (Ou.length+1≤maxLen∧(Ou.length+1)*112≤140737488355328):=by
     show _∧_;have:=RB.o.2.2.2.2.2.2.2;exact⟨by unfold maxLen;omega,by omega⟩
    have r7:Aside (wK.heap.size≤(a7.alloc (bA k5 v5 nm5 g5 p5 n5 q5 r5 m5 u5 a5 l5 c5)).heap.size):=by
     show _≤_;rw [cB];have:=c7.o;omega
    obtain⟨t0,t1,t2,t3,t4,t5,t6⟩:=kM (w2:=a7) (fun p hp=>rfl) (o3.o _ h7);clear h7 hk10 hs10 h9 bx hX4 hT4 t9;refine dZ ?_
    iterate 6 (refine bE rfl fun K hK=>?_;go_simp;refine hK _ _ ?_;clear hK)
    refine jK qU _ rfl _ _ rfl wK.heap.size ov Ou.length X4 rfl j7.o.1 (.slice (some ⟨a7.heap.size,0,none⟩) 1 1) 1 [.int .i64 k5,.int .i64 v5,.string nm5,.bool g5,.slice p5 n5 q5,.slice r5 m5 u5,.slice a5 l5 c5] rfl q9.o rfl q6.o n6.o.1 n6.o.2 r7.o ?_;intro va b2 h5 j0 bd;clear t0 t1 t2 t3 t4 t5 t6;have q5:Aside (OutT n wK.heap.size b2 va (Ou++ [T])):=OutT.push (v:=ov) j7.o.2.1 be.o h5 ((bD n _).grown j0 (by rw [cB];have:=RB.o.2.2.2.2.1;have:=c7.o;omega) (fun k hk=>by have:=(j9.o k hk).1;have:=c7.o;have:=SK.o.2.2.2;have:=j8.o.1;omega));have o2:Aside (∀k,k<a7.heap.size→ov.ownBlock≠some k→b2.heap[k]?=a7.heap[k]?):=fun k hk p0=>(j0.block k (by rw [cB];omega) (fun e=>p0 e.symm)).trans (j7.o.2.2.block k hk)
    have c0:Aside (a7.heap.size+1≤b2.heap.size∧b2.os=a7.os∧b2.tape=a7.tape∧b2.output=a7.output):=⟨by have:=j0.size;rw [cB] at this;exact this,j0.os.trans j7.o.2.2.os,j0.tape.trans j7.o.2.2.tape,j0.output.trans j7.o.2.2.output⟩;have bl:Aside (∀g,va.ownBlock=some g→g<b2.heap.size):=fun g hg=>(cF h5 g hg).2
    have m8:OutT n wK.heap.size b2 (.slice (some ⟨g9,0,none⟩) Lf.length c9) Lf:=RA.o.2.2.2.2.2.1.keep (fun g hg=>by
      have e9:g=g9:=by simp [Value.ownBlock] at hg;exact hg.symm
      subst e9;exact(o2.o g (by have:=TA.o.2.2.2.2.2.1;have:=c7.o;omega) (fun e=>RA.o.2.2.2.2.2.2.2 g e hg)).trans (k8.o.block g TA.o.2.2.2.2.2.1 (by have:=TA.o.2.2.2.2.2.2;omega)))
     ⟨c0.o.2.1.trans b4.o.os,c0.o.2.2.1.trans b4.o.tape,c0.o.2.2.2.trans b4.o.output,by have:=c0.o.1;have:=b4.o.size;omega,fun k hk=>(o2.o k (by have:=RB.o.2.2.2.2.1;have:=c7.o;omega) (fun e=>by have:=(j9.o k e).1;have:=SK.o.2.2.2;have:=j8.o.1;omega)).trans (b4.o.block k hk)⟩
    have d7:=Hj n wK.heap.size b2 _ Lf m8 (by have:=RB.o.2.2.2.2.1;have:=c7.o;have:=c0.o.1;omega) (by have:=RB.o.2.2.2.2.2.2.1;omega);have d8:Aside (∀j3 k0 h6,OutT n b2.heap.size j3 (.slice k0 Lf.length h6) Lf→∃e7,k0=some ⟨e7,0,none⟩∧b2.heap.size≤e7∧Cz 68 #[.slice (some ⟨e7,0,none⟩) (m9+1) h6,.int .i64 i,.int .i64 ((i:Int)+1)] j3 (DelP n b2.heap.size j3 e7 m9 h6 (Lf.take i++Lf.drop (i+1)))):=fun j3 k0 h6 h=>by
     obtain⟨e7,rfl,hgb⟩:=h.someT TA.o.2.2.2.1;have hl:=RB.o.2.2.2.2.2.1;rw [hl] at h;have hi:=(aM.1 TA.o.2.2.2.1).1;exact⟨e7,rfl,hgb,Gj n b2.heap.size j3 e7 m9 h6 i Lf h hl (by omega) (by have:=RB.o.2.2.2.2.1;have:=c7.o;have:=c0.o.1;omega) (by have:=RB.o.2.2.2.2.2.2.1;omega)⟩
    rw [RB.o.2.2.2.2.2.1] at d7 d8;clear m8 h5 j0 bd
    iterate 1 (refine bE rfl fun K hK=>?_;go_simp;refine hK _ _ ?_;clear hK)
    go_upto_region 18 with fail
    refine dZ ?_
    iterate 1 (refine bE rfl fun K hK=>?_;go_simp;refine hK _ _ ?_;clear hK)
    refine bE rfl fun KK h8=>?_
    go_simp
    refine d7.mono ?_;rintro e j3 ⟨k0,h6,rfl,hO12,hb12⟩;obtain⟨e7,rfl,hgb,d9⟩:=d8.o j3 k0 h6 hO12;refine h8 _ _ ?_;clear h8
    iterate 3 (refine bE rfl fun K hK=>?_;go_simp;refine hK _ _ ?_;clear hK)
    refine bE rfl fun KK h8=>?_
    go_simp
    refine d9.mono ?_;rintro e r6 ⟨rfl,hO13,hl13,hg13⟩;refine h8 _ _ ?_;clear h8
    iterate 1 (refine bE rfl fun K hK=>?_;go_simp;refine hK _ _ ?_;clear hK)
    have bh:∀k,k<b2.heap.size→r6.heap[k]?=b2.heap[k]?:=fun k hk=>(hg13.block k (by have:=hb12.size;omega) (fun e=>by injection e with e;omega)).trans (hb12.block k hk)
    have f6:Bz b2 r6:=hb12.grown hg13 hb12.size (fun k e=>by injection e with e;omega);have r8:SchS Ms n mb K1 CL wK r6 (.slice (some ⟨e7,0,none⟩) m9 h6) va:=by
     refine⟨Lf.take i++Lf.drop (i+1),Ou++ [T],K2,ZW RA.o.1 TA.o.2.2.2.1,?_,?_,?_,?_,?_,?_,?_⟩
     ·have:=LN RA.o.2.1 (T:=T) (by rw [TA.o.2.2.1]);rw [TA.o.2.2.1] at this;rw [this,aI];rfl
     ·exact K2l.o
     ·refine q7.o.of_block ((f6.block mb ?_).trans (o2.o mb ?_ ?_))
      ·have:=SK.o.2.2.2;have:=c7.o;have:=c0.o.1;omega
      ·have:=SK.o.2.2.2;have:=c7.o;omega
      ·intro e;have:=(j9.o mb e).1;have:=SK.o.2.2.2;omega
     ·have m7:aS (fun k=>k=mb) wK a7:=RA.o.2.2.2.2.1.trans k8.o fun k _ h=>h
      exact⟨f6.os.trans (c0.o.2.1.trans m7.os),f6.tape.trans (c0.o.2.2.1.trans m7.tape),f6.output.trans (c0.o.2.2.2.trans m7.output),by have:=f6.size;have:=c0.o.1;have:=m7.size;omega,fun k hk hn=>(f6.block k (by have:=c7.o;have:=c0.o.1;omega)).trans ((o2.o k (by have:=c7.o;omega) (fun e=>by have:=(j9.o k e).1;omega)).trans (m7.block k hk hn))⟩
     ·have:=hO13.base (base':=wK.heap.size) (by have:=c7.o;have:=c0.o.1;omega);exact this
     ·exact q5.o.below f6 (by have:=RB.o.2.2.2.2.1;have:=c7.o;have:=c0.o.1;omega) (aA _)
     ·intro g hg e;have:=bl.o g hg;simp [Value.ownBlock] at e;omega
    have S13A:Aside _:=r8;clear r8 bh f6 hO13 hg13 hb12 d9 d7 hO12;go_wp2;exact⟨⟨_,_,rfl,rfl,S13A.o⟩,by simp [slLen]⟩
