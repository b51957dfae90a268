/- Lemmas; no condition. -/
import Derived.Test.YtbdpdeonapmlgaaGreatDoorAh
import Derived.Shelf.Small.Strs
set_option linter.all false
set_option maxHeartbeats 4000000
set_option maxRecDepth 100000
namespace Go.Proofs.YtbdpdeonapmlgaaGreatDoor
open Go.RowKit Go.Big Go.RowsK Go.MapK
variable {LL:List (List Ind)} {v v5 v' u:Value} {P:List Cl} {L:List Ind} {w w2 w5:Wo} {X vs:Lv} {t t':TypeId} {k y:Ind} {g b:Nat}
def Dir (P:List Cl) (a b:Ind):Prop:=b∈cE P a
def Uses (P:List Cl) (a b:Ind):Prop:=Relation.TransGen (Dir P) a b
def tD (P:List Cl):List Ind:=P.flatMap Cl.atoms
def US (hF:∀C∈P,C.flt=0):(tD P).length≤P.length*10000:=by
 induction P with
 |nil=>simp [tD]
 |cons C r ih=>
  have h1:=CM (hF C (by simp));have h2:C.atoms.length≤C.b.lits.length:=JG _ _;have h3:=ih fun D hD=>hF D (by simp [hD])
  simp only [tD,pR,aI,eW] at h3 ⊢;omega
def RW (h:y∈cE P k):y∈tD P:=by
 unfold cE at h;obtain⟨C,hC,h⟩:=tJ.1 h;unfold lP at h;split at h
 ·exact tJ.2 ⟨C,hC,h⟩
 ·cases h
def KC (h:Uses P k y):y∈tD P:=by
 induction h with
 |single h=>exact RW h
 |tail _ h _=>exact RW h
def lenOf:Value→Nat
 | .slice _ n _=>n
 |_=>0
def UsI (base:Nat) (w:Wo) (v:Value) (P:List Cl) (k:Ind) (L:List Ind):Prop:=aF base w v L∧L.Nodup∧(∀y∈L,Uses P k y)∧∀y∈cE P k,y∈L
def UsI.len {base:Nat} (h:UsI base w v P k L) (hF:∀C∈P,C.flt=0) (hP:P.length≤300):L.length≤3000000:=by
 have h1:=Go.Proofs.Plain.nodup_sub_len h.2.1 fun y hy=>KC (h.2.2.1 y hy)
 have h2:=US hF;omega
def SepJ (v v8:Value):Prop:=∀g,v8.ownBlock=some g→v.ownBlock≠some g
def aF.push {base:Nat} {x:ByteArray} {m:Int} (h:aF base w2 v L) (a0:base≤w2.heap.size)
  (h5:w5.ownsRow base 63 2 v5 (L.length+1) (L.flatMap bO++ [.string x,.int .i64 m]))
  (hg:(w2.alloc (.cells #[.string x,.int .i64 m] 63)).grownBy w5 v.ownBlock) (hv:v5.ownBlock=v.ownBlock∨v5.ownBlock=Option.some (w2.alloc (.cells #[.string x,.int .i64 m] 63)).heap.size):
  aF base w5 v5 (L++ [(x,m)])∧Below base w2 w5∧(∀b8 v8 L8,aF b8 w2 v8 L8→SepJ v v8→aF b8 w5 v8 L8∧SepJ v5 v8):=by
 have hb:=aC w2 (.cells #[.string x,.int .i64 m] 63);refine⟨?_,?_,fun b8 v8 L8 h8 hs=>⟨gS (h8.below hb (aA _)) fun g a1=>hg.block g ?_ (fun e=>hs g a1 e.symm),fun g a1 e=>?_⟩⟩
 ·unfold aF;rw [aI,tL];simpa [bO] using h5
 ·exact((hb.mono a0)).grown hg (aD a0 hb.size) fun k hk=>(cF h k hk).1
 ·have:=(cF h8 g a1).2;rw [cB];omega
 ·rcases hv with hv|hv
  ·exact hs g a1 (hv▸e)
  ·rw [hv] at e;have h1:=aK e;have:=(cF h8 g a1).2;rw [cB] at h1;omega
section
attribute [local go_sem] Heavy.uponW
end
section
attribute [local go_sem] Heavy.uponW
end
def elRow:El Tryz.prog 125 127 1 24 (.slice none 0 0):=⟨Tryz.underlying125,by
  obtain⟨i0,h1,h2,h3,h4⟩:=mQ (show(Tryz.prog.info? 127).map (fun i=>(i.zero,i.size,i.bytes))=some (some (.slice none 0 0),1,24) by kernel_rfl);exact⟨i0,h1,h2,h3,h4⟩,rfl,by decide⟩
def RowX (base:Nat) (w:Wo) (v:Value) (X:Lv) (LL:List (List Ind)):Prop:=
 w.ownsRow base 127 1 v LL.length X∧∀(k:Nat) L,LL[k]?=some L→∃u,X[k]?=some u∧aF base w u L
def RowX.nil (base:Nat) (w:Wo):RowX base w (.slice none 0 0) [] []:=⟨pL _ _ _ _,fun k L h=>by simp at h⟩
def RowX.below {base m:Nat} {w':Wo} (h:RowX base w v X LL) (hb:Below m w w') (hm:w.heap.size≤m):RowX base w' v X LL:=
 ⟨gJ h.1 hb hm,fun k L hk=>by obtain⟨u,h1,h2⟩:=h.2 k L hk;exact⟨u,h1,h2.below hb hm⟩⟩
def RowX.base {base:Nat} (h:RowX base w v X LL) (hb:b≤base):RowX b w v X LL:=
 ⟨qA h.1 hb,fun k L hk=>by obtain⟨u,h1,h2⟩:=h.2 k L hk;exact⟨u,h1,qA h2 hb⟩⟩
def RowX.len {base:Nat} (h:RowX base w v X LL):X.length=LL.length:=by
 have:=h.1.1;omega
def RowX.read {base:Nat} (h:RowX base w v X LL):∃a c,v= .slice a LL.length c∧∀(k:Nat) L,LL[k]?=some L→∃g ai ci,a=some ⟨g,0,none⟩∧base≤g∧g<w.heap.size∧w.cell? ⟨g,k,none⟩=some (.slice ai L.length ci)∧X[k]?=some (.slice ai L.length ci)∧aF base w (.slice ai L.length ci) L:=by
 obtain⟨a,c,rfl,hr⟩:=iN h.1;refine⟨a,c,rfl,fun k L hk=>?_⟩;rcases hr with h0|⟨g,e,hb,hg,hc⟩
 ·have:=(aM.1 hk).1;omega
 ·obtain⟨u,h1,h2⟩:=h.2 k L hk;obtain⟨ai,ci,rfl,_⟩:=h2.read;exact⟨g,ai,ci,e,hb,hg,hc _ _ h1,h1,h2⟩
def YO {b' s s' n n':Nat} {X':Lv} (h:w.ownsRow b t s v n X) (h':w.ownsRow b' t' s' v' n' X') (ht:t≠t') (g:Nat) (hg:v.ownBlock=some g):v'.ownBlock≠some g:=by
 intro e;obtain⟨_,⟨rfl,_⟩|⟨g1,cap,cur,rfl,_,h1,_⟩⟩:=h
 ·cases hg
 ·obtain⟨_,⟨rfl,_⟩|⟨g2,cap',cur',rfl,_,h2,_⟩⟩:=h'
  ·cases e
  ·simp only [Value.ownBlock,cJ] at hg e;subst hg;subst e;rw [h1] at h2;have:=aK h2;injection this with _ e2
   exact ht e2
def RowX.push {base:Nat} (h:RowX base w2 v X LL) (a1:base≤w2.heap.size) (hu:aF base w2 u L)
  (h5:w5.ownsRow base 127 1 v5 (LL.length+1) (X++ [u])) (hg:(w2.alloc (.cells #[u] 127)).grownBy w5 v.ownBlock):
  RowX base w5 v5 (X++ [u]) (LL++ [L])∧Below base w2 w5∧∀b8 v8 L8,aF b8 w2 v8 L8→aF b8 w5 v8 L8:=by
 have hb:=aC w2 (.cells #[u] 127);have a0:∀b8 v8 L8,aF b8 w2 v8 L8→aF b8 w5 v8 L8:=fun b8 v8 L8 h8=>gS (h8.below hb (aA _)) fun g a2=>hg.block g (by
  have:=(cF h8 g a2).2;rw [cB];omega) (fun e=>YO h.1 h8 (by decide) g e.symm a2)
 refine⟨⟨by rw [aI];exact h5,fun k L' hk=>?_⟩,(hb.mono a1).grown hg (aD a1 hb.size) fun k hk=>(cF h.1 k hk).1,a0⟩;have hl:=h.len
 by_cases a3:k<LL.length
 ·rw [dW a3] at hk;obtain⟨u',h1,h2⟩:=h.2 k L' hk;exact⟨u',by rw [dW (by omega)];exact h1,a0 _ _ _ h2⟩
 ·have a4:=(aM.1 hk).1;rw [aI,vP] at a4;obtain rfl:k=LL.length:=by omega
  rw [dK (aA _)] at hk;simp at hk;subst hk;exact⟨u,by rw [dK (by omega)];simp [hl],a0 _ _ _ hu⟩
section
attribute [local go_sem] Heavy.uponW
end
section
attribute [local go_sem] Heavy.uponW
end
section
attribute [local go_sem] Heavy.uponW
noncomputable def pC:List Cl→Int
 | []=>0
 |C::r=>if C.flt≠0 then C.flt else pC r
noncomputable def kN (P:List Cl):Int:=if 300<P.length then 3 else pC P
def GF:∀{P:List Cl} {i:Nat} {C:Cl},P[i]?=some C→(∀D∈P.take i,D.flt=0)→C.flt≠0→pC P=C.flt
 | [],_,_,h,_,_=>by simp at h
 |D::r,0,C,h,_,hC=>by
  simp at h;subst h;rw [pC,if_pos hC]
 |D::r,i+1,C,h,hz,hC=>by
  have h0:D.flt=0:=hz D (by simp);rw [pC,if_neg (by simp [h0])];exact GF (by simpa using h) (fun E hE=>hz E (by simp [hE])) hC
def BT:∀{P:List Cl},(∀D∈P,D.flt=0)→pC P=0
 | [],_=>rfl
 |D::r,h=>by
  rw [pC,if_neg (by simp [h D (by simp)])];exact BT fun E hE=>h E (by simp [hE])
end
section
attribute [local go_sem] Heavy.uponW
end
def EB {fn:Func} {p q:Tmp} (h:fn.results=#[.cell p 48,.tmp q]) (tmps:Array Value) (w:Wo) (g:Nat) (t:TypeId) (cs:Array Value) (fr:Nat × Nat) (v:Value)
  (hp:tmps.getD p undef= .pointer (some ⟨g,0,none⟩)) (hg:w.heap[g]?=some (.cells cs t fr)) (hl:cs.size=7) (hq:tmps.getD q undef=v):
  (results fn tmps).run Tryz.prog w= .ok (.tuple #[.agg cs,v]) w:=by
 have a1:tmps[p]?.getD undef= .pointer (some ⟨g,0,none⟩):=by simpa using hp
 have a2:tmps[q]?.getD undef=v:=by simpa using hq
 have hi:(Tryz.prog.info? 48).map (·.size)=some cs.size:=by rw [hl];kernel_rfl
 simp [results,h,a1,a2,asAddr,run_loadVar_row w g t 48 cs fr _ hg Tryz.underlying48 rfl hi]
def fT {cs:Array Value} (hg:w.heap[g]?=some (.cells cs t (0,0))) (hl:vs.length=cs.size) (h1:∀v∈vs,v.oneCell'=true):
  ∃w1,(storeCells ⟨g,0,none⟩ vs 0).run Tryz.prog w= .ok () w1∧w1.heap[g]?=some (.cells vs.toArray t (0,0))∧w.grownBy w1 (some g)∧w1.heap.size=w.heap.size:=by
 refine⟨_,run_storeCells_from (P:=Tryz.prog) g t vs 0 cs w hg (by simp;omega) h1,?_,⟨rfl,rfl,rfl,by simp [World.setRow],fun k hk a0=>vG _ _ _ _ fun e=>a0 (by rw [e])⟩,by simp [World.setRow]⟩;have:=tF w g cs vs.toArray t (0,0) hg;simpa using this
def lY {W W1:Wo} {A:Addr} {v0 v1 v2 v3 v4 v6:Value} (h:(storeCells A [v0,v1,v2,v3,v4,v5,v6] 0).run Tryz.prog W= .ok () W1):(Instr.storeAt 48 (.pointer (some A)) (.agg #[v0,v1,v2,v3,v4,v5,v6])).run Tryz.prog W= .ok () W1:=by
 have hs:∀w,(sizeOf 48).run Tryz.prog w= .ok 7 w:=fun w=>Tryz.sizeOf48 w
 have ha:(Instr.sureAddr (.pointer (some A))).run Tryz.prog W= .ok A W:=rfl;unfold Instr.storeAt;simp [storeVar,ha,hs,Value.cells,h]
section
attribute [local go_sem] Heavy.uponW
def zTL:Lv:=[.int .i64 0,.int .i64 0,.string ⟨#[]⟩,.bool false,.slice none 0 0,.slice none 0 0,.slice none 0 0]
def AtomP (n:Nat) (w:Wo) (T:Tm) (e:Ending) (w':Wo):Prop:=
 ∃us b,e= .returned (.tuple #[.agg (us:Lv).toArray,.bool b])∧(b=false→T.kd≠1∧T.kd≠2∧us=zTL)∧(b=true→∃A,(T.kd=1∧A=T∨T.kd=2∧T.args= [A])∧TmV n w' A us)∧Bz w w'
def Ja (T:Tm) (n:Nat) (w:Wo) (vs:Lv) (h:TmV n w T vs) (hn:n≤w.heap.size):
  Cz 186 #[.agg vs.toArray] w (AtomP n w T):=by
 have dk:Aside (∀w2,Bz w w2→Cz 64 #[.agg vs.toArray] w2 fun e w'=>e= .returned (.int .i64 T.kd)∧Bz w2 w'):=fun w2 hb=>BB T n w2 vs (TmV.below hb hn _ _ h) (aD hn hb.size)
 obtain⟨K,hK⟩:∃x,T.kd=x:=⟨_,rfl⟩;have a1:=aside hK;rw [hK] at dk;have hT:=h;have b2:=PR (T:=T);obtain⟨k,v,nm,g,num,den,args⟩:=T;simp only [TmV] at h;obtain⟨_,_,a,c,rfl,⟨⟨p1,q1,rfl,_⟩,⟨p2,q2,rfl,_⟩⟩,hS,_⟩:=h;have a8:Aside (bS n w args a 0∧(K=2→∃A,args= [A])):=⟨hS,fun e=>b2 (hK.trans e)⟩;have a3:Aside (TmV n w (Tm.mk k v nm g num den args) _):=hT;clear b2 hT;obtain⟨len,hl⟩:∃x,args.length=x:=⟨_,rfl⟩;have Al:=aside hl;rw [hl] at dk a3 ⊢;generalize num.length=n1,den.length=n2 at*;replace dk:Aside (∀w2,Bz w w2→Cz 64 #[.agg (tA k v nm g p1 n1 q1 p2 n2 q2 a len c)] w2 fun e w'=>e= .returned (.int .i64 K)∧Bz w2 w'):=dk;replace a3:Aside (TmV n w (Tm.mk k v nm g num den args) [.int .i64 k,.int .i64 v,.string nm,.bool g,.slice p1 n1 q1,.slice p2 n2 q2,.slice a len c]):=a3;obtain⟨TT,hTT⟩:∃x,Tm.mk k v nm g num den args=x:=⟨_,rfl⟩;rw [hTT] at a3 a1 ⊢;have b6:Aside (TT.args=args):=by show _=_;rw [←hTT];rfl
 clear hS hK hl hTT;obtain⟨wb,hwb,b0,hq,hsz⟩:=ebx w (bA k v nm g p1 n1 q1 p2 n2 q2 a len c);show Cz 186 #[.agg (tA k v nm g p1 n1 q1 p2 n2 q2 a len c)] w _;go_enter Tryz.func186,Tryz.ntmps186
 go_upto_region 1 with fail
 have b1:=aC wb (Obj.cells #[.int .i64 0,.int .i64 0,.string ⟨#[]⟩,.bool false,.slice none 0 0,.slice none 0 0,.slice none 0 0] 48);have a7:=aJ wb (Obj.cells #[.int .i64 0,.int .i64 0,.string ⟨#[]⟩,.bool false,.slice none 0 0,.slice none 0 0,.slice none 0 0] 48);obtain⟨wc,hwc⟩:=enm (wb.alloc (Obj.cells #[.int .i64 0,.int .i64 0,.string ⟨#[]⟩,.bool false,.slice none 0 0,.slice none 0 0,.slice none 0 0] 48));have b7:wc.heap.size=w.heap.size+2:=by rw [←hwc,cB];omega
 rw [hwc] at b1 a7 ⊢;have f1:Bz w wc:=b0.trans (b1.mono b0.size);have fa:Aside (∀w2,Bz wc w2→_):=fun(w2:Wo) (hb:Bz wc w2)=>bZ (((hb.block w.heap.size (by omega)).trans (b1.block w.heap.size (by omega))).trans hq)
 have fz:Aside (∀w2,Bz wc w2→w2.heap[w.heap.size+1]?=some (.cells #[.int .i64 0,.int .i64 0,.string ⟨#[]⟩,.bool false,.slice none 0 0,.slice none 0 0,.slice none 0 0] 48)):=fun(w2:Wo) (hb:Bz wc w2)=>(hb.block (w.heap.size+1) (by omega)).trans (by rw [←hsz];exact a7)
 clear hwb hwc hq a7 hsz;obtain⟨x0,x1,x2,x3,x4,x5,x6⟩:=fa.o wc (bD _ _)
 go_wp2_with (go_at_call 64;with_reducible refine(dk.o _ f1).mono ?_)
 rintro e w2 ⟨rfl,hb2⟩;clear x0 x1 x2 x3 x4 x5 x6;obtain⟨x0,x1,x2,x3,x4,x5,x6⟩:=fa.o w2 hb2;have z0:=fz.o w2 hb2
 by_cases h1:K=1
 case pos=>
  subst h1;obtain⟨w3,hst,hq3,hg3,hs3⟩:=fT (vs:=[.int .i64 k,.int .i64 v,.string nm,.bool g,.slice p1 n1 q1,.slice p2 n2 q2,.slice a len c]) z0 rfl (by simp [Value.oneCell']);have b3:Bz w w3:=(f1.trans (hb2.mono f1.size)).grown hg3 (by have:=hb2.size;omega) (by intro k hk;injection hk with hk;omega);have hR:=aside2 hq3 b3;have a4:=lY hst;clear hst hq3 hg3 b3
  go_upto_region 3 with fail
  refine dZ ?_
  iterate 1 (refine bE rfl fun K hK=>?_;go_simp;refine hK _ _ ?_;clear hK)
  refine eR rfl 48 _ _ rfl (v:=.pointer (some ⟨w.heap.size+1,0,none⟩)) (u:=.agg (tA k v nm g p1 n1 q1 p2 n2 q2 a len c)) rfl rfl a4 ?_;go_wp2;refine fQ (EB rfl _ _ (w.heap.size+1) 48 _ _ _ rfl hR.o.1 rfl rfl) rfl ?_;exact⟨_,true,rfl,by simp,fun _=>⟨TT,.inl ⟨a1.o,rfl⟩,TmV.below hR.o.2 hn _ _ a3.o⟩,hR.o.2⟩
 by_cases h2:K=2
 case pos=>
  subst h2;obtain⟨A,hA⟩:=a8.o.2 rfl;have hS:=a8.o.1;have a6:=Al.o;have a5:=b6.o;rw [hA] at hS a6 a5;obtain rfl:len=1:=by rw [←a6];rfl
  simp only [bS] at hS;obtain⟨⟨b,off,us,rfl,hbn,hc,hv⟩,_⟩:=hS;have b5:=aside2 hv a5;have⟨k2,v2,nm2,g2,num2,den2,a0⟩:=A;simp only [TmV] at hv;obtain⟨_,_,a2,c2,rfl,⟨⟨p3,q3,rfl,_⟩,⟨p4,q4,rfl,_⟩⟩,_⟩:=hv;generalize a0.length=len2,num2.length=n3,den2.length=n4 at*;have a9:Bz w w2:=f1.trans (hb2.mono f1.size);obtain⟨y0,y1,y2,y3,y4,y5,y6⟩:=kM (w2:=w2) (fun p hp=>(a9.mono hn).cell (hp▸hbn)) (by simpa using hc);clear hc a6 a5 hA a9;obtain⟨w3,hst,hq3,hg3,hs3⟩:=fT (vs:=[.int .i64 k2,.int .i64 v2,.string nm2,.bool g2,.slice p3 n3 q3,.slice p4 n4 q4,.slice a2 len2 c2]) z0 rfl (by simp [Value.oneCell']);have b3:Bz w w3:=(f1.trans (hb2.mono f1.size)).grown hg3 (by have:=hb2.size;omega) (by intro k hk;injection hk with hk;omega);have hR:=aside2 hq3 b3;have a4:=lY hst;clear hst hq3 hg3 b3
  go_upto_region 5 with fail
  refine dZ ?_
  iterate 4 (refine bE rfl fun K hK=>?_;go_simp;refine hK _ _ ?_;clear hK)
  refine eR rfl 48 _ _ rfl (v:=.pointer (some ⟨w.heap.size+1,0,none⟩)) (u:=.agg (tA k2 v2 nm2 g2 p3 n3 q3 p4 n4 q4 a2 len2 c2)) rfl rfl a4 ?_;go_wp2;refine fQ (EB rfl _ _ (w.heap.size+1) 48 _ _ _ rfl hR.o.1 rfl rfl) rfl ?_;exact⟨_,true,rfl,by simp,fun _=>⟨_,.inr ⟨a1.o,b5.o.2⟩,TmV.below hR.o.2 hn _ _ b5.o.1⟩,hR.o.2⟩
 have b8:(K==1)=false:=by simpa using h1
 have b9:(K==2)=false:=by simpa using h2
 have b4:=aside2 h1 h2;clear h1 h2;obtain⟨w3,hst,hq3,hg3,hs3⟩:=fT (vs:=[.int .i64 0,.int .i64 0,.string ⟨#[]⟩,.bool false,.slice none 0 0,.slice none 0 0,.slice none 0 0]) z0 rfl (by simp [Value.oneCell']);have b3:Bz w w3:=(f1.trans (hb2.mono f1.size)).grown hg3 (by have:=hb2.size;omega) (by intro k hk;injection hk with hk;omega);have hR:=aside2 hq3 b3;have a4:=lY hst;clear hst hq3 hg3 b3
 go_upto_region 6 with fail
 refine dZ ?_
 iterate 1 (refine bE rfl fun K hK=>?_;go_simp;refine hK _ _ ?_;clear hK)
 refine eR rfl 48 _ _ rfl (v:=.pointer (some ⟨w.heap.size+1,0,none⟩)) (u:=.agg #[.int .i64 0,.int .i64 0,.string ⟨#[]⟩,.bool false,.slice none 0 0,.slice none 0 0,.slice none 0 0]) rfl rfl a4 ?_;go_wp2;refine fQ (EB rfl _ _ (w.heap.size+1) 48 _ _ _ rfl hR.o.1 rfl rfl) rfl ?_;exact⟨zTL,false,rfl,fun _=>⟨by rw [a1.o];exact b4.o.1,by rw [a1.o];exact b4.o.2,rfl⟩,by simp,hR.o.2⟩
end
end Go.Proofs.YtbdpdeonapmlgaaGreatDoor
namespace Go.MapK
open Go.RowKit
variable {b st j:Nat} {w:Wo}
variable {κ:Type} [DecidableEq κ] {P:Program} {kt mt vt:TypeId} {kv:κ→Value}
def StampAt (kv:κ→Value) (w:Wo) (b:Nat) (M:List (κ × Value)) (k:κ) (st:Nat):Prop:=
 ∃es a0,w.heap[b]?=some (.map es a0)∧MapIs kv M es a0∧∃j e,bI k M=some j∧es[j]?=some e∧e.born=st
def StampAt.of_block {w':Wo} {M:List (κ × Value)} {k:κ} (h:StampAt kv w b M k st) (e:w'.heap[b]?=w.heap[b]?):StampAt kv w' b M k st:=by
 obtain⟨es,c,h1,h2⟩:=h;exact⟨es,c,e.trans h1,h2⟩
def StampAt.map {M:List (κ × Value)} {k:κ} (h:StampAt kv w b M k st):aQ kv w b M:=by
 obtain⟨es,c,h1,h2,_⟩:=h;exact⟨es,c,h1,h2⟩
def pF (k:κ) (z:Value) (M:List (κ × Value)):List (κ × Value):=if bI k M=none then M++ [(k,z)] else M
def QC {k:κ} {z:Value}:∀{M:List (κ × Value)},bI k M=none→bI k (M++ [(k,z)])=some M.length
 | [],_=>by simp [bI]
 | p::M,h=>by
  by_cases hk:k=p.1
  ·simp [bI,hk] at h
  ·have h1:bI k M=none:=by simpa [bI,hk] using h
   simp [bI,hk,QC h1]
def ZR {k:κ} {z v:Value} {M:List (κ × Value)}:putM k v (pF k z M)=putM k v M:=by
 unfold pF;split
 ·rename_i h;rw [tZ h]
  induction M with
  |nil=>simp [putM]
  | cons p M ih=>
   by_cases hk:k=p.1
   ·simp [bI,hk] at h
   ·have h1:bI k M=none:=by simpa [bI,hk] using h
    simp [putM,hk,ih h1]
 ·rfl
def Ce (K:KL P kt kv) (hu:P.underlying mt=some (.map kt vt)) {z:Value} (hz:∀w,(zeroValue vt).run P w= .ok z w) {w:Wo} {b:Nat} {M:List (κ × Value)} (h:aQ kv w b M) (k:κ):
  ∃w' st,(Instr.mapEntry mt (.map (some b)) (kv k)).run P w= .ok (.tuple #[(aL k M).getD z,.int .i64 (st:Nat)]) w'∧StampAt kv w' b (pF k z M) k st∧w.grownBy w' (some b)∧w'.heap.size=w.heap.size:=by
 obtain⟨es,a0,hb,hM⟩:=h;have b5:(Go.underlying mt).run P w= .ok (.map kt vt) w:=dQ hu w;have a7:b<w.heap.size:=(aG.1 hb).1;have a1:∀o,(setObj b o).run P w= .ok () { w with heap:=w.heap.setIfInBounds b o }:=fun o=>by simp [setObj,Sem.run,hb]
 have a4:∀o,({ w with heap:=w.heap.setIfInBounds b o }:Wo).heap[b]?=some o:=fun o=>by simp [a7]
 have a5:∀o,w.grownBy { w with heap:=w.heap.setIfInBounds b o } (some b):=fun o=>⟨rfl,rfl,rfl,by simp,fun k hk a9=>by
  have:b≠k:=fun e=>a9 (by rw [e])
  simp [lV,this]⟩
 have a6:∀o,({ w with heap:=w.heap.setIfInBounds b o }:Wo).heap.size=w.heap.size:=fun o=>by simp
 unfold Instr.mapEntry;simp only [aU,b5,Result.andThen,run_getMap hb,cC,K.check,K.find k w M _ hM.rel];cases hi:bI k M with
 | none=>
  have hl:=hM.rel.length;rw [cU] at hl;have he:pF k z M=M++ [(k,z)]:=by unfold pF;rw [if_pos hi]
  refine⟨_,a0,?_,⟨_,_,a4 (.map (es.push { key:=kv k,val:=z,born:=a0 }) (a0+1)),?_,M.length,{ key:=kv k,val:=z,born:=a0 },?_,?_,rfl⟩,a5 _,a6 _⟩
  ·simp [a1,hz,qO.1 hi,goInt,Result.andThen]
  ·rw [he];refine⟨?_,?_,?_,?_⟩
   ·simpa using EsR.append a0 hM.rel
   ·rw [oF,yT];refine⟨hM.nodup,by simp,?_⟩;intro a ha c hc e;obtain⟨p,hp,rfl⟩:=cL.1 ha;simp at hc;exact uL.1 hi p hp (by rw [e,hc])
   ·rw [JQ,JD];exact⟨hM.borns,by simp,fun x hx y hy=>by simp at hy;subst hy;exact hM.lt x hx⟩
   ·intro e he;rw [JQ,cG] at he;rcases he with he|he
    ·have:=hM.lt e he;omega
    ·simp at he;subst he;show a0<a0+1;omega
  ·rw [he];exact QC hi
  ·rw [←hl];simp
 | some j=>
  obtain⟨v0,hv0⟩:=KA hi;obtain⟨e0,he0,hk0⟩:=hM.rel.key hi;have a3:es[j]?=some e0:=by rw [←gP];exact he0
  have b4:∀w,(Instr.keyThatStays (kv k) (kv k)).run P w= .ok (kv k) w:=fun w=>by
   unfold Instr.keyThatStays;rw [K.bits k];simp
  have a2:(es.modify j fun e=>{ e with key:=kv k })=es:=by
   apply yX;intro i;rw [mY];split
   ·rename_i e;subst e;rw [a3];simp [←hk0]
   ·rfl
  have he:pF k z M=M:=by unfold pF;rw [if_neg (by rw [hi];simp)]
  refine⟨_,e0.born,?_,⟨_,_,a4 (.map (es.modify j fun e=>{ e with key:=kv k }) a0),?_,j,e0,?_,?_,rfl⟩,a5 _,a6 _⟩
  ·simp [hv0,a3,hk0,b4,a1,goInt,Result.andThen]
  ·rw [he,a2];exact hM
  ·rw [he];exact hi
  ·rw [a2];exact a3
def Ez {es:Array MapEntry} {e:MapEntry} (hp:es.toList.Pairwise fun x y=>x.born<y.born) (he:es[j]?=some e):es.findIdx? (fun x=>(x.born:Int)==(e.born:Nat))=some j:=by
 have hj:j<es.size:=(aG.1 he).1;have b1:es[j]=e:=(aG.1 he).2;rw [Array.findIdx?_eq_some_iff_getElem];refine⟨hj,by simp [b1],fun i hi=>?_⟩;rw [Kp] at hp;have:=hp i j (by simp;omega) (by simpa using hj) hi;simp only [Array.getElem_toList,b1] at this;simp;omega
def Fs {M:List (κ × Value)} {k:κ} (h:StampAt kv w b M k st) (v:Value):
  ∃w',(Instr.entryStore mt (.map (some b)) (.int .i64 (st:Nat)) v).run P w= .ok () w'∧aQ kv w' b (putM k v M)∧w.grownBy w' (some b)∧w'.heap.size=w.heap.size:=by
 obtain⟨es,a0,hb,hM,j,e,hi,he,rfl⟩:=h;have a7:b<w.heap.size:=(aG.1 hb).1;have a1:∀o,(setObj b o).run P w= .ok () { w with heap:=w.heap.setIfInBounds b o }:=fun o=>by simp [setObj,Sem.run,hb]
 have a4:∀o,({ w with heap:=w.heap.setIfInBounds b o }:Wo).heap[b]?=some o:=fun o=>by simp [a7]
 have a5:∀o,w.grownBy { w with heap:=w.heap.setIfInBounds b o } (some b):=fun o=>⟨rfl,rfl,rfl,by simp,fun k hk a9=>by
  have:b≠k:=fun e=>a9 (by rw [e])
  simp [lV,this]⟩
 have a6:∀o,({ w with heap:=w.heap.setIfInBounds b o }:Wo).heap.size=w.heap.size:=fun o=>by simp
 obtain⟨e1,a3,hk1⟩:=hM.rel.key hi;have b3:e1=e:=by
  rw [←gP,a3] at he;exact aK he
 subst b3;have a8:es.modify j (fun x=>{ x with val:=v })=es.modify j fun x=>{ x with key:=kv k,val:=v }:=by
  apply yX;intro i;rw [mY,mY];split
  ·rename_i e;subst e;rw [he];simp [←hk1]
  ·rfl
 refine⟨_,?_,⟨_,_,a4 (.map (es.modify j fun x=>{ x with key:=kv k,val:=v }) a0),?_⟩,a5 _,a6 _⟩
 ·unfold Instr.entryStore;simp only [aU,Result.andThen,run_getMap hb,cC,asInt,asIntOf,Ez hM.borns he,a8,a1]
 ·have b0:=EX (fun e=>{ e with key:=kv k,val:=v }) (fun _=>rfl) es.toList j;refine⟨?_,?_,?_,?_⟩
  ·simpa using EsR.put (v:=v) hM.rel hi
  ·rw [EH hi];exact hM.nodup
  ·have:=JC.2 hM.borns;rw [←b0] at this;simpa using JC.1 this
  ·intro e he;have b2:e∈es.toList.modify j (fun e=>{ e with key:=kv k,val:=v }):=by simpa using he
   have h1:e.born∈(es.toList.modify j (fun e=>{ e with key:=kv k,val:=v })).map (·.born):=cL.2 ⟨e,b2,rfl⟩;rw [b0] at h1;obtain⟨e',h2,h3⟩:=cL.1 h1;rw [←h3];exact hM.lt e' h2
end Go.MapK
namespace Go.Proofs.YtbdpdeonapmlgaaGreatDoor
open Go.RowKit Go.Big Go.RowsK Go.MapK
variable {M:List (Ind × Value)} {D:Ind→List Ind} {L:List Ind} {v u v5:Value} {x:ByteArray} {b base c:Nat} {m:Int} {w w' w2 w5:Wo}
def SepJ.symm (h:SepJ v u):SepJ u v:=fun g h1 h2=>h g h2 h1
def SepJ.nil (v:Value):SepJ v (.slice none 0 c):=fun g h=>by simp [Value.ownBlock] at h
structure GrI (base:Nat) (w:Wo) (b:Nat) (v:Value) (L:List Ind) (M:List (Ind × Value)) (D:Ind→List Ind):Prop where
 row:aF base w v L
 map:aQ aO w b M
 val:∀k u,aL k M=some u→aF base w u (D k)∧SepJ v u
 non:∀k,aL k M=none→D k= []
 sep:∀k k' u u',k≠k'→aL k M=some u→aL k' M=some u'→SepJ u u'
def GrI.below {m:Nat} (h:GrI base w b v L M D) (hb:Below m w w') (hm:w.heap.size≤m):GrI base w' b v L M D where
 row:=h.row.below hb hm
 map:=h.map.of_block (hb.block b (aR h.map.lt hm))
 val:=fun k u hk=>⟨(h.val k u hk).1.below hb hm,(h.val k u hk).2⟩
 non:=h.non
 sep:=h.sep
def GrI.keep (h:GrI base w b v L M D) (hk:∀g,base≤g→g<w.heap.size→w'.heap[g]?=w.heap[g]?) (a8:w'.heap[b]?=w.heap[b]?):GrI base w' b v L M D where
 row:=gS h.row fun g hg=>hk g (cF h.row g hg).1 (cF h.row g hg).2
 map:=h.map.of_block a8
 val:=fun k u hu=>⟨gS (h.val k u hu).1 fun g hg=>hk g (cF (h.val k u hu).1 g hg).1 (cF (h.val k u hu).1 g hg).2,(h.val k u hu).2⟩
 non:=h.non
 sep:=h.sep
def GrI.push (h:GrI base w2 b v L M D) (a7:b<base) (a2:base≤w2.heap.size)
  (h5:w5.ownsRow base 63 2 v5 (L.length+1) (L.flatMap bO++ [.string x,.int .i64 m]))
  (hg:(w2.alloc (.cells #[.string x,.int .i64 m] 63)).grownBy w5 v.ownBlock) (hv:v5.ownBlock=v.ownBlock∨v5.ownBlock=Option.some (w2.alloc (.cells #[.string x,.int .i64 m] 63)).heap.size):
  GrI base w5 b v5 (L++ [(x,m)]) M D∧Below base w2 w5:=by
 obtain⟨h1,h2,h3⟩:=h.row.push a2 h5 hg hv;exact⟨⟨h1,h.map.of_block (h2.block b a7),fun k u hk=>h3 _ _ _ (h.val k u hk).1 (h.val k u hk).2,h.non,h.sep⟩,h2⟩
def GrI.pushAt {w6:Wo} {k:Ind} (h:GrI base w2 b v L M D) (a7:b<base) (a2:base≤w2.heap.size)
  (hu:(aL k M).getD (.slice none 0 0)=u)
  (h5:w5.ownsRow base 63 2 v5 ((D k).length+1) ((D k).flatMap bO++ [.string x,.int .i64 m]))
  (hg:∀g,g<w2.heap.size→g≠b→u.ownBlock≠some g→w5.heap[g]?=w2.heap[g]?) (hs:w2.heap.size≤w5.heap.size) (hv:v5.ownBlock=u.ownBlock∨∃g,v5.ownBlock=Option.some g∧w2.heap.size≤g)
  (hm:aQ aO w6 b (putM k v5 M)) (h6:∀g,g<w5.heap.size→g≠b→w6.heap[g]?=w5.heap[g]?):
  GrI base w6 b v L (putM k v5 M) (fun k'=>if k'=k then D k++ [(x,m)] else D k'):=by
 have a3:SepJ v u:=by
  cases hk:aL k M with
  |none=>rw [hk] at hu;simp at hu;subst hu;exact SepJ.nil v
  |some u'=>rw [hk] at hu;simp at hu;subst hu;exact(h.val k u' hk).2
 have a1:∀k' u',k'≠k→aL k' M=some u'→SepJ u' u:=fun k' u' a4 a0=>by
  cases hk:aL k M with
  |none=>rw [hk] at hu;simp at hu;subst hu;exact SepJ.nil u'
  |some u2=>rw [hk] at hu;simp at hu;subst hu;exact h.sep _ _ _ _ a4 a0 hk
 have kp:∀{L':List Ind} {x':Value},aF base w2 x' L'→SepJ x' u→aF base w6 x' L':=fun {L' x'} ho a6=>gS ho fun g a5=>by
  obtain⟨q1,q2⟩:=cF ho g a5;have a4:g≠b:=by omega
  rw [h6 g (aR q2 hs) a4,hg g q2 a4 (fun e=>a6 g e a5)]
 have ks:∀{L':List Ind} {x':Value},aF base w2 x' L'→SepJ x' u→SepJ x' v5:=fun {L' x'} ho a6 g h1 h2=>by
  obtain⟨q1,q2⟩:=cF ho g h2;rcases hv with e|⟨g',e,hge⟩
  ·rw [e] at h1;exact a6 g h1 h2
  ·rw [e] at h1;injection h1 with h1;omega
 refine⟨kp h.row a3,hm,fun k' u' a0=>?_,fun k' a0=>?_,fun k1 k2 u1 u2 a4 h1 h2=>?_⟩
 ·by_cases e:k'=k
  ·subst e;rw [oJ] at a0;injection a0 with a0;subst a0
   refine⟨?_,ks h.row a3⟩;simp only [if_true];have:aF base w5 v5 (D k'++ [(x,m)]):=by
    unfold aF;rw [aI,tL];simpa [bO] using h5
   exact gS this fun g a5=>by
    obtain⟨q1,q2⟩:=cF this g a5;exact h6 g q2 (by omega)
  ·rw [nC e] at a0;simp only [if_neg e];obtain⟨o1,o2⟩:=h.val _ _ a0;exact⟨kp o1 (a1 _ _ e a0),o2⟩
 ·by_cases e:k'=k
  ·subst e;rw [oJ] at a0;cases a0
  ·rw [nC e] at a0;simp only [if_neg e];exact h.non _ a0
 ·by_cases e1:k1=k
  ·by_cases e2:k2=k
   ·exact absurd (e1.trans e2.symm) a4
   ·subst e1;rw [oJ] at h1;injection h1 with h1;subst h1
    rw [nC e2] at h2;exact(ks (h.val _ _ h2).1 (a1 _ _ e2 h2)).symm
  ·rw [nC e1] at h1
   by_cases e2:k2=k
   ·subst e2;rw [oJ] at h2;injection h2 with h2;subst h2
    exact ks (h.val _ _ h1).1 (a1 _ _ e1 h1)
   ·rw [nC e2] at h2;exact h.sep _ _ _ _ a4 h1 h2
end Go.Proofs.YtbdpdeonapmlgaaGreatDoor
namespace Go.Proofs
open Go.Shelf
def Tryz.lays106_ren:Go.Shelf.Ren:=⟨fun|106=>228|213=>268|265=>320|n=>n,fun|9=>9|3=>3|n=>n,fun|n=>n⟩
def Tryz.lays106:Go.Proofs.Lays.n106 Tryz.prog Tryz.lays106_ren:={
 mixed:=by kernel_rfl
 f106:=Tryz.func228.trans (eT some (by kernel_rfl))
 f213:=Tryz.func268.trans (eT some (by kernel_rfl))
 f265:=Tryz.func320.trans (eT some (by kernel_rfl))
 t3:=Tryz.underlying3
 a3:=Tryz.isAgg3
 z3:=Tryz.sizeOf3
 v3:=Tryz.zeroValue3
 t9:=Tryz.underlying9
 a9:=Tryz.isAgg9
 z9:=Tryz.sizeOf9
 v9:=Tryz.zeroValue9 }
open Go.RowKit in
def Tryz.strings_Compare (a b:ByteArray) (w:Wo):
  Calls Tryz.prog 228 #[.string a,.string b] w fun e w'=>e= .returned (.int .i64 (Lib.compareBytes a.data.toList b.data.toList))∧w'=w:=Any.strings_Compare Tryz.lays106 a b w
end Go.Proofs
namespace Go.Proofs.YtbdpdeonapmlgaaGreatDoor
open Go.RowKit Go.Sort
def nQ (x y:Int):Int:=if x<y then-1 else if y<x then 1 else 0
def Bp (x:Int) (w:Wo):Cz 230 #[.int .i64 x] w fun e w'=>e= .returned (.bool false)∧w'=w:=by
 go_enter Tryz.func230,Tryz.ntmps230;go_wp2
 all_goals go_ret
 all_goals exact⟨by simp,rfl⟩
def Hc (x y:Int) (w:Wo):Cz 174 #[.int .i64 x,.int .i64 y] w fun e w'=>e= .returned (.int .i64 (nQ x y))∧w'=w:=by
 go_enter Tryz.func174,Tryz.ntmps174
 go_wp2_with (go_at_call 230;refine(Bp _ _).mono ?_;rintro e w' ⟨rfl,rfl⟩)
 all_goals go_ret
 all_goals refine⟨?_,rfl⟩
 all_goals unfold nQ
 all_goals(repeat' split)
 all_goals first|rfl|omega|skip
def orZ:List Int→Int
 | []=>0
 |z::r=>if z=0 then orZ r else z
def EL:∀(zs:List Int) (k:Nat),(∀j,j<k→zs[j]?.getD 0=0)→orZ zs=orZ (zs.drop k)
 |zs,0,_=>by simp
 | [],k+1,_=>by simp
 |z::r,k+1,h=>by
  have h0:z=0:=by simpa using h 0 (by omega)
  simp only [orZ,h0,if_true,aZ];exact EL r k (fun j hj=>by have:=h (j+1) (by omega);simpa using this)
def orZ_at (zs:List Int) (k:Nat) (hk:k<zs.length) (h:∀j,j<k→zs[j]?.getD 0=0) (hz:zs[k]?.getD 0≠0):orZ zs=zs[k]?.getD 0:=by
 rw [EL zs k h,iK hk];have e:zs[k]?.getD 0=zs[k]:=by simp [hk]
 rw [e] at hz ⊢;simp [orZ,hz]
def Ag (zs:List Int) (h:∀j,j<zs.length→zs[j]?.getD 0=0):orZ zs=0:=by
 rw [EL zs zs.length h];simp [orZ]
def Af (b cap:Nat) (zs:List Int) (w:Wo) (a0:zs.length≤1000) (hc:∀j,j<zs.length→w.cell? ⟨b,j,none⟩=some (.int .i64 (zs[j]?.getD 0))):
  Cz 173 #[.slice (some ⟨b,0,none⟩) zs.length cap] w fun e w'=>e= .returned (.int .i64 (orZ zs))∧w'=w:=by
 generalize hL:zs.length=len at hc a0 ⊢;go_enter Tryz.func173,Tryz.ntmps173;go_wp2
 go_loopw [8] (fun i wr=>∃k:Nat,k≤len∧i= .int .i64 k∧wr=w∧∀j,j<k→zs[j]?.getD 0=0) (fun i _=>len-(intOf i).toNat)
 case atStart=>exact⟨0,bX _,rfl,rfl,fun j hj=>absurd hj (by omega)⟩
 case round=>
  obtain⟨k,hk,rfl,rfl,hz⟩:=hrel
  by_cases a4:k<len
  ·have a3:=hc k a4;generalize a2:zs[k]?.getD 0=z at a3;clear hc;go_wp2
   ·have a5:z≠0:=by simpa using (by assumption:(z !=0)=true)
    have a1:=orZ_at zs k (by omega) hz (by rw [a2];exact a5);refine fQ (results_tmp rfl _ _ _) rfl ?_;exact⟨by rw [a1,a2];rfl,rfl⟩
   ·have h0:z=0:=by simpa using (by assumption:(z !=0)=false)
    go_roundw
    case rel=>exact⟨k+1,by omega,by simp,by trivial,fun j hj=>by
     rcases VG.1 hj with h|h
     ·exact hz j h
     ·rw [h,a2,h0]⟩
    case measure=>simp [intOf];omega
  ·obtain rfl:k=len:=by omega
   have a1:=Ag zs (by rw [hL];exact hz);go_wp2
   go_ret
   exact⟨by rw [a1];rfl,rfl⟩
def Ah (b cap:Nat) (x y:Int) (w:Wo) (h0:w.cell? ⟨b,0,none⟩=some (.int .i64 x)) (h1:w.cell? ⟨b,1,none⟩=some (.int .i64 y)):
  Cz 173 #[.slice (some ⟨b,0,none⟩) 2 cap] w fun e w'=>e= .returned (.int .i64 (orZ [x,y]))∧w'=w:=
 Af b cap [x,y] w (by simp) fun j hj=>by
  match j,hj with
  |0,_=>exact h0
  |1,_=>exact h1
  |n+2,hj=>exact absurd hj (by simp)
def Gy {x y:Int} (h:x<y):nQ x y= -1:=by simp [nQ,h]
def Gz {x y:Int} (h:y<x):nQ x y=1:=by
 have:¬x<y:=by omega
 simp [nQ,h,this]
def Ha {x y:Int} (h:x=y):nQ x y=0:=by subst h;simp [nQ]
def pH (a b:ByteArray × Int):Int:=orZ [Lib.compareBytes a.1.data.toList b.1.data.toList,nQ a.2 b.2]
def Hd (x y:ByteArray) (m n:Int) (w:Wo):
  Cz 188 #[.agg #[.string x,.int .i64 m],.agg #[.string y,.int .i64 n]] w fun e w'=>e= .returned (.int .i64 (pH (x,m) (y,n)))∧∃q a6,w'=grow (w.drewN q) a6:=by
 go_enter Tryz.func188,Tryz.ntmps188;go_wp2;refine iV 10 (by kernel_rfl) (by kernel_rfl) ?_;simp only [bL,bY,aZ,bG,iX]
 repeat (first|still_step|still_call (Tryz.strings_Compare _ _ _)|still_call (Hc _ _ _))
 refine iW ?_;show wpList _ _ _ _ _ _
 go_wp2_with (go_at_call 173;refine(Ah _ _ (Lib.compareBytes x.data.toList y.data.toList) (nQ m n) _ (by go_simp) (by go_simp)).mono ?_;rintro e w' ⟨rfl,rfl⟩)
 go_ret
 exact⟨rfl,1,_,by rw [alloc_eq_grow,alloc_eq_grow,alloc_eq_grow,grow_grow,grow_grow];rfl⟩
def DO (a c:UInt8):a<c∨a=c∨c<a:=by
 rcases Nat.lt_trichotomy a.toNat c.toNat with h|h|h
 ·exact .inl h
 ·exact .inr (.inl (CX.1 h))
 ·exact .inr (.inr h)
def bLt:List UInt8→List UInt8→Prop
 | [],[]=>False
 | [],_::_=>True
 |_::_,[]=>False
 |a::A,c::C=>a<c∨a=c∧bLt A C
def SG:∀{A C:List UInt8},Lib.compareBytes A C<0↔bLt A C
 | [],[]=>by simp [Lib.compareBytes,bLt]
 | [],c::C=>by simp [Lib.compareBytes,bLt]
 |a::A,[]=>by simp [Lib.compareBytes,bLt]
 | a::A,c::C=>by
  have ih:=SG (A:=A) (C:=C);unfold Lib.compareBytes bLt;rcases DO a c with h|h|h
  ·simp [h]
  ·subst h;simp [rC,ih]
  ·have h1:¬a<c:=fun h2=>rC _ (UY h h2)
   have h2:a≠c:=fun e=>by subst e;exact rC _ h
   simp [h,h1,h2]
def CF:∀{A C:List UInt8},Lib.compareBytes A C=0↔A=C
 | [],[]=>by simp [Lib.compareBytes]
 | [],c::C=>by simp [Lib.compareBytes]
 |a::A,[]=>by simp [Lib.compareBytes]
 | a::A,c::C=>by
  have ih:=CF (A:=A) (C:=C);unfold Lib.compareBytes;rcases DO a c with h|h|h
  ·have h2:a≠c:=fun e=>by subst e;exact rC _ h
   simp [h,h2]
  ·subst h;simp [rC,ih]
  ·have h1:¬a<c:=fun h2=>rC _ (UY h h2)
   have h2:a≠c:=fun e=>by subst e;exact rC _ h
   simp [h,h1,h2]
def xZ:∀A:List UInt8,¬bLt A A
 | []=>by simp [bLt]
 |a::A=>by simp [bLt,rC,xZ A]
def UG:∀{A B C:List UInt8},bLt A B→bLt B C→bLt A C
 | [],[],_,h,_=>by simp [bLt] at h
 | [],b::B,[],_,h=>by simp [bLt] at h
 | [],b::B,c::C,_,_=>by simp [bLt]
 |a::A,[],_,h,_=>by simp [bLt] at h
 |a::A,b::B,[],_,h=>by simp [bLt] at h
 | a::A,b::B,c::C,h1,h2=>by
  simp only [bLt] at*;rcases h1 with h1|⟨rfl,h1⟩
  ·rcases h2 with h2|⟨rfl,h2⟩
   ·exact .inl (UY h1 h2)
   ·exact .inl h1
  ·rcases h2 with h2|⟨rfl,h2⟩
   ·exact .inl h2
   ·exact .inr ⟨rfl,UG h1 h2⟩
def UF:∀(A C:List UInt8),bLt A C∨A=C∨bLt C A
 | [],[]=>by simp
 | [],c::C=>by simp [bLt]
 |a::A,[]=>by simp [bLt]
 | a::A,c::C=>by
  simp only [bLt];rcases DO a c with h|h|h
  ·exact .inl (.inl h)
  ·subst h;rcases UF A C with h|h|h
   ·exact .inl (.inr ⟨rfl,h⟩)
   ·exact .inr (.inl (by rw [h]))
   ·exact .inr (.inr (.inr ⟨rfl,h⟩))
  ·exact .inr (.inr (.inl h))
def jP (a b:ByteArray × Int):Prop:=bLt a.1.data.toList b.1.data.toList∨a.1=b.1∧a.2<b.2
def UE {a b:ByteArray} (h:a.data.toList=b.data.toList):a=b:=by
 cases a;cases b;congr 1;exact kY.1 h
def He {a b:ByteArray × Int}:pH a b<0↔jP a b:=by
 unfold pH jP
 by_cases h:Lib.compareBytes a.1.data.toList b.1.data.toList=0
 ·have e:=CF.1 h;have e2:=UE e;have:¬bLt a.1.data.toList b.1.data.toList:=by rw [e];exact xZ _
  have hz:Lib.compareBytes b.1.data.toList b.1.data.toList=0:=CF.2 rfl;simp only [orZ,if_true,this,false_or,e2,yG,hz];rcases Int.lt_trichotomy a.2 b.2 with h3|h3|h3
  ·rw [Gy h3];simp [h3]
  ·rw [Ha h3];simp [h3,xZ]
  ·rw [Gz h3];simp [xZ];omega
 ·have e:a.1≠b.1:=fun e=>h (by rw [e];exact CF.2 rfl)
  simp only [orZ,h,gX,e,false_and,or_false];exact SG
def Dt (a:ByteArray × Int):¬jP a a:=by
 unfold jP;rintro(h|h)
 ·exact xZ _ h
 ·omega
def QB {a b c:ByteArray × Int} (h1:jP a b) (h2:jP b c):jP a c:=by
 unfold jP at*;rcases h1 with h1|⟨e1,h1⟩
 ·rcases h2 with h2|⟨e2,h2⟩
  ·exact .inl (UG h1 h2)
  ·rw [←e2];exact .inl h1
 ·rcases h2 with h2|⟨e2,h2⟩
  ·rw [e1];exact .inl h2
  ·exact .inr ⟨e1.trans e2,by omega⟩
def Ds (a b:ByteArray × Int):jP a b∨a=b∨jP b a:=by
 unfold jP;rcases UF a.1.data.toList b.1.data.toList with h|h|h
 ·exact .inl (.inl h)
 ·have e:=UE h;rcases Int.lt_trichotomy a.2 b.2 with h3|h3|h3
  ·exact .inl (.inr ⟨e,h3⟩)
  ·exact .inr (.inl (Prod.ext e h3))
  ·exact .inr (.inr (.inr ⟨e.symm,h3⟩))
 ·exact .inr (.inr (.inl h))
end Go.Proofs.YtbdpdeonapmlgaaGreatDoor
namespace Go.Proofs.YtbdpdeonapmlgaaGreatDoor
open Go.RowKit Go.Big Go.RowsK Go.MapK
variable {L:List Ind} {i base:Nat} {w:Wo} {x y:Ind}
attribute [local go_sem] Heavy.uponW
def pG (a0:List Ind) (x:Ind):List Ind:=if a0.getLast?=some x then a0 else a0++ [x]
def cpt (L:List Ind):List Ind:=L.foldl pG []
def Gm (L:List Ind) (x:Ind):cpt (L++ [x])=pG (cpt L) x:=by
 unfold cpt;rw [List.foldl_append];rfl
def RX (h:L[i]?=some x):cpt (L.take (i+1))=pG (cpt (L.take i)) x:=by
 rw [lT,h];exact Gm _ _
def Gn (h:L[i]?=some y):(cpt (L.take (i+1))).getLast?=some y:=by
 rw [RX h];unfold pG;split
 ·assumption
 ·simp
def CE (h:L[i]?=some y) (h1:L[i+1]?=some x):cpt (L.take (i+1+1))=if x=y then cpt (L.take (i+1)) else cpt (L.take (i+1))++ [x]:=by
 rw [RX h1];unfold pG;rw [Gn h]
 by_cases e:x=y
 ·subst e;simp
 ·have:¬y=x:=fun q=>e q.symm
  simp [e,this]
def RY (h:L.length<2):cpt L=L:=by
 match L,h with
 | [],_=>rfl
 | [a],_=>rfl
 |a::b::r,h=>simp at h;omega
def cpt_le (L:List Ind):(cpt L).length≤L.length:=by
 unfold cpt;have:∀(L a0:List Ind),(L.foldl pG a0).length≤a0.length+L.length:=by
  intro L
  induction L with
  |nil=>intro a0;simp
  |cons a r ih=>
   intro a0;have:=ih (pG a0 a);have h2:(pG a0 a).length≤a0.length+1:=by unfold pG;split<;>simp
   simp only [JK,eW];omega
 simpa using this L []
def sI {a b c:Wo} {row:Option Nat} (h:a.grownBy b row) (k:b.grownBy c row):a.grownBy c row:=
 ⟨k.os.trans h.os,k.tape.trans h.tape,k.output.trans h.output,aD h.size k.size,fun j hj a2=>(k.block j (aR hj h.size) a2).trans (h.block j hj a2)⟩
def GC (a:Wo) (row:Option Nat):a.grownBy a.drew row:=⟨rfl,rfl,rfl,aA _,fun _ _ _=>rfl⟩
def BO (a:Wo) (row:Option Nat):a.grownBy a row:=⟨rfl,rfl,rfl,aA _,fun _ _ _=>rfl⟩
def aF.drew {v:Value} (h:aF base w v L):aF base w.drew v L:=h.below (dO w.heap.size w) (aA _)
def flat_take:∀(L:List Ind) (k:Nat),(L.take k).flatMap bO=(L.flatMap bO).take (k*2)
 | [],k=>by simp
 |a::r,0=>by simp
 |a::r,k+1=>by
  simp only [bL,pR,flat_take r k,bO];rw [show(k+1)*2=k*2+1+1 by omega];simp
def aF.clear {g n cap:Nat} (h:aF base w (.slice (Option.some ⟨g,0,none⟩) n cap) L) (hn:L.length=n) {k:Nat} (hk:k<n) (ty:TypeId) (a1:Nat):
  ∃w1,(Builtin.clear_ #[127] ty #[.slice (Option.some ⟨g,k*2,none⟩) (n-k) a1]).run Tryz.prog w= .ok (.tuple #[]) w1∧aF base w1 (.slice (Option.some ⟨g,0,none⟩) k cap) (L.take k)∧w.grownBy w1 (Option.some g)∧w1.heap.size=w.heap.size:=by
 unfold aF at h;rw [hn] at h;obtain⟨a6,⟨e,_⟩|⟨g',a1,cur,e,hb,hg,hnc,hm,hs,ht⟩⟩:=h
 ·cases e
 cases e;have a9:cur.toList.length=cap*2:=by rw [cU];exact hs
 obtain⟨Z,hZ⟩:=enm ((Builtin.zeroCells rL.cells (n-k)).toList);have a8:Z.length=(n-k)*2:=by rw [←hZ];simp [Builtin.zeroCells,rL,Value.cells]
 have a7:∀v∈Z,v.oneCell'=true:=by
  intro v hv;rw [←hZ] at hv;simp only [Builtin.zeroCells,rL,Value.cells,Array.toList_map,cL] at hv;obtain⟨j,_,rfl⟩:=hv;have:j%2=0∨j%2=1:=by omega
  show(#[Value.string { data:=#[] },Value.int IntKind.i64 0][j%2]!).oneCell'=true;rcases this with e|e<;>rw [e]<;>rfl
 have a3:=yH (P:=Tryz.prog) g (k*2) 63 Z 0 cur w hg (by rw [a8];omega) a7;refine⟨w.setRow g (cur.toList.take (k*2+0)++Z++cur.toList.drop (k*2+0+Z.length)).toArray,?_,?_,⟨rfl,rfl,rfl,by simp [World.setRow],fun j hj a2=>vG _ _ _ _ fun(e:j=g)=>a2 (by rw [e])⟩,by simp [World.setRow]⟩
 ·obtain⟨m,hm⟩:∃m,n-k=m+1:=⟨n-k-1,by omega⟩;have hv:∀w,(zeroValue 63).run Tryz.prog w= .ok rL w:=fun w=>Tryz.zeroValue63 w
  rw [hm] at hZ ⊢;unfold Builtin.clear_;simp [dQ Tryz.underlying127,hv,hZ];simp at a3;simp [a3]
 ·have a5:(cur.toList.take (k*2+0)++Z++cur.toList.drop (k*2+0+Z.length)).length=cap*2:=by simp;omega
  unfold aF;have a4:(L.take k).length=k:=by rw [aX,hn];omega
  rw [a4];refine⟨by rw [flat_len,a4],.inr ⟨g,cap,_,rfl,hb,tF _ _ _ _ _ _ hg,by omega,hm,by rw [tH];exact a5,?_⟩⟩;rw [fJ,IZ (by simp;omega),fG,yP,Nat.min_self];have:=flat_take L k;rw [this,←ht,yP,oE (by omega)]
