/- Lemmas; no condition. -/
import Derived.Test.YtbdpdeonapmlgaaGreatDoorAn
set_option linter.all false
set_option maxHeartbeats 8000000
set_option maxRecDepth 100000
namespace Go.Proofs.YtbdpdeonapmlgaaGreatDoor
open Go.ChangeShapes Go.WideShapes Go.Deep Go.RowKit Go.Joins
variable {p:List MemPlace} {cs:Lv} {v:Value} {fuel base n' K:Nat} {H X:Type} {W:Wo}
def Hu:Tryz.prog.cellsOf 63=2:=by kernel_rfl
def Ht:Tryz.prog.cellsOf 64=1:=by kernel_rfl
def SS:Tryz.prog.cellsOf 66=3:=by kernel_rfl
def list2 {α:Type} {l:List α} (h:l.length=2):∃a b,l= [a,b]:=by
 match l,h with
 | [a,b],_=>exact⟨a,b,rfl⟩
section
variable {H:Type} {a1:TypeId × Value→H} {W:Wo}
def DY {t e:TypeId} {x:DataW H × List MemPlace} {R:X→Lv→Prop} (ht:Tryz.prog.underlying t=some (.slice e)) (hk:Tryz.prog.cellsOf e=K) (h0:0<K)
  (h:DataW.trod a1 Tryz.prog W 0 (fun _=>true) true fuel t cs=some x)
  (op:∀(n:Nat) (a2:Lv) (y:DataW H × List MemPlace),DataW.trod a1 Tryz.prog W 0 (fun _=>true) true n e a2=some y→Rows.uptoBulk y.1≤Rows.uptoBulk x.1→∃T,R T a2):
  ∃(a:Option Addr) (cap:Nat) (L:List X),cs= [.slice a L.length cap]∧L.length≤cap∧L.length≤Rows.uptoBulk x.1∧∀(k:Nat) T,L[k]?=some T→∃g off vs,a=some ⟨g,off,none⟩∧g<W.heap.size∧CellsAt W g (off+k*K) vs∧R T vs:=by
 rcases open_slice ht h with⟨rfl,rfl⟩|⟨a,len,cap,m,n,D,Pl,rfl,_,hl,_,hm,rfl,hi⟩
 ·exact⟨none,0,[],rfl,by simp,by simp,fun k T h=>by simp at h⟩
 have a5:len≤Rows.uptoBulkAll ((List.range len).map D):=by
  have h1:=HI ((List.range len).map D);rw [jE,VW] at h1;omega
 have a9:len≤m:=by rw [hm];simpa using hl
 obtain⟨L,hL1,hL2⟩:=AV (P:=fun i (T:X)=>∃vs,W.cells? 0 (a.add (i*K)) K=some vs∧R T vs) len fun i a8=>by
  obtain⟨a2,hc,ht⟩:=hi i (by omega);rw [hk] at hc;have hd:=mM (d:=D i) (l:=(List.range len).map D) (cL.2 ⟨i,JE.2 a8,rfl⟩);obtain⟨T,hT⟩:=op n a2 (D i,Pl i) ht (by simp only [Rows.uptoBulk];omega);exact⟨T,a2,hc,hT⟩
 refine⟨some a,cap,L,by rw [hL1],by rw [hL1];exact hl,by rw [hL1];simp only [Rows.uptoBulk];omega,fun k T hT=>?_⟩;obtain⟨T0,hT0⟩:∃T0,L[0]?=some T0:=by
  cases L with
  |nil=>cases hT
  |cons x L=>exact⟨x,rfl⟩
 obtain⟨b0,hc0,hv0⟩:=hL2 0 T0 hT0;obtain⟨_,hlen0,hat0⟩:=CW hc0;have a3:=hat0 0 h0;rw [pM,WJ,bM (by omega)] at a3;have a6:a.add (0+0)=a:=by simp [Addr.add]
 rw [a6] at a3;obtain⟨ab,ao,rfl⟩:=II a3;obtain⟨vs,hc,hv⟩:=hL2 k T hT;refine⟨ab,ao,vs,rfl,oD a3,fun j u hj=>?_,hv⟩;obtain⟨_,a5,hat⟩:=CW hc;have:=hat j (by have:=(aM.1 hj).1;omega)
 rwa [yF,yF,hj] at this
def Di {x:DataW H × List MemPlace} (h:DataW.trod a1 Tryz.prog W 0 (fun _=>true) true fuel 64 cs=some x):
  ∃(a:Option Addr) (cap:Nat) (L:List Int),cs= [.slice a L.length cap]∧L.length≤Rows.uptoBulk x.1∧IntsAt W.heap.size W a L:=by
 obtain⟨a,cap,L,e,_,hb,hL⟩:=DY (R:=fun(z:Int) cs=>cs= [.int .i64 z]) Tryz.underlying64 cel3 (by decide) h fun n a2 y hy _=>by
  obtain⟨z,e,_⟩:=yW Tryz.underlying3 hy;exact⟨z,e⟩
 refine⟨a,cap,L,e,hb,fun j z hj=>?_⟩;obtain⟨g,off,vs,ea,hg,hc,rfl⟩:=hL j z hj;exact⟨g,off,ea,hg,by have:=hc 0 _ rfl;simpa using this⟩
def Bv {x:DataW H × List MemPlace} (h:DataW.trod a1 Tryz.prog W 0 (fun _=>true) true fuel 66 cs=some x) (hb:Rows.uptoBulk x.1≤1048576):∃M,MdV W.heap.size W M cs:=by
 obtain⟨xs,n,_,rfl,hl,hx,hf⟩:=DI Tryz.underlying66 h;rw [SS] at hl;obtain⟨c0,c1,c2,rfl⟩:=AW hl;obtain⟨y0,y1,rfl⟩:=list2 (hx.trans rfl);have h0:DataW.trod a1 Tryz.prog W 0 (fun _=>true) true n 63 (([c0,c1,c2].drop 0).take (Tryz.prog.cellsOf 63))=some y0:=hf 0 _ rfl;rw [Hu] at h0;have h1:DataW.trod a1 Tryz.prog W 0 (fun _=>true) true n 64 (([c0,c1,c2].drop 2).take (Tryz.prog.cellsOf 64))=some y1:=hf 1 _ rfl;rw [Ht] at h1;obtain⟨b1,n2,_,e2,hl2,hx2,hf2⟩:=DI Tryz.underlying63 h0;obtain⟨z0,z1,rfl⟩:=list2 (hx2.trans rfl);have g0:DataW.trod a1 Tryz.prog W 0 (fun _=>true) true n2 9 (([c0,c1].drop 0).take (Tryz.prog.cellsOf 9))=some z0:=hf2 0 _ rfl;rw [SR] at g0;have g1:DataW.trod a1 Tryz.prog W 0 (fun _=>true) true n2 3 (([c0,c1].drop 1).take (Tryz.prog.cellsOf 3))=some z1:=hf2 1 _ rfl;rw [cel3] at g1;obtain⟨nm,e3,_⟩:=DataW.trod_string Tryz.underlying9 g0;obtain⟨ar,e4,_⟩:=yW Tryz.underlying3 g1;obtain⟨a,cap,L,e5,b5,hI⟩:=Di h1;simp only [bG,aZ,bL,bY,iZ,rB] at e3 e4 e5;subst e3 e4 e5;have m1:=mM (d:=y1.1) (l:=[y0.1,y1.1]) (by simp);simp only [fS,tK,Rows.uptoBulk] at hb;exact⟨⟨nm,ar,L⟩,a,cap,rfl,hI,by show L.length≤_;omega⟩
def Hn {x:DataW H × List MemPlace} (hf:DataW.trod a1 Tryz.prog W 0 (fun _=>true) true n' 50 cs=some x) (hb:Rows.uptoBulk x.1≤1048576):∃C,ClV W.heap.size W C cs:=by
 obtain⟨xs,n,_,he,hl,hx,hf⟩:=DI Tryz.underlying50 hf;have a7:x.1= .agg (xs.map (·.1)):=eT Prod.fst he;rw [ST] at hl;obtain⟨y0,y1,y2,rfl⟩:=AW (hx.trans rfl);have h0:DataW.trod a1 Tryz.prog W 0 (fun _=>true) true n 48 ((cs.drop 0).take (Tryz.prog.cellsOf 48))=some y0:=hf 0 _ rfl;rw [CG] at h0;have h1:DataW.trod a1 Tryz.prog W 0 (fun _=>true) true n 48 ((cs.drop 7).take (Tryz.prog.cellsOf 48))=some y1:=hf 1 _ rfl;rw [CG] at h1;have h2:DataW.trod a1 Tryz.prog W 0 (fun _=>true) true n 3 ((cs.drop 14).take (Tryz.prog.cellsOf 3))=some y2:=hf 2 _ rfl;rw [cel3] at h2;have m0:=mM (d:=y0.1) (l:=[y0.1,y1.1,y2.1]) (by simp);have m1:=mM (d:=y1.1) (l:=[y0.1,y1.1,y2.1]) (by simp);rw [a7] at hb;simp only [fS,tK,Rows.uptoBulk] at hb;obtain⟨T,hT⟩:=KM 1048576 (aA _) n _ y0 h0 (by omega);obtain⟨U,hU⟩:=KM 1048576 (aA _) n _ y1 h1 (by omega);obtain⟨z,e2,_⟩:=yW Tryz.underlying3 h2;obtain⟨c,e3,e4⟩:=XO hl;rw [e4] at e2;simp only [iZ,rB] at e2;refine⟨⟨T,U,z⟩,_,_,?_,hT,hU⟩;show cs=_++_++ [.int .i64 z];rw [←e2];exact e3
end
def Bt {a1:TypeId × Value→H} {d:DataW H} (hv:Value.okWide Tryz.prog W .any base 23 v) (h:DataW.Trod a1 Tryz.prog W 0 (fun _=>true) true 23 v d p) (hb:Rows.uptoBulk d≤1048576):
  ∃(L:List Md) (a:Option Addr) (c:Nat),v= .slice a L.length c∧L.length≤c∧MdsV W.heap.size W L a:=by
 obtain⟨a0,len,cap,rfl⟩:=okWide_slice Tryz.underlying23 hv;obtain⟨fuel,hf⟩:=h;obtain⟨a,c,L,e,hc,_,hL⟩:=DY (R:=fun(M:Md) cs=>MdV W.heap.size W M cs) Tryz.underlying23 SS (by decide) hf fun n a2 y hy a4=>Bv hy (aD a4 hb)
 simp only [Value.cells,iZ,rB] at e;exact⟨L,a,c,e,hc,hL⟩
def Hm {a1:TypeId × Value→H} {d:DataW H} (hv:Value.okWide Tryz.prog W .any base 22 v) (h:DataW.Trod a1 Tryz.prog W 0 (fun _=>true) true 22 v d p) (hb:Rows.uptoBulk d≤1048576):
  ∃(L:List Cl) (a:Option Addr) (c:Nat),v= .slice a L.length c∧L.length≤c∧ClsV W.heap.size W L a:=by
 obtain⟨a0,len,cap,rfl⟩:=okWide_slice Tryz.underlying22 hv;obtain⟨fuel,hf⟩:=h;obtain⟨a,c,L,e,hlb,_,hL⟩:=DY (R:=fun(C:Cl) cs=>ClV W.heap.size W C cs) Tryz.underlying22 ST (by decide) hf fun n a2 y hy a4=>Hn hy (aD a4 hb)
 simp only [Value.cells,iZ,rB] at e;exact⟨L,a,c,e,hlb,hL⟩
end Go.Proofs.YtbdpdeonapmlgaaGreatDoor
namespace Go.Proofs.YtbdpdeonapmlgaaGreatDoor
open Go.RowKit Go.Big Go.RowsK Go.MapK
noncomputable section
variable {K:List Bool} {L:List Tm} {T A:Tm} {Ms:List Md} {y:Int} {C:Cl}
def PS (h:T.kd=3∨T.kd=5):∃A B,T.args= [A,B]∧∀x,x∈T.free↔x∈A.free∨x∈B.free:=by
 obtain⟨k,v,nm,g,num,den,args⟩:=T;have hn:mE args≠3∧mE args≠5:=by
  cases args with
  |nil=>simp [mE]
  |cons A r=>simp only [mE];split<;>simp
 simp only [Tm.kd] at h
 by_cases c1:(k==3||k==5)=false
 ·rw [if_pos c1] at h;omega
 rw [if_neg c1] at h
 by_cases c2:(k==5&&nm.toList== [92,43]&&((args.length:Int)==1))=true
 ·rw [if_pos c2] at h;exact(h.elim hn.1 hn.2).elim
 rw [if_neg c2] at h
 by_cases c3:biB nm.toList args.length=false
 ·rw [if_pos c3] at h;omega
 rw [if_neg c3] at h
 by_cases c4:((args.length:Int)==2)=true
 ·have:args.length=2:=by have:=IL.1 c4;omega
  obtain⟨A,B,rfl⟩:∃A B,args= [A,B]:=by
   match args,this with
   | [A,B],_=>exact⟨A,B,rfl⟩
  refine⟨A,B,rfl,fun x=>?_⟩;rw [kQ,kQ,kQ];have hk:k≠1:=by rintro rfl;exact c1 rfl
  simp [Tm.occ,Tm.occL,hk]
 ·rw [if_neg c4] at h;omega
def cA (Ms:List Md) (K:List Bool) (T:Tm):Int × List Bool:=
 if T.kd=1 then if fD (lM K T) Ms 0<0 then(1,K) else(0,fU K T.free)
 else if T.kd=2 then if cH K T=false then(2,K) else if Ms.any (fun M=>decide (some M.ind=mN T.args))=true then(0,K) else(1,K)
 else if T.kd=3 then if T.args.any (cH K)=true then(0,fU K T.free) else(0,K)
 else if T.kd=5 then if(T.args.drop 1).all (cH K)=false then(2,K) else(0,fU K T.free)
 else if T.kd=6 then if cH K T=false then(2,K) else(0,K)
 else(0,K)
def ZS {B:Tm} (hI:InK K T) (hA:InK K A) (h:∀x,x∈T.free↔x∈A.free∨x∈B.free) (hB:cH K B=true) (h0:∀x∈B.free,0≤x) (x:Int):KnS (fU K A.free) x↔KnS (fU K T.free) x:=by
 rw [KnS_put hA,KnS_put hI,h];constructor
 ·rintro(e|e)
  ·exact .inl e
  ·exact .inr (.inl e)
 ·rintro(e|e|e)
  ·exact .inl e
  ·exact .inr e
  ·exact .inl ((KnS_getD (h0 x e)).2 (jG.1 hB x e))
section
attribute [local go_sem] Heavy.uponW
def ExP (w:Wo) (mb:Nat) (r:Int × List Bool) (e:Ending) (w':Wo):Prop:=∃m,e= .returned (.tuple #[.int .i64 r.1,.int .i64 m])∧aW w' mb (KnS r.2)∧aS (fun k=>k=mb) w w'
def GI (Ms:List Md) (T:Tm) (K:List Bool) (n mb:Nat) (a:Option Addr) (c:Nat) (w:Wo) (vt:Lv) (hM:MdsV n w Ms a) (e0:MdsOk Ms) (c9:TmV n w T vt)
  (hK:aW w mb (KnS K)) (f1:n≤mb) (h0:T.okV K) (hN:T.nodes≤1000000) (hn:n≤w.heap.size):
  Cz 66 #[.agg vt.toArray,.slice a Ms.length c,.map (some mb)] w (ExP w mb (cA Ms K T)):=by
 have b9:=aside c9;obtain⟨TT,hTT⟩:∃t,T=t:=⟨_,rfl⟩;rw [hTT] at b9 h0 hN ⊢;obtain⟨k,v,nm,g,num,den,args⟩:=T;simp only [TmV] at c9;obtain⟨_,_,a2,c2,rfl,⟨⟨p1,q1,rfl,_⟩,⟨p2,q2,rfl,_⟩⟩,hS,hbig,_⟩:=c9;have b8:Aside (bS n w TT.args a2 0∧args.length=TT.args.length):=by
  show _∧_;rw [←hTT];exact⟨hS,rfl⟩
 clear hTT hbig hS;generalize args.length=l1,num.length=n1,den.length=n2 at*;obtain⟨wb,hwb,b0,hq,hsz⟩:=ebx w (bA k v nm g p1 n1 q1 p2 n2 q2 a2 l1 c2);have fa:Aside (∀w2,Bz wb w2→_):=fun(w2:Wo) (hb:Bz wb w2)=>bZ ((hb.block w.heap.size (by omega)).trans hq)
 have bw:Aside (∀w2,Bz wb w2→Bz w w2):=fun w2 hb=>b0.trans (hb.mono b0.size)
 have b3:Aside (∀w2,Bz wb w2→aW w2 mb (KnS K)):=fun w2 hb=>hK.of_block ((b0.trans (hb.mono b0.size)).block mb hK.lt)
 obtain⟨VT,hVT⟩:∃x:Value,.agg (tA k v nm g p1 n1 q1 p2 n2 q2 a2 l1 c2)=x:=⟨_,rfl⟩;have dk:Aside (∀w2,Bz wb w2→Cz 64 #[.agg (tA k v nm g p1 n1 q1 p2 n2 q2 a2 l1 c2)] w2 fun e w'=>e= .returned (.int .i64 TT.kd)∧Bz w2 w'):=fun w2 hb=>BB TT n w2 _ (TmV.below (bw.o w2 hb) hn _ _ b9.o) (aD hn (bw.o w2 hb).size)
 have dm:Aside (∀w2,Bz wb w2→Cz 134 #[.agg (tA k v nm g p1 n1 q1 p2 n2 q2 a2 l1 c2),.slice a Ms.length c,.map (some mb)] w2 (IntP w2 (fD (lM K TT) Ms 0))):=fun w2 hb=>Bw Ms TT K n mb a c w2 _ (hM.below (bw.o w2 hb) hn) e0 (TmV.below (bw.o w2 hb) hn _ _ b9.o) (b3.o w2 hb) h0 hN (aD hn (bw.o w2 hb).size)
 have da:Aside (∀w2,Bz wb w2→Cz 130 #[.map (some mb),.agg (tA k v nm g p1 n1 q1 p2 n2 q2 a2 l1 c2)] w2 (AddP w2 mb (fU K TT.free))):=fun w2 hb=>EK TT K n mb w2 _ (TmV.below (bw.o w2 hb) hn _ _ b9.o) (aD hn (bw.o w2 hb).size) hN (b3.o w2 hb) h0.1
 have dh:Aside (∀w2,Bz wb w2→Cz 65 #[.map (some mb),.agg (tA k v nm g p1 n1 q1 p2 n2 q2 a2 l1 c2)] w2 (dJ w2 (cH K TT))):=fun w2 hb=>pZ TT K n mb w2 _ (TmV.below (bw.o w2 hb) hn _ _ b9.o) (aD hn (bw.o w2 hb).size) hN (b3.o w2 hb) fun x hx=>(h0.1 x hx).1
 have d4:=aside hsz;have a1:Aside (∀w2 f,Bz wb w2→cA Ms K TT=(f,K)→∀m,ExP w mb (cA Ms K TT) (.returned (.tuple #[.int .i64 f,.int .i64 m])) w2):=fun w2 f hb e m=>⟨m,by rw [e],by rw [e];exact b3.o w2 hb,aS.of_below (bw.o w2 hb)⟩
 have a5:Aside (∀w2 w3 K',Bz wb w2→cA Ms K TT=(0,K')→aW w3 mb (KnS K')→aS (fun k=>k=mb) w2 w3→∀m,ExP w mb (cA Ms K TT) (.returned (.tuple #[.int .i64 0,.int .i64 m])) w3):=fun w2 w3 K' hb e hs hk m=>⟨m,by rw [e],by rw [e];exact hs,(aS.of_below (bw.o w2 hb)).trans hk fun _ _ e=>e⟩
 obtain⟨P,hP⟩:=enm (ExP w mb (cA Ms K TT));have b4:=aside hP;rw [hP];have f2:Aside (mb<w.heap.size):=hK.lt;have e7:Aside (wb.heap[w.heap.size]?=_):=hq;have d8:Aside (Bz wb wb):=bD _ _;obtain⟨x0,x1,x2,x3,x4,x5,x6⟩:=fa.o wb d8.o;have d1:=dk.o wb d8.o;obtain⟨kd,hkd⟩:=enm TT.kd;have a6:=aside hkd;rw [hkd] at d1;obtain⟨lm,hlm⟩:∃l,Ms.length=l:=⟨_,rfl⟩;rw [hlm] at dm ⊢;have e9:=aside hlm;clear hP hVT hq b0 hsz hK hkd hlm dk;go_enter Tryz.func66,Tryz.ntmps66
 go_upto_region 1 with fail
 clear hwb
 by_cases k1:kd=1
 ·subst k1;obtain⟨R,hR⟩:=enm (fD (lM K TT) Ms 0);have RA:=aside hR;rw [hR] at dm;clear hR
  by_cases e6:R<0
  all_goals
   go_wp2_with (first
    |(go_at_call 64;(with_reducible refine d1.mono ?_);rintro e w2 ⟨rfl,hb2⟩;obtain⟨z0,z1,z2,z3,z4,z5,z6⟩:=fa.o w2 hb2)
    |(go_at_call 134;(with_reducible refine(dm.o w2 hb2).mono ?_);rintro e w3 ⟨rfl,a7⟩;have a0:=hb2.trans (a7.mono hb2.size);obtain⟨z0,z1,z2,z3,z4,z5,z6⟩:=fa.o w3 a0)
    |(go_at_call 130;(with_reducible refine(da.o w3 a0).mono ?_);rintro e w4 ⟨rfl,hs4,hk4⟩))
   rw [←b4.o]
  ·exact a1.o _ 1 a0 (by rw [cA,if_pos a6.o,RA.o,if_pos e6]) _
  ·exact a5.o w3 _ _ a0 (by rw [cA,if_pos a6.o,RA.o,if_neg (by omega)]) hs4 hk4 _
 have a8:¬TT.kd=1:=by rw [a6.o];exact k1
 by_cases k2:kd=2
 ·subst k2;obtain⟨H,hH⟩:∃b,cH K TT=b:=⟨_,rfl⟩;have HA:=aside hH;rw [hH] at dh;clear hH;have c1:TT.kd=2:=a6.o;cases H
  ·go_wp2_with (first
    |(go_at_call 64;(with_reducible refine d1.mono ?_);rintro e w2 ⟨rfl,hb2⟩;obtain⟨z0,z1,z2,z3,z4,z5,z6⟩:=fa.o w2 hb2)
    |(go_at_call 65;(with_reducible refine(dh.o w2 hb2).mono ?_);rintro e w3 ⟨rfl,a7⟩))
   rw [←b4.o];exact a1.o _ 2 (hb2.trans (a7.mono hb2.size)) (by rw [cA,if_neg a8,if_pos c1,if_pos HA.o]) _
  ·obtain⟨A,hA⟩:=PR c1;have d9:TT.args[0]?=some A:=by rw [hA];rfl
   obtain⟨b,off,va,rfl,hbn,hc,hv⟩:=b8.o.1.get d9;have d2:l1=1:=by rw [b8.o.2,hA];rfl
   subst d2;have dn:Aside (∀w2,Bz wb w2→Cz 75 #[.slice a lm c,.func (.func 135) #[] #[.pointer (some ⟨w.heap.size,0,none⟩)]] w2 (dJ w2 (Ms.any fun M=>decide (some M.ind=mN TT.args)))):=by
    show∀w2,_;intro w2 hb;have e:(fun M:Md=>decide (some M.ind=mN TT.args))=fun M=>decide (M.ind=A.ind):=by
     funext M;rw [hA];simp [mN]
    rw [e,←e9.o];refine RZ Ms _ 135 _ (enters_of Tryz.func135 (by kernel_rfl) rfl) n a c w2 (hM.below (bw.o w2 hb) hn) (aD hn (bw.o w2 hb).size) (by have:=e0.1;omega) fun j M hj w3 vs a7 e4=>?_
    have hB:=hb.trans (a7.mono hb.size);exact Bk M A n _ b off 1 c2 _ _ _ _ _ _ w3 vs va e4 ((hB.block w.heap.size (by have:=d4.o;omega)).trans e7.o) (by omega) hbn (fun j u hj=>((bw.o w3 hB).cell (p:=⟨b,off+j,none⟩) (by show b<_;omega)).trans (by have:=hc j u hj;simpa using this)) (TmV.below (bw.o w3 hB) hn _ _ hv) (aD hn (bw.o w3 hB).size)
   obtain⟨G,hG⟩:∃b,(Ms.any fun M=>decide (some M.ind=mN TT.args))=b:=⟨_,rfl⟩;have GA:=aside hG;rw [hG] at dn;clear hG hA d9 hc hv;cases G
   all_goals
    go_wp2_with (first
     |(go_at_call 64;(with_reducible refine d1.mono ?_);rintro e w2 ⟨rfl,hb2⟩;obtain⟨z0,z1,z2,z3,z4,z5,z6⟩:=fa.o w2 hb2)
     |(go_at_call 65;(with_reducible refine(dh.o w2 hb2).mono ?_);rintro e w3 ⟨rfl,a7⟩;have a0:=hb2.trans (a7.mono hb2.size))
     |(go_at_call 75;(with_reducible refine(dn.o w3 a0).mono ?_);rintro e w4 ⟨rfl,hb4⟩;have b2:=a0.trans (hb4.mono a0.size)))
    rw [←b4.o]
   ·exact a1.o _ 1 b2 (by rw [cA,if_neg a8,if_pos c1,if_neg (by rw [HA.o];simp),if_neg (by rw [GA.o];simp)]) _
   ·exact a1.o _ 0 b2 (by rw [cA,if_neg a8,if_pos c1,if_neg (by rw [HA.o];simp),if_pos GA.o]) _
 have b1:¬TT.kd=2:=by rw [a6.o];exact k2
 by_cases k6:kd=6
 ·subst k6;obtain⟨H,hH⟩:∃b,cH K TT=b:=⟨_,rfl⟩;have HA:=aside hH;rw [hH] at dh;clear hH;have c5:TT.kd=6:=a6.o;have b6:¬TT.kd=3:=by rw [c5];decide
  have c6:¬TT.kd=5:=by rw [c5];decide
  cases H
  all_goals
   go_wp2_with (first
    |(go_at_call 64;(with_reducible refine d1.mono ?_);rintro e w2 ⟨rfl,hb2⟩;obtain⟨z0,z1,z2,z3,z4,z5,z6⟩:=fa.o w2 hb2)
    |(go_at_call 65;(with_reducible refine(dh.o w2 hb2).mono ?_);rintro e w3 ⟨rfl,a7⟩;have a0:=hb2.trans (a7.mono hb2.size)))
   rw [←b4.o]
  ·exact a1.o _ 2 a0 (by rw [cA,if_neg a8,if_neg b1,if_neg b6,if_neg c6,if_pos c5,if_pos HA.o]) _
  ·exact a1.o _ 0 a0 (by rw [cA,if_neg a8,if_neg b1,if_neg b6,if_neg c6,if_pos c5,if_neg (by rw [HA.o];simp)]) _
 have f0:¬TT.kd=6:=by rw [a6.o];exact k6
 by_cases e8:kd=3∨kd=5
 case neg=>
  have b6:¬TT.kd=3:=by rw [a6.o];omega
  have c6:¬TT.kd=5:=by rw [a6.o];omega
  have k3:¬kd=3:=by omega
  have k5:¬kd=5:=by omega
  have g1:(kd==1)=false:=by simpa using k1
  have g2:(kd==2)=false:=by simpa using k2
  have g3:(kd==3)=false:=by simpa using k3
  have g5:(kd==5)=false:=by simpa using k5
  have g6:(kd==6)=false:=by simpa using k6
  go_wp2_with (go_at_call 64;(with_reducible refine d1.mono ?_);rintro e w2 ⟨rfl,hb2⟩)
  rw [←b4.o];exact a1.o _ 0 hb2 (by rw [cA,if_neg a8,if_neg b1,if_neg b6,if_neg c6,if_neg f0]) _
 have d5:TT.kd=3∨TT.kd=5:=by rw [a6.o];exact e8
 obtain⟨A,B,hAB,hmem⟩:=PS d5;obtain⟨bA,oA,va,rfl,hbA,hcA,hvA⟩:=b8.o.1.get (k:=0) (T:=A) (by rw [hAB];rfl);obtain⟨bB,oB,vb,eB,hbB,hcB,hvB⟩:=b8.o.1.get (k:=1) (T:=B) (by rw [hAB];rfl);injection eB with eB
 injection eB with e1 e2 _
 subst e1 e2;have d2:l1=2:=by rw [b8.o.2,hAB];rfl
 subst d2;have c7:InK K A:=h0.2 A (by rw [hAB];simp);have d7:InK K B:=h0.2 B (by rw [hAB];simp);have a9:A.nodes≤1000000∧B.nodes≤1000000:=by
  have hh:=h0.1;clear d1 da dh dm;obtain⟨kk,vv,nn,gg,nu,de,ar⟩:=TT;have e:ar= [A,B]:=hAB;subst e;simp only [Tm.nodes,Tm.nodesL] at hN;omega
 have b5:=aside hvA;have c0:=aside hvB;have dA:Aside (∀w2,Bz wb w2→Cz 65 #[.map (some mb),.agg va.toArray] w2 (dJ w2 (cH K A))):=fun w2 hb=>pZ A K n mb w2 _ (TmV.below (bw.o w2 hb) hn _ _ b5.o) (aD hn (bw.o w2 hb).size) a9.1 (b3.o w2 hb) fun x hx=>(c7 x hx).1
 have dB:Aside (∀w2,Bz wb w2→Cz 65 #[.map (some mb),.agg vb.toArray] w2 (dJ w2 (cH K B))):=fun w2 hb=>pZ B K n mb w2 _ (TmV.below (bw.o w2 hb) hn _ _ c0.o) (aD hn (bw.o w2 hb).size) a9.2 (b3.o w2 hb) fun x hx=>(d7 x hx).1
 have c8:Aside (∀w2,Bz wb w2→Cz 130 #[.map (some mb),.agg va.toArray] w2 (AddP w2 mb (fU K A.free))):=fun w2 hb=>EK A K n mb w2 _ (TmV.below (bw.o w2 hb) hn _ _ b5.o) (aD hn (bw.o w2 hb).size) a9.1 (b3.o w2 hb) c7
 have d0:Aside (∀w2,Bz wb w2→CellsAt w2 bA oA va∧CellsAt w2 bA (oA+7) vb):=fun w2 hb=>
  ⟨fun j u hj=>((bw.o w2 hb).cell (p:=⟨bA,oA+j,none⟩) (by show bA<_;omega)).trans (by have:=hcA j u hj;simpa using this),fun j u hj=>((bw.o w2 hb).cell (p:=⟨bA,oA+7+j,none⟩) (by show bA<_;omega)).trans (by have:=hcB j u hj;simpa using this)⟩
 have d3:Aside (∀w2,cH K B=true→aW w2 mb (KnS (fU K A.free))→aW w2 mb (KnS (fU K TT.free))):=fun w2 hB hs=>hs.cong (ZS h0.1 c7 hmem hB fun x hx=>(d7 x hx).1)
 obtain⟨HA,hHA⟩:∃b,cH K A=b:=⟨_,rfl⟩;obtain⟨HB,hHB⟩:∃b,cH K B=b:=⟨_,rfl⟩;have HAA:=aside3 hHA hHB hAB;rw [hHA] at dA;rw [hHB] at dB;clear hHA hHB hAB hcA hcB hbB;obtain⟨kA,uA,nA,gA,numA,denA,b7⟩:=A;obtain⟨kB,uB,nB,gB,numB,denB,nX⟩:=B;simp only [TmV] at hvA hvB;obtain⟨_,_,a3,c3,rfl,⟨⟨p3,q3,rfl,_⟩,⟨p4,q4,rfl,_⟩⟩,_⟩:=hvA;obtain⟨_,_,a4,c4,rfl,⟨⟨p5,q5,rfl,_⟩,⟨p6,q6,rfl,_⟩⟩,_⟩:=hvB;have sA:Aside (∀w2,Bz wb w2→_):=fun(w2:Wo) (hb:Bz wb w2)=>kM (w:=w2) (w2:=w2) (fun _ _=>rfl) (d0.o w2 hb).1
 have sB:Aside (∀w2,Bz wb w2→_):=fun(w2:Wo) (hb:Bz wb w2)=>kM (w:=w2) (w2:=w2) (fun _ _=>rfl) (d0.o w2 hb).2
 generalize b7.length=l3,numA.length=m1,denA.length=m2,nX.length=l4,numB.length=m3,denB.length=m4 at*;replace dA:Aside (∀w2,Bz wb w2→Cz 65 #[.map (some mb),.agg (tA kA uA nA gA p3 m1 q3 p4 m2 q4 a3 l3 c3)] w2 (dJ w2 HA)):=dA;replace dB:Aside (∀w2,Bz wb w2→Cz 65 #[.map (some mb),.agg (tA kB uB nB gB p5 m3 q5 p6 m4 q6 a4 l4 c4)] w2 (dJ w2 HB)):=dB;replace c8:Aside (∀w2,Bz wb w2→Cz 130 #[.map (some mb),.agg (tA kA uA nA gA p3 m1 q3 p4 m2 q4 a3 l3 c3)] w2 (AddP w2 mb _)):=c8;clear d0 c7 d7 a9 b5 c0 hmem hN h0
 by_cases k3:kd=3
 ·subst k3;have d6:TT.kd=3:=a6.o;cases HA<;>cases HB
  all_goals
   go_wp2_with (first
    |(go_at_call 64;(with_reducible refine d1.mono ?_);rintro e w2 ⟨rfl,hb2⟩;obtain⟨z0,z1,z2,z3,z4,z5,z6⟩:=fa.o w2 hb2;obtain⟨y0,y1,y2,y3,y4,y5,y6⟩:=sA.o w2 hb2;obtain⟨v0,v1,v2,v3,v4,v5,v6⟩:=sB.o w2 hb2)
    |(go_at_call 65;(with_reducible refine(dA.o w2 hb2).mono ?_);rintro e w3 ⟨rfl,a7⟩;have a0:=hb2.trans (a7.mono hb2.size);obtain⟨z0,z1,z2,z3,z4,z5,z6⟩:=fa.o w3 a0;obtain⟨v0,v1,v2,v3,v4,v5,v6⟩:=sB.o w3 a0)
    |(go_at_call 65;(with_reducible refine(dB.o w3 a0).mono ?_);rintro e w4 ⟨rfl,hb4⟩;have b2:=a0.trans (hb4.mono a0.size);obtain⟨z0,z1,z2,z3,z4,z5,z6⟩:=fa.o w4 b2)
    |(go_at_call 130;(with_reducible refine(da.o w4 b2).mono ?_);rintro e w5 ⟨rfl,hs5,hk5⟩)
    |(go_at_call 130;(with_reducible refine(da.o w3 a0).mono ?_);rintro e w5 ⟨rfl,hs5,hk5⟩))
   rw [←b4.o]
  ·exact a1.o _ 0 b2 (by rw [cA,if_neg a8,if_neg b1,if_pos d6,if_neg (by rw [HAA.o.2.2];simp [HAA.o.1,HAA.o.2.1])]) _
  ·exact a5.o w4 _ _ b2 (by rw [cA,if_neg a8,if_neg b1,if_pos d6,if_pos (by rw [HAA.o.2.2];simp [HAA.o.1,HAA.o.2.1])]) hs5 hk5 _
  all_goals exact a5.o w3 _ _ a0 (by rw [cA,if_neg a8,if_neg b1,if_pos d6,if_pos (by rw [HAA.o.2.2];simp [HAA.o.1])]) hs5 hk5 _
 have b6:¬TT.kd=3:=by rw [a6.o];exact k3
 obtain rfl:kd=5:=by have:=a6.o;omega
 have e3:TT.kd=5:=a6.o;cases HB
 all_goals
  go_wp2_with (first
   |(go_at_call 64;(with_reducible refine d1.mono ?_);rintro e w2 ⟨rfl,hb2⟩;obtain⟨z0,z1,z2,z3,z4,z5,z6⟩:=fa.o w2 hb2;obtain⟨y0,y1,y2,y3,y4,y5,y6⟩:=sA.o w2 hb2;obtain⟨v0,v1,v2,v3,v4,v5,v6⟩:=sB.o w2 hb2)
   |(go_at_call 65;(with_reducible refine(dB.o w2 hb2).mono ?_);rintro e w3 ⟨rfl,a7⟩;have a0:=hb2.trans (a7.mono hb2.size);obtain⟨z0,z1,z2,z3,z4,z5,z6⟩:=fa.o w3 a0;obtain⟨y0,y1,y2,y3,y4,y5,y6⟩:=sA.o w3 a0)
   |(go_at_call 130;(with_reducible refine(c8.o w3 a0).mono ?_);rintro e w5 ⟨rfl,hs5,hk5⟩))
  rw [←b4.o]
 ·exact a1.o _ 2 a0 (by rw [cA,if_neg a8,if_neg b1,if_neg b6,if_pos e3,if_pos (by rw [HAA.o.2.2];simp [HAA.o.2.1])]) _
 ·exact a5.o w3 _ _ a0 (by rw [cA,if_neg a8,if_neg b1,if_neg b6,if_pos e3,if_neg (by rw [HAA.o.2.2];simp [HAA.o.2.1])]) (d3.o _ HAA.o.2.1 hs5) hk5 _
end
section
attribute [local go_sem] Heavy.uponW
def pJ (L:List Tm) (io:List Int) (K:List Bool) (i:Nat):List Bool:=
 match L[i]? with
 |none=>K
 |some T=>if io[i]?=some 1 then fU K T.free else K
def gG (L:List Tm) (io:List Int) (K:List Bool) (n:Nat):List Bool:=(List.range n).foldl (pJ L io) K
def xX (L:List Tm) (io:List Int) (K:List Bool) (n:Nat):gG L io K (n+1)=pJ L io (gG L io K n) n:=by
 unfold gG;rw [yS,List.foldl_append];rfl
def Iu (L:List Tm) (io:List Int) (K:List Bool) (i:Nat):(pJ L io K i).length=K.length:=by
 unfold pJ;split
 ·rfl
 ·split
  ·exact zS _ _
  ·rfl
def HS (L:List Tm) (io:List Int) (K:List Bool) (n:Nat):(gG L io K n).length=K.length:=by
 induction n with
 |zero=>rfl
 |succ n ih=>rw [xX,Iu,ih]
def KnS_new (n:Nat) (x:Int):KnS (List.replicate n false) x↔False:=by
 unfold KnS;simp [List.getElem?_replicate]
def GivP (w:Wo) (K:List Bool) (e:Ending) (w':Wo):Prop:=∃mb,e= .returned (.map (some mb))∧w.heap.size≤mb∧aW w' mb (KnS K)∧Bz w w'
def QL (T:Tm) (io:List Int) (m n:Nat) (a:Option Addr) (c:Nat) (w:Wo) (vt:Lv) (c0:TmV n w T vt) (hI:IntsAt n w a io) (a9:io.length=T.args.length)
  (h0:∀A∈T.args,InK (List.replicate m false) A) (hN:Tm.nodesL T.args≤1000000) (hn:n≤w.heap.size):
  Cz 61 #[.agg vt.toArray,.slice a io.length c] w (GivP w (gG T.args io (List.replicate m false) T.args.length)):=by
 obtain⟨k,v,nm,g,num,den,args⟩:=T;simp only [TmV] at c0;obtain⟨_,_,a2,c2,rfl,⟨⟨p1,q1,rfl,_⟩,⟨p2,q2,rfl,_⟩⟩,hS,hbig,_⟩:=c0;dsimp only [Tm.args] at a9 h0 hN ⊢;obtain⟨K0,hK0⟩:∃K,List.replicate m false=K:=⟨_,rfl⟩;have K0A:Aside (∀x,KnS K0 x↔False):=fun x=>by rw [←hK0];exact KnS_new m x
 rw [hK0] at h0 ⊢;obtain⟨R,hR⟩:=enm (gG args io K0 args.length);have RA:=aside hR;rw [hR];have c6:=aside hI;have c7:=aside hS;have c5:Aside (∀A∈args,InK K0 A∧A.nodes≤1000000):=fun A hA=>⟨h0 A hA,aD (NX hA) hN⟩
 obtain⟨len,hl⟩:∃l,args.length=l:=⟨_,rfl⟩;have Al:Aside (args.length=len∧io.length=len):=⟨hl,a9.trans hl⟩;rw [a9,hl];rw [hl] at hbig;generalize num.length=n1,den.length=n2 at*;have a0:=aC w (bA k v nm g p1 n1 q1 p2 n2 q2 a2 len c2);have a1:=aC (w.alloc (bA k v nm g p1 n1 q1 p2 n2 q2 a2 len c2)) (Obj.map #[] 0);have hq:=(a1.block w.heap.size (by simp)).trans (aJ w (bA k v nm g p1 n1 q1 p2 n2 q2 a2 len c2));have a8:=aW.new (w.alloc (bA k v nm g p1 n1 q1 p2 n2 q2 a2 len c2));rw [cB] at a8;have b0:=a0.trans (a1.mono a0.size);have d2:∀w:Wo,(Instr.makeMap 110 none).run Tryz.prog w= .ok (.map (some w.heap.size)) (w.alloc (.map #[] 0)):=fun w=>rfl
 have b5:((w.alloc (bA k v nm g p1 n1 q1 p2 n2 q2 a2 len c2)).alloc (Obj.map #[] 0)).heap.size=w.heap.size+2:=by simp
 have b4:=bZ hq;obtain⟨wb,hwb⟩:=enm ((w.alloc (bA k v nm g p1 n1 q1 p2 n2 q2 a2 len c2)).alloc (Obj.map #[] 0));rw [hwb] at b0 hq a8 b5 b4;have c9:=aside b0;have c8:Aside (aW wb (w.heap.size+1) (KnS (gG args io K0 0))):=a8.cong fun x=>(K0A.o x).symm
 have b6:=aside b5;have x6:=b4.2.2.2.2.2.2;clear hq b0 hS hI h0 hN hl a9 hR hK0 a8 b5 b4 a0 a1;go_enter Tryz.func61,Tryz.ntmps61
 go_upto_region 2 with fail
 clear hwb d2
 go_upto_region 3 with fail
 go_loopw [12] (fun s wr=>∃i:Nat,s= .int .i64 i∧i≤len∧aW wr (w.heap.size+1) (KnS (gG args io K0 i))∧aS (fun k=>k=w.heap.size+1) wb wr) (fun s _=>len-(intOf s).toNat)
 case atStart=>exact⟨0,rfl,bX _,c8.o,aS.refl _ _⟩
 case round=>
  obtain⟨wo,rfl⟩:=enr wr;obtain⟨i,rfl,hi,hSi,hKi⟩:=hrel;have a3:Bz w wo:=c9.o.trans (hKi.below (by have:=b6.o;omega) fun k hk=>by omega)
  by_cases c1:i<len
  ·obtain⟨A,hA⟩:=egf Al.o.1 c1;obtain⟨x,hx⟩:=egf Al.o.2 c1;obtain⟨b,off,va,rfl,hbn,hc,hv⟩:=c7.o.get hA;rw [bT] at hc;obtain⟨gi,oi,rfl,hgi,hci⟩:=c6.o i x hx;have b8:=aside hv;obtain⟨b1,h02⟩:=c5.o A (aV hA);obtain⟨k',v',nm',g',a6,den',args'⟩:=A;simp only [TmV] at hv;obtain⟨_,_,a',c',rfl,⟨⟨r1,u1,rfl,_⟩,⟨r2,u2,rfl,_⟩⟩,_⟩:=hv;have a4:b<w.heap.size:=by omega
   have a5:gi<w.heap.size:=by omega
   obtain⟨e0,e1,e2,e3,e4,e5,e6⟩:=seven (w:=w) (w2:=wo) (fun p hp=>a3.cell (hp▸a4)) hc;obtain⟨A,hAA⟩:∃t,Tm.mk k' v' nm' g' a6 den' args'=t:=⟨_,rfl⟩;rw [hAA] at hA b8 b1 h02;generalize a6.length=m1',den'.length=m2',args'.length=l' at*;have d0:=aC wo (bA k' v' nm' g' r1 m1' u1 r2 m2' u2 a' l' c');have a7:=a3.trans (d0.mono a3.size);have b2:=hSi.of_block (d0.block _ hSi.lt);have d1:=EK A (gG args io K0 i) n _ (wo.alloc (bA k' v' nm' g' r1 m1' u1 r2 m2' u2 a' l' c')) _ (TmV.below a7 hn _ _ b8.o) (aD hn a7.size) h02 b2 (fun y hy=>by rw [HS];exact b1 y hy);replace d1:Cz 130 #[.map (some (w.heap.size+1)),.agg (tA k' v' nm' g' r1 m1' u1 r2 m2' u2 a' l' c')] _ _:=d1;have ci:=(a7.cell (p:=⟨gi,oi+i,none⟩) a5).trans hci;obtain⟨d4,hi3,hw3⟩:=elt (i:=i) (n:=len) (by omega) (by omega);have c3:Aside (x=1→gG args io K0 (i+1)=fU (gG args io K0 i) A.free):=fun e=>by rw [xX,pJ,hA];simp [hx,e]
   have c4:Aside (x≠1→gG args io K0 (i+1)=gG args io K0 i):=fun e=>by rw [xX,pJ,hA];simp [hx,e]
   have b9:Aside (aS (fun k=>k=w.heap.size+1) wb (wo.alloc (bA k' v' nm' g' r1 m1' u1 r2 m2' u2 a' l' c'))):=hKi.trans (aS.of_below d0) fun _ _ e=>e
   have b3:=aside b2;clear hci hc hA hx hbn a4 hgi a5 d0 a7 hAA b1 h02 a3 b2 hSi hKi
   by_cases b7:x=1
   ·subst b7;have d3:Aside (gG args io K0 (i+1)=fU (gG args io K0 i) A.free):=c3.o rfl;clear c3 c4
    go_wp2_with (go_at_call 130;(with_reducible refine d1.mono ?_);rintro e w6 ⟨rfl,hs6,hk6⟩)
    have hL:aW w6 (w.heap.size+1) (KnS (gG args io K0 (i+1)))∧aS (fun k=>k=w.heap.size+1) wb w6:=⟨by rw [d3.o];exact hs6,b9.o.trans hk6 fun _ _ e=>e⟩;go_roundw
    case rel=>exact⟨i+1,by simp,by omega,hL⟩
    case measure=>simp [intOf];omega
   ·have d5:(x==1)=false:=by simpa using b7
    go_wp2_with (go_at_call 130;(with_reducible refine d1.mono ?_);rintro e w6 ⟨rfl,hs6,hk6⟩)
    go_roundw
    case rel=>exact⟨i+1,by simp,by omega,by rw [c4.o b7];exact b3.o,b9.o⟩
    case measure=>simp [intOf];omega
  ·obtain rfl:i=len:=by omega
   have hL:Aside (GivP w R (.returned (.map (some (w.heap.size+1)))) wo):=⟨_,rfl,by omega,by rw [←RA.o,Al.o.1];exact hSi,a3⟩;clear hSi hKi a3;go_wp2
   go_ret
   exact hL.o
end
def gU (Ms:List Md) (L:List Tm) (K:List Bool) (i:Nat):List Bool:=(L.take i).foldl (fun K T=>(cA Ms K T).2) K
def fL (Ms:List Md):List Tm→Nat→List Bool→(Nat × Int) × List Bool
 | [],i,K=>((i,0),K)
 |T::r,i,K=>if(cA Ms K T).1=0 then fL Ms r (i+1) (cA Ms K T).2 else((i,(cA Ms K T).1),(cA Ms K T).2)
def PE {i:Nat} (h:L[i]?=some T):gU Ms L K (i+1)=(cA Ms (gU Ms L K i) T).2:=by
 unfold gU;rw [lT,h];simp
def OC (Ms:List Md) (K:List Bool) (T:Tm):(cA Ms K T).2.length=K.length:=by
 unfold cA
 repeat' split
 all_goals first|rfl|exact zS _ _
def PF (Ms:List Md) (L:List Tm) (K:List Bool) (i:Nat):(gU Ms L K i).length=K.length:=by
 unfold gU;generalize L.take i=M
 induction M generalizing K with
 |nil=>rfl
 |cons a r ih=>rw [JK,ih,OC]
def LP:∀{i:Nat},i≤L.length→(∀(j:Nat) T,j<i→L[j]?=some T→(cA Ms (gU Ms L K j) T).1=0)→fL Ms L 0 K=fL Ms (L.drop i) i (gU Ms L K i):=by
 intro i
 induction i with
 |zero=>intro _ _;rfl
 |succ i ih=>
  intro hi h;rw [ih (by omega) fun j T hj hT=>h j T (by omega) hT];have hx:=bM (l:=L) (i:=i) (by omega);rw [iK (by omega),fL,if_pos (h i _ (by omega) hx),PE hx]
def iE (Ms:List Md) (C:Cl) (M:Md):Nat × Int:=
 let r:=fL Ms C.b.lits 0 (gG C.h.args M.io (List.replicate C.vars.toNat false) C.h.args.length)
 if r.1.2=0 then(if cH r.2 C.h=true then(0,0) else(C.b.lits.length,3)) else r.1
mutual
theorem FO:∀(T x:Tm) (y:Int),x∈T.lits→x.occ y→T.occ y
 | .mk k v nm g num den args,x,y,h,ho=>by
  simp only [Tm.lits] at h;split at h
  ·cases h
  ·split at h
   ·simp only [Tm.occ];exact .inr (OY args x y h ho)
   ·simp at h;subst h;exact ho
theorem OY:∀(L:List Tm) (x:Tm) (y:Int),x∈Tm.litsL L→x.occ y→Tm.occL L y
 | [],_,_,h,_=>by simp [Tm.litsL] at h
 |T::r,x,y,h,ho=>by
  simp only [Tm.litsL,cG] at h;simp only [Tm.occL];rcases h with h|h
  ·exact .inl (FO T x y h ho)
  ·exact .inr (OY r x y h ho)
end
def EQ (h:A∈L) (ho:A.occ y):Tm.occL L y:=by
 induction L with
 |nil=>cases h
 |cons a r ih=>
  simp only [Tm.occL];rcases cM.1 h with rfl|h
  ·exact .inl ho
  ·exact .inr (ih h)
def ID (h:A∈T.args) (ho:A.occ y):T.occ y:=by
 obtain⟨k,v,nm,g,num,den,args⟩:=T;simp only [Tm.occ];exact .inr (EQ h ho)
def NQ (h:∀y,T.occ y→0≤y∧y.toNat<K.length):T.okV K:=
 ⟨fun y hy=>h y (kQ.1 hy),fun A hA y hy=>h y (ID hA (kQ.1 hy))⟩
def ER (h:C.flt=0) {y:Int} (ho:C.h.occ y∨C.b.occ y):0≤y∧y.toNat<C.vars.toNat:=by
 have hn:C.num:=by have:=(sL h).2.2.1;simpa [Cl.numB] using this
 have hm:y∈C.fr:=by unfold Cl.fr;rw [AK];simpa [Tm.occL] using ho
 obtain⟨j,hj⟩:=JJ hm;have h1:=hn.1 j y hj;have h2:=hn.2;have h3:=(aM.1 hj).1;omega
def SM (h:C.flt=0) {K:List Bool} (hK:K.length=C.vars.toNat):C.h.okV K∧∀T∈C.b.lits,T.okV K:=
 ⟨NQ fun y hy=>by rw [hK];exact ER h (.inl hy),fun T hT=>NQ fun y hy=>by rw [hK];exact ER h (.inr (FO _ _ _ hT hy))⟩
def EU (T:Tm):Tm.nodesL T.args≤T.nodes:=by
 obtain⟨k,v,nm,g,num,den,args⟩:=T;simp only [Tm.nodes,Tm.args];omega
section
attribute [local go_sem] Heavy.uponW
def CfP (w:Wo) (r:Nat × Int) (e:Ending) (w':Wo):Prop:=e= .returned (.tuple #[.int .i64 r.1,.int .i64 r.2])∧Bz w w'
def Hs (C:Cl) (M:Md) (Ms:List Md) (n:Nat) (a:Option Addr) (c:Nat) (w:Wo) (vc vm:Lv) (hC:ClV n w C vc) (hF:C.flt=0) (hM:MdV n w M vm) (g0:(M.io.length:Int)=M.ar) (f4:MdsV n w Ms a) (f5:MdsOk Ms) (c4:C.h.ind=M.ind) (hn:n≤w.heap.size):
  Cz 27 #[.agg vc.toArray,.agg vm.toArray,.slice a Ms.length c] w (CfP w (iE Ms C M)):=by
 have e8:=sL hF;have g3:=lN e8.1;have d8:=lN e8.2.1;obtain⟨K0,hK0⟩:∃K,List.replicate C.vars.toNat false=K:=⟨_,rfl⟩;have f3:K0.length=C.vars.toNat:=by rw [←hK0];simp
 have a6:=fun K (h:K.length=K0.length)=>SM hF (K:=K) (h.trans f3)
 have f7:M.io.length=C.h.args.length:=by
  obtain⟨⟨k,v,nm,g,num,den,args⟩,tb,vars⟩:=C;injection c4 with _ h2
  show _=args.length;omega
 obtain⟨vh,vb,rfl,h1,h2⟩:=hC;obtain⟨am,cm,rfl,hI,hIl⟩:=hM;have c8:=aside h1;have c9:=aside h2;obtain⟨K1,hK1⟩:∃K,gG C.h.args M.io K0 C.h.args.length=K:=⟨_,rfl⟩;have b8:K1.length=K0.length:=by rw [←hK1];exact HS _ _ _ _
 obtain⟨R,hR⟩:=enm (iE Ms C M);have RA:Aside ((let r:=fL Ms C.b.lits 0 K1;if r.1.2=0 then(if cH r.2 C.h=true then(0,0) else(C.b.lits.length,(3:Int))) else r.1)=R):=by
  show _=_;rw [←hR,iE,hK0,hK1]
 rw [hR];have dG:Aside (∀w2,Bz w w2→Cz 61 #[.agg vh.toArray,.slice am M.io.length cm] w2 (GivP w2 K1)):=fun w2 hb=>by
  rw [←hK1,←hK0];exact QL C.h M.io C.vars.toNat n am cm w2 vh (TmV.below hb hn _ _ c8.o) (hI.below hb hn) f7 (fun A hA=>by rw [hK0];exact(a6 K0 rfl).1.2 A hA) (by have:=EU C.h;omega) (aD hn hb.size)
 have dL:Aside (∀w2,Bz w w2→Cz 59 #[.agg vb.toArray] w2 (LitsP n w2 C.b)):=fun w2 hb=>wP C.b n w2 vb d8.2 d8.1 (TmV.below hb hn _ _ c9.o) (aD hn hb.size)
 have dH:Aside (∀w2 mb K,Below n w w2→K.length=K0.length→aW w2 mb (KnS K)→Cz 65 #[.map (some mb),.agg vh.toArray] w2 (dJ w2 (cH K C.h))):=fun w2 mb K hb hk hs=>pZ C.h K n mb w2 vh (TmV.below hb (aA _) _ _ c8.o) (aD hn hb.size) (by omega) hs fun x hx=>((a6 K hk).1.1 x hx).1
 obtain⟨L,hL⟩:=enm C.b.lits;have dE:Aside (∀T∈L,∀w2 mb K vt,Below n w w2→n≤mb→K.length=K0.length→aW w2 mb (KnS K)→TmV n w2 T vt→Cz 66 #[.agg vt.toArray,.slice a Ms.length c,.map (some mb)] w2 (ExP w2 mb (cA Ms K T))):=by
  intro T hT w2 mb K vt hb g6 hk hs hv;rw [←hL] at hT;exact GI Ms T K n mb a c w2 vt (f4.below hb (aA _)) f5 hv hs g6 ((a6 K hk).2 T hT) (by have:=(AU C.b T hT).2;omega) (aD hn hb.size)
 have f9:L.length≤10000:=by have:=uI C.b;rw [hL] at this;omega
 have c7:Aside (∀w2,Bz w w2→Cz 59 #[.agg vb.toArray] w2 fun e w'=>∃v B,e= .returned (.tuple #[v,.bool B])∧OutT n w2.heap.size w' v L∧Bz w2 w'):=fun w2 hb=>(dL.o w2 hb).mono fun e w' ⟨v,e1,e2,e3⟩=>⟨v,_,e1,by rw [←hL];exact e2,e3⟩
 rw [hL] at RA;have b7:=aside b8;clear dL hL a6 hR hK1 hK0 e8 d8 g3 c4 f7 f4 g0 hI hIl f5 b8 f3 hF;obtain⟨mn,ma,io⟩:=M;dsimp only at dG ⊢;generalize io.length=li at*;obtain⟨th,tb,vars⟩:=C;dsimp only at h1 h2 c8 c9 dH RA ⊢;obtain⟨HH,hHH⟩:∃f:List Bool→Bool,(fun K=>cH K th)=f:=⟨_,rfl⟩;have f0:∀K,cH K th=HH K:=fun K=>by rw [←hHH]
 simp only [f0] at dH RA;clear f0 hHH c8 c9;obtain⟨k1,v1,nm1,g1,num1,den1,b5⟩:=th;obtain⟨k2,v2,nm2,g2,num2,den2,args2⟩:=tb;simp only [TmV] at h1 h2;obtain⟨_,_,a1,c1,rfl,⟨⟨p1,q1,rfl,_⟩,⟨p2,q2,rfl,_⟩⟩,_⟩:=h1;obtain⟨_,_,a2,c2,rfl,⟨⟨p3,q3,rfl,_⟩,⟨p4,q4,rfl,_⟩⟩,_⟩:=h2;generalize b5.length=l1,num1.length=n1,den1.length=n2,args2.length=l2,num2.length=n3,den2.length=n4 at*;replace dG:Aside (∀w2,Bz w w2→Cz 61 #[.agg (tA k1 v1 nm1 g1 p1 n1 q1 p2 n2 q2 a1 l1 c1),.slice am li cm] w2 (GivP w2 K1)):=dG;replace c7:Aside (∀w2,Bz w w2→Cz 59 #[.agg (tA k2 v2 nm2 g2 p3 n3 q3 p4 n4 q4 a2 l2 c2)] w2 fun e w'=>∃v B,e= .returned (.tuple #[v,.bool B])∧OutT n w2.heap.size w' v L∧Bz w2 w'):=c7;replace dH:Aside (∀w2 mb K,Below n w w2→K.length=K0.length→aW w2 mb (KnS K)→Cz 65 #[.map (some mb),.agg (tA k1 v1 nm1 g1 p1 n1 q1 p2 n2 q2 a1 l1 c1)] w2 (dJ w2 (HH K))):=dH;have b0:=aC w (bC k1 v1 nm1 g1 p1 n1 q1 p2 n2 q2 a1 l1 c1 k2 v2 nm2 g2 p3 n3 q3 p4 n4 q4 a2 l2 c2 vars);have b1:=aC (w.alloc (bC k1 v1 nm1 g1 p1 n1 q1 p2 n2 q2 a1 l1 c1 k2 v2 nm2 g2 p3 n3 q3 p4 n4 q4 a2 l2 c2 vars)) (Obj.cells #[.string mn,.int .i64 ma,.slice am li cm] 66);have hq:=(b1.block w.heap.size (by simp)).trans (aJ w (bC k1 v1 nm1 g1 p1 n1 q1 p2 n2 q2 a1 l1 c1 k2 v2 nm2 g2 p3 n3 q3 p4 n4 q4 a2 l2 c2 vars));have hr:=aJ (w.alloc (bC k1 v1 nm1 g1 p1 n1 q1 p2 n2 q2 a1 l1 c1 k2 v2 nm2 g2 p3 n3 q3 p4 n4 q4 a2 l2 c2 vars)) (Obj.cells #[.string mn,.int .i64 ma,.slice am li cm] 66);rw [cB] at hr;have e9:((w.alloc (bC k1 v1 nm1 g1 p1 n1 q1 p2 n2 q2 a1 l1 c1 k2 v2 nm2 g2 p3 n3 q3 p4 n4 q4 a2 l2 c2 vars)).alloc (Obj.cells #[.string mn,.int .i64 ma,.slice am li cm] 66)).heap.size=w.heap.size+2:=by simp
 have b2:=b0.trans (b1.mono b0.size);obtain⟨wb,hwb⟩:=enm ((w.alloc (bC k1 v1 nm1 g1 p1 n1 q1 p2 n2 q2 a1 l1 c1 k2 v2 nm2 g2 p3 n3 q3 p4 n4 q4 a2 l2 c2 vars)).alloc (Obj.cells #[.string mn,.int .i64 ma,.slice am li cm] 66));rw [hwb] at b2 hq hr e9;have fa:Aside (∀w2,Bz wb w2→_):=fun(w2:Wo) (hb:Bz wb w2)=>pI ((hb.block w.heap.size (by omega)).trans hq)
 have fm:Aside (∀w2,Bz wb w2→_):=fun(w2:Wo) (hb:Bz wb w2)=>qY ((hb.block (w.heap.size+1) (by omega)).trans hr)
 have bw:Aside (∀w2,Bz wb w2→Bz w w2):=fun w2 hb=>b2.trans (hb.mono b2.size)
 have c5:=aside e9;obtain⟨x0,x1,x2,x3,x4,x5,x6,x7,x8,x9,x10,x11,x12,x13,x14⟩:=fa.o wb (bD _ _);obtain⟨m0,m1,m2⟩:=fm.o wb (bD _ _);have d1:=dG.o wb b2;clear b0 b1 b2 hq hr e9;show Cz 27 #[.agg (tC k1 v1 nm1 g1 p1 n1 q1 p2 n2 q2 a1 l1 c1 k2 v2 nm2 g2 p3 n3 q3 p4 n4 q4 a2 l2 c2 vars),.agg #[.string mn,.int .i64 ma,.slice am li cm],.slice a Ms.length c] w _;go_enter Tryz.func27,Tryz.ntmps27
 go_upto_region 1 with fail
 clear hwb
 go_upto_region 2 with(go_at_call 61;(with_reducible refine d1.mono ?_);rintro e w2 ⟨mb,rfl,hmb,hs2,hb2⟩)
 clear x0 x1 x2 x3 x4 x5 x6 x7 x8 x9 x10 x11 x12 x13 x14 m0 m1 m2 d1;obtain⟨x0,x1,x2,x3,x4,x5,x6,x7,x8,x9,x10,x11,x12,x13,x14⟩:=fa.o w2 hb2;have a7:=aside hb2;have b4:=aside hs2;have d2:=c7.o w2 (bw.o w2 hb2);clear hb2 hs2
 go_upto_region 3 with(go_at_call 59;(with_reducible refine d2.mono ?_);rintro e w3 ⟨v3,B3,rfl,hO3,hb3⟩)
 obtain⟨X,hX,hTs⟩:=hO3;obtain⟨al,cl,rfl,hrd⟩:=iN hX;obtain⟨len,hl⟩:=enm L.length;have e7:Aside (∀(j:Nat) T,L[j]?=some T→∃g vs,al=some ⟨g,0,none⟩∧w2.heap.size≤g∧g<w3.heap.size∧TmV n w3 T vs∧∀(k:Nat) u,vs[k]?=some u→w3.cell? ⟨g,0+j*7+k,none⟩=some u):=by
  show∀(j:Nat) T,_;intro j T hj;rcases hrd with h0|⟨g,e,hgb,hgl,hc⟩
  ·have:=(aM.1 hj).1;omega
  ·obtain⟨vs,hv,hx⟩:=hTs.get hj;exact⟨g,vs,e,hgb,hgl,hv,fun k u hu=>by rw [bT];exact hc _ _ (hx k u hu)⟩
 rw [hl] at RA f9 ⊢;have Ll:=aside hl;have a8:=aside hb3;have a0:Aside (mb<w2.heap.size∧n≤mb∧wb.heap.size≤mb):=⟨b4.o.lt,by have:=c5.o;omega,hmb⟩;have g8:Aside (aW w3 mb (KnS (gU Ms L K1 0))):=b4.o.of_block (hb3.block mb b4.o.lt);have d6:Aside _:=RA;clear RA hrd hTs hX hl x0 x1 x2 x3 x4 x5 x6 x7 x8 x9 x10 x11 x12 x13 x14 d2 hb3 hmb dG c7
 go_upto_region 4 with fail
 go_loopw [28] (fun s wr=>∃i:Nat,s= .int .i64 i∧i≤len∧aW wr mb (KnS (gU Ms L K1 i))∧aS (fun k=>k=mb) w3 wr∧Aside (∀(j:Nat) T,j<i→L[j]?=some T→(cA Ms (gU Ms L K1 j) T).1=0)) (fun s _=>len-(intOf s).toNat)
 case atStart=>exact⟨0,rfl,bX _,g8.o,aS.refl _ _,fun j T hj=>by omega⟩
 case round=>
  obtain⟨wo,rfl⟩:=enr wr;obtain⟨i,rfl,hi,hSi,hKi,hall⟩:=hrel;have a4:Bz wb wo:=a7.o.trans ((a8.o.mono a7.o.size).trans (hKi.below (by have:=a7.o.size;have:=a8.o.size;omega) fun k hk=>by have:=a0.o.2.2;omega));have b3:Bz w wo:=bw.o wo a4;have d3:Below n w3 wo:=hKi.below (by have:=a0.o;have:=a8.o.size;omega) fun k hk=>by have:=a0.o.2.1;omega
  by_cases g5:i<len
  ·obtain⟨A,hA⟩:=egf Ll.o g5;obtain⟨b,va,rfl,hbn,hbl,hv,hc⟩:=e7.o i A hA;have f1:=aside hv;have d7:=dE.o A (aV hA);obtain⟨k',v',nm',g',c6,den',args'⟩:=A;simp only [TmV] at hv;obtain⟨_,_,a',c',rfl,⟨⟨r1,u1,rfl,_⟩,⟨r2,u2,rfl,_⟩⟩,_⟩:=hv;have f8:wo.heap[b]?=w3.heap[b]?:=hKi.block b hbl (by have:=a0.o.1;omega);obtain⟨e0,e1,e2,e3,e4,e5,e6⟩:=seven (w:=w3) (w2:=wo) (fun p hp=>by simp only [World.cell?,hp,f8]) hc;rw [bT] at e0 e1 e2 e3 e4 e5 e6;obtain⟨A,hAA⟩:∃t,Tm.mk k' v' nm' g' c6 den' args'=t:=⟨_,rfl⟩;rw [hAA] at hA f1 d7;generalize c6.length=m1',den'.length=m2',args'.length=l' at*;have d0:=aC wo (bA k' v' nm' g' r1 m1' u1 r2 m2' u2 a' l' c');have d4:=b3.trans (d0.mono b3.size);have f2:=d3.trans (d0.mono (aD hn b3.size));have f6:=hSi.of_block (d0.block _ hSi.lt);have d1:=d7 (wo.alloc (bA k' v' nm' g' r1 m1' u1 r2 m2' u2 a' l' c')) mb (gU Ms L K1 i) _ (d4.mono hn) a0.o.2.1 (by rw [PF];exact b7.o) f6 (TmV.below f2 (aA _) _ _ f1.o);replace d1:Cz 66 #[.agg (tA k' v' nm' g' r1 m1' u1 r2 m2' u2 a' l' c'),.slice a Ms.length c,.map (some mb)] _ _:=d1;obtain⟨h4,hi3,hw3⟩:=elt (i:=i) (n:=len) (by omega) (by omega);have d5:Aside (aS (fun k=>k=mb) w3 (wo.alloc (bA k' v' nm' g' r1 m1' u1 r2 m2' u2 a' l' c'))∧Bz w (wo.alloc (bA k' v' nm' g' r1 m1' u1 r2 m2' u2 a' l' c'))):=⟨hKi.trans (aS.of_below d0) fun _ _ e=>e,d4⟩;have g7:Aside (gU Ms L K1 (i+1)=(cA Ms (gU Ms L K1 i) A).2):=PE hA;have b6:=aside hA;obtain⟨r,hr⟩:=enm (cA Ms (gU Ms L K1 i) A);have d9:=aside hr;rw [hr] at d1;obtain⟨f,K2⟩:=r;clear hc hA d0 d4 f2 f6 hSi hKi b3 d3 a4 hAA d7 f8 hr hbl hbn;have a3:Aside (f=0→∀(j:Nat) T,j<i+1→L[j]?=some T→(cA Ms (gU Ms L K1 j) T).1=0):=fun e j T hj hT=>by
    rcases lR j i with h|h
    ·exact hall.o j T h hT
    ·obtain rfl:j=i:=by omega
     rw [b6.o] at hT;injection hT with e2;subst e2
     rw [d9.o];exact e
   have a9:Aside (f≠0→R=(i,f)):=fun e=>by
    have h9:=LP (K:=K1) (by rw [Ll.o];omega) hall.o;obtain⟨g4,hx9⟩:=aM.1 b6.o;rw [iK g4,hx9,fL,d9.o,if_neg e] at h9;rw [←d6.o,h9,if_neg e]
   by_cases hf:f=0
   ·subst hf;have b9:Aside (∀(j:Nat) T,j<i+1→L[j]?=some T→(cA Ms (gU Ms L K1 j) T).1=0):=a3.o rfl;clear a3 a9
    go_wp2_with (go_at_call 66;(with_reducible refine d1.mono ?_);rintro e w6 ⟨m6,rfl,hs6,hk6⟩)
    have hL:aW w6 mb (KnS (gU Ms L K1 (i+1)))∧aS (fun k=>k=mb) w3 w6:=⟨by rw [g7.o,d9.o];exact hs6,d5.o.1.trans hk6 fun _ _ e=>e⟩;go_roundw
    case rel=>exact⟨i+1,by simp,by omega,hL.1,hL.2,b9⟩
    case measure=>simp [intOf];omega
   ·have g9:(f==0)=false:=by simpa using hf
    have h3:(f !=0)=true:=by simpa using hf
    have c0:Aside (R=(i,f)):=a9.o hf;clear a3 a9
    go_wp2_with (go_at_call 66;(with_reducible refine d1.mono ?_);rintro e w6 ⟨m6,rfl,hs6,hk6⟩)
    go_ret2
    exact⟨by rw [c0.o];rfl,d5.o.2.trans (hk6.below d5.o.2.size fun k hk=>by have:=a0.o.2.2;have:=c5.o;omega)⟩
  ·obtain rfl:i=len:=by omega
   have c3:Aside (fL Ms L 0 K1=((i,0),gU Ms L K1 i)):=by
    show _=_;rw [LP (by rw [Ll.o];omega) hall.o,tM (rH Ll.o),fL]
   have d2:=dH.o wo mb (gU Ms L K1 i) (b3.mono hn) (by rw [PF];exact b7.o) hSi;obtain⟨H,hH⟩:∃b,HH (gU Ms L K1 i)=b:=⟨_,rfl⟩;have HA:=aside hH;rw [hH] at d2;obtain⟨x0,x1,x2,x3,x4,x5,x6,x7,x8,x9,x10,x11,x12,x13,x14⟩:=fa.o wo a4;have a5:=aside b3;clear hH hSi hKi b3 d3 a4;cases H
   ·have hR:Aside (R=(i,3)):=by
     show _=_;rw [←d6.o,c3.o];simp [HA.o]
    go_wp2_with (go_at_call 65;(with_reducible refine d2.mono ?_);rintro e w6 ⟨rfl,hb6⟩)
    go_ret2
    exact⟨by rw [hR.o];rfl,a5.o.trans (hb6.mono a5.o.size)⟩
   ·have hR:Aside (R=(0,0)):=by
     show _=_;rw [←d6.o,c3.o];simp [HA.o]
    go_wp2_with (go_at_call 65;(with_reducible refine d2.mono ?_);rintro e w6 ⟨rfl,hb6⟩)
    go_ret2
    exact⟨by rw [hR.o];rfl,a5.o.trans (hb6.mono a5.o.size)⟩
end
end
