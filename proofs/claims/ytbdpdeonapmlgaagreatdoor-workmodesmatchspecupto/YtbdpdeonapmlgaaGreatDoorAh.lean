/- Lemmas; no condition. -/
import Derived.Test.YtbdpdeonapmlgaaGreatDoorAg
set_option linter.all false
set_option maxHeartbeats 4000000
set_option maxRecDepth 100000
namespace Go.Proofs.YtbdpdeonapmlgaaGreatDoor
open Go.RowKit Go.Big
attribute [local go_sem] Heavy.uponW
def kd_ref {k v:Int} {nm:ByteArray} {g:Bool} {num den:List Nat} {args:List Tm} (hv:k≠5→args= []):Tm.kd (.mk k v nm g num den args)=
  (
   if(k==3||k==5)=false then 0 else if biB nm.toList args.length=false then 1 else if args.length=1 then qM args
   else if args.length≠2 then 0 else if nm.toList= [61] then 3 else if nm.toList= [105,115] then 5 else if fK nm lO=true then 4 else if fK nm lJ=true then 6 else 0):=by
 simp only [Tm.kd]
 by_cases hc:(k==3||k==5)=false
 ·rw [if_pos hc,if_pos hc]
 rw [if_neg hc,if_neg hc]
 by_cases h1:args.length=1
 ·have c7:k=5:=by
    apply iR;intro h;rw [hv h] at h1;simp at h1
  subst c7;rw [h1]
  by_cases hn:nm.toList= [92,43]
  · simp [hn,biB]
  · simp [hn,biB]
 ·have b9:((args.length:Int)==1)=false:=by simp;omega
  rw [b9]
  by_cases hb:biB nm.toList args.length=false
  · simp [hb]
  · by_cases h2:args.length=2
    ·simp only [h2,hb,Bool.and_false,dX,fN];have ho:=@NT nm;have c9:=@KZ nm;have c8:¬(biB nm.toList (2:Nat)=false):=by rw [h2] at hb;exact hb
     simp only [c8,fN,show¬(2=1) by decide,show¬(2≠2) by decide,show(((2:Nat):Int)==2)=true by decide,if_true,ho,c9];unfold bkN;generalize nm.toList=l
     by_cases e1:l= [61]
     ·simp [e1]
     ·by_cases e2:l= [105,115]
      ·subst e2;simp
      ·simp only [e1,e2,fN]
    ·have c0:((args.length:Int)==2)=false:=by simp;omega
     simp [hb,h1,h2,c0]
def FD (T:Tm) (n:Nat) (w:Wo) (vs:Lv) (hT:T.errE=0) (h:TmV n w T vs) (hn:n≤w.heap.size):
  Cz 52 #[.agg vs.toArray] w fun e w'=>e= .returned (.int .i64 T.kd)∧Bz w w':=by
 have b4:=RG T hT;obtain⟨k,v,nm,g,num,den,args⟩:=T;simp only [Tm.vd] at b4;have b2:=kd_ref (k:=k) (v:=v) (nm:=nm) (g:=g) (num:=num) (den:=den) b4.1;clear b4 hT;simp only [TmV] at h;obtain⟨_,_,a,c,rfl,⟨⟨p1,q1,rfl,_⟩,⟨p2,q2,rfl,_⟩⟩,hS,hbig,_⟩:=h;generalize num.length=n1,den.length=n2 at*;obtain⟨len,hl⟩:=enm args.length;obtain⟨K,hK⟩:=enm (Tm.kd (.mk k v nm g num den args));rw [hK,hl] at b2;rw [hK,hl];have Al:=aside hl;have c1:=aside hS;have hB:=aC w (bA k v nm g p1 n1 q1 p2 n2 q2 a len c);have hq:=aK w (bA k v nm g p1 n1 q1 p2 n2 q2 a len c);have c3:(w.alloc (bA k v nm g p1 n1 q1 p2 n2 q2 a len c)).heap.size=w.heap.size+1:=by simp
 obtain⟨wb,hwb⟩:=enm (w.alloc (bA k v nm g p1 n1 q1 p2 n2 q2 a len c));rw [hwb] at hB hq c3;have fa:Aside (∀w2,Bz wb w2→_):=fun(w2:Wo) (hb:Bz wb w2)=>eG ((hb.block w.heap.size (by omega)).trans hq)
 obtain⟨x0,x1,x2,x3,x4,x5,x6⟩:=fa.o wb (aG _ _);have a7:Aside (∀w2,_):=fun w2=>FE k v nm g (.slice p1 n1 q1) (.slice p2 n2 q2) (.slice a len c) w2
 have c4:Aside (∀w2,_):=fun w2=>nW k v nm g (.slice p1 n1 q1) (.slice p2 n2 q2) a len c w2
 have b8:Aside (∀w2,_):=fun w2=>AB nm len w2
 have c5:Aside (∀w2,_):=fun w2=>NR w2
 have c6:Aside (∀w2,_):=fun w2=>KQ w2
 have a9:Aside (∀(w2:Wo) (p:Option Addr),StrsV w2.heap.size w2 lO p→_):=fun w2 p h3=>FZ nm lO w2.heap.size w2 p 7 7 rfl (by decide) h3
 have b0:Aside (∀(w2:Wo) (p:Option Addr),StrsV w2.heap.size w2 lJ p→_):=fun w2 p h3=>FZ nm lJ w2.heap.size w2 p 6 6 rfl (by decide) h3
 obtain⟨cb,hcb⟩:∃b,(k==3||k==5)=b:=⟨_,rfl⟩;obtain⟨bi,hbi⟩:∃b,biB nm.toList len=b:=⟨_,rfl⟩;obtain⟨ob,hob⟩:∃b,fK nm lO=b:=⟨_,rfl⟩;obtain⟨vb,hvb⟩:∃b,fK nm lJ=b:=⟨_,rfl⟩;rw [hcb] at a7;rw [hbi] at b8;rw [hob] at a9;rw [hvb] at b0;rw [hcb,hbi,hob,hvb] at b2;have a2:Aside (K=_):=b2;have e0:Bz wb wb:=aG _ _;clear hq c3 hl hK hS b2 hcb hbi hob hvb;show Cz 52 #[.agg (tA k v nm g p1 n1 q1 p2 n2 q2 a len c)] w _;go_enter Tryz.func52,Tryz.ntmps52
 go_upto_region 1 with fail
 clear hwb
 go_wp2_with (go_at_call 117;with_reducible refine(a7.o _).mono ?_)
 rintro e w1 ⟨rfl,hb1⟩;have e1:Bz wb w1:=e0.trans (hb1.mono e0.size);clear x0 x1 x2 x3 x4 x5 x6 hb1;obtain⟨x0,x1,x2,x3,x4,x5,x6⟩:=fa.o w1 e1;cases cb
 ·obtain rfl:K=0:=a2.o;clear a2;go_wp2
  go_ret
  exact⟨rfl,hB.trans (e1.mono hB.size)⟩
 go_wp2_with (go_at_call 39;with_reducible refine(c4.o _).mono ?_)
 rintro e w2 ⟨rfl,hb2⟩;have e2:Bz wb w2:=e1.trans (hb2.mono e1.size);clear x0 x1 x2 x3 x4 x5 x6 hb2;obtain⟨x0,x1,x2,x3,x4,x5,x6⟩:=fa.o w2 e2
 go_upto_region 4 with fail
 have z0:=aC w2 (Obj.cells #[.string nm,.int .i64 len] 63);have zq:=aK w2 (Obj.cells #[.string nm,.int .i64 len] 63);have zs:(w2.alloc (Obj.cells #[.string nm,.int .i64 len] 63)).heap.size=w2.heap.size+1:=by simp
 obtain⟨wc,hwc⟩:=enm (w2.alloc (Obj.cells #[.string nm,.int .i64 len] 63));rw [hwc] at z0 zq zs ⊢;clear hwc;have fk:Aside (∀w3,Bz wc w3→_):=fun(w3:Wo) (hb:Bz wc w3)=>eW ((hb.block w2.heap.size (by omega)).trans zq)
 have e3:Bz wb wc:=e2.trans (z0.mono e2.size);have f0:Bz wc wc:=aG _ _;obtain⟨k0,k1⟩:=fk.o wc f0;clear x0 x1 x2 x3 x4 x5 x6 z0 zq zs;obtain⟨x0,x1,x2,x3,x4,x5,x6⟩:=fa.o wc e3
 go_wp2_with (go_at_call 29;with_reducible refine(b8.o _).mono ?_)
 rintro e w4 ⟨rfl,hb4⟩;have f1:Bz wc w4:=f0.trans (hb4.mono f0.size);have e4:Bz wb w4:=e3.trans (f1.mono e3.size);clear x0 x1 x2 x3 x4 x5 x6 k0 k1 hb4;obtain⟨x0,x1,x2,x3,x4,x5,x6⟩:=fa.o w4 e4;obtain⟨k0,k1⟩:=fk.o w4 f1;have a3:=hB.trans (e4.mono hB.size);cases bi
 ·obtain rfl:K=1:=a2.o;clear a2;go_wp2
  go_ret
  exact⟨rfl,a3⟩
 by_cases h1:len=1
 case neg=>
  have b9:((len:Int)==1)=false:=by simp;omega
  by_cases h2:len=2
  case neg=>
    have c0:((len:Int)==2)=false:=by simp;omega
    obtain rfl:K=0:=by
     have:=a2.o;rw [if_neg (by decide),if_neg (by decide),if_neg h1,if_pos h2] at this;exact this
    clear a2;go_wp2
    go_ret
    exact⟨rfl,a3⟩
  subst h2;have a0:Aside (K=if nm.toList= [61] then 3 else if nm.toList= [105,115] then 5 else if ob=true then 4 else if vb=true then 6 else 0):=a2.o;clear a2 h1;cases e61:(nm.toList== [61])
  case true=>
    obtain rfl:K=3:=by have:=a0.o;rw [if_pos (by simpa using e61)] at this;exact this
    clear a0;go_wp2
    go_ret
    exact⟨rfl,a3⟩
  cases eis:(nm.toList== [105,115])
  case true=>
    obtain rfl:K=5:=by have:=a0.o;rw [if_neg (by simpa using e61),if_pos (by simpa using eis)] at this;exact this
    clear a0;go_wp2
    go_ret
    exact⟨rfl,a3⟩
  have a6:Aside (K=if ob=true then 4 else if vb=true then 6 else 0):=by have:=a0.o;rw [if_neg (by simpa using e61),if_neg (by simpa using eis)] at this;exact this
  clear a0
  go_upto_region 14 with fail
  have fd:Bz wc w4.drew:=f1.trans (cU _ _);refine hRp (Bz wc) 3 (Heavy.lights [0,1] (.one 2 .done)) (by kernel_rfl) (by kernel_rfl) fd ?_;simp only [Heavy.lights,aX,bI,aW,bD]
  (apply hLm;(exact rfl);(exact rfl);(intro b1 hw;go_simp;exact rfl);(go_simp;exact rfl))
  (apply hLm;(exact rfl);(exact rfl);(intro b1 hw;have ka:=(fk.o b1 hw).1;go_simp;exact rfl);(go_simp;exact rfl))
  (apply hOn;(exact rfl);(exact rfl));go_simp
  refine(c5.o _).mono ?_;rintro e w5 ⟨pa,rfl,hS,hb5⟩;have f5:=fd.trans (hb5.mono fd.size);refine⟨_,rfl,f5,?_⟩
  (refine hNa (by go_simp;exact rfl) ?_)
  apply hPe;show wpList _ _ _ _ _ _
  go_wp2_with (go_at_call 83;with_reducible refine(a9.o _ _ hS).mono ?_)
  rintro e w6 ⟨rfl,rfl⟩;clear hS hb5 x0 x1 x2 x3 x4 x5 x6 k0 k1;have e5:Bz wb w5:=e3.trans (f5.mono e3.size);have a5:=hB.trans (e5.mono hB.size);cases ob
  case true=>
    obtain rfl:K=4:=a6.o;clear a6;go_wp2
    go_ret
    exact⟨rfl,a5⟩
  obtain⟨k0,k1⟩:=fk.o w5 f5
  go_upto_region 16 with fail
  have gd:Bz wc w5.drew:=f5.trans (cU _ _);refine hRp (Bz wc) 3 (Heavy.lights [0,1] (.one 2 .done)) (by kernel_rfl) (by kernel_rfl) gd ?_;simp only [Heavy.lights,aX,bI,aW,bD]
  (apply hLm;(exact rfl);(exact rfl);(intro b1 hw;go_simp;exact rfl);(go_simp;exact rfl))
  (apply hLm;(exact rfl);(exact rfl);(intro b1 hw;have ka:=(fk.o b1 hw).1;go_simp;exact rfl);(go_simp;exact rfl))
  (apply hOn;(exact rfl);(exact rfl));go_simp
  refine(c6.o _).mono ?_;rintro e w7 ⟨pb,rfl,hS,hb7⟩;have f7:=gd.trans (hb7.mono gd.size);refine⟨_,rfl,f7,?_⟩
  (refine hNa (by go_simp;exact rfl) ?_)
  apply hPe;show wpList _ _ _ _ _ _
  go_wp2_with (go_at_call 83;with_reducible refine(b0.o _ _ hS).mono ?_)
  rintro e w8 ⟨rfl,rfl⟩;clear hS hb7;have e7:Bz wb w7:=e3.trans (f7.mono e3.size);have a1:=hB.trans (e7.mono hB.size);cases vb
  case true=>
    obtain rfl:K=6:=a6.o;clear a6;go_wp2
    go_ret
    exact⟨rfl,a1⟩
  obtain rfl:K=0:=a6.o;clear a6;go_wp2
  go_ret
  exact⟨rfl,a1⟩
 case pos=>
  subst h1;obtain⟨A,rfl⟩:∃A,args= [A]:=WB.1 Al.o;have c2:=c1.o;simp only [TmsV] at c2;obtain⟨⟨b,off,vs',rfl,hbn,hc,hv⟩,_⟩:=c2;obtain⟨k',v',nm',g',b5,den',args'⟩:=A;simp only [TmV] at hv;obtain⟨_,_,a',c',rfl,⟨⟨r1,u1,rfl,_⟩,⟨r2,u2,rfl,_⟩⟩,_⟩:=hv;generalize b5.length=m1,den'.length=m2 at*;obtain⟨l',hl'⟩:=enm args'.length;rw [hl'] at hc;obtain⟨b7,hcb'⟩:∃b,(k'==3||k'==5)=b:=⟨_,rfl⟩;obtain⟨b6,hbi'⟩:∃b,biB nm'.toList l'=b:=⟨_,rfl⟩;have a0:Aside (K=if(b7&& !b6)=true then 2 else 0):=by
    show K=_;rw [a2.o,←hcb',←hbi',←hl'];rfl
  have ya:Aside (∀w2,Bz wb w2→_):=fun(w2:Wo) (hb:Bz wb w2)=>jL (fun p hp=>((hB.trans (hb.mono hB.size)).mono hn).cell (hp▸hbn)) (by simpa using hc)
  obtain⟨y0,y1,y2,y3,y4,y5,y6⟩:=ya.o w4 e4;have a4:Aside (∀w2,_):=fun w2=>FE k' v' nm' g' (.slice r1 m1 u1) (.slice r2 m2 u2) (.slice a' l' c') w2
  have b3:Aside (∀w2,_):=fun w2=>nW k' v' nm' g' (.slice r1 m1 u1) (.slice r2 m2 u2) a' l' c' w2
  have a8:Aside (∀w2,_):=fun w2=>AB nm' l' w2
  rw [hcb'] at a4;rw [hbi'] at a8;clear a2 hl' hc c1 hcb' hbi'
  go_wp2_with (go_at_call 117;with_reducible refine(a4.o _).mono ?_)
  rintro e w5 ⟨rfl,hb5⟩;have e5:Bz wb w5:=e4.trans (hb5.mono e4.size);have f5:Bz wc w5:=f1.trans (hb5.mono f1.size);have a5:=hB.trans (e5.mono hB.size);clear x0 x1 x2 x3 x4 x5 x6 k0 k1 hb5 y0 y1 y2 y3 y4 y5 y6;obtain⟨x0,x1,x2,x3,x4,x5,x6⟩:=fa.o w5 e5;obtain⟨k0,k1⟩:=fk.o w5 f5;obtain⟨y0,y1,y2,y3,y4,y5,y6⟩:=ya.o w5 e5;cases b7
  · obtain rfl:K=0:=a0.o;clear a0;go_wp2
    go_ret
    exact⟨rfl,a5⟩
  go_wp2_with (go_at_call 39;with_reducible refine(b3.o _).mono ?_)
  rintro e w6 ⟨rfl,hb6⟩;have e6:Bz wb w6:=e5.trans (hb6.mono e5.size);have f6:Bz wc w6:=f5.trans (hb6.mono f5.size);clear x0 x1 x2 x3 x4 x5 x6 k0 k1 hb6 y0 y1 y2 y3 y4 y5 y6;obtain⟨k0,k1⟩:=fk.o w6 f6
  go_wp2_with (go_at_call 29;with_reducible refine(a8.o _).mono ?_)
  rintro e w7 ⟨rfl,hb7⟩;have e7:Bz wb w7:=e6.trans (hb7.mono e6.size);have f7:Bz wc w7:=f6.trans (hb7.mono f6.size);have a1:=hB.trans (e7.mono hB.size);clear k0 k1 hb7;obtain⟨k0,k1⟩:=fk.o w7 f7;cases b6
  · obtain rfl:K=2:=a0.o;clear a0;go_wp2
    go_ret
    exact⟨rfl,a1⟩
  · obtain rfl:K=0:=a0.o;clear a0;go_wp2
    go_ret
    exact⟨rfl,a1⟩
end Go.Proofs.YtbdpdeonapmlgaaGreatDoor
namespace Go.Proofs.YtbdpdeonapmlgaaGreatDoor
open Go.RowKit Go.Big Go.RowsK
variable {nm:ByteArray} {v:Value} {n a0:Nat} {w:Wo} {g:Bool} {den num:List Nat} {k:Int} {vs xs:Lv}
def pI (k:Int) (nm:ByteArray):Bool:=k==3&&nm.toList== [116,114,117,101]
def pJ (k:Int) (nm:ByteArray) (len:Nat):Bool:=k==5&&nm.toList== [44]&&((len:Int)==2)
mutual
def Tm.lits:Tm→List Tm
 | .mk k v nm g num den args=>if pI k nm=true then [] else if pJ k nm args.length=true then Tm.litsL args else [.mk k v nm g num den args]
def Tm.litsL:List Tm→List Tm
 | []=>[]
 |T::r=>Tm.lits T++Tm.litsL r
end
mutual
def Tm.litsB:Tm→Bool
 | .mk k v nm g num den args=>if pI k nm=true then true else if pJ k nm args.length=true then Tm.litsBL args else Tm.kd (.mk k v nm g num den args) !=0
def Tm.litsBL:List Tm→Bool
 | []=>true
 |T::r=>Tm.litsB T&&Tm.litsBL r
end
mutual
theorem qQ:∀T:Tm,T.lits.length≤T.nodes
 | .mk k v nm g num den args=>by
  simp only [Tm.lits,Tm.nodes];split
  ·simp
  ·split
   ·have:=PB args;omega
   ·simp
theorem PB:∀L:List Tm,(Tm.litsL L).length≤Tm.nodesL L
 | []=>by simp [Tm.litsL]
 |T::r=>by
  simp only [Tm.litsL,Tm.nodesL,aI];have:=qQ T;have:=PB r;omega
end
mutual
theorem BI:∀(T:Tm) (x:Tm),x∈T.lits→(T.errE=0→x.errE=0)∧x.nodes≤T.nodes
 | .mk k v nm g num den args,x,h=>by
  simp only [Tm.lits] at h;split at h
  ·cases h
  ·split at h
   ·obtain⟨h1,h2⟩:=PA args x h;exact⟨fun he=>h1 (CP he).2,by simp only [Tm.nodes];omega⟩
   ·simp at h;subst h;exact⟨id,aA _⟩
theorem PA:∀(L:List Tm) (x:Tm),x∈Tm.litsL L→(Tm.errL L=0→x.errE=0)∧x.nodes≤Tm.nodesL L
 | [],x,h=>by simp [Tm.litsL] at h
 | T::r,x,h=>by
  simp only [Tm.litsL,bX] at h;simp only [Tm.nodesL];rcases h with h|h
  ·obtain⟨h1,h2⟩:=BI T x h;exact⟨fun he=>h1 (pM he).1,by omega⟩
  ·obtain⟨h1,h2⟩:=PA r x h;exact⟨fun he=>h1 (pM he).2,by omega⟩
end
def Jc (l:List UInt8):0≤bkN l:=by
 unfold bkN;split
 ·decide
 ·split
  ·decide
  ·split
   ·decide
   ·split<;>decide
def PO:∀T:Tm,0≤T.kd
 | .mk k v nm g num den args=>by
  simp only [Tm.kd];split
  ·decide
  ·split
   ·cases args with
    |nil=>decide
    |cons A r=>simp only [qM];split<;>decide
   ·split
    ·decide
    ·split
     ·exact Jc _
     ·decide
def TsX (n:Nat) (w:Wo):List Tm→Lv→Prop
 | [],X=>X= []
 |T::r,X=>∃vs Y,X=vs++Y∧TmV n w T vs∧TsX n w r Y
def TmV.len {T:Tm} (h:TmV n w T vs):vs.length=7:=by
 obtain⟨k,v,nm,g,num,den,args⟩:=T;simp only [TmV] at h;obtain⟨s1,s2,a,c,rfl,_⟩:=h;rfl
def TmV.one {T:Tm} (h:TmV n w T vs):∀u∈vs,u.oneCell'=true:=by
 obtain⟨k,v,nm,g,num,den,args⟩:=T;simp only [TmV] at h;obtain⟨_,_,a,c,rfl,⟨⟨p1,q1,rfl,_⟩,⟨p2,q2,rfl,_⟩⟩,_⟩:=h;intro u hu;simp only [cD,List.not_mem_nil,or_false] at hu;rcases hu with rfl|rfl|rfl|rfl|rfl|rfl|rfl<;>rfl
def TsX.one {n:Nat} {w:Wo}:∀{L:List Tm} {X:Lv},TsX n w L X→∀u∈X,u.oneCell'=true
 | [],X,h=>by simp only [TsX] at h;subst h;simp
 |T::r,X,h=>by
  simp only [TsX] at h;obtain⟨vs,Y,rfl,h1,h2⟩:=h;intro u hu;rcases bX.1 hu with hu|hu
  ·exact h1.one u hu
  ·exact TsX.one h2 u hu
def TsX.app {n:Nat} {w:Wo}:∀{L M:List Tm} {X Y:Lv},TsX n w L X→TsX n w M Y→TsX n w (L++M) (X++Y)
 | [],M,X,Y,h,h'=>by simp only [TsX] at h;subst h;exact h'
 |T::r,M,X,Y,h,h'=>by
  simp only [TsX] at h;obtain⟨vs,Z,rfl,h1,h2⟩:=h;exact⟨vs,Z++Y,by rw [fO],h1,TsX.app h2 h'⟩
def TsX.below {n m:Nat} {w w':Wo} (hb:Below m w w') (hm:n≤m):∀{L:List Tm} {X:Lv},TsX n w L X→TsX n w' L X
 | [],X,h=>h
 |T::r,X,h=>by
  simp only [TsX] at h ⊢;obtain⟨vs,Y,e,h1,h2⟩:=h;exact⟨vs,Y,e,TmV.below hb hm _ _ h1,TsX.below hb hm h2⟩
def TsX.get {n:Nat} {w:Wo}:∀{L:List Tm} {X:Lv} {k:Nat} {T:Tm},TsX n w L X→L[k]?=some T→∃vs,TmV n w T vs∧∀(j:Nat) u,vs[j]?=some u→X[k*7+j]?=some u
 | [],_,_,_,_,hk=>by simp at hk
 |T0::r,X,0,T,h,hk=>by
  simp only [TsX] at h;obtain⟨vs,Y,rfl,h1,h2⟩:=h;simp at hk;subst hk;refine⟨vs,h1,fun j u hj=>?_⟩;rw [tM,bT,fF (aO.1 hj).1];exact hj
 |T0::r,X,k+1,T,h,hk=>by
  simp only [TsX] at h;obtain⟨vs,Y,rfl,h1,h2⟩:=h;obtain⟨us,h3,h4⟩:=TsX.get h2 (show r[k]?=some T by simpa using hk);refine⟨us,h3,fun j u hj=>?_⟩;have hl:=h1.len;rw [eO (by omega),hl,show(k+1)*7+j-7=k*7+j by omega];exact h4 j u hj
def elTm:El Tryz.prog 46 48 7 112 zTm:=⟨Tryz.underlying46,by
  obtain⟨i0,h1,h2,h3,h4⟩:=lZ (show(Tryz.prog.info? 48).map (fun i=>(i.zero,i.size,i.bytes))=some (some zTm,7,112) by kernel_rfl);exact⟨i0,h1,h2,h3,h4⟩,rfl,by decide⟩
def OutT (n base:Nat) (w:Wo) (v:Value) (L:List Tm):Prop:=∃X,w.ownsRow base 48 7 v L.length X∧TsX n w L X
def OutT.below {base m:Nat} {w':Wo} {L:List Tm} (h:OutT n base w v L) (hb:Below m w w') (hn:n≤m) (hm:w.heap.size≤m):OutT n base w' v L:=by
 obtain⟨X,h1,h2⟩:=h;exact⟨X,eT h1 hb hm,h2.below hb hn⟩
def OutT.nil (n base:Nat) (w:Wo):OutT n base w (.slice none 0 0) []:=⟨[],nD _ _ _ _,rfl⟩
def gM {base:Nat} {e:TypeId} {size:Nat} (h:w.ownsRow base e size v n xs) (hb:a0≤base):w.ownsRow a0 e size v n xs:=by
 obtain⟨h1,h2|⟨g,cap,cur,e1,h3,h4⟩⟩:=h
 ·exact⟨h1,.inl h2⟩
 ·exact⟨h1,.inr ⟨g,cap,cur,e1,by omega,h4⟩⟩
def OutT.base {base:Nat} {L:List Tm} (h:OutT n base w v L) (hb:a0≤base):OutT n a0 w v L:=by
 obtain⟨X,h1,h2⟩:=h;exact⟨X,gM h1 hb,h2⟩
section
attribute [local go_sem] Heavy.uponW
def eJ (n:Nat) (w:Wo) (T:Tm) (e:Ending) (w':Wo):Prop:=∃v,e= .returned (.tuple #[v,.bool T.litsB])∧OutT n w.heap.size w' v T.lits∧Bz w w'
def LitsOk (F:Nat) (T:Tm):Prop:=∀(n:Nat) (w:Wo) (vs:Lv),T.errE=0→T.nodes≤10000→TmV n w T vs→n≤w.heap.size→Cz F #[.agg vs.toArray] w (eJ n w T)
def OV {v:Int} {A B:Tm} (h1:pI k nm=false) (h2:pJ k nm 2=true):
  Tm.lits (.mk k v nm g num den [A,B])=A.lits++B.lits∧Tm.litsB (.mk k v nm g num den [A,B])=(A.litsB&&B.litsB):=by
 constructor
 ·simp [Tm.lits,Tm.litsL,h1,h2]
 ·simp [Tm.litsB,Tm.litsBL,h1,h2]
def OX {v:Int} {args:List Tm} (h1:pI k nm=false) (h2:pJ k nm args.length=false):
  Tm.lits (.mk k v nm g num den args)= [.mk k v nm g num den args]∧Tm.litsB (.mk k v nm g num den args)=(Tm.kd (.mk k v nm g num den args) !=0):=by
 constructor
 ·simp [Tm.lits,h1,h2]
 ·simp [Tm.litsB,h1,h2]
def OW {v:Int} {args:List Tm} (h1:pI k nm=true):
  Tm.lits (.mk k v nm g num den args)= []∧Tm.litsB (.mk k v nm g num den args)=true:=by
 constructor
 ·simp [Tm.lits,h1]
 ·simp [Tm.litsB,h1]
def Ap (k v:Int) (nm:ByteArray) (g:Bool) (num den:List Nat) (args:List Tm) (ih:∀T'∈args,LitsOk 59 T'):LitsOk 59 (.mk k v nm g num den args):=by
 intro n w vs hT hN h hn;have hk:=fun w2 (hb:Bz w w2)=>GZ (.mk k v nm g num den args) n w2 vs (TmV.below hb hn _ _ h) (aE hn hb.size)
 have h0:=h;have d4:=(CP hT).2;obtain⟨Tt,hTt⟩:=enm (Tm.mk k v nm g num den args);have TA:=aside hTt;rw [hTt] at hk h0 hN ⊢;have f0:=aside hN;simp only [TmV] at h;obtain⟨_,_,a,c,rfl,⟨⟨p1,q1,rfl,_⟩,⟨p2,q2,rfl,_⟩⟩,hS,hbig,_⟩:=h;generalize num.length=n1,den.length=n2 at*;obtain⟨len,hl⟩:=enm args.length;rw [hl] at h0 hk ⊢;have Al:=aside2 hl d4;have c6:=aside hS;have c1:=aside ih;have hB:=aC w (bA k v nm g p1 n1 q1 p2 n2 q2 a len c);have hq:=aK w (bA k v nm g p1 n1 q1 p2 n2 q2 a len c);have d9:(w.alloc (bA k v nm g p1 n1 q1 p2 n2 q2 a len c)).heap.size=w.heap.size+1:=by simp
 obtain⟨wb,hwb⟩:=enm (w.alloc (bA k v nm g p1 n1 q1 p2 n2 q2 a len c));rw [hwb] at hB hq d9;have fa:Aside (∀w2,Bz wb w2→_):=fun(w2:Wo) (hb:Bz wb w2)=>eG ((hb.block w.heap.size (by omega)).trans hq)
 have c8:=aside hk;have e8:Aside (∀w2,Bz w w2→TmV n w2 Tt [.int .i64 k,.int .i64 v,.string nm,.bool g,.slice p1 n1 q1,.slice p2 n2 q2,.slice a len c]):=fun w2 hb=>TmV.below hb hn _ _ h0
 obtain⟨x0,x1,x2,x3,x4,x5,x6⟩:=fa.o wb (aG _ _);have a6:Aside (∀w2,_):=fun w2=>Dx k v nm ⟨#[116,114,117,101]⟩ g (.slice p1 n1 q1) (.slice p2 n2 q2) (.slice a len c) w2
 have a7:Aside (∀w2,_):=fun w2=>PT k v nm ⟨#[44]⟩ g (.slice p1 n1 q1) (.slice p2 n2 q2) a len c 2 w2
 rw [tl #[116,114,117,101]] at a6;rw [tl #[44]] at a7;obtain⟨it,hit⟩:∃b,pI k nm=b:=⟨_,rfl⟩;obtain⟨ia,hia⟩:∃b,pJ k nm len=b:=⟨_,rfl⟩;have c3:=aside2 hit hia;replace a6:Aside (∀w2,Cz 127 #[.agg (tA k v nm g p1 n1 q1 p2 n2 q2 a len c),.string ⟨#[116,114,117,101]⟩] w2 fun e w'=>e= .returned (.bool it)∧Bz w2 w'):=by rw [←hit];exact a6
 replace a7:Aside (∀w2,Cz 128 #[.agg (tA k v nm g p1 n1 q1 p2 n2 q2 a len c),.string ⟨#[44]⟩,.int .i64 2] w2 fun e w'=>e= .returned (.bool ia)∧Bz w2 w'):=by rw [←hia];exact a7
 have e0:Bz wb wb:=aG _ _;have b0:Aside (it=false→ia=false→Tt.lits= [Tt]∧Tt.litsB=(Tt.kd !=0)):=by
  show _→_→_;intro a1 a2;have:=OX (k:=k) (v:=v) (nm:=nm) (g:=g) (num:=num) (den:=den) (args:=args) (hit.trans a1) (by rw [hl];exact hia.trans a2);rw [TA.o] at this;exact this
 have b1:Aside (it=true→Tt.lits= []∧Tt.litsB=true):=by
  show _→_;intro a1;have:=OW (k:=k) (v:=v) (nm:=nm) (g:=g) (num:=num) (den:=den) (args:=args) (hit.trans a1);rw [TA.o] at this;exact this
 clear hq d9 hl hS hit hia hk h0 d4 hT hTt hN ih;show Cz 59 #[.agg (tA k v nm g p1 n1 q1 p2 n2 q2 a len c)] w _;go_enter Tryz.func59,Tryz.ntmps59
 go_upto_region 1 with fail
 clear hwb
 go_wp2_with (go_at_call 127;with_reducible refine(a6.o _).mono ?_)
 rintro e w1 ⟨rfl,hb1⟩;have e1:Bz wb w1:=e0.trans (hb1.mono e0.size);clear x0 x1 x2 x3 x4 x5 x6 hb1;obtain⟨x0,x1,x2,x3,x4,x5,x6⟩:=fa.o w1 e1;cases it
 case true=>
  have hr:=b1.o rfl;have hP:Aside (eJ n w Tt (.returned (.tuple #[.slice none 0 0,.bool true])) w1):=⟨_,by rw [hr.2],by rw [hr.1];exact OutT.nil _ _ _,hB.trans (e1.mono hB.size)⟩;clear hr b1 b0;go_wp2
  go_ret2
  exact hP.o
 go_wp2_with (go_at_call 128;with_reducible refine(a7.o _).mono ?_)
 rintro e w2 ⟨rfl,hb2⟩;have e2:Bz wb w2:=e1.trans (hb2.mono e1.size);clear x0 x1 x2 x3 x4 x5 x6 hb2;obtain⟨x0,x1,x2,x3,x4,x5,x6⟩:=fa.o w2 e2;cases ia
 case true=>
  obtain⟨rfl,hnc,rfl⟩:k=5∧(nm.toList== [44])=true∧len=2:=by
   have:=c3.o.2;unfold pJ at this;simp at this;exact⟨this.1.1,by simpa using this.1.2,by omega⟩
  obtain⟨A,B,rfl⟩:∃A B,args= [A,B]:=by
   match args,Al.o.1 with
   | [A,B],_=>exact⟨A,B,rfl⟩
  obtain⟨c9,b2⟩:=OV (v:=v) (g:=g) (num:=num) (den:=den) (A:=A) (B:=B) c3.o.1 c3.o.2;rw [TA.o] at c9 b2;have d1:=(pM Al.o.2).1;have d2:=(pM (pM Al.o.2).2).1;have a8:A.nodes≤10000∧B.nodes≤10000∧A.lits.length+B.lits.length≤20000:=by
   have h1:=f0.o;rw [←TA.o] at h1;simp only [Tm.nodes,Tm.nodesL] at h1;have:=qQ A;have:=qQ B;omega
  have d3:=c6.o;simp only [TmsV] at d3;obtain⟨⟨b,off,va,rfl,hbn,hca,hva⟩,⟨b',off',vb,eb,_,hcb,hvb⟩,_⟩:=d3;obtain⟨rfl,rfl⟩:b=b'∧off=off':=by injection eb with eb;injection eb with e1 e2;exact⟨e1,e2⟩
  clear eb;have e6:=c1.o A (by simp);have e7:=c1.o B (by simp);have b6:Aside (∀w2,Bz wb w2→TmV n w2 A va):=fun w2 hb=>TmV.below (hB.trans (hb.mono hB.size)) hn _ _ hva
  have b7:Aside (∀w2,Bz wb w2→TmV n w2 B vb):=fun w2 hb=>TmV.below (hB.trans (hb.mono hB.size)) hn _ _ hvb
  have b9:n≤wb.heap.size:=aE hn hB.size;have a0:Aside (∀w2,Bz wb w2→Cz 59 #[.agg va.toArray] w2 (eJ n w2 A)):=fun w2 hb=>e6 n w2 va d1 a8.1 (b6.o w2 hb) (aE b9 hb.size)
  have a3:Aside (∀w2,Bz wb w2→Cz 59 #[.agg vb.toArray] w2 (eJ n w2 B)):=fun w2 hb=>e7 n w2 vb d2 a8.2.1 (b7.o w2 hb) (aE b9 hb.size)
  have b3:Aside (Tt.lits=A.lits++B.lits∧Tt.litsB=(A.litsB&&B.litsB)∧A.lits.length+B.lits.length≤20000):=⟨c9,b2,a8.2.2⟩;clear c9 b2 d1 d2 a8 e6 e7 b6 b7 c6 c1 c8 b1 b0;obtain⟨ka,va1,nma,ga,b8,dena,argsa⟩:=A;obtain⟨kb,vb1,nmb,gb,numb,denb,argsb⟩:=B;simp only [TmV] at hva hvb;obtain⟨_,_,aa,ca,rfl,⟨⟨r1,u1,rfl,_⟩,⟨r2,u2,rfl,_⟩⟩,_⟩:=hva;obtain⟨_,_,ab,cb,rfl,⟨⟨r3,u3,rfl,_⟩,⟨r4,u4,rfl,_⟩⟩,_⟩:=hvb;obtain⟨TAt,hTAt⟩:∃t,Tm.mk ka va1 nma ga b8 dena argsa=t:=⟨_,rfl⟩;obtain⟨TBt,hTBt⟩:∃t,Tm.mk kb vb1 nmb gb numb denb argsb=t:=⟨_,rfl⟩;rw [hTAt] at a0;rw [hTBt] at a3;rw [hTAt,hTBt] at b3;clear hTAt hTBt Al TA;generalize b8.length=ma1,dena.length=ma2,argsa.length=la,numb.length=mb1,denb.length=mb2,argsb.length=lb at*;have ya:Aside (∀w2,Bz wb w2→_):=fun(w2:Wo) (hb:Bz wb w2)=>jL (fun p hp=>((hB.trans (hb.mono hB.size)).mono hn).cell (hp▸hbn)) (by simpa using hca)
  have yb:Aside (∀w2,Bz wb w2→_):=fun(w2:Wo) (hb:Bz wb w2)=>jL (o:=off+7) (fun p hp=>((hB.trans (hb.mono hB.size)).mono hn).cell (hp▸hbn)) (by simpa using hcb)
  clear hca hcb;obtain⟨y0,y1,y2,y3,y4,y5,y6⟩:=ya.o w2 e2;replace a0:Aside (∀w2,Bz wb w2→Cz 59 #[.agg (tA ka va1 nma ga r1 ma1 u1 r2 ma2 u2 aa la ca)] w2 (eJ n w2 TAt)):=a0;replace a3:Aside (∀w2,Bz wb w2→Cz 59 #[.agg (tA kb vb1 nmb gb r3 mb1 u3 r4 mb2 u4 ab lb cb)] w2 (eJ n w2 TBt)):=a3
  go_wp2_with (go_at_call 59;with_reducible refine(a0.o _ e2).mono ?_)
  rintro e w3 ⟨v3,rfl,hO3,hb3⟩;have e3:Bz wb w3:=e2.trans (hb3.mono e2.size);have e9:=e2.size;clear x0 x1 x2 x3 x4 x5 x6 y0 y1 y2 y3 y4 y5 y6 a0 ya hb3;obtain⟨x0,x1,x2,x3,x4,x5,x6⟩:=fa.o w3 e3;obtain⟨y0,y1,y2,y3,y4,y5,y6⟩:=yb.o w3 e3
  go_wp2_with (go_at_call 59;with_reducible refine(a3.o _ e3).mono ?_)
  rintro e w4 ⟨v4,rfl,hO4,hb4⟩;have e4:Bz wb w4:=e3.trans (hb4.mono e3.size);have c2:=e3.size;have d0:n≤w3.heap.size:=aE b9 e3.size;have c4:=(hO3.below hb4 d0 (aA _)).base e9;have c5:=hO4.base c2;clear x0 x1 x2 x3 x4 x5 x6 y0 y1 y2 y3 y4 y5 y6 a3 yb hO3 hO4;obtain⟨X3,hX3,hT3⟩:=c4;obtain⟨X4,hX4,hT4⟩:=c5;have a9:TAt.lits.length+TBt.lits.length≤maxLen∧(TAt.lits.length+TBt.lits.length)*112≤140737488355328:=by
   have:=b3.o.2.2;unfold maxLen;omega
  have b5:=rZ hX4;have d6:=hX4.1;have d8:=hT4.one;have c0:wb.heap.size≤w4.heap.size:=e4.size;have hP:Aside (∀v5 w5,w5.ownsRow wb.heap.size 48 7 v5 (TAt.lits.length+TBt.lits.length) (X3++X4)→w4.grownBy w5 v3.ownBlock→eJ n w Tt (.returned (.tuple #[v5,.bool (TAt.litsB&&TBt.litsB)])) w5):=by
   show∀v5 w5,_;intro v5 w5 h1 h2;have d7:=hX3.lt;have b4:Bz wb w5:=e4.grown h2 c0 fun k hk=>(d7 k hk).1
   have f2:Below wb.heap.size w4 w5:=(aG _ _).grown h2 c0 fun k hk=>(d7 k hk).1
   refine⟨v5,by rw [b3.o.2.1],⟨X3++X4,?_,?_⟩,hB.trans (b4.mono hB.size)⟩
   ·rw [b3.o.1,aI];exact gM h1 hB.size
   ·rw [b3.o.1];exact(hT3.app hT4).below f2 b9
  clear hT3 hT4;cases hba:TAt.litsB
  ·rw [hba] at hP;clear hba b3
   go_wp2_with (at_builtin;refine gE elTm _ rfl _ _ rfl wb.heap.size _ _ X3 rfl hX3 v4 _ X4 rfl b5 d6 d8 a9.1 a9.2 c0 ?_;intro v5 w5 h5 c7 _)
   go_ret2
   exact hP.o _ _ h5 c7
  ·rw [hba] at hP;clear hba b3
   go_wp2_with (at_builtin;refine gE elTm _ rfl _ _ rfl wb.heap.size _ _ X3 rfl hX3 v4 _ X4 rfl b5 d6 d8 a9.1 a9.2 c0 ?_;intro v5 w5 h5 c7 _)
   go_ret2
   exact hP.o _ _ h5 c7
 have b2:=b0.o (by first|rfl|trivial) (by first|rfl|trivial);have f4:w.heap.size≤wb.heap.size:=hB.size;have hP:Aside (∀w5 w6:Wo,Bz wb w5→w5.heap[w6.heap.size]?=some (.cells (tA k v nm g p1 n1 q1 p2 n2 q2 a len c) 48)→wb.heap.size≤w6.heap.size→∀b:Bool,b=(Tt.kd !=0)→eJ n w Tt (.returned (.tuple #[.slice (some ⟨w6.heap.size,0,none⟩) 1 1,.bool b])) w5):=by
  show∀w5 w6:Wo,_;intro w5 w6 h5 h6 h7 bb f3;refine⟨_,by rw [b2.2,f3],⟨[.int .i64 k,.int .i64 v,.string nm,.bool g,.slice p1 n1 q1,.slice p2 n2 q2,.slice a len c],?_,?_⟩,hB.trans (h5.mono hB.size)⟩
  ·rw [b2.1];exact⟨rfl,.inr ⟨_,_,_,rfl,by omega,h6,aA _,by unfold maxLen;omega,rfl,rfl⟩⟩
  ·rw [b2.1];exact⟨_,[],by simp,e8.o w5 (hB.trans (h5.mono hB.size)),rfl⟩
 have d5:=fun w2 (hb:Bz wb w2)=>c8.o w2 (hB.trans (hb.mono hB.size))
 have a4:Aside (∀w2,Bz wb w2→_):=d5;obtain⟨K,hK⟩:=enm Tt.kd;have f5:0≤K:=by rw [←hK];exact PO Tt
 rw [hK] at a4 hP;clear d5 c8 b2 b0 b1 c6 c1 hK
 go_upto_region 7 with fail
 clear x0 x1 x2 x3 x4 x5 x6;have fd:Bz wb w2.drew:=e2.trans (cU _ _);refine hRp (Bz wb) 6 (Heavy.lights [0,2] (.two 1 3 (.one 3 (Heavy.lights [4,5] .done)) (.light 4 (.one 1 (.light 5 .done))))) (by kernel_rfl) (by kernel_rfl) fd ?_;simp only [Heavy.lights,aX,bI,aW,bD]
 iterate 2 ((apply hLm;(exact rfl);(exact rfl);(intro a5 hw;have z0:=(fa.o a5 hw).1;have z1:=(fa.o a5 hw).2.1;have z2:=(fa.o a5 hw).2.2.1;have z3:=(fa.o a5 hw).2.2.2.1;have z4:=(fa.o a5 hw).2.2.2.2.1;have z5:=(fa.o a5 hw).2.2.2.2.2.1;have z6:=(fa.o a5 hw).2.2.2.2.2.2;go_simp;exact rfl);(go_simp;exact rfl)))
 (apply hTn;(exact rfl);(exact rfl);(exact rfl);(exact rfl))
 ·go_simp
  have g1:Bz wb ((w2.drew).alloc (.cells (tA k v nm g p1 n1 q1 p2 n2 q2 a len c) 48)):=fd.alloc fd.size _;have gq:=aK (w2.drew) ((.cells (tA k v nm g p1 n1 q1 p2 n2 q2 a len c) 48):Obj);have gs:((w2.drew).alloc ((.cells (tA k v nm g p1 n1 q1 p2 n2 q2 a len c) 48):Obj)).heap.size=w2.drew.heap.size+1:=by simp
  refine⟨g1,?_⟩
  (refine hNa (by go_simp;exact rfl) ?_)
  (apply hOn;(exact rfl);(exact rfl));go_simp
  refine(a4.o _ g1).mono ?_;rintro e w5 ⟨rfl,b4⟩;have g5:=g1.trans (b4.mono g1.size);refine⟨_,rfl,g5,?_⟩
  (refine hNa (by go_simp;exact rfl) ?_)
  iterate 2 ((apply hLm;(exact rfl);(exact rfl);(intro a5 hw;go_simp;exact rfl);(go_simp;exact rfl)))
  apply hPe;show wpList _ _ _ _ _ _;have hQ:Aside (eJ n w Tt _ _):=hP.o w5 (w2.drew) g5 ((b4.block _ (by rw [gs];omega)).trans gq) fd.size _ rfl;clear hP a4 gq gs b4;go_wp2
  go_ret2
  exact hQ.o
 ·go_simp
  refine(a4.o _ fd).mono ?_;rintro e w5 ⟨rfl,b4⟩;have g5:=fd.trans (b4.mono fd.size);refine⟨_,rfl,g5,?_⟩
  (refine hNa (by go_simp;exact rfl) ?_)
  (apply hLm;(exact rfl);(exact rfl);(intro a5 hw;go_simp;exact rfl);(go_simp;exact rfl))
  (apply hOn;(exact rfl);(exact rfl));go_simp
  have g6:Bz wb (w5.alloc (.cells (tA k v nm g p1 n1 q1 p2 n2 q2 a len c) 48)):=g5.alloc g5.size _;have gq:=aK w5 ((.cells (tA k v nm g p1 n1 q1 p2 n2 q2 a len c) 48):Obj);refine⟨g6,?_⟩
  (refine hNa (by go_simp;exact rfl) ?_)
  (apply hLm;(exact rfl);(exact rfl);(intro a5 hw;go_simp;exact rfl);(go_simp;exact rfl))
  apply hPe;show wpList _ _ _ _ _ _;have hQ:Aside (eJ n w Tt _ _):=hP.o _ w5 g6 gq g5.size _ rfl;clear hP a4 gq;go_wp2
  go_ret2
  exact hQ.o
def AG:∀T:Tm,LitsOk 59 T
 | .mk k v nm g num den args=>Ap k v nm g num den args fun T' f1=>AG T'
termination_by T=>SizeOf.sizeOf T
decreasing_by
 simp_wf
 have:=tQ f1;omega
end
