/- Lemmas for the text Card; no condition. -/
import Derived.Test.YtbdpdeonapmlgaaGreatDoorBf
import Derived.Recover
set_option linter.all false
namespace Go.Ev
noncomputable section
variable {ops:List Oper} {bef l:List Nat} {s n k:Nat} {h h':H} {call:bP} {pc:List PC} {e e':Env} {t:TypeId} {o:Oper} {x y:Operand} {v:V} {w w':World}
section
variable {P:Program} {m:Mp} {w:World}
section
variable {n:Nat} {ops:Array Oper} {base:DOp2} {tl:List Nat} {call:bP} {e':Env} {h':H} {m0:Mp} {h0:H} {w0:World} {listed:Array Bool} {T:Nat} {l:List Nat} {e:Env} {h:H} {pn:List PN} {pc:List PC} {a:Act}
theorem MO (a2:mE ops.toList (aH [] ops.toList)=true) (a1:eX P n ops=true) {s:Nat} (k:Inv P n ops base tl call e' h' m0 h0 w0 listed T (s::l) e h pn pc m a w) {o:Oper} (ho:ops.toList[s]?=some o)
  (c5:∀x∈o.after.toList,gO x=true→Sb listed x.on=true) (b6:∀x,Nat.testBit (natAt (aH [] ops.toList) s) x=true→Sb listed x=true)
  {m':Mp} {w':World} {u:Value} {v:V} {h1:H} {pn1:List PN} {b5:List PC} (hm:m.le m') (hR:R m' v u)
  (a0:(eT P base ops.toList (aH [] ops.toList) l).run call (fV o.dst v e) h1 pn1 b5= .ok e' h')
  (e3:Fr m0 h0 w0 m' (eJ (Sb (listed.setIfInBounds s true)) pn1 h1) w')
  (f1:∀x,Nat.testBit (natAt (aH [] ops.toList) s) x.idx=false→(x∈pn↔x∈pn1)) (e9:∀c∈pc,Nat.testBit (natAt (aH [] ops.toList) s) c.idx=false→c∈b5)
  (hh:∀c∈pc,Nat.testBit (natAt (aH [] ops.toList) s) c.idx=false→∀(q:H→Option V) v,(c.chk=fun h'=>eqO v (q h'))→q (hq h)=some v→q (hq h1)=some v)
  (f0:pn1.Pairwise (fun x y=>x.id≠y.id∧x.idx≠y.idx)) (b9:∀x∈pn1,x∈pn) (e6:h.next.toNat≤h1.next.toNat)
  (e7:∀x∈pn1,aB x.id h1.mem=none) (e8:∀x∈pn1,(∀b sz els f ro,aB b h1.mem=some (.cells sz els f ro)→f≠x.id)∧(Sb listed x.idx=false→m' x.id=none)):
  Inv P n ops base tl call e' h' m0 h0 w0 (listed.setIfInBounds s true) (T|||2^s) l (fV o.dst v e) h1 pn1 b5 m' (a.put o.dst u) w':=by
 have c1:ops[s]?=some o:=by simpa using ho
 have c6:s<listed.size:=by rw [k.lsz];exact(Array.getElem?_eq_some_iff.1 c1).1
 obtain⟨c4,hdo⟩:=iK a1 c1;obtain⟨c7,hbT,_,hpl⟩:=nF k.plan;have f4:=k.le;have a4:=Sb_set (listed:=listed) c6;have a8:∀j,Sb listed j=true→Sb (listed.setIfInBounds s true) j=true:=fun j hj=>by rw [a4];simp [hj]
 have a7:∀j,Sb (listed.setIfInBounds s true) j=false→j≠s∧Sb listed j=false:=fun j hj=>by
  rw [a4] at hj;simpa using hj
 have c3:=AU a2 a1 k ho (fun x hx _=>b6 x hx) v;refine⟨⟨by simp [k.lsz],?_,?_,?_,?_,by rw [JX];exact k.size,k.le,?_,?_,e3,k.gl.mono hm,f0,?_,?_⟩,hpl,a0⟩
 ·intro j oj hj hS x hx hb;rw [a4] at hS;simp only [gJ,eO] at hS;rcases hS with rfl|hS
  ·rw [ho] at hj;cases hj;exact a8 _ (c5 x hx hb)
  ·exact a8 _ (k.down j oj hj hS x hx hb)
 ·intro j hj;rw [a4] at hj;rw [fN];simp only [gJ,eO] at hj ⊢;rcases hj with rfl|hj
  ·exact .inl rfl
  ·exact .inr (k.sT j hj)
 ·intro j hj x hx;rw [fN] at hj ⊢;simp only [gJ,eO] at hj ⊢;rcases hj with rfl|hj
  ·exact .inr (hbT x hx)
  ·exact .inr (k.tT j hj x hx)
 ·intro j oj hj b7 hS;obtain⟨a5,hSj⟩:=a7 j hS;rw [fN] at b7;simp only [gJ,eO] at b7;have b7:Nat.testBit T j=true:=b7.resolve_left a5;have d0:Nat.testBit (natAt (aH [] ops.toList) s) j=false:=by
   cases hb:Nat.testBit (natAt (aH [] ops.toList) s) j with
   |false=>rfl
   |true=>rw [b6 j hb] at hSj;cases hSj
  obtain⟨q1,q2⟩:=AA (v:=v) (e:=e) (i:=s) k.le a1 hdo hj (c3 j oj hj b7 hSj);refine(k.pend j oj hj b7 hSj).mono q1 q2 (fun x hx=>f1 x (by rw [hx];exact d0)) (fun c hc c8=>e9 c hc (by rw [c8];exact d0)) ?_;rintro q v1 ⟨c,hc,c8,hck⟩ d1;exact hh c hc (by rw [c8];exact d0) q v1 hck d1
 ·rw [sS k.le hdo,JZ];obtain⟨L,h1,h2⟩:=k.dfr;exact⟨L,h1,h2.mono hm⟩
 ·intro t ht;rw [JY (by rw [k.size];exact ht),kU (by omega) (fun x hx=>by have:=fM hdo hx;omega)]
  by_cases e1:o.dst=some t
  ·rw [if_pos e1,if_pos e1];exact .inr hR
  ·rw [if_neg e1,if_neg e1];rcases k.env t ht with⟨x,ox,g1,g2,g3,g4⟩|g1
   ·refine .inl ⟨x,ox,by rw [fN];simp [g1],?_,g3,g4⟩;rw [a4];have:x≠s:=fun e2=>by subst e2;rw [g1] at c7;cases c7
    simp [this,g2]
   ·exact .inr (g1.mono hm)
 ·intro x hx;obtain⟨g1,g2,g3,g4,g5⟩:=k.pn1 x (b9 x hx);exact⟨by rw [fN];simp [g1],g2,g3,aZ g4 e6,e7 x hx⟩
 ·intro x hx;obtain⟨g1,g2⟩:=e8 x hx;exact⟨g1,(k.pn2 x (b9 x hx)).2.1,fun hS=>g2 (a7 _ hS).2⟩
theorem IN (c2:eN P call) (a2:mE ops.toList (aH [] ops.toList)=true) (a1:eX P n ops=true) {s:Nat} (k:Inv P n ops base tl call e' h' m0 h0 w0 listed T (s::l) e h pn pc m a w) {o:Oper} (ho:ops.toList[s]?=some o)
  (c5:∀x∈o.after.toList,gO x=true→Sb listed x.on=true) (b6:∀x,Nat.testBit (natAt (aH [] ops.toList) s) x=true→Sb listed x=true)
  (hk:fL ops.toList (aH [] ops.toList) s o= .heavy) {K:Act→World→Prop} {Q:Exit→Act→World→Prop}
  (hn:∀e1 h1 pn1 b5 m' a' w',Inv P n ops base tl call e' h' m0 h0 w0 (listed.setIfInBounds s true) (T|||2^s) l e1 h1 pn1 b5 m' a' w'→K a' w'):wpOp P ops Q s K a w:=by
 have c1:ops[s]?=some o:=by simpa using ho
 have c6:s<listed.size:=by rw [k.lsz];exact(Array.getElem?_eq_some_iff.1 c1).1
 obtain⟨c4,hdo⟩:=iK a1 c1;obtain⟨c7,hbT,_,hpl⟩:=nF k.plan;have hE:=k.looksR a1 ho b6;have a4:=Sb_set (listed:=listed) c6;have a0:=k.run;rw [eT] at a0;simp only [jR,ho,hk] at a0;have a6:∀x∈pn,x.idx≠s:=fun x hx f3=>by have:=(k.pn1 x hx).1;rw [f3,c7] at this;cases this
 unfold wpOp;simp only [c1];cases hgd:gdC ops.toList o (bW e (cE ops.toList o)) with
 |none=>rw [hgd] at a0;cases a0
 | some b=>
  rw [hgd] at a0;have hw:=zR a1 hE hgd;cases b with
  | false=>
   simp only at a0;rw [if_neg (by rw [hw];simp)];refine hn _ _ _ _ m _ w (MO a2 a1 k ho c5 b6 (Mp.le_refl m) (show R m cI undef by simp [R,Rl,cI,undef]) a0 ?_ (fun _ _=>Iff.rfl) (fun _ hc _=>hc) (fun _ _ _ _ _ _ hq=>hq) k.pnd (fun _ hx=>hx) (aA _)
    (fun x hx=>(k.pn1 x hx).2.2.2.2) (fun x hx=>⟨(k.pn2 x hx).1,(k.pn2 x hx).2.2⟩))
   rw [yR k.toCore c6 a6];exact k.fr
  | true=>
   simp only at a0;rw [if_pos hw];refine .inl ?_;cases hv:hvC P o.op call (bW e (cE ops.toList o)) (eJ (Nat.testBit (natAt (aH [] ops.toList) s)) pn h) with
   |bad=>rw [hv] at a0;cases a0
   | ok v h1=>
    rw [hv] at a0;simp only at a0;cases hck:rX (hq h1) (fS (fun c=>!Nat.testBit (natAt (aH [] ops.toList) s) c.idx) pc) with
    |false=>rw [hck] at a0;cases a0
    | true=>
     rw [hck] at a0;simp only [cN] at a0;have hs:∀x ox,aB x (dH (Nat.testBit (natAt (aH [] ops.toList) s)) pn h.mem)=some ox→aB x (dH (Sb listed) pn h.mem)=some ox:=by
      intro x ox hx;rcases sF _ _ _ k.pid _ _ hx with⟨y,g1,g2,g3,g4⟩|⟨_,g1⟩
      ·rw [←g3,kT _ _ _ k.pid y g1 (b6 _ g2),g4]
      ·exact k.sub _ _ g1
     have f2:HR m (eJ (Nat.testBit (natAt (aH [] ops.toList) s)) pn h) w:=k.fr.hr.sub (mem':=dH (Nat.testBit (natAt (aH [] ops.toList) s)) pn h.mem) hs (aA _);have d9:=Ac c2 hE k.gl f2 c4 hv;refine EE (n:=n) (e:=e) d9 ?_;intro u m' w' hF hR;have d2:∀x,(∃y∈pn,Sb listed y.idx=true∧Nat.testBit (natAt (aH [] ops.toList) s) y.idx=false∧y.id=x)→aB x (dH (Nat.testBit (natAt (aH [] ops.toList) s)) pn h.mem)=none∧∃ox,aB x (dH (Sb listed) pn h.mem)=some ox:=by
      rintro x ⟨y,g1,g2,g3,rfl⟩;refine⟨?_,y.ob,kT _ _ _ k.pid y g1 g2⟩;rw [nL]
      ·exact(k.pn1 y g1).2.2.2.2
      ·intro z z1 z2 z3;have a5:z≠y:=fun e1=>by subst e1;rw [g3] at z2;cases z2
       exact(k.inj z1 g1 a5).1 z3
     have d3:∀x,(∃y∈pn,Sb listed y.idx=true∧Nat.testBit (natAt (aH [] ops.toList) s) y.idx=false∧y.id=x)→Priv (eJ (Sb listed) pn h) x:=by
      rintro x ⟨y,g1,g2,g3,rfl⟩ z ox oz a5 hox hoz hsf;have e1:ox=y.ob:=by
       have h9:aB y.id (dH (Sb listed) pn h.mem)=some ox:=hox;rw [kT _ _ _ k.pid y g1 g2] at h9;exact(aJ h9).symm
      subst e1;have h9:aB z (dH (Sb listed) pn h.mem)=some oz:=hoz;cases hyo:y.ob with
      | cells sz els f ro=>
       have hf:=(k.pn2 y g1).2.1 _ _ _ _ hyo;rw [hyo] at hsf;cases oz with
       | cells sz' els' f' ro'=>
        have d4:f'=f:=hsf;rcases sF _ _ _ k.pid _ _ h9 with⟨y2,b1,b2,b3,b4⟩|⟨_,b1⟩
        ·have:=(k.pn2 y2 b1).2.1 _ _ _ _ b4;apply a5;rw [←b3,←this,d4,hf]
        ·exact(k.pn2 y g1).1 _ _ _ _ _ b1 (d4.trans hf)
       |_=>exact hsf
      |_=>rw [hyo] at hsf;cases oz<;>exact hsf
     have d7:Fr m ⟨dH (Nat.testBit (natAt (aH [] ops.toList) s)) pn h.mem,(eJ (Sb listed) pn h).fams,(eJ (Sb listed) pn h).next⟩ w m' h1 w':=hF;have a9:(fS (fun x:PN=>!Nat.testBit (natAt (aH [] ops.toList) s) x.idx) pn).Pairwise (fun x y=>x.id≠y.id):=zC _ k.pid;have hX:∀x,(∃y∈pn,Sb listed y.idx=true∧Nat.testBit (natAt (aH [] ops.toList) s) y.idx=false∧y.id=x)↔∃y∈fS (fun x:PN=>!Nat.testBit (natAt (aH [] ops.toList) s) x.idx) pn,Sb (listed.setIfInBounds s true) y.idx=true∧y.id=x:=by
      intro x;constructor
      ·rintro⟨y,g1,g2,g3,g4⟩;exact⟨y,(lP _ _ _).2 ⟨g1,by simp [g3]⟩,by rw [a4];simp [g2],g4⟩
      ·rintro⟨y,g1,g2,g3⟩;obtain⟨g4,g5⟩:=(lP _ _ _).1 g1;rw [a4,lV (a6 y g4),nA] at g2;exact⟨y,g4,g2,by simpa using g5,g3⟩
     have d8:=Fr.merge (m':=m') (w':=w') (H1:=eJ (Sb listed) pn h) k.fr.hr (memb:=dH (Nat.testBit (natAt (aH [] ops.toList) s)) pn h.mem) hs
      (X:=fun x=>∃y∈pn,Sb listed y.idx=true∧Nat.testBit (natAt (aH [] ops.toList) s) y.idx=false∧y.id=x)
      (by
       intro x ox hx;rcases sF _ _ _ k.pid _ _ hx with⟨y,g1,g2,g3,g4⟩|⟨_,g1⟩
       ·cases hb:Nat.testBit (natAt (aH [] ops.toList) s) y.idx with
        |false=>exact .inl ⟨y,g1,g2,hb,g3⟩
        |true=>exact .inr (by rw [←g3,kT _ _ _ k.pid y g1 hb,g4])
       ·refine .inr ?_;rw [nL]
        ·exact g1
        ·intro z z1 z2 z3;have:=(k.pn1 z z1).2.2.2.2;rw [z3,g1] at this;cases this)
      d2 d3 d7 (mem2:=dH (Sb (listed.setIfInBounds s true)) (fS (fun x:PN=>!Nat.testBit (natAt (aH [] ops.toList) s) x.idx) pn) h1.mem)
      (by
       intro x ox;constructor
       ·intro hx;rcases sF _ _ _ a9 _ _ hx with⟨y,g1,g2,g3,g4⟩|⟨g0,g1⟩
        ·have b8:=(hX x).2 ⟨y,g1,g2,g3⟩;refine .inr ⟨b8,?_⟩;obtain⟨g5,g6⟩:=(lP _ _ _).1 g1;rw [a4,lV (a6 y g5),nA] at g2;show aB x (dH (Sb listed) pn h.mem)=some ox;rw [←g3,kT _ _ _ k.pid y g5 g2,g4]
        ·refine .inl ⟨?_,g1⟩;intro b8;obtain⟨y,b1,b2,b3⟩:=(hX x).1 b8;exact g0 y b1 b2 b3
       ·rintro(⟨g1,g2⟩|⟨g1,g2⟩)
        ·rw [nL]
         ·exact g2
         ·intro y b1 b2 b3;exact g1 ((hX x).2 ⟨y,b1,b2,b3⟩)
        ·obtain⟨y,b1,b2,b3⟩:=(hX x).1 g1;rw [←b3,kT _ _ _ a9 y b1 b2];obtain⟨g5,g6⟩:=(lP _ _ _).1 b1;rw [a4,lV (a6 y g5),nA] at b2;have h9:aB x (dH (Sb listed) pn h.mem)=some ox:=g2;rw [←b3,kT _ _ _ k.pid y g5 b2] at h9;exact h9)
     have b9:∀x∈fS (fun x:PN=>!Nat.testBit (natAt (aH [] ops.toList) s) x.idx) pn,x∈pn∧Nat.testBit (natAt (aH [] ops.toList) s) x.idx=false:=fun x hx=>by
      obtain⟨g5,g6⟩:=(lP _ _ _).1 hx;exact⟨g5,by simpa using g6⟩
     refine hn _ _ _ _ m' _ w' (MO a2 a1 k ho c5 b6 hF.le hR a0 (k.fr.trans d8) ?_ ?_ ?_ (zC _ k.pnd) (fun x hx=>(b9 x hx).1) hF.nxt ?_ ?_)
     ·intro x hx;rw [lP];simp [hx]
     ·intro c hc c9;rw [lP];simp [hc,c9]
     ·intro c hc c9 q v1 d1 f5;have:=KJ hck c (by rw [lP];simp [hc,c9]);rw [d1] at this;simp only [eqO] at this;cases hx:q (hq h1) with
      |none=>rw [hx] at this;cases this
      |some v2=>rw [hx] at this;rw [beq_eq this]
     ·intro x hx;obtain⟨g1,g2⟩:=b9 x hx;cases hxo:aB x.id h1.mem with
      |none=>rfl
      | some ob=>
       exfalso;obtain⟨lx,hlx,_⟩:=hF.hr.obj _ _ hxo;have c0:=hF.old _ _ hlx (k.pn1 x g1).2.2.2.1;have e0:Sb listed x.idx=true:=by
        cases hs:Sb listed x.idx with
        |true=>rfl
        |false=>rw [(k.pn2 x g1).2.2 hs] at c0;cases c0
       have b8:∃y∈pn,Sb listed y.idx=true∧Nat.testBit (natAt (aH [] ops.toList) s) y.idx=false∧y.id=x.id:=⟨x,g1,e0,g2,rfl⟩;obtain⟨nb,ox,hox⟩:=d2 _ b8;rcases hF.back _ _ _ hxo hlx with h1|⟨b0,ob0,l0,hb0,hl0,he,_⟩
       ·have:=k.fr.hr.lt _ _ c0;omega
       ·have a3:aB b0 (dH (Nat.testBit (natAt (aH [] ops.toList) s)) pn h.mem)=some ob0:=hb0;have a5:b0≠x.id:=fun e1=>by rw [e1,nb] at a3;cases a3
        exact(d3 _ b8).sep k.fr.hr hox (hs _ _ a3) c0 hl0 a5 he.symm
     ·intro x hx;obtain⟨g1,g2⟩:=b9 x hx;refine⟨?_,?_⟩
      ·intro b sz els f ro hb e1;rcases hF.famold _ _ _ _ _ hb with h1|⟨b0,sz0,els0,ro0,hb0⟩
       ·have:=(k.pn1 x g1).2.2.2.1;have d6:h.next.toNat≤f.toNat:=h1;rw [e1] at d6;omega
       ·have a3:aB b0 (dH (Nat.testBit (natAt (aH [] ops.toList) s)) pn h.mem)=some (.cells sz0 els0 f ro0):=hb0;rcases sF _ _ _ k.pid _ _ a3 with⟨y,y1,y2,y3,y4⟩|⟨_,y1⟩
        ·have hf:=(k.pn2 y y1).2.1 _ _ _ _ y4;have a5:y≠x:=fun e2=>by subst e2;rw [g2] at y2;cases y2
         exact(k.inj y1 g1 a5).1 (by rw [←hf,e1])
        ·exact(k.pn2 x g1).1 _ _ _ _ _ y1 e1
      ·intro hS;cases c0:m' x.id with
       |none=>rfl
       |some lx=>
        have:=hF.old _ _ c0 (k.pn1 x g1).2.2.2.1;rw [(k.pn2 x g1).2.2 hS] at this;cases this
theorem GG (a2:mE ops.toList (aH [] ops.toList)=true) (a1:eX P n ops=true):∀(l:List Nat) (T:Nat) (e:Env) (h:H) (pn:List PN) (pc:List PC),Inv P n ops base tl call e' h' m0 h0 w0 listed T l e h pn pc m a w→lR ops.toList (aH [] ops.toList) tl l=true→
  ∃T1 l1 e1 h1 pn1 b5,Inv P n ops base tl call e' h' m0 h0 w0 listed T1 l1 e1 h1 pn1 b5 m a w∧lR ops.toList (aH [] ops.toList) tl l1=true∧T|||iM l=T1|||iM l1∧(l1= []∨∃s l2 o,l1=s::l2∧ops.toList[s]?=some o∧fL ops.toList (aH [] ops.toList) s o= .heavy)
 | [],T,e,h,pn,pc,k,hc=>⟨T,[],e,h,pn,pc,k,hc,rfl,.inl rfl⟩
 | s::l,T,e,h,pn,pc,k,hc=>by
  have d5:T|||iM (s::l)=(T|||2^s)|||iM l:=by rw [iM,Nat.or_assoc]
  obtain⟨_,_,⟨o,ho⟩,_⟩:=nF k.plan;cases hk:fL ops.toList (aH [] ops.toList) s o with
  |light=>
   obtain⟨e1,b5,k1⟩:=Fu a2 a1 k ho hk;rw [d5];exact GG a2 a1 l _ _ _ _ _ k1 (FD hc).2
  |new=>
   obtain⟨e1,h1,pn1,k1⟩:=Ft a2 a1 k ho hk (fun nv e4=>YE e4);rw [d5];exact GG a2 a1 l _ _ _ _ _ k1 (FD hc).2
  |heavy=>exact⟨T,s::l,e,h,pn,pc,k,hc,rfl,.inr ⟨s,l,o,rfl,ho,hk⟩⟩
end
end
section
variable {P:Program} {m:Mp} {w:World}
theorem mJ {α:Type} {n n':N8 α} (h:∀d,fW d n=fW d n'):n=n':=by
 cases n;cases n';congr 1<;>first|exact h .d0|exact h .d1|exact h .d2|exact h .d3|exact h .d4|exact h .d5|exact h .d6|exact h .d7
theorem YS {x y:Mem} (h:∀i,aB i x=aB i y):x=y:=
 mJ fun a=>mJ fun b=>mJ fun c=>mJ fun d=>mJ fun e=>h ⟨a,b,c,d,e⟩
theorem Bh {x y:Fam} (h:∀i,aQ i x=aQ i y):x=y:=
 mJ fun a=>mJ fun b=>mJ fun c=>mJ fun d=>mJ fun e=>h ⟨a,b,c,d,e⟩
theorem HM {b:Id} {o:Nat} {xs:List V} (hw:wr h b o xs k= .ok v h'):∃sz els f els' ty,aB b h.mem=some (.cells sz els f (.rw ty))∧
  (∀h2:H,aB b h2.mem=aB b h.mem→wr h2 b o xs k= .ok cI (eD (fX h2 f b) b (.cells sz els' f (.rw ty)))):=by
 unfold wr at hw;cases hm:aB b h.mem with
 |none=>rw [hm] at hw;cases hw
 | some ob=>
  rw [hm] at hw;cases ob with
  | cells sz els f ro=>
   simp only [wrO] at hw;cases ro with
   |fz=>cases hw
   |fr _=>cases hw
   | rw ty=>
    simp only at hw;cases he:lM els (Nat.div o sz) with
    |none=>rw [he] at hw;cases hw
    | some el=>
     rw [he] at hw;simp only at hw;generalize hx:(Bool.rec (motive:=fun _=>Option (List V)) (gE (Nat.mod o sz) el xs) (some xs) (Nat.beq (Nat.mod o sz) 0&&Nat.beq k sz):Option (List V))=x at hw;cases x with
     |none=>cases hw
     |some el'=>
      refine⟨sz,els,f,nD els (Nat.div o sz) el',ty,rfl,?_⟩;intro h2 b9;unfold wr;rw [b9];simp only [wrO,he,hx]
  |_=>cases hw
theorem DY (h:jT ops s=true):∃o t x y,ops[s]?=some o∧o.op= .store t x y∧o.dst=none∧o.guard=none:=by
 unfold jT at h;rw [jR] at h;cases ho:ops[s]? with
 |none=>rw [ho] at h;cases h
 | some o=>
  rw [ho] at h;simp only at h;split at h
  ·rename_i t x y h1 h2 h3;exact⟨o,t,x,y,rfl,h1,h2,h3⟩
  ·cases h
theorem MM (h1:o.op= .store t x y) (h2:o.dst=none):fL ops bef s o= .heavy:=by
 simp [fL,sK,h1,h2,isNew,isHeavy]
theorem UH (hv:hvC P (.store t x y) call e h= .ok v h'):
  ∃b o c nn,(aF x).run e= .p b o∧wr h b o c nn= .ok v h'∧∀h2,hvC P (.store t x y) call e h2=wr h2 b o c nn:=by
 have hH:isHeavy (.store t x y)=true:=rfl;unfold hvC at hv ⊢;simp only [hH,cN,pB] at hv ⊢;cases hs:bH P t with
 |none=>rw [hs] at hv;cases hv
 | some nn=>
  simp only [hs] at hv ⊢;obtain⟨b,o,e1,hv⟩:=AR hv;cases hc:dE ((aF y).run e) with
  |none=>simp only [hc] at hv;cases hv
  | some c=>
   simp only [hc] at hv ⊢;cases hn:Nat.beq (dP c) nn with
   |false=>rw [hn] at hv;cases hv
   |true=>
    rw [hn] at hv;refine⟨b,o,c,nn,e1,hv,fun h2=>?_⟩;rw [e1];rfl
def StoreIs (P:Program) (ops:List Oper) (s:Nat) (e:Env) (call:bP) (b:Id) (o:Nat) (c:List V) (nn:Nat):Prop:=
 storeAt ops s e=some b∧∀base bef l h e' h' pc,(eT P base ops bef (s::l)).run call e h [] pc= .ok e' h'→∃v h1 c6,wr h b o c nn= .ok v h1∧(eT P base ops bef l).run call e h1 [] c6= .ok e' h'
theorem OH {base:DOp2} (c5:jT ops s=true)
  (hv:(eT P base ops bef (s::l)).run call e h [] pc= .ok e' h'):∃b o c nn,StoreIs P ops s e call b o c nn:=by
 obtain⟨op,t,x,y,ho,h1,h2,h3⟩:=DY c5;have key:∀base bef l a0 e2 a6 a5,(eT P base ops bef (s::l)).run call e a0 [] a5= .ok e2 a6→∃v h4 b6,hvC P (.store t x y) call (bW e (cE ops op)) a0= .ok v h4∧(eT P base ops bef l).run call e h4 [] b6= .ok e2 a6:=by
  intro base bef l a0 e2 a6 a5 hr;have c3:=MM (ops:=ops) (bef:=bef) (s:=s) h1 h2;rw [eT] at hr;simp only [jR,ho,c3] at hr;have c0:gdC ops op (bW e (cE ops op))=some true:=by simp [gdC,h3]
  rw [c0] at hr;simp only at hr;have c4:eJ (Nat.testBit (natAt bef s)) [] a0=a0:=by cases a0;rfl
  rw [c4,h1] at hr;cases hc:hvC P (.store t x y) call (bW e (cE ops op)) a0 with
  |bad=>rw [hc] at hr;cases hr
  | ok v h4=>
   rw [hc] at hr;simp only at hr;cases hck:rX (hq h4) (fS (fun c=>!Nat.testBit (natAt bef s) c.idx) a5) with
   |false=>rw [hck] at hr;cases hr
   |true=>
    rw [hck] at hr;simp only [cN,h2,fV,fS] at hr;exact⟨v,h4,_,rfl,hr⟩
 obtain⟨v,h4,b6,a1,a2⟩:=key _ _ _ _ _ _ _ hv;obtain⟨b,o,c,nn,b1,b2,b3⟩:=UH a1;refine⟨b,o,c,nn,?_,?_⟩
 ·unfold storeAt;rw [jR,ho];simp only [h1,b1]
 ·intro base bef l a0 e2 a6 a5 hr;obtain⟨v',h4',pc3',c1,c2⟩:=key _ _ _ _ _ _ _ hr;exact⟨v',h4',pc3',by rw [←b3];exact c1,c2⟩
theorem yQ (b:Id):∀l:List Id,oV b l=true↔b∈l
 | []=>by simp [oV]
 | a::l=>by
  rw [oV];cases h:Id.beq a b with
  |true=>have:=Id.beq_iff.1 h;simp [this]
  |false=>
   have:a≠b:=fun e=>by rw [Id.beq_iff.2 e] at h;cases h
   simp [yQ b l,eH this]
theorem TD {b1 b2 f1 f2:Id} {sz1 sz2:Nat} {els1 els2:List (List V)} {X1 X2:O} (hb:b1≠b2) (hf:f1≠f2) (b7:b2∉aQ f1 h.fams) (b8:b1∉aQ f2 h.fams):
  eD (fX (eD (fX h f1 b1) b1 X1) f2 b2) b2 X2=eD (fX (eD (fX h f2 b2) b2 X2) f1 b1) b1 X1:=by
 obtain⟨mem,fams,next⟩:=h;simp only [pY,vD] at*;have g2:aQ f2 (if aQ f1 fams= [] then fams else fY f1 [] fams)=aQ f2 fams:=by
  split
  ·rfl
  ·rw [iO (eH hf)]
 have g1:aQ f1 (if aQ f2 fams= [] then fams else fY f2 [] fams)=aQ f1 fams:=by
  split
  ·rfl
  ·rw [iO hf]
 rw [g1,g2];have e1:(dC b2 (some X2) (gG (jA b2 (aQ f2 fams)) (dC b1 (some X1) (gG (jA b1 (aQ f1 fams)) mem))))=(dC b1 (some X1) (gG (jA b1 (aQ f1 fams)) (dC b2 (some X2) (gG (jA b2 (aQ f2 fams)) mem)))):=by
  refine YS fun x=>?_
  by_cases x1:x=b1
  ·subst x1;rw [fR,eM hb,kR,fR];simp [oQ,b8]
  ·by_cases x2:x=b2
   ·subst x2;rw [fR,eM x1,kR,fR];simp [oQ,b7]
   ·rw [eM x2,kR,eM x1,kR,eM x1,kR,eM x2,kR];split<;>split<;>rfl
 have e2:(if aQ f2 fams= [] then(if aQ f1 fams= [] then fams else fY f1 [] fams) else fY f2 [] (if aQ f1 fams= [] then fams else fY f1 [] fams))=(if aQ f1 fams= [] then(if aQ f2 fams= [] then fams else fY f2 [] fams) else fY f1 [] (if aQ f2 fams= [] then fams else fY f2 [] fams)):=by
  refine Bh fun x=>?_
  by_cases x1:x=f1
  ·subst x1;split<;>split<;>simp [nU,iO hf, *]
  ·by_cases x2:x=f2
   ·subst x2;split<;>split<;>simp [nU,iO x1, *]
   ·split<;>split<;>simp [iO x1,iO x2, *]
 rw [e1,e2]
theorem FQ:∀{a b:List (List V)},qR a b=true→a=b
 | [],[],_=>rfl
 | [],_::_,h=>by simp [qR] at h
 |_::_,[],h=>by simp [qR] at h
 |a::l,b::r,h=>by
  simp only [qR,aM] at h;rw [qQ h.1,FQ h.2]
theorem XB {s1 s2:Nat} {pn:List PN} (i1:jT ops s1=true) (i2:jT ops s2=true)
  (hv:(CW P ops bef s1 s2).run call e h pn pc= .ok e' h'):(eT P jU ops bef [s1,s2]).run call e h pn pc= .ok e' h'∧(eT P jU ops bef [s2,s1]).run call e h pn pc= .ok e' h':=by
 unfold CW at hv;simp only at hv;split at hv
 ·rename_i e1 h1 e2 h2 b4 b5;cases hp:CV ops s1 s2 e h pn with
  |false=>
   rw [hp] at hv;cases hv
  | true=>
   rw [hp] at hv;simp only [cN] at hv;cases hv;refine⟨b4,?_⟩;rw [b5];unfold CV at hp;split at hp
   ·rename_i b1 b2 q1 q2;obtain⟨c1,o1,xs1,n1,a1,A1⟩:=OH i1 b4;obtain⟨c2,o2,xs2,n2,a2,A2⟩:=OH i2 b5;rw [q1] at a1;cases a1;rw [q2] at a2;cases a2;obtain⟨v1,k1,pc1,w1,r1⟩:=A1 _ _ _ _ _ _ _ b4;obtain⟨v2,k2,a5,w2,r2⟩:=A2 _ _ _ _ _ _ _ b5;obtain⟨c7,k12,pc12,w12,r12'⟩:=A2 _ _ _ _ _ _ _ r1;obtain⟨c8,k21,pc21,w21,r21'⟩:=A1 _ _ _ _ _ _ _ r2;have a9:eJ (fun _=>true) [] k12=k12:=by cases k12;rfl
    have b0:eJ (fun _=>true) [] k21=k21:=by cases k21;rfl
    simp only [eT,jU,a9] at r12';simp only [eT,jU,b0] at r21';injection r12' with x1 x2
    injection r21' with x3 x4
    rw [←x1,←x2,←x3,←x4];obtain⟨sz1,els1,f1,el1,ty1,g1,G1⟩:=HM w1;obtain⟨sz2,els2,f2,el2,ty2,g2,G2⟩:=HM w2;rw [g1,g2] at hp;simp only [aM,BK] at hp;obtain⟨p1,p2,p3,p4⟩:=hp;have hf:f1≠f2:=fun e1=>by rw [Id.beq_iff.2 e1] at p1;cases p1
    have hb:b1≠b2:=fun e1=>by rw [Id.beq_iff.2 e1] at p2;cases p2
    have a3:b2∉aQ f1 h.fams:=fun hx=>by rw [(yQ _ _).2 hx] at p3;cases p3
    have a4:b1∉aQ f2 h.fams:=fun hx=>by rw [(yQ _ _).2 hx] at p4;cases p4
    have y1:=G1 h rfl;have y2:=G2 h rfl;rw [w1] at y1;rw [w2] at y2;injection y1 with _ y1
    injection y2 with _ y2
    have m1:aB b2 k1.mem=aB b2 h.mem:=by
     rw [y1,pY,vD];show aB b2 (dC b1 _ (gG _ _))=_;rw [eM (eH hb),kR];simp [oQ,a3]
    have m2:aB b1 k2.mem=aB b1 h.mem:=by
     rw [y2,pY,vD];show aB b1 (dC b2 _ (gG _ _))=_;rw [eM hb,kR];simp [oQ,a4]
    have a7:=G2 k1 m1;have a8:=G1 k2 m2;rw [w12] at a7;rw [w21] at a8;injection a7 with _ a7
    injection a8 with _ a8
    rw [a7,a8,y1,y2];congr 1;exact(TD (sz1:=0) (sz2:=0) (els1:=[]) (els2:=[]) hb hf a3 a4).symm
   ·cases hp
 ·cases hv
end
section
variable {P:Program} {n:Nat} {ops:Array Oper} {call:bP} {e':Env} {h':H} {m0:Mp} {h0:H} {w0:World}
theorem JT (a9:rA ops.toList=true) {listed:Array Bool} (b9:listed.size=ops.size) (h:Region.ready .any ops listed= []):∀i,i<ops.size→Sb listed i=true:=by
 intro i
 induction i using Nat.strongRecOn with
 | _ i ih=>
  intro hi;cases hS:Sb listed i with
  |true=>rfl
  | false=>
   exfalso;have ho:ops[i]?=some ops[i]:=by simp [hi]
   have b8:ops.toList[i]?=some ops[i]:=by simpa using ho
   have:i∈Region.ready .any ops listed:=by
    refine mem_ready.2 ⟨?_,ops[i],ho,?_⟩
    ·unfold Sb at hS;have:i<listed.size:=by omega
     simp [Array.getD,this] at hS ⊢;exact hS
    ·intro x hx hb;rw [QB] at hb;have hk:=jM.1 (rP a9 b8) x (by simpa using hx);simp only [hb,rM,nA] at hk;have b4:x.on<i:=cK hk;exact ih x.on b4 (by omega)
   rw [h] at this;cases this
theorem EC (ho:ops.toList[s]?=some o):s<ops.size:=by
 have:s<ops.toList.length:=(List.getElem?_eq_some_iff.1 ho).1;simpa using this
def StA (P:Program) (n:Nat) (ops:Array Oper) (call:bP) (e':Env) (h':H) (m0:Mp) (h0:H) (w0:World) (listed:Array Bool) (m:Mp) (a:Act) (w:World):Prop:=
 ∃tl M T l e h pn pc,pV ops.toList (aH [] ops.toList) tl=true∧tZ ops.toList (aH [] ops.toList) M tl=true∧
  Inv P n ops (wE P ops.toList (aH [] ops.toList) tl) tl call e' h' m0 h0 w0 listed T l e h pn pc m a w∧lR ops.toList (aH [] ops.toList) tl l=true∧T|||iM l=M
def StB (P:Program) (n:Nat) (ops:Array Oper) (call:bP) (e':Env) (h':H) (m0:Mp) (h0:H) (w0:World) (listed:Array Bool) (m:Mp) (a:Act) (w:World):Prop:=
 ∃s1 s2 T e h pn pc,jT ops.toList s1=true∧jT ops.toList s2=true∧
  Inv P n ops jU [] call e' h' m0 h0 w0 listed T [s1,s2] e h pn pc m a w∧Inv P n ops jU [] call e' h' m0 h0 w0 listed T [s2,s1] e h pn pc m a w
theorem StA.norm (a1:mE ops.toList (aH [] ops.toList)=true) (a0:eX P n ops=true) {listed:Array Bool} {m:Mp} {a:Act} {w:World} (k:StA P n ops call e' h' m0 h0 w0 listed m a w):
  (∃T e h pn pc,Inv P n ops jU [] call e' h' m0 h0 w0 listed T [] e h pn pc m a w)∨
  (∃tl M T s l o e h pn pc,pV ops.toList (aH [] ops.toList) tl=true∧tZ ops.toList (aH [] ops.toList) M tl=true∧ops.toList[s]?=some o∧fL ops.toList (aH [] ops.toList) s o= .heavy∧
   Inv P n ops (wE P ops.toList (aH [] ops.toList) tl) tl call e' h' m0 h0 w0 listed T (s::l) e h pn pc m a w∧lR ops.toList (aH [] ops.toList) tl (s::l)=true∧T|||iM (s::l)=M)∨
  StB P n ops call e' h' m0 h0 w0 listed m a w:=by
 obtain⟨tl,M,T,l,e,h,pn,pc,k1,k2,k3,k4,k5⟩:=k;obtain⟨T1,l1,e1,h1,pn1,b5,q1,q2,q3,q4⟩:=GG a1 a0 l T e h pn pc k3 k4;rcases q4 with rfl|⟨s,l2,o,rfl,ho,hk⟩
 ·match tl,k1,k2,q1,q2 with
  | [],_,_,q1,_=>exact .inl ⟨T1,e1,h1,pn1,b5,q1⟩
  | [s1,s2],k1,k2,q1,_=>
   refine .inr (.inr ?_);simp only [pV,aM] at k1;simp only [tZ,aM] at k2;have hT:T1=M:=by rw [←k5,q3];simp [iM]
   subst hT;have a5:=q1.run;simp only [eT,wE] at a5;obtain⟨r1,r2⟩:=XB k1.1 k1.2.1 a5;exact⟨s1,s2,T1,e1,h1,pn1,b5,k1.1,k1.2.1,⟨q1.toCore,k2.1,r1⟩,⟨q1.toCore,k2.2,r2⟩⟩
  | [_],k1,_,_,_=>simp [pV] at k1
  |_::_::_::_,k1,_,_,_=>simp [pV] at k1
 ·exact .inr (.inl ⟨tl,M,T1,s,l2,o,e1,h1,pn1,b5,k1,k2,ho,hk,q1,q2,by rw [←q3];exact k5⟩)
theorem Ca (a3:eN P call) (a9:rA ops.toList=true) (a1:mE ops.toList (aH [] ops.toList)=true) (a0:eX P n ops=true) {Q:Exit→Act→World→Prop}
  (hn:∀m' a' w',Fr m0 h0 w0 m' h' w'→bD m' n e' a'→Q .normal a' w'):
  ∀(fuel:Nat) (listed:Array Bool) (m:Mp) (a:Act) (w:World),
   StA P n ops call e' h' m0 h0 w0 listed m a w∨StB P n ops call e' h' m0 h0 w0 listed m a w→listed.toList.countP (fun b=>!b)≤fuel→wpAny P .any ops Q fuel listed a w:=by
 have b1:∀(listed:Array Bool) (m:Mp) (a:Act) (w:World),StA P n ops call e' h' m0 h0 w0 listed m a w∨StB P n ops call e' h' m0 h0 w0 listed m a w→
  (∃T e h pn pc,Inv P n ops jU [] call e' h' m0 h0 w0 listed T [] e h pn pc m a w)∨
  (∃tl M T s l o e h pn pc,pV ops.toList (aH [] ops.toList) tl=true∧tZ ops.toList (aH [] ops.toList) M tl=true∧ops.toList[s]?=some o∧fL ops.toList (aH [] ops.toList) s o= .heavy∧
   Inv P n ops (wE P ops.toList (aH [] ops.toList) tl) tl call e' h' m0 h0 w0 listed T (s::l) e h pn pc m a w∧lR ops.toList (aH [] ops.toList) tl (s::l)=true∧T|||iM (s::l)=M)∨
  StB P n ops call e' h' m0 h0 w0 listed m a w:=by
  rintro listed m a w (k|k)
  ·exact k.norm a1 a0
  ·exact .inr (.inr k)
 have a6:∀(base:DOp2) (tl:List Nat) (listed:Array Bool) (T s:Nat) (l:List Nat) (e:Env) (h:H) (pn:List PN) (pc:List PC) (m:Mp) (a:Act) (w:World),
   Inv P n ops base tl call e' h' m0 h0 w0 listed T (s::l) e h pn pc m a w→Region.ready .any ops listed= []→False:=by
  intro base tl listed T s l e h pn pc m a w k hr;have a7:=JT a9 k.lsz hr;obtain⟨b7,_,⟨o,ho⟩,_⟩:=nF k.plan;rw [k.sT s (a7 s (EC ho))] at b7;cases b7
 have c3:∀(listed:Array Bool) (m:Mp) (a:Act) (w:World),StA P n ops call e' h' m0 h0 w0 listed m a w∨StB P n ops call e' h' m0 h0 w0 listed m a w→Region.ready .any ops listed= []→Q .normal a w:=by
  intro listed m a w k hr;rcases b1 listed m a w k with⟨T,e,h,pn,pc,k⟩|⟨tl,M,T,s,l,o,e,h,pn,pc,_,_,_,_,k,_⟩|⟨s1,s2,T,e,h,pn,pc,_,_,k,_⟩
  ·have a7:=JT a9 k.lsz hr;have a5:=k.run;simp only [eT,jU] at a5;have c1:eJ (fun _=>true) pn h=eJ (Sb listed) pn h:=by
    unfold eJ;rw [DN h.mem pn (fun x hx=>?_)];obtain⟨_,⟨o,ho⟩,_⟩:=k.pn1 x hx;rw [a7 _ (EC ho)]
   simp only [c1] at a5;have hh:e=e'∧eJ (Sb listed) pn h=h':=by
    injection a5 with h1 h2;exact⟨h1,h2⟩
   obtain⟨rfl,rfl⟩:=hh;refine hn m a w k.fr ⟨k.size,k.le,fun t ht=>?_,k.dfr⟩;rcases k.env t ht with⟨x,ox,_,hS,hx,_⟩|h1
   ·rw [a7 x (EC hx)] at hS;cases hS
   ·exact h1
  ·exact(a6 _ _ _ _ _ _ _ _ _ _ _ _ _ k hr).elim
  ·exact(a6 _ _ _ _ _ _ _ _ _ _ _ _ _ k hr).elim
 have b6:∀(listed:Array Bool) (m:Mp) (a:Act) (w:World),StA P n ops call e' h' m0 h0 w0 listed m a w∨StB P n ops call e' h' m0 h0 w0 listed m a w→listed.size=ops.size:=by
  rintro listed m a w (⟨tl,M,T,l,e,h,pn,pc,_,_,k,_⟩|⟨s1,s2,T,e,h,pn,pc,_,_,k,_⟩)<;>exact k.lsz
 intro fuel
 induction fuel with
 | zero=>
  intro listed m a w k hc;have b9:=b6 _ _ _ _ k;have hr:Region.ready .any ops listed= []:=by
   cases hx:Region.ready .any ops listed with
   |nil=>rfl
   |cons i r=>
    exfalso;have hi:i∈Region.ready .any ops listed:=by rw [hx];simp
    obtain⟨h1,o,ho,_⟩:=mem_ready.1 hi;have b4:i<listed.size:=by rw [b9];exact(Array.getElem?_eq_some_iff.1 ho).1
    have hm:listed[i]=false:=by simpa [Array.getD,b4] using h1
    have:0<listed.toList.countP (fun b=>!b):=List.countP_pos_iff.2 ⟨false,by rw [←hm];simp,rfl⟩;omega
  exact⟨hr,c3 _ _ _ _ k hr⟩
 | succ fuel ih=>
  intro listed m a w k0 hc;have b9:=b6 _ _ _ _ k0;refine⟨c3 _ _ _ _ k0,?_⟩;intro i hi;obtain⟨h1,o,b8,hready⟩:=mem_ready.1 hi;have ho:ops.toList[i]?=some o:=by simpa using b8
  have b4:i<listed.size:=by rw [b9];exact(Array.getElem?_eq_some_iff.1 b8).1
  have hm:listed[i]=false:=by simpa [Array.getD,b4] using h1
  have hS:Sb listed i=false:=by simp [Sb,b4,hm]
  have b3:∀x∈o.after.toList,gO x=true→Sb listed x.on=true:=fun x hx hb=>hready x (by simpa using hx) (by rw [QB];exact hb)
  have a8:(listed.setIfInBounds i true).toList.countP (fun b=>!b)≤fuel:=by
   rw [HG];have c0:i<listed.toList.length:=by simpa using b4
   rw [List.countP_set c0];have:(listed.toList[i])=false:=by simpa using hm
   rw [this];simp only [Bool.not_false,rM,if_true,dJ,eY];have c5:0<listed.toList.countP (fun b=>!b):=List.countP_pos_iff.2 ⟨false,by rw [←hm];simp,rfl⟩;omega
  have a2:∀(T:Nat) (e:Env) (h:H) (pn:List PN) (pc:List PC),Core P n ops m0 h0 w0 listed T e h pn pc m a w→Nat.testBit T i=true→
    (∀m' a' w',Core P n ops m0 h0 w0 (listed.setIfInBounds i true) T e h pn pc m' a' w'→StA P n ops call e' h' m0 h0 w0 (listed.setIfInBounds i true) m' a' w'∨StB P n ops call e' h' m0 h0 w0 (listed.setIfInBounds i true) m' a' w')→
    wpOp P ops Q i (wpAny P .any ops Q fuel (listed.setIfInBounds i true)) a w:=by
   intro T e h pn pc k hT b0;have b2:∀x,Nat.testBit (natAt (aH [] ops.toList) i) x=true→Sb listed x=true:=fun x hx=>FT a9 (S:=fun j=>Sb listed j=true) k.down ho b3 hx
   have hp:=k.pend i o ho hT hS;cases hk:fL ops.toList (aH [] ops.toList) i o with
   |light=>exact UJ a0 k ho hT hS b3 b2 hk (fun m' a' w' k'=>ih _ _ _ _ (b0 m' a' w' k') a8)
   |new=>exact UI a0 k ho hT hS b3 b2 hk (fun m' a' w' k'=>ih _ _ _ _ (b0 m' a' w' k') a8)
   |heavy=>rw [hk] at hp;exact hp.elim
  rcases b1 listed m a w k0 with⟨T,e,h,pn,pc,k⟩|⟨tl,M,T,s,l,os,e,h,pn,pc,t1,t2,hos,hk,k,hch,hM⟩|⟨s1,s2,T,e,h,pn,pc,i1,i2,k12,k21⟩
  ·cases hT:Nat.testBit T i with
   |true=>exact a2 T e h pn pc k.toCore hT (fun m' a' w' k'=>.inl ⟨[],T|||iM [],T,[],e,h,pn,pc,rfl,rfl,⟨k',k.plan,k.run⟩,rfl,rfl⟩)
   |false=>
    rcases yA [] T k.plan i o ho hT with h1|h1<;>cases h1
  ·have b2:∀x,Nat.testBit (natAt (aH [] ops.toList) i) x=true→Sb listed x=true:=fun x hx=>FT a9 (S:=fun j=>Sb listed j=true) k.down ho b3 hx
   cases hT:Nat.testBit T i with
   |true=>exact a2 T e h pn pc k.toCore hT (fun m' a' w' k'=>.inl ⟨tl,M,T,s::l,e,h,pn,pc,t1,t2,⟨k',k.plan,k.run⟩,hch,hM⟩)
   | false=>
    obtain⟨b7,_,_,_⟩:=nF k.plan;obtain⟨hw,hch'⟩:=FD hch;obtain⟨w1,w2⟩:=hw os hos hk;have bad:Nat.testBit (natAt (aH [] ops.toList) i) s=true→False:=fun hb=>by
     have:=k.sT s (b2 s hb);rw [this] at b7;cases b7
    rcases yA (s::l) T k.plan i o ho hT with a4|a4
    ·rcases cD.1 a4 with e1|a4
     ·subst e1;rw [ho] at hos;cases hos;exact IN a3 a1 a0 k ho b3 b2 hk (fun e1 h1 pn1 b5 m' a' w' k'=>ih _ _ _ _ (.inl ⟨tl,M,_,l,e1,h1,pn1,b5,t1,t2,k',hch',by rw [←hM,iM,Nat.or_assoc]⟩) a8)
     ·exact(bad (w1 i a4)).elim
    ·exact(bad (w2 i a4)).elim
  ·have b2:∀x,Nat.testBit (natAt (aH [] ops.toList) i) x=true→Sb listed x=true:=fun x hx=>FT a9 (S:=fun j=>Sb listed j=true) k12.down ho b3 hx
   have one:∀(x y:Nat),jT ops.toList x=true→jT ops.toList y=true→Inv P n ops jU [] call e' h' m0 h0 w0 listed T [x,y] e h pn pc m a w→i=x→
     wpOp P ops Q i (wpAny P .any ops Q fuel (listed.setIfInBounds i true)) a w:=by
    intro x y ix iy k e1;subst e1;obtain⟨ox,t,p,q,g1,g2,g3,_⟩:=DY ix;rw [ho] at g1;cases g1;refine IN a3 a1 a0 k ho b3 b2 (MM g2 g3) (fun e1 h1 pn1 b5 m' a' w' k'=>ih _ _ _ _ (.inl ⟨[],(T|||2^i)|||iM [y],_,[y],e1,h1,pn1,b5,rfl,rfl,k',?_,rfl⟩) a8);obtain⟨oy,_,_,_,gy,_⟩:=DY iy;simp [lR,jR,gy]
   cases hT:Nat.testBit T i with
   |true=>exact a2 T e h pn pc k12.toCore hT (fun m' a' w' k'=>.inr ⟨s1,s2,T,e,h,pn,pc,i1,i2,⟨k',k12.plan,k12.run⟩,⟨k',k21.plan,k21.run⟩⟩)
   | false=>
    rcases yA [s1,s2] T k12.plan i o ho hT with a4|a4
    ·rcases cD.1 a4 with e1|a4
     ·exact one s1 s2 i1 i2 k12 e1
     ·rcases cD.1 a4 with e1|a4
      ·exact one s2 s1 i2 i1 k21 e1
      ·cases a4
    ·cases a4
theorem WI {m:Mp} {a:Act} (c2:P.follows .mixedOrders=true) (a3:eN P call) (a0:eX P n ops=true) {Q:Exit→Act→World→Prop} {id:Nat}
  (k:bD m n e a) (hg:Gl P m) (hr:HR m h w) (hv:(regE P ops.toList).run call e h= .ok e' h')
  (hn:∀m' a' w',Fr m h w m' h' w'→bD m' n e' a'→Q .normal a' w'):(Code.region id ops true).wp P Q a w:=by
 unfold regE at hv;simp only at hv;generalize c6:BU ops.toList (aH [] ops.toList) _=pt at hv;obtain⟨pl,tl⟩:=pt;simp only at hv;generalize hc:(rA ops.toList&&_)=c at hv;cases c with
 |false=>cases hv
 | true=>
  simp only [cN] at hv;simp only [aM] at hc;obtain⟨a9,a1,_,hplan,hch,htl,htp⟩:=hc;refine RB c2 ?_;have c4:∀j,Sb (Array.replicate ops.size false) j=false:=by
   intro j;unfold Sb
   by_cases hj:j<ops.size
   ·simp [Array.getD,hj]
   ·simp [Array.getD,hj]
  refine Ca (m0:=m) (h0:=h) (w0:=w) a3 a9 a1 a0 hn ops.size _ m a _ (.inl ⟨tl,iM pl,0,pl,e,h,[],[],htl,htp,⟨?_,hplan,hv⟩,hch,by simp⟩) ?_
  ·refine⟨by simp,?_,?_,?_,?_,k.size,k.le,k.dfr,fun t ht=>.inr (k.val t ht),?_,hg,.nil,?_,?_⟩
   ·intro i o _ hS;rw [c4] at hS;cases hS
   ·intro j hS;rw [c4] at hS;cases hS
   ·intro j hT;simp at hT
   ·intro j o _ hT;simp at hT
   ·exact Fr.drawn hr _
   ·intro x hx;cases hx
   ·intro x hx;cases hx
  ·refine aE List.countP_le_length ?_;simp
end
section
variable (P:Program)
def dY (lf:Nat):Code→COd
 | .skip=>⟨fun _ e h=>.nrm e h⟩
 | .label _=>⟨fun _ e h=>.nrm e h⟩
 | .ret=>⟨fun _ e h=>.ret e h⟩
 | .exit id=>⟨fun _ e h=>.ext id e h⟩
 | .seq a b=>⟨fun call e h=>CR.rec (motive:=fun _=>CR) .bad (fun e h=>(dY lf b).run call e h) (fun i e h=>.ext i e h) (fun e h=>.ret e h) ((dY lf a).run call e h)⟩
 | .cond c a b=>⟨fun call e h=>qY ((aF c).run e) (fun t=>dK t ((dY lf a).run call e h) ((dY lf b).run call e h)) .bad⟩
 | .block id b=>⟨fun call e h=>CR.rec (motive:=fun _=>CR) .bad (fun e h=>.nrm e h) (fun j e h=>dK (Nat.beq j id) (.nrm e h) (.ext j e h)) (fun e h=>.ret e h) ((dY lf b).run call e h)⟩
 | .loop b=>⟨fun call e h=>yT ((dY lf b).run call) lf e h⟩
 | .region _ ops false=>⟨fun call e h=>Rs.rec (motive:=fun _=>CR) .bad (fun e h=>.nrm e h) ((kK P ops.toList ops.toList).run call e h)⟩
 | .region _ ops true=>⟨fun call e h=>Rs.rec (motive:=fun _=>CR) .bad (fun e h=>.nrm e h) ((regE P ops.toList).run call e h)⟩
 |_=>⟨fun _ _ _=>.bad⟩
def zE (o:Oper):Option Nat:=
 match o.op,o.dst,o.guard with
 | .call ⟨.builtin .recover,⟨[]⟩,_⟩,some d,none=>some d
 |_,_,_=>none
def mM (lf:Nat):Code→COd
 | .seq a b=>⟨fun call e h=>CR.rec (motive:=fun _=>CR) .bad (fun e h=>(dY P lf b).run call e h) (fun i e h=>.ext i e h) (fun e h=>.ret e h) ((mM lf a).run call e h)⟩
 | .region id ⟨o::l⟩ false=>(match zE o with
  |some d=>⟨fun call e h=>Rs.rec (motive:=fun _=>CR) .bad (fun e h=>.nrm e h) ((kK P (o::l) l).run call (gU d .ni e) h)⟩
  |none=>dY P lf (.region id ⟨o::l⟩ false))
 |c=>dY P lf c
def oY (rs:List ResultVar) (e:Env) (h:H):VH:=
 match bN fG e with
 | .tup []=>vhO h ((oO P rs).run e h)
 |_=>.bad
def defF (lf f:Nat):FOp:=
 match P.funcs[f]? with
 |none=>mR
 |some fn=>match fn.body with
  |none=>mR
  | some c=>⟨fun call args h=>dK (Nat.ble (dP args) fn.ntmps)
    (CR.rec (motive:=fun _=>VH) .bad (fun e h=>oY P fn.results.toList e h) (fun _ _ _=>.bad) (fun e h=>oY P fn.results.toList e h) ((mM P lf c).run call (lL 0 args Env.new) h)) .bad⟩
def eW (lf:Nat) (call:bP):List V→H→Option H
 | [],h=>some h
 | .fn (.func n) first cap::l,h=>match (defF P lf n).run call (first++cap) h with| .ok _ h'=>eW lf call l h'| .bad=>none
 |_,_=>none
def yZ (lf:Nat) (rs:List ResultVar) (call:bP) (e:Env) (h:H):VH:=
 match bN fG e with
 | .tup []=>vhO h ((oO P rs).run e h)
 | .tup l=>(match eW P lf call l h with|some h'=>vhO h' ((oO P rs).run e h')|none=>.bad)
 |_=>.bad
def FN (lf:Nat) (fn:Func) (c:Code):FOp:=
 ⟨fun call args h=>dK (Nat.ble (dP args) fn.ntmps)
  (CR.rec (motive:=fun _=>VH) .bad (fun e h=>yZ P lf fn.results.toList call e h) (fun _ _ _=>.bad) (fun e h=>yZ P lf fn.results.toList call e h) ((dY P lf c).run call (lL 0 args Env.new) h)) .bad⟩
def EI (sp:Nat→Option FOp) (lf:Nat) (f:Nat):FOp:=
 match sp f with
 |some op=>op
 | none=>match P.funcs[f]? with
  |none=>mR
  |some fn=>match fn.body with
   |none=>mR
   |some c=>FN P lf fn c
def vY (sp:Nat→Option FOp) (lf:Nat) (n:Nat):bP:=
 Nat.rec (motive:=fun _=>bP) (fun _ _ _=>.bad) (fun _ ih f args h=>(EI P sp lf f).run ih args h) n
def fH (n:Nat):Code→Bool
 | .seq a b=>fH n a&&fH n b
 | .cond c a b=>cO P n c&&(fH n a&&fH n b)
 | .block _ b=>fH n b
 | .loop b=>fH n b
 | .region _ ops _=>eX P n ops
 |_=>true
def uF (n:Nat):ResultVar→Bool
 | .tmp t=>Nat.ble (Nat.succ t) n
 | .cell t _=>Nat.ble (Nat.succ t) n
def NC (fn:Func):Bool:=
 match fn.body with
 |none=>true
 |some c=>Nat.ble fn.ntmps 511&&(fH P fn.ntmps c&&(fn.results.toList.all (uF fn.ntmps)&& !(fn.name== "runtime.NumGoroutine")))
def nE:Bool:=P.funcs.toList.all (NC P)
end
section
variable {P:Program} {m:Mp} {w:World}
def CQ (m:Mp) (h:H) (w:World) (n:Nat) (Q:Exit→Act→World→Prop):CR→Prop
 | .bad=>False
 | .nrm e' h'=>∀m' a' w',Fr m h w m' h' w'→bD m' n e' a'→Q .normal a' w'
 | .ext i e' h'=>∀m' a' w',Fr m h w m' h' w'→bD m' n e' a'→Q (.exit i) a' w'
 | .ret e' h'=>∀m' a' w',Fr m h w m' h' w'→bD m' n e' a'→Q .ret a' w'
theorem CQ.of_fr {m':Mp} {Q:Exit→Act→World→Prop} (hF:Fr m h w m' h' w'):∀{r:CR},CQ m h w n Q r→CQ m' h' w' n Q r
 | .bad,k=>k
 | .nrm _ _,k=>fun m2 a2 w2 h2=>k m2 a2 w2 (hF.trans h2)
 | .ext _ _ _,k=>fun m2 a2 w2 h2=>k m2 a2 w2 (hF.trans h2)
 | .ret _ _,k=>fun m2 a2 w2 h2=>k m2 a2 w2 (hF.trans h2)
theorem vV {lf:Nat} (a0:eN P call) (a4:P.follows .mixedOrders=true):∀(c:Code),fH P n c=true→
  ∀(m:Mp) (e:Env) (a:Act) (h:H) (w:World) (Q:Exit→Act→World→Prop),bD m n e a→Gl P m→HR m h w→CQ m h w n Q ((dY P lf c).run call e h)→c.wp P Q a w:=by
 intro c
 induction c with
 |skip=>intro hc m e a h w Q k hg hr hq;exact wp_skip (hq m a w (Fr.refl hr) k)
 |label l=>intro hc m e a h w Q k hg hr hq;exact wp_label (hq m a w (Fr.refl hr) k)
 |ret=>intro hc m e a h w Q k hg hr hq;exact wp_ret (hq m a w (Fr.refl hr) k)
 |exit id=>intro hc m e a h w Q k hg hr hq;exact wp_exit (hq m a w (Fr.refl hr) k)
 | seq x y ihx ihy=>
  intro hc m e a h w Q k hg hr hq;simp only [fH,aM] at hc;refine wp_seq (ihx hc.1 m e a h w _ k hg hr ?_);simp only [dY] at hq;cases hx:(dY P lf x).run call e h with
  |bad=>rw [hx] at hq;exact hq.elim
  |nrm e1 h1=>
   rw [hx] at hq;intro m' a' w' hF hE;exact ihy hc.2 m' e1 a' h1 w' Q hE (hg.mono hF.le) hF.hr (hq.of_fr hF)
  |ext i e1 h1=>rw [hx] at hq;exact hq
  |ret e1 h1=>rw [hx] at hq;exact hq
 | cond c x y ihx ihy=>
  intro hc m e a h w Q k hg hr hq;simp only [fH,aM] at hc;simp only [dY] at hq;have hC:=cS k hg hc.1;generalize a1:qY ((aF c).run e) (fun t=>dK t ((dY P lf x).run call e h) ((dY P lf y).run call e h)) .bad=r at hq;rcases GB a1 with⟨b,hb,hv⟩|⟨hb,hv⟩
  ·rw [hb] at hC;simp only [R] at hC;refine wp_cond hC ?_;rcases nQ hv with⟨a3,hv2⟩|⟨a3,hv2⟩
   ·rw [a3];exact ihx hc.2.1 m e a h w Q k hg hr (by rw [hv2];exact hq)
   ·rw [a3];exact ihy hc.2.2 m e a h w Q k hg hr (by rw [hv2];exact hq)
  ·rw [←hv] at hq;exact hq.elim
 | block id x ih=>
  intro hc m e a h w Q k hg hr hq;simp only [fH] at hc;simp only [dY] at hq;refine wp_block (ih hc m e a h w _ k hg hr ?_);cases hx:(dY P lf x).run call e h with
  |bad=>rw [hx] at hq;exact hq.elim
  |nrm e1 h1=>rw [hx] at hq;exact hq
  |ret e1 h1=>rw [hx] at hq;exact hq
  | ext j e1 h1=>
   rw [hx] at hq;simp only at hq;intro m' a' w' hF hE;show(if j=id then Q .normal a' w' else Q (.exit j) a' w');generalize a1:dK (Nat.beq j id) (CR.nrm e1 h1) (CR.ext j e1 h1)=r at hq;rcases nQ a1 with⟨hj,hv⟩|⟨hj,hv⟩
   ·rw [if_pos (aV hj)];rw [←hv] at hq;exact hq m' a' w' hF hE
   ·rw [if_neg (RQ hj)];rw [←hv] at hq;exact hq m' a' w' hF hE
 | loop x ih=>
  intro hc m e a h w Q k hg hr hq;simp only [fH] at hc;simp only [dY] at hq;refine wp_loop_rounds lf ?_;have key:∀(N:Nat) (m:Mp) (e:Env) (a:Act) (h:H) (w:World),bD m n e a→Gl P m→HR m h w→CQ m h w n Q (yT ((dY P lf x).run call) N e h)→Code.rounds P x Q N a w:=by
   intro N
   induction N with
   |zero=>intro m e a h w k hg hr hq;exact hq.elim
   | succ N ihN=>
    intro m e a h w k hg hr hq;rw [rounds_succ];refine ih hc m e a h w _ k hg hr ?_;have hl:yT ((dY P lf x).run call) (N+1) e h=CR.rec (motive:=fun _=>CR) .bad (fun e h=>yT ((dY P lf x).run call) N e h) (fun i e h=>.ext i e h) (fun e h=>.ret e h) ((dY P lf x).run call e h):=rfl;rw [hl] at hq;cases hx:(dY P lf x).run call e h with
    |bad=>rw [hx] at hq;exact hq.elim
    |nrm e1 h1=>
     rw [hx] at hq;intro m' a' w' hF hE;exact ihN m' e1 a' h1 w' hE (hg.mono hF.le) hF.hr (hq.of_fr hF)
    |ext i e1 h1=>rw [hx] at hq;exact hq
    |ret e1 h1=>rw [hx] at hq;exact hq
  exact key lf m e a h w k hg hr hq
 | region id ops d=>
  intro hc m e a h w Q k hg hr hq;simp only [fH] at hc;cases d with
  |false=>
   simp only [dY] at hq;cases hx:(kK P ops.toList ops.toList).run call e h with
   |bad=>rw [hx] at hq;exact hq.elim
   |ok e1 h1=>rw [hx] at hq;exact WH a0 hc k hg hr hx hq
  |true=>
   simp only [dY] at hq;cases hx:(regE P ops.toList).run call e h with
   |bad=>rw [hx] at hq;exact hq.elim
   |ok e1 h1=>rw [hx] at hq;exact WI a4 a0 hc k hg hr hx hq
 |_=>intro hc m e a h w Q k hg hr hq;simp only [dY] at hq;exact hq.elim
end
end
end Go.Ev
