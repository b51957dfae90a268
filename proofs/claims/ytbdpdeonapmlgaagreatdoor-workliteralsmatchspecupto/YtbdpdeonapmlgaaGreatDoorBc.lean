/- Lemmas for the text Card; no condition. -/
import Derived.Test.YtbdpdeonapmlgaaGreatDoorBb
import Derived.Laws.MakeOwn
set_option linter.all false
namespace Go.Ev
variable {u v u':Value} {C:Array Value} {fz:Nat × Nat} {x y:V} {h h':H} {t:TypeId} {b o n:Nat}
section
variable {P:Program} {m:Mp} {w:World}
theorem VA (h:cZ v):v.oneCell'=true:=by cases v<;>first|rfl|exact h.elim
theorem UX {w:World} (h:w.heap[b]?=some (.cells C t fz)):
  w.setCell ⟨b,o,none⟩ v={ w with heap:=w.heap.setIfInBounds b (.cells (C.setIfInBounds o v) t fz) }:=by
 unfold World.setCell;have hb:b<w.heap.size:=(Array.getElem?_eq_some_iff.1 h).1;congr 1;apply rO;intro i;simp only [lH,lG]
 by_cases e:b=i
 ·subst e;have a5:=(Array.getElem?_eq_some_iff.1 h).2;simp [hb,a5]
 ·simp [e]
theorem xK {b off:Nat} {t:TypeId} {fz:Nat × Nat}:∀(vs:List Value) (i:Nat) (C:Array Value) (w:World),w.heap[b]?=some (.cells C t fz)→off+i+vs.length≤C.size→(∀v∈vs,cZ v)→
  (∀j,j<vs.length→¬(fz.1≤off+i+j∧off+i+j<fz.2))→
  (storeCells ⟨b,off,none⟩ vs i).run P w= .ok () { w with heap:=w.heap.setIfInBounds b (.cells ⟨C.toList.take (off+i)++vs++C.toList.drop (off+i+vs.length)⟩ t fz) }
 | [],i,C,w,h,_,_,_=>by
  have hb:b<w.heap.size:=(Array.getElem?_eq_some_iff.1 h).1;have a5:=(Array.getElem?_eq_some_iff.1 h).2;simp only [storeCells,bZ,tU,rJ,fP,pQ];congr 1;have:w.heap.setIfInBounds b (.cells C t fz)=w.heap:=by
   apply rO;intro j;simp only [lG]
   by_cases e:b=j
   ·subst e;simp [hb,a5]
   ·simp [e]
  show w={ w with heap:=w.heap.setIfInBounds b (.cells C t fz) };rw [this]
 | v::vs,i,C,w,h,hl,hs,hf=>by
  simp only [fU] at hl;have hb:b<w.heap.size:=(Array.getElem?_eq_some_iff.1 h).1;have hc:w.cell? ⟨b,off+i,none⟩=some (C[off+i]'(by omega)):=by simp [World.cell?,h,show off+i<C.size by omega]
  have hz:w.frozen? ⟨b,off+i,none⟩=false:=by
   have:=hf 0 (by simp);simp only [fP] at this;simp only [World.frozen?,h];rw [Bool.eq_false_iff];simpa using this
  have h1:(store ((⟨b,off,none⟩:Addr).add i) v).run P w= .ok () (w.setCell ⟨b,off+i,none⟩ v):=by
   rw [mT,run_store P w _ v .plain (VA (hs v (by simp)))];simp [hc,hz]
  have a1:=UX (o:=off+i) (v:=v) h;rw [a1] at h1;have a6:({ w with heap:=w.heap.setIfInBounds b (.cells (C.setIfInBounds (off+i) v) t fz) }:World).heap[b]?=some (.cells (C.setIfInBounds (off+i) v) t fz):=by simp [hb]
  have ih:=xK (off:=off) vs (i+1) (C.setIfInBounds (off+i) v) _ a6 (by rw [Array.size_setIfInBounds];omega) (fun x hx=>hs x (by simp [hx])) (fun j hj=>by
   have h9:=hf (j+1) (by simpa using hj);have e9:off+i+(j+1)=off+(i+1)+j:=by omega
   rw [e9] at h9;exact h9)
  simp only [storeCells,aY,h1,cF,ih];congr 1;have b0:off+i<C.toList.length:=by simp;omega
  have e1:(C.setIfInBounds (off+i) v).toList.take (off+(i+1))=C.toList.take (off+i)++ [v]:=by
   rw [HG,←kE,List.take_set,Gm b0];rw [wS _ _ (by simp;omega)];have hm:min (off+i) C.size=off+i:=by simp at b0;omega
   simp [hm]
  have e2:(C.setIfInBounds (off+i) v).toList.drop (off+(i+1)+vs.length)=C.toList.drop (off+i+(vs.length+1)):=by
   rw [HG,Gy (by omega)];congr 1;omega
  rw [e1,e2];simp [Array.setIfInBounds_setIfInBounds]
theorem IV (l:List (List V)) (i:Nat) (x:List V):nD l i x=l.set i x:=by
 induction l generalizing i with
 |nil=>rfl
 |cons a l ih=>cases i with
  |zero=>rfl
  |succ i=>show a::nD l i x=_;rw [ih];rfl
theorem flat_set {sz:Nat}:∀{els:List (List V)} (h:∀el∈els,el.length=sz) {q o:Nat} {el a0 xs:List V},els[q]?=some el→∀{r:Nat},r+xs.length≤sz→a0=el.take r++xs++el.drop (r+xs.length)→q*sz+r=o→
  (els.set q a0).flatten=els.flatten.take o++xs++els.flatten.drop (o+xs.length)
 | [],_,q,o,el,a0,xs,hq,r,hr,he,ho=>by simp at hq
 |x::els,h,0,o,el,a0,xs,hq,r,hr,he,ho=>by
  simp at hq;subst hq;have hx:=h x (by simp);have:o=r:=by omega
  subst this;simp only [Gn,iS,he];rw [GW (by omega),Ha (by omega)];simp
 | x::els,h,q+1,o,el,a0,xs,hq,r,hr,he,ho=>by
  simp at hq;have hx:=h x (by simp);have ih:=flat_set (fun el he=>h el (by simp [he])) hq hr he (o:=q*sz+r) rfl;have c0:o=sz+(q*sz+r):=by rw [←ho,gI];omega
  simp only [BE,iS,ih];have t1:(x++els.flatten).take o=x++els.flatten.take (q*sz+r):=by
   rw [SE,eP (by omega)];congr 2;omega
  have t2:(x++els.flatten).drop (o+xs.length)=els.flatten.drop (q*sz+r+xs.length):=by
   rw [SO,Gz (by omega),oF];congr 1;omega
  rw [t1,t2];simp
theorem TC (k:HR m h w) {b:Id} {o n:Nat} {xs:List V} {xs':List Value} {v:V} {l:Loc} (hl:m b=some l) (hn:xs.length=n) (hx:Rl m xs xs') (hs:∀x∈xs',cZ x)
  (hw:wr h b o xs n= .ok v h'):v=cI∧∃w',(storeCells ⟨l.blk,l.base+o,none⟩ xs').run P w= .ok () w'∧Fr m h w m h' w':=by
 unfold wr at hw;cases hb:aB b h.mem with
 |none=>rw [hb] at hw;cases hw
 | some ob=>
  rw [hb] at hw;cases ob with
  |map _ _=>cases hw
  |miter _ _ _ _=>cases hw
  | cells sz els f ro=>
   cases ro with
   |fz=>cases hw
   |fr _=>cases hw
   | rw ty=>
    have a3:(Option.rec (motive:=fun _=>VH) .bad
     (fun el=>Option.rec (motive:=fun _=>VH) .bad
      (fun a0=>.ok cI (eD (fX h f b) b (.cells sz (nD els (Nat.div o sz) a0) f (.rw ty))))
      (Bool.rec (motive:=fun _=>Option (List V)) (gE (Nat.mod o sz) el xs) (some xs) (Nat.beq (Nat.mod o sz) 0&&Nat.beq n sz)))
     (lM els (Nat.div o sz)):VH)= .ok v h':=hw
    rw [uT] at a3;cases he:els[Nat.div o sz]? with
    |none=>rw [he] at a3;cases a3
    | some el=>
     rw [he] at a3;obtain⟨l2,hl2,C,t,fz,hc⟩:=k.obj _ _ hb;rw [hl] at hl2;cases hl2;have a7:=hc.each el (aX he);have b4:∃a0,(Bool.rec (motive:=fun _=>Option (List V)) (gE (Nat.mod o sz) el xs) (some xs) (Nat.beq (Nat.mod o sz) 0&&Nat.beq n sz):Option (List V))=some a0∧
       o%sz+xs.length≤sz∧a0=el.take (o%sz)++xs++el.drop (o%sz+xs.length):=by
      cases ht:(Nat.beq (Nat.mod o sz) 0&&Nat.beq n sz) with
      |true=>
       simp only [aM] at ht;have h1:o%sz=0:=aV ht.1;have h2:n=sz:=aV ht.2;refine⟨xs,rfl,by omega,?_⟩;rw [h1];simp;omega
      | false=>
       cases ho:gE (Nat.mod o sz) el xs with
       | none=>
        exfalso;have:(Option.rec (motive:=fun _=>VH) .bad (fun a0=>.ok cI (eD (fX h f b) b (.cells sz (nD els (Nat.div o sz) a0) f (.rw ty)))) (gE (Nat.mod o sz) el xs):VH)= .ok v h':=by
         simpa [ht] using a3
        rw [ho] at this;cases this
       |some a0=>
        obtain⟨h1,h2⟩:=rY _ _ _ ho;exact⟨a0,rfl,by rw [a7] at h1;exact h1,h2⟩
     obtain⟨a0,hel1,hel2,hel3⟩:=b4;have b9:VH.ok cI (eD (fX h f b) b (.cells sz (nD els (Nat.div o sz) a0) f (.rw ty)))= .ok v h':=by
      have:(Option.rec (motive:=fun _=>VH) .bad (fun a0=>.ok cI (eD (fX h f b) b (.cells sz (nD els (Nat.div o sz) a0) f (.rw ty))))
       (Bool.rec (motive:=fun _=>Option (List V)) (gE (Nat.mod o sz) el xs) (some xs) (Nat.beq (Nat.mod o sz) 0&&Nat.beq n sz)):VH)= .ok v h':=a3
      rw [hel1] at this;exact this
     cases b9;refine⟨rfl,?_⟩;have c3:=hx.length;have hq:o/sz<els.length:=(List.getElem?_eq_some_iff.1 he).1;have b6:=flat_len hc.each;have b3:o/sz*sz+o%sz=o:=by have:=kD o sz;rw [bG] at this;exact this
     have b8:(o/sz+1)*sz≤els.length*sz:=eI _ hq;have b5:o+xs.length≤els.flatten.length:=by
      rw [b6];rw [gI] at b8;omega
     have a4:=hc.room;have b7:=hc.len;have a8:=xK (P:=P) (b:=l.blk) (off:=l.base+o) (t:=t) (fz:=fz) xs' 0 C w hc.at_ (by omega) hs (fun j hj=>by
      have:=hc.free rfl (o+j) (by omega);rw [show l.base+(o+j)=l.base+o+0+j by omega] at this;exact this)
     refine⟨_,a8,Fr.updCells k hb hl rfl ?_⟩;intro b2;have a1:(nD els (Nat.div o sz) a0).flatten=els.flatten.take o++xs++els.flatten.drop (o+xs.length):=by
      rw [IV];exact flat_set hc.each he (by omega) hel3 b3
     refine⟨_,t,fz,⟨b2,?_,?_,?_,?_,hc.free,hc.plain,hc.typ,hc.al⟩⟩
     ·have:(⟨C.toList.take (l.base+o+0)++xs'++C.toList.drop (l.base+o+0+xs'.length)⟩:Array Value).size=C.size:=by
       show(C.toList.take (l.base+o+0)++xs'++C.toList.drop (l.base+o+0+xs'.length)).length=C.size;simp only [aK,aU,cX,cV];omega
      rw [this];exact a4
     ·rw [a1];simp only [aK,aU,cX,cV];omega
     ·intro e0 a9;rw [IV] at a9;rcases HA a9 with h1|rfl
      ·exact hc.each e0 h1
      ·rw [hel3];simp;omega
     ·intro i x a2;rw [a1] at a2;have b1:∀j:Nat,(⟨C.toList.take (l.base+o+0)++xs'++C.toList.drop (l.base+o+0+xs'.length)⟩:Array Value)[j]?=
        (C.toList.take (l.base+o)++xs'++C.toList.drop (l.base+o+xs'.length))[j]?:=by intro j;simp
      rw [b1]
      by_cases c1:i<o
      ·rw [eZ,eG (by simp only [aK,aU,cX,cV];omega),gC c1] at a2;obtain⟨u,h1,h2,h3⟩:=hc.val i x a2;refine⟨u,?_,h2,h3⟩;rw [eZ,eG (by simp only [aK,aU,cX,cV];omega),gC (by omega)];simpa using h1
      ·by_cases c2:i<o+xs.length
       ·rw [eZ,dO (by simp only [aK,aU,cX,cV];omega),eG (by simp only [aK,aU,cX,cV];omega)] at a2;have e1:i-(els.flatten.take o).length=i-o:=by simp only [aK,aU,cX,cV];omega
        rw [e1] at a2;obtain⟨u,h1,h2⟩:=hx.get a2;refine⟨u,?_,h2,hs u (aX h1)⟩;rw [eZ,dO (by simp only [aK,aU,cX,cV];omega),eG (by simp only [aK,aU,cX,cV];omega),←h1];congr 1;simp only [aK,aU,cX,cV];omega
       ·rw [dO (by simp only [aK,aU,cX,cV];omega),iR] at a2;have e1:o+xs.length+(i-(els.flatten.take o++xs).length)=i:=by simp only [aK,aU,cX,cV];omega
        rw [e1] at a2;obtain⟨u,h1,h2,h3⟩:=hc.val i x a2;refine⟨u,?_,h2,h3⟩;rw [dO (by simp only [aK,aU,cX,cV];omega),iR];have e2:l.base+o+xs'.length+(l.base+i-(C.toList.take (l.base+o)++xs').length)=l.base+i:=by simp only [aK,aU,cX,cV];omega
        rw [e2];simpa using h1
end
section
variable {P:Program} {m:Mp} {w:World}
theorem Ee {e:Env} {a:Act} (ke:bD m n e a) (hg:Gl P m) {h h':H} (k:HR m h w) {t el:TypeId} {len sz:Nat} {z v:V} {zc:List V} {ps:Array (Nat × Operand)} (hu:P.underlying t=some (.slice el))
  (hx:(ps.toList.map (·.2)).all (cO P n)=true) (hs:bH P el=some (sz+1)) (hz:fJ P el=some z) (hc:dE z=some zc) (b4:len*(sz+1)≤16777216) (a4:zc.length=sz+1) {cs:List V}
  (hb:gY (fun i=>some (i*(sz+1),sz+1)) ((iY zc len).flatten) ((kM ps.toList).run e)=some cs)
  (hn:lN el h (sz+1) (mO (sz+1) len cs) (fun i=>.sl i 0 len (sz+1))= .ok v h'):
  ∃u w' m',(Instr.buildSlice t len (ps.map fun(i,x)=>(i,a.eval x))).run P w= .ok u w'∧Fr m h w m' h' w'∧R m' v u:=by
 obtain⟨p1,p2⟩:=yC ke hg hx;have b2:(ps.map fun(i,x)=>(i,a.eval x)).toList=ps.toList.map fun x=>(x.1,a.eval x.2):=by simp
 obtain⟨uz,hzr,rfl,_⟩:=lI (w:=w) hz;obtain⟨a1,h1,h2,h3⟩:=pH (m:=m) hc;have a2:uz.cells.size=sz+1:=by rw [h1];show a1.length=_;rw [h2.length,a4]
 obtain⟨r',hr1,hr2,hr3⟩:=zV _ _ p1 p2 (h2.rep len) (xR h3 len) hb;have a0:((Array.range (len*(sz+1))).map (uz.cells[· %uz.cells.size]!))=⟨(List.replicate len a1).flatten⟩:=by
  apply Array.toList_inj.1;rw [←a2,wX uz.cells len (by omega),h1]
 have a6:cs.length=len*(sz+1):=by
  have hl:∀(ps:List (Nat × V)) (c r:List V),gY (fun i=>some (i*(sz+1),sz+1)) c ps=some r→r.length=c.length:=by
   intro ps
   induction ps with
   |nil=>intro c r h;have:c=r:=aJ (by simpa [gY] using h);rw [this]
   | cons p ps ih=>
    intro c r h;obtain⟨i,x⟩:=p;unfold gY at h;simp only at h;cases hq:dE x with
    |none=>rw [hq] at h;cases h
    | some c0=>
     rw [hq] at h;simp only at h;cases hb:Nat.beq (dP c0) (sz+1) with
     |false=>rw [hb] at h;cases h
     | true=>
      rw [hb] at h;simp only [cN] at h;cases ho:gE (i*(sz+1)) c c0 with
      |none=>rw [ho] at h;cases h
      |some c2=>
       rw [ho] at h;obtain⟨h5,h6⟩:=rY _ _ _ ho;rw [ih _ _ h,h6];simp only [aK,aU,cX];omega
  have:=hl _ _ _ hb;rw [this,uG];have:∀k,((List.replicate k zc).flatten).length=k*(sz+1):=by
   intro k;induction k with
   |zero=>simp
   |succ k ih=>rw [lW,iS,aK,ih,a4,gI];omega
  exact this len
 obtain⟨c1,c2,c3⟩:=FC len cs a6;obtain⟨m',hf,hm,rfl⟩:=uV k hn c2 (us:=r') (by rw [c1];exact hr2) hr3 (C:=⟨r'⟩) (extra:=[]) (by simp) el (0,0) (.inl rfl);refine⟨.slice (some ⟨w.heap.size,0,none⟩) len len,_,m',?_,hf,?_⟩
 ·have a8:¬(len*(sz+1)>2^24):=by omega
  rw [←b2] at hr1
  by_cases h0:len*(sz+1)=0
  ·have b1:len=0:=by
    rcases Nat.mul_eq_zero.1 h0 with h|h
    ·exact h
    ·omega
   subst b1;simp only [Instr.buildSlice,aY,bQ hu,cF,gM hs,wN,if_neg a8,if_pos h0,bZ];have e0:((Array.range (0*(sz+1))).map fun x=>(#[]:Array Value)[x%(#[]:Array Value).size]!)=(⟨(List.replicate 0 a1).flatten⟩:Array Value):=by simp
   simp only [e0,hr1,aY,newRow,GJ,cF,bZ]
  ·simp only [Instr.buildSlice,aY,bQ hu,cF,gM hs,wN,if_neg a8,if_neg h0,bZ,hzr,a0,hr1,newRow,GJ]
 ·simp only [R];refine⟨_,len,hm,by simp,aA _,?_⟩;show 0+len*(sz+1)≤r'.length;rw [hr2.length];omega
theorem YV (k:HR m h w) {t el:TypeId} {sz N M:Nat} {k1 k2:IntKind} {z v:V} {zc:List V} {a3:TypeInfo} (hu:P.underlying t=some (.slice el)) (hs:bH P el=some (sz+1))
  (hz:fJ P el=some z) (hc:dE z=some zc) (hi:P.info? el=some a3) (b0:a3.bytes≤1000000) (a4:zc.length=sz+1) (a9:N≤M) (hM:M≤100000)
  (hn:lN el h (sz+1) (iY zc M) (fun i=>.sl i 0 N (sz+1))= .ok v h'):
  ∃u w' m',(Instr.makeSlice t (.int k1 (N:Int)) (.int k2 (M:Int))).run P w= .ok u w'∧Fr m h w m' h' w'∧R m' v u:=by
 obtain⟨uz,hzr,rfl,_⟩:=lI (w:=w) hz;obtain⟨a1,h1,h2,h3⟩:=pH (m:=m) hc;have a2:uz.cells.size=sz+1:=by rw [h1];show a1.length=_;rw [h2.length,a4]
 have a0:((Array.range (M*(sz+1))).map (uz.cells[· %uz.cells.size]!))=⟨(List.replicate M a1).flatten⟩:=by
  apply Array.toList_inj.1;rw [←a2,wX uz.cells M (by omega),h1]
 have a5:∀e0∈iY zc M,e0.length=sz+1:=by
  intro e0 he;rw [uG] at he;rw [(wT.1 he).2,a4]
 obtain⟨m',hf,hm,rfl⟩:=uV k hn a5 (us:=(List.replicate M a1).flatten) (h2.rep M) (xR h3 M) (C:=⟨(List.replicate M a1).flatten⟩) (extra:=[]) (by simp) el (0,0) (.inl rfl);have a6:((List.replicate M a1).flatten).length=M*(sz+1):=by
  have:∀k,((List.replicate k a1).flatten).length=k*(sz+1):=by
   intro k;induction k with
   |zero=>simp
   |succ k ih=>rw [lW,iS,aK,ih,h2.length,a4,gI];omega
  exact this M
 refine⟨.slice (some ⟨w.heap.size,0,none⟩) N M,_,m',?_,hf,?_⟩
 ·have a7:(a3.bytes:Int)*(M:Int)≤281474976710656:=by
   have h9:a3.bytes*M≤1000000*100000:=mX b0 hM;have h8:((a3.bytes*M:Nat):Int)≤281474976710656:=by omega
   simpa using h8
  obtain⟨i2,hi2,hzi⟩:∃i,P.info? el=some i∧i.zero=some uz:=by
   obtain⟨u2,hu2,_,i,hi',hz'⟩:=lI (w:=w) hz;rw [hzr] at hu2;cases hu2;exact⟨i,hi',hz'⟩
  rw [hi] at hi2;cases hi2;have b3:a3.size=sz+1:=by
   obtain⟨i3,hi3,h4⟩:=pX hs;rw [hi] at hi3;cases hi3;exact h4
  have:=run_make (P:=P) w t el a3 uz hu hi hzi k1 k2 (N:Int) (M:Int) (by omega) (by omega) a7 (by omega);rw [this,b3];simp only [Int.toNat_natCast,madeCells];rw [a0];rfl
 ·simp only [R];refine⟨_,M,hm,by simp,a9,?_⟩;show 0+M*(sz+1)≤((List.replicate M a1).flatten).length;omega
end
section
variable {P:Program} {m:Mp} {w:World}
theorem QF (hk:lO x=true) (h:V.beq x y=true):x=y:=by
 cases x<;>simp only [lO,dJ] at hk<;>cases y<;>simp only [V.beq,dJ] at h
 case b.b x y=>
  have e0:x=y:=by simpa using h
  rw [e0]
 case i.i k n k' n'=>
  simp only [aM] at h;obtain⟨h1,h2⟩:=h;have e1:k=k':=by cases k<;>cases k'<;>first|rfl|(simp at h1)
  have e2:n=n':=by
   cases n<;>cases n'<;>simp only [dJ] at h2
   ·rw [aV h2]
   ·rw [aV h2]
  rw [e1,e2]
 case s.s l c l' c'=>
  simp only [sEq,aM] at h;rw [aV h.1,aV h.2]
 case pn.pn=>rfl
 case p.p b o b' o'=>
  simp only [aM] at h;rw [Id.beq_iff.1 h.1,aV h.2]
 case ni.ni=>rfl
theorem QD:∀{l r:List V},l.all lO=true→iE l r=true→l=r
 | [],[],_,_=>rfl
 | [],_::_,_,h=>by simp [iE] at h
 |_::_,[],_,h=>by simp [iE] at h
 |a::l,b::r,hk,h=>by
  simp only [oK,aM] at hk;simp only [iE,aM] at h;rw [QF hk.1 h.1,QD hk.2 h.2]
theorem QE (hk:pA x=true) (h:V.beq x y=true):x=y:=by
 cases x
 case agg l=>
  cases y<;>simp only [V.beq,dJ] at h;rw [QD hk h]
 all_goals exact QF (by exact hk) h
theorem MF (hk:lO x=true) (h:R m x u) (h':R m x u'):u=u':=by
 cases x<;>simp only [lO,dJ] at hk
 case s l c=>
  rw [R_str] at h h';obtain⟨s,rfl,h1,_⟩:=h;obtain⟨s',rfl,h1',_⟩:=h';rw [Ea (h1.trans h1'.symm)]
 case p b o=>
  obtain⟨l,hl,rfl⟩:=R_p h;obtain⟨l',hl',rfl⟩:=R_p h';rw [hl] at hl';cases hl';rfl
 all_goals
  simp only [R] at h h';rw [h,h']
theorem ME:∀{l:List V} {u u':List Value},l.all lO=true→Rl m l u→Rl m l u'→u=u'
 | [],u,u',_,h,h'=>by simp only [Rl] at h h';rw [h,h']
 |a::l,u,u',hk,h,h'=>by
  simp only [oK,aM] at hk;simp only [Rl] at h h';obtain⟨x,xs,rfl,h1,h2⟩:=h;obtain⟨x',xs',rfl,h1',h2'⟩:=h';rw [MF hk.1 h1 h1',ME hk.2 h2 h2']
theorem ZK (hk:pA x=true) (h:R m x u) (h':R m x u'):u=u':=by
 cases x
 case agg l=>
  obtain⟨l1,rfl,h1,_⟩:=mU h;obtain⟨l2,rfl,h2,_⟩:=mU h';rw [ME hk h1 h2]
 all_goals exact MF (by exact hk) h h'
theorem MH (hk:lO x=true) (h:R m x u) (n:Nat):Instr.sameBits n u u=true:=by
 cases x<;>simp only [lO,dJ] at hk
 case s l c=>
  rw [R_str] at h;obtain⟨s,rfl,_⟩:=h;cases n<;>simp [Instr.sameBits,beq_toListBytes]
 case p b o=>
  obtain⟨l,hl,rfl⟩:=R_p h;cases n<;>simp [Instr.sameBits]
 all_goals
  simp only [R] at h;subst h;cases n<;>simp [Instr.sameBits]
theorem MG:∀{l:List V} {us:List Value},l.all lO=true→Rl m l us→∀n,(us.zip us).all (fun x=>Instr.sameBits n x.1 x.2)=true
 | [],us,_,h,n=>by simp only [Rl] at h;subst h;rfl
 |a::l,us,hk,h,n=>by
  simp only [oK,aM] at hk;simp only [Rl] at h;obtain⟨u,us,rfl,h1,h2⟩:=h;simp only [Gk,oK,aM];exact⟨MH hk.1 h1 n,MG hk.2 h2 n⟩
theorem ZL (hk:pA x=true) (h:R m x u) (n:Nat):Instr.sameBits (n+1) u u=true:=by
 cases x
 case agg l=>
  obtain⟨l1,rfl,h1,_⟩:=mU h;have:=MG hk h1 n;simp only [Instr.sameBits,aM];exact⟨by simp,this⟩
 all_goals exact MH (by exact hk) h _
theorem MD (hk:pA x=true) (h:R m x u) (h':R m x u'):(Instr.keyThatStays u u').run P w= .ok u' w:=by
 rw [ZK hk h h'];have:=ZL hk h' 9999;simp only [Instr.keyThatStays,this,if_true,bZ]
theorem rW {o o':Obj} (hb:w.heap[b]?=some o) (hn:∀c t f,o≠ .cells c t f):(setObj b o').run P w= .ok () { w with heap:=w.heap.setIfInBounds b o' }:=by
 cases o<;>first|exact absurd rfl (hn _ _ _)|simp [setObj,Sem.run,hb]
theorem bL.set:∀{es:List Ent} {xs:List MapEntry} (i:Nat) {e':Ent} {f:MapEntry→MapEntry},bL m es xs→(∀y,xs[i]?=some y→EntR m e' (f y))→bL m (oN es i e') (xs.modify i f)
 | [],xs,i,e',f,h,_=>by simp only [bL] at h;subst h;simp [oN,bL]
 |a::es,xs,0,e',f,h,hf=>by
  obtain⟨x,xs,rfl,hx,hxs⟩:=h;simp only [oN,List.modify_zero_cons,bL];exact⟨_,_,rfl,hf x rfl,hxs⟩
 |a::es,xs,i+1,e',f,h,hf=>by
  obtain⟨x,xs,rfl,hx,hxs⟩:=h;simp only [oN,Gs,bL];exact⟨_,_,rfl,hx,bL.set i hxs (fun y hy=>hf y (by simpa using hy))⟩
theorem bL.append:∀{es es':List Ent} {xs xs':List MapEntry},bL m es xs→bL m es' xs'→bL m (es++es') (xs++xs')
 | [],_,xs,_,h,h'=>by simp only [bL] at h;subst h;exact h'
 |a::es,_,xs,_,h,h'=>by
  obtain⟨x,xs,rfl,hx,hxs⟩:=h;simp only [oJ,bL];exact⟨_,_,rfl,hx,hxs.append h'⟩
end
section
variable {P:Program} {m:Mp} {w:World}
theorem uY (k:HR m h w) {b:Id} {l:Loc} {es a7:List Ent} {c c2:Nat} {a6:List MapEntry} (hb:aB b h.mem=some (.map es c)) (hl:m b=some l) (a1:bL m a7 a6):
  Fr m h w m (eD h b (.map a7 c2)) { w with heap:=w.heap.setIfInBounds l.blk (.map ⟨a6⟩ c2) }:=
 Fr.updObj k hb hl (by simp) (by simp) rfl (fun a8=>⟨a6,a8,a1⟩)
theorem LJ (k:HR m h w) {t kt et:TypeId} {b:Id} {l:Loc} {key x v:V} {a0 ux:Value} (hu:P.underlying t=some (.map kt et)) (hl:m b=some l) (hk:R m key a0) (hx:R m x ux)
  (hs:yS P kt h b key x= .ok v h'):v=cI∧∃w',(Instr.mapUpdate t (.map (some l.blk)) a0 ux).run P w= .ok () w'∧Fr m h w m h' w':=by
 unfold yS at hs;cases he:gN h b with
 |none=>rw [he] at hs;cases hs
 | some p=>
  obtain⟨es,c⟩:=p;rw [he] at hs;simp only at hs;obtain⟨l2,xs,hb,hl2,hm,a1⟩:=nV k he;rw [hl] at hl2;cases hl2;cases hf:pD P kt h key es with
  |none=>rw [hf] at hs;cases hs
  | some r=>
   rw [hf] at hs;obtain⟨h1,h2,h3⟩:=EL k hk a1 hf false;cases r with
   |none=>
    simp only at hs;cases hs;refine⟨rfl,_,?_,uY k hb hl (a1.append (es':=[⟨key,x,c⟩]) (xs':=[⟨a0,ux,c⟩]) ⟨_,_,rfl,⟨hk,hx,rfl⟩,rfl⟩)⟩;simp only [Instr.mapUpdate,aY,bQ hu,cF,run_getMap hm,h1,h2,GN,rW hm (by simp)];simp
   | some p=>
    obtain⟨i,e⟩:=p;simp only at hs;obtain⟨a2,y,hy,hye⟩:=h3 _ rfl;simp only at a2 hy hye;cases hkb:(pA key&&V.beq key e.key) with
    |false=>rw [hkb] at hs;cases hs
    |true=>
     rw [hkb] at hs;cases hs;simp only [aM] at hkb;have a3:=QE hkb.1 hkb.2;have a5:R m key y.key:=by rw [a3];exact hye.1
     refine⟨rfl,_,?_,uY k hb hl (a1.set i (e':=⟨key,x,e.born⟩) (f:=fun z=>{ z with key:=a0,val:=ux }) (fun z hz=>by rw [hy] at hz;cases hz;exact⟨hk,hx,hye.2.2⟩))⟩;have a4:(⟨xs⟩:Array MapEntry)[i]?=some y:=by simpa using hy
     simp only [Instr.mapUpdate,aY,bQ hu,cF,run_getMap hm,h1,h2,rC,a4,wO,MD hkb.1 a5 hk,rW hm (by simp)];congr 5;apply Array.toList_inj.1;simp
theorem YU (k:HR m h w) {t kt et:TypeId} {b:Id} {l:Loc} {key z v:V} {a0:Value} (hu:P.underlying t=some (.map kt et)) (hz:fJ P et=some z) (hl:m b=some l) (hk:R m key a0)
  (hs:DP P kt z h b key= .ok v h'):∃u w',(Instr.mapEntry t (.map (some l.blk)) a0).run P w= .ok u w'∧Fr m h w m h' w'∧R m v u:=by
 obtain⟨uz,hzr,rfl,_⟩:=lI (w:=w) hz;unfold DP at hs;cases he:gN h b with
 |none=>rw [he] at hs;cases hs
 | some p=>
  obtain⟨es,c⟩:=p;rw [he] at hs;simp only at hs;obtain⟨l2,xs,hb,hl2,hm,a1⟩:=nV k he;rw [hl] at hl2;cases hl2;cases hf:pD P kt h key es with
  |none=>rw [hf] at hs;cases hs
  | some r=>
   rw [hf] at hs;obtain⟨h1,h2,h3⟩:=EL k hk a1 hf false;cases r with
   | none=>
    simp only at hs;cases hs;refine⟨.tuple #[uz,goInt c],_,?_,uY k hb hl (a1.append (es':=[⟨key,cst uz,c⟩]) (xs':=[⟨a0,uz,c⟩]) ⟨_,_,rfl,⟨hk,qN m uz,rfl⟩,rfl⟩),?_⟩
    ·simp only [Instr.mapEntry,aY,bQ hu,cF,run_getMap hm,h1,h2,GN,hzr,rW hm (by simp),bZ];simp
    ·simp only [R,Rl];exact⟨_,rfl,_,_,rfl,qN m uz,_,_,rfl,rfl,rfl⟩
   | some p=>
    obtain⟨i,e⟩:=p;simp only at hs;obtain⟨a2,y,hy,hye⟩:=h3 _ rfl;simp only at a2 hy hye;cases hkb:(pA key&&V.beq key e.key) with
    |false=>rw [hkb] at hs;cases hs
    | true=>
     rw [hkb] at hs;cases hs;simp only [aM] at hkb;have a3:=QE hkb.1 hkb.2;have a5:R m key y.key:=by rw [a3];exact hye.1
     have a4:(⟨xs⟩:Array MapEntry)[i]?=some y:=by simpa using hy
     have a9:(xs.getD i default).val=y.val:=by simp [Gu,hy]
     refine⟨.tuple #[y.val,goInt y.born],_,?_,uY k hb hl (a1.set i (e':=⟨key,e.val,e.born⟩) (f:=fun z=>{ z with key:=a0 }) (fun z hz=>by rw [hy] at hz;cases hz;exact⟨hk,hye.2.1,hye.2.2⟩)),?_⟩
     ·simp only [Instr.mapEntry,aY,bQ hu,cF,run_getMap hm,h1,h2,rC,a4,a9,wO,MD hkb.1 a5 hk,rW hm (by simp),bZ];congr 5;apply Array.toList_inj.1;simp
     ·simp only [R,Rl];exact⟨_,rfl,_,_,rfl,hye.2.1,_,_,rfl,by rw [hye.2.2];rfl,rfl⟩
theorem PX {nn:Nat}:∀{es:List Ent} {xs:List MapEntry} (i:Nat) {j:Nat} {e:Ent},bL m es xs→vZ nn es i=some (j,e)→
  i≤j∧es[j-i]?=some e∧(∃y,xs[j-i]?=some y∧EntR m e y)∧xs.findIdx? (fun y=>(y.born:Int)==(nn:Int))=some (j-i)
 | [],xs,i,j,e,h,he=>by cases he
 | a::es,xs,i,j,e,h,he=>by
  obtain⟨x,xs,rfl,hx,hxs⟩:=h;unfold vZ at he;cases hb:Nat.beq a.born nn with
  |true=>
   rw [hb] at he;cases he;have h1:((x.born:Int)==(nn:Int))=true:=by rw [hx.2.2,aV hb];simp
   refine⟨aA _,by simp,⟨x,by simp,hx⟩,?_⟩;simp [Gw,h1]
  | false=>
   rw [hb] at he;have h1:((x.born:Int)==(nn:Int))=false:=by
    rw [hx.2.2];simp;intro h;have:a.born=nn:=by omega
    subst this;simp at hb
   obtain⟨i1,i2,⟨y,i3,i4⟩,i5⟩:=PX (i+1) hxs he;have e1:j-i=(j-(i+1))+1:=by omega
   refine⟨by omega,by rw [e1];simpa using i2,⟨y,by rw [e1];simpa using i3,i4⟩,?_⟩;simp only [Gw,h1,i5,e1];rfl
theorem Bx (k:HR m h w) {t:TypeId} {b:Id} {l:Loc} {nn:Nat} {kk:IntKind} {x v:V} {ux:Value} (hl:m b=some l) (hx:R m x ux)
  (hs:ES h b nn x= .ok v h'):v=cI∧∃w',(Instr.entryStore t (.map (some l.blk)) (.int kk (nn:Int)) ux).run P w= .ok () w'∧Fr m h w m h' w':=by
 unfold ES at hs;cases he:gN h b with
 |none=>rw [he] at hs;cases hs
 | some p=>
  obtain⟨es,c⟩:=p;rw [he] at hs;simp only at hs;obtain⟨l2,xs,hb,hl2,hm,a1⟩:=nV k he;rw [hl] at hl2;cases hl2;cases hf:vZ nn es 0 with
  |none=>rw [hf] at hs;cases hs
  |some p=>
   obtain⟨i,e⟩:=p;rw [hf] at hs;cases hs;obtain⟨_,i2,⟨y,i3,i4⟩,i5⟩:=PX 0 a1 hf;simp only [AY] at i2 i3 i5;refine⟨rfl,_,?_,uY k hb hl (a1.set i (e':=⟨e.key,x,e.born⟩) (f:=fun z=>{ z with val:=ux }) (fun z hz=>by rw [i3] at hz;cases hz;exact⟨i4.1,hx,i4.2.2⟩))⟩;have b0:(⟨xs⟩:Array MapEntry).findIdx? (fun e=>(e.born:Int)==(nn:Int))=some i:=by simpa using i5
   simp only [Instr.entryStore,aY,run_getMap hm,cF,asInt,asIntOf,bZ,b0,rW hm (by simp)];congr 5;apply Array.toList_inj.1;simp
end
section
variable {P:Program} {m:Mp} {w:World}
theorem uA:∀(n:Nat) (L r:List (List V)),oM n L=some r→n≤L.length∧r=L.take n
 |0,L,r,h=>by
  have:[]=r:=aJ h;subst this;simp
 |n+1,[],r,h=>by cases h
 | n+1,a::L,r,h=>by
  have e:oM (n+1) (a::L)=Option.rec (motive:=fun _=>Option (List (List V))) none (fun x=>some (a::x)) (oM n L):=rfl;rw [e] at h;cases hx:oM n L with
  |none=>rw [hx] at h;cases h
  |some x=>
   rw [hx] at h;cases h;obtain⟨h5,rfl⟩:=uA n L x hx;exact⟨by simp;omega,by simp⟩
theorem AD:∀(n:Nat) (L:List (List V)),vQ n L=L.drop n
 |0,L=>rfl
 |n+1,[]=>rfl
 |n+1,a::L=>by show vQ n L=_;rw [AD n L];rfl
theorem vL {sz:Nat}:∀(L:List (List V)) (q:Nat),(∀el∈L,el.length=sz)→(L.drop q).flatten=L.flatten.drop (q*sz)
 | [],q,_=>by simp
 |a::L,0,_=>by simp
 | a::L,q+1,hL=>by
  have ha:=hL a (by simp);have e1:(a++L.flatten).drop ((q+1)*sz)=L.flatten.drop (q*sz):=by
   rw [SO,Gz (by rw [ha,gI];omega),oF];congr 1;rw [ha,gI];omega
  rw [bF,vL L q (fun el he=>hL el (by simp [he])),iS,e1]
theorem flat_take {sz:Nat}:∀(L:List (List V)) (q:Nat),(∀el∈L,el.length=sz)→(L.take q).flatten=L.flatten.take (q*sz)
 | [],q,_=>by simp
 |a::L,0,_=>by simp
 | a::L,q+1,hL=>by
  have ha:=hL a (by simp);have e1:(a++L.flatten).take ((q+1)*sz)=a++L.flatten.take (q*sz):=by
   rw [SE,eP (by rw [ha,gI];omega)];congr 2;rw [ha,gI];omega
  rw [bB,iS,flat_take L q (fun el he=>hL el (by simp [he])),iS,e1]
theorem ET {sz len:Nat} {l:Loc} {a0:List (List V)} {ro:Rw} (hc:CellsAt m w l sz a0 ro C t fz) (ho:o%sz=0)
  (b4:len≤(a0.drop (o/sz)).length):
  ∃us,(∀el∈(a0.drop (o/sz)).take len,el.length=sz)∧((a0.drop (o/sz)).take len).length=len∧us.length=len*sz∧Rl m ((a0.drop (o/sz)).take len).flatten us∧(∀x∈us,cZ x)∧
   (∀(j:Nat) v,us[j]?=some v→C[l.base+o+j]?=some v):=by
 have a2:∀el∈(a0.drop (o/sz)).take len,el.length=sz:=fun el a3=>hc.each el (wU (iQ a3))
 have a5:((a0.drop (o/sz)).take len).length=len:=by rw [aU];omega
 have hq:o/sz*sz=o:=by have:=kD o sz;rw [bG,ho] at this;simpa using this
 have a4:((a0.drop (o/sz)).take len).flatten=(a0.flatten.drop o).take (len*sz):=by
  rw [flat_take _ _ (fun el a3=>hc.each el (wU a3)),vL _ _ hc.each,hq]
 have a7:=flat_len a2;rw [a5] at a7;have a1:∀j,j<len*sz→∃v u,((a0.drop (o/sz)).take len).flatten[j]?=some v∧C[l.base+o+j]?=some u∧R m v u∧cZ u:=by
  intro j hj;have hv:∃v,((a0.drop (o/sz)).take len).flatten[j]?=some v:=⟨_,aL (by rw [a7];exact hj)⟩;obtain⟨v,hv⟩:=hv;have b0:=hv;rw [a4,gC hj,iR] at b0;obtain⟨u,h1,h2,h3⟩:=hc.val _ _ b0;exact⟨v,u,hv,by rw [kE];exact h1,h2,h3⟩
 refine⟨(List.range (len*sz)).map (fun j=>(C[l.base+o+j]?).getD undef),a2,a5,by simp,?_,?_,?_⟩
 ·refine Rl.mk (by rw [a7];simp) ?_;intro j v u hv hu;have hj:j<len*sz:=by have:=(List.getElem?_eq_some_iff.1 hv).1;rw [a7] at this;exact this
  obtain⟨v',u',hv',hu',hR,_⟩:=a1 j hj;rw [hv] at hv';cases hv';simp only [jK,BH hj,rC,cB] at hu;rw [hu'] at hu;subst hu;exact hR
 ·intro x hx;simp only [dG,SH] at hx;obtain⟨j,hj,rfl⟩:=hx;obtain⟨v',u',_,hu',_,hs⟩:=a1 j hj;rw [hu'];exact hs
 ·intro j v hv;have hj:j<len*sz:=by have:=(List.getElem?_eq_some_iff.1 hv).1;simpa using this
  obtain⟨v',u',_,hu',_,_⟩:=a1 j hj;simp only [jK,BH hj,rC,cB] at hv;rw [hu'] at hv;simp at hv;subst hv;exact hu'
theorem PT:∀(s:List UInt8),(mQ (s.map UInt8.toNat)).length=s.length∧(∀el∈mQ (s.map UInt8.toNat),el.length=1)∧
  Rl m (mQ (s.map UInt8.toNat)).flatten (s.map fun b=>.int .u8 b.toNat)
 | []=>by simp [mQ,Rl]
 | b::s=>by
  obtain⟨h1,h2,h3⟩:=PT s;refine⟨by simp [mQ,h1],?_,?_⟩
  ·intro el a3;simp only [gB,mQ,cD] at a3;rcases a3 with rfl|a3
   ·rfl
   ·exact h2 el a3
  ·simp only [gB,mQ,iS,oJ,oF,Rl];exact⟨_,_,rfl,by simp [R],h3⟩
theorem By (k:HR m h w) {sz:Nat} {x:V} {u:Value} {els:List (List V)} (hx:R m x u) (he:vP h (sz+1) x=some els):
  ∃us,(∀el∈els,el.length=sz+1)∧us.length=els.length*(sz+1)∧Rl m els.flatten us∧(∀y∈us,cZ y)∧(Builtin.lenOf u).run P w= .ok els.length w∧
   ∀n,n≤els.length→(Builtin.firstCells (sz+1) n u).run P w= .ok ⟨us.take (n*(sz+1))⟩ w:=by
 unfold vP at he;split at he
 ·cases he;simp only [R] at hx;subst hx;exact⟨[],by simp,by simp,by simp [Rl],by simp,by simp [Builtin.lenOf],fun n hn=>by simp [Builtin.firstCells]⟩
 ·cases he;simp only [R] at hx;obtain⟨a,cap,rfl⟩:=hx;refine⟨[],by simp,by simp,by simp [Rl],by simp,by simp [Builtin.lenOf],fun n hn=>?_⟩;have:n=0:=by simpa using hn
  subst this;simp [Builtin.firstCells,loadCells,loadCellsFrom]
 ·rename_i b o len z;split at he
  ·rename_i b3 a0 f ro hb;cases hc:(Nat.beq (sz+1) b3&&Nat.beq (Nat.mod o (sz+1)) 0) with
   |false=>rw [hc] at he;cases he
   | true=>
    rw [hc] at he;simp only [cN] at he;simp only [aM] at hc;have h1:=aV hc.1;subst h1;have h2:o%(sz+1)=0:=aV hc.2;obtain⟨l,hl,C,t,fz,hcs⟩:=k.obj _ _ hb;rw [AD] at he;obtain⟨h5,rfl⟩:=uA _ _ _ he;obtain⟨us,e1,e2,e3,e4,e5,e6⟩:=ET hcs h2 h5;simp only [R] at hx;obtain⟨l2,cap,hl2,rfl,hlc,hlim⟩:=hx;rw [hl] at hl2;cases hl2;refine⟨us,e1,?_,e4,e5,?_,?_⟩
    ·rw [e3];congr 1;exact e2.symm
    ·simp only [Builtin.lenOf,bZ];congr 1;exact e2.symm
    ·intro n hn;have b2:n≤len:=by have h6:((a0.drop (Nat.div o (sz+1))).take len).length=len:=e2;rw [h6] at hn;exact hn
     have a6:=RD (P:=P) (w:=w) ⟨l.blk,l.base+o,none⟩ (us.take (n*(sz+1))) (fun j v hv=>by
      rw [mT,sW hcs.at_];rw [HC] at hv;split at hv
      ·exact e6 j v hv
      ·cases hv)
     have b1:(us.take (n*(sz+1))).length=n*(sz+1):=by
      rw [aU,e3];exact kY (eI _ b2)
     rw [b1] at a6;simp only [Builtin.firstCells];simpa using a6
  ·cases he
 ·rename_i l c;cases hz:Nat.beq (sz+1) 1 with
  |false=>rw [hz] at he;cases he
  |true=>
  rw [hz] at he;simp only [cN,cB] at he;subst he;have b5:=aV hz;have:sz=0:=by omega
  subst this;rw [R_str] at hx;obtain⟨s,rfl,hb,_⟩:=hx;rw [←hb];obtain⟨h1,h2,h3⟩:=PT (m:=m) s.data.toList;have a9:s.data.toList.length=s.size:=by rw [cV];rfl
  have a8:(mQ (dQ s)).length=s.size:=by rw [←a9];exact h1
  refine⟨s.data.toList.map (fun b:UInt8=>(Value.int .u8 ((b.toNat:Nat):Int))),h2,by rw [a8];simp [a9],h3,by simp [cZ],?_,?_⟩
  ·rw [a8];simp [Builtin.lenOf]
  ·intro n hn;simp only [Builtin.firstCells,bZ];congr 1;apply Array.toList_inj.1;obtain⟨⟨sl⟩⟩:=s;have:=ByteArray.extract_mk sl 0 n;rw [show(ByteArray.mk ⟨sl⟩).extract 0 n=(ByteArray.mk sl.toArray).extract 0 n from rfl,this];simp
 ·cases he
end
section
variable {P:Program} {m:Mp} {w:World}
theorem ID (b:Id):∀(l:List Id),(∀x∈(kJ b l).1,x≠b∧x∈l)∧(∀x∈(kJ b l).2,x∈l)∧(∀x∈l,x≠b→x∈(kJ b l).1∨x∈(kJ b l).2)∧(b∈l→∃pre,l=pre++b::(kJ b l).2)∧(b∉l→(kJ b l).2= [])
 | []=>by simp [kJ]
 | x ::l=>by
  obtain⟨h1,h2,h3,h4,h5⟩:=ID b l;cases e:Id.beq x b with
  |true=>
   have:=Id.beq_iff.1 e;subst this;simp only [kJ,e,cN];refine⟨by simp,fun y hy=>by simp [hy],fun y hy a2=>?_,fun _=>⟨[],rfl⟩,fun h=>absurd (by simp) h⟩;simp only [cD] at hy;rcases hy with rfl|hy
   ·exact absurd rfl a2
   ·exact .inr hy
  | false=>
   have a2:x≠b:=fun h=>by rw [Id.beq_iff.2 h] at e;cases e
   simp only [kJ,e,jZ];refine⟨?_,fun y hy=>by simp [h2 y hy],?_,?_,?_⟩
   ·intro y hy;simp only [cD] at hy ⊢;rcases hy with rfl|hy
    ·exact⟨a2,.inl rfl⟩
    ·exact⟨(h1 y hy).1,.inr (h1 y hy).2⟩
   ·intro y hy d0;simp only [cD] at hy ⊢;rcases hy with rfl|hy
    ·exact .inl (.inl rfl)
    ·rcases h3 y hy d0 with h|h
     ·exact .inl (.inr h)
     ·exact .inr h
   ·intro hb;simp only [cD] at hb;rcases hb with rfl|hb
    ·exact absurd rfl a2
    ·obtain⟨pre,hpre⟩:=h4 hb;exact⟨x::pre,by simp [←hpre]⟩
   ·intro hb;exact h5 (fun h=>hb (by simp [h]))
theorem MW (k:HR m h w) {b f:Id} {sz len q tg:Nat} {els old new:List (List V)} {l:Loc} {v:V} (hb:aB b h.mem=some (.cells sz els f (.rw tg))) (hl:m b=some l)
  (hq:q+len=els.length) (c8:old=els.drop q) (hg:grown tg sz b f len old new h= .ok v h') (a2:∀el∈new,el.length=sz)
  {C':Array Value} {t:TypeId} {fz':Nat × Nat} {w':World} {l':Loc}
  (hw:(w'={ w with heap:=w.heap.setIfInBounds l.blk (.cells C' t fz') }∧l'=⟨l.blk,l.base+q*sz,l.lim-q*sz⟩∧(∃C fz,w.heap[l.blk]?=some (.cells C t fz')∧CellsAt m w l sz els (.rw tg) C t fz∧fz=fz'∧C'.size=C.size∧
    (∀j,j<l.base+els.flatten.length→C'[j]?=C[j]?)))∨
   (w'={ w with heap:=w.heap.push (.cells C' t fz') }∧l'=⟨w.heap.size,0,C'.size⟩))
  (d7:∀m2:Mp,m.le m2→w'.heap[l'.blk]?=some (.cells C' t fz')→CellsAt m2 w' l' sz (old++new) (.rw tg) C' t fz'):
  ∃m',Fr m h w m' h' w'∧m' h.next=some l'∧v= .sl h.next 0 (len+new.length) sz:=by
 obtain⟨mem,fams,next⟩:=h;unfold grown at hg;simp only at hg;cases hs:next.succ with
 |none=>rw [hs] at hg;cases hg
 | some nx=>
  rw [hs] at hg;simp only at hg;obtain⟨u1,u2,u3,u4,u5⟩:=ID b (aQ f fams);generalize f8:kJ b (aQ f fams)=ut at hg u1 u2 u3 u4 u5;obtain⟨a5,rest⟩:=ut;simp only at hg u1 u2 u3 u4 u5;cases hg;rw [Fp,vE];have e6:m next=none:=by
   cases e:m next with
   |none=>rfl
   |some l0=>exact absurd (k.dom _ _ e) (pP _)
  have b6:m.le (fun x=>if x=next then some l' else m x):=by
   intro x lx hx;have:x≠next:=fun e=>by rw [e,e6] at hx;cases hx
   simp [this,hx]
  have f6:=Id.succ_toNat hs;have d8:b.toNat<next.toNat:=k.dom _ _ hl
  have a0:∀x ox,aB x (dC next (some (.cells sz (old++new) f (.rw tg))) (gG a5 mem))=some ox→(x=next∧ox= .cells sz (old++new) f (.rw tg))∨(x≠next∧x∉a5∧aB x mem=some ox):=by
   intro x ox hx
   by_cases e:x=next
   ·subst e;rw [fR] at hx;exact .inl ⟨rfl,(aJ hx).symm⟩
   ·rw [eM e,kR] at hx;split at hx
    ·cases hx
    ·exact .inr ⟨e,by assumption,hx⟩
  obtain⟨lb,c6,C0,t0,fz0,hcb⟩:=k.obj _ _ hb;have c6:lb=l:=by have:m b=some lb:=c6;rw [hl] at this;cases this;rfl
  subst c6;have b5:=k.lt _ _ hl;have c1:∀y b0 els' f' ro' ly,y∉a5→aB y mem=some (.cells b0 els' f' ro')→m y=some ly→ly.blk=lb.blk→ly.base+els'.flatten.length≤lb.base+els.flatten.length:=by
   intro y b0 els' f' ro' ly hd hy a4 a6
   by_cases e:y=b
   ·subst e;have h1:aB y mem=some (.cells sz els f (.rw tg)):=hb;rw [h1] at hy;cases hy;rw [hl] at a4;cases a4;exact aA _
   ·have hf:f'=f:=k.sep y b _ _ ly lb hy hb a4 hl e a6;subst hf;have f0:y∈aQ f' fams:=k.fam y b _ _ _ _ _ _ _ hy hb e;have d0:b∈aQ f' fams:=k.fam b y _ _ _ _ _ _ _ hb hy (eH e);have f4:y∈rest:=by
     rcases u3 y f0 e with h1|h1
     ·exact absurd h1 hd
     ·exact h1
    obtain⟨pre,hpre⟩:=u4 d0;have ho:=k.ord f';have c7:(pre++b::rest).Pairwise (EndLe m mem):=by rw [←hpre];exact ho
    have:=(GZ.1 c7).2.1;have:=(List.pairwise_cons.1 this).1 y f4;exact this _ _ _ _ _ _ _ _ _ _ hb hy hl a4 a6.symm
  have c5:∀(hA:l'.blk=lb.blk),lb.base+els.flatten.length≤l'.base+(old++new).flatten.length:=by
   intro hA;rcases hw with⟨_,hl',_⟩|⟨_,hl'⟩
   ·subst hl';have h1:=flat_len hcb.each;have h2:(old++new).flatten.length=old.flatten.length+new.flatten.length:=by simp
    have h3:old.flatten.length=els.flatten.length-q*sz:=by
     rw [c8,vL _ _ hcb.each,cX]
    have h4:q*sz≤els.flatten.length:=by rw [h1];exact eI _ (by omega)
    show lb.base+els.flatten.length≤lb.base+q*sz+(old++new).flatten.length;omega
   ·subst hl';have:w.heap.size=lb.blk:=hA;omega
  have b4:w'.heap[l'.blk]?=some (.cells C' t fz'):=by
   rcases hw with⟨rfl,rfl,_⟩|⟨rfl,rfl⟩
   ·simp [b5]
   ·simp
  have b8:∀B,B<w.heap.size→B≠lb.blk→w'.heap[B]?=w.heap[B]?:=by
   intro B hB a2;rcases hw with⟨rfl,_,_⟩|⟨rfl,_⟩
   ·simp [lG,eH a2]
   ·exact zN _ hB
  have a9:w.heap.size≤w'.heap.size∧l'.blk<w'.heap.size:=by
   rcases hw with⟨rfl,rfl,_⟩|⟨rfl,rfl⟩
   ·simp [b5]
   ·simp
  have a7:l'.blk=lb.blk∨l'.blk=w.heap.size:=by
   rcases hw with⟨_,rfl,_⟩|⟨_,rfl⟩
   ·exact .inl rfl
   ·exact .inr rfl
  refine⟨_,⟨b6,⟨?_,?_,?_,?_,?_,?_,?_,?_⟩,a9.1,?_,?_,?_,?_,?_,?_,by show next.toNat≤nx.toNat;omega,fun x sz1 els1 f1 c0 hx=>by
   rcases a0 x _ hx with⟨rfl,e⟩|⟨_,_,hx1⟩
   ·cases e;exact .inr ⟨b,_,_,_,hb⟩
   ·exact .inr ⟨x,sz1,els1,c0,hx1⟩⟩,by simp,rfl⟩
  ·
   intro x ox hx;rcases a0 x ox hx with⟨rfl,rfl⟩|⟨a2,hd,hx1⟩
   ·exact⟨l',by simp,C',t,fz',d7 _ b6 b4⟩
   ·clear hx;have hx:=hx1;obtain⟨lx,a1,ho⟩:=k.obj x ox hx;refine⟨lx,by simp [a2,a1],?_⟩;have b7:=k.lt _ _ a1
    by_cases hB:lx.blk=lb.blk
    ·
     rcases hw with⟨d4,a8,C,fz,hC,hCA,hfz,hsz,hsame⟩|⟨d4,a8⟩
     ·by_cases c9:∃b0 els' f' ro',ox= .cells b0 els' f' ro'
      ·obtain⟨b0,els',f',ro',rfl⟩:=c9;obtain⟨Cx,tx,fzx,hcx⟩:=ho;have d2:=hcx.at_;rw [hB,hC] at d2;have c2:C=Cx∧t=tx∧fz'=fzx:=by
        injection d2 with e;injection e with e1 e2 e3
        exact⟨e1,e2,e3⟩
       obtain⟨c2,hT1,hF1⟩:=c2;have f7:=c1 x _ _ _ _ lx hd hx a1 hB;have c3:w'.heap[lx.blk]?=some (.cells C' t fz'):=by rw [hB,←b4,a8]
       subst c2;subst hT1;subst hF1;refine⟨C',t,fz',⟨c3,by rw [hsz];exact hcx.room,hcx.len,hcx.each,?_,hcx.free,hcx.plain,hcx.typ,hcx.al⟩⟩;intro i v hv;obtain⟨u,h1,h2,h3⟩:=hcx.val i v hv;have hi:=(List.getElem?_eq_some_iff.1 hv).1;exact⟨u,by rw [hsame _ (by omega)];exact h1,h2.mono b6,h3⟩
      ·exfalso
       by_cases e:x=b
       ·subst e;have h1:aB x mem=some (.cells sz els f (.rw tg)):=hb;rw [h1] at hx;cases hx;exact c9 ⟨_,_,_,_,rfl⟩
       ·have:=k.sep x b ox _ lx lb hx hb a1 hl e hB;cases ox with
        |cells b0 els' f' ro'=>exact c9 ⟨_,_,_,_,rfl⟩
        |map _ _=>exact this
        |miter _ _ _ _=>exact this
     ·subst d4;exact ho.keep b6 (zN _ b7)
    ·exact ho.keep b6 (b8 _ b7 hB)
  ·
   intro x lx hx;show x.toNat<nx.toNat
   by_cases e:x=next
   ·subst e;omega
   ·simp [e] at hx;have:=k.dom _ _ hx;have h9:x.toNat<next.toNat:=this;omega
  ·
   intro x y ox oy lx ly hx hy a1 a4 a2 a6;rcases a0 x ox hx with⟨rfl,rfl⟩|⟨hn1,hd1,hx1⟩<;>rcases a0 y oy hy with⟨rfl,rfl⟩|⟨hn2,hd2,hy1⟩
   ·exact absurd rfl a2
   ·simp at a1;simp [hn2] at a4;subst a1;have:=k.lt _ _ a4;rcases a7 with hA|hA
    ·by_cases e:y=b
     ·subst e;have h1:aB y mem=some (.cells sz els f (.rw tg)):=hb;rw [h1] at hy1;cases hy1;exact rfl
     ·have b1:=k.sep y b oy _ ly lb hy1 hb a4 hl e (by rw [←a6,hA]);cases oy with
      |cells b0 els' f' ro'=>exact(show f'=f from b1).symm
      |map _ _=>exact b1
      |miter _ _ _ _=>exact b1
    ·omega
   ·simp at a4;simp [hn1] at a1;subst a4;have:=k.lt _ _ a1;rcases a7 with hA|hA
    ·by_cases e:x=b
     ·subst e;have h1:aB x mem=some (.cells sz els f (.rw tg)):=hb;rw [h1] at hx1;cases hx1;exact rfl
     ·have b1:=k.sep x b ox _ lx lb hx1 hb a1 hl e (by rw [a6,hA]);cases ox with
      |cells b0 els' f' ro'=>exact(show f'=f from b1)
      |map _ _=>exact b1
      |miter _ _ _ _=>exact b1
    ·omega
   ·simp [hn1] at a1;simp [hn2] at a4;exact k.sep x y ox oy lx ly hx1 hy1 a1 a4 a2 a6
  ·
   intro x y sz1 els1 f1 c0 sz2 els2 d6 hx hy a2;show x∈aQ f1 (fY f (next::b::rest) fams)
   by_cases hf:f1=f
   ·subst hf;rw [nU];rcases a0 x _ hx with⟨rfl,_⟩|⟨hn1,hd1,hx1⟩
    ·simp
    ·by_cases e:x=b
     ·subst e;simp
     ·have e7:x∈aQ f1 fams:=k.fam x b _ _ _ _ _ _ _ hx1 hb e;rcases u3 x e7 e with h1|h1
      ·exact absurd h1 hd1
      ·simp [h1]
   ·rw [iO hf];rcases a0 x _ hx with⟨rfl,e1⟩|⟨hn1,hd1,hx1⟩
    ·cases e1;exact absurd rfl hf
    ·rcases a0 y _ hy with⟨rfl,e2⟩|⟨hn2,hd2,hy1⟩
     ·cases e2;exact absurd rfl hf
     ·exact k.fam x y _ _ _ _ _ _ _ hx1 hy1 a2
  ·
   intro f1;show(aQ f1 (fY f (next::b::rest) fams)).Pairwise _;have trans:∀x y,x≠next→y≠next→EndLe m mem x y→EndLe (fun x=>if x=next then some l' else m x) (dC next (some (.cells sz (old++new) f (.rw tg))) (gG a5 mem)) x y:=by
    intro x y d5 b9 e8 sz1 els1 f1 c0 sz2 els2 f2 d6 l1 l2 hx hy a8 b3 a6;rcases a0 x _ hx with⟨e,_⟩|⟨_,_,hx1⟩
    ·exact absurd e d5
    ·rcases a0 y _ hy with⟨e,_⟩|⟨_,_,hy1⟩
     ·exact absurd e b9
     ·simp [d5] at a8;simp [b9] at b3;exact e8 _ _ _ _ _ _ _ _ _ _ hx1 hy1 a8 b3 a6
   have a3:∀f2 x,x∈aQ f2 fams→x≠next:=fun f2 x hx e=>by
    have:=k.flt f2 x hx;subst e;exact absurd this (pP _)
   have lift:∀L:List Id,(∀x∈L,x≠next)→L.Pairwise (EndLe m mem)→L.Pairwise (EndLe (fun x=>if x=next then some l' else m x) (dC next (some (.cells sz (old++new) f (.rw tg))) (gG a5 mem))):=by
    intro L hL hp;exact hp.imp_of_mem (fun hx hy h=>trans _ _ (hL _ hx) (hL _ hy) h)
   by_cases hf:f1=f
   ·subst hf;rw [nU];have d9:(b::rest).Pairwise (EndLe m mem):=by
     by_cases d1:b∈aQ f1 fams
     ·obtain⟨pre,hpre⟩:=u4 d1;have ho:=k.ord f1;have c7:(pre++b::rest).Pairwise (EndLe m mem):=by rw [←hpre];exact ho
      exact(GZ.1 c7).2.1
     ·rw [u5 d1];simp
    have c4:b≠next:=fun e=>by subst e;exact absurd d8 (pP _)
    have d3:∀x∈b::rest,x≠next:=by
     intro x hx;simp only [cD] at hx;rcases hx with rfl|hx
     ·exact c4
     ·exact a3 f1 x (u2 x hx)
    refine List.pairwise_cons.2 ⟨?_,lift _ d3 d9⟩;intro y hy sz1 els1 f2 c0 sz2 els2 f3 d6 l1 l2 hx e9 a8 b3 a6;rcases a0 next _ hx with⟨_,e1⟩|⟨hn,_,_⟩
    ·cases e1;have b9:=d3 y hy;rcases a0 y _ e9 with⟨e,_⟩|⟨_,hd,hy1⟩
     ·exact absurd e b9
     ·simp at a8;subst a8;simp [b9] at b3;have e4:=k.lt _ _ b3;rcases a7 with hA|hA
      ·have h1:=c1 y _ _ _ _ l2 hd hy1 b3 (by rw [←a6,hA]);have h2:=c5 hA;omega
      ·omega
    ·exact absurd rfl hn
   ·rw [iO hf];exact lift _ (fun x hx=>a3 f1 x hx) (k.ord f1)
  ·
   intro x lx hx
   by_cases e:x=next
   ·subst e;simp at hx;subst hx;exact a9.2
   ·simp [e] at hx;have:=k.lt _ _ hx;omega
  ·
   intro x sz1 els1 f1 c0 hx;show f1.toNat<nx.toNat;have f5:f.toNat<next.toNat:=k.famlt _ _ _ _ _ hb
   rcases a0 x _ hx with⟨rfl,e1⟩|⟨_,_,hx1⟩
   ·cases e1;omega
   ·have:f1.toNat<next.toNat:=k.famlt _ _ _ _ _ hx1;omega
  ·
   intro f1 x hx;show x.toNat<nx.toNat;have b2:x∈aQ f1 (fY f (next::b::rest) fams):=hx
   by_cases hf:f1=f
   ·subst hf;rw [nU] at b2;simp only [cD] at b2;rcases b2 with rfl|rfl|b2
    ·omega
    ·omega
    ·have:x.toNat<next.toNat:=k.flt f1 x (u2 x b2);omega
   ·rw [iO hf] at b2;have:x.toNat<next.toNat:=k.flt f1 x b2;omega
  ·
   intro B hB hn;refine b8 B hB ?_;rintro rfl;exact hn ⟨b,_,lb,hb,hl,rfl,by simp [iI]⟩
  ·rcases hw with⟨rfl,_⟩|⟨rfl,_⟩<;>rfl
  ·rcases hw with⟨rfl,_⟩|⟨rfl,_⟩<;>rfl
  ·rcases hw with⟨rfl,_⟩|⟨rfl,_⟩<;>rfl
  ·
   intro x ox lx hx a1;rcases a0 x ox hx with⟨rfl,rfl⟩|⟨a2,hd,hx1⟩
   ·simp at a1;subst a1;rcases a7 with hA|hA
    ·exact .inr ⟨b,_,lb,hb,hl,hA.symm,fun _=>by simp [iI]⟩
    ·exact .inl (by omega)
   ·simp [a2] at a1;exact .inr ⟨x,ox,lx,hx1,a1,rfl,id⟩
  ·
   intro x lx hx e0;have:x≠next:=fun e=>by subst e;exact absurd e0 (pP _)
   simpa [this] using hx
end
end Go.Ev
