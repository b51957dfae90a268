/- Lemmas for the text Card; no condition. -/
import Derived.Test.YtbdpdeonapmlgaaGreatDoorBa
import Derived.Lib.UnsafeStr
set_option linter.all false
set_option maxHeartbeats 4000000
namespace Go.Ev
variable {u z:Value} {h h':H} {n B o:Nat} {l xs:List V} {a:Act} {e:Env} {t:TypeId} {a1 l' xs':List Value}
section
variable {P:Program} {m:Mp} {w:World}
theorem XM {x:V} (h:okEq x=true) (hR:R m x u):(∀k n,u≠ .int k n)∧(∀s,u≠ .string s)∧(∀k n,u≠ .float k n)∧(∀k a b,u≠ .complex k a b)∧u≠ .nilIface:=by
 cases x<;>simp only [okEq,dJ] at h<;>simp only [R] at hR
 all_goals first
  |(subst hR;simp;done)
  |(obtain⟨_,rfl,_⟩:=hR;simp;done)
  |(obtain⟨_,_,rfl⟩:=hR;simp;done)
  |(obtain⟨_,_,_,rfl,_⟩:=hR;simp;done)
  |(obtain⟨_,_,rfl,_⟩:=hR;simp;done)
theorem En (k:bD m n e a) (hg:Gl P m) {h:H} (hr:HR m h w) {op:BinOp} {t:TypeId} {x y:Operand} (hx:cO P n x=true) (hy:cO P n y=true)
  {v:V} (hv:(binC P op t x y).run e h=some v):∃u,(do eqGuard op t x y (a.eval x) (a.eval y);binOp op t (a.eval x) (a.eval y):Sem Value).run P w= .ok u w∧R m v u:=by
 have hX:=cS k hg hx;have hY:=cS k hg hy;have a1:(eqGuard op t x y (a.eval x) (a.eval y)).run P w= .ok () w→(∃u,(binOp op t (a.eval x) (a.eval y)).run P w= .ok u w∧R m v u)→
   ∃u,(do eqGuard op t x y (a.eval x) (a.eval y);binOp op t (a.eval x) (a.eval y):Sem Value).run P w= .ok u w∧R m v u:=by
  rintro h1 ⟨u,h2,h3⟩;exact⟨u,by simp [h1,h2],h3⟩
 have other:P.eqGuardType P.depth t=false→(op= .eql∧yesO (sP P t h ((aF x).run e) ((aF y).run e))=some v∨op= .neq∧notO (sP P t h ((aF x).run e) ((aF y).run e))=some v)→
   ∃u,(do eqGuard op t x y (a.eval x) (a.eval y);binOp op t (a.eval x) (a.eval y):Sem Value).run P w= .ok u w∧R m v u:=by
  intro a0 a6;have val:∀b,sP P t h ((aF x).run e) ((aF y).run e)=some b→(eqGuard op t x y (a.eval x) (a.eval y)).run P w= .ok () w∧
    (binOp .eql t (a.eval x) (a.eval y)).run P w= .ok (.bool b) w∧(binOp .neq t (a.eval x) (a.eval y)).run P w= .ok (.bool (!b)) w:=by
   intro b hb;unfold sP at hb;cases ho:okEq ((aF x).run e) with
   |false=>rw [ho] at hb;cases hb
   |true=>
    rw [ho] at hb;obtain⟨s1,s2,s3,s4,s5⟩:=XM ho hX;have a5:=EP hr 20 t 10000 (by omega) _ _ _ _ b hX hY hb;exact⟨EQ (fun hh=>s5 hh.1) (.inr a0),QC s1 s2 s3 s4 a5⟩
  rcases a6 with⟨rfl,hv1⟩|⟨rfl,hv1⟩
  ·obtain⟨b,hb,rfl⟩:=HJ hv1;obtain⟨h1,h2,h3⟩:=val b hb;exact a1 h1 ⟨_,h2,by simp [R]⟩
  ·obtain⟨b,hb,rfl⟩:=KW hv1;obtain⟨h1,h2,h3⟩:=val b hb;exact a1 h1 ⟨_,h3,by simp [R]⟩
 unfold binC at hv;cases hu:P.underlying t with
 | none=>
  rw [hu] at hv;simp only at hv;cases a0:P.eqGuardType P.depth t with
  |true=>rw [a0] at hv;cases hv
  |false=>
   rw [a0] at hv;simp only [jZ] at hv;cases op<;>first|(cases hv;done)|exact other a0 (.inl ⟨rfl,hv⟩)|exact other a0 (.inr ⟨rfl,hv⟩)
 | some ds=>
  rw [hu] at hv;cases ds
  case int kk=>
   simp only at hv;have a3:∀{k1 k2:IntKind} {A B:Int},(aF x).run e= .i k1 A→(aF y).run e= .i k2 B→a.eval x= .int k1 A∧a.eval y= .int k2 B:=by
    intro k1 k2 A B h1 h2;rw [h1] at hX;rw [h2] at hY;simpa only [R] using And.intro hX hY
   have gd:∀{k1 k2:IntKind} {A B:Int},a.eval x= .int k1 A→a.eval y= .int k2 B→(eqGuard op t x y (a.eval x) (a.eval y)).run P w= .ok () w:=by
    intro k1 k2 A B h1 h2;rw [h1,h2];exact EQ (by simp) (.inl (by simp))
   by_cases a2:op= .shl∨op= .shr
   ·have a4:fZ ((aF x).run e) (fun k a=>fZ ((aF y).run e) (fun _ b=>xG op k a b) none) none=some v:=by
     rcases a2 with rfl|rfl<;>exact hv
    obtain⟨k1,A,e1,hv1⟩:=mS a4;obtain⟨k2,B,e2,hv2⟩:=mS hv1;obtain⟨i1,i2⟩:=a3 e1 e2;refine a1 (gd i1 i2) ?_;rw [i1,i2];exact UV t a2 hv2
   ·have a4:fZ ((aF x).run e) (fun k a=>fZ ((aF y).run e) (fun k' b=>dK (kEq k k') ((zI op).run k a b) none) none) none=some v:=by
     cases op<;>first|exact hv|exact absurd (.inl rfl) a2|exact absurd (.inr rfl) a2
    obtain⟨k1,A,e1,hv1⟩:=mS a4;obtain⟨k2,B,e2,hv2⟩:=mS hv1;obtain⟨hk,hv3⟩:=jE hv2;obtain⟨i1,i2⟩:=a3 e1 e2;have:=(zD _ _).1 hk;subst this;refine a1 (gd i1 i2) ?_;rw [i1,i2];exact ZP t ⟨fun h=>a2 (.inl h),fun h=>a2 (.inr h)⟩ hv3
  case string=>
   simp only at hv;obtain⟨l,c,e1,hv1⟩:=wH hv;obtain⟨l',c',e2,hv2⟩:=wH hv1;rw [e1] at hX;rw [e2] at hY;refine a1 ?_ (UF t hX hY hv2);rw [R_str] at hX hY;obtain⟨s,h1,_⟩:=hX;obtain⟨s',h2,_⟩:=hY;rw [h1,h2];exact EQ (by simp) (.inl (by simp))
  case interface ms=>
   simp only at hv;have val:∀b,zY t (mG x||mG y) h ((aF x).run e) ((aF y).run e)=some b→(eqGuard op t x y (a.eval x) (a.eval y)).run P w= .ok () w∧
     (binOp .eql t (a.eval x) (a.eval y)).run P w= .ok (.bool b) w∧(binOp .neq t (a.eval x) (a.eval y)).run P w= .ok (.bool (!b)) w:=by
    intro b hb;generalize a7:(aF x).run e=X at hX hb;generalize a8:(aF y).run e=Y at hY hb;unfold zY at hb;split at hb
    ·cases hc:(mG x||mG y) with
     |false=>rw [hc] at hb;cases hb
     |true=>
      rw [hc] at hb;cases hb;simp only [R] at hX hY;rw [hX,hY];refine⟨Bt (by simpa using hc),QC (by simp) (by simp) (by simp) (by simp) ?_⟩;have nn:∀D,(Op.equalIn (D+1) t .nilIface .nilIface).run P w= .ok true w:=fun D=>by simp [Op.equalIn,bQ hu]
      exact nn 9999
    ·cases hb
   cases op<;>first|(cases hv;done)|skip
   ·obtain⟨b,hb,rfl⟩:=HJ hv;obtain⟨h1,h2,h3⟩:=val b hb;exact a1 h1 ⟨_,h2,by simp [R]⟩
   ·obtain⟨b,hb,rfl⟩:=KW hv;obtain⟨h1,h2,h3⟩:=val b hb;exact a1 h1 ⟨_,h3,by simp [R]⟩
  all_goals
   simp only at hv;cases a0:P.eqGuardType P.depth t with
   |true=>rw [a0] at hv;cases hv
   |false=>
    rw [a0] at hv;simp only [jZ] at hv;cases op<;>first|(cases hv;done)|exact other a0 (.inl ⟨rfl,hv⟩)|exact other a0 (.inr ⟨rfl,hv⟩)
end
section
variable {P:Program} {m:Mp} {w:World}
theorem KM {α:Type}:∀(l xs:List α) {r:List α},over l xs=some r→xs.length≤l.length∧r=xs++l.drop xs.length
 |l,[],r,h=>by cases l<;>(simp [over] at h;subst h;simp)
 | [],_::_,r,h=>by simp [over] at h
 | a::l,x::xs,r,h=>by
  simp only [over] at h;cases e:over l xs with
  |none=>rw [e] at h;cases h
  |some r'=>
   rw [e] at h;cases h;obtain⟨h1,rfl⟩:=KM l xs e;exact⟨by simp;omega,by simp⟩
theorem rY {α:Type}:∀(n:Nat) (l xs:List α) {r:List α},gE n l xs=some r→n+xs.length≤l.length∧r=l.take n++xs++l.drop (n+xs.length)
 |0,l,xs,r,h=>by
  have h':over l xs=some r:=by cases l<;>simpa [gE] using h
  obtain⟨h1,rfl⟩:=KM l xs h';exact⟨by omega,by simp⟩
 |n+1,[],xs,r,h=>by simp [gE] at h
 | n+1,a::l,xs,r,h=>by
  simp only [gE] at h;cases e:gE n l xs with
  |none=>rw [e] at h;cases h
  |some r'=>
   rw [e] at h;cases h;obtain⟨h1,rfl⟩:=rY n l xs e;refine⟨by simp;omega,?_⟩;have e1:n+1+xs.length=(n+xs.length)+1:=by omega
   rw [e1];simp
theorem NI (off:Nat):∀(xs:List Value) (k:Nat) (cs:Array Value),off+k+xs.length≤cs.size→
  ((xs.zipIdx k).foldl (fun cs (x:Value × Nat)=>cs.setIfInBounds (off+x.2) x.1) cs).toList=cs.toList.take (off+k)++xs++cs.toList.drop (off+k+xs.length)
 | [],k,cs,h=>by simp
 | x::xs,k,cs,h=>by
  simp only [List.zipIdx_cons,List.foldl_cons];simp only [fU] at h;rw [NI off xs (k+1) _ (by simp;omega)];have hl:off+k<cs.toList.length:=by simp;omega
  rw [HG];have e1:(cs.toList.set (off+k) x).take (off+(k+1))=cs.toList.take (off+k)++ [x]:=by
   rw [←kE,List.take_set,Gm hl];rw [wS _ _ (by simp;omega)];have hm:min (off+k) cs.size=off+k:=by simp at hl;omega
   simp [hm]
  have e2:(cs.toList.set (off+k) x).drop (off+(k+1)+xs.length)=cs.toList.drop (off+k+(xs.length+1)):=by
   rw [Gy (by omega)];congr 1;omega
  rw [e1,e2];simp
theorem Rl.over {m:Mp} (hl:Rl m l l') (hx:Rl m xs xs') (n:Nat):Rl m (l.take n++xs++l.drop (n+xs.length)) (l'.take n++xs'++l'.drop (n+xs'.length)):=by
 have:=hx.length;rw [this];exact((hl.take n).append hx).append (hl.drop _)
theorem zV {a0:Nat→Option (Nat × Nat)}:∀(ps:List (Nat × V)) (a3:List (Nat × Value)) {cs:List V} {a2:List Value} {r:List V},(ps.map (·.1)=a3.map (·.1))→Rl m (ps.map (·.2)) (a3.map (·.2))→
  Rl m cs a2→(∀x∈a2,cZ x)→gY a0 cs ps=some r→∃r',Instr.fill a0 ⟨a2⟩ a3=some ⟨r'⟩∧Rl m r r'∧∀x∈r',cZ x
 | [],a3,cs,a2,r,h1,_,hc,hs,hb=>by
  have:a3= []:=by cases a3 with|nil=>rfl|cons _ _=>simp at h1
  subst this;have:cs=r:=aJ (by simpa [gY] using hb);subst this;exact⟨a2,by simp [Instr.fill],hc,hs⟩
 | (i,v)::ps,a3,cs,a2,r,h1,h2,hc,hs,hb=>by
  cases a3 with
  |nil=>simp at h1
  | cons p a3=>
   obtain⟨i',u⟩:=p;simp only [gB,jL] at h1;obtain⟨rfl,h1⟩:=h1;simp only [gB,Rl] at h2;obtain⟨u',us,he,hv,h2⟩:=h2;simp only [jL] at he;obtain⟨rfl,rfl⟩:=he;unfold gY at hb;cases hp:a0 i with
   |none=>rw [hp] at hb;cases hb
   | some p=>
    obtain⟨off,sz⟩:=p;rw [hp] at hb;simp only at hb;cases hq:dE v with
    |none=>rw [hq] at hb;cases hb
    | some c=>
     rw [hq] at hb;simp only at hb;obtain⟨c',hc1,hc2,hc3⟩:=vX hv hq;cases a1:Nat.beq (dP c) sz with
     |false=>rw [a1] at hb;cases hb
     | true=>
      rw [a1] at hb;simp only [cN] at hb;have a1:=aV a1;rw [jD] at a1;cases ho:gE off cs c with
      |none=>rw [ho] at hb;cases hb
      | some cs2=>
       rw [ho] at hb;simp only at hb;obtain⟨b3,rfl⟩:=rY _ _ _ ho;have b1:=hc.length;have b2:=hc2.length;have a5:=NI off c' 0 ⟨a2⟩ (by show off+0+c'.length≤a2.length;omega);obtain⟨r',hr1,hr2,hr3⟩:=zV ps a3 h1 h2 (hc.over hc2 off) (by
        intro x hx;simp only [bX] at hx;rcases hx with(hx|hx)|hx
        ·exact hs x (iQ hx)
        ·exact hc3 x hx
        ·exact hs x (wU hx)) hb
       refine⟨r',?_,hr2,hr3⟩;unfold Instr.fill;simp only [hp,hc1];have a9:(decide ((⟨c'⟩:Array Value).size≠sz)||decide (off+(⟨c'⟩:Array Value).size>(⟨a2⟩:Array Value).size))=false:=by
        simp only [Hf,wL];exact⟨by show¬c'.length≠sz;omega,by show¬(off+c'.length>a2.length);omega⟩
       rw [if_neg (by rw [a9];simp)];rw [←hr1];congr 1;apply Array.toList_inj.1;rw [←Array.foldl_toList];have:(⟨c'⟩:Array Value).zipIdx.toList=c'.zipIdx 0:=by simp
       rw [this,a5];simp
theorem yC {n:Nat} {e:Env} {a:Act} (k:bD m n e a) (hg:Gl P m):∀{ps:List (Nat × Operand)},(ps.map (·.2)).all (cO P n)=true→
  ((kM ps).run e).map (·.1)=(ps.map fun x=>(x.1,a.eval x.2)).map (·.1)∧Rl m (((kM ps).run e).map (·.2)) ((ps.map fun x=>(x.1,a.eval x.2)).map (·.2))
 | [],_=>by simp [kM,Rl]
 |(i,x)::ps,h=>by
  simp only [gB,oK,aM] at h;obtain⟨h1,h2⟩:=yC k hg h.2;simp only [kM,gB,jL,true_and,Rl];exact⟨h1,_,_,⟨rfl,rfl⟩,cS k hg h.1,h2⟩
theorem KV:∀(l:List (Nat × Nat)) (i:Nat),nthP l i=l[i]?
 | [],i=>by cases i<;>rfl
 |a::l,0=>rfl
 |a::l,i+1=>by rw [nthP,KV l i];rfl
theorem KI:∀(fs:List Field) (pl:List (Nat × Nat)),qA P fs=some pl→fs.mapM (fun f=>(P.info? f.type).map fun i=>(f.offset,i.size))=some pl
 | [],pl,h=>by simp [qA] at h;subst h;simp
 | f::fs,pl,h=>by
  unfold qA at h;cases hn:bH P f.type with
  |none=>rw [hn] at h;cases h
  | some n=>
   cases hl:qA P fs with
   |none=>rw [hn,hl] at h;cases h
   |some l=>
    rw [hn,hl] at h;cases h;obtain⟨i,hi,rfl⟩:=pX hn;simp [List.mapM_cons,hi,KI fs l hl]
theorem pH (h:dE (cst z)=some l):∃l',z.cells=⟨l'⟩∧Rl m l l'∧∀x∈l',cZ x:=vX (qN m z) h
theorem Ed (k:bD m n e a) (hg:Gl P m) {t:TypeId} {ps:Array (Nat × Operand)} (hx:(ps.toList.map (·.2)).all (cO P n)=true) {h:H} {v:V}
  (hv:(FM P t ps.toList).run e h=some v):∃u,(Instr.build t (ps.map fun(i,x)=>(i,a.eval x))).run P w= .ok u w∧R m v u:=by
 obtain⟨p1,p2⟩:=yC k hg hx;have a8:(ps.map fun(i,x)=>(i,a.eval x)).toList=ps.toList.map fun x=>(x.1,a.eval x.2):=by simp
 unfold FM at hv;cases hz:fJ P t with
 |none=>rw [hz] at hv;cases hv
 | some z=>
  cases hu:P.underlying t with
  |none=>rw [hz,hu] at hv;cases hv
  | some ds=>
   rw [hz,hu] at hv;obtain⟨uz,hzr,rfl,it,hit,hzi⟩:=lI (w:=w) hz;have a7:∀(a0:Nat→Option (Nat × Nat)) (zc:List V),dE (cst uz)=some zc→lT (gY a0 zc ((kM ps.toList).run e))=some v→(∀r',Instr.fill a0 uz.cells (ps.toList.map fun x=>(x.1,a.eval x.2))=some r'→P.built t (ps.map fun(i,x)=>(i,a.eval x)).toList=some r')→
     ∃u,(Instr.build t (ps.map fun(i,x)=>(i,a.eval x))).run P w= .ok u w∧R m v u:=by
    intro a0 zc a4 hv hb;obtain⟨l,hl,rfl⟩:=GF hv;obtain⟨b4,hz1,hz2,hz3⟩:=pH (m:=m) a4;obtain⟨r',hr1,hr2,hr3⟩:=zV _ _ p1 p2 hz2 hz3 hl;rw [←hz1] at hr1;exact⟨.agg ⟨r'⟩,run_build w t _ _ (hb _ hr1),by simp only [R];exact⟨r',rfl,hr2,hr3⟩⟩
   cases ds<;>simp only at hv<;>(try (cases hv;done))
   case struct fs=>
    cases a4:dE (cst uz) with
    |none=>rw [a4] at hv;cases hv
    | some zc=>
     rw [a4] at hv;simp only at hv;cases hp:qA P fs.toList with
     |none=>rw [hp] at hv;cases hv
     | some pl=>
      rw [hp] at hv;simp only at hv;refine a7 (fun i=>pl[i]?) zc a4 ?_ ?_
      ·rw [show(fun i=>pl[i]?)=nthP pl from funext fun i=>(KV pl i).symm];exact hv
      ·intro r' a6;rw [a8];have b0:fs.toList.mapM (fun f=>(P.info? f.type).map fun i=>(f.offset,i.size))=some pl:=KI _ _ hp;simp only [Program.built,hit,hu,hzi,b0];simpa using a6
   case array len el=>
    cases a4:dE (cst uz) with
    |none=>rw [a4] at hv;cases hv
    | some zc=>
     rw [a4] at hv;simp only at hv;cases hn:bH P el with
     |none=>rw [hn] at hv;cases hv
     |some sz=>
      rw [hn] at hv;simp only at hv;obtain⟨ie,hie,rfl⟩:=pX hn;refine a7 (fun i=>some (i*ie.size,ie.size)) zc a4 hv ?_;intro r' a6;rw [a8];simp only [Program.built,hit,hu,hzi,hie];exact a6
end
section
variable {P:Program} {m:Mp} {w:World}
theorem R_p {b:Id} (h:R m (.p b o) u):∃l,m b=some l∧u= .pointer (some ⟨l.blk,l.base+o,none⟩):=by simpa only [R] using h
theorem R_i {k:IntKind} {n:Int} (h:R m (.i k n) u):u= .int k n:=by simpa only [R] using h
theorem R_b {b:Bool} (h:R m (.b b) u):u= .bool b:=by simpa only [R] using h
theorem R_tup (h:R m (.tup l) u):∃l',u= .tuple ⟨l'⟩∧Rl m l l':=by simpa only [R] using h
theorem LH:∀(l:List V) (l':List Value) {x:V} {u:Value} {v:V},R m x u→Rl m l l'→qK max2 x l=some v→∃u',(l'.foldlM Builtin.max2 u).run P w= .ok u' w∧R m v u'
 | [],l',x,u,v,hx,hl,hv=>by
  simp only [Rl] at hl;subst hl;have:x=v:=aJ hv;subst this;exact⟨u,rfl,hx⟩
 | y::l,l',x,u,v,hx,hl,hv=>by
  simp only [Rl] at hl;obtain⟨uy,us,rfl,hy,hl⟩:=hl;unfold qK at hv;cases hm:max2 x y with
  |none=>rw [hm] at hv;cases hv
  | some z=>
   rw [hm] at hv;obtain⟨k,A,rfl,hm1⟩:=mS hm;obtain⟨k',B,rfl,hm2⟩:=mS hm1;obtain⟨hk,hm3⟩:=jE hm2;have:=(zD _ _).1 hk;subst this;cases hm3;have hu:=R_i hx;subst hu;have hu:=R_i hy;subst hu;have hz:R m (.i k (bif iLt A B then B else A)) (.int k (if B>A then B else A)):=by
    rw [zM];simp only [R]
    by_cases h:A<B<;>simp [h]
   obtain⟨u',h1,h2⟩:=LH l us hz hl hv;exact⟨u',by simp [List.foldlM_cons,Builtin.max2,h1],h2⟩
theorem LD:∀(l:List V) (l':List Value) {x:V} {u:Value} {v:V},R m x u→Rl m l l'→qK min2 x l=some v→∃u',(l'.foldlM Builtin.min2 u).run P w= .ok u' w∧R m v u'
 | [],l',x,u,v,hx,hl,hv=>by
  simp only [Rl] at hl;subst hl;have:x=v:=aJ hv;subst this;exact⟨u,rfl,hx⟩
 | y::l,l',x,u,v,hx,hl,hv=>by
  simp only [Rl] at hl;obtain⟨uy,us,rfl,hy,hl⟩:=hl;unfold qK at hv;cases hm:min2 x y with
  |none=>rw [hm] at hv;cases hv
  | some z=>
   rw [hm] at hv;obtain⟨k,A,rfl,hm1⟩:=mS hm;obtain⟨k',B,rfl,hm2⟩:=mS hm1;obtain⟨hk,hm3⟩:=jE hm2;have:=(zD _ _).1 hk;subst this;cases hm3;have hu:=R_i hx;subst hu;have hu:=R_i hy;subst hu;have hz:R m (.i k (bif iLt B A then B else A)) (.int k (if B<A then B else A)):=by
    rw [zM];simp only [R]
    by_cases h:B<A<;>simp [h]
   obtain⟨u',h1,h2⟩:=LD l us hz hl hv;exact⟨u',by simp [List.foldlM_cons,Builtin.min2,h1],h2⟩
theorem ZF (hr:HR m h w) {t:TypeId} {x:Operand} {n:Nat} {e:Env} {a:Act} (k:bD m n e a) (hg:Gl P m) (hx:cO P n x=true) {v:V} {ts:List TypeId} {ty:TypeId}
  (hv:(lenC P t x).run e h=some v):∃u,(Builtin.len_ ⟨t::ts⟩ ty #[a.eval x]).run P w= .ok u w∧R m v u:=by
 have hX:=cS k hg hx;have h0:(⟨t::ts⟩:Array TypeId)[0]?=some t:=by simp
 unfold lenC at hv;cases hu:P.underlying t with
 |none=>rw [hu] at hv;cases hv
 | some ds=>
  rw [hu] at hv;cases ds<;>simp only at hv<;>(try (cases hv;done))
  case string=>
   obtain⟨l,c,e1,hv⟩:=wH hv;cases hv;rw [e1,R_str] at hX;obtain⟨s,hs,hb,_⟩:=hX;have:=uB hb;exact⟨_,by rw [hs];simp [Builtin.len_,bQ hu,goInt];rfl,by simp [R,this]⟩
  case slice el=>
   rcases AO hv with⟨b,o,l,z,e1,hv⟩|⟨_,hv⟩
   ·cases hv;rw [e1] at hX;simp only [R] at hX;obtain⟨ll,cap,_,hs,_⟩:=hX;exact⟨_,by rw [hs];simp [Builtin.len_,bQ hu,goInt];rfl,by simp [R]⟩
   ·rcases FW hv with⟨e1,hv⟩|⟨_,hv⟩
    ·cases hv;rw [e1] at hX;simp only [R] at hX;exact⟨_,by rw [hX];simp [Builtin.len_,bQ hu,goInt];rfl,by simp [R]⟩
    ·obtain⟨e1,hv⟩:=QO hv;cases hv;rw [e1] at hX;simp only [R] at hX;obtain⟨ad,cap,hs⟩:=hX;exact⟨_,by rw [hs];simp [Builtin.len_,bQ hu,goInt];rfl,by simp [R]⟩
  case map kt et=>
   rcases FY hv with⟨b,e1,hv⟩|⟨_,hv⟩
   ·cases he:gN h b with
    |none=>rw [he] at hv;cases hv
    |some p=>
     obtain⟨es,c⟩:=p;rw [he] at hv;cases hv;obtain⟨l,es',_,hl,hm,hes⟩:=nV hr he;rw [e1] at hX;simp only [R] at hX;obtain⟨l2,hl2,hs⟩:=hX;rw [hl] at hl2;cases hl2;have:=hes.length;exact⟨_,by rw [hs];simp [Builtin.len_,bQ hu,run_getMap hm,goInt];rfl,by simp [R,this]⟩
   ·obtain⟨e1,hv⟩:=QP hv;cases hv;rw [e1] at hX;simp only [R] at hX;exact⟨_,by rw [hX];simp [Builtin.len_,bQ hu,goInt];rfl,by simp [R]⟩
end
section
variable {P:Program} {m:Mp} {w:World}
theorem PE (h:bH P t=some n):P.cellsOf t=n:=by
 obtain⟨i,h1,h2⟩:=pX h;simp [Program.cellsOf,h1,h2]
theorem LY {e:TypeId} {s off cells:Nat} (hs:P.cellsOf e=s) (h0:0<s) (ho:off%s=0) (hn:off+n*s≤cells):liesAt P P.depth e (cells/P.cellsOf e) off e n=true:=by
 have hd:P.depth=(2*(P.types.size+Made.depth)+1)+1:=rfl;have h1:off/s+n≤cells/s:=by
  rw [Gb h0,cL];have:=kD off s;rw [ho,bG] at this;omega
 have h2:s≠0:=by omega
 rw [hd];simp only [liesAt,gJ];left;rw [hd];simp [rowAt,hs,h2,ho,h1,sameLayout]
theorem WL (k:HR m h w) {b:Id} {o:Nat} {v:V} {l:Loc} (hl:m b=some l) (hv:rd1 h b o=some v):∃C t fz,w.heap[l.blk]?=some (.cells C t fz)∧l.base+o<C.size:=by
 unfold rd1 at hv;cases hb:aB b h.mem with
 |none=>rw [hb] at hv;cases hv
 | some ob=>
  rw [hb] at hv;cases ob with
  |map _ _=>cases hv
  |miter _ _ _ _=>cases hv
  | cells sz els f ro=>
   have a1:(Option.rec (motive:=fun _=>Option V) none (fun el=>kO el (Nat.mod o sz)) (lM els (Nat.div o sz)):Option V)=some v:=hv;rw [uT] at a1;cases he:els[Nat.div o sz]? with
   |none=>rw [he] at a1;cases a1
   | some el=>
    rw [he] at a1;have a6:kO el (o%sz)=some v:=a1;rw [qE] at a6;obtain⟨l2,hl2,C,t2,fz,hcs⟩:=k.obj _ _ hb;rw [hl] at hl2;cases hl2;have b1:=(List.getElem?_eq_some_iff.1 a6).1;have a3:=hcs.each el (aX he);have hf:=flat_get hcs.each he (o%sz) (by omega);rw [a6] at hf;obtain⟨u',hu',_,_⟩:=hcs.val _ _ hf;have hi:Nat.div o sz*sz+o%sz=o:=by
     have:=kD o sz;rw [bG] at this;exact this
    rw [hi] at hu';exact⟨C,t2,fz,hcs.at_,(Array.getElem?_eq_some_iff.1 hu').1⟩
theorem BZ {C:Array Value} {fz:Nat × Nat} (h:w.heap[B]?=some (.cells C t fz)):w.shape? B=some (t,C.size):=by simp [World.shape?,h]
theorem TX (k:HR m h w) {s d t:TypeId} {n o:Nat} {b:Id} {u:Value} {v:V} (hs:P.underlying s=some (.pointer t)) (hd:P.underlying d=some .unsafePointer) (hn:bH P t=some (n+1))
  (hx:R m (.p b o) u) (hv:rd1 h b o=some v):(convert s d u).run P w= .ok u w:=by
 simp only [R] at hx;obtain⟨l,hl,rfl⟩:=hx;obtain⟨C,t2,fz,h1,h2⟩:=WL k hl hv;have a5:=BZ h1;have h3:¬C.size≤l.base+o:=by omega
 simp [convert,bQ hs,bQ hd,Conv.unsafePointer,Conv.seenAt,viewAt,a5,cellsIn,gM hn,h3]
theorem Au (k:HR m h w) {s d u:TypeId} {sz o a2 ty:Nat} {b f:Id} {els:List (List V)} {x:Value} (hs:P.underlying s=some .unsafePointer) (hd:P.underlying d=some (.pointer u)) (hn:bH P u=some (sz+1))
  (hx:R m (.p b o) x) (hb:aB b h.mem=some (.cells a2 els f (.rw ty))) (h1:a2=sz+1) (h2:ty=u) (h3:o%a2=0) (h4:o/a2<els.length):(convert s d x).run P w= .ok x w:=by
 simp only [R] at hx;obtain⟨l,hl,rfl⟩:=hx;obtain⟨l2,hl2,C,t,fz,hc⟩:=k.obj _ _ hb;rw [hl] at hl2;cases hl2;have ht:=hc.typ ty rfl;subst h1;subst h2;subst ht;have a5:=BZ hc.at_;have b0:=flat_len hc.each;have a7:=hc.room;have a3:=hc.len;have a8:=hc.al;have a4:(o/(sz+1)+1)*(sz+1)≤els.length*(sz+1):=eI _ h4;have a9:o/(sz+1)*(sz+1)=o:=by
  have:=kD o (sz+1);rw [h3,bG] at this;simpa using this
 rw [cL,a9] at a4;have a0:=LY (P:=P) (cells:=C.size) (off:=l.base+o) (n:=1) (PE hn) (RN _) (by rw [Nat.add_mod,a8,h3];simp) (by omega);simp [convert,bQ hs,bQ hd,Conv.unsafePointer,Conv.seenAt,viewAt,a5,gM hn,variablesAt,a0]
end
section
variable {P:Program} {m:Mp} {w:World}
theorem OD {st:Nat}:∀{es:List Ent} {xs:List MapEntry} {e:Ent},bL m es xs→vO st es=some e→∃x,xs.find? (·.born==st)=some x∧EntR m e x
 | [],xs,e,h,he=>by cases he
 | a::es,xs,e,h,he=>by
  obtain⟨x,xs',rfl,hx,hxs⟩:=h;unfold vO at he;cases hb:Nat.beq a.born st with
  |true=>
   rw [hb] at he;cases he;have:(x.born==st)=true:=by rw [hx.2.2];simpa using aV hb
   exact⟨x,by simp [List.find?,this],hx⟩
  | false=>
   rw [hb] at he;have:(x.born==st)=false:=by
    rw [hx.2.2];simp;intro h;subst h;simp at hb
   obtain⟨y,h1,h2⟩:=OD hxs he;exact⟨y,by simp [List.find?,this,h1],h2⟩
theorem MB:∀(l:List Nat),oZ l=(⟨l⟩:Array Nat).back?
 | []=>by simp [oZ]
 | [a]=>by simp [oZ]
 |a::b::l=>by
  have:oZ (a::b::l)=oZ (b::l):=rfl;rw [this,MB (b::l)];simp [List.getLast?_cons]
theorem xM {b:Nat} {o:Obj} (hb:w.heap[b]?=some o) (hn:∀c t f,o≠ .cells c t f):(getObj b).run P w= .ok o w:=by
 cases o<;>first|exact absurd rfl (hn _ _ _)|simp [getObj,Sem.run,hb]
theorem Bu (hr:HR m h w) {b:Id} {l:Loc} (hl:m b=some l) {v:V} (hv:ER h b=some v):∃u,(Instr.entry (.pointer (some ⟨l.blk,l.base+0,none⟩))).run P w= .ok u w∧R m v u:=by
 unfold ER at hv;split at hv
 ·rename_i mi a9 seen a7 hb;obtain⟨l1,hl1,h0,lm,hlm,hit⟩:=hr.obj _ _ hb;rw [hl] at hl1;cases hl1;cases hs:oZ seen with
  |none=>rw [hs] at hv;cases hv
  | some st=>
   cases he:gN h mi with
   |none=>rw [hs,he] at hv;cases hv
   | some p=>
    obtain⟨es,clock⟩:=p;rw [hs,he] at hv;simp only at hv;cases hc:Nat.beq clock a7 with
    |false=>rw [hc] at hv;cases hv
    | true=>
     rw [hc] at hv;simp only [cN] at hv;have b1:=aV hc;cases ha:vO st es with
     |none=>rw [ha] at hv;cases hv
     | some en=>
      rw [ha] at hv;cases hv;obtain⟨l2,es',_,hl2,hm,hes⟩:=nV hr he;rw [hlm] at hl2;cases hl2;obtain⟨x,hx1,hx2⟩:=OD hes ha;rw [MB] at hs;refine⟨.tuple #[x.key,x.val],?_,?_⟩
      ·rw [h0];have a6:(⟨es'⟩:Array MapEntry).find? (fun x=>x.born==st)=some x:=by simpa using hx1
       simp only [Instr.entry,aY,xM hit (by simp),cF,hs,run_getMap hm];simp [b1,a6]
      ·simp only [R,Rl];exact⟨_,rfl,_,_,rfl,hx2.1,_,_,rfl,hx2.2.1,rfl⟩
 ·cases hv
theorem yY (k:bD m n e a) (hg:Gl P m) {h:H} (hr:HR m h w) {o:Oper} (a0:o.op.operands.toList.all (cO P n)=true) {v:V}
  (hv:(nO P o.op).run e h=some v):∃u,(execOp a.eval o).run P w= .ok (.value u) w∧R m v u:=by
 have vv:∀{s:Sem Value},(∃u,s.run P w= .ok u w∧R m v u)→∃u,(do pure (Next.value (←s)):Sem Next).run P w= .ok (.value u) w∧R m v u:=by
  rintro s ⟨u,h1,h2⟩;exact⟨u,by simp [h1],h2⟩
 obtain⟨dst,op,type,pos,after,guard⟩:=o;simp only at a0 hv;cases op<;>simp only [Op.operands] at a0<;>simp only [nO] at hv<;>(try (cases hv;done))
 case move x=>
  cases hv;exact⟨_,rfl,cS k hg (by simpa using a0)⟩
 case assign x=>
  cases hv;exact⟨_,rfl,cS k hg (by simpa using a0)⟩
 case pick c x y=>
  simp at a0;obtain⟨b,e1,hv⟩:=QR hv;have hc:=cS k hg a0.1;rw [e1] at hc;have hc:=R_b hc;rcases nQ hv with⟨hb,hv⟩|⟨hb,hv⟩<;>cases hv
  ·subst hb;exact⟨_,by simp [execOp,hc,asBool],cS k hg a0.2.1⟩
  ·subst hb;exact⟨_,by simp [execOp,hc,asBool],cS k hg a0.2.2⟩
 case build t ps=>
  exact vv (Ed k hg (by simpa using a0) hv)
 case load t x=>
  have hX:=cS k hg (show cO P n x=true by simpa using a0);cases hn:bH P t with
  |none=>rw [hn] at hv;cases ha:eK P t<;>rw [ha] at hv<;>cases hv
  |some sz=>
   obtain⟨d,hd⟩:=rT hn;refine vv (LQ hr hd hn hX ?_);rw [hn] at hv;cases ha:eK P t<;>rw [ha] at hv<;>exact hv
 case nilCheck x=>
  have hX:=cS k hg (show cO P n x=true by simpa using a0);rcases FX hv with⟨b,o,e1,hv⟩|⟨_,hv⟩
  ·cases hv;rw [e1] at hX;obtain⟨l,hl,hu⟩:=R_p hX;refine⟨a.eval x,by simp only [execOp,hu];rfl,hX⟩
  ·split at hv
   ·rename_i f A B e1;cases hv;rw [e1] at hX;refine⟨a.eval x,?_,hX⟩;simp only [R] at hX;obtain⟨a',c',hu,_⟩:=hX;simp only [execOp,hu];rfl
   ·rename_i b e1;cases hv;rw [e1] at hX;refine⟨a.eval x,?_,hX⟩;simp only [R] at hX;obtain⟨l,_,hu⟩:=hX;simp only [execOp,hu];rfl
   ·rename_i e1;cases hv;rw [e1] at hX;refine⟨a.eval x,?_,hX⟩;simp only [R] at hX;simp only [execOp,hX];rfl
   ·cases hv
 case binOp op t x y yt=>
  simp at a0;exact vv (En k hg hr a0.1 a0.2 hv)
 case unOp op t x=>
  have hX:=cS k hg (show cO P n x=true by simpa using a0);refine vv ?_;cases op<;>simp only [unC] at hv<;>(try (cases hv;done))
  ·obtain⟨b,e1,hv⟩:=QR hv;cases hv;rw [e1] at hX;have hX:=R_b hX;exact⟨_,by rw [hX];simp [Op.unary];rfl,by simp [R]⟩
 case convert s d x=>
  have hX:=cS k hg (show cO P n x=true by simpa using a0);refine vv ?_;split at hv
  ·rename_i ds kk hs hd;obtain⟨k1,A,e1,hv⟩:=mS hv;cases hv;rw [e1] at hX;have hX:=R_i hX;exact⟨_,by rw [hX];simp only [convert,aY,bQ hs,bQ hd,cF,Conv.intToInt,bZ];rfl,by simp [R,HL]⟩
  ·rename_i t hs hd;split at hv
   ·rename_i n0 a5;obtain⟨b,o,e1,hv⟩:=qX hv;rw [e1] at hX;cases hrd:rd1 h b o with
    |none=>rw [hrd] at hv;cases hv
    |some v0=>
     rw [hrd] at hv;cases hv;exact⟨a.eval x,TX hr hs hd a5 hX hrd,hX⟩
   ·cases hv
  ·rename_i u hs hd;split at hv
   ·rename_i sz a5;obtain⟨b,o,e1,hv⟩:=qX hv;rw [e1] at hX;split at hv
    ·rename_i b2 els f ty hb;obtain⟨hc,hv⟩:=jE hv;cases hv;simp only [aM] at hc;obtain⟨c1,c2,c3,c4⟩:=hc;exact⟨a.eval x,Au hr hs hd a5 hX hb (aV c1) (aV c2) (aV c3) (by have:=cK c4;rw [vE] at this;exact this),hX⟩
    ·cases hv
   ·cases hv
  ·cases hv
 case makeFunc fn f c=>
  cases hv;have a2:=a0;refine vv ⟨.func fn (f.map a.eval) (c.map a.eval),rfl,?_⟩;simp only [R];refine⟨f.toList.map a.eval,c.toList.map a.eval,by congr 1<;>(apply Array.toList_inj.1;simp),rZ k hg ?_,rZ k hg ?_⟩
  ·rw [jM];intro x hx;have:=jM.1 a2 x (by simp [hx]);exact this
  ·rw [jM];intro x hx;have:=jM.1 a2 x (by simp [hx]);exact this
 case slice t x lo hi mx=>
  cases mx with
  |some _=>cases hv
  |none=>
   refine vv (UO k hg ?_ ?_ ?_ hv)
   ·simp at a0;exact a0.1
   ·rintro y rfl;simp at a0;exact a0.2.1
   ·rintro y rfl;simp at a0;exact a0.2.2
 case fieldAddr t x i=>
  have hX:=cS k hg (show cO P n x=true by simpa using a0);refine vv ?_;cases hu:P.underlying t with
  |none=>rw [hu] at hv;cases hv
  | some ds=>
   rw [hu] at hv;cases ds<;>simp only at hv<;>(try (cases hv;done));rename_i fs;cases hf:qF fs.toList i with
   |none=>rw [hf] at hv;cases hv
   | some f=>
    rw [hf] at hv;simp only at hv;split at hv
    ·rename_i sz hs;obtain⟨b,o,e1,hv⟩:=qX hv;cases hv;rw [e1] at hX;obtain⟨l,hl,hu2⟩:=R_p hX;rw [DG] at hf;have a3:fs[i]?=some f:=by simpa using hf
     refine⟨.pointer (some ⟨l.blk,l.base+o+f.offset,none⟩),?_,?_⟩
     ·rw [hu2];simp [Instr.fieldAt,bQ hu,a3,Instr.sureAddr,fieldPlace,gM hs,mT]
     ·simp only [R];exact⟨l,hl,by rw [kE];rfl⟩
    ·cases hv
 case field t x i=>
  have hX:=cS k hg (show cO P n x=true by simpa using a0);refine vv ?_;cases hu:P.underlying t with
  |none=>rw [hu] at hv;cases hv
  | some ds=>
   rw [hu] at hv;cases ds<;>simp only at hv<;>(try (cases hv;done));rename_i fs;cases hf:qF fs.toList i with
   |none=>rw [hf] at hv;cases hv
   | some f=>
    rw [hf] at hv;simp only at hv;cases hs:bH P f.type with
    |none=>rw [hs] at hv;cases hv
    |some sz=>
     rw [hs] at hv;simp only at hv;obtain⟨l,e1,hv⟩:=Fk hv;rw [e1] at hX;obtain⟨l',hu2,hl,hsc⟩:=mU hX;obtain⟨d2,hd2⟩:=rT hs;obtain⟨u,h1,h2⟩:=qB (w:=w) hd2 hs hl hsc hv;rw [DG] at hf;have a3:fs[i]?=some f:=by simpa using hf
     exact⟨u,by rw [hu2];simp [Instr.field,bQ hu,a3,asAgg,h1],h2⟩
 case indexAddr t x ix=>
  simp at a0;have hX:=cS k hg a0.1;have hI:=cS k hg a0.2;refine vv ?_;cases hu:P.underlying t with
  |none=>rw [hu] at hv;cases hv
  | some ds=>
   rw [hu] at hv;cases ds<;>simp only at hv<;>(try (cases hv;done))
   case slice el=>
    split at hv
    ·rename_i sz hs;obtain⟨b,o,len,z,e1,hv⟩:=Fe hv;obtain⟨kk,j,e2,hv⟩:=AT hv;obtain⟨hj,hv⟩:=jE hv;cases hv;have hj:=cK hj;rw [e1] at hX;simp only [R] at hX;obtain⟨l,cap,hl,hu2,_⟩:=hX;rw [e2] at hI;have hI:=R_i hI;refine⟨.pointer (some ⟨l.blk,l.base+o+j*(sz+1),none⟩),?_,?_⟩
     ·rw [hu2,hI];have hc:(0:Int)≤(j:Int)∧(j:Int)<(len:Int):=⟨by omega,by omega⟩;simp [Instr.indexAt,asIntOf,bQ hu,gM hs,hc,mT];omega
     ·simp only [R];exact⟨l,hl,by rw [kE];rfl⟩
    ·cases hv
   case array len el=>
    split at hv
    ·rename_i sz hs;obtain⟨b,o,e1,hv⟩:=qX hv;obtain⟨kk,j,e2,hv⟩:=AT hv;obtain⟨hj,hv⟩:=jE hv;cases hv;have hj:=cK hj;rw [e1] at hX;obtain⟨l,hl,hu2⟩:=R_p hX;rw [e2] at hI;have hI:=R_i hI;refine⟨.pointer (some ⟨l.blk,l.base+o+j*(sz+1),none⟩),?_,?_⟩
     ·rw [hu2,hI];have hc:(0:Int)≤(j:Int)∧(j:Int)<(len:Int):=⟨by omega,by omega⟩;simp [Instr.indexAt,asIntOf,bQ hu,gM hs,hc,mT,Instr.sureAddr];omega
     ·simp only [R];exact⟨l,hl,by rw [kE];rfl⟩
    ·cases hv
 case index t x ix=>
  simp at a0;have hX:=cS k hg a0.1;have hI:=cS k hg a0.2;refine vv ?_;cases hu:P.underlying t with
  |none=>rw [hu] at hv;cases hv
  | some ds=>
   rw [hu] at hv;cases ds<;>simp only at hv<;>(try (cases hv;done))
   case string=>
    obtain⟨len,c,e1,hv⟩:=wH hv;obtain⟨kk,j,e2,hv⟩:=AT hv;obtain⟨hj,hv⟩:=jE hv;cases hv;have hj:=cK hj;rw [e1,R_str] at hX;obtain⟨s,hs,hb,_⟩:=hX;rw [e2] at hI;have hI:=R_i hI;obtain⟨b,h1,h2⟩:=ZQ hb (show j<len by omega);refine⟨.int .u8 b.toNat,?_,by simp only [R];rw [←h2];rfl⟩;rw [hs,hI];have hc:(0:Int)≤(j:Int):=by omega
    simp only [Instr.index,asIntOf,aY,bZ,cF,bQ hu];have hz:(0:Int)≤Int.ofNat j:=by simp
    rw [if_pos hz,show(Int.ofNat j).toNat=j from rfl,h1];rfl
 case lookup t x ix ok=>
  simp at a0;have hX:=cS k hg a0.1;have hI:=cS k hg a0.2;refine vv ?_;unfold lookC at hv;cases hu:P.underlying t with
  |none=>rw [hu] at hv;cases hv
  | some ds=>
   rw [hu] at hv;cases ds<;>simp only at hv<;>(try (cases hv;done));rename_i kt et;cases hz:fJ P et with
   |none=>rw [hz] at hv;cases hv
   | some z=>
    rw [hz] at hv;simp only at hv;rcases FY hv with⟨b,e1,hv⟩|⟨_,hv⟩
    ·cases he:gN h b with
     |none=>rw [he] at hv;cases hv
     |some p=>
      obtain⟨es,c⟩:=p;rw [he] at hv;obtain⟨l,es',_,hl,hm,hes⟩:=nV hr he;rw [e1] at hX;simp only [R] at hX;obtain⟨l2,hl2,hs⟩:=hX;rw [hl] at hl2;cases hl2;exact LN hr hu hz hI hes (.inl ⟨_,_,hs,hm⟩) hv
    ·obtain⟨e1,hv⟩:=QP hv;rw [e1] at hX;simp only [R] at hX;exact LN hr hu hz hI (xs:=[]) (by simp [bL]) (.inr ⟨hX,rfl⟩) hv
 case entry x=>
  have hX:=cS k hg (show cO P n x=true by simpa using a0);refine vv ?_;obtain⟨b,o,e1,hv⟩:=qX hv;obtain⟨ho,hv⟩:=jE hv;have ho:=aV ho;subst ho;rw [e1] at hX;obtain⟨l,hl,hu⟩:=R_p hX;rw [hu];exact Bu hr hl hv
 case extract x i=>
  have hX:=cS k hg (show cO P n x=true by simpa using a0);refine vv ?_;obtain⟨l,e1,hv⟩:=Fb hv;rw [e1] at hX;obtain⟨l',hu,hl⟩:=R_tup hX;rw [qE] at hv;obtain⟨u,h1,h2⟩:=hl.get hv;have b0:(⟨l'⟩:Array Value)[i]?=some u:=by simpa using h1
  exact⟨u,by rw [hu];simp [Instr.extract,b0],h2⟩
 case call c=>
  obtain⟨callee,args,argTypes⟩:=c;have bi:∀{b:Builtin} {s:Sem Value},callee= .builtin b→(∀cs,builtin b argTypes type cs (args.map a.eval)=(do pure (.value (←s))))→(∃u,s.run P w= .ok u w∧R m v u)→
    ∃u,(execOp a.eval { dst:=dst,op:=.call { callee:=callee,args:=args,argTypes:=argTypes },type:=type,pos:=pos,after:=after,guard:=guard }).run P w= .ok (.value u) w∧R m v u:=by
   rintro b s rfl hb ⟨u,h1,h2⟩;refine⟨u,?_,h2⟩;simp only [execOp,resolve,aY,bZ,cF,invoke,hb,h1]
  have a1:args.toList.all (cO P n)=true:=by
   rw [jM] at a0 ⊢;intro x hx;exact a0 x (by simp [Call.operands,hx])
  unfold callL at hv;simp only at hv;split at hv
  ·rename_i x t ts e2 e3;obtain⟨args⟩:=args;obtain⟨argTypes⟩:=argTypes;simp only at e2 e3;subst e2;subst e3;refine bi rfl (fun _=>rfl) ?_;have:=ZF (ts:=ts) (ty:=type) hr k hg (by simpa using a1) hv;simpa using this
  ·rename_i x e2;obtain⟨args⟩:=args;simp only at e2;subst e2;refine bi rfl (fun _=>rfl) ?_;have hX:=cS k hg (show cO P n x=true by simpa using a1);have a4:(⟨[x]⟩:Array Operand).map a.eval=#[a.eval x]:=by simp
   rw [a4];rcases AO hv with⟨b,o,l,z,e4,hv⟩|⟨_,hv⟩
   ·obtain⟨a8,hv⟩:=jE hv;cases hv;have a8:=cK a8;rw [e4] at hX;simp only [R] at hX;obtain⟨ll,cap,hll,hs,hlc,_⟩:=hX;rw [hs];exact⟨_,Lib.run_unsafeSliceData_row w _ _ _ _ _ (by omega),by simp only [R];exact⟨ll,hll,rfl⟩⟩
   ·obtain⟨e4,hv⟩:=Fd hv;cases hv;rw [e4] at hX;simp only [R] at hX;rw [hX];exact⟨_,Lib.run_unsafeSliceData_nil w _ _ _ _,by simp [R]⟩
  ·rename_i x l e2;obtain⟨args⟩:=args;simp only at e2;subst e2;simp only [oK,aM] at a1;obtain⟨u,h1,h2⟩:=LH (P:=P) (w:=w) _ _ (cS k hg a1.1) (rZ k hg a1.2) hv;exact bi rfl (fun _=>rfl) ⟨u,by simpa [Builtin.max_] using h1,h2⟩
  ·rename_i x l e2;obtain⟨args⟩:=args;simp only at e2;subst e2;simp only [oK,aM] at a1;obtain⟨u,h1,h2⟩:=LD (P:=P) (w:=w) _ _ (cS k hg a1.1) (rZ k hg a1.2) hv;exact bi rfl (fun _=>rfl) ⟨u,by simpa [Builtin.min_] using h1,h2⟩
  ·cases hv
end
section
variable {P:Program} {m:Mp} {w:World}
theorem yL {ob:Id→O} {vf:Id→V} {v:V} (hn:qH h ob vf= .ok v h'):∃nx,h.next.succ=some nx∧v=vf h.next∧h'=⟨dC h.next (some (ob h.next)) h.mem,h.fams,nx⟩:=by
 obtain⟨mem,fams,next⟩:=h;unfold qH at hn;simp only at hn;cases hs:next.succ with
 |none=>rw [hs] at hn;cases hn
 |some nx=>rw [hs] at hn;cases hn;exact⟨nx,by simpa using hs,rfl,rfl⟩
theorem uV (k:HR m h w) {sz:Nat} {els:List (List V)} {vf:Id→V} {v:V} {t0:TypeId} (hn:lN t0 h sz els vf= .ok v h') (he:∀el∈els,el.length=sz)
  {us:List Value} (hR:Rl m els.flatten us) (hs:∀x∈us,cZ x) {C:Array Value} {extra:List Value} (hC:C.toList=us++extra) (t:TypeId) (fz:Nat × Nat)
  (a4:fz.1=fz.2∨(sz=1∧C.size≤fz.1)) (ht:t0=t:=by rfl):
  ∃m',Fr m h w m' h' { w with heap:=w.heap.push (.cells C t fz) }∧m' h.next=some ⟨w.heap.size,0,C.size⟩∧v=vf h.next:=by
 obtain⟨nx,hnx,rfl,rfl⟩:=yL hn;have a0:C.size=us.length+extra.length:=by rw [←cV,hC];simp
 refine⟨_,Fr.new k hnx (.cells C t fz) (.cells sz els h.next (.rw t0)) ⟨w.heap.size,0,C.size⟩ rfl (fun _ _ _ _ e=>by cases e;rfl) (by simp [iI]) ?_,by simp,rfl⟩;intro m' hm w' a5;refine⟨C,t,fz,⟨a5,by simp,?_,he,?_,?_,?_,fun ty e=>by cases e;exact ht.symm,AX _⟩⟩
 ·show els.flatten.length≤C.size;rw [←hR.length];omega
 ·intro i x hx;obtain⟨u,hu,hRu⟩:=hR.get hx;have hi:=(List.getElem?_eq_some_iff.1 hu).1;refine⟨u,?_,hRu.mono hm,hs u (aX hu)⟩;show C[0+i]?=some u;rw [cG,←gQ,hC,eG hi,hu]
 ·intro _ i hi;show¬(fz.1≤0+i∧0+i<fz.2);have a6:i<C.size:=hi;rcases a4 with h1|⟨_,h2⟩<;>omega
 ·intro _ hz;rcases a4 with h1|⟨h1,_⟩
  ·exact h1
  ·exact absurd h1 hz
def cJ (P:Program) (r:Result Next) (m:Mp) (h:H) (w:World) (v:V) (h':H):Prop:=
 (∃u w' m',(r= .ok (.value u) w'∨(r= .ok .skip w'∧u=undef))∧Fr m h w m' h' w'∧R m' v u)∨
 (∃f us,r= .ok (.enter f us) w∧Calls P f us w (fun e w'=>∃u m',e= .returned u∧Fr m h w m' h' w'∧R m' v u))
theorem Fq (k:HR m h w) {t:TypeId} {z v:V} {c:List V} (hz:fJ P t=some z) (hc:dE z=some c) (hn:lN t h (dP c) [c] (fun i=>.p i 0)= .ok v h'):
  ∃u w' m',(Instr.alloc t true (.tuple #[])).run P w= .ok u w'∧Fr m h w m' h' w'∧R m' v u:=by
 obtain⟨uz,hzr,rfl,_⟩:=lI (w:=w) hz;obtain⟨c',h1,h2,h3⟩:=pH (m:=m) hc;obtain⟨m',hf,hm,rfl⟩:=uV k hn (by simp [jD]) (us:=c') (by simpa using h2) h3 (C:=uz.cells) (extra:=[]) (by rw [h1];simp) t (0,0) (.inl rfl);refine⟨.pointer (some ⟨w.heap.size,0,none⟩),_,m',?_,hf,?_⟩
 ·simp [Instr.alloc,hzr,newVar,newRow]
 ·simp only [R];exact⟨_,hm,rfl⟩
theorem Eg (k:HR m h w) {t:TypeId} {x v:V} {u:Value} {c:List V} (hx:R m x u) (hc:dE x=some c) (hn:lN t h (dP c) [c] (fun i=>.p i 0)= .ok v h'):
  ∃u' w' m',(Instr.box t u).run P w= .ok u' w'∧Fr m h w m' h' w'∧R m' v u':=by
 obtain⟨c',h1,h2,h3⟩:=vX hx hc;obtain⟨m',hf,hm,rfl⟩:=uV k hn (by simp [jD]) (us:=c') (by simpa using h2) h3 (C:=u.cells) (extra:=[]) (by rw [h1];simp) t (0,0) (.inl rfl);refine⟨.pointer (some ⟨w.heap.size,0,none⟩),_,m',?_,hf,?_⟩
 ·simp [Instr.box,newVar,newRow]
 ·simp only [R];exact⟨_,hm,rfl⟩
theorem Rl.rep {zc:List V} {a1:List Value} (h:Rl m zc a1):∀n,Rl m ((iY zc n).flatten) ((List.replicate n a1).flatten)
 |0=>by simp [iY,Rl]
 |n+1=>by simp only [iY,iS,lW];exact h.append (Rl.rep h n)
theorem xR (h:∀x∈a1,cZ x) (n:Nat):∀x∈(List.replicate n a1).flatten,cZ x:=by
 intro x hx;simp only [List.mem_flatten,wT] at hx;obtain⟨l,⟨_,rfl⟩,hx⟩:=hx;exact h x hx
theorem wX (z:Array Value) (n:Nat) (hz:0<z.size):((Array.range (n*z.size)).map (z[· %z.size]!)).toList=(List.replicate n z.toList).flatten:=by
 apply SL;intro i;have a0:∀n,((List.replicate n z.toList).flatten).length=n*z.size:=by
  intro n;induction n with
  |zero=>simp
  |succ n ih=>simp [lW,gI];omega
 have a3:∀n i,i<n*z.size→((List.replicate n z.toList).flatten)[i]?=z.toList[i%z.size]?:=by
  intro n
  induction n with
  |zero=>intro i hi;simp at hi
  | succ n ih=>
   intro i hi;rw [lW,iS]
   by_cases h:i<z.size
   ·rw [eG (by simpa using h),pO h]
   ·rw [dO (by simpa using h),cV,ih (i-z.size) (by rw [gI] at hi;omega)];congr 1;rw [←Nat.mod_eq_sub_mod (by omega)]
 by_cases h:i<n*z.size
 ·rw [a3 n i h];have hm:i%z.size<z.size:=kC _ hz;simp [h,hm]
 ·rw [rL (by simp;omega),rL (by rw [a0];omega)]
theorem uG {α:Type} (x:α):∀n,iY x n=List.replicate n x
 |0=>rfl
 |n+1=>by rw [iY,uG x n,lW]
theorem FC {sz:Nat}:∀(n:Nat) (l:List V),l.length=n*sz→(mO sz n l).flatten=l∧(∀el∈mO sz n l,el.length=sz)∧(mO sz n l).length=n
 |0,l,h=>by simp at h;subst h;simp [mO]
 | n +1,l,h=>by
  rw [gI] at h;have hd:(dM sz l).length=n*sz:=by rw [gV];simp;omega
  obtain⟨h1,h2,h3⟩:=FC n (dM sz l) hd;have ht:iJ sz l=some (l.take sz):=by
   have:∀(k:Nat) (l:List V),k≤l.length→iJ k l=some (l.take k):=by
    intro k
    induction k with
    |zero=>intro l _;rfl
    | succ k ih=>
     intro l hl;cases l with
     |nil=>simp at hl
     |cons a l=>
      have e:iJ (k+1) (a::l)=Option.rec (motive:=fun _=>Option (List V)) none (fun x=>some (a::x)) (iJ k l):=rfl;rw [e,ih l (by simpa using hl)];rfl
   exact this sz l (by omega)
  unfold mO;rw [ht];refine⟨?_,?_,by simp [h3]⟩
  ·simp only [wO,iS];rw [h1,gV,pQ]
  ·intro el a2;simp only [wO,cD] at a2;rcases a2 with rfl|a2
   ·simp;omega
   ·exact h2 el a2
end
end Go.Ev
