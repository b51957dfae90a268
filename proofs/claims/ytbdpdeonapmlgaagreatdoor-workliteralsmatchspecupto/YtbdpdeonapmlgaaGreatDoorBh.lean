/- Lemmas for the text Card; no condition. -/
import Derived.Test.YtbdpdeonapmlgaaGreatDoorBg
import Derived.Maps.RangeRun
set_option linter.all false
namespace Go.Ev
noncomputable section
variable {k:Env→H→List Rs} {n lf d i:Nat} {a:Act} {e:Env} {L:List Rs} {call:bP} {o:Oper} {h:H}
section
variable {P:Program} {m:Mp} {w:World}
theorem OE (t:Nat):bN t Env.new=cI:=by
 unfold bN Env.new N8.all;cases dg (t/64)<;>cases dg (t/8%8)<;>cases dg (t%8)<;>rfl
theorem EU:∀(l:List V) (i:Nat) (e:Env) (t:Nat),i+l.length≤511→t<512→bN t (lL i l e)=if i≤t∧t<i+l.length then(l[t-i]?).getD .top else bN t e
 | [],i,e,t,_,_=>by
  have:¬(i≤t∧t<i+0):=by omega
  simp [lL];omega
 | v::l,i,e,t,hl,ht=>by
  simp only [fU] at hl;rw [lL,EU l (i+1) _ t (by omega) ht]
  by_cases h1:i+1≤t∧t<i+1+l.length
  ·rw [if_pos h1,if_pos (by simp;omega)];have:t-i=(t-(i+1))+1:=by omega
   rw [this];simp
  ·rw [if_neg h1]
   by_cases h2:t=i
   ·subst h2;rw [sR,if_pos (by simp)];simp
   ·rw [pG ht (by omega) h2,if_neg (by simp;omega)]
theorem GD {args:List V} {us:List Value} (hR:Rl m args us) (hl:args.length≤n) (hn:n≤511):
  bD m n (lL 0 args Env.new) { tmps:=(⟨us⟩:Array Value)++Array.replicate (n-us.length) undef,defers:=[] }:=by
 have a3:=hR.length;refine⟨by simp;omega,hn,?_,?_⟩
 ·intro t ht;rw [EU args 0 _ t (by omega) (by omega)]
  by_cases h1:t<args.length
  ·rw [if_pos (by omega)];obtain⟨v,hv⟩:∃v,args[t]?=some v:=⟨args[t],by simp [h1]⟩;obtain⟨u,hu,hRu⟩:=hR.get hv;have:((⟨us⟩:Array Value)++Array.replicate (n-us.length) undef).getD t undef=u:=by
    rw [nB,Array.getElem?_append_left (by show t<us.length;omega)];have h9:(⟨us⟩:Array Value)[t]?=some u:=by simpa using hu
    rw [h9];rfl
   simp only [AY,hv,wO];show R m v (((⟨us⟩:Array Value)++Array.replicate (n-us.length) undef).getD t undef);rw [this];exact hRu
  ·rw [if_neg (by omega),OE];have:((⟨us⟩:Array Value)++Array.replicate (n-us.length) undef).getD t undef=undef:=by
    rw [nB,Array.getElem?_append_right (by show us.length≤t;omega)];have:t-us.length<n-us.length:=by omega
    show((Array.replicate (n-us.length) undef)[t-us.length]?).getD undef=undef;simp [this]
   show R m cI (((⟨us⟩:Array Value)++Array.replicate (n-us.length) undef).getD t undef);rw [this];simp [R,Rl,cI,undef]
 ·refine⟨[],?_,rfl⟩;rw [EU args 0 _ fG (by omega) (by decide),if_neg (by simp [fG];omega),OE];rfl
theorem WG (k:bD m n e a) {h:H} (hr:HR m h w) {r:ResultVar} (a0:uF n r=true) {v:V} (hv:(pZ P r).run e h=some v):
  ∃u,((match r with| .tmp t=>pure (a.tmps.getD t undef)| .cell x t=>do loadVar t (←asAddr (a.tmps.getD x undef)):Sem Value)).run P w= .ok u w∧R m v u:=by
 cases r with
 |tmp t=>
  simp only [pZ] at hv;cases hv;exact⟨a.tmps.getD t undef,by simp,k.val t (cK a0)⟩
 | cell x t=>
  have hx:=k.val x (cK a0);simp only [pZ] at hv;have hd:∃d,P.underlying t=some d:=by
   cases hu:P.underlying t with
   |some d=>exact⟨d,rfl⟩
   |none=>simp [bH,eK,hu] at hv
  obtain⟨d,hd⟩:=hd;have key:∀nn,bH P t=some nn→gP (bN x e) (fun b o=>dK (eK P t) (lT (rd h b o nn)) (rd1 h b o)) none=some v→
    ∃u,(do loadVar t (←asAddr (a.tmps.getD x undef)):Sem Value).run P w= .ok u w∧R m v u:=by
   intro nn hs hv;obtain⟨u',h1,h2⟩:=LQ hr hd hs hx hv;refine⟨u',?_,h2⟩;obtain⟨b,o,e1,_⟩:=qX hv;rw [e1] at hx;obtain⟨l,hl,hu⟩:=R_p hx;rw [hu] at h1 ⊢;simpa [Instr.loadAt,Instr.sureAddr,asAddr] using h1
  cases ha:eK P t with
  | true=>
   cases hs:bH P t with
   |none=>rw [ha,hs] at hv;cases hv
   |some nn=>
    rw [ha,hs] at hv;exact key nn hs (by rw [ha];exact hv)
  | false=>
   cases hs:bH P t with
   |none=>rw [ha,hs] at hv;cases hv
   |some nn=>
    rw [ha,hs] at hv;exact key nn hs (by rw [ha];exact hv)
theorem JK {n:Nat} {e:Env} {a:Act} (k:bD m n e a) {h:H} (hr:HR m h w):∀(rs:List ResultVar),rs.all (uF n)=true→∀vs,(iX P rs).run e h=some vs→
  ∃us,(rs.mapM (fun r=>(match r with| .tmp t=>pure (a.tmps.getD t undef)| .cell x t=>do loadVar t (←asAddr (a.tmps.getD x undef)):Sem Value))).run P w= .ok us w∧Rl m vs us
 | [],_,vs,hv=>by
  simp only [iX] at hv;cases hv;exact⟨[],by simp,by simp [Rl]⟩
 | r::rs,a0,vs,hv=>by
  simp only [oK,aM] at a0;simp only [iX] at hv;cases h1:(pZ P r).run e h with
  |none=>rw [h1] at hv;cases hv
  | some v=>
   cases h2:(iX P rs).run e h with
   |none=>rw [h1,h2] at hv;cases hv
   |some vs'=>
    rw [h1,h2] at hv;cases hv;obtain⟨u,a1,a2⟩:=WG k hr a0.1 h1;obtain⟨us,b1,b2⟩:=JK k hr rs a0.2 vs' h2;refine⟨u::us,?_,by simp only [Rl];exact⟨u,us,rfl,a2,b2⟩⟩;rw [List.mapM_cons,aY,a1,cF,aY,b1,cF,bZ]
theorem CJ (k:bD m n e a) {h:H} (hr:HR m h w) {fn:Func} (a0:fn.results.toList.all (uF n)=true) {v:V} (hv:(oO P fn.results.toList).run e h=some v):
  ∃u,(results fn a.tmps).run P w= .ok u w∧R m v u:=by
 have hm:∃vs,(iX P fn.results.toList).run e h=some vs∧((vs= [v]∧fn.results.toList.length=1)∨(v= .tup vs∧fn.results.toList.length≠1)):=by
  generalize fn.results.toList=rs at hv
  match rs,hv with
  | [r],hv=>
   refine⟨[v],?_,.inl ⟨rfl,rfl⟩⟩;simp only [oO] at hv;simp only [iX];rw [hv]
  | [],hv=>
   simp only [oO,iX] at hv;cases hv;exact⟨[],rfl,.inr ⟨rfl,by simp⟩⟩
  | r1::r2::l,hv=>
   simp only [oO] at hv;cases h1:(iX P (r1::r2::l)).run e h with
   |none=>rw [h1] at hv;cases hv
   |some vs=>
    rw [h1] at hv;cases hv;exact⟨vs,rfl,.inr ⟨rfl,by simp⟩⟩
 obtain⟨vs,h1,h2⟩:=hm;obtain⟨us,b1,b2⟩:=JK k hr _ a0 vs h1;have a3:us.length=fn.results.toList.length:=by
  have hv:∀(rs:List ResultVar) vs,(iX P rs).run e h=some vs→vs.length=rs.length:=by
   intro rs
   induction rs with
   |nil=>intro vs hv;simp only [iX] at hv;cases hv;rfl
   | cons r rs ih=>
    intro vs hv;simp only [iX] at hv;cases h1:(pZ P r).run e h with
    |none=>rw [h1] at hv;cases hv
    |some v=>
     cases h2:(iX P rs).run e h with
     |none=>rw [h1,h2] at hv;cases hv
     |some vs'=>rw [h1,h2] at hv;cases hv;simp [ih vs' h2]
  rw [b2.length,hv _ _ h1]
 have a5:((fn.results.mapM (fun r=>(match r with| .tmp t=>pure (a.tmps.getD t undef)| .cell x t=>do loadVar t (←asAddr (a.tmps.getD x undef)):Sem Value)))).run P w= .ok ⟨us⟩ w:=by
  have he:fn.results=fn.results.toList.toArray:=by simp
  rw [he,List.mapM_toArray,map_eq_pure_bind,aY,b1,cF,bZ]
 have a4:(results fn a.tmps).run P w= .ok (if h:(⟨us⟩:Array Value).size=1 then(⟨us⟩:Array Value)[0] else .tuple ⟨us⟩) w:=by
  unfold results;rw [aY];show(Result.andThen ((fn.results.mapM (fun r=>(match r with| .tmp t=>pure (a.tmps.getD t undef)| .cell x t=>do loadVar t (←asAddr (a.tmps.getD x undef)):Sem Value))).run P w) _)=_;rw [a5,cF,bZ]
 refine⟨_,a4,?_⟩;rcases h2 with⟨rfl,h3⟩|⟨rfl,h3⟩
 ·simp only [Rl] at b2;obtain⟨u,us',rfl,hR,rfl⟩:=b2;exact hR
 ·have:¬(⟨us⟩:Array Value).size=1:=by show¬us.length=1;rw [a3];exact h3
  rw [dif_neg this];simp only [R];exact⟨us,rfl,b2⟩
end
section
variable {P:Program} {m:Mp} {w:World}
theorem TF {ops:Array Oper} {Q:Exit→Act→List Frame→World→Prop} {cs:List Frame} {rest:List Nat} (a8:∀a w,¬Q .outgrown a cs w)
    (h:wpOp P ops (fun e a w=>Q e a cs w) i (fun a' w'=>wpOpsS P ops Q rest a' cs w') a w):wpOpsS P ops Q (i::rest) a cs w:=by
  unfold wpOp at h;simp only [wpOpsS];cases ho:ops[i]? with
  |none=>rw [ho] at h;exact h
  | some o=>
    rw [ho] at h;simp only at h ⊢;split at h
    · rename_i hw;rw [if_pos hw];rcases h with h|⟨_,a0,w0,hl⟩
      · unfold Oper.wp at h;generalize (execOp a.eval o).run P w=r at h ⊢;cases r with
        |ok n w'=>cases n<;>first|exact h|(simp [Oper.upon] at h)
        |halt x w'=>exact h
      · exact absurd hl (a8 a0 w0)
    · rename_i hw;rw [if_neg hw];exact h
theorem IW {n:Nat} {call:bP} (a3:eN P call) {ops:Array Oper} (b4:eX P n ops=true) {Q:Exit→Act→List Frame→World→Prop} {cs:List Frame} (a8:∀a w,¬Q .outgrown a cs w):
    ∀ (l:List Oper) (i:Nat) (m:Mp) (e e':Env) (a:Act) (h h':H) (w:World),ops.toList.drop i=l→bD m n e a→Gl P m→HR m h w→(kK P ops.toList l).run call e h= .ok e' h'→
      (∀m' a' w',Fr m h w m' h' w'→bD m' n e' a'→Q .normal a' cs w')→wpOpsS P ops Q (List.range' i l.length) a cs w
  | [],i,m,e,e',a,h,h',w,hl,k,hg,hr,hv,hn=>by
    simp only [kK] at hv;cases hv;exact hn m a w (Fr.refl hr) k
  | o ::l,i,m,e,e',a,h,h',w,hl,k,hg,hr,hv,hn=>by
    have hi:ops[i]?=some o:=by
      have:(ops.toList.drop i)[0]?=some o:=by rw [hl];rfl
      rw [iR] at this;simpa using this
    have c3:ops.toList.drop (i+1)=l:=by
      have:(ops.toList.drop i).drop 1=l:=by rw [hl];rfl
      rw [wW] at this;exact this
    simp only [fU,tQ];refine TF a8 ?_;simp only [kK] at hv;cases h1:(qC P ops.toList o).run call e h with
    |bad=>rw [h1] at hv;cases hv
    | ok e1 a7=>
      rw [h1] at hv;refine CY a3 k hg hr b4 hi h1 ?_;intro m1 a1 w1 b6 c0;exact IW a3 b4 a8 l (i+1) m1 e1 e' a1 a7 h' w1 c3 c0 (hg.mono b6.le) b6.hr hv (fun m2 a2 w2 a9 c1=>hn m2 a2 w2 (b6.trans a9) c1)
theorem ZN (h:zE o=some d):o.dst=some d∧o.guard=none∧∀a:Act,∀w,(execOp a.eval o).run P w= .ok .recover w:=by
  unfold zE at h;split at h
  · rename_i ts d' h1 h2 h3;cases h;refine⟨h2,h3,fun a w=>?_⟩;simp [execOp,h1,resolve,invoke,builtin]
  · cases h
theorem Cp (a3:eN P call) (a4:P.follows .mixedOrders=true) {c₀:Frame} {b1:List Frame} (a5:c₀.mode= .returning):∀(c:Code),fH P n c=true→
    ∀ (m:Mp) (e:Env) (a:Act) (h:H) (w:World) (Q:Exit→Act→List Frame→World→Prop),(∀a w,¬Q .outgrown a (c₀::b1) w)→bD m n e a→Gl P m→HR m h w→
      CQ m h w n (fun e a w=>Q e a (c₀::b1) w) ((mM P lf c).run call e h)→c.wpS P Q a (c₀::b1) w:=by
  intro c
  induction c with
  | seq x y ihx ihy=>
    intro hc m e a h w Q a8 k hg hr hq;simp only [fH,aM] at hc;refine wpS_seq (ihx hc.1 m e a h w _ (fun a w=>a8 a w) k hg hr ?_);simp only [mM] at hq;cases hx:(mM P lf x).run call e h with
    |bad=>rw [hx] at hq;exact hq.elim
    | nrm e1 h1=>
      rw [hx] at hq;intro m' a' w' hF hE;exact wpS_of_wp (vV a3 a4 y hc.2 m' e1 a' h1 w' _ hE (hg.mono hF.le) hF.hr (hq.of_fr hF))
    |ext i e1 h1=>rw [hx] at hq;exact hq
    |ret e1 h1=>rw [hx] at hq;exact hq
  | region id ops d=>
    intro hc m e a h w Q a8 k hg hr hq;have other:CQ m h w n (fun e a w=>Q e a (c₀::b1) w) ((dY P lf (.region id ops d)).run call e h)→(Code.region id ops d).wpS P Q a (c₀::b1) w:=
      fun hq=>wpS_of_wp (vV a3 a4 _ hc m e a h w _ k hg hr hq)
    cases d with
    |true=>exact other (by simpa only [mM] using hq)
    | false=>
      obtain⟨l⟩:=ops;cases l with
      |nil=>exact other (by simpa only [mM] using hq)
      | cons o l=>
        simp only [mM] at hq;cases hrec:zE o with
        |none=>rw [hrec] at hq;exact other hq
        | some d=>
          rw [hrec] at hq;simp only at hq;obtain⟨r1,r2,r3⟩:=ZN (P:=P) hrec;simp only [fH] at hc;cases hx:(kK P (o::l) l).run call (gU d .ni e) h with
          |bad=>rw [hx] at hq;exact hq.elim
          | ok e1 h1=>
            rw [hx] at hq;refine wpS_region ?_;have c5:List.range (⟨o::l⟩:Array Oper).size=0::List.range' 1 l.length:=by
              show List.range (l.length+1)=_;rw [SF,tQ]
            rw [c5];have h0:(⟨o::l⟩:Array Oper)[0]?=some o:=by simp
            have hd:=fM (iK hc h0).2 r1;simp only [wpOpsS,h0];rw [if_pos (by simp [Region.wanted,r2]),r3 a w];simp only [recoverD,a5,r1];refine IW a3 hc a8 l 1 m _ e1 _ h h1 w (by simp) (k.set hd (show R m .ni .nilIface by simp [R])) hg hr hx hq
  |_=>intro hc m e a h w Q a8 k hg hr hq;exact wpS_of_wp (vV a3 a4 _ hc m e a h w _ k hg hr (by simpa only [mM] using hq))
theorem xW (hp:nE P=true) {f:FuncId} {fn:Func} {c:Code} (hf:P.funcs[f]?=some fn) (hb:fn.body=some c):
    fn.ntmps≤511∧fH P fn.ntmps c=true∧fn.results.toList.all (uF fn.ntmps)=true∧(fn.name== "runtime.NumGoroutine")=false:=by
  have hm:fn∈P.funcs.toList:=by
    rw [←gQ] at hf;exact aX hf
  have:=(jM.1 hp) fn hm;simp only [NC,hb,aM,BK] at this;exact⟨cK this.1,this.2.1,this.2.2.1,this.2.2.2⟩
theorem FJ (hp:nE P=true) {f:FuncId} {fn:Func} {c:Code} (hf:P.funcs[f]?=some fn) (hb:fn.body=some c) (args:Array Value) (w:World):(callFunc f args).run P w= .ok (.enter f args) w:=by
  obtain⟨_,_,_,h4⟩:=xW hp hf hb
  have h5:fn.name≠ "runtime.NumGoroutine" :=by simpa using h4
  simp [callFunc,hf,h5,hb]
theorem LZ {lf:Nat} {call:bP} (hp:nE P=true) (a3:eN P call) (a4:P.follows .mixedOrders=true) {fn:Func} {tmps:Array Value} {Rr:Ending→World→Prop} {h2:H}:
    ∀ (l:List V) (ds:List Deferred) (m:Mp) (h:H) (w:World),DfrR m l ds→HR m h w→Gl P m→eW P lf call l h=some h2→
      (∀m' w',Fr m h w m' h2 w'→∃v,(results fn tmps).run P w'= .ok v w'∧Rr (.returned v) w')→(∀w,¬Rr .outgrown w)→Leaves P fn tmps Rr ds .returning w
  | [],ds,m,h,w,hd,hr,hg,hv,hfin,hRo=>by
    simp only [DfrR] at hd;subst hd;simp only [eW] at hv;cases hv;exact hfin m w (Fr.refl hr)
  | .fn (.func f) first cap::l,ds,m,h,w,hd,hr,hg,hv,hfin,hRo=>by
    simp only [DfrR] at hd;obtain⟨a',c',r,rfl,hA,hC,hD⟩:=hd;simp only [eW] at hv;cases hx:(defF P lf f).run call (first++cap) h with
    |bad=>rw [hx] at hv;cases hv
    | ok v h1=>
      rw [hx] at hv;simp only at hv;unfold defF at hx;cases hf:P.funcs[f]? with
      |none=>rw [hf] at hx;cases hx
      | some fd=>
        rw [hf] at hx;simp only at hx;cases hb:fd.body with
        |none=>rw [hb] at hx;cases hx
        | some c=>
          rw [hb] at hx;simp only at hx;obtain⟨b3,hx⟩:=DX hx;obtain⟨p1,p2,p3,p4⟩:=xW hp hf hb;have b0:(first++cap).length≤fd.ntmps:=by rw [jD] at b3;exact cK b3
          refine leaves_cons (by simp) (f:=f) (args:=⟨a'++c'⟩) (by simp only [invoke];rw [FJ hp hf hb];simp) ?_;refine callsD_of_wpS hf hb ?_;intro c₀ cs a5;have hE:=GD (hA.append hC) b0 p1;have c2:({ c₀ with mode:=.returning }:Frame)=c₀:=by rw [←a5]
          refine Cp (lf:=lf) a3 a4 a5 c p2 m _ _ h w _ ?_ hE hg hr ?_
          · rintro a w ⟨u',hu⟩;exact hRo w hu
          · have key:∀e1 a7,oY P fd.results.toList e1 a7= .ok v h1→∀m' a' w',Fr m h w m' a7 w'→bD m' fd.ntmps e1 a'→
                a'.defers= []∧∃u',(c₀::cs)={ c₀ with mode:=u' }::cs∧∃v,(results fd a'.tmps).run P w'= .ok v w'∧Leaves P fn tmps Rr r (settle u') w':=by
              intro e1 a7 hl m' a' w' hF b2;unfold oY at hl;split at hl
              · rename_i a6;obtain⟨L,hL,hDf⟩:=b2.dfr;rw [a6] at hL;cases hL;simp only [DfrR] at hDf;unfold vhO at hl;split at hl
                · rename_i v' b7;cases hl;obtain⟨u,hu,_⟩:=CJ b2 hF.hr p3 b7;refine⟨hDf,.returning,by rw [c2],u,hu,?_⟩;exact LZ hp a3 a4 l r m' _ w' (hD.mono hF.le) hF.hr (hg.mono hF.le) hv (fun m2 w2 a9=>hfin m2 w2 (hF.trans a9)) hRo
                · cases hl
              · cases hl
            cases hc:(mM P lf c).run call (lL 0 (first++cap) Env.new) h with
            |bad=>rw [hc] at hx;cases hx
            |nrm e1 a7=>rw [hc] at hx;exact key e1 a7 hx
            |ext i e1 a7=>rw [hc] at hx;cases hx
            |ret e1 a7=>rw [hc] at hx;exact key e1 a7 hx
  | .fn (.method _) _ _::_,ds,m,h,w,hd,hr,hg,hv,hfin,hRo=>by simp [eW] at hv
  | .fn (.methodOf _ _) _ _::_,ds,m,h,w,hd,hr,hg,hv,hfin,hRo=>by simp [eW] at hv
  | .fn (.via _ _ _ _) _ _::_,ds,m,h,w,hd,hr,hg,hv,hfin,hRo=>by simp [eW] at hv
  | .fn (.yield _) _ _::_,ds,m,h,w,hd,hr,hg,hv,hfin,hRo=>by simp [eW] at hv
  | .top::_,ds,m,h,w,hd,hr,hg,hv,hfin,hRo=>by simp [eW] at hv
  | .b _::_,ds,m,h,w,hd,hr,hg,hv,hfin,hRo=>by simp [eW] at hv
  | .i _ _::_,ds,m,h,w,hd,hr,hg,hv,hfin,hRo=>by simp [eW] at hv
  | .s _ _::_,ds,m,h,w,hd,hr,hg,hv,hfin,hRo=>by simp [eW] at hv
  | .pn::_,ds,m,h,w,hd,hr,hg,hv,hfin,hRo=>by simp [eW] at hv
  | .p _ _::_,ds,m,h,w,hd,hr,hg,hv,hfin,hRo=>by simp [eW] at hv
  | .sn::_,ds,m,h,w,hd,hr,hg,hv,hfin,hRo=>by simp [eW] at hv
  | .sl _ _ _ _::_,ds,m,h,w,hd,hr,hg,hv,hfin,hRo=>by simp [eW] at hv
  | .se::_,ds,m,h,w,hd,hr,hg,hv,hfin,hRo=>by simp [eW] at hv
  | .mn::_,ds,m,h,w,hd,hr,hg,hv,hfin,hRo=>by simp [eW] at hv
  | .mp _::_,ds,m,h,w,hd,hr,hg,hv,hfin,hRo=>by simp [eW] at hv
  | .nf::_,ds,m,h,w,hd,hr,hg,hv,hfin,hRo=>by simp [eW] at hv
  | .ni::_,ds,m,h,w,hd,hr,hg,hv,hfin,hRo=>by simp [eW] at hv
  | .agg _::_,ds,m,h,w,hd,hr,hg,hv,hfin,hRo=>by simp [eW] at hv
  | .tup _::_,ds,m,h,w,hd,hr,hg,hv,hfin,hRo=>by simp [eW] at hv
def SpecOK (P:Program) (sp:Nat→Option FOp):Prop:=
  ∀(f:FuncId) (op:FOp),sp f=some op→∀(call:bP),eN P call→∀(vs:List V) (us:List Value) (m:Mp) (h:H) (w:World) (v:V) (h':H),HR m h w→Gl P m→Rl m vs us→op.run call vs h= .ok v h'→cJ P ((callFunc f ⟨us⟩).run P w) m h w v h'
theorem Ei (hp:nE P=true) (a3:eN P call) (a4:P.follows .mixedOrders=true) {f:FuncId} {fn:Func} {c:Code} (hf:P.funcs[f]?=some fn) (hb:fn.body=some c)
    {vs:List V} {us:List Value} {h h':H} {v:V} (hr:HR m h w) (hg:Gl P m) (hR:Rl m vs us) (hv:(FN P lf fn c).run call vs h= .ok v h'):
    Calls P f ⟨us⟩ w (fun e w'=>∃u m',e= .returned u∧Fr m h w m' h' w'∧R m' v u):=by
  obtain⟨p1,p2,p3,p4⟩:=xW hp hf hb;unfold FN at hv;obtain⟨b3,hv⟩:=DX hv;have b0:vs.length≤fn.ntmps:=by rw [jD] at b3;exact cK b3
  have hE:=GD hR b0 p1;refine calls_of_wp_defers hf hb ?_;refine vV (lf:=lf) a3 a4 c p2 m _ _ h w _ hE hg hr ?_;have key:∀e1 h1,yZ P lf fn.results.toList call e1 h1= .ok v h'→∀m' a' w',Fr m h w m' h1 w'→bD m' fn.ntmps e1 a'→
      Leaves P fn a'.tmps (fun e w'=>∃u m',e= .returned u∧Fr m h w m' h' w'∧R m' v u) a'.defers .returning w':=by
    intro e1 h1 hl m' a' w' hF b2;obtain⟨L,hL,hDf⟩:=b2.dfr;have b8:∀h2,vhO h2 ((oO P fn.results.toList).run e1 h2)= .ok v h'→∀m2 w2,Fr m' h1 w' m2 h2 w2→∃u,(results fn a'.tmps).run P w2= .ok u w2∧∃u' m',Ending.returned u= .returned u'∧Fr m h w m' h' w2∧R m' v u':=by
      intro h2 b5 m2 w2 a9;unfold vhO at b5;split at b5
      · rename_i v' b7;cases b5;obtain⟨u,hu,hRu⟩:=CJ (b2.mono a9.le) a9.hr p3 b7;exact⟨u,hu,u,m2,rfl,hF.trans a9,hRu⟩
      · cases b5
    unfold yZ at hl;split at hl
    · rename_i a6;rw [a6] at hL;cases hL;simp only [DfrR] at hDf;rw [hDf];exact b8 h1 hl m' w' (Fr.refl hF.hr)
    · rename_i l c6 a6;rw [a6] at hL;cases hL;split at hl
      · rename_i h2 c4;exact LZ hp a3 a4 _ a'.defers m' h1 w' hDf hF.hr (hg.mono hF.le) c4 (b8 h2 hl) (by rintro w ⟨u,m',hu,_⟩;cases hu)
      · cases hl
    · cases hl
  cases hc:(dY P lf c).run call (lL 0 vs Env.new) h with
  |bad=>rw [hc] at hv;cases hv
  |nrm e1 h1=>rw [hc] at hv;exact key e1 h1 hv
  |ext i e1 h1=>rw [hc] at hv;cases hv
  |ret e1 h1=>rw [hc] at hv;exact key e1 h1 hv
theorem FK {sp:Nat→Option FOp} {lf:Nat} (hp:nE P=true) (a4:P.follows .mixedOrders=true) (b9:SpecOK P sp):∀n,eN P (vY P sp lf n)
  |0=>by intro f vs us m h w v h' hr hg hR hv;cases hv
  | n + 1=>by
    intro f vs us m h w v h' hr hg hR hv;have a3:=FK (lf:=lf) hp a4 b9 n;have hv:(EI P sp lf f).run (vY P sp lf n) vs h= .ok v h':=hv;unfold EI at hv;cases hs:sp f with
    |some op=>rw [hs] at hv;exact b9 f op hs _ a3 vs us m h w v h' hr hg hR hv
    | none=>
      rw [hs] at hv;simp only at hv;cases hf:P.funcs[f]? with
      |none=>rw [hf] at hv;cases hv
      | some fn=>
        rw [hf] at hv;simp only at hv;cases hb:fn.body with
        |none=>rw [hb] at hv;cases hv
        | some c=>
          rw [hb] at hv;simp only at hv;exact .inr ⟨f,⟨us⟩,FJ hp hf hb _ _,Ei hp a3 a4 hf hb hr hg hR hv⟩
end
section
def yK (h:H) (b:Id):Option (List (V × H)):=
  match aB b h.mem with
  | some (.miter m since seen last)=>(match gN h m with
    |some (es,clock)=>bif es.all (fun e=>Nat.ble (Nat.succ e.born) since)&&Nat.ble since last then
        (match lY seen es with
         | []=>some [(.tup [.b false],h)]
         |l=>some (l.map fun e=>(.tup [.b true,e.key,e.val],eD h b (.miter m since (seen++ [e.born]) clock))))
        else none
    |none=>none)
  |_=>none
def yJ (o:Oper):Option (Operand × Nat):=
  match o.op,o.dst,o.guard with
  | .next x false,some d,none=>some (x,d)
  |_,_,_=>none
structure NS where
  run:bP→Env→H→List Rs
structure NCd where
  run:bP→Env→H→List CR
variable (P:Program)
def yD (ops:List Oper) (o:Oper):NS:=
  match yJ o with
  |none=>⟨fun call e h=>[(qC P ops o).run call e h]⟩
  |some (x,d)=>⟨fun _ e h=>match (aF x).run e with
     | .p b 0=>(match yK h b with|some l=>l.map (fun r=>.ok (gU d r.1 e) r.2)|none=>[.bad])
     |_=>[.bad]⟩
def FP (k:Env→H→List Rs):Rs→List Rs
  | .bad=>[.bad]
  | .ok e h=>k e h
def seqN (ops:List Oper):List Oper→NS
  | []=>⟨fun _ e h=>[.ok e h]⟩
  |o::l=>⟨fun call e h=>((yD P ops o).run call e h).flatMap (FP ((seqN ops l).run call))⟩
def AL (k:Env→H→List CR):CR→List CR
  | .bad=>[.bad]
  | .nrm e h=>k e h
  | .ext i e h=>[.ext i e h]
  | .ret e h=>[.ret e h]
def DR (body:Env→H→List CR):Nat→Env→H→List CR
  |0=>fun _ _=>[.bad]
  |n+1=>fun e h=>(body e h).flatMap (AL (DR body n))
def blkC (id:Nat):CR→CR
  | .ext j e h=>bif Nat.beq j id then .nrm e h else .ext j e h
  |r=>r
def rsC:Rs→CR
  | .bad=>.bad
  | .ok e h=>.nrm e h
def gX (lf:Nat):Code→NCd
  | .seq a b=>⟨fun call e h=>((gX lf a).run call e h).flatMap (AL ((gX lf b).run call))⟩
  | .cond c a b=>⟨fun call e h=>match (aF c).run e with
      | .b true=>(gX lf a).run call e h
      | .b false=>(gX lf b).run call e h
      |_=>[.bad]⟩
  | .block id b=>⟨fun call e h=>((gX lf b).run call e h).map (blkC id)⟩
  | .loop b=>⟨fun call e h=>DR ((gX lf b).run call) lf e h⟩
  | .region _ ops false=>⟨fun call e h=>((seqN P ops.toList ops.toList).run call e h).map rsC⟩
  | .region id ops true=>⟨fun call e h=>[(dY P lf (.region id ops true)).run call e h]⟩
  | .skip=>⟨fun _ e h=>[.nrm e h]⟩
  | .label _=>⟨fun _ e h=>[.nrm e h]⟩
  | .ret=>⟨fun _ e h=>[.ret e h]⟩
  | .exit id=>⟨fun _ e h=>[.ext id e h]⟩
  |_=>⟨fun _ _ _=>[.bad]⟩
end
section
variable {P:Program} {m:Mp} {w:World}
theorem YB (k:HR m h w) {ty:TypeId} {b:Id} {l:Loc} {L:List (V × H)} (hl:m b=some l) (hn:yK h b=some L):
  ∃r∈L,∃u' w' m',(Instr.next (.pointer (some ⟨l.blk,l.base+0,none⟩)) false ty).run P w= .ok u' w'∧Fr m h w m' r.2 w'∧R m' r.1 u':=by
 unfold yK at hn;split at hn
 ·rename_i mi a0 seen a9 hb;obtain⟨l1,hl1,h0,lm,hlm,hit⟩:=k.obj _ _ hb;rw [hl] at hl1;cases hl1;rw [h0];split at hn
  ·rename_i es a6 he;obtain⟨l2,es',hb2,hl2,hat,hes⟩:=nV k he;have b5:lm=l2:=by rw [hlm] at hl2;cases hl2;rfl
   subst b5;cases hc:(es.all (fun e=>Nat.ble (Nat.succ e.born) a0)&&Nat.ble a0 a9) with
   |false=>rw [hc] at hn;cases hn
   | true=>
    rw [hc] at hn;simp only [cN] at hn;rw [aM] at hc;have b9:∀x∈(⟨es'⟩:Array MapEntry).toList,x.born<a0:=by
     have h1:=hes.all (p:=fun n=>Nat.ble (Nat.succ n) a0);rw [hc.1] at h1;intro x hx;have:=(jM.1 h1) x (by simpa using hx);exact cK this
    have d0:a0≤a9:=cK hc.2;have a5:=hes.filter (p:=fun n=>!seen.any (Nat.beq n));have c5:(leftOf (⟨es'⟩:Array MapEntry) ⟨seen⟩).toList=(es'.filter fun e=>!seen.any (Nat.beq e.born)):=by
     unfold leftOf;simp only [Array.toList_filter];congr 1;funext e;congr 1;rw [iT];simp
    have d1:lY seen es=es.filter fun e=>!seen.any (Nat.beq e.born):=rfl
    rw [←d1,←c5] at a5;rcases run_next_at (P:=P) w ty l.blk lm.blk a0 a9 ⟨seen⟩ ⟨es'⟩ a6 hit hat b9 d0 with⟨hz,hrun⟩|⟨x,hx,w1,hw1,hrun⟩
    ·have b8:lY seen es= []:=by
      have:=a5.length;rw [cV,hz] at this;exact lB this.symm
     rw [b8] at hn;cases hn;exact⟨_,fQ.2 rfl,_,w,m,hrun,Fr.refl k,by simp [R,Rl]⟩
    ·obtain⟨i,hi⟩:=List.mem_iff_getElem?.1 hx;have b6:=a5.length;have b2:i<(lY seen es).length:=by
      rw [←b6];exact(List.getElem?_eq_some_iff.1 hi).1
     obtain⟨x',hx',hxe⟩:=a5.get (aL b2);rw [hi] at hx';cases hx';have c9:lY seen es≠ []:=by intro e;rw [e] at b2;cases b2
     have c8:some ((lY seen es).map fun e=>(V.tup [.b true,e.key,e.val],eD h b (.miter mi a0 (seen++ [e.born]) a6)))=some L:=by
      cases hu:lY seen es with
      |nil=>exact absurd hu c9
      |cons a t=>rw [hu] at hn;exact hn
     cases c8;generalize hE:(lY seen es)[i]=E at hxe;refine⟨_,dG.2 ⟨E,by rw [←hE];exact List.getElem_mem b2,rfl⟩,_,_,m,hrun,?_,?_⟩
     ·have d2:∃n,w1={ w with drawn:=n }:=by
       rcases hw1 with rfl|rfl
       ·exact⟨w1.drawn,rfl⟩
       ·exact⟨w.drawn+1,rfl⟩
      obtain⟨n,rfl⟩:=d2;refine(Fr.drawn k n).trans (Fr.updObj (k.drawn n) hb hl (fun _ _ _ _ e=>by cases e) (fun _ _ _ _ e=>by cases e) (o':=.mapIter (some lm.blk) a0 ⟨seen++ [E.born]⟩ a6) ?_ (fun b4=>⟨h0,lm,hlm,b4⟩));simp [ChangeMaps.setBlock,hxe.2.2]
     ·simp only [R,Rl];exact⟨_,rfl,_,_,rfl,rfl,_,_,rfl,hxe.1,_,_,rfl,hxe.2.1,rfl⟩
  ·cases hn
 ·cases hn
theorem YA {x:Operand} (h:yJ o=some (x,d)):o.op= .next x false∧o.dst=some d∧o.guard=none:=by
 unfold yJ at h;split at h
 ·rename_i h1 h2 h3;cases h;exact⟨h1,h2,h3⟩
 ·cases h
theorem XK (a3:eN P call) (k:bD m n e a) (hg:Gl P m) {h:H} (hr:HR m h w) {ops:Array Oper} (a7:eX P n ops=true) {i:Nat} {o:Oper} (hi:ops[i]?=some o)
  {K:Act→World→Prop} {Q:Exit→Act→World→Prop} (hb:∀r∈(yD P ops.toList o).run call e h,r≠ .bad)
  (hn:∀e' h',Rs.ok e' h'∈(yD P ops.toList o).run call e h→∀m' a' w',Fr m h w m' h' w'→bD m' n e' a'→K a' w'):wpOp P ops Q i K a w:=by
 unfold yD at hb hn;cases hx:yJ o with
 |none=>
  rw [hx] at hb hn;simp only [fQ] at hb hn;cases hv:(qC P ops.toList o).run call e h with
  |bad=>exact absurd hv (hb _ rfl)
  |ok e1 h1=>exact CY a3 k hg hr a7 hi hv (hn e1 h1 hv.symm)
 | some xd=>
  obtain⟨x,d⟩:=xd;rw [hx] at hb hn;obtain⟨h1,h2,h3⟩:=YA hx;obtain⟨b0,hd⟩:=iK a7 hi;simp only at hb hn;have hX:=cS k hg (show cO P n x=true by
   rw [h1] at b0;simpa [Op.operands] using b0)
  unfold wpOp;simp only [hi];rw [if_pos (by simp [Region.wanted,h3])];refine .inl ?_;unfold Oper.wp;split at hb
  ·rename_i b hp;rw [hp] at hX hn;simp only at hn;obtain⟨l,hl,hu⟩:=R_p hX;cases hN:yK h b with
   |none=>rw [hN] at hb;exact absurd rfl (hb .bad (fQ.2 rfl))
   | some L=>
    rw [hN] at hn;simp only at hn;obtain⟨r,hrm,u',w',m',hrun,hF,hR⟩:=YB (P:=P) (ty:=o.type) hr hl hN;have c4:(execOp a.eval o).run P w= .ok (.value u') w':=by
     simp only [fP] at hrun hu;simp [execOp,h1,hu,hrun,Result.andThen]
    rw [c4,wP,h2];rw [h2] at hd;exact hn _ _ (dG.2 ⟨r,hrm,rfl⟩) m' _ w' hF ((k.mono hF.le).set (cK hd) hR)
  ·exact absurd rfl (hb .bad (fQ.2 rfl))
theorem LG {r:Rs} (h1:Rs.ok e h∈L) (h2:r∈k e h):r∈L.flatMap (FP k):=
 List.mem_flatMap.2 ⟨_,h1,h2⟩
theorem Er (h1:Rs.bad∈L):Rs.bad∈L.flatMap (FP k):=
 List.mem_flatMap.2 ⟨_,h1,fQ.2 rfl⟩
theorem IX {n:Nat} {call:bP} (a3:eN P call) {ops:Array Oper} (a7:eX P n ops=true) {Q:Exit→Act→World→Prop}:
  ∀(l:List Oper) (i:Nat) (m:Mp) (e:Env) (a:Act) (h:H) (w:World),ops.toList.drop i=l→bD m n e a→Gl P m→HR m h w→
   (∀r∈(seqN P ops.toList l).run call e h,r≠ .bad)→
   (∀e' h',Rs.ok e' h'∈(seqN P ops.toList l).run call e h→∀m' a' w',Fr m h w m' h' w'→bD m' n e' a'→Q .normal a' w')→wpOps P ops Q (List.range' i l.length) a w
 | [],i,m,e,a,h,w,hl,k,hg,hr,hb,hn=>hn e h (fQ.2 rfl) m a w (Fr.refl hr) k
 | o::l,i,m,e,a,h,w,hl,k,hg,hr,hb,hn=>by
  have hi:ops[i]?=some o:=by
   have:(ops.toList.drop i)[0]?=some o:=by rw [hl];rfl
   rw [iR] at this;simpa using this
  have c6:ops.toList.drop (i+1)=l:=by
   have:(ops.toList.drop i).drop 1=l:=by rw [hl];rfl
   rw [wW] at this;exact this
  simp only [fU,tQ];rw [wpOps_cons];simp only [seqN] at hb hn;refine XK a3 k hg hr a7 hi (fun r a4 e1=>hb .bad (Er (e1▸a4)) rfl) ?_;intro e1 h1 c0 m1 a1 w1 b3 c1;exact IX a3 a7 l (i+1) m1 e1 a1 h1 w1 c6 c1 (hg.mono b3.le) b3.hr (fun r b1=>hb r (LG c0 b1))
   (fun e2 h2 c7 m2 a2 w2 c3 c2=>hn e2 h2 (LG c0 c7) m2 a2 w2 (b3.trans c3) c2)
theorem oU {k:Env→H→List CR} {L:List CR} {c r:CR} (h1:c∈L) (h2:r∈AL k c):r∈L.flatMap (AL k):=
 List.mem_flatMap.2 ⟨_,h1,h2⟩
theorem Cz (a3:eN P call) (b7:P.follows .mixedOrders=true):∀(c:Code),fH P n c=true→
  ∀(m:Mp) (e:Env) (a:Act) (h:H) (w:World) (Q:Exit→Act→World→Prop),bD m n e a→Gl P m→HR m h w→(∀r∈(gX P lf c).run call e h,CQ m h w n Q r)→c.wp P Q a w:=by
 intro c
 induction c with
 |skip=>intro hc m e a h w Q k hg hr hq;exact wp_skip (hq _ (fQ.2 rfl) m a w (Fr.refl hr) k)
 |label l=>intro hc m e a h w Q k hg hr hq;exact wp_label (hq _ (fQ.2 rfl) m a w (Fr.refl hr) k)
 |ret=>intro hc m e a h w Q k hg hr hq;exact wp_ret (hq _ (fQ.2 rfl) m a w (Fr.refl hr) k)
 |exit id=>intro hc m e a h w Q k hg hr hq;exact wp_exit (hq _ (fQ.2 rfl) m a w (Fr.refl hr) k)
 | seq x y ihx ihy=>
  intro hc m e a h w Q k hg hr hq;simp only [fH,aM] at hc;refine wp_seq (ihx hc.1 m e a h w _ k hg hr ?_);simp only [gX] at hq;intro r a4;cases r with
  |bad=>exact(hq .bad (oU a4 (fQ.2 rfl))).elim
  |nrm e1 h1=>
   intro m' a' w' hF hE;exact ihy hc.2 m' e1 a' h1 w' Q hE (hg.mono hF.le) hF.hr (fun r2 b1=>(hq r2 (oU a4 b1)).of_fr hF)
  |ext i e1 h1=>exact hq _ (oU a4 (fQ.2 rfl))
  |ret e1 h1=>exact hq _ (oU a4 (fQ.2 rfl))
 | cond c x y ihx ihy=>
  intro hc m e a h w Q k hg hr hq;simp only [fH,aM] at hc;simp only [gX] at hq;have hC:=cS k hg hc.1;split at hq
  ·rename_i hb;rw [hb] at hC;simp only [R] at hC;exact wp_cond hC (ihx hc.2.1 m e a h w Q k hg hr hq)
  ·rename_i hb;rw [hb] at hC;simp only [R] at hC;exact wp_cond hC (ihy hc.2.2 m e a h w Q k hg hr hq)
  ·exact(hq .bad (fQ.2 rfl)).elim
 | block id x ih=>
  intro hc m e a h w Q k hg hr hq;simp only [fH] at hc;simp only [gX] at hq;refine wp_block (ih hc m e a h w _ k hg hr ?_);intro r a4;have a8:=hq (blkC id r) (dG.2 ⟨r,a4,rfl⟩);cases r with
  |bad=>exact a8
  |nrm e1 h1=>exact a8
  |ret e1 h1=>exact a8
  |ext j e1 h1=>
   intro m' a' w' hF hE;show(if j=id then Q .normal a' w' else Q (.exit j) a' w');simp only [blkC] at a8;cases hj:Nat.beq j id with
   |true=>rw [hj] at a8;rw [if_pos (aV hj)];exact a8 m' a' w' hF hE
   |false=>rw [hj] at a8;rw [if_neg (RQ hj)];exact a8 m' a' w' hF hE
 | loop x ih=>
  intro hc m e a h w Q k hg hr hq;simp only [fH] at hc;simp only [gX] at hq;refine wp_loop_rounds lf ?_;have key:∀(N:Nat) (m:Mp) (e:Env) (a:Act) (h:H) (w:World),bD m n e a→Gl P m→HR m h w→(∀r∈DR ((gX P lf x).run call) N e h,CQ m h w n Q r)→Code.rounds P x Q N a w:=by
   intro N
   induction N with
   |zero=>intro m e a h w k hg hr hq;exact(hq .bad (fQ.2 rfl)).elim
   | succ N ihN=>
    intro m e a h w k hg hr hq;rw [rounds_succ];refine ih hc m e a h w _ k hg hr ?_;intro r a4;cases r with
    |bad=>exact(hq .bad (oU a4 (fQ.2 rfl))).elim
    |nrm e1 h1=>
     intro m' a' w' hF hE;exact ihN m' e1 a' h1 w' hE (hg.mono hF.le) hF.hr (fun r2 b1=>(hq r2 (oU a4 b1)).of_fr hF)
    |ext i e1 h1=>exact hq _ (oU a4 (fQ.2 rfl))
    |ret e1 h1=>exact hq _ (oU a4 (fQ.2 rfl))
  exact key lf m e a h w k hg hr hq
 | region id ops d=>
  intro hc m e a h w Q k hg hr hq;cases d with
  | false=>
   simp only [fH] at hc;simp only [gX] at hq;refine wp_region ?_;have:=IX (Q:=Q) a3 hc ops.toList 0 m e a h w (by simp) k hg hr (fun r a4 e1=>by subst e1;exact hq .bad (dG.2 ⟨_,a4,rfl⟩))
    (fun e1 h1 hm=>hq (.nrm e1 h1) (dG.2 ⟨_,hm,rfl⟩))
   rw [SF];simpa using this
  |true=>
   simp only [gX] at hq;exact vV a3 b7 _ hc m e a h w Q k hg hr (hq _ (fQ.2 rfl))
 |_=>intro hc m e a h w Q k hg hr hq;simp only [gX] at hq;exact(hq .bad (fQ.2 rfl)).elim
end
section
def iW (h:H):Nat→List V→Mem→List Id→Mem × List Id
 |0,_,M,ms=>(M,ms)
 |_+1,[],M,ms=>(M,ms)
 | n+1,v::l,M,ms=>match v with
  | .agg l0=>iW h n (l0++l) M ms
  | .tup l0=>iW h n (l0++l) M ms
  | .sl b _ _ _=>(match aB b M with
   |some _=>iW h n l M ms
   |none=>match aB b h.mem with
    |some (.cells sz els f _)=>iW h n (els.flatten++l) (dC b (some (.cells sz els f .fz)) M) ms
    |_=>iW h n l M ms)
  | .mp b=>(match aB b M with
   |some _=>iW h n l M ms
   |none=>match aB b h.mem with
    |some (.map es c)=>iW h n (es.map (·.key)++(es.map (·.val)++l)) (dC b (some (.map es c)) M) (b::ms)
    |_=>iW h n l M ms)
  |_=>iW h n l M ms
def jC (b:Id):List (Id × Id)→Option Id
 | []=>none
 |(a,c)::l=>bif Id.beq a b then some c else jC b l
def rho (lim:Nat) (pr:List (Id × Id)) (b:Id):Option Id:=bif Nat.ble (Nat.succ b.toNat) lim then some b else jC b pr
mutual
def bR (ρ:Id→Option Id):V→Option V
 | .sl b o l z=>(match ρ b with|some c=>some (.sl c o l z)|none=>none)
 | .agg l=>(match cM ρ l with|some l'=>some (.agg l')|none=>none)
 | .tup l=>(match cM ρ l with|some l'=>some (.tup l')|none=>none)
 | .b x=>some (.b x)
 | .i k n=>some (.i k n)
 | .s l c=>some (.s l c)
 | .pn=>some .pn
 | .sn=>some .sn
 | .se=>some .se
 | .mn=>some .mn
 | .nf=>some .nf
 | .ni=>some .ni
 | .top=>none
 | .p _ _=>none
 | .mp _=>none
 | .fn _ _ _=>none
def cM (ρ:Id→Option Id):List V→Option (List V)
 | []=>some []
 |v::l=>(match bR ρ v,cM ρ l with|some v',some l'=>some (v'::l')|_,_=>none)
end
def eQ (ρ:Id→Option Id):List (List V)→Option (List (List V))
 | []=>some []
 |v::l=>(match cM ρ v,eQ ρ l with|some v',some l'=>some (v'::l')|_,_=>none)
def gF:Nat→Id→Option (List Id × Id)
 |0,i=>some ([],i)
 |n+1,i=>(match i.succ with
  |some j=>(match gF n j with|some (l,k)=>some (i::l,k)|none=>none)
  |none=>none)
def kV (hp:H) (lim:Nat):Nat→List V→List Id→List Id
 |0,_,acc=>acc
 |_+1,[],acc=>acc
 | n+1,v::l,acc=>match v with
  | .agg l0=>kV hp lim n (l0++l) acc
  | .tup l0=>kV hp lim n (l0++l) acc
  | .sl b _ _ _=>bif Nat.ble (Nat.succ b.toNat) lim||oV b acc then kV hp lim n l acc else(match aB b hp.mem with
   |some (.cells _ els _ _)=>kV hp lim n (els.flatten++l) (acc++ [b])
   |_=>kV hp lim n l acc)
  |_=>kV hp lim n l acc
def jB:List Id→Bool
 | []=>true
 |a::l=>!oV a l&&jB l
abbrev Ob:=Nat × Nat × List (List V)
def lK (hp:H) (ρ:Id→Option Id):List Id→Option (List Id × List Ob)
 | []=>some ([],[])
 | b::l=>(match aB b hp.mem with
  |some (.cells sz els f (.rw ty))=>(match eQ ρ els,lK hp ρ l with
   |some els',some (fs,obs)=>some (f::fs,(sz,ty,els')::obs)
   |_,_=>none)
  |_=>none)
def mP (lim fuel:Nat) (nw:List Id) (hp:H) (v:V):Option (V × List Ob):=
 match kV hp lim fuel [v] [] with
 | olds=>bif Nat.beq (lenL' olds) (lenL' nw)&&jB olds then
   (match bR (rho lim (olds.zip nw)) v,lK hp (rho lim (olds.zip nw)) olds with
    |some v',some (fs,obs)=>bif jB fs then some (v',obs) else none
    |_,_=>none)
   else none
where lenL' (l:List Id):Nat:=l.length
def tB:List Ob→List Ob→Bool
 | [],[]=>true
 |(n,t,a)::l,(n',t',b)::r=>Nat.beq n n'&&(Nat.beq t t'&&(qR a b&&tB l r))
 |_,_=>false
def zZ (x y:V × List Ob):Bool:=V.beq x.1 y.1&&tB x.2 y.2
def rV:List Ent→List Ent→Bool
 | [],[]=>true
 |a::l,b::r=>V.beq a.key b.key&&(V.beq a.val b.val&&(Nat.beq a.born b.born&&rV l r))
 |_,_=>false
def yB (lim:Nat) (v:V):Bool:=match bR (rho lim []) v with|some v'=>V.beq v' v|none=>false
def uN (lim:Nat):List Ent→Bool
 | []=>true
 |e::l=>yB lim e.key&&(yB lim e.val&&uN lim l)
def uQ (lim:Nat) (h hp:H):List Id→Bool
 | []=>true
 |b::l=>(match aB b h.mem,aB b hp.mem with
  |some (.map es c),some (.map es' c')=>rV es es'&&(Nat.beq c c'&&uN lim es)
  |_,_=>false)&&uQ lim h hp l
def gR:List Id→List Ob→Mem→Mem
 |b::nw,(sz,ty,els)::obs,M=>dC b (some (.cells sz els b (.rw ty))) (gR nw obs M)
 |_,_,M=>M
variable (P:Program)
def sI (fn:Func):CR→VH
 | .ret e h=>oY P fn.results.toList e h
 | .nrm e h=>oY P fn.results.toList e h
 |_=>.bad
def DC (fn:Func) (lim fuel:Nat) (nw:List Id) (cn:V × List Ob) (h:H) (ms:List Id) (r:CR):Bool:=
 match sI P fn r with
 | .ok v hp=>uQ lim h hp ms&&(match mP lim fuel nw hp v with|some c=>zZ c cn|none=>false)
 | .bad=>false
def wJ (p:CR→Bool):List CR→Bool
 | []=>true
 |r::l=>p r&&wJ p l
def ndB (lf fuel:Nat) (fn:Func) (c:Code):FOp:=⟨fun call args h=>dK (Nat.ble (dP args) fn.ntmps)
  (match iW h fuel args Mem.new [] with
  | (M,ms)=>match (gX P lf c).run call (lL 0 args Env.new) ⟨M,h.fams,h.next⟩ with
   | []=>.bad
   | r::rs=>match sI P fn r with
    | .bad=>.bad
    | .ok v1 h1=>match gF (kV h1 h.next.toNat fuel [v1] []).length h.next with
     |none=>.bad
     |some (nw,nx)=>match mP h.next.toNat fuel nw h1 v1 with
      |none=>.bad
      |some cn=>bif wJ (DC P fn h.next.toNat fuel nw cn h ms) (r::rs) then .ok cn.1 ⟨gR nw cn.2 h.mem,h.fams,nx⟩ else .bad) .bad⟩
def ndF (lf fuel f:Nat):FOp:=
 match P.funcs[f]? with
 |none=>mR
 |some fn=>match fn.body with
  |none=>mR
  |some c=>ndB P lf fuel fn c
end
end
end Go.Ev
