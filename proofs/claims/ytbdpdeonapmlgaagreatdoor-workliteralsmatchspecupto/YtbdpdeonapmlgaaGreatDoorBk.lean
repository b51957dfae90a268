/- Lemmas for the text Card; no condition. -/
import Derived.Test.YtbdpdeonapmlgaaGreatDoorBj
set_option linter.all false
namespace Go.Ev
variable {P:Program} {m:Mp} {w:World}
theorem JU {h:H} (k:HR m h w) {b:Id} {o:Nat} {v:V} {l:Loc} (hl:m b=some l) (hv:rd1 h b o=some v):∃u',w.cell? ⟨l.blk,l.base+o,none⟩=some u'∧R m v u':=by
 unfold rd1 at hv;cases hb:aB b h.mem with
 |none=>rw [hb] at hv;cases hv
 | some ob=>
  rw [hb] at hv;cases ob with
  |map _ _=>cases hv
  |miter _ _ _ _=>cases hv
  | cells sz els f ro=>
   have a0:(Option.rec (motive:=fun _=>Option V) none (fun el=>kO el (Nat.mod o sz)) (lM els (Nat.div o sz)):Option V)=some v:=hv;rw [uT] at a0;cases he:els[Nat.div o sz]? with
   |none=>rw [he] at a0;cases a0
   | some el=>
    rw [he] at a0;have a3:kO el (o%sz)=some v:=a0;rw [qE] at a3;obtain⟨l2,hl2,C,t2,fz,hcs⟩:=k.obj _ _ hb;rw [hl] at hl2;cases hl2;have a9:=(List.getElem?_eq_some_iff.1 a3).1;have a2:=hcs.each el (aX he);have hf:=flat_get hcs.each he (o%sz) (by omega);rw [a3] at hf;obtain⟨u',hu',hR,_⟩:=hcs.val _ _ hf;have hi:Nat.div o sz*sz+o%sz=o:=by
     have:=kD o sz;rw [bG] at this;exact this
    rw [hi] at hu';exact⟨u',by rw [sW hcs.at_,hu'],hR⟩
noncomputable def uK (h:H) (b:Id):Nat→Nat→Option (List Int)
 |0,_=>some []
 |n+1,o=>match rd1 h b o with
  |some (.i .i64 z)=>(match uK h b n (Nat.succ o) with|some l=>some (z::l)|none=>none)
  |_=>none
theorem CN {h:H} (k:HR m h w) {b:Id} {l:Loc} (hl:m b=some l):∀(n o:Nat) (zs:List Int),uK h b n o=some zs→zs.length=n∧∀j,j<n→w.cell? ⟨l.blk,l.base+(o+j),none⟩=some (.int .i64 (zs[j]?.getD 0))
 |0,o,zs,hz=>by cases hz;exact⟨rfl,fun j hj=>absurd hj (by omega)⟩
 | n+1,o,zs,hz=>by
  unfold uK at hz;split at hz
  ·rename_i z a7;split at hz
   ·rename_i b0 a8;cases hz;obtain⟨h1,h2⟩:=CN k hl n _ _ a8;obtain⟨u,hu,hR⟩:=JU k hl a7;simp only [R] at hR;subst hR;refine⟨by simp [h1],fun j hj=>?_⟩;cases j with
    |zero=>simpa using hu
    |succ j=>have:=h2 j (by omega);rw [show o+(j+1)=Nat.succ o+j by omega];simpa using this
   ·cases hz
  ·cases hz
def oS:List Int→List (List V)
 | []=>[]
 |z::l=>[.i .i64 z]::oS l
theorem DB:∀(zs:List Int),(oS zs).flatten=zs.map (V.i .i64)
 | []=>rfl
 |z::l=>by simp [oS,DB l]
theorem KU:∀(zs:List Int),∀el∈oS zs,el.length=1
 | [],el,h=>by simp [oS] at h
 |z::l,el,h=>by
  simp only [oS,cD] at h;rcases h with rfl|h
  ·rfl
  ·exact KU l el h
noncomputable def seqG (fv el:Nat):FOp:=⟨fun _ args h=>match args with
 | [.sn,.fn (.func g) [] [.p b o]]=>bif Nat.beq g fv then(match rd1 h b o with
   |some (.sl b2 o2 len _)=>bif Nat.ble len 1000000 then(match uK h b2 len o2 with
    |some []=>.ok .sn h
    |some (z::zs)=>lN el h 1 (oS (z::zs)) (fun i=>.sl i 0 len 1)
    |none=>.bad) else .bad
   |_=>.bad) else .bad
 |_=>.bad⟩
def SeqDoes (P:Program) (f fv el:Nat):Prop:=
 (∀args w,(callFunc f args).run P w= .ok (.enter f args) w)∧
 ∀(w:World) (Bs oB b off cap:Nat) (zs:List Int),zs.length≤1000000→Bs<w.heap.size→b<w.heap.size→w.cell? ⟨Bs,oB,none⟩=some (.slice (some ⟨b,off,none⟩) zs.length cap)→
  (∀j,j<zs.length→w.cell? ⟨b,off+j,none⟩=some (.int .i64 (zs[j]?.getD 0)))→
  Calls P f #[.slice none 0 0,.func (.func fv) #[] #[.pointer (some ⟨Bs,oB,none⟩)]] w fun e w'=>∃v:Value,e= .returned v∧w'.ownsRow w.heap.size el 1 v zs.length (zs.map (Value.int .i64))∧(v= .slice none 0 0↔zs= [])∧RowKit.Below w.heap.size w w'
theorem UY {f fv el:Nat} (hD:SeqDoes P f fv el) {call:bP} {vs:List V} {us:List Value} {h h':H} {v:V} (hr:HR m h w) (hR:Rl m vs us) (hv:(seqG fv el).run call vs h= .ok v h'):cJ P ((callFunc f ⟨us⟩).run P w) m h w v h':=by
 simp only [seqG] at hv;split at hv
 ·rename_i g b o;have hg:g=fv:=by
   cases e:Nat.beq g fv with
   |false=>rw [e] at hv;cases hv
   |true=>exact aV e
  subst hg;rw [show Nat.beq g g=true from SB g] at hv;simp only [cN] at hv;simp only [Rl,R] at hR;obtain⟨u0,us0,rfl,rfl,u1,us1,rfl,⟨a',c',rfl,rfl,u2,us2,rfl,⟨l,hl,rfl⟩,rfl⟩,rfl⟩:=hR;split at hv
  ·rename_i b2 o2 len sz a6;cases hle:Nat.ble len 1000000 with
   |false=>rw [hle] at hv;cases hv
   | true=>
    rw [hle] at hv;simp only [cN] at hv;have a2:=cK hle;obtain⟨us,hus,hRs⟩:=JU hr hl a6;simp only [R] at hRs;obtain⟨l2,cap,hl2,rfl,hcap,hlim⟩:=hRs;obtain⟨a5,hcalls⟩:=hD;have a4:∀zs,uK h b2 len o2=some zs→(∀(w':World) (v':Value),w'.ownsRow w.heap.size el 1 v' zs.length (zs.map (Value.int .i64))→(v'= .slice none 0 0↔zs= [])→RowKit.Below w.heap.size w w'→∃m',Fr m h w m' h' w'∧R m' v v')→cJ P ((callFunc f ⟨[.slice none 0 0,.func (.func g) ⟨[]⟩ ⟨[.pointer (some ⟨l.blk,l.base+o,none⟩)]⟩]⟩).run P w) m h w v h':=by
     intro zs hz a1;obtain⟨h1,h2⟩:=CN hr hl2 len o2 zs hz;refine .inr ⟨f,_,a5 _ w,(hcalls w l.blk (l.base+o) l2.blk (l2.base+o2) cap zs (by omega) (hr.lt _ _ hl) (hr.lt _ _ hl2) (by rw [h1];exact hus) (fun j hj=>by rw [kE];exact h2 j (by omega))).mono ?_⟩;rintro e w' ⟨v',rfl,h3,h4,h5⟩;obtain⟨m',hF,hRv⟩:=a1 w' v' h3 h4 h5;exact⟨v',m',rfl,hF,hRv⟩
    split at hv
    ·rename_i hz;cases hv;refine a4 _ hz ?_;intro w' v' h3 h4 h5;exact⟨m,Fr.later hr h5.size h5.block h5.os h5.tape h5.output,by simp only [R];exact h4.2 rfl⟩
    ·rename_i z zs hz;refine a4 _ hz ?_;intro w' v' h3 h4 h5;obtain⟨nx,hnx,rfl,rfl⟩:=yL hv;obtain⟨h1,_⟩:=CN hr hl2 len o2 _ hz;rcases h3.2 with⟨e,_⟩|⟨g',cap',cur,rfl,hge,hg',hle',hmax,hsz,htake⟩
     ·cases h4.1 e
     ·refine⟨_,Fr.newIn hr hnx (.cells 1 (oS (z::zs)) h.next (.rw el)) ⟨g',0,cur.size⟩ hge ?_ h5.block h5.os h5.tape h5.output (fun _ _ _ _ e=>by cases e;rfl) (by simp [iI]) ?_,?_⟩
      ·exact(Array.getElem?_eq_some_iff.1 hg').1
      ·intro m' hm;refine⟨cur,el,(0,0),⟨hg',by simp,?_,KU _,?_,?_,fun _ _=>rfl,fun ty e=>by cases e;rfl,AX _⟩⟩
       ·rw [DB,oG];show(z::zs).length≤cur.size;omega
       ·intro i v hv;rw [DB] at hv;have hi:i<(z::zs).length:=by have:=(List.getElem?_eq_some_iff.1 hv).1;simpa using this
        have hc:cur.toList[i]?=((z::zs).map (Value.int .i64))[i]?:=by
         rw [←htake,gC (by omega)]
        rw [jK] at hv hc;rw [aL hi] at hv hc;cases hv;refine⟨_,by show cur[0+i]?=_;rw [cG,←gQ];exact hc,by simp [R],by simp [cZ]⟩
       ·intro _ i _;show¬(0≤_∧_<0);omega
      ·simp only [R];exact⟨⟨g',0,cur.size⟩,cap',by simp,by simp;omega,by omega,by show 0+cap'*1≤cur.size;omega⟩
    ·cases hv
  ·cases hv
 ·cases hv
end Go.Ev
