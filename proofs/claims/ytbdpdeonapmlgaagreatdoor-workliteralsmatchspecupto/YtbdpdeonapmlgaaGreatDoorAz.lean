/- Lemmas for the text Card; no condition. -/
import Derived.Test.YtbdpdeonapmlgaaGreatDoorAy
import Derived.Calls
import Derived.Orders
import Derived.LoopN
import Derived.Below
import Derived.Laws.Tables
import Derived.Laws.Cells
set_option linter.all false
namespace Go.Ev
variable {v r z:V} {t:TypeId} {w w':World} {n c:Nat} {h hh:H} {l:List V} {us:List Value} {d:TypeDesc} {b:Bool} {P:Program} {s:ByteArray} {a:Act} {e:Env} {u:Value}
instance:DecidableEq D8:=fun a b=>by
 cases a<;>cases b<;>first|exact .isTrue rfl|exact .isFalse (fun h=>by cases h)
theorem sm8 {α:Type} (d:D8) (k) (n:N8 α):fW d (iL d k n)=k (fW d n):=by cases d<;>cases n<;>rfl
theorem sn8 {α:Type} {d d':D8} (h:d≠d') (k) (n:N8 α):fW d (iL d' k n)=fW d n:=by cases d<;>cases d'<;>cases n<;>first|rfl|exact absurd rfl h
theorem EW:∀x,x<8→∀y,y<8→dg x=dg y→x=y:=by decide
theorem sR (t:Nat) (v:V) (e:Env):bN t (gU t v e)=v:=by
 simp [bN,gU,sm8]
theorem pG {t t':Nat} (ht:t<512) (a0:t'<512) (h:t≠t') (v:V) (e:Env):bN t (gU t' v e)=bN t e:=by
 unfold bN gU
 by_cases h1:dg (t/64)=dg (t'/64)
 ·rw [h1,sm8]
  by_cases h2:dg (t/8%8)=dg (t'/8%8)
  ·rw [h2,sm8];have h3:dg (t%8)≠dg (t'%8):=fun h3=>h (by
    have a:=EW _ (by omega) _ (by omega) h1;have b:=EW _ (by omega) _ (by omega) h2;have c:=EW _ (by omega) _ (by omega) h3;omega)
   rw [sn8 h3]
  ·rw [sn8 h2]
 ·rw [sn8 h1]
theorem fR (i:Id) (x:Option O) (m:Mem):aB i (dC i x m)=x:=by
 cases i;simp [aB,dC,sm8]
theorem eM {i j:Id} (h:i≠j) (x:Option O) (m:Mem):aB i (dC j x m)=aB i m:=by
 obtain⟨a,b,c,d,e⟩:=i;obtain⟨a',b',c',d',e'⟩:=j;simp only [aB,dC]
 by_cases ha:a=a'
 ·subst ha;rw [sm8]
  by_cases hb:b=b'
  ·subst hb;rw [sm8]
   by_cases hc:c=c'
   ·subst hc;rw [sm8]
    by_cases hd:d=d'
    ·subst hd;rw [sm8]
     by_cases he:e=e'
     ·subst he;exact absurd rfl h
     ·rw [sn8 he]
    ·rw [sn8 hd]
   ·rw [sn8 hc]
  ·rw [sn8 hb]
 ·rw [sn8 ha]
theorem nU (i:Id) (x:List Id) (m:Fam):aQ i (fY i x m)=x:=by
 cases i;simp [aQ,fY,sm8]
theorem iO {i j:Id} (h:i≠j) (x:List Id) (m:Fam):aQ i (fY j x m)=aQ i m:=by
 obtain⟨a,b,c,d,e⟩:=i;obtain⟨a',b',c',d',e'⟩:=j;simp only [aQ,fY]
 by_cases ha:a=a'
 ·subst ha;rw [sm8]
  by_cases hb:b=b'
  ·subst hb;rw [sm8]
   by_cases hc:c=c'
   ·subst hc;rw [sm8]
    by_cases hd:d=d'
    ·subst hd;rw [sm8]
     by_cases he:e=e'
     ·subst he;exact absurd rfl h
     ·rw [sn8 he]
    ·rw [sn8 hd]
   ·rw [sn8 hc]
  ·rw [sn8 hb]
 ·rw [sn8 ha]
theorem D8.toNat_lt (d:D8):d.toNat<8:=by cases d<;>decide
theorem D8.toNat_inj {a b:D8} (h:a.toNat=b.toNat):a=b:=by cases a<;>cases b<;>first|rfl|(simp [D8.toNat] at h)
theorem D8.beq_iff {a b:D8}:D8.beq a b=true↔a=b:=by
 constructor
 ·intro h;exact D8.toNat_inj (aV h)
 ·rintro rfl;exact SB _
theorem Id.beq_iff {i j:Id}:Id.beq i j=true↔i=j:=by
 obtain⟨a,b,c,d,e⟩:=i;obtain⟨a',b',c',d',e'⟩:=j;simp only [Id.beq,aM,D8.beq_iff,Id.mk.injEq];constructor
 ·rintro⟨h1,h2,h3,h4,h5⟩;exact⟨h5,h4,h3,h2,h1⟩
 ·rintro⟨h1,h2,h3,h4,h5⟩;exact⟨h5,h4,h3,h2,h1⟩
theorem Id.toNat_inj {i j:Id} (h:i.toNat=j.toNat):i=j:=by
 obtain⟨a,b,c,d,e⟩:=i;obtain⟨a',b',c',d',e'⟩:=j;simp only [Id.toNat] at h;have:=a.toNat_lt;have:=b.toNat_lt;have:=c.toNat_lt;have:=d.toNat_lt;have:=e.toNat_lt;have:=a'.toNat_lt;have:=b'.toNat_lt;have:=c'.toNat_lt;have:=d'.toNat_lt;have:=e'.toNat_lt;have e1:e.toNat=e'.toNat:=by omega
 have e2:d.toNat=d'.toNat:=by omega
 have e3:c.toNat=c'.toNat:=by omega
 have e4:b.toNat=b'.toNat:=by omega
 have e5:a.toNat=a'.toNat:=by omega
 rw [D8.toNat_inj e1,D8.toNat_inj e2,D8.toNat_inj e3,D8.toNat_inj e4,D8.toNat_inj e5]
theorem D8.nextd_false {d d':D8} (h:d.nextd=(false,d')):d'.toNat=d.toNat+1:=by cases d<;>simp [D8.nextd] at h<;>subst h<;>rfl
theorem D8.nextd_true {d d':D8} (h:d.nextd=(true,d')):d.toNat=7∧d'.toNat=0:=by cases d<;>simp [D8.nextd] at h;subst h;exact⟨rfl,rfl⟩
theorem Id.succ_toNat {i j:Id} (h:i.succ=some j):j.toNat=i.toNat+1:=by
 obtain⟨a,b,c,d,e⟩:=i;simp only [Id.succ] at h
 repeat' split at h
 all_goals first
  |(cases h;done)
  |skip
 all_goals
  obtain rfl:=aJ h;simp only [Id.toNat]
 ·have:=D8.nextd_false (by assumption);omega
 ·have h1:=D8.nextd_true (d:=e) (by assumption);have:=D8.nextd_false (d:=d) (by assumption);omega
 ·have h1:=D8.nextd_true (d:=e) (by assumption);have h2:=D8.nextd_true (d:=d) (by assumption);have:=D8.nextd_false (d:=c) (by assumption);omega
 ·have h1:=D8.nextd_true (d:=e) (by assumption);have h2:=D8.nextd_true (d:=d) (by assumption);have h3:=D8.nextd_true (d:=c) (by assumption);have:=D8.nextd_false (d:=b) (by assumption);omega
 ·have h1:=D8.nextd_true (d:=e) (by assumption);have h2:=D8.nextd_true (d:=d) (by assumption);have h3:=D8.nextd_true (d:=c) (by assumption);have h4:=D8.nextd_true (d:=b) (by assumption);have:=D8.nextd_false (d:=a) (by assumption);omega
structure Loc where
 blk:Nat
 base:Nat
 lim:Nat
abbrev Mp:=Id→Option Loc
def Mp.le (m m':Mp):Prop:=∀i l,m i=some l→m' i=some l
theorem Mp.le_refl (m:Mp):m.le m:=fun _ _ h=>h
theorem Mp.le_trans {a b c:Mp} (h:a.le b) (k:b.le c):a.le c:=fun i l x=>k i l (h i l x)
def cZ:Value→Prop
 | .agg _=>False
 | .tuple _=>False
 |_=>True
mutual
def R (m:Mp):V→Value→Prop
 | .top,_=>True
 | .b x,u=>u= .bool x
 | .i k n,u=>u= .int k n
 | .s len code,u=>∃s:ByteArray,u= .string s∧s.data.toList.map UInt8.toNat=cW len code∧code<256^len
 | .pn,u=>u= .pointer none
 | .p b o,u=>∃l,m b=some l∧u= .pointer (some ⟨l.blk,l.base+o,none⟩)
 | .sn,u=>u= .slice none 0 0
 | .sl b o len sz,u=>∃l cap,m b=some l∧u= .slice (some ⟨l.blk,l.base+o,none⟩) len cap∧len≤cap∧o+cap*sz≤l.lim
 | .se,u=>∃a cap,u= .slice (some a) 0 cap
 | .mn,u=>u= .map none
 | .mp b,u=>∃l,m b=some l∧u= .map (some l.blk)
 | .fn f a c,u=>∃a' c',u= .func f ⟨a'⟩ ⟨c'⟩∧Rl m a a'∧Rl m c c'
 | .nf,u=>u= .nilFunc
 | .ni,u=>u= .nilIface
 | .agg l,u=>∃l',u= .agg ⟨l'⟩∧Rl m l l'∧∀x∈l',cZ x
 | .tup l,u=>∃l',u= .tuple ⟨l'⟩∧Rl m l l'
def Rl (m:Mp):List V→List Value→Prop
 | [],l=>l= []
 |v::vs,l=>∃u us,l=u::us∧R m v u∧Rl m vs us
end
mutual
theorem R.mono {m m':Mp} (h:m.le m'):∀{v:V} {u:Value},R m v u→R m' v u
 | .top,_,_=>by simp [R]
 | .b x,_,k=>by simpa [R] using k
 | .i _ _,_,k=>by simpa [R] using k
 | .s _ _,_,k=>by simpa [R] using k
 | .pn,_,k=>by simpa [R] using k
 | .p b o,_,k=>by
  simp only [R] at k ⊢;obtain⟨l,hl,hu⟩:=k;exact⟨l,h _ _ hl,hu⟩
 | .sn,_,k=>by simpa [R] using k
 | .sl b o len sz,_,k=>by
  simp only [R] at k ⊢;obtain⟨l,cap,hl,hu⟩:=k;exact⟨l,cap,h _ _ hl,hu⟩
 | .se,_,k=>by simpa [R] using k
 | .mn,_,k=>by simpa [R] using k
 | .mp b,_,k=>by
  simp only [R] at k ⊢;obtain⟨l,hl,hu⟩:=k;exact⟨l,h _ _ hl,hu⟩
 | .fn f a c,_,k=>by
  simp only [R] at k ⊢;obtain⟨a',c',hu,ha,hc⟩:=k;exact⟨a',c',hu,Rl.mono h ha,Rl.mono h hc⟩
 | .nf,_,k=>by simpa [R] using k
 | .ni,_,k=>by simpa [R] using k
 | .agg l,_,k=>by
  simp only [R] at k ⊢;obtain⟨l',hu,hl,hs⟩:=k;exact⟨l',hu,Rl.mono h hl,hs⟩
 | .tup l,_,k=>by
  simp only [R] at k ⊢;obtain⟨l',hu,hl⟩:=k;exact⟨l',hu,Rl.mono h hl⟩
theorem Rl.mono {m m':Mp} (h:m.le m'):∀{l:List V} {us:List Value},Rl m l us→Rl m' l us
 | [],_,k=>by simpa [Rl] using k
 |v::l,_,k=>by
  simp only [Rl] at k ⊢;obtain⟨u,us,rfl,hv,hl⟩:=k;exact⟨u,us,rfl,R.mono h hv,Rl.mono h hl⟩
end
theorem Rl.length {m:Mp}:∀{l:List V} {us:List Value},Rl m l us→us.length=l.length
 | [],_,k=>by simp only [Rl] at k;subst k;rfl
 |v::l,_,k=>by simp only [Rl] at k;obtain⟨u,us,rfl,_,hl⟩:=k;simp [Rl.length hl]
theorem Rl.get {m:Mp}:∀{l:List V} {us:List Value},Rl m l us→∀{i:Nat} {v:V},l[i]?=some v→∃u,us[i]?=some u∧R m v u
 | [],_,_,i,v,h=>by simp at h
 |w::l,_,k,i,v,h=>by
  simp only [Rl] at k;obtain⟨u,us,rfl,hv,hl⟩:=k;cases i with
  |zero=>simp at h;subst h;exact⟨u,rfl,hv⟩
  |succ i=>simp at h ⊢;exact Rl.get hl h
theorem Rl.mk {m:Mp}:∀{l:List V} {us:List Value},us.length=l.length→(∀(i:Nat) v u,l[i]?=some v→us[i]?=some u→R m v u)→Rl m l us
 | [],us,hl,_=>by simp only [Rl];exact lB (by simpa using hl)
 |v::l,[],hl,_=>by simp at hl
 |v::l,u::us,hl,h=>by
  simp only [Rl];exact⟨u,us,rfl,h 0 v u rfl rfl,Rl.mk (by simpa using hl) (fun i v u a b=>h (i+1) v u (by simpa using a) (by simpa using b))⟩
theorem Rl.append {m:Mp}:∀{l l':List V} {us a1:List Value},Rl m l us→Rl m l' a1→Rl m (l++l') (us++a1)
 | [],_,_,_,k,k'=>by simp only [Rl] at k;subst k;simpa using k'
 |v::l,_,_,_,k,k'=>by
  simp only [Rl] at k;obtain⟨u,us,rfl,hv,hl⟩:=k;simp only [oJ,Rl];exact⟨u,_,rfl,hv,Rl.append hl k'⟩
theorem Rl.take {m:Mp} (h:Rl m l us) (n:Nat):Rl m (l.take n) (us.take n):=
 Rl.mk (by simp [h.length]) (fun i v u a b=>by
  rw [HC] at a b;split at a
  ·rename_i a2;rw [if_pos a2] at b;obtain⟨u',hu',hr⟩:=h.get a;rw [hu'] at b;cases b;exact hr
  ·cases a)
theorem Rl.drop {m:Mp} (h:Rl m l us) (n:Nat):Rl m (l.drop n) (us.drop n):=
 Rl.mk (by simp [h.length]) (fun i v u a b=>by
  rw [iR] at a b;obtain⟨u',hu',hr⟩:=h.get a;rw [hu'] at b;cases b;exact hr)
theorem vX {m:Mp} (h:R m v u) (hc:dE v=some l):
  ∃l',u.cells=⟨l'⟩∧Rl m l l'∧∀x∈l',cZ x:=by
 cases v<;>simp only [dE,cB,reduceCtorEq] at hc
 case agg l0=>
  subst hc;simp only [R] at h;obtain⟨l',rfl,hl,hs⟩:=h;exact⟨l',rfl,hl,hs⟩
 all_goals
  subst hc;have a0:cZ u:=by
   simp only [R] at h
   first
    |(subst h;trivial)
    |(obtain⟨_,rfl,_⟩:=h;trivial)
    |(obtain⟨_,_,rfl⟩:=h;trivial)
    |(obtain⟨_,_,_,rfl,_⟩:=h;trivial)
    |(obtain⟨_,_,rfl,_⟩:=h;trivial)
  have hu:u.cells=⟨[u]⟩:=by cases u<;>first|rfl|exact a0.elim
  exact⟨[u],hu,by simp only [Rl];exact⟨u,[],rfl,h,rfl⟩,by simpa using a0⟩
variable {m m':Mp}
instance:DecidableEq Id:=fun i j=>if h:Id.beq i j=true then .isTrue (Id.beq_iff.1 h) else .isFalse (fun e=>h (Id.beq_iff.2 e))
def dQ (s:ByteArray):List Nat:=s.data.toList.map UInt8.toNat
def EntR (m:Mp) (e:Ent) (x:MapEntry):Prop:=R m e.key x.key∧R m e.val x.val∧x.born=e.born
def bL (m:Mp):List Ent→List MapEntry→Prop
 | [],l=>l= []
 |e::es,l=>∃x xs,l=x::xs∧EntR m e x∧bL m es xs
theorem EntR.mono (h:m.le m') {e:Ent} {x:MapEntry} (k:EntR m e x):EntR m' e x:=⟨k.1.mono h,k.2.1.mono h,k.2.2⟩
theorem bL.mono {m m':Mp} (h:m.le m'):∀{es:List Ent} {xs:List MapEntry},bL m es xs→bL m' es xs
 | [],_,k=>k
 |e::es,_,k=>by obtain⟨x,xs,rfl,hx,hxs⟩:=k;exact⟨x,xs,rfl,hx.mono h,bL.mono h hxs⟩
structure CellsAt (m:Mp) (w:World) (l:Loc) (sz:Nat) (els:List (List V)) (ro:Rw) (C:Array Value) (t:TypeId) (fz:Nat × Nat):Prop where
 at_:w.heap[l.blk]?=some (.cells C t fz)
 room:l.base+l.lim≤C.size
 len:els.flatten.length≤l.lim
 each:∀el∈els,el.length=sz
 val:∀(i:Nat) v,els.flatten[i]?=some v→∃u,C[l.base+i]?=some u∧R m v u∧cZ u
 free:ro.isW=true→∀i,i<l.lim→¬(fz.1≤l.base+i∧l.base+i<fz.2)
 plain:ro.isW=true→sz≠1→fz.1=fz.2
 typ:∀ty,ro.tyOf=some ty→t=ty
 al:l.base%sz=0
def ObjAt (m:Mp) (w:World) (l:Loc):O→Prop
 | .cells sz els _ ro=>∃C t fz,CellsAt m w l sz els ro C t fz
 | .map es clock=>∃es',w.heap[l.blk]?=some (.map ⟨es'⟩ clock)∧bL m es es'
 | .miter mi since seen last=>l.base=0∧∃lm,m mi=some lm∧w.heap[l.blk]?=some (.mapIter (some lm.blk) since ⟨seen⟩ last)
def iI:O→Prop
 | .cells _ _ _ ro=>ro≠ .fz
 |_=>True
def uD:O→O→Prop
 | .cells _ _ f _,.cells _ _ f' _=>f=f'
 |_,_=>False
def EndLe (m:Mp) (mem:Mem) (x y:Id):Prop:=
 ∀sz els f ro b6 els' f' ro' l l',aB x mem=some (.cells sz els f ro)→aB y mem=some (.cells b6 els' f' ro')→m x=some l→m y=some l'→
  l.blk=l'.blk→l'.base+els'.flatten.length≤l.base+els.flatten.length
structure HR (m:Mp) (h:H) (w:World):Prop where
 obj:∀b ob,aB b h.mem=some ob→∃l,m b=some l∧ObjAt m w l ob
 dom:∀b l,m b=some l→b.toNat<h.next.toNat
 sep:∀b b' ob a2 l l',aB b h.mem=some ob→aB b' h.mem=some a2→m b=some l→m b'=some l'→b≠b'→l.blk=l'.blk→uD ob a2
 fam:∀b b' sz els f ro b6 els' ro',aB b h.mem=some (.cells sz els f ro)→aB b' h.mem=some (.cells b6 els' f ro')→b≠b'→b∈aQ f h.fams
 ord:∀f,(aQ f h.fams).Pairwise (EndLe m h.mem)
 lt:∀b l,m b=some l→l.blk<w.heap.size
 famlt:∀b sz els f ro,aB b h.mem=some (.cells sz els f ro)→f.toNat<h.next.toNat
 flt:∀f x,x∈aQ f h.fams→x.toNat<h.next.toNat
def Wb (m:Mp) (h:H) (B:Nat):Prop:=∃b ob l,aB b h.mem=some ob∧m b=some l∧l.blk=B∧iI ob
structure Fr (m:Mp) (h:H) (w:World) (m':Mp) (h':H) (w':World):Prop where
 le:m.le m'
 hr:HR m' h' w'
 size:w.heap.size≤w'.heap.size
 keep:∀B,B<w.heap.size→¬Wb m h B→w'.heap[B]?=w.heap[B]?
 os:w'.os=w.os
 tape:w'.tape=w.tape
 output:w'.output=w.output
 back:∀b ob l,aB b h'.mem=some ob→m' b=some l→
  w.heap.size≤l.blk∨∃b0 c0 l0,aB b0 h.mem=some c0∧m b0=some l0∧l0.blk=l.blk∧(iI ob→iI c0)
 old:∀b l,m' b=some l→b.toNat<h.next.toNat→m b=some l
 nxt:h.next.toNat≤h'.next.toNat
 famold:∀b sz els f ro,aB b h'.mem=some (.cells sz els f ro)→h.next.toNat≤f.toNat∨∃b0 c8 b4 c6,aB b0 h.mem=some (.cells c8 b4 f c6)
theorem Fr.refl (k:HR m h w):Fr m h w m h w:=
 ⟨m.le_refl,k,aA _,fun _ _ _=>rfl,rfl,rfl,rfl,fun b ob l hb hl=>.inr ⟨b,ob,l,hb,hl,rfl,id⟩,fun _ _ h _=>h,aA _,fun b sz els f ro hb=>.inr ⟨b,sz,els,ro,hb⟩⟩
theorem Fr.trans {m1 m2:Mp} {h1 h2:H} {w1 w2:World} (a:Fr m h w m1 h1 w1) (b:Fr m1 h1 w1 m2 h2 w2):Fr m h w m2 h2 w2 where
 le:=Mp.le_trans a.le b.le
 hr:=b.hr
 size:=aE a.size b.size
 keep:=fun B hB hn=>(b.keep B (aZ hB a.size) (by
  rintro⟨x,ob,l,hx,hl,rfl,hw⟩;rcases a.back x ob l hx hl with h'|⟨b0,c0,l0,h0,hl0,he,hw0⟩
  ·omega
  ·exact hn ⟨b0,c0,l0,h0,hl0,he,hw0 hw⟩)).trans (a.keep B hB hn)
 os:=b.os.trans a.os
 tape:=b.tape.trans a.tape
 output:=b.output.trans a.output
 back:=fun x ob l hx hl=>by
  rcases b.back x ob l hx hl with h'|⟨b0,c0,l0,h0,hl0,he,hw0⟩
  ·exact .inl (aE a.size h')
  ·rcases a.back b0 c0 l0 h0 hl0 with h'|⟨b1,c5,l1,h1,a3,he1,hw1⟩
   ·exact .inl (he▸h')
   ·exact .inr ⟨b1,c5,l1,h1,a3,he1.trans he,fun x=>hw1 (hw0 x)⟩
 old:=fun x l hx c1=>a.old x l (b.old x l hx (aZ c1 a.nxt)) c1
 nxt:=aE a.nxt b.nxt
 famold:=fun x sz els f ro hx=>by
  rcases b.famold x sz els f ro hx with h'|⟨b0,c8,b4,c6,h0⟩
  ·exact .inl (aE a.nxt h')
  ·exact a.famold _ _ _ _ _ h0
theorem HR.drawn (k:HR m h w) (n:Nat):HR m h { w with drawn:=n }:=
 ⟨fun b ob hb=>by
  obtain⟨l,hl,ho⟩:=k.obj b ob hb;refine⟨l,hl,?_⟩;cases ob with
  |cells sz els f ro=>obtain⟨C,t,fz,hc⟩:=ho;exact⟨C,t,fz,⟨hc.at_,hc.room,hc.len,hc.each,hc.val,hc.free,hc.plain,hc.typ,hc.al⟩⟩
  |map es clock=>exact ho
  |miter mi since seen last=>exact ho,k.dom,k.sep,k.fam,k.ord,k.lt,k.famlt,k.flt⟩
theorem Fr.drawn (k:HR m h w) (n:Nat):Fr m h w m h { w with drawn:=n }:=
 ⟨m.le_refl,k.drawn n,aA _,fun _ _ _=>rfl,rfl,rfl,rfl,fun b ob l hb hl=>.inr ⟨b,ob,l,hb,hl,rfl,id⟩,fun _ _ h _=>h,aA _,fun b sz els f ro hb=>.inr ⟨b,sz,els,ro,hb⟩⟩
theorem ObjAt.keep {l:Loc} {ob:O} (h:ObjAt m w l ob) (hm:m.le m') (hb:w'.heap[l.blk]?=w.heap[l.blk]?):ObjAt m' w' l ob:=by
 cases ob with
 |cells sz els f ro=>
  obtain⟨C,t,fz,hc⟩:=h;exact⟨C,t,fz,⟨hb.trans hc.at_,hc.room,hc.len,hc.each,fun i v hv=>by obtain⟨u,h1,h2,h3⟩:=hc.val i v hv;exact⟨u,h1,h2.mono hm,h3⟩,hc.free,hc.plain,hc.typ,hc.al⟩⟩
 |map es clock=>obtain⟨es',h1,h2⟩:=h;exact⟨es',hb.trans h1,h2.mono hm⟩
 |miter mi since seen last=>obtain⟨h0,lm,h1,h2⟩:=h;exact⟨h0,lm,hm _ _ h1,hb.trans h2⟩
theorem zN (o:Obj) {B:Nat} (h:B<w.heap.size):(w.heap.push o)[B]?=w.heap[B]?:=by
 simp [iB,RP h]
theorem Fr.new (k:HR m h w) {nx:Id} (hn:h.next.succ=some nx) (o:Obj) (ob:O) (l:Loc) (hl:l.blk=w.heap.size)
  (hf:∀sz els f ro,ob= .cells sz els f ro→f=h.next) (hw:iI ob)
  (b8:∀m':Mp,m.le m'→∀w':World,w'.heap[w.heap.size]?=some o→ObjAt m' w' l ob):
  Fr m h w (fun b=>if b=h.next then some l else m b) ⟨dC h.next (some ob) h.mem,h.fams,nx⟩ { w with heap:=w.heap.push o }:=by
 have e0:m h.next=none:=by
  cases e:m h.next with
  |none=>rfl
  |some l'=>exact absurd (k.dom _ _ e) (pP _)
 have d2:m.le (fun b=>if b=h.next then some l else m b):=by
  intro b l' hb;have:b≠h.next:=fun e=>by rw [e,e0] at hb;cases hb
  simp [this,hb]
 have a0:∀b a2,aB b (dC h.next (some ob) h.mem)=some a2→(b=h.next∧a2=ob)∨(b≠h.next∧aB b h.mem=some a2):=by
  intro b a2 hb
  by_cases e:b=h.next
  ·subst e;rw [fR] at hb;exact .inl ⟨rfl,(aJ hb).symm⟩
  ·rw [eM e] at hb;exact .inr ⟨e,hb⟩
 have e4:=Id.succ_toNat hn;refine⟨d2,⟨?_,?_,?_,?_,?_,?_,?_,fun f x hx=>by have:=k.flt f x hx;show x.toNat<nx.toNat;omega⟩,by simp,?_,rfl,rfl,rfl,?_,?_,by show h.next.toNat≤nx.toNat;omega,fun b sz els f ro hb=>by
  rcases a0 b _ hb with⟨rfl,e⟩|⟨_,hb1⟩
  ·exact .inl (by rw [hf _ _ _ _ e.symm];exact aA _)
  ·exact .inr ⟨b,sz,els,ro,hb1⟩⟩
 ·intro b a2 hb;rcases a0 b a2 hb with⟨rfl,rfl⟩|⟨a1,hb⟩
  ·exact⟨l,by simp,b8 _ d2 _ (by simp)⟩
  ·obtain⟨l',b7,ho⟩:=k.obj b a2 hb;exact⟨l',by simp [a1,b7],ho.keep d2 (zN o (k.lt _ _ b7))⟩
 ·intro b l' hb;show b.toNat<nx.toNat
  by_cases e:b=h.next
  ·subst e;omega
  ·simp [e] at hb;have:=k.dom _ _ hb;omega
 ·intro b b' c5 d6 l1 l2 hb c9 a3 a4 a1 a6;rcases a0 b c5 hb with⟨rfl,rfl⟩|⟨hn1,hb1⟩<;>rcases a0 b' d6 c9 with⟨rfl,rfl⟩|⟨hn2,hb2⟩
  ·exact absurd rfl a1
  ·simp at a3;simp [hn2] at a4;have:=k.lt _ _ a4;subst a3;omega
  ·simp at a4;simp [hn1] at a3;have:=k.lt _ _ a3;subst a4;omega
  ·simp [hn1] at a3;simp [hn2] at a4;exact k.sep b b' c5 d6 l1 l2 hb1 hb2 a3 a4 a1 a6
 ·intro b b' sz els f ro b6 els' ro' hb c9 a1;rcases a0 b _ hb with⟨rfl,e1⟩|⟨hn1,hb1⟩<;>rcases a0 b' _ c9 with⟨rfl,e2⟩|⟨hn2,hb2⟩
  ·exact absurd rfl a1
  ·have:=hf _ _ _ _ e1.symm;have:=k.famlt _ _ _ _ _ hb2;subst f;omega
  ·have:=hf _ _ _ _ e2.symm;have:=k.famlt _ _ _ _ _ hb1;subst f;omega
  ·exact k.fam b b' _ _ _ _ _ _ _ hb1 hb2 a1
 ·intro f;refine(k.ord f).imp ?_;intro x y d4 sz els f1 ro b6 els' f2 ro' l1 l2 hx hy a3 a4 a6;rcases a0 x _ hx with⟨rfl,e1⟩|⟨hn1,hb1⟩<;>rcases a0 y _ hy with⟨rfl,e2⟩|⟨hn2,hb2⟩
  ·rw [a3] at a4;cases a4;rw [←e1] at e2;cases e2;exact aA _
  ·simp at a3;simp [hn2] at a4;have:=k.lt _ _ a4;subst a3;omega
  ·simp at a4;simp [hn1] at a3;have:=k.lt _ _ a3;subst a4;omega
  ·simp [hn1] at a3;simp [hn2] at a4;exact d4 _ _ _ _ _ _ _ _ _ _ hb1 hb2 a3 a4 a6
 ·intro b l' hb
  by_cases e:b=h.next
  ·subst e;simp at hb;subst hb;simp [hl]
  ·simp [e] at hb;have:=k.lt _ _ hb;simp;omega
 ·intro b sz els f ro hb;show f.toNat<nx.toNat;rcases a0 b _ hb with⟨rfl,e1⟩|⟨hn1,hb1⟩
  ·have:=hf _ _ _ _ e1.symm;subst this;omega
  ·have:=k.famlt _ _ _ _ _ hb1;omega
 ·intro B hB _;exact zN o hB
 ·intro b a2 l' hb b7;rcases a0 b a2 hb with⟨rfl,rfl⟩|⟨a1,hb⟩
  ·simp at b7;subst b7;exact .inl (by omega)
  ·simp [a1] at b7;exact .inr ⟨b,a2,l',hb,b7,rfl,id⟩
 ·intro b l' hb c1;have:b≠h.next:=fun e=>by subst e;omega
  simpa [this] using hb
theorem Fr.upd (k:HR m h w) {b:Id} {ob a2:O} {l:Loc} {mem':Mem} {a8:Fam} {o':Obj}
  (hb:aB b h.mem=some ob) (hl:m b=some l) (hw:iI ob)
  (sub:∀x ox,aB x mem'=some ox→aB x h.mem=some ox)
  (b2:∀x ox lx,x≠b→aB x mem'=some ox→m x=some lx→lx.blk≠l.blk)
  (d0:∀x y sz els f ro b6 els' ro',aB x (dC b (some a2) mem')=some (.cells sz els f ro)→aB y (dC b (some a2) mem')=some (.cells b6 els' f ro')→x≠y→x∈aQ f a8)
  (d3:∀f,(aQ f a8).Pairwise (EndLe m h.mem))
  (d8:∀sz els f ro,a2= .cells sz els f ro→f.toNat<h.next.toNat)
  (d9:∀sz els f ro,a2= .cells sz els f ro→∃b0 c8 b4 c6,aB b0 h.mem=some (.cells c8 b4 f c6))
  (d1:∀f x,x∈aQ f a8→x.toNat<h.next.toNat)
  (b3:w'={ w with heap:=w.heap.setIfInBounds l.blk o' })
  (b8:w'.heap[l.blk]?=some o'→ObjAt m w' l a2):
  Fr m h w m ⟨dC b (some a2) mem',a8,h.next⟩ w':=by
 have c1:=k.lt _ _ hl;have d7:w'.heap[l.blk]?=some o':=by rw [b3];simp [c1]
 have c2:∀B,B≠l.blk→w'.heap[B]?=w.heap[B]?:=by
  intro B hB;rw [b3];simp [lG,eH hB]
 have a0:∀x ox,aB x (dC b (some a2) mem')=some ox→(x=b∧ox=a2)∨(x≠b∧aB x mem'=some ox):=by
  intro x ox hx
  by_cases e:x=b
  ·subst e;rw [fR] at hx;exact .inl ⟨rfl,(aJ hx).symm⟩
  ·rw [eM e] at hx;exact .inr ⟨e,hx⟩
 have e3:w'.heap.size=w.heap.size:=by rw [b3];simp
 refine⟨m.le_refl,⟨?_,k.dom,?_,d0,?_,?_,?_,d1⟩,by omega,?_,by rw [b3],by rw [b3],by rw [b3],?_,fun _ _ h _=>h,aA _,fun x sz els f ro hx=>by
  rcases a0 x _ hx with⟨rfl,e⟩|⟨_,a5⟩
  ·exact .inr (d9 _ _ _ _ e.symm)
  ·exact .inr ⟨x,sz,els,ro,sub _ _ a5⟩⟩
 ·intro x ox hx;rcases a0 x ox hx with⟨rfl,rfl⟩|⟨a1,hx⟩
  ·exact⟨l,hl,b8 d7⟩
  ·obtain⟨lx,a7,ho⟩:=k.obj x ox (sub _ _ hx);exact⟨lx,a7,ho.keep m.le_refl (c2 _ (b2 x ox lx a1 hx a7))⟩
 ·intro x y ox oy lx ly hx hy a7 c3 a1 a6;rcases a0 x ox hx with⟨rfl,rfl⟩|⟨hn1,a5⟩<;>rcases a0 y oy hy with⟨rfl,rfl⟩|⟨hn2,a9⟩
  ·exact absurd rfl a1
  ·rw [hl] at a7;cases a7;exact absurd a6.symm (b2 y oy ly hn2 a9 c3)
  ·rw [hl] at c3;cases c3;exact absurd a6 (b2 x ox lx hn1 a5 a7)
  ·exact k.sep x y ox oy lx ly (sub _ _ a5) (sub _ _ a9) a7 c3 a1 a6
 ·intro f;refine(d3 f).imp ?_;intro x y d4 sz els f1 ro b6 els' f2 ro' l1 l2 hx hy a3 a4 a6;rcases a0 x _ hx with⟨rfl,e1⟩|⟨hn1,a5⟩<;>rcases a0 y _ hy with⟨rfl,e2⟩|⟨hn2,a9⟩
  ·rw [a3] at a4;cases a4;rw [←e1] at e2;cases e2;exact aA _
  ·rw [hl] at a3;cases a3;exact absurd a6.symm (b2 y _ l2 hn2 a9 a4)
  ·rw [hl] at a4;cases a4;exact absurd a6 (b2 x _ l1 hn1 a5 a3)
  ·exact d4 _ _ _ _ _ _ _ _ _ _ (sub _ _ a5) (sub _ _ a9) a3 a4 a6
 ·intro x lx hx;rw [e3];exact k.lt _ _ hx
 ·intro x sz els f ro hx;show f.toNat<h.next.toNat;rcases a0 x _ hx with⟨rfl,e1⟩|⟨hn1,hx⟩
  ·exact d8 _ _ _ _ e1.symm
  ·exact k.famlt _ _ _ _ _ (sub _ _ hx)
 ·intro B hB hn;refine c2 B ?_;rintro rfl;exact hn ⟨b,ob,l,hb,hl,rfl,hw⟩
 ·intro x ox lx hx a7;rcases a0 x ox hx with⟨rfl,rfl⟩|⟨a1,hx⟩
  ·rw [hl] at a7;cases a7;exact .inr ⟨x,ob,l,hb,hl,rfl,fun _=>hw⟩
  ·exact .inr ⟨x,ox,lx,sub _ _ hx,a7,rfl,id⟩
theorem kR:∀(l:List Id) (m:Mem) (x:Id),aB x (gG l m)=if x∈l then none else aB x m
 | [],m,x=>by simp [gG]
 | b::l,m,x=>by
  rw [gG,kR l]
  by_cases h:x∈l
  ·simp [h]
  ·by_cases e:x=b
   ·subst e;simp [h,fR]
   ·simp [h,e,eM e]
theorem oQ (b:Id):∀(l:List Id) (x:Id),x∈jA b l↔x∈l∧x≠b
 | [],x=>by simp [jA]
 | y::l,x=>by
  rw [jA]
  by_cases e:Id.beq y b=true
  ·have e':=Id.beq_iff.1 e;subst e';simp only [e,cN,oQ y l x,cD];constructor
   ·rintro⟨h1,h2⟩;exact⟨.inr h1,h2⟩
   ·rintro⟨h1|h1,h2⟩
    ·exact absurd h1 h2
    ·exact⟨h1,h2⟩
  ·have e':y≠b:=fun h=>e (Id.beq_iff.2 h)
   have e2:Id.beq y b=false:=by simpa using e
   simp only [e2,jZ,cD,oQ b l x];constructor
   ·rintro(rfl|⟨h1,h2⟩)
    ·exact⟨.inl rfl,e'⟩
    ·exact⟨.inr h1,h2⟩
   ·rintro⟨h1|h1,h2⟩
    ·exact .inl h1
    ·exact .inr ⟨h1,h2⟩
theorem vD (h:H) (f b:Id):fX h f b=⟨gG (jA b (aQ f h.fams)) h.mem,if aQ f h.fams= [] then h.fams else fY f [] h.fams,h.next⟩:=by
 obtain⟨mem,fams,next⟩:=h;unfold fX;cases e:aQ f fams with
 |nil=>simp [e,jA,gG]
 |cons x l=>simp [e]
theorem pY (h:H) (b:Id) (ob:O):eD h b ob=⟨dC b (some ob) h.mem,h.fams,h.next⟩:=by cases h;rfl
theorem Fr.updCells (k:HR m h w) {b f:Id} {sz ty:Nat} {els els':List (List V)} {ro':Rw} {l:Loc} {o':Obj}
  (hb:aB b h.mem=some (.cells sz els f (.rw ty))) (hl:m b=some l)
  (b3:w'={ w with heap:=w.heap.setIfInBounds l.blk o' })
  (b8:w'.heap[l.blk]?=some o'→ObjAt m w' l (.cells sz els' f ro')):
  Fr m h w m (eD (fX h f b) b (.cells sz els' f ro')) w':=by
 rw [pY,vD];have hk:∀x ox,aB x (gG (jA b (aQ f h.fams)) h.mem)=some ox→aB x h.mem=some ox∧(x∈aQ f h.fams→x=b):=by
  intro x ox hx;rw [kR] at hx;split at hx
  ·cases hx
  ·rename_i hn;refine⟨hx,fun hm=>?_⟩
   by_cases e:x=b
   ·exact e
   ·exact absurd ((oQ b _ x).2 ⟨hm,e⟩) hn
 refine Fr.upd k hb hl (by simp [iI]) (fun x ox hx=>(hk x ox hx).1) ?_ ?_ ?_ ?_ (fun sz1 els1 f1 b9 e=>by cases e;exact⟨b,_,_,_,hb⟩) ?_ b3 b8
 ·intro x ox lx a1 hx a7 a6;obtain⟨a5,hm⟩:=hk x ox hx;have hs:=k.sep x b ox _ lx l a5 hb a7 hl a1 a6;cases ox with
  |cells sz1 els1 f1 b9=>
   have hf:f1=f:=hs;subst hf;exact a1 (hm (k.fam x b _ _ _ _ _ _ _ a5 hb a1))
  |_=>exact hs
 ·intro x y sz1 els1 f1 b9 sz2 els2 c7 hx hy a1;have b5:x=b∧f1=f∨x≠b∧aB x h.mem=some (.cells sz1 els1 f1 b9)∧(x∈aQ f h.fams→x=b):=by
   by_cases e:x=b
   ·subst e;rw [fR] at hx;cases hx;exact .inl ⟨rfl,rfl⟩
   ·rw [eM e] at hx;exact .inr ⟨e,hk x _ hx⟩
  have d5:y=b∧f1=f∨y≠b∧aB y h.mem=some (.cells sz2 els2 f1 c7)∧(y∈aQ f h.fams→y=b):=by
   by_cases e:y=b
   ·subst e;rw [fR] at hy;cases hy;exact .inl ⟨rfl,rfl⟩
   ·rw [eM e] at hy;exact .inr ⟨e,hk y _ hy⟩
  by_cases hf:f1=f
  ·subst hf;rcases b5 with⟨rfl,_⟩|⟨hn1,a5,hm1⟩
   ·rcases d5 with⟨rfl,_⟩|⟨hn2,a9,hm2⟩
    ·exact absurd rfl a1
    ·exact absurd (hm2 (k.fam y x _ _ _ _ _ _ _ a9 hb hn2)) hn2
   ·exact absurd (hm1 (k.fam x b _ _ _ _ _ _ _ a5 hb hn1)) hn1
  ·have a5:aB x h.mem=some (.cells sz1 els1 f1 b9):=by
    rcases b5 with⟨_,e⟩|⟨_,a5,_⟩
    ·exact absurd e hf
    ·exact a5
   have a9:aB y h.mem=some (.cells sz2 els2 f1 c7):=by
    rcases d5 with⟨_,e⟩|⟨_,a9,_⟩
    ·exact absurd e hf
    ·exact a9
   have:=k.fam x y _ _ _ _ _ _ _ a5 a9 a1;show x∈aQ f1 _;split
   ·exact this
   ·rw [iO hf];exact this
 ·intro f1;show(aQ f1 _).Pairwise _;split
  ·exact k.ord f1
  ·by_cases e:f1=f
   ·subst e;rw [nU];exact .nil
   ·rw [iO e];exact k.ord f1
 ·intro sz1 els1 f1 b9 e;cases e;exact k.famlt _ _ _ _ _ hb
 ·intro f1 x hx;have b5:x∈aQ f1 (if aQ f h.fams= [] then h.fams else fY f [] h.fams):=hx;split at b5
  ·exact k.flt f1 x b5
  ·by_cases e:f1=f
   ·subst e;rw [nU] at b5;cases b5
   ·rw [iO e] at b5;exact k.flt f1 x b5
theorem Fr.updObj (k:HR m h w) {b:Id} {ob a2:O} {l:Loc} {o':Obj}
  (hb:aB b h.mem=some ob) (hl:m b=some l) (hn:∀sz els f ro,ob≠ .cells sz els f ro) (c4:∀sz els f ro,a2≠ .cells sz els f ro)
  (b3:w'={ w with heap:=w.heap.setIfInBounds l.blk o' }) (b8:w'.heap[l.blk]?=some o'→ObjAt m w' l a2):
  Fr m h w m (eD h b a2) w':=by
 rw [pY];refine Fr.upd k hb hl ?_ (fun _ _ h=>h) ?_ ?_ k.ord (fun sz els f ro e=>absurd e (c4 _ _ _ _)) (fun sz els f ro e=>absurd e (c4 _ _ _ _)) k.flt b3 b8
 ·cases ob<;>first|trivial|exact absurd rfl (hn _ _ _ _)
 ·intro x ox lx a1 hx a7 a6;have hs:=k.sep x b ox _ lx l hx hb a7 hl a1 a6;cases ob with
  |cells sz els f ro=>exact hn _ _ _ _ rfl
  |_=>cases ox<;>exact hs
 ·intro x y sz1 els1 f1 b9 sz2 els2 c7 hx hy a1;have a5:aB x h.mem=some (.cells sz1 els1 f1 b9):=by
   by_cases e:x=b
   ·subst e;rw [fR] at hx;cases hx;exact absurd rfl (c4 _ _ _ _)
   ·rwa [eM e] at hx
  have a9:aB y h.mem=some (.cells sz2 els2 f1 c7):=by
   by_cases e:y=b
   ·subst e;rw [fR] at hy;cases hy;exact absurd rfl (c4 _ _ _ _)
   ·rwa [eM e] at hy
  exact k.fam x y _ _ _ _ _ _ _ a5 a9 a1
theorem GB {α:Type} {k} {d} {r:α} (h:qY v k d=r):(∃x0,v= .b x0∧k x0=r)∨((∀x0,v≠ .b x0)∧d=r):=by
 cases v<;>first|exact .inl ⟨_,rfl,h⟩|exact .inr ⟨by intros;simp,h⟩
theorem QR {α:Type} {k} {r:α} (h:qY v k none=some r):∃x0,v= .b x0∧k x0=some r:=by
 rcases GB h with h|⟨_,h⟩
 ·exact h
 ·cases h
theorem QQ {α:Type} {k} {d} {r:α} (h:fZ v k d=r):(∃x0 x1,v= .i x0 x1∧k x0 x1=r)∨((∀x0 x1,v≠ .i x0 x1)∧d=r):=by
 cases v<;>first|exact .inl ⟨_,_,rfl,h⟩|exact .inr ⟨by intros;simp,h⟩
theorem mS {α:Type} {k} {r:α} (h:fZ v k none=some r):∃x0 x1,v= .i x0 x1∧k x0 x1=some r:=by
 rcases QQ h with h|⟨_,h⟩
 ·exact h
 ·cases h
theorem FZ {k} (h:fZ v k VH.bad=VH.ok r hh):∃x0 x1,v= .i x0 x1∧k x0 x1= .ok r hh:=by
 rcases QQ h with h|⟨_,h⟩
 ·exact h
 ·cases h
theorem Fg {α:Type} {k} {d} {r:α} (h:qW v k d=r):(∃x0 x1,v= .s x0 x1∧k x0 x1=r)∨((∀x0 x1,v≠ .s x0 x1)∧d=r):=by
 cases v<;>first|exact .inl ⟨_,_,rfl,h⟩|exact .inr ⟨by intros;simp,h⟩
theorem wH {α:Type} {k} {r:α} (h:qW v k none=some r):∃x0 x1,v= .s x0 x1∧k x0 x1=some r:=by
 rcases Fg h with h|⟨_,h⟩
 ·exact h
 ·cases h
theorem FX {α:Type} {k} {d} {r:α} (h:gP v k d=r):(∃x0 x1,v= .p x0 x1∧k x0 x1=r)∨((∀x0 x1,v≠ .p x0 x1)∧d=r):=by
 cases v<;>first|exact .inl ⟨_,_,rfl,h⟩|exact .inr ⟨by intros;simp,h⟩
theorem qX {α:Type} {k} {r:α} (h:gP v k none=some r):∃x0 x1,v= .p x0 x1∧k x0 x1=some r:=by
 rcases FX h with h|⟨_,h⟩
 ·exact h
 ·cases h
theorem AR {k} (h:gP v k VH.bad=VH.ok r hh):∃x0 x1,v= .p x0 x1∧k x0 x1= .ok r hh:=by
 rcases FX h with h|⟨_,h⟩
 ·exact h
 ·cases h
theorem AO {α:Type} {k} {d} {r:α} (h:tG v k d=r):(∃x0 x1 x2 x3,v= .sl x0 x1 x2 x3∧k x0 x1 x2 x3=r)∨((∀x0 x1 x2 x3,v≠ .sl x0 x1 x2 x3)∧d=r):=by
 cases v<;>first|exact .inl ⟨_,_,_,_,rfl,h⟩|exact .inr ⟨by intros;simp,h⟩
theorem Fe {α:Type} {k} {r:α} (h:tG v k none=some r):∃x0 x1 x2 x3,v= .sl x0 x1 x2 x3∧k x0 x1 x2 x3=some r:=by
 rcases AO h with h|⟨_,h⟩
 ·exact h
 ·cases h
theorem Fl {α:Type} {k} {d} {r:α} (h:GC v k d=r):(∃x0,v= .agg x0∧k x0=r)∨((∀x0,v≠ .agg x0)∧d=r):=by
 cases v<;>first|exact .inl ⟨_,rfl,h⟩|exact .inr ⟨by intros;simp,h⟩
theorem Fk {α:Type} {k} {r:α} (h:GC v k none=some r):∃x0,v= .agg x0∧k x0=some r:=by
 rcases Fl h with h|⟨_,h⟩
 ·exact h
 ·cases h
theorem Fc {α:Type} {k} {d} {r:α} (h:FV v k d=r):(∃x0,v= .tup x0∧k x0=r)∨((∀x0,v≠ .tup x0)∧d=r):=by
 cases v<;>first|exact .inl ⟨_,rfl,h⟩|exact .inr ⟨by intros;simp,h⟩
theorem Fb {α:Type} {k} {r:α} (h:FV v k none=some r):∃x0,v= .tup x0∧k x0=some r:=by
 rcases Fc h with h|⟨_,h⟩
 ·exact h
 ·cases h
theorem FY {α:Type} {k} {d} {r:α} (h:oA v k d=r):(∃x0,v= .mp x0∧k x0=r)∨((∀x0,v≠ .mp x0)∧d=r):=by
 cases v<;>first|exact .inl ⟨_,rfl,h⟩|exact .inr ⟨by intros;simp,h⟩
theorem wI {k} (h:oA v k VH.bad=VH.ok r hh):∃x0,v= .mp x0∧k x0= .ok r hh:=by
 rcases FY h with h|⟨_,h⟩
 ·exact h
 ·cases h
theorem Fj {α:Type} {k} {d} {r:α} (h:GA v k d=r):(∃x0 x1 x2,v= .fn x0 x1 x2∧k x0 x1 x2=r)∨((∀x0 x1 x2,v≠ .fn x0 x1 x2)∧d=r):=by
 cases v<;>first|exact .inl ⟨_,_,_,rfl,h⟩|exact .inr ⟨by intros;simp,h⟩
theorem Fi {k} (h:GA v k VH.bad=VH.ok r hh):∃x0 x1 x2,v= .fn x0 x1 x2∧k x0 x1 x2= .ok r hh:=by
 rcases Fj h with h|⟨_,h⟩
 ·exact h
 ·cases h
theorem FW {α:Type} {k} {d} {r:α} (h:wG v k d=r):(v= .sn∧k=r)∨((v≠ .sn)∧d=r):=by
 cases v<;>first|exact .inl ⟨rfl,h⟩|exact .inr ⟨by simp,h⟩
theorem Fd {α:Type} {k} {r:α} (h:wG v k none=some r):v= .sn∧k=some r:=by
 rcases FW h with h|⟨_,h⟩
 ·exact h
 ·cases h
theorem Ff {α:Type} {k} {d} {r:α} (h:AQ v k d=r):(v= .se∧k=r)∨((v≠ .se)∧d=r):=by
 cases v<;>first|exact .inl ⟨rfl,h⟩|exact .inr ⟨by simp,h⟩
theorem QO {α:Type} {k} {r:α} (h:AQ v k none=some r):v= .se∧k=some r:=by
 rcases Ff h with h|⟨_,h⟩
 ·exact h
 ·cases h
theorem Fh {α:Type} {k} {d} {r:α} (h:AS v k d=r):(v= .mn∧k=r)∨((v≠ .mn)∧d=r):=by
 cases v<;>first|exact .inl ⟨rfl,h⟩|exact .inr ⟨by simp,h⟩
theorem QP {α:Type} {k} {r:α} (h:AS v k none=some r):v= .mn∧k=some r:=by
 rcases Fh h with h|⟨_,h⟩
 ·exact h
 ·cases h
theorem nQ {α:Type} {x y r:α} (h:dK b x y=r):(b=true∧x=r)∨(b=false∧y=r):=by
 cases b
 ·exact .inr ⟨rfl,h⟩
 ·exact .inl ⟨rfl,h⟩
theorem jE {x:Option V} (h:dK b x none=some r):b=true∧x=some r:=by
 rcases nQ h with h|⟨_,h⟩
 ·exact h
 ·cases h
theorem DX {x:VH} (h:dK b x .bad= .ok r hh):b=true∧x= .ok r hh:=by
 rcases nQ h with h|⟨_,h⟩
 ·exact h
 ·cases h
theorem AI:∀(n c:Nat),(cW n c).length=n
 |0,_=>rfl
 |n+1,c=>by simp [cW,AI n]
theorem PQ:∀(l:List Nat),(∀b∈l,b<256)→cW l.length (lQ l)=l
 | [],_=>rfl
 |b::l,h=>by
  have hb:=h b (by simp);have e1:(b+256*lQ l)%256=b:=by omega
  have e2:(b+256*lQ l)/256=lQ l:=by omega
  simp only [fU,cW,lQ,e1,e2,PQ l (fun x hx=>h x (by simp [hx]))]
theorem OT:∀(l:List Nat),(∀b∈l,b<256)→lQ l<256^l.length
 | [],_=>by simp [lQ]
 |b::l,h=>by
  have hb:=h b (by simp);have:=OT l (fun x hx=>h x (by simp [hx]));simp only [lQ,fU,eB];omega
theorem PM:∀(n c c':Nat),c<256^n→c'<256^n→cW n c=cW n c'→c=c'
 |0,c,c',h,h',_=>by simp at h h';omega
 |n+1,c,c',h,h',e=>by
  simp only [cW,jL] at e;have:=PM n (c/256) (c'/256) (by rw [eB] at h;omega) (by rw [eB] at h';omega) e.2;omega
theorem PS (s:ByteArray):∀b∈dQ s,b<256:=by
 intro b hb;simp only [dQ,dG] at hb;obtain⟨x,_,rfl⟩:=hb;exact x.toNat_lt
theorem Ea {t:ByteArray} (h:dQ s=dQ t):s=t:=by
 have:s.data.toList=t.data.toList:=by
  have hi:∀(l r:List UInt8),l.map UInt8.toNat=r.map UInt8.toNat→l=r:=by
   intro l
   induction l with
   |nil=>intro r h;cases r with|nil=>rfl|cons _ _=>simp at h
   | cons a l ih=>
    intro r h;cases r with
    |nil=>simp at h
    |cons b r=>
     simp only [gB,jL] at h;rw [UInt8.toNat_inj.1 h.1,ih r h.2]
  exact hi _ _ h
 cases s;cases t;congr 1;exact Array.toList_inj.1 this
theorem R_str {l:Nat}:R m (.s l c) u↔∃s,u= .string s∧dQ s=cW l c∧c<256^l:=by
 simp only [R,dQ]
theorem R_strOf (m:Mp) (s:ByteArray):R m (uC (dQ s)) (.string s):=by
 rw [uC,R_str];exact⟨s,rfl,(PQ _ (PS s)).symm,OT _ (PS s)⟩
theorem Dz (s:ByteArray):(dQ s).length=s.size:=by
 rw [dQ,oG,cV];rfl
theorem uB {l:Nat} (h:dQ s=cW l c):s.size=l:=by
 rw [←Dz,h,AI]
theorem VB {v:Value}:xI v=true↔cZ v:=by cases v<;>simp [xI,cZ]
mutual
theorem qN (m:Mp):∀v:Value,R m (cst v) v
 | .bool x=>by simp [cst,R]
 | .int k n=>by simp [cst,R]
 | .float ..=>by simp [cst,R]
 | .complex ..=>by simp [cst,R]
 | .string s=>by rw [cst];exact R_strOf m s
 | .pointer none=>by simp [cst,R]
 | .pointer (some _)=>by simp [cst,R]
 | .slice none 0 0=>by simp [cst,R]
 | .slice none (_+1) _=>by simp [cst,R]
 | .slice none 0 (_+1)=>by simp [cst,R]
 | .slice (some _) _ _=>by simp [cst,R]
 | .map none=>by simp [cst,R]
 | .map (some _)=>by simp [cst,R]
 | .chan _=>by simp [cst,R]
 | .func ..=>by simp [cst,R]
 | .nilFunc=>by simp [cst,R]
 | .iface ..=>by simp [cst,R]
 | .nilIface=>by simp [cst,R]
 | .agg ⟨l⟩=>by
  rw [cst];cases e:l.all xI with
  |true=>
   simp only [cN,R];refine⟨l,rfl,EX m l,fun x hx=>VB.1 (jM.1 e x hx)⟩
  |false=>simp [R]
 | .tuple ⟨l⟩=>by
  rw [cst];simp only [R];exact⟨l,rfl,EX m l⟩
theorem EX (m:Mp):∀l:List Value,Rl m (sU l) l
 | []=>by simp [sU,Rl]
 |v::l=>by simp only [sU,Rl];exact⟨v,l,rfl,qN m v,EX m l⟩
end
def DfrR (m:Mp):List V→List Deferred→Prop
 | [],ds=>ds= []
 | .fn g a c::l,ds=>∃a' c' r,ds={ target:=.fn g ⟨c'⟩,args:=⟨a'⟩ }::r∧Rl m a a'∧Rl m c c'∧DfrR m l r
 |_::_,_=>False
theorem DfrR.mono (h:m.le m'):∀{l:List V} {ds:List Deferred},DfrR m l ds→DfrR m' l ds
 | [],_,k=>k
 | .fn g a c::l,_,k=>by obtain⟨a',c',r,rfl,ha,hc,hr⟩:=k;exact⟨a',c',r,rfl,ha.mono h,hc.mono h,hr.mono h⟩
 | .top::_,_,k=>k.elim
 | .b _::_,_,k=>k.elim
 | .i _ _::_,_,k=>k.elim
 | .s _ _::_,_,k=>k.elim
 | .pn::_,_,k=>k.elim
 | .p _ _::_,_,k=>k.elim
 | .sn::_,_,k=>k.elim
 | .sl _ _ _ _::_,_,k=>k.elim
 | .se::_,_,k=>k.elim
 | .mn::_,_,k=>k.elim
 | .mp _::_,_,k=>k.elim
 | .nf::_,_,k=>k.elim
 | .ni::_,_,k=>k.elim
 | .agg _::_,_,k=>k.elim
 | .tup _::_,_,k=>k.elim
structure bD (m:Mp) (n:Nat) (e:Env) (a:Act):Prop where
 size:a.tmps.size=n
 le:n≤511
 val:∀t,t<n→R m (bN t e) (a.tmps.getD t undef)
 dfr:∃l,bN fG e= .tup l∧DfrR m l a.defers
theorem bD.mono (h:m.le m') {n:Nat} {e:Env} {a:Act} (k:bD m n e a):bD m' n e a:=
 ⟨k.size,k.le,fun t ht=>(k.val t ht).mono h,by obtain⟨l,h1,h2⟩:=k.dfr;exact⟨l,h1,h2.mono h⟩⟩
theorem bD.set (k:bD m n e a) {d:Nat} (hd:d<n) {v:V} {u:Value} (h:R m v u):bD m n (gU d v e) (a.put (some d) u):=by
 have a0:=k.le;refine⟨by simp [Act.put,k.size],k.le,fun t ht=>?_,?_⟩
 ·by_cases e':t=d
  ·subst e';rw [sR];simp [Act.put,nB,k.size,ht,h]
  ·rw [pG (by omega) (by omega) e'];have:=k.val t ht;simpa [Act.put,nB,lG,eH e'] using this
 ·obtain⟨l,h1,h2⟩:=k.dfr;refine⟨l,?_,h2⟩;rw [pG (by decide) (by omega) (by show 511≠d;omega)];exact h1
theorem bD.put (k:bD m n e a) {d:Option Nat} (hd:∀x,d=some x→x<n) {v:V} {u:Value} (h:R m v u):
  bD m n (match d with|some x=>gU x v e|none=>e) (a.put d u):=by
 cases d with
 |none=>exact k
 |some x=>exact k.set (hd x rfl) h
def Gl (P:Program) (m:Mp):Prop:=∀g,g<P.globals.size→∃lim,m (mH g)=some ⟨g,0,lim⟩
theorem Gl.mono (h:m.le m') (k:Gl P m):Gl P m':=fun g hg=>by obtain⟨lim,hl⟩:=k g hg;exact⟨lim,h _ _ hl⟩
def cO (P:Program) (n:Nat):Operand→Bool
 | .tmp t=>decide (t<n)
 | .global g=>decide (g<P.globals.size)
 |_=>true
theorem cS (k:bD m n e a) (hg:Gl P m) {x:Operand} (hx:cO P n x=true):R m ((aF x).run e) (a.eval x):=by
 cases x with
 |tmp t=>exact k.val t (by simpa [cO] using hx)
 |const v=>exact qN m v
 |global g=>
  obtain⟨lim,hl⟩:=hg g (by simpa [cO] using hx);simp only [aF,Act.eval,R];exact⟨_,hl,rfl⟩
 |func f=>simp only [aF,Act.eval,R];exact⟨[],[],rfl,by simp [Rl],by simp [Rl]⟩
theorem rZ {P:Program} {m:Mp} {n:Nat} {e:Env} {a:Act} (k:bD m n e a) (hg:Gl P m):∀{xs:List Operand},xs.all (cO P n)=true→Rl m ((nH xs).run e) (xs.map a.eval)
 | [],_=>by simp [nH,Rl]
 |x::xs,h=>by
  simp only [oK,aM] at h;simp only [nH,gB,Rl];exact⟨_,_,rfl,cS k hg h.1,rZ k hg h.2⟩
section
variable {P:Program} {m:Mp} {w:World}
theorem mT (b o n:Nat):(⟨b,o,none⟩:Addr).add n=⟨b,o+n,none⟩:=by
 unfold Addr.add;split
 ·rename_i h;subst h;simp
 ·rfl
theorem bQ (h:P.underlying t=some d):(underlying t).run P w= .ok d w:=by simp [underlying,h]
theorem pX (h:bH P t=some n):∃i,P.info? t=some i∧i.size=n:=by
 unfold bH at h;split at h
 ·rename_i i _ hi;cases h;exact⟨i,hi,rfl⟩
 ·cases h
theorem rT (h:bH P t=some n):∃d,P.underlying t=some d:=by
 unfold bH at h;split at h
 ·rename_i d _ _ hd _;exact⟨_,hd⟩
 ·cases h
theorem gM (h:bH P t=some n):(sizeOf t).run P w= .ok n w:=by
 obtain⟨i,hi,rfl⟩:=pX h;simp [sizeOf,typeInfo,hi]
theorem zG (h:P.underlying t=some d):(isAgg t).run P w= .ok (eK P t) w:=by
 simp only [isAgg,aY,bQ h,cF,eK,h];cases d<;>rfl
theorem lI (h:fJ P t=some z):∃u,(zeroValue t).run P w= .ok u w∧z=cst u∧∃i,P.info? t=some i∧i.zero=some u:=by
 unfold fJ at h;cases hi:P.info? t with
 |none=>simp [hi] at h
 | some i=>
  cases hz:i.zero with
  |none=>simp [hi,hz] at h
  |some u=>
   simp [hi,hz] at h;exact⟨u,by simp [zeroValue,typeInfo,hi,hz],h.symm,i,rfl,hz⟩
theorem sW {l:Loc} {C:Array Value} {fz:Nat × Nat} (h:w.heap[l.blk]?=some (.cells C t fz)) (o:Nat):w.cell? ⟨l.blk,o,none⟩=C[o]?:=by
 simp [World.cell?,h]
theorem qE (l:List V) (i:Nat):kO l i=l[i]?:=by
 induction l generalizing i with
 |nil=>rfl
 |cons a l ih=>cases i with
  |zero=>rfl
  |succ i=>simpa [kO] using ih i
theorem uT (l:List (List V)) (i:Nat):lM l i=l[i]?:=by
 induction l generalizing i with
 |nil=>rfl
 |cons a l ih=>cases i with
  |zero=>rfl
  |succ i=>simpa [lM] using ih i
theorem BT:∀(n:Nat) (l r:List V),iJ n l=some r→n≤l.length∧r=l.take n
 |0,l,r,h=>by
  have:[]=r:=aJ h;subst this;simp
 |n+1,[],r,h=>by cases h
 | n+1,a::l,r,h=>by
  have:iJ (n+1) (a::l)=Option.rec (motive:=fun _=>Option (List V)) none (fun x=>some (a::x)) (iJ n l):=rfl;rw [this] at h;cases e:iJ n l with
  |none=>rw [e] at h;cases h
  |some x=>
   rw [e] at h;cases h;obtain⟨h1,rfl⟩:=BT n l x e;exact⟨by simp;omega,by simp⟩
theorem gV:∀(n:Nat) (l:List V),dM n l=l.drop n
 |0,l=>rfl
 |n+1,[]=>rfl
 |n+1,a::l=>by
  have:dM (n+1) (a::l)=dM n l:=rfl;rw [this,gV n l];rfl
theorem jD (l:List V):dP l=l.length:=by
 induction l with
 |nil=>rfl
 |cons a l ih=>show Nat.succ (dP l)=_;rw [ih];rfl
theorem vE (l:List (List V)):nP l=l.length:=by
 induction l with
 |nil=>rfl
 |cons a l ih=>show Nat.succ (nP l)=_;rw [ih];rfl
theorem QU (a b:List V):appV a b=a++b:=by
 induction a with
 |nil=>rfl
 |cons x a ih=>show x::appV a b=_;rw [ih];rfl
theorem Fp (a b:List (List V)):appL a b=a++b:=by
 induction a with
 |nil=>rfl
 |cons x a ih=>show x::appL a b=_;rw [ih];rfl
theorem flat_get {sz:Nat}:∀{els:List (List V)} (h:∀el∈els,el.length=sz) {q:Nat} {el:List V},els[q]?=some el→∀(i:Nat),i<sz→els.flatten[q*sz+i]?=el[i]?
 | [],_,q,el,hq,i,hi=>by simp at hq
 |x::els,h,0,el,hq,i,hi=>by
  simp at hq;subst hq;have:=h x (by simp);simp [List.getElem?_append,this,hi]
 |x::els,h,q+1,el,hq,i,hi=>by
  simp at hq;have hx:=h x (by simp);have:=flat_get (fun el he=>h el (by simp [he])) hq i hi;simp only [iS];rw [dO (by rw [hx,gI];omega),hx,←this];congr 1;rw [gI];omega
theorem flat_len {sz:Nat}:∀{els:List (List V)},(∀el∈els,el.length=sz)→els.flatten.length=els.length*sz
 | [],_=>by simp
 |x::els,h=>by
  have:=flat_len (els:=els) (fun el he=>h el (by simp [he]));simp only [iS,aK,h x (by simp),this,fU,gI];omega
theorem WK (k:HR m h w) {b:Id} {o n:Nat} {xs:List V} (hr:rd h b o n=some xs):
  ∃l us,m b=some l∧xs.length=n∧Rl m xs us∧(∀x∈us,cZ x)∧∀(j:Nat) v,us[j]?=some v→w.cell? ⟨l.blk,l.base+o+j,none⟩=some v:=by
 unfold rd at hr;cases hb:aB b h.mem with
 |none=>rw [hb] at hr;cases hr
 | some ob=>
  rw [hb] at hr;cases ob with
  |map _ _=>cases hr
  |miter _ _ _ _=>cases hr
  | cells sz els f ro=>
   obtain⟨l,hl,C,t,fz,hc⟩:=k.obj _ _ hb;have a1:(Option.rec (motive:=fun _=>Option (List V)) none (fun el=>Bool.rec (motive:=fun _=>Option (List V)) (iJ n (dM (Nat.mod o sz) el)) (some el) (Nat.beq (Nat.mod o sz) 0&&Nat.beq n sz)) (lM els (Nat.div o sz)):Option (List V))=some xs:=hr;rw [uT] at a1;cases he:els[Nat.div o sz]? with
   |none=>rw [he] at a1;cases a1
   | some el=>
    rw [he] at a1;have a2:=hc.each el (aX he);have hx:(∀j,j<n→o%sz+j<sz)∧n≤(el.drop (o%sz)).length∧xs=(el.drop (o%sz)).take n:=by
     cases ht:(Nat.beq (Nat.mod o sz) 0&&Nat.beq n sz) with
     |false=>
      have a3:iJ n (dM (Nat.mod o sz) el)=some xs:=by simpa [ht] using a1
      rw [gV] at a3;obtain⟨h1,rfl⟩:=BT _ _ _ a3;refine⟨fun j hj=>?_,h1,rfl⟩;have a5:n≤(el.drop (o%sz)).length:=h1;rw [cX,a2] at a5;omega
     |true=>
      have a3:el=xs:=by simpa [ht] using a1
      simp only [aM] at ht;have h1:o%sz=0:=aV ht.1;have h2:n=sz:=aV ht.2;subst a3;subst h2;rw [h1];exact⟨fun j hj=>by omega,by simp [a2],by rw [bE,eP (by omega)]⟩
    obtain⟨hn,hn2,rfl⟩:=hx;have a4:((el.drop (o%sz)).take n).length=n:=by rw [aU];omega
    have a0:∀j,j<n→∃v u,((el.drop (o%sz)).take n)[j]?=some v∧C[l.base+o+j]?=some u∧R m v u∧cZ u:=by
     intro j hj;have a6:o%sz+j<sz:=hn j hj;have hv:∃v,el[o%sz+j]?=some v:=⟨el[o%sz+j]'(by omega),aL (by omega)⟩;obtain⟨v,hv⟩:=hv;have hf:=flat_get hc.each he (o%sz+j) a6;rw [hv] at hf;obtain⟨u,hu,hR,hs⟩:=hc.val _ _ hf;have hi:Nat.div o sz*sz+(o%sz+j)=o+j:=by
      have:=kD o sz;rw [bG] at this;show o/sz*sz+(o%sz+j)=o+j;omega
     rw [hi] at hu;refine⟨v,u,?_,by rw [←hu];congr 1;omega,hR,hs⟩;rw [gC hj,iR,hv]
    refine⟨l,(List.range n).map (fun j=>(C[l.base+o+j]?).getD undef),hl,a4,?_,?_,?_⟩
    ·refine Rl.mk (by simp [a4]) ?_;intro j v u hv hu;have hj:j<n:=by
      have:=(List.getElem?_eq_some_iff.1 hv).1;omega
     obtain⟨v',u',hv',hu',hR,_⟩:=a0 j hj;rw [hv] at hv';cases hv';simp only [jK,BH hj,rC,cB] at hu;rw [hu'] at hu;subst hu;exact hR
    ·intro x hx;simp only [dG,SH] at hx;obtain⟨j,hj,rfl⟩:=hx;obtain⟨v',u',_,hu',_,hs⟩:=a0 j hj;rw [hu'];exact hs
    ·intro j v hv;have hj:j<n:=by
      have:=(List.getElem?_eq_some_iff.1 hv).1;simpa using this
     obtain⟨v',u',_,hu',_,_⟩:=a0 j hj;simp only [jK,BH hj,rC,cB] at hv;rw [hu'] at hv;simp at hv;subst hv;rw [sW hc.at_,hu']
end
end Go.Ev
