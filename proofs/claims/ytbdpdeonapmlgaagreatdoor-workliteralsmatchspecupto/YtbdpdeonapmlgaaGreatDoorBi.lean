/- Lemmas for the text Card; no condition. -/
import Derived.Test.YtbdpdeonapmlgaaGreatDoorBh
set_option linter.all false
namespace Go.Ev
noncomputable section
variable {ms x y l nw:List Id} {M:Mem} {h:H} {call:bP} {mp mc m1:Mp} {fuel n lim lf:Nat} {w' w:World} {b i k:Id}
section
variable {P:Program} {m:Mp} {w:World}
def SubOf (h:H) (M:Mem) (ms:List Id):Prop:=∀b ob,aB b M=some ob→
 (∃sz els f ro,ob= .cells sz els f .fz∧aB b h.mem=some (.cells sz els f ro))∨(∃es c,ob= .map es c∧aB b h.mem=some (.map es c)∧b∈ms)
theorem JA {α:Type} (d:D8) (x:α):fW d (N8.all x)=x:=by cases d<;>rfl
theorem yN (b:Id):aB b Mem.new=none:=by
 obtain⟨a,b,c,d,e⟩:=b;simp [aB,Mem.new,JA]
theorem SubOf.put (k:SubOf h M ms) {b:Id} {sz:Nat} {els:List (List V)} {f:Id} {ro:Rw} (hb:aB b h.mem=some (.cells sz els f ro)):SubOf h (dC b (some (.cells sz els f .fz)) M) ms:=by
 intro b1 ob h1
 by_cases e:b1=b
 ·subst e;rw [fR] at h1;cases h1;exact .inl ⟨_,_,_,_,rfl,hb⟩
 ·rw [eM e] at h1;exact k b1 ob h1
theorem SubOf.putM (k:SubOf h M ms) {b:Id} {es:List Ent} {c:Nat} (hb:aB b h.mem=some (.map es c)):SubOf h (dC b (some (.map es c)) M) (b::ms):=by
 intro b1 ob h1
 by_cases e:b1=b
 ·subst e;rw [fR] at h1;cases h1;exact .inr ⟨_,_,rfl,hb,tS⟩
 ·rw [eM e] at h1;rcases k b1 ob h1 with h2|⟨b5,c1,h2,h3,h4⟩
  ·exact .inl h2
  ·exact .inr ⟨b5,c1,h2,h3,pR _ h4⟩
theorem mA {h:H}:∀(n:Nat) (l:List V) (M:Mem) (ms:List Id),SubOf h M ms→SubOf h (iW h n l M ms).1 (iW h n l M ms).2
 |0,_,M,ms,k=>k
 |_+1,[],M,ms,k=>k
 | n +1,v::l,M,ms,k=>by
  unfold iW;split
  ·exact mA n _ M ms k
  ·exact mA n _ M ms k
  ·rename_i b _ _ _;split
   ·exact mA n _ M ms k
   ·split
    ·rename_i h1;exact mA n _ _ ms (k.put h1)
    ·exact mA n _ M ms k
  ·rename_i b;split
   ·exact mA n _ M ms k
   ·split
    ·rename_i h1;exact mA n _ _ _ (k.putM h1)
    ·exact mA n _ M ms k
  ·exact mA n _ M ms k
theorem HR.subOf (k:HR m h w) (s:SubOf h M ms):HR m ⟨M,h.fams,h.next⟩ w:=by
 have cellsOf:∀b sz els f ro,aB b M=some (.cells sz els f ro)→ro= .fz∧∃ro',aB b h.mem=some (.cells sz els f ro'):=by
  intro b sz els f ro hb;rcases s b _ hb with⟨sz1,els1,f1,ro1,e,h1⟩|⟨es,c,e,_⟩
  ·cases e;exact⟨rfl,ro1,h1⟩
  ·cases e
 refine⟨?_,k.dom,?_,?_,?_,k.lt,?_,k.flt⟩
 ·intro b ob hb;rcases s b ob hb with⟨sz1,els1,f1,ro1,rfl,h1⟩|⟨es,c,rfl,h1,_⟩
  ·obtain⟨l,hl,C,t,fz,hc⟩:=k.obj b _ h1;exact⟨l,hl,C,t,fz,⟨hc.at_,hc.room,hc.len,hc.each,hc.val,(fun e=>by cases e),(fun e=>by cases e),(fun ty e=>by cases e),hc.al⟩⟩
  ·exact k.obj b _ h1
 ·intro b b' ob b8 l l' hb b4 hl b3 a0 b2;rcases s b ob hb with⟨sz1,els1,f1,ro1,rfl,h1⟩|⟨es,c,rfl,h1,_⟩<;>rcases s b' b8 b4 with⟨sz2,els2,f2,ro2,rfl,h2⟩|⟨es2,c2,rfl,h2,_⟩
  ·exact(k.sep b b' _ _ l l' h1 h2 hl b3 a0 b2:uD (.cells sz1 els1 f1 ro1) (.cells sz2 els2 f2 ro2))
  ·exact(k.sep b b' _ _ l l' h1 h2 hl b3 a0 b2:uD (.cells sz1 els1 f1 ro1) (.map es2 c2))
  ·exact(k.sep b b' _ _ l l' h1 h2 hl b3 a0 b2:uD (.map es c) (.cells sz2 els2 f2 ro2))
  ·exact k.sep b b' _ _ l l' h1 h2 hl b3 a0 b2
 ·intro b b' sz els f ro b9 els' ro' hb b4 a0;obtain⟨_,r1,h1⟩:=cellsOf _ _ _ _ _ hb;obtain⟨_,r2,h2⟩:=cellsOf _ _ _ _ _ b4;exact k.fam b b' _ _ _ _ _ _ _ h1 h2 a0
 ·intro f;refine(k.ord f).imp ?_;intro x y b7 sz els f1 ro b9 els' f2 ro' l1 l2 hx hy;obtain⟨_,r1,h1⟩:=cellsOf _ _ _ _ _ hx;obtain⟨_,r2,h2⟩:=cellsOf _ _ _ _ _ hy;exact b7 _ _ _ _ _ _ _ _ l1 l2 h1 h2
 ·intro b sz els f ro hb;obtain⟨_,r1,h1⟩:=cellsOf _ _ _ _ _ hb;exact k.famlt b _ _ _ _ h1
mutual
theorem uH {ρ:Id→Option Id} {mp mc:Mp} (hρ:∀b c l,ρ b=some c→mp b=some l→mc c=some l):∀{v v':V} {u:Value},bR ρ v=some v'→R mp v u→R mc v' u
 | .top,_,_,h,_=>by simp [bR] at h
 | .b x,_,_,h,k=>by simp only [bR,cB] at h;subst h;simpa [R] using k
 | .i _ _,_,_,h,k=>by simp only [bR,cB] at h;subst h;simpa [R] using k
 | .s _ _,_,_,h,k=>by simp only [bR,cB] at h;subst h;simpa [R] using k
 | .pn,_,_,h,k=>by simp only [bR,cB] at h;subst h;simpa [R] using k
 | .p _ _,_,_,h,_=>by simp [bR] at h
 | .sn,_,_,h,k=>by simp only [bR,cB] at h;subst h;simpa [R] using k
 | .sl b o len sz,_,_,h,k=>by
  simp only [bR] at h;cases hb:ρ b with
  |none=>rw [hb] at h;cases h
  |some c=>
   rw [hb] at h;cases h;simp only [R] at k ⊢;obtain⟨l,cap,hl,hu⟩:=k;exact⟨l,cap,hρ _ _ _ hb hl,hu⟩
 | .se,_,_,h,k=>by simp only [bR,cB] at h;subst h;simpa [R] using k
 | .mn,_,_,h,k=>by simp only [bR,cB] at h;subst h;simpa [R] using k
 | .mp _,_,_,h,_=>by simp [bR] at h
 | .fn _ _ _,_,_,h,_=>by simp [bR] at h
 | .nf,_,_,h,k=>by simp only [bR,cB] at h;subst h;simpa [R] using k
 | .ni,_,_,h,k=>by simp only [bR,cB] at h;subst h;simpa [R] using k
 | .agg l,_,_,h,k=>by
  simp only [bR] at h;cases hl:cM ρ l with
  |none=>rw [hl] at h;cases h
  |some l'=>
   rw [hl] at h;cases h;simp only [R] at k ⊢;obtain⟨us,hu,hR,hs⟩:=k;exact⟨us,hu,xU hρ hl hR,hs⟩
 | .tup l,_,_,h,k=>by
  simp only [bR] at h;cases hl:cM ρ l with
  |none=>rw [hl] at h;cases h
  |some l'=>
   rw [hl] at h;cases h;simp only [R] at k ⊢;obtain⟨us,hu,hR⟩:=k;exact⟨us,hu,xU hρ hl hR⟩
theorem xU {ρ:Id→Option Id} {mp mc:Mp} (hρ:∀b c l,ρ b=some c→mp b=some l→mc c=some l):∀{l l':List V} {us:List Value},cM ρ l=some l'→Rl mp l us→Rl mc l' us
 | [],_,_,h,k=>by simp only [cM,cB] at h;subst h;simpa [Rl] using k
 | v::l,_,_,h,k=>by
  simp only [cM] at h;cases hv:bR ρ v with
  |none=>rw [hv] at h;cases h
  | some v'=>
   cases hl:cM ρ l with
   |none=>rw [hv,hl] at h;cases h
   |some l'=>
    rw [hv,hl] at h;cases h;simp only [Rl] at k ⊢;obtain⟨u,us,rfl,h1,h2⟩:=k;exact⟨u,us,rfl,uH hρ hv h1,xU hρ hl h2⟩
end
theorem CL {ρ:Id→Option Id}:∀{l l':List V},cM ρ l=some l'→l'.length=l.length
 | [],_,h=>by simp only [cM,cB] at h;subst h;rfl
 | v::l,_,h=>by
  simp only [cM] at h;cases hv:bR ρ v with
  |none=>rw [hv] at h;cases h
  |some v'=>
   cases hl:cM ρ l with
   |none=>rw [hv,hl] at h;cases h
   |some l'=>rw [hv,hl] at h;cases h;simp [CL hl]
theorem JO {ρ:Id→Option Id}:∀{a a' b b':List V},cM ρ a=some a'→cM ρ b=some b'→cM ρ (a++b)=some (a'++b')
 | [],_,_,_,h,k=>by simp only [cM,cB] at h;subst h;simpa using k
 | v::l,_,_,_,h,k=>by
  simp only [cM] at h;cases hv:bR ρ v with
  |none=>rw [hv] at h;cases h
  |some v'=>
   cases hl:cM ρ l with
   |none=>rw [hv,hl] at h;cases h
   |some l'=>rw [hv,hl] at h;cases h;simp only [oJ,cM,hv,JO hl k]
theorem JP {ρ:Id→Option Id}:∀{l l':List (List V)},eQ ρ l=some l'→cM ρ l.flatten=some l'.flatten
 | [],_,h=>by simp only [eQ,cB] at h;subst h;rfl
 | v::l,_,h=>by
  simp only [eQ] at h;cases hv:cM ρ v with
  |none=>rw [hv] at h;cases h
  |some v'=>
   cases hl:eQ ρ l with
   |none=>rw [hv,hl] at h;cases h
   |some l'=>rw [hv,hl] at h;cases h;simp only [iS];exact JO hv (JP hl)
theorem JQ {ρ:Id→Option Id} {n:Nat}:∀{l l':List (List V)},eQ ρ l=some l'→(∀el∈l,el.length=n)→∀el∈l',el.length=n
 | [],_,h,_=>by simp only [eQ,cB] at h;subst h;intro el b0;cases b0
 | v::l,_,h,k=>by
  simp only [eQ] at h;cases hv:cM ρ v with
  |none=>rw [hv] at h;cases h
  | some v'=>
   cases hl:eQ ρ l with
   |none=>rw [hv,hl] at h;cases h
   |some l'=>
    rw [hv,hl] at h;cases h;intro el b0;rcases cD.1 b0 with rfl|b0
    ·rw [CL hv];exact k v tS
    ·exact JQ hl (fun el h1=>k el (pR _ h1)) el b0
theorem JN {ρ:Id→Option Id}:∀{l l':List V},cM ρ l=some l'→∀{i:Nat} {v':V},l'[i]?=some v'→∃v,l[i]?=some v∧bR ρ v=some v'
 | [],_,h,i,v',k=>by simp only [cM,cB] at h;subst h;simp at k
 | v::l,_,h,i,v',k=>by
  simp only [cM] at h;cases hv:bR ρ v with
  |none=>rw [hv] at h;cases h
  | some v1=>
   cases hl:cM ρ l with
   |none=>rw [hv,hl] at h;cases h
   |some l1=>
    rw [hv,hl] at h;cases h;cases i with
    |zero=>simp at k;subst k;exact⟨v,rfl,hv⟩
    |succ i=>simp at k;obtain⟨x,h1,h2⟩:=JN hl k;exact⟨x,by simpa using h1,h2⟩
theorem CellsAt.ren {ρ:Id→Option Id} (hρ:∀b c l,ρ b=some c→mp b=some l→mc c=some l) {l:Loc} {sz:Nat} {els els':List (List V)} {ro:Rw} {C:Array Value} {t:TypeId} {fz:Nat × Nat}
  (hr:eQ ρ els=some els') (hc:CellsAt mp w l sz els ro C t fz):CellsAt mc w l sz els' ro C t fz:=by
 have hf:=JP hr;refine⟨hc.at_,hc.room,by rw [CL hf];exact hc.len,JQ hr hc.each,?_,hc.free,hc.plain,hc.typ,hc.al⟩;intro i v' b6;obtain⟨v,h1,h2⟩:=JN hf b6;obtain⟨u,h3,h4,h5⟩:=hc.val i v h1;exact⟨u,h3,uH hρ h2 h4,h5⟩
theorem qG:∀{n:Nat} {i:Id} {l:List Id} {k:Id},gF n i=some (l,k)→l.length=n∧k.toNat=i.toNat+n∧∀(j:Nat) b,l[j]?=some b→b.toNat=i.toNat+j
 |0,i,l,k,h=>by simp only [gF,cB,AW] at h;obtain⟨rfl,rfl⟩:=h;exact⟨rfl,rfl,fun j b hb=>by simp at hb⟩
 | n+1,i,l,k,h=>by
  simp only [gF] at h;cases hs:i.succ with
  |none=>rw [hs] at h;cases h
  | some j=>
   rw [hs] at h;simp only at h;cases hn:gF n j with
   |none=>rw [hn] at h;cases h
   |some x=>
    obtain⟨l1,k1⟩:=x;rw [hn] at h;cases h;obtain⟨h1,h2,h3⟩:=qG hn;have:=Id.succ_toNat hs;refine⟨by simp [h1],by omega,?_⟩;intro q b hb;cases q with
    |zero=>simp at hb;subst hb;rfl
    |succ q=>simp at hb;have:=h3 q b hb;omega
theorem uU (h:gF n i=some (l,k)) {j j':Nat} {b:Id} (h1:l[j]?=some b) (h2:l[j']?=some b):j=j':=by
 obtain⟨_,_,h3⟩:=qG h;have:=h3 _ _ h1;have:=h3 _ _ h2;omega
theorem LP {b c:Id}:∀{l:List (Id × Id)},jC b l=some c→(b,c)∈l
 | [],h=>by simp [jC] at h
 |(a,d)::l,h=>by
  simp only [jC] at h;cases hb:Id.beq a b with
  |true=>rw [hb] at h;simp only [cN,cB] at h;subst h;rw [Id.beq_iff.1 hb];exact tS
  |false=>rw [hb] at h;exact pR _ (LP h)
theorem nN {c:Id} (h:jC b (x.zip y)=some c):∃j:Nat,x[j]?=some b∧y[j]?=some c:=by
 obtain⟨j,hj⟩:=List.mem_iff_getElem?.1 (LP h);refine⟨j,?_⟩;rw [List.getElem?_zip_eq_some] at hj;exact hj
theorem yU:∀{j:Nat} {b c:Id},(∀(j j':Nat) (b:Id),x[j]?=some b→x[j']?=some b→j=j')→x[j]?=some b→y[j]?=some c→jC b (x.zip y)=some c:=by
 induction x generalizing y with
 |nil=>intro j b c _ h _;simp at h
 | cons a x ih=>
  intro j b c hn h k;cases y with
  |nil=>simp at k
  | cons d y=>
   simp only [Gk,jC];cases j with
   |zero=>simp at h k;subst h;subst k;rw [Id.beq_iff.2 rfl];rfl
   | succ j=>
    simp at h k;have a0:Id.beq a b=false:=by
     cases e:Id.beq a b with
     |false=>rfl
     |true=>
      have:=Id.beq_iff.1 e;subst this;have:=hn 0 (j+1) a (by simp) (by simpa using h);omega
    rw [a0];exact ih (fun j j' b h1 h2=>by have:=hn (j+1) (j'+1) b (by simpa using h1) (by simpa using h2);omega) h k
theorem DS (h:b∉x):jC b (x.zip y)=none:=by
 cases e:jC b (x.zip y) with
 |none=>rfl
 |some c=>obtain⟨j,h1,_⟩:=nN e;exact absurd (aX h1) h
theorem sB:∀{l:List Id},jB l=true→∀(j j':Nat) (b:Id),l[j]?=some b→l[j']?=some b→j=j'
 | [],_,j,j',b,h,_=>by simp at h
 | a::l,hn,j,j',b,h,k=>by
  simp only [jB,aM,BK] at hn;have hm:∀q,l[q]?=some a→False:=fun q hq=>by rw [(yQ a l).2 (aX hq)] at hn;cases hn.1
  cases j with
  |zero=>
   cases j' with
   |zero=>rfl
   |succ j'=>simp at h k;subst h;exact(hm _ k).elim
  |succ j=>
   cases j' with
   |zero=>simp at h k;subst k;exact(hm _ h).elim
   |succ j'=>simp at h k;rw [sB hn.2 j j' b h k]
theorem KA:∀{nw:List Id} {obs:List Ob} {M:Mem} {b:Id} {ob:O},aB b (gR nw obs M)=some ob→
  (aB b M=some ob)∨∃(j sz ty:Nat) (els:List (List V)),nw[j]?=some b∧obs[j]?=some (sz,ty,els)∧ob= .cells sz els b (.rw ty)
 | [],obs,M,b,ob,h=>by simp only [gR] at h;exact .inl h
 |a::nw,[],M,b,ob,h=>by simp only [gR] at h;exact .inl h
 | a::nw,(sz,ty,els)::obs,M,b,ob,h=>by
  simp only [gR] at h
  by_cases e:b=a
  ·subst e;rw [fR] at h;cases h;exact .inr ⟨0,sz,ty,els,rfl,rfl,rfl⟩
  ·rw [eM e] at h;rcases KA h with h1|⟨j,sz,ty,els,h1,h2,h3⟩
   ·exact .inl h1
   ·exact .inr ⟨j+1,sz,ty,els,by simpa using h1,by simpa using h2,h3⟩
theorem CS:∀{nw:List Id} {obs:List Ob} {M:Mem} {b:Id},b∉nw→aB b (gR nw obs M)=aB b M
 | [],obs,M,b,h=>by simp [gR]
 |a::nw,[],M,b,h=>by simp [gR]
 |a::nw,(sz,ty,els)::obs,M,b,h=>by
  simp only [gR];rw [eM (fun e=>h (by rw [e];exact tS)),CS (fun e=>h (pR _ e))]
theorem xS {hp:H} {ρ:Id→Option Id}:∀{l fs:List Id} {obs:List Ob},lK hp ρ l=some (fs,obs)→fs.length=l.length∧obs.length=l.length∧
  ∀(j:Nat) b,l[j]?=some b→∃sz els f ty els',aB b hp.mem=some (.cells sz els f (.rw ty))∧eQ ρ els=some els'∧fs[j]?=some f∧obs[j]?=some (sz,ty,els')
 | [],_,_,h=>by simp only [lK,cB,AW] at h;obtain⟨rfl,rfl⟩:=h;exact⟨rfl,rfl,fun j b hb=>by simp at hb⟩
 | a::l,_,_,h=>by
  simp only [lK] at h;split at h
  ·rename_i sz els f ty hb;split at h
   ·rename_i els' fs obs h1 h2;cases h;obtain⟨k1,k2,k3⟩:=xS h2;refine⟨by simp [k1],by simp [k2],?_⟩;intro j b hj;cases j with
    |zero=>simp at hj;subst hj;exact⟨sz,els,f,ty,els',hb,h1,rfl,rfl⟩
    |succ j=>simp at hj;obtain⟨a1,a2,a3,a4,a5,a6,a7,a8,a9⟩:=k3 j b hj;exact⟨a1,a2,a3,a4,a5,a6,a7,by simpa using a8,by simpa using a9⟩
   ·cases h
  ·cases h
end
section
variable {P:Program}
def fF (nw olds:List Id) (mp m:Mp):Mp:=fun i=>match jC i (nw.zip olds) with|some b=>mp b|none=>m i
theorem PJ {m:Mp} {b9:H} (k:HR m h w) (c0:HR mp b9 w') (b2:w.heap.size≤w'.heap.size)
  (a8:∀B,B<w.heap.size→¬Wb m h B→w'.heap[B]?=w.heap[B]?) (d5:w'.os=w.os) (d7:w'.tape=w.tape) (d6:w'.output=w.output)
  {n:Nat} {nw:List Id} {nx:Id} {olds fs:List Id} {obs:List Ob} {ρ:Id→Option Id} (hid:gF n h.next=some (nw,nx)) (a9:olds.length=nw.length)
  (d4:∀(j j':Nat) (b:Id),olds[j]?=some b→olds[j']?=some b→j=j') (b7:lK b9 ρ olds=some (fs,obs)) (d2:jB fs=true)
  (hρ:∀b c l,ρ b=some c→mp b=some l→fF nw olds mp m c=some l)
  (a7:∀(j:Nat) b l,olds[j]?=some b→mp b=some l→w.heap.size≤l.blk)
  (b8:∀b ob l,aB b h.mem=some ob→m b=some l→ObjAt (fF nw olds mp m) w' l ob):
  Fr m h w (fF nw olds mp m) ⟨gR nw obs h.mem,h.fams,nx⟩ w':=by
 obtain⟨i1,i2,i3⟩:=qG hid;have inj:=fun {j j':Nat} {b:Id}=>uU (j:=j) (j':=j') (b:=b) hid
 obtain⟨r1,r2,r3⟩:=xS b7;have a6:∀b,b∈nw→h.next.toNat≤b.toNat:=by
  intro b hb;obtain⟨j,hj⟩:=List.mem_iff_getElem?.1 hb;have:=i3 j b hj;omega
 have c5:∀b,b∈nw→b.toNat<nx.toNat:=by
  intro b hb;obtain⟨j,hj⟩:=List.mem_iff_getElem?.1 hb;have:=i3 j b hj;have:=(List.getElem?_eq_some_iff.1 hj).1;omega
 have F0:∀i,i∉nw→fF nw olds mp m i=m i:=by
  intro i hi;unfold fF;rw [DS hi]
 have F1:∀i,i.toNat<h.next.toNat→fF nw olds mp m i=m i:=fun i hi=>F0 i (fun hm=>by have:=a6 i hm;omega)
 have F2:∀(j:Nat) c b,nw[j]?=some c→olds[j]?=some b→fF nw olds mp m c=mp b:=by
  intro j c b h1 h2;unfold fF;rw [yU (fun j j' b a1 a2=>inj a1 a2) h1 h2]
 have F3:∀i l,fF nw olds mp m i=some l→(i∉nw∧m i=some l)∨∃(j:Nat) (b:Id),nw[j]?=some i∧olds[j]?=some b∧mp b=some l:=by
  intro i l hi
  by_cases hm:i∈nw
  ·obtain⟨j,hj⟩:=List.mem_iff_getElem?.1 hm;have b5:j<olds.length:=by rw [a9];exact(List.getElem?_eq_some_iff.1 hj).1
   have hb:=aL b5;exact .inr ⟨j,_,hj,hb,by rw [←F2 j i _ hj hb];exact hi⟩
  ·rw [F0 i hm] at hi;exact .inl ⟨hm,hi⟩
 have d3:m.le (fF nw olds mp m):=fun b l hb=>by rw [F1 b (k.dom b l hb)];exact hb
 have G:∀b ob,aB b (gR nw obs h.mem)=some ob→(aB b h.mem=some ob∧b∉nw∧b.toNat<h.next.toNat)∨
   ∃(j sz ty:Nat) (els a0:List (List V)) (b0 f0:Id),nw[j]?=some b∧olds[j]?=some b0∧ob= .cells sz els b (.rw ty)∧aB b0 b9.mem=some (.cells sz a0 f0 (.rw ty))∧eQ ρ a0=some els∧fs[j]?=some f0:=by
  intro b ob hb;rcases KA hb with h1|⟨j,sz,ty,els,h1,h2,h3⟩
  ·obtain⟨l,hl,_⟩:=k.obj b ob h1;have:=k.dom b l hl;exact .inl ⟨h1,fun hm=>by have:=a6 b hm;omega,this⟩
  ·have b5:j<olds.length:=by rw [a9];exact(List.getElem?_eq_some_iff.1 h1).1
   have c1:=aL b5;obtain⟨sz1,els1,f1,ty1,els1',a1,a2,a3,a4⟩:=r3 j _ c1;rw [h2] at a4;cases a4;exact .inr ⟨j,sz,ty,els,els1,_,f1,h1,c1,h3,a1,a2,a3⟩
 have c9:∀b ob l,aB b h.mem=some ob→b∉nw→fF nw olds mp m b=some l→m b=some l:=fun b ob l _ hn hl=>by rw [F0 b hn] at hl;exact hl
 refine⟨d3,⟨?_,?_,?_,?_,?_,?_,?_,?_⟩,b2,a8,d5,d7,d6,?_,?_,?_,?_⟩
 ·intro b ob hb;rcases G b ob hb with⟨h1,h2,h3⟩|⟨j,sz,ty,els,a0,b0,f0,h1,h2,h3,h4,h5,h6⟩
  ·obtain⟨l,hl,_⟩:=k.obj b ob h1;exact⟨l,by rw [F0 b h2];exact hl,b8 b ob l h1 hl⟩
  ·obtain⟨l,hl,C,t,fz,hc⟩:=c0.obj b0 _ h4;subst h3;exact⟨l,by rw [F2 j b b0 h1 h2];exact hl,C,t,fz,hc.ren hρ h5⟩
 ·intro b l hb;show b.toNat<nx.toNat;rcases F3 b l hb with⟨_,h2⟩|⟨j,b0,h1,_,_⟩
  ·have:=k.dom b l h2;omega
  ·exact c5 b (aX h1)
 ·intro b b' ob c8 l l' hb b4 hl a5 b1 b3;rcases G b ob hb with⟨h1,h2,h3⟩|⟨j,sz,ty,els,a0,b0,f0,h1,h2,h3,h4,h5,h6⟩<;>
  rcases G b' c8 b4 with⟨g1,g2,g3⟩|⟨j',d0,ty',els',els0',b0',f0',g1,g2,g3,g4,g5,g6⟩
  ·rw [F0 b h2] at hl;rw [F0 b' g2] at a5;exact k.sep b b' ob c8 l l' h1 g1 hl a5 b1 b3
  ·rw [F0 b h2] at hl;rw [F2 j' b' b0' g1 g2] at a5;have:=k.lt b l hl;have:=a7 j' b0' l' g2 a5;omega
  ·rw [F2 j b b0 h1 h2] at hl;rw [F0 b' g2] at a5;have:=k.lt b' l' a5;have:=a7 j b0 l h2 hl;omega
  ·rw [F2 j b b0 h1 h2] at hl;rw [F2 j' b' b0' g1 g2] at a5;have c2:j≠j':=fun e=>by subst e;rw [h1] at g1;cases g1;exact b1 rfl
   have d1:b0≠b0':=fun e=>by subst e;exact c2 (d4 j j' b0 h2 g2)
   have hs:=c0.sep b0 b0' _ _ l l' h4 g4 hl a5 d1 b3;have hs:f0=f0':=hs;subst hs;exact(c2 (sB d2 j j' f0 h6 g6)).elim
 ·intro b b' sz els f ro d0 els' ro' hb b4 b1;rcases G b _ hb with⟨h1,h2,h3⟩|⟨j,sz1,ty,els1,a0,b0,f0,h1,h2,h3,h4,h5,h6⟩<;>
  rcases G b' _ b4 with⟨g1,g2,g3⟩|⟨j',sz1',ty',els1',els0',b0',f0',g1,g2,g3,g4,g5,g6⟩
  ·exact k.fam b b' _ _ _ _ _ _ _ h1 g1 b1
  ·cases g3;have:=k.famlt b _ _ _ _ h1;have:=a6 b' (aX g1);omega
  ·cases h3;have:=k.famlt b' _ _ _ _ g1;have:=a6 b (aX h1);omega
  ·cases h3;cases g3;exact(b1 rfl).elim
 ·intro f;refine List.Pairwise.imp_of_mem ?_ (k.ord f);intro x y hx hy d8 sz els f1 ro d0 els' f2 ro' l1 l2 h1 h2 c3 c4 b3;have lx:=k.flt f x hx;have ly:=k.flt f y hy;have c6:x∉nw:=fun hm=>by have:=a6 x hm;omega
  have c7:y∉nw:=fun hm=>by have:=a6 y hm;omega
  rw [show aB x (gR nw obs h.mem)=aB x h.mem from CS c6] at h1;rw [show aB y (gR nw obs h.mem)=aB y h.mem from CS c7] at h2;rw [F0 x c6] at c3;rw [F0 y c7] at c4;exact d8 _ _ _ _ _ _ _ _ _ _ h1 h2 c3 c4 b3
 ·intro b l hb;rcases F3 b l hb with⟨_,h2⟩|⟨j,b0,h1,h2,h3⟩
  ·have:=k.lt b l h2;omega
  ·exact c0.lt b0 l h3
 ·intro b sz els f ro hb;show f.toNat<nx.toNat;rcases G b _ hb with⟨h1,h2,h3⟩|⟨j,sz1,ty,els1,a0,b0,f0,h1,h2,h3,h4,h5,h6⟩
  ·have:=k.famlt b _ _ _ _ h1;omega
  ·cases h3;exact c5 b (aX h1)
 ·intro f x hx;show x.toNat<nx.toNat;have:=k.flt f x hx;omega
 ·intro b ob l hb hl;rcases G b ob hb with⟨h1,h2,h3⟩|⟨j,sz1,ty,els1,a0,b0,f0,h1,h2,h3,h4,h5,h6⟩
  ·rw [F0 b h2] at hl;exact .inr ⟨b,ob,l,h1,hl,rfl,id⟩
  ·rw [F2 j b b0 h1 h2] at hl;exact .inl (a7 j b0 l h2 hl)
 ·intro b l hb b6;rw [F1 b b6] at hb;exact hb
 ·show h.next.toNat≤nx.toNat;omega
 ·intro b sz els f ro hb;rcases G b _ hb with⟨h1,h2,h3⟩|⟨j,sz1,ty,els1,a0,b0,f0,h1,h2,h3,h4,h5,h6⟩
  ·exact .inr ⟨b,sz,els,ro,h1⟩
  ·cases h3;exact .inl (a6 b (aX h1))
end
section
variable {P:Program} {m:Mp} {w:World}
theorem QG:∀{a b:List Ob},tB a b=true→a=b
 | [],[],_=>rfl
 | [],_::_,h=>by simp [tB] at h
 |_::_,[],h=>by simp [tB] at h
 |(n,t,x)::l,(n',t',y)::r,h=>by
  simp only [tB,aM] at h;rw [aV h.1,aV h.2.1,FQ h.2.2.1,QG h.2.2.2]
theorem OB {x y:V × List Ob} (h:zZ x y=true):x=y:=by
 obtain⟨a,b⟩:=x;obtain⟨c,d⟩:=y;simp only [zZ,aM] at h;rw [beq_eq h.1,QG h.2]
theorem JC:∀{a b:List Ent},rV a b=true→a=b
 | [],[],_=>rfl
 | [],_::_,h=>by simp [rV] at h
 |_::_,[],h=>by simp [rV] at h
 |⟨k,v,n⟩::l,⟨k',v',n'⟩::r,h=>by
  simp only [rV,aM] at h;have h1:=beq_eq h.1;have h2:=beq_eq h.2.1;have h3:=aV h.2.2.1;rw [h1,h2,h3,JC h.2.2.2]
theorem KG (hρ:∀b c l,rho lim [] b=some c→mp b=some l→mc c=some l) {v:V} {u:Value} (h:yB lim v=true) (k:R mp v u):R mc v u:=by
 unfold yB at h;split at h
 ·rename_i v' hv;have:=beq_eq h;subst this;exact uH hρ hv k
 ·cases h
theorem KH {lim:Nat} {mp mc:Mp} (hρ:∀b c l,rho lim [] b=some c→mp b=some l→mc c=some l):∀{es:List Ent} {xs:List MapEntry},uN lim es=true→bL mp es xs→bL mc es xs
 | [],_,_,k=>k
 |e::es,_,h,k=>by
  simp only [uN,aM] at h;obtain⟨x,xs,rfl,hx,hxs⟩:=k;exact⟨x,xs,rfl,⟨KG hρ h.1 hx.1,KG hρ h.2.1 hx.2.1,hx.2.2⟩,KH hρ h.2.2 hxs⟩
theorem DE {lim:Nat} {h hp:H}:∀{ms:List Id},uQ lim h hp ms=true→∀b∈ms,∃es c,aB b h.mem=some (.map es c)∧aB b hp.mem=some (.map es c)∧uN lim es=true
 | [],_,b,hb=>by cases hb
 | a::l,hk,b,hb=>by
  simp only [uQ,aM] at hk;rcases cD.1 hb with rfl|hb
  ·have h1:=hk.1;split at h1
   ·rename_i es c es' c' e1 e2;simp only [aM] at h1;have:=JC h1.1;have:=aV h1.2.1
    subst_vars
    exact⟨_,_,e1,e2,h1.2.2⟩
   ·cases h1
  ·exact DE hk.2 b hb
theorem PI {hp:H} {v vc:V} {obs:List Ob} (h:mP lim fuel nw hp v=some (vc,obs)):
  ∃olds fs,olds.length=nw.length∧jB olds=true∧bR (rho lim (olds.zip nw)) v=some vc∧lK hp (rho lim (olds.zip nw)) olds=some (fs,obs)∧jB fs=true:=by
 unfold mP at h;simp only at h;generalize kV hp lim fuel [v] []=olds at h;cases hb:(Nat.beq (mP.lenL' olds) (mP.lenL' nw)&&jB olds) with
 |false=>rw [hb] at h;cases h
 | true=>
  rw [hb] at h;simp only [cN] at h;rw [aM] at hb;split at h
  ·rename_i v' fs c7 h1 h2;cases hf:jB fs with
   |false=>rw [hf] at h;cases h
   |true=>
    rw [hf] at h;cases h;exact⟨olds,fs,aV hb.1,hb.2,h1,h2,hf⟩
  ·cases h
theorem out_ok {b4:H} (k:HR m h w) (sub:SubOf h M ms) (hF:Fr m ⟨M,h.fams,h.next⟩ w mp b4 w') {vp vc:V} {u:Value} (hR:R mp vp u)
  (a5:uQ h.next.toNat h b4 ms=true) {n fuel:Nat} {nw:List Id} {nx:Id} {obs:List Ob} (b2:mP h.next.toNat fuel nw b4 vp=some (vc,obs)) (hid:gF n h.next=some (nw,nx)):
  ∃mc,Fr m h w mc ⟨gR nw obs h.mem,h.fams,nx⟩ w'∧R mc vc u:=by
 obtain⟨olds,fs,a7,hnd,hrv,hro,hfs⟩:=PI b2;obtain⟨i1,i2,i3⟩:=qG hid;obtain⟨r1,r2,r3⟩:=xS hro;have c2:∀b,b∈nw→h.next.toNat≤b.toNat:=by
  intro b hb;obtain⟨j,hj⟩:=List.mem_iff_getElem?.1 hb;have:=i3 j b hj;omega
 have F1:∀i,i.toNat<h.next.toNat→fF nw olds mp m i=m i:=by
  intro i hi;unfold fF;rw [DS (fun hm=>by have:=c2 i hm;omega)]
 have a6:∀b c l,Nat.ble (Nat.succ b.toNat) h.next.toNat=true→some b=some c→mp b=some l→fF nw olds mp m c=some l:=by
  intro b c l h1 h2 h3;cases h2;have b7:b.toNat<h.next.toNat:=cK h1;rw [F1 b b7];exact hF.old b l h3 b7
 have hρ:∀b c l,rho h.next.toNat (olds.zip nw) b=some c→mp b=some l→fF nw olds mp m c=some l:=by
  intro b c l h1 h2;unfold rho at h1;cases hb:Nat.ble (Nat.succ b.toNat) h.next.toNat with
  |true=>rw [hb] at h1;exact a6 b c l hb h1 h2
  |false=>
   rw [hb] at h1;obtain⟨j,h3,h4⟩:=nN h1;unfold fF;rw [yU (fun j j' b a1 a2=>uU hid a1 a2) h4 h3];exact h2
 have hρ0:∀b c l,rho h.next.toNat [] b=some c→mp b=some l→fF nw olds mp m c=some l:=by
  intro b c l h1 h2;unfold rho at h1;cases hb:Nat.ble (Nat.succ b.toNat) h.next.toNat with
  |true=>rw [hb] at h1;exact a6 b c l hb h1 h2
  |false=>rw [hb] at h1;cases h1
 have a3:∀b ob,aB b M=some ob→iI ob→∃es c,ob= .map es c∧aB b h.mem=some (.map es c)∧b∈ms:=by
  intro b ob h1 h2;rcases sub b ob h1 with⟨sz,els,f,ro,rfl,_⟩|h3
  ·exact absurd rfl h2
  ·exact h3
 refine⟨fF nw olds mp m,PJ k hF.hr hF.size ?_ hF.os hF.tape hF.output hid a7 (sB hnd) hro hfs hρ ?_ ?_,uH hρ hrv hR⟩
 ·intro B hB hn;refine hF.keep B hB ?_;rintro⟨b1,ob1,l1,h1,h2,h3,h4⟩;obtain⟨es,c,rfl,h5,_⟩:=a3 b1 ob1 h1 h4;exact hn ⟨b1,_,l1,h5,h2,h3,trivial⟩
 ·intro j b l h1 h2;obtain⟨sz,els,f,ty,els',a1,_⟩:=r3 j b h1;rcases hF.back b _ l a1 h2 with h3|⟨b0,ob0,l0,h3,h4,h5,h6⟩
  ·exact h3
  ·obtain⟨es,c,rfl,h7,h8⟩:=a3 b0 ob0 h3 (h6 (by intro e;cases e));obtain⟨b8,c1,_,g2,_⟩:=DE a5 b0 h8;have c4:b≠b0:=fun e=>by subst e;rw [a1] at g2;cases g2
   exact(hF.hr.sep b b0 _ _ l l0 a1 g2 h2 (hF.le _ _ h4) c4 h5.symm).elim
 ·intro b ob l hb hl
  by_cases hw:Wb m ⟨M,h.fams,h.next⟩ l.blk
  ·obtain⟨b1,ob1,l1,h1,h2,h3,h4⟩:=hw;obtain⟨es,c,rfl,h5,h6⟩:=a3 b1 ob1 h1 h4;have b9:b=b1:=by
    by_cases e:b=b1
    ·exact e
    ·have hs:=k.sep b b1 ob _ l l1 hb h5 hl h2 e h3.symm;cases ob<;>exact hs.elim
   subst b9;rw [hb] at h5;cases h5;rw [hl] at h2;cases h2;obtain⟨b8,c1,g1,g2,g3⟩:=DE a5 b h6;rw [hb] at g1;cases g1;obtain⟨l2,hl2,es2,hat,hes⟩:=hF.hr.obj b _ g2;have:=hF.le _ _ hl;rw [this] at hl2;cases hl2;exact⟨es2,hat,KH hρ0 g3 hes⟩
  ·obtain⟨l',hl',ho⟩:=k.obj b ob hb;rw [hl] at hl';cases hl';refine ho.keep ?_ (hF.keep l.blk (k.lt b l hl) hw);intro i li hi;rw [F1 i (k.dom i li hi)];exact hi
theorem QX {p:CR→Bool}:∀{l:List CR},wJ p l=true→∀r∈l,p r=true
 | [],_,r,hr=>by cases hr
 |a::l,h,r,hr=>by
  simp only [wJ,aM] at h;rcases cD.1 hr with rfl|hr
  ·exact h.1
  ·exact QX h.2 r hr
theorem YG (hp:nE P=true) (a0:eN P call) (a8:P.follows .mixedOrders=true) {f:FuncId} {fn:Func} {c:Code} (hf:P.funcs[f]?=some fn) (hb:fn.body=some c)
  {vs:List V} {us:List Value} {h h':H} {v:V} (hr:HR m h w) (hg:Gl P m) (hR:Rl m vs us) (hv:(ndB P lf fuel fn c).run call vs h= .ok v h'):
  Calls P f ⟨us⟩ w (fun e w'=>∃u m',e= .returned u∧Fr m h w m' h' w'∧R m' v u):=by
 obtain⟨p1,p2,p3,p4⟩:=xW hp hf hb;unfold ndB at hv;obtain⟨b6,hv⟩:=DX hv;have a7:vs.length≤fn.ntmps:=by rw [jD] at b6;exact cK b6
 have hE:=GD hR a7 p1;have sub:=mA (h:=h) fuel vs Mem.new [] (fun b ob hb=>by rw [yN] at hb;cases hb);cases hM:iW h fuel vs Mem.new [] with
 |mk M ms=>
 rw [hM] at hv sub;simp only at hv sub;have hs:=hr.subOf sub;refine calls_of_wp_defers hf hb ?_;refine Cz (lf:=lf) a0 a8 c p2 m _ _ _ w _ hE hg hs ?_;cases hL:(gX P lf c).run call (lL 0 vs Env.new) ⟨M,h.fams,h.next⟩ with
 |nil=>rw [hL] at hv;cases hv
 |cons r0 rs=>
 rw [hL] at hv;simp only at hv;cases h0:sI P fn r0 with
 |bad=>rw [h0] at hv;cases hv
 |ok v1 h1=>
 rw [h0] at hv;simp only at hv;cases hid:gF (kV h1 h.next.toNat fuel [v1] []).length h.next with
 |none=>rw [hid] at hv;cases hv
 |some nn=>
 obtain⟨nw,nx⟩:=nn;rw [hid] at hv;simp only at hv;cases hcn:mP h.next.toNat fuel nw h1 v1 with
 |none=>rw [hcn] at hv;cases hv
 |some cn=>
 rw [hcn] at hv;simp only at hv;cases hal:wJ (DC P fn h.next.toNat fuel nw cn h ms) (r0::rs) with
 |false=>rw [hal] at hv;cases hv
 |true=>
 rw [hal] at hv;cases hv;intro r c5;have a4:=QX hal r c5;unfold DC at a4;have key:∀e1 h2,oY P fn.results.toList e1 h2=sI P fn r→∀m' a' w',Fr m ⟨M,h.fams,h.next⟩ w m' h2 w'→bD m' fn.ntmps e1 a'→
   Leaves P fn a'.tmps (fun e w'=>∃u m',e= .returned u∧Fr m h w m' ⟨gR nw cn.2 h.mem,h.fams,nx⟩ w'∧R m' cn.1 u) a'.defers .returning w':=by
  intro e1 h2 c3 m' a' w' hF b5;rw [←c3] at a4;unfold oY at a4;obtain⟨L,hL1,hDf⟩:=b5.dfr;split at a4
  ·rename_i vx c8 a9;split at a9
   ·rename_i b3;rw [b3] at hL1;cases hL1;simp only [DfrR] at hDf;rw [hDf];unfold vhO at a9;split at a9
    ·rename_i v' c6;cases a9;obtain⟨u,hu,hRu⟩:=CJ b5 hF.hr p3 c6;rw [aM] at a4;have h3:=a4.2;split at h3
     ·rename_i c' c0;have:=OB h3;subst this;obtain⟨mc,hFc,hRc⟩:=out_ok (vc:=c'.1) (obs:=c'.2) hr sub hF hRu a4.1 c0 hid;exact⟨u,hu,u,mc,rfl,hFc,hRc⟩
     ·cases h3
    ·cases a9
   ·cases a9
  ·cases a4
 cases r with
 |bad=>simp [sI] at a4
 |ext i e1 h2=>simp [sI] at a4
 |nrm e1 h2=>exact key e1 h2 rfl
 |ret e1 h2=>exact key e1 h2 rfl
theorem YF (hp:nE P=true) (a0:eN P call) (a8:P.follows .mixedOrders=true) {f:FuncId}
  {vs:List V} {us:List Value} {h h':H} {v:V} (hr:HR m h w) (hg:Gl P m) (hR:Rl m vs us) (hv:(ndF P lf fuel f).run call vs h= .ok v h'):
  cJ P ((callFunc f ⟨us⟩).run P w) m h w v h':=by
 unfold ndF at hv;cases hf:P.funcs[f]? with
 |none=>rw [hf] at hv;cases hv
 | some fn=>
  rw [hf] at hv;simp only at hv;cases hb:fn.body with
  |none=>rw [hb] at hv;cases hv
  |some c=>
   rw [hb] at hv;simp only at hv;exact .inr ⟨f,⟨us⟩,FJ hp hf hb _ _,YG hp a0 a8 hf hb hr hg hR hv⟩
end
abbrev Ib:=Nat × List (List V)
def uJ (h:H) (ρ:Id→Option Id):List Id→Option (List Id × List Ib)
 | []=>some ([],[])
 | b::l=>(match aB b h.mem with
  |some (.cells sz els f _)=>(match eQ ρ els,uJ h ρ l with
   |some els',some (fs,o)=>some (f::fs,(sz,els')::o)
   |_,_=>none)
  |_=>none)
def qS:List Ib→List Ib→Bool
 | [],[]=>true
 |(n,a)::l,(n',b)::r=>Nat.beq n n'&&(qR a b&&qS l r)
 |_,_=>false
def FF (fuel base:Nat) (args:List V) (h:H):Option (List V × List Ib × List Id):=
 match kV h 0 fuel args [] with
 |olds=>match gF olds.length (mH base) with
  | some (nw,_)=>bif jB olds then
    (match cM (rho 0 (olds.zip nw)) args,uJ h (rho 0 (olds.zip nw)) olds with
    |some a,some (fs,o)=>bif jB fs then some (a,o,olds) else none
    |_,_=>none) else none
  |none=>none
def mB:List Id→List Ib→Mem→Mem
 |b::nw,(sz,els)::o,M=>dC b (some (.cells sz els b .fz)) (mB nw o M)
 |_,_,M=>M
structure Memo where
 args:List V
 ins:List Ib
 res:V
 outs:List Ob
def kS (call:bP) (base fuel f:Nat) (mm:Memo):Bool:=
 match gF mm.ins.length (mH base) with
 | some (nw,nx)=>(match gF mm.outs.length nx with
  |some (nwR,_)=>(match call f mm.args ⟨mB nw mm.ins Mem.new,Fam.new,nx⟩ with
   | .ok v h'=>(match mP nx.toNat fuel nwR h' v with|some c=>zZ c (mm.res,mm.outs)|none=>false)
   | .bad=>false)
  |none=>false)
 |none=>false
def rho2 (p q:List (Id × Id)) (c:Id):Option Id:=match jC c p with|some b=>some b|none=>jC c q
def uI (ρ:Id→Option Id):List Ob→Option (List Ob)
 | []=>some []
 |(sz,ty,els)::l=>(match eQ ρ els,uI ρ l with
  |some e,some r=>some ((sz,ty,e)::r)
  |_,_=>none)
def DM (base:Nat) (mm:Memo) (olds:List Id) (h:H):VH:=
 match gF olds.length (mH base),gF mm.outs.length h.next with
 | some (nwT,nx0),some (nw2,nx)=>(match gF mm.outs.length nx0 with
  |some (nwR,_)=>(match bR (rho2 (nwT.zip olds) (nwR.zip nw2)) mm.res,uI (rho2 (nwT.zip olds) (nwR.zip nw2)) mm.outs with
   |some v,some obs=>.ok v ⟨gR nw2 obs h.mem,h.fams,nx⟩
   |_,_=>.bad)
  |none=>.bad)
 |_,_=>.bad
def vM (a:List V) (o:List Ib):List Memo→Option Memo
 | []=>none
 |mm::l=>bif iE a mm.args&&qS o mm.ins then some mm else vM a o l
def Ho (fuel base:Nat) (l:List Memo) (a0:FOp):FOp:=⟨fun call args h=>
 match FF fuel base args h with
 |none=>a0.run call args h
 |some (a,o,olds)=>match vM a o l with
  |none=>a0.run call args h
  |some mm=>DM base mm olds h⟩
section
variable {P:Program} {m:Mp} {w:World}
theorem vR:∀x,x<8→(dg x).toNat=x:=by decide
theorem zL (h:n<32768):(mH n).toNat=n:=by
 have h1:=vR (n/4096%8) (by omega);have h2:=vR (n/512%8) (by omega);have h3:=vR (n/64%8) (by omega);have h4:=vR (n/8%8) (by omega);have h5:=vR (n%8) (by omega);simp only [mH,Id.toNat,h1,h2,h3,h4,h5];omega
theorem zW (b:Id):aQ b Fam.new= []:=by
 obtain⟨a,b,c,d,e⟩:=b;simp [aQ,Fam.new,JA]
theorem QH:∀{a b:List Ib},qS a b=true→a=b
 | [],[],_=>rfl
 | [],_::_,h=>by simp [qS] at h
 |_::_,[],h=>by simp [qS] at h
 |(n,x)::l,(n',y)::r,h=>by
  simp only [qS,aM] at h;rw [aV h.1,FQ h.2.1,QH h.2.2]
theorem JS {h:H} {ρ:Id→Option Id}:∀{l fs:List Id} {o:List Ib},uJ h ρ l=some (fs,o)→fs.length=l.length∧o.length=l.length∧
  ∀(j:Nat) b,l[j]?=some b→∃sz els f ro els',aB b h.mem=some (.cells sz els f ro)∧eQ ρ els=some els'∧fs[j]?=some f∧o[j]?=some (sz,els')
 | [],_,_,h=>by simp only [uJ,cB,AW] at h;obtain⟨rfl,rfl⟩:=h;exact⟨rfl,rfl,fun j b hb=>by simp at hb⟩
 | a::l,_,_,h=>by
  simp only [uJ] at h;split at h
  ·rename_i sz els f ro hb;split at h
   ·rename_i els' fs o h1 h2;cases h;obtain⟨k1,k2,k3⟩:=JS h2;refine⟨by simp [k1],by simp [k2],?_⟩;intro j b hj;cases j with
    |zero=>simp at hj;subst hj;exact⟨sz,els,f,ro,els',hb,h1,rfl,rfl⟩
    |succ j=>simp at hj;obtain⟨a1,a2,a3,a4,a5,a6,a7,a8,a9⟩:=k3 j b hj;exact⟨a1,a2,a3,a4,a5,a6,a7,by simpa using a8,by simpa using a9⟩
   ·cases h
  ·cases h
theorem KB:∀{nw:List Id} {o:List Ib} {M:Mem} {b:Id} {ob:O},aB b (mB nw o M)=some ob→
  (aB b M=some ob)∨∃(j sz:Nat) (els:List (List V)),nw[j]?=some b∧o[j]?=some (sz,els)∧ob= .cells sz els b .fz
 | [],o,M,b,ob,h=>by simp only [mB] at h;exact .inl h
 |a::nw,[],M,b,ob,h=>by simp only [mB] at h;exact .inl h
 | a::nw,(sz,els)::o,M,b,ob,h=>by
  simp only [mB] at h
  by_cases e:b=a
  ·subst e;rw [fR] at h;cases h;exact .inr ⟨0,sz,els,rfl,rfl,rfl⟩
  ·rw [eM e] at h;rcases KB h with h1|⟨j,sz,els,h1,h2,h3⟩
   ·exact .inl h1
   ·exact .inr ⟨j+1,sz,els,by simpa using h1,by simpa using h2,h3⟩
def pW (ρ σ:Id→Option Id) (b:Id):Option Id:=(ρ b).bind σ
mutual
theorem JL {ρ σ:Id→Option Id}:∀{v v1 v2:V},bR ρ v=some v1→bR σ v1=some v2→bR (pW ρ σ) v=some v2
 | .top,_,_,h,_=>by simp [bR] at h
 | .b x,_,_,h,k=>by simp only [bR,cB] at h;subst h;exact k
 | .i _ _,_,_,h,k=>by simp only [bR,cB] at h;subst h;exact k
 | .s _ _,_,_,h,k=>by simp only [bR,cB] at h;subst h;exact k
 | .pn,_,_,h,k=>by simp only [bR,cB] at h;subst h;exact k
 | .p _ _,_,_,h,_=>by simp [bR] at h
 | .sn,_,_,h,k=>by simp only [bR,cB] at h;subst h;exact k
 | .sl b o len sz,_,_,h,k=>by
  simp only [bR] at h;cases hb:ρ b with
  |none=>rw [hb] at h;cases h
  |some c=>
   rw [hb] at h;cases h;simp only [bR] at k ⊢;simp only [pW,hb,RK];exact k
 | .se,_,_,h,k=>by simp only [bR,cB] at h;subst h;exact k
 | .mn,_,_,h,k=>by simp only [bR,cB] at h;subst h;exact k
 | .mp _,_,_,h,_=>by simp [bR] at h
 | .fn _ _ _,_,_,h,_=>by simp [bR] at h
 | .nf,_,_,h,k=>by simp only [bR,cB] at h;subst h;exact k
 | .ni,_,_,h,k=>by simp only [bR,cB] at h;subst h;exact k
 | .agg l,_,_,h,k=>by
  simp only [bR] at h;cases hl:cM ρ l with
  |none=>rw [hl] at h;cases h
  |some l'=>
   rw [hl] at h;cases h;simp only [bR] at k ⊢;cases hk:cM σ l' with
   |none=>rw [hk] at k;cases k
   |some l2=>rw [hk] at k;rw [xT hl hk];exact k
 | .tup l,_,_,h,k=>by
  simp only [bR] at h;cases hl:cM ρ l with
  |none=>rw [hl] at h;cases h
  |some l'=>
   rw [hl] at h;cases h;simp only [bR] at k ⊢;cases hk:cM σ l' with
   |none=>rw [hk] at k;cases k
   |some l2=>rw [hk] at k;rw [xT hl hk];exact k
theorem xT {ρ σ:Id→Option Id}:∀{l l1 l2:List V},cM ρ l=some l1→cM σ l1=some l2→cM (pW ρ σ) l=some l2
 | [],_,_,h,k=>by simp only [cM,cB] at h;subst h;exact k
 | v ::l,_,_,h,k=>by
  simp only [cM] at h;cases hv:bR ρ v with
  |none=>rw [hv] at h;cases h
  | some v1=>
   cases hl:cM ρ l with
   |none=>rw [hv,hl] at h;cases h
   | some l1=>
    rw [hv,hl] at h;cases h;simp only [cM] at k ⊢;cases kv:bR σ v1 with
    |none=>rw [kv] at k;cases k
    |some v2=>
     cases kl:cM σ l1 with
     |none=>rw [kv,kl] at k;cases k
     |some l2=>rw [kv,kl] at k;cases k;rw [JL hv kv,xT hl kl]
end
theorem JR {ρ σ:Id→Option Id}:∀{l l1 l2:List (List V)},eQ ρ l=some l1→eQ σ l1=some l2→eQ (pW ρ σ) l=some l2
 | [],_,_,h,k=>by simp only [eQ,cB] at h;subst h;exact k
 | v ::l,_,_,h,k=>by
  simp only [eQ] at h;cases hv:cM ρ v with
  |none=>rw [hv] at h;cases h
  | some v1=>
   cases hl:eQ ρ l with
   |none=>rw [hv,hl] at h;cases h
   | some l1=>
    rw [hv,hl] at h;cases h;simp only [eQ] at k ⊢;cases kv:cM σ v1 with
    |none=>rw [kv] at k;cases k
    |some v2=>
     cases kl:eQ σ l1 with
     |none=>rw [kv,kl] at k;cases k
     |some l2=>rw [kv,kl] at k;cases k;rw [xT hv kv,JR hl kl]
theorem JM {hp:H} {ρ σ:Id→Option Id}:∀{l fs:List Id} {obs b9:List Ob},lK hp ρ l=some (fs,obs)→uI σ obs=some b9→lK hp (pW ρ σ) l=some (fs,b9)
 | [],_,_,_,h,k=>by simp only [lK,cB,AW] at h;obtain⟨rfl,rfl⟩:=h;simp only [uI,cB] at k;subst k;rfl
 | a ::l,_,_,_,h,k=>by
  simp only [lK] at h ⊢;split at h
  ·rename_i sz els f ty hb;split at h
   ·rename_i els' fs obs h1 h2;cases h;simp only [uI] at k;split at k
    ·rename_i e r k1 k2;cases k;rw [JR h1 k1,JM h2 k2]
    ·cases k
   ·cases h
  ·cases h
theorem cJ.tr {r:Result Next} {h1 d0 h':H} {v1 v:V} (hk:cJ P r m1 h1 w v1 d0)
  (t:∀u m' w',Fr m1 h1 w m' d0 w'→R m' v1 u→∃m2,Fr m h w m2 h' w'∧R m2 v u) (f9:∀m' w',Fr m1 h1 w m' d0 w'→R m' v1 undef→True:=fun _ _ _ _=>trivial):cJ P r m h w v h':=by
 rcases hk with⟨u,w',m',hr,hF,hR⟩|⟨f,us,hr,hC⟩
 ·obtain⟨m2,h2,h3⟩:=t u m' w' hF hR;exact .inl ⟨u,w',m2,hr,h2,h3⟩
 ·refine .inr ⟨f,us,hr,Calls.mono hC ?_⟩;rintro e w' ⟨u,m',rfl,hF,hR⟩;obtain⟨m2,h2,h3⟩:=t u m' w' hF hR;exact⟨u,m2,rfl,h2,h3⟩
def kQ (base:Nat) (b2 olds:List Id) (m:Mp):Mp:=fun i=>bif Nat.ble (Nat.succ i.toNat) base then m i else match jC i (b2.zip olds) with|some b=>m b|none=>none
theorem YQ {base b8:Nat} {f:FuncId} {mm:Memo} (a0:kS call base fuel f mm=true) (c2:eN P call) (d7:P.globals.size≤base) (d2:base<32768)
  {vs:List V} {us:List Value} {h h':H} {v:V} {olds:List Id} (hr:HR m h w) (hg:Gl P m) (hR:Rl m vs us) (f8:base≤h.next.toNat)
  (b3:FF b8 base vs h=some (mm.args,mm.ins,olds)) (hv:DM base mm olds h= .ok v h'):cJ P ((callFunc f ⟨us⟩).run P w) m h w v h':=by
 unfold FF at b3;simp only at b3;generalize kV h 0 b8 vs []=O at b3;cases hid:gF O.length (mH base) with
 |none=>rw [hid] at b3;cases b3
 |some nn=>
 obtain⟨b2,nx0⟩:=nn;rw [hid] at b3;simp only at b3;cases hnd:jB O with
 |false=>rw [hnd] at b3;cases b3
 |true=>
 rw [hnd] at b3;simp only [cN] at b3;split at b3
 case h_2=>cases b3
 rename_i a fs o f2 f3;cases hfs:jB fs with
 |false=>rw [hfs] at b3;cases b3
 |true=>
 rw [hfs] at b3;simp only [cN,cB,AW] at b3;obtain⟨rfl,rfl,rfl⟩:=b3;obtain⟨i1,i2,i3⟩:=qG hid;rw [zL d2] at i2 i3;obtain⟨r1,r2,r3⟩:=JS f3;have b7:∀b,b∈b2→base≤b.toNat∧b.toNat<nx0.toNat:=by
  intro b hb;obtain⟨j,hj⟩:=List.mem_iff_getElem?.1 hb;have:=i3 j b hj;have:=(List.getElem?_eq_some_iff.1 hj).1;omega
 have T1:∀i,i.toNat<base→kQ base b2 O m i=m i:=by
  intro i hi;unfold kQ;rw [show Nat.ble (Nat.succ i.toNat) base=true from Nat.ble_eq_true_of_le hi];rfl
 have T2:∀(j:Nat) c b,b2[j]?=some c→O[j]?=some b→kQ base b2 O m c=m b:=by
  intro j c b h1 h2;have:=(b7 c (aX h1)).1;unfold kQ;rw [show Nat.ble (Nat.succ c.toNat) base=false by cases e:Nat.ble (Nat.succ c.toNat) base with|false=>rfl|true=>have:=cK e;omega];simp only [jZ];rw [yU (fun j j' b a1 a2=>uU hid a1 a2) h1 h2]
 have T3:∀i l,kQ base b2 O m i=some l→(i.toNat<base∧m i=some l)∨∃(j:Nat) (b:Id),b2[j]?=some i∧O[j]?=some b∧m b=some l:=by
  intro i l hi;unfold kQ at hi;cases hb:Nat.ble (Nat.succ i.toNat) base with
  |true=>rw [hb] at hi;exact .inl ⟨cK hb,hi⟩
  | false=>
   rw [hb] at hi;simp only [jZ] at hi;split at hi
   ·rename_i b c5;obtain⟨j,h1,h2⟩:=nN c5;exact .inr ⟨j,b,h1,h2,hi⟩
   ·cases hi
 have hρT:∀b c l,rho 0 (O.zip b2) b=some c→m b=some l→kQ base b2 O m c=some l:=by
  intro b c l h1 h2;unfold rho at h1;rw [show Nat.ble (Nat.succ b.toNat) 0=false from rfl] at h1;obtain⟨j,h3,h4⟩:=nN h1;rw [T2 j c b h4 h3];exact h2
 have d8:Rl (kQ base b2 O m) mm.args us:=xU hρT f2 hR;have e6:Gl P (kQ base b2 O m):=by
  intro g d4;obtain⟨lim,hl⟩:=hg g d4;exact⟨lim,by rw [T1 _ (by rw [zL (by omega)];omega)];exact hl⟩
 have b4:∀b ob,aB b (mB b2 mm.ins Mem.new)=some ob→∃(j sz:Nat) (els b6:List (List V)) (b0 f0:Id) (ro:Rw),b2[j]?=some b∧O[j]?=some b0∧ob= .cells sz els b .fz∧aB b0 h.mem=some (.cells sz b6 f0 ro)∧eQ (rho 0 (O.zip b2)) b6=some els∧fs[j]?=some f0:=by
  intro b ob hb;rcases KB hb with h1|⟨j,sz,els,h1,h2,h3⟩
  ·rw [yN] at h1;cases h1
  ·have e7:j<O.length:=by rw [←i1];exact(List.getElem?_eq_some_iff.1 h1).1
   have d6:=aL e7;obtain⟨sz1,els1,f1,ro1,els1',a1,a2,a3,a4⟩:=r3 j _ d6;rw [h2] at a4;cases a4;exact⟨j,sz,els,els1,_,f1,ro1,h1,d6,h3,a1,a2,a3⟩
 have e9:HR (kQ base b2 O m) ⟨mB b2 mm.ins Mem.new,Fam.new,nx0⟩ w:=by
  refine⟨?_,?_,?_,?_,?_,?_,?_,?_⟩
  ·intro b ob hb;obtain⟨j,sz,els,b6,b0,f0,ro,h1,h2,rfl,h4,h5,h6⟩:=b4 b ob hb;obtain⟨l,hl,C,t,fz,hc⟩:=hr.obj b0 _ h4;have c0:=hc.ren hρT h5;exact⟨l,by rw [T2 j b b0 h1 h2];exact hl,C,t,fz,⟨c0.at_,c0.room,c0.len,c0.each,c0.val,(fun e=>by cases e),(fun e=>by cases e),(fun ty e=>by cases e),c0.al⟩⟩
  ·intro b l hb;show b.toNat<nx0.toNat;rcases T3 b l hb with⟨h1,_⟩|⟨j,b0,h1,_,_⟩
   ·omega
   ·exact(b7 b (aX h1)).2
  ·intro b b' ob f5 l l' hb d1 hl c4 d5 e4;obtain⟨j,sz,els,b6,b0,f0,ro,h1,h2,rfl,h4,h5,h6⟩:=b4 b ob hb;obtain⟨j',f6,els',els0',b0',f0',ro',g1,g2,rfl,g4,g5,g6⟩:=b4 b' f5 d1;rw [T2 j b b0 h1 h2] at hl;rw [T2 j' b' b0' g1 g2] at c4;have c9:j≠j':=fun e=>by subst e;rw [h1] at g1;cases g1;exact d5 rfl
   have e0:b0≠b0':=fun e=>by subst e;exact c9 (sB hnd j j' b0 h2 g2)
   have hs:f0=f0':=hr.sep b0 b0' _ _ l l' h4 g4 hl c4 e0 e4;subst hs;exact(c9 (sB hfs j j' f0 h6 g6)).elim
  ·intro b b' sz els f ro f6 els' ro' hb d1 d5;obtain⟨j,_,_,_,b0,f0,_,h1,h2,h3,_⟩:=b4 b _ hb;obtain⟨j',_,_,_,b0',f0',_,g1,g2,g3,_⟩:=b4 b' _ d1;cases h3;cases g3;exact(d5 rfl).elim
  ·intro f;show List.Pairwise _ (aQ f Fam.new);rw [zW];exact List.Pairwise.nil
  ·intro b l hb;rcases T3 b l hb with⟨_,h1⟩|⟨j,b0,_,_,h1⟩
   ·exact hr.lt b l h1
   ·exact hr.lt b0 l h1
  ·intro b sz els f ro hb;obtain⟨j,_,_,_,b0,f0,_,h1,h2,h3,_⟩:=b4 b _ hb;cases h3;exact(b7 b (aX h1)).2
  ·intro f x hx;have hx:x∈aQ f Fam.new:=hx;rw [zW] at hx;cases hx
 unfold kS at a0;rw [show mm.ins.length=O.length from r2,hid] at a0;simp only at a0;cases hidR:gF mm.outs.length nx0 with
 |none=>rw [hidR] at a0;cases a0
 |some nn=>
 obtain⟨c8,nxR⟩:=nn;rw [hidR] at a0;simp only at a0;cases hcl:call f mm.args ⟨mB b2 mm.ins Mem.new,Fam.new,nx0⟩ with
 |bad=>rw [hcl] at a0;cases a0
 |ok vT hpp=>
 rw [hcl] at a0;simp only at a0;cases hcan:mP nx0.toNat fuel c8 hpp vT with
 |none=>rw [hcan] at a0;cases a0
 |some cn=>
 rw [hcan] at a0;simp only at a0;have:=OB a0;subst this;have hH:=c2 f mm.args us (kQ base b2 O m) _ w vT hpp e9 e6 d8 hcl;unfold DM at hv;rw [hid] at hv;cases hid2:gF mm.outs.length h.next with
 |none=>rw [hid2] at hv;cases hv
 |some nn=>
 obtain⟨c7,nx⟩:=nn;rw [hid2] at hv;simp only [hidR] at hv;split at hv
 case h_2=>cases hv
 rename_i v2 b9 f4 e8;cases hv;refine hH.tr ?_;intro u mp w' hF d9;obtain⟨b5,fs2,hlen2,hnd2,hrv2,hro2,hfs2⟩:=PI hcan;obtain⟨j1,j2,j3⟩:=qG hidR;obtain⟨q1,q2,q3⟩:=qG hid2;obtain⟨e1,e2,e3⟩:=xS hro2;have c3:∀b,b∈c8→nx0.toNat≤b.toNat:=by
  intro b hb;obtain⟨j,hj⟩:=List.mem_iff_getElem?.1 hb;have:=j3 j b hj;omega
 have d3:∀b,b∈c7→h.next.toNat≤b.toNat:=by
  intro b hb;obtain⟨j,hj⟩:=List.mem_iff_getElem?.1 hb;have:=q3 j b hj;omega
 have C1:∀i l,m i=some l→fF c7 b5 mp m i=some l:=by
  intro i l hi;have:=hr.dom i l hi;unfold fF;rw [DS (fun hm=>by have:=d3 i hm;omega)];exact hi
 have c6:∀B,¬Wb (kQ base b2 O m) ⟨mB b2 mm.ins Mem.new,Fam.new,nx0⟩ B:=by
  rintro B ⟨b1,ob1,l1,h1,h2,h3,h4⟩;obtain⟨j,_,_,_,b0,f0,_,_,_,rfl,_⟩:=b4 b1 ob1 h1;exact h4 rfl
 have hρF:∀b c l,pW (rho nx0.toNat (b5.zip c8)) (rho2 (b2.zip O) (c8.zip c7)) b=some c→mp b=some l→fF c7 b5 mp m c=some l:=by
  intro b c l h1 h2;unfold pW at h1;cases hc1:rho nx0.toNat (b5.zip c8) b with
  |none=>rw [hc1] at h1;cases h1
  | some c1=>
   rw [hc1] at h1;simp only [RK] at h1;unfold rho at hc1;unfold rho2 at h1;cases hb:Nat.ble (Nat.succ b.toNat) nx0.toNat with
   | true=>
    rw [hb] at hc1;simp only [cN,cB] at hc1;subst hc1;have d4:b.toNat<nx0.toNat:=cK hb;split at h1
    ·rename_i b0 c5;cases h1;obtain⟨j,g1,g2⟩:=nN c5;have:=hF.old b l h2 d4;rw [T2 j b c g1 g2] at this;exact C1 c l this
    ·obtain⟨j,g1,g2⟩:=nN h1;have:=c3 b (aX g1);omega
   | false=>
    rw [hb] at hc1;obtain⟨j,g1,g2⟩:=nN hc1;have f7:=c3 c1 (aX g2);split at h1
    ·rename_i b0 c5;obtain⟨j',g3,_⟩:=nN c5;have:=(b7 c1 (aX g3)).2;omega
    ·obtain⟨j',g3,g4⟩:=nN h1;have c9:j=j':=uU hidR g2 g3;subst c9;unfold fF;rw [yU (fun j j' b a1 a2=>uU hid2 a1 a2) g4 g1];exact h2
 refine⟨fF c7 b5 mp m,PJ hr hF.hr hF.size (fun B hB _=>hF.keep B hB (c6 B)) hF.os hF.tape hF.output hid2 (by rw [hlen2,j1,q1]) (sB hnd2) (JM hro2 e8) hfs2 hρF ?_ ?_,uH hρF (JL hrv2 f4) d9⟩
 ·intro j b l h1 h2;obtain⟨sz,els,f1,ty,els',a1,_⟩:=e3 j b h1;rcases hF.back b _ l a1 h2 with h3|⟨b0,ob0,l0,h3,h4,h5,h6⟩
  ·exact h3
  ·obtain⟨_,_,_,_,_,_,_,_,_,rfl,_⟩:=b4 b0 ob0 h3;exact absurd rfl (h6 (by intro e;cases e))
 ·intro b ob l hb hl;obtain⟨l',c4,ho⟩:=hr.obj b ob hb;rw [hl] at c4;cases c4;exact ho.keep (fun i li hi=>C1 i li hi) (hF.keep l.blk (hr.lt b l hl) (c6 _))
theorem NP {a:List V} {o:List Ib}:∀{l:List Memo} {mm:Memo},vM a o l=some mm→mm∈l∧a=mm.args∧o=mm.ins
 | [],_,h=>by simp [vM] at h
 | x::l,mm,h=>by
  simp only [vM] at h;cases hb:(iE a x.args&&qS o x.ins) with
  |true=>
   rw [hb] at h;cases h;rw [aM] at hb;exact⟨tS,qQ hb.1,QH hb.2⟩
  |false=>
   rw [hb] at h;obtain⟨h1,h2⟩:=NP h;exact⟨pR _ h1,h2⟩
end
def cmpF:FOp:=⟨fun _ args h=>match args with
 | [.s l c,.s l' c']=>.ok (.i .i64 (bif sEq l c l' c' then 0 else bif ltB (cW l c) (cW l' c') then-1 else 1)) h
 |_=>.bad⟩
def xJ:FOp:=⟨fun _ args h=>match args with| [x]=>.ok x h|_=>.bad⟩
end
end Go.Ev
