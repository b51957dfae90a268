/- Lemmas for the text Card; no condition. -/
import Derived.Test.YtbdpdeonapmlgaaGreatDoorAz
import Derived.Laws.Unary
import Derived.Laws.Strings
import Derived.Laws.Strings2
import Derived.Laws.Concat
import Derived.Laws.StructEq
import Derived.Laws.Entries
set_option linter.all false
set_option maxHeartbeats 2000000
namespace Go.Ev
variable {t kt t':TypeId} {op:BinOp} {s:ByteArray} {v r:V} {x:Option Bool} {ds d:TypeDesc} {h:H} {c n c' i:Nat} {l:List V} {a:Act} {e:Env}
section
variable {P:Program} {m:Mp} {w:World}
theorem GF {x:Option (List V)} (h:lT x=some r):∃l,x=some l∧r= .agg l:=by
 cases x with
 |none=>cases h
 |some l=>cases h;exact⟨l,rfl,rfl⟩
theorem AT {k:Nat→Option V} (h:asN v k=some r):∃kk n,v= .i kk (.ofNat n)∧k n=some r:=by
 obtain⟨kk,n,rfl,h⟩:=mS h;cases n with
 |ofNat n=>exact⟨kk,n,rfl,h⟩
 |negSucc n=>cases h
theorem DG:∀(l:List Field) (i:Nat),qF l i=l[i]?
 | [],i=>by cases i<;>rfl
 |a::l,0=>rfl
 |a::l,i+1=>by rw [qF,DG l i];rfl
theorem mU {u:Value} (h:R m (.agg l) u):∃l',u= .agg ⟨l'⟩∧Rl m l l'∧∀x∈l',cZ x:=by simpa only [R] using h
theorem qB {off:Nat} {l':List Value} (hu:P.underlying t=some d) (hn:bH P t=some n) (hl:Rl m l l') (hs:∀x∈l',cZ x)
  (hv:kL (eK P t) off n l=some v):∃u,(part t ⟨l'⟩ off).run P w= .ok u w∧R m v u:=by
 unfold kL at hv;rcases nQ hv with⟨ha,hv⟩|⟨ha,hv⟩
 ·obtain⟨x,hx,rfl⟩:=GF hv;rw [gV] at hx;obtain⟨a5,rfl⟩:=BT _ _ _ hx;refine⟨.agg ((⟨l'⟩:Array Value).extract off (off+n)),?_,?_⟩
  ·simp only [part,aY,zG hu,cF,ha,if_true,gM hn,bZ]
  ·simp only [R];refine⟨(l'.drop off).take n,?_,(hl.drop off).take n,fun x hx=>hs x (wU (iQ hx))⟩;congr 1;apply Array.toList_inj.1;simp [List.extract_eq_take_drop]
 ·rw [qE] at hv;obtain⟨u,hu',hR⟩:=hl.get hv;refine⟨u,?_,hR⟩;have:(⟨l'⟩:Array Value)[off]?=some u:=by simpa using hu'
  simp [part,zG hu,ha,this]
theorem LQ (k:HR m h w) {t:TypeId} {d:TypeDesc} {n:Nat} {x:V} {u:Value} {v:V} (hd:P.underlying t=some d) (hn:bH P t=some n) (hx:R m x u)
  (hv:gP x (fun b o=>dK (eK P t) (lT (rd h b o n)) (rd1 h b o)) none=some v):∃u',(Instr.loadAt t u).run P w= .ok u' w∧R m v u':=by
 obtain⟨b,o,rfl,hv⟩:=qX hv;simp only [R] at hx;obtain⟨l,hl,rfl⟩:=hx;rcases nQ hv with⟨ha,hv⟩|⟨ha,hv⟩
 ·obtain⟨xs,hxs,rfl⟩:=GF hv;obtain⟨l2,us,hl2,a0,hR,hs,hc⟩:=WK k hxs;rw [hl] at hl2;cases hl2;refine⟨.agg ⟨us⟩,?_,by simp only [R];exact⟨us,rfl,hR,hs⟩⟩;have a2:(loadCells ⟨l.blk,l.base+o,none⟩ n).run P w= .ok ⟨us⟩ w:=by
   have:=RD (P:=P) (w:=w) ⟨l.blk,l.base+o,none⟩ us (fun j v hv=>by rw [mT];exact hc j v hv);rw [←a0,←hR.length];simpa using this
  simp [Instr.loadAt,Instr.sureAddr,loadVar,zG hd,ha,gM hn,a2]
 ·have hc:∃u',w.cell? ⟨l.blk,l.base+o,none⟩=some u'∧R m v u':=by
   unfold rd1 at hv;cases hb:aB b h.mem with
   |none=>rw [hb] at hv;cases hv
   | some ob=>
    rw [hb] at hv;cases ob with
    |map _ _=>cases hv
    |miter _ _ _ _=>cases hv
    | cells sz els f ro=>
     have a1:(Option.rec (motive:=fun _=>Option V) none (fun el=>kO el (Nat.mod o sz)) (lM els (Nat.div o sz)):Option V)=some v:=hv;rw [uT] at a1;cases he:els[Nat.div o sz]? with
     |none=>rw [he] at a1;cases a1
     | some el=>
      rw [he] at a1;have a3:kO el (o%sz)=some v:=a1;rw [qE] at a3;obtain⟨l2,hl2,C,t2,fz,hcs⟩:=k.obj _ _ hb;rw [hl] at hl2;cases hl2;have a6:=(List.getElem?_eq_some_iff.1 a3).1;have a0:=hcs.each el (aX he);have hf:=flat_get hcs.each he (o%sz) (by omega);rw [a3] at hf;obtain⟨u',hu',hR,_⟩:=hcs.val _ _ hf;have hi:Nat.div o sz*sz+o%sz=o:=by
       have:=kD o sz;rw [bG] at this;exact this
      rw [hi] at hu';exact⟨u',by rw [sW hcs.at_,hu'],hR⟩
  obtain⟨u',hu',hR⟩:=hc;exact⟨u',by simp [Instr.loadAt,Instr.sureAddr,loadVar,zG hd,ha,hu'],hR⟩
theorem HL (k:IntKind) (n:Int):wY k n=k.wrap n:=by
 cases n with
 |negSucc m=>rfl
 | ofNat m=>
  show(Bool.rec (motive:=fun _=>Int) (k.wrap (.ofNat m)) (.ofNat m) (Nat.ble m (thr k)):Int)=_;cases e:Nat.ble m (thr k) with
  |false=>rfl
  |true=>
   have hm:=cK e;symm;cases k<;>simp only [thr] at hm<;>simp only [IntKind.wrap,IntKind.bits,IntKind.signed]<;>simp<;>omega
theorem zD (j k:IntKind):kEq j k=true↔j=k:=by cases j<;>cases k<;>simp [kEq]
theorem zM (a b:Int):iLt a b=decide (a<b):=by
 cases a with
 | ofNat x=>cases b with
  |ofNat y=>
   show Nat.ble (Nat.succ x) y=_;rw [iT];simp [Nat.ble_eq];omega
  |negSucc y=>show false=_;symm;simp;omega
 | negSucc x=>cases b with
  |ofNat y=>show true=_;symm;simp;omega
  |negSucc y=>
   show Nat.ble (Nat.succ y) x=_;rw [iT];simp [Nat.ble_eq];omega
theorem MS (a b:Int):iEq a b=(a==b):=by
 cases a with
 |ofNat x=>cases b with
  |ofNat y=>show Nat.beq x y=_;rw [iT];simp [BD];omega
  |negSucc y=>show false=_;symm;simp
 |negSucc x=>cases b with
  |ofNat y=>show false=_;symm;simp
  |negSucc y=>show Nat.beq x y=_;rw [iT];simp [BD]
theorem ZZ (a b:Int):iAdd a b=a+b:=by
 cases a with
 |ofNat x=>cases b with
  |ofNat y=>rfl
  |negSucc y=>rfl
 |negSucc x=>rfl
theorem ZY (a b:Int):iSub a b=a-b:=by
 cases a with
 | ofNat x=>cases b with
  | ofNat y=>
   show(Bool.rec (motive:=fun _=>Int) (Int.sub (.ofNat x) (.ofNat y)) (.ofNat (Nat.sub x y)) (Nat.ble y x):Int)=_;cases e:Nat.ble y x with
   |false=>rfl
   |true=>
    have:=cK e;show Int.ofNat (x-y)=Int.ofNat x-Int.ofNat y;simp;omega
  |negSucc y=>rfl
 |negSucc x=>rfl
theorem ZP {k:IntKind} {a b:Int} (t:TypeId) (a4:op≠ .shl∧op≠ .shr) (h:(zI op).run k a b=some v):
  ∃u,(binOp op t (.int k a) (.int k b)).run P w= .ok u w∧R m v u:=by
 obtain⟨h1,h2⟩:=a4;cases op<;>simp only [zI] at h<;>first
  |exact absurd rfl h1
  |exact absurd rfl h2
  |(cases h;done)
  |skip
 all_goals
  cases h;refine⟨_,by simp only [binOp,ne_eq,not_true_eq_false,eY,Op.intArith,Op.intBits,Op.intCmp,bZ];rfl,?_⟩;simp only [R,HL,ZZ,ZY,MS,zM]
 all_goals first
  |rfl
  |(congr 1;rw [iT];simp;done)
  |(congr 1;rw [iT];simp;omega)
  |(simp;done)
end
section
variable {P:Program} {m:Mp} {w:World}
theorem LI:∀(l r:List UInt8),l.map UInt8.toNat=r.map UInt8.toNat→l=r
 | [],r,h=>by cases r with|nil=>rfl|cons _ _=>simp at h
 |a::l,[],h=>by simp at h
 |a::l,b::r,h=>by
  simp only [gB,jL] at h;rw [UInt8.toNat_inj.1 h.1,LI l r h.2]
theorem CB {t:ByteArray} {l l':Nat} (h:dQ s=cW l c) (hc:c<256^l) (h':dQ t=cW l' c') (a0:c'<256^l'):sEq l c l' c'=(s.toList==t.toList):=by
 rw [lD,lD,iT];simp only [sEq,aM,BD,rB];constructor
 ·rintro⟨rfl,rfl⟩;exact LI _ _ (h.trans h'.symm)
 ·intro e;have hb:dQ s=dQ t:=by unfold dQ;rw [e]
  have hl:l=l':=by rw [←AI l c,←h,hb,h',AI]
  subst hl;exact⟨rfl,PM _ _ _ hc a0 (by rw [←h,hb,h'])⟩
theorem LM:∀(x y:List UInt8),ltB (x.map UInt8.toNat) (y.map UInt8.toNat)=Op.bytesLess x y
 |x,[]=>by cases x<;>rfl
 | [],_::_=>rfl
 | a::x,b::y=>by
  simp only [gB,ltB,Op.bytesLess,LM x y];have e1:Nat.blt a.toNat b.toNat=decide (a<b):=by
   rw [iT];simp [Nat.blt,Nat.ble_eq,Fw];omega
  have e2:Nat.beq a.toNat b.toNat=(a==b):=by
   rw [iT];simp [BD,UInt8.toNat_inj]
  rw [e1,e2];cases decide (a<b)<;>cases (a==b)<;>simp
theorem YZ {t:ByteArray} {l l':Nat} (h:dQ s=cW l c) (h':dQ t=cW l' c'):ltB (cW l c) (cW l' c')=Op.bytesLess s.toList t.toList:=by
 rw [lD,lD,←h,←h'];exact LM _ _
theorem PR:∀(l c l' c':Nat),c<256^l→cW l c++cW l' c'=cW (l+l') (c+c'*256^l)
 |0,c,l',c',h=>by simp at h;subst h;simp [cW]
 | l+1,c,l',c',h=>by
  have a1:c/256<256^l:=by rw [eB] at h;omega
  have e1:(c+c'*256^(l+1))%256=c%256:=by
   rw [eB,←cU,Gh]
  have e2:(c+c'*256^(l+1))/256=c/256+c'*256^l:=by
   rw [eB,←cU,Nat.add_mul_div_right _ _ (by decide)]
  have e3:l+1+l'=(l+l')+1:=by omega
  rw [e3];simp only [cW,oJ,e1,e2,PR l (c/256) l' c' a1]
theorem Cy {l l':Nat} (h:c<256^l) (h':c'<256^l'):c+c'*256^l<256^(l+l'):=by
 have:(c'+1)*256^l≤256^l'*256^l:=eI _ h';rw [rG,bG (256^l)];rw [gI] at this;omega
theorem IU (c l:Nat):c<<<(8*l)=c*256^l:=by
 rw [wQ,rF]
theorem IS (c l:Nat):c>>>(8*l)=c/256^l:=by
 rw [Nat.shiftRight_eq_div_pow,rF]
theorem PO:∀(l c i:Nat),i<l→(cW l c)[i]?=some (c/256^i%256)
 |0,c,i,h=>by omega
 |l+1,c,0,h=>by simp [cW]
 |l+1,c,i+1,h=>by
  simp only [cW,List.getElem?_cons_succ];rw [PO l (c/256) i (by omega),Gd,eB,bG 256]
theorem PP:∀(k l c:Nat),(cW l c).drop k=cW (l-k) (c/256^k)
 |0,l,c=>by simp
 |k+1,0,c=>by simp [cW]
 |k+1,l+1,c=>by
  simp only [cW,bF];rw [PP k l (c/256),Gd,eB,bG 256];congr 1;omega
theorem PL:∀(k l c:Nat),k≤l→(cW l c).take k=cW k (c%256^k)
 |0,l,c,h=>by simp [cW]
 |k+1,0,c,h=>by omega
 | k+1,l+1,c,h=>by
  have e1:c%256^(k+1)%256=c%256:=by
   rw [eB,bG];exact Nat.mod_mul_right_mod _ _ _
  have e2:c%256^(k+1)/256=c/256%256^k:=by
   rw [eB,bG];exact Nat.mod_mul_right_div_self _ _ _
  simp only [cW,bB,e1,e2,PL k l (c/256) (by omega)]
theorem Ec (s t:ByteArray):dQ (s++t)=dQ s++dQ t:=by
 simp [dQ,ByteArray.data_append]
theorem Eb (s:ByteArray) (i j:Nat):dQ (s.extract i j)=((dQ s).drop i).take (j-i):=by
 obtain⟨⟨l⟩⟩:=s;have:=ByteArray.extract_mk l i j;rw [show(ByteArray.mk ⟨l⟩).extract i j=(ByteArray.mk l.toArray).extract i j from rfl,this];simp [dQ,List.map_take,List.map_drop]
theorem UF {l l':Nat} {x y:Value} (t:TypeId) (hx:R m (.s l c) x) (hy:R m (.s l' c') y) (h:(BW op).run l c l' c'=some v):
  ∃u,(binOp op t x y).run P w= .ok u w∧R m v u:=by
 rw [R_str] at hx hy;obtain⟨s,rfl,hs,hc⟩:=hx;obtain⟨s',rfl,hs',a0⟩:=hy;have he:=CB hs hc hs' a0;cases op<;>simp only [BW] at h<;>(try (cases h;done))
 case add=>
  cases e:Nat.ble (l+l') 1000000000 with
  |false=>rw [e] at h;cases h
  |true=>
   rw [e] at h;cases h;have a4:=cK e;have h1:=uB hs;have h2:=uB hs';refine⟨.string (s++s'),by rw [binOp_string_add,run_string_add_sum];omega,?_⟩;rw [R_str];refine⟨s++s',rfl,?_,?_⟩
   ·rw [Ec,hs,hs',PR _ _ _ _ hc,IU]
   ·rw [IU];exact Cy hc a0
 all_goals
  cases h;refine⟨_,by simp only [binOp,Op.stringOp,bZ];rfl,?_⟩;simp only [R,he]
theorem ZQ {l:Nat} (h:dQ s=cW l c) (hi:i<l):∃b:UInt8,s[i]?=some b∧b.toNat=(c>>>(8*i))%256:=by
 have a2:=uB h;have hg:=PO l c i hi;rw [←h] at hg;simp only [dQ,jK,rD] at hg;obtain⟨b,hb,hb2⟩:=hg;refine⟨b,?_,by rw [IS];exact hb2⟩;rw [ByteArray.getElem?_lt' s i (by omega)];rw [←hb];have:i<s.data.toList.length:=by rw [cV];exact(by rw [a2];exact hi:i<s.size)
 rw [aL this];rfl
theorem UN {l j:Nat} (h:dQ s=cW l c) (a3:i≤j) (hj:j≤l):R m (.s (j-i) ((c>>>(8*i))%2^(8*(j-i)))) (.string (s.extract i j)):=by
 rw [R_str];refine⟨_,rfl,?_,?_⟩
 ·rw [Eb,h,PP,PL _ _ _ (by omega),IS,rF]
 ·rw [rF];exact kC _ (jJ (by decide))
end
section
variable {P:Program} {m:Mp} {w:World}
theorem uO (agg:Bool) (n off:Nat) (l:List V):nG agg n (dM off l)=kL agg off n l:=by
 unfold nG kL;rw [gV,qE,qE,iR,fP];cases agg with
 |true=>
  show _=lT _;unfold lT;cases iJ n (l.drop off)<;>rfl
 |false=>rfl
theorem NT {b f:Id} (hf:sO h b=some f):∃sz els ty,aB b h.mem=some (.cells sz els f (.rw ty))∧sz≠1:=by
 unfold sO at hf;split at hf
 ·rename_i sz els f' ty hb;cases e:Nat.beq sz 1 with
  |true=>rw [e] at hf;cases hf
  |false=>
   rw [e] at hf;cases hf;exact⟨sz,els,ty,hb,fun h1=>by subst h1;simp at e⟩
 ·cases hf
theorem VI {a b:Addr} {C C':Array Value} {fz fz':Nat × Nat} (a7:a.block≠b.block)
  (ha:w.heap[a.block]?=some (.cells C t fz)) (hb:w.heap[b.block]?=some (.cells C' t' fz')) (hz:fz.1=fz.2) (a4:fz'.1=fz'.2):
  (sameAddr a b).run P w= .ok false w:=by
 have fa:∀o,w.frozen? ⟨a.block,o,none⟩=false:=by intro o;simp [World.frozen?,ha,hz]
 have fb:∀o,w.frozen? ⟨b.block,o,none⟩=false:=by intro o;simp [World.frozen?,hb,a4]
 have b0:w.frozen? a=false:=by simp [World.frozen?,ha,hz]
 have b1:w.frozen? b=false:=by simp [World.frozen?,hb,a4]
 have sa:w.shape? a.block=some (t,C.size):=by simp [World.shape?,ha]
 have sb:w.shape? b.block=some (t',C'.size):=by simp [World.shape?,hb]
 have a8:(a.block==b.block)=false:=by simpa using a7
 simp [sameAddr,a8,b0,noView,viewAt,sa,sb,mayBeOne,stringish,fa,fb,b1]
theorem OA {h:H} (k:HR m h w) {q:TypeId→EqT} {D:Nat}
  (hq:∀t x y ux uy r,R m x ux→R m y uy→(q t).run h x y=some r→(Op.equalIn D t ux uy).run P w= .ok r w):
  ∀(fs:List Field) {xs ys:List V} {xs' a3:List Value} {r:Bool},Rl m xs xs'→Rl m ys a3→(∀x∈xs',cZ x)→(∀x∈a3,cZ x)→
   (sQ P q fs).run h (.agg xs) (.agg ys)=some r→(Op.eqFields D ⟨xs'⟩ ⟨a3⟩ fs).run P w= .ok r w
 | [],xs,ys,xs',a3,r,_,_,_,_,he=>by
  have:true=r:=aJ he;subst this;simp [Op.eqFields]
 | f :: fs,xs,ys,xs',a3,r,hx,hy,sx,sy,he=>by
  unfold sQ at he;split at he
  ·cases he
  ·rename_i a1;cases hs:bH P f.type with
   |none=>rw [hs] at he;cases he
   | some n=>
    rw [hs] at he;simp only [uO] at he;cases ha:kL (eK P f.type) f.offset n xs with
    |none=>rw [ha] at he;cases he
    | some a=>
     cases hb:kL (eK P f.type) f.offset n ys with
     |none=>rw [ha,hb] at he;cases he
     | some b=>
      rw [ha,hb] at he;obtain⟨d,hd⟩:=rT hs;obtain⟨ua,hua,ra⟩:=qB (w:=w) hd hs hx sx ha;obtain⟨ub,hub,rb⟩:=qB (w:=w) hd hs hy sy hb;simp only at he;cases hqr:(q f.type).run h a b with
      |none=>rw [hqr] at he;cases he
      | some r0=>
       rw [hqr] at he;have a2:=hq f.type a b ua ub r0 ra rb hqr;cases r0 with
       |false=>
        have:false=r:=aJ he;subst this;simp [Op.eqFields,a1,hua,hub,a2]
       |true=>
        have ih:=OA k hq fs hx hy sx sy he;simp [Op.eqFields,a1,hua,hub,a2,ih]
def pF (d:Nat) (el:TypeId) (n:Nat) (xs ys:Array Value):List Nat→Sem Bool
 | []=>pure true
 |i::is=>do
  let a←part el xs (i*n)
  let b←part el ys (i*n)
  let r←Op.equalIn d el a b
  if(!r)=true then pure false else pF d el n xs ys is
theorem VK (d:Nat) (t:TypeId) (len:Nat) (el:TypeId) (n:Nat) (xs ys:Array Value) (ht:P.underlying t=some (.array len el)) (hn:bH P el=some n):
  (Op.equalIn (d+1) t (.agg xs) (.agg ys)).run P w=(pF d el n xs ys (List.range' 0 len)).run P w:=by
 simp only [Op.equalIn,aY,bQ ht,cF,gM hn,Fx,Std.Legacy.Range.size,AY,Gg,GS];generalize List.range' 0 len=is;clear ht hn
 induction is generalizing w with
 |nil=>simp [pF]
 | cons i is ih=>
  simp only [SK,pF,aY,wN];generalize (part el xs (i*n)).run P w=r1;cases r1 with
  | ok a w1=>
   simp only [cF];generalize (part el ys (i*n)).run P w1=r2;cases r2 with
   | ok b w2=>
    simp only [cF];generalize (Op.equalIn d el a b).run P w2=r3;cases r3 with
    | ok r w3=>
     cases r
     ·simp only [cF,Bool.not_false,if_true,bZ]
     ·simp only [cF,rM,dJ,eY,bZ];exact ih (w:=w3)
    |halt x w3=>simp [Result.andThen]
   |halt x w2=>simp [Result.andThen]
  |halt x w1=>simp [Result.andThen]
theorem OC {h:H} (k:HR m h w) {q:EqT} {D:Nat} {el:TypeId} {n:Nat} {d:TypeDesc} (hd:P.underlying el=some d) (hn:bH P el=some n)
  (hq:∀x y ux uy r,R m x ux→R m y uy→q.run h x y=some r→(Op.equalIn D el ux uy).run P w= .ok r w)
  {X Y:List V} {X' Y':List Value} (hX:Rl m X X') (hY:Rl m Y Y') (sX:∀x∈X',cZ x) (sY:∀x∈Y',cZ x):
  ∀(c i:Nat) {r:Bool},eqAs q (eK P el) n c (dM (i*n) X) (dM (i*n) Y) h=some r→(pF D el n ⟨X'⟩ ⟨Y'⟩ (List.range' i c)).run P w= .ok r w
 |0,i,r,he=>by
  have:true=r:=aJ he;subst this;simp [pF]
 | c + 1,i,r,he=>by
  unfold eqAs at he;simp only [uO] at he;have e0:∀l:List V,nG (eK P el) n (dM (i*n) l)=kL (eK P el) (i*n) n l:=fun l=>uO _ _ _ _
  cases ha:kL (eK P el) (i*n) n X with
  |none=>rw [ha] at he;cases he
  | some a=>
   cases hb:kL (eK P el) (i*n) n Y with
   |none=>rw [ha,hb] at he;cases he
   | some b=>
    rw [ha,hb] at he;simp only at he;obtain⟨ua,hua,ra⟩:=qB (w:=w) hd hn hX sX ha;obtain⟨ub,hub,rb⟩:=qB (w:=w) hd hn hY sY hb;cases hqr:q.run h a b with
    |none=>rw [hqr] at he;cases he
    | some r0=>
     rw [hqr] at he;have a2:=hq a b ua ub r0 ra rb hqr;cases r0 with
     |false=>
      have:false=r:=aJ he;subst this;simp [tQ,pF,hua,hub,a2]
     | true=>
      have e1:dM n (dM (i*n) X)=dM ((i+1)*n) X:=by
       rw [gV,gV,gV,wW];congr 1;rw [gI]
      have e2:dM n (dM (i*n) Y)=dM ((i+1)*n) Y:=by
       rw [gV,gV,gV,wW];congr 1;rw [gI]
      simp only [e1,e2] at he;have ih:=OC k hd hn hq hX hY sX sY c (i+1) he;simp [tQ,pF,hua,hub,a2,ih]
theorem EP {h:H} (k:HR m h w):∀(d:Nat) (t:TypeId) (D:Nat),d≤D→∀x y ux uy r,R m x ux→R m y uy→(eqT P d t).run h x y=some r→(Op.equalIn D t ux uy).run P w= .ok r w
 |0,t,D,_,x,y,ux,uy,r,_,_,he=>by cases he
 |d+1,t,0,hD,_,_,_,_,_,_,_,_=>by omega
 | d +1,t,D+1,hD,x,y,ux,uy,r,hx,hy,he=>by
  have ih:=EP k d;unfold eqT at he;cases hu:P.underlying t with
  |none=>rw [hu] at he;cases he
  | some ds=>
   rw [hu] at he;cases ds<;>simp only at he<;>(try (cases he;done))
   case bool=>
    split at he
    ·cases he;simp only [R] at hx hy;subst hx;subst hy;simp [Op.equalIn,bQ hu]
    ·cases he
   case int kk=>
    split at he
    ·rename_i k1 a k2 b;cases e:kEq k1 k2 with
     |false=>rw [e] at he;cases he
     |true=>
      rw [e] at he;cases he;have:=(zD _ _).1 e;subst this;simp only [R] at hx hy;subst hx;subst hy;simp [Op.equalIn,bQ hu,MS]
    ·cases he
   case string=>
    split at he
    ·cases he;rw [R_str] at hx hy;obtain⟨s,rfl,hs,hc⟩:=hx;obtain⟨s',rfl,hs',hc'⟩:=hy;rw [CB hs hc hs' hc'];exact RE w D t s s' hu
    ·cases he
   case pointer e=>
    have a0:∀r,(match x,y with| .pn,.pn=>some true| .pn,.p _ _=>some false| .p _ _,.pn=>some false|_,_=>(none:Option Bool))=some r→(Op.equalIn (D+1) t ux uy).run P w= .ok r w:=by
     intro r he;split at he
     ·cases he;simp only [R] at hx hy;subst hx;subst hy;simp [Op.equalIn,bQ hu]
     ·cases he;simp only [R] at hx hy;obtain⟨l,_,rfl⟩:=hy;subst hx;simp [Op.equalIn,bQ hu]
     ·cases he;simp only [R] at hx hy;obtain⟨l,_,rfl⟩:=hx;subst hy;simp [Op.equalIn,bQ hu]
     ·cases he
    cases hs:bH P e with
    |none=>rw [hs] at he;exact a0 r he
    | some n=>
     cases n with
     |zero=>rw [hs] at he;exact a0 r he
     | succ n=>
      rw [hs] at he;simp only at he;split at he
      ·exact a0 r (by simpa using he)
      ·exact a0 r (by simpa using he)
      ·exact a0 r (by simpa using he)
      ·rename_i b o b' o';simp only [R] at hx hy;obtain⟨l,hl,rfl⟩:=hx;obtain⟨l',hl',rfl⟩:=hy;cases eb:Id.beq b b' with
       | true=>
        rw [eb] at he;simp only [cN,cB] at he;subst he;have:=Id.beq_iff.1 eb;subst this;rw [hl] at hl';cases hl';have e3:Nat.beq o o'=((⟨l.blk,l.base+o,none⟩:Addr)==⟨l.blk,l.base+o',none⟩):=by
         rw [iT];simp [BD]
        simp only [Op.equalIn,aY,bQ hu,cF,gM hs];simp [sameAddr,e3]
       | false=>
        rw [eb] at he;simp only [jZ] at he;have a7:b≠b':=fun h=>by rw [Id.beq_iff.2 h] at eb;cases eb
        cases hf:sO h b with
        |none=>rw [hf] at he;cases he
        | some f=>
         cases hf':sO h b' with
         |none=>rw [hf,hf'] at he;cases he
         | some f'=>
          rw [hf,hf'] at he;simp only at he;cases ef:Id.beq f f' with
          |true=>rw [ef] at he;cases he
          | false=>
           rw [ef] at he;cases he;obtain⟨sz,els,ty1,hb,hz⟩:=NT hf;obtain⟨b2,els',ty2,hb',a4⟩:=NT hf';obtain⟨l1,hl1,C,t1,fz,hc⟩:=k.obj _ _ hb;obtain⟨l2,hl2,C',t2,fz',hc'⟩:=k.obj _ _ hb';rw [hl] at hl1;cases hl1;rw [hl'] at hl2;cases hl2;have a6:l.blk≠l'.blk:=fun a2=>by
            have:f=f':=k.sep b b' _ _ l l' hb hb' hl hl' a7 a2;rw [Id.beq_iff.2 this] at ef;cases ef
           have:=VI (P:=P) (a:=⟨l.blk,l.base+o,none⟩) (b:=⟨l'.blk,l'.base+o',none⟩) a6 hc.at_ hc'.at_ (hc.plain rfl hz) (hc'.plain rfl a4);simp only [Op.equalIn,aY,bQ hu,cF,gM hs];simp [this]
      ·cases he
   case struct fs=>
    cases hst:P.stoodInHeld t with
    |true=>rw [hst] at he;cases he
    | false=>
     rw [hst] at he;simp only [jZ] at he;have a5:∃xs ys,x= .agg xs∧y= .agg ys:=by
      cases hfs:fs.toList with
      |nil=>
       rw [hfs] at he;unfold sQ at he;simp only at he;split at he
       ·exact⟨_,_,rfl,rfl⟩
       ·cases he
      | cons f fs'=>
       rw [hfs] at he;unfold sQ at he;split at he
       ·cases he
       ·split at he
        ·cases he
        ·simp only at he;split at he
         ·exact⟨_,_,rfl,rfl⟩
         ·cases he
     obtain⟨xs,ys,rfl,rfl⟩:=a5;obtain⟨xs',rfl,hxs,sx⟩:=mU hx;obtain⟨a3,rfl,hys,sy⟩:=mU hy;have a9:P.fieldsOf t=fs:=by simp [Program.fieldsOf,hu]
     rw [run_equalIn_struct w D t _ _ (by rw [a9];exact hu) hst,a9];exact OA k (fun t x y ux uy r hx hy hq=>ih t D (by omega) x y ux uy r hx hy hq) fs.toList hxs hys sx sy he
   case array len el=>
    cases hn:bH P el with
    |none=>rw [hn] at he;cases he
    | some n=>
     rw [hn] at he;simp only at he;split at he
     ·rename_i xs ys;obtain⟨xs',rfl,hxs,sx⟩:=mU hx;obtain⟨a3,rfl,hys,sy⟩:=mU hy;obtain⟨ds,hds⟩:=rT hn;have hz:∀l:List V,dM (0*n) l=l:=by intro l;rw [gV];simp
      have:=OC (P:=P) k hds hn (fun x y ux uy r hx hy hq=>ih el D (by omega) x y ux uy r hx hy hq) hxs hys sx sy len 0 (r:=r) (by rw [hz,hz];exact he);rw [VK D t len el n _ _ hu hn];exact this
     ·cases he
   case slice e=>
    split at he<;>(try (cases he;done))<;>cases he<;>simp only [R] at hx hy
    ·subst hx;subst hy;simp [Op.equalIn,bQ hu]
    ·subst hx;obtain⟨l,cap,_,rfl,_⟩:=hy;simp [Op.equalIn,bQ hu]
    ·subst hy;obtain⟨l,cap,_,rfl,_⟩:=hx;simp [Op.equalIn,bQ hu]
    ·subst hy;obtain⟨l,cap,rfl⟩:=hx;simp [Op.equalIn,bQ hu]
    ·subst hx;obtain⟨l,cap,rfl⟩:=hy;simp [Op.equalIn,bQ hu]
end
section
variable {P:Program} {m:Mp} {w:World}
def pJ (em:Bool) (d:Nat) (xs:Array Value):List Field→Sem Unit
 | []=>pure ()
 | f::fs=>if f.name≠ "_" then do
   let a←part f.type xs f.offset
   Instr.checkKey em d f.type a
   pJ em d xs fs
  else pJ em d xs fs
theorem VL (em:Bool) (d:Nat) (t:TypeId) (fs:Array Field) (xs:Array Value) (ht:P.underlying t=some (.struct fs)):
  (Instr.checkKey em (d+1) t (.agg xs)).run P w=(pJ em d xs fs.toList).run P w:=by
 simp only [Instr.checkKey,aY,bQ ht,cF];rw [←Array.forIn_toList];generalize fs.toList=l;clear ht
 induction l generalizing w with
 |nil=>simp [pJ]
 | cons f l ih=>
  simp only [SK,pJ,aY,wN];split
  ·generalize (part f.type xs f.offset).run P w=r1;cases r1 with
   |ok a w1=>
    simp only [cF];generalize (Instr.checkKey em d f.type a).run P w1=r2;cases r2 with
    |ok b w2=>simp only [cF,bZ];exact ih (w:=w2)
    |halt x w2=>simp [Result.andThen]
   |halt x w1=>simp [Result.andThen]
  ·simp only [bZ,cF];exact ih
def qO (em:Bool) (d:Nat) (el:TypeId) (n:Nat) (xs:Array Value):List Nat→Sem Unit
 | []=>pure ()
 |i::is=>do
  let a←part el xs (i*n)
  Instr.checkKey em d el a
  qO em d el n xs is
theorem VM (em:Bool) (d:Nat) (t:TypeId) (len:Nat) (el:TypeId) (n:Nat) (xs:Array Value) (ht:P.underlying t=some (.array len el)) (hn:bH P el=some n):
  (Instr.checkKey em (d+1) t (.agg xs)).run P w=(qO em d el n xs (List.range' 0 len)).run P w:=by
 simp only [Instr.checkKey,aY,bQ ht,cF,Fx,Std.Legacy.Range.size,AY,Gg,GS];generalize List.range' 0 len=is;clear ht
 induction is generalizing w with
 |nil=>simp [qO]
 | cons i is ih=>
  simp only [SK,qO,aY,gM hn,cF];generalize (part el xs (i*n)).run P w=r1;cases r1 with
  |ok a w1=>
   simp only [cF];generalize (Instr.checkKey em d el a).run P w1=r2;cases r2 with
   |ok b w2=>simp only [cF,bZ];exact ih (w:=w2)
   |halt x w2=>simp [Result.andThen]
  |halt x w1=>simp [Result.andThen]
theorem PB {em:Bool} {q:TypeId→CkT} {D:Nat} (hq:∀t x ux,R m x ux→(q t).run x=true→(Instr.checkKey em D t ux).run P w= .ok () w):
  ∀(fs:List Field) {xs:List V} {xs':List Value},Rl m xs xs'→(∀x∈xs',cZ x)→(sV P q fs).run (.agg xs)=true→(pJ em D ⟨xs'⟩ fs).run P w= .ok () w
 | [],xs,xs',_,_,_=>by simp [pJ]
 | f ::fs,xs,xs',hx,sx,he=>by
  unfold sV at he;split at he
  ·cases he
  ·rename_i a1;cases hs:bH P f.type with
   |none=>rw [hs] at he;cases he
   | some n=>
    rw [hs] at he;simp only [uO] at he;cases ha:kL (eK P f.type) f.offset n xs with
    |none=>rw [ha] at he;cases he
    |some a=>
     rw [ha] at he;simp only [aM] at he;obtain⟨d,hd⟩:=rT hs;obtain⟨ua,hua,ra⟩:=qB (w:=w) hd hs hx sx ha;have h1:=hq f.type a ua ra he.1;have ih:=PB hq fs hx sx he.2;simp [pJ,a1,hua,h1,ih]
theorem PD {em:Bool} {q:CkT} {D:Nat} {el:TypeId} {n:Nat} {d:TypeDesc} (hd:P.underlying el=some d) (hn:bH P el=some n)
  (hq:∀x ux,R m x ux→q.run x=true→(Instr.checkKey em D el ux).run P w= .ok () w) {X:List V} {X':List Value} (hX:Rl m X X') (sX:∀x∈X',cZ x):
  ∀(c i:Nat),ckAs q (eK P el) n c (dM (i*n) X)=true→(qO em D el n ⟨X'⟩ (List.range' i c)).run P w= .ok () w
 |0,i,_=>by simp [qO]
 | c+1,i,he=>by
  unfold ckAs at he;simp only [uO] at he;cases ha:kL (eK P el) (i*n) n X with
  |none=>rw [ha] at he;cases he
  | some a=>
   rw [ha] at he;simp only [aM] at he;obtain⟨ua,hua,ra⟩:=qB (w:=w) hd hn hX sX ha;have e1:dM n (dM (i*n) X)=dM ((i+1)*n) X:=by
    rw [gV,gV,gV,wW];congr 1;rw [gI]
   rw [e1] at he;have h1:=hq a ua ra he.1;have ih:=PD hd hn hq hX sX c (i+1) he.2;simp [tQ,qO,hua,h1,ih]
theorem PA {em:Bool}:∀(d:Nat) (t:TypeId) (D:Nat),d≤D→∀x ux,R m x ux→(ckT P d t).run x=true→(Instr.checkKey em D t ux).run P w= .ok () w
 |0,t,D,_,x,ux,_,he=>by cases he
 |d+1,t,0,hD,_,_,_,_=>by omega
 | d + 1,t,D+1,hD,x,ux,hx,he=>by
  have ih:=PA (em:=em) d;unfold ckT at he;cases hu:P.underlying t with
  |none=>rw [hu] at he;cases he
  | some ds=>
   rw [hu] at he;cases ds<;>simp only at he<;>(try (cases he;done))
   case struct fs=>
    have a2:∃xs,x= .agg xs:=by
     cases hfs:fs.toList with
     |nil=>
      rw [hfs] at he;unfold sV at he;simp only at he;split at he
      ·exact⟨_,rfl⟩
      ·cases he
     | cons f fs'=>
      rw [hfs] at he;unfold sV at he;split at he
      ·cases he
      ·split at he
       ·cases he
       ·simp only at he;split at he
        ·exact⟨_,rfl⟩
        ·cases he
    obtain⟨xs,rfl⟩:=a2;obtain⟨xs',rfl,hxs,sx⟩:=mU hx;rw [VL em D t fs _ hu];exact PB (fun t x ux hx hq=>ih t D (by omega) x ux hx hq) fs.toList hxs sx he
   case array len el=>
    cases hn:bH P el with
    |none=>rw [hn] at he;cases he
    | some n=>
     rw [hn] at he;simp only at he;split at he
     ·rename_i xs;obtain⟨xs',rfl,hxs,sx⟩:=mU hx;obtain⟨ds,hds⟩:=rT hn;rw [VM em D t len el n _ hu hn];have hz:dM (0*n) xs=xs:=by rw [gV];simp
      exact PD hds hn (fun x ux hx hq=>ih el D (by omega) x ux hx hq) hxs sx len 0 (by rw [hz];exact he)
     ·cases he
   all_goals simp [Instr.checkKey,bQ hu]
theorem bL.length:∀{es:List Ent} {xs:List MapEntry},bL m es xs→xs.length=es.length
 | [],_,k=>by simp only [bL] at k;subst k;rfl
 |e::es,_,k=>by obtain⟨x,xs,rfl,_,h⟩:=k;simp [bL.length h]
theorem bL.get:∀{es:List Ent} {xs:List MapEntry},bL m es xs→∀{i:Nat} {e:Ent},es[i]?=some e→∃x,xs[i]?=some x∧EntR m e x
 | [],_,_,i,e,h=>by simp at h
 |a::es,_,k,i,e,h=>by
  obtain⟨x,xs,rfl,hx,hxs⟩:=k;cases i with
  |zero=>simp at h;subst h;exact⟨x,rfl,hx⟩
  |succ i=>simp at h ⊢;exact bL.get hxs h
theorem NL {h:H} (k:HR m h w) {kt:TypeId} {key:V} {a0:Value} (hk:R m key a0):
  ∀(es:List Ent) (xs:List MapEntry) (i:Nat) {r:Option (Nat × Ent)},bL m es xs→zU (eqT P 20 kt) h key es i=some r→
   (Instr.findAsking kt a0 xs i).run P w= .ok (r.map fun x=>(x.1,(xs.getD (x.1-i) default).val)) w∧(∀x,r=some x→i≤x.1∧es[x.1-i]?=some x.2)
 | [],xs,i,r,hx,he=>by
  simp only [bL] at hx;subst hx;have:none=r:=aJ he;subst this;simp [Instr.findAsking]
 | e ::es,xs,i,r,hx,he=>by
  obtain⟨x,xs',rfl,hx1,hxs⟩:=hx;unfold zU at he;cases hq:(eqT P 20 kt).run h key e.key with
  |none=>rw [hq] at he;cases he
  | some b=>
   rw [hq] at he;have a3:(Op.equal kt a0 x.key).run P w= .ok b w:=EP k 20 kt 10000 (by omega) key e.key a0 x.key b hk hx1.1 hq;cases b with
   |true=>
    have:some (i,e)=r:=aJ he;subst this;refine⟨by simp [Instr.findAsking,a3],?_⟩;intro y hy;cases hy;simp
   | false=>
    obtain⟨a5,ih2⟩:=NL k hk es xs' (i+1) hxs he;refine⟨?_,?_⟩
    ·simp only [Instr.findAsking,aY,a3,cF,dJ,eY,a5];cases r with
     |none=>rfl
     |some y=>
      have:=(ih2 y rfl).1;have e1:y.1-i=(y.1-(i+1))+1:=by omega
      simp [e1]
    ·intro y hy;obtain⟨h1,h2⟩:=ih2 y hy;have e1:y.1-i=(y.1-(i+1))+1:=by omega
     exact⟨by omega,by rw [e1];simpa using h2⟩
theorem VE (hu:P.underlying kt=some ds) {k k':Value} {b:Bool} (hb:Instr.sameNow ds k k'=some b):(Op.equal kt k k').run P w= .ok b w:=by
 unfold Instr.sameNow at hb;split at hb
 ·rename_i kk k1 a k2 b';split at hb
  ·rename_i a4;subst a4;cases hb;exact run_equalIn_int w 9999 kt k1 kk a b' hu
  ·cases hb
 ·rename_i a b';cases hb;rw [beq_toListBytes];exact RE w 9999 kt a b' hu
 ·rename_i a b';cases hb;exact run_equalIn_bool' w 9999 kt a b' hu
 ·cases hb
theorem NO {kt:TypeId} {ds:TypeDesc} (hu:P.underlying kt=some ds) {k:Value}:∀(xs:List MapEntry) (i:Nat) {r:Option (Nat × Value)},Instr.findNow ds k xs i=some r→(Instr.findAsking kt k xs i).run P w= .ok r w
 | [],i,r,h=>by
  have:none=r:=aJ h;subst this;simp [Instr.findAsking]
 | x::xs,i,r,h=>by
  unfold Instr.findNow at h;have same:∀b,Instr.sameNow ds k x.key=some b→(Op.equal kt k x.key).run P w= .ok b w:=fun b hb=>VE hu hb
  split at h
  ·rename_i hb;have:some (i,x.val)=r:=aJ h;subst this;simp [Instr.findAsking,same _ hb]
  ·rename_i hb;simp [Instr.findAsking,same _ hb,NO hu xs (i+1) h]
  ·cases h
theorem Be (hu:P.underlying kt=some ds) {k:Value} {xs:List MapEntry}:(Instr.findKey kt k xs).run P w=(Instr.findAsking kt k xs 0).run P w:=by
 simp only [Instr.findKey,aY,bQ hu,cF];split
 ·rename_i r hr;rw [NO hu xs 0 hr];rfl
 ·rfl
end
section
variable {P:Program} {m:Mp} {w:World}
theorem nV (k:HR m h w) {b:Id} {es:List Ent} {c:Nat} (he:gN h b=some (es,c)):
  ∃l es',aB b h.mem=some (.map es c)∧m b=some l∧w.heap[l.blk]?=some (.map ⟨es'⟩ c)∧bL m es es':=by
 unfold gN at he;split at he
 ·rename_i a6 c0 hb;cases he;obtain⟨l,hl,es',h1,h2⟩:=k.obj _ _ hb;exact⟨l,es',hb,hl,h1,h2⟩
 ·cases he
theorem EL (k:HR m h w) {kt:TypeId} {key:V} {a0:Value} (hk:R m key a0) {es:List Ent} {xs:List MapEntry} {r:Option (Nat × Ent)} (hx:bL m es xs)
  (he:pD P kt h key es=some r) (em:Bool):
  (Instr.checkKey em 10000 kt a0).run P w= .ok () w∧(Instr.findKey kt a0 xs).run P w= .ok (r.map fun x=>(x.1,(xs.getD x.1 default).val)) w∧
   (∀x,r=some x→es[x.1]?=some x.2∧∃y,xs[x.1]?=some y∧EntR m x.2 y):=by
 unfold pD at he;cases hc:(ckT P 20 kt).run key with
 |false=>rw [hc] at he;cases he
 | true=>
  rw [hc] at he;simp only [cN] at he;have hu:∃ds,P.underlying kt=some ds:=by
   unfold ckT at hc;cases hu:P.underlying kt with
   |none=>rw [hu] at hc;cases hc
   |some ds=>exact⟨ds,rfl⟩
  obtain⟨ds,hu⟩:=hu;obtain⟨h1,h2⟩:=NL k hk es xs 0 hx he;refine⟨PA 20 kt 10000 (by omega) key a0 hk hc,?_,?_⟩
  ·rw [Be hu,h1];simp
  ·intro x a4;obtain⟨_,h3⟩:=h2 x a4;simp at h3;exact⟨h3,hx.get h3⟩
theorem run_getMap {b:Nat} {xs:List MapEntry} (hb:w.heap[b]?=some (.map ⟨xs⟩ c)):(getObj b).run P w= .ok (.map ⟨xs⟩ c) w:=by
 simp [getObj,Sem.run,hb]
theorem LN (k:HR m h w) {t kt et:TypeId} {z:V} {ok:Bool} {key:V} {a0:Value} {es:List Ent} {xs:List MapEntry} {v:V} {x:Value}
  (hu:P.underlying t=some (.map kt et)) (hz:fJ P et=some z) (hk:R m key a0) (hx:bL m es xs)
  (a3:(∃b c,x= .map (some b)∧w.heap[b]?=some (.map ⟨xs⟩ c))∨(x= .map none∧xs= []))
  (hv:yV P kt z ok h key es=some v):∃u,(Instr.lookup t x a0 ok).run P w= .ok u w∧R m v u:=by
 obtain⟨uz,hzr,hzc,_⟩:=lI (w:=w) hz;unfold yV at hv;cases hf:pD P kt h key es with
 |none=>rw [hf] at hv;cases hv
 | some r=>
  rw [hf] at hv;obtain⟨h1,h2,h3⟩:=EL k hk hx hf xs.isEmpty;have a1:(⟨xs⟩:Array MapEntry).isEmpty=xs.isEmpty:=by cases xs<;>rfl
  cases r with
  | none=>
   have a2:some (if ok then V.tup [z,.b false] else z)=some v:=hv;cases a2;refine⟨if ok then .tuple #[uz,.bool false] else uz,?_,?_⟩
   ·rcases a3 with⟨b,c,rfl,hb⟩|⟨rfl,rfl⟩
    ·simp only [Instr.lookup,aY,bQ hu,cF,run_getMap hb,a1,h1,h2,GN,hzr,bZ]
    ·simp only [Instr.lookup,aY,bQ hu,cF,a1,h1,h2,GN,hzr,bZ]
   ·cases ok
    ·simpa [hzc] using qN m uz
    ·simp only [if_true,R,Rl];exact⟨_,rfl,_,_,rfl,by rw [hzc];exact qN m uz,_,_,rfl,rfl,rfl⟩
  | some p=>
   obtain⟨i,e⟩:=p;obtain⟨a7,y,hy,hye⟩:=h3 _ rfl;simp only at hy;have a5:(xs.getD i default).val=y.val:=by simp [Gu,hy]
   have a2:some (if ok then V.tup [e.val,.b true] else e.val)=some v:=hv;cases a2;refine⟨if ok then .tuple #[y.val,.bool true] else y.val,?_,?_⟩
   ·rcases a3 with⟨b,c,rfl,hb⟩|⟨rfl,rfl⟩
    ·simp only [Instr.lookup,aY,bQ hu,cF,run_getMap hb,a1,h1,h2,rC,a5,bZ]
    ·simp at hy
   ·cases ok
    ·simpa using hye.2.1
    ·simp only [if_true,R,Rl];exact⟨_,rfl,_,_,rfl,hye.2.1,_,_,rfl,rfl,rfl⟩
end
section
variable {P:Program} {m:Mp} {w:World}
theorem pL (k:bD m n e a) (hg:Gl P m) {x:Option Operand} {d:Nat} {f:Nat→Option V} {v:V} (hx:∀y,x=some y→cO P n y=true)
  (h:bnd x d e f=some v):∃j,f j=some v∧((x=none∧j=d)∨∃y kk,x=some y∧a.eval y= .int kk (.ofNat j)):=by
 cases x with
 |none=>exact⟨d,h,.inl ⟨rfl,rfl⟩⟩
 |some y=>
  obtain⟨kk,j,hj,hf⟩:=AT h;have:=cS k hg (hx y rfl);rw [hj] at this;simp only [R] at this;exact⟨j,hf,.inr ⟨y,kk,rfl,this⟩⟩
theorem AK {isS:Bool} {len cap:Nat} {lo hi:Option Value} {l h:Nat} (hl:lo=none∧l=0∨∃k,lo=some (.int k (.ofNat l))) (hh:hi=none∧h=len∨∃k,hi=some (.int k (.ofNat h)))
  (h1:l≤h) (h2:h≤len) (h3:len≤cap):(Instr.sliceBounds isS len cap lo hi none).run P w= .ok (l,h,cap) w:=by
 have hb:∀(k:IntKind) (j y:Nat) (c:BoundsCode),j≤y→(Instr.sliceBound (.int k (j:Int)) y c).run P w= .ok j w:=by
  intro k j y c hj;have:(0:Int)≤(j:Int)∧(j:Int)≤(y:Int):=⟨by omega,by omega⟩;simp only [Instr.sliceBound,asIntOf,aY,bZ,cF,this,and_self,if_true];rfl
 rcases hl with⟨rfl,rfl⟩|⟨k1,rfl⟩<;>rcases hh with⟨rfl,rfl⟩|⟨k2,rfl⟩
 ·simp [Instr.sliceBounds]
 ·simp [Instr.sliceBounds,hb k2 h cap _ (by omega)]
 ·simp [Instr.sliceBounds,hb k1 l _ _ h1]
 ·simp [Instr.sliceBounds,hb k1 l _ _ h1,hb k2 h cap _ (by omega)]
theorem UO (k:bD m n e a) (hg:Gl P m) {t:TypeId} {x:Operand} {lo hi:Option Operand} (hx:cO P n x=true)
  (a4:∀y,lo=some y→cO P n y=true) (a3:∀y,hi=some y→cO P n y=true) {hh:H} {v:V} (hv:(BX P t x lo hi).run e hh=some v):
  ∃u,(Instr.sliceAt t (a.eval x) (lo.map a.eval) (hi.map a.eval) none).run P w= .ok u w∧R m v u:=by
 have hX:=cS k hg hx;have conv:∀{z:Option Operand} {d j:Nat},((z=none∧j=d)∨∃y kk,z=some y∧a.eval y= .int kk (.ofNat j))→(z.map a.eval=none∧j=d∨∃kk,z.map a.eval=some (.int kk (.ofNat j))):=by
  rintro z d j (⟨rfl,rfl⟩|⟨y,kk,rfl,h⟩)
  ·exact .inl ⟨rfl,rfl⟩
  ·exact .inr ⟨kk,by simp [h]⟩
 have a0:∀{sz b o len z:_} {el:TypeId} (u:Value),R m (.sl b o len z) u→z=sz+1→bH P el=some (sz+1)→IP (sz+1) lo hi e b o len z=some v→
   ∃j i ll cap,m b=some ll∧u= .slice (some ⟨ll.blk,ll.base+o,none⟩) len cap∧i≤j∧j≤len∧len≤cap∧
    (lo.map a.eval=none∧i=0∨∃kk,lo.map a.eval=some (.int kk (.ofNat i)))∧(hi.map a.eval=none∧j=len∨∃kk,hi.map a.eval=some (.int kk (.ofNat j)))∧
    R m v (.slice (some (if cap=i then⟨ll.blk,ll.base+o,none⟩ else⟨ll.blk,ll.base+o+i*(sz+1),none⟩)) (j-i) (cap-i)):=by
  intro sz b o len z el u hu hz hs hv;subst hz;obtain⟨j,hv,hj⟩:=pL k hg a3 hv;obtain⟨i,hv,hi'⟩:=pL k hg a4 hv;obtain⟨hc,hv⟩:=jE hv;simp only [aM] at hc;have h1:=cK hc.1;have h2:=cK hc.2;simp only [R] at hu;obtain⟨ll,cap,hll,rfl,hlc,hlim⟩:=hu;refine⟨j,i,ll,cap,hll,rfl,h1,h2,hlc,conv hi',conv hj,?_⟩;rcases nQ hv with⟨hb,hv⟩|⟨hb,hv⟩
  ·cases hv;simp only [aM] at hb;have:i=j:=aV hb.1;subst this;simp only [R,oD];exact⟨_,_,rfl⟩
  ·cases hv;have a7:cap=i→i=0:=by
    intro a2;simp only [Hg] at hb;rcases hb with hb|hb
    ·have:i=j:=by omega
     rw [this] at hb;simp at hb
    ·simpa using hb
   simp only [R];refine⟨ll,cap-i,hll,?_,by show j-i≤cap-i;omega,?_⟩
   ·show Value.slice _ _ _=Value.slice _ _ _
    by_cases a2:cap=i
    ·have:=a7 a2;subst this;simp [a2]
    ·simp only [if_neg a2];have e1:Nat.add o (Nat.mul i (sz+1))=o+i*(sz+1):=rfl;have e2:Nat.sub j i=j-i:=rfl;rw [e1,e2,kE]
   ·show o+i*(sz+1)+(cap-i)*(sz+1)≤ll.lim;have:i*(sz+1)+(cap-i)*(sz+1)=cap*(sz+1):=by
     rw [←cL];congr 1;omega
    omega
 unfold BX at hv;cases hu:P.underlying t with
 |none=>rw [hu] at hv;cases hv
 | some ds=>
  rw [hu] at hv;cases ds<;>simp only at hv<;>(try (cases hv;done))
  case string=>
   obtain⟨len,c,hs,hv⟩:=wH hv;rw [hs] at hX;obtain⟨j,hv,hj⟩:=pL k hg a3 hv;obtain⟨i,hv,hi'⟩:=pL k hg a4 hv;obtain⟨hc,hv⟩:=jE hv;cases hv;simp only [aM] at hc;have h1:=cK hc.1;have h2:=cK hc.2;rw [R_str] at hX;obtain⟨s,hse,hb,hc2⟩:=hX;have a8:=uB hb;have hr:=AK (P:=P) (w:=w) (isS:=false) (len:=s.size) (cap:=s.size) (conv hi') (by rw [a8];exact conv hj) h1 (by omega) (aA _);refine⟨.string (s.extract i j),?_,UN hb h1 h2⟩;rw [hse];simp [Instr.sliceAt,bQ hu,Instr.slice,hr]
  case slice el=>
   cases hs:bH P el with
   |none=>rw [hs] at hv;cases hv
   | some sz=>
    cases sz with
    |zero=>rw [hs] at hv;cases hv
    | succ sz=>
     rw [hs] at hv;simp only at hv;rcases AO hv with⟨b,o,len,z,a1,hv⟩|⟨_,hv⟩
     ·rw [a1] at hX;obtain⟨hz,hv⟩:=jE hv;have hz:=aV hz;obtain⟨j,i,ll,cap,hll,hue,h1,h2,h3,hlo',hhi',hR⟩:=a0 _ hX hz hs hv;have hr:=AK (P:=P) (w:=w) (isS:=true) hlo' hhi' h1 h2 h3;refine⟨_,?_,hR⟩;rw [hue];simp [Instr.sliceAt,bQ hu,Instr.slice,hr,gM hs];split<;>simp [mT]
     ·rcases FW hv with⟨a1,hv⟩|⟨_,hv⟩
      ·rw [a1] at hX;obtain⟨j,hv,hj⟩:=pL k hg a3 hv;obtain⟨i,hv,hi'⟩:=pL k hg a4 hv;obtain⟨hc,hv⟩:=jE hv;cases hv;simp only [aM] at hc;have a6:=aV hc.1;have a5:=aV hc.2;subst a6;subst a5;simp only [R] at hX;have hr:=AK (P:=P) (w:=w) (isS:=true) (len:=0) (cap:=0) (conv hi') (conv hj) (aA _) (aA _) (aA _);refine⟨.slice none 0 0,?_,by simp [R]⟩;rw [hX];simp [Instr.sliceAt,bQ hu,Instr.slice,hr,gM hs]
      ·obtain⟨a1,hv⟩:=QO hv;rw [a1] at hX;obtain⟨j,hv,hj⟩:=pL k hg a3 hv;obtain⟨i,hv,hi'⟩:=pL k hg a4 hv;obtain⟨hc,hv⟩:=jE hv;cases hv;simp only [aM] at hc;have a6:=aV hc.1;have a5:=aV hc.2;subst a6;subst a5;simp only [R] at hX;obtain⟨ad,cap,hue⟩:=hX;have hr:=AK (P:=P) (w:=w) (isS:=true) (len:=0) (cap:=cap) (conv hi') (conv hj) (aA _) (aA _) (aT _);rw [hue];refine⟨.slice (if cap=0 then some ad else some (ad.add 0)) 0 cap,?_,?_⟩
       ·simp [Instr.sliceAt,bQ hu,Instr.slice,hr,gM hs]
       ·simp only [R];split<;>exact⟨_,_,rfl⟩
end
section
variable {P:Program} {m:Mp} {w:World}
theorem EQ {x y:Operand} {a b:Value} (h1:¬(a= .nilIface∧b= .nilIface)) (h2:(∀xs,a≠ .agg xs)∨P.eqGuardType P.depth t=false):
    (eqGuard op t x y a b).run P w= .ok () w:=by
  unfold eqGuard;cases op<;>first
    |rfl
    | (simp only [rM,dJ,eY]
       split
       · exact absurd ⟨rfl,rfl⟩ h1
       · rename_i xs ys;rcases h2 with h2|h2
         · exact absurd rfl (h2 xs)
         · simp [h2]
       · rfl)
theorem Bt {x y:Operand} (h:mG x=true∨mG y=true):(eqGuard op t x y .nilIface .nilIface).run P w= .ok () w:=by
  unfold eqGuard;cases op<;>first
    |rfl
    | (rcases h with h|h
       · cases x<;>first|(cases h;done)|simp
       · cases y<;>first|(cases h;done)|simp)
theorem UV {k k':IntKind} {a b:Int} (t:TypeId) (a1:op= .shl∨op= .shr) (h:xG op k a b=some v):∃u,(binOp op t (.int k a) (.int k' b)).run P w= .ok u w∧R m v u:=by
  unfold xG at h;cases hb:iLt b 0 with
  |true=>rw [hb] at h;cases h
  | false=>
    rw [hb] at h;rw [zM] at hb;have a0:¬b<0:=by simpa using hb
    rcases a1 with rfl|rfl
    · cases h;exact⟨_,by simp only [binOp,Op.shift,a0,eY,bZ];rfl,by simp [R]⟩
    · cases h;exact⟨_,by simp only [binOp,Op.shift,a0,eY,bZ];rfl,by simp [R]⟩
theorem HJ (h:yesO x=some v):∃b,x=some b∧v= .b b:=by cases x<;>cases h;exact⟨_,rfl,rfl⟩
theorem KW (h:notO x=some v):∃b,x=some b∧v= .b (!b):=by cases x<;>cases h;exact⟨_,rfl,rfl⟩
theorem QC {x y:Value} {r:Bool} (hx:∀k n,x≠ .int k n) (hs:∀s,x≠ .string s) (hf:∀k n,x≠ .float k n) (hc:∀k a b,x≠ .complex k a b) (h:(Op.equal t x y).run P w= .ok r w):
    (binOp .eql t x y).run P w= .ok (.bool r) w∧(binOp .neq t x y).run P w= .ok (.bool (!r)) w:=by
  constructor
  · unfold binOp
    split<;>first
      |exact absurd rfl (hx _ _)
      |exact absurd rfl (hs _)
      |exact absurd rfl (hf _ _)
      |exact absurd rfl (hc _ _ _)
      |(simp [h];done)
      |(simp_all;done)
  · unfold binOp
    split<;>first
      |exact absurd rfl (hx _ _)
      |exact absurd rfl (hs _)
      |exact absurd rfl (hf _ _)
      |exact absurd rfl (hc _ _ _)
      |(simp [h];done)
      |(simp_all;done)
end
end Go.Ev
