/- Lemmas for the text Card; no condition. -/
import Derived.Test.YtbdpdeonapmlgaaGreatDoorBi
import Derived.Lib.Bytealg
import Derived.Laws.AppendOwn
set_option linter.all false
namespace Go.Ev
variable {f:FuncId} {fn:Func} {h:H} {m:Mp} {w w':World}
section
variable {P:Program} {m:Mp} {w:World}
theorem NW {e:Array Value→Sem Value} (hf:P.funcs[f]?=some fn) (hb:fn.body=none) (hn:fn.name≠ "runtime.NumGoroutine") (h1:Extern.findNext fn=none) (h2:Extern.find fn=some e) (args:Array Value):
  (callFunc f args).run P w=((do pure (Next.value (←e args))):Sem Next).run P w:=by
 simp [callFunc,hf,hn,hb,h1,h2,mark,Sem.run]
theorem ZE (a b:UInt8) (x y:List UInt8):Op.bytesLess (a::x) (b::y)=(decide (a<b)||(a==b&&Op.bytesLess x y)):=by
 simp [Op.bytesLess]
theorem OP:∀(x y:List UInt8),Lib.compareBytes x y=if x=y then 0 else if Op.bytesLess x y then-1 else 1
 | [],[]=>by simp [Lib.compareBytes]
 | [],_::_=>by simp [Lib.compareBytes,Op.bytesLess]
 |_::_,[]=>by simp [Lib.compareBytes,Op.bytesLess]
 | a ::x,b::y=>by
  rw [ZE];simp only [Lib.compareBytes]
  by_cases h1:a<b
  ·have a0:a≠b:=fun e=>by subst e;exact absurd h1 (by simp [mW])
   simp [h1,a0]
  ·by_cases h2:b<a
   ·have a0:a≠b:=fun e=>by subst e;exact h1 h2
    simp [h1,h2,a0]
   ·have he:a=b:=by
     apply UInt8.toNat_inj.1;simp only [Fw] at h1 h2;omega
    subst he;simp [h1,OP x y]
end
section
variable {P:Program} {m:Mp} {w:World}
theorem cJ.pureV {s:Sem Value} {v:V} {u:Value} (hr:HR m h w) (hs:s.run P w= .ok u w) (hR:R m v u):
  cJ P ((do pure (Next.value (←s)):Sem Next).run P w) m h w v h:=
 cJ.val ⟨u,w,m,hs,Fr.refl hr,hR⟩
theorem Dh (hf:P.funcs[f]?=some fn) (hb:fn.body=none) (hn:fn.name≠ "runtime.NumGoroutine") (h1:Extern.findNext fn=none) (h2:Extern.find fn=some Extern.BytealgCompare.compare)
  {call:bP} {vs:List V} {us:List Value} {h h':H} {v:V} (hr:HR m h w) (hR:Rl m vs us) (hv:cmpF.run call vs h= .ok v h'):cJ P ((callFunc f ⟨us⟩).run P w) m h w v h':=by
 simp only [cmpF] at hv;split at hv
 ·rename_i l c l' c';cases hv;obtain⟨x,us,rfl,hx,hR⟩:∃x a0,us=x::a0∧R m (.s l c) x∧Rl m [.s l' c'] a0:=by
   cases us with|nil=>simp [Rl] at hR|cons x us=>simp only [Rl,jL] at hR ⊢;obtain⟨u,a0,⟨e1,e2⟩,h1,h2⟩:=hR;subst e1 e2;exact⟨_,_,⟨rfl,rfl⟩,h1,h2⟩
  obtain⟨y,us,rfl,hy,hR⟩:∃x a0,us=x::a0∧R m (.s l' c') x∧Rl m [] a0:=by
   cases us with|nil=>simp [Rl] at hR|cons x us=>simp only [Rl,jL] at hR ⊢;obtain⟨u,a0,⟨e1,e2⟩,h1,h2⟩:=hR;subst e1 e2;exact⟨_,_,⟨rfl,rfl⟩,h1,h2⟩
  obtain rfl:us= []:=by cases us with|nil=>rfl|cons x us=>simp [Rl] at hR
  rw [R_str] at hx hy;obtain⟨s,rfl,hs,hc⟩:=hx;obtain⟨t,rfl,ht,hc'⟩:=hy;rw [NW hf hb hn h1 h2];refine cJ.pureV hr (Lib.run_compareString s t w) ?_;rw [OP,CB hs hc ht hc',YZ hs ht,lD,lD]
  by_cases e:s.data.toList=t.data.toList
  ·simp [e,R]
  ·have e':(s.data.toList==t.data.toList)=false:=by simpa using e
   rw [e',if_neg e];cases hB:Op.bytesLess s.data.toList t.data.toList<;>simp [R]
 ·cases hv
theorem VF (hf:P.funcs[f]?=some fn) (hb:fn.body=none) (hn:fn.name≠ "runtime.NumGoroutine") (h1:Extern.findNext fn=none) (h2:Extern.find fn=some Extern.AbiNoEscape.same)
  {call:bP} {vs:List V} {us:List Value} {h h':H} {v:V} (hr:HR m h w) (hR:Rl m vs us) (hv:xJ.run call vs h= .ok v h'):cJ P ((callFunc f ⟨us⟩).run P w) m h w v h':=by
 simp only [xJ] at hv;split at hv
 ·cases hv;obtain⟨x,us,rfl,hx,hR⟩:∃x a0,us=x::a0∧R m v x∧Rl m [] a0:=by
   cases us with|nil=>simp [Rl] at hR|cons x us=>simp only [Rl,jL] at hR ⊢;obtain⟨u,a0,⟨e1,e2⟩,h1,h2⟩:=hR;subst e1 e2;exact⟨_,_,⟨rfl,rfl⟩,h1,h2⟩
  obtain rfl:us= []:=by cases us with|nil=>rfl|cons x us=>simp [Rl] at hR
  rw [NW hf hb hn h1 h2];exact cJ.pureV hr rfl hx
 ·cases hv
end
section
variable {P:Program} {m:Mp} {w:World}
theorem Fr.newIn (k:HR m h w) {nx:Id} (hn:h.next.succ=some nx) (ob:O) (l:Loc) (hl:w.heap.size≤l.blk) (a2:l.blk<w'.heap.size)
  (a1:∀B,B<w.heap.size→w'.heap[B]?=w.heap[B]?) (b0:w'.os=w.os) (b2:w'.tape=w.tape) (b1:w'.output=w.output)
  (hf:∀sz els f ro,ob= .cells sz els f ro→f=h.next) (hw:iI ob)
  (b7:∀m':Mp,m.le m'→ObjAt m' w' l ob):
  Fr m h w (fun b=>if b=h.next then some l else m b) ⟨dC h.next (some ob) h.mem,h.fams,nx⟩ w':=by
 have b6:m h.next=none:=by
  cases e:m h.next with
  |none=>rfl
  |some l'=>exact absurd (k.dom _ _ e) (pP _)
 have a9:m.le (fun b=>if b=h.next then some l else m b):=by
  intro b l' hb;have:b≠h.next:=fun e=>by rw [e,b6] at hb;cases hb
  simp [this,hb]
 have a0:∀b a4,aB b (dC h.next (some ob) h.mem)=some a4→(b=h.next∧a4=ob)∨(b≠h.next∧aB b h.mem=some a4):=by
  intro b a4 hb
  by_cases e:b=h.next
  ·subst e;rw [fR] at hb;exact .inl ⟨rfl,(aJ hb).symm⟩
  ·rw [eM e] at hb;exact .inr ⟨e,hb⟩
 have c1:=Id.succ_toNat hn;refine⟨a9,⟨?_,?_,?_,?_,?_,?_,?_,fun f x hx=>by have:=k.flt f x hx;show x.toNat<nx.toNat;omega⟩,by omega,?_,b0,b2,b1,?_,?_,by show h.next.toNat≤nx.toNat;omega,fun b sz els f ro hb=>by
  rcases a0 b _ hb with⟨rfl,e⟩|⟨_,hb1⟩
  ·exact .inl (by rw [hf _ _ _ _ e.symm];exact aA _)
  ·exact .inr ⟨b,sz,els,ro,hb1⟩⟩
 ·intro b a4 hb;rcases a0 b a4 hb with⟨rfl,rfl⟩|⟨a5,hb⟩
  ·exact⟨l,by simp,b7 _ a9⟩
  ·obtain⟨l',a6,ho⟩:=k.obj b a4 hb;exact⟨l',by simp [a5,a6],ho.keep a9 (a1 _ (k.lt _ _ a6))⟩
 ·intro b l' hb;show b.toNat<nx.toNat
  by_cases e:b=h.next
  ·subst e;omega
  ·simp [e] at hb;have:=k.dom _ _ hb;omega
 ·intro b b' b4 b5 l1 l2 hb a7 a3 a2 a5 a8;rcases a0 b b4 hb with⟨rfl,rfl⟩|⟨hn1,hb1⟩<;>rcases a0 b' b5 a7 with⟨rfl,rfl⟩|⟨hn2,hb2⟩
  ·exact absurd rfl a5
  ·simp at a3;simp [hn2] at a2;have:=k.lt _ _ a2;subst a3;omega
  ·simp at a2;simp [hn1] at a3;have:=k.lt _ _ a3;subst a2;omega
  ·simp [hn1] at a3;simp [hn2] at a2;exact k.sep b b' b4 b5 l1 l2 hb1 hb2 a3 a2 a5 a8
 ·intro b b' sz els f ro b9 els' ro' hb a7 a5;rcases a0 b _ hb with⟨rfl,e1⟩|⟨hn1,hb1⟩<;>rcases a0 b' _ a7 with⟨rfl,e2⟩|⟨hn2,hb2⟩
  ·exact absurd rfl a5
  ·have:=hf _ _ _ _ e1.symm;have:=k.famlt _ _ _ _ _ hb2;subst f;omega
  ·have:=hf _ _ _ _ e2.symm;have:=k.famlt _ _ _ _ _ hb1;subst f;omega
  ·exact k.fam b b' _ _ _ _ _ _ _ hb1 hb2 a5
 ·intro f;refine(k.ord f).imp ?_;intro x y b8 sz els f1 ro b9 els' f2 ro' l1 l2 hx hy a3 a2 a8;rcases a0 x _ hx with⟨rfl,e1⟩|⟨hn1,hb1⟩<;>rcases a0 y _ hy with⟨rfl,e2⟩|⟨hn2,hb2⟩
  ·rw [a3] at a2;cases a2;rw [←e1] at e2;cases e2;exact aA _
  ·simp at a3;simp [hn2] at a2;have:=k.lt _ _ a2;subst a3;omega
  ·simp at a2;simp [hn1] at a3;have:=k.lt _ _ a3;subst a2;omega
  ·simp [hn1] at a3;simp [hn2] at a2;exact b8 _ _ _ _ _ _ _ _ _ _ hb1 hb2 a3 a2 a8
 ·intro b l' hb
  by_cases e:b=h.next
  ·subst e;simp at hb;subst hb;exact a2
  ·simp [e] at hb;have:=k.lt _ _ hb;omega
 ·intro b sz els f ro hb;show f.toNat<nx.toNat;rcases a0 b _ hb with⟨rfl,e1⟩|⟨hn1,hb1⟩
  ·have:=hf _ _ _ _ e1.symm;subst this;omega
  ·have:=k.famlt _ _ _ _ _ hb1;omega
 ·intro B hB _;exact a1 B hB
 ·intro b a4 l' hb a6;rcases a0 b a4 hb with⟨rfl,rfl⟩|⟨a5,hb⟩
  ·simp at a6;subst a6;exact .inl (by omega)
  ·simp [a5] at a6;exact .inr ⟨b,a4,l',hb,a6,rfl,id⟩
 ·intro b l' hb c0;have:b≠h.next:=fun e=>by subst e;omega
  simpa [this] using hb
theorem Fr.later (k:HR m h w) (b3:w.heap.size≤w'.heap.size)
  (a1:∀B,B<w.heap.size→w'.heap[B]?=w.heap[B]?) (b0:w'.os=w.os) (b2:w'.tape=w.tape) (b1:w'.output=w.output):Fr m h w m h w':=by
 refine⟨fun _ _ e=>e,⟨?_,k.dom,k.sep,k.fam,k.ord,fun b l hb=>aZ (k.lt b l hb) b3,k.famlt,k.flt⟩,b3,fun B hB _=>a1 B hB,b0,b2,b1,?_,fun b l hb _=>hb,aA _,?_⟩
 ·intro b ob hb;obtain⟨l,hl,ho⟩:=k.obj b ob hb;exact⟨l,hl,ho.keep (fun _ _ e=>e) (a1 _ (k.lt _ _ hl))⟩
 ·intro b ob l hb hl;exact .inr ⟨b,ob,l,hb,hl,rfl,id⟩
 ·intro b sz els f ro hb;exact .inr ⟨b,sz,els,ro,hb⟩
end
end Go.Ev
