/-
  A part of the proof of the card of WorkGeneralizationIsLeast (second form): lemmas that the text Card uses. No condition of its own.
-/
import Derived.Test.YtaloeffmigffaaaGreatDoorEv08
import Derived.Lib.Bytealg
import Derived.Laws.AppendOwn
set_option linter.all false
set_option linter.unusedVariables false
set_option linter.unusedSimpArgs false
section
namespace Go.Ev
open Go
variable {P:Program} {m:Mp} {w:World}
theorem ext_run {f : FuncId} {fn : Func} {e : Array Value → Sem Value} (hf : P.funcs[f]? = some fn) (hb : fn.body = none) (hn : fn.name ≠ "runtime.NumGoroutine") (h1 : Extern.findNext fn = none) (h2 : Extern.find fn = some e) (args : Array Value) :
    (callFunc f args).run P w = ((do pure (Next.value (← e args))):Sem Next).run P w:=by
  simp [callFunc,hf,hn,hb,h1,h2,mark,Sem.run]
theorem less_cons (a b:UInt8) (x y:List UInt8):Op.bytesLess (a :: x) (b :: y) = (decide (a < b) || (a == b && Op.bytesLess x y)):=by
  simp [Op.bytesLess]
theorem compareBytes_eq:∀ (x y:List UInt8),Lib.compareBytes x y = if x = y then 0 else if Op.bytesLess x y then -1 else 1
  | [],[]=>by simp [Lib.compareBytes]
  | [],_ :: _=>by simp [Lib.compareBytes,Op.bytesLess]
  | _ :: _,[]=>by simp [Lib.compareBytes,Op.bytesLess]
  | a :: x,b :: y=>by
    rw [less_cons]
    simp only [Lib.compareBytes]
    by_cases h1:a < b
    · have hne:a ≠ b:=fun e=>by subst e;exact absurd h1 (by simp [UInt8.lt_irrefl])
      simp [h1,hne]
    · by_cases h2:b < a
      · have hne:a ≠ b:=fun e=>by subst e;exact h1 h2
        simp [h1,h2,hne]
      · have he:a = b:=by
          apply UInt8.toNat_inj.1
          simp only [UInt8.lt_iff_toNat_lt] at h1 h2
          omega
        subst he
        simp [h1,compareBytes_eq x y]
end Go.Ev
end
section
namespace Go.Ev
open Go
variable {P:Program} {m:Mp} {w:World}
theorem HvOk.pureV {s:Sem Value} {h:H} {v:V} {u:Value} (hr:HR m h w) (hs:s.run P w = .ok u w) (hR:R m v u) :
    HvOk P ((do pure (Next.value (← s)):Sem Next).run P w) m h w v h:=
  HvOk.val ⟨u,w,m,hs,Fr.refl hr,hR⟩
theorem cmpF_sound {f : FuncId} {fn : Func} (hf : P.funcs[f]? = some fn) (hb : fn.body = none) (hn : fn.name ≠ "runtime.NumGoroutine") (h1 : Extern.findNext fn = none) (h2 : Extern.find fn = some Extern.BytealgCompare.compare)
    {call:CallT} {vs:List V} {us:List Value} {h h':H} {v:V} (hr:HR m h w) (hR:Rl m vs us) (hv:cmpF.run call vs h = .ok v h'):HvOk P ((callFunc f ⟨us⟩).run P w) m h w v h':=by
  simp only [cmpF] at hv
  split at hv
  · rename_i l c l' c'
    cases hv
    obtain ⟨x,us,rfl,hx,hR⟩:∃ x us',us = x :: us' ∧ R m (.s l c) x ∧ Rl m [.s l' c'] us':=by
      cases us with | nil=>simp [Rl] at hR | cons x us=>simp only [Rl,List.cons.injEq] at hR ⊢;obtain ⟨u,us',⟨e1,e2⟩,h1,h2⟩:=hR;subst e1 e2;exact ⟨_,_,⟨rfl,rfl⟩,h1,h2⟩
    obtain ⟨y,us,rfl,hy,hR⟩:∃ x us',us = x :: us' ∧ R m (.s l' c') x ∧ Rl m [] us':=by
      cases us with | nil=>simp [Rl] at hR | cons x us=>simp only [Rl,List.cons.injEq] at hR ⊢;obtain ⟨u,us',⟨e1,e2⟩,h1,h2⟩:=hR;subst e1 e2;exact ⟨_,_,⟨rfl,rfl⟩,h1,h2⟩
    obtain rfl:us = []:=by cases us with | nil=>rfl | cons x us=>simp [Rl] at hR
    rw [R_str] at hx hy
    obtain ⟨s,rfl,hs,hc⟩:=hx
    obtain ⟨t,rfl,ht,hc'⟩:=hy
    rw [ext_run hf hb hn h1 h2]
    refine HvOk.pureV hr (Lib.run_compareString s t w) ?_
    rw [compareBytes_eq,sEq_sound hs hc ht hc',ltB_sound hs ht,ByteArray.toList_eq,ByteArray.toList_eq]
    by_cases e:s.data.toList = t.data.toList
    · simp [e,R]
    · have e':(s.data.toList == t.data.toList) = false:=by simpa using e
      rw [e',if_neg e]
      cases hB:Op.bytesLess s.data.toList t.data.toList <;> simp [R]
  · cases hv
theorem sameF_sound {f : FuncId} {fn : Func} (hf : P.funcs[f]? = some fn) (hb : fn.body = none) (hn : fn.name ≠ "runtime.NumGoroutine") (h1 : Extern.findNext fn = none) (h2 : Extern.find fn = some Extern.AbiNoEscape.same)
    {call:CallT} {vs:List V} {us:List Value} {h h':H} {v:V} (hr:HR m h w) (hR:Rl m vs us) (hv:sameF.run call vs h = .ok v h'):HvOk P ((callFunc f ⟨us⟩).run P w) m h w v h':=by
  simp only [sameF] at hv
  split at hv
  · cases hv
    obtain ⟨x,us,rfl,hx,hR⟩:∃ x us',us = x :: us' ∧ R m v x ∧ Rl m [] us':=by
      cases us with | nil=>simp [Rl] at hR | cons x us=>simp only [Rl,List.cons.injEq] at hR ⊢;obtain ⟨u,us',⟨e1,e2⟩,h1,h2⟩:=hR;subst e1 e2;exact ⟨_,_,⟨rfl,rfl⟩,h1,h2⟩
    obtain rfl:us = []:=by cases us with | nil=>rfl | cons x us=>simp [Rl] at hR
    rw [ext_run hf hb hn h1 h2]
    exact HvOk.pureV hr rfl hx
  · cases hv
end Go.Ev
end
section
namespace Go.Ev
open Go
variable {P:Program} {m:Mp} {w:World}
theorem Fr.newIn {m:Mp} {h:H} {w w':World} (k:HR m h w) {nx:Id} (hn:h.next.succ = some nx) (ob:O) (l:Loc) (hl:w.heap.size ≤ l.blk) (hl2:l.blk < w'.heap.size)
    (hkeep:∀ B,B < w.heap.size → w'.heap[B]? = w.heap[B]?) (hos:w'.os = w.os) (hta:w'.tape = w.tape) (hou:w'.output = w.output)
    (hf:∀ sz els f ro,ob = .cells sz els f ro → f = h.next) (hw:writable ob)
    (hob:∀ m':Mp,m.le m' → ObjAt m' w' l ob) :
    Fr m h w (fun b=>if b = h.next then some l else m b) ⟨mput h.next (some ob) h.mem,h.fams,nx⟩ w':=by
  have hno:m h.next = none:=by
    cases e:m h.next with
    | none=>rfl
    | some l'=>exact absurd (k.dom _ _ e) (Nat.lt_irrefl _)
  have hle:m.le (fun b=>if b = h.next then some l else m b):=by
    intro b l' hb
    have:b ≠ h.next:=fun e=>by rw [e,hno] at hb;cases hb
    simp [this,hb]
  have hmem:∀ b ob',mget b (mput h.next (some ob) h.mem) = some ob' → (b = h.next ∧ ob' = ob) ∨ (b ≠ h.next ∧ mget b h.mem = some ob'):=by
    intro b ob' hb
    by_cases e:b = h.next
    · subst e;rw [mget_mput] at hb;exact .inl ⟨rfl,(Option.some.inj hb).symm⟩
    · rw [mget_mput_ne e] at hb;exact .inr ⟨e,hb⟩
  have hnx:=Id.succ_toNat hn
  refine ⟨hle,⟨?_,?_,?_,?_,?_,?_,?_,fun f x hx=>by have:=k.flt f x hx;show x.toNat < nx.toNat;omega⟩,by omega,?_,hos,hta,hou,?_,?_,by show h.next.toNat ≤ nx.toNat;omega,fun b sz els f ro hb=>by
    rcases hmem b _ hb with ⟨rfl,e⟩ | ⟨_,hb1⟩
    · exact .inl (by rw [hf _ _ _ _ e.symm];exact Nat.le_refl _)
    · exact .inr ⟨b,sz,els,ro,hb1⟩⟩
  · intro b ob' hb
    rcases hmem b ob' hb with ⟨rfl,rfl⟩ | ⟨hne,hb⟩
    · exact ⟨l,by simp,hob _ hle⟩
    · obtain ⟨l',hl',ho⟩:=k.obj b ob' hb
      exact ⟨l',by simp [hne,hl'],ho.keep hle (hkeep _ (k.lt _ _ hl'))⟩
  · intro b l' hb
    show b.toNat < nx.toNat
    by_cases e:b = h.next
    · subst e;omega
    · simp [e] at hb;have:=k.dom _ _ hb;omega
  · intro b b' ob1 ob2 l1 l2 hb hb' hl1 hl2 hne heq
    rcases hmem b ob1 hb with ⟨rfl,rfl⟩ | ⟨hn1,hb1⟩ <;> rcases hmem b' ob2 hb' with ⟨rfl,rfl⟩ | ⟨hn2,hb2⟩
    · exact absurd rfl hne
    · simp at hl1;simp [hn2] at hl2;have:=k.lt _ _ hl2;subst hl1;omega
    · simp at hl2;simp [hn1] at hl1;have:=k.lt _ _ hl1;subst hl2;omega
    · simp [hn1] at hl1;simp [hn2] at hl2
      exact k.sep b b' ob1 ob2 l1 l2 hb1 hb2 hl1 hl2 hne heq
  · intro b b' sz els f ro sz' els' ro' hb hb' hne
    rcases hmem b _ hb with ⟨rfl,e1⟩ | ⟨hn1,hb1⟩ <;> rcases hmem b' _ hb' with ⟨rfl,e2⟩ | ⟨hn2,hb2⟩
    · exact absurd rfl hne
    · have:=hf _ _ _ _ e1.symm;have:=k.famlt _ _ _ _ _ hb2;subst f;omega
    · have:=hf _ _ _ _ e2.symm;have:=k.famlt _ _ _ _ _ hb1;subst f;omega
    · exact k.fam b b' _ _ _ _ _ _ _ hb1 hb2 hne
  · intro f
    refine (k.ord f).imp ?_
    intro x y hxy sz els f1 ro sz' els' f2 ro' l1 l2 hx hy hl1 hl2 heq
    rcases hmem x _ hx with ⟨rfl,e1⟩ | ⟨hn1,hb1⟩ <;> rcases hmem y _ hy with ⟨rfl,e2⟩ | ⟨hn2,hb2⟩
    · rw [hl1] at hl2;cases hl2;rw [← e1] at e2;cases e2;exact Nat.le_refl _
    · simp at hl1;simp [hn2] at hl2;have:=k.lt _ _ hl2;subst hl1;omega
    · simp at hl2;simp [hn1] at hl1;have:=k.lt _ _ hl1;subst hl2;omega
    · simp [hn1] at hl1;simp [hn2] at hl2
      exact hxy _ _ _ _ _ _ _ _ _ _ hb1 hb2 hl1 hl2 heq
  · intro b l' hb
    by_cases e:b = h.next
    · subst e;simp at hb;subst hb;exact hl2
    · simp [e] at hb;have:=k.lt _ _ hb;omega
  · intro b sz els f ro hb
    show f.toNat < nx.toNat
    rcases hmem b _ hb with ⟨rfl,e1⟩ | ⟨hn1,hb1⟩
    · have:=hf _ _ _ _ e1.symm;subst this;omega
    · have:=k.famlt _ _ _ _ _ hb1;omega
  · intro B hB _;exact hkeep B hB
  · intro b ob' l' hb hl'
    rcases hmem b ob' hb with ⟨rfl,rfl⟩ | ⟨hne,hb⟩
    · simp at hl';subst hl';exact .inl (by omega)
    · simp [hne] at hl';exact .inr ⟨b,ob',l',hb,hl',rfl,id⟩
  · intro b l' hb hlt
    have:b ≠ h.next:=fun e=>by subst e;omega
    simpa [this] using hb
theorem Fr.later {m:Mp} {h:H} {w w':World} (k:HR m h w) (hsz:w.heap.size ≤ w'.heap.size)
    (hkeep:∀ B,B < w.heap.size → w'.heap[B]? = w.heap[B]?) (hos:w'.os = w.os) (hta:w'.tape = w.tape) (hou:w'.output = w.output):Fr m h w m h w':=by
  refine ⟨fun _ _ e=>e,⟨?_,k.dom,k.sep,k.fam,k.ord,fun b l hb=>Nat.lt_of_lt_of_le (k.lt b l hb) hsz,k.famlt,k.flt⟩,hsz,fun B hB _=>hkeep B hB,hos,hta,hou,?_,fun b l hb _=>hb,Nat.le_refl _,?_⟩
  · intro b ob hb
    obtain ⟨l,hl,ho⟩:=k.obj b ob hb
    exact ⟨l,hl,ho.keep (fun _ _ e=>e) (hkeep _ (k.lt _ _ hl))⟩
  · intro b ob l hb hl;exact .inr ⟨b,ob,l,hb,hl,rfl,id⟩
  · intro b sz els f ro hb;exact .inr ⟨b,sz,els,ro,hb⟩
end Go.Ev
end
section
namespace Go.Ev
open Go
variable {P:Program} {m:Mp} {w:World}
theorem rd1_cell {h:H} (k:HR m h w) {b:Id} {o:Nat} {v:V} {l:Loc} (hl:m b = some l) (hv:rd1 h b o = some v):∃ u',w.cell? ⟨l.blk,l.base + o,none⟩ = some u' ∧ R m v u':=by
  unfold rd1 at hv
  cases hb:mget b h.mem with
  | none=>rw [hb] at hv;cases hv
  | some ob=>
    rw [hb] at hv
    cases ob with
    | map _ _=>cases hv
    | siter _ _ _=>cases hv
    | miter _ _ _ _=>cases hv
    | cells sz els f ro=>
      have hv1:(Option.rec (motive:=fun _=>Option V) none (fun el=>nthV el (Nat.mod o sz)) (nthL els (Nat.div o sz)):Option V) = some v:=hv
      rw [nthL_eq] at hv1
      cases he:els[Nat.div o sz]? with
      | none=>rw [he] at hv1;cases hv1
      | some el=>
        rw [he] at hv1
        have hv2:nthV el (o % sz) = some v:=hv1
        rw [nthV_eq] at hv2
        obtain ⟨l2,hl2,C,t2,fz,hcs⟩:=k.obj _ _ hb
        rw [hl] at hl2;cases hl2
        have hlt:=(List.getElem?_eq_some_iff.1 hv2).1
        have hlen:=hcs.each el (List.mem_of_getElem? he)
        have hf:=flat_get hcs.each he (o % sz) (by omega)
        rw [hv2] at hf
        obtain ⟨u',hu',hR,_⟩:=hcs.val _ _ hf
        have hi:Nat.div o sz * sz + o % sz = o:=by
          have:=Nat.div_add_mod o sz;rw [Nat.mul_comm] at this;exact this
        rw [hi] at hu'
        exact ⟨u',by rw [cell_of hcs.at_,hu'],hR⟩
noncomputable def rdInts (h:H) (b:Id):Nat → Nat → Option (List Int)
  | 0,_=>some []
  | n + 1,o=>match rd1 h b o with
    | some (.i .i64 z)=>(match rdInts h b n (Nat.succ o) with | some l=>some (z :: l) | none=>none)
    | _=>none
theorem rdInts_ok {h:H} (k:HR m h w) {b:Id} {l:Loc} (hl:m b = some l):∀ (n o:Nat) (zs:List Int),rdInts h b n o = some zs → zs.length = n ∧ ∀ j,j < n → w.cell? ⟨l.blk,l.base + (o + j),none⟩ = some (.int .i64 (zs[j]?.getD 0))
  | 0,o,zs,hz=>by cases hz;exact ⟨rfl,fun j hj=>absurd hj (by omega)⟩
  | n + 1,o,zs,hz=>by
    unfold rdInts at hz
    split at hz
    · rename_i z hz1
      split at hz
      · rename_i zs' hz2
        cases hz
        obtain ⟨h1,h2⟩:=rdInts_ok k hl n _ _ hz2
        obtain ⟨u,hu,hR⟩:=rd1_cell k hl hz1
        simp only [R] at hR;subst hR
        refine ⟨by simp [h1],fun j hj=>?_⟩
        cases j with
        | zero=>simpa using hu
        | succ j=>have:=h2 j (by omega);rw [show o + (j + 1) = Nat.succ o + j by omega];simpa using this
      · cases hz
    · cases hz
def oneEls:List Int → List (List V)
  | []=>[]
  | z :: l=>[.i .i64 z] :: oneEls l
theorem oneEls_flat:∀ (zs:List Int),(oneEls zs).flatten = zs.map (V.i .i64)
  | []=>rfl
  | z :: l=>by simp [oneEls,oneEls_flat l]
theorem oneEls_length:∀ (zs:List Int),(oneEls zs).length = zs.length
  | []=>rfl
  | z :: l=>by simp [oneEls,oneEls_length l]
theorem oneEls_each:∀ (zs:List Int),∀ el ∈ oneEls zs,el.length = 1
  | [],el,h=>by simp [oneEls] at h
  | z :: l,el,h=>by
    simp only [oneEls,List.mem_cons] at h
    rcases h with rfl | h
    · rfl
    · exact oneEls_each l el h
noncomputable def seqG (fv el:Nat):FOp:=⟨fun _ args h=>match args with
  | [.sn,.fn (.func g) [] [.p b o]]=>bif Nat.beq g fv then (match rd1 h b o with
      | some (.sl b2 o2 len _)=>bif Nat.ble len 1000000 then (match rdInts h b2 len o2 with
        | some []=>.ok .sn h
        | some (z :: zs)=>newC el h 1 (oneEls (z :: zs)) (fun i=>.sl i 0 len 1)
        | none=>.bad) else .bad
      | _=>.bad) else .bad
  | _=>.bad⟩
def SeqDoes (P:Program) (f fv el:Nat):Prop:=
  (∀ args w,(callFunc f args).run P w = .ok (.enter f args) w) ∧
  ∀ (w:World) (Bs oB b off cap:Nat) (zs:List Int),zs.length ≤ 1000000 → Bs < w.heap.size → b < w.heap.size → w.cell? ⟨Bs,oB,none⟩ = some (.slice (some ⟨b,off,none⟩) zs.length cap) →
    (∀ j,j < zs.length → w.cell? ⟨b,off + j,none⟩ = some (.int .i64 (zs[j]?.getD 0))) →
    Calls P f #[.slice none 0 0,.func (.func fv) #[] #[.pointer (some ⟨Bs,oB,none⟩)]] w fun e w'=>∃ v:Value,e = .returned v ∧ w'.ownsRow w.heap.size el 1 v zs.length (zs.map (Value.int .i64)) ∧ (v = .slice none 0 0 ↔ zs = []) ∧ RowKit.Below w.heap.size w w'
theorem seqG_sound {f fv el:Nat} (hD:SeqDoes P f fv el) {call:CallT} {vs:List V} {us:List Value} {h h':H} {v:V} (hr:HR m h w) (hR:Rl m vs us) (hv:(seqG fv el).run call vs h = .ok v h'):HvOk P ((callFunc f ⟨us⟩).run P w) m h w v h':=by
  simp only [seqG] at hv
  split at hv
  · rename_i g b o
    have hg:g = fv:=by
      cases e:Nat.beq g fv with
      | false=>rw [e] at hv;cases hv
      | true=>exact Nat.eq_of_beq_eq_true e
    subst hg
    rw [show Nat.beq g g = true from Nat.beq_refl g] at hv
    simp only [cond_true] at hv
    simp only [Rl,R] at hR
    obtain ⟨u0,us0,rfl,rfl,u1,us1,rfl,⟨a',c',rfl,rfl,u2,us2,rfl,⟨l,hl,rfl⟩,rfl⟩,rfl⟩:=hR
    split at hv
    · rename_i b2 o2 len sz hrd
      cases hle:Nat.ble len 1000000 with
      | false=>rw [hle] at hv;cases hv
      | true=>
        rw [hle] at hv
        simp only [cond_true] at hv
        have hlen:=Nat.le_of_ble_eq_true hle
        obtain ⟨us,hus,hRs⟩:=rd1_cell hr hl hrd
        simp only [R] at hRs
        obtain ⟨l2,cap,hl2,rfl,hcap,hlim⟩:=hRs
        obtain ⟨hen,hcalls⟩:=hD
        have fin:∀ zs,rdInts h b2 len o2 = some zs → (∀ (w':World) (v':Value),w'.ownsRow w.heap.size el 1 v' zs.length (zs.map (Value.int .i64)) → (v' = .slice none 0 0 ↔ zs = []) → RowKit.Below w.heap.size w w' → ∃ m',Fr m h w m' h' w' ∧ R m' v v') → HvOk P ((callFunc f ⟨[.slice none 0 0,.func (.func g) ⟨[]⟩ ⟨[.pointer (some ⟨l.blk,l.base + o,none⟩)]⟩]⟩).run P w) m h w v h':=by
          intro zs hz hfin
          obtain ⟨h1,h2⟩:=rdInts_ok hr hl2 len o2 zs hz
          refine .inr ⟨f,_,hen _ w,(hcalls w l.blk (l.base + o) l2.blk (l2.base + o2) cap zs (by omega) (hr.lt _ _ hl) (hr.lt _ _ hl2) (by rw [h1];exact hus) (fun j hj=>by rw [Nat.add_assoc];exact h2 j (by omega))).mono ?_⟩
          rintro e w' ⟨v',rfl,h3,h4,h5⟩
          obtain ⟨m',hF,hRv⟩:=hfin w' v' h3 h4 h5
          exact ⟨v',m',rfl,hF,hRv⟩
        split at hv
        · rename_i hz
          cases hv
          refine fin _ hz ?_
          intro w' v' h3 h4 h5
          exact ⟨m,Fr.later hr h5.size h5.block h5.os h5.tape h5.output,by simp only [R];exact h4.2 rfl⟩
        · rename_i z zs hz
          refine fin _ hz ?_
          intro w' v' h3 h4 h5
          obtain ⟨nx,hnx,rfl,rfl⟩:=newO_ok hv
          obtain ⟨h1,_⟩:=rdInts_ok hr hl2 len o2 _ hz
          rcases h3.2 with ⟨e,_⟩ | ⟨g',cap',cur,rfl,hge,hg',hle',hmax,hsz,htake⟩
          · cases h4.1 e
          · refine ⟨_,Fr.newIn hr hnx (.cells 1 (oneEls (z :: zs)) h.next (.rw el)) ⟨g',0,cur.size⟩ hge ?_ h5.block h5.os h5.tape h5.output (fun _ _ _ _ e=>by cases e;rfl) (by simp [writable]) ?_,?_⟩
            · exact (Array.getElem?_eq_some_iff.1 hg').1
            · intro m' hm
              refine ⟨cur,el,(0,0),⟨hg',by simp,?_,oneEls_each _,?_,?_,fun _ _=>rfl,fun ty e=>by cases e;rfl,Nat.zero_mod _⟩⟩
              · rw [oneEls_flat,List.length_map];show (z :: zs).length ≤ cur.size;omega
              · intro i v hv
                rw [oneEls_flat] at hv
                have hi:i < (z :: zs).length:=by have:=(List.getElem?_eq_some_iff.1 hv).1;simpa using this
                have hc:cur.toList[i]? = ((z :: zs).map (Value.int .i64))[i]?:=by
                  rw [← htake,List.getElem?_take_of_lt (by omega)]
                rw [List.getElem?_map] at hv hc
                rw [List.getElem?_eq_getElem hi] at hv hc
                cases hv
                refine ⟨_,by show cur[0 + i]? = _;rw [Nat.zero_add,← Array.getElem?_toList];exact hc,by simp [R],by simp [scalar]⟩
              · intro _ i _;show ¬ (0 ≤ _ ∧ _ < 0);omega
            · simp only [R]
              exact ⟨⟨g',0,cur.size⟩,cap',by simp,by simp;omega,by omega,by show 0 + cap' * 1 ≤ cur.size;omega⟩
        · cases hv
    · cases hv
  · cases hv
end Go.Ev
end
