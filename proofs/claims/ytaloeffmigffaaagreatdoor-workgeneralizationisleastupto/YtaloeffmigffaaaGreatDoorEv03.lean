/-
  A part of the proof of the card of WorkGeneralizationIsLeast (second form): lemmas that the text Card uses. No condition of its own.
-/
import Derived.Test.YtaloeffmigffaaaGreatDoorEv02
import Derived.Lib.UnsafeStr
import Derived.Laws.MakeOwn
set_option linter.all false
set_option linter.unusedVariables false
set_option linter.unusedSimpArgs false
section
namespace Go.Ev
open Go
variable {P:Program} {m:Mp} {w:World}
theorem entAt_sound {st:Nat}:∀ {es:List Ent} {xs:List MapEntry} {e:Ent},EntsR m es xs → entAt st es = some e → ∃ x,xs.find? (·.born == st) = some x ∧ EntR m e x
  | [],xs,e,h,he=>by cases he
  | a :: es,xs,e,h,he=>by
    obtain ⟨x,xs',rfl,hx,hxs⟩:=h
    unfold entAt at he
    cases hb:Nat.beq a.born st with
    | true=>
      rw [hb] at he;cases he
      have:(x.born == st) = true:=by rw [hx.2.2];simpa using Nat.eq_of_beq_eq_true hb
      exact ⟨x,by simp [List.find?,this],hx⟩
    | false=>
      rw [hb] at he
      have:(x.born == st) = false:=by
        rw [hx.2.2];simp;intro h;subst h;simp at hb
      obtain ⟨y,h1,h2⟩:=entAt_sound hxs he
      exact ⟨y,by simp [List.find?,this,h1],h2⟩
theorem lastN_eq:∀ (l:List Nat),lastN l = (⟨l⟩:Array Nat).back?
  | []=>by simp [lastN]
  | [a]=>by simp [lastN]
  | a :: b :: l=>by
    have:lastN (a :: b :: l) = lastN (b :: l):=rfl
    rw [this,lastN_eq (b :: l)];simp [List.getLast?_cons]
theorem run_getObj' {b:Nat} {o:Obj} (hb:w.heap[b]? = some o) (hn:∀ c t f,o ≠ .cells c t f):(getObj b).run P w = .ok o w:=by
  cases o <;> first | exact absurd rfl (hn _ _ _) | simp [getObj,Sem.run,hb]
theorem entry_sound {h:H} (hr:HR m h w) {b:Id} {l:Loc} (hl:m b = some l) {v:V} (hv:entryF h b = some v):∃ u,(Instr.entry (.pointer (some ⟨l.blk,l.base + 0,none⟩))).run P w = .ok u w ∧ R m v u:=by
  unfold entryF at hv
  split at hv
  · rename_i mi since seen last hb
    obtain ⟨l1,hl1,h0,lm,hlm,hit⟩:=hr.obj _ _ hb
    rw [hl] at hl1;cases hl1
    cases hs:lastN seen with
    | none=>rw [hs] at hv;cases hv
    | some st=>
      cases he:entsOf h mi with
      | none=>rw [hs,he] at hv;cases hv
      | some p=>
        obtain ⟨es,clock⟩:=p
        rw [hs,he] at hv
        simp only at hv
        cases hc:Nat.beq clock last with
        | false=>rw [hc] at hv;cases hv
        | true=>
          rw [hc] at hv
          simp only [cond_true] at hv
          have hcl:=Nat.eq_of_beq_eq_true hc
          cases ha:entAt st es with
          | none=>rw [ha] at hv;cases hv
          | some en=>
            rw [ha] at hv;cases hv
            obtain ⟨l2,es',_,hl2,hm,hes⟩:=entsOf_some hr he
            rw [hlm] at hl2;cases hl2
            obtain ⟨x,hx1,hx2⟩:=entAt_sound hes ha
            rw [lastN_eq] at hs
            refine ⟨.tuple #[x.key,x.val],?_,?_⟩
            · rw [h0]
              have hx1':(⟨es'⟩:Array MapEntry).find? (fun x=>x.born == st) = some x:=by simpa using hx1
              simp only [Instr.entry,Sem.run_bind,run_getObj' hit (by simp),Result.andThen_ok,hs,run_getMap hm]
              simp [hcl,hx1']
            · simp only [R,Rl];exact ⟨_,rfl,_,_,rfl,hx2.1,_,_,rfl,hx2.2.1,rfl⟩
  · cases hv
theorem encode_small (n:Nat) (h:n < 128):bytesIn (Utf8.encode (n:Int)) = bytesOf 1 n:=by
  have key:∀ n:Nat,n < 128 → bytesIn (Utf8.encode (n:Int)) = bytesOf 1 n:=by decide +kernel
  exact key n h
set_option maxHeartbeats 4000000 in
theorem light_sound {n:Nat} {e:Env} {a:Act} (k:EnvR m n e a) (hg:Gl P m) {h:H} (hr:HR m h w) {o:Oper} (hops:o.op.operands.toList.all (opOk P n) = true) {v:V}
    (hv:(lightC P o.op).run e h = some v):∃ u,(execOp a.eval o).run P w = .ok (.value u) w ∧ R m v u:=by
  have vv:∀ {s:Sem Value},(∃ u,s.run P w = .ok u w ∧ R m v u) → ∃ u,(do pure (Next.value (← s)):Sem Next).run P w = .ok (.value u) w ∧ R m v u:=by
    rintro s ⟨u,h1,h2⟩;exact ⟨u,by simp [h1],h2⟩
  obtain ⟨dst,op,type,pos,after,guard⟩:=o
  simp only at hops hv
  cases op <;> simp only [Op.operands] at hops <;> simp only [lightC] at hv <;> (try (cases hv;done))
  case move x=>
    cases hv
    exact ⟨_,rfl,opnd_sound k hg (by simpa using hops)⟩
  case assign x=>
    cases hv
    exact ⟨_,rfl,opnd_sound k hg (by simpa using hops)⟩
  case pick c x y=>
    simp at hops
    obtain ⟨b,e1,hv⟩:=as_b_O_some hv
    have hc:=opnd_sound k hg hops.1
    rw [e1] at hc;have hc:=R_b hc
    rcases iteO_of hv with ⟨hb,hv⟩ | ⟨hb,hv⟩ <;> cases hv
    · subst hb;exact ⟨_,by simp [execOp,hc,asBool],opnd_sound k hg hops.2.1⟩
    · subst hb;exact ⟨_,by simp [execOp,hc,asBool],opnd_sound k hg hops.2.2⟩
  case build t ps=>
    exact vv (build_sound k hg (by simpa using hops) hv)
  case load t x=>
    have hX:=opnd_sound k hg (show opOk P n x = true by simpa using hops)
    cases hn:sizeT P t with
    | none=>rw [hn] at hv;cases ha:isAggT P t <;> rw [ha] at hv <;> cases hv
    | some sz=>
      obtain ⟨d,hd⟩:=sizeT_und hn
      refine vv (load_sound hr hd hn hX ?_)
      rw [hn] at hv
      cases ha:isAggT P t <;> rw [ha] at hv <;> exact hv
  case nilCheck x=>
    have hX:=opnd_sound k hg (show opOk P n x = true by simpa using hops)
    rcases as_p_O_of hv with ⟨b,o,e1,hv⟩ | ⟨_,hv⟩
    · cases hv
      rw [e1] at hX
      obtain ⟨l,hl,hu⟩:=R_p hX
      refine ⟨a.eval x,by simp only [execOp,hu];rfl,hX⟩
    · split at hv
      · rename_i f A B e1
        cases hv
        rw [e1] at hX
        refine ⟨a.eval x,?_,hX⟩
        simp only [R] at hX;obtain ⟨a',c',hu,_⟩:=hX
        simp only [execOp,hu];rfl
      · rename_i t0 v0 e1
        cases hv
        rw [e1] at hX
        refine ⟨a.eval x,?_,hX⟩
        simp only [R] at hX;obtain ⟨v',hu,_⟩:=hX
        simp only [execOp,hu];rfl
      · rename_i b e1
        cases hv
        rw [e1] at hX
        refine ⟨a.eval x,?_,hX⟩
        simp only [R] at hX;obtain ⟨l,_,hu⟩:=hX
        simp only [execOp,hu];rfl
      · rename_i e1
        cases hv
        rw [e1] at hX
        refine ⟨a.eval x,?_,hX⟩
        simp only [R] at hX
        simp only [execOp,hX];rfl
      · cases hv
  case binOp op t x y yt=>
    simp at hops
    exact vv (bin_sound k hg hr hops.1 hops.2 hv)
  case unOp op t x=>
    have hX:=opnd_sound k hg (show opOk P n x = true by simpa using hops)
    refine vv ?_
    cases op <;> simp only [unC] at hv <;> (try (cases hv;done))
    · obtain ⟨kk,A,e1,hv⟩:=as_i_O_some hv
      cases hv
      rw [e1] at hX;have hX:=R_i hX
      exact ⟨_,by rw [hX];simp [Op.unary,Op.intArith];rfl,by simp [R,wrapF_eq,iSub_eq]⟩
    · obtain ⟨kk,A,e1,hv⟩:=as_i_O_some hv
      cases hv
      rw [e1] at hX;have hX:=R_i hX
      exact ⟨_,by rw [hX];simp only [Op.unary,Op.intBits,Sem.run_pure];rfl,by simp [R]⟩
    · obtain ⟨b,e1,hv⟩:=as_b_O_some hv
      cases hv
      rw [e1] at hX;have hX:=R_b hX
      exact ⟨_,by rw [hX];simp [Op.unary];rfl,by simp [R]⟩
  case convert s d x=>
    have hX:=opnd_sound k hg (show opOk P n x = true by simpa using hops)
    refine vv ?_
    split at hv
    · rename_i ds kk hs hd
      obtain ⟨k1,A,e1,hv⟩:=as_i_O_some hv
      cases hv
      rw [e1] at hX;have hX:=R_i hX
      exact ⟨_,by rw [hX];simp only [convert,Sem.run_bind,run_und hs,run_und hd,Result.andThen_ok,Conv.intToInt,Sem.run_pure];rfl,by simp [R,wrapF_eq]⟩
    · rename_i kk hs hd
      obtain ⟨k1,A,e1,hv⟩:=asN_some hv
      obtain ⟨hlt,hv⟩:=iteO_some hv
      cases hv
      have hlt:=Nat.le_of_ble_eq_true hlt
      rw [e1] at hX;have hX:=R_i hX
      refine ⟨.string (Utf8.encode (A:Int)),by rw [hX];simp only [convert,Sem.run_bind,run_und hs,run_und hd,Result.andThen_ok,Conv.intToString,Sem.run_pure];rfl,?_⟩
      rw [R_str]
      exact ⟨_,rfl,encode_small A (by omega),by omega⟩
    · rename_i hs hd
      obtain ⟨l,c,e1,hv⟩:=as_s_O_some hv
      cases hv
      rw [e1] at hX
      refine ⟨a.eval x,?_,hX⟩
      rw [R_str] at hX;obtain ⟨s',hs',_⟩:=hX
      rw [hs'];simp only [convert,Sem.run_bind,run_und hs,run_und hd,Result.andThen_ok,Sem.run_pure]
    · rename_i t hs hd
      split at hv
      · rename_i n0 hn0
        obtain ⟨b,o,e1,hv⟩:=as_p_O_some hv
        rw [e1] at hX
        cases hrd:rd1 h b o with
        | none=>rw [hrd] at hv;cases hv
        | some v0=>
          rw [hrd] at hv
          cases hv
          exact ⟨a.eval x,toUnsafe_sound hr hs hd hn0 hX hrd,hX⟩
      · cases hv
    · rename_i u hs hd
      split at hv
      · rename_i sz hn0
        obtain ⟨b,o,e1,hv⟩:=as_p_O_some hv
        rw [e1] at hX
        split at hv
        · rename_i szb els f ty hb
          obtain ⟨hc,hv⟩:=iteO_some hv
          cases hv
          simp only [Bool.or_eq_true,Bool.and_eq_true] at hc
          rcases hc with ⟨c1,c2,c3,c4⟩ | ⟨c1,c4⟩
          case inr=>exact ⟨a.eval x,fromUnsafeF_sound hr hs hd hn0 hX hb c1 (by have:=Nat.le_of_ble_eq_true c4;rw [lenL_eq] at this;exact this),hX⟩
          exact ⟨a.eval x,fromUnsafe_sound hr hs hd hn0 hX hb (Nat.eq_of_beq_eq_true c1) (Nat.eq_of_beq_eq_true c2) (Nat.eq_of_beq_eq_true c3) (by have:=Nat.le_of_ble_eq_true c4;rw [lenL_eq] at this;exact this),hX⟩
        · cases hv
      · cases hv
    · cases hv
  case makeInterface t x=>
    have hX:=opnd_sound k hg (show opOk P n x = true by simpa using hops)
    refine vv ?_
    cases hu:P.underlying t with
    | none=>rw [hu] at hv;cases hv
    | some ds=>
      rw [hu] at hv
      cases ds <;> simp only at hv <;> (try (cases hv;done)) <;> cases hv <;>
        exact ⟨.iface t (a.eval x),by simp [Instr.makeInterface,run_und hu],by simp only [R];exact ⟨_,rfl,hX⟩⟩
  case makeFunc fn f c=>
    cases hv
    have hops0:=hops
    refine vv ⟨.func fn (f.map a.eval) (c.map a.eval),rfl,?_⟩
    simp only [R]
    refine ⟨f.toList.map a.eval,c.toList.map a.eval,by congr 1 <;> (apply Array.toList_inj.1;simp),opnds_sound k hg ?_,opnds_sound k hg ?_⟩
    · rw [List.all_eq_true];intro x hx;have:=List.all_eq_true.1 hops0 x (by simp [hx]);exact this
    · rw [List.all_eq_true];intro x hx;have:=List.all_eq_true.1 hops0 x (by simp [hx]);exact this
  case slice t x lo hi mx=>
    cases mx with
    | some _=>cases hv
    | none=>
      refine vv (slice_sound k hg ?_ ?_ ?_ hv)
      · simp at hops;exact hops.1
      · rintro y rfl;simp at hops;exact hops.2.1
      · rintro y rfl;simp at hops;exact hops.2.2
  case fieldAddr t x i=>
    have hX:=opnd_sound k hg (show opOk P n x = true by simpa using hops)
    refine vv ?_
    cases hu:P.underlying t with
    | none=>rw [hu] at hv;cases hv
    | some ds=>
      rw [hu] at hv
      cases ds <;> simp only at hv <;> (try (cases hv;done))
      rename_i fs
      cases hf:nthF fs.toList i with
      | none=>rw [hf] at hv;cases hv
      | some f=>
        rw [hf] at hv
        simp only at hv
        split at hv
        · rename_i sz hs
          obtain ⟨b,o,e1,hv⟩:=as_p_O_some hv
          cases hv
          rw [e1] at hX
          obtain ⟨l,hl,hu2⟩:=R_p hX
          rw [nthF_eq] at hf
          have hf':fs[i]? = some f:=by simpa using hf
          refine ⟨.pointer (some ⟨l.blk,l.base + o + f.offset,none⟩),?_,?_⟩
          · rw [hu2]
            simp [Instr.fieldAt,run_und hu,hf',Instr.sureAddr,fieldPlace,sizeT_run hs,addr_add]
          · simp only [R];exact ⟨l,hl,by rw [Nat.add_assoc];rfl⟩
        · cases hv
  case field t x i=>
    have hX:=opnd_sound k hg (show opOk P n x = true by simpa using hops)
    refine vv ?_
    cases hu:P.underlying t with
    | none=>rw [hu] at hv;cases hv
    | some ds=>
      rw [hu] at hv
      cases ds <;> simp only at hv <;> (try (cases hv;done))
      rename_i fs
      cases hf:nthF fs.toList i with
      | none=>rw [hf] at hv;cases hv
      | some f=>
        rw [hf] at hv
        simp only at hv
        cases hs:sizeT P f.type with
        | none=>rw [hs] at hv;cases hv
        | some sz=>
          rw [hs] at hv
          simp only at hv
          obtain ⟨l,e1,hv⟩:=as_agg_O_some hv
          rw [e1] at hX
          obtain ⟨l',hu2,hl,hsc⟩:=R_agg_cells hX
          obtain ⟨d2,hd2⟩:=sizeT_und hs
          obtain ⟨u,h1,h2⟩:=part_sound (w:=w) hd2 hs hl hsc hv
          rw [nthF_eq] at hf
          have hf':fs[i]? = some f:=by simpa using hf
          exact ⟨u,by rw [hu2];simp [Instr.field,run_und hu,hf',asAgg,h1],h2⟩
  case indexAddr t x ix=>
    simp at hops
    have hX:=opnd_sound k hg hops.1
    have hI:=opnd_sound k hg hops.2
    refine vv ?_
    cases hu:P.underlying t with
    | none=>rw [hu] at hv;cases hv
    | some ds=>
      rw [hu] at hv
      cases ds <;> simp only at hv <;> (try (cases hv;done))
      case slice el=>
        split at hv
        · rename_i sz hs
          obtain ⟨b,o,len,z,e1,hv⟩:=as_sl_O_some hv
          obtain ⟨kk,j,e2,hv⟩:=asN_some hv
          obtain ⟨hj,hv⟩:=iteO_some hv
          cases hv
          have hj:=Nat.le_of_ble_eq_true hj
          rw [e1] at hX;simp only [R] at hX
          obtain ⟨l,cap,hl,hu2,_⟩:=hX
          rw [e2] at hI;have hI:=R_i hI
          refine ⟨.pointer (some ⟨l.blk,l.base + o + j * (sz + 1),none⟩),?_,?_⟩
          · rw [hu2,hI]
            have hc:(0:Int) ≤ (j:Int) ∧ (j:Int) < (len:Int):=⟨by omega,by omega⟩
            simp [Instr.indexAt,asIntOf,run_und hu,sizeT_run hs,hc,addr_add]
            omega
          · simp only [R];exact ⟨l,hl,by rw [Nat.add_assoc];rfl⟩
        · cases hv
      case array len el=>
        split at hv
        · rename_i sz hs
          obtain ⟨b,o,e1,hv⟩:=as_p_O_some hv
          obtain ⟨kk,j,e2,hv⟩:=asN_some hv
          obtain ⟨hj,hv⟩:=iteO_some hv
          cases hv
          have hj:=Nat.le_of_ble_eq_true hj
          rw [e1] at hX
          obtain ⟨l,hl,hu2⟩:=R_p hX
          rw [e2] at hI;have hI:=R_i hI
          refine ⟨.pointer (some ⟨l.blk,l.base + o + j * (sz + 1),none⟩),?_,?_⟩
          · rw [hu2,hI]
            have hc:(0:Int) ≤ (j:Int) ∧ (j:Int) < (len:Int):=⟨by omega,by omega⟩
            simp [Instr.indexAt,asIntOf,run_und hu,sizeT_run hs,hc,addr_add,Instr.sureAddr]
            omega
          · simp only [R];exact ⟨l,hl,by rw [Nat.add_assoc];rfl⟩
        · cases hv
  case index t x ix=>
    simp at hops
    have hX:=opnd_sound k hg hops.1
    have hI:=opnd_sound k hg hops.2
    refine vv ?_
    cases hu:P.underlying t with
    | none=>rw [hu] at hv;cases hv
    | some ds=>
      rw [hu] at hv
      cases ds <;> simp only at hv <;> (try (cases hv;done))
      case string=>
        obtain ⟨len,c,e1,hv⟩:=as_s_O_some hv
        obtain ⟨kk,j,e2,hv⟩:=asN_some hv
        obtain ⟨hj,hv⟩:=iteO_some hv
        cases hv
        have hj:=Nat.le_of_ble_eq_true hj
        rw [e1,R_str] at hX
        obtain ⟨s,hs,hb,_⟩:=hX
        rw [e2] at hI;have hI:=R_i hI
        obtain ⟨b,h1,h2⟩:=index_str hb (show j < len by omega)
        refine ⟨.int .u8 b.toNat,?_,by simp only [R];rw [← h2];rfl⟩
        rw [hs,hI]
        have hc:(0:Int) ≤ (j:Int):=by omega
        simp only [Instr.index,asIntOf,Sem.run_bind,Sem.run_pure,Result.andThen_ok,run_und hu]
        have hz:(0:Int) ≤ Int.ofNat j:=by simp
        rw [if_pos hz,show (Int.ofNat j).toNat = j from rfl,h1]
        rfl
      case array len el=>
        cases hs:sizeT P el with
        | none=>rw [hs] at hv;cases hv
        | some sz=>
          rw [hs] at hv
          simp only at hv
          obtain ⟨l,e1,hv⟩:=as_agg_O_some hv
          obtain ⟨kk,j,e2,hv⟩:=asN_some hv
          obtain ⟨hj,hv⟩:=iteO_some hv
          have hj:=Nat.le_of_ble_eq_true hj
          rw [e1] at hX
          obtain ⟨l',hu2,hl,hsc⟩:=R_agg_cells hX
          rw [e2] at hI;have hI:=R_i hI
          obtain ⟨d2,hd2⟩:=sizeT_und hs
          obtain ⟨u,h1,h2⟩:=part_sound (w:=w) hd2 hs hl hsc hv
          refine ⟨u,?_,h2⟩
          rw [hu2,hI]
          have hjl:j < len:=by omega
          have hz:(0:Int) ≤ Int.ofNat j ∧ Int.ofNat j < (len:Int):=⟨by simp,by simpa using hjl⟩
          simp only [Instr.index,asIntOf,Sem.run_bind,Sem.run_pure,Result.andThen_ok,run_und hu]
          rw [if_pos hz]
          simp only [Sem.run_bind,sizeT_run hs,Result.andThen_ok]
          exact h1
  case lookup t x ix ok=>
    simp at hops
    have hX:=opnd_sound k hg hops.1
    have hI:=opnd_sound k hg hops.2
    refine vv ?_
    unfold lookC at hv
    cases hu:P.underlying t with
    | none=>rw [hu] at hv;cases hv
    | some ds=>
      rw [hu] at hv
      cases ds <;> simp only at hv <;> (try (cases hv;done))
      rename_i kt et
      cases hz:zeroT P et with
      | none=>rw [hz] at hv;cases hv
      | some z=>
        rw [hz] at hv
        simp only at hv
        rcases as_mp_O_of hv with ⟨b,e1,hv⟩ | ⟨_,hv⟩
        · cases he:entsOf h b with
          | none=>rw [he] at hv;cases hv
          | some p=>
            obtain ⟨es,c⟩:=p
            rw [he] at hv
            obtain ⟨l,es',_,hl,hm,hes⟩:=entsOf_some hr he
            rw [e1] at hX;simp only [R] at hX
            obtain ⟨l2,hl2,hs⟩:=hX
            rw [hl] at hl2;cases hl2
            exact look_sound hr hu hz hI hes (.inl ⟨_,_,hs,hm⟩) hv
        · obtain ⟨e1,hv⟩:=as_mn_O_some hv
          rw [e1] at hX;simp only [R] at hX
          exact look_sound hr hu hz hI (xs:=[]) (by simp [EntsR]) (.inr ⟨hX,rfl⟩) hv
  case entry x=>
    have hX:=opnd_sound k hg (show opOk P n x = true by simpa using hops)
    refine vv ?_
    obtain ⟨b,o,e1,hv⟩:=as_p_O_some hv
    obtain ⟨ho,hv⟩:=iteO_some hv
    have ho:=Nat.eq_of_beq_eq_true ho;subst ho
    rw [e1] at hX
    obtain ⟨l,hl,hu⟩:=R_p hX
    rw [hu];exact entry_sound hr hl hv
  case typeAssert x xt t ok=>
    have hX:=opnd_sound k hg (show opOk P n x = true by simpa using hops)
    refine vv ?_
    cases hu:P.underlying t with
    | none=>rw [hu] at hv;cases hv
    | some ds=>
      cases hz:zeroT P t with
      | none=>rw [hu,hz] at hv;cases ds <;> cases hv
      | some z=>
        rw [hu,hz] at hv
        obtain ⟨uz,hzr,rfl,_⟩:=zeroT_run (w:=w) hz
        have hni:∀ ms,ds ≠ .interface ms:=by rintro ms rfl;cases hv
        have hv':(match ((opnd x).run e:V) with
          | .ni=>if ok then some (V.tup [cst uz,.b false]) else none
          | .ifc t' v=>bif Nat.beq t' t then some (if ok then .tup [v,.b true] else v) else if ok then some (.tup [cst uz,.b false]) else none
          | _=>none) = some v:=by
          cases ds <;> first | exact absurd rfl (hni _) | exact hv
        have nope:R m (.tup [cst uz,.b false]) (.tuple #[uz,.bool false]):=by
          simp only [R,Rl];exact ⟨_,rfl,_,_,rfl,cst_sound m uz,_,_,rfl,rfl,rfl⟩
        split at hv'
        · rename_i e1
          rw [e1] at hX;simp only [R] at hX
          cases ok with
          | false=>cases hv'
          | true=>
            cases hv'
            refine ⟨_,?_,nope⟩
            rw [hX]
            cases ds <;> first | exact absurd rfl (hni _) | (simp [Instr.typeAssert,run_und hu,hzr];done)
        · rename_i t' v0 e1
          rw [e1] at hX;simp only [R] at hX
          obtain ⟨u0,hu0,hR0⟩:=hX
          cases ht:Nat.beq t' t with
          | true=>
            rw [ht] at hv'
            have:=Nat.eq_of_beq_eq_true ht;subst this
            cases hv'
            refine ⟨if ok then .tuple #[u0,.bool true] else u0,?_,?_⟩
            · rw [hu0]
              cases ds <;> first | exact absurd rfl (hni _) | (simp [Instr.typeAssert,run_und hu];done)
            · cases ok
              · exact hR0
              · simp only [if_true,R,Rl];exact ⟨_,rfl,_,_,rfl,hR0,_,_,rfl,rfl,rfl⟩
          | false=>
            rw [ht] at hv'
            have hne:t' ≠ t:=by rintro rfl;simp at ht
            cases ok with
            | false=>cases hv'
            | true=>
              cases hv'
              refine ⟨_,?_,nope⟩
              rw [hu0]
              cases ds <;> first | exact absurd rfl (hni _) | (simp [Instr.typeAssert,run_und hu,hne,hzr];done)
        · cases hv'
  case extract x i=>
    have hX:=opnd_sound k hg (show opOk P n x = true by simpa using hops)
    refine vv ?_
    obtain ⟨l,e1,hv⟩:=as_tup_O_some hv
    rw [e1] at hX
    obtain ⟨l',hu,hl⟩:=R_tup hX
    rw [nthV_eq] at hv
    obtain ⟨u,h1,h2⟩:=hl.get hv
    have h1':(⟨l'⟩:Array Value)[i]? = some u:=by simpa using h1
    exact ⟨u,by rw [hu];simp [Instr.extract,h1'],h2⟩
  case call c=>
    obtain ⟨callee,args,argTypes⟩:=c
    have bi:∀ {b:Builtin} {s:Sem Value},callee = .builtin b → (∀ cs,builtin b argTypes type cs (args.map a.eval) = (do pure (.value (← s)))) → (∃ u,s.run P w = .ok u w ∧ R m v u) →
        ∃ u,(execOp a.eval { dst:=dst,op:=.call { callee:=callee,args:=args,argTypes:=argTypes },type:=type,pos:=pos,after:=after,guard:=guard }).run P w = .ok (.value u) w ∧ R m v u:=by
      rintro b s rfl hb ⟨u,h1,h2⟩
      refine ⟨u,?_,h2⟩
      simp only [execOp,resolve,Sem.run_bind,Sem.run_pure,Result.andThen_ok,invoke,hb,h1]
    have hall:args.toList.all (opOk P n) = true:=by
      rw [List.all_eq_true] at hops ⊢
      intro x hx;exact hops x (by simp [Call.operands,hx])
    unfold callL at hv
    simp only at hv
    split at hv
    · rename_i x t ts e2 e3
      obtain ⟨args⟩:=args;obtain ⟨argTypes⟩:=argTypes
      simp only at e2 e3;subst e2;subst e3
      refine bi rfl (fun _=>rfl) ?_
      have:=len_sound (ts:=ts) (ty:=type) hr k hg (by simpa using hall) hv
      simpa using this
    · rename_i x t ts e2 e3
      obtain ⟨args⟩:=args;obtain ⟨argTypes⟩:=argTypes
      simp only at e2 e3;subst e2;subst e3
      refine bi rfl (fun _=>rfl) ?_
      have hX:=opnd_sound k hg (show opOk P n x = true by simpa using hall)
      unfold capC at hv
      cases hu:P.underlying t with
      | none=>rw [hu] at hv;cases hv
      | some ds=>
        rw [hu] at hv
        cases ds <;> simp only at hv <;> (try (cases hv;done))
        rcases as_sl_O_of hv with ⟨b,o,l,z,e4,hv⟩ | ⟨_,hv⟩
        · cases hv
          rw [e4] at hX;simp only [R] at hX
          obtain ⟨ll,cap,_,hs,_⟩:=hX
          exact ⟨_,by simp [hs,Builtin.cap_,run_und hu,goInt];rfl,by simp [R]⟩
        · obtain ⟨e4,hv⟩:=as_sn_O_some hv
          cases hv
          rw [e4] at hX;simp only [R] at hX
          exact ⟨_,by simp [hX,Builtin.cap_,run_und hu,goInt];rfl,by simp [R]⟩
    · rename_i x e2
      obtain ⟨args⟩:=args
      simp only at e2;subst e2
      refine bi rfl (fun _=>rfl) ?_
      have hX:=opnd_sound k hg (show opOk P n x = true by simpa using hall)
      have hmap:(⟨[x]⟩:Array Operand).map a.eval = #[a.eval x]:=by simp
      rw [hmap]
      rcases as_sl_O_of hv with ⟨b,o,l,z,e4,hv⟩ | ⟨_,hv⟩
      · obtain ⟨hle,hv⟩:=iteO_some hv
        cases hv
        have hle:=Nat.le_of_ble_eq_true hle
        rw [e4] at hX;simp only [R] at hX
        obtain ⟨ll,cap,hll,hs,hlc,_⟩:=hX
        rw [hs]
        exact ⟨_,Lib.run_unsafeSliceData_row w _ _ _ _ _ (by omega),by simp only [R];exact ⟨ll,hll,rfl⟩⟩
      · obtain ⟨e4,hv⟩:=as_sn_O_some hv
        cases hv
        rw [e4] at hX;simp only [R] at hX
        rw [hX]
        exact ⟨_,Lib.run_unsafeSliceData_nil w _ _ _ _,by simp [R]⟩
    · rename_i x l e2
      obtain ⟨args⟩:=args
      simp only at e2;subst e2
      simp only [List.all_cons,Bool.and_eq_true] at hall
      obtain ⟨u,h1,h2⟩:=max_sound (P:=P) (w:=w) _ _ (opnd_sound k hg hall.1) (opnds_sound k hg hall.2) hv
      exact bi rfl (fun _=>rfl) ⟨u,by simpa [Builtin.max_] using h1,h2⟩
    · rename_i x l e2
      obtain ⟨args⟩:=args
      simp only at e2;subst e2
      simp only [List.all_cons,Bool.and_eq_true] at hall
      obtain ⟨u,h1,h2⟩:=min_sound (P:=P) (w:=w) _ _ (opnd_sound k hg hall.1) (opnds_sound k hg hall.2) hv
      exact bi rfl (fun _=>rfl) ⟨u,by simpa [Builtin.min_] using h1,h2⟩
    · cases hv
end Go.Ev
end
section
namespace Go.Ev
open Go
variable {P:Program} {m:Mp} {w:World}
theorem newO_ok {h h':H} {ob:Id → O} {vf:Id → V} {v:V} (hn:newO h ob vf = .ok v h'):∃ nx,h.next.succ = some nx ∧ v = vf h.next ∧ h' = ⟨mput h.next (some (ob h.next)) h.mem,h.fams,nx⟩:=by
  obtain ⟨mem,fams,next⟩:=h
  unfold newO at hn
  simp only at hn
  cases hs:next.succ with
  | none=>rw [hs] at hn;cases hn
  | some nx=>rw [hs] at hn;cases hn;exact ⟨nx,by simpa using hs,rfl,rfl⟩
theorem newC_fr {h h':H} (k:HR m h w) {sz:Nat} {els:List (List V)} {vf:Id → V} {v:V} {t0:TypeId} (hn:newC t0 h sz els vf = .ok v h') (he:∀ el ∈ els,el.length = sz)
    {us:List Value} (hR:Rl m els.flatten us) (hs:∀ x ∈ us,scalar x) {C:Array Value} {extra:List Value} (hC:C.toList = us ++ extra) (t:TypeId) (fz:Nat × Nat)
    (hfz:fz.1 = fz.2 ∨ (sz = 1 ∧ C.size ≤ fz.1)) (ht:t0 = t:=by rfl) :
    ∃ m',Fr m h w m' h' { w with heap:=w.heap.push (.cells C t fz) } ∧ m' h.next = some ⟨w.heap.size,0,C.size⟩ ∧ v = vf h.next:=by
  obtain ⟨nx,hnx,rfl,rfl⟩:=newO_ok hn
  have hlen:C.size = us.length + extra.length:=by rw [← Array.length_toList,hC];simp
  refine ⟨_,Fr.new k hnx (.cells C t fz) (.cells sz els h.next (.rw t0)) ⟨w.heap.size,0,C.size⟩ rfl (fun _ _ _ _ e=>by cases e;rfl) (by simp [writable]) ?_,by simp,rfl⟩
  intro m' hm w' hw'
  refine ⟨C,t,fz,⟨hw',by simp,?_,he,?_,?_,?_,fun ty e=>by cases e;exact ht.symm,Nat.zero_mod _⟩⟩
  · show els.flatten.length ≤ C.size
    rw [← hR.length];omega
  · intro i x hx
    obtain ⟨u,hu,hRu⟩:=hR.get hx
    have hi:=(List.getElem?_eq_some_iff.1 hu).1
    refine ⟨u,?_,hRu.mono hm,hs u (List.mem_of_getElem? hu)⟩
    show C[0 + i]? = some u
    rw [Nat.zero_add,← Array.getElem?_toList,hC,List.getElem?_append_left hi,hu]
  · intro _ i hi
    show ¬ (fz.1 ≤ 0 + i ∧ 0 + i < fz.2)
    have hi':i < C.size:=hi
    rcases hfz with h1 | ⟨_,h2⟩ <;> omega
  · intro _ hz
    rcases hfz with h1 | ⟨h1,_⟩
    · exact h1
    · exact absurd h1 hz
def HvOk (P:Program) (r:Result Next) (m:Mp) (h:H) (w:World) (v:V) (h':H):Prop:=
  (∃ u w' m',(r = .ok (.value u) w' ∨ (r = .ok .skip w' ∧ u = undef)) ∧ Fr m h w m' h' w' ∧ R m' v u) ∨
  (∃ f us,r = .ok (.enter f us) w ∧ Calls P f us w (fun e w'=>∃ u m',e = .returned u ∧ Fr m h w m' h' w' ∧ R m' v u))
theorem alloc_sound {h h':H} (k:HR m h w) {t:TypeId} {z v:V} {c:List V} (hz:zeroT P t = some z) (hc:cellsQ z = some c) (hn:newC t h (lenV1 c) [c] (fun i=>.p i 0) = .ok v h') :
    ∃ u w' m',(Instr.alloc t true (.tuple #[])).run P w = .ok u w' ∧ Fr m h w m' h' w' ∧ R m' v u:=by
  obtain ⟨uz,hzr,rfl,_⟩:=zeroT_run (w:=w) hz
  obtain ⟨c',h1,h2,h3⟩:=cst_cells (m:=m) hc
  obtain ⟨m',hf,hm,rfl⟩:=newC_fr k hn (by simp [lenV1_eq]) (us:=c') (by simpa using h2) h3 (C:=uz.cells) (extra:=[]) (by rw [h1];simp) t (0,0) (.inl rfl)
  refine ⟨.pointer (some ⟨w.heap.size,0,none⟩),_,m',?_,hf,?_⟩
  · simp [Instr.alloc,hzr,newVar,newRow]
  · simp only [R];exact ⟨_,hm,rfl⟩
theorem box_sound {h h':H} (k:HR m h w) {t:TypeId} {x v:V} {u:Value} {c:List V} (hx:R m x u) (hc:cellsQ x = some c) (hn:newC t h (lenV1 c) [c] (fun i=>.p i 0) = .ok v h') :
    ∃ u' w' m',(Instr.box t u).run P w = .ok u' w' ∧ Fr m h w m' h' w' ∧ R m' v u':=by
  obtain ⟨c',h1,h2,h3⟩:=cellsQ_spec hx hc
  obtain ⟨m',hf,hm,rfl⟩:=newC_fr k hn (by simp [lenV1_eq]) (us:=c') (by simpa using h2) h3 (C:=u.cells) (extra:=[]) (by rw [h1];simp) t (0,0) (.inl rfl)
  refine ⟨.pointer (some ⟨w.heap.size,0,none⟩),_,m',?_,hf,?_⟩
  · simp [Instr.box,newVar,newRow]
  · simp only [R];exact ⟨_,hm,rfl⟩
theorem Rl.rep {zc:List V} {zc':List Value} (h:Rl m zc zc'):∀ n,Rl m ((repN zc n).flatten) ((List.replicate n zc').flatten)
  | 0=>by simp [repN,Rl]
  | n + 1=>by simp only [repN,List.flatten_cons,List.replicate_succ];exact h.append (Rl.rep h n)
theorem rep_scalar {zc':List Value} (h:∀ x ∈ zc',scalar x) (n:Nat):∀ x ∈ (List.replicate n zc').flatten,scalar x:=by
  intro x hx
  simp only [List.mem_flatten,List.mem_replicate] at hx
  obtain ⟨l,⟨_,rfl⟩,hx⟩:=hx
  exact h x hx
theorem zeros_eq (z:Array Value) (n:Nat) (hz:0 < z.size):((Array.range (n * z.size)).map (z[· % z.size]!)).toList = (List.replicate n z.toList).flatten:=by
  apply List.ext_getElem?
  intro i
  have hlen:∀ n,((List.replicate n z.toList).flatten).length = n * z.size:=by
    intro n;induction n with
    | zero=>simp
    | succ n ih=>simp [List.replicate_succ,Nat.succ_mul];omega
  have hget:∀ n i,i < n * z.size → ((List.replicate n z.toList).flatten)[i]? = z.toList[i % z.size]?:=by
    intro n
    induction n with
    | zero=>intro i hi;simp at hi
    | succ n ih=>
      intro i hi
      rw [List.replicate_succ,List.flatten_cons]
      by_cases h:i < z.size
      · rw [List.getElem?_append_left (by simpa using h),Nat.mod_eq_of_lt h]
      · rw [List.getElem?_append_right (by simpa using h),Array.length_toList,ih (i - z.size) (by rw [Nat.succ_mul] at hi;omega)]
        congr 1
        rw [← Nat.mod_eq_sub_mod (by omega)]
  by_cases h:i < n * z.size
  · rw [hget n i h]
    have hm:i % z.size < z.size:=Nat.mod_lt _ hz
    simp [h,hm]
  · rw [List.getElem?_eq_none (by simp;omega),List.getElem?_eq_none (by rw [hlen];omega)]
theorem repN_eq {α:Type} (x:α):∀ n,repN x n = List.replicate n x
  | 0=>rfl
  | n + 1=>by rw [repN,repN_eq x n,List.replicate_succ]
theorem chunks_spec {sz:Nat}:∀ (n:Nat) (l:List V),l.length = n * sz → (chunks sz n l).flatten = l ∧ (∀ el ∈ chunks sz n l,el.length = sz) ∧ (chunks sz n l).length = n
  | 0,l,h=>by simp at h;subst h;simp [chunks]
  | n + 1,l,h=>by
    rw [Nat.succ_mul] at h
    have hd:(dropV sz l).length = n * sz:=by rw [dropV_eq];simp;omega
    obtain ⟨h1,h2,h3⟩:=chunks_spec n (dropV sz l) hd
    have ht:takeV sz l = some (l.take sz):=by
      have:∀ (k:Nat) (l:List V),k ≤ l.length → takeV k l = some (l.take k):=by
        intro k
        induction k with
        | zero=>intro l _;rfl
        | succ k ih=>
          intro l hl
          cases l with
          | nil=>simp at hl
          | cons a l=>
            have e:takeV (k + 1) (a :: l) = Option.rec (motive:=fun _=>Option (List V)) none (fun x=>some (a :: x)) (takeV k l):=rfl
            rw [e,ih l (by simpa using hl)];rfl
      exact this sz l (by omega)
    unfold chunks
    rw [ht]
    refine ⟨?_,?_,by simp [h3]⟩
    · simp only [Option.getD_some,List.flatten_cons]
      rw [h1,dropV_eq,List.take_append_drop]
    · intro el hel
      simp only [Option.getD_some,List.mem_cons] at hel
      rcases hel with rfl | hel
      · simp;omega
      · exact h2 el hel
end Go.Ev
end
section
namespace Go.Ev
open Go
variable {P:Program} {m:Mp} {w:World}
theorem scalar_one {v:Value} (h:scalar v):v.oneCell' = true:=by cases v <;> first | rfl | exact h.elim
theorem setCell_eq {w:World} {b o:Nat} {v:Value} {C:Array Value} {t:TypeId} {fz:Nat × Nat} (h:w.heap[b]? = some (.cells C t fz)) :
    w.setCell ⟨b,o,none⟩ v = { w with heap:=w.heap.setIfInBounds b (.cells (C.setIfInBounds o v) t fz) }:=by
  unfold World.setCell
  have hb:b < w.heap.size:=(Array.getElem?_eq_some_iff.1 h).1
  congr 1
  apply Array.ext_getElem?
  intro i
  simp only [Array.getElem?_modify,Array.getElem?_setIfInBounds]
  by_cases e:b = i
  · subst e
    have hbe:=(Array.getElem?_eq_some_iff.1 h).2
    simp [hb,hbe]
  · simp [e]
theorem run_storeCells {b off:Nat} {t:TypeId} {fz:Nat × Nat}:∀ (vs:List Value) (i:Nat) (C:Array Value) (w:World),w.heap[b]? = some (.cells C t fz) → off + i + vs.length ≤ C.size → (∀ v ∈ vs,scalar v) →
    (∀ j,j < vs.length → ¬ (fz.1 ≤ off + i + j ∧ off + i + j < fz.2)) →
    (storeCells ⟨b,off,none⟩ vs i).run P w = .ok () { w with heap:=w.heap.setIfInBounds b (.cells ⟨C.toList.take (off + i) ++ vs ++ C.toList.drop (off + i + vs.length)⟩ t fz) }
  | [],i,C,w,h,_,_,_=>by
    have hb:b < w.heap.size:=(Array.getElem?_eq_some_iff.1 h).1
    have hbe:=(Array.getElem?_eq_some_iff.1 h).2
    simp only [storeCells,Sem.run_pure,List.append_nil,List.length_nil,Nat.add_zero,List.take_append_drop]
    congr 1
    have:w.heap.setIfInBounds b (.cells C t fz) = w.heap:=by
      apply Array.ext_getElem?
      intro j
      simp only [Array.getElem?_setIfInBounds]
      by_cases e:b = j
      · subst e;simp [hb,hbe]
      · simp [e]
    show w = { w with heap:=w.heap.setIfInBounds b (.cells C t fz) }
    rw [this]
  | v :: vs,i,C,w,h,hl,hs,hf=>by
    simp only [List.length_cons] at hl
    have hb:b < w.heap.size:=(Array.getElem?_eq_some_iff.1 h).1
    have hc:w.cell? ⟨b,off + i,none⟩ = some (C[off + i]'(by omega)):=by simp [World.cell?,h,show off + i < C.size by omega]
    have hz:w.frozen? ⟨b,off + i,none⟩ = false:=by
      have:=hf 0 (by simp)
      simp only [Nat.add_zero] at this
      simp only [World.frozen?,h]
      rw [Bool.eq_false_iff];simpa using this
    have h1:(store ((⟨b,off,none⟩:Addr).add i) v).run P w = .ok () (w.setCell ⟨b,off + i,none⟩ v):=by
      rw [addr_add,run_store P w _ v .plain (scalar_one (hs v (by simp)))]
      simp [hc,hz]
    have hset:=setCell_eq (o:=off + i) (v:=v) h
    rw [hset] at h1
    have hget:({ w with heap:=w.heap.setIfInBounds b (.cells (C.setIfInBounds (off + i) v) t fz) }:World).heap[b]? = some (.cells (C.setIfInBounds (off + i) v) t fz):=by simp [hb]
    have ih:=run_storeCells (off:=off) vs (i + 1) (C.setIfInBounds (off + i) v) _ hget (by rw [Array.size_setIfInBounds];omega) (fun x hx=>hs x (by simp [hx])) (fun j hj=>by
      have h9:=hf (j + 1) (by simpa using hj)
      have e9:off + i + (j + 1) = off + (i + 1) + j:=by omega
      rw [e9] at h9;exact h9)
    simp only [storeCells,Sem.run_bind,h1,Result.andThen_ok,ih]
    congr 1
    have hlt:off + i < C.toList.length:=by simp;omega
    have e1:(C.setIfInBounds (off + i) v).toList.take (off + (i + 1)) = C.toList.take (off + i) ++ [v]:=by
      rw [Array.toList_setIfInBounds,← Nat.add_assoc,List.take_set,List.take_succ_eq_append_getElem hlt]
      rw [List.set_append_right _ _ (by simp;omega)]
      have hm:min (off + i) C.size = off + i:=by simp at hlt;omega
      simp [hm]
    have e2:(C.setIfInBounds (off + i) v).toList.drop (off + (i + 1) + vs.length) = C.toList.drop (off + i + (vs.length + 1)):=by
      rw [Array.toList_setIfInBounds,List.drop_set_of_lt (by omega)];congr 1;omega
    rw [e1,e2]
    simp [Array.setIfInBounds_setIfInBounds]
theorem setL_eq (l:List (List V)) (i:Nat) (x:List V):setL l i x = l.set i x:=by
  induction l generalizing i with
  | nil=>rfl
  | cons a l ih=>cases i with
    | zero=>rfl
    | succ i=>show a :: setL l i x = _;rw [ih];rfl
theorem flat_set {sz:Nat}:∀ {els:List (List V)} (h:∀ el ∈ els,el.length = sz) {q o:Nat} {el el' xs:List V},els[q]? = some el → ∀ {r:Nat},r + xs.length ≤ sz → el' = el.take r ++ xs ++ el.drop (r + xs.length) → q * sz + r = o →
    (els.set q el').flatten = els.flatten.take o ++ xs ++ els.flatten.drop (o + xs.length)
  | [],_,q,o,el,el',xs,hq,r,hr,he,ho=>by simp at hq
  | x :: els,h,0,o,el,el',xs,hq,r,hr,he,ho=>by
    simp at hq;subst hq
    have hx:=h x (by simp)
    have:o = r:=by omega
    subst this
    simp only [List.set_cons_zero,List.flatten_cons,he]
    rw [List.take_append_of_le_length (by omega),List.drop_append_of_le_length (by omega)]
    simp
  | x :: els,h,q + 1,o,el,el',xs,hq,r,hr,he,ho=>by
    simp at hq
    have hx:=h x (by simp)
    have ih:=flat_set (fun el he=>h el (by simp [he])) hq hr he (o:=q * sz + r) rfl
    have ho':o = sz + (q * sz + r):=by rw [← ho,Nat.succ_mul];omega
    simp only [List.set_cons_succ,List.flatten_cons,ih]
    have t1:(x ++ els.flatten).take o = x ++ els.flatten.take (q * sz + r):=by
      rw [List.take_append,List.take_of_length_le (by omega)];congr 2;omega
    have t2:(x ++ els.flatten).drop (o + xs.length) = els.flatten.drop (q * sz + r + xs.length):=by
      rw [List.drop_append,List.drop_eq_nil_of_le (by omega),List.nil_append];congr 1;omega
    rw [t1,t2];simp
theorem wr_sound {h h':H} (k:HR m h w) {b:Id} {o n:Nat} {xs:List V} {xs':List Value} {v:V} {l:Loc} (hl:m b = some l) (hn:xs.length = n) (hx:Rl m xs xs') (hs:∀ x ∈ xs',scalar x)
    (hw:wr h b o xs n = .ok v h'):v = undefV ∧ ∃ w',(storeCells ⟨l.blk,l.base + o,none⟩ xs').run P w = .ok () w' ∧ Fr m h w m h' w':=by
  unfold wr at hw
  cases hb:mget b h.mem with
  | none=>rw [hb] at hw;cases hw
  | some ob=>
    rw [hb] at hw
    cases ob with
    | map _ _=>cases hw
    | siter _ _ _=>cases hw
    | miter _ _ _ _=>cases hw
    | cells sz els f ro=>
      cases ro with
      | fz=>cases hw
      | fr _=>cases hw
      | rw ty=>
        have hw1:(Option.rec (motive:=fun _=>VH) .bad
          (fun el=>Option.rec (motive:=fun _=>VH) .bad
            (fun el'=>.ok undefV (setO (loneH h f b) b (.cells sz (setL els (Nat.div o sz) el') f (.rw ty))))
            (Bool.rec (motive:=fun _=>Option (List V)) (overAt (Nat.mod o sz) el xs) (some xs) (Nat.beq (Nat.mod o sz) 0 && Nat.beq n sz)))
          (nthL els (Nat.div o sz)):VH) = .ok v h':=hw
        rw [nthL_eq] at hw1
        cases he:els[Nat.div o sz]? with
        | none=>rw [he] at hw1;cases hw1
        | some el=>
          rw [he] at hw1
          obtain ⟨l2,hl2,C,t,fz,hc⟩:=k.obj _ _ hb
          rw [hl] at hl2;cases hl2
          have hlen:=hc.each el (List.mem_of_getElem? he)
          have hel:∃ el',(Bool.rec (motive:=fun _=>Option (List V)) (overAt (Nat.mod o sz) el xs) (some xs) (Nat.beq (Nat.mod o sz) 0 && Nat.beq n sz):Option (List V)) = some el' ∧
              o % sz + xs.length ≤ sz ∧ el' = el.take (o % sz) ++ xs ++ el.drop (o % sz + xs.length):=by
            cases ht:(Nat.beq (Nat.mod o sz) 0 && Nat.beq n sz) with
            | true=>
              simp only [Bool.and_eq_true] at ht
              have h1:o % sz = 0:=Nat.eq_of_beq_eq_true ht.1
              have h2:n = sz:=Nat.eq_of_beq_eq_true ht.2
              refine ⟨xs,rfl,by omega,?_⟩
              rw [h1];simp;omega
            | false=>
              cases ho:overAt (Nat.mod o sz) el xs with
              | none=>
                exfalso
                have:(Option.rec (motive:=fun _=>VH) .bad (fun el'=>.ok undefV (setO (loneH h f b) b (.cells sz (setL els (Nat.div o sz) el') f (.rw ty)))) (overAt (Nat.mod o sz) el xs):VH) = .ok v h':=by
                  simpa [ht] using hw1
                rw [ho] at this;cases this
              | some el'=>
                obtain ⟨h1,h2⟩:=overAt_spec _ _ _ ho
                exact ⟨el',rfl,by rw [hlen] at h1;exact h1,h2⟩
          obtain ⟨el',hel1,hel2,hel3⟩:=hel
          have hw2:VH.ok undefV (setO (loneH h f b) b (.cells sz (setL els (Nat.div o sz) el') f (.rw ty))) = .ok v h':=by
            have:(Option.rec (motive:=fun _=>VH) .bad (fun el'=>.ok undefV (setO (loneH h f b) b (.cells sz (setL els (Nat.div o sz) el') f (.rw ty))))
              (Bool.rec (motive:=fun _=>Option (List V)) (overAt (Nat.mod o sz) el xs) (some xs) (Nat.beq (Nat.mod o sz) 0 && Nat.beq n sz)):VH) = .ok v h':=hw1
            rw [hel1] at this;exact this
          cases hw2
          refine ⟨rfl,?_⟩
          have hxl:=hx.length
          have hq:o / sz < els.length:=(List.getElem?_eq_some_iff.1 he).1
          have hfl:=flat_len hc.each
          have hdm:o / sz * sz + o % sz = o:=by have:=Nat.div_add_mod o sz;rw [Nat.mul_comm] at this;exact this
          have hsz:(o / sz + 1) * sz ≤ els.length * sz:=Nat.mul_le_mul_right _ hq
          have hend:o + xs.length ≤ els.flatten.length:=by
            rw [hfl];rw [Nat.succ_mul] at hsz;omega
          have hroom:=hc.room;have hlim:=hc.len
          have hrun:=run_storeCells (P:=P) (b:=l.blk) (off:=l.base + o) (t:=t) (fz:=fz) xs' 0 C w hc.at_ (by omega) hs (fun j hj=>by
            have:=hc.free rfl (o + j) (by omega)
            rw [show l.base + (o + j) = l.base + o + 0 + j by omega] at this;exact this)
          refine ⟨_,hrun,Fr.updCells k hb hl rfl ?_⟩
          intro hat
          have hset:(setL els (Nat.div o sz) el').flatten = els.flatten.take o ++ xs ++ els.flatten.drop (o + xs.length):=by
            rw [setL_eq]
            exact flat_set hc.each he (by omega) hel3 hdm
          refine ⟨_,t,fz,⟨hat,?_,?_,?_,?_,hc.free,hc.plain,hc.typ,hc.al⟩⟩
          · have:(⟨C.toList.take (l.base + o + 0) ++ xs' ++ C.toList.drop (l.base + o + 0 + xs'.length)⟩:Array Value).size = C.size:=by
              show (C.toList.take (l.base + o + 0) ++ xs' ++ C.toList.drop (l.base + o + 0 + xs'.length)).length = C.size
              simp only [List.length_append,List.length_take,List.length_drop,Array.length_toList];omega
            rw [this];exact hroom
          · rw [hset];simp only [List.length_append,List.length_take,List.length_drop,Array.length_toList];omega
          · intro e0 he0
            rw [setL_eq] at he0
            rcases List.mem_or_eq_of_mem_set he0 with h1 | rfl
            · exact hc.each e0 h1
            · rw [hel3];simp;omega
          · intro i x hxi
            rw [hset] at hxi
            have hCg:∀ j:Nat,(⟨C.toList.take (l.base + o + 0) ++ xs' ++ C.toList.drop (l.base + o + 0 + xs'.length)⟩:Array Value)[j]? =
                (C.toList.take (l.base + o) ++ xs' ++ C.toList.drop (l.base + o + xs'.length))[j]?:=by intro j;simp
            rw [hCg]
            by_cases c1:i < o
            · rw [List.append_assoc,List.getElem?_append_left (by simp only [List.length_append,List.length_take,List.length_drop,Array.length_toList];omega),List.getElem?_take_of_lt c1] at hxi
              obtain ⟨u,h1,h2,h3⟩:=hc.val i x hxi
              refine ⟨u,?_,h2,h3⟩
              rw [List.append_assoc,List.getElem?_append_left (by simp only [List.length_append,List.length_take,List.length_drop,Array.length_toList];omega),List.getElem?_take_of_lt (by omega)]
              simpa using h1
            · by_cases c2:i < o + xs.length
              · rw [List.append_assoc,List.getElem?_append_right (by simp only [List.length_append,List.length_take,List.length_drop,Array.length_toList];omega),List.getElem?_append_left (by simp only [List.length_append,List.length_take,List.length_drop,Array.length_toList];omega)] at hxi
                have e1:i - (els.flatten.take o).length = i - o:=by simp only [List.length_append,List.length_take,List.length_drop,Array.length_toList];omega
                rw [e1] at hxi
                obtain ⟨u,h1,h2⟩:=hx.get hxi
                refine ⟨u,?_,h2,hs u (List.mem_of_getElem? h1)⟩
                rw [List.append_assoc,List.getElem?_append_right (by simp only [List.length_append,List.length_take,List.length_drop,Array.length_toList];omega),List.getElem?_append_left (by simp only [List.length_append,List.length_take,List.length_drop,Array.length_toList];omega),← h1]
                congr 1;simp only [List.length_append,List.length_take,List.length_drop,Array.length_toList];omega
              · rw [List.getElem?_append_right (by simp only [List.length_append,List.length_take,List.length_drop,Array.length_toList];omega),List.getElem?_drop] at hxi
                have e1:o + xs.length + (i - (els.flatten.take o ++ xs).length) = i:=by simp only [List.length_append,List.length_take,List.length_drop,Array.length_toList];omega
                rw [e1] at hxi
                obtain ⟨u,h1,h2,h3⟩:=hc.val i x hxi
                refine ⟨u,?_,h2,h3⟩
                rw [List.getElem?_append_right (by simp only [List.length_append,List.length_take,List.length_drop,Array.length_toList];omega),List.getElem?_drop]
                have e2:l.base + o + xs'.length + (l.base + i - (C.toList.take (l.base + o) ++ xs').length) = l.base + i:=by simp only [List.length_append,List.length_take,List.length_drop,Array.length_toList];omega
                rw [e2];simpa using h1
end Go.Ev
end
section
namespace Go.Ev
open Go
variable {P:Program} {m:Mp} {w:World}
theorem buildSlice_sound {n:Nat} {e:Env} {a:Act} (ke:EnvR m n e a) (hg:Gl P m) {h h':H} (k:HR m h w) {t el:TypeId} {len sz:Nat} {z v:V} {zc:List V} {ps:Array (Nat × Operand)} (hu:P.underlying t = some (.slice el))
    (hx:(ps.toList.map (·.2)).all (opOk P n) = true) (hs:sizeT P el = some (sz + 1)) (hz:zeroT P el = some z) (hc:cellsQ z = some zc) (hle:len * (sz + 1) ≤ 16777216) (hzl:zc.length = sz + 1) {cs:List V}
    (hb:buildCells (fun i=>some (i * (sz + 1),sz + 1)) ((repN zc len).flatten) ((pairs ps.toList).run e) = some cs)
    (hn:newC el h (sz + 1) (chunks (sz + 1) len cs) (fun i=>.sl i 0 len (sz + 1)) = .ok v h') :
    ∃ u w' m',(Instr.buildSlice t len (ps.map fun (i,x)=>(i,a.eval x))).run P w = .ok u w' ∧ Fr m h w m' h' w' ∧ R m' v u:=by
  obtain ⟨p1,p2⟩:=pairs_sound ke hg hx
  have hps:(ps.map fun (i,x)=>(i,a.eval x)).toList = ps.toList.map fun x=>(x.1,a.eval x.2):=by simp
  obtain ⟨uz,hzr,rfl,_⟩:=zeroT_run (w:=w) hz
  obtain ⟨zc',h1,h2,h3⟩:=cst_cells (m:=m) hc
  have hzl':uz.cells.size = sz + 1:=by rw [h1];show zc'.length = _;rw [h2.length,hzl]
  obtain ⟨r',hr1,hr2,hr3⟩:=fill_sound _ _ p1 p2 (h2.rep len) (rep_scalar h3 len) hb
  have hzero:((Array.range (len * (sz + 1))).map (uz.cells[· % uz.cells.size]!)) = ⟨(List.replicate len zc').flatten⟩:=by
    apply Array.toList_inj.1
    rw [← hzl',zeros_eq uz.cells len (by omega),h1]
  have hlen:cs.length = len * (sz + 1):=by
    have hl:∀ (ps:List (Nat × V)) (c r:List V),buildCells (fun i=>some (i * (sz + 1),sz + 1)) c ps = some r → r.length = c.length:=by
      intro ps
      induction ps with
      | nil=>intro c r h;have:c = r:=Option.some.inj (by simpa [buildCells] using h);rw [this]
      | cons p ps ih=>
        intro c r h
        obtain ⟨i,x⟩:=p
        unfold buildCells at h
        simp only at h
        cases hq:cellsQ x with
        | none=>rw [hq] at h;cases h
        | some c0=>
          rw [hq] at h
          simp only at h
          cases hb:Nat.beq (lenV1 c0) (sz + 1) with
          | false=>rw [hb] at h;cases h
          | true=>
            rw [hb] at h
            simp only [cond_true] at h
            cases ho:overAt (i * (sz + 1)) c c0 with
            | none=>rw [ho] at h;cases h
            | some c2=>
              rw [ho] at h
              obtain ⟨h5,h6⟩:=overAt_spec _ _ _ ho
              rw [ih _ _ h,h6]
              simp only [List.length_append,List.length_take,List.length_drop];omega
    have:=hl _ _ _ hb
    rw [this,repN_eq]
    have:∀ k,((List.replicate k zc).flatten).length = k * (sz + 1):=by
      intro k;induction k with
      | zero=>simp
      | succ k ih=>rw [List.replicate_succ,List.flatten_cons,List.length_append,ih,hzl,Nat.succ_mul];omega
    exact this len
  obtain ⟨c1,c2,c3⟩:=chunks_spec len cs hlen
  obtain ⟨m',hf,hm,rfl⟩:=newC_fr k hn c2 (us:=r') (by rw [c1];exact hr2) hr3 (C:=⟨r'⟩) (extra:=[]) (by simp) el (0,0) (.inl rfl)
  refine ⟨.slice (some ⟨w.heap.size,0,none⟩) len len,_,m',?_,hf,?_⟩
  · have hno:¬ (len * (sz + 1) > 2 ^ 24):=by omega
    rw [← hps] at hr1
    by_cases h0:len * (sz + 1) = 0
    · have hl0:len = 0:=by
        rcases Nat.mul_eq_zero.1 h0 with h | h
        · exact h
        · omega
      subst hl0
      simp only [Instr.buildSlice,Sem.run_bind,run_und hu,Result.andThen_ok,sizeT_run hs,Sem.run_ite,if_neg hno,if_pos h0,Sem.run_pure]
      have e0:((Array.range (0 * (sz + 1))).map fun x=>(#[]:Array Value)[x % (#[]:Array Value).size]!) = (⟨(List.replicate 0 zc').flatten⟩:Array Value):=by simp
      simp only [e0,hr1,Sem.run_bind,newRow,run_newObj,Result.andThen_ok,Sem.run_pure]
    · simp only [Instr.buildSlice,Sem.run_bind,run_und hu,Result.andThen_ok,sizeT_run hs,Sem.run_ite,if_neg hno,if_neg h0,Sem.run_pure,hzr,hzero,hr1,newRow,run_newObj]
  · simp only [R]
    refine ⟨_,len,hm,by simp,Nat.le_refl _,?_⟩
    show 0 + len * (sz + 1) ≤ r'.length
    rw [hr2.length];omega
theorem makeSlice_sound {h h':H} (k:HR m h w) {t el:TypeId} {sz N M:Nat} {k1 k2:IntKind} {z v:V} {zc:List V} {inf:TypeInfo} (hu:P.underlying t = some (.slice el)) (hs:sizeT P el = some (sz + 1))
    (hz:zeroT P el = some z) (hc:cellsQ z = some zc) (hi:P.info? el = some inf) (hby:inf.bytes ≤ 1000000) (hzl:zc.length = sz + 1) (hNM:N ≤ M) (hM:M ≤ 100000)
    (hn:newC el h (sz + 1) (repN zc M) (fun i=>.sl i 0 N (sz + 1)) = .ok v h') :
    ∃ u w' m',(Instr.makeSlice t (.int k1 (N:Int)) (.int k2 (M:Int))).run P w = .ok u w' ∧ Fr m h w m' h' w' ∧ R m' v u:=by
  obtain ⟨uz,hzr,rfl,_⟩:=zeroT_run (w:=w) hz
  obtain ⟨zc',h1,h2,h3⟩:=cst_cells (m:=m) hc
  have hzl':uz.cells.size = sz + 1:=by rw [h1];show zc'.length = _;rw [h2.length,hzl]
  have hzero:((Array.range (M * (sz + 1))).map (uz.cells[· % uz.cells.size]!)) = ⟨(List.replicate M zc').flatten⟩:=by
    apply Array.toList_inj.1
    rw [← hzl',zeros_eq uz.cells M (by omega),h1]
  have heach:∀ e0 ∈ repN zc M,e0.length = sz + 1:=by
    intro e0 he;rw [repN_eq] at he;rw [(List.mem_replicate.1 he).2,hzl]
  obtain ⟨m',hf,hm,rfl⟩:=newC_fr k hn heach (us:=(List.replicate M zc').flatten) (h2.rep M) (rep_scalar h3 M) (C:=⟨(List.replicate M zc').flatten⟩) (extra:=[]) (by simp) el (0,0) (.inl rfl)
  have hlen:((List.replicate M zc').flatten).length = M * (sz + 1):=by
    have:∀ k,((List.replicate k zc').flatten).length = k * (sz + 1):=by
      intro k;induction k with
      | zero=>simp
      | succ k ih=>rw [List.replicate_succ,List.flatten_cons,List.length_append,ih,h2.length,hzl,Nat.succ_mul];omega
    exact this M
  refine ⟨.slice (some ⟨w.heap.size,0,none⟩) N M,_,m',?_,hf,?_⟩
  · have hprod:(inf.bytes:Int) * (M:Int) ≤ 281474976710656:=by
      have h9:inf.bytes * M ≤ 1000000 * 100000:=Nat.mul_le_mul hby hM
      have h8:((inf.bytes * M:Nat):Int) ≤ 281474976710656:=by omega
      simpa using h8
    obtain ⟨i2,hi2,hzi⟩:∃ i,P.info? el = some i ∧ i.zero = some uz:=by
      obtain ⟨u2,hu2,_,i,hi',hz'⟩:=zeroT_run (w:=w) hz
      rw [hzr] at hu2;cases hu2;exact ⟨i,hi',hz'⟩
    rw [hi] at hi2;cases hi2
    have hsz:inf.size = sz + 1:=by
      obtain ⟨i3,hi3,h4⟩:=sizeT_info hs
      rw [hi] at hi3;cases hi3;exact h4
    have:=run_make (P:=P) w t el inf uz hu hi hzi k1 k2 (N:Int) (M:Int) (by omega) (by omega) hprod (by omega)
    rw [this,hsz]
    simp only [Int.toNat_natCast,madeCells]
    rw [hzero];rfl
  · simp only [R]
    refine ⟨_,M,hm,by simp,hNM,?_⟩
    show 0 + M * (sz + 1) ≤ ((List.replicate M zc').flatten).length
    omega
end Go.Ev
end
section
namespace Go.Ev
open Go
variable {P:Program} {m:Mp} {w:World}
theorem beqS_eq {x y:V} (hk:keyS x = true) (h:V.beq x y = true):x = y:=by
  cases x <;> simp only [keyS,Bool.false_eq_true] at hk <;> cases y <;> simp only [V.beq,Bool.false_eq_true] at h
  case b.b x y=>
    have e0:x = y:=by simpa using h
    rw [e0]
  case i.i k n k' n'=>
    simp only [Bool.and_eq_true] at h
    obtain ⟨h1,h2⟩:=h
    have e1:k = k':=by cases k <;> cases k' <;> first | rfl | (simp at h1)
    have e2:n = n':=by
      cases n <;> cases n' <;> simp only [Bool.false_eq_true] at h2
      · rw [Nat.eq_of_beq_eq_true h2]
      · rw [Nat.eq_of_beq_eq_true h2]
    rw [e1,e2]
  case s.s l c l' c'=>
    simp only [sEq,Bool.and_eq_true] at h
    rw [Nat.eq_of_beq_eq_true h.1,Nat.eq_of_beq_eq_true h.2]
  case pn.pn=>rfl
  case p.p b o b' o'=>
    simp only [Bool.and_eq_true] at h
    rw [Id.beq_iff.1 h.1,Nat.eq_of_beq_eq_true h.2]
  case ni.ni=>rfl
theorem beqsS_eq:∀ {l r:List V},l.all keyS = true → beqs l r = true → l = r
  | [],[],_,_=>rfl
  | [],_ :: _,_,h=>by simp [beqs] at h
  | _ :: _,[],_,h=>by simp [beqs] at h
  | a :: l,b :: r,hk,h=>by
    simp only [List.all_cons,Bool.and_eq_true] at hk
    simp only [beqs,Bool.and_eq_true] at h
    rw [beqS_eq hk.1 h.1,beqsS_eq hk.2 h.2]
theorem beqV_eq {x y:V} (hk:keyV x = true) (h:V.beq x y = true):x = y:=by
  cases x
  case agg l=>
    cases y <;> simp only [V.beq,Bool.false_eq_true] at h
    rw [beqsS_eq hk h]
  all_goals exact beqS_eq (by exact hk) h
theorem keyS_det {x:V} {u u':Value} (hk:keyS x = true) (h:R m x u) (h':R m x u'):u = u':=by
  cases x <;> simp only [keyS,Bool.false_eq_true] at hk
  case s l c=>
    rw [R_str] at h h'
    obtain ⟨s,rfl,h1,_⟩:=h;obtain ⟨s',rfl,h1',_⟩:=h'
    rw [bytesIn_inj (h1.trans h1'.symm)]
  case p b o=>
    obtain ⟨l,hl,rfl⟩:=R_p h;obtain ⟨l',hl',rfl⟩:=R_p h'
    rw [hl] at hl';cases hl';rfl
  all_goals
    simp only [R] at h h'
    rw [h,h']
theorem keyS_dets:∀ {l:List V} {u u':List Value},l.all keyS = true → Rl m l u → Rl m l u' → u = u'
  | [],u,u',_,h,h'=>by simp only [Rl] at h h';rw [h,h']
  | a :: l,u,u',hk,h,h'=>by
    simp only [List.all_cons,Bool.and_eq_true] at hk
    simp only [Rl] at h h'
    obtain ⟨x,xs,rfl,h1,h2⟩:=h;obtain ⟨x',xs',rfl,h1',h2'⟩:=h'
    rw [keyS_det hk.1 h1 h1',keyS_dets hk.2 h2 h2']
theorem keyV_det {x:V} {u u':Value} (hk:keyV x = true) (h:R m x u) (h':R m x u'):u = u':=by
  cases x
  case agg l=>
    obtain ⟨l1,rfl,h1,_⟩:=R_agg_cells h;obtain ⟨l2,rfl,h2,_⟩:=R_agg_cells h'
    rw [keyS_dets hk h1 h2]
  all_goals exact keyS_det (by exact hk) h h'
theorem keyS_bits {x:V} {u:Value} (hk:keyS x = true) (h:R m x u) (n:Nat):Instr.sameBits n u u = true:=by
  cases x <;> simp only [keyS,Bool.false_eq_true] at hk
  case s l c=>
    rw [R_str] at h;obtain ⟨s,rfl,_⟩:=h
    cases n <;> simp [Instr.sameBits,beq_toListBytes]
  case p b o=>
    obtain ⟨l,hl,rfl⟩:=R_p h
    cases n <;> simp [Instr.sameBits]
  all_goals
    simp only [R] at h
    subst h
    cases n <;> simp [Instr.sameBits]
theorem keyS_bitss:∀ {l:List V} {us:List Value},l.all keyS = true → Rl m l us → ∀ n,(us.zip us).all (fun x=>Instr.sameBits n x.1 x.2) = true
  | [],us,_,h,n=>by simp only [Rl] at h;subst h;rfl
  | a :: l,us,hk,h,n=>by
    simp only [List.all_cons,Bool.and_eq_true] at hk
    simp only [Rl] at h;obtain ⟨u,us,rfl,h1,h2⟩:=h
    simp only [List.zip_cons_cons,List.all_cons,Bool.and_eq_true]
    exact ⟨keyS_bits hk.1 h1 n,keyS_bitss hk.2 h2 n⟩
theorem keyV_bits {x:V} {u:Value} (hk:keyV x = true) (h:R m x u) (n:Nat):Instr.sameBits (n + 1) u u = true:=by
  cases x
  case agg l=>
    obtain ⟨l1,rfl,h1,_⟩:=R_agg_cells h
    have:=keyS_bitss hk h1 n
    simp only [Instr.sameBits,Bool.and_eq_true]
    exact ⟨by simp,this⟩
  all_goals exact keyS_bits (by exact hk) h _
theorem keyStays {x:V} {u u':Value} (hk:keyV x = true) (h:R m x u) (h':R m x u'):(Instr.keyThatStays u u').run P w = .ok u' w:=by
  rw [keyV_det hk h h']
  have:=keyV_bits hk h' 9999
  simp only [Instr.keyThatStays,this,if_true,Sem.run_pure]
theorem run_setObj {b:Nat} {o o':Obj} (hb:w.heap[b]? = some o) (hn:∀ c t f,o ≠ .cells c t f):(setObj b o').run P w = .ok () { w with heap:=w.heap.setIfInBounds b o' }:=by
  cases o <;> first | exact absurd rfl (hn _ _ _) | simp [setObj,Sem.run,hb]
theorem EntsR.set:∀ {es:List Ent} {xs:List MapEntry} (i:Nat) {e':Ent} {f:MapEntry → MapEntry},EntsR m es xs → (∀ y,xs[i]? = some y → EntR m e' (f y)) → EntsR m (setE es i e') (xs.modify i f)
  | [],xs,i,e',f,h,_=>by simp only [EntsR] at h;subst h;simp [setE,EntsR]
  | a :: es,xs,0,e',f,h,hf=>by
    obtain ⟨x,xs,rfl,hx,hxs⟩:=h
    simp only [setE,List.modify_zero_cons,EntsR]
    exact ⟨_,_,rfl,hf x rfl,hxs⟩
  | a :: es,xs,i + 1,e',f,h,hf=>by
    obtain ⟨x,xs,rfl,hx,hxs⟩:=h
    simp only [setE,List.modify_succ_cons,EntsR]
    exact ⟨_,_,rfl,hx,EntsR.set i hxs (fun y hy=>hf y (by simpa using hy))⟩
theorem EntsR.append:∀ {es es':List Ent} {xs xs':List MapEntry},EntsR m es xs → EntsR m es' xs' → EntsR m (es ++ es') (xs ++ xs')
  | [],_,xs,_,h,h'=>by simp only [EntsR] at h;subst h;exact h'
  | a :: es,_,xs,_,h,h'=>by
    obtain ⟨x,xs,rfl,hx,hxs⟩:=h
    simp only [List.cons_append,EntsR];exact ⟨_,_,rfl,hx,hxs.append h'⟩
theorem EntsR.del:∀ {es:List Ent} {xs:List MapEntry} (i:Nat),EntsR m es xs → EntsR m (delE es i) (xs.eraseIdx i)
  | [],xs,i,h=>by simp only [EntsR] at h;subst h;simp [delE,EntsR]
  | a :: es,xs,0,h=>by obtain ⟨x,xs,rfl,hx,hxs⟩:=h;simpa [delE] using hxs
  | a :: es,xs,i + 1,h=>by
    obtain ⟨x,xs,rfl,hx,hxs⟩:=h
    simp only [delE,List.eraseIdx_cons_succ,EntsR];exact ⟨_,_,rfl,hx,hxs.del i⟩
end Go.Ev
end
section
namespace Go.Ev
open Go
variable {P:Program} {m:Mp} {w:World}
theorem map_fr {h:H} (k:HR m h w) {b:Id} {l:Loc} {es es2:List Ent} {c c2:Nat} {xs2:List MapEntry} (hb:mget b h.mem = some (.map es c)) (hl:m b = some l) (hes:EntsR m es2 xs2) :
    Fr m h w m (setO h b (.map es2 c2)) { w with heap:=w.heap.setIfInBounds l.blk (.map ⟨xs2⟩ c2) }:=
  Fr.updObj k hb hl (by simp) (by simp) rfl (fun hat=>⟨xs2,hat,hes⟩)
theorem mapSet_sound {h h':H} (k:HR m h w) {t kt et:TypeId} {b:Id} {l:Loc} {key x v:V} {ukey ux:Value} (hu:P.underlying t = some (.map kt et)) (hl:m b = some l) (hk:R m key ukey) (hx:R m x ux)
    (hs:mapSet P kt h b key x = .ok v h'):v = undefV ∧ ∃ w',(Instr.mapUpdate t (.map (some l.blk)) ukey ux).run P w = .ok () w' ∧ Fr m h w m h' w':=by
  unfold mapSet at hs
  cases he:entsOf h b with
  | none=>rw [he] at hs;cases hs
  | some p=>
    obtain ⟨es,c⟩:=p
    rw [he] at hs
    simp only at hs
    obtain ⟨l2,xs,hb,hl2,hm,hes⟩:=entsOf_some k he
    rw [hl] at hl2;cases hl2
    cases hf:findEnt P kt h key es with
    | none=>rw [hf] at hs;cases hs
    | some r=>
      rw [hf] at hs
      obtain ⟨h1,h2,h3⟩:=findEnt_sound k hk hes hf false
      cases r with
      | none=>
        simp only at hs
        cases hs
        refine ⟨rfl,_,?_,map_fr k hb hl (hes.append (es':=[⟨key,x,c⟩]) (xs':=[⟨ukey,ux,c⟩]) ⟨_,_,rfl,⟨hk,hx,rfl⟩,rfl⟩)⟩
        simp only [Instr.mapUpdate,Sem.run_bind,run_und hu,Result.andThen_ok,run_getMap hm,h1,h2,Option.map_none,run_setObj hm (by simp)]
        simp
      | some p=>
        obtain ⟨i,e⟩:=p
        simp only at hs
        obtain ⟨hei,y,hy,hye⟩:=h3 _ rfl
        simp only at hei hy hye
        cases hkb:(keyV key && V.beq key e.key) with
        | false=>rw [hkb] at hs;cases hs
        | true=>
          rw [hkb] at hs;cases hs
          simp only [Bool.and_eq_true] at hkb
          have hke:=beqV_eq hkb.1 hkb.2
          have hyk:R m key y.key:=by rw [hke];exact hye.1
          refine ⟨rfl,_,?_,map_fr k hb hl (hes.set i (e':=⟨key,x,e.born⟩) (f:=fun z=>{ z with key:=ukey,val:=ux }) (fun z hz=>by rw [hy] at hz;cases hz;exact ⟨hk,hx,hye.2.2⟩))⟩
          have hya:(⟨xs⟩:Array MapEntry)[i]? = some y:=by simpa using hy
          simp only [Instr.mapUpdate,Sem.run_bind,run_und hu,Result.andThen_ok,run_getMap hm,h1,h2,Option.map_some,hya,Option.getD_some,keyStays hkb.1 hyk hk,run_setObj hm (by simp)]
          congr 5
          apply Array.toList_inj.1
          simp
theorem mapEnt_sound {h h':H} (k:HR m h w) {t kt et:TypeId} {b:Id} {l:Loc} {key z v:V} {ukey:Value} (hu:P.underlying t = some (.map kt et)) (hz:zeroT P et = some z) (hl:m b = some l) (hk:R m key ukey)
    (hs:mapEnt P kt z h b key = .ok v h'):∃ u w',(Instr.mapEntry t (.map (some l.blk)) ukey).run P w = .ok u w' ∧ Fr m h w m h' w' ∧ R m v u:=by
  obtain ⟨uz,hzr,rfl,_⟩:=zeroT_run (w:=w) hz
  unfold mapEnt at hs
  cases he:entsOf h b with
  | none=>rw [he] at hs;cases hs
  | some p=>
    obtain ⟨es,c⟩:=p
    rw [he] at hs
    simp only at hs
    obtain ⟨l2,xs,hb,hl2,hm,hes⟩:=entsOf_some k he
    rw [hl] at hl2;cases hl2
    cases hf:findEnt P kt h key es with
    | none=>rw [hf] at hs;cases hs
    | some r=>
      rw [hf] at hs
      obtain ⟨h1,h2,h3⟩:=findEnt_sound k hk hes hf false
      cases r with
      | none=>
        simp only at hs
        cases hs
        refine ⟨.tuple #[uz,goInt c],_,?_,map_fr k hb hl (hes.append (es':=[⟨key,cst uz,c⟩]) (xs':=[⟨ukey,uz,c⟩]) ⟨_,_,rfl,⟨hk,cst_sound m uz,rfl⟩,rfl⟩),?_⟩
        · simp only [Instr.mapEntry,Sem.run_bind,run_und hu,Result.andThen_ok,run_getMap hm,h1,h2,Option.map_none,hzr,run_setObj hm (by simp),Sem.run_pure]
          simp
        · simp only [R,Rl];exact ⟨_,rfl,_,_,rfl,cst_sound m uz,_,_,rfl,rfl,rfl⟩
      | some p=>
        obtain ⟨i,e⟩:=p
        simp only at hs
        obtain ⟨hei,y,hy,hye⟩:=h3 _ rfl
        simp only at hei hy hye
        cases hkb:(keyV key && V.beq key e.key) with
        | false=>rw [hkb] at hs;cases hs
        | true=>
          rw [hkb] at hs;cases hs
          simp only [Bool.and_eq_true] at hkb
          have hke:=beqV_eq hkb.1 hkb.2
          have hyk:R m key y.key:=by rw [hke];exact hye.1
          have hya:(⟨xs⟩:Array MapEntry)[i]? = some y:=by simpa using hy
          have hyv:(xs.getD i default).val = y.val:=by simp [List.getD_eq_getElem?_getD,hy]
          refine ⟨.tuple #[y.val,goInt y.born],_,?_,map_fr k hb hl (hes.set i (e':=⟨key,e.val,e.born⟩) (f:=fun z=>{ z with key:=ukey }) (fun z hz=>by rw [hy] at hz;cases hz;exact ⟨hk,hye.2.1,hye.2.2⟩)),?_⟩
          · simp only [Instr.mapEntry,Sem.run_bind,run_und hu,Result.andThen_ok,run_getMap hm,h1,h2,Option.map_some,hya,hyv,Option.getD_some,keyStays hkb.1 hyk hk,run_setObj hm (by simp),Sem.run_pure]
            congr 5
            apply Array.toList_inj.1
            simp
          · simp only [R,Rl];exact ⟨_,rfl,_,_,rfl,hye.2.1,_,_,rfl,by rw [hye.2.2];rfl,rfl⟩
theorem mapDel_sound {h h':H} (k:HR m h w) {t kt et:TypeId} {b:Id} {l:Loc} {key v:V} {ukey:Value} {ts:List TypeId} {ty:TypeId} (hu:P.underlying t = some (.map kt et)) (hl:m b = some l) (hk:R m key ukey)
    (hs:mapDel P kt h b key = .ok v h'):v = undefV ∧ ∃ w',(Builtin.delete_ ⟨t :: ts⟩ ty #[.map (some l.blk),ukey]).run P w = .ok (.tuple #[]) w' ∧ Fr m h w m h' w':=by
  unfold mapDel at hs
  cases he:entsOf h b with
  | none=>rw [he] at hs;cases hs
  | some p=>
    obtain ⟨es,c⟩:=p
    rw [he] at hs
    simp only at hs
    obtain ⟨l2,xs,hb,hl2,hm,hes⟩:=entsOf_some k he
    rw [hl] at hl2;cases hl2
    cases hf:findEnt P kt h key es with
    | none=>rw [hf] at hs;cases hs
    | some r=>
      rw [hf] at hs
      obtain ⟨h1,h2,h3⟩:=findEnt_sound k hk hes hf xs.isEmpty
      have hem:(⟨xs⟩:Array MapEntry).isEmpty = xs.isEmpty:=by cases xs <;> rfl
      cases r with
      | none=>
        simp only at hs
        cases hs
        refine ⟨rfl,_,?_,map_fr k hb hl hes⟩
        simp [Builtin.delete_,run_und hu,run_getMap hm,hem,h1,h2,run_setObj hm]
      | some p=>
        obtain ⟨i,e⟩:=p
        simp only at hs
        cases hs
        refine ⟨rfl,_,?_,map_fr k hb hl (hes.del i)⟩
        have:(⟨xs⟩:Array MapEntry).eraseIdxIfInBounds i = ⟨xs.eraseIdx i⟩:=by
          apply Array.toList_inj.1;simp
        simp [Builtin.delete_,run_und hu,run_getMap hm,hem,h1,h2,run_setObj hm,this]
theorem bornAt_sound {nn:Nat}:∀ {es:List Ent} {xs:List MapEntry} (i:Nat) {j:Nat} {e:Ent},EntsR m es xs → bornAt nn es i = some (j,e) →
    i ≤ j ∧ es[j - i]? = some e ∧ (∃ y,xs[j - i]? = some y ∧ EntR m e y) ∧ xs.findIdx? (fun y=>(y.born:Int) == (nn:Int)) = some (j - i)
  | [],xs,i,j,e,h,he=>by cases he
  | a :: es,xs,i,j,e,h,he=>by
    obtain ⟨x,xs,rfl,hx,hxs⟩:=h
    unfold bornAt at he
    cases hb:Nat.beq a.born nn with
    | true=>
      rw [hb] at he;cases he
      have h1:((x.born:Int) == (nn:Int)) = true:=by rw [hx.2.2,Nat.eq_of_beq_eq_true hb];simp
      refine ⟨Nat.le_refl _,by simp,⟨x,by simp,hx⟩,?_⟩
      simp [List.findIdx?_cons,h1]
    | false=>
      rw [hb] at he
      have h1:((x.born:Int) == (nn:Int)) = false:=by
        rw [hx.2.2];simp;intro h;have:a.born = nn:=by omega
        subst this;simp at hb
      obtain ⟨i1,i2,⟨y,i3,i4⟩,i5⟩:=bornAt_sound (i + 1) hxs he
      have e1:j - i = (j - (i + 1)) + 1:=by omega
      refine ⟨by omega,by rw [e1];simpa using i2,⟨y,by rw [e1];simpa using i3,i4⟩,?_⟩
      simp only [List.findIdx?_cons,h1,i5,e1];rfl
theorem entStore_sound {h h':H} (k:HR m h w) {t:TypeId} {b:Id} {l:Loc} {nn:Nat} {kk:IntKind} {x v:V} {ux:Value} (hl:m b = some l) (hx:R m x ux)
    (hs:entStore h b nn x = .ok v h'):v = undefV ∧ ∃ w',(Instr.entryStore t (.map (some l.blk)) (.int kk (nn:Int)) ux).run P w = .ok () w' ∧ Fr m h w m h' w':=by
  unfold entStore at hs
  cases he:entsOf h b with
  | none=>rw [he] at hs;cases hs
  | some p=>
    obtain ⟨es,c⟩:=p
    rw [he] at hs
    simp only at hs
    obtain ⟨l2,xs,hb,hl2,hm,hes⟩:=entsOf_some k he
    rw [hl] at hl2;cases hl2
    cases hf:bornAt nn es 0 with
    | none=>rw [hf] at hs;cases hs
    | some p=>
      obtain ⟨i,e⟩:=p
      rw [hf] at hs;cases hs
      obtain ⟨_,i2,⟨y,i3,i4⟩,i5⟩:=bornAt_sound 0 hes hf
      simp only [Nat.sub_zero] at i2 i3 i5
      refine ⟨rfl,_,?_,map_fr k hb hl (hes.set i (e':=⟨e.key,x,e.born⟩) (f:=fun z=>{ z with val:=ux }) (fun z hz=>by rw [i3] at hz;cases hz;exact ⟨i4.1,hx,i4.2.2⟩))⟩
      have i5':(⟨xs⟩:Array MapEntry).findIdx? (fun e=>(e.born:Int) == (nn:Int)) = some i:=by simpa using i5
      simp only [Instr.entryStore,Sem.run_bind,run_getMap hm,Result.andThen_ok,asInt,asIntOf,Sem.run_pure,i5',run_setObj hm (by simp)]
      congr 5
      apply Array.toList_inj.1
      simp
end Go.Ev
end
section
namespace Go.Ev
open Go
variable {P:Program} {m:Mp} {w:World}
theorem takeL_eq:∀ (n:Nat) (L r:List (List V)),takeL n L = some r → n ≤ L.length ∧ r = L.take n
  | 0,L,r,h=>by
    have:[] = r:=Option.some.inj h
    subst this;simp
  | n + 1,[],r,h=>by cases h
  | n + 1,a :: L,r,h=>by
    have e:takeL (n + 1) (a :: L) = Option.rec (motive:=fun _=>Option (List (List V))) none (fun x=>some (a :: x)) (takeL n L):=rfl
    rw [e] at h
    cases hx:takeL n L with
    | none=>rw [hx] at h;cases h
    | some x=>
      rw [hx] at h;cases h
      obtain ⟨h5,rfl⟩:=takeL_eq n L x hx
      exact ⟨by simp;omega,by simp⟩
theorem dropL_eq:∀ (n:Nat) (L:List (List V)),dropL n L = L.drop n
  | 0,L=>rfl
  | n + 1,[]=>rfl
  | n + 1,a :: L=>by show dropL n L = _;rw [dropL_eq n L];rfl
theorem flat_drop {sz:Nat}:∀ (L:List (List V)) (q:Nat),(∀ el ∈ L,el.length = sz) → (L.drop q).flatten = L.flatten.drop (q * sz)
  | [],q,_=>by simp
  | a :: L,0,_=>by simp
  | a :: L,q + 1,hL=>by
    have ha:=hL a (by simp)
    have e1:(a ++ L.flatten).drop ((q + 1) * sz) = L.flatten.drop (q * sz):=by
      rw [List.drop_append,List.drop_eq_nil_of_le (by rw [ha,Nat.succ_mul];omega),List.nil_append]
      congr 1;rw [ha,Nat.succ_mul];omega
    rw [List.drop_succ_cons,flat_drop L q (fun el he=>hL el (by simp [he])),List.flatten_cons,e1]
theorem flat_take {sz:Nat}:∀ (L:List (List V)) (q:Nat),(∀ el ∈ L,el.length = sz) → (L.take q).flatten = L.flatten.take (q * sz)
  | [],q,_=>by simp
  | a :: L,0,_=>by simp
  | a :: L,q + 1,hL=>by
    have ha:=hL a (by simp)
    have e1:(a ++ L.flatten).take ((q + 1) * sz) = a ++ L.flatten.take (q * sz):=by
      rw [List.take_append,List.take_of_length_le (by rw [ha,Nat.succ_mul];omega)]
      congr 2;rw [ha,Nat.succ_mul];omega
    rw [List.take_succ_cons,List.flatten_cons,flat_take L q (fun el he=>hL el (by simp [he])),List.flatten_cons,e1]
theorem els_spec {sz o len:Nat} {l:Loc} {els0:List (List V)} {ro:Rw} {C:Array Value} {t:TypeId} {fz:Nat × Nat} (hc:CellsAt m w l sz els0 ro C t fz) (ho:o % sz = 0)
    (hle:len ≤ (els0.drop (o / sz)).length) :
    ∃ us,(∀ el ∈ (els0.drop (o / sz)).take len,el.length = sz) ∧ ((els0.drop (o / sz)).take len).length = len ∧ us.length = len * sz ∧ Rl m ((els0.drop (o / sz)).take len).flatten us ∧ (∀ x ∈ us,scalar x) ∧
      (∀ (j:Nat) v,us[j]? = some v → C[l.base + o + j]? = some v):=by
  have heach:∀ el ∈ (els0.drop (o / sz)).take len,el.length = sz:=fun el hel=>hc.each el (List.mem_of_mem_drop (List.mem_of_mem_take hel))
  have hlen:((els0.drop (o / sz)).take len).length = len:=by rw [List.length_take];omega
  have hq:o / sz * sz = o:=by have:=Nat.div_add_mod o sz;rw [Nat.mul_comm,ho] at this;simpa using this
  have hflat:((els0.drop (o / sz)).take len).flatten = (els0.flatten.drop o).take (len * sz):=by
    rw [flat_take _ _ (fun el hel=>hc.each el (List.mem_of_mem_drop hel)),flat_drop _ _ hc.each,hq]
  have hfl:=flat_len heach
  rw [hlen] at hfl
  have hcell:∀ j,j < len * sz → ∃ v u,((els0.drop (o / sz)).take len).flatten[j]? = some v ∧ C[l.base + o + j]? = some u ∧ R m v u ∧ scalar u:=by
    intro j hj
    have hv:∃ v,((els0.drop (o / sz)).take len).flatten[j]? = some v:=⟨_,List.getElem?_eq_getElem (by rw [hfl];exact hj)⟩
    obtain ⟨v,hv⟩:=hv
    have hv2:=hv
    rw [hflat,List.getElem?_take_of_lt hj,List.getElem?_drop] at hv2
    obtain ⟨u,h1,h2,h3⟩:=hc.val _ _ hv2
    exact ⟨v,u,hv,by rw [Nat.add_assoc];exact h1,h2,h3⟩
  refine ⟨(List.range (len * sz)).map (fun j=>(C[l.base + o + j]?).getD undef),heach,hlen,by simp,?_,?_,?_⟩
  · refine Rl.mk (by rw [hfl];simp) ?_
    intro j v u hv hu
    have hj:j < len * sz:=by have:=(List.getElem?_eq_some_iff.1 hv).1;rw [hfl] at this;exact this
    obtain ⟨v',u',hv',hu',hR,_⟩:=hcell j hj
    rw [hv] at hv';cases hv'
    simp only [List.getElem?_map,List.getElem?_range hj,Option.map_some,Option.some.injEq] at hu
    rw [hu'] at hu;subst hu;exact hR
  · intro x hx
    simp only [List.mem_map,List.mem_range] at hx
    obtain ⟨j,hj,rfl⟩:=hx
    obtain ⟨v',u',_,hu',_,hs⟩:=hcell j hj
    rw [hu'];exact hs
  · intro j v hv
    have hj:j < len * sz:=by have:=(List.getElem?_eq_some_iff.1 hv).1;simpa using this
    obtain ⟨v',u',_,hu',_,_⟩:=hcell j hj
    simp only [List.getElem?_map,List.getElem?_range hj,Option.map_some,Option.some.injEq] at hv
    rw [hu'] at hv;simp at hv;subst hv;exact hu'
theorem byteInts_spec:∀ (s:List UInt8),(byteInts (s.map UInt8.toNat)).length = s.length ∧ (∀ el ∈ byteInts (s.map UInt8.toNat),el.length = 1) ∧
    Rl m (byteInts (s.map UInt8.toNat)).flatten (s.map fun b=>.int .u8 b.toNat)
  | []=>by simp [byteInts,Rl]
  | b :: s=>by
    obtain ⟨h1,h2,h3⟩:=byteInts_spec s
    refine ⟨by simp [byteInts,h1],?_,?_⟩
    · intro el hel
      simp only [List.map_cons,byteInts,List.mem_cons] at hel
      rcases hel with rfl | hel
      · rfl
      · exact h2 el hel
    · simp only [List.map_cons,byteInts,List.flatten_cons,List.cons_append,List.nil_append,Rl]
      exact ⟨_,_,rfl,by simp [R],h3⟩
theorem elems_sound {h:H} (k:HR m h w) {sz:Nat} {x:V} {u:Value} {els:List (List V)} (hx:R m x u) (he:elemsOf h (sz + 1) x = some els) :
    ∃ us,(∀ el ∈ els,el.length = sz + 1) ∧ us.length = els.length * (sz + 1) ∧ Rl m els.flatten us ∧ (∀ y ∈ us,scalar y) ∧ (Builtin.lenOf u).run P w = .ok els.length w ∧
      ∀ n,n ≤ els.length → (Builtin.firstCells (sz + 1) n u).run P w = .ok ⟨us.take (n * (sz + 1))⟩ w:=by
  unfold elemsOf at he
  split at he
  · cases he
    simp only [R] at hx;subst hx
    exact ⟨[],by simp,by simp,by simp [Rl],by simp,by simp [Builtin.lenOf],fun n hn=>by simp [Builtin.firstCells]⟩
  · cases he
    simp only [R] at hx;obtain ⟨a,cap,rfl⟩:=hx
    refine ⟨[],by simp,by simp,by simp [Rl],by simp,by simp [Builtin.lenOf],fun n hn=>?_⟩
    have:n = 0:=by simpa using hn
    subst this
    simp [Builtin.firstCells,loadCells,loadCellsFrom]
  · rename_i b o len z
    split at he
    · rename_i sz' els0 f ro hb
      cases hc:(Nat.beq (sz + 1) sz' && Nat.beq (Nat.mod o (sz + 1)) 0) with
      | false=>rw [hc] at he;cases he
      | true=>
        rw [hc] at he
        simp only [cond_true] at he
        simp only [Bool.and_eq_true] at hc
        have h1:=Nat.eq_of_beq_eq_true hc.1;subst h1
        have h2:o % (sz + 1) = 0:=Nat.eq_of_beq_eq_true hc.2
        obtain ⟨l,hl,C,t,fz,hcs⟩:=k.obj _ _ hb
        rw [dropL_eq] at he
        obtain ⟨h5,rfl⟩:=takeL_eq _ _ _ he
        obtain ⟨us,e1,e2,e3,e4,e5,e6⟩:=els_spec hcs h2 h5
        simp only [R] at hx;obtain ⟨l2,cap,hl2,rfl,hlc,hlim⟩:=hx
        rw [hl] at hl2;cases hl2
        refine ⟨us,e1,?_,e4,e5,?_,?_⟩
        · rw [e3];congr 1;exact e2.symm
        · simp only [Builtin.lenOf,Sem.run_pure];congr 1;exact e2.symm
        · intro n hn
          have hn':n ≤ len:=by have h6:((els0.drop (Nat.div o (sz + 1))).take len).length = len:=e2;rw [h6] at hn;exact hn
          have hrun:=run_loadCells_list (P:=P) (w:=w) ⟨l.blk,l.base + o,none⟩ (us.take (n * (sz + 1))) (fun j v hv=>by
            rw [addr_add,cell_of hcs.at_]
            rw [List.getElem?_take] at hv
            split at hv
            · exact e6 j v hv
            · cases hv)
          have hl3:(us.take (n * (sz + 1))).length = n * (sz + 1):=by
            rw [List.length_take,e3]
            exact Nat.min_eq_left (Nat.mul_le_mul_right _ hn')
          rw [hl3] at hrun
          simp only [Builtin.firstCells]
          simpa using hrun
    · cases he
  · rename_i l c
    cases hz:Nat.beq (sz + 1) 1 with
    | false=>rw [hz] at he;cases he
    | true=>
    rw [hz] at he
    simp only [cond_true,Option.some.injEq] at he
    subst he
    have hz1:=Nat.eq_of_beq_eq_true hz
    have:sz = 0:=by omega
    subst this
    rw [R_str] at hx;obtain ⟨s,rfl,hb,_⟩:=hx
    rw [← hb]
    obtain ⟨h1,h2,h3⟩:=byteInts_spec (m:=m) s.data.toList
    have hsz:s.data.toList.length = s.size:=by rw [Array.length_toList];rfl
    have h1':(byteInts (bytesIn s)).length = s.size:=by rw [← hsz];exact h1
    refine ⟨s.data.toList.map (fun b:UInt8=>(Value.int .u8 ((b.toNat:Nat):Int))),h2,by rw [h1'];simp [hsz],h3,by simp [scalar],?_,?_⟩
    · rw [h1'];simp [Builtin.lenOf]
    · intro n hn
      simp only [Builtin.firstCells,Sem.run_pure]
      congr 1
      apply Array.toList_inj.1
      obtain ⟨⟨sl⟩⟩:=s
      have:=ByteArray.extract_mk sl 0 n
      rw [show (ByteArray.mk ⟨sl⟩).extract 0 n = (ByteArray.mk sl.toArray).extract 0 n from rfl,this]
      simp
  · cases he
end Go.Ev
end
