/-
  A part of the proof of the card of WorkGeneralizationIsLeast (second form): lemmas that the text Card uses. No condition of its own.
-/
import Derived.Test.YtaloeffmigffaaaGreatDoorEv04
import Derived.Orders
import Derived.LoopN
import Derived.Defers
set_option linter.all false
set_option linter.unusedVariables false
set_option linter.unusedSimpArgs false
section
namespace Go.Ev
open Go
variable {P:Program} {m:Mp} {w:World}
def CallOK (P:Program) (call:CallT):Prop:=
  ∀ (f:FuncId) (vs:List V) (us:List Value) (m:Mp) (h:H) (w:World) (v:V) (h':H),HR m h w → Gl P m → Rl m vs us → call f vs h = .ok v h' → HvOk P ((callFunc f ⟨us⟩).run P w) m h w v h'
theorem HvOk.val {s:Sem Value} {h h':H} {v:V} (hs:∃ u w' m',s.run P w = .ok u w' ∧ Fr m h w m' h' w' ∧ R m' v u):HvOk P ((do pure (Next.value (← s)):Sem Next).run P w) m h w v h':=by
  obtain ⟨u,w',m',h1,h2,h3⟩:=hs
  exact .inl ⟨u,w',m',.inl (by simp [h1]),h2,h3⟩
theorem HvOk.unit {s:Sem Unit} {h h':H} {v:V} (hs:∃ w' m',s.run P w = .ok () w' ∧ Fr m h w m' h' w' ∧ R m' v undef):HvOk P ((do s;pure Next.skip:Sem Next).run P w) m h w v h':=by
  obtain ⟨w',m',h1,h2,h3⟩:=hs
  exact .inl ⟨undef,w',m',.inr ⟨by simp [h1],rfl⟩,h2,h3⟩
theorem callH_sound {n:Nat} {e:Env} {a:Act} {call:CallT} (hcall:CallOK P call) (k:EnvR m n e a) (hg:Gl P m) {h h':H} (hr:HR m h w) {c:Call} {ty:TypeId}
    (hops:(Op.call c).operands.toList.all (opOk P n) = true) {v:V} (hv:(callH P c).run call e h = .ok v h') :
    HvOk P ((do let d ← resolve a.eval c ty;invoke d.target d.args:Sem Next).run P w) m h w v h':=by
  obtain ⟨callee,args,argTypes⟩:=c
  obtain ⟨args⟩:=args
  obtain ⟨argTypes⟩:=argTypes
  unfold callH at hv
  simp only [Op.operands] at hops
  cases callee with
  | value f=>
    simp [Call.operands] at hops
    have hF:=opnd_sound k hg hops.1
    obtain ⟨g,A,B,e1,hv⟩:=as_fn_H_ok hv
    rw [e1] at hF
    simp only [R] at hF
    obtain ⟨a',c',hu,hA,hB⟩:=hF
    split at hv
    · rename_i fid
      have hargs:=opnds_sound k hg (xs:=args) (by simpa using hops.2)
      rw [appV_eq,appV_eq] at hv
      have:=hcall fid _ _ m h w v h' hr hg (hA.append (hargs.append hB)) hv
      simpa [resolve,hu,Deferred.ofValue,invoke] using this
    · cases hv
  | invoke r nm=>cases hv
  | builtin b=>
    simp [Call.operands] at hops
    simp only at hv
    split at hv
    · rename_i e0;cases e0
    · rename_i x y t t2 ts e0
      cases e0
      simp at hops
      have hX:=opnd_sound k hg hops.1
      have hY:=opnd_sound k hg hops.2
      unfold appC at hv
      split at hv
      · cases hv
      · rename_i el u2 hni hu hu2
        split at hv
        · rename_i sz z hs hz
          split at hv
          · rename_i zc inf hc hi
            cases hcd:(Nat.ble inf.bytes 1000000 && Nat.beq (lenV1 zc) (sz + 1)) with
            | false=>rw [hcd] at hv;cases hv
            | true=>
              rw [hcd] at hv
              simp only [cond_true] at hv
              simp only [Bool.and_eq_true] at hcd
              split at hv
              · rename_i new he
                obtain ⟨uz,hzr,rfl,i2,hi2,hzi⟩:=zeroT_run (w:=w) hz
                rw [hi] at hi2;cases hi2
                obtain ⟨zc',h1,h2,h3⟩:=cst_cells (m:=m) hc
                obtain ⟨i3,hi3,hsz⟩:=sizeT_info hs
                rw [hi] at hi3;cases hi3
                have hzl:uz.cells.size = sz + 1:=by
                  rw [h1];show zc'.length = _
                  rw [h2.length,← lenV1_eq];exact Nat.eq_of_beq_eq_true hcd.2
                have T:AppTy P ⟨t :: t2 :: ts⟩ (sz + 1) el inf uz:=⟨⟨t,t2,u2,by simp,by simp,hu,hu2,hni⟩,hi,hzi,hsz,hzl,Nat.le_of_ble_eq_true hcd.1⟩
                have:=HvOk.val (append_sound (ty:=ty) hr T hX hY he hv)
                simpa [resolve,invoke,builtin] using this
              · cases hv
          · cases hv
        · cases hv
      · cases hv
    · rename_i x y t ts e0
      cases e0
      simp at hops
      have hX:=opnd_sound k hg hops.1
      have hY:=opnd_sound k hg hops.2
      unfold copyC at hv
      split at hv
      · rename_i el hu
        split at hv
        · rename_i sz hs
          obtain ⟨inf,hi,hsz⟩:=sizeT_info hs
          cases he:elemsOf h (sz + 1) ((opnd y).run e) with
          | none=>
            simp only [he] at hv
            unfold copyF at hv
            cases hv
          | some src=>
            simp only [he] at hv
            have:=HvOk.val (copy_sound (P:=P) (ts:=⟨t :: ts⟩) (ty:=ty) hr (by simp) hu hi hsz hX hY he hv)
            simpa [resolve,invoke,builtin] using this
        · cases hv
      · cases hv
    · rename_i x t ts e0
      cases e0
      simp at hops
      have hX:=opnd_sound k hg hops
      unfold clearC at hv
      split at hv
      · rename_i el hu
        split at hv
        · rename_i sz z hs hz
          split at hv
          · rename_i zc hc
            cases hcd:(Nat.beq (lenV1 zc) (sz + 1)) with
            | false=>rw [hcd] at hv;cases hv
            | true=>
              rw [hcd] at hv
              simp only [cond_true] at hv
              have:=HvOk.val (clear_sound (P:=P) (ts:=⟨t :: ts⟩) (ty:=ty) hr (by simp) hu hz hc (by rw [← lenV1_eq];exact Nat.eq_of_beq_eq_true hcd) hX hv)
              simpa [resolve,invoke,builtin] using this
          · cases hv
        · cases hv
      · cases hv
    · rename_i x kk t ts e0
      cases e0
      simp at hops
      have hX:=opnd_sound k hg hops.1
      have hY:=opnd_sound k hg hops.2
      unfold delC at hv
      split at hv
      · rename_i kt et hu
        obtain ⟨b,e1,hv⟩:=as_mp_H_ok hv
        rw [e1] at hX
        simp only [R] at hX
        obtain ⟨l,hl,hu2⟩:=hX
        obtain ⟨rfl,w',r1,r2⟩:=mapDel_sound (P:=P) (ts:=ts) (ty:=ty) hr hu hl hY hv
        have:=HvOk.val (P:=P) ⟨_,w',m,r1,r2,show R m undefV (.tuple #[]) by simp [R,Rl,undefV]⟩
        simpa [resolve,invoke,builtin,hu2] using this
      · cases hv
    · rename_i x nn t t2 ts e0
      cases e0
      simp at hops
      have hX:=opnd_sound k hg hops.1
      have hN:=opnd_sound k hg hops.2
      unfold ustrC at hv
      split at hv
      · rename_i el hu
        split at hv
        · rename_i hs
          simp only at hv
          split at hv
          · rename_i N e1
            rw [e1] at hN
            simp only [R] at hN
            have:=HvOk.val (P:=P) (ustr_sound (P:=P) (ty:=ty) (t2:=t2) (ts:=ts) hr hu hs hX hv)
            have hm:(⟨[x,nn]⟩:Array Operand).map a.eval = #[a.eval x,.int .i64 (Int.ofNat N)]:=by simp [hN]
            simpa [resolve,invoke,builtin,hN] using this
          · cases hv
        · cases hv
      · cases hv
    · cases hv
theorem heavy_sound {n:Nat} {e:Env} {a:Act} {call:CallT} (hcall:CallOK P call) (k:EnvR m n e a) (hg:Gl P m) {h h':H} (hr:HR m h w) {o:Oper} (hops:o.op.operands.toList.all (opOk P n) = true) {v:V}
    (hv:(heavyC P o.op).run call e h = .ok v h'):HvOk P ((execOp a.eval o).run P w) m h w v h':=by
  obtain ⟨dst,op,type,pos,after,guard⟩:=o
  simp only at hops hv
  have op1:∀ {x:Operand},opOk P n x = true → R m ((opnd x).run e) (a.eval x):=fun hx=>opnd_sound k hg hx
  cases op <;> simp only [heavyC] at hv <;> (try (cases hv;done))
  case call c=>exact callH_sound hcall k hg hr hops hv
  case alloc t=>
    split at hv
    · rename_i z hz
      split at hv
      · rename_i c hc
        exact HvOk.val (alloc_sound hr hz hc hv)
      · cases hv
    · cases hv
  case box t x=>
    have hX:=op1 (show opOk P n x = true by simpa [Op.operands] using hops)
    cases hc:cellsQ ((opnd x).run e) with
    | none=>simp only [hc] at hv;cases hv
    | some c=>
      simp only [hc] at hv
      exact HvOk.val (box_sound hr hX hc hv)
  case makeMap t r=>
    cases r with
    | none=>exact HvOk.val (makeMap_sound hr (.inl rfl) hv)
    | some x=>
      have hX:=op1 (show opOk P n x = true by simpa [Op.operands] using hops)
      simp only at hv
      split at hv
      · rename_i kt et hu
        obtain ⟨kk,nn,e1,hv⟩:=as_i_H_ok hv
        rw [e1] at hX
        simp only [R] at hX
        exact HvOk.val (makeMap_sound hr (.inr ⟨kt,et,kk,nn,hu,by rw [Option.map_some,hX]⟩) hv)
      · cases hv
  case range t x=>
    have hX:=op1 (show opOk P n x = true by simpa [Op.operands] using hops)
    split at hv
    · rename_i hu
      obtain ⟨l,c,e1,hv⟩:=as_s_H_ok hv
      rw [e1] at hX
      exact HvOk.val (rangeS_sound (x:=.sn) hr hu hX hv)
    · rename_i kt et hu
      obtain ⟨b,e1,hv⟩:=as_mp_H_ok hv
      rw [e1] at hX
      simp only [R] at hX
      obtain ⟨l,hl,hu2⟩:=hX
      split at hv
      · rename_i es clock he
        have:=HvOk.val (P:=P) (rangeM_sound hr hu hl he hv)
        simpa [execOp,hu2] using this
      · cases hv
    · cases hv
  case next x isS=>
    have hX:=op1 (show opOk P n x = true by simpa [Op.operands] using hops)
    cases isS with
    | true=>
      obtain ⟨b,o,e1,hv⟩:=as_p_H_ok hv
      rw [e1] at hX
      obtain ⟨l,hl,hu⟩:=R_p hX
      cases ho:Nat.beq o 0 with
      | false=>rw [ho] at hv;cases hv
      | true=>
        rw [ho] at hv
        have:=Nat.eq_of_beq_eq_true ho;subst this
        have:=HvOk.val (P:=P) (nextS_sound (ty:=type) hr hl hv)
        simpa [execOp,hu] using this
    | false=>
      obtain ⟨b,o,e1,hv⟩:=as_p_H_ok hv
      rw [e1] at hX
      obtain ⟨l,hl,hu⟩:=R_p hX
      cases ho:Nat.beq o 0 with
      | false=>rw [ho] at hv;cases hv
      | true=>
        rw [ho] at hv
        have:=Nat.eq_of_beq_eq_true ho;subst this
        have:=HvOk.val (P:=P) (nextM_sound (ty:=type) hr hl hv)
        simpa [execOp,hu] using this
  case convert s d x=>
    have hX:=op1 (show opOk P n x = true by simpa [Op.operands] using hops)
    split at hv
    · rename_i el hs hd
      split at hv
      · rename_i he
        obtain ⟨l,c,e1,hv⟩:=as_s_H_ok hv
        rw [e1] at hX
        exact HvOk.val (strBytes_sound hr hs hd he hX hv)
      · cases hv
    · rename_i el hs hd
      split at hv
      · rename_i he
        exact HvOk.val (toStr_sound hr hs hd he hX hv)
      · cases hv
    · cases hv
  case mapUpdate t mm kx vx=>
    simp [Op.operands] at hops
    have hM:=op1 hops.1
    have hK:=op1 hops.2.1
    have hV:=op1 hops.2.2
    split at hv
    · rename_i kt et hu
      obtain ⟨b,e1,hv⟩:=as_mp_H_ok hv
      rw [e1] at hM
      simp only [R] at hM
      obtain ⟨l,hl,hu2⟩:=hM
      obtain ⟨rfl,w',r1,r2⟩:=mapSet_sound hr hu hl hK hV hv
      have:=HvOk.unit (P:=P) ⟨w',m,r1,r2,show R m undefV undef by simp [R,Rl,undefV,undef]⟩
      simpa [execOp,hu2] using this
    · cases hv
  case insert t mm kx vx=>
    simp [Op.operands] at hops
    have hM:=op1 hops.1
    have hK:=op1 hops.2.1
    have hV:=op1 hops.2.2
    split at hv
    · rename_i kt et hu
      obtain ⟨b,e1,hv⟩:=as_mp_H_ok hv
      rw [e1] at hM
      simp only [R] at hM
      obtain ⟨l,hl,hu2⟩:=hM
      obtain ⟨rfl,w',r1,r2⟩:=mapSet_sound hr hu hl hK hV hv
      have:=HvOk.unit (P:=P) ⟨w',m,r1,r2,show R m undefV undef by simp [R,Rl,undefV,undef]⟩
      simpa [execOp,hu2] using this
    · cases hv
  case mapEntry t mm kx=>
    simp [Op.operands] at hops
    have hM:=op1 hops.1
    have hK:=op1 hops.2
    split at hv
    · rename_i kt et hu
      split at hv
      · rename_i z hz
        obtain ⟨b,e1,hv⟩:=as_mp_H_ok hv
        rw [e1] at hM
        simp only [R] at hM
        obtain ⟨l,hl,hu2⟩:=hM
        obtain ⟨u,w',r1,r2,r3⟩:=mapEnt_sound hr hu hz hl hK hv
        have:=HvOk.val (P:=P) ⟨u,w',m,r1,r2,r3⟩
        simpa [execOp,hu2] using this
      · cases hv
    · cases hv
  case entryStore t mm sx vx=>
    simp [Op.operands] at hops
    have hM:=op1 hops.1
    have hK:=op1 hops.2.1
    have hV:=op1 hops.2.2
    obtain ⟨b,e1,hv⟩:=as_mp_H_ok hv
    rw [e1] at hM
    simp only [R] at hM
    obtain ⟨l,hl,hu2⟩:=hM
    obtain ⟨kk,nn,e2,hv⟩:=as_i_H_ok hv
    rw [e2] at hK
    simp only [R] at hK
    split at hv
    · rename_i nn
      obtain ⟨rfl,w',r1,r2⟩:=entStore_sound (P:=P) (t:=t) (kk:=kk) hr hl hV hv
      have:=HvOk.unit (P:=P) ⟨w',m,r1,r2,show R m undefV undef by simp [R,Rl,undefV,undef]⟩
      simpa [execOp,hu2,hK] using this
    · cases hv
  case buildSlice t len ps=>
    split at hv
    · rename_i el hu
      split at hv
      · rename_i sz z hs hz
        split at hv
        · rename_i zc hc
          cases hcd:(Nat.ble (len * (sz + 1)) 16777216 && Nat.beq (lenV1 zc) (sz + 1)) with
          | false=>rw [hcd] at hv;cases hv
          | true=>
            rw [hcd] at hv
            simp only [cond_true] at hv
            simp only [Bool.and_eq_true] at hcd
            split at hv
            · rename_i cs hb
              exact HvOk.val (buildSlice_sound k hg hr hu (by simpa [Op.operands] using hops) hs hz hc (Nat.le_of_ble_eq_true hcd.1) (by rw [← lenV1_eq];exact Nat.eq_of_beq_eq_true hcd.2) hb hv)
            · cases hv
        · cases hv
      · cases hv
    · cases hv
  case makeSlice t lx cx=>
    simp [Op.operands] at hops
    have hL:=op1 hops.1
    have hC:=op1 hops.2
    split at hv
    · rename_i el hu
      split at hv
      · rename_i sz z hs hz
        split at hv
        · rename_i zc inf hc hi
          cases hcd:(Nat.ble inf.bytes 1000000 && Nat.beq (lenV1 zc) (sz + 1)) with
          | false=>rw [hcd] at hv;cases hv
          | true=>
            rw [hcd] at hv
            simp only [cond_true] at hv
            simp only [Bool.and_eq_true] at hcd
            obtain ⟨k1,n1,e1,hv1⟩:=as_i_H_ok hv
            clear hv
            obtain ⟨k2,n2,e2,hv⟩:=as_i_H_ok hv1
            clear hv1
            rw [e1] at hL;rw [e2] at hC
            simp only [R] at hL hC
            split at hv
            · rename_i N M
              cases hcd2:(Nat.ble N M && Nat.ble M 100000) with
              | false=>rw [hcd2] at hv;cases hv
              | true=>
                rw [hcd2] at hv
                simp only [cond_true] at hv
                simp only [Bool.and_eq_true] at hcd2
                have:=HvOk.val (P:=P) (makeSlice_sound (k1:=k1) (k2:=k2) hr hu hs hz hc hi (Nat.le_of_ble_eq_true hcd.1) (by rw [← lenV1_eq];exact Nat.eq_of_beq_eq_true hcd.2) (Nat.le_of_ble_eq_true hcd2.1) (Nat.le_of_ble_eq_true hcd2.2) hv)
                simpa [execOp,hL,hC] using this
            · cases hv
        · cases hv
      · cases hv
    · cases hv
  case store t ax vx=>
    simp [Op.operands] at hops
    have hA:=op1 hops.1
    have hV:=op1 hops.2
    split at hv
    · rename_i nn hs
      obtain ⟨b,o,e1,hv⟩:=as_p_H_ok hv
      rw [e1] at hA
      obtain ⟨l,hl,hu⟩:=R_p hA
      cases hc:cellsQ ((opnd vx).run e) with
      | none=>simp only [hc] at hv;cases hv
      | some c=>
        simp only [hc] at hv
        cases hn:Nat.beq (lenV1 c) nn with
        | false=>rw [hn] at hv;cases hv
        | true=>
          rw [hn] at hv
          have hlen:c.length = nn:=by rw [← lenV1_eq];exact Nat.eq_of_beq_eq_true hn
          obtain ⟨c',h1,h2,h3⟩:=cellsQ_spec hV hc
          obtain ⟨inf,hi,hsz⟩:=sizeT_info hs
          obtain ⟨rfl,w',r1,r2⟩:=wr_sound (P:=P) hr hl hlen h2 h3 hv
          have hcs:c'.length = nn:=by rw [h2.length,hlen]
          have:=HvOk.unit (P:=P) (s:=Instr.storeAt t (a.eval ax) (a.eval vx)) ⟨w',m,by
            simp [Instr.storeAt,hu,Instr.sureAddr,storeVar,sizeOf,typeInfo,hi,hsz,h1,hcs,r1],r2,show R m undefV undef by simp [R,Rl,undefV,undef]⟩
          simpa [execOp] using this
    · cases hv
end Go.Ev
end
section
namespace Go.Ev
open Go
variable {P:Program} {m:Mp} {w:World}
theorem heavy_wp {n:Nat} {e:Env} {a:Act} {h h':H} {o:Oper} {v:V} {r:Result Next} (hv:HvOk P r m h w v h') {next:Act → World → Prop} {Q:Exit → Act → World → Prop}
    (hn:∀ u m' w',Fr m h w m' h' w' → R m' v u → next (a.put o.dst u) w'):o.upon P a next Q r:=by
  rcases hv with ⟨u,w',m',h1 | ⟨h1,h2⟩,hF,hR⟩ | ⟨f,us,h1,hC⟩
  · rw [h1,Oper.upon_value];exact hn u m' w' hF hR
  · rw [h1,Oper.upon_skip,← h2];exact hn u m' w' hF hR
  · rw [h1,Oper.upon_enter]
    refine Calls.mono hC ?_
    rintro x w' ⟨u,m',rfl,hF,hR⟩
    exact hn u m' w' hF hR
def dstOk (n:Nat):Option Tmp → Bool
  | none=>true
  | some d=>Nat.ble (Nat.succ d) n
theorem bareC_sound {n:Nat} {e e':Env} {a:Act} {call:CallT} (hcall:CallOK P call) (k:EnvR m n e a) (hg:Gl P m) {h h':H} (hr:HR m h w) {o:Oper} (hops:o.op.operands.toList.all (opOk P n) = true) (hd:dstOk n o.dst = true)
    (hv:(bareC P o).run call e h = .ok e' h') {next:Act → World → Prop} {Q:Exit → Act → World → Prop}
    (hn:∀ m' a' w',Fr m h w m' h' w' → EnvR m' n e' a' → next a' w'):o.wp P a w next Q:=by
  unfold Oper.wp
  unfold bareC at hv
  split at hv
  · rename_i f ts hop
    rw [hop] at hops
    simp [Op.operands,Call.operands] at hops
    have hF:=opnd_sound k hg hops
    obtain ⟨L,hL,hDf⟩:=k.dfr
    cases hD:o.dst with
    | some d=>rw [hD] at hv;cases hv
    | none=>
    rw [hD] at hv
    simp only [hL] at hv
    split at hv
    · rename_i g A B l e1 e2
      cases hv
      cases e2
      rw [e1] at hF
      simp only [R] at hF
      obtain ⟨a',c',hu,hA,hB⟩:=hF
      have hex:(execOp a.eval o).run P w = .ok (.defer { target:=.fn g ⟨c'⟩,args:=⟨a'⟩ }) w:=by
        simp [execOp,hop,resolve,hu,Deferred.ofValue]
      rw [hex,Oper.upon_defer,hD]
      refine hn m _ w (Fr.refl hr) ⟨k.size,k.le,fun t ht=>?_,_,by rw [eget_eset],?_⟩
      · have hle:=k.le
        rw [eget_eset_ne (by omega) (by unfold defSlot;omega) (by unfold defSlot;omega)]
        exact k.val t ht
      · exact ⟨a',c',_,rfl,hA,hB,hDf⟩
    · cases hv
  · cases hH:isHeavy P o.op <;> cases hD:o.dst <;> rw [hH,hD] at hv <;> simp only at hv
    · cases hl:(lightC P o.op).run e h with
      | none=>rw [hl] at hv;cases hv
      | some v=>
        rw [hl] at hv
        cases hv
        obtain ⟨u,h1,h2⟩:=light_sound k hg hr hops hl
        rw [h1,Oper.upon_value,hD]
        exact hn m a w (Fr.refl hr) k
    · rename_i d
      cases hl:(lightC P o.op).run e h with
      | none=>rw [hl] at hv;cases hv
      | some v=>
        rw [hl] at hv
        cases hv
        obtain ⟨u,h1,h2⟩:=light_sound k hg hr hops hl
        rw [h1,Oper.upon_value,hD]
        rw [hD] at hd
        exact hn m _ w (Fr.refl hr) (k.set (Nat.le_of_ble_eq_true hd) h2)
    · cases hl:(heavyC P o.op).run call e h with
      | bad=>rw [hl] at hv;cases hv
      | ok v hx=>
        rw [hl] at hv
        cases hv
        refine heavy_wp (n:=n) (e:=e) (heavy_sound hcall k hg hr hops hl) ?_
        intro u m' w' hF hR
        rw [hD]
        exact hn m' a w' hF (k.mono hF.le)
    · rename_i d
      cases hl:(heavyC P o.op).run call e h with
      | bad=>rw [hl] at hv;cases hv
      | ok v hx=>
        rw [hl] at hv
        cases hv
        refine heavy_wp (n:=n) (e:=e) (heavy_sound hcall k hg hr hops hl) ?_
        intro u m' w' hF hR
        rw [hD]
        rw [hD] at hd
        exact hn m' _ w' hF ((k.mono hF.le).set (Nat.le_of_ble_eq_true hd) hR)
end Go.Ev
end
section
namespace Go.Ev
open Go
variable (P:Program)
structure NV where
  ob:Id → O
  v:Id → V
structure NOp where
  run:Env → Option NV
def badN:NOp:=⟨fun _=>none⟩
def newCv (ty:Nat) (sz:Nat) (els:List (List V)) (vf:Id → V):NV:=⟨fun i=>.cells sz els i (.rw ty),vf⟩
noncomputable def newP:Op → NOp
  | .alloc t=>(match zeroT P t with
    | some z=>(match cellsQ z with
      | some c=>⟨fun _=>some (newCv t (lenV1 c) [c] (fun i=>.p i 0))⟩
      | none=>badN)
    | none=>badN)
  | .box t x=>⟨fun e=>match cellsQ ((opnd x).run e) with | some c=>some (newCv t (lenV1 c) [c] (fun i=>.p i 0)) | none=>none⟩
  | .buildSlice t len ps=>(match P.underlying t with
    | some (.slice el)=>(match sizeT P el,zeroT P el with
      | some (sz + 1),some z=>(match cellsQ z with
        | some zc=>bif Nat.ble (len * (sz + 1)) 16777216 && Nat.beq (lenV1 zc) (sz + 1) then
            ⟨fun e=>match buildCells (fun i=>some (i * (sz + 1),sz + 1)) ((repN zc len).flatten) ((pairs ps.toList).run e) with
              | some cs=>some (newCv el (sz + 1) (chunks (sz + 1) len cs) (fun i=>.sl i 0 len (sz + 1)))
              | none=>none⟩ else badN
        | none=>badN)
      | _,_=>badN)
    | _=>badN)
  | .makeSlice t l c=>(match P.underlying t with
    | some (.slice el)=>(match sizeT P el,zeroT P el with
      | some (sz + 1),some z=>(match cellsQ z,P.info? el with
        | some zc,some inf=>bif Nat.ble inf.bytes 1000000 && Nat.beq (lenV1 zc) (sz + 1) then
            ⟨fun e=>match (opnd l).run e,(opnd c).run e with
              | .i _ (.ofNat n),.i _ (.ofNat m)=>bif Nat.ble n m && Nat.ble m 100000 then some (newCv el (sz + 1) (repN zc m) (fun i=>.sl i 0 n (sz + 1))) else none
              | _,_=>none⟩ else badN
        | _,_=>badN)
      | _,_=>badN)
    | _=>badN)
  | .makeMap _ none=>⟨fun _=>some ⟨fun _=>.map [] 0,fun i=>.mp i⟩⟩
  | .makeMap t (some x)=>(match P.underlying t with
    | some (.map _ _)=>⟨fun e=>match (opnd x).run e with | .i _ _=>some ⟨fun _=>.map [] 0,fun i=>.mp i⟩ | _=>none⟩
    | _=>badN)
  | .convert s d x=>(match P.underlying s,P.underlying d with
    | some .string,some (.slice el)=>(match P.underlying el with
      | some (.int .u8)=>⟨fun e=>match (opnd x).run e with | .s l c=>some (newCv el 1 (byteInts (bytesOf l c)) (fun i=>.sl i 0 l 1)) | _=>none⟩
      | _=>badN)
    | _,_=>badN)
  | _=>badN
def topEnv:Env:=N8.all (N8.all (N8.all .top))
noncomputable def envM (e:Env):List Nat → Env
  | []=>eset defSlot (eget defSlot e) topEnv
  | t :: l=>eset t (eget t e) (envM e l)
def tmpsOf (l:List Operand):List Nat:=l.filterMap (fun | .tmp t=>some t | _=>none)
def gDst (ops:List Oper) (o:Oper):Option Nat:=match o.guard with | some (g,_)=>(nthO ops g).bind (·.dst) | none=>none
def looksE (ops:List Oper) (o:Oper):List Nat:=tmpsOf o.op.operands.toList ++ (gDst ops o).toList
noncomputable def gdC (ops:List Oper) (o:Oper) (e:Env):Option Bool:=
  match o.guard with
  | none=>some true
  | some (j,want)=>match (nthO ops j).bind (·.dst) with
    | none=>none
    | some g=>match eget g e with
      | .b b=>some (b == want)
      | .tup []=>some false
      | _=>none
noncomputable def litC (ops:List Oper) (o:Oper) (e:Env) (h:H):Option V:=
  match gdC ops o e with
  | some true=>(lightC P o.op).run e h
  | some false=>some undefV
  | none=>none
noncomputable def hvC (op:Op) (call:CallT) (e:Env) (h:H):VH:=
  bif isHeavy P op then (heavyC P op).run call e h else vhO h ((lightC P op).run e h)
inductive Kn where
  | light | new | heavy
def Kn.isHeavy:Kn → Bool | .heavy=>true | _=>false
def dstIs (d:Nat) (o:Oper):Bool:=match o.dst with | some d'=>Nat.beq d' d | none=>false
def touches (ops:List Oper) (d:Nat) (o:Oper):Bool:=memN d (looksE ops o) || dstIs d o
def isLate (ops:List Oper) (bef:List Nat) (i:Nat) (o:Oper):Bool:=
  match o.dst with
  | none=>false
  | some d=>memN d (looksE ops o) || (zipI 0 ops).any (fun x=>!Nat.beq x.1 i && (touches ops d x.2 && !Nat.testBit (natAt bef x.1) i))
def knOf (ops:List Oper) (bef:List Nat) (i:Nat) (o:Oper):Kn:=
  bif isLate ops bef i o then .heavy else bif isNew P o.op then .new else bif isHeavy P o.op then .heavy else .light
structure PN where
  idx:Nat
  id:Id
  ob:O
structure PC where
  idx:Nat
  chk:H → Bool
def idMax:Id:=⟨.d7,.d7,.d7,.d7,.d7⟩
def hq (h:H):H:=⟨h.mem,h.fams,idMax⟩
noncomputable def matM (p:Nat → Bool):List PN → Mem → Mem
  | [],m=>m
  | x :: l,m=>bif p x.idx then mput x.id (some x.ob) (matM p l m) else matM p l m
noncomputable def matH (p:Nat → Bool) (pn:List PN) (h:H):H:=⟨matM p pn h.mem,h.fams,h.next⟩
noncomputable def setD (d:Option Nat) (v:V) (e:Env):Env:=match d with | some d=>eset d v e | none=>e
noncomputable def eqO (v:V) (x:Option V):Bool:=match x with | some v'=>V.beq v v' | none=>false
def pcAll (h:H):List PC → Bool
  | []=>true
  | c :: l=>c.chk h && pcAll h l
structure DOp2 where
  run:CallT → Env → H → List PN → List PC → Rs
noncomputable def finE:DOp2:=⟨fun _ e h pn _=>.ok e (matH (fun _=>true) pn h)⟩
noncomputable def drawE (base:DOp2) (ops:List Oper) (bef:List Nat):List Nat → DOp2
  | []=>base
  | s :: l=>match nthO ops s with
    | none=>⟨fun _ _ _ _ _=>.bad⟩
    | some o=>match knOf P ops bef s o with
      | .light=>⟨fun call e h pn pc=>match litC P ops o (envM e (looksE ops o)) (hq h) with
          | none=>.bad
          | some v=>(drawE base ops bef l).run call (setD o.dst v e) h pn (⟨s,fun h'=>eqO v (litC P ops o (envM e (looksE ops o)) h')⟩ :: pc)⟩
      | .new=>⟨fun call e h pn pc=>match gdC ops o (envM e (looksE ops o)) with
          | some true=>(match (newP P o.op).run (envM e (looksE ops o)),Id.succ h.next with
             | some nv,some nx=>(drawE base ops bef l).run call (setD o.dst (nv.v h.next) e) ⟨h.mem,h.fams,nx⟩ (⟨s,h.next,nv.ob h.next⟩ :: pn) pc
             | _,_=>.bad)
          | some false=>(drawE base ops bef l).run call (setD o.dst undefV e) h pn pc
          | none=>.bad⟩
      | .heavy=>⟨fun call e h pn pc=>match gdC ops o (envM e (looksE ops o)) with
          | some true=>(match hvC P o.op call (envM e (looksE ops o)) (matH (Nat.testBit (natAt bef s)) pn h) with
             | .ok v h'=>bif pcAll (hq h') (keepP (fun c=>!Nat.testBit (natAt bef s) c.idx) pc) then
                 (drawE base ops bef l).run call (setD o.dst v e) h' (keepP (fun x=>!Nat.testBit (natAt bef s) x.idx) pn) (keepP (fun c=>!Nat.testBit (natAt bef s) c.idx) pc) else .bad
             | .bad=>.bad)
          | some false=>(drawE base ops bef l).run call (setD o.dst undefV e) h pn pc
          | none=>.bad⟩
def schedE (bef:List Nat):List Nat → List Nat → List Nat
  | [],rest=>rest
  | h :: hs,rest=>keepP (fun x=>!Nat.testBit (natAt bef x) h && (!Nat.beq x h && !memN x hs)) rest ++ h :: schedE bef hs (keepP (fun x=>Nat.testBit (natAt bef x) h || memN x hs) rest)
def planE (ops:List Oper) (bef:List Nat) (tl:List Nat) (T:Nat):List Nat → Bool
  | []=>(zipI 0 ops).all (fun x=>Nat.testBit T x.1 || memN x.1 tl)
  | s :: l=>!Nat.testBit T s && (Nat.beq (natAt bef s &&& T) (natAt bef s) && ((nthO ops s).isSome && planE ops bef tl (T ||| 2 ^ s) l))
def chainE (ops:List Oper) (bef:List Nat) (tl:List Nat):List Nat → Bool
  | []=>true
  | s :: l=>(match nthO ops s with | some o=>!(knOf P ops bef s o).isHeavy || (l.all (fun x=>Nat.testBit (natAt bef x) s) && tl.all (fun x=>Nat.testBit (natAt bef x) s)) | none=>false) && chainE ops bef tl l
def isStore (ops:List Oper) (s:Nat):Bool:=
  match nthO ops s with
  | some o=>(match o.op,o.dst,o.guard with | .store ..,none,none=>true | _,_,_=>false)
  | none=>false
noncomputable def storeAt (ops:List Oper) (s:Nat) (e:Env):Option Id:=
  match nthO ops s with
  | some o=>(match o.op with | .store _ x _=>(match (opnd x).run (envM e (looksE ops o)) with | .p b _=>some b | _=>none) | _=>none)
  | none=>none
def memI (b:Id):List Id → Bool
  | []=>false
  | a :: l=>bif Id.beq a b then true else memI b l
noncomputable def pairOk (ops:List Oper) (s1 s2:Nat) (e:Env) (h:H) (pn:List PN):Bool:=
  match pn,storeAt ops s1 e,storeAt ops s2 e with
  | [],some b1,some b2=>(match mget b1 h.mem,mget b2 h.mem with
    | some (.cells _ _ f1 _),some (.cells _ _ f2 _)=>!Id.beq f1 f2 && (!Id.beq b1 b2 && (!memI b2 (fget f1 h.fams) && !memI b1 (fget f2 h.fams)))
    | _,_=>false)
  | _,_,_=>false
def beqLL:List (List V) → List (List V) → Bool
  | [],[]=>true
  | a :: l,b :: r=>beqs a b && beqLL l r
  | _,_=>false
noncomputable def sameOk (ops:List Oper) (s1 s2:Nat) (e:Env) (h1 h2:H) (pn:List PN):Bool:=
  match pn,storeAt ops s1 e,storeAt ops s2 e with
  | [],some b1,some b2=>Id.beq b1 b2 && (match mget b1 h1.mem,mget b1 h2.mem with
    | some (.cells _ els1 _ _),some (.cells _ els2 _ _)=>beqLL els1 els2
    | _,_=>false)
  | _,_,_=>false
noncomputable def pairE (ops:List Oper) (bef:List Nat) (s1 s2:Nat):DOp2:=
  ⟨fun call e h pn pc=>match (drawE P finE ops bef [s1,s2]).run call e h pn pc,(drawE P finE ops bef [s2,s1]).run call e h pn pc with
    | .ok e1 h1,.ok _ h2=>bif pairOk ops s1 s2 e h pn then .ok e1 h1 else bif sameOk ops s1 s2 e h1 h2 pn then .ok e1 h1 else .bad
    | _,_=>.bad⟩
def afterOk (ops:List Oper):Bool:=(zipI 0 ops).all (fun x=>x.2.after.toList.all (fun e=>!bindsE e || Nat.ble (Nat.succ e.on) x.1))
def ordOk (ops:List Oper) (bef:List Nat):Bool:=
  (zipI 0 ops).all (fun x=>match x.2.dst with
    | none=>true
    | some d=>(zipI 0 ops).all (fun y=>Nat.beq y.1 x.1 || (!touches ops d y.2 || (Nat.testBit (natAt bef y.1) x.1 || Nat.testBit (natAt bef x.1) y.1))))
def guardOk (ops:List Oper) (bef:List Nat):Bool:=
  (zipI 0 ops).all (fun x=>match x.2.guard with | none=>true | some (g,_)=>Nat.testBit (natAt bef x.1) g)
def tailE (ops:List Oper) (bef:List Nat):List Nat → List Nat × List Nat
  | []=>([],[])
  | [a,b]=>bif isStore ops a && (isStore ops b && !Nat.testBit (natAt bef b) a) then ([],[a,b]) else ([a,b],[])
  | a :: l=>match tailE ops bef l with | (p,t)=>(a :: p,t)
noncomputable def baseE (ops:List Oper) (bef:List Nat):List Nat → DOp2
  | [a,b]=>pairE P ops bef a b
  | _=>finE
def tlOk (ops:List Oper) (bef:List Nat):List Nat → Bool
  | []=>true
  | [a,b]=>isStore ops a && (isStore ops b && !Nat.beq a b)
  | _=>false
def maskOf:List Nat → Nat
  | []=>0
  | a :: l=>2 ^ a ||| maskOf l
def tlPlan (ops:List Oper) (bef:List Nat) (T:Nat):List Nat → Bool
  | [a,b]=>planE ops bef [] T [a,b] && planE ops bef [] T [b,a]
  | _=>true
noncomputable def regE (ops:List Oper):SOp:=
  match befGo [] ops with
  | bef=>match schedE bef ((keepP (fun x=>(knOf P ops bef x.1 x.2).isHeavy) (zipI 0 ops)).map (·.1)) ((zipI 0 ops).map (·.1)) with
    | pl0=>match tailE ops bef pl0 with
      | (pl,tl)=>bif afterOk ops && (ordOk ops bef && (guardOk ops bef && (planE ops bef tl 0 pl && (chainE P ops bef tl pl && (tlOk ops bef tl && tlPlan ops bef (maskOf pl) tl))))) then
        ⟨fun call e h=>(drawE P (baseE P ops bef tl) ops bef pl).run call e h [] []⟩
      else ⟨fun _ _ _=>.bad⟩
end Go.Ev
end
section
namespace Go.Ev
open Go
variable {P:Program} {m:Mp} {w:World}
def NewOk (P:Program) (s:Sem Value) (m:Mp) (w:World) (nv:NV):Prop:=
  ∃ u o l w',s.run P w = .ok u w' ∧ w'.heap = w.heap.push o ∧ w'.os = w.os ∧ w'.tape = w.tape ∧ w'.output = w.output ∧ l.blk = w.heap.size ∧
    (∀ i,writable (nv.ob i)) ∧ (∀ i sz els f ro,nv.ob i = .cells sz els f ro → f = i) ∧
    (∀ i (m':Mp),m.le m' → ∀ w2:World,w2.heap[w.heap.size]? = some o → ObjAt m' w2 l (nv.ob i)) ∧ (∀ i (m':Mp),m' i = some l → R m' (nv.v i) u)
theorem newC_obj {sz:Nat} {els:List (List V)} (he:∀ el ∈ els,el.length = sz)
    {us:List Value} (hR:Rl m els.flatten us) (hs:∀ x ∈ us,scalar x) {C:Array Value} {extra:List Value} (hC:C.toList = us ++ extra) (t:TypeId) (fz:Nat × Nat)
    (hfz:fz.1 = fz.2 ∨ (sz = 1 ∧ C.size ≤ fz.1)) (vf:Id → V) {s:Sem Value} {u:Value} {w':World} (hrun:s.run P w = .ok u w') (hw:w'.heap = w.heap.push (.cells C t fz)) (h1:w'.os = w.os) (h2:w'.tape = w.tape) (h3:w'.output = w.output)
    (hv:∀ i (m':Mp),m' i = some ⟨w.heap.size,0,C.size⟩ → R m' (vf i) u):NewOk P s m w (newCv t sz els vf):=by
  have hlen:C.size = us.length + extra.length:=by rw [← Array.length_toList,hC];simp
  refine ⟨u,.cells C t fz,⟨w.heap.size,0,C.size⟩,w',hrun,hw,h1,h2,h3,rfl,fun _=>by simp [writable,newCv],fun i _ _ _ _ e=>by cases e;rfl,?_,hv⟩
  intro i m' hm w' hw'
  refine ⟨C,t,fz,⟨hw',by simp,?_,he,?_,?_,?_,fun ty e=>by cases e;rfl,Nat.zero_mod _⟩⟩
  · show els.flatten.length ≤ C.size
    rw [← hR.length];omega
  · intro i x hx
    obtain ⟨u,hu,hRu⟩:=hR.get hx
    have hi:=(List.getElem?_eq_some_iff.1 hu).1
    refine ⟨u,?_,hRu.mono hm,hs u (List.mem_of_getElem? hu)⟩
    show C[0 + i]? = some u
    rw [Nat.zero_add,← Array.getElem?_toList,hC,List.getElem?_append_left hi,hu]
  · intro _ i hi
    show ¬ (fz.1 ≤ 0 + i ∧ 0 + i < fz.2)
    have hi':i < C.size:=hi
    rcases hfz with h1 | ⟨_,h2⟩ <;> omega
  · intro _ hz
    rcases hfz with h1 | ⟨h1,_⟩
    · exact h1
    · exact absurd h1 hz
theorem alloc_new {t:TypeId} {z:V} {c:List V} (hz:zeroT P t = some z) (hc:cellsQ z = some c):NewOk P (Instr.alloc t true (.tuple #[])) m w (newCv t (lenV1 c) [c] (fun i=>.p i 0)):=by
  obtain ⟨uz,hzr,rfl,_⟩:=zeroT_run (w:=w) hz
  obtain ⟨c',h1,h2,h3⟩:=cst_cells (m:=m) hc
  exact newC_obj (by simp [lenV1_eq]) (us:=c') (by simpa using h2) h3 (C:=uz.cells) (extra:=[]) (by rw [h1];simp) t (0,0) (.inl rfl) _
    (u:=.pointer (some ⟨w.heap.size,0,none⟩)) (w':={ w with heap:=w.heap.push (.cells uz.cells t (0,0)) }) (by simp [Instr.alloc,hzr,newVar,newRow]) rfl rfl rfl rfl (fun i m' hm=>by simp only [R];exact ⟨_,hm,rfl⟩)
theorem box_new {t:TypeId} {x:V} {u:Value} {c:List V} (hx:R m x u) (hc:cellsQ x = some c):NewOk P (Instr.box t u) m w (newCv t (lenV1 c) [c] (fun i=>.p i 0)):=by
  obtain ⟨c',h1,h2,h3⟩:=cellsQ_spec hx hc
  exact newC_obj (by simp [lenV1_eq]) (us:=c') (by simpa using h2) h3 (C:=u.cells) (extra:=[]) (by rw [h1];simp) t (0,0) (.inl rfl) _
    (u:=.pointer (some ⟨w.heap.size,0,none⟩)) (w':={ w with heap:=w.heap.push (.cells u.cells t (0,0)) }) (by simp [Instr.box,newVar,newRow]) rfl rfl rfl rfl (fun i m' hm=>by simp only [R];exact ⟨_,hm,rfl⟩)
theorem makeMap_new {t:TypeId} {x:Option Value} (hx:x = none ∨ (∃ kt et kk n,P.underlying t = some (.map kt et) ∧ x = some (.int kk n))):NewOk P (Instr.makeMap t x) m w ⟨fun _=>.map [] 0,fun i=>.mp i⟩:=by
  refine ⟨.map (some w.heap.size),.map #[] 0,⟨w.heap.size,0,0⟩,{ w with heap:=w.heap.push (.map #[] 0) },?_,rfl,rfl,rfl,rfl,rfl,fun _=>trivial,?_,?_,?_⟩
  rotate_left
  · intro i sz els f ro e;simp at e
  · intro i m' hm w' hw';exact ⟨[],hw',by simp [EntsR]⟩
  · intro i m' hm;simp only [R];exact ⟨_,hm,rfl⟩
  rcases hx with rfl | ⟨kt,et,kk,n,hu,rfl⟩
  · simp [Instr.makeMap]
  · simp [Instr.makeMap,run_underlying hu,asInt,asIntOf]
theorem buildSlice_new {n:Nat} {e:Env} {a:Act} (ke:EnvR m n e a) (hg:Gl P m) {t el:TypeId} {len sz:Nat} {z:V} {zc:List V} {ps:Array (Nat × Operand)} (hu:P.underlying t = some (.slice el))
    (hx:(ps.toList.map (·.2)).all (opOk P n) = true) (hs:sizeT P el = some (sz + 1)) (hz:zeroT P el = some z) (hc:cellsQ z = some zc) (hle:len * (sz + 1) ≤ 16777216) (hzl:zc.length = sz + 1) {cs:List V}
    (hb:buildCells (fun i=>some (i * (sz + 1),sz + 1)) ((repN zc len).flatten) ((pairs ps.toList).run e) = some cs) :
    NewOk P (Instr.buildSlice t len (ps.map fun (i,x)=>(i,a.eval x))) m w (newCv el (sz + 1) (chunks (sz + 1) len cs) (fun i=>.sl i 0 len (sz + 1))):=by
  obtain ⟨p1,p2⟩:=pairs_sound ke hg hx
  have hps:(ps.map fun (i,x)=>(i,a.eval x)).toList = ps.toList.map fun x=>(x.1,a.eval x.2):=by simp
  obtain ⟨uz,hzr,rfl,_⟩:=zeroT_run (w:=w) hz
  obtain ⟨zc',h1,h2,h3⟩:=cst_cells (m:=m) hc
  have hzl':uz.cells.size = sz + 1:=by rw [h1];show zc'.length = _;rw [h2.length,hzl]
  obtain ⟨r',hr1,hr2,hr3⟩:=fill_sound _ _ p1 p2 (h2.rep len) (rep_scalar h3 len) hb
  have hzero:((Array.range (len * (sz + 1))).map (uz.cells[· % uz.cells.size]!)) = ⟨(List.replicate len zc').flatten⟩:=by
    apply Array.toList_inj.1
    rw [← hzl',zeros_eq uz.cells len (by omega),h1]
  have hlen:cs.length = len * (sz + 1):=by
    have hl:∀ (ps:List (Nat × V)) (c r:List V),buildCells (fun i=>some (i * (sz + 1),sz + 1)) c ps = some r → r.length = c.length:=by
      intro ps
      induction ps with
      | nil=>intro c r h;have:c = r:=Option.some.inj (by simpa [buildCells] using h);rw [this]
      | cons p ps ih=>
        intro c r h
        obtain ⟨i,x⟩:=p
        unfold buildCells at h
        simp only at h
        cases hq:cellsQ x with
        | none=>rw [hq] at h;cases h
        | some c0=>
          rw [hq] at h
          simp only at h
          cases hb:Nat.beq (lenV1 c0) (sz + 1) with
          | false=>rw [hb] at h;cases h
          | true=>
            rw [hb] at h
            simp only [cond_true] at h
            cases ho:overAt (i * (sz + 1)) c c0 with
            | none=>rw [ho] at h;cases h
            | some c2=>
              rw [ho] at h
              obtain ⟨h5,h6⟩:=overAt_spec _ _ _ ho
              rw [ih _ _ h,h6]
              simp only [List.length_append,List.length_take,List.length_drop];omega
    have:=hl _ _ _ hb
    rw [this,repN_eq]
    have:∀ k,((List.replicate k zc).flatten).length = k * (sz + 1):=by
      intro k;induction k with
      | zero=>simp
      | succ k ih=>rw [List.replicate_succ,List.flatten_cons,List.length_append,ih,hzl,Nat.succ_mul];omega
    exact this len
  obtain ⟨c1,c2,c3⟩:=chunks_spec len cs hlen
  refine newC_obj c2 (us:=r') (by rw [c1];exact hr2) hr3 (C:=⟨r'⟩) (extra:=[]) (by simp) el (0,0) (.inl rfl) _ (u:=.slice (some ⟨w.heap.size,0,none⟩) len len) (w':={ w with heap:=w.heap.push (.cells ⟨r'⟩ el (0,0)) }) ?_ rfl rfl rfl rfl ?_
  · have hno:¬ (len * (sz + 1) > 2 ^ 24):=by omega
    rw [← hps] at hr1
    by_cases h0:len * (sz + 1) = 0
    · have hl0:len = 0:=by
        rcases Nat.mul_eq_zero.1 h0 with h | h
        · exact h
        · omega
      subst hl0
      simp only [Instr.buildSlice,Sem.run_bind,run_und hu,Result.andThen_ok,sizeT_run hs,Sem.run_ite,if_neg hno,if_pos h0,Sem.run_pure]
      have e0:((Array.range (0 * (sz + 1))).map fun x=>(#[]:Array Value)[x % (#[]:Array Value).size]!) = (⟨(List.replicate 0 zc').flatten⟩:Array Value):=by simp
      simp only [e0,hr1,Sem.run_bind,newRow,run_newObj,Result.andThen_ok,Sem.run_pure]
    · simp only [Instr.buildSlice,Sem.run_bind,run_und hu,Result.andThen_ok,sizeT_run hs,Sem.run_ite,if_neg hno,if_neg h0,Sem.run_pure,hzr,hzero,hr1,newRow,run_newObj]
  · intro i m' hm
    simp only [R]
    refine ⟨_,len,hm,by simp,Nat.le_refl _,?_⟩
    show 0 + len * (sz + 1) ≤ r'.length
    rw [hr2.length];omega
theorem makeSlice_new {t el:TypeId} {sz N M:Nat} {k1 k2:IntKind} {z:V} {zc:List V} {inf:TypeInfo} (hu:P.underlying t = some (.slice el)) (hs:sizeT P el = some (sz + 1))
    (hz:zeroT P el = some z) (hc:cellsQ z = some zc) (hi:P.info? el = some inf) (hby:inf.bytes ≤ 1000000) (hzl:zc.length = sz + 1) (hNM:N ≤ M) (hM:M ≤ 100000) :
    NewOk P (Instr.makeSlice t (.int k1 (N:Int)) (.int k2 (M:Int))) m w (newCv el (sz + 1) (repN zc M) (fun i=>.sl i 0 N (sz + 1))):=by
  obtain ⟨uz,hzr,rfl,_⟩:=zeroT_run (w:=w) hz
  obtain ⟨zc',h1,h2,h3⟩:=cst_cells (m:=m) hc
  have hzl':uz.cells.size = sz + 1:=by rw [h1];show zc'.length = _;rw [h2.length,hzl]
  have hzero:((Array.range (M * (sz + 1))).map (uz.cells[· % uz.cells.size]!)) = ⟨(List.replicate M zc').flatten⟩:=by
    apply Array.toList_inj.1
    rw [← hzl',zeros_eq uz.cells M (by omega),h1]
  have heach:∀ e0 ∈ repN zc M,e0.length = sz + 1:=by
    intro e0 he;rw [repN_eq] at he;rw [(List.mem_replicate.1 he).2,hzl]
  have hlen:((List.replicate M zc').flatten).length = M * (sz + 1):=by
    have:∀ k,((List.replicate k zc').flatten).length = k * (sz + 1):=by
      intro k;induction k with
      | zero=>simp
      | succ k ih=>rw [List.replicate_succ,List.flatten_cons,List.length_append,ih,h2.length,hzl,Nat.succ_mul];omega
    exact this M
  refine newC_obj heach (us:=(List.replicate M zc').flatten) (h2.rep M) (rep_scalar h3 M) (C:=⟨(List.replicate M zc').flatten⟩) (extra:=[]) (by simp) el (0,0) (.inl rfl) _ (u:=.slice (some ⟨w.heap.size,0,none⟩) N M) (w':={ w with heap:=w.heap.push (.cells ⟨(List.replicate M zc').flatten⟩ el (0,0)) }) ?_ rfl rfl rfl rfl ?_
  · have hprod:(inf.bytes:Int) * (M:Int) ≤ 281474976710656:=by
      have h9:inf.bytes * M ≤ 1000000 * 100000:=Nat.mul_le_mul hby hM
      have h8:((inf.bytes * M:Nat):Int) ≤ 281474976710656:=by omega
      simpa using h8
    obtain ⟨i2,hi2,hzi⟩:∃ i,P.info? el = some i ∧ i.zero = some uz:=by
      obtain ⟨u2,hu2,_,i,hi',hz'⟩:=zeroT_run (w:=w) hz
      rw [hzr] at hu2;cases hu2;exact ⟨i,hi',hz'⟩
    rw [hi] at hi2;cases hi2
    have hsz:inf.size = sz + 1:=by
      obtain ⟨i3,hi3,h4⟩:=sizeT_info hs
      rw [hi] at hi3;cases hi3;exact h4
    have:=run_make (P:=P) w t el inf uz hu hi hzi k1 k2 (N:Int) (M:Int) (by omega) (by omega) hprod (by omega)
    rw [this,hsz]
    simp only [Int.toNat_natCast,madeCells]
    rw [hzero];rfl
  · intro i m' hm
    simp only [R]
    refine ⟨_,M,hm,by simp,hNM,?_⟩
    show 0 + M * (sz + 1) ≤ ((List.replicate M zc').flatten).length
    omega
theorem strBytes_new {s d el:TypeId} {l c:Nat} {u:Value} (hs:P.underlying s = some .string) (hd:P.underlying d = some (.slice el)) (he:P.underlying el = some (.int .u8)) (hx:R m (.s l c) u) :
    NewOk P (convert s d u) m w (newCv el 1 (byteInts (bytesOf l c)) (fun i=>.sl i 0 l 1)):=by
  rw [R_str] at hx;obtain ⟨b,rfl,hb,hc⟩:=hx
  have hsz:=str_size hb
  rw [← hb]
  obtain ⟨h1,h2,h3⟩:=byteInts_spec (m:=m) b.data.toList
  have hge:=grownCap_ge w b.size 0 el
  have hCs:(Lib.bytesCells w el b).size = grownCap w b.size 0 el:=by
    have:b.data.size = b.size:=rfl
    simp [Lib.bytesCells];omega
  refine newC_obj h2 h3 (by simp [scalar]) (C:=Lib.bytesCells w el b) (extra:=List.replicate (grownCap w b.size 0 el - b.size) (.int .u8 0)) (by simp [Lib.bytesCells]) el
    ((Lib.bytesCells w el b).size,(Lib.bytesCells w el b).size + 1) (.inr ⟨rfl,Nat.le_refl _⟩) _ (Lib.run_convert_string_bytes w s d el b hs hd he) ?_ ?_ ?_ ?_ ?_
  · rw [bytesWorld_eq];rfl
  · rw [bytesWorld_eq];rfl
  · rw [bytesWorld_eq];rfl
  · rw [bytesWorld_eq];rfl
  · intro i m' hm
    simp only [R]
    refine ⟨_,grownCap w b.size 0 el,hm,by simp [hsz],by omega,?_⟩
    show 0 + grownCap w b.size 0 el * 1 ≤ (Lib.bytesCells w el b).size
    omega
theorem newP_sound {n:Nat} {e:Env} {a:Act} (k:EnvR m n e a) (hg:Gl P m) {o:Oper} (hops:o.op.operands.toList.all (opOk P n) = true) {nv:NV}
    (hv:(newP P o.op).run e = some nv):∃ s:Sem Value,execOp a.eval o = (do pure (Next.value (← s)):Sem Next) ∧ NewOk P s m w nv:=by
  obtain ⟨dst,op,type,pos,after,guard⟩:=o
  simp only at hops hv
  have op1:∀ {x:Operand},opOk P n x = true → R m ((opnd x).run e) (a.eval x):=fun hx=>opnd_sound k hg hx
  cases op <;> simp only [newP] at hv <;> (try (cases hv;done))
  case alloc t=>
    split at hv
    · rename_i z hz
      split at hv
      · rename_i c hc
        cases hv
        exact ⟨_,rfl,alloc_new hz hc⟩
      · cases hv
    · cases hv
  case box t x=>
    have hX:=op1 (show opOk P n x = true by simpa [Op.operands] using hops)
    cases hc:cellsQ ((opnd x).run e) with
    | none=>simp only [hc] at hv;cases hv
    | some c=>
      simp only [hc] at hv
      cases hv
      exact ⟨_,rfl,box_new hX hc⟩
  case makeMap t r=>
    cases r with
    | none=>cases hv;exact ⟨_,rfl,makeMap_new (.inl rfl)⟩
    | some x=>
      have hX:=op1 (show opOk P n x = true by simpa [Op.operands] using hops)
      simp only at hv
      split at hv
      · rename_i kt et hu
        simp only at hv
        split at hv
        · rename_i kk nn e1
          cases hv
          rw [e1] at hX
          simp only [R] at hX
          exact ⟨_,rfl,makeMap_new (.inr ⟨kt,et,kk,nn,hu,by rw [Option.map_some,hX]⟩)⟩
        · cases hv
      · cases hv
  case convert s d x=>
    have hX:=op1 (show opOk P n x = true by simpa [Op.operands] using hops)
    split at hv
    · rename_i el hs hd
      split at hv
      · rename_i he
        simp only at hv
        split at hv
        · rename_i l c e1
          cases hv
          rw [e1] at hX
          exact ⟨_,rfl,strBytes_new hs hd he hX⟩
        · cases hv
      · cases hv
    · cases hv
  case buildSlice t len ps=>
    split at hv
    · rename_i el hu
      split at hv
      · rename_i sz z hs hz
        split at hv
        · rename_i zc hc
          cases hcd:(Nat.ble (len * (sz + 1)) 16777216 && Nat.beq (lenV1 zc) (sz + 1)) with
          | false=>rw [hcd] at hv;cases hv
          | true=>
            rw [hcd] at hv
            simp only [cond_true] at hv
            simp only [Bool.and_eq_true] at hcd
            split at hv
            · rename_i cs hb
              cases hv
              exact ⟨_,rfl,buildSlice_new k hg hu (by simpa [Op.operands] using hops) hs hz hc (Nat.le_of_ble_eq_true hcd.1) (by rw [← lenV1_eq];exact Nat.eq_of_beq_eq_true hcd.2) hb⟩
            · cases hv
        · cases hv
      · cases hv
    · cases hv
  case makeSlice t lx cx=>
    simp [Op.operands] at hops
    have hL:=op1 hops.1
    have hC:=op1 hops.2
    split at hv
    · rename_i el hu
      split at hv
      · rename_i sz z hs hz
        split at hv
        · rename_i zc inf hc hi
          cases hcd:(Nat.ble inf.bytes 1000000 && Nat.beq (lenV1 zc) (sz + 1)) with
          | false=>rw [hcd] at hv;cases hv
          | true=>
            rw [hcd] at hv
            simp only [cond_true] at hv
            simp only [Bool.and_eq_true] at hcd
            split at hv
            · rename_i k1 N k2 M e1 e2
              rw [e1] at hL;rw [e2] at hC
              simp only [R] at hL hC
              cases hcd2:(Nat.ble N M && Nat.ble M 100000) with
              | false=>rw [hcd2] at hv;cases hv
              | true=>
                rw [hcd2] at hv
                simp only [cond_true] at hv
                simp only [Bool.and_eq_true] at hcd2
                cases hv
                refine ⟨Instr.makeSlice t (.int k1 (N:Int)) (.int k2 (M:Int)),by simp only [execOp,hL,hC];rfl,makeSlice_new (k1:=k1) (k2:=k2) hu hs hz hc hi (Nat.le_of_ble_eq_true hcd.1) (by rw [← lenV1_eq];exact Nat.eq_of_beq_eq_true hcd.2) (Nat.le_of_ble_eq_true hcd2.1) (Nat.le_of_ble_eq_true hcd2.2)⟩
            · cases hv
        · cases hv
      · cases hv
    · cases hv
end Go.Ev
end
section
namespace Go.Ev
open Go
variable {P:Program} {m:Mp} {w:World}
theorem nthO_eq:∀ (l:List Oper) (i:Nat),nthO l i = l[i]?
  | [],_=>by simp [nthO]
  | a :: _,0=>by simp [nthO]
  | _ :: l,i + 1=>by simp [nthO,nthO_eq l i]
def operOk (P:Program) (n:Nat) (o:Oper):Bool:=o.op.operands.toList.all (opOk P n) && dstOk n o.dst
def regOk (P:Program) (n:Nat) (ops:Array Oper):Bool:=ops.toList.all (operOk P n)
theorem regOk_get {n:Nat} {ops:Array Oper} (h:regOk P n ops = true) {i:Nat} {o:Oper} (ho:ops[i]? = some o):o.op.operands.toList.all (opOk P n) = true ∧ dstOk n o.dst = true:=by
  have hm:o ∈ ops.toList:=by
    rw [← Array.getElem?_toList] at ho;exact List.mem_of_getElem? ho
  have:=(List.all_eq_true.1 h) o hm
  simpa [operOk] using this
theorem dst_lt {n:Nat} {d:Option Nat} (h:dstOk n d = true) {x:Nat} (hx:d = some x):x < n:=by
  subst hx;exact Nat.le_of_ble_eq_true h
theorem yielded_of {ops:Array Oper} {j g:Nat} {a:Act} (hg:(ops[j]?).bind (·.dst) = some g) (hlt:g < a.tmps.size) :
    yielded ops a.tmps j = match a.tmps.getD g undef with | .bool b=>some b | _=>none:=by
  simp only [yielded,hg,Array.getD_eq_getD_getElem?,hlt,getElem?_pos,Option.bind_some,Option.getD_some]
  cases a.tmps[g] <;> rfl
theorem skip_env {n:Nat} {e:Env} {a:Act} (k:EnvR m n e a) {d:Option Nat} (hd:dstOk n d = true):EnvR m n (skipE d e) (a.put d undef):=by
  cases d with
  | none=>exact k
  | some d=>exact k.set (dst_lt hd rfl) (show R m undefV undef by simp [R,Rl,undefV,undef])
theorem guard_spec {n:Nat} {e:Env} {a:Act} {ops:Array Oper} {g:Nat} (hreg:regOk P n ops = true) {j:Nat} (hj:(ops[j]?).bind (·.dst) = some g) (hs:a.tmps.size = n) (hR:R m (eget g e) (a.tmps.getD g undef)) (want:Bool) :
    (∀ b,eget g e = .b b → (yielded ops a.tmps j == some want) = (b == want)) ∧ (eget g e = .tup [] → (yielded ops a.tmps j == some want) = false):=by
  have hlt:g < n:=by
    cases ho:ops[j]? with
    | none=>rw [ho] at hj;cases hj
    | some oj=>rw [ho] at hj;exact dst_lt (regOk_get hreg ho).2 (by simpa using hj)
  rw [yielded_of hj (by omega)]
  constructor
  · intro b hb
    rw [hb] at hR;simp only [R] at hR;rw [hR]
    cases b <;> cases want <;> rfl
  · intro hb
    rw [hb] at hR;simp only [R,Rl] at hR
    obtain ⟨l,h1,rfl⟩:=hR
    rw [h1];rfl
theorem operC_sound {n:Nat} {e e':Env} {a:Act} {call:CallT} (hcall:CallOK P call) (k:EnvR m n e a) (hg:Gl P m) {h h':H} (hr:HR m h w) {ops:Array Oper} (hreg:regOk P n ops = true) {i:Nat} {o:Oper} (hi:ops[i]? = some o)
    (hv:(operC P ops.toList o).run call e h = .ok e' h') {K:Act → World → Prop} {Q:Exit → Act → World → Prop}
    (hn:∀ m' a' w',Fr m h w m' h' w' → EnvR m' n e' a' → K a' w'):wpOp P ops Q i K a w:=by
  obtain ⟨hops,hd⟩:=regOk_get hreg hi
  unfold wpOp
  simp only [hi]
  unfold operC at hv
  cases hgd:o.guard with
  | none=>
    rw [hgd] at hv
    simp only at hv
    rw [if_pos (by simp [Region.wanted,hgd])]
    exact .inl (bareC_sound hcall k hg hr hops hd hv hn)
  | some jw=>
    obtain ⟨j,want⟩:=jw
    rw [hgd] at hv
    simp only [nthO_eq,Array.getElem?_toList] at hv
    cases hj:(ops[j]?).bind (·.dst) with
    | none=>
      rw [hj] at hv
      simp only at hv
      cases hv
      have:Region.wanted o (yielded ops a.tmps) = false:=by simp [Region.wanted,hgd,yielded,hj]
      rw [if_neg (by simp [this])]
      exact hn m _ w (Fr.refl hr) (skip_env k hd)
    | some g=>
      rw [hj] at hv
      simp only at hv
      have hlt:g < n:=by
        cases ho:ops[j]? with
        | none=>rw [ho] at hj;cases hj
        | some oj=>rw [ho] at hj;exact dst_lt (regOk_get hreg ho).2 (by simpa using hj)
      obtain ⟨g1,g2⟩:=guard_spec hreg hj k.size (k.val g hlt) want
      have hwd:Region.wanted o (yielded ops a.tmps) = (yielded ops a.tmps j == some want):=by simp [Region.wanted,hgd]
      rcases as_b_R_of hv with ⟨b,hb,hv⟩ | ⟨hb,hv⟩
      · have:=g1 b hb
        rcases iteR_of hv with ⟨hbw,hv⟩ | ⟨hbw,hv⟩
        · rw [if_pos (by rw [hwd,this,hbw])]
          exact .inl (bareC_sound hcall k hg hr hops hd hv hn)
        · rw [if_neg (by rw [hwd,this,hbw];simp)]
          cases hv
          exact hn m _ w (Fr.refl hr) (skip_env k hd)
      · unfold isUndef at hv
        split at hv
        · rename_i hu
          cases hv
          rw [if_neg (by rw [hwd,g2 hu];simp)]
          exact hn m _ w (Fr.refl hr) (skip_env k hd)
        · cases hv
theorem seqC_sound {n:Nat} {call:CallT} (hcall:CallOK P call) {ops:Array Oper} (hreg:regOk P n ops = true) {Q:Exit → Act → World → Prop} :
    ∀ (l:List Oper) (i:Nat) (m:Mp) (e e':Env) (a:Act) (h h':H) (w:World),ops.toList.drop i = l → EnvR m n e a → Gl P m → HR m h w → (seqC P ops.toList l).run call e h = .ok e' h' →
      (∀ m' a' w',Fr m h w m' h' w' → EnvR m' n e' a' → Q .normal a' w') → wpOps P ops Q (List.range' i l.length) a w
  | [],i,m,e,e',a,h,h',w,hl,k,hg,hr,hv,hn=>by
    simp only [seqC] at hv
    cases hv
    exact hn m a w (Fr.refl hr) k
  | o :: l,i,m,e,e',a,h,h',w,hl,k,hg,hr,hv,hn=>by
    have hi:ops[i]? = some o:=by
      have:(ops.toList.drop i)[0]? = some o:=by rw [hl];rfl
      rw [List.getElem?_drop] at this
      simpa using this
    have hl':ops.toList.drop (i + 1) = l:=by
      have:(ops.toList.drop i).drop 1 = l:=by rw [hl];rfl
      rw [List.drop_drop] at this;exact this
    simp only [List.length_cons,List.range'_succ]
    rw [wpOps_cons]
    simp only [seqC] at hv
    cases h1:(operC P ops.toList o).run call e h with
    | bad=>rw [h1] at hv;cases hv
    | ok e1 h1'=>
      rw [h1] at hv
      refine operC_sound hcall k hg hr hreg hi h1 ?_
      intro m1 a1 w1 hF1 hE1
      exact seqC_sound hcall hreg l (i + 1) m1 e1 e' a1 h1' h' w1 hl' hE1 (hg.mono hF1.le) hF1.hr hv (fun m2 a2 w2 hF2 hE2=>hn m2 a2 w2 (hF1.trans hF2) hE2)
theorem region_sound {n:Nat} {call:CallT} (hcall:CallOK P call) {ops:Array Oper} (hreg:regOk P n ops = true) {Q:Exit → Act → World → Prop} {e e':Env} {a:Act} {h h':H} {id:Nat}
    (k:EnvR m n e a) (hg:Gl P m) (hr:HR m h w) (hv:(seqC P ops.toList ops.toList).run call e h = .ok e' h')
    (hn:∀ m' a' w',Fr m h w m' h' w' → EnvR m' n e' a' → Q .normal a' w'):(Code.region id ops false).wp P Q a w:=by
  refine wp_region ?_
  have:=seqC_sound hcall hreg ops.toList 0 m e e' a h h' w (by simp) k hg hr hv hn
  rw [List.range_eq_range']
  simpa using this
end Go.Ev
end
section
namespace Go.Ev
open Go
variable {P:Program} {m:Mp} {w:World}
mutual
theorem beq_eq:∀ {x y:V},V.beq x y = true → x = y
  | .top,y,h=>by cases y <;> simp only [V.beq,Bool.false_eq_true] at h;rfl
  | .b x,y,h=>by
    cases y <;> simp only [V.beq,Bool.false_eq_true] at h
    simp at h;rw [h]
  | .i k n,y,h=>by
    cases y <;> simp only [V.beq,Bool.false_eq_true] at h
    rename_i k' n'
    simp only [Bool.and_eq_true] at h
    obtain ⟨h1,h2⟩:=h
    have hk:k = k':=by cases k <;> cases k' <;> first | rfl | (simp at h1)
    subst hk
    cases n <;> cases n' <;> simp only [Bool.false_eq_true] at h2
    · rw [Nat.eq_of_beq_eq_true h2]
    · rw [Nat.eq_of_beq_eq_true h2]
  | .s l c,y,h=>by
    cases y <;> simp only [V.beq,Bool.false_eq_true] at h
    simp only [sEq,Bool.and_eq_true] at h
    rw [Nat.eq_of_beq_eq_true h.1,Nat.eq_of_beq_eq_true h.2]
  | .pn,y,h=>by cases y <;> simp only [V.beq,Bool.false_eq_true] at h;rfl
  | .p b o,y,h=>by
    cases y <;> simp only [V.beq,Bool.false_eq_true] at h
    simp only [Bool.and_eq_true] at h
    rw [Id.beq_iff.1 h.1,Nat.eq_of_beq_eq_true h.2]
  | .sn,y,h=>by cases y <;> simp only [V.beq,Bool.false_eq_true] at h;rfl
  | .sl b o l z,y,h=>by
    cases y <;> simp only [V.beq,Bool.false_eq_true] at h
    simp only [Bool.and_eq_true] at h
    rw [Id.beq_iff.1 h.1,Nat.eq_of_beq_eq_true h.2.1,Nat.eq_of_beq_eq_true h.2.2.1,Nat.eq_of_beq_eq_true h.2.2.2]
  | .se,y,h=>by cases y <;> simp only [V.beq,Bool.false_eq_true] at h;rfl
  | .mn,y,h=>by cases y <;> simp only [V.beq,Bool.false_eq_true] at h;rfl
  | .mp b,y,h=>by
    cases y <;> simp only [V.beq,Bool.false_eq_true] at h
    rw [Id.beq_iff.1 h]
  | .fn f a b,y,h=>by
    cases y with
    | fn f' a' b'=>
      cases f with
      | func n=>
        cases f' with
        | func n'=>
          simp only [V.beq,Bool.and_eq_true] at h
          rw [Nat.eq_of_beq_eq_true h.1,beqs_eq h.2.1,beqs_eq h.2.2]
        | _=>simp [V.beq] at h
      | _=>simp [V.beq] at h
    | _=>simp [V.beq] at h
  | .nf,y,h=>by cases y <;> simp only [V.beq,Bool.false_eq_true] at h;rfl
  | .ifc t v,y,h=>by
    cases y <;> simp only [V.beq,Bool.false_eq_true] at h
    simp only [Bool.and_eq_true] at h
    rw [Nat.eq_of_beq_eq_true h.1,beq_eq h.2]
  | .ni,y,h=>by cases y <;> simp only [V.beq,Bool.false_eq_true] at h;rfl
  | .agg l,y,h=>by
    cases y <;> simp only [V.beq,Bool.false_eq_true] at h
    rw [beqs_eq h]
  | .tup l,y,h=>by
    cases y <;> simp only [V.beq,Bool.false_eq_true] at h
    rw [beqs_eq h]
theorem beqs_eq:∀ {l r:List V},beqs l r = true → l = r
  | [],r,h=>by cases r <;> simp only [beqs,Bool.false_eq_true] at h;rfl
  | a :: l,r,h=>by
    cases r with
    | nil=>simp [beqs] at h
    | cons b r=>
      simp only [beqs,Bool.and_eq_true] at h
      rw [beq_eq h.1,beqs_eq h.2]
end
theorem HR.sub {h:H} (k:HR m h w) {mem':Mem} {nx:Id} (hs:∀ x ox,mget x mem' = some ox → mget x h.mem = some ox) (hn:h.next.toNat ≤ nx.toNat):HR m ⟨mem',h.fams,nx⟩ w where
  obj:=fun b ob hb=>k.obj b ob (hs _ _ hb)
  dom:=fun b l hb=>Nat.lt_of_lt_of_le (k.dom b l hb) hn
  sep:=fun b b' ob ob' l l' h1 h2=>k.sep b b' ob ob' l l' (hs _ _ h1) (hs _ _ h2)
  fam:=fun b b' sz els f ro sz' els' ro' h1 h2=>k.fam b b' sz els f ro sz' els' ro' (hs _ _ h1) (hs _ _ h2)
  ord:=fun f=>(k.ord f).imp (fun hxy=>fun sz els f ro sz' els' f' ro' l l' h1 h2=>hxy sz els f ro sz' els' f' ro' l l' (hs _ _ h1) (hs _ _ h2))
  lt:=k.lt
  famlt:=fun b sz els f ro hb=>Nat.lt_of_lt_of_le (k.famlt b sz els f ro (hs _ _ hb)) hn
  flt:=fun f x hx=>Nat.lt_of_lt_of_le (k.flt f x hx) hn
theorem Fr.bump {m0:Mp} {h0 h:H} {w0:World} (k:Fr m0 h0 w0 m h w) {nx:Id} (hn:h.next.toNat ≤ nx.toNat):Fr m0 h0 w0 m ⟨h.mem,h.fams,nx⟩ w:=
  ⟨k.le,k.hr.sub (fun _ _ h=>h) hn,k.size,k.keep,k.os,k.tape,k.output,k.back,k.old,Nat.le_trans k.nxt hn,k.famold⟩
def Priv (h:H) (x:Id):Prop:=∀ y ox oy,y ≠ x → mget x h.mem = some ox → mget y h.mem = some oy → ¬ sameFam oy ox
theorem sameFam_symm {x y:O} (h:sameFam x y):sameFam y x:=by
  cases x <;> cases y <;> first | exact h.elim | exact Eq.symm h
theorem Priv.sep {h:H} {x y:Id} {ox oy:O} {lx ly:Loc} (k:HR m h w) (hp:Priv h x) (hx:mget x h.mem = some ox) (hy:mget y h.mem = some oy) (hlx:m x = some lx) (hly:m y = some ly) (hne:y ≠ x):lx.blk ≠ ly.blk:=
  fun e=>hp y ox oy hne hx hy (k.sep y x oy ox ly lx hy hx hly hlx hne e.symm)
theorem Fr.addNew {m0:Mp} {h0 h:H} {w0:World} (k:Fr m0 h0 w0 m h w) {i:Id} (hi:m i = none) (hge:h0.next.toNat ≤ i.toNat) (hlt:i.toNat < h.next.toNat) {o:Obj} {ob:O} {l:Loc} (hl:l.blk = w.heap.size)
    (hf:∀ sz els f ro,ob = .cells sz els f ro → f = i) (hfo:∀ b sz els f ro,mget b h.mem = some (.cells sz els f ro) → f ≠ i) {w':World} (hw:w'.heap = w.heap.push o) (h1:w'.os = w.os) (h2:w'.tape = w.tape) (h3:w'.output = w.output)
    (hob:∀ m':Mp,m.le m' → ∀ w2:World,w2.heap[w.heap.size]? = some o → ObjAt m' w2 l ob) {mem':Mem} (hm1:mget i mem' = some ob) (hm2:∀ b,b ≠ i → mget b mem' = mget b h.mem) :
    Fr m0 h0 w0 (fun b=>if b = i then some l else m b) ⟨mem',h.fams,h.next⟩ w' ∧ m.le (fun b=>if b = i then some l else m b):=by
  have kr:=k.hr
  have hle:m.le (fun b=>if b = i then some l else m b):=by
    intro b l' hb
    have:b ≠ i:=fun e=>by rw [e,hi] at hb;cases hb
    simp [this,hb]
  have hmem:∀ b ob',mget b mem' = some ob' → (b = i ∧ ob' = ob) ∨ (b ≠ i ∧ mget b h.mem = some ob'):=by
    intro b ob' hb
    by_cases e:b = i
    · subst e;rw [hm1] at hb;exact .inl ⟨rfl,(Option.some.inj hb).symm⟩
    · rw [hm2 b e] at hb;exact .inr ⟨e,hb⟩
  have hsz:w'.heap.size = w.heap.size + 1:=by rw [hw];simp
  have hold:∀ B,B < w.heap.size → w'.heap[B]? = w.heap[B]?:=fun B hB=>by rw [hw];simp [Array.getElem?_push,Nat.ne_of_lt hB]
  refine ⟨⟨Mp.le_trans k.le hle,⟨?_,?_,?_,?_,?_,?_,?_,kr.flt⟩,by have:=k.size;omega,?_,h1.trans k.os,h2.trans k.tape,h3.trans k.output,?_,?_,k.nxt,?_⟩,hle⟩
  · intro b ob' hb
    rcases hmem b ob' hb with ⟨rfl,rfl⟩ | ⟨hne,hb⟩
    · exact ⟨l,by simp,hob _ hle _ (by rw [hw];simp)⟩
    · obtain ⟨l',hl',ho⟩:=kr.obj b ob' hb
      exact ⟨l',by simp [hne,hl'],ho.keep hle (hold _ (kr.lt _ _ hl'))⟩
  · intro b l' hb
    by_cases e:b = i
    · subst e;exact hlt
    · simp [e] at hb;exact kr.dom _ _ hb
  · intro b b' ob1 ob2 l1 l2 hb hb' hl1 hl2 hne heq
    rcases hmem b ob1 hb with ⟨rfl,rfl⟩ | ⟨hn1,hb1⟩ <;> rcases hmem b' ob2 hb' with ⟨rfl,rfl⟩ | ⟨hn2,hb2⟩
    · exact absurd rfl hne
    · simp at hl1;simp [hn2] at hl2;have:=kr.lt _ _ hl2;subst hl1;omega
    · simp at hl2;simp [hn1] at hl1;have:=kr.lt _ _ hl1;subst hl2;omega
    · simp [hn1] at hl1;simp [hn2] at hl2
      exact kr.sep b b' ob1 ob2 l1 l2 hb1 hb2 hl1 hl2 hne heq
  · intro b b' sz els f ro sz' els' ro' hb hb' hne
    rcases hmem b _ hb with ⟨rfl,e1⟩ | ⟨hn1,hb1⟩ <;> rcases hmem b' _ hb' with ⟨rfl,e2⟩ | ⟨hn2,hb2⟩
    · exact absurd rfl hne
    · exact absurd (hf _ _ _ _ e1.symm) (hfo _ _ _ _ _ hb2)
    · exact absurd (hf _ _ _ _ e2.symm) (hfo _ _ _ _ _ hb1)
    · exact kr.fam b b' _ _ _ _ _ _ _ hb1 hb2 hne
  · intro f
    refine (kr.ord f).imp ?_
    intro x y hxy sz els f1 ro sz' els' f2 ro' l1 l2 hx hy hl1 hl2 heq
    rcases hmem x _ hx with ⟨rfl,e1⟩ | ⟨hn1,hb1⟩ <;> rcases hmem y _ hy with ⟨rfl,e2⟩ | ⟨hn2,hb2⟩
    · rw [hl1] at hl2;cases hl2;rw [← e1] at e2;cases e2;exact Nat.le_refl _
    · simp at hl1;simp [hn2] at hl2;have:=kr.lt _ _ hl2;subst hl1;omega
    · simp at hl2;simp [hn1] at hl1;have:=kr.lt _ _ hl1;subst hl2;omega
    · simp [hn1] at hl1;simp [hn2] at hl2
      exact hxy _ _ _ _ _ _ _ _ _ _ hb1 hb2 hl1 hl2 heq
  · intro b l' hb
    by_cases e:b = i
    · subst e;simp at hb;subst hb;omega
    · simp [e] at hb;have:=kr.lt _ _ hb;omega
  · intro b sz els f ro hb
    rcases hmem b _ hb with ⟨rfl,e1⟩ | ⟨hn1,hb1⟩
    · have:=hf _ _ _ _ e1.symm;subst this;exact hlt
    · exact kr.famlt _ _ _ _ _ hb1
  · intro B hB hn
    rw [hold B (Nat.lt_of_lt_of_le hB k.size)];exact k.keep B hB hn
  · intro b ob' l' hb hl'
    rcases hmem b ob' hb with ⟨rfl,rfl⟩ | ⟨hne,hb⟩
    · simp at hl';subst hl';have:=k.size;exact .inl (by omega)
    · simp [hne] at hl';exact k.back b ob' l' hb hl'
  · intro b l' hb hlt'
    have:b ≠ i:=fun e=>by subst e;omega
    simp [this] at hb;exact k.old b l' hb hlt'
  · intro b sz els f ro hb
    rcases hmem b _ hb with ⟨rfl,e1⟩ | ⟨hn1,hb1⟩
    · have:=hf _ _ _ _ e1.symm;subst this;exact .inl hge
    · exact k.famold _ _ _ _ _ hb1
theorem Fr.merge {m':Mp} {w':World} {H1:H} (k:HR m H1 w) {memb:Mem} (hs:∀ x ox,mget x memb = some ox → mget x H1.mem = some ox)
    {X:Id → Prop} (hX1:∀ x ox,mget x H1.mem = some ox → X x ∨ mget x memb = some ox) (hX2:∀ x,X x → mget x memb = none ∧ ∃ ox,mget x H1.mem = some ox) (hXp:∀ x,X x → Priv H1 x)
    {h':H} (kf:Fr m ⟨memb,H1.fams,H1.next⟩ w m' h' w') {mem2:Mem} (h2:∀ x ox,mget x mem2 = some ox ↔ (¬ X x ∧ mget x h'.mem = some ox) ∨ (X x ∧ mget x H1.mem = some ox)) :
    Fr m H1 w m' ⟨mem2,h'.fams,h'.next⟩ w':=by
  have kr:=kf.hr
  have hm:∀ x ox,X x → mget x H1.mem = some ox → ∃ l,m x = some l ∧ m' x = some l ∧ ObjAt m w l ox:=by
    intro x ox hx ho
    obtain ⟨l,hl,hob⟩:=k.obj x ox ho
    exact ⟨l,hl,kf.le _ _ hl,hob⟩
  have hpart:∀ x ox lx y oy ly,X x → mget x H1.mem = some ox → m x = some lx → mget y memb = some oy → m y = some ly → lx.blk ≠ ly.blk:=by
    intro x ox lx y oy ly hx ho hlx hy hly
    have hne:y ≠ x:=fun e=>by subst e;rw [(hX2 y hx).1] at hy;cases hy
    exact (hXp x hx).sep k ho (hs _ _ hy) hlx hly hne
  have hnew:∀ x ox lx y oy ly,X x → mget x H1.mem = some ox → m x = some lx → mget y h'.mem = some oy → m' y = some ly → lx.blk ≠ ly.blk:=by
    intro x ox lx y oy ly hx ho hlx hy hly e
    rcases kf.back y oy ly hy hly with h1 | ⟨b0,ob0,l0,h0,hl0,he,_⟩
    · have:=k.lt _ _ hlx;omega
    · exact hpart x ox lx b0 ob0 l0 hx ho hlx h0 hl0 (by rw [he,e])
  have hX3:∀ x,X x → ∃ ox,mget x H1.mem = some ox:=fun x hx=>(hX2 x hx).2
  have hkeep:∀ x ox lx,X x → mget x H1.mem = some ox → m x = some lx → w'.heap[lx.blk]? = w.heap[lx.blk]?:=by
    intro x ox lx hx ho hlx
    refine kf.keep _ (k.lt _ _ hlx) ?_
    rintro ⟨b0,ob0,l0,h0,hl0,he,_⟩
    exact hpart x ox lx b0 ob0 l0 hx ho hlx h0 hl0 he.symm
  have hXX:∀ x ox lx y oy ly,X x → mget x H1.mem = some ox → m x = some lx → X y → mget y H1.mem = some oy → m y = some ly → y ≠ x → lx.blk ≠ ly.blk:=
    fun x ox lx y oy ly hx ho hlx hy hyo hly hne=>(hXp x hx).sep k ho hyo hlx hly hne
  have hmm:∀ x l,m' x = some l → X x → m x = some l:=fun x l hl hx=>by
    obtain ⟨ox,ho⟩:=hX3 x hx
    obtain ⟨l1,a1,a2,_⟩:=hm x ox hx ho
    rw [a2] at hl;cases hl;exact a1
  refine ⟨kf.le,⟨?_,kr.dom,?_,?_,?_,kr.lt,?_,kr.flt⟩,kf.size,?_,kf.os,kf.tape,kf.output,?_,kf.old,kf.nxt,?_⟩
  · intro x ox hx
    rcases (h2 x ox).1 hx with ⟨_,hx⟩ | ⟨hX,hx⟩
    · exact kr.obj x ox hx
    · obtain ⟨l,hl,hl',hob⟩:=hm x ox hX hx
      exact ⟨l,hl',hob.keep kf.le (hkeep x ox l hX hx hl)⟩
  · intro x y ox oy lx ly hx hy hlx hly hne heq
    rcases (h2 x ox).1 hx with ⟨_,hx⟩ | ⟨hX,hx⟩ <;> rcases (h2 y oy).1 hy with ⟨_,hy⟩ | ⟨hY,hy⟩
    · exact kr.sep x y ox oy lx ly hx hy hlx hly hne heq
    · exact absurd heq.symm (hnew y oy ly x ox lx hY hy (hmm _ _ hly hY) hx hlx)
    · exact absurd heq (hnew x ox lx y oy ly hX hx (hmm _ _ hlx hX) hy hly)
    · exact absurd heq (hXX x ox lx y oy ly hX hx (hmm _ _ hlx hX) hY hy (hmm _ _ hly hY) (Ne.symm hne))
  · intro x y sz els f ro sz' els' ro' hx hy hne
    have famX:∀ x sz els f ro y sz' els' ro',X x → mget x H1.mem = some (.cells sz els f ro) → ¬ X y → mget y h'.mem = some (.cells sz' els' f ro') → False:=by
      intro x sz els f ro y sz' els' ro' hX hx hY hy
      rcases kf.famold _ _ _ _ _ hy with h1 | ⟨b0,sz0,els0,ro0,h0⟩
      · have:=k.famlt _ _ _ _ _ hx
        have h1':H1.next.toNat ≤ f.toNat:=h1
        omega
      · have h0':mget b0 memb = some (.cells sz0 els0 f ro0):=h0
        have hne:b0 ≠ x:=fun e=>by subst e;rw [(hX2 b0 hX).1] at h0';cases h0'
        exact hXp x hX b0 _ _ hne hx (hs _ _ h0') rfl
    rcases (h2 x _).1 hx with ⟨hX,hx⟩ | ⟨hX,hx⟩ <;> rcases (h2 y _).1 hy with ⟨hY,hy⟩ | ⟨hY,hy⟩
    · exact kr.fam x y _ _ _ _ _ _ _ hx hy hne
    · exact (famX y _ _ _ _ x _ _ _ hY hy hX hx).elim
    · exact (famX x _ _ _ _ y _ _ _ hX hx hY hy).elim
    · exact (hXp x hX y _ _ (Ne.symm hne) hx hy rfl).elim
  · intro f
    refine (kr.ord f).imp ?_
    intro x y hxy sz els f1 ro sz' els' f2 ro' lx ly hx hy hlx hly heq
    rcases (h2 x _).1 hx with ⟨hX,hx⟩ | ⟨hX,hx⟩ <;> rcases (h2 y _).1 hy with ⟨hY,hy⟩ | ⟨hY,hy⟩
    · exact hxy _ _ _ _ _ _ _ _ _ _ hx hy hlx hly heq
    · exact absurd heq.symm (hnew y _ ly x _ lx hY hy (hmm _ _ hly hY) hx hlx)
    · exact absurd heq (hnew x _ lx y _ ly hX hx (hmm _ _ hlx hX) hy hly)
    · by_cases e:y = x
      · subst e;rw [hx] at hy;cases hy;rw [hlx] at hly;cases hly;exact Nat.le_refl _
      · exact absurd heq (hXX x _ lx y _ ly hX hx (hmm _ _ hlx hX) hY hy (hmm _ _ hly hY) e)
  · intro x sz els f ro hx
    rcases (h2 x _).1 hx with ⟨_,hx⟩ | ⟨hX,hx⟩
    · exact kr.famlt _ _ _ _ _ hx
    · exact Nat.lt_of_lt_of_le (k.famlt _ _ _ _ _ hx) kf.nxt
  · intro B hB hn
    refine kf.keep B hB ?_
    rintro ⟨b0,ob0,l0,h0,hl0,he,hw0⟩
    exact hn ⟨b0,ob0,l0,hs _ _ h0,hl0,he,hw0⟩
  · intro x ox lx hx hlx
    rcases (h2 x ox).1 hx with ⟨_,hx⟩ | ⟨hX,hx⟩
    · rcases kf.back x ox lx hx hlx with h1 | ⟨b0,ob0,l0,h0,hl0,he,hw0⟩
      · exact .inl h1
      · exact .inr ⟨b0,ob0,l0,hs _ _ h0,hl0,he,hw0⟩
    · exact .inr ⟨x,ox,lx,hx,hmm _ _ hlx hX,rfl,id⟩
  · intro x sz els f ro hx
    rcases (h2 x _).1 hx with ⟨_,hx⟩ | ⟨hX,hx⟩
    · rcases kf.famold _ _ _ _ _ hx with h1 | ⟨b0,sz0,els0,ro0,h0⟩
      · exact .inl h1
      · exact .inr ⟨b0,sz0,els0,ro0,hs _ _ h0⟩
    · exact .inr ⟨x,sz,els,ro,hx⟩
end Go.Ev
end
