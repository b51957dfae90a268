/-
  A part of the proof of the card of WorkGeneralizationIsLeast (second form): lemmas that the text Card uses. No condition of its own.
-/
import Derived.Test.YtaloeffmigffaaaGreatDoorEv01
import Derived.Laws.StructEq
import Derived.Laws.Entries
set_option linter.all false
set_option linter.unusedVariables false
set_option linter.unusedSimpArgs false
section
namespace Go.Ev
open Go
variable {P:Program} {m:Mp} {w:World}
theorem partE_eq (agg:Bool) (n off:Nat) (l:List V):partE agg n (dropV off l) = partV agg off n l:=by
  unfold partE partV
  rw [dropV_eq,nthV_eq,nthV_eq,List.getElem?_drop,Nat.add_zero]
  cases agg with
  | true=>
    show _ = aggO _
    unfold aggO
    cases takeV n (l.drop off) <;> rfl
  | false=>rfl
theorem famOf_some {h:H} {b f:Id} (hf:famOf h b = some f):∃ sz els ty,mget b h.mem = some (.cells sz els f (.rw ty)) ∧ sz ≠ 1:=by
  unfold famOf at hf
  split at hf
  · rename_i sz els f' ty hb
    cases e:Nat.beq sz 1 with
    | true=>rw [e] at hf;cases hf
    | false=>
      rw [e] at hf;cases hf
      exact ⟨sz,els,ty,hb,fun h1=>by subst h1;simp at e⟩
  · cases hf
theorem sameAddr_apart {a b:Addr} {C C':Array Value} {t t':TypeId} {fz fz':Nat × Nat} (hne:a.block ≠ b.block)
    (ha:w.heap[a.block]? = some (.cells C t fz)) (hb:w.heap[b.block]? = some (.cells C' t' fz')) (hz:fz.1 = fz.2) (hz':fz'.1 = fz'.2) :
    (sameAddr a b).run P w = .ok false w:=by
  have fa:∀ o,w.frozen? ⟨a.block,o,none⟩ = false:=by intro o;simp [World.frozen?,ha,hz]
  have fb:∀ o,w.frozen? ⟨b.block,o,none⟩ = false:=by intro o;simp [World.frozen?,hb,hz']
  have fa':w.frozen? a = false:=by simp [World.frozen?,ha,hz]
  have fb':w.frozen? b = false:=by simp [World.frozen?,hb,hz']
  have sa:w.shape? a.block = some (t,C.size):=by simp [World.shape?,ha]
  have sb:w.shape? b.block = some (t',C'.size):=by simp [World.shape?,hb]
  have hne':(a.block == b.block) = false:=by simpa using hne
  simp [sameAddr,hne',fa',noView,viewAt,sa,sb,mayBeOne,stringish,fa,fb,fb']
theorem eqFs_sound {h:H} (k:HR m h w) {q:TypeId → EqT} {D:Nat}
    (hq:∀ t x y ux uy r,R m x ux → R m y uy → (q t).run h x y = some r → (Op.equalIn D t ux uy).run P w = .ok r w) :
    ∀ (fs:List Field) {xs ys:List V} {xs' ys':List Value} {r:Bool},Rl m xs xs' → Rl m ys ys' → (∀ x ∈ xs',scalar x) → (∀ x ∈ ys',scalar x) →
      (eqFs P q fs).run h (.agg xs) (.agg ys) = some r → (Op.eqFields D ⟨xs'⟩ ⟨ys'⟩ fs).run P w = .ok r w
  | [],xs,ys,xs',ys',r,_,_,_,_,he=>by
    have:true = r:=Option.some.inj he
    subst this;simp [Op.eqFields]
  | f :: fs,xs,ys,xs',ys',r,hx,hy,sx,sy,he=>by
    unfold eqFs at he
    split at he
    · cases he
    · rename_i hname
      cases hs:sizeT P f.type with
      | none=>rw [hs] at he;cases he
      | some n=>
        rw [hs] at he
        simp only [partE_eq] at he
        cases ha:partV (isAggT P f.type) f.offset n xs with
        | none=>rw [ha] at he;cases he
        | some a=>
          cases hb:partV (isAggT P f.type) f.offset n ys with
          | none=>rw [ha,hb] at he;cases he
          | some b=>
            rw [ha,hb] at he
            obtain ⟨d,hd⟩:=sizeT_und hs
            obtain ⟨ua,hua,ra⟩:=part_sound (w:=w) hd hs hx sx ha
            obtain ⟨ub,hub,rb⟩:=part_sound (w:=w) hd hs hy sy hb
            simp only at he
            cases hqr:(q f.type).run h a b with
            | none=>rw [hqr] at he;cases he
            | some r0=>
              rw [hqr] at he
              have heq:=hq f.type a b ua ub r0 ra rb hqr
              cases r0 with
              | false=>
                have:false = r:=Option.some.inj he
                subst this
                simp [Op.eqFields,hname,hua,hub,heq]
              | true=>
                have ih:=eqFs_sound k hq fs hx hy sx sy he
                simp [Op.eqFields,hname,hua,hub,heq,ih]
def eqElems (d:Nat) (el:TypeId) (n:Nat) (xs ys:Array Value):List Nat → Sem Bool
  | []=>pure true
  | i :: is=>do
    let a ← part el xs (i * n)
    let b ← part el ys (i * n)
    let r ← Op.equalIn d el a b
    if (!r) = true then pure false else eqElems d el n xs ys is
theorem run_equalIn_array (d:Nat) (t:TypeId) (len:Nat) (el:TypeId) (n:Nat) (xs ys:Array Value) (ht:P.underlying t = some (.array len el)) (hn:sizeT P el = some n) :
    (Op.equalIn (d + 1) t (.agg xs) (.agg ys)).run P w = (eqElems d el n xs ys (List.range' 0 len)).run P w:=by
  simp only [Op.equalIn,Sem.run_bind,run_und ht,Result.andThen_ok,sizeT_run hn,Std.Legacy.Range.forIn_eq_forIn_range',Std.Legacy.Range.size,Nat.sub_zero,Nat.add_one_sub_one,Nat.div_one]
  generalize List.range' 0 len = is
  clear ht hn
  induction is generalizing w with
  | nil=>simp [eqElems]
  | cons i is ih=>
    simp only [List.forIn_cons,eqElems,Sem.run_bind,Sem.run_ite]
    generalize (part el xs (i * n)).run P w = r1
    cases r1 with
    | ok a w1=>
      simp only [Result.andThen_ok]
      generalize (part el ys (i * n)).run P w1 = r2
      cases r2 with
      | ok b w2=>
        simp only [Result.andThen_ok]
        generalize (Op.equalIn d el a b).run P w2 = r3
        cases r3 with
        | ok r w3=>
          cases r
          · simp only [Result.andThen_ok,Bool.not_false,if_true,Sem.run_pure]
          · simp only [Result.andThen_ok,Bool.not_true,Bool.false_eq_true,if_false,Sem.run_pure]
            exact ih (w:=w3)
        | halt x w3=>simp [Result.andThen]
      | halt x w2=>simp [Result.andThen]
    | halt x w1=>simp [Result.andThen]
theorem eqAs_sound {h:H} (k:HR m h w) {q:EqT} {D:Nat} {el:TypeId} {n:Nat} {d:TypeDesc} (hd:P.underlying el = some d) (hn:sizeT P el = some n)
    (hq:∀ x y ux uy r,R m x ux → R m y uy → q.run h x y = some r → (Op.equalIn D el ux uy).run P w = .ok r w)
    {X Y:List V} {X' Y':List Value} (hX:Rl m X X') (hY:Rl m Y Y') (sX:∀ x ∈ X',scalar x) (sY:∀ x ∈ Y',scalar x) :
    ∀ (c i:Nat) {r:Bool},eqAs q (isAggT P el) n c (dropV (i * n) X) (dropV (i * n) Y) h = some r → (eqElems D el n ⟨X'⟩ ⟨Y'⟩ (List.range' i c)).run P w = .ok r w
  | 0,i,r,he=>by
    have:true = r:=Option.some.inj he
    subst this;simp [eqElems]
  | c + 1,i,r,he=>by
    unfold eqAs at he
    simp only [partE_eq] at he
    have e0:∀ l:List V,partE (isAggT P el) n (dropV (i * n) l) = partV (isAggT P el) (i * n) n l:=fun l=>partE_eq _ _ _ _
    cases ha:partV (isAggT P el) (i * n) n X with
    | none=>rw [ha] at he;cases he
    | some a=>
      cases hb:partV (isAggT P el) (i * n) n Y with
      | none=>rw [ha,hb] at he;cases he
      | some b=>
        rw [ha,hb] at he
        simp only at he
        obtain ⟨ua,hua,ra⟩:=part_sound (w:=w) hd hn hX sX ha
        obtain ⟨ub,hub,rb⟩:=part_sound (w:=w) hd hn hY sY hb
        cases hqr:q.run h a b with
        | none=>rw [hqr] at he;cases he
        | some r0=>
          rw [hqr] at he
          have heq:=hq a b ua ub r0 ra rb hqr
          cases r0 with
          | false=>
            have:false = r:=Option.some.inj he
            subst this
            simp [List.range'_succ,eqElems,hua,hub,heq]
          | true=>
            have e1:dropV n (dropV (i * n) X) = dropV ((i + 1) * n) X:=by
              rw [dropV_eq,dropV_eq,dropV_eq,List.drop_drop];congr 1;rw [Nat.succ_mul]
            have e2:dropV n (dropV (i * n) Y) = dropV ((i + 1) * n) Y:=by
              rw [dropV_eq,dropV_eq,dropV_eq,List.drop_drop];congr 1;rw [Nat.succ_mul]
            simp only [e1,e2] at he
            have ih:=eqAs_sound k hd hn hq hX hY sX sY c (i + 1) he
            simp [List.range'_succ,eqElems,hua,hub,heq,ih]
set_option maxHeartbeats 2000000 in
theorem eqT_sound {h:H} (k:HR m h w):∀ (d:Nat) (t:TypeId) (D:Nat),d ≤ D → ∀ x y ux uy r,R m x ux → R m y uy → (eqT P d t).run h x y = some r → (Op.equalIn D t ux uy).run P w = .ok r w
  | 0,t,D,_,x,y,ux,uy,r,_,_,he=>by cases he
  | d + 1,t,0,hD,_,_,_,_,_,_,_,_=>by omega
  | d + 1,t,D + 1,hD,x,y,ux,uy,r,hx,hy,he=>by
    have ih:=eqT_sound k d
    unfold eqT at he
    cases hu:P.underlying t with
    | none=>rw [hu] at he;cases he
    | some ds=>
      rw [hu] at he
      cases ds <;> simp only at he <;> (try (cases he;done))
      case bool=>
        split at he
        · cases he;simp only [R] at hx hy;subst hx;subst hy;simp [Op.equalIn,run_und hu]
        · cases he
      case int kk=>
        split at he
        · rename_i k1 a k2 b
          cases e:kEq k1 k2 with
          | false=>rw [e] at he;cases he
          | true=>
            rw [e] at he;cases he
            have:=(kEq_iff _ _).1 e;subst this
            simp only [R] at hx hy;subst hx;subst hy
            simp [Op.equalIn,run_und hu,iEq_iff]
        · cases he
      case string=>
        split at he
        · cases he
          rw [R_str] at hx hy
          obtain ⟨s,rfl,hs,hc⟩:=hx
          obtain ⟨s',rfl,hs',hc'⟩:=hy
          rw [sEq_sound hs hc hs' hc']
          exact run_equalIn_string w D t s s' hu
        · cases he
      case pointer e=>
        have nils:∀ r,(match x,y with | .pn,.pn=>some true | .pn,.p _ _=>some false | .p _ _,.pn=>some false | _,_=>(none:Option Bool)) = some r → (Op.equalIn (D + 1) t ux uy).run P w = .ok r w:=by
          intro r he
          split at he
          · cases he;simp only [R] at hx hy;subst hx;subst hy;simp [Op.equalIn,run_und hu]
          · cases he;simp only [R] at hx hy;obtain ⟨l,_,rfl⟩:=hy;subst hx;simp [Op.equalIn,run_und hu]
          · cases he;simp only [R] at hx hy;obtain ⟨l,_,rfl⟩:=hx;subst hy;simp [Op.equalIn,run_und hu]
          · cases he
        cases hs:sizeT P e with
        | none=>rw [hs] at he;exact nils r he
        | some n=>
          cases n with
          | zero=>rw [hs] at he;exact nils r he
          | succ n=>
            rw [hs] at he
            simp only at he
            split at he
            · exact nils r (by simpa using he)
            · exact nils r (by simpa using he)
            · exact nils r (by simpa using he)
            · rename_i b o b' o'
              simp only [R] at hx hy
              obtain ⟨l,hl,rfl⟩:=hx
              obtain ⟨l',hl',rfl⟩:=hy
              cases eb:Id.beq b b' with
              | true=>
                rw [eb] at he
                simp only [cond_true,Option.some.injEq] at he
                subst he
                have:=Id.beq_iff.1 eb;subst this
                rw [hl] at hl';cases hl'
                have e3:Nat.beq o o' = ((⟨l.blk,l.base + o,none⟩:Addr) == ⟨l.blk,l.base + o',none⟩):=by
                  rw [Bool.eq_iff_iff];simp [Nat.beq_eq]
                simp only [Op.equalIn,Sem.run_bind,run_und hu,Result.andThen_ok,sizeT_run hs]
                simp [sameAddr,e3]
              | false=>
                rw [eb] at he
                simp only [cond_false] at he
                have hne:b ≠ b':=fun h=>by rw [Id.beq_iff.2 h] at eb;cases eb
                cases hf:famOf h b with
                | none=>rw [hf] at he;cases he
                | some f=>
                  cases hf':famOf h b' with
                  | none=>rw [hf,hf'] at he;cases he
                  | some f'=>
                    rw [hf,hf'] at he
                    simp only at he
                    cases ef:Id.beq f f' with
                    | true=>rw [ef] at he;cases he
                    | false=>
                      rw [ef] at he;cases he
                      obtain ⟨sz,els,ty1,hb,hz⟩:=famOf_some hf
                      obtain ⟨sz',els',ty2,hb',hz'⟩:=famOf_some hf'
                      obtain ⟨l1,hl1,C,t1,fz,hc⟩:=k.obj _ _ hb
                      obtain ⟨l2,hl2,C',t2,fz',hc'⟩:=k.obj _ _ hb'
                      rw [hl] at hl1;cases hl1
                      rw [hl'] at hl2;cases hl2
                      have hblk:l.blk ≠ l'.blk:=fun heq=>by
                        have:f = f':=k.sep b b' _ _ l l' hb hb' hl hl' hne heq
                        rw [Id.beq_iff.2 this] at ef;cases ef
                      have:=sameAddr_apart (P:=P) (a:=⟨l.blk,l.base + o,none⟩) (b:=⟨l'.blk,l'.base + o',none⟩) hblk hc.at_ hc'.at_ (hc.plain rfl hz) (hc'.plain rfl hz')
                      simp only [Op.equalIn,Sem.run_bind,run_und hu,Result.andThen_ok,sizeT_run hs]
                      simp [this]
            · cases he
      case interface ms=>
        split at he
        · cases he;simp only [R] at hx hy;subst hx;obtain ⟨v',rfl,_⟩:=hy;simp [Op.equalIn,run_und hu]
        · cases he;simp only [R] at hx hy;subst hy;obtain ⟨v',rfl,_⟩:=hx;simp [Op.equalIn,run_und hu]
        · rename_i tx vx ty vy
          simp only [R] at hx hy
          obtain ⟨vx',rfl,hvx⟩:=hx
          obtain ⟨vy',rfl,hvy⟩:=hy
          cases e:Nat.beq tx ty with
          | false=>
            rw [e] at he;cases he
            have:tx ≠ ty:=fun h=>by subst h;simp at e
            simp [Op.equalIn,run_und hu,this]
          | true=>
            rw [e] at he
            simp only [cond_true] at he
            have:=Nat.eq_of_beq_eq_true e;subst this
            cases hi:P.info? tx with
            | none=>rw [hi] at he;cases he
            | some i=>
              rw [hi] at he
              simp only at he
              cases hc:i.comparable with
              | false=>rw [hc] at he;cases he
              | true=>
                rw [hc] at he
                simp only [cond_true] at he
                have:=ih tx D (by omega) vx vy vx' vy' r hvx hvy he
                simp [Op.equalIn,run_und hu,typeInfo,hi,hc,this]
        · cases he
      case struct fs=>
        cases hst:P.stoodInHeld t with
        | true=>rw [hst] at he;cases he
        | false=>
          rw [hst] at he
          simp only [cond_false] at he
          have hagg:∃ xs ys,x = .agg xs ∧ y = .agg ys:=by
            cases hfs:fs.toList with
            | nil=>
              rw [hfs] at he;unfold eqFs at he
              simp only at he
              split at he
              · exact ⟨_,_,rfl,rfl⟩
              · cases he
            | cons f fs'=>
              rw [hfs] at he;unfold eqFs at he
              split at he
              · cases he
              · split at he
                · cases he
                · simp only at he
                  split at he
                  · exact ⟨_,_,rfl,rfl⟩
                  · cases he
          obtain ⟨xs,ys,rfl,rfl⟩:=hagg
          obtain ⟨xs',rfl,hxs,sx⟩:=R_agg_cells hx
          obtain ⟨ys',rfl,hys,sy⟩:=R_agg_cells hy
          have hfo:P.fieldsOf t = fs:=by simp [Program.fieldsOf,hu]
          rw [run_equalIn_struct w D t _ _ (by rw [hfo];exact hu) hst,hfo]
          exact eqFs_sound k (fun t x y ux uy r hx hy hq=>ih t D (by omega) x y ux uy r hx hy hq) fs.toList hxs hys sx sy he
      case array len el=>
        cases hn:sizeT P el with
        | none=>rw [hn] at he;cases he
        | some n=>
          rw [hn] at he
          simp only at he
          split at he
          · rename_i xs ys
            obtain ⟨xs',rfl,hxs,sx⟩:=R_agg_cells hx
            obtain ⟨ys',rfl,hys,sy⟩:=R_agg_cells hy
            obtain ⟨ds,hds⟩:=sizeT_und hn
            have hz:∀ l:List V,dropV (0 * n) l = l:=by intro l;rw [dropV_eq];simp
            have:=eqAs_sound (P:=P) k hds hn (fun x y ux uy r hx hy hq=>ih el D (by omega) x y ux uy r hx hy hq) hxs hys sx sy len 0 (r:=r) (by rw [hz,hz];exact he)
            rw [run_equalIn_array D t len el n _ _ hu hn];exact this
          · cases he
      case slice e=>
        split at he <;> (try (cases he;done)) <;> cases he <;> simp only [R] at hx hy
        · subst hx;subst hy;simp [Op.equalIn,run_und hu]
        · subst hx;obtain ⟨l,cap,_,rfl,_⟩:=hy;simp [Op.equalIn,run_und hu]
        · subst hy;obtain ⟨l,cap,_,rfl,_⟩:=hx;simp [Op.equalIn,run_und hu]
        · subst hy;obtain ⟨l,cap,rfl⟩:=hx;simp [Op.equalIn,run_und hu]
        · subst hx;obtain ⟨l,cap,rfl⟩:=hy;simp [Op.equalIn,run_und hu]
      case map kt et=>
        split at he <;> (try (cases he;done)) <;> cases he <;> simp only [R] at hx hy
        · subst hx;subst hy;simp [Op.equalIn,run_und hu]
        · subst hx;obtain ⟨l,_,rfl⟩:=hy;simp [Op.equalIn,run_und hu]
        · subst hy;obtain ⟨l,_,rfl⟩:=hx;simp [Op.equalIn,run_und hu]
      case func ps rs va=>
        split at he <;> (try (cases he;done)) <;> cases he <;> simp only [R] at hx hy
        · subst hx;subst hy;simp [Op.equalIn,run_und hu]
        · subst hx;obtain ⟨a',c',rfl,_⟩:=hy;simp [Op.equalIn,run_und hu]
        · subst hy;obtain ⟨a',c',rfl,_⟩:=hx;simp [Op.equalIn,run_und hu]
end Go.Ev
end
section
namespace Go.Ev
open Go
variable {P:Program} {m:Mp} {w:World}
def ckFields (em:Bool) (d:Nat) (xs:Array Value):List Field → Sem Unit
  | []=>pure ()
  | f :: fs => if f.name ≠ "_" then do
      let a ← part f.type xs f.offset
      Instr.checkKey em d f.type a
      ckFields em d xs fs
    else ckFields em d xs fs
theorem run_ck_struct (em:Bool) (d:Nat) (t:TypeId) (fs:Array Field) (xs:Array Value) (ht:P.underlying t = some (.struct fs)) :
    (Instr.checkKey em (d + 1) t (.agg xs)).run P w = (ckFields em d xs fs.toList).run P w:=by
  simp only [Instr.checkKey,Sem.run_bind,run_und ht,Result.andThen_ok]
  rw [← Array.forIn_toList]
  generalize fs.toList = l
  clear ht
  induction l generalizing w with
  | nil=>simp [ckFields]
  | cons f l ih=>
    simp only [List.forIn_cons,ckFields,Sem.run_bind,Sem.run_ite]
    split
    · generalize (part f.type xs f.offset).run P w = r1
      cases r1 with
      | ok a w1=>
        simp only [Result.andThen_ok]
        generalize (Instr.checkKey em d f.type a).run P w1 = r2
        cases r2 with
        | ok b w2=>simp only [Result.andThen_ok,Sem.run_pure];exact ih (w:=w2)
        | halt x w2=>simp [Result.andThen]
      | halt x w1=>simp [Result.andThen]
    · simp only [Sem.run_pure,Result.andThen_ok];exact ih
def ckElems (em:Bool) (d:Nat) (el:TypeId) (n:Nat) (xs:Array Value):List Nat → Sem Unit
  | []=>pure ()
  | i :: is=>do
    let a ← part el xs (i * n)
    Instr.checkKey em d el a
    ckElems em d el n xs is
theorem run_ck_array (em:Bool) (d:Nat) (t:TypeId) (len:Nat) (el:TypeId) (n:Nat) (xs:Array Value) (ht:P.underlying t = some (.array len el)) (hn:sizeT P el = some n) :
    (Instr.checkKey em (d + 1) t (.agg xs)).run P w = (ckElems em d el n xs (List.range' 0 len)).run P w:=by
  simp only [Instr.checkKey,Sem.run_bind,run_und ht,Result.andThen_ok,Std.Legacy.Range.forIn_eq_forIn_range',Std.Legacy.Range.size,Nat.sub_zero,Nat.add_one_sub_one,Nat.div_one]
  generalize List.range' 0 len = is
  clear ht
  induction is generalizing w with
  | nil=>simp [ckElems]
  | cons i is ih=>
    simp only [List.forIn_cons,ckElems,Sem.run_bind,sizeT_run hn,Result.andThen_ok]
    generalize (part el xs (i * n)).run P w = r1
    cases r1 with
    | ok a w1=>
      simp only [Result.andThen_ok]
      generalize (Instr.checkKey em d el a).run P w1 = r2
      cases r2 with
      | ok b w2=>simp only [Result.andThen_ok,Sem.run_pure];exact ih (w:=w2)
      | halt x w2=>simp [Result.andThen]
    | halt x w1=>simp [Result.andThen]
theorem ckFs_sound {em:Bool} {q:TypeId → CkT} {D:Nat} (hq:∀ t x ux,R m x ux → (q t).run x = true → (Instr.checkKey em D t ux).run P w = .ok () w) :
    ∀ (fs:List Field) {xs:List V} {xs':List Value},Rl m xs xs' → (∀ x ∈ xs',scalar x) → (ckFs P q fs).run (.agg xs) = true → (ckFields em D ⟨xs'⟩ fs).run P w = .ok () w
  | [],xs,xs',_,_,_=>by simp [ckFields]
  | f :: fs,xs,xs',hx,sx,he=>by
    unfold ckFs at he
    split at he
    · cases he
    · rename_i hname
      cases hs:sizeT P f.type with
      | none=>rw [hs] at he;cases he
      | some n=>
        rw [hs] at he
        simp only [partE_eq] at he
        cases ha:partV (isAggT P f.type) f.offset n xs with
        | none=>rw [ha] at he;cases he
        | some a=>
          rw [ha] at he
          simp only [Bool.and_eq_true] at he
          obtain ⟨d,hd⟩:=sizeT_und hs
          obtain ⟨ua,hua,ra⟩:=part_sound (w:=w) hd hs hx sx ha
          have h1:=hq f.type a ua ra he.1
          have ih:=ckFs_sound hq fs hx sx he.2
          simp [ckFields,hname,hua,h1,ih]
theorem ckAs_sound {em:Bool} {q:CkT} {D:Nat} {el:TypeId} {n:Nat} {d:TypeDesc} (hd:P.underlying el = some d) (hn:sizeT P el = some n)
    (hq:∀ x ux,R m x ux → q.run x = true → (Instr.checkKey em D el ux).run P w = .ok () w) {X:List V} {X':List Value} (hX:Rl m X X') (sX:∀ x ∈ X',scalar x) :
    ∀ (c i:Nat),ckAs q (isAggT P el) n c (dropV (i * n) X) = true → (ckElems em D el n ⟨X'⟩ (List.range' i c)).run P w = .ok () w
  | 0,i,_=>by simp [ckElems]
  | c + 1,i,he=>by
    unfold ckAs at he
    simp only [partE_eq] at he
    cases ha:partV (isAggT P el) (i * n) n X with
    | none=>rw [ha] at he;cases he
    | some a=>
      rw [ha] at he
      simp only [Bool.and_eq_true] at he
      obtain ⟨ua,hua,ra⟩:=part_sound (w:=w) hd hn hX sX ha
      have e1:dropV n (dropV (i * n) X) = dropV ((i + 1) * n) X:=by
        rw [dropV_eq,dropV_eq,dropV_eq,List.drop_drop];congr 1;rw [Nat.succ_mul]
      rw [e1] at he
      have h1:=hq a ua ra he.1
      have ih:=ckAs_sound hd hn hq hX sX c (i + 1) he.2
      simp [List.range'_succ,ckElems,hua,h1,ih]
theorem ckT_sound {em:Bool}:∀ (d:Nat) (t:TypeId) (D:Nat),d ≤ D → ∀ x ux,R m x ux → (ckT P d t).run x = true → (Instr.checkKey em D t ux).run P w = .ok () w
  | 0,t,D,_,x,ux,_,he=>by cases he
  | d + 1,t,0,hD,_,_,_,_=>by omega
  | d + 1,t,D + 1,hD,x,ux,hx,he=>by
    have ih:=ckT_sound (em:=em) d
    unfold ckT at he
    cases hu:P.underlying t with
    | none=>rw [hu] at he;cases he
    | some ds=>
      rw [hu] at he
      cases ds <;> simp only at he <;> (try (cases he;done))
      case struct fs=>
        have hagg:∃ xs,x = .agg xs:=by
          cases hfs:fs.toList with
          | nil=>
            rw [hfs] at he;unfold ckFs at he
            simp only at he
            split at he
            · exact ⟨_,rfl⟩
            · cases he
          | cons f fs'=>
            rw [hfs] at he;unfold ckFs at he
            split at he
            · cases he
            · split at he
              · cases he
              · simp only at he
                split at he
                · exact ⟨_,rfl⟩
                · cases he
        obtain ⟨xs,rfl⟩:=hagg
        obtain ⟨xs',rfl,hxs,sx⟩:=R_agg_cells hx
        rw [run_ck_struct em D t fs _ hu]
        exact ckFs_sound (fun t x ux hx hq=>ih t D (by omega) x ux hx hq) fs.toList hxs sx he
      case array len el=>
        cases hn:sizeT P el with
        | none=>rw [hn] at he;cases he
        | some n=>
          rw [hn] at he
          simp only at he
          split at he
          · rename_i xs
            obtain ⟨xs',rfl,hxs,sx⟩:=R_agg_cells hx
            obtain ⟨ds,hds⟩:=sizeT_und hn
            rw [run_ck_array em D t len el n _ hu hn]
            have hz:dropV (0 * n) xs = xs:=by rw [dropV_eq];simp
            exact ckAs_sound hds hn (fun x ux hx hq=>ih el D (by omega) x ux hx hq) hxs sx len 0 (by rw [hz];exact he)
          · cases he
      all_goals simp [Instr.checkKey,run_und hu]
theorem EntsR.length:∀ {es:List Ent} {xs:List MapEntry},EntsR m es xs → xs.length = es.length
  | [],_,k=>by simp only [EntsR] at k;subst k;rfl
  | e :: es,_,k=>by obtain ⟨x,xs,rfl,_,h⟩:=k;simp [EntsR.length h]
theorem EntsR.get:∀ {es:List Ent} {xs:List MapEntry},EntsR m es xs → ∀ {i:Nat} {e:Ent},es[i]? = some e → ∃ x,xs[i]? = some x ∧ EntR m e x
  | [],_,_,i,e,h=>by simp at h
  | a :: es,_,k,i,e,h=>by
    obtain ⟨x,xs,rfl,hx,hxs⟩:=k
    cases i with
    | zero=>simp at h;subst h;exact ⟨x,rfl,hx⟩
    | succ i=>simp at h ⊢;exact EntsR.get hxs h
theorem find_sound {h:H} (k:HR m h w) {kt:TypeId} {key:V} {ukey:Value} (hk:R m key ukey) :
    ∀ (es:List Ent) (xs:List MapEntry) (i:Nat) {r:Option (Nat × Ent)},EntsR m es xs → findGo (eqT P 20 kt) h key es i = some r →
      (Instr.findAsking kt ukey xs i).run P w = .ok (r.map fun x=>(x.1,(xs.getD (x.1 - i) default).val)) w ∧ (∀ x,r = some x → i ≤ x.1 ∧ es[x.1 - i]? = some x.2)
  | [],xs,i,r,hx,he=>by
    simp only [EntsR] at hx;subst hx
    have:none = r:=Option.some.inj he
    subst this;simp [Instr.findAsking]
  | e :: es,xs,i,r,hx,he=>by
    obtain ⟨x,xs',rfl,hx1,hxs⟩:=hx
    unfold findGo at he
    cases hq:(eqT P 20 kt).run h key e.key with
    | none=>rw [hq] at he;cases he
    | some b=>
      rw [hq] at he
      have heq:(Op.equal kt ukey x.key).run P w = .ok b w:=eqT_sound k 20 kt 10000 (by omega) key e.key ukey x.key b hk hx1.1 hq
      cases b with
      | true=>
        have:some (i,e) = r:=Option.some.inj he
        subst this
        refine ⟨by simp [Instr.findAsking,heq],?_⟩
        intro y hy;cases hy;simp
      | false=>
        obtain ⟨ih1,ih2⟩:=find_sound k hk es xs' (i + 1) hxs he
        refine ⟨?_,?_⟩
        · simp only [Instr.findAsking,Sem.run_bind,heq,Result.andThen_ok,Bool.false_eq_true,if_false,ih1]
          cases r with
          | none=>rfl
          | some y=>
            have:=(ih2 y rfl).1
            have e1:y.1 - i = (y.1 - (i + 1)) + 1:=by omega
            simp [e1]
        · intro y hy
          obtain ⟨h1,h2⟩:=ih2 y hy
          have e1:y.1 - i = (y.1 - (i + 1)) + 1:=by omega
          exact ⟨by omega,by rw [e1];simpa using h2⟩
theorem sameNow_eq {kt:TypeId} {ds:TypeDesc} (hu:P.underlying kt = some ds) {k k':Value} {b:Bool} (hb:Instr.sameNow ds k k' = some b):(Op.equal kt k k').run P w = .ok b w:=by
  unfold Instr.sameNow at hb
  split at hb
  · rename_i kk k1 a k2 b'
    split at hb
    · rename_i hkk;subst hkk;cases hb
      exact run_equalIn_int w 9999 kt k1 kk a b' hu
    · cases hb
  · rename_i a b'
    cases hb
    rw [beq_toListBytes]
    exact run_equalIn_string w 9999 kt a b' hu
  · rename_i a b'
    cases hb
    exact run_equalIn_bool' w 9999 kt a b' hu
  · cases hb
theorem findNow_asking {kt:TypeId} {ds:TypeDesc} (hu:P.underlying kt = some ds) {k:Value}:∀ (xs:List MapEntry) (i:Nat) {r:Option (Nat × Value)},Instr.findNow ds k xs i = some r → (Instr.findAsking kt k xs i).run P w = .ok r w
  | [],i,r,h=>by
    have:none = r:=Option.some.inj h
    subst this;simp [Instr.findAsking]
  | x :: xs,i,r,h=>by
    unfold Instr.findNow at h
    have same:∀ b,Instr.sameNow ds k x.key = some b → (Op.equal kt k x.key).run P w = .ok b w:=fun b hb=>sameNow_eq hu hb
    split at h
    · rename_i hb
      have:some (i,x.val) = r:=Option.some.inj h
      subst this
      simp [Instr.findAsking,same _ hb]
    · rename_i hb
      simp [Instr.findAsking,same _ hb,findNow_asking hu xs (i + 1) h]
    · cases h
theorem findKey_eq {kt:TypeId} {ds:TypeDesc} (hu:P.underlying kt = some ds) {k:Value} {xs:List MapEntry}:(Instr.findKey kt k xs).run P w = (Instr.findAsking kt k xs 0).run P w:=by
  simp only [Instr.findKey,Sem.run_bind,run_und hu,Result.andThen_ok]
  split
  · rename_i r hr;rw [findNow_asking hu xs 0 hr];rfl
  · rfl
end Go.Ev
end
section
namespace Go.Ev
open Go
variable {P:Program} {m:Mp} {w:World}
theorem entsOf_some {h:H} (k:HR m h w) {b:Id} {es:List Ent} {c:Nat} (he:entsOf h b = some (es,c)) :
    ∃ l es',mget b h.mem = some (.map es c) ∧ m b = some l ∧ w.heap[l.blk]? = some (.map ⟨es'⟩ c) ∧ EntsR m es es':=by
  unfold entsOf at he
  split at he
  · rename_i es0 c0 hb
    cases he
    obtain ⟨l,hl,es',h1,h2⟩:=k.obj _ _ hb
    exact ⟨l,es',hb,hl,h1,h2⟩
  · cases he
theorem findEnt_sound {h:H} (k:HR m h w) {kt:TypeId} {key:V} {ukey:Value} (hk:R m key ukey) {es:List Ent} {xs:List MapEntry} {r:Option (Nat × Ent)} (hx:EntsR m es xs)
    (he:findEnt P kt h key es = some r) (em:Bool) :
    (Instr.checkKey em 10000 kt ukey).run P w = .ok () w ∧ (Instr.findKey kt ukey xs).run P w = .ok (r.map fun x=>(x.1,(xs.getD x.1 default).val)) w ∧
      (∀ x,r = some x → es[x.1]? = some x.2 ∧ ∃ y,xs[x.1]? = some y ∧ EntR m x.2 y):=by
  unfold findEnt at he
  cases hc:(ckT P 20 kt).run key with
  | false=>rw [hc] at he;cases he
  | true=>
    rw [hc] at he
    simp only [cond_true] at he
    have hu:∃ ds,P.underlying kt = some ds:=by
      unfold ckT at hc
      cases hu:P.underlying kt with
      | none=>rw [hu] at hc;cases hc
      | some ds=>exact ⟨ds,rfl⟩
    obtain ⟨ds,hu⟩:=hu
    obtain ⟨h1,h2⟩:=find_sound k hk es xs 0 hx he
    refine ⟨ckT_sound 20 kt 10000 (by omega) key ukey hk hc,?_,?_⟩
    · rw [findKey_eq hu,h1];simp
    · intro x hxr
      obtain ⟨_,h3⟩:=h2 x hxr
      simp at h3
      exact ⟨h3,hx.get h3⟩
theorem run_getMap {b:Nat} {xs:List MapEntry} {c:Nat} (hb:w.heap[b]? = some (.map ⟨xs⟩ c)):(getObj b).run P w = .ok (.map ⟨xs⟩ c) w:=by
  simp [getObj,Sem.run,hb]
theorem look_sound {h:H} (k:HR m h w) {t kt et:TypeId} {z:V} {ok:Bool} {key:V} {ukey:Value} {es:List Ent} {xs:List MapEntry} {v:V} {x:Value}
    (hu:P.underlying t = some (.map kt et)) (hz:zeroT P et = some z) (hk:R m key ukey) (hx:EntsR m es xs)
    (hes:(∃ b c,x = .map (some b) ∧ w.heap[b]? = some (.map ⟨xs⟩ c)) ∨ (x = .map none ∧ xs = []))
    (hv:lookF P kt z ok h key es = some v):∃ u,(Instr.lookup t x ukey ok).run P w = .ok u w ∧ R m v u:=by
  obtain ⟨uz,hzr,hzc,_⟩:=zeroT_run (w:=w) hz
  unfold lookF at hv
  cases hf:findEnt P kt h key es with
  | none=>rw [hf] at hv;cases hv
  | some r=>
    rw [hf] at hv
    obtain ⟨h1,h2,h3⟩:=findEnt_sound k hk hx hf xs.isEmpty
    have hem:(⟨xs⟩:Array MapEntry).isEmpty = xs.isEmpty:=by cases xs <;> rfl
    cases r with
    | none=>
      have hv':some (if ok then V.tup [z,.b false] else z) = some v:=hv
      cases hv'
      refine ⟨if ok then .tuple #[uz,.bool false] else uz,?_,?_⟩
      · rcases hes with ⟨b,c,rfl,hb⟩ | ⟨rfl,rfl⟩
        · simp only [Instr.lookup,Sem.run_bind,run_und hu,Result.andThen_ok,run_getMap hb,hem,h1,h2,Option.map_none,hzr,Sem.run_pure]
        · simp only [Instr.lookup,Sem.run_bind,run_und hu,Result.andThen_ok,hem,h1,h2,Option.map_none,hzr,Sem.run_pure]
      · cases ok
        · simpa [hzc] using cst_sound m uz
        · simp only [if_true,R,Rl]
          exact ⟨_,rfl,_,_,rfl,by rw [hzc];exact cst_sound m uz,_,_,rfl,rfl,rfl⟩
    | some p=>
      obtain ⟨i,e⟩:=p
      obtain ⟨hei,y,hy,hye⟩:=h3 _ rfl
      simp only at hy
      have hyv:(xs.getD i default).val = y.val:=by simp [List.getD_eq_getElem?_getD,hy]
      have hv':some (if ok then V.tup [e.val,.b true] else e.val) = some v:=hv
      cases hv'
      refine ⟨if ok then .tuple #[y.val,.bool true] else y.val,?_,?_⟩
      · rcases hes with ⟨b,c,rfl,hb⟩ | ⟨rfl,rfl⟩
        · simp only [Instr.lookup,Sem.run_bind,run_und hu,Result.andThen_ok,run_getMap hb,hem,h1,h2,Option.map_some,hyv,Sem.run_pure]
        · simp at hy
      · cases ok
        · simpa using hye.2.1
        · simp only [if_true,R,Rl]
          exact ⟨_,rfl,_,_,rfl,hye.2.1,_,_,rfl,rfl,rfl⟩
end Go.Ev
end
section
namespace Go.Ev
open Go
variable {P:Program} {m:Mp} {w:World}
theorem bnd_some {n:Nat} {e:Env} {a:Act} (k:EnvR m n e a) (hg:Gl P m) {x:Option Operand} {d:Nat} {f:Nat → Option V} {v:V} (hx:∀ y,x = some y → opOk P n y = true)
    (h:bnd x d e f = some v):∃ j,f j = some v ∧ ((x = none ∧ j = d) ∨ ∃ y kk,x = some y ∧ a.eval y = .int kk (.ofNat j)):=by
  cases x with
  | none=>exact ⟨d,h,.inl ⟨rfl,rfl⟩⟩
  | some y=>
    obtain ⟨kk,j,hj,hf⟩:=asN_some h
    have:=opnd_sound k hg (hx y rfl)
    rw [hj] at this
    simp only [R] at this
    exact ⟨j,hf,.inr ⟨y,kk,rfl,this⟩⟩
theorem bounds_run {isS:Bool} {len cap:Nat} {lo hi:Option Value} {l h:Nat} (hl:lo = none ∧ l = 0 ∨ ∃ k,lo = some (.int k (.ofNat l))) (hh:hi = none ∧ h = len ∨ ∃ k,hi = some (.int k (.ofNat h)))
    (h1:l ≤ h) (h2:h ≤ len) (h3:len ≤ cap):(Instr.sliceBounds isS len cap lo hi none).run P w = .ok (l,h,cap) w:=by
  have hb:∀ (k:IntKind) (j y:Nat) (c:BoundsCode),j ≤ y → (Instr.sliceBound (.int k (j:Int)) y c).run P w = .ok j w:=by
    intro k j y c hj
    have:(0:Int) ≤ (j:Int) ∧ (j:Int) ≤ (y:Int):=⟨by omega,by omega⟩
    simp only [Instr.sliceBound,asIntOf,Sem.run_bind,Sem.run_pure,Result.andThen_ok,this,and_self,if_true]
    rfl
  rcases hl with ⟨rfl,rfl⟩ | ⟨k1,rfl⟩ <;> rcases hh with ⟨rfl,rfl⟩ | ⟨k2,rfl⟩
  · simp [Instr.sliceBounds]
  · simp [Instr.sliceBounds,hb k2 h cap _ (by omega)]
  · simp [Instr.sliceBounds,hb k1 l _ _ h1]
  · simp [Instr.sliceBounds,hb k1 l _ _ h1,hb k2 h cap _ (by omega)]
theorem slice_sound {n:Nat} {e:Env} {a:Act} (k:EnvR m n e a) (hg:Gl P m) {t:TypeId} {x:Operand} {lo hi:Option Operand} (hx:opOk P n x = true)
    (hlo:∀ y,lo = some y → opOk P n y = true) (hhi:∀ y,hi = some y → opOk P n y = true) {hh:H} {v:V} (hv:(sliceC P t x lo hi).run e hh = some v) :
    ∃ u,(Instr.sliceAt t (a.eval x) (lo.map a.eval) (hi.map a.eval) none).run P w = .ok u w ∧ R m v u:=by
  have hX:=opnd_sound k hg hx
  have conv:∀ {z:Option Operand} {d j:Nat},((z = none ∧ j = d) ∨ ∃ y kk,z = some y ∧ a.eval y = .int kk (.ofNat j)) → (z.map a.eval = none ∧ j = d ∨ ∃ kk,z.map a.eval = some (.int kk (.ofNat j))):=by
    rintro z d j (⟨rfl,rfl⟩ | ⟨y,kk,rfl,h⟩)
    · exact .inl ⟨rfl,rfl⟩
    · exact .inr ⟨kk,by simp [h]⟩
  have slCase:∀ {sz b o len z:_} {el:TypeId} (u:Value),R m (.sl b o len z) u → z = sz + 1 → sizeT P el = some (sz + 1) → sliceSl (sz + 1) lo hi e b o len z = some v →
      ∃ j i ll cap,m b = some ll ∧ u = .slice (some ⟨ll.blk,ll.base + o,none⟩) len cap ∧ i ≤ j ∧ j ≤ len ∧ len ≤ cap ∧
        (lo.map a.eval = none ∧ i = 0 ∨ ∃ kk,lo.map a.eval = some (.int kk (.ofNat i))) ∧ (hi.map a.eval = none ∧ j = len ∨ ∃ kk,hi.map a.eval = some (.int kk (.ofNat j))) ∧
        R m v (.slice (some (if cap = i then ⟨ll.blk,ll.base + o,none⟩ else ⟨ll.blk,ll.base + o + i * (sz + 1),none⟩)) (j - i) (cap - i)):=by
    intro sz b o len z el u hu hz hs hv
    subst hz
    obtain ⟨j,hv,hj⟩:=bnd_some k hg hhi hv
    obtain ⟨i,hv,hi'⟩:=bnd_some k hg hlo hv
    obtain ⟨hc,hv⟩:=iteO_some hv
    simp only [Bool.and_eq_true] at hc
    have h1:=Nat.le_of_ble_eq_true hc.1
    have h2:=Nat.le_of_ble_eq_true hc.2
    simp only [R] at hu
    obtain ⟨ll,cap,hll,rfl,hlc,hlim⟩:=hu
    refine ⟨j,i,ll,cap,hll,rfl,h1,h2,hlc,conv hi',conv hj,?_⟩
    rcases iteO_of hv with ⟨hb,hv⟩ | ⟨hb,hv⟩
    · cases hv
      simp only [Bool.and_eq_true] at hb
      have:i = j:=Nat.eq_of_beq_eq_true hb.1
      subst this
      simp only [R,Nat.sub_self]
      exact ⟨_,_,rfl⟩
    · cases hv
      have hne:cap = i → i = 0:=by
        intro hci
        simp only [Bool.and_eq_false_iff] at hb
        rcases hb with hb | hb
        · have:i = j:=by omega
          rw [this] at hb;simp at hb
        · simpa using hb
      simp only [R]
      refine ⟨ll,cap - i,hll,?_,by show j - i ≤ cap - i;omega,?_⟩
      · show Value.slice _ _ _ = Value.slice _ _ _
        by_cases hci:cap = i
        · have:=hne hci;subst this
          simp [hci]
        · simp only [if_neg hci]
          have e1:Nat.add o (Nat.mul i (sz + 1)) = o + i * (sz + 1):=rfl
          have e2:Nat.sub j i = j - i:=rfl
          rw [e1,e2,Nat.add_assoc]
      · show o + i * (sz + 1) + (cap - i) * (sz + 1) ≤ ll.lim
        have:i * (sz + 1) + (cap - i) * (sz + 1) = cap * (sz + 1):=by
          rw [← Nat.add_mul];congr 1;omega
        omega
  unfold sliceC at hv
  cases hu:P.underlying t with
  | none=>rw [hu] at hv;cases hv
  | some ds=>
    rw [hu] at hv
    cases ds <;> simp only at hv <;> (try (cases hv;done))
    case string=>
      obtain ⟨len,c,hs,hv⟩:=as_s_O_some hv
      rw [hs] at hX
      obtain ⟨j,hv,hj⟩:=bnd_some k hg hhi hv
      obtain ⟨i,hv,hi'⟩:=bnd_some k hg hlo hv
      obtain ⟨hc,hv⟩:=iteO_some hv
      cases hv
      simp only [Bool.and_eq_true] at hc
      have h1:=Nat.le_of_ble_eq_true hc.1
      have h2:=Nat.le_of_ble_eq_true hc.2
      rw [R_str] at hX
      obtain ⟨s,hse,hb,hc2⟩:=hX
      have hsz:=str_size hb
      have hr:=bounds_run (P:=P) (w:=w) (isS:=false) (len:=s.size) (cap:=s.size) (conv hi') (by rw [hsz];exact conv hj) h1 (by omega) (Nat.le_refl _)
      refine ⟨.string (s.extract i j),?_,slice_str hb h1 h2⟩
      rw [hse]
      simp [Instr.sliceAt,run_und hu,Instr.slice,hr]
    case slice el=>
      cases hs:sizeT P el with
      | none=>rw [hs] at hv;cases hv
      | some sz=>
        cases sz with
        | zero=>rw [hs] at hv;cases hv
        | succ sz=>
          rw [hs] at hv
          simp only at hv
          rcases as_sl_O_of hv with ⟨b,o,len,z,hX0,hv⟩ | ⟨_,hv⟩
          · rw [hX0] at hX
            obtain ⟨hz,hv⟩:=iteO_some hv
            have hz:=Nat.eq_of_beq_eq_true hz
            obtain ⟨j,i,ll,cap,hll,hue,h1,h2,h3,hlo',hhi',hR⟩:=slCase _ hX hz hs hv
            have hr:=bounds_run (P:=P) (w:=w) (isS:=true) hlo' hhi' h1 h2 h3
            refine ⟨_,?_,hR⟩
            rw [hue]
            simp [Instr.sliceAt,run_und hu,Instr.slice,hr,sizeT_run hs]
            split <;> simp [addr_add]
          · rcases as_sn_O_of hv with ⟨hX0,hv⟩ | ⟨_,hv⟩
            · rw [hX0] at hX
              obtain ⟨j,hv,hj⟩:=bnd_some k hg hhi hv
              obtain ⟨i,hv,hi'⟩:=bnd_some k hg hlo hv
              obtain ⟨hc,hv⟩:=iteO_some hv
              cases hv
              simp only [Bool.and_eq_true] at hc
              have hj0:=Nat.eq_of_beq_eq_true hc.1
              have hi0:=Nat.eq_of_beq_eq_true hc.2
              subst hj0;subst hi0
              simp only [R] at hX
              have hr:=bounds_run (P:=P) (w:=w) (isS:=true) (len:=0) (cap:=0) (conv hi') (conv hj) (Nat.le_refl _) (Nat.le_refl _) (Nat.le_refl _)
              refine ⟨.slice none 0 0,?_,by simp [R]⟩
              rw [hX]
              simp [Instr.sliceAt,run_und hu,Instr.slice,hr,sizeT_run hs]
            · obtain ⟨hX0,hv⟩:=as_se_O_some hv
              rw [hX0] at hX
              obtain ⟨j,hv,hj⟩:=bnd_some k hg hhi hv
              obtain ⟨i,hv,hi'⟩:=bnd_some k hg hlo hv
              obtain ⟨hc,hv⟩:=iteO_some hv
              cases hv
              simp only [Bool.and_eq_true] at hc
              have hj0:=Nat.eq_of_beq_eq_true hc.1
              have hi0:=Nat.eq_of_beq_eq_true hc.2
              subst hj0;subst hi0
              simp only [R] at hX
              obtain ⟨ad,cap,hue⟩:=hX
              have hr:=bounds_run (P:=P) (w:=w) (isS:=true) (len:=0) (cap:=cap) (conv hi') (conv hj) (Nat.le_refl _) (Nat.le_refl _) (Nat.zero_le _)
              rw [hue]
              refine ⟨.slice (if cap = 0 then some ad else some (ad.add 0)) 0 cap,?_,?_⟩
              · simp [Instr.sliceAt,run_und hu,Instr.slice,hr,sizeT_run hs]
              · simp only [R];split <;> exact ⟨_,_,rfl⟩
end Go.Ev
end
section
namespace Go.Ev
open Go
variable {P:Program} {m:Mp} {w:World}
theorem eqGuard_off {op:BinOp} {t:TypeId} {x y:Operand} {a b:Value} (h1:¬ (a = .nilIface ∧ b = .nilIface)) (h2:(∀ xs,a ≠ .agg xs) ∨ P.eqGuardType P.depth t = false) :
    (eqGuard op t x y a b).run P w = .ok () w:=by
  unfold eqGuard
  cases op <;> first
    | rfl
    | (simp only [Bool.not_true,Bool.false_eq_true,if_false]
       split
       · exact absurd ⟨rfl,rfl⟩ h1
       · rename_i xs ys
         rcases h2 with h2 | h2
         · exact absurd rfl (h2 xs)
         · simp [h2]
       · rfl)
theorem eqGuard_nil {op:BinOp} {t:TypeId} {x y:Operand} (h:isConstOp x = true ∨ isConstOp y = true):(eqGuard op t x y .nilIface .nilIface).run P w = .ok () w:=by
  unfold eqGuard
  cases op <;> first
    | rfl
    | (rcases h with h | h
       · cases x <;> first | (cases h;done) | simp
       · cases y <;> first | (cases h;done) | simp)
theorem shift_sound {op:BinOp} {k k':IntKind} {a b:Int} {v:V} (t:TypeId) (hop:op = .shl ∨ op = .shr) (h:shiftOp op k a b = some v):∃ u,(binOp op t (.int k a) (.int k' b)).run P w = .ok u w ∧ R m v u:=by
  unfold shiftOp at h
  cases hb:iLt b 0 with
  | true=>rw [hb] at h;cases h
  | false=>
    rw [hb] at h
    rw [iLt_iff] at hb
    have hb':¬ b < 0:=by simpa using hb
    rcases hop with rfl | rfl
    · cases h
      exact ⟨_,by simp only [binOp,Op.shift,hb',if_false,Sem.run_pure];rfl,by simp [R]⟩
    · cases h
      exact ⟨_,by simp only [binOp,Op.shift,hb',if_false,Sem.run_pure];rfl,by simp [R]⟩
theorem yesO_some {x:Option Bool} {v:V} (h:yesO x = some v):∃ b,x = some b ∧ v = .b b:=by cases x <;> cases h;exact ⟨_,rfl,rfl⟩
theorem notO_some {x:Option Bool} {v:V} (h:notO x = some v):∃ b,x = some b ∧ v = .b (!b):=by cases x <;> cases h;exact ⟨_,rfl,rfl⟩
theorem binOp_eql {t:TypeId} {x y:Value} {r:Bool} (hx:∀ k n,x ≠ .int k n) (hs:∀ s,x ≠ .string s) (hf:∀ k n,x ≠ .float k n) (hc:∀ k a b,x ≠ .complex k a b) (h:(Op.equal t x y).run P w = .ok r w) :
    (binOp .eql t x y).run P w = .ok (.bool r) w ∧ (binOp .neq t x y).run P w = .ok (.bool (!r)) w:=by
  constructor
  · unfold binOp
    split <;> first
      | exact absurd rfl (hx _ _)
      | exact absurd rfl (hs _)
      | exact absurd rfl (hf _ _)
      | exact absurd rfl (hc _ _ _)
      | (simp [h];done)
      | (simp_all;done)
  · unfold binOp
    split <;> first
      | exact absurd rfl (hx _ _)
      | exact absurd rfl (hs _)
      | exact absurd rfl (hf _ _)
      | exact absurd rfl (hc _ _ _)
      | (simp [h];done)
      | (simp_all;done)
end Go.Ev
end
section
namespace Go.Ev
open Go
variable {P:Program} {m:Mp} {w:World}
theorem okEq_shape {x:V} {u:Value} (h:okEq x = true) (hR:R m x u):(∀ k n,u ≠ .int k n) ∧ (∀ s,u ≠ .string s) ∧ (∀ k n,u ≠ .float k n) ∧ (∀ k a b,u ≠ .complex k a b) ∧ u ≠ .nilIface:=by
  cases x <;> simp only [okEq,Bool.false_eq_true] at h <;> simp only [R] at hR
  all_goals first
    | (subst hR;simp;done)
    | (obtain ⟨_,rfl,_⟩:=hR;simp;done)
    | (obtain ⟨_,_,rfl⟩:=hR;simp;done)
    | (obtain ⟨_,_,_,rfl,_⟩:=hR;simp;done)
    | (obtain ⟨_,_,rfl,_⟩:=hR;simp;done)
theorem bin_sound {n:Nat} {e:Env} {a:Act} (k:EnvR m n e a) (hg:Gl P m) {h:H} (hr:HR m h w) {op:BinOp} {t:TypeId} {x y:Operand} (hx:opOk P n x = true) (hy:opOk P n y = true)
    {v:V} (hv:(binC P op t x y).run e h = some v):∃ u,(do eqGuard op t x y (a.eval x) (a.eval y);binOp op t (a.eval x) (a.eval y):Sem Value).run P w = .ok u w ∧ R m v u:=by
  have hX:=opnd_sound k hg hx
  have hY:=opnd_sound k hg hy
  have fin:(eqGuard op t x y (a.eval x) (a.eval y)).run P w = .ok () w → (∃ u,(binOp op t (a.eval x) (a.eval y)).run P w = .ok u w ∧ R m v u) →
      ∃ u,(do eqGuard op t x y (a.eval x) (a.eval y);binOp op t (a.eval x) (a.eval y):Sem Value).run P w = .ok u w ∧ R m v u:=by
    rintro h1 ⟨u,h2,h3⟩;exact ⟨u,by simp [h1,h2],h3⟩
  have other:P.eqGuardType P.depth t = false → (op = .eql ∧ yesO (eqVal P t h ((opnd x).run e) ((opnd y).run e)) = some v ∨ op = .neq ∧ notO (eqVal P t h ((opnd x).run e) ((opnd y).run e)) = some v) →
      ∃ u,(do eqGuard op t x y (a.eval x) (a.eval y);binOp op t (a.eval x) (a.eval y):Sem Value).run P w = .ok u w ∧ R m v u:=by
    intro hgd hv0
    have val:∀ b,eqVal P t h ((opnd x).run e) ((opnd y).run e) = some b → (eqGuard op t x y (a.eval x) (a.eval y)).run P w = .ok () w ∧
        (binOp .eql t (a.eval x) (a.eval y)).run P w = .ok (.bool b) w ∧ (binOp .neq t (a.eval x) (a.eval y)).run P w = .ok (.bool (!b)) w:=by
      intro b hb
      unfold eqVal at hb
      cases ho:okEq ((opnd x).run e) with
      | false=>rw [ho] at hb;cases hb
      | true=>
        rw [ho] at hb
        obtain ⟨s1,s2,s3,s4,s5⟩:=okEq_shape ho hX
        have heq:=eqT_sound hr 20 t 10000 (by omega) _ _ _ _ b hX hY hb
        exact ⟨eqGuard_off (fun hh=>s5 hh.1) (.inr hgd),binOp_eql s1 s2 s3 s4 heq⟩
    rcases hv0 with ⟨rfl,hv1⟩ | ⟨rfl,hv1⟩
    · obtain ⟨b,hb,rfl⟩:=yesO_some hv1
      obtain ⟨h1,h2,h3⟩:=val b hb
      exact fin h1 ⟨_,h2,by simp [R]⟩
    · obtain ⟨b,hb,rfl⟩:=notO_some hv1
      obtain ⟨h1,h2,h3⟩:=val b hb
      exact fin h1 ⟨_,h3,by simp [R]⟩
  unfold binC at hv
  cases hu:P.underlying t with
  | none=>
    rw [hu] at hv
    simp only at hv
    cases hgd:P.eqGuardType P.depth t with
    | true=>rw [hgd] at hv;cases hv
    | false=>
      rw [hgd] at hv
      simp only [cond_false] at hv
      cases op <;> first | (cases hv;done) | exact other hgd (.inl ⟨rfl,hv⟩) | exact other hgd (.inr ⟨rfl,hv⟩)
  | some ds=>
    rw [hu] at hv
    cases ds
    case int kk=>
      simp only at hv
      have ints:∀ {k1 k2:IntKind} {A B:Int},(opnd x).run e = .i k1 A → (opnd y).run e = .i k2 B → a.eval x = .int k1 A ∧ a.eval y = .int k2 B:=by
        intro k1 k2 A B h1 h2;rw [h1] at hX;rw [h2] at hY;simpa only [R] using And.intro hX hY
      have gd:∀ {k1 k2:IntKind} {A B:Int},a.eval x = .int k1 A → a.eval y = .int k2 B → (eqGuard op t x y (a.eval x) (a.eval y)).run P w = .ok () w:=by
        intro k1 k2 A B h1 h2;rw [h1,h2];exact eqGuard_off (by simp) (.inl (by simp))
      by_cases hsh:op = .shl ∨ op = .shr
      · have hv':as_i_O ((opnd x).run e) (fun k a=>as_i_O ((opnd y).run e) (fun _ b=>shiftOp op k a b) none) none = some v:=by
          rcases hsh with rfl | rfl <;> exact hv
        obtain ⟨k1,A,e1,hv1⟩:=as_i_O_some hv'
        obtain ⟨k2,B,e2,hv2⟩:=as_i_O_some hv1
        obtain ⟨i1,i2⟩:=ints e1 e2
        refine fin (gd i1 i2) ?_
        rw [i1,i2];exact shift_sound t hsh hv2
      · have hv':as_i_O ((opnd x).run e) (fun k a=>as_i_O ((opnd y).run e) (fun k' b=>iteO (kEq k k') ((intOp op).run k a b) none) none) none = some v:=by
          cases op <;> first | exact hv | exact absurd (.inl rfl) hsh | exact absurd (.inr rfl) hsh
        obtain ⟨k1,A,e1,hv1⟩:=as_i_O_some hv'
        obtain ⟨k2,B,e2,hv2⟩:=as_i_O_some hv1
        obtain ⟨hk,hv3⟩:=iteO_some hv2
        obtain ⟨i1,i2⟩:=ints e1 e2
        have:=(kEq_iff _ _).1 hk;subst this
        refine fin (gd i1 i2) ?_
        rw [i1,i2]
        exact intOp_sound t ⟨fun h=>hsh (.inl h),fun h=>hsh (.inr h)⟩ hv3
    case string=>
      simp only at hv
      obtain ⟨l,c,e1,hv1⟩:=as_s_O_some hv
      obtain ⟨l',c',e2,hv2⟩:=as_s_O_some hv1
      rw [e1] at hX;rw [e2] at hY
      refine fin ?_ (strOp_sound t hX hY hv2)
      rw [R_str] at hX hY
      obtain ⟨s,h1,_⟩:=hX;obtain ⟨s',h2,_⟩:=hY
      rw [h1,h2];exact eqGuard_off (by simp) (.inl (by simp))
    case interface ms=>
      simp only at hv
      have val:∀ b,eqIfc P t (isConstOp x || isConstOp y) h ((opnd x).run e) ((opnd y).run e) = some b → (eqGuard op t x y (a.eval x) (a.eval y)).run P w = .ok () w ∧
          (binOp .eql t (a.eval x) (a.eval y)).run P w = .ok (.bool b) w ∧ (binOp .neq t (a.eval x) (a.eval y)).run P w = .ok (.bool (!b)) w:=by
        intro b hb
        generalize hVx:(opnd x).run e = X at hX hb
        generalize hVy:(opnd y).run e = Y at hY hb
        unfold eqIfc at hb
        split at hb
        · cases hc:(isConstOp x || isConstOp y) with
          | false=>rw [hc] at hb;cases hb
          | true=>
            rw [hc] at hb;cases hb
            simp only [R] at hX hY
            rw [hX,hY]
            refine ⟨eqGuard_nil (by simpa using hc),binOp_eql (by simp) (by simp) (by simp) (by simp) ?_⟩
            have nn:∀ D,(Op.equalIn (D + 1) t .nilIface .nilIface).run P w = .ok true w:=fun D=>by simp [Op.equalIn,run_und hu]
            exact nn 9999
        · cases hb
          have heq:=eqT_sound (P:=P) hr 20 t 10000 (by omega) .ni (.ifc _ _) _ _ false hX hY (by unfold eqT;rw [hu])
          simp only [R] at hX hY
          obtain ⟨v',h2,_⟩:=hY
          rw [hX,h2] at heq ⊢
          exact ⟨eqGuard_off (by simp) (.inl (by simp)),binOp_eql (by simp) (by simp) (by simp) (by simp) heq⟩
        · cases hb
          have heq:=eqT_sound (P:=P) hr 20 t 10000 (by omega) (.ifc _ _) .ni _ _ false hX hY (by unfold eqT;rw [hu])
          simp only [R] at hX hY
          obtain ⟨v',h2,_⟩:=hX
          rw [hY,h2] at heq ⊢
          exact ⟨eqGuard_off (by simp) (.inl (by simp)),binOp_eql (by simp) (by simp) (by simp) (by simp) heq⟩
        · have heq:=eqT_sound (P:=P) hr 20 t 10000 (by omega) _ _ _ _ b hX hY hb
          simp only [R] at hX hY
          obtain ⟨v1,h1,_⟩:=hX;obtain ⟨v2,h2,_⟩:=hY
          rw [h1,h2] at heq ⊢
          exact ⟨eqGuard_off (by simp) (.inl (by simp)),binOp_eql (by simp) (by simp) (by simp) (by simp) heq⟩
        · cases hb
      cases op <;> first | (cases hv;done) | skip
      · obtain ⟨b,hb,rfl⟩:=yesO_some hv
        obtain ⟨h1,h2,h3⟩:=val b hb
        exact fin h1 ⟨_,h2,by simp [R]⟩
      · obtain ⟨b,hb,rfl⟩:=notO_some hv
        obtain ⟨h1,h2,h3⟩:=val b hb
        exact fin h1 ⟨_,h3,by simp [R]⟩
    all_goals
      simp only at hv
      cases hgd:P.eqGuardType P.depth t with
      | true=>rw [hgd] at hv;cases hv
      | false=>
        rw [hgd] at hv
        simp only [cond_false] at hv
        cases op <;> first | (cases hv;done) | exact other hgd (.inl ⟨rfl,hv⟩) | exact other hgd (.inr ⟨rfl,hv⟩)
end Go.Ev
end
section
namespace Go.Ev
open Go
variable {P:Program} {m:Mp} {w:World}
theorem over_spec {α:Type}:∀ (l xs:List α) {r:List α},over l xs = some r → xs.length ≤ l.length ∧ r = xs ++ l.drop xs.length
  | l,[],r,h=>by cases l <;> (simp [over] at h;subst h;simp)
  | [],_ :: _,r,h=>by simp [over] at h
  | a :: l,x :: xs,r,h=>by
    simp only [over] at h
    cases e:over l xs with
    | none=>rw [e] at h;cases h
    | some r'=>
      rw [e] at h;cases h
      obtain ⟨h1,rfl⟩:=over_spec l xs e
      exact ⟨by simp;omega,by simp⟩
theorem overAt_spec {α:Type}:∀ (n:Nat) (l xs:List α) {r:List α},overAt n l xs = some r → n + xs.length ≤ l.length ∧ r = l.take n ++ xs ++ l.drop (n + xs.length)
  | 0,l,xs,r,h=>by
    have h':over l xs = some r:=by cases l <;> simpa [overAt] using h
    obtain ⟨h1,rfl⟩:=over_spec l xs h'
    exact ⟨by omega,by simp⟩
  | n + 1,[],xs,r,h=>by simp [overAt] at h
  | n + 1,a :: l,xs,r,h=>by
    simp only [overAt] at h
    cases e:overAt n l xs with
    | none=>rw [e] at h;cases h
    | some r'=>
      rw [e] at h;cases h
      obtain ⟨h1,rfl⟩:=overAt_spec n l xs e
      refine ⟨by simp;omega,?_⟩
      have e1:n + 1 + xs.length = (n + xs.length) + 1:=by omega
      rw [e1];simp
theorem foldSet (off:Nat):∀ (xs:List Value) (k:Nat) (cs:Array Value),off + k + xs.length ≤ cs.size →
    ((xs.zipIdx k).foldl (fun cs (x:Value × Nat)=>cs.setIfInBounds (off + x.2) x.1) cs).toList = cs.toList.take (off + k) ++ xs ++ cs.toList.drop (off + k + xs.length)
  | [],k,cs,h=>by simp
  | x :: xs,k,cs,h=>by
    simp only [List.zipIdx_cons,List.foldl_cons]
    simp only [List.length_cons] at h
    rw [foldSet off xs (k + 1) _ (by simp;omega)]
    have hl:off + k < cs.toList.length:=by simp;omega
    rw [Array.toList_setIfInBounds]
    have e1:(cs.toList.set (off + k) x).take (off + (k + 1)) = cs.toList.take (off + k) ++ [x]:=by
      rw [← Nat.add_assoc,List.take_set,List.take_succ_eq_append_getElem hl]
      rw [List.set_append_right _ _ (by simp;omega)]
      have hm:min (off + k) cs.size = off + k:=by simp at hl;omega
      simp [hm]
    have e2:(cs.toList.set (off + k) x).drop (off + (k + 1) + xs.length) = cs.toList.drop (off + k + (xs.length + 1)):=by
      rw [List.drop_set_of_lt (by omega)];congr 1;omega
    rw [e1,e2];simp
theorem Rl.over {m:Mp} {l xs:List V} {l' xs':List Value} (hl:Rl m l l') (hx:Rl m xs xs') (n:Nat):Rl m (l.take n ++ xs ++ l.drop (n + xs.length)) (l'.take n ++ xs' ++ l'.drop (n + xs'.length)):=by
  have:=hx.length
  rw [this]
  exact ((hl.take n).append hx).append (hl.drop _)
theorem fill_sound {place:Nat → Option (Nat × Nat)}:∀ (ps:List (Nat × V)) (ps':List (Nat × Value)) {cs:List V} {cs':List Value} {r:List V},(ps.map (·.1) = ps'.map (·.1)) → Rl m (ps.map (·.2)) (ps'.map (·.2)) →
    Rl m cs cs' → (∀ x ∈ cs',scalar x) → buildCells place cs ps = some r → ∃ r',Instr.fill place ⟨cs'⟩ ps' = some ⟨r'⟩ ∧ Rl m r r' ∧ ∀ x ∈ r',scalar x
  | [],ps',cs,cs',r,h1,_,hc,hs,hb=>by
    have:ps' = []:=by cases ps' with | nil=>rfl | cons _ _=>simp at h1
    subst this
    have:cs = r:=Option.some.inj (by simpa [buildCells] using hb)
    subst this
    exact ⟨cs',by simp [Instr.fill],hc,hs⟩
  | (i,v) :: ps,ps',cs,cs',r,h1,h2,hc,hs,hb=>by
    cases ps' with
    | nil=>simp at h1
    | cons p ps'=>
      obtain ⟨i',u⟩:=p
      simp only [List.map_cons,List.cons.injEq] at h1
      obtain ⟨rfl,h1⟩:=h1
      simp only [List.map_cons,Rl] at h2
      obtain ⟨u',us,he,hv,h2⟩:=h2
      simp only [List.cons.injEq] at he
      obtain ⟨rfl,rfl⟩:=he
      unfold buildCells at hb
      cases hp:place i with
      | none=>rw [hp] at hb;cases hb
      | some p=>
        obtain ⟨off,sz⟩:=p
        rw [hp] at hb
        simp only at hb
        cases hq:cellsQ v with
        | none=>rw [hq] at hb;cases hb
        | some c=>
          rw [hq] at hb
          simp only at hb
          obtain ⟨c',hc1,hc2,hc3⟩:=cellsQ_spec hv hq
          cases hlen:Nat.beq (lenV1 c) sz with
          | false=>rw [hlen] at hb;cases hb
          | true=>
            rw [hlen] at hb
            simp only [cond_true] at hb
            have hlen:=Nat.eq_of_beq_eq_true hlen
            rw [lenV1_eq] at hlen
            cases ho:overAt off cs c with
            | none=>rw [ho] at hb;cases hb
            | some cs2=>
              rw [ho] at hb
              simp only at hb
              obtain ⟨hle,rfl⟩:=overAt_spec _ _ _ ho
              have hl1:=hc.length;have hl2:=hc2.length
              have hfold:=foldSet off c' 0 ⟨cs'⟩ (by show off + 0 + c'.length ≤ cs'.length;omega)
              obtain ⟨r',hr1,hr2,hr3⟩:=fill_sound ps ps' h1 h2 (hc.over hc2 off) (by
                intro x hx
                simp only [List.mem_append] at hx
                rcases hx with (hx | hx) | hx
                · exact hs x (List.mem_of_mem_take hx)
                · exact hc3 x hx
                · exact hs x (List.mem_of_mem_drop hx)) hb
              refine ⟨r',?_,hr2,hr3⟩
              unfold Instr.fill
              simp only [hp,hc1]
              have hno:(decide ((⟨c'⟩:Array Value).size ≠ sz) || decide (off + (⟨c'⟩:Array Value).size > (⟨cs'⟩:Array Value).size)) = false:=by
                simp only [Bool.or_eq_false_iff,decide_eq_false_iff_not]
                exact ⟨by show ¬ c'.length ≠ sz;omega,by show ¬ (off + c'.length > cs'.length);omega⟩
              rw [if_neg (by rw [hno];simp)]
              rw [← hr1]
              congr 1
              apply Array.toList_inj.1
              rw [← Array.foldl_toList]
              have:(⟨c'⟩:Array Value).zipIdx.toList = c'.zipIdx 0:=by simp
              rw [this,hfold]
              simp
theorem pairs_sound {n:Nat} {e:Env} {a:Act} (k:EnvR m n e a) (hg:Gl P m):∀ {ps:List (Nat × Operand)},(ps.map (·.2)).all (opOk P n) = true →
    ((pairs ps).run e).map (·.1) = (ps.map fun x=>(x.1,a.eval x.2)).map (·.1) ∧ Rl m (((pairs ps).run e).map (·.2)) ((ps.map fun x=>(x.1,a.eval x.2)).map (·.2))
  | [],_=>by simp [pairs,Rl]
  | (i,x) :: ps,h=>by
    simp only [List.map_cons,List.all_cons,Bool.and_eq_true] at h
    obtain ⟨h1,h2⟩:=pairs_sound k hg h.2
    simp only [pairs,List.map_cons,List.cons.injEq,true_and,Rl]
    exact ⟨h1,_,_,⟨rfl,rfl⟩,opnd_sound k hg h.1,h2⟩
theorem nthP_eq:∀ (l:List (Nat × Nat)) (i:Nat),nthP l i = l[i]?
  | [],i=>by cases i <;> rfl
  | a :: l,0=>rfl
  | a :: l,i + 1=>by rw [nthP,nthP_eq l i];rfl
theorem placesT_eq:∀ (fs:List Field) (pl:List (Nat × Nat)),placesT P fs = some pl → fs.mapM (fun f=>(P.info? f.type).map fun i=>(f.offset,i.size)) = some pl
  | [],pl,h=>by simp [placesT] at h;subst h;simp
  | f :: fs,pl,h=>by
    unfold placesT at h
    cases hn:sizeT P f.type with
    | none=>rw [hn] at h;cases h
    | some n=>
      cases hl:placesT P fs with
      | none=>rw [hn,hl] at h;cases h
      | some l=>
        rw [hn,hl] at h;cases h
        obtain ⟨i,hi,rfl⟩:=sizeT_info hn
        simp [List.mapM_cons,hi,placesT_eq fs l hl]
theorem cst_cells {z:Value} {l:List V} (h:cellsQ (cst z) = some l):∃ l',z.cells = ⟨l'⟩ ∧ Rl m l l' ∧ ∀ x ∈ l',scalar x:=cellsQ_spec (cst_sound m z) h
theorem build_sound {n:Nat} {e:Env} {a:Act} (k:EnvR m n e a) (hg:Gl P m) {t:TypeId} {ps:Array (Nat × Operand)} (hx:(ps.toList.map (·.2)).all (opOk P n) = true) {h:H} {v:V}
    (hv:(buildC P t ps.toList).run e h = some v):∃ u,(Instr.build t (ps.map fun (i,x)=>(i,a.eval x))).run P w = .ok u w ∧ R m v u:=by
  obtain ⟨p1,p2⟩:=pairs_sound k hg hx
  have hps:(ps.map fun (i,x)=>(i,a.eval x)).toList = ps.toList.map fun x=>(x.1,a.eval x.2):=by simp
  unfold buildC at hv
  cases hz:zeroT P t with
  | none=>rw [hz] at hv;cases hv
  | some z=>
    cases hu:P.underlying t with
    | none=>rw [hz,hu] at hv;cases hv
    | some ds=>
      rw [hz,hu] at hv
      obtain ⟨uz,hzr,rfl,it,hit,hzi⟩:=zeroT_run (w:=w) hz
      have fin:∀ (place:Nat → Option (Nat × Nat)) (zc:List V),cellsQ (cst uz) = some zc → aggO (buildCells place zc ((pairs ps.toList).run e)) = some v → (∀ r',Instr.fill place uz.cells (ps.toList.map fun x=>(x.1,a.eval x.2)) = some r' → P.built t (ps.map fun (i,x)=>(i,a.eval x)).toList = some r') →
          ∃ u,(Instr.build t (ps.map fun (i,x)=>(i,a.eval x))).run P w = .ok u w ∧ R m v u:=by
        intro place zc hzc hv hb
        obtain ⟨l,hl,rfl⟩:=aggO_some hv
        obtain ⟨zc',hz1,hz2,hz3⟩:=cst_cells (m:=m) hzc
        obtain ⟨r',hr1,hr2,hr3⟩:=fill_sound _ _ p1 p2 hz2 hz3 hl
        rw [← hz1] at hr1
        exact ⟨.agg ⟨r'⟩,run_build w t _ _ (hb _ hr1),by simp only [R];exact ⟨r',rfl,hr2,hr3⟩⟩
      cases ds <;> simp only at hv <;> (try (cases hv;done))
      case struct fs=>
        cases hzc:cellsQ (cst uz) with
        | none=>rw [hzc] at hv;cases hv
        | some zc=>
          rw [hzc] at hv
          simp only at hv
          cases hp:placesT P fs.toList with
          | none=>rw [hp] at hv;cases hv
          | some pl=>
            rw [hp] at hv
            simp only at hv
            refine fin (fun i=>pl[i]?) zc hzc ?_ ?_
            · rw [show (fun i=>pl[i]?) = nthP pl from funext fun i=>(nthP_eq pl i).symm];exact hv
            · intro r' hr'
              rw [hps]
              have hpl:fs.toList.mapM (fun f=>(P.info? f.type).map fun i=>(f.offset,i.size)) = some pl:=placesT_eq _ _ hp
              simp only [Program.built,hit,hu,hzi,hpl]
              simpa using hr'
      case array len el=>
        cases hzc:cellsQ (cst uz) with
        | none=>rw [hzc] at hv;cases hv
        | some zc=>
          rw [hzc] at hv
          simp only at hv
          cases hn:sizeT P el with
          | none=>rw [hn] at hv;cases hv
          | some sz=>
            rw [hn] at hv
            simp only at hv
            obtain ⟨ie,hie,rfl⟩:=sizeT_info hn
            refine fin (fun i=>some (i * ie.size,ie.size)) zc hzc hv ?_
            intro r' hr'
            rw [hps]
            simp only [Program.built,hit,hu,hzi,hie]
            exact hr'
end Go.Ev
end
section
namespace Go.Ev
open Go
variable {P:Program} {m:Mp} {w:World}
theorem R_p {b:Id} {o:Nat} {u:Value} (h:R m (.p b o) u):∃ l,m b = some l ∧ u = .pointer (some ⟨l.blk,l.base + o,none⟩):=by simpa only [R] using h
theorem R_i {k:IntKind} {n:Int} {u:Value} (h:R m (.i k n) u):u = .int k n:=by simpa only [R] using h
theorem R_b {b:Bool} {u:Value} (h:R m (.b b) u):u = .bool b:=by simpa only [R] using h
theorem R_tup {l:List V} {u:Value} (h:R m (.tup l) u):∃ l',u = .tuple ⟨l'⟩ ∧ Rl m l l':=by simpa only [R] using h
theorem max_sound:∀ (l:List V) (l':List Value) {x:V} {u:Value} {v:V},R m x u → Rl m l l' → fold2 max2 x l = some v → ∃ u',(l'.foldlM Builtin.max2 u).run P w = .ok u' w ∧ R m v u'
  | [],l',x,u,v,hx,hl,hv=>by
    simp only [Rl] at hl;subst hl
    have:x = v:=Option.some.inj hv
    subst this;exact ⟨u,rfl,hx⟩
  | y :: l,l',x,u,v,hx,hl,hv=>by
    simp only [Rl] at hl;obtain ⟨uy,us,rfl,hy,hl⟩:=hl
    unfold fold2 at hv
    cases hm:max2 x y with
    | none=>rw [hm] at hv;cases hv
    | some z=>
      rw [hm] at hv
      obtain ⟨k,A,rfl,hm1⟩:=as_i_O_some hm
      obtain ⟨k',B,rfl,hm2⟩:=as_i_O_some hm1
      obtain ⟨hk,hm3⟩:=iteO_some hm2
      have:=(kEq_iff _ _).1 hk;subst this
      cases hm3
      have hu:=R_i hx;subst hu
      have hu:=R_i hy;subst hu
      have hz:R m (.i k (bif iLt A B then B else A)) (.int k (if B > A then B else A)):=by
        rw [iLt_iff]
        simp only [R]
        by_cases h:A < B <;> simp [h]
      obtain ⟨u',h1,h2⟩:=max_sound l us hz hl hv
      exact ⟨u',by simp [List.foldlM_cons,Builtin.max2,h1],h2⟩
theorem min_sound:∀ (l:List V) (l':List Value) {x:V} {u:Value} {v:V},R m x u → Rl m l l' → fold2 min2 x l = some v → ∃ u',(l'.foldlM Builtin.min2 u).run P w = .ok u' w ∧ R m v u'
  | [],l',x,u,v,hx,hl,hv=>by
    simp only [Rl] at hl;subst hl
    have:x = v:=Option.some.inj hv
    subst this;exact ⟨u,rfl,hx⟩
  | y :: l,l',x,u,v,hx,hl,hv=>by
    simp only [Rl] at hl;obtain ⟨uy,us,rfl,hy,hl⟩:=hl
    unfold fold2 at hv
    cases hm:min2 x y with
    | none=>rw [hm] at hv;cases hv
    | some z=>
      rw [hm] at hv
      obtain ⟨k,A,rfl,hm1⟩:=as_i_O_some hm
      obtain ⟨k',B,rfl,hm2⟩:=as_i_O_some hm1
      obtain ⟨hk,hm3⟩:=iteO_some hm2
      have:=(kEq_iff _ _).1 hk;subst this
      cases hm3
      have hu:=R_i hx;subst hu
      have hu:=R_i hy;subst hu
      have hz:R m (.i k (bif iLt B A then B else A)) (.int k (if B < A then B else A)):=by
        rw [iLt_iff]
        simp only [R]
        by_cases h:B < A <;> simp [h]
      obtain ⟨u',h1,h2⟩:=min_sound l us hz hl hv
      exact ⟨u',by simp [List.foldlM_cons,Builtin.min2,h1],h2⟩
theorem len_sound {h:H} (hr:HR m h w) {t:TypeId} {x:Operand} {n:Nat} {e:Env} {a:Act} (k:EnvR m n e a) (hg:Gl P m) (hx:opOk P n x = true) {v:V} {ts:List TypeId} {ty:TypeId}
    (hv:(lenC P t x).run e h = some v):∃ u,(Builtin.len_ ⟨t :: ts⟩ ty #[a.eval x]).run P w = .ok u w ∧ R m v u:=by
  have hX:=opnd_sound k hg hx
  have h0:(⟨t :: ts⟩:Array TypeId)[0]? = some t:=by simp
  unfold lenC at hv
  cases hu:P.underlying t with
  | none=>rw [hu] at hv;cases hv
  | some ds=>
    rw [hu] at hv
    cases ds <;> simp only at hv <;> (try (cases hv;done))
    case string=>
      obtain ⟨l,c,e1,hv⟩:=as_s_O_some hv
      cases hv
      rw [e1,R_str] at hX
      obtain ⟨s,hs,hb,_⟩:=hX
      have:=str_size hb
      exact ⟨_,by rw [hs];simp [Builtin.len_,run_und hu,goInt];rfl,by simp [R,this]⟩
    case array len el=>
      cases hv
      exact ⟨_,by simp [Builtin.len_,run_und hu,goInt];rfl,by simp [R]⟩
    case pointer el=>
      cases hu2:P.underlying el with
      | none=>rw [hu2] at hv;cases hv
      | some d2=>
        rw [hu2] at hv
        cases d2 <;> simp only at hv <;> (try (cases hv;done))
        cases hv
        exact ⟨_,by simp [Builtin.len_,run_und hu,run_und hu2,goInt];rfl,by simp [R]⟩
    case slice el=>
      rcases as_sl_O_of hv with ⟨b,o,l,z,e1,hv⟩ | ⟨_,hv⟩
      · cases hv
        rw [e1] at hX;simp only [R] at hX
        obtain ⟨ll,cap,_,hs,_⟩:=hX
        exact ⟨_,by rw [hs];simp [Builtin.len_,run_und hu,goInt];rfl,by simp [R]⟩
      · rcases as_sn_O_of hv with ⟨e1,hv⟩ | ⟨_,hv⟩
        · cases hv
          rw [e1] at hX;simp only [R] at hX
          exact ⟨_,by rw [hX];simp [Builtin.len_,run_und hu,goInt];rfl,by simp [R]⟩
        · obtain ⟨e1,hv⟩:=as_se_O_some hv
          cases hv
          rw [e1] at hX;simp only [R] at hX
          obtain ⟨ad,cap,hs⟩:=hX
          exact ⟨_,by rw [hs];simp [Builtin.len_,run_und hu,goInt];rfl,by simp [R]⟩
    case map kt et=>
      rcases as_mp_O_of hv with ⟨b,e1,hv⟩ | ⟨_,hv⟩
      · cases he:entsOf h b with
        | none=>rw [he] at hv;cases hv
        | some p=>
          obtain ⟨es,c⟩:=p
          rw [he] at hv
          cases hv
          obtain ⟨l,es',_,hl,hm,hes⟩:=entsOf_some hr he
          rw [e1] at hX;simp only [R] at hX
          obtain ⟨l2,hl2,hs⟩:=hX
          rw [hl] at hl2;cases hl2
          have:=hes.length
          exact ⟨_,by rw [hs];simp [Builtin.len_,run_und hu,run_getMap hm,goInt];rfl,by simp [R,this]⟩
      · obtain ⟨e1,hv⟩:=as_mn_O_some hv
        cases hv
        rw [e1] at hX;simp only [R] at hX
        exact ⟨_,by rw [hX];simp [Builtin.len_,run_und hu,goInt];rfl,by simp [R]⟩
end Go.Ev
end
section
namespace Go.Ev
open Go
variable {P:Program} {m:Mp} {w:World}
theorem cellsOf_sizeT {t:TypeId} {n:Nat} (h:sizeT P t = some n):P.cellsOf t = n:=by
  obtain ⟨i,h1,h2⟩:=sizeT_info h
  simp [Program.cellsOf,h1,h2]
theorem liesAt_row {e:TypeId} {s off n cells:Nat} (hs:P.cellsOf e = s) (h0:0 < s) (ho:off % s = 0) (hn:off + n * s ≤ cells):liesAt P P.depth e (cells / P.cellsOf e) off e n = true:=by
  have hd:P.depth = (2 * (P.types.size + Made.depth) + 1) + 1:=rfl
  have h1:off / s + n ≤ cells / s:=by
    rw [Nat.le_div_iff_mul_le h0,Nat.add_mul]
    have:=Nat.div_add_mod off s
    rw [ho,Nat.mul_comm] at this
    omega
  have h2:s ≠ 0:=by omega
  rw [hd]
  simp only [liesAt,Bool.or_eq_true]
  left
  rw [hd]
  simp [rowAt,hs,h2,ho,h1,sameLayout]
theorem rd1_size {h:H} (k:HR m h w) {b:Id} {o:Nat} {v:V} {l:Loc} (hl:m b = some l) (hv:rd1 h b o = some v):∃ C t fz,w.heap[l.blk]? = some (.cells C t fz) ∧ l.base + o < C.size:=by
  unfold rd1 at hv
  cases hb:mget b h.mem with
  | none=>rw [hb] at hv;cases hv
  | some ob=>
    rw [hb] at hv
    cases ob with
    | map _ _=>cases hv
    | siter _ _ _=>cases hv
    | miter _ _ _ _=>cases hv
    | cells sz els f ro=>
      have hv1:(Option.rec (motive:=fun _=>Option V) none (fun el=>nthV el (Nat.mod o sz)) (nthL els (Nat.div o sz)):Option V) = some v:=hv
      rw [nthL_eq] at hv1
      cases he:els[Nat.div o sz]? with
      | none=>rw [he] at hv1;cases hv1
      | some el=>
        rw [he] at hv1
        have hv2:nthV el (o % sz) = some v:=hv1
        rw [nthV_eq] at hv2
        obtain ⟨l2,hl2,C,t2,fz,hcs⟩:=k.obj _ _ hb
        rw [hl] at hl2;cases hl2
        have hlt:=(List.getElem?_eq_some_iff.1 hv2).1
        have hlen:=hcs.each el (List.mem_of_getElem? he)
        have hf:=flat_get hcs.each he (o % sz) (by omega)
        rw [hv2] at hf
        obtain ⟨u',hu',_,_⟩:=hcs.val _ _ hf
        have hi:Nat.div o sz * sz + o % sz = o:=by
          have:=Nat.div_add_mod o sz;rw [Nat.mul_comm] at this;exact this
        rw [hi] at hu'
        exact ⟨C,t2,fz,hcs.at_,(Array.getElem?_eq_some_iff.1 hu').1⟩
theorem shape_of {B:Nat} {C:Array Value} {t:TypeId} {fz:Nat × Nat} (h:w.heap[B]? = some (.cells C t fz)):w.shape? B = some (t,C.size):=by simp [World.shape?,h]
theorem toUnsafe_sound {h:H} (k:HR m h w) {s d t:TypeId} {n o:Nat} {b:Id} {u:Value} {v:V} (hs:P.underlying s = some (.pointer t)) (hd:P.underlying d = some .unsafePointer) (hn:sizeT P t = some (n + 1))
    (hx:R m (.p b o) u) (hv:rd1 h b o = some v):(convert s d u).run P w = .ok u w:=by
  simp only [R] at hx
  obtain ⟨l,hl,rfl⟩:=hx
  obtain ⟨C,t2,fz,h1,h2⟩:=rd1_size k hl hv
  have hsh:=shape_of h1
  have h3:¬ C.size ≤ l.base + o:=by omega
  simp [convert,run_und hs,run_und hd,Conv.unsafePointer,Conv.seenAt,viewAt,hsh,cellsIn,sizeT_run hn,h3]
theorem liesAt_field {ty u:TypeId} {szb sz off cells r:Nat} (hf:fieldB P ty u szb r = true) (hn:sizeT P u = some (sz + 1)) (hal:off % szb = r) (hlt:off / szb < cells / szb):liesAt P P.depth ty (cells / P.cellsOf ty) off u 1 = true:=by
  unfold fieldB at hf
  split at hf
  case h_2=>cases hf
  rename_i n fs hs hu
  simp only [Bool.and_eq_true,Bool.not_eq_true',List.any_eq_true] at hf
  obtain ⟨h1,h2,f,hfm,h3,h4⟩:=hf
  have h1:=Nat.eq_of_beq_eq_true h1
  have h3:=Nat.eq_of_beq_eq_true h3
  have h4:=Nat.eq_of_beq_eq_true h4
  subst h1
  have hc:P.cellsOf ty = n + 1:=cellsOf_sizeT hs
  have hcu:P.cellsOf u = sz + 1:=cellsOf_sizeT hn
  obtain ⟨i,hi,rfl⟩:=List.getElem_of_mem hfm
  have hd:P.depth = ((2 * (P.types.size + Made.depth)) + 1) + 1:=rfl
  have hlay:sameLayout P P.depth u u = true:=by
    rw [hd];simp [sameLayout]
  have hrow:∀ d,rowAt P (sameLayout P P.depth · u) (d + 1) u 1 0 1 = true:=by
    intro d
    unfold rowAt
    simp [hcu,hlay]
  rw [hd]
  simp only [liesAt,Bool.or_eq_true]
  left
  rw [hd]
  unfold rowAt
  rw [hc]
  simp only [Nat.add_one_ne_zero,if_false,hal,hu,h2,Bool.not_false,Bool.true_and,Bool.or_eq_true,Bool.and_eq_true,decide_eq_true_eq]
  right
  refine ⟨hlt,?_⟩
  rw [Array.any_eq_true]
  refine ⟨i,by simpa using ‹_›,?_⟩
  have e:fs[i]'(by simpa using ‹_›) = fs.toList[i]:=by simp
  rw [e,h3,h4,hcu,Nat.sub_self]
  simp only [Bool.and_eq_true,decide_eq_true_eq]
  exact ⟨⟨Nat.le_refl _,by omega⟩,hd ▸ hrow _⟩
theorem fromUnsafeF_sound {h:H} (k:HR m h w) {s d u:TypeId} {sz o szb ty:Nat} {b f:Id} {els:List (List V)} {x:Value} (hs:P.underlying s = some .unsafePointer) (hd:P.underlying d = some (.pointer u)) (hn:sizeT P u = some (sz + 1))
    (hx:R m (.p b o) x) (hb:mget b h.mem = some (.cells szb els f (.rw ty))) (h1:fieldB P ty u szb (o % szb) = true) (h4:o / szb < els.length):(convert s d x).run P w = .ok x w:=by
  simp only [R] at hx
  obtain ⟨l,hl,rfl⟩:=hx
  obtain ⟨l2,hl2,C,t,fz,hc⟩:=k.obj _ _ hb
  rw [hl] at hl2;cases hl2
  have ht:=hc.typ ty rfl
  subst ht
  have hsh:=shape_of hc.at_
  have hfl:=flat_len hc.each
  have hroom:=hc.room;have hlen:=hc.len;have hal:=hc.al
  have h0:0 < szb:=by
    unfold fieldB at h1
    split at h1
    · simp only [Bool.and_eq_true] at h1
      have:=Nat.eq_of_beq_eq_true h1.1
      omega
    · cases h1
  have hmul:(o / szb + 1) * szb ≤ els.length * szb:=Nat.mul_le_mul_right _ h4
  have hdm:szb * (o / szb) + o % szb = o:=Nat.div_add_mod o szb
  have hml:=Nat.mod_lt o h0
  obtain ⟨q,hq⟩:∃ q,l.base = szb * q:=⟨l.base / szb,by have:=Nat.div_add_mod l.base szb;rw [hal] at this;omega⟩
  have hdiv:(l.base + o) / szb = q + o / szb:=by rw [hq,Nat.mul_add_div h0]
  have hmod:(l.base + o) % szb = o % szb:=by rw [hq,Nat.mul_add_mod]
  have hlt:(l.base + o) / szb < C.size / szb:=by
    rw [hdiv]
    have:q + o / szb + 1 ≤ C.size / szb:=by
      rw [Nat.le_div_iff_mul_le h0]
      have e:(q + o / szb + 1) * szb = szb * q + (o / szb + 1) * szb:=by rw [Nat.add_assoc,Nat.add_mul,Nat.mul_comm q]
      rw [e,← hq]
      omega
    omega
  have hlies:=liesAt_field (P:=P) (cells:=C.size) (off:=l.base + o) h1 hn hmod hlt
  simp [convert,run_und hs,run_und hd,Conv.unsafePointer,Conv.seenAt,viewAt,hsh,sizeT_run hn,variablesAt,hlies]
theorem fromUnsafe_sound {h:H} (k:HR m h w) {s d u:TypeId} {sz o szb ty:Nat} {b f:Id} {els:List (List V)} {x:Value} (hs:P.underlying s = some .unsafePointer) (hd:P.underlying d = some (.pointer u)) (hn:sizeT P u = some (sz + 1))
    (hx:R m (.p b o) x) (hb:mget b h.mem = some (.cells szb els f (.rw ty))) (h1:szb = sz + 1) (h2:ty = u) (h3:o % szb = 0) (h4:o / szb < els.length):(convert s d x).run P w = .ok x w:=by
  simp only [R] at hx
  obtain ⟨l,hl,rfl⟩:=hx
  obtain ⟨l2,hl2,C,t,fz,hc⟩:=k.obj _ _ hb
  rw [hl] at hl2;cases hl2
  have ht:=hc.typ ty rfl
  subst h1;subst h2;subst ht
  have hsh:=shape_of hc.at_
  have hfl:=flat_len hc.each
  have hroom:=hc.room;have hlen:=hc.len;have hal:=hc.al
  have hmul:(o / (sz + 1) + 1) * (sz + 1) ≤ els.length * (sz + 1):=Nat.mul_le_mul_right _ h4
  have hdm:o / (sz + 1) * (sz + 1) = o:=by
    have:=Nat.div_add_mod o (sz + 1);rw [h3,Nat.mul_comm] at this;simpa using this
  rw [Nat.add_mul,hdm] at hmul
  have hlies:=liesAt_row (P:=P) (cells:=C.size) (off:=l.base + o) (n:=1) (cellsOf_sizeT hn) (Nat.succ_pos _) (by rw [Nat.add_mod,hal,h3];simp) (by omega)
  simp [convert,run_und hs,run_und hd,Conv.unsafePointer,Conv.seenAt,viewAt,hsh,sizeT_run hn,variablesAt,hlies]
end Go.Ev
end
