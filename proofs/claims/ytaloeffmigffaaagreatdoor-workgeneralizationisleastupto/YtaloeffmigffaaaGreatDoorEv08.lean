/-
  A part of the proof of the card of WorkGeneralizationIsLeast (second form): lemmas that the text Card uses. No condition of its own.
-/
import Derived.Test.YtaloeffmigffaaaGreatDoorEv07
set_option linter.all false
set_option linter.unusedVariables false
set_option linter.unusedSimpArgs false
section
namespace Go.Ev
open Go
variable {P:Program} {m:Mp} {w:World}
theorem nextN_sound {h:H} (k:HR m h w) {ty:TypeId} {b:Id} {l:Loc} {L:List (V × H)} (hl:m b = some l) (hn:nextN h b = some L) :
    ∃ r ∈ L,∃ u' w' m',(Instr.next (.pointer (some ⟨l.blk,l.base + 0,none⟩)) false ty).run P w = .ok u' w' ∧ Fr m h w m' r.2 w' ∧ R m' r.1 u':=by
  unfold nextN at hn
  split at hn
  · rename_i mi since seen last hb
    obtain ⟨l1,hl1,h0,lm,hlm,hit⟩:=k.obj _ _ hb
    rw [hl] at hl1;cases hl1
    rw [h0]
    split at hn
    · rename_i es clock he
      obtain ⟨l2,es',hb2,hl2,hat,hes⟩:=entsOf_some k he
      have hl2':lm = l2:=by rw [hlm] at hl2;cases hl2;rfl
      subst hl2'
      cases hc:(es.all (fun e=>Nat.ble (Nat.succ e.born) since) && Nat.ble since last) with
      | false=>rw [hc] at hn;cases hn
      | true=>
        rw [hc] at hn
        simp only [cond_true] at hn
        rw [Bool.and_eq_true] at hc
        have hold:∀ x ∈ (⟨es'⟩:Array MapEntry).toList,x.born < since:=by
          have h1:=hes.all (p:=fun n=>Nat.ble (Nat.succ n) since)
          rw [hc.1] at h1
          intro x hx
          have:=(List.all_eq_true.1 h1) x (by simpa using hx)
          exact Nat.le_of_ble_eq_true this
        have hsl:since ≤ last:=Nat.le_of_ble_eq_true hc.2
        have hleft:=hes.filter (p:=fun n=>!seen.any (Nat.beq n))
        have hfl:(leftOf (⟨es'⟩:Array MapEntry) ⟨seen⟩).toList = (es'.filter fun e=>!seen.any (Nat.beq e.born)):=by
          unfold leftOf
          simp only [Array.toList_filter]
          congr 1
          funext e
          congr 1
          rw [Bool.eq_iff_iff];simp
        have hun:unseen seen es = es.filter fun e=>!seen.any (Nat.beq e.born):=rfl
        rw [← hun,← hfl] at hleft
        rcases run_next_at (P:=P) w ty l.blk lm.blk since last ⟨seen⟩ ⟨es'⟩ clock hit hat hold hsl with ⟨hz,hrun⟩ | ⟨x,hx,w1,hw1,hrun⟩
        · have hnil:unseen seen es = []:=by
            have:=hleft.length
            rw [Array.length_toList,hz] at this
            exact List.eq_nil_of_length_eq_zero this.symm
          rw [hnil] at hn
          cases hn
          exact ⟨_,List.mem_singleton.2 rfl,_,w,m,hrun,Fr.refl k,by simp [R,Rl]⟩
        · obtain ⟨i,hi⟩:=List.mem_iff_getElem?.1 hx
          have hlen:=hleft.length
          have hi2:i < (unseen seen es).length:=by
            rw [← hlen];exact (List.getElem?_eq_some_iff.1 hi).1
          obtain ⟨x',hx',hxe⟩:=hleft.get (List.getElem?_eq_getElem hi2)
          rw [hi] at hx';cases hx'
          have hne:unseen seen es ≠ []:=by intro e;rw [e] at hi2;cases hi2
          have hn':some ((unseen seen es).map fun e=>(V.tup [.b true,e.key,e.val],setO h b (.miter mi since (seen ++ [e.born]) clock))) = some L:=by
            cases hu:unseen seen es with
            | nil=>exact absurd hu hne
            | cons a t=>rw [hu] at hn;exact hn
          cases hn'
          generalize hE:(unseen seen es)[i] = E at hxe
          refine ⟨_,List.mem_map.2 ⟨E,by rw [← hE];exact List.getElem_mem hi2,rfl⟩,_,_,m,hrun,?_,?_⟩
          · have hw2:∃ n,w1 = { w with drawn:=n }:=by
              rcases hw1 with rfl | rfl
              · exact ⟨w1.drawn,rfl⟩
              · exact ⟨w.drawn + 1,rfl⟩
            obtain ⟨n,rfl⟩:=hw2
            refine (Fr.drawn k n).trans (Fr.updObj (k.drawn n) hb hl (fun _ _ _ _ e=>by cases e) (fun _ _ _ _ e=>by cases e) (o':=.mapIter (some lm.blk) since ⟨seen ++ [E.born]⟩ clock) ?_ (fun hat2=>⟨h0,lm,hlm,hat2⟩))
            simp [ChangeMaps.setBlock,hxe.2.2]
          · simp only [R,Rl]
            exact ⟨_,rfl,_,_,rfl,rfl,_,_,rfl,hxe.1,_,_,rfl,hxe.2.1,rfl⟩
    · cases hn
  · cases hn
theorem nextOf_some {o:Oper} {x:Operand} {d:Nat} (h:nextOf o = some (x,d)):o.op = .next x false ∧ o.dst = some d ∧ o.guard = none:=by
  unfold nextOf at h
  split at h
  · rename_i h1 h2 h3
    cases h;exact ⟨h1,h2,h3⟩
  · cases h
theorem operN_sound {n:Nat} {e:Env} {a:Act} {call:CallT} (hcall:CallOK P call) (k:EnvR m n e a) (hg:Gl P m) {h:H} (hr:HR m h w) {ops:Array Oper} (hreg:regOk P n ops = true) {i:Nat} {o:Oper} (hi:ops[i]? = some o)
    {K:Act → World → Prop} {Q:Exit → Act → World → Prop} (hb:∀ r ∈ (operN P ops.toList o).run call e h,r ≠ .bad)
    (hn:∀ e' h',Rs.ok e' h' ∈ (operN P ops.toList o).run call e h → ∀ m' a' w',Fr m h w m' h' w' → EnvR m' n e' a' → K a' w'):wpOp P ops Q i K a w:=by
  unfold operN at hb hn
  cases hx:nextOf o with
  | none=>
    rw [hx] at hb hn
    simp only [List.mem_singleton] at hb hn
    cases hv:(operC P ops.toList o).run call e h with
    | bad=>exact absurd hv (hb _ rfl)
    | ok e1 h1=>exact operC_sound hcall k hg hr hreg hi hv (hn e1 h1 hv.symm)
  | some xd=>
    obtain ⟨x,d⟩:=xd
    rw [hx] at hb hn
    obtain ⟨h1,h2,h3⟩:=nextOf_some hx
    obtain ⟨hops,hd⟩:=regOk_get hreg hi
    simp only at hb hn
    have hX:=opnd_sound k hg (show opOk P n x = true by
      rw [h1] at hops;simpa [Op.operands] using hops)
    unfold wpOp
    simp only [hi]
    rw [if_pos (by simp [Region.wanted,h3])]
    refine .inl ?_
    unfold Oper.wp
    split at hb
    · rename_i b hp
      rw [hp] at hX hn
      simp only at hn
      obtain ⟨l,hl,hu⟩:=R_p hX
      cases hN:nextN h b with
      | none=>rw [hN] at hb;exact absurd rfl (hb .bad (List.mem_singleton.2 rfl))
      | some L=>
        rw [hN] at hn
        simp only at hn
        obtain ⟨r,hrm,u',w',m',hrun,hF,hR⟩:=nextN_sound (P:=P) (ty:=o.type) hr hl hN
        have hex:(execOp a.eval o).run P w = .ok (.value u') w':=by
          simp only [Nat.add_zero] at hrun hu
          simp [execOp,h1,hu,hrun,Result.andThen]
        rw [hex,Oper.upon_value,h2]
        rw [h2] at hd
        exact hn _ _ (List.mem_map.2 ⟨r,hrm,rfl⟩) m' _ w' hF ((k.mono hF.le).set (Nat.le_of_ble_eq_true hd) hR)
    · exact absurd rfl (hb .bad (List.mem_singleton.2 rfl))
theorem mem_bindS {k:Env → H → List Rs} {L:List Rs} {e:Env} {h:H} {r:Rs} (h1:Rs.ok e h ∈ L) (h2:r ∈ k e h):r ∈ L.flatMap (bindS k):=
  List.mem_flatMap.2 ⟨_,h1,h2⟩
theorem bad_bindS {k:Env → H → List Rs} {L:List Rs} (h1:Rs.bad ∈ L):Rs.bad ∈ L.flatMap (bindS k):=
  List.mem_flatMap.2 ⟨_,h1,List.mem_singleton.2 rfl⟩
theorem seqN_sound {n:Nat} {call:CallT} (hcall:CallOK P call) {ops:Array Oper} (hreg:regOk P n ops = true) {Q:Exit → Act → World → Prop} :
    ∀ (l:List Oper) (i:Nat) (m:Mp) (e:Env) (a:Act) (h:H) (w:World),ops.toList.drop i = l → EnvR m n e a → Gl P m → HR m h w →
      (∀ r ∈ (seqN P ops.toList l).run call e h,r ≠ .bad) →
      (∀ e' h',Rs.ok e' h' ∈ (seqN P ops.toList l).run call e h → ∀ m' a' w',Fr m h w m' h' w' → EnvR m' n e' a' → Q .normal a' w') → wpOps P ops Q (List.range' i l.length) a w
  | [],i,m,e,a,h,w,hl,k,hg,hr,hb,hn=>hn e h (List.mem_singleton.2 rfl) m a w (Fr.refl hr) k
  | o :: l,i,m,e,a,h,w,hl,k,hg,hr,hb,hn=>by
    have hi:ops[i]? = some o:=by
      have:(ops.toList.drop i)[0]? = some o:=by rw [hl];rfl
      rw [List.getElem?_drop] at this
      simpa using this
    have hl':ops.toList.drop (i + 1) = l:=by
      have:(ops.toList.drop i).drop 1 = l:=by rw [hl];rfl
      rw [List.drop_drop] at this;exact this
    simp only [List.length_cons,List.range'_succ]
    rw [wpOps_cons]
    simp only [seqN] at hb hn
    refine operN_sound hcall k hg hr hreg hi (fun r hr1 e1=>hb .bad (bad_bindS (e1 ▸ hr1)) rfl) ?_
    intro e1 h1 hm1 m1 a1 w1 hF1 hE1
    exact seqN_sound hcall hreg l (i + 1) m1 e1 a1 h1 w1 hl' hE1 (hg.mono hF1.le) hF1.hr (fun r hr2=>hb r (mem_bindS hm1 hr2))
      (fun e2 h2 hm2 m2 a2 w2 hF2 hE2=>hn e2 h2 (mem_bindS hm1 hm2) m2 a2 w2 (hF1.trans hF2) hE2)
theorem mem_bindC {k:Env → H → List CR} {L:List CR} {c r:CR} (h1:c ∈ L) (h2:r ∈ bindC k c):r ∈ L.flatMap (bindC k):=
  List.mem_flatMap.2 ⟨_,h1,h2⟩
theorem codeN_sound {n lf:Nat} {call:CallT} (hcall:CallOK P call) (hmix:P.follows .mixedOrders = true):∀ (c:Code),codeOk P n c = true →
    ∀ (m:Mp) (e:Env) (a:Act) (h:H) (w:World) (Q:Exit → Act → World → Prop),EnvR m n e a → Gl P m → HR m h w → (∀ r ∈ (codeN P lf c).run call e h,CQ m h w n Q r) → c.wp P Q a w:=by
  intro c
  induction c with
  | skip=>intro hc m e a h w Q k hg hr hq;exact wp_skip (hq _ (List.mem_singleton.2 rfl) m a w (Fr.refl hr) k)
  | label l=>intro hc m e a h w Q k hg hr hq;exact wp_label (hq _ (List.mem_singleton.2 rfl) m a w (Fr.refl hr) k)
  | ret=>intro hc m e a h w Q k hg hr hq;exact wp_ret (hq _ (List.mem_singleton.2 rfl) m a w (Fr.refl hr) k)
  | exit id=>intro hc m e a h w Q k hg hr hq;exact wp_exit (hq _ (List.mem_singleton.2 rfl) m a w (Fr.refl hr) k)
  | seq x y ihx ihy=>
    intro hc m e a h w Q k hg hr hq
    simp only [codeOk,Bool.and_eq_true] at hc
    refine wp_seq (ihx hc.1 m e a h w _ k hg hr ?_)
    simp only [codeN] at hq
    intro r hr1
    cases r with
    | bad=>exact (hq .bad (mem_bindC hr1 (List.mem_singleton.2 rfl))).elim
    | nrm e1 h1=>
      intro m' a' w' hF hE
      exact ihy hc.2 m' e1 a' h1 w' Q hE (hg.mono hF.le) hF.hr (fun r2 hr2=>(hq r2 (mem_bindC hr1 hr2)).of_fr hF)
    | ext i e1 h1=>exact hq _ (mem_bindC hr1 (List.mem_singleton.2 rfl))
    | ret e1 h1=>exact hq _ (mem_bindC hr1 (List.mem_singleton.2 rfl))
  | cond c x y ihx ihy=>
    intro hc m e a h w Q k hg hr hq
    simp only [codeOk,Bool.and_eq_true] at hc
    simp only [codeN] at hq
    have hC:=opnd_sound k hg hc.1
    split at hq
    · rename_i hb
      rw [hb] at hC;simp only [R] at hC
      exact wp_cond hC (ihx hc.2.1 m e a h w Q k hg hr hq)
    · rename_i hb
      rw [hb] at hC;simp only [R] at hC
      exact wp_cond hC (ihy hc.2.2 m e a h w Q k hg hr hq)
    · exact (hq .bad (List.mem_singleton.2 rfl)).elim
  | block id x ih=>
    intro hc m e a h w Q k hg hr hq
    simp only [codeOk] at hc
    simp only [codeN] at hq
    refine wp_block (ih hc m e a h w _ k hg hr ?_)
    intro r hr1
    have hq1:=hq (blkC id r) (List.mem_map.2 ⟨r,hr1,rfl⟩)
    cases r with
    | bad=>exact hq1
    | nrm e1 h1=>exact hq1
    | ret e1 h1=>exact hq1
    | ext j e1 h1=>
      intro m' a' w' hF hE
      show (if j = id then Q .normal a' w' else Q (.exit j) a' w')
      simp only [blkC] at hq1
      cases hj:Nat.beq j id with
      | true=>rw [hj] at hq1;rw [if_pos (Nat.eq_of_beq_eq_true hj)];exact hq1 m' a' w' hF hE
      | false=>rw [hj] at hq1;rw [if_neg (Nat.ne_of_beq_eq_false hj)];exact hq1 m' a' w' hF hE
  | loop x ih=>
    intro hc m e a h w Q k hg hr hq
    simp only [codeOk] at hc
    simp only [codeN] at hq
    refine wp_loop_rounds lf ?_
    have key:∀ (N:Nat) (m:Mp) (e:Env) (a:Act) (h:H) (w:World),EnvR m n e a → Gl P m → HR m h w → (∀ r ∈ loopNN ((codeN P lf x).run call) N e h,CQ m h w n Q r) → Code.rounds P x Q N a w:=by
      intro N
      induction N with
      | zero=>intro m e a h w k hg hr hq;exact (hq .bad (List.mem_singleton.2 rfl)).elim
      | succ N ihN=>
        intro m e a h w k hg hr hq
        rw [rounds_succ]
        refine ih hc m e a h w _ k hg hr ?_
        intro r hr1
        cases r with
        | bad=>exact (hq .bad (mem_bindC hr1 (List.mem_singleton.2 rfl))).elim
        | nrm e1 h1=>
          intro m' a' w' hF hE
          exact ihN m' e1 a' h1 w' hE (hg.mono hF.le) hF.hr (fun r2 hr2=>(hq r2 (mem_bindC hr1 hr2)).of_fr hF)
        | ext i e1 h1=>exact hq _ (mem_bindC hr1 (List.mem_singleton.2 rfl))
        | ret e1 h1=>exact hq _ (mem_bindC hr1 (List.mem_singleton.2 rfl))
    exact key lf m e a h w k hg hr hq
  | region id ops d=>
    intro hc m e a h w Q k hg hr hq
    cases d with
    | false=>
      simp only [codeOk] at hc
      simp only [codeN] at hq
      refine wp_region ?_
      have:=seqN_sound (Q:=Q) hcall hc ops.toList 0 m e a h w (by simp) k hg hr (fun r hr1 e1=>by subst e1;exact hq .bad (List.mem_map.2 ⟨_,hr1,rfl⟩))
        (fun e1 h1 hm=>hq (.nrm e1 h1) (List.mem_map.2 ⟨_,hm,rfl⟩))
      rw [List.range_eq_range']
      simpa using this
    | true=>
      simp only [codeN] at hq
      exact codeE_sound hcall hmix _ hc m e a h w Q k hg hr (hq _ (List.mem_singleton.2 rfl))
  | _=>intro hc m e a h w Q k hg hr hq;simp only [codeN] at hq;exact (hq .bad (List.mem_singleton.2 rfl)).elim
end Go.Ev
end
section
namespace Go.Ev
open Go
noncomputable def subGo (h:H):Nat → List V → Mem → List Id → Mem × List Id
  | 0,_,M,ms=>(M,ms)
  | _ + 1,[],M,ms=>(M,ms)
  | n + 1,v :: l,M,ms=>match v with
    | .agg l0=>subGo h n (l0 ++ l) M ms
    | .tup l0=>subGo h n (l0 ++ l) M ms
    | .sl b _ _ _=>(match mget b M with
      | some _=>subGo h n l M ms
      | none=>match mget b h.mem with
        | some (.cells sz els f _)=>subGo h n (els.flatten ++ l) (mput b (some (.cells sz els f .fz)) M) ms
        | _=>subGo h n l M ms)
    | .mp b=>(match mget b M with
      | some _=>subGo h n l M ms
      | none=>match mget b h.mem with
        | some (.map es c)=>subGo h n (es.map (·.key) ++ (es.map (·.val) ++ l)) (mput b (some (.map es c)) M) (b :: ms)
        | _=>subGo h n l M ms)
    | _=>subGo h n l M ms
def lookI (b:Id):List (Id × Id) → Option Id
  | []=>none
  | (a,c) :: l=>bif Id.beq a b then some c else lookI b l
def rho (lim:Nat) (pr:List (Id × Id)) (b:Id):Option Id:=bif Nat.ble (Nat.succ b.toNat) lim then some b else lookI b pr
mutual
def renV (ρ:Id → Option Id):V → Option V
  | .sl b o l z=>(match ρ b with | some c=>some (.sl c o l z) | none=>none)
  | .agg l=>(match renL ρ l with | some l'=>some (.agg l') | none=>none)
  | .tup l=>(match renL ρ l with | some l'=>some (.tup l') | none=>none)
  | .b x=>some (.b x)
  | .i k n=>some (.i k n)
  | .s l c=>some (.s l c)
  | .pn=>some .pn
  | .sn=>some .sn
  | .se=>some .se
  | .mn=>some .mn
  | .nf=>some .nf
  | .ni=>some .ni
  | .top=>none
  | .p _ _=>none
  | .mp _=>none
  | .fn _ _ _=>none
  | .ifc _ _=>none
def renL (ρ:Id → Option Id):List V → Option (List V)
  | []=>some []
  | v :: l=>(match renV ρ v,renL ρ l with | some v',some l'=>some (v' :: l') | _,_=>none)
end
def renLL (ρ:Id → Option Id):List (List V) → Option (List (List V))
  | []=>some []
  | v :: l=>(match renL ρ v,renLL ρ l with | some v',some l'=>some (v' :: l') | _,_=>none)
def nextIds:Nat → Id → Option (List Id × Id)
  | 0,i=>some ([],i)
  | n + 1,i=>(match i.succ with
    | some j=>(match nextIds n j with | some (l,k)=>some (i :: l,k) | none=>none)
    | none=>none)
noncomputable def colGo (hp:H) (lim:Nat):Nat → List V → List Id → List Id
  | 0,_,acc=>acc
  | _ + 1,[],acc=>acc
  | n + 1,v :: l,acc=>match v with
    | .agg l0=>colGo hp lim n (l0 ++ l) acc
    | .tup l0=>colGo hp lim n (l0 ++ l) acc
    | .sl b _ _ _=>bif Nat.ble (Nat.succ b.toNat) lim || memI b acc then colGo hp lim n l acc else (match mget b hp.mem with
      | some (.cells _ els _ _)=>colGo hp lim n (els.flatten ++ l) (acc ++ [b])
      | _=>colGo hp lim n l acc)
    | _=>colGo hp lim n l acc
def nodupI:List Id → Bool
  | []=>true
  | a :: l=>!memI a l && nodupI l
abbrev Ob:=Nat × Nat × List (List V)
noncomputable def renObs (hp:H) (ρ:Id → Option Id):List Id → Option (List Id × List Ob)
  | []=>some ([],[])
  | b :: l=>(match mget b hp.mem with
    | some (.cells sz els f (.rw ty))=>(match renLL ρ els,renObs hp ρ l with
      | some els',some (fs,obs)=>some (f :: fs,(sz,ty,els') :: obs)
      | _,_=>none)
    | _=>none)
noncomputable def canon (lim fuel:Nat) (nw:List Id) (hp:H) (v:V):Option (V × List Ob):=
  match colGo hp lim fuel [v] [] with
  | olds=>bif Nat.beq (lenL' olds) (lenL' nw) && nodupI olds then
      (match renV (rho lim (olds.zip nw)) v,renObs hp (rho lim (olds.zip nw)) olds with
        | some v',some (fs,obs)=>bif nodupI fs then some (v',obs) else none
        | _,_=>none)
      else none
where lenL' (l:List Id):Nat:=l.length
def beqObs:List Ob → List Ob → Bool
  | [],[]=>true
  | (n,t,a) :: l,(n',t',b) :: r=>Nat.beq n n' && (Nat.beq t t' && (beqLL a b && beqObs l r))
  | _,_=>false
def eqCan (x y:V × List Ob):Bool:=V.beq x.1 y.1 && beqObs x.2 y.2
def sameEs:List Ent → List Ent → Bool
  | [],[]=>true
  | a :: l,b :: r=>V.beq a.key b.key && (V.beq a.val b.val && (Nat.beq a.born b.born && sameEs l r))
  | _,_=>false
def plainV (lim:Nat) (v:V):Bool:=match renV (rho lim []) v with | some v'=>V.beq v' v | none=>false
def plainEs (lim:Nat):List Ent → Bool
  | []=>true
  | e :: l=>plainV lim e.key && (plainV lim e.val && plainEs lim l)
noncomputable def okMaps (lim:Nat) (h hp:H):List Id → Bool
  | []=>true
  | b :: l=>(match mget b h.mem,mget b hp.mem with
    | some (.map es c),some (.map es' c')=>sameEs es es' && (Nat.beq c c' && plainEs lim es)
    | _,_=>false) && okMaps lim h hp l
noncomputable def putObs:List Id → List Ob → Mem → Mem
  | b :: nw,(sz,ty,els) :: obs,M=>mput b (some (.cells sz els b (.rw ty))) (putObs nw obs M)
  | _,_,M=>M
variable (P:Program)
noncomputable def leaveC (fn:Func):CR → VH
  | .ret e h=>leave0 P fn.results.toList e h
  | .nrm e h=>leave0 P fn.results.toList e h
  | _=>.bad
noncomputable def okOut (fn:Func) (lim fuel:Nat) (nw:List Id) (cn:V × List Ob) (h:H) (ms:List Id) (r:CR):Bool:=
  match leaveC P fn r with
  | .ok v hp=>okMaps lim h hp ms && (match canon lim fuel nw hp v with | some c=>eqCan c cn | none=>false)
  | .bad=>false
noncomputable def allOut (p:CR → Bool):List CR → Bool
  | []=>true
  | r :: l=>p r && allOut p l
noncomputable def ndB (lf fuel:Nat) (fn:Func) (c:Code):FOp:=⟨fun call args h=>iteH (Nat.ble (lenV1 args) fn.ntmps)
    (match subGo h fuel args Mem.new [] with
    | (M,ms)=>match (codeN P lf c).run call (putArgs 0 args Env.new) ⟨M,h.fams,h.next⟩ with
      | []=>.bad
      | r :: rs=>match leaveC P fn r with
        | .bad=>.bad
        | .ok v1 h1=>match nextIds (colGo h1 h.next.toNat fuel [v1] []).length h.next with
          | none=>.bad
          | some (nw,nx)=>match canon h.next.toNat fuel nw h1 v1 with
            | none=>.bad
            | some cn=>bif allOut (okOut P fn h.next.toNat fuel nw cn h ms) (r :: rs) then .ok cn.1 ⟨putObs nw cn.2 h.mem,h.fams,nx⟩ else .bad) .bad⟩
noncomputable def ndF (lf fuel f:Nat):FOp:=
  match P.funcs[f]? with
  | none=>badF
  | some fn=>match fn.body with
    | none=>badF
    | some c=>ndB P lf fuel fn c
end Go.Ev
end
section
namespace Go.Ev
open Go
variable {P:Program} {m:Mp} {w:World}
def SubOf (h:H) (M:Mem) (ms:List Id):Prop:=∀ b ob,mget b M = some ob →
  (∃ sz els f ro,ob = .cells sz els f .fz ∧ mget b h.mem = some (.cells sz els f ro)) ∨ (∃ es c,ob = .map es c ∧ mget b h.mem = some (.map es c) ∧ b ∈ ms)
theorem selM5_all (d:D8) (x:M4):selM5 d (N8.all x) = x:=by cases d <;> rfl
theorem selM4_all (d:D8) (x:M3):selM4 d (N8.all x) = x:=by cases d <;> rfl
theorem selM3_all (d:D8) (x:M2):selM3 d (N8.all x) = x:=by cases d <;> rfl
theorem selM2_all (d:D8) (x:M1):selM2 d (N8.all x) = x:=by cases d <;> rfl
theorem selM1_all (d:D8) (x:Option O):selM1 d (N8.all x) = x:=by cases d <;> rfl
theorem mget_new (b:Id):mget b Mem.new = none:=by
  obtain ⟨a,b,c,d,e⟩:=b
  simp [mget,Mem.new,selM5_all,selM4_all,selM3_all,selM2_all,selM1_all]
theorem SubOf.put {h:H} {M:Mem} {ms:List Id} (k:SubOf h M ms) {b:Id} {sz:Nat} {els:List (List V)} {f:Id} {ro:Rw} (hb:mget b h.mem = some (.cells sz els f ro)):SubOf h (mput b (some (.cells sz els f .fz)) M) ms:=by
  intro b1 ob h1
  by_cases e:b1 = b
  · subst e;rw [mget_mput] at h1;cases h1;exact .inl ⟨_,_,_,_,rfl,hb⟩
  · rw [mget_mput_ne e] at h1;exact k b1 ob h1
theorem SubOf.putM {h:H} {M:Mem} {ms:List Id} (k:SubOf h M ms) {b:Id} {es:List Ent} {c:Nat} (hb:mget b h.mem = some (.map es c)):SubOf h (mput b (some (.map es c)) M) (b :: ms):=by
  intro b1 ob h1
  by_cases e:b1 = b
  · subst e;rw [mget_mput] at h1;cases h1;exact .inr ⟨_,_,rfl,hb,List.mem_cons_self⟩
  · rw [mget_mput_ne e] at h1
    rcases k b1 ob h1 with h2 | ⟨es1,c1,h2,h3,h4⟩
    · exact .inl h2
    · exact .inr ⟨es1,c1,h2,h3,List.mem_cons_of_mem _ h4⟩
theorem subGo_ok {h:H}:∀ (n:Nat) (l:List V) (M:Mem) (ms:List Id),SubOf h M ms → SubOf h (subGo h n l M ms).1 (subGo h n l M ms).2
  | 0,_,M,ms,k=>k
  | _ + 1,[],M,ms,k=>k
  | n + 1,v :: l,M,ms,k=>by
    unfold subGo
    split
    · exact subGo_ok n _ M ms k
    · exact subGo_ok n _ M ms k
    · rename_i b _ _ _
      split
      · exact subGo_ok n _ M ms k
      · split
        · rename_i h1
          exact subGo_ok n _ _ ms (k.put h1)
        · exact subGo_ok n _ M ms k
    · rename_i b
      split
      · exact subGo_ok n _ M ms k
      · split
        · rename_i h1
          exact subGo_ok n _ _ _ (k.putM h1)
        · exact subGo_ok n _ M ms k
    · exact subGo_ok n _ M ms k
theorem HR.subOf {h:H} {M:Mem} {ms:List Id} (k:HR m h w) (s:SubOf h M ms):HR m ⟨M,h.fams,h.next⟩ w:=by
  have cellsOf:∀ b sz els f ro,mget b M = some (.cells sz els f ro) → ro = .fz ∧ ∃ ro',mget b h.mem = some (.cells sz els f ro'):=by
    intro b sz els f ro hb
    rcases s b _ hb with ⟨sz1,els1,f1,ro1,e,h1⟩ | ⟨es,c,e,_⟩
    · cases e;exact ⟨rfl,ro1,h1⟩
    · cases e
  refine ⟨?_,k.dom,?_,?_,?_,k.lt,?_,k.flt⟩
  · intro b ob hb
    rcases s b ob hb with ⟨sz1,els1,f1,ro1,rfl,h1⟩ | ⟨es,c,rfl,h1,_⟩
    · obtain ⟨l,hl,C,t,fz,hc⟩:=k.obj b _ h1
      exact ⟨l,hl,C,t,fz,⟨hc.at_,hc.room,hc.len,hc.each,hc.val,(fun e=>by cases e),(fun e=>by cases e),(fun ty e=>by cases e),hc.al⟩⟩
    · exact k.obj b _ h1
  · intro b b' ob ob' l l' hb hb' hl hl' hne heq
    rcases s b ob hb with ⟨sz1,els1,f1,ro1,rfl,h1⟩ | ⟨es,c,rfl,h1,_⟩ <;> rcases s b' ob' hb' with ⟨sz2,els2,f2,ro2,rfl,h2⟩ | ⟨es2,c2,rfl,h2,_⟩
    · exact (k.sep b b' _ _ l l' h1 h2 hl hl' hne heq:sameFam (.cells sz1 els1 f1 ro1) (.cells sz2 els2 f2 ro2))
    · exact (k.sep b b' _ _ l l' h1 h2 hl hl' hne heq:sameFam (.cells sz1 els1 f1 ro1) (.map es2 c2))
    · exact (k.sep b b' _ _ l l' h1 h2 hl hl' hne heq:sameFam (.map es c) (.cells sz2 els2 f2 ro2))
    · exact k.sep b b' _ _ l l' h1 h2 hl hl' hne heq
  · intro b b' sz els f ro sz' els' ro' hb hb' hne
    obtain ⟨_,r1,h1⟩:=cellsOf _ _ _ _ _ hb
    obtain ⟨_,r2,h2⟩:=cellsOf _ _ _ _ _ hb'
    exact k.fam b b' _ _ _ _ _ _ _ h1 h2 hne
  · intro f
    refine (k.ord f).imp ?_
    intro x y hxy sz els f1 ro sz' els' f2 ro' l1 l2 hx hy
    obtain ⟨_,r1,h1⟩:=cellsOf _ _ _ _ _ hx
    obtain ⟨_,r2,h2⟩:=cellsOf _ _ _ _ _ hy
    exact hxy _ _ _ _ _ _ _ _ l1 l2 h1 h2
  · intro b sz els f ro hb
    obtain ⟨_,r1,h1⟩:=cellsOf _ _ _ _ _ hb
    exact k.famlt b _ _ _ _ h1
mutual
theorem renV_R {ρ:Id → Option Id} {mp mc:Mp} (hρ:∀ b c l,ρ b = some c → mp b = some l → mc c = some l):∀ {v v':V} {u:Value},renV ρ v = some v' → R mp v u → R mc v' u
  | .top,_,_,h,_=>by simp [renV] at h
  | .b x,_,_,h,k=>by simp only [renV,Option.some.injEq] at h;subst h;simpa [R] using k
  | .i _ _,_,_,h,k=>by simp only [renV,Option.some.injEq] at h;subst h;simpa [R] using k
  | .s _ _,_,_,h,k=>by simp only [renV,Option.some.injEq] at h;subst h;simpa [R] using k
  | .pn,_,_,h,k=>by simp only [renV,Option.some.injEq] at h;subst h;simpa [R] using k
  | .p _ _,_,_,h,_=>by simp [renV] at h
  | .sn,_,_,h,k=>by simp only [renV,Option.some.injEq] at h;subst h;simpa [R] using k
  | .sl b o len sz,_,_,h,k=>by
    simp only [renV] at h
    cases hb:ρ b with
    | none=>rw [hb] at h;cases h
    | some c=>
      rw [hb] at h;cases h
      simp only [R] at k ⊢
      obtain ⟨l,cap,hl,hu⟩:=k
      exact ⟨l,cap,hρ _ _ _ hb hl,hu⟩
  | .se,_,_,h,k=>by simp only [renV,Option.some.injEq] at h;subst h;simpa [R] using k
  | .mn,_,_,h,k=>by simp only [renV,Option.some.injEq] at h;subst h;simpa [R] using k
  | .mp _,_,_,h,_=>by simp [renV] at h
  | .fn _ _ _,_,_,h,_=>by simp [renV] at h
  | .nf,_,_,h,k=>by simp only [renV,Option.some.injEq] at h;subst h;simpa [R] using k
  | .ifc _ _,_,_,h,_=>by simp [renV] at h
  | .ni,_,_,h,k=>by simp only [renV,Option.some.injEq] at h;subst h;simpa [R] using k
  | .agg l,_,_,h,k=>by
    simp only [renV] at h
    cases hl:renL ρ l with
    | none=>rw [hl] at h;cases h
    | some l'=>
      rw [hl] at h;cases h
      simp only [R] at k ⊢
      obtain ⟨us,hu,hR,hs⟩:=k
      exact ⟨us,hu,renL_R hρ hl hR,hs⟩
  | .tup l,_,_,h,k=>by
    simp only [renV] at h
    cases hl:renL ρ l with
    | none=>rw [hl] at h;cases h
    | some l'=>
      rw [hl] at h;cases h
      simp only [R] at k ⊢
      obtain ⟨us,hu,hR⟩:=k
      exact ⟨us,hu,renL_R hρ hl hR⟩
theorem renL_R {ρ:Id → Option Id} {mp mc:Mp} (hρ:∀ b c l,ρ b = some c → mp b = some l → mc c = some l):∀ {l l':List V} {us:List Value},renL ρ l = some l' → Rl mp l us → Rl mc l' us
  | [],_,_,h,k=>by simp only [renL,Option.some.injEq] at h;subst h;simpa [Rl] using k
  | v :: l,_,_,h,k=>by
    simp only [renL] at h
    cases hv:renV ρ v with
    | none=>rw [hv] at h;cases h
    | some v'=>
      cases hl:renL ρ l with
      | none=>rw [hv,hl] at h;cases h
      | some l'=>
        rw [hv,hl] at h;cases h
        simp only [Rl] at k ⊢
        obtain ⟨u,us,rfl,h1,h2⟩:=k
        exact ⟨u,us,rfl,renV_R hρ hv h1,renL_R hρ hl h2⟩
end
theorem renL_length {ρ:Id → Option Id}:∀ {l l':List V},renL ρ l = some l' → l'.length = l.length
  | [],_,h=>by simp only [renL,Option.some.injEq] at h;subst h;rfl
  | v :: l,_,h=>by
    simp only [renL] at h
    cases hv:renV ρ v with
    | none=>rw [hv] at h;cases h
    | some v'=>
      cases hl:renL ρ l with
      | none=>rw [hv,hl] at h;cases h
      | some l'=>rw [hv,hl] at h;cases h;simp [renL_length hl]
theorem renL_append {ρ:Id → Option Id}:∀ {a a' b b':List V},renL ρ a = some a' → renL ρ b = some b' → renL ρ (a ++ b) = some (a' ++ b')
  | [],_,_,_,h,k=>by simp only [renL,Option.some.injEq] at h;subst h;simpa using k
  | v :: l,_,_,_,h,k=>by
    simp only [renL] at h
    cases hv:renV ρ v with
    | none=>rw [hv] at h;cases h
    | some v'=>
      cases hl:renL ρ l with
      | none=>rw [hv,hl] at h;cases h
      | some l'=>rw [hv,hl] at h;cases h;simp only [List.cons_append,renL,hv,renL_append hl k]
theorem renLL_flat {ρ:Id → Option Id}:∀ {l l':List (List V)},renLL ρ l = some l' → renL ρ l.flatten = some l'.flatten
  | [],_,h=>by simp only [renLL,Option.some.injEq] at h;subst h;rfl
  | v :: l,_,h=>by
    simp only [renLL] at h
    cases hv:renL ρ v with
    | none=>rw [hv] at h;cases h
    | some v'=>
      cases hl:renLL ρ l with
      | none=>rw [hv,hl] at h;cases h
      | some l'=>rw [hv,hl] at h;cases h;simp only [List.flatten_cons];exact renL_append hv (renLL_flat hl)
theorem renLL_each {ρ:Id → Option Id} {n:Nat}:∀ {l l':List (List V)},renLL ρ l = some l' → (∀ el ∈ l,el.length = n) → ∀ el ∈ l',el.length = n
  | [],_,h,_=>by simp only [renLL,Option.some.injEq] at h;subst h;intro el hel;cases hel
  | v :: l,_,h,k=>by
    simp only [renLL] at h
    cases hv:renL ρ v with
    | none=>rw [hv] at h;cases h
    | some v'=>
      cases hl:renLL ρ l with
      | none=>rw [hv,hl] at h;cases h
      | some l'=>
        rw [hv,hl] at h;cases h
        intro el hel
        rcases List.mem_cons.1 hel with rfl | hel
        · rw [renL_length hv];exact k v List.mem_cons_self
        · exact renLL_each hl (fun el h1=>k el (List.mem_cons_of_mem _ h1)) el hel
theorem renL_get {ρ:Id → Option Id}:∀ {l l':List V},renL ρ l = some l' → ∀ {i:Nat} {v':V},l'[i]? = some v' → ∃ v,l[i]? = some v ∧ renV ρ v = some v'
  | [],_,h,i,v',k=>by simp only [renL,Option.some.injEq] at h;subst h;simp at k
  | v :: l,_,h,i,v',k=>by
    simp only [renL] at h
    cases hv:renV ρ v with
    | none=>rw [hv] at h;cases h
    | some v1=>
      cases hl:renL ρ l with
      | none=>rw [hv,hl] at h;cases h
      | some l1=>
        rw [hv,hl] at h;cases h
        cases i with
        | zero=>simp at k;subst k;exact ⟨v,rfl,hv⟩
        | succ i=>simp at k;obtain ⟨x,h1,h2⟩:=renL_get hl k;exact ⟨x,by simpa using h1,h2⟩
theorem CellsAt.ren {ρ:Id → Option Id} {mp mc:Mp} (hρ:∀ b c l,ρ b = some c → mp b = some l → mc c = some l) {l:Loc} {sz:Nat} {els els':List (List V)} {ro:Rw} {C:Array Value} {t:TypeId} {fz:Nat × Nat}
    (hr:renLL ρ els = some els') (hc:CellsAt mp w l sz els ro C t fz):CellsAt mc w l sz els' ro C t fz:=by
  have hf:=renLL_flat hr
  refine ⟨hc.at_,hc.room,by rw [renL_length hf];exact hc.len,renLL_each hr hc.each,?_,hc.free,hc.plain,hc.typ,hc.al⟩
  intro i v' hv'
  obtain ⟨v,h1,h2⟩:=renL_get hf hv'
  obtain ⟨u,h3,h4,h5⟩:=hc.val i v h1
  exact ⟨u,h3,renV_R hρ h2 h4,h5⟩
theorem nextIds_ok:∀ {n:Nat} {i:Id} {l:List Id} {k:Id},nextIds n i = some (l,k) → l.length = n ∧ k.toNat = i.toNat + n ∧ ∀ (j:Nat) b,l[j]? = some b → b.toNat = i.toNat + j
  | 0,i,l,k,h=>by simp only [nextIds,Option.some.injEq,Prod.mk.injEq] at h;obtain ⟨rfl,rfl⟩:=h;exact ⟨rfl,rfl,fun j b hb=>by simp at hb⟩
  | n + 1,i,l,k,h=>by
    simp only [nextIds] at h
    cases hs:i.succ with
    | none=>rw [hs] at h;cases h
    | some j=>
      rw [hs] at h
      simp only at h
      cases hn:nextIds n j with
      | none=>rw [hn] at h;cases h
      | some x=>
        obtain ⟨l1,k1⟩:=x
        rw [hn] at h
        cases h
        obtain ⟨h1,h2,h3⟩:=nextIds_ok hn
        have:=Id.succ_toNat hs
        refine ⟨by simp [h1],by omega,?_⟩
        intro q b hb
        cases q with
        | zero=>simp at hb;subst hb;rfl
        | succ q=>simp at hb;have:=h3 q b hb;omega
theorem nextIds_nodup {n:Nat} {i:Id} {l:List Id} {k:Id} (h:nextIds n i = some (l,k)) {j j':Nat} {b:Id} (h1:l[j]? = some b) (h2:l[j']? = some b):j = j':=by
  obtain ⟨_,_,h3⟩:=nextIds_ok h
  have:=h3 _ _ h1;have:=h3 _ _ h2;omega
theorem lookI_mem {b c:Id}:∀ {l:List (Id × Id)},lookI b l = some c → (b,c) ∈ l
  | [],h=>by simp [lookI] at h
  | (a,d) :: l,h=>by
    simp only [lookI] at h
    cases hb:Id.beq a b with
    | true=>rw [hb] at h;simp only [cond_true,Option.some.injEq] at h;subst h;rw [Id.beq_iff.1 hb];exact List.mem_cons_self
    | false=>rw [hb] at h;exact List.mem_cons_of_mem _ (lookI_mem h)
theorem lookI_zip {b c:Id} {x y:List Id} (h:lookI b (x.zip y) = some c):∃ j:Nat,x[j]? = some b ∧ y[j]? = some c:=by
  obtain ⟨j,hj⟩:=List.mem_iff_getElem?.1 (lookI_mem h)
  refine ⟨j,?_⟩
  rw [List.getElem?_zip_eq_some] at hj
  exact hj
theorem lookI_get {x y:List Id}:∀ {j:Nat} {b c:Id},(∀ (j j':Nat) (b:Id),x[j]? = some b → x[j']? = some b → j = j') → x[j]? = some b → y[j]? = some c → lookI b (x.zip y) = some c:=by
  induction x generalizing y with
  | nil=>intro j b c _ h _;simp at h
  | cons a x ih=>
    intro j b c hn h k
    cases y with
    | nil=>simp at k
    | cons d y=>
      simp only [List.zip_cons_cons,lookI]
      cases j with
      | zero=>simp at h k;subst h;subst k;rw [Id.beq_iff.2 rfl];rfl
      | succ j=>
        simp at h k
        have hne:Id.beq a b = false:=by
          cases e:Id.beq a b with
          | false=>rfl
          | true=>
            have:=Id.beq_iff.1 e
            subst this
            have:=hn 0 (j + 1) a (by simp) (by simpa using h)
            omega
        rw [hne]
        exact ih (fun j j' b h1 h2=>by have:=hn (j + 1) (j' + 1) b (by simpa using h1) (by simpa using h2);omega) h k
theorem lookI_none {b:Id} {x y:List Id} (h:b ∉ x):lookI b (x.zip y) = none:=by
  cases e:lookI b (x.zip y) with
  | none=>rfl
  | some c=>obtain ⟨j,h1,_⟩:=lookI_zip e;exact absurd (List.mem_of_getElem? h1) h
theorem nodupI_get:∀ {l:List Id},nodupI l = true → ∀ (j j':Nat) (b:Id),l[j]? = some b → l[j']? = some b → j = j'
  | [],_,j,j',b,h,_=>by simp at h
  | a :: l,hn,j,j',b,h,k=>by
    simp only [nodupI,Bool.and_eq_true,Bool.not_eq_true'] at hn
    have hm:∀ q,l[q]? = some a → False:=fun q hq=>by rw [(memI_iff a l).2 (List.mem_of_getElem? hq)] at hn;cases hn.1
    cases j with
    | zero=>
      cases j' with
      | zero=>rfl
      | succ j'=>simp at h k;subst h;exact (hm _ k).elim
    | succ j=>
      cases j' with
      | zero=>simp at h k;subst k;exact (hm _ h).elim
      | succ j'=>simp at h k;rw [nodupI_get hn.2 j j' b h k]
theorem putObs_get:∀ {nw:List Id} {obs:List Ob} {M:Mem} {b:Id} {ob:O},mget b (putObs nw obs M) = some ob →
    (mget b M = some ob) ∨ ∃ (j sz ty:Nat) (els:List (List V)),nw[j]? = some b ∧ obs[j]? = some (sz,ty,els) ∧ ob = .cells sz els b (.rw ty)
  | [],obs,M,b,ob,h=>by simp only [putObs] at h;exact .inl h
  | a :: nw,[],M,b,ob,h=>by simp only [putObs] at h;exact .inl h
  | a :: nw,(sz,ty,els) :: obs,M,b,ob,h=>by
    simp only [putObs] at h
    by_cases e:b = a
    · subst e;rw [mget_mput] at h;cases h;exact .inr ⟨0,sz,ty,els,rfl,rfl,rfl⟩
    · rw [mget_mput_ne e] at h
      rcases putObs_get h with h1 | ⟨j,sz,ty,els,h1,h2,h3⟩
      · exact .inl h1
      · exact .inr ⟨j + 1,sz,ty,els,by simpa using h1,by simpa using h2,h3⟩
theorem putObs_old:∀ {nw:List Id} {obs:List Ob} {M:Mem} {b:Id},b ∉ nw → mget b (putObs nw obs M) = mget b M
  | [],obs,M,b,h=>by simp [putObs]
  | a :: nw,[],M,b,h=>by simp [putObs]
  | a :: nw,(sz,ty,els) :: obs,M,b,h=>by
    simp only [putObs]
    rw [mget_mput_ne (fun e=>h (by rw [e];exact List.mem_cons_self)),putObs_old (fun e=>h (List.mem_cons_of_mem _ e))]
theorem renObs_get {hp:H} {ρ:Id → Option Id}:∀ {l fs:List Id} {obs:List Ob},renObs hp ρ l = some (fs,obs) → fs.length = l.length ∧ obs.length = l.length ∧
    ∀ (j:Nat) b,l[j]? = some b → ∃ sz els f ty els',mget b hp.mem = some (.cells sz els f (.rw ty)) ∧ renLL ρ els = some els' ∧ fs[j]? = some f ∧ obs[j]? = some (sz,ty,els')
  | [],_,_,h=>by simp only [renObs,Option.some.injEq,Prod.mk.injEq] at h;obtain ⟨rfl,rfl⟩:=h;exact ⟨rfl,rfl,fun j b hb=>by simp at hb⟩
  | a :: l,_,_,h=>by
    simp only [renObs] at h
    split at h
    · rename_i sz els f ty hb
      split at h
      · rename_i els' fs obs h1 h2
        cases h
        obtain ⟨k1,k2,k3⟩:=renObs_get h2
        refine ⟨by simp [k1],by simp [k2],?_⟩
        intro j b hj
        cases j with
        | zero=>simp at hj;subst hj;exact ⟨sz,els,f,ty,els',hb,h1,rfl,rfl⟩
        | succ j=>simp at hj;obtain ⟨a1,a2,a3,a4,a5,a6,a7,a8,a9⟩:=k3 j b hj;exact ⟨a1,a2,a3,a4,a5,a6,a7,by simpa using a8,by simpa using a9⟩
      · cases h
    · cases h
end Go.Ev
end
section
namespace Go.Ev
open Go
variable {P:Program}
def mcOf (nw olds:List Id) (mp m:Mp):Mp:=fun i=>match lookI i (nw.zip olds) with | some b=>mp b | none=>m i
theorem canon_gen {m mp:Mp} {h hpp:H} {w w':World} (k:HR m h w) (hrp:HR mp hpp w') (hsize:w.heap.size ≤ w'.heap.size)
    (hkeep:∀ B,B < w.heap.size → ¬ Wb m h B → w'.heap[B]? = w.heap[B]?) (hos:w'.os = w.os) (hta:w'.tape = w.tape) (hou:w'.output = w.output)
    {n:Nat} {nw:List Id} {nx:Id} {olds fs:List Id} {obs:List Ob} {ρ:Id → Option Id} (hid:nextIds n h.next = some (nw,nx)) (hlen:olds.length = nw.length)
    (hnd:∀ (j j':Nat) (b:Id),olds[j]? = some b → olds[j']? = some b → j = j') (hobs:renObs hpp ρ olds = some (fs,obs)) (hfs:nodupI fs = true)
    (hρ:∀ b c l,ρ b = some c → mp b = some l → mcOf nw olds mp m c = some l)
    (hnew:∀ (j:Nat) b l,olds[j]? = some b → mp b = some l → w.heap.size ≤ l.blk)
    (hold:∀ b ob l,mget b h.mem = some ob → m b = some l → ObjAt (mcOf nw olds mp m) w' l ob) :
    Fr m h w (mcOf nw olds mp m) ⟨putObs nw obs h.mem,h.fams,nx⟩ w':=by
  obtain ⟨i1,i2,i3⟩:=nextIds_ok hid
  have inj:=fun {j j':Nat} {b:Id}=>nextIds_nodup (j:=j) (j':=j') (b:=b) hid
  obtain ⟨r1,r2,r3⟩:=renObs_get hobs
  have hge:∀ b,b ∈ nw → h.next.toNat ≤ b.toNat:=by
    intro b hb;obtain ⟨j,hj⟩:=List.mem_iff_getElem?.1 hb;have:=i3 j b hj;omega
  have hlt:∀ b,b ∈ nw → b.toNat < nx.toNat:=by
    intro b hb;obtain ⟨j,hj⟩:=List.mem_iff_getElem?.1 hb
    have:=i3 j b hj
    have:=(List.getElem?_eq_some_iff.1 hj).1
    omega
  have F0:∀ i,i ∉ nw → mcOf nw olds mp m i = m i:=by
    intro i hi;unfold mcOf;rw [lookI_none hi]
  have F1:∀ i,i.toNat < h.next.toNat → mcOf nw olds mp m i = m i:=fun i hi=>F0 i (fun hm=>by have:=hge i hm;omega)
  have F2:∀ (j:Nat) c b,nw[j]? = some c → olds[j]? = some b → mcOf nw olds mp m c = mp b:=by
    intro j c b h1 h2;unfold mcOf;rw [lookI_get (fun j j' b a1 a2=>inj a1 a2) h1 h2]
  have F3:∀ i l,mcOf nw olds mp m i = some l → (i ∉ nw ∧ m i = some l) ∨ ∃ (j:Nat) (b:Id),nw[j]? = some i ∧ olds[j]? = some b ∧ mp b = some l:=by
    intro i l hi
    by_cases hm:i ∈ nw
    · obtain ⟨j,hj⟩:=List.mem_iff_getElem?.1 hm
      have hjl:j < olds.length:=by rw [hlen];exact (List.getElem?_eq_some_iff.1 hj).1
      have hb:=List.getElem?_eq_getElem hjl
      exact .inr ⟨j,_,hj,hb,by rw [← F2 j i _ hj hb];exact hi⟩
    · rw [F0 i hm] at hi;exact .inl ⟨hm,hi⟩
  have hle:m.le (mcOf nw olds mp m):=fun b l hb=>by rw [F1 b (k.dom b l hb)];exact hb
  have G:∀ b ob,mget b (putObs nw obs h.mem) = some ob → (mget b h.mem = some ob ∧ b ∉ nw ∧ b.toNat < h.next.toNat) ∨
      ∃ (j sz ty:Nat) (els els0:List (List V)) (b0 f0:Id),nw[j]? = some b ∧ olds[j]? = some b0 ∧ ob = .cells sz els b (.rw ty) ∧ mget b0 hpp.mem = some (.cells sz els0 f0 (.rw ty)) ∧ renLL ρ els0 = some els ∧ fs[j]? = some f0:=by
    intro b ob hb
    rcases putObs_get hb with h1 | ⟨j,sz,ty,els,h1,h2,h3⟩
    · obtain ⟨l,hl,_⟩:=k.obj b ob h1
      have:=k.dom b l hl
      exact .inl ⟨h1,fun hm=>by have:=hge b hm;omega,this⟩
    · have hjl:j < olds.length:=by rw [hlen];exact (List.getElem?_eq_some_iff.1 h1).1
      have hb0:=List.getElem?_eq_getElem hjl
      obtain ⟨sz1,els1,f1,ty1,els1',a1,a2,a3,a4⟩:=r3 j _ hb0
      rw [h2] at a4
      cases a4
      exact .inr ⟨j,sz,ty,els,els1,_,f1,h1,hb0,h3,a1,a2,a3⟩
  have old_m:∀ b ob l,mget b h.mem = some ob → b ∉ nw → mcOf nw olds mp m b = some l → m b = some l:=fun b ob l _ hn hl=>by rw [F0 b hn] at hl;exact hl
  refine ⟨hle,⟨?_,?_,?_,?_,?_,?_,?_,?_⟩,hsize,hkeep,hos,hta,hou,?_,?_,?_,?_⟩
  · intro b ob hb
    rcases G b ob hb with ⟨h1,h2,h3⟩ | ⟨j,sz,ty,els,els0,b0,f0,h1,h2,h3,h4,h5,h6⟩
    · obtain ⟨l,hl,_⟩:=k.obj b ob h1
      exact ⟨l,by rw [F0 b h2];exact hl,hold b ob l h1 hl⟩
    · obtain ⟨l,hl,C,t,fz,hc⟩:=hrp.obj b0 _ h4
      subst h3
      exact ⟨l,by rw [F2 j b b0 h1 h2];exact hl,C,t,fz,hc.ren hρ h5⟩
  · intro b l hb
    show b.toNat < nx.toNat
    rcases F3 b l hb with ⟨_,h2⟩ | ⟨j,b0,h1,_,_⟩
    · have:=k.dom b l h2;omega
    · exact hlt b (List.mem_of_getElem? h1)
  · intro b b' ob ob' l l' hb hb' hl hl' hne heq
    rcases G b ob hb with ⟨h1,h2,h3⟩ | ⟨j,sz,ty,els,els0,b0,f0,h1,h2,h3,h4,h5,h6⟩ <;>
    rcases G b' ob' hb' with ⟨g1,g2,g3⟩ | ⟨j',sz',ty',els',els0',b0',f0',g1,g2,g3,g4,g5,g6⟩
    · rw [F0 b h2] at hl;rw [F0 b' g2] at hl'
      exact k.sep b b' ob ob' l l' h1 g1 hl hl' hne heq
    · rw [F0 b h2] at hl;rw [F2 j' b' b0' g1 g2] at hl'
      have:=k.lt b l hl;have:=hnew j' b0' l' g2 hl';omega
    · rw [F2 j b b0 h1 h2] at hl;rw [F0 b' g2] at hl'
      have:=k.lt b' l' hl';have:=hnew j b0 l h2 hl;omega
    · rw [F2 j b b0 h1 h2] at hl;rw [F2 j' b' b0' g1 g2] at hl'
      have hjj:j ≠ j':=fun e=>by subst e;rw [h1] at g1;cases g1;exact hne rfl
      have hbb:b0 ≠ b0':=fun e=>by subst e;exact hjj (hnd j j' b0 h2 g2)
      have hs:=hrp.sep b0 b0' _ _ l l' h4 g4 hl hl' hbb heq
      have hs:f0 = f0':=hs
      subst hs
      exact (hjj (nodupI_get hfs j j' f0 h6 g6)).elim
  · intro b b' sz els f ro sz' els' ro' hb hb' hne
    rcases G b _ hb with ⟨h1,h2,h3⟩ | ⟨j,sz1,ty,els1,els0,b0,f0,h1,h2,h3,h4,h5,h6⟩ <;>
    rcases G b' _ hb' with ⟨g1,g2,g3⟩ | ⟨j',sz1',ty',els1',els0',b0',f0',g1,g2,g3,g4,g5,g6⟩
    · exact k.fam b b' _ _ _ _ _ _ _ h1 g1 hne
    · cases g3
      have:=k.famlt b _ _ _ _ h1
      have:=hge b' (List.mem_of_getElem? g1);omega
    · cases h3
      have:=k.famlt b' _ _ _ _ g1
      have:=hge b (List.mem_of_getElem? h1);omega
    · cases h3;cases g3;exact (hne rfl).elim
  · intro f
    refine List.Pairwise.imp_of_mem ?_ (k.ord f)
    intro x y hx hy hxy sz els f1 ro sz' els' f2 ro' l1 l2 h1 h2 hl1 hl2 heq
    have lx:=k.flt f x hx
    have ly:=k.flt f y hy
    have nx':x ∉ nw:=fun hm=>by have:=hge x hm;omega
    have ny':y ∉ nw:=fun hm=>by have:=hge y hm;omega
    rw [show mget x (putObs nw obs h.mem) = mget x h.mem from putObs_old nx'] at h1
    rw [show mget y (putObs nw obs h.mem) = mget y h.mem from putObs_old ny'] at h2
    rw [F0 x nx'] at hl1
    rw [F0 y ny'] at hl2
    exact hxy _ _ _ _ _ _ _ _ _ _ h1 h2 hl1 hl2 heq
  · intro b l hb
    rcases F3 b l hb with ⟨_,h2⟩ | ⟨j,b0,h1,h2,h3⟩
    · have:=k.lt b l h2;omega
    · exact hrp.lt b0 l h3
  · intro b sz els f ro hb
    show f.toNat < nx.toNat
    rcases G b _ hb with ⟨h1,h2,h3⟩ | ⟨j,sz1,ty,els1,els0,b0,f0,h1,h2,h3,h4,h5,h6⟩
    · have:=k.famlt b _ _ _ _ h1;omega
    · cases h3;exact hlt b (List.mem_of_getElem? h1)
  · intro f x hx
    show x.toNat < nx.toNat
    have:=k.flt f x hx;omega
  · intro b ob l hb hl
    rcases G b ob hb with ⟨h1,h2,h3⟩ | ⟨j,sz1,ty,els1,els0,b0,f0,h1,h2,h3,h4,h5,h6⟩
    · rw [F0 b h2] at hl;exact .inr ⟨b,ob,l,h1,hl,rfl,id⟩
    · rw [F2 j b b0 h1 h2] at hl;exact .inl (hnew j b0 l h2 hl)
  · intro b l hb hlt'
    rw [F1 b hlt'] at hb;exact hb
  · show h.next.toNat ≤ nx.toNat
    omega
  · intro b sz els f ro hb
    rcases G b _ hb with ⟨h1,h2,h3⟩ | ⟨j,sz1,ty,els1,els0,b0,f0,h1,h2,h3,h4,h5,h6⟩
    · exact .inr ⟨b,sz,els,ro,h1⟩
    · cases h3;exact .inl (hge b (List.mem_of_getElem? h1))
end Go.Ev
end
section
namespace Go.Ev
open Go
variable {P:Program} {m:Mp} {w:World}
theorem beqObs_eq:∀ {a b:List Ob},beqObs a b = true → a = b
  | [],[],_=>rfl
  | [],_ :: _,h=>by simp [beqObs] at h
  | _ :: _,[],h=>by simp [beqObs] at h
  | (n,t,x) :: l,(n',t',y) :: r,h=>by
    simp only [beqObs,Bool.and_eq_true] at h
    rw [Nat.eq_of_beq_eq_true h.1,Nat.eq_of_beq_eq_true h.2.1,beqLL_eq h.2.2.1,beqObs_eq h.2.2.2]
theorem eqCan_eq {x y:V × List Ob} (h:eqCan x y = true):x = y:=by
  obtain ⟨a,b⟩:=x
  obtain ⟨c,d⟩:=y
  simp only [eqCan,Bool.and_eq_true] at h
  rw [beq_eq h.1,beqObs_eq h.2]
theorem sameEs_eq:∀ {a b:List Ent},sameEs a b = true → a = b
  | [],[],_=>rfl
  | [],_ :: _,h=>by simp [sameEs] at h
  | _ :: _,[],h=>by simp [sameEs] at h
  | ⟨k,v,n⟩ :: l,⟨k',v',n'⟩ :: r,h=>by
    simp only [sameEs,Bool.and_eq_true] at h
    have h1:=beq_eq h.1
    have h2:=beq_eq h.2.1
    have h3:=Nat.eq_of_beq_eq_true h.2.2.1
    rw [h1,h2,h3,sameEs_eq h.2.2.2]
theorem plainV_R {lim:Nat} {mp mc:Mp} (hρ:∀ b c l,rho lim [] b = some c → mp b = some l → mc c = some l) {v:V} {u:Value} (h:plainV lim v = true) (k:R mp v u):R mc v u:=by
  unfold plainV at h
  split at h
  · rename_i v' hv
    have:=beq_eq h
    subst this
    exact renV_R hρ hv k
  · cases h
theorem plainEs_R {lim:Nat} {mp mc:Mp} (hρ:∀ b c l,rho lim [] b = some c → mp b = some l → mc c = some l):∀ {es:List Ent} {xs:List MapEntry},plainEs lim es = true → EntsR mp es xs → EntsR mc es xs
  | [],_,_,k=>k
  | e :: es,_,h,k=>by
    simp only [plainEs,Bool.and_eq_true] at h
    obtain ⟨x,xs,rfl,hx,hxs⟩:=k
    exact ⟨x,xs,rfl,⟨plainV_R hρ h.1 hx.1,plainV_R hρ h.2.1 hx.2.1,hx.2.2⟩,plainEs_R hρ h.2.2 hxs⟩
theorem okMaps_get {lim:Nat} {h hp:H}:∀ {ms:List Id},okMaps lim h hp ms = true → ∀ b ∈ ms,∃ es c,mget b h.mem = some (.map es c) ∧ mget b hp.mem = some (.map es c) ∧ plainEs lim es = true
  | [],_,b,hb=>by cases hb
  | a :: l,hk,b,hb=>by
    simp only [okMaps,Bool.and_eq_true] at hk
    rcases List.mem_cons.1 hb with rfl | hb
    · have h1:=hk.1
      split at h1
      · rename_i es c es' c' e1 e2
        simp only [Bool.and_eq_true] at h1
        have:=sameEs_eq h1.1
        have:=Nat.eq_of_beq_eq_true h1.2.1
        subst_vars
        exact ⟨_,_,e1,e2,h1.2.2⟩
      · cases h1
    · exact okMaps_get hk.2 b hb
theorem canon_some {lim fuel:Nat} {nw:List Id} {hp:H} {v vc:V} {obs:List Ob} (h:canon lim fuel nw hp v = some (vc,obs)) :
    ∃ olds fs,olds.length = nw.length ∧ nodupI olds = true ∧ renV (rho lim (olds.zip nw)) v = some vc ∧ renObs hp (rho lim (olds.zip nw)) olds = some (fs,obs) ∧ nodupI fs = true:=by
  unfold canon at h
  simp only at h
  generalize colGo hp lim fuel [v] [] = olds at h
  cases hb:(Nat.beq (canon.lenL' olds) (canon.lenL' nw) && nodupI olds) with
  | false=>rw [hb] at h;cases h
  | true=>
    rw [hb] at h
    simp only [cond_true] at h
    rw [Bool.and_eq_true] at hb
    split at h
    · rename_i v' fs obs' h1 h2
      cases hf:nodupI fs with
      | false=>rw [hf] at h;cases h
      | true=>
        rw [hf] at h
        cases h
        exact ⟨olds,fs,Nat.eq_of_beq_eq_true hb.1,hb.2,h1,h2,hf⟩
    · cases h
theorem out_ok {mp:Mp} {h hpp:H} {w':World} {M:Mem} {ms:List Id} (k:HR m h w) (sub:SubOf h M ms) (hF:Fr m ⟨M,h.fams,h.next⟩ w mp hpp w') {vp vc:V} {u:Value} (hR:R mp vp u)
    (hmaps:okMaps h.next.toNat h hpp ms = true) {n fuel:Nat} {nw:List Id} {nx:Id} {obs:List Ob} (hcan:canon h.next.toNat fuel nw hpp vp = some (vc,obs)) (hid:nextIds n h.next = some (nw,nx)) :
    ∃ mc,Fr m h w mc ⟨putObs nw obs h.mem,h.fams,nx⟩ w' ∧ R mc vc u:=by
  obtain ⟨olds,fs,hlen,hnd,hrv,hro,hfs⟩:=canon_some hcan
  obtain ⟨i1,i2,i3⟩:=nextIds_ok hid
  obtain ⟨r1,r2,r3⟩:=renObs_get hro
  have hge:∀ b,b ∈ nw → h.next.toNat ≤ b.toNat:=by
    intro b hb;obtain ⟨j,hj⟩:=List.mem_iff_getElem?.1 hb;have:=i3 j b hj;omega
  have F1:∀ i,i.toNat < h.next.toNat → mcOf nw olds mp m i = m i:=by
    intro i hi;unfold mcOf;rw [lookI_none (fun hm=>by have:=hge i hm;omega)]
  have hold0:∀ b c l,Nat.ble (Nat.succ b.toNat) h.next.toNat = true → some b = some c → mp b = some l → mcOf nw olds mp m c = some l:=by
    intro b c l h1 h2 h3
    cases h2
    have hlt:b.toNat < h.next.toNat:=Nat.le_of_ble_eq_true h1
    rw [F1 b hlt]
    exact hF.old b l h3 hlt
  have hρ:∀ b c l,rho h.next.toNat (olds.zip nw) b = some c → mp b = some l → mcOf nw olds mp m c = some l:=by
    intro b c l h1 h2
    unfold rho at h1
    cases hb:Nat.ble (Nat.succ b.toNat) h.next.toNat with
    | true=>rw [hb] at h1;exact hold0 b c l hb h1 h2
    | false=>
      rw [hb] at h1
      obtain ⟨j,h3,h4⟩:=lookI_zip h1
      unfold mcOf
      rw [lookI_get (fun j j' b a1 a2=>nextIds_nodup hid a1 a2) h4 h3]
      exact h2
  have hρ0:∀ b c l,rho h.next.toNat [] b = some c → mp b = some l → mcOf nw olds mp m c = some l:=by
    intro b c l h1 h2
    unfold rho at h1
    cases hb:Nat.ble (Nat.succ b.toNat) h.next.toNat with
    | true=>rw [hb] at h1;exact hold0 b c l hb h1 h2
    | false=>rw [hb] at h1;cases h1
  have notFz:∀ b ob,mget b M = some ob → writable ob → ∃ es c,ob = .map es c ∧ mget b h.mem = some (.map es c) ∧ b ∈ ms:=by
    intro b ob h1 h2
    rcases sub b ob h1 with ⟨sz,els,f,ro,rfl,_⟩ | h3
    · exact absurd rfl h2
    · exact h3
  refine ⟨mcOf nw olds mp m,canon_gen k hF.hr hF.size ?_ hF.os hF.tape hF.output hid hlen (nodupI_get hnd) hro hfs hρ ?_ ?_,renV_R hρ hrv hR⟩
  · intro B hB hn
    refine hF.keep B hB ?_
    rintro ⟨b1,ob1,l1,h1,h2,h3,h4⟩
    obtain ⟨es,c,rfl,h5,_⟩:=notFz b1 ob1 h1 h4
    exact hn ⟨b1,_,l1,h5,h2,h3,trivial⟩
  · intro j b l h1 h2
    obtain ⟨sz,els,f,ty,els',a1,_⟩:=r3 j b h1
    rcases hF.back b _ l a1 h2 with h3 | ⟨b0,ob0,l0,h3,h4,h5,h6⟩
    · exact h3
    · obtain ⟨es,c,rfl,h7,h8⟩:=notFz b0 ob0 h3 (h6 (by intro e;cases e))
      obtain ⟨es1,c1,_,g2,_⟩:=okMaps_get hmaps b0 h8
      have hne:b ≠ b0:=fun e=>by subst e;rw [a1] at g2;cases g2
      exact (hF.hr.sep b b0 _ _ l l0 a1 g2 h2 (hF.le _ _ h4) hne h5.symm).elim
  · intro b ob l hb hl
    by_cases hw:Wb m ⟨M,h.fams,h.next⟩ l.blk
    · obtain ⟨b1,ob1,l1,h1,h2,h3,h4⟩:=hw
      obtain ⟨es,c,rfl,h5,h6⟩:=notFz b1 ob1 h1 h4
      have hbb:b = b1:=by
        by_cases e:b = b1
        · exact e
        · have hs:=k.sep b b1 ob _ l l1 hb h5 hl h2 e h3.symm
          cases ob <;> exact hs.elim
      subst hbb
      rw [hb] at h5;cases h5
      rw [hl] at h2;cases h2
      obtain ⟨es1,c1,g1,g2,g3⟩:=okMaps_get hmaps b h6
      rw [hb] at g1;cases g1
      obtain ⟨l2,hl2,es2,hat,hes⟩:=hF.hr.obj b _ g2
      have:=hF.le _ _ hl
      rw [this] at hl2;cases hl2
      exact ⟨es2,hat,plainEs_R hρ0 g3 hes⟩
    · obtain ⟨l',hl',ho⟩:=k.obj b ob hb
      rw [hl] at hl';cases hl'
      refine ho.keep ?_ (hF.keep l.blk (k.lt b l hl) hw)
      intro i li hi
      rw [F1 i (k.dom i li hi)];exact hi
theorem allOut_get {p:CR → Bool}:∀ {l:List CR},allOut p l = true → ∀ r ∈ l,p r = true
  | [],_,r,hr=>by cases hr
  | a :: l,h,r,hr=>by
    simp only [allOut,Bool.and_eq_true] at h
    rcases List.mem_cons.1 hr with rfl | hr
    · exact h.1
    · exact allOut_get h.2 r hr
theorem ndB_sound {lf fuel:Nat} {call:CallT} (hp:progOk P = true) (hcall:CallOK P call) (hmix:P.follows .mixedOrders = true) {f:FuncId} {fn:Func} {c:Code} (hf:P.funcs[f]? = some fn) (hb:fn.body = some c)
    {vs:List V} {us:List Value} {h h':H} {v:V} (hr:HR m h w) (hg:Gl P m) (hR:Rl m vs us) (hv:(ndB P lf fuel fn c).run call vs h = .ok v h') :
    Calls P f ⟨us⟩ w (fun e w'=>∃ u m',e = .returned u ∧ Fr m h w m' h' w' ∧ R m' v u):=by
  obtain ⟨p1,p2,p3,p4⟩:=progOk_get hp hf hb
  unfold ndB at hv
  obtain ⟨hle,hv⟩:=iteH_ok hv
  have hlen:vs.length ≤ fn.ntmps:=by rw [lenV1_eq] at hle;exact Nat.le_of_ble_eq_true hle
  have hE:=args_env hR hlen p1
  have sub:=subGo_ok (h:=h) fuel vs Mem.new [] (fun b ob hb=>by rw [mget_new] at hb;cases hb)
  cases hM:subGo h fuel vs Mem.new [] with
  | mk M ms=>
  rw [hM] at hv sub
  simp only at hv sub
  have hs:=hr.subOf sub
  refine calls_of_wp_defers hf hb ?_
  refine codeN_sound (lf:=lf) hcall hmix c p2 m _ _ _ w _ hE hg hs ?_
  cases hL:(codeN P lf c).run call (putArgs 0 vs Env.new) ⟨M,h.fams,h.next⟩ with
  | nil=>rw [hL] at hv;cases hv
  | cons r0 rs=>
  rw [hL] at hv
  simp only at hv
  cases h0:leaveC P fn r0 with
  | bad=>rw [h0] at hv;cases hv
  | ok v1 h1=>
  rw [h0] at hv
  simp only at hv
  cases hid:nextIds (colGo h1 h.next.toNat fuel [v1] []).length h.next with
  | none=>rw [hid] at hv;cases hv
  | some nn=>
  obtain ⟨nw,nx⟩:=nn
  rw [hid] at hv
  simp only at hv
  cases hcn:canon h.next.toNat fuel nw h1 v1 with
  | none=>rw [hcn] at hv;cases hv
  | some cn=>
  rw [hcn] at hv
  simp only at hv
  cases hal:allOut (okOut P fn h.next.toNat fuel nw cn h ms) (r0 :: rs) with
  | false=>rw [hal] at hv;cases hv
  | true=>
  rw [hal] at hv
  cases hv
  intro r hrm
  have hok:=allOut_get hal r hrm
  unfold okOut at hok
  have key:∀ e1 h2,leave0 P fn.results.toList e1 h2 = leaveC P fn r → ∀ m' a' w',Fr m ⟨M,h.fams,h.next⟩ w m' h2 w' → EnvR m' fn.ntmps e1 a' →
      Leaves P fn a'.tmps (fun e w'=>∃ u m',e = .returned u ∧ Fr m h w m' ⟨putObs nw cn.2 h.mem,h.fams,nx⟩ w' ∧ R m' cn.1 u) a'.defers .returning w':=by
    intro e1 h2 hlv m' a' w' hF hE'
    rw [← hlv] at hok
    unfold leave0 at hok
    obtain ⟨L,hL1,hDf⟩:=hE'.dfr
    split at hok
    · rename_i vx hpx hlx
      split at hlx
      · rename_i hdef
        rw [hdef] at hL1;cases hL1
        simp only [DfrR] at hDf
        rw [hDf]
        unfold vhO at hlx
        split at hlx
        · rename_i v' hv'
          cases hlx
          obtain ⟨u,hu,hRu⟩:=retC_sound hE' hF.hr p3 hv'
          rw [Bool.and_eq_true] at hok
          have h3:=hok.2
          split at h3
          · rename_i c' hc'
            have:=eqCan_eq h3
            subst this
            obtain ⟨mc,hFc,hRc⟩:=out_ok (vc:=c'.1) (obs:=c'.2) hr sub hF hRu hok.1 hc' hid
            exact ⟨u,hu,u,mc,rfl,hFc,hRc⟩
          · cases h3
        · cases hlx
      · cases hlx
    · cases hok
  cases r with
  | bad=>simp [leaveC] at hok
  | ext i e1 h2=>simp [leaveC] at hok
  | nrm e1 h2=>exact key e1 h2 rfl
  | ret e1 h2=>exact key e1 h2 rfl
theorem ndF_sound {lf fuel:Nat} {call:CallT} (hp:progOk P = true) (hcall:CallOK P call) (hmix:P.follows .mixedOrders = true) {f:FuncId}
    {vs:List V} {us:List Value} {h h':H} {v:V} (hr:HR m h w) (hg:Gl P m) (hR:Rl m vs us) (hv:(ndF P lf fuel f).run call vs h = .ok v h') :
    HvOk P ((callFunc f ⟨us⟩).run P w) m h w v h':=by
  unfold ndF at hv
  cases hf:P.funcs[f]? with
  | none=>rw [hf] at hv;cases hv
  | some fn=>
    rw [hf] at hv
    simp only at hv
    cases hb:fn.body with
    | none=>rw [hb] at hv;cases hv
    | some c=>
      rw [hb] at hv
      simp only at hv
      exact .inr ⟨f,⟨us⟩,callFunc_run hp hf hb _ _,ndB_sound hp hcall hmix hf hb hr hg hR hv⟩
end Go.Ev
end
section
namespace Go.Ev
open Go
abbrev Ib:=Nat × List (List V)
noncomputable def renIn (h:H) (ρ:Id → Option Id):List Id → Option (List Id × List Ib)
  | []=>some ([],[])
  | b :: l=>(match mget b h.mem with
    | some (.cells sz els f _)=>(match renLL ρ els,renIn h ρ l with
      | some els',some (fs,o)=>some (f :: fs,(sz,els') :: o)
      | _,_=>none)
    | _=>none)
def beqIb:List Ib → List Ib → Bool
  | [],[]=>true
  | (n,a) :: l,(n',b) :: r=>Nat.beq n n' && (beqLL a b && beqIb l r)
  | _,_=>false
noncomputable def canonIn (fuel base:Nat) (args:List V) (h:H):Option (List V × List Ib × List Id):=
  match colGo h 0 fuel args [] with
  | olds=>match nextIds olds.length (idOf base) with
    | some (nw,_)=>bif nodupI olds then
        (match renL (rho 0 (olds.zip nw)) args,renIn h (rho 0 (olds.zip nw)) olds with
        | some a,some (fs,o)=>bif nodupI fs then some (a,o,olds) else none
        | _,_=>none) else none
    | none=>none
noncomputable def putIn:List Id → List Ib → Mem → Mem
  | b :: nw,(sz,els) :: o,M=>mput b (some (.cells sz els b .fz)) (putIn nw o M)
  | _,_,M=>M
structure Memo where
  args:List V
  ins:List Ib
  res:V
  outs:List Ob
noncomputable def memoFact (call:CallT) (base fuel f:Nat) (mm:Memo):Bool:=
  match nextIds mm.ins.length (idOf base) with
  | some (nw,nx)=>(match nextIds mm.outs.length nx with
    | some (nwR,_)=>(match call f mm.args ⟨putIn nw mm.ins Mem.new,Fam.new,nx⟩ with
      | .ok v h'=>(match canon nx.toNat fuel nwR h' v with | some c=>eqCan c (mm.res,mm.outs) | none=>false)
      | .bad=>false)
    | none=>false)
  | none=>false
def rho2 (p q:List (Id × Id)) (c:Id):Option Id:=match lookI c p with | some b=>some b | none=>lookI c q
def renOb (ρ:Id → Option Id):List Ob → Option (List Ob)
  | []=>some []
  | (sz,ty,els) :: l=>(match renLL ρ els,renOb ρ l with
    | some e,some r=>some ((sz,ty,e) :: r)
    | _,_=>none)
noncomputable def memoOut (base:Nat) (mm:Memo) (olds:List Id) (h:H):VH:=
  match nextIds olds.length (idOf base),nextIds mm.outs.length h.next with
  | some (nwT,nx0),some (nw2,nx)=>(match nextIds mm.outs.length nx0 with
    | some (nwR,_)=>(match renV (rho2 (nwT.zip olds) (nwR.zip nw2)) mm.res,renOb (rho2 (nwT.zip olds) (nwR.zip nw2)) mm.outs with
      | some v,some obs=>.ok v ⟨putObs nw2 obs h.mem,h.fams,nx⟩
      | _,_=>.bad)
    | none=>.bad)
  | _,_=>.bad
def findM (a:List V) (o:List Ib):List Memo → Option Memo
  | []=>none
  | mm :: l=>bif beqs a mm.args && beqIb o mm.ins then some mm else findM a o l
noncomputable def memosF (fuel base:Nat) (l:List Memo) (alt:FOp):FOp:=⟨fun call args h=>
  match canonIn fuel base args h with
  | none=>alt.run call args h
  | some (a,o,olds)=>match findM a o l with
    | none=>alt.run call args h
    | some mm=>memoOut base mm olds h⟩
end Go.Ev
end
section
namespace Go.Ev
open Go
variable {P:Program} {m:Mp} {w:World}
theorem dg_toNat:∀ x,x < 8 → (dg x).toNat = x:=by decide
theorem idOf_toNat {n:Nat} (h:n < 32768):(idOf n).toNat = n:=by
  have h1:=dg_toNat (n / 4096 % 8) (by omega)
  have h2:=dg_toNat (n / 512 % 8) (by omega)
  have h3:=dg_toNat (n / 64 % 8) (by omega)
  have h4:=dg_toNat (n / 8 % 8) (by omega)
  have h5:=dg_toNat (n % 8) (by omega)
  simp only [idOf,Id.toNat,h1,h2,h3,h4,h5]
  omega
theorem selF5_all (d:D8) (x):selF5 d (N8.all x) = x:=by cases d <;> rfl
theorem selF4_all (d:D8) (x):selF4 d (N8.all x) = x:=by cases d <;> rfl
theorem selF3_all (d:D8) (x):selF3 d (N8.all x) = x:=by cases d <;> rfl
theorem selF2_all (d:D8) (x):selF2 d (N8.all x) = x:=by cases d <;> rfl
theorem selF1_all (d:D8) (x):selF1 d (N8.all x) = x:=by cases d <;> rfl
theorem fget_new (b:Id):fget b Fam.new = []:=by
  obtain ⟨a,b,c,d,e⟩:=b
  simp [fget,Fam.new,selF5_all,selF4_all,selF3_all,selF2_all,selF1_all]
theorem beqIb_eq:∀ {a b:List Ib},beqIb a b = true → a = b
  | [],[],_=>rfl
  | [],_ :: _,h=>by simp [beqIb] at h
  | _ :: _,[],h=>by simp [beqIb] at h
  | (n,x) :: l,(n',y) :: r,h=>by
    simp only [beqIb,Bool.and_eq_true] at h
    rw [Nat.eq_of_beq_eq_true h.1,beqLL_eq h.2.1,beqIb_eq h.2.2]
theorem renIn_get {h:H} {ρ:Id → Option Id}:∀ {l fs:List Id} {o:List Ib},renIn h ρ l = some (fs,o) → fs.length = l.length ∧ o.length = l.length ∧
    ∀ (j:Nat) b,l[j]? = some b → ∃ sz els f ro els',mget b h.mem = some (.cells sz els f ro) ∧ renLL ρ els = some els' ∧ fs[j]? = some f ∧ o[j]? = some (sz,els')
  | [],_,_,h=>by simp only [renIn,Option.some.injEq,Prod.mk.injEq] at h;obtain ⟨rfl,rfl⟩:=h;exact ⟨rfl,rfl,fun j b hb=>by simp at hb⟩
  | a :: l,_,_,h=>by
    simp only [renIn] at h
    split at h
    · rename_i sz els f ro hb
      split at h
      · rename_i els' fs o h1 h2
        cases h
        obtain ⟨k1,k2,k3⟩:=renIn_get h2
        refine ⟨by simp [k1],by simp [k2],?_⟩
        intro j b hj
        cases j with
        | zero=>simp at hj;subst hj;exact ⟨sz,els,f,ro,els',hb,h1,rfl,rfl⟩
        | succ j=>simp at hj;obtain ⟨a1,a2,a3,a4,a5,a6,a7,a8,a9⟩:=k3 j b hj;exact ⟨a1,a2,a3,a4,a5,a6,a7,by simpa using a8,by simpa using a9⟩
      · cases h
    · cases h
theorem putIn_get:∀ {nw:List Id} {o:List Ib} {M:Mem} {b:Id} {ob:O},mget b (putIn nw o M) = some ob →
    (mget b M = some ob) ∨ ∃ (j sz:Nat) (els:List (List V)),nw[j]? = some b ∧ o[j]? = some (sz,els) ∧ ob = .cells sz els b .fz
  | [],o,M,b,ob,h=>by simp only [putIn] at h;exact .inl h
  | a :: nw,[],M,b,ob,h=>by simp only [putIn] at h;exact .inl h
  | a :: nw,(sz,els) :: o,M,b,ob,h=>by
    simp only [putIn] at h
    by_cases e:b = a
    · subst e;rw [mget_mput] at h;cases h;exact .inr ⟨0,sz,els,rfl,rfl,rfl⟩
    · rw [mget_mput_ne e] at h
      rcases putIn_get h with h1 | ⟨j,sz,els,h1,h2,h3⟩
      · exact .inl h1
      · exact .inr ⟨j + 1,sz,els,by simpa using h1,by simpa using h2,h3⟩
def thenR (ρ σ:Id → Option Id) (b:Id):Option Id:=(ρ b).bind σ
mutual
theorem renV_comp {ρ σ:Id → Option Id}:∀ {v v1 v2:V},renV ρ v = some v1 → renV σ v1 = some v2 → renV (thenR ρ σ) v = some v2
  | .top,_,_,h,_=>by simp [renV] at h
  | .b x,_,_,h,k=>by simp only [renV,Option.some.injEq] at h;subst h;exact k
  | .i _ _,_,_,h,k=>by simp only [renV,Option.some.injEq] at h;subst h;exact k
  | .s _ _,_,_,h,k=>by simp only [renV,Option.some.injEq] at h;subst h;exact k
  | .pn,_,_,h,k=>by simp only [renV,Option.some.injEq] at h;subst h;exact k
  | .p _ _,_,_,h,_=>by simp [renV] at h
  | .sn,_,_,h,k=>by simp only [renV,Option.some.injEq] at h;subst h;exact k
  | .sl b o len sz,_,_,h,k=>by
    simp only [renV] at h
    cases hb:ρ b with
    | none=>rw [hb] at h;cases h
    | some c=>
      rw [hb] at h;cases h
      simp only [renV] at k ⊢
      simp only [thenR,hb,Option.bind_some]
      exact k
  | .se,_,_,h,k=>by simp only [renV,Option.some.injEq] at h;subst h;exact k
  | .mn,_,_,h,k=>by simp only [renV,Option.some.injEq] at h;subst h;exact k
  | .mp _,_,_,h,_=>by simp [renV] at h
  | .fn _ _ _,_,_,h,_=>by simp [renV] at h
  | .nf,_,_,h,k=>by simp only [renV,Option.some.injEq] at h;subst h;exact k
  | .ifc _ _,_,_,h,_=>by simp [renV] at h
  | .ni,_,_,h,k=>by simp only [renV,Option.some.injEq] at h;subst h;exact k
  | .agg l,_,_,h,k=>by
    simp only [renV] at h
    cases hl:renL ρ l with
    | none=>rw [hl] at h;cases h
    | some l'=>
      rw [hl] at h;cases h
      simp only [renV] at k ⊢
      cases hk:renL σ l' with
      | none=>rw [hk] at k;cases k
      | some l2=>rw [hk] at k;rw [renL_comp hl hk];exact k
  | .tup l,_,_,h,k=>by
    simp only [renV] at h
    cases hl:renL ρ l with
    | none=>rw [hl] at h;cases h
    | some l'=>
      rw [hl] at h;cases h
      simp only [renV] at k ⊢
      cases hk:renL σ l' with
      | none=>rw [hk] at k;cases k
      | some l2=>rw [hk] at k;rw [renL_comp hl hk];exact k
theorem renL_comp {ρ σ:Id → Option Id}:∀ {l l1 l2:List V},renL ρ l = some l1 → renL σ l1 = some l2 → renL (thenR ρ σ) l = some l2
  | [],_,_,h,k=>by simp only [renL,Option.some.injEq] at h;subst h;exact k
  | v :: l,_,_,h,k=>by
    simp only [renL] at h
    cases hv:renV ρ v with
    | none=>rw [hv] at h;cases h
    | some v1=>
      cases hl:renL ρ l with
      | none=>rw [hv,hl] at h;cases h
      | some l1=>
        rw [hv,hl] at h;cases h
        simp only [renL] at k ⊢
        cases kv:renV σ v1 with
        | none=>rw [kv] at k;cases k
        | some v2=>
          cases kl:renL σ l1 with
          | none=>rw [kv,kl] at k;cases k
          | some l2=>rw [kv,kl] at k;cases k;rw [renV_comp hv kv,renL_comp hl kl]
end
theorem renLL_comp {ρ σ:Id → Option Id}:∀ {l l1 l2:List (List V)},renLL ρ l = some l1 → renLL σ l1 = some l2 → renLL (thenR ρ σ) l = some l2
  | [],_,_,h,k=>by simp only [renLL,Option.some.injEq] at h;subst h;exact k
  | v :: l,_,_,h,k=>by
    simp only [renLL] at h
    cases hv:renL ρ v with
    | none=>rw [hv] at h;cases h
    | some v1=>
      cases hl:renLL ρ l with
      | none=>rw [hv,hl] at h;cases h
      | some l1=>
        rw [hv,hl] at h;cases h
        simp only [renLL] at k ⊢
        cases kv:renL σ v1 with
        | none=>rw [kv] at k;cases k
        | some v2=>
          cases kl:renLL σ l1 with
          | none=>rw [kv,kl] at k;cases k
          | some l2=>rw [kv,kl] at k;cases k;rw [renL_comp hv kv,renLL_comp hl kl]
theorem renObs_comp {hp:H} {ρ σ:Id → Option Id}:∀ {l fs:List Id} {obs obs2:List Ob},renObs hp ρ l = some (fs,obs) → renOb σ obs = some obs2 → renObs hp (thenR ρ σ) l = some (fs,obs2)
  | [],_,_,_,h,k=>by simp only [renObs,Option.some.injEq,Prod.mk.injEq] at h;obtain ⟨rfl,rfl⟩:=h;simp only [renOb,Option.some.injEq] at k;subst k;rfl
  | a :: l,_,_,_,h,k=>by
    simp only [renObs] at h ⊢
    split at h
    · rename_i sz els f ty hb
      split at h
      · rename_i els' fs obs h1 h2
        cases h
        simp only [renOb] at k
        split at k
        · rename_i e r k1 k2
          cases k
          rw [renLL_comp h1 k1,renObs_comp h2 k2]
        · cases k
      · cases h
    · cases h
theorem HvOk.tr {r:Result Next} {m1:Mp} {h1 h1' h h':H} {v1 v:V} (hk:HvOk P r m1 h1 w v1 h1')
    (t:∀ u m' w',Fr m1 h1 w m' h1' w' → R m' v1 u → ∃ m2,Fr m h w m2 h' w' ∧ R m2 v u) (hun:∀ m' w',Fr m1 h1 w m' h1' w' → R m' v1 undef → True:=fun _ _ _ _=>trivial):HvOk P r m h w v h':=by
  rcases hk with ⟨u,w',m',hr,hF,hR⟩ | ⟨f,us,hr,hC⟩
  · obtain ⟨m2,h2,h3⟩:=t u m' w' hF hR
    exact .inl ⟨u,w',m2,hr,h2,h3⟩
  · refine .inr ⟨f,us,hr,Calls.mono hC ?_⟩
    rintro e w' ⟨u,m',rfl,hF,hR⟩
    obtain ⟨m2,h2,h3⟩:=t u m' w' hF hR
    exact ⟨u,m2,rfl,h2,h3⟩
def mtOf (base:Nat) (nwT olds:List Id) (m:Mp):Mp:=fun i=>bif Nat.ble (Nat.succ i.toNat) base then m i else match lookI i (nwT.zip olds) with | some b=>m b | none=>none
theorem memo_sound {call:CallT} {base fuel fuel2:Nat} {f:FuncId} {mm:Memo} (hfact:memoFact call base fuel f mm = true) (hcall:CallOK P call) (hbase:P.globals.size ≤ base) (hb32:base < 32768)
    {vs:List V} {us:List Value} {h h':H} {v:V} {olds:List Id} (hr:HR m h w) (hg:Gl P m) (hR:Rl m vs us) (hnx:base ≤ h.next.toNat)
    (hin:canonIn fuel2 base vs h = some (mm.args,mm.ins,olds)) (hv:memoOut base mm olds h = .ok v h'):HvOk P ((callFunc f ⟨us⟩).run P w) m h w v h':=by
  unfold canonIn at hin
  simp only at hin
  generalize colGo h 0 fuel2 vs [] = O at hin
  cases hid:nextIds O.length (idOf base) with
  | none=>rw [hid] at hin;cases hin
  | some nn=>
  obtain ⟨nwT,nx0⟩:=nn
  rw [hid] at hin
  simp only at hin
  cases hnd:nodupI O with
  | false=>rw [hnd] at hin;cases hin
  | true=>
  rw [hnd] at hin
  simp only [cond_true] at hin
  split at hin
  case h_2=>cases hin
  rename_i a fs o hra hri
  cases hfs:nodupI fs with
  | false=>rw [hfs] at hin;cases hin
  | true=>
  rw [hfs] at hin
  simp only [cond_true,Option.some.injEq,Prod.mk.injEq] at hin
  obtain ⟨rfl,rfl,rfl⟩:=hin
  obtain ⟨i1,i2,i3⟩:=nextIds_ok hid
  rw [idOf_toNat hb32] at i2 i3
  obtain ⟨r1,r2,r3⟩:=renIn_get hri
  have hgeT:∀ b,b ∈ nwT → base ≤ b.toNat ∧ b.toNat < nx0.toNat:=by
    intro b hb;obtain ⟨j,hj⟩:=List.mem_iff_getElem?.1 hb
    have:=i3 j b hj
    have:=(List.getElem?_eq_some_iff.1 hj).1
    omega
  have T1:∀ i,i.toNat < base → mtOf base nwT O m i = m i:=by
    intro i hi;unfold mtOf;rw [show Nat.ble (Nat.succ i.toNat) base = true from Nat.ble_eq_true_of_le hi];rfl
  have T2:∀ (j:Nat) c b,nwT[j]? = some c → O[j]? = some b → mtOf base nwT O m c = m b:=by
    intro j c b h1 h2
    have:=(hgeT c (List.mem_of_getElem? h1)).1
    unfold mtOf
    rw [show Nat.ble (Nat.succ c.toNat) base = false by cases e:Nat.ble (Nat.succ c.toNat) base with | false=>rfl | true=>have:=Nat.le_of_ble_eq_true e;omega]
    simp only [cond_false]
    rw [lookI_get (fun j j' b a1 a2=>nextIds_nodup hid a1 a2) h1 h2]
  have T3:∀ i l,mtOf base nwT O m i = some l → (i.toNat < base ∧ m i = some l) ∨ ∃ (j:Nat) (b:Id),nwT[j]? = some i ∧ O[j]? = some b ∧ m b = some l:=by
    intro i l hi
    unfold mtOf at hi
    cases hb:Nat.ble (Nat.succ i.toNat) base with
    | true=>rw [hb] at hi;exact .inl ⟨Nat.le_of_ble_eq_true hb,hi⟩
    | false=>
      rw [hb] at hi
      simp only [cond_false] at hi
      split at hi
      · rename_i b hlk
        obtain ⟨j,h1,h2⟩:=lookI_zip hlk
        exact .inr ⟨j,b,h1,h2,hi⟩
      · cases hi
  have hρT:∀ b c l,rho 0 (O.zip nwT) b = some c → m b = some l → mtOf base nwT O m c = some l:=by
    intro b c l h1 h2
    unfold rho at h1
    rw [show Nat.ble (Nat.succ b.toNat) 0 = false from rfl] at h1
    obtain ⟨j,h3,h4⟩:=lookI_zip h1
    rw [T2 j c b h4 h3];exact h2
  have hRT:Rl (mtOf base nwT O m) mm.args us:=renL_R hρT hra hR
  have hgT:Gl P (mtOf base nwT O m):=by
    intro g hlt
    obtain ⟨lim,hl⟩:=hg g hlt
    exact ⟨lim,by rw [T1 _ (by rw [idOf_toNat (by omega)];omega)];exact hl⟩
  have memT:∀ b ob,mget b (putIn nwT mm.ins Mem.new) = some ob → ∃ (j sz:Nat) (els els0:List (List V)) (b0 f0:Id) (ro:Rw),nwT[j]? = some b ∧ O[j]? = some b0 ∧ ob = .cells sz els b .fz ∧ mget b0 h.mem = some (.cells sz els0 f0 ro) ∧ renLL (rho 0 (O.zip nwT)) els0 = some els ∧ fs[j]? = some f0:=by
    intro b ob hb
    rcases putIn_get hb with h1 | ⟨j,sz,els,h1,h2,h3⟩
    · rw [mget_new] at h1;cases h1
    · have hjl:j < O.length:=by rw [← i1];exact (List.getElem?_eq_some_iff.1 h1).1
      have hb0:=List.getElem?_eq_getElem hjl
      obtain ⟨sz1,els1,f1,ro1,els1',a1,a2,a3,a4⟩:=r3 j _ hb0
      rw [h2] at a4
      cases a4
      exact ⟨j,sz,els,els1,_,f1,ro1,h1,hb0,h3,a1,a2,a3⟩
  have hrT:HR (mtOf base nwT O m) ⟨putIn nwT mm.ins Mem.new,Fam.new,nx0⟩ w:=by
    refine ⟨?_,?_,?_,?_,?_,?_,?_,?_⟩
    · intro b ob hb
      obtain ⟨j,sz,els,els0,b0,f0,ro,h1,h2,rfl,h4,h5,h6⟩:=memT b ob hb
      obtain ⟨l,hl,C,t,fz,hc⟩:=hr.obj b0 _ h4
      have hc':=hc.ren hρT h5
      exact ⟨l,by rw [T2 j b b0 h1 h2];exact hl,C,t,fz,⟨hc'.at_,hc'.room,hc'.len,hc'.each,hc'.val,(fun e=>by cases e),(fun e=>by cases e),(fun ty e=>by cases e),hc'.al⟩⟩
    · intro b l hb
      show b.toNat < nx0.toNat
      rcases T3 b l hb with ⟨h1,_⟩ | ⟨j,b0,h1,_,_⟩
      · omega
      · exact (hgeT b (List.mem_of_getElem? h1)).2
    · intro b b' ob ob' l l' hb hb' hl hl' hne heq
      obtain ⟨j,sz,els,els0,b0,f0,ro,h1,h2,rfl,h4,h5,h6⟩:=memT b ob hb
      obtain ⟨j',sz',els',els0',b0',f0',ro',g1,g2,rfl,g4,g5,g6⟩:=memT b' ob' hb'
      rw [T2 j b b0 h1 h2] at hl;rw [T2 j' b' b0' g1 g2] at hl'
      have hjj:j ≠ j':=fun e=>by subst e;rw [h1] at g1;cases g1;exact hne rfl
      have hbb:b0 ≠ b0':=fun e=>by subst e;exact hjj (nodupI_get hnd j j' b0 h2 g2)
      have hs:f0 = f0':=hr.sep b0 b0' _ _ l l' h4 g4 hl hl' hbb heq
      subst hs
      exact (hjj (nodupI_get hfs j j' f0 h6 g6)).elim
    · intro b b' sz els f ro sz' els' ro' hb hb' hne
      obtain ⟨j,_,_,_,b0,f0,_,h1,h2,h3,_⟩:=memT b _ hb
      obtain ⟨j',_,_,_,b0',f0',_,g1,g2,g3,_⟩:=memT b' _ hb'
      cases h3;cases g3;exact (hne rfl).elim
    · intro f;show List.Pairwise _ (fget f Fam.new);rw [fget_new];exact List.Pairwise.nil
    · intro b l hb
      rcases T3 b l hb with ⟨_,h1⟩ | ⟨j,b0,_,_,h1⟩
      · exact hr.lt b l h1
      · exact hr.lt b0 l h1
    · intro b sz els f ro hb
      obtain ⟨j,_,_,_,b0,f0,_,h1,h2,h3,_⟩:=memT b _ hb
      cases h3
      exact (hgeT b (List.mem_of_getElem? h1)).2
    · intro f x hx
      have hx:x ∈ fget f Fam.new:=hx
      rw [fget_new] at hx;cases hx
  unfold memoFact at hfact
  rw [show mm.ins.length = O.length from r2,hid] at hfact
  simp only at hfact
  cases hidR:nextIds mm.outs.length nx0 with
  | none=>rw [hidR] at hfact;cases hfact
  | some nn=>
  obtain ⟨nwR,nxR⟩:=nn
  rw [hidR] at hfact
  simp only at hfact
  cases hcl:call f mm.args ⟨putIn nwT mm.ins Mem.new,Fam.new,nx0⟩ with
  | bad=>rw [hcl] at hfact;cases hfact
  | ok vT hpp=>
  rw [hcl] at hfact
  simp only at hfact
  cases hcan:canon nx0.toNat fuel nwR hpp vT with
  | none=>rw [hcan] at hfact;cases hfact
  | some cn=>
  rw [hcan] at hfact
  simp only at hfact
  have:=eqCan_eq hfact
  subst this
  have hH:=hcall f mm.args us (mtOf base nwT O m) _ w vT hpp hrT hgT hRT hcl
  unfold memoOut at hv
  rw [hid] at hv
  cases hid2:nextIds mm.outs.length h.next with
  | none=>rw [hid2] at hv;cases hv
  | some nn=>
  obtain ⟨nw2,nx⟩:=nn
  rw [hid2] at hv
  simp only [hidR] at hv
  split at hv
  case h_2=>cases hv
  rename_i v2 obs2 hv2 ho2
  cases hv
  refine hH.tr ?_
  intro u mp w' hF hRp
  obtain ⟨olds2,fs2,hlen2,hnd2,hrv2,hro2,hfs2⟩:=canon_some hcan
  obtain ⟨j1,j2,j3⟩:=nextIds_ok hidR
  obtain ⟨q1,q2,q3⟩:=nextIds_ok hid2
  obtain ⟨e1,e2,e3⟩:=renObs_get hro2
  have hgeR:∀ b,b ∈ nwR → nx0.toNat ≤ b.toNat:=by
    intro b hb;obtain ⟨j,hj⟩:=List.mem_iff_getElem?.1 hb;have:=j3 j b hj;omega
  have hge2:∀ b,b ∈ nw2 → h.next.toNat ≤ b.toNat:=by
    intro b hb;obtain ⟨j,hj⟩:=List.mem_iff_getElem?.1 hb;have:=q3 j b hj;omega
  have C1:∀ i l,m i = some l → mcOf nw2 olds2 mp m i = some l:=by
    intro i l hi
    have:=hr.dom i l hi
    unfold mcOf;rw [lookI_none (fun hm=>by have:=hge2 i hm;omega)];exact hi
  have notW:∀ B,¬ Wb (mtOf base nwT O m) ⟨putIn nwT mm.ins Mem.new,Fam.new,nx0⟩ B:=by
    rintro B ⟨b1,ob1,l1,h1,h2,h3,h4⟩
    obtain ⟨j,_,_,_,b0,f0,_,_,_,rfl,_⟩:=memT b1 ob1 h1
    exact h4 rfl
  have hρF:∀ b c l,thenR (rho nx0.toNat (olds2.zip nwR)) (rho2 (nwT.zip O) (nwR.zip nw2)) b = some c → mp b = some l → mcOf nw2 olds2 mp m c = some l:=by
    intro b c l h1 h2
    unfold thenR at h1
    cases hc1:rho nx0.toNat (olds2.zip nwR) b with
    | none=>rw [hc1] at h1;cases h1
    | some c1=>
      rw [hc1] at h1
      simp only [Option.bind_some] at h1
      unfold rho at hc1
      unfold rho2 at h1
      cases hb:Nat.ble (Nat.succ b.toNat) nx0.toNat with
      | true=>
        rw [hb] at hc1
        simp only [cond_true,Option.some.injEq] at hc1
        subst hc1
        have hlt:b.toNat < nx0.toNat:=Nat.le_of_ble_eq_true hb
        split at h1
        · rename_i b0 hlk
          cases h1
          obtain ⟨j,g1,g2⟩:=lookI_zip hlk
          have:=hF.old b l h2 hlt
          rw [T2 j b c g1 g2] at this
          exact C1 c l this
        · obtain ⟨j,g1,g2⟩:=lookI_zip h1
          have:=hgeR b (List.mem_of_getElem? g1);omega
      | false=>
        rw [hb] at hc1
        obtain ⟨j,g1,g2⟩:=lookI_zip hc1
        have hge:=hgeR c1 (List.mem_of_getElem? g2)
        split at h1
        · rename_i b0 hlk
          obtain ⟨j',g3,_⟩:=lookI_zip hlk
          have:=(hgeT c1 (List.mem_of_getElem? g3)).2;omega
        · obtain ⟨j',g3,g4⟩:=lookI_zip h1
          have hjj:j = j':=nextIds_nodup hidR g2 g3
          subst hjj
          unfold mcOf
          rw [lookI_get (fun j j' b a1 a2=>nextIds_nodup hid2 a1 a2) g4 g1]
          exact h2
  refine ⟨mcOf nw2 olds2 mp m,canon_gen hr hF.hr hF.size (fun B hB _=>hF.keep B hB (notW B)) hF.os hF.tape hF.output hid2 (by rw [hlen2,j1,q1]) (nodupI_get hnd2) (renObs_comp hro2 ho2) hfs2 hρF ?_ ?_,renV_R hρF (renV_comp hrv2 hv2) hRp⟩
  · intro j b l h1 h2
    obtain ⟨sz,els,f1,ty,els',a1,_⟩:=e3 j b h1
    rcases hF.back b _ l a1 h2 with h3 | ⟨b0,ob0,l0,h3,h4,h5,h6⟩
    · exact h3
    · obtain ⟨_,_,_,_,_,_,_,_,_,rfl,_⟩:=memT b0 ob0 h3
      exact absurd rfl (h6 (by intro e;cases e))
  · intro b ob l hb hl
    obtain ⟨l',hl',ho⟩:=hr.obj b ob hb
    rw [hl] at hl';cases hl'
    exact ho.keep (fun i li hi=>C1 i li hi) (hF.keep l.blk (hr.lt b l hl) (notW _))
theorem findM_mem {a:List V} {o:List Ib}:∀ {l:List Memo} {mm:Memo},findM a o l = some mm → mm ∈ l ∧ a = mm.args ∧ o = mm.ins
  | [],_,h=>by simp [findM] at h
  | x :: l,mm,h=>by
    simp only [findM] at h
    cases hb:(beqs a x.args && beqIb o x.ins) with
    | true=>
      rw [hb] at h
      cases h
      rw [Bool.and_eq_true] at hb
      exact ⟨List.mem_cons_self,beqs_eq hb.1,beqIb_eq hb.2⟩
    | false=>
      rw [hb] at h
      obtain ⟨h1,h2⟩:=findM_mem h
      exact ⟨List.mem_cons_of_mem _ h1,h2⟩
end Go.Ev
end
section
namespace Go.Ev
open Go
noncomputable def cmpF:FOp:=⟨fun _ args h=>match args with
  | [.s l c,.s l' c']=>.ok (.i .i64 (bif sEq l c l' c' then 0 else bif ltB (bytesOf l c) (bytesOf l' c') then -1 else 1)) h
  | _=>.bad⟩
noncomputable def sameF:FOp:=⟨fun _ args h=>match args with | [x]=>.ok x h | _=>.bad⟩
end Go.Ev
end
