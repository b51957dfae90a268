/-
  A part of the proof of the card of WorkGeneralizationIsLeast (second form): lemmas that the text Card uses. No condition of its own.
-/
import Derived.Test.YtaloeffmigffaaaGreatDoorTable
set_option linter.all false
set_option linter.unusedVariables false
set_option linter.unusedSimpArgs false
section
namespace Go.Proofs.YtaloeffmigffaaaGreatDoor
open Go.RowKit Go.Big
mutual
theorem key_len {n:Nat} {w:World}:∀ (T:Tm) (vs:List Value),TmV n w T vs → T.errE = 0 → T.key.length ≤ 5000 * T.nodes
  | .mk k v nm g num den args,vs,hV,hE=>by
    simp only [TmV] at hV
    obtain ⟨s1,s2,a,c,_,⟨⟨_,_,_,hA⟩,⟨_,_,_,hC⟩⟩,hSS,_⟩:=hV
    obtain ⟨t1,t2⟩:=errE_split hE
    have ft:=(rootE_fine t1).1
    have st:=(rootE_fine t1).2
    have hsz:nm.size ≤ 4000:=by refine Nat.le_trans st ?_;unfold nameMost;(repeat' split) <;> omega
    have hk:0 ≤ v ∧ v ≤ 1073741824 ∧ args.length ≤ 32:=by unfold RootFine at ft;omega
    have ihL:=keyL_len args a 0 hSS t2
    simp only [Tm.key,Tm.nodes,List.length_cons]
    split
    · have:=leb_len10 (n:=v.toNat) (by omega)
      omega
    · split
      · rename_i k1 k2
        have hn:num.length ≤ 128 ∧ den.length ≤ 128 ∧ (∀ x ∈ num,x < 4611686018427387904) ∧ (∀ x ∈ den,x < 4611686018427387904):=by
          have hf:numFault g num den = 0:=by unfold RootFine at ft;omega
          have hl:¬ (128 < num.length ∨ 128 < den.length):=fun h=>by
            unfold numFault at hf
            rw [if_pos h] at hf
            exact absurd hf (by decide)
          exact ⟨by omega,by omega,fun x hx=>Nat.lt_trans (hA.1 x hx) (by decide),fun x hx=>Nat.lt_trans (hC.1 x hx) (by decide)⟩
        have h1:=flat_len hn.2.2.1
        have h2:=flat_len hn.2.2.2
        have h3:=leb_len10 (n:=num.length) (by omega)
        have h4:=leb_len10 (n:=den.length) (by omega)
        simp only [lebs,List.length_append,List.length_cons]
        omega
      · have h3:=leb_len10 (n:=nm.size) (by omega)
        have h4:=leb_len10 (n:=args.length) (by omega)
        have h5:(nameB nm).length = nm.size:=by simp [nameB]
        simp only [List.length_append]
        omega
theorem keyL_len {n:Nat} {w:World}:∀ (L:List Tm) (a:Option Addr) (i:Nat),TmsV n w L a i → Tm.errL L = 0 → (Tm.keyL L).length ≤ 5000 * Tm.nodesL L
  | [],_,_,_,_=>by simp [Tm.keyL]
  | T :: r,a,i,hV,h=>by
    simp only [TmsV] at hV
    obtain ⟨⟨b,off,vs,_,_,_,hv⟩,hr⟩:=hV
    obtain ⟨h1,h2⟩:=errL_split h
    have e1:=key_len T vs hv h1
    have e2:=keyL_len r a (i + 1) hr h2
    simp only [Tm.keyL,Tm.nodesL,List.length_append]
    omega
end
theorem pairKey_len {p:Tm × Tm} {n:Nat} {w:World} {vs us:List Value} (h:Good p) (hv:TmV n w p.1 vs) (hu:TmV n w p.2 us) (h1:p.1.nodes ≤ 10000) (h2:p.2.nodes ≤ 10000):(pairKey p).length ≤ 200000000:=by
  have e1:=key_len p.1 vs hv h.1
  have e2:=key_len p.2 us hu h.2
  have h3:=leb_len10 (n:=1) (by omega)
  have h4:=leb_len10 (n:=2) (by omega)
  have hn:pairKey p = 5 :: (leb 1 ++ (nameB ⟨#[120]⟩ ++ (leb 2 ++ (p.1.key ++ (p.2.key ++ []))))):=by
    unfold pairKey pkT
    simp [Tm.key,Tm.keyL,ByteArray.size]
  have h5:(nameB ⟨#[120]⟩).length = 1:=by simp [nameB]
  rw [hn]
  simp only [List.length_cons,List.length_append,List.length_nil]
  omega
open Classical in
theorem gen_var {S:List (Tm × Tm)} {k v k' v':Int} {nm nm':ByteArray} {g g':Bool} {num den num' den':List Nat} {args args':List Tm}
    (h1:¬ (Tm.mk k v nm g num den args = .mk k' v' nm' g' num' den' args' ∧ (Tm.mk k v nm g num den args).ground)) (h2:¬ (k = 5 ∧ k' = 5 ∧ nm = nm' ∧ args.length = args'.length)) :
    addAll S (gpairs (.mk k v nm g num den args) (.mk k' v' nm' g' num' den' args')) = addPair S (.mk k v nm g num den args,.mk k' v' nm' g' num' den' args') ∧
    genT S (.mk k v nm g num den args) (.mk k' v' nm' g' num' den' args') = varT (ixOf (addPair S (.mk k v nm g num den args,.mk k' v' nm' g' num' den' args')) (.mk k v nm g num den args) (.mk k' v' nm' g' num' den' args')):=by
  have e1:gpairs (.mk k v nm g num den args) (.mk k' v' nm' g' num' den' args') = [(.mk k v nm g num den args,.mk k' v' nm' g' num' den' args')]:=by
    rw [gpairs,if_neg h1,if_neg h2]
  have e2:∀ ix,gphi ix (.mk k v nm g num den args) (.mk k' v' nm' g' num' den' args') = varT (ix (.mk k v nm g num den args) (.mk k' v' nm' g' num' den' args')):=fun ix=>by
    rw [gphi,if_neg h1,if_neg h2]
  refine ⟨by rw [e1];rfl,?_⟩
  unfold genT
  rw [e2,e1]
  rfl
theorem varT_S (S:Nat → Prop) (w:World) (n:Nat):TmS S w (varT n) [.int .i64 1,.int .i64 n,.string { data:=#[] },.bool false,.slice none 0 0,.slice none 0 0,.slice none 0 0]:=by
  unfold varT
  simp only [TmS,TmsS]
  exact ⟨none,0,none,0,none,0,rfl,⟨by simp,by simp⟩,⟨by simp,by simp⟩,trivial,by simp,by simp,by simp⟩
end Go.Proofs.YtaloeffmigffaaaGreatDoor
end
section
namespace Go.Proofs.YtaloeffmigffaaaGreatDoor
open Go.RowKit Go.Big
attribute [local go_sem] Heavy.uponW
theorem pk_mem {w:World} {n:Nat} {L:Nat} {a b:Tm} {x0 x1 x2 x3 x4 x5 x6 y0 y1 y2 y3 y4 y5 y6:Value} (hb:w.heap[L]? = some (.cells #[x0,x1,x2,x3,x4,x5,x6,y0,y1,y2,y3,y4,y5,y6] 27 (0,0))) (hL:L < n)
    (h1:TmV n w a [x0,x1,x2,x3,x4,x5,x6]) (h2:TmV n w b [y0,y1,y2,y3,y4,y5,y6]) :
    TmV n w (pkT (a,b)) [.int .i64 5,.int .i64 0,.string ⟨#[120]⟩,.bool false,.slice none 0 0,.slice none 0 0,.slice (some ⟨L,0,none⟩) 2 2]:=by
  unfold pkT
  simp only [TmV,TmsV]
  refine ⟨_,_,_,_,rfl,⟨⟨none,0,rfl,by simp [LimAt]⟩,⟨none,0,rfl,by simp [LimAt]⟩⟩,⟨⟨L,0,_,rfl,hL,fun j u hj=>?_,h1⟩,⟨L,0,_,rfl,hL,fun j u hj=>?_,h2⟩,trivial⟩,by simp,by simp,by simp⟩
  · match j,hj with
    | 0,hj | 1,hj | 2,hj | 3,hj | 4,hj | 5,hj | 6,hj=>simp at hj;subst hj;simp [World.cell?,hb]
    | j + 7,hj=>simp at hj
  · match j,hj with
    | 0,hj | 1,hj | 2,hj | 3,hj | 4,hj | 5,hj | 6,hj=>simp at hj;subst hj;simp [World.cell?,hb]
    | j + 7,hj=>simp at hj
set_option maxRecDepth 100000 in
set_option maxHeartbeats 8000000 in
theorem of_var (k v k' v':Int) (nm nm':ByteArray) (g g':Bool) (num den num' den':List Nat) (args args':List Tm) (n:Nat) (w:World) (vs us:List Value) (S:List (Tm × Tm)) (mb gb:Nat)
    (hn1:¬ (Tm.mk k v nm g num den args = .mk k' v' nm' g' num' den' args' ∧ (Tm.mk k v nm g num den args).ground)) (hn2:¬ (k = 5 ∧ k' = 5 ∧ nm = nm' ∧ args.length = args'.length))
    (ha:(Tm.mk k v nm g num den args).errE = 0) (hb:(Tm.mk k' v' nm' g' num' den' args').errE = 0) (na:(Tm.mk k v nm g num den args).nodes ≤ 10000) (nb:(Tm.mk k' v' nm' g' num' den' args').nodes ≤ 10000)
    (h:TmV n w (.mk k v nm g num den args) vs) (h':TmV n w (.mk k' v' nm' g' num' den' args') us) (hnm:n ≤ mb) (hng:n ≤ gb) (hgm:gb ≠ mb) (hgs:gb < w.heap.size) (hg:w.cell? ⟨gb,0,none⟩ = some (.map (some mb))) (hM:MapTab w mb S) (hS:S.length < 1048576) :
    Calls Tryz.prog 24 #[.pointer (some ⟨gb,0,none⟩),.agg vs.toArray,.agg us.toArray] w fun e w'=>∃ r:Nat,e = .returned (.agg #[.int .i64 1,.int .i64 r,.string { data:=#[] },.bool false,.slice none 0 0,.slice none 0 0,.slice none 0 0]) ∧
      r = ixOf (addPair S (.mk k v nm g num den args,.mk k' v' nm' g' num' den' args')) (.mk k v nm g num den args) (.mk k' v' nm' g' num' den' args') ∧ MapTab w' mb (addPair S (.mk k v nm g num den args,.mk k' v' nm' g' num' den' args')) ∧ Kept mb w w':=by
  obtain ⟨A,hA⟩:∃ A,Tm.mk k v nm g num den args = A:=⟨_,rfl⟩
  obtain ⟨B,hBB⟩:∃ B,Tm.mk k' v' nm' g' num' den' args' = B:=⟨_,rfl⟩
  have hmw:=hM.lt
  have hnw:n ≤ w.heap.size:=by omega
  have h0:=h
  have h0':=h'
  rw [hA] at h0 ha na hn1 ⊢
  rw [hBB] at h0' hb nb hn1 ⊢
  have hgood:Good (A,B):=⟨ha,hb⟩
  have hpl:=pairKey_len (p:=(A,B)) hgood h0 h0' na nb
  have e1:=fun (w2:World) (hb2:Below w.heap.size w w2)=>equal_calls A B n w2 vs us (errE_vd _ ha) (errE_vd _ hb) (TmV.below hb2 hnw _ _ h0) (TmV.below hb2 hnw _ _ h0') (Nat.le_trans hnw hb2.size)
  have e2:=fun (w2:World) (hb2:Below w.heap.size w w2)=>ground_calls A n w2 vs (TmV.below hb2 hnw _ _ h0) (Nat.le_trans hnw hb2.size)
  obtain ⟨E,hE⟩:∃ E,A.eqB B = E:=⟨_,rfl⟩
  obtain ⟨G,hG⟩:∃ G,A.gndB = G:=⟨_,rfl⟩
  rw [hE] at e1
  rw [hG] at e2
  have hEG:Aside (E = false ∨ G = false):=by
    show _ ∨ _
    rcases Bool.eq_false_or_eq_true E with h1 | h1
    · rcases Bool.eq_false_or_eq_true G with h2 | h2
      · exact absurd ⟨Tm.eqB_iff.1 (hE.trans h1),Tm.gndB_iff.1 (hG.trans h2)⟩ hn1
      · exact .inr h2
    · exact .inl h1
  have hkey:Aside (∀ (w2:World) (L:Nat) (x0 x1 x2 x3 x4 x5 x6 y0 y1 y2 y3 y4 y5 y6:Value),Below w.heap.size w w2 → n ≤ w2.heap.size → L < w2.heap.size → w2.heap[L]? = some (.cells #[x0,x1,x2,x3,x4,x5,x6,y0,y1,y2,y3,y4,y5,y6] 27 (0,0)) → vs = [x0,x1,x2,x3,x4,x5,x6] → us = [y0,y1,y2,y3,y4,y5,y6] →
      Calls Tryz.prog 58 #[.agg #[.int .i64 5,.int .i64 0,.string ⟨#[120]⟩,.bool false,.slice none 0 0,.slice none 0 0,.slice (some ⟨L,0,none⟩) 2 2]] w2 fun e w'=>e = .returned (.string (strN (pairKey (A,B)))) ∧ Below w2.heap.size w2 w'):=by
    show ∀ w2:World,_
    intro w2 L x0 x1 x2 x3 x4 x5 x6 y0 y1 y2 y3 y4 y5 y6 hb2 hn2 hL hc e1 e2
    have i1:=TmV.toS _ _ (TmV.below hb2 hnw _ _ h0)
    have i2:=TmV.toS _ _ (TmV.below hb2 hnw _ _ h0')
    rw [e1] at i1
    rw [e2] at i2
    have j1:=TmS.toV (n:=w2.heap.size) (fun k hk=>by omega) _ _ i1
    have j2:=TmS.toV (n:=w2.heap.size) (fun k hk=>by omega) _ _ i2
    exact key_calls (pkT (A,B)) w2.heap.size w2 _ (pkT_err hgood) (pk_mem hc hL j1 j2) (Nat.le_refl _) (by show (pairKey (A,B)).length + 10 ≤ _;omega)
  have hlook:Aside (∀ w2:World,w2.heap[mb]? = w.heap[mb]? → ∃ (r:Int) (q:Bool),(Instr.lookup 69 (.map (some mb)) (.string (strN (pairKey (A,B)))) true).run Tryz.prog w2 = .ok (.tuple #[.int .i64 r,.bool q]) w2 ∧ (q = true ↔ (A,B) ∈ S) ∧ (q = true → r = ixOf S A B)):=
    fun w2 e=>(hM.of_block e).look hgood (by unfold maxLen;omega)
  have hput:Aside (∀ w2:World,w2.heap[mb]? = w.heap[mb]? → (A,B) ∉ S → ∃ w',(Instr.mapUpdate 69 (.map (some mb)) (.string (strN (pairKey (A,B)))) (.int .i64 (S.length:Nat))).run Tryz.prog w2 = .ok () w' ∧ MapTab w' mb (S ++ [(A,B)]) ∧ w2.grownBy w' (some mb)):=
    fun w2 e hno=>(hM.of_block e).put hgood (by unfold maxLen;omega) hno (by omega)
  have hlen:Aside (∀ w2:World,w2.heap[mb]? = w.heap[mb]? → ∀ ty,(Builtin.len_ #[69] ty #[.map (some mb)]).run Tryz.prog w2 = .ok (.int .i64 (S.length:Nat)) w2):=fun w2 e ty=>(hM.of_block e).len ty
  have hMA:Aside (MapTab w mb S):=hM
  have hnot:Aside ((A,B) ∉ S → addPair S (A,B) = S ++ [(A,B)] ∧ ixOf (addPair S (A,B)) A B = S.length):=by
    intro hno
    have:addPair S (A,B) = S ++ [(A,B)]:=by unfold addPair;rw [if_neg hno]
    exact ⟨this,by rw [this];exact ixOf_new (p:=(A,B)) hno⟩
  have hin:Aside ((A,B) ∈ S → addPair S (A,B) = S):=by
    intro hyes
    unfold addPair;rw [if_pos hyes]
  generalize addPair S (A,B) = S' at *
  generalize pairKey (A,B) = K at *
  simp only [TmV] at h h'
  obtain ⟨s1,s2,p,c,rfl,⟨⟨p1,c1,rfl,_⟩,⟨p2,c2,rfl,_⟩⟩,_⟩:=h
  obtain ⟨t1,t2,p',c',rfl,⟨⟨p1',c1',rfl,_⟩,⟨p2',c2',rfl,_⟩⟩,_⟩:=h'
  generalize args.length = len at *
  generalize num.length = l1 at *
  generalize den.length = l2 at *
  generalize args'.length = len' at *
  generalize num'.length = l1' at *
  generalize den'.length = l2' at *
  obtain ⟨hBw,q1,q2,q3,hsz⟩:=three_blocks w (.cells #[.int .i64 k,.int .i64 v,.string nm,.bool g,.slice p1 l1 c1,.slice p2 l2 c2,.slice p len c] 27) (.cells #[.int .i64 k',.int .i64 v',.string nm',.bool g',.slice p1' l1' c1',.slice p2' l2' c2',.slice p' len' c'] 27) zObj
  obtain ⟨wb,hwb⟩:∃ wb,((w.alloc (.cells #[.int .i64 k,.int .i64 v,.string nm,.bool g,.slice p1 l1 c1,.slice p2 l2 c2,.slice p len c] 27)).alloc (.cells #[.int .i64 k',.int .i64 v',.string nm',.bool g',.slice p1' l1' c1',.slice p2' l2' c2',.slice p' len' c'] 27)).alloc zObj = wb:=⟨_,rfl⟩
  rw [hwb] at hBw q1 q2 q3 hsz
  have f1:=e1 wb hBw
  replace f1:Calls Tryz.prog 55 #[.agg #[.int .i64 k,.int .i64 v,.string nm,.bool g,.slice p1 l1 c1,.slice p2 l2 c2,.slice p len c],.agg #[.int .i64 k',.int .i64 v',.string nm',.bool g',.slice p1' l1' c1',.slice p2' l2' c2',.slice p' len' c']] _ _:=f1
  have e2A:Aside (∀ (w2:World) (hb:Below w.heap.size w w2),Calls Tryz.prog 56 #[.agg #[.int .i64 k,.int .i64 v,.string nm,.bool g,.slice p1 l1 c1,.slice p2 l2 c2,.slice p len c]] w2 _):=e2
  have fa:Aside (∀ (w2:World) (hb:Below wb.heap.size wb w2),_):=fun w2 hb=>cells7 ((hb.block w.heap.size (by omega)).trans q1)
  have fb:Aside (∀ (w2:World) (hb:Below wb.heap.size wb w2),_):=fun w2 hb=>cells7 ((hb.block (w.heap.size + 1) (by omega)).trans q2)
  have fr:Aside (∀ (w2:World) (hb:Below wb.heap.size wb w2),w2.heap[w.heap.size + 2]? = some zObj):=fun w2 hb=>(hb.block (w.heap.size + 2) (by omega)).trans q3
  obtain ⟨x0,x1,x2,x3,x4,x5,x6⟩:=cells7 q1
  obtain ⟨y0,y1,y2,y3,y4,y5,y6⟩:=cells7 q2
  have hszA:Aside (wb.heap.size = w.heap.size + 3):=hsz
  have hgA:Aside (w.cell? ⟨gb,0,none⟩ = some (.map (some mb))):=hg
  have hn2A:Aside (¬ (k = 5 ∧ k' = 5 ∧ nm = nm' ∧ len = len')):=hn2
  clear e1 e2 h0 h0' q1 q2 q3 hsz ha hb na nb hgood hpl hE hG hn1 hM hg hn2 hA hBB
  show Calls Tryz.prog 24 #[.pointer (some ⟨gb,0,none⟩),.agg #[.int .i64 k,.int .i64 v,.string nm,.bool g,.slice p1 l1 c1,.slice p2 l2 c2,.slice p len c],.agg #[.int .i64 k',.int .i64 v',.string nm',.bool g',.slice p1' l1' c1',.slice p2' l2' c2',.slice p' len' c']] w _
  have hzO:zObj = .cells #[.int .i64 0,.int .i64 0,.string { data:=#[] },.bool false,.slice none 0 0,.slice none 0 0,.slice none 0 0] 27:=rfl
  rw [hzO] at hwb
  go_enter Tryz.func24,Tryz.ntmps24
  go_upto_region 1 with fail
  clear hwb
  go_cut [18] from 12 to 18 (fun s18 wx=>s18 = .bool false ∧ Below wb.heap.size wb wx)
  case first=>as_aux_lemma=>
    clear hkey hlook hput hlen hMA hnot hin fr fb
    cases E
    · go_wp2_with (go_at_call 55;with_reducible refine f1.mono ?_)
      first | rintro e w1 rfl hb1 | rintro e w1 ⟨rfl,hb1⟩
      go_wp2
      go_meet
      exact ⟨rfl,hb1⟩
    · have hGf:G = false:=by rcases hEG.out with h | h <;> simp_all
      subst hGf
      go_wp2_with (go_at_call 55;with_reducible refine f1.mono ?_)
      first | rintro e w1 rfl hb1 | rintro e w1 ⟨rfl,hb1⟩
      obtain ⟨z0,z1,z2,z3,z4,z5,z6⟩:=fa.out w1 hb1
      have f2:=e2A.out w1 (hBw.trans (hb1.mono hBw.size))
      go_wp2_with (go_at_call 56;with_reducible refine f2.mono ?_)
      first | rintro e w2 rfl hb2 | rintro e w2 ⟨rfl,hb2⟩
      go_wp2
      go_meet
      exact ⟨rfl,hb1.trans (hb2.mono hb1.size)⟩
  case rest=>
    obtain ⟨rfl,hbc⟩:=hcut
    clear x0 x1 x2 x3 x4 x5 x6 y0 y1 y2 y3 y4 y5 y6 f1 e2A
    obtain ⟨x0,x1,x2,x3,x4,x5,x6⟩:=fa.out wc hbc
    obtain ⟨y0,y1,y2,y3,y4,y5,y6⟩:=fb.out wc hbc
    have hfrc:=fr.out wc hbc
    have hBc:Below w.heap.size w wc:=hBw.trans (hbc.mono hBw.size)
    have hcs:Aside (w.heap.size + 3 ≤ wc.heap.size):=by have:=hbc.size;have:=hszA.out;show _ ≤ _;omega
    clear fa fb fr
    go_upto_region 3 with fail
    go_cut [43] from 20 to 43 (fun s43 wx=>s43 = .bool false ∧ wx = wc)
    case first=>as_aux_lemma=>
      clear hkey hlook hput hlen hMA hnot hin hfrc hBc hbc
      by_cases k1:k = 5
      · subst k1
        by_cases k2:k' = 5
        · subst k2
          by_cases k3:nm = nm'
          · subst k3
            have hlB:((len:Int) == (len':Int)) = false:=by
              have:=hn2A.out
              simp;intro h;exact this ⟨rfl,rfl,rfl,by omega⟩
            go_wp2
            go_meet
            exact ⟨rfl,rfl⟩
          · have hnB:(nm.toList == nm'.toList) = false:=by rw [strEq];simpa using k3
            go_wp2
            go_meet
            exact ⟨rfl,rfl⟩
        · have hkB:(k' == 5) = false:=by simpa using k2
          go_wp2
          go_meet
          exact ⟨rfl,rfl⟩
      · have hkB:(k == 5) = false:=by simpa using k1
        go_wp2
        go_meet
        exact ⟨rfl,rfl⟩
    case rest=>
      obtain ⟨rfl,hwcc⟩:=hcut
      subst hwcc
      have hB11:=below_alloc wc (.cells #[.int .i64 k,.int .i64 v,.string nm,.bool g,.slice p1 l1 c1,.slice p2 l2 c2,.slice p len c,.int .i64 k',.int .i64 v',.string nm',.bool g',.slice p1' l1' c1',.slice p2' l2' c2',.slice p' len' c'] 27)
      have hL11:=heap_alloc_new wc (.cells #[.int .i64 k,.int .i64 v,.string nm,.bool g,.slice p1 l1 c1,.slice p2 l2 c2,.slice p len c,.int .i64 k',.int .i64 v',.string nm',.bool g',.slice p1' l1' c1',.slice p2' l2' c2',.slice p' len' c'] 27)
      have hs11:(wc.alloc (.cells #[.int .i64 k,.int .i64 v,.string nm,.bool g,.slice p1 l1 c1,.slice p2 l2 c2,.slice p len c,.int .i64 k',.int .i64 v',.string nm',.bool g',.slice p1' l1' c1',.slice p2' l2' c2',.slice p' len' c'] 27)).heap.size = wc.heap.size + 1:=by simp
      have d57:=tcomp_calls ⟨#[120]⟩ (some ⟨wc.heap.size,0,none⟩) 2 2 (by omega) (wc.alloc (.cells #[.int .i64 k,.int .i64 v,.string nm,.bool g,.slice p1 l1 c1,.slice p2 l2 c2,.slice p len c,.int .i64 k',.int .i64 v',.string nm',.bool g',.slice p1' l1' c1',.slice p2' l2' c2',.slice p' len' c'] 27))
      clear hn2A hEG
      go_wp2_with (go_at_call 57;with_reducible refine d57.mono ?_)
      first | rintro e w5 rfl hb5 | rintro e w5 ⟨rfl,hb5⟩
      have hb5c:Below wc.heap.size wc w5:=hB11.trans (hb5.mono (by omega))
      have hBw5:Below w.heap.size w w5:=hBc.trans (hb5c.mono hBc.size)
      have d58:=hkey.out w5 wc.heap.size _ _ _ _ _ _ _ _ _ _ _ _ _ _ hBw5 (by have:=hBw5.size;omega) (by have:=hb5.size;omega) ((hb5.block _ (by omega)).trans hL11) rfl rfl
      clear hkey d57 hL11
      go_wp2_with (go_at_call 58;with_reducible refine d58.mono ?_)
      first | rintro e w6 rfl hb6 | rintro e w6 ⟨rfl,hb6⟩
      have hb6c:Below wc.heap.size wc w6:=hb5c.trans (hb6.mono hb5c.size)
      have hBw6:Below w.heap.size w w6:=hBc.trans (hb6c.mono hBc.size)
      have hcg:w6.cell? ⟨gb,0,none⟩ = some (.map (some mb)):=(hBw6.cell (p:=⟨gb,0,none⟩) hgs).trans hgA.out
      have hmb6:=hBw6.block mb hmw
      obtain ⟨r,q,hrun,hq1,hq2⟩:=hlook.out w6 hmb6
      have hr6:=(hb6c.block (w.heap.size + 2) (by have:=hcs.out;omega)).trans hfrc
      have hqA:Aside ((q = true ↔ (A,B) ∈ S) ∧ (q = true → r = ixOf S A B)):=⟨hq1,hq2⟩
      clear d58 hlook hq1 hq2 hb5 hb6 hB11 hs11 x0 x1 x2 x3 x4 x5 x6 y0 y1 y2 y3 y4 y5 y6
      cases q
      · have hno:(A,B) ∉ S:=fun h=>by
          have:=hqA.out.1.2 h
          exact absurd this (by decide)
        obtain ⟨w7,hrun7,hM7,hgr7⟩:=hput.out w6 hmb6 hno
        have hlen6:=hlen.out w6 hmb6
        have hK7:Kept mb w6 w7:=Kept.grown (by have:=hBw6.size;omega) hgr7
        have d59:=tvar_calls (S.length:Nat) w7
        have hfin:=hnot.out hno
        clear hput hlen hqA
        go_wp2_with (go_at_call 59;with_reducible refine d59.mono ?_)
        first | rintro e w8 rfl hb8 | rintro e w8 ⟨rfl,hb8⟩
        have hr8:w8.heap[w.heap.size + 2]? = some zObj:=(hb8.block _ (by have:=hK7.below.size;have:=hb6c.size;have:=hcs.out;omega)).trans ((hK7.block _ (by have:=hb6c.size;have:=hcs.out;omega) (by omega)).trans hr6)
        obtain ⟨r0,r1,r2,r3,r4,r5,r6⟩:=cells7 hr8
        have rz:=frozen_of hr8
        go_wp2
        obtain ⟨g1,g2,g3⟩:=set7 (v0:=.int .i64 1) (v1:=.int .i64 (S.length:Nat)) (v2:=.string ⟨#[]⟩) (v3:=.bool false) (v4:=.slice none 0 0) (v5:=.slice none 0 0) (v6:=.slice none 0 0) hr8
        refine bodyPost_ret (results_cell_row rfl _ _ (w.heap.size + 2) 27 _ _ _ rfl g1 Tryz.underlying27 rfl (by kernel_rfl)) rfl ?_
        have hK8:Kept mb w w8:=((Kept.of_below (by omega) hBw6).trans hK7).trans (Kept.of_below (by have:=hK7.below.size;have:=hBw6.size;omega) hb8)
        refine ⟨S.length,rfl,hfin.2.symm,?_,⟨hK8.below.trans (g3.mono (by omega)),fun kk h1 h2=>(g2 kk (by omega)).trans (hK8.block kk h1 h2)⟩⟩
        rw [hfin.1]
        exact hM7.of_block ((g2 mb (by omega)).trans (hb8.block mb hM7.lt))
      · have hyes:(A,B) ∈ S:=hqA.out.1.1 rfl
        obtain rfl:=hqA.out.2 rfl
        have hS':=hin.out hyes
        obtain ⟨rr,hrr⟩:∃ rr,ixOf S A B = rr:=⟨_,rfl⟩
        rw [hrr] at hrun
        have d59:=tvar_calls (rr:Nat) w6
        have hrrA:Aside (rr = ixOf S' A B):=by show _ = _;rw [hS'];exact hrr.symm
        have hMS:Aside (S' = S):=hS'
        clear hput hlen hqA hS' hrr
        go_wp2_with (go_at_call 59;with_reducible refine d59.mono ?_)
        first | rintro e w8 rfl hb8 | rintro e w8 ⟨rfl,hb8⟩
        have hr8:w8.heap[w.heap.size + 2]? = some zObj:=(hb8.block _ (by have:=hb6c.size;have:=hcs.out;omega)).trans hr6
        obtain ⟨r0,r1,r2,r3,r4,r5,r6⟩:=cells7 hr8
        have rz:=frozen_of hr8
        go_wp2
        obtain ⟨g1,g2,g3⟩:=set7 (v0:=.int .i64 1) (v1:=.int .i64 (rr:Nat)) (v2:=.string ⟨#[]⟩) (v3:=.bool false) (v4:=.slice none 0 0) (v5:=.slice none 0 0) (v6:=.slice none 0 0) hr8
        refine bodyPost_ret (results_cell_row rfl _ _ (w.heap.size + 2) 27 _ _ _ rfl g1 Tryz.underlying27 rfl (by kernel_rfl)) rfl ?_
        have hB8:Below w.heap.size w w8:=hBw6.trans (hb8.mono (by have:=hBw6.size;omega))
        have hBf:=hB8.trans (g3.mono (by omega))
        refine ⟨rr,rfl,hrrA.out,?_,Kept.of_below (by omega) hBf⟩
        rw [hMS.out]
        exact hMA.out.of_block (hBf.block mb hmw)
end Go.Proofs.YtaloeffmigffaaaGreatDoor
end
