/-
  A part of the proof of the card of WorkGeneralizationIsLeast (second form): lemmas that the text Card uses. No condition of its own.
-/
import Derived.Test.YtaloeffmigffaaaGreatDoorOfA
import Derived.Test.YtaloeffmigffaaaGreatDoorRules
set_option linter.all false
set_option linter.unusedVariables false
set_option linter.unusedSimpArgs false
section
namespace Go.Proofs.YtaloeffmigffaaaGreatDoor
open Go.RowKit Go.Big
theorem gpairsL_nil (B:List Tm):gpairsL [] B = []:=by unfold gpairsL;rfl
theorem gpairsL_nil' (A:List Tm):gpairsL A [] = []:=by cases A <;> (unfold gpairsL;rfl)
theorem gpairsL_cons (a b:Tm) (A B:List Tm):gpairsL (a :: A) (b :: B) = gpairs a b ++ gpairsL A B:=by rw [gpairsL]
theorem gpairsL_split:∀ (j:Nat) (A B:List Tm),gpairsL A B = gpairsL (A.take j) (B.take j) ++ gpairsL (A.drop j) (B.drop j)
  | 0,A,B=>by simp [gpairsL_nil]
  | j + 1,[],B=>by simp [gpairsL_nil]
  | j + 1,a :: A,[]=>by simp [gpairsL_nil']
  | j + 1,a :: A,b :: B=>by
    simp only [List.take_succ_cons,List.drop_succ_cons,gpairsL_cons,List.append_assoc]
    rw [← gpairsL_split j A B]
theorem gpairsL_take {A B:List Tm} {j:Nat} {a b:Tm} (ha:A[j]? = some a) (hb:B[j]? = some b):gpairsL (A.take (j + 1)) (B.take (j + 1)) = gpairsL (A.take j) (B.take j) ++ gpairs a b:=by
  induction j generalizing A B with
  | zero=>
    cases A with
    | nil=>simp at ha
    | cons x A=>
      cases B with
      | nil=>simp at hb
      | cons y B=>
        simp at ha hb
        subst ha;subst hb
        simp [gpairsL_cons,gpairsL_nil]
  | succ j ih=>
    cases A with
    | nil=>simp at ha
    | cons x A=>
      cases B with
      | nil=>simp at hb
      | cons y B=>
        have:=ih (A:=A) (B:=B) (by simpa using ha) (by simpa using hb)
        simp only [List.take_succ_cons,gpairsL_cons,List.append_assoc] at this ⊢
        rw [this]
theorem gphiL_get {ix:Tm → Tm → Nat} {A B:List Tm} {j:Nat} {a b:Tm} (ha:A[j]? = some a) (hb:B[j]? = some b):(gphiL ix A B)[j]? = some (gphi ix a b):=by
  induction j generalizing A B with
  | zero=>
    cases A with
    | nil=>simp at ha
    | cons x A=>
      cases B with
      | nil=>simp at hb
      | cons y B=>
        simp at ha hb
        subst ha;subst hb
        simp [gphiL]
  | succ j ih=>
    cases A with
    | nil=>simp at ha
    | cons x A=>
      cases B with
      | nil=>simp at hb
      | cons y B=>
        have:=ih (A:=A) (B:=B) (by simpa using ha) (by simpa using hb)
        simpa [gphiL] using this
theorem gpairs_step {S:List (Tm × Tm)} {A B:List Tm} {j:Nat} {a b:Tm} (ha:A[j]? = some a) (hb:B[j]? = some b) :
    addAll (addAll S (gpairsL (A.take j) (B.take j))) (gpairs a b) = addAll S (gpairsL (A.take (j + 1)) (B.take (j + 1))):=by
  rw [gpairsL_take ha hb,addAll_append]
theorem gpairs_pre {S:List (Tm × Tm)} (A B:List Tm) (j:Nat):addAll S (gpairsL (A.take j) (B.take j)) <+: addAll S (gpairsL A B):=by
  rw [gpairsL_split j A B,addAll_append]
  exact addAll_prefix _ _
theorem gpairs_bound {S:List (Tm × Tm)} {A B:List Tm} {j:Nat} {a b:Tm} {M:Nat} (ha:A[j]? = some a) (hb:B[j]? = some b) (h:S.length + (gpairsL A B).length ≤ M) :
    (addAll S (gpairsL (A.take j) (B.take j))).length + (gpairs a b).length ≤ M:=by
  have h1:=addAll_length (gpairsL (A.take j) (B.take j)) S
  have h2:=congrArg List.length (gpairsL_split (j + 1) A B)
  rw [gpairsL_take ha hb,List.length_append,List.length_append] at h2
  omega
theorem nodesL_get {L:List Tm} {i:Nat} {T:Tm} (h:L[i]? = some T):T.nodes ≤ Tm.nodesL L:=by
  induction L generalizing i with
  | nil=>simp at h
  | cons a r ih=>
    simp only [Tm.nodesL]
    cases i with
    | zero=>simp at h;subst h;omega
    | succ j=>have:=ih (by simpa using h);omega
open Classical in
theorem gen_comp {S:List (Tm × Tm)} {nm:ByteArray} {args args':List Tm} (hl:args.length = args'.length)
    (h1:¬ (Tm.mk 5 0 nm false [] [] args = .mk 5 0 nm false [] [] args' ∧ (Tm.mk 5 0 nm false [] [] args).ground)) :
    gpairs (.mk 5 0 nm false [] [] args) (.mk 5 0 nm false [] [] args') = gpairsL args args' ∧
    genT S (.mk 5 0 nm false [] [] args) (.mk 5 0 nm false [] [] args') = .mk 5 0 nm false [] [] (gphiL (ixOf (addAll S (gpairsL args args'))) args args'):=by
  have e1:gpairs (.mk 5 0 nm false [] [] args) (.mk 5 0 nm false [] [] args') = gpairsL args args':=by
    rw [gpairs,if_neg h1,if_pos ⟨rfl,rfl,rfl,hl⟩]
  have e2:∀ ix,gphi ix (.mk 5 0 nm false [] [] args) (.mk 5 0 nm false [] [] args') = .mk 5 0 nm false [] [] (gphiL ix args args'):=fun ix=>by
    rw [gphi,if_neg h1,if_pos ⟨rfl,rfl,rfl,hl⟩]
  refine ⟨e1,?_⟩
  unfold genT
  rw [e2,e1]
end Go.Proofs.YtaloeffmigffaaaGreatDoor
end
section
namespace Go.Proofs.YtaloeffmigffaaaGreatDoor
open Go.RowKit Go.Big
attribute [local go_sem] Heavy.uponW
theorem below_drew_at (n:Nat) (w:World):Below n w w.drew:=⟨rfl,rfl,rfl,Nat.le_refl _,fun _ _=>rfl⟩
set_option maxRecDepth 100000 in
set_option maxHeartbeats 8000000 in
theorem of_comp (nm:ByteArray) (args args':List Tm) (ih:∀ T ∈ args,OfOk T) (n:Nat) (w:World) (vs us:List Value) (S:List (Tm × Tm)) (mb gb:Nat)
    (hn1:¬ (Tm.mk 5 0 nm false [] [] args = .mk 5 0 nm false [] [] args' ∧ (Tm.mk 5 0 nm false [] [] args).ground)) (hll:args.length = args'.length) (hpos:0 < args.length)
    (ha:(Tm.mk 5 0 nm false [] [] args).errE = 0) (hb:(Tm.mk 5 0 nm false [] [] args').errE = 0) (na:(Tm.mk 5 0 nm false [] [] args).nodes ≤ 10000) (nb:(Tm.mk 5 0 nm false [] [] args').nodes ≤ 10000)
    (h:TmV n w (.mk 5 0 nm false [] [] args) vs) (h':TmV n w (.mk 5 0 nm false [] [] args') us) (hnm:n ≤ mb) (hng:n ≤ gb) (hgm:gb ≠ mb) (hgs:gb < w.heap.size) (hg:w.cell? ⟨gb,0,none⟩ = some (.map (some mb))) (hM:MapTab w mb S) (hS:S.length + (gpairsL args args').length ≤ 1048576) :
    Calls Tryz.prog 24 #[.pointer (some ⟨gb,0,none⟩),.agg vs.toArray,.agg us.toArray] w fun e w'=>∃ rs,e = .returned (.agg rs.toArray) ∧
      TmS (Nw n w w') w' (.mk 5 0 nm false [] [] (gphiL (ixOf (addAll S (gpairsL args args'))) args args')) rs ∧ MapTab w' mb (addAll S (gpairsL args args')) ∧ Kept mb w w':=by
  obtain ⟨A,hA⟩:∃ A,Tm.mk 5 0 nm false [] [] args = A:=⟨_,rfl⟩
  obtain ⟨B,hBB⟩:∃ B,Tm.mk 5 0 nm false [] [] args' = B:=⟨_,rfl⟩
  have hmw:=hM.lt
  have hnw:n ≤ w.heap.size:=by omega
  have h0:=h
  have h0':=h'
  have erA:Aside (Tm.errL args = 0 ∧ Tm.errL args' = 0):=⟨(errE_split ha).2,(errE_split hb).2⟩
  have ndA:Aside (Tm.nodesL args ≤ 10000 ∧ Tm.nodesL args' ≤ 10000):=by
    simp only [Tm.nodes] at na nb
    exact ⟨by omega,by omega⟩
  have ihA:Aside (∀ T ∈ args,OfOk T):=ih
  have hSA:Aside (S.length + (gpairsL args args').length ≤ 1048576):=hS
  rw [hA] at h0 ha na hn1
  rw [hBB] at h0' hb nb hn1
  have e1:=fun (w2:World) (hb2:Below w.heap.size w w2)=>equal_calls A B n w2 vs us (errE_vd _ ha) (errE_vd _ hb) (TmV.below hb2 hnw _ _ h0) (TmV.below hb2 hnw _ _ h0') (Nat.le_trans hnw hb2.size)
  have e2:=fun (w2:World) (hb2:Below w.heap.size w w2)=>ground_calls A n w2 vs (TmV.below hb2 hnw _ _ h0) (Nat.le_trans hnw hb2.size)
  obtain ⟨E,hE⟩:∃ E,A.eqB B = E:=⟨_,rfl⟩
  obtain ⟨G,hG⟩:∃ G,A.gndB = G:=⟨_,rfl⟩
  rw [hE] at e1
  rw [hG] at e2
  have hEG:Aside (E = false ∨ G = false):=by
    show _ ∨ _
    rcases Bool.eq_false_or_eq_true E with h1 | h1
    · rcases Bool.eq_false_or_eq_true G with h2 | h2
      · exact absurd ⟨Tm.eqB_iff.1 (hE.trans h1),Tm.gndB_iff.1 (hG.trans h2)⟩ hn1
      · exact .inr h2
    · exact .inl h1
  have hMA:Aside (MapTab w mb S):=hM
  simp only [TmV] at h h'
  obtain ⟨s1,s2,p,c,rfl,⟨⟨p1,c1,rfl,_⟩,⟨p2,c2,rfl,_⟩⟩,hSS,hbig,_⟩:=h
  obtain ⟨t1,t2,p',c',rfl,⟨⟨p1',c1',rfl,_⟩,⟨p2',c2',rfl,_⟩⟩,hSS',_⟩:=h'
  obtain ⟨len,hl⟩:∃ len,args.length = len:=⟨_,rfl⟩
  have hl':args'.length = len:=hll ▸ hl
  rw [hl] at hpos hbig
  have Al:Aside (args.length = len ∧ args'.length = len):=⟨hl,hl'⟩
  have hSSA:Aside (TmsV n w args p 0):=hSS
  have hSSA':Aside (TmsV n w args' p' 0):=hSS'
  rw [hl,hl'] at e1
  rw [hl] at e2 ⊢
  rw [hl']
  clear hSS hSS' ih hS hll hl hl'
  generalize ([]:List Nat).length = l1 at *
  obtain ⟨hBw,q1,q2,q3,hsz⟩:=three_blocks w (.cells #[.int .i64 5,.int .i64 0,.string nm,.bool false,.slice p1 l1 c1,.slice p2 l1 c2,.slice p len c] 27) (.cells #[.int .i64 5,.int .i64 0,.string nm,.bool false,.slice p1' l1 c1',.slice p2' l1 c2',.slice p' len c'] 27) zObj
  obtain ⟨wb,hwb⟩:∃ wb,((w.alloc (.cells #[.int .i64 5,.int .i64 0,.string nm,.bool false,.slice p1 l1 c1,.slice p2 l1 c2,.slice p len c] 27)).alloc (.cells #[.int .i64 5,.int .i64 0,.string nm,.bool false,.slice p1' l1 c1',.slice p2' l1 c2',.slice p' len c'] 27)).alloc zObj = wb:=⟨_,rfl⟩
  rw [hwb] at hBw q1 q2 q3 hsz
  have f1:=e1 wb hBw
  replace f1:Calls Tryz.prog 55 #[.agg #[.int .i64 5,.int .i64 0,.string nm,.bool false,.slice p1 l1 c1,.slice p2 l1 c2,.slice p len c],.agg #[.int .i64 5,.int .i64 0,.string nm,.bool false,.slice p1' l1 c1',.slice p2' l1 c2',.slice p' len c']] _ _:=f1
  have e2A:Aside (∀ (w2:World) (hb:Below w.heap.size w w2),Calls Tryz.prog 56 #[.agg #[.int .i64 5,.int .i64 0,.string nm,.bool false,.slice p1 l1 c1,.slice p2 l1 c2,.slice p len c]] w2 _):=e2
  have fa:Aside (∀ (w2:World) (hb:Kept mb wb w2),_):=fun w2 hb=>cells7 ((hb.block w.heap.size (by omega) (by omega)).trans q1)
  have fb:Aside (∀ (w2:World) (hb:Kept mb wb w2),_):=fun w2 hb=>cells7 ((hb.block (w.heap.size + 1) (by omega) (by omega)).trans q2)
  have fr:Aside (∀ (w2:World) (hb:Kept mb wb w2),w2.heap[w.heap.size + 2]? = some zObj):=fun w2 hb=>(hb.block (w.heap.size + 2) (by omega) (by omega)).trans q3
  obtain ⟨x0,x1,x2,x3,x4,x5,x6⟩:=cells7 q1
  obtain ⟨y0,y1,y2,y3,y4,y5,y6⟩:=cells7 q2
  have hszA:Aside (wb.heap.size = w.heap.size + 3):=hsz
  have hgA:Aside (w.cell? ⟨gb,0,none⟩ = some (.map (some mb))):=hg
  clear e1 e2 h0 h0' q1 q2 q3 hsz ha hb na nb hE hG hn1 hM hg hA hBB
  show Calls Tryz.prog 24 #[.pointer (some ⟨gb,0,none⟩),.agg #[.int .i64 5,.int .i64 0,.string nm,.bool false,.slice p1 l1 c1,.slice p2 l1 c2,.slice p len c],.agg #[.int .i64 5,.int .i64 0,.string nm,.bool false,.slice p1' l1 c1',.slice p2' l1 c2',.slice p' len c']] w _
  have hzO:zObj = .cells #[.int .i64 0,.int .i64 0,.string { data:=#[] },.bool false,.slice none 0 0,.slice none 0 0,.slice none 0 0] 27:=rfl
  rw [hzO] at hwb
  go_enter Tryz.func24,Tryz.ntmps24
  go_upto_region 1 with fail
  clear hwb
  go_cut [18] from 12 to 18 (fun s18 wx=>s18 = .bool false ∧ Below wb.heap.size wb wx)
  case first=>as_aux_lemma=>
    clear hMA fr fb hSSA hSSA' ihA hSA erA ndA
    cases E
    · go_wp2_with (go_at_call 55;with_reducible refine f1.mono ?_)
      first | rintro e w1 rfl hb1 | rintro e w1 ⟨rfl,hb1⟩
      go_wp2
      go_meet
      exact ⟨rfl,hb1⟩
    · have hGf:G = false:=by rcases hEG.out with h | h <;> simp_all
      subst hGf
      go_wp2_with (go_at_call 55;with_reducible refine f1.mono ?_)
      first | rintro e w1 rfl hb1 | rintro e w1 ⟨rfl,hb1⟩
      obtain ⟨z0,z1,z2,z3,z4,z5,z6⟩:=fa.out w1 (Kept.of_below (by have:=hszA.out;omega) hb1)
      have f2:=e2A.out w1 (hBw.trans (hb1.mono hBw.size))
      go_wp2_with (go_at_call 56;with_reducible refine f2.mono ?_)
      first | rintro e w2 rfl hb2 | rintro e w2 ⟨rfl,hb2⟩
      go_wp2
      go_meet
      exact ⟨rfl,hb1.trans (hb2.mono hb1.size)⟩
  case rest=>
    obtain ⟨rfl,hbc⟩:=hcut
    clear x0 x1 x2 x3 x4 x5 x6 y0 y1 y2 y3 y4 y5 y6 f1 e2A hEG
    have hkc:Kept mb wb wc:=Kept.of_below (by have:=hszA.out;omega) hbc
    obtain ⟨x0,x1,x2,x3,x4,x5,x6⟩:=fa.out wc hkc
    obtain ⟨y0,y1,y2,y3,y4,y5,y6⟩:=fb.out wc hkc
    have hBc:Below w.heap.size w wc:=hBw.trans (hbc.mono hBw.size)
    have hcs:Aside (w.heap.size + 3 ≤ wc.heap.size):=by have:=hbc.size;have:=hszA.out;show _ ≤ _;omega
    go_upto_region 3 with fail
    go_cut [43] from 20 to 43 (fun s43 wx=>s43 = .bool true ∧ wx = wc)
    case first=>as_aux_lemma=>
      clear hMA fr fb fa hSSA hSSA' ihA hSA erA ndA hBc hbc
      have hnB:(nm.toList == nm.toList) = true:=by simp
      go_wp2
      go_meet
      exact ⟨rfl,rfl⟩
    case rest=>
      obtain ⟨rfl,hwcc⟩:=hcut
      subst hwcc
      obtain ⟨C0,hC0⟩:∃ C0,madeCells zTm.cells (len * 7) = C0:=⟨_,rfl⟩
      have mk:∀ w:World,(Instr.makeSlice 25 (.int .i64 len) (.int .i64 len)).run Tryz.prog w = .ok (.slice (some ⟨w.heap.size,0,none⟩) len len) (w.alloc (.cells C0 27)):=fun w=>by rw [← hC0];exact mkTerms_run len hbig w
      have hC1:Aside (C0.size = len * 7):=by rw [← hC0];exact size_madeCells _ _
      clear hC0
      go_upto_region 5 with fail
      have hBd:=below_alloc wc (Obj.cells C0 27)
      have hLd:=heap_alloc_new wc (Obj.cells C0 27)
      obtain ⟨L,hL⟩:∃ L,wc.heap.size = L:=⟨_,rfl⟩
      rw [hL] at hBd hLd hcs ⊢
      have hwsz:Aside ((wc.alloc (Obj.cells C0 27)).heap.size = L + 1):=by show _ = _;rw [World.size_alloc,hL]
      have hkd:Kept mb wc (wc.alloc (Obj.cells C0 27)):=Kept.of_below (by have:=hcs.out;omega) (by rw [hL];exact hBd)
      have hLA:Aside (wc.heap.size = L):=hL
      have hkbd:Kept mb wb (wc.alloc (Obj.cells C0 27)):=hkc.trans hkd
      have hMd:Aside (MapTab (wc.alloc (Obj.cells C0 27)) mb S):=hMA.out.of_block ((hBd.block mb (by have:=hcs.out;omega)).trans (hBc.block mb hmw))
      generalize wc.alloc (Obj.cells C0 27) = wd at *
      clear mk hL x0 x1 x2 x3 x4 x5 x6 y0 y1 y2 y3 y4 y5 y6
      obtain ⟨Sf,hSf⟩:∃ Sf,addAll S (gpairsL args args') = Sf:=⟨_,rfl⟩
      go_wp2_with fail
      go_loopw [50] (fun s wr=>∃ i:Nat,s = .int .i64 i ∧ i ≤ len ∧ Kept mb wc wr ∧ ∃ C:Array Value,wr.heap[L]? = some (.cells C 27 (0,0)) ∧ Aside (C.size = len * 7 ∧ L + 1 ≤ wr.heap.size ∧ MapTab wr mb (addAll S (gpairsL (args.take i) (args'.take i))) ∧ ∀ (j:Nat) T,j < i → (gphiL (ixOf Sf) args args')[j]? = some T → ∃ vs,vs.length = 7 ∧ (∀ (m:Nat) u,vs[m]? = some u → C[j * 7 + m]? = some u) ∧ TmS (fun k=>k < n ∨ (L + 1 ≤ k ∧ k < wr.heap.size)) wr T vs)) (fun s _=>len - (intOf s).toNat)
      case atStart=>exact ⟨0,rfl,Nat.zero_le _,hkd,C0,hLd,hC1.out,Nat.le_of_eq hwsz.out.symm,(by simpa [gpairsL_nil,addAll] using hMd.out),fun j T hj=>absurd hj (Nat.not_lt_zero j)⟩
      case round=>
        obtain ⟨i,rfl,hi,hkr,C,hC,hinv⟩:=hrel
        have hBm:Below mb w wr:=((hBw.mono (by omega)).trans hkc.below).trans hkr.below
        have hkbr:Kept mb wb wr:=hkc.trans hkr
        have hszr:=hkr.below.size
        by_cases hlt:i < len
        · obtain ⟨A1,hA1⟩:∃ A1,args[i]? = some A1:=⟨args[i]'(by rw [Al.out.1];exact hlt),List.getElem?_eq_getElem _⟩
          obtain ⟨B1,hB1⟩:∃ B1,args'[i]? = some B1:=⟨args'[i]'(by rw [Al.out.2];exact hlt),List.getElem?_eq_getElem _⟩
          obtain ⟨b,o,vs',rfl,hbn,hc,hv⟩:=hSSA.out.get hA1
          obtain ⟨b',o',us',rfl,hbn',hc',hv'⟩:=hSSA'.out.get hB1
          rw [Nat.zero_add] at hc hc'
          obtain ⟨Tg,hTg⟩:∃ Tg,genT (addAll S (gpairsL (args.take i) (args'.take i))) A1 B1 = Tg:=⟨_,rfl⟩
          have hTgA:Aside ((gphiL (ixOf Sf) args args')[i]? = some Tg):=by
            show _ = _
            rw [gphiL_get hA1 hB1,← hTg,← genT_later (S':=Sf) (by rw [gpairs_step hA1 hB1,← hSf];exact gpairs_pre _ _ _)]
          have hgr:∀ w2,Kept mb wr w2 → w2.cell? ⟨gb,0,none⟩ = some (.map (some mb)):=fun w2 hk=>by
            have h1:=(hkbr.trans hk).block gb (by have:=hszA.out;omega) hgm
            have h2:=hBw.block gb hgs
            have h3:=hgA.out
            simp only [World.cell?] at h3 ⊢
            rw [h1,h2];exact h3
          have d1:=ihA.out A1 (List.mem_of_getElem? hA1) B1 n wr.drew vs' us' (addAll S (gpairsL (args.take i) (args'.take i))) mb gb (errL_get erA.out.1 hA1) (errL_get erA.out.2 hB1) (Nat.le_trans (nodesL_get hA1) ndA.out.1) (Nat.le_trans (nodesL_get hB1) ndA.out.2)
            (TmV.below (hBm.trans (below_drew_at mb wr)) hnm _ _ hv) (TmV.below (hBm.trans (below_drew_at mb wr)) hnm _ _ hv') hnm hng hgm (by show gb < wr.heap.size;have:=hcs.out;have:=hLA.out;omega) (hgr wr.drew ⟨below_drew_at mb wr,fun _ _ _=>rfl⟩) (hinv.out.2.2.1.of_block rfl) (gpairs_bound hA1 hB1 hSA.out)
          rw [hTg,gpairs_step hA1 hB1] at d1
          have hb3:∀ w2,Kept mb wr w2 → ∀ q:Addr,q.block < n → w2.cell? q = w.cell? q:=fun w2 hk q hq=>((hBm.trans hk.below).mono hnm).cell hq
          have hA1A:Aside (args[i]? = some A1 ∧ args'[i]? = some B1):=⟨hA1,hB1⟩
          clear hA1 hB1 hTg
          obtain ⟨k1,v1,nm1,g1,num1,den1,args1⟩:=A1
          obtain ⟨k2,v2,nm2,g2,num2,den2,args2⟩:=B1
          simp only [TmV] at hv hv'
          obtain ⟨_,_,s3,t3,rfl,⟨⟨s1,t1,rfl,_⟩,⟨s2,t2,rfl,_⟩⟩,_⟩:=hv
          obtain ⟨_,_,s6,t6,rfl,⟨⟨s4,t4,rfl,_⟩,⟨s5,t5,rfl,_⟩⟩,_⟩:=hv'
          have m1:Aside (∀ w2,Kept mb wr w2 → _):=fun w2 hk=>seven (w:=w) (w2:=w2) (fun q hq=>hb3 w2 hk q (hq ▸ hbn)) hc
          have m2:Aside (∀ w2,Kept mb wr w2 → _):=fun w2 hk=>seven (w:=w) (w2:=w2) (fun q hq=>hb3 w2 hk q (hq ▸ hbn')) hc'
          replace d1:Calls Tryz.prog 24 #[.pointer (some ⟨gb,0,none⟩),.agg #[.int .i64 k1,.int .i64 v1,.string nm1,.bool g1,.slice s1 num1.length t1,.slice s2 den1.length t2,.slice s3 args1.length t3],.agg #[.int .i64 k2,.int .i64 v2,.string nm2,.bool g2,.slice s4 num2.length t4,.slice s5 den2.length t5,.slice s6 args2.length t6]] wr.drew _:=d1
          obtain ⟨gk,gv,gnm,gg,gnum,gden,gargs⟩:=Tg
          have hC7:Aside (i * 7 + 7 ≤ C.size):=by show _ ≤ _;have:=hinv.out.1;rw [this];omega
          have hLw:Aside (L < wr.heap.size):=by show _ < _;have:=hinv.out.2.1;omega
          have hmL:Aside (mb < L ∧ w.heap.size + 3 ≤ L):=by have:=hcs.out;have:=hLA.out;exact ⟨by omega,by omega⟩
          have d2:=d1.mono (R':=fun e w'=>∃ a1 c1 a2 c2 a3 c3 r0 r1 r2 r3 r4 r5 r6,e = .returned (.agg #[.int .i64 gk,.int .i64 gv,.string gnm,.bool gg,.slice a1 gnum.length c1,.slice a2 gden.length c2,.slice a3 gargs.length c3]) ∧ Aside (TmS (Nw n wr w') w' (.mk gk gv gnm gg gnum gden gargs) [.int .i64 gk,.int .i64 gv,.string gnm,.bool gg,.slice a1 gnum.length c1,.slice a2 gden.length c2,.slice a3 gargs.length c3]) ∧
              Aside (MapTab w' mb (addAll S (gpairsL (args.take (i + 1)) (args'.take (i + 1))))) ∧ Kept mb wr w' ∧ w'.heap[L]? = some (.cells C 27 (0,0)) ∧
              (w'.cell? ⟨L,i * 7,none⟩ = some r0 ∧ w'.cell? ⟨L,i * 7 + 1,none⟩ = some r1 ∧ w'.cell? ⟨L,i * 7 + 2,none⟩ = some r2 ∧ w'.cell? ⟨L,i * 7 + 3,none⟩ = some r3 ∧ w'.cell? ⟨L,i * 7 + 4,none⟩ = some r4 ∧ w'.cell? ⟨L,i * 7 + 5,none⟩ = some r5 ∧ w'.cell? ⟨L,i * 7 + 6,none⟩ = some r6)) (fun e w' ⟨rs,e1,ht,hm,hk⟩=>by
            have ht0:=ht
            simp only [TmS] at ht
            obtain ⟨a1,c1,a2,c2,a3,c3,rfl,_⟩:=ht
            have hk':Kept mb wr w':=⟨(below_drew_at mb wr).trans hk.below,hk.block⟩
            have hL':w'.heap[L]? = some (.cells C 27 (0,0)):=(hk'.block L hLw.out (by have:=hmL.out.1;omega)).trans hC
            have at_:∀ m,m < 7 → ∃ r,w'.cell? ⟨L,i * 7 + m,none⟩ = some r:=fun m hm=>⟨C[i * 7 + m]'(by have:=hC7.out;omega),by simp [World.cell?,hL',show i * 7 + m < C.size by have:=hC7.out;omega]⟩
            obtain ⟨r0,e0⟩:=at_ 0 (by omega)
            obtain ⟨r1,e1'⟩:=at_ 1 (by omega)
            obtain ⟨r2,e2'⟩:=at_ 2 (by omega)
            obtain ⟨r3,e3⟩:=at_ 3 (by omega)
            obtain ⟨r4,e4⟩:=at_ 4 (by omega)
            obtain ⟨r5,e5⟩:=at_ 5 (by omega)
            obtain ⟨r6,e6⟩:=at_ 6 (by omega)
            exact ⟨a1,c1,a2,c2,a3,c3,r0,r1,r2,r3,r4,r5,r6,e1,ht0,hm,hk',hL',e0,e1',e2',e3,e4,e5,e6⟩)
          have hnx:Aside (∀ (w3 w4:World) (C':Array Value) us,us.length = 7 → TmS (Nw n wr w3) w3 (.mk gk gv gnm gg gnum gden gargs) us → Kept mb wr w3 → (∀ b,b ≠ L → w4.heap[b]? = w3.heap[b]?) → w3.heap.size ≤ w4.heap.size →
              (∀ j,j < i * 7 ∨ i * 7 + 7 ≤ j → C'[j]? = C[j]?) → (∀ (m:Nat) u,us[m]? = some u → C'[i * 7 + m]? = some u) → ∀ (j:Nat) T,j < i + 1 → (gphiL (ixOf Sf) args args')[j]? = some T → ∃ vs,vs.length = 7 ∧ (∀ (m:Nat) u,vs[m]? = some u → C'[j * 7 + m]? = some u) ∧ TmS (fun k=>k < n ∨ (L + 1 ≤ k ∧ k < w4.heap.size)) w4 T vs):=by
            show ∀ (w3 w4:World) (C':Array Value) us,_
            intro w3 w4 C' us hlen ht hkw hk hsz hout hin j T hj hT
            have hmL1:=hmL.out.1
            have hLw1:=hLw.out
            have hin2:=hinv.out.2.1
            have hks:=hkw.below.size
            by_cases hji:j < i
            · obtain ⟨vs,h1,h2,h3⟩:=hinv.out.2.2.2 j T hji hT
              refine ⟨vs,h1,fun m u hm=>?_,?_⟩
              · have hm7:m < 7:=by have:=(List.getElem?_eq_some_iff.1 hm).1;omega
                rw [hout (j * 7 + m) (.inl (by omega))]
                exact h2 m u hm
              · refine TmS.mono (S:=fun k=>k < n ∨ (L + 1 ≤ k ∧ k < wr.heap.size)) (fun b hb=>by omega) _ _ (TmS.keep (fun b hb=>?_) _ _ (TmS.keep (w':=w3) (fun b hb=>?_) _ _ h3))
                · exact hk b (by omega)
                · rcases hb with hb | hb
                  · exact hkw.below.block b (by omega)
                  · exact hkw.block b hb.2 (by omega)
            · obtain rfl:j = i:=by omega
              rw [hTgA.out] at hT
              obtain rfl:=Option.some.inj hT
              refine ⟨us,hlen,hin,?_⟩
              refine TmS.mono (S:=Nw n wr w3) (fun b hb=>?_) _ _ (TmS.keep (fun b hb=>hk b ?_) _ _ ht)
              · rcases hb with hb | hb
                · exact .inl hb
                · exact .inr ⟨by omega,by omega⟩
              · rcases hb with hb | hb <;> omega
          generalize args1.length = ln1 at *
          generalize num1.length = ln2 at *
          generalize den1.length = ln3 at *
          generalize args2.length = ln4 at *
          generalize num2.length = ln5 at *
          generalize den2.length = ln6 at *
          generalize gargs.length = ln7 at *
          generalize gnum.length = ln8 at *
          generalize gden.length = ln9 at *
          have hi1:(i:Int) < (len:Int):=by omega
          have hi3:(0:Int) ≤ (i:Int):=by omega
          have hw3:IntKind.i64.wrap ((i:Int) + 1) = (i:Int) + 1:=by rw [IntKind.wrap_i64];omega
          have xa:Aside (∀ w2,Kept mb wr w2 → w2.cell? ⟨w.heap.size,6,none⟩ = _):=fun w2 hk=>(fa.out w2 (hkbr.trans hk)).2.2.2.2.2.2
          have xb:Aside (∀ w2,Kept mb wr w2 → w2.cell? ⟨w.heap.size + 1,6,none⟩ = _):=fun w2 hk=>(fb.out w2 (hkbr.trans hk)).2.2.2.2.2.2
          have hkrA:Aside (Kept mb wc wr):=hkr
          have d2A:Aside (Calls Tryz.prog 24 _ _ _):=d2
          clear d1 d2 hc hc' hb3 hgr fa fb hA1A hTgA ihA erA ndA hSSA hSSA' hgA hMA hMd hkr
          go_upto_region 8 with fail
          have hKd:Kept mb wr { wr with drawn:=wr.drawn + 1 }:=⟨below_drew_at mb wr,fun _ _ _=>rfl⟩
          refine Heavy.region_plan (fun w'=>Kept mb wr w') 14 (Heavy.lights [0,1,2,3,4,5,6,7,8,9,10,11,12] (.one 13 .done)) (by kernel_rfl) (by kernel_rfl) hKd ?_
          simp only [Heavy.lights,List.take_succ_cons,List.take_zero,List.drop_succ_cons,List.drop_zero]
          (apply Heavy.light_n;(exact rfl);(exact rfl);(intro wr2 hw;go_simp;exact rfl));(refine Heavy.norm_a (by go_simp;exact rfl) ?_)
          (apply Heavy.light_n;(exact rfl);(exact rfl);(intro wr2 hw;go_simp;exact rfl));(refine Heavy.norm_a (by go_simp;exact rfl) ?_)
          (apply Heavy.light_n;(exact rfl);(exact rfl);(intro wr2 hw;go_simp;exact rfl));(refine Heavy.norm_a (by go_simp;exact rfl) ?_)
          (apply Heavy.light_n;(exact rfl);(exact rfl);(intro wr2 hw;go_simp;exact rfl));(refine Heavy.norm_a (by go_simp;exact rfl) ?_)
          (apply Heavy.light_n;(exact rfl);(exact rfl);(intro wr2 hw;have xa1:=xa.out wr2 hw;go_simp;exact rfl));(refine Heavy.norm_a (by go_simp;exact rfl) ?_)
          (apply Heavy.light_n;(exact rfl);(exact rfl);(intro wr2 hw;go_simp;exact rfl));(refine Heavy.norm_a (by go_simp;exact rfl) ?_)
          (apply Heavy.light_n;(exact rfl);(exact rfl);(intro wr2 hw;go_simp;exact rfl));(refine Heavy.norm_a (by go_simp;exact rfl) ?_)
          (apply Heavy.light_n;(exact rfl);(exact rfl);(intro wr2 hw;have E:=m1.out wr2 hw;have m0:=E.1;have m1:=E.2.1;have m2:=E.2.2.1;have m3:=E.2.2.2.1;have m4:=E.2.2.2.2.1;have m5:=E.2.2.2.2.2.1;have m6:=E.2.2.2.2.2.2;clear E;go_simp;exact rfl));(refine Heavy.norm_a (by go_simp;exact rfl) ?_)
          (apply Heavy.light_n;(exact rfl);(exact rfl);(intro wr2 hw;go_simp;exact rfl));(refine Heavy.norm_a (by go_simp;exact rfl) ?_)
          (apply Heavy.light_n;(exact rfl);(exact rfl);(intro wr2 hw;have xb1:=xb.out wr2 hw;go_simp;exact rfl));(refine Heavy.norm_a (by go_simp;exact rfl) ?_)
          (apply Heavy.light_n;(exact rfl);(exact rfl);(intro wr2 hw;go_simp;exact rfl));(refine Heavy.norm_a (by go_simp;exact rfl) ?_)
          (apply Heavy.light_n;(exact rfl);(exact rfl);(intro wr2 hw;go_simp;exact rfl));(refine Heavy.norm_a (by go_simp;exact rfl) ?_)
          (apply Heavy.light_n;(exact rfl);(exact rfl);(intro wr2 hw;have E:=m2.out wr2 hw;have n0:=E.1;have n1:=E.2.1;have n2:=E.2.2.1;have n3:=E.2.2.2.1;have n4:=E.2.2.2.2.1;have n5:=E.2.2.2.2.2.1;have n6:=E.2.2.2.2.2.2;clear E;go_simp;exact rfl));(refine Heavy.norm_a (by go_simp;exact rfl) ?_)
          apply Heavy.one_n
          · exact rfl
          · exact rfl
          go_simp
          refine d2A.out.mono ?_
          rintro e w3 ⟨a1,c1,a2,c2,a3,c3,r0,r1,r2,r3,r4,r5,r6,rfl,hts,hMn,hk3,hL3,f0,f1,f2,f3,f4,f5,f6⟩
          refine ⟨_,rfl,hk3,?_⟩
          refine Heavy.norm_a (by go_simp;exact rfl) ?_
          apply Heavy.plan_end
          show wpList _ _ _ _ _ _
          have z3:=frozen_of hL3
          clear xa xb m1 m2 d2A hKd
          go_wp2
          obtain ⟨C',y1,y2,y3,y4,y5,y6⟩:=set7at (o:=i * 7) (v0:=.int .i64 gk) (v1:=.int .i64 gv) (v2:=.string gnm) (v3:=.bool gg) (v4:=.slice a1 ln8 c1) (v5:=.slice a2 ln9 c2) (v6:=.slice a3 ln7 c3) hL3 hC7.out
          have hmL1:=hmL.out.1
          have hLa:=hLA.out
          have hkx:=hkrA.out.trans hk3
          have hK4:Kept mb wc _:=⟨hkx.below.trans (y6.mono (by omega)),fun kk h1 h2=>(y5 kk (by omega)).trans (hkx.block kk h1 h2)⟩
          exact ⟨⟨i + 1,by simp,by omega,hK4,C',y1,by rw [y2];exact hinv.out.1,by have:=y6.size;have:=hk3.below.size;have:=hinv.out.2.1;omega,hMn.out.of_block (y5 mb (by omega)),hnx.out w3 _ C' _ rfl hts.out hk3 y5 y6.size y3 y4⟩,by simp [intOf];omega⟩
        · obtain rfl:i = len:=by omega
          obtain ⟨x0,x1,x2,x3,x4,x5,x6⟩:=fa.out wr hkbr
          have d57:=tcomp_calls nm (some ⟨L,0,none⟩) i i hpos wr
          have hmL:mb < L ∧ w.heap.size + 3 ≤ L:=by have:=hcs.out;have:=hLA.out;exact ⟨by omega,by omega⟩
          have hMr:Aside (MapTab wr mb Sf):=by
            have h1:=hinv.out.2.2.1
            rw [← Al.out.1,List.take_length,Al.out.1,← Al.out.2,List.take_length,hSf] at h1
            exact h1
          have hkrA:Aside (Kept mb wc wr):=hkr
          have hBmA:Aside (Below mb w wr):=hBm
          clear hBm hkr fa fb ihA erA ndA hSSA hSSA' hgA hMA hMd
          go_wp2_with (go_at_call 57;with_reducible refine d57.mono ?_)
          first | rintro e w5 rfl hb5 | rintro e w5 ⟨rfl,hb5⟩
          have hs5:=hb5.size
          have hk5:Kept mb wr w5:=Kept.of_below (by have:=hinv.out.2.1;omega) hb5
          have hr5:w5.heap[w.heap.size + 1 + 1]? = some zObj:=fr.out w5 (hkbr.trans hk5)
          obtain ⟨r0,r1,r2,r3,r4,r5,r6⟩:=cells7 hr5
          have rz:=frozen_of hr5
          go_wp2
          obtain ⟨y1,y2,y3⟩:=set7 (v0:=.int .i64 5) (v1:=.int .i64 0) (v2:=.string nm) (v3:=.bool false) (v4:=.slice none 0 0) (v5:=.slice none 0 0) (v6:=.slice (some ⟨L,0,none⟩) i i) hr5
          refine bodyPost_ret (results_cell_row rfl _ _ (w.heap.size + 1 + 1) 27 _ _ _ rfl y1 Tryz.underlying27 rfl (by kernel_rfl)) rfl ?_
          have hz:=y3.size
          have hin2:=hinv.out.2.1
          have hLa:=hLA.out
          have hkw:Kept mb w wr:=⟨hBmA.out,fun kk h1 h2=>by
            have h3:=hBw.block kk h1
            have h4:=hkbr.block kk (by have:=hszA.out;omega) h2
            exact h4.trans h3⟩
          have hk6:=hkw.trans hk5
          rw [hSf]
          refine ⟨_,rfl,?_,hMr.out.of_block ((y2 mb (by omega)).trans (hb5.block mb (by omega))),⟨hk6.below.trans (y3.mono (by omega)),fun kk h1 h2=>(y2 kk (by omega)).trans (hk6.block kk h1 h2)⟩⟩
          simp only [TmS]
          have hgl:(gphiL (ixOf Sf) args args').length = i:=by rw [gphiL_length args args' (by rw [Al.out.1,Al.out.2])];exact Al.out.1
          refine ⟨none,0,none,0,some ⟨L,0,none⟩,i,by rw [hgl];rfl,⟨by simp,by simp⟩,⟨by simp,by simp⟩,?_,by rw [hgl];exact hbig,by simp,by simp⟩
          refine tmsS_of (.inr ⟨by omega,by omega⟩) _ 0 fun kk T hT=>?_
          obtain ⟨vs,e1,e2,e3⟩:=hinv.out.2.2.2 kk T (by have:=(List.getElem?_eq_some_iff.1 hT).1;omega) hT
          refine ⟨vs,fun m u hm=>?_,TmS.mono (S:=fun k=>k < n ∨ (L + 1 ≤ k ∧ k < wr.heap.size)) (fun b hb=>?_) _ _ (TmS.keep (fun b hb=>y2 b ?_) _ _ (TmS.keep (w':=w5) (fun b hb=>hb5.block b ?_) _ _ e3))⟩
          · have hLf:=(y2 L (by omega)).trans ((hb5.block L (by omega)).trans hC)
            have:=e2 m u hm
            rw [Nat.zero_add,Nat.zero_add]
            simp only [World.cell?,hLf]
            exact this
          · rcases hb with hb | hb
            · exact .inl hb
            · exact .inr ⟨by omega,by omega⟩
          · rcases hb with hb | hb <;> omega
          · rcases hb with hb | hb <;> omega
end Go.Proofs.YtaloeffmigffaaaGreatDoor
end
