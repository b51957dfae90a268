/-
  A part of the proof of the card of WorkGeneralizationIsLeast (second form): lemmas that the text Card uses. No condition of its own.
-/
import Derived.Test.YtaloeffmigffaaaGreatDoorOfB
import Derived.Laws.ResultCell
set_option linter.all false
set_option linter.unusedVariables false
set_option linter.unusedSimpArgs false
section
namespace Go.Proofs.YtaloeffmigffaaaGreatDoor
open Go.RowKit Go.Big
attribute [local go_sem] Heavy.uponW
theorem of_step (k v:Int) (nm:ByteArray) (g:Bool) (num den:List Nat) (args:List Tm) (ih:∀ T ∈ args,OfOk T):OfOk (.mk k v nm g num den args):=by
  intro b n w vs us S mb gb ha hb na nb h h' hnm hng hgm hgs hg hM hS
  obtain ⟨k',v',nm',g',num',den',args'⟩:=b
  by_cases h1:Tm.mk k v nm g num den args = .mk k' v' nm' g' num' den' args' ∧ (Tm.mk k v nm g num den args).ground
  · obtain ⟨e,hgr⟩:=h1
    rw [← e] at h' ⊢
    have hmw:=hM.lt
    have e1:gpairs (.mk k v nm g num den args) (.mk k v nm g num den args) = []:=by rw [gpairs,if_pos ⟨rfl,hgr⟩]
    have e2:genT S (.mk k v nm g num den args) (.mk k v nm g num den args) = .mk k v nm g num den args:=by unfold genT;exact gphi_ground hgr
    rw [e1,e2]
    refine (of_same _ hgr n w vs us S mb gb ha h h' hnm hmw).mono ?_
    rintro e w' ⟨rs,rfl,h2,h3⟩
    exact ⟨rs,rfl,h2,hM.of_block (h3.block mb hmw),Kept.of_below (by omega) h3⟩
  · by_cases h2:k = 5 ∧ k' = 5 ∧ nm = nm' ∧ args.length = args'.length
    · obtain ⟨rfl,rfl,rfl,hl⟩:=h2
      have va:=errE_vd _ ha
      have vb:=errE_vd _ hb
      simp only [Tm.vd] at va vb
      obtain rfl:=va.2.1 (by decide)
      obtain rfl:=vb.2.1 (by decide)
      obtain ⟨rfl,rfl,rfl⟩:=va.2.2.1 (by decide)
      obtain ⟨rfl,rfl,rfl⟩:=vb.2.2.1 (by decide)
      have hpos:0 < args.length:=by
        have:=(rootE_fine (errE_split ha).1).1
        unfold RootFine at this
        omega
      obtain ⟨e1,e2⟩:=gen_comp (S:=S) hl h1
      rw [e1] at hS ⊢
      rw [e2]
      exact of_comp nm args args' ih n w vs us S mb gb h1 hl hpos ha hb na nb h h' hnm hng hgm hgs hg hM hS
    · obtain ⟨e1,e2⟩:=gen_var (S:=S) h1 h2
      have e3:gpairs (.mk k v nm g num den args) (.mk k' v' nm' g' num' den' args') = [(.mk k v nm g num den args,.mk k' v' nm' g' num' den' args')]:=by
        rw [gpairs,if_neg h1,if_neg h2]
      rw [e3] at hS
      refine (of_var k v k' v' nm nm' g g' num den num' den' args args' n w vs us S mb gb h1 h2 ha hb na nb h h' hnm hng hgm hgs hg hM (by simp at hS;omega)).mono ?_
      rintro e w' ⟨r,rfl,hr,h3,h4⟩
      refine ⟨[.int .i64 1,.int .i64 r,.string { data:=#[] },.bool false,.slice none 0 0,.slice none 0 0,.slice none 0 0],rfl,?_,by rw [e1];exact h3,h4⟩
      rw [e2,← hr]
      exact varT_S _ _ _
theorem of_calls:∀ (a:Tm),OfOk a
  | .mk k v nm g num den args=>of_step k v nm g num den args fun T hT=>of_calls T
termination_by T=>SizeOf.sizeOf T
decreasing_by
  simp_wf
  have:=List.sizeOf_lt_of_mem hT
  omega
set_option maxRecDepth 100000 in
set_option maxHeartbeats 4000000 in
theorem generalize_calls (a b:Tm) (n:Nat) (w:World) (vs us:List Value) (ha:a.errE = 0) (hb:b.errE = 0) (na:a.nodes ≤ 10000) (nb:b.nodes ≤ 10000) (h:TmV n w a vs) (h':TmV n w b us) (hn:n ≤ w.heap.size) :
    Calls Tryz.prog 9 #[.agg vs.toArray,.agg us.toArray] w fun e w'=>∃ rs,e = .returned (.agg rs.toArray) ∧ TmV w'.heap.size w' (genT [] a b) rs ∧ Below w.heap.size w w':=by
  have hof:=of_calls a
  unfold OfOk at hof
  have h0:=h
  have h0':=h'
  have hlen:=gpairs_length a b
  obtain ⟨k,v,nm,g,num,den,args⟩:=a
  obtain ⟨k',v',nm',g',num',den',args'⟩:=b
  simp only [TmV] at h h'
  obtain ⟨s1,s2,p,c,rfl,⟨⟨p1,c1,rfl,_⟩,⟨p2,c2,rfl,_⟩⟩,_⟩:=h
  obtain ⟨t1,t2,p',c',rfl,⟨⟨p1',c1',rfl,_⟩,⟨p2',c2',rfl,_⟩⟩,_⟩:=h'
  obtain ⟨hBw,q1,q2,q3,hsz⟩:=three_blocks w (.cells #[.int .i64 k,.int .i64 v,.string nm,.bool g,.slice p1 num.length c1,.slice p2 den.length c2,.slice p args.length c] 27) (.cells #[.int .i64 k',.int .i64 v',.string nm',.bool g',.slice p1' num'.length c1',.slice p2' den'.length c2',.slice p' args'.length c'] 27) zObj
  obtain ⟨wb,hwb⟩:∃ wb,((w.alloc (.cells #[.int .i64 k,.int .i64 v,.string nm,.bool g,.slice p1 num.length c1,.slice p2 den.length c2,.slice p args.length c] 27)).alloc (.cells #[.int .i64 k',.int .i64 v',.string nm',.bool g',.slice p1' num'.length c1',.slice p2' den'.length c2',.slice p' args'.length c'] 27)).alloc zObj = wb:=⟨_,rfl⟩
  rw [hwb] at hBw q1 q2 q3 hsz
  obtain ⟨hBm,m1,m2,_⟩:=two_blocks wb (.map #[] 0) (.cells #[.map (some wb.heap.size)] 71)
  have hMt:MapTab ((wb.alloc (.map #[] 0)).alloc (.cells #[.map (some wb.heap.size)] 71)) wb.heap.size []:=(MapTab.made wb).of_block (Lib.alloc_old _ _ _ (by simp))
  have hBB:Below w.heap.size w ((wb.alloc (.map #[] 0)).alloc (.cells #[.map (some wb.heap.size)] 71)):=hBw.trans (hBm.mono hBw.size)
  have d1:=hof (.mk k' v' nm' g' num' den' args') w.heap.size ((wb.alloc (.map #[] 0)).alloc (.cells #[.map (some wb.heap.size)] 71)) _ _ [] wb.heap.size (wb.heap.size + 1) ha hb na nb (TmS.toV (S:=fun k=>k < n) (fun k hk=>by omega) _ _ (TmV.toS _ _ (TmV.below hBB hn _ _ h0))) (TmS.toV (S:=fun k=>k < n) (fun k hk=>by omega) _ _ (TmV.toS _ _ (TmV.below hBB hn _ _ h0'))) (by omega) (by omega) (by omega) (by simp) (by simp only [World.cell?];rw [m2];rfl) hMt (by simp;omega)
  replace d1:Calls Tryz.prog 24 #[.pointer (some ⟨wb.heap.size + 1,0,none⟩),.agg #[.int .i64 k,.int .i64 v,.string nm,.bool g,.slice p1 num.length c1,.slice p2 den.length c2,.slice p args.length c],.agg #[.int .i64 k',.int .i64 v',.string nm',.bool g',.slice p1' num'.length c1',.slice p2' den'.length c2',.slice p' args'.length c']] _ _:=d1
  generalize genT [] _ _ = Tg at *
  generalize addAll [] _ = Sx at *
  generalize args.length = len at *
  generalize num.length = l1 at *
  generalize den.length = l2 at *
  generalize args'.length = len' at *
  generalize num'.length = l1' at *
  generalize den'.length = l2' at *
  obtain ⟨gk,gv,gnm,gg,gnum,gden,gargs⟩:=Tg
  have d2:=d1.mono (R':=fun e w'=>∃ a1 c1 a2 c2 a3 c3,e = .returned (.agg #[.int .i64 gk,.int .i64 gv,.string gnm,.bool gg,.slice a1 gnum.length c1,.slice a2 gden.length c2,.slice a3 gargs.length c3]) ∧ Aside (TmS (Nw w.heap.size ((wb.alloc (.map #[] 0)).alloc (.cells #[.map (some wb.heap.size)] 71)) w') w' (.mk gk gv gnm gg gnum gden gargs) [.int .i64 gk,.int .i64 gv,.string gnm,.bool gg,.slice a1 gnum.length c1,.slice a2 gden.length c2,.slice a3 gargs.length c3]) ∧
      Kept wb.heap.size ((wb.alloc (.map #[] 0)).alloc (.cells #[.map (some wb.heap.size)] 71)) w') (fun e w' ⟨rs,e1,ht,hm,hk⟩=>by
    have ht0:=ht
    simp only [TmS] at ht
    obtain ⟨a1,c1,a2,c2,a3,c3,rfl,_⟩:=ht
    exact ⟨a1,c1,a2,c2,a3,c3,e1,ht0,hk⟩)
  obtain ⟨x0,x1,x2,x3,x4,x5,x6⟩:=cells7 ((hBm.block w.heap.size (by omega)).trans q1)
  obtain ⟨y0,y1,y2,y3,y4,y5,y6⟩:=cells7 ((hBm.block (w.heap.size + 1) (by omega)).trans q2)
  have hszA:Aside (wb.heap.size = w.heap.size + 3):=hsz
  have hs5:Aside (((wb.alloc (.map #[] 0)).alloc (.cells #[.map (some wb.heap.size)] 71)).heap.size = wb.heap.size + 2):=by show _ = _;simp
  have hrr:Aside (∀ w2,Kept wb.heap.size ((wb.alloc (.map #[] 0)).alloc (.cells #[.map (some wb.heap.size)] 71)) w2 → w2.heap[w.heap.size + 1 + 1]? = some zObj):=fun w2 hk=>(hk.below.block _ (by omega)).trans ((hBm.block _ (by omega)).trans q3)
  have hBBA:Aside (Below w.heap.size w ((wb.alloc (.map #[] 0)).alloc (.cells #[.map (some wb.heap.size)] 71))):=hBB
  generalize gargs.length = g1 at *
  generalize gnum.length = g2 at *
  generalize gden.length = g3 at *
  clear d1 hof h0 h0' hlen ha hb na nb hMt q1 q2 q3 hsz m1 m2 hBB hBm
  show Calls Tryz.prog 9 #[.agg #[.int .i64 k,.int .i64 v,.string nm,.bool g,.slice p1 l1 c1,.slice p2 l2 c2,.slice p len c],.agg #[.int .i64 k',.int .i64 v',.string nm',.bool g',.slice p1' l1' c1',.slice p2' l2' c2',.slice p' len' c']] w _
  have hzO:zObj = .cells #[.int .i64 0,.int .i64 0,.string { data:=#[] },.bool false,.slice none 0 0,.slice none 0 0,.slice none 0 0] 27:=rfl
  rw [hzO] at hwb
  have hmm:=@run_makeMap Tryz.prog
  go_enter Tryz.func9,Tryz.ntmps9
  go_upto_region 1 with fail
  clear hwb
  go_wp2_with (go_at_call 24;with_reducible refine d2.mono ?_)
  rintro e w5 ⟨a1,d1',a2,d2',a3,d3',rfl,hts,hk5⟩
  have hk5s:=hk5.below.size
  have hr5:=hrr.out w5 hk5
  obtain ⟨r0,r1,r2,r3,r4,r5,r6⟩:=cells7 hr5
  have rz:=frozen_of hr5
  clear x0 x1 x2 x3 x4 x5 x6 y0 y1 y2 y3 y4 y5 y6 hmm
  go_wp2
  obtain ⟨z1,z2,z3⟩:=set7 (v0:=.int .i64 gk) (v1:=.int .i64 gv) (v2:=.string gnm) (v3:=.bool gg) (v4:=.slice a1 g2 d1') (v5:=.slice a2 g3 d2') (v6:=.slice a3 g1 d3') hr5
  refine bodyPost_ret (results_cell_row rfl _ _ (w.heap.size + 1 + 1) 27 _ _ _ rfl z1 Tryz.underlying27 rfl (by kernel_rfl)) rfl ?_
  have hz:=z3.size
  have hs5':=hs5.out
  have hsz':=hszA.out
  refine ⟨_,rfl,TmS.toV (S:=Nw w.heap.size ((wb.alloc (.map #[] 0)).alloc (.cells #[.map (some wb.heap.size)] 71)) w5) (fun kk hk=>?_) _ _ (TmS.keep (fun b hb=>z2 b ?_) _ _ hts.out),?_⟩
  · rcases hk with hk | hk <;> omega
  · rcases hb with hb | hb <;> omega
  · have hB5:Below w.heap.size w w5:=hBBA.out.trans (hk5.below.mono (by omega))
    exact hB5.trans (z3.mono (by omega))
end Go.Proofs.YtaloeffmigffaaaGreatDoor
end
section
namespace Go.Proofs.YtaloeffmigffaaaGreatDoor
open Go.RowKit Go.Big
attribute [local go_sem] Heavy.uponW
theorem results_cell2 {P:Program} {fn:Func} {p u:Tmp} {ty:TypeId} (h:fn.results = #[.cell p ty,.tmp u]) (tmps:Array Value) (w:World) (g:Nat) (t:TypeId) (cs:Array Value) (fr:Nat × Nat) (d:TypeDesc)
    (hp:tmps.getD p undef = .pointer (some ⟨g,0,none⟩)) (hg:w.heap[g]? = some (.cells cs t fr))
    (hu:P.underlying ty = some d) (hd:(match d with | .struct _ | .array _ _=>true | _=>false) = true) (hi:(P.info? ty).map (·.size) = some cs.size) :
    (results fn tmps).run P w = .ok (.tuple #[.agg cs,tmps.getD u undef]) w:=by
  have hp':tmps[p]?.getD undef = .pointer (some ⟨g,0,none⟩):=by simpa using hp
  rw [results_cell_tmp h]
  simp [hp',asAddr,run_loadVar_row w g t ty cs fr d hg hu hd hi,Result.andThen]
set_option maxRecDepth 100000 in
set_option maxHeartbeats 4000000 in
theorem Generalize_calls (a b:Tm) (n:Nat) (w:World) (vs us:List Value) (h:TmV n w a vs) (h':TmV n w b us) (hn:n ≤ w.heap.size) :
    Calls Tryz.prog 4 #[.agg vs.toArray,.agg us.toArray] w fun e w'=>∃ (rs:List Value) (c:Int) (X:Tm),e = .returned (.tuple #[.agg rs.toArray,.int .i64 c]) ∧ TmV w'.heap.size w' X rs ∧ Aside ((c = 0 ↔ a.faultE = 0 ∧ b.faultE = 0) ∧ (c = 0 → X = genT [] a b)) ∧ Below w.heap.size w w':=by
  have h0:=h
  have h0':=h'
  have k1:Aside (∀ w2:World,Below w.heap.size w w2 → Calls Tryz.prog 7 #[.agg vs.toArray] w2 fun e w'=>e = .returned (.int .i64 a.faultE) ∧ Below w2.heap.size w2 w'):=fun w2 hb=>check_calls a n w2 vs (TmV.below hb hn _ _ h0) (Nat.le_trans hn hb.size)
  have k2:Aside (∀ w2:World,Below w.heap.size w w2 → Calls Tryz.prog 7 #[.agg us.toArray] w2 fun e w'=>e = .returned (.int .i64 b.faultE) ∧ Below w2.heap.size w2 w'):=fun w2 hb=>check_calls b n w2 us (TmV.below hb hn _ _ h0') (Nat.le_trans hn hb.size)
  have k3:Aside (∀ w2:World,Below w.heap.size w w2 → a.faultE = 0 → b.faultE = 0 → Calls Tryz.prog 9 #[.agg vs.toArray,.agg us.toArray] w2 fun e w'=>∃ rs,e = .returned (.agg rs.toArray) ∧ TmV w'.heap.size w' (genT [] a b) rs ∧ Below w2.heap.size w2 w'):=fun w2 hb fa fb=>
    generalize_calls a b n w2 vs us (faultE_split fa).2 (faultE_split fb).2 (faultE_split fa).1 (faultE_split fb).1 (TmV.below hb hn _ _ h0) (TmV.below hb hn _ _ h0') (Nat.le_trans hn hb.size)
  have k4:Aside (∀ (w2:World) (rs:List Value),TmV w2.heap.size w2 (genT [] a b) rs → Calls Tryz.prog 8 #[.agg rs.toArray] w2 fun e w'=>∃ vs',e = .returned (.agg vs'.toArray) ∧ TmS (Fresh w2.heap.size w'.heap.size) w' (genT [] a b) vs' ∧ Below w2.heap.size w2 w'):=fun w2 rs ht=>
    clone_calls (genT [] a b) w2.heap.size w2 rs ht (Nat.le_refl _)
  obtain ⟨Fa,hFa⟩:∃ Fa,a.faultE = Fa:=⟨_,rfl⟩
  obtain ⟨Fb,hFb⟩:∃ Fb,b.faultE = Fb:=⟨_,rfl⟩
  rw [hFa] at k1 k3 ⊢
  rw [hFb] at k2 k3 ⊢
  obtain ⟨k,v,nm,g,num,den,args⟩:=a
  obtain ⟨k',v',nm',g',num',den',args'⟩:=b
  simp only [TmV] at h h'
  obtain ⟨s1,s2,p,c,rfl,⟨⟨p1,c1,rfl,_⟩,⟨p2,c2,rfl,_⟩⟩,_⟩:=h
  obtain ⟨t1,t2,p',c',rfl,⟨⟨p1',c1',rfl,_⟩,⟨p2',c2',rfl,_⟩⟩,_⟩:=h'
  generalize genT [] _ _ = Tg at *
  obtain ⟨gk,gv,gnm,gg,gnum,gden,gargs⟩:=Tg
  have hz0:∀ w':World,TmV w'.heap.size w' (.mk 0 0 ⟨#[]⟩ false [] [] []) [.int .i64 0,.int .i64 0,.string ⟨#[]⟩,.bool false,.slice none 0 0,.slice none 0 0,.slice none 0 0]:=fun w'=>by
    simp only [TmV,TmsV]
    exact ⟨_,_,none,0,rfl,⟨⟨none,0,rfl,by simp [LimAt]⟩,⟨none,0,rfl,by simp [LimAt]⟩⟩,trivial,by simp,by simp,by simp⟩
  have hz0A:Aside (∀ w':World,TmV w'.heap.size w' (.mk 0 0 ⟨#[]⟩ false [] [] []) [.int .i64 0,.int .i64 0,.string ⟨#[]⟩,.bool false,.slice none 0 0,.slice none 0 0,.slice none 0 0]):=hz0
  clear hz0
  generalize args.length = len at *
  generalize num.length = l1 at *
  generalize den.length = l2 at *
  generalize args'.length = len' at *
  generalize num'.length = l1' at *
  generalize den'.length = l2' at *
  obtain ⟨hBw,q1,q2,q3,hsz⟩:=three_blocks w (.cells #[.int .i64 k,.int .i64 v,.string nm,.bool g,.slice p1 l1 c1,.slice p2 l2 c2,.slice p len c] 27) (.cells #[.int .i64 k',.int .i64 v',.string nm',.bool g',.slice p1' l1' c1',.slice p2' l2' c2',.slice p' len' c'] 27) zObj
  obtain ⟨wb,hwb⟩:∃ wb,((w.alloc (.cells #[.int .i64 k,.int .i64 v,.string nm,.bool g,.slice p1 l1 c1,.slice p2 l2 c2,.slice p len c] 27)).alloc (.cells #[.int .i64 k',.int .i64 v',.string nm',.bool g',.slice p1' l1' c1',.slice p2' l2' c2',.slice p' len' c'] 27)).alloc zObj = wb:=⟨_,rfl⟩
  rw [hwb] at hBw q1 q2 q3 hsz
  have fa:Aside (∀ (w2:World) (hb:Below wb.heap.size wb w2),_):=fun w2 hb=>cells7 ((hb.block w.heap.size (by omega)).trans q1)
  have fb:Aside (∀ (w2:World) (hb:Below wb.heap.size wb w2),_):=fun w2 hb=>cells7 ((hb.block (w.heap.size + 1) (by omega)).trans q2)
  have fr:Aside (∀ (w2:World) (hb:Below wb.heap.size wb w2),w2.heap[w.heap.size + 1 + 1]? = some zObj):=fun w2 hb=>(hb.block (w.heap.size + 1 + 1) (by omega)).trans q3
  obtain ⟨x0,x1,x2,x3,x4,x5,x6⟩:=cells7 q1
  obtain ⟨y0,y1,y2,y3,y4,y5,y6⟩:=cells7 q2
  have hszA:Aside (wb.heap.size = w.heap.size + 3):=hsz
  clear h0 h0' q1 q2 q3 hsz
  show Calls Tryz.prog 4 #[.agg #[.int .i64 k,.int .i64 v,.string nm,.bool g,.slice p1 l1 c1,.slice p2 l2 c2,.slice p len c],.agg #[.int .i64 k',.int .i64 v',.string nm',.bool g',.slice p1' l1' c1',.slice p2' l2' c2',.slice p' len' c']] w _
  have hzO:zObj = .cells #[.int .i64 0,.int .i64 0,.string { data:=#[] },.bool false,.slice none 0 0,.slice none 0 0,.slice none 0 0] 27:=rfl
  rw [hzO] at hwb
  go_enter Tryz.func4,Tryz.ntmps4
  go_upto_region 1 with fail
  clear hwb
  have hB11:=below_alloc wb (.cells #[.int .i64 k,.int .i64 v,.string nm,.bool g,.slice p1 l1 c1,.slice p2 l2 c2,.slice p len c,.int .i64 k',.int .i64 v',.string nm',.bool g',.slice p1' l1' c1',.slice p2' l2' c2',.slice p' len' c'] 27)
  have hL11:=heap_alloc_new wb (.cells #[.int .i64 k,.int .i64 v,.string nm,.bool g,.slice p1 l1 c1,.slice p2 l2 c2,.slice p len c,.int .i64 k',.int .i64 v',.string nm',.bool g',.slice p1' l1' c1',.slice p2' l2' c2',.slice p' len' c'] 27)
  have hs11:(wb.alloc (.cells #[.int .i64 k,.int .i64 v,.string nm,.bool g,.slice p1 l1 c1,.slice p2 l2 c2,.slice p len c,.int .i64 k',.int .i64 v',.string nm',.bool g',.slice p1' l1' c1',.slice p2' l2' c2',.slice p' len' c'] 27)).heap.size = wb.heap.size + 1:=by simp
  have fL:Aside (∀ w2:World,Below (wb.heap.size + 1) (wb.alloc (.cells #[.int .i64 k,.int .i64 v,.string nm,.bool g,.slice p1 l1 c1,.slice p2 l2 c2,.slice p len c,.int .i64 k',.int .i64 v',.string nm',.bool g',.slice p1' l1' c1',.slice p2' l2' c2',.slice p' len' c'] 27)) w2 → w2.cell? ⟨wb.heap.size,0,none⟩ = some (.int .i64 k) ∧ w2.cell? ⟨wb.heap.size,1,none⟩ = some (.int .i64 v) ∧ w2.cell? ⟨wb.heap.size,2,none⟩ = some (.string nm) ∧ w2.cell? ⟨wb.heap.size,3,none⟩ = some (.bool g) ∧ w2.cell? ⟨wb.heap.size,4,none⟩ = some (.slice p1 l1 c1) ∧ w2.cell? ⟨wb.heap.size,5,none⟩ = some (.slice p2 l2 c2) ∧ w2.cell? ⟨wb.heap.size,6,none⟩ = some (.slice p len c) ∧
      w2.cell? ⟨wb.heap.size,7,none⟩ = some (.int .i64 k') ∧ w2.cell? ⟨wb.heap.size,8,none⟩ = some (.int .i64 v') ∧ w2.cell? ⟨wb.heap.size,9,none⟩ = some (.string nm') ∧ w2.cell? ⟨wb.heap.size,10,none⟩ = some (.bool g') ∧ w2.cell? ⟨wb.heap.size,11,none⟩ = some (.slice p1' l1' c1') ∧ w2.cell? ⟨wb.heap.size,12,none⟩ = some (.slice p2' l2' c2') ∧ w2.cell? ⟨wb.heap.size,13,none⟩ = some (.slice p' len' c')):=fun w2 hb=>by
    have:=(hb.block wb.heap.size (by omega)).trans hL11
    simp [World.cell?,this]
  clear hL11
  go_upto_region 2 with fail
  obtain ⟨wd,hwd⟩:∃ wd,wb.alloc (.cells #[.int .i64 k,.int .i64 v,.string nm,.bool g,.slice p1 l1 c1,.slice p2 l2 c2,.slice p len c,.int .i64 k',.int .i64 v',.string nm',.bool g',.slice p1' l1' c1',.slice p2' l2' c2',.slice p' len' c'] 27) = wd:=⟨_,rfl⟩
  rw [hwd] at fL hB11 hs11 ⊢
  clear hwd x0 x1 x2 x3 x4 x5 x6 y0 y1 y2 y3 y4 y5 y6
  go_loopw [13] (fun s wr=>∃ i:Nat,s = .int .i64 i ∧ i ≤ 2 ∧ Aside ((1 ≤ i → Fa = 0) ∧ (2 ≤ i → Fb = 0)) ∧ Below (wb.heap.size + 1) wd wr) (fun s _=>2 - (intOf s).toNat)
  case atStart=>exact ⟨0,rfl,by omega,⟨fun h=>absurd h (by omega),fun h=>absurd h (by omega)⟩,Below.refl _ _⟩
  case round=>
    obtain ⟨i,rfl,hi,hab,hB⟩:=hrel
    have hBb:Below wb.heap.size wb wr:=hB11.trans (hB.mono (by omega))
    have hBwr:Below w.heap.size w wr:=hBw.trans (hBb.mono hBw.size)
    have hBs:=hB.size
    obtain rfl | rfl | rfl:i = 0 ∨ i = 1 ∨ i = 2:=by omega
    · obtain ⟨m0,m1,m2,m3,m4,m5,m6,_⟩:=fL.out wr hB
      have hBx:=hBwr.alloc hBwr.size (.cells #[.int .i64 k,.int .i64 v,.string nm,.bool g,.slice p1 l1 c1,.slice p2 l2 c2,.slice p len c] 27)
      have dc:=k1.out (wr.alloc (.cells #[.int .i64 k,.int .i64 v,.string nm,.bool g,.slice p1 l1 c1,.slice p2 l2 c2,.slice p len c] 27)) hBx
      replace dc:Calls Tryz.prog 7 #[.agg #[.int .i64 k,.int .i64 v,.string nm,.bool g,.slice p1 l1 c1,.slice p2 l2 c2,.slice p len c]] _ _:=dc
      clear k1
      by_cases hf:Fa = 0
      · have hfA:Aside (Fa = 0):=hf
        have hfB:(Fa == 0) = true:=by simpa using hf
        clear hf
        go_wp2_with (go_at_call 7;with_reducible refine dc.mono ?_)
        first | rintro e w5 rfl hb5 | rintro e w5 ⟨rfl,hb5⟩
        go_wp2
        go_roundw
        case rel=>exact ⟨1,rfl,by omega,⟨fun h=>hfA.out,fun h=>absurd h (by omega)⟩,(hB.alloc (by have:=hB.size;omega) _).trans (hb5.mono (by simp;have:=hB.size;omega))⟩
        case measure=>simp [intOf]
      · have hfA:Aside (¬ Fa = 0):=hf
        have hfB:(Fa == 0) = false:=by simpa using hf
        clear hf
        go_wp2_with (go_at_call 7;with_reducible refine dc.mono ?_)
        first | rintro e w5 rfl hb5 | rintro e w5 ⟨rfl,hb5⟩
        have hb5s:=hb5.size
        have hB5:Below wb.heap.size wb w5:=hBb.trans (((below_alloc wr _).trans (hb5.mono (by simp))).mono hBb.size)
        have hr5:w5.heap[w.heap.size + 1 + 1]? = some zObj:=fr.out w5 hB5
        obtain ⟨r0,r1,r2,r3,r4,r5,r6⟩:=cells7 hr5
        have rz:=frozen_of hr5
        go_wp2
        obtain ⟨z1,z2,z3⟩:=set7 (v0:=.int .i64 0) (v1:=.int .i64 0) (v2:=.string ⟨#[]⟩) (v3:=.bool false) (v4:=.slice none 0 0) (v5:=.slice none 0 0) (v6:=.slice none 0 0) hr5
        refine bodyPost_ret (results_cell2 rfl _ _ (w.heap.size + 1 + 1) 27 _ _ _ rfl z1 Tryz.underlying27 rfl (by kernel_rfl)) rfl ?_
        exact ⟨[.int .i64 0,.int .i64 0,.string ⟨#[]⟩,.bool false,.slice none 0 0,.slice none 0 0,.slice none 0 0],Fa,_,rfl,hz0A.out _,⟨⟨fun h=>absurd h hfA.out,fun h=>absurd h.1 hfA.out⟩,fun h=>absurd h hfA.out⟩,(hBw.trans (hB5.mono hBw.size)).trans (z3.mono (by omega))⟩
    · obtain ⟨_,_,_,_,_,_,_,m0,m1,m2,m3,m4,m5,m6⟩:=fL.out wr hB
      have hBx:=hBwr.alloc hBwr.size (.cells #[.int .i64 k',.int .i64 v',.string nm',.bool g',.slice p1' l1' c1',.slice p2' l2' c2',.slice p' len' c'] 27)
      have dc:=k2.out (wr.alloc (.cells #[.int .i64 k',.int .i64 v',.string nm',.bool g',.slice p1' l1' c1',.slice p2' l2' c2',.slice p' len' c'] 27)) hBx
      replace dc:Calls Tryz.prog 7 #[.agg #[.int .i64 k',.int .i64 v',.string nm',.bool g',.slice p1' l1' c1',.slice p2' l2' c2',.slice p' len' c']] _ _:=dc
      clear k2
      by_cases hf:Fb = 0
      · have hfA:Aside (Fb = 0):=hf
        have hfB:(Fb == 0) = true:=by simpa using hf
        clear hf
        go_wp2_with (go_at_call 7;with_reducible refine dc.mono ?_)
        first | rintro e w5 rfl hb5 | rintro e w5 ⟨rfl,hb5⟩
        go_wp2
        go_roundw
        case rel=>exact ⟨2,rfl,by omega,⟨fun h=>hab.out.1 (by omega),fun h=>hfA.out⟩,(hB.alloc (by have:=hB.size;omega) _).trans (hb5.mono (by simp;have:=hB.size;omega))⟩
        case measure=>simp [intOf]
      · have hfA:Aside (¬ Fb = 0):=hf
        have hfB:(Fb == 0) = false:=by simpa using hf
        clear hf
        go_wp2_with (go_at_call 7;with_reducible refine dc.mono ?_)
        first | rintro e w5 rfl hb5 | rintro e w5 ⟨rfl,hb5⟩
        have hb5s:=hb5.size
        have hB5:Below wb.heap.size wb w5:=hBb.trans (((below_alloc wr _).trans (hb5.mono (by simp))).mono hBb.size)
        have hr5:w5.heap[w.heap.size + 1 + 1]? = some zObj:=fr.out w5 hB5
        obtain ⟨r0,r1,r2,r3,r4,r5,r6⟩:=cells7 hr5
        have rz:=frozen_of hr5
        go_wp2
        obtain ⟨z1,z2,z3⟩:=set7 (v0:=.int .i64 0) (v1:=.int .i64 0) (v2:=.string ⟨#[]⟩) (v3:=.bool false) (v4:=.slice none 0 0) (v5:=.slice none 0 0) (v6:=.slice none 0 0) hr5
        refine bodyPost_ret (results_cell2 rfl _ _ (w.heap.size + 1 + 1) 27 _ _ _ rfl z1 Tryz.underlying27 rfl (by kernel_rfl)) rfl ?_
        exact ⟨[.int .i64 0,.int .i64 0,.string ⟨#[]⟩,.bool false,.slice none 0 0,.slice none 0 0,.slice none 0 0],Fb,_,rfl,hz0A.out _,⟨⟨fun h=>absurd h hfA.out,fun h=>absurd h.2 hfA.out⟩,fun h=>absurd h hfA.out⟩,(hBw.trans (hB5.mono hBw.size)).trans (z3.mono (by omega))⟩
    · have hFa:=hab.out.1 (by omega)
      have hFb:=hab.out.2 (by omega)
      obtain ⟨x0,x1,x2,x3,x4,x5,x6⟩:=fa.out wr hBb
      obtain ⟨y0,y1,y2,y3,y4,y5,y6⟩:=fb.out wr hBb
      have dg:=k3.out wr hBwr hFa hFb
      replace dg:Calls Tryz.prog 9 #[.agg #[.int .i64 k,.int .i64 v,.string nm,.bool g,.slice p1 l1 c1,.slice p2 l2 c2,.slice p len c],.agg #[.int .i64 k',.int .i64 v',.string nm',.bool g',.slice p1' l1' c1',.slice p2' l2' c2',.slice p' len' c']] _ _:=dg
      have hAA:Aside (Fa = 0 ∧ Fb = 0):=⟨hFa,hFb⟩
      clear k1 k2 k3 fL hFa hFb
      go_wp2_with (go_at_call 9;with_reducible refine dg.mono ?_)
      first | rintro e w5 ⟨rs,rfl,hrs,hb5⟩ | rintro e w5 rs rfl hrs hb5
      have hb5s:=hb5.size
      have dk:=k4.out w5 rs hrs
      clear dg k4
      go_wp2_with (go_at_call 8;with_reducible refine dk.mono ?_)
      first | rintro e w6 ⟨ss,rfl,hss,hb6⟩ | rintro e w6 ss rfl hss hb6
      have hss0:Aside (TmS (Fresh w5.heap.size w6.heap.size) w6 (.mk gk gv gnm gg gnum gden gargs) ss):=hss
      simp only [TmS] at hss
      obtain ⟨a1,d1,a2,d2,a3,d3,rfl,_⟩:=hss
      have hb6s:=hb6.size
      have hB6:Below wb.heap.size wb w6:=(hBb.trans (hb5.mono hBb.size)).trans (hb6.mono (by have:=hBb.size;omega))
      have hr6:w6.heap[w.heap.size + 1 + 1]? = some zObj:=fr.out w6 hB6
      obtain ⟨r0,r1,r2,r3,r4,r5,r6⟩:=cells7 hr6
      have rz:=frozen_of hr6
      generalize gargs.length = g1 at *
      generalize gnum.length = g2 at *
      generalize gden.length = g3 at *
      go_wp2
      obtain ⟨z1,z2,z3⟩:=set7 (v0:=.int .i64 gk) (v1:=.int .i64 gv) (v2:=.string gnm) (v3:=.bool gg) (v4:=.slice a1 g2 d1) (v5:=.slice a2 g3 d2) (v6:=.slice a3 g1 d3) hr6
      refine bodyPost_ret (results_cell2 rfl _ _ (w.heap.size + 1 + 1) 27 _ _ _ rfl z1 Tryz.underlying27 rfl (by kernel_rfl)) rfl ?_
      have hz:=z3.size
      have hsz':=hszA.out
      have hbs:=hBb.size
      refine ⟨[.int .i64 gk,.int .i64 gv,.string gnm,.bool gg,.slice a1 g2 d1,.slice a2 g3 d2,.slice a3 g1 d3],0,.mk gk gv gnm gg gnum gden gargs,rfl,?_,⟨⟨fun _=>hAA.out,fun _=>rfl⟩,fun _=>rfl⟩,(hBw.trans (hB6.mono hBw.size)).trans (z3.mono (by omega))⟩
      exact TmS.toV (S:=Fresh w5.heap.size w6.heap.size) (fun kk hk=>by have:=hk.2;omega) _ _ (TmS.keep (fun b hb=>z2 b (by have:=hb.1;omega)) _ _ hss0.out)
end Go.Proofs.YtaloeffmigffaaaGreatDoor
end
