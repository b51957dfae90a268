/-
  A part of the proof of the card of WorkGeneralizationIsLeast (second form): lemmas that the text Card uses. No condition of its own.
-/
import Derived.Test.YtaloeffmigffaaaGreatDoorPut
set_option linter.all false
set_option linter.unusedVariables false
set_option linter.unusedSimpArgs false
section
namespace Go.Proofs.YtaloeffmigffaaaGreatDoor
open Go.RowKit Go.Big
attribute [local go_sem] Heavy.uponW
def BsOk (L:List (Int × Tm)):Prop:=∀ x ∈ L,x.2.errE = 0
theorem putB_len:∀ (L:List (Int × Tm)) (v:Int) (t:Tm),(putB L v t).length = L.length + 1
  | [],v,t=>rfl
  | (u,x) :: r,v,t=>by
    rw [putB]
    split
    · rfl
    · simp [putB_len r v t]
theorem putB_ok:∀ {L:List (Int × Tm)} {v:Int} {t:Tm},BsOk L → t.errE = 0 → BsOk (putB L v t)
  | [],v,t,h,ht=>by
    intro x hx
    simp [putB] at hx
    subst hx;exact ht
  | (u,y) :: r,v,t,h,ht=>by
    intro x hx
    rw [putB] at hx
    split at hx
    · rcases List.mem_cons.1 hx with rfl | hx
      · exact ht
      · exact h x hx
    · rcases List.mem_cons.1 hx with rfl | hx
      · exact h _ (by simp)
      · exact putB_ok (L:=r) (fun z hz=>h z (by simp [hz])) ht x hx
theorem findB_ok:∀ {L:List (Int × Tm)} {v:Int} {x:Tm},BsOk L → findB L v = some x → x.errE = 0
  | (u,y) :: r,v,x,h,hf=>by
    rw [findB] at hf
    split at hf
    · injection hf with e;subst e;exact h (u,y) (by simp)
    · exact findB_ok (L:=r) (fun z hz=>h z (by simp [hz])) hf
theorem matchL_drop {P T:List Tm} {i:Nat} {p t:Tm} {L:List (Int × Tm)} (hp:P[i]? = some p) (ht:T[i]? = some t) :
    matchL (P.drop i) (T.drop i) L = match matchT p t L with
      | some l'=>matchL (P.drop (i + 1)) (T.drop (i + 1)) l'
      | none=>none:=by
  have h1:=(List.getElem?_eq_some_iff.1 hp).1
  have h2:=(List.getElem?_eq_some_iff.1 ht).1
  have e1:=(List.getElem?_eq_some_iff.1 hp).2
  have e2:=(List.getElem?_eq_some_iff.1 ht).2
  rw [List.drop_eq_getElem_cons h1,List.drop_eq_getElem_cons h2,e1,e2,matchL]
  cases matchT p t L <;> rfl
theorem nodesL_le (L:List Tm) (i:Nat):Tm.nodesL (L.take i) ≤ Tm.nodesL L:=by
  have h:Tm.nodesL L = Tm.nodesL (L.take i) + Tm.nodesL (L.drop i):=by rw [← nodesL_app,List.take_append_drop]
  omega
def MatR (p t:Tm) (L:List (Int × Tm)) (e:Ending) (w':World):Prop:=
  ∃ (sv:Value) (b:Bool) (L':List (Int × Tm)),e = .returned (.tuple #[sv,.bool b]) ∧ (b = true → matchT p t L = some L' ∧ BsOk L' ∧ L'.length ≤ L.length + p.nodes ∧ BsV w'.heap.size w' L' sv) ∧ (b = false → matchT p t L = none)
def MatOk (p:Tm):Prop:=∀ (t:Tm) (n:Nat) (w:World) (vs us:List Value) (L:List (Int × Tm)) (sv:Value),p.errE = 0 → t.errE = 0 → TmV n w p vs → TmV n w t us → BsV n w L sv → BsOk L → n ≤ w.heap.size → L.length + p.nodes ≤ 900000 →
  Calls Tryz.prog 20 #[.agg vs.toArray,.agg us.toArray,sv] w fun e w'=>MatR p t L e w' ∧ Below w.heap.size w w'
def MatLp (P T:List Tm) (L:List (Int × Tm)) (i:Nat) (s2:Value) (w:World):Prop:=
  ∃ Li,BsV w.heap.size w Li s2 ∧ BsOk Li ∧ Li.length ≤ L.length + Tm.nodesL (P.take i) ∧ matchL P T L = matchL (P.drop i) (T.drop i) Li
set_option maxRecDepth 100000 in
set_option maxHeartbeats 4000000 in
theorem matched_step (k v:Int) (nm:ByteArray) (g:Bool) (num den:List Nat) (args:List Tm) (ih:∀ T' ∈ args,MatOk T'):MatOk (.mk k v nm g num den args):=by
  intro t n w vs us L sv hT hU h h' hL hok hn hbd
  have hr:=fun (w2:World) (hb:Below w.heap.size w w2)=>roots_calls (.mk k v nm g num den args) t n w2 vs us hT hU (TmV.below hb hn _ _ h) (TmV.below hb hn _ _ h') (Nat.le_trans hn hb.size)
  have hbd2:L.length < 1000000:=by omega
  have hfd:=fun (w2:World) (hb:Below w.heap.size w w2)=>find_calls L v n w2 sv (hL.below hb hn) (by omega) (Nat.le_trans hn hb.size)
  have hpt:=fun (w2:World) (hb:Below w.heap.size w w2)=>put_calls L v t n w2 sv us (hL.below hb hn) (TmV.below hb hn _ _ h') hbd2 (Nat.le_trans hn hb.size)
  have hord:Aside (∀ (w2:World) (hb:Below w.heap.size w w2) (X:Tm) (rs:List Value),X.errE = 0 → TmV n w2 X rs → Calls Tryz.prog 48 #[.agg rs.toArray,.agg us.toArray] w2 fun e w'=>(∃ c:Int,e = .returned (.int .i64 c) ∧ (c = 0 ↔ X = t)) ∧ Below w2.heap.size w2 w'):=
    fun w2 hb X rs hX hrs=>order_calls X t n w2 rs us hX hU hrs (TmV.below hb hn _ _ h') (Nat.le_trans hn hb.size)
  have hokA:Aside (BsOk L):=hok
  have hUA:Aside (t.errE = 0):=hU
  obtain ⟨k',v',nm',g',num',den',args'⟩:=t
  simp only [TmV] at h h'
  obtain ⟨s1,s2,p,c,rfl,⟨⟨p1,c1,rfl,_⟩,⟨p2,c2,rfl,_⟩⟩,hS,hbig,_⟩:=h
  obtain ⟨t1,t2,p',c',rfl,⟨⟨p1',c1',rfl,_⟩,⟨p2',c2',rfl,_⟩⟩,hS',hbig',_⟩:=h'
  have erA:Aside (Tm.errL args = 0 ∧ Tm.errL args' = 0):=⟨(errE_split hT).2,(errE_split hU).2⟩
  obtain ⟨MM,hMM⟩:∃ MM,matchT (.mk k v nm g num den args) (.mk k' v' nm' g' num' den' args') L = MM:=⟨_,rfl⟩
  have hM1:Aside (k = 1 → (∀ x,findB L v = some x → (x = .mk k' v' nm' g' num' den' args' → MM = some L) ∧ (¬ x = .mk k' v' nm' g' num' den' args' → MM = none)) ∧ (findB L v = none → MM = some (putB L v (.mk k' v' nm' g' num' den' args')))):=by
    intro h1
    refine ⟨fun x hx=>⟨fun e=>?_,fun e=>?_⟩,fun hx=>?_⟩
    · rw [← hMM,matchT,if_pos h1,hx];simp only [if_pos e]
    · rw [← hMM,matchT,if_pos h1,hx];simp only [if_neg e]
    · rw [← hMM,matchT,if_pos h1,hx]
  have hM2:Aside (¬ k = 1 → Tm.rootEq (.mk k v nm g num den args) (.mk k' v' nm' g' num' den' args') → MM = matchL args args' L):=by
    intro h1 h2
    rw [← hMM,matchT,if_neg h1]
    simp only [Tm.rootEq] at h2
    simp only [if_pos h2]
  have hM3:Aside (¬ k = 1 → ¬ Tm.rootEq (.mk k v nm g num den args) (.mk k' v' nm' g' num' den' args') → MM = none):=by
    intro h1 h2
    rw [← hMM,matchT,if_neg h1]
    simp only [Tm.rootEq] at h2
    simp only [if_neg h2]
  have RlA:Aside (Tm.rootEq (.mk k v nm g num den args) (.mk k' v' nm' g' num' den' args') → args.length = args'.length):=by
    intro h1;simp only [Tm.rootEq] at h1;exact h1.2.2.2.2.2.2
  have hnd:Aside ((Tm.mk k v nm g num den args).nodes = 1 + Tm.nodesL args ∧ L.length + 1 + Tm.nodesL args ≤ 900000):=by
    simp only [Tm.nodes] at hbd
    exact ⟨by simp only [Tm.nodes],by omega⟩
  have hMA:Aside (matchT (.mk k v nm g num den args) (.mk k' v' nm' g' num' den' args') L = MM):=hMM
  have hret:Aside (∀ (sv:Value) (b:Bool) (L':List (Int × Tm)) (w':World),(b = true → MM = some L' ∧ BsOk L' ∧ L'.length ≤ L.length + 1 + Tm.nodesL args ∧ BsV w'.heap.size w' L' sv) → (b = false → MM = none) → MatR (.mk k v nm g num den args) (.mk k' v' nm' g' num' den' args') L (.returned (.tuple #[sv,.bool b])) w'):=by
    intro sv b L' w' h1 h2
    refine ⟨sv,b,L',rfl,fun hb=>?_,fun hb=>hMA.out.trans (h2 hb)⟩
    obtain ⟨a1,a2,a3,a4⟩:=h1 hb
    exact ⟨hMA.out.trans a1,a2,by rw [hnd.out.1];omega,a4⟩
  have hLA:Aside (BsV n w L sv):=hL
  have hSA:Aside (TmsV n w args p 0):=hS
  have hSA':Aside (TmsV n w args' p' 0):=hS'
  have ihA:Aside (∀ T' ∈ args,MatOk T'):=ih
  generalize Tm.rootEq (.mk k v nm g num den args) (.mk k' v' nm' g' num' den' args') = RR at *
  generalize MatR (.mk k v nm g num den args) (.mk k' v' nm' g' num' den' args') L = MRR at *
  generalize hTT:Tm.mk k' v' nm' g' num' den' args' = TT at *
  obtain ⟨len,hl⟩:∃ len,args.length = len:=⟨_,rfl⟩
  obtain ⟨len',hl'⟩:∃ len',args'.length = len':=⟨_,rfl⟩
  have Al:Aside (args.length = len ∧ args'.length = len'):=⟨hl,hl'⟩
  rw [hl] at hr hbig ⊢
  rw [hl'] at hr hpt hord hbig' ⊢
  generalize num.length = l1 at *
  generalize den.length = l2 at *
  generalize num'.length = l3 at *
  generalize den'.length = l4 at *
  clear hl hl' hMM hTT hS hS' ih hL hok hU hT hbd hbd2
  obtain ⟨hBw,q1,q2,hsz⟩:=two_blocks w (Obj.cells #[.int .i64 k,.int .i64 v,.string nm,.bool g,.slice p1 l1 c1,.slice p2 l2 c2,.slice p len c] 27) (Obj.cells #[.int .i64 k',.int .i64 v',.string nm',.bool g',.slice p1' l3 c1',.slice p2' l4 c2',.slice p' len' c'] 27)
  obtain ⟨wb,hwb⟩:∃ wb,(w.alloc (Obj.cells #[.int .i64 k,.int .i64 v,.string nm,.bool g,.slice p1 l1 c1,.slice p2 l2 c2,.slice p len c] 27)).alloc (Obj.cells #[.int .i64 k',.int .i64 v',.string nm',.bool g',.slice p1' l3 c1',.slice p2' l4 c2',.slice p' len' c'] 27) = wb:=⟨_,rfl⟩
  rw [hwb] at hBw q1 q2 hsz
  have fa:Aside (∀ w2,Below wb.heap.size wb w2 → _):=fun (w2:World) (hb:Below wb.heap.size wb w2)=>cells7 ((hb.block _ (by omega)).trans q1)
  have fb:Aside (∀ w2,Below wb.heap.size wb w2 → _):=fun (w2:World) (hb:Below wb.heap.size wb w2)=>cells7 ((hb.block _ (by omega)).trans q2)
  obtain ⟨x0,x1,x2,x3,x4,x5,x6⟩:=fa.out wb (Below.refl _ _)
  obtain ⟨y0,y1,y2,y3,y4,y5,y6⟩:=fb.out wb (Below.refl _ _)
  have hszA:Aside (w.heap.size + 2 ≤ wb.heap.size):=hsz
  clear q1 q2 hsz
  show Calls Tryz.prog 20 #[.agg #[.int .i64 k,.int .i64 v,.string nm,.bool g,.slice p1 l1 c1,.slice p2 l2 c2,.slice p len c],.agg #[.int .i64 k',.int .i64 v',.string nm',.bool g',.slice p1' l3 c1',.slice p2' l4 c2',.slice p' len' c'],sv] w _
  by_cases k1:k = 1
  · have k1A:Aside (k = 1):=k1
    have k1B:(k == 1) = true:=by simpa using k1
    have d1:=hfd wb hBw
    clear hr hfd k1 hSA hSA' ihA hM2 hM3 RlA
    go_enter Tryz.func20,Tryz.ntmps20
    go_upto_region 1 with fail
    clear hwb
    go_wp2_with (go_at_call 51;with_reducible refine d1.mono ?_)
    rintro e w1 ⟨⟨rs,b,X,rfl,hf,hX⟩,hb1⟩
    obtain ⟨k3,v3,nm3,g3,num3,den3,args3⟩:=X
    have hX0:Aside (TmV n w1 (.mk k3 v3 nm3 g3 num3 den3 args3) rs):=hX
    simp only [TmV] at hX
    obtain ⟨_,_,s3,t3,rfl,⟨⟨s4,t4,rfl,_⟩,⟨s5,t5,rfl,_⟩⟩,_⟩:=hX
    generalize args3.length = ln1 at *
    generalize num3.length = ln2 at *
    generalize den3.length = ln3 at *
    generalize Tm.mk k3 v3 nm3 g3 num3 den3 args3 = X at *
    have hBx:Below wb.heap.size wb (w1.alloc (.cells #[.int .i64 k3,.int .i64 v3,.string nm3,.bool g3,.slice s4 ln2 t4,.slice s5 ln3 t5,.slice s3 ln1 t3] 27)):=hb1.alloc hb1.size _
    have hBwx:Below w.heap.size w (w1.alloc (.cells #[.int .i64 k3,.int .i64 v3,.string nm3,.bool g3,.slice s4 ln2 t4,.slice s5 ln3 t5,.slice s3 ln1 t3] 27)):=hBw.trans (hBx.mono hBw.size)
    have hXx:=TmV.below (below_alloc w1 (.cells #[.int .i64 k3,.int .i64 v3,.string nm3,.bool g3,.slice s4 ln2 t4,.slice s5 ln3 t5,.slice s3 ln1 t3] 27)) (Nat.le_trans hn (Nat.le_trans hBw.size hb1.size)) _ _ hX0.out
    clear x0 x1 x2 x3 x4 x5 x6 y0 y1 y2 y3 y4 y5 y6 d1 hX0
    obtain ⟨x0,x1,x2,x3,x4,x5,x6⟩:=fa.out _ hBx
    obtain ⟨y0,y1,y2,y3,y4,y5,y6⟩:=fb.out _ hBx
    cases b
    · have hfn:Aside (findB L v = none):=hf.2 rfl
      have d2:=hpt _ hBwx
      replace d2:Calls Tryz.prog 52 #[sv,.agg #[.int .i64 v,.int .i64 k',.int .i64 v',.string nm',.bool g',.slice p1' l3 c1',.slice p2' l4 c2',.slice p' len' c']] _ _:=d2
      clear hf hpt hord hXx
      go_wp2_with (go_at_call 52;with_reducible refine d2.mono ?_)
      first | rintro e w5 ⟨⟨sv',rfl,hsv⟩,hb5⟩ | rintro e w5 sv' rfl hsv hb5
      have hR5:=hret.out sv' true (putB L v TT) w5 (fun _=>⟨(hM1.out k1A.out).2 hfn.out,putB_ok hokA.out hUA.out,by rw [putB_len];omega,hsv⟩) (fun h=>absurd h (by decide))
      clear x0 x1 x2 x3 x4 x5 x6 y0 y1 y2 y3 y4 y5 y6
      go_wp2
      go_ret2
      exact ⟨hR5,hBwx.trans (hb5.mono hBwx.size)⟩
    · have hfn:Aside (findB L v = some X):=hf.1 rfl
      have d2:=hord.out _ hBwx X _ (findB_ok hokA.out hfn.out) hXx
      replace d2:Calls Tryz.prog 48 #[.agg #[.int .i64 k3,.int .i64 v3,.string nm3,.bool g3,.slice s4 ln2 t4,.slice s5 ln3 t5,.slice s3 ln1 t3],.agg #[.int .i64 k',.int .i64 v',.string nm',.bool g',.slice p1' l3 c1',.slice p2' l4 c2',.slice p' len' c']] _ _:=d2
      clear hf hpt hord hXx
      go_wp2_with (go_at_call 48;with_reducible refine d2.mono ?_)
      first | rintro e w5 ⟨⟨z,rfl,hz⟩,hb5⟩ | rintro e w5 z rfl hz hb5
      have hB5:Below w.heap.size w w5:=hBwx.trans (hb5.mono hBwx.size)
      have hBs5:=hB5.size
      have hR5:Aside (MRR (.returned (.tuple #[sv,.bool (z == 0)])) w5):=hret.out sv (z == 0) L w5 (fun hb=>⟨((hM1.out k1A.out).1 X hfn.out).1 (hz.1 (by simpa using hb)),hokA.out,by omega,(hLA.out.below hB5 hn).up (by omega)⟩) (fun hb=>((hM1.out k1A.out).1 X hfn.out).2 (fun e=>by have:=hz.2 e;subst this;exact absurd hb (by decide)))
      clear x0 x1 x2 x3 x4 x5 x6 y0 y1 y2 y3 y4 y5 y6 hz
      go_wp2
      go_ret2
      exact ⟨hR5.out,hB5⟩
  · have k1A:Aside (¬ k = 1):=k1
    have k1B:(k == 1) = false:=by simpa using k1
    have d1:=hr wb hBw
    replace d1:Calls Tryz.prog 53 #[.agg #[.int .i64 k,.int .i64 v,.string nm,.bool g,.slice p1 l1 c1,.slice p2 l2 c2,.slice p len c],.agg #[.int .i64 k',.int .i64 v',.string nm',.bool g',.slice p1' l3 c1',.slice p2' l4 c2',.slice p' len' c']] _ _:=d1
    clear hr hfd hpt hord k1 hM1
    go_enter Tryz.func20,Tryz.ntmps20
    go_upto_region 1 with fail
    clear hwb
    go_wp2_with (go_at_call 53;with_reducible refine d1.mono ?_)
    first | rintro e w1 ⟨⟨z,rfl,hz⟩,hb1⟩ | rintro e w1 z rfl hz hb1
    clear d1
    have hB1:Below w.heap.size w w1:=hBw.trans (hb1.mono hBw.size)
    by_cases hz0:z = 0
    case neg=>
      have hzB:(z == 0) = false:=by simpa using hz0
      have hR1:Aside (MRR (.returned (.tuple #[sv,.bool false])) w1):=hret.out sv false L w1 (fun h=>absurd h (by decide)) (fun _=>hM3.out k1A.out (fun h=>hz0 (hz.2 h)))
      clear hz hz0
      go_wp2
      go_ret2
      exact ⟨hR1.out,hB1⟩
    case pos=>
      subst hz0
      have hRt:Aside RR:=hz.1 rfl
      have hMM:Aside (MM = matchL args args' L):=hM2.out k1A.out hRt.out
      have hll:len' = len:=by
        have:=RlA.out hRt.out
        rw [Al.out.1,Al.out.2] at this
        exact this.symm
      subst hll
      clear x0 x1 x2 x3 x4 x5 x6 y0 y1 y2 y3 y4 y5 y6
      obtain ⟨x0,x1,x2,x3,x4,x5,x6⟩:=fa.out w1 hb1
      clear hz
      go_wp2
      go_loopw [42,2] (fun s42 s2 wr=>∃ i:Nat,s42 = .int .i64 i ∧ i ≤ len' ∧ MatLp args args' L i s2 wr ∧ Below wb.heap.size wb wr) (fun s _ _=>len' - (intOf s).toNat)
      case atStart=>exact ⟨0,rfl,Nat.zero_le _,⟨L,(hLA.out.below hB1 hn).up (Nat.le_trans hn hB1.size),hokA.out,by simp [Tm.nodesL],by simp⟩,hb1⟩
      case round=>
        obtain ⟨i,rfl,hi,⟨Li,hLi,hoki,hleni,hmi⟩,hB⟩:=hrel
        have hBww:Below w.heap.size w wr:=hBw.trans (hB.mono hBw.size)
        have hnr:n ≤ wr.heap.size:=Nat.le_trans hn hBww.size
        by_cases hlt:i < len'
        · obtain ⟨T',hT'⟩:∃ T',args[i]? = some T':=⟨args[i]'(by rw [Al.out.1];exact hlt),List.getElem?_eq_getElem _⟩
          obtain ⟨U',hU'⟩:∃ U',args'[i]? = some U':=⟨args'[i]'(by rw [Al.out.2];exact hlt),List.getElem?_eq_getElem _⟩
          obtain ⟨b,o,vs',rfl,hbn,hc,hv⟩:=hSA.out.get hT'
          obtain ⟨b',o',us',rfl,hbn',hc',hv'⟩:=hSA'.out.get hU'
          rw [Nat.zero_add] at hc hc'
          have hle1:=nodesL_le args (i + 1)
          rw [nodesL_take hT'] at hle1
          have hle2:=hnd.out.2
          have d2:=ihA.out T' (List.mem_of_getElem? hT') U' wr.heap.size wr.drew vs' us' Li u2 (errL_get erA.out.1 hT') (errL_get erA.out.2 hU') (TmV.up hnr _ _ (TmV.below (hBww.trans (below_drew_at _ _)) hn _ _ hv)) (TmV.up hnr _ _ (TmV.below (hBww.trans (below_drew_at _ _)) hn _ _ hv')) (hLi.below (below_drew_at _ _) (Nat.le_refl _)) hoki (Nat.le_refl _) (by omega)
          have hnx:Aside (∀ (b:Bool) (L':List (Int × Tm)) (sv':Value) (w3:World),b = true → (b = true → matchT T' U' Li = some L' ∧ BsOk L' ∧ L'.length ≤ Li.length + T'.nodes ∧ BsV w3.heap.size w3 L' sv') → MatLp args args' L (i + 1) sv' w3):=by
            show ∀ b:Bool,_
            intro b L' sv' w3 hb hh
            obtain ⟨a1,a2,a3,a4⟩:=hh hb
            exact ⟨L',a4,a2,by rw [nodesL_take hT'];omega,by rw [hmi,matchL_drop hT' hU',a1]⟩
          have hno:Aside (matchT T' U' Li = none → MM = none):=by
            intro hh
            rw [hMM.out,hmi,matchL_drop hT' hU',hh]
          have hBm:∀ q:Addr,q.block < n → wr.cell? q = w.cell? q:=fun q hq=>(hBww.mono hn).cell hq
          clear hT' hU' hle1 hle2
          obtain ⟨k3,v3,nm3,g3,num3,den3,args3⟩:=T'
          obtain ⟨k4,v4,nm4,g4,num4,den4,args4⟩:=U'
          simp only [TmV] at hv hv'
          obtain ⟨q1,q2,pa,pc,rfl,_⟩:=hv
          obtain ⟨r1,r2,ra,rc,rfl,_⟩:=hv'
          have m1:Aside (∀ w2,Below wr.heap.size wr w2 → _):=fun w2 hk=>seven (w:=w) (w2:=w2) (fun q hq=>((hBww.trans (hk.mono hBww.size)).mono hn).cell (hq ▸ hbn)) hc
          have m2:Aside (∀ w2,Below wr.heap.size wr w2 → _):=fun w2 hk=>seven (w:=w) (w2:=w2) (fun q hq=>((hBww.trans (hk.mono hBww.size)).mono hn).cell (hq ▸ hbn')) hc'
          have xa:Aside (∀ w2,Below wr.heap.size wr w2 → w2.cell? ⟨w.heap.size,6,none⟩ = _):=fun w2 hk=>(fa.out w2 (hB.trans (hk.mono hB.size))).2.2.2.2.2.2
          have xb:Aside (∀ w2,Below wr.heap.size wr w2 → w2.cell? ⟨w.heap.size + 1,6,none⟩ = _):=fun w2 hk=>(fb.out w2 (hB.trans (hk.mono hB.size))).2.2.2.2.2.2
          replace d2:Calls Tryz.prog 20 #[.agg #[.int .i64 k3,.int .i64 v3,.string nm3,.bool g3,q1,q2,.slice pa args3.length pc],.agg #[.int .i64 k4,.int .i64 v4,.string nm4,.bool g4,r1,r2,.slice ra args4.length rc],u2] wr.drew _:=d2
          have hexp:Aside (∀ e w',MatR (.mk k3 v3 nm3 g3 num3 den3 args3) (.mk k4 v4 nm4 g4 num4 den4 args4) Li e w' → ∃ (sv:Value) (b:Bool) (L':List (Int × Tm)),e = .returned (.tuple #[sv,.bool b]) ∧ (b = true → matchT (.mk k3 v3 nm3 g3 num3 den3 args3) (.mk k4 v4 nm4 g4 num4 den4 args4) Li = some L' ∧ BsOk L' ∧ L'.length ≤ Li.length + Tm.nodes (.mk k3 v3 nm3 g3 num3 den3 args3) ∧ BsV w'.heap.size w' L' sv) ∧ (b = false → matchT (.mk k3 v3 nm3 g3 num3 den3 args3) (.mk k4 v4 nm4 g4 num4 den4 args4) Li = none)):=fun e w' hh=>hh
          generalize Tm.mk k3 v3 nm3 g3 num3 den3 args3 = T' at *
          generalize Tm.mk k4 v4 nm4 g4 num4 den4 args4 = U' at *
          generalize args3.length = ln1 at *
          generalize args4.length = ln2 at *
          have hi1:(i:Int) < (len':Int):=by omega
          have hi3:(0:Int) ≤ (i:Int):=by omega
          have hw3:IntKind.i64.wrap ((i:Int) + 1) = (i:Int) + 1:=by rw [IntKind.wrap_i64];omega
          have z2:Aside (∀ w2,Below wr.heap.size wr.drew w2 → Below wb.heap.size wb w2):=fun w2 hb=>hB.trans (((below_drew wr).trans hb).mono hB.size)
          clear hc hc' hBm fa fb ihA hSA hSA' erA hmi hLi x0 x1 x2 x3 x4 x5 x6
          go_upto_region 12 with fail
          have hBd:Below wr.heap.size wr { wr with drawn:=wr.drawn + 1 }:=below_drew wr
          refine Heavy.region_plan (fun w'=>Below wr.heap.size wr w') 16 (Heavy.lights [0,1,2,3,4,5,6,7,8,9,10] (.one 11 (Heavy.lights [12,13,14,15] .done))) (by kernel_rfl) (by kernel_rfl) hBd ?_
          simp only [Heavy.lights,List.take_succ_cons,List.take_zero,List.drop_succ_cons,List.drop_zero]
          (apply Heavy.light_n;(exact rfl);(exact rfl);(intro wr2 hw;go_simp;exact rfl));(refine Heavy.norm_a (by go_simp;exact rfl) ?_)
          (apply Heavy.light_n;(exact rfl);(exact rfl);(intro wr2 hw;have xa1:=xa.out wr2 hw;go_simp;exact rfl));(refine Heavy.norm_a (by go_simp;exact rfl) ?_)
          (apply Heavy.light_n;(exact rfl);(exact rfl);(intro wr2 hw;go_simp;exact rfl));(refine Heavy.norm_a (by go_simp;exact rfl) ?_)
          (apply Heavy.light_n;(exact rfl);(exact rfl);(intro wr2 hw;go_simp;exact rfl));(refine Heavy.norm_a (by go_simp;exact rfl) ?_)
          (apply Heavy.light_n;(exact rfl);(exact rfl);(intro wr2 hw;have E:=m1.out wr2 hw;have y0:=E.1;have y1:=E.2.1;have y2:=E.2.2.1;have y3:=E.2.2.2.1;have y4:=E.2.2.2.2.1;have y5:=E.2.2.2.2.2.1;have y6:=E.2.2.2.2.2.2;clear E;go_simp;exact rfl));(refine Heavy.norm_a (by go_simp;exact rfl) ?_)
          (apply Heavy.light_n;(exact rfl);(exact rfl);(intro wr2 hw;go_simp;exact rfl));(refine Heavy.norm_a (by go_simp;exact rfl) ?_)
          (apply Heavy.light_n;(exact rfl);(exact rfl);(intro wr2 hw;have xb1:=xb.out wr2 hw;go_simp;exact rfl));(refine Heavy.norm_a (by go_simp;exact rfl) ?_)
          (apply Heavy.light_n;(exact rfl);(exact rfl);(intro wr2 hw;go_simp;exact rfl));(refine Heavy.norm_a (by go_simp;exact rfl) ?_)
          (apply Heavy.light_n;(exact rfl);(exact rfl);(intro wr2 hw;go_simp;exact rfl));(refine Heavy.norm_a (by go_simp;exact rfl) ?_)
          (apply Heavy.light_n;(exact rfl);(exact rfl);(intro wr2 hw;have E:=m2.out wr2 hw;have z0:=E.1;have z1:=E.2.1;have z2:=E.2.2.1;have z3:=E.2.2.2.1;have z4:=E.2.2.2.2.1;have z5:=E.2.2.2.2.2.1;have z6:=E.2.2.2.2.2.2;clear E;go_simp;exact rfl));(refine Heavy.norm_a (by go_simp;exact rfl) ?_)
          (apply Heavy.light_n;(exact rfl);(exact rfl);(intro wr2 hw;go_simp;exact rfl));(refine Heavy.norm_a (by go_simp;exact rfl) ?_)
          apply Heavy.one_n
          · exact rfl
          · exact rfl
          go_simp
          refine d2.mono ?_
          rintro e w3 ⟨hmr,hb3⟩
          obtain ⟨sv',b5,L',rfl,hh1,hh2⟩:=hexp.out e w3 hmr
          clear hmr d2 hexp
          refine ⟨_,rfl,hBd.trans hb3,?_⟩
          refine Heavy.norm_a (by go_simp;exact rfl) ?_
          (apply Heavy.light_n;(exact rfl);(exact rfl);(intro wr2 hw;go_simp;exact rfl));(refine Heavy.norm_a (by go_simp;exact rfl) ?_)
          (apply Heavy.light_n;(exact rfl);(exact rfl);(intro wr2 hw;go_simp;exact rfl));(refine Heavy.norm_a (by go_simp;exact rfl) ?_)
          (apply Heavy.light_n;(exact rfl);(exact rfl);(intro wr2 hw;go_simp;exact rfl));(refine Heavy.norm_a (by go_simp;exact rfl) ?_)
          (apply Heavy.light_n;(exact rfl);(exact rfl);(intro wr2 hw;go_simp;exact rfl));(refine Heavy.norm_a (by go_simp;exact rfl) ?_)
          apply Heavy.plan_end
          show wpList _ _ _ _ _ _
          clear m1 m2 xa xb
          cases b5
          · have hR3:Aside (MRR (.returned (.tuple #[sv',.bool false])) w3):=hret.out sv' false L w3 (fun h=>absurd h (by decide)) (fun _=>hno.out (hh2 rfl))
            clear hh1 hh2 hnx hno
            go_wp2
            go_ret2
            exact ⟨hR3.out,hBw.trans ((z2.out _ hb3).mono hBw.size)⟩
          · have hL3:Aside (MatLp args args' L (i + 1) sv' w3):=hnx.out true L' sv' w3 rfl hh1
            clear hh1 hh2 hnx hno
            go_wp2
            go_roundw
            case rel=>exact ⟨i + 1,by simp,by omega,hL3.out,z2.out _ hb3⟩
            case measure=>simp [intOf];omega
        · obtain rfl:i = len':=by omega
          have hR3:Aside (MRR (.returned (.tuple #[u2,.bool true])) wr):=hret.out u2 true Li wr (fun _=>⟨by
            rw [hMM.out,hmi,List.drop_of_length_le (by rw [Al.out.1];exact Nat.le_refl _),List.drop_of_length_le (by rw [Al.out.2];exact Nat.le_refl _)]
            simp only [matchL],hoki,by have:=nodesL_le args i;omega,hLi⟩) (fun h=>absurd h (by decide))
          clear fa fb ihA hSA hSA' erA hmi hLi
          go_wp2
          go_ret2
          exact ⟨hR3.out,hBww⟩
theorem matched_calls:∀ (p:Tm),MatOk p
  | .mk k v nm g num den args=>matched_step k v nm g num den args fun T' hT'=>matched_calls T'
termination_by T=>SizeOf.sizeOf T
decreasing_by
  simp_wf
  have:=List.sizeOf_lt_of_mem hT'
  omega
end Go.Proofs.YtaloeffmigffaaaGreatDoor
end
