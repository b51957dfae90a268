/-
  A part of the proof of the card of WorkGeneralizationIsLeast (second form): lemmas that the text Card uses. No condition of its own.
-/
import Derived.Test.YtaloeffmigffaaaGreatDoorFaultA
set_option linter.all false
set_option linter.unusedVariables false
set_option linter.unusedSimpArgs false
section
namespace Go.Proofs.YtaloeffmigffaaaGreatDoor
open Go.RowKit Go.Big
set_option maxRecDepth 100000 in
set_option maxHeartbeats 2000000 in
theorem sizedE_calls:∀ (T:Tm) (n:Nat) (w:World) (vs:List Value) (k:Nat),TmV n w T vs → n ≤ w.heap.size → k < 1000000 →
    Calls Tryz.prog 109 #[.agg vs.toArray,.int .i64 k] w fun e w'=>∃ r:Nat,e = .returned (.int .i64 r) ∧ Aside (r = min (k + T.nodes) 1000000) ∧ Below w.heap.size w w'
  | .mk kk v nm g num den args,n,w,vs,k,h,hn,hk=>by
    have ih:∀ T' ∈ args,∀ (n:Nat) (w:World) (vs:List Value) (k:Nat),TmV n w T' vs → n ≤ w.heap.size → k < 1000000 →
        Calls Tryz.prog 109 #[.agg vs.toArray,.int .i64 k] w fun e w'=>∃ r:Nat,e = .returned (.int .i64 r) ∧ Aside (r = min (k + T'.nodes) 1000000) ∧ Below w.heap.size w w':=fun T' hT'=>sizedE_calls T'
    simp only [TmV] at h
    obtain ⟨s1,s2,a,c,rfl,h1,h2,hbig,_,_⟩:=h
    obtain ⟨len,hl⟩:∃ len,args.length = len:=⟨_,rfl⟩
    rw [hl] at hbig ⊢
    have hwk:IntKind.i64.wrap ((k:Int) + 1) = (k:Int) + 1:=by rw [IntKind.wrap_i64];omega
    have Al:Aside (args.length = len):=hl
    have hbA:=below_alloc w (Obj.cells #[.int .i64 kk,.int .i64 v,.string nm,.bool g,s1,s2,.slice a len c] 27)
    clear hl h1
    show Calls Tryz.prog 109 #[.agg #[.int .i64 kk,.int .i64 v,.string nm,.bool g,s1,s2,.slice a len c],.int .i64 k] w _
    go_enter Tryz.func109,Tryz.ntmps109
    go_wp2
    go_loopw [1,12] (fun s1 s12 wr=>∃ (i r:Nat),s12 = .int .i64 i ∧ s1 = .int .i64 r ∧ i ≤ len ∧ Aside (r = min (k + 1 + Tm.nodesL (args.take i)) 1000000) ∧ Below w.heap.size w wr) (fun _ s _=>len - (intOf s).toNat)
    case atStart=>exact ⟨0,k + 1,rfl,by simp,Nat.zero_le _,(by show k + 1 = _;simp [Tm.nodesL];omega),hbA⟩
    case round=>
      obtain ⟨i,r,rfl,rfl,hi,hex,hB⟩:=hrel
      have hr:r ≤ 1000000:=by rw [hex.out];exact Nat.min_le_right _ _
      by_cases hlt:i < len
      · obtain ⟨T',hT'⟩:∃ T',args[i]? = some T':=⟨args[i]'(by rw [Al.out];exact hlt),List.getElem?_eq_getElem _⟩
        obtain ⟨b,off,vs',rfl,hbn,hc,hv⟩:=h2.get hT'
        have hv2:=hv
        have hnx:Aside (∀ r3:Nat,Aside (r3 = min (r + T'.nodes) 1000000) → r < 1000000 → r3 = min (k + 1 + Tm.nodesL (args.take (i + 1))) 1000000):=by
          show ∀ r3:Nat,_
          intro r3 h3 h4
          have h5:=h3.out
          have h6:=hex.out
          rw [nodesL_take hT'];omega
        have hlast:Aside (¬ r < 1000000 → 1000000 = min (k + Tm.nodes (.mk kk v nm g num den args)) 1000000):=by
          show ¬ r < 1000000 → _
          intro h4
          have h6:=hex.out
          have h7:=nodesL_take_le args i
          simp only [Tm.nodes];omega
        match T',hv with
        | .mk k' v' nm' g' num' den' args',hv=>
          simp only [TmV] at hv
          obtain ⟨t1,t2,a',c',rfl,⟨⟨p1,q1,rfl,_⟩,⟨p2,q2,rfl,_⟩⟩,_⟩:=hv
          have hb2:∀ p:Addr,p.block < n → wr.cell? p = w.cell? p:=fun p hp=>(hB.mono hn).cell hp
          rw [Nat.zero_add] at hc
          have x0:=(hb2 ⟨b,off + i * 7 + 0,none⟩ hbn).trans (hc 0 _ rfl)
          have x1:=(hb2 ⟨b,off + i * 7 + 1,none⟩ hbn).trans (hc 1 _ rfl)
          have x2:=(hb2 ⟨b,off + i * 7 + 2,none⟩ hbn).trans (hc 2 _ rfl)
          have x3:=(hb2 ⟨b,off + i * 7 + 3,none⟩ hbn).trans (hc 3 _ rfl)
          have x4:=(hb2 ⟨b,off + i * 7 + 4,none⟩ hbn).trans (hc 4 _ rfl)
          have x5:=(hb2 ⟨b,off + i * 7 + 5,none⟩ hbn).trans (hc 5 _ rfl)
          have x6:=(hb2 ⟨b,off + i * 7 + 6,none⟩ hbn).trans (hc 6 _ rfl)
          rw [Nat.add_zero] at x0
          have hi1:(i:Int) < (len:Int):=by omega
          have hi3:(0:Int) ≤ (i:Int):=by omega
          have hw3:IntKind.i64.wrap ((i:Int) + 1) = (i:Int) + 1:=by rw [IntKind.wrap_i64];omega
          have hB2:Below w.heap.size w (wr.alloc (Obj.cells #[.int .i64 k',.int .i64 v',.string nm',.bool g',.slice p1 num'.length q1,.slice p2 den'.length q2,.slice a' args'.length c'] 27)):=hB.alloc hB.size _
          by_cases hr2:r < 1000000
          · have hr3:¬ (1000000:Int) ≤ (r:Int):=by omega
            have d1:=ih _ (List.mem_of_getElem? hT') n (wr.alloc (Obj.cells #[.int .i64 k',.int .i64 v',.string nm',.bool g',.slice p1 num'.length q1,.slice p2 den'.length q2,.slice a' args'.length c'] 27)) _ r (TmV.below hB2 hn _ _ hv2) (Nat.le_trans hn hB2.size) hr2
            replace d1:Calls Tryz.prog 109 #[.agg #[.int .i64 k',.int .i64 v',.string nm',.bool g',.slice p1 num'.length q1,.slice p2 den'.length q2,.slice a' args'.length c'],.int .i64 r] _ _:=d1
            generalize args'.length = len' at *
            generalize num'.length = ln1 at *
            generalize den'.length = ln2 at *
            clear h2 ih hc hv2 hT' hb2
            go_wp2_with (go_at_call 109;with_reducible refine d1.mono ?_;rintro e w3 ⟨r3,rfl,hr5,hb3⟩)
            go_roundw
            case rel=>exact ⟨i + 1,r3,by simp,rfl,by omega,hnx.out r3 hr5 hr2,hB2.trans (hb3.mono hB2.size)⟩
            case measure=>simp [intOf];omega
          · have hr3:(1000000:Int) ≤ (r:Int):=by omega
            have hL:Aside (1000000 = min (k + Tm.nodes (.mk kk v nm g num den args)) 1000000):=hlast.out hr2
            generalize args'.length = len' at *
            generalize num'.length = ln1 at *
            generalize den'.length = ln2 at *
            clear h2 ih hc hv2 hT' hb2
            go_wp2
            go_ret
            exact ⟨1000000,rfl,hL.out,hB2⟩
      · obtain rfl:i = len:=by omega
        have hL:Aside (r = min (k + Tm.nodes (.mk kk v nm g num den args)) 1000000):=by
          show r = _
          have h6:=hex.out
          rw [← Al.out,List.take_length] at h6
          simp only [Tm.nodes];omega
        clear h2 ih
        go_wp2
        go_ret
        exact ⟨r,rfl,hL.out,hB⟩
termination_by T=>SizeOf.sizeOf T
decreasing_by
  simp_wf
  have:=List.sizeOf_lt_of_mem hT'
  omega
set_option maxRecDepth 100000 in
set_option maxHeartbeats 1000000 in
theorem sizeE_calls (T:Tm) (n:Nat) (w:World) (vs:List Value) (h:TmV n w T vs) (hn:n ≤ w.heap.size) :
    Calls Tryz.prog 49 #[.agg vs.toArray] w fun e w'=>∃ r:Nat,e = .returned (.int .i64 r) ∧ Aside (r = min T.nodes 1000000) ∧ Below w.heap.size w w':=by
  match T,h with
  | .mk kk v nm g num den args,h=>
    have h0:=h
    simp only [TmV] at h
    obtain ⟨s1,s2,a,c,rfl,⟨⟨p1,q1,rfl,_⟩,⟨p2,q2,rfl,_⟩⟩,_⟩:=h
    have hB:=below_alloc w (Obj.cells #[.int .i64 kk,.int .i64 v,.string nm,.bool g,.slice p1 num.length q1,.slice p2 den.length q2,.slice a args.length c] 27)
    have d1:=sizedE_calls _ n (w.alloc (Obj.cells #[.int .i64 kk,.int .i64 v,.string nm,.bool g,.slice p1 num.length q1,.slice p2 den.length q2,.slice a args.length c] 27)) _ 0 (TmV.below hB hn _ _ h0) (Nat.le_trans hn hB.size) (by omega)
    replace d1:Calls Tryz.prog 109 #[.agg #[.int .i64 kk,.int .i64 v,.string nm,.bool g,.slice p1 num.length q1,.slice p2 den.length q2,.slice a args.length c],.int .i64 0] _ _:=d1
    clear h0
    generalize args.length = l0 at *
    generalize num.length = l1 at *
    generalize den.length = l2 at *
    show Calls Tryz.prog 49 #[.agg #[.int .i64 kk,.int .i64 v,.string nm,.bool g,.slice p1 l1 q1,.slice p2 l2 q2,.slice a l0 c]] w _
    go_enter Tryz.func49,Tryz.ntmps49
    go_wp2_with (go_at_call 109;with_reducible refine d1.mono ?_;rintro e w3 ⟨r3,rfl,hr4,hb3⟩)
    go_ret
    exact ⟨r3,rfl,(by show r3 = _;rw [hr4.out,Nat.zero_add]),hB.trans (hb3.mono hB.size)⟩
set_option maxRecDepth 100000 in
set_option maxHeartbeats 1000000 in
theorem faultE_calls (T:Tm) (n:Nat) (w:World) (vs:List Value) (h:TmV n w T vs) (hn:n ≤ w.heap.size) :
    Calls Tryz.prog 19 #[.agg vs.toArray] w fun e w'=>e = .returned (.int .i64 T.faultE) ∧ Below w.heap.size w w':=by
  match T,h with
  | .mk kk v nm g num den args,h=>
    have h0:=h
    simp only [TmV] at h
    obtain ⟨s1,s2,a,c,rfl,⟨⟨p1,q1,rfl,_⟩,⟨p2,q2,rfl,_⟩⟩,_⟩:=h
    obtain ⟨T,hT⟩:∃ T,Tm.mk kk v nm g num den args = T:=⟨_,rfl⟩
    rw [hT] at h0 ⊢
    obtain ⟨l0,hl0⟩:∃ l0,args.length = l0:=⟨_,rfl⟩
    obtain ⟨l1,hl1⟩:∃ l1,num.length = l1:=⟨_,rfl⟩
    obtain ⟨l2,hl2⟩:∃ l2,den.length = l2:=⟨_,rfl⟩
    rw [hl0,hl1,hl2];rw [hl0,hl1,hl2] at h0
    have hB:=below_alloc w (Obj.cells #[.int .i64 kk,.int .i64 v,.string nm,.bool g,.slice p1 l1 q1,.slice p2 l2 q2,.slice a l0 c] 27)
    have hq:=heap_alloc_new w (Obj.cells #[.int .i64 kk,.int .i64 v,.string nm,.bool g,.slice p1 l1 q1,.slice p2 l2 q2,.slice a l0 c] 27)
    obtain ⟨wb,hwb⟩:∃ wb,w.alloc (Obj.cells #[.int .i64 kk,.int .i64 v,.string nm,.bool g,.slice p1 l1 q1,.slice p2 l2 q2,.slice a l0 c] 27) = wb:=⟨_,rfl⟩
    have hsz:w.heap.size + 1 ≤ wb.heap.size:=by rw [← hwb];simp
    rw [hwb] at hB hq
    have d1:=sizeE_calls _ n wb _ (TmV.below hB hn _ _ h0) (Nat.le_trans hn hB.size)
    have d2:=fun w' (hb:Below wb.heap.size wb w')=>nf_ok _ n w' _ (TmV.below hb (Nat.le_trans hn hB.size) _ _ (TmV.below hB hn _ _ h0)) (Nat.le_trans (Nat.le_trans hn hB.size) hb.size)
    replace d1:Calls Tryz.prog 49 #[.agg #[.int .i64 kk,.int .i64 v,.string nm,.bool g,.slice p1 l1 q1,.slice p2 l2 q2,.slice a l0 c]] _ _:=d1
    replace d2:∀ w',Below wb.heap.size wb w' → Calls Tryz.prog 50 #[.agg #[.int .i64 kk,.int .i64 v,.string nm,.bool g,.slice p1 l1 q1,.slice p2 l2 q2,.slice a l0 c]] w' fun e w''=>e = .returned (.int .i64 T.errE) ∧ Below w'.heap.size w' w'':=d2
    have fc:∀ w2,Below wb.heap.size wb w2 → _:=fun w2 hb=>cells7 ((hb.block w.heap.size (by omega)).trans hq)
    obtain ⟨x0,x1,x2,x3,x4,x5,x6⟩:=fc wb (Below.refl _ _)
    show Calls Tryz.prog 19 #[.agg #[.int .i64 kk,.int .i64 v,.string nm,.bool g,.slice p1 l1 q1,.slice p2 l2 q2,.slice a l0 c]] w fun e w'=>e = .returned (.int .i64 T.faultE) ∧ Below w.heap.size w w'
    clear hl0 hl1 hl2 h0 hq hT
    have hN:Aside (T.faultE = if 10000 < T.nodes then 3 else T.errE):=rfl
    by_cases hbig:10000 < T.nodes
    · have hE:Aside (T.faultE = 3):=by show _ = _;rw [hN.out,if_pos hbig]
      go_enter Tryz.func19,Tryz.ntmps19
      go_wp2_with first | (go_at_call 49;(with_reducible refine d1.mono ?_);rintro e w1 ⟨r1,rfl,hr1,hb1⟩;have hr2:(10000:Int) < (r1:Int):=(by have:=hr1.out;omega))
      go_ret
      rw [hE.out]
      exact ⟨rfl,hB.trans (hb1.mono hB.size)⟩
    · have hE:Aside (T.faultE = T.errE):=by show _ = _;rw [hN.out,if_neg hbig]
      go_enter Tryz.func19,Tryz.ntmps19
      go_wp2_with first | (go_at_call 49;(with_reducible refine d1.mono ?_);rintro e w1 ⟨r1,rfl,hr1,hb1⟩;have hr2:(r1:Int) ≤ 10000:=(by have:=hr1.out;omega);obtain ⟨y0,y1,y2,y3,y4,y5,y6⟩:=fc _ hb1;have d3:=d2 _ hb1) | (go_at_call 50;(with_reducible refine d3.mono ?_);rintro e w2 ⟨rfl,hb2⟩)
      go_ret
      rw [hE.out]
      exact ⟨rfl,hB.trans ((hb1.trans (hb2.mono hb1.size)).mono hB.size)⟩
end Go.Proofs.YtaloeffmigffaaaGreatDoor
end
