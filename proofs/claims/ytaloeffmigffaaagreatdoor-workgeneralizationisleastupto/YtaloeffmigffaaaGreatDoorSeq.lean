/-
  A part of the proof of the card of WorkGeneralizationIsLeast (second form): lemmas that the text Card uses. No condition of its own.
-/
import Derived.Test.YtaloeffmigffaaaGreatDoorEv09
import Derived.Shelf.SlIterI.Collect
import Derived.Test.YtaloeffmigffaaaGreatDoorProg
import Derived.RangeFuncBox
import Derived.RangeFuncLeaves
import Derived.Shelf.Abstract
import Derived.WalkKit
import Derived.OwnWalkIn
import Derived.TacticsInMore
import Derived.LoopNIn
import Derived.LoopIn
set_option linter.all false
set_option linter.unusedVariables false
set_option linter.unusedSimpArgs false
section
namespace Go.Proofs
open Go.Shelf
def Tryz.apL_ren:Go.Shelf.Ren:=⟨fun | 11=>298 | n=>n,fun | 24=>41 | 26=>3 | 28=>287 | 0=>0 | 33=>118 | 4=>4 | n=>n,fun | n=>n⟩
theorem Tryz.apL:Go.Proofs.SlLaysZI.n11 Tryz.prog Tryz.apL_ren:={
  mixed:=by kernel_rfl
  f11:=⟨Tryz.f298.name,by decide,Tryz.func298.trans (congrArg some (by kernel_rfl))⟩
  t0:=Tryz.underlying0
  a0:=Tryz.isAgg0
  z0:=Tryz.sizeOf0
  v0:=Tryz.zeroValue0
  t24:=Tryz.underlying41
  a24:=Tryz.isAgg41
  z24:=Tryz.sizeOf41
  v24:=Tryz.zeroValue41
  t26:=Tryz.underlying3
  a26:=Tryz.isAgg3
  z26:=Tryz.sizeOf3
  v26:=Tryz.zeroValue3
  t28:=Tryz.underlying287
  a28:=Tryz.isAgg287
  z28:=Tryz.sizeOf287
  v28:=Tryz.zeroValue287
  i26:=by kernel_rfl }
end Go.Proofs
end
section
namespace Go.Proofs
open Go.RowKit Go.Maps Go.Sort Go.Shelf
attribute [local go_sem] Oper.semAt_some
def Tryz.upto {α:Type} (f:Nat → α) (k:Nat):List α:=(List.range k).map f
theorem Tryz.upto_succ {α:Type} (f:Nat → α) (k:Nat):Tryz.upto f (k + 1) = Tryz.upto f k ++ [f k]:=by simp [Tryz.upto,List.range_succ]
theorem Tryz.upto_length {α:Type} (f:Nat → α) (k:Nat):(Tryz.upto f k).length = k:=by simp [Tryz.upto]
theorem Tryz.upto_all (zs:List Int):Tryz.upto (fun j=>zs[j]?.getD 0) zs.length = zs:=by
  apply List.ext_getElem
  · simp [Tryz.upto]
  · intro i h1 h2
    simp [Tryz.upto,h2]
set_option maxRecDepth 100000 in
set_option maxHeartbeats 2000000 in
theorem Tryz.values1_in (F:Fence) (n:Nat) (h7:F.fn 276) (hro:F.round = none) (hn:1 ≤ n) (l Bs oB b off len cap:Nat) (zs:List Int) (hreach:len * 8 ≤ 140737488351232) (J:List Int → World → Prop)
    (hY:∀ pre x W,J pre W → pre.length < len → YieldAt F (n - 1) Tryz.prog l #[.int .i64 x] W fun e W'=>
      e = .returned (.bool true) ∧ J (pre ++ [x]) W' ∧ KeepsWalks W W')
    (W:World) (hBs:W.cell? ⟨Bs,oB,none⟩ = some (.slice (some ⟨b,off,none⟩) len cap)) (hc:∀ pre W,J pre W → ∀ j,j < len → W.cell? ⟨b,off + j,none⟩ = some (.int .i64 (zs[j]?.getD 0))) (h0:J [] W) :
    CallsIn F n Tryz.prog 276 #[.func (.yield l) #[] #[],.pointer (some ⟨Bs,oB,none⟩)] W fun e W'=>(∃ v,e = .returned v) ∧
      J (Tryz.upto (fun j=>zs[j]?.getD 0) len) W':=by
  refine callsIn_of_wp Tryz.func276 rfl h7 ?_ hro
  simp only [Tryz.ntmps276,List.size_toArray,List.length_cons,List.length_nil,Nat.reduceAdd,Nat.reduceSub,Array.replicate_succ,Array.replicate_zero,List.push_toArray,List.append_toArray,List.nil_append,List.cons_append]
  gi_wp2
  gi_loopw [7] (fun i wr=>∃ k:Nat,k ≤ len ∧ i = .int .i64 k ∧ J (Tryz.upto (fun j=>zs[j]?.getD 0) k) wr)
    (fun i _=>len - (Go.RowKit.intOf i).toNat)
  case atStart=>exact ⟨0,Nat.zero_le _,rfl,h0⟩
  case round=>
    obtain ⟨k,hk,rfl,hJs⟩:=hrel
    have hcx:=hc _ _ hJs
    by_cases hlt:k < len
    · obtain ⟨fn,tmps,assign,body,hy,hR⟩:=hY _ (zs[k]?.getD 0) wr hJs (by rw [Tryz.upto_length];exact hlt)
      have hcx':=hcx k hlt
      gi_wp2
      refine hR.mono ?_
      rintro e W3 ⟨rfl,hJ3,hk3⟩
      gi_wp2
      go_roundw
      case rel=>exact ⟨k + 1,by omega,by simp,by rw [Tryz.upto_succ];exact hJ3⟩
      case measure=>simp [Go.RowKit.intOf];omega
    · obtain rfl:k = len:=by omega
      gi_wp2
      go_end0
      exact ⟨⟨_,rfl⟩,hJs⟩
end Go.Proofs
end
section
namespace Go.Proofs
open Go.RowKit Go.Maps Go.Sort Go.Shelf
attribute [local go_sem] Oper.semAt_some
variable {P:Program} {ρ:Ren}
set_option maxRecDepth 100000 in
set_option maxHeartbeats 2000000 in
theorem AnyZI.appendSeqAt_in (L:SlLaysZI.n11 P ρ) (F:Fence) (n:Nat) (h11:F.fn (ρ.f 11)) (hro:F.round = none) (hn:2 ≤ n) (g:Nat) (lb:Array Value) (hFg:F.fn g) (eg:∀ args w,(callFunc g args).run P w = .ok (.enter g args) w)
    (S:List Int → Prop) (N:Nat) (hN:N ≤ maxLen) (hNb:N * 8 ≤ 140737488355328) (w:World)
    (hseq:∀ (l fn D:Nat) (W:World),(∀ pre x W1,AnyZI.ApAt ρ w fn (.func (.func g) #[] lb) w.heap.size l D pre W1 → pre.length < N → YieldAt F (n - 1 - 1) P l #[encZ x] W1 fun e W'=>e = .returned (.bool true) ∧ AnyZI.ApAt ρ w fn (.func (.func g) #[] lb) w.heap.size l D (pre ++ [x]) W' ∧ KeepsWalks W1 W') →
      AnyZI.ApAt ρ w fn (.func (.func g) #[] lb) w.heap.size l D [] W →
      CallsIn F (n - 1) P g (#[.func (.yield l) #[] #[]] ++ lb) W fun e W'=>(∃ v,e = .returned v) ∧ ∃ xs,S xs ∧ AnyZI.ApAt ρ w fn (.func (.func g) #[] lb) w.heap.size l D xs W') :
    CallsIn F n P (ρ.f 11) #[.slice none 0 0,.func (.func g) #[] lb] w fun e w'=>∃ (v:Value) (ss:List Int),e = .returned v ∧ S ss ∧ w'.ownsRow w.heap.size (ρ.t 26) 1 v ss.length (ss.map encZ) ∧ (v = .slice none 0 0 ↔ ss = []) ∧ Below w.heap.size w w':=by
  have h1:1 ≤ n:=by omega
  have mixed:=L.mixed;have t0:=L.t0;have a0:=L.a0;have z0:=L.z0;have v0:=L.v0;have t24:=L.t24;have a24:=L.a24;have z24:=L.z24;have v24:=L.v24;have t26:=L.t26;have a26:=L.a26;have z26:=L.z26;have v26:=L.v26;have t28:=L.t28;have a28:=L.a28;have z28:=L.z28;have v28:=L.v28
  have hne:ρ.t 24 ≠ ρ.t 26:=fun e=>by have h:=L.t24;rw [e,L.t26] at h;cases h
  have u0:=run_underlying L.t0;have u24:=run_underlying L.t24;have u26:=run_underlying L.t26;have u28:=run_underlying L.t28
  obtain ⟨_,_,FG⟩:=L.f11
  refine callsIn_of_wp_marks FG rfl h11 ?_ hro
  simp only [SlBodyZ.n11_ntmps ρ,List.size_toArray,List.length_cons,List.length_nil,Nat.reduceAdd,Nat.reduceSub,Array.replicate_succ,Array.replicate_zero,List.push_toArray,List.append_toArray,List.nil_append,List.cons_append]
  gi_wp2
  refine wpIn_rangeFunc ?_
  intro fn hfn
  rw [hro]
  obtain ⟨W0,hW0⟩:∃ W0,w.alloc (.cells #[.slice none 0 0] (ρ.t 24)) = W0:=⟨_,rfl⟩
  have hs0:W0.heap.size = w.heap.size + 1:=by rw [← hW0];simp
  have hv0:W0.heap[w.heap.size]? = some (.cells #[.slice none 0 0] (ρ.t 24) (0,0)):=by rw [← hW0];exact World.alloc_heap_new w _
  have hb0:Below w.heap.size w W0:=by rw [← hW0];exact (Below.refl _ w).alloc (Nat.le_refl _) _
  rw [hW0]
  obtain ⟨W1,hW1⟩:∃ W1,(W0.alloc (.deferred (some []))).alloc (.loop (AnyZI.apRec ρ fn (.func (.func g) #[] lb) w.heap.size W0.heap.size .ready none)) = W1:=⟨_,rfl⟩
  have hold:∀ k,k < W0.heap.size → W1.heap[k]? = W0.heap[k]?:=fun k hk=>by
    rw [← hW1];exact (Below.heap_alloc _ _ k (by simp;omega)).trans (Below.heap_alloc _ _ k hk)
  have hb1:Below w.heap.size w W1:=by rw [← hW1];exact (hb0.alloc hb0.size _).alloc (by have:=hb0.size;simp;omega) _
  have hs1:W1.heap.size = W0.heap.size + 2:=by rw [← hW1];simp
  have hM:AnyZI.ApAt ρ w fn (.func (.func g) #[] lb) w.heap.size (W0.heap.size + 1) W0.heap.size [] W1:=
    ⟨⟨_,(hold w.heap.size (by omega)).trans hv0,⟨rfl,.inl ⟨rfl,rfl⟩⟩,by simp⟩,
     by rw [← hW1];have:=World.alloc_heap_new (W0.alloc (.deferred (some []))) (.loop (AnyZI.apRec ρ fn (.func (.func g) #[] lb) w.heap.size W0.heap.size .ready none));rwa [World.size_alloc] at this,
     by rw [← hW1];exact (Below.heap_alloc _ _ _ (by simp)).trans (World.alloc_heap_new W0 _),hb1⟩
  refine ⟨W0.heap.size + 1,[{ target:=.collected W0.heap.size,args:=#[] }],W1,{ target:=.fn (.func g) lb,args:=#[.func (.yield (W0.heap.size + 1)) #[] #[]] },W1,g,
    #[.func (.yield (W0.heap.size + 1)) #[] #[]] ++ lb,W1,?_,?_,?_,?_,fun _=>h1,?_⟩
  · rw [← hW1];exact run_enterLoop_outer _ _ _ _ _
  · simp [resolve,go_sem]
  · intro f' hf';simp [Target.leads] at hf';subst hf';exact hFg
  · simp [invoke,go_sem,eg]
  · refine (hseq (W0.heap.size + 1) fn W0.heap.size W1
      (fun pre x W hJ hl=>AnyZI.apYield { L with } F (n - 1 - 1) w fn hfn _ w.heap.size (W0.heap.size + 1) W0.heap.size (by omega) (by omega) (by omega) (Nat.le_refl _) (by omega) N hN hNb pre x W hJ hl) hM).mono ?_
    rintro e W2 ⟨⟨v0,rfl⟩,ss,hS,h2⟩
    obtain ⟨v,hv,hrow,hnil⟩:=h2.box
    have hend:=run_endLoop (P:=P) h2.L (by simp [AnyZI.apRec])
    obtain ⟨W3,hW3⟩:∃ W3,W2.putObj (W0.heap.size + 1) (.loop { AnyZI.apRec ρ fn (.func (.func g) #[] lb) w.heap.size W0.heap.size .ready none with state:=.exhausted }) = W3:=⟨_,rfl⟩
    rw [hW3] at hend
    have hg3:W2.grownBy W3 (some (W0.heap.size + 1)):=by rw [← hW3];exact grownBy_putObj_a _ _ _
    have hv3:W3.heap[w.heap.size]? = some (.cells #[v] (ρ.t 24) (0,0)):=by rw [← hW3];exact (World.putObj_heap_other (by omega)).trans hv
    have hK3:W3.heap[W0.heap.size]? = some (.deferred (some [])):=by rw [← hW3];exact (World.putObj_heap_other (by omega)).trans h2.K
    have hrow3:=hrow.kept hg3 (ownsRow_ne_a hrow h2.L (fun cur e=>by first | cases e | exact hne (Obj.cells.inj e).2.1))
    have hb3:Below w.heap.size w W3:=h2.below.grown hg3 h2.below.size (fun k e=>by cases e;omega)
    obtain ⟨hc3,hf3⟩:=cell_of_box_a hv3
    clear hW3
    refine ⟨none,W3,hend,?_⟩
    gi_wp2
    rw [← hs0]
    refine ⟨by simp,.inl ⟨_,_,rfl,run_takeDeferred hK3,?_⟩⟩
    exact ⟨_,results_tmp rfl _ _ _,v,ss,rfl,hS,hrow3.kept (grownBy_putObj_a _ _ _) (ownsRow_ne_a hrow3 hK3 (fun cur e=>by first | cases e | exact hne (Obj.cells.inj e).2.1)),hnil,hb3.grown (grownBy_putObj_a _ _ _) hb3.size (fun k e=>by cases e;omega)⟩
end Go.Proofs
end
section
namespace Go.Proofs
open Go.RowKit Go.Maps Go.Sort Go.Shelf
theorem Tryz.e276:∀ args w,(callFunc 276 args).run Tryz.prog w = .ok (.enter 276 args) w:=enters_of Tryz.func276 (by kernel_rfl) rfl
theorem Tryz.e298:∀ args w,(callFunc 298 args).run Tryz.prog w = .ok (.enter 298 args) w:=enters_of Tryz.func298 (by kernel_rfl) rfl
set_option maxRecDepth 100000 in
theorem Tryz.appendValues (w:World) (Bs oB b off cap:Nat) (zs:List Int) (hreach:zs.length * 8 ≤ 140737488351232) (hB:Bs < w.heap.size) (hb:b < w.heap.size)
    (hBs:w.cell? ⟨Bs,oB,none⟩ = some (.slice (some ⟨b,off,none⟩) zs.length cap)) (hc:∀ j,j < zs.length → w.cell? ⟨b,off + j,none⟩ = some (.int .i64 (zs[j]?.getD 0))) :
    Calls Tryz.prog 298 #[.slice none 0 0,.func (.func 276) #[] #[.pointer (some ⟨Bs,oB,none⟩)]] w fun e w'=>∃ v:Value,e = .returned v ∧ w'.ownsRow w.heap.size 3 1 v zs.length (zs.map encZ) ∧ (v = .slice none 0 0 ↔ zs = []) ∧ Below w.heap.size w w':=by
  have main:=AnyZI.appendSeqAt_in Tryz.apL Fence.wide 3 trivial rfl (by decide) 276 #[.pointer (some ⟨Bs,oB,none⟩)] trivial Tryz.e276 (fun ss=>ss = zs) zs.length (by unfold maxLen;omega) (by omega) w ?_
  · refine (callsIn_wide.1 main).mono ?_
    rintro e w' ⟨v,ss,rfl,rfl,h1,h2,h3⟩
    exact ⟨v,rfl,h1,h2,h3⟩
  · intro l fn D W hY h0
    refine (Tryz.values1_in Fence.wide (3 - 1) trivial rfl (by decide) l Bs oB b off zs.length cap zs hreach (AnyZI.ApAt Tryz.apL_ren w fn (.func (.func 276) #[] #[.pointer (some ⟨Bs,oB,none⟩)]) w.heap.size l D) hY W ?_ ?_ h0).mono ?_
    · exact (h0.below.cell (p:=⟨Bs,oB,none⟩) hB).trans hBs
    · intro pre W' hJ j hj
      exact (hJ.below.cell (p:=⟨b,off + j,none⟩) hb).trans (hc j hj)
    · rintro e W' ⟨h1,h2⟩
      exact ⟨h1,zs,rfl,by rw [Tryz.upto_all] at h2;exact h2⟩
theorem Tryz.seqDoes:Ev.SeqDoes Tryz.prog 298 276 3:=
  ⟨Tryz.e298,fun w Bs oB b off cap zs hl hB hb hBs hc=>Tryz.appendValues w Bs oB b off cap zs (by omega) hB hb hBs hc⟩
end Go.Proofs
end
