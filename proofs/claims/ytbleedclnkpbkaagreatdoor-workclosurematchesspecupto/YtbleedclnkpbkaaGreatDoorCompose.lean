/-
  A part of the proof of the card of WorkClosureMatchesSpec (second form): lemmas that the text Card uses. No condition of its own.
-/
import Derived.Test.YtbleedclnkpbkaaGreatDoorComp
set_option linter.all false
set_option linter.unusedVariables false
set_option linter.unusedSimpArgs false
section
namespace Go.Proofs.YtbleedclnkpbkaaGreatDoor
open Go.RowKit Go.Sort
theorem results_row_tmp2 {P : Program} {fn : Func} {p u v : Tmp} {ty : TypeId} (h : fn.results = #[.cell p ty, .tmp u, .tmp v]) (tmps : Array Value) (w : World) (g : Nat) (t : TypeId) (cs : Array Value) (fr : Nat × Nat) (d : TypeDesc)
    (hp : tmps.getD p undef = .pointer (some ⟨g, 0, none⟩)) (hg : w.heap[g]? = some (.cells cs t fr))
    (hu : P.underlying ty = some d) (hd : (match d with | .struct _ | .array _ _ => true | _ => false) = true) (hi : (P.info? ty).map (·.size) = some cs.size) :
    (results fn tmps).run P w = .ok (.tuple #[.agg cs, tmps.getD u undef, tmps.getD v undef]) w := by
  have hp' : tmps[p]?.getD undef = .pointer (some ⟨g, 0, none⟩) := by simpa using hp
  simp [results, h, hp', asAddr, Sem.run_bind, Result.andThen, run_loadVar_row w g t ty cs fr d hg hu hd hi]
/-- Compose's own blocks -/
structure CW (n0 : Nat) (f1 t1 f2 t2 : Int) (s1 s2 : Value) (wb : World) : Prop where
  b0 : wb.heap[n0]? = some (.cells #[.int .i64 f1, .int .i64 t1, s1] 25 (0, 0))
  b1 : wb.heap[n0 + 1]? = some (.cells #[.int .i64 f2, .int .i64 t2, s2] 25 (0, 0))
  b2 : wb.heap[n0 + 1 + 1]? = some (.cells #[.int .i64 0, .int .i64 0, .slice none 0 0] 25 (0, 0))
  b3 : wb.heap[n0 + 1 + 1 + 1]? = some (.cells #[.int .i64 f1, .int .i64 t1, s1, .int .i64 f2, .int .i64 t2, s2] 25 (0, 0))
theorem CW.below {n0 : Nat} {f1 t1 f2 t2 : Int} {s1 s2 : Value} {wb wr : World} (h : CW n0 f1 t1 f2 t2 s1 s2 wb) (hb : Below (n0 + 4) wb wr) : CW n0 f1 t1 f2 t2 s1 s2 wr :=
  ⟨(hb.block _ (by omega)).trans h.b0, (hb.block _ (by omega)).trans h.b1, (hb.block _ (by omega)).trans h.b2, (hb.block _ (by omega)).trans h.b3⟩
theorem CW.arr {n0 : Nat} {f1 t1 f2 t2 : Int} {s1 s2 : Value} {w : World} (h : CW n0 f1 t1 f2 t2 s1 s2 w) :
    w.cell? ⟨n0 + 1 + 1 + 1, 0, none⟩ = some (.int .i64 f1) ∧ w.cell? ⟨n0 + 1 + 1 + 1, 1, none⟩ = some (.int .i64 t1) ∧ w.cell? ⟨n0 + 1 + 1 + 1, 2, none⟩ = some s1 ∧
    w.cell? ⟨n0 + 1 + 1 + 1, 3, none⟩ = some (.int .i64 f2) ∧ w.cell? ⟨n0 + 1 + 1 + 1, 4, none⟩ = some (.int .i64 t2) ∧ w.cell? ⟨n0 + 1 + 1 + 1, 5, none⟩ = some s2 := by
  simp [World.cell?, h.b3]
theorem CW.args {n0 : Nat} {f1 t1 f2 t2 : Int} {s1 s2 : Value} {w : World} (h : CW n0 f1 t1 f2 t2 s1 s2 w) :
    w.cell? ⟨n0, 0, none⟩ = some (.int .i64 f1) ∧ w.cell? ⟨n0, 1, none⟩ = some (.int .i64 t1) ∧ w.cell? ⟨n0, 2, none⟩ = some s1 ∧
    w.cell? ⟨n0 + 1, 0, none⟩ = some (.int .i64 f2) ∧ w.cell? ⟨n0 + 1, 1, none⟩ = some (.int .i64 t2) ∧ w.cell? ⟨n0 + 1, 2, none⟩ = some s2 := by
  simp [World.cell?, h.b0, h.b1]
theorem CW.res {n0 : Nat} {f1 t1 f2 t2 : Int} {s1 s2 : Value} {w : World} (h : CW n0 f1 t1 f2 t2 s1 s2 w) :
    w.cell? ⟨n0 + 1 + 1, 0, none⟩ = some (.int .i64 0) ∧ w.cell? ⟨n0 + 1 + 1, 1, none⟩ = some (.int .i64 0) ∧ w.cell? ⟨n0 + 1 + 1, 2, none⟩ = some (.slice none 0 0) ∧
    w.frozen? ⟨n0 + 1 + 1, 0, none⟩ = false ∧ w.frozen? ⟨n0 + 1 + 1, 1, none⟩ = false ∧ w.frozen? ⟨n0 + 1 + 1, 2, none⟩ = false := by
  simp [World.cell?, World.frozen?, h.b2]
theorem CW.start (f1 t1 f2 t2 : Int) (s1 s2 : Value) (w : World) : CW w.heap.size f1 t1 f2 t2 s1 s2 ((((w.alloc (Obj.cells #[.int .i64 f1, .int .i64 t1, s1] 25)).alloc (Obj.cells #[.int .i64 f2, .int .i64 t2, s2] 25)).alloc (Obj.cells #[.int .i64 0, .int .i64 0, .slice none 0 0] 25)).alloc (Obj.cells #[.int .i64 f1, .int .i64 t1, s1, .int .i64 f2, .int .i64 t2, s2] 25)) := by
  have a : ∀ (o1 o2 o3 o4 : Obj), ((((w.alloc o1).alloc o2).alloc o3).alloc o4).heap[w.heap.size]? = some o1 ∧ ((((w.alloc o1).alloc o2).alloc o3).alloc o4).heap[w.heap.size + 1]? = some o2 ∧
      ((((w.alloc o1).alloc o2).alloc o3).alloc o4).heap[w.heap.size + 1 + 1]? = some o3 ∧ ((((w.alloc o1).alloc o2).alloc o3).alloc o4).heap[w.heap.size + 1 + 1 + 1]? = some o4 := by
    intro o1 o2 o3 o4
    have s1 : (w.alloc o1).heap.size = w.heap.size + 1 := World.size_alloc _ _
    have s2 : ((w.alloc o1).alloc o2).heap.size = w.heap.size + 1 + 1 := by rw [World.size_alloc, s1]
    have s3 : (((w.alloc o1).alloc o2).alloc o3).heap.size = w.heap.size + 1 + 1 + 1 := by rw [World.size_alloc, s2]
    have n1 := heap_alloc_new w o1
    have n2 := heap_alloc_new (w.alloc o1) o2
    have n3 := heap_alloc_new ((w.alloc o1).alloc o2) o3
    have n4 := heap_alloc_new (((w.alloc o1).alloc o2).alloc o3) o4
    rw [s1] at n2
    rw [s2] at n3
    rw [s3] at n4
    refine ⟨?_, ?_, ?_, n4⟩
    · rw [Below.heap_alloc _ _ _ (by omega), Below.heap_alloc _ _ _ (by omega), Below.heap_alloc _ _ _ (by omega)]; exact n1
    · rw [Below.heap_alloc _ _ _ (by omega), Below.heap_alloc _ _ _ (by omega)]; exact n2
    · rw [Below.heap_alloc _ _ _ (by omega)]; exact n3
  obtain ⟨a0, a1, a2, a3⟩ := a (Obj.cells #[.int .i64 f1, .int .i64 t1, s1] 25) (Obj.cells #[.int .i64 f2, .int .i64 t2, s2] 25) (Obj.cells #[.int .i64 0, .int .i64 0, .slice none 0 0] 25) (Obj.cells #[.int .i64 f1, .int .i64 t1, s1, .int .i64 f2, .int .i64 t2, s2] 25)
  exact ⟨a0, a1, a2, a3⟩
end Go.Proofs.YtbleedclnkpbkaaGreatDoor
end
section
namespace Go.Proofs.YtbleedclnkpbkaaGreatDoor
open Go.RowKit Go.Sort
/-- what Compose answers -/
def ComposeSays (f1 t1 f2 t2 : Int) (A B : List Lk) (w : World) (e : Ending) (w' : World) : Prop :=
      ((∃ sv L, e = .returned (.tuple #[.agg #[.int .i64 f1, .int .i64 t2, sv], .bool true, .int .i64 0]) ∧ goodG f1 t1 A ∧ goodG f2 t2 B ∧ t1 = f2 ∧ LinksAt w'.heap.size w' sv L ∧ IsComp A B L) ∨
       (∃ c, e = .returned (.tuple #[.agg #[.int .i64 0, .int .i64 0, .slice none 0 0], .bool false, .int .i64 c]) ∧ ((c = 0 ∧ goodG f1 t1 A ∧ goodG f2 t2 B ∧ t1 ≠ f2) ∨ (c = 2 ∧ ¬ (goodG f1 t1 A ∧ goodG f2 t2 B))))) ∧ Below w.heap.size w w'
set_option maxRecDepth 100000 in
set_option maxHeartbeats 1600000 in
theorem Compose_calls (F T : List Int) (hFT : F.length * T.length ≤ 2199023255552) (f1 t1 f2 t2 : Int) (a1 a2 : Option Addr) (cap1 cap2 len1 len2 n : Nat) (A B : List Lk) (hF : ∀ a ∈ A, a.f ∈ F) (hT : ∀ b ∈ B, b.t ∈ T) (hl1 : A.length = len1) (hl2 : B.length = len2) (w : World) (hn : n ≤ w.heap.size) (h1 : LinksAt n w (.slice a1 len1 cap1) A) (h2 : LinksAt n w (.slice a2 len2 cap2) B) :
    Calls Tryz.prog 8 #[.agg #[.int .i64 f1, .int .i64 t1, .slice a1 len1 cap1], .agg #[.int .i64 f2, .int .i64 t2, .slice a2 len2 cap2]] w fun e w' =>
      ComposeSays f1 t1 f2 t2 A B w e w' := by
  have hbig1 : len1 < 4611686018427387904 := by obtain ⟨_, _, _, h, _⟩ := h1; omega
  have hbig2 : len2 < 4611686018427387904 := by obtain ⟨_, _, _, h, _⟩ := h2; omega
  go_enter Tryz.func8, Tryz.ntmps8
  go_wp2
  have cw0 := CW.start f1 t1 f2 t2 (.slice a1 len1 cap1) (.slice a2 len2 cap2) w
  obtain ⟨wb, hwb⟩ : ∃ wb, (((w.alloc (Obj.cells #[.int .i64 f1, .int .i64 t1, .slice a1 len1 cap1] 25)).alloc (Obj.cells #[.int .i64 f2, .int .i64 t2, .slice a2 len2 cap2] 25)).alloc (Obj.cells #[.int .i64 0, .int .i64 0, .slice none 0 0] 25)).alloc (Obj.cells #[.int .i64 f1, .int .i64 t1, .slice a1 len1 cap1, .int .i64 f2, .int .i64 t2, .slice a2 len2 cap2] 25) = wb := ⟨_, rfl⟩
  have b0 : Below w.heap.size w wb := by rw [← hwb]; exact ((below_alloc2 _ _ _).alloc (by simp; omega) _).alloc (by simp; omega) _
  have hsz : wb.heap.size = w.heap.size + 4 := by rw [← hwb]; simp
  rw [hwb] at cw0 ⊢
  clear hwb
  go_loopw [14] (fun i wr => Below (w.heap.size + 4) wb wr ∧ (i = .int .i64 0 ∨ (i = .int .i64 1 ∧ goodG f1 t1 A) ∨ (i = .int .i64 2 ∧ goodG f1 t1 A ∧ goodG f2 t2 B))) (fun i _ => 2 - (intOf i).toNat)
  case atStart => exact ⟨Below.refl _ _, .inl rfl⟩
  case round =>
    obtain ⟨hB, hi⟩ := hrel
    have hsr := hB.size
    have bw : Below w.heap.size w wr := b0.trans (hB.mono (by omega))
    have cw := cw0.below hB
    obtain ⟨k0, k1, k2, k3, k4, k5⟩ := cw.arr
    have g1 := h1.below (bw.mono hn)
    have g2 := h2.below (bw.mono hn)
    rcases hi with rfl | ⟨rfl, hgA⟩ | ⟨rfl, hgA, hgB⟩
    · have bwa : Below n wr (wr.alloc (Obj.cells #[.int .i64 f1, .int .i64 t1, .slice a1 len1 cap1] 25)) := (below_alloc wr _).mono (by omega)
      have gc := graphFault_calls f1 t1 a1 cap1 len1 n A hl1 (wr.alloc (Obj.cells #[.int .i64 f1, .int .i64 t1, .slice a1 len1 cap1] 25)) (by rw [World.size_alloc]; omega) (g1.below bwa)
      rw [World.size_alloc] at gc
      clear g1 g2 h1 h2
      go_wp2_with (go_at_call 12; refine gc.mono ?_; rintro e w' ⟨hor, hb⟩; have hb4 : Below (w.heap.size + 4) wb w' := hB.trans (((below_alloc wr _).mono (by omega)).trans (hb.mono (by omega))); obtain ⟨r0, r1, r2, r3, r4, r5⟩ := (cw0.below hb4).res; rcases hor with ⟨rfl, hg⟩ | ⟨rfl, hg⟩)
      · exact ⟨⟨hb4, .inr (.inl ⟨rfl, hg⟩)⟩, by simp [intOf]⟩
      · have hr := put3_block (a := .int .i64 0) (b := .int .i64 0) (c := .slice none 0 0) (cw0.below hb4).b2
        refine bodyPost_ret (results_row_tmp2 rfl _ _ (w.heap.size + 1 + 1) 25 _ _ _ rfl hr Tryz.underlying25 rfl (by kernel_rfl)) rfl ?_
        exact ⟨.inr ⟨_, rfl, .inr ⟨rfl, fun h => hg h.1⟩⟩, (b0.trans (hb4.mono (by omega))).trans ((below_put _ _ _ _ (by omega)).trans ((below_put _ _ _ _ (by omega)).trans (below_put _ _ _ _ (by omega))))⟩
    · have bwa : Below n wr (wr.alloc (Obj.cells #[.int .i64 f2, .int .i64 t2, .slice a2 len2 cap2] 25)) := (below_alloc wr _).mono (by omega)
      have gc := graphFault_calls f2 t2 a2 cap2 len2 n B hl2 (wr.alloc (Obj.cells #[.int .i64 f2, .int .i64 t2, .slice a2 len2 cap2] 25)) (by rw [World.size_alloc]; omega) (g2.below bwa)
      rw [World.size_alloc] at gc
      clear g1 g2 h1 h2
      go_wp2_with (go_at_call 12; refine gc.mono ?_; rintro e w' ⟨hor, hb⟩; have hb4 : Below (w.heap.size + 4) wb w' := hB.trans (((below_alloc wr _).mono (by omega)).trans (hb.mono (by omega))); obtain ⟨r0, r1, r2, r3, r4, r5⟩ := (cw0.below hb4).res; rcases hor with ⟨rfl, hg⟩ | ⟨rfl, hg⟩)
      · exact ⟨⟨hb4, .inr (.inr ⟨rfl, hgA, hg⟩)⟩, by simp [intOf]⟩
      · have hr := put3_block (a := .int .i64 0) (b := .int .i64 0) (c := .slice none 0 0) (cw0.below hb4).b2
        refine bodyPost_ret (results_row_tmp2 rfl _ _ (w.heap.size + 1 + 1) 25 _ _ _ rfl hr Tryz.underlying25 rfl (by kernel_rfl)) rfl ?_
        exact ⟨.inr ⟨_, rfl, .inr ⟨rfl, fun h => hg h.2⟩⟩, (b0.trans (hb4.mono (by omega))).trans ((below_put _ _ _ _ (by omega)).trans ((below_put _ _ _ _ (by omega)).trans (below_put _ _ _ _ (by omega))))⟩
    · obtain ⟨m0, m1, m2, m3, m4, m5⟩ := cw.args
      obtain ⟨r0, r1, r2, r3, r4, r5⟩ := cw.res
      by_cases ht : t1 = f2
      · subst ht
        have cc := compose_calls F T hFT f1 t1 t1 t2 a1 a2 cap1 cap2 len1 len2 n A B hF hT hl1 hl2 wr (by omega) g1 g2
        clear g1 g2 h1 h2
        go_wp2_with (go_at_call 15; refine cc.mono ?_; rintro e w' ⟨sv, L, rfl, hL, hcomp, hown, hb⟩; have hL0 := hL; obtain ⟨sa, scap, rfl, _, _⟩ := hL0; have hb4 : Below (w.heap.size + 4) wb w' := hB.trans (hb.mono (by omega)); obtain ⟨r0, r1, r2, r3, r4, r5⟩ := (cw0.below hb4).res)
        have hr := put3_block (a := .int .i64 f1) (b := .int .i64 t2) (c := .slice sa L.length scap) (cw0.below hb4).b2
        have hne : ∀ b, (Value.slice sa L.length scap).ownBlock = some b → b ≠ w.heap.size + 1 + 1 := fun b hb => by have := hown b hb; omega
        refine bodyPost_ret (results_row_tmp2 rfl _ _ (w.heap.size + 1 + 1) 25 _ _ _ rfl hr Tryz.underlying25 rfl (by kernel_rfl)) rfl ?_
        refine ⟨.inl ⟨_, L, rfl, hgA, hgB, rfl, ?_, hcomp⟩, (b0.trans (hb4.mono (by omega))).trans ((below_put _ _ _ _ (by omega)).trans ((below_put _ _ _ _ (by omega)).trans (below_put _ _ _ _ (by omega))))⟩
        rw [setCell_size, setCell_size, setCell_size]
        exact ((hL.put hne).put hne).put hne
      · have htB : (t1 == f2) = false := by simpa using ht
        clear g1 g2 h1 h2
        go_wp2
        have hr := put3_block (a := .int .i64 0) (b := .int .i64 0) (c := .slice none 0 0) cw.b2
        refine bodyPost_ret (results_row_tmp2 rfl _ _ (w.heap.size + 1 + 1) 25 _ _ _ rfl hr Tryz.underlying25 rfl (by kernel_rfl)) rfl ?_
        exact ⟨.inr ⟨_, rfl, .inl ⟨rfl, hgA, hgB, ht⟩⟩, bw.trans ((below_put _ _ _ _ (by omega)).trans ((below_put _ _ _ _ (by omega)).trans (below_put _ _ _ _ (by omega))))⟩
end Go.Proofs.YtbleedclnkpbkaaGreatDoor
end
