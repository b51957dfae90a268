/-
  A part of the proof of the card of WorkClosureMatchesSpec (second form): lemmas that the text Card uses. No condition of its own.
-/
import Derived.Test.YtbleedclnkpbkaaGreatDoorPlainB
import Derived.Test.YtbleedclnkpbkaaGreatDoorLinksA
import Derived.Test.YtbleedclnkpbkaaGreatDoorRules
set_option linter.all false
set_option linter.unusedVariables false
set_option linter.unusedSimpArgs false
section
namespace Go.Proofs.YtbleedclnkpbkaaGreatDoor
open Go.RowKit Go.Sort
theorem below_grow {B : Nat} {w : World} (h : B ≤ w.heap.size) (q : Nat) (os : Array Obj) : Below B w (grow (w.drewN q) os) :=
  ⟨rfl, rfl, rfl, by rw [size_grow]; show w.heap.size ≤ w.heap.size + _; omega, fun k hk => heap_grow_old (w.drewN q) os (by show k < w.heap.size; omega)⟩
theorem cmpLs_step {A B : List Lk} {k : Nat} {x y : Lk} (hx : A[k]? = some x) (hy : B[k]? = some y) : cmpLs (A.drop k) (B.drop k) = if cmpL x y = 0 then cmpLs (A.drop (k + 1)) (B.drop (k + 1)) else cmpL x y := by
  obtain ⟨ha, rfl⟩ := List.getElem?_eq_some_iff.1 hx
  obtain ⟨hb, rfl⟩ := List.getElem?_eq_some_iff.1 hy
  rw [List.drop_eq_getElem_cons ha, List.drop_eq_getElem_cons hb, cmpLs]
set_option maxRecDepth 100000 in
set_option maxHeartbeats 1000000 in
/-- slices.CompareFunc(s1, s2, compareLinks) -/
theorem compareFunc_calls (a1 a2 : Option Addr) (cap1 cap2 len1 len2 n : Nat) (A B : List Lk) (hl1 : A.length = len1) (hl2 : B.length = len2) (w : World) (hn : n ≤ w.heap.size) (h1 : LinksAt n w (.slice a1 len1 cap1) A) (h2 : LinksAt n w (.slice a2 len2 cap2) B) :
    Calls Tryz.prog 66 #[.slice a1 len1 cap1, .slice a2 len2 cap2, .func (.func 38) #[] #[]] w fun e w' => e = .returned (.int .i64 (cmpLs A B)) ∧ Below w.heap.size w w' := by
  have hbig1 : len1 < 4611686018427387904 := by obtain ⟨_, _, _, h, _⟩ := h1; omega
  have hbig2 : len2 < 4611686018427387904 := by obtain ⟨_, _, _, h, _⟩ := h2; omega
  go_enter Tryz.func66, Tryz.ntmps66
  go_wp2
  go_loopw [13] (fun i wr => ∃ k : Nat, k ≤ len1 ∧ k ≤ len2 ∧ i = .int .i64 k ∧ Below w.heap.size w wr ∧ cmpLs A B = cmpLs (A.drop k) (B.drop k)) (fun i _ => len1 - (intOf i).toNat)
  case atStart => exact ⟨0, Nat.zero_le _, Nat.zero_le _, rfl, Below.refl _ _, by simp⟩
  case round =>
    obtain ⟨k, hk1, hk2, rfl, hB, he⟩ := hrel
    have hsr := hB.size
    have g1 := h1.below (hB.mono hn)
    have g2 := h2.below (hB.mono hn)
    by_cases hlt1 : k < len1
    · obtain ⟨x, hx⟩ : ∃ x, A[k]? = some x := ⟨A[k], List.getElem?_eq_getElem (by omega)⟩
      obtain ⟨b1, o1, rfl, hb1, p1, p2, p3⟩ := g1.get hx
      by_cases hlt2 : k < len2
      · obtain ⟨y, hy⟩ : ∃ y, B[k]? = some y := ⟨B[k], List.getElem?_eq_getElem (by omega)⟩
        obtain ⟨b2, o2, rfl, hb2, q1, q2, q3⟩ := g2.get hy
        have hst := cmpLs_step hx hy
        have e1 : (wr.alloc (Obj.cells #[.int .i64 x.f, .int .i64 x.t, .bool x.s] 38)).cell? ⟨b2, o2 + k * 3, none⟩ = some (.int .i64 y.f) := ((below_alloc wr _).cell (p := ⟨b2, o2 + k * 3, none⟩) (by show b2 < wr.heap.size; omega)).trans q1
        have e2 : (wr.alloc (Obj.cells #[.int .i64 x.f, .int .i64 x.t, .bool x.s] 38)).cell? ⟨b2, o2 + k * 3 + 1, none⟩ = some (.int .i64 y.t) := ((below_alloc wr _).cell (p := ⟨b2, o2 + k * 3 + 1, none⟩) (by show b2 < wr.heap.size; omega)).trans q2
        have e3 : (wr.alloc (Obj.cells #[.int .i64 x.f, .int .i64 x.t, .bool x.s] 38)).cell? ⟨b2, o2 + k * 3 + 2, none⟩ = some (.bool y.s) := ((below_alloc wr _).cell (p := ⟨b2, o2 + k * 3 + 2, none⟩) (by show b2 < wr.heap.size; omega)).trans q3
        have cc := fun w => compareLinks_calls x.f x.t y.f y.t x.s y.s w
        generalize hc : cmpL ⟨x.f, x.t, x.s⟩ ⟨y.f, y.t, y.s⟩ = c at cc
        have hc' : cmpL x y = c := hc
        rw [hc'] at hst
        clear g1 g2 h1 h2 hc hc'
        by_cases hc0 : c = 0
        · go_wp2_with (go_at_call 38; refine (cc _).mono ?_; rintro e w' ⟨rfl, q, os', rfl⟩)
          refine ⟨⟨k + 1, by omega, by omega, by simp, hB.trans (((below_alloc2 wr _ _).mono (by omega)).trans (below_grow (by simp; omega) q os')), ?_⟩, by simp [intOf]; omega⟩
          rw [he, hst, if_pos hc0]
        · have hcB : (c == 0) = false := by simpa using hc0
          go_wp2_with (go_at_call 38; refine (cc _).mono ?_; rintro e w' ⟨rfl, q, os', rfl⟩)
          go_ret
          exact ⟨by rw [he, hst, if_neg hc0]; rfl, hB.trans (((below_alloc2 wr _ _).mono (by omega)).trans (below_grow (by simp; omega) q os'))⟩
      · obtain rfl : k = len2 := by omega
        clear g1 g2 h1 h2
        go_wp2
        go_ret
        refine ⟨?_, hB.trans ((below_alloc wr _).mono (by omega))⟩
        have ea : A.drop k = A[k] :: A.drop (k + 1) := List.drop_eq_getElem_cons (by omega)
        have eb : B.drop k = [] := List.drop_of_length_le (by omega)
        rw [he, ea, eb]; rfl
    · obtain rfl : k = len1 := by omega
      have ea : A.drop k = [] := List.drop_of_length_le (by omega)
      clear g1 g2 h1 h2
      go_wp2
      all_goals go_ret
      all_goals refine ⟨?_, hB⟩
      · have eb : B.drop k = B[k] :: B.drop (k + 1) := List.drop_eq_getElem_cons (by omega)
        rw [he, ea, eb]; rfl
      · have eb : B.drop k = [] := List.drop_of_length_le (by omega)
        rw [he, ea, eb]; rfl
end Go.Proofs.YtbleedclnkpbkaaGreatDoor
end
section
namespace Go.Proofs.YtbleedclnkpbkaaGreatDoor
open Go.RowKit Go.Sort
attribute [local go_sem] Calm.upon
set_option maxRecDepth 100000 in
set_option maxHeartbeats 1000000 in
/-- compareGraphs -/
theorem compareGraphs_calls (f1 t1 f2 t2 : Int) (a1 a2 : Option Addr) (cap1 cap2 len1 len2 n : Nat) (A B : List Lk) (hl1 : A.length = len1) (hl2 : B.length = len2) (w : World) (hn : n ≤ w.heap.size) (h1 : LinksAt n w (.slice a1 len1 cap1) A) (h2 : LinksAt n w (.slice a2 len2 cap2) B) :
    Calls Tryz.prog 32 #[.agg #[.int .i64 f1, .int .i64 t1, .slice a1 len1 cap1], .agg #[.int .i64 f2, .int .i64 t2, .slice a2 len2 cap2]] w fun e w' => e = .returned (.int .i64 (cmpG ⟨f1, t1, A⟩ ⟨f2, t2, B⟩)) ∧ Below w.heap.size w w' := by
  go_enter Tryz.func32, Tryz.ntmps32
  go_wp2
  obtain ⟨wb, hwb⟩ : ∃ wb, (w.alloc (Obj.cells #[.int .i64 f1, .int .i64 t1, .slice a1 len1 cap1] 25)).alloc (Obj.cells #[.int .i64 f2, .int .i64 t2, .slice a2 len2 cap2] 25) = wb := ⟨_, rfl⟩
  have b0 : Below w.heap.size w wb := by rw [← hwb]; exact below_alloc2 _ _ _
  have hsz : wb.heap.size = w.heap.size + 2 := by rw [← hwb]; simp
  have hcells : wb.heap[w.heap.size]? = some (.cells #[.int .i64 f1, .int .i64 t1, .slice a1 len1 cap1] 25 (0, 0)) ∧ wb.heap[w.heap.size + 1]? = some (.cells #[.int .i64 f2, .int .i64 t2, .slice a2 len2 cap2] 25 (0, 0)) := by
    rw [← hwb]
    refine ⟨?_, ?_⟩
    · rw [Below.heap_alloc _ _ _ (by simp)]; exact heap_alloc_new w _
    · have := heap_alloc_new (w.alloc (Obj.cells #[.int .i64 f1, .int .i64 t1, .slice a1 len1 cap1] 25)) (Obj.cells #[.int .i64 f2, .int .i64 t2, .slice a2 len2 cap2] 25); simpa using this
  rw [hwb]
  clear hwb
  refine Calm.region_tail (fun w' => Below (w.heap.size + 2) wb w') 15 (by kernel_rfl) (by kernel_rfl) ⟨rfl, rfl, rfl, Nat.le_refl _, fun _ _ => rfl⟩ ?_
  simp only [List.take_succ_cons, List.take_zero, List.drop_succ_cons, List.drop_zero]
  have fc : ∀ w', Below (w.heap.size + 2) wb w' → w'.cell? ⟨w.heap.size, 0, none⟩ = some (.int .i64 f1) ∧ w'.cell? ⟨w.heap.size, 1, none⟩ = some (.int .i64 t1) ∧ w'.cell? ⟨w.heap.size, 2, none⟩ = some (.slice a1 len1 cap1) ∧
      w'.cell? ⟨w.heap.size + 1, 0, none⟩ = some (.int .i64 f2) ∧ w'.cell? ⟨w.heap.size + 1, 1, none⟩ = some (.int .i64 t2) ∧ w'.cell? ⟨w.heap.size + 1, 2, none⟩ = some (.slice a2 len2 cap2) := fun w' hb => by
    have e0 := (hb.block w.heap.size (by omega)).trans hcells.1
    have e1 := (hb.block (w.heap.size + 1) (by omega)).trans hcells.2
    simp [World.cell?, e0, e1]
  have cf : ∀ w', Below (w.heap.size + 2) wb w' → Calls Tryz.prog 66 #[.slice a1 len1 cap1, .slice a2 len2 cap2, .func (.func 38) #[] #[]] w' fun e w'' => e = .returned (.int .i64 (cmpLs A B)) ∧ Below (w.heap.size + 2) wb w'' := fun w' hb => by
    have hs := hb.size
    refine (compareFunc_calls a1 a2 cap1 cap2 len1 len2 n A B hl1 hl2 w' (by omega) ((h1.below (b0.mono hn)).below (hb.mono (by omega))) ((h2.below (b0.mono hn)).below (hb.mono (by omega)))).mono ?_
    rintro e w'' ⟨rfl, hb2⟩
    exact ⟨rfl, hb.trans (hb2.mono (by omega))⟩
  iterate 4 (apply Calm.chain_step; (exact rfl); (intro wr hw; have x0 := (fc wr hw).1; have x1 := (fc wr hw).2.1; have x2 := (fc wr hw).2.2.1; have x3 := (fc wr hw).2.2.2.1; have x4 := (fc wr hw).2.2.2.2.1; have x5 := (fc wr hw).2.2.2.2.2; go_simp; exact rfl))
  apply Calm.chain_step
  · exact rfl
  · intro wr hw
    go_simp
    refine (compare_calls _ _ _).mono ?_
    rintro e w' ⟨rfl, rfl⟩
    exact ⟨rfl, hw⟩
  iterate 4 (apply Calm.chain_step; (exact rfl); (intro wr hw; have x0 := (fc wr hw).1; have x1 := (fc wr hw).2.1; have x2 := (fc wr hw).2.2.1; have x3 := (fc wr hw).2.2.2.1; have x4 := (fc wr hw).2.2.2.2.1; have x5 := (fc wr hw).2.2.2.2.2; go_simp; exact rfl))
  apply Calm.chain_step
  · exact rfl
  · intro wr hw
    go_simp
    refine (compare_calls _ _ _).mono ?_
    rintro e w' ⟨rfl, rfl⟩
    exact ⟨rfl, hw⟩
  iterate 4 (apply Calm.chain_step; (exact rfl); (intro wr hw; have x0 := (fc wr hw).1; have x1 := (fc wr hw).2.1; have x2 := (fc wr hw).2.2.1; have x3 := (fc wr hw).2.2.2.1; have x4 := (fc wr hw).2.2.2.2.1; have x5 := (fc wr hw).2.2.2.2.2; go_simp; exact rfl))
  apply Calm.chain_step
  · exact rfl
  · intro wr hw
    go_simp
    refine (cf wr hw).mono ?_
    rintro e w' ⟨rfl, hb⟩
    exact ⟨rfl, hb⟩
  refine Calm.chain_nil ?_
  intro w5 hw5
  have hs5 := hw5.size
  show wpList _ _ _ _ _ _
  go_wp2_with (go_at_call 28; refine (or3_calls _ _ (cmpZ f1 f2) (cmpZ t1 t2) (cmpLs A B) _ (by go_simp) (by go_simp) (by go_simp)).mono ?_; rintro e w' ⟨rfl, rfl⟩)
  go_ret
  exact ⟨rfl, b0.trans ((hw5.mono (by omega)).trans ((below_alloc w5 _).mono (by omega)))⟩
end Go.Proofs.YtbleedclnkpbkaaGreatDoor
end
