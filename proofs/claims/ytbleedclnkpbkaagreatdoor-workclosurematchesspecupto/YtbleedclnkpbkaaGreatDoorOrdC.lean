/-
  A part of the proof of the card of WorkClosureMatchesSpec (second form): lemmas that the text Card uses. No condition of its own.
-/
import Derived.Test.YtbleedclnkpbkaaGreatDoorOrdB
import Derived.Test.YtbleedclnkpbkaaGreatDoorPlainB
set_option linter.all false
set_option linter.unusedVariables false
set_option linter.unusedSimpArgs false
section
namespace Go.Proofs.YtbleedclnkpbkaaGreatDoor
open Go.RowKit Go.Sort
/-! the reference's orders, where nothing wraps -/
def okI (x : Int) : Prop := 0 ≤ x ∧ x < 9223372036854775808
def Lk.ok (x : Lk) : Prop := okI x.f ∧ okI x.t
def Gr.ok (g : Gr) : Prop := okI g.f ∧ okI g.t ∧ ∀ x ∈ g.L, x.ok
set_option maxRecDepth 100000 in
set_option maxHeartbeats 1000000 in
theorem linkOrder_calls (x y : Lk) (hx : x.ok) (hy : y.ok) (w : World) :
    Calls Tryz.prog 26 #[.agg #[.int .i64 x.f, .int .i64 x.t, .bool x.s], .agg #[.int .i64 y.f, .int .i64 y.t, .bool y.s]] w fun e w' => e = .returned (.int .i64 (ordL x y)) ∧ Below w.heap.size w w' := by
  obtain ⟨⟨a1, a2⟩, a3, a4⟩ := hx
  obtain ⟨⟨b1, b2⟩, b3, b4⟩ := hy
  obtain ⟨f, t, s⟩ := x
  obtain ⟨f', t', s'⟩ := y
  simp only at a1 a2 a3 a4 b1 b2 b3 b4
  unfold ordL
  by_cases h1 : f = f'
  · subst h1
    by_cases h2 : t = t'
    · subst h2
      cases s <;> cases s'
      all_goals go_enter Tryz.func26, Tryz.ntmps26
      all_goals go_wp2
      all_goals go_ret
      all_goals exact ⟨by simp [bitZ], below_alloc2 _ _ _⟩
    · have h3 : (t == t') = false := by simpa using h2
      go_enter Tryz.func26, Tryz.ntmps26
      go_wp2
      go_ret
      exact ⟨by simp [h2], below_alloc2 _ _ _⟩
  · have h3 : (f == f') = false := by simpa using h1
    go_enter Tryz.func26, Tryz.ntmps26
    go_wp2
    go_ret
    exact ⟨by simp [h1], below_alloc2 _ _ _⟩
end Go.Proofs.YtbleedclnkpbkaaGreatDoor
end
section
namespace Go.Proofs.YtbleedclnkpbkaaGreatDoor
open Go.RowKit Go.Sort
theorem ordLs_step {A B : List Lk} {k : Nat} {x y : Lk} (hx : A[k]? = some x) (hy : B[k]? = some y) : ordLs (A.drop k) (B.drop k) = if ordL x y = 0 then ordLs (A.drop (k + 1)) (B.drop (k + 1)) else ordL x y := by
  obtain ⟨ha, rfl⟩ := List.getElem?_eq_some_iff.1 hx
  obtain ⟨hb, rfl⟩ := List.getElem?_eq_some_iff.1 hy
  rw [List.drop_eq_getElem_cons ha, List.drop_eq_getElem_cons hb, ordLs]
theorem ordLs_end {A B : List Lk} {k : Nat} (hk : k ≤ A.length) (hk2 : k ≤ B.length) (h : A.length = k ∨ B.length = k) : ordLs (A.drop k) (B.drop k) = (A.length : Int) - B.length := by
  have e : ordLs (A.drop k) (B.drop k) = ((A.drop k).length : Int) - ((B.drop k).length : Int) := by
    rcases h with h | h
    · have ea : A.drop k = [] := List.drop_of_length_le (by omega)
      rw [ea, ordLs]
      intro x xs y ys e; cases e
    · have eb : B.drop k = [] := List.drop_of_length_le (by omega)
      rw [eb, ordLs]
      intro x xs y ys e e2; cases e2
  rw [e, List.length_drop, List.length_drop]; omega
set_option maxRecDepth 100000 in
set_option maxHeartbeats 1000000 in
/-- GraphOrder -/
theorem graphOrder_calls (f1 t1 f2 t2 : Int) (a1 a2 : Option Addr) (cap1 cap2 len1 len2 n : Nat) (A B : List Lk) (hl1 : A.length = len1) (hl2 : B.length = len2) (hg1 : Gr.ok ⟨f1, t1, A⟩) (hg2 : Gr.ok ⟨f2, t2, B⟩) (w : World) (hn : n ≤ w.heap.size) (h1 : LinksAt n w (.slice a1 len1 cap1) A) (h2 : LinksAt n w (.slice a2 len2 cap2) B) :
    Calls Tryz.prog 10 #[.agg #[.int .i64 f1, .int .i64 t1, .slice a1 len1 cap1], .agg #[.int .i64 f2, .int .i64 t2, .slice a2 len2 cap2]] w fun e w' => e = .returned (.int .i64 (ordG ⟨f1, t1, A⟩ ⟨f2, t2, B⟩)) ∧ Below w.heap.size w w' := by
  have hbig1 : len1 < 4611686018427387904 := by obtain ⟨_, _, _, h, _⟩ := h1; omega
  have hbig2 : len2 < 4611686018427387904 := by obtain ⟨_, _, _, h, _⟩ := h2; omega
  obtain ⟨⟨x1, x2⟩, ⟨x3, x4⟩, x5⟩ := hg1
  obtain ⟨⟨y1, y2⟩, ⟨y3, y4⟩, y5⟩ := hg2
  simp only at x1 x2 x3 x4 x5 y1 y2 y3 y4 y5
  by_cases hf : f1 = f2
  case neg =>
    have hfB : (f1 == f2) = false := by simpa using hf
    clear h1 h2 x5 y5
    go_enter Tryz.func10, Tryz.ntmps10
    go_wp2
    go_ret
    exact ⟨by simp [ordG, hf], below_alloc2 _ _ _⟩
  by_cases ht : t1 = t2
  case neg =>
    have htB : (t1 == t2) = false := by simpa using ht
    clear h1 h2 x5 y5
    go_enter Tryz.func10, Tryz.ntmps10
    go_wp2
    go_ret
    exact ⟨by simp [ordG, hf, ht], below_alloc2 _ _ _⟩
  subst hf
  subst ht
  have eG : ordG ⟨f1, t1, A⟩ ⟨f1, t1, B⟩ = ordLs A B := by simp [ordG]
  rw [eG]
  clear eG
  go_enter Tryz.func10, Tryz.ntmps10
  go_wp2
  obtain ⟨wb, hwb⟩ : ∃ wb, (w.alloc (Obj.cells #[.int .i64 f1, .int .i64 t1, .slice a1 len1 cap1] 25)).alloc (Obj.cells #[.int .i64 f1, .int .i64 t1, .slice a2 len2 cap2] 25) = wb := ⟨_, rfl⟩
  have b0 : Below w.heap.size w wb := by rw [← hwb]; exact below_alloc2 _ _ _
  have hsz : wb.heap.size = w.heap.size + 2 := by rw [← hwb]; simp
  have c1 : wb.cell? ⟨w.heap.size, 2, none⟩ = some (.slice a1 len1 cap1) := by rw [← hwb]; clear hwb; go_simp
  have c2 : wb.cell? ⟨w.heap.size + 1, 2, none⟩ = some (.slice a2 len2 cap2) := by rw [← hwb]; clear hwb; go_simp
  rw [hwb]
  clear hwb
  go_loopw [5] (fun i wr => ∃ k : Nat, k ≤ len1 ∧ k ≤ len2 ∧ i = .int .i64 k ∧ Below (w.heap.size + 2) wb wr ∧ ordLs A B = ordLs (A.drop k) (B.drop k)) (fun i _ => len1 - (intOf i).toNat)
  case atStart => exact ⟨0, Nat.zero_le _, Nat.zero_le _, rfl, Below.refl _ _, by simp⟩
  case round =>
    obtain ⟨k, hk1, hk2, rfl, hB, he⟩ := hrel
    have hsr := hB.size
    have d1 : wr.cell? ⟨w.heap.size, 2, none⟩ = some (.slice a1 len1 cap1) := (hB.cell (p := ⟨w.heap.size, 2, none⟩) (by show w.heap.size < _; omega)).trans c1
    have d2 : wr.cell? ⟨w.heap.size + 1, 2, none⟩ = some (.slice a2 len2 cap2) := (hB.cell (p := ⟨w.heap.size + 1, 2, none⟩) (by show w.heap.size + 1 < _; omega)).trans c2
    have bw : Below w.heap.size w wr := b0.trans (hB.mono (by omega))
    have g1 := h1.below (bw.mono hn)
    have g2 := h2.below (bw.mono hn)
    by_cases hlt : k < len1 ∧ k < len2
    · obtain ⟨hlt1, hlt2⟩ := hlt
      obtain ⟨x, hx⟩ : ∃ x, A[k]? = some x := ⟨A[k], List.getElem?_eq_getElem (by omega)⟩
      obtain ⟨y, hy⟩ : ∃ y, B[k]? = some y := ⟨B[k], List.getElem?_eq_getElem (by omega)⟩
      obtain ⟨b1, o1, rfl, hb1, p1, p2, p3⟩ := g1.get hx
      obtain ⟨b2, o2, rfl, hb2, q1, q2, q3⟩ := g2.get hy
      have hst := ordLs_step hx hy
      have cc := fun w => linkOrder_calls x y (x5 x (List.mem_of_getElem? hx)) (y5 y (List.mem_of_getElem? hy)) w
      generalize hc : ordL x y = c at cc hst
      clear g1 g2 h1 h2 hc x5 y5
      go_wp2
      refine wp_region_still_tail 10 (by kernel_rfl) (by kernel_rfl) ?_
      simp only [List.take_succ_cons, List.take_zero, List.drop_succ_cons, List.drop_zero, World.drew_eq]
      repeat still_step
      refine wpStill_nil ?_
      show wpList _ _ _ _ _ _
      have hbd : ∀ w', Below wr.drew.heap.size wr.drew w' → Below (w.heap.size + 2) wb w' := fun w' hb => hB.trans ⟨hb.os, hb.tape, hb.output, hb.size, fun k hk => hb.block k (by show k < wr.heap.size; omega)⟩
      by_cases hc0 : c = 0
      · go_wp2_with (go_at_call 26; refine (cc _).mono ?_; rintro e w' ⟨rfl, hb⟩)
        refine ⟨⟨k + 1, by omega, by omega, by simp, hbd _ hb, ?_⟩, by simp [intOf]; omega⟩
        rw [he, hst, if_pos hc0]
      · have hcB : (c == 0) = false := by simpa using hc0
        go_wp2_with (go_at_call 26; refine (cc _).mono ?_; rintro e w' ⟨rfl, hb⟩)
        go_ret
        exact ⟨by rw [he, hst, if_neg hc0]; rfl, b0.trans ((hbd _ hb).mono (by omega))⟩
    · have hend := ordLs_end (A := A) (B := B) (k := k) (by omega) (by omega) (by omega)
      rw [hl1, hl2] at hend
      have hor : k = len1 ∨ k = len2 := by omega
      clear g1 g2 h1 h2 x5 y5
      rcases hor with rfl | rfl
      · go_wp2
        go_ret
        exact ⟨by rw [he, hend]; rfl, bw⟩
      · by_cases hlt1 : k < len1
        · go_wp2
          go_ret
          exact ⟨by rw [he, hend]; rfl, bw⟩
        · obtain rfl : k = len1 := by omega
          go_wp2
          go_ret
          exact ⟨by rw [he, hend, Int.sub_self]; rfl, bw⟩
end Go.Proofs.YtbleedclnkpbkaaGreatDoor
end
section
namespace Go.Proofs.YtbleedclnkpbkaaGreatDoor
open Go.RowKit Go.Sort
set_option maxRecDepth 100000 in
set_option maxHeartbeats 1000000 in
/-- hasGraph -/
theorem hasGraph_calls (g : Gr) (a1 la : Option Addr) (cap1 lc len ln n : Nat) (Gs : List Gr) (hlen : Gs.length = len) (hln : g.L.length = ln) (hok : ∀ x ∈ Gs, x.ok) (hgk : g.ok) (w : World) (hn : n ≤ w.heap.size) (h1 : GraphsAt n w (.slice a1 len cap1) Gs) (h2 : LinksAt n w (.slice la ln lc) g.L) :
    Calls Tryz.prog 14 #[.slice a1 len cap1, .agg #[.int .i64 g.f, .int .i64 g.t, .slice la ln lc]] w fun e w' => (∃ b : Bool, e = .returned (.bool b) ∧ (b = true ↔ g ∈ Gs)) ∧ Below w.heap.size w w' := by
  have hbig : len < 4611686018427387904 := by obtain ⟨_, _, _, h, _⟩ := h1; omega
  go_enter Tryz.func14, Tryz.ntmps14
  go_wp2
  obtain ⟨wb, hwb⟩ : ∃ wb, w.alloc (Obj.cells #[.int .i64 g.f, .int .i64 g.t, .slice la ln lc] 25) = wb := ⟨_, rfl⟩
  have b0 : Below w.heap.size w wb := by rw [← hwb]; exact below_alloc _ _
  have hsz : wb.heap.size = w.heap.size + 1 := by rw [← hwb]; simp
  have hblk : wb.heap[w.heap.size]? = some (.cells #[.int .i64 g.f, .int .i64 g.t, .slice la ln lc] 25 (0, 0)) := by rw [← hwb]; exact heap_alloc_new w _
  rw [hwb]
  clear hwb
  go_loopw [5] (fun i wr => ∃ k : Nat, k ≤ len ∧ i = .int .i64 k ∧ Below (w.heap.size + 1) wb wr ∧ ∀ j : Nat, j < k → Gs[j]? ≠ some g) (fun i _ => len - (intOf i).toNat)
  case atStart => exact ⟨0, Nat.zero_le _, rfl, Below.refl _ _, fun j hj => absurd hj (by omega)⟩
  case round =>
    obtain ⟨k, hk, rfl, hB, hno⟩ := hrel
    have hsr := hB.size
    have k0 : wr.cell? ⟨w.heap.size, 0, none⟩ = some (.int .i64 g.f) := by simp [World.cell?, (hB.block w.heap.size (by omega)).trans hblk]
    have k1 : wr.cell? ⟨w.heap.size, 1, none⟩ = some (.int .i64 g.t) := by simp [World.cell?, (hB.block w.heap.size (by omega)).trans hblk]
    have k2 : wr.cell? ⟨w.heap.size, 2, none⟩ = some (.slice la ln lc) := by simp [World.cell?, (hB.block w.heap.size (by omega)).trans hblk]
    have bw : Below w.heap.size w wr := b0.trans (hB.mono (by omega))
    have g1 := h1.below (bw.mono hn)
    have g2 := h2.below (bw.mono hn)
    by_cases hlt : k < len
    · obtain ⟨x, hx⟩ : ∃ x, Gs[k]? = some x := ⟨Gs[k], List.getElem?_eq_getElem (by omega)⟩
      obtain ⟨b1, o1, xa, xc, rfl, hb1, p0, p1, p2, px⟩ := g1.get hx
      have hd : Below w.heap.size wr wr.drew := ⟨rfl, rfl, rfl, Nat.le_refl _, fun _ _ => rfl⟩
      have cc := graphOrder_calls x.f x.t g.f g.t xa la xc lc x.L.length ln n x.L g.L rfl hln (hok x (List.mem_of_getElem? hx)) hgk wr.drew (by show n ≤ wr.heap.size; omega) (px.below (hd.mono hn)) (g2.below (hd.mono hn))
      generalize hc : ordG ⟨x.f, x.t, x.L⟩ ⟨g.f, g.t, g.L⟩ = c at cc
      have hzero : c = 0 ↔ x = g := by rw [← hc]; exact ordG_zero
      clear g1 g2 h1 h2 hc
      go_wp2
      refine wp_region_still_tail 5 (by kernel_rfl) (by kernel_rfl) ?_
      simp only [List.take_succ_cons, List.take_zero, List.drop_succ_cons, List.drop_zero, World.drew_eq]
      repeat still_step
      refine wpStill_nil ?_
      show wpList _ _ _ _ _ _
      have hbd : ∀ w', Below wr.drew.heap.size wr.drew w' → Below (w.heap.size + 1) wb w' := fun w' hb => hB.trans ⟨hb.os, hb.tape, hb.output, hb.size, fun k hk => hb.block k (by show k < wr.heap.size; omega)⟩
      by_cases hc0 : c = 0
      · go_wp2_with (go_at_call 10; refine cc.mono ?_; rintro e w' ⟨rfl, hb⟩)
        go_ret
        refine ⟨⟨true, rfl, fun _ => ?_, fun _ => rfl⟩, b0.trans ((hbd _ hb).mono (by omega))⟩
        rw [← hzero.1 hc0]; exact List.mem_of_getElem? hx
      · have hcB : (c == 0) = false := by simpa using hc0
        go_wp2_with (go_at_call 10; refine cc.mono ?_; rintro e w' ⟨rfl, hb⟩)
        refine ⟨⟨k + 1, by omega, by simp, hbd _ hb, fun j hj e => ?_⟩, by simp [intOf]; omega⟩
        by_cases hjk : j = k
        · subst hjk; rw [hx] at e; cases e; exact hc0 (hzero.2 rfl)
        · exact hno j (by omega) e
    · obtain rfl : k = len := by omega
      clear g1 g2 h1 h2
      go_wp2
      go_ret
      refine ⟨⟨false, rfl, fun h => (by cases h), fun h => ?_⟩, bw⟩
      obtain ⟨j, hj⟩ := List.getElem?_of_mem h
      exact absurd hj (hno j (by have := (List.getElem?_eq_some_iff.1 hj).1; omega))
end Go.Proofs.YtbleedclnkpbkaaGreatDoor
end
section
namespace Go.Proofs.YtbleedclnkpbkaaGreatDoor
open Go.RowKit Go.Sort
set_option maxRecDepth 100000 in
set_option maxHeartbeats 1000000 in
/-- sameGraphs at two slices of the same graphs -/
theorem sameGraphs_calls (a1 a2 : Option Addr) (cap1 cap2 len n : Nat) (Gs : List Gr) (hlen : Gs.length = len) (hok : ∀ x ∈ Gs, x.ok) (w : World) (hn : n ≤ w.heap.size) (h1 : GraphsAt n w (.slice a1 len cap1) Gs) (h2 : GraphsAt n w (.slice a2 len cap2) Gs) :
    Calls Tryz.prog 7 #[.slice a1 len cap1, .slice a2 len cap2] w fun e w' => e = .returned (.bool true) ∧ Below w.heap.size w w' := by
  have hbig : len < 4611686018427387904 := by obtain ⟨_, _, _, h, _⟩ := h1; omega
  go_enter Tryz.func7, Tryz.ntmps7
  go_wp2
  go_loopw [5] (fun i wr => ∃ k : Nat, k ≤ len ∧ i = .int .i64 k ∧ Below w.heap.size w wr) (fun i _ => len - (intOf i).toNat)
  case atStart => exact ⟨0, Nat.zero_le _, rfl, Below.refl _ _⟩
  case round =>
    obtain ⟨k, hk, rfl, hB⟩ := hrel
    have hsr := hB.size
    have g1 := h1.below (hB.mono hn)
    have g2 := h2.below (hB.mono hn)
    by_cases hlt : k < len
    · obtain ⟨x, hx⟩ : ∃ x, Gs[k]? = some x := ⟨Gs[k], List.getElem?_eq_getElem (by omega)⟩
      obtain ⟨b1, o1, xa, xc, rfl, hb1, p0, p1, p2, px⟩ := g1.get hx
      obtain ⟨b2, o2, ya, yc, rfl, hb2, q0, q1, q2, qx⟩ := g2.get hx
      have hd : Below w.heap.size wr wr.drew := ⟨rfl, rfl, rfl, Nat.le_refl _, fun _ _ => rfl⟩
      have ho := hok x (List.mem_of_getElem? hx)
      have cc := graphOrder_calls x.f x.t x.f x.t xa ya xc yc x.L.length x.L.length n x.L x.L rfl rfl ho ho wr.drew (by show n ≤ wr.heap.size; omega) (px.below (hd.mono hn)) (qx.below (hd.mono hn))
      have hz : ordG ⟨x.f, x.t, x.L⟩ ⟨x.f, x.t, x.L⟩ = 0 := ordG_zero.2 rfl
      rw [hz] at cc
      clear g1 g2 h1 h2 hz
      go_wp2
      refine wp_region_still_tail 8 (by kernel_rfl) (by kernel_rfl) ?_
      simp only [List.take_succ_cons, List.take_zero, List.drop_succ_cons, List.drop_zero, World.drew_eq]
      repeat still_step
      refine wpStill_nil ?_
      show wpList _ _ _ _ _ _
      go_wp2_with (go_at_call 10; refine cc.mono ?_; rintro e w' ⟨rfl, hb⟩)
      exact ⟨⟨k + 1, by omega, by simp, hB.trans ⟨hb.os, hb.tape, hb.output, hb.size, fun k hk => hb.block k (by show k < wr.heap.size; omega)⟩⟩, by simp [intOf]; omega⟩
    · obtain rfl : k = len := by omega
      clear g1 g2 h1 h2
      go_wp2
      go_ret
      exact ⟨rfl, hB⟩
end Go.Proofs.YtbleedclnkpbkaaGreatDoor
end
