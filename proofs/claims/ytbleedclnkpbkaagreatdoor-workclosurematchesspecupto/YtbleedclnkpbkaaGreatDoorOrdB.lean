/-
  A part of the proof of the card of WorkClosureMatchesSpec (second form): lemmas that the text Card uses. No condition of its own.
-/
import Derived.Test.YtbleedclnkpbkaaGreatDoorOrdA
set_option linter.all false
set_option linter.unusedVariables false
set_option linter.unusedSimpArgs false
section
namespace Go.Proofs.YtbleedclnkpbkaaGreatDoor
open Go.RowKit Go.Sort
attribute [local go_sem] Calm.upon
/-- WHERE A LIST OF GRAPHS LIES -/
def GraphsAt (n : Nat) (w : World) (sv : Value) (Gs : List Gr) : Prop :=
  ∃ a cap, sv = .slice a Gs.length cap ∧ Gs.length < 4611686018427387904 ∧ (Gs ≠ [] → ∃ b off, a = some ⟨b, off, none⟩ ∧ b < n ∧ ∀ (j : Nat) (g : Gr), Gs[j]? = some g →
    w.cell? ⟨b, off + j * 3, none⟩ = some (.int .i64 g.f) ∧ w.cell? ⟨b, off + j * 3 + 1, none⟩ = some (.int .i64 g.t) ∧ ∃ la lc, w.cell? ⟨b, off + j * 3 + 2, none⟩ = some (.slice la g.L.length lc) ∧ LinksAt n w (.slice la g.L.length lc) g.L)
theorem GraphsAt.below {n : Nat} {w w' : World} {sv : Value} {Gs : List Gr} (h : GraphsAt n w sv Gs) (hb : Below n w w') : GraphsAt n w' sv Gs := by
  obtain ⟨a, cap, e, h1, h2⟩ := h
  refine ⟨a, cap, e, h1, fun hne => ?_⟩
  obtain ⟨b, off, e2, hb2, hc⟩ := h2 hne
  refine ⟨b, off, e2, hb2, fun j g hg => ?_⟩
  obtain ⟨c0, c1, la, lc, c2, hl⟩ := hc j g hg
  exact ⟨(hb.cell (p := ⟨b, off + j * 3, none⟩) hb2).trans c0, (hb.cell (p := ⟨b, off + j * 3 + 1, none⟩) hb2).trans c1, la, lc, (hb.cell (p := ⟨b, off + j * 3 + 2, none⟩) hb2).trans c2, hl.below hb⟩
theorem GraphsAt.get {n : Nat} {w : World} {a : Option Addr} {len cap : Nat} {Gs : List Gr} {k : Nat} {g : Gr} (h : GraphsAt n w (.slice a len cap) Gs) (hg : Gs[k]? = some g) :
    ∃ b off la lc, a = some ⟨b, off, none⟩ ∧ b < n ∧ w.cell? ⟨b, off + k * 3, none⟩ = some (.int .i64 g.f) ∧ w.cell? ⟨b, off + k * 3 + 1, none⟩ = some (.int .i64 g.t) ∧ w.cell? ⟨b, off + k * 3 + 2, none⟩ = some (.slice la g.L.length lc) ∧ LinksAt n w (.slice la g.L.length lc) g.L := by
  obtain ⟨a', cap', e, _, h⟩ := h
  have hne : Gs ≠ [] := by intro e; rw [e] at hg; cases hg
  obtain ⟨b, off, rfl, hb, hc⟩ := h hne
  cases e
  obtain ⟨c0, c1, la, lc, c2, hl⟩ := hc k g hg
  exact ⟨b, off, la, lc, rfl, hb, c0, c1, c2, hl⟩
theorem asc_at {Gs : List Gr} (h : Gs.Pairwise grLt) {p q : Nat} {a b : Gr} (ha : Gs[p]? = some a) (hb : Gs[q]? = some b) (hpq : p < q) : grLt a b := by
  obtain ⟨h1, rfl⟩ := List.getElem?_eq_some_iff.1 ha
  obtain ⟨h2, rfl⟩ := List.getElem?_eq_some_iff.1 hb
  exact List.pairwise_iff_getElem.1 h p q h1 h2 hpq
set_option maxRecDepth 100000 in
set_option maxHeartbeats 1000000 in
/-- slices.BinarySearchFunc(out, g, compareGraphs) -/
theorem search_calls (g : Gr) (a1 la : Option Addr) (cap1 lc len ln n : Nat) (Gs : List Gr) (hlen : Gs.length = len) (hln : g.L.length = ln) (hasc : Gs.Pairwise grLt) (w : World) (hn : n ≤ w.heap.size) (h1 : GraphsAt n w (.slice a1 len cap1) Gs) (h2 : LinksAt n w (.slice la ln lc) g.L) :
    Calls Tryz.prog 31 #[.slice a1 len cap1, .agg #[.int .i64 g.f, .int .i64 g.t, .slice la ln lc], .func (.func 32) #[] #[]] w fun e w' =>
      (∃ (i : Nat) (there : Bool), e = .returned (.tuple #[.int .i64 i, .bool there]) ∧ i ≤ len ∧ (∀ (j : Nat) (x : Gr), j < i → Gs[j]? = some x → grLt x g) ∧ (∀ (j : Nat) (x : Gr), i ≤ j → Gs[j]? = some x → ¬ grLt x g) ∧ (there = true ↔ Gs[i]? = some g)) ∧ Below w.heap.size w w' := by
  have hbig : len < 4611686018427387904 := by obtain ⟨_, _, _, h, _⟩ := h1; omega
  go_enter Tryz.func31, Tryz.ntmps31
  go_wp2
  obtain ⟨wb, hwb⟩ : ∃ wb, w.alloc (Obj.cells #[.int .i64 g.f, .int .i64 g.t, .slice la ln lc] 25) = wb := ⟨_, rfl⟩
  have b0 : Below w.heap.size w wb := by rw [← hwb]; exact below_alloc _ _
  have hsz : wb.heap.size = w.heap.size + 1 := by rw [← hwb]; simp
  have hblk : wb.heap[w.heap.size]? = some (.cells #[.int .i64 g.f, .int .i64 g.t, .slice la ln lc] 25 (0, 0)) := by rw [← hwb]; exact heap_alloc_new w _
  rw [hwb]
  clear hwb
  go_loopw [9, 10] (fun i j wr => ∃ lo hi : Nat, i = .int .i64 lo ∧ j = .int .i64 hi ∧ lo ≤ hi ∧ hi ≤ len ∧ Below (w.heap.size + 1) wb wr ∧ (∀ (t : Nat) (x : Gr), t < lo → Gs[t]? = some x → grLt x g) ∧ (∀ (t : Nat) (x : Gr), hi ≤ t → Gs[t]? = some x → ¬ grLt x g)) (fun i j _ => (intOf j - intOf i).toNat)
  case atStart => exact ⟨0, len, rfl, rfl, Nat.zero_le _, Nat.le_refl _, Below.refl _ _, fun t x ht => absurd ht (by omega), fun t x ht hx => absurd (List.getElem?_eq_some_iff.1 hx).1 (by omega)⟩
  case round =>
    obtain ⟨lo, hi, rfl, rfl, hlh, hil, hB, hlo, hhi⟩ := hrel
    have hsr := hB.size
    have k0 : wr.cell? ⟨w.heap.size, 0, none⟩ = some (.int .i64 g.f) := by simp [World.cell?, (hB.block w.heap.size (by omega)).trans hblk]
    have k1 : wr.cell? ⟨w.heap.size, 1, none⟩ = some (.int .i64 g.t) := by simp [World.cell?, (hB.block w.heap.size (by omega)).trans hblk]
    have k2 : wr.cell? ⟨w.heap.size, 2, none⟩ = some (.slice la ln lc) := by simp [World.cell?, (hB.block w.heap.size (by omega)).trans hblk]
    have bw : Below w.heap.size w wr := b0.trans (hB.mono (by omega))
    have g1 := h1.below (bw.mono hn)
    have g2 := h2.below (bw.mono hn)
    by_cases hlt : lo < hi
    · obtain ⟨m, hml, hmh, em⟩ : ∃ m : Nat, lo ≤ m ∧ m < hi ∧ Aside (((lo : Int) + (hi : Int)) / 2 = (m : Int)) := ⟨(lo + hi) / 2, by omega, by omega, (by omega : ((lo : Int) + (hi : Int)) / 2 = (((lo + hi) / 2 : Nat) : Int))⟩
      have hm1 : m < len := by omega
      have hm2 : (m : Int) < (len : Int) := by omega
      obtain ⟨x, hx⟩ : ∃ x, Gs[m]? = some x := ⟨Gs[m], List.getElem?_eq_getElem (by omega)⟩
      obtain ⟨b1, o1, xa, xc, rfl, hb1, p0, p1, p2, px⟩ := g1.get hx
      have hd : Below w.heap.size wr wr.drew := ⟨rfl, rfl, rfl, Nat.le_refl _, fun _ _ => rfl⟩
      have cc := compareGraphs_calls x.f x.t g.f g.t xa la xc lc x.L.length ln n x.L g.L rfl hln wr.drew (by show n ≤ wr.heap.size; omega) (px.below (hd.mono hn)) (g2.below (hd.mono hn))
      generalize hc : cmpG ⟨x.f, x.t, x.L⟩ ⟨g.f, g.t, g.L⟩ = c at cc
      have hneg : c < 0 ↔ grLt x g := by rw [← hc]; exact cmpG_neg
      clear g1 h1 h2 hc
      go_wp2
      have em2 := em.out
      simp only [em2]
      clear em2
      refine wp_region_still_tail 6 (by kernel_rfl) (by kernel_rfl) ?_
      simp only [List.take_succ_cons, List.take_zero, List.drop_succ_cons, List.drop_zero, World.drew_eq]
      repeat still_step
      refine wpStill_nil ?_
      show wpList _ _ _ _ _ _
      by_cases hc0 : c < 0
      · go_wp2_with (go_at_call 32; refine cc.mono ?_; rintro e w' ⟨rfl, hb⟩)
        have hbb : Below (w.heap.size + 1) wb w' := hB.trans ⟨hb.os, hb.tape, hb.output, hb.size, fun k hk => hb.block k (by show k < wr.heap.size; omega)⟩
        refine ⟨⟨m + 1, hi, by simp, rfl, by omega, hil, hbb, fun t y ht hy => ?_, hhi⟩, by simp [intOf]; omega⟩
        by_cases htm : t = m
        · subst htm; rw [hx] at hy; cases hy; exact hneg.1 hc0
        · exact grLt_trans (asc_at hasc hy hx (by omega)) (hneg.1 hc0)
      · have hc1 : 0 ≤ c := by omega
        go_wp2_with (go_at_call 32; refine cc.mono ?_; rintro e w' ⟨rfl, hb⟩)
        have hbb : Below (w.heap.size + 1) wb w' := hB.trans ⟨hb.os, hb.tape, hb.output, hb.size, fun k hk => hb.block k (by show k < wr.heap.size; omega)⟩
        refine ⟨⟨lo, m, rfl, rfl, hml, by omega, hbb, hlo, fun t y ht hy hyg => ?_⟩, by simp [intOf]; omega⟩
        by_cases htm : t = m
        · subst htm; rw [hx] at hy; cases hy; exact absurd (hneg.2 hyg) (by omega)
        · exact absurd (hneg.2 (grLt_trans (asc_at hasc hx hy (by omega)) hyg)) (by omega)
    · obtain rfl : hi = lo := by omega
      by_cases hn1 : hi < len
      · have hn2 : (hi : Int) < (len : Int) := by omega
        obtain ⟨x, hx⟩ : ∃ x, Gs[hi]? = some x := ⟨Gs[hi], List.getElem?_eq_getElem (by omega)⟩
        obtain ⟨b1, o1, xa, xc, rfl, hb1, p0, p1, p2, px⟩ := g1.get hx
        have hd : Below w.heap.size wr wr.drew := ⟨rfl, rfl, rfl, Nat.le_refl _, fun _ _ => rfl⟩
        have cc : ∀ w', Below wr.heap.size wr w' → _ := fun w' hb => compareGraphs_calls x.f x.t g.f g.t xa la xc lc x.L.length ln n x.L g.L rfl hln w' (by have := hb.size; omega) (px.below (hb.mono (by omega))) (g2.below (hb.mono (by omega)))
        generalize hc : cmpG ⟨x.f, x.t, x.L⟩ ⟨g.f, g.t, g.L⟩ = c at cc
        have hzero : c = 0 ↔ x = g := by rw [← hc]; exact cmpG_zero
        have hsame : Gs[hi]? = some g ↔ c = 0 := by rw [hx, hzero]; simp
        clear g1 h1 h2 hc
        go_wp2
        refine Calm.region_tail (fun w' => Below wr.heap.size wr w') 15 (by kernel_rfl) (by kernel_rfl) ⟨rfl, rfl, rfl, Nat.le_refl _, fun _ _ => rfl⟩ ?_
        simp only [List.take_succ_cons, List.take_zero, List.drop_succ_cons, List.drop_zero]
        have f0 : ∀ w', Below wr.heap.size wr w' → w'.cell? ⟨w.heap.size, 0, none⟩ = some (.int .i64 g.f) := fun w' hb => (hb.cell (p := ⟨w.heap.size, 0, none⟩) (by show w.heap.size < wr.heap.size; omega)).trans k0
        have f1 : ∀ w', Below wr.heap.size wr w' → w'.cell? ⟨w.heap.size, 1, none⟩ = some (.int .i64 g.t) := fun w' hb => (hb.cell (p := ⟨w.heap.size, 1, none⟩) (by show w.heap.size < wr.heap.size; omega)).trans k1
        have f2 : ∀ w', Below wr.heap.size wr w' → w'.cell? ⟨w.heap.size, 2, none⟩ = some (.slice la ln lc) := fun w' hb => (hb.cell (p := ⟨w.heap.size, 2, none⟩) (by show w.heap.size < wr.heap.size; omega)).trans k2
        have f3 : ∀ w', Below wr.heap.size wr w' → w'.cell? ⟨b1, o1 + hi * 3, none⟩ = some (.int .i64 x.f) := fun w' hb => (hb.cell (p := ⟨b1, o1 + hi * 3, none⟩) (by show b1 < wr.heap.size; omega)).trans p0
        have f4 : ∀ w', Below wr.heap.size wr w' → w'.cell? ⟨b1, o1 + hi * 3 + 1, none⟩ = some (.int .i64 x.t) := fun w' hb => (hb.cell (p := ⟨b1, o1 + hi * 3 + 1, none⟩) (by show b1 < wr.heap.size; omega)).trans p1
        have f5 : ∀ w', Below wr.heap.size wr w' → w'.cell? ⟨b1, o1 + hi * 3 + 2, none⟩ = some (.slice xa x.L.length xc) := fun w' hb => (hb.cell (p := ⟨b1, o1 + hi * 3 + 2, none⟩) (by show b1 < wr.heap.size; omega)).trans p2
        clear k0 k1 k2 p0 p1 p2
        iterate 5 (apply Calm.chain_step; (exact rfl); (intro wr2 hw; have x0 := f0 wr2 hw; have x1 := f1 wr2 hw; have x2 := f2 wr2 hw; have x3 := f3 wr2 hw; have x4 := f4 wr2 hw; have x5 := f5 wr2 hw; go_simp; exact rfl))
        iterate 6 (apply Calm.chain_step_w; (go_simp); (intro wr2 hw; have x0 := f0 wr2 hw; have x1 := f1 wr2 hw; have x2 := f2 wr2 hw; have x3 := f3 wr2 hw; have x4 := f4 wr2 hw; have x5 := f5 wr2 hw; go_simp; exact rfl))
        apply Calm.chain_step_w
        · go_simp
        · intro wr2 hw
          go_simp
          refine (cc wr2 hw).mono ?_
          rintro e w' ⟨rfl, hb⟩
          exact ⟨rfl, hw.trans (hb.mono hw.size)⟩
        (apply Calm.chain_step_w; (go_simp); (intro wr2 hw; go_simp; exact rfl))
        iterate 2 (apply Calm.chain_step; (exact rfl); (intro wr2 hw; go_simp; exact rfl))
        refine Calm.chain_nil ?_
        intro w5 hw5
        show wpList _ _ _ _ _ _
        go_wp2
        go_ret2
        exact ⟨⟨hi, c == 0, rfl, hil, hlo, hhi, by rw [hsame]; simp⟩, bw.trans (hw5.mono (by omega))⟩
      · obtain rfl : hi = len := by omega
        clear g1 h1 h2
        go_wp2
        refine Calm.region_tail (fun w' => Below wr.heap.size wr w') 15 (by kernel_rfl) (by kernel_rfl) ⟨rfl, rfl, rfl, Nat.le_refl _, fun _ _ => rfl⟩ ?_
        simp only [List.take_succ_cons, List.take_zero, List.drop_succ_cons, List.drop_zero]
        iterate 5 (apply Calm.chain_step; (exact rfl); (intro wr2 hw; go_simp; exact rfl))
        iterate 8 (apply Calm.chain_skip; (go_simp))
        iterate 2 (apply Calm.chain_step; (exact rfl); (intro wr2 hw; go_simp; exact rfl))
        refine Calm.chain_nil ?_
        intro w5 hw5
        show wpList _ _ _ _ _ _
        go_wp2
        go_ret2
        exact ⟨⟨hi, false, rfl, Nat.le_refl _, hlo, hhi, by rw [List.getElem?_eq_none (by omega)]; simp⟩, bw.trans (hw5.mono (by omega))⟩
end Go.Proofs.YtbleedclnkpbkaaGreatDoor
end
