/-
  A part of the proof of the card of WorkClosureMatchesSpec (second form): lemmas that the text Card uses. No condition of its own.
-/
import Derived.Test.YtbleedclnkpbkaaGreatDoorLinksA
import Derived.Deep.LoopGhost
import Derived.Deep.QuietTactic
import Derived.BigQuiet
import Derived.BigRegion
import Derived.WalkKit
import Derived.Sort.Lot0
import Derived.Sort.Grow
import Derived.Shelf.SlSortCmp.Insertion
set_option linter.all false
set_option linter.unusedVariables false
set_option linter.unusedSimpArgs false
section
namespace Go.Proofs.YtbleedclnkpbkaaGreatDoor
open Go.RowKit Go.Sort
def keyLt (x y : Lk) : Prop := x.f < y.f ∨ (x.f = y.f ∧ x.t < y.t)
/-- what graphFault finds no fault with -/
def goodG (f t : Int) (L : List Lk) : Prop := 0 ≤ f ∧ 0 ≤ t ∧ (∀ (i : Nat) (x : Lk), L[i]? = some x → 0 ≤ x.f ∧ 0 ≤ x.t) ∧ ∀ (i : Nat) (x y : Lk), L[i]? = some x → L[i + 1]? = some y → keyLt x y
theorem cmpZ_lt {x y : Int} (h : x < y) : cmpZ x y = -1 := by simp [cmpZ, h]
theorem cmpZ_gt {x y : Int} (h : y < x) : cmpZ x y = 1 := by have : ¬ x < y := by omega
                                                             simp [cmpZ, h, this]
theorem cmpZ_eq {x y : Int} (h : x = y) : cmpZ x y = 0 := by subst h; simp [cmpZ]
theorem or2_neg {x y : Lk} : orZ [cmpZ x.f y.f, cmpZ x.t y.t] < 0 ↔ keyLt x y := by
  unfold keyLt
  rcases Int.lt_trichotomy x.f y.f with h | h | h
  · simp [orZ, cmpZ_lt h, h]
  · rcases Int.lt_trichotomy x.t y.t with h2 | h2 | h2
    · rw [cmpZ_eq h, cmpZ_lt h2]; simp [orZ, h, h2]
    · rw [cmpZ_eq h, cmpZ_eq h2]; simp [orZ, h, h2]
    · rw [cmpZ_eq h, cmpZ_gt h2]; simp [orZ, h]; omega
  · simp [orZ, cmpZ_gt h]; omega
theorem wrap_nat {k : Nat} (h : k < 4611686018427387904) : IntKind.i64.wrap (k : Int) = k := by
  simp [IntKind.wrap, IntKind.bits, IntKind.signed]; omega
theorem below_round {B : Nat} {wr : World} (h : B ≤ wr.heap.size) (o o' : Obj) : Below B wr ((wr.alloc o).alloc o').drew :=
  have a := ((Below.refl B wr).alloc h o).alloc (by rw [World.size_alloc]; omega) o'
  ⟨a.os, a.tape, a.output, a.size, a.block⟩
set_option maxRecDepth 100000 in
set_option maxHeartbeats 800000 in
theorem graphFault_calls (f t : Int) (a : Option Addr) (cap len n : Nat) (L : List Lk) (hlen : L.length = len) (w : World) (hn : n ≤ w.heap.size) (h1 : LinksAt n w (.slice a len cap) L) :
    Calls Tryz.prog 12 #[.agg #[.int .i64 f, .int .i64 t, .slice a len cap]] w fun e w' => ((e = .returned (.int .i64 0) ∧ goodG f t L) ∨ (e = .returned (.int .i64 2) ∧ ¬ goodG f t L)) ∧ Below w.heap.size w w' := by
  have hbig : len < 4611686018427387904 := by obtain ⟨_, _, _, h, _⟩ := h1; omega
  by_cases hf : f < 0
  · go_enter Tryz.func12, Tryz.ntmps12
    go_wp2
    go_ret
    exact ⟨.inr ⟨rfl, fun h => by have := h.1; omega⟩, below_alloc _ _⟩
  by_cases ht : t < 0
  · go_enter Tryz.func12, Tryz.ntmps12
    go_wp2
    go_ret
    exact ⟨.inr ⟨rfl, fun h => by have := h.2.1; omega⟩, below_alloc _ _⟩
  have hf' : 0 ≤ f := by omega
  have ht' : 0 ≤ t := by omega
  clear hf ht
  go_enter Tryz.func12, Tryz.ntmps12
  go_wp2
  obtain ⟨wb, hwb⟩ : ∃ wb, w.alloc (Obj.cells #[.int .i64 f, .int .i64 t, .slice a len cap] 25) = wb := ⟨_, rfl⟩
  have b0 : Below w.heap.size w wb := by rw [← hwb]; exact below_alloc _ _
  have hsz : wb.heap.size = w.heap.size + 1 := by rw [← hwb]; simp
  have c1 : wb.cell? ⟨w.heap.size, 2, none⟩ = some (.slice a len cap) := by rw [← hwb]; clear hwb; go_simp
  rw [hwb]
  clear hwb
  go_loopw [16] (fun i wr => ∃ k : Nat, k ≤ len ∧ i = .int .i64 k ∧ Below (w.heap.size + 1) wb wr ∧ (∀ (j : Nat) (x : Lk), j < k → L[j]? = some x → 0 ≤ x.f ∧ 0 ≤ x.t) ∧ ∀ (j : Nat) (x y : Lk), j + 1 < k → L[j]? = some x → L[j + 1]? = some y → keyLt x y) (fun i _ => len - (intOf i).toNat)
  case atStart => exact ⟨0, Nat.zero_le _, rfl, Below.refl _ _, fun j x hj => absurd hj (by omega), fun j x y hj => absurd hj (by omega)⟩
  case round =>
    obtain ⟨k, hk, hi, hB, hn1, hn2⟩ := hrel
    have d1 : wr.cell? ⟨w.heap.size, 2, none⟩ = some (.slice a len cap) := (hB.cell (p := ⟨w.heap.size, 2, none⟩) (by show w.heap.size < _; omega)).trans c1
    have bw : Below w.heap.size w wr := b0.trans (hB.mono (by omega))
    have hsr := hB.size
    have g1 := h1.below (bw.mono hn)
    by_cases hlt : k < len
    · obtain ⟨x, hx⟩ : ∃ x, L[k]? = some x := ⟨L[k], List.getElem?_eq_getElem (by omega)⟩
      obtain ⟨b1, o1, ha, hb1, p1, p2, p3⟩ := g1.get hx
      have bad : ¬ (0 ≤ x.f ∧ 0 ≤ x.t) → ¬ goodG f t L := fun h1 h2 => h1 (h2.2.2.1 k x hx)
      by_cases hxf : x.f < 0
      · subst hi
        subst ha
        clear h1 g1
        go_wp2
        go_ret
        exact ⟨.inr ⟨rfl, bad (by omega)⟩, bw.alloc (by omega) _⟩
      by_cases hxt : x.t < 0
      · have hxf' : 0 ≤ x.f := by omega
        subst hi
        subst ha
        clear h1 g1 hxf
        go_wp2
        go_ret
        exact ⟨.inr ⟨rfl, bad (by omega)⟩, bw.alloc (by omega) _⟩
      have hxf' : 0 ≤ x.f := by omega
      have hxt' : 0 ≤ x.t := by omega
      clear hxf hxt
      by_cases hk0 : k = 0
      · subst hk0
        have hi0 : u16 = .int .i64 0 := hi
        clear hi
        subst hi0
        subst ha
        simp only [Nat.zero_mul, Nat.add_zero] at p1 p2 p3
        clear h1 g1
        go_wp2
        go_quiet (fail)
        go_wp2
        go_roundw
        case rel => exact ⟨1, by omega, by rfl, by exact hB.trans (((Below.refl (w.heap.size + 1) wr).alloc (by omega) _).trans ⟨rfl, rfl, rfl, Nat.le_refl _, fun _ _ => rfl⟩), fun j z hj hz => by
          obtain rfl : j = 0 := by omega
          rw [hx] at hz; cases hz; exact ⟨hxf', hxt'⟩, fun j z z' hj => absurd hj (by omega)⟩
        case measure => simp [intOf]; omega
      · subst hi
        obtain ⟨k', rfl⟩ : ∃ k', k = k' + 1 := ⟨k - 1, by omega⟩
        obtain ⟨y, hy⟩ : ∃ y, L[k']? = some y := ⟨L[k'], List.getElem?_eq_getElem (by omega)⟩
        obtain ⟨b2, o2, hb2, _, q1, q2, q3⟩ := g1.get hy
        rw [ha] at hb2
        cases hb2
        subst ha
        clear h1 g1
        go_wp2
        refine wp_region_still_tail 23 (by kernel_rfl) (by kernel_rfl) ?_
        simp only [List.take_succ_cons, List.take_zero, List.drop_succ_cons, List.drop_zero, World.drew_eq]
        have hw1 : IntKind.i64.wrap (k' : Int) = k' := wrap_nat (by omega)
        have hi1 : (k' : Int) < (len : Int) := by omega
        have hi2 : k' < len := by omega
        have hi3 : (0 : Int) ≤ (k' : Int) := by omega
        have e1 : (wr.alloc (Obj.cells #[.int .i64 x.f, .int .i64 x.t, .bool x.s] 38)).cell? ⟨w.heap.size, 2, none⟩ = some (.slice (some ⟨b1, o1, none⟩) len cap) := ((below_alloc wr _).cell (p := ⟨w.heap.size, 2, none⟩) (by show w.heap.size < wr.heap.size; omega)).trans d1
        have e2 : (wr.alloc (Obj.cells #[.int .i64 x.f, .int .i64 x.t, .bool x.s] 38)).cell? ⟨b1, o1 + k' * 3, none⟩ = some (.int .i64 y.f) := ((below_alloc wr _).cell (p := ⟨b1, o1 + k' * 3, none⟩) (by show b1 < wr.heap.size; omega)).trans q1
        have e3 : (wr.alloc (Obj.cells #[.int .i64 x.f, .int .i64 x.t, .bool x.s] 38)).cell? ⟨b1, o1 + k' * 3 + 1, none⟩ = some (.int .i64 y.t) := ((below_alloc wr _).cell (p := ⟨b1, o1 + k' * 3 + 1, none⟩) (by show b1 < wr.heap.size; omega)).trans q2
        repeat (first | still_step | still_call (compare_calls _ _ _))
        refine wpStill_nil ?_
        show wpList _ _ _ _ _ _
        have hkey := or2_neg (x := y) (y := x)
        have hor := fun b cap w h0 h1 => or2_calls b cap (cmpZ y.f x.f) (cmpZ y.t x.t) w h0 h1
        generalize orZ [cmpZ y.f x.f, cmpZ y.t x.t] = c at hor hkey
        by_cases hc : c < 0
        · go_wp2_with (go_at_call 28; refine (hor _ _ _ (by go_simp) (by go_simp)).mono ?_; rintro e w' ⟨rfl, rfl⟩)
          go_roundw
          case rel => exact ⟨k' + 1 + 1, by omega, by simp, by exact hB.trans (below_round (by omega) _ _), fun j z hj hz => by
            rcases Nat.lt_succ_iff_lt_or_eq.1 hj with h | h
            · exact hn1 j z h hz
            · rw [h, hx] at hz; cases hz; exact ⟨hxf', hxt'⟩, fun j z z' hj hz hz' => by
            by_cases h : j + 1 < k' + 1
            · exact hn2 j z z' h hz hz'
            · obtain rfl : j = k' := by omega
              rw [hy] at hz; rw [hx] at hz'; cases hz; cases hz'; exact hkey.1 hc⟩
          case measure => simp [intOf]; omega
        · have hc' : 0 ≤ c := by omega
          go_wp2_with (go_at_call 28; refine (hor _ _ _ (by go_simp) (by go_simp)).mono ?_; rintro e w' ⟨rfl, rfl⟩)
          go_ret
          refine ⟨.inr ⟨rfl, fun h => by have := hkey.2 (h.2.2.2 k' y x hy hx); omega⟩, ?_⟩
          exact bw.trans (below_round (by omega) _ _)
    · subst hi
      obtain rfl : k = len := by omega
      clear h1 g1
      go_wp2
      go_ret
      refine ⟨.inl ⟨rfl, hf', ht', ?_, ?_⟩, bw⟩
      · intro i x hx; exact hn1 i x (by have := (List.getElem?_eq_some_iff.1 hx).1; omega) hx
      · intro i x y hx hy; exact hn2 i x y (by have := (List.getElem?_eq_some_iff.1 hy).1; omega) hx hy
end Go.Proofs.YtbleedclnkpbkaaGreatDoor
end
section
namespace Go.Proofs.YtbleedclnkpbkaaGreatDoor
open Go.RowKit Go.Sort
/-- the order of two links: from, to, strict -/
def lkLt (x y : Lk) : Prop := x.f < y.f ∨ (x.f = y.f ∧ (x.t < y.t ∨ (x.t = y.t ∧ bitZ x.s < bitZ y.s)))
theorem cmpL_neg {x y : Lk} : cmpL x y < 0 ↔ lkLt x y := by
  unfold lkLt cmpL
  rcases Int.lt_trichotomy x.f y.f with h | h | h
  · rw [cmpZ_lt h]; simp [orZ, h]
  · rw [cmpZ_eq h]
    rcases Int.lt_trichotomy x.t y.t with h2 | h2 | h2
    · rw [cmpZ_lt h2]; simp [orZ, h, h2]
    · rw [cmpZ_eq h2]
      rcases Int.lt_trichotomy (bitZ x.s) (bitZ y.s) with h3 | h3 | h3
      · rw [cmpZ_lt h3]; simp [orZ, h, h2, h3]
      · rw [cmpZ_eq h3]; simp [orZ, h, h2, h3]
      · rw [cmpZ_gt h3]; simp [orZ, h, h2]; omega
    · rw [cmpZ_gt h2]; simp [orZ, h]; omega
  · rw [cmpZ_gt h]; simp [orZ]; omega
end Go.Proofs.YtbleedclnkpbkaaGreatDoor
end
section
namespace Go.Proofs.YtbleedclnkpbkaaGreatDoor
open Go.RowKit Go.Sort
theorem ltOf_cmpL (x y : Lk) : ltOf cmpL x y = true ↔ lkLt x y := by
  unfold ltOf; rw [decide_eq_true_iff]; exact cmpL_neg
theorem ltOf_cmpL_no (x y : Lk) : ltOf cmpL x y = false ↔ ¬ lkLt x y := by
  rw [← ltOf_cmpL]; cases ltOf cmpL x y <;> simp
theorem swoL : SWO (ltOf cmpL) where
  irrefl x := by rw [ltOf_cmpL_no]; unfold lkLt; omega
  trans x y z h1 h2 := by rw [ltOf_cmpL] at *; unfold lkLt at *; omega
  ntrans x y z h1 h2 := by rw [ltOf_cmpL_no] at *; unfold lkLt at *; omega
end Go.Proofs.YtbleedclnkpbkaaGreatDoor
end
