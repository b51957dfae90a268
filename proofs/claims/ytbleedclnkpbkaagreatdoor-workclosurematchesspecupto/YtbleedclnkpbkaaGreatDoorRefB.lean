/-
  A part of the proof of the card of WorkClosureMatchesSpec (second form): lemmas that the text Card uses. No condition of its own.
-/
import Derived.Test.YtbleedclnkpbkaaGreatDoorOrdC
set_option linter.all false
set_option linter.unusedVariables false
set_option linter.unusedSimpArgs false
section
namespace Go.Proofs.YtbleedclnkpbkaaGreatDoor
open Go.RowKit Go.Sort
attribute [local go_sem] Calm.upon
set_option maxRecDepth 100000 in
set_option maxHeartbeats 8000000 in
/-- the reference's GraphFault -/
theorem refFault_calls (f t : Int) (a : Option Addr) (cap len n : Nat) (L : List Lk) (hlen : L.length = len) (w : World) (hn : n ≤ w.heap.size) (h1 : LinksAt n w (.slice a len cap) L) :
    Calls Tryz.prog 5 #[.agg #[.int .i64 f, .int .i64 t, .slice a len cap]] w fun e w' => ((e = .returned (.int .i64 0) ∧ goodG f t L) ∨ (e = .returned (.int .i64 2) ∧ ¬ goodG f t L)) ∧ Below w.heap.size w w' := by
  have hbig : len < 4611686018427387904 := by obtain ⟨_, _, _, h, _⟩ := h1; omega
  by_cases hf : f < 0
  · go_enter Tryz.func5, Tryz.ntmps5
    go_wp2
    go_ret
    exact ⟨.inr ⟨rfl, fun h => by have := h.1; omega⟩, below_alloc _ _⟩
  by_cases ht : t < 0
  · have hf' : 0 ≤ f := by omega
    go_enter Tryz.func5, Tryz.ntmps5
    go_wp2
    go_ret
    exact ⟨.inr ⟨rfl, fun h => by have := h.2.1; omega⟩, below_alloc _ _⟩
  have hf' : 0 ≤ f := by omega
  have ht' : 0 ≤ t := by omega
  clear hf ht
  go_enter Tryz.func5, Tryz.ntmps5
  go_wp2
  obtain ⟨wb, hwb⟩ : ∃ wb, w.alloc (Obj.cells #[.int .i64 f, .int .i64 t, .slice a len cap] 25) = wb := ⟨_, rfl⟩
  have b0 : Below w.heap.size w wb := by rw [← hwb]; exact below_alloc _ _
  have hsz : wb.heap.size = w.heap.size + 1 := by rw [← hwb]; simp
  have c1 : wb.cell? ⟨w.heap.size, 2, none⟩ = some (.slice a len cap) := by rw [← hwb]; clear hwb; go_simp
  rw [hwb]
  clear hwb
  go_loopw [3] (fun i wr => ∃ k : Nat, k ≤ len ∧ i = .int .i64 k ∧ Below (w.heap.size + 1) wb wr ∧ (∀ (j : Nat) (x : Lk), j < k → L[j]? = some x → 0 ≤ x.f ∧ 0 ≤ x.t) ∧ ∀ (j : Nat) (x y : Lk), j + 1 < k → L[j]? = some x → L[j + 1]? = some y → keyLt x y) (fun i _ => len - (intOf i).toNat)
  case atStart => exact ⟨0, Nat.zero_le _, rfl, Below.refl _ _, fun j x hj => absurd hj (by omega), fun j x y hj => absurd hj (by omega)⟩
  case round =>
    obtain ⟨k, hk, hi, hB, hn1, hn2⟩ := hrel
    have d1 : wr.cell? ⟨w.heap.size, 2, none⟩ = some (.slice a len cap) := (hB.cell (p := ⟨w.heap.size, 2, none⟩) (by show w.heap.size < _; omega)).trans c1
    have bw : Below w.heap.size w wr := b0.trans (hB.mono (by omega))
    have hsr := hB.size
    have g1 := h1.below (bw.mono hn)
    by_cases hlt : k < len
    · obtain ⟨x, hx⟩ : ∃ x, L[k]? = some x := ⟨L[k], List.getElem?_eq_getElem (by omega)⟩
      obtain ⟨b1, o1, ha, hb1, p1, p2, p3⟩ := g1.get hx
      have bad : ¬ (0 ≤ x.f ∧ 0 ≤ x.t) → ¬ goodG f t L := fun h1 h2 => h1 (h2.2.2.1 k x hx)
      by_cases hxf : x.f < 0
      · subst hi
        subst ha
        clear h1 g1
        go_wp2
        go_ret
        exact ⟨.inr ⟨rfl, bad (by omega)⟩, bw.alloc (by omega) _⟩
      by_cases hxt : x.t < 0
      · have hxf' : 0 ≤ x.f := by omega
        subst hi
        subst ha
        clear h1 g1 hxf
        go_wp2
        go_ret
        exact ⟨.inr ⟨rfl, bad (by omega)⟩, bw.alloc (by omega) _⟩
      have hxf' : 0 ≤ x.f := by omega
      have hxt' : 0 ≤ x.t := by omega
      clear hxf hxt
      have hBd : Below (w.heap.size + 1) wb (wr.alloc (Obj.cells #[.int .i64 x.f, .int .i64 x.t, .bool x.s] 38)).drew := hB.trans ((((Below.refl (w.heap.size + 1) wr).alloc (by omega) _)).trans ⟨rfl, rfl, rfl, Nat.le_refl _, fun _ _ => rfl⟩)
      by_cases hk0 : k = 0
      · subst hk0
        subst hi
        subst ha
        simp only [Nat.zero_mul, Nat.add_zero] at p1 p2 p3
        clear h1 g1
        go_wp2
        refine Calm.region_tail (fun w' => w' = (wr.alloc (Obj.cells #[.int .i64 x.f, .int .i64 x.t, .bool x.s] 38)).drew) 37 (by kernel_rfl) (by kernel_rfl) rfl ?_
        simp only [List.take_succ_cons, List.take_zero, List.drop_succ_cons, List.drop_zero]
        iterate 37 (first | (apply Calm.chain_step; (exact rfl); (intro wr2 hw; subst hw; go_simp; exact rfl)) | (refine Calm.chain_skip (by first | (go_simp; done) | (go_simp; intro h; cases h)) ?_))
        refine Calm.chain_nil ?_
        intro w5 hw5
        subst hw5
        show wpList _ _ _ _ _ _
        go_wp2
        go_roundw
        case rel => exact ⟨1, by omega, by rfl, hBd, fun j z hj hz => by
          obtain rfl : j = 0 := by omega
          rw [hx] at hz; cases hz; exact ⟨hxf', hxt'⟩, fun j z z' hj => absurd hj (by omega)⟩
        case measure => simp [intOf]; omega
      · subst hi
        obtain ⟨k', rfl⟩ : ∃ k', k = k' + 1 := ⟨k - 1, by omega⟩
        obtain ⟨y, hy⟩ : ∃ y, L[k']? = some y := ⟨L[k'], List.getElem?_eq_getElem (by omega)⟩
        obtain ⟨b2, o2, hb2, _, q1, q2, q3⟩ := g1.get hy
        rw [ha] at hb2
        cases hb2
        subst ha
        clear h1 g1 bad
        have hw1 : IntKind.i64.wrap (k' : Int) = k' := wrap_nat (by omega)
        have hi1 : (k' : Int) < (len : Int) := by omega
        have hi2 : k' < len := by omega
        have hi3 : (0 : Int) ≤ (k' : Int) := by omega
        have e1 : (wr.alloc (Obj.cells #[.int .i64 x.f, .int .i64 x.t, .bool x.s] 38)).cell? ⟨w.heap.size, 2, none⟩ = some (.slice (some ⟨b1, o1, none⟩) len cap) := ((below_alloc wr _).cell (p := ⟨w.heap.size, 2, none⟩) (by show w.heap.size < wr.heap.size; omega)).trans d1
        have e2 : (wr.alloc (Obj.cells #[.int .i64 x.f, .int .i64 x.t, .bool x.s] 38)).cell? ⟨b1, o1 + k' * 3, none⟩ = some (.int .i64 y.f) := ((below_alloc wr _).cell (p := ⟨b1, o1 + k' * 3, none⟩) (by show b1 < wr.heap.size; omega)).trans q1
        have e3 : (wr.alloc (Obj.cells #[.int .i64 x.f, .int .i64 x.t, .bool x.s] 38)).cell? ⟨b1, o1 + k' * 3 + 1, none⟩ = some (.int .i64 y.t) := ((below_alloc wr _).cell (p := ⟨b1, o1 + k' * 3 + 1, none⟩) (by show b1 < wr.heap.size; omega)).trans q2
        go_wp2
        refine Calm.region_tail (fun w' => w' = (wr.alloc (Obj.cells #[.int .i64 x.f, .int .i64 x.t, .bool x.s] 38)).drew) 37 (by kernel_rfl) (by kernel_rfl) rfl ?_
        simp only [List.take_succ_cons, List.take_zero, List.drop_succ_cons, List.drop_zero]
        by_cases hlt : x.f < y.f
        · iterate 37 (first | (apply Calm.chain_step; (exact rfl); (intro wr2 hw; subst hw; go_simp; exact rfl)) | (apply Calm.chain_step_w; (go_simp); (intro wr2 hw; subst hw; go_simp; exact rfl)) | (refine Calm.chain_skip (by first | (go_simp; done) | (go_simp; intro h; cases h)) ?_))
          refine Calm.chain_nil ?_
          intro w5 hw5
          subst hw5
          show wpList _ _ _ _ _ _
          go_wp2
          go_ret
          exact ⟨.inr ⟨rfl, fun h => by have h9 := h.2.2.2 k' y x hy hx; unfold keyLt at h9; omega⟩, b0.trans (hBd.mono (by omega))⟩
        · by_cases hge : y.f < x.f
          · have hneB : (x.f == y.f) = false := by simp; omega
            iterate 37 (first | (apply Calm.chain_step; (exact rfl); (intro wr2 hw; subst hw; go_simp; exact rfl)) | (apply Calm.chain_step_w; (go_simp); (intro wr2 hw; subst hw; go_simp; exact rfl)) | (refine Calm.chain_skip (by first | (go_simp; done) | (go_simp; intro h; cases h)) ?_))
            refine Calm.chain_nil ?_
            intro w5 hw5
            subst hw5
            show wpList _ _ _ _ _ _
            go_wp2
            go_roundw
            case rel => exact ⟨k' + 1 + 1, by omega, by simp, hBd, fun j z hj hz => by
              rcases Nat.lt_succ_iff_lt_or_eq.1 hj with h | h
              · exact hn1 j z h hz
              · rw [h, hx] at hz; cases hz; exact ⟨hxf', hxt'⟩, fun j z z' hj hz hz' => by
              by_cases h : j + 1 < k' + 1
              · exact hn2 j z z' h hz hz'
              · obtain rfl : j = k' := by omega
                rw [hy] at hz; rw [hx] at hz'; cases hz; cases hz'; unfold keyLt; omega⟩
            case measure => simp [intOf]; omega
          · have hfe : x.f = y.f := by omega
            have hfeB : (x.f == y.f) = true := by simpa using hfe
            have hnl : ¬ x.f < y.f := hlt
            clear hlt hge
            by_cases hle : x.t ≤ y.t
            · have hXf : Aside (x.f = y.f) := hfe
              clear hfe
              iterate 37 (first | (apply Calm.chain_step; (exact rfl); (intro wr2 hw; subst hw; go_simp; exact rfl)) | (apply Calm.chain_step_w; (go_simp); (intro wr2 hw; subst hw; go_simp; exact rfl)) | (refine Calm.chain_skip (by first | (go_simp; done) | (go_simp; intro h; cases h)) ?_))
              refine Calm.chain_nil ?_
              intro w5 hw5
              subst hw5
              show wpList _ _ _ _ _ _
              go_wp2
              go_ret
              exact ⟨.inr ⟨rfl, fun h => by have h9 := h.2.2.2 k' y x hy hx; have h8 := hXf.out; unfold keyLt at h9; omega⟩, b0.trans (hBd.mono (by omega))⟩
            · have hXf : Aside (x.f = y.f) := hfe
              clear hfe
              iterate 37 (first | (apply Calm.chain_step; (exact rfl); (intro wr2 hw; subst hw; go_simp; exact rfl)) | (apply Calm.chain_step_w; (go_simp); (intro wr2 hw; subst hw; go_simp; exact rfl)) | (refine Calm.chain_skip (by first | (go_simp; done) | (go_simp; intro h; cases h)) ?_))
              refine Calm.chain_nil ?_
              intro w5 hw5
              subst hw5
              show wpList _ _ _ _ _ _
              go_wp2
              go_roundw
              case rel => exact ⟨k' + 1 + 1, by omega, by simp, hBd, fun j z hj hz => by
                rcases Nat.lt_succ_iff_lt_or_eq.1 hj with h | h
                · exact hn1 j z h hz
                · rw [h, hx] at hz; cases hz; exact ⟨hxf', hxt'⟩, fun j z z' hj hz hz' => by
                by_cases h : j + 1 < k' + 1
                · exact hn2 j z z' h hz hz'
                · obtain rfl : j = k' := by omega
                  rw [hy] at hz; rw [hx] at hz'; cases hz; cases hz'; have h8 := hXf.out; unfold keyLt; omega⟩
              case measure => simp [intOf]; omega
    · subst hi
      obtain rfl : k = len := by omega
      clear h1 g1
      go_wp2
      go_ret
      refine ⟨.inl ⟨rfl, hf', ht', ?_, ?_⟩, bw⟩
      · intro i x hx; exact hn1 i x (by have := (List.getElem?_eq_some_iff.1 hx).1; omega) hx
      · intro i x y hx hy; exact hn2 i x y (by have := (List.getElem?_eq_some_iff.1 hy).1; omega) hx hy
end Go.Proofs.YtbleedclnkpbkaaGreatDoor
end
