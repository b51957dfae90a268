/-
  A part of the proof of the card of WorkbenchClausesInOrder (second form): lemmas that the text Card uses. No condition of its own.
-/
import Derived.Test.YtihaajnknnapmaaGreatDoorRefB
import Derived.Test.YtihaajnknnapmaaGreatDoorRules
import Derived.Laws.BytesArg
set_option linter.all false
set_option linter.unusedVariables false
set_option linter.unusedSimpArgs false
section
namespace Go.Proofs.YtihaajnknnapmaaGreatDoor
open Go.RowKit Go.Big
attribute [local go_sem] Heavy.uponW
/-- the reference's Fault of a number -/
def numFault (neg : Bool) (A C : List Nat) : Int :=
  if 128 < A.length ∨ 128 < C.length then 3
  else if C = [] ∨ C.getLast? = some 0 ∨ A.getLast? = some 0 then 2
  else if val 4294967296 A = 0 ∧ (neg = true ∨ val 4294967296 C ≠ 1) then 2
  else if Nat.gcd (val 4294967296 A) (val 4294967296 C) ≠ 1 then 2
  else 0
theorem one_natR (w : World) : NatR (w.heap.size + 1) (w.alloc (Obj.cells #[.int .i64 1] 3)) (.slice (some ⟨w.heap.size, 0, none⟩) 1 1) 1 := by
  have hn := new_cells w [iv 1] 3 (0, 0)
  refine ⟨_, [1], 1, rfl, Nat.le_refl _, by unfold maxLen; omega, ⟨by simp, fun _ => ⟨w.heap.size, 0, rfl, by omega, fun j x hx => ?_⟩⟩, by intro x hx; simp at hx; omega, by simp [val]⟩
  rcases j with _ | j
  · simp at hx; subst hx
    exact hn 0 (iv 1) rfl
  · simp at hx
set_option maxRecDepth 100000 in
set_option maxHeartbeats 2000000 in
/-- Fault -/
theorem rnum_calls (neg : Bool) (a1 a2 : Option Addr) (len1 len2 cap1 cap2 n : Nat) (A C : List Nat) (hl1 : A.length = len1) (hl2 : C.length = len2) (hb1 : len1 < 4611686018427387904) (hb2 : len2 < 4611686018427387904) (w : World) (hn : n ≤ w.heap.size) (h1 : LimAt n w a1 A) (h2 : LimAt n w a2 C) :
    Calls Tryz.prog 18 #[.agg #[.bool neg, .slice a1 len1 cap1, .slice a2 len2 cap2]] w fun e w' => e = .returned (.int .i64 (numFault neg A C)) ∧ Below w.heap.size w w' := by
  by_cases hc1 : 128 < len1
  · have hv : numFault neg A C = 3 := by unfold numFault; rw [if_pos (.inl (by omega))]
    rw [hv]
    have hi1 : (128 : Int) < (len1 : Int) := by omega
    go_enter Tryz.func18, Tryz.ntmps18
    go_wp2
    go_ret
    exact ⟨rfl, below_alloc _ _⟩
  by_cases hc2 : 128 < len2
  · have hv : numFault neg A C = 3 := by unfold numFault; rw [if_pos (.inr (by omega))]
    rw [hv]
    have hi1 : ¬ (128 : Int) < (len1 : Int) := by omega
    have hi2 : (128 : Int) < (len2 : Int) := by omega
    go_enter Tryz.func18, Tryz.ntmps18
    go_wp2
    go_ret
    exact ⟨rfl, below_alloc _ _⟩
  have hi1 : ¬ (128 : Int) < (len1 : Int) := by omega
  have hi2 : ¬ (128 : Int) < (len2 : Int) := by omega
  by_cases hc3 : len2 = 0
  · have hv : numFault neg A C = 2 := by
      unfold numFault
      rw [if_neg (by omega), if_pos (.inl (List.eq_nil_of_length_eq_zero (by omega)))]
    rw [hv]
    subst hc3
    go_enter Tryz.func18, Tryz.ntmps18
    go_wp2
    go_ret
    exact ⟨rfl, below_alloc _ _⟩
  obtain ⟨k2, rfl⟩ : ∃ k2, len2 = k2 + 1 := ⟨len2 - 1, by omega⟩
  obtain ⟨y, hy⟩ : ∃ y, C[k2]? = some y := ⟨C[k2], List.getElem?_eq_getElem (by omega)⟩
  have hylast : C.getLast? = some y := by rw [List.getLast?_eq_getElem?, hl2, Nat.add_sub_cancel]; exact hy
  have hCne : C ≠ [] := by rintro rfl; simp at hl2
  obtain ⟨b2, o2, rfl, hbn2, hyl, hcy⟩ := h2.get hy
  have hw2 : IntKind.i64.wrap ((k2 : Int) + 1 - 1) = (k2 : Int) := by rw [IntKind.wrap_i64]; omega
  have hj2 : (k2 : Int) < (k2 : Int) + 1 := by omega
  have hj2' : (0 : Int) ≤ (k2 : Int) := by omega
  have hne2 : ((k2 : Int) + 1 == 0) = false := by simp; omega
  have hcy' : ∀ o, (w.alloc o).cell? ⟨b2, o2 + k2, none⟩ = some (.int .u32 y) := fun o => ((below_alloc w o).cell (p := ⟨b2, o2 + k2, none⟩) (by show b2 < _; omega)).trans hcy
  by_cases hc4 : y = 0
  · have hv : numFault neg A C = 2 := by
      unfold numFault
      rw [if_neg (by omega), if_pos (.inr (.inl (by rw [hylast, hc4])))]
    rw [hv]
    subst hc4
    clear hylast
    go_enter Tryz.func18, Tryz.ntmps18
    go_wp2
    go_ret
    exact ⟨rfl, below_alloc _ _⟩
  have hyB : ((y : Int) == 0) = false := by simp; omega
  clear hcy
  by_cases hc5 : A.getLast? = some 0
  · have hv : numFault neg A C = 2 := by
      unfold numFault
      rw [if_neg (by omega), if_pos (.inr (.inr hc5))]
    rw [hv]
    have hAne : A ≠ [] := by rintro rfl; simp at hc5
    obtain ⟨k1, rfl⟩ : ∃ k1, len1 = k1 + 1 := ⟨len1 - 1, by have := List.length_pos_iff.2 hAne; omega⟩
    rw [List.getLast?_eq_getElem?, hl1, Nat.add_sub_cancel] at hc5
    obtain ⟨b1, o1, rfl, hbn1, hxl, hcx⟩ := h1.get hc5
    have hw1 : IntKind.i64.wrap ((k1 : Int) + 1 - 1) = (k1 : Int) := by rw [IntKind.wrap_i64]; omega
    have hj1 : (k1 : Int) < (k1 : Int) + 1 := by omega
    have hj1' : (0 : Int) ≤ (k1 : Int) := by omega
    have hj1'' : (0 : Int) < (k1 : Int) + 1 := by omega
    have hcx' : ∀ o, (w.alloc o).cell? ⟨b1, o1 + k1, none⟩ = some (.int .u32 (0 : Nat)) := fun o => ((below_alloc w o).cell (p := ⟨b1, o1 + k1, none⟩) (by show b1 < _; omega)).trans hcx
    clear hylast hcx hc5
    go_enter Tryz.func18, Tryz.ntmps18
    go_wp2
    go_ret
    exact ⟨rfl, below_alloc _ _⟩
  obtain ⟨x, hX⟩ : ∃ x, val 4294967296 A = x := ⟨_, rfl⟩
  obtain ⟨z, hY⟩ : ∃ z, val 4294967296 C = z := ⟨_, rfl⟩
  have hbad : numFault neg A C = if x = 0 ∧ (neg = true ∨ z ≠ 1) then 2 else if Nat.gcd x z ≠ 1 then 2 else 0 := by
    unfold numFault
    rw [if_neg (by omega), if_neg (by rw [hylast]; rintro (h | h | h); exact hCne h; exact hc4 (by simpa using h); exact hc5 h), hX, hY]
  obtain ⟨F, hF⟩ : ∃ F : Int, (if x = 0 ∧ (neg = true ∨ z ≠ 1) then 2 else if Nat.gcd x z ≠ 1 then 2 else 0) = F := ⟨_, rfl⟩
  rw [hbad, hF]
  have AF : Aside ((if x = 0 ∧ (neg = true ∨ z ≠ 1) then 2 else if Nat.gcd x z ≠ 1 then 2 else 0) = F) := hF
  clear hbad hF
  obtain ⟨P, hP⟩ : ∃ P, P = 65536 ^ 256 := ⟨_, rfl⟩
  have hxP : x < P := by
    rw [hP, ← show (4294967296 : Nat) ^ 128 = 65536 ^ 256 by rw [show (256 : Nat) = 2 * 128 from rfl, Nat.pow_mul], ← hX]
    exact Nat.lt_of_lt_of_le (val_lt h1.1) (Nat.pow_le_pow_right (by decide) (by omega))
  have hyP : z < P := by
    rw [hP, ← show (4294967296 : Nat) ^ 128 = 65536 ^ 256 by rw [show (256 : Nat) = 2 * 128 from rfl, Nat.pow_mul], ← hY]
    exact Nat.lt_of_lt_of_le (val_lt h2.1) (Nat.pow_le_pow_right (by decide) (by omega))
  have AXY : Aside (val 4294967296 A = x ∧ val 4294967296 C = z) := ⟨hX, hY⟩
  have AP : Aside (P = 65536 ^ 256) := hP
  clear hX hY hP
  go_enter Tryz.func18, Tryz.ntmps18
  go_upto_region 3 with fail
  go_cut [46] from 15 to 45 (fun s46 wx => s46 = .bool false ∧ wx = w.alloc (Obj.cells #[.bool neg, .slice a1 len1 cap1, .slice (some ⟨b2, o2, none⟩) (k2 + 1) cap2] 34))
  case first =>
    by_cases hl0 : len1 = 0
    · subst hl0
      go_wp2_with fail
      go_meet
      exact ⟨rfl, rfl⟩
    · obtain ⟨k1, rfl⟩ : ∃ k1, len1 = k1 + 1 := ⟨len1 - 1, by omega⟩
      obtain ⟨x, hx⟩ : ∃ x, A[k1]? = some x := ⟨A[k1], List.getElem?_eq_getElem (by omega)⟩
      rw [List.getLast?_eq_getElem?, hl1, Nat.add_sub_cancel, hx] at hc5
      obtain ⟨b1, o1, rfl, hbn1, hxl, hcx⟩ := h1.get hx
      have hxB : ((x : Int) == 0) = false := by have : x ≠ 0 := fun e => hc5 (by rw [e]); simp; omega
      have hw1 : IntKind.i64.wrap ((k1 : Int) + 1 - 1) = (k1 : Int) := by rw [IntKind.wrap_i64]; omega
      have hj1 : (k1 : Int) < (k1 : Int) + 1 := by omega
      have hj1' : (0 : Int) ≤ (k1 : Int) := by omega
      have hj1'' : (0 : Int) < (k1 : Int) + 1 := by omega
      have hcx' : ∀ o, (w.alloc o).cell? ⟨b1, o1 + k1, none⟩ = some (.int .u32 x) := fun o => ((below_alloc w o).cell (p := ⟨b1, o1 + k1, none⟩) (by show b1 < _; omega)).trans hcx
      clear hylast hcx hc5
      go_wp2_with fail
      go_meet
      exact ⟨rfl, rfl⟩
  case rest =>
    obtain ⟨rfl, hwx⟩ := hcut
    have hlw : w.heap.size < wc.heap.size := by rw [hwx, World.size_alloc]; omega
    have hBw : Below w.heap.size w wc := hwx ▸ below_alloc _ _
    have hblk : wc.heap[w.heap.size]? = some (Obj.cells #[.bool neg, .slice a1 len1 cap1, .slice (some ⟨b2, o2, none⟩) (k2 + 1) cap2] 34) := by rw [hwx]; exact heap_alloc_new _ _
    have cb0 : wc.cell? ⟨w.heap.size, 0, none⟩ = some (.bool neg) := by simp [World.cell?, hblk]
    have cb1 : wc.cell? ⟨w.heap.size, 1, none⟩ = some (.slice a1 len1 cap1) := by simp [World.cell?, hblk]
    have cb2 : wc.cell? ⟨w.heap.size, 2, none⟩ = some (.slice (some ⟨b2, o2, none⟩) (k2 + 1) cap2) := by simp [World.cell?, hblk]
    have g1 := h1.below hBw hn
    have g2 := h2.below hBw hn
    clear hwx
    generalize wc = wb at *
    clear hblk hylast hcy' hi1 hi2 hw2 hj2 hj2' hne2 hyB
    go_upto_region 5 with fail
    go_cut [3, 4] from 47 to 52 (fun s3 s4 wx => NatR wx.heap.size wx s3 x ∧ NatR wx.heap.size wx s4 z ∧ Below wb.heap.size wb wx)
    case first =>
      refine Heavy.region_plan (fun w' => Below wb.heap.size wb w') 6 (Heavy.lights [0, 1, 3, 4] (.one 2 (.one 5 .done))) (by kernel_rfl) (by kernel_rfl) ⟨rfl, rfl, rfl, Nat.le_refl _, fun _ _ => rfl⟩ ?_
      simp only [Heavy.lights, List.take_succ_cons, List.take_zero, List.drop_succ_cons, List.drop_zero]
      have fc : ∀ w2, Below wb.heap.size wb w2 → w2.cell? ⟨w.heap.size, 1, none⟩ = some (.slice a1 len1 cap1) ∧ w2.cell? ⟨w.heap.size, 2, none⟩ = some (.slice (some ⟨b2, o2, none⟩) (k2 + 1) cap2) := fun w2 hb =>
        ⟨(hb.cell (p := ⟨w.heap.size, 1, none⟩) (by show w.heap.size < _; omega)).trans cb1, (hb.cell (p := ⟨w.heap.size, 2, none⟩) (by show w.heap.size < _; omega)).trans cb2⟩
      clear cb0 cb1 cb2
      have hBd : Below wb.heap.size wb { wb with drawn := wb.drawn + 1 } := ⟨rfl, rfl, rfl, Nat.le_refl _, fun _ _ => rfl⟩
      have n1 := fun w' (hb : Below wb.heap.size wb w') => rnatOf_calls a1 len1 cap1 n A hl1 (by omega) w' (by have := hb.size; omega) (g1.below hb (by omega))
      rw [AXY.out.1] at n1
      have n2 := fun w' (hb : Below wb.heap.size wb w') => rnatOf_calls (some ⟨b2, o2, none⟩) (k2 + 1) cap2 n C hl2 (by omega) w' (by have := hb.size; omega) (g2.below hb (by omega))
      rw [AXY.out.2] at n2
      iterate 4 (apply Heavy.light_n; (exact rfl); (exact rfl); (intro wr2 hw; have x0 := (fc wr2 hw).1; have x1 := (fc wr2 hw).2; go_simp; exact rfl))
      apply Heavy.one_n
      · exact rfl
      · exact rfl
      go_simp
      refine (n1 _ hBd).mono ?_
      rintro e w3 ⟨r3, rfl, hN3, hb3⟩
      have hB3 : Below wb.heap.size wb w3 := hBd.trans hb3
      refine ⟨_, rfl, hB3, ?_⟩
      apply Heavy.one_n
      · exact rfl
      · exact rfl
      go_simp
      refine (n2 _ hB3).mono ?_
      rintro e w4 ⟨r4, rfl, hN4, hb4⟩
      refine ⟨_, rfl, hB3.trans (hb4.mono hB3.size), ?_⟩
      apply Heavy.plan_end
      show wpList _ _ _ _ _ _
      go_wp2
      go_meet
      exact ⟨(hN3.below hb4 (Nat.le_refl _)).up hb4.size, hN4, hB3.trans (hb4.mono hB3.size)⟩
    case rest =>
      obtain ⟨hA, hC, hB⟩ := hcut
      have e0 : wc.cell? ⟨w.heap.size, 0, none⟩ = some (.bool neg) := (hB.cell (p := ⟨w.heap.size, 0, none⟩) hlw).trans cb0
      have hBc : Below w.heap.size w wc := hBw.trans (hB.mono hBw.size)
      clear cb0 cb1 cb2 g1 g2 hB hBw
      have hP := AP.out
      clear h1 h2 hc5
      obtain ⟨a3, l3, c3, rfl⟩ := hA.slice
      obtain ⟨a4, l4, c4, rfl⟩ := hC.slice
      have hz3 := hA.zero_iff
      go_upto_region 6 with fail
      go_cut [65] from 53 to 64 (fun s65 wx => s65 = .bool (decide (x = 0 ∧ (neg = true ∨ z ≠ 1))) ∧ Below wc.heap.size wc wx)
      case first =>
        by_cases hx0 : x = 0
        · obtain rfl : l3 = 0 := hz3.1 hx0
          have Ax : Aside (x = 0) := hx0
          clear hx0 hz3
          cases neg
          · have hB1 := below_alloc wc (Obj.cells #[.int .i64 1] 3)
            have hcm := rcmpN _ _ _ _ z 1 256 (wc.alloc (Obj.cells #[.int .i64 1] 3)) (hC.below hB1 (Nat.le_refl _)) (one_natR wc) (hP ▸ hyP) (Nat.one_lt_pow (by decide) (by decide)) (by decide)
            by_cases hy1 : z = 1
            · have hcv : cmpV z 1 = 0 := by simp [cmpV, hy1]
              rw [hcv] at hcm
              have Ay : Aside (z = 1) := hy1
              clear hy1 hcv
              go_wp2_with (go_at_call 39; with_reducible refine hcm.mono ?_; rintro e w' ⟨rfl, rfl⟩)
              go_meet
              exact ⟨by simp [Ax.out, Ay.out], hB1⟩
            · obtain ⟨cv, hcv⟩ : ∃ cv, cmpV z 1 = cv := ⟨_, rfl⟩
              have hcn : (cv == 0) = false := by
                rw [← hcv]; unfold cmpV
                split
                · rfl
                · split
                  · rfl
                  · exfalso; omega
              have hcn2 : Aside (¬ cv = 0) := by intro h; simp [h] at hcn
              rw [hcv] at hcm
              have Ay : Aside (¬ z = 1) := hy1
              clear hy1 hcv
              go_wp2_with (go_at_call 39; with_reducible refine hcm.mono ?_; rintro e w' ⟨rfl, rfl⟩)
              go_meet
              exact ⟨by have := hcn2.out; simp [Ax.out, Ay.out, this], hB1⟩
          · go_wp2_with fail
            go_meet
            exact ⟨by simp [Ax.out], Below.refl _ _⟩
        · have hl3 : ((l3 : Int) == 0) = false := by have : l3 ≠ 0 := fun e => hx0 (hz3.2 e); simp; omega
          have Ax : Aside (¬ x = 0) := hx0
          clear hx0 hz3
          go_wp2_with fail
          go_meet
          exact ⟨by simp [Ax.out], Below.refl _ _⟩
      case rest =>
        obtain ⟨rfl, hB2⟩ := hcut
        have hBw2 := hBc.trans (hB2.mono hBc.size)
        have hA2 := (hA.below hB2 (Nat.le_refl _)).up hB2.size
        have hC2 := (hC.below hB2 (Nat.le_refl _)).up hB2.size
        clear hA hC hB2 e0 hBc hz3
        by_cases hbad : x = 0 ∧ (neg = true ∨ z ≠ 1)
        · have hF2 : Aside (F = 2) := by have := AF.out; rw [if_pos hbad] at this; exact this.symm
          have hd : decide (x = 0 ∧ (neg = true ∨ z ≠ 1)) = true := decide_eq_true hbad
          rw [hd]
          clear hd hbad
          go_wp2
          go_ret
          exact ⟨by rw [hF2.out]; rfl, hBw2⟩
        · have hF0 := AF.out
          rw [if_neg hbad] at hF0
          have hd : decide (x = 0 ∧ (neg = true ∨ z ≠ 1)) = false := decide_eq_false hbad
          rw [hd]
          clear hd hbad
          have hg := rgcd_calls _ _ _ _ x z P 256 hP (by decide) hxP hyP wc (Nat.le_refl _) (Nat.le_refl _) hA2 hC2
          obtain ⟨g, hgg⟩ : ∃ g, Nat.gcd x z = g := ⟨_, rfl⟩
          have hgP : g < P ∨ x = 0 ∧ z = 0 := by
            rw [← hgg]
            by_cases hx0 : x = 0
            · subst hx0; rw [Nat.gcd_zero_left]; exact .inl hyP
            · exact .inl (Nat.lt_of_le_of_lt (Nat.gcd_le_left z (Nat.pos_of_ne_zero hx0)) hxP)
          have hgP' : g < P := by
            rcases hgP with h | ⟨rfl, rfl⟩
            · exact h
            · rw [← hgg]; exact hxP
          rw [hgg] at hg
          have Agg : Aside (Nat.gcd x z = g) := hgg
          have hcm := fun w' r (hr : NatR w'.heap.size w' r g) => rcmpN _ _ _ _ g 1 256 (w'.alloc (Obj.cells #[.int .i64 1] 3)) (hr.below (below_alloc w' (Obj.cells #[.int .i64 1] 3)) (Nat.le_refl _)) (one_natR w') (hP ▸ hgP') (Nat.one_lt_pow (by decide) (by decide)) (by decide)
          clear hgP hgg
          by_cases hg1 : g = 1
          · have hcv : cmpV g 1 = 0 := by simp [cmpV, hg1]
            rw [if_neg (by rw [Agg.out]; simpa using hg1)] at hF0
            have hF2 : Aside (F = 0) := hF0.symm
            rw [hcv] at hcm
            clear hcv hg1 hF0
            go_wp2_with first | (go_at_call 40; with_reducible refine hg.mono ?_; rintro e w2 ⟨rg, rfl, hR, hb2⟩) | (go_at_call 39; with_reducible refine (hcm _ _ (by assumption)).mono ?_; rintro e w' ⟨rfl, rfl⟩)
            go_ret
            exact ⟨by rw [hF2.out]; rfl, hBw2.trans ((hb2.mono hBw2.size).alloc (Nat.le_trans hBw2.size hb2.size) _)⟩
          · obtain ⟨cv, hcv⟩ : ∃ cv, cmpV g 1 = cv := ⟨_, rfl⟩
            have hcn : (cv == 0) = false := by
              rw [← hcv]; unfold cmpV
              split
              · rfl
              · split
                · rfl
                · exfalso; omega
            rw [if_pos (by rw [Agg.out]; simpa using hg1)] at hF0
            have hF2 : Aside (F = 2) := hF0.symm
            rw [hcv] at hcm
            clear hcv hg1 hF0
            go_wp2_with first | (go_at_call 40; with_reducible refine hg.mono ?_; rintro e w2 ⟨rg, rfl, hR, hb2⟩) | (go_at_call 39; with_reducible refine (hcm _ _ (by assumption)).mono ?_; rintro e w' ⟨rfl, rfl⟩)
            go_ret
            exact ⟨by rw [hF2.out]; rfl, hBw2.trans ((hb2.mono hBw2.size).alloc (Nat.le_trans hBw2.size hb2.size) _)⟩
end Go.Proofs.YtihaajnknnapmaaGreatDoor
end
section
namespace Go.Proofs.YtihaajnknnapmaaGreatDoor
open Go.RowKit Go.Big
/-! rows of bytes -/
theorem inf5 : (Tryz.prog.info? 5).map (fun i => (i.zero, i.size, i.bytes)) = some (some (.int .u8 0), 1, 1) := by kernel_rfl
def bv (x : Nat) : Value := .int .u8 x
def strN (L : List Nat) : ByteArray := strOfNums (L.map fun x : Nat => (x : Int))
theorem strN_size (L : List Nat) : (strN L).size = L.length := by simp [strN, strOfNums_size]
theorem strN_data (L : List Nat) : (strN L).data.toList = L.map UInt8.ofNat := by simp [strN, strOfNums_data]
theorem byteArray_ext' {a b : ByteArray} (h : a.data.toList = b.data.toList) : a = b := by
  cases a; cases b
  simp at h
  congr
theorem strN_append (A C : List Nat) : strN A ++ strN C = strN (A ++ C) := by
  apply byteArray_ext'
  rw [ByteArray.data_append, Array.toList_append, strN_data, strN_data, strN_data, List.map_append]
theorem strN_inj {A C : List Nat} (hA : ∀ x ∈ A, x < 256) (hC : ∀ x ∈ C, x < 256) (h : strN A = strN C) : A = C := by
  have h1 : A.map UInt8.ofNat = C.map UInt8.ofNat := by rw [← strN_data, ← strN_data, h]
  have h2 := congrArg (List.map UInt8.toNat) h1
  rw [List.map_map, List.map_map] at h2
  have e : ∀ L : List Nat, (∀ x ∈ L, x < 256) → L.map (UInt8.toNat ∘ UInt8.ofNat) = L := fun L hL => by
    conv => rhs; rw [← List.map_id L]
    refine List.map_congr_left fun x hx => ?_
    simp [Nat.mod_eq_of_lt (hL x hx)]
  rwa [e A hA, e C hC] at h2
/-- a row of bytes that the call owns -/
def BytRow (base : Nat) (w : World) (sv : Value) (D : List Nat) : Prop := w.ownsRow base 5 1 sv D.length (D.map bv)
theorem BytRow.kept {base : Nat} {w w' : World} {sv : Value} {D : List Nat} (h : BytRow base w sv D) (hk : ∀ k, base ≤ k → k < w.heap.size → w'.heap[k]? = w.heap[k]?) : BytRow base w' sv D := by
  obtain ⟨h1, h2 | ⟨g, cap, cur, e1, hb, hg, h3⟩⟩ := h
  · exact ⟨h1, .inl h2⟩
  · exact ⟨h1, .inr ⟨g, cap, cur, e1, hb, (hk g hb (Array.getElem?_eq_some_iff.1 hg).1).trans hg, h3⟩⟩
theorem BytRow.below {base m : Nat} {w w' : World} {sv : Value} {D : List Nat} (h : BytRow base w sv D) (hb : Below m w w') (hm : w.heap.size ≤ m) : BytRow base w' sv D :=
  h.kept fun k _ hk => hb.block k (by omega)
theorem BytRow.nil (base : Nat) (w : World) : BytRow base w (.slice none 0 0) [] := World.ownsRow_nil _ _ _ _
theorem BytRow.own {base : Nat} {w : World} {sv : Value} {D : List Nat} (h : BytRow base w sv D) : ∀ k, sv.ownBlock = some k → base ≤ k ∧ k < w.heap.size := World.ownsRow.lt h
def BytAt (n : Nat) (w : World) (a : Option Addr) (L : List Nat) : Prop :=
  L ≠ [] → ∃ b off, a = some ⟨b, off, none⟩ ∧ b < n ∧ ∀ (j x : Nat), L[j]? = some x → w.cell? ⟨b, off + j, none⟩ = some (.int .u8 x)
theorem BytAt.below {n m : Nat} {w w' : World} {a : Option Addr} {L : List Nat} (h : BytAt n w a L) (hb : Below m w w') (hm : n ≤ m) : BytAt n w' a L := by
  intro hne
  obtain ⟨b, off, e, hbn, hc⟩ := h hne
  exact ⟨b, off, e, hbn, fun j x hx => ((hb.mono hm).cell (p := ⟨b, off + j, none⟩) hbn).trans (hc j x hx)⟩
theorem BytRow.at {base : Nat} {w : World} {sv : Value} {D : List Nat} (h : BytRow base w sv D) : ∃ a c, sv = .slice a D.length c ∧ D.length ≤ c ∧ c ≤ maxLen ∧ BytAt w.heap.size w a D := by
  obtain ⟨h1, ⟨e, h0⟩ | ⟨g, cap, cur, e1, hb, hg, hnc, hm, hs, ht⟩⟩ := h
  · have : D = [] := List.eq_nil_of_length_eq_zero h0
    subst this
    exact ⟨none, 0, e, Nat.le_refl _, Nat.zero_le _, fun h => absurd rfl h⟩
  · refine ⟨some ⟨g, 0, none⟩, cap, e1, hnc, hm, fun _ => ⟨g, 0, rfl, (Array.getElem?_eq_some_iff.1 hg).1, fun j x hx => ?_⟩⟩
    have hj := (List.getElem?_eq_some_iff.1 hx).1
    have h2 : cur[j]? = some (bv x) := by
      rw [← Array.getElem?_toList, ← List.getElem?_take_of_lt (show j < D.length * 1 by omega), ht, List.getElem?_map, hx]; rfl
    simpa [World.cell?, hg, bv] using h2
/-- the append of bytes onto a row of the call's own -/
theorem wpList_pushB {ops : Array Oper} {rest : List Oper} {o : Oper} {a : Act} {Q : Exit → Act → World → Prop} (w : World) (hgd : o.guard = none) (s x : Operand)
    (ho : o.op = .call { callee := .builtin .append, args := #[s, x], argTypes := #[46, 46] }) (base : Nat) (sv : Value) (D xs : List Nat) (m : Nat) (hm : xs.length = m) (hs : a.eval s = sv) (g c : Nat) (hx : a.eval x = .slice (some ⟨g, 0, none⟩) m c)
    (hc : ∀ (j : Nat) u, (xs.map bv)[j]? = some u → w.cell? ⟨g, j, none⟩ = some u) (hR : BytRow base w sv D) (hlen : D.length + m ≤ 17592186044416) (hbase : base ≤ w.heap.size)
    (h : ∀ v' w', BytRow base w' v' (D ++ xs) → Below base w w' → wpList Tryz.prog ops Q rest (a.put o.dst v') w') : wpList Tryz.prog ops Q (o :: rest) a w := by
  obtain ⟨i0, hi0, hz0, hz1, hz2⟩ := info_parts inf5
  refine wpList_append_own w hgd s x 46 ho base 5 i0 (.int .u8 0) 1 1 Tryz.underlying46 hi0 hz0 hz1 hz2 rfl (by decide) sv D.length (D.map bv) hs hR ⟨g, 0, none⟩ m c (xs.map bv) hx (by simp [hm]) (fun j u hj => ?_) ?_ (by unfold maxLen; omega) (by omega) hbase ?_
  · rw [Addr.add_lit, Nat.zero_add]; exact hc j u hj
  · intro u hu
    obtain ⟨y, _, rfl⟩ := List.mem_map.1 hu
    rfl
  · intro v' w' h1 h2 h3
    refine h v' w' ?_ ((Below.refl _ w).grown h2 hbase fun k hk => (BytRow.own hR k hk).1)
    unfold BytRow
    rw [List.length_append, List.map_append, hm]; exact h1
/-- the append of bytes onto a row of the call's own -/
theorem wpList_pushB2 {ops : Array Oper} {rest : List Oper} {o : Oper} {a : Act} {Q : Exit → Act → World → Prop} (w : World) (hgd : o.guard = none) (s x : Operand)
    (ho : o.op = .call { callee := .builtin .append, args := #[s, x], argTypes := #[46, 46] }) (base : Nat) (sv : Value) (D xs : List Nat) (m : Nat) (hm : xs.length = m) (hs : a.eval s = sv) (g c : Nat) (hx : a.eval x = .slice (some ⟨g, 0, none⟩) m c)
    (hc : ∀ (j : Nat) u, (xs.map bv)[j]? = some u → w.cell? ⟨g, j, none⟩ = some u) (hR : BytRow base w sv D) (hlen : D.length + m ≤ 17592186044416) (hbase : base ≤ w.heap.size)
    (h : ∀ v' w', BytRow base w' v' (D ++ xs) → Below base w w' → w.grownBy w' sv.ownBlock → wpList Tryz.prog ops Q rest (a.put o.dst v') w') : wpList Tryz.prog ops Q (o :: rest) a w := by
  obtain ⟨i0, hi0, hz0, hz1, hz2⟩ := info_parts inf5
  refine wpList_append_own w hgd s x 46 ho base 5 i0 (.int .u8 0) 1 1 Tryz.underlying46 hi0 hz0 hz1 hz2 rfl (by decide) sv D.length (D.map bv) hs hR ⟨g, 0, none⟩ m c (xs.map bv) hx (by simp [hm]) (fun j u hj => ?_) ?_ (by unfold maxLen; omega) (by omega) hbase ?_
  · rw [Addr.add_lit, Nat.zero_add]; exact hc j u hj
  · intro u hu
    obtain ⟨y, _, rfl⟩ := List.mem_map.1 hu
    rfl
  · intro v' w' h1 h2 h3
    refine h v' w' ?_ ((Below.refl _ w).grown h2 hbase fun k hk => (BytRow.own hR k hk).1) h2
    unfold BytRow
    rw [List.length_append, List.map_append, hm]; exact h1
/-- a block of bytes -/
def BBlk (w : World) (b : Nat) (cur : List Nat) : Prop := w.heap[b]? = some (.cells (cur.map bv).toArray 5 (0, 0))
theorem BBlk.cell {w : World} {b : Nat} {cur : List Nat} (h : BBlk w b cur) {k x : Nat} (hx : cur[k]? = some x) : w.cell? ⟨b, k, none⟩ = some (.int .u8 x) ∧ w.frozen? ⟨b, k, none⟩ = false := by
  unfold BBlk at h
  simp [World.cell?, World.frozen?, h, hx, bv]
theorem BBlk.made (w : World) (n : Nat) : BBlk (w.alloc (.cells (madeCells #[.int .u8 0] n) 5)) w.heap.size (List.replicate n 0) := by
  unfold BBlk
  rw [heap_alloc_new]
  congr 2
  apply Array.ext_getElem?
  intro i
  by_cases hi : i < n
  · simp [madeCells, hi, Nat.mod_one, bv]
  · simp [madeCells, hi]
theorem BBlk.kept {w w' : World} {b m : Nat} {cur : List Nat} (h : BBlk w b cur) (hb : Below m w w') (hm : b < m) : BBlk w' b cur := (hb.block b hm).trans h
theorem BBlk.put {w : World} {b : Nat} {cur : List Nat} (h : BBlk w b cur) {k x : Nat} (hk : k < cur.length) : BBlk (w.setCell ⟨b, k, none⟩ (.int .u8 x)) b (cur.set k x) := by
  have hlt : b < w.heap.size := (Array.getElem?_eq_some_iff.1 h).1
  unfold BBlk at *
  show (Array.modify w.heap b _)[b]? = _
  rw [Array.getElem?_modify, if_pos rfl, h]
  simp [bv]
theorem BBlk.string {w : World} {b n : Nat} {cur : List Nat} (h : BBlk w b cur) (hn : cur.length = n) : (convert 46 9 (.slice (some ⟨b, 0, none⟩) n n)).run Tryz.prog w = .ok (.string (strN cur)) w :=
  run_convert_bytes_arg w 46 5 Tryz.underlying46 Tryz.underlying5 b 0 n n _ (by simp [hn]) (fun i hi => by
    obtain ⟨x, hx⟩ : ∃ x, cur[i]? = some x := ⟨cur[i], List.getElem?_eq_getElem (by omega)⟩
    rw [Nat.zero_add, (h.cell hx).1]
    simp [hx]) 9 Tryz.underlying9
end Go.Proofs.YtihaajnknnapmaaGreatDoor
end
section
namespace Go.Proofs.YtihaajnknnapmaaGreatDoor
open Go.RowKit Go.Big
theorem drop_set_self {cur : List Nat} {k x : Nat} (hk : k < cur.length) : (cur.set k x).drop k = x :: cur.drop (k + 1) := by
  rw [List.drop_eq_getElem_cons (by simpa using hk)]
  congr 1
  · simp
  · apply List.ext_getElem?
    intro j
    rw [List.getElem?_drop, List.getElem?_drop, List.getElem?_set_ne (by omega)]
theorem digs_len : ∀ (k : Nat) {n : Nat}, n < 2 ^ k → (digs n).length ≤ k
  | 0, n, h => by
    have : n = 0 := by simpa using h
    subst this; simp [digs_zero]
  | k + 1, n, h => by
    by_cases h0 : n = 0
    · subst h0; simp [digs_zero]
    · rw [digs_pos h0, List.length_cons]
      have := digs_len k (n := n / 10) (by
        rw [Nat.pow_succ] at h
        generalize 2 ^ k = P at *
        omega)
      omega
theorem digs_lenM {v M : Nat} (hv : v < 65536 ^ M) (hM : M ≤ 1048576) : (digs v).length ≤ 16777216 := by
  have h2 : (65536 : Nat) ^ M = 2 ^ (16 * M) := by rw [Nat.pow_mul]
  rw [h2] at hv
  have := digs_len _ hv
  omega
set_option maxRecDepth 100000 in
set_option maxHeartbeats 2000000 in
/-- Decimal -/
theorem rdec_calls (r1 : Value) (n1 v M : Nat) (hv : v < 65536 ^ M) (hM : M ≤ 1048576) (w : World) (hn1 : n1 ≤ w.heap.size) (h1 : NatR n1 w r1 v) :
    Calls Tryz.prog 41 #[r1] w fun e w' => e = .returned (.string (strN (dec v))) ∧ Below w.heap.size w w' := by
  by_cases hv0 : v = 0
  · obtain ⟨a1, len1, c1, rfl⟩ := h1.slice
    obtain rfl : len1 = 0 := h1.zero_iff.1 hv0
    subst hv0
    clear h1 hv
    go_enter Tryz.func41, Tryz.ntmps41
    go_wp2
    go_ret
    refine ⟨?_, Below.refl _ _⟩
    have : strN (dec 0) = { data := #[48] } := by rw [show dec 0 = [48] from rfl]; rfl
    rw [this]
    rfl
  · obtain ⟨a1, len1, c1, rfl⟩ := h1.slice
    have hl0 : len1 ≠ 0 := fun e => hv0 (h1.zero_iff.2 e)
    have hne1 : ((len1 : Int) == 0) = false := by simp; omega
    have i1 := h1.up hn1
    clear h1 hl0
    go_enter Tryz.func41, Tryz.ntmps41
    go_wp2
    go_loopw [0, 3] (fun s0 s3 wr => ∃ (x : Nat) (D : List Nat), NatR wr.heap.size wr s0 x ∧ digs v = D ++ digs x ∧ x ≤ v ∧ BytRow w.heap.size wr s3 (D.map (48 + ·)) ∧ Below w.heap.size w wr) (fun s0 _ wr => natAt wr s0)
    case atStart => exact ⟨v, [], i1, rfl, Nat.le_refl _, BytRow.nil _ _, Below.refl _ _⟩
    case round =>
      clear i1
      obtain ⟨x, D, hN, hD, hxv, hR, hB⟩ := hrel
      have m0 := hN.natAt
      obtain ⟨a2, A, c2, rfl, hlc, hcm, hat, hz, hAx⟩ := hN
      have hDlen : D.length ≤ 16777216 := by
        have := digs_lenM hv hM
        rw [hD, List.length_append] at this
        omega
      have hxM : x < 65536 ^ M := Nat.lt_of_le_of_lt hxv hv
      have hAl : A.length ≤ 1048576 := Nat.le_trans (hz.len_of (hAx ▸ hxM)) hM
      obtain ⟨len, hl⟩ : ∃ len, A.length = len := ⟨_, rfl⟩
      rw [hl] at hlc hAl m0 ⊢
      have Al : Aside (A.length = len ∧ val 65536 A = x ∧ digs v = D ++ digs x) := ⟨hl, hAx, hD⟩
      clear hl hAx hD hxM
      by_cases hx0 : len = 0
      · subst hx0
        have hA0 : A = [] := List.eq_nil_of_length_eq_zero Al.out.1
        have hx : x = 0 := by have := Al.out.2.1; rw [hA0] at this; exact this.symm
        have hDv : digs v = D := by have := Al.out.2.2; rw [hx, digs_zero, List.append_nil] at this; exact this
        obtain ⟨n, hn⟩ : ∃ n, D.length = n := ⟨_, rfl⟩
        rw [hn] at hDlen
        have hrow := hR.at
        obtain ⟨a3, c3, rfl, hc3, hc3m, hbat⟩ := hrow
        rw [List.length_map, hn] at hc3 ⊢
        have hmk := run_make_row' (P := Tryz.prog) 46 5 (.int .u8 0) 1 Tryz.underlying46 inf5 rfl .i64 .i64 n (by omega) (by omega)
        have AD : Aside (digs v = D ∧ D.length = n) := ⟨hDv, hn⟩
        clear hDv hn hx hA0 hat hz m0
        obtain ⟨wq, rfl⟩ : ∃ wq, wq = wr := ⟨_, rfl⟩
        go_wp2
        go_loopw [54] (fun s w2 => ∃ (i : Nat) (cur : List Nat), s = .int .i64 i ∧ i ≤ n ∧ BBlk w2 wq.heap.size cur ∧ cur.length = n ∧ (∀ j, j < i → cur[n - 1 - j]? = (D.map (48 + ·))[j]?) ∧ Below wq.heap.size wq w2) (fun s _ => n - (intOf s).toNat)
        case atStart => exact ⟨0, List.replicate n 0, rfl, Nat.zero_le _, BBlk.made _ _, by simp, fun j hj => absurd hj (by omega), below_alloc _ _⟩
        case round =>
          obtain ⟨i, cur, rfl, hi, hQ, hcl, hrev, hB2⟩ := hrel
          by_cases hlt : i < n
          · obtain ⟨y, hy⟩ : ∃ y, (D.map (48 + ·))[i]? = some y := ⟨_, List.getElem?_eq_getElem (by rw [List.length_map, AD.out.2]; exact hlt)⟩
            obtain ⟨b1, o1, rfl, hbn, hcc⟩ := (hbat.below hB2 (Nat.le_refl _)) (by rintro h; rw [h] at hy; simp at hy)
            have hc := hcc i y hy
            obtain ⟨m, hm⟩ : ∃ m, n - 1 - i = m := ⟨_, rfl⟩
            obtain ⟨e0, he0⟩ : ∃ e0, cur[m]? = some e0 := ⟨_, List.getElem?_eq_getElem (by omega)⟩
            obtain ⟨c0, z0⟩ := hQ.cell he0
            have hw1 : IntKind.i64.wrap ((n : Int) - 1) = (n : Int) - 1 := by rw [IntKind.wrap_i64]; omega
            have hw2 : IntKind.i64.wrap ((n : Int) - 1 - (i : Int)) = (m : Int) := by rw [IntKind.wrap_i64]; omega
            have hw3 : IntKind.i64.wrap ((i : Int) + 1) = (i : Int) + 1 := by rw [IntKind.wrap_i64]; omega
            have hi1 : (i : Int) < (n : Int) := by omega
            have hi2 : (m : Int) < (n : Int) := by omega
            have hi3 : (0 : Int) ≤ (i : Int) := by omega
            have hi4 : (0 : Int) ≤ (m : Int) := by omega
            have hrev' : ∀ j, j < i + 1 → (cur.set m y)[n - 1 - j]? = (D.map (48 + ·))[j]? := fun j hj => by
              by_cases hji : j = i
              · subst hji
                rw [hm, hy, List.getElem?_set_self (by omega)]
              · rw [List.getElem?_set_ne (by omega)]
                exact hrev j (by omega)
            have AR : Aside ((∀ j, j < i + 1 → (cur.set m y)[n - 1 - j]? = (D.map (48 + ·))[j]?) ∧ cur.length = n ∧ m < cur.length) := ⟨hrev', hcl, by omega⟩
            clear hrev hrev' hcl hy hm hcc hbat he0
            go_wp2
            go_roundw
            case rel => exact ⟨i + 1, cur.set m y, by simp, by omega, hQ.put AR.out.2.2, by simp [AR.out.2.1], AR.out.1, hB2.setCell (Nat.le_refl _) _⟩
            case measure => simp [intOf]; omega
          · obtain rfl : i = n := by omega
            have hfin : cur = (D.map (48 + ·)).reverse := by
              apply List.ext_getElem?
              intro j
              by_cases hj : j < i
              · have h9 := hrev (i - 1 - j) (by omega)
                rw [show i - 1 - (i - 1 - j) = j by omega] at h9
                rw [h9, List.getElem?_reverse (by rw [List.length_map, AD.out.2]; exact hj), List.length_map, AD.out.2]
              · rw [List.getElem?_eq_none (by omega), List.getElem?_eq_none (by rw [List.length_reverse, List.length_map, AD.out.2]; omega)]
            have hst := hQ.string hcl
            have AF : Aside (strN cur = strN (dec v)) := by
              show strN cur = strN (dec v)
              unfold dec
              rw [if_neg hv0, AD.out.1, hfin, List.map_reverse]
            clear hrev hfin hcl
            go_wp2
            go_ret
            exact ⟨by rw [← AF.out]; rfl, hB.trans (hB2.mono hB.size)⟩
      · have hlp : (0 : Int) < (len : Int) := by omega
        have hlp' : 0 < len := by omega
        have hmk := run_make_row' (P := Tryz.prog) 119 3 (.int .i64 0) 8 Tryz.underlying119 inf3 rfl .i64 .i64 len (by omega) (by omega)
        have hwl : IntKind.i64.wrap ((len : Int) - 1) = (len : Int) - 1 := by rw [IntKind.wrap_i64]; omega
        clear hx0
        obtain ⟨wq, rfl⟩ : ∃ wq, wq = wr := ⟨_, rfl⟩
        go_wp2
        go_loopw [4, 6] (fun s4 s6 w2 => ∃ (k r : Nat) (cur : List Nat), s6 = .int .i64 ((k : Int) - 1) ∧ s4 = .int .i64 r ∧ k ≤ len ∧ r < 10 ∧ IRow w2 wq.heap.size cur ∧ cur.length = len ∧ (∀ y ∈ cur, y < 65536) ∧ val 65536 (A.drop k) = 10 * val 65536 (cur.drop k) + r ∧ Below wq.heap.size wq w2) (fun _ s6 _ => (intOf s6 + 1).toNat)
        case atStart => exact ⟨len, 0, List.replicate len 0, rfl, rfl, Nat.le_refl _, by omega, IRow.made _ _, by simp, by simp, by rw [List.drop_of_length_le (by rw [Al.out.1]; exact Nat.le_refl _), List.drop_of_length_le (by simp)]; rfl, below_alloc _ _⟩
        case round =>
          obtain ⟨k, r, cur, rfl, rfl, hk, hr, hQ, hcl, hcd, hval, hB2⟩ := hrel
          by_cases hk0 : k = 0
          · subst hk0
            rw [List.drop_zero, List.drop_zero, Al.out.2.1] at hval
            have hx1 : x / 10 = val 65536 cur := by omega
            have hx2 : x % 10 = r := by omega
            have hxne : x ≠ 0 := by
              have := Al.out
              intro e
              have h9 := (hz.nil_iff (B := 65536) (by decide)).1 (this.2.1.trans e)
              rw [h9] at this
              simp at this
              omega
            have hD' : digs v = (D ++ [r]) ++ digs (val 65536 cur) := by rw [Al.out.2.2, digs_pos hxne, hx1, hx2]; simp
            have hlt : val 65536 cur < x := by omega
            have hu8 : IntKind.u8.wrap (48 + (r : Int)) = ((48 + r : Nat) : Int) := by
              simp [IntKind.wrap, IntKind.bits, IntKind.signed]; omega
            have hu9 : IntKind.i64.wrap (48 + (r : Int)) = 48 + (r : Int) := by rw [IntKind.wrap_i64]; omega
            obtain ⟨p, hp⟩ : ∃ p, 48 + r = p := ⟨_, rfl⟩
            rw [hp] at hu8
            have hp1 : 48 + (r : Int) = (p : Int) := by omega
            have ho : BytRow w.heap.size (wr.alloc (Obj.cells #[bv p] 5)) u3 (D.map (48 + ·)) := (hR.below hB2 (Nat.le_refl _)).below (below_alloc _ _) (Nat.le_refl _)
            have hnw := new_cells wr [bv p] 5 (0, 0)
            have hsz := hB.size
            have hsz2 := hB2.size
            have hap : (D.map (48 + ·)).length + 1 ≤ 17592186044416 := by rw [List.length_map]; omega
            have hba : w.heap.size ≤ (wr.alloc (Obj.cells #[bv p] 5)).heap.size := by simp; omega
            have hBa : Below w.heap.size w (wr.alloc (Obj.cells #[bv p] 5)) := (hB.trans (hB2.mono hsz)).alloc (by omega) _
            have hQ2 : IRow (wr.alloc (Obj.cells #[bv p] 5)) wq.heap.size cur := hQ.kept (below_alloc _ _) (Array.getElem?_eq_some_iff.1 hQ).1
            have hql := (Array.getElem?_eq_some_iff.1 hQ2).1
            have hown := hR.own
            have AA : Aside (digs v = (D ++ [r]) ++ digs (val 65536 cur) ∧ val 65536 cur < x ∧ 48 + r = p ∧ cur.length = len) := ⟨hD', hlt, hp, hcl⟩
            clear hval hx1 hx2 hxne hD' hlt hp hcl hB2 hQ hmk
            go_wp2_with (at_builtin; refine wpList_pushB2 _ rfl _ _ rfl w.heap.size _ (D.map (48 + ·)) [p] 1 rfl rfl wr.heap.size 1 rfl hnw ho hap hba ?_; intro v' w3 hown' hgrow3 hgr)
            have hQ3 : IRow w3 wq.heap.size cur := (hgr.block _ hql (fun e => by have := (hown _ e.symm).2; omega)).trans hQ2
            have hat3 := hQ3.at hcd
            have htr := rtrim_calls (some ⟨wq.heap.size, 0, none⟩) len len w3.heap.size cur AA.out.2.2.2 (by omega) (Nat.le_refl _) w3 (Nat.le_refl _) hat3
            go_wp2_with (go_at_call 91; with_reducible refine htr.mono ?_; rintro e w4 ⟨kk, rfl, hT, hb4⟩)
            have hN4 : NatR w4.heap.size w4 (.slice (some ⟨wq.heap.size, 0, none⟩) kk len) (val 65536 cur) := NatR.of_trim hT (by have := hT.1; have := AA.out.2.2.2; omega) (by unfold maxLen; omega) ((hat3.below hb4 (Nat.le_refl _)).up hb4.size) rfl
            have hB3 := hBa.trans hgrow3
            go_roundw
            case rel => exact ⟨val 65536 cur, D ++ [r], hN4, AA.out.1, by have := AA.out.2.1; omega, by rw [List.map_append]; show BytRow _ _ _ (_ ++ [48 + r]); rw [AA.out.2.2.1]; exact hown'.below hb4 (Nat.le_refl _), hB3.trans (hb4.mono hB3.size)⟩
            case measure =>
              have q1 := hN4.natAt
              have q2 := AA.out.2.1
              clear AA
              simp [q1, m0]
              omega
          · obtain ⟨k', rfl⟩ : ∃ k', k = k' + 1 := ⟨k - 1, by omega⟩
            have e0 : (((k' + 1 : Nat) : Int) - 1) = k' := by omega
            rw [e0]
            have hy := dg_get (L := A) (i := k') (by have := Al.out.1; omega)
            obtain ⟨y, hye⟩ : ∃ y, dg A k' = y := ⟨_, rfl⟩
            rw [hye] at hy
            obtain ⟨b1, o1, rfl, hbn, hyl, hc⟩ := (hat.below hB2 (Nat.le_refl _)).get hy
            obtain ⟨t, ht⟩ : ∃ t, r * 65536 + y = t := ⟨_, rfl⟩
            have hdt := div_top (q := 10) (by decide) hy hval ht.symm
            have hds := drop_set_self (cur := cur) (k := k') (x := t / 10) (by omega)
            rw [← hds] at hdt
            obtain ⟨p, hp⟩ : ∃ p, t / 10 = p := ⟨_, rfl⟩
            obtain ⟨q, hq⟩ : ∃ q, t % 10 = q := ⟨_, rfl⟩
            rw [hp, hq] at hdt
            have hpl : p < 65536 := by omega
            have hql : q < 10 := by omega
            have hw1 : IntKind.i64.wrap ((r : Int) * 65536) = (r : Int) * 65536 := by rw [IntKind.wrap_i64]; omega
            have hw2 : IntKind.i64.wrap ((r : Int) * 65536 + (y : Int)) = (t : Int) := by rw [IntKind.wrap_i64]; omega
            have hq1 : (t : Int) / 10 = (p : Int) := by omega
            have hq2 : Int.tdiv (t : Int) 10 = (p : Int) := by rw [← hp]; exact (Int.ofNat_tdiv t 10).symm
            have hq3 : Int.tmod (t : Int) 10 = (q : Int) := by rw [← hq]; exact (Int.ofNat_tmod t 10).symm
            have hwk : IntKind.i64.wrap ((k' : Int) - 1) = (k' : Int) - 1 := by rw [IntKind.wrap_i64]; omega
            have hi1 : (k' : Int) < (len : Int) := by omega
            have hi3 : (0 : Int) ≤ (k' : Int) := by omega
            obtain ⟨c0, z0⟩ := hQ.cell (dg_get (L := cur) (i := k') (by omega))
            have hcd' : ∀ e ∈ cur.set k' p, e < 65536 := fun e he => by
              rcases List.mem_or_eq_of_mem_set he with he | rfl
              · exact hcd e he
              · exact hpl
            have AA : Aside (val 65536 (List.drop k' A) = 10 * val 65536 (List.drop k' (cur.set k' p)) + q ∧ cur.length = len) := ⟨hdt, hcl⟩
            clear hdt hds hp hq ht hval hye hy hcl e0
            go_wp2
            go_roundw
            case rel => exact ⟨k', q, cur.set k' p, by simp, by simp, by omega, hql, hQ.put (by have := AA.out.2; omega), by simp [AA.out.2], hcd', AA.out.1, hB2.setCell (Nat.le_refl _) _⟩
            case measure => simp [intOf]
end Go.Proofs.YtihaajnknnapmaaGreatDoor
end
