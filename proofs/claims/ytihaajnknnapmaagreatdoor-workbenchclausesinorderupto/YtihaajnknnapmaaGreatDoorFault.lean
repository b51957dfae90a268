/-
  A part of the proof of the card of WorkbenchClausesInOrder (second form): lemmas that the text Card uses. No condition of its own.
-/
import Derived.Test.YtihaajnknnapmaaGreatDoorTerms
set_option linter.all false
set_option linter.unusedVariables false
set_option linter.unusedSimpArgs false
section
namespace Go.Proofs.YtihaajnknnapmaaGreatDoor
open Go.RowKit Go.Big
/-- what a term without a fault has at its root -/
structure RootOk (k : Int) (g : Bool) (num den : List Nat) : Prop where
  kind : k = 1 ∨ k = 2 ∨ k = 3 ∨ k = 4 ∨ k = 5
  sound : k = 2 → numFault g num den = 0
  non : k ≠ 2 → g = false ∧ num = [] ∧ den = []
/-- what a node without a fault has -/
structure NodeOk (k v : Int) (nm : ByteArray) (g : Bool) (num den : List Nat) (len : Nat) : Prop where
  root : RootOk k g num den
  var : k = 1 → 0 ≤ v ∧ v ≤ 1073741824
  name : nm.size ≤ 4000
  args : len ≤ 32
mutual
def AllOk : Tm → Prop
  | .mk k v nm g num den args => NodeOk k v nm g num den args.length ∧ AllOks args
def AllOks : List Tm → Prop
  | [] => True
  | T :: r => AllOk T ∧ AllOks r
end
theorem allOks_of : ∀ {L : List Tm}, (∀ (j : Nat) T, L[j]? = some T → AllOk T) → AllOks L
  | [], _ => by simp only [AllOks]
  | T :: r, h => by
    simp only [AllOks]
    exact ⟨h 0 T rfl, allOks_of fun j T' hj => h (j + 1) T' (by simpa using hj)⟩
theorem AllOks.get : ∀ {L : List Tm}, AllOks L → ∀ {j : Nat} {T : Tm}, L[j]? = some T → AllOk T
  | [], _, j, T, h => by simp at h
  | T0 :: r, hs, 0, T, h => by
    simp only [AllOks] at hs
    simp at h
    subst h
    exact hs.1
  | T0 :: r, hs, j + 1, T, h => by
    simp only [AllOks] at hs
    exact AllOks.get hs.2 (show r[j]? = some T by simpa using h)
set_option maxRecDepth 100000 in
set_option maxHeartbeats 40000000 in
/-- nodeFault -/
theorem nodeFault_calls : ∀ (T : Tm) (n : Nat) (w : World) (vs : List Value), TmV n w T vs → n ≤ w.heap.size →
    Calls Tryz.prog 10 #[.agg vs.toArray] w fun e w' => ∃ c : Int, e = .returned (.int .i64 c) ∧ (c = 0 → AllOk T) ∧ Below w.heap.size w w'
  | .mk k v nm g num den args, n, w, vs, h, hn => by
    have ih : ∀ T' ∈ args, ∀ (n : Nat) (w : World) (vs : List Value), TmV n w T' vs → n ≤ w.heap.size →
        Calls Tryz.prog 10 #[.agg vs.toArray] w fun e w' => ∃ c : Int, e = .returned (.int .i64 c) ∧ (c = 0 → AllOk T') ∧ Below w.heap.size w w' := fun T' hT' => nodeFault_calls T'
    simp only [TmV] at h
    obtain ⟨s1, s2, a, c, rfl, ⟨⟨p1, q1, rfl, hA⟩, ⟨p2, q2, rfl, hC⟩⟩, h2, hbig, hbA, hbC⟩ := h
    obtain ⟨len, hl⟩ : ∃ len, args.length = len := ⟨_, rfl⟩
    obtain ⟨l1, hl1⟩ : ∃ l1, num.length = l1 := ⟨_, rfl⟩
    obtain ⟨l2, hl2⟩ : ∃ l2, den.length = l2 := ⟨_, rfl⟩
    rw [hl] at hbig ⊢
    rw [hl1] at hbA ⊢
    rw [hl2] at hbC ⊢
    show Calls Tryz.prog 10 #[.agg #[.int .i64 k, .int .i64 v, .string nm, .bool g, .slice p1 l1 q1, .slice p2 l2 q2, .slice a len c]] w _
    have hBw := below_alloc w (Obj.cells #[.int .i64 k, .int .i64 v, .string nm, .bool g, .slice p1 l1 q1, .slice p2 l2 q2, .slice a len c] 36)
    have hq := heap_alloc_new w (Obj.cells #[.int .i64 k, .int .i64 v, .string nm, .bool g, .slice p1 l1 q1, .slice p2 l2 q2, .slice a len c] 36)
    have hsz : w.heap.size + 1 ≤ (w.alloc (Obj.cells #[.int .i64 k, .int .i64 v, .string nm, .bool g, .slice p1 l1 q1, .slice p2 l2 q2, .slice a len c] 36)).heap.size := by simp
    go_enter Tryz.func10, Tryz.ntmps10
    go_upto_region 1 with fail
    generalize w.alloc (Obj.cells #[.int .i64 k, .int .i64 v, .string nm, .bool g, .slice p1 l1 q1, .slice p2 l2 q2, .slice a len c] 36) = wb at *
    have fc : ∀ w2, Below wb.heap.size wb w2 → _ := fun w2 hb => cells7 ((hb.block w.heap.size (by omega)).trans hq)
    obtain ⟨x0, x1, x2, x3, x4, x5, x6⟩ := fc wb (Below.refl _ _)
    have Al : Aside (args.length = len ∧ num.length = l1 ∧ den.length = l2) := ⟨hl, hl1, hl2⟩
    clear hl hl1 hl2 hq
    go_cut [3] from 7 to 19 (fun s3 wx => ∃ b, s3 = .bool b ∧ wx = wb)
    case first =>
      as_aux_lemma =>
        clear fc ih h2 hA hC hBw hbig hbA hbC
        by_cases k3 : k = 3
        · subst k3
          go_wp2_with fail
          go_meet
          exact ⟨_, rfl, rfl⟩
        · have k3B : (k == 3) = false := by simpa using k3
          by_cases k4 : k = 4
          · subst k4
            clear k3
            go_wp2_with fail
            go_meet
            exact ⟨_, rfl, rfl⟩
          · have k4B : (k == 4) = false := by simpa using k4
            clear k3 k4
            go_wp2_with fail
            go_meet
            exact ⟨_, rfl, rfl⟩
    case rest =>
      obtain ⟨b3, rfl, rfl⟩ := hcut
      go_upto_region 2 with fail
      go_cut [20] from 21 to 28 (fun s wx => ∃ b, s = .bool b ∧ (b = false → 1 ≤ k ∧ k ≤ 5) ∧ wx = wc)
      case first =>
        as_aux_lemma =>
          clear fc ih h2 hA hC hBw hbig hbA hbC
          by_cases k1 : k < 1
          · go_wp2_with fail
            go_meet
            exact ⟨true, rfl, fun h => (by cases h), rfl⟩
          · by_cases k5 : 5 < k
            · go_wp2_with fail
              go_meet
              exact ⟨true, rfl, fun h => (by cases h), rfl⟩
            · have hk : Aside (1 ≤ k ∧ k ≤ 5) := ⟨by omega, by omega⟩
              go_wp2_with fail
              go_meet
              exact ⟨_, rfl, fun _ => hk.out, rfl⟩
      case rest =>
        obtain ⟨b20, rfl, hb20, rfl⟩ := hcut
        cases b20
        · have hk15 : Aside (1 ≤ k ∧ k ≤ 5) := hb20 rfl
          clear hb20
          go_upto_region 4 with fail
          go_cut [29] from 30 to 47 (fun s wx => ∃ b, s = .bool b ∧ (b = false → k = 1 → 0 ≤ v ∧ v ≤ 1073741824) ∧ wx = wc)
          case first =>
            as_aux_lemma =>
              clear fc ih h2 hA hC hBw hbig hbA hbC
              clear hk15
              by_cases k1 : k = 1
              · subst k1
                by_cases v0 : v < 0
                · go_wp2_with fail
                  go_meet
                  exact ⟨true, rfl, fun h => (by cases h), rfl⟩
                · by_cases v1 : 1073741824 < v
                  · go_wp2_with fail
                    go_meet
                    exact ⟨true, rfl, fun h => (by cases h), rfl⟩
                  · have hv : Aside (0 ≤ v ∧ v ≤ 1073741824) := ⟨by omega, by omega⟩
                    go_wp2_with fail
                    go_meet
                    exact ⟨_, rfl, fun _ _ => hv.out, rfl⟩
              · have k1B : (k != 1) = true := by simpa using k1
                have k1A : Aside (¬ k = 1) := k1
                by_cases vz : v = 0
                · subst vz
                  go_wp2_with fail
                  go_meet
                  exact ⟨_, rfl, fun _ h => absurd h k1A.out, rfl⟩
                · have vzB : (v != 0) = true := by simpa using vz
                  go_wp2_with fail
                  go_meet
                  exact ⟨_, rfl, fun _ h => absurd h k1A.out, rfl⟩
          case rest =>
            obtain ⟨b29, rfl, hb29, rfl⟩ := hcut
            cases b29
            · have hvar : Aside (k = 1 → 0 ≤ v ∧ v ≤ 1073741824) := hb29 rfl
              clear hb29
              obtain ⟨wb, rfl⟩ : ∃ wb, wb = wc := ⟨_, rfl⟩
              have d21 := rnoNumber_calls g p1 p2 l1 l2 q1 q2 wb
              go_upto_region 6 with fail
              go_cut [48] from 49 to 66 (fun s wx => ∃ b, s = .bool b ∧ (b = false → k ≠ 2 → g = false ∧ l1 = 0 ∧ l2 = 0) ∧ Below wb.heap.size wb wx)
              case first =>
                as_aux_lemma =>
                  obtain ⟨F, hF⟩ : ∃ F, (!g && (((l1 : Int) == 0) && ((l2 : Int) == 0))) = F := ⟨_, rfl⟩
                  rw [hF] at d21
                  have AF : Aside (F = true → g = false ∧ l1 = 0 ∧ l2 = 0) := fun h => by
                    rw [← hF] at h
                    simp only [Bool.and_eq_true, Bool.not_eq_true', beq_iff_eq] at h
                    exact ⟨h.1, by omega, by omega⟩
                  clear hF fc ih h2 hA hC hBw hbig hbA hbC hk15
                  cases b3
                  · by_cases hn0 : nm.toList = []
                    · by_cases k2 : k = 2
                      · subst k2
                        go_wp2_with fail
                        go_meet
                        exact ⟨_, rfl, fun _ h => absurd rfl h, Below.refl _ _⟩
                      · have k2B : (k != 2) = true := by simpa using k2
                        cases F
                        · go_wp2_with (go_at_call 17; with_reducible refine d21.mono ?_; rintro e w3 ⟨rfl, hb3⟩)
                          go_meet
                          exact ⟨true, rfl, fun h => (by cases h), hb3⟩
                        · have hF2 : Aside (g = false ∧ l1 = 0 ∧ l2 = 0) := AF.out rfl
                          go_wp2_with (go_at_call 17; with_reducible refine d21.mono ?_; rintro e w3 ⟨rfl, hb3⟩)
                          go_meet
                          exact ⟨false, rfl, fun _ _ => hF2.out, hb3⟩
                    · go_wp2_with fail
                      go_meet
                      exact ⟨true, rfl, fun h => (by cases h), Below.refl _ _⟩
                  · skip
                    by_cases k2 : k = 2
                    · subst k2
                      go_wp2_with fail
                      go_meet
                      exact ⟨_, rfl, fun _ h => absurd rfl h, Below.refl _ _⟩
                    · have k2B : (k != 2) = true := by simpa using k2
                      cases F
                      · go_wp2_with (go_at_call 17; with_reducible refine d21.mono ?_; rintro e w3 ⟨rfl, hb3⟩)
                        go_meet
                        exact ⟨true, rfl, fun h => (by cases h), hb3⟩
                      · have hF2 : Aside (g = false ∧ l1 = 0 ∧ l2 = 0) := AF.out rfl
                        go_wp2_with (go_at_call 17; with_reducible refine d21.mono ?_; rintro e w3 ⟨rfl, hb3⟩)
                        go_meet
                        exact ⟨false, rfl, fun _ _ => hF2.out, hb3⟩
              case rest =>
                obtain ⟨b48, rfl, hb48, hB48⟩ := hcut
                cases b48
                · have hnon : Aside (k ≠ 2 → g = false ∧ l1 = 0 ∧ l2 = 0) := hb48 rfl
                  clear hb48 d21
                  have hB1 := hBw.trans (hB48.mono hBw.size)
                  obtain ⟨wd, rfl⟩ : ∃ wd, wd = wc := ⟨_, rfl⟩
                  have e0 := fc wd hB48
                  obtain ⟨y0, y1, y2, y3, y4, y5, y6⟩ := e0
                  have d22 := rnum_calls g p1 p2 l1 l2 q1 q2 n num den Al.out.2.1 Al.out.2.2 (by omega) (by omega) wd (Nat.le_trans hn hB1.size) (hA.below hB1 hn) (hC.below hB1 hn)
                  have hh2 := h2
                  clear x0 x1 x2 x3 x4 x5 x6 hA hC
                  go_upto_region 8 with fail
                  go_cut [67] from 68 to 76 (fun s wx => ∃ b, s = .bool b ∧ (b = false → k = 2 → numFault g num den = 0) ∧ Below wd.heap.size wd wx)
                  case first =>
                    as_aux_lemma =>
                      by_cases k2 : k = 2
                      · subst k2
                        obtain ⟨F, hF⟩ : ∃ F, numFault g num den = F := ⟨_, rfl⟩
                        rw [hF] at d22
                        have AF : Aside (numFault g num den = F) := hF
                        clear hF fc ih h2 hh2 hnon hk15 hBw hB48 hB1 hbig hbA hbC
                        by_cases hF0 : F = 0
                        · subst hF0
                          go_wp2_with (go_at_call 18; with_reducible refine d22.mono ?_; rintro e w3 ⟨rfl, hb3⟩)
                          go_meet
                          exact ⟨false, rfl, fun _ _ => AF.out, hb3⟩
                        · have hFB : (F != 0) = true := by simpa using hF0
                          go_wp2_with (go_at_call 18; with_reducible refine d22.mono ?_; rintro e w3 ⟨rfl, hb3⟩)
                          go_meet
                          exact ⟨true, rfl, fun h => (by cases h), hb3⟩
                      · have k2B : (k == 2) = false := by simpa using k2
                        have k2A : Aside (¬ k = 2) := k2
                        clear fc ih h2 hh2 hnon hk15 hBw hB48 d22 k2 hB1 hbig hbA hbC
                        go_wp2_with fail
                        go_meet
                        exact ⟨false, rfl, fun _ h => absurd h k2A.out, Below.refl _ _⟩
                  case rest =>
                    obtain ⟨b67, rfl, hb67, hB67⟩ := hcut
                    cases b67
                    · have hnum : Aside (k = 2 → numFault g num den = 0) := hb67 rfl
                      have hroot : Aside (RootOk k g num den) := ⟨by have := hk15.out; omega, hnum.out, fun hk => by
                        obtain ⟨h1, h3, h4⟩ := hnon.out hk
                        exact ⟨h1, List.eq_nil_of_length_eq_zero (by rw [Al.out.2.1]; exact h3), List.eq_nil_of_length_eq_zero (by rw [Al.out.2.2]; exact h4)⟩⟩
                      have hB2 := hB1.trans (hB67.mono hB1.size)
                      obtain ⟨we, rfl⟩ : ∃ we, we = wc := ⟨_, rfl⟩
                      have fe : ∀ w2, Below we.heap.size we w2 → _ := fun w2 hb => fc w2 (hB48.trans ((hB67.trans (hb.mono hB67.size)).mono hB48.size))
                      obtain ⟨z0, z1, z2, z3, z4, z5, z6⟩ := fe we (Below.refl _ _)
                      clear hb67 d22 y0 y1 y2 y3 y4 y5 y6 fc hnon hnum hk15
                      go_upto_region 10 with fail
                      go_cut [77] from 78 to 103 (fun s wx => ∃ b, s = .bool b ∧ (b = false → len ≤ 32) ∧ wx = we)
                      case first =>
                        as_aux_lemma =>
                          clear ih h2 hh2 fe hroot hBw hB48 hB67 hB1 hB2 hbig hbA hbC
                          by_cases k5 : k = 5
                          · subst k5
                            by_cases hl0 : len < 1
                            · have hl1' : (len : Int) < 1 := by omega
                              go_wp2_with fail
                              go_meet
                              exact ⟨true, rfl, fun h => (by cases h), rfl⟩
                            · have hl1' : ¬ (len : Int) < 1 := by omega
                              by_cases h32 : 32 < len
                              · have h32' : (32 : Int) < (len : Int) := by omega
                                go_wp2_with fail
                                go_meet
                                exact ⟨true, rfl, fun h => (by cases h), rfl⟩
                              · have h32' : ¬ (32 : Int) < (len : Int) := by omega
                                have hle : Aside (len ≤ 32) := by show len ≤ 32; omega
                                go_wp2_with fail
                                go_meet
                                exact ⟨_, rfl, fun _ => hle.out, rfl⟩
                          · have k5B : (k != 5) = true := by simpa using k5
                            have k5C : (k == 5) = false := by simpa using k5
                            by_cases hl0 : 0 < len
                            · have hl1' : (0 : Int) < (len : Int) := by omega
                              go_wp2_with fail
                              go_meet
                              exact ⟨true, rfl, fun h => (by cases h), rfl⟩
                            · have hl1' : ¬ (0 : Int) < (len : Int) := by omega
                              have hle : Aside (len ≤ 32) := by show len ≤ 32; omega
                              go_wp2_with fail
                              go_meet
                              exact ⟨_, rfl, fun _ => hle.out, rfl⟩
                      case rest =>
                        obtain ⟨b77, rfl, hb77, rfl⟩ := hcut
                        cases b77
                        · have hlen32 : Aside (len ≤ 32) := hb77 rfl
                          clear hb77
                          go_upto_region 12 with fail
                          go_cut [104] from 105 to 124 (fun s wx => ∃ b, s = .bool b ∧ (b = false → nm.size ≤ 4000) ∧ wx = wc)
                          case first =>
                            as_aux_lemma =>
                              clear ih h2 hh2 fe hroot hBw hB48 hB67 hB1 hB2 hbig hbA hbC
                              by_cases k4 : k = 4
                              · subst k4
                                by_cases hn4 : (4000 : Int) < (nm.size : Int)
                                · go_wp2_with fail
                                  go_meet
                                  exact ⟨true, rfl, fun h => (by cases h), rfl⟩
                                · have hnm : Aside (nm.size ≤ 4000) := by show nm.size ≤ 4000; omega
                                  go_wp2_with fail
                                  go_meet
                                  exact ⟨_, rfl, fun _ => hnm.out, rfl⟩
                              · have k4B : (k != 4) = true := by simpa using k4
                                have k4C : (k == 4) = false := by simpa using k4
                                by_cases hn4 : (255 : Int) < (nm.size : Int)
                                · go_wp2_with fail
                                  go_meet
                                  exact ⟨true, rfl, fun h => (by cases h), rfl⟩
                                · have hnm : Aside (nm.size ≤ 4000) := by show nm.size ≤ 4000; omega
                                  go_wp2_with fail
                                  go_meet
                                  exact ⟨_, rfl, fun _ => hnm.out, rfl⟩
                          case rest =>
                            obtain ⟨b104, rfl, hb104, rfl⟩ := hcut
                            cases b104
                            · have hnode : Aside (NodeOk k v nm g num den args.length) := ⟨hroot.out, hvar.out, hb104 rfl, by rw [Al.out.1]; exact hlen32.out⟩
                              clear hb104 hvar hlen32
                              have hBe : Aside (Below w.heap.size w wc) := hB2
                              obtain ⟨wf, rfl⟩ : ∃ wf, wf = wc := ⟨_, rfl⟩
                              clear hBw hB48 hB67 hB1
                              go_wp2
                              go_loopw [128] (fun s wr => ∃ i : Nat, s = .int .i64 i ∧ i ≤ len ∧ Aside (∀ (j : Nat) T, j < i → args[j]? = some T → AllOk T) ∧ Below w.heap.size w wr) (fun s _ => len - (intOf s).toNat)
                              case atStart => exact ⟨0, rfl, Nat.zero_le _, (fun j T hj _ => absurd hj (Nat.not_lt_zero j)), hB2⟩
                              case round =>
                                clear z0 z1 z2 z3 z4 z5 z6 fe hB2 hBe
                                obtain ⟨i, rfl, hi, hall, hB⟩ := hrel
                                by_cases hlt : i < len
                                · obtain ⟨T', hT'⟩ : ∃ T', args[i]? = some T' := ⟨args[i]'(by rw [Al.out.1]; exact hlt), List.getElem?_eq_getElem _⟩
                                  obtain ⟨b, off, vs', rfl, hbn, hc, hv⟩ := h2.get hT'
                                  have hv2 := hv
                                  match T', hv with
                                  | .mk k' v' nm' g' num' den' args', hv =>
                                    simp only [TmV] at hv
                                    obtain ⟨t1, t2, a', c', rfl, ⟨⟨p1', q1', rfl, _⟩, ⟨p2', q2', rfl, _⟩⟩, _⟩ := hv
                                    have hb2 : ∀ p : Addr, p.block < n → wr.cell? p = w.cell? p := fun p hp => (hB.mono hn).cell hp
                                    rw [Nat.zero_add] at hc
                                    have x0 := (hb2 ⟨b, off + i * 7 + 0, none⟩ hbn).trans (hc 0 _ rfl)
                                    have x1 := (hb2 ⟨b, off + i * 7 + 1, none⟩ hbn).trans (hc 1 _ rfl)
                                    have x2 := (hb2 ⟨b, off + i * 7 + 2, none⟩ hbn).trans (hc 2 _ rfl)
                                    have x3 := (hb2 ⟨b, off + i * 7 + 3, none⟩ hbn).trans (hc 3 _ rfl)
                                    have x4 := (hb2 ⟨b, off + i * 7 + 4, none⟩ hbn).trans (hc 4 _ rfl)
                                    have x5 := (hb2 ⟨b, off + i * 7 + 5, none⟩ hbn).trans (hc 5 _ rfl)
                                    have x6 := (hb2 ⟨b, off + i * 7 + 6, none⟩ hbn).trans (hc 6 _ rfl)
                                    rw [Nat.add_zero] at x0
                                    have hi1 : (i : Int) < (len : Int) := by omega
                                    have hi3 : (0 : Int) ≤ (i : Int) := by omega
                                    have hw3 : IntKind.i64.wrap ((i : Int) + 1) = (i : Int) + 1 := by rw [IntKind.wrap_i64]; omega
                                    have hB2 : Below w.heap.size w (wr.alloc (Obj.cells #[.int .i64 k', .int .i64 v', .string nm', .bool g', .slice p1' num'.length q1', .slice p2' den'.length q2', .slice a' args'.length c'] 36)) := hB.alloc hB.size _
                                    have d1 := ih _ (List.mem_of_getElem? hT') n (wr.alloc (Obj.cells #[.int .i64 k', .int .i64 v', .string nm', .bool g', .slice p1' num'.length q1', .slice p2' den'.length q2', .slice a' args'.length c'] 36)) _ (TmV.below hB2 hn _ _ hv2) (Nat.le_trans hn hB2.size)
                                    replace d1 : Calls Tryz.prog 10 #[.agg #[.int .i64 k', .int .i64 v', .string nm', .bool g', .slice p1' num'.length q1', .slice p2' den'.length q2', .slice a' args'.length c']] _ _ := d1
                                    have d2 := d1.mono (R' := fun e w' => ∃ c : Int, e = .returned (.int .i64 c) ∧ Aside (c = 0 → ∀ (j : Nat) T, j < i + 1 → args[j]? = some T → AllOk T) ∧ Below (wr.alloc (Obj.cells #[.int .i64 k', .int .i64 v', .string nm', .bool g', .slice p1' num'.length q1', .slice p2' den'.length q2', .slice a' args'.length c'] 36)).heap.size (wr.alloc (Obj.cells #[.int .i64 k', .int .i64 v', .string nm', .bool g', .slice p1' num'.length q1', .slice p2' den'.length q2', .slice a' args'.length c'] 36)) w') (fun e w' ⟨c, e1, hcf, hb⟩ => ⟨c, e1, (fun h0 j T hj hT => by
                                      by_cases hji : j < i
                                      · exact hall.out j T hji hT
                                      · obtain rfl : j = i := by omega
                                        rw [hT'] at hT
                                        obtain rfl := Option.some.inj hT
                                        exact hcf h0), hb⟩)
                                    generalize args'.length = len' at *
                                    generalize num'.length = ln1 at *
                                    generalize den'.length = ln2 at *
                                    clear h2 hh2 ih hc hv2 hT' hb2 d1
                                    go_wp2_with (go_at_call 10; with_reducible refine d2.mono ?_; rintro e w3 ⟨c3, rfl, hc3, hb3⟩)
                                    · first
                                        | (go_ret
                                           exact ⟨c3, rfl, (fun h0 => by rename_i hcc; rw [h0] at hcc; simp at hcc), hB2.trans (hb3.mono hB2.size)⟩)
                                        | exact ⟨⟨i + 1, by simp, by omega, (by have hcc : c3 = 0 := (by rename_i hcc; simpa using hcc); exact hc3.out hcc), hB2.trans (hb3.mono hB2.size)⟩, by simp [intOf]; omega⟩
                                    · first
                                        | (go_ret
                                           exact ⟨c3, rfl, (fun h0 => by rename_i hcc; rw [h0] at hcc; simp at hcc), hB2.trans (hb3.mono hB2.size)⟩)
                                        | exact ⟨⟨i + 1, by simp, by omega, (by have hcc : c3 = 0 := (by rename_i hcc; simpa using hcc); exact hc3.out hcc), hB2.trans (hb3.mono hB2.size)⟩, by simp [intOf]; omega⟩
                                · obtain rfl : i = len := by omega
                                  clear h2 hh2 ih
                                  go_wp2
                                  go_ret
                                  exact ⟨0, rfl, (fun _ => by
                                    rw [AllOk]
                                    exact ⟨hnode.out, allOks_of fun j T hT => hall.out j T (by have := (List.getElem?_eq_some_iff.1 hT).1; have := Al.out.1; omega) hT⟩), hB⟩
                            · go_wp2
                              go_ret
                              exact ⟨3, rfl, fun h => absurd h (by decide), hB2⟩
                        · go_wp2
                          go_ret
                          exact ⟨2, rfl, fun h => absurd h (by decide), hB2⟩
                    · go_wp2
                      go_ret
                      exact ⟨2, rfl, fun h => absurd h (by decide), hB1.trans (hB67.mono hB1.size)⟩
                · go_wp2
                  go_ret
                  exact ⟨2, rfl, fun h => absurd h (by decide), hBw.trans (hB48.mono hBw.size)⟩
            · go_wp2
              go_ret
              exact ⟨2, rfl, fun h => absurd h (by decide), hBw⟩
        · go_wp2
          go_ret
          exact ⟨2, rfl, fun h => absurd h (by decide), hBw⟩
termination_by T => SizeOf.sizeOf T
decreasing_by
  simp_wf
  have := List.sizeOf_lt_of_mem hT'
  omega
end Go.Proofs.YtihaajnknnapmaaGreatDoor
end
section
namespace Go.Proofs.YtihaajnknnapmaaGreatDoor
open Go.RowKit Go.Big
/-- what a term without a fault is -/
def Fine (T : Tm) : Prop := AllOk T ∧ T.nodes ≤ 10000
set_option maxRecDepth 100000 in
set_option maxHeartbeats 1000000 in
/-- Fault -/
theorem fault_calls (T : Tm) (n : Nat) (w : World) (vs : List Value) (h : TmV n w T vs) (hn : n ≤ w.heap.size) :
    Calls Tryz.prog 5 #[.agg vs.toArray] w fun e w' => ∃ c : Int, e = .returned (.int .i64 c) ∧ (c = 0 → Fine T) ∧ Below w.heap.size w w' := by
  match T, h with
  | .mk kk v nm g num den args, h =>
    have h0 := h
    simp only [TmV] at h
    obtain ⟨s1, s2, a, c, rfl, ⟨⟨p1, q1, rfl, _⟩, ⟨p2, q2, rfl, _⟩⟩, _⟩ := h
    obtain ⟨T, hT⟩ : ∃ T, Tm.mk kk v nm g num den args = T := ⟨_, rfl⟩
    rw [hT] at h0 ⊢
    obtain ⟨l0, hl0⟩ : ∃ l0, args.length = l0 := ⟨_, rfl⟩
    obtain ⟨l1, hl1⟩ : ∃ l1, num.length = l1 := ⟨_, rfl⟩
    obtain ⟨l2, hl2⟩ : ∃ l2, den.length = l2 := ⟨_, rfl⟩
    rw [hl0, hl1, hl2]; rw [hl0, hl1, hl2] at h0
    have hB := below_alloc w (Obj.cells #[.int .i64 kk, .int .i64 v, .string nm, .bool g, .slice p1 l1 q1, .slice p2 l2 q2, .slice a l0 c] 36)
    have hq := heap_alloc_new w (Obj.cells #[.int .i64 kk, .int .i64 v, .string nm, .bool g, .slice p1 l1 q1, .slice p2 l2 q2, .slice a l0 c] 36)
    obtain ⟨wb, hwb⟩ : ∃ wb, w.alloc (Obj.cells #[.int .i64 kk, .int .i64 v, .string nm, .bool g, .slice p1 l1 q1, .slice p2 l2 q2, .slice a l0 c] 36) = wb := ⟨_, rfl⟩
    have hsz : w.heap.size + 1 ≤ wb.heap.size := by rw [← hwb]; simp
    rw [hwb] at hB hq
    have d1 := size_calls _ n wb _ (TmV.below hB hn _ _ h0) (Nat.le_trans hn hB.size)
    have d2 := fun w' (hb : Below wb.heap.size wb w') => nodeFault_calls _ n w' _ (TmV.below hb (Nat.le_trans hn hB.size) _ _ (TmV.below hB hn _ _ h0)) (Nat.le_trans (Nat.le_trans hn hB.size) hb.size)
    replace d1 : Calls Tryz.prog 9 #[.agg #[.int .i64 kk, .int .i64 v, .string nm, .bool g, .slice p1 l1 q1, .slice p2 l2 q2, .slice a l0 c]] _ _ := d1
    replace d2 : ∀ w', Below wb.heap.size wb w' → Calls Tryz.prog 10 #[.agg #[.int .i64 kk, .int .i64 v, .string nm, .bool g, .slice p1 l1 q1, .slice p2 l2 q2, .slice a l0 c]] w' fun e w'' => ∃ c : Int, e = .returned (.int .i64 c) ∧ (c = 0 → AllOk T) ∧ Below w'.heap.size w' w'' := d2
    have fc : ∀ w2, Below wb.heap.size wb w2 → _ := fun w2 hb => cells7 ((hb.block w.heap.size (by omega)).trans hq)
    obtain ⟨x0, x1, x2, x3, x4, x5, x6⟩ := fc wb (Below.refl _ _)
    show Calls Tryz.prog 5 #[.agg #[.int .i64 kk, .int .i64 v, .string nm, .bool g, .slice p1 l1 q1, .slice p2 l2 q2, .slice a l0 c]] w fun e w' => ∃ c : Int, e = .returned (.int .i64 c) ∧ (c = 0 → Fine T) ∧ Below w.heap.size w w'
    clear hl0 hl1 hl2 h0 hq hT
    go_enter Tryz.func5, Tryz.ntmps5
    go_wp2_with first | (go_at_call 9; with_reducible refine d1.mono ?_; rintro e w1 ⟨r1, rfl, ⟨hr1, hrx⟩, hb1⟩; have y0 := (fc _ hb1).1; have y1 := (fc _ hb1).2.1; have y2 := (fc _ hb1).2.2.1; have y3 := (fc _ hb1).2.2.2.1; have y4 := (fc _ hb1).2.2.2.2.1; have y5 := (fc _ hb1).2.2.2.2.2.1; have y6 := (fc _ hb1).2.2.2.2.2.2) | (go_at_call 10; with_reducible refine (d2 _ hb1).mono ?_; rintro e w2 ⟨c2, rfl, hc2, hb2⟩)
    all_goals go_ret
    all_goals first | exact ⟨c2, rfl, (fun h0 => ⟨hc2 h0, by have hle : r1 ≤ 10000 := (by omega); have := hrx.out (by omega); omega⟩), hB.trans ((hb1.trans (hb2.mono hb1.size)).mono hB.size)⟩ | exact ⟨3, rfl, fun h => absurd h (by decide), hB.trans (hb1.mono hB.size)⟩
end Go.Proofs.YtihaajnknnapmaaGreatDoor
end
