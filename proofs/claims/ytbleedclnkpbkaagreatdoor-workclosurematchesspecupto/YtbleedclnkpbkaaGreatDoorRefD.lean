/-
  A part of the proof of the card of WorkClosureMatchesSpec (second form): lemmas that the text Card uses. No condition of its own.
-/
import Derived.Test.YtbleedclnkpbkaaGreatDoorRefC
import Derived.Test.YtbleedclnkpbkaaGreatDoorRules
set_option linter.all false
set_option linter.unusedVariables false
set_option linter.unusedSimpArgs false
section
namespace Go.Proofs.YtbleedclnkpbkaaGreatDoor
open Go.RowKit Go.Sort
attribute [local go_sem] Heavy.uponW
theorem owns_base {w : World} {base base' : Nat} {e : TypeId} {size : Nat} {v : Value} {n : Nat} {xs : List Value} (h : w.ownsRow base e size v n xs) (hb : base' ≤ base) : w.ownsRow base' e size v n xs := by
  obtain ⟨h1, h2 | ⟨g, cap, cur, e1, hg, h3⟩⟩ := h
  · exact ⟨h1, .inl h2⟩
  · exact ⟨h1, .inr ⟨g, cap, cur, e1, by omega, h3⟩⟩
/-- the reference's Compose: its boxes, the links so far -/
structure RW (n0 : Nat) (f1 t1 f2 t2 : Int) (s1 s2 : Value) (w wr : World) (sv : Value) (G : List Lk) : Prop where
  b0 : wr.heap[n0]? = some (.cells #[.int .i64 f1, .int .i64 t1, s1] 25 (0, 0))
  b1 : wr.heap[n0 + 1]? = some (.cells #[.int .i64 f2, .int .i64 t2, s2] 25 (0, 0))
  b2 : wr.heap[n0 + 1 + 1]? = some (.cells #[.int .i64 0, .int .i64 0, .slice none 0 0] 25 (0, 0))
  b3 : wr.heap[n0 + 1 + 1 + 1]? = some (.cells #[.int .i64 f1, .int .i64 t2, sv] 25 (0, 0))
  own : wr.ownsRow (n0 + 4) 38 3 sv G.length (G.flatMap Lk.cells)
  bel : Below n0 w wr
theorem RW.lt {n0 : Nat} {f1 t1 f2 t2 : Int} {s1 s2 : Value} {w wr : World} {sv : Value} {G : List Lk} (h : RW n0 f1 t1 f2 t2 s1 s2 w wr sv G) : n0 + 3 < wr.heap.size := (Array.getElem?_eq_some_iff.1 h.b3).1
theorem RW.same {n0 : Nat} {f1 t1 f2 t2 : Int} {s1 s2 : Value} {w wr w' : World} {sv : Value} {G : List Lk} (h : RW n0 f1 t1 f2 t2 s1 s2 w wr sv G) (hb : Below wr.heap.size wr w') : RW n0 f1 t1 f2 t2 s1 s2 w w' sv G := by
  have := h.lt
  exact ⟨(hb.block _ (by omega)).trans h.b0, (hb.block _ (by omega)).trans h.b1, (hb.block _ (by omega)).trans h.b2, (hb.block _ (by omega)).trans h.b3, owns_kept h.own fun k _ hk => hb.block k hk, h.bel.trans (hb.mono (by omega))⟩
theorem RW.cells {n0 : Nat} {f1 t1 f2 t2 : Int} {s1 s2 : Value} {w wr : World} {sv : Value} {G : List Lk} (h : RW n0 f1 t1 f2 t2 s1 s2 w wr sv G) :
    wr.cell? ⟨n0, 2, none⟩ = some s1 ∧ wr.cell? ⟨n0 + 1, 2, none⟩ = some s2 ∧ wr.cell? ⟨n0 + 1 + 1 + 1, 2, none⟩ = some sv ∧ wr.frozen? ⟨n0 + 1 + 1 + 1, 2, none⟩ = false := by
  simp [World.cell?, World.frozen?, h.b0, h.b1, h.b3]
theorem RW.put {n0 : Nat} {f1 t1 f2 t2 : Int} {s1 s2 : Value} {w wr : World} {sv sv' : Value} {G G' : List Lk} (h : RW n0 f1 t1 f2 t2 s1 s2 w wr sv G) (ho : wr.ownsRow (n0 + 4) 38 3 sv' G'.length (G'.flatMap Lk.cells)) :
    RW n0 f1 t1 f2 t2 s1 s2 w (wr.setCell ⟨n0 + 1 + 1 + 1, 2, none⟩ sv') sv' G' := by
  refine ⟨?_, ?_, ?_, ?_, owns_kept ho fun k hk _ => setCell_other wr _ 2 _ k (by omega), h.bel.trans (below_put _ _ _ _ (by omega))⟩
  · rw [setCell_other _ _ _ _ _ (by omega)]; exact h.b0
  · rw [setCell_other _ _ _ _ _ (by omega)]; exact h.b1
  · rw [setCell_other _ _ _ _ _ (by omega)]; exact h.b2
  · rw [setCell_block h.b3, if_pos rfl]; rfl
theorem RW.start (f1 t1 f2 t2 : Int) (s1 s2 : Value) (w : World) : RW w.heap.size f1 t1 f2 t2 s1 s2 w ((((w.alloc (Obj.cells #[.int .i64 f1, .int .i64 t1, s1] 25)).alloc (Obj.cells #[.int .i64 f2, .int .i64 t2, s2] 25)).alloc (Obj.cells #[.int .i64 0, .int .i64 0, .slice none 0 0] 25)).alloc (Obj.cells #[.int .i64 f1, .int .i64 t2, .slice none 0 0] 25)) (.slice none 0 0) [] := by
  have a : ∀ (o1 o2 o3 o4 : Obj), ((((w.alloc o1).alloc o2).alloc o3).alloc o4).heap[w.heap.size]? = some o1 ∧ ((((w.alloc o1).alloc o2).alloc o3).alloc o4).heap[w.heap.size + 1]? = some o2 ∧
      ((((w.alloc o1).alloc o2).alloc o3).alloc o4).heap[w.heap.size + 1 + 1]? = some o3 ∧ ((((w.alloc o1).alloc o2).alloc o3).alloc o4).heap[w.heap.size + 1 + 1 + 1]? = some o4 := by
    intro o1 o2 o3 o4
    have s1 : (w.alloc o1).heap.size = w.heap.size + 1 := World.size_alloc _ _
    have s2 : ((w.alloc o1).alloc o2).heap.size = w.heap.size + 1 + 1 := by rw [World.size_alloc, s1]
    have s3 : (((w.alloc o1).alloc o2).alloc o3).heap.size = w.heap.size + 1 + 1 + 1 := by rw [World.size_alloc, s2]
    have n1 := heap_alloc_new w o1
    have n2 := heap_alloc_new (w.alloc o1) o2
    have n3 := heap_alloc_new ((w.alloc o1).alloc o2) o3
    have n4 := heap_alloc_new (((w.alloc o1).alloc o2).alloc o3) o4
    rw [s1] at n2
    rw [s2] at n3
    rw [s3] at n4
    refine ⟨?_, ?_, ?_, n4⟩
    · rw [Below.heap_alloc _ _ _ (by omega), Below.heap_alloc _ _ _ (by omega), Below.heap_alloc _ _ _ (by omega)]; exact n1
    · rw [Below.heap_alloc _ _ _ (by omega), Below.heap_alloc _ _ _ (by omega)]; exact n2
    · rw [Below.heap_alloc _ _ _ (by omega)]; exact n3
  obtain ⟨a0, a1, a2, a3⟩ := a (Obj.cells #[.int .i64 f1, .int .i64 t1, s1] 25) (Obj.cells #[.int .i64 f2, .int .i64 t2, s2] 25) (Obj.cells #[.int .i64 0, .int .i64 0, .slice none 0 0] 25) (Obj.cells #[.int .i64 f1, .int .i64 t2, .slice none 0 0] 25)
  exact ⟨a0, a1, a2, a3, World.ownsRow_nil _ _ _ _, ((below_alloc2 _ _ _).alloc (by simp; omega) _).alloc (by simp; omega) _⟩
set_option maxRecDepth 100000 in
set_option maxHeartbeats 8000000 in
/-- the reference's Compose -/
theorem refCompose_calls (F T : List Int) (hFT : F.length * T.length ≤ 2199023255552) (hFk : ∀ x ∈ F, okI x) (hTk : ∀ x ∈ T, okI x) (f1 t1 f2 t2 : Int) (a1 a2 : Option Addr) (cap1 cap2 len1 len2 n : Nat) (A B : List Lk) (hF : ∀ a ∈ A, a.f ∈ F) (hT : ∀ b ∈ B, b.t ∈ T) (hl1 : A.length = len1) (hl2 : B.length = len2) (w : World) (hn : n ≤ w.heap.size) (h1 : LinksAt n w (.slice a1 len1 cap1) A) (h2 : LinksAt n w (.slice a2 len2 cap2) B) :
    Calls Tryz.prog 11 #[.agg #[.int .i64 f1, .int .i64 t1, .slice a1 len1 cap1], .agg #[.int .i64 f2, .int .i64 t2, .slice a2 len2 cap2]] w fun e w' => ∃ sv L, e = .returned (.agg #[.int .i64 f1, .int .i64 t2, sv]) ∧ LinksAt w'.heap.size w' sv L ∧ IsComp A B L ∧ (∀ b, sv.ownBlock = some b → w.heap.size ≤ b) ∧ Below w.heap.size w w' := by
  have hbig1 : len1 < 4611686018427387904 := by obtain ⟨_, _, _, h, _⟩ := h1; omega
  have hbig2 : len2 < 4611686018427387904 := by obtain ⟨_, _, _, h, _⟩ := h2; omega
  go_enter Tryz.func11, Tryz.ntmps11
  go_wp2
  have rw0 := RW.start f1 t1 f2 t2 (.slice a1 len1 cap1) (.slice a2 len2 cap2) w
  generalize (((w.alloc (Obj.cells #[.int .i64 f1, .int .i64 t1, .slice a1 len1 cap1] 25)).alloc (Obj.cells #[.int .i64 f2, .int .i64 t2, .slice a2 len2 cap2] 25)).alloc (Obj.cells #[.int .i64 0, .int .i64 0, .slice none 0 0] 25)).alloc (Obj.cells #[.int .i64 f1, .int .i64 t2, .slice none 0 0] 25) = wb at rw0 ⊢
  go_loopw [6] (fun i wr => ∃ (k : Nat) (sv : Value) (G : List Lk), k ≤ len1 ∧ i = .int .i64 k ∧ RW w.heap.size f1 t1 f2 t2 (.slice a1 len1 cap1) (.slice a2 len2 cap2) w wr sv G ∧ Tel F T ((A.take k).foldl (rowM B) []) G) (fun i _ => len1 - (intOf i).toNat)
  case atStart => exact ⟨0, _, [], Nat.zero_le _, rfl, rw0, Tel.start F T⟩
  case round =>
    clear rw0
    obtain ⟨k, sv, G, hk, rfl, hR, hTel⟩ := hrel
    obtain ⟨c0, c1, c3, z3⟩ := hR.cells
    by_cases hlt : k < len1
    · obtain ⟨x, hx⟩ : ∃ x, A[k]? = some x := ⟨A[k], List.getElem?_eq_getElem (by omega)⟩
      obtain ⟨M0, hM0⟩ : ∃ M0, (A.take k).foldl (rowM B) [] = M0 := ⟨_, rfl⟩
      rw [hM0] at hTel
      have hR' := hR
      have hTel' := hTel
      clear hR hTel
      go_wp2
      go_loopw [7] (fun i wr2 => ∃ (j : Nat) (sv : Value) (G : List Lk), j ≤ len2 ∧ i = .int .i64 j ∧ RW w.heap.size f1 t1 f2 t2 (.slice a1 len1 cap1) (.slice a2 len2 cap2) w wr2 sv G ∧ Tel F T ((B.take j).foldl (stepM x) M0) G) (fun i _ => len2 - (intOf i).toNat)
      case atStart => exact ⟨0, _, G, Nat.zero_le _, rfl, hR', hTel'⟩
      case round =>
        clear hR' hTel' c0 c1 c3 z3
        obtain ⟨j, sv, G, hj, rfl, hR, hTel⟩ := hrel
        obtain ⟨c0, c1, c3, z3⟩ := hR.cells
        by_cases hlt2 : j < len2
        · obtain ⟨y, hy⟩ : ∃ y, B[j]? = some y := ⟨B[j], List.getElem?_eq_getElem (by omega)⟩
          have htk : (B.take (j + 1)).foldl (stepM x) M0 = stepM x ((B.take j).foldl (stepM x) M0) y := by
            rw [List.take_add_one, hy]; simp
          generalize hMj : (B.take j).foldl (stepM x) M0 = Mj at hTel htk
          obtain ⟨b1, o1, rfl, hb1, p0, p1, p2⟩ := (h1.below (hR.bel.mono hn)).get hx
          obtain ⟨b2, o2, rfl, hb2, q0, q1, q2⟩ := (h2.below (hR.bel.mono hn)).get hy
          have hsz := hR.bel.size
          clear h1 h2
          by_cases hxy : x.t = y.f
          · have hxyB : (x.t == y.f) = true := by simpa using hxy
            have hTel2 := fun G' => hTel.put (G' := G') hxy
            clear hxy
            go_wp2
            refine wp_region_still_tail 12 (by kernel_rfl) (by kernel_rfl) ?_
            simp only [List.take_succ_cons, List.take_zero, List.drop_succ_cons, List.drop_zero, World.drew_eq]
            repeat (with_reducible refine wpStill_step (fun K hK => ?_); go_simp; with_reducible refine hK _ ?_; clear hK K)
            refine wpStill_nil ?_
            show wpList _ _ _ _ _ _
            have hlt' := hR.lt
            have fc : ∀ w', Below wr.heap.size wr w' → w'.cell? ⟨w.heap.size, 2, none⟩ = some (.slice (some ⟨b1, o1, none⟩) len1 cap1) ∧ w'.cell? ⟨w.heap.size + 1, 2, none⟩ = some (.slice (some ⟨b2, o2, none⟩) len2 cap2) ∧ w'.cell? ⟨w.heap.size + 1 + 1 + 1, 2, none⟩ = some sv ∧ w'.cell? ⟨b1, o1 + k * 3, none⟩ = some (.int .i64 x.f) ∧ w'.cell? ⟨b1, o1 + k * 3 + 2, none⟩ = some (.bool x.s) ∧ w'.cell? ⟨b2, o2 + j * 3 + 1, none⟩ = some (.int .i64 y.t) ∧ w'.cell? ⟨b2, o2 + j * 3 + 2, none⟩ = some (.bool y.s) := fun w' hb =>
              ⟨(hb.cell (p := ⟨w.heap.size, 2, none⟩) (by show w.heap.size < _; omega)).trans c0, (hb.cell (p := ⟨w.heap.size + 1, 2, none⟩) (by show w.heap.size + 1 < _; omega)).trans c1, (hb.cell (p := ⟨w.heap.size + 1 + 1 + 1, 2, none⟩) (by show w.heap.size + 1 + 1 + 1 < _; omega)).trans c3,
                (hb.cell (p := ⟨b1, o1 + k * 3, none⟩) (by show b1 < _; omega)).trans p0, (hb.cell (p := ⟨b1, o1 + k * 3 + 2, none⟩) (by show b1 < _; omega)).trans p2, (hb.cell (p := ⟨b2, o2 + j * 3 + 1, none⟩) (by show b2 < _; omega)).trans q1, (hb.cell (p := ⟨b2, o2 + j * 3 + 2, none⟩) (by show b2 < _; omega)).trans q2⟩
            have hBd : Below wr.heap.size wr wr.drew.drew := ⟨rfl, rfl, rfl, Nat.le_refl _, fun _ _ => rfl⟩
            have hRd := hR.same hBd
            have hL := linksAt_of_owns hRd.own (by have := hTel.len; omega)
            obtain ⟨ps, pcap, rfl⟩ := owns_any hRd.own
            have pc := fun s => putLink_calls ps pcap G.length wr.drew.drew.heap.size G ⟨x.f, y.t, s⟩ rfl hTel.asc (Nat.le_trans hTel.len hFT) (fun z hz => ⟨hFk _ (hTel.fr z hz).1, hTk _ (hTel.fr z hz).2⟩) ⟨hFk _ (hF x (List.mem_of_getElem? hx)), hTk _ (hT y (List.mem_of_getElem? hy))⟩ wr.drew.drew (Nat.le_refl _) hL
            simp only at pc
            clear c0 c1 c3 z3 p0 p1 p2 q0 q1 q2 hL
            go_wp2
            refine Heavy.region_plan (fun w' => Below wr.heap.size wr w') 31 (Heavy.lights [0, 1, 2, 3, 4, 5, 6, 7, 8, 9, 10, 11, 12, 13, 14, 15, 16, 17, 18, 19, 20, 21, 22, 23, 24, 25, 26, 27, 28] (.one 29 (.light 30 .done))) (by kernel_rfl) (by kernel_rfl) ⟨rfl, rfl, rfl, Nat.le_refl _, fun _ _ => rfl⟩ ?_
            simp only [Heavy.lights, List.take_succ_cons, List.take_zero, List.drop_succ_cons, List.drop_zero]
            cases hs : x.s
            · rw [hs] at fc hTel2
              simp only [Bool.false_or] at hTel2
              iterate 29 (first | (apply Heavy.light_n; (exact rfl); (exact rfl); (intro wr2 hw; have x0 := (fc wr2 hw).1; have x1 := (fc wr2 hw).2.1; have x3 := (fc wr2 hw).2.2.1; have x4 := (fc wr2 hw).2.2.2.1; have x5 := (fc wr2 hw).2.2.2.2.1; have x6 := (fc wr2 hw).2.2.2.2.2.1; have x7 := (fc wr2 hw).2.2.2.2.2.2; go_simp; exact rfl)) | (apply Heavy.light_step; (exact rfl); (go_simp); (intro wr2 hw; have x0 := (fc wr2 hw).1; have x1 := (fc wr2 hw).2.1; have x3 := (fc wr2 hw).2.2.1; have x4 := (fc wr2 hw).2.2.2.1; have x5 := (fc wr2 hw).2.2.2.2.1; have x6 := (fc wr2 hw).2.2.2.2.2.1; have x7 := (fc wr2 hw).2.2.2.2.2.2; go_simp; exact rfl)) | (refine Heavy.light_skip rfl (by first | (go_simp; done) | (go_simp; intro h; cases h)) ?_))
              apply Heavy.one_n
              · exact rfl
              · exact rfl
              go_simp
              refine (pc y.s).mono ?_
              rintro e w5 ⟨sv5, N, rfl, ho, hput, _, hb⟩
              obtain ⟨p5, q5, rfl⟩ := owns_any ho
              have hR5 := hRd.same hb
              obtain ⟨d0, d1, d3, z5⟩ := hR5.cells
              have hR6 := hR5.put (owns_base ho (by show w.heap.size + 4 ≤ wr.heap.size + 1; have := hR.lt; omega))
              refine ⟨_, rfl, hBd.trans hb, ?_⟩
              apply Heavy.light_n
              · exact rfl
              · exact rfl
              · intro wr2 hw
                go_simp
                exact rfl
              apply Heavy.plan_end
              show wpList _ _ _ _ _ _
              go_wp2
              exact ⟨⟨j + 1, _, N, by omega, by simp, hR6, by rw [htk]; exact hTel2 N hput (hF x (List.mem_of_getElem? hx)) (hT y (List.mem_of_getElem? hy))⟩, by simp [intOf]; omega⟩
            · rw [hs] at fc hTel2
              simp only [Bool.true_or] at hTel2
              iterate 29 (first | (apply Heavy.light_n; (exact rfl); (exact rfl); (intro wr2 hw; have x0 := (fc wr2 hw).1; have x1 := (fc wr2 hw).2.1; have x3 := (fc wr2 hw).2.2.1; have x4 := (fc wr2 hw).2.2.2.1; have x5 := (fc wr2 hw).2.2.2.2.1; have x6 := (fc wr2 hw).2.2.2.2.2.1; have x7 := (fc wr2 hw).2.2.2.2.2.2; go_simp; exact rfl)) | (apply Heavy.light_step; (exact rfl); (go_simp); (intro wr2 hw; have x0 := (fc wr2 hw).1; have x1 := (fc wr2 hw).2.1; have x3 := (fc wr2 hw).2.2.1; have x4 := (fc wr2 hw).2.2.2.1; have x5 := (fc wr2 hw).2.2.2.2.1; have x6 := (fc wr2 hw).2.2.2.2.2.1; have x7 := (fc wr2 hw).2.2.2.2.2.2; go_simp; exact rfl)) | (refine Heavy.light_skip rfl (by first | (go_simp; done) | (go_simp; intro h; cases h)) ?_))
              apply Heavy.one_n
              · exact rfl
              · exact rfl
              go_simp
              refine (pc true).mono ?_
              rintro e w5 ⟨sv5, N, rfl, ho, hput, _, hb⟩
              obtain ⟨p5, q5, rfl⟩ := owns_any ho
              have hR5 := hRd.same hb
              obtain ⟨d0, d1, d3, z5⟩ := hR5.cells
              have hR6 := hR5.put (owns_base ho (by show w.heap.size + 4 ≤ wr.heap.size + 1; have := hR.lt; omega))
              refine ⟨_, rfl, hBd.trans hb, ?_⟩
              apply Heavy.light_n
              · exact rfl
              · exact rfl
              · intro wr2 hw
                go_simp
                exact rfl
              apply Heavy.plan_end
              show wpList _ _ _ _ _ _
              go_wp2
              exact ⟨⟨j + 1, _, N, by omega, by simp, hR6, by rw [htk]; exact hTel2 N hput (hF x (List.mem_of_getElem? hx)) (hT y (List.mem_of_getElem? hy))⟩, by simp [intOf]; omega⟩
          · have hxyB : (x.t == y.f) = false := by simpa using hxy
            have hTel2 := hTel.skip hxy
            have hR2 := hR.same (w' := wr.drew) ⟨rfl, rfl, rfl, Nat.le_refl _, fun _ _ => rfl⟩
            clear hxy
            go_wp2
            refine wp_region_still_tail 12 (by kernel_rfl) (by kernel_rfl) ?_
            simp only [List.take_succ_cons, List.take_zero, List.drop_succ_cons, List.drop_zero, World.drew_eq]
            repeat (with_reducible refine wpStill_step (fun K hK => ?_); go_simp; with_reducible refine hK _ ?_; clear hK K)
            refine wpStill_nil ?_
            show wpList _ _ _ _ _ _
            go_wp2
            exact ⟨⟨j + 1, sv, G, by omega, by simp, hR2, by rw [htk]; exact hTel2⟩, by simp [intOf]; omega⟩
        · obtain rfl : j = len2 := by omega
          have hB : B.take j = B := List.take_of_length_le (by omega)
          rw [hB] at hTel
          have hA : (A.take (k + 1)).foldl (rowM B) [] = B.foldl (stepM x) M0 := by
            rw [List.take_add_one, hx, List.foldl_append, hM0]; simp [rowM]
          go_wp2
          exact ⟨⟨k + 1, sv, G, by omega, by simp, hR, by rw [hA]; exact hTel⟩, by simp [intOf]; omega⟩
    · obtain rfl : k = len1 := by omega
      have hM : A.take k = A := List.take_of_length_le (by omega)
      rw [hM] at hTel
      obtain ⟨ps, pcap, rfl⟩ := owns_any hR.own
      have hL := linksAt_of_owns hR.own (by have := hTel.len; omega)
      have hcomp := hTel.comp
      have hlt' := hR.lt
      have hob : ∀ b, (Value.slice ps G.length pcap).ownBlock = some b → w.heap.size + 4 ≤ b := fun b hb => (hR.own.lt b hb).1
      obtain ⟨r0, r1, r2, r3, r4, r5, r6, r7, r8⟩ : wr.cell? ⟨w.heap.size + 1 + 1 + 1, 0, none⟩ = some (.int .i64 f1) ∧ wr.cell? ⟨w.heap.size + 1 + 1 + 1, 1, none⟩ = some (.int .i64 t2) ∧ wr.cell? ⟨w.heap.size + 1 + 1 + 1, 2, none⟩ = some (.slice ps G.length pcap) ∧
          wr.cell? ⟨w.heap.size + 1 + 1, 0, none⟩ = some (.int .i64 0) ∧ wr.cell? ⟨w.heap.size + 1 + 1, 1, none⟩ = some (.int .i64 0) ∧ wr.cell? ⟨w.heap.size + 1 + 1, 2, none⟩ = some (.slice none 0 0) ∧
          wr.frozen? ⟨w.heap.size + 1 + 1, 0, none⟩ = false ∧ wr.frozen? ⟨w.heap.size + 1 + 1, 1, none⟩ = false ∧ wr.frozen? ⟨w.heap.size + 1 + 1, 2, none⟩ = false := by
        simp [World.cell?, World.frozen?, hR.b2, hR.b3]
      clear h1 h2 hTel c1 c3 z3
      go_wp2
      have hres := put3_block (a := .int .i64 f1) (b := .int .i64 t2) (c := .slice ps G.length pcap) hR.b2
      have hne : ∀ b, (Value.slice ps G.length pcap).ownBlock = some b → b ≠ w.heap.size + 1 + 1 := fun b hb => by have := hob b hb; omega
      refine bodyPost_ret (results_cell_row rfl _ _ (w.heap.size + 1 + 1) 25 _ _ _ rfl hres Tryz.underlying25 rfl (by kernel_rfl)) rfl ?_
      refine ⟨_, G, rfl, ?_, hcomp, fun b hb => (by have := hob b hb; omega), ?_⟩
      · rw [setCell_size, setCell_size, setCell_size]
        exact ((hL.put hne).put hne).put hne
      · exact hR.bel.trans ((below_put _ _ _ _ (by omega)).trans ((below_put _ _ _ _ (by omega)).trans (below_put _ _ _ _ (by omega))))
end Go.Proofs.YtbleedclnkpbkaaGreatDoor
end
