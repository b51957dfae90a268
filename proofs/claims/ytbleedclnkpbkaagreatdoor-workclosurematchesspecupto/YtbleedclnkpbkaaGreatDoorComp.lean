/-
  A part of the proof of the card of WorkClosureMatchesSpec (second form): lemmas that the text Card uses. No condition of its own.
-/
import Derived.Test.YtbleedclnkpbkaaGreatDoorSorts
import Derived.Test.YtbleedclnkpbkaaGreatDoorMid
set_option linter.all false
set_option linter.unusedVariables false
set_option linter.unusedSimpArgs false
section
namespace Go.Proofs.YtbleedclnkpbkaaGreatDoor
open Go.RowKit Go.Sort
set_option maxRecDepth 100000 in
set_option maxHeartbeats 1000000 in
theorem compose_calls (F T : List Int) (hFT : F.length * T.length ≤ 2199023255552) (f1 t1 f2 t2 : Int) (a1 a2 : Option Addr) (cap1 cap2 len1 len2 n : Nat) (A B : List Lk) (hF : ∀ a ∈ A, a.f ∈ F) (hT : ∀ b ∈ B, b.t ∈ T) (hl1 : A.length = len1) (hl2 : B.length = len2) (w : World) (hn : n ≤ w.heap.size) (h1 : LinksAt n w (.slice a1 len1 cap1) A) (h2 : LinksAt n w (.slice a2 len2 cap2) B) :
    Calls Tryz.prog 15 #[.agg #[.int .i64 f1, .int .i64 t1, .slice a1 len1 cap1], .agg #[.int .i64 f2, .int .i64 t2, .slice a2 len2 cap2]] w fun e w' => ∃ sv L, e = .returned (.agg #[.int .i64 f1, .int .i64 t2, sv]) ∧ LinksAt w'.heap.size w' sv L ∧ IsComp A B L ∧ (∀ b, sv.ownBlock = some b → w.heap.size ≤ b) ∧ Below w.heap.size w w' := by
  have hbig1 : len1 < 4611686018427387904 := by obtain ⟨_, _, _, h, _⟩ := h1; omega
  have hbig2 : len2 < 4611686018427387904 := by obtain ⟨_, _, _, h, _⟩ := h2; omega
  have mk := makeMap_key
  go_enter Tryz.func15, Tryz.ntmps15
  go_wp2
  obtain ⟨wb, hwb⟩ : ∃ wb, (((w.alloc (Obj.cells #[.int .i64 f1, .int .i64 t1, .slice a1 len1 cap1] 25)).alloc (Obj.cells #[.int .i64 f2, .int .i64 t2, .slice a2 len2 cap2] 25)).alloc (Obj.cells #[.int .i64 0, .int .i64 0, .slice none 0 0] 25)).alloc (Obj.map #[] 0) = wb := ⟨_, rfl⟩
  have b0 : Below w.heap.size w wb := by rw [← hwb]; exact ((below_alloc2 _ _ _).alloc (by simp; omega) _).alloc (by simp; omega) _
  have hsz : wb.heap.size = w.heap.size + 4 := by rw [← hwb]; simp
  have m0 : MapAt wb (w.heap.size + 3) [] := by rw [← hwb]; have := mapAt_new (((w.alloc (Obj.cells #[.int .i64 f1, .int .i64 t1, .slice a1 len1 cap1] 25)).alloc (Obj.cells #[.int .i64 f2, .int .i64 t2, .slice a2 len2 cap2] 25)).alloc (Obj.cells #[.int .i64 0, .int .i64 0, .slice none 0 0] 25)) 0; simpa using this
  have c1 : wb.cell? ⟨w.heap.size, 2, none⟩ = some (.slice a1 len1 cap1) := by rw [← hwb]; clear hwb; go_simp
  have c2 : wb.cell? ⟨w.heap.size + 1, 2, none⟩ = some (.slice a2 len2 cap2) := by rw [← hwb]; clear hwb; go_simp
  have c3 : wb.cell? ⟨w.heap.size, 0, none⟩ = some (.int .i64 f1) := by rw [← hwb]; clear hwb; go_simp
  have c4 : wb.cell? ⟨w.heap.size + 1, 1, none⟩ = some (.int .i64 t2) := by rw [← hwb]; clear hwb; go_simp
  have c5 : wb.heap[w.heap.size + 2]? = some (.cells #[.int .i64 0, .int .i64 0, .slice none 0 0] 25 (0, 0)) := by
    rw [← hwb, Below.heap_alloc _ _ _ (by simp)]; have := heap_alloc_new ((w.alloc (Obj.cells #[.int .i64 f1, .int .i64 t1, .slice a1 len1 cap1] 25)).alloc (Obj.cells #[.int .i64 f2, .int .i64 t2, .slice a2 len2 cap2] 25)) (Obj.cells #[.int .i64 0, .int .i64 0, .slice none 0 0] 25); simpa using this
  rw [hwb]
  clear hwb
  have mid0 : Mid w.heap.size wb wb [] := ⟨Below.refl _ _, by omega, m0⟩
  go_loopw [18] (fun i wr => ∃ k : Nat, k ≤ len1 ∧ i = .int .i64 k ∧ Mid w.heap.size wb wr ((A.take k).foldl (rowM B) [])) (fun i _ => len1 - (intOf i).toNat)
  case atStart => exact ⟨0, Nat.zero_le _, rfl, mid0⟩
  case round =>
    obtain ⟨k, hk, rfl, hmid⟩ := hrel
    have d1 : wr.cell? ⟨w.heap.size, 2, none⟩ = some (.slice a1 len1 cap1) := (hmid.below.cell (p := ⟨w.heap.size, 2, none⟩) (by show w.heap.size < _; omega)).trans c1
    have d2 : wr.cell? ⟨w.heap.size + 1, 2, none⟩ = some (.slice a2 len2 cap2) := (hmid.below.cell (p := ⟨w.heap.size + 1, 2, none⟩) (by show w.heap.size + 1 < _; omega)).trans c2
    have bw : Below w.heap.size w wr := b0.trans (hmid.below.mono (by omega))
    have g1 := h1.below (bw.mono hn)
    by_cases hlt : k < len1
    · obtain ⟨x, hx⟩ : ∃ x, A[k]? = some x := ⟨A[k], List.getElem?_eq_getElem (by omega)⟩
      obtain ⟨b1, o1, rfl, hb1, p1, p2, p3⟩ := g1.get hx
      have e2 : (wr.alloc (Obj.cells #[.int .i64 x.f, .int .i64 x.t, .bool x.s] 38)).cell? ⟨w.heap.size + 1, 2, none⟩ = some (.slice a2 len2 cap2) := ((below_alloc wr _).cell (p := ⟨w.heap.size + 1, 2, none⟩) (by have := hmid.size; show w.heap.size + 1 < wr.heap.size; omega)).trans d2
      clear g1 h1
      go_wp2
      obtain ⟨M0, hM0⟩ : ∃ M0, (A.take k).foldl (rowM B) [] = M0 := ⟨_, rfl⟩
      rw [hM0] at hmid
      have hbx := hmid.size
      have mid1 := hmid.alloc (Obj.cells #[.int .i64 x.f, .int .i64 x.t, .bool x.s] 38)
      have x0 : (wr.alloc (Obj.cells #[.int .i64 x.f, .int .i64 x.t, .bool x.s] 38)).cell? ⟨wr.heap.size, 0, none⟩ = some (.int .i64 x.f) := by go_simp
      have x1 : (wr.alloc (Obj.cells #[.int .i64 x.f, .int .i64 x.t, .bool x.s] 38)).cell? ⟨wr.heap.size, 1, none⟩ = some (.int .i64 x.t) := by go_simp
      have x2 : (wr.alloc (Obj.cells #[.int .i64 x.f, .int .i64 x.t, .bool x.s] 38)).cell? ⟨wr.heap.size, 2, none⟩ = some (.bool x.s) := by go_simp
      have his : (wr.alloc (Obj.cells #[.int .i64 x.f, .int .i64 x.t, .bool x.s] 38)).heap.size = wr.heap.size + 1 := by simp
      generalize wr.alloc (Obj.cells #[.int .i64 x.f, .int .i64 x.t, .bool x.s] 38) = wi at mid1 x0 x1 x2 his ⊢
      generalize wr.heap.size = bx at x0 x1 x2 his hbx ⊢
      generalize Value.agg #[.int .i64 x.f, .int .i64 x.t, .bool x.s] = vx
      go_loopw [25] (fun i wr2 => ∃ j : Nat, j ≤ len2 ∧ i = .int .i64 j ∧ Mid w.heap.size wb wr2 ((B.take j).foldl (stepM x) M0) ∧ bx < wr2.heap.size ∧ wr2.heap[bx]? = wi.heap[bx]?) (fun i _ => len2 - (intOf i).toNat)
      case atStart => exact ⟨0, Nat.zero_le _, rfl, mid1, by omega, rfl⟩
      case round =>
        obtain ⟨j, hj, rfl, hm2, hsz2, hbk⟩ := hrel
        have dd2 : wr.cell? ⟨w.heap.size + 1, 2, none⟩ = some (.slice a2 len2 cap2) := (hm2.below.cell (p := ⟨w.heap.size + 1, 2, none⟩) (by show w.heap.size + 1 < _; omega)).trans c2
        have y0 : wr.cell? ⟨bx, 0, none⟩ = some (.int .i64 x.f) := (World.cell?_of_block (a := ⟨bx, 0, none⟩) hbk).trans x0
        have y1 : wr.cell? ⟨bx, 1, none⟩ = some (.int .i64 x.t) := (World.cell?_of_block (a := ⟨bx, 1, none⟩) hbk).trans x1
        have y2 : wr.cell? ⟨bx, 2, none⟩ = some (.bool x.s) := (World.cell?_of_block (a := ⟨bx, 2, none⟩) hbk).trans x2
        have bw2 : Below w.heap.size w wr := b0.trans (hm2.below.mono (by omega))
        have g2 := h2.below (bw2.mono hn)
        by_cases hlt2 : j < len2
        · obtain ⟨y, hy⟩ : ∃ y, B[j]? = some y := ⟨B[j], List.getElem?_eq_getElem (by omega)⟩
          have htk : (B.take (j + 1)).foldl (stepM x) M0 = stepM x ((B.take j).foldl (stepM x) M0) y := by
            rw [List.take_add_one, hy]; simp
          generalize hMj : (B.take j).foldl (stepM x) M0 = Mj at hm2 htk
          obtain ⟨b2, o2, rfl, hb2, q1, q2, q3⟩ := g2.get hy
          have e0 : (wr.alloc (Obj.cells #[.int .i64 y.f, .int .i64 y.t, .bool y.s] 38)).cell? ⟨bx, 0, none⟩ = some (.int .i64 x.f) := ((below_alloc wr _).cell (p := ⟨bx, 0, none⟩) hsz2).trans y0
          have e1 : (wr.alloc (Obj.cells #[.int .i64 y.f, .int .i64 y.t, .bool y.s] 38)).cell? ⟨bx, 1, none⟩ = some (.int .i64 x.t) := ((below_alloc wr _).cell (p := ⟨bx, 1, none⟩) hsz2).trans y1
          have e2' : (wr.alloc (Obj.cells #[.int .i64 y.f, .int .i64 y.t, .bool y.s] 38)).cell? ⟨bx, 2, none⟩ = some (.bool x.s) := ((below_alloc wr _).cell (p := ⟨bx, 2, none⟩) hsz2).trans y2
          clear g2 h2
          by_cases hxy : x.t = y.f
          · have hxyB : (x.t == y.f) = true := by simpa using hxy
            go_wp2
            have mm := (hm2.alloc (Obj.cells #[.int .i64 y.f, .int .i64 y.t, .bool y.s] 38)).alloc (Obj.cells #[.int .i64 x.f, .int .i64 y.t] 83)
            have lk : (Instr.lookup 82 (.map (some (w.heap.size + 1 + 1 + 1))) (.agg #[.int .i64 x.f, .int .i64 y.t]) false).run Tryz.prog _ = _ := lookup_key mm.drew.map (x.f, y.t)
            generalize hv0 : (valM (x.f, y.t) Mj).getD false = v0 at lk
            refine wp_region_still_tail 13 (by kernel_rfl) (by kernel_rfl) ?_
            simp only [List.take_succ_cons, List.take_zero, List.drop_succ_cons, List.drop_zero, World.drew_eq]
            cases v0
            · cases hs : x.s
              · rw [hs] at e2'
                repeat still_step
                refine wpStill_nil ?_
                show wpList _ _ _ _ _ _
                obtain ⟨wu, up, mu, hsu, hku⟩ := mm.drew.update (x.f, y.t) y.s
                simp only at up
                go_wp2
                go_roundw
                case rel =>
                  refine ⟨j + 1, by omega, by simp, ?_, ?_, ?_⟩
                  · rw [htk, stepM, if_pos hxy, hv0]; simpa [hs] using mu
                  · rw [hsu]; simp; omega
                  · rw [hku bx (by omega), show ((wr.alloc (Obj.cells #[.int .i64 y.f, .int .i64 y.t, .bool y.s] 38)).alloc (Obj.cells #[.int .i64 x.f, .int .i64 y.t] 83)).drew.heap = ((wr.alloc (Obj.cells #[.int .i64 y.f, .int .i64 y.t, .bool y.s] 38)).alloc (Obj.cells #[.int .i64 x.f, .int .i64 y.t] 83)).heap from rfl, Below.heap_alloc _ _ _ (by rw [World.size_alloc]; omega), Below.heap_alloc wr _ _ hsz2]; exact hbk
                case measure => simp [intOf]; omega
              · rw [hs] at e2'
                repeat still_step
                refine wpStill_nil ?_
                show wpList _ _ _ _ _ _
                obtain ⟨wu, up, mu, hsu, hku⟩ := mm.drew.update (x.f, y.t) true
                simp only at up
                go_wp2
                go_roundw
                case rel =>
                  refine ⟨j + 1, by omega, by simp, ?_, ?_, ?_⟩
                  · rw [htk, stepM, if_pos hxy, hv0]; simpa [hs] using mu
                  · rw [hsu]; simp; omega
                  · rw [hku bx (by omega), show ((wr.alloc (Obj.cells #[.int .i64 y.f, .int .i64 y.t, .bool y.s] 38)).alloc (Obj.cells #[.int .i64 x.f, .int .i64 y.t] 83)).drew.heap = ((wr.alloc (Obj.cells #[.int .i64 y.f, .int .i64 y.t, .bool y.s] 38)).alloc (Obj.cells #[.int .i64 x.f, .int .i64 y.t] 83)).heap from rfl, Below.heap_alloc _ _ _ (by rw [World.size_alloc]; omega), Below.heap_alloc wr _ _ hsz2]; exact hbk
                case measure => simp [intOf]; omega
            · repeat still_step
              refine wpStill_nil ?_
              show wpList _ _ _ _ _ _
              obtain ⟨wu, up, mu, hsu, hku⟩ := mm.drew.update (x.f, y.t) true
              simp only at up
              go_wp2
              go_roundw
              case rel =>
                refine ⟨j + 1, by omega, by simp, ?_, ?_, ?_⟩
                · rw [htk, stepM, if_pos hxy, hv0]; simpa using mu
                · rw [hsu]; simp; omega
                · rw [hku bx (by omega), show ((wr.alloc (Obj.cells #[.int .i64 y.f, .int .i64 y.t, .bool y.s] 38)).alloc (Obj.cells #[.int .i64 x.f, .int .i64 y.t] 83)).drew.heap = ((wr.alloc (Obj.cells #[.int .i64 y.f, .int .i64 y.t, .bool y.s] 38)).alloc (Obj.cells #[.int .i64 x.f, .int .i64 y.t] 83)).heap from rfl, Below.heap_alloc _ _ _ (by rw [World.size_alloc]; omega), Below.heap_alloc wr _ _ hsz2]; exact hbk
              case measure => simp [intOf]; omega
          · have hxyB : (x.t == y.f) = false := by simpa using hxy
            go_wp2
            refine ⟨⟨j + 1, by omega, by simp, ?_, ?_, ?_⟩, by simp [intOf]; omega⟩
            · rw [htk, stepM, if_neg hxy]; exact hm2.alloc _
            · rw [World.size_alloc]; omega
            · rw [Below.heap_alloc wr _ _ hsz2]; exact hbk
        · obtain rfl : j = len2 := by omega
          go_wp2
          refine ⟨⟨k + 1, by omega, by simp, ?_⟩, by simp [intOf]; omega⟩
          have hB : B.take j = B := List.take_of_length_le (by omega)
          rw [hB] at hm2
          have hA : (A.take (k + 1)).foldl (rowM B) [] = B.foldl (stepM x) M0 := by
            rw [List.take_add_one, hx, List.foldl_append, hM0]; simp [rowM]
          rw [hA]; exact hm2
    · obtain rfl : k = len1 := by omega
      have hM : A.take k = A := List.take_of_length_le (by omega)
      rw [hM] at hmid
      obtain ⟨M, hMe⟩ : ∃ M, A.foldl (rowM B) [] = M := ⟨_, rfl⟩
      have hTells : Tells M fun a b => a ∈ A ∧ b ∈ B := by rw [← hMe]; exact allM_tells A B
      rw [hMe] at hmid
      have mid2 := hmid.alloc (Obj.cells #[.int .i64 f1, .int .i64 t2, .slice none 0 0] 25)
      obtain ⟨o, hrg, hit⟩ := range_key mid2.map
      rw [World.size_alloc] at hrg hit
      have hrg' : (Instr.range 82 (.map (some (w.heap.size + 1 + 1 + 1)))).run Tryz.prog (wr.alloc (Obj.cells #[.int .i64 f1, .int .i64 t2, .slice none 0 0] 25)) = _ := hrg
      have d3 : wr.cell? ⟨w.heap.size, 0, none⟩ = some (.int .i64 f1) := (hmid.below.cell (p := ⟨w.heap.size, 0, none⟩) (by show w.heap.size < _; omega)).trans c3
      have d4 : wr.cell? ⟨w.heap.size + 1, 1, none⟩ = some (.int .i64 t2) := (hmid.below.cell (p := ⟨w.heap.size + 1, 1, none⟩) (by show w.heap.size + 1 < _; omega)).trans c4
      have gat0 := Gat.start hmid hit
      have hnod := hit.nodup
      clear hrg mid2 hit g1 h1 h2
      go_wp2
      generalize (wr.alloc (Obj.cells #[.int .i64 f1, .int .i64 t2, .slice none 0 0] 25)).alloc o = W3 at gat0 ⊢
      generalize wr.heap.size = g at gat0 ⊢
      obtain ⟨i0, hi, hz0, hz1, hz2⟩ := info_parts Tryz_info67
      have hMn := keys_le hTells hnod hF hT
      clear hrg' d3 d4 hmid
      go_loopw [] (fun wr => ∃ (D : List KB) (sv : Value), Gat w.heap.size g f1 t2 wb wr M D D sv ∧ (∀ p ∈ D, p ∈ M) ∧ (D.map (·.1)).Nodup) (fun wr => M.length - lenAt wr g)
      case atStart => exact ⟨[], _, gat0, by simp, by simp⟩
      case round =>
        obtain ⟨D, sv, gat, hsub, hnd⟩ := hrel
        have hlen := gat.len
        rcases gat.next 0 with ⟨hall, wn, hrn, gatn⟩ | ⟨p, hp, hnin, wn, hrn, gatn⟩
        · have hso := gatn.sorts hTells hnod hsub hall hnd (by have := length_le_of_nodup (l := D) (m := M) ((List.pairwise_map.1 hnd).imp fun h e => h (by rw [e])) hsub; omega)
          have hsh := owns_any gat.own
          obtain ⟨ps, cps, rfl⟩ := hsh
          have cg := gatn.cell
          clear gat
          go_wp2_with (go_at_call 37; refine hso.mono ?_; rintro e w' ⟨rfl, L, hL, hcomp, hbel⟩; obtain ⟨k0, k1, k2, k3, k4, k5, k6, k7, k8⟩ := gatn.after hbel c5)
          have hne : ∀ b, (Value.slice ps D.length cps).ownBlock = some b → b ≠ w.heap.size + 1 + 1 := fun b hb => by have := (gatn.own.lt b hb).1; have := gatn.hg; omega
          have hbn := gatn.hg
          have hres := put3_block (a := .int .i64 f1) (b := .int .i64 t2) (c := .slice ps D.length cps) (gatn.res hbel c5)
          refine bodyPost_ret (results_cell_row rfl _ _ (w.heap.size + 1 + 1) 25 _ _ _ rfl hres Tryz.underlying25 rfl (by kernel_rfl)) rfl ?_
          refine ⟨_, L, rfl, ?_, hcomp, fun b hb => (by have := (gatn.own.lt b hb).1; omega), ?_⟩
          · rw [setCell_size, setCell_size, setCell_size]
            exact ((hL.put hne).put hne).put hne
          · exact b0.trans ((gatn.below.mono (by omega)).trans ((hbel.mono (by omega)).trans ((below_put _ _ _ _ (by omega)).trans ((below_put _ _ _ _ (by omega)).trans (below_put _ _ _ _ (by omega))))))
        · have hen : (Instr.entry (.pointer (some ⟨g + 1, 0, none⟩))).run Tryz.prog wn = .ok (.tuple #[.agg #[.int .i64 p.1.1, .int .i64 p.1.2], .bool p.2]) wn := entry_key gatn.iter
          have gat2 := gatn.alloc (Obj.cells #[.int .i64 p.1.1, .int .i64 p.1.2] 83)
          have cg := gat2.cell
          have hgb := gatn.hg
          have hgl := gatn.lt
          have hDM : D.length < M.length := by
              have h2 := length_le_of_nodup (l := p :: D) (m := M) (by
                rw [List.nodup_cons]; exact ⟨fun hm => hnin (List.mem_map.2 ⟨p, hm, rfl⟩), (List.pairwise_map.1 hnd).imp fun h e => h (by rw [e])⟩) (by
                intro q hq; rcases List.mem_cons.1 hq with rfl | hq
                · exact hp
                · exact hsub q hq)
              rw [List.length_cons] at h2; omega
          have hDl : D.length < 2199023255552 := by omega
          go_wp2_with (at_builtin; refine wpList_append_own _ rfl _ _ 23 rfl (g + 2) 38 i0 (.agg #[.int .i64 0, .int .i64 0, .bool false]) 3 24 Tryz.underlying23 hi hz0 hz1 hz2 rfl (by decide) _ _ _ rfl (gat2.alloc _).own ⟨wn.heap.size + 1, 0, none⟩ 1 1 [.int .i64 p.1.1, .int .i64 p.1.2, .bool p.2] rfl rfl (cell_three_new (World.size_alloc _ _) _ _ _ _) (fun x hx => by simp at hx; rcases hx with rfl | rfl | rfl <;> rfl) (by unfold maxLen; omega) (by omega) (by simp; omega) ?_; intro v' w3 hown' hgrow3 hnil3; obtain ⟨hout, gat3⟩ := (gat2.alloc _).grown (p := p) hgrow3 hown'; have hc3 : w3.cell? ⟨g, 2, none⟩ = some sv := (by simp [World.cell?, hout]); have hf3 : w3.frozen? ⟨g, 2, none⟩ = false := (by simp [World.frozen?, hout]); obtain ⟨gb, cap3, rfl⟩ := owns_slice hown'; clear hown' hgrow3 hnil3 hout)
          have hlen3 := gat3.len
          go_roundw
          case rel =>
            refine ⟨D ++ [p], _, gat3, fun q hq => ?_, ?_⟩
            · rcases List.mem_append.1 hq with hq | hq
              · exact hsub q hq
              · simp at hq; subst hq; exact hp
            · rw [List.map_append, List.nodup_append]
              refine ⟨hnd, by simp, fun a ha b hb e => ?_⟩
              simp at hb; subst hb; subst e; exact hnin ha
          case measure => rw [hlen3, hlen]; simp; omega
end Go.Proofs.YtbleedclnkpbkaaGreatDoor
end
