/-
  A part of the proof of the card of WorkClosureMatchesSpec (second form): lemmas that the text Card uses. No condition of its own.
-/
import Derived.Test.YtbleedclnkpbkaaGreatDoorCopyB
import Derived.Test.YtbleedclnkpbkaaGreatDoorOrdC
import Derived.Test.YtbleedclnkpbkaaGreatDoorPuts
set_option linter.all false
set_option linter.unusedVariables false
set_option linter.unusedSimpArgs false
section
namespace Go.Proofs.YtbleedclnkpbkaaGreatDoor
open Go.RowKit Go.Sort
/-- putLink's world: its box for x, the row that it builds -/
structure PW (n0 : Nat) (x : Lk) (s : Bool) (w : World) (wr : World) (nx : Value) (N : List Lk) : Prop where
  own : wr.ownsRow (n0 + 1) 38 3 nx N.length (N.flatMap Lk.cells)
  box : wr.heap[n0]? = some (.cells #[.int .i64 x.f, .int .i64 x.t, .bool s] 38 (0, 0))
  bel : Below n0 w wr
theorem PW.same {n0 : Nat} {x : Lk} {s : Bool} {w wr w' : World} {nx : Value} {N : List Lk} (h : PW n0 x s w wr nx N) (hb : Below wr.heap.size wr w') : PW n0 x s w w' nx N := by
  have hn : n0 < wr.heap.size := (Array.getElem?_eq_some_iff.1 h.box).1
  exact ⟨owns_kept h.own fun k _ hk => hb.block k hk, (hb.block _ hn).trans h.box, h.bel.trans (hb.mono (by omega))⟩
theorem PW.lt {n0 : Nat} {x : Lk} {s : Bool} {w wr : World} {nx : Value} {N : List Lk} (h : PW n0 x s w wr nx N) : n0 < wr.heap.size := (Array.getElem?_eq_some_iff.1 h.box).1
theorem PW.cells {n0 : Nat} {x : Lk} {s : Bool} {w wr : World} {nx : Value} {N : List Lk} (h : PW n0 x s w wr nx N) :
    wr.cell? ⟨n0, 0, none⟩ = some (.int .i64 x.f) ∧ wr.cell? ⟨n0, 1, none⟩ = some (.int .i64 x.t) ∧ wr.cell? ⟨n0, 2, none⟩ = some (.bool s) ∧ wr.frozen? ⟨n0, 2, none⟩ = false := by
  simp [World.cell?, World.frozen?, h.box]
theorem PW.grown {n0 : Nat} {x : Lk} {s : Bool} {w wr w' : World} {nx nx' : Value} {N : List Lk} {y : Lk} (h : PW n0 x s w wr nx N) (hg : wr.grownBy w' nx.ownBlock) (ho : w'.ownsRow (n0 + 1) 38 3 nx' (N.length + 1) (N.flatMap Lk.cells ++ [.int .i64 y.f, .int .i64 y.t, .bool y.s])) : PW n0 x s w w' nx' (N ++ [y]) := by
  have hl : ∀ b, nx.ownBlock = some b → n0 + 1 ≤ b := fun b hb => (h.own.lt b hb).1
  refine ⟨?_, (hg.block _ h.lt fun e => by have := hl n0 e.symm; omega).trans h.box, h.bel.trans ⟨hg.os, hg.tape, hg.output, hg.size, fun k hk => hg.block k (by have := h.lt; omega) fun e => by have := hl k e.symm; omega⟩⟩
  rw [List.length_append, List.flatMap_append]
  simpa [Lk.cells] using ho
theorem PW.put {n0 : Nat} {x : Lk} {s s' : Bool} {w wr : World} {nx : Value} {N : List Lk} (h : PW n0 x s w wr nx N) : PW n0 x s' w (wr.setCell ⟨n0, 2, none⟩ (.bool s')) nx N := by
  refine ⟨owns_kept h.own fun k hk _ => setCell_other wr n0 2 _ k (by omega), ?_, h.bel.trans (below_put _ _ _ _ (Nat.le_refl _))⟩
  rw [setCell_block h.box, if_pos rfl]
  rfl
theorem PW.drew {n0 : Nat} {x : Lk} {s : Bool} {w wr : World} {nx : Value} {N : List Lk} (h : PW n0 x s w wr nx N) : PW n0 x s w wr.drew nx N := h.same ⟨rfl, rfl, rfl, Nat.le_refl _, fun _ _ => rfl⟩
theorem PW.alloc {n0 : Nat} {x : Lk} {s : Bool} {w wr : World} {nx : Value} {N : List Lk} (h : PW n0 x s w wr nx N) (o : Obj) : PW n0 x s w (wr.alloc o) nx N := h.same (below_alloc wr o)
theorem Pst.len_no {l : List Lk} {x0 : Lk} {i : Nat} {s : Bool} {N : List Lk} (h : Pst l x0 i false s N) : N.length ≤ l.length := by
  cases h with
  | no _ h1 h2 =>
    have := List.length_filter_le (other x0) (l.take i)
    rw [List.length_take] at this; omega
theorem Pst.mem_no {l : List Lk} {x0 : Lk} {i : Nat} {s : Bool} {N : List Lk} (h : Pst l x0 i false s N) : ∀ y ∈ N, y ∈ l := by
  cases h with
  | no _ h1 h2 => exact fun y hy => List.mem_of_mem_take (List.mem_filter.1 hy).1
set_option maxRecDepth 100000 in
set_option maxHeartbeats 8000000 in
/-- putLink -/
theorem putLink_calls (a : Option Addr) (cap len n : Nat) (l : List Lk) (x : Lk) (hlen : l.length = len) (hasc : l.Pairwise keyLt) (hroom : len ≤ 2199023255552) (hok : ∀ y ∈ l, y.ok) (hxk : x.ok) (w : World) (hn : n ≤ w.heap.size) (h1 : LinksAt n w (.slice a len cap) l) :
    Calls Tryz.prog 27 #[.slice a len cap, .agg #[.int .i64 x.f, .int .i64 x.t, .bool x.s]] w fun e w' => ∃ (sv : Value) (N : List Lk), e = .returned sv ∧ w'.ownsRow (w.heap.size + 1) 38 3 sv N.length (N.flatMap Lk.cells) ∧ PutIs l x N ∧ N.length ≤ len + 1 ∧ Below w.heap.size w w' := by
  have hbig : len < 4611686018427387904 := by omega
  obtain ⟨i0, hi, hz0, hz1, hz2⟩ := info_parts Tryz_info67
  go_enter Tryz.func27, Tryz.ntmps27
  go_wp2
  have pw0 : PW w.heap.size x x.s w (w.alloc (Obj.cells #[.int .i64 x.f, .int .i64 x.t, .bool x.s] 38)) (.slice none 0 0) [] := ⟨World.ownsRow_nil _ _ _ _, heap_alloc_new w _, below_alloc w _⟩
  go_loopw [5, 6, 7] (fun nx dn i wr => ∃ (k : Nat) (d s : Bool) (N : List Lk), k ≤ len ∧ i = .int .i64 k ∧ dn = .bool d ∧ PW w.heap.size x s w wr nx N ∧ Pst l x k d s N) (fun nx dn i _ => len - (intOf i).toNat)
  case atStart => exact ⟨0, false, x.s, [], Nat.zero_le _, rfl, rfl, pw0, Pst.start l x⟩
  case round =>
    clear pw0
    obtain ⟨k, d, s, N, hk, rfl, rfl, hP, hQ⟩ := hrel
    have hNl := hQ.len
    obtain ⟨x0, x1, x2, x3⟩ := hP.cells
    by_cases hlt : k < len
    · obtain ⟨y, hy⟩ : ∃ y, l[k]? = some y := ⟨l[k], List.getElem?_eq_getElem (by omega)⟩
      have g1 := h1.below (hP.bel.mono hn)
      obtain ⟨b1, o1, rfl, hb1, p0, p1, p2⟩ := g1.get hy
      obtain ⟨b1', o1', hbe, hb1', r0, r1, r2⟩ := h1.get hy
      cases hbe
      have yc : ∀ W, Below w.heap.size w W → W.cell? ⟨b1, o1 + k * 3, none⟩ = some (.int .i64 y.f) ∧ W.cell? ⟨b1, o1 + k * 3 + 1, none⟩ = some (.int .i64 y.t) ∧ W.cell? ⟨b1, o1 + k * 3 + 2, none⟩ = some (.bool y.s) := fun W hW =>
        ⟨(hW.cell (p := ⟨b1, o1 + k * 3, none⟩) (by show b1 < _; omega)).trans r0, (hW.cell (p := ⟨b1, o1 + k * 3 + 1, none⟩) (by show b1 < _; omega)).trans r1, (hW.cell (p := ⟨b1, o1 + k * 3 + 2, none⟩) (by show b1 < _; omega)).trans r2⟩
      clear g1 h1 r0 r1 r2
      by_cases hsame : y.f = x.f ∧ y.t = x.t
      · have hfB : (y.f == x.f) = true := by simpa using hsame.1
        have htB : (y.t == x.t) = true := by simpa using hsame.2
        have hst := hQ.same hy hsame.1 hsame.2 hasc
        clear hsame hasc
        cases s
        · have hput := (hP.put (s' := y.s)).drew
          rw [Bool.false_or] at hst
          go_wp2
          refine wp_region_still_tail 17 (by kernel_rfl) (by kernel_rfl) ?_
          simp only [List.take_succ_cons, List.take_zero, List.drop_succ_cons, List.drop_zero, World.drew_eq]
          repeat (with_reducible refine wpStill_step (fun K hK => ?_); go_simp; with_reducible refine hK _ ?_; clear hK K)
          refine wpStill_nil ?_
          show wpList _ _ _ _ _ _
          go_wp2
          exact ⟨⟨k + 1, d, y.s, N, by omega, by simp, rfl, hput, hst⟩, by simp [intOf]; omega⟩
        · have hput := (hP.put (s' := true)).drew
          rw [Bool.true_or] at hst
          go_wp2
          refine wp_region_still_tail 17 (by kernel_rfl) (by kernel_rfl) ?_
          simp only [List.take_succ_cons, List.take_zero, List.drop_succ_cons, List.drop_zero, World.drew_eq]
          repeat (with_reducible refine wpStill_step (fun K hK => ?_); go_simp; with_reducible refine hK _ ?_; clear hK K)
          refine wpStill_nil ?_
          show wpList _ _ _ _ _ _
          go_wp2
          exact ⟨⟨k + 1, d, true, N, by omega, by simp, rfl, hput, hst⟩, by simp [intOf]; omega⟩
      · have hyk := hok y (List.mem_of_getElem? hy)
        have hord : ordL ⟨x.f, x.t, s⟩ y < 0 ↔ keyLt x y := by
          rw [ordL_neg]
          exact lkLt_key (x := ⟨x.f, x.t, s⟩) hsame
        have hpp : (d = true ∨ ¬ keyLt x y) → Pst l x (k + 1) d s (N ++ [y]) := fun h => hQ.pass hy hsame h
        by_cases hf : y.f = x.f
        · have hfB : (y.f == x.f) = true := by simpa using hf
          have htB : (y.t == x.t) = false := by simpa using fun h => hsame ⟨hf, h⟩
          clear hf hsame
          cases d
          · have cl := linkOrder_calls ⟨x.f, x.t, s⟩ y hxk hyk wr.drew.drew
            simp only at cl
            generalize hc : ordL ⟨x.f, x.t, s⟩ y = c at cl hord
            clear hc
            by_cases hc0 : c < 0
            · have hput := hQ.put hy (hord.1 hc0) hasc
              clear hord hpp hasc
              go_wp2
              refine wp_region_still_tail 17 (by kernel_rfl) (by kernel_rfl) ?_
              simp only [List.take_succ_cons, List.take_zero, List.drop_succ_cons, List.drop_zero, World.drew_eq]
              repeat (with_reducible refine wpStill_step (fun K hK => ?_); go_simp; with_reducible refine hK _ ?_; clear hK K)
              refine wpStill_nil ?_
              show wpList _ _ _ _ _ _
              go_wp2
              refine wp_region_still_tail 8 (by kernel_rfl) (by kernel_rfl) ?_
              simp only [List.take_succ_cons, List.take_zero, List.drop_succ_cons, List.drop_zero, World.drew_eq]
              repeat (with_reducible refine wpStill_step (fun K hK => ?_); go_simp; with_reducible refine hK _ ?_; clear hK K)
              refine wpStill_nil ?_
              show wpList _ _ _ _ _ _
              go_wp2_with (first | (go_at_call 26; refine cl.mono ?_; rintro e w2 ⟨rfl, hb⟩; have hP2 := hP.drew.drew.same hb; obtain ⟨xc0, xc1, xc2, xc3⟩ := hP2.cells; clear cl hb) | (at_builtin; refine wpList_append_own _ rfl _ _ 23 rfl (w.heap.size + 1) 38 i0 (.agg #[.int .i64 0, .int .i64 0, .bool false]) 3 24 Tryz.underlying23 hi hz0 hz1 hz2 rfl (by decide) _ (N.length) _ rfl (hP2.alloc _).own ⟨w2.heap.size, 0, none⟩ 1 1 [.int .i64 x.f, .int .i64 x.t, .bool s] rfl rfl (cell_three_new rfl _ _ _ _) (fun u hu => by simp at hu; rcases hu with rfl | rfl | rfl <;> rfl) (by unfold maxLen; (try simp only [List.length_append, List.length_cons, List.length_nil]); omega) (by (try simp only [List.length_append, List.length_cons, List.length_nil]); omega) (by have := hP2.lt; rw [World.size_alloc]; omega) ?_; intro nx3 w3 hown hgrow hnil; have hP3 := (hP2.alloc _).grown (y := ⟨x.f, x.t, s⟩) hgrow hown; clear hown hgrow hnil; obtain ⟨yc0, yc1, yc2⟩ := yc w3 hP3.bel) | (at_builtin; refine wpList_append_own _ rfl _ _ 23 rfl (w.heap.size + 1) 38 i0 (.agg #[.int .i64 0, .int .i64 0, .bool false]) 3 24 Tryz.underlying23 hi hz0 hz1 hz2 rfl (by decide) _ ((N ++ [(⟨x.f, x.t, s⟩ : Lk)]).length) _ rfl (hP3.alloc _).own ⟨w3.heap.size, 0, none⟩ 1 1 [.int .i64 y.f, .int .i64 y.t, .bool y.s] rfl rfl (cell_three_new rfl _ _ _ _) (fun u hu => by simp at hu; rcases hu with rfl | rfl | rfl <;> rfl) (by unfold maxLen; (try simp only [List.length_append, List.length_cons, List.length_nil]); omega) (by (try simp only [List.length_append, List.length_cons, List.length_nil]); omega) (by have := hP3.lt; rw [World.size_alloc]; omega) ?_; intro nx4 w4 hown hgrow hnil; have hP4 := (hP3.alloc _).grown (y := y) hgrow hown; clear hown hgrow hnil))
              exact ⟨⟨k + 1, true, s, N ++ [⟨x.f, x.t, s⟩] ++ [y], by omega, by simp, rfl, hP4, hput⟩, by simp [intOf]; omega⟩
            · have hpass := hpp (.inr fun h => hc0 (hord.2 h))
              clear hord hpp hasc
              go_wp2
              refine wp_region_still_tail 17 (by kernel_rfl) (by kernel_rfl) ?_
              simp only [List.take_succ_cons, List.take_zero, List.drop_succ_cons, List.drop_zero, World.drew_eq]
              repeat (with_reducible refine wpStill_step (fun K hK => ?_); go_simp; with_reducible refine hK _ ?_; clear hK K)
              refine wpStill_nil ?_
              show wpList _ _ _ _ _ _
              go_wp2
              refine wp_region_still_tail 8 (by kernel_rfl) (by kernel_rfl) ?_
              simp only [List.take_succ_cons, List.take_zero, List.drop_succ_cons, List.drop_zero, World.drew_eq]
              repeat (with_reducible refine wpStill_step (fun K hK => ?_); go_simp; with_reducible refine hK _ ?_; clear hK K)
              refine wpStill_nil ?_
              show wpList _ _ _ _ _ _
              go_wp2_with (first | (go_at_call 26; refine cl.mono ?_; rintro e w2 ⟨rfl, hb⟩; have hP2 := hP.drew.drew.same hb; obtain ⟨yc0, yc1, yc2⟩ := yc w2 hP2.bel; clear cl hb) | (at_builtin; refine wpList_append_own _ rfl _ _ 23 rfl (w.heap.size + 1) 38 i0 (.agg #[.int .i64 0, .int .i64 0, .bool false]) 3 24 Tryz.underlying23 hi hz0 hz1 hz2 rfl (by decide) _ (N.length) _ rfl (hP2.alloc _).own ⟨w2.heap.size, 0, none⟩ 1 1 [.int .i64 y.f, .int .i64 y.t, .bool y.s] rfl rfl (cell_three_new rfl _ _ _ _) (fun u hu => by simp at hu; rcases hu with rfl | rfl | rfl <;> rfl) (by unfold maxLen; (try simp only [List.length_append, List.length_cons, List.length_nil]); omega) (by (try simp only [List.length_append, List.length_cons, List.length_nil]); omega) (by have := hP2.lt; rw [World.size_alloc]; omega) ?_; intro nx3 w3 hown hgrow hnil; have hP3 := (hP2.alloc _).grown (y := y) hgrow hown; clear hown hgrow hnil))
              exact ⟨⟨k + 1, false, s, N ++ [y], by omega, by simp, rfl, hP3, hpass⟩, by simp [intOf]; omega⟩
          · clear hord hasc
            go_wp2
            refine wp_region_still_tail 17 (by kernel_rfl) (by kernel_rfl) ?_
            simp only [List.take_succ_cons, List.take_zero, List.drop_succ_cons, List.drop_zero, World.drew_eq]
            repeat (with_reducible refine wpStill_step (fun K hK => ?_); go_simp; with_reducible refine hK _ ?_; clear hK K)
            refine wpStill_nil ?_
            show wpList _ _ _ _ _ _
            go_wp2
            refine wp_region_still_tail 8 (by kernel_rfl) (by kernel_rfl) ?_
            simp only [List.take_succ_cons, List.take_zero, List.drop_succ_cons, List.drop_zero, World.drew_eq]
            repeat (with_reducible refine wpStill_step (fun K hK => ?_); go_simp; with_reducible refine hK _ ?_; clear hK K)
            refine wpStill_nil ?_
            show wpList _ _ _ _ _ _
            have hP2 := hP.drew.drew
            generalize wr.drew.drew = w2 at hP2 ⊢
            obtain ⟨yc0, yc1, yc2⟩ := yc w2 hP2.bel
            go_wp2_with (at_builtin; refine wpList_append_own _ rfl _ _ 23 rfl (w.heap.size + 1) 38 i0 (.agg #[.int .i64 0, .int .i64 0, .bool false]) 3 24 Tryz.underlying23 hi hz0 hz1 hz2 rfl (by decide) _ (N.length) _ rfl (hP2.alloc _).own ⟨w2.heap.size, 0, none⟩ 1 1 [.int .i64 y.f, .int .i64 y.t, .bool y.s] rfl rfl (cell_three_new rfl _ _ _ _) (fun u hu => by simp at hu; rcases hu with rfl | rfl | rfl <;> rfl) (by unfold maxLen; (try simp only [List.length_append, List.length_cons, List.length_nil]); omega) (by (try simp only [List.length_append, List.length_cons, List.length_nil]); omega) (by have := hP2.lt; rw [World.size_alloc]; omega) ?_; intro nx3 w3 hown hgrow hnil; have hP3 := (hP2.alloc _).grown (y := y) hgrow hown; clear hown hgrow hnil)
            exact ⟨⟨k + 1, true, s, N ++ [y], by omega, by simp, rfl, hP3, hpp (.inl (by trivial))⟩, by simp [intOf]; omega⟩
        · have hfB : (y.f == x.f) = false := by simpa using hf
          clear hf hsame
          cases d
          · have cl := linkOrder_calls ⟨x.f, x.t, s⟩ y hxk hyk wr.drew.drew
            simp only at cl
            generalize hc : ordL ⟨x.f, x.t, s⟩ y = c at cl hord
            clear hc
            by_cases hc0 : c < 0
            · have hput := hQ.put hy (hord.1 hc0) hasc
              clear hord hpp hasc
              go_wp2
              refine wp_region_still_tail 17 (by kernel_rfl) (by kernel_rfl) ?_
              simp only [List.take_succ_cons, List.take_zero, List.drop_succ_cons, List.drop_zero, World.drew_eq]
              repeat (with_reducible refine wpStill_step (fun K hK => ?_); go_simp; with_reducible refine hK _ ?_; clear hK K)
              refine wpStill_nil ?_
              show wpList _ _ _ _ _ _
              go_wp2
              refine wp_region_still_tail 8 (by kernel_rfl) (by kernel_rfl) ?_
              simp only [List.take_succ_cons, List.take_zero, List.drop_succ_cons, List.drop_zero, World.drew_eq]
              repeat (with_reducible refine wpStill_step (fun K hK => ?_); go_simp; with_reducible refine hK _ ?_; clear hK K)
              refine wpStill_nil ?_
              show wpList _ _ _ _ _ _
              go_wp2_with (first | (go_at_call 26; refine cl.mono ?_; rintro e w2 ⟨rfl, hb⟩; have hP2 := hP.drew.drew.same hb; obtain ⟨xc0, xc1, xc2, xc3⟩ := hP2.cells; clear cl hb) | (at_builtin; refine wpList_append_own _ rfl _ _ 23 rfl (w.heap.size + 1) 38 i0 (.agg #[.int .i64 0, .int .i64 0, .bool false]) 3 24 Tryz.underlying23 hi hz0 hz1 hz2 rfl (by decide) _ (N.length) _ rfl (hP2.alloc _).own ⟨w2.heap.size, 0, none⟩ 1 1 [.int .i64 x.f, .int .i64 x.t, .bool s] rfl rfl (cell_three_new rfl _ _ _ _) (fun u hu => by simp at hu; rcases hu with rfl | rfl | rfl <;> rfl) (by unfold maxLen; (try simp only [List.length_append, List.length_cons, List.length_nil]); omega) (by (try simp only [List.length_append, List.length_cons, List.length_nil]); omega) (by have := hP2.lt; rw [World.size_alloc]; omega) ?_; intro nx3 w3 hown hgrow hnil; have hP3 := (hP2.alloc _).grown (y := ⟨x.f, x.t, s⟩) hgrow hown; clear hown hgrow hnil; obtain ⟨yc0, yc1, yc2⟩ := yc w3 hP3.bel) | (at_builtin; refine wpList_append_own _ rfl _ _ 23 rfl (w.heap.size + 1) 38 i0 (.agg #[.int .i64 0, .int .i64 0, .bool false]) 3 24 Tryz.underlying23 hi hz0 hz1 hz2 rfl (by decide) _ ((N ++ [(⟨x.f, x.t, s⟩ : Lk)]).length) _ rfl (hP3.alloc _).own ⟨w3.heap.size, 0, none⟩ 1 1 [.int .i64 y.f, .int .i64 y.t, .bool y.s] rfl rfl (cell_three_new rfl _ _ _ _) (fun u hu => by simp at hu; rcases hu with rfl | rfl | rfl <;> rfl) (by unfold maxLen; (try simp only [List.length_append, List.length_cons, List.length_nil]); omega) (by (try simp only [List.length_append, List.length_cons, List.length_nil]); omega) (by have := hP3.lt; rw [World.size_alloc]; omega) ?_; intro nx4 w4 hown hgrow hnil; have hP4 := (hP3.alloc _).grown (y := y) hgrow hown; clear hown hgrow hnil))
              exact ⟨⟨k + 1, true, s, N ++ [⟨x.f, x.t, s⟩] ++ [y], by omega, by simp, rfl, hP4, hput⟩, by simp [intOf]; omega⟩
            · have hpass := hpp (.inr fun h => hc0 (hord.2 h))
              clear hord hpp hasc
              go_wp2
              refine wp_region_still_tail 17 (by kernel_rfl) (by kernel_rfl) ?_
              simp only [List.take_succ_cons, List.take_zero, List.drop_succ_cons, List.drop_zero, World.drew_eq]
              repeat (with_reducible refine wpStill_step (fun K hK => ?_); go_simp; with_reducible refine hK _ ?_; clear hK K)
              refine wpStill_nil ?_
              show wpList _ _ _ _ _ _
              go_wp2
              refine wp_region_still_tail 8 (by kernel_rfl) (by kernel_rfl) ?_
              simp only [List.take_succ_cons, List.take_zero, List.drop_succ_cons, List.drop_zero, World.drew_eq]
              repeat (with_reducible refine wpStill_step (fun K hK => ?_); go_simp; with_reducible refine hK _ ?_; clear hK K)
              refine wpStill_nil ?_
              show wpList _ _ _ _ _ _
              go_wp2_with (first | (go_at_call 26; refine cl.mono ?_; rintro e w2 ⟨rfl, hb⟩; have hP2 := hP.drew.drew.same hb; obtain ⟨yc0, yc1, yc2⟩ := yc w2 hP2.bel; clear cl hb) | (at_builtin; refine wpList_append_own _ rfl _ _ 23 rfl (w.heap.size + 1) 38 i0 (.agg #[.int .i64 0, .int .i64 0, .bool false]) 3 24 Tryz.underlying23 hi hz0 hz1 hz2 rfl (by decide) _ (N.length) _ rfl (hP2.alloc _).own ⟨w2.heap.size, 0, none⟩ 1 1 [.int .i64 y.f, .int .i64 y.t, .bool y.s] rfl rfl (cell_three_new rfl _ _ _ _) (fun u hu => by simp at hu; rcases hu with rfl | rfl | rfl <;> rfl) (by unfold maxLen; (try simp only [List.length_append, List.length_cons, List.length_nil]); omega) (by (try simp only [List.length_append, List.length_cons, List.length_nil]); omega) (by have := hP2.lt; rw [World.size_alloc]; omega) ?_; intro nx3 w3 hown hgrow hnil; have hP3 := (hP2.alloc _).grown (y := y) hgrow hown; clear hown hgrow hnil))
              exact ⟨⟨k + 1, false, s, N ++ [y], by omega, by simp, rfl, hP3, hpass⟩, by simp [intOf]; omega⟩
          · clear hord hasc
            go_wp2
            refine wp_region_still_tail 17 (by kernel_rfl) (by kernel_rfl) ?_
            simp only [List.take_succ_cons, List.take_zero, List.drop_succ_cons, List.drop_zero, World.drew_eq]
            repeat (with_reducible refine wpStill_step (fun K hK => ?_); go_simp; with_reducible refine hK _ ?_; clear hK K)
            refine wpStill_nil ?_
            show wpList _ _ _ _ _ _
            go_wp2
            refine wp_region_still_tail 8 (by kernel_rfl) (by kernel_rfl) ?_
            simp only [List.take_succ_cons, List.take_zero, List.drop_succ_cons, List.drop_zero, World.drew_eq]
            repeat (with_reducible refine wpStill_step (fun K hK => ?_); go_simp; with_reducible refine hK _ ?_; clear hK K)
            refine wpStill_nil ?_
            show wpList _ _ _ _ _ _
            have hP2 := hP.drew.drew
            generalize wr.drew.drew = w2 at hP2 ⊢
            obtain ⟨yc0, yc1, yc2⟩ := yc w2 hP2.bel
            go_wp2_with (at_builtin; refine wpList_append_own _ rfl _ _ 23 rfl (w.heap.size + 1) 38 i0 (.agg #[.int .i64 0, .int .i64 0, .bool false]) 3 24 Tryz.underlying23 hi hz0 hz1 hz2 rfl (by decide) _ (N.length) _ rfl (hP2.alloc _).own ⟨w2.heap.size, 0, none⟩ 1 1 [.int .i64 y.f, .int .i64 y.t, .bool y.s] rfl rfl (cell_three_new rfl _ _ _ _) (fun u hu => by simp at hu; rcases hu with rfl | rfl | rfl <;> rfl) (by unfold maxLen; (try simp only [List.length_append, List.length_cons, List.length_nil]); omega) (by (try simp only [List.length_append, List.length_cons, List.length_nil]); omega) (by have := hP2.lt; rw [World.size_alloc]; omega) ?_; intro nx3 w3 hown hgrow hnil; have hP3 := (hP2.alloc _).grown (y := y) hgrow hown; clear hown hgrow hnil)
            exact ⟨⟨k + 1, true, s, N ++ [y], by omega, by simp, rfl, hP3, hpp (.inl (by trivial))⟩, by simp [intOf]; omega⟩
    · obtain rfl : k = len := by omega
      clear h1 x0 x1 x2 x3 hlt
      cases d
      · obtain ⟨hput, hall⟩ := hQ.last (by omega) hasc
        obtain ⟨x0, x1, x2, x3⟩ := hP.cells
        have hmem := hQ.mem_no
        have hNl2 := hQ.len_no
        clear hQ hasc
        go_wp2_with (at_builtin; refine wpList_append_own _ rfl _ _ 23 rfl (w.heap.size + 1) 38 i0 (.agg #[.int .i64 0, .int .i64 0, .bool false]) 3 24 Tryz.underlying23 hi hz0 hz1 hz2 rfl (by decide) _ N.length _ rfl (hP.alloc _).own ⟨wr.heap.size, 0, none⟩ 1 1 [.int .i64 x.f, .int .i64 x.t, .bool s] rfl rfl (cell_three_new rfl _ _ _ _) (fun u hu => by simp at hu; rcases hu with rfl | rfl | rfl <;> rfl) (by unfold maxLen; omega) (by omega) (by have := hP.lt; rw [World.size_alloc]; omega) ?_; intro nx3 w3 hown hgrow hnil; have hP3 := (hP.alloc _).grown (y := ⟨x.f, x.t, s⟩) hgrow hown; obtain ⟨gb, gc, rfl⟩ := owns_slice hown; clear hown hgrow hnil)
        go_loopw [8] (fun i wr4 => wr4 = w3 ∧ i = .int .i64 (N.length : Int)) (fun _ _ => 0)
        case atStart => exact ⟨rfl, by simp⟩
        case round =>
          obtain ⟨rfl, rfl⟩ := hrel
          by_cases hN : N = []
          · subst hN
            go_wp2
            refine wp_region_still_tail 14 (by kernel_rfl) (by kernel_rfl) ?_
            simp only [List.take_succ_cons, List.take_zero, List.drop_succ_cons, List.drop_zero, World.drew_eq]
            repeat (with_reducible refine wpStill_step (fun K hK => ?_); go_simp; with_reducible refine hK _ ?_; clear hK K)
            refine wpStill_nil ?_
            show wpList _ _ _ _ _ _
            go_wp2
            go_ret
            exact ⟨_, _, rfl, hP3.drew.own, hput, by simp, hP3.drew.bel⟩
          · obtain ⟨M, y, rfl⟩ : ∃ M y, N = M ++ [y] := ⟨N.dropLast, N.getLast hN, (List.dropLast_concat_getLast hN).symm⟩
            have hlt := hall y (by simp)
            have hyk := hok y (hmem y (by simp))
            have hx' : ¬ ordL ⟨x.f, x.t, s⟩ y < 0 := by
              rw [ordL_neg]
              unfold keyLt at hlt
              unfold lkLt
              simp only
              omega
            have hat := linksAt_of_owns hP3.own (by simp at hNl ⊢; omega)
            obtain ⟨m, hm⟩ : ∃ m, M.length = m := ⟨_, rfl⟩
            obtain ⟨b2, o2, hb2, _, q0, q1, q2⟩ := hat.get (k := m + 1) (x := ⟨x.f, x.t, s⟩) (by simp [hm])
            obtain ⟨b3, o3, hb3, _, r0, r1, r2⟩ := hat.get (k := m) (x := y) (by simp [hm])
            cases hb2
            cases hb3
            have cl := linkOrder_calls ⟨x.f, x.t, s⟩ y hxk hyk wr.drew
            simp only at cl
            generalize ordL ⟨x.f, x.t, s⟩ y = c at cl hx'
            have hml : m ≤ l.length := by simp at hNl; omega
            have hw1 : IntKind.i64.wrap (m : Int) = m := wrap_nat (by omega)
            have hi1 : (m : Int) < (m : Int) + 1 + 1 := by omega
            have hi2 : (m : Int) + 1 < (m : Int) + 1 + 1 := by omega
            have hi3 : (0 : Int) ≤ (m : Int) := by omega
            have hi4 : (0 : Int) < (m : Int) + 1 := by omega
            have hi5 : (0 : Int) ≤ (m : Int) + 1 := by omega
            have hAll : Aside (M.length = m) := hm
            simp only [List.length_append, List.length_cons, List.length_nil, hm, Nat.zero_add, Int.natCast_add, Int.cast_ofNat_Int] at q0 q1 q2 r0 r1 r2 ⊢
            clear hat hlt hm
            go_wp2
            refine wp_region_still_tail 12 (by kernel_rfl) (by kernel_rfl) ?_
            simp only [List.take_succ_cons, List.take_zero, List.drop_succ_cons, List.drop_zero, World.drew_eq]
            repeat (with_reducible refine wpStill_step (fun K hK => ?_); go_simp; with_reducible refine hK _ ?_; clear hK K)
            refine wpStill_nil ?_
            show wpList _ _ _ _ _ _
            go_wp2_with (go_at_call 26; refine cl.mono ?_; rintro e w5 ⟨rfl, hb5⟩; have hP5 := hP3.drew.same hb5)
            go_ret
            refine ⟨_, _, rfl, ?_, hput, by simp at hNl2 ⊢; omega, hP5.bel⟩
            have ho := hP5.own
            simp only [List.length_append, List.length_cons, List.length_nil, hAll.out, Nat.zero_add] at ho ⊢
            exact ho
      · have hdone := hQ.done (by omega) hasc
        clear hQ hasc
        go_wp2
        go_ret
        exact ⟨_, N, rfl, hP.own, hdone, by omega, hP.bel⟩
end Go.Proofs.YtbleedclnkpbkaaGreatDoor
end
