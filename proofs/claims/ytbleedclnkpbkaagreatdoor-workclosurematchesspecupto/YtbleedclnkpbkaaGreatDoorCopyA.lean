/-
  A part of the proof of the card of WorkClosureMatchesSpec (second form): lemmas that the text Card uses. No condition of its own.
-/
import Derived.Test.YtbleedclnkpbkaaGreatDoorOrdB
import Derived.Test.YtbleedclnkpbkaaGreatDoorMid
import Derived.Lib.SliceRun
import Derived.Maps.AppendAt
set_option linter.all false
set_option linter.unusedVariables false
set_option linter.unusedSimpArgs false
section
namespace Go.Proofs.YtbleedclnkpbkaaGreatDoor
open Go.RowKit Go.Sort
/-- a slice of links that the call owns -/
theorem linksAt_of_owns {w : World} {base : Nat} {e : TypeId} {v : Value} {X : List Lk} (h : w.ownsRow base e 3 v X.length (X.flatMap Lk.cells)) (hbig : X.length < 4611686018427387904) : LinksAt w.heap.size w v X := by
  by_cases hne : X = []
  · subst hne
    obtain ⟨p, cap, rfl⟩ := owns_none h
    exact ⟨p, cap, rfl, by simp, fun h => absurd rfl h⟩
  · obtain ⟨blk, cap, rfl, _, hlt, _, hH⟩ := holds_of_owns h hne
    refine ⟨_, cap, rfl, hbig, fun _ => ⟨blk, 0, rfl, hlt, fun j x hx => ?_⟩⟩
    have hj : j < X.toArray.size := by simpa using (List.getElem?_eq_some_iff.1 hx).1
    have hx' : X.toArray[j]! = x := by
      rw [getElem!_pos X.toArray j hj]
      obtain ⟨h1, h2⟩ := List.getElem?_eq_some_iff.1 hx
      simpa using h2
    have k0 := (hH.cell hj (c := 0) (by omega)).1
    have k1 := (hH.cell hj (c := 1) (by omega)).1
    have k2 := (hH.cell hj (c := 2) (by omega)).1
    rw [hx'] at k0 k1 k2
    exact ⟨k0, k1, k2⟩
/-- the cells of a list of links, at their place -/
theorem links_news {n : Nat} {w : World} {a : Addr} {len cap : Nat} {L : List Lk} (h : LinksAt n w (.slice (some a) len cap) L) : ∀ (j : Nat) u, (L.flatMap Lk.cells)[j]? = some u → w.cell? (a.add j) = some u := by
  intro j u hj
  obtain ⟨a', cap', e, _, h⟩ := h
  have hjl := (List.getElem?_eq_some_iff.1 hj).1
  rw [flat_len] at hjl
  have hne : L ≠ [] := by intro e; rw [e] at hjl; simp at hjl
  obtain ⟨b, off, e2, _, hc⟩ := h hne
  rw [e2] at e
  simp only [Value.slice.injEq, Option.some.injEq] at e
  obtain ⟨rfl, _, _⟩ := e
  have hx : L[j / 3]? = some L[j / 3] := List.getElem?_eq_getElem (by omega)
  have hf := flat_get L (j / 3) (j % 3) _ hx (by omega)
  rw [show j / 3 * 3 + j % 3 = j by omega, hj] at hf
  obtain ⟨c0, c1, c2⟩ := hc (j / 3) _ hx
  have hadd : ∀ k, Addr.add ⟨b, off, none⟩ k = ⟨b, off + k, none⟩ := fun k => by
    unfold Addr.add
    split
    · next h => subst h; rfl
    · rfl
  rw [hadd]
  have h3 : j % 3 = 0 ∨ j % 3 = 1 ∨ j % 3 = 2 := by omega
  rcases h3 with h3 | h3 | h3 <;> rw [h3] at hf <;> simp [Lk.cells] at hf <;> subst hf
  · rw [show off + j = off + j / 3 * 3 by omega]; exact c0
  · rw [show off + j = off + j / 3 * 3 + 1 by omega]; exact c1
  · rw [show off + j = off + j / 3 * 3 + 2 by omega]; exact c2
theorem cells_one (L : List Lk) : ∀ u ∈ L.flatMap Lk.cells, u.oneCell' = true := by
  intro u hu
  obtain ⟨x, _, hx⟩ := List.mem_flatMap.1 hu
  simp [Lk.cells] at hx
  rcases hx with rfl | rfl | rfl <;> rfl
set_option maxRecDepth 100000 in
set_option maxHeartbeats 1000000 in
/-- slices.Clone at links -/
theorem cloneLinks_calls (a : Option Addr) (cap len n : Nat) (L : List Lk) (hlen : L.length = len) (hroom : len ≤ 2199023255552) (w : World) (hn : n ≤ w.heap.size) (h1 : LinksAt n w (.slice a len cap) L) :
    Calls Tryz.prog 35 #[.slice a len cap] w fun e w' => ∃ sv, e = .returned sv ∧ LinksAt w'.heap.size w' sv L ∧ (∀ b, sv.ownBlock = some b → w.heap.size ≤ b) ∧ Below w.heap.size w w' := by
  have q23 : ∀ (w : World) (a : Option Addr) (n c n' c' : Nat), (binOp .eql 23 (.slice a n c) (.slice none n' c')).run Tryz.prog w = .ok (.bool a.isNone) w := fun w a n c n' c' => Lib.run_eql_slice_nil w _ _ a n c n' c' Tryz.underlying23
  cases a with
  | none =>
    have hL : L = [] := by
      obtain ⟨a', cap', e, _, h⟩ := h1
      apply Classical.byContradiction
      intro hne
      obtain ⟨b, off, e2, _⟩ := h hne
      rw [e2] at e; cases e
    subst hL
    clear h1
    go_enter Tryz.func35, Tryz.ntmps35
    go_wp2
    go_ret
    exact ⟨_, rfl, ⟨none, 0, rfl, by simp, fun h => absurd rfl h⟩, fun b hb => (by cases hb), Below.refl _ _⟩
  | some ad =>
    have hnews := links_news h1
    obtain ⟨i0, hi, hz0, hz1, hz2⟩ := info_parts Tryz_info67
    have hown0 : (w.alloc (Obj.cells #[] 38)).ownsRow w.heap.size 38 3 (.slice (some ⟨w.heap.size, 0, none⟩) 0 0) 0 [] := World.ownsRow_made w #[] 0 (Nat.le_refl _) (by unfold maxLen; omega) (by simp)
    have hnews2 : ∀ (j : Nat) u, (L.flatMap Lk.cells)[j]? = some u → (w.alloc (Obj.cells #[] 38)).cell? (ad.add j) = some u := fun j u hj => by
      have h2 := hnews j u hj
      exact ((below_alloc w _).cell (block_lt_of_cell h2)).trans h2
    clear hnews
    go_enter Tryz.func35, Tryz.ntmps35
    go_wp2_with (at_builtin; refine wpList_append_own _ rfl _ _ 23 rfl w.heap.size 38 i0 (.agg #[.int .i64 0, .int .i64 0, .bool false]) 3 24 Tryz.underlying23 hi hz0 hz1 hz2 rfl (by decide) _ _ _ rfl hown0 ad len cap (L.flatMap Lk.cells) rfl (by rw [flat_len, hlen]) hnews2 (cells_one L) (by unfold maxLen; omega) (by omega) (by simp) ?_; intro v' w3 hown' hgrow3 hnil3)
    go_ret
    refine ⟨v', rfl, ?_, ?_, ?_⟩
    · refine linksAt_of_owns (base := w.heap.size) (e := 38) ?_ (by omega)
      rw [hlen]; simpa using hown'
    · intro b hb
      rcases hown'.2 with ⟨rfl, _⟩ | ⟨g, cap3, cur, rfl, h9, _⟩
      · cases hb
      · cases hb; exact h9
    · exact ((Below.refl _ w).alloc (Nat.le_refl _) _).grown hgrow3 (by simp) (by intro k hk; cases hk; exact Nat.le_refl _)
end Go.Proofs.YtbleedclnkpbkaaGreatDoor
end
section
namespace Go.Proofs.YtbleedclnkpbkaaGreatDoor
open Go.RowKit Go.Sort
/-- the cells vs of a row of graphs -/
structure RowOf (n : Nat) (w : World) (vs : List Value) (Gs : List Gr) : Prop where
  len : vs.length = Gs.length * 3
  one : ∀ u ∈ vs, u.oneCell' = true
  at_ : ∀ (j : Nat) (g : Gr), Gs[j]? = some g → vs[j * 3]? = some (.int .i64 g.f) ∧ vs[j * 3 + 1]? = some (.int .i64 g.t) ∧ ∃ la lc, vs[j * 3 + 2]? = some (.slice la g.L.length lc) ∧ LinksAt n w (.slice la g.L.length lc) g.L
theorem RowOf.below {n : Nat} {w w' : World} {vs : List Value} {Gs : List Gr} (h : RowOf n w vs Gs) (hb : Below n w w') : RowOf n w' vs Gs :=
  ⟨h.len, h.one, fun j g hg => by
    obtain ⟨c0, c1, la, lc, c2, hl⟩ := h.at_ j g hg
    exact ⟨c0, c1, la, lc, c2, hl.below hb⟩⟩
theorem RowOf.nil (n : Nat) (w : World) : RowOf n w [] [] := ⟨rfl, by simp, by simp⟩
theorem RowOf.append {n : Nat} {w : World} {vs us : List Value} {Gs Hs : List Gr} (h : RowOf n w vs Gs) (h' : RowOf n w us Hs) : RowOf n w (vs ++ us) (Gs ++ Hs) := by
  refine ⟨by simp [h.len, h'.len]; omega, fun u hu => ?_, fun j g hg => ?_⟩
  · rcases List.mem_append.1 hu with hu | hu
    · exact h.one u hu
    · exact h'.one u hu
  · have hl := h.len
    by_cases hj : j < Gs.length
    · rw [List.getElem?_append_left hj] at hg
      obtain ⟨c0, c1, la, lc, c2, hL⟩ := h.at_ j g hg
      rw [List.getElem?_append_left (by omega), List.getElem?_append_left (by omega), List.getElem?_append_left (by omega)]
      exact ⟨c0, c1, la, lc, c2, hL⟩
    · rw [List.getElem?_append_right (by omega)] at hg
      obtain ⟨c0, c1, la, lc, c2, hL⟩ := h'.at_ _ g hg
      rw [List.getElem?_append_right (by omega), List.getElem?_append_right (by omega), List.getElem?_append_right (by omega)]
      refine ⟨?_, ?_, la, lc, ?_, hL⟩
      · rw [show j * 3 - vs.length = (j - Gs.length) * 3 by omega]; exact c0
      · rw [show j * 3 + 1 - vs.length = (j - Gs.length) * 3 + 1 by omega]; exact c1
      · rw [show j * 3 + 2 - vs.length = (j - Gs.length) * 3 + 2 by omega]; exact c2
/-- one graph -/
theorem RowOf.one_ {n : Nat} {w : World} {g : Gr} {la : Option Addr} {lc : Nat} (h : LinksAt n w (.slice la g.L.length lc) g.L) : RowOf n w [.int .i64 g.f, .int .i64 g.t, .slice la g.L.length lc] [g] :=
  ⟨rfl, fun u hu => by simp at hu; rcases hu with rfl | rfl | rfl <;> rfl, fun j x hx => by
    have : j = 0 := by
      have := (List.getElem?_eq_some_iff.1 hx).1; simp at this; omega
    subst this
    simp at hx
    subst hx
    exact ⟨rfl, rfl, la, lc, rfl, h⟩⟩
/-- a slice of graphs that the call owns -/
theorem graphsAt_of_owns {n : Nat} {w : World} {base : Nat} {e : TypeId} {v : Value} {vs : List Value} {Gs : List Gr} (h : w.ownsRow base e 3 v Gs.length vs) (hr : RowOf n w vs Gs) (hn : n ≤ w.heap.size) (hbig : Gs.length < 4611686018427387904) : GraphsAt w.heap.size w v Gs := by
  obtain ⟨h1, ⟨rfl, h0⟩ | ⟨g, cap, cur, rfl, hb, hg, hnc, hm, hs, ht⟩⟩ := h
  · refine ⟨none, 0, by rw [h0], hbig, fun hne => absurd (List.length_eq_zero_iff.1 h0) hne⟩
  · refine ⟨_, cap, rfl, hbig, fun _ => ⟨g, 0, rfl, (Array.getElem?_eq_some_iff.1 hg).1, fun j x hx => ?_⟩⟩
    obtain ⟨c0, c1, la, lc, c2, hL⟩ := hr.at_ j x hx
    have hjl := (List.getElem?_eq_some_iff.1 hx).1
    have hcell : ∀ (k : Nat) u, k < Gs.length * 3 → vs[k]? = some u → w.cell? ⟨g, 0 + k, none⟩ = some u := fun k u hk hu => by
      have : cur[k]? = some u := by
        rw [← Array.getElem?_toList, ← List.getElem?_take_of_lt hk, ht]; exact hu
      simpa [World.cell?, hg] using this
    refine ⟨hcell _ _ (by omega) c0, ?_, la, lc, ?_, ?_⟩
    · rw [Nat.add_assoc]; exact hcell _ _ (by omega) c1
    · rw [Nat.add_assoc]; exact hcell _ _ (by omega) c2
    · obtain ⟨a', cap', e1, e2, e3⟩ := hL
      exact ⟨a', cap', e1, e2, fun hne => by
        obtain ⟨b, off, e4, e5, e6⟩ := e3 hne
        exact ⟨b, off, e4, by omega, e6⟩⟩
end Go.Proofs.YtbleedclnkpbkaaGreatDoor
end
section
namespace Go.Proofs.YtbleedclnkpbkaaGreatDoor
open Go.RowKit Go.Sort
theorem row_from {n : Nat} {w : World} {b : Nat} : ∀ (Gs : List Gr) (off : Nat), (∀ (j : Nat) (g : Gr), Gs[j]? = some g → w.cell? ⟨b, off + j * 3, none⟩ = some (.int .i64 g.f) ∧ w.cell? ⟨b, off + j * 3 + 1, none⟩ = some (.int .i64 g.t) ∧ ∃ la lc, w.cell? ⟨b, off + j * 3 + 2, none⟩ = some (.slice la g.L.length lc) ∧ LinksAt n w (.slice la g.L.length lc) g.L) →
    ∃ vs, RowOf n w vs Gs ∧ ∀ (j : Nat) u, vs[j]? = some u → w.cell? ⟨b, off + j, none⟩ = some u
  | [], off, _ => ⟨[], RowOf.nil n w, by simp⟩
  | g :: Gs, off, h => by
    obtain ⟨c0, c1, la, lc, c2, hL⟩ := h 0 g rfl
    obtain ⟨vs, hr, hv⟩ := row_from Gs (off + 3) fun j x hx => by
      have := h (j + 1) x (by simpa using hx)
      rw [show off + (j + 1) * 3 = off + 3 + j * 3 by omega] at this
      exact this
    refine ⟨[.int .i64 g.f, .int .i64 g.t, .slice la g.L.length lc] ++ vs, (RowOf.one_ hL).append hr, fun j u hj => ?_⟩
    match j, hj with
    | 0, hj => simp at hj; subst hj; simpa using c0
    | 1, hj => simp at hj; subst hj; simpa using c1
    | 2, hj => simp at hj; subst hj; simpa using c2
    | j + 3, hj =>
      have := hv j u (by simpa using hj)
      rw [show off + (j + 3) = off + 3 + j by omega]; exact this
theorem graphs_row {n : Nat} {w : World} {ad : Addr} {len cap : Nat} {Gs : List Gr} (h : GraphsAt n w (.slice (some ad) len cap) Gs) : ∃ vs, RowOf n w vs Gs ∧ ∀ (j : Nat) u, vs[j]? = some u → w.cell? (ad.add j) = some u := by
  obtain ⟨a', cap', e, _, h⟩ := h
  by_cases hne : Gs = []
  · subst hne; exact ⟨[], RowOf.nil n w, by simp⟩
  obtain ⟨b, off, e2, _, hc⟩ := h hne
  rw [e2] at e
  simp only [Value.slice.injEq, Option.some.injEq] at e
  obtain ⟨rfl, _, _⟩ := e
  obtain ⟨vs, hr, hv⟩ := row_from Gs off hc
  have hadd : ∀ k, Addr.add ⟨b, off, none⟩ k = ⟨b, off + k, none⟩ := fun k => by
    unfold Addr.add
    split
    · next h => subst h; rfl
    · rfl
  exact ⟨vs, hr, fun j u hj => by rw [hadd]; exact hv j u hj⟩
theorem Tryz_info25 : (Tryz.prog.info? 25).map (fun i => (i.zero, i.size, i.bytes)) = some (some (.agg #[.int .i64 0, .int .i64 0, .slice none 0 0]), 3, 40) := by kernel_rfl
set_option maxRecDepth 100000 in
set_option maxHeartbeats 1000000 in
/-- slices.Clone at graphs -/
theorem cloneGraphs_calls (a : Option Addr) (cap len n : Nat) (Gs : List Gr) (hlen : Gs.length = len) (hroom : len ≤ 2199023255552) (w : World) (hn : n ≤ w.heap.size) (h1 : GraphsAt n w (.slice a len cap) Gs) :
    Calls Tryz.prog 36 #[.slice a len cap] w fun e w' => ∃ sv, e = .returned sv ∧ GraphsAt w'.heap.size w' sv Gs ∧ (∀ b, sv.ownBlock = some b → w.heap.size ≤ b) ∧ Below w.heap.size w w' := by
  have q22 : ∀ (w : World) (a : Option Addr) (n c n' c' : Nat), (binOp .eql 22 (.slice a n c) (.slice none n' c')).run Tryz.prog w = .ok (.bool a.isNone) w := fun w a n c n' c' => Lib.run_eql_slice_nil w _ _ a n c n' c' Tryz.underlying22
  cases a with
  | none =>
    have hL : Gs = [] := by
      obtain ⟨a', cap', e, _, h⟩ := h1
      apply Classical.byContradiction
      intro hne
      obtain ⟨b, off, e2, _⟩ := h hne
      rw [e2] at e; cases e
    subst hL
    clear h1
    go_enter Tryz.func36, Tryz.ntmps36
    go_wp2
    go_ret
    exact ⟨_, rfl, ⟨none, 0, rfl, by simp, fun h => absurd rfl h⟩, fun b hb => (by cases hb), Below.refl _ _⟩
  | some ad =>
    obtain ⟨vs, hrow, hnews⟩ := graphs_row h1
    obtain ⟨i0, hi, hz0, hz1, hz2⟩ := info_parts Tryz_info25
    have hown0 : (w.alloc (Obj.cells #[] 25)).ownsRow w.heap.size 25 3 (.slice (some ⟨w.heap.size, 0, none⟩) 0 0) 0 [] := World.ownsRow_made w #[] 0 (Nat.le_refl _) (by unfold maxLen; omega) (by simp)
    have hnews2 : ∀ (j : Nat) u, vs[j]? = some u → (w.alloc (Obj.cells #[] 25)).cell? (ad.add j) = some u := fun j u hj => by
      have h2 := hnews j u hj
      exact ((below_alloc w _).cell (block_lt_of_cell h2)).trans h2
    have hvl : vs.length = len * 3 := by rw [hrow.len, hlen]
    clear h1
    go_enter Tryz.func36, Tryz.ntmps36
    go_wp2_with (at_builtin; refine wpList_append_own _ rfl _ _ 22 rfl w.heap.size 25 i0 (.agg #[.int .i64 0, .int .i64 0, .slice none 0 0]) 3 40 Tryz.underlying22 hi hz0 hz1 hz2 rfl (by decide) _ _ _ rfl hown0 ad len cap vs rfl hvl hnews2 hrow.one (by unfold maxLen; omega) (by omega) (by simp) ?_; intro v' w3 hown' hgrow3 hnil3)
    go_ret
    have hb3 : Below w.heap.size w w3 := ((Below.refl _ w).alloc (Nat.le_refl _) _).grown hgrow3 (by simp) (by intro k hk; cases hk; exact Nat.le_refl _)
    refine ⟨v', rfl, ?_, ?_, hb3⟩
    · refine graphsAt_of_owns (n := n) (base := w.heap.size) (e := 25) (vs := vs) ?_ (hrow.below (hb3.mono hn)) (by have := hb3.size; omega) (by omega)
      rw [hlen]; simpa using hown'
    · intro b hb
      rcases hown'.2 with ⟨rfl, _⟩ | ⟨g, cap3, cur, rfl, h9, _⟩
      · cases hb
      · cases hb; exact h9
end Go.Proofs.YtbleedclnkpbkaaGreatDoor
end
section
namespace Go.Proofs.YtbleedclnkpbkaaGreatDoor
open Go.RowKit Go.Sort
set_option maxRecDepth 100000 in
set_option maxHeartbeats 1000000 in
/-- slices.Insert(out, len(out), g) -/
theorem insertEnd_calls (base len bv : Nat) (v : Value) (vs us : List Value) (w : World) (hbase : base ≤ w.heap.size) (hown : w.ownsRow base 25 3 v len vs) (hroom : len ≤ 2199023255552) (hul : us.length = 3) (hone : ∀ u ∈ us, u.oneCell' = true)
    (hus : ∀ (j : Nat) u, us[j]? = some u → w.cell? ((⟨bv, 0, none⟩ : Addr).add j) = some u) :
    Calls Tryz.prog 33 #[v, .int .i64 len, .slice (some ⟨bv, 0, none⟩) 1 1] w fun e w' => ∃ v', e = .returned v' ∧ w'.ownsRow base 25 3 v' (len + 1) (vs ++ us) ∧ w.grownBy w' v.ownBlock ∧ (v'.ownBlock = v.ownBlock ∨ ∃ k, v'.ownBlock = some k ∧ w.heap.size ≤ k) := by
  obtain ⟨i0, hi, hz0, hz1, hz2⟩ := info_parts Tryz_info25
  have hsh := hown.2
  have hown1 := hown
  rcases hsh with ⟨rfl, h0⟩ | ⟨g, cap, cur, rfl, hb, hg, hnc, hm, hs, ht⟩
  · subst h0
    go_enter Tryz.func33, Tryz.ntmps33
    go_wp2_with (at_builtin; refine wpList_append_own_at _ rfl _ _ 22 rfl base 25 i0 (.agg #[.int .i64 0, .int .i64 0, .slice none 0 0]) 3 40 Tryz.underlying22 hi hz0 hz1 hz2 rfl (by decide) _ _ _ rfl hown1 ⟨bv, 0, none⟩ 1 1 us rfl (by rw [hul]) hus hone (by unfold maxLen; omega) (by omega) hbase ?_; intro v' w3 hown' hgrow3 hnil3 hat3)
    go_ret
    exact ⟨v', rfl, hown', hgrow3, hat3.imp id fun h => ⟨_, h, Nat.le_refl _⟩⟩
  · have hcl : (len : Int) ≤ (cap : Int) := by omega
    have hcap : cap ≤ 9223372036854775807 := hm
    clear hown hg ht
    go_enter Tryz.func33, Tryz.ntmps33
    go_wp2_with (at_builtin; refine wpList_append_own_at _ rfl _ _ 22 rfl base 25 i0 (.agg #[.int .i64 0, .int .i64 0, .slice none 0 0]) 3 40 Tryz.underlying22 hi hz0 hz1 hz2 rfl (by decide) _ _ _ rfl hown1 ⟨bv, 0, none⟩ 1 1 us rfl (by rw [hul]) hus hone (by unfold maxLen; omega) (by omega) hbase ?_; intro v' w3 hown' hgrow3 hnil3 hat3)
    all_goals go_ret
    all_goals exact ⟨v', rfl, hown', hgrow3, hat3.imp id fun h => ⟨_, h, Nat.le_refl _⟩⟩
end Go.Proofs.YtbleedclnkpbkaaGreatDoor
end
