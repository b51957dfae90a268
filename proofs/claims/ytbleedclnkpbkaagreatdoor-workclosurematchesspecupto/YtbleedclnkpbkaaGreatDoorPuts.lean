/-
  A part of the proof of the card of WorkClosureMatchesSpec (second form): lemmas that the text Card uses. No condition of its own.
-/
import Derived.Test.YtbleedclnkpbkaaGreatDoorCopyB
import Derived.Test.YtbleedclnkpbkaaGreatDoorInserts
set_option linter.all false
set_option linter.unusedVariables false
set_option linter.unusedSimpArgs false
section
namespace Go.Proofs.YtbleedclnkpbkaaGreatDoor
open Go.RowKit Go.Sort
set_option maxRecDepth 100000 in
set_option maxHeartbeats 2000000 in
/-- closure$1: add -/
theorem add_calls (g : Gr) (la : Option Addr) (lc ln n0 Bo Br : Nat) (vo vr : Value) (o r : List Gr) (hln : g.L.length = ln) (hasc : o.Pairwise grLt) (hroom : o.length ≤ 2199023255552) (w : World) (hn : n0 ≤ w.heap.size) (hS : Sto n0 Bo Br w vo vr o r) (hL : LinksIn (Fre Bo Br w vo vr) w (.slice la ln lc) g.L) :
    Calls Tryz.prog 30 #[.agg #[.int .i64 g.f, .int .i64 g.t, .slice la ln lc], .pointer (some ⟨Bo, 0, none⟩)] w fun e w' =>
      ∃ (nw : Bool) (vo' : Value) (o' : List Gr), e = .returned (.bool nw) ∧ Sto n0 Bo Br w' vo' vr o' r ∧ Mon Bo Br w vo vr w' vo' vr ∧ Below n0 w w' ∧ ((nw = false ∧ g ∈ o ∧ o' = o) ∨ (nw = true ∧ g ∉ o ∧ Put g o r o' (r ++ [g]))) := by
  obtain ⟨pa, pc, hvo⟩ := hS.val_o
  obtain ⟨ol, hol⟩ : ∃ ol, ol = o.length := ⟨_, rfl⟩
  rw [← hol] at hvo hroom
  subst hvo
  have c0 := hS.cell_o.1
  have bw : Below w.heap.size w (w.alloc (Obj.cells #[.int .i64 g.f, .int .i64 g.t, .slice la ln lc] 25)) := below_alloc w _
  have hS1 := hS.below bw
  have m1 := mon_below (Bo := Bo) (Br := Br) (.slice pa ol pc) vr bw
  have hG1 := hS1.graphs_o (by omega)
  have hL1 := (hL.keep m1).at fun b hb => hb.1
  have cs := search_calls g pa la pc lc ol ln (w.alloc (Obj.cells #[.int .i64 g.f, .int .i64 g.t, .slice la ln lc] 25)).heap.size o hol.symm hln hasc (w.alloc (Obj.cells #[.int .i64 g.f, .int .i64 g.t, .slice la ln lc] 25)) (Nat.le_refl _) hG1 hL1
  have c1 : (w.alloc (Obj.cells #[.int .i64 g.f, .int .i64 g.t, .slice la ln lc] 25)).cell? ⟨Bo, 0, none⟩ = some (.slice pa ol pc) := hS1.cell_o.1
  clear hol hG1 hL1
  go_enter Tryz.func30, Tryz.ntmps30
  go_wp2_with (go_at_call 31; fail)
  refine cs.mono ?_
  rintro e w1 ⟨⟨i, there, rfl, hil, hlo, hhi, hth⟩, hb⟩
  have b1 : Below w.heap.size w w1 := bw.trans (hb.mono (by simp))
  have hS2 := hS.below b1
  have m2 := mon_below (Bo := Bo) (Br := Br) (.slice pa ol pc) vr b1
  have d0 := hS2.cell_o.1
  have z0 := hS2.cell_o.2
  clear cs c0 c1
  have hgb : w1.heap[w.heap.size]? = some (.cells #[.int .i64 g.f, .int .i64 g.t, .slice la ln lc] 25 (0, 0)) := (hb.block w.heap.size (by simp)).trans (heap_alloc_new w _)
  have g0 : w1.cell? ⟨w.heap.size, 0, none⟩ = some (.int .i64 g.f) := by simp [World.cell?, hgb]
  have g1 : w1.cell? ⟨w.heap.size, 1, none⟩ = some (.int .i64 g.t) := by simp [World.cell?, hgb]
  have g2 : w1.cell? ⟨w.heap.size, 2, none⟩ = some (.slice la ln lc) := by simp [World.cell?, hgb]
  cases there
  · have hne : o[i]? ≠ some g := fun e => by have := hth.2 e; cases this
    clear hth
    have bw2 : Below w1.heap.size w1 (w1.alloc (Obj.cells #[.int .i64 g.f, .int .i64 g.t, .slice la ln lc] 25)) := below_alloc w1 _
    have hS3 := hS2.below bw2
    have m3 := mon_below (Bo := Bo) (Br := Br) (.slice pa ol pc) vr bw2
    have m03 := m2.trans m3
    obtain ⟨vs, own, row⟩ := hS3.own_o
    have hol : o.length = ol := by
      rcases own.2 with ⟨e, h0⟩ | ⟨_, _, _, e, _⟩
      · cases e; exact h0
      · cases e; rfl
    rw [hol] at own
    have hL3 := hL.keep m03
    have hin := insert_calls n0 ol i w1.heap.size (.slice pa ol pc) vs [.int .i64 g.f, .int .i64 g.t, .slice la ln lc] (w1.alloc (Obj.cells #[.int .i64 g.f, .int .i64 g.t, .slice la ln lc] 25)) (by rw [World.size_alloc]; have := b1.size; omega) hil own hroom row.one rfl (by simp [Value.oneCell']) (heap_alloc_new w1 _) (fun e => by have := (hS2.lt_o e).2; omega)
    have hins : RowIn (Fre Bo Br (w1.alloc (Obj.cells #[.int .i64 g.f, .int .i64 g.t, .slice la ln lc] 25)) (.slice pa ol pc) vr) (w1.alloc (Obj.cells #[.int .i64 g.f, .int .i64 g.t, .slice la ln lc] 25)) (vs.take (i * 3) ++ [.int .i64 g.f, .int .i64 g.t, .slice la ln lc] ++ vs.drop (i * 3)) (o.take i ++ g :: o.drop i) := by
      have h1 := (row.take i).append ((RowIn.one_ (by rw [hln]; exact hL3)).append (row.drop i))
      rw [hln] at h1
      simpa using h1
    have hlo' : (o.take i ++ g :: o.drop i).length = ol + 1 := by
      simp only [List.length_append, List.length_take, List.length_cons, List.length_drop]; omega
    have hput := put_at (g := g) hasc (by omega) hlo hhi hne r
    have hgo : g ∉ o := by
      rcases hput with ⟨_, e, _⟩ | ⟨h, _⟩
      · have := congrArg List.length e; omega
      · exact h
    have hfin : ∀ (wr : World) (v' : Value), (w1.alloc (Obj.cells #[.int .i64 g.f, .int .i64 g.t, .slice la ln lc] 25)).grownBy wr (Value.slice pa ol pc).ownBlock → wr.ownsRow n0 25 3 v' (ol + 1) (vs.take (i * 3) ++ [.int .i64 g.f, .int .i64 g.t, .slice la ln lc] ++ vs.drop (i * 3)) →
        (v'.ownBlock = (Value.slice pa ol pc).ownBlock ∨ ∃ k, v'.ownBlock = some k ∧ (w1.alloc (Obj.cells #[.int .i64 g.f, .int .i64 g.t, .slice la ln lc] 25)).heap.size ≤ k) →
        Sto n0 Bo Br (wr.setCell ⟨Bo, 0, none⟩ v') v' vr (o.take i ++ g :: o.drop i) r ∧ Mon Bo Br w (.slice pa ol pc) vr (wr.setCell ⟨Bo, 0, none⟩ v') v' vr ∧ Below n0 w (wr.setCell ⟨Bo, 0, none⟩ v') ∧ wr.cell? ⟨Bo, 0, none⟩ = some (.slice pa ol pc) ∧ wr.frozen? ⟨Bo, 0, none⟩ = false := fun wr v' h1 h2 h3 => by
      obtain ⟨q1, q2, q3⟩ := hS3.put_o (o' := o.take i ++ g :: o.drop i) h1 (by rw [hlo']; exact h2) h3 hins
      have hbk : wr.heap[Bo]? = some (.cells #[.slice pa ol pc] 22 (0, 0)) := (h1.block Bo hS3.sizes.1 fun e => hS3.o_ne.1 e.symm).trans hS3.box_o
      exact ⟨q1, m03.trans q2, (b1.mono hn).trans ((bw2.mono (by have := b1.size; omega)).trans (q3 (by rw [World.size_alloc]; have := b1.size; omega))), by simp [World.cell?, hbk], by simp [World.frozen?, hbk]⟩
    clear own row hins hlo hhi hol hS3 m3 m03 hL3 hlo'
    simp only
    go_wp2_with (go_at_call 33; refine hin.mono ?_; rintro e w' ⟨v', rfl, h1, h2, h3⟩; obtain ⟨q1, q2, q3, q4, q5⟩ := hfin w' v' h2 h1 h3; obtain ⟨gb, cap3, rfl⟩ := owns_slice h1; clear h1 h2 h3)
    go_ret
    exact ⟨true, _, _, rfl, q1, q2, q3, .inr ⟨rfl, hgo, hput⟩⟩
  · have hth' : o[i]? = some g := hth.1 rfl
    have hmem : g ∈ o := List.mem_of_getElem? hth'
    clear hth hth' hlo hhi
    simp only
    go_wp2
    go_ret
    exact ⟨false, _, o, rfl, hS2, m2, b1.mono hn, .inl ⟨rfl, hmem, rfl⟩⟩
end Go.Proofs.YtbleedclnkpbkaaGreatDoor
end
section
namespace Go.Proofs.YtbleedclnkpbkaaGreatDoor
open Go.RowKit Go.Sort
theorem OwnsOff.slice {w : World} {base : Nat} {e : TypeId} {v : Value} {n : Nat} {xs : List Value} (h : OwnsOff w base e v (n + 1) xs) : ∃ b off cap, v = .slice (some ⟨b, off, none⟩) (n + 1) cap := by
  rcases h.2 with ⟨_, h0⟩ | ⟨g, off, cap, cur, e1, _⟩
  · exact absurd h0 (by omega)
  · exact ⟨g, off, cap, e1⟩
set_option maxRecDepth 100000 in
set_option maxHeartbeats 2000000 in
/-- closure$2: put -/
theorem put_calls (g : Gr) (la : Option Addr) (lc ln n0 Bo Br Ba : Nat) (vo vr : Value) (o r : List Gr) (hln : g.L.length = ln) (hasc : o.Pairwise grLt) (hroom : o.length ≤ 2199023255552) (hroom2 : r.length ≤ 2199023255552) (w : World) (hn : n0 ≤ w.heap.size) (hS : Sto n0 Bo Br w vo vr o r) (hL : LinksIn (Fre Bo Br w vo vr) w (.slice la ln lc) g.L)
    (hA : w.heap[Ba]? = some (.cells #[.func (.func 30) #[] #[.pointer (some ⟨Bo, 0, none⟩)]] 78 (0, 0))) (hAf : Fre Bo Br w vo vr Ba) :
    Calls Tryz.prog 34 #[.agg #[.int .i64 g.f, .int .i64 g.t, .slice la ln lc], .pointer (some ⟨Ba, 0, none⟩), .pointer (some ⟨Br, 0, none⟩)] w fun e w' =>
      ∃ (vo' vr' : Value) (o' r' : List Gr), e = .returned (.tuple #[]) ∧ Sto n0 Bo Br w' vo' vr' o' r' ∧ Mon Bo Br w vo vr w' vo' vr' ∧ Below n0 w w' ∧ Put g o r o' r' := by
  have bw : Below w.heap.size w (w.alloc (Obj.cells #[.int .i64 g.f, .int .i64 g.t, .slice la ln lc] 25)) := below_alloc w _
  have hS1 := hS.below bw
  have m1 := mon_below (Bo := Bo) (Br := Br) vo vr bw
  have hL1 := hL.keep m1
  have hgf : Fre Bo Br (w.alloc (Obj.cells #[.int .i64 g.f, .int .i64 g.t, .slice la ln lc] 25)) vo vr w.heap.size :=
    ⟨by simp, by have := hS.sizes.1; omega, by have := hS.sizes.2; omega, fun e => by have := (hS.lt_o e).2; omega, fun e => by have := (hS.lt_r e).2; omega⟩
  have ca : (w.alloc (Obj.cells #[.int .i64 g.f, .int .i64 g.t, .slice la ln lc] 25)).cell? ⟨Ba, 0, none⟩ = some (.func (.func 30) #[] #[.pointer (some ⟨Bo, 0, none⟩)]) := by
    simp [World.cell?, (m1 Ba hAf).2, hA]
  have cc := add_calls g la lc ln n0 Bo Br vo vr o r hln hasc hroom (w.alloc (Obj.cells #[.int .i64 g.f, .int .i64 g.t, .slice la ln lc] 25)) (by rw [World.size_alloc]; omega) hS1 hL1
  clear hA
  go_enter Tryz.func34, Tryz.ntmps34
  go_wp2_with (go_at_call 30; fail)
  refine cc.mono ?_
  rintro e w1 ⟨nw, vo1, o1, rfl, hS2, m2, hb, hor⟩
  have hgb : w1.heap[w.heap.size]? = some (.cells #[.int .i64 g.f, .int .i64 g.t, .slice la ln lc] 25 (0, 0)) := (m2 _ hgf).2.trans (heap_alloc_new w _)
  have g0 : w1.cell? ⟨w.heap.size, 0, none⟩ = some (.int .i64 g.f) := by simp [World.cell?, hgb]
  have g1 : w1.cell? ⟨w.heap.size, 1, none⟩ = some (.int .i64 g.t) := by simp [World.cell?, hgb]
  have g2 : w1.cell? ⟨w.heap.size, 2, none⟩ = some (.slice la ln lc) := by simp [World.cell?, hgb]
  have b1 : Below n0 w w1 := (bw.mono hn).trans hb
  have m02 := m1.trans m2
  rcases hor with ⟨rfl, h1, rfl⟩ | ⟨rfl, h1, h2⟩
  · clear cc g0 g1 g2
    simp only
    go_wp2
    go_end0
    exact ⟨vo1, vr, o1, r, rfl, hS2, m02, b1, put_there h1 r⟩
  · obtain ⟨pa, pc, hvr⟩ := hS2.val_r
    obtain ⟨rl, hrl⟩ : ∃ rl, rl = r.length := ⟨_, rfl⟩
    rw [← hrl] at hvr hroom2
    subst hvr
    have cr := hS2.cell_r
    obtain ⟨c0, z0⟩ := cr
    have bw2 : Below w1.heap.size w1 (w1.alloc (Obj.cells #[.int .i64 g.f, .int .i64 g.t, .slice la ln lc] 25)) := below_alloc w1 _
    have hS3 := hS2.below bw2
    have m3 := mon_below (Bo := Bo) (Br := Br) vo1 (.slice pa rl pc) bw2
    have m03 := m02.trans m3
    have hL3 := hL.keep m03
    obtain ⟨us, own, row⟩ := hS3.own_r
    rw [← hrl] at own
    obtain ⟨i0, hi, hz0, hz1, hz2⟩ := info_parts Tryz_info25
    have hb1s := b1.size
    obtain ⟨v', w3, hrun0, hown', hgrow, hat⟩ := run_append_off (P := Tryz.prog) (w1.alloc (Obj.cells #[.int .i64 g.f, .int .i64 g.t, .slice la ln lc] 25)) n0 22 22 25 i0 _ 40 Tryz.underlying22 hi hz0 hz1 hz2 rfl (.slice pa rl pc) rl us own ⟨w1.heap.size, 0, none⟩ 1 [.int .i64 g.f, .int .i64 g.t, .slice la ln lc] rfl (cell_three_new rfl _ _ _ _) (fun u hu => by simp at hu; rcases hu with rfl | rfl | rfl <;> rfl) (by unfold maxLen; omega) (by omega) (by rw [World.size_alloc]; omega)
    have hins : RowIn (Fre Bo Br (w1.alloc (Obj.cells #[.int .i64 g.f, .int .i64 g.t, .slice la ln lc] 25)) vo1 (.slice pa rl pc)) (w1.alloc (Obj.cells #[.int .i64 g.f, .int .i64 g.t, .slice la ln lc] 25)) (us ++ [.int .i64 g.f, .int .i64 g.t, .slice la ln lc]) (r ++ [g]) := by
      have h3 := row.append (RowIn.one_ (by rw [hln]; exact hL3))
      rw [hln] at h3
      exact h3
    obtain ⟨q1, q2, q3⟩ := hS3.put_r (r' := r ++ [g]) hgrow (by rw [List.length_append, ← hrl]; exact hown') (hat.imp id fun h => ⟨_, h, Nat.le_refl _⟩) hins
    have hbk : w3.heap[Br]? = some (.cells #[.slice pa rl pc] 22 (0, 0)) := (hgrow.block Br hS3.sizes.2 fun e => hS3.r_ne.2 e.symm).trans hS3.box_r
    have c3 : w3.cell? ⟨Br, 0, none⟩ = some (.slice pa rl pc) := by simp [World.cell?, hbk]
    have z3 : w3.frozen? ⟨Br, 0, none⟩ = false := by simp [World.frozen?, hbk]
    have hq3 := q3 (by rw [World.size_alloc]; omega)
    obtain ⟨gb, off, cap3, rfl⟩ := hown'.slice
    have hrun : ∀ ty, (Builtin.append_ #[22, 22] ty #[.slice pa rl pc, .slice (some ⟨w1.heap.size, 0, none⟩) 1 1]).run Tryz.prog (w1.alloc (Obj.cells #[.int .i64 g.f, .int .i64 g.t, .slice la ln lc] 25)) = .ok (.slice (some ⟨gb, off, none⟩) (rl + 1) cap3) w3 := fun ty => hrun0
    clear own row hins hrl hS3 hL3 hown' hgrow hat hbk cc hrun0 q3
    simp only
    go_wp2_with (at_builtin; refine Lib.wpList_append_run _ rfl _ _ _ _ rfl _ _ rfl rfl _ _ (hrun _) ?_)
    go_end0
    exact ⟨vo1, _, o1, r ++ [g], rfl, q1, m03.trans q2, b1.trans ((bw2.mono (by omega)).trans hq3), h2⟩
end Go.Proofs.YtbleedclnkpbkaaGreatDoor
end
section
namespace Go.Proofs.YtbleedclnkpbkaaGreatDoor
open Go.RowKit Go.Sort
set_option maxRecDepth 100000 in
set_option maxHeartbeats 1000000 in
/-- slices.Clone of a row of graphs that the call owns: the very cells in a new block -/
theorem cloneRow_calls (a : Option Addr) (cap len n0 : Nat) (vs : List Value) (hone : ∀ u ∈ vs, u.oneCell' = true) (hroom : len ≤ 2199023255552) (w : World) (h1 : w.ownsRow n0 25 3 (.slice a len cap) len vs) :
    Calls Tryz.prog 36 #[.slice a len cap] w fun e w' => ∃ sa sc, e = .returned (.slice sa len sc) ∧ w'.ownsRow w.heap.size 25 3 (.slice sa len sc) len vs ∧ Below w.heap.size w w' := by
  have q22 : ∀ (w : World) (a : Option Addr) (n c n' c' : Nat), (binOp .eql 22 (.slice a n c) (.slice none n' c')).run Tryz.prog w = .ok (.bool a.isNone) w := fun w a n c n' c' => Lib.run_eql_slice_nil w _ _ a n c n' c' Tryz.underlying22
  obtain ⟨hvl, ⟨e, h0⟩ | ⟨g, cap', cur, e, hb, hg, hnc, hm, hs, ht⟩⟩ := h1
  · cases e
    have hvs : vs = [] := List.eq_nil_of_length_eq_zero (by omega)
    subst hvs
    go_enter Tryz.func36, Tryz.ntmps36
    go_wp2
    go_ret
    exact ⟨_, _, rfl, World.ownsRow_nil _ _ _ _, Below.refl _ _⟩
  · cases e
    obtain ⟨i0, hi, hz0, hz1, hz2⟩ := info_parts Tryz_info25
    have hown0 : (w.alloc (Obj.cells #[] 25)).ownsRow w.heap.size 25 3 (.slice (some ⟨w.heap.size, 0, none⟩) 0 0) 0 [] := World.ownsRow_made w #[] 0 (Nat.le_refl _) (by unfold maxLen; omega) (by simp)
    have hnews2 : ∀ (j : Nat) u, vs[j]? = some u → (w.alloc (Obj.cells #[] 25)).cell? ((⟨g, 0, none⟩ : Addr).add j) = some u := fun j u hj => by
      have hjl := (List.getElem?_eq_some_iff.1 hj).1
      have h2 : cur[j]? = some u := by
        rw [← Array.getElem?_toList, ← List.getElem?_take_of_lt (show j < len * 3 by omega), ht]; exact hj
      have h3 : w.cell? ⟨g, 0 + j, none⟩ = some u := by simpa [World.cell?, hg] using h2
      rw [Addr.add_lit]
      exact ((below_alloc w _).cell (block_lt_of_cell h3)).trans h3
    clear ht hs hg
    go_enter Tryz.func36, Tryz.ntmps36
    go_wp2_with (at_builtin; refine wpList_append_own _ rfl _ _ 22 rfl w.heap.size 25 i0 (.agg #[.int .i64 0, .int .i64 0, .slice none 0 0]) 3 40 Tryz.underlying22 hi hz0 hz1 hz2 rfl (by decide) _ _ _ rfl hown0 ⟨g, 0, none⟩ len cap vs rfl hvl hnews2 hone (by unfold maxLen; omega) (by omega) (by simp) ?_; intro v' w3 hown' hgrow3 hnil3)
    go_ret
    have hb3 : Below w.heap.size w w3 := ((Below.refl _ w).alloc (Nat.le_refl _) _).grown hgrow3 (by simp) (by intro k hk; cases hk; exact Nat.le_refl _)
    rw [Nat.zero_add, List.nil_append] at hown'
    obtain ⟨sa, sc, rfl⟩ := owns_any hown'
    exact ⟨sa, sc, rfl, hown', hb3⟩
end Go.Proofs.YtbleedclnkpbkaaGreatDoor
end
