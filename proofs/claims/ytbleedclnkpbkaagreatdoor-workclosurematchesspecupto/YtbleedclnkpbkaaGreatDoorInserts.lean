/-
  A part of the proof of the card of WorkClosureMatchesSpec (second form): lemmas that the text Card uses. No condition of its own.
-/
import Derived.Test.YtbleedclnkpbkaaGreatDoorCopyB
set_option linter.all false
set_option linter.unusedVariables false
set_option linter.unusedSimpArgs false
section
namespace Go.Proofs.YtbleedclnkpbkaaGreatDoor
open Go.RowKit Go.Sort
theorem copy22 (w : World) (ty : TypeId) (g o dLen dCap : Nat) (a : Addr) (sLen sCap n : Nat) (cur : Array Value) (cs : List Value) (hg : w.heap[g]? = some (.cells cur 25 (0, 0))) (hm : Nat.min sLen dLen = n) (hn : cs.length = n * 3)
    (hsrc : ∀ j v, cs[j]? = some v → w.cell? (a.add j) = some v) (hfit : o + cs.length ≤ cur.size) (h1 : ∀ v ∈ cs, v.oneCell' = true) :
    (Builtin.copy_ #[22, 22] ty #[.slice (some ⟨g, o, none⟩) dLen dCap, .slice (some a) sLen sCap]).run Tryz.prog w = .ok (goInt n) (w.setRow g (splice cur.toList o cs).toArray) := by
  obtain ⟨i0, hi, hz0, hz1, hz2⟩ := info_parts Tryz_info25
  have := run_copy_rowK (P := Tryz.prog) w 22 22 ty 25 3 g o dLen dCap a sLen sCap cur 25 cs Tryz.underlying22 (by rw [hi]; simp [hz1]) hg (by rw [hm, hn]) hsrc hfit h1
  rw [hm] at this
  exact this
set_option maxRecDepth 100000 in
set_option maxHeartbeats 2000000 in
/-- slices.Insert(out, i, g), i < len(out), no room: a new row -/
theorem insertGrow_calls (base len i g bv : Nat) (cur : Array Value) (vs us : List Value) (w : World) (hbase : base ≤ w.heap.size) (hi : i < len) (hbg : base ≤ g) (hg : w.heap[g]? = some (.cells cur 25 (0, 0))) (hs : cur.size = len * 3) (hvs : cur.toList.take (len * 3) = vs)
    (hroom : len ≤ 2199023255552) (hone : ∀ u ∈ vs, u.oneCell' = true) (hul : us.length = 3) (hone' : ∀ u ∈ us, u.oneCell' = true) (hus : w.heap[bv]? = some (.cells us.toArray 25 (0, 0))) (hbv : bv ≠ g) :
    Calls Tryz.prog 33 #[.slice (some ⟨g, 0, none⟩) len len, .int .i64 i, .slice (some ⟨bv, 0, none⟩) 1 1] w fun e w' => ∃ v', e = .returned v' ∧ w'.ownsRow base 25 3 v' (len + 1) (vs.take (i * 3) ++ us ++ vs.drop (i * 3)) ∧ w.grownBy w' (some g) ∧ v'.ownBlock = some w.heap.size := by
  have hvl : vs.length = len * 3 := by rw [← hvs, List.length_take, Array.length_toList]; omega
  have hgw : g < w.heap.size := (Array.getElem?_eq_some_iff.1 hg).1
  have hvw : bv < w.heap.size := (Array.getElem?_eq_some_iff.1 hus).1
  obtain ⟨i0, hi0, hz0, hz1, hz2⟩ := info_parts Tryz_info25
  have hcell : ∀ (j : Nat) v, vs[j]? = some v → w.cell? ⟨g, j, none⟩ = some v := fun j v hj => by
    rw [cell_of_row w g j cur 25 (0, 0) hg, ← Array.getElem?_toList]
    rw [← hvs, List.getElem?_take] at hj
    split at hj
    · exact hj
    · cases hj
  have hold : (Builtin.firstCells i0.size i (.slice (some ⟨g, 0, none⟩) i len)).run Tryz.prog w.drew = .ok (vs.take (i * 3)).toArray w.drew := by
    rw [hz1]
    exact run_firstCells_some w.drew 3 i ⟨g, 0, none⟩ i len (vs.take (i * 3)) (by rw [List.length_take]; omega) (fun j v hj => by
      rw [Addr.add_lit, Nat.zero_add]
      rw [List.getElem?_take] at hj
      split at hj
      · exact hcell j v hj
      · cases hj)
  have hrz : ∀ ty, (Builtin.append_ #[22, 3] ty #[.slice (some ⟨g, 0, none⟩) i len, .int .i64 ((len : Int) + 1 - (i : Int))]).run Tryz.prog w =
      .ok (.slice (some ⟨w.heap.size, 0, none⟩) (len + 1) (grownCap w (len + 1) len 25)) (w.drew.alloc (.cells ((vs.take (i * 3)).toArray ++ Builtin.zeroCells (Value.agg #[.int .i64 0, .int .i64 0, .slice none 0 0]).cells (len + 1 - i) ++ Builtin.zeroCells (Value.agg #[.int .i64 0, .int .i64 0, .slice none 0 0]).cells (grownCap w (len + 1) len 25 - (len + 1))) 25)) := fun ty => by
    have hik : i + (len + 1 - i) = len + 1 := by omega
    have h := Lib.run_append_grow_zeros w 22 3 ty 25 i0 _ .i64 .i64 Tryz.underlying22 Tryz.underlying3 hi0 hz0 (some ⟨g, 0, none⟩) i len (vs.take (i * 3)) hold (len + 1 - i) (by omega) (by omega) (by omega) (by omega) (by rw [hz2]; omega) (by rw [hz2, hik]; exact growslice_fits (by omega) (by omega))
    rw [hik] at h
    rw [show (len : Int) + 1 - (i : Int) = ((len + 1 - i : Nat) : Int) by omega]
    exact h
  obtain ⟨G, hG⟩ : ∃ G, G = grownCap w (len + 1) len 25 := ⟨_, rfl⟩
  have hGn : len + 1 ≤ G := by rw [hG]; exact grownCap_ge w _ _ _
  have hG63 : G ≤ maxLen := by rw [hG]; exact grownCap_le_maxLen w (len + 1) len 25 (by unfold maxLen; omega)
  have hG64 : G ≤ 9223372036854775807 := hG63
  obtain ⟨ROW, hROW⟩ : ∃ ROW : Array Value, ROW = (vs.take (i * 3)).toArray ++ Builtin.zeroCells (Value.agg #[.int .i64 0, .int .i64 0, .slice none 0 0]).cells (len + 1 - i) ++ Builtin.zeroCells (Value.agg #[.int .i64 0, .int .i64 0, .slice none 0 0]).cells (G - (len + 1)) := ⟨_, rfl⟩
  rw [← hG, ← hROW] at hrz
  have hRs : ROW.size = G * 3 := by
    have hz : (Value.agg #[.int .i64 0, .int .i64 0, .slice none 0 0]).cells.size = 3 := rfl
    rw [hROW]
    simp only [Array.size_append, List.size_toArray, size_zeroCells, hz, List.length_take]
    omega
  have hRt : ROW.toList.take (i * 3) = vs.take (i * 3) := by
    rw [hROW]
    simp only [Array.toList_append, List.append_assoc]
    have : (vs.take (i * 3)).length = i * 3 := by rw [List.length_take]; omega
    exact List.take_left' this
  obtain ⟨W1, hW1⟩ : ∃ W1, W1 = w.drew.alloc (.cells ROW 25) := ⟨_, rfl⟩
  rw [← hW1] at hrz
  have hW1s : W1.heap.size = w.heap.size + 1 := by rw [hW1, World.size_alloc]; rfl
  have hW1n : W1.heap[w.heap.size]? = some (.cells ROW 25 (0, 0)) := by rw [hW1]; exact heap_alloc_new w.drew _
  have hW1o : ∀ k, k < w.heap.size → W1.heap[k]? = w.heap[k]? := fun k hk => by rw [hW1]; exact Below.heap_alloc w.drew _ k hk
  have hdl : (vs.drop (i * 3)).length = (len - i) * 3 := by rw [List.length_drop]; omega
  have hcA : ∀ ty dc, (Builtin.copy_ #[22, 22] ty #[.slice (some ⟨w.heap.size, i * 3, none⟩) (len + 1 - i) dc, .slice (some ⟨bv, 0, none⟩) 1 1]).run Tryz.prog W1 = .ok (goInt (1 : Nat)) (W1.setRow w.heap.size (splice ROW.toList (i * 3) us).toArray) := fun ty dc =>
    copy22 W1 ty w.heap.size (i * 3) (len + 1 - i) dc ⟨bv, 0, none⟩ 1 1 1 ROW us hW1n (by simp only [Nat.min_def]; split <;> omega) (by omega) (fun j v hj => by
      rw [Addr.add_lit, Nat.zero_add, cell_of_row W1 bv j us.toArray 25 (0, 0) ((hW1o bv hvw).trans hus)]
      simpa using hj) (by omega) hone'
  obtain ⟨R2, hR2⟩ : ∃ R2 : Array Value, R2 = (splice ROW.toList (i * 3) us).toArray := ⟨_, rfl⟩
  have hR2s : R2.size = G * 3 := by rw [hR2, List.size_toArray, splice_len (by rw [Array.length_toList (xs := ROW)]; omega), Array.length_toList, hRs]
  rw [← hR2] at hcA
  obtain ⟨W2, hW2⟩ : ∃ W2, W2 = W1.setRow w.heap.size R2 := ⟨_, rfl⟩
  rw [← hW2] at hcA
  have hW2n : W2.heap[w.heap.size]? = some (.cells R2 25 (0, 0)) := by rw [hW2]; exact setRow_heap _ _ _ _ _ _ hW1n
  have hW2o : ∀ k, k < w.heap.size → W2.heap[k]? = w.heap[k]? := fun k hk => by rw [hW2, setRow_other _ _ _ _ (by omega)]; exact hW1o k hk
  have hcB : ∀ ty dc sc, (Builtin.copy_ #[22, 22] ty #[.slice (some ⟨w.heap.size, (i + 1) * 3, none⟩) (len + 1 - (i + 1)) dc, .slice (some ⟨g, i * 3, none⟩) (len - i) sc]).run Tryz.prog W2.drew = .ok (goInt (len - i : Nat)) (W2.drew.setRow w.heap.size (splice R2.toList ((i + 1) * 3) (vs.drop (i * 3))).toArray) := fun ty dc sc =>
    copy22 W2.drew ty w.heap.size ((i + 1) * 3) (len + 1 - (i + 1)) dc ⟨g, i * 3, none⟩ (len - i) sc (len - i) R2 (vs.drop (i * 3)) hW2n (by simp only [Nat.min_def]; split <;> omega) hdl (fun j v hj => by
      rw [Addr.add_lit]
      rw [List.getElem?_drop] at hj
      exact (World.cell?_of_block (a := ⟨g, i * 3 + j, none⟩) (w := w) (w' := W2.drew) (hW2o g hgw)).trans (hcell _ v hj)) (by rw [hdl]; omega) (fun v hv => hone v (List.mem_of_mem_drop hv))
  have hfin : ∀ v' w', v' = .slice (some ⟨w.heap.size, 0, none⟩) (len + 1) G → w' = W2.drew.setRow w.heap.size (splice R2.toList ((i + 1) * 3) (vs.drop (i * 3))).toArray →
      w'.ownsRow base 25 3 v' (len + 1) (vs.take (i * 3) ++ us ++ vs.drop (i * 3)) ∧ w.grownBy w' (some g) ∧ v'.ownBlock = some w.heap.size := by
    rintro _ _ rfl rfl
    refine ⟨⟨by simp only [List.length_append, List.length_take, List.length_drop]; omega, .inr ⟨w.heap.size, G, _, rfl, hbase, setRow_heap _ _ _ _ _ _ hW2n, hGn, hG63, ?_, ?_⟩⟩, ⟨?_, ?_, ?_, ?_, fun k hk _ => ?_⟩, rfl⟩
    · rw [List.size_toArray, splice_len (by rw [Array.length_toList (xs := R2), hdl]; omega), Array.length_toList, hR2s]
    · rw [hR2]
      exact ins_grow hvl hul (by omega) (by rw [Array.length_toList]; omega) hRt
    · rw [hW2, hW1]; rfl
    · rw [hW2, hW1]; rfl
    · rw [hW2, hW1]; rfl
    · rw [hW2, hW1]; simp [World.setRow]
    · rw [setRow_other _ _ _ _ (by omega)]; exact hW2o k hk
  have hlc : (len : Int) < (len : Int) + 1 := by omega
  have hz2' : ((i : Int) == (len : Int)) = false := by rw [beq_eq_false_iff_ne]; omega
  have hi63 : IntKind.i64.wrap ((i : Int) + 1) = (i : Int) + 1 := by rw [IntKind.wrap_i64]; omega
  have hGi : ¬ (G = i) := by omega
  have hGi1 : ¬ (G = i + 1) := by omega
  have hci : ¬ (len = i) := by omega
  have htn : ((i : Int) + 1).toNat = i + 1 := by omega
  have hin : (i : Int) ≤ (len : Int) := by omega
  have hin2 : i ≤ len := by omega
  have hb1 : (0 : Int) ≤ (i : Int) + 1 := by omega
  have hb2 : (i : Int) + 1 ≤ (len : Int) + 1 := by omega
  clear hG hW1 hW2 hRs hR2s hW1s
  clear hold hROW hcell hg hus hvs hW1n hW2n hW1o hW2o hRt hR2 hi0
  go_enter Tryz.func33, Tryz.ntmps33
  go_wp2_with (first
    | (at_builtin; refine Lib.wpList_append_run _ rfl _ _ _ _ rfl _ _ rfl rfl _ _ (hrz _) ?_)
    | (at_builtin; refine wpList_copy_runK rfl _ _ 22 22 rfl _ _ rfl rfl (hcA _ _) ?_))
  refine wp_region_still_tail 8 (by kernel_rfl) (by kernel_rfl) ?_
  simp only [List.take_succ_cons, List.take_zero, List.drop_succ_cons, List.drop_zero, World.drew_eq]
  repeat still_step
  refine wpStill_nil ?_
  show wpList _ _ _ _ _ _
  refine wpList_copy_runK rfl _ _ 22 22 rfl (.slice (some ⟨w.heap.size, (i + 1) * 3, none⟩) (len + 1 - (i + 1)) (G - (i + 1))) (.slice (some ⟨g, i * 3, none⟩) (len - i) (len - i)) (by simp [Act.eval, Act.put]) (by simp [Act.eval, Act.put]) (hcB _ _ _) ?_
  go_wp2
  go_ret
  exact ⟨_, rfl, hfin _ _ rfl rfl⟩
set_option maxRecDepth 100000 in
set_option maxHeartbeats 2000000 in
/-- slices.Insert(out, i, g), i < len(out), there is room: in place -/
theorem insertRoom_calls (base len i g bv cap : Nat) (cur : Array Value) (vs us : List Value) (w : World) (hbase : base ≤ w.heap.size) (hi : i < len) (hbg : base ≤ g) (hg : w.heap[g]? = some (.cells cur 25 (0, 0))) (hcap : len < cap) (hc63 : cap ≤ maxLen) (hs : cur.size = cap * 3) (hvs : cur.toList.take (len * 3) = vs)
    (hroom : len ≤ 2199023255552) (hone : ∀ u ∈ vs, u.oneCell' = true) (hul : us.length = 3) (hone' : ∀ u ∈ us, u.oneCell' = true) (hus : w.heap[bv]? = some (.cells us.toArray 25 (0, 0))) (hbv : bv ≠ g) :
    Calls Tryz.prog 33 #[.slice (some ⟨g, 0, none⟩) len cap, .int .i64 i, .slice (some ⟨bv, 0, none⟩) 1 1] w fun e w' => ∃ v', e = .returned v' ∧ w'.ownsRow base 25 3 v' (len + 1) (vs.take (i * 3) ++ us ++ vs.drop (i * 3)) ∧ w.grownBy w' (some g) ∧ v'.ownBlock = some g := by
  have hc64 : cap ≤ 9223372036854775807 := hc63
  have hcs : (len + 1) * 3 ≤ cur.size := by rw [hs]; omega
  have hvl : vs.length = len * 3 := by rw [← hvs, List.length_take, Array.length_toList]; omega
  have hgw : g < w.heap.size := (Array.getElem?_eq_some_iff.1 hg).1
  have hcell : ∀ (j : Nat) v, vs[j]? = some v → w.cell? ⟨g, j, none⟩ = some v := fun j v hj => by
    rw [cell_of_row w g j cur 25 (0, 0) hg, ← Array.getElem?_toList]
    rw [← hvs, List.getElem?_take] at hj
    split at hj
    · exact hj
    · cases hj
  have hov : ∀ lb cb, (callFunc 67 #[.slice (some ⟨bv, 0, none⟩) 1 1, .slice (some ⟨g, (i + 1) * 3, none⟩) lb cb]).run Tryz.prog w = .ok (.value (.bool false)) w := fun lb cb => by
    rw [run_callFunc_extern Tryz.func67 (by kernel_rfl) (by kernel_rfl) (by kernel_rfl) (e := Extern.SlicesOverlaps.overlaps #[22, 22] #[4]) (by kernel_rfl),
      Lib.run_overlaps_apart w 22 4 25 Tryz.underlying22 3 Tryz.sizeOf25 ⟨bv, 0, none⟩ ⟨g, (i + 1) * 3, none⟩ 1 1 lb cb hbv 25 25 us.length cur.size (by simp [World.shape?, hus]) (by simp [World.shape?, hg]) (by omega) (by simp [World.frozen?, hus]) (by simp [World.frozen?, hus])]
    rfl
  have hdl : (vs.drop (i * 3)).length = (len - i) * 3 := by rw [List.length_drop]; omega
  have hcA : ∀ ty dc sc, (Builtin.copy_ #[22, 22] ty #[.slice (some ⟨g, (i + 1) * 3, none⟩) (len + 1 - (i + 1)) dc, .slice (some ⟨g, i * 3, none⟩) (len + 1 - i) sc]).run Tryz.prog w.drew = .ok (goInt (len - i : Nat)) (w.drew.setRow g (splice cur.toList ((i + 1) * 3) (vs.drop (i * 3))).toArray) := fun ty dc sc =>
    copy22 w.drew ty g ((i + 1) * 3) (len + 1 - (i + 1)) dc ⟨g, i * 3, none⟩ (len + 1 - i) sc (len - i) cur (vs.drop (i * 3)) hg (by simp only [Nat.min_def]; split <;> omega) hdl (fun j v hj => by
      rw [Addr.add_lit]
      rw [List.getElem?_drop] at hj
      exact hcell _ v hj) (by rw [hdl]; omega) (fun v hv => hone v (List.mem_of_mem_drop hv))
  obtain ⟨R1, hR1⟩ : ∃ R1 : Array Value, R1 = (splice cur.toList ((i + 1) * 3) (vs.drop (i * 3))).toArray := ⟨_, rfl⟩
  have hR1s : R1.size = cap * 3 := by rw [hR1, List.size_toArray, splice_len (by rw [Array.length_toList (xs := cur), hdl]; omega), Array.length_toList (xs := cur), hs]
  rw [← hR1] at hcA
  obtain ⟨W1, hW1⟩ : ∃ W1, W1 = w.drew.setRow g R1 := ⟨_, rfl⟩
  rw [← hW1] at hcA
  have hW1n : W1.heap[g]? = some (.cells R1 25 (0, 0)) := by rw [hW1]; exact setRow_heap w.drew _ _ _ _ _ hg
  have hW1o : ∀ k, k ≠ g → W1.heap[k]? = w.heap[k]? := fun k hk => by rw [hW1, setRow_other _ _ _ _ hk]; rfl
  have hcB : ∀ ty dc, (Builtin.copy_ #[22, 22] ty #[.slice (some ⟨g, i * 3, none⟩) (len + 1 - i) dc, .slice (some ⟨bv, 0, none⟩) 1 1]).run Tryz.prog W1 = .ok (goInt (1 : Nat)) (W1.setRow g (splice R1.toList (i * 3) us).toArray) := fun ty dc =>
    copy22 W1 ty g (i * 3) (len + 1 - i) dc ⟨bv, 0, none⟩ 1 1 1 R1 us hW1n (by simp only [Nat.min_def]; split <;> omega) (by omega) (fun j v hj => by
      rw [Addr.add_lit, Nat.zero_add, cell_of_row W1 bv j us.toArray 25 (0, 0) ((hW1o bv hbv).trans hus)]
      simpa using hj) (by omega) hone'
  have hfin : ∀ v' w', v' = .slice (some ⟨g, 0, none⟩) (len + 1) cap → w' = W1.setRow g (splice R1.toList (i * 3) us).toArray →
      w'.ownsRow base 25 3 v' (len + 1) (vs.take (i * 3) ++ us ++ vs.drop (i * 3)) ∧ w.grownBy w' (some g) ∧ v'.ownBlock = some g := by
    rintro _ _ rfl rfl
    refine ⟨⟨by simp only [List.length_append, List.length_take, List.length_drop]; omega, .inr ⟨g, cap, _, rfl, hbg, setRow_heap _ _ _ _ _ _ hW1n, by omega, hc63, ?_, ?_⟩⟩, ⟨?_, ?_, ?_, ?_, fun k hk hne => ?_⟩, rfl⟩
    · rw [List.size_toArray, splice_len (by rw [Array.length_toList (xs := R1)]; omega), Array.length_toList (xs := R1), hR1s]
    · rw [hR1]
      exact ins_place hvl hul (by omega) (by rw [Array.length_toList]; omega) hvs
    · rw [hW1]; rfl
    · rw [hW1]; rfl
    · rw [hW1]; rfl
    · rw [hW1]; simp [World.setRow]
    · have hkg : k ≠ g := fun e => hne (by rw [e])
      rw [setRow_other _ _ _ _ hkg]; exact hW1o k hkg
  have hlc : ¬ ((cap : Int) < (len : Int) + 1) := by omega
  have hlc2 : len + 1 ≤ cap := by omega
  have hlc3 : (len : Int) + 1 ≤ (cap : Int) := by omega
  have hz2' : ((i : Int) == (len : Int)) = false := by rw [beq_eq_false_iff_ne]; omega
  have hi63 : IntKind.i64.wrap ((i : Int) + 1) = (i : Int) + 1 := by rw [IntKind.wrap_i64]; omega
  have hl63 : IntKind.i64.wrap ((len : Int) + 1) = (len : Int) + 1 := by rw [IntKind.wrap_i64]; omega
  have hci : ¬ (cap = i) := by omega
  have hci1 : ¬ (cap = i + 1) := by omega
  have htn : ((i : Int) + 1).toNat = i + 1 := by omega
  have htn2 : ((len : Int) + 1).toNat = len + 1 := by omega
  have hin : (i : Int) ≤ (len : Int) := by omega
  have hin2 : i ≤ len := by omega
  have hin3 : (i : Int) ≤ (len : Int) + 1 := by omega
  have hb1 : (0 : Int) ≤ (i : Int) + 1 := by omega
  have hb2 : (i : Int) + 1 ≤ (len : Int) + 1 := by omega
  have hb3 : (0 : Int) ≤ (len : Int) + 1 := by omega
  clear hW1 hR1 hR1s hcell hg hus hvs hW1n hW1o hcs hs
  go_enter Tryz.func33, Tryz.ntmps33
  go_wp2_with (first | (at_builtin; fail) | (simp only [hov]))
  refine wp_region_still_tail 8 (by kernel_rfl) (by kernel_rfl) ?_
  simp only [List.take_succ_cons, List.take_zero, List.drop_succ_cons, List.drop_zero, World.drew_eq]
  repeat still_step
  refine wpStill_nil ?_
  show wpList _ _ _ _ _ _
  refine wpList_copy_runK rfl _ _ 22 22 rfl (.slice (some ⟨g, (i + 1) * 3, none⟩) (len + 1 - (i + 1)) (cap - (i + 1))) (.slice (some ⟨g, i * 3, none⟩) (len + 1 - i) (cap - i)) (by simp [Act.eval, Act.put]) (by simp [Act.eval, Act.put]) (hcA _ _ _) ?_
  go_wp2_with (at_builtin; refine wpList_copy_runK rfl _ _ 22 22 rfl _ _ rfl rfl (hcB _ _) ?_)
  go_ret
  exact ⟨_, rfl, hfin _ _ rfl rfl⟩
/-- slices.Insert(out, i, g) -/
theorem insert_calls (base len i bv : Nat) (v : Value) (vs us : List Value) (w : World) (hbase : base ≤ w.heap.size) (hi : i ≤ len) (hown : w.ownsRow base 25 3 v len vs) (hroom : len ≤ 2199023255552) (hone : ∀ u ∈ vs, u.oneCell' = true) (hul : us.length = 3) (hone' : ∀ u ∈ us, u.oneCell' = true)
    (hus : w.heap[bv]? = some (.cells us.toArray 25 (0, 0))) (hbv : v.ownBlock ≠ some bv) :
    Calls Tryz.prog 33 #[v, .int .i64 i, .slice (some ⟨bv, 0, none⟩) 1 1] w fun e w' => ∃ v', e = .returned v' ∧ w'.ownsRow base 25 3 v' (len + 1) (vs.take (i * 3) ++ us ++ vs.drop (i * 3)) ∧ w.grownBy w' v.ownBlock ∧ (v'.ownBlock = v.ownBlock ∨ ∃ k, v'.ownBlock = some k ∧ w.heap.size ≤ k) := by
  by_cases hil : i = len
  · subst hil
    have hvl : vs.length = i * 3 := hown.1
    have e1 : vs.take (i * 3) ++ us ++ vs.drop (i * 3) = vs ++ us := by
      rw [List.take_of_length_le (by omega), List.drop_of_length_le (by omega), List.append_nil]
    rw [e1]
    exact insertEnd_calls base i bv v vs us w hbase hown hroom hul hone' fun j u hj => by
      rw [Addr.add_lit, Nat.zero_add, cell_of_row w bv j us.toArray 25 (0, 0) hus]
      simpa using hj
  · rcases hown.2 with ⟨rfl, h0⟩ | ⟨g, cap, cur, rfl, hb, hg, hnc, hm, hs, ht⟩
    · omega
    · have hne : bv ≠ g := fun e => hbv (by rw [e]; rfl)
      by_cases hcap : cap = len
      · subst hcap
        refine (insertGrow_calls base cap i g bv cur vs us w hbase (by omega) hb hg hs ht hroom hone hul hone' hus hne).mono ?_
        rintro e w' ⟨v', h1, h2, h3, h4⟩
        exact ⟨v', h1, h2, h3, .inr ⟨_, h4, Nat.le_refl _⟩⟩
      · refine (insertRoom_calls base len i g bv cap cur vs us w hbase (by omega) hb hg (by omega) hm hs ht hroom hone hul hone' hus hne).mono ?_
        rintro e w' ⟨v', h1, h2, h3, h4⟩
        exact ⟨v', h1, h2, h3, .inl h4⟩
end Go.Proofs.YtbleedclnkpbkaaGreatDoor
end
