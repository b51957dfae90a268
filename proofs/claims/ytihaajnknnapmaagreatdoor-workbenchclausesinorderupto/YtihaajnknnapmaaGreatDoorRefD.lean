/-
  A part of the proof of the card of WorkbenchClausesInOrder (second form): lemmas that the text Card uses. No condition of its own.
-/
import Derived.Test.YtihaajnknnapmaaGreatDoorRefC
import Derived.Lib.AppendStr
set_option linter.all false
set_option linter.unusedVariables false
set_option linter.unusedSimpArgs false
section
namespace Go.Proofs.YtihaajnknnapmaaGreatDoor
open Go.RowKit Go.Big
attribute [local go_sem] Heavy.uponW
theorem cmpV_one (y : Nat) : (cmpV y 1 == 0) = decide (y = 1) := by
  unfold cmpV
  by_cases h1 : y < 1
  · rw [if_pos h1]; simp; omega
  · rw [if_neg h1]
    by_cases h2 : 1 < y
    · rw [if_pos h2]; simp; omega
    · rw [if_neg h2]; simp; omega
set_option maxRecDepth 100000 in
set_option maxHeartbeats 1000000 in
/-- IsInt -/
theorem risInt_calls (neg : Bool) (r1 r2 : Value) (n x y P M : Nat) (hP : P = 65536 ^ M) (hM : M ≤ 1048576) (hM1 : 1 ≤ M) (hy : y < P) (w : World) (hn : n ≤ w.heap.size) (h1 : NatR n w r1 x) (h2 : NatR n w r2 y) :
    Calls Tryz.prog 97 #[.agg #[.bool neg, r1, r2]] w fun e w' => e = .returned (.bool (decide (y = 1))) ∧ Below w.heap.size w w' := by
  obtain ⟨a1, l1, c1, rfl⟩ := h1.slice
  obtain ⟨a2, l2, c2, rfl⟩ := h2.slice
  have hb1 := below_alloc w (Obj.cells #[.bool neg, .slice a1 l1 c1, .slice a2 l2 c2] 128)
  have hb2 := below_alloc (w.alloc (Obj.cells #[.bool neg, .slice a1 l1 c1, .slice a2 l2 c2] 128)) (Obj.cells #[.int .i64 1] 3)
  have hb : Below w.heap.size w ((w.alloc (Obj.cells #[.bool neg, .slice a1 l1 c1, .slice a2 l2 c2] 128)).alloc (Obj.cells #[.int .i64 1] 3)) := hb1.trans (hb2.mono (by simp))
  have hone := one_natR (w.alloc (Obj.cells #[.bool neg, .slice a1 l1 c1, .slice a2 l2 c2] 128))
  have hcm := rcmpN _ _ _ _ y 1 M _ (h2.below hb hn) hone (hP ▸ hy) (Nat.one_lt_pow (by omega) (by decide)) hM
  rw [World.size_alloc] at hcm
  have hcv := cmpV_one y
  obtain ⟨cv, hc⟩ : ∃ cv, cmpV y 1 = cv := ⟨_, rfl⟩
  obtain ⟨d, hd⟩ : ∃ d, decide (y = 1) = d := ⟨_, rfl⟩
  rw [hc] at hcm hcv
  rw [hd] at hcv ⊢
  clear hc hd hone hb1 hb2 h1 h2
  go_enter Tryz.func97, Tryz.ntmps97
  go_wp2_with (go_at_call 39; with_reducible refine hcm.mono ?_; rintro e w' ⟨rfl, rfl⟩)
  go_ret
  exact ⟨rfl, hb⟩
end Go.Proofs.YtihaajnknnapmaaGreatDoor
end
section
namespace Go.Proofs.YtihaajnknnapmaaGreatDoor
open Go.RowKit Go.Big
attribute [local go_sem] Heavy.uponW
theorem setCell_block {w : World} {g : Nat} {i : Nat} {v : Value} {cs : Array Value} {e : TypeId} {fr : Nat × Nat} (h : w.heap[g]? = some (.cells cs e fr)) (k : Nat) :
    (w.setCell ⟨g, i, none⟩ v).heap[k]? = if k = g then some (.cells (cs.setIfInBounds i v) e fr) else w.heap[k]? := by
  show (Array.modify w.heap g _)[k]? = _
  rw [Array.getElem?_modify]
  by_cases hk : k = g
  · subst hk; simp [h]
  · rw [if_neg (Ne.symm hk), if_neg hk]
theorem setCell_size (w : World) (g i : Nat) (v : Value) : (w.setCell ⟨g, i, none⟩ v).heap.size = w.heap.size := by
  simp [World.setCell]
theorem put3_block {w : World} {k : Nat} {x y z a b c : Value} {e : TypeId} {fr : Nat × Nat} (h : w.heap[k]? = some (.cells #[x, y, z] e fr)) : (((w.setCell ⟨k, 0, none⟩ a).setCell ⟨k, 1, none⟩ b).setCell ⟨k, 2, none⟩ c).heap[k]? = some (.cells #[a, b, c] e fr) := by
  have h1 := setCell_block (i := 0) (v := a) h k
  rw [if_pos rfl] at h1
  have h2 := setCell_block (i := 1) (v := b) h1 k
  rw [if_pos rfl] at h2
  have h3 := setCell_block (i := 2) (v := c) h2 k
  rw [if_pos rfl] at h3
  exact h3
theorem below_put (w : World) (n g i : Nat) (v : Value) (h : n ≤ g) : Below n w (w.setCell ⟨g, i, none⟩ v) := (Below.refl n w).setCell h v
/-- a write into a block that holds no ints keeps numbers -/
theorem NatR.aside {n g : Nat} {w w' : World} {r : Value} {v : Nat} {cs : Array Value} {e : TypeId} {fr : Nat × Nat} (h : NatR n w r v) (hg : w.heap[g]? = some (.cells cs e fr)) (hno : ∀ (i : Nat) (x : Int), cs[i]? ≠ some (.int .i64 x)) (hk : ∀ k, k ≠ g → w'.heap[k]? = w.heap[k]?) : NatR n w' r v := by
  obtain ⟨a, L, c, h1, h2, h3, ⟨h4, h4'⟩, h5⟩ := h
  refine ⟨a, L, c, h1, h2, h3, ⟨h4, fun hne => ?_⟩, h5⟩
  obtain ⟨b, off, e1, hb, hc⟩ := h4' hne
  refine ⟨b, off, e1, hb, fun j x hx => ?_⟩
  have hcx := hc j x hx
  have hbg : b ≠ g := by
    rintro rfl
    simp only [World.cell?, hg] at hcx
    exact hno _ _ hcx
  simp only [World.cell?, hk b hbg] at hcx ⊢
  exact hcx
/-- a rational in memory -/
def RatR (n : Nat) (w : World) (v : Value) (neg : Bool) (x y : Nat) : Prop := ∃ r1 r2, v = .agg #[.bool neg, r1, r2] ∧ NatR n w r1 x ∧ NatR n w r2 y
set_option maxRecDepth 100000 in
set_option maxHeartbeats 2000000 in
/-- Of -/
theorem rof_calls (neg : Bool) (a1 a2 : Option Addr) (len1 len2 cap1 cap2 n : Nat) (A C : List Nat) (hl1 : A.length = len1) (hl2 : C.length = len2) (hb1 : len1 ≤ 1048576) (hb2 : len2 ≤ 1048576) (w : World) (hn : n ≤ w.heap.size) (h1 : LimAt n w a1 A) (h2 : LimAt n w a2 C) :
    Calls Tryz.prog 44 #[.agg #[.bool neg, .slice a1 len1 cap1, .slice a2 len2 cap2]] w fun e w' => ∃ v, e = .returned v ∧ RatR w'.heap.size w' v neg (val 4294967296 A) (val 4294967296 C) ∧ Below w.heap.size w w' := by
  have b1 := below_alloc w (Obj.cells #[.bool neg, .slice a1 len1 cap1, .slice a2 len2 cap2] 34)
  have b2 := below_alloc (w.alloc (Obj.cells #[.bool neg, .slice a1 len1 cap1, .slice a2 len2 cap2] 34)) (Obj.cells #[.bool false, .slice none 0 0, .slice none 0 0] 128)
  have q1 := heap_alloc_new w (Obj.cells #[.bool neg, .slice a1 len1 cap1, .slice a2 len2 cap2] 34)
  have q2 := heap_alloc_new (w.alloc (Obj.cells #[.bool neg, .slice a1 len1 cap1, .slice a2 len2 cap2] 34)) (Obj.cells #[.bool false, .slice none 0 0, .slice none 0 0] 128)
  have sz : ((w.alloc (Obj.cells #[.bool neg, .slice a1 len1 cap1, .slice a2 len2 cap2] 34)).alloc (Obj.cells #[.bool false, .slice none 0 0, .slice none 0 0] 128)).heap.size = w.heap.size + 2 := by simp
  rw [World.size_alloc] at q2 b2
  have q1' := (b2.block w.heap.size (by omega)).trans q1
  have hBw := b1.trans (b2.mono (by omega))
  clear b1 b2 q1
  go_enter Tryz.func44, Tryz.ntmps44
  go_upto_region 1 with fail
  generalize (w.alloc (Obj.cells #[.bool neg, .slice a1 len1 cap1, .slice a2 len2 cap2] 34)).alloc (Obj.cells #[.bool false, .slice none 0 0, .slice none 0 0] 128) = wb at *
  have hsz := hBw.size
  have hlw : w.heap.size + 1 < wb.heap.size := by omega
  clear sz
  have g1 := h1.below hBw hn
  have g2 := h2.below hBw hn
  have k1 : wb.cell? ⟨w.heap.size, 0, none⟩ = some (.bool neg) := by simp [World.cell?, q1']
  have k2 : wb.cell? ⟨w.heap.size, 1, none⟩ = some (.slice a1 len1 cap1) := by simp [World.cell?, q1']
  have k3 : wb.cell? ⟨w.heap.size, 2, none⟩ = some (.slice a2 len2 cap2) := by simp [World.cell?, q1']
  have fc : ∀ w2, Below wb.heap.size wb w2 → w2.cell? ⟨w.heap.size, 0, none⟩ = some (.bool neg) ∧ w2.cell? ⟨w.heap.size, 1, none⟩ = some (.slice a1 len1 cap1) ∧ w2.cell? ⟨w.heap.size, 2, none⟩ = some (.slice a2 len2 cap2) := fun w2 hb =>
    ⟨(hb.cell (p := ⟨w.heap.size, 0, none⟩) (by show w.heap.size < _; omega)).trans k1, (hb.cell (p := ⟨w.heap.size, 1, none⟩) (by show w.heap.size < _; omega)).trans k2, (hb.cell (p := ⟨w.heap.size, 2, none⟩) (by show w.heap.size < _; omega)).trans k3⟩
  clear k1 k2 k3 q1'
  have hBd : Below wb.heap.size wb { wb with drawn := wb.drawn + 1 } := ⟨rfl, rfl, rfl, Nat.le_refl _, fun _ _ => rfl⟩
  have n1 := fun w' (hb : Below wb.heap.size wb w') => rnatOf_calls a1 len1 cap1 n A hl1 hb1 w' (by have := hb.size; omega) (g1.below hb (by omega))
  have n2 := fun w' (hb : Below wb.heap.size wb w') => rnatOf_calls a2 len2 cap2 n C hl2 hb2 w' (by have := hb.size; omega) (g2.below hb (by omega))
  refine Heavy.region_plan (fun w' => Below wb.heap.size wb w') 8 (Heavy.lights [0, 1, 2, 3, 5, 6] (.one 4 (.one 7 .done))) (by kernel_rfl) (by kernel_rfl) hBd ?_
  simp only [Heavy.lights, List.take_succ_cons, List.take_zero, List.drop_succ_cons, List.drop_zero]
  iterate 6 (apply Heavy.light_n; (exact rfl); (exact rfl); (intro wr2 hw; have x0 := (fc wr2 hw).1; have x1 := (fc wr2 hw).2.1; have x2 := (fc wr2 hw).2.2; go_simp; exact rfl))
  apply Heavy.one_n
  · exact rfl
  · exact rfl
  go_simp
  refine (n1 _ hBd).mono ?_
  rintro e w3 ⟨r3, rfl, hN3, hb3⟩
  have hB3 : Below wb.heap.size wb w3 := hBd.trans hb3
  refine ⟨_, rfl, hB3, ?_⟩
  apply Heavy.one_n
  · exact rfl
  · exact rfl
  go_simp
  refine (n2 _ hB3).mono ?_
  rintro e w4 ⟨r4, rfl, hN4, hb4⟩
  have hB4 := hB3.trans (hb4.mono hB3.size)
  refine ⟨_, rfl, hB4, ?_⟩
  apply Heavy.plan_end
  show wpList _ _ _ _ _ _
  have q4 := (hB4.block (w.heap.size + 1) (by omega)).trans q2
  have hN3' := (hN3.below hb4 (Nat.le_refl _)).up hb4.size
  obtain ⟨a3, l3, c3, rfl⟩ := hN3'.slice
  obtain ⟨a4, l4, c4, rfl⟩ := hN4.slice
  obtain ⟨d0, d1, d2, z0, z1, z2⟩ : w4.cell? ⟨w.heap.size + 1, 0, none⟩ = some (.bool false) ∧ w4.cell? ⟨w.heap.size + 1, 1, none⟩ = some (.slice none 0 0) ∧ w4.cell? ⟨w.heap.size + 1, 2, none⟩ = some (.slice none 0 0) ∧
      w4.frozen? ⟨w.heap.size + 1, 0, none⟩ = false ∧ w4.frozen? ⟨w.heap.size + 1, 1, none⟩ = false ∧ w4.frozen? ⟨w.heap.size + 1, 2, none⟩ = false := by
    simp [World.cell?, World.frozen?, q4]
  go_wp2
  have hres := put3_block (a := .bool neg) (b := .slice a3 l3 c3) (c := .slice a4 l4 c4) q4
  have hk : ∀ k, k ≠ w.heap.size + 1 → (((w4.setCell ⟨w.heap.size + 1, 0, none⟩ (.bool neg)).setCell ⟨w.heap.size + 1, 1, none⟩ (.slice a3 l3 c3)).setCell ⟨w.heap.size + 1, 2, none⟩ (.slice a4 l4 c4)).heap[k]? = w4.heap[k]? := fun k hk => by
    rw [Below.heap_setCell _ _ _ _ hk, Below.heap_setCell _ _ _ _ hk, Below.heap_setCell _ _ _ _ hk]
  have hno : ∀ (i : Nat) (x : Int), (#[Value.bool false, .slice none 0 0, .slice none 0 0] : Array Value)[i]? ≠ some (.int .i64 x) := by
    intro i x
    rcases i with _ | _ | _ | i <;> simp
  refine bodyPost_ret (results_cell_row rfl _ _ (w.heap.size + 1) 128 _ _ _ rfl hres Tryz.underlying128 rfl (by kernel_rfl)) rfl ?_
  refine ⟨_, rfl, ⟨_, _, rfl, ?_, ?_⟩, ?_⟩
  · rw [setCell_size, setCell_size, setCell_size]
    exact hN3'.aside q4 hno hk
  · rw [setCell_size, setCell_size, setCell_size]
    exact hN4.aside q4 hno hk
  · refine hBw.trans ((hB4.mono (by omega)).trans ?_)
    exact (below_put _ _ _ _ _ (by omega)).trans ((below_put _ _ _ _ _ (by omega)).trans (below_put _ _ _ _ _ (by omega)))
end Go.Proofs.YtihaajnknnapmaaGreatDoor
end
section
namespace Go.Proofs.YtihaajnknnapmaaGreatDoor
open Go.RowKit Go.Big
theorem dec_lenM {v M : Nat} (hv : v < 65536 ^ M) (hM : M ≤ 1048576) : (dec v).length ≤ 16777217 := by
  unfold dec
  split
  · simp
  · have := digs_lenM hv hM
    simp; omega
def ratText (neg : Bool) (x y : Nat) : List Nat := (if neg then [45] else []) ++ (dec x ++ if y = 1 then [] else 114 :: dec y)
theorem add_str (A C : List Nat) (a c : ByteArray) (ha : a = strN A) (hc : c = strN C) (h : A.length + C.length ≤ 9223372036854775807) (w : World) : (Op.stringOp .add a c).run Tryz.prog w = .ok (.string (strN (A ++ C))) w := by
  subst ha; subst hc
  rw [run_string_add_sum w _ _ (by rw [strN_size, strN_size]; exact h), strN_append]
set_option maxRecDepth 100000 in
set_option maxHeartbeats 1000000 in
/-- Text -/
theorem rtext_calls (v : Value) (neg : Bool) (n x y P M : Nat) (hP : P = 65536 ^ M) (hM : M ≤ 1048576) (hM1 : 1 ≤ M) (hx : x < P) (hy : y < P) (w : World) (hn : n ≤ w.heap.size) (h : RatR n w v neg x y) :
    Calls Tryz.prog 43 #[v] w fun e w' => e = .returned (.string (strN (ratText neg x y))) ∧ Below w.heap.size w w' := by
  obtain ⟨r1, r2, rfl, h1, h2⟩ := h
  obtain ⟨a1, l1, c1, rfl⟩ := h1.slice
  obtain ⟨a2, l2, c2, rfl⟩ := h2.slice
  have lx := dec_lenM (hP ▸ hx) hM
  have ly := dec_lenM (hP ▸ hy) hM
  obtain ⟨wb, hwb⟩ : ∃ wb, w.alloc (Obj.cells #[.bool neg, .slice a1 l1 c1, .slice a2 l2 c2] 128) = wb := ⟨_, rfl⟩
  have b1 : Below w.heap.size w wb := hwb ▸ below_alloc _ _
  have q1 : wb.heap[w.heap.size]? = _ := hwb ▸ heap_alloc_new w (Obj.cells #[.bool neg, .slice a1 l1 c1, .slice a2 l2 c2] 128)
  have hsz : w.heap.size < wb.heap.size := by rw [← hwb, World.size_alloc]; omega
  have g1 := h1.below b1 hn
  have g2 := h2.below b1 hn
  have d1 := rdec_calls _ n x M (hP ▸ hx) hM wb (by omega) g1
  have d2 := fun w' (hb : Below wb.heap.size wb w') => rdec_calls _ n y M (hP ▸ hy) hM w' (by have := hb.size; omega) (g2.below hb (by omega))
  have d3 := fun w' (hb : Below wb.heap.size wb w') => risInt_calls neg _ _ n x y P M hP hM hM1 hy w' (by have := hb.size; omega) (g1.below hb (by omega)) (g2.below hb (by omega))
  have fc : ∀ w2, Below wb.heap.size wb w2 → w2.cell? ⟨w.heap.size, 0, none⟩ = some (.bool neg) ∧ w2.cell? ⟨w.heap.size, 1, none⟩ = some (.slice a1 l1 c1) ∧ w2.cell? ⟨w.heap.size, 2, none⟩ = some (.slice a2 l2 c2) := fun w2 hb => by
    have := (hb.block w.heap.size hsz).trans q1
    simp [World.cell?, this]
  obtain ⟨k0, k1, k2⟩ := fc wb (Below.refl _ _)
  have s1 : ∀ w, (Op.stringOp .add { data := #[45] } (strN (dec x))).run Tryz.prog w = .ok (.string (strN (45 :: dec x))) w := fun w => add_str [45] (dec x) { data := #[45] } _ rfl rfl (by simp; omega) w
  have s2 : ∀ w, (Op.stringOp .add { data := #[114] } (strN (dec y))).run Tryz.prog w = .ok (.string (strN (114 :: dec y))) w := fun w => add_str [114] (dec y) { data := #[114] } _ rfl rfl (by simp; omega) w
  have s3 : ∀ w, (Op.stringOp .add (strN (dec x)) (strN (114 :: dec y))).run Tryz.prog w = .ok (.string (strN (dec x ++ 114 :: dec y))) w := fun w => add_str (dec x) (114 :: dec y) _ _ rfl rfl (by simp; omega) w
  have s4 : ∀ w, (Op.stringOp .add (strN (45 :: dec x)) (strN (114 :: dec y))).run Tryz.prog w = .ok (.string (strN (45 :: (dec x ++ 114 :: dec y)))) w := fun w => add_str (45 :: dec x) (114 :: dec y) _ _ rfl rfl (by simp; omega) w
  unfold ratText
  generalize dec x = dx at *
  generalize dec y = dy at *
  clear q1 g1 g2 h1 h2 lx ly
  by_cases hy1 : y = 1
  · have hd : decide (y = 1) = true := decide_eq_true hy1
    rw [hd] at d3
    have Ay : Aside (y = 1) := hy1
    clear hd hy1
    cases neg
    · go_enter Tryz.func43, Tryz.ntmps43
      go_wp2_with first | (go_at_call 41; with_reducible refine d1.mono ?_; rintro e w1 ⟨rfl, hb1⟩; have p0 := (fc _ hb1).1; have p1 := (fc _ hb1).2.1; have p2 := (fc _ hb1).2.2) | (go_at_call 97; with_reducible refine (d3 _ hb1).mono ?_; rintro e w2 ⟨rfl, hb2⟩; have hbf := hb1.trans (hb2.mono hb1.size); have p5 := (fc _ hbf).2.2) | (go_at_call 41; with_reducible refine (d2 _ hbf).mono ?_; rintro e w3 ⟨rfl, hb3⟩; have hbe := hbf.trans (hb3.mono hbf.size))
      go_ret
      exact ⟨rfl, b1.trans (hbf.mono b1.size)⟩
    · go_enter Tryz.func43, Tryz.ntmps43
      go_wp2_with first | (go_at_call 41; with_reducible refine d1.mono ?_; rintro e w1 ⟨rfl, hb1⟩; have p0 := (fc _ hb1).1; have p1 := (fc _ hb1).2.1; have p2 := (fc _ hb1).2.2) | (go_at_call 97; with_reducible refine (d3 _ hb1).mono ?_; rintro e w2 ⟨rfl, hb2⟩; have hbf := hb1.trans (hb2.mono hb1.size); have p5 := (fc _ hbf).2.2) | (go_at_call 41; with_reducible refine (d2 _ hbf).mono ?_; rintro e w3 ⟨rfl, hb3⟩; have hbe := hbf.trans (hb3.mono hbf.size))
      go_ret
      exact ⟨rfl, b1.trans (hbf.mono b1.size)⟩
  · have hd : decide (y = 1) = false := decide_eq_false hy1
    rw [hd] at d3
    have Ay : Aside (¬ y = 1) := hy1
    clear hd hy1
    cases neg
    · go_enter Tryz.func43, Tryz.ntmps43
      go_wp2_with first | (go_at_call 41; with_reducible refine d1.mono ?_; rintro e w1 ⟨rfl, hb1⟩; have p0 := (fc _ hb1).1; have p1 := (fc _ hb1).2.1; have p2 := (fc _ hb1).2.2) | (go_at_call 97; with_reducible refine (d3 _ hb1).mono ?_; rintro e w2 ⟨rfl, hb2⟩; have hbf := hb1.trans (hb2.mono hb1.size); have p5 := (fc _ hbf).2.2) | (go_at_call 41; with_reducible refine (d2 _ hbf).mono ?_; rintro e w3 ⟨rfl, hb3⟩; have hbe := hbf.trans (hb3.mono hbf.size))
      go_ret
      exact ⟨rfl, b1.trans (hbe.mono b1.size)⟩
    · go_enter Tryz.func43, Tryz.ntmps43
      go_wp2_with first | (go_at_call 41; with_reducible refine d1.mono ?_; rintro e w1 ⟨rfl, hb1⟩; have p0 := (fc _ hb1).1; have p1 := (fc _ hb1).2.1; have p2 := (fc _ hb1).2.2) | (go_at_call 97; with_reducible refine (d3 _ hb1).mono ?_; rintro e w2 ⟨rfl, hb2⟩; have hbf := hb1.trans (hb2.mono hb1.size); have p5 := (fc _ hbf).2.2) | (go_at_call 41; with_reducible refine (d2 _ hbf).mono ?_; rintro e w3 ⟨rfl, hb3⟩; have hbe := hbf.trans (hb3.mono hbf.size))
      go_ret
      exact ⟨rfl, b1.trans (hbe.mono b1.size)⟩
end Go.Proofs.YtihaajnknnapmaaGreatDoor
end
section
namespace Go.Proofs.YtihaajnknnapmaaGreatDoor
open Go.RowKit Go.Big
theorem u64_and (x : Nat) (h : x < 18446744073709551616) : bits BinOp.and IntKind.u64 (x : Int) 65535 = ((x % 65536 : Nat) : Int) := by
  have h1 : (BitVec.ofInt 64 (x : Int)).toNat = x := by
    rw [BitVec.ofInt_natCast, BitVec.toNat_ofNat]; omega
  have h2 : (BitVec.ofInt 64 (65535 : Int)).toNat = 2 ^ 16 - 1 := by decide
  show IntKind.u64.wrap (((BitVec.ofInt 64 (x : Int)) &&& BitVec.ofInt 64 (65535 : Int)).toNat : Int) = _
  rw [BitVec.toNat_and, h1, h2, Nat.and_two_pow_sub_one_eq_mod]
  simp [IntKind.wrap, IntKind.bits, IntKind.signed]
  omega
structure OfI (n : Nat) (D : List Nat) (m : Nat) : Prop where
  sum : n = val 65536 D + 65536 ^ D.length * m
  dig : ∀ x ∈ D, x < 65536
  noz : m = 0 → NoZ D
theorem OfI.step {n m : Nat} {D : List Nat} (h : OfI n D m) (hm : m ≠ 0) : OfI n (D ++ [m % 65536]) (m / 65536) := by
  refine ⟨?_, fun x hx => ?_, fun h0 x hx => ?_⟩
  · rw [val_snoc, List.length_append, List.length_singleton, Nat.pow_succ, Nat.mul_assoc, Nat.add_assoc, ← Nat.mul_add, Nat.mod_add_div]
    exact h.sum
  · rcases List.mem_append.1 hx with hx | hx
    · exact h.dig x hx
    · simp at hx; omega
  · simp at hx; omega
theorem OfI.len {n m : Nat} {D : List Nat} (h : OfI n D m) (hm : m ≠ 0) (hn : n < 18446744073709551616) : D.length < 4 := by
  have h1 := h.sum
  apply Classical.byContradiction
  intro hl
  have h2 : 65536 ^ 4 ≤ 65536 ^ D.length := Nat.pow_le_pow_right (by decide) (by omega)
  have h3 : 65536 ^ D.length * 1 ≤ 65536 ^ D.length * m := Nat.mul_le_mul_left _ (by omega)
  have h4 : (65536 : Nat) ^ 4 = 18446744073709551616 := by decide
  omega
set_option maxRecDepth 100000 in
set_option maxHeartbeats 1000000 in
/-- OfInt -/
theorem rofInt_calls (n : Nat) (hn : n < 18446744073709551616) (w : World) :
    Calls Tryz.prog 42 #[.int .u64 n] w fun e w' => ∃ r, e = .returned r ∧ NatR w'.heap.size w' r n ∧ Below w.heap.size w w' := by
  go_enter Tryz.func42, Tryz.ntmps42
  go_wp2
  go_loopw [0, 3] (fun s0 s3 wr => ∃ (m : Nat) (D : List Nat), s0 = .int .u64 m ∧ m ≤ n ∧ OfI n D m ∧ IntRow w.heap.size wr s3 D ∧ Below w.heap.size w wr) (fun s0 _ _ => (intOf s0).toNat)
  case atStart => exact ⟨n, [], rfl, Nat.le_refl _, ⟨by simp [val], by simp, fun _ x hx => by simp at hx⟩, IntRow.nil _ _, Below.refl _ _⟩
  case round =>
    obtain ⟨m, D, rfl, hmn, hO, hR, hB⟩ := hrel
    by_cases hm : m = 0
    · subst hm
      have hs := hO.sum
      have hz := hO.noz rfl
      rw [Nat.mul_zero, Nat.add_zero] at hs
      obtain ⟨a, c, rfl, hc, hcm, hat⟩ := hR.at hO.dig
      have hfin : NatR wr.heap.size wr (.slice a D.length c) n := ⟨a, D, c, rfl, hc, hcm, hat, hz, hs.symm⟩
      clear hs hz hO hat
      go_wp2
      go_ret
      exact ⟨_, rfl, hfin, hB⟩
    · have hO' := hO.step hm
      have hlen := hO.len hm hn
      obtain ⟨p, hp⟩ : ∃ p, m % 65536 = p := ⟨_, rfl⟩
      obtain ⟨q, hq⟩ : ∃ q, m / 65536 = q := ⟨_, rfl⟩
      have ha := u64_and m (by omega)
      rw [hp] at ha hO'
      rw [hq] at hO'
      have hpw : IntKind.i64.wrap (p : Int) = (p : Int) := by rw [IntKind.wrap_i64]; omega
      have hq1 : (m : Int) / 65536 = (q : Int) := by omega
      have hm1 : (0 : Int) < (m : Int) := by omega
      have hm2 : 0 < m := by omega
      have hqm : q < m := by omega
      have ho : IntRow w.heap.size (wr.alloc (Obj.cells #[iv p] 3)) u3 D := hR.below (below_alloc _ _) (Nat.le_refl _)
      have hnw := new_cells wr [iv p] 3 (0, 0)
      have hsz := hB.size
      have hap : D.length + 1 ≤ 17592186044416 := by omega
      have hba : w.heap.size ≤ (wr.alloc (Obj.cells #[iv p] 3)).heap.size := by simp; omega
      have hBa : Below w.heap.size w (wr.alloc (Obj.cells #[iv p] 3)) := hB.alloc hsz _
      clear hp hq hO hm
      go_wp2_with (at_builtin; refine wpList_push _ rfl _ _ rfl w.heap.size _ D [p] 1 rfl rfl wr.heap.size 1 rfl hnw ho hap hba ?_; intro v' w3 hown' hgrow3)
      go_roundw
      case rel => exact ⟨q, D ++ [p], rfl, by omega, hO', hown', hBa.trans hgrow3⟩
      case measure => simp [intOf]; omega
end Go.Proofs.YtihaajnknnapmaaGreatDoor
end
section
namespace Go.Proofs.YtihaajnknnapmaaGreatDoor
open Go.RowKit Go.Big
set_option maxRecDepth 100000 in
set_option maxHeartbeats 1000000 in
/-- v -/
theorem rv_calls (k : Nat) (w : World) :
    Calls Tryz.prog 45 #[.int .i64 k] w fun e w' => e = .returned (.agg #[.int .i64 1, .int .i64 k, .string { data := #[] }, .bool false, .slice none 0 0, .slice none 0 0, .slice none 0 0]) ∧ Below w.heap.size w w' := by
  go_enter Tryz.func45, Tryz.ntmps45
  go_wp2
  refine bodyPost_ret (results_cell_row rfl _ _ w.heap.size 36 _ _ _ rfl (heap_alloc_new _ _) Tryz.underlying36 rfl (by kernel_rfl)) rfl ?_
  exact ⟨rfl, below_alloc _ _⟩
set_option maxRecDepth 100000 in
set_option maxHeartbeats 1000000 in
/-- label of a variable -/
theorem rlabelV_calls (k : Nat) (hk : k < 4611686018427387904) (nm : Value) (b : Value) (s1 s2 s3 : Value) (w : World) :
    Calls Tryz.prog 19 #[.agg #[.int .i64 1, .int .i64 k, nm, b, s1, s2, s3]] w fun e w' => e = .returned (.string (strN (118 :: dec k))) ∧ Below w.heap.size w w' := by
  have hwr : IntKind.u64.wrap (k : Int) = (k : Int) := by
    simp [IntKind.wrap, IntKind.bits, IntKind.signed]; omega
  have hk64 : k < 65536 ^ 4 := by
    have h4 : (65536 : Nat) ^ 4 = 18446744073709551616 := by decide
    omega
  have b1 := below_alloc w (Obj.cells #[.int .i64 1, .int .i64 k, nm, b, s1, s2, s3] 36)
  have d1 := rofInt_calls k (by omega) (w.alloc (Obj.cells #[.int .i64 1, .int .i64 k, nm, b, s1, s2, s3] 36))
  have d2 := fun w' r (h : NatR w'.heap.size w' r k) => rdec_calls r _ k 4 hk64 (by omega) w' (Nat.le_refl _) h
  have lk := dec_lenM hk64 (by omega)
  have s1' : ∀ w, (Op.stringOp .add { data := #[118] } (strN (dec k))).run Tryz.prog w = .ok (.string (strN (118 :: dec k))) w := fun w => add_str [118] (dec k) { data := #[118] } _ rfl rfl (by simp; omega) w
  generalize dec k = dk at *
  clear hk64
  go_enter Tryz.func19, Tryz.ntmps19
  go_wp2_with first | (go_at_call 42; with_reducible refine d1.mono ?_; rintro e w1 ⟨r, rfl, hN, hb1⟩) | (go_at_call 41; with_reducible refine (d2 _ _ hN).mono ?_; rintro e w2 ⟨rfl, hb2⟩)
  go_ret
  have b2 := b1.trans (hb1.mono b1.size)
  exact ⟨rfl, b2.trans (hb2.mono b2.size)⟩
set_option maxRecDepth 100000 in
set_option maxHeartbeats 1000000 in
/-- label of a number -/
theorem rlabelN_calls (k : Value) (nm : Value) (s3 : Value) (neg : Bool) (a1 a2 : Option Addr) (len1 len2 cap1 cap2 n : Nat) (A C : List Nat) (hl1 : A.length = len1) (hl2 : C.length = len2) (hb1 : len1 ≤ 1000) (hb2 : len2 ≤ 1000) (w : World) (hn : n ≤ w.heap.size) (h1 : LimAt n w a1 A) (h2 : LimAt n w a2 C) :
    Calls Tryz.prog 19 #[.agg #[.int .i64 2, k, nm, .bool neg, .slice a1 len1 cap1, .slice a2 len2 cap2, s3]] w fun e w' => e = .returned (.string (strN (110 :: ratText neg (val 4294967296 A) (val 4294967296 C)))) ∧ Below w.heap.size w w' := by
  obtain ⟨M, hMe⟩ : ∃ M, M = 2 * (len1 + len2) + 1 := ⟨_, rfl⟩
  obtain ⟨P, hP⟩ : ∃ P, P = 65536 ^ M := ⟨_, rfl⟩
  have hA : val 4294967296 A < P := by
    rw [← twos_val A, hP]
    refine Nat.lt_of_lt_of_le (val_lt (twos_lt h1.1)) (Nat.pow_le_pow_right (by decide) ?_)
    rw [twos_len]; omega
  have hC : val 4294967296 C < P := by
    rw [← twos_val C, hP]
    refine Nat.lt_of_lt_of_le (val_lt (twos_lt h2.1)) (Nat.pow_le_pow_right (by decide) ?_)
    rw [twos_len]; omega
  have b1 := below_alloc w (Obj.cells #[.int .i64 2, k, nm, .bool neg, .slice a1 len1 cap1, .slice a2 len2 cap2, s3] 36)
  have d1 := rof_calls neg a1 a2 len1 len2 cap1 cap2 n A C hl1 hl2 (by omega) (by omega) (w.alloc (Obj.cells #[.int .i64 2, k, nm, .bool neg, .slice a1 len1 cap1, .slice a2 len2 cap2, s3] 36)) (by simp; omega) (h1.below b1 hn) (h2.below b1 hn)
  generalize val 4294967296 A = x at *
  generalize val 4294967296 C = y at *
  have hM : M ≤ 1048576 := by omega
  have hM1 : 1 ≤ M := by omega
  have d2 := fun w' r (h : RatR w'.heap.size w' r neg x y) => rtext_calls r neg _ x y P M hP hM hM1 hA hC w' (Nat.le_refl _) h
  have lx := dec_lenM (hP ▸ hA) hM
  have ly := dec_lenM (hP ▸ hC) hM
  have hl : (ratText neg x y).length ≤ 100000000 := by
    unfold ratText
    rw [List.length_append, List.length_append]
    have e1 : (if neg = true then [45] else ([] : List Nat)).length ≤ 1 := by split <;> simp
    have e2 : (if y = 1 then ([] : List Nat) else 114 :: dec y).length ≤ 16777218 := by split <;> simp; omega
    omega
  have s1' : ∀ w, (Op.stringOp .add { data := #[110] } (strN (ratText neg x y))).run Tryz.prog w = .ok (.string (strN (110 :: ratText neg x y))) w := fun w => add_str [110] (ratText neg x y) { data := #[110] } _ rfl rfl (by simp; omega) w
  generalize ratText neg x y = tx at *
  clear h1 h2 hA hC lx ly hMe hP
  go_enter Tryz.func19, Tryz.ntmps19
  go_wp2_with first | (go_at_call 44; with_reducible refine d1.mono ?_; rintro e w1 ⟨r, rfl, hN, hb1⟩) | (go_at_call 43; with_reducible refine (d2 _ _ hN).mono ?_; rintro e w2 ⟨rfl, hb2⟩)
  go_ret
  have b2 := b1.trans (hb1.mono b1.size)
  exact ⟨rfl, b2.trans (hb2.mono b2.size)⟩
end Go.Proofs.YtihaajnknnapmaaGreatDoor
end
section
namespace Go.Proofs.YtihaajnknnapmaaGreatDoor
open Go.RowKit Go.Big
theorem strN_tail (x : Nat) (L : List Nat) : (strN (x :: L)).extract 1 (strN (x :: L)).size = strN L := by
  apply byteArray_ext'
  rw [ByteArray.data_extract, Array.toList_extract, strN_data, strN_data, strN_size]
  simp [List.extract]
  rw [List.take_of_length_le (by simp)]
set_option maxRecDepth 100000 in
set_option maxHeartbeats 1000000 in
/-- text -/
theorem rtxt_calls (k : Nat) (hk : k < 4611686018427387904) (w : World) :
    Calls Tryz.prog 20 #[.int .i64 k] w fun e w' => e = .returned (.string (strN (dec k))) ∧ Below w.heap.size w w' := by
  have d1 := rv_calls k w
  have d2 := fun w' => rlabelV_calls k hk (.string { data := #[] }) (.bool false) (.slice none 0 0) (.slice none 0 0) (.slice none 0 0) w'
  have hsz : ¬ ((strN (118 :: dec k)).size : Int) < 1 := by rw [strN_size]; simp; omega
  have hex := strN_tail 118 (dec k)
  generalize dec k = dk at *
  go_enter Tryz.func20, Tryz.ntmps20
  go_wp2_with first | (go_at_call 45; with_reducible refine d1.mono ?_; rintro e w1 ⟨rfl, hb1⟩) | (go_at_call 19; with_reducible refine (d2 _).mono ?_; rintro e w2 ⟨rfl, hb2⟩)
  go_ret
  exact ⟨rfl, hb1.trans (hb2.mono hb1.size)⟩
theorem strCells_strN {L : List Nat} (h : ∀ x ∈ L, x < 256) : Lib.strCells (strN L) = L.map bv := by
  unfold Lib.strCells
  rw [strN_data, List.map_map]
  refine List.map_congr_left fun x hx => ?_
  simp [bv, Nat.mod_eq_of_lt (h x hx)]
/-- the append of a string onto a row of the call's own -/
theorem wpList_pushS {ops : Array Oper} {rest : List Oper} {o : Oper} {a : Act} {Q : Exit → Act → World → Prop} (w : World) (hgd : o.guard = none) (s x : Operand)
    (ho : o.op = .call { callee := .builtin .append, args := #[s, x], argTypes := #[46, 9] }) (base : Nat) (sv : Value) (D xs : List Nat) (hxs : ∀ x ∈ xs, x < 256) (hs : a.eval s = sv) (hx : a.eval x = .string (strN xs))
    (hR : BytRow base w sv D) (hlen : D.length + xs.length ≤ 17592186044416) (hbase : base ≤ w.heap.size)
    (h : ∀ v' w', BytRow base w' v' (D ++ xs) → Below base w w' → wpList Tryz.prog ops Q rest (a.put o.dst v') w') : wpList Tryz.prog ops Q (o :: rest) a w := by
  obtain ⟨i0, hi0, hz0, hz1, hz2⟩ := info_parts inf5
  refine Lib.wpList_append_own_string w hgd s x 46 9 ho base 5 i0 Tryz.underlying46 Tryz.underlying9 hi0 hz0 hz1 hz2 sv D.length (D.map bv) hs hR (strN xs) hx (by rw [strN_size]; unfold maxLen; omega) (by rw [strN_size]; omega) hbase ?_
  intro v' w' h1 h2 h3
  refine h v' w' ?_ ((Below.refl _ w).grown h2 hbase fun k hk => (BytRow.own hR k hk).1)
  unfold BytRow
  rw [List.length_append, List.map_append, ← strCells_strN hxs, ← strN_size xs]; exact h1
end Go.Proofs.YtihaajnknnapmaaGreatDoor
end
