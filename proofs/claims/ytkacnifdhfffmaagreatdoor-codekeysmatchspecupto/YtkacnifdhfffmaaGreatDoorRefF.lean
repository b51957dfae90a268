/-
  A part of the proof of the card of CodeKeysMatchSpec (second form): lemmas that the text Card uses. No condition of its own.
-/
import Derived.Test.YtkacnifdhfffmaaGreatDoorRefE
set_option linter.all false
set_option linter.unusedVariables false
set_option linter.unusedSimpArgs false
section
namespace Go.Proofs.YtkacnifdhfffmaaGreatDoor
open Go.RowKit Go.Big
attribute [local go_sem] Heavy.uponW
def zeroKey : Value := .agg #[.int .i64 0, .bool false, .slice none 0 0, .slice none 0 0, .string { data := #[] }, .int .i64 0]
set_option maxRecDepth 100000 in
set_option maxHeartbeats 1000000 in
/-- the program's KeyOf at a variable -/
theorem keyOfV_calls (v nm b s1 s2 s3 : Value) (w : World) :
    Calls Tryz.prog 6 #[.agg #[.int .i64 1, v, nm, b, s1, s2, s3]] w fun e w' => e = .returned zeroKey ∧ Below w.heap.size w w' := by
  go_enter Tryz.func6, Tryz.ntmps6
  go_wp2
  refine bodyPost_ret (results_cell_row rfl _ _ (w.heap.size + 1) 32 _ _ _ rfl (two_blocks w _ _).2.2.1 Tryz.underlying32 rfl (by kernel_rfl)) rfl ?_
  exact ⟨rfl, (two_blocks w _ _).1⟩
set_option maxRecDepth 100000 in
set_option maxHeartbeats 1000000 in
/-- the reference's KeyOf at a variable -/
theorem rkeyOfV_calls (v nm b s1 s2 s3 : Value) (w : World) :
    Calls Tryz.prog 7 #[.agg #[.int .i64 1, v, nm, b, s1, s2, s3]] w fun e w' => e = .returned zeroKey ∧ Below w.heap.size w w' := by
  go_enter Tryz.func7, Tryz.ntmps7
  go_wp2
  refine bodyPost_ret (results_cell_row rfl _ _ (w.heap.size + 1) 32 _ _ _ rfl (two_blocks w _ _).2.2.1 Tryz.underlying32 rfl (by kernel_rfl)) rfl ?_
  exact ⟨rfl, (two_blocks w _ _).1⟩
set_option maxRecDepth 100000 in
set_option maxHeartbeats 1000000 in
/-- the reference's KeyOf elsewhere -/
theorem rkeyOf_calls (k : Int) (hk : k ≠ 1) (v : Value) (nm : ByteArray) (g : Bool) (a1 a2 a : Option Addr) (l1 c1 l2 c2 l c : Nat) (w : World) :
    Calls Tryz.prog 7 #[.agg #[.int .i64 k, v, .string nm, .bool g, .slice a1 l1 c1, .slice a2 l2 c2, .slice a l c]] w fun e w' => e = .returned (.agg #[.int .i64 k, .bool g, .slice a1 l1 c1, .slice a2 l2 c2, .string nm, .int .i64 l]) ∧ Below w.heap.size w w' := by
  have hkB : (k == 1) = false := by simpa using hk
  clear hk
  go_enter Tryz.func7, Tryz.ntmps7
  go_wp2
  refine bodyPost_ret (results_cell_row rfl _ _ (w.heap.size + 1) 32 _ _ _ rfl (two_blocks w _ _).2.2.1 Tryz.underlying32 rfl (by kernel_rfl)) rfl ?_
  exact ⟨rfl, (two_blocks w _ _).1⟩
theorem three_blocks (w : World) (o1 o2 o3 : Obj) : Below w.heap.size w (((w.alloc o1).alloc o2).alloc o3) ∧ (((w.alloc o1).alloc o2).alloc o3).heap[w.heap.size]? = some o1 ∧ (((w.alloc o1).alloc o2).alloc o3).heap[w.heap.size + 1]? = some o2 ∧ (((w.alloc o1).alloc o2).alloc o3).heap[w.heap.size + 1 + 1]? = some o3 ∧ w.heap.size + 3 ≤ (((w.alloc o1).alloc o2).alloc o3).heap.size := by
  obtain ⟨b, q1, q2, hs⟩ := two_blocks w o1 o2
  have b3 := below_alloc ((w.alloc o1).alloc o2) o3
  have q3 := heap_alloc_new ((w.alloc o1).alloc o2) o3
  have e : ((w.alloc o1).alloc o2).heap.size = w.heap.size + 1 + 1 := by simp
  rw [e] at q3 b3
  exact ⟨b.trans (b3.mono (by omega)), (b3.block w.heap.size (by omega)).trans q1, (b3.block (w.heap.size + 1) (by omega)).trans q2, q3, by simp⟩
theorem LimAt.aside {n g : Nat} {w w' : World} {a : Option Addr} {L : List Nat} {cs : Array Value} {e : TypeId} {fr : Nat × Nat} (h : LimAt n w a L) (hg : w.heap[g]? = some (.cells cs e fr)) (hno : ∀ (i : Nat) (x : Int), cs[i]? ≠ some (.int .u32 x)) (hk : ∀ k, k ≠ g → w'.heap[k]? = w.heap[k]?) : LimAt n w' a L := by
  obtain ⟨h4, h4'⟩ := h
  refine ⟨h4, fun hne => ?_⟩
  obtain ⟨b, off, e1, hb, hc⟩ := h4' hne
  refine ⟨b, off, e1, hb, fun j x hx => ?_⟩
  have hcx := hc j x hx
  have hbg : b ≠ g := by
    rintro rfl
    simp only [World.cell?, hg] at hcx
    exact hno _ _ hcx
  simp only [World.cell?, hk b hbg] at hcx ⊢
  exact hcx
theorem LimAt.up {n m : Nat} {w : World} {a : Option Addr} {L : List Nat} (h : LimAt n w a L) (hm : n ≤ m) : LimAt m w a L := by
  refine ⟨h.1, fun hne => ?_⟩
  obtain ⟨b, off, e, hbn, hc⟩ := h.2 hne
  exact ⟨b, off, e, by omega, hc⟩
theorem put6_block {w : World} {k : Nat} {x0 x1 x2 x3 x4 x5 a b c d f h' : Value} {e : TypeId} {fr : Nat × Nat} (h : w.heap[k]? = some (.cells #[x0, x1, x2, x3, x4, x5] e fr)) :
    ((((((w.setCell ⟨k, 0, none⟩ a).setCell ⟨k, 1, none⟩ b).setCell ⟨k, 2, none⟩ c).setCell ⟨k, 3, none⟩ d).setCell ⟨k, 4, none⟩ f).setCell ⟨k, 5, none⟩ h').heap[k]? = some (.cells #[a, b, c, d, f, h'] e fr) := by
  have h1 := setCell_block (i := 0) (v := a) h k
  rw [if_pos rfl] at h1
  have h2 := setCell_block (i := 1) (v := b) h1 k
  rw [if_pos rfl] at h2
  have h3 := setCell_block (i := 2) (v := c) h2 k
  rw [if_pos rfl] at h3
  have h4 := setCell_block (i := 3) (v := d) h3 k
  rw [if_pos rfl] at h4
  have h5 := setCell_block (i := 4) (v := f) h4 k
  rw [if_pos rfl] at h5
  have h6 := setCell_block (i := 5) (v := h') h5 k
  rw [if_pos rfl] at h6
  exact h6
theorem put2_block {w : World} {k : Nat} {x y z b c : Value} {e : TypeId} {fr : Nat × Nat} (h : w.heap[k]? = some (.cells #[x, y, z] e fr)) : ((w.setCell ⟨k, 1, none⟩ b).setCell ⟨k, 2, none⟩ c).heap[k]? = some (.cells #[x, b, c] e fr) := by
  have h2 := setCell_block (i := 1) (v := b) h k
  rw [if_pos rfl] at h2
  have h3 := setCell_block (i := 2) (v := c) h2 k
  rw [if_pos rfl] at h3
  exact h3
set_option maxRecDepth 100000 in
set_option maxHeartbeats 2000000 in
/-- the program's KeyOf elsewhere -/
theorem keyOf_calls (k : Int) (hk : k ≠ 1) (v : Value) (nm : ByteArray) (g : Bool) (s1 s2 : Value) (A C : List Nat) (n : Nat) (hA : A.length ≤ 1048576) (hC : C.length ≤ 1048576) (a : Option Addr) (l c : Nat) (w : World) (hn : n ≤ w.heap.size) (h : NumAt n w g s1 s2 A C) :
    Calls Tryz.prog 6 #[.agg #[.int .i64 k, v, .string nm, .bool g, s1, s2, .slice a l c]] w fun e w' => ∃ t1 t2, e = .returned (.agg #[.int .i64 k, .bool g, t1, t2, .string nm, .int .i64 l]) ∧ NumAt w'.heap.size w' g t1 t2 A C ∧ Below w.heap.size w w' := by
  have hkB : (k == 1) = false := by simpa using hk
  clear hk
  obtain ⟨⟨a1, c1, rfl, k1⟩, ⟨a2, c2, rfl, k2⟩⟩ := h
  obtain ⟨l1, hl1⟩ : ∃ l1, A.length = l1 := ⟨_, rfl⟩
  obtain ⟨l2, hl2⟩ : ∃ l2, C.length = l2 := ⟨_, rfl⟩
  rw [hl1, hl2]
  obtain ⟨hBw, q1, q2, q3, hsz⟩ := three_blocks w (Obj.cells #[.int .i64 k, v, .string nm, .bool g, .slice a1 l1 c1, .slice a2 l2 c2, .slice a l c] 27) (Obj.cells #[.int .i64 0, .bool false, .slice none 0 0, .slice none 0 0, .string { data := #[] }, .int .i64 0] 32) (Obj.cells #[.bool g, .slice a1 l1 c1, .slice a2 l2 c2] 24)
  go_enter Tryz.func6, Tryz.ntmps6
  go_upto_region 4 with fail
  generalize ((w.alloc (Obj.cells #[.int .i64 k, v, .string nm, .bool g, .slice a1 l1 c1, .slice a2 l2 c2, .slice a l c] 27)).alloc (Obj.cells #[.int .i64 0, .bool false, .slice none 0 0, .slice none 0 0, .string { data := #[] }, .int .i64 0] 32)).alloc (Obj.cells #[.bool g, .slice a1 l1 c1, .slice a2 l2 c2] 24) = wb at *
  have i1 := k1.below hBw hn
  have i2 := k2.below hBw hn
  clear k1 k2
  go_cut [] from 10 to 17 (fun wx => ∃ t1 t2, wx.heap[w.heap.size]? = some (.cells #[.int .i64 k, v, .string nm, .bool g, .slice a1 l1 c1, .slice a2 l2 c2, .slice a l c] 27 (0, 0)) ∧ wx.heap[w.heap.size + 1]? = some (.cells #[.int .i64 0, .bool false, .slice none 0 0, .slice none 0 0, .string { data := #[] }, .int .i64 0] 32 (0, 0)) ∧ wx.heap[w.heap.size + 1 + 1]? = some (.cells #[.bool g, t1, t2] 24 (0, 0)) ∧ NumAt wx.heap.size wx g t1 t2 A C ∧ Below w.heap.size w wx)
  case first =>
    have fc : ∀ w2, Below wb.heap.size wb w2 → w2.cell? ⟨w.heap.size + 1 + 1, 1, none⟩ = some (.slice a1 l1 c1) ∧ w2.cell? ⟨w.heap.size + 1 + 1, 2, none⟩ = some (.slice a2 l2 c2) := fun w2 hb => by
      have := (hb.block (w.heap.size + 1 + 1) (by omega)).trans q3
      simp [World.cell?, this]
    have hBd : Below wb.heap.size wb { wb with drawn := wb.drawn + 1 } := ⟨rfl, rfl, rfl, Nat.le_refl _, fun _ _ => rfl⟩
    have n1 := fun w' (hb : Below wb.heap.size wb w') => rclone_calls (.slice a1 l1 c1) n A hA w' (by have := hb.size; have := hBw.size; omega) ⟨a1, c1, by rw [hl1], i1.below hb (by have := hBw.size; omega)⟩
    have n2 := fun w' (hb : Below wb.heap.size wb w') => rclone_calls (.slice a2 l2 c2) n C hC w' (by have := hb.size; have := hBw.size; omega) ⟨a2, c2, by rw [hl2], i2.below hb (by have := hBw.size; omega)⟩
    refine Heavy.region_plan (fun w' => Below wb.heap.size wb w') 7 (Heavy.lights [0, 1, 3, 4] (.one 2 (.light 6 (.one 5 .done)))) (by kernel_rfl) (by kernel_rfl) hBd ?_
    simp only [Heavy.lights, List.take_succ_cons, List.take_zero, List.drop_succ_cons, List.drop_zero]
    iterate 4 (apply Heavy.light_n; (exact rfl); (exact rfl); (intro wr2 hw; have x0 := (fc wr2 hw).1; have x1 := (fc wr2 hw).2; go_simp; exact rfl))
    apply Heavy.one_n
    · exact rfl
    · exact rfl
    go_simp
    refine (n1 _ hBd).mono ?_
    rintro e w3 ⟨t1, rfl, ⟨b1, d1, rfl, hN3⟩, hb3⟩
    have hB3 : Below wb.heap.size wb w3 := hBd.trans hb3
    refine ⟨_, rfl, hB3, ?_⟩
    apply Heavy.light_n
    · exact rfl
    · exact rfl
    · intro wr2 hw
      go_simp
      exact rfl
    apply Heavy.one_n
    · exact rfl
    · exact rfl
    go_simp
    refine (n2 _ hB3).mono ?_
    rintro e w4 ⟨t2, rfl, ⟨b2, d2, rfl, hN4⟩, hb4⟩
    have hB4 := hB3.trans (hb4.mono hB3.size)
    refine ⟨_, rfl, hB4, ?_⟩
    apply Heavy.plan_end
    show wpList _ _ _ _ _ _
    have r1 := (hB4.block w.heap.size (by omega)).trans q1
    have r2 := (hB4.block (w.heap.size + 1) (by omega)).trans q2
    have r3 := (hB4.block (w.heap.size + 1 + 1) (by omega)).trans q3
    have hN3' := (hN3.below hb4 (Nat.le_refl _)).up hb4.size
    obtain ⟨d1', d2', z1, z2⟩ : w4.cell? ⟨w.heap.size + 1 + 1, 1, none⟩ = some (.slice a1 l1 c1) ∧ w4.cell? ⟨w.heap.size + 1 + 1, 2, none⟩ = some (.slice a2 l2 c2) ∧
        w4.frozen? ⟨w.heap.size + 1 + 1, 1, none⟩ = false ∧ w4.frozen? ⟨w.heap.size + 1 + 1, 2, none⟩ = false := by
      simp [World.cell?, World.frozen?, r3]
    go_wp2
    go_meet
    have hk : ∀ j, j ≠ w.heap.size + 1 + 1 → ((w4.setCell ⟨w.heap.size + 1 + 1, 1, none⟩ (.slice b1 l1 d1)).setCell ⟨w.heap.size + 1 + 1, 2, none⟩ (.slice b2 l2 d2)).heap[j]? = w4.heap[j]? := fun j hj => by
      rw [Below.heap_setCell _ _ _ _ hj, Below.heap_setCell _ _ _ _ hj]
    have hno : ∀ (i : Nat) (x : Int), (#[Value.bool g, .slice a1 l1 c1, .slice a2 l2 c2] : Array Value)[i]? ≠ some (.int .u32 x) := by
      intro i x
      rcases i with _ | _ | _ | i <;> simp
    refine ⟨.slice b1 l1 d1, .slice b2 l2 d2, ?_, ?_, put2_block r3, ⟨⟨_, _, by rw [hl1], ?_⟩, ⟨_, _, by rw [hl2], ?_⟩⟩, ?_⟩
    · rw [hk _ (by omega)]; exact r1
    · rw [hk _ (by omega)]; exact r2
    · rw [setCell_size, setCell_size]; exact hN3'.aside r3 hno hk
    · rw [setCell_size, setCell_size]; exact hN4.aside r3 hno hk
    · refine hBw.trans ((hB4.mono hBw.size).trans ?_)
      exact (below_put _ _ _ _ _ (by omega)).trans (below_put _ _ _ _ _ (by omega))
  case rest =>
    obtain ⟨t1, t2, r1, r2, r3, hN, hB⟩ := hcut
    obtain ⟨⟨b1, d1, rfl, hN1⟩, ⟨b2, d2, rfl, hN2⟩⟩ := hN
    rw [hl1, hl2] at r3
    obtain ⟨x0, x1, x2, x3, x4, x5, x6⟩ := cells7 r1
    obtain ⟨y0, y1, y2, y3, y4, y5, z0, z1, z2, z3, z4, z5⟩ : wc.cell? ⟨w.heap.size + 1, 0, none⟩ = some (.int .i64 0) ∧ wc.cell? ⟨w.heap.size + 1, 1, none⟩ = some (.bool false) ∧ wc.cell? ⟨w.heap.size + 1, 2, none⟩ = some (.slice none 0 0) ∧ wc.cell? ⟨w.heap.size + 1, 3, none⟩ = some (.slice none 0 0) ∧ wc.cell? ⟨w.heap.size + 1, 4, none⟩ = some (.string { data := #[] }) ∧ wc.cell? ⟨w.heap.size + 1, 5, none⟩ = some (.int .i64 0) ∧
        wc.frozen? ⟨w.heap.size + 1, 0, none⟩ = false ∧ wc.frozen? ⟨w.heap.size + 1, 1, none⟩ = false ∧ wc.frozen? ⟨w.heap.size + 1, 2, none⟩ = false ∧ wc.frozen? ⟨w.heap.size + 1, 3, none⟩ = false ∧ wc.frozen? ⟨w.heap.size + 1, 4, none⟩ = false ∧ wc.frozen? ⟨w.heap.size + 1, 5, none⟩ = false := by
      simp [World.cell?, World.frozen?, r2]
    obtain ⟨v0, v1, v2⟩ : wc.cell? ⟨w.heap.size + 1 + 1, 0, none⟩ = some (.bool g) ∧ wc.cell? ⟨w.heap.size + 1 + 1, 1, none⟩ = some (.slice b1 l1 d1) ∧ wc.cell? ⟨w.heap.size + 1 + 1, 2, none⟩ = some (.slice b2 l2 d2) := by
      simp [World.cell?, r3]
    go_wp2
    have hres := put6_block (a := .int .i64 k) (b := .bool g) (c := .slice b1 l1 d1) (d := .slice b2 l2 d2) (f := .string nm) (h' := .int .i64 l) r2
    refine bodyPost_ret (results_cell_row rfl _ _ (w.heap.size + 1) 32 _ _ _ rfl hres Tryz.underlying32 rfl (by kernel_rfl)) rfl ?_
    have hk : ∀ j, j ≠ w.heap.size + 1 → ((((((wc.setCell ⟨w.heap.size + 1, 0, none⟩ (.int .i64 k)).setCell ⟨w.heap.size + 1, 1, none⟩ (.bool g)).setCell ⟨w.heap.size + 1, 2, none⟩ (.slice b1 l1 d1)).setCell ⟨w.heap.size + 1, 3, none⟩ (.slice b2 l2 d2)).setCell ⟨w.heap.size + 1, 4, none⟩ (.string nm)).setCell ⟨w.heap.size + 1, 5, none⟩ (.int .i64 l)).heap[j]? = wc.heap[j]? := fun j hj => by
      rw [Below.heap_setCell _ _ _ _ hj, Below.heap_setCell _ _ _ _ hj, Below.heap_setCell _ _ _ _ hj, Below.heap_setCell _ _ _ _ hj, Below.heap_setCell _ _ _ _ hj, Below.heap_setCell _ _ _ _ hj]
    have hno : ∀ (i : Nat) (x : Int), (#[Value.int .i64 0, .bool false, .slice none 0 0, .slice none 0 0, .string { data := #[] }, .int .i64 0] : Array Value)[i]? ≠ some (.int .u32 x) := by
      intro i x
      rcases i with _ | _ | _ | _ | _ | _ | i <;> simp
    refine ⟨_, _, rfl, ⟨⟨b1, d1, by rw [hl1], ?_⟩, ⟨b2, d2, by rw [hl2], ?_⟩⟩, ?_⟩
    · simp only [setCell_size]; exact hN1.aside r2 hno hk
    · simp only [setCell_size]; exact hN2.aside r2 hno hk
    · refine hB.trans ?_
      exact (below_put _ _ _ _ _ (by omega)).trans ((below_put _ _ _ _ _ (by omega)).trans ((below_put _ _ _ _ _ (by omega)).trans ((below_put _ _ _ _ _ (by omega)).trans ((below_put _ _ _ _ _ (by omega)).trans (below_put _ _ _ _ _ (by omega))))))
end Go.Proofs.YtkacnifdhfffmaaGreatDoor
end
section
namespace Go.Proofs.YtkacnifdhfffmaaGreatDoor
open Go.RowKit Go.Big
theorem cells6 {w : World} {g : Nat} {v0 v1 v2 v3 v4 v5 : Value} {e : TypeId} {fr : Nat × Nat} (h : w.heap[g]? = some (.cells #[v0, v1, v2, v3, v4, v5] e fr)) :
    w.cell? ⟨g, 0, none⟩ = some v0 ∧ w.cell? ⟨g, 1, none⟩ = some v1 ∧ w.cell? ⟨g, 2, none⟩ = some v2 ∧ w.cell? ⟨g, 3, none⟩ = some v3 ∧ w.cell? ⟨g, 4, none⟩ = some v4 ∧ w.cell? ⟨g, 5, none⟩ = some v5 := by
  simp [World.cell?, h]
def fitsB (kk tk : Int) (num : Bool) (nm1 nm2 : ByteArray) (n1 l : Nat) : Bool :=
  kk == 0 || (tk == 1 || (kk == tk && (num && ((nm1.toList == nm2.toList) && ((n1 : Int) == (l : Int))))))
set_option maxRecDepth 100000 in
set_option maxHeartbeats 2000000 in
/-- the program's Fits -/
theorem fits_calls (kk tk : Int) (g1 g2 : Bool) (s1 s2 t1 t2 v : Value) (nm1 nm2 : ByteArray) (n1 l c : Nat) (a : Option Addr) (A1 C1 A2 C2 : List Nat) (n : Nat) (hA1 : A1.length ≤ 1048576) (hC1 : C1.length ≤ 1048576) (w : World) (hn : n ≤ w.heap.size) (h1 : NumAt n w g1 s1 s2 A1 C1) (h2 : NumAt n w g2 t1 t2 A2 C2) :
    Calls Tryz.prog 9 #[.agg #[.int .i64 kk, .bool g1, s1, s2, .string nm1, .int .i64 n1], .agg #[.int .i64 tk, v, .string nm2, .bool g2, t1, t2, .slice a l c]] w
      fun e w' => e = .returned (.bool (fitsB kk tk (decide (g1 = g2 ∧ A1 = A2 ∧ C1 = C2)) nm1 nm2 n1 l)) ∧ Below w.heap.size w w' := by
  obtain ⟨hBw, q1, q2, hsz⟩ := two_blocks w (Obj.cells #[.int .i64 kk, .bool g1, s1, s2, .string nm1, .int .i64 n1] 32) (Obj.cells #[.int .i64 tk, v, .string nm2, .bool g2, t1, t2, .slice a l c] 27)
  have d1 := rSameNumber_calls g1 g2 s1 s2 t1 t2 A1 C1 A2 C2 n hA1 hC1 _ (by omega) (h1.below hBw hn) (h2.below hBw hn)
  have fc : ∀ w2, Below ((w.alloc (Obj.cells #[.int .i64 kk, .bool g1, s1, s2, .string nm1, .int .i64 n1] 32)).alloc (Obj.cells #[.int .i64 tk, v, .string nm2, .bool g2, t1, t2, .slice a l c] 27)).heap.size ((w.alloc (Obj.cells #[.int .i64 kk, .bool g1, s1, s2, .string nm1, .int .i64 n1] 32)).alloc (Obj.cells #[.int .i64 tk, v, .string nm2, .bool g2, t1, t2, .slice a l c] 27)) w2 →
      w2.cell? ⟨w.heap.size, 4, none⟩ = some (.string nm1) ∧ w2.cell? ⟨w.heap.size, 5, none⟩ = some (.int .i64 n1) ∧ w2.cell? ⟨w.heap.size + 1, 2, none⟩ = some (.string nm2) ∧ w2.cell? ⟨w.heap.size + 1, 6, none⟩ = some (.slice a l c) := fun w2 hb => by
    have r1 := (hb.block w.heap.size (by omega)).trans q1
    have r2 := (hb.block (w.heap.size + 1) (by omega)).trans q2
    simp [World.cell?, r1, r2]
  obtain ⟨d, hd⟩ : ∃ d, decide (g1 = g2 ∧ A1 = A2 ∧ C1 = C2) = d := ⟨_, rfl⟩
  obtain ⟨p, hp⟩ : ∃ p, (nm1.toList == nm2.toList) = p := ⟨_, rfl⟩
  obtain ⟨q, hq⟩ : ∃ q, ((n1 : Int) == (l : Int)) = q := ⟨_, rfl⟩
  rw [hd] at d1 ⊢
  obtain ⟨F, hF⟩ : ∃ F, fitsB kk tk d nm1 nm2 n1 l = F := ⟨_, rfl⟩
  rw [hF]
  unfold fitsB at hF
  rw [hp, hq] at hF
  clear hd q1 q2 h1 h2
  by_cases hk0 : kk = 0
  · have hF1 : F = true := by rw [← hF, hk0]; rfl
    subst hF1; subst hk0
    clear hF
    go_enter Tryz.func9, Tryz.ntmps9
    go_wp2
    go_ret
    exact ⟨rfl, hBw⟩
  have hkB : (kk == 0) = false := by simpa using hk0
  by_cases ht1 : tk = 1
  · have hF1 : F = true := by rw [← hF, ht1]; simp
    subst hF1; subst ht1
    clear hF hk0
    go_enter Tryz.func9, Tryz.ntmps9
    go_wp2
    go_ret
    exact ⟨rfl, hBw⟩
  have htB : (tk == 1) = false := by simpa using ht1
  rw [hkB, htB, Bool.false_or, Bool.false_or] at hF
  by_cases hkt : kk = tk
  · have hktB : (kk == tk) = true := by simpa using hkt
    rw [hktB, Bool.true_and] at hF
    clear hkt hk0 ht1
    cases d
    · have hF1 : F = false := by rw [← hF]; rfl
      subst hF1
      clear hF
      go_enter Tryz.func9, Tryz.ntmps9
      go_wp2_with (go_at_call 19; with_reducible refine d1.mono ?_; rintro e w1 ⟨rfl, hb1⟩)
      go_ret
      exact ⟨rfl, hBw.trans (hb1.mono hBw.size)⟩
    · cases p
      · have hF1 : F = false := by rw [← hF]; rfl
        subst hF1
        clear hF
        go_enter Tryz.func9, Tryz.ntmps9
        go_wp2_with (go_at_call 19; with_reducible refine d1.mono ?_; rintro e w1 ⟨rfl, hb1⟩; have f0 := (fc _ hb1).1; have f1 := (fc _ hb1).2.1; have f2 := (fc _ hb1).2.2.1; have f3 := (fc _ hb1).2.2.2)
        go_ret
        exact ⟨rfl, hBw.trans (hb1.mono hBw.size)⟩
      · have hF1 : F = q := by rw [← hF]; cases q <;> rfl
        subst hF1
        clear hF
        go_enter Tryz.func9, Tryz.ntmps9
        go_wp2_with (go_at_call 19; with_reducible refine d1.mono ?_; rintro e w1 ⟨rfl, hb1⟩; have f0 := (fc _ hb1).1; have f1 := (fc _ hb1).2.1; have f2 := (fc _ hb1).2.2.1; have f3 := (fc _ hb1).2.2.2)
        go_ret
        exact ⟨rfl, hBw.trans (hb1.mono hBw.size)⟩
  · have hktB : (kk == tk) = false := by simpa using hkt
    have hF1 : F = false := by rw [← hF, hktB]; rfl
    subst hF1
    clear hF hkt hk0 ht1
    go_enter Tryz.func9, Tryz.ntmps9
    go_wp2
    go_ret
    exact ⟨rfl, hBw⟩
end Go.Proofs.YtkacnifdhfffmaaGreatDoor
end
section
namespace Go.Proofs.YtkacnifdhfffmaaGreatDoor
open Go.RowKit Go.Big
def rfitsB (kk tk : Int) (num : Bool) (nm1 nm2 : ByteArray) (n1 l : Nat) : Bool :=
  kk == 0 || (tk == 1 || (kk == tk && ((nm1.toList == nm2.toList) && (((n1 : Int) == (l : Int)) && (!(kk == 2) || num)))))
set_option maxRecDepth 100000 in
set_option maxHeartbeats 2000000 in
/-- the reference's Fits -/
theorem rfits_calls (kk tk : Int) (g1 g2 : Bool) (s1 s2 t1 t2 v : Value) (nm1 nm2 : ByteArray) (n1 l c : Nat) (a : Option Addr) (A1 C1 A2 C2 : List Nat) (n : Nat) (hlen : kk = 2 → tk = 2 → A1.length ≤ 1000 ∧ C1.length ≤ 1000 ∧ A2.length ≤ 1000 ∧ C2.length ≤ 1000) (w : World) (hn : n ≤ w.heap.size) (h1 : NumAt n w g1 s1 s2 A1 C1) (h2 : NumAt n w g2 t1 t2 A2 C2) :
    Calls Tryz.prog 8 #[.agg #[.int .i64 kk, .bool g1, s1, s2, .string nm1, .int .i64 n1], .agg #[.int .i64 tk, v, .string nm2, .bool g2, t1, t2, .slice a l c]] w
      fun e w' => e = .returned (.bool (rfitsB kk tk (decide (shapeN (numText g1 A1 C1) = shapeN (numText g2 A2 C2))) nm1 nm2 n1 l)) ∧ Below w.heap.size w w' := by
  obtain ⟨hBw, q1, q2, hsz⟩ := two_blocks w (Obj.cells #[.int .i64 kk, .bool g1, s1, s2, .string nm1, .int .i64 n1] 32) (Obj.cells #[.int .i64 tk, v, .string nm2, .bool g2, t1, t2, .slice a l c] 27)
  have d1 := fun (hk : kk = 2) (ht : tk = 2) => rsameNumber_calls g1 g2 s1 s2 t1 t2 A1 C1 A2 C2 n (hlen hk ht).1 (hlen hk ht).2.1 (hlen hk ht).2.2.1 (hlen hk ht).2.2.2 _ (by omega) (h1.below hBw hn) (h2.below hBw hn)
  obtain ⟨d, hd⟩ : ∃ d, decide (shapeN (numText g1 A1 C1) = shapeN (numText g2 A2 C2)) = d := ⟨_, rfl⟩
  obtain ⟨p, hp⟩ : ∃ p, (nm1.toList == nm2.toList) = p := ⟨_, rfl⟩
  obtain ⟨q, hq⟩ : ∃ q, ((n1 : Int) == (l : Int)) = q := ⟨_, rfl⟩
  simp only [hd] at d1
  rw [hd]
  obtain ⟨F, hF⟩ : ∃ F, rfitsB kk tk d nm1 nm2 n1 l = F := ⟨_, rfl⟩
  rw [hF]
  unfold rfitsB at hF
  rw [hp, hq] at hF
  clear hd q1 q2 h1 h2 hlen
  by_cases hk0 : kk = 0
  · have hF1 : F = true := by rw [← hF, hk0]; rfl
    subst hF1; subst hk0
    clear hF d1
    go_enter Tryz.func8, Tryz.ntmps8
    go_wp2
    go_ret
    exact ⟨rfl, hBw⟩
  have hkB : (kk == 0) = false := by simpa using hk0
  by_cases ht1 : tk = 1
  · have hF1 : F = true := by rw [← hF, ht1]; simp
    subst hF1; subst ht1
    clear hF hk0 d1
    go_enter Tryz.func8, Tryz.ntmps8
    go_wp2
    go_ret
    exact ⟨rfl, hBw⟩
  have htB : (tk == 1) = false := by simpa using ht1
  rw [hkB, htB, Bool.false_or, Bool.false_or] at hF
  by_cases hkt : kk = tk
  · have hktB : (kk == tk) = true := by simpa using hkt
    rw [hktB, Bool.true_and] at hF
    subst hkt
    clear hktB
    cases p
    · have hF1 : F = false := by rw [← hF]; rfl
      subst hF1
      clear hF hk0 ht1 d1
      go_enter Tryz.func8, Tryz.ntmps8
      go_wp2
      go_ret
      exact ⟨rfl, hBw⟩
    · cases q
      · have hF1 : F = false := by rw [← hF]; rfl
        subst hF1
        clear hF hk0 ht1 d1
        go_enter Tryz.func8, Tryz.ntmps8
        go_wp2
        go_ret
        exact ⟨rfl, hBw⟩
      · by_cases hk2 : kk = 2
        · have hF1 : F = d := by rw [← hF, hk2]; simp
          subst hF1
          have d2 := d1 hk2 hk2
          subst hk2
          clear hF hk0 ht1 d1
          go_enter Tryz.func8, Tryz.ntmps8
          go_wp2_with (go_at_call 18; with_reducible refine d2.mono ?_; rintro e w1 ⟨rfl, hb1⟩)
          go_ret
          exact ⟨rfl, hBw.trans (hb1.mono hBw.size)⟩
        · have hk2B : (kk == 2) = false := by simpa using hk2
          have hF1 : F = true := by rw [← hF, hk2B]; simp
          have hk2N : (kk != 2) = true := by simpa using hk2
          subst hF1
          clear hF hk0 ht1 d1
          go_enter Tryz.func8, Tryz.ntmps8
          go_wp2
          go_ret
          exact ⟨rfl, hBw⟩
  · have hktB : (kk == tk) = false := by simpa using hkt
    have hktN : (kk != tk) = true := by simpa using hkt
    have hF1 : F = false := by rw [← hF, hktB]; rfl
    subst hF1
    clear hF hk0 ht1 d1
    go_enter Tryz.func8, Tryz.ntmps8
    go_wp2
    go_ret
    exact ⟨rfl, hBw⟩
set_option maxRecDepth 100000 in
set_option maxHeartbeats 1000000 in
/-- noNumber -/
theorem rnoNumber_calls (g : Bool) (a1 a2 : Option Addr) (l1 l2 c1 c2 : Nat) (w : World) :
    Calls Tryz.prog 21 #[.agg #[.bool g, .slice a1 l1 c1, .slice a2 l2 c2]] w fun e w' => e = .returned (.bool (!g && (((l1 : Int) == 0) && ((l2 : Int) == 0)))) ∧ Below w.heap.size w w' := by
  have hB := below_alloc w (Obj.cells #[.bool g, .slice a1 l1 c1, .slice a2 l2 c2] 24)
  obtain ⟨F, hF⟩ : ∃ F, (!g && (((l1 : Int) == 0) && ((l2 : Int) == 0))) = F := ⟨_, rfl⟩
  rw [hF]
  cases g
  · by_cases h1 : l1 = 0
    · subst h1
      have hF1 : F = ((l2 : Int) == 0) := by rw [← hF]; simp
      subst hF1
      clear hF
      go_enter Tryz.func21, Tryz.ntmps21
      go_wp2
      go_ret
      exact ⟨rfl, hB⟩
    · have h1B : ((l1 : Int) == 0) = false := by simp; omega
      have hF1 : F = false := by rw [← hF, h1B]; rfl
      subst hF1
      clear hF
      go_enter Tryz.func21, Tryz.ntmps21
      go_wp2
      go_ret
      exact ⟨rfl, hB⟩
  · have hF1 : F = false := by rw [← hF]; rfl
    subst hF1
    clear hF
    go_enter Tryz.func21, Tryz.ntmps21
    go_wp2
    go_ret
    exact ⟨rfl, hB⟩
end Go.Proofs.YtkacnifdhfffmaaGreatDoor
end
