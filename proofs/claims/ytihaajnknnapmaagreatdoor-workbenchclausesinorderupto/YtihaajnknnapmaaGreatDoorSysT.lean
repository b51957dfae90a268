/-
  A part of the proof of the card of WorkbenchClausesInOrder (second form): lemmas that the text Card uses. No condition of its own.
-/
import Derived.Test.YtihaajnknnapmaaGreatDoorSys
set_option linter.all false
set_option linter.unusedVariables false
set_option linter.unusedSimpArgs false
section
namespace Go.Proofs.YtihaajnknnapmaaGreatDoor
open Go.RowKit Go.Maps Go.Sort Go.Shelf
attribute [local go_sem] Oper.semAt_some
/-- what is known of the start of a field and of the fields so far -/
def HitI (s x : ByteArray) (a0 b0 i : Nat) (p : Value) (pre : List ByteArray) : Prop :=
  (a0 < i → i ≤ b0 → p = .int .i64 a0) ∧ (b0 < i → x ∈ pre) ∧ (i = 0 ∨ spB (s[i - 1]!).toNat = true → p = .int .i64 (-1))
section
variable {s x : ByteArray} {a0 b0 i c : Nat} {pre : List ByteArray}
theorem hitA (h : HitI s x a0 b0 i (.int .i64 (-1)) pre) (hspi : spB (s[i]!).toNat = spB c) (hc : spB c = false) (hab : a0 < b0) (hsA : a0 = 0 ∨ spB (s[a0 - 1]!).toNat = true) (hsB : spB (s[b0]!).toNat = true) : HitI s x a0 b0 (i + 1) (.int .i64 i) pre := by
  obtain ⟨h1, h2, h3⟩ := h
  refine ⟨fun ha hb => ?_, fun hb => ?_, fun h => ?_⟩
  · by_cases e : i = a0
    · rw [e]
    · have h4 := h1 (by omega) (by omega)
      have h5 : (-1 : Int) = (a0 : Int) := by injection h4
      omega
  · by_cases e : i = b0
    · rw [e, hsB, hc] at hspi; cases hspi
    · exact h2 (by omega)
  · rcases h with h | h
    · omega
    · rw [Nat.add_sub_cancel, hspi, hc] at h; cases h
theorem hitB {a : Nat} (h : HitI s x a0 b0 i (.int .i64 a) pre) (hspi : spB (s[i]!).toNat = spB c) (hc : spB c = false) (hab : a0 < b0) (hsA : a0 = 0 ∨ spB (s[a0 - 1]!).toNat = true) (hsB : spB (s[b0]!).toNat = true) : HitI s x a0 b0 (i + 1) (.int .i64 a) pre := by
  obtain ⟨h1, h2, h3⟩ := h
  refine ⟨fun ha hb => ?_, fun hb => ?_, fun h => ?_⟩
  · by_cases e : i = a0
    · subst e
      have h4 := h3 hsA
      have h5 : (a : Int) = (-1 : Int) := by injection h4
      omega
    · exact h1 (by omega) (by omega)
  · by_cases e : i = b0
    · rw [e, hsB] at hspi
      rw [hc] at hspi; cases hspi
    · exact h2 (by omega)
  · rcases h with h | h
    · omega
    · rw [Nat.add_sub_cancel, hspi, hc] at h; cases h
theorem hitC (h : HitI s x a0 b0 i (.int .i64 (-1)) pre) (hspi : spB (s[i]!).toNat = spB c) (hc : spB c = true) (hab : a0 < b0) (hin : ∀ i, a0 ≤ i → i < b0 → spB (s[i]!).toNat = false) : HitI s x a0 b0 (i + 1) (.int .i64 (-1)) pre := by
  obtain ⟨h1, h2, h3⟩ := h
  refine ⟨fun ha hb => ?_, fun hb => ?_, fun h => rfl⟩
  · have := hin i (by omega) (by omega)
    rw [hspi, hc] at this; cases this
  · by_cases e : i = b0
    · have h4 := h1 (by omega) (by omega)
      have h5 : (-1 : Int) = (a0 : Int) := by injection h4
      omega
    · exact h2 (by omega)
theorem hitD {a : Nat} (h : HitI s x a0 b0 i (.int .i64 a) pre) (hspi : spB (s[i]!).toNat = spB c) (hc : spB c = true) (hab : a0 < b0) (hin : ∀ i, a0 ≤ i → i < b0 → spB (s[i]!).toNat = false) (hx : s.extract a0 b0 = x) : HitI s x a0 b0 (i + 1) (.int .i64 (-1)) (pre ++ [s.extract a i]) := by
  obtain ⟨h1, h2, h3⟩ := h
  refine ⟨fun ha hb => ?_, fun hb => ?_, fun h => rfl⟩
  · have := hin i (by omega) (by omega)
    rw [hspi, hc] at this; cases this
  · by_cases e : i = b0
    · have h4 := h1 (by omega) (by omega)
      have h5 : (a : Int) = (a0 : Int) := by injection h4
      obtain rfl : a = a0 := by omega
      rw [e, hx]; simp
    · exact List.mem_append_left _ (h2 (by omega))
end
set_option maxRecDepth 100000 in
set_option maxHeartbeats 4000000 in
/-- strings.FieldsSeq's closure over a text of ASCII bytes, one of whose fields is x -/
theorem fieldsHit_in (F : Fence) (n : Nat) (hf : F.fn 307) (hro : F.round = none) (hn : 1 ≤ n) (l Bs n0 : Nat) (s x : ByteArray) (hB : Bs < n0) (h3 : 2 < n0) (hsz : s.size ≤ 1000000) (hasc : ∀ i, i < s.size → (s[i]!).toNat < 128) (a0 b0 : Nat) (hab : a0 < b0) (hbs : b0 < s.size) (hx : s.extract a0 b0 = x) (hsA : a0 = 0 ∨ spB (s[a0 - 1]!).toNat = true) (hin : ∀ i, a0 ≤ i → i < b0 → spB (s[i]!).toNat = false) (hsB : spB (s[b0]!).toNat = true) (J Jx : List ByteArray → World → Prop)
    (hY : ∀ pre y W, J pre W → pre.length < s.size → YieldAt F (n - 1) Tryz.prog l #[.string y] W fun e W' =>
      (e = .returned (.bool true) ∧ J (pre ++ [y]) W' ∧ Below n0 W W') ∨ (e = .returned (.bool false) ∧ Jx (pre ++ [y]) W'))
    (W : World) (hBs : W.cell? ⟨Bs, 0, none⟩ = some (.string s)) (hsp : SpaceAt W) (h0 : J [] W) :
    CallsIn F n Tryz.prog 307 #[.func (.yield l) #[] #[], .pointer (some ⟨Bs, 0, none⟩)] W fun e W' => (∃ v, e = .returned v) ∧
      ((∃ ys, x ∈ ys ∧ J ys W') ∨ (∃ pre, True ∧ Jx pre W')) := by
  refine callsIn_of_wp Tryz.func307 rfl hf ?_ hro
  simp only [Tryz.ntmps307, List.size_toArray, List.length_cons, List.length_nil, Nat.reduceAdd, Nat.reduceSub, Array.replicate_succ, Array.replicate_zero, List.push_toArray, List.append_toArray, List.nil_append, List.cons_append]
  gi_wp2
  gi_loopw [3, 4] (fun p q wr => ∃ (pre : List ByteArray) (i : Nat), q = .int .i64 i ∧ i ≤ s.size ∧ Aside (HitI s x a0 b0 i p pre) ∧ J pre wr ∧ wr.cell? ⟨Bs, 0, none⟩ = some (.string s) ∧ SpaceAt wr ∧
      ((p = .int .i64 (-1) ∧ pre.length ≤ i ∧ (i = 0 ∨ spB (s[i - 1]!).toNat = true)) ∨ ∃ a : Nat, p = .int .i64 a ∧ a < i ∧ pre.length ≤ a ∧ (a = 0 ∨ spB (s[a - 1]!).toNat = true)))
    (fun _ q _ => s.size - (Go.RowKit.intOf q).toNat)
  case atStart => exact ⟨[], 0, rfl, Nat.zero_le _, ⟨fun h => absurd h (Nat.not_lt_zero _), fun h => absurd h (Nat.not_lt_zero _), fun _ => rfl⟩, h0, hBs, hsp, .inl ⟨rfl, by simp, .inl rfl⟩⟩
  case round =>
    obtain ⟨pre, i, rfl, hi, hI, hJ, hc, hsw, hst⟩ := hrel
    by_cases hlt : i < s.size
    · have hbang : s[i]! = s[i] := getElem!_pos s i hlt
      obtain ⟨c, hcc⟩ : ∃ c, (s[i]'hlt).toNat = c := ⟨_, rfl⟩
      have hb : c < 128 := by have := hasc i hlt; rw [hbang, hcc] at this; exact this
      have hcs := hsw c (by omega)
      have hb1 : (c : Int) < 256 := by omega
      have hb2 : (c : Int) < 128 := by omega
      have hb3 : ¬ (128 : Int) ≤ (c : Int) := by omega
      have hw32 : wrap32 (c : Int) = (c : Int) := by unfold wrap32; omega
      have hlt' : (i : Int) < (s.size : Int) := by omega
      have hwi : IntKind.i64.wrap ((i : Int) + 1) = (i : Int) + 1 := by rw [IntKind.wrap_i64]; omega
      have hspi : spB (s[i]!).toNat = spB c := by rw [hbang, hcc]
      have hi1s : s[i + 1 - 1]! = s[i]! := by rw [Nat.add_sub_cancel]
      cases hspb : spB c
      · simp only [hspb, Bool.false_eq_true, if_false] at hcs
        rcases hst with ⟨rfl, hp, ha⟩ | ⟨a, rfl, hai, hp, ha⟩
        · gi_wp2
          exact ⟨⟨pre, i + 1, by simp, by omega, hitA hI.out hspi hspb hab hsA hsB, hJ, hc, hsw, .inr ⟨i, rfl, by omega, hp, ha⟩⟩, by simp [Go.RowKit.intOf]; omega⟩
        · have ha0 : (0 : Int) ≤ (a : Int) := by omega
          have ha1 : ¬ (a : Int) < 0 := by omega
          gi_wp2
          exact ⟨⟨pre, i + 1, by simp, by omega, hitB hI.out hspi hspb hab hsA hsB, hJ, hc, hsw, .inr ⟨a, rfl, by omega, hp, ha⟩⟩, by simp [Go.RowKit.intOf]; omega⟩
      · simp only [hspb, if_true] at hcs
        rcases hst with ⟨rfl, hp, ha⟩ | ⟨a, rfl, hai, hp, ha⟩
        · gi_wp2
          exact ⟨⟨pre, i + 1, by simp, by omega, hitC hI.out hspi hspb hab hin, hJ, hc, hsw, .inl ⟨rfl, by omega, .inr (by rw [Nat.add_sub_cancel, hspi]; exact hspb)⟩⟩, by simp [Go.RowKit.intOf]; omega⟩
        · have ha0 : (0 : Int) ≤ (a : Int) := by omega
          have ha1 : ¬ (a : Int) < 0 := by omega
          have ha2 : (a : Int) ≤ (i : Int) := by omega
          have ha3 : (i : Int) ≤ (s.size : Int) := by omega
          obtain ⟨fn, tmps, assign, body, hy, hR⟩ := hY pre (s.extract a i) wr hJ (by omega)
          gi_wp2
          refine hR.mono ?_
          rintro e W3 (⟨rfl, hJ3, hk3⟩ | ⟨rfl, hJx3⟩)
          · have hc3 : W3.cell? ⟨Bs, 0, none⟩ = some (.string s) := (hk3.cell (p := ⟨Bs, 0, none⟩) hB).trans hc
            have hsw3 : SpaceAt W3 := fun b hb => (hk3.cell (p := ⟨2, b, none⟩) h3).trans (hsw b hb)
            gi_wp2
            exact ⟨⟨pre ++ [s.extract a i], i + 1, by simp, by omega, hitD hI.out hspi hspb hab hin hx, hJ3, hc3, hsw3, .inl ⟨rfl, by simp; omega, .inr (by rw [Nat.add_sub_cancel, hspi]; exact hspb)⟩⟩, by simp [Go.RowKit.intOf]; omega⟩
          · gi_wp2
            refine bodyPost_ret (results_none rfl _ _ _) rfl ?_
            exact ⟨⟨_, rfl⟩, .inr ⟨_, trivial, hJx3⟩⟩
    · obtain rfl : i = s.size := by omega
      rcases hst with ⟨rfl, hp, ha⟩ | ⟨a, rfl, hai, hp, ha⟩
      · gi_wp2
        go_end0
        exact ⟨⟨_, rfl⟩, .inl ⟨pre, hI.out.2.1 hbs, hJ⟩⟩
      · have ha0 : (0 : Int) ≤ (a : Int) := by omega
        have ha1 : ¬ (a : Int) < 0 := by omega
        have ha2 : (a : Int) ≤ (s.size : Int) := by omega
        obtain ⟨fn, tmps, assign, body, hy, hR⟩ := hY pre (s.extract a s.size) wr hJ (by omega)
        gi_wp2
        refine hR.mono ?_
        rintro e W3 (⟨rfl, hJ3, hk3⟩ | ⟨rfl, hJx3⟩)
        · gi_wp2
          go_end0
          exact ⟨⟨_, rfl⟩, .inl ⟨_, List.mem_append_left _ (hI.out.2.1 hbs), hJ3⟩⟩
        · gi_wp2
          go_end0
          exact ⟨⟨_, rfl⟩, .inr ⟨_, trivial, hJx3⟩⟩
end Go.Proofs.YtihaajnknnapmaaGreatDoor
end
section
namespace Go.Proofs.YtihaajnknnapmaaGreatDoor
open Go.RowKit Go.Maps Go.Shelf
attribute [local go_sem] Oper.semAt_some
/-- true -/
def tru : ByteArray := ⟨#[116, 114, 117, 101]⟩
set_option maxRecDepth 100000 in
theorem special_t (w : World) : Calls Tryz.prog 244 #[.string tru, .int .i64 0] w fun e w' => e = .returned (.tuple #[.string ⟨#[]⟩, .bool false]) ∧ w' = w := by
  unfold tru
  go_enter Tryz.func244, Tryz.ntmps244
  go_wp2
  go_ret2
  exact ⟨rfl, rfl⟩
/-- a text of ASCII bytes with the field true -/
structure Hit (s : ByteArray) (a0 b0 : Nat) : Prop where
  size : s.size ≤ 1000000
  asc : ∀ i, i < s.size → (s[i]!).toNat < 128
  ab : a0 < b0
  bs : b0 < s.size
  eq : s.extract a0 b0 = tru
  left : a0 = 0 ∨ spB (s[a0 - 1]!).toNat = true
  mid : ∀ i, a0 ≤ i → i < b0 → spB (s[i]!).toNat = false
  right : spB (s[b0]!).toNat = true
def hitB' (s : ByteArray) (a0 b0 : Nat) : Bool := decide (s.size ≤ 1000000) && decide (a0 < b0) && decide (b0 < s.size) && ((s.extract a0 b0).data.toList == tru.data.toList) && (a0 == 0 || spB (s[a0 - 1]!).toNat) && spB (s[b0]!).toNat && (List.range s.size).all fun i => decide ((s[i]!).toNat < 128) && (decide (i < a0) || decide (b0 ≤ i) || !spB (s[i]!).toNat)
theorem hit_of {s : ByteArray} {a0 b0 : Nat} (h : hitB' s a0 b0 = true) : Hit s a0 b0 := by
  unfold hitB' at h
  simp only [Bool.and_eq_true, decide_eq_true_eq, List.all_eq_true, Bool.or_eq_true, beq_iff_eq, Bool.not_eq_true', List.mem_range] at h
  obtain ⟨⟨⟨⟨⟨⟨h1, h2⟩, h3⟩, h4⟩, h5⟩, h6⟩, h7⟩ := h
  refine ⟨h1, fun i hi => (h7 i hi).1, h2, h3, ?_, h5, fun i ha hb => ?_, h6⟩
  · cases hx : s.extract a0 b0 with
    | mk d =>
      rw [hx] at h4
      unfold tru at h4 ⊢
      congr 1
      exact Array.toList_inj.1 h4
  · have := (h7 i (by omega)).2
    rcases this with (h | h) | h
    · omega
    · omega
    · exact h
set_option maxRecDepth 100000 in
theorem names_t (w : World) : Calls Tryz.prog 246 #[.int .i64 0] w fun e w' => ∃ s, e = .returned (.string s) ∧ Hit s 5 9 ∧ w' = w := by
  go_enter Tryz.func246, Tryz.ntmps246
  go_wp2
  go_ret
  exact ⟨_, rfl, hit_of (by kernel_rfl), rfl⟩
set_option maxRecDepth 100000 in
theorem repeat_t (s : ByteArray) (w : World) : Calls Tryz.prog 200 #[.string s, .int .i64 0] w fun e w' => e = .returned (.string ⟨#[]⟩) ∧ w' = w := by
  go_enter Tryz.func200, Tryz.ntmps200
  go_wp2
  go_ret
  exact ⟨rfl, rfl⟩
theorem fieldsT_stops (F : Fence) (n : Nat) (hf : F.fn 307) (hro : F.round = none) (hn : 1 ≤ n) (Bs n0 : Nat) (s : ByteArray) (a0 b0 : Nat) (hg : Hit s a0 b0) (w : World) (hB : Bs < n0) (h3 : 2 < n0) (hn0 : n0 ≤ w.heap.size)
    (hc : w.cell? ⟨Bs, 0, none⟩ = some (.string s)) (hsp : SpaceAt w) :
    SeqStopsK F n Tryz.prog 307 #[.pointer (some ⟨Bs, 0, none⟩)] (fun y : ByteArray => #[Value.string y]) (Below n0) (fun ys => tru ∈ ys) (fun _ => True) s.size w := fun l J Jx W hW _ _ hY h0 =>
  fieldsHit_in F n hf hro hn l Bs n0 s tru hB h3 hg.size hg.asc a0 b0 hg.ab hg.bs hg.eq hg.left hg.mid hg.right J Jx hY W ((hW.cell (p := ⟨Bs, 0, none⟩) (by show Bs < _; omega)).trans hc)
    (fun b hb => (hW.cell (p := ⟨2, b, none⟩) (by show 2 < _; omega)).trans (hsp b hb)) h0
set_option maxRecDepth 100000 in
set_option maxHeartbeats 4000000 in
/-- System at true, of no argument -/
theorem systemT_in (w : World) (h3 : 2 < w.heap.size) (hsp : SpaceAt w) :
    CallsIn Fence.wide 5 Tryz.prog 170 #[.string tru, .int .i64 0] w fun e w' => e = .returned (.tuple #[.string ⟨#[]⟩, .bool true]) ∧ Below w.heap.size w w' := by
  have h1 : 1 ≤ 5 := by decide
  have hro : Fence.wide.round = none := rfl
  refine callsIn_of_wp_marks Tryz.func170 rfl trivial ?_ hro
  simp only [Tryz.ntmps170, List.size_toArray, List.length_cons, List.length_nil, Nat.reduceAdd, Nat.reduceSub, Array.replicate_succ, Array.replicate_zero, List.push_toArray, List.append_toArray, List.nil_append, List.cons_append]
  gi_wp2_with first
    | (refine ⟨trivial, ?_⟩; gi_at_call 244; refine (callsIn_wide.2 (special_t _)).mono ?_; rintro e w' ⟨rfl, rfl⟩)
    | (refine ⟨trivial, ?_⟩; gi_at_call 246; refine (callsIn_wide.2 (names_t _)).mono ?_; rintro e w' ⟨s, rfl, hg, rfl⟩)
    | (refine ⟨trivial, ?_⟩; gi_at_call 245; refine (callsIn_wide.2 (fieldsSeq_calls s _)).mono ?_; rintro e w' ⟨rfl, rfl⟩)
  obtain ⟨W0, hW0⟩ : ∃ W0, (((((w.alloc (Obj.cells #[Value.string tru] 9)).alloc (Obj.cells #[Value.int IntKind.i64 0] 3)).alloc (Obj.cells #[Value.string ⟨#[]⟩] 9)).alloc (Obj.cells #[Value.bool false] 4)).alloc (Obj.cells #[Value.string s] 9)) = W0 := ⟨_, rfl⟩
  have c0 := cell_new_s w (.string tru) 9
  have c1 := cell_new_s (w.alloc (Obj.cells #[Value.string tru] 9)) (.int .i64 0) 3
  have c2 := cell_new_s ((w.alloc (Obj.cells #[Value.string tru] 9)).alloc (Obj.cells #[Value.int IntKind.i64 0] 3)) (.string ⟨#[]⟩) 9
  have c3 := cell_new_s (((w.alloc (Obj.cells #[Value.string tru] 9)).alloc (Obj.cells #[Value.int IntKind.i64 0] 3)).alloc (Obj.cells #[Value.string ⟨#[]⟩] 9)) (.bool false) 4
  have c4 := cell_new_s ((((w.alloc (Obj.cells #[Value.string tru] 9)).alloc (Obj.cells #[Value.int IntKind.i64 0] 3)).alloc (Obj.cells #[Value.string ⟨#[]⟩] 9)).alloc (Obj.cells #[Value.bool false] 4)) (.string s) 9
  simp only [World.size_alloc] at c1 c2 c3 c4
  have k0 : W0.cell? ⟨w.heap.size, 0, none⟩ = some (.string tru) := by rw [← hW0]; exact cell_alloc_s _ (cell_alloc_s _ (cell_alloc_s _ (cell_alloc_s _ c0.1)))
  have k1 : W0.cell? ⟨w.heap.size + 1, 0, none⟩ = some (.int .i64 0) := by rw [← hW0]; exact cell_alloc_s _ (cell_alloc_s _ (cell_alloc_s _ c1.1))
  have k2 : W0.cell? ⟨w.heap.size + 1 + 1, 0, none⟩ = some (.string ⟨#[]⟩) := by rw [← hW0]; exact cell_alloc_s _ (cell_alloc_s _ c2.1)
  have k3 : W0.cell? ⟨w.heap.size + 1 + 1 + 1, 0, none⟩ = some (.bool false) := by rw [← hW0]; exact cell_alloc_s _ c3.1
  have k4 : W0.cell? ⟨w.heap.size + 1 + 1 + 1 + 1, 0, none⟩ = some (.string s) := by rw [← hW0]; exact c4.1
  have z2 : W0.frozen? ⟨w.heap.size + 1 + 1, 0, none⟩ = false := by rw [← hW0]; exact frozen_alloc_s _ (cell_alloc_s _ c2.1) (frozen_alloc_s _ c2.1 c2.2)
  have z3 : W0.frozen? ⟨w.heap.size + 1 + 1 + 1, 0, none⟩ = false := by rw [← hW0]; exact frozen_alloc_s _ c3.1 c3.2
  have hB0 : Below w.heap.size w W0 := by rw [← hW0]; exact (((((Below.refl _ w).alloc (Nat.le_refl _) _).alloc (by simp) _).alloc (by simp; omega) _).alloc (by simp; omega) _).alloc (by simp; omega) _
  have hs0 : W0.heap.size = w.heap.size + 5 := by rw [← hW0]; simp
  have hsp0 : SpaceAt W0 := fun b hb => (hB0.cell (p := ⟨2, b, none⟩) h3).trans (hsp b hb)
  clear c0 c1 c2 c3 c4
  rw [hW0]
  clear hW0
  refine wpIn_rangeFunc_ownF hro h1 (gf := 307) (lb := #[.pointer (some ⟨w.heap.size + 1 + 1 + 1 + 1, 0, none⟩)]) rfl trivial (enters_of Tryz.func307 (by kernel_rfl) rfl)
    (fieldsT_stops Fence.wide (5 - 1) trivial rfl (by decide) (w.heap.size + 1 + 1 + 1 + 1) W0.heap.size s 5 9 hg W0 (by omega) (by omega) (Nat.le_refl _) k4 hsp0) belowK_t (belowK_b (Nat.le_refl _)) (Below.refl _ _) (fun _ => rfl)
    (fun pre W => ((W.cell? ⟨w.heap.size, 0, none⟩ = some (.string tru) ∧ W.cell? ⟨w.heap.size + 1, 0, none⟩ = some (.int .i64 0) ∧ (W.cell? ⟨w.heap.size + 1 + 1, 0, none⟩ = some (.string ⟨#[]⟩) ∧ W.frozen? ⟨w.heap.size + 1 + 1, 0, none⟩ = false) ∧ (W.cell? ⟨w.heap.size + 1 + 1 + 1, 0, none⟩ = some (.bool false) ∧ W.frozen? ⟨w.heap.size + 1 + 1 + 1, 0, none⟩ = false)) ∧ (∀ y ∈ pre, y ≠ tru)) ∧ Below w.heap.size w W)
    (fun c pre W => (c = .ret ∧ W.cell? ⟨w.heap.size + 1 + 1, 0, none⟩ = some (.string ⟨#[]⟩) ∧ W.cell? ⟨w.heap.size + 1 + 1 + 1, 0, none⟩ = some (.bool true)) ∧ Below w.heap.size w W)
    (OwnFrom.and (Own.from (fun s A B row hs hg hr => ⟨⟨cell_kept hs.1.1 hg hr, cell_kept hs.1.2.1 hg hr, ⟨cell_kept hs.1.2.2.1.1 hg hr, (frozen_kept hs.1.2.2.1.1 hg hr).trans hs.1.2.2.1.2⟩, ⟨cell_kept hs.1.2.2.2.1 hg hr, (frozen_kept hs.1.2.2.2.1 hg hr).trans hs.1.2.2.2.2⟩⟩, hs.2⟩) _) (ownFrom_below (Nat.le_refl _) (by omega)))
    (fun c => OwnFrom.and (Own.from (fun s A B row hs hg hr => ⟨hs.1, cell_kept hs.2.1 hg hr, cell_kept hs.2.2 hg hr⟩) _) (ownFrom_below (Nat.le_refl _) (by omega)))
    ⟨⟨⟨k0, k1, ⟨k2, z2⟩, ⟨k3, z3⟩⟩, fun y hy => by cases hy⟩, hB0⟩
    (fun y => { tmps := #[Value.string tru, Value.int IntKind.i64 0, .pointer (some ⟨w.heap.size, 0, none⟩), .pointer (some ⟨w.heap.size + 1, 0, none⟩), .pointer (some ⟨w.heap.size + 1 + 1, 0, none⟩), .pointer (some ⟨w.heap.size + 1 + 1 + 1, 0, none⟩), Value.string ⟨#[]⟩, Value.bool false, .string y, Value.tuple #[Value.string ⟨#[]⟩, Value.bool false], Value.string tru, Value.int IntKind.i64 0, Value.tuple #[Value.string ⟨#[]⟩, Value.bool false], Value.string ⟨#[]⟩, Value.bool false, Value.bool false, undef, Value.int IntKind.i64 0, Value.string s, .func (.func 307) #[] #[.pointer (some ⟨w.heap.size + 1 + 1 + 1 + 1, 0, none⟩)], .string y, undef, undef, undef, undef, undef], defers := [] }) ?assign ?body ?done ?stop
  case assign =>
    intro l y W K hK
    gi_wp2
    exact hK
  case body =>
    rintro l pre y W ⟨⟨⟨q0, q1, q2, q3⟩, hpre⟩, hB⟩ _
    by_cases hy : y = tru
    · subst hy
      have hyL : (tru.toList == tru.toList) = true := by simp
      have hrep : ∀ w, CallsIn (Fence.wide.inRound l) (5 - 1 - 1 - 1) Tryz.prog 200 #[.string ⟨#[63]⟩, .int .i64 0] w fun e w' => e = .returned (.string ⟨#[]⟩) ∧ w' = w := fun w => (callsIn_wide.2 (repeat_t _ w) : CallsIn Fence.wide (5 - 1 - 1 - 1) Tryz.prog 200 #[.string ⟨#[63]⟩, .int .i64 0] w fun e w' => e = .returned (.string ⟨#[]⟩) ∧ w' = w)
      gi_wp2_with (refine ⟨trivial, ?_⟩; gi_at_call 200; refine (hrep _).mono ?_; rintro e w' ⟨rfl, hw⟩; obtain rfl := hw.symm)
      have hne1 : (⟨w.heap.size + 1 + 1 + 1, 0, none⟩ : Addr) ≠ ⟨w.heap.size + 1 + 1, 0, none⟩ := by intro e; have := congrArg Addr.block e; simp at this
      have e2 : ((W.setCell ⟨w.heap.size + 1 + 1, 0, none⟩ (.string ⟨#[]⟩)).setCell ⟨w.heap.size + 1 + 1 + 1, 0, none⟩ (.bool true)).cell? ⟨w.heap.size + 1 + 1, 0, none⟩ = some (.string ⟨#[]⟩) :=
        (World.cell?_setCell_other _ _ _ _ hne1).trans (World.cell?_setCell_same' _ _ _ (by rw [q2.1]; rfl))
      have e3' : (W.setCell ⟨w.heap.size + 1 + 1, 0, none⟩ (.string ⟨#[]⟩)).cell? ⟨w.heap.size + 1 + 1 + 1, 0, none⟩ = some (.bool false) := (World.cell?_setCell_other _ _ _ _ (Ne.symm hne1)).trans q3.1
      have e3 : ((W.setCell ⟨w.heap.size + 1 + 1, 0, none⟩ (.string ⟨#[]⟩)).setCell ⟨w.heap.size + 1 + 1 + 1, 0, none⟩ (.bool true)).cell? ⟨w.heap.size + 1 + 1 + 1, 0, none⟩ = some (.bool true) :=
        World.cell?_setCell_same' _ _ _ (by rw [e3']; rfl)
      exact ⟨(KeepsOthers.setCell W _ _).trans (KeepsOthers.setCell _ _ _), ⟨rfl, e2, e3⟩, (hB.setCell (p := ⟨w.heap.size + 1 + 1, 0, none⟩) (by show _ ≤ w.heap.size + 1 + 1; omega) _).setCell (p := ⟨w.heap.size + 1 + 1 + 1, 0, none⟩) (by show _ ≤ w.heap.size + 1 + 1 + 1; omega) _⟩
    · have hyN : ¬ y.toList = tru.toList := fun e => hy (by
        rw [ByteArray.toList_eq, ByteArray.toList_eq] at e
        cases y with
        | mk d =>
          unfold tru at e ⊢
          congr 1
          exact Array.toList_inj.1 e)
      have hyL : (y.toList == tru.toList) = false := by simpa using hyN
      gi_wp2
      exact ⟨KeepsOthers.refl _, Below.refl _ _, ⟨⟨q0, q1, q2, q3⟩, fun z hz => by
        rcases List.mem_append.1 hz with hz | hz
        · exact hpre z hz
        · rw [List.mem_singleton.1 hz]; exact hy⟩, hB⟩
  case done =>
    rintro D ys W hD hm ⟨⟨_, hpre⟩, _⟩ hK
    exact absurd rfl (hpre _ hm)
  case stop =>
    rintro D c pre W hD _ ⟨⟨rfl, q2, q3⟩, hB⟩ hK
    gi_wp2
    refine ⟨by simp, .inl ⟨_, _, rfl, run_takeDeferred hK, ?_⟩⟩
    have g2 := cell_kept q2 (grownBy_putObj' _ D (.deferred none)) (fun r e => by cases e; exact ⟨_, hK, rfl⟩)
    have g3 := cell_kept q3 (grownBy_putObj' _ D (.deferred none)) (fun r e => by cases e; exact ⟨_, hK, rfl⟩)
    refine ⟨.tuple #[.string ⟨#[]⟩, .bool true], ?_, rfl, hB.trans (belowK_b (w := w) (Nat.le_refl _) _ D _ _ (by omega) hK rfl rfl)⟩
    simp [results, Tryz.f170, go_sem, g2, g3]
end Go.Proofs.YtihaajnknnapmaaGreatDoor
end
