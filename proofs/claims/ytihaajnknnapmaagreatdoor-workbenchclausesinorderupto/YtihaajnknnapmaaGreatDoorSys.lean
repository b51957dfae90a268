/-
  A part of the proof of the card of WorkbenchClausesInOrder (second form): lemmas that the text Card uses. No condition of its own.
-/
import Derived.Test.YtihaajnknnapmaaGreatDoorRefA
import Derived.RangeFuncFrom
import Derived.RangeFuncBox
import Derived.RangeFuncLeaves
import Derived.Shelf.Abstract
import Derived.WalkKit
import Derived.OwnWalkIn
import Derived.TacticsInMore
import Derived.LoopNIn
import Derived.LoopIn
import Derived.Shelf.SlIterI.Collect
import Derived.Test.YtihaajnknnapmaaGreatDoorProg
import Derived.KernelRfl
set_option linter.all false
set_option linter.unusedVariables false
set_option linter.unusedSimpArgs false
section
namespace Go.Proofs.YtihaajnknnapmaaGreatDoor
open Go.RowKit Go.Maps Go.Sort Go.Shelf
attribute [local go_sem] Oper.semAt_some
/-- the bytes that strings.asciiSpace marks -/
def spB (b : Nat) : Bool := b == 9 || b == 10 || b == 11 || b == 12 || b == 13 || b == 32
/-- strings.asciiSpace lies in block 2 -/
def SpaceAt (w : World) : Prop := ∀ b, b < 256 → w.cell? ⟨2, b, none⟩ = some (.int .u8 (if spB b then 1 else 0))
/-- no field of the text is x -/
def NoField (s x : ByteArray) : Prop := ∀ a b, a < b → b ≤ s.size → (a = 0 ∨ spB (s[a - 1]!).toNat = true) → (b = s.size ∨ spB (s[b]!).toNat = true) → s.extract a b ≠ x
set_option maxRecDepth 100000 in
set_option maxHeartbeats 4000000 in
/-- strings.FieldsSeq's closure over a text of ASCII bytes, none of whose fields is x, against a loop body that goes on at every other field -/
theorem fields1_in (F : Fence) (n : Nat) (hf : F.fn 307) (hro : F.round = none) (hn : 1 ≤ n) (l Bs n0 : Nat) (s x : ByteArray) (hB : Bs < n0) (h3 : 2 < n0) (hsz : s.size ≤ 1000000) (hasc : ∀ i, i < s.size → (s[i]!).toNat < 128) (hno : NoField s x) (J Jx : List {y : ByteArray // y ≠ x} → World → Prop)
    (hY : ∀ pre y W, J pre W → pre.length < s.size → YieldAt F (n - 1) Tryz.prog l #[.string y.1] W fun e W' =>
      (e = .returned (.bool true) ∧ J (pre ++ [y]) W' ∧ Below n0 W W') ∨ (e = .returned (.bool false) ∧ Jx (pre ++ [y]) W'))
    (W : World) (hBs : W.cell? ⟨Bs, 0, none⟩ = some (.string s)) (hsp : SpaceAt W) (h0 : J [] W) :
    CallsIn F n Tryz.prog 307 #[.func (.yield l) #[] #[], .pointer (some ⟨Bs, 0, none⟩)] W fun e W' => (∃ v, e = .returned v) ∧
      ((∃ ys, True ∧ J ys W') ∨ (∃ pre, True ∧ Jx pre W')) := by
  refine callsIn_of_wp Tryz.func307 rfl hf ?_ hro
  simp only [Tryz.ntmps307, List.size_toArray, List.length_cons, List.length_nil, Nat.reduceAdd, Nat.reduceSub, Array.replicate_succ, Array.replicate_zero, List.push_toArray, List.append_toArray, List.nil_append, List.cons_append]
  gi_wp2
  gi_loopw [3, 4] (fun p q wr => ∃ (pre : List {y : ByteArray // y ≠ x}) (i : Nat), q = .int .i64 i ∧ i ≤ s.size ∧ J pre wr ∧ wr.cell? ⟨Bs, 0, none⟩ = some (.string s) ∧ SpaceAt wr ∧
      ((p = .int .i64 (-1) ∧ pre.length ≤ i ∧ (i = 0 ∨ spB (s[i - 1]!).toNat = true)) ∨ ∃ a : Nat, p = .int .i64 a ∧ a < i ∧ pre.length ≤ a ∧ (a = 0 ∨ spB (s[a - 1]!).toNat = true)))
    (fun _ q _ => s.size - (Go.RowKit.intOf q).toNat)
  case atStart => exact ⟨[], 0, rfl, Nat.zero_le _, h0, hBs, hsp, .inl ⟨rfl, by simp, .inl rfl⟩⟩
  case round =>
    obtain ⟨pre, i, rfl, hi, hJ, hc, hsw, hst⟩ := hrel
    by_cases hlt : i < s.size
    · have hbang : s[i]! = s[i] := getElem!_pos s i hlt
      obtain ⟨c, hcc⟩ : ∃ c, (s[i]'hlt).toNat = c := ⟨_, rfl⟩
      have hb : c < 128 := by have := hasc i hlt; rw [hbang, hcc] at this; exact this
      have hcs := hsw c (by omega)
      have hb1 : (c : Int) < 256 := by omega
      have hb2 : (c : Int) < 128 := by omega
      have hb3 : ¬ (128 : Int) ≤ (c : Int) := by omega
      have hw32 : wrap32 (c : Int) = (c : Int) := by unfold wrap32; omega
      have hlt' : (i : Int) < (s.size : Int) := by omega
      have hwi : IntKind.i64.wrap ((i : Int) + 1) = (i : Int) + 1 := by rw [IntKind.wrap_i64]; omega
      have hspi : spB (s[i]!).toNat = spB c := by rw [hbang, hcc]
      cases hspb : spB c
      · simp only [hspb, Bool.false_eq_true, if_false] at hcs
        rcases hst with ⟨rfl, hp, ha⟩ | ⟨a, rfl, hai, hp, ha⟩
        · gi_wp2
          exact ⟨⟨pre, i + 1, by simp, by omega, hJ, hc, hsw, .inr ⟨i, rfl, by omega, hp, ha⟩⟩, by simp [Go.RowKit.intOf]; omega⟩
        · have ha0 : (0 : Int) ≤ (a : Int) := by omega
          have ha1 : ¬ (a : Int) < 0 := by omega
          gi_wp2
          exact ⟨⟨pre, i + 1, by simp, by omega, hJ, hc, hsw, .inr ⟨a, rfl, by omega, hp, ha⟩⟩, by simp [Go.RowKit.intOf]; omega⟩
      · simp only [hspb, if_true] at hcs
        rcases hst with ⟨rfl, hp, ha⟩ | ⟨a, rfl, hai, hp, ha⟩
        · gi_wp2
          exact ⟨⟨pre, i + 1, by simp, by omega, hJ, hc, hsw, .inl ⟨rfl, by omega, .inr (by rw [Nat.add_sub_cancel, hspi]; exact hspb)⟩⟩, by simp [Go.RowKit.intOf]; omega⟩
        · have ha0 : (0 : Int) ≤ (a : Int) := by omega
          have ha1 : ¬ (a : Int) < 0 := by omega
          have ha2 : (a : Int) ≤ (i : Int) := by omega
          have ha3 : (i : Int) ≤ (s.size : Int) := by omega
          have hne : s.extract a i ≠ x := hno a i hai hi ha (.inr (by rw [hspi]; exact hspb))
          obtain ⟨fn, tmps, assign, body, hy, hR⟩ := hY pre ⟨s.extract a i, hne⟩ wr hJ (by omega)
          dsimp only at hy
          gi_wp2
          refine hR.mono ?_
          rintro e W3 (⟨rfl, hJ3, hk3⟩ | ⟨rfl, hJx3⟩)
          · have hc3 : W3.cell? ⟨Bs, 0, none⟩ = some (.string s) := (hk3.cell (p := ⟨Bs, 0, none⟩) hB).trans hc
            have hsw3 : SpaceAt W3 := fun b hb => (hk3.cell (p := ⟨2, b, none⟩) h3).trans (hsw b hb)
            gi_wp2
            exact ⟨⟨pre ++ [⟨s.extract a i, hne⟩], i + 1, by simp, by omega, hJ3, hc3, hsw3, .inl ⟨rfl, by simp; omega, .inr (by rw [Nat.add_sub_cancel, hspi]; exact hspb)⟩⟩, by simp [Go.RowKit.intOf]; omega⟩
          · gi_wp2
            refine bodyPost_ret (results_none rfl _ _ _) rfl ?_
            exact ⟨⟨_, rfl⟩, .inr ⟨_, trivial, hJx3⟩⟩
    · obtain rfl : i = s.size := by omega
      rcases hst with ⟨rfl, hp, ha⟩ | ⟨a, rfl, hai, hp, ha⟩
      · gi_wp2
        go_end0
        exact ⟨⟨_, rfl⟩, .inl ⟨pre, trivial, hJ⟩⟩
      · have ha0 : (0 : Int) ≤ (a : Int) := by omega
        have ha1 : ¬ (a : Int) < 0 := by omega
        have ha2 : (a : Int) ≤ (s.size : Int) := by omega
        have hne : s.extract a s.size ≠ x := hno a s.size hai hi ha (.inl rfl)
        obtain ⟨fn, tmps, assign, body, hy, hR⟩ := hY pre ⟨s.extract a s.size, hne⟩ wr hJ (by omega)
        dsimp only at hy
        gi_wp2
        refine hR.mono ?_
        rintro e W3 (⟨rfl, hJ3, hk3⟩ | ⟨rfl, hJx3⟩)
        · gi_wp2
          go_end0
          exact ⟨⟨_, rfl⟩, .inl ⟨_, trivial, hJ3⟩⟩
        · gi_wp2
          go_end0
          exact ⟨⟨_, rfl⟩, .inr ⟨_, trivial, hJx3⟩⟩
end Go.Proofs.YtihaajnknnapmaaGreatDoor
end
section
namespace Go.Proofs.YtihaajnknnapmaaGreatDoor
open Go.RowKit Go.Big
theorem special_p (w : World) : Calls Tryz.prog 244 #[.string ⟨#[112]⟩, .int .i64 1] w fun e w' => e = .returned (.tuple #[.string ⟨#[]⟩, .bool false]) ∧ w' = w := by
  go_enter Tryz.func244, Tryz.ntmps244
  go_wp2
  go_ret2
  exact ⟨rfl, rfl⟩
theorem special_q (w : World) : Calls Tryz.prog 244 #[.string ⟨#[113]⟩, .int .i64 1] w fun e w' => e = .returned (.tuple #[.string ⟨#[]⟩, .bool false]) ∧ w' = w := by
  go_enter Tryz.func244, Tryz.ntmps244
  go_wp2
  go_ret2
  exact ⟨rfl, rfl⟩
/-- a text of ASCII bytes none of whose fields is the byte c alone -/
def goodAt (s : ByteArray) (c : UInt8) (i : Nat) : Bool :=
  decide ((s[i]!).toNat < 128) && (!((s[i]!) == c) || !((i == 0 || spB (s[i - 1]!).toNat) && (i + 1 == s.size || spB (s[i + 1]!).toNat)))
def goodB (s : ByteArray) (c : UInt8) : Bool := decide (s.size ≤ 1000000) && (List.range s.size).all (goodAt s c)
structure Good (s : ByteArray) (c : UInt8) : Prop where
  size : s.size ≤ 1000000
  asc : ∀ i, i < s.size → (s[i]!).toNat < 128
  no : NoField s ⟨#[c]⟩
theorem good_of {s : ByteArray} {c : UInt8} (h : goodB s c = true) : Good s c := by
  unfold goodB at h
  rw [Bool.and_eq_true, decide_eq_true_eq, List.all_eq_true] at h
  obtain ⟨h1, h2⟩ := h
  have h3 : ∀ i, i < s.size → goodAt s c i = true := fun i hi => h2 i (List.mem_range.2 hi)
  refine ⟨h1, fun i hi => ?_, fun a b hab hb hA hB hx => ?_⟩
  · have := h3 i hi
    unfold goodAt at this
    rw [Bool.and_eq_true, decide_eq_true_eq] at this
    exact this.1
  · have hs : (s.extract a b).size = 1 := by rw [hx]; rfl
    rw [ByteArray.size_extract] at hs
    obtain rfl : b = a + 1 := by omega
    have hg := h3 a (by omega)
    have hc : s[a]! = c := by
      rw [getElem!_pos s a (by omega)]
      have h4 : (s.extract a (a + 1))[0]! = c := by rw [hx]; rfl
      rw [getElem!_pos (s.extract a (a + 1)) 0 (by rw [hx]; exact Nat.zero_lt_one), ByteArray.getElem_extract] at h4
      simpa using h4
    unfold goodAt at hg
    rw [hc] at hg
    simp only [beq_self_eq_true, Bool.not_true, Bool.false_or, Bool.and_eq_true, Bool.not_eq_true', Bool.and_eq_false_iff, Bool.or_eq_false_iff, beq_eq_false_iff_ne] at hg
    rcases hg.2 with h | h
    · rcases hA with h0 | h0
      · exact h.1 h0
      · rw [h.2] at h0; cases h0
    · rcases hB with h0 | h0
      · exact h.1 h0
      · rw [h.2] at h0; cases h0
set_option maxRecDepth 100000 in
theorem names_p (w : World) : Calls Tryz.prog 246 #[.int .i64 1] w fun e w' => ∃ s, e = .returned (.string s) ∧ Good s 112 ∧ w' = w := by
  go_enter Tryz.func246, Tryz.ntmps246
  go_wp2
  go_ret
  exact ⟨_, rfl, good_of (by kernel_rfl), rfl⟩
set_option maxRecDepth 100000 in
theorem names_q (w : World) : Calls Tryz.prog 246 #[.int .i64 1] w fun e w' => ∃ s, e = .returned (.string s) ∧ Good s 113 ∧ w' = w := by
  go_enter Tryz.func246, Tryz.ntmps246
  go_wp2
  go_ret
  exact ⟨_, rfl, good_of (by kernel_rfl), rfl⟩
end Go.Proofs.YtihaajnknnapmaaGreatDoor
end
section
namespace Go.Proofs.YtihaajnknnapmaaGreatDoor
open Go.RowKit Go.Maps Go.Shelf
attribute [local go_sem] Oper.semAt_some
theorem cell_of_box_s {W : World} {B : Nat} {v : Value} {t : TypeId} (h : W.heap[B]? = some (.cells #[v] t (0, 0))) : W.cell? ⟨B, 0, none⟩ = some v ∧ W.frozen? ⟨B, 0, none⟩ = false := by
  constructor <;> simp [World.cell?, World.frozen?, h]
theorem cell_new_s (W : World) (v : Value) (t : TypeId) : (W.alloc (.cells #[v] t)).cell? ⟨W.heap.size, 0, none⟩ = some v ∧ (W.alloc (.cells #[v] t)).frozen? ⟨W.heap.size, 0, none⟩ = false :=
  cell_of_box_s (World.alloc_heap_new W _)
theorem cell_alloc_s {W : World} {a : Addr} {v : Value} (o : Obj) (h : W.cell? a = some v) : (W.alloc o).cell? a = some v := cell_kept h (World.grownBy_alloc W o none) (fun r e => by cases e)
theorem frozen_alloc_s {W : World} {a : Addr} {v : Value} (o : Obj) (h : W.cell? a = some v) (hf : W.frozen? a = false) : (W.alloc o).frozen? a = false := (frozen_kept h (World.grownBy_alloc W o none) (fun r e => by cases e)).trans hf
theorem fields_stops (F : Fence) (n : Nat) (hf : F.fn 307) (hro : F.round = none) (hn : 1 ≤ n) (Bs n0 : Nat) (s : ByteArray) (c : UInt8) (hg : Good s c) (w : World) (hB : Bs < n0) (h3 : 2 < n0) (hn0 : n0 ≤ w.heap.size)
    (hc : w.cell? ⟨Bs, 0, none⟩ = some (.string s)) (hsp : SpaceAt w) :
    SeqStopsK F n Tryz.prog 307 #[.pointer (some ⟨Bs, 0, none⟩)] (fun y : {y : ByteArray // y ≠ ⟨#[c]⟩} => #[Value.string y.1]) (Below n0) (fun _ => True) (fun _ => True) s.size w := fun l J Jx W hW _ _ hY h0 =>
  fields1_in F n hf hro hn l Bs n0 s ⟨#[c]⟩ hB h3 hg.size hg.asc hg.no J Jx hY W ((hW.cell (p := ⟨Bs, 0, none⟩) (by show Bs < _; omega)).trans hc)
    (fun b hb => (hW.cell (p := ⟨2, b, none⟩) (by show 2 < _; omega)).trans (hsp b hb)) h0
set_option maxRecDepth 100000 in
set_option maxHeartbeats 1000000 in
/-- strings.FieldsSeq -/
theorem fieldsSeq_calls (s : ByteArray) (w : World) : Calls Tryz.prog 245 #[.string s] w fun e w' => e = .returned (.func (.func 307) #[] #[.pointer (some ⟨w.heap.size, 0, none⟩)]) ∧ w' = w.alloc (.cells #[.string s] 9) := by
  go_enter Tryz.func245, Tryz.ntmps245
  go_wp2
  go_ret
  exact ⟨rfl, rfl⟩
set_option maxRecDepth 100000 in
set_option maxHeartbeats 4000000 in
/-- System at a name of one byte that is none of the special ones and no field of the table -/
theorem system_in (c : UInt8) (k : Int) (w : World) (h3 : 2 < w.heap.size) (hsp : SpaceAt w)
    (d244 : ∀ w, Calls Tryz.prog 244 #[.string ⟨#[c]⟩, .int .i64 k] w fun e w' => e = .returned (.tuple #[.string ⟨#[]⟩, .bool false]) ∧ w' = w)
    (d246 : ∀ w, Calls Tryz.prog 246 #[.int .i64 k] w fun e w' => ∃ s, e = .returned (.string s) ∧ Good s c ∧ w' = w) :
    CallsIn Fence.wide 5 Tryz.prog 170 #[.string ⟨#[c]⟩, .int .i64 k] w fun e w' => e = .returned (.tuple #[.string ⟨#[]⟩, .bool false]) ∧ Below w.heap.size w w' := by
  have h1 : 1 ≤ 5 := by decide
  have hro : Fence.wide.round = none := rfl
  refine callsIn_of_wp_marks Tryz.func170 rfl trivial ?_ hro
  simp only [Tryz.ntmps170, List.size_toArray, List.length_cons, List.length_nil, Nat.reduceAdd, Nat.reduceSub, Array.replicate_succ, Array.replicate_zero, List.push_toArray, List.append_toArray, List.nil_append, List.cons_append]
  gi_wp2_with first
    | (refine ⟨trivial, ?_⟩; gi_at_call 244; refine (callsIn_wide.2 (d244 _)).mono ?_; rintro e w' ⟨rfl, rfl⟩)
    | (refine ⟨trivial, ?_⟩; gi_at_call 246; refine (callsIn_wide.2 (d246 _)).mono ?_; rintro e w' ⟨s, rfl, hg, rfl⟩)
    | (refine ⟨trivial, ?_⟩; gi_at_call 245; refine (callsIn_wide.2 (fieldsSeq_calls s _)).mono ?_; rintro e w' ⟨rfl, rfl⟩)
  obtain ⟨W0, hW0⟩ : ∃ W0, (((((w.alloc (Obj.cells #[Value.string ⟨#[c]⟩] 9)).alloc (Obj.cells #[Value.int IntKind.i64 k] 3)).alloc (Obj.cells #[Value.string ⟨#[]⟩] 9)).alloc (Obj.cells #[Value.bool false] 4)).alloc (Obj.cells #[Value.string s] 9)) = W0 := ⟨_, rfl⟩
  have c0 := cell_new_s w (.string ⟨#[c]⟩) 9
  have c1 := cell_new_s (w.alloc (Obj.cells #[Value.string ⟨#[c]⟩] 9)) (.int .i64 k) 3
  have c2 := cell_new_s ((w.alloc (Obj.cells #[Value.string ⟨#[c]⟩] 9)).alloc (Obj.cells #[Value.int IntKind.i64 k] 3)) (.string ⟨#[]⟩) 9
  have c3 := cell_new_s (((w.alloc (Obj.cells #[Value.string ⟨#[c]⟩] 9)).alloc (Obj.cells #[Value.int IntKind.i64 k] 3)).alloc (Obj.cells #[Value.string ⟨#[]⟩] 9)) (.bool false) 4
  have c4 := cell_new_s ((((w.alloc (Obj.cells #[Value.string ⟨#[c]⟩] 9)).alloc (Obj.cells #[Value.int IntKind.i64 k] 3)).alloc (Obj.cells #[Value.string ⟨#[]⟩] 9)).alloc (Obj.cells #[Value.bool false] 4)) (.string s) 9
  simp only [World.size_alloc] at c1 c2 c3 c4
  have k0 : W0.cell? ⟨w.heap.size, 0, none⟩ = some (.string ⟨#[c]⟩) := by rw [← hW0]; exact cell_alloc_s _ (cell_alloc_s _ (cell_alloc_s _ (cell_alloc_s _ c0.1)))
  have k2 : W0.cell? ⟨w.heap.size + 1 + 1, 0, none⟩ = some (.string ⟨#[]⟩) := by rw [← hW0]; exact cell_alloc_s _ (cell_alloc_s _ c2.1)
  have k3 : W0.cell? ⟨w.heap.size + 1 + 1 + 1, 0, none⟩ = some (.bool false) := by rw [← hW0]; exact cell_alloc_s _ c3.1
  have k4 : W0.cell? ⟨w.heap.size + 1 + 1 + 1 + 1, 0, none⟩ = some (.string s) := by rw [← hW0]; exact c4.1
  have z2 : W0.frozen? ⟨w.heap.size + 1 + 1, 0, none⟩ = false := by rw [← hW0]; exact frozen_alloc_s _ (cell_alloc_s _ c2.1) (frozen_alloc_s _ c2.1 c2.2)
  have z3 : W0.frozen? ⟨w.heap.size + 1 + 1 + 1, 0, none⟩ = false := by rw [← hW0]; exact frozen_alloc_s _ c3.1 c3.2
  have hB0 : Below w.heap.size w W0 := by rw [← hW0]; exact (((((Below.refl _ w).alloc (Nat.le_refl _) _).alloc (by simp) _).alloc (by simp; omega) _).alloc (by simp; omega) _).alloc (by simp; omega) _
  have hs0 : W0.heap.size = w.heap.size + 5 := by rw [← hW0]; simp
  have hsp0 : SpaceAt W0 := fun b hb => (hB0.cell (p := ⟨2, b, none⟩) h3).trans (hsp b hb)
  clear c0 c1 c2 c3 c4
  rw [hW0]
  clear hW0
  refine wpIn_rangeFunc_ownF hro h1 (gf := 307) (lb := #[.pointer (some ⟨w.heap.size + 1 + 1 + 1 + 1, 0, none⟩)]) rfl trivial (enters_of Tryz.func307 (by kernel_rfl) rfl)
    (fields_stops Fence.wide (5 - 1) trivial rfl (by decide) (w.heap.size + 1 + 1 + 1 + 1) W0.heap.size s c hg W0 (by omega) (by omega) (Nat.le_refl _) k4 hsp0) belowK_t (belowK_b (Nat.le_refl _)) (Below.refl _ _) (fun _ => rfl)
    (fun pre W => (W.cell? ⟨w.heap.size, 0, none⟩ = some (.string ⟨#[c]⟩) ∧ (W.cell? ⟨w.heap.size + 1 + 1, 0, none⟩ = some (.string ⟨#[]⟩) ∧ W.frozen? ⟨w.heap.size + 1 + 1, 0, none⟩ = false) ∧ (W.cell? ⟨w.heap.size + 1 + 1 + 1, 0, none⟩ = some (.bool false) ∧ W.frozen? ⟨w.heap.size + 1 + 1 + 1, 0, none⟩ = false)) ∧ Below w.heap.size w W)
    (fun _ _ _ => False)
    (OwnFrom.and (Own.from (fun s A B row hs hg hr => ⟨cell_kept hs.1 hg hr, ⟨cell_kept hs.2.1.1 hg hr, (frozen_kept hs.2.1.1 hg hr).trans hs.2.1.2⟩, ⟨cell_kept hs.2.2.1 hg hr, (frozen_kept hs.2.2.1 hg hr).trans hs.2.2.2⟩⟩) _) (ownFrom_below (Nat.le_refl _) (by omega)))
    (fun _ _ _ _ _ hs _ _ => hs)
    ⟨⟨k0, ⟨k2, z2⟩, ⟨k3, z3⟩⟩, hB0⟩
    (fun y => { tmps := #[Value.string ⟨#[c]⟩, Value.int IntKind.i64 k, .pointer (some ⟨w.heap.size, 0, none⟩), .pointer (some ⟨w.heap.size + 1, 0, none⟩), .pointer (some ⟨w.heap.size + 1 + 1, 0, none⟩), .pointer (some ⟨w.heap.size + 1 + 1 + 1, 0, none⟩), Value.string ⟨#[]⟩, Value.bool false, .string y.1, Value.tuple #[Value.string ⟨#[]⟩, Value.bool false], Value.string ⟨#[c]⟩, Value.int IntKind.i64 k, Value.tuple #[Value.string ⟨#[]⟩, Value.bool false], Value.string ⟨#[]⟩, Value.bool false, Value.bool false, undef, Value.int IntKind.i64 k, Value.string s, .func (.func 307) #[] #[.pointer (some ⟨w.heap.size + 1 + 1 + 1 + 1, 0, none⟩)], .string y.1, undef, undef, undef, undef, undef], defers := [] }) ?assign ?body ?done ?stop
  case assign =>
    intro l y W K hK
    gi_wp2
    exact hK
  case body =>
    rintro l pre y W ⟨⟨q0, q2, q3⟩, hB⟩ _
    have hyN : ¬ y.1.toList = [c] := fun e => y.2 (by
      rw [ByteArray.toList_eq] at e
      generalize y.1 = z at e ⊢
      obtain ⟨⟨l⟩⟩ := z
      have e' : l = [c] := e
      subst e'
      rfl)
    have hyL : (y.1.toList == [c]) = false := by simpa using hyN
    gi_wp2
    exact ⟨KeepsOthers.refl _, Below.refl _ _, ⟨q0, q2, q3⟩, hB⟩
  case done =>
    rintro D ys W hD _ ⟨⟨q0, ⟨q2, f2⟩, ⟨q3, f3⟩⟩, hB⟩ hK
    gi_wp2
    have hK2 := (KeepsOthers.setCell W ⟨w.heap.size + 1 + 1, 0, none⟩ (.string ⟨#[]⟩)).same D _ hK rfl
    have hK3 := (KeepsOthers.setCell _ ⟨w.heap.size + 1 + 1 + 1, 0, none⟩ (.bool false)).same D _ hK2 rfl
    have hB3 : Below w.heap.size w ((W.setCell ⟨w.heap.size + 1 + 1, 0, none⟩ (.string ⟨#[]⟩)).setCell ⟨w.heap.size + 1 + 1 + 1, 0, none⟩ (.bool false)) := (hB.setCell (p := ⟨w.heap.size + 1 + 1, 0, none⟩) (by show _ ≤ w.heap.size + 1 + 1; omega) _).setCell (p := ⟨w.heap.size + 1 + 1 + 1, 0, none⟩) (by show _ ≤ w.heap.size + 1 + 1 + 1; omega) _
    have hne1 : (⟨w.heap.size + 1 + 1 + 1, 0, none⟩ : Addr) ≠ ⟨w.heap.size + 1 + 1, 0, none⟩ := by intro e; have := congrArg Addr.block e; simp at this
    have e2 : ((W.setCell ⟨w.heap.size + 1 + 1, 0, none⟩ (.string ⟨#[]⟩)).setCell ⟨w.heap.size + 1 + 1 + 1, 0, none⟩ (.bool false)).cell? ⟨w.heap.size + 1 + 1, 0, none⟩ = some (.string ⟨#[]⟩) :=
      (World.cell?_setCell_other _ _ _ _ hne1).trans (World.cell?_setCell_same' _ _ _ (by rw [q2]; rfl))
    have e3' : (W.setCell ⟨w.heap.size + 1 + 1, 0, none⟩ (.string ⟨#[]⟩)).cell? ⟨w.heap.size + 1 + 1 + 1, 0, none⟩ = some (.bool false) := (World.cell?_setCell_other _ _ _ _ (Ne.symm hne1)).trans q3
    have e3 : ((W.setCell ⟨w.heap.size + 1 + 1, 0, none⟩ (.string ⟨#[]⟩)).setCell ⟨w.heap.size + 1 + 1 + 1, 0, none⟩ (.bool false)).cell? ⟨w.heap.size + 1 + 1 + 1, 0, none⟩ = some (.bool false) :=
      World.cell?_setCell_same' _ _ _ (by rw [e3']; rfl)
    generalize (W.setCell ⟨w.heap.size + 1 + 1, 0, none⟩ (.string ⟨#[]⟩)).setCell ⟨w.heap.size + 1 + 1 + 1, 0, none⟩ (.bool false) = W3 at *
    refine ⟨by simp, .inl ⟨_, _, rfl, run_takeDeferred hK3, ?_⟩⟩
    have g2 := cell_kept e2 (grownBy_putObj' _ D (.deferred none)) (fun r e => by cases e; exact ⟨_, hK3, rfl⟩)
    have g3 := cell_kept e3 (grownBy_putObj' _ D (.deferred none)) (fun r e => by cases e; exact ⟨_, hK3, rfl⟩)
    refine ⟨.tuple #[.string ⟨#[]⟩, .bool false], ?_, rfl, hB3.trans (belowK_b (w := w) (Nat.le_refl _) _ D _ _ (by omega) hK3 rfl rfl)⟩
    simp [results, Tryz.f170, go_sem, g2, g3]
  case stop =>
    rintro D c' pre W _ _ h _
    exact h.elim
end Go.Proofs.YtihaajnknnapmaaGreatDoor
end
