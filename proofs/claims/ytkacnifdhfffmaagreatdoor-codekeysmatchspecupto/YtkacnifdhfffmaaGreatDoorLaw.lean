/-
  A part of the proof of the card of CodeKeysMatchSpec (second form): lemmas that the text Card uses. No condition of its own.
-/
import Derived.Test.YtkacnifdhfffmaaGreatDoorFault
set_option linter.all false
set_option linter.unusedVariables false
set_option linter.unusedSimpArgs false
section
namespace Go.Proofs.YtkacnifdhfffmaaGreatDoor
open Go.RowKit Go.Big
def Tm.root : Tm → Prop
  | .mk k _ _ g num den _ => RootOk k g num den
set_option maxRecDepth 100000 in
set_option maxHeartbeats 1000000 in
/-- Fault -/
theorem fault_calls (T : Tm) (n : Nat) (w : World) (vs : List Value) (h : TmV n w T vs) (hn : n ≤ w.heap.size) :
    Calls Tryz.prog 4 #[.agg vs.toArray] w fun e w' => ∃ c : Int, e = .returned (.int .i64 c) ∧ (c = 0 → T.root) ∧ Below w.heap.size w w' := by
  match T, h with
  | .mk kk v nm g num den args, h =>
    have h0 := h
    simp only [TmV] at h
    obtain ⟨s1, s2, a, c, rfl, ⟨⟨p1, q1, rfl, _⟩, ⟨p2, q2, rfl, _⟩⟩, _⟩ := h
    obtain ⟨l0, hl0⟩ : ∃ l0, args.length = l0 := ⟨_, rfl⟩
    obtain ⟨l1, hl1⟩ : ∃ l1, num.length = l1 := ⟨_, rfl⟩
    obtain ⟨l2, hl2⟩ : ∃ l2, den.length = l2 := ⟨_, rfl⟩
    rw [hl0, hl1, hl2] at h0 ⊢
    have hB := below_alloc w (Obj.cells #[.int .i64 kk, .int .i64 v, .string nm, .bool g, .slice p1 l1 q1, .slice p2 l2 q2, .slice a l0 c] 27)
    have hq := heap_alloc_new w (Obj.cells #[.int .i64 kk, .int .i64 v, .string nm, .bool g, .slice p1 l1 q1, .slice p2 l2 q2, .slice a l0 c] 27)
    obtain ⟨wb, hwb⟩ : ∃ wb, w.alloc (Obj.cells #[.int .i64 kk, .int .i64 v, .string nm, .bool g, .slice p1 l1 q1, .slice p2 l2 q2, .slice a l0 c] 27) = wb := ⟨_, rfl⟩
    have hsz : w.heap.size + 1 ≤ wb.heap.size := by rw [← hwb]; simp
    rw [hwb] at hB hq
    have d1 := size_calls _ n wb _ (TmV.below hB hn _ _ h0) (Nat.le_trans hn hB.size)
    have d2 := fun w' (hb : Below wb.heap.size wb w') => nodeFault_calls _ n w' _ (TmV.below hb (Nat.le_trans hn hB.size) _ _ (TmV.below hB hn _ _ h0)) (Nat.le_trans (Nat.le_trans hn hB.size) hb.size)
    replace d1 : Calls Tryz.prog 10 #[.agg #[.int .i64 kk, .int .i64 v, .string nm, .bool g, .slice p1 l1 q1, .slice p2 l2 q2, .slice a l0 c]] _ _ := d1
    replace d2 : ∀ w', Below wb.heap.size wb w' → Calls Tryz.prog 11 #[.agg #[.int .i64 kk, .int .i64 v, .string nm, .bool g, .slice p1 l1 q1, .slice p2 l2 q2, .slice a l0 c]] w' fun e w'' => ∃ c : Int, e = .returned (.int .i64 c) ∧ (c = 0 → RootOk kk g num den) ∧ Below w'.heap.size w' w'' := d2
    have fc : ∀ w2, Below wb.heap.size wb w2 → _ := fun w2 hb => cells7 ((hb.block w.heap.size (by omega)).trans hq)
    obtain ⟨x0, x1, x2, x3, x4, x5, x6⟩ := fc wb (Below.refl _ _)
    show Calls Tryz.prog 4 #[.agg #[.int .i64 kk, .int .i64 v, .string nm, .bool g, .slice p1 l1 q1, .slice p2 l2 q2, .slice a l0 c]] w fun e w' => ∃ c : Int, e = .returned (.int .i64 c) ∧ (c = 0 → RootOk kk g num den) ∧ Below w.heap.size w w'
    clear hl0 hl1 hl2 h0 hq
    go_enter Tryz.func4, Tryz.ntmps4
    go_wp2_with first | (go_at_call 10; with_reducible refine d1.mono ?_; rintro e w1 ⟨r1, rfl, hr1, hb1⟩; have y0 := (fc _ hb1).1; have y1 := (fc _ hb1).2.1; have y2 := (fc _ hb1).2.2.1; have y3 := (fc _ hb1).2.2.2.1; have y4 := (fc _ hb1).2.2.2.2.1; have y5 := (fc _ hb1).2.2.2.2.2.1; have y6 := (fc _ hb1).2.2.2.2.2.2) | (go_at_call 11; with_reducible refine (d2 _ hb1).mono ?_; rintro e w2 ⟨c2, rfl, hc2, hb2⟩)
    all_goals go_ret
    all_goals first | exact ⟨c2, rfl, hc2, hB.trans ((hb1.trans (hb2.mono hb1.size)).mono hB.size)⟩ | exact ⟨3, rfl, fun h => absurd h (by decide), hB.trans (hb1.mono hB.size)⟩
end Go.Proofs.YtkacnifdhfffmaaGreatDoor
end
section
namespace Go.Proofs.YtkacnifdhfffmaaGreatDoor
open Go.RowKit Go.Big
theorem numFault_zero {g : Bool} {A C : List Nat} (h : numFault g A C = 0) : A.length ≤ 128 ∧ C.length ≤ 128 ∧ NoZ A ∧ NoZ C := by
  unfold numFault at h
  by_cases h1 : 128 < A.length ∨ 128 < C.length
  · rw [if_pos h1] at h; exact absurd h (by decide)
  · rw [if_neg h1] at h
    by_cases h2 : C = [] ∨ C.getLast? = some 0 ∨ A.getLast? = some 0
    · rw [if_pos h2] at h; exact absurd h (by decide)
    · refine ⟨by omega, by omega, fun x hx h0 => h2 (.inr (.inr (by rw [hx, h0]))), fun x hx h0 => h2 (.inr (.inl (by rw [hx, h0])))⟩
theorem RootOk.len {k : Int} {g : Bool} {num den : List Nat} (h : RootOk k g num den) : num.length ≤ 128 ∧ den.length ≤ 128 ∧ NoZ num ∧ NoZ den := by
  by_cases hk : k = 2
  · exact numFault_zero (h.sound hk)
  · obtain ⟨_, rfl, rfl⟩ := h.non hk
    exact ⟨by simp, by simp, fun x hx => by simp at hx, fun x hx => by simp at hx⟩
theorem NumAt.up {n m : Nat} {w : World} {neg : Bool} {s1 s2 : Value} {A C : List Nat} (h : NumAt n w neg s1 s2 A C) (hm : n ≤ m) : NumAt m w neg s1 s2 A C := by
  obtain ⟨⟨a, c, e1, h1⟩, ⟨a', c', e2, h2⟩⟩ := h
  exact ⟨⟨a, c, e1, h1.up hm⟩, ⟨a', c', e2, h2.up hm⟩⟩
/-- what a key is, of a term with this root -/
def KeyOk (k1 : Int) (g1 : Bool) (num1 den1 : List Nat) (nm1 : ByteArray) (l3 : Nat) (kk : Int) (gg : Bool) (A C : List Nat) (nm : ByteArray) (nn : Nat) : Prop :=
  (k1 = 1 ∧ kk = 0 ∧ gg = false ∧ A = [] ∧ C = [] ∧ nm = { data := #[] } ∧ nn = 0) ∨ (k1 ≠ 1 ∧ kk = k1 ∧ gg = g1 ∧ A = num1 ∧ C = den1 ∧ nm = nm1 ∧ nn = l3)
theorem fits_agree {k1 k2 kk : Int} {g1 g2 gg : Bool} {num1 den1 num2 den2 A C : List Nat} {nm1 nm2 nm : ByteArray} {l3 l6 nn : Nat} (ro1 : RootOk k1 g1 num1 den1) (ro2 : RootOk k2 g2 num2 den2) (hK : KeyOk k1 g1 num1 den1 nm1 l3 kk gg A C nm nn)
    (b1 : ∀ x ∈ num1, x < 4294967296) (b2 : ∀ x ∈ den1, x < 4294967296) (b3 : ∀ x ∈ num2, x < 4294967296) (b4 : ∀ x ∈ den2, x < 4294967296) :
    fitsB kk k2 (decide (gg = g2 ∧ A = num2 ∧ C = den2)) nm nm2 nn l6 = rfitsB kk k2 (decide (shapeN (numText gg A C) = shapeN (numText g2 num2 den2))) nm nm2 nn l6 := by
  unfold fitsB rfitsB
  rcases hK with ⟨_, h2, _⟩ | ⟨h1, h2, h3, h4, h5, h6, h7⟩
  · rw [h2]; rfl
  · subst h2 h3 h4 h5 h6 h7
    by_cases hk : kk = k2
    · subst hk
      by_cases hk2 : kk = 2
      · have hn1 := numFault_zero (ro1.sound hk2)
        have hn2 := numFault_zero (ro2.sound hk2)
        have e : decide (shapeN (numText gg A C) = shapeN (numText g2 num2 den2)) = decide (gg = g2 ∧ A = num2 ∧ C = den2) := by
          have := numText_inj (n1 := gg) (n2 := g2) b1 b2 b3 b4 hn1.2.2.1 hn1.2.2.2 hn2.2.2.1 hn2.2.2.2
          by_cases h : gg = g2 ∧ A = num2 ∧ C = den2
          · rw [decide_eq_true h, decide_eq_true (this.2 h)]
          · rw [decide_eq_false h, decide_eq_false (fun e => h (this.1 e))]
        rw [e, hk2]
        generalize decide (gg = g2 ∧ A = num2 ∧ C = den2) = d
        generalize (nm.toList == nm2.toList) = p
        generalize ((nn : Int) == (l6 : Int)) = q
        cases d <;> cases p <;> cases q <;> rfl
      · obtain ⟨e1, e2, e3⟩ := ro1.non hk2
        obtain ⟨e4, e5, e6⟩ := ro2.non hk2
        have hkB : (kk == 2) = false := by simpa using hk2
        have e : decide (gg = g2 ∧ A = num2 ∧ C = den2) = true := decide_eq_true ⟨e1.trans e4.symm, e2.trans e5.symm, e3.trans e6.symm⟩
        rw [e, hkB]
        simp
    · have hkB : (kk == k2) = false := by simpa using hk
      rw [hkB]
      rfl
theorem beq_sym_int (a b : Int) : (a == b) = (b == a) := by
  by_cases h : a = b
  · subst h; rfl
  · have h2 : ¬ b = a := fun e => h e.symm
    rw [beq_eq_false_iff_ne.2 h, beq_eq_false_iff_ne.2 h2]
theorem fits_sym {k1 k2 kk kk' : Int} {g1 g2 gg gg' : Bool} {num1 den1 num2 den2 A C A' C' : List Nat} {nm1 nm2 nm nm' : ByteArray} {l3 l6 nn nn' : Nat} (ro1 : RootOk k1 g1 num1 den1) (ro2 : RootOk k2 g2 num2 den2) (hK : KeyOk k1 g1 num1 den1 nm1 l3 kk gg A C nm nn) (hK' : KeyOk k2 g2 num2 den2 nm2 l6 kk' gg' A' C' nm' nn') :
    fitsB kk' k1 (decide (gg' = g1 ∧ A' = num1 ∧ C' = den1)) nm' nm1 nn' l3 = fitsB kk k2 (decide (gg = g2 ∧ A = num2 ∧ C = den2)) nm nm2 nn l6 := by
  unfold fitsB
  rcases hK with ⟨h0, h2, _⟩ | ⟨h1, h2, h3, h4, h5, h6, h7⟩
  · rw [h0, h2]; simp
  · rcases hK' with ⟨j0, j2, _⟩ | ⟨j1, j2, j3, j4, j5, j6, j7⟩
    · rw [j0, j2]; simp
    · subst h2 h3 h4 h5 h6 h7 j2 j3 j4 j5 j6 j7
      have e1 : (kk' == 1) = false := by simpa using j1
      have e2 : (kk == 1) = false := by simpa using h1
      have e3 : decide (gg' = gg ∧ A' = A ∧ C' = C) = decide (gg = gg' ∧ A = A' ∧ C = C') := by
        by_cases h : gg' = gg ∧ A' = A ∧ C' = C
        · rw [decide_eq_true h, decide_eq_true ⟨h.1.symm, h.2.1.symm, h.2.2.symm⟩]
        · rw [decide_eq_false h, decide_eq_false (fun e => h ⟨e.1.symm, e.2.1.symm, e.2.2.symm⟩)]
      have e4 : (nm'.toList == nm.toList) = (nm.toList == nm'.toList) := by
        rw [strEq, strEq]
        by_cases h : nm' = nm
        · subst h; rfl
        · rw [decide_eq_false h, decide_eq_false (fun e => h e.symm)]
      rw [e1, e2, e3, e4, beq_sym_int (nn' : Int) nn, beq_sym_int kk' kk]
      by_cases hk : kk = kk'
      · subst hk; rfl
      · have e5 : (kk == kk') = false := by simpa using hk
        rw [e5]
        have e6 : (kk == 0) = false := by
          have := ro1.kind
          have : ¬ kk = 0 := by omega
          simpa using this
        have e7 : (kk' == 0) = false := by
          have := ro2.kind
          have : ¬ kk' = 0 := by omega
          simpa using this
        rw [e6, e7]
theorem keyOf_any {k : Int} {g : Bool} {num den : List Nat} (ro : RootOk k g num den) (v : Int) (nm : ByteArray) (p1 p2 a : Option Addr) (l1 l2 l q1 q2 c n : Nat) (w : World) (hn : n ≤ w.heap.size) (h : NumAt n w g (.slice p1 l1 q1) (.slice p2 l2 q2) num den) :
    Calls Tryz.prog 6 #[.agg #[.int .i64 k, .int .i64 v, .string nm, .bool g, .slice p1 l1 q1, .slice p2 l2 q2, .slice a l c]] w fun e w' => ∃ (kk : Int) (gg : Bool) (t1 t2 : Value) (A C : List Nat) (nm' : ByteArray) (nn : Nat),
      e = .returned (.agg #[.int .i64 kk, .bool gg, t1, t2, .string nm', .int .i64 nn]) ∧ NumAt w'.heap.size w' gg t1 t2 A C ∧ KeyOk k g num den nm l kk gg A C nm' nn ∧ A.length ≤ 128 ∧ C.length ≤ 128 ∧ Below w.heap.size w w' := by
  by_cases hk : k = 1
  · subst hk
    refine (keyOfV_calls (.int .i64 v) (.string nm) (.bool g) (.slice p1 l1 q1) (.slice p2 l2 q2) (.slice a l c) w).mono ?_
    rintro e w' ⟨rfl, hb⟩
    exact ⟨0, false, .slice none 0 0, .slice none 0 0, [], [], { data := #[] }, 0, rfl, ⟨⟨none, 0, rfl, by simp, fun h => absurd rfl h⟩, ⟨none, 0, rfl, by simp, fun h => absurd rfl h⟩⟩, .inl ⟨rfl, rfl, rfl, rfl, rfl, rfl, rfl⟩, by simp, by simp, hb⟩
  · have hl := ro.len
    refine (keyOf_calls k hk (.int .i64 v) nm g (.slice p1 l1 q1) (.slice p2 l2 q2) num den n (by omega) (by omega) a l c w hn h).mono ?_
    rintro e w' ⟨t1, t2, rfl, hN, hb⟩
    exact ⟨k, g, t1, t2, num, den, nm, l, rfl, hN, .inr ⟨hk, rfl, rfl, rfl, rfl, rfl, rfl⟩, hl.1, hl.2.1, hb⟩
end Go.Proofs.YtkacnifdhfffmaaGreatDoor
end
section
namespace Go.Proofs.YtkacnifdhfffmaaGreatDoor
open Go.RowKit Go.Big
attribute [local go_sem] Heavy.uponW
set_option maxRecDepth 100000 in
set_option maxHeartbeats 8000000 in
/-- the law -/
theorem law_calls (T U : Tm) (n : Nat) (w : World) (vs us : List Value) (hT : TmV n w T vs) (hU : TmV n w U us) (hn : n ≤ w.heap.size)
    (hcomp : ∀ w', Below w.heap.size w w' → Calls Tryz.prog 5 #[] w' fun e w'' => e = .returned (.bool true) ∧ Below w'.heap.size w' w'') :
    Calls Tryz.prog 3 #[.agg vs.toArray, .agg us.toArray] w fun e w' => e = .returned (.bool true) ∧ Below w.heap.size w w' := by
  match T, U, hT, hU with
  | .mk k1 v1 nm1 g1 num1 den1 args1, .mk k2 v2 nm2 g2 num2 den2 args2, hT, hU =>
    have hT0 := hT
    have hU0 := hU
    simp only [TmV] at hT hU
    obtain ⟨_, _, a1, c1, rfl, ⟨⟨p1, q1, rfl, hA1⟩, ⟨p2, q2, rfl, hC1⟩⟩, _, _, hnA1, hnC1⟩ := hT
    obtain ⟨_, _, a2, c2, rfl, ⟨⟨p3, q3, rfl, hA2⟩, ⟨p4, q4, rfl, hC2⟩⟩, _, _, hnA2, hnC2⟩ := hU
    obtain ⟨l1, hl1⟩ : ∃ l, num1.length = l := ⟨_, rfl⟩
    obtain ⟨l2, hl2⟩ : ∃ l, den1.length = l := ⟨_, rfl⟩
    obtain ⟨l3, hl3⟩ : ∃ l, args1.length = l := ⟨_, rfl⟩
    obtain ⟨l4, hl4⟩ : ∃ l, num2.length = l := ⟨_, rfl⟩
    obtain ⟨l5, hl5⟩ : ∃ l, den2.length = l := ⟨_, rfl⟩
    obtain ⟨l6, hl6⟩ : ∃ l, args2.length = l := ⟨_, rfl⟩
    rw [hl1, hl2, hl3] at hT0 ⊢
    rw [hl4, hl5, hl6] at hU0 ⊢
    have N1 : NumAt n w g1 (.slice p1 l1 q1) (.slice p2 l2 q2) num1 den1 := ⟨⟨p1, q1, by rw [hl1], hA1⟩, ⟨p2, q2, by rw [hl2], hC1⟩⟩
    have N2 : NumAt n w g2 (.slice p3 l4 q3) (.slice p4 l5 q4) num2 den2 := ⟨⟨p3, q3, by rw [hl4], hA2⟩, ⟨p4, q4, by rw [hl5], hC2⟩⟩
    obtain ⟨hBw, r1, r2, hsz⟩ := two_blocks w (Obj.cells #[.int .i64 k1, .int .i64 v1, .string nm1, .bool g1, .slice p1 l1 q1, .slice p2 l2 q2, .slice a1 l3 c1] 27) (Obj.cells #[.int .i64 k2, .int .i64 v2, .string nm2, .bool g2, .slice p3 l4 q3, .slice p4 l5 q4, .slice a2 l6 c2] 27)
    show Calls Tryz.prog 3 #[.agg #[.int .i64 k1, .int .i64 v1, .string nm1, .bool g1, .slice p1 l1 q1, .slice p2 l2 q2, .slice a1 l3 c1], .agg #[.int .i64 k2, .int .i64 v2, .string nm2, .bool g2, .slice p3 l4 q3, .slice p4 l5 q4, .slice a2 l6 c2]] w _
    go_enter Tryz.func3, Tryz.ntmps3
    go_upto_region 1 with fail
    generalize (w.alloc (Obj.cells #[.int .i64 k1, .int .i64 v1, .string nm1, .bool g1, .slice p1 l1 q1, .slice p2 l2 q2, .slice a1 l3 c1] 27)).alloc (Obj.cells #[.int .i64 k2, .int .i64 v2, .string nm2, .bool g2, .slice p3 l4 q3, .slice p4 l5 q4, .slice a2 l6 c2] 27) = wb at *
    have f1 := fault_calls _ n wb _ (TmV.below hBw hn _ _ hT0) (by omega)
    replace f1 : Calls Tryz.prog 4 #[.agg #[.int .i64 k1, .int .i64 v1, .string nm1, .bool g1, .slice p1 l1 q1, .slice p2 l2 q2, .slice a1 l3 c1]] wb fun e w' => ∃ c : Int, e = .returned (.int .i64 c) ∧ (c = 0 → RootOk k1 g1 num1 den1) ∧ Below wb.heap.size wb w' := f1
    have f2 := fun w' (hb : Below wb.heap.size wb w') => fault_calls _ n w' _ (TmV.below hb (by omega) _ _ (TmV.below hBw hn _ _ hU0)) (by have := hb.size; omega)
    replace f2 : ∀ w', Below wb.heap.size wb w' → Calls Tryz.prog 4 #[.agg #[.int .i64 k2, .int .i64 v2, .string nm2, .bool g2, .slice p3 l4 q3, .slice p4 l5 q4, .slice a2 l6 c2]] w' fun e w'' => ∃ c : Int, e = .returned (.int .i64 c) ∧ (c = 0 → RootOk k2 g2 num2 den2) ∧ Below w'.heap.size w' w'' := f2
    have fc : ∀ w2, Below wb.heap.size wb w2 → _ := fun w2 hb => cells7 ((hb.block w.heap.size (by omega)).trans r1)
    have fd : ∀ w2, Below wb.heap.size wb w2 → _ := fun w2 hb => cells7 ((hb.block (w.heap.size + 1) (by omega)).trans r2)
    have Al : Aside (num1.length = l1 ∧ den1.length = l2 ∧ args1.length = l3 ∧ num2.length = l4 ∧ den2.length = l5 ∧ args2.length = l6) := ⟨hl1, hl2, hl3, hl4, hl5, hl6⟩
    have bb1 := hA1.1
    have bb2 := hC1.1
    have bb3 := hA2.1
    have bb4 := hC2.1
    clear hl1 hl2 hl3 hl4 hl5 hl6 r1 r2 hT0 hU0 hA1 hC1 hA2 hC2
    go_cut [14] from 7 to 13 (fun s wx => ∃ b, s = .bool b ∧ (b = false → RootOk k1 g1 num1 den1 ∧ RootOk k2 g2 num2 den2) ∧ Below wb.heap.size wb wx)
    case first =>
      obtain ⟨x0, x1, x2, x3, x4, x5, x6⟩ := fc wb (Below.refl _ _)
      clear hcomp N1 N2
      go_wp2_with first | (go_at_call 4; with_reducible refine f1.mono ?_; rintro e w1 ⟨d1, rfl, hd1, hb1⟩; have y0 := (fd _ hb1).1; have y1 := (fd _ hb1).2.1; have y2 := (fd _ hb1).2.2.1; have y3 := (fd _ hb1).2.2.2.1; have y4 := (fd _ hb1).2.2.2.2.1; have y5 := (fd _ hb1).2.2.2.2.2.1; have y6 := (fd _ hb1).2.2.2.2.2.2) | (go_at_call 4; with_reducible refine (f2 _ hb1).mono ?_; rintro e w2 ⟨d2, rfl, hd2, hb2⟩)
      all_goals go_meet
      all_goals first | exact ⟨true, rfl, fun h => (by cases h), hb1⟩ | exact ⟨_, rfl, fun hb => ⟨hd1 (by assumption), hd2 (by simpa using hb)⟩, hb1.trans (hb2.mono hb1.size)⟩
    case rest =>
      obtain ⟨b14, rfl, hb14, hB14⟩ := hcut
      cases b14
      · obtain ⟨ro1, ro2⟩ := hb14 rfl
        have hB1 := hBw.trans (hB14.mono hBw.size)
        have i1 := N1.below hB1 hn
        have i2 := N2.below hB1 hn
        have z1 := fc wc hB14
        have z2 := fd wc hB14
        obtain ⟨x0, x1, x2, x3, x4, x5, x6⟩ := z1
        obtain ⟨wd, rfl⟩ : ∃ wd, wd = wc := ⟨_, rfl⟩
        have hsd := hB14.size
        clear hb14 f1 f2 z2
        go_upto_region 3 with fail
        go_cut [5] from 16 to 17 (fun s wx => ∃ (b : Nat) (kk : Int) (gg : Bool) (t1 t2 : Value) (A C : List Nat) (nm : ByteArray) (nn : Nat), s = .pointer (some ⟨b, 0, none⟩) ∧ wx.heap[b]? = some (.cells #[.int .i64 kk, .bool gg, t1, t2, .string nm, .int .i64 nn] 32 (0, 0)) ∧ NumAt wx.heap.size wx gg t1 t2 A C ∧ KeyOk k1 g1 num1 den1 nm1 l3 kk gg A C nm nn ∧ Below wd.heap.size wd wx)
        case first =>
          clear hcomp fc fd
          by_cases k1v : k1 = 1
          · subst k1v
            have d := keyOfV_calls (.int .i64 v1) (.string nm1) (.bool g1) (.slice p1 l1 q1) (.slice p2 l2 q2) (.slice a1 l3 c1) wd
            unfold zeroKey at d
            go_wp2_with (go_at_call 6; with_reducible refine d.mono ?_; rintro e w1 ⟨rfl, hb1⟩)
            go_meet
            have hb2 := below_alloc w1 (Obj.cells #[.int .i64 0, .bool false, .slice none 0 0, .slice none 0 0, .string { data := #[] }, .int .i64 0] 32)
            exact ⟨_, 0, false, .slice none 0 0, .slice none 0 0, [], [], { data := #[] }, 0, rfl, heap_alloc_new _ _, ⟨⟨none, 0, rfl, by simp, fun h => absurd rfl h⟩, ⟨none, 0, rfl, by simp, fun h => absurd rfl h⟩⟩, .inl ⟨rfl, rfl, rfl, rfl, rfl, rfl, rfl⟩, hb1.trans (hb2.mono hb1.size)⟩
          · have d := keyOf_calls k1 k1v (.int .i64 v1) nm1 g1 (.slice p1 l1 q1) (.slice p2 l2 q2) num1 den1 n (by have := ro1.len; omega) (by have := ro1.len; omega) a1 l3 c1 wd (by omega) i1
            have kA : Aside (k1 ≠ 1) := k1v
            clear k1v
            go_wp2_with (go_at_call 6; with_reducible refine d.mono ?_; rintro e w1 ⟨t1, t2, rfl, hN, hb1⟩; obtain ⟨⟨u1, e1, rfl, m1⟩, ⟨u2, e2, rfl, m2⟩⟩ := hN)
            go_meet
            have hb2 := below_alloc w1 (Obj.cells #[.int .i64 k1, .bool g1, .slice u1 num1.length e1, .slice u2 den1.length e2, .string nm1, .int .i64 l3] 32)
            exact ⟨_, k1, g1, .slice u1 num1.length e1, .slice u2 den1.length e2, num1, den1, nm1, l3, rfl, heap_alloc_new _ _, ⟨⟨u1, e1, rfl, (m1.below hb2 (Nat.le_refl _)).up hb2.size⟩, ⟨u2, e2, rfl, (m2.below hb2 (Nat.le_refl _)).up hb2.size⟩⟩, .inr ⟨kA.out, rfl, rfl, rfl, rfl, rfl, rfl⟩, hb1.trans (hb2.mono hb1.size)⟩
        case rest =>
          obtain ⟨b5, kk, gg, t1, t2, A, C, nm, nn, rfl, hk5, hN5, hK5, hB5⟩ := hcut
          obtain ⟨we, rfl⟩ : ∃ we, we = wc := ⟨_, rfl⟩
          have hBe := hB14.trans (hB5.mono hB14.size)
          have hse := hB5.size
          have hl5 := (Array.getElem?_eq_some_iff.1 hk5).1
          clear x0 x1 x2 x3 x4 x5 x6
          go_upto_region 4 with fail
          go_cut [6] from 18 to 19 (fun s wx => ∃ (b : Nat) (t1' t2' : Value), s = .pointer (some ⟨b, 0, none⟩) ∧ wx.heap[b]? = some (.cells #[.int .i64 kk, .bool gg, t1', t2', .string nm, .int .i64 nn] 32 (0, 0)) ∧ NumAt wx.heap.size wx gg t1' t2' A C ∧ Below we.heap.size we wx)
          case first =>
            obtain ⟨x0, x1, x2, x3, x4, x5, x6⟩ := fc we hBe
            clear hcomp fc fd
            rcases hK5 with ⟨h1, h2, h3, h4, h5, h6, h7⟩ | ⟨h1, h2, h3, h4, h5, h6, h7⟩
            · subst h1 h2 h3 h4 h5 h6 h7
              have d := rkeyOfV_calls (.int .i64 v1) (.string nm1) (.bool g1) (.slice p1 l1 q1) (.slice p2 l2 q2) (.slice a1 l3 c1) we
              unfold zeroKey at d
              go_wp2_with (go_at_call 7; with_reducible refine d.mono ?_; rintro e w1 ⟨rfl, hb1⟩)
              go_meet
              have hb2 := below_alloc w1 (Obj.cells #[.int .i64 0, .bool false, .slice none 0 0, .slice none 0 0, .string { data := #[] }, .int .i64 0] 32)
              exact ⟨_, .slice none 0 0, .slice none 0 0, rfl, heap_alloc_new _ _, ⟨⟨none, 0, rfl, by simp, fun h => absurd rfl h⟩, ⟨none, 0, rfl, by simp, fun h => absurd rfl h⟩⟩, hb1.trans (hb2.mono hb1.size)⟩
            · have d := rkeyOf_calls k1 h1 (.int .i64 v1) nm1 g1 p1 p2 a1 l1 q1 l2 q2 l3 c1 we
              have hI := i1.below hB5 (by omega)
              subst h2 h3 h4 h5 h6 h7
              have kA : Aside (kk ≠ 1) := h1
              clear h1
              go_wp2_with (go_at_call 7; with_reducible refine d.mono ?_; rintro e w1 ⟨rfl, hb1⟩)
              go_meet
              have hb2 := below_alloc w1 (Obj.cells #[.int .i64 kk, .bool gg, .slice p1 l1 q1, .slice p2 l2 q2, .string nm, .int .i64 nn] 32)
              have hb3 := hb1.trans (hb2.mono hb1.size)
              exact ⟨_, .slice p1 l1 q1, .slice p2 l2 q2, rfl, heap_alloc_new _ _, (hI.below hb3 (by omega)).up (by have := hb3.size; omega), hb3⟩
          case rest =>
            obtain ⟨b6, t1', t2', rfl, hk6, hN6, hB6⟩ := hcut
            obtain ⟨wf, rfl⟩ : ∃ wf, wf = wc := ⟨_, rfl⟩
            have hBf := hBe.trans (hB6.mono hBe.size)
            have hsf := hB6.size
            have hk5f := (hB6.block b5 hl5).trans hk5
            have hl6 := (Array.getElem?_eq_some_iff.1 hk6).1
            have hN5f := (hN5.below hB6 (Nat.le_refl _)).up hB6.size
            have hBwf := hBw.trans (hBf.mono hBw.size)
            have i1f := (N1.below hBwf hn).up (Nat.le_trans hn hBwf.size)
            have i2f := (N2.below hBwf hn).up (Nat.le_trans hn hBwf.size)
            have len1 := ro1.len
            have len2 := ro2.len
            have hAC : A.length ≤ 128 ∧ C.length ≤ 128 ∧ NoZ A ∧ NoZ C := by
              rcases hK5 with ⟨_, _, _, h4, h5, _⟩ | ⟨_, _, _, h4, h5, _⟩
              · subst h4 h5
                exact ⟨by simp, by simp, fun x hx => by simp at hx, fun x hx => by simp at hx⟩
              · subst h4 h5; exact len1
            have d8 := rfits_calls kk k1 gg g1 t1 t2 (.slice p1 l1 q1) (.slice p2 l2 q2) (.int .i64 v1) nm nm1 nn l3 c1 a1 A C num1 den1 wf.heap.size (fun _ _ => by omega) wf (Nat.le_refl _) hN5f i1f
            have hfit : rfitsB kk k1 (decide (shapeN (numText gg A C) = shapeN (numText g1 num1 den1))) nm nm1 nn l3 = true := by
              unfold rfitsB
              rcases hK5 with ⟨h1, h2, h3, h4, h5, h6, h7⟩ | ⟨h1, h2, h3, h4, h5, h6, h7⟩
              · rw [h2]; rfl
              · subst h2 h3 h4 h5 h6 h7; simp
            rw [hfit] at d8
            clear hfit hT hU i1 i2 N1 N2
            obtain ⟨⟨u1, e1, rfl, m1⟩, ⟨u2, e2, rfl, m2⟩⟩ := hN5f
            obtain ⟨⟨u3, e3, rfl, m3⟩, ⟨u4, e4, rfl, m4⟩⟩ := hN6
            clear hN5
            go_upto_region 5 with fail
            go_cut [66] from 20 to 65 (fun s wx => s = .bool false ∧ Below wf.heap.size wf wx)
            case first =>
              have fk5 : ∀ w2, Below wf.heap.size wf w2 → _ := fun w2 hb => cells6 ((hb.block b5 (by omega)).trans hk5f)
              have fk6 : ∀ w2, Below wf.heap.size wf w2 → _ := fun w2 hb => cells6 ((hb.block b6 (by omega)).trans hk6)
              obtain ⟨y0, y1, y2, y3, y4, y5⟩ := fk5 wf (Below.refl _ _)
              obtain ⟨z0, z1, z2, z3, z4, z5⟩ := fk6 wf (Below.refl _ _)
              obtain ⟨x0, x1, x2, x3, x4, x5, x6⟩ := fc wf hBf
              generalize A.length = la at *
              generalize C.length = lc at *
              clear hcomp fc fd hk5 hK5 hk5f hk6 ro1 ro2 hAC len1 len2 i1f i2f m1 m2 m3 m4
              go_wp2_with (go_at_call 8; with_reducible refine d8.mono ?_; rintro e w1 ⟨rfl, hb1⟩; have v0 := (fk5 _ hb1).1; have v2 := (fk5 _ hb1).2.2.1; have v3 := (fk5 _ hb1).2.2.2.1; have t2 := (fk6 _ hb1).2.2.1; have t3 := (fk6 _ hb1).2.2.2.1)
              go_meet
              exact ⟨rfl, hb1⟩
            case rest =>
              obtain ⟨rfl, hB66⟩ := hcut
              obtain ⟨wg, rfl⟩ : ∃ wg, wg = wc := ⟨_, rfl⟩
              have hBg := hBf.trans (hB66.mono hBf.size)
              have hsg := hB66.size
              have hBwg := hBw.trans (hBg.mono hBw.size)
              have gc : ∀ w2, Below wg.heap.size wg w2 → _ := fun w2 hb => fc w2 (hBg.trans (hb.mono hBg.size))
              have gd : ∀ w2, Below wg.heap.size wg w2 → _ := fun w2 hb => fd w2 (hBg.trans (hb.mono hBg.size))
              have gk5 : ∀ w2, Below wg.heap.size wg w2 → _ := fun w2 hb => cells6 (((hB66.trans (hb.mono hsg)).block b5 (by omega)).trans hk5f)
              have gk6 : ∀ w2, Below wg.heap.size wg w2 → _ := fun w2 hb => cells6 (((hB66.trans (hb.mono hsg)).block b6 (by omega)).trans hk6)
              have hBd : Below wg.heap.size wg { wg with drawn := wg.drawn + 1 } := ⟨rfl, rfl, rfl, Nat.le_refl _, fun _ _ => rfl⟩
              have K5 : ∀ w2, Below wg.heap.size wg w2 → NumAt wf.heap.size w2 gg (.slice u1 A.length e1) (.slice u2 C.length e2) A C := fun w2 hb => (⟨⟨u1, e1, rfl, m1⟩, ⟨u2, e2, rfl, m2⟩⟩ : NumAt wf.heap.size wf gg _ _ A C).below (hB66.trans (hb.mono hsg)) (Nat.le_refl _)
              have K6 : ∀ w2, Below wg.heap.size wg w2 → NumAt wf.heap.size w2 gg (.slice u3 A.length e3) (.slice u4 C.length e4) A C := fun w2 hb => (⟨⟨u3, e3, rfl, m3⟩, ⟨u4, e4, rfl, m4⟩⟩ : NumAt wf.heap.size wf gg _ _ A C).below (hB66.trans (hb.mono hsg)) (Nat.le_refl _)
              have J1 : ∀ w2, Below wg.heap.size wg w2 → NumAt wf.heap.size w2 g1 (.slice p1 l1 q1) (.slice p2 l2 q2) num1 den1 := fun w2 hb => i1f.below (hB66.trans (hb.mono hsg)) (Nat.le_refl _)
              have J2 : ∀ w2, Below wg.heap.size wg w2 → NumAt wf.heap.size w2 g2 (.slice p3 l4 q3) (.slice p4 l5 q4) num2 den2 := fun w2 hb => i2f.below (hB66.trans (hb.mono hsg)) (Nat.le_refl _)
              have hszg : ∀ w2, Below wg.heap.size wg w2 → wf.heap.size ≤ w2.heap.size := fun w2 hb => Nat.le_trans hsg hb.size
              go_upto_region 7 with fail
              refine Heavy.region_plan (fun w' => Below wg.heap.size wg w') 18 (Heavy.lights [0, 1, 3, 4] (.one 2 (.one 5 (Heavy.lights [6, 7, 8, 10, 12, 13] (.one 9 (.one 11 (.one 14 (Heavy.lights [15, 16, 17] .done)))))))) (by kernel_rfl) (by kernel_rfl) hBd ?_
              simp only [Heavy.lights, List.take_succ_cons, List.take_zero, List.drop_succ_cons, List.drop_zero]
              have E9 := fun w2 hb => fits_calls kk k2 gg g2 (.slice u1 A.length e1) (.slice u2 C.length e2) (.slice p3 l4 q3) (.slice p4 l5 q4) (.int .i64 v2) nm nm2 nn l6 c2 a2 A C num2 den2 wf.heap.size (by omega) (by omega) w2 (hszg w2 hb) (K5 w2 hb) (J2 w2 hb)
              have E8 := fun w2 hb => rfits_calls kk k2 gg g2 (.slice u3 A.length e3) (.slice u4 C.length e4) (.slice p3 l4 q3) (.slice p4 l5 q4) (.int .i64 v2) nm nm2 nn l6 c2 a2 A C num2 den2 wf.heap.size (fun _ _ => by omega) w2 (hszg w2 hb) (K6 w2 hb) (J2 w2 hb)
              have E6 := fun w2 hb => keyOf_any ro2 v2 nm2 p3 p4 a2 l4 l5 l6 q3 q4 c2 wf.heap.size w2 (hszg w2 hb) (J2 w2 hb)
              have hagree := fits_agree (nm2 := nm2) (l6 := l6) ro1 ro2 hK5 bb1 bb2 bb3 bb4
              obtain ⟨F, hF⟩ : ∃ F, fitsB kk k2 (decide (gg = g2 ∧ A = num2 ∧ C = den2)) nm nm2 nn l6 = F := ⟨_, rfl⟩
              rw [hF] at hagree
              simp only [hF] at E9
              simp only [← hagree] at E8
              iterate 4 (apply Heavy.light_n; (exact rfl); (exact rfl); (intro wr2 hw; have ka0 := (gk5 wr2 hw).1; have ka1 := (gk5 wr2 hw).2.1; have ka2 := (gk5 wr2 hw).2.2.1; have ka3 := (gk5 wr2 hw).2.2.2.1; have ka4 := (gk5 wr2 hw).2.2.2.2.1; have ka5 := (gk5 wr2 hw).2.2.2.2.2; have kb0 := (gk6 wr2 hw).1; have kb1 := (gk6 wr2 hw).2.1; have kb2 := (gk6 wr2 hw).2.2.1; have kb3 := (gk6 wr2 hw).2.2.2.1; have kb4 := (gk6 wr2 hw).2.2.2.2.1; have kb5 := (gk6 wr2 hw).2.2.2.2.2; have ta0 := (gc wr2 hw).1; have ta1 := (gc wr2 hw).2.1; have ta2 := (gc wr2 hw).2.2.1; have ta3 := (gc wr2 hw).2.2.2.1; have ta4 := (gc wr2 hw).2.2.2.2.1; have ta5 := (gc wr2 hw).2.2.2.2.2.1; have ta6 := (gc wr2 hw).2.2.2.2.2.2; have tb0 := (gd wr2 hw).1; have tb1 := (gd wr2 hw).2.1; have tb2 := (gd wr2 hw).2.2.1; have tb3 := (gd wr2 hw).2.2.2.1; have tb4 := (gd wr2 hw).2.2.2.2.1; have tb5 := (gd wr2 hw).2.2.2.2.2.1; have tb6 := (gd wr2 hw).2.2.2.2.2.2; go_simp; exact rfl))
              apply Heavy.one_n
              · exact rfl
              · exact rfl
              go_simp
              refine (E9 _ hBd).mono ?_
              rintro e w3 ⟨rfl, hb3⟩
              have hB3 : Below wg.heap.size wg w3 := hBd.trans hb3
              refine ⟨_, rfl, hB3, ?_⟩
              apply Heavy.one_n
              · exact rfl
              · exact rfl
              go_simp
              refine (E8 _ hB3).mono ?_
              rintro e w4 ⟨rfl, hb4⟩
              have hB4 : Below wg.heap.size wg w4 := hB3.trans (hb4.mono hB3.size)
              refine ⟨_, rfl, hB4, ?_⟩
              have hFF : (F == F) = true := by simp
              iterate 6 (first | (apply Heavy.light_n; (exact rfl); (exact rfl); (intro wr2 hw; have ka0 := (gk5 wr2 hw).1; have ka1 := (gk5 wr2 hw).2.1; have ka2 := (gk5 wr2 hw).2.2.1; have ka3 := (gk5 wr2 hw).2.2.2.1; have ka4 := (gk5 wr2 hw).2.2.2.2.1; have ka5 := (gk5 wr2 hw).2.2.2.2.2; have kb0 := (gk6 wr2 hw).1; have kb1 := (gk6 wr2 hw).2.1; have kb2 := (gk6 wr2 hw).2.2.1; have kb3 := (gk6 wr2 hw).2.2.2.1; have kb4 := (gk6 wr2 hw).2.2.2.2.1; have kb5 := (gk6 wr2 hw).2.2.2.2.2; have ta0 := (gc wr2 hw).1; have ta1 := (gc wr2 hw).2.1; have ta2 := (gc wr2 hw).2.2.1; have ta3 := (gc wr2 hw).2.2.2.1; have ta4 := (gc wr2 hw).2.2.2.2.1; have ta5 := (gc wr2 hw).2.2.2.2.2.1; have ta6 := (gc wr2 hw).2.2.2.2.2.2; have tb0 := (gd wr2 hw).1; have tb1 := (gd wr2 hw).2.1; have tb2 := (gd wr2 hw).2.2.1; have tb3 := (gd wr2 hw).2.2.2.1; have tb4 := (gd wr2 hw).2.2.2.2.1; have tb5 := (gd wr2 hw).2.2.2.2.2.1; have tb6 := (gd wr2 hw).2.2.2.2.2.2; go_simp; exact rfl)) | (apply Heavy.light_step; (exact rfl); (go_simp); (intro wr2 hw; have ka0 := (gk5 wr2 hw).1; have ka1 := (gk5 wr2 hw).2.1; have ka2 := (gk5 wr2 hw).2.2.1; have ka3 := (gk5 wr2 hw).2.2.2.1; have ka4 := (gk5 wr2 hw).2.2.2.2.1; have ka5 := (gk5 wr2 hw).2.2.2.2.2; have kb0 := (gk6 wr2 hw).1; have kb1 := (gk6 wr2 hw).2.1; have kb2 := (gk6 wr2 hw).2.2.1; have kb3 := (gk6 wr2 hw).2.2.2.1; have kb4 := (gk6 wr2 hw).2.2.2.2.1; have kb5 := (gk6 wr2 hw).2.2.2.2.2; have ta0 := (gc wr2 hw).1; have ta1 := (gc wr2 hw).2.1; have ta2 := (gc wr2 hw).2.2.1; have ta3 := (gc wr2 hw).2.2.2.1; have ta4 := (gc wr2 hw).2.2.2.2.1; have ta5 := (gc wr2 hw).2.2.2.2.2.1; have ta6 := (gc wr2 hw).2.2.2.2.2.2; have tb0 := (gd wr2 hw).1; have tb1 := (gd wr2 hw).2.1; have tb2 := (gd wr2 hw).2.2.1; have tb3 := (gd wr2 hw).2.2.2.1; have tb4 := (gd wr2 hw).2.2.2.2.1; have tb5 := (gd wr2 hw).2.2.2.2.2.1; have tb6 := (gd wr2 hw).2.2.2.2.2.2; go_simp; exact rfl)))
              apply Heavy.one_step
              · exact rfl
              · go_simp
              go_simp
              refine (E6 _ hB4).mono ?_
              rintro e w5 ⟨kk', gg', s1', s2', A', C', nm', nn', rfl, hN', hK', hA', hC', hb5⟩
              have hB5' : Below wg.heap.size wg w5 := hB4.trans (hb5.mono hB4.size)
              have E9' := fits_calls kk' k1 gg' g1 s1' s2' (.slice p1 l1 q1) (.slice p2 l2 q2) (.int .i64 v1) nm' nm1 nn' l3 c1 a1 A' C' num1 den1 w5.heap.size (by omega) (by omega) w5 (Nat.le_refl _) hN' ((J1 w5 hB5').up (hszg w5 hB5'))
              rw [fits_sym ro1 ro2 hK5 hK', hF] at E9'
              refine ⟨_, rfl, hB5', ?_⟩
              apply Heavy.one_step
              · exact rfl
              · go_simp
              go_simp
              refine E9'.mono ?_
              rintro e w6 ⟨rfl, hb6⟩
              have hB6' : Below wg.heap.size wg w6 := hB5'.trans (hb6.mono hB5'.size)
              refine ⟨_, rfl, hB6', ?_⟩
              apply Heavy.one_step
              · exact rfl
              · go_simp
              go_simp
              refine (E9 _ hB6').mono ?_
              rintro e w7 ⟨rfl, hb7⟩
              have hB7 : Below wg.heap.size wg w7 := hB6'.trans (hb7.mono hB6'.size)
              refine ⟨_, rfl, hB7, ?_⟩
              iterate 3 (first | (apply Heavy.light_n; (exact rfl); (exact rfl); (intro wr2 hw; go_simp; exact rfl)) | (apply Heavy.light_step; (exact rfl); (go_simp); (intro wr2 hw; go_simp; exact rfl)))
              apply Heavy.plan_end
              show wpList _ _ _ _ _ _
              have hBw7 := hBwg.trans (hB7.mono hBwg.size)
              have hc := hcomp w7 hBw7
              go_wp2_with (go_at_call 5; with_reducible refine hc.mono ?_; rintro e w8 ⟨rfl, hb8⟩)
              go_ret
              exact ⟨rfl, hBw7.trans (hb8.mono hBw7.size)⟩
      · have hc := hcomp wc (hBw.trans (hB14.mono hBw.size))
        go_wp2_with (go_at_call 5; with_reducible refine hc.mono ?_; rintro e w1 ⟨rfl, hb1⟩)
        go_ret
        have hB := hBw.trans (hB14.mono hBw.size)
        exact ⟨rfl, hB.trans (hb1.mono hB.size)⟩
end Go.Proofs.YtkacnifdhfffmaaGreatDoor
end
