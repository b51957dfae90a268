/-
  A part of the proof of the card of WorkbenchClausesInOrder (second form): lemmas that the text Card uses. No condition of its own.
-/
import Derived.Test.YtihaajnknnapmaaGreatDoorRefD
import Derived.LoopN
import Derived.Laws.Strings
import Derived.Lib.SliceRun
set_option linter.all false
set_option linter.unusedVariables false
set_option linter.unusedSimpArgs false
section
namespace Go.Proofs.YtihaajnknnapmaaGreatDoor
open Go.RowKit Go.Big
theorem BytRow.down {base base' : Nat} {w : World} {sv : Value} {D : List Nat} (h : BytRow base w sv D) (hb : base' ≤ base) : BytRow base' w sv D := by
  obtain ⟨h1, h2 | ⟨g, cap, cur, e1, hb', hg⟩⟩ := h
  · exact ⟨h1, .inl h2⟩
  · exact ⟨h1, .inr ⟨g, cap, cur, e1, by omega, hg⟩⟩
theorem BytRow.string {base : Nat} {w : World} {sv : Value} {D : List Nat} (h : BytRow base w sv D) : (convert 46 9 sv).run Tryz.prog w = .ok (.string (strN D)) w := by
  obtain ⟨a, c, rfl, _, _, hat⟩ := h.at
  by_cases hne : D = []
  · subst hne
    rcases h.2 with ⟨e, _⟩ | ⟨g, cap, cur, e, hr⟩
    · cases e
      exact run_convert_bytes_nil w 46 5 Tryz.underlying46 Tryz.underlying5 0 0 9 Tryz.underlying9
    · cases e
      exact run_convert_bytes_arg w 46 5 Tryz.underlying46 Tryz.underlying5 g 0 0 c [] rfl (fun i hi => absurd hi (by omega)) 9 Tryz.underlying9
  · obtain ⟨b, off, rfl, hb, hc⟩ := hat hne
    exact run_convert_bytes_arg w 46 5 Tryz.underlying46 Tryz.underlying5 b off D.length c (D.map fun x : Nat => (x : Int)) (by simp) (fun i hi => by
      obtain ⟨x, hx⟩ : ∃ x, D[i]? = some x := ⟨D[i], List.getElem?_eq_getElem hi⟩
      rw [hc i x hx]
      simp [hx]) 9 Tryz.underlying9
def shapeN (s : List Nat) : List Nat := dec s.length ++ 58 :: s
theorem shapeN_inj {s t : List Nat} (h : shapeN s = shapeN t) : s = t := by
  have key : ∀ (A C : List Nat) (s t : List Nat), (∀ x ∈ A, x ≠ 58) → (∀ x ∈ C, x ≠ 58) → A ++ 58 :: s = C ++ 58 :: t → s = t := by
    intro A
    induction A with
    | nil =>
      intro C s t _ hC h
      cases C with
      | nil => simpa using h
      | cons y C => exact absurd (List.cons.inj h).1.symm (hC y (by simp))
    | cons x A ih =>
      intro C s t hA hC h
      cases C with
      | nil => exact absurd (List.cons.inj h).1 (hA x (by simp))
      | cons y C => exact ih C s t (fun z hz => hA z (by simp [hz])) (fun z hz => hC z (by simp [hz])) (List.cons.inj h).2
  exact key _ _ _ _ (fun x hx => by have := dec_lt x hx; omega) (fun x hx => by have := dec_lt x hx; omega) h
set_option maxRecDepth 100000 in
set_option maxHeartbeats 1000000 in
/-- shape of a number -/
theorem rshape_calls (k : Value) (nm : Value) (neg : Bool) (a1 a2 : Option Addr) (len1 len2 cap1 cap2 n : Nat) (A C : List Nat) (hl1 : A.length = len1) (hl2 : C.length = len2) (hb1 : len1 ≤ 1000) (hb2 : len2 ≤ 1000) (w : World) (hn : n ≤ w.heap.size) (h1 : LimAt n w a1 A) (h2 : LimAt n w a2 C) (s : List Nat) (hs : s = 110 :: ratText neg (val 4294967296 A) (val 4294967296 C)) (hsl : s.length ≤ 100000001) (hs256 : ∀ x ∈ s, x < 256) :
    Calls Tryz.prog 11 #[.slice none 0 0, .agg #[.int .i64 2, k, nm, .bool neg, .slice a1 len1 cap1, .slice a2 len2 cap2, .slice none 0 0]] w fun e w' => ∃ sv, e = .returned sv ∧ BytRow w.heap.size w' sv (shapeN s) ∧ Below w.heap.size w w' := by
  have b1 := below_alloc w (Obj.cells #[.int .i64 2, k, nm, .bool neg, .slice a1 len1 cap1, .slice a2 len2 cap2, .slice none 0 0] 36)
  have d1 := rlabelN_calls k nm (.slice none 0 0) neg a1 a2 len1 len2 cap1 cap2 n A C hl1 hl2 hb1 hb2 (w.alloc (Obj.cells #[.int .i64 2, k, nm, .bool neg, .slice a1 len1 cap1, .slice a2 len2 cap2, .slice none 0 0] 36)) (by simp; omega) (h1.below b1 hn) (h2.below b1 hn)
  rw [← hs] at d1
  have hq := heap_alloc_new w (Obj.cells #[.int .i64 2, k, nm, .bool neg, .slice a1 len1 cap1, .slice a2 len2 cap2, .slice none 0 0] 36)
  obtain ⟨m, hm⟩ : ∃ m, s.length = m := ⟨_, rfl⟩
  have d2 := fun w' => rtxt_calls m (by omega) w'
  have hssz : (strN s).size = m := by rw [strN_size, hm]
  have hdl : ∀ x ∈ dec m, x < 256 := fun x hx => by have := dec_lt x hx; omega
  have hdlen : (dec m).length ≤ 1000 := by
    unfold dec
    split
    · simp
    · have := digs_len 64 (n := m) (Nat.lt_of_le_of_lt (show m ≤ 100000001 by omega) (by decide))
      simp; omega
  obtain ⟨wb, hwb⟩ : ∃ wb, w.alloc (Obj.cells #[.int .i64 2, k, nm, .bool neg, .slice a1 len1 cap1, .slice a2 len2 cap2, .slice none 0 0] 36) = wb := ⟨_, rfl⟩
  rw [hwb] at hq b1 d1
  have hsz : w.heap.size + 1 ≤ wb.heap.size := by rw [← hwb, World.size_alloc]; omega
  have c0 : wb.cell? ⟨w.heap.size, 0, none⟩ = some (.int .i64 2) := by simp [World.cell?, hq]
  have c1 : wb.cell? ⟨w.heap.size, 1, none⟩ = some k := by simp [World.cell?, hq]
  have c2 : wb.cell? ⟨w.heap.size, 2, none⟩ = some nm := by simp [World.cell?, hq]
  have c3 : wb.cell? ⟨w.heap.size, 3, none⟩ = some (.bool neg) := by simp [World.cell?, hq]
  have c4 : wb.cell? ⟨w.heap.size, 4, none⟩ = some (.slice a1 len1 cap1) := by simp [World.cell?, hq]
  have c5 : wb.cell? ⟨w.heap.size, 5, none⟩ = some (.slice a2 len2 cap2) := by simp [World.cell?, hq]
  have c6 : wb.cell? ⟨w.heap.size, 6, none⟩ = some (.slice none 0 0) := by simp [World.cell?, hq]
  have fc : ∀ w', Below (w.heap.size + 1) wb w' → w'.cell? ⟨w.heap.size, 6, none⟩ = some (.slice none 0 0) := fun w' hb => (hb.cell (p := ⟨w.heap.size, 6, none⟩) (by show w.heap.size < _; omega)).trans c6
  clear hs h1 h2 hq
  go_enter Tryz.func11, Tryz.ntmps11
  go_wp2_with first | (go_at_call 19; with_reducible refine d1.mono ?_; rintro e w1 ⟨rfl, hb1⟩) | (go_at_call 20; with_reducible refine (d2 _).mono ?_; rintro e w2 ⟨rfl, hb2⟩) | (at_builtin; refine wpList_pushS _ rfl _ _ rfl (w.heap.size + 1) _ [] (dec m) hdl rfl rfl (BytRow.nil _ w2) (by simp; omega) (by have := hb1.size; have := hb2.size; omega) ?_; intro v1 w3 hR1 hg1) | (at_builtin; refine wpList_pushB _ rfl _ _ rfl (w.heap.size + 1) _ ([] ++ dec m) [58] 1 rfl rfl w3.heap.size 1 rfl (new_cells w3 [bv 58] 5 (0, 0)) (hR1.below (below_alloc _ _) (Nat.le_refl _)) (by simp; omega) (by have := hb1.size; have := hb2.size; have := hg1.size; simp; omega) ?_; intro v2 w4 hR2 hg2) | (at_builtin; refine wpList_pushS _ rfl _ _ rfl (w.heap.size + 1) _ ([] ++ dec m ++ [58]) s hs256 rfl rfl hR2 (by simp; omega) (by have := hb1.size; have := hb2.size; have := hg1.size; have := hg2.size; simp at this; omega) ?_; intro v3 w5 hR3 hg3; have hbe : Below (w.heap.size + 1) wb w5 := ((hb1.mono hsz).trans (hb2.mono (by have := hb1.size; omega))).trans ((hg1.trans (below_alloc _ _ |>.mono (by have := hb1.size; have := hb2.size; have := hg1.size; omega))).trans (hg2.trans hg3)); have e6 := fc _ hbe)
  refine wp_loop_rounds 1 ?_
  rw [rounds_succ]
  go_wp2
  go_ret
  refine ⟨_, rfl, ?_, b1.trans (hbe.mono (by omega))⟩
  have : [] ++ dec m ++ [58] ++ s = shapeN s := by unfold shapeN; rw [hm]; simp
  rw [← this]
  exact hR3.down (by omega)
set_option maxRecDepth 100000 in
set_option maxHeartbeats 1000000 in
/-- Shape of a number -/
theorem rShape_calls (neg : Bool) (a1 a2 : Option Addr) (len1 len2 cap1 cap2 n : Nat) (A C : List Nat) (hl1 : A.length = len1) (hl2 : C.length = len2) (hb1 : len1 ≤ 1000) (hb2 : len2 ≤ 1000) (w : World) (hn : n ≤ w.heap.size) (h1 : LimAt n w a1 A) (h2 : LimAt n w a2 C) (s : List Nat) (hs : s = 110 :: ratText neg (val 4294967296 A) (val 4294967296 C)) (hsl : s.length ≤ 100000001) (hs256 : ∀ x ∈ s, x < 256) :
    Calls Tryz.prog 6 #[.agg #[.int .i64 2, .int .i64 0, .string { data := #[] }, .bool neg, .slice a1 len1 cap1, .slice a2 len2 cap2, .slice none 0 0]] w fun e w' => e = .returned (.string (strN (shapeN s))) ∧ Below w.heap.size w w' := by
  have b1 := below_alloc w (Obj.cells #[.int .i64 2, .int .i64 0, .string { data := #[] }, .bool neg, .slice a1 len1 cap1, .slice a2 len2 cap2, .slice none 0 0] 36)
  have d1 := rshape_calls (.int .i64 0) (.string { data := #[] }) neg a1 a2 len1 len2 cap1 cap2 n A C hl1 hl2 hb1 hb2 (w.alloc (Obj.cells #[.int .i64 2, .int .i64 0, .string { data := #[] }, .bool neg, .slice a1 len1 cap1, .slice a2 len2 cap2, .slice none 0 0] 36)) (by simp; omega) (h1.below b1 hn) (h2.below b1 hn) s hs hsl hs256
  clear h1 h2 hs
  go_enter Tryz.func6, Tryz.ntmps6
  go_wp2_with (go_at_call 11; with_reducible refine d1.mono ?_; rintro e w1 ⟨sv, rfl, hR, hb1⟩; have hst := hR.string)
  go_ret
  exact ⟨rfl, b1.trans (hb1.mono b1.size)⟩
end Go.Proofs.YtihaajnknnapmaaGreatDoor
end
section
namespace Go.Proofs.YtihaajnknnapmaaGreatDoor
open Go.RowKit Go.Big
attribute [local go_sem] Heavy.uponW
def numText (neg : Bool) (A C : List Nat) : List Nat := 110 :: ratText neg (val 4294967296 A) (val 4294967296 C)
theorem lim_lt {A : List Nat} {M : Nat} (h : ∀ x ∈ A, x < 4294967296) (hM : 2 * A.length ≤ M) : val 4294967296 A < 65536 ^ M := by
  rw [← twos_val A]
  refine Nat.lt_of_lt_of_le (val_lt (twos_lt h)) (Nat.pow_le_pow_right (by decide) ?_)
  rw [twos_len]; exact hM
theorem ratText_lt {neg : Bool} {x y : Nat} : ∀ z ∈ ratText neg x y, z < 256 := by
  intro z hz
  unfold ratText at hz
  rcases List.mem_append.1 hz with h | h
  · split at h
    · simp at h; omega
    · simp at h
  · rcases List.mem_append.1 h with h | h
    · have := dec_lt z h; omega
    · split at h
      · simp at h
      · rcases List.mem_cons.1 h with rfl | h
        · omega
        · have := dec_lt z h; omega
theorem ratText_len {neg : Bool} {x y M : Nat} (hx : x < 65536 ^ M) (hy : y < 65536 ^ M) (hM : M ≤ 1048576) : (ratText neg x y).length ≤ 100000000 := by
  have lx := dec_lenM hx hM
  have ly := dec_lenM hy hM
  unfold ratText
  rw [List.length_append, List.length_append]
  have e1 : (if neg = true then [45] else ([] : List Nat)).length ≤ 1 := by split <;> simp
  have e2 : (if y = 1 then ([] : List Nat) else 114 :: dec y).length ≤ 16777218 := by split <;> simp; omega
  omega
theorem dec_ne {x : Nat} : dec x ≠ [] := by
  unfold dec
  split
  · simp
  · rename_i h
    rw [digs_pos h]; simp
theorem dec_split : ∀ (A C s t : List Nat), (∀ x ∈ A, 48 ≤ x ∧ x < 58) → (∀ x ∈ C, 48 ≤ x ∧ x < 58) → (s = [] ∨ ∃ r, s = 114 :: r) → (t = [] ∨ ∃ r, t = 114 :: r) → A ++ s = C ++ t → A = C ∧ s = t
  | [], [], s, t, _, _, _, _, h => ⟨rfl, by simpa using h⟩
  | [], y :: C, s, t, _, hC, hs, _, h => by
    have hy := hC y (by simp)
    rcases hs with rfl | ⟨r, rfl⟩
    · simp at h
    · simp at h; omega
  | x :: A, [], s, t, hA, _, _, ht, h => by
    have hx := hA x (by simp)
    rcases ht with rfl | ⟨r, rfl⟩
    · simp at h
    · simp at h; omega
  | x :: A, y :: C, s, t, hA, hC, hs, ht, h => by
    rw [List.cons_append, List.cons_append] at h
    obtain ⟨e0, h0⟩ := List.cons.inj h
    obtain ⟨e1, e⟩ := dec_split A C s t (fun z hz => hA z (by simp [hz])) (fun z hz => hC z (by simp [hz])) hs ht h0
    exact ⟨by rw [e0, e1], e⟩
theorem ratText_inj {n1 n2 : Bool} {x1 y1 x2 y2 : Nat} (h : ratText n1 x1 y1 = ratText n2 x2 y2) : n1 = n2 ∧ x1 = x2 ∧ y1 = y2 := by
  have core : ∀ {x1 y1 x2 y2 : Nat}, (dec x1 ++ if y1 = 1 then [] else 114 :: dec y1) = (dec x2 ++ if y2 = 1 then [] else 114 :: dec y2) → x1 = x2 ∧ y1 = y2 := by
    intro x1 y1 x2 y2 h
    obtain ⟨e1, e2⟩ := dec_split _ _ _ _ (fun x hx => dec_lt x hx) (fun x hx => dec_lt x hx) (by split; exact .inl rfl; exact .inr ⟨_, rfl⟩) (by split; exact .inl rfl; exact .inr ⟨_, rfl⟩) h
    refine ⟨dec_inj e1, ?_⟩
    by_cases h1 : y1 = 1
    · by_cases h2 : y2 = 1
      · rw [h1, h2]
      · rw [if_pos h1, if_neg h2] at e2; simp at e2
    · by_cases h2 : y2 = 1
      · rw [if_neg h1, if_pos h2] at e2; simp at e2
      · rw [if_neg h1, if_neg h2] at e2
        exact dec_inj (List.cons.inj e2).2
  have hd : ∀ x r s, dec x ++ r ≠ 45 :: s := by
    intro x r s e
    match hx : dec x with
    | [] => exact dec_ne hx
    | c :: cs =>
      have := dec_lt c (show c ∈ dec x by rw [hx]; simp)
      rw [hx, List.cons_append] at e
      have := (List.cons.inj e).1
      omega
  unfold ratText at h
  cases n1 <;> cases n2
  · exact ⟨rfl, core (by simpa using h)⟩
  · exact absurd (by simpa using h) (hd _ _ _)
  · exact absurd (by simpa using h.symm) (hd _ _ _)
  · exact ⟨rfl, core (by simpa using h)⟩
theorem numText_inj {n1 n2 : Bool} {A1 C1 A2 C2 : List Nat} (ha1 : ∀ x ∈ A1, x < 4294967296) (hc1 : ∀ x ∈ C1, x < 4294967296) (ha2 : ∀ x ∈ A2, x < 4294967296) (hc2 : ∀ x ∈ C2, x < 4294967296)
    (za1 : NoZ A1) (zc1 : NoZ C1) (za2 : NoZ A2) (zc2 : NoZ C2) : shapeN (numText n1 A1 C1) = shapeN (numText n2 A2 C2) ↔ n1 = n2 ∧ A1 = A2 ∧ C1 = C2 := by
  constructor
  · intro h
    obtain ⟨e1, e2, e3⟩ := ratText_inj (List.cons.inj (shapeN_inj h)).2
    exact ⟨e1, za1.eq za2 ha1 ha2 (by decide) e2, zc1.eq zc2 hc1 hc2 (by decide) e3⟩
  · rintro ⟨rfl, rfl, rfl⟩; rfl
def numV (neg : Bool) (a1 a2 : Option Addr) (l1 l2 c1 c2 : Nat) : Value := .agg #[.int .i64 2, .int .i64 0, .string { data := #[] }, .bool neg, .slice a1 l1 c1, .slice a2 l2 c2, .slice none 0 0]
/-- a number in memory -/
structure NumAt (n : Nat) (w : World) (neg : Bool) (s1 s2 : Value) (A C : List Nat) : Prop where
  at1 : ∃ a c, s1 = .slice a A.length c ∧ LimAt n w a A
  at2 : ∃ a c, s2 = .slice a C.length c ∧ LimAt n w a C
theorem NumAt.below {n m : Nat} {w w' : World} {neg : Bool} {s1 s2 : Value} {A C : List Nat} (h : NumAt n w neg s1 s2 A C) (hb : Below m w w') (hm : n ≤ m) : NumAt n w' neg s1 s2 A C := by
  obtain ⟨⟨a, c, e1, h1⟩, ⟨a', c', e2, h2⟩⟩ := h
  exact ⟨⟨a, c, e1, h1.below hb hm⟩, ⟨a', c', e2, h2.below hb hm⟩⟩
theorem rShapeN (neg : Bool) (s1 s2 : Value) (A C : List Nat) (n : Nat) (hA : A.length ≤ 1000) (hC : C.length ≤ 1000) (w : World) (hn : n ≤ w.heap.size) (h : NumAt n w neg s1 s2 A C) :
    Calls Tryz.prog 6 #[.agg #[.int .i64 2, .int .i64 0, .string { data := #[] }, .bool neg, s1, s2, .slice none 0 0]] w fun e w' => e = .returned (.string (strN (shapeN (numText neg A C)))) ∧ Below w.heap.size w w' := by
  obtain ⟨⟨a, c, rfl, h1⟩, ⟨a', c', rfl, h2⟩⟩ := h
  refine rShape_calls neg a a' A.length C.length c c' n A C rfl rfl hA hC w hn h1 h2 _ rfl ?_ ?_
  · obtain ⟨M, hM⟩ : ∃ M : Nat, M = 2000 := ⟨_, rfl⟩
    have := ratText_len (neg := neg) (M := M) (lim_lt h1.1 (by omega)) (lim_lt h2.1 (by omega)) (by omega)
    show (110 :: _).length ≤ _
    rw [List.length_cons]; omega
  · intro x hx
    rcases List.mem_cons.1 hx with rfl | hx
    · omega
    · exact ratText_lt x hx
theorem strEq (a c : ByteArray) : (a.toList == c.toList) = decide (a = c) := by
  rw [ByteArray.toList_eq, ByteArray.toList_eq]
  by_cases h : a = c
  · subst h; simp
  · rw [decide_eq_false h]
    simp only [beq_eq_false_iff_ne, ne_eq]
    exact fun e => h (byteArray_ext' e)
theorem shapeN_lt {s : List Nat} (h : ∀ x ∈ s, x < 256) : ∀ x ∈ shapeN s, x < 256 := by
  intro x hx
  unfold shapeN at hx
  rcases List.mem_append.1 hx with hx | hx
  · have := dec_lt x hx; omega
  · rcases List.mem_cons.1 hx with rfl | hx
    · omega
    · exact h x hx
theorem numText_lt {neg : Bool} {A C : List Nat} : ∀ x ∈ numText neg A C, x < 256 := by
  intro x hx
  rcases List.mem_cons.1 hx with rfl | hx
  · omega
  · exact ratText_lt x hx
theorem cells7 {w : World} {g : Nat} {v0 v1 v2 v3 v4 v5 v6 : Value} {e : TypeId} {fr : Nat × Nat} (h : w.heap[g]? = some (.cells #[v0, v1, v2, v3, v4, v5, v6] e fr)) :
    w.cell? ⟨g, 0, none⟩ = some v0 ∧ w.cell? ⟨g, 1, none⟩ = some v1 ∧ w.cell? ⟨g, 2, none⟩ = some v2 ∧ w.cell? ⟨g, 3, none⟩ = some v3 ∧ w.cell? ⟨g, 4, none⟩ = some v4 ∧ w.cell? ⟨g, 5, none⟩ = some v5 ∧ w.cell? ⟨g, 6, none⟩ = some v6 := by
  simp [World.cell?, h]
theorem two_blocks (w : World) (o1 o2 : Obj) : Below w.heap.size w ((w.alloc o1).alloc o2) ∧ ((w.alloc o1).alloc o2).heap[w.heap.size]? = some o1 ∧ ((w.alloc o1).alloc o2).heap[w.heap.size + 1]? = some o2 ∧ w.heap.size + 2 ≤ ((w.alloc o1).alloc o2).heap.size := by
  have b1 := below_alloc w o1
  have b2 := below_alloc (w.alloc o1) o2
  have q1 := heap_alloc_new w o1
  have q2 := heap_alloc_new (w.alloc o1) o2
  rw [World.size_alloc] at q2 b2
  exact ⟨b1.trans (b2.mono (by omega)), (b2.block w.heap.size (by omega)).trans q1, q2, by simp⟩
end Go.Proofs.YtihaajnknnapmaaGreatDoor
end
section
namespace Go.Proofs.YtihaajnknnapmaaGreatDoor
open Go.RowKit Go.Big
attribute [local go_sem] Heavy.uponW
theorem inf61 : (Tryz.prog.info? 61).map (fun i => (i.zero, i.size, i.bytes)) = some (some (.int .u32 0), 1, 4) := by kernel_rfl
def lv (x : Nat) : Value := .int .u32 x
/-- limbs in blocks of a set -/
def LimS (S : Nat → Prop) (w : World) (a : Option Addr) (L : List Nat) : Prop :=
  (∀ x ∈ L, x < 4294967296) ∧ (L ≠ [] → ∃ b off, a = some ⟨b, off, none⟩ ∧ S b ∧ ∀ (j x : Nat), L[j]? = some x → w.cell? ⟨b, off + j, none⟩ = some (.int .u32 x))
/-- the blocks from a to b are new -/
def Fresh (a b : Nat) : Nat → Prop := fun k => a ≤ k ∧ k < b
/-- a set's blocks are as they were -/
def Same (S : Nat → Prop) (w w' : World) : Prop := ∀ k, S k → w'.heap[k]? = w.heap[k]?
theorem Same.cell {S : Nat → Prop} {w w' : World} (h : Same S w w') {p : Addr} (hp : S p.block) : w'.cell? p = w.cell? p := World.cell?_of_block (w := w) (h p.block hp)
theorem Same.of_below {S : Nat → Prop} {m : Nat} {w w' : World} (h : Below m w w') (hS : ∀ k, S k → k < m) : Same S w w' := fun k hk => h.block k (hS k hk)
theorem Same.trans {S : Nat → Prop} {a b c : World} (h : Same S a b) (h' : Same S b c) : Same S a c := fun k hk => (h' k hk).trans (h k hk)
theorem LimS.mono {S S' : Nat → Prop} {w : World} {a : Option Addr} {L : List Nat} (h : LimS S w a L) (hS : ∀ k, S k → S' k) : LimS S' w a L := by
  refine ⟨h.1, fun hne => ?_⟩
  obtain ⟨b, off, e, hb, hc⟩ := h.2 hne
  exact ⟨b, off, e, hS b hb, hc⟩
theorem LimS.keep {S : Nat → Prop} {w w' : World} {a : Option Addr} {L : List Nat} (h : LimS S w a L) (hk : Same S w w') : LimS S w' a L := by
  refine ⟨h.1, fun hne => ?_⟩
  obtain ⟨b, off, e, hb, hc⟩ := h.2 hne
  exact ⟨b, off, e, hb, fun j x hx => (hk.cell (p := ⟨b, off + j, none⟩) hb).trans (hc j x hx)⟩
theorem LimS.toAt {S : Nat → Prop} {n : Nat} {w : World} {a : Option Addr} {L : List Nat} (h : LimS S w a L) (hS : ∀ k, S k → k < n) : LimAt n w a L := by
  refine ⟨h.1, fun hne => ?_⟩
  obtain ⟨b, off, e, hb, hc⟩ := h.2 hne
  exact ⟨b, off, e, hS b hb, hc⟩
theorem limAt_of_owns {base : Nat} {w : World} {sv : Value} {A : List Nat} (hA : ∀ x ∈ A, x < 4294967296) (h : w.ownsRow base 61 1 sv A.length (A.map lv)) : ∃ a c, sv = .slice a A.length c ∧ LimS (Fresh base w.heap.size) w a A := by
  obtain ⟨h1, ⟨e, h0⟩ | ⟨g, cap, cur, e1, hb, hg, hnc, hm, hs, ht⟩⟩ := h
  · have : A = [] := List.eq_nil_of_length_eq_zero h0
    subst this
    exact ⟨none, 0, e, hA, fun h => absurd rfl h⟩
  · refine ⟨some ⟨g, 0, none⟩, cap, e1, hA, fun _ => ⟨g, 0, rfl, ⟨hb, (Array.getElem?_eq_some_iff.1 hg).1⟩, fun j x hx => ?_⟩⟩
    have hj := (List.getElem?_eq_some_iff.1 hx).1
    have h2 : cur[j]? = some (lv x) := by
      rw [← Array.getElem?_toList, ← List.getElem?_take_of_lt (show j < A.length * 1 by omega), ht, List.getElem?_map, hx]; rfl
    simpa [World.cell?, hg, lv] using h2
set_option maxRecDepth 100000 in
set_option maxHeartbeats 1000000 in
/-- slices.Clone at limbs -/
theorem rclone_calls (s : Value) (n : Nat) (A : List Nat) (hA : A.length ≤ 1048576) (w : World) (hn : n ≤ w.heap.size) (h : ∃ a c, s = .slice a A.length c ∧ LimAt n w a A) :
    Calls Tryz.prog 15 #[s] w fun e w' => ∃ sv, e = .returned sv ∧ (∃ a c, sv = .slice a A.length c ∧ LimS (Fresh w.heap.size w'.heap.size) w' a A) ∧ Below w.heap.size w w' := by
  obtain ⟨a, cap, rfl, h1⟩ := h
  have q22 : ∀ (w : World) (a : Option Addr) (n c n' c' : Nat), (binOp .eql 32 (.slice a n c) (.slice none n' c')).run Tryz.prog w = .ok (.bool a.isNone) w := fun w a n c n' c' => Lib.run_eql_slice_nil w _ _ a n c n' c' Tryz.underlying32
  cases a with
  | none =>
    have hA0 : A = [] := by
      apply Classical.byContradiction
      intro hne
      obtain ⟨b, off, e, _⟩ := h1.2 hne
      cases e
    subst hA0
    go_enter Tryz.func15, Tryz.ntmps15
    go_wp2
    go_ret
    exact ⟨_, rfl, ⟨none, 0, rfl, h1.1, fun h => absurd rfl h⟩, Below.refl _ _⟩
  | some ad =>
    obtain ⟨i0, hi, hz0, hz1, hz2⟩ := info_parts inf61
    have hown0 : (w.alloc (Obj.cells #[] 61)).ownsRow w.heap.size 61 1 (.slice (some ⟨w.heap.size, 0, none⟩) 0 0) 0 [] := World.ownsRow_made w #[] 0 (Nat.le_refl _) (by unfold maxLen; omega) (by simp)
    have hnews2 : ∀ (j : Nat) u, (A.map lv)[j]? = some u → (w.alloc (Obj.cells #[] 61)).cell? (ad.add j) = some u := fun j u hj => by
      rw [List.getElem?_map] at hj
      obtain ⟨x, hx, rfl⟩ := Option.map_eq_some_iff.1 hj
      obtain ⟨b, off, e, hb, hc⟩ := h1.2 (by rintro rfl; simp at hx)
      cases e
      rw [Addr.add_lit]
      exact ((below_alloc w _).cell (p := ⟨b, off + j, none⟩) (by show b < _; omega)).trans (hc j x hx)
    have hone : ∀ u ∈ A.map lv, u.oneCell' = true := by
      intro u hu
      obtain ⟨y, _, rfl⟩ := List.mem_map.1 hu
      rfl
    obtain ⟨len, hl⟩ : ∃ len, A.length = len := ⟨_, rfl⟩
    have hvl : (A.map lv).length = len * 1 := by rw [List.length_map, hl]; omega
    rw [hl] at hA ⊢
    have Al : Aside (A.length = len) := hl
    have hlt := h1.1
    clear h1 hl
    go_enter Tryz.func15, Tryz.ntmps15
    go_wp2_with (at_builtin; refine wpList_append_own _ rfl _ _ 32 rfl w.heap.size 61 i0 (.int .u32 0) 1 4 Tryz.underlying32 hi hz0 hz1 hz2 rfl (by decide) _ _ _ rfl hown0 ad len cap (A.map lv) rfl hvl hnews2 hone (by unfold maxLen; omega) (by omega) (by simp) ?_; intro v' w3 hown' hgrow3 hnil3)
    go_ret
    have hb3 : Below w.heap.size w w3 := ((Below.refl _ w).alloc (Nat.le_refl _) _).grown hgrow3 (by simp) (by intro k hk; cases hk; exact Nat.le_refl _)
    rw [Nat.zero_add, List.nil_append, ← Al.out] at hown'
    have := limAt_of_owns hlt hown'
    rw [Al.out] at this
    exact ⟨_, rfl, this, hb3⟩
end Go.Proofs.YtihaajnknnapmaaGreatDoor
end
section
namespace Go.Proofs.YtihaajnknnapmaaGreatDoor
open Go.RowKit Go.Big
def rfitsB (kk tk : Int) (num : Bool) (nm1 nm2 : ByteArray) (n1 l : Nat) : Bool :=
  kk == 0 || (tk == 1 || (kk == tk && ((nm1.toList == nm2.toList) && (((n1 : Int) == (l : Int)) && (!(kk == 2) || num)))))
set_option maxRecDepth 100000 in
set_option maxHeartbeats 1000000 in
/-- noNumber -/
theorem rnoNumber_calls (g : Bool) (a1 a2 : Option Addr) (l1 l2 c1 c2 : Nat) (w : World) :
    Calls Tryz.prog 17 #[.agg #[.bool g, .slice a1 l1 c1, .slice a2 l2 c2]] w fun e w' => e = .returned (.bool (!g && (((l1 : Int) == 0) && ((l2 : Int) == 0)))) ∧ Below w.heap.size w w' := by
  have hB := below_alloc w (Obj.cells #[.bool g, .slice a1 l1 c1, .slice a2 l2 c2] 34)
  obtain ⟨F, hF⟩ : ∃ F, (!g && (((l1 : Int) == 0) && ((l2 : Int) == 0))) = F := ⟨_, rfl⟩
  rw [hF]
  cases g
  · by_cases h1 : l1 = 0
    · subst h1
      have hF1 : F = ((l2 : Int) == 0) := by rw [← hF]; simp
      subst hF1
      clear hF
      go_enter Tryz.func17, Tryz.ntmps17
      go_wp2
      go_ret
      exact ⟨rfl, hB⟩
    · have h1B : ((l1 : Int) == 0) = false := by simp; omega
      have hF1 : F = false := by rw [← hF, h1B]; rfl
      subst hF1
      clear hF
      go_enter Tryz.func17, Tryz.ntmps17
      go_wp2
      go_ret
      exact ⟨rfl, hB⟩
  · have hF1 : F = false := by rw [← hF]; rfl
    subst hF1
    clear hF
    go_enter Tryz.func17, Tryz.ntmps17
    go_wp2
    go_ret
    exact ⟨rfl, hB⟩
end Go.Proofs.YtihaajnknnapmaaGreatDoor
end
