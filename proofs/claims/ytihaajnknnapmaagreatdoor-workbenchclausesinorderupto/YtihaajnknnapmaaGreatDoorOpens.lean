/-
  A part of the proof of the card of WorkbenchClausesInOrder (second form): lemmas that the text Card uses. No condition of its own.
-/
import Derived.Test.YtihaajnknnapmaaGreatDoorClauses
import Derived.Test.YtihaajnknnapmaaGreatDoorChecks
import Derived.Test.YtihaajnknnapmaaGreatDoorFactE
import Derived.Test.YtihaajnknnapmaaGreatDoorLaw
import Derived.Test.YtihaajnknnapmaaGreatDoorRows
import Derived.ProofKit
import Derived.OpenShut
import Derived.Deep.Slices
import Derived.Deep.Fields
import Derived.ChangeSame
import Derived.Lib.SmallJoins
import Derived.Carry
import Derived.Test.YtihaajnknnapmaaGreatDoorCards
import Derived.Test.YtihaajnknnapmaaGreatDoorTie
import Derived.WalkKit
import Derived.Deep.DeepHandedRow
import Derived.Lib.LaidTab
set_option linter.all false
set_option linter.unusedVariables false
set_option linter.unusedSimpArgs false
section
namespace Go.Proofs.YtihaajnknnapmaaGreatDoor
open Go.ChangeShapes Go.WideShapes Go.Deep
open Go.RowKit Go.Joins
/-! reading a term out of memory -/
theorem bulk_part {H : Type} {d : DataW H} {l : List (DataW H)} (h : d ∈ l) : Rows.uptoBulk d ≤ Rows.uptoBulkAll l := by
  induction l with
  | nil => cases h
  | cons x r ih =>
    simp only [Rows.uptoBulkAll]
    cases List.mem_cons.1 h with
    | inl e => subst e; omega
    | inr e => have := ih e; omega
theorem bulk_one {H : Type} (d : DataW H) : 1 ≤ Rows.uptoBulk d := by
  cases d with
  | lit l => cases l <;> simp [Rows.uptoBulk]
  | nil => simp [Rows.uptoBulk]
  | ptr d => simp [Rows.uptoBulk]
  | slice elems spare => simp [Rows.uptoBulk]
  | agg parts => simp [Rows.uptoBulk]
  | iface t d => simp [Rows.uptoBulk]
  | map entries => simp [Rows.uptoBulk]
  | held h => simp [Rows.uptoBulk]
theorem bulk_length {H : Type} (l : List (DataW H)) : l.length ≤ Rows.uptoBulkAll l := by
  induction l with
  | nil => simp [Rows.uptoBulkAll]
  | cons x r ih => have := bulk_one x; simp only [Rows.uptoBulkAll, List.length_cons]; omega
theorem list_of {A : Type} {P : Nat → A → Prop} : ∀ n : Nat, (∀ i, i < n → ∃ x, P i x) → ∃ L : List A, L.length = n ∧ ∀ i x, L[i]? = some x → P i x
  | 0, _ => ⟨[], rfl, fun i x h => by simp at h⟩
  | n + 1, h => by
    obtain ⟨L, h1, h2⟩ := list_of n fun i hi => h i (by omega)
    obtain ⟨x, hx⟩ := h n (by omega)
    refine ⟨L ++ [x], by simp [h1], fun i y hy => ?_⟩
    by_cases hi : i < n
    · rw [List.getElem?_append_left (by omega)] at hy
      exact h2 i y hy
    · rw [List.getElem?_append_right (by omega)] at hy
      have h0 : i - L.length = 0 := by
        have := (List.getElem?_eq_some_iff.1 hy).1; simp at this; omega
      rw [h0] at hy
      simp at hy
      subst hy
      have : i = n := by omega
      rw [this]; exact hx
theorem u32_small {z : Int} (h : (Lit.int .u32 z).wf = true) : 0 ≤ z ∧ z < 4294967296 := by
  simp [Lit.wf, IntKind.wrap, IntKind.min, IntKind.max, IntKind.bits, IntKind.signed] at h
  omega
theorem addr_plain {W : World} {a : Addr} {v : Value} (h : W.cell? a = some v) : ∃ b o, a = ⟨b, o, none⟩ := by
  have hsp : a.spot = none := by
    cases hs : a.spot with
    | none => rfl
    | some s =>
      unfold World.cell? at h
      rw [hs] at h
      split at h <;> simp at h
  obtain ⟨ab, ao, asp⟩ := a
  simp only at hsp
  subst hsp
  exact ⟨ab, ao, rfl⟩
theorem add_plain (ab ao k : Nat) : Addr.add ⟨ab, ao, none⟩ k = ⟨ab, ao + k, none⟩ := by
  unfold Addr.add
  split
  · next h => subst h; rfl
  · rfl
theorem cells61 : Tryz.prog.cellsOf 61 = 1 := by kernel_rfl
theorem cells36 : Tryz.prog.cellsOf 36 = 7 := by kernel_rfl
theorem cells34 : Tryz.prog.cellsOf 34 = 3 := by kernel_rfl
theorem cells25 : Tryz.prog.cellsOf 25 = 1 := by kernel_rfl
theorem cells32 : Tryz.prog.cellsOf 32 = 1 := by kernel_rfl
theorem cells3 : Tryz.prog.cellsOf 3 = 1 := by kernel_rfl
theorem cells4 : Tryz.prog.cellsOf 4 = 1 := by kernel_rfl
theorem cells9 : Tryz.prog.cellsOf 9 = 1 := by kernel_rfl
section
variable {H : Type} {enc : TypeId × Value → H} {W : World}
/-- limbs, read -/
theorem limbs_open {fuel : Nat} {cs : List Value} {x : DataW H × List MemPlace} (h : DataW.trod enc Tryz.prog W 0 (fun _ => true) true fuel 32 cs = some x) :
    ∃ (ao : Option Addr) (cap : Nat) (L : List Nat), cs = [.slice ao L.length cap] ∧ L.length ≤ Rows.uptoBulk x.1 ∧ LimAt W.heap.size W ao L := by
  rcases open_slice Tryz.underlying32 h with ⟨rfl, rfl⟩ | ⟨a, len, cap, m, n, D, Pl, rfl, _, hl, _, hm, rfl, hi⟩
  · exact ⟨none, 0, [], rfl, by simp, (fun x hx => by simp at hx), fun h => absurd rfl h⟩
  · have hlen : len ≤ Rows.uptoBulkAll ((List.range len).map D) := by
      have h1 := bulk_length ((List.range len).map D)
      rw [List.length_map, List.length_range] at h1
      omega
    have hmc : len ≤ m := by rw [hm]; simpa using hl
    obtain ⟨L, hL1, hL2⟩ := list_of (P := fun i (x : Nat) => x < 4294967296 ∧ W.cell? (a.add i) = some (.int .u32 x)) len fun i hil => by
      obtain ⟨cs', hc, ht⟩ := hi i (by omega)
      obtain ⟨z, rfl, _, hw⟩ := DataW.trod_int Tryz.underlying61 ht
      obtain ⟨h0, h1⟩ := u32_small hw
      rw [cells61, Nat.mul_one] at hc
      obtain ⟨_, _, hat⟩ := World.cells?_some hc
      have h3 := hat 0 (by decide)
      rw [Go.Deep.add_add, Nat.add_zero] at h3
      refine ⟨z.toNat, by omega, ?_⟩
      rw [h3, Int.toNat_of_nonneg h0]
      rfl
    refine ⟨some a, cap, L, by rw [hL1], by simp only [Rows.uptoBulk]; omega, ?_, fun hne => ?_⟩
    · intro x hx
      obtain ⟨i, hi⟩ := List.getElem?_of_mem hx
      exact (hL2 i x hi).1
    · obtain ⟨x0, hx0⟩ : ∃ x0, L[0]? = some x0 := by
        cases L with
        | nil => exact absurd rfl hne
        | cons x L => exact ⟨x, rfl⟩
      have h00 := (hL2 0 x0 hx0).2
      have ha0 : a.add 0 = a := by simp [Addr.add]
      rw [ha0] at h00
      obtain ⟨ab, ao, rfl⟩ := addr_plain h00
      refine ⟨ab, ao, rfl, block_lt_of_cell h00, fun j x hx => ?_⟩
      have := (hL2 j x hx).2
      rwa [add_plain] at this
theorem list1 {α : Type} {l : List α} (h : l.length = 1) : ∃ a, l = [a] := by
  match l, h with
  | [a], _ => exact ⟨a, rfl⟩
theorem list3 {α : Type} {l : List α} (h : l.length = 3) : ∃ a b c, l = [a, b, c] := by
  match l, h with
  | [a, b, c], _ => exact ⟨a, b, c, rfl⟩
theorem list5 {α : Type} {l : List α} (h : l.length = 5) : ∃ a b c d e, l = [a, b, c, d, e] := by
  match l, h with
  | [a, b, c, d, e], _ => exact ⟨a, b, c, d, e, rfl⟩
theorem list7 {α : Type} {l : List α} (h : l.length = 7) : ∃ a b c d e f g, l = [a, b, c, d, e, f, g] := by
  match l, h with
  | [a, b, c, d, e, f, g], _ => exact ⟨a, b, c, d, e, f, g, rfl⟩
/-- a number, read -/
theorem number_open {fuel : Nat} {cs : List Value} {x : DataW H × List MemPlace} (h : DataW.trod enc Tryz.prog W 0 (fun _ => true) true fuel 34 cs = some x) :
    ∃ (g : Bool) (s1 s2 : Value) (num den : List Nat), cs = [.bool g, s1, s2] ∧ NumAt W.heap.size W g s1 s2 num den ∧ num.length ≤ Rows.uptoBulk x.1 ∧ den.length ≤ Rows.uptoBulk x.1 := by
  obtain ⟨xs, n, _, rfl, hl, hx, hf⟩ := DataW.trod_struct Tryz.underlying34 h
  rw [cells34] at hl
  obtain ⟨c0, c1, c2, rfl⟩ := list3 hl
  obtain ⟨y0, y1, y2, rfl⟩ := list3 (hx.trans rfl)
  have h0 : DataW.trod enc Tryz.prog W 0 (fun _ => true) true n 4 (([c0, c1, c2].drop 0).take (Tryz.prog.cellsOf 4)) = some y0 := hf 0 _ rfl
  rw [cells4] at h0
  have h1 : DataW.trod enc Tryz.prog W 0 (fun _ => true) true n 32 (([c0, c1, c2].drop 1).take (Tryz.prog.cellsOf 32)) = some y1 := hf 1 _ rfl
  rw [cells32] at h1
  have h2 : DataW.trod enc Tryz.prog W 0 (fun _ => true) true n 32 (([c0, c1, c2].drop 2).take (Tryz.prog.cellsOf 32)) = some y2 := hf 2 _ rfl
  rw [cells32] at h2
  obtain ⟨g, e0, _⟩ := DataW.trod_bool Tryz.underlying4 h0
  obtain ⟨a1, p1, L1, e1, b1, l1⟩ := limbs_open h1
  obtain ⟨a2, p2, L2, e2, b2, l2⟩ := limbs_open h2
  simp only [List.drop_zero, List.drop_succ_cons, List.take_succ_cons, List.take_zero, List.cons.injEq, and_true] at e0 e1 e2
  subst e0 e1 e2
  have m1 := bulk_part (d := y1.1) (l := [y0.1, y1.1, y2.1]) (by simp)
  have m2 := bulk_part (d := y2.1) (l := [y0.1, y1.1, y2.1]) (by simp)
  refine ⟨g, _, _, L1, L2, rfl, ⟨⟨a1, p1, rfl, l1⟩, ⟨a2, p2, rfl, l2⟩⟩, ?_, ?_⟩ <;> simp only [List.map_cons, List.map_nil, Rows.uptoBulk] <;> omega
theorem tms_of {n : Nat} {w : World} {b off : Nat} (hb : b < n) : ∀ (L : List Tm) (i : Nat), (∀ k T, L[k]? = some T → ∃ vs, (∀ (j : Nat) u, vs[j]? = some u → w.cell? ⟨b, off + (i + k) * 7 + j, none⟩ = some u) ∧ TmV n w T vs) → TmsV n w L (some ⟨b, off, none⟩) i
  | [], _, _ => by simp only [TmsV]
  | T :: r, i, h => by
    simp only [TmsV]
    obtain ⟨vs, h1, h2⟩ := h 0 T rfl
    refine ⟨⟨b, off, vs, rfl, hb, fun j u hj => by have := h1 j u hj; rwa [Nat.add_zero] at this, h2⟩, tms_of hb r (i + 1) fun k T' hk => ?_⟩
    obtain ⟨vs', h3, h4⟩ := h (k + 1) T' (by simpa using hk)
    exact ⟨vs', fun j u hj => by have := h3 j u hj; rwa [show i + (k + 1) = i + 1 + k by omega] at this, h4⟩
/-- a term, read -/
theorem term_open : ∀ (B : Nat), B ≤ 1048576 → ∀ (fuel : Nat) (cs : List Value) (x : DataW H × List MemPlace), DataW.trod enc Tryz.prog W 0 (fun _ => true) true fuel 36 cs = some x → Rows.uptoBulk x.1 ≤ B → ∃ T, TmV W.heap.size W T cs := by
  intro B
  induction B with
  | zero =>
    intro _ fuel cs x _ hb
    have := bulk_one x.1
    omega
  | succ B ih =>
    intro hB fuel cs x h hb
    obtain ⟨xs, n, _, rfl, hl, hx, hf⟩ := DataW.trod_struct Tryz.underlying36 h
    rw [cells36] at hl
    obtain ⟨c0, c1, c2, c3, c4, c5, c6, rfl⟩ := list7 hl
    obtain ⟨y0, y1, y2, y3, y4, rfl⟩ := list5 (hx.trans rfl)
    have h0 : DataW.trod enc Tryz.prog W 0 (fun _ => true) true n 3 (([c0, c1, c2, c3, c4, c5, c6].drop 0).take (Tryz.prog.cellsOf 3)) = some y0 := hf 0 _ rfl
    rw [cells3] at h0
    have h1 : DataW.trod enc Tryz.prog W 0 (fun _ => true) true n 3 (([c0, c1, c2, c3, c4, c5, c6].drop 1).take (Tryz.prog.cellsOf 3)) = some y1 := hf 1 _ rfl
    rw [cells3] at h1
    have h2 : DataW.trod enc Tryz.prog W 0 (fun _ => true) true n 9 (([c0, c1, c2, c3, c4, c5, c6].drop 2).take (Tryz.prog.cellsOf 9)) = some y2 := hf 2 _ rfl
    rw [cells9] at h2
    have h3 : DataW.trod enc Tryz.prog W 0 (fun _ => true) true n 34 (([c0, c1, c2, c3, c4, c5, c6].drop 3).take (Tryz.prog.cellsOf 34)) = some y3 := hf 3 _ rfl
    rw [cells34] at h3
    have h4 : DataW.trod enc Tryz.prog W 0 (fun _ => true) true n 25 (([c0, c1, c2, c3, c4, c5, c6].drop 6).take (Tryz.prog.cellsOf 25)) = some y4 := hf 4 _ rfl
    rw [cells25] at h4
    obtain ⟨k, e0, _⟩ := DataW.trod_int Tryz.underlying3 h0
    obtain ⟨v, e1, _⟩ := DataW.trod_int Tryz.underlying3 h1
    obtain ⟨nm, e2, _⟩ := DataW.trod_string Tryz.underlying9 h2
    obtain ⟨g, s1, s2, num, den, e3, hN, bn, bd⟩ := number_open h3
    simp only [List.drop_zero, List.drop_succ_cons, List.take_succ_cons, List.take_zero, List.cons.injEq, and_true] at e0 e1 e2 e3
    obtain ⟨rfl, rfl, rfl⟩ := e3
    subst e0 e1 e2
    have m3 := bulk_part (d := y3.1) (l := [y0.1, y1.1, y2.1, y3.1, y4.1]) (by simp)
    have m4 := bulk_part (d := y4.1) (l := [y0.1, y1.1, y2.1, y3.1, y4.1]) (by simp)
    simp only [List.map_cons, List.map_nil, Rows.uptoBulk] at hb
    rcases open_slice Tryz.underlying25 h4 with ⟨e4, _⟩ | ⟨a, len, cap, m, n', D, Pl, e4, _, hl4, _, hm, e5, hi⟩
    · simp only [List.drop_zero, List.drop_succ_cons, List.take_succ_cons, List.take_zero, List.cons.injEq, and_true] at e4
      subst e4
      refine ⟨.mk k v nm g num den [], ?_⟩
      simp only [TmV, TmsV]
      exact ⟨c4, c5, none, 0, rfl, hN, trivial, by simp, by omega, by omega⟩
    · simp only [List.drop_zero, List.drop_succ_cons, List.take_succ_cons, List.take_zero, List.cons.injEq, and_true] at e4
      subst e4
      have hy4 : Rows.uptoBulk y4.1 = Rows.uptoBulk (DataW.slice ((List.range len).map D) ((List.range (m - len)).map fun j => D (len + j))) := by rw [e5]
      simp only [Rows.uptoBulk] at hy4
      clear e5
      have hlen : len ≤ Rows.uptoBulkAll ((List.range len).map D) := by
        have h1 := bulk_length ((List.range len).map D)
        rw [List.length_map, List.length_range] at h1
        omega
      have hmc : len ≤ m := by rw [hm]; simpa using hl4
      obtain ⟨L, hL1, hL2⟩ := list_of (P := fun i (T : Tm) => ∃ vs, W.cells? 0 (a.add (i * 7)) 7 = some vs ∧ TmV W.heap.size W T vs) len fun i hil => by
        obtain ⟨cs', hc, ht⟩ := hi i (by omega)
        rw [cells36] at hc
        have hd := bulk_part (d := D i) (l := (List.range len).map D) (List.mem_map.2 ⟨i, List.mem_range.2 hil, rfl⟩)
        obtain ⟨T, hT⟩ := ih (by omega) n' cs' (D i, Pl i) ht (by show Rows.uptoBulk (D i) ≤ B; omega)
        exact ⟨T, cs', hc, hT⟩
      refine ⟨.mk k v nm g num den L, ?_⟩
      simp only [TmV]
      refine ⟨c4, c5, some a, cap, by rw [hL1], hN, ?_, by omega, by omega, by omega⟩
      cases L with
      | nil => simp only [TmsV]
      | cons T0 L0 =>
        obtain ⟨vs0, hc0, hv0⟩ := hL2 0 T0 rfl
        obtain ⟨_, hlen0, hat0⟩ := World.cells?_some hc0
        have h00 := hat0 0 (by decide)
        rw [Nat.zero_mul, Go.Deep.add_add, List.getElem?_eq_getElem (by omega)] at h00
        have ha0 : a.add (0 + 0) = a := by simp [Addr.add]
        rw [ha0] at h00
        obtain ⟨ab, ao, rfl⟩ := addr_plain h00
        refine tms_of (block_lt_of_cell h00) _ 0 fun kk T hT => ?_
        obtain ⟨vs, hc, hv⟩ := hL2 kk T hT
        refine ⟨vs, fun j u hj => ?_, hv⟩
        obtain ⟨_, hlen, hat⟩ := World.cells?_some hc
        have hj7 : j < 7 := by have := (List.getElem?_eq_some_iff.1 hj).1; omega
        have := hat j hj7
        rw [add_plain, add_plain, hj] at this
        rw [Nat.zero_add]
        exact this
theorem list15 {α : Type} {l : List α} (h : l.length = 15) : ∃ a b c d e f g h i j k m n o p, l = [a, b, c, d, e, f, g, h, i, j, k, m, n, o, p] := by
  match l, h with
  | [a, b, c, d, e, f, g, h, i, j, k, m, n, o, p], _ => exact ⟨a, b, c, d, e, f, g, h, i, j, k, m, n, o, p, rfl⟩
theorem list4 {α : Type} {l : List α} (h : l.length = 4) : ∃ a b c d, l = [a, b, c, d] := by
  match l, h with
  | [a, b, c, d], _ => exact ⟨a, b, c, d, rfl⟩
theorem cells38 : Tryz.prog.cellsOf 38 = 15 := by kernel_rfl
theorem cells31 : Tryz.prog.cellsOf 31 = 5 := by kernel_rfl
theorem cells28 : Tryz.prog.cellsOf 28 = 1 := by kernel_rfl
theorem cells24 : Tryz.prog.cellsOf 24 = 1 := by kernel_rfl
theorem cells23 : Tryz.prog.cellsOf 23 = 1 := by kernel_rfl
theorem cells22 : Tryz.prog.cellsOf 22 = 1 := by kernel_rfl
theorem cells27 : Tryz.prog.cellsOf 27 = 4 := by kernel_rfl
/-- a clause, read -/
theorem clause_open {fuel : Nat} {cs : List Value} {x : DataW H × List MemPlace} (h : DataW.trod enc Tryz.prog W 0 (fun _ => true) true fuel 38 cs = some x) (hb : Rows.uptoBulk x.1 ≤ 1048576) :
    ∃ (C : Cl) (vh vb : List Value), cs = clCells vh vb C.vars ∧ TmV W.heap.size W C.h vh ∧ TmV W.heap.size W C.b vb := by
  obtain ⟨xs, n, _, rfl, hl, hx, hf⟩ := DataW.trod_struct Tryz.underlying38 h
  rw [cells38] at hl
  obtain ⟨c0, c1, c2, c3, c4, c5, c6, c7, c8, c9, c10, c11, c12, c13, c14, rfl⟩ := list15 hl
  obtain ⟨y0, y1, y2, rfl⟩ := list3 (hx.trans rfl)
  have h0 : DataW.trod enc Tryz.prog W 0 (fun _ => true) true n 36 (([c0, c1, c2, c3, c4, c5, c6, c7, c8, c9, c10, c11, c12, c13, c14].drop 0).take (Tryz.prog.cellsOf 36)) = some y0 := hf 0 _ rfl
  rw [cells36] at h0
  have h1 : DataW.trod enc Tryz.prog W 0 (fun _ => true) true n 36 (([c0, c1, c2, c3, c4, c5, c6, c7, c8, c9, c10, c11, c12, c13, c14].drop 7).take (Tryz.prog.cellsOf 36)) = some y1 := hf 1 _ rfl
  rw [cells36] at h1
  have h2 : DataW.trod enc Tryz.prog W 0 (fun _ => true) true n 3 (([c0, c1, c2, c3, c4, c5, c6, c7, c8, c9, c10, c11, c12, c13, c14].drop 14).take (Tryz.prog.cellsOf 3)) = some y2 := hf 2 _ rfl
  rw [cells3] at h2
  have m0 := bulk_part (d := y0.1) (l := [y0.1, y1.1, y2.1]) (by simp)
  have m1 := bulk_part (d := y1.1) (l := [y0.1, y1.1, y2.1]) (by simp)
  simp only [List.map_cons, List.map_nil, Rows.uptoBulk] at hb
  obtain ⟨Th, hTh⟩ := term_open (Rows.uptoBulk y0.1) (by omega) n _ y0 h0 (Nat.le_refl _)
  obtain ⟨Tb, hTb⟩ := term_open (Rows.uptoBulk y1.1) (by omega) n _ y1 h1 (Nat.le_refl _)
  obtain ⟨v, e2, _⟩ := DataW.trod_int Tryz.underlying3 h2
  simp only [List.drop_zero, List.drop_succ_cons, List.take_succ_cons, List.take_zero, List.cons.injEq, and_true] at e2
  subst e2
  exact ⟨⟨Th, Tb, v⟩, _, _, rfl, hTh, hTb⟩
/-- a list of things, each with a weight -/
theorem list_sum {A : Type} {P : Nat → A → Prop} {f : A → Nat} {g : Nat → Nat} : ∀ n : Nat, (∀ i, i < n → ∃ x, P i x ∧ f x ≤ g i) → ∃ L : List A, L.length = n ∧ (∀ i x, L[i]? = some x → P i x) ∧ (L.map f).sum ≤ ((List.range n).map g).sum
  | 0, _ => ⟨[], rfl, fun i x h => by simp at h, by simp⟩
  | n + 1, h => by
    obtain ⟨L, h1, h2, h3⟩ := list_sum n fun i hi => h i (by omega)
    obtain ⟨x, hx, hw⟩ := h n (by omega)
    refine ⟨L ++ [x], by simp [h1], fun i y hy => ?_, ?_⟩
    · by_cases hi : i < n
      · rw [List.getElem?_append_left (by omega)] at hy
        exact h2 i y hy
      · rw [List.getElem?_append_right (by omega)] at hy
        have h0 : i - L.length = 0 := by
          have := (List.getElem?_eq_some_iff.1 hy).1; simp at this; omega
        rw [h0] at hy
        simp at hy
        subst hy
        have : i = n := by omega
        rw [this]; exact hx
    · rw [List.range_succ, List.map_append, List.map_append, List.sum_append, List.sum_append]
      simp; omega
theorem bulk_sum {H : Type} : ∀ (l : List (DataW H)), Rows.uptoBulkAll l = (l.map Rows.uptoBulk).sum
  | [] => by simp [Rows.uptoBulkAll]
  | d :: r => by simp [Rows.uptoBulkAll, bulk_sum r]
/-- a row of clauses, read -/
theorem clauses_open {fuel : Nat} {cs : List Value} {x : DataW H × List MemPlace} (h : DataW.trod enc Tryz.prog W 0 (fun _ => true) true fuel 28 cs = some x) (hb : Rows.uptoBulk x.1 ≤ 1048576) :
    ∃ (ao : Option Addr) (cap : Nat) (L : List Cl), cs = [.slice ao L.length cap] ∧ L.length ≤ Rows.uptoBulk x.1 ∧ ClsV W.heap.size W L ao := by
  rcases open_slice Tryz.underlying28 h with ⟨rfl, rfl⟩ | ⟨a, len, cap, m, n, D, Pl, rfl, _, hl, _, hm, rfl, hi⟩
  · exact ⟨none, 0, [], rfl, by simp, fun k C hk => by simp at hk⟩
  · simp only [Rows.uptoBulk] at hb
    have hlen : len ≤ Rows.uptoBulkAll ((List.range len).map D) := by
      have h1 := bulk_length ((List.range len).map D)
      rw [List.length_map, List.length_range] at h1
      omega
    have hmc : len ≤ m := by rw [hm]; simpa using hl
    obtain ⟨L, hL1, hL2⟩ := list_of (P := fun i (C : Cl) => ∃ vh vb, W.cells? 0 (a.add (i * 15)) 15 = some (clCells vh vb C.vars) ∧ TmV W.heap.size W C.h vh ∧ TmV W.heap.size W C.b vb) len fun i hil => by
      obtain ⟨cs', hc, ht⟩ := hi i (by omega)
      rw [cells38] at hc
      have hd := bulk_part (d := D i) (l := (List.range len).map D) (List.mem_map.2 ⟨i, List.mem_range.2 hil, rfl⟩)
      obtain ⟨C, vh, vb, rfl, h1, h2⟩ := clause_open ht (show Rows.uptoBulk (D i) ≤ 1048576 by omega)
      exact ⟨C, vh, vb, hc, h1, h2⟩
    refine ⟨some a, cap, L, by rw [hL1], by simp only [Rows.uptoBulk]; omega, fun k C hk => ?_⟩
    obtain ⟨vh, vb, hc, h1, h2⟩ := hL2 k C hk
    obtain ⟨_, hlen', hat⟩ := World.cells?_some hc
    have hsp : ∃ ab ao, a = ⟨ab, ao, none⟩ ∧ ab < W.heap.size := by
      have h0l : 0 < L.length := by have := (List.getElem?_eq_some_iff.1 hk).1; omega
      obtain ⟨_, _, hc0, _⟩ := hL2 0 _ (List.getElem?_eq_getElem h0l)
      obtain ⟨_, hlen0, hat0⟩ := World.cells?_some hc0
      have h00 := hat0 0 (by decide)
      rw [Nat.zero_mul, Go.Deep.add_add, List.getElem?_eq_getElem (by omega)] at h00
      have ha0 : a.add (0 + 0) = a := by simp [Addr.add]
      rw [ha0] at h00
      obtain ⟨ab, ao, rfl⟩ := addr_plain h00
      exact ⟨ab, ao, rfl, block_lt_of_cell h00⟩
    obtain ⟨ab, ao, rfl, hlt⟩ := hsp
    refine ⟨ab, ao, vh, vb, rfl, hlt, fun j u hj => ?_, h1, h2⟩
    have hj15 : j < 15 := by have := (List.getElem?_eq_some_iff.1 hj).1; omega
    have := hat j hj15
    rw [add_plain, add_plain, hj] at this
    exact this
/-- a predicate, read -/
theorem pred_open {fuel : Nat} {cs : List Value} {x : DataW H × List MemPlace} (h : DataW.trod enc Tryz.prog W 0 (fun _ => true) true fuel 31 cs = some x) (hb : Rows.uptoBulk x.1 ≤ 1048576) :
    ∃ (D : Pd) (a : Option Addr) (c : Nat), cs = [.string D.name, .int .i64 D.ar, .bool D.dyn, .int .i64 D.tab, .slice a D.cls.length c] ∧ ClsV W.heap.size W D.cls a ∧ D.cls.length ≤ Rows.uptoBulk x.1 := by
  obtain ⟨xs, n, _, rfl, hl, hx, hf⟩ := DataW.trod_struct Tryz.underlying31 h
  rw [cells31] at hl
  obtain ⟨c0, c1, c2, c3, c4, rfl⟩ := list5 hl
  obtain ⟨y0, y1, y2, y3, y4, rfl⟩ := list5 (hx.trans rfl)
  have h0 : DataW.trod enc Tryz.prog W 0 (fun _ => true) true n 9 (([c0, c1, c2, c3, c4].drop 0).take (Tryz.prog.cellsOf 9)) = some y0 := hf 0 _ rfl
  rw [cells9] at h0
  have h1 : DataW.trod enc Tryz.prog W 0 (fun _ => true) true n 3 (([c0, c1, c2, c3, c4].drop 1).take (Tryz.prog.cellsOf 3)) = some y1 := hf 1 _ rfl
  rw [cells3] at h1
  have h2 : DataW.trod enc Tryz.prog W 0 (fun _ => true) true n 4 (([c0, c1, c2, c3, c4].drop 2).take (Tryz.prog.cellsOf 4)) = some y2 := hf 2 _ rfl
  rw [cells4] at h2
  have h3 : DataW.trod enc Tryz.prog W 0 (fun _ => true) true n 3 (([c0, c1, c2, c3, c4].drop 3).take (Tryz.prog.cellsOf 3)) = some y3 := hf 3 _ rfl
  rw [cells3] at h3
  have h4 : DataW.trod enc Tryz.prog W 0 (fun _ => true) true n 28 (([c0, c1, c2, c3, c4].drop 4).take (Tryz.prog.cellsOf 28)) = some y4 := hf 4 _ rfl
  rw [cells28] at h4
  obtain ⟨nm, e0, _⟩ := DataW.trod_string Tryz.underlying9 h0
  obtain ⟨ar, e1, _⟩ := DataW.trod_int Tryz.underlying3 h1
  obtain ⟨dy, e2, _⟩ := DataW.trod_bool Tryz.underlying4 h2
  obtain ⟨tb, e3, _⟩ := DataW.trod_int Tryz.underlying3 h3
  have m4 := bulk_part (d := y4.1) (l := [y0.1, y1.1, y2.1, y3.1, y4.1]) (by simp)
  simp only [List.map_cons, List.map_nil, Rows.uptoBulk] at hb ⊢
  obtain ⟨a, c, L, e4, hLl, hLv⟩ := clauses_open h4 (by omega)
  simp only [List.drop_zero, List.drop_succ_cons, List.take_succ_cons, List.take_zero, List.cons.injEq, and_true] at e0 e1 e2 e3 e4
  subst e0 e1 e2 e3 e4
  exact ⟨⟨nm, ar, dy, tb, L⟩, a, c, rfl, hLv, by show L.length ≤ _; omega⟩
/-- a row of predicates, read -/
theorem preds_open {fuel : Nat} {cs : List Value} {x : DataW H × List MemPlace} (h : DataW.trod enc Tryz.prog W 0 (fun _ => true) true fuel 24 cs = some x) (hb : Rows.uptoBulk x.1 ≤ 1048576) :
    ∃ (ao : Option Addr) (cap : Nat) (L : List Pd), cs = [.slice ao L.length cap] ∧ L.length ≤ 1048576 ∧ PdsV W.heap.size W L ao ∧ (allCls L).length ≤ 1048576 := by
  rcases open_slice Tryz.underlying24 h with ⟨rfl, rfl⟩ | ⟨a, len, cap, m, n, D, Pl, rfl, _, hl, _, hm, rfl, hi⟩
  · exact ⟨none, 0, [], rfl, by simp, (fun k C hk => by simp at hk), by simp [allCls]⟩
  · simp only [Rows.uptoBulk] at hb
    have hlen : len ≤ Rows.uptoBulkAll ((List.range len).map D) := by
      have h1 := bulk_length ((List.range len).map D)
      rw [List.length_map, List.length_range] at h1
      omega
    have hmc : len ≤ m := by rw [hm]; simpa using hl
    obtain ⟨L, hL1, hL2, hL3⟩ := list_sum (f := fun d : Pd => d.cls.length) (g := fun i => Rows.uptoBulk (D i)) (P := fun i (d : Pd) => ∃ a' c', W.cells? 0 (a.add (i * 5)) 5 = some [.string d.name, .int .i64 d.ar, .bool d.dyn, .int .i64 d.tab, .slice a' d.cls.length c'] ∧ ClsV W.heap.size W d.cls a' ∧ d.cls.length ≤ 1048576) len fun i hil => by
      obtain ⟨cs', hc, ht⟩ := hi i (by omega)
      rw [cells31] at hc
      have hd := bulk_part (d := D i) (l := (List.range len).map D) (List.mem_map.2 ⟨i, List.mem_range.2 hil, rfl⟩)
      obtain ⟨d, a', c', rfl, h1, h2⟩ := pred_open ht (show Rows.uptoBulk (D i) ≤ 1048576 by omega)
      exact ⟨d, ⟨a', c', hc, h1, by have h2' : d.cls.length ≤ Rows.uptoBulk (D i) := h2; omega⟩, h2⟩
    have hsum : ((List.range len).map fun i => Rows.uptoBulk (D i)).sum = Rows.uptoBulkAll ((List.range len).map D) := by
      rw [bulk_sum, List.map_map]; rfl
    refine ⟨some a, cap, L, by rw [hL1], by omega, fun k d hk => ?_, ?_⟩
    · obtain ⟨a', c', hc, h1, h2⟩ := hL2 k d hk
      obtain ⟨_, hlen', hat⟩ := World.cells?_some hc
      have hsp : ∃ ab ao, a = ⟨ab, ao, none⟩ ∧ ab < W.heap.size := by
        have h0l : 0 < L.length := by have := (List.getElem?_eq_some_iff.1 hk).1; omega
        obtain ⟨_, _, hc0, _⟩ := hL2 0 _ (List.getElem?_eq_getElem h0l)
        obtain ⟨_, hlen0, hat0⟩ := World.cells?_some hc0
        have h00 := hat0 0 (by decide)
        rw [Nat.zero_mul, Go.Deep.add_add, List.getElem?_eq_getElem (by omega)] at h00
        have ha0 : a.add (0 + 0) = a := by simp [Addr.add]
        rw [ha0] at h00
        obtain ⟨ab, ao, rfl⟩ := addr_plain h00
        exact ⟨ab, ao, rfl, block_lt_of_cell h00⟩
      obtain ⟨ab, ao, rfl, hlt⟩ := hsp
      refine ⟨ab, ao, a', c', rfl, hlt, fun j u hj => ?_, h1, h2⟩
      have hj5 : j < 5 := by have := (List.getElem?_eq_some_iff.1 hj).1; simpa using this
      have := hat j hj5
      rw [add_plain, add_plain, hj] at this
      exact this
    · unfold allCls
      rw [List.length_flatten, List.map_map]
      have : (L.map (List.length ∘ Pd.cls)).sum = (L.map fun d : Pd => d.cls.length).sum := rfl
      rw [this]; omega
/-- a program, read: its predicates -/
theorem program_open {fuel : Nat} {cs : List Value} {x : DataW H × List MemPlace} (h : DataW.trod enc Tryz.prog W 0 (fun _ => true) true fuel 27 cs = some x) (hb : Rows.uptoBulk x.1 ≤ 1048576) :
    ∃ (x0 x1 x3 : Value) (ao : Option Addr) (cap : Nat) (L : List Pd), cs = [x0, x1, .slice ao L.length cap, x3] ∧ L.length ≤ 1048576 ∧ PdsV W.heap.size W L ao ∧ (allCls L).length ≤ 1048576 := by
  obtain ⟨xs, n, _, rfl, hl, hx, hf⟩ := DataW.trod_struct Tryz.underlying27 h
  rw [cells27] at hl
  obtain ⟨c0, c1, c2, c3, rfl⟩ := list4 hl
  obtain ⟨y0, y1, y2, y3, rfl⟩ := list4 (hx.trans rfl)
  have h2 : DataW.trod enc Tryz.prog W 0 (fun _ => true) true n 24 (([c0, c1, c2, c3].drop 2).take (Tryz.prog.cellsOf 24)) = some y2 := hf 2 _ rfl
  rw [cells24] at h2
  have m2 := bulk_part (d := y2.1) (l := [y0.1, y1.1, y2.1, y3.1]) (by simp)
  simp only [List.map_cons, List.map_nil, Rows.uptoBulk] at hb
  obtain ⟨ao, cap, L, e2, h3⟩ := preds_open h2 (by omega)
  simp only [List.drop_zero, List.drop_succ_cons, List.take_succ_cons, List.take_zero, List.cons.injEq, and_true] at e2
  subst e2
  exact ⟨c0, c1, c3, ao, cap, L, rfl, h3⟩
end
set_option maxRecDepth 100000 in
/-- a program handed in -/
theorem program_arg {H : Type} {enc : TypeId × Value → H} {W : World} {base : Nat} {v : Value} {d : DataW H} {p : List MemPlace} (hv : Value.okWide Tryz.prog W .any base 27 v) (h : DataW.Trod enc Tryz.prog W 0 (fun _ => true) true 27 v d p) (hb : Rows.uptoBulk d ≤ 1048576) :
    ∃ (x0 x1 x3 : Value) (ao : Option Addr) (cap : Nat) (L : List Pd), v = .agg #[x0, x1, .slice ao L.length cap, x3] ∧ L.length ≤ 1048576 ∧ PdsV W.heap.size W L ao ∧ (allCls L).length ≤ 1048576 := by
  obtain ⟨cs, rfl, _⟩ := okWide_struct Tryz.underlying27 hv
  obtain ⟨fuel, hf⟩ := h
  obtain ⟨x0, x1, x3, ao, cap, L, e, h1⟩ := program_open (cs := cs.toList) (x := (d, p)) hf hb
  exact ⟨x0, x1, x3, ao, cap, L, by rw [← Array.toArray_toList (xs := cs), e], h1⟩
end Go.Proofs.YtihaajnknnapmaaGreatDoor
end
section
namespace Go.Proofs.YtihaajnknnapmaaGreatDoor
open Go.ChangeShapes Go.WideShapes Go.ChangeAt Go.RowKit
theorem own : ownKnob Tryz.prog.godebug = none := by kernel_rfl
theorem rowLaid : laidOutB Tryz.prog = true := factLaid
theorem globals11 : Tryz.prog.globals.size = 11 := by kernel_rfl
theorem block10 : (((begin Tryz.prog (fun _ _ => 0) default).world.heap[10]?).bind Obj.row?).isSome = true := by kernel_rfl
theorem globals_there {W : World} (h : W.ShapedOpen Tryz.prog) : Tryz.prog.globals.size ≤ W.heap.size := by
  obtain ⟨⟨zero, t⟩, hx⟩ := Option.isSome_iff_exists.1 block10
  obtain ⟨cs, h1, _⟩ := h.1 10 zero t (by rw [globals11]; omega) hx
  have := (Array.getElem?_eq_some_iff.1 h1).1
  rw [globals11]; omega
/-- the five texts, as the row lists them -/
def strsOf : DataW Unit → List (List UInt8)
  | .agg l => l.map fun d => match d with
    | .lit (.string s) => s
    | _ => []
  | _ => []
def plainStrs : List (List UInt8) := strsOf Rows.laid_fetterlock_fetterlockref4_plain
theorem plain_is : (Rows.laid_fetterlock_fetterlockref4_plain : DataW Unit) = .agg (plainStrs.map fun s => .lit (Lit.string s)) := by kernel_rfl
theorem space_is : (Rows.laid_strings_asciiSpace : DataW Unit) = Lib.tabData .u8 ((List.range 256).map fun b => if spB b then 1 else 0) := by kernel_rfl
theorem plain_chk : chkNames plainEls plainStrs = true := by kernel_rfl
def nmAt (k : Nat) : String := (Rows.workbenchClausesInOrderUptoRow.laid.map (·.1)).getD k ""
theorem mem_at {k : Nat} {d : DataW Unit} (h : Rows.workbenchClausesInOrderUptoRow.laid[k]? = some (nmAt k, d)) : (nmAt k, d) ∈ Rows.workbenchClausesInOrderUptoRow.laid := List.mem_of_getElem? h
theorem names_met {W : World} (h : laidMet Tryz.prog Rows.workbenchClausesInOrderUptoRow.laid W) : NamesAt W :=
  names_of (n := nmAt 7) (d := Rows.laid_fetterlock_fetterlockref4_plain) (t := 356) (e := 9) (ss := plainStrs) h (mem_at rfl) (by kernel_rfl) (by kernel_rfl) (by kernel_rfl) (by kernel_rfl) (by kernel_rfl) (by kernel_rfl) plain_is (by kernel_rfl) plain_chk
theorem space_met {W : World} (h : laidMet Tryz.prog Rows.workbenchClausesInOrderUptoRow.laid W) : SpaceAt W :=
  space_at (n := nmAt 5) (d := Rows.laid_strings_asciiSpace) (t := 382) (e := 5) h (mem_at rfl) (by kernel_rfl) (by kernel_rfl) (by kernel_rfl) (by kernel_rfl) (by kernel_rfl) (by kernel_rfl) space_is
theorem NamesAt.below {n : Nat} {w w' : World} (h : NamesAt w) (hb : Below n w w') (hn : 1 < n) : NamesAt w' := fun i hi => by
  obtain ⟨l, c, s, h1, h2, h3, h4⟩ := h i hi
  exact ⟨l, c, s, h1, h2, (hb.cell (p := ⟨1, i, none⟩) hn).trans h3, h4⟩
theorem SpaceAt.below {n : Nat} {w w' : World} (h : SpaceAt w) (hb : Below n w w') (hn : 2 < n) : SpaceAt w' := fun b hb' =>
  (hb.cell (p := ⟨2, b, none⟩) hn).trans (h b hb')
set_option maxRecDepth 100000 in
/-- WHAT THE WALK GIVES, FOR EVERY ARGUMENT OF THE ROW -/
theorem contract (H : Type) (enc : TypeId × Value → H) (W : World) (base : Nat) (args : Array Value) (ds gs : List (DataW H)) (before : List MemPlace)
    (hval : ∀ (j : Nat) t v, Tryz.f3.params[j]? = some t → args[j]? = some v → Value.okWide Tryz.prog W .any base t v)
    (hW : DataW.Whole enc Tryz.prog Tryz.f3.params.toList Rows.workbenchClausesInOrderSpec.vars false W args.toList ds gs before) (hk : Rows.uptoSmall H (ds ++ gs) = true) (hL : laidMet Tryz.prog Rows.workbenchClausesInOrderUptoRow.laid W) (hS : W.ShapedOpen Tryz.prog) :
    Calls Tryz.prog 3 args W fun e W' => ∃ v, e = .returned v ∧ Rows.workbenchClausesInOrderSpec.post enc Tryz.prog Tryz.f3 false true false false W args v W' := by
  have hW' := hW
  obtain ⟨p, q, hA0, hV, rfl, hfz, hnd⟩ := hW
  have hA : DataW.TrodAll enc Tryz.prog W 0 (fun _ => true) true Tryz.f3.params.toList args.toList ds p := hA0
  rw [Tryz.params3] at hA hval
  obtain ⟨v0, d0, rfl, rfl, h0⟩ := trodAll_one hA
  obtain ⟨rfl, rfl⟩ := trodVars_none hV
  have hbd : Rows.uptoBulkAll ([d0] ++ []) ≤ 1048576 := of_decide_eq_true hk
  simp only [List.append_nil] at hbd hW'
  obtain ⟨x0, x1, x3, ao, cap, L, rfl, hL1, hL2, hL3⟩ := program_arg (hval 0 27 v0 rfl rfl) h0 (Nat.le_trans (bulk_part (List.mem_singleton.2 rfl)) hbd)
  have hlt : ∀ x ∈ p, x.block < W.heap.size := fun x hx => by simpa using hW'.lt x hx
  have hG := globals_there hS
  have hN := names_met hL
  have hSp := space_met hL
  refine (law_calls L W.heap.size W x0 x1 x3 ao cap (Nat.le_refl _) hL2 hL1 hL3 fun w' hb => divided_calls w' (Nat.le_trans hG hb.size) (hN.below hb (by rw [globals11] at hG; omega)) (hSp.below hb (by rw [globals11] at hG; omega))).mono ?_
  rintro e W' ⟨rfl, hb⟩
  have r0 := Below.trod rowLaid (by kernel_rfl) (of_decide_eq_true (by kernel_rfl)) h0 hb fun x hx => hlt x hx
  exact ⟨_, rfl, [d0], [], _, [], _, [], hW', trodAll_cons_mk (shut_bool Tryz.underlying4 _) trodAll_mk0, trodAll_mk1 r0, rfl, hb.frame _, fun h => by cases h⟩
end Go.Proofs.YtihaajnknnapmaaGreatDoor
end
