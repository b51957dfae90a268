/-
  A part of the proof of the card of WorkClosureMatchesSpec (second form): lemmas that the text Card uses. No condition of its own.
-/
import Derived.Test.YtbleedclnkpbkaaGreatDoorLaw
import Derived.Test.YtbleedclnkpbkaaGreatDoorFactE
import Derived.Test.YtbleedclnkpbkaaGreatDoorRows
import Derived.ProofKit
import Derived.OpenShut
import Derived.Deep.Slices
import Derived.Deep.Fields
import Derived.ChangeSame
import Derived.Lib.SmallJoins
import Derived.Carry
import Derived.Test.YtbleedclnkpbkaaGreatDoorCards
import Derived.Test.YtbleedclnkpbkaaGreatDoorTie
import Derived.WalkKit
import Derived.Deep.DeepHandedRow
import Derived.Lib.LaidTab
set_option linter.all false
set_option linter.unusedVariables false
set_option linter.unusedSimpArgs false
section
namespace Go.Proofs.YtbleedclnkpbkaaGreatDoor
open Go.ChangeShapes Go.WideShapes Go.Deep
section
variable {H : Type} {enc : TypeId × Value → H} {P : Program} {w : World} {base : Nat} {spare : Nat → Bool} {held : Bool}
theorem open_slice_fields {t e : TypeId} {fs : Array Field} {fuel : Nat} {cs : List Value} {x : DataW H × List MemPlace} (ht : P.underlying t = some (.slice e)) (he : P.underlying e = some (.struct fs))
    (hone : oneCellFields P fs = true) (hC : P.cellsOf e = fs.size) (h : DataW.trod enc P w base spare held fuel t cs = some x) :
    (cs = [.slice none 0 0] ∧ x = (.nil, [])) ∨
    ∃ (a : Addr) (len cap m : Nat) (D : Nat → DataW H) (Pl : Nat → List MemPlace), cs = [.slice (some a) len cap] ∧ base ≤ a.block ∧ len ≤ cap ∧ cap ≤ maxLen ∧ m = (if spare a.block then cap else len) ∧
      x = (.slice ((List.range len).map D) ((List.range (m - len)).map fun j => D (len + j)), MemPlace.row a (m * fs.size) ++ (List.range m).flatMap Pl) ∧
      ∀ i, i < m → ∃ (ys : List (DataW H × List MemPlace)) (n : Nat), D i = .agg (ys.map (·.1)) ∧ Pl i = ys.flatMap (·.2) ∧ ys.length = fs.size ∧
        ∀ (j : Nat) (f : Field), fs[j]? = some f → ∃ (v : Value) (y : DataW H × List MemPlace), w.cell? (a.add (i * fs.size + j)) = some v ∧ ys[j]? = some y ∧ DataW.trod enc P w base spare held n f.type [v] = some y := by
  rcases open_slice ht h with h0 | ⟨a, len, cap, m, n, D, Pl, hcs, hb, hl, hm, hmm, hx, hi⟩
  · exact .inl h0
  · refine .inr ⟨a, len, cap, m, D, Pl, hcs, hb, hl, hm, hmm, by rw [hC] at hx; exact hx, fun i him => ?_⟩
    obtain ⟨cs', hc, ht'⟩ := hi i him
    rw [hC] at hc
    obtain ⟨ys, n', hn', hy, hlen, hyl, hf⟩ := DataW.trod_struct he ht'
    obtain ⟨_, hcl, hat⟩ := World.cells?_some hc
    simp only [Prod.mk.injEq] at hy
    refine ⟨ys, n', hy.1, hy.2, hyl, fun j f hj => ?_⟩
    obtain ⟨ho, hk⟩ := hone_of hone j f hj
    have hjl : j < fs.size := (Array.getElem?_eq_some_iff.1 hj).1
    have hcell := hat j hjl
    have hv : cs'[j]? = some (cs'[j]'(by omega)) := List.getElem?_eq_getElem (by omega)
    have h1 := hf j f hj
    rw [ho, hk] at h1
    have hone' : (cs'.drop j).take 1 = [cs'[j]'(by omega)] := by
      rw [List.drop_eq_getElem_cons (by omega)]
      rfl
    rw [hone'] at h1
    have hys : ys[j]? = some (ys[j]'(by omega)) := List.getElem?_eq_getElem (by omega)
    refine ⟨_, _, ?_, hys, h1.trans hys⟩
    rw [← Go.Deep.add_add, hcell, hv]
end
open Go.RowKit Go.Joins
theorem bulk_part {H : Type} {d : DataW H} {l : List (DataW H)} (h : d ∈ l) : Rows.uptoBulk d ≤ Rows.uptoBulkAll l := by
  induction l with
  | nil => cases h
  | cons x r ih =>
    simp only [Rows.uptoBulkAll]
    cases List.mem_cons.1 h with
    | inl e => subst e; omega
    | inr e => have := ih e; omega
theorem bulk_one {H : Type} (d : DataW H) : 1 ≤ Rows.uptoBulk d := by
  cases d with
  | lit l => cases l <;> simp [Rows.uptoBulk]
  | nil => simp [Rows.uptoBulk]
  | ptr d => simp [Rows.uptoBulk]
  | slice elems spare => simp [Rows.uptoBulk]
  | agg parts => simp [Rows.uptoBulk]
  | iface t d => simp [Rows.uptoBulk]
  | map entries => simp [Rows.uptoBulk]
  | held h => simp [Rows.uptoBulk]
theorem bulk_length {H : Type} (l : List (DataW H)) : l.length ≤ Rows.uptoBulkAll l := by
  induction l with
  | nil => simp [Rows.uptoBulkAll]
  | cons x r ih => have := bulk_one x; simp only [Rows.uptoBulkAll, List.length_cons]; omega
theorem list_of {A : Type} {P : Nat → A → Prop} : ∀ n : Nat, (∀ i, i < n → ∃ x, P i x) → ∃ L : List A, L.length = n ∧ ∀ i x, L[i]? = some x → P i x
  | 0, _ => ⟨[], rfl, fun i x h => by simp at h⟩
  | n + 1, h => by
    obtain ⟨L, h1, h2⟩ := list_of n fun i hi => h i (by omega)
    obtain ⟨x, hx⟩ := h n (by omega)
    refine ⟨L ++ [x], by simp [h1], fun i y hy => ?_⟩
    by_cases hi : i < n
    · rw [List.getElem?_append_left (by omega)] at hy
      exact h2 i y hy
    · rw [List.getElem?_append_right (by omega)] at hy
      have h0 : i - L.length = 0 := by
        have := (List.getElem?_eq_some_iff.1 hy).1; simp at this; omega
      rw [h0] at hy
      simp at hy
      subst hy
      have : i = n := by omega
      rw [this]; exact hx
theorem int_small {n : Int} (h : (Lit.int .i64 n).wf = true) : n < 9223372036854775808 := by
  simp [Lit.wf, IntKind.wrap, IntKind.bits, IntKind.signed] at h
  omega
theorem ones38 : oneCellFields Tryz.prog #[{ name := "From", type := 3, offset := 0, embedded := false, tag := "", pkgPath := "", byteOffset := 0 }, { name := "To", type := 3, offset := 1, embedded := false, tag := "", pkgPath := "", byteOffset := 8 }, { name := "Strict", type := 4, offset := 2, embedded := false, tag := "", pkgPath := "", byteOffset := 16 }] = true := by kernel_rfl
theorem ones25 : oneCellFields Tryz.prog #[{ name := "From", type := 3, offset := 0, embedded := false, tag := "", pkgPath := "", byteOffset := 0 }, { name := "To", type := 3, offset := 1, embedded := false, tag := "", pkgPath := "", byteOffset := 8 }, { name := "Links", type := 23, offset := 2, embedded := false, tag := "", pkgPath := "", byteOffset := 16 }] = true := by kernel_rfl
theorem cells38 : Tryz.prog.cellsOf 38 = 3 := by kernel_rfl
theorem cells25 : Tryz.prog.cellsOf 25 = 3 := by kernel_rfl
theorem addr_plain {W : World} {a : Addr} {v : Value} (h : W.cell? a = some v) : ∃ b o, a = ⟨b, o, none⟩ := by
  have hsp : a.spot = none := by
    cases hs : a.spot with
    | none => rfl
    | some s =>
      unfold World.cell? at h
      rw [hs] at h
      split at h <;> simp at h
  obtain ⟨ab, ao, asp⟩ := a
  simp only at hsp
  subst hsp
  exact ⟨ab, ao, rfl⟩
theorem add_plain (ab ao k : Nat) : Addr.add ⟨ab, ao, none⟩ k = ⟨ab, ao + k, none⟩ := by
  unfold Addr.add
  split
  · next h => subst h; rfl
  · rfl
/-- a slice of links, opened -/
theorem links_open {H : Type} {enc : TypeId × Value → H} {W : World} {fuel : Nat} {cs : List Value} {x : DataW H × List MemPlace} (h : DataW.trod enc Tryz.prog W 0 (fun _ => true) true fuel 23 cs = some x) {B : Nat} (hb : Rows.uptoBulk x.1 ≤ B) (hB : B ≤ 1048576) :
    ∃ (ao : Option Addr) (len cap : Nat) (L : List Lk), cs = [.slice ao len cap] ∧ L.length = len ∧ len ≤ B ∧ limL L ∧ LinksAt W.heap.size W (.slice ao len cap) L := by
  rcases open_slice_fields Tryz.underlying23 Tryz.underlying38 ones38 cells38 h with ⟨rfl, rfl⟩ | ⟨a, len, cap, m, D, Pl, rfl, _, hl, _, hm, rfl, hi⟩
  · exact ⟨none, 0, 0, [], rfl, rfl, by omega, (fun x hx => by simp at hx), none, 0, rfl, by simp, fun h => absurd rfl h⟩
  · have hlen : len ≤ B := by
      have h1 := bulk_length ((List.range len).map D)
      simp only [Rows.uptoBulk] at hb
      rw [List.length_map, List.length_range] at h1
      omega
    have hmc : len ≤ m := by rw [hm]; simpa using hl
    obtain ⟨L, hL1, hL2⟩ := list_of (P := fun i (x : Lk) => (x.f < 9223372036854775808 ∧ x.t < 9223372036854775808) ∧ W.cell? (a.add (i * 3)) = some (.int .i64 x.f) ∧ W.cell? (a.add (i * 3 + 1)) = some (.int .i64 x.t) ∧ W.cell? (a.add (i * 3 + 2)) = some (.bool x.s)) len fun i hil => by
      obtain ⟨ys, n, _, _, _, hf⟩ := hi i (by omega)
      obtain ⟨v0, y0, c0, _, t0⟩ := hf 0 _ rfl
      obtain ⟨v1, y1, c1, _, t1⟩ := hf 1 _ rfl
      obtain ⟨v2, y2, c2, _, t2⟩ := hf 2 _ rfl
      obtain ⟨n0, e0, _, w0⟩ := DataW.trod_int Tryz.underlying3 t0
      obtain ⟨n1, e1, _, w1⟩ := DataW.trod_int Tryz.underlying3 t1
      obtain ⟨n2, e2, _⟩ := DataW.trod_bool Tryz.underlying4 t2
      simp only [List.cons.injEq, and_true] at e0 e1 e2
      subst e0; subst e1; subst e2
      exact ⟨⟨n0, n1, n2⟩, ⟨int_small w0, int_small w1⟩, c0, c1, c2⟩
    refine ⟨some a, len, cap, L, rfl, hL1, hlen, fun x hx => ?_, some a, cap, by rw [hL1], by omega, fun hne => ?_⟩
    · obtain ⟨i, hi⟩ := List.getElem?_of_mem hx
      exact (hL2 i x hi).1
    have hpos : 0 < len := by
      rcases Nat.eq_zero_or_pos len with h0 | h0
      · exact absurd (List.length_eq_zero_iff.1 (hL1.trans h0)) hne
      · exact h0
    obtain ⟨x0, hx0⟩ : ∃ x0, L[0]? = some x0 := ⟨L[0], List.getElem?_eq_getElem (by omega)⟩
    have h00 := (hL2 0 x0 hx0).2.1
    have ha0 : a.add (0 * 3) = a := by simp [Addr.add]
    rw [ha0] at h00
    obtain ⟨ab, ao, rfl⟩ := addr_plain h00
    refine ⟨ab, ao, rfl, block_lt_of_cell h00, fun j x hx => ?_⟩
    have := (hL2 j x hx).2
    simpa only [add_plain, Nat.add_assoc] using this
set_option maxRecDepth 100000 in
/-- a graph, opened -/
theorem graph_open {H : Type} {enc : TypeId × Value → H} {W : World} {base : Nat} {v : Value} {d : DataW H} {p : List MemPlace} (hv : Value.okWide Tryz.prog W .any base 25 v) (h : DataW.Trod enc Tryz.prog W 0 (fun _ => true) true 25 v d p) (hb : Rows.uptoBulk d ≤ 1048576) :
    ∃ (f t : Int) (ao : Option Addr) (len cap : Nat) (L : List Lk), v = .agg #[.int .i64 f, .int .i64 t, .slice ao len cap] ∧ L.length = len ∧ len ≤ 1048576 ∧ Gr.lim ⟨f, t, L⟩ ∧ LinksAt W.heap.size W (.slice ao len cap) L := by
  obtain ⟨v0, v1, v2, y0, y1, y2, n, rfl, rfl, _, h0, h1, h2⟩ := open_agg3 Tryz.underlying25 ones25 cells25 hv h
  obtain ⟨n0, e0, _, w0⟩ := DataW.trod_int Tryz.underlying3 h0
  obtain ⟨n1, e1, _, w1⟩ := DataW.trod_int Tryz.underlying3 h1
  have hb2 : Rows.uptoBulk y2.1 ≤ 1048576 := by
    have := bulk_part (d := y2.1) (l := [y0.1, y1.1, y2.1]) (by simp)
    simp only [Rows.uptoBulk] at hb
    omega
  obtain ⟨ao, len, cap, L, e2, hL1, hl, hlim, hL⟩ := links_open h2 hb2 (Nat.le_refl _)
  simp only [List.cons.injEq, and_true] at e0 e1 e2
  subst e0; subst e1; subst e2
  exact ⟨n0, n1, ao, len, cap, L, rfl, hL1, hl, ⟨int_small w0, int_small w1, hlim⟩, hL⟩
theorem bulk_sum {H : Type} : ∀ (n : Nat) (D : Nat → DataW H) (G : List Gr), G.length = n → (∀ i g, G[i]? = some g → g.L.length ≤ Rows.uptoBulk (D i)) → (G.flatMap fun g => g.L).length ≤ Rows.uptoBulkAll ((List.range n).map D)
  | 0, D, G, h, _ => by
    have : G = [] := List.length_eq_zero_iff.1 h
    subst this; simp
  | n + 1, D, G, h, hp => by
    match G, h, hp with
    | g :: G, h, hp =>
      have h1 := hp 0 g rfl
      have h2 := bulk_sum n (fun i => D (i + 1)) G (by simpa using h) fun i x hx => hp (i + 1) x (by simpa using hx)
      rw [List.range_succ_eq_map, List.map_cons, List.map_map, List.flatMap_cons, List.length_append]
      show g.L.length + _ ≤ Rows.uptoBulkAll (D 0 :: List.map (D ∘ Nat.succ) (List.range n))
      simp only [Rows.uptoBulkAll]
      have e : (D ∘ Nat.succ) = fun i => D (i + 1) := rfl
      rw [e]
      omega
/-- a slice of graphs, opened -/
theorem graphs_open {H : Type} {enc : TypeId × Value → H} {W : World} {fuel : Nat} {cs : List Value} {x : DataW H × List MemPlace} (h : DataW.trod enc Tryz.prog W 0 (fun _ => true) true fuel 22 cs = some x) (hb : Rows.uptoBulk x.1 ≤ 1048576) :
    ∃ (ao : Option Addr) (len cap : Nat) (l : List Gr), cs = [.slice ao len cap] ∧ l.length = len ∧ len ≤ 1048576 ∧ (∀ g ∈ l, g.lim) ∧ (l.flatMap fun g => g.L).length ≤ 1048576 ∧ GraphsAt W.heap.size W (.slice ao len cap) l := by
  rcases open_slice_fields Tryz.underlying22 Tryz.underlying25 ones25 cells25 h with ⟨rfl, rfl⟩ | ⟨a, len, cap, m, D, Pl, rfl, _, hl, _, hm, rfl, hi⟩
  · exact ⟨none, 0, 0, [], rfl, rfl, by omega, by simp, by simp, none, 0, rfl, by simp, fun h => absurd rfl h⟩
  · have hbD : Rows.uptoBulkAll ((List.range len).map D) ≤ 1048576 := by
      simp only [Rows.uptoBulk] at hb
      omega
    have hlen : len ≤ 1048576 := by
      have h1 := bulk_length ((List.range len).map D)
      rw [List.length_map, List.length_range] at h1
      omega
    have hmc : len ≤ m := by rw [hm]; simpa using hl
    have hD : ∀ i, i < len → Rows.uptoBulk (D i) ≤ 1048576 := fun i hi => Nat.le_trans (bulk_part (l := (List.range len).map D) (List.mem_map.2 ⟨i, List.mem_range.2 hi, rfl⟩)) hbD
    obtain ⟨l, hL1, hL2⟩ := list_of (P := fun i (g : Gr) => (g.lim ∧ g.L.length ≤ Rows.uptoBulk (D i)) ∧ W.cell? (a.add (i * 3)) = some (.int .i64 g.f) ∧ W.cell? (a.add (i * 3 + 1)) = some (.int .i64 g.t) ∧ ∃ la lc, W.cell? (a.add (i * 3 + 2)) = some (.slice la g.L.length lc) ∧ LinksAt W.heap.size W (.slice la g.L.length lc) g.L) len fun i hil => by
      obtain ⟨ys, n, hDi, _, hyl, hf⟩ := hi i (by omega)
      obtain ⟨v0, y0, c0, _, t0⟩ := hf 0 _ rfl
      obtain ⟨v1, y1, c1, _, t1⟩ := hf 1 _ rfl
      obtain ⟨v2, y2, c2, hy2, t2⟩ := hf 2 _ rfl
      obtain ⟨n0, e0, _, w0⟩ := DataW.trod_int Tryz.underlying3 t0
      obtain ⟨n1, e1, _, w1⟩ := DataW.trod_int Tryz.underlying3 t1
      have hb2 : Rows.uptoBulk y2.1 ≤ Rows.uptoBulk (D i) := by
        have h1 : y2.1 ∈ ys.map (·.1) := List.mem_map.2 ⟨y2, List.mem_of_getElem? hy2, rfl⟩
        have := bulk_part h1
        rw [hDi]
        simp only [Rows.uptoBulk]
        omega
      obtain ⟨la, ll, lc, L, e2, hLl, hl2, hlim, hLat⟩ := links_open t2 hb2 (hD i hil)
      simp only [List.cons.injEq, and_true] at e0 e1 e2
      subst e0; subst e1; subst e2
      subst hLl
      exact ⟨⟨n0, n1, L⟩, ⟨⟨int_small w0, int_small w1, hlim⟩, hl2⟩, c0, c1, la, lc, c2, hLat⟩
    refine ⟨some a, len, cap, l, rfl, hL1, hlen, fun g hg => ?_, Nat.le_trans (bulk_sum len D l hL1 fun i g hg => (hL2 i g hg).1.2) hbD, some a, cap, by rw [hL1], by omega, fun hne => ?_⟩
    · obtain ⟨i, hi⟩ := List.getElem?_of_mem hg
      exact (hL2 i g hi).1.1
    have hpos : 0 < len := by
      rcases Nat.eq_zero_or_pos len with h0 | h0
      · exact absurd (List.length_eq_zero_iff.1 (hL1.trans h0)) hne
      · exact h0
    obtain ⟨x0, hx0⟩ : ∃ x0, l[0]? = some x0 := ⟨l[0], List.getElem?_eq_getElem (by omega)⟩
    have h00 := (hL2 0 x0 hx0).2.1
    have ha0 : a.add (0 * 3) = a := by simp [Addr.add]
    rw [ha0] at h00
    obtain ⟨ab, ao, rfl⟩ := addr_plain h00
    refine ⟨ab, ao, rfl, block_lt_of_cell h00, fun j x hx => ?_⟩
    have := (hL2 j x hx).2
    simpa only [add_plain, Nat.add_assoc] using this
end Go.Proofs.YtbleedclnkpbkaaGreatDoor
end
section
namespace Go.Proofs.YtbleedclnkpbkaaGreatDoor
open Go.ChangeShapes Go.WideShapes Go.ChangeAt Go.RowKit
theorem own : ownKnob Tryz.prog.godebug = none := by kernel_rfl
theorem rowLaid : laidOutB Tryz.prog = true := factLaid
theorem globals4 : Tryz.prog.globals.size = 4 := by kernel_rfl
theorem block3 : (((begin Tryz.prog (fun _ _ => 0) default).world.heap[3]?).bind Obj.row?).isSome = true := by kernel_rfl
theorem globals_there {W : World} (h : W.ShapedOpen Tryz.prog) : Tryz.prog.globals.size ≤ W.heap.size := by
  obtain ⟨⟨zero, t⟩, hx⟩ := Option.isSome_iff_exists.1 block3
  obtain ⟨cs, h1, _⟩ := h.1 3 zero t (by rw [globals4]; omega) hx
  have := (Array.getElem?_eq_some_iff.1 h1).1
  rw [globals4]; omega
set_option maxRecDepth 100000 in
/-- WHAT THE WALK GIVES, FOR EVERY ARGUMENT OF THE ROW -/
theorem contract (H : Type) (enc : TypeId × Value → H) (W : World) (base : Nat) (args : Array Value) (ds gs : List (DataW H)) (before : List MemPlace)
    (hval : ∀ (j : Nat) t v, Tryz.f3.params[j]? = some t → args[j]? = some v → Value.okWide Tryz.prog W .any base t v)
    (hW : DataW.Whole enc Tryz.prog Tryz.f3.params.toList Rows.workClosureMatchesSpecSpec.vars false W args.toList ds gs before) (hk : Rows.uptoSmall H (ds ++ gs) = true) (hS : W.ShapedOpen Tryz.prog) :
    Calls Tryz.prog 3 args W fun e W' => ∃ v, e = .returned v ∧ Rows.workClosureMatchesSpecSpec.post enc Tryz.prog Tryz.f3 false true false false W args v W' := by
  have hW' := hW
  obtain ⟨p, q, hA0, hV, rfl, hfz, hnd⟩ := hW
  have hA : DataW.TrodAll enc Tryz.prog W 0 (fun _ => true) true Tryz.f3.params.toList args.toList ds p := hA0
  rw [Tryz.params3] at hA hval
  obtain ⟨v0, v1, v2, d0, d1, d2, p0, p1, p2, rfl, rfl, rfl, h0, h1, h2⟩ := trodAll_three hA
  obtain ⟨rfl, rfl⟩ := trodVars_none hV
  have hbd : Rows.uptoBulkAll ([d0, d1, d2] ++ []) ≤ 1048576 := of_decide_eq_true hk
  simp only [List.append_nil] at hbd hW'
  have hbe : ∀ d, d ∈ [d0, d1, d2] → Rows.uptoBulk d ≤ 1048576 := fun d hd => Nat.le_trans (bulk_part hd) hbd
  obtain ⟨a0, ln0, cp0, rfl⟩ := okWide_slice Tryz.underlying22 (hval 0 22 v0 rfl rfl)
  have h0' := h0
  obtain ⟨fuel, hf⟩ := h0'
  obtain ⟨al, ll, cl, l, e0, hll, hsl, hlim, hsum, hl⟩ := graphs_open hf (hbe d0 (by simp))
  simp only [Value.cells, List.cons.injEq, and_true] at e0
  cases e0
  obtain ⟨fx, tx, ax, lx, cx, X, rfl, hlx, hsx, hxl, hX⟩ := graph_open (hval 1 25 v1 rfl rfl) h1 (hbe d1 (by simp))
  obtain ⟨fy, ty, ay, ly, cy, Y, rfl, hly, hsy, hyl, hY⟩ := graph_open (hval 2 25 v2 rfl rfl) h2 (hbe d2 (by simp))
  have hFT : ((l.flatMap fun g => g.L).map Lk.f).length * ((l.flatMap fun g => g.L).map Lk.t).length ≤ 2199023255552 := by
    rw [List.length_map, List.length_map]
    exact Nat.le_trans (Nat.mul_le_mul hsum hsum) (by decide)
  have hin : ∀ g ∈ l, ∀ x ∈ g.L, x.f ∈ (l.flatMap fun g => g.L).map Lk.f ∧ x.t ∈ (l.flatMap fun g => g.L).map Lk.t := fun g hg x hx =>
    ⟨List.mem_map.2 ⟨x, List.mem_flatMap.2 ⟨g, hg, hx⟩, rfl⟩, List.mem_map.2 ⟨x, List.mem_flatMap.2 ⟨g, hg, hx⟩, rfl⟩⟩
  have hFk : (∀ g ∈ l, g.good) → ∀ x ∈ (l.flatMap fun g => g.L).map Lk.f, okI x := fun hgd x hx => by
    obtain ⟨u, hu, rfl⟩ := List.mem_map.1 hx
    obtain ⟨g, hg, hu⟩ := List.mem_flatMap.1 hu
    exact (((hlim g hg).ok (hgd g hg)).2.2 u hu).1
  have hTk : (∀ g ∈ l, g.good) → ∀ x ∈ (l.flatMap fun g => g.L).map Lk.t, okI x := fun hgd x hx => by
    obtain ⟨u, hu, rfl⟩ := List.mem_map.1 hx
    obtain ⟨g, hg, hu⟩ := List.mem_flatMap.1 hu
    exact (((hlim g hg).ok (hgd g hg)).2.2 u hu).2
  have hlt : ∀ x ∈ p0 ++ p1 ++ p2, x.block < W.heap.size := fun x hx => by simpa using hW'.lt x hx
  refine (law_calls ((l.flatMap fun g => g.L).map Lk.f) ((l.flatMap fun g => g.L).map Lk.t) hFT a0 ln0 cp0 W.heap.size l hll hsl hin hlim hFk hTk fx tx fy ty ax ay cx cy lx ly X Y hlx hly hsx hsy hxl hyl W (Nat.le_refl _) (globals_there hS) hl hX hY).mono ?_
  rintro e W' ⟨rfl, hb⟩
  have r0 := Below.trod rowLaid (by kernel_rfl) (of_decide_eq_true (by kernel_rfl)) h0 hb fun x hx => hlt x (by simp [hx])
  have r1 := Below.trod rowLaid (by kernel_rfl) (of_decide_eq_true (by kernel_rfl)) h1 hb fun x hx => hlt x (by simp [hx])
  have r2 := Below.trod rowLaid (by kernel_rfl) (of_decide_eq_true (by kernel_rfl)) h2 hb fun x hx => hlt x (by simp [hx])
  exact ⟨_, rfl, [d0, d1, d2], [], _, [], _, [], hW', trodAll_cons_mk (shut_bool Tryz.underlying4 _) trodAll_mk0, trodAll_mk3 r0 r1 r2, rfl, hb.frame _, fun h => by cases h⟩
end Go.Proofs.YtbleedclnkpbkaaGreatDoor
end
