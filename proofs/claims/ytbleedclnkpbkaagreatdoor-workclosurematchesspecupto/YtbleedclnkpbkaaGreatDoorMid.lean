/-
  A part of the proof of the card of WorkClosureMatchesSpec (second form): lemmas that the text Card uses. No condition of its own.
-/
import Derived.Test.YtbleedclnkpbkaaGreatDoorPlain
import Derived.Sort.Lot0
import Derived.Shelf.GgSortFunc.InsertionK
import Derived.Laws.AppendOwn
import Derived.WalkKit
set_option linter.all false
set_option linter.unusedVariables false
set_option linter.unusedSimpArgs false
section
namespace Go.Proofs.YtbleedclnkpbkaaGreatDoor
open Go.RowKit
theorem MapAt.kept {w w' : World} {b : Nat} {M : List KB} (h : MapAt w b M) (hb : w'.heap[b]? = w.heap[b]?) : MapAt w' b M := by
  obtain ⟨es, c, h1, h2⟩ := h
  exact ⟨es, c, hb.trans h1, h2⟩
/-- compose's world between two steps: what lay below block n0 + 3 lies as in wb; the map in block n0 + 3 -/
structure Mid (n0 : Nat) (wb wr : World) (M : List KB) : Prop where
  below : Below (n0 + 3) wb wr
  size : n0 + 4 ≤ wr.heap.size
  map : MapAt wr (n0 + 3) M
theorem Mid.alloc {n0 : Nat} {wb wr : World} {M : List KB} (h : Mid n0 wb wr M) (o : Obj) : Mid n0 wb (wr.alloc o) M :=
  ⟨h.below.alloc (by have := h.size; omega) o, by rw [World.size_alloc]; have := h.size; omega, h.map.kept (Below.heap_alloc wr o _ (by have := h.size; omega))⟩
theorem Mid.drew {n0 : Nat} {wb wr : World} {M : List KB} (h : Mid n0 wb wr M) : Mid n0 wb wr.drew M :=
  ⟨⟨h.below.os, h.below.tape, h.below.output, h.below.size, h.below.block⟩, h.size, h.map.kept rfl⟩
theorem Mid.put {n0 : Nat} {wb wr : World} {M M' : List KB} (h : Mid n0 wb wr M) {o : Obj} (hm : MapAt { wr with heap := wr.heap.setIfInBounds (n0 + 3) o } (n0 + 3) M') : Mid n0 wb { wr with heap := wr.heap.setIfInBounds (n0 + 3) o } M' :=
  ⟨⟨h.below.os, h.below.tape, h.below.output, by simpa using h.below.size, fun k hk => by
    show (wr.heap.setIfInBounds (n0 + 3) o)[k]? = _
    rw [Array.getElem?_setIfInBounds_ne (by omega)]; exact h.below.block k hk⟩, by simpa using h.size, hm⟩
theorem Mid.update {n0 : Nat} {wb wr : World} {M : List KB} (h : Mid n0 wb wr M) (k : Int × Int) (v : Bool) :
    ∃ wu, (Instr.mapUpdate 82 (.map (some (n0 + 1 + 1 + 1))) (.agg #[.int .i64 k.1, .int .i64 k.2]) (.bool v)).run Tryz.prog wr = .ok () wu ∧ Mid n0 wb wu (putM k v M) ∧ wu.heap.size = wr.heap.size ∧ ∀ i, i ≠ n0 + 3 → wu.heap[i]? = wr.heap[i]? := by
  obtain ⟨o, h1, h2⟩ := update_key h.map k v
  exact ⟨_, h1, h.put h2, by simp, fun i hi => by show (wr.heap.setIfInBounds (n0 + 3) o)[i]? = _; rw [Array.getElem?_setIfInBounds_ne (Ne.symm hi)]⟩
end Go.Proofs.YtbleedclnkpbkaaGreatDoor
end
section
namespace Go.Proofs.YtbleedclnkpbkaaGreatDoor
open Go.Sort
/-- the link that the loop over the map makes of an entry -/
def lkOf (p : KB) : Lk := ⟨p.1.1, p.1.2, p.2⟩
theorem valM_mem {k : Int × Int} {v : Bool} : ∀ {M : List KB}, (M.map (·.1)).Nodup → (valM k M = some v ↔ (k, v) ∈ M)
  | [], _ => by simp [valM]
  | p :: M, h => by
    have h' : p.1 ∉ M.map (·.1) ∧ (M.map (·.1)).Nodup := by simpa using h
    have ih := valM_mem (k := k) (v := v) h'.2
    by_cases hk : k = p.1
    · have hno : (k, v) ∉ M := fun hm => h'.1 (List.mem_map.2 ⟨_, hm, hk⟩)
      simp only [valM, hk, if_true, List.mem_cons]
      constructor
      · intro e
        exact .inl (by cases p; simp at e; simp [e])
      · rintro (e | e)
        · rw [← e]
        · exact absurd (hk ▸ e) hno
    · simp only [valM, hk, if_false, List.mem_cons, ih]
      constructor
      · exact .inr
      · rintro (e | e)
        · exact absurd (by rw [← e]) hk
        · exact e
theorem isComp_of {A B L : List Lk} {M : List KB} (hT : Tells M fun a b => a ∈ A ∧ b ∈ B) (hn : (M.map (·.1)).Nodup) (hL : ∀ x : Lk, x ∈ L ↔ ((x.f, x.t), x.s) ∈ M) (hs : L.Pairwise keyLt) : IsComp A B L :=
  ⟨hs, fun x => by rw [hL x, ← valM_mem hn]; exact hT (x.f, x.t) x.s⟩
theorem pairwise_get {α : Type} [Inhabited α] {R : α → α → Prop} {l : List α} (h : ∀ i j, i < j → j < l.length → R l[i]! l[j]!) : l.Pairwise R := by
  rw [List.pairwise_iff_getElem]
  intro i j hi hj hij
  have := h i j hij hj
  rwa [getElem!_pos l i hi, getElem!_pos l j hj] at this
/-- the range has given D, all of M; sorted, it is the composition -/
theorem isComp_sorted {A B : List Lk} {M D : List KB} {d' : Array Lk} (hT : Tells M fun a b => a ∈ A ∧ b ∈ B) (hn : (M.map (·.1)).Nodup) (hD1 : ∀ p ∈ D, p ∈ M) (hD2 : ∀ p ∈ M, p ∈ D) (hDn : (D.map (·.1)).Nodup)
    (hp : d'.toList.Perm (D.map lkOf)) (hs : ∀ i j, i < j → j < d'.size → ¬ lkLt d'[j]! d'[i]!) : IsComp A B d'.toList := by
  have hmem : ∀ x : Lk, x ∈ d'.toList ↔ ((x.f, x.t), x.s) ∈ M := by
    intro x
    rw [hp.mem_iff, List.mem_map]
    constructor
    · rintro ⟨p, h1, rfl⟩; exact hD1 p h1
    · intro h; exact ⟨_, hD2 _ h, rfl⟩
  refine isComp_of hT hn hmem ?_
  have hkd : (d'.toList.map fun x => (x.f, x.t)).Nodup := by
    rw [(hp.map _).nodup_iff, List.map_map]
    exact hDn
  refine pairwise_get fun i j hij hj => ?_
  have hj' : j < d'.size := by simpa using hj
  have h1 := hs i j hij hj'
  have hne : (d'.toList[i]!.f, d'.toList[i]!.t) ≠ (d'.toList[j]!.f, d'.toList[j]!.t) := by
    intro e
    have hi : i < d'.toList.length := by omega
    have h2 := List.pairwise_iff_getElem.1 (List.nodup_iff_pairwise_ne.1 hkd) i j (by simpa using hi) (by simpa using hj') hij
    rw [getElem!_pos _ i hi, getElem!_pos _ j hj] at e
    simp only [List.getElem_map] at h2
    exact h2 e
  have hi' : i < d'.size := by omega
  have e1 : d'.toList[i]! = d'[i]! := by rw [getElem!_pos d'.toList i (by simpa using hi'), getElem!_pos d' i hi']; simp
  have e2 : d'.toList[j]! = d'[j]! := by rw [getElem!_pos d'.toList j hj, getElem!_pos d' j hj']; simp
  rw [e1, e2] at hne ⊢
  unfold lkLt at h1
  unfold keyLt
  simp only [ne_eq, Prod.mk.injEq] at hne
  omega
theorem length_le_of_nodup {α : Type} [DecidableEq α] : ∀ {l m : List α}, l.Nodup → (∀ x ∈ l, x ∈ m) → l.length ≤ m.length
  | [], _, _, _ => by simp
  | a :: l, m, hn, hs => by
    have h1 := List.nodup_cons.1 hn
    have ha : a ∈ m := hs a (by simp)
    have h2 := length_le_of_nodup (m := m.erase a) h1.2 fun x hx => by
      have hne : x ≠ a := fun e => h1.1 (e ▸ hx)
      exact (List.mem_erase_of_ne hne).2 (hs x (by simp [hx]))
    rw [List.length_erase_of_mem ha] at h2
    have : 0 < m.length := List.length_pos_of_mem ha
    simp; omega
/-- how many entries the map has at most -/
theorem keys_le {A B : List Lk} {M : List KB} {F T : List Int} (hT : Tells M fun a b => a ∈ A ∧ b ∈ B) (hn : (M.map (·.1)).Nodup) (hF : ∀ a ∈ A, a.f ∈ F) (hTt : ∀ b ∈ B, b.t ∈ T) : M.length ≤ F.length * T.length := by
  have h := length_le_of_nodup (l := M.map (·.1)) (m := F.flatMap fun i => T.map fun j => (i, j)) hn fun k hk => by
    obtain ⟨p, hp, rfl⟩ := List.mem_map.1 hk
    have h1 : valM p.1 M = some p.2 := (valM_mem hn).2 (by cases p; exact hp)
    obtain ⟨⟨x, y, ⟨hx, hy⟩, _, e⟩, _⟩ := (hT p.1 p.2).1 h1
    rw [e, List.mem_flatMap]
    exact ⟨x.f, hF x hx, List.mem_map.2 ⟨y.t, hTt y hy, rfl⟩⟩
  have e : (F.flatMap fun i => T.map fun j => (i, j)).length = F.length * T.length := by
    rw [List.length_flatMap]
    simp [List.map_const', List.sum_replicate_nat]
  rw [e, List.length_map] at h
  exact h
end Go.Proofs.YtbleedclnkpbkaaGreatDoor
end
section
namespace Go.Proofs.YtbleedclnkpbkaaGreatDoor
open Go.RowKit Go.Sort
theorem cells_len (x : Lk) : x.cells.length = 3 := rfl
theorem flat_len : ∀ X : List Lk, (X.flatMap Lk.cells).length = X.length * 3
  | [] => rfl
  | x :: X => by simp [flat_len X, Lk.cells]; omega
theorem flat_get : ∀ (X : List Lk) (j c : Nat) (x : Lk), X[j]? = some x → c < 3 → (X.flatMap Lk.cells)[j * 3 + c]? = x.cells[c]?
  | [], j, c, x, h, _ => by simp at h
  | y :: X, 0, c, x, h, hc => by
    obtain rfl : y = x := by simpa using h
    rw [List.flatMap_cons, Nat.zero_mul, Nat.zero_add, List.getElem?_append_left (by rw [cells_len]; exact hc)]
  | y :: X, j + 1, c, x, h, hc => by
    have ih := flat_get X j c x (by simpa using h) hc
    rw [List.flatMap_cons, List.getElem?_append_right (by rw [cells_len]; omega), cells_len, ← ih]
    congr 1; omega
theorem flatK_links (X : List Lk) : flatK Lk.cells 3 X.toArray = (X.flatMap Lk.cells).toArray := by
  refine ext_get! (by simp only [size_flatK, List.size_toArray, flat_len]) fun t ht => ?_
  have ht' : t < X.length * 3 := by simpa using ht
  rw [get_flatK _ _ _ t (by simpa using ht')]
  have hj : t / 3 < X.length := by omega
  have h := flat_get X (t / 3) (t % 3) X[t / 3] (List.getElem?_eq_getElem hj) (by omega)
  rw [show t / 3 * 3 + t % 3 = t by omega] at h
  have hl : t < (X.flatMap Lk.cells).length := by rw [flat_len]; exact ht'
  rw [getElem!_pos X.toArray (t / 3) (by simpa using hj), getElem!_pos (X.flatMap Lk.cells).toArray t (by simpa using hl)]
  rw [List.getElem?_eq_getElem hl] at h
  have hc : t % 3 < (X[t / 3]).cells.length := by rw [cells_len]; omega
  rw [List.getElem?_eq_getElem hc] at h
  simp only [List.getElem_toArray]
  rw [getElem!_pos (X[t / 3]).cells (t % 3) hc]
  exact (Option.some.inj h).symm
/-- a slice that the call has made by append, as the sort's row -/
theorem holds_of_owns {w : World} {base : Nat} {e : TypeId} {v : Value} {X : List Lk} (h : w.ownsRow base e 3 v X.length (X.flatMap Lk.cells)) (hne : X ≠ []) :
    ∃ blk cap, v = .slice (some ⟨blk, 0, none⟩) X.length cap ∧ base ≤ blk ∧ blk < w.heap.size ∧ X.length ≤ maxLen ∧ HoldsK Lk.cells 3 w blk 0 X.toArray := by
  obtain ⟨h1, ⟨_, h0⟩ | ⟨g, cap, cur, hv, hb, hg, hn, hm, hs, ht⟩⟩ := h
  · exact absurd (List.length_eq_zero_iff.1 h0) hne
  · refine ⟨g, cap, hv, hb, (Array.getElem?_eq_some_iff.1 hg).1, by omega, ?_⟩
    intro j hj
    rw [flatK_links] at hj ⊢
    have hj' : j < X.length * 3 := by rw [List.size_toArray, flat_len] at hj; exact hj
    have hcur : cur[j]? = some ((X.flatMap Lk.cells).toArray[j]!) := by
      rw [← Array.getElem?_toList, ← List.getElem?_take_of_lt hj', ht, getElem!_pos _ j hj]
      rw [List.getElem?_eq_getElem (by simpa using hj)]
      simp
    constructor
    · simpa [World.cell?, hg] using hcur
    · simp [World.frozen?, hg]
theorem sortWorld_below {w : World} {base blk off n : Nat} {d' : Array Lk} {os : Array Obj} (hb : base ≤ blk) (hblk : blk < w.heap.size) : Below base w (sortWorldK Lk.cells 3 w blk off n d' os) := by
  refine ⟨rfl, rfl, rfl, ?_, fun k hk => ?_⟩
  · unfold sortWorldK putRowK
    rw [size_grow, size_putRow]
    show w.heap.size ≤ (Sort.ahead w n).heap.size + _
    simp [Sort.ahead]
  · unfold sortWorldK putRowK putRow mapBlock grow
    show (Array.modify w.heap blk _ ++ os)[k]? = _
    have hlt : k < w.heap.size := by omega
    rw [Array.getElem?_append, if_pos (by simpa using hlt), Array.getElem?_modify, if_neg (by omega)]
theorem links_sorted {w : World} {blk cap n : Nat} {X : List Lk} {d' : Array Lk} {os : Array Obj} (hH : HoldsK Lk.cells 3 w blk 0 X.toArray) (hblk : blk < w.heap.size) (hsz : d'.size = X.length) (hbig : X.length < 4611686018427387904) :
    LinksAt (sortWorldK Lk.cells 3 w blk 0 n d' os).heap.size (sortWorldK Lk.cells 3 w blk 0 n d' os) (.slice (some ⟨blk, 0, none⟩) X.length cap) d'.toList := by
  have h1 : HoldsK Lk.cells 3 (putRowK Lk.cells 3 (Sort.ahead w n) blk 0 d') blk 0 d' := holdsK_putRowK _ _ _ _ _ X.toArray _ (holdsK_ahead _ _ w n _ _ _ hH) (by simpa using hsz)
  have hb2 : blk < (putRowK Lk.cells 3 (Sort.ahead w n) blk 0 d').heap.size := by unfold putRowK; rw [size_putRow]; exact hblk
  have h2 : HoldsK Lk.cells 3 (sortWorldK Lk.cells 3 w blk 0 n d' os) blk 0 d' := holdsK_grow _ _ _ os _ _ _ hb2 h1
  refine ⟨some ⟨blk, 0, none⟩, cap, by simp [hsz], by simpa [hsz] using hbig, fun _ => ⟨blk, 0, rfl, ?_, fun j x hx => ?_⟩⟩
  · unfold sortWorldK; rw [size_grow]; omega
  · have hj : j < d'.size := by
      have := (List.getElem?_eq_some_iff.1 hx).1; simpa using this
    have hx' : d'[j]! = x := by
      rw [getElem!_pos d' j hj]
      rw [List.getElem?_eq_getElem (by simpa using hj)] at hx
      simpa using hx
    have k0 := (h2.cell hj (c := 0) (by omega)).1
    have k1 := (h2.cell hj (c := 1) (by omega)).1
    have k2 := (h2.cell hj (c := 2) (by omega)).1
    rw [hx'] at k0 k1 k2
    exact ⟨k0, k1, k2⟩
end Go.Proofs.YtbleedclnkpbkaaGreatDoor
end
section
namespace Go.Proofs.YtbleedclnkpbkaaGreatDoor
theorem mem_get {x : Lk} {L : List Lk} (h : x ∈ L) : ∃ i : Nat, L[i]? = some x := by
  obtain ⟨i, hi, e⟩ := List.getElem_of_mem h
  exact ⟨i, by rw [List.getElem?_eq_getElem hi, e]⟩
/-- the composition of two graphs without fault is without fault -/
theorem IsComp.good {A B L : List Lk} {f1 t1 f2 t2 : Int} (h : IsComp A B L) (hA : goodG f1 t1 A) (hB : goodG f2 t2 B) : goodG f1 t2 L := by
  refine ⟨hA.1, hB.2.1, fun i x hx => ?_, fun i x y hx hy => ?_⟩
  · obtain ⟨a, b, ⟨ha, hb⟩, _, e1, e2⟩ := h.get (List.mem_of_getElem? hx)
    obtain ⟨j, hj⟩ := mem_get ha
    obtain ⟨k, hk⟩ := mem_get hb
    rw [e1, e2]
    exact ⟨(hA.2.2.1 j a hj).1, (hB.2.2.1 k b hk).2⟩
  · obtain ⟨hi, rfl⟩ := List.getElem?_eq_some_iff.1 hx
    obtain ⟨hj, rfl⟩ := List.getElem?_eq_some_iff.1 hy
    exact List.pairwise_iff_getElem.1 h.1 i (i + 1) hi hj (by omega)
theorem IsComp.froms {A B L : List Lk} (h : IsComp A B L) {F : List Int} (hF : ∀ a ∈ A, a.f ∈ F) : ∀ x ∈ L, x.f ∈ F := fun x hx => by
  obtain ⟨a, b, ⟨ha, hb⟩, _, e1, e2⟩ := h.get hx
  rw [e1]; exact hF a ha
theorem IsComp.tos {A B L : List Lk} (h : IsComp A B L) {T : List Int} (hT : ∀ b ∈ B, b.t ∈ T) : ∀ x ∈ L, x.t ∈ T := fun x hx => by
  obtain ⟨a, b, ⟨ha, hb⟩, _, e1, e2⟩ := h.get hx
  rw [e2]; exact hT b hb
end Go.Proofs.YtbleedclnkpbkaaGreatDoor
end
section
namespace Go.Proofs.YtbleedclnkpbkaaGreatDoor
open Go.RowKit Go.Sort
theorem IterAt.kept {w w' : World} {r b : Nat} {M D : List KB} (h : IterAt w r b M D) (hb : w'.heap[b]? = w.heap[b]?) (hr : w'.heap[r]? = w.heap[r]?) : IterAt w' r b M D := by
  obtain ⟨es, c, seen, h1, h2, h3, h4⟩ := h
  exact ⟨es, c, seen, hb.trans h1, h2, hr.trans h3, h4⟩
theorem IterAt.nodup {w : World} {r b : Nat} {M D : List KB} (h : IterAt w r b M D) : (M.map (·.1)).Nodup := by
  obtain ⟨es, c, seen, h1, h2, _⟩ := h
  exact h2.nodup
theorem owns_kept {w w' : World} {base : Nat} {e : TypeId} {size : Nat} {v : Value} {n : Nat} {xs : List Value} (h : w.ownsRow base e size v n xs) (hk : ∀ k, base ≤ k → k < w.heap.size → w'.heap[k]? = w.heap[k]?) : w'.ownsRow base e size v n xs := by
  obtain ⟨h1, h2 | ⟨g, cap, cur, e1, hb, hg, h3⟩⟩ := h
  · exact ⟨h1, .inl h2⟩
  · exact ⟨h1, .inr ⟨g, cap, cur, e1, hb, (hk g hb (Array.getElem?_eq_some_iff.1 hg).1).trans hg, h3⟩⟩
theorem setCell_block {w : World} {g : Nat} {i : Nat} {v : Value} {cs : Array Value} {e : TypeId} {fr : Nat × Nat} (h : w.heap[g]? = some (.cells cs e fr)) (k : Nat) :
    (w.setCell ⟨g, i, none⟩ v).heap[k]? = if k = g then some (.cells (cs.setIfInBounds i v) e fr) else w.heap[k]? := by
  rw [setCell_eq]
  show (Array.modify w.heap g _)[k]? = _
  rw [Array.getElem?_modify]
  by_cases hk : k = g
  · subst hk; simp [h, onCells]
  · rw [if_neg (Ne.symm hk), if_neg hk]
theorem setCell_size (w : World) (g i : Nat) (v : Value) : (w.setCell ⟨g, i, none⟩ v).heap.size = w.heap.size := by
  rw [setCell_eq]; simp [mapBlock]
/-- compose's world in the loop over the map: E has come, D lies in the links -/
structure Gat (n0 g : Nat) (f1 t2 : Int) (wb wr : World) (M D E : List KB) (sv : Value) : Prop where
  below : Below (n0 + 3) wb wr
  hg : n0 + 4 ≤ g
  out : wr.heap[g]? = some (.cells #[.int .i64 f1, .int .i64 t2, sv] 25 (0, 0))
  iter : IterAt wr (g + 1) (n0 + 3) M E
  own : wr.ownsRow (g + 2) 38 3 sv D.length ((D.map lkOf).flatMap Lk.cells)
theorem Gat.lt {n0 g : Nat} {f1 t2 : Int} {wb wr : World} {M D E : List KB} {sv : Value} (h : Gat n0 g f1 t2 wb wr M D E sv) : g + 1 < wr.heap.size := by
  obtain ⟨es, c, seen, h1, h2, h3, _⟩ := h.iter
  exact (Array.getElem?_eq_some_iff.1 h3).1
/-- a world of the same blocks -/
theorem Gat.same {n0 g : Nat} {f1 t2 : Int} {wb wr wr' : World} {M D E : List KB} {sv : Value} (h : Gat n0 g f1 t2 wb wr M D E sv) (hb : Below wr.heap.size wr wr') : Gat n0 g f1 t2 wb wr' M D E sv := by
  have hl := h.lt
  have hg := h.hg
  exact ⟨h.below.trans (hb.mono (by omega)), hg, (hb.block g (by omega)).trans h.out, h.iter.kept (hb.block _ (by omega)) (hb.block _ (by omega)), owns_kept h.own fun k _ hk => hb.block k hk⟩
theorem Gat.alloc {n0 g : Nat} {f1 t2 : Int} {wb wr : World} {M D E : List KB} {sv : Value} (h : Gat n0 g f1 t2 wb wr M D E sv) (o : Obj) : Gat n0 g f1 t2 wb (wr.alloc o) M D E sv :=
  h.same (below_alloc _ _)
theorem Gat.drew {n0 g : Nat} {f1 t2 : Int} {wb wr : World} {M D E : List KB} {sv : Value} (h : Gat n0 g f1 t2 wb wr M D E sv) : Gat n0 g f1 t2 wb wr.drew M D E sv :=
  h.same ⟨rfl, rfl, rfl, Nat.le_refl _, fun _ _ => rfl⟩
theorem Gat.next {n0 g : Nat} {f1 t2 : Int} {wb wr : World} {M D : List KB} {sv : Value} (h : Gat n0 g f1 t2 wb wr M D D sv) (ty : TypeId) :
    ((∀ p ∈ M, p ∈ D) ∧ ∃ w', (Instr.next (.pointer (some ⟨g + 1, 0, none⟩)) false ty).run Tryz.prog wr = .ok (.tuple #[.bool false]) w' ∧ Gat n0 g f1 t2 wb w' M D D sv) ∨
    ∃ p ∈ M, p.1 ∉ D.map (·.1) ∧ ∃ w', (Instr.next (.pointer (some ⟨g + 1, 0, none⟩)) false ty).run Tryz.prog wr = .ok (.tuple #[.bool true, .agg #[.int .i64 p.1.1, .int .i64 p.1.2], .bool p.2]) w' ∧ Gat n0 g f1 t2 wb w' M D (D ++ [p]) sv := by
  rcases next_key h.iter ty with ⟨h1, w', h2, h3⟩ | ⟨p, hp, hn, w1, o, h3, h2, h4⟩
  · refine .inl ⟨h1, w', h2, ?_⟩
    rcases h3 with rfl | rfl
    · exact h
    · exact h.drew
  · refine .inr ⟨p, hp, hn, _, h2, ?_⟩
    have g1 : Gat n0 g f1 t2 wb w1 M D D sv := by
      rcases h3 with rfl | rfl
      · exact h
      · exact h.drew
    have hg := h.hg
    have hne : ∀ k, k ≠ g + 1 → (w1.heap.setIfInBounds (g + 1) o)[k]? = w1.heap[k]? := fun k hk => Array.getElem?_setIfInBounds_ne (Ne.symm hk)
    refine ⟨?_, hg, (hne g (by omega)).trans g1.out, h4, owns_kept g1.own fun k hk _ => hne k (by omega)⟩
    exact ⟨g1.below.os, g1.below.tape, g1.below.output, by simpa using g1.below.size, fun k hk => (hne k (by omega)).trans (g1.below.block k hk)⟩
theorem Gat.cell {n0 g : Nat} {f1 t2 : Int} {wb wr : World} {M D E : List KB} {sv : Value} (h : Gat n0 g f1 t2 wb wr M D E sv) : wr.cell? ⟨g, 2, none⟩ = some sv := by
  simp [World.cell?, h.out]
theorem Gat.free {n0 g : Nat} {f1 t2 : Int} {wb wr : World} {M D E : List KB} {sv : Value} (h : Gat n0 g f1 t2 wb wr M D E sv) : wr.frozen? ⟨g, 2, none⟩ = false := by
  simp [World.frozen?, h.out]
/-- append has come back with v', one link more -/
theorem Gat.grown {n0 g : Nat} {f1 t2 : Int} {wb wr w' : World} {M D E : List KB} {p : KB} {sv v' : Value} (h : Gat n0 g f1 t2 wb wr M D E sv) (hg : wr.grownBy w' sv.ownBlock)
    (ho : w'.ownsRow (g + 2) 38 3 v' (D.length + 1) ((D.map lkOf).flatMap Lk.cells ++ (lkOf p).cells)) :
    w'.heap[g]? = some (.cells #[.int .i64 f1, .int .i64 t2, sv] 25 (0, 0)) ∧ Gat n0 g f1 t2 wb (w'.setCell ⟨g, 2, none⟩ v') M (D ++ [p]) E v' := by
  have hl := h.lt
  have h4 := h.hg
  have hne : ∀ k, sv.ownBlock = some k → g + 2 ≤ k := fun k hk => (h.own.lt k hk).1
  have hblk : ∀ k, k < g + 2 → w'.heap[k]? = wr.heap[k]? := fun k hk => hg.block k (by omega) (fun e => by have := hne k e.symm; omega)
  have hout : w'.heap[g]? = some (.cells #[.int .i64 f1, .int .i64 t2, sv] 25 (0, 0)) := (hblk g (by omega)).trans h.out
  refine ⟨hout, ?_⟩
  have hs := setCell_block (v := v') (i := 2) hout
  have hso : ∀ k, k ≠ g → (w'.setCell ⟨g, 2, none⟩ v').heap[k]? = w'.heap[k]? := fun k hk => by rw [hs k, if_neg hk]
  refine ⟨?_, h4, ?_, ?_, ?_⟩
  · refine ⟨hg.os.trans h.below.os, hg.tape.trans h.below.tape, hg.output.trans h.below.output, by rw [setCell_size]; exact Nat.le_trans h.below.size hg.size, fun k hk => ?_⟩
    rw [hso k (by omega), hblk k (by omega)]; exact h.below.block k hk
  · rw [hs g, if_pos rfl]; rfl
  · exact h.iter.kept ((hso _ (by omega)).trans (hblk _ (by omega))) ((hso _ (by omega)).trans (hblk _ (by omega)))
  · have e : ((D ++ [p]).map lkOf).flatMap Lk.cells = (D.map lkOf).flatMap Lk.cells ++ (lkOf p).cells := by simp
    rw [e, List.length_append]
    exact owns_kept ho fun k hk _ => hso k (by omega)
/-- how long the links in block g are -/
def lenAt (w : World) (g : Nat) : Nat := match w.cell? ⟨g, 2, none⟩ with | some (.slice _ n _) => n | _ => 0
theorem Gat.len {n0 g : Nat} {f1 t2 : Int} {wb wr : World} {M D E : List KB} {sv : Value} (h : Gat n0 g f1 t2 wb wr M D E sv) : lenAt wr g = D.length := by
  unfold lenAt
  rw [h.cell]
  rcases h.own.2 with ⟨rfl, h0⟩ | ⟨b, cap, cur, rfl, _⟩
  · simpa using h0.symm
  · rfl
theorem Tryz_info67 : (Tryz.prog.info? 38).map (fun i => (i.zero, i.size, i.bytes)) = some (some (.agg #[.int .i64 0, .int .i64 0, .bool false]), 3, 24) := by kernel_rfl
theorem cell_three_new {w : World} {k : Nat} (hk : w.heap.size = k) (a b c : Value) (e : TypeId) : ∀ (j : Nat) u, [a, b, c][j]? = some u → (w.alloc (.cells #[a, b, c] e)).cell? ((⟨k, 0, none⟩ : Addr).add j) = some u := by
  intro j u hj
  subst hk
  match j, hj with
  | 0, hj => simp at hj; subst hj; simp [Addr.add]
  | 1, hj => simp at hj; subst hj; simp [Addr.add]
  | 2, hj => simp at hj; subst hj; simp [Addr.add]
  | n + 3, hj => simp at hj
theorem Gat.start {n0 : Nat} {f1 t2 : Int} {wb wr : World} {M : List KB} {o : Obj} (h : Mid n0 wb wr M) (hit : IterAt ((wr.alloc (.cells #[.int .i64 f1, .int .i64 t2, .slice none 0 0] 25)).alloc o) (wr.heap.size + 1) (n0 + 3) M []) :
    Gat n0 wr.heap.size f1 t2 wb ((wr.alloc (.cells #[.int .i64 f1, .int .i64 t2, .slice none 0 0] 25)).alloc o) M [] [] (.slice none 0 0) :=
  ⟨((h.alloc _).alloc _).below, h.size, by rw [Below.heap_alloc _ _ _ (by rw [World.size_alloc]; omega)]; exact heap_alloc_new wr _, hit, World.ownsRow_nil _ _ _ _⟩
end Go.Proofs.YtbleedclnkpbkaaGreatDoor
namespace Go.Proofs.YtbleedclnkpbkaaGreatDoor
theorem owns_slice {w : World} {base : Nat} {e : TypeId} {size : Nat} {v : Value} {n : Nat} {xs : List Value} (h : w.ownsRow base e size v (n + 1) xs) : ∃ b cap, v = .slice (some ⟨b, 0, none⟩) (n + 1) cap := by
  rcases h.2 with ⟨_, h0⟩ | ⟨g, cap, cur, e1, _⟩
  · exact absurd h0 (by omega)
  · exact ⟨g, cap, e1⟩
theorem owns_none {w : World} {base : Nat} {e : TypeId} {size : Nat} {v : Value} {xs : List Value} (h : w.ownsRow base e size v 0 xs) : ∃ p cap, v = .slice p 0 cap := by
  rcases h.2 with ⟨e1, h0⟩ | ⟨g, cap, cur, e1, _⟩
  · exact ⟨_, _, e1⟩
  · exact ⟨_, _, e1⟩
end Go.Proofs.YtbleedclnkpbkaaGreatDoor
namespace Go.Proofs.YtbleedclnkpbkaaGreatDoor
open Go.RowKit
theorem owns_any {w : World} {base : Nat} {e : TypeId} {size : Nat} {v : Value} {n : Nat} {xs : List Value} (h : w.ownsRow base e size v n xs) : ∃ p cap, v = .slice p n cap := by
  rcases h.2 with ⟨e1, h0⟩ | ⟨g, cap, cur, e1, _⟩
  · exact ⟨_, _, by rw [e1, h0]⟩
  · exact ⟨_, _, e1⟩
theorem Gat.after {n0 g : Nat} {f1 t2 : Int} {wb wr w' : World} {M D E : List KB} {sv : Value} (h : Gat n0 g f1 t2 wb wr M D E sv) (hb : Below (g + 2) wr w') (c5 : wb.heap[n0 + 2]? = some (.cells #[.int .i64 0, .int .i64 0, .slice none 0 0] 25 (0, 0))) :
    w'.cell? ⟨g, 0, none⟩ = some (.int .i64 f1) ∧ w'.cell? ⟨g, 1, none⟩ = some (.int .i64 t2) ∧ w'.cell? ⟨g, 2, none⟩ = some sv ∧
    w'.cell? ⟨n0 + 1 + 1, 0, none⟩ = some (.int .i64 0) ∧ w'.cell? ⟨n0 + 1 + 1, 1, none⟩ = some (.int .i64 0) ∧ w'.cell? ⟨n0 + 1 + 1, 2, none⟩ = some (.slice none 0 0) ∧
    w'.frozen? ⟨n0 + 1 + 1, 0, none⟩ = false ∧ w'.frozen? ⟨n0 + 1 + 1, 1, none⟩ = false ∧ w'.frozen? ⟨n0 + 1 + 1, 2, none⟩ = false := by
  have h1 : w'.heap[g]? = some (.cells #[.int .i64 f1, .int .i64 t2, sv] 25 (0, 0)) := (hb.block g (by omega)).trans h.out
  have h2 : w'.heap[n0 + 1 + 1]? = some (.cells #[.int .i64 0, .int .i64 0, .slice none 0 0] 25 (0, 0)) := ((hb.block _ (by have := h.hg; omega)).trans (h.below.block _ (by omega))).trans c5
  simp [World.cell?, World.frozen?, h1, h2]
end Go.Proofs.YtbleedclnkpbkaaGreatDoor
namespace Go.Proofs.YtbleedclnkpbkaaGreatDoor
open Go.RowKit Go.Sort
theorem setCell_other (w : World) (k i : Nat) (v : Value) (b : Nat) (h : b ≠ k) : (w.setCell ⟨k, i, none⟩ v).heap[b]? = w.heap[b]? := by
  rw [setCell_eq]
  show (Array.modify w.heap k _)[b]? = _
  rw [Array.getElem?_modify, if_neg (Ne.symm h)]
theorem below_put {B : Nat} (w : World) (k i : Nat) (v : Value) (h : B ≤ k) : Below B w (w.setCell ⟨k, i, none⟩ v) :=
  ⟨by rw [setCell_eq]; rfl, by rw [setCell_eq]; rfl, by rw [setCell_eq]; rfl, by rw [setCell_size]; exact Nat.le_refl _, fun b hb => setCell_other w k i v b (by omega)⟩
theorem LinksAt.put {n m k i : Nat} {w : World} {ps : Option Addr} {cps : Nat} {v : Value} {L : List Lk} (h : LinksAt n w (.slice ps m cps) L) (hne : ∀ b, (Value.slice ps m cps).ownBlock = some b → b ≠ k) : LinksAt n (w.setCell ⟨k, i, none⟩ v) (.slice ps m cps) L := by
  obtain ⟨a, cap, e, h1, h2⟩ := h
  refine ⟨a, cap, e, h1, fun hn => ?_⟩
  obtain ⟨b, off, rfl, hb, hc⟩ := h2 hn
  cases e
  have hbk := hne b rfl
  exact ⟨b, off, rfl, hb, fun j x hx => by
    have hh := setCell_other w k i v b hbk
    exact ⟨(World.cell?_of_block (a := ⟨b, off + j * 3, none⟩) hh).trans (hc j x hx).1, (World.cell?_of_block (a := ⟨b, off + j * 3 + 1, none⟩) hh).trans (hc j x hx).2.1, (World.cell?_of_block (a := ⟨b, off + j * 3 + 2, none⟩) hh).trans (hc j x hx).2.2⟩⟩
end Go.Proofs.YtbleedclnkpbkaaGreatDoor
namespace Go.Proofs.YtbleedclnkpbkaaGreatDoor
open Go.RowKit Go.Sort
theorem put3_block {w : World} {k : Nat} {x y z a b c : Value} {e : TypeId} {fr : Nat × Nat} (h : w.heap[k]? = some (.cells #[x, y, z] e fr)) : (((w.setCell ⟨k, 0, none⟩ a).setCell ⟨k, 1, none⟩ b).setCell ⟨k, 2, none⟩ c).heap[k]? = some (.cells #[a, b, c] e fr) := by
  have h1 := setCell_block (i := 0) (v := a) h k
  rw [if_pos rfl] at h1
  have h2 := setCell_block (i := 1) (v := b) h1 k
  rw [if_pos rfl] at h2
  have h3 := setCell_block (i := 2) (v := c) h2 k
  rw [if_pos rfl] at h3
  exact h3
theorem Gat.res {n0 g : Nat} {f1 t2 : Int} {wb wr w' : World} {M D E : List KB} {sv : Value} (h : Gat n0 g f1 t2 wb wr M D E sv) (hb : Below (g + 2) wr w') (c5 : wb.heap[n0 + 2]? = some (.cells #[.int .i64 0, .int .i64 0, .slice none 0 0] 25 (0, 0))) :
    w'.heap[n0 + 1 + 1]? = some (.cells #[.int .i64 0, .int .i64 0, .slice none 0 0] 25 (0, 0)) :=
  ((hb.block _ (by have := h.hg; omega)).trans (h.below.block _ (by omega))).trans c5
end Go.Proofs.YtbleedclnkpbkaaGreatDoor
end
