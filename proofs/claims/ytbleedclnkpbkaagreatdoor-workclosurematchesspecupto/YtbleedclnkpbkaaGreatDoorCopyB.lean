/-
  A part of the proof of the card of WorkClosureMatchesSpec (second form): lemmas that the text Card uses. No condition of its own.
-/
import Derived.Test.YtbleedclnkpbkaaGreatDoorCopyA
import Derived.Test.YtbleedclnkpbkaaGreatDoorPlainB
import Derived.Lib.AppendZerosOnto
import Derived.Lib.Overlaps
import Derived.Maps.AppendAt
import Derived.Laws.CopyRow
set_option linter.all false
set_option linter.unusedVariables false
set_option linter.unusedSimpArgs false
section
namespace Go.Proofs.YtbleedclnkpbkaaGreatDoor
open Go.RowKit Go.Sort
/-- the links of L lie in blocks of the set S -/
def LinksIn (S : Nat → Prop) (w : World) (sv : Value) (L : List Lk) : Prop :=
  ∃ a cap, sv = .slice a L.length cap ∧ L.length < 4611686018427387904 ∧ (L ≠ [] → ∃ b off, a = some ⟨b, off, none⟩ ∧ S b ∧ ∀ j x, L[j]? = some x →
    w.cell? ⟨b, off + j * 3, none⟩ = some (.int .i64 x.f) ∧ w.cell? ⟨b, off + j * 3 + 1, none⟩ = some (.int .i64 x.t) ∧ w.cell? ⟨b, off + j * 3 + 2, none⟩ = some (.bool x.s))
theorem LinksIn.at {S : Nat → Prop} {n : Nat} {w : World} {sv : Value} {L : List Lk} (h : LinksIn S w sv L) (hS : ∀ b, S b → b < n) : LinksAt n w sv L := by
  obtain ⟨a, cap, e, h1, h2⟩ := h
  refine ⟨a, cap, e, h1, fun hne => ?_⟩
  obtain ⟨b, off, e2, hb, hc⟩ := h2 hne
  exact ⟨b, off, e2, hS b hb, hc⟩
theorem LinksIn.of {S : Nat → Prop} {n : Nat} {w : World} {sv : Value} {L : List Lk} (h : LinksAt n w sv L) (hS : ∀ b, b < n → sv.ownBlock = some b → S b) : LinksIn S w sv L := by
  obtain ⟨a, cap, e, h1, h2⟩ := h
  refine ⟨a, cap, e, h1, fun hne => ?_⟩
  obtain ⟨b, off, e2, hb, hc⟩ := h2 hne
  exact ⟨b, off, e2, hS b hb (by rw [e, e2]; rfl), hc⟩
theorem LinksIn.keep {S S' : Nat → Prop} {w w' : World} {sv : Value} {L : List Lk} (h : LinksIn S w sv L) (hk : ∀ b, S b → S' b ∧ w'.heap[b]? = w.heap[b]?) : LinksIn S' w' sv L := by
  obtain ⟨a, cap, e, h1, h2⟩ := h
  refine ⟨a, cap, e, h1, fun hne => ?_⟩
  obtain ⟨b, off, e2, hb, hc⟩ := h2 hne
  obtain ⟨h3, h4⟩ := hk b hb
  exact ⟨b, off, e2, h3, fun j x hx => ⟨(World.cell?_of_block (a := ⟨b, off + j * 3, none⟩) h4).trans (hc j x hx).1, (World.cell?_of_block (a := ⟨b, off + j * 3 + 1, none⟩) h4).trans (hc j x hx).2.1, (World.cell?_of_block (a := ⟨b, off + j * 3 + 2, none⟩) h4).trans (hc j x hx).2.2⟩⟩
/-- the cells vs of a row of graphs, whose links lie in S -/
structure RowIn (S : Nat → Prop) (w : World) (vs : List Value) (Gs : List Gr) : Prop where
  len : vs.length = Gs.length * 3
  one : ∀ u ∈ vs, u.oneCell' = true
  at_ : ∀ (j : Nat) (g : Gr), Gs[j]? = some g → vs[j * 3]? = some (.int .i64 g.f) ∧ vs[j * 3 + 1]? = some (.int .i64 g.t) ∧ ∃ la lc, vs[j * 3 + 2]? = some (.slice la g.L.length lc) ∧ LinksIn S w (.slice la g.L.length lc) g.L
theorem RowIn.at {S : Nat → Prop} {n : Nat} {w : World} {vs : List Value} {Gs : List Gr} (h : RowIn S w vs Gs) (hS : ∀ b, S b → b < n) : RowOf n w vs Gs :=
  ⟨h.len, h.one, fun j g hg => by
    obtain ⟨c0, c1, la, lc, c2, hl⟩ := h.at_ j g hg
    exact ⟨c0, c1, la, lc, c2, hl.at hS⟩⟩
theorem RowIn.keep {S S' : Nat → Prop} {w w' : World} {vs : List Value} {Gs : List Gr} (h : RowIn S w vs Gs) (hk : ∀ b, S b → S' b ∧ w'.heap[b]? = w.heap[b]?) : RowIn S' w' vs Gs :=
  ⟨h.len, h.one, fun j g hg => by
    obtain ⟨c0, c1, la, lc, c2, hl⟩ := h.at_ j g hg
    exact ⟨c0, c1, la, lc, c2, hl.keep hk⟩⟩
theorem RowIn.nil (S : Nat → Prop) (w : World) : RowIn S w [] [] := ⟨rfl, by simp, by simp⟩
theorem RowIn.append {S : Nat → Prop} {w : World} {vs us : List Value} {Gs Hs : List Gr} (h : RowIn S w vs Gs) (h' : RowIn S w us Hs) : RowIn S w (vs ++ us) (Gs ++ Hs) := by
  refine ⟨by simp [h.len, h'.len]; omega, fun u hu => ?_, fun j g hg => ?_⟩
  · rcases List.mem_append.1 hu with hu | hu
    · exact h.one u hu
    · exact h'.one u hu
  · have hl := h.len
    by_cases hj : j < Gs.length
    · rw [List.getElem?_append_left hj] at hg
      obtain ⟨c0, c1, la, lc, c2, hL⟩ := h.at_ j g hg
      rw [List.getElem?_append_left (by omega), List.getElem?_append_left (by omega), List.getElem?_append_left (by omega)]
      exact ⟨c0, c1, la, lc, c2, hL⟩
    · rw [List.getElem?_append_right (by omega)] at hg
      obtain ⟨c0, c1, la, lc, c2, hL⟩ := h'.at_ _ g hg
      rw [List.getElem?_append_right (by omega), List.getElem?_append_right (by omega), List.getElem?_append_right (by omega)]
      refine ⟨?_, ?_, la, lc, ?_, hL⟩
      · rw [show j * 3 - vs.length = (j - Gs.length) * 3 by omega]; exact c0
      · rw [show j * 3 + 1 - vs.length = (j - Gs.length) * 3 + 1 by omega]; exact c1
      · rw [show j * 3 + 2 - vs.length = (j - Gs.length) * 3 + 2 by omega]; exact c2
/-- one graph -/
theorem RowIn.one_ {S : Nat → Prop} {w : World} {g : Gr} {la : Option Addr} {lc : Nat} (h : LinksIn S w (.slice la g.L.length lc) g.L) : RowIn S w [.int .i64 g.f, .int .i64 g.t, .slice la g.L.length lc] [g] :=
  ⟨rfl, fun u hu => by simp at hu; rcases hu with rfl | rfl | rfl <;> rfl, fun j x hx => by
    have : j = 0 := by
      have := (List.getElem?_eq_some_iff.1 hx).1; simp at this; omega
    subst this
    simp at hx
    subst hx
    exact ⟨rfl, rfl, la, lc, rfl, h⟩⟩
theorem RowIn.take {S : Nat → Prop} {w : World} {vs : List Value} {Gs : List Gr} (h : RowIn S w vs Gs) (i : Nat) : RowIn S w (vs.take (i * 3)) (Gs.take i) := by
  have hl := h.len
  refine ⟨by rw [List.length_take, List.length_take]; omega, fun u hu => h.one u (List.mem_of_mem_take hu), fun j g hg => ?_⟩
  have hj : j < i := by have := (List.getElem?_eq_some_iff.1 hg).1; rw [List.length_take] at this; omega
  rw [List.getElem?_take_of_lt hj] at hg
  rw [List.getElem?_take_of_lt (by omega), List.getElem?_take_of_lt (by omega), List.getElem?_take_of_lt (by omega)]
  exact h.at_ j g hg
theorem RowIn.drop {S : Nat → Prop} {w : World} {vs : List Value} {Gs : List Gr} (h : RowIn S w vs Gs) (i : Nat) : RowIn S w (vs.drop (i * 3)) (Gs.drop i) := by
  have hl := h.len
  refine ⟨by rw [List.length_drop, List.length_drop]; omega, fun u hu => h.one u (List.mem_of_mem_drop hu), fun j g hg => ?_⟩
  rw [List.getElem?_drop] at hg
  rw [List.getElem?_drop, List.getElem?_drop, List.getElem?_drop]
  obtain ⟨c0, c1, la, lc, c2, hL⟩ := h.at_ (i + j) g hg
  refine ⟨?_, ?_, la, lc, ?_, hL⟩
  · rw [show i * 3 + j * 3 = (i + j) * 3 by omega]; exact c0
  · rw [show i * 3 + (j * 3 + 1) = (i + j) * 3 + 1 by omega]; exact c1
  · rw [show i * 3 + (j * 3 + 2) = (i + j) * 3 + 2 by omega]; exact c2
/-- a slice that the call owns; it may begin behind its block's head -/
def OwnsOff (w : World) (base : Nat) (e : TypeId) (v : Value) (n : Nat) (xs : List Value) : Prop :=
  xs.length = n * 3 ∧ ((v = .slice none 0 0 ∧ n = 0) ∨
   ∃ g off cap cur, v = .slice (some ⟨g, off, none⟩) n cap ∧ base ≤ g ∧ w.heap[g]? = some (.cells cur e (0, 0)) ∧ n ≤ cap ∧ cap ≤ maxLen ∧ off + cap * 3 ≤ cur.size ∧ (cur.toList.drop off).take (n * 3) = xs)
theorem OwnsOff.of {w : World} {base : Nat} {e : TypeId} {v : Value} {n : Nat} {xs : List Value} (h : w.ownsRow base e 3 v n xs) : OwnsOff w base e v n xs := by
  obtain ⟨h1, h2 | ⟨g, cap, cur, rfl, hb, hg, hn, hm, hs, ht⟩⟩ := h
  · exact ⟨h1, .inl h2⟩
  · exact ⟨h1, .inr ⟨g, 0, cap, cur, rfl, hb, hg, hn, hm, by omega, by simpa using ht⟩⟩
theorem OwnsOff.lt {w : World} {base : Nat} {e : TypeId} {v : Value} {n : Nat} {xs : List Value} (h : OwnsOff w base e v n xs) : ∀ k, v.ownBlock = some k → base ≤ k ∧ k < w.heap.size := by
  intro k hk
  rcases h.2 with ⟨rfl, _⟩ | ⟨g, off, cap, cur, rfl, hb, hg, _⟩
  · simp [Value.ownBlock] at hk
  · simp [Value.ownBlock] at hk
    subst hk
    exact ⟨hb, (Array.getElem?_eq_some_iff.1 hg).1⟩
theorem OwnsOff.kept {w w' : World} {base : Nat} {e : TypeId} {v : Value} {n : Nat} {xs : List Value} (h : OwnsOff w base e v n xs) (hk : ∀ b, v.ownBlock = some b → w'.heap[b]? = w.heap[b]?) : OwnsOff w' base e v n xs := by
  refine ⟨h.1, ?_⟩
  rcases h.2 with hn | ⟨g, off, cap, cur, rfl, hb, hg, rest⟩
  · exact .inl hn
  · exact .inr ⟨g, off, cap, cur, rfl, hb, (hk g rfl).trans hg, rest⟩
theorem OwnsOff.any {w : World} {base : Nat} {e : TypeId} {v : Value} {n : Nat} {xs : List Value} (h : OwnsOff w base e v n xs) : ∃ p cap, v = .slice p n cap := by
  rcases h.2 with ⟨e1, h0⟩ | ⟨g, off, cap, cur, e1, _⟩
  · exact ⟨_, _, by rw [e1, h0]⟩
  · exact ⟨_, _, e1⟩
theorem OwnsOff.cell {w : World} {base : Nat} {e : TypeId} {p : Option Addr} {n m cap : Nat} {xs : List Value} (h : OwnsOff w base e (.slice p n cap) m xs) (hm : 0 < m) :
    ∃ g off, p = some ⟨g, off, none⟩ ∧ g < w.heap.size ∧ ∀ j u, xs[j]? = some u → w.cell? ⟨g, off + j, none⟩ = some u := by
  rcases h.2 with ⟨e1, h0⟩ | ⟨g, off, cap', cur, e1, hb, hg, hn, hm', hs, ht⟩
  · omega
  · cases e1
    refine ⟨g, off, rfl, (Array.getElem?_eq_some_iff.1 hg).1, fun j u hu => ?_⟩
    rw [← ht, List.getElem?_take] at hu
    split at hu
    · rw [List.getElem?_drop] at hu
      rw [cell_of_row w g (off + j) cur e (0, 0) hg]
      simpa using hu
    · cases hu
/-- ready[1:] -/
theorem OwnsOff.tail {w : World} {base : Nat} {e : TypeId} {g off n cap : Nat} {xs : List Value} (h : OwnsOff w base e (.slice (some ⟨g, off, none⟩) (n + 1) cap) (n + 1) xs) :
    OwnsOff w base e (.slice (some (if cap = 1 then ⟨g, off, none⟩ else ⟨g, off + 3, none⟩)) n (cap - 1)) n (xs.drop 3) := by
  obtain ⟨h1, ⟨e1, h0⟩ | ⟨g', off', cap', cur, e1, hb, hg, hn, hm', hs, ht⟩⟩ := h
  · cases e1
  · cases e1
    refine ⟨by rw [List.length_drop]; omega, .inr ?_⟩
    by_cases hc : cap = 1
    · subst hc
      have hn0 : n = 0 := by omega
      subst hn0
      refine ⟨g, off, 0, cur, by simp, hb, hg, by omega, by omega, by omega, ?_⟩
      have : xs.drop 3 = [] := List.drop_of_length_le (by omega)
      rw [this]; simp
    · refine ⟨g, off + 3, cap - 1, cur, by rw [if_neg hc], hb, hg, by omega, by omega, by omega, ?_⟩
      rw [← ht, List.drop_take, List.drop_drop]
      congr 1
      omega
end Go.Proofs.YtbleedclnkpbkaaGreatDoor
end
section
namespace Go.Proofs.YtbleedclnkpbkaaGreatDoor
open Go.RowKit Go.Sort
def splice (l : List Value) (a : Nat) (xs : List Value) : List Value := l.take a ++ xs ++ l.drop (a + xs.length)
theorem splice_len {l : List Value} {a : Nat} {xs : List Value} (h : a + xs.length ≤ l.length) : (splice l a xs).length = l.length := by
  unfold splice; simp only [List.length_append, List.length_take, List.length_drop]; omega
theorem splice_get {l : List Value} {a : Nat} {xs : List Value} (h : a + xs.length ≤ l.length) (j : Nat) : (splice l a xs)[j]? = if j < a then l[j]? else if j < a + xs.length then xs[j - a]? else l[j]? := by
  unfold splice
  have h1 : (l.take a).length = a := by rw [List.length_take]; omega
  by_cases hj : j < a
  · rw [if_pos hj, List.append_assoc, List.getElem?_append_left (by omega), List.getElem?_take_of_lt hj]
  · rw [if_neg hj]
    by_cases hj2 : j < a + xs.length
    · rw [if_pos hj2, List.getElem?_append_left (by rw [List.length_append]; omega), List.getElem?_append_right (by omega), h1]
    · rw [if_neg hj2, List.getElem?_append_right (by rw [List.length_append]; omega), List.getElem?_drop, List.length_append, h1]
      congr 1; omega
theorem ins_get {vs us : List Value} {i n : Nat} (hv : vs.length = n * 3) (hu : us.length = 3) (hi : i ≤ n) (j : Nat) : (vs.take (i * 3) ++ us ++ vs.drop (i * 3))[j]? = if j < i * 3 then vs[j]? else if j < i * 3 + 3 then us[j - i * 3]? else vs[j - 3]? := by
  have h1 : (vs.take (i * 3)).length = i * 3 := by rw [List.length_take]; omega
  by_cases hj : j < i * 3
  · rw [if_pos hj, List.append_assoc, List.getElem?_append_left (by omega), List.getElem?_take_of_lt hj]
  · rw [if_neg hj]
    by_cases hj2 : j < i * 3 + 3
    · rw [if_pos hj2, List.getElem?_append_left (by rw [List.length_append]; omega), List.getElem?_append_right (by omega), h1]
    · rw [if_neg hj2, List.getElem?_append_right (by rw [List.length_append]; omega), List.getElem?_drop, List.length_append, h1, hu]
      congr 1; omega
/-- in place: what stands from i on is moved, then us is laid -/
theorem ins_place {cur vs us : List Value} {i n : Nat} (hv : vs.length = n * 3) (hu : us.length = 3) (hi : i ≤ n) (hc : (n + 1) * 3 ≤ cur.length) (ht : cur.take (n * 3) = vs) :
    (splice (splice cur ((i + 1) * 3) (vs.drop (i * 3))) (i * 3) us).take ((n + 1) * 3) = vs.take (i * 3) ++ us ++ vs.drop (i * 3) := by
  have hd : (vs.drop (i * 3)).length = (n - i) * 3 := by rw [List.length_drop]; omega
  have h1 : (i + 1) * 3 + (vs.drop (i * 3)).length ≤ cur.length := by omega
  have h2 : i * 3 + us.length ≤ (splice cur ((i + 1) * 3) (vs.drop (i * 3))).length := by rw [splice_len h1]; omega
  have hcv : ∀ j, j < n * 3 → cur[j]? = vs[j]? := fun j hj => by rw [← ht, List.getElem?_take_of_lt hj]
  apply List.ext_getElem?
  intro j
  rw [ins_get hv hu hi]
  by_cases hj : j < (n + 1) * 3
  · rw [List.getElem?_take_of_lt hj, splice_get h2, splice_get h1, hu, hd]
    by_cases h3 : j < i * 3
    · rw [if_pos h3, if_pos h3, if_pos (by omega), hcv j (by omega)]
    · rw [if_neg h3, if_neg h3]
      by_cases h4 : j < i * 3 + 3
      · rw [if_pos h4, if_pos h4]
      · rw [if_neg h4, if_neg h4, if_neg (by omega), if_pos (by omega), List.getElem?_drop]
        congr 1; omega
  · rw [List.getElem?_eq_none (by rw [List.length_take]; omega), if_neg (by omega), if_neg (by omega), List.getElem?_eq_none (by omega)]
/-- in a new row -/
theorem ins_grow {row vs us : List Value} {i n : Nat} (hv : vs.length = n * 3) (hu : us.length = 3) (hi : i ≤ n) (hc : (n + 1) * 3 ≤ row.length) (ht : row.take (i * 3) = vs.take (i * 3)) :
    (splice (splice row (i * 3) us) ((i + 1) * 3) (vs.drop (i * 3))).take ((n + 1) * 3) = vs.take (i * 3) ++ us ++ vs.drop (i * 3) := by
  have hd : (vs.drop (i * 3)).length = (n - i) * 3 := by rw [List.length_drop]; omega
  have h1 : i * 3 + us.length ≤ row.length := by omega
  have h2 : (i + 1) * 3 + (vs.drop (i * 3)).length ≤ (splice row (i * 3) us).length := by rw [splice_len h1]; omega
  have hcv : ∀ j, j < i * 3 → row[j]? = vs[j]? := fun j hj => by
    have := congrArg (·[j]?) ht
    simpa only [List.getElem?_take_of_lt hj] using this
  apply List.ext_getElem?
  intro j
  rw [ins_get hv hu hi]
  by_cases hj : j < (n + 1) * 3
  · rw [List.getElem?_take_of_lt hj, splice_get h2, splice_get h1, hu, hd, List.getElem?_drop]
    repeat' split
    all_goals first | rfl | (exfalso; omega) | exact hcv j (by omega) | (congr 1; omega)
  · rw [List.getElem?_eq_none (by rw [List.length_take]; omega), if_neg (by omega), if_neg (by omega), List.getElem?_eq_none (by omega)]
section
variable {P : Program}
/-- copy, of elements of any size -/
theorem run_copy_rowK (w : World) (dT sT ty elem : TypeId) (size g o dLen dCap : Nat) (a : Addr) (sLen sCap : Nat) (cur : Array Value) (t : TypeId) (cs : List Value)
    (hu : P.underlying dT = some (.slice elem)) (hs : (P.info? elem).map (·.size) = some size)
    (hg : w.heap[g]? = some (.cells cur t (0, 0))) (hn : cs.length = Nat.min sLen dLen * size)
    (hsrc : ∀ j v, cs[j]? = some v → w.cell? (a.add j) = some v) (hfit : o + cs.length ≤ cur.size) (h1 : ∀ v ∈ cs, v.oneCell' = true) :
    (Builtin.copy_ #[dT, sT] ty #[.slice (some ⟨g, o, none⟩) dLen dCap, .slice (some a) sLen sCap]).run P w =
      .ok (goInt (Nat.min sLen dLen)) (w.setRow g (splice cur.toList o cs).toArray) := by
  have hl := run_loadCells_list (P := P) w a cs hsrc
  have hst := run_storeCells_at P g o t cs 0 cur w hg (by simpa using hfit) h1
  cases hq : P.info? elem with
  | none => simp [hq] at hs
  | some i =>
    have hi : i.size = size := by simpa [hq] using hs
    simp [Builtin.copy_, run_underlying hu, Builtin.lenOf, Builtin.firstCells, sizeOf, typeInfo, hq, hi, ← hn, hl, hst, splice]
/-- .. as a step of a walk -/
theorem wpList_copy_runK {ops : Array Oper} {rest : List Oper} {o : Oper} {a : Act} {w : World} {Q : Exit → Act → World → Prop} (hgd : o.guard = none) (d s : Operand) (t t' : TypeId)
    (ho : o.op = .call { callee := .builtin .copy, args := #[d, s], argTypes := #[t, t'] }) (v u : Value) (hd : a.eval d = v) (hs : a.eval s = u) {v' : Value} {w' : World}
    (hr : (Builtin.copy_ #[t, t'] o.type #[v, u]).run P w = .ok v' w') (h : wpList P ops Q rest (a.put o.dst v') w') : wpList P ops Q (o :: rest) a w :=
  wpList_plain hgd fun _ hK => by
    unfold Oper.wp execOp
    simp only [ho, resolve, invoke, builtin, Sem.run_bind, Sem.run_pure, Result.andThen_ok, List.map_toArray, List.map_cons, List.map_nil, hd, hs, hr]
    exact hK _ _ h
theorem drew_setRow (w : World) (g : Nat) (r : Array Value) : (w.setRow g r).drew = w.drew.setRow g r := rfl
end
end Go.Proofs.YtbleedclnkpbkaaGreatDoor
end
section
namespace Go.Proofs.YtbleedclnkpbkaaGreatDoor
open Go.RowKit Go.Sort
section
variable {P : Program}
/-- append of one element of three cells onto a slice that may begin behind its block's head -/
theorem run_append_off (w : World) (base : Nat) (t ty e : TypeId) (i : TypeInfo) (z : Value) (bytes : Nat) (ht : P.underlying t = some (.slice e)) (hi : P.info? e = some i) (hz : i.zero = some z)
    (hsize : i.size = 3) (hby : i.bytes = bytes) (hzs : z.cells.size = 3)
    (v : Value) (n : Nat) (xs : List Value) (hown : OwnsOff w base e v n xs)
    (a : Addr) (c : Nat) (news : List Value) (hl : news.length = 3) (hnews : ∀ j u, news[j]? = some u → w.cell? (a.add j) = some u) (h1 : ∀ u ∈ news, u.oneCell' = true)
    (h63 : n + 1 ≤ maxLen) (hbytes : (n + 1) * bytes ≤ 140737488355328) (hbase : base ≤ w.heap.size) :
    ∃ v' w', (Builtin.append_ #[t, t] ty #[v, .slice (some a) 1 c]).run P w = .ok v' w' ∧ OwnsOff w' base e v' (n + 1) (xs ++ news) ∧ w.grownBy w' v.ownBlock ∧
      (v'.ownBlock = v.ownBlock ∨ v'.ownBlock = some w.heap.size) := by
  have hlen : (xs ++ news).length = (n + 1) * 3 := by rw [List.length_append, hown.1, hl]; omega
  have hsmall : n + 1 ≤ 9223372036854775807 := by simp only [maxLen] at h63; omega
  rcases hown.2 with ⟨rfl, rfl⟩ | ⟨g, off, cap, cur, rfl, hbg, hg, hnc, hcm, hcs, htake⟩
  · have hx : xs = [] := List.eq_nil_of_length_eq_zero (by simpa using hown.1)
    subst hx
    obtain ⟨v', w', h2, h3, h4, _, h5⟩ := run_append_own_at (P := P) w base t ty e i z 3 bytes ht hi hz hsize hby hzs (by decide) _ 0 [] (World.ownsRow_nil w base e 3) a 1 c news (by rw [hl]) hnews h1 h63 hbytes hbase
    exact ⟨v', w', h2, .of h3, h4, h5⟩
  · have holds : ∀ j u, xs[j]? = some u → w.cell? ((⟨g, off, none⟩ : Addr).add j) = some u := fun j u hu => by
      obtain ⟨g', off', e1, _, h⟩ := OwnsOff.cell hown (Nat.pos_of_ne_zero fun h0 => by
        have := hown.1; rw [h0] at this
        have := (List.getElem?_eq_some_iff.1 hu).1; omega)
      cases e1
      rw [Addr.add_lit]
      exact h j u hu
    by_cases hroom : n + 1 ≤ cap
    · have hfit : off + n * 3 + 0 + news.length ≤ cur.size := by omega
      have hf := run_firstCells_some (P := P) w i.size 1 a 1 c news (by rw [hl, hsize]) hnews
      have hst := run_storeCells_at P g (off + n * 3) e news 0 cur w hg hfit h1
      simp only [Nat.add_zero] at hst
      have hr : (Builtin.append_ #[t, t] ty #[.slice (some ⟨g, off, none⟩) n cap, .slice (some a) 1 c]).run P w = .ok (.slice (some ⟨g, off, none⟩) (n + 1) cap) (w.setRow g (splice cur.toList (off + n * 3) news).toArray) := by
        rw [hsize] at hf
        simp [Builtin.append_, run_underlying ht, sizeOf, typeInfo, hi, hsize, Builtin.lenOf, hroom, hf, Addr.add_lit, hst, splice]
      refine ⟨_, _, hr, ?_, ?_, .inl rfl⟩
      · refine ⟨hlen, .inr ⟨g, off, cap, _, rfl, hbg, setRow_heap w g cur _ e _ hg, hroom, hcm, ?_, ?_⟩⟩
        · rw [List.size_toArray, splice_len (by rw [Array.length_toList (xs := cur)]; omega), Array.length_toList (xs := cur)]; exact hcs
        · have hfit2 : off + n * 3 + news.length ≤ cur.toList.length := by rw [Array.length_toList]; omega
          have hxl := hown.1
          show (List.drop off (splice cur.toList (off + n * 3) news)).take ((n + 1) * 3) = _
          apply List.ext_getElem?
          intro j
          by_cases hj : j < (n + 1) * 3
          · rw [List.getElem?_take_of_lt hj, List.getElem?_drop, splice_get hfit2]
            by_cases h3 : j < n * 3
            · rw [if_pos (by omega), List.getElem?_append_left (by omega), ← htake, List.getElem?_take_of_lt h3, List.getElem?_drop]
            · rw [if_neg (by omega), if_pos (by omega), List.getElem?_append_right (by omega)]
              congr 1; omega
          · rw [List.getElem?_eq_none (by rw [List.length_take]; omega), List.getElem?_eq_none (by omega)]
      · exact ⟨rfl, rfl, rfl, by simp, fun k _ hk => setRow_other w g k _ (fun e => hk (by simp [Value.ownBlock, e]))⟩
    · have hr := run_append_grow (P := P) w t ty e i z ht hi hz ⟨g, off, none⟩ n cap xs (by rw [hown.1, hsize]) holds a 1 c news (by rw [hl, hsize]) hnews (by omega) (by omega) (by rw [hby]; exact growslice_fits (by omega) hbytes)
      refine ⟨_, _, hr, ?_, ⟨rfl, rfl, rfl, by simp, fun k hk _ => Below.heap_alloc w.drew _ k hk⟩, .inr rfl⟩
      refine .of ⟨hlen, .inr ⟨w.heap.size, _, _, rfl, hbase, heap_alloc_new w.drew _, grownCap_ge w _ _ _, grownCap_le_maxLen w (n + 1) cap e h63, ?_, ?_⟩⟩
      · have hge := grownCap_ge w (n + 1) cap e
        simp only [Array.size_append, List.size_toArray, size_zeroCells, hzs, hown.1, hl]
        omega
      · simp only [Array.toList_append, List.append_assoc]
        rw [← List.append_assoc, ← hlen]
        exact List.take_left
end
end Go.Proofs.YtbleedclnkpbkaaGreatDoor
end
section
namespace Go.Proofs.YtbleedclnkpbkaaGreatDoor
open Go.RowKit Go.Sort
/-- the blocks that nobody writes any more: neither the two boxes nor the rows of out and ready -/
def Fre (Bo Br : Nat) (w : World) (vo vr : Value) (b : Nat) : Prop := b < w.heap.size ∧ b ≠ Bo ∧ b ≠ Br ∧ vo.ownBlock ≠ some b ∧ vr.ownBlock ≠ some b
/-- from one state to a later one -/
def Mon (Bo Br : Nat) (w : World) (vo vr : Value) (w' : World) (vo' vr' : Value) : Prop := ∀ b, Fre Bo Br w vo vr b → Fre Bo Br w' vo' vr' b ∧ w'.heap[b]? = w.heap[b]?
theorem Mon.refl (Bo Br : Nat) (w : World) (vo vr : Value) : Mon Bo Br w vo vr w vo vr := fun b h => ⟨h, rfl⟩
theorem Mon.trans {Bo Br : Nat} {w w1 w2 : World} {vo vr vo1 vr1 vo2 vr2 : Value} (h : Mon Bo Br w vo vr w1 vo1 vr1) (h' : Mon Bo Br w1 vo1 vr1 w2 vo2 vr2) : Mon Bo Br w vo vr w2 vo2 vr2 := fun b hb =>
  ⟨(h' b (h b hb).1).1, (h' b (h b hb).1).2.trans (h b hb).2⟩
/-- closure's memory: the boxes of out and ready, the rows that they hold -/
structure Sto (n0 Bo Br : Nat) (w : World) (vo vr : Value) (o r : List Gr) : Prop where
  hbo : n0 ≤ Bo
  hbr : n0 ≤ Br
  hne : Bo ≠ Br
  box_o : w.heap[Bo]? = some (.cells #[vo] 22 (0, 0))
  box_r : w.heap[Br]? = some (.cells #[vr] 22 (0, 0))
  own_o : ∃ vs, w.ownsRow n0 25 3 vo o.length vs ∧ RowIn (Fre Bo Br w vo vr) w vs o
  own_r : ∃ us, OwnsOff w n0 25 vr r.length us ∧ RowIn (Fre Bo Br w vo vr) w us r
  o_ne : vo.ownBlock ≠ some Bo ∧ vo.ownBlock ≠ some Br
  r_ne : vr.ownBlock ≠ some Bo ∧ vr.ownBlock ≠ some Br
  or_ne : ∀ b, vo.ownBlock = some b → vr.ownBlock ≠ some b
theorem Sto.sizes {n0 Bo Br : Nat} {w : World} {vo vr : Value} {o r : List Gr} (h : Sto n0 Bo Br w vo vr o r) : Bo < w.heap.size ∧ Br < w.heap.size :=
  ⟨(Array.getElem?_eq_some_iff.1 h.box_o).1, (Array.getElem?_eq_some_iff.1 h.box_r).1⟩
theorem Sto.lt_o {n0 Bo Br : Nat} {w : World} {vo vr : Value} {o r : List Gr} (h : Sto n0 Bo Br w vo vr o r) {b : Nat} (hb : vo.ownBlock = some b) : n0 ≤ b ∧ b < w.heap.size := by
  obtain ⟨vs, h1, _⟩ := h.own_o
  exact h1.lt b hb
theorem Sto.lt_r {n0 Bo Br : Nat} {w : World} {vo vr : Value} {o r : List Gr} (h : Sto n0 Bo Br w vo vr o r) {b : Nat} (hb : vr.ownBlock = some b) : n0 ≤ b ∧ b < w.heap.size := by
  obtain ⟨vs, h1, _⟩ := h.own_r
  exact h1.lt b hb
/-- a step that writes no old block -/
theorem mon_below {Bo Br : Nat} {w w' : World} (vo vr : Value) (hb : Below w.heap.size w w') : Mon Bo Br w vo vr w' vo vr := fun b h =>
  ⟨⟨Nat.lt_of_lt_of_le h.1 hb.size, h.2⟩, hb.block b h.1⟩
theorem Sto.below {n0 Bo Br : Nat} {w w' : World} {vo vr : Value} {o r : List Gr} (h : Sto n0 Bo Br w vo vr o r) (hb : Below w.heap.size w w') : Sto n0 Bo Br w' vo vr o r := by
  have hm := mon_below (Bo := Bo) (Br := Br) vo vr hb
  obtain ⟨vs, h1, h2⟩ := h.own_o
  obtain ⟨us, h3, h4⟩ := h.own_r
  have hsz := h.sizes
  refine ⟨h.hbo, h.hbr, h.hne, (hb.block _ hsz.1).trans h.box_o, (hb.block _ hsz.2).trans h.box_r, ⟨vs, owns_kept h1 fun k _ hk => hb.block k hk, h2.keep hm⟩, ⟨us, h3.kept fun b e => hb.block b (h3.lt b e).2, h4.keep hm⟩, h.o_ne, h.r_ne, h.or_ne⟩
/-- out has been given a new value (in its own row, or in a new one) and its box is written -/
theorem Sto.put_o {n0 Bo Br : Nat} {w w1 : World} {vo vr vo' : Value} {o r o' : List Gr} {vs' : List Value} (h : Sto n0 Bo Br w vo vr o r) (hg : w.grownBy w1 vo.ownBlock) (hown : w1.ownsRow n0 25 3 vo' o'.length vs')
    (hat : vo'.ownBlock = vo.ownBlock ∨ ∃ k, vo'.ownBlock = some k ∧ w.heap.size ≤ k) (hrow : RowIn (Fre Bo Br w vo vr) w vs' o') :
    Sto n0 Bo Br (w1.setCell ⟨Bo, 0, none⟩ vo') vo' vr o' r ∧ Mon Bo Br w vo vr (w1.setCell ⟨Bo, 0, none⟩ vo') vo' vr ∧ (n0 ≤ w.heap.size → Below n0 w (w1.setCell ⟨Bo, 0, none⟩ vo')) := by
  have hsz := h.sizes
  have hbo1 : w1.heap[Bo]? = some (.cells #[vo] 22 (0, 0)) := (hg.block Bo hsz.1 fun e => h.o_ne.1 e.symm).trans h.box_o
  have hset := fun k => setCell_block (i := 0) (v := vo') hbo1 k
  have hss : (w1.setCell ⟨Bo, 0, none⟩ vo').heap.size = w1.heap.size := setCell_size _ _ _ _
  have hat2 : ∀ b, b < w.heap.size → vo.ownBlock ≠ some b → vo'.ownBlock ≠ some b := fun b hb hne e => by
    rcases hat with h1 | ⟨k, h1, h2⟩
    · exact hne (h1 ▸ e)
    · rw [h1] at e; cases e; omega
  have hm : Mon Bo Br w vo vr (w1.setCell ⟨Bo, 0, none⟩ vo') vo' vr := fun b hb => by
    obtain ⟨h1, h2, h3, h4, h5⟩ := hb
    have hgs := hg.size
    refine ⟨⟨by rw [hss]; omega, h2, h3, hat2 b h1 h4, h5⟩, ?_⟩
    rw [hset, if_neg h2]
    exact hg.block b h1 fun e => h4 e.symm
  obtain ⟨us, h3, h4⟩ := h.own_r
  have hob : ∀ b, vo'.ownBlock = some b → b ≠ Bo := fun b hb e => by
    subst e
    exact hat2 b hsz.1 h.o_ne.1 hb
  refine ⟨⟨h.hbo, h.hbr, h.hne, ?_, ?_, ⟨vs', ?_, hrow.keep hm⟩, ⟨us, h3.kept fun b e => ?_, h4.keep hm⟩, ⟨hat2 _ hsz.1 h.o_ne.1, hat2 _ hsz.2 h.o_ne.2⟩, h.r_ne, fun b hb e => ?_⟩, hm, fun hn => ⟨?_, ?_, ?_, ?_, fun k hk => ?_⟩⟩
  · rw [hset, if_pos rfl]; rfl
  · rw [hset, if_neg (Ne.symm h.hne)]
    exact (hg.block Br hsz.2 fun e => h.o_ne.2 e.symm).trans h.box_r
  · obtain ⟨h5, h6 | ⟨g, cap, cur, e1, h7, h8, h9⟩⟩ := hown
    · exact ⟨h5, .inl h6⟩
    · refine ⟨h5, .inr ⟨g, cap, cur, e1, h7, ?_, h9⟩⟩
      rw [hset, if_neg (hob g (by rw [e1]; rfl))]; exact h8
  · have hl := h3.lt b e
    have hbo : b ≠ Bo := fun e2 => by subst e2; exact h.r_ne.1 e
    rw [hset, if_neg hbo]
    exact hg.block b hl.2 fun e2 => h.or_ne b e2.symm e
  · have hl := h3.lt b e
    exact hat2 b hl.2 (fun e2 => h.or_ne b e2 e) hb
  · rw [setCell_eq]; exact hg.os
  · rw [setCell_eq]; exact hg.tape
  · rw [setCell_eq]; exact hg.output
  · rw [hss]; exact hg.size
  · have := h.hbo
    rw [hset, if_neg (by omega)]
    exact hg.block k (by omega) fun e => by have := (h.lt_o e.symm).1; omega
/-- ready has been given a new value and its box is written -/
theorem Sto.put_r {n0 Bo Br : Nat} {w w1 : World} {vo vr vr' : Value} {o r r' : List Gr} {us' : List Value} (h : Sto n0 Bo Br w vo vr o r) (hg : w.grownBy w1 vr.ownBlock) (hown : OwnsOff w1 n0 25 vr' r'.length us')
    (hat : vr'.ownBlock = vr.ownBlock ∨ ∃ k, vr'.ownBlock = some k ∧ w.heap.size ≤ k) (hrow : RowIn (Fre Bo Br w vo vr) w us' r') :
    Sto n0 Bo Br (w1.setCell ⟨Br, 0, none⟩ vr') vo vr' o r' ∧ Mon Bo Br w vo vr (w1.setCell ⟨Br, 0, none⟩ vr') vo vr' ∧ (n0 ≤ w.heap.size → Below n0 w (w1.setCell ⟨Br, 0, none⟩ vr')) := by
  have hsz := h.sizes
  have hbr1 : w1.heap[Br]? = some (.cells #[vr] 22 (0, 0)) := (hg.block Br hsz.2 fun e => h.r_ne.2 e.symm).trans h.box_r
  have hset := fun k => setCell_block (i := 0) (v := vr') hbr1 k
  have hss : (w1.setCell ⟨Br, 0, none⟩ vr').heap.size = w1.heap.size := setCell_size _ _ _ _
  have hat2 : ∀ b, b < w.heap.size → vr.ownBlock ≠ some b → vr'.ownBlock ≠ some b := fun b hb hne e => by
    rcases hat with h1 | ⟨k, h1, h2⟩
    · exact hne (h1 ▸ e)
    · rw [h1] at e; cases e; omega
  have hm : Mon Bo Br w vo vr (w1.setCell ⟨Br, 0, none⟩ vr') vo vr' := fun b hb => by
    obtain ⟨h1, h2, h3, h4, h5⟩ := hb
    have hgs := hg.size
    refine ⟨⟨by rw [hss]; omega, h2, h3, h4, hat2 b h1 h5⟩, ?_⟩
    rw [hset, if_neg h3]
    exact hg.block b h1 fun e => h5 e.symm
  obtain ⟨vs, h3, h4⟩ := h.own_o
  have hob : ∀ b, vr'.ownBlock = some b → b ≠ Br := fun b hb e => by
    subst e
    exact hat2 b hsz.2 h.r_ne.2 hb
  refine ⟨⟨h.hbo, h.hbr, h.hne, ?_, ?_, ⟨vs, ?_, h4.keep hm⟩, ⟨us', hown.kept fun b e => ?_, hrow.keep hm⟩, h.o_ne, ⟨hat2 _ hsz.1 h.r_ne.1, hat2 _ hsz.2 h.r_ne.2⟩, fun b hb e => ?_⟩, hm, fun hn => ⟨?_, ?_, ?_, ?_, fun k hk => ?_⟩⟩
  · rw [hset, if_neg h.hne]
    exact (hg.block Bo hsz.1 fun e => h.r_ne.1 e.symm).trans h.box_o
  · rw [hset, if_pos rfl]; rfl
  · have hlt := h3.lt
    obtain ⟨h5, h6 | ⟨g, cap, cur, e1, h7, h8, h9⟩⟩ := h3
    · exact ⟨h5, .inl h6⟩
    · refine ⟨h5, .inr ⟨g, cap, cur, e1, h7, ?_, h9⟩⟩
      have hgo : vo.ownBlock = some g := by rw [e1]; rfl
      have hgr : g ≠ Br := fun e => by subst e; exact h.o_ne.2 hgo
      rw [hset, if_neg hgr]
      exact (hg.block g (hlt g hgo).2 fun e => h.or_ne g hgo e.symm).trans h8
  · rw [hset, if_neg (hob b e)]
  · exact hat2 b (h.lt_o hb).2 (h.or_ne b hb) e
  · rw [setCell_eq]; exact hg.os
  · rw [setCell_eq]; exact hg.tape
  · rw [setCell_eq]; exact hg.output
  · rw [hss]; exact hg.size
  · have := h.hbr
    rw [hset, if_neg (by omega)]
    exact hg.block k (by omega) fun e => by have := (h.lt_r e.symm).1; omega
/-- what the functions that only read are handed -/
theorem Sto.graphs_o {n0 Bo Br : Nat} {w : World} {vo vr : Value} {o r : List Gr} (h : Sto n0 Bo Br w vo vr o r) (hbig : o.length < 4611686018427387904) : GraphsAt w.heap.size w vo o := by
  obtain ⟨vs, h1, h2⟩ := h.own_o
  exact graphsAt_of_owns (n := w.heap.size) h1 (h2.at fun b hb => hb.1) (Nat.le_refl _) hbig
theorem Sto.cell_o {n0 Bo Br : Nat} {w : World} {vo vr : Value} {o r : List Gr} (h : Sto n0 Bo Br w vo vr o r) : w.cell? ⟨Bo, 0, none⟩ = some vo ∧ w.frozen? ⟨Bo, 0, none⟩ = false := by
  simp [World.cell?, World.frozen?, h.box_o]
theorem Sto.cell_r {n0 Bo Br : Nat} {w : World} {vo vr : Value} {o r : List Gr} (h : Sto n0 Bo Br w vo vr o r) : w.cell? ⟨Br, 0, none⟩ = some vr ∧ w.frozen? ⟨Br, 0, none⟩ = false := by
  simp [World.cell?, World.frozen?, h.box_r]
theorem Sto.val_o {n0 Bo Br : Nat} {w : World} {vo vr : Value} {o r : List Gr} (h : Sto n0 Bo Br w vo vr o r) : ∃ p cap, vo = .slice p o.length cap := by
  obtain ⟨vs, h1, _⟩ := h.own_o
  exact owns_any h1
theorem Sto.val_r {n0 Bo Br : Nat} {w : World} {vo vr : Value} {o r : List Gr} (h : Sto n0 Bo Br w vo vr o r) : ∃ p cap, vr = .slice p r.length cap := by
  obtain ⟨vs, h1, _⟩ := h.own_r
  exact h1.any
end Go.Proofs.YtbleedclnkpbkaaGreatDoor
end
section
namespace Go.Proofs.YtbleedclnkpbkaaGreatDoor
open Go.RowKit Go.Sort
/-! one row of graphs that a call owns; two of its elements exchanged -/
theorem ite_mid {α : Type} {x y : α} {t a b : Nat} (h : ¬ (a ≤ t ∧ t < b)) : (if t < a then x else if t < b then y else x) = x := by
  by_cases h1 : t < a
  · rw [if_pos h1]
  · rw [if_neg h1, if_neg (by omega)]
theorem swap_cell {vs : List Value} {n i j k c : Nat} (hv : vs.length = n * 3) (hi : i < n) (hj : j < n) (hc : c < 3) :
    (splice (splice vs (i * 3) ((vs.drop (j * 3)).take 3)) (j * 3) ((vs.drop (i * 3)).take 3))[k * 3 + c]? = if k = j then vs[i * 3 + c]? else if k = i then vs[j * 3 + c]? else vs[k * 3 + c]? := by
  have li : ((vs.drop (i * 3)).take 3).length = 3 := by rw [List.length_take, List.length_drop]; omega
  have lj : ((vs.drop (j * 3)).take 3).length = 3 := by rw [List.length_take, List.length_drop]; omega
  have g : ∀ a t, t < 3 → ((vs.drop a).take 3)[t]? = vs[a + t]? := fun a t h => by rw [List.getElem?_take_of_lt h, List.getElem?_drop]
  rw [splice_get (by rw [splice_len (by omega)]; omega), splice_get (by omega), li, lj]
  by_cases h1 : k = j
  · subst h1
    rw [if_pos rfl, if_neg (by omega), if_pos (by omega), g _ _ (by omega)]
    congr 1; omega
  · rw [if_neg h1, ite_mid (by omega)]
    by_cases h2 : k = i
    · subst h2
      rw [if_pos rfl, if_neg (by omega), if_pos (by omega), g _ _ (by omega)]
      congr 1; omega
    · rw [if_neg h2, ite_mid (by omega)]
theorem splice_take {l xs : List Value} {a m : Nat} (h : a + xs.length ≤ m) (hm : m ≤ l.length) : (splice l a xs).take m = splice (l.take m) a xs := by
  apply List.ext_getElem?
  intro t
  rw [splice_get (by rw [List.length_take]; omega)]
  by_cases ht : t < m
  · rw [List.getElem?_take_of_lt ht, splice_get (by omega), List.getElem?_take_of_lt ht]
  · rw [List.getElem?_eq_none (by rw [List.length_take]; omega), if_neg (by omega), if_neg (by omega), List.getElem?_eq_none (by rw [List.length_take]; omega)]
theorem RowIn.swap {S : Nat → Prop} {w : World} {vs : List Value} {d : Array Gr} (h : RowIn S w vs d.toList) {i j : Nat} (hi : i < d.size) (hj : j < d.size) :
    RowIn S w (splice (splice vs (i * 3) ((vs.drop (j * 3)).take 3)) (j * 3) ((vs.drop (i * 3)).take 3)) (swp d i j).toList := by
  have hl := h.len
  rw [Array.length_toList (xs := d)] at hl
  have li : ((vs.drop (i * 3)).take 3).length = 3 := by rw [List.length_take, List.length_drop]; omega
  have lj : ((vs.drop (j * 3)).take 3).length = 3 := by rw [List.length_take, List.length_drop]; omega
  refine ⟨?_, fun u hu => ?_, fun k g hg => ?_⟩
  · rw [splice_len (by rw [splice_len (by omega)]; omega), splice_len (by omega), hl, Array.length_toList (xs := swp d i j), size_swp]
  · unfold splice at hu
    simp only [List.mem_append] at hu
    have m1 : ∀ a, u ∈ (vs.drop a).take 3 → u ∈ vs := fun a h => List.mem_of_mem_drop (List.mem_of_mem_take h)
    rcases hu with (hu | hu) | hu
    · have := List.mem_of_mem_take hu
      simp only [List.mem_append] at this
      rcases this with (hu | hu) | hu
      · exact h.one u (List.mem_of_mem_take hu)
      · exact h.one u (m1 _ hu)
      · exact h.one u (List.mem_of_mem_drop hu)
    · exact h.one u (m1 _ hu)
    · have := List.mem_of_mem_drop hu
      simp only [List.mem_append] at this
      rcases this with (hu | hu) | hu
      · exact h.one u (List.mem_of_mem_take hu)
      · exact h.one u (m1 _ hu)
      · exact h.one u (List.mem_of_mem_drop hu)
  · have hk : k < d.size := by
      have := (List.getElem?_eq_some_iff.1 hg).1
      rw [Array.length_toList, size_swp] at this; exact this
    have hgk : (swp d i j)[k]! = g := by
      rw [getElem!_pos (swp d i j) k (by rw [size_swp]; exact hk)]
      have := (List.getElem?_eq_some_iff.1 hg).2
      rw [Array.getElem_toList] at this; exact this
    have e0 := swap_cell (k := k) (c := 0) hl hi hj (by omega)
    simp only [Nat.add_zero] at e0
    rw [e0, swap_cell (c := 1) hl hi hj (by omega), swap_cell (c := 2) hl hi hj (by omega)]
    have at' : ∀ (p : Nat), p < d.size → d[p]! = g → vs[p * 3]? = some (.int .i64 g.f) ∧ vs[p * 3 + 1]? = some (.int .i64 g.t) ∧ ∃ la lc, vs[p * 3 + 2]? = some (.slice la g.L.length lc) ∧ LinksIn S w (.slice la g.L.length lc) g.L := fun p hp e => by
      refine h.at_ p g ?_
      rw [getElem!_pos d p hp] at e
      rw [List.getElem?_eq_getElem (by rw [Array.length_toList]; exact hp), Array.getElem_toList, e]
    by_cases h1 : k = j
    · rw [if_pos h1, if_pos h1, if_pos h1]
      rw [h1] at hgk
      rw [swp_right d i j hj] at hgk
      exact at' i hi hgk
    · rw [if_neg h1, if_neg h1, if_neg h1]
      by_cases h2 : k = i
      · rw [if_pos h2, if_pos h2, if_pos h2]
        rw [h2] at hgk
        rw [swp_left d i j hi (fun e => h1 (h2.trans e))] at hgk
        exact at' j hj hgk
      · rw [if_neg h2, if_neg h2, if_neg h2]
        rw [swp_other d i j k h2 h1] at hgk
        exact at' k hk hgk
/-- the blocks that hold links, and that nobody writes -/
def Off (v : Value) (w : World) (b : Nat) : Prop := b < w.heap.size ∧ v.ownBlock ≠ some b
/-- one row of graphs, owned -/
def One (n0 : Nat) (w : World) (v : Value) (u : List Gr) : Prop := ∃ vs, w.ownsRow n0 25 3 v u.length vs ∧ RowIn (Off v w) w vs u
theorem One.nil (n0 : Nat) (w : World) : One n0 w (.slice none 0 0) [] := ⟨[], World.ownsRow_nil _ _ _ _, RowIn.nil _ _⟩
theorem One.lt {n0 : Nat} {w : World} {v : Value} {u : List Gr} (h : One n0 w v u) {b : Nat} (hb : v.ownBlock = some b) : n0 ≤ b ∧ b < w.heap.size := by
  obtain ⟨vs, h1, _⟩ := h
  exact h1.lt b hb
theorem One.below {n0 : Nat} {w w' : World} {v : Value} {u : List Gr} (h : One n0 w v u) (hb : Below w.heap.size w w') : One n0 w' v u := by
  obtain ⟨vs, h1, h2⟩ := h
  exact ⟨vs, owns_kept h1 fun k _ hk => hb.block k hk, h2.keep fun b hb' => ⟨⟨Nat.lt_of_lt_of_le hb'.1 hb.size, hb'.2⟩, hb.block b hb'.1⟩⟩
theorem One.val {n0 : Nat} {w : World} {v : Value} {u : List Gr} (h : One n0 w v u) : ∃ p cap, v = .slice p u.length cap := by
  obtain ⟨vs, h1, _⟩ := h
  exact owns_any h1
theorem One.graphs {n0 : Nat} {w : World} {v : Value} {u : List Gr} (h : One n0 w v u) (hbig : u.length < 4611686018427387904) : GraphsAt w.heap.size w v u := by
  obtain ⟨vs, h1, h2⟩ := h
  exact graphsAt_of_owns (n := w.heap.size) h1 (h2.at fun b hb => hb.1) (Nat.le_refl _) hbig
/-- one more -/
theorem One.app {n0 : Nat} {w w1 : World} {v v' : Value} {u : List Gr} {g : Gr} {vs : List Value} {la : Option Addr} {lc : Nat} (hrow : RowIn (Off v w) w vs u) (hL : LinksIn (Off v w) w (.slice la g.L.length lc) g.L)
    (hg : w.grownBy w1 v.ownBlock) (hown : w1.ownsRow n0 25 3 v' (u.length + 1) (vs ++ [.int .i64 g.f, .int .i64 g.t, .slice la g.L.length lc])) (hat : v'.ownBlock = v.ownBlock ∨ v'.ownBlock = some w.heap.size) :
    One n0 w1 v' (u ++ [g]) := by
  refine ⟨_, by rw [List.length_append]; exact hown, (hrow.append (RowIn.one_ hL)).keep fun b hb => ⟨⟨Nat.lt_of_lt_of_le hb.1 hg.size, fun e => ?_⟩, hg.block b hb.1 fun e => hb.2 e.symm⟩⟩
  rcases hat with h | h
  · exact hb.2 (h ▸ e)
  · rw [h] at e; cases e; exact absurd hb.1 (Nat.lt_irrefl _)
theorem below_grown {n0 : Nat} {w w1 : World} {o : Option Nat} (hg : w.grownBy w1 o) (hn : n0 ≤ w.heap.size) (ho : ∀ b, o = some b → n0 ≤ b) : Below n0 w w1 :=
  ⟨hg.os, hg.tape, hg.output, hg.size, fun k hk => hg.block k (by omega) fun e => by have := ho k e.symm; omega⟩
/-- two exchanged: what the two runs of stores leave -/
theorem One.swap {n0 : Nat} {w : World} {b cap n : Nat} {d : Array Gr} (hd : d.size = n) (h : One n0 w (.slice (some ⟨b, 0, none⟩) n cap) d.toList) {i j : Nat} (hi : i < n) (hj : j < n) :
    ∃ (gi gj : Gr) (ai aj : Option Addr) (ci cj : Nat) (w1 w2 : World), d[i]! = gi ∧ d[j]! = gj ∧
      (w.cell? ⟨b, i * 3, none⟩ = some (.int .i64 gi.f) ∧ w.cell? ⟨b, i * 3 + 1, none⟩ = some (.int .i64 gi.t) ∧ w.cell? ⟨b, i * 3 + 2, none⟩ = some (.slice ai gi.L.length ci)) ∧
      (w.cell? ⟨b, j * 3, none⟩ = some (.int .i64 gj.f) ∧ w.cell? ⟨b, j * 3 + 1, none⟩ = some (.int .i64 gj.t) ∧ w.cell? ⟨b, j * 3 + 2, none⟩ = some (.slice aj gj.L.length cj)) ∧
      (storeCells ⟨b, i * 3, none⟩ [.int .i64 gj.f, .int .i64 gj.t, .slice aj gj.L.length cj] 0).run Tryz.prog w = .ok () w1 ∧
      (storeCells ⟨b, j * 3, none⟩ [.int .i64 gi.f, .int .i64 gi.t, .slice ai gi.L.length ci] 0).run Tryz.prog w1 = .ok () w2 ∧
      One n0 w2 (.slice (some ⟨b, 0, none⟩) n cap) (swp d i j).toList ∧ w.grownBy w2 (some b) ∧ w2.heap.size = w.heap.size ∧
      (∀ k, w.frozen? ⟨b, k, none⟩ = false) ∧ (∀ k, w1.frozen? ⟨b, k, none⟩ = false) ∧ ∃ y0 y1 y2, w1.cell? ⟨b, j * 3, none⟩ = some y0 ∧ w1.cell? ⟨b, j * 3 + 1, none⟩ = some y1 ∧ w1.cell? ⟨b, j * 3 + 2, none⟩ = some y2 := by
  obtain ⟨vs, h1, h2⟩ := h
  rw [Array.length_toList, hd] at h1
  obtain ⟨hlen, ⟨e, _⟩ | ⟨g, cap', cur, e, hb, hg, hnc, hm, hs, ht⟩⟩ := h1
  · cases e
  cases e
  have hcl : cur.toList.length = cap * 3 := by rw [Array.length_toList]; exact hs
  have hcell : ∀ (k : Nat) u, k < n * 3 → vs[k]? = some u → w.cell? ⟨b, k, none⟩ = some u := fun k u hk hu => by
    have : cur[k]? = some u := by
      rw [← Array.getElem?_toList, ← List.getElem?_take_of_lt hk, ht]; exact hu
    simpa [World.cell?, hg] using this
  have hat : ∀ p, p < n → ∃ (a : Option Addr) (c : Nat), (vs.drop (p * 3)).take 3 = [.int .i64 d[p]!.f, .int .i64 d[p]!.t, .slice a d[p]!.L.length c] ∧
      w.cell? ⟨b, p * 3, none⟩ = some (.int .i64 d[p]!.f) ∧ w.cell? ⟨b, p * 3 + 1, none⟩ = some (.int .i64 d[p]!.t) ∧ w.cell? ⟨b, p * 3 + 2, none⟩ = some (.slice a d[p]!.L.length c) := fun p hp => by
    obtain ⟨c0, c1, a, c, c2, _⟩ := h2.at_ p d[p]! (by
      rw [List.getElem?_eq_getElem (by rw [Array.length_toList, hd]; exact hp), Array.getElem_toList, getElem!_pos d p (by omega)])
    refine ⟨a, c, ?_, hcell _ _ (by omega) c0, hcell _ _ (by omega) c1, hcell _ _ (by omega) c2⟩
    apply List.ext_getElem?
    intro t
    by_cases h0 : t = 0
    · subst h0; rw [List.getElem?_take_of_lt (by omega), List.getElem?_drop, Nat.add_zero, c0]; rfl
    by_cases h0 : t = 1
    · subst h0; rw [List.getElem?_take_of_lt (by omega), List.getElem?_drop, c1]; rfl
    by_cases h0 : t = 2
    · subst h0; rw [List.getElem?_take_of_lt (by omega), List.getElem?_drop, c2]; rfl
    · rw [List.getElem?_eq_none (by rw [List.length_take]; omega), List.getElem?_eq_none (by simp; omega)]
  obtain ⟨ai, ci, eI, i0, i1, i2⟩ := hat i hi
  obtain ⟨aj, cj, eJ, j0, j1, j2⟩ := hat j hj
  have hst1 := run_storeCells_at Tryz.prog b (i * 3) 25 [.int .i64 d[j]!.f, .int .i64 d[j]!.t, .slice aj d[j]!.L.length cj] 0 cur w hg (by simp; omega) (by simp [Value.oneCell'])
  rw [Nat.add_zero] at hst1
  have hst1' : (storeCells ⟨b, i * 3, none⟩ [.int .i64 d[j]!.f, .int .i64 d[j]!.t, .slice aj d[j]!.L.length cj] 0).run Tryz.prog w = .ok () (w.setRow b (splice cur.toList (i * 3) [.int .i64 d[j]!.f, .int .i64 d[j]!.t, .slice aj d[j]!.L.length cj]).toArray) := hst1
  have hg1 : (w.setRow b (splice cur.toList (i * 3) [.int .i64 d[j]!.f, .int .i64 d[j]!.t, .slice aj d[j]!.L.length cj]).toArray).heap[b]? = some (.cells (splice cur.toList (i * 3) [.int .i64 d[j]!.f, .int .i64 d[j]!.t, .slice aj d[j]!.L.length cj]).toArray 25 (0, 0)) := setRow_heap w b cur _ 25 (0, 0) hg
  have hl1 : (splice cur.toList (i * 3) [.int .i64 d[j]!.f, .int .i64 d[j]!.t, .slice aj d[j]!.L.length cj]).length = cap * 3 := by rw [splice_len (by simp; omega), hcl]
  have hst2 := run_storeCells_at Tryz.prog b (j * 3) 25 [.int .i64 d[i]!.f, .int .i64 d[i]!.t, .slice ai d[i]!.L.length ci] 0 _ _ hg1 (by simp; omega) (by simp [Value.oneCell'])
  rw [Nat.add_zero] at hst2
  refine ⟨_, _, ai, aj, ci, cj, _, _, rfl, rfl, ⟨i0, i1, i2⟩, ⟨j0, j1, j2⟩, hst1', hst2, ?_, ?_, ?_, fun k => by simp [World.frozen?, hg], fun k => by simp [World.frozen?, hg1], ?_⟩
  · have hg2 := setRow_heap _ b _ ((splice (splice cur.toList (i * 3) [.int .i64 d[j]!.f, .int .i64 d[j]!.t, .slice aj d[j]!.L.length cj]) (j * 3) [.int .i64 d[i]!.f, .int .i64 d[i]!.t, .slice ai d[i]!.L.length ci]).toArray) 25 (0, 0) hg1
    refine ⟨splice (splice vs (i * 3) ((vs.drop (j * 3)).take 3)) (j * 3) ((vs.drop (i * 3)).take 3), ⟨?_, .inr ⟨b, cap, _, by rw [Array.length_toList, size_swp, hd], hb, hg2, by rw [Array.length_toList, size_swp, hd]; exact hnc, hm, ?_, ?_⟩⟩, ?_⟩
    · rw [eI, eJ, splice_len (by rw [splice_len (by simp; omega)]; simp; omega), splice_len (by simp; omega), Array.length_toList (xs := swp d i j), size_swp, hd]; exact hlen
    · rw [List.size_toArray, splice_len (by simp; omega), hl1]
    · rw [Array.length_toList, size_swp, hd]
      show ((splice (splice cur.toList (i * 3) [.int .i64 d[j]!.f, .int .i64 d[j]!.t, .slice aj d[j]!.L.length cj]) (j * 3) [.int .i64 d[i]!.f, .int .i64 d[i]!.t, .slice ai d[i]!.L.length ci])).take (n * 3) = _
      rw [splice_take (by simp; omega) (by rw [hl1]; omega), splice_take (by simp; omega) (by rw [hcl]; omega), ht, eI, eJ]
    · refine (h2.swap (i := i) (j := j) (by omega) (by omega)).keep fun k hk => ⟨⟨?_, hk.2⟩, ?_⟩
      · have : k < w.heap.size := hk.1
        simpa [World.setRow] using this
      · have hne : k ≠ b := fun e => hk.2 (by rw [e]; rfl)
        show ((w.setRow b _).setRow b _).heap[k]? = _
        rw [setRow_other _ _ _ _ hne, setRow_other _ _ _ _ hne]
  · refine ⟨rfl, rfl, rfl, ?_, fun k hk hne => ?_⟩
    · simp [World.setRow]
    · have hne' : k ≠ b := fun e => hne (by rw [e])
      show ((w.setRow b _).setRow b _).heap[k]? = _
      rw [setRow_other _ _ _ _ hne', setRow_other _ _ _ _ hne']
  · simp [World.setRow]
  · have hc : ∀ k, k < cap * 3 → ∃ y, (w.setRow b (splice cur.toList (i * 3) [.int .i64 d[j]!.f, .int .i64 d[j]!.t, .slice aj d[j]!.L.length cj]).toArray).cell? ⟨b, k, none⟩ = some y := fun k hk => by
      refine ⟨(splice cur.toList (i * 3) [.int .i64 d[j]!.f, .int .i64 d[j]!.t, .slice aj d[j]!.L.length cj])[k]'(by rw [hl1]; exact hk), ?_⟩
      simp [World.cell?, hg1]
    obtain ⟨y0, h0⟩ := hc (j * 3) (by omega)
    obtain ⟨y1, h1⟩ := hc (j * 3 + 1) (by omega)
    obtain ⟨y2, h2⟩ := hc (j * 3 + 2) (by omega)
    exact ⟨y0, y1, y2, h0, h1, h2⟩
end Go.Proofs.YtbleedclnkpbkaaGreatDoor
end
