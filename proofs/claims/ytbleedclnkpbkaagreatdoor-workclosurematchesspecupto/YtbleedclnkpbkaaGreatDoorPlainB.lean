/-
  A part of the proof of the card of WorkClosureMatchesSpec (second form): lemmas that the text Card uses. No condition of its own.
-/
import Derived.Test.YtbleedclnkpbkaaGreatDoorMid
import Derived.Sort.Lot0
import Derived.Sort.LotA
set_option linter.all false
set_option linter.unusedVariables false
set_option linter.unusedSimpArgs false
section
namespace Go.Proofs.YtbleedclnkpbkaaGreatDoor
/-! compL: the composition as a function -/
theorem putM_nodup (k : Int × Int) (v : Bool) {M : List KB} (h : (M.map (·.1)).Nodup) : ((putM k v M).map (·.1)).Nodup := by
  cases hi : idxM k M with
  | none =>
    rw [putM_none hi, List.map_append, List.nodup_append]
    refine ⟨h, by simp, ?_⟩
    intro a ha c hc e
    obtain ⟨p, hp, rfl⟩ := List.mem_map.1 ha
    simp at hc
    exact idxM_none.1 hi p hp (by rw [e, hc])
  | some j => rw [putM_keys hi]; exact h
theorem stepM_nodup (x y : Lk) {M : List KB} (h : (M.map (·.1)).Nodup) : ((stepM x M y).map (·.1)).Nodup := by
  unfold stepM
  split
  · exact putM_nodup _ _ h
  · exact h
theorem rowM_nodup (x : Lk) : ∀ (B : List Lk) {M : List KB}, (M.map (·.1)).Nodup → ((rowM B M x).map (·.1)).Nodup
  | [], _, h => h
  | y :: B, _, h => rowM_nodup x B (stepM_nodup x y h)
theorem allM_nodup_from (B : List Lk) : ∀ (A : List Lk) {M : List KB}, (M.map (·.1)).Nodup → ((A.foldl (rowM B) M).map (·.1)).Nodup
  | [], _, h => h
  | x :: A, _, h => allM_nodup_from B A (rowM_nodup x B h)
theorem allM_nodup (A B : List Lk) : ((allM A B).map (·.1)).Nodup := allM_nodup_from B A (by simp)
def keyLe (x y : Lk) : Bool := decide (x.f < y.f) || (decide (x.f = y.f) && decide (x.t ≤ y.t))
theorem keyLe_iff (x y : Lk) : keyLe x y = true ↔ x.f < y.f ∨ (x.f = y.f ∧ x.t ≤ y.t) := by simp [keyLe]
def compL (A B : List Lk) : List Lk := ((allM A B).map lkOf).mergeSort keyLe
theorem compL_is (A B : List Lk) : IsComp A B (compL A B) := by
  have hp : (compL A B).Perm ((allM A B).map lkOf) := List.mergeSort_perm _ _
  have hn := allM_nodup A B
  have hs : (compL A B).Pairwise fun x y => keyLe x y = true := List.pairwise_mergeSort (fun a b c h1 h2 => by
      rw [keyLe_iff] at *; omega) (fun a b => by
      rw [Bool.or_eq_true, keyLe_iff, keyLe_iff]; omega) _
  have hk : ((compL A B).map fun x => (x.f, x.t)).Nodup := by
    rw [(hp.map _).nodup_iff, List.map_map]
    exact hn
  refine isComp_of (allM_tells A B) hn (fun x => ?_) ?_
  · rw [hp.mem_iff, List.mem_map]
    constructor
    · rintro ⟨p, h1, rfl⟩; exact h1
    · intro h; exact ⟨_, h, rfl⟩
  · have h2 := List.pairwise_map.1 hk
    refine (hs.and h2).imp fun {x y} h => ?_
    obtain ⟨h3, h4⟩ := h
    rw [keyLe_iff] at h3
    simp only [ne_eq, Prod.mk.injEq] at h4
    unfold keyLt; omega
theorem IsComp.eq {A B L L' : List Lk} (h : IsComp A B L) (h' : IsComp A B L') : L = L' :=
  sorted_same h.1 h'.1 fun x => (h.2 x).trans (h'.2 x).symm
theorem IsComp.eqL {A B L : List Lk} (h : IsComp A B L) : L = compL A B := h.eq (compL_is A B)
/-! graphs -/
structure Gr where
  f : Int
  t : Int
  L : List Lk
  deriving DecidableEq, Inhabited
def Gr.comp (a b : Gr) : Gr := ⟨a.f, b.t, compL a.L b.L⟩
def Gr.good (g : Gr) : Prop := goodG g.f g.t g.L
/-- the graphs that come of l by composition -/
inductive Cl (l : List Gr) : Gr → Prop
  | base {g : Gr} (h : g ∈ l) : Cl l g
  | step {a b : Gr} (ha : Cl l a) (hb : Cl l b) (h : a.t = b.f) : Cl l (a.comp b)
theorem Cl.good {l : List Gr} (hl : ∀ g ∈ l, g.good) {g : Gr} (h : Cl l g) : g.good := by
  induction h with
  | base h => exact hl _ h
  | step ha hb h iha ihb => exact (compL_is _ _).good iha ihb
theorem Cl.within {l : List Gr} {F T : List Int} (hl : ∀ g ∈ l, ∀ x ∈ g.L, x.f ∈ F ∧ x.t ∈ T) {g : Gr} (h : Cl l g) : ∀ x ∈ g.L, x.f ∈ F ∧ x.t ∈ T := by
  induction h with
  | base h => exact hl _ h
  | step ha hb h iha ihb => exact fun x hx => ⟨(compL_is _ _).froms (fun a ha => (iha a ha).1) x hx, (compL_is _ _).tos (fun b hb => (ihb b hb).2) x hx⟩
end Go.Proofs.YtbleedclnkpbkaaGreatDoor
end
section
namespace Go.Proofs.YtbleedclnkpbkaaGreatDoor
/-! the order of graphs -/
theorem bitZ_lt (a b : Bool) : bitZ a < bitZ b ↔ a = false ∧ b = true := by cases a <;> cases b <;> simp [bitZ]
theorem lkLt_irr (x : Lk) : ¬ lkLt x x := by unfold lkLt; omega
theorem lkLt_trans {x y z : Lk} (h1 : lkLt x y) (h2 : lkLt y z) : lkLt x z := by unfold lkLt at *; omega
theorem lkLt_total (x y : Lk) : lkLt x y ∨ x = y ∨ lkLt y x := by
  obtain ⟨f, t, s⟩ := x
  obtain ⟨f', t', s'⟩ := y
  unfold lkLt
  simp only [Lk.mk.injEq, bitZ_lt]
  rcases Int.lt_trichotomy f f' with h | h | h
  · exact .inl (.inl h)
  · rcases Int.lt_trichotomy t t' with h2 | h2 | h2
    · exact .inl (.inr ⟨h, .inl h2⟩)
    · cases s <;> cases s' <;> simp [h, h2]
    · exact .inr (.inr (.inr ⟨h.symm, .inl h2⟩))
  · exact .inr (.inr (.inl h))
def lsLt : List Lk → List Lk → Prop
  | [], [] => False
  | [], _ :: _ => True
  | _ :: _, [] => False
  | x :: xs, y :: ys => lkLt x y ∨ (x = y ∧ lsLt xs ys)
theorem lsLt_irr : ∀ l : List Lk, ¬ lsLt l l
  | [] => id
  | x :: l => fun h => by
    rcases h with h | ⟨_, h⟩
    · exact lkLt_irr x h
    · exact lsLt_irr l h
theorem lsLt_trans : ∀ {a b c : List Lk}, lsLt a b → lsLt b c → lsLt a c
  | [], [], _, h, _ => h.elim
  | [], _ :: _, [], _, h => h.elim
  | [], _ :: _, _ :: _, _, _ => trivial
  | _ :: _, [], _, h, _ => h.elim
  | _ :: _, _ :: _, [], _, h => h.elim
  | x :: a, y :: b, z :: c, h1, h2 => by
    rcases h1 with h1 | ⟨rfl, h1⟩
    · rcases h2 with h2 | ⟨rfl, h2⟩
      · exact .inl (lkLt_trans h1 h2)
      · exact .inl h1
    · rcases h2 with h2 | ⟨rfl, h2⟩
      · exact .inl h2
      · exact .inr ⟨rfl, lsLt_trans h1 h2⟩
theorem lsLt_total : ∀ a b : List Lk, lsLt a b ∨ a = b ∨ lsLt b a
  | [], [] => .inr (.inl rfl)
  | [], _ :: _ => .inl trivial
  | _ :: _, [] => .inr (.inr trivial)
  | x :: a, y :: b => by
    rcases lkLt_total x y with h | rfl | h
    · exact .inl (.inl h)
    · rcases lsLt_total a b with h | rfl | h
      · exact .inl (.inr ⟨rfl, h⟩)
      · exact .inr (.inl rfl)
      · exact .inr (.inr (.inr ⟨rfl, h⟩))
    · exact .inr (.inr (.inl h))
def grLt (a b : Gr) : Prop := a.f < b.f ∨ (a.f = b.f ∧ (a.t < b.t ∨ (a.t = b.t ∧ lsLt a.L b.L)))
theorem grLt_irr (a : Gr) : ¬ grLt a a := by
  rintro (h | ⟨_, h | ⟨_, h⟩⟩)
  · omega
  · omega
  · exact lsLt_irr _ h
theorem grLt_trans {a b c : Gr} (h1 : grLt a b) (h2 : grLt b c) : grLt a c := by
  unfold grLt at *
  rcases h1 with h1 | ⟨e1, h1 | ⟨e2, h1⟩⟩ <;> rcases h2 with h2 | ⟨e3, h2 | ⟨e4, h2⟩⟩
  all_goals first | exact .inl (by omega) | exact .inr ⟨by omega, .inl (by omega)⟩ | exact .inr ⟨by omega, .inr ⟨by omega, lsLt_trans h1 h2⟩⟩
theorem grLt_total (a b : Gr) : grLt a b ∨ a = b ∨ grLt b a := by
  obtain ⟨f, t, L⟩ := a
  obtain ⟨f', t', L'⟩ := b
  unfold grLt
  simp only [Gr.mk.injEq]
  rcases Int.lt_trichotomy f f' with h | h | h
  · exact .inl (.inl h)
  · rcases Int.lt_trichotomy t t' with h2 | h2 | h2
    · exact .inl (.inr ⟨h, .inl h2⟩)
    · rcases lsLt_total L L' with h3 | h3 | h3
      · exact .inl (.inr ⟨h, .inr ⟨h2, h3⟩⟩)
      · exact .inr (.inl ⟨h, h2, h3⟩)
      · exact .inr (.inr (.inr ⟨h.symm, .inr ⟨h2.symm, h3⟩⟩))
    · exact .inr (.inr (.inr ⟨h.symm, .inl h2⟩))
  · exact .inr (.inr (.inl h))
/-- two ascending lists of the same graphs are one -/
theorem gr_same : ∀ {L R : List Gr}, L.Pairwise grLt → R.Pairwise grLt → (∀ x, x ∈ L ↔ x ∈ R) → L = R
  | [], [], _, _, _ => rfl
  | [], r :: R, _, _, h => by have := (h r).2 (by simp); simp at this
  | l :: L, [], _, _, h => by have := (h l).1 (by simp); simp at this
  | l :: L, r :: R, hL, hR, h => by
    obtain ⟨l1, l2⟩ := List.pairwise_cons.1 hL
    obtain ⟨r1, r2⟩ := List.pairwise_cons.1 hR
    have e : l = r := by
      rcases List.mem_cons.1 ((h l).1 (by simp)) with e | e
      · exact e
      · rcases List.mem_cons.1 ((h r).2 (by simp)) with e' | e'
        · exact e'.symm
        · exact absurd (grLt_trans (r1 l e) (l1 r e')) (grLt_irr _)
    subst e
    rw [gr_same l2 r2 fun x => ⟨fun hx => by
      rcases List.mem_cons.1 ((h x).1 (List.mem_cons_of_mem _ hx)) with e | e
      · subst e; exact absurd (l1 _ hx) (grLt_irr _)
      · exact e, fun hx => by
      rcases List.mem_cons.1 ((h x).2 (List.mem_cons_of_mem _ hx)) with e | e
      · subst e; exact absurd (r1 _ hx) (grLt_irr _)
      · exact e⟩]
/-- ascending lists have nothing twice -/
theorem gr_nodup {L : List Gr} (h : L.Pairwise grLt) : L.Nodup := by
  refine List.nodup_iff_pairwise_ne.2 (h.imp ?_)
  intro a b hab e
  rw [e] at hab
  exact grLt_irr b hab
end Go.Proofs.YtbleedclnkpbkaaGreatDoor
end
section
namespace Go.Proofs.YtbleedclnkpbkaaGreatDoor
/-! the closure that the workbench makes: o: the graphs, ascending; r: those that are still to be composed -/
/-- 'put' -/
def Put (g : Gr) (o r o' r' : List Gr) : Prop :=
  (g ∈ o ∧ o' = o ∧ r' = r) ∨ (g ∉ o ∧ o'.Pairwise grLt ∧ (∀ x, x ∈ o' ↔ x = g ∨ x ∈ o) ∧ o'.length = o.length + 1 ∧ r' = r ++ [g])
/-- what the binary search finds, put there -/
theorem put_at {g : Gr} {o : List Gr} {i : Nat} (ho : o.Pairwise grLt) (hi : i ≤ o.length) (hlo : ∀ (j : Nat) (x : Gr), j < i → o[j]? = some x → grLt x g) (hhi : ∀ (j : Nat) (x : Gr), i ≤ j → o[j]? = some x → ¬ grLt x g) (hne : o[i]? ≠ some g) (r : List Gr) :
    Put g o r (o.take i ++ g :: o.drop i) (r ++ [g]) := by
  have hlo' : ∀ x ∈ o.take i, grLt x g := fun x hx => by
    obtain ⟨j, hj⟩ := List.getElem?_of_mem hx
    have hjl := (List.getElem?_eq_some_iff.1 hj).1
    rw [List.length_take] at hjl
    rw [List.getElem?_take_of_lt (by omega)] at hj
    exact hlo j x (by omega) hj
  have hsplit : o.take i ++ o.drop i = o := List.take_append_drop i o
  have ho2 := ho
  rw [← hsplit, List.pairwise_append] at ho2
  obtain ⟨p1, p2, p3⟩ := ho2
  have hhi' : ∀ x ∈ o.drop i, grLt g x := by
    cases hd : o.drop i with
    | nil => intro x hx; cases hx
    | cons y r =>
      have hy : o[i]? = some y := by
        have := congrArg (·[0]?) hd
        simpa using this
      have hgy : grLt g y := by
        rcases grLt_total g y with h | h | h
        · exact h
        · exact absurd (by rw [hy, h]) hne
        · exact absurd h (hhi i y (Nat.le_refl _) hy)
      rw [hd] at p2
      intro x hx
      rcases List.mem_cons.1 hx with rfl | hx
      · exact hgy
      · exact grLt_trans hgy ((List.pairwise_cons.1 p2).1 x hx)
  refine .inr ⟨fun hg => ?_, ?_, fun x => ?_, ?_, rfl⟩
  · rw [← hsplit] at hg
    rcases List.mem_append.1 hg with h | h
    · exact grLt_irr g (hlo' g h)
    · exact grLt_irr g (hhi' g h)
  · rw [List.pairwise_append, List.pairwise_cons]
    refine ⟨p1, ⟨hhi', p2⟩, fun a ha b hb => ?_⟩
    rcases List.mem_cons.1 hb with rfl | hb
    · exact hlo' a ha
    · exact p3 a ha b hb
  · conv => rhs; rw [← hsplit]
    simp only [List.mem_append, List.mem_cons]
    constructor
    · rintro (h | h | h)
      · exact .inr (.inl h)
      · exact .inl h
      · exact .inr (.inr h)
    · rintro (h | h | h)
      · exact .inr (.inl h)
      · exact .inl h
      · exact .inr (.inr h)
  · simp only [List.length_append, List.length_cons, List.length_take, List.length_drop]; omega
theorem put_there {g : Gr} {o : List Gr} (h : g ∈ o) (r : List Gr) : Put g o r o r := .inl ⟨h, rfl, rfl⟩
theorem Put.mem {g : Gr} {o r o' r' : List Gr} (h : Put g o r o' r') : g ∈ o' := by
  rcases h with ⟨h, rfl, _⟩ | ⟨_, _, h, _⟩
  · exact h
  · exact (h g).2 (.inl rfl)
theorem Put.old {g : Gr} {o r o' r' : List Gr} (h : Put g o r o' r') {x : Gr} (hx : x ∈ o) : x ∈ o' := by
  rcases h with ⟨_, rfl, _⟩ | ⟨_, _, h, _⟩
  · exact hx
  · exact (h x).2 (.inr hx)
theorem Put.oldr {g : Gr} {o r o' r' : List Gr} (h : Put g o r o' r') {x : Gr} (hx : x ∈ r) : x ∈ r' := by
  rcases h with ⟨_, _, rfl⟩ | ⟨_, _, _, _, rfl⟩
  · exact hx
  · exact List.mem_append_left _ hx
/-- the graphs put so far, all still to be composed -/
structure Ini (l : List Gr) (k : Nat) (o r : List Gr) : Prop where
  asc : o.Pairwise grLt
  cl : ∀ g ∈ o, Cl l g
  has : ∀ g ∈ l.take k, g ∈ o
  rdy : ∀ g, g ∈ o ↔ g ∈ r
  len : r.length = o.length
theorem Ini.start (l : List Gr) : Ini l 0 [] [] := ⟨by simp, by simp, by simp, by simp, rfl⟩
theorem Ini.put {l : List Gr} {k : Nat} {o r o' r' : List Gr} {g : Gr} (h : Ini l k o r) (hg : l[k]? = some g) (hp : Put g o r o' r') : Ini l (k + 1) o' r' := by
  have htk : l.take (k + 1) = l.take k ++ [g] := by rw [List.take_add_one, hg]; rfl
  have hcl : Cl l g := .base (List.mem_of_getElem? hg)
  have hhas : ∀ x ∈ l.take (k + 1), x ∈ o' := fun x hx => by
    rw [htk] at hx
    rcases List.mem_append.1 hx with hx | hx
    · exact hp.old (h.has x hx)
    · simp at hx; subst hx; exact hp.mem
  rcases hp with ⟨h1, rfl, rfl⟩ | ⟨h1, h2, h3, h4, rfl⟩
  · exact ⟨h.asc, h.cl, hhas, h.rdy, h.len⟩
  · refine ⟨h2, fun x hx => ?_, hhas, fun x => ?_, by simp [h.len, h4]⟩
    · rcases (h3 x).1 hx with rfl | hx
      · exact hcl
      · exact h.cl x hx
    · rw [h3, h.rdy]; simp only [List.mem_append, List.mem_singleton]; exact Or.comm
/-- between two rounds -/
structure Bet (l o r : List Gr) : Prop where
  asc : o.Pairwise grLt
  cl : ∀ g ∈ o, Cl l g
  has : ∀ g ∈ l, g ∈ o
  rdy : ∀ g ∈ r, g ∈ o
  done : ∀ a ∈ o, ∀ b ∈ o, a ∉ r → b ∉ r → a.t = b.f → a.comp b ∈ o
theorem Ini.bet {l : List Gr} {k : Nat} {o r : List Gr} (h : Ini l k o r) (hk : l.length ≤ k) : Bet l o r :=
  ⟨h.asc, h.cl, fun g hg => h.has g (by rw [List.take_of_length_le hk]; exact hg), fun g hg => (h.rdy g).2 hg, fun a ha b hb hna => absurd ((h.rdy a).1 ha) hna⟩
/-- in the round of g, k of the graphs S that lay there having been composed with it -/
structure Rnd (l : List Gr) (g : Gr) (S r0 : List Gr) (k : Nat) (o r : List Gr) : Prop where
  asc : o.Pairwise grLt
  cl : ∀ g ∈ o, Cl l g
  old : ∀ x ∈ S, x ∈ o
  new : ∀ x ∈ o, x ∈ S ∨ x ∈ r
  rold : ∀ x ∈ r0, x ∈ r
  rdy : ∀ x ∈ r, x ∈ o
  len : o.length + r0.length = S.length + r.length
  up : r0.length ≤ r.length
  most : o.length ≤ S.length + 2 * k
  did : ∀ h ∈ S.take k, (g.t = h.f → g.comp h ∈ o) ∧ (h.t = g.f → h.comp g ∈ o)
theorem Rnd.start {l o r0 : List Gr} {g : Gr} (h : Bet l o (g :: r0)) : Rnd l g o r0 0 o r0 :=
  ⟨h.asc, h.cl, fun _ hx => hx, fun x hx => .inl hx, fun _ hx => hx, fun x hx => h.rdy x (List.mem_cons_of_mem _ hx), rfl, Nat.le_refl _, by omega, by simp⟩
/-- a put of something that comes of l -/
structure Mid2 (l : List Gr) (S r0 : List Gr) (n : Nat) (o r : List Gr) : Prop where
  asc : o.Pairwise grLt
  cl : ∀ g ∈ o, Cl l g
  old : ∀ x ∈ S, x ∈ o
  new : ∀ x ∈ o, x ∈ S ∨ x ∈ r
  rold : ∀ x ∈ r0, x ∈ r
  rdy : ∀ x ∈ r, x ∈ o
  len : o.length + r0.length = S.length + r.length
  up : r0.length ≤ r.length
  most : o.length ≤ S.length + n
theorem Mid2.put {l S r0 o r o' r' : List Gr} {n : Nat} {x : Gr} (h : Mid2 l S r0 n o r) (hx : Cl l x) (hp : Put x o r o' r') : Mid2 l S r0 (n + 1) o' r' := by
  rcases hp with ⟨h1, rfl, rfl⟩ | ⟨h1, h2, h3, h4, rfl⟩
  · exact ⟨h.asc, h.cl, h.old, h.new, h.rold, h.rdy, h.len, h.up, by have := h.most; omega⟩
  · refine ⟨h2, fun y hy => ?_, fun y hy => (h3 y).2 (.inr (h.old y hy)), fun y hy => ?_, fun y hy => List.mem_append_left _ (h.rold y hy), fun y hy => ?_, ?_, ?_, by have := h.most; omega⟩
    · rcases (h3 y).1 hy with rfl | hy
      · exact hx
      · exact h.cl y hy
    · rcases (h3 y).1 hy with rfl | hy
      · exact .inr (by simp)
      · exact (h.new y hy).imp id (List.mem_append_left _)
    · rcases List.mem_append.1 hy with hy | hy
      · exact (h3 y).2 (.inr (h.rdy y hy))
      · simp at hy; exact (h3 y).2 (.inl hy)
    · have := h.len; simp; omega
    · have := h.up; simp; omega
theorem Rnd.mid {l : List Gr} {g : Gr} {S r0 : List Gr} {k : Nat} {o r : List Gr} (h : Rnd l g S r0 k o r) : Mid2 l S r0 (2 * k) o r :=
  ⟨h.asc, h.cl, h.old, h.new, h.rold, h.rdy, h.len, h.up, h.most⟩
/-- the step of one h: g with h, then h with g -/
theorem Rnd.step {l : List Gr} {g h : Gr} {S r0 : List Gr} {k : Nat} {o r o1 r1 o2 r2 : List Gr} (H : Rnd l g S r0 k o r) (hg : g ∈ S) (hh : S[k]? = some h)
    (h1 : (g.t = h.f ∧ Put (g.comp h) o r o1 r1) ∨ (g.t ≠ h.f ∧ o1 = o ∧ r1 = r)) (h2 : (h.t = g.f ∧ Put (h.comp g) o1 r1 o2 r2) ∨ (h.t ≠ g.f ∧ o2 = o1 ∧ r2 = r1)) : Rnd l g S r0 (k + 1) o2 r2 := by
  have cg : Cl l g := H.cl g (H.old g hg)
  have chh : Cl l h := H.cl h (H.old h (List.mem_of_getElem? hh))
  have htk : S.take (k + 1) = S.take k ++ [h] := by rw [List.take_add_one, hh]; rfl
  have m1 : Mid2 l S r0 (2 * k + 1) o1 r1 := by
    rcases h1 with ⟨e, hp⟩ | ⟨_, rfl, rfl⟩
    · exact H.mid.put (.step cg chh e) hp
    · have m := H.mid; exact ⟨m.asc, m.cl, m.old, m.new, m.rold, m.rdy, m.len, m.up, by have := m.most; omega⟩
  have m2 : Mid2 l S r0 (2 * k + 1 + 1) o2 r2 := by
    rcases h2 with ⟨e, hp⟩ | ⟨_, rfl, rfl⟩
    · exact m1.put (.step chh cg e) hp
    · exact ⟨m1.asc, m1.cl, m1.old, m1.new, m1.rold, m1.rdy, m1.len, m1.up, by have := m1.most; omega⟩
  have s1 : ∀ x ∈ o, x ∈ o1 := fun x hx => by
    rcases h1 with ⟨_, hp⟩ | ⟨_, rfl, _⟩
    · exact hp.old hx
    · exact hx
  have s2 : ∀ x ∈ o1, x ∈ o2 := fun x hx => by
    rcases h2 with ⟨_, hp⟩ | ⟨_, rfl, _⟩
    · exact hp.old hx
    · exact hx
  refine ⟨m2.asc, m2.cl, m2.old, m2.new, m2.rold, m2.rdy, m2.len, m2.up, by have := m2.most; omega, fun x hx => ?_⟩
  rw [htk] at hx
  rcases List.mem_append.1 hx with hx | hx
  · have := H.did x hx
    exact ⟨fun e => s2 _ (s1 _ (this.1 e)), fun e => s2 _ (s1 _ (this.2 e))⟩
  · simp at hx
    subst hx
    refine ⟨fun e => ?_, fun e => ?_⟩
    · rcases h1 with ⟨_, hp⟩ | ⟨hne, _⟩
      · exact s2 _ hp.mem
      · exact absurd e hne
    · rcases h2 with ⟨_, hp⟩ | ⟨hne, _⟩
      · exact hp.mem
      · exact absurd e hne
theorem Rnd.done {l o0 r0 o r : List Gr} {g : Gr} {k : Nat} (hb : Bet l o0 (g :: r0)) (H : Rnd l g o0 r0 k o r) (hk : o0.length ≤ k) : Bet l o r := by
  have htk : o0.take k = o0 := List.take_of_length_le hk
  have hd := H.did
  rw [htk] at hd
  refine ⟨H.asc, H.cl, fun x hx => H.old x (hb.has x hx), H.rdy, fun a ha b hb' na nb e => ?_⟩
  have ha0 : a ∈ o0 := (H.new a ha).resolve_right na
  have hb0 : b ∈ o0 := (H.new b hb').resolve_right nb
  by_cases ea : a = g
  · subst ea; exact (hd b hb0).1 e
  by_cases eb : b = g
  · subst eb; exact (hd a ha0).2 e
  · refine H.old _ (hb.done a ha0 b hb0 (fun h => ?_) (fun h => ?_) e)
    · rcases List.mem_cons.1 h with h | h
      · exact ea h
      · exact na (H.rold a h)
    · rcases List.mem_cons.1 h with h | h
      · exact eb h
      · exact nb (H.rold b h)
theorem Bet.all {l o : List Gr} (h : Bet l o []) (g : Gr) : g ∈ o ↔ Cl l g := by
  refine ⟨h.cl g, fun hg => ?_⟩
  induction hg with
  | base hg => exact h.has _ hg
  | step ha hb e iha ihb => exact h.done _ iha _ ihb (by simp) (by simp) e
end Go.Proofs.YtbleedclnkpbkaaGreatDoor
end
section
namespace Go.Proofs.YtbleedclnkpbkaaGreatDoor
/-! the closure that the reference makes: u: the graphs, in the order of their coming -/
def Add (g : Gr) (u u' : List Gr) : Prop := (g ∈ u ∧ u' = u) ∨ (g ∉ u ∧ u' = u ++ [g])
theorem Add.mem {g : Gr} {u u' : List Gr} (h : Add g u u') : g ∈ u' := by
  rcases h with ⟨h, rfl⟩ | ⟨_, rfl⟩
  · exact h
  · simp
theorem Add.old {g x : Gr} {u u' : List Gr} (h : Add g u u') (hx : x ∈ u) : x ∈ u' := by
  rcases h with ⟨_, rfl⟩ | ⟨_, rfl⟩
  · exact hx
  · exact List.mem_append_left _ hx
theorem Add.at {g x : Gr} {u u' : List Gr} {p : Nat} (h : Add g u u') (hp : p < u.length) : u'[p]? = u[p]? := by
  rcases h with ⟨_, rfl⟩ | ⟨_, rfl⟩
  · rfl
  · rw [List.getElem?_append_left hp]
theorem Add.len {g : Gr} {u u' : List Gr} (h : Add g u u') : u.length ≤ u'.length ∧ u'.length ≤ u.length + 1 := by
  rcases h with ⟨_, rfl⟩ | ⟨_, rfl⟩ <;> simp
theorem Add.nodup {g : Gr} {u u' : List Gr} (h : Add g u u') (hn : u.Nodup) : u'.Nodup := by
  rcases h with ⟨_, rfl⟩ | ⟨hg, rfl⟩
  · exact hn
  · rw [List.nodup_append]
    refine ⟨hn, by simp, fun a ha b hb e => ?_⟩
    simp at hb; subst hb; subst e; exact hg ha
theorem Add.cl {l : List Gr} {g : Gr} {u u' : List Gr} (h : Add g u u') (hg : Cl l g) (hu : ∀ x ∈ u, Cl l x) : ∀ x ∈ u', Cl l x := by
  rcases h with ⟨_, rfl⟩ | ⟨_, rfl⟩
  · exact hu
  · intro x hx
    rcases List.mem_append.1 hx with hx | hx
    · exact hu x hx
    · simp at hx; subst hx; exact hg
/-- the first loop -/
structure Ded (l : List Gr) (k : Nat) (u : List Gr) : Prop where
  nd : u.Nodup
  cl : ∀ g ∈ u, Cl l g
  has : ∀ g ∈ l.take k, g ∈ u
  len : u.length ≤ k
theorem Ded.start (l : List Gr) : Ded l 0 [] := ⟨by simp, by simp, by simp, by simp⟩
theorem Ded.add {l : List Gr} {k : Nat} {u u' : List Gr} {g : Gr} (h : Ded l k u) (hg : l[k]? = some g) (ha : Add g u u') : Ded l (k + 1) u' := by
  have htk : l.take (k + 1) = l.take k ++ [g] := by rw [List.take_add_one, hg]; rfl
  refine ⟨ha.nodup h.nd, ha.cl (.base (List.mem_of_getElem? hg)) h.cl, fun x hx => ?_, by have := ha.len; have := h.len; omega⟩
  rw [htk] at hx
  rcases List.mem_append.1 hx with hx | hx
  · exact ha.old (h.has x hx)
  · simp at hx; subst hx; exact ha.mem
/-- the second loop: all pairs below i are composed -/
structure Idx (l u : List Gr) (i : Nat) : Prop where
  nd : u.Nodup
  cl : ∀ g ∈ u, Cl l g
  has : ∀ g ∈ l, g ∈ u
  le : i ≤ u.length
  done : ∀ (p q : Nat) (a b : Gr), p < i → q < i → u[p]? = some a → u[q]? = some b → a.t = b.f → a.comp b ∈ u
theorem Ded.idx {l u : List Gr} {k : Nat} (h : Ded l k u) (hk : l.length ≤ k) : Idx l u 0 :=
  ⟨h.nd, h.cl, fun g hg => h.has g (by rw [List.take_of_length_le hk]; exact hg), Nat.zero_le _, fun p q a b hp => absurd hp (by omega)⟩
/-- .. and those of i with what is below k -/
structure Idx2 (l u : List Gr) (i k : Nat) (a : Gr) : Prop where
  idx : Idx l u i
  at_ : u[i]? = some a
  le : k ≤ i + 1
  did : ∀ (q : Nat) (b : Gr), q < k → u[q]? = some b → (a.t = b.f → a.comp b ∈ u) ∧ (b.t = a.f → b.comp a ∈ u)
theorem Idx.two {l u : List Gr} {i : Nat} {a : Gr} (h : Idx l u i) (ha : u[i]? = some a) : Idx2 l u i 0 a := ⟨h, ha, by omega, fun q b hq => absurd hq (by omega)⟩
theorem Idx.grow {l u u' : List Gr} {i : Nat} {g : Gr} (h : Idx l u i) (hg : Cl l g) (ha : Add g u u') : Idx l u' i := by
  have hl := ha.len
  have hle := h.le
  refine ⟨ha.nodup h.nd, ha.cl hg h.cl, fun x hx => ha.old (h.has x hx), by omega, fun p q a b hp hq h1 h2 e => ?_⟩
  rw [ha.at (x := a) (by omega)] at h1
  rw [ha.at (x := a) (by omega)] at h2
  exact ha.old (h.done p q a b hp hq h1 h2 e)
theorem Idx2.grow {l u u' : List Gr} {i k : Nat} {a g : Gr} (h : Idx2 l u i k a) (hg : Cl l g) (ha : Add g u u') : Idx2 l u' i k a := by
  have hlt : i < u.length := (List.getElem?_eq_some_iff.1 h.at_).1
  have hk := h.le
  refine ⟨h.idx.grow hg ha, (ha.at (x := a) hlt).trans h.at_, h.le, fun q b hq hb => ?_⟩
  rw [ha.at (x := a) (by omega)] at hb
  have := h.did q b hq hb
  exact ⟨fun e => ha.old (this.1 e), fun e => ha.old (this.2 e)⟩
theorem Idx2.step {l u u1 u2 : List Gr} {i k : Nat} {a b : Gr} (h : Idx2 l u i k a) (hk : k ≤ i) (hb : u[k]? = some b)
    (h1 : (a.t = b.f ∧ Add (a.comp b) u u1) ∨ (a.t ≠ b.f ∧ u1 = u)) (h2 : (b.t = a.f ∧ Add (b.comp a) u1 u2) ∨ (b.t ≠ a.f ∧ u2 = u1)) : Idx2 l u2 i (k + 1) a := by
  have hlt : i < u.length := (List.getElem?_eq_some_iff.1 h.at_).1
  have ca : Cl l a := h.idx.cl a (List.mem_of_getElem? h.at_)
  have cb : Cl l b := h.idx.cl b (List.mem_of_getElem? hb)
  have m1 : Idx2 l u1 i k a := by
    rcases h1 with ⟨e, hp⟩ | ⟨_, rfl⟩
    · exact h.grow (.step ca cb e) hp
    · exact h
  have b1 : u1[k]? = some b := by
    rcases h1 with ⟨_, hp⟩ | ⟨_, rfl⟩
    · exact (hp.at (x := a) (by omega)).trans hb
    · exact hb
  have hlt1 : i < u1.length := (List.getElem?_eq_some_iff.1 m1.at_).1
  have m2 : Idx2 l u2 i k a := by
    rcases h2 with ⟨e, hp⟩ | ⟨_, rfl⟩
    · exact m1.grow (.step cb ca e) hp
    · exact m1
  have b2 : u2[k]? = some b := by
    rcases h2 with ⟨_, hp⟩ | ⟨_, rfl⟩
    · exact (hp.at (x := a) (by omega)).trans b1
    · exact b1
  have s2 : ∀ x ∈ u1, x ∈ u2 := fun x hx => by
    rcases h2 with ⟨_, hp⟩ | ⟨_, rfl⟩
    · exact hp.old hx
    · exact hx
  refine ⟨m2.idx, m2.at_, by omega, fun q c hq hc => ?_⟩
  by_cases hqk : q < k
  · exact m2.did q c hqk hc
  · have : q = k := by omega
    subst this
    rw [b2] at hc
    cases hc
    refine ⟨fun e => ?_, fun e => ?_⟩
    · rcases h1 with ⟨_, hp⟩ | ⟨hne, _⟩
      · exact s2 _ hp.mem
      · exact absurd e hne
    · rcases h2 with ⟨_, hp⟩ | ⟨hne, _⟩
      · exact hp.mem
      · exact absurd e hne
theorem Idx2.next {l u : List Gr} {i k : Nat} {a : Gr} (h : Idx2 l u i k a) (hk : i < k) : Idx l u (i + 1) := by
  have hlt : i < u.length := (List.getElem?_eq_some_iff.1 h.at_).1
  refine ⟨h.idx.nd, h.idx.cl, h.idx.has, hlt, fun p q x y hp hq hx hy e => ?_⟩
  by_cases hpi : p = i
  · subst hpi
    have := h.at_
    rw [hx] at this
    cases this
    exact (h.did q y (by omega) hy).1 e
  by_cases hqi : q = i
  · subst hqi
    have := h.at_
    rw [hy] at this
    cases this
    exact (h.did p x (by omega) hx).2 e
  · exact h.idx.done p q x y (by omega) (by omega) hx hy e
theorem Idx.all {l u : List Gr} {i : Nat} (h : Idx l u i) (hi : u.length ≤ i) (g : Gr) : g ∈ u ↔ Cl l g := by
  refine ⟨h.cl g, fun hg => ?_⟩
  induction hg with
  | base hg => exact h.has _ hg
  | step ha hb e iha ihb =>
    obtain ⟨p, hp⟩ := List.getElem?_of_mem iha
    obtain ⟨q, hq⟩ := List.getElem?_of_mem ihb
    exact h.done p q _ _ (by have := (List.getElem?_eq_some_iff.1 hp).1; omega) (by have := (List.getElem?_eq_some_iff.1 hq).1; omega) hp hq e
/-! both -/
/-- what both closures answer: ok with all graphs, ascending, at most m; or more than m are there -/
def Closed (l : List Gr) (m : Nat) (o : List Gr) : Prop := o.Pairwise grLt ∧ (∀ g, g ∈ o ↔ Cl l g) ∧ o.length ≤ m
def Many (l : List Gr) (m : Nat) : Prop := ∃ N : List Gr, N.Nodup ∧ (∀ g ∈ N, Cl l g) ∧ m < N.length
theorem closed_same {l o o' : List Gr} {m : Nat} (h : Closed l m o) (h' : Closed l m o') : o = o' := gr_same h.1 h'.1 fun x => (h.2.1 x).trans (h'.2.1 x).symm
theorem closed_many {l o : List Gr} {m : Nat} (h : Closed l m o) (h' : Many l m) : False := by
  obtain ⟨N, h1, h2, h3⟩ := h'
  have := length_le_of_nodup h1 (m := o) fun x hx => (h.2.1 x).2 (h2 x hx)
  have := h.2.2
  omega
end Go.Proofs.YtbleedclnkpbkaaGreatDoor
end
section
namespace Go.Proofs.YtbleedclnkpbkaaGreatDoor
open Go.Sort
/-! the reference's sort: by insertion -/
structure Srt (d0 : Array Gr) (i : Nat) (d : Array Gr) : Prop where
  perm : d.toList.Perm d0.toList
  asc : ∀ p q, p < q → q < i → grLt d[p]! d[q]!
structure Sin (d0 : Array Gr) (i k : Nat) (d : Array Gr) : Prop where
  perm : d.toList.Perm d0.toList
  le : k ≤ i
  lt : i < d.size
  asc : ∀ p q, p < q → q ≤ i → p ≠ k → q ≠ k → grLt d[p]! d[q]!
  up : ∀ q, k < q → q ≤ i → grLt d[k]! d[q]!
theorem Srt.start (d0 : Array Gr) : Srt d0 0 d0 := ⟨List.Perm.refl _, fun p q _ h => absurd h (by omega)⟩
theorem Srt.sin {d0 d : Array Gr} {i : Nat} (h : Srt d0 i d) (hi : i < d.size) : Sin d0 i i d :=
  ⟨h.perm, Nat.le_refl _, hi, fun p q hpq hq hp hqk => h.asc p q hpq (by omega), fun q h1 h2 => absurd h1 (by omega)⟩
theorem swp_perm (d : Array Gr) {i j : Nat} (hi : i < d.size) (hj : j < d.size) : (swp d i j).toList.Perm d.toList := by
  have h := swp_permIn (α := Gr) d 0 d.size i j (Nat.zero_le _) hi (Nat.zero_le _) hj (Nat.le_refl _)
  have h2 := h.2.2
  have hs : (swp d i j).size = d.size := size_swp d i j
  rw [Array.extract_size] at h2
  rw [← hs, Array.extract_size] at h2
  exact h2
theorem Sin.swap {d0 d : Array Gr} {i k : Nat} (h : Sin d0 i (k + 1) d) (hlt : grLt d[k + 1]! d[k]!) : Sin d0 i k (swp d (k + 1) k) := by
  have hk := h.le
  have hl := h.lt
  have g1 : (swp d (k + 1) k)[k + 1]! = d[k]! := swp_left d (k + 1) k (by omega) (by omega)
  have g2 : (swp d (k + 1) k)[k]! = d[k + 1]! := swp_right d (k + 1) k (by omega)
  have g3 : ∀ q, q ≠ k + 1 → q ≠ k → (swp d (k + 1) k)[q]! = d[q]! := fun q h1 h2 => swp_other d (k + 1) k q h1 h2
  refine ⟨(swp_perm d (by omega) (by omega)).trans h.perm, by omega, by rw [size_swp]; exact hl, fun p q hpq hq hp hqk => ?_, fun q h1 h2 => ?_⟩
  · by_cases hp1 : p = k + 1
    · subst hp1
      rw [g1, g3 q (by omega) (by omega)]
      exact h.asc k q (by omega) hq (by omega) (by omega)
    by_cases hq1 : q = k + 1
    · subst hq1
      rw [g1, g3 p hp1 hp]
      exact h.asc p k (by omega) (by omega) hp1 (by omega)
    · rw [g3 p hp1 hp, g3 q hq1 hqk]
      exact h.asc p q hpq hq hp1 hq1
  · rw [g2]
    by_cases hq1 : q = k + 1
    · subst hq1; rw [g1]; exact hlt
    · rw [g3 q hq1 (by omega)]
      exact h.up q (by omega) h2
theorem Sin.stop {d0 d : Array Gr} {i k : Nat} (h : Sin d0 i k d) (hn : d0.toList.Nodup) (hs : k = 0 ∨ ¬ grLt d[k]! d[k - 1]!) : Srt d0 (i + 1) d := by
  have hl := h.lt
  have hle := h.le
  refine ⟨h.perm, fun p q hpq hq => ?_⟩
  by_cases hp : p = k
  · subst hp; exact h.up q hpq (by omega)
  by_cases hqk : q = k
  · subst hqk
    have hne : q ≠ 0 := by omega
    have hnl := hs.resolve_left hne
    have hd : d.toList.Nodup := (h.perm.nodup_iff).2 hn
    have hneq : d[q]! ≠ d[q - 1]! := by
      intro e
      have h2 := List.pairwise_iff_getElem.1 (List.nodup_iff_pairwise_ne.1 hd) (q - 1) q (by simp; omega) (by simp; omega) (by omega)
      rw [getElem!_pos d q (by omega), getElem!_pos d (q - 1) (by omega)] at e
      simp only [Array.getElem_toList] at h2
      exact h2 e.symm
    have h1 : grLt d[q - 1]! d[q]! := by
      rcases grLt_total d[q - 1]! d[q]! with h3 | h3 | h3
      · exact h3
      · exact absurd h3.symm hneq
      · exact absurd h3 hnl
    by_cases hp1 : p = q - 1
    · rw [hp1]; exact h1
    · exact grLt_trans (h.asc p (q - 1) (by omega) (by omega) hp (by omega)) h1
  · exact h.asc p q hpq (by omega) hp hqk
theorem Srt.all {d0 d : Array Gr} {i : Nat} (h : Srt d0 i d) (hi : d.size ≤ i) : d.toList.Pairwise grLt := by
  rw [List.pairwise_iff_getElem]
  intro p q hp hq hpq
  have hp' : p < d.size := by simpa using hp
  have hq' : q < d.size := by simpa using hq
  have := h.asc p q hpq (by omega)
  rw [getElem!_pos d p hp', getElem!_pos d q hq'] at this
  simpa using this
end Go.Proofs.YtbleedclnkpbkaaGreatDoor
end
section
namespace Go.Proofs.YtbleedclnkpbkaaGreatDoor
/-! the two comparisons of graphs -/
theorem cmpZ_neg {x y : Int} : cmpZ x y < 0 ↔ x < y := by unfold cmpZ; split <;> (try split) <;> omega
theorem cmpZ_zero {x y : Int} : cmpZ x y = 0 ↔ x = y := by unfold cmpZ; split <;> (try split) <;> omega
theorem bitZ_eq (a b : Bool) : bitZ a = bitZ b ↔ a = b := by cases a <;> cases b <;> simp [bitZ]
theorem orZ_cons (z : Int) (r : List Int) : orZ (z :: r) = if z = 0 then orZ r else z := rfl
theorem orZ_nil : orZ [] = 0 := rfl
theorem cmpL_zero {x y : Lk} : cmpL x y = 0 ↔ x = y := by
  obtain ⟨f, t, s⟩ := x
  obtain ⟨f', t', s'⟩ := y
  unfold cmpL
  simp only [orZ_cons, orZ_nil, Lk.mk.injEq]
  by_cases h1 : cmpZ f f' = 0
  · rw [if_pos h1]
    by_cases h2 : cmpZ t t' = 0
    · rw [if_pos h2]
      by_cases h3 : cmpZ (bitZ s) (bitZ s') = 0
      · rw [if_pos h3]
        exact ⟨fun _ => ⟨cmpZ_zero.1 h1, cmpZ_zero.1 h2, (bitZ_eq _ _).1 (cmpZ_zero.1 h3)⟩, fun _ => rfl⟩
      · rw [if_neg h3]
        exact ⟨fun h => absurd h h3, fun h => absurd (cmpZ_zero.2 ((bitZ_eq _ _).2 h.2.2)) h3⟩
    · rw [if_neg h2]
      exact ⟨fun h => absurd h h2, fun h => absurd (cmpZ_zero.2 h.2.1) h2⟩
  · rw [if_neg h1]
    exact ⟨fun h => absurd h h1, fun h => absurd (cmpZ_zero.2 h.1) h1⟩
/-- slices.CompareFunc at links -/
def cmpLs : List Lk → List Lk → Int
  | [], [] => 0
  | [], _ :: _ => -1
  | _ :: _, [] => 1
  | x :: xs, y :: ys => if cmpL x y = 0 then cmpLs xs ys else cmpL x y
theorem cmpLs_neg : ∀ {a b : List Lk}, cmpLs a b < 0 ↔ lsLt a b
  | [], [] => by simp [cmpLs, lsLt]
  | [], _ :: _ => by simp [cmpLs, lsLt]
  | _ :: _, [] => by simp [cmpLs, lsLt]
  | x :: a, y :: b => by
    unfold cmpLs lsLt
    by_cases h : cmpL x y = 0
    · rw [if_pos h, cmpLs_neg]
      have e := cmpL_zero.1 h
      subst e
      exact ⟨fun h2 => .inr ⟨rfl, h2⟩, fun h2 => h2.elim (fun h3 => absurd h3 (lkLt_irr x)) (·.2)⟩
    · rw [if_neg h, cmpL_neg]
      exact ⟨.inl, fun h2 => h2.elim id fun h3 => absurd (cmpL_zero.2 h3.1) h⟩
theorem cmpLs_zero : ∀ {a b : List Lk}, cmpLs a b = 0 ↔ a = b
  | [], [] => by simp [cmpLs]
  | [], _ :: _ => by simp [cmpLs]
  | _ :: _, [] => by simp [cmpLs]
  | x :: a, y :: b => by
    unfold cmpLs
    by_cases h : cmpL x y = 0
    · rw [if_pos h, cmpLs_zero]
      have e := cmpL_zero.1 h
      subst e
      simp
    · rw [if_neg h]
      refine ⟨fun h2 => absurd h2 h, fun h2 => ?_⟩
      simp only [List.cons.injEq] at h2
      exact absurd (cmpL_zero.2 h2.1) h
/-- compareGraphs -/
def cmpG (a b : Gr) : Int := orZ [cmpZ a.f b.f, cmpZ a.t b.t, cmpLs a.L b.L]
theorem cmpG_neg {a b : Gr} : cmpG a b < 0 ↔ grLt a b := by
  unfold cmpG grLt
  simp only [orZ_cons, orZ_nil]
  by_cases h1 : cmpZ a.f b.f = 0
  · rw [if_pos h1]
    have e1 := cmpZ_zero.1 h1
    by_cases h2 : cmpZ a.t b.t = 0
    · rw [if_pos h2]
      have e2 := cmpZ_zero.1 h2
      by_cases h3 : cmpLs a.L b.L = 0
      · rw [if_pos h3]
        have e3 := cmpLs_zero.1 h3
        rw [e3]
        have := lsLt_irr b.L
        constructor
        · intro h; omega
        · rintro (h | ⟨_, h | ⟨_, h⟩⟩)
          · omega
          · omega
          · exact absurd h this
      · rw [if_neg h3, cmpLs_neg]
        exact ⟨fun h => .inr ⟨e1, .inr ⟨e2, h⟩⟩, fun h => by
          rcases h with h | ⟨_, h | ⟨_, h⟩⟩
          · omega
          · omega
          · exact h⟩
    · rw [if_neg h2, cmpZ_neg]
      have := fun h => h2 (cmpZ_zero.2 h)
      exact ⟨fun h => .inr ⟨e1, .inl h⟩, fun h => by
        rcases h with h | ⟨_, h | ⟨h, _⟩⟩
        · omega
        · exact h
        · exact absurd h this⟩
  · rw [if_neg h1, cmpZ_neg]
    have := fun h => h1 (cmpZ_zero.2 h)
    exact ⟨.inl, fun h => h.elim id fun h2 => absurd h2.1 this⟩
theorem cmpG_zero {a b : Gr} : cmpG a b = 0 ↔ a = b := by
  obtain ⟨f, t, L⟩ := a
  obtain ⟨f', t', L'⟩ := b
  unfold cmpG
  simp only [orZ_cons, orZ_nil, Gr.mk.injEq]
  by_cases h1 : cmpZ f f' = 0
  · rw [if_pos h1]
    by_cases h2 : cmpZ t t' = 0
    · rw [if_pos h2]
      by_cases h3 : cmpLs L L' = 0
      · rw [if_pos h3]
        exact ⟨fun _ => ⟨cmpZ_zero.1 h1, cmpZ_zero.1 h2, cmpLs_zero.1 h3⟩, fun _ => rfl⟩
      · rw [if_neg h3]
        exact ⟨fun h => absurd h h3, fun h => absurd (cmpLs_zero.2 h.2.2) h3⟩
    · rw [if_neg h2]
      exact ⟨fun h => absurd h h2, fun h => absurd (cmpZ_zero.2 h.2.1) h2⟩
  · rw [if_neg h1]
    exact ⟨fun h => absurd h h1, fun h => absurd (cmpZ_zero.2 h.1) h1⟩
/-- the reference's linkOrder, where nothing wraps -/
def ordL (x y : Lk) : Int := if x.f ≠ y.f then x.f - y.f else if x.t ≠ y.t then x.t - y.t else bitZ x.s - bitZ y.s
theorem ordL_neg {x y : Lk} : ordL x y < 0 ↔ lkLt x y := by
  unfold ordL lkLt
  by_cases h1 : x.f = y.f
  · by_cases h2 : x.t = y.t
    · simp only [h1, h2, ne_eq, not_true_eq_false, if_false, true_and, false_and, and_false, or_false, false_or, Int.lt_irrefl, iff_false]; omega
    · simp only [h1, h2, ne_eq, not_true_eq_false, not_false_eq_true, if_false, if_true, true_and, false_and, and_false, or_false, false_or, Int.lt_irrefl, iff_false]; omega
  · simp only [h1, ne_eq, not_false_eq_true, if_true, true_and, false_and, and_false, or_false, false_or, Int.lt_irrefl, iff_false]; omega
theorem ordL_zero {x y : Lk} : ordL x y = 0 ↔ x = y := by
  obtain ⟨f, t, s⟩ := x
  obtain ⟨f', t', s'⟩ := y
  unfold ordL
  simp only [Lk.mk.injEq]
  have hb := bitZ_eq s s'
  by_cases h1 : f = f'
  · by_cases h2 : t = t'
    · simp only [h1, h2, ne_eq, not_true_eq_false, if_false, true_and]
      rw [← hb]; omega
    · simp only [h1, h2, ne_eq, not_true_eq_false, not_false_eq_true, if_false, if_true, false_and, and_false, true_and, or_false, false_or, Int.lt_irrefl, iff_false]; omega
  · simp only [h1, ne_eq, not_false_eq_true, if_true, false_and, true_and, and_false, or_false, false_or, Int.lt_irrefl, iff_false]; omega
def ordLs : List Lk → List Lk → Int
  | x :: xs, y :: ys => if ordL x y = 0 then ordLs xs ys else ordL x y
  | a, b => (a.length : Int) - b.length
theorem ordLs_neg : ∀ {a b : List Lk}, ordLs a b < 0 ↔ lsLt a b
  | [], [] => by simp [ordLs, lsLt]
  | [], _ :: _ => by simp [ordLs, lsLt] <;> omega
  | _ :: _, [] => by simp [ordLs, lsLt] <;> omega
  | x :: a, y :: b => by
    unfold ordLs lsLt
    by_cases h : ordL x y = 0
    · rw [if_pos h, ordLs_neg]
      have e := ordL_zero.1 h
      subst e
      exact ⟨fun h2 => .inr ⟨rfl, h2⟩, fun h2 => h2.elim (fun h3 => absurd h3 (lkLt_irr x)) (·.2)⟩
    · rw [if_neg h, ordL_neg]
      exact ⟨.inl, fun h2 => h2.elim id fun h3 => absurd (ordL_zero.2 h3.1) h⟩
theorem ordLs_zero : ∀ {a b : List Lk}, ordLs a b = 0 ↔ a = b
  | [], [] => by simp [ordLs]
  | [], _ :: _ => by simp [ordLs] <;> omega
  | _ :: _, [] => by simp [ordLs] <;> omega
  | x :: a, y :: b => by
    unfold ordLs
    by_cases h : ordL x y = 0
    · rw [if_pos h, ordLs_zero]
      have e := ordL_zero.1 h
      subst e
      simp
    · rw [if_neg h]
      refine ⟨fun h2 => absurd h2 h, fun h2 => ?_⟩
      simp only [List.cons.injEq] at h2
      exact absurd (ordL_zero.2 h2.1) h
/-- GraphOrder, where nothing wraps -/
def ordG (a b : Gr) : Int := if a.f ≠ b.f then a.f - b.f else if a.t ≠ b.t then a.t - b.t else ordLs a.L b.L
theorem ordG_neg {a b : Gr} : ordG a b < 0 ↔ grLt a b := by
  unfold ordG grLt
  by_cases h1 : a.f = b.f
  · by_cases h2 : a.t = b.t
    · simp only [h1, h2, ne_eq, not_true_eq_false, if_false, true_and, ordLs_neg]
      constructor
      · intro h; exact .inr (.inr h)
      · rintro (h | h | h)
        · omega
        · omega
        · exact h
    · simp only [h1, h2, ne_eq, not_true_eq_false, not_false_eq_true, if_false, if_true, false_and, or_false, true_and, and_false, false_or, Int.lt_irrefl, iff_false]; omega
  · simp only [h1, ne_eq, not_false_eq_true, if_true, false_and, or_false, true_and, and_false, false_or, Int.lt_irrefl, iff_false]; omega
theorem ordG_zero {a b : Gr} : ordG a b = 0 ↔ a = b := by
  obtain ⟨f, t, L⟩ := a
  obtain ⟨f', t', L'⟩ := b
  unfold ordG
  simp only [Gr.mk.injEq]
  by_cases h1 : f = f'
  · by_cases h2 : t = t'
    · simp only [h1, h2, ne_eq, not_true_eq_false, if_false, true_and, ordLs_zero]
    · simp only [h1, h2, ne_eq, not_true_eq_false, not_false_eq_true, if_false, if_true, false_and, and_false, true_and, or_false, false_or, Int.lt_irrefl, iff_false]; omega
  · simp only [h1, ne_eq, not_false_eq_true, if_true, false_and, true_and, and_false, or_false, false_or, Int.lt_irrefl, iff_false]; omega
end Go.Proofs.YtbleedclnkpbkaaGreatDoor
end
section
namespace Go.Proofs.YtbleedclnkpbkaaGreatDoor
/-! the reference's Compose: a link is put in its place among links that ascend -/
def keyM (l : List Lk) : List KB := l.map fun x => ((x.f, x.t), x.s)
/-- l' is l with the link x put -/
def PutIs (l : List Lk) (x : Lk) (l' : List Lk) : Prop :=
  l'.Pairwise keyLt ∧ ∀ k, valM k (keyM l') = if k = (x.f, x.t) then some ((valM k (keyM l)).getD false || x.s) else valM k (keyM l)
theorem valM_append (k : Int × Int) : ∀ (M N : List KB), valM k (M ++ N) = (valM k M).orElse fun _ => valM k N
  | [], N => by simp [valM]
  | p :: M, N => by
    by_cases h : k = p.1
    · simp [valM, h]
    · simp [valM, h, valM_append k M N]
theorem valM_none {k : Int × Int} : ∀ {l : List Lk}, (∀ y ∈ l, k ≠ (y.f, y.t)) → valM k (keyM l) = none
  | [], _ => rfl
  | y :: l, h => by
    have h1 := h y (by simp)
    have h2 := valM_none (l := l) fun z hz => h z (by simp [hz])
    simp only [keyM, List.map_cons, valM, h1, if_false]
    exact h2
def other (x y : Lk) : Bool := !(decide (y.f = x.f) && decide (y.t = x.t))
theorem other_iff (x y : Lk) : other x y = true ↔ (y.f, y.t) ≠ (x.f, x.t) := by
  unfold other
  simp only [Bool.not_eq_true', Bool.and_eq_false_iff, decide_eq_false_iff_not, ne_eq, Prod.mk.injEq]
  constructor
  · rintro (h | h) ⟨h1, h2⟩
    · exact h h1
    · exact h h2
  · intro h
    by_cases h1 : y.f = x.f
    · exact .inr fun h2 => h ⟨h1, h2⟩
    · exact .inl h1
theorem valM_filter {k : Int × Int} {x : Lk} (hk : k ≠ (x.f, x.t)) : ∀ l : List Lk, valM k (keyM (l.filter (other x))) = valM k (keyM l)
  | [] => rfl
  | y :: l => by
    have ih := valM_filter hk l
    by_cases ho : other x y = true
    · rw [List.filter_cons_of_pos ho]
      simp only [keyM, List.map_cons, valM]
      simp only [keyM] at ih
      rw [ih]
    · rw [List.filter_cons_of_neg ho, ih]
      have hy : (y.f, y.t) = (x.f, x.t) := by
        rw [other_iff] at ho
        exact Classical.byContradiction ho
      have : k ≠ (y.f, y.t) := by rw [hy]; exact hk
      simp only [keyM, List.map_cons, valM, this, if_false]
theorem keyM_append (a b : List Lk) : keyM (a ++ b) = keyM a ++ keyM b := List.map_append
/-- what the loop leaves -/
theorem putIs_of {l : List Lk} {x0 x : Lk} {j : Nat} (hl : l.Pairwise keyLt) (hxf : x.f = x0.f) (hxt : x.t = x0.t) (hlo : ∀ y ∈ l.take j, ¬ keyLt x0 y) (hhi : ∀ y ∈ l.drop j, keyLt x0 y)
    (hs : x.s = (x0.s || (valM (x0.f, x0.t) (keyM l)).getD false)) : PutIs l x0 ((l.take j).filter (other x0) ++ x :: l.drop j) := by
  have hsplit : l.take j ++ l.drop j = l := List.take_append_drop j l
  have hl2 := hl
  rw [← hsplit, List.pairwise_append] at hl2
  obtain ⟨p1, p2, p3⟩ := hl2
  have hlt : ∀ y ∈ (l.take j).filter (other x0), keyLt y x0 := fun y hy => by
    obtain ⟨h1, h2⟩ := List.mem_filter.1 hy
    have h3 := hlo y h1
    rw [other_iff] at h2
    simp only [ne_eq, Prod.mk.injEq] at h2
    unfold keyLt at h3 ⊢
    omega
  have kx : ∀ {y : Lk}, keyLt y x0 → keyLt y x := fun {y} h => by unfold keyLt at *; omega
  have xk : ∀ {y : Lk}, keyLt x0 y → keyLt x y := fun {y} h => by unfold keyLt at *; omega
  refine ⟨?_, fun k => ?_⟩
  · rw [List.pairwise_append, List.pairwise_cons]
    refine ⟨p1.filter _, ⟨fun y hy => xk (hhi y hy), p2⟩, fun a ha b hb => ?_⟩
    rcases List.mem_cons.1 hb with rfl | hb
    · exact kx (hlt a ha)
    · exact p3 a (List.mem_filter.1 ha).1 b hb
  · by_cases hk : k = (x0.f, x0.t)
    · rw [if_pos hk, keyM_append, valM_append]
      have h1 : valM k (keyM ((l.take j).filter (other x0))) = none := valM_none fun y hy e => by
        have := (List.mem_filter.1 hy).2
        rw [other_iff] at this
        exact this (e.symm.trans hk)
      rw [h1]
      have h2 : valM k (keyM (x :: l.drop j)) = some x.s := by simp [keyM, valM, hk, hxf, hxt]
      rw [h2, hs, hk, Bool.or_comm]
      rfl
    · rw [if_neg hk, keyM_append, valM_append, valM_filter hk]
      have h2 : valM k (keyM (x :: l.drop j)) = valM k (keyM (l.drop j)) := by
        have : k ≠ (x.f, x.t) := by rw [hxf, hxt]; exact hk
        simp only [keyM, List.map_cons, valM, this, if_false]
      rw [h2, ← valM_append, ← keyM_append, hsplit]
theorem keyM_nodup {l : List Lk} (h : l.Pairwise keyLt) : ((keyM l).map (·.1)).Nodup := by
  unfold keyM
  rw [List.map_map]
  refine List.nodup_iff_pairwise_ne.2 (List.pairwise_map.2 (h.imp ?_))
  intro a b hab e
  simp only [Function.comp, Prod.mk.injEq] at e
  unfold keyLt at hab
  omega
theorem tells_of_val {M M' : List KB} {S : Lk → Lk → Prop} (h : Tells M S) (e : ∀ k, valM k M' = valM k M) : Tells M' S := fun k v => by rw [e k]; exact h k v
/-- .. and so the pairs are told -/
theorem PutIs.tells {l l' : List Lk} {S : Lk → Lk → Prop} {x y : Lk} (h : Tells (keyM l) S) (hxy : x.t = y.f) (hp : PutIs l ⟨x.f, y.t, x.s || y.s⟩ l') : Tells (keyM l') fun a b => S a b ∨ (a = x ∧ b = y) := by
  refine tells_of_val (h.step x y) fun k => ?_
  rw [hp.2 k]
  unfold stepM
  rw [if_pos hxy, valM_put]
  by_cases hk : k = (x.f, y.t)
  · rw [if_pos hk, if_pos hk, hk, Bool.or_assoc]
  · rw [if_neg hk, if_neg hk]
theorem Tells.skip {M : List KB} {S : Lk → Lk → Prop} {x y : Lk} (h : Tells M S) (hxy : x.t ≠ y.f) : Tells M fun a b => S a b ∨ (a = x ∧ b = y) :=
  h.weak fun a b hab => ⟨.inl, fun h1 => by
    rcases h1 with h1 | ⟨rfl, rfl⟩
    · exact h1
    · exact absurd hab hxy⟩
theorem isComp_keyM {A B L : List Lk} (h : Tells (keyM L) fun a b => a ∈ A ∧ b ∈ B) (hs : L.Pairwise keyLt) : IsComp A B L :=
  isComp_of h (keyM_nodup hs) (fun x => by
    unfold keyM
    rw [List.mem_map]
    constructor
    · intro hx; exact ⟨x, hx, rfl⟩
    · rintro ⟨y, hy, e⟩
      simp only [Prod.mk.injEq] at e
      obtain ⟨⟨e1, e2⟩, e3⟩ := e
      have : y = x := by cases y; cases x; simp_all
      rw [← this]; exact hy) hs
end Go.Proofs.YtbleedclnkpbkaaGreatDoor
end
section
namespace Go.Proofs.YtbleedclnkpbkaaGreatDoor
/-! the loop of putLink: done: x is put; s: x's bit; N: next -/
inductive Pst (l : List Lk) (x0 : Lk) (i : Nat) : Bool → Bool → List Lk → Prop
  | no (s : Bool) (h1 : ∀ y ∈ l.take i, ¬ keyLt x0 y) (h2 : s = (x0.s || (valM (x0.f, x0.t) (keyM (l.take i))).getD false)) : Pst l x0 i false s ((l.take i).filter (other x0))
  | yes (s : Bool) (j : Nat) (hj : j < i) (h1 : ∀ y ∈ l.take j, ¬ keyLt x0 y) (h2 : ∀ y ∈ l.drop j, keyLt x0 y) (h3 : s = (x0.s || (valM (x0.f, x0.t) (keyM l)).getD false)) :
      Pst l x0 i true s ((l.take j).filter (other x0) ++ ⟨x0.f, x0.t, s⟩ :: (l.drop j).take (i - j))
theorem Pst.start (l : List Lk) (x0 : Lk) : Pst l x0 0 false x0.s [] := by
  have := Pst.no (l := l) (x0 := x0) (i := 0) x0.s (by simp) (by simp [keyM, valM])
  simpa using this
theorem take_one {l : List Lk} {i : Nat} {y : Lk} (hy : l[i]? = some y) : l.take (i + 1) = l.take i ++ [y] := by rw [List.take_add_one, hy]; rfl
theorem sort_at {l : List Lk} (h : l.Pairwise keyLt) {p q : Nat} {a b : Lk} (ha : l[p]? = some a) (hb : l[q]? = some b) (hpq : p < q) : keyLt a b := by
  obtain ⟨h1, rfl⟩ := List.getElem?_eq_some_iff.1 ha
  obtain ⟨h2, rfl⟩ := List.getElem?_eq_some_iff.1 hb
  exact List.pairwise_iff_getElem.1 h p q h1 h2 hpq
theorem keyLt_trans {x y z : Lk} (h1 : keyLt x y) (h2 : keyLt y z) : keyLt x z := by unfold keyLt at *; omega
theorem mem_drop {l : List Lk} {j i : Nat} {y : Lk} (hy : l[i]? = some y) (h : j ≤ i) : y ∈ l.drop j := by
  refine List.mem_of_getElem? (i := i - j) ?_
  rw [List.getElem?_drop, show j + (i - j) = i by omega]; exact hy
/-- the same pair -/
theorem Pst.same {l N : List Lk} {x0 y : Lk} {i : Nat} {d s : Bool} (h : Pst l x0 i d s N) (hy : l[i]? = some y) (hf : y.f = x0.f) (ht : y.t = x0.t) (hl : l.Pairwise keyLt) : Pst l x0 (i + 1) d (s || y.s) N := by
  cases h with
  | no _ h1 h2 =>
    have htk := take_one hy
    have hno : ∀ z ∈ l.take i, (x0.f, x0.t) ≠ (z.f, z.t) := fun z hz e => by
      obtain ⟨p, hp⟩ := List.getElem?_of_mem hz
      have hpi : p < i := by have := (List.getElem?_eq_some_iff.1 hp).1; rw [List.length_take] at this; omega
      rw [List.getElem?_take_of_lt hpi] at hp
      have := sort_at hl hp hy hpi
      simp only [Prod.mk.injEq] at e
      unfold keyLt at this; omega
    have hfil : (l.take (i + 1)).filter (other x0) = (l.take i).filter (other x0) := by
      rw [htk, List.filter_append]
      have : other x0 y = false := by simp [other, hf, ht]
      simp [this]
    rw [← hfil]
    refine .no _ (fun z hz => ?_) ?_
    · rw [htk] at hz
      rcases List.mem_append.1 hz with hz | hz
      · exact h1 z hz
      · simp at hz; subst hz; unfold keyLt; omega
    · rw [h2, htk, keyM_append, valM_append, valM_none hno]
      simp [keyM, valM, hf, ht]
  | yes _ j hj h1 h2 h3 =>
    have := h2 y (mem_drop hy (by omega))
    unfold keyLt at this; omega
theorem lkLt_key {x y : Lk} (h : ¬ (y.f = x.f ∧ y.t = x.t)) : lkLt x y ↔ keyLt x y := by unfold lkLt keyLt; omega
/-- x is put here -/
theorem Pst.put {l N : List Lk} {x0 y : Lk} {i : Nat} {s : Bool} (h : Pst l x0 i false s N) (hy : l[i]? = some y) (hlt : keyLt x0 y) (hl : l.Pairwise keyLt) : Pst l x0 (i + 1) true s (N ++ [⟨x0.f, x0.t, s⟩] ++ [y]) := by
  cases h with
  | no _ h1 h2 =>
    have hhi : ∀ z ∈ l.drop i, keyLt x0 z := fun z hz => by
      obtain ⟨p, hp⟩ := List.getElem?_of_mem hz
      rw [List.getElem?_drop] at hp
      by_cases h0 : p = 0
      · subst h0; rw [Nat.add_zero, hy] at hp; cases hp; exact hlt
      · exact keyLt_trans hlt (sort_at hl hy hp (by omega))
    have e : (l.drop i).take (i + 1 - i) = [y] := by
      rw [show i + 1 - i = 1 by omega]
      obtain ⟨h3, rfl⟩ := List.getElem?_eq_some_iff.1 hy
      rw [List.drop_eq_getElem_cons h3]; rfl
    have := Pst.yes (l := l) (x0 := x0) (i := i + 1) s i (by omega) h1 hhi (by
      have hs : l = l.take i ++ l.drop i := (List.take_append_drop i l).symm
      rw [hs, keyM_append, valM_append]
      have : valM (x0.f, x0.t) (keyM (l.drop i)) = none := valM_none fun z hz e => by
        have := hhi z hz
        simp only [Prod.mk.injEq] at e
        unfold keyLt at this; omega
      rw [this, h2]
      cases valM (x0.f, x0.t) (keyM (l.take i)) <;> rfl)
    rw [e] at this
    simpa using this
/-- .. or not -/
theorem Pst.pass {l N : List Lk} {x0 y : Lk} {i : Nat} {d s : Bool} (h : Pst l x0 i d s N) (hy : l[i]? = some y) (hne : ¬ (y.f = x0.f ∧ y.t = x0.t)) (hlt : d = true ∨ ¬ keyLt x0 y) : Pst l x0 (i + 1) d s (N ++ [y]) := by
  have htk := take_one hy
  have ho : other x0 y = true := by rw [other_iff]; simpa using hne
  cases h with
  | no _ h1 h2 =>
    have hfil : (l.take (i + 1)).filter (other x0) = (l.take i).filter (other x0) ++ [y] := by
      rw [htk, List.filter_append]; simp [ho]
    rw [← hfil]
    refine .no _ (fun z hz => ?_) ?_
    · rw [htk] at hz
      rcases List.mem_append.1 hz with hz | hz
      · exact h1 z hz
      · simp at hz; subst hz; exact hlt.resolve_left (by simp)
    · rw [h2, htk, keyM_append, valM_append]
      have : valM (x0.f, x0.t) (keyM [y]) = none := valM_none fun z hz e => by
        simp at hz; subst hz
        simp only [Prod.mk.injEq] at e
        exact hne ⟨e.1.symm, e.2.symm⟩
      rw [this]
      cases valM (x0.f, x0.t) (keyM (l.take i)) <;> rfl
  | yes _ j hj h1 h2 h3 =>
    have e : (l.drop j).take (i + 1 - j) = (l.drop j).take (i - j) ++ [y] := by
      rw [show i + 1 - j = i - j + 1 by omega, List.take_add_one, List.getElem?_drop, show j + (i - j) = i by omega, hy]; rfl
    have := Pst.yes (l := l) (x0 := x0) (i := i + 1) s j (by omega) h1 h2 h3
    rw [e] at this
    simpa using this
theorem Pst.len {l N : List Lk} {x0 : Lk} {i : Nat} {d s : Bool} (h : Pst l x0 i d s N) : N.length ≤ l.length + 1 := by
  cases h with
  | no _ h1 h2 =>
    have := List.length_filter_le (other x0) (l.take i)
    rw [List.length_take] at this; omega
  | yes _ j hj h1 h2 h3 =>
    have := List.length_filter_le (other x0) (l.take j)
    rw [List.length_take] at this
    simp only [List.length_append, List.length_cons, List.length_take, List.length_drop]
    omega
theorem Pst.done {l N : List Lk} {x0 : Lk} {i : Nat} {s : Bool} (h : Pst l x0 i true s N) (hi : l.length ≤ i) (hl : l.Pairwise keyLt) : PutIs l x0 N := by
  cases h with
  | yes _ j hj h1 h2 h3 =>
    have e : (l.drop j).take (i - j) = l.drop j := List.take_of_length_le (by rw [List.length_drop]; omega)
    rw [e]
    exact putIs_of (x := ⟨x0.f, x0.t, s⟩) hl rfl rfl h1 h2 h3
theorem Pst.last {l N : List Lk} {x0 : Lk} {i : Nat} {s : Bool} (h : Pst l x0 i false s N) (hi : l.length ≤ i) (hl : l.Pairwise keyLt) : PutIs l x0 (N ++ [⟨x0.f, x0.t, s⟩]) ∧ ∀ y ∈ N, keyLt y x0 := by
  cases h with
  | no _ h1 h2 =>
    have e : l.drop i = [] := List.drop_of_length_le hi
    have et : l.take i = l := List.take_of_length_le hi
    rw [et] at h2
    have := putIs_of (l := l) (x0 := x0) (x := ⟨x0.f, x0.t, s⟩) (j := i) hl rfl rfl h1 (by rw [e]; simp) h2
    rw [e] at this
    refine ⟨this, fun y hy => ?_⟩
    obtain ⟨h3, h4⟩ := List.mem_filter.1 hy
    have h5 := h1 y h3
    rw [other_iff] at h4
    simp only [ne_eq, Prod.mk.injEq] at h4
    unfold keyLt at *; omega
end Go.Proofs.YtbleedclnkpbkaaGreatDoor
end
section
namespace Go.Proofs.YtbleedclnkpbkaaGreatDoor
/-! the reference's Compose: the list G holds what the workbench's map M holds -/
structure Tel (F T : List Int) (M : List KB) (G : List Lk) : Prop where
  asc : G.Pairwise keyLt
  val : ∀ k, valM k (keyM G) = valM k M
  fr : ∀ z ∈ G, z.f ∈ F ∧ z.t ∈ T
theorem Tel.start (F T : List Int) : Tel F T [] [] := ⟨by simp, fun k => rfl, by simp⟩
theorem valM_some_mem {l : List Lk} {k : Int × Int} (h : valM k (keyM l) ≠ none) : ∃ y ∈ l, k = (y.f, y.t) := by
  apply Classical.byContradiction
  intro hn
  exact h (valM_none fun y hy e => hn ⟨y, hy, e⟩)
theorem Tel.put {F T : List Int} {M : List KB} {G G' : List Lk} {x y : Lk} (h : Tel F T M G) (hxy : x.t = y.f) (hp : PutIs G ⟨x.f, y.t, x.s || y.s⟩ G') (hx : x.f ∈ F) (hy : y.t ∈ T) : Tel F T (stepM x M y) G' := by
  refine ⟨hp.1, fun k => ?_, fun z hz => ?_⟩
  · rw [hp.2 k, h.val]
    show (if k = (x.f, y.t) then some ((valM k M).getD false || (x.s || y.s)) else valM k M) = _
    unfold stepM
    rw [if_pos hxy, valM_put]
    by_cases hk : k = (x.f, y.t)
    · rw [if_pos hk, if_pos hk, hk, Bool.or_assoc]
    · rw [if_neg hk, if_neg hk]
  · have h1 : valM (z.f, z.t) (keyM G') = some z.s := (valM_mem (keyM_nodup hp.1)).2 (by
      unfold keyM; exact List.mem_map.2 ⟨z, hz, rfl⟩)
    rw [hp.2] at h1
    by_cases hk : (z.f, z.t) = (x.f, y.t)
    · simp only [Prod.mk.injEq] at hk
      rw [hk.1, hk.2]; exact ⟨hx, hy⟩
    · rw [if_neg hk] at h1
      obtain ⟨u, hu, e⟩ := valM_some_mem (l := G) (k := (z.f, z.t)) (by rw [h1]; simp)
      simp only [Prod.mk.injEq] at e
      rw [e.1, e.2]; exact h.fr u hu
theorem Tel.skip {F T : List Int} {M : List KB} {G : List Lk} {x y : Lk} (h : Tel F T M G) (hxy : x.t ≠ y.f) : Tel F T (stepM x M y) G := by
  unfold stepM; rw [if_neg hxy]; exact h
theorem Tel.len {F T : List Int} {M : List KB} {G : List Lk} (h : Tel F T M G) : G.length ≤ F.length * T.length := by
  have hn := keyM_nodup h.asc
  have h2 := length_le_of_nodup (l := (keyM G).map (·.1)) (m := F.flatMap fun i => T.map fun j => (i, j)) hn fun k hk => by
    unfold keyM at hk
    rw [List.map_map] at hk
    obtain ⟨z, hz, rfl⟩ := List.mem_map.1 hk
    obtain ⟨h1, h2⟩ := h.fr z hz
    exact List.mem_flatMap.2 ⟨z.f, h1, List.mem_map.2 ⟨z.t, h2, rfl⟩⟩
  have e : (F.flatMap fun i => T.map fun j => (i, j)).length = F.length * T.length := by
    rw [List.length_flatMap]
    simp [List.map_const', List.sum_replicate_nat]
  rw [e, List.length_map] at h2
  unfold keyM at h2
  rwa [List.length_map] at h2
theorem Tel.comp {F T : List Int} {A B G : List Lk} (h : Tel F T (allM A B) G) : IsComp A B G :=
  isComp_keyM (tells_of_val (allM_tells A B) h.val) h.asc
/-- the same bound for the links of a composition -/
theorem asc_len {F T : List Int} {G : List Lk} (h1 : G.Pairwise keyLt) (h2 : ∀ z ∈ G, z.f ∈ F ∧ z.t ∈ T) : G.length ≤ F.length * T.length :=
  Tel.len (M := keyM G) ⟨h1, fun _ => rfl, h2⟩
theorem good_asc {f t : Int} {L : List Lk} (h : goodG f t L) : L.Pairwise keyLt := by
  rw [List.pairwise_iff_getElem]
  have step : ∀ (d i : Nat) (hi : i < L.length) (hj : i + 1 + d < L.length), keyLt L[i] L[i + 1 + d] := by
    intro d
    induction d with
    | zero => intro i hi hj; exact h.2.2.2 i _ _ (List.getElem?_eq_getElem hi) (List.getElem?_eq_getElem hj)
    | succ d ih =>
      intro i hi hj
      exact keyLt_trans (ih i hi (by omega)) (h.2.2.2 (i + 1 + d) _ _ (List.getElem?_eq_getElem (by omega)) (List.getElem?_eq_getElem hj))
  intro i j hi hj hij
  have := step (j - i - 1) i hi (by omega)
  have e : i + 1 + (j - i - 1) = j := by omega
  simpa only [e] using this
end Go.Proofs.YtbleedclnkpbkaaGreatDoor
end
