/-
  A part of the proof of the card of WorkClosureMatchesSpec (second form): lemmas that the text Card uses. No condition of its own.
-/
import Derived.Test.YtbleedclnkpbkaaGreatDoorKeys
import Derived.Test.YtbleedclnkpbkaaGreatDoorLinksB
set_option linter.all false
set_option linter.unusedVariables false
set_option linter.unusedSimpArgs false
section
namespace Go.Proofs.YtbleedclnkpbkaaGreatDoor
/-- one pair of links -/
def stepM (x : Lk) (M : List KB) (y : Lk) : List KB := if x.t = y.f then putM (x.f, y.t) ((valM (x.f, y.t) M).getD false || x.s || y.s) M else M
def rowM (B : List Lk) (M : List KB) (x : Lk) : List KB := B.foldl (stepM x) M
def allM (A B : List Lk) : List KB := A.foldl (rowM B) []
theorem valM_put (k k' : Int × Int) (v : Bool) : ∀ M : List KB, valM k (putM k' v M) = if k = k' then some v else valM k M
  | [] => by simp [putM, valM]
  | p :: M => by
    by_cases h : k' = p.1
    · by_cases h2 : k = p.1
      · simp [putM, valM, h, h2]
      · have : k ≠ k' := by rw [h]; exact h2
        simp [putM, valM, h, h2]
    · by_cases h2 : k = p.1
      · have : ¬ k = k' := fun e => h (by rw [← e, h2])
        simp [putM, valM, h, h2]
        exact fun e => absurd e.symm h
      · simp [putM, valM, h, h2, valM_put k k' v M]
/-- what the map holds at k, some pairs having come -/
def Tells (M : List KB) (S : Lk → Lk → Prop) : Prop :=
  ∀ k v, valM k M = some v ↔ (∃ x y, S x y ∧ x.t = y.f ∧ k = (x.f, y.t)) ∧ (v = true ↔ ∃ x y, S x y ∧ x.t = y.f ∧ k = (x.f, y.t) ∧ (x.s || y.s) = true)
end Go.Proofs.YtbleedclnkpbkaaGreatDoor
end
section
namespace Go.Proofs.YtbleedclnkpbkaaGreatDoor
theorem Tells.start : Tells [] fun _ _ => False := by
  intro k v; simp [valM]
theorem Tells.weak {M : List KB} {S S' : Lk → Lk → Prop} (h : Tells M S) (e : ∀ x y, x.t = y.f → (S x y ↔ S' x y)) : Tells M S' := by
  intro k v
  rw [h k v]
  have e1 : (∃ x y, S x y ∧ x.t = y.f ∧ k = (x.f, y.t)) ↔ ∃ x y, S' x y ∧ x.t = y.f ∧ k = (x.f, y.t) :=
    ⟨fun ⟨x, y, h1, h2, h3⟩ => ⟨x, y, (e x y h2).1 h1, h2, h3⟩, fun ⟨x, y, h1, h2, h3⟩ => ⟨x, y, (e x y h2).2 h1, h2, h3⟩⟩
  have e2 : (∃ x y, S x y ∧ x.t = y.f ∧ k = (x.f, y.t) ∧ (x.s || y.s) = true) ↔ ∃ x y, S' x y ∧ x.t = y.f ∧ k = (x.f, y.t) ∧ (x.s || y.s) = true :=
    ⟨fun ⟨x, y, h1, h2, h3⟩ => ⟨x, y, (e x y h2).1 h1, h2, h3⟩, fun ⟨x, y, h1, h2, h3⟩ => ⟨x, y, (e x y h2).2 h1, h2, h3⟩⟩
  rw [e1, e2]
theorem Tells.step {M : List KB} {S : Lk → Lk → Prop} (h : Tells M S) (x y : Lk) : Tells (stepM x M y) fun a b => S a b ∨ (a = x ∧ b = y) := by
  unfold stepM
  by_cases hf : x.t = y.f
  · rw [if_pos hf]
    intro k v
    rw [valM_put]
    by_cases hk : k = (x.f, y.t)
    · rw [if_pos hk]
      have hex : ∃ a b, (S a b ∨ (a = x ∧ b = y)) ∧ a.t = b.f ∧ k = (a.f, b.t) := ⟨x, y, .inr ⟨rfl, rfl⟩, hf, hk⟩
      simp only [Option.some.injEq]
      have hold : ((valM (x.f, y.t) M).getD false = true) ↔ ∃ a b, S a b ∧ a.t = b.f ∧ k = (a.f, b.t) ∧ (a.s || b.s) = true := by
        subst hk
        cases hv : valM (x.f, y.t) M with
        | none =>
          refine ⟨fun h0 => by simp at h0, fun ⟨a, b, h1, h2, h3, h4⟩ => ?_⟩
          have : valM (x.f, y.t) M = some true := (h _ true).2 ⟨⟨a, b, h1, h2, h3⟩, ⟨fun _ => ⟨a, b, h1, h2, h3, h4⟩, fun _ => rfl⟩⟩
          rw [hv] at this; cases this
        | some v0 => exact ((h _ v0).1 hv).2
      have key : ((valM (x.f, y.t) M).getD false || x.s || y.s) = true ↔ ∃ a b, (S a b ∨ (a = x ∧ b = y)) ∧ a.t = b.f ∧ k = (a.f, b.t) ∧ (a.s || b.s) = true := by
        rw [Bool.or_assoc, Bool.or_eq_true, hold]
        constructor
        · rintro (⟨a, b, h1, h2⟩ | h1)
          · exact ⟨a, b, .inl h1, h2⟩
          · exact ⟨x, y, .inr ⟨rfl, rfl⟩, hf, hk, h1⟩
        · rintro ⟨a, b, h1 | ⟨rfl, rfl⟩, h2, h3, h4⟩
          · exact .inl ⟨a, b, h1, h2, h3, h4⟩
          · exact .inr h4
      rw [← key]
      constructor
      · rintro rfl; exact ⟨hex, Iff.rfl⟩
      · rintro ⟨_, h2⟩
        cases v <;> cases hc : ((valM (x.f, y.t) M).getD false || x.s || y.s) <;> simp_all
    · rw [if_neg hk, h k v]
      have e : ∀ Q : Lk → Lk → Prop, (∃ a b, (S a b ∨ (a = x ∧ b = y)) ∧ a.t = b.f ∧ k = (a.f, b.t) ∧ Q a b) ↔ ∃ a b, S a b ∧ a.t = b.f ∧ k = (a.f, b.t) ∧ Q a b := fun Q =>
        ⟨fun ⟨a, b, h1, h2, h3, h4⟩ => by
          rcases h1 with h1 | ⟨rfl, rfl⟩
          · exact ⟨a, b, h1, h2, h3, h4⟩
          · exact absurd h3 hk, fun ⟨a, b, h1, h2, h3, h4⟩ => ⟨a, b, .inl h1, h2, h3, h4⟩⟩
      rw [e (fun a b => (a.s || b.s) = true)]
      have e2 := e (fun _ _ => True)
      simp only [and_true] at e2
      rw [e2]
  · rw [if_neg hf]
    exact h.weak fun a b hab => ⟨.inl, fun h1 => by
      rcases h1 with h1 | ⟨rfl, rfl⟩
      · exact h1
      · exact absurd hab hf⟩
end Go.Proofs.YtbleedclnkpbkaaGreatDoor
end
section
namespace Go.Proofs.YtbleedclnkpbkaaGreatDoor
theorem Tells.row (x : Lk) : ∀ (B : List Lk) {M : List KB} {S : Lk → Lk → Prop}, Tells M S → Tells (rowM B M x) fun a b => S a b ∨ (a = x ∧ b ∈ B)
  | [], M, S, h => h.weak fun a b _ => by simp
  | y :: B, M, S, h => by
    have := Tells.row x B (h.step x y)
    refine Tells.weak this fun a b _ => ?_
    simp only [List.mem_cons]
    constructor
    · rintro ((h1 | ⟨h1, h2⟩) | ⟨h1, h2⟩)
      · exact .inl h1
      · exact .inr ⟨h1, .inl h2⟩
      · exact .inr ⟨h1, .inr h2⟩
    · rintro (h1 | ⟨h1, h2 | h2⟩)
      · exact .inl (.inl h1)
      · exact .inl (.inr ⟨h1, h2⟩)
      · exact .inr ⟨h1, h2⟩
theorem Tells.all (B : List Lk) : ∀ (A : List Lk) {M : List KB} {S : Lk → Lk → Prop}, Tells M S → Tells (A.foldl (rowM B) M) fun a b => S a b ∨ (a ∈ A ∧ b ∈ B)
  | [], M, S, h => h.weak fun a b _ => by simp
  | x :: A, M, S, h => by
    have := Tells.all B A (h.row x B)
    refine Tells.weak this fun a b _ => ?_
    simp only [List.mem_cons]
    constructor
    · rintro ((h1 | ⟨h1, h2⟩) | ⟨h1, h2⟩)
      · exact .inl h1
      · exact .inr ⟨.inl h1, h2⟩
      · exact .inr ⟨.inr h1, h2⟩
    · rintro (h1 | ⟨h1 | h1, h2⟩)
      · exact .inl (.inl h1)
      · exact .inl (.inr ⟨h1, h2⟩)
      · exact .inr ⟨h1, h2⟩
theorem allM_tells (A B : List Lk) : Tells (allM A B) fun a b => a ∈ A ∧ b ∈ B :=
  (Tells.all B A Tells.start).weak fun a b _ => by simp
end Go.Proofs.YtbleedclnkpbkaaGreatDoor
end
section
namespace Go.Proofs.YtbleedclnkpbkaaGreatDoor
/-- L is the composition of A and B -/
def IsComp (A B L : List Lk) : Prop :=
  L.Pairwise keyLt ∧ ∀ x : Lk, x ∈ L ↔ (∃ a b, (a ∈ A ∧ b ∈ B) ∧ a.t = b.f ∧ (x.f, x.t) = (a.f, b.t)) ∧ (x.s = true ↔ ∃ a b, (a ∈ A ∧ b ∈ B) ∧ a.t = b.f ∧ (x.f, x.t) = (a.f, b.t) ∧ (a.s || b.s) = true)
theorem sorted_same : ∀ {L R : List Lk}, L.Pairwise keyLt → R.Pairwise keyLt → (∀ x, x ∈ L ↔ x ∈ R) → L = R
  | [], [], _, _, _ => rfl
  | [], r :: R, _, _, h => by have := (h r).2 (by simp); simp at this
  | l :: L, [], _, _, h => by have := (h l).1 (by simp); simp at this
  | l :: L, r :: R, hL, hR, h => by
    obtain ⟨l1, l2⟩ := List.pairwise_cons.1 hL
    obtain ⟨r1, r2⟩ := List.pairwise_cons.1 hR
    have e : l = r := by
      rcases List.mem_cons.1 ((h l).1 (by simp)) with e | e
      · exact e
      · rcases List.mem_cons.1 ((h r).2 (by simp)) with e' | e'
        · exact e'.symm
        · have a := r1 l e; have b := l1 r e'
          unfold keyLt at a b; omega
    subst e
    have irr : ∀ x : Lk, ¬ keyLt x x := fun x hx => by unfold keyLt at hx; omega
    rw [sorted_same l2 r2 fun x => ⟨fun hx => by
      rcases List.mem_cons.1 ((h x).1 (List.mem_cons_of_mem _ hx)) with e | e
      · subst e; exact absurd (l1 _ hx) (irr _)
      · exact e, fun hx => by
      rcases List.mem_cons.1 ((h x).2 (List.mem_cons_of_mem _ hx)) with e | e
      · subst e; exact absurd (r1 _ hx) (irr _)
      · exact e⟩]
end Go.Proofs.YtbleedclnkpbkaaGreatDoor
end
section
namespace Go.Proofs.YtbleedclnkpbkaaGreatDoor
theorem IsComp.has {A B X : List Lk} (h : IsComp A B X) {a b : Lk} (ha : a ∈ A) (hb : b ∈ B) (hm : a.t = b.f) : ∃ x ∈ X, x.f = a.f ∧ x.t = b.t ∧ ((a.s || b.s) = true → x.s = true) := by
  rcases Classical.em (∃ a' b', (a' ∈ A ∧ b' ∈ B) ∧ a'.t = b'.f ∧ ((a.f, b.t) : Int × Int) = (a'.f, b'.t) ∧ (a'.s || b'.s) = true) with hs | hs
  · refine ⟨⟨a.f, b.t, true⟩, (h.2 _).2 ⟨⟨a, b, ⟨ha, hb⟩, hm, rfl⟩, by simpa using hs⟩, rfl, rfl, fun _ => rfl⟩
  · refine ⟨⟨a.f, b.t, false⟩, (h.2 _).2 ⟨⟨a, b, ⟨ha, hb⟩, hm, rfl⟩, ⟨fun e => Bool.noConfusion e, fun e => absurd e hs⟩⟩, rfl, rfl, fun e => absurd ⟨a, b, ⟨ha, hb⟩, hm, rfl, e⟩ hs⟩
theorem IsComp.get {A B X : List Lk} (h : IsComp A B X) {x : Lk} (hx : x ∈ X) : ∃ a b, (a ∈ A ∧ b ∈ B) ∧ a.t = b.f ∧ x.f = a.f ∧ x.t = b.t := by
  obtain ⟨⟨a, b, h1, h2, h3⟩, _⟩ := (h.2 x).1 hx
  simp only [Prod.mk.injEq] at h3
  exact ⟨a, b, h1, h2, h3⟩
theorem IsComp.gets {A B X : List Lk} (h : IsComp A B X) {x : Lk} (hx : x ∈ X) (hs : x.s = true) : ∃ a b, (a ∈ A ∧ b ∈ B) ∧ a.t = b.f ∧ x.f = a.f ∧ x.t = b.t ∧ (a.s || b.s) = true := by
  obtain ⟨a, b, h1, h2, h3, h4⟩ := ((h.2 x).1 hx).2.1 hs
  simp only [Prod.mk.injEq] at h3
  exact ⟨a, b, h1, h2, h3.1, h3.2, h4⟩
/-- the paths of three -/
def Way (A B C : List Lk) (i j : Int) : Prop := ∃ a b c, a ∈ A ∧ b ∈ B ∧ c ∈ C ∧ a.t = b.f ∧ b.t = c.f ∧ i = a.f ∧ j = c.t
def WayS (A B C : List Lk) (i j : Int) : Prop := ∃ a b c, a ∈ A ∧ b ∈ B ∧ c ∈ C ∧ a.t = b.f ∧ b.t = c.f ∧ i = a.f ∧ j = c.t ∧ (a.s || b.s || c.s) = true
theorem comp_left {A B C X L : List Lk} (h1 : IsComp A B X) (h2 : IsComp X C L) (z : Lk) : z ∈ L ↔ Way A B C z.f z.t ∧ (z.s = true ↔ WayS A B C z.f z.t) := by
  have e1 : (∃ x c, (x ∈ X ∧ c ∈ C) ∧ x.t = c.f ∧ (z.f, z.t) = (x.f, c.t)) ↔ Way A B C z.f z.t := by
    constructor
    · rintro ⟨x, c, ⟨hx, hc⟩, hm, e⟩
      obtain ⟨a, b, ⟨ha, hb⟩, hab, ef, et⟩ := h1.get hx
      simp only [Prod.mk.injEq] at e
      exact ⟨a, b, c, ha, hb, hc, hab, by rw [← et, hm], by rw [e.1, ef], e.2⟩
    · rintro ⟨a, b, c, ha, hb, hc, hab, hbc, e1, e2⟩
      obtain ⟨x, hx, xf, xt, _⟩ := h1.has ha hb hab
      exact ⟨x, c, ⟨hx, hc⟩, by rw [xt, hbc], by rw [e1, e2, xf]⟩
  have e2 : (∃ x c, (x ∈ X ∧ c ∈ C) ∧ x.t = c.f ∧ (z.f, z.t) = (x.f, c.t) ∧ (x.s || c.s) = true) ↔ WayS A B C z.f z.t := by
    constructor
    · rintro ⟨x, c, ⟨hx, hc⟩, hm, e, hs⟩
      simp only [Prod.mk.injEq] at e
      cases hxs : x.s with
      | true =>
        obtain ⟨a, b, ⟨ha, hb⟩, hab, ef, et, hs2⟩ := h1.gets hx hxs
        exact ⟨a, b, c, ha, hb, hc, hab, by rw [← et, hm], by rw [e.1, ef], e.2, by rw [hs2]; rfl⟩
      | false =>
        obtain ⟨a, b, ⟨ha, hb⟩, hab, ef, et⟩ := h1.get hx
        rw [hxs, Bool.false_or] at hs
        exact ⟨a, b, c, ha, hb, hc, hab, by rw [← et, hm], by rw [e.1, ef], e.2, by rw [hs, Bool.or_true]⟩
    · rintro ⟨a, b, c, ha, hb, hc, hab, hbc, e1, e2, hs⟩
      obtain ⟨x, hx, xf, xt, xs⟩ := h1.has ha hb hab
      refine ⟨x, c, ⟨hx, hc⟩, by rw [xt, hbc], by rw [e1, e2, xf], ?_⟩
      rw [Bool.or_eq_true] at hs
      rcases hs with hs | hs
      · rw [xs hs]; rfl
      · rw [hs, Bool.or_true]
  rw [h2.2 z, e1, e2]
end Go.Proofs.YtbleedclnkpbkaaGreatDoor
end
section
namespace Go.Proofs.YtbleedclnkpbkaaGreatDoor
theorem comp_right {A B C Y R : List Lk} (h1 : IsComp B C Y) (h2 : IsComp A Y R) (z : Lk) : z ∈ R ↔ Way A B C z.f z.t ∧ (z.s = true ↔ WayS A B C z.f z.t) := by
  have e1 : (∃ a y, (a ∈ A ∧ y ∈ Y) ∧ a.t = y.f ∧ (z.f, z.t) = (a.f, y.t)) ↔ Way A B C z.f z.t := by
    constructor
    · rintro ⟨a, y, ⟨ha, hy⟩, hm, e⟩
      obtain ⟨b, c, ⟨hb, hc⟩, hbc, ef, et⟩ := h1.get hy
      simp only [Prod.mk.injEq] at e
      exact ⟨a, b, c, ha, hb, hc, by rw [hm, ef], hbc, e.1, by rw [e.2, et]⟩
    · rintro ⟨a, b, c, ha, hb, hc, hab, hbc, e1, e2⟩
      obtain ⟨y, hy, yf, yt, _⟩ := h1.has hb hc hbc
      exact ⟨a, y, ⟨ha, hy⟩, by rw [hab, yf], by rw [e1, e2, yt]⟩
  have e2 : (∃ a y, (a ∈ A ∧ y ∈ Y) ∧ a.t = y.f ∧ (z.f, z.t) = (a.f, y.t) ∧ (a.s || y.s) = true) ↔ WayS A B C z.f z.t := by
    constructor
    · rintro ⟨a, y, ⟨ha, hy⟩, hm, e, hs⟩
      simp only [Prod.mk.injEq] at e
      cases hys : y.s with
      | true =>
        obtain ⟨b, c, ⟨hb, hc⟩, hbc, ef, et, hs2⟩ := h1.gets hy hys
        exact ⟨a, b, c, ha, hb, hc, by rw [hm, ef], hbc, e.1, by rw [e.2, et], by rw [Bool.or_assoc, hs2, Bool.or_true]⟩
      | false =>
        obtain ⟨b, c, ⟨hb, hc⟩, hbc, ef, et⟩ := h1.get hy
        rw [hys, Bool.or_false] at hs
        exact ⟨a, b, c, ha, hb, hc, by rw [hm, ef], hbc, e.1, by rw [e.2, et], by rw [hs]; rfl⟩
    · rintro ⟨a, b, c, ha, hb, hc, hab, hbc, e1, e2, hs⟩
      obtain ⟨y, hy, yf, yt, ys⟩ := h1.has hb hc hbc
      refine ⟨a, y, ⟨ha, hy⟩, by rw [hab, yf], by rw [e1, e2, yt], ?_⟩
      rw [Bool.or_assoc, Bool.or_eq_true] at hs
      rcases hs with hs | hs
      · rw [hs]; rfl
      · rw [ys hs, Bool.or_true]
  rw [h2.2 z, e1, e2]
/-- THE PLAIN LAW: composition is associative -/
theorem comp_assoc {A B C X Y L R : List Lk} (h1 : IsComp A B X) (h2 : IsComp X C L) (h3 : IsComp B C Y) (h4 : IsComp A Y R) : L = R :=
  sorted_same h2.1 h4.1 fun z => (comp_left h1 h2 z).trans (comp_right h3 h4 z).symm
end Go.Proofs.YtbleedclnkpbkaaGreatDoor
end
