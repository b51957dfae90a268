/-
  A part of the proof of the card of WorkClosureMatchesSpec (second form): lemmas that the text Card uses. No condition of its own.
-/
import Derived.Test.YtbleedclnkpbkaaGreatDoorLinksB
import Derived.Test.YtbleedclnkpbkaaGreatDoorLay
import Derived.Test.YtbleedclnkpbkaaGreatDoorMid
import Derived.Shelf.SlSortCmp.WholeK
import Derived.Shelf.SlSortCmp.NoneTotal
set_option linter.all false
set_option linter.unusedVariables false
set_option linter.unusedSimpArgs false
section
namespace Go.Proofs
open Go.Shelf Go.RowKit Go.Lib Go.Sort
namespace YtbleedclnkpbkaaGreatDoor
theorem cmpLays (blk off size : Nat) (w : World) : CmpLays Tryz.prog 38 #[] Lk.cells 3 cmpL blk off size w :=
  fun _ _ _ _ x y => compareLinks_calls x.f x.t y.f y.t x.s y.s _
/-- slices.SortFunc(links, compareLinks) -/
theorem sort_calls (blk off cap : Nat) (d : Array Lk) (w : World) (hH : HoldsK Lk.cells 3 w blk off d) (hblk : blk < w.heap.size) (hsz : d.size < 4611686018427387904) :
    Calls Tryz.prog 37 #[.slice (some ⟨blk, off, none⟩) d.size cap, .func (.func 38) #[] #[]] w fun e w' => e = .returned (.tuple #[]) ∧ ∃ d' n os, PermIn 0 d.size d d' ∧ SortedIn (ltOf cmpL) 0 d.size d' ∧ w' = sortWorldK Lk.cells 3 w blk off n d' os :=
  AnyQ.slices_SortFunc Tryz.sortL 3 Tryz.isAgg38 Tryz.sizeOf38 Lk.cells (fun _ => rfl) (fun x v hv => by simp [Lk.cells] at hv; rcases hv with rfl | rfl | rfl <;> rfl) cmpL swoL 38 #[] blk off cap d w (enters_of Tryz.func38 (by kernel_rfl) rfl) (cmpLays blk off d.size w) hH hblk hsz
end YtbleedclnkpbkaaGreatDoor
end Go.Proofs
end
section
namespace Go.Proofs.YtbleedclnkpbkaaGreatDoor
open Go.RowKit Go.Sort
theorem sort_none (p : Option Addr) (cap : Nat) (fv : Value) (w : World) : Calls Tryz.prog 37 #[.slice p 0 cap, fv] w fun e w' => e = .returned (.tuple #[]) ∧ w' = w :=
  AnyF.slices_SortFunc_none Tryz.sortL p cap fv w
theorem Gat.sorts {n0 g : Nat} {f1 t2 : Int} {wb wr : World} {A B : List Lk} {M D : List KB} {sv : Value} (h : Gat n0 g f1 t2 wb wr M D D sv) (hT : Tells M fun a b => a ∈ A ∧ b ∈ B) (hn : (M.map (·.1)).Nodup) (hsub : ∀ p ∈ D, p ∈ M) (hall : ∀ p ∈ M, p ∈ D) (hnd : (D.map (·.1)).Nodup) (hlen : D.length < 4611686018427387904) :
    Calls Tryz.prog 37 #[sv, .func (.func 38) #[] #[]] wr fun e w' => e = .returned (.tuple #[]) ∧ ∃ L, LinksAt w'.heap.size w' sv L ∧ IsComp A B L ∧ Below (g + 2) wr w' := by
  by_cases hD : D = []
  · subst hD
    obtain ⟨p, cap, rfl⟩ := owns_none h.own
    refine (sort_none p cap _ wr).mono ?_
    rintro e w' ⟨rfl, rfl⟩
    refine ⟨rfl, [], ⟨p, cap, rfl, by simp, fun h => absurd rfl h⟩, ?_, Below.refl _ _⟩
    exact isComp_sorted (d' := #[]) hT hn hsub hall hnd (by simp) (by simp)
  · have hne : D.map lkOf ≠ [] := by simpa using hD
    have ho := h.own
    have hl : (D.map lkOf).length = D.length := List.length_map _
    rw [← hl] at ho hlen
    obtain ⟨blk, cap, rfl, hb, hlt, hm, hH⟩ := holds_of_owns ho hne
    have hs := sort_calls blk 0 cap (D.map lkOf).toArray wr hH hlt (by simpa using hlen)
    rw [List.size_toArray] at hs
    refine hs.mono ?_
    rintro e w' ⟨rfl, d', n, os, hp, hso, rfl⟩
    have hsz : d'.size = (D.map lkOf).length := by have := hp.1; simpa using this
    refine ⟨rfl, d'.toList, links_sorted hH hlt hsz hlen, ?_, sortWorld_below hb hlt⟩
    refine isComp_sorted hT hn hsub hall hnd ?_ fun i j hij hj => ?_
    · have h3 := hp.2.2
      rw [← hsz, Array.extract_size] at h3
      have e2 : ((D.map lkOf).toArray.extract 0 d'.size).toList = D.map lkOf := by
        rw [hsz, ← List.size_toArray, Array.extract_size]
      rw [e2] at h3
      exact h3
    · exact (ltOf_cmpL_no _ _).1 (hso i j (Nat.zero_le _) hij (by omega))
end Go.Proofs.YtbleedclnkpbkaaGreatDoor
end
