/-
  A part of the proof of the card of WorkClosureMatchesSpec (second form): lemmas that the text Card uses. No condition of its own.
-/
import Derived.Test.YtbleedclnkpbkaaGreatDoorProg
import Derived.WalkKit
import Derived.LoopTactic
import Derived.Below
import Derived.Sort.Grow
import Derived.Deep.QuietTactic
import Derived.StillTailTactics
import Derived.BigQuiet
import Derived.Lib.LaidTab
set_option linter.all false
set_option linter.unusedVariables false
set_option linter.unusedSimpArgs false
section
namespace Go.Proofs.YtbleedclnkpbkaaGreatDoor
open Go.RowKit
/-- cmp.Compare's answer at two ints -/
def cmpZ (x y : Int) : Int := if x < y then -1 else if y < x then 1 else 0
theorem isNaN_calls (x : Int) (w : World) : Calls Tryz.prog 65 #[.int .i64 x] w fun e w' => e = .returned (.bool false) ∧ w' = w := by
  go_enter Tryz.func65, Tryz.ntmps65
  go_wp2
  all_goals go_ret
  all_goals exact ⟨by simp, rfl⟩
theorem compare_calls (x y : Int) (w : World) : Calls Tryz.prog 29 #[.int .i64 x, .int .i64 y] w fun e w' => e = .returned (.int .i64 (cmpZ x y)) ∧ w' = w := by
  go_enter Tryz.func29, Tryz.ntmps29
  go_wp2_with (go_at_call 65; refine (isNaN_calls _ _).mono ?_; rintro e w' ⟨rfl, rfl⟩)
  all_goals go_ret
  all_goals refine ⟨?_, rfl⟩
  all_goals unfold cmpZ
  all_goals (repeat' split)
  all_goals first | rfl | omega | skip
/-- a bool as a number -/
def bitZ (b : Bool) : Int := if b then 1 else 0
theorem bit_calls (b : Bool) (w : World) : Calls Tryz.prog 71 #[.bool b] w fun e w' => e = .returned (.int .i64 (bitZ b)) ∧ w' = w := by
  cases b
  all_goals go_enter Tryz.func71, Tryz.ntmps71
  all_goals go_wp2
  all_goals go_ret
  all_goals exact ⟨rfl, rfl⟩
end Go.Proofs.YtbleedclnkpbkaaGreatDoor
end
section
namespace Go.Proofs.YtbleedclnkpbkaaGreatDoor
open Go.RowKit
/-- cmp.Or: the first that is not zero -/
def orZ : List Int → Int
  | [] => 0
  | z :: r => if z = 0 then orZ r else z
theorem orZ_skip : ∀ (zs : List Int) (k : Nat), (∀ j, j < k → zs[j]?.getD 0 = 0) → orZ zs = orZ (zs.drop k)
  | zs, 0, _ => by simp
  | [], k + 1, _ => by simp
  | z :: r, k + 1, h => by
    have h0 : z = 0 := by simpa using h 0 (by omega)
    simp only [orZ, h0, if_true, List.drop_succ_cons]
    exact orZ_skip r k (fun j hj => by have := h (j + 1) (by omega); simpa using this)
theorem orZ_at (zs : List Int) (k : Nat) (hk : k < zs.length) (h : ∀ j, j < k → zs[j]?.getD 0 = 0) (hz : zs[k]?.getD 0 ≠ 0) : orZ zs = zs[k]?.getD 0 := by
  rw [orZ_skip zs k h, List.drop_eq_getElem_cons hk]
  have e : zs[k]?.getD 0 = zs[k] := by simp [hk]
  rw [e] at hz ⊢
  simp [orZ, hz]
theorem orZ_none (zs : List Int) (h : ∀ j, j < zs.length → zs[j]?.getD 0 = 0) : orZ zs = 0 := by
  rw [orZ_skip zs zs.length h]; simp [orZ]
set_option maxRecDepth 100000 in
theorem or_calls (b cap : Nat) (zs : List Int) (w : World) (hlen : zs.length ≤ 1000) (hc : ∀ j, j < zs.length → w.cell? ⟨b, j, none⟩ = some (.int .i64 (zs[j]?.getD 0))) :
    Calls Tryz.prog 28 #[.slice (some ⟨b, 0, none⟩) zs.length cap] w fun e w' => e = .returned (.int .i64 (orZ zs)) ∧ w' = w := by
  generalize hL : zs.length = len at hc hlen ⊢
  go_enter Tryz.func28, Tryz.ntmps28
  go_wp2
  go_loopw [8] (fun i wr => ∃ k : Nat, k ≤ len ∧ i = .int .i64 k ∧ wr = w ∧ ∀ j, j < k → zs[j]?.getD 0 = 0) (fun i _ => len - (intOf i).toNat)
  case atStart => exact ⟨0, Nat.zero_le _, rfl, rfl, fun j hj => absurd hj (by omega)⟩
  case round =>
    obtain ⟨k, hk, rfl, rfl, hz⟩ := hrel
    by_cases hlt : k < len
    · have hcx := hc k hlt
      generalize hzk : zs[k]?.getD 0 = z at hcx
      clear hc
      go_wp2
      · have hne : z ≠ 0 := by simpa using (by assumption : (z != 0) = true)
        have hor := orZ_at zs k (by omega) hz (by rw [hzk]; exact hne)
        refine bodyPost_ret (results_tmp rfl _ _ _) rfl ?_
        exact ⟨by rw [hor, hzk]; rfl, rfl⟩
      · have h0 : z = 0 := by simpa using (by assumption : (z != 0) = false)
        go_roundw
        case rel => exact ⟨k + 1, by omega, by simp, by trivial, fun j hj => by
          rcases Nat.lt_succ_iff_lt_or_eq.1 hj with h | h
          · exact hz j h
          · rw [h, hzk, h0]⟩
        case measure => simp [intOf]; omega
    · obtain rfl : k = len := by omega
      have hor := orZ_none zs (by rw [hL]; exact hz)
      go_wp2
      go_ret
      exact ⟨by rw [hor]; rfl, rfl⟩
end Go.Proofs.YtbleedclnkpbkaaGreatDoor
end
section
namespace Go.Proofs.YtbleedclnkpbkaaGreatDoor
open Go.RowKit Go.Sort
structure Lk where
  f : Int
  t : Int
  s : Bool
  deriving Inhabited, DecidableEq
def Lk.cells (x : Lk) : List Value := [.int .i64 x.f, .int .i64 x.t, .bool x.s]
/-- compareLinks' answer -/
def cmpL (x y : Lk) : Int := orZ [cmpZ x.f y.f, cmpZ x.t y.t, cmpZ (bitZ x.s) (bitZ y.s)]
theorem or3_calls (b cap : Nat) (x y z : Int) (w : World) (h0 : w.cell? ⟨b, 0, none⟩ = some (.int .i64 x)) (h1 : w.cell? ⟨b, 1, none⟩ = some (.int .i64 y)) (h2 : w.cell? ⟨b, 2, none⟩ = some (.int .i64 z)) :
    Calls Tryz.prog 28 #[.slice (some ⟨b, 0, none⟩) 3 cap] w fun e w' => e = .returned (.int .i64 (orZ [x, y, z])) ∧ w' = w :=
  or_calls b cap [x, y, z] w (by simp) fun j hj => by
    match j, hj with
    | 0, _ => exact h0
    | 1, _ => exact h1
    | 2, _ => exact h2
    | n + 3, hj => exact absurd hj (by simp)
theorem or2_calls (b cap : Nat) (x y : Int) (w : World) (h0 : w.cell? ⟨b, 0, none⟩ = some (.int .i64 x)) (h1 : w.cell? ⟨b, 1, none⟩ = some (.int .i64 y)) :
    Calls Tryz.prog 28 #[.slice (some ⟨b, 0, none⟩) 2 cap] w fun e w' => e = .returned (.int .i64 (orZ [x, y])) ∧ w' = w :=
  or_calls b cap [x, y] w (by simp) fun j hj => by
    match j, hj with
    | 0, _ => exact h0
    | 1, _ => exact h1
    | n + 2, hj => exact absurd hj (by simp)
set_option maxRecDepth 100000 in
set_option maxHeartbeats 2000000 in
theorem compareLinks_calls (f1 t1 f2 t2 : Int) (s1 s2 : Bool) (w : World) :
    Calls Tryz.prog 38 #[.agg #[.int .i64 f1, .int .i64 t1, .bool s1], .agg #[.int .i64 f2, .int .i64 t2, .bool s2]] w fun e w' => e = .returned (.int .i64 (cmpL ⟨f1, t1, s1⟩ ⟨f2, t2, s2⟩)) ∧ ∃ q os', w' = grow (w.drewN q) os' := by
  go_enter Tryz.func38, Tryz.ntmps38
  go_wp2
  refine wp_region_still_tail 19 (by kernel_rfl) (by kernel_rfl) ?_
  simp only [List.take_succ_cons, List.take_zero, List.drop_succ_cons, List.drop_zero, World.drew_eq]
  repeat (first | still_step | still_call (compare_calls _ _ _) | still_call (bit_calls _ _))
  refine wpStill_nil ?_
  show wpList _ _ _ _ _ _
  go_wp2_with (go_at_call 28; refine (or3_calls _ _ (cmpZ f1 f2) (cmpZ t1 t2) (cmpZ (bitZ s1) (bitZ s2)) _ (by go_simp) (by go_simp) (by go_simp)).mono ?_; rintro e w' ⟨rfl, rfl⟩)
  go_ret
  exact ⟨rfl, 1, _, by rw [alloc_eq_grow, alloc_eq_grow, alloc_eq_grow, grow_grow, grow_grow]; rfl⟩
end Go.Proofs.YtbleedclnkpbkaaGreatDoor
end
section
namespace Go.Proofs.YtbleedclnkpbkaaGreatDoor
open Go.RowKit Go.Sort
/-- WHERE A LIST OF LINKS LIES: a slice value, and its cells (in blocks below n) -/
def LinksAt (n : Nat) (w : World) (sv : Value) (L : List Lk) : Prop :=
  ∃ a cap, sv = .slice a L.length cap ∧ L.length < 4611686018427387904 ∧ (L ≠ [] → ∃ b off, a = some ⟨b, off, none⟩ ∧ b < n ∧ ∀ j x, L[j]? = some x →
    w.cell? ⟨b, off + j * 3, none⟩ = some (.int .i64 x.f) ∧ w.cell? ⟨b, off + j * 3 + 1, none⟩ = some (.int .i64 x.t) ∧ w.cell? ⟨b, off + j * 3 + 2, none⟩ = some (.bool x.s))
theorem LinksAt.below {n : Nat} {w w' : World} {sv : Value} {L : List Lk} (h : LinksAt n w sv L) (hb : Below n w w') : LinksAt n w' sv L := by
  obtain ⟨a, cap, e, h1, h2⟩ := h
  refine ⟨a, cap, e, h1, fun hne => ?_⟩
  obtain ⟨b, off, e2, hb2, hc⟩ := h2 hne
  exact ⟨b, off, e2, hb2, fun j x hx => ⟨(hb.cell (p := ⟨b, off + j * 3, none⟩) hb2).trans (hc j x hx).1, (hb.cell (p := ⟨b, off + j * 3 + 1, none⟩) hb2).trans (hc j x hx).2.1, (hb.cell (p := ⟨b, off + j * 3 + 2, none⟩) hb2).trans (hc j x hx).2.2⟩⟩
theorem LinksAt.get {n : Nat} {w : World} {a : Option Addr} {len cap : Nat} {L : List Lk} {k : Nat} {x : Lk} (h : LinksAt n w (.slice a len cap) L) (hx : L[k]? = some x) :
    ∃ b off, a = some ⟨b, off, none⟩ ∧ b < n ∧ w.cell? ⟨b, off + k * 3, none⟩ = some (.int .i64 x.f) ∧ w.cell? ⟨b, off + k * 3 + 1, none⟩ = some (.int .i64 x.t) ∧ w.cell? ⟨b, off + k * 3 + 2, none⟩ = some (.bool x.s) := by
  obtain ⟨a', cap', e, _, h⟩ := h
  have hne : L ≠ [] := by intro e; rw [e] at hx; cases hx
  obtain ⟨b, off, rfl, hb, hc⟩ := h hne
  cases e
  exact ⟨b, off, rfl, hb, hc k x hx⟩
theorem below_alloc (w : World) (o : Obj) : Below w.heap.size w (w.alloc o) := (Below.refl _ _).alloc (Nat.le_refl _) o
theorem below_alloc2 (w : World) (o o' : Obj) : Below w.heap.size w ((w.alloc o).alloc o') := (below_alloc w o).alloc (by simp) o'
set_option maxRecDepth 100000 in
set_option maxHeartbeats 2000000 in
/-- linkOrder at one link -/
theorem linkOrder_same (f t : Int) (s : Bool) (w : World) :
    Calls Tryz.prog 26 #[.agg #[.int .i64 f, .int .i64 t, .bool s], .agg #[.int .i64 f, .int .i64 t, .bool s]] w fun e w' => e = .returned (.int .i64 0) ∧ Below w.heap.size w w' := by
  go_enter Tryz.func26, Tryz.ntmps26
  go_wp2
  go_ret
  exact ⟨rfl, below_alloc2 _ _ _⟩
set_option maxRecDepth 100000 in
set_option maxHeartbeats 2000000 in
/-- GraphOrder at two graphs of the same links -/
theorem graphOrder_same (f t : Int) (a1 a2 : Option Addr) (cap1 cap2 len n : Nat) (L : List Lk) (hlen : L.length = len) (w : World) (hn : n ≤ w.heap.size) (h1 : LinksAt n w (.slice a1 len cap1) L) (h2 : LinksAt n w (.slice a2 len cap2) L) :
    Calls Tryz.prog 10 #[.agg #[.int .i64 f, .int .i64 t, .slice a1 len cap1], .agg #[.int .i64 f, .int .i64 t, .slice a2 len cap2]] w fun e w' => e = .returned (.int .i64 0) ∧ Below w.heap.size w w' := by
  have hbig : len < 4611686018427387904 := by obtain ⟨_, _, _, h, _⟩ := h1; omega
  go_enter Tryz.func10, Tryz.ntmps10
  go_wp2
  obtain ⟨wb, hwb⟩ : ∃ wb, (w.alloc (Obj.cells #[.int .i64 f, .int .i64 t, .slice a1 len cap1] 25)).alloc (Obj.cells #[.int .i64 f, .int .i64 t, .slice a2 len cap2] 25) = wb := ⟨_, rfl⟩
  have b0 : Below w.heap.size w wb := by rw [← hwb]; exact below_alloc2 _ _ _
  have hsz : wb.heap.size = w.heap.size + 2 := by rw [← hwb]; simp
  have c1 : wb.cell? ⟨w.heap.size, 2, none⟩ = some (.slice a1 len cap1) := by rw [← hwb]; clear hwb; go_simp
  have c2 : wb.cell? ⟨w.heap.size + 1, 2, none⟩ = some (.slice a2 len cap2) := by rw [← hwb]; clear hwb; go_simp
  rw [hwb]
  go_loopw [5] (fun i wr => ∃ k : Nat, k ≤ len ∧ i = .int .i64 k ∧ Below (w.heap.size + 2) wb wr) (fun i _ => len - (intOf i).toNat)
  case atStart => exact ⟨0, Nat.zero_le _, rfl, Below.refl _ _⟩
  case round =>
    obtain ⟨k, hk, rfl, hB⟩ := hrel
    have d1 : wr.cell? ⟨w.heap.size, 2, none⟩ = some (.slice a1 len cap1) := (hB.cell (p := ⟨w.heap.size, 2, none⟩) (by show w.heap.size < _; omega)).trans c1
    have d2 : wr.cell? ⟨w.heap.size + 1, 2, none⟩ = some (.slice a2 len cap2) := (hB.cell (p := ⟨w.heap.size + 1, 2, none⟩) (by show w.heap.size + 1 < _; omega)).trans c2
    have bw : Below w.heap.size w wr := b0.trans (hB.mono (by omega))
    have g1 := h1.below (bw.mono hn)
    have g2 := h2.below (bw.mono hn)
    by_cases hlt : k < len
    · go_wp2
      obtain ⟨x, hx⟩ : ∃ x, L[k]? = some x := ⟨L[k], List.getElem?_eq_getElem (by omega)⟩
      have hne : L ≠ [] := by intro e; rw [e] at hx; cases hx
      obtain ⟨b1, o1, rfl, hb1, p1, p2, p3⟩ := g1.get hx
      obtain ⟨b2, o2, rfl, hb2, q1, q2, q3⟩ := g2.get hx
      clear g1 g2 h1 h2
      refine wp_region_still_tail 10 (by kernel_rfl) (by kernel_rfl) ?_
      simp only [List.take_succ_cons, List.take_zero, List.drop_succ_cons, List.drop_zero, World.drew_eq]
      repeat still_step
      refine wpStill_nil ?_
      show wpList _ _ _ _ _ _
      go_wp2_with (go_at_call 26; refine (linkOrder_same _ _ _ _).mono ?_; rintro e w' ⟨rfl, hb⟩)
      have hb' : Below wr.heap.size wr w' := ⟨hb.os, hb.tape, hb.output, hb.size, hb.block⟩
      have hs := hB.size
      go_roundw
      case rel => exact ⟨k + 1, by omega, by simp, hB.trans (hb'.mono (by omega))⟩
      case measure => simp [intOf]; omega
    · obtain rfl : k = len := by omega
      go_wp2
      go_ret
      exact ⟨rfl, bw⟩
end Go.Proofs.YtbleedclnkpbkaaGreatDoor
end
