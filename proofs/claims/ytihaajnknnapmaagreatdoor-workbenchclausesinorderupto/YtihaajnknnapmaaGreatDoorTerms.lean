/-
  A part of the proof of the card of WorkbenchClausesInOrder (second form): lemmas that the text Card uses. No condition of its own.
-/
import Derived.Test.YtihaajnknnapmaaGreatDoorRefE
set_option linter.all false
set_option linter.unusedVariables false
set_option linter.unusedSimpArgs false
section
namespace Go.Proofs.YtihaajnknnapmaaGreatDoor
open Go.RowKit Go.Big
/-! terms -/
inductive Tm where
  | mk (k v : Int) (nm : ByteArray) (g : Bool) (num den : List Nat) (args : List Tm)
mutual
def TmV (n : Nat) (w : World) : Tm → List Value → Prop
  | .mk k v nm g num den args, vs => ∃ s1 s2 a c, vs = [.int .i64 k, .int .i64 v, .string nm, .bool g, s1, s2, .slice a args.length c] ∧ NumAt n w g s1 s2 num den ∧ TmsV n w args a 0 ∧ args.length ≤ 1048576 ∧ num.length ≤ 1048576 ∧ den.length ≤ 1048576
def TmsV (n : Nat) (w : World) : List Tm → Option Addr → Nat → Prop
  | [], _, _ => True
  | T :: r, a, i => (∃ b off vs, a = some ⟨b, off, none⟩ ∧ b < n ∧ (∀ (j : Nat) u, vs[j]? = some u → w.cell? ⟨b, off + i * 7 + j, none⟩ = some u) ∧ TmV n w T vs) ∧ TmsV n w r a (i + 1)
end
mutual
theorem TmV.below {n m : Nat} {w w' : World} (hb : Below m w w') (hm : n ≤ m) : ∀ (T : Tm) (vs : List Value), TmV n w T vs → TmV n w' T vs
  | .mk k v nm g num den args, vs, h => by
    simp only [TmV] at h ⊢
    obtain ⟨s1, s2, a, c, e, h1, h2, h3⟩ := h
    exact ⟨s1, s2, a, c, e, h1.below hb hm, TmsV.below hb hm args a 0 h2, h3⟩
theorem TmsV.below {n m : Nat} {w w' : World} (hb : Below m w w') (hm : n ≤ m) : ∀ (L : List Tm) (a : Option Addr) (i : Nat), TmsV n w L a i → TmsV n w' L a i
  | [], _, _, _ => by simp only [TmsV]
  | T :: r, a, i, h => by
    simp only [TmsV] at h ⊢
    obtain ⟨⟨b, off, vs, e, hbn, hc, hv⟩, hr⟩ := h
    exact ⟨⟨b, off, vs, e, hbn, fun j u hj => ((hb.mono hm).cell (p := ⟨b, off + i * 7 + j, none⟩) hbn).trans (hc j u hj), TmV.below hb hm T vs hv⟩, TmsV.below hb hm r a (i + 1) hr⟩
end
theorem TmsV.get {n : Nat} {w : World} {a : Option Addr} : ∀ {L : List Tm} {i k : Nat} {T : Tm}, TmsV n w L a i → L[k]? = some T → ∃ b off vs, a = some ⟨b, off, none⟩ ∧ b < n ∧ (∀ (j : Nat) u, vs[j]? = some u → w.cell? ⟨b, off + (i + k) * 7 + j, none⟩ = some u) ∧ TmV n w T vs
  | [], _, _, _, _, h => by simp at h
  | T0 :: r, i, 0, T, hs, h => by
    simp only [TmsV] at hs
    simp at h
    subst h
    simpa using hs.1
  | T0 :: r, i, k + 1, T, hs, h => by
    simp only [TmsV] at hs
    have := TmsV.get hs.2 (show r[k]? = some T by simpa using h)
    rw [show i + 1 + k = i + (k + 1) by omega] at this
    exact this
mutual
/-- the number of nodes -/
def Tm.nodes : Tm → Nat
  | .mk _ _ _ _ _ _ args => 1 + Tm.nodesL args
def Tm.nodesL : List Tm → Nat
  | [] => 0
  | T :: r => Tm.nodes T + Tm.nodesL r
end
theorem nodesL_app : ∀ (L M : List Tm), Tm.nodesL (L ++ M) = Tm.nodesL L + Tm.nodesL M
  | [], M => by simp [Tm.nodesL]
  | T :: r, M => by simp [Tm.nodesL, nodesL_app r M]; omega
theorem nodesL_take {L : List Tm} {i : Nat} {T : Tm} (h : L[i]? = some T) : Tm.nodesL (L.take (i + 1)) = Tm.nodesL (L.take i) + Tm.nodes T := by
  rw [List.take_add_one, h, nodesL_app]; simp [Tm.nodesL]
set_option maxRecDepth 100000 in
set_option maxHeartbeats 2000000 in
/-- sized -/
theorem sized_calls : ∀ (T : Tm) (n : Nat) (w : World) (vs : List Value) (k : Nat), TmV n w T vs → n ≤ w.heap.size → k < 1000000 →
    Calls Tryz.prog 16 #[.agg vs.toArray, .int .i64 k] w fun e w' => ∃ r : Nat, e = .returned (.int .i64 r) ∧ (r ≤ 1000000 ∧ Aside (r < 1000000 → r = k + T.nodes)) ∧ Below w.heap.size w w'
  | .mk kk v nm g num den args, n, w, vs, k, h, hn, hk => by
    have ih : ∀ T' ∈ args, ∀ (n : Nat) (w : World) (vs : List Value) (k : Nat), TmV n w T' vs → n ≤ w.heap.size → k < 1000000 →
        Calls Tryz.prog 16 #[.agg vs.toArray, .int .i64 k] w fun e w' => ∃ r : Nat, e = .returned (.int .i64 r) ∧ (r ≤ 1000000 ∧ Aside (r < 1000000 → r = k + T'.nodes)) ∧ Below w.heap.size w w' := fun T' hT' => sized_calls T'
    simp only [TmV] at h
    obtain ⟨s1, s2, a, c, rfl, h1, h2, hbig, _, _⟩ := h
    obtain ⟨len, hl⟩ : ∃ len, args.length = len := ⟨_, rfl⟩
    rw [hl] at hbig ⊢
    have hwk : IntKind.i64.wrap ((k : Int) + 1) = (k : Int) + 1 := by rw [IntKind.wrap_i64]; omega
    have Al : Aside (args.length = len) := hl
    have hbA := below_alloc w (Obj.cells #[.int .i64 kk, .int .i64 v, .string nm, .bool g, s1, s2, .slice a len c] 36)
    clear hl h1
    show Calls Tryz.prog 16 #[.agg #[.int .i64 kk, .int .i64 v, .string nm, .bool g, s1, s2, .slice a len c], .int .i64 k] w _
    go_enter Tryz.func16, Tryz.ntmps16
    go_wp2
    go_loopw [1, 12] (fun s1 s12 wr => ∃ (i r : Nat), s12 = .int .i64 i ∧ s1 = .int .i64 r ∧ i ≤ len ∧ r ≤ 1000000 ∧ Aside (r < 1000000 → r = k + 1 + Tm.nodesL (args.take i)) ∧ Below w.heap.size w wr) (fun _ s _ => len - (intOf s).toNat)
    case atStart => exact ⟨0, k + 1, rfl, by simp, Nat.zero_le _, by omega, (fun _ => by simp [Tm.nodesL]), hbA⟩
    case round =>
      obtain ⟨i, r, rfl, rfl, hi, hr, hex, hB⟩ := hrel
      by_cases hlt : i < len
      · obtain ⟨T', hT'⟩ : ∃ T', args[i]? = some T' := ⟨args[i]'(by rw [Al.out]; exact hlt), List.getElem?_eq_getElem _⟩
        obtain ⟨b, off, vs', rfl, hbn, hc, hv⟩ := h2.get hT'
        have hv2 := hv
        have hnx : Aside (∀ r3 : Nat, Aside (r3 < 1000000 → r3 = r + T'.nodes) → r < 1000000 → r3 < 1000000 → r3 = k + 1 + Tm.nodesL (args.take (i + 1))) := by
          show ∀ r3 : Nat, _
          intro r3 h3 h4 h5
          rw [nodesL_take hT', h3.out h5, hex.out h4]; omega
        match T', hv with
        | .mk k' v' nm' g' num' den' args', hv =>
          simp only [TmV] at hv
          obtain ⟨t1, t2, a', c', rfl, ⟨⟨p1, q1, rfl, _⟩, ⟨p2, q2, rfl, _⟩⟩, _⟩ := hv
          have hb2 : ∀ p : Addr, p.block < n → wr.cell? p = w.cell? p := fun p hp => (hB.mono hn).cell hp
          rw [Nat.zero_add] at hc
          have x0 := (hb2 ⟨b, off + i * 7 + 0, none⟩ hbn).trans (hc 0 _ rfl)
          have x1 := (hb2 ⟨b, off + i * 7 + 1, none⟩ hbn).trans (hc 1 _ rfl)
          have x2 := (hb2 ⟨b, off + i * 7 + 2, none⟩ hbn).trans (hc 2 _ rfl)
          have x3 := (hb2 ⟨b, off + i * 7 + 3, none⟩ hbn).trans (hc 3 _ rfl)
          have x4 := (hb2 ⟨b, off + i * 7 + 4, none⟩ hbn).trans (hc 4 _ rfl)
          have x5 := (hb2 ⟨b, off + i * 7 + 5, none⟩ hbn).trans (hc 5 _ rfl)
          have x6 := (hb2 ⟨b, off + i * 7 + 6, none⟩ hbn).trans (hc 6 _ rfl)
          rw [Nat.add_zero] at x0
          have hi1 : (i : Int) < (len : Int) := by omega
          have hi3 : (0 : Int) ≤ (i : Int) := by omega
          have hw3 : IntKind.i64.wrap ((i : Int) + 1) = (i : Int) + 1 := by rw [IntKind.wrap_i64]; omega
          have hB2 : Below w.heap.size w (wr.alloc (Obj.cells #[.int .i64 k', .int .i64 v', .string nm', .bool g', .slice p1 num'.length q1, .slice p2 den'.length q2, .slice a' args'.length c'] 36)) := hB.alloc hB.size _
          by_cases hr2 : r < 1000000
          · have hr3 : ¬ (1000000 : Int) ≤ (r : Int) := by omega
            have d1 := ih _ (List.mem_of_getElem? hT') n (wr.alloc (Obj.cells #[.int .i64 k', .int .i64 v', .string nm', .bool g', .slice p1 num'.length q1, .slice p2 den'.length q2, .slice a' args'.length c'] 36)) _ r (TmV.below hB2 hn _ _ hv2) (Nat.le_trans hn hB2.size) hr2
            replace d1 : Calls Tryz.prog 16 #[.agg #[.int .i64 k', .int .i64 v', .string nm', .bool g', .slice p1 num'.length q1, .slice p2 den'.length q2, .slice a' args'.length c'], .int .i64 r] _ _ := d1
            generalize args'.length = len' at *
            generalize num'.length = ln1 at *
            generalize den'.length = ln2 at *
            clear h2 ih hc hv2 hT' hb2
            go_wp2_with (go_at_call 16; with_reducible refine d1.mono ?_; rintro e w3 ⟨r3, rfl, ⟨hr4, hr5⟩, hb3⟩)
            go_roundw
            case rel => exact ⟨i + 1, r3, by simp, rfl, by omega, hr4, (fun h => hnx.out r3 hr5 hr2 h), hB2.trans (hb3.mono hB2.size)⟩
            case measure => simp [intOf]; omega
          · have hr3 : (1000000 : Int) ≤ (r : Int) := by omega
            generalize args'.length = len' at *
            generalize num'.length = ln1 at *
            generalize den'.length = ln2 at *
            clear h2 ih hc hv2 hT' hb2
            go_wp2
            go_ret
            exact ⟨1000000, rfl, ⟨Nat.le_refl _, fun h => absurd h (by decide)⟩, hB2⟩
      · obtain rfl : i = len := by omega
        clear h2 ih
        go_wp2
        go_ret
        exact ⟨r, rfl, ⟨hr, fun h => by rw [hex.out h, ← Al.out, List.take_length, Tm.nodes]; omega⟩, hB⟩
termination_by T => SizeOf.sizeOf T
decreasing_by
  simp_wf
  have := List.sizeOf_lt_of_mem hT'
  omega
set_option maxRecDepth 100000 in
set_option maxHeartbeats 1000000 in
/-- Size -/
theorem size_calls (T : Tm) (n : Nat) (w : World) (vs : List Value) (h : TmV n w T vs) (hn : n ≤ w.heap.size) :
    Calls Tryz.prog 9 #[.agg vs.toArray] w fun e w' => ∃ r : Nat, e = .returned (.int .i64 r) ∧ (r ≤ 1000000 ∧ Aside (r < 1000000 → r = T.nodes)) ∧ Below w.heap.size w w' := by
  match T, h with
  | .mk kk v nm g num den args, h =>
    have h0 := h
    simp only [TmV] at h
    obtain ⟨s1, s2, a, c, rfl, ⟨⟨p1, q1, rfl, _⟩, ⟨p2, q2, rfl, _⟩⟩, _⟩ := h
    have hB := below_alloc w (Obj.cells #[.int .i64 kk, .int .i64 v, .string nm, .bool g, .slice p1 num.length q1, .slice p2 den.length q2, .slice a args.length c] 36)
    have d1 := sized_calls _ n (w.alloc (Obj.cells #[.int .i64 kk, .int .i64 v, .string nm, .bool g, .slice p1 num.length q1, .slice p2 den.length q2, .slice a args.length c] 36)) _ 0 (TmV.below hB hn _ _ h0) (Nat.le_trans hn hB.size) (by omega)
    replace d1 : Calls Tryz.prog 16 #[.agg #[.int .i64 kk, .int .i64 v, .string nm, .bool g, .slice p1 num.length q1, .slice p2 den.length q2, .slice a args.length c], .int .i64 0] _ _ := d1
    clear h0
    generalize args.length = l0 at *
    generalize num.length = l1 at *
    generalize den.length = l2 at *
    show Calls Tryz.prog 9 #[.agg #[.int .i64 kk, .int .i64 v, .string nm, .bool g, .slice p1 l1 q1, .slice p2 l2 q2, .slice a l0 c]] w _
    go_enter Tryz.func9, Tryz.ntmps9
    go_wp2_with (go_at_call 16; with_reducible refine d1.mono ?_; rintro e w3 ⟨r3, rfl, hr4, hb3⟩)
    go_ret
    exact ⟨r3, rfl, ⟨hr4.1, fun h => by have := hr4.2.out h; rwa [Nat.zero_add] at this⟩, hB.trans (hb3.mono hB.size)⟩
end Go.Proofs.YtihaajnknnapmaaGreatDoor
end
