/-
  A part of the proof of the card of WorkbenchClausesInOrder (second form): lemmas that the text Card uses. No condition of its own.
-/
import Derived.Test.YtihaajnknnapmaaGreatDoorClauses
import Derived.Test.YtihaajnknnapmaaGreatDoorShape
set_option linter.all false
set_option linter.unusedVariables false
set_option linter.unusedSimpArgs false
section
namespace Go.Heavy
open Go
/-- an operation that is not wanted, where a plan has it for a heavy one -/
theorem one_skip {P : Program} {ops : Array Oper} {C : World → Prop} {i : Nat} {p : Plan} {Q : Act → World → Prop} {o : Oper} {a : Act} {w : World} (h0 : ops[i]? = some o) (hg : Region.wanted o (yielded ops a.tmps) = false) (hC : C w) (hK : runP P ops C Q p (a.put o.dst undef) w) : runP P ops C Q (.one i p) a w :=
  ⟨o, h0, .inr ⟨hg, hC, hK⟩⟩
end Go.Heavy
namespace Go.Proofs.YtihaajnknnapmaaGreatDoor
open Go.RowKit Go.Big
attribute [local go_sem] Heavy.uponW
/-- the row of clauses, read -/
theorem OutI.read {base : Nat} {w : World} {v : Value} {L : List Cl} (h : OutI base w v L) : ∃ a cap, v = .slice a L.length cap ∧ ClsV w.heap.size w L a := by
  obtain ⟨X, hX, hXe⟩ := h
  have hX0 := hX
  obtain ⟨h1, ⟨e, h0⟩ | ⟨g, cap, cur, e1, hb, hg, hnc, hm, hs, ht⟩⟩ := hX
  · refine ⟨none, 0, by rw [e, h0], fun k C hk => ?_⟩
    have := (List.getElem?_eq_some_iff.1 hk).1; omega
  · refine ⟨some ⟨g, 0, none⟩, cap, e1, fun k C hk => ?_⟩
    obtain ⟨vh, vb, l1, l2, h3, h4, h5⟩ := hXe k C hk
    refine ⟨g, 0, vh, vb, rfl, (Array.getElem?_eq_some_iff.1 hg).1, fun j u hj => ?_, TmS.toV (fun b hb => hb.2.1) _ _ h4, TmS.toV (fun b hb => hb.2.1) _ _ h5⟩
    have := hX0.cells (g := g) (by rw [e1]; rfl) (k * 15 + j) u (h3 j u hj)
    rw [Addr.add_lit] at this
    rw [show 0 + k * 15 + j = 0 + (k * 15 + j) by omega]
    exact this
theorem box4_at {w : World} {g : Nat} {v0 v1 v2 v3 : Value} {e : TypeId} {fr : Nat × Nat} (h : w.heap[g]? = some (.cells #[v0, v1, v2, v3] e fr)) : w.cell? ⟨g, 2, none⟩ = some v2 := by simp [World.cell?, h]
theorem at15 {w : World} {g o : Nat} {v0 v1 v2 v3 v4 v5 v6 v7 v8 v9 v10 v11 v12 v13 v14 : Value} (h : ∀ (m : Nat) u, [v0, v1, v2, v3, v4, v5, v6, v7, v8, v9, v10, v11, v12, v13, v14][m]? = some u → w.cell? ⟨g, o + m, none⟩ = some u) :
    w.cell? ⟨g, o, none⟩ = some v0 ∧ w.cell? ⟨g, o + 1, none⟩ = some v1 ∧ w.cell? ⟨g, o + 2, none⟩ = some v2 ∧ w.cell? ⟨g, o + 3, none⟩ = some v3 ∧ w.cell? ⟨g, o + 4, none⟩ = some v4 ∧ w.cell? ⟨g, o + 5, none⟩ = some v5 ∧ w.cell? ⟨g, o + 6, none⟩ = some v6 ∧ w.cell? ⟨g, o + 7, none⟩ = some v7 ∧ w.cell? ⟨g, o + 8, none⟩ = some v8 ∧ w.cell? ⟨g, o + 9, none⟩ = some v9 ∧ w.cell? ⟨g, o + 10, none⟩ = some v10 ∧ w.cell? ⟨g, o + 11, none⟩ = some v11 ∧ w.cell? ⟨g, o + 12, none⟩ = some v12 ∧ w.cell? ⟨g, o + 13, none⟩ = some v13 ∧ w.cell? ⟨g, o + 14, none⟩ = some v14 :=
  ⟨h 0 _ rfl, h 1 _ rfl, h 2 _ rfl, h 3 _ rfl, h 4 _ rfl, h 5 _ rfl, h 6 _ rfl, h 7 _ rfl, h 8 _ rfl, h 9 _ rfl, h 10 _ rfl, h 11 _ rfl, h 12 _ rfl, h 13 _ rfl, h 14 _ rfl⟩
set_option maxRecDepth 100000 in
set_option maxHeartbeats 4000000 in
/-- THE LAW, from divided()'s contract -/
theorem law_calls (P : List Pd) (n : Nat) (w : World) (x0 x1 x3 : Value) (ap : Option Addr) (cp : Nat) (hn : n ≤ w.heap.size) (hP : PdsV n w P ap) (hlenP : P.length ≤ 1048576) (htot : (allCls P).length ≤ 1048576)
    (hdiv : ∀ w', Below w.heap.size w w' → Calls Tryz.prog 7 #[] w' fun e w'' => e = .returned (.bool true) ∧ Below w'.heap.size w' w'') :
    Calls Tryz.prog 3 #[.agg #[x0, x1, .slice ap P.length cp, x3]] w fun e w' => e = .returned (.bool true) ∧ Below w.heap.size w w' := by
  have d1 := fun w' (hb : Below w.heap.size w w') => clauses_calls P n w' x0 x1 x3 ap cp (Nat.le_trans hn hb.size) (hP.below hb hn) hlenP htot
  obtain ⟨len, hl⟩ : ∃ len, P.length = len := ⟨_, rfl⟩
  rw [hl] at hlenP ⊢
  simp only [hl] at d1
  have Al : Aside (P.length = len ∧ (allCls P).length ≤ 1048576) := ⟨hl, htot⟩
  have hB0 := below_alloc w (Obj.cells #[x0, x1, .slice ap len cp, x3] 27)
  have hq0 := heap_alloc_new w (Obj.cells #[x0, x1, .slice ap len cp, x3] 27)
  have hz0 : Aside ((w.alloc (Obj.cells #[x0, x1, .slice ap len cp, x3] 27)).heap.size = w.heap.size + 1) := by show _ = _; simp
  clear hl htot
  go_enter Tryz.func3, Tryz.ntmps3
  go_wp2_with (go_at_call 4; with_reducible refine (d1 _ hB0).mono ?_; rintro e w1 ⟨v1, rfl, hO1, hb1⟩; obtain ⟨al, capl, rfl, hR1⟩ := hO1.read; have y2 : w1.cell? ⟨w.heap.size, 2, none⟩ = some (.slice ap len cp) := (hb1.cell (p := ⟨w.heap.size, 2, none⟩) (by have := hz0.out; show w.heap.size < _; omega)).trans (box4_at hq0))
  have hz1 : Aside (w.heap.size + 1 ≤ w1.heap.size) := by have := hz0.out; have := hb1.size; show _ ≤ _; omega
  have hB1 : Below w.heap.size w w1 := hB0.trans (hb1.mono (by have := hz0.out; omega))
  obtain ⟨LL, hLL⟩ : ∃ LL, allCls P = LL := ⟨_, rfl⟩
  obtain ⟨ll, hll⟩ : ∃ ll, LL.length = ll := ⟨_, rfl⟩
  have Bl : Aside (allCls P = LL ∧ LL.length = ll) := ⟨hLL, hll⟩
  rw [hLL] at hR1 ⊢
  rw [hll]
  clear hO1 hb1 hq0 hB0 d1 hz0 hLL hll
  go_loopw [4, 14] (fun s4 s14 wr => ∃ i : Nat, s14 = .int .i64 i ∧ i ≤ len ∧ s4 = .int .i64 (allCls (P.take i)).length ∧ Below w1.heap.size w1 wr) (fun _ s _ => len - (intOf s).toNat)
  case atStart => exact ⟨0, rfl, Nat.zero_le _, by simp [allCls], Below.refl _ _⟩
  case round =>
    obtain ⟨wo, rfl⟩ : ∃ wo, wo = wr := ⟨_, rfl⟩
    obtain ⟨i, rfl, hi, rfl, hB⟩ := hrel
    clear y2
    by_cases hlt : i < len
    · obtain ⟨D, hD⟩ : ∃ D, P[i]? = some D := ⟨P[i]'(by rw [Al.out.1]; exact hlt), List.getElem?_eq_getElem _⟩
      obtain ⟨g, off, a', c', rfl, hg, hc, hcl, hlen'⟩ := hP i D hD
      have hnext := allCls_take hD
      have hall : ∃ R, LL = allCls (P.take i) ++ D.cls ++ R := ⟨allCls (P.drop (i + 1)), by
        rw [← hnext, ← Bl.out.1]
        unfold allCls
        rw [← List.flatten_append, ← List.map_append, List.take_append_drop]⟩
      obtain ⟨K, hK⟩ : ∃ K, allCls (P.take i) = K := ⟨_, rfl⟩
      rw [hK] at hnext hall ⊢
      obtain ⟨R, hR⟩ := hall
      obtain ⟨nd, ar, dy, tb, cls⟩ := D
      dsimp only at hc hcl hlen' hnext hR
      have hBw : Below w.heap.size w wo := hB1.trans (hB.mono hB1.size)
      have hb2 : ∀ p : Addr, p.block < n → wo.cell? p = w.cell? p := fun p hp => (hBw.mono hn).cell hp
      have x0 := (hb2 ⟨g, off + i * 5 + 0, none⟩ hg).trans (hc 0 _ rfl)
      have x1 := (hb2 ⟨g, off + i * 5 + 1, none⟩ hg).trans (hc 1 _ rfl)
      have x2 := (hb2 ⟨g, off + i * 5 + 2, none⟩ hg).trans (hc 2 _ rfl)
      have x3 := (hb2 ⟨g, off + i * 5 + 3, none⟩ hg).trans (hc 3 _ rfl)
      have x4 := (hb2 ⟨g, off + i * 5 + 4, none⟩ hg).trans (hc 4 _ rfl)
      rw [Nat.add_zero] at x0
      have hi1 : (i : Int) < (len : Int) := by omega
      have hi3 : (0 : Int) ≤ (i : Int) := by omega
      have hw3 : IntKind.i64.wrap ((i : Int) + 1) = (i : Int) + 1 := by rw [IntKind.wrap_i64]; omega
      obtain ⟨lc, hlc⟩ : ∃ lc, cls.length = lc := ⟨_, rfl⟩
      rw [hlc] at x4 hlen'
      have Ac : Aside (cls.length = lc ∧ allCls (P.take (i + 1)) = K ++ cls ∧ LL = K ++ cls ++ R) := ⟨hlc, hnext, hR⟩
      have hBn := below_alloc wo (Obj.cells #[.string nd, .int .i64 ar, .bool dy, .int .i64 tb, .slice a' lc c'] 31)
      have hBw1 : Below w1.heap.size w1 _ := hB.trans (hBn.mono hB.size)
      clear hc hb2 hlc hnext hD hR
      go_wp2_with fail
      go_loopw [4, 21] (fun s4 s21 wq => ∃ j : Nat, s21 = .int .i64 j ∧ j ≤ lc ∧ s4 = .int .i64 (K ++ cls.take j).length ∧ Below w1.heap.size w1 wq) (fun _ s _ => lc - (intOf s).toNat)
      case atStart => exact ⟨0, rfl, Nat.zero_le _, by simp, hBw1⟩
      case round =>
        clear x0 x1 x2 x3 x4 hBw1 hBn hB hBw
        obtain ⟨wq, rfl⟩ : ∃ wq, wq = wr := ⟨_, rfl⟩
        obtain ⟨j, rfl, hj, rfl, hB⟩ := hrel
        by_cases hltj : j < lc
        · obtain ⟨C, hC⟩ : ∃ C, cls[j]? = some C := ⟨cls[j]'(by rw [Ac.out.1]; exact hltj), List.getElem?_eq_getElem _⟩
          have hBw : Below w.heap.size w wq := hB1.trans (hB.mono hB1.size)
          obtain ⟨nn, hnn⟩ : ∃ nn, (K ++ cls.take j).length = nn := ⟨_, rfl⟩
          have hnx : Aside ((K ++ cls.take (j + 1)).length = nn + 1) := by
            show _ = _
            rw [List.take_add_one, hC, ← hnn, List.length_append, List.length_append, List.length_append]
            simp; omega
          have hLn : LL[nn]? = some C := by
            have hKj : (cls.take j).length = j := by rw [List.length_take]; have := Ac.out.1; omega
            rw [Ac.out.2.2, List.append_assoc, ← hnn, List.length_append, hKj, List.getElem?_append_right (by omega), Nat.add_sub_cancel_left, List.getElem?_append_left (by have := Ac.out.1; omega)]
            exact hC
          rw [hnn]
          obtain ⟨g', off', vh, vb, rfl, hg', hc, hv1, hv2⟩ := hcl j C hC
          obtain ⟨gl, ol, uh, ub, rfl, hgl, hcL, hu1, hu2⟩ := hR1 nn C hLn
          obtain ⟨Th, Tb, vv⟩ := C
          dsimp only at hv1 hv2 hu1 hu2
          have hv1' := hv1
          have hv2' := hv2
          have hu1' := hu1
          have hu2' := hu2
          have hnl : nn < ll := by have := (List.getElem?_eq_some_iff.1 hLn).1; have := Bl.out.2; omega
          have dF1 := fun w2 (hb : Below w.heap.size w w2) => fault_calls Th n w2 _ (TmV.below hb hn _ _ hv1) (Nat.le_trans hn hb.size)
          have dF2 := fun w2 (hb : Below w.heap.size w w2) => fault_calls Tb n w2 _ (TmV.below hb hn _ _ hv2) (Nat.le_trans hn hb.size)
          have dS1 := fun w2 (hb : Below w.heap.size w w2) (hf : Fine Th) => Shape_calls Th n w2 _ (TmV.below hb hn _ _ hv1) (Nat.le_trans hn hb.size) hf
          have dS2 := fun w2 (hb : Below w.heap.size w w2) (hf : Fine Tb) => Shape_calls Tb n w2 _ (TmV.below hb hn _ _ hv2) (Nat.le_trans hn hb.size) hf
          have dU1 := fun w2 (hb : Below w1.heap.size w1 w2) (hf : Fine Th) => Shape_calls Th _ w2 _ (TmV.below hb (Nat.le_refl _) _ _ hu1) hb.size hf
          have dU2 := fun w2 (hb : Below w1.heap.size w1 w2) (hf : Fine Tb) => Shape_calls Tb _ w2 _ (TmV.below hb (Nat.le_refl _) _ _ hu2) hb.size hf
          obtain ⟨SH, hSH⟩ : ∃ SH, strN (shapeT Th) = SH := ⟨_, rfl⟩
          obtain ⟨SB, hSB⟩ : ∃ SB, strN (shapeT Tb) = SB := ⟨_, rfl⟩
          simp only [hSH] at dS1 dU1
          simp only [hSB] at dS2 dU2
          obtain ⟨FH, hFH⟩ : ∃ FH, Fine Th = FH := ⟨_, rfl⟩
          obtain ⟨FB, hFB⟩ : ∃ FB, Fine Tb = FB := ⟨_, rfl⟩
          simp only [hFH] at dF1 dS1 dU1
          simp only [hFB] at dF2 dS2 dU2
          clear hSH hSB hFH hFB
          obtain ⟨k1, v1, nm1, g1, A1, A2, A3⟩ := Th
          obtain ⟨k2, v2, nm2, g2, A4, A5, A6⟩ := Tb
          simp only [TmV] at hv1' hv2' hu1' hu2'
          obtain ⟨_, _, a3, c3, rfl, ⟨⟨a1, c1, rfl, _⟩, ⟨a2, c2, rfl, _⟩⟩, _⟩ := hv1'
          obtain ⟨_, _, a6, c6, rfl, ⟨⟨a4, c4, rfl, _⟩, ⟨a5, c5, rfl, _⟩⟩, _⟩ := hv2'
          obtain ⟨_, _, b3, e3, rfl, ⟨⟨b1, e1, rfl, _⟩, ⟨b2, e2, rfl, _⟩⟩, _⟩ := hu1'
          obtain ⟨_, _, b6, e6, rfl, ⟨⟨b4, e4, rfl, _⟩, ⟨b5, e5, rfl, _⟩⟩, _⟩ := hu2'
          have hb2 : ∀ p : Addr, p.block < n → wq.cell? p = w.cell? p := fun p hp => (hBw.mono hn).cell hp
          have x0 := (hb2 ⟨g', off' + j * 15 + 0, none⟩ hg').trans (hc 0 _ rfl)
          have x1 := (hb2 ⟨g', off' + j * 15 + 1, none⟩ hg').trans (hc 1 _ rfl)
          have x2 := (hb2 ⟨g', off' + j * 15 + 2, none⟩ hg').trans (hc 2 _ rfl)
          have x3 := (hb2 ⟨g', off' + j * 15 + 3, none⟩ hg').trans (hc 3 _ rfl)
          have x4 := (hb2 ⟨g', off' + j * 15 + 4, none⟩ hg').trans (hc 4 _ rfl)
          have x5 := (hb2 ⟨g', off' + j * 15 + 5, none⟩ hg').trans (hc 5 _ rfl)
          have x6 := (hb2 ⟨g', off' + j * 15 + 6, none⟩ hg').trans (hc 6 _ rfl)
          have x7 := (hb2 ⟨g', off' + j * 15 + 7, none⟩ hg').trans (hc 7 _ rfl)
          have x8 := (hb2 ⟨g', off' + j * 15 + 8, none⟩ hg').trans (hc 8 _ rfl)
          have x9 := (hb2 ⟨g', off' + j * 15 + 9, none⟩ hg').trans (hc 9 _ rfl)
          have x10 := (hb2 ⟨g', off' + j * 15 + 10, none⟩ hg').trans (hc 10 _ rfl)
          have x11 := (hb2 ⟨g', off' + j * 15 + 11, none⟩ hg').trans (hc 11 _ rfl)
          have x12 := (hb2 ⟨g', off' + j * 15 + 12, none⟩ hg').trans (hc 12 _ rfl)
          have x13 := (hb2 ⟨g', off' + j * 15 + 13, none⟩ hg').trans (hc 13 _ rfl)
          have x14 := (hb2 ⟨g', off' + j * 15 + 14, none⟩ hg').trans (hc 14 _ rfl)
          rw [Nat.add_zero] at x0
          have hj1 : (j : Int) < (lc : Int) := by omega
          have hj3 : (0 : Int) ≤ (j : Int) := by omega
          have hwj : IntKind.i64.wrap ((j : Int) + 1) = (j : Int) + 1 := by rw [IntKind.wrap_i64]; omega
          have hn1 : (nn : Int) < (ll : Int) := by omega
          have hn2 : ¬ (ll : Int) ≤ (nn : Int) := by omega
          have hn3 : (0 : Int) ≤ (nn : Int) := by omega
          have hwn : IntKind.i64.wrap ((nn : Int) + 1) = (nn : Int) + 1 := by rw [IntKind.wrap_i64]; have e1 := Bl.out.1; have e2 := Bl.out.2; have e3 := Al.out.2; rw [e1] at e3; omega
          have hB2 := below_alloc wq (Obj.cells #[.int .i64 k1, .int .i64 v1, .string nm1, .bool g1, .slice a1 A1.length c1, .slice a2 A2.length c2, .slice a3 A3.length c3, .int .i64 k2, .int .i64 v2, .string nm2, .bool g2, .slice a4 A4.length c4, .slice a5 A5.length c5, .slice a6 A6.length c6, .int .i64 vv] 38)
          have hqe := heap_alloc_new wq (Obj.cells #[.int .i64 k1, .int .i64 v1, .string nm1, .bool g1, .slice a1 A1.length c1, .slice a2 A2.length c2, .slice a3 A3.length c3, .int .i64 k2, .int .i64 v2, .string nm2, .bool g2, .slice a4 A4.length c4, .slice a5 A5.length c5, .slice a6 A6.length c6, .int .i64 vv] 38)
          have hse : Aside ((wq.alloc (Obj.cells #[.int .i64 k1, .int .i64 v1, .string nm1, .bool g1, .slice a1 A1.length c1, .slice a2 A2.length c2, .slice a3 A3.length c3, .int .i64 k2, .int .i64 v2, .string nm2, .bool g2, .slice a4 A4.length c4, .slice a5 A5.length c5, .slice a6 A6.length c6, .int .i64 vv] 38)).heap.size = wq.heap.size + 1) := by show _ = _; simp
          have hB3 : Below w1.heap.size w1 _ := hB.trans (hB2.mono hB.size)
          obtain ⟨we, hwe⟩ : ∃ we, wq.alloc (Obj.cells #[.int .i64 k1, .int .i64 v1, .string nm1, .bool g1, .slice a1 A1.length c1, .slice a2 A2.length c2, .slice a3 A3.length c3, .int .i64 k2, .int .i64 v2, .string nm2, .bool g2, .slice a4 A4.length c4, .slice a5 A5.length c5, .slice a6 A6.length c6, .int .i64 vv] 38) = we := ⟨_, rfl⟩
          rw [hwe] at hqe hse hB3 hB2
          have fc : ∀ w2, Below we.heap.size we w2 → _ := fun w2 hb => cells15 ((hb.block wq.heap.size (by have := hse.out; omega)).trans hqe)
          have fl : ∀ w2, Below we.heap.size we w2 → _ := fun w2 hb => at15 (fun m u hm => ((hB3.trans (hb.mono hB3.size)).cell (p := ⟨gl, ol + nn * 15 + m, none⟩) hgl).trans (hcL m u hm))
          have hBW : ∀ w2, Below we.heap.size we w2 → Below w.heap.size w w2 := fun w2 hb => hB1.trans ((hB3.trans (hb.mono hB3.size)).mono hB1.size)
          have hB1W : ∀ w2, Below we.heap.size we w2 → Below w1.heap.size w1 w2 := fun w2 hb => hB3.trans (hb.mono hB3.size)
          replace dF1 : ∀ w2, Below we.heap.size we w2 → Calls Tryz.prog 5 #[.agg #[.int .i64 k1, .int .i64 v1, .string nm1, .bool g1, .slice a1 A1.length c1, .slice a2 A2.length c2, .slice a3 A3.length c3]] w2 _ := fun w2 hb => dF1 w2 (hBW w2 hb)
          replace dF2 : ∀ w2, Below we.heap.size we w2 → Calls Tryz.prog 5 #[.agg #[.int .i64 k2, .int .i64 v2, .string nm2, .bool g2, .slice a4 A4.length c4, .slice a5 A5.length c5, .slice a6 A6.length c6]] w2 _ := fun w2 hb => dF2 w2 (hBW w2 hb)
          replace dS1 : ∀ w2, Below we.heap.size we w2 → FH → Calls Tryz.prog 6 #[.agg #[.int .i64 k1, .int .i64 v1, .string nm1, .bool g1, .slice a1 A1.length c1, .slice a2 A2.length c2, .slice a3 A3.length c3]] w2 _ := fun w2 hb hf => dS1 w2 (hBW w2 hb) hf
          replace dS2 : ∀ w2, Below we.heap.size we w2 → FB → Calls Tryz.prog 6 #[.agg #[.int .i64 k2, .int .i64 v2, .string nm2, .bool g2, .slice a4 A4.length c4, .slice a5 A5.length c5, .slice a6 A6.length c6]] w2 _ := fun w2 hb hf => dS2 w2 (hBW w2 hb) hf
          replace dU1 : ∀ w2, Below we.heap.size we w2 → FH → Calls Tryz.prog 6 #[.agg #[.int .i64 k1, .int .i64 v1, .string nm1, .bool g1, .slice b1 A1.length e1, .slice b2 A2.length e2, .slice b3 A3.length e3]] w2 _ := fun w2 hb hf => dU1 w2 (hB1W w2 hb) hf
          replace dU2 : ∀ w2, Below we.heap.size we w2 → FB → Calls Tryz.prog 6 #[.agg #[.int .i64 k2, .int .i64 v2, .string nm2, .bool g2, .slice b4 A4.length e4, .slice b5 A5.length e5, .slice b6 A6.length e6]] w2 _ := fun w2 hb hf => dU2 w2 (hB1W w2 hb) hf
          generalize A1.length = L1 at *
          generalize A2.length = L2 at *
          generalize A3.length = L3 at *
          generalize A4.length = L4 at *
          generalize A5.length = L5 at *
          generalize A6.length = L6 at *
          have Aj : Aside (j < lc) := hltj
          clear hc hb2 hv1 hv2 hu1 hu2 hqe hcl hcL hR1 hP hC hLn hnn hltj hnl hBW hB1W hB2
          obtain ⟨f0, f1, f2, f3, f4, f5, f6, f7, f8, f9, f10, f11, f12, f13, f14⟩ := fl we (Below.refl _ _)
          obtain ⟨h0, h1, h2, h3, h4, h5, h6, h7, h8, h9, h10, h11, h12, h13, h14⟩ := fc we (Below.refl _ _)
          go_upto_region 9 with fail
          have hBd : Below we.heap.size we { we with drawn := we.drawn + 1 } := below_drew we
          refine Heavy.region_plan (fun w' => Below we.heap.size we w') 13 (Heavy.lights [0, 1, 2, 3, 4, 5, 6, 7, 8, 9, 10, 11, 12] .done) (by kernel_rfl) (by kernel_rfl) hBd ?_
          simp only [Heavy.lights, List.take_succ_cons, List.take_zero, List.drop_succ_cons, List.drop_zero]
          iterate 5 (apply Heavy.light_n; (exact rfl); (exact rfl); (intro wr2 hw; go_simp; exact rfl))
          iterate 8 (apply Heavy.light_step; (exact rfl); (go_simp); (intro wr2 hw; have ka14 := (fc wr2 hw).2.2.2.2.2.2.2.2.2.2.2.2.2.2; have kb14 := (fl wr2 hw).2.2.2.2.2.2.2.2.2.2.2.2.2.2; go_simp; exact rfl))
          refine Heavy.plan_end ?_
          go_upto_region 11 with fail
          have hBd2 : Below we.heap.size we { we.drew with drawn := we.drew.drawn + 1 } := ⟨rfl, rfl, rfl, Nat.le_refl _, fun _ _ => rfl⟩
          refine Heavy.region_plan (fun w' => Below we.heap.size we w') 33 (Heavy.lights [0, 1] (.one 2 (Heavy.lights [3, 4, 5, 6] (.one 7 (Heavy.lights [8, 9, 10, 11, 12, 13, 14, 15, 17, 18] (.one 16 (.one 19 (Heavy.lights [20, 21, 22, 23, 24, 25, 26, 28, 29] (.one 27 (.one 30 (Heavy.lights [31, 32] .done))))))))))) (by kernel_rfl) (by kernel_rfl) hBd2 ?_
          simp only [Heavy.lights, List.take_succ_cons, List.take_zero, List.drop_succ_cons, List.drop_zero]
          clear f0 f1 f2 f3 f4 f5 f6 f7 f8 f9 f10 f11 f12 f13 f14 h0 h1 h2 h3 h4 h5 h6 h7 h8 h9 h10 h11 h12 h13 h14 x0 x1 x2 x3 x4 x5 x6 x7 x8 x9 x10 x11 x12 x13 x14
          (apply Heavy.light_n; (exact rfl); (exact rfl); (intro wr2 hw; go_simp; exact rfl))
          (apply Heavy.light_n; (exact rfl); (exact rfl); (intro wr2 hw; have ka0 := (fc wr2 hw).1; have ka1 := (fc wr2 hw).2.1; have ka2 := (fc wr2 hw).2.2.1; have ka3 := (fc wr2 hw).2.2.2.1; have ka4 := (fc wr2 hw).2.2.2.2.1; have ka5 := (fc wr2 hw).2.2.2.2.2.1; have ka6 := (fc wr2 hw).2.2.2.2.2.2.1; go_simp; exact rfl))
          apply Heavy.one_n
          · exact rfl
          · exact rfl
          go_simp
          refine (dF1 _ hBd2).mono ?_
          rintro e w3 ⟨r1, rfl, hr1, hb3⟩
          have hB4 : Below we.heap.size we w3 := (hBd2).trans (hb3.mono (hBd2).size)
          refine ⟨_, rfl, hB4, ?_⟩
          by_cases hr1z : r1 = 0
          · have hFH : Aside FH := hr1 hr1z
            subst hr1z
            clear hr1
            (apply Heavy.light_n; (exact rfl); (exact rfl); (intro wr2 hw; go_simp; exact rfl))
            (apply Heavy.light_n; (exact rfl); (exact rfl); (intro wr2 hw; go_simp; exact rfl))
            (apply Heavy.light_step; (exact rfl); (go_simp); (intro wr2 hw; go_simp; exact rfl))
            (apply Heavy.light_step; (exact rfl); (go_simp); (intro wr2 hw; have ka7 := (fc wr2 hw).2.2.2.2.2.2.2.1; have ka8 := (fc wr2 hw).2.2.2.2.2.2.2.2.1; have ka9 := (fc wr2 hw).2.2.2.2.2.2.2.2.2.1; have ka10 := (fc wr2 hw).2.2.2.2.2.2.2.2.2.2.1; have ka11 := (fc wr2 hw).2.2.2.2.2.2.2.2.2.2.2.1; have ka12 := (fc wr2 hw).2.2.2.2.2.2.2.2.2.2.2.2.1; have ka13 := (fc wr2 hw).2.2.2.2.2.2.2.2.2.2.2.2.2.1; go_simp; exact rfl))
            apply Heavy.one_step
            · exact rfl
            · go_simp
            go_simp
            refine (dF2 _ hB4).mono ?_
            rintro e w4 ⟨r2, rfl, hr2, hb4⟩
            have hB5 : Below we.heap.size we w4 := (hB4).trans (hb4.mono (hB4).size)
            refine ⟨_, rfl, hB5, ?_⟩
            by_cases hr2z : r2 = 0
            · have hFB : Aside FB := hr2 hr2z
              subst hr2z
              clear hr2
              (apply Heavy.light_step; (exact rfl); (go_simp); (intro wr2 hw; go_simp; exact rfl))
              (apply Heavy.light_n; (exact rfl); (exact rfl); (intro wr2 hw; go_simp; exact rfl))
              (apply Heavy.light_n; (exact rfl); (exact rfl); (intro wr2 hw; go_simp; exact rfl))
              (apply Heavy.light_step; (exact rfl); (go_simp); (intro wr2 hw; go_simp; exact rfl))
              (apply Heavy.light_step; (exact rfl); (go_simp); (intro wr2 hw; go_simp; exact rfl))
              (apply Heavy.light_step; (exact rfl); (go_simp); (intro wr2 hw; go_simp; exact rfl))
              (apply Heavy.light_step; (exact rfl); (go_simp); (intro wr2 hw; go_simp; exact rfl))
              (apply Heavy.light_step; (exact rfl); (go_simp); (intro wr2 hw; have kb0 := (fl wr2 hw).1; have kb1 := (fl wr2 hw).2.1; have kb2 := (fl wr2 hw).2.2.1; have kb3 := (fl wr2 hw).2.2.2.1; have kb4 := (fl wr2 hw).2.2.2.2.1; have kb5 := (fl wr2 hw).2.2.2.2.2.1; have kb6 := (fl wr2 hw).2.2.2.2.2.2.1; go_simp; exact rfl))
              (apply Heavy.light_step; (exact rfl); (go_simp); (intro wr2 hw; go_simp; exact rfl))
              (apply Heavy.light_step; (exact rfl); (go_simp); (intro wr2 hw; have ka0 := (fc wr2 hw).1; have ka1 := (fc wr2 hw).2.1; have ka2 := (fc wr2 hw).2.2.1; have ka3 := (fc wr2 hw).2.2.2.1; have ka4 := (fc wr2 hw).2.2.2.2.1; have ka5 := (fc wr2 hw).2.2.2.2.2.1; have ka6 := (fc wr2 hw).2.2.2.2.2.2.1; go_simp; exact rfl))
              apply Heavy.one_step
              · exact rfl
              · go_simp
              go_simp
              refine (dU1 _ hB5 hFH.out).mono ?_
              rintro e w5 ⟨rfl, hb5⟩
              have hB6 : Below we.heap.size we w5 := (hB5).trans (hb5.mono (hB5).size)
              refine ⟨_, rfl, hB6, ?_⟩
              apply Heavy.one_step
              · exact rfl
              · go_simp
              go_simp
              refine (dS1 _ hB6 hFH.out).mono ?_
              rintro e w6 ⟨rfl, hb6⟩
              have hB7 : Below we.heap.size we w6 := (hB6).trans (hb6.mono (hB6).size)
              refine ⟨_, rfl, hB7, ?_⟩
              (apply Heavy.light_step; (exact rfl); (go_simp); (intro wr2 hw; go_simp; exact rfl))
              (apply Heavy.light_step; (exact rfl); (go_simp); (intro wr2 hw; go_simp; exact rfl))
              (apply Heavy.light_step; (exact rfl); (go_simp); (intro wr2 hw; go_simp; exact rfl))
              (apply Heavy.light_step; (exact rfl); (go_simp); (intro wr2 hw; go_simp; exact rfl))
              (apply Heavy.light_step; (exact rfl); (go_simp); (intro wr2 hw; go_simp; exact rfl))
              (apply Heavy.light_step; (exact rfl); (go_simp); (intro wr2 hw; go_simp; exact rfl))
              (apply Heavy.light_step; (exact rfl); (go_simp); (intro wr2 hw; have kb7 := (fl wr2 hw).2.2.2.2.2.2.2.1; have kb8 := (fl wr2 hw).2.2.2.2.2.2.2.2.1; have kb9 := (fl wr2 hw).2.2.2.2.2.2.2.2.2.1; have kb10 := (fl wr2 hw).2.2.2.2.2.2.2.2.2.2.1; have kb11 := (fl wr2 hw).2.2.2.2.2.2.2.2.2.2.2.1; have kb12 := (fl wr2 hw).2.2.2.2.2.2.2.2.2.2.2.2.1; have kb13 := (fl wr2 hw).2.2.2.2.2.2.2.2.2.2.2.2.2.1; go_simp; exact rfl))
              (apply Heavy.light_step; (exact rfl); (go_simp); (intro wr2 hw; go_simp; exact rfl))
              (apply Heavy.light_step; (exact rfl); (go_simp); (intro wr2 hw; have ka7 := (fc wr2 hw).2.2.2.2.2.2.2.1; have ka8 := (fc wr2 hw).2.2.2.2.2.2.2.2.1; have ka9 := (fc wr2 hw).2.2.2.2.2.2.2.2.2.1; have ka10 := (fc wr2 hw).2.2.2.2.2.2.2.2.2.2.1; have ka11 := (fc wr2 hw).2.2.2.2.2.2.2.2.2.2.2.1; have ka12 := (fc wr2 hw).2.2.2.2.2.2.2.2.2.2.2.2.1; have ka13 := (fc wr2 hw).2.2.2.2.2.2.2.2.2.2.2.2.2.1; go_simp; exact rfl))
              apply Heavy.one_step
              · exact rfl
              · go_simp
              go_simp
              refine (dU2 _ hB7 hFB.out).mono ?_
              rintro e w7 ⟨rfl, hb7⟩
              have hB8 : Below we.heap.size we w7 := (hB7).trans (hb7.mono (hB7).size)
              refine ⟨_, rfl, hB8, ?_⟩
              apply Heavy.one_step
              · exact rfl
              · go_simp
              go_simp
              refine (dS2 _ hB8 hFB.out).mono ?_
              rintro e w8 ⟨rfl, hb8⟩
              have hB9 : Below we.heap.size we w8 := (hB8).trans (hb8.mono (hB8).size)
              refine ⟨_, rfl, hB9, ?_⟩
              (apply Heavy.light_step; (exact rfl); (go_simp); (intro wr2 hw; go_simp; exact rfl))
              (apply Heavy.light_step; (exact rfl); (go_simp); (intro wr2 hw; go_simp; exact rfl))
              refine Heavy.plan_end ?_
              have hBf := hB3.trans (hB9.mono hB3.size)
              clear fc fl dF1 dF2 dS1 dS2 dU1 dU2
              go_wp2_with fail
              exact ⟨⟨j + 1, by simp, by have := Aj.out; omega, by rw [hnx.out]; simp, hBf⟩, by have := Aj.out; simp [intOf]; omega⟩
            · have hr2B : (r2 == 0) = false := by simpa using hr2z
              clear hr2z hr2
              (apply Heavy.light_step; (exact rfl); (go_simp); (intro wr2 hw; go_simp; exact rfl))
              (apply Heavy.light_n; (exact rfl); (exact rfl); (intro wr2 hw; go_simp; exact rfl))
              (apply Heavy.light_n; (exact rfl); (exact rfl); (intro wr2 hw; go_simp; exact rfl))
              (apply Heavy.light_skip; (exact rfl); (go_simp <;> (intro h; cases h)))
              (apply Heavy.light_skip; (exact rfl); (go_simp <;> (intro h; cases h)))
              (apply Heavy.light_skip; (exact rfl); (go_simp <;> (intro h; cases h)))
              (apply Heavy.light_skip; (exact rfl); (go_simp <;> (intro h; cases h)))
              (apply Heavy.light_skip; (exact rfl); (go_simp <;> (intro h; cases h)))
              (apply Heavy.light_skip; (exact rfl); (go_simp <;> (intro h; cases h)))
              (apply Heavy.light_skip; (exact rfl); (go_simp <;> (intro h; cases h)))
              (apply Heavy.one_skip; (exact rfl); (go_simp <;> (intro h; cases h)); (exact hB5))
              (apply Heavy.one_skip; (exact rfl); (go_simp <;> (intro h; cases h)); (exact hB5))
              (apply Heavy.light_skip; (exact rfl); (go_simp <;> (intro h; cases h)))
              (apply Heavy.light_skip; (exact rfl); (go_simp <;> (intro h; cases h)))
              (apply Heavy.light_skip; (exact rfl); (go_simp <;> (intro h; cases h)))
              (apply Heavy.light_skip; (exact rfl); (go_simp <;> (intro h; cases h)))
              (apply Heavy.light_skip; (exact rfl); (go_simp <;> (intro h; cases h)))
              (apply Heavy.light_skip; (exact rfl); (go_simp <;> (intro h; cases h)))
              (apply Heavy.light_skip; (exact rfl); (go_simp <;> (intro h; cases h)))
              (apply Heavy.light_skip; (exact rfl); (go_simp <;> (intro h; cases h)))
              (apply Heavy.light_skip; (exact rfl); (go_simp <;> (intro h; cases h)))
              (apply Heavy.one_skip; (exact rfl); (go_simp <;> (intro h; cases h)); (exact hB5))
              (apply Heavy.one_skip; (exact rfl); (go_simp <;> (intro h; cases h)); (exact hB5))
              (apply Heavy.light_skip; (exact rfl); (go_simp <;> (intro h; cases h)))
              (apply Heavy.light_skip; (exact rfl); (go_simp <;> (intro h; cases h)))
              refine Heavy.plan_end ?_
              have hBf := hB3.trans (hB5.mono hB3.size)
              clear fc fl dF1 dF2 dS1 dS2 dU1 dU2
              go_wp2_with fail
              exact ⟨⟨j + 1, by simp, by have := Aj.out; omega, by rw [hnx.out]; simp, hBf⟩, by have := Aj.out; simp [intOf]; omega⟩
          · have hr1B : (r1 == 0) = false := by simpa using hr1z
            clear hr1z hr1
            (apply Heavy.light_n; (exact rfl); (exact rfl); (intro wr2 hw; go_simp; exact rfl))
            (apply Heavy.light_n; (exact rfl); (exact rfl); (intro wr2 hw; go_simp; exact rfl))
            (apply Heavy.light_skip; (exact rfl); (go_simp <;> (intro h; cases h)))
            (apply Heavy.light_skip; (exact rfl); (go_simp <;> (intro h; cases h)))
            (apply Heavy.one_skip; (exact rfl); (go_simp <;> (intro h; cases h)); (exact hB4))
            (apply Heavy.light_skip; (exact rfl); (go_simp <;> (intro h; cases h)))
            (apply Heavy.light_n; (exact rfl); (exact rfl); (intro wr2 hw; go_simp; exact rfl))
            (apply Heavy.light_n; (exact rfl); (exact rfl); (intro wr2 hw; go_simp; exact rfl))
            (apply Heavy.light_skip; (exact rfl); (go_simp <;> (intro h; cases h)))
            (apply Heavy.light_skip; (exact rfl); (go_simp <;> (intro h; cases h)))
            (apply Heavy.light_skip; (exact rfl); (go_simp <;> (intro h; cases h)))
            (apply Heavy.light_skip; (exact rfl); (go_simp <;> (intro h; cases h)))
            (apply Heavy.light_skip; (exact rfl); (go_simp <;> (intro h; cases h)))
            (apply Heavy.light_skip; (exact rfl); (go_simp <;> (intro h; cases h)))
            (apply Heavy.light_skip; (exact rfl); (go_simp <;> (intro h; cases h)))
            (apply Heavy.one_skip; (exact rfl); (go_simp <;> (intro h; cases h)); (exact hB4))
            (apply Heavy.one_skip; (exact rfl); (go_simp <;> (intro h; cases h)); (exact hB4))
            (apply Heavy.light_skip; (exact rfl); (go_simp <;> (intro h; cases h)))
            (apply Heavy.light_skip; (exact rfl); (go_simp <;> (intro h; cases h)))
            (apply Heavy.light_skip; (exact rfl); (go_simp <;> (intro h; cases h)))
            (apply Heavy.light_skip; (exact rfl); (go_simp <;> (intro h; cases h)))
            (apply Heavy.light_skip; (exact rfl); (go_simp <;> (intro h; cases h)))
            (apply Heavy.light_skip; (exact rfl); (go_simp <;> (intro h; cases h)))
            (apply Heavy.light_skip; (exact rfl); (go_simp <;> (intro h; cases h)))
            (apply Heavy.light_skip; (exact rfl); (go_simp <;> (intro h; cases h)))
            (apply Heavy.light_skip; (exact rfl); (go_simp <;> (intro h; cases h)))
            (apply Heavy.one_skip; (exact rfl); (go_simp <;> (intro h; cases h)); (exact hB4))
            (apply Heavy.one_skip; (exact rfl); (go_simp <;> (intro h; cases h)); (exact hB4))
            (apply Heavy.light_skip; (exact rfl); (go_simp <;> (intro h; cases h)))
            (apply Heavy.light_skip; (exact rfl); (go_simp <;> (intro h; cases h)))
            refine Heavy.plan_end ?_
            have hBf := hB3.trans (hB4.mono hB3.size)
            clear fc fl dF1 dF2 dS1 dS2 dU1 dU2
            go_wp2_with fail
            exact ⟨⟨j + 1, by simp, by have := Aj.out; omega, by rw [hnx.out]; simp, hBf⟩, by have := Aj.out; simp [intOf]; omega⟩
        · obtain rfl : j = lc := by omega
          have hfin : (K ++ cls.take j).length = (allCls (P.take (i + 1))).length := by rw [← Ac.out.1, List.take_length, Ac.out.2.1]
          rw [hfin]
          clear hcl hR1 hP
          go_wp2_with fail
          exact ⟨⟨i + 1, by simp, by omega, rfl, hB⟩, by simp [intOf]; omega⟩
    · obtain rfl : i = len := by omega
      have hfin : (allCls (P.take i)).length = ll := by rw [← Al.out.1, List.take_length, Bl.out.1, Bl.out.2]
      rw [hfin]
      clear hP hR1 hfin
      have hd := hdiv wo (hB1.trans (hB.mono hB1.size))
      go_wp2_with (go_at_call 7; with_reducible refine hd.mono ?_; rintro e w3 ⟨rfl, hb3⟩)
      go_ret
      exact ⟨rfl, (hB1.trans (hB.mono hB1.size)).trans (hb3.mono (by have := hB1.size; have := hB.size; omega))⟩
end Go.Proofs.YtihaajnknnapmaaGreatDoor
end
