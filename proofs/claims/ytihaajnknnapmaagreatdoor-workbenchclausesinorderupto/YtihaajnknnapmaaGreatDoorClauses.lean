/-
  A part of the proof of the card of WorkbenchClausesInOrder (second form): lemmas that the text Card uses. No condition of its own.
-/
import Derived.Test.YtihaajnknnapmaaGreatDoorCopy
import Derived.Test.YtihaajnknnapmaaGreatDoorShape
set_option linter.all false
set_option linter.unusedVariables false
set_option linter.unusedSimpArgs false
section
namespace Go.Proofs.YtihaajnknnapmaaGreatDoor
open Go.RowKit Go.Big
/-! rows of clauses -/
structure Cl where
  h : Tm
  b : Tm
  vars : Int
structure Pd where
  name : ByteArray
  ar : Int
  dyn : Bool
  tab : Int
  cls : List Cl
/-- the cells of a clause at g, from off on -/
def CellsAt (w : World) (g off : Nat) (vs : List Value) : Prop := ∀ (j : Nat) u, vs[j]? = some u → w.cell? ⟨g, off + j, none⟩ = some u
theorem CellsAt.below {n : Nat} {w w' : World} {g off : Nat} {vs : List Value} (h : CellsAt w g off vs) (hb : Below n w w') (hg : g < n) : CellsAt w' g off vs := fun j u hj => (hb.cell (p := ⟨g, off + j, none⟩) hg).trans (h j u hj)
def clCells (vh vb : List Value) (v : Int) : List Value := vh ++ vb ++ [.int .i64 v]
def ClsV (n : Nat) (w : World) (L : List Cl) (a : Option Addr) : Prop :=
  ∀ (k : Nat) C, L[k]? = some C → ∃ g off vh vb, a = some ⟨g, off, none⟩ ∧ g < n ∧ CellsAt w g (off + k * 15) (clCells vh vb C.vars) ∧ TmV n w C.h vh ∧ TmV n w C.b vb
def PdsV (n : Nat) (w : World) (L : List Pd) (a : Option Addr) : Prop :=
  ∀ (k : Nat) D, L[k]? = some D → ∃ g off a' c', a = some ⟨g, off, none⟩ ∧ g < n ∧ CellsAt w g (off + k * 5) [.string D.name, .int .i64 D.ar, .bool D.dyn, .int .i64 D.tab, .slice a' D.cls.length c'] ∧ ClsV n w D.cls a' ∧ D.cls.length ≤ 1048576
theorem ClsV.below {n m : Nat} {w w' : World} {L : List Cl} {a : Option Addr} (h : ClsV n w L a) (hb : Below m w w') (hm : n ≤ m) : ClsV n w' L a := fun k C hk => by
  obtain ⟨g, off, vh, vb, e, hg, hc, h1, h2⟩ := h k C hk
  exact ⟨g, off, vh, vb, e, hg, hc.below hb (by omega), TmV.below hb hm _ _ h1, TmV.below hb hm _ _ h2⟩
theorem PdsV.below {n m : Nat} {w w' : World} {L : List Pd} {a : Option Addr} (h : PdsV n w L a) (hb : Below m w w') (hm : n ≤ m) : PdsV n w' L a := fun k D hk => by
  obtain ⟨g, off, a', c', e, hg, hc, h1, h2⟩ := h k D hk
  exact ⟨g, off, a', c', e, hg, hc.below hb (by omega), h1.below hb hm, h2⟩
/-- the clauses of all predicates, in order -/
def allCls (L : List Pd) : List Cl := (L.map Pd.cls).flatten
theorem allCls_take {L : List Pd} {i : Nat} {D : Pd} (h : L[i]? = some D) : allCls (L.take (i + 1)) = allCls (L.take i) ++ D.cls := by
  rw [List.take_add_one, h]; simp [allCls]
/-- what lies in a row's own blocks but the row -/
def Own (base : Nat) (w : World) (v : Value) : Nat → Prop := fun b => base ≤ b ∧ b < w.heap.size ∧ v.ownBlock ≠ some b
/-- a row of clauses of the call's own -/
def OutI (base : Nat) (w : World) (v : Value) (L : List Cl) : Prop :=
  ∃ X : List Value, w.ownsRow base 38 15 v L.length X ∧ ∀ (k : Nat) C, L[k]? = some C → ∃ vh vb, vh.length = 7 ∧ vb.length = 7 ∧ (∀ (j : Nat) u, (clCells vh vb C.vars)[j]? = some u → X[k * 15 + j]? = some u) ∧ TmS (Own base w v) w C.h vh ∧ TmS (Own base w v) w C.b vb
theorem OutI.kept {base : Nat} {w w' : World} {v : Value} {L : List Cl} (h : OutI base w v L) (hb : Below w.heap.size w w') : OutI base w' v L := by
  obtain ⟨X, h1, h2⟩ := h
  refine ⟨X, ?_, fun k C hk => ?_⟩
  · obtain ⟨e1, e2 | ⟨g, cap, cur, e3, e4, e5, e6⟩⟩ := h1
    · exact ⟨e1, .inl e2⟩
    · exact ⟨e1, .inr ⟨g, cap, cur, e3, e4, (hb.block g (Array.getElem?_eq_some_iff.1 e5).1).trans e5, e6⟩⟩
  · obtain ⟨vh, vb, l1, l2, h3, h4, h5⟩ := h2 k C hk
    have hs : Same (Own base w v) w w' := Same.of_below hb fun b hb => hb.2.1
    have hm : ∀ b, Own base w v b → Own base w' v b := fun b h => ⟨h.1, Nat.lt_of_lt_of_le h.2.1 hb.size, h.2.2⟩
    exact ⟨vh, vb, l1, l2, h3, TmS.mono hm _ _ (TmS.keep hs _ _ h4), TmS.mono hm _ _ (TmS.keep hs _ _ h5)⟩
theorem OutI.nil (base : Nat) (w : World) : OutI base w (.slice none 0 0) [] := ⟨[], World.ownsRow_nil _ _ _ _, fun k C hk => by simp at hk⟩
/-- one clause more -/
theorem OutI.push {base : Nat} {w w' : World} {v v' : Value} {L : List Cl} {C : Cl} {X vh vb : List Value} (h1 : w.ownsRow base 38 15 v L.length X)
    (h2 : ∀ (k : Nat) C, L[k]? = some C → ∃ vh vb, vh.length = 7 ∧ vb.length = 7 ∧ (∀ (j : Nat) u, (clCells vh vb C.vars)[j]? = some u → X[k * 15 + j]? = some u) ∧ TmS (Own base w v) w C.h vh ∧ TmS (Own base w v) w C.b vb)
    (l1 : vh.length = 7) (l2 : vb.length = 7) (t1 : TmS (Own base w v) w C.h vh) (t2 : TmS (Own base w v) w C.b vb) (h3 : w'.ownsRow base 38 15 v' (L.length + 1) (X ++ clCells vh vb C.vars)) (hg : w.grownBy w' v.ownBlock) (hv : v'.ownBlock = v.ownBlock ∨ v'.ownBlock = some w.heap.size) : OutI base w' v' (L ++ [C]) := by
  have hs : Same (Own base w v) w w' := fun b hb => hg.block b hb.2.1 (fun e => hb.2.2 e.symm)
  have hm : ∀ b, Own base w v b → Own base w' v' b := fun b h => ⟨h.1, Nat.lt_of_lt_of_le h.2.1 hg.size, fun e => by
    rcases hv with hv | hv
    · exact h.2.2 (hv.symm.trans e)
    · rw [hv] at e; have := Option.some.inj e; have := h.2.1; omega⟩
  have hX : X.length = L.length * 15 := h1.1
  refine ⟨_, by rw [List.length_append]; exact h3, fun k D hk => ?_⟩
  by_cases hkl : k < L.length
  · rw [List.getElem?_append_left hkl] at hk
    obtain ⟨vh', vb', l1', l2', h5, h6, h7⟩ := h2 k D hk
    refine ⟨vh', vb', l1', l2', fun j u hj => ?_, TmS.mono hm _ _ (TmS.keep hs _ _ h6), TmS.mono hm _ _ (TmS.keep hs _ _ h7)⟩
    have hj15 : j < 15 := by
      have := (List.getElem?_eq_some_iff.1 hj).1
      simp [clCells, l1', l2'] at this; omega
    rw [List.getElem?_append_left (by rw [hX]; omega)]
    exact h5 j u hj
  · rw [List.getElem?_append_right (by omega)] at hk
    have h0 : k - L.length = 0 := by have := (List.getElem?_eq_some_iff.1 hk).1; simp at this; omega
    rw [h0] at hk
    simp at hk
    subst hk
    obtain rfl : k = L.length := by omega
    refine ⟨vh, vb, l1, l2, fun j u hj => ?_, TmS.mono hm _ _ (TmS.keep hs _ _ t1), TmS.mono hm _ _ (TmS.keep hs _ _ t2)⟩
    rw [List.getElem?_append_right (by rw [hX]; omega), hX, Nat.add_sub_cancel_left]
    exact hj
def zCl : Value := .agg #[.int .i64 0, .int .i64 0, .string { data := #[] }, .bool false, .slice none 0 0, .slice none 0 0, .slice none 0 0, .int .i64 0, .int .i64 0, .string { data := #[] }, .bool false, .slice none 0 0, .slice none 0 0, .slice none 0 0, .int .i64 0]
theorem inf38 : (Tryz.prog.info? 38).map (fun i => (i.zero, i.size, i.bytes)) = some (some zCl, 15, 232) := by kernel_rfl
/-- the append of one clause onto a row of the call's own; where the row lies then -/
theorem wpList_pushC {ops : Array Oper} {rest : List Oper} {o : Oper} {a : Act} {Q : Exit → Act → World → Prop} (w : World) (hgd : o.guard = none) (s x : Operand)
    (ho : o.op = .call { callee := .builtin .append, args := #[s, x], argTypes := #[28, 28] }) (base : Nat) (v : Value) (n : Nat) (xs : List Value) (hs : a.eval s = v) (hown : w.ownsRow base 38 15 v n xs)
    (ad : Addr) (c : Nat) (news : List Value) (hx : a.eval x = .slice (some ad) 1 c) (hl : news.length = 15) (hnews : ∀ (j : Nat) u, news[j]? = some u → w.cell? (ad.add j) = some u) (h1 : ∀ u ∈ news, u.oneCell' = true)
    (hn : n ≤ 2000000) (hbase : base ≤ w.heap.size)
    (h : ∀ v' w', w'.ownsRow base 38 15 v' (n + 1) (xs ++ news) → w.grownBy w' v.ownBlock → (v'.ownBlock = v.ownBlock ∨ v'.ownBlock = some w.heap.size) → wpList Tryz.prog ops Q rest (a.put o.dst v') w') : wpList Tryz.prog ops Q (o :: rest) a w := by
  obtain ⟨i0, hi0, hz0, hz1, hz2⟩ := info_parts inf38
  refine wpList_plain hgd fun K hK => ?_
  obtain ⟨v', w', hr, h2, h3, h4⟩ := run_append_own (P := Tryz.prog) w base 28 o.type 38 i0 zCl 15 232 Tryz.underlying28 hi0 hz0 hz1 hz2 rfl (by decide) v n xs hown ad 1 c news (by omega) hnews h1 (by unfold maxLen; omega) (by omega) hbase
  have hb : v'.ownBlock = v.ownBlock ∨ v'.ownBlock = some w.heap.size := by
    rcases hown.2 with ⟨rfl, rfl⟩ | ⟨g, cap, cur, rfl, hbg, hg, hnc, hcm, hcs, htake⟩
    · have hr2 := run_append_nil (P := Tryz.prog) w 28 o.type 38 i0 zCl Tryz.underlying28 hi0 hz0 ad 1 c news (by rw [hz1]; omega) hnews (by omega) (by omega) (by rw [hz2]; omega)
      rw [hr] at hr2
      injection hr2 with e1 e2
      subst e1
      exact .inr rfl
    · by_cases hroom : n + 1 ≤ cap
      · have hr2 := run_append_room (P := Tryz.prog) w 28 o.type 38 i0 Tryz.underlying28 hi0 g n cap cur hg ad 1 c news (by rw [hz1]; omega) hnews h1 hroom (by rw [hz1, hl, hcs]; omega)
        rw [hr] at hr2
        injection hr2 with e1 e2
        subst e1
        exact .inl rfl
      · have holds : ∀ (j : Nat) u, xs[j]? = some u → w.cell? ((⟨g, 0, none⟩ : Addr).add j) = some u := hown.cells (g := g) rfl
        have hr2 := run_append_grow (P := Tryz.prog) w 28 o.type 38 i0 zCl Tryz.underlying28 hi0 hz0 ⟨g, 0, none⟩ n cap xs (by rw [hz1]; exact hown.1) holds ad 1 c news (by rw [hz1]; omega) hnews (by omega) (by omega) (growslice_fits (by omega) (by rw [hz2]; omega))
        rw [hr] at hr2
        injection hr2 with e1 e2
        subst e1
        exact .inr rfl
  unfold Oper.wp execOp
  simp only [ho, resolve, invoke, builtin, Sem.run_bind, Sem.run_pure, Result.andThen_ok, List.map_toArray, List.map_cons, List.map_nil, hs, hx, hr]
  exact hK _ _ (h v' w' h2 h3 hb)
end Go.Proofs.YtihaajnknnapmaaGreatDoor
end
section
namespace Go.Proofs.YtihaajnknnapmaaGreatDoor
open Go.RowKit Go.Big
attribute [local go_sem] Heavy.uponW
theorem cells15 {w : World} {g : Nat} {v0 v1 v2 v3 v4 v5 v6 v7 v8 v9 v10 v11 v12 v13 v14 : Value} {e : TypeId} {fr : Nat × Nat} (h : w.heap[g]? = some (.cells #[v0, v1, v2, v3, v4, v5, v6, v7, v8, v9, v10, v11, v12, v13, v14] e fr)) :
    w.cell? ⟨g, 0, none⟩ = some v0 ∧ w.cell? ⟨g, 1, none⟩ = some v1 ∧ w.cell? ⟨g, 2, none⟩ = some v2 ∧ w.cell? ⟨g, 3, none⟩ = some v3 ∧ w.cell? ⟨g, 4, none⟩ = some v4 ∧ w.cell? ⟨g, 5, none⟩ = some v5 ∧ w.cell? ⟨g, 6, none⟩ = some v6 ∧ w.cell? ⟨g, 7, none⟩ = some v7 ∧ w.cell? ⟨g, 8, none⟩ = some v8 ∧ w.cell? ⟨g, 9, none⟩ = some v9 ∧ w.cell? ⟨g, 10, none⟩ = some v10 ∧ w.cell? ⟨g, 11, none⟩ = some v11 ∧ w.cell? ⟨g, 12, none⟩ = some v12 ∧ w.cell? ⟨g, 13, none⟩ = some v13 ∧ w.cell? ⟨g, 14, none⟩ = some v14 := by
  simp [World.cell?, h]
set_option maxRecDepth 100000 in
set_option maxHeartbeats 4000000 in
/-- workbench.Clauses -/
theorem clauses_calls (P : List Pd) (n : Nat) (w : World) (x0 x1 x3 : Value) (ap : Option Addr) (cp : Nat) (hn : n ≤ w.heap.size) (hP : PdsV n w P ap) (hlenP : P.length ≤ 1048576) (htot : (allCls P).length ≤ 1048576) :
    Calls Tryz.prog 4 #[.agg #[x0, x1, .slice ap P.length cp, x3]] w fun e w' => ∃ v, e = .returned v ∧ OutI w.heap.size w' v (allCls P) ∧ Below w.heap.size w w' := by
  obtain ⟨len, hl⟩ : ∃ len, P.length = len := ⟨_, rfl⟩
  rw [hl] at hlenP ⊢
  have Al : Aside (P.length = len ∧ (allCls P).length ≤ 1048576) := ⟨hl, htot⟩
  clear hl htot
  go_enter Tryz.func4, Tryz.ntmps4
  go_wp2_with fail
  go_loopw [3, 11] (fun s3 s11 wr => ∃ i : Nat, s11 = .int .i64 i ∧ i ≤ len ∧ OutI w.heap.size wr s3 (allCls (P.take i)) ∧ Below w.heap.size w wr) (fun _ s _ => len - (intOf s).toNat)
  case atStart => exact ⟨0, rfl, Nat.zero_le _, by simpa [allCls] using OutI.nil w.heap.size _, below_alloc _ _⟩
  case round =>
    obtain ⟨wo, rfl⟩ : ∃ wo, wo = wr := ⟨_, rfl⟩
    obtain ⟨i, rfl, hi, hO, hB⟩ := hrel
    by_cases hlt : i < len
    · obtain ⟨D, hD⟩ : ∃ D, P[i]? = some D := ⟨P[i]'(by rw [Al.out.1]; exact hlt), List.getElem?_eq_getElem _⟩
      obtain ⟨g, off, a', c', rfl, hg, hc, hcl, hlen'⟩ := hP i D hD
      have hnext := allCls_take hD
      have htot' : Aside ((allCls (P.take i) ++ D.cls).length ≤ 1048576) := by
        show _ ≤ _
        rw [← hnext]
        have e : allCls P = allCls (P.take (i + 1)) ++ allCls (P.drop (i + 1)) := by
          unfold allCls
          rw [← List.flatten_append, ← List.map_append, List.take_append_drop]
        have := Al.out.2
        rw [e, List.length_append] at this
        omega
      obtain ⟨K, hK⟩ : ∃ K, allCls (P.take i) = K := ⟨_, rfl⟩
      rw [hK] at hO hnext htot'
      obtain ⟨nd, ar, dy, tb, cls⟩ := D
      dsimp only at hc hcl hlen' hnext htot'
      have hb2 : ∀ p : Addr, p.block < n → wo.cell? p = w.cell? p := fun p hp => (hB.mono hn).cell hp
      have x0 := (hb2 ⟨g, off + i * 5 + 0, none⟩ hg).trans (hc 0 _ rfl)
      have x1 := (hb2 ⟨g, off + i * 5 + 1, none⟩ hg).trans (hc 1 _ rfl)
      have x2 := (hb2 ⟨g, off + i * 5 + 2, none⟩ hg).trans (hc 2 _ rfl)
      have x3 := (hb2 ⟨g, off + i * 5 + 3, none⟩ hg).trans (hc 3 _ rfl)
      have x4 := (hb2 ⟨g, off + i * 5 + 4, none⟩ hg).trans (hc 4 _ rfl)
      rw [Nat.add_zero] at x0
      have hi1 : (i : Int) < (len : Int) := by omega
      have hi3 : (0 : Int) ≤ (i : Int) := by omega
      have hw3 : IntKind.i64.wrap ((i : Int) + 1) = (i : Int) + 1 := by rw [IntKind.wrap_i64]; omega
      obtain ⟨lc, hlc⟩ : ∃ lc, cls.length = lc := ⟨_, rfl⟩
      rw [hlc] at x4 hlen'
      have Ac : Aside (cls.length = lc ∧ allCls (P.take (i + 1)) = K ++ cls ∧ (K ++ cls).length ≤ 1048576) := ⟨hlc, hnext, htot'.out⟩
      have hBo : Aside (Below w.heap.size w wo) := hB
      have hB1 := below_alloc wo (Obj.cells #[.string nd, .int .i64 ar, .bool dy, .int .i64 tb, .slice a' lc c'] 31)
      have hO1 := hO.kept hB1
      have hBw1 := hB.trans (hB1.mono hB.size)
      clear hc hb2 hlc hnext htot' hO hD
      go_wp2_with fail
      go_loopw [3, 18] (fun s3 s18 wq => ∃ j : Nat, s18 = .int .i64 j ∧ j ≤ lc ∧ OutI w.heap.size wq s3 (K ++ cls.take j) ∧ Below w.heap.size w wq) (fun _ s _ => lc - (intOf s).toNat)
      case atStart => exact ⟨0, rfl, Nat.zero_le _, by simpa using hO1, hBw1⟩
      case round =>
        clear x0 x1 x2 x3 x4 hO1 hBw1 hB1 hB
        obtain ⟨wq, rfl⟩ : ∃ wq, wq = wr := ⟨_, rfl⟩
        obtain ⟨j, rfl, hj, hO, hB⟩ := hrel
        by_cases hltj : j < lc
        · obtain ⟨C, hC⟩ : ∃ C, cls[j]? = some C := ⟨cls[j]'(by rw [Ac.out.1]; exact hltj), List.getElem?_eq_getElem _⟩
          obtain ⟨g', off', vh, vb, rfl, hg', hc, hv1, hv2⟩ := hcl j C hC
          obtain ⟨Th, Tb, vv⟩ := C
          have hv1' := hv1
          have hv2' := hv2
          obtain ⟨k1, v1, nm1, g1, A1, A2, A3⟩ := Th
          obtain ⟨k2, v2, nm2, g2, A4, A5, A6⟩ := Tb
          simp only [TmV] at hv1' hv2'
          obtain ⟨_, _, a3, c3, rfl, ⟨⟨a1, c1, rfl, _⟩, ⟨a2, c2, rfl, _⟩⟩, _⟩ := hv1'
          obtain ⟨_, _, a6, c6, rfl, ⟨⟨a4, c4, rfl, _⟩, ⟨a5, c5, rfl, _⟩⟩, _⟩ := hv2'
          have hb2 : ∀ p : Addr, p.block < n → wq.cell? p = w.cell? p := fun p hp => (hB.mono hn).cell hp
          have x0 := (hb2 ⟨g', off' + j * 15 + 0, none⟩ hg').trans (hc 0 _ rfl)
          have x1 := (hb2 ⟨g', off' + j * 15 + 1, none⟩ hg').trans (hc 1 _ rfl)
          have x2 := (hb2 ⟨g', off' + j * 15 + 2, none⟩ hg').trans (hc 2 _ rfl)
          have x3 := (hb2 ⟨g', off' + j * 15 + 3, none⟩ hg').trans (hc 3 _ rfl)
          have x4 := (hb2 ⟨g', off' + j * 15 + 4, none⟩ hg').trans (hc 4 _ rfl)
          have x5 := (hb2 ⟨g', off' + j * 15 + 5, none⟩ hg').trans (hc 5 _ rfl)
          have x6 := (hb2 ⟨g', off' + j * 15 + 6, none⟩ hg').trans (hc 6 _ rfl)
          have x7 := (hb2 ⟨g', off' + j * 15 + 7, none⟩ hg').trans (hc 7 _ rfl)
          have x8 := (hb2 ⟨g', off' + j * 15 + 8, none⟩ hg').trans (hc 8 _ rfl)
          have x9 := (hb2 ⟨g', off' + j * 15 + 9, none⟩ hg').trans (hc 9 _ rfl)
          have x10 := (hb2 ⟨g', off' + j * 15 + 10, none⟩ hg').trans (hc 10 _ rfl)
          have x11 := (hb2 ⟨g', off' + j * 15 + 11, none⟩ hg').trans (hc 11 _ rfl)
          have x12 := (hb2 ⟨g', off' + j * 15 + 12, none⟩ hg').trans (hc 12 _ rfl)
          have x13 := (hb2 ⟨g', off' + j * 15 + 13, none⟩ hg').trans (hc 13 _ rfl)
          have x14 := (hb2 ⟨g', off' + j * 15 + 14, none⟩ hg').trans (hc 14 _ rfl)
          rw [Nat.add_zero] at x0
          have hj1 : (j : Int) < (lc : Int) := by omega
          have hj3 : (0 : Int) ≤ (j : Int) := by omega
          have hwj : IntKind.i64.wrap ((j : Int) + 1) = (j : Int) + 1 := by rw [IntKind.wrap_i64]; omega
          have hB2 := below_alloc wq (Obj.cells #[.int .i64 k1, .int .i64 v1, .string nm1, .bool g1, .slice a1 A1.length c1, .slice a2 A2.length c2, .slice a3 A3.length c3, .int .i64 k2, .int .i64 v2, .string nm2, .bool g2, .slice a4 A4.length c4, .slice a5 A5.length c5, .slice a6 A6.length c6, .int .i64 vv] 38)
          have hqe := heap_alloc_new wq (Obj.cells #[.int .i64 k1, .int .i64 v1, .string nm1, .bool g1, .slice a1 A1.length c1, .slice a2 A2.length c2, .slice a3 A3.length c3, .int .i64 k2, .int .i64 v2, .string nm2, .bool g2, .slice a4 A4.length c4, .slice a5 A5.length c5, .slice a6 A6.length c6, .int .i64 vv] 38)
          have hse : Aside ((wq.alloc (Obj.cells #[.int .i64 k1, .int .i64 v1, .string nm1, .bool g1, .slice a1 A1.length c1, .slice a2 A2.length c2, .slice a3 A3.length c3, .int .i64 k2, .int .i64 v2, .string nm2, .bool g2, .slice a4 A4.length c4, .slice a5 A5.length c5, .slice a6 A6.length c6, .int .i64 vv] 38)).heap.size = wq.heap.size + 1) := by show _ = _; simp
          have hO2 := hO.kept hB2
          have hB3 := hB.trans (hB2.mono hB.size)
          obtain ⟨we, hwe⟩ : ∃ we, wq.alloc (Obj.cells #[.int .i64 k1, .int .i64 v1, .string nm1, .bool g1, .slice a1 A1.length c1, .slice a2 A2.length c2, .slice a3 A3.length c3, .int .i64 k2, .int .i64 v2, .string nm2, .bool g2, .slice a4 A4.length c4, .slice a5 A5.length c5, .slice a6 A6.length c6, .int .i64 vv] 38) = we := ⟨_, rfl⟩
          rw [hwe] at hqe hse hO2 hB3 hB2
          have hns : n ≤ we.heap.size := Nat.le_trans hn hB3.size
          have d1 : ∀ w2, Below we.heap.size we w2 → _ := fun w2 hb => clone_calls _ n w2 _ (TmV.below (hB3.trans (hb.mono hB3.size)) hn _ _ hv1) (Nat.le_trans hns hb.size)
          have d2 : ∀ w2, Below we.heap.size we w2 → _ := fun w2 hb => clone_calls _ n w2 _ (TmV.below (hB3.trans (hb.mono hB3.size)) hn _ _ hv2) (Nat.le_trans hns hb.size)
          replace d1 : ∀ w2, Below we.heap.size we w2 → Calls Tryz.prog 8 #[.agg #[.int .i64 k1, .int .i64 v1, .string nm1, .bool g1, .slice a1 A1.length c1, .slice a2 A2.length c2, .slice a3 A3.length c3]] w2 _ := d1
          replace d2 : ∀ w2, Below we.heap.size we w2 → Calls Tryz.prog 8 #[.agg #[.int .i64 k2, .int .i64 v2, .string nm2, .bool g2, .slice a4 A4.length c4, .slice a5 A5.length c5, .slice a6 A6.length c6]] w2 _ := d2
          have fc : ∀ w2, Below we.heap.size we w2 → _ := fun w2 hb => cells15 ((hb.block wq.heap.size (by have := hse.out; omega)).trans hqe)
          obtain ⟨L1, hL1⟩ : ∃ L1, A1.length = L1 := ⟨_, rfl⟩
          obtain ⟨L2, hL2⟩ : ∃ L2, A2.length = L2 := ⟨_, rfl⟩
          obtain ⟨L3, hL3⟩ : ∃ L3, A3.length = L3 := ⟨_, rfl⟩
          obtain ⟨L4, hL4⟩ : ∃ L4, A4.length = L4 := ⟨_, rfl⟩
          obtain ⟨L5, hL5⟩ : ∃ L5, A5.length = L5 := ⟨_, rfl⟩
          obtain ⟨L6, hL6⟩ : ∃ L6, A6.length = L6 := ⟨_, rfl⟩
          rw [hL1] at x4 d1 fc hwe; rw [hL2] at x5 d1 fc hwe; rw [hL3] at x6 d1 fc hwe; rw [hL4] at x11 d2 fc hwe; rw [hL5] at x12 d2 fc hwe; rw [hL6] at x13 d2 fc hwe
          clear hc hb2 hv1 hv2 hcl hL1 hL2 hL3 hL4 hL5 hL6 hqe
          go_upto_region 8 with fail
          have hBd : Below we.heap.size we { we with drawn := we.drawn + 1 } := below_drew we
          refine Heavy.region_plan (fun w' => Below we.heap.size we w') 11 (Heavy.lights [0, 1, 2, 4, 5, 7, 8] (.one 3 (.one 6 (Heavy.lights [9] (.one 10 .done))))) (by kernel_rfl) (by kernel_rfl) hBd ?_
          simp only [Heavy.lights, List.take_succ_cons, List.take_zero, List.drop_succ_cons, List.drop_zero]
          iterate 7 (apply Heavy.light_n; (exact rfl); (exact rfl); (intro wr2 hw; have ka0 := (fc wr2 hw).1; have ka1 := (fc wr2 hw).2.1; have ka2 := (fc wr2 hw).2.2.1; have ka3 := (fc wr2 hw).2.2.2.1; have ka4 := (fc wr2 hw).2.2.2.2.1; have ka5 := (fc wr2 hw).2.2.2.2.2.1; have ka6 := (fc wr2 hw).2.2.2.2.2.2.1; have ka7 := (fc wr2 hw).2.2.2.2.2.2.2.1; have ka8 := (fc wr2 hw).2.2.2.2.2.2.2.2.1; have ka9 := (fc wr2 hw).2.2.2.2.2.2.2.2.2.1; have ka10 := (fc wr2 hw).2.2.2.2.2.2.2.2.2.2.1; have ka11 := (fc wr2 hw).2.2.2.2.2.2.2.2.2.2.2.1; have ka12 := (fc wr2 hw).2.2.2.2.2.2.2.2.2.2.2.2.1; have ka13 := (fc wr2 hw).2.2.2.2.2.2.2.2.2.2.2.2.2.1; have ka14 := (fc wr2 hw).2.2.2.2.2.2.2.2.2.2.2.2.2.2; go_simp; exact rfl))
          apply Heavy.one_n
          · exact rfl
          · exact rfl
          go_simp
          refine (d1 _ hBd).mono ?_
          rintro e w3 ⟨vs1, rfl, ht1, hb3⟩
          have hB4 : Below we.heap.size we w3 := hBd.trans hb3
          refine ⟨_, rfl, hB4, ?_⟩
          apply Heavy.one_n
          · exact rfl
          · exact rfl
          go_simp
          refine (d2 _ hB4).mono ?_
          rintro e w4 ⟨vs2, rfl, ht2, hb4⟩
          have hB5 : Below we.heap.size we w4 := hB4.trans (hb4.mono hB4.size)
          refine ⟨_, rfl, hB5, ?_⟩
          have ht1' := ht1
          have ht2' := ht2
          simp only [TmS] at ht1' ht2'
          obtain ⟨p1, q1, p2, q2, p3, q3, rfl, _⟩ := ht1'
          obtain ⟨p4, q4, p5, q5, p6, q6, rfl, _⟩ := ht2'
          apply Heavy.light_n
          · exact rfl
          · exact rfl
          · intro wr2 hw
            go_simp
            exact rfl
          apply Heavy.one_n
          · exact rfl
          · exact rfl
          go_simp
          have hB6 := below_alloc w4 (Obj.cells #[.int .i64 k1, .int .i64 v1, .string nm1, .bool g1, .slice p1 A1.length q1, .slice p2 A2.length q2, .slice p3 A3.length q3, .int .i64 k2, .int .i64 v2, .string nm2, .bool g2, .slice p4 A4.length q4, .slice p5 A5.length q5, .slice p6 A6.length q6, .int .i64 vv] 38)
          have hq6 := heap_alloc_new w4 (Obj.cells #[.int .i64 k1, .int .i64 v1, .string nm1, .bool g1, .slice p1 A1.length q1, .slice p2 A2.length q2, .slice p3 A3.length q3, .int .i64 k2, .int .i64 v2, .string nm2, .bool g2, .slice p4 A4.length q4, .slice p5 A5.length q5, .slice p6 A6.length q6, .int .i64 vv] 38)
          have hs6 : Aside ((w4.alloc (Obj.cells #[.int .i64 k1, .int .i64 v1, .string nm1, .bool g1, .slice p1 A1.length q1, .slice p2 A2.length q2, .slice p3 A3.length q3, .int .i64 k2, .int .i64 v2, .string nm2, .bool g2, .slice p4 A4.length q4, .slice p5 A5.length q5, .slice p6 A6.length q6, .int .i64 vv] 38)).heap.size = w4.heap.size + 1) := by show _ = _; simp
          obtain ⟨w5, hw5⟩ : ∃ w5, w4.alloc (Obj.cells #[.int .i64 k1, .int .i64 v1, .string nm1, .bool g1, .slice p1 A1.length q1, .slice p2 A2.length q2, .slice p3 A3.length q3, .int .i64 k2, .int .i64 v2, .string nm2, .bool g2, .slice p4 A4.length q4, .slice p5 A5.length q5, .slice p6 A6.length q6, .int .i64 vv] 38) = w5 := ⟨_, rfl⟩
          rw [hw5] at hB6 hq6 hs6
          have hBe5 : Below we.heap.size we w5 := hB5.trans (hB6.mono hB5.size)
          have hBw5 : Below w.heap.size w w5 := hB3.trans (hBe5.mono hB3.size)
          obtain ⟨X2, hX2, _⟩ := hO2
          have hown := World.ownsRow.lt hX2
          have hO5 := hO.kept (hB2.trans (hBe5.mono hB2.size))
          obtain ⟨X, hX, hXe⟩ := hO5
          have t1 : TmS (Own w.heap.size w5 _) w5 _ _ := TmS.mono (S' := Own w.heap.size w5 _) (fun b hb => ⟨Nat.le_trans hB3.size hb.1, by have := hb.2; have := hb4.size; have := hB6.size; omega, fun e => by have h1 := (hown b e).2; have h2 : we.heap.size ≤ b := hb.1; omega⟩) _ _ (TmS.keep (Same.of_below (hb4.trans (hB6.mono hb4.size)) fun b hb => hb.2) _ _ ht1)
          have t2 : TmS (Own w.heap.size w5 _) w5 _ _ := TmS.mono (S' := Own w.heap.size w5 _) (fun b hb => ⟨Nat.le_trans hB3.size (Nat.le_trans hB4.size hb.1), by have := hb.2; have := hB6.size; omega, fun e => by have := (hown b e).2; have := hb.1; have := hB4.size; omega⟩) _ _ (TmS.keep (Same.of_below hB6 fun b hb => hb.2) _ _ ht2)
          have htake : K ++ cls.take (j + 1) = K ++ cls.take j ++ [⟨.mk k1 v1 nm1 g1 A1 A2 A3, .mk k2 v2 nm2 g2 A4 A5 A6, vv⟩] := by
            rw [List.take_add_one, hC, List.append_assoc]; rfl
          have hlenK : (K ++ cls.take j).length ≤ 2000000 := by
            have := Ac.out.2.2
            rw [List.length_append] at this ⊢
            have h2 : (cls.take j).length ≤ cls.length := by rw [List.length_take]; omega
            omega
          have hone : ∀ u ∈ ([.int .i64 k1, .int .i64 v1, .string nm1, .bool g1, .slice p1 A1.length q1, .slice p2 A2.length q2, .slice p3 A3.length q3, .int .i64 k2, .int .i64 v2, .string nm2, .bool g2, .slice p4 A4.length q4, .slice p5 A5.length q5, .slice p6 A6.length q6, .int .i64 vv] : List Value), u.oneCell' = true := by
            intro u hu
            simp only [List.mem_cons, List.not_mem_nil, or_false] at hu
            rcases hu with rfl | rfl | rfl | rfl | rfl | rfl | rfl | rfl | rfl | rfl | rfl | rfl | rfl | rfl | rfl <;> rfl
          have hnews : ∀ (m : Nat) u, ([.int .i64 k1, .int .i64 v1, .string nm1, .bool g1, .slice p1 A1.length q1, .slice p2 A2.length q2, .slice p3 A3.length q3, .int .i64 k2, .int .i64 v2, .string nm2, .bool g2, .slice p4 A4.length q4, .slice p5 A5.length q5, .slice p6 A6.length q6, .int .i64 vv] : List Value)[m]? = some u → w5.cell? ((⟨w4.heap.size, 0, none⟩ : Addr).add m) = some u := by
            intro m u hm
            rw [Addr.add_lit, Nat.zero_add]
            simp only [World.cell?, hq6]
            simpa using hm
          have hbase5 : w.heap.size ≤ w5.heap.size := hBw5.size
          refine ⟨by rw [hw5]; exact hBe5, ?_⟩
          refine Heavy.plan_end ?_
          rw [hw5]
          clear hw5
          have Aj : Aside (j < lc) := hltj
          clear hq6 d1 d2 fc hb3 hb4 hB4 hB5 hB6 hltj hC
          go_wp2_with (at_builtin; refine wpList_pushC _ rfl _ _ rfl w.heap.size _ _ X rfl hX ⟨w4.heap.size, 0, none⟩ 1 [.int .i64 k1, .int .i64 v1, .string nm1, .bool g1, .slice p1 A1.length q1, .slice p2 A2.length q2, .slice p3 A3.length q3, .int .i64 k2, .int .i64 v2, .string nm2, .bool g2, .slice p4 A4.length q4, .slice p5 A5.length q5, .slice p6 A6.length q6, .int .i64 vv] rfl rfl hnews hone hlenK hbase5 ?_; intro v' w6 hX6 hg6 hv6)
          exact ⟨⟨j + 1, by simp, by have := Aj.out; omega, by rw [htake]; exact OutI.push hX hXe rfl rfl t1 t2 hX6 hg6 hv6, hBw5.grown hg6 hbase5 fun k hk => (World.ownsRow.lt hX k hk).1⟩, by have := Aj.out; simp [intOf]; omega⟩
        · obtain rfl : j = lc := by omega
          have hfin : K ++ cls.take j = allCls (P.take (i + 1)) := by rw [← Ac.out.1, List.take_length, Ac.out.2.1]
          rw [hfin] at hO
          clear hcl hfin
          go_wp2_with fail
          exact ⟨⟨i + 1, by simp, by omega, hO, hB⟩, by simp [intOf]; omega⟩
    · obtain rfl : i = len := by omega
      have hfin : P.take i = P := by rw [← Al.out.1, List.take_length]
      rw [hfin] at hO
      clear hP hfin
      go_wp2
      go_ret
      exact ⟨_, rfl, hO, hB⟩
end Go.Proofs.YtihaajnknnapmaaGreatDoor
end
