/-
  A part of the proof of the card of WorkComposeIsAssociative (second form): lemmas that the text Card uses. No condition of its own.
-/
import Derived.Test.YtcbgbiddkkfjmaaGreatDoorCompose
import Derived.Test.YtcbgbiddkkfjmaaGreatDoorChecks
set_option linter.all false
set_option linter.unusedVariables false
set_option linter.unusedSimpArgs false
section
namespace Go.Proofs.YtcbgbiddkkfjmaaGreatDoor
open Go.RowKit Go.Sort
/-- the law's own blocks -/
structure LW (n0 : Nat) (g1 g2 g3 : Array Value) (wb : World) : Prop where
  b0 : wb.heap[n0]? = some (.cells g1 24 (0, 0))
  b1 : wb.heap[n0 + 1]? = some (.cells g2 24 (0, 0))
  b2 : wb.heap[n0 + 1 + 1]? = some (.cells g3 24 (0, 0))
theorem LW.below {n0 : Nat} {g1 g2 g3 : Array Value} {wb wr : World} (h : LW n0 g1 g2 g3 wb) (hb : Below (n0 + 3) wb wr) : LW n0 g1 g2 g3 wr :=
  ⟨(hb.block _ (by omega)).trans h.b0, (hb.block _ (by omega)).trans h.b1, (hb.block _ (by omega)).trans h.b2⟩
theorem LW.start (g1 g2 g3 : Array Value) (w : World) : LW w.heap.size g1 g2 g3 (((w.alloc (Obj.cells g1 24)).alloc (Obj.cells g2 24)).alloc (Obj.cells g3 24)) := by
  have a : ∀ (o1 o2 o3 : Obj), (((w.alloc o1).alloc o2).alloc o3).heap[w.heap.size]? = some o1 ∧ (((w.alloc o1).alloc o2).alloc o3).heap[w.heap.size + 1]? = some o2 ∧
      (((w.alloc o1).alloc o2).alloc o3).heap[w.heap.size + 1 + 1]? = some o3 := by
    intro o1 o2 o3
    have s1 : (w.alloc o1).heap.size = w.heap.size + 1 := World.size_alloc _ _
    have s2 : ((w.alloc o1).alloc o2).heap.size = w.heap.size + 1 + 1 := by rw [World.size_alloc, s1]
    have n1 := heap_alloc_new w o1
    have n2 := heap_alloc_new (w.alloc o1) o2
    have n3 := heap_alloc_new ((w.alloc o1).alloc o2) o3
    rw [s1] at n2
    rw [s2] at n3
    refine ⟨?_, ?_, n3⟩
    · rw [Below.heap_alloc _ _ _ (by omega), Below.heap_alloc _ _ _ (by omega)]; exact n1
    · rw [Below.heap_alloc _ _ _ (by omega)]; exact n2
  obtain ⟨a0, a1, a2⟩ := a (Obj.cells g1 24) (Obj.cells g2 24) (Obj.cells g3 24)
  exact ⟨a0, a1, a2⟩
theorem LW.cells {n0 : Nat} {f1 t1 f2 t2 f3 t3 : Int} {s1 s2 s3 : Value} {w : World} (h : LW n0 #[.int .i64 f1, .int .i64 t1, s1] #[.int .i64 f2, .int .i64 t2, s2] #[.int .i64 f3, .int .i64 t3, s3] w) :
    w.cell? ⟨n0, 0, none⟩ = some (.int .i64 f1) ∧ w.cell? ⟨n0, 1, none⟩ = some (.int .i64 t1) ∧ w.cell? ⟨n0, 2, none⟩ = some s1 ∧
    w.cell? ⟨n0 + 1, 0, none⟩ = some (.int .i64 f2) ∧ w.cell? ⟨n0 + 1, 1, none⟩ = some (.int .i64 t2) ∧ w.cell? ⟨n0 + 1, 2, none⟩ = some s2 ∧
    w.cell? ⟨n0 + 1 + 1, 0, none⟩ = some (.int .i64 f3) ∧ w.cell? ⟨n0 + 1 + 1, 1, none⟩ = some (.int .i64 t3) ∧ w.cell? ⟨n0 + 1 + 1, 2, none⟩ = some s3 := by
  simp [World.cell?, h.b0, h.b1, h.b2]
theorem LinksAt.mono {n n' : Nat} {w : World} {sv : Value} {L : List Lk} (h : LinksAt n w sv L) (hn : n ≤ n') : LinksAt n' w sv L := by
  obtain ⟨a, cap, e, h1, h2⟩ := h
  refine ⟨a, cap, e, h1, fun hne => ?_⟩
  obtain ⟨b, off, e2, hb, hc⟩ := h2 hne
  exact ⟨b, off, e2, by omega, hc⟩
theorem cells3 {w : World} {k : Nat} {a b c : Value} {e : TypeId} {fr : Nat × Nat} (h : w.heap[k]? = some (.cells #[a, b, c] e fr)) : w.cell? ⟨k, 0, none⟩ = some a ∧ w.cell? ⟨k, 1, none⟩ = some b ∧ w.cell? ⟨k, 2, none⟩ = some c := by
  simp [World.cell?, h]
theorem ComposeSays.open {f1 t1 f2 t2 : Int} {A B : List Lk} {w w' : World} {e : Ending} (h : ComposeSays f1 t1 f2 t2 A B w e w') :
    (∃ (fa ta : Int) (p : Option Addr) (m c : Nat) (b : Bool) (ec : Int), e = .returned (.tuple #[.agg #[.int .i64 fa, .int .i64 ta, .slice p m c], .bool b, .int .i64 ec]) ∧
      ((b = true ∧ ec = 0 ∧ f1 = fa ∧ t2 = ta ∧ goodG f1 t1 A ∧ goodG f2 t2 B ∧ t1 = f2 ∧ ∃ L, L.length = m ∧ LinksAt w'.heap.size w' (.slice p m c) L ∧ IsComp A B L) ∨ (b = false ∧ ¬ (goodG f1 t1 A ∧ goodG f2 t2 B ∧ t1 = f2)))) ∧ Below w.heap.size w w' := by
  obtain ⟨⟨sv, L, rfl, h1, h2, h3, h4, h5⟩ | ⟨c, rfl, h1⟩, hb⟩ := h
  · have h4' := h4
    obtain ⟨p, c, rfl, _, _⟩ := h4'
    exact ⟨⟨_, _, _, _, _, _, _, rfl, .inl ⟨rfl, rfl, rfl, rfl, h1, h2, h3, L, rfl, h4, h5⟩⟩, hb⟩
  · exact ⟨⟨_, _, _, _, _, _, _, rfl, .inr ⟨rfl, h1⟩⟩, hb⟩
end Go.Proofs.YtcbgbiddkkfjmaaGreatDoor
end
section
namespace Go.Proofs.YtcbgbiddkkfjmaaGreatDoor
open Go.RowKit Go.Sort
set_option maxRecDepth 100000 in
set_option maxHeartbeats 1000000 in
theorem law_calls (fx tx fy ty fz tz : Int) (ax ay az : Option Addr) (capx capy capz lenx leny lenz n : Nat) (X Y Z : List Lk) (hlx : X.length = lenx) (hly : Y.length = leny) (hlz : Z.length = lenz) (hsx : lenx ≤ 1048576) (hsy : leny ≤ 1048576) (hsz : lenz ≤ 1048576)
    (w : World) (hn : n ≤ w.heap.size) (hgl : Tryz.prog.globals.size ≤ w.heap.size) (hx : LinksAt n w (.slice ax lenx capx) X) (hy : LinksAt n w (.slice ay leny capy) Y) (hz : LinksAt n w (.slice az lenz capz) Z) :
    Calls Tryz.prog 3 #[.agg #[.int .i64 fx, .int .i64 tx, .slice ax lenx capx], .agg #[.int .i64 fy, .int .i64 ty, .slice ay leny capy], .agg #[.int .i64 fz, .int .i64 tz, .slice az lenz capz]] w fun e w' =>
      e = .returned (.bool true) ∧ Below w.heap.size w w' := by
  have hroom : ∀ (U V : List Lk), U.length ≤ 1048576 → V.length ≤ 1048576 → (U.map Lk.f).length * (V.map Lk.t).length ≤ 2199023255552 := fun U V h1 h2 => by
    rw [List.length_map, List.length_map]
    exact Nat.le_trans (Nat.mul_le_mul h1 h2) (by decide)
  have memf : ∀ (U : List Lk), ∀ u ∈ U, u.f ∈ U.map Lk.f := fun U u hu => List.mem_map.2 ⟨u, hu, rfl⟩
  have memt : ∀ (U : List Lk), ∀ u ∈ U, u.t ∈ U.map Lk.t := fun U u hu => List.mem_map.2 ⟨u, hu, rfl⟩
  go_enter Tryz.func3, Tryz.ntmps3
  go_wp2_with (go_at_call 4; fail)
  have lw0 := LW.start #[.int .i64 fx, .int .i64 tx, .slice ax lenx capx] #[.int .i64 fy, .int .i64 ty, .slice ay leny capy] #[.int .i64 fz, .int .i64 tz, .slice az lenz capz] w
  obtain ⟨wb, hwb⟩ : ∃ wb, ((w.alloc (Obj.cells #[.int .i64 fx, .int .i64 tx, .slice ax lenx capx] 24)).alloc (Obj.cells #[.int .i64 fy, .int .i64 ty, .slice ay leny capy] 24)).alloc (Obj.cells #[.int .i64 fz, .int .i64 tz, .slice az lenz capz] 24) = wb := ⟨_, rfl⟩
  have b0 : Below w.heap.size w wb := by rw [← hwb]; exact (below_alloc2 _ _ _).alloc (by simp; omega) _
  have hsz0 : wb.heap.size = w.heap.size + 3 := by rw [← hwb]; simp
  rw [hwb] at lw0 ⊢
  clear hwb
  have hx0 := hx.below (b0.mono hn)
  have hy0 := hy.below (b0.mono hn)
  have hz0 := hz.below (b0.mono hn)
  clear hx hy hz
  have c1 := Compose_calls (X.map Lk.f) (Y.map Lk.t) (hroom X Y (by omega) (by omega)) fx tx fy ty ax ay capx capy lenx leny n X Y (memf X) (memt Y) hlx hly wb (by omega) hx0 hy0
  refine c1.mono ?_
  rintro e1 w1 h1
  obtain ⟨⟨fa, ta, pa, ma, ca, ba, ea, rfl, hA⟩, hb1⟩ := h1.open
  clear c1 h1
  have hs1 := hb1.size
  have hb1' : Below wb.heap.size wb (w1.alloc (Obj.cells #[.int .i64 fa, .int .i64 ta, .slice pa ma ca] 24)) := hb1.alloc (by omega) _
  have hx1 := hx0.below (hb1'.mono (by omega))
  have hy1 := hy0.below (hb1'.mono (by omega))
  have hz1 := hz0.below (hb1'.mono (by omega))
  have lw1 := lw0.below (hb1'.mono (by omega))
  obtain ⟨k10, k11, k12, k13, k14, k15, k16, k17, k18⟩ := lw1.cells
  have c2 := Compose_calls (Y.map Lk.f) (Z.map Lk.t) (hroom Y Z (by omega) (by omega)) fy ty fz tz ay az capy capz leny lenz n Y Z (memf Y) (memt Z) hly hlz (w1.alloc (Obj.cells #[.int .i64 fa, .int .i64 ta, .slice pa ma ca] 24)) (by rw [World.size_alloc]; omega) hy1 hz1
  clear hx0 hy0 hz0 hy1
  simp only
  go_wp2_with (go_at_call 4; fail)
  refine c2.mono ?_
  rintro e2 w2 h2
  obtain ⟨⟨fb, tb, pb, mb, cb, bb, eb, rfl, hBB⟩, hb2⟩ := h2.open
  clear c2 h2
  have hs2 := hb2.size
  rw [World.size_alloc] at hs2
  obtain ⟨W2, hW2⟩ : ∃ W2, w2.alloc (Obj.cells #[.int .i64 fb, .int .i64 tb, .slice pb mb cb] 24) = W2 := ⟨_, rfl⟩
  have hB2 : Below (w1.heap.size + 1) (w1.alloc (Obj.cells #[.int .i64 fa, .int .i64 ta, .slice pa ma ca] 24)) W2 := by
    rw [World.size_alloc] at hb2; rw [← hW2]; exact hb2.alloc (by omega) _
  have hS2 : W2.heap.size = w2.heap.size + 1 := by rw [← hW2]; exact World.size_alloc _ _
  have hbase2 : Below w.heap.size w W2 := b0.trans ((hb1'.mono (by omega)).trans (hB2.mono (by omega)))
  have hleft : W2.heap[w1.heap.size]? = some (.cells #[.int .i64 fa, .int .i64 ta, .slice pa ma ca] 24 (0, 0)) := (hB2.block _ (by omega)).trans (heap_alloc_new w1 _)
  have hright : W2.heap[w2.heap.size]? = some (.cells #[.int .i64 fb, .int .i64 tb, .slice pb mb cb] 24 (0, 0)) := by rw [← hW2]; exact heap_alloc_new w2 _
  have lw2 := lw1.below (hB2.mono (by omega))
  have fin : ∀ Wf, w.heap.size ≤ Wf.heap.size → Calls Tryz.prog 5 #[] Wf fun e w' => e = .returned (.bool true) ∧ Below Wf.heap.size Wf w' := fun Wf h => appends_calls Wf (by omega)
  have hc2 := hb2.size
  simp only
  rcases hA with ⟨rfl, rfl, rfl, rfl, gX, gY, rfl, L, hLm, hL, hcL⟩ | ⟨rfl, hno⟩
  · rcases hBB with ⟨rfl, rfl, rfl, rfl, _, gZ, rfl, R, hRm, hR, hcR⟩ | ⟨rfl, hno⟩
    · obtain ⟨k20, k21, k22, k23, k24, k25, k26, k27, k28⟩ := lw2.cells
      obtain ⟨l0, l1, l2⟩ := cells3 hleft
      have hL2 : LinksAt w2.heap.size W2 (.slice pa ma ca) L := (hL.below ((below_alloc w1 _).trans (hB2.mono (by omega)))).mono (by omega)
      have hz2 : LinksAt w2.heap.size W2 (.slice az lenz capz) Z := (hz1.below (hB2.mono (by omega))).mono (by omega)
      have c3 := Compose_calls (X.map Lk.f) (Z.map Lk.t) (hroom X Z (by omega) (by omega)) fx ty ty tz pa az ca capz ma lenz w2.heap.size L Z (hcL.froms (memf X)) (memt Z) hLm hlz W2 (by omega) hL2 hz2
      go_wp2_with (go_at_call 4; fail)
      refine c3.mono ?_
      rintro e3 w3 h3
      obtain ⟨⟨fc, tc, pc, mc, cc, bc, ec, rfl, hCC⟩, hb3⟩ := h3.open
      clear c3 h3
      have gL : goodG fx ty L := hcL.good gX gY
      have gR : goodG tx tz R := hcR.good gY gZ
      rcases hCC with ⟨rfl, rfl, rfl, rfl, _, _, _, S, hSm, hS, hcS⟩ | ⟨_, hno⟩
      rotate_left
      · exact absurd ⟨gL, gZ, rfl⟩ hno
      have hs3 := hb3.size
      obtain ⟨W3, hW3⟩ : ∃ W3, w3.alloc (Obj.cells #[.int .i64 fx, .int .i64 tz, .slice pc mc cc] 24) = W3 := ⟨_, rfl⟩
      have hB3 : Below W2.heap.size W2 W3 := by rw [← hW3]; exact hb3.alloc (by omega) _
      have hS3 : W3.heap.size = w3.heap.size + 1 := by rw [← hW3]; exact World.size_alloc _ _
      have hsb : W3.heap[w3.heap.size]? = some (.cells #[.int .i64 fx, .int .i64 tz, .slice pc mc cc] 24 (0, 0)) := by rw [← hW3]; exact heap_alloc_new w3 _
      have hSW3 : LinksAt w3.heap.size W3 (.slice pc mc cc) S := by rw [← hW3]; exact hS.below (below_alloc _ _)
      have hx3 : LinksAt w3.heap.size W3 (.slice ax lenx capx) X := ((hx1.below (hB2.mono (by omega))).below (hB3.mono (by omega))).mono (by omega)
      have hRW2 : LinksAt w2.heap.size W2 (.slice pb mb cb) R := by rw [← hW2]; exact hR.below (below_alloc _ _)
      have hR3 : LinksAt w3.heap.size W3 (.slice pb mb cb) R := (hRW2.below (hB3.mono (by omega))).mono (by omega)
      obtain ⟨k30, k31, k32, k33, k34, k35, k36, k37, k38⟩ := (lw2.below (hB3.mono (by omega))).cells
      obtain ⟨r0, r1, r2⟩ := cells3 ((hB3.block _ (by omega)).trans hright)
      have c4 := Compose_calls (X.map Lk.f) (Z.map Lk.t) (hroom X Z (by omega) (by omega)) fx tx tx tz ax pb capx cb lenx mb w3.heap.size X R (memf X) (hcR.tos (memt Z)) hlx hRm W3 (by omega) hx3 hR3
      simp only
      go_wp2_with (go_at_call 4; fail)
      refine c4.mono ?_
      rintro e4 w4 h4
      obtain ⟨⟨fd, td, pd, md, cd, bd, ed, rfl, hDD⟩, hb4⟩ := h4.open
      clear c4 h4
      rcases hDD with ⟨rfl, rfl, rfl, rfl, _, _, _, S', hSm', hS', hcS'⟩ | ⟨_, hno⟩
      rotate_left
      · exact absurd ⟨gX, gR, rfl⟩ hno
      obtain rfl : S = S' := comp_assoc hcL hcS hcR hcS'
      have hmd : md = mc := by omega
      subst hmd
      have hs4 := hb4.size
      obtain ⟨W4, hW4⟩ : ∃ W4, w4.alloc (Obj.cells #[.int .i64 fx, .int .i64 tz, .slice pd md cd] 24) = W4 := ⟨_, rfl⟩
      have hB4 : Below W3.heap.size W3 W4 := by rw [← hW4]; exact hb4.alloc (by omega) _
      have hS4 : W4.heap.size = w4.heap.size + 1 := by rw [← hW4]; exact World.size_alloc _ _
      have htb : W4.heap[w4.heap.size]? = some (.cells #[.int .i64 fx, .int .i64 tz, .slice pd md cd] 24 (0, 0)) := by rw [← hW4]; exact heap_alloc_new w4 _
      have hTW4 : LinksAt w4.heap.size W4 (.slice pd md cd) S := by rw [← hW4]; exact hS'.below (below_alloc _ _)
      have hSW4 : LinksAt w4.heap.size W4 (.slice pc md cc) S := (hSW3.below (hB4.mono (by omega))).mono (by omega)
      obtain ⟨s0, s1, s2⟩ := cells3 ((hB4.block _ (by omega)).trans hsb)
      obtain ⟨q0, q1, q2⟩ := cells3 htb
      have hbase4 : Below w.heap.size w W4 := hbase2.trans ((hB3.mono (by omega)).trans (hB4.mono (by omega)))
      have gO := graphOrder_same fx tz pc pd cc cd md w4.heap.size S hSm W4 (by omega) hSW4 hTW4
      simp only
      clear hS hS' hSW3 hx3 hRW2 hR3 hL hR hL2 hz2 hx1 hz1
      go_wp2_with (go_at_call 6; fail)
      refine gO.mono ?_
      rintro e5 w5 ⟨rfl, hb5⟩
      simp only
      go_wp2_with (go_at_call 5; refine (fin _ (by have := hb5.size; omega)).mono ?_; rintro e w' ⟨rfl, hb⟩)
      all_goals go_ret
      all_goals exact ⟨rfl, hbase4.trans ((hb5.mono (by omega)).trans (hb.mono (by have := hb5.size; omega)))⟩
    · clear k10 k11 k12 k13 k14 k15 k16 k17 k18
      go_wp2_with (go_at_call 5; refine (fin _ (by omega)).mono ?_; rintro e w' ⟨rfl, hb⟩)
      all_goals go_ret
      all_goals exact ⟨rfl, hbase2.trans (hb.mono (by omega))⟩
  · clear k10 k11 k12 k13 k14 k15 k16 k17 k18 hBB
    go_wp2_with (go_at_call 5; refine (fin _ (by omega)).mono ?_; rintro e w' ⟨rfl, hb⟩)
    all_goals go_ret
    all_goals exact ⟨rfl, hbase2.trans (hb.mono (by omega))⟩
end Go.Proofs.YtcbgbiddkkfjmaaGreatDoor
end
