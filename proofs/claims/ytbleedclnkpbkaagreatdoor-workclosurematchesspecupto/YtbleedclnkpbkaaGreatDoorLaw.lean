/-
  A part of the proof of the card of WorkClosureMatchesSpec (second form): lemmas that the text Card uses. No condition of its own.
-/
import Derived.Test.YtbleedclnkpbkaaGreatDoorClosB
import Derived.Test.YtbleedclnkpbkaaGreatDoorRefE
import Derived.Test.YtbleedclnkpbkaaGreatDoorCompose
import Derived.Test.YtbleedclnkpbkaaGreatDoorChecks
set_option linter.all false
set_option linter.unusedVariables false
set_option linter.unusedSimpArgs false
section
namespace Go.Proofs.YtbleedclnkpbkaaGreatDoor
open Go.RowKit Go.Sort
attribute [local go_sem] Heavy.uponW
theorem cells3 {w : World} {k : Nat} {a b c : Value} {e : TypeId} {fr : Nat × Nat} (h : w.heap[k]? = some (.cells #[a, b, c] e fr)) : w.cell? ⟨k, 0, none⟩ = some a ∧ w.cell? ⟨k, 1, none⟩ = some b ∧ w.cell? ⟨k, 2, none⟩ = some c := by
  simp [World.cell?, h]
theorem GraphsAt.mono {n n' : Nat} {w : World} {sv : Value} {Gs : List Gr} (h : GraphsAt n w sv Gs) (hn : n ≤ n') : GraphsAt n' w sv Gs := by
  obtain ⟨a, cap, e, h1, h2⟩ := h
  refine ⟨a, cap, e, h1, fun hne => ?_⟩
  obtain ⟨b, off, e2, hb, hc⟩ := h2 hne
  refine ⟨b, off, e2, by omega, fun j g hg => ?_⟩
  obtain ⟨c0, c1, la, lc, c2, hL⟩ := hc j g hg
  exact ⟨c0, c1, la, lc, c2, hL.mono hn⟩
theorem GraphsAt.none_ (n : Nat) (w : World) : GraphsAt n w (.slice none 0 0) [] := ⟨none, 0, rfl, by simp, fun h => absurd rfl h⟩
theorem ComposeSays.open {f1 t1 f2 t2 : Int} {A B : List Lk} {w w' : World} {e : Ending} (h : ComposeSays f1 t1 f2 t2 A B w e w') :
    (∃ (fa ta : Int) (p : Option Addr) (m c : Nat) (b : Bool) (ec : Int), e = .returned (.tuple #[.agg #[.int .i64 fa, .int .i64 ta, .slice p m c], .bool b, .int .i64 ec]) ∧
      ((b = true ∧ ec = 0 ∧ f1 = fa ∧ t2 = ta ∧ goodG f1 t1 A ∧ goodG f2 t2 B ∧ t1 = f2 ∧ ∃ L, L.length = m ∧ LinksAt w'.heap.size w' (.slice p m c) L ∧ IsComp A B L) ∨
       (b = false ∧ fa = 0 ∧ ta = 0 ∧ p = none ∧ m = 0 ∧ c = 0 ∧ ((ec = 0 ∧ goodG f1 t1 A ∧ goodG f2 t2 B ∧ t1 ≠ f2) ∨ (ec = 2 ∧ ¬ (goodG f1 t1 A ∧ goodG f2 t2 B)))))) ∧ Below w.heap.size w w' := by
  obtain ⟨⟨sv, L, rfl, h1, h2, h3, h4, h5⟩ | ⟨c, rfl, h1⟩, hb⟩ := h
  · have h4' := h4
    obtain ⟨p, c, rfl, _, _⟩ := h4'
    exact ⟨⟨_, _, _, _, _, _, _, rfl, .inl ⟨rfl, rfl, rfl, rfl, h1, h2, h3, L, rfl, h4, h5⟩⟩, hb⟩
  · exact ⟨⟨_, _, _, _, _, _, _, rfl, .inr ⟨rfl, rfl, rfl, rfl, rfl, rfl, h1⟩⟩, hb⟩
theorem WSays.open {l : List Gr} {w w' : World} {e : Ending} (h : WSays l w e w') : ∃ (p : Option Addr) (m c : Nat) (ec : Int) (Gs : List Gr), e = .returned (.tuple #[.slice p m c, .int .i64 ec]) ∧ Gs.length = m ∧ GraphsAt w'.heap.size w' (.slice p m c) Gs ∧ Below w.heap.size w w' ∧
    ((ec = 0 ∧ (∀ g ∈ l, g.good) ∧ Closed l 1000 Gs) ∨ (ec = 3 ∧ (∀ g ∈ l, g.good) ∧ Many l 1000 ∧ Gs = []) ∨ (ec = 2 ∧ (∃ g ∈ l, ¬ g.good) ∧ Gs = [])) := by
  obtain ⟨⟨hg, ⟨sv, o, rfl, hG, hC⟩ | ⟨rfl, hC⟩⟩ | ⟨hg, rfl⟩, hb⟩ := h
  · have hG' := hG
    obtain ⟨a, cap, rfl, _, _⟩ := hG'
    exact ⟨_, _, _, _, o, rfl, rfl, hG, hb, .inl ⟨rfl, hg, hC⟩⟩
  · exact ⟨_, _, _, _, [], rfl, rfl, .none_ _ _, hb, .inr (.inl ⟨rfl, hg, hC, rfl⟩)⟩
  · exact ⟨_, _, _, _, [], rfl, rfl, .none_ _ _, hb, .inr (.inr ⟨rfl, hg, rfl⟩)⟩
/-- small enough -/
def limL (L : List Lk) : Prop := ∀ x ∈ L, x.f < 9223372036854775808 ∧ x.t < 9223372036854775808
def Gr.lim (g : Gr) : Prop := g.f < 9223372036854775808 ∧ g.t < 9223372036854775808 ∧ limL g.L
theorem Gr.lim.ok {g : Gr} (h : g.lim) (hg : g.good) : g.ok := by
  obtain ⟨h1, h2, h3⟩ := h
  obtain ⟨g1, g2, g3, _⟩ := hg
  refine ⟨⟨g1, h1⟩, ⟨g2, h2⟩, fun x hx => ?_⟩
  obtain ⟨i, hi⟩ := List.getElem?_of_mem hx
  exact ⟨⟨(g3 i x hi).1, (h3 x hx).1⟩, ⟨(g3 i x hi).2, (h3 x hx).2⟩⟩
set_option maxRecDepth 100000 in
set_option maxHeartbeats 8000000 in
/-- THE LAW -/
theorem law_calls (F T : List Int) (hFT : F.length * T.length ≤ 2199023255552) (a : Option Addr) (len cap n : Nat) (l : List Gr) (hlen : l.length = len) (hsmall : len ≤ 1048576) (hin : ∀ g ∈ l, ∀ x ∈ g.L, x.f ∈ F ∧ x.t ∈ T) (hlim : ∀ g ∈ l, g.lim)
    (hFk : (∀ g ∈ l, g.good) → ∀ x ∈ F, okI x) (hTk : (∀ g ∈ l, g.good) → ∀ x ∈ T, okI x)
    (fx tx fy ty : Int) (ax ay : Option Addr) (capx capy lenx leny : Nat) (X Y : List Lk) (hlx : X.length = lenx) (hly : Y.length = leny) (hsx : lenx ≤ 1048576) (hsy : leny ≤ 1048576) (hxl : Gr.lim ⟨fx, tx, X⟩) (hyl : Gr.lim ⟨fy, ty, Y⟩)
    (w : World) (hn : n ≤ w.heap.size) (hgl : Tryz.prog.globals.size ≤ w.heap.size) (h1 : GraphsAt n w (.slice a len cap) l) (hx : LinksAt n w (.slice ax lenx capx) X) (hy : LinksAt n w (.slice ay leny capy) Y) :
    Calls Tryz.prog 3 #[.slice a len cap, .agg #[.int .i64 fx, .int .i64 tx, .slice ax lenx capx], .agg #[.int .i64 fy, .int .i64 ty, .slice ay leny capy]] w fun e w' =>
      e = .returned (.bool true) ∧ Below w.heap.size w w' := by
  have hXY : (X.map Lk.f).length * (Y.map Lk.t).length ≤ 2199023255552 := by
    rw [List.length_map, List.length_map, hlx, hly]
    exact Nat.le_trans (Nat.mul_le_mul hsx hsy) (by decide)
  have memf : ∀ u ∈ X, u.f ∈ X.map Lk.f := fun u hu => List.mem_map.2 ⟨u, hu, rfl⟩
  have memt : ∀ u ∈ Y, u.t ∈ Y.map Lk.t := fun u hu => List.mem_map.2 ⟨u, hu, rfl⟩
  have hbig : len < 4611686018427387904 := by omega
  go_enter Tryz.func3, Tryz.ntmps3
  go_wp2_with (go_at_call 4; fail)
  have hbx : ((w.alloc (Obj.cells #[.int .i64 fx, .int .i64 tx, .slice ax lenx capx] 25)).alloc (Obj.cells #[.int .i64 fy, .int .i64 ty, .slice ay leny capy] 25)).heap[w.heap.size]? = some (.cells #[.int .i64 fx, .int .i64 tx, .slice ax lenx capx] 25 (0, 0)) := by
    rw [Below.heap_alloc _ _ _ (by rw [World.size_alloc]; omega)]; exact heap_alloc_new w _
  have hby : ((w.alloc (Obj.cells #[.int .i64 fx, .int .i64 tx, .slice ax lenx capx] 25)).alloc (Obj.cells #[.int .i64 fy, .int .i64 ty, .slice ay leny capy] 25)).heap[w.heap.size + 1]? = some (.cells #[.int .i64 fy, .int .i64 ty, .slice ay leny capy] 25 (0, 0)) := by
    have := heap_alloc_new (w.alloc (Obj.cells #[.int .i64 fx, .int .i64 tx, .slice ax lenx capx] 25)) (Obj.cells #[.int .i64 fy, .int .i64 ty, .slice ay leny capy] 25)
    rw [World.size_alloc] at this; exact this
  have b0 : Below w.heap.size w ((w.alloc (Obj.cells #[.int .i64 fx, .int .i64 tx, .slice ax lenx capx] 25)).alloc (Obj.cells #[.int .i64 fy, .int .i64 ty, .slice ay leny capy] 25)) := below_alloc2 _ _ _
  have hsz0 : ((w.alloc (Obj.cells #[.int .i64 fx, .int .i64 tx, .slice ax lenx capx] 25)).alloc (Obj.cells #[.int .i64 fy, .int .i64 ty, .slice ay leny capy] 25)).heap.size = w.heap.size + 2 := by simp
  generalize (w.alloc (Obj.cells #[.int .i64 fx, .int .i64 tx, .slice ax lenx capx] 25)).alloc (Obj.cells #[.int .i64 fy, .int .i64 ty, .slice ay leny capy] 25) = wb at hbx hby b0 hsz0 ⊢
  have h1b := h1.below (b0.mono hn)
  have hxb := hx.below (b0.mono hn)
  have hyb := hy.below (b0.mono hn)
  clear h1 hx hy
  refine (Closure_calls F T hFT a len cap n l hlen hsmall hin wb (by omega) h1b).mono ?_
  rintro e w1 h
  obtain ⟨p, m, c, ec, Gs, rfl, hm, hG, hb1, hcase⟩ := h.open
  clear h
  have hB1 : Below (w.heap.size + 2) wb w1 := hb1.mono (by omega)
  have hs1 := hb1.size
  simp only
  go_wp2
  go_loopw [9, 10] (fun s9 i wr => ∃ (k : Nat) (bz : Int), k ≤ len ∧ i = .int .i64 k ∧ s9 = .int .i64 bz ∧ Below w1.heap.size w1 wr ∧ ((bz = 0 ∧ ∀ (j : Nat) (g : Gr), j < k → l[j]? = some g → g.good) ∨ (bz = 2 ∧ ∃ g ∈ l, ¬ g.good))) (fun _ i _ => len - (intOf i).toNat)
  case atStart => exact ⟨0, 0, Nat.zero_le _, rfl, rfl, Below.refl _ _, .inl ⟨rfl, fun j g hj => absurd hj (by omega)⟩⟩
  case round =>
    obtain ⟨k, bz, hk, rfl, rfl, hBr, hor⟩ := hrel
    have hsr := hBr.size
    have hBwb : Below (w.heap.size + 2) wb wr := hB1.trans (hBr.mono (by omega))
    have g1 := h1b.below (hBwb.mono (by omega))
    by_cases hgo : k < len ∧ bz = 0
    · obtain ⟨hlt, rfl⟩ := hgo
      have hgd : ∀ (j : Nat) (g : Gr), j < k → l[j]? = some g → g.good := by
        rcases hor with ⟨_, h⟩ | ⟨h, _⟩
        · exact h
        · omega
      obtain ⟨x, hxk⟩ : ∃ x, l[k]? = some x := ⟨l[k], List.getElem?_eq_getElem (by omega)⟩
      obtain ⟨b1, o1, xa, xc, rfl, hb1', p0, p1, p2, px⟩ := g1.get hxk
      have rc := refFault_calls x.f x.t xa xc x.L.length n x.L rfl wr (by omega) px
      clear g1 h1b hor hcase
      go_wp2_with (go_at_call 5; refine rc.mono ?_; rintro e w' ⟨hor2, hb⟩; rcases hor2 with ⟨rfl, hgo⟩ | ⟨rfl, hno⟩)
      · refine ⟨⟨k + 1, 0, by omega, by simp, rfl, hBr.trans (hb.mono hsr), .inl ⟨rfl, fun j g hj hgj => ?_⟩⟩, by simp [intOf]; omega⟩
        by_cases hjk : j = k
        · subst hjk; rw [hxk] at hgj; cases hgj; exact hgo
        · exact hgd j g (by omega) hgj
      · exact ⟨⟨k + 1, 2, by omega, by simp, rfl, hBr.trans (hb.mono hsr), .inr ⟨rfl, x, List.mem_of_getElem? hxk, hno⟩⟩, by simp [intOf]; omega⟩
    · have hall : bz = 0 → ∀ g ∈ l, g.good := fun hz g hm => by
        obtain ⟨j, hj⟩ := List.getElem?_of_mem hm
        rcases hor with ⟨_, h⟩ | ⟨h, _⟩
        · exact h j g (by have := (List.getElem?_eq_some_iff.1 hj).1; omega) hj
        · omega
      have hbz : bz = 0 ∨ (bz = 2 ∧ ∃ g ∈ l, ¬ g.good) := hor.imp (·.1) id
      clear hor
      by_cases hk2 : k < len
      · obtain ⟨hb2, hbz⟩ : bz = 2 ∧ ∃ g ∈ l, ¬ g.good := by
          rcases hbz with h | h
          · exact absurd ⟨hk2, h⟩ hgo
          · exact h
        subst hb2
        go_upto_if 36 with fail
        go_cut [9, 11] from 15 (fun s9 s11 wc => ∃ (q : Option Addr) (cw : Nat), s9 = .int .i64 ec ∧ s11 = .slice q m cw ∧ GraphsAt wc.heap.size wc (.slice q m cw) Gs ∧ Below w1.heap.size w1 wc ∧ ∀ g ∈ Gs, g.ok)
        case first =>
          rcases hcase with ⟨_, hgd, _⟩ | ⟨_, hgd, _⟩ | ⟨rfl, _, rfl⟩
          · exact absurd (hgd _ (hbz.resolve_left (by omega)).2.choose_spec.1) (hbz.resolve_left (by omega)).2.choose_spec.2
          · exact absurd (hgd _ (hbz.resolve_left (by omega)).2.choose_spec.1) (hbz.resolve_left (by omega)).2.choose_spec.2
          · subst hm
            go_wp2
            go_meet
            exact ⟨none, 0, rfl, rfl, .none_ _ _, hBr, by simp⟩
        case rest =>
          obtain ⟨q, cw, rfl, rfl, hG2, hB2, hGok⟩ := hcut
          have hs2 := hB2.size
          have sg := sameGraphs_calls p q c cw m wc.heap.size Gs hm hGok wc (Nat.le_refl _) ((hG.below hB2).mono hs2) hG2
          clear hcase hall hbz hG hG2 g1
          go_wp2_with (first | (go_at_call 7; refine sg.mono ?_; rintro e w3 ⟨rfl, hb3⟩; have hB3 : Below (w.heap.size + 2) wb w3 := hB1.trans ((hB2.trans (hb3.mono hs2)).mono (by omega)); obtain ⟨x0, x1, x2⟩ := cells3 ((hB3.block w.heap.size (by omega)).trans hbx); obtain ⟨y0, y1, y2⟩ := cells3 ((hB3.block (w.heap.size + 1) (by omega)).trans hby)) | (go_at_call 8; fail))
          have hs3 := hB3.size
          refine (Compose_calls (X.map Lk.f) (Y.map Lk.t) hXY fx tx fy ty ax ay capx capy lenx leny n X Y memf memt hlx hly w3 (by omega) (hxb.below (hB3.mono (by omega))) (hyb.below (hB3.mono (by omega)))).mono ?_
          rintro e w4 h4
          obtain ⟨⟨fa, ta, pg, mg, cg, bg, eg, rfl, hD⟩, hb4⟩ := h4.open
          clear h4 sg x0 x1 x2 y0 y1 y2
          have hs4 := hb4.size
          have hB4 : Below (w.heap.size + 2) wb w4 := hB3.trans (hb4.mono (by omega))
          have hgB := heap_alloc_new w4 (Obj.cells #[.int .i64 fa, .int .i64 ta, .slice pg mg cg] 25)
          have hBa := below_alloc w4 (Obj.cells #[.int .i64 fa, .int .i64 ta, .slice pg mg cg] 25)
          have hW4s : (w4.alloc (Obj.cells #[.int .i64 fa, .int .i64 ta, .slice pg mg cg] 25)).heap.size = w4.heap.size + 1 := World.size_alloc _ _
          have hB5 : Below (w.heap.size + 2) wb (w4.alloc (Obj.cells #[.int .i64 fa, .int .i64 ta, .slice pg mg cg] 25)) := hB4.trans (hBa.mono (by omega))
          have hGL : ∀ L, LinksAt w4.heap.size w4 (.slice pg mg cg) L → LinksAt w4.heap.size (w4.alloc (Obj.cells #[.int .i64 fa, .int .i64 ta, .slice pg mg cg] 25)) (.slice pg mg cg) L := fun L h => h.below hBa
          have hsW4 : w.heap.size + 2 ≤ (w4.alloc (Obj.cells #[.int .i64 fa, .int .i64 ta, .slice pg mg cg] 25)).heap.size := by omega
          have fb : ∀ w', Below (w4.alloc (Obj.cells #[.int .i64 fa, .int .i64 ta, .slice pg mg cg] 25)).heap.size (w4.alloc (Obj.cells #[.int .i64 fa, .int .i64 ta, .slice pg mg cg] 25)) w' → Below w.heap.size w w' ∧ LinksAt n w' (.slice ax lenx capx) X ∧ LinksAt n w' (.slice ay leny capy) Y ∧
              (w'.cell? ⟨w.heap.size, 0, none⟩ = some (.int .i64 fx) ∧ w'.cell? ⟨w.heap.size, 1, none⟩ = some (.int .i64 tx) ∧ w'.cell? ⟨w.heap.size, 2, none⟩ = some (.slice ax lenx capx)) ∧
              (w'.cell? ⟨w.heap.size + 1, 0, none⟩ = some (.int .i64 fy) ∧ w'.cell? ⟨w.heap.size + 1, 1, none⟩ = some (.int .i64 ty) ∧ w'.cell? ⟨w.heap.size + 1, 2, none⟩ = some (.slice ay leny capy)) ∧
              (w'.cell? ⟨w4.heap.size, 0, none⟩ = some (.int .i64 fa) ∧ w'.cell? ⟨w4.heap.size, 1, none⟩ = some (.int .i64 ta) ∧ w'.cell? ⟨w4.heap.size, 2, none⟩ = some (.slice pg mg cg)) := fun w' hb => by
            have hBw : Below (w.heap.size + 2) wb w' := hB5.trans (hb.mono (by omega))
            exact ⟨b0.trans (hBw.mono (by omega)), hxb.below (hBw.mono (by omega)), hyb.below (hBw.mono (by omega)), cells3 ((hBw.block w.heap.size (by omega)).trans hbx), cells3 ((hBw.block (w.heap.size + 1) (by omega)).trans hby), cells3 ((hb.block w4.heap.size (by omega)).trans hgB)⟩
          have fin : ∀ Wf, w.heap.size ≤ Wf.heap.size → Calls Tryz.prog 9 #[] Wf fun e w' => e = .returned (.bool true) ∧ Below Wf.heap.size Wf w' := fun Wf h => appends_calls Wf (by omega)
          obtain ⟨_, _, _, ⟨x0, x1, x2⟩, ⟨y0, y1, y2⟩, ⟨z0, z1, z2⟩⟩ := fb _ (Below.refl _ _)
          simp only
          clear hbx hby hxb hyb hB1 hB2 hB3 hB4 hB5 hgB
          go_wp2_with (go_at_call 5; fail)
          clear x0 x1 x2 y0 y1 y2 z0 z1 z2
          generalize w4.alloc (Obj.cells #[.int .i64 fa, .int .i64 ta, .slice pg mg cg] 25) = W at hBa hW4s hGL hsW4 fb ⊢
          obtain ⟨hBW, hxW, hyW, _⟩ := fb W (Below.refl _ _)
          have hnW : n ≤ W.heap.size := by omega
          have rx := refFault_calls fx tx ax capx lenx n X hlx W hnW hxW
          rcases hD with ⟨rfl, rfl, rfl, rfl, gX, gY, rfl, L, hLm, hL, hcL⟩ | ⟨rfl, rfl, rfl, rfl, rfl, rfl, hD⟩
          · have hLW := hGL L hL
            subst hLm
            refine rx.mono ?_
            rintro e w5 ⟨hor5, hb5⟩
            rcases hor5 with ⟨rfl, _⟩ | ⟨rfl, hno⟩
            rotate_left
            · exact absurd gX hno
            obtain ⟨hBW5, hx5, hy5, ⟨r0, r1, r2⟩, ⟨s0, s1', s2'⟩, ⟨u0', u1', u2'⟩⟩ := fb w5 hb5
            have hs5 := hb5.size
            clear rx
            simp only
            go_wp2_with (go_at_call 5; fail)
            refine (refFault_calls tx ty ay capy leny n Y hly w5 (by omega) hy5).mono ?_
            rintro e w6 ⟨hor6, hb6⟩
            rcases hor6 with ⟨rfl, _⟩ | ⟨rfl, hno⟩
            rotate_left
            · exact absurd gY hno
            have hb56 := hb5.trans (hb6.mono hs5)
            have hs6 := hb56.size
            have hd6 := hb56.trans (⟨rfl, rfl, rfl, Nat.le_refl _, fun _ _ => rfl⟩ : Below W.heap.size w6 w6.drew)
            obtain ⟨HB, hx6, hy6, ⟨x0, x1, x2⟩, ⟨y0, y1, y2⟩, ⟨z0, z1, z2⟩⟩ := fb w6 hb56
            obtain ⟨HBd, hx7, hy7, _⟩ := fb w6.drew hd6
            clear r0 r1 r2 s0 s1' s2' u0' u1' u2'
            have okX : Gr.ok ⟨fx, tx, X⟩ := hxl.ok gX
            have okY : Gr.ok ⟨tx, ty, Y⟩ := hyl.ok gY
            have okf : ∀ z ∈ X.map Lk.f, okI z := fun z hz => by
              obtain ⟨u, hu, rfl⟩ := List.mem_map.1 hz
              exact (okX.2.2 u hu).1
            have okt : ∀ z ∈ Y.map Lk.t, okI z := fun z hz => by
              obtain ⟨u, hu, rfl⟩ := List.mem_map.1 hz
              exact (okY.2.2 u hu).2
            have okL : Gr.ok ⟨fx, ty, L⟩ := ⟨okX.1, okY.2.1, fun z hz => ⟨okf _ (hcL.froms memf z hz), okt _ (hcL.tos memt z hz)⟩⟩
            have hLW6 := hLW.below (hd6.mono (by omega))
            have rcc := refCompose_calls (X.map Lk.f) (Y.map Lk.t) hXY okf okt fx tx tx ty ax ay capx capy lenx leny n X Y memf memt hlx hly w6.drew (by show n ≤ w6.heap.size; omega) hx7 hy7
            simp only
            clear hx6 hy6 hx7 hy7 hx5 hy5
            go_wp2
            refine Heavy.region_plan (fun w' => Below w6.heap.size w6 w') 16 (Heavy.lights [0, 1, 2, 3, 4, 5, 6, 7, 8] (.one 9 (.one 10 (Heavy.lights [11, 12, 13] (.one 14 (.light 15 .done)))))) (by kernel_rfl) (by kernel_rfl) ⟨rfl, rfl, rfl, Nat.le_refl _, fun _ _ => rfl⟩ ?_
            simp only [Heavy.lights, List.take_succ_cons, List.take_zero, List.drop_succ_cons, List.drop_zero, World.drew_eq]
            clear x0 x1 x2 y0 y1 y2 z0 z1 z2
            iterate 9 (first | (apply Heavy.light_n; (exact rfl); (exact rfl); (intro wr2 hw; have x0 := (fb wr2 (hb56.trans (hw.mono hs6))).2.2.2.1.1; have x1 := (fb wr2 (hb56.trans (hw.mono hs6))).2.2.2.1.2.1; have x2 := (fb wr2 (hb56.trans (hw.mono hs6))).2.2.2.1.2.2; have y0 := (fb wr2 (hb56.trans (hw.mono hs6))).2.2.2.2.1.1; have y1 := (fb wr2 (hb56.trans (hw.mono hs6))).2.2.2.2.1.2.1; have y2 := (fb wr2 (hb56.trans (hw.mono hs6))).2.2.2.2.1.2.2; have z0 := (fb wr2 (hb56.trans (hw.mono hs6))).2.2.2.2.2.1; have z1 := (fb wr2 (hb56.trans (hw.mono hs6))).2.2.2.2.2.2.1; have z2 := (fb wr2 (hb56.trans (hw.mono hs6))).2.2.2.2.2.2.2; go_simp; exact rfl)) | (apply Heavy.light_step; (exact rfl); (go_simp); (intro wr2 hw; have x0 := (fb wr2 (hb56.trans (hw.mono hs6))).2.2.2.1.1; have x1 := (fb wr2 (hb56.trans (hw.mono hs6))).2.2.2.1.2.1; have x2 := (fb wr2 (hb56.trans (hw.mono hs6))).2.2.2.1.2.2; have y0 := (fb wr2 (hb56.trans (hw.mono hs6))).2.2.2.2.1.1; have y1 := (fb wr2 (hb56.trans (hw.mono hs6))).2.2.2.2.1.2.1; have y2 := (fb wr2 (hb56.trans (hw.mono hs6))).2.2.2.2.1.2.2; have z0 := (fb wr2 (hb56.trans (hw.mono hs6))).2.2.2.2.2.1; have z1 := (fb wr2 (hb56.trans (hw.mono hs6))).2.2.2.2.2.2.1; have z2 := (fb wr2 (hb56.trans (hw.mono hs6))).2.2.2.2.2.2.2; go_simp; exact rfl)))
            apply Heavy.one_step
            · exact rfl
            · go_simp
            go_simp
            refine rcc.mono ?_
            rintro e w7 ⟨sv, L2, rfl, hL2, hcL2, _, hb7⟩
            obtain rfl : L = L2 := hcL.eq hcL2
            have hL2' := hL2
            obtain ⟨p7, c7, rfl, _, _⟩ := hL2'
            have hs7 : w6.heap.size ≤ w7.heap.size := hb7.size
            have hB67 : Below w6.heap.size w6 w7 := (⟨rfl, rfl, rfl, Nat.le_refl _, fun _ _ => rfl⟩ : Below w6.heap.size w6 w6.drew).trans (hb7.mono (Nat.le_refl _))
            have gO := graphOrder_calls fx ty fx ty pg p7 cg c7 L.length L.length w7.heap.size L L rfl rfl okL okL w7 (Nat.le_refl _) ((hLW6.below (hb7.mono (by show w4.heap.size ≤ w6.heap.size; omega))).mono (by omega)) hL2
            have hz7 : ordG ⟨fx, ty, L⟩ ⟨fx, ty, L⟩ = 0 := ordG_zero.2 rfl
            rw [hz7] at gO
            have HB7 : Below w.heap.size w w7 := HBd.trans (hb7.mono (by show w.heap.size ≤ w6.heap.size; omega))
            clear rcc
            refine ⟨_, rfl, hB67, ?_⟩
            apply Heavy.one_step
            · exact rfl
            · go_simp
            go_simp
            refine gO.mono ?_
            rintro e w8 ⟨rfl, hb8⟩
            have HB8 := HB7.trans (hb8.mono HB7.size)
            refine ⟨_, rfl, hB67.trans (hb8.mono hs7), ?_⟩
            iterate 3 (first | (apply Heavy.light_n; (exact rfl); (exact rfl); (intro wr2 hw; go_simp; exact rfl)) | (apply Heavy.light_step; (exact rfl); (go_simp); (intro wr2 hw; go_simp; exact rfl)))
            apply Heavy.one_step
            · exact rfl
            · go_simp
            go_simp
            refine (fin _ HB8.size).mono ?_
            rintro e w9 ⟨rfl, hb9⟩
            refine ⟨_, rfl, (hB67.trans (hb8.mono hs7)).trans (hb9.mono (Nat.le_trans hs7 hb8.size)), ?_⟩
            apply Heavy.light_n
            · exact rfl
            · exact rfl
            · intro wr2 hw
              go_simp
              exact rfl
            apply Heavy.plan_end
            show wpList _ _ _ _ _ _
            go_wp2
            go_ret
            exact ⟨rfl, HB8.trans (hb9.mono HB8.size)⟩
          · rcases hD with ⟨rfl, gX, gY, hne⟩ | ⟨rfl, hno⟩
            · have hneB : (tx == fy) = false := by simpa using hne
              clear hne
              refine rx.mono ?_
              rintro e w5 ⟨hor5, hb5⟩
              rcases hor5 with ⟨rfl, _⟩ | ⟨rfl, hno⟩
              rotate_left
              · exact absurd gX hno
              obtain ⟨hBW5, hx5, hy5, ⟨r0, r1, r2⟩, ⟨s0, s1', s2'⟩, ⟨u0', u1', u2'⟩⟩ := fb w5 hb5
              have hs5 := hb5.size
              clear rx
              simp only
              go_wp2_with (go_at_call 5; fail)
              refine (refFault_calls fy ty ay capy leny n Y hly w5 (by omega) hy5).mono ?_
              rintro e w6 ⟨hor6, hb6⟩
              rcases hor6 with ⟨rfl, _⟩ | ⟨rfl, hno⟩
              rotate_left
              · exact absurd gY hno
              have hb56 := hb5.trans (hb6.mono hs5)
              obtain ⟨HB, hx6, hy6, ⟨x0, x1, x2⟩, ⟨y0, y1, y2⟩, ⟨z0, z1, z2⟩⟩ := fb w6 hb56
              clear r0 r1 r2 s0 s1' s2' u0' u1' u2'
              simp only
              go_wp2_with (go_at_call 9; refine (fin _ HB.size).mono ?_; rintro e w9 ⟨rfl, hb9⟩)
              go_ret
              exact ⟨rfl, HB.trans (hb9.mono HB.size)⟩
            · by_cases gX : goodG fx tx X
              · have gY : ¬ goodG fy ty Y := fun h => hno ⟨gX, h⟩
                refine rx.mono ?_
                rintro e w5 ⟨hor5, hb5⟩
                rcases hor5 with ⟨rfl, _⟩ | ⟨rfl, hno⟩
                rotate_left
                · exact absurd gX hno
                obtain ⟨hBW5, hx5, hy5, ⟨r0, r1, r2⟩, ⟨s0, s1', s2'⟩, ⟨u0', u1', u2'⟩⟩ := fb w5 hb5
                have hs5 := hb5.size
                clear rx
                simp only
                go_wp2_with (go_at_call 5; fail)
                refine (refFault_calls fy ty ay capy leny n Y hly w5 (by omega) hy5).mono ?_
                rintro e w6 ⟨hor6, hb6⟩
                rcases hor6 with ⟨rfl, hyes⟩ | ⟨rfl, _⟩
                · exact absurd hyes gY
                have hb56 := hb5.trans (hb6.mono hs5)
                obtain ⟨HB, hx6, hy6, ⟨x0, x1, x2⟩, ⟨y0, y1, y2⟩, ⟨z0, z1, z2⟩⟩ := fb w6 hb56
                clear r0 r1 r2 s0 s1' s2' u0' u1' u2'
                simp only
                go_wp2_with (go_at_call 9; refine (fin _ HB.size).mono ?_; rintro e w9 ⟨rfl, hb9⟩)
                go_ret
                exact ⟨rfl, HB.trans (hb9.mono HB.size)⟩
              · refine rx.mono ?_
                rintro e w5 ⟨hor5, hb5⟩
                rcases hor5 with ⟨rfl, hyes⟩ | ⟨rfl, _⟩
                · exact absurd hyes gX
                obtain ⟨HB, hx5, hy5, ⟨r0, r1, r2⟩, ⟨s0, s1', s2'⟩, ⟨u0', u1', u2'⟩⟩ := fb w5 hb5
                clear rx
                simp only
                go_wp2_with (go_at_call 9; refine (fin _ HB.size).mono ?_; rintro e w9 ⟨rfl, hb9⟩)
                go_ret
                exact ⟨rfl, HB.trans (hb9.mono HB.size)⟩
      · have hkl : ¬ (k : Int) < (len : Int) := by omega
        clear hgo
        go_upto_if 36 with fail
        go_cut [9, 11] from 15 (fun s9 s11 wc => ∃ (q : Option Addr) (cw : Nat), s9 = .int .i64 ec ∧ s11 = .slice q m cw ∧ GraphsAt wc.heap.size wc (.slice q m cw) Gs ∧ Below w1.heap.size w1 wc ∧ ∀ g ∈ Gs, g.ok)
        case first =>
          rcases hbz with rfl | ⟨rfl, g0, hg0, hno⟩
          · have hgood := hall rfl
            go_wp2_with (go_at_call 6; fail)
            refine (refClosure_calls F T hFT (hFk hgood) (hTk hgood) a len cap n l hlen hsmall hin (fun g hg => (hlim g hg).ok (hgood g hg)) wr (by omega) g1).mono ?_
            rintro e w2 ⟨hor2, hb2⟩
            have hB12 := hBr.trans (hb2.mono hsr)
            rcases hcase with ⟨rfl, _, hC⟩ | ⟨rfl, _, hMany, rfl⟩ | ⟨_, ⟨g, hg, hng⟩, _⟩
            · rcases hor2 with ⟨sv, o, rfl, hG2, hC2⟩ | ⟨rfl, hM2⟩
              · obtain rfl := closed_same hC hC2
                have hG3 := hG2
                obtain ⟨q, cw, rfl, _, _⟩ := hG3
                have hGok : ∀ g ∈ Gs, g.ok := fun g hg => ((hC.2.1 g).1 hg).okay (hFk hgood) (hTk hgood) hin fun g hg => (hlim g hg).ok (hgood g hg)
                rw [hm] at hG2
                simp only
                go_wp2
                go_meet
                exact ⟨q, cw, rfl, rfl, hG2, hB12, hGok⟩
              · exact (closed_many hC hM2).elim
            · rcases hor2 with ⟨sv, o, rfl, hG2, hC2⟩ | ⟨rfl, hM2⟩
              · exact (closed_many hC2 hMany).elim
              · subst hm
                simp only
                go_wp2
                go_meet
                exact ⟨none, 0, rfl, rfl, .none_ _ _, hB12, by simp⟩
            · exact absurd (hgood g hg) hng
          · rcases hcase with ⟨_, hgd, _⟩ | ⟨_, hgd, _⟩ | ⟨rfl, _, rfl⟩
            · exact absurd (hgd g0 hg0) hno
            · exact absurd (hgd g0 hg0) hno
            · subst hm
              go_wp2
              go_meet
              exact ⟨none, 0, rfl, rfl, .none_ _ _, hBr, by simp⟩
        case rest =>
          obtain ⟨q, cw, rfl, rfl, hG2, hB2, hGok⟩ := hcut
          have hs2 := hB2.size
          have sg := sameGraphs_calls p q c cw m wc.heap.size Gs hm hGok wc (Nat.le_refl _) ((hG.below hB2).mono hs2) hG2
          clear hcase hall hbz hG hG2 g1
          go_wp2_with (first | (go_at_call 7; refine sg.mono ?_; rintro e w3 ⟨rfl, hb3⟩; have hB3 : Below (w.heap.size + 2) wb w3 := hB1.trans ((hB2.trans (hb3.mono hs2)).mono (by omega)); obtain ⟨x0, x1, x2⟩ := cells3 ((hB3.block w.heap.size (by omega)).trans hbx); obtain ⟨y0, y1, y2⟩ := cells3 ((hB3.block (w.heap.size + 1) (by omega)).trans hby)) | (go_at_call 8; fail))
          have hs3 := hB3.size
          refine (Compose_calls (X.map Lk.f) (Y.map Lk.t) hXY fx tx fy ty ax ay capx capy lenx leny n X Y memf memt hlx hly w3 (by omega) (hxb.below (hB3.mono (by omega))) (hyb.below (hB3.mono (by omega)))).mono ?_
          rintro e w4 h4
          obtain ⟨⟨fa, ta, pg, mg, cg, bg, eg, rfl, hD⟩, hb4⟩ := h4.open
          clear h4 sg x0 x1 x2 y0 y1 y2
          have hs4 := hb4.size
          have hB4 : Below (w.heap.size + 2) wb w4 := hB3.trans (hb4.mono (by omega))
          have hgB := heap_alloc_new w4 (Obj.cells #[.int .i64 fa, .int .i64 ta, .slice pg mg cg] 25)
          have hBa := below_alloc w4 (Obj.cells #[.int .i64 fa, .int .i64 ta, .slice pg mg cg] 25)
          have hW4s : (w4.alloc (Obj.cells #[.int .i64 fa, .int .i64 ta, .slice pg mg cg] 25)).heap.size = w4.heap.size + 1 := World.size_alloc _ _
          have hB5 : Below (w.heap.size + 2) wb (w4.alloc (Obj.cells #[.int .i64 fa, .int .i64 ta, .slice pg mg cg] 25)) := hB4.trans (hBa.mono (by omega))
          have hGL : ∀ L, LinksAt w4.heap.size w4 (.slice pg mg cg) L → LinksAt w4.heap.size (w4.alloc (Obj.cells #[.int .i64 fa, .int .i64 ta, .slice pg mg cg] 25)) (.slice pg mg cg) L := fun L h => h.below hBa
          have hsW4 : w.heap.size + 2 ≤ (w4.alloc (Obj.cells #[.int .i64 fa, .int .i64 ta, .slice pg mg cg] 25)).heap.size := by omega
          have fb : ∀ w', Below (w4.alloc (Obj.cells #[.int .i64 fa, .int .i64 ta, .slice pg mg cg] 25)).heap.size (w4.alloc (Obj.cells #[.int .i64 fa, .int .i64 ta, .slice pg mg cg] 25)) w' → Below w.heap.size w w' ∧ LinksAt n w' (.slice ax lenx capx) X ∧ LinksAt n w' (.slice ay leny capy) Y ∧
              (w'.cell? ⟨w.heap.size, 0, none⟩ = some (.int .i64 fx) ∧ w'.cell? ⟨w.heap.size, 1, none⟩ = some (.int .i64 tx) ∧ w'.cell? ⟨w.heap.size, 2, none⟩ = some (.slice ax lenx capx)) ∧
              (w'.cell? ⟨w.heap.size + 1, 0, none⟩ = some (.int .i64 fy) ∧ w'.cell? ⟨w.heap.size + 1, 1, none⟩ = some (.int .i64 ty) ∧ w'.cell? ⟨w.heap.size + 1, 2, none⟩ = some (.slice ay leny capy)) ∧
              (w'.cell? ⟨w4.heap.size, 0, none⟩ = some (.int .i64 fa) ∧ w'.cell? ⟨w4.heap.size, 1, none⟩ = some (.int .i64 ta) ∧ w'.cell? ⟨w4.heap.size, 2, none⟩ = some (.slice pg mg cg)) := fun w' hb => by
            have hBw : Below (w.heap.size + 2) wb w' := hB5.trans (hb.mono (by omega))
            exact ⟨b0.trans (hBw.mono (by omega)), hxb.below (hBw.mono (by omega)), hyb.below (hBw.mono (by omega)), cells3 ((hBw.block w.heap.size (by omega)).trans hbx), cells3 ((hBw.block (w.heap.size + 1) (by omega)).trans hby), cells3 ((hb.block w4.heap.size (by omega)).trans hgB)⟩
          have fin : ∀ Wf, w.heap.size ≤ Wf.heap.size → Calls Tryz.prog 9 #[] Wf fun e w' => e = .returned (.bool true) ∧ Below Wf.heap.size Wf w' := fun Wf h => appends_calls Wf (by omega)
          obtain ⟨_, _, _, ⟨x0, x1, x2⟩, ⟨y0, y1, y2⟩, ⟨z0, z1, z2⟩⟩ := fb _ (Below.refl _ _)
          simp only
          clear hbx hby hxb hyb hB1 hB2 hB3 hB4 hB5 hgB
          go_wp2_with (go_at_call 5; fail)
          clear x0 x1 x2 y0 y1 y2 z0 z1 z2
          generalize w4.alloc (Obj.cells #[.int .i64 fa, .int .i64 ta, .slice pg mg cg] 25) = W at hBa hW4s hGL hsW4 fb ⊢
          obtain ⟨hBW, hxW, hyW, _⟩ := fb W (Below.refl _ _)
          have hnW : n ≤ W.heap.size := by omega
          have rx := refFault_calls fx tx ax capx lenx n X hlx W hnW hxW
          rcases hD with ⟨rfl, rfl, rfl, rfl, gX, gY, rfl, L, hLm, hL, hcL⟩ | ⟨rfl, rfl, rfl, rfl, rfl, rfl, hD⟩
          · have hLW := hGL L hL
            subst hLm
            refine rx.mono ?_
            rintro e w5 ⟨hor5, hb5⟩
            rcases hor5 with ⟨rfl, _⟩ | ⟨rfl, hno⟩
            rotate_left
            · exact absurd gX hno
            obtain ⟨hBW5, hx5, hy5, ⟨r0, r1, r2⟩, ⟨s0, s1', s2'⟩, ⟨u0', u1', u2'⟩⟩ := fb w5 hb5
            have hs5 := hb5.size
            clear rx
            simp only
            go_wp2_with (go_at_call 5; fail)
            refine (refFault_calls tx ty ay capy leny n Y hly w5 (by omega) hy5).mono ?_
            rintro e w6 ⟨hor6, hb6⟩
            rcases hor6 with ⟨rfl, _⟩ | ⟨rfl, hno⟩
            rotate_left
            · exact absurd gY hno
            have hb56 := hb5.trans (hb6.mono hs5)
            have hs6 := hb56.size
            have hd6 := hb56.trans (⟨rfl, rfl, rfl, Nat.le_refl _, fun _ _ => rfl⟩ : Below W.heap.size w6 w6.drew)
            obtain ⟨HB, hx6, hy6, ⟨x0, x1, x2⟩, ⟨y0, y1, y2⟩, ⟨z0, z1, z2⟩⟩ := fb w6 hb56
            obtain ⟨HBd, hx7, hy7, _⟩ := fb w6.drew hd6
            clear r0 r1 r2 s0 s1' s2' u0' u1' u2'
            have okX : Gr.ok ⟨fx, tx, X⟩ := hxl.ok gX
            have okY : Gr.ok ⟨tx, ty, Y⟩ := hyl.ok gY
            have okf : ∀ z ∈ X.map Lk.f, okI z := fun z hz => by
              obtain ⟨u, hu, rfl⟩ := List.mem_map.1 hz
              exact (okX.2.2 u hu).1
            have okt : ∀ z ∈ Y.map Lk.t, okI z := fun z hz => by
              obtain ⟨u, hu, rfl⟩ := List.mem_map.1 hz
              exact (okY.2.2 u hu).2
            have okL : Gr.ok ⟨fx, ty, L⟩ := ⟨okX.1, okY.2.1, fun z hz => ⟨okf _ (hcL.froms memf z hz), okt _ (hcL.tos memt z hz)⟩⟩
            have hLW6 := hLW.below (hd6.mono (by omega))
            have rcc := refCompose_calls (X.map Lk.f) (Y.map Lk.t) hXY okf okt fx tx tx ty ax ay capx capy lenx leny n X Y memf memt hlx hly w6.drew (by show n ≤ w6.heap.size; omega) hx7 hy7
            simp only
            clear hx6 hy6 hx7 hy7 hx5 hy5
            go_wp2
            refine Heavy.region_plan (fun w' => Below w6.heap.size w6 w') 16 (Heavy.lights [0, 1, 2, 3, 4, 5, 6, 7, 8] (.one 9 (.one 10 (Heavy.lights [11, 12, 13] (.one 14 (.light 15 .done)))))) (by kernel_rfl) (by kernel_rfl) ⟨rfl, rfl, rfl, Nat.le_refl _, fun _ _ => rfl⟩ ?_
            simp only [Heavy.lights, List.take_succ_cons, List.take_zero, List.drop_succ_cons, List.drop_zero, World.drew_eq]
            clear x0 x1 x2 y0 y1 y2 z0 z1 z2
            iterate 9 (first | (apply Heavy.light_n; (exact rfl); (exact rfl); (intro wr2 hw; have x0 := (fb wr2 (hb56.trans (hw.mono hs6))).2.2.2.1.1; have x1 := (fb wr2 (hb56.trans (hw.mono hs6))).2.2.2.1.2.1; have x2 := (fb wr2 (hb56.trans (hw.mono hs6))).2.2.2.1.2.2; have y0 := (fb wr2 (hb56.trans (hw.mono hs6))).2.2.2.2.1.1; have y1 := (fb wr2 (hb56.trans (hw.mono hs6))).2.2.2.2.1.2.1; have y2 := (fb wr2 (hb56.trans (hw.mono hs6))).2.2.2.2.1.2.2; have z0 := (fb wr2 (hb56.trans (hw.mono hs6))).2.2.2.2.2.1; have z1 := (fb wr2 (hb56.trans (hw.mono hs6))).2.2.2.2.2.2.1; have z2 := (fb wr2 (hb56.trans (hw.mono hs6))).2.2.2.2.2.2.2; go_simp; exact rfl)) | (apply Heavy.light_step; (exact rfl); (go_simp); (intro wr2 hw; have x0 := (fb wr2 (hb56.trans (hw.mono hs6))).2.2.2.1.1; have x1 := (fb wr2 (hb56.trans (hw.mono hs6))).2.2.2.1.2.1; have x2 := (fb wr2 (hb56.trans (hw.mono hs6))).2.2.2.1.2.2; have y0 := (fb wr2 (hb56.trans (hw.mono hs6))).2.2.2.2.1.1; have y1 := (fb wr2 (hb56.trans (hw.mono hs6))).2.2.2.2.1.2.1; have y2 := (fb wr2 (hb56.trans (hw.mono hs6))).2.2.2.2.1.2.2; have z0 := (fb wr2 (hb56.trans (hw.mono hs6))).2.2.2.2.2.1; have z1 := (fb wr2 (hb56.trans (hw.mono hs6))).2.2.2.2.2.2.1; have z2 := (fb wr2 (hb56.trans (hw.mono hs6))).2.2.2.2.2.2.2; go_simp; exact rfl)))
            apply Heavy.one_step
            · exact rfl
            · go_simp
            go_simp
            refine rcc.mono ?_
            rintro e w7 ⟨sv, L2, rfl, hL2, hcL2, _, hb7⟩
            obtain rfl : L = L2 := hcL.eq hcL2
            have hL2' := hL2
            obtain ⟨p7, c7, rfl, _, _⟩ := hL2'
            have hs7 : w6.heap.size ≤ w7.heap.size := hb7.size
            have hB67 : Below w6.heap.size w6 w7 := (⟨rfl, rfl, rfl, Nat.le_refl _, fun _ _ => rfl⟩ : Below w6.heap.size w6 w6.drew).trans (hb7.mono (Nat.le_refl _))
            have gO := graphOrder_calls fx ty fx ty pg p7 cg c7 L.length L.length w7.heap.size L L rfl rfl okL okL w7 (Nat.le_refl _) ((hLW6.below (hb7.mono (by show w4.heap.size ≤ w6.heap.size; omega))).mono (by omega)) hL2
            have hz7 : ordG ⟨fx, ty, L⟩ ⟨fx, ty, L⟩ = 0 := ordG_zero.2 rfl
            rw [hz7] at gO
            have HB7 : Below w.heap.size w w7 := HBd.trans (hb7.mono (by show w.heap.size ≤ w6.heap.size; omega))
            clear rcc
            refine ⟨_, rfl, hB67, ?_⟩
            apply Heavy.one_step
            · exact rfl
            · go_simp
            go_simp
            refine gO.mono ?_
            rintro e w8 ⟨rfl, hb8⟩
            have HB8 := HB7.trans (hb8.mono HB7.size)
            refine ⟨_, rfl, hB67.trans (hb8.mono hs7), ?_⟩
            iterate 3 (first | (apply Heavy.light_n; (exact rfl); (exact rfl); (intro wr2 hw; go_simp; exact rfl)) | (apply Heavy.light_step; (exact rfl); (go_simp); (intro wr2 hw; go_simp; exact rfl)))
            apply Heavy.one_step
            · exact rfl
            · go_simp
            go_simp
            refine (fin _ HB8.size).mono ?_
            rintro e w9 ⟨rfl, hb9⟩
            refine ⟨_, rfl, (hB67.trans (hb8.mono hs7)).trans (hb9.mono (Nat.le_trans hs7 hb8.size)), ?_⟩
            apply Heavy.light_n
            · exact rfl
            · exact rfl
            · intro wr2 hw
              go_simp
              exact rfl
            apply Heavy.plan_end
            show wpList _ _ _ _ _ _
            go_wp2
            go_ret
            exact ⟨rfl, HB8.trans (hb9.mono HB8.size)⟩
          · rcases hD with ⟨rfl, gX, gY, hne⟩ | ⟨rfl, hno⟩
            · have hneB : (tx == fy) = false := by simpa using hne
              clear hne
              refine rx.mono ?_
              rintro e w5 ⟨hor5, hb5⟩
              rcases hor5 with ⟨rfl, _⟩ | ⟨rfl, hno⟩
              rotate_left
              · exact absurd gX hno
              obtain ⟨hBW5, hx5, hy5, ⟨r0, r1, r2⟩, ⟨s0, s1', s2'⟩, ⟨u0', u1', u2'⟩⟩ := fb w5 hb5
              have hs5 := hb5.size
              clear rx
              simp only
              go_wp2_with (go_at_call 5; fail)
              refine (refFault_calls fy ty ay capy leny n Y hly w5 (by omega) hy5).mono ?_
              rintro e w6 ⟨hor6, hb6⟩
              rcases hor6 with ⟨rfl, _⟩ | ⟨rfl, hno⟩
              rotate_left
              · exact absurd gY hno
              have hb56 := hb5.trans (hb6.mono hs5)
              obtain ⟨HB, hx6, hy6, ⟨x0, x1, x2⟩, ⟨y0, y1, y2⟩, ⟨z0, z1, z2⟩⟩ := fb w6 hb56
              clear r0 r1 r2 s0 s1' s2' u0' u1' u2'
              simp only
              go_wp2_with (go_at_call 9; refine (fin _ HB.size).mono ?_; rintro e w9 ⟨rfl, hb9⟩)
              go_ret
              exact ⟨rfl, HB.trans (hb9.mono HB.size)⟩
            · by_cases gX : goodG fx tx X
              · have gY : ¬ goodG fy ty Y := fun h => hno ⟨gX, h⟩
                refine rx.mono ?_
                rintro e w5 ⟨hor5, hb5⟩
                rcases hor5 with ⟨rfl, _⟩ | ⟨rfl, hno⟩
                rotate_left
                · exact absurd gX hno
                obtain ⟨hBW5, hx5, hy5, ⟨r0, r1, r2⟩, ⟨s0, s1', s2'⟩, ⟨u0', u1', u2'⟩⟩ := fb w5 hb5
                have hs5 := hb5.size
                clear rx
                simp only
                go_wp2_with (go_at_call 5; fail)
                refine (refFault_calls fy ty ay capy leny n Y hly w5 (by omega) hy5).mono ?_
                rintro e w6 ⟨hor6, hb6⟩
                rcases hor6 with ⟨rfl, hyes⟩ | ⟨rfl, _⟩
                · exact absurd hyes gY
                have hb56 := hb5.trans (hb6.mono hs5)
                obtain ⟨HB, hx6, hy6, ⟨x0, x1, x2⟩, ⟨y0, y1, y2⟩, ⟨z0, z1, z2⟩⟩ := fb w6 hb56
                clear r0 r1 r2 s0 s1' s2' u0' u1' u2'
                simp only
                go_wp2_with (go_at_call 9; refine (fin _ HB.size).mono ?_; rintro e w9 ⟨rfl, hb9⟩)
                go_ret
                exact ⟨rfl, HB.trans (hb9.mono HB.size)⟩
              · refine rx.mono ?_
                rintro e w5 ⟨hor5, hb5⟩
                rcases hor5 with ⟨rfl, hyes⟩ | ⟨rfl, _⟩
                · exact absurd hyes gX
                obtain ⟨HB, hx5, hy5, ⟨r0, r1, r2⟩, ⟨s0, s1', s2'⟩, ⟨u0', u1', u2'⟩⟩ := fb w5 hb5
                clear rx
                simp only
                go_wp2_with (go_at_call 9; refine (fin _ HB.size).mono ?_; rintro e w9 ⟨rfl, hb9⟩)
                go_ret
                exact ⟨rfl, HB.trans (hb9.mono HB.size)⟩
end Go.Proofs.YtbleedclnkpbkaaGreatDoor
end
