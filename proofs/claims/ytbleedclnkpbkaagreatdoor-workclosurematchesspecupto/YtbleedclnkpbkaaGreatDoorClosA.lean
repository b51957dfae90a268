/-
  A part of the proof of the card of WorkClosureMatchesSpec (second form): lemmas that the text Card uses. No condition of its own.
-/
import Derived.Test.YtbleedclnkpbkaaGreatDoorPuts
import Derived.Test.YtbleedclnkpbkaaGreatDoorComp
set_option linter.all false
set_option linter.unusedVariables false
set_option linter.unusedSimpArgs false
section
namespace Go.Proofs.YtbleedclnkpbkaaGreatDoor
open Go.RowKit Go.Sort
theorem wpList_slice_run {P : Program} {ops : Array Oper} {rest : List Oper} {o : Oper} {a : Act} {w : World} {Q : Exit → Act → World → Prop} (hgd : o.guard = none) (t : TypeId) (x lo : Operand)
    (ho : o.op = .slice t x (some lo) none none) (v u : Value) (hx : a.eval x = v) (hlo : a.eval lo = u) {v' : Value} {w' : World}
    (hr : (Instr.sliceAt t v (some u) none none).run P w = .ok v' w') (h : wpList P ops Q rest (a.put o.dst v') w') : wpList P ops Q (o :: rest) a w :=
  wpList_plain hgd fun _ hK => by
    unfold Oper.wp execOp
    simp only [ho, Option.map_some, Option.map_none, Sem.run_bind, Sem.run_pure, hx, hlo, hr, Result.andThen_ok]
    exact hK _ _ h
/-- ready[1:] -/
theorem slice_tail {w : World} {base g off n cap : Nat} {xs : List Value} (h : OwnsOff w base 25 (.slice (some ⟨g, off, none⟩) (n + 1) cap) (n + 1) xs) :
    ∃ (a : Option Addr) (c : Nat), (∀ W, (Instr.sliceAt 22 (.slice (some ⟨g, off, none⟩) (n + 1) cap) (some (.int .i64 1)) none none).run Tryz.prog W = .ok (.slice a n c) W) ∧ OwnsOff w base 25 (.slice a n c) n (xs.drop 3) ∧ (Value.slice a n c).ownBlock = some g := by
  have h2 := h.tail
  have hnc : n + 1 ≤ cap := by
    obtain ⟨_, ⟨e1, h0⟩ | ⟨g', off', cap', cur, e1, hb, hg, hn, hm', hs, ht⟩⟩ := h
    · cases e1
    · cases e1; exact hn
  by_cases hc : cap = 1
  · subst hc
    rw [if_pos rfl] at h2
    obtain rfl : n = 0 := by omega
    refine ⟨_, _, fun W => ?_, h2, rfl⟩
    go_simp
  · rw [if_neg hc] at h2
    refine ⟨_, _, fun W => ?_, h2, rfl⟩
    go_simp
    intro h
    omega
/-- two graphs that lie in boxes that nobody writes -/
structure Two (n0 Bo Br gB hB : Nat) (g h : Gr) (ga ha : Option Addr) (gc hc : Nat) (w : World) (vo vr : Value) (o r : List Gr) : Prop where
  sto : Sto n0 Bo Br w vo vr o r
  fg : Fre Bo Br w vo vr gB
  fh : Fre Bo Br w vo vr hB
  bg : w.heap[gB]? = some (.cells #[.int .i64 g.f, .int .i64 g.t, .slice ga g.L.length gc] 25 (0, 0))
  bh : w.heap[hB]? = some (.cells #[.int .i64 h.f, .int .i64 h.t, .slice ha h.L.length hc] 25 (0, 0))
  lg : LinksIn (Fre Bo Br w vo vr) w (.slice ga g.L.length gc) g.L
  lh : LinksIn (Fre Bo Br w vo vr) w (.slice ha h.L.length hc) h.L
theorem Two.step {n0 Bo Br gB hB : Nat} {g h : Gr} {ga ha : Option Addr} {gc hc : Nat} {w w' : World} {vo vr vo' vr' : Value} {o r o' r' : List Gr} (H : Two n0 Bo Br gB hB g h ga ha gc hc w vo vr o r) (hm : Mon Bo Br w vo vr w' vo' vr') (hs : Sto n0 Bo Br w' vo' vr' o' r') :
    Two n0 Bo Br gB hB g h ga ha gc hc w' vo' vr' o' r' :=
  ⟨hs, (hm _ H.fg).1, (hm _ H.fh).1, (hm _ H.fg).2.trans H.bg, (hm _ H.fh).2.trans H.bh, H.lg.keep hm, H.lh.keep hm⟩
theorem Two.cells {n0 Bo Br gB hB : Nat} {g h : Gr} {ga ha : Option Addr} {gc hc : Nat} {w : World} {vo vr : Value} {o r : List Gr} (H : Two n0 Bo Br gB hB g h ga ha gc hc w vo vr o r) :
    w.cell? ⟨gB, 0, none⟩ = some (.int .i64 g.f) ∧ w.cell? ⟨gB, 1, none⟩ = some (.int .i64 g.t) ∧ w.cell? ⟨gB, 2, none⟩ = some (.slice ga g.L.length gc) ∧
    w.cell? ⟨hB, 0, none⟩ = some (.int .i64 h.f) ∧ w.cell? ⟨hB, 1, none⟩ = some (.int .i64 h.t) ∧ w.cell? ⟨hB, 2, none⟩ = some (.slice ha h.L.length hc) := by
  simp [World.cell?, H.bg, H.bh]
theorem owns_at {w w' : World} {base : Nat} {e : TypeId} {size : Nat} {v : Value} {n : Nat} {xs : List Value} (h : w.ownsRow base e size v n xs) (hk : ∀ b, v.ownBlock = some b → w'.heap[b]? = w.heap[b]?) : w'.ownsRow base e size v n xs := by
  obtain ⟨h1, h2 | ⟨g, cap, cur, e1, hb, hg, h3⟩⟩ := h
  · exact ⟨h1, .inl h2⟩
  · exact ⟨h1, .inr ⟨g, cap, cur, e1, hb, (hk g (by rw [e1]; rfl)).trans hg, h3⟩⟩
theorem own_get {w : World} {base n cap k : Nat} {a : Option Addr} {vs : List Value} {S : Nat → Prop} {Gs : List Gr} {g : Gr} (h : w.ownsRow base 25 3 (.slice a n cap) n vs) (hr : RowIn S w vs Gs) (hg : Gs[k]? = some g) (hk : k < n) :
    ∃ (b : Nat) (la : Option Addr) (lc : Nat), a = some ⟨b, 0, none⟩ ∧ b < w.heap.size ∧ w.cell? ⟨b, k * 3, none⟩ = some (.int .i64 g.f) ∧ w.cell? ⟨b, k * 3 + 1, none⟩ = some (.int .i64 g.t) ∧ w.cell? ⟨b, k * 3 + 2, none⟩ = some (.slice la g.L.length lc) ∧ LinksIn S w (.slice la g.L.length lc) g.L := by
  obtain ⟨h1, ⟨e, h0⟩ | ⟨b, cap', cur, e, hb, hgb, hnc, hm, hs, ht⟩⟩ := h
  · omega
  · cases e
    obtain ⟨c0, c1, la, lc, c2, hL⟩ := hr.at_ k g hg
    have hcell : ∀ (j : Nat) u, j < n * 3 → vs[j]? = some u → w.cell? ⟨b, j, none⟩ = some u := fun j u hj hu => by
      have : cur[j]? = some u := by
        rw [← Array.getElem?_toList, ← List.getElem?_take_of_lt hj, ht]; exact hu
      simpa [World.cell?, hgb] using this
    exact ⟨b, la, lc, rfl, (Array.getElem?_eq_some_iff.1 hgb).1, hcell _ _ (by omega) c0, hcell _ _ (by omega) c1, hcell _ _ (by omega) c2, hL⟩
theorem Two.lg_lh {n0 Bo Br gB hB : Nat} {g h : Gr} {ga ha : Option Addr} {gc hc : Nat} {w : World} {vo vr : Value} {o r : List Gr} (H : Two n0 Bo Br gB hB g h ga ha gc hc w vo vr o r) :
    LinksIn (Fre Bo Br w vo vr) w (.slice ga g.L.length gc) g.L ∧ LinksIn (Fre Bo Br w vo vr) w (.slice ha h.L.length hc) h.L := ⟨H.lg, H.lh⟩
theorem Put.asc {g : Gr} {o r o' r' : List Gr} (h : Put g o r o' r') (ho : o.Pairwise grLt) : o'.Pairwise grLt := by
  rcases h with ⟨_, rfl, rfl⟩ | ⟨_, h, _, _, rfl⟩
  · exact ho
  · exact h
theorem Put.len {g : Gr} {o r o' r' : List Gr} (h : Put g o r o' r') : o'.length ≤ o.length + 1 ∧ r'.length ≤ r.length + 1 := by
  rcases h with ⟨_, rfl, rfl⟩ | ⟨_, _, _, h, rfl⟩
  · omega
  · simp; omega
/-- put(compose(a, b)) -/
theorem comp_put (F T : List Int) (hFT : F.length * T.length ≤ 2199023255552) (a b : Gr) (ra rb : Option Addr) (ca cb : Nat) (hF : ∀ x ∈ a.L, x.f ∈ F) (hT : ∀ x ∈ b.L, x.t ∈ T) (n0 Bo Br Ba : Nat) (vo vr : Value) (o r : List Gr) (hasc : o.Pairwise grLt) (hroom : o.length ≤ 2199023255552) (hroom2 : r.length ≤ 2199023255552)
    (w : World) (hn : n0 ≤ w.heap.size) (hS : Sto n0 Bo Br w vo vr o r) (hLa : LinksIn (Fre Bo Br w vo vr) w (.slice ra a.L.length ca) a.L) (hLb : LinksIn (Fre Bo Br w vo vr) w (.slice rb b.L.length cb) b.L)
    (hA : w.heap[Ba]? = some (.cells #[.func (.func 30) #[] #[.pointer (some ⟨Bo, 0, none⟩)]] 78 (0, 0))) (hAf : Fre Bo Br w vo vr Ba) :
    Calls Tryz.prog 15 #[.agg #[.int .i64 a.f, .int .i64 a.t, .slice ra a.L.length ca], .agg #[.int .i64 b.f, .int .i64 b.t, .slice rb b.L.length cb]] w fun e w' =>
      ∃ (ya : Option Addr) (yn yc : Nat), e = .returned (.agg #[.int .i64 a.f, .int .i64 b.t, .slice ya yn yc]) ∧
        Calls Tryz.prog 34 #[.agg #[.int .i64 a.f, .int .i64 b.t, .slice ya yn yc], .pointer (some ⟨Ba, 0, none⟩), .pointer (some ⟨Br, 0, none⟩)] w' fun e w2 =>
          ∃ (vo' vr' : Value) (o' r' : List Gr), e = .returned (.tuple #[]) ∧ Sto n0 Bo Br w2 vo' vr' o' r' ∧ Mon Bo Br w vo vr w2 vo' vr' ∧ Below n0 w w2 ∧ Put (a.comp b) o r o' r' := by
  refine (compose_calls F T hFT a.f a.t b.f b.t ra rb ca cb a.L.length b.L.length w.heap.size a.L b.L hF hT rfl rfl w (Nat.le_refl _) (hLa.at fun b hb => hb.1) (hLb.at fun b hb => hb.1)).mono ?_
  rintro e w' ⟨sv, L, rfl, hL, hcomp, hown, hb⟩
  have hL2 := hL
  obtain ⟨ya, yc, rfl, _, _⟩ := hL2
  refine ⟨ya, L.length, yc, rfl, ?_⟩
  have hS2 := hS.below hb
  have hM2 := mon_below (Bo := Bo) (Br := Br) vo vr hb
  have hsz := hS.sizes
  have hLf : LinksIn (Fre Bo Br w' vo vr) w' (.slice ya L.length yc) L := LinksIn.of hL fun b hb ho => by
    have hge : w.heap.size ≤ b := hown b ho
    exact ⟨hb, by omega, by omega, fun e => by have := (hS.lt_o e).2; omega, fun e => by have := (hS.lt_r e).2; omega⟩
  have hg : (⟨a.f, b.t, L⟩ : Gr) = a.comp b := by unfold Gr.comp; rw [hcomp.eqL]
  have pc := put_calls ⟨a.f, b.t, L⟩ ya yc L.length n0 Bo Br Ba vo vr o r rfl hasc hroom hroom2 w' (Nat.le_trans hn hb.size) hS2 hLf ((hM2 _ hAf).2.trans hA) (hM2 _ hAf).1
  refine pc.mono ?_
  rintro e w2 ⟨vo', vr', o', r', rfl, h1, h2, h3, h4⟩
  rw [hg] at h4
  exact ⟨vo', vr', o', r', rfl, h1, hM2.trans h2, (hb.mono hn).trans h3, h4⟩
end Go.Proofs.YtbleedclnkpbkaaGreatDoor
end
