/-
  A part of the proof of the card of WorkClosureMatchesSpec (second form): lemmas that the text Card uses. No condition of its own.
-/
import Derived.Test.YtbleedclnkpbkaaGreatDoorRefD
import Derived.Test.YtbleedclnkpbkaaGreatDoorRules
import Derived.Test.YtbleedclnkpbkaaGreatDoorCopyB
import Derived.Test.YtbleedclnkpbkaaGreatDoorClosA
import Derived.Test.YtbleedclnkpbkaaGreatDoorClosB
import Derived.Test.YtbleedclnkpbkaaGreatDoorRefB
import Derived.Deep.Cut
import Derived.Deep.CutRange
set_option linter.all false
set_option linter.unusedVariables false
set_option linter.unusedSimpArgs false
section
namespace Go.Proofs.YtbleedclnkpbkaaGreatDoor
open Go.RowKit Go.Sort
theorem LinksAt.mono {n n' : Nat} {w : World} {sv : Value} {L : List Lk} (h : LinksAt n w sv L) (hn : n ≤ n') : LinksAt n' w sv L := by
  obtain ⟨a, cap, e, h1, h2⟩ := h
  refine ⟨a, cap, e, h1, fun hne => ?_⟩
  obtain ⟨b, off, e2, hb, hc⟩ := h2 hne
  exact ⟨b, off, e2, by omega, hc⟩
theorem Cl.okay {l : List Gr} {F T : List Int} (hFk : ∀ x ∈ F, okI x) (hTk : ∀ x ∈ T, okI x) (hin : ∀ g ∈ l, ∀ x ∈ g.L, x.f ∈ F ∧ x.t ∈ T) (hok : ∀ g ∈ l, g.ok) {g : Gr} (h : Cl l g) : g.ok := by
  have hL := h.within hin
  have : okI g.f ∧ okI g.t := by
    clear hL
    induction h with
    | base hg => exact ⟨(hok _ hg).1, (hok _ hg).2.1⟩
    | step ha hb e iha ihb => exact ⟨iha.1, ihb.2⟩
  exact ⟨this.1, this.2, fun x hx => ⟨hFk _ (hL x hx).1, hTk _ (hL x hx).2⟩⟩
/-- append(all, g): what the call leaves -/
theorem One.append {n0 : Nat} {w : World} {v : Value} {u : List Gr} (h : One n0 w v u) (g : Gr) (la : Option Addr) (lc : Nat) (hL : LinksIn (Off v w) w (.slice la g.L.length lc) g.L) (hn : n0 ≤ w.heap.size) (hroom : u.length ≤ 2199023255552) :
    ∃ (v' : Value) (w' : World), (∀ ty, (Builtin.append_ #[22, 22] ty #[v, .slice (some ⟨w.heap.size, 0, none⟩) 1 1]).run Tryz.prog (w.alloc (Obj.cells #[.int .i64 g.f, .int .i64 g.t, .slice la g.L.length lc] 25)) = .ok v' w') ∧ One n0 w' v' (u ++ [g]) ∧ Below n0 w w' := by
  have bw := below_alloc w (Obj.cells #[.int .i64 g.f, .int .i64 g.t, .slice la g.L.length lc] 25)
  have h1 := h.below bw
  obtain ⟨vs, own, row⟩ := h1
  obtain ⟨i0, hi, hz0, hz1, hz2⟩ := info_parts Tryz_info25
  obtain ⟨v', w3, hrun0, hown', hgrow, _, hat⟩ := run_append_own_at (P := Tryz.prog) (w.alloc (Obj.cells #[.int .i64 g.f, .int .i64 g.t, .slice la g.L.length lc] 25)) n0 22 22 25 i0 _ 3 40 Tryz.underlying22 hi hz0 hz1 hz2 rfl (by decide) v u.length vs own ⟨w.heap.size, 0, none⟩ 1 1 [.int .i64 g.f, .int .i64 g.t, .slice la g.L.length lc] rfl (cell_three_new rfl _ _ _ _) (fun u hu => by simp at hu; rcases hu with rfl | rfl | rfl <;> rfl) (by unfold maxLen; omega) (by omega) (by rw [World.size_alloc]; omega)
  refine ⟨v', w3, fun ty => hrun0, One.app row (hL.keep fun b hb => ⟨⟨Nat.lt_of_lt_of_le hb.1 bw.size, hb.2⟩, bw.block b hb.1⟩) hgrow hown' hat, ?_⟩
  exact (bw.mono hn).trans (below_grown hgrow (by rw [World.size_alloc]; omega) fun b hb => (h.lt hb).1)
end Go.Proofs.YtbleedclnkpbkaaGreatDoor
end
section
namespace Go.Proofs.YtbleedclnkpbkaaGreatDoor
open Go.RowKit Go.Sort
theorem exec_store {P : Program} {o : Oper} {ev : Operand → Value} {w w' : World} (t : TypeId) (x y : Operand) (ho : o.op = .store t x y) {v u : Value} (hx : ev x = v) (hy : ev y = u) (hr : (Instr.storeAt t v u).run P w = .ok () w') : (execOp ev o).run P w = .ok .skip w' := by
  unfold execOp
  simp only [ho, hx, hy, Sem.run_bind, Sem.run_pure, hr, Result.andThen_ok]
theorem run_store25 {W W1 : World} {A : Addr} {x y z : Value} (h : (storeCells A [x, y, z] 0).run Tryz.prog W = .ok () W1) : (Instr.storeAt 25 (.pointer (some A)) (.agg #[x, y, z])).run Tryz.prog W = .ok () W1 := by
  obtain ⟨i0, hi, hz0, hz1, hz2⟩ := info_parts Tryz_info25
  have hs : ∀ W, (Go.sizeOf 25).run Tryz.prog W = .ok 3 W := fun W => by simp [Go.sizeOf, typeInfo, hi, hz1]
  have ha : (Instr.sureAddr (.pointer (some A))).run Tryz.prog W = .ok A W := rfl
  unfold Instr.storeAt
  simp [storeVar, ha, hs, Value.cells, h]
theorem wpList_store_run {P : Program} {ops : Array Oper} {rest : List Oper} {o : Oper} {a : Act} {w : World} {Q : Exit → Act → World → Prop} (hgd : o.guard = none) (t : TypeId) (x y : Operand)
    (ho : o.op = .store t x y) {v u : Value} (hx : a.eval x = v) (hy : a.eval y = u) {w' : World}
    (hr : (Instr.storeAt t v u).run P w = .ok () w') (h : wpList P ops Q rest (a.put o.dst undef) w') : wpList P ops Q (o :: rest) a w :=
  wpList_plain hgd fun _ hK => by
    unfold Oper.wp
    rw [exec_store t x y ho hx hy hr]
    exact hK _ _ h
theorem sw_store {P : Program} {ops : Array Oper} {C C2 : World → Prop} {s : Nat} {r : List Heavy.Step} {Q : Act → World → Prop} {o : Oper} {a : Act} {w w' : World} (v u : Value) (h0 : ops[s]? = some o) (hg : o.guard = none) (t : TypeId) (x y : Operand) (ho : o.op = .store t x y)
    (hx : a.eval x = v) (hy : a.eval y = u) (hr : (Instr.storeAt t v u).run P w = .ok () w') (hC : C2 w') (hK : Heavy.runS P ops s C C2 Q r (a.put o.dst undef) w') : Heavy.runS P ops s C C2 Q (.sw :: r) a w :=
  Heavy.sw_step h0 hg (by rw [exec_store t x y ho hx hy hr]; exact ⟨hC, hK⟩)
theorem upon_store {P : Program} {K : Value → World → Prop} {ev : Operand → Value} {o : Oper} {w w' : World} {t : TypeId} {x y : Operand} {v u : Value} (hr : (Instr.storeAt t v u).run P w = .ok () w') (hK : K undef w')
    (ho : o.op = .store t x y) (hx : ev x = v) (hy : ev y = u) : Heavy.uponW P K ((execOp ev o).run P w) := by
  rw [exec_store t x y ho hx hy hr]; exact hK
theorem store3_chain {W W1 : World} {b o : Nat} {f t : Int} {la : Option Addr} {ln lc : Nat} {c0 c1 c2 : Value} (h0 : W.cell? ⟨b, o, none⟩ = some c0) (h1 : W.cell? ⟨b, o + 1, none⟩ = some c1) (h2 : W.cell? ⟨b, o + 2, none⟩ = some c2) (hf : ∀ k, W.frozen? ⟨b, k, none⟩ = false)
    (hst : (storeCells ⟨b, o, none⟩ [.int .i64 f, .int .i64 t, .slice la ln lc] 0).run Tryz.prog W = .ok () W1) : W1 = ((W.setCell ⟨b, o, none⟩ (.int .i64 f)).setCell ⟨b, o + 1, none⟩ (.int .i64 t)).setCell ⟨b, o + 2, none⟩ (.slice la ln lc) := by
  have f0 := hf o
  have f1 := hf (o + 1)
  have f2 := hf (o + 2)
  have e : (storeCells ⟨b, o, none⟩ [.int .i64 f, .int .i64 t, .slice la ln lc] 0).run Tryz.prog W = .ok () (((W.setCell ⟨b, o, none⟩ (.int .i64 f)).setCell ⟨b, o + 1, none⟩ (.int .i64 t)).setCell ⟨b, o + 2, none⟩ (.slice la ln lc)) := by
    clear hst hf
    go_simp
  rw [e] at hst
  cases hst
  rfl
end Go.Proofs.YtbleedclnkpbkaaGreatDoor
end
section
namespace Go.Proofs.YtbleedclnkpbkaaGreatDoor
open Go.RowKit Go.Sort
attribute [local go_sem] Heavy.uponW
set_option maxRecDepth 100000 in
set_option maxHeartbeats 16000000 in
/-- the reference's Closure -/
theorem refClosure_calls (F T : List Int) (hFT : F.length * T.length ≤ 2199023255552) (hFk : ∀ x ∈ F, okI x) (hTk : ∀ x ∈ T, okI x) (a : Option Addr) (len cap n : Nat) (l : List Gr) (hlen : l.length = len) (hsmall : len ≤ 1048576) (hin : ∀ g ∈ l, ∀ x ∈ g.L, x.f ∈ F ∧ x.t ∈ T) (hok : ∀ g ∈ l, g.ok) (w : World) (hn : n ≤ w.heap.size) (h1 : GraphsAt n w (.slice a len cap) l) :
    Calls Tryz.prog 6 #[.slice a len cap] w fun e w' => ClosureSays l w e w' := by
  have hbig : len < 4611686018427387904 := by omega
  have hcok : ∀ g, Cl l g → g.ok := fun g h => h.okay hFk hTk hin hok
  go_enter Tryz.func6, Tryz.ntmps6
  go_wp2
  go_loopw [4, 5] (fun sv i wr => ∃ (k : Nat) (u : List Gr), k ≤ len ∧ i = .int .i64 k ∧ One w.heap.size wr sv u ∧ Below w.heap.size w wr ∧ Ded l k u) (fun _ i _ => len - (intOf i).toNat)
  case atStart => exact ⟨0, [], Nat.zero_le _, rfl, One.nil _ _, Below.refl _ _, Ded.start l⟩
  case round =>
    obtain ⟨k, u, hk, rfl, hO, hB, hD⟩ := hrel
    have hsr := hB.size
    have hul := hD.len
    obtain ⟨pv, cv, hpv⟩ := hO.val
    by_cases hlt : k < len
    · obtain ⟨x, hx⟩ : ∃ x, l[k]? = some x := ⟨l[k], List.getElem?_eq_getElem (by omega)⟩
      obtain ⟨b1, o1, xa, xc, rfl, hb1, p0, p1, p2, px⟩ := (h1.below (hB.mono hn)).get hx
      obtain ⟨ul, hul2⟩ : ∃ ul, ul = u.length := ⟨_, rfl⟩
      have hG := hO.graphs (by omega)
      rw [← hul2] at hpv
      subst hpv
      have hxm := List.mem_of_getElem? hx
      have hc := hasGraph_calls x pv xa cv xc ul x.L.length wr.heap.size u hul2.symm rfl (fun y hy => hcok y (hD.cl y hy)) (hok x hxm) wr (Nat.le_refl _) hG (px.mono (by omega))
      have Aul : Aside (ul = u.length) := hul2
      clear hul2 hG
      go_wp2_with (go_at_call 14; fail)
      refine hc.mono ?_
      rintro e w1 ⟨⟨b, rfl, hb⟩, hb1⟩
      have hB1 := hB.trans (hb1.mono hsr)
      have hs1 := hB1.size
      have hO1 := hO.below hb1
      obtain ⟨b1', o1', xa', xc', hbe, hb1'', p0, p1, p2, px⟩ := (h1.below (hB1.mono hn)).get hx
      cases hbe
      clear hc h1
      cases b
      · have hxn : x ∉ u := fun h => by have := hb.2 h; cases this
        clear hb
        obtain ⟨v', W3, hrun, hO3, hB3⟩ := hO1.append x xa' xc' (LinksIn.of px fun b hb ho => ⟨by omega, fun e => by have := (hO1.lt e).1; omega⟩) hs1 (by have := Aul.out; omega)
        have hfin := hD.add hx (.inr ⟨hxn, rfl⟩)
        clear px
        simp only
        go_wp2_with (at_builtin; refine Lib.wpList_append_run _ rfl _ _ _ _ rfl _ _ rfl rfl _ _ (hrun _) ?_)
        exact ⟨⟨k + 1, u ++ [x], by omega, by simp, hO3, hB1.trans hB3, hfin⟩, by simp [intOf]; omega⟩
      · have hxy := hb.1 rfl
        clear hb
        simp only
        go_wp2
        exact ⟨⟨k + 1, u, by omega, by simp, hO1, hB1, hD.add hx (.inl ⟨hxy, rfl⟩)⟩, by simp [intOf]; omega⟩
    · obtain rfl : k = len := by omega
      have hI := hD.idx (by omega)
      have hul' : u.length ≤ 1048576 := by omega
      clear h1
      go_wp2
      go_loopw [4, 6] (fun sv i wr => ∃ (p : Nat) (u : List Gr), i = .int .i64 p ∧ One w.heap.size wr sv u ∧ Below w.heap.size w wr ∧ Idx l u p ∧ u.length ≤ 1048576) (fun _ i _ => 1048577 - (intOf i).toNat)
      case atStart => exact ⟨0, u, rfl, hO, hB, hI, hul'⟩
      case round =>
        clear hO hB hD hI hul hul' hsr hpv
        obtain ⟨p, u, rfl, hO, hB, hI, hul⟩ := hrel
        have hsr := hB.size
        obtain ⟨pv, cv, hpv⟩ := hO.val
        by_cases hlt2 : p < u.length
        · obtain ⟨ga, hga⟩ : ∃ ga, u[p]? = some ga := ⟨u[p], List.getElem?_eq_getElem hlt2⟩
          obtain ⟨ul, hul2⟩ : ∃ ul, ul = u.length := ⟨_, rfl⟩
          rw [← hul2] at hpv hlt2 hul
          have Aul : Aside (ul = u.length) := hul2
          have hT := hI.two hga
          clear hul2
          subst hpv
          go_wp2
          go_loopw [4, 7] (fun sv i wr => ∃ (k : Nat) (u : List Gr), i = .int .i64 k ∧ One w.heap.size wr sv u ∧ Below w.heap.size w wr ∧ Idx2 l u p k ga ∧ u.length ≤ 1048576) (fun _ i _ => p + 1 - (intOf i).toNat)
          case atStart => exact ⟨0, u, rfl, hO, hB, hT, by have := Aul.out; omega⟩
          case round =>
            clear hO hB hT hga Aul
            obtain ⟨k, u, rfl, hO, hB, hT, hul⟩ := hrel
            have hsr := hB.size
            have hk := hT.le
            obtain ⟨pv, cv, hpv⟩ := hO.val
            obtain ⟨ul, hul2⟩ : ∃ ul, ul = u.length := ⟨_, rfl⟩
            have hpu : p < ul := by rw [hul2]; exact (List.getElem?_eq_some_iff.1 hT.at_).1
            rw [← hul2] at hpv hul
            have Aul : Aside (ul = u.length) := hul2
            clear hul2
            subst hpv
            by_cases hkp : k ≤ p
            · have hki : (k : Int) ≤ (p : Int) := by omega
              have hku : k < ul := by omega
              obtain ⟨gb, hgb⟩ : ∃ gb, u[k]? = some gb := ⟨u[k]'(by have := Aul.out; omega), List.getElem?_eq_getElem _⟩
              have hca := hT.idx.cl ga (List.mem_of_getElem? hT.at_)
              have hcb := hT.idx.cl gb (List.mem_of_getElem? hgb)
              have hO' := hO
              obtain ⟨vs, own, row⟩ := hO'
              rw [← Aul.out] at own
              obtain ⟨b0, aa, ac, hpa, hb0, p0, p1, p2, pL⟩ := own_get own row hT.at_ hpu
              obtain ⟨b0', ba, bc, hpa', _, q0, q1, q2, qL⟩ := own_get own row hgb hku
              rw [hpa] at hpa'
              cases hpa'
              subst hpa
              clear own row
              go_wp2
              refine wp_region_still_tail 10 (by kernel_rfl) (by kernel_rfl) ?_
              simp only [List.take_succ_cons, List.take_zero, List.drop_succ_cons, List.drop_zero, World.drew_eq]
              repeat (with_reducible refine wpStill_step (fun K hK => ?_); go_simp; with_reducible refine hK _ ?_; clear hK K)
              refine wpStill_nil ?_
              show wpList _ _ _ _ _ _
              go_upto_if 53 with fail
              go_cut [4, 8] from 38 to 101 (fun s4 s8 wx => ∃ v1, One w.heap.size wx s4 v1 ∧ Below w.heap.size w wx ∧ ((ga.t = gb.f ∧ Add (ga.comp gb) u v1) ∨ (ga.t ≠ gb.f ∧ v1 = u)))
              case first =>
                by_cases heq : ga.t = gb.f
                · have heqB : (ga.t == gb.f) = true := by simpa using heq
                  have AE : Aside (ga.t = gb.f) := heq
                  have hcg : Cl l (ga.comp gb) := .step hca hcb heq
                  have hia := hca.within hin
                  have hib := hcb.within hin
                  clear heq
                  have fc : ∀ w', Below wr.heap.size wr w' → w'.cell? ⟨b0, p * 3, none⟩ = some (.int .i64 ga.f) ∧ w'.cell? ⟨b0, p * 3 + 1, none⟩ = some (.int .i64 ga.t) ∧ w'.cell? ⟨b0, p * 3 + 2, none⟩ = some (.slice aa ga.L.length ac) ∧ w'.cell? ⟨b0, k * 3, none⟩ = some (.int .i64 gb.f) ∧ w'.cell? ⟨b0, k * 3 + 1, none⟩ = some (.int .i64 gb.t) ∧ w'.cell? ⟨b0, k * 3 + 2, none⟩ = some (.slice ba gb.L.length bc) := fun w' hb =>
                    ⟨(hb.cell (p := ⟨b0, p * 3, none⟩) hb0).trans p0, (hb.cell (p := ⟨b0, p * 3 + 1, none⟩) hb0).trans p1, (hb.cell (p := ⟨b0, p * 3 + 2, none⟩) hb0).trans p2, (hb.cell (p := ⟨b0, k * 3, none⟩) hb0).trans q0, (hb.cell (p := ⟨b0, k * 3 + 1, none⟩) hb0).trans q1, (hb.cell (p := ⟨b0, k * 3 + 2, none⟩) hb0).trans q2⟩
                  have hpL := pL.at (n := wr.heap.size) fun b hb => hb.1
                  have hqL := qL.at (n := wr.heap.size) fun b hb => hb.1
                  have rc := fun (W : World) (hW : Below wr.heap.size wr W) => refCompose_calls F T hFT hFk hTk ga.f ga.t gb.f gb.t aa ba ac bc ga.L.length gb.L.length wr.heap.size ga.L gb.L (fun x hx => (hia x hx).1) (fun x hx => (hib x hx).2) rfl rfl W hW.size (hpL.below hW) (hqL.below hW)
                  clear p0 p1 p2 q0 q1 q2 hpL hqL pL qL hia hib
                  go_wp2
                  refine Heavy.region_plan (fun w' => Below wr.heap.size wr w') 10 (Heavy.lights [0, 1, 2, 3, 4, 5, 6, 7] (.two 8 9 (.one 9 .done) (.one 8 .done))) (by kernel_rfl) (by kernel_rfl) ⟨rfl, rfl, rfl, Nat.le_refl _, fun _ _ => rfl⟩ ?_
                  simp only [Heavy.lights, List.take_succ_cons, List.take_zero, List.drop_succ_cons, List.drop_zero, World.drew_eq]
                  have hBW : Below wr.heap.size wr wr.drew.drew := ⟨rfl, rfl, rfl, Nat.le_refl _, fun _ _ => rfl⟩
                  have hWs : wr.heap.size ≤ wr.drew.drew.heap.size := Nat.le_refl _
                  generalize wr.drew.drew = W at hBW hWs ⊢
                  iterate 8 (apply Heavy.light_n; (exact rfl); (exact rfl); (intro wr2 hw; have x0 := (fc wr2 hw).1; have x1 := (fc wr2 hw).2.1; have x2 := (fc wr2 hw).2.2.1; have x3 := (fc wr2 hw).2.2.2.1; have x4 := (fc wr2 hw).2.2.2.2.1; have x5 := (fc wr2 hw).2.2.2.2.2; go_simp; exact rfl))
                  apply Heavy.two_n
                  · exact rfl
                  · exact rfl
                  · exact rfl
                  · exact rfl
                  · go_simp
                    refine (rc W hBW).mono ?_
                    rintro e w5 ⟨sv, L, rfl, hL, hcomp, hown, hb⟩
                    have hL2 := hL
                    obtain ⟨ya, yc, rfl, _, _⟩ := hL2
                    have hB5 : Below wr.heap.size wr w5 := hBW.trans (hb.mono hWs)
                    refine ⟨_, rfl, hB5, ?_⟩
                    apply Heavy.one_n
                    · exact rfl
                    · exact rfl
                    go_simp
                    refine ⟨hB5.alloc hB5.size _, ?_⟩
                    apply Heavy.plan_end
                    show wpList _ _ _ _ _ _
                    go_wp2_with (go_at_call 14; fail)
                    have hX := heap_alloc_new w5 (Obj.cells #[.int .i64 ga.f, .int .i64 gb.t, .slice ya L.length yc] 25)
                    have hB7 := hB5.alloc hB5.size (Obj.cells #[.int .i64 ga.f, .int .i64 gb.t, .slice ya L.length yc] 25)
                    have hL7 := (hL.below (below_alloc w5 (Obj.cells #[.int .i64 ga.f, .int .i64 gb.t, .slice ya L.length yc] 25))).mono (n' := (w5.alloc (Obj.cells #[.int .i64 ga.f, .int .i64 gb.t, .slice ya L.length yc] 25)).heap.size) (by rw [World.size_alloc]; omega)
                    have hXlt : w5.heap.size < (w5.alloc (Obj.cells #[.int .i64 ga.f, .int .i64 gb.t, .slice ya L.length yc] 25)).heap.size := by rw [World.size_alloc]; omega
                    have hown7 : ∀ b, (Value.slice ya L.length yc).ownBlock = some b → wr.heap.size ≤ b := fun b hb => Nat.le_trans hWs (hown b hb)
                    generalize w5.alloc (Obj.cells #[.int .i64 ga.f, .int .i64 gb.t, .slice ya L.length yc] 25) = W7 at hX hB7 hL7 hXlt ⊢
                    have hO7 := hO.below hB7
                    have hgE : (⟨ga.f, gb.t, L⟩ : Gr) = ga.comp gb := by unfold Gr.comp; rw [hcomp.eqL]
                    have hc := hasGraph_calls ⟨ga.f, gb.t, L⟩ (some ⟨b0, 0, none⟩) ya cv yc ul L.length W7.heap.size u Aul.out.symm rfl (fun y hy => hcok y (hT.idx.cl y hy)) (hgE ▸ hcok _ hcg) W7 (Nat.le_refl _) (hO7.graphs (by have := Aul.out; omega)) hL7
                    have hs7 := hB7.size
                    refine hc.mono ?_
                    rintro e w8 ⟨⟨b, rfl, hb⟩, hb8⟩
                    have hs8 := hb8.size
                    have hB8 := hB7.trans (hb8.mono hs7)
                    have hO8 := hO7.below hb8
                    have hBW8 := hB.trans (hB8.mono hB.size)
                    have hX8 := (hb8.block w5.heap.size hXlt).trans hX
                    obtain ⟨k0, k1, k2⟩ : w8.cell? ⟨w5.heap.size, 0, none⟩ = some (.int .i64 ga.f) ∧ w8.cell? ⟨w5.heap.size, 1, none⟩ = some (.int .i64 gb.t) ∧ w8.cell? ⟨w5.heap.size, 2, none⟩ = some (.slice ya L.length yc) := by
                      simp [World.cell?, hX8]
                    clear hc fc
                    cases b
                    · have hxn : ga.comp gb ∉ u := fun h => by have := hb.2 (hgE ▸ h); cases this
                      clear hb
                      obtain ⟨v9, W9, hrun, hO9, hB9⟩ := hO8.append ⟨ga.f, gb.t, L⟩ ya yc (LinksIn.of (hL7.below hb8) fun b hb ho => ⟨by omega, fun e => by have h1 := hown7 b ho; have h2 := (hO.lt e).2; omega⟩) hBW8.size (by have := Aul.out; omega)
                      simp only at hrun
                      rw [hgE] at hO9
                      simp only
                      go_wp2_with (at_builtin; refine Lib.wpList_append_run _ rfl _ _ _ _ rfl _ _ rfl rfl _ _ (hrun _) ?_)
                      go_meet
                      exact ⟨_, hO9, hBW8.trans hB9, .inl ⟨AE.out, .inr ⟨hxn, rfl⟩⟩⟩
                    · have hxy : ga.comp gb ∈ u := hgE ▸ hb.1 rfl
                      clear hb
                      simp only
                      go_wp2
                      go_meet
                      exact ⟨_, hO8, hBW8, .inl ⟨AE.out, .inl ⟨hxy, rfl⟩⟩⟩
                  · go_simp
                    have hBA := hBW.alloc hWs (Obj.cells #[.int .i64 0, .int .i64 0, .slice none 0 0] 25)
                    refine ⟨hBA, ?_⟩
                    apply Heavy.one_n
                    · exact rfl
                    · exact rfl
                    go_simp
                    refine (rc _ hBA).mono ?_
                    rintro e w5 ⟨sv, L, rfl, hL, hcomp, hown, hb⟩
                    have hL2 := hL
                    obtain ⟨ya, yc, rfl, _, _⟩ := hL2
                    have hB5 : Below wr.heap.size wr w5 := hBA.trans (hb.mono hBA.size)
                    have hZ := (hb.block W.heap.size (by rw [World.size_alloc]; omega)).trans (heap_alloc_new W _)
                    obtain ⟨r0, r1, r2, r3, r4, r5⟩ : w5.cell? ⟨W.heap.size, 0, none⟩ = some (.int .i64 0) ∧ w5.cell? ⟨W.heap.size, 1, none⟩ = some (.int .i64 0) ∧ w5.cell? ⟨W.heap.size, 2, none⟩ = some (.slice none 0 0) ∧ w5.frozen? ⟨W.heap.size, 0, none⟩ = false ∧ w5.frozen? ⟨W.heap.size, 1, none⟩ = false ∧ w5.frozen? ⟨W.heap.size, 2, none⟩ = false := by
                      simp [World.cell?, World.frozen?, hZ]
                    refine ⟨_, rfl, hB5, ?_⟩
                    apply Heavy.plan_end
                    show wpList _ _ _ _ _ _
                    go_wp2_with (go_at_call 14; fail)
                    have hXs := (Array.getElem?_eq_some_iff.1 hZ).1
                    have hX := put3_block (a := .int .i64 ga.f) (b := .int .i64 gb.t) (c := .slice ya L.length yc) hZ
                    have hne : ∀ b, (Value.slice ya L.length yc).ownBlock = some b → b ≠ W.heap.size := fun b hb => by have := hown b hb; rw [World.size_alloc] at this; omega
                    have hB7 : Below wr.heap.size wr (((w5.setCell ⟨W.heap.size, 0, none⟩ (.int .i64 ga.f)).setCell ⟨W.heap.size, 1, none⟩ (.int .i64 gb.t)).setCell ⟨W.heap.size, 2, none⟩ (.slice ya L.length yc)) := hB5.trans ((below_put _ _ _ _ hWs).trans ((below_put _ _ _ _ hWs).trans (below_put _ _ _ _ hWs)))
                    have hL7 : LinksAt (((w5.setCell ⟨W.heap.size, 0, none⟩ (.int .i64 ga.f)).setCell ⟨W.heap.size, 1, none⟩ (.int .i64 gb.t)).setCell ⟨W.heap.size, 2, none⟩ (.slice ya L.length yc)).heap.size (((w5.setCell ⟨W.heap.size, 0, none⟩ (.int .i64 ga.f)).setCell ⟨W.heap.size, 1, none⟩ (.int .i64 gb.t)).setCell ⟨W.heap.size, 2, none⟩ (.slice ya L.length yc)) (.slice ya L.length yc) L := by
                      rw [setCell_size, setCell_size, setCell_size]
                      exact ((hL.put hne).put hne).put hne
                    have hXlt : W.heap.size < (((w5.setCell ⟨W.heap.size, 0, none⟩ (.int .i64 ga.f)).setCell ⟨W.heap.size, 1, none⟩ (.int .i64 gb.t)).setCell ⟨W.heap.size, 2, none⟩ (.slice ya L.length yc)).heap.size := by
                      rw [setCell_size, setCell_size, setCell_size]; exact hXs
                    have hown7 : ∀ b, (Value.slice ya L.length yc).ownBlock = some b → wr.heap.size ≤ b := fun b hb => by have := hown b hb; rw [World.size_alloc] at this; omega
                    generalize ((w5.setCell ⟨W.heap.size, 0, none⟩ (.int .i64 ga.f)).setCell ⟨W.heap.size, 1, none⟩ (.int .i64 gb.t)).setCell ⟨W.heap.size, 2, none⟩ (.slice ya L.length yc) = W7 at hX hB7 hL7 hXlt ⊢
                    clear r0 r1 r2 r3 r4 r5
                    have hO7 := hO.below hB7
                    have hgE : (⟨ga.f, gb.t, L⟩ : Gr) = ga.comp gb := by unfold Gr.comp; rw [hcomp.eqL]
                    have hc := hasGraph_calls ⟨ga.f, gb.t, L⟩ (some ⟨b0, 0, none⟩) ya cv yc ul L.length W7.heap.size u Aul.out.symm rfl (fun y hy => hcok y (hT.idx.cl y hy)) (hgE ▸ hcok _ hcg) W7 (Nat.le_refl _) (hO7.graphs (by have := Aul.out; omega)) hL7
                    have hs7 := hB7.size
                    refine hc.mono ?_
                    rintro e w8 ⟨⟨b, rfl, hb⟩, hb8⟩
                    have hs8 := hb8.size
                    have hB8 := hB7.trans (hb8.mono hs7)
                    have hO8 := hO7.below hb8
                    have hBW8 := hB.trans (hB8.mono hB.size)
                    have hX8 := (hb8.block W.heap.size hXlt).trans hX
                    obtain ⟨k0, k1, k2⟩ : w8.cell? ⟨W.heap.size, 0, none⟩ = some (.int .i64 ga.f) ∧ w8.cell? ⟨W.heap.size, 1, none⟩ = some (.int .i64 gb.t) ∧ w8.cell? ⟨W.heap.size, 2, none⟩ = some (.slice ya L.length yc) := by
                      simp [World.cell?, hX8]
                    clear hc fc
                    cases b
                    · have hxn : ga.comp gb ∉ u := fun h => by have := hb.2 (hgE ▸ h); cases this
                      clear hb
                      obtain ⟨v9, W9, hrun, hO9, hB9⟩ := hO8.append ⟨ga.f, gb.t, L⟩ ya yc (LinksIn.of (hL7.below hb8) fun b hb ho => ⟨by omega, fun e => by have h1 := hown7 b ho; have h2 := (hO.lt e).2; omega⟩) hBW8.size (by have := Aul.out; omega)
                      simp only at hrun
                      rw [hgE] at hO9
                      simp only
                      go_wp2_with (at_builtin; refine Lib.wpList_append_run _ rfl _ _ _ _ rfl _ _ rfl rfl _ _ (hrun _) ?_)
                      go_meet
                      exact ⟨_, hO9, hBW8.trans hB9, .inl ⟨AE.out, .inr ⟨hxn, rfl⟩⟩⟩
                    · have hxy : ga.comp gb ∈ u := hgE ▸ hb.1 rfl
                      clear hb
                      simp only
                      go_wp2
                      go_meet
                      exact ⟨_, hO8, hBW8, .inl ⟨AE.out, .inl ⟨hxy, rfl⟩⟩⟩
                · have heqB : (ga.t == gb.f) = false := by simpa using heq
                  have hOd := hO.below (w' := wr.drew) ⟨rfl, rfl, rfl, Nat.le_refl _, fun _ _ => rfl⟩
                  have hBd : Below w.heap.size w wr.drew := hB.trans ⟨rfl, rfl, rfl, Nat.le_refl _, fun _ _ => rfl⟩
                  have AE : Aside (ga.t ≠ gb.f) := heq
                  clear heq
                  go_wp2
                  go_meet
                  exact ⟨_, hOd, hBd, .inr ⟨AE.out, rfl⟩⟩
              case rest =>
                obtain ⟨u1, hO1, hB1, hA1⟩ := hcut
                have hcl1 : ∀ y ∈ u1, Cl l y := by
                  rcases hA1 with ⟨e, h⟩ | ⟨_, rfl⟩
                  · exact h.cl (.step hca hcb e) hT.idx.cl
                  · exact hT.idx.cl
                have hl1 : u.length ≤ u1.length ∧ u1.length ≤ u.length + 1 := by
                  rcases hA1 with ⟨e, h⟩ | ⟨_, rfl⟩
                  · exact h.len
                  · omega
                have hp1 : u1[p]? = some ga := by
                  rcases hA1 with ⟨e, h⟩ | ⟨_, rfl⟩
                  · exact (h.at (x := ga) (by have := Aul.out; omega)).trans hT.at_
                  · exact hT.at_
                have hk1 : u1[k]? = some gb := by
                  rcases hA1 with ⟨e, h⟩ | ⟨_, rfl⟩
                  · exact (h.at (x := ga) (by have := Aul.out; omega)).trans hgb
                  · exact hgb
                obtain ⟨pv1, cv1, hpv1⟩ := hO1.val
                obtain ⟨ul1, hul1⟩ : ∃ ul1, ul1 = u1.length := ⟨_, rfl⟩
                have hb1 : ul1 ≤ 1048577 := by have := Aul.out; omega
                have hpu1 : p < ul1 := by have := Aul.out; omega
                have hku1 : k < ul1 := by have := Aul.out; omega
                rw [← hul1] at hpv1
                have Aul1 : Aside (ul1 = u1.length) := hul1
                clear hul1
                subst hpv1
                clear p0 p1 p2 q0 q1 q2 pL qL
                have hO' := hO1
                obtain ⟨vs, own, row⟩ := hO'
                rw [← Aul1.out] at own
                obtain ⟨b0, aa, ac, hpa, hb0, p0, p1, p2, pL⟩ := own_get own row hk1 hku1
                obtain ⟨b0', ba, bc, hpa', _, q0, q1, q2, qL⟩ := own_get own row hp1 hpu1
                rw [hpa] at hpa'
                cases hpa'
                subst hpa
                clear own row
                go_wp2
                refine wp_region_still_tail 10 (by kernel_rfl) (by kernel_rfl) ?_
                simp only [List.take_succ_cons, List.take_zero, List.drop_succ_cons, List.drop_zero, World.drew_eq]
                repeat (with_reducible refine wpStill_step (fun K hK => ?_); go_simp; with_reducible refine hK _ ?_; clear hK K)
                refine wpStill_nil ?_
                show wpList _ _ _ _ _ _
                go_upto_if 81 with fail
                go_cut [4, 9] from 38 to 101 (fun s4 s8 wx => ∃ v1, One w.heap.size wx s4 v1 ∧ Below w.heap.size w wx ∧ ((gb.t = ga.f ∧ Add (gb.comp ga) u1 v1) ∨ (gb.t ≠ ga.f ∧ v1 = u1)))
                case first =>
                  by_cases heq : gb.t = ga.f
                  · have heqB : (gb.t == ga.f) = true := by simpa using heq
                    have AE : Aside (gb.t = ga.f) := heq
                    have hcg : Cl l (gb.comp ga) := .step hcb hca heq
                    have hia := hcb.within hin
                    have hib := hca.within hin
                    clear heq
                    have fc : ∀ w', Below wc.heap.size wc w' → w'.cell? ⟨b0, k * 3, none⟩ = some (.int .i64 gb.f) ∧ w'.cell? ⟨b0, k * 3 + 1, none⟩ = some (.int .i64 gb.t) ∧ w'.cell? ⟨b0, k * 3 + 2, none⟩ = some (.slice aa gb.L.length ac) ∧ w'.cell? ⟨b0, p * 3, none⟩ = some (.int .i64 ga.f) ∧ w'.cell? ⟨b0, p * 3 + 1, none⟩ = some (.int .i64 ga.t) ∧ w'.cell? ⟨b0, p * 3 + 2, none⟩ = some (.slice ba ga.L.length bc) := fun w' hb =>
                      ⟨(hb.cell (p := ⟨b0, k * 3, none⟩) hb0).trans p0, (hb.cell (p := ⟨b0, k * 3 + 1, none⟩) hb0).trans p1, (hb.cell (p := ⟨b0, k * 3 + 2, none⟩) hb0).trans p2, (hb.cell (p := ⟨b0, p * 3, none⟩) hb0).trans q0, (hb.cell (p := ⟨b0, p * 3 + 1, none⟩) hb0).trans q1, (hb.cell (p := ⟨b0, p * 3 + 2, none⟩) hb0).trans q2⟩
                    have hpL := pL.at (n := wc.heap.size) fun b hb => hb.1
                    have hqL := qL.at (n := wc.heap.size) fun b hb => hb.1
                    have rc := fun (W : World) (hW : Below wc.heap.size wc W) => refCompose_calls F T hFT hFk hTk gb.f gb.t ga.f ga.t aa ba ac bc gb.L.length ga.L.length wc.heap.size gb.L ga.L (fun x hx => (hia x hx).1) (fun x hx => (hib x hx).2) rfl rfl W hW.size (hpL.below hW) (hqL.below hW)
                    clear p0 p1 p2 q0 q1 q2 hpL hqL pL qL hia hib
                    go_wp2
                    refine Heavy.region_plan (fun w' => Below wc.heap.size wc w') 10 (Heavy.lights [0, 1, 2, 3, 4, 5, 6, 7] (.two 8 9 (.one 9 .done) (.one 8 .done))) (by kernel_rfl) (by kernel_rfl) ⟨rfl, rfl, rfl, Nat.le_refl _, fun _ _ => rfl⟩ ?_
                    simp only [Heavy.lights, List.take_succ_cons, List.take_zero, List.drop_succ_cons, List.drop_zero, World.drew_eq]
                    have hBW : Below wc.heap.size wc wc.drew.drew := ⟨rfl, rfl, rfl, Nat.le_refl _, fun _ _ => rfl⟩
                    have hWs : wc.heap.size ≤ wc.drew.drew.heap.size := Nat.le_refl _
                    generalize wc.drew.drew = W at hBW hWs ⊢
                    iterate 8 (apply Heavy.light_n; (exact rfl); (exact rfl); (intro wr2 hw; have x0 := (fc wr2 hw).1; have x1 := (fc wr2 hw).2.1; have x2 := (fc wr2 hw).2.2.1; have x3 := (fc wr2 hw).2.2.2.1; have x4 := (fc wr2 hw).2.2.2.2.1; have x5 := (fc wr2 hw).2.2.2.2.2; go_simp; exact rfl))
                    apply Heavy.two_n
                    · exact rfl
                    · exact rfl
                    · exact rfl
                    · exact rfl
                    · go_simp
                      refine (rc W hBW).mono ?_
                      rintro e w5 ⟨sv, L, rfl, hL, hcomp, hown, hb⟩
                      have hL2 := hL
                      obtain ⟨ya, yc, rfl, _, _⟩ := hL2
                      have hB5 : Below wc.heap.size wc w5 := hBW.trans (hb.mono hWs)
                      refine ⟨_, rfl, hB5, ?_⟩
                      apply Heavy.one_n
                      · exact rfl
                      · exact rfl
                      go_simp
                      refine ⟨hB5.alloc hB5.size _, ?_⟩
                      apply Heavy.plan_end
                      show wpList _ _ _ _ _ _
                      go_wp2_with (go_at_call 14; fail)
                      have hX := heap_alloc_new w5 (Obj.cells #[.int .i64 gb.f, .int .i64 ga.t, .slice ya L.length yc] 25)
                      have hB7 := hB5.alloc hB5.size (Obj.cells #[.int .i64 gb.f, .int .i64 ga.t, .slice ya L.length yc] 25)
                      have hL7 := (hL.below (below_alloc w5 (Obj.cells #[.int .i64 gb.f, .int .i64 ga.t, .slice ya L.length yc] 25))).mono (n' := (w5.alloc (Obj.cells #[.int .i64 gb.f, .int .i64 ga.t, .slice ya L.length yc] 25)).heap.size) (by rw [World.size_alloc]; omega)
                      have hXlt : w5.heap.size < (w5.alloc (Obj.cells #[.int .i64 gb.f, .int .i64 ga.t, .slice ya L.length yc] 25)).heap.size := by rw [World.size_alloc]; omega
                      have hown7 : ∀ b, (Value.slice ya L.length yc).ownBlock = some b → wc.heap.size ≤ b := fun b hb => Nat.le_trans hWs (hown b hb)
                      generalize w5.alloc (Obj.cells #[.int .i64 gb.f, .int .i64 ga.t, .slice ya L.length yc] 25) = W7 at hX hB7 hL7 hXlt ⊢
                      have hO7 := hO1.below hB7
                      have hgE : (⟨gb.f, ga.t, L⟩ : Gr) = gb.comp ga := by unfold Gr.comp; rw [hcomp.eqL]
                      have hc := hasGraph_calls ⟨gb.f, ga.t, L⟩ (some ⟨b0, 0, none⟩) ya cv1 yc ul1 L.length W7.heap.size u1 Aul1.out.symm rfl (fun y hy => hcok y (hcl1 y hy)) (hgE ▸ hcok _ hcg) W7 (Nat.le_refl _) (hO7.graphs (by have := Aul1.out; omega)) hL7
                      have hs7 := hB7.size
                      refine hc.mono ?_
                      rintro e w8 ⟨⟨b, rfl, hb⟩, hb8⟩
                      have hs8 := hb8.size
                      have hB8 := hB7.trans (hb8.mono hs7)
                      have hO8 := hO7.below hb8
                      have hBW8 := hB1.trans (hB8.mono hB1.size)
                      have hX8 := (hb8.block w5.heap.size hXlt).trans hX
                      obtain ⟨k0, k1, k2⟩ : w8.cell? ⟨w5.heap.size, 0, none⟩ = some (.int .i64 gb.f) ∧ w8.cell? ⟨w5.heap.size, 1, none⟩ = some (.int .i64 ga.t) ∧ w8.cell? ⟨w5.heap.size, 2, none⟩ = some (.slice ya L.length yc) := by
                        simp [World.cell?, hX8]
                      clear hc fc
                      cases b
                      · have hxn : gb.comp ga ∉ u1 := fun h => by have := hb.2 (hgE ▸ h); cases this
                        clear hb
                        obtain ⟨v9, W9, hrun, hO9, hB9⟩ := hO8.append ⟨gb.f, ga.t, L⟩ ya yc (LinksIn.of (hL7.below hb8) fun b hb ho => ⟨by omega, fun e => by have h1 := hown7 b ho; have h2 := (hO1.lt e).2; omega⟩) hBW8.size (by have := Aul1.out; omega)
                        simp only at hrun
                        rw [hgE] at hO9
                        simp only
                        go_wp2_with (at_builtin; refine Lib.wpList_append_run _ rfl _ _ _ _ rfl _ _ rfl rfl _ _ (hrun _) ?_)
                        go_meet
                        exact ⟨_, hO9, hBW8.trans hB9, .inl ⟨AE.out, .inr ⟨hxn, rfl⟩⟩⟩
                      · have hxy : gb.comp ga ∈ u1 := hgE ▸ hb.1 rfl
                        clear hb
                        simp only
                        go_wp2
                        go_meet
                        exact ⟨_, hO8, hBW8, .inl ⟨AE.out, .inl ⟨hxy, rfl⟩⟩⟩
                    · go_simp
                      have hBA := hBW.alloc hWs (Obj.cells #[.int .i64 0, .int .i64 0, .slice none 0 0] 25)
                      refine ⟨hBA, ?_⟩
                      apply Heavy.one_n
                      · exact rfl
                      · exact rfl
                      go_simp
                      refine (rc _ hBA).mono ?_
                      rintro e w5 ⟨sv, L, rfl, hL, hcomp, hown, hb⟩
                      have hL2 := hL
                      obtain ⟨ya, yc, rfl, _, _⟩ := hL2
                      have hB5 : Below wc.heap.size wc w5 := hBA.trans (hb.mono hBA.size)
                      have hZ := (hb.block W.heap.size (by rw [World.size_alloc]; omega)).trans (heap_alloc_new W _)
                      obtain ⟨r0, r1, r2, r3, r4, r5⟩ : w5.cell? ⟨W.heap.size, 0, none⟩ = some (.int .i64 0) ∧ w5.cell? ⟨W.heap.size, 1, none⟩ = some (.int .i64 0) ∧ w5.cell? ⟨W.heap.size, 2, none⟩ = some (.slice none 0 0) ∧ w5.frozen? ⟨W.heap.size, 0, none⟩ = false ∧ w5.frozen? ⟨W.heap.size, 1, none⟩ = false ∧ w5.frozen? ⟨W.heap.size, 2, none⟩ = false := by
                        simp [World.cell?, World.frozen?, hZ]
                      refine ⟨_, rfl, hB5, ?_⟩
                      apply Heavy.plan_end
                      show wpList _ _ _ _ _ _
                      go_wp2_with (go_at_call 14; fail)
                      have hXs := (Array.getElem?_eq_some_iff.1 hZ).1
                      have hX := put3_block (a := .int .i64 gb.f) (b := .int .i64 ga.t) (c := .slice ya L.length yc) hZ
                      have hne : ∀ b, (Value.slice ya L.length yc).ownBlock = some b → b ≠ W.heap.size := fun b hb => by have := hown b hb; rw [World.size_alloc] at this; omega
                      have hB7 : Below wc.heap.size wc (((w5.setCell ⟨W.heap.size, 0, none⟩ (.int .i64 gb.f)).setCell ⟨W.heap.size, 1, none⟩ (.int .i64 ga.t)).setCell ⟨W.heap.size, 2, none⟩ (.slice ya L.length yc)) := hB5.trans ((below_put _ _ _ _ hWs).trans ((below_put _ _ _ _ hWs).trans (below_put _ _ _ _ hWs)))
                      have hL7 : LinksAt (((w5.setCell ⟨W.heap.size, 0, none⟩ (.int .i64 gb.f)).setCell ⟨W.heap.size, 1, none⟩ (.int .i64 ga.t)).setCell ⟨W.heap.size, 2, none⟩ (.slice ya L.length yc)).heap.size (((w5.setCell ⟨W.heap.size, 0, none⟩ (.int .i64 gb.f)).setCell ⟨W.heap.size, 1, none⟩ (.int .i64 ga.t)).setCell ⟨W.heap.size, 2, none⟩ (.slice ya L.length yc)) (.slice ya L.length yc) L := by
                        rw [setCell_size, setCell_size, setCell_size]
                        exact ((hL.put hne).put hne).put hne
                      have hXlt : W.heap.size < (((w5.setCell ⟨W.heap.size, 0, none⟩ (.int .i64 gb.f)).setCell ⟨W.heap.size, 1, none⟩ (.int .i64 ga.t)).setCell ⟨W.heap.size, 2, none⟩ (.slice ya L.length yc)).heap.size := by
                        rw [setCell_size, setCell_size, setCell_size]; exact hXs
                      have hown7 : ∀ b, (Value.slice ya L.length yc).ownBlock = some b → wc.heap.size ≤ b := fun b hb => by have := hown b hb; rw [World.size_alloc] at this; omega
                      generalize ((w5.setCell ⟨W.heap.size, 0, none⟩ (.int .i64 gb.f)).setCell ⟨W.heap.size, 1, none⟩ (.int .i64 ga.t)).setCell ⟨W.heap.size, 2, none⟩ (.slice ya L.length yc) = W7 at hX hB7 hL7 hXlt ⊢
                      clear r0 r1 r2 r3 r4 r5
                      have hO7 := hO1.below hB7
                      have hgE : (⟨gb.f, ga.t, L⟩ : Gr) = gb.comp ga := by unfold Gr.comp; rw [hcomp.eqL]
                      have hc := hasGraph_calls ⟨gb.f, ga.t, L⟩ (some ⟨b0, 0, none⟩) ya cv1 yc ul1 L.length W7.heap.size u1 Aul1.out.symm rfl (fun y hy => hcok y (hcl1 y hy)) (hgE ▸ hcok _ hcg) W7 (Nat.le_refl _) (hO7.graphs (by have := Aul1.out; omega)) hL7
                      have hs7 := hB7.size
                      refine hc.mono ?_
                      rintro e w8 ⟨⟨b, rfl, hb⟩, hb8⟩
                      have hs8 := hb8.size
                      have hB8 := hB7.trans (hb8.mono hs7)
                      have hO8 := hO7.below hb8
                      have hBW8 := hB1.trans (hB8.mono hB1.size)
                      have hX8 := (hb8.block W.heap.size hXlt).trans hX
                      obtain ⟨k0, k1, k2⟩ : w8.cell? ⟨W.heap.size, 0, none⟩ = some (.int .i64 gb.f) ∧ w8.cell? ⟨W.heap.size, 1, none⟩ = some (.int .i64 ga.t) ∧ w8.cell? ⟨W.heap.size, 2, none⟩ = some (.slice ya L.length yc) := by
                        simp [World.cell?, hX8]
                      clear hc fc
                      cases b
                      · have hxn : gb.comp ga ∉ u1 := fun h => by have := hb.2 (hgE ▸ h); cases this
                        clear hb
                        obtain ⟨v9, W9, hrun, hO9, hB9⟩ := hO8.append ⟨gb.f, ga.t, L⟩ ya yc (LinksIn.of (hL7.below hb8) fun b hb ho => ⟨by omega, fun e => by have h1 := hown7 b ho; have h2 := (hO1.lt e).2; omega⟩) hBW8.size (by have := Aul1.out; omega)
                        simp only at hrun
                        rw [hgE] at hO9
                        simp only
                        go_wp2_with (at_builtin; refine Lib.wpList_append_run _ rfl _ _ _ _ rfl _ _ rfl rfl _ _ (hrun _) ?_)
                        go_meet
                        exact ⟨_, hO9, hBW8.trans hB9, .inl ⟨AE.out, .inr ⟨hxn, rfl⟩⟩⟩
                      · have hxy : gb.comp ga ∈ u1 := hgE ▸ hb.1 rfl
                        clear hb
                        simp only
                        go_wp2
                        go_meet
                        exact ⟨_, hO8, hBW8, .inl ⟨AE.out, .inl ⟨hxy, rfl⟩⟩⟩
                  · have heqB : (gb.t == ga.f) = false := by simpa using heq
                    have hOd := hO1.below (w' := wc.drew) ⟨rfl, rfl, rfl, Nat.le_refl _, fun _ _ => rfl⟩
                    have hBd : Below w.heap.size w wc.drew := hB1.trans ⟨rfl, rfl, rfl, Nat.le_refl _, fun _ _ => rfl⟩
                    have AE : Aside (gb.t ≠ ga.f) := heq
                    clear heq
                    go_wp2
                    go_meet
                    exact ⟨_, hOd, hBd, .inr ⟨AE.out, rfl⟩⟩
                case rest =>
                  obtain ⟨u2, hO2, hB2, hA2⟩ := hcut
                  have hstep := hT.step hkp hgb hA1 hA2
                  have hl2 : u2.length ≤ u1.length + 1 := by
                    rcases hA2 with ⟨e, h⟩ | ⟨_, rfl⟩
                    · exact h.len.2
                    · omega
                  have hl3 : u2.length ≤ 1048578 := by have := Aul1.out; omega
                  obtain ⟨pv2, cv2, hpv2⟩ := hO2.val
                  obtain ⟨ul2, hul2⟩ : ∃ ul2, ul2 = u2.length := ⟨_, rfl⟩
                  rw [← hul2] at hpv2 hl3
                  have Aul2 : Aside (ul2 = u2.length) := hul2
                  clear hul2 p0 p1 p2 q0 q1 q2 pL qL
                  subst hpv2
                  by_cases hmany : 1000 < ul2
                  · have hmi : (1000 : Int) < (ul2 : Int) := by omega
                    have fin : ∃ N : List Gr, N.Nodup ∧ (∀ g ∈ N, Cl l g) ∧ 1000 < N.length := ⟨u2, hstep.idx.nd, hstep.idx.cl, by have := Aul2.out; omega⟩
                    go_wp2
                    go_ret2
                    exact ⟨.inr ⟨rfl, fin⟩, hB2⟩
                  · have hmi : ¬ (1000 : Int) < (ul2 : Int) := by omega
                    go_wp2
                    go_roundw
                    case rel => exact ⟨k + 1, u2, by simp, hO2, hB2, hstep, by have := Aul2.out; omega⟩
                    case measure => simp [intOf]; omega
            · have hki : ¬ (k : Int) ≤ (p : Int) := by omega
              have hnx := hT.next (by omega)
              go_wp2
              exact ⟨⟨p + 1, u, by simp, hO, hB, hnx, by have := Aul.out; omega⟩, by simp [intOf]; omega⟩
        · have hall := hI.all (by omega)
          have hcl := hI.cl
          have hnd := hI.nd
          obtain ⟨ul, hul2⟩ : ∃ ul, ul = u.length := ⟨_, rfl⟩
          rw [← hul2] at hpv hlt2 hul
          have Aul : Aside (ul = u.length) := hul2
          have hsz0 : u.toArray.size = ul := by simpa using hul2.symm
          clear hul2
          subst hpv
          have hpi : ¬ (p : Int) < (ul : Int) := by omega
          by_cases hmany : 1000 < ul
          · have hmi : (1000 : Int) < (ul : Int) := by omega
            have fin : ∃ N : List Gr, N.Nodup ∧ (∀ g ∈ N, Cl l g) ∧ 1000 < N.length := ⟨u, hnd, hcl, by have := Aul.out; omega⟩
            clear hI
            go_wp2
            go_ret2
            exact ⟨.inr ⟨rfl, fin⟩, hB⟩
          · have hmi : ¬ (1000 : Int) < (ul : Int) := by omega
            have hO0 : One w.heap.size wr (.slice pv ul cv) u.toArray.toList := hO
            have hB0 := hB
            clear hI hO hB
            go_wp2
            go_loopw [10] (fun i wr => ∃ (q : Nat) (d : Array Gr), i = .int .i64 q ∧ q ≤ ul ∧ d.size = ul ∧ One w.heap.size wr (.slice pv ul cv) d.toList ∧ Below w.heap.size w wr ∧ Srt u.toArray q d) (fun i _ => ul - (intOf i).toNat)
            case atStart => exact ⟨0, u.toArray, rfl, Nat.zero_le _, hsz0, hO0, hB0, Srt.start _⟩
            case round =>
              clear hO0 hB0
              obtain ⟨q, d, rfl, hq, hds, hO, hB, hS⟩ := hrel
              by_cases hlt3 : q < ul
              · go_wp2
                go_loopw [11] (fun i wr => ∃ (k : Nat) (d : Array Gr), i = .int .i64 k ∧ k ≤ q ∧ d.size = ul ∧ One w.heap.size wr (.slice pv ul cv) d.toList ∧ Below w.heap.size w wr ∧ Sin u.toArray q k d) (fun i _ => (intOf i).toNat)
                case atStart => exact ⟨q, d, rfl, Nat.le_refl _, hds, hO, hB, hS.sin (by omega)⟩
                case round =>
                  clear hO hB hS hds
                  obtain ⟨k, d, rfl, hkq, hds, hO, hB, hN⟩ := hrel
                  have hsr := hB.size
                  have hBd : Below wr.heap.size wr wr.drew := ⟨rfl, rfl, rfl, Nat.le_refl _, fun _ _ => rfl⟩
                  by_cases hk0 : k = 0
                  · subst hk0
                    have hst := hN.stop hnd (.inl rfl)
                    have hOd := hO.below hBd
                    have hBB := hB.trans (hBd.mono hsr)
                    go_wp2
                    refine wp_region_still_tail 14 (by kernel_rfl) (by kernel_rfl) ?_
                    simp only [List.take_succ_cons, List.take_zero, List.drop_succ_cons, List.drop_zero, World.drew_eq]
                    repeat (with_reducible refine wpStill_step (fun K hK => ?_); go_simp; with_reducible refine hK _ ?_; clear hK K)
                    refine wpStill_nil ?_
                    show wpList _ _ _ _ _ _
                    go_wp2
                    exact ⟨⟨q + 1, d, by simp, by omega, hds, hOd, hBB, hst⟩, by simp [intOf]; omega⟩
                  · obtain ⟨k', rfl⟩ : ∃ k', k = k' + 1 := ⟨k - 1, by omega⟩
                    have hO' := hO
                    obtain ⟨vs, own, row⟩ := hO'
                    rw [Array.length_toList (xs := d), hds] at own
                    have gI : d.toList[k' + 1]? = some d[k' + 1]! := by rw [List.getElem?_eq_getElem (by rw [Array.length_toList]; omega), Array.getElem_toList, getElem!_pos d (k' + 1) (by omega)]
                    have gJ : d.toList[k']? = some d[k']! := by rw [List.getElem?_eq_getElem (by rw [Array.length_toList]; omega), Array.getElem_toList, getElem!_pos d k' (by omega)]
                    have hmI : Cl l d[k' + 1]! := hcl _ (by have := hN.perm.mem_iff.1 (List.mem_of_getElem? gI); simpa using this)
                    have hmJ : Cl l d[k']! := hcl _ (by have := hN.perm.mem_iff.1 (List.mem_of_getElem? gJ); simpa using this)
                    obtain ⟨b0, xa, xc, hpa, hb0, p0, p1, p2, pL⟩ := own_get own row gI (by omega)
                    obtain ⟨b0', ya, yc, hpa', _, q0, q1, q2, qL⟩ := own_get own row gJ (by omega)
                    rw [hpa] at hpa'
                    cases hpa'
                    subst hpa
                    clear own row gI gJ
                    obtain ⟨x, hx⟩ : ∃ x, d[k' + 1]! = x := ⟨_, rfl⟩
                    obtain ⟨y, hy⟩ : ∃ y, d[k']! = y := ⟨_, rfl⟩
                    rw [hx] at p0 p1 p2 pL hmI
                    rw [hy] at q0 q1 q2 qL hmJ
                    have cc := graphOrder_calls x.f x.t y.f y.t xa ya xc yc x.L.length y.L.length wr.heap.size x.L y.L rfl rfl (hcok x hmI) (hcok y hmJ) wr.drew (Nat.le_refl _) ((pL.at (n := wr.heap.size) fun b hb => hb.1).below hBd) ((qL.at (n := wr.heap.size) fun b hb => hb.1).below hBd)
                    have hneg : ordG ⟨x.f, x.t, x.L⟩ ⟨y.f, y.t, y.L⟩ < 0 ↔ grLt x y := ordG_neg
                    generalize ordG ⟨x.f, x.t, x.L⟩ ⟨y.f, y.t, y.L⟩ = c at cc hneg
                    have hw1 : IntKind.i64.wrap (k' : Int) = k' := wrap_nat (by omega)
                    have hi1 : (k' : Int) < (ul : Int) := by omega
                    have hi2 : (k' : Int) + 1 < (ul : Int) := by omega
                    have hi3 : (0 : Int) ≤ (k' : Int) := by omega
                    have hi4 : (0 : Int) < (k' : Int) + 1 := by omega
                    have hi5 : (0 : Int) ≤ (k' : Int) + 1 := by omega
                    have hi6 : k' < ul := by omega
                    have hi7 : k' + 1 < ul := by omega
                    have AX : Aside (d[k' + 1]! = x ∧ d[k']! = y) := ⟨hx, hy⟩
                    clear hx hy pL qL hmI hmJ hk0
                    by_cases hc0 : c < 0
                    · have hlt := hneg.1 hc0
                      clear hneg
                      go_wp2
                      refine wp_region_still_tail 12 (by kernel_rfl) (by kernel_rfl) ?_
                      simp only [List.take_succ_cons, List.take_zero, List.drop_succ_cons, List.drop_zero, World.drew_eq]
                      repeat (with_reducible refine wpStill_step (fun K hK => ?_); go_simp; with_reducible refine hK _ ?_; clear hK K)
                      refine wpStill_nil ?_
                      show wpList _ _ _ _ _ _
                      go_wp2_with (go_at_call 10; refine cc.mono ?_; rintro e w5 ⟨rfl, hb5⟩; clear cc p0 p1 p2 q0 q1 q2)
                      have hB5 : Below wr.heap.size wr w5 := hBd.trans (hb5.mono (Nat.le_refl _))
                      have hB6 : Below wr.heap.size wr w5.drew := hB5.trans ⟨rfl, rfl, rfl, Nat.le_refl _, fun _ _ => rfl⟩
                      have hO6 := hO.below hB6
                      obtain ⟨gi, gj, ai, aj, ci, cj, w1, w2, e1, e2, ⟨i0, i1, i2⟩, ⟨j0, j1, j2⟩, st1, st2, hO2, hg2, hs2, fz, fz1, y0, y1, y2, m0, m1, m2⟩ := hO6.swap hds (i := k' + 1) (j := k') (by omega) (by omega)
                      have hB2 := hB.trans ((hB6.mono hsr).trans (below_grown hg2 (Nat.le_trans hsr hB6.size) fun b hb => by cases hb; exact (hO.lt rfl).1))
                      have hsw := hN.swap (k := k') (by rw [AX.out.1, AX.out.2]; exact hlt)
                      clear hB5 hO6 hg2 hs2 e1 e2 hO
                      have e1 : w1 = (((w5.setCell ⟨b0, (k' + 1) * 3, none⟩ (.int .i64 gj.f)).setCell ⟨b0, (k' + 1) * 3 + 1, none⟩ (.int .i64 gj.t)).setCell ⟨b0, (k' + 1) * 3 + 2, none⟩ (.slice aj gj.L.length cj)).drew := store3_chain i0 i1 i2 fz st1
                      have e2 := store3_chain m0 m1 m2 fz1 st2
                      subst e2
                      have f0 : w5.frozen? ⟨b0, (k' + 1) * 3, none⟩ = false := fz ((k' + 1) * 3)
                      have f1 : w5.frozen? ⟨b0, (k' + 1) * 3 + 1, none⟩ = false := fz ((k' + 1) * 3 + 1)
                      have f2 : w5.frozen? ⟨b0, (k' + 1) * 3 + 2, none⟩ = false := fz ((k' + 1) * 3 + 2)
                      have I0 : w5.cell? ⟨b0, (k' + 1) * 3, none⟩ = some (.int .i64 gi.f) := i0
                      have I1 : w5.cell? ⟨b0, (k' + 1) * 3 + 1, none⟩ = some (.int .i64 gi.t) := i1
                      have I2 : w5.cell? ⟨b0, (k' + 1) * 3 + 2, none⟩ = some (.slice ai gi.L.length ci) := i2
                      have g0 := fz1 (k' * 3)
                      have g1 := fz1 (k' * 3 + 1)
                      have g2 := fz1 (k' * 3 + 2)
                      clear st1 st2 fz fz1
                      go_wp2_with fail
                      refine Heavy.region_switch (fun w' => w' = w5.drew) (fun _ => True) 17 15 [.both 0, .both 1, .both 2, .both 3, .both 4, .both 5, .both 6, .both 7, .both 8, .pre 9, .both 10, .both 11, .both 12, .pre 13, .both 14, .sw, .both 16] (by kernel_rfl) (by kernel_rfl) rfl ?_
                      simp only [List.take_succ_cons, List.take_zero, List.drop_succ_cons, List.drop_zero, World.drew_eq]
                      iterate 15 (first | (apply Heavy.pre_step; (exact rfl); (exact rfl); (intro wr2 hw; subst hw; go_simp; exact rfl)) | (apply Heavy.both_step; (exact rfl); (exact rfl); (intro wr2; go_simp; exact rfl)))
                      apply Heavy.sw_step
                      · exact rfl
                      · exact rfl
                      go_simp
                      rw [← e1]
                      clear e1 i0 i1 i2 j0 j1 j2 I0 I1 I2 f0 f1 f2
                      apply Heavy.both_step
                      · exact rfl
                      · exact rfl
                      · intro wr2
                        go_simp
                        exact rfl
                      apply Heavy.switch_end
                      show wpList _ _ _ _ _ _
                      go_wp2
                      exact ⟨⟨k', swp d (k' + 1) k', by simp, by omega, by rw [size_swp]; exact hds, hO2, hB2, hsw⟩, by simp [intOf]⟩
                    · have hst := hN.stop hnd (.inr (by rw [Nat.add_sub_cancel, AX.out.1, AX.out.2]; exact fun h => hc0 (hneg.2 h)))
                      clear hneg
                      go_wp2
                      refine wp_region_still_tail 12 (by kernel_rfl) (by kernel_rfl) ?_
                      simp only [List.take_succ_cons, List.take_zero, List.drop_succ_cons, List.drop_zero, World.drew_eq]
                      repeat (with_reducible refine wpStill_step (fun K hK => ?_); go_simp; with_reducible refine hK _ ?_; clear hK K)
                      refine wpStill_nil ?_
                      show wpList _ _ _ _ _ _
                      go_wp2_with (go_at_call 10; refine cc.mono ?_; rintro e w5 ⟨rfl, hb5⟩)
                      have hB5 : Below wr.heap.size wr w5 := hBd.trans (hb5.mono (Nat.le_refl _))
                      exact ⟨⟨q + 1, d, by simp, by omega, hds, hO.below hB5, hB.trans (hB5.mono hsr), hst⟩, by simp [intOf]; omega⟩
              · obtain rfl : q = ul := by omega
                have hfin : Closed l 1000 d.toList := ⟨hS.all (by omega), fun g => by rw [hS.perm.mem_iff]; simpa using hall g, by rw [Array.length_toList]; omega⟩
                have hG := hO.graphs (by rw [Array.length_toList]; omega)
                go_wp2
                go_ret2
                exact ⟨.inl ⟨_, d.toList, rfl, hG, hfin⟩, hB⟩
end Go.Proofs.YtbleedclnkpbkaaGreatDoor
end
