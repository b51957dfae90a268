/-
  A part of the proof of the card of WorkClosureMatchesSpec (second form): lemmas that the text Card uses. No condition of its own.
-/
import Derived.Test.YtbleedclnkpbkaaGreatDoorClosA
import Derived.Test.YtbleedclnkpbkaaGreatDoorRules
import Derived.Test.YtbleedclnkpbkaaGreatDoorLinksB
set_option linter.all false
set_option linter.unusedVariables false
set_option linter.unusedSimpArgs false
section
namespace Go.Proofs.YtbleedclnkpbkaaGreatDoor
open Go.RowKit Go.Sort
attribute [local go_sem] Heavy.uponW
def slen : Option Value → Nat
  | some (.slice _ n _) => n
  | _ => 0
/-- the box of add -/
def AddBox (Ba Bo : Nat) (w : World) : Prop := w.heap[Ba]? = some (.cells #[.func (.func 30) #[] #[.pointer (some ⟨Bo, 0, none⟩)]] 78 (0, 0))
theorem store_ok (w : World) (a : Addr) (v u : Value) (hv : v.oneCell' = true) (hc : w.cell? a = some u) (hf : w.frozen? a = false) : (store a v).run Tryz.prog w = .ok () (w.setCell a v) := by
  rw [run_store _ _ _ _ _ hv, hc]; simp [hf]
theorem cell0 {w : World} {g : Nat} {v : Value} {e : TypeId} {fr : Nat × Nat} (h : w.heap[g]? = some (.cells #[v] e fr)) : w.cell? ⟨g, 0, none⟩ = some v := by simp [World.cell?, h]
theorem frozen0 {w : World} {g : Nat} {cs : Array Value} {e : TypeId} (h : w.heap[g]? = some (.cells cs e (0, 0))) : w.frozen? ⟨g, 0, none⟩ = false := by simp [World.frozen?, h]
/-- closure's world at its start -/
def w3 (w : World) : World := ((w.alloc (Obj.cells #[.slice none 0 0] 22)).alloc (Obj.cells #[.func (.func 30) #[] #[.pointer (some ⟨w.heap.size, 0, none⟩)]] 78)).alloc (Obj.cells #[.slice none 0 0] 22)
theorem sto_start (w : World) : Sto w.heap.size w.heap.size (w.heap.size + 1 + 1) (w3 w) (.slice none 0 0) (.slice none 0 0) [] [] ∧ AddBox (w.heap.size + 1) w.heap.size (w3 w) ∧ Fre w.heap.size (w.heap.size + 1 + 1) (w3 w) (.slice none 0 0) (.slice none 0 0) (w.heap.size + 1) ∧ Below w.heap.size w (w3 w) ∧ (w3 w).heap.size = w.heap.size + 3 := by
  have hs : (w3 w).heap.size = w.heap.size + 3 := by unfold w3; rw [World.size_alloc, World.size_alloc, World.size_alloc]
  have s1 : (w.alloc (Obj.cells #[.slice none 0 0] 22)).heap.size = w.heap.size + 1 := World.size_alloc _ _
  have s2 : ((w.alloc (Obj.cells #[.slice none 0 0] 22)).alloc (Obj.cells #[.func (.func 30) #[] #[.pointer (some ⟨w.heap.size, 0, none⟩)]] 78)).heap.size = w.heap.size + 1 + 1 := by rw [World.size_alloc, s1]
  have n1 := heap_alloc_new w (Obj.cells #[.slice none 0 0] 22)
  have n2 := heap_alloc_new (w.alloc (Obj.cells #[.slice none 0 0] 22)) (Obj.cells #[.func (.func 30) #[] #[.pointer (some ⟨w.heap.size, 0, none⟩)]] 78)
  have n3 := heap_alloc_new ((w.alloc (Obj.cells #[.slice none 0 0] 22)).alloc (Obj.cells #[.func (.func 30) #[] #[.pointer (some ⟨w.heap.size, 0, none⟩)]] 78)) (Obj.cells #[.slice none 0 0] 22)
  rw [s1] at n2
  rw [s2] at n3
  have e1 : (w3 w).heap[w.heap.size]? = some (Obj.cells #[.slice none 0 0] 22) := by unfold w3; rw [Below.heap_alloc _ _ _ (by omega), Below.heap_alloc _ _ _ (by omega)]; exact n1
  have e2 : (w3 w).heap[w.heap.size + 1]? = some (Obj.cells #[.func (.func 30) #[] #[.pointer (some ⟨w.heap.size, 0, none⟩)]] 78) := by unfold w3; rw [Below.heap_alloc _ _ _ (by omega)]; exact n2
  refine ⟨⟨Nat.le_refl _, by omega, by omega, e1, n3, ⟨[], World.ownsRow_nil _ _ _ _, RowIn.nil _ _⟩, ⟨[], ⟨rfl, .inl ⟨rfl, rfl⟩⟩, RowIn.nil _ _⟩, ⟨by simp [Value.ownBlock], by simp [Value.ownBlock]⟩, ⟨by simp [Value.ownBlock], by simp [Value.ownBlock]⟩, by simp [Value.ownBlock]⟩, e2, ⟨by omega, by omega, by omega, by simp [Value.ownBlock], by simp [Value.ownBlock]⟩, ?_, hs⟩
  exact ((below_alloc2 w _ _).alloc (by omega) _)
/-- what closure answers -/
def ClosureSays (l : List Gr) (w : World) (e : Ending) (w' : World) : Prop :=
  ((∃ sv o, e = .returned (.tuple #[sv, .int .i64 0]) ∧ GraphsAt w'.heap.size w' sv o ∧ Closed l 1000 o) ∨ (e = .returned (.tuple #[.slice none 0 0, .int .i64 3]) ∧ Many l 1000)) ∧ Below w.heap.size w w'
set_option maxRecDepth 100000 in
set_option maxHeartbeats 16000000 in
/-- closure -/
theorem closure_calls (F T : List Int) (hFT : F.length * T.length ≤ 2199023255552) (a : Option Addr) (len cap n : Nat) (l : List Gr) (hlen : l.length = len) (hsmall : len ≤ 1048576) (hin : ∀ g ∈ l, ∀ x ∈ g.L, x.f ∈ F ∧ x.t ∈ T) (hgood : ∀ g ∈ l, g.good) (w : World) (hn : n ≤ w.heap.size) (h1 : GraphsAt n w (.slice a len cap) l) :
    Calls Tryz.prog 13 #[.slice a len cap] w fun e w' => ClosureSays l w e w' := by
  have hmf : ∀ (fn : Fn) (first cap : Array Value) (w : World), (Instr.makeFunc fn first cap).run Tryz.prog w = .ok (.func fn first cap) w := fun _ _ _ _ => rfl
  have hbig : len < 4611686018427387904 := by omega
  obtain ⟨hS0, hA0, hF0, hb0, hs0⟩ := sto_start w
  have hst : (store ⟨w.heap.size + 1, 0, none⟩ (.func (.func 30) #[] #[.pointer (some ⟨w.heap.size, 0, none⟩)])).run Tryz.prog ((w.alloc (Obj.cells #[.slice none 0 0] 22)).alloc (Obj.cells #[.nilFunc] 78)) =
      .ok () (((w.alloc (Obj.cells #[.slice none 0 0] 22)).alloc (Obj.cells #[.nilFunc] 78)).setCell ⟨w.heap.size + 1, 0, none⟩ (.func (.func 30) #[] #[.pointer (some ⟨w.heap.size, 0, none⟩)])) := by
    have hb := heap_alloc_new (w.alloc (Obj.cells #[.slice none 0 0] 22)) (Obj.cells #[.nilFunc] 78)
    rw [World.size_alloc] at hb
    exact store_ok _ _ _ .nilFunc rfl (cell0 hb) (frozen0 hb)
  go_enter Tryz.func13, Tryz.ntmps13
  go_wp2
  clear hst
  generalize hw3 : ((w.alloc (Obj.cells #[.slice none 0 0] 22)).alloc (Obj.cells #[.func (.func 30) #[] #[.pointer (some ⟨w.heap.size, 0, none⟩)]] 78)).alloc (Obj.cells #[.slice none 0 0] 22) = wb
  have hw3' : w3 w = wb := hw3
  rw [hw3'] at hS0 hA0 hF0 hb0 hs0
  clear hw3 hw3'
  go_loopw [17] (fun i wr => ∃ (k : Nat) (vo vr : Value) (o r : List Gr), k ≤ len ∧ i = .int .i64 k ∧ Sto w.heap.size w.heap.size (w.heap.size + 1 + 1) wr vo vr o r ∧ Mon w.heap.size (w.heap.size + 1 + 1) wb (.slice none 0 0) (.slice none 0 0) wr vo vr ∧ Below w.heap.size w wr ∧ Ini l k o r ∧ o.length ≤ k) (fun i _ => len - (intOf i).toNat)
  case atStart => exact ⟨0, _, _, [], [], Nat.zero_le _, rfl, hS0, Mon.refl _ _ _ _ _, hb0, Ini.start l, Nat.le_refl _⟩
  case round =>
    obtain ⟨k, vo, vr, o, r, hk, rfl, hS, hM, hB, hI, hol⟩ := hrel
    have g1 := h1.below (hB.mono hn)
    by_cases hlt : k < len
    · obtain ⟨x, hx⟩ : ∃ x, l[k]? = some x := ⟨l[k], List.getElem?_eq_getElem (by omega)⟩
      obtain ⟨b1, o1, xa, xc, rfl, hb1, p0, p1, p2, px⟩ := g1.get hx
      clear g1 h1
      go_wp2
      have hWs : (wr.alloc (Obj.cells #[.int .i64 x.f, .int .i64 x.t, .slice xa x.L.length xc] 25)).heap.size = wr.heap.size + 1 := World.size_alloc _ _
      have hWn := heap_alloc_new wr (Obj.cells #[.int .i64 x.f, .int .i64 x.t, .slice xa x.L.length xc] 25)
      have hWb := below_alloc wr (Obj.cells #[.int .i64 x.f, .int .i64 x.t, .slice xa x.L.length xc] 25)
      generalize wr.alloc (Obj.cells #[.int .i64 x.f, .int .i64 x.t, .slice xa x.L.length xc] 25) = W at hWs hWn hWb ⊢
      refine Heavy.region_heavy (fun w' => Below W.heap.size W w') 9 7 (by kernel_rfl) (by kernel_rfl) (by kernel_rfl) ⟨rfl, rfl, rfl, Nat.le_refl _, fun _ _ => rfl⟩ ?_
      simp only [List.take_succ_cons, List.take_zero, List.drop_succ_cons, List.drop_zero]
      have fc : ∀ w', Below W.heap.size W w' → w'.cell? ⟨wr.heap.size, 0, none⟩ = some (.int .i64 x.f) ∧ w'.cell? ⟨wr.heap.size, 1, none⟩ = some (.int .i64 x.t) ∧ w'.cell? ⟨wr.heap.size, 2, none⟩ = some (.slice xa x.L.length xc) := fun w' hb => by
        have e0 := (hb.block wr.heap.size (by omega)).trans hWn
        simp [World.cell?, e0]
      clear hWn
      iterate 7 (apply Heavy.still_step; (exact Nat.ne_of_beq_eq_false rfl); (go_simp); (intro wr2 hw; have x0 := (fc wr2 hw).1; have x1 := (fc wr2 hw).2.1; have x2 := (fc wr2 hw).2.2; go_simp; exact rfl))
      have hwr := hB.size
      have hxm := List.mem_of_getElem? hx
      have hxl : x.L.length ≤ 2199023255552 := Nat.le_trans (asc_len (good_asc (hgood x hxm)) (hin x hxm)) hFT
      apply Heavy.heavy_step
      · go_simp
      go_simp
      have hWd : Below W.heap.size W W.drew := ⟨rfl, rfl, rfl, Nat.le_refl _, fun _ _ => rfl⟩
      refine (cloneLinks_calls xa xc x.L.length n x.L rfl hxl W.drew (by show n ≤ W.heap.size; omega) (px.below ((hWb.mono (by omega)).trans (hWd.mono (by omega))))).mono ?_
      rintro e w2 ⟨sv, rfl, hL2, hown, hb2⟩
      have hL2' := hL2
      obtain ⟨ya, yc, rfl, _, _⟩ := hL2'
      have hW2 : Below (wr.heap.size + 1) W w2 := (hWd.trans hb2).mono (by omega)
      have hbs := hb2.size
      have hbs2 : wr.heap.size + 1 ≤ w2.heap.size := by have : W.heap.size ≤ w2.heap.size := hbs; omega
      have hB2 : Below wr.heap.size wr w2 := hWb.trans (hW2.mono (by omega))
      have hS2 := hS.below hB2
      have hM2 := hM.trans (mon_below vo vr hB2)
      have hBw2 : Below w.heap.size w w2 := hB.trans (hB2.mono hwr)
      refine ⟨_, rfl, hW2, ?_⟩
      apply Heavy.still_step
      · exact Nat.ne_of_beq_eq_false rfl
      · go_simp
      · intro wr2 hw; go_simp; exact rfl
      apply Heavy.chain_end
      have hsz2 := hS.sizes
      have hLf : LinksIn (Fre w.heap.size (w.heap.size + 1 + 1) w2 vo vr) w2 (.slice ya x.L.length yc) x.L := LinksIn.of hL2 fun b hb ho => by
        have hge : W.heap.size ≤ b := hown b ho
        exact ⟨hb, by omega, by omega, fun e => by have := (hS.lt_o e).2; omega, fun e => by have := (hS.lt_r e).2; omega⟩
      have hrl : r.length = o.length := hI.len
      have pc := put_calls x ya yc x.L.length w.heap.size w.heap.size (w.heap.size + 1 + 1) (w.heap.size + 1) vo vr o r rfl hI.asc (by omega) (by omega) w2 hBw2.size hS2 hLf ((hM2 _ hF0).2.trans hA0) (hM2 _ hF0).1
      clear fc px p0 p1 p2 hL2 hLf hown hb2 hrl
      show wpList _ _ _ _ _ _
      go_wp2_with (go_at_call 34; refine pc.mono ?_; rintro e w' ⟨vo', vr', o', r', rfl, hS', hM', hB', hP⟩)
      refine ⟨⟨k + 1, vo', vr', o', r', by omega, by simp, hS', hM2.trans hM', hBw2.trans hB', hI.put hx hP, ?_⟩, by simp [intOf]; omega⟩
      have := hP.len; omega
    · obtain rfl : k = len := by omega
      have hBet := hI.bet (by omega)
      have hrl : r.length = o.length := hI.len
      have hol' : o.length ≤ 1048576 := by omega
      clear g1 h1 hI hS0 hb0 hmf
      go_wp2
      have hS' := hS
      have hM' := hM
      have hB' := hB
      clear hS hM hB
      go_loopw [] (fun wr2 => ∃ (vo vr : Value) (o r : List Gr), Sto w.heap.size w.heap.size (w.heap.size + 1 + 1) wr2 vo vr o r ∧ Mon w.heap.size (w.heap.size + 1 + 1) wb (.slice none 0 0) (.slice none 0 0) wr2 vo vr ∧ Below w.heap.size w wr2 ∧ Bet l o r ∧ o.length ≤ 1048576 ∧ r.length ≤ o.length) (fun wr2 => 2097152 + slen (wr2.cell? ⟨w.heap.size + 1 + 1, 0, none⟩) - slen (wr2.cell? ⟨w.heap.size, 0, none⟩))
      case atStart => exact ⟨vo, vr, o, r, hS', hM', hB', hBet, hol', by omega⟩
      case round =>
        clear hS' hM' hB' hBet hol' hrl hol
        obtain ⟨vo, vr, o, r, hS, hM, hB, hBt, hol, hrl⟩ := hrel
        obtain ⟨pa, pc, hvo⟩ := hS.val_o
        obtain ⟨ra, rc, hvr⟩ := hS.val_r
        obtain ⟨ol, hol2⟩ : ∃ ol, ol = o.length := ⟨_, rfl⟩
        obtain ⟨rl, hrl2⟩ : ∃ rl, rl = r.length := ⟨_, rfl⟩
        rw [← hol2] at hvo hol hrl
        rw [← hrl2] at hvr hrl
        subst hvo
        subst hvr
        have co := hS.cell_o.1
        have cr := hS.cell_r.1
        by_cases hr : rl = 0
        · have hr0 : r = [] := List.length_eq_zero_iff.1 (hrl2.symm.trans hr)
          subst hr0
          subst hr
          clear hrl2
          by_cases hm : 1000 < ol
          · have hmi : (1000 : Int) < (ol : Int) := by omega
            have fin : ∃ N : List Gr, N.Nodup ∧ (∀ g ∈ N, Cl l g) ∧ 1000 < N.length := ⟨o, gr_nodup hBt.asc, hBt.cl, by omega⟩
            clear hol2
            go_wp2
            go_ret2
            exact ⟨.inr ⟨rfl, fin⟩, hB⟩
          · have hmi : ¬ (1000 : Int) < (ol : Int) := by omega
            have fin : Closed l 1000 o := ⟨hBt.asc, fun g => hBt.all g, by omega⟩
            have hG := hS.graphs_o (by omega)
            clear hol2
            go_wp2
            go_ret2
            exact ⟨.inl ⟨_, o, rfl, hG, fin⟩, hB⟩
        · have hri : (0 : Int) < (rl : Int) := by omega
          by_cases hm : 1000 < ol
          · have hmi : (1000 : Int) < (ol : Int) := by omega
            have fin : ∃ N : List Gr, N.Nodup ∧ (∀ g ∈ N, Cl l g) ∧ 1000 < N.length := ⟨o, gr_nodup hBt.asc, hBt.cl, by omega⟩
            clear hol2 hrl2
            go_wp2
            go_ret2
            exact ⟨.inr ⟨rfl, fin⟩, hB⟩
          · have hmi : ¬ (1000 : Int) < (ol : Int) := by omega
            obtain ⟨g, r0, rfl⟩ : ∃ g r0, r = g :: r0 := by
              cases r with
              | nil => exact absurd hrl2 hr
              | cons g r0 => exact ⟨g, r0, rfl⟩
            obtain ⟨rl', rfl⟩ : ∃ rl', rl = rl' + 1 := ⟨r0.length, hrl2⟩
            have hrl3 : r0.length = rl' := by simp at hrl2; omega
            obtain ⟨us, ownr, rowr⟩ := hS.own_r
            obtain ⟨rg, roff, hra, hrlt, hcells⟩ := ownr.cell (Nat.succ_pos _)
            subst hra
            obtain ⟨d0, d1, ga, gc, d2, hgL⟩ := rowr.at_ 0 g rfl
            have q0 := hcells _ _ d0
            have q1 := hcells _ _ d1
            have q2 := hcells _ _ d2
            simp only [Nat.zero_mul, Nat.zero_add, Nat.add_zero] at q0 q1 q2
            have hWb := below_alloc wr (Obj.cells #[.int .i64 g.f, .int .i64 g.t, .slice ga g.L.length gc] 25)
            have hWs : (wr.alloc (Obj.cells #[.int .i64 g.f, .int .i64 g.t, .slice ga g.L.length gc] 25)).heap.size = wr.heap.size + 1 := World.size_alloc _ _
            have hWn := heap_alloc_new wr (Obj.cells #[.int .i64 g.f, .int .i64 g.t, .slice ga g.L.length gc] 25)
            have hS1 := hS.below hWb
            have hM1 := mon_below (Bo := w.heap.size) (Br := w.heap.size + 1 + 1) (.slice pa ol pc) (.slice (some ⟨rg, roff, none⟩) (rl' + 1) rc) hWb
            have e1 := hS1.cell_r.1
            have z1 := hS1.cell_r.2
            have eo := hS1.cell_o.1
            obtain ⟨us1, ownr1, rowr1⟩ := hS1.own_r
            rw [List.length_cons, hrl3] at ownr1
            obtain ⟨ta, tc, hsl, htl, hto⟩ := slice_tail ownr1
            obtain ⟨s1, s2, s3⟩ := hS1.put_r (w1 := wr.alloc (Obj.cells #[.int .i64 g.f, .int .i64 g.t, .slice ga g.L.length gc] 25)) (vr' := .slice ta rl' tc) (r' := r0) (us' := us1.drop 3) ⟨rfl, rfl, rfl, Nat.le_refl _, fun _ _ _ => rfl⟩ (by rw [hrl3]; exact htl) (.inl (by rw [hto]; rfl)) (rowr1.drop 1)
            have hgf : Fre w.heap.size (w.heap.size + 1 + 1) (wr.alloc (Obj.cells #[.int .i64 g.f, .int .i64 g.t, .slice ga g.L.length gc] 25)) (.slice pa ol pc) (.slice (some ⟨rg, roff, none⟩) (rl' + 1) rc) wr.heap.size :=
              ⟨by omega, by have := hS.sizes.1; omega, by have := hS.sizes.2; omega, fun e => by have := (hS.lt_o e).2; omega, fun e => by have := (hS.lt_r e).2; omega⟩
            have hg2 := s2 _ hgf
            have hgL2 := (hgL.keep hM1).keep s2
            have hMs := hM.trans (hM1.trans s2)
            have hwr := hB.size
            have hBs : Below w.heap.size w ((wr.alloc (Obj.cells #[.int .i64 g.f, .int .i64 g.t, .slice ga g.L.length gc] 25)).setCell ⟨w.heap.size + 1 + 1, 0, none⟩ (.slice ta rl' tc)) := hB.trans ((hWb.mono hwr).trans (s3 (by omega)))
            have hgblk := hg2.2.trans hWn
            have Aol : Aside (ol = o.length) := hol2
            have Arl : Aside (r0.length = rl') := hrl3
            clear hol2 hrl3 hrl2 hcells d0 d1 d2 ownr rowr hgL hM1 hWn hS1 ownr1 rowr1 htl hto s2 s3 hWb hWs
            go_wp2_with (first | (refine wpList_slice_run rfl 22 _ _ rfl _ _ rfl rfl (hsl _) ?_) | (go_at_call 36; fail))
            generalize (wr.alloc (Obj.cells #[.int .i64 g.f, .int .i64 g.t, .slice ga g.L.length gc] 25)).setCell ⟨w.heap.size + 1 + 1, 0, none⟩ (.slice ta rl' tc) = W2 at s1 hg2 hgL2 hMs hBs hgblk ⊢
            obtain ⟨vs, owno, rowo⟩ := s1.own_o
            rw [← Aol.out] at owno
            refine (cloneRow_calls pa pc ol w.heap.size vs rowo.one (by omega) W2 owno).mono ?_
            rintro e W3 ⟨sa, sc, rfl, hC, hb3⟩
            have hb3s := hb3.size
            have hBs2 := hBs.size
            have S3 := s1.below hb3
            have M23 := mon_below (Bo := w.heap.size) (Br := w.heap.size + 1 + 1) (.slice pa ol pc) (.slice ta rl' tc) hb3
            have hg3 := (M23 _ hg2.1).1
            have hgL3 := hgL2.keep M23
            have rowC := rowo.keep M23
            have hMs3 := hMs.trans M23
            have hBs3 := hBs.trans (hb3.mono hBs2)
            have hgblk3 := (M23 _ hg2.1).2.trans hgblk
            have hCf : ∀ b, (Value.slice sa ol sc).ownBlock = some b → Fre w.heap.size (w.heap.size + 1 + 1) W3 (.slice pa ol pc) (.slice ta rl' tc) b := fun b hb => by
              have h1 := hC.lt b hb
              have hs := s1.sizes
              exact ⟨h1.2, by omega, by omega, fun e => by have := (s1.lt_o e).2; omega, fun e => by have := (s1.lt_r e).2; omega⟩
            have hRn := Rnd.start hBt
            have hgmem : g ∈ o := hBt.rdy g (List.mem_cons_self ..)
            have hgcl := hBt.cl g hgmem
            have hgin := Cl.within hin hgcl
            clear s1 hg2 hgL2 hMs hBs hgblk owno rowo hb3 M23 hb3s hBs2 hsl q0 q1 q2 e1 z1 eo hS hM hB
            simp only
            go_wp2
            generalize wr.heap.size = gB at hg3 hgblk3 ⊢
            go_loopw [46] (fun i wr3 => ∃ (kk : Nat) (vo vr : Value) (o1 r1 : List Gr), kk ≤ ol ∧ i = .int .i64 kk ∧ Sto w.heap.size w.heap.size (w.heap.size + 1 + 1) wr3 vo vr o1 r1 ∧ Mon w.heap.size (w.heap.size + 1 + 1) W3 (.slice pa ol pc) (.slice ta rl' tc) wr3 vo vr ∧ Below w.heap.size w wr3 ∧ Rnd l g o r0 kk o1 r1) (fun i _ => ol - (intOf i).toNat)
            case atStart => exact ⟨0, _, _, o, r0, Nat.zero_le _, rfl, S3, Mon.refl _ _ _ _ _, hBs3, hRn⟩
            case round =>
              clear S3 hBs3 hRn
              obtain ⟨kk, vo, vr, o1, r1, hkk, rfl, hS, hM, hB, hR⟩ := hrel
              by_cases hlt2 : kk < ol
              · obtain ⟨h, hh⟩ : ∃ h, o[kk]? = some h := ⟨o[kk]'(by have := Aol.out; omega), List.getElem?_eq_getElem _⟩
                have hC2 : wr.ownsRow W2.heap.size 25 3 (.slice sa ol sc) ol vs := owns_at hC fun b hb => (hM b (hCf b hb)).2
                obtain ⟨b2, xa, xc, rfl, hb2, p0, p1, p2, pL⟩ := own_get hC2 (rowC.keep hM) hh hlt2
                have hWb := below_alloc wr (Obj.cells #[.int .i64 h.f, .int .i64 h.t, .slice xa h.L.length xc] 25)
                have m4 := mon_below (Bo := w.heap.size) (Br := w.heap.size + 1 + 1) vo vr hWb
                have T4 : Two w.heap.size w.heap.size (w.heap.size + 1 + 1) gB wr.heap.size g h ga xa gc xc (wr.alloc (Obj.cells #[.int .i64 h.f, .int .i64 h.t, .slice xa h.L.length xc] 25)) vo vr o1 r1 :=
                  ⟨hS.below hWb, (m4 _ (hM _ hg3).1).1, ⟨by rw [World.size_alloc]; omega, by have := hS.sizes.1; omega, by have := hS.sizes.2; omega, fun e => by have := (hS.lt_o e).2; omega, fun e => by have := (hS.lt_r e).2; omega⟩,
                    (m4 _ (hM _ hg3).1).2.trans ((hM _ hg3).2.trans hgblk3), heap_alloc_new wr _, (hgL3.keep hM).keep m4, pL.keep m4⟩
                obtain ⟨k0, k1, k2, k3, k4, k5⟩ := T4.cells
                have hA4 := ((hMs3.trans hM).trans m4) _ hF0
                have hB4 : Below w.heap.size w (wr.alloc (Obj.cells #[.int .i64 h.f, .int .i64 h.t, .slice xa h.L.length xc] 25)) := hB.trans (hWb.mono hB.size)
                have hM4 := hM.trans m4
                have hhmem := List.mem_of_getElem? hh
                have hhin := Cl.within hin (hBt.cl h hhmem)
                have hmost := hR.most
                have hrln := hR.len
                have hol3 : o.length ≤ 1000 := by have := Aol.out; omega
                have hrl4 : r0.length ≤ 1000 := by have := Arl.out; omega
                have hb1 : o1.length ≤ 3000 := by omega
                have hb2 : r1.length ≤ 3000 := by omega
                by_cases hgf : g.t = h.f
                · have hgfB : (g.t == h.f) = true := by simpa using hgf
                  have AG : Aside (g.t = h.f) := hgf
                  have cp := comp_put F T hFT g h ga xa gc xc (fun x hx => (hgin x hx).1) (fun x hx => (hhin x hx).2) w.heap.size w.heap.size (w.heap.size + 1 + 1) (w.heap.size + 1) vo vr o1 r1 hR.asc (by omega) (by omega) (wr.alloc (Obj.cells #[.int .i64 h.f, .int .i64 h.t, .slice xa h.L.length xc] 25)) hB4.size T4.sto T4.lg T4.lh (hA4.2.trans hA0) hA4.1
                  clear hgf hgblk3 hg3 hgL3 rowC hC hC2 hCf pL hol3 hrl4 hmost hrln hWb m4
                  by_cases hhf : h.t = g.f
                  · have hhfB : (h.t == g.f) = true := by simpa using hhf
                    have AH : Aside (h.t = g.f) := hhf
                    clear hhf
                    go_wp2_with (go_at_call 15; fail)
                    refine cp.mono ?_
                    rintro e W5 ⟨ya, yn, yc, rfl, cp2⟩
                    clear cp p0 p1 p2
                    simp only
                    go_wp2_with (go_at_call 34; fail)
                    refine cp2.mono ?_
                    rintro e W6 ⟨vo2, vr2, o2, r2, rfl, hS6, hM6, hB6, hP6⟩
                    have T6 := T4.step hM6 hS6
                    have hA6 := hM6 _ hA4.1
                    have hB46 := hB4.trans hB6
                    have cq := comp_put F T hFT h g xa ga xc gc (fun x hx => (hhin x hx).1) (fun x hx => (hgin x hx).2) w.heap.size w.heap.size (w.heap.size + 1 + 1) (w.heap.size + 1) vo2 vr2 o2 r2 (hP6.asc hR.asc) (by have := hP6.len; omega) (by have := hP6.len; omega) W6 hB46.size T6.sto T6.lg_lh.2 T6.lg_lh.1 (hA6.2.trans (hA4.2.trans hA0)) hA6.1
                    clear k0 k1 k2 k3 k4 k5 cp2
                    obtain ⟨k0, k1, k2, k3, k4, k5⟩ := T6.cells
                    simp only
                    go_wp2_with (go_at_call 15; fail)
                    refine cq.mono ?_
                    rintro e W7 ⟨ya, yn, yc, rfl, cq2⟩
                    clear cq
                    simp only
                    go_wp2_with (go_at_call 34; refine cq2.mono ?_; rintro e W8 ⟨vo3, vr3, o3, r3, rfl, hS8, hM8, hB8, hP8⟩)
                    exact ⟨⟨kk + 1, vo3, vr3, o3, r3, by omega, by simp, hS8, (hM4.trans hM6).trans hM8, hB46.trans hB8, hR.step hgmem hh (.inl ⟨AG.out, hP6⟩) (.inl ⟨AH.out, hP8⟩)⟩, by simp [intOf]; omega⟩
                  · have hhfB : (h.t == g.f) = false := by simpa using hhf
                    have AH : Aside (h.t ≠ g.f) := hhf
                    clear hhf
                    go_wp2_with (go_at_call 15; fail)
                    refine cp.mono ?_
                    rintro e W5 ⟨ya, yn, yc, rfl, cp2⟩
                    clear cp p0 p1 p2
                    simp only
                    go_wp2_with (go_at_call 34; refine cp2.mono ?_; rintro e W6 ⟨vo2, vr2, o2, r2, rfl, hS6, hM6, hB6, hP6⟩; clear k0 k1 k2 k3 k4 k5; obtain ⟨k0, k1, k2, k3, k4, k5⟩ := (T4.step hM6 hS6).cells)
                    exact ⟨⟨kk + 1, vo2, vr2, o2, r2, by omega, by simp, hS6, hM4.trans hM6, hB4.trans hB6, hR.step hgmem hh (.inl ⟨AG.out, hP6⟩) (.inr ⟨AH.out, rfl, rfl⟩)⟩, by simp [intOf]; omega⟩
                · have hgfB : (g.t == h.f) = false := by simpa using hgf
                  have AG : Aside (g.t ≠ h.f) := hgf
                  have cq := comp_put F T hFT h g xa ga xc gc (fun x hx => (hhin x hx).1) (fun x hx => (hgin x hx).2) w.heap.size w.heap.size (w.heap.size + 1 + 1) (w.heap.size + 1) vo vr o1 r1 hR.asc (by omega) (by omega) (wr.alloc (Obj.cells #[.int .i64 h.f, .int .i64 h.t, .slice xa h.L.length xc] 25)) hB4.size T4.sto T4.lg_lh.2 T4.lg_lh.1 (hA4.2.trans hA0) hA4.1
                  clear hgf hgblk3 hg3 hgL3 rowC hC hC2 hCf pL hol3 hrl4 hmost hrln hWb m4
                  by_cases hhf : h.t = g.f
                  · have hhfB : (h.t == g.f) = true := by simpa using hhf
                    have AH : Aside (h.t = g.f) := hhf
                    clear hhf
                    go_wp2_with (go_at_call 15; fail)
                    refine cq.mono ?_
                    rintro e W5 ⟨ya, yn, yc, rfl, cq2⟩
                    clear cq p0 p1 p2
                    simp only
                    go_wp2_with (go_at_call 34; refine cq2.mono ?_; rintro e W6 ⟨vo2, vr2, o2, r2, rfl, hS6, hM6, hB6, hP6⟩)
                    exact ⟨⟨kk + 1, vo2, vr2, o2, r2, by omega, by simp, hS6, hM4.trans hM6, hB4.trans hB6, hR.step hgmem hh (.inr ⟨AG.out, rfl, rfl⟩) (.inl ⟨AH.out, hP6⟩)⟩, by simp [intOf]; omega⟩
                  · have hhfB : (h.t == g.f) = false := by simpa using hhf
                    have AH : Aside (h.t ≠ g.f) := hhf
                    clear hhf cq
                    go_wp2
                    exact ⟨⟨kk + 1, vo, vr, o1, r1, by omega, by simp, T4.sto, hM4, hB4, hR.step hgmem hh (.inr ⟨AG.out, rfl, rfl⟩) (.inr ⟨AH.out, rfl, rfl⟩)⟩, by simp [intOf]; omega⟩
              · obtain rfl : kk = ol := by omega
                have hdone := hR.done hBt (by have := Aol.out; omega)
                have hmost := hR.most
                have hrln := hR.len
                have x1 := Aol.out
                have x2 := Arl.out
                have y1 := hS.cell_o.1
                have y2 := hS.cell_r.1
                obtain ⟨z1, z2, rfl⟩ := hS.val_o
                obtain ⟨z3, z4, rfl⟩ := hS.val_r
                clear x1 x2
                go_wp2
                have x1 := Aol.out
                have x2 := Arl.out
                refine ⟨⟨_, _, o1, r1, hS, hMs3.trans hM, hB, hdone, by omega, by omega⟩, ?_⟩
                rw [y1, y2, co, cr]
                simp only [slen]
                omega
end Go.Proofs.YtbleedclnkpbkaaGreatDoor
end
section
namespace Go.Proofs.YtbleedclnkpbkaaGreatDoor
open Go.RowKit Go.Sort
/-- what Closure answers -/
def WSays (l : List Gr) (w : World) (e : Ending) (w' : World) : Prop :=
  (((∀ g ∈ l, g.good) ∧ ((∃ sv o, e = .returned (.tuple #[sv, .int .i64 0]) ∧ GraphsAt w'.heap.size w' sv o ∧ Closed l 1000 o) ∨ (e = .returned (.tuple #[.slice none 0 0, .int .i64 3]) ∧ Many l 1000))) ∨
   ((∃ g ∈ l, ¬ g.good) ∧ e = .returned (.tuple #[.slice none 0 0, .int .i64 2]))) ∧ Below w.heap.size w w'
set_option maxRecDepth 100000 in
set_option maxHeartbeats 4000000 in
/-- Closure -/
theorem Closure_calls (F T : List Int) (hFT : F.length * T.length ≤ 2199023255552) (a : Option Addr) (len cap n : Nat) (l : List Gr) (hlen : l.length = len) (hsmall : len ≤ 1048576) (hin : ∀ g ∈ l, ∀ x ∈ g.L, x.f ∈ F ∧ x.t ∈ T) (w : World) (hn : n ≤ w.heap.size) (h1 : GraphsAt n w (.slice a len cap) l) :
    Calls Tryz.prog 4 #[.slice a len cap] w fun e w' => WSays l w e w' := by
  have hbig : len < 4611686018427387904 := by omega
  go_enter Tryz.func4, Tryz.ntmps4
  go_wp2
  go_loopw [9] (fun i wr => ∃ k : Nat, k ≤ len ∧ i = .int .i64 k ∧ Below w.heap.size w wr ∧ ∀ (j : Nat) (g : Gr), j < k → l[j]? = some g → g.good) (fun i _ => len - (intOf i).toNat)
  case atStart => exact ⟨0, Nat.zero_le _, rfl, Below.refl _ _, fun j g hj => absurd hj (by omega)⟩
  case round =>
    obtain ⟨k, hk, rfl, hB, hg⟩ := hrel
    have hsr := hB.size
    have g1 := h1.below (hB.mono hn)
    by_cases hlt : k < len
    · obtain ⟨x, hx⟩ : ∃ x, l[k]? = some x := ⟨l[k], List.getElem?_eq_getElem (by omega)⟩
      obtain ⟨b1, o1, xa, xc, rfl, hb1, p0, p1, p2, px⟩ := g1.get hx
      have hWb := below_alloc wr (Obj.cells #[.int .i64 x.f, .int .i64 x.t, .slice xa x.L.length xc] 25)
      have gc := graphFault_calls x.f x.t xa xc x.L.length n x.L rfl (wr.alloc (Obj.cells #[.int .i64 x.f, .int .i64 x.t, .slice xa x.L.length xc] 25)) (by rw [World.size_alloc]; omega) (px.below (hWb.mono (by omega)))
      have hBW := hB.trans (hWb.mono hsr)
      have hBs := hBW.size
      clear g1 h1 hWb
      go_wp2_with (go_at_call 12; refine gc.mono ?_; rintro e w' ⟨hor, hb⟩; rcases hor with ⟨rfl, hgo⟩ | ⟨rfl, hno⟩)
      · refine ⟨⟨k + 1, by omega, by simp, hBW.trans (hb.mono hBs), fun j g hj hgj => ?_⟩, by simp [intOf]; omega⟩
        by_cases hjk : j = k
        · subst hjk; rw [hx] at hgj; cases hgj; exact hgo
        · exact hg j g (by omega) hgj
      · go_ret2
        exact ⟨.inr ⟨⟨x, List.mem_of_getElem? hx, hno⟩, rfl⟩, hBW.trans (hb.mono hBs)⟩
    · obtain rfl : k = len := by omega
      have hall : ∀ g ∈ l, g.good := fun g hm => by
        obtain ⟨j, hj⟩ := List.getElem?_of_mem hm
        exact hg j g (by have := (List.getElem?_eq_some_iff.1 hj).1; omega) hj
      have cc := closure_calls F T hFT a k cap n l hlen hsmall hin hall wr (by omega) g1
      clear g1 h1
      go_wp2_with (go_at_call 13; fail)
      refine cc.mono ?_
      rintro e w' ⟨⟨sv, o, rfl, hG, hC⟩ | ⟨rfl, hC⟩, hb⟩
      · simp only
        go_wp2
        go_ret2
        exact ⟨.inl ⟨hall, .inl ⟨sv, o, rfl, hG, hC⟩⟩, hB.trans (hb.mono hsr)⟩
      · simp only
        go_wp2
        go_ret2
        exact ⟨.inl ⟨hall, .inr ⟨rfl, hC⟩⟩, hB.trans (hb.mono hsr)⟩
end Go.Proofs.YtbleedclnkpbkaaGreatDoor
end
