/-
  A part of the proof of the card of WorkbenchClausesInOrder (second form): lemmas that the text Card uses. No condition of its own.
-/
import Derived.Test.YtihaajnknnapmaaGreatDoorEv02
import Derived.Lib.UnsafeStr
set_option linter.all false
set_option linter.unusedVariables false
set_option linter.unusedSimpArgs false
section
namespace Go.Ev
open Go
variable {P : Program} {m : Mp} {w : World}

theorem over_spec {α : Type} : ∀ (l xs : List α) {r : List α}, over l xs = some r → xs.length ≤ l.length ∧ r = xs ++ l.drop xs.length
  | l, [], r, h => by cases l <;> (simp [over] at h; subst h; simp)
  | [], _ :: _, r, h => by simp [over] at h
  | a :: l, x :: xs, r, h => by
    simp only [over] at h
    cases e : over l xs with
    | none => rw [e] at h; cases h
    | some r' =>
      rw [e] at h; cases h
      obtain ⟨h1, rfl⟩ := over_spec l xs e
      exact ⟨by simp; omega, by simp⟩
theorem overAt_spec {α : Type} : ∀ (n : Nat) (l xs : List α) {r : List α}, overAt n l xs = some r → n + xs.length ≤ l.length ∧ r = l.take n ++ xs ++ l.drop (n + xs.length)
  | 0, l, xs, r, h => by
    have h' : over l xs = some r := by cases l <;> simpa [overAt] using h
    obtain ⟨h1, rfl⟩ := over_spec l xs h'
    exact ⟨by omega, by simp⟩
  | n + 1, [], xs, r, h => by simp [overAt] at h
  | n + 1, a :: l, xs, r, h => by
    simp only [overAt] at h
    cases e : overAt n l xs with
    | none => rw [e] at h; cases h
    | some r' =>
      rw [e] at h; cases h
      obtain ⟨h1, rfl⟩ := overAt_spec n l xs e
      refine ⟨by simp; omega, ?_⟩
      have e1 : n + 1 + xs.length = (n + xs.length) + 1 := by omega
      rw [e1]; simp
theorem foldSet (off : Nat) : ∀ (xs : List Value) (k : Nat) (cs : Array Value), off + k + xs.length ≤ cs.size →
    ((xs.zipIdx k).foldl (fun cs (x : Value × Nat) => cs.setIfInBounds (off + x.2) x.1) cs).toList = cs.toList.take (off + k) ++ xs ++ cs.toList.drop (off + k + xs.length)
  | [], k, cs, h => by simp
  | x :: xs, k, cs, h => by
    simp only [List.zipIdx_cons, List.foldl_cons]
    simp only [List.length_cons] at h
    rw [foldSet off xs (k + 1) _ (by simp; omega)]
    have hl : off + k < cs.toList.length := by simp; omega
    rw [Array.toList_setIfInBounds]
    have e1 : (cs.toList.set (off + k) x).take (off + (k + 1)) = cs.toList.take (off + k) ++ [x] := by
      rw [← Nat.add_assoc, List.take_set, List.take_succ_eq_append_getElem hl]
      rw [List.set_append_right _ _ (by simp; omega)]
      have hm : min (off + k) cs.size = off + k := by simp at hl; omega
      simp [hm]
    have e2 : (cs.toList.set (off + k) x).drop (off + (k + 1) + xs.length) = cs.toList.drop (off + k + (xs.length + 1)) := by
      rw [List.drop_set_of_lt (by omega)]; congr 1; omega
    rw [e1, e2]; simp
theorem Rl.over {m : Mp} {l xs : List V} {l' xs' : List Value} (hl : Rl m l l') (hx : Rl m xs xs') (n : Nat) : Rl m (l.take n ++ xs ++ l.drop (n + xs.length)) (l'.take n ++ xs' ++ l'.drop (n + xs'.length)) := by
  have := hx.length
  rw [this]
  exact ((hl.take n).append hx).append (hl.drop _)
/-- the parts of a composite literal -/
theorem fill_sound {place : Nat → Option (Nat × Nat)} : ∀ (ps : List (Nat × V)) (ps' : List (Nat × Value)) {cs : List V} {cs' : List Value} {r : List V}, (ps.map (·.1) = ps'.map (·.1)) → Rl m (ps.map (·.2)) (ps'.map (·.2)) →
    Rl m cs cs' → (∀ x ∈ cs', scalar x) → buildCells place cs ps = some r → ∃ r', Instr.fill place ⟨cs'⟩ ps' = some ⟨r'⟩ ∧ Rl m r r' ∧ ∀ x ∈ r', scalar x
  | [], ps', cs, cs', r, h1, _, hc, hs, hb => by
    have : ps' = [] := by cases ps' with | nil => rfl | cons _ _ => simp at h1
    subst this
    have : cs = r := Option.some.inj (by simpa [buildCells] using hb)
    subst this
    exact ⟨cs', by simp [Instr.fill], hc, hs⟩
  | (i, v) :: ps, ps', cs, cs', r, h1, h2, hc, hs, hb => by
    cases ps' with
    | nil => simp at h1
    | cons p ps' =>
      obtain ⟨i', u⟩ := p
      simp only [List.map_cons, List.cons.injEq] at h1
      obtain ⟨rfl, h1⟩ := h1
      simp only [List.map_cons, Rl] at h2
      obtain ⟨u', us, he, hv, h2⟩ := h2
      simp only [List.cons.injEq] at he
      obtain ⟨rfl, rfl⟩ := he
      unfold buildCells at hb
      cases hp : place i with
      | none => rw [hp] at hb; cases hb
      | some p =>
        obtain ⟨off, sz⟩ := p
        rw [hp] at hb
        simp only at hb
        cases hq : cellsQ v with
        | none => rw [hq] at hb; cases hb
        | some c =>
          rw [hq] at hb
          simp only at hb
          obtain ⟨c', hc1, hc2, hc3⟩ := cellsQ_spec hv hq
          cases hlen : Nat.beq (lenV1 c) sz with
          | false => rw [hlen] at hb; cases hb
          | true =>
            rw [hlen] at hb
            simp only [cond_true] at hb
            have hlen := Nat.eq_of_beq_eq_true hlen
            rw [lenV1_eq] at hlen
            cases ho : overAt off cs c with
            | none => rw [ho] at hb; cases hb
            | some cs2 =>
              rw [ho] at hb
              simp only at hb
              obtain ⟨hle, rfl⟩ := overAt_spec _ _ _ ho
              have hl1 := hc.length; have hl2 := hc2.length
              have hfold := foldSet off c' 0 ⟨cs'⟩ (by show off + 0 + c'.length ≤ cs'.length; omega)
              obtain ⟨r', hr1, hr2, hr3⟩ := fill_sound ps ps' h1 h2 (hc.over hc2 off) (by
                intro x hx
                simp only [List.mem_append] at hx
                rcases hx with (hx | hx) | hx
                · exact hs x (List.mem_of_mem_take hx)
                · exact hc3 x hx
                · exact hs x (List.mem_of_mem_drop hx)) hb
              refine ⟨r', ?_, hr2, hr3⟩
              unfold Instr.fill
              simp only [hp, hc1]
              have hno : (decide ((⟨c'⟩ : Array Value).size ≠ sz) || decide (off + (⟨c'⟩ : Array Value).size > (⟨cs'⟩ : Array Value).size)) = false := by
                simp only [Bool.or_eq_false_iff, decide_eq_false_iff_not]
                exact ⟨by show ¬ c'.length ≠ sz; omega, by show ¬ (off + c'.length > cs'.length); omega⟩
              rw [if_neg (by rw [hno]; simp)]
              rw [← hr1]
              congr 1
              apply Array.toList_inj.1
              rw [← Array.foldl_toList]
              have : (⟨c'⟩ : Array Value).zipIdx.toList = c'.zipIdx 0 := by simp
              rw [this, hfold]
              simp
theorem pairs_sound {n : Nat} {e : Env} {a : Act} (k : EnvR m n e a) (hg : Gl P m) : ∀ {ps : List (Nat × Operand)}, (ps.map (·.2)).all (opOk P n) = true →
    ((pairs ps).run e).map (·.1) = (ps.map fun x => (x.1, a.eval x.2)).map (·.1) ∧ Rl m (((pairs ps).run e).map (·.2)) ((ps.map fun x => (x.1, a.eval x.2)).map (·.2))
  | [], _ => by simp [pairs, Rl]
  | (i, x) :: ps, h => by
    simp only [List.map_cons, List.all_cons, Bool.and_eq_true] at h
    obtain ⟨h1, h2⟩ := pairs_sound k hg h.2
    simp only [pairs, List.map_cons, List.cons.injEq, true_and, Rl]
    exact ⟨h1, _, _, ⟨rfl, rfl⟩, opnd_sound k hg h.1, h2⟩
theorem nthP_eq : ∀ (l : List (Nat × Nat)) (i : Nat), nthP l i = l[i]?
  | [], i => by cases i <;> rfl
  | a :: l, 0 => rfl
  | a :: l, i + 1 => by rw [nthP, nthP_eq l i]; rfl
theorem placesT_eq : ∀ (fs : List Field) (pl : List (Nat × Nat)), placesT P fs = some pl → fs.mapM (fun f => (P.info? f.type).map fun i => (f.offset, i.size)) = some pl
  | [], pl, h => by simp [placesT] at h; subst h; simp
  | f :: fs, pl, h => by
    unfold placesT at h
    cases hn : sizeT P f.type with
    | none => rw [hn] at h; cases h
    | some n =>
      cases hl : placesT P fs with
      | none => rw [hn, hl] at h; cases h
      | some l =>
        rw [hn, hl] at h; cases h
        obtain ⟨i, hi, rfl⟩ := sizeT_info hn
        simp [List.mapM_cons, hi, placesT_eq fs l hl]
theorem cst_cells {z : Value} {l : List V} (h : cellsQ (cst z) = some l) : ∃ l', z.cells = ⟨l'⟩ ∧ Rl m l l' ∧ ∀ x ∈ l', scalar x := cellsQ_spec (cst_sound m z) h
theorem build_sound {n : Nat} {e : Env} {a : Act} (k : EnvR m n e a) (hg : Gl P m) {t : TypeId} {ps : Array (Nat × Operand)} (hx : (ps.toList.map (·.2)).all (opOk P n) = true) {h : H} {v : V}
    (hv : (buildC P t ps.toList).run e h = some v) : ∃ u, (Instr.build t (ps.map fun (i, x) => (i, a.eval x))).run P w = .ok u w ∧ R m v u := by
  obtain ⟨p1, p2⟩ := pairs_sound k hg hx
  have hps : (ps.map fun (i, x) => (i, a.eval x)).toList = ps.toList.map fun x => (x.1, a.eval x.2) := by simp
  unfold buildC at hv
  cases hz : zeroT P t with
  | none => rw [hz] at hv; cases hv
  | some z =>
    cases hu : P.underlying t with
    | none => rw [hz, hu] at hv; cases hv
    | some ds =>
      rw [hz, hu] at hv
      obtain ⟨uz, hzr, rfl, it, hit, hzi⟩ := zeroT_run (w := w) hz
      have fin : ∀ (place : Nat → Option (Nat × Nat)) (zc : List V), cellsQ (cst uz) = some zc → aggO (buildCells place zc ((pairs ps.toList).run e)) = some v → (∀ r', Instr.fill place uz.cells (ps.toList.map fun x => (x.1, a.eval x.2)) = some r' → P.built t (ps.map fun (i, x) => (i, a.eval x)).toList = some r') →
          ∃ u, (Instr.build t (ps.map fun (i, x) => (i, a.eval x))).run P w = .ok u w ∧ R m v u := by
        intro place zc hzc hv hb
        obtain ⟨l, hl, rfl⟩ := aggO_some hv
        obtain ⟨zc', hz1, hz2, hz3⟩ := cst_cells (m := m) hzc
        obtain ⟨r', hr1, hr2, hr3⟩ := fill_sound _ _ p1 p2 hz2 hz3 hl
        rw [← hz1] at hr1
        exact ⟨.agg ⟨r'⟩, run_build w t _ _ (hb _ hr1), by simp only [R]; exact ⟨r', rfl, hr2, hr3⟩⟩
      cases ds <;> simp only at hv <;> (try (cases hv; done))
      case struct fs =>
        cases hzc : cellsQ (cst uz) with
        | none => rw [hzc] at hv; cases hv
        | some zc =>
          rw [hzc] at hv
          simp only at hv
          cases hp : placesT P fs.toList with
          | none => rw [hp] at hv; cases hv
          | some pl =>
            rw [hp] at hv
            simp only at hv
            refine fin (fun i => pl[i]?) zc hzc ?_ ?_
            · rw [show (fun i => pl[i]?) = nthP pl from funext fun i => (nthP_eq pl i).symm]; exact hv
            · intro r' hr'
              rw [hps]
              have hpl : fs.toList.mapM (fun f => (P.info? f.type).map fun i => (f.offset, i.size)) = some pl := placesT_eq _ _ hp
              simp only [Program.built, hit, hu, hzi, hpl]
              simpa using hr'
      case array len el =>
        cases hzc : cellsQ (cst uz) with
        | none => rw [hzc] at hv; cases hv
        | some zc =>
          rw [hzc] at hv
          simp only at hv
          cases hn : sizeT P el with
          | none => rw [hn] at hv; cases hv
          | some sz =>
            rw [hn] at hv
            simp only at hv
            obtain ⟨ie, hie, rfl⟩ := sizeT_info hn
            refine fin (fun i => some (i * ie.size, ie.size)) zc hzc hv ?_
            intro r' hr'
            rw [hps]
            simp only [Program.built, hit, hu, hzi, hie]
            exact hr'
end Go.Ev
end
section
namespace Go.Ev
open Go
variable {P : Program} {m : Mp} {w : World}

theorem R_p {b : Id} {o : Nat} {u : Value} (h : R m (.p b o) u) : ∃ l, m b = some l ∧ u = .pointer (some ⟨l.blk, l.base + o, none⟩) := by simpa only [R] using h
theorem R_i {k : IntKind} {n : Int} {u : Value} (h : R m (.i k n) u) : u = .int k n := by simpa only [R] using h
theorem R_b {b : Bool} {u : Value} (h : R m (.b b) u) : u = .bool b := by simpa only [R] using h
theorem R_tup {l : List V} {u : Value} (h : R m (.tup l) u) : ∃ l', u = .tuple ⟨l'⟩ ∧ Rl m l l' := by simpa only [R] using h

theorem max_sound : ∀ (l : List V) (l' : List Value) {x : V} {u : Value} {v : V}, R m x u → Rl m l l' → fold2 max2 x l = some v → ∃ u', (l'.foldlM Builtin.max2 u).run P w = .ok u' w ∧ R m v u'
  | [], l', x, u, v, hx, hl, hv => by
    simp only [Rl] at hl; subst hl
    have : x = v := Option.some.inj hv
    subst this; exact ⟨u, rfl, hx⟩
  | y :: l, l', x, u, v, hx, hl, hv => by
    simp only [Rl] at hl; obtain ⟨uy, us, rfl, hy, hl⟩ := hl
    unfold fold2 at hv
    cases hm : max2 x y with
    | none => rw [hm] at hv; cases hv
    | some z =>
      rw [hm] at hv
      obtain ⟨k, A, rfl, hm1⟩ := as_i_O_some hm
      obtain ⟨k', B, rfl, hm2⟩ := as_i_O_some hm1
      obtain ⟨hk, hm3⟩ := iteO_some hm2
      have := (kEq_iff _ _).1 hk; subst this
      cases hm3
      have hu := R_i hx; subst hu
      have hu := R_i hy; subst hu
      have hz : R m (.i k (bif iLt A B then B else A)) (.int k (if B > A then B else A)) := by
        rw [iLt_iff]
        simp only [R]
        by_cases h : A < B <;> simp [h]
      obtain ⟨u', h1, h2⟩ := max_sound l us hz hl hv
      exact ⟨u', by simp [List.foldlM_cons, Builtin.max2, h1], h2⟩
theorem min_sound : ∀ (l : List V) (l' : List Value) {x : V} {u : Value} {v : V}, R m x u → Rl m l l' → fold2 min2 x l = some v → ∃ u', (l'.foldlM Builtin.min2 u).run P w = .ok u' w ∧ R m v u'
  | [], l', x, u, v, hx, hl, hv => by
    simp only [Rl] at hl; subst hl
    have : x = v := Option.some.inj hv
    subst this; exact ⟨u, rfl, hx⟩
  | y :: l, l', x, u, v, hx, hl, hv => by
    simp only [Rl] at hl; obtain ⟨uy, us, rfl, hy, hl⟩ := hl
    unfold fold2 at hv
    cases hm : min2 x y with
    | none => rw [hm] at hv; cases hv
    | some z =>
      rw [hm] at hv
      obtain ⟨k, A, rfl, hm1⟩ := as_i_O_some hm
      obtain ⟨k', B, rfl, hm2⟩ := as_i_O_some hm1
      obtain ⟨hk, hm3⟩ := iteO_some hm2
      have := (kEq_iff _ _).1 hk; subst this
      cases hm3
      have hu := R_i hx; subst hu
      have hu := R_i hy; subst hu
      have hz : R m (.i k (bif iLt B A then B else A)) (.int k (if B < A then B else A)) := by
        rw [iLt_iff]
        simp only [R]
        by_cases h : B < A <;> simp [h]
      obtain ⟨u', h1, h2⟩ := min_sound l us hz hl hv
      exact ⟨u', by simp [List.foldlM_cons, Builtin.min2, h1], h2⟩
theorem len_sound {h : H} (hr : HR m h w) {t : TypeId} {x : Operand} {n : Nat} {e : Env} {a : Act} (k : EnvR m n e a) (hg : Gl P m) (hx : opOk P n x = true) {v : V} {ts : List TypeId} {ty : TypeId}
    (hv : (lenC P t x).run e h = some v) : ∃ u, (Builtin.len_ ⟨t :: ts⟩ ty #[a.eval x]).run P w = .ok u w ∧ R m v u := by
  have hX := opnd_sound k hg hx
  have h0 : (⟨t :: ts⟩ : Array TypeId)[0]? = some t := by simp
  unfold lenC at hv
  cases hu : P.underlying t with
  | none => rw [hu] at hv; cases hv
  | some ds =>
    rw [hu] at hv
    cases ds <;> simp only at hv <;> (try (cases hv; done))
    case string =>
      obtain ⟨l, c, e1, hv⟩ := as_s_O_some hv
      cases hv
      rw [e1, R_str] at hX
      obtain ⟨s, hs, hb, _⟩ := hX
      have := str_size hb
      exact ⟨_, by rw [hs]; simp [Builtin.len_, run_und hu, goInt]; rfl, by simp [R, this]⟩
    case array len el =>
      cases hv
      exact ⟨_, by simp [Builtin.len_, run_und hu, goInt]; rfl, by simp [R]⟩
    case pointer el =>
      cases hu2 : P.underlying el with
      | none => rw [hu2] at hv; cases hv
      | some d2 =>
        rw [hu2] at hv
        cases d2 <;> simp only at hv <;> (try (cases hv; done))
        cases hv
        exact ⟨_, by simp [Builtin.len_, run_und hu, run_und hu2, goInt]; rfl, by simp [R]⟩
    case slice el =>
      rcases as_sl_O_of hv with ⟨b, o, l, z, e1, hv⟩ | ⟨_, hv⟩
      · cases hv
        rw [e1] at hX; simp only [R] at hX
        obtain ⟨ll, cap, _, hs, _⟩ := hX
        exact ⟨_, by rw [hs]; simp [Builtin.len_, run_und hu, goInt]; rfl, by simp [R]⟩
      · rcases as_sn_O_of hv with ⟨e1, hv⟩ | ⟨_, hv⟩
        · cases hv
          rw [e1] at hX; simp only [R] at hX
          exact ⟨_, by rw [hX]; simp [Builtin.len_, run_und hu, goInt]; rfl, by simp [R]⟩
        · obtain ⟨e1, hv⟩ := as_se_O_some hv
          cases hv
          rw [e1] at hX; simp only [R] at hX
          obtain ⟨ad, cap, hs⟩ := hX
          exact ⟨_, by rw [hs]; simp [Builtin.len_, run_und hu, goInt]; rfl, by simp [R]⟩
    case map kt et =>
      rcases as_mp_O_of hv with ⟨b, e1, hv⟩ | ⟨_, hv⟩
      · cases he : entsOf h b with
        | none => rw [he] at hv; cases hv
        | some p =>
          obtain ⟨es, c⟩ := p
          rw [he] at hv
          cases hv
          obtain ⟨l, es', _, hl, hm, hes⟩ := entsOf_some hr he
          rw [e1] at hX; simp only [R] at hX
          obtain ⟨l2, hl2, hs⟩ := hX
          rw [hl] at hl2; cases hl2
          have := hes.length
          exact ⟨_, by rw [hs]; simp [Builtin.len_, run_und hu, run_getMap hm, goInt]; rfl, by simp [R, this]⟩
      · obtain ⟨e1, hv⟩ := as_mn_O_some hv
        cases hv
        rw [e1] at hX; simp only [R] at hX
        exact ⟨_, by rw [hX]; simp [Builtin.len_, run_und hu, goInt]; rfl, by simp [R]⟩
end Go.Ev
end
section
namespace Go.Ev
open Go
variable {P : Program} {m : Mp} {w : World}

theorem cellsOf_sizeT {t : TypeId} {n : Nat} (h : sizeT P t = some n) : P.cellsOf t = n := by
  obtain ⟨i, h1, h2⟩ := sizeT_info h
  simp [Program.cellsOf, h1, h2]
theorem liesAt_row {e : TypeId} {s off n cells : Nat} (hs : P.cellsOf e = s) (h0 : 0 < s) (ho : off % s = 0) (hn : off + n * s ≤ cells) : liesAt P P.depth e (cells / P.cellsOf e) off e n = true := by
  have hd : P.depth = (2 * (P.types.size + Made.depth) + 1) + 1 := rfl
  have h1 : off / s + n ≤ cells / s := by
    rw [Nat.le_div_iff_mul_le h0, Nat.add_mul]
    have := Nat.div_add_mod off s
    rw [ho, Nat.mul_comm] at this
    omega
  have h2 : s ≠ 0 := by omega
  rw [hd]
  simp only [liesAt, Bool.or_eq_true]
  left
  rw [hd]
  simp [rowAt, hs, h2, ho, h1, sameLayout]
/-- where a cell is read, there is one -/
theorem rd1_size {h : H} (k : HR m h w) {b : Id} {o : Nat} {v : V} {l : Loc} (hl : m b = some l) (hv : rd1 h b o = some v) : ∃ C t fz, w.heap[l.blk]? = some (.cells C t fz) ∧ l.base + o < C.size := by
  unfold rd1 at hv
  cases hb : mget b h.mem with
  | none => rw [hb] at hv; cases hv
  | some ob =>
    rw [hb] at hv
    cases ob with
    | map _ _ => cases hv
    | siter _ _ _ => cases hv
    | miter _ _ _ _ => cases hv
    | cells sz els f ro =>
      have hv1 : (Option.rec (motive := fun _ => Option V) none (fun el => nthV el (Nat.mod o sz)) (nthL els (Nat.div o sz)) : Option V) = some v := hv
      rw [nthL_eq] at hv1
      cases he : els[Nat.div o sz]? with
      | none => rw [he] at hv1; cases hv1
      | some el =>
        rw [he] at hv1
        have hv2 : nthV el (o % sz) = some v := hv1
        rw [nthV_eq] at hv2
        obtain ⟨l2, hl2, C, t2, fz, hcs⟩ := k.obj _ _ hb
        rw [hl] at hl2; cases hl2
        have hlt := (List.getElem?_eq_some_iff.1 hv2).1
        have hlen := hcs.each el (List.mem_of_getElem? he)
        have hf := flat_get hcs.each he (o % sz) (by omega)
        rw [hv2] at hf
        obtain ⟨u', hu', _, _⟩ := hcs.val _ _ hf
        have hi : Nat.div o sz * sz + o % sz = o := by
          have := Nat.div_add_mod o sz; rw [Nat.mul_comm] at this; exact this
        rw [hi] at hu'
        exact ⟨C, t2, fz, hcs.at_, (Array.getElem?_eq_some_iff.1 hu').1⟩
theorem shape_of {B : Nat} {C : Array Value} {t : TypeId} {fz : Nat × Nat} (h : w.heap[B]? = some (.cells C t fz)) : w.shape? B = some (t, C.size) := by simp [World.shape?, h]
theorem toUnsafe_sound {h : H} (k : HR m h w) {s d t : TypeId} {n o : Nat} {b : Id} {u : Value} {v : V} (hs : P.underlying s = some (.pointer t)) (hd : P.underlying d = some .unsafePointer) (hn : sizeT P t = some (n + 1))
    (hx : R m (.p b o) u) (hv : rd1 h b o = some v) : (convert s d u).run P w = .ok u w := by
  simp only [R] at hx
  obtain ⟨l, hl, rfl⟩ := hx
  obtain ⟨C, t2, fz, h1, h2⟩ := rd1_size k hl hv
  have hsh := shape_of h1
  have h3 : ¬ C.size ≤ l.base + o := by omega
  simp [convert, run_und hs, run_und hd, Conv.unsafePointer, Conv.seenAt, viewAt, hsh, cellsIn, sizeT_run hn, h3]
theorem liesAt_field {ty u : TypeId} {szb sz off cells r : Nat} (hf : fieldB P ty u szb r = true) (hn : sizeT P u = some (sz + 1)) (hal : off % szb = r) (hlt : off / szb < cells / szb) : liesAt P P.depth ty (cells / P.cellsOf ty) off u 1 = true := by
  unfold fieldB at hf
  split at hf
  case h_2 => cases hf
  rename_i n fs hs hu
  simp only [Bool.and_eq_true, Bool.not_eq_true', List.any_eq_true] at hf
  obtain ⟨h1, h2, f, hfm, h3, h4⟩ := hf
  have h1 := Nat.eq_of_beq_eq_true h1
  have h3 := Nat.eq_of_beq_eq_true h3
  have h4 := Nat.eq_of_beq_eq_true h4
  subst h1
  have hc : P.cellsOf ty = n + 1 := cellsOf_sizeT hs
  have hcu : P.cellsOf u = sz + 1 := cellsOf_sizeT hn
  obtain ⟨i, hi, rfl⟩ := List.getElem_of_mem hfm
  have hd : P.depth = ((2 * (P.types.size + Made.depth)) + 1) + 1 := rfl
  have hlay : sameLayout P P.depth u u = true := by
    rw [hd]; simp [sameLayout]
  have hrow : ∀ d, rowAt P (sameLayout P P.depth · u) (d + 1) u 1 0 1 = true := by
    intro d
    unfold rowAt
    simp [hcu, hlay]
  rw [hd]
  simp only [liesAt, Bool.or_eq_true]
  left
  rw [hd]
  unfold rowAt
  rw [hc]
  simp only [Nat.add_one_ne_zero, if_false, hal, hu, h2, Bool.not_false, Bool.true_and, Bool.or_eq_true, Bool.and_eq_true, decide_eq_true_eq]
  right
  refine ⟨hlt, ?_⟩
  rw [Array.any_eq_true]
  refine ⟨i, by simpa using ‹_›, ?_⟩
  have e : fs[i]'(by simpa using ‹_›) = fs.toList[i] := by simp
  rw [e, h3, h4, hcu, Nat.sub_self]
  simp only [Bool.and_eq_true, decide_eq_true_eq]
  exact ⟨⟨Nat.le_refl _, by omega⟩, hd ▸ hrow _⟩
theorem fromUnsafeF_sound {h : H} (k : HR m h w) {s d u : TypeId} {sz o szb ty : Nat} {b f : Id} {els : List (List V)} {x : Value} (hs : P.underlying s = some .unsafePointer) (hd : P.underlying d = some (.pointer u)) (hn : sizeT P u = some (sz + 1))
    (hx : R m (.p b o) x) (hb : mget b h.mem = some (.cells szb els f (.rw ty))) (h1 : fieldB P ty u szb (o % szb) = true) (h4 : o / szb < els.length) : (convert s d x).run P w = .ok x w := by
  simp only [R] at hx
  obtain ⟨l, hl, rfl⟩ := hx
  obtain ⟨l2, hl2, C, t, fz, hc⟩ := k.obj _ _ hb
  rw [hl] at hl2; cases hl2
  have ht := hc.typ ty rfl
  subst ht
  have hsh := shape_of hc.at_
  have hfl := flat_len hc.each
  have hroom := hc.room; have hlen := hc.len; have hal := hc.al
  have h0 : 0 < szb := by
    unfold fieldB at h1
    split at h1
    · simp only [Bool.and_eq_true] at h1
      have := Nat.eq_of_beq_eq_true h1.1
      omega
    · cases h1
  have hmul : (o / szb + 1) * szb ≤ els.length * szb := Nat.mul_le_mul_right _ h4
  have hdm : szb * (o / szb) + o % szb = o := Nat.div_add_mod o szb
  have hml := Nat.mod_lt o h0
  obtain ⟨q, hq⟩ : ∃ q, l.base = szb * q := ⟨l.base / szb, by have := Nat.div_add_mod l.base szb; rw [hal] at this; omega⟩
  have hdiv : (l.base + o) / szb = q + o / szb := by rw [hq, Nat.mul_add_div h0]
  have hmod : (l.base + o) % szb = o % szb := by rw [hq, Nat.mul_add_mod]
  have hlt : (l.base + o) / szb < C.size / szb := by
    rw [hdiv]
    have : q + o / szb + 1 ≤ C.size / szb := by
      rw [Nat.le_div_iff_mul_le h0]
      have e : (q + o / szb + 1) * szb = szb * q + (o / szb + 1) * szb := by rw [Nat.add_assoc, Nat.add_mul, Nat.mul_comm q]
      rw [e, ← hq]
      omega
    omega
  have hlies := liesAt_field (P := P) (cells := C.size) (off := l.base + o) h1 hn hmod hlt
  simp [convert, run_und hs, run_und hd, Conv.unsafePointer, Conv.seenAt, viewAt, hsh, sizeT_run hn, variablesAt, hlies]
theorem fromUnsafe_sound {h : H} (k : HR m h w) {s d u : TypeId} {sz o szb ty : Nat} {b f : Id} {els : List (List V)} {x : Value} (hs : P.underlying s = some .unsafePointer) (hd : P.underlying d = some (.pointer u)) (hn : sizeT P u = some (sz + 1))
    (hx : R m (.p b o) x) (hb : mget b h.mem = some (.cells szb els f (.rw ty))) (h1 : szb = sz + 1) (h2 : ty = u) (h3 : o % szb = 0) (h4 : o / szb < els.length) : (convert s d x).run P w = .ok x w := by
  simp only [R] at hx
  obtain ⟨l, hl, rfl⟩ := hx
  obtain ⟨l2, hl2, C, t, fz, hc⟩ := k.obj _ _ hb
  rw [hl] at hl2; cases hl2
  have ht := hc.typ ty rfl
  subst h1; subst h2; subst ht
  have hsh := shape_of hc.at_
  have hfl := flat_len hc.each
  have hroom := hc.room; have hlen := hc.len; have hal := hc.al
  have hmul : (o / (sz + 1) + 1) * (sz + 1) ≤ els.length * (sz + 1) := Nat.mul_le_mul_right _ h4
  have hdm : o / (sz + 1) * (sz + 1) = o := by
    have := Nat.div_add_mod o (sz + 1); rw [h3, Nat.mul_comm] at this; simpa using this
  rw [Nat.add_mul, hdm] at hmul
  have hlies := liesAt_row (P := P) (cells := C.size) (off := l.base + o) (n := 1) (cellsOf_sizeT hn) (Nat.succ_pos _) (by rw [Nat.add_mod, hal, h3]; simp) (by omega)
  simp [convert, run_und hs, run_und hd, Conv.unsafePointer, Conv.seenAt, viewAt, hsh, sizeT_run hn, variablesAt, hlies]
end Go.Ev
end
section
namespace Go.Ev
open Go
variable {P : Program} {m : Mp} {w : World}

theorem entAt_sound {st : Nat} : ∀ {es : List Ent} {xs : List MapEntry} {e : Ent}, EntsR m es xs → entAt st es = some e → ∃ x, xs.find? (·.born == st) = some x ∧ EntR m e x
  | [], xs, e, h, he => by cases he
  | a :: es, xs, e, h, he => by
    obtain ⟨x, xs', rfl, hx, hxs⟩ := h
    unfold entAt at he
    cases hb : Nat.beq a.born st with
    | true =>
      rw [hb] at he; cases he
      have : (x.born == st) = true := by rw [hx.2.2]; simpa using Nat.eq_of_beq_eq_true hb
      exact ⟨x, by simp [List.find?, this], hx⟩
    | false =>
      rw [hb] at he
      have : (x.born == st) = false := by
        rw [hx.2.2]; simp; intro h; subst h; simp at hb
      obtain ⟨y, h1, h2⟩ := entAt_sound hxs he
      exact ⟨y, by simp [List.find?, this, h1], h2⟩
theorem lastN_eq : ∀ (l : List Nat), lastN l = (⟨l⟩ : Array Nat).back?
  | [] => by simp [lastN]
  | [a] => by simp [lastN]
  | a :: b :: l => by
    have : lastN (a :: b :: l) = lastN (b :: l) := rfl
    rw [this, lastN_eq (b :: l)]; simp [List.getLast?_cons]
theorem run_getObj' {b : Nat} {o : Obj} (hb : w.heap[b]? = some o) (hn : ∀ c t f, o ≠ .cells c t f) : (getObj b).run P w = .ok o w := by
  cases o <;> first | exact absurd rfl (hn _ _ _) | simp [getObj, Sem.run, hb]
theorem entry_sound {h : H} (hr : HR m h w) {b : Id} {l : Loc} (hl : m b = some l) {v : V} (hv : entryF h b = some v) : ∃ u, (Instr.entry (.pointer (some ⟨l.blk, l.base + 0, none⟩))).run P w = .ok u w ∧ R m v u := by
  unfold entryF at hv
  split at hv
  · rename_i mi since seen last hb
    obtain ⟨l1, hl1, h0, lm, hlm, hit⟩ := hr.obj _ _ hb
    rw [hl] at hl1; cases hl1
    cases hs : lastN seen with
    | none => rw [hs] at hv; cases hv
    | some st =>
      cases he : entsOf h mi with
      | none => rw [hs, he] at hv; cases hv
      | some p =>
        obtain ⟨es, clock⟩ := p
        rw [hs, he] at hv
        simp only at hv
        cases hc : Nat.beq clock last with
        | false => rw [hc] at hv; cases hv
        | true =>
          rw [hc] at hv
          simp only [cond_true] at hv
          have hcl := Nat.eq_of_beq_eq_true hc
          cases ha : entAt st es with
          | none => rw [ha] at hv; cases hv
          | some en =>
            rw [ha] at hv; cases hv
            obtain ⟨l2, es', _, hl2, hm, hes⟩ := entsOf_some hr he
            rw [hlm] at hl2; cases hl2
            obtain ⟨x, hx1, hx2⟩ := entAt_sound hes ha
            rw [lastN_eq] at hs
            refine ⟨.tuple #[x.key, x.val], ?_, ?_⟩
            · rw [h0]
              have hx1' : (⟨es'⟩ : Array MapEntry).find? (fun x => x.born == st) = some x := by simpa using hx1
              simp only [Instr.entry, Sem.run_bind, run_getObj' hit (by simp), Result.andThen_ok, hs, run_getMap hm]
              simp [hcl, hx1']
            · simp only [R, Rl]; exact ⟨_, rfl, _, _, rfl, hx2.1, _, _, rfl, hx2.2.1, rfl⟩
  · cases hv
theorem encode_small (n : Nat) (h : n < 128) : bytesIn (Utf8.encode (n : Int)) = bytesOf 1 n := by
  have key : ∀ n : Nat, n < 128 → bytesIn (Utf8.encode (n : Int)) = bytesOf 1 n := by decide +kernel
  exact key n h
set_option maxHeartbeats 4000000 in
theorem light_sound {n : Nat} {e : Env} {a : Act} (k : EnvR m n e a) (hg : Gl P m) {h : H} (hr : HR m h w) {o : Oper} (hops : o.op.operands.toList.all (opOk P n) = true) {v : V}
    (hv : (lightC P o.op).run e h = some v) : ∃ u, (execOp a.eval o).run P w = .ok (.value u) w ∧ R m v u := by
  have vv : ∀ {s : Sem Value}, (∃ u, s.run P w = .ok u w ∧ R m v u) → ∃ u, (do pure (Next.value (← s)) : Sem Next).run P w = .ok (.value u) w ∧ R m v u := by
    rintro s ⟨u, h1, h2⟩; exact ⟨u, by simp [h1], h2⟩
  obtain ⟨dst, op, type, pos, after, guard⟩ := o
  simp only at hops hv
  cases op <;> simp only [Op.operands] at hops <;> simp only [lightC] at hv <;> (try (cases hv; done))
  case move x =>
    cases hv
    exact ⟨_, rfl, opnd_sound k hg (by simpa using hops)⟩
  case assign x =>
    cases hv
    exact ⟨_, rfl, opnd_sound k hg (by simpa using hops)⟩
  case pick c x y =>
    simp at hops
    obtain ⟨b, e1, hv⟩ := as_b_O_some hv
    have hc := opnd_sound k hg hops.1
    rw [e1] at hc; have hc := R_b hc
    rcases iteO_of hv with ⟨hb, hv⟩ | ⟨hb, hv⟩ <;> cases hv
    · subst hb; exact ⟨_, by simp [execOp, hc, asBool], opnd_sound k hg hops.2.1⟩
    · subst hb; exact ⟨_, by simp [execOp, hc, asBool], opnd_sound k hg hops.2.2⟩
  case build t ps =>
    exact vv (build_sound k hg (by simpa using hops) hv)
  case load t x =>
    have hX := opnd_sound k hg (show opOk P n x = true by simpa using hops)
    cases hn : sizeT P t with
    | none => rw [hn] at hv; cases ha : isAggT P t <;> rw [ha] at hv <;> cases hv
    | some sz =>
      obtain ⟨d, hd⟩ := sizeT_und hn
      refine vv (load_sound hr hd hn hX ?_)
      rw [hn] at hv
      cases ha : isAggT P t <;> rw [ha] at hv <;> exact hv
  case nilCheck x =>
    have hX := opnd_sound k hg (show opOk P n x = true by simpa using hops)
    rcases as_p_O_of hv with ⟨b, o, e1, hv⟩ | ⟨_, hv⟩
    · cases hv
      rw [e1] at hX
      obtain ⟨l, hl, hu⟩ := R_p hX
      refine ⟨a.eval x, by simp only [execOp, hu]; rfl, hX⟩
    · split at hv
      · rename_i f A B e1
        cases hv
        rw [e1] at hX
        refine ⟨a.eval x, ?_, hX⟩
        simp only [R] at hX; obtain ⟨a', c', hu, _⟩ := hX
        simp only [execOp, hu]; rfl
      · rename_i t0 v0 e1
        cases hv
        rw [e1] at hX
        refine ⟨a.eval x, ?_, hX⟩
        simp only [R] at hX; obtain ⟨v', hu, _⟩ := hX
        simp only [execOp, hu]; rfl
      · rename_i b e1
        cases hv
        rw [e1] at hX
        refine ⟨a.eval x, ?_, hX⟩
        simp only [R] at hX; obtain ⟨l, _, hu⟩ := hX
        simp only [execOp, hu]; rfl
      · rename_i e1
        cases hv
        rw [e1] at hX
        refine ⟨a.eval x, ?_, hX⟩
        simp only [R] at hX
        simp only [execOp, hX]; rfl
      · cases hv
  case binOp op t x y yt =>
    simp at hops
    exact vv (bin_sound k hg hr hops.1 hops.2 hv)
  case unOp op t x =>
    have hX := opnd_sound k hg (show opOk P n x = true by simpa using hops)
    refine vv ?_
    cases op <;> simp only [unC] at hv <;> (try (cases hv; done))
    · obtain ⟨kk, A, e1, hv⟩ := as_i_O_some hv
      cases hv
      rw [e1] at hX; have hX := R_i hX
      exact ⟨_, by rw [hX]; simp [Op.unary, Op.intArith]; rfl, by simp [R, wrapF_eq, iSub_eq]⟩
    · obtain ⟨kk, A, e1, hv⟩ := as_i_O_some hv
      cases hv
      rw [e1] at hX; have hX := R_i hX
      exact ⟨_, by rw [hX]; simp only [Op.unary, Op.intBits, Sem.run_pure]; rfl, by simp [R]⟩
    · obtain ⟨b, e1, hv⟩ := as_b_O_some hv
      cases hv
      rw [e1] at hX; have hX := R_b hX
      exact ⟨_, by rw [hX]; simp [Op.unary]; rfl, by simp [R]⟩
  case convert s d x =>
    have hX := opnd_sound k hg (show opOk P n x = true by simpa using hops)
    refine vv ?_
    split at hv
    · rename_i ds kk hs hd
      obtain ⟨k1, A, e1, hv⟩ := as_i_O_some hv
      cases hv
      rw [e1] at hX; have hX := R_i hX
      exact ⟨_, by rw [hX]; simp only [convert, Sem.run_bind, run_und hs, run_und hd, Result.andThen_ok, Conv.intToInt, Sem.run_pure]; rfl, by simp [R, wrapF_eq]⟩
    · rename_i kk hs hd
      obtain ⟨k1, A, e1, hv⟩ := asN_some hv
      obtain ⟨hlt, hv⟩ := iteO_some hv
      cases hv
      have hlt := Nat.le_of_ble_eq_true hlt
      rw [e1] at hX; have hX := R_i hX
      refine ⟨.string (Utf8.encode (A : Int)), by rw [hX]; simp only [convert, Sem.run_bind, run_und hs, run_und hd, Result.andThen_ok, Conv.intToString, Sem.run_pure]; rfl, ?_⟩
      rw [R_str]
      exact ⟨_, rfl, encode_small A (by omega), by omega⟩
    · rename_i hs hd
      obtain ⟨l, c, e1, hv⟩ := as_s_O_some hv
      cases hv
      rw [e1] at hX
      refine ⟨a.eval x, ?_, hX⟩
      rw [R_str] at hX; obtain ⟨s', hs', _⟩ := hX
      rw [hs']; simp only [convert, Sem.run_bind, run_und hs, run_und hd, Result.andThen_ok, Sem.run_pure]
    · rename_i t hs hd
      split at hv
      · rename_i n0 hn0
        obtain ⟨b, o, e1, hv⟩ := as_p_O_some hv
        rw [e1] at hX
        cases hrd : rd1 h b o with
        | none => rw [hrd] at hv; cases hv
        | some v0 =>
          rw [hrd] at hv
          cases hv
          exact ⟨a.eval x, toUnsafe_sound hr hs hd hn0 hX hrd, hX⟩
      · cases hv
    · rename_i u hs hd
      split at hv
      · rename_i sz hn0
        obtain ⟨b, o, e1, hv⟩ := as_p_O_some hv
        rw [e1] at hX
        split at hv
        · rename_i szb els f ty hb
          obtain ⟨hc, hv⟩ := iteO_some hv
          cases hv
          simp only [Bool.or_eq_true, Bool.and_eq_true] at hc
          rcases hc with ⟨c1, c2, c3, c4⟩ | ⟨c1, c4⟩
          case inr => exact ⟨a.eval x, fromUnsafeF_sound hr hs hd hn0 hX hb c1 (by have := Nat.le_of_ble_eq_true c4; rw [lenL_eq] at this; exact this), hX⟩
          exact ⟨a.eval x, fromUnsafe_sound hr hs hd hn0 hX hb (Nat.eq_of_beq_eq_true c1) (Nat.eq_of_beq_eq_true c2) (Nat.eq_of_beq_eq_true c3) (by have := Nat.le_of_ble_eq_true c4; rw [lenL_eq] at this; exact this), hX⟩
        · cases hv
      · cases hv
    · cases hv
  case makeInterface t x =>
    have hX := opnd_sound k hg (show opOk P n x = true by simpa using hops)
    refine vv ?_
    cases hu : P.underlying t with
    | none => rw [hu] at hv; cases hv
    | some ds =>
      rw [hu] at hv
      cases ds <;> simp only at hv <;> (try (cases hv; done)) <;> cases hv <;>
        exact ⟨.iface t (a.eval x), by simp [Instr.makeInterface, run_und hu], by simp only [R]; exact ⟨_, rfl, hX⟩⟩
  case makeFunc fn f c =>
    cases hv
    have hops0 := hops
    refine vv ⟨.func fn (f.map a.eval) (c.map a.eval), rfl, ?_⟩
    simp only [R]
    refine ⟨f.toList.map a.eval, c.toList.map a.eval, by congr 1 <;> (apply Array.toList_inj.1; simp), opnds_sound k hg ?_, opnds_sound k hg ?_⟩
    · rw [List.all_eq_true]; intro x hx; have := List.all_eq_true.1 hops0 x (by simp [hx]); exact this
    · rw [List.all_eq_true]; intro x hx; have := List.all_eq_true.1 hops0 x (by simp [hx]); exact this
  case slice t x lo hi mx =>
    cases mx with
    | some _ => cases hv
    | none =>
      refine vv (slice_sound k hg ?_ ?_ ?_ hv)
      · simp at hops; exact hops.1
      · rintro y rfl; simp at hops; exact hops.2.1
      · rintro y rfl; simp at hops; exact hops.2.2
  case fieldAddr t x i =>
    have hX := opnd_sound k hg (show opOk P n x = true by simpa using hops)
    refine vv ?_
    cases hu : P.underlying t with
    | none => rw [hu] at hv; cases hv
    | some ds =>
      rw [hu] at hv
      cases ds <;> simp only at hv <;> (try (cases hv; done))
      rename_i fs
      cases hf : nthF fs.toList i with
      | none => rw [hf] at hv; cases hv
      | some f =>
        rw [hf] at hv
        simp only at hv
        split at hv
        · rename_i sz hs
          obtain ⟨b, o, e1, hv⟩ := as_p_O_some hv
          cases hv
          rw [e1] at hX
          obtain ⟨l, hl, hu2⟩ := R_p hX
          rw [nthF_eq] at hf
          have hf' : fs[i]? = some f := by simpa using hf
          refine ⟨.pointer (some ⟨l.blk, l.base + o + f.offset, none⟩), ?_, ?_⟩
          · rw [hu2]
            simp [Instr.fieldAt, run_und hu, hf', Instr.sureAddr, fieldPlace, sizeT_run hs, addr_add]
          · simp only [R]; exact ⟨l, hl, by rw [Nat.add_assoc]; rfl⟩
        · cases hv
  case field t x i =>
    have hX := opnd_sound k hg (show opOk P n x = true by simpa using hops)
    refine vv ?_
    cases hu : P.underlying t with
    | none => rw [hu] at hv; cases hv
    | some ds =>
      rw [hu] at hv
      cases ds <;> simp only at hv <;> (try (cases hv; done))
      rename_i fs
      cases hf : nthF fs.toList i with
      | none => rw [hf] at hv; cases hv
      | some f =>
        rw [hf] at hv
        simp only at hv
        cases hs : sizeT P f.type with
        | none => rw [hs] at hv; cases hv
        | some sz =>
          rw [hs] at hv
          simp only at hv
          obtain ⟨l, e1, hv⟩ := as_agg_O_some hv
          rw [e1] at hX
          obtain ⟨l', hu2, hl, hsc⟩ := R_agg_cells hX
          obtain ⟨d2, hd2⟩ := sizeT_und hs
          obtain ⟨u, h1, h2⟩ := part_sound (w := w) hd2 hs hl hsc hv
          rw [nthF_eq] at hf
          have hf' : fs[i]? = some f := by simpa using hf
          exact ⟨u, by rw [hu2]; simp [Instr.field, run_und hu, hf', asAgg, h1], h2⟩
  case indexAddr t x ix =>
    simp at hops
    have hX := opnd_sound k hg hops.1
    have hI := opnd_sound k hg hops.2
    refine vv ?_
    cases hu : P.underlying t with
    | none => rw [hu] at hv; cases hv
    | some ds =>
      rw [hu] at hv
      cases ds <;> simp only at hv <;> (try (cases hv; done))
      case slice el =>
        split at hv
        · rename_i sz hs
          obtain ⟨b, o, len, z, e1, hv⟩ := as_sl_O_some hv
          obtain ⟨kk, j, e2, hv⟩ := asN_some hv
          obtain ⟨hj, hv⟩ := iteO_some hv
          cases hv
          have hj := Nat.le_of_ble_eq_true hj
          rw [e1] at hX; simp only [R] at hX
          obtain ⟨l, cap, hl, hu2, _⟩ := hX
          rw [e2] at hI; have hI := R_i hI
          refine ⟨.pointer (some ⟨l.blk, l.base + o + j * (sz + 1), none⟩), ?_, ?_⟩
          · rw [hu2, hI]
            have hc : (0 : Int) ≤ (j : Int) ∧ (j : Int) < (len : Int) := ⟨by omega, by omega⟩
            simp [Instr.indexAt, asIntOf, run_und hu, sizeT_run hs, hc, addr_add]
            omega
          · simp only [R]; exact ⟨l, hl, by rw [Nat.add_assoc]; rfl⟩
        · cases hv
      case array len el =>
        split at hv
        · rename_i sz hs
          obtain ⟨b, o, e1, hv⟩ := as_p_O_some hv
          obtain ⟨kk, j, e2, hv⟩ := asN_some hv
          obtain ⟨hj, hv⟩ := iteO_some hv
          cases hv
          have hj := Nat.le_of_ble_eq_true hj
          rw [e1] at hX
          obtain ⟨l, hl, hu2⟩ := R_p hX
          rw [e2] at hI; have hI := R_i hI
          refine ⟨.pointer (some ⟨l.blk, l.base + o + j * (sz + 1), none⟩), ?_, ?_⟩
          · rw [hu2, hI]
            have hc : (0 : Int) ≤ (j : Int) ∧ (j : Int) < (len : Int) := ⟨by omega, by omega⟩
            simp [Instr.indexAt, asIntOf, run_und hu, sizeT_run hs, hc, addr_add, Instr.sureAddr]
            omega
          · simp only [R]; exact ⟨l, hl, by rw [Nat.add_assoc]; rfl⟩
        · cases hv
  case index t x ix =>
    simp at hops
    have hX := opnd_sound k hg hops.1
    have hI := opnd_sound k hg hops.2
    refine vv ?_
    cases hu : P.underlying t with
    | none => rw [hu] at hv; cases hv
    | some ds =>
      rw [hu] at hv
      cases ds <;> simp only at hv <;> (try (cases hv; done))
      case string =>
        obtain ⟨len, c, e1, hv⟩ := as_s_O_some hv
        obtain ⟨kk, j, e2, hv⟩ := asN_some hv
        obtain ⟨hj, hv⟩ := iteO_some hv
        cases hv
        have hj := Nat.le_of_ble_eq_true hj
        rw [e1, R_str] at hX
        obtain ⟨s, hs, hb, _⟩ := hX
        rw [e2] at hI; have hI := R_i hI
        obtain ⟨b, h1, h2⟩ := index_str hb (show j < len by omega)
        refine ⟨.int .u8 b.toNat, ?_, by simp only [R]; rw [← h2]; rfl⟩
        rw [hs, hI]
        have hc : (0 : Int) ≤ (j : Int) := by omega
        simp only [Instr.index, asIntOf, Sem.run_bind, Sem.run_pure, Result.andThen_ok, run_und hu]
        have hz : (0 : Int) ≤ Int.ofNat j := by simp
        rw [if_pos hz, show (Int.ofNat j).toNat = j from rfl, h1]
        rfl
      case array len el =>
        cases hs : sizeT P el with
        | none => rw [hs] at hv; cases hv
        | some sz =>
          rw [hs] at hv
          simp only at hv
          obtain ⟨l, e1, hv⟩ := as_agg_O_some hv
          obtain ⟨kk, j, e2, hv⟩ := asN_some hv
          obtain ⟨hj, hv⟩ := iteO_some hv
          have hj := Nat.le_of_ble_eq_true hj
          rw [e1] at hX
          obtain ⟨l', hu2, hl, hsc⟩ := R_agg_cells hX
          rw [e2] at hI; have hI := R_i hI
          obtain ⟨d2, hd2⟩ := sizeT_und hs
          obtain ⟨u, h1, h2⟩ := part_sound (w := w) hd2 hs hl hsc hv
          refine ⟨u, ?_, h2⟩
          rw [hu2, hI]
          have hjl : j < len := by omega
          have hz : (0 : Int) ≤ Int.ofNat j ∧ Int.ofNat j < (len : Int) := ⟨by simp, by simpa using hjl⟩
          simp only [Instr.index, asIntOf, Sem.run_bind, Sem.run_pure, Result.andThen_ok, run_und hu]
          rw [if_pos hz]
          simp only [Sem.run_bind, sizeT_run hs, Result.andThen_ok]
          exact h1
  case lookup t x ix ok =>
    simp at hops
    have hX := opnd_sound k hg hops.1
    have hI := opnd_sound k hg hops.2
    refine vv ?_
    unfold lookC at hv
    cases hu : P.underlying t with
    | none => rw [hu] at hv; cases hv
    | some ds =>
      rw [hu] at hv
      cases ds <;> simp only at hv <;> (try (cases hv; done))
      rename_i kt et
      cases hz : zeroT P et with
      | none => rw [hz] at hv; cases hv
      | some z =>
        rw [hz] at hv
        simp only at hv
        rcases as_mp_O_of hv with ⟨b, e1, hv⟩ | ⟨_, hv⟩
        · cases he : entsOf h b with
          | none => rw [he] at hv; cases hv
          | some p =>
            obtain ⟨es, c⟩ := p
            rw [he] at hv
            obtain ⟨l, es', _, hl, hm, hes⟩ := entsOf_some hr he
            rw [e1] at hX; simp only [R] at hX
            obtain ⟨l2, hl2, hs⟩ := hX
            rw [hl] at hl2; cases hl2
            exact look_sound hr hu hz hI hes (.inl ⟨_, _, hs, hm⟩) hv
        · obtain ⟨e1, hv⟩ := as_mn_O_some hv
          rw [e1] at hX; simp only [R] at hX
          exact look_sound hr hu hz hI (xs := []) (by simp [EntsR]) (.inr ⟨hX, rfl⟩) hv
  case entry x =>
    have hX := opnd_sound k hg (show opOk P n x = true by simpa using hops)
    refine vv ?_
    obtain ⟨b, o, e1, hv⟩ := as_p_O_some hv
    obtain ⟨ho, hv⟩ := iteO_some hv
    have ho := Nat.eq_of_beq_eq_true ho; subst ho
    rw [e1] at hX
    obtain ⟨l, hl, hu⟩ := R_p hX
    rw [hu]; exact entry_sound hr hl hv
  case typeAssert x xt t ok =>
    have hX := opnd_sound k hg (show opOk P n x = true by simpa using hops)
    refine vv ?_
    cases hu : P.underlying t with
    | none => rw [hu] at hv; cases hv
    | some ds =>
      cases hz : zeroT P t with
      | none => rw [hu, hz] at hv; cases ds <;> cases hv
      | some z =>
        rw [hu, hz] at hv
        obtain ⟨uz, hzr, rfl, _⟩ := zeroT_run (w := w) hz
        have hni : ∀ ms, ds ≠ .interface ms := by rintro ms rfl; cases hv
        have hv' : (match ((opnd x).run e : V) with
          | .ni => if ok then some (V.tup [cst uz, .b false]) else none
          | .ifc t' v => bif Nat.beq t' t then some (if ok then .tup [v, .b true] else v) else if ok then some (.tup [cst uz, .b false]) else none
          | _ => none) = some v := by
          cases ds <;> first | exact absurd rfl (hni _) | exact hv
        have nope : R m (.tup [cst uz, .b false]) (.tuple #[uz, .bool false]) := by
          simp only [R, Rl]; exact ⟨_, rfl, _, _, rfl, cst_sound m uz, _, _, rfl, rfl, rfl⟩
        split at hv'
        · rename_i e1
          rw [e1] at hX; simp only [R] at hX
          cases ok with
          | false => cases hv'
          | true =>
            cases hv'
            refine ⟨_, ?_, nope⟩
            rw [hX]
            cases ds <;> first | exact absurd rfl (hni _) | (simp [Instr.typeAssert, run_und hu, hzr]; done)
        · rename_i t' v0 e1
          rw [e1] at hX; simp only [R] at hX
          obtain ⟨u0, hu0, hR0⟩ := hX
          cases ht : Nat.beq t' t with
          | true =>
            rw [ht] at hv'
            have := Nat.eq_of_beq_eq_true ht; subst this
            cases hv'
            refine ⟨if ok then .tuple #[u0, .bool true] else u0, ?_, ?_⟩
            · rw [hu0]
              cases ds <;> first | exact absurd rfl (hni _) | (simp [Instr.typeAssert, run_und hu]; done)
            · cases ok
              · exact hR0
              · simp only [if_true, R, Rl]; exact ⟨_, rfl, _, _, rfl, hR0, _, _, rfl, rfl, rfl⟩
          | false =>
            rw [ht] at hv'
            have hne : t' ≠ t := by rintro rfl; simp at ht
            cases ok with
            | false => cases hv'
            | true =>
              cases hv'
              refine ⟨_, ?_, nope⟩
              rw [hu0]
              cases ds <;> first | exact absurd rfl (hni _) | (simp [Instr.typeAssert, run_und hu, hne, hzr]; done)
        · cases hv'
  case extract x i =>
    have hX := opnd_sound k hg (show opOk P n x = true by simpa using hops)
    refine vv ?_
    obtain ⟨l, e1, hv⟩ := as_tup_O_some hv
    rw [e1] at hX
    obtain ⟨l', hu, hl⟩ := R_tup hX
    rw [nthV_eq] at hv
    obtain ⟨u, h1, h2⟩ := hl.get hv
    have h1' : (⟨l'⟩ : Array Value)[i]? = some u := by simpa using h1
    exact ⟨u, by rw [hu]; simp [Instr.extract, h1'], h2⟩
  case call c =>
    obtain ⟨callee, args, argTypes⟩ := c
    have bi : ∀ {b : Builtin} {s : Sem Value}, callee = .builtin b → (∀ cs, builtin b argTypes type cs (args.map a.eval) = (do pure (.value (← s)))) → (∃ u, s.run P w = .ok u w ∧ R m v u) →
        ∃ u, (execOp a.eval { dst := dst, op := .call { callee := callee, args := args, argTypes := argTypes }, type := type, pos := pos, after := after, guard := guard }).run P w = .ok (.value u) w ∧ R m v u := by
      rintro b s rfl hb ⟨u, h1, h2⟩
      refine ⟨u, ?_, h2⟩
      simp only [execOp, resolve, Sem.run_bind, Sem.run_pure, Result.andThen_ok, invoke, hb, h1]
    have hall : args.toList.all (opOk P n) = true := by
      rw [List.all_eq_true] at hops ⊢
      intro x hx; exact hops x (by simp [Call.operands, hx])
    unfold callL at hv
    simp only at hv
    split at hv
    · rename_i x t ts e2 e3
      obtain ⟨args⟩ := args; obtain ⟨argTypes⟩ := argTypes
      simp only at e2 e3; subst e2; subst e3
      refine bi rfl (fun _ => rfl) ?_
      have := len_sound (ts := ts) (ty := type) hr k hg (by simpa using hall) hv
      simpa using this
    · rename_i x t ts e2 e3
      obtain ⟨args⟩ := args; obtain ⟨argTypes⟩ := argTypes
      simp only at e2 e3; subst e2; subst e3
      refine bi rfl (fun _ => rfl) ?_
      have hX := opnd_sound k hg (show opOk P n x = true by simpa using hall)
      unfold capC at hv
      cases hu : P.underlying t with
      | none => rw [hu] at hv; cases hv
      | some ds =>
        rw [hu] at hv
        cases ds <;> simp only at hv <;> (try (cases hv; done))
        rcases as_sl_O_of hv with ⟨b, o, l, z, e4, hv⟩ | ⟨_, hv⟩
        · cases hv
          rw [e4] at hX; simp only [R] at hX
          obtain ⟨ll, cap, _, hs, _⟩ := hX
          exact ⟨_, by simp [hs, Builtin.cap_, run_und hu, goInt]; rfl, by simp [R]⟩
        · obtain ⟨e4, hv⟩ := as_sn_O_some hv
          cases hv
          rw [e4] at hX; simp only [R] at hX
          exact ⟨_, by simp [hX, Builtin.cap_, run_und hu, goInt]; rfl, by simp [R]⟩
    · rename_i x e2
      obtain ⟨args⟩ := args
      simp only at e2; subst e2
      refine bi rfl (fun _ => rfl) ?_
      have hX := opnd_sound k hg (show opOk P n x = true by simpa using hall)
      have hmap : (⟨[x]⟩ : Array Operand).map a.eval = #[a.eval x] := by simp
      rw [hmap]
      rcases as_sl_O_of hv with ⟨b, o, l, z, e4, hv⟩ | ⟨_, hv⟩
      · obtain ⟨hle, hv⟩ := iteO_some hv
        cases hv
        have hle := Nat.le_of_ble_eq_true hle
        rw [e4] at hX; simp only [R] at hX
        obtain ⟨ll, cap, hll, hs, hlc, _⟩ := hX
        rw [hs]
        exact ⟨_, Lib.run_unsafeSliceData_row w _ _ _ _ _ (by omega), by simp only [R]; exact ⟨ll, hll, rfl⟩⟩
      · obtain ⟨e4, hv⟩ := as_sn_O_some hv
        cases hv
        rw [e4] at hX; simp only [R] at hX
        rw [hX]
        exact ⟨_, Lib.run_unsafeSliceData_nil w _ _ _ _, by simp [R]⟩
    · rename_i x l e2
      obtain ⟨args⟩ := args
      simp only at e2; subst e2
      simp only [List.all_cons, Bool.and_eq_true] at hall
      obtain ⟨u, h1, h2⟩ := max_sound (P := P) (w := w) _ _ (opnd_sound k hg hall.1) (opnds_sound k hg hall.2) hv
      exact bi rfl (fun _ => rfl) ⟨u, by simpa [Builtin.max_] using h1, h2⟩
    · rename_i x l e2
      obtain ⟨args⟩ := args
      simp only at e2; subst e2
      simp only [List.all_cons, Bool.and_eq_true] at hall
      obtain ⟨u, h1, h2⟩ := min_sound (P := P) (w := w) _ _ (opnd_sound k hg hall.1) (opnds_sound k hg hall.2) hv
      exact bi rfl (fun _ => rfl) ⟨u, by simpa [Builtin.min_] using h1, h2⟩
    · cases hv
end Go.Ev
end
section
namespace Go.Ev
open Go
variable {P : Program} {m : Mp} {w : World}

theorem newO_ok {h h' : H} {ob : Id → O} {vf : Id → V} {v : V} (hn : newO h ob vf = .ok v h') : ∃ nx, h.next.succ = some nx ∧ v = vf h.next ∧ h' = ⟨mput h.next (some (ob h.next)) h.mem, h.fams, nx⟩ := by
  obtain ⟨mem, fams, next⟩ := h
  unfold newO at hn
  simp only at hn
  cases hs : next.succ with
  | none => rw [hs] at hn; cases hn
  | some nx => rw [hs] at hn; cases hn; exact ⟨nx, by simpa using hs, rfl, rfl⟩
/-- A NEW ROW OF CELLS: what is known of its first cells, and how many it has. -/
theorem newC_fr {h h' : H} (k : HR m h w) {sz : Nat} {els : List (List V)} {vf : Id → V} {v : V} {t0 : TypeId} (hn : newC t0 h sz els vf = .ok v h') (he : ∀ el ∈ els, el.length = sz)
    {us : List Value} (hR : Rl m els.flatten us) (hs : ∀ x ∈ us, scalar x) {C : Array Value} {extra : List Value} (hC : C.toList = us ++ extra) (t : TypeId) (fz : Nat × Nat)
    (hfz : fz.1 = fz.2 ∨ (sz = 1 ∧ C.size ≤ fz.1)) (ht : t0 = t := by rfl) :
    ∃ m', Fr m h w m' h' { w with heap := w.heap.push (.cells C t fz) } ∧ m' h.next = some ⟨w.heap.size, 0, C.size⟩ ∧ v = vf h.next := by
  obtain ⟨nx, hnx, rfl, rfl⟩ := newO_ok hn
  have hlen : C.size = us.length + extra.length := by rw [← Array.length_toList, hC]; simp
  refine ⟨_, Fr.new k hnx (.cells C t fz) (.cells sz els h.next (.rw t0)) ⟨w.heap.size, 0, C.size⟩ rfl (fun _ _ _ _ e => by cases e; rfl) (by simp [writable]) ?_, by simp, rfl⟩
  intro m' hm w' hw'
  refine ⟨C, t, fz, ⟨hw', by simp, ?_, he, ?_, ?_, ?_, fun ty e => by cases e; exact ht.symm, Nat.zero_mod _⟩⟩
  · show els.flatten.length ≤ C.size
    rw [← hR.length]; omega
  · intro i x hx
    obtain ⟨u, hu, hRu⟩ := hR.get hx
    have hi := (List.getElem?_eq_some_iff.1 hu).1
    refine ⟨u, ?_, hRu.mono hm, hs u (List.mem_of_getElem? hu)⟩
    show C[0 + i]? = some u
    rw [Nat.zero_add, ← Array.getElem?_toList, hC, List.getElem?_append_left hi, hu]
  · intro _ i hi
    show ¬ (fz.1 ≤ 0 + i ∧ 0 + i < fz.2)
    have hi' : i < C.size := hi
    rcases hfz with h1 | ⟨_, h2⟩ <;> omega
  · intro _ hz
    rcases hfz with h1 | ⟨h1, _⟩
    · exact h1
    · exact absurd h1 hz

/-- what a heavy operation comes to -/
def HvOk (P : Program) (r : Result Next) (m : Mp) (h : H) (w : World) (v : V) (h' : H) : Prop :=
  (∃ u w' m', (r = .ok (.value u) w' ∨ (r = .ok .skip w' ∧ u = undef)) ∧ Fr m h w m' h' w' ∧ R m' v u) ∨
  (∃ f us, r = .ok (.enter f us) w ∧ Calls P f us w (fun e w' => ∃ u m', e = .returned u ∧ Fr m h w m' h' w' ∧ R m' v u))
theorem alloc_sound {h h' : H} (k : HR m h w) {t : TypeId} {z v : V} {c : List V} (hz : zeroT P t = some z) (hc : cellsQ z = some c) (hn : newC t h (lenV1 c) [c] (fun i => .p i 0) = .ok v h') :
    ∃ u w' m', (Instr.alloc t true (.tuple #[])).run P w = .ok u w' ∧ Fr m h w m' h' w' ∧ R m' v u := by
  obtain ⟨uz, hzr, rfl, _⟩ := zeroT_run (w := w) hz
  obtain ⟨c', h1, h2, h3⟩ := cst_cells (m := m) hc
  obtain ⟨m', hf, hm, rfl⟩ := newC_fr k hn (by simp [lenV1_eq]) (us := c') (by simpa using h2) h3 (C := uz.cells) (extra := []) (by rw [h1]; simp) t (0, 0) (.inl rfl)
  refine ⟨.pointer (some ⟨w.heap.size, 0, none⟩), _, m', ?_, hf, ?_⟩
  · simp [Instr.alloc, hzr, newVar, newRow]
  · simp only [R]; exact ⟨_, hm, rfl⟩
theorem box_sound {h h' : H} (k : HR m h w) {t : TypeId} {x v : V} {u : Value} {c : List V} (hx : R m x u) (hc : cellsQ x = some c) (hn : newC t h (lenV1 c) [c] (fun i => .p i 0) = .ok v h') :
    ∃ u' w' m', (Instr.box t u).run P w = .ok u' w' ∧ Fr m h w m' h' w' ∧ R m' v u' := by
  obtain ⟨c', h1, h2, h3⟩ := cellsQ_spec hx hc
  obtain ⟨m', hf, hm, rfl⟩ := newC_fr k hn (by simp [lenV1_eq]) (us := c') (by simpa using h2) h3 (C := u.cells) (extra := []) (by rw [h1]; simp) t (0, 0) (.inl rfl)
  refine ⟨.pointer (some ⟨w.heap.size, 0, none⟩), _, m', ?_, hf, ?_⟩
  · simp [Instr.box, newVar, newRow]
  · simp only [R]; exact ⟨_, hm, rfl⟩
theorem Rl.rep {zc : List V} {zc' : List Value} (h : Rl m zc zc') : ∀ n, Rl m ((repN zc n).flatten) ((List.replicate n zc').flatten)
  | 0 => by simp [repN, Rl]
  | n + 1 => by simp only [repN, List.flatten_cons, List.replicate_succ]; exact h.append (Rl.rep h n)
theorem rep_scalar {zc' : List Value} (h : ∀ x ∈ zc', scalar x) (n : Nat) : ∀ x ∈ (List.replicate n zc').flatten, scalar x := by
  intro x hx
  simp only [List.mem_flatten, List.mem_replicate] at hx
  obtain ⟨l, ⟨_, rfl⟩, hx⟩ := hx
  exact h x hx
theorem zeros_eq (z : Array Value) (n : Nat) (hz : 0 < z.size) : ((Array.range (n * z.size)).map (z[· % z.size]!)).toList = (List.replicate n z.toList).flatten := by
  apply List.ext_getElem?
  intro i
  have hlen : ∀ n, ((List.replicate n z.toList).flatten).length = n * z.size := by
    intro n; induction n with
    | zero => simp
    | succ n ih => simp [List.replicate_succ, Nat.succ_mul]; omega
  have hget : ∀ n i, i < n * z.size → ((List.replicate n z.toList).flatten)[i]? = z.toList[i % z.size]? := by
    intro n
    induction n with
    | zero => intro i hi; simp at hi
    | succ n ih =>
      intro i hi
      rw [List.replicate_succ, List.flatten_cons]
      by_cases h : i < z.size
      · rw [List.getElem?_append_left (by simpa using h), Nat.mod_eq_of_lt h]
      · rw [List.getElem?_append_right (by simpa using h), Array.length_toList, ih (i - z.size) (by rw [Nat.succ_mul] at hi; omega)]
        congr 1
        rw [← Nat.mod_eq_sub_mod (by omega)]
  by_cases h : i < n * z.size
  · rw [hget n i h]
    have hm : i % z.size < z.size := Nat.mod_lt _ hz
    simp [h, hm]
  · rw [List.getElem?_eq_none (by simp; omega), List.getElem?_eq_none (by rw [hlen]; omega)]
theorem repN_eq {α : Type} (x : α) : ∀ n, repN x n = List.replicate n x
  | 0 => rfl
  | n + 1 => by rw [repN, repN_eq x n, List.replicate_succ]
theorem chunks_spec {sz : Nat} : ∀ (n : Nat) (l : List V), l.length = n * sz → (chunks sz n l).flatten = l ∧ (∀ el ∈ chunks sz n l, el.length = sz) ∧ (chunks sz n l).length = n
  | 0, l, h => by simp at h; subst h; simp [chunks]
  | n + 1, l, h => by
    rw [Nat.succ_mul] at h
    have hd : (dropV sz l).length = n * sz := by rw [dropV_eq]; simp; omega
    obtain ⟨h1, h2, h3⟩ := chunks_spec n (dropV sz l) hd
    have ht : takeV sz l = some (l.take sz) := by
      have : ∀ (k : Nat) (l : List V), k ≤ l.length → takeV k l = some (l.take k) := by
        intro k
        induction k with
        | zero => intro l _; rfl
        | succ k ih =>
          intro l hl
          cases l with
          | nil => simp at hl
          | cons a l =>
            have e : takeV (k + 1) (a :: l) = Option.rec (motive := fun _ => Option (List V)) none (fun x => some (a :: x)) (takeV k l) := rfl
            rw [e, ih l (by simpa using hl)]; rfl
      exact this sz l (by omega)
    unfold chunks
    rw [ht]
    refine ⟨?_, ?_, by simp [h3]⟩
    · simp only [Option.getD_some, List.flatten_cons]
      rw [h1, dropV_eq, List.take_append_drop]
    · intro el hel
      simp only [Option.getD_some, List.mem_cons] at hel
      rcases hel with rfl | hel
      · simp; omega
      · exact h2 el hel
end Go.Ev
end
section
namespace Go.Ev
open Go
variable {P : Program} {m : Mp} {w : World}

theorem scalar_one {v : Value} (h : scalar v) : v.oneCell' = true := by cases v <;> first | rfl | exact h.elim
theorem setCell_eq {w : World} {b o : Nat} {v : Value} {C : Array Value} {t : TypeId} {fz : Nat × Nat} (h : w.heap[b]? = some (.cells C t fz)) :
    w.setCell ⟨b, o, none⟩ v = { w with heap := w.heap.setIfInBounds b (.cells (C.setIfInBounds o v) t fz) } := by
  unfold World.setCell
  have hb : b < w.heap.size := (Array.getElem?_eq_some_iff.1 h).1
  congr 1
  apply Array.ext_getElem?
  intro i
  simp only [Array.getElem?_modify, Array.getElem?_setIfInBounds]
  by_cases e : b = i
  · subst e
    have hbe := (Array.getElem?_eq_some_iff.1 h).2
    simp [hb, hbe]
  · simp [e]
/-- CELLS ARE STORED, ONE BEHIND THE OTHER. -/
theorem run_storeCells {b off : Nat} {t : TypeId} {fz : Nat × Nat} : ∀ (vs : List Value) (i : Nat) (C : Array Value) (w : World), w.heap[b]? = some (.cells C t fz) → off + i + vs.length ≤ C.size → (∀ v ∈ vs, scalar v) →
    (∀ j, j < vs.length → ¬ (fz.1 ≤ off + i + j ∧ off + i + j < fz.2)) →
    (storeCells ⟨b, off, none⟩ vs i).run P w = .ok () { w with heap := w.heap.setIfInBounds b (.cells ⟨C.toList.take (off + i) ++ vs ++ C.toList.drop (off + i + vs.length)⟩ t fz) }
  | [], i, C, w, h, _, _, _ => by
    have hb : b < w.heap.size := (Array.getElem?_eq_some_iff.1 h).1
    have hbe := (Array.getElem?_eq_some_iff.1 h).2
    simp only [storeCells, Sem.run_pure, List.append_nil, List.length_nil, Nat.add_zero, List.take_append_drop]
    congr 1
    have : w.heap.setIfInBounds b (.cells C t fz) = w.heap := by
      apply Array.ext_getElem?
      intro j
      simp only [Array.getElem?_setIfInBounds]
      by_cases e : b = j
      · subst e; simp [hb, hbe]
      · simp [e]
    show w = { w with heap := w.heap.setIfInBounds b (.cells C t fz) }
    rw [this]
  | v :: vs, i, C, w, h, hl, hs, hf => by
    simp only [List.length_cons] at hl
    have hb : b < w.heap.size := (Array.getElem?_eq_some_iff.1 h).1
    have hc : w.cell? ⟨b, off + i, none⟩ = some (C[off + i]'(by omega)) := by simp [World.cell?, h, show off + i < C.size by omega]
    have hz : w.frozen? ⟨b, off + i, none⟩ = false := by
      have := hf 0 (by simp)
      simp only [Nat.add_zero] at this
      simp only [World.frozen?, h]
      rw [Bool.eq_false_iff]; simpa using this
    have h1 : (store ((⟨b, off, none⟩ : Addr).add i) v).run P w = .ok () (w.setCell ⟨b, off + i, none⟩ v) := by
      rw [addr_add, run_store P w _ v .plain (scalar_one (hs v (by simp)))]
      simp [hc, hz]
    have hset := setCell_eq (o := off + i) (v := v) h
    rw [hset] at h1
    have hget : ({ w with heap := w.heap.setIfInBounds b (.cells (C.setIfInBounds (off + i) v) t fz) } : World).heap[b]? = some (.cells (C.setIfInBounds (off + i) v) t fz) := by simp [hb]
    have ih := run_storeCells (off := off) vs (i + 1) (C.setIfInBounds (off + i) v) _ hget (by rw [Array.size_setIfInBounds]; omega) (fun x hx => hs x (by simp [hx])) (fun j hj => by
      have h9 := hf (j + 1) (by simpa using hj)
      have e9 : off + i + (j + 1) = off + (i + 1) + j := by omega
      rw [e9] at h9; exact h9)
    simp only [storeCells, Sem.run_bind, h1, Result.andThen_ok, ih]
    congr 1
    have hlt : off + i < C.toList.length := by simp; omega
    have e1 : (C.setIfInBounds (off + i) v).toList.take (off + (i + 1)) = C.toList.take (off + i) ++ [v] := by
      rw [Array.toList_setIfInBounds, ← Nat.add_assoc, List.take_set, List.take_succ_eq_append_getElem hlt]
      rw [List.set_append_right _ _ (by simp; omega)]
      have hm : min (off + i) C.size = off + i := by simp at hlt; omega
      simp [hm]
    have e2 : (C.setIfInBounds (off + i) v).toList.drop (off + (i + 1) + vs.length) = C.toList.drop (off + i + (vs.length + 1)) := by
      rw [Array.toList_setIfInBounds, List.drop_set_of_lt (by omega)]; congr 1; omega
    rw [e1, e2]
    simp [Array.setIfInBounds_setIfInBounds]
theorem setL_eq (l : List (List V)) (i : Nat) (x : List V) : setL l i x = l.set i x := by
  induction l generalizing i with
  | nil => rfl
  | cons a l ih => cases i with
    | zero => rfl
    | succ i => show a :: setL l i x = _; rw [ih]; rfl
theorem flat_set {sz : Nat} : ∀ {els : List (List V)} (h : ∀ el ∈ els, el.length = sz) {q o : Nat} {el el' xs : List V}, els[q]? = some el → ∀ {r : Nat}, r + xs.length ≤ sz → el' = el.take r ++ xs ++ el.drop (r + xs.length) → q * sz + r = o →
    (els.set q el').flatten = els.flatten.take o ++ xs ++ els.flatten.drop (o + xs.length)
  | [], _, q, o, el, el', xs, hq, r, hr, he, ho => by simp at hq
  | x :: els, h, 0, o, el, el', xs, hq, r, hr, he, ho => by
    simp at hq; subst hq
    have hx := h x (by simp)
    have : o = r := by omega
    subst this
    simp only [List.set_cons_zero, List.flatten_cons, he]
    rw [List.take_append_of_le_length (by omega), List.drop_append_of_le_length (by omega)]
    simp
  | x :: els, h, q + 1, o, el, el', xs, hq, r, hr, he, ho => by
    simp at hq
    have hx := h x (by simp)
    have ih := flat_set (fun el he => h el (by simp [he])) hq hr he (o := q * sz + r) rfl
    have ho' : o = sz + (q * sz + r) := by rw [← ho, Nat.succ_mul]; omega
    simp only [List.set_cons_succ, List.flatten_cons, ih]
    have t1 : (x ++ els.flatten).take o = x ++ els.flatten.take (q * sz + r) := by
      rw [List.take_append, List.take_of_length_le (by omega)]; congr 2; omega
    have t2 : (x ++ els.flatten).drop (o + xs.length) = els.flatten.drop (q * sz + r + xs.length) := by
      rw [List.drop_append, List.drop_eq_nil_of_le (by omega), List.nil_append]; congr 1; omega
    rw [t1, t2]; simp
theorem wr_sound {h h' : H} (k : HR m h w) {b : Id} {o n : Nat} {xs : List V} {xs' : List Value} {v : V} {l : Loc} (hl : m b = some l) (hn : xs.length = n) (hx : Rl m xs xs') (hs : ∀ x ∈ xs', scalar x)
    (hw : wr h b o xs n = .ok v h') : v = undefV ∧ ∃ w', (storeCells ⟨l.blk, l.base + o, none⟩ xs').run P w = .ok () w' ∧ Fr m h w m h' w' := by
  unfold wr at hw
  cases hb : mget b h.mem with
  | none => rw [hb] at hw; cases hw
  | some ob =>
    rw [hb] at hw
    cases ob with
    | map _ _ => cases hw
    | siter _ _ _ => cases hw
    | miter _ _ _ _ => cases hw
    | cells sz els f ro =>
      cases ro with
      | fz => cases hw
      | fr _ => cases hw
      | rw ty =>
        have hw1 : (Option.rec (motive := fun _ => VH) .bad
          (fun el => Option.rec (motive := fun _ => VH) .bad
            (fun el' => .ok undefV (setO (loneH h f b) b (.cells sz (setL els (Nat.div o sz) el') f (.rw ty))))
            (Bool.rec (motive := fun _ => Option (List V)) (overAt (Nat.mod o sz) el xs) (some xs) (Nat.beq (Nat.mod o sz) 0 && Nat.beq n sz)))
          (nthL els (Nat.div o sz)) : VH) = .ok v h' := hw
        rw [nthL_eq] at hw1
        cases he : els[Nat.div o sz]? with
        | none => rw [he] at hw1; cases hw1
        | some el =>
          rw [he] at hw1
          obtain ⟨l2, hl2, C, t, fz, hc⟩ := k.obj _ _ hb
          rw [hl] at hl2; cases hl2
          have hlen := hc.each el (List.mem_of_getElem? he)
          -- the new element
          have hel : ∃ el', (Bool.rec (motive := fun _ => Option (List V)) (overAt (Nat.mod o sz) el xs) (some xs) (Nat.beq (Nat.mod o sz) 0 && Nat.beq n sz) : Option (List V)) = some el' ∧
              o % sz + xs.length ≤ sz ∧ el' = el.take (o % sz) ++ xs ++ el.drop (o % sz + xs.length) := by
            cases ht : (Nat.beq (Nat.mod o sz) 0 && Nat.beq n sz) with
            | true =>
              simp only [Bool.and_eq_true] at ht
              have h1 : o % sz = 0 := Nat.eq_of_beq_eq_true ht.1
              have h2 : n = sz := Nat.eq_of_beq_eq_true ht.2
              refine ⟨xs, rfl, by omega, ?_⟩
              rw [h1]; simp; omega
            | false =>
              cases ho : overAt (Nat.mod o sz) el xs with
              | none =>
                exfalso
                have : (Option.rec (motive := fun _ => VH) .bad (fun el' => .ok undefV (setO (loneH h f b) b (.cells sz (setL els (Nat.div o sz) el') f (.rw ty)))) (overAt (Nat.mod o sz) el xs) : VH) = .ok v h' := by
                  simpa [ht] using hw1
                rw [ho] at this; cases this
              | some el' =>
                obtain ⟨h1, h2⟩ := overAt_spec _ _ _ ho
                exact ⟨el', rfl, by rw [hlen] at h1; exact h1, h2⟩
          obtain ⟨el', hel1, hel2, hel3⟩ := hel
          have hw2 : VH.ok undefV (setO (loneH h f b) b (.cells sz (setL els (Nat.div o sz) el') f (.rw ty))) = .ok v h' := by
            have : (Option.rec (motive := fun _ => VH) .bad (fun el' => .ok undefV (setO (loneH h f b) b (.cells sz (setL els (Nat.div o sz) el') f (.rw ty))))
              (Bool.rec (motive := fun _ => Option (List V)) (overAt (Nat.mod o sz) el xs) (some xs) (Nat.beq (Nat.mod o sz) 0 && Nat.beq n sz)) : VH) = .ok v h' := hw1
            rw [hel1] at this; exact this
          cases hw2
          refine ⟨rfl, ?_⟩
          have hxl := hx.length
          have hq : o / sz < els.length := (List.getElem?_eq_some_iff.1 he).1
          have hfl := flat_len hc.each
          have hdm : o / sz * sz + o % sz = o := by have := Nat.div_add_mod o sz; rw [Nat.mul_comm] at this; exact this
          have hsz : (o / sz + 1) * sz ≤ els.length * sz := Nat.mul_le_mul_right _ hq
          have hend : o + xs.length ≤ els.flatten.length := by
            rw [hfl]; rw [Nat.succ_mul] at hsz; omega
          have hroom := hc.room; have hlim := hc.len
          have hrun := run_storeCells (P := P) (b := l.blk) (off := l.base + o) (t := t) (fz := fz) xs' 0 C w hc.at_ (by omega) hs (fun j hj => by
            have := hc.free rfl (o + j) (by omega)
            rw [show l.base + (o + j) = l.base + o + 0 + j by omega] at this; exact this)
          refine ⟨_, hrun, Fr.updCells k hb hl rfl ?_⟩
          intro hat
          have hset : (setL els (Nat.div o sz) el').flatten = els.flatten.take o ++ xs ++ els.flatten.drop (o + xs.length) := by
            rw [setL_eq]
            exact flat_set hc.each he (by omega) hel3 hdm
          refine ⟨_, t, fz, ⟨hat, ?_, ?_, ?_, ?_, hc.free, hc.plain, hc.typ, hc.al⟩⟩
          · have : (⟨C.toList.take (l.base + o + 0) ++ xs' ++ C.toList.drop (l.base + o + 0 + xs'.length)⟩ : Array Value).size = C.size := by
              show (C.toList.take (l.base + o + 0) ++ xs' ++ C.toList.drop (l.base + o + 0 + xs'.length)).length = C.size
              simp only [List.length_append, List.length_take, List.length_drop, Array.length_toList]; omega
            rw [this]; exact hroom
          · rw [hset]; simp only [List.length_append, List.length_take, List.length_drop, Array.length_toList]; omega
          · intro e0 he0
            rw [setL_eq] at he0
            rcases List.mem_or_eq_of_mem_set he0 with h1 | rfl
            · exact hc.each e0 h1
            · rw [hel3]; simp; omega
          · intro i x hxi
            rw [hset] at hxi
            have hCg : ∀ j : Nat, (⟨C.toList.take (l.base + o + 0) ++ xs' ++ C.toList.drop (l.base + o + 0 + xs'.length)⟩ : Array Value)[j]? =
                (C.toList.take (l.base + o) ++ xs' ++ C.toList.drop (l.base + o + xs'.length))[j]? := by intro j; simp
            rw [hCg]
            by_cases c1 : i < o
            · rw [List.append_assoc, List.getElem?_append_left (by simp only [List.length_append, List.length_take, List.length_drop, Array.length_toList]; omega), List.getElem?_take_of_lt c1] at hxi
              obtain ⟨u, h1, h2, h3⟩ := hc.val i x hxi
              refine ⟨u, ?_, h2, h3⟩
              rw [List.append_assoc, List.getElem?_append_left (by simp only [List.length_append, List.length_take, List.length_drop, Array.length_toList]; omega), List.getElem?_take_of_lt (by omega)]
              simpa using h1
            · by_cases c2 : i < o + xs.length
              · rw [List.append_assoc, List.getElem?_append_right (by simp only [List.length_append, List.length_take, List.length_drop, Array.length_toList]; omega), List.getElem?_append_left (by simp only [List.length_append, List.length_take, List.length_drop, Array.length_toList]; omega)] at hxi
                have e1 : i - (els.flatten.take o).length = i - o := by simp only [List.length_append, List.length_take, List.length_drop, Array.length_toList]; omega
                rw [e1] at hxi
                obtain ⟨u, h1, h2⟩ := hx.get hxi
                refine ⟨u, ?_, h2, hs u (List.mem_of_getElem? h1)⟩
                rw [List.append_assoc, List.getElem?_append_right (by simp only [List.length_append, List.length_take, List.length_drop, Array.length_toList]; omega), List.getElem?_append_left (by simp only [List.length_append, List.length_take, List.length_drop, Array.length_toList]; omega), ← h1]
                congr 1; simp only [List.length_append, List.length_take, List.length_drop, Array.length_toList]; omega
              · rw [List.getElem?_append_right (by simp only [List.length_append, List.length_take, List.length_drop, Array.length_toList]; omega), List.getElem?_drop] at hxi
                have e1 : o + xs.length + (i - (els.flatten.take o ++ xs).length) = i := by simp only [List.length_append, List.length_take, List.length_drop, Array.length_toList]; omega
                rw [e1] at hxi
                obtain ⟨u, h1, h2, h3⟩ := hc.val i x hxi
                refine ⟨u, ?_, h2, h3⟩
                rw [List.getElem?_append_right (by simp only [List.length_append, List.length_take, List.length_drop, Array.length_toList]; omega), List.getElem?_drop]
                have e2 : l.base + o + xs'.length + (l.base + i - (C.toList.take (l.base + o) ++ xs').length) = l.base + i := by simp only [List.length_append, List.length_take, List.length_drop, Array.length_toList]; omega
                rw [e2]; simpa using h1
end Go.Ev
end
