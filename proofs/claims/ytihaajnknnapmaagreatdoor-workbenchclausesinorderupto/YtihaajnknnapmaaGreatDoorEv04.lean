/-
  A part of the proof of the card of WorkbenchClausesInOrder (second form): lemmas that the text Card uses. No condition of its own.
-/
import Derived.Test.YtihaajnknnapmaaGreatDoorEv03
import Derived.Laws.MakeOwn
set_option linter.all false
set_option linter.unusedVariables false
set_option linter.unusedSimpArgs false
section
namespace Go.Ev
open Go
variable {P : Program} {m : Mp} {w : World}

theorem buildSlice_sound {n : Nat} {e : Env} {a : Act} (ke : EnvR m n e a) (hg : Gl P m) {h h' : H} (k : HR m h w) {t el : TypeId} {len sz : Nat} {z v : V} {zc : List V} {ps : Array (Nat × Operand)} (hu : P.underlying t = some (.slice el))
    (hx : (ps.toList.map (·.2)).all (opOk P n) = true) (hs : sizeT P el = some (sz + 1)) (hz : zeroT P el = some z) (hc : cellsQ z = some zc) (hle : len * (sz + 1) ≤ 16777216) (hzl : zc.length = sz + 1) {cs : List V}
    (hb : buildCells (fun i => some (i * (sz + 1), sz + 1)) ((repN zc len).flatten) ((pairs ps.toList).run e) = some cs)
    (hn : newC el h (sz + 1) (chunks (sz + 1) len cs) (fun i => .sl i 0 len (sz + 1)) = .ok v h') :
    ∃ u w' m', (Instr.buildSlice t len (ps.map fun (i, x) => (i, a.eval x))).run P w = .ok u w' ∧ Fr m h w m' h' w' ∧ R m' v u := by
  obtain ⟨p1, p2⟩ := pairs_sound ke hg hx
  have hps : (ps.map fun (i, x) => (i, a.eval x)).toList = ps.toList.map fun x => (x.1, a.eval x.2) := by simp
  obtain ⟨uz, hzr, rfl, _⟩ := zeroT_run (w := w) hz
  obtain ⟨zc', h1, h2, h3⟩ := cst_cells (m := m) hc
  have hzl' : uz.cells.size = sz + 1 := by rw [h1]; show zc'.length = _; rw [h2.length, hzl]
  obtain ⟨r', hr1, hr2, hr3⟩ := fill_sound _ _ p1 p2 (h2.rep len) (rep_scalar h3 len) hb
  have hzero : ((Array.range (len * (sz + 1))).map (uz.cells[· % uz.cells.size]!)) = ⟨(List.replicate len zc').flatten⟩ := by
    apply Array.toList_inj.1
    rw [← hzl', zeros_eq uz.cells len (by omega), h1]
  -- the length of what was built
  have hlen : cs.length = len * (sz + 1) := by
    have hl : ∀ (ps : List (Nat × V)) (c r : List V), buildCells (fun i => some (i * (sz + 1), sz + 1)) c ps = some r → r.length = c.length := by
      intro ps
      induction ps with
      | nil => intro c r h; have : c = r := Option.some.inj (by simpa [buildCells] using h); rw [this]
      | cons p ps ih =>
        intro c r h
        obtain ⟨i, x⟩ := p
        unfold buildCells at h
        simp only at h
        cases hq : cellsQ x with
        | none => rw [hq] at h; cases h
        | some c0 =>
          rw [hq] at h
          simp only at h
          cases hb : Nat.beq (lenV1 c0) (sz + 1) with
          | false => rw [hb] at h; cases h
          | true =>
            rw [hb] at h
            simp only [cond_true] at h
            cases ho : overAt (i * (sz + 1)) c c0 with
            | none => rw [ho] at h; cases h
            | some c2 =>
              rw [ho] at h
              obtain ⟨h5, h6⟩ := overAt_spec _ _ _ ho
              rw [ih _ _ h, h6]
              simp only [List.length_append, List.length_take, List.length_drop]; omega
    have := hl _ _ _ hb
    rw [this, repN_eq]
    have : ∀ k, ((List.replicate k zc).flatten).length = k * (sz + 1) := by
      intro k; induction k with
      | zero => simp
      | succ k ih => rw [List.replicate_succ, List.flatten_cons, List.length_append, ih, hzl, Nat.succ_mul]; omega
    exact this len
  obtain ⟨c1, c2, c3⟩ := chunks_spec len cs hlen
  obtain ⟨m', hf, hm, rfl⟩ := newC_fr k hn c2 (us := r') (by rw [c1]; exact hr2) hr3 (C := ⟨r'⟩) (extra := []) (by simp) el (0, 0) (.inl rfl)
  refine ⟨.slice (some ⟨w.heap.size, 0, none⟩) len len, _, m', ?_, hf, ?_⟩
  · have hno : ¬ (len * (sz + 1) > 2 ^ 24) := by omega
    rw [← hps] at hr1
    by_cases h0 : len * (sz + 1) = 0
    · have hl0 : len = 0 := by
        rcases Nat.mul_eq_zero.1 h0 with h | h
        · exact h
        · omega
      subst hl0
      simp only [Instr.buildSlice, Sem.run_bind, run_und hu, Result.andThen_ok, sizeT_run hs, Sem.run_ite, if_neg hno, if_pos h0, Sem.run_pure]
      have e0 : ((Array.range (0 * (sz + 1))).map fun x => (#[] : Array Value)[x % (#[] : Array Value).size]!) = (⟨(List.replicate 0 zc').flatten⟩ : Array Value) := by simp
      simp only [e0, hr1, Sem.run_bind, newRow, run_newObj, Result.andThen_ok, Sem.run_pure]
    · simp only [Instr.buildSlice, Sem.run_bind, run_und hu, Result.andThen_ok, sizeT_run hs, Sem.run_ite, if_neg hno, if_neg h0, Sem.run_pure, hzr, hzero, hr1, newRow, run_newObj]
  · simp only [R]
    refine ⟨_, len, hm, by simp, Nat.le_refl _, ?_⟩
    show 0 + len * (sz + 1) ≤ r'.length
    rw [hr2.length]; omega
theorem makeSlice_sound {h h' : H} (k : HR m h w) {t el : TypeId} {sz N M : Nat} {k1 k2 : IntKind} {z v : V} {zc : List V} {inf : TypeInfo} (hu : P.underlying t = some (.slice el)) (hs : sizeT P el = some (sz + 1))
    (hz : zeroT P el = some z) (hc : cellsQ z = some zc) (hi : P.info? el = some inf) (hby : inf.bytes ≤ 1000000) (hzl : zc.length = sz + 1) (hNM : N ≤ M) (hM : M ≤ 100000)
    (hn : newC el h (sz + 1) (repN zc M) (fun i => .sl i 0 N (sz + 1)) = .ok v h') :
    ∃ u w' m', (Instr.makeSlice t (.int k1 (N : Int)) (.int k2 (M : Int))).run P w = .ok u w' ∧ Fr m h w m' h' w' ∧ R m' v u := by
  obtain ⟨uz, hzr, rfl, _⟩ := zeroT_run (w := w) hz
  obtain ⟨zc', h1, h2, h3⟩ := cst_cells (m := m) hc
  have hzl' : uz.cells.size = sz + 1 := by rw [h1]; show zc'.length = _; rw [h2.length, hzl]
  have hzero : ((Array.range (M * (sz + 1))).map (uz.cells[· % uz.cells.size]!)) = ⟨(List.replicate M zc').flatten⟩ := by
    apply Array.toList_inj.1
    rw [← hzl', zeros_eq uz.cells M (by omega), h1]
  have heach : ∀ e0 ∈ repN zc M, e0.length = sz + 1 := by
    intro e0 he; rw [repN_eq] at he; rw [(List.mem_replicate.1 he).2, hzl]
  obtain ⟨m', hf, hm, rfl⟩ := newC_fr k hn heach (us := (List.replicate M zc').flatten) (h2.rep M) (rep_scalar h3 M) (C := ⟨(List.replicate M zc').flatten⟩) (extra := []) (by simp) el (0, 0) (.inl rfl)
  have hlen : ((List.replicate M zc').flatten).length = M * (sz + 1) := by
    have : ∀ k, ((List.replicate k zc').flatten).length = k * (sz + 1) := by
      intro k; induction k with
      | zero => simp
      | succ k ih => rw [List.replicate_succ, List.flatten_cons, List.length_append, ih, h2.length, hzl, Nat.succ_mul]; omega
    exact this M
  refine ⟨.slice (some ⟨w.heap.size, 0, none⟩) N M, _, m', ?_, hf, ?_⟩
  · have hprod : (inf.bytes : Int) * (M : Int) ≤ 281474976710656 := by
      have h9 : inf.bytes * M ≤ 1000000 * 100000 := Nat.mul_le_mul hby hM
      have h8 : ((inf.bytes * M : Nat) : Int) ≤ 281474976710656 := by omega
      simpa using h8
    obtain ⟨i2, hi2, hzi⟩ : ∃ i, P.info? el = some i ∧ i.zero = some uz := by
      obtain ⟨u2, hu2, _, i, hi', hz'⟩ := zeroT_run (w := w) hz
      rw [hzr] at hu2; cases hu2; exact ⟨i, hi', hz'⟩
    rw [hi] at hi2; cases hi2
    have hsz : inf.size = sz + 1 := by
      obtain ⟨i3, hi3, h4⟩ := sizeT_info hs
      rw [hi] at hi3; cases hi3; exact h4
    have := run_make (P := P) w t el inf uz hu hi hzi k1 k2 (N : Int) (M : Int) (by omega) (by omega) hprod (by omega)
    rw [this, hsz]
    simp only [Int.toNat_natCast, madeCells]
    rw [hzero]; rfl
  · simp only [R]
    refine ⟨_, M, hm, by simp, hNM, ?_⟩
    show 0 + M * (sz + 1) ≤ ((List.replicate M zc').flatten).length
    omega
end Go.Ev
end
section
namespace Go.Ev
open Go
variable {P : Program} {m : Mp} {w : World}

theorem beqS_eq {x y : V} (hk : keyS x = true) (h : V.beq x y = true) : x = y := by
  cases x <;> simp only [keyS, Bool.false_eq_true] at hk <;> cases y <;> simp only [V.beq, Bool.false_eq_true] at h
  case b.b x y =>
    have e0 : x = y := by simpa using h
    rw [e0]
  case i.i k n k' n' =>
    simp only [Bool.and_eq_true] at h
    obtain ⟨h1, h2⟩ := h
    have e1 : k = k' := by cases k <;> cases k' <;> first | rfl | (simp at h1)
    have e2 : n = n' := by
      cases n <;> cases n' <;> simp only [Bool.false_eq_true] at h2
      · rw [Nat.eq_of_beq_eq_true h2]
      · rw [Nat.eq_of_beq_eq_true h2]
    rw [e1, e2]
  case s.s l c l' c' =>
    simp only [sEq, Bool.and_eq_true] at h
    rw [Nat.eq_of_beq_eq_true h.1, Nat.eq_of_beq_eq_true h.2]
  case pn.pn => rfl
  case p.p b o b' o' =>
    simp only [Bool.and_eq_true] at h
    rw [Id.beq_iff.1 h.1, Nat.eq_of_beq_eq_true h.2]
  case ni.ni => rfl
theorem beqsS_eq : ∀ {l r : List V}, l.all keyS = true → beqs l r = true → l = r
  | [], [], _, _ => rfl
  | [], _ :: _, _, h => by simp [beqs] at h
  | _ :: _, [], _, h => by simp [beqs] at h
  | a :: l, b :: r, hk, h => by
    simp only [List.all_cons, Bool.and_eq_true] at hk
    simp only [beqs, Bool.and_eq_true] at h
    rw [beqS_eq hk.1 h.1, beqsS_eq hk.2 h.2]
theorem beqV_eq {x y : V} (hk : keyV x = true) (h : V.beq x y = true) : x = y := by
  cases x
  case agg l =>
    cases y <;> simp only [V.beq, Bool.false_eq_true] at h
    rw [beqsS_eq hk h]
  all_goals exact beqS_eq (by exact hk) h
theorem keyS_det {x : V} {u u' : Value} (hk : keyS x = true) (h : R m x u) (h' : R m x u') : u = u' := by
  cases x <;> simp only [keyS, Bool.false_eq_true] at hk
  case s l c =>
    rw [R_str] at h h'
    obtain ⟨s, rfl, h1, _⟩ := h; obtain ⟨s', rfl, h1', _⟩ := h'
    rw [bytesIn_inj (h1.trans h1'.symm)]
  case p b o =>
    obtain ⟨l, hl, rfl⟩ := R_p h; obtain ⟨l', hl', rfl⟩ := R_p h'
    rw [hl] at hl'; cases hl'; rfl
  all_goals
    simp only [R] at h h'
    rw [h, h']
theorem keyS_dets : ∀ {l : List V} {u u' : List Value}, l.all keyS = true → Rl m l u → Rl m l u' → u = u'
  | [], u, u', _, h, h' => by simp only [Rl] at h h'; rw [h, h']
  | a :: l, u, u', hk, h, h' => by
    simp only [List.all_cons, Bool.and_eq_true] at hk
    simp only [Rl] at h h'
    obtain ⟨x, xs, rfl, h1, h2⟩ := h; obtain ⟨x', xs', rfl, h1', h2'⟩ := h'
    rw [keyS_det hk.1 h1 h1', keyS_dets hk.2 h2 h2']
theorem keyV_det {x : V} {u u' : Value} (hk : keyV x = true) (h : R m x u) (h' : R m x u') : u = u' := by
  cases x
  case agg l =>
    obtain ⟨l1, rfl, h1, _⟩ := R_agg_cells h; obtain ⟨l2, rfl, h2, _⟩ := R_agg_cells h'
    rw [keyS_dets hk h1 h2]
  all_goals exact keyS_det (by exact hk) h h'
theorem keyS_bits {x : V} {u : Value} (hk : keyS x = true) (h : R m x u) (n : Nat) : Instr.sameBits n u u = true := by
  cases x <;> simp only [keyS, Bool.false_eq_true] at hk
  case s l c =>
    rw [R_str] at h; obtain ⟨s, rfl, _⟩ := h
    cases n <;> simp [Instr.sameBits, beq_toListBytes]
  case p b o =>
    obtain ⟨l, hl, rfl⟩ := R_p h
    cases n <;> simp [Instr.sameBits]
  all_goals
    simp only [R] at h
    subst h
    cases n <;> simp [Instr.sameBits]
theorem keyS_bitss : ∀ {l : List V} {us : List Value}, l.all keyS = true → Rl m l us → ∀ n, (us.zip us).all (fun x => Instr.sameBits n x.1 x.2) = true
  | [], us, _, h, n => by simp only [Rl] at h; subst h; rfl
  | a :: l, us, hk, h, n => by
    simp only [List.all_cons, Bool.and_eq_true] at hk
    simp only [Rl] at h; obtain ⟨u, us, rfl, h1, h2⟩ := h
    simp only [List.zip_cons_cons, List.all_cons, Bool.and_eq_true]
    exact ⟨keyS_bits hk.1 h1 n, keyS_bitss hk.2 h2 n⟩
theorem keyV_bits {x : V} {u : Value} (hk : keyV x = true) (h : R m x u) (n : Nat) : Instr.sameBits (n + 1) u u = true := by
  cases x
  case agg l =>
    obtain ⟨l1, rfl, h1, _⟩ := R_agg_cells h
    have := keyS_bitss hk h1 n
    simp only [Instr.sameBits, Bool.and_eq_true]
    exact ⟨by simp, this⟩
  all_goals exact keyS_bits (by exact hk) h _
/-- the key that stays is the new one: it is the old one -/
theorem keyStays {x : V} {u u' : Value} (hk : keyV x = true) (h : R m x u) (h' : R m x u') : (Instr.keyThatStays u u').run P w = .ok u' w := by
  rw [keyV_det hk h h']
  have := keyV_bits hk h' 9999
  simp only [Instr.keyThatStays, this, if_true, Sem.run_pure]
theorem run_setObj {b : Nat} {o o' : Obj} (hb : w.heap[b]? = some o) (hn : ∀ c t f, o ≠ .cells c t f) : (setObj b o').run P w = .ok () { w with heap := w.heap.setIfInBounds b o' } := by
  cases o <;> first | exact absurd rfl (hn _ _ _) | simp [setObj, Sem.run, hb]
theorem EntsR.set : ∀ {es : List Ent} {xs : List MapEntry} (i : Nat) {e' : Ent} {f : MapEntry → MapEntry}, EntsR m es xs → (∀ y, xs[i]? = some y → EntR m e' (f y)) → EntsR m (setE es i e') (xs.modify i f)
  | [], xs, i, e', f, h, _ => by simp only [EntsR] at h; subst h; simp [setE, EntsR]
  | a :: es, xs, 0, e', f, h, hf => by
    obtain ⟨x, xs, rfl, hx, hxs⟩ := h
    simp only [setE, List.modify_zero_cons, EntsR]
    exact ⟨_, _, rfl, hf x rfl, hxs⟩
  | a :: es, xs, i + 1, e', f, h, hf => by
    obtain ⟨x, xs, rfl, hx, hxs⟩ := h
    simp only [setE, List.modify_succ_cons, EntsR]
    exact ⟨_, _, rfl, hx, EntsR.set i hxs (fun y hy => hf y (by simpa using hy))⟩
theorem EntsR.append : ∀ {es es' : List Ent} {xs xs' : List MapEntry}, EntsR m es xs → EntsR m es' xs' → EntsR m (es ++ es') (xs ++ xs')
  | [], _, xs, _, h, h' => by simp only [EntsR] at h; subst h; exact h'
  | a :: es, _, xs, _, h, h' => by
    obtain ⟨x, xs, rfl, hx, hxs⟩ := h
    simp only [List.cons_append, EntsR]; exact ⟨_, _, rfl, hx, hxs.append h'⟩
theorem EntsR.del : ∀ {es : List Ent} {xs : List MapEntry} (i : Nat), EntsR m es xs → EntsR m (delE es i) (xs.eraseIdx i)
  | [], xs, i, h => by simp only [EntsR] at h; subst h; simp [delE, EntsR]
  | a :: es, xs, 0, h => by obtain ⟨x, xs, rfl, hx, hxs⟩ := h; simpa [delE] using hxs
  | a :: es, xs, i + 1, h => by
    obtain ⟨x, xs, rfl, hx, hxs⟩ := h
    simp only [delE, List.eraseIdx_cons_succ, EntsR]; exact ⟨_, _, rfl, hx, hxs.del i⟩
end Go.Ev
end
section
namespace Go.Ev
open Go
variable {P : Program} {m : Mp} {w : World}

/-- a map's object is replaced -/
theorem map_fr {h : H} (k : HR m h w) {b : Id} {l : Loc} {es es2 : List Ent} {c c2 : Nat} {xs2 : List MapEntry} (hb : mget b h.mem = some (.map es c)) (hl : m b = some l) (hes : EntsR m es2 xs2) :
    Fr m h w m (setO h b (.map es2 c2)) { w with heap := w.heap.setIfInBounds l.blk (.map ⟨xs2⟩ c2) } :=
  Fr.updObj k hb hl (by simp) (by simp) rfl (fun hat => ⟨xs2, hat, hes⟩)
theorem mapSet_sound {h h' : H} (k : HR m h w) {t kt et : TypeId} {b : Id} {l : Loc} {key x v : V} {ukey ux : Value} (hu : P.underlying t = some (.map kt et)) (hl : m b = some l) (hk : R m key ukey) (hx : R m x ux)
    (hs : mapSet P kt h b key x = .ok v h') : v = undefV ∧ ∃ w', (Instr.mapUpdate t (.map (some l.blk)) ukey ux).run P w = .ok () w' ∧ Fr m h w m h' w' := by
  unfold mapSet at hs
  cases he : entsOf h b with
  | none => rw [he] at hs; cases hs
  | some p =>
    obtain ⟨es, c⟩ := p
    rw [he] at hs
    simp only at hs
    obtain ⟨l2, xs, hb, hl2, hm, hes⟩ := entsOf_some k he
    rw [hl] at hl2; cases hl2
    cases hf : findEnt P kt h key es with
    | none => rw [hf] at hs; cases hs
    | some r =>
      rw [hf] at hs
      obtain ⟨h1, h2, h3⟩ := findEnt_sound k hk hes hf false
      cases r with
      | none =>
        simp only at hs
        cases hs
        refine ⟨rfl, _, ?_, map_fr k hb hl (hes.append (es' := [⟨key, x, c⟩]) (xs' := [⟨ukey, ux, c⟩]) ⟨_, _, rfl, ⟨hk, hx, rfl⟩, rfl⟩)⟩
        simp only [Instr.mapUpdate, Sem.run_bind, run_und hu, Result.andThen_ok, run_getMap hm, h1, h2, Option.map_none, run_setObj hm (by simp)]
        simp
      | some p =>
        obtain ⟨i, e⟩ := p
        simp only at hs
        obtain ⟨hei, y, hy, hye⟩ := h3 _ rfl
        simp only at hei hy hye
        cases hkb : (keyV key && V.beq key e.key) with
        | false => rw [hkb] at hs; cases hs
        | true =>
          rw [hkb] at hs; cases hs
          simp only [Bool.and_eq_true] at hkb
          have hke := beqV_eq hkb.1 hkb.2
          have hyk : R m key y.key := by rw [hke]; exact hye.1
          refine ⟨rfl, _, ?_, map_fr k hb hl (hes.set i (e' := ⟨key, x, e.born⟩) (f := fun z => { z with key := ukey, val := ux }) (fun z hz => by rw [hy] at hz; cases hz; exact ⟨hk, hx, hye.2.2⟩))⟩
          have hya : (⟨xs⟩ : Array MapEntry)[i]? = some y := by simpa using hy
          simp only [Instr.mapUpdate, Sem.run_bind, run_und hu, Result.andThen_ok, run_getMap hm, h1, h2, Option.map_some, hya, Option.getD_some, keyStays hkb.1 hyk hk, run_setObj hm (by simp)]
          congr 5
          apply Array.toList_inj.1
          simp
theorem mapEnt_sound {h h' : H} (k : HR m h w) {t kt et : TypeId} {b : Id} {l : Loc} {key z v : V} {ukey : Value} (hu : P.underlying t = some (.map kt et)) (hz : zeroT P et = some z) (hl : m b = some l) (hk : R m key ukey)
    (hs : mapEnt P kt z h b key = .ok v h') : ∃ u w', (Instr.mapEntry t (.map (some l.blk)) ukey).run P w = .ok u w' ∧ Fr m h w m h' w' ∧ R m v u := by
  obtain ⟨uz, hzr, rfl, _⟩ := zeroT_run (w := w) hz
  unfold mapEnt at hs
  cases he : entsOf h b with
  | none => rw [he] at hs; cases hs
  | some p =>
    obtain ⟨es, c⟩ := p
    rw [he] at hs
    simp only at hs
    obtain ⟨l2, xs, hb, hl2, hm, hes⟩ := entsOf_some k he
    rw [hl] at hl2; cases hl2
    cases hf : findEnt P kt h key es with
    | none => rw [hf] at hs; cases hs
    | some r =>
      rw [hf] at hs
      obtain ⟨h1, h2, h3⟩ := findEnt_sound k hk hes hf false
      cases r with
      | none =>
        simp only at hs
        cases hs
        refine ⟨.tuple #[uz, goInt c], _, ?_, map_fr k hb hl (hes.append (es' := [⟨key, cst uz, c⟩]) (xs' := [⟨ukey, uz, c⟩]) ⟨_, _, rfl, ⟨hk, cst_sound m uz, rfl⟩, rfl⟩), ?_⟩
        · simp only [Instr.mapEntry, Sem.run_bind, run_und hu, Result.andThen_ok, run_getMap hm, h1, h2, Option.map_none, hzr, run_setObj hm (by simp), Sem.run_pure]
          simp
        · simp only [R, Rl]; exact ⟨_, rfl, _, _, rfl, cst_sound m uz, _, _, rfl, rfl, rfl⟩
      | some p =>
        obtain ⟨i, e⟩ := p
        simp only at hs
        obtain ⟨hei, y, hy, hye⟩ := h3 _ rfl
        simp only at hei hy hye
        cases hkb : (keyV key && V.beq key e.key) with
        | false => rw [hkb] at hs; cases hs
        | true =>
          rw [hkb] at hs; cases hs
          simp only [Bool.and_eq_true] at hkb
          have hke := beqV_eq hkb.1 hkb.2
          have hyk : R m key y.key := by rw [hke]; exact hye.1
          have hya : (⟨xs⟩ : Array MapEntry)[i]? = some y := by simpa using hy
          have hyv : (xs.getD i default).val = y.val := by simp [List.getD_eq_getElem?_getD, hy]
          refine ⟨.tuple #[y.val, goInt y.born], _, ?_, map_fr k hb hl (hes.set i (e' := ⟨key, e.val, e.born⟩) (f := fun z => { z with key := ukey }) (fun z hz => by rw [hy] at hz; cases hz; exact ⟨hk, hye.2.1, hye.2.2⟩)), ?_⟩
          · simp only [Instr.mapEntry, Sem.run_bind, run_und hu, Result.andThen_ok, run_getMap hm, h1, h2, Option.map_some, hya, hyv, Option.getD_some, keyStays hkb.1 hyk hk, run_setObj hm (by simp), Sem.run_pure]
            congr 5
            apply Array.toList_inj.1
            simp
          · simp only [R, Rl]; exact ⟨_, rfl, _, _, rfl, hye.2.1, _, _, rfl, by rw [hye.2.2]; rfl, rfl⟩
theorem mapDel_sound {h h' : H} (k : HR m h w) {t kt et : TypeId} {b : Id} {l : Loc} {key v : V} {ukey : Value} {ts : List TypeId} {ty : TypeId} (hu : P.underlying t = some (.map kt et)) (hl : m b = some l) (hk : R m key ukey)
    (hs : mapDel P kt h b key = .ok v h') : v = undefV ∧ ∃ w', (Builtin.delete_ ⟨t :: ts⟩ ty #[.map (some l.blk), ukey]).run P w = .ok (.tuple #[]) w' ∧ Fr m h w m h' w' := by
  unfold mapDel at hs
  cases he : entsOf h b with
  | none => rw [he] at hs; cases hs
  | some p =>
    obtain ⟨es, c⟩ := p
    rw [he] at hs
    simp only at hs
    obtain ⟨l2, xs, hb, hl2, hm, hes⟩ := entsOf_some k he
    rw [hl] at hl2; cases hl2
    cases hf : findEnt P kt h key es with
    | none => rw [hf] at hs; cases hs
    | some r =>
      rw [hf] at hs
      obtain ⟨h1, h2, h3⟩ := findEnt_sound k hk hes hf xs.isEmpty
      have hem : (⟨xs⟩ : Array MapEntry).isEmpty = xs.isEmpty := by cases xs <;> rfl
      cases r with
      | none =>
        simp only at hs
        cases hs
        refine ⟨rfl, _, ?_, map_fr k hb hl hes⟩
        simp [Builtin.delete_, run_und hu, run_getMap hm, hem, h1, h2, run_setObj hm]
      | some p =>
        obtain ⟨i, e⟩ := p
        simp only at hs
        cases hs
        refine ⟨rfl, _, ?_, map_fr k hb hl (hes.del i)⟩
        have : (⟨xs⟩ : Array MapEntry).eraseIdxIfInBounds i = ⟨xs.eraseIdx i⟩ := by
          apply Array.toList_inj.1; simp
        simp [Builtin.delete_, run_und hu, run_getMap hm, hem, h1, h2, run_setObj hm, this]
theorem bornAt_sound {nn : Nat} : ∀ {es : List Ent} {xs : List MapEntry} (i : Nat) {j : Nat} {e : Ent}, EntsR m es xs → bornAt nn es i = some (j, e) →
    i ≤ j ∧ es[j - i]? = some e ∧ (∃ y, xs[j - i]? = some y ∧ EntR m e y) ∧ xs.findIdx? (fun y => (y.born : Int) == (nn : Int)) = some (j - i)
  | [], xs, i, j, e, h, he => by cases he
  | a :: es, xs, i, j, e, h, he => by
    obtain ⟨x, xs, rfl, hx, hxs⟩ := h
    unfold bornAt at he
    cases hb : Nat.beq a.born nn with
    | true =>
      rw [hb] at he; cases he
      have h1 : ((x.born : Int) == (nn : Int)) = true := by rw [hx.2.2, Nat.eq_of_beq_eq_true hb]; simp
      refine ⟨Nat.le_refl _, by simp, ⟨x, by simp, hx⟩, ?_⟩
      simp [List.findIdx?_cons, h1]
    | false =>
      rw [hb] at he
      have h1 : ((x.born : Int) == (nn : Int)) = false := by
        rw [hx.2.2]; simp; intro h; have : a.born = nn := by omega
        subst this; simp at hb
      obtain ⟨i1, i2, ⟨y, i3, i4⟩, i5⟩ := bornAt_sound (i + 1) hxs he
      have e1 : j - i = (j - (i + 1)) + 1 := by omega
      refine ⟨by omega, by rw [e1]; simpa using i2, ⟨y, by rw [e1]; simpa using i3, i4⟩, ?_⟩
      simp only [List.findIdx?_cons, h1, i5, e1]; rfl
theorem entStore_sound {h h' : H} (k : HR m h w) {t : TypeId} {b : Id} {l : Loc} {nn : Nat} {kk : IntKind} {x v : V} {ux : Value} (hl : m b = some l) (hx : R m x ux)
    (hs : entStore h b nn x = .ok v h') : v = undefV ∧ ∃ w', (Instr.entryStore t (.map (some l.blk)) (.int kk (nn : Int)) ux).run P w = .ok () w' ∧ Fr m h w m h' w' := by
  unfold entStore at hs
  cases he : entsOf h b with
  | none => rw [he] at hs; cases hs
  | some p =>
    obtain ⟨es, c⟩ := p
    rw [he] at hs
    simp only at hs
    obtain ⟨l2, xs, hb, hl2, hm, hes⟩ := entsOf_some k he
    rw [hl] at hl2; cases hl2
    cases hf : bornAt nn es 0 with
    | none => rw [hf] at hs; cases hs
    | some p =>
      obtain ⟨i, e⟩ := p
      rw [hf] at hs; cases hs
      obtain ⟨_, i2, ⟨y, i3, i4⟩, i5⟩ := bornAt_sound 0 hes hf
      simp only [Nat.sub_zero] at i2 i3 i5
      refine ⟨rfl, _, ?_, map_fr k hb hl (hes.set i (e' := ⟨e.key, x, e.born⟩) (f := fun z => { z with val := ux }) (fun z hz => by rw [i3] at hz; cases hz; exact ⟨i4.1, hx, i4.2.2⟩))⟩
      have i5' : (⟨xs⟩ : Array MapEntry).findIdx? (fun e => (e.born : Int) == (nn : Int)) = some i := by simpa using i5
      simp only [Instr.entryStore, Sem.run_bind, run_getMap hm, Result.andThen_ok, asInt, asIntOf, Sem.run_pure, i5', run_setObj hm (by simp)]
      congr 5
      apply Array.toList_inj.1
      simp
end Go.Ev
end
section
namespace Go.Ev
open Go
variable {P : Program} {m : Mp} {w : World}

theorem takeL_eq : ∀ (n : Nat) (L r : List (List V)), takeL n L = some r → n ≤ L.length ∧ r = L.take n
  | 0, L, r, h => by
    have : [] = r := Option.some.inj h
    subst this; simp
  | n + 1, [], r, h => by cases h
  | n + 1, a :: L, r, h => by
    have e : takeL (n + 1) (a :: L) = Option.rec (motive := fun _ => Option (List (List V))) none (fun x => some (a :: x)) (takeL n L) := rfl
    rw [e] at h
    cases hx : takeL n L with
    | none => rw [hx] at h; cases h
    | some x =>
      rw [hx] at h; cases h
      obtain ⟨h5, rfl⟩ := takeL_eq n L x hx
      exact ⟨by simp; omega, by simp⟩
theorem dropL_eq : ∀ (n : Nat) (L : List (List V)), dropL n L = L.drop n
  | 0, L => rfl
  | n + 1, [] => rfl
  | n + 1, a :: L => by show dropL n L = _; rw [dropL_eq n L]; rfl
theorem flat_drop {sz : Nat} : ∀ (L : List (List V)) (q : Nat), (∀ el ∈ L, el.length = sz) → (L.drop q).flatten = L.flatten.drop (q * sz)
  | [], q, _ => by simp
  | a :: L, 0, _ => by simp
  | a :: L, q + 1, hL => by
    have ha := hL a (by simp)
    have e1 : (a ++ L.flatten).drop ((q + 1) * sz) = L.flatten.drop (q * sz) := by
      rw [List.drop_append, List.drop_eq_nil_of_le (by rw [ha, Nat.succ_mul]; omega), List.nil_append]
      congr 1; rw [ha, Nat.succ_mul]; omega
    rw [List.drop_succ_cons, flat_drop L q (fun el he => hL el (by simp [he])), List.flatten_cons, e1]
theorem flat_take {sz : Nat} : ∀ (L : List (List V)) (q : Nat), (∀ el ∈ L, el.length = sz) → (L.take q).flatten = L.flatten.take (q * sz)
  | [], q, _ => by simp
  | a :: L, 0, _ => by simp
  | a :: L, q + 1, hL => by
    have ha := hL a (by simp)
    have e1 : (a ++ L.flatten).take ((q + 1) * sz) = a ++ L.flatten.take (q * sz) := by
      rw [List.take_append, List.take_of_length_le (by rw [ha, Nat.succ_mul]; omega)]
      congr 2; rw [ha, Nat.succ_mul]; omega
    rw [List.take_succ_cons, List.flatten_cons, flat_take L q (fun el he => hL el (by simp [he])), List.flatten_cons, e1]
/-- some elements of a block: their cells -/
theorem els_spec {sz o len : Nat} {l : Loc} {els0 : List (List V)} {ro : Rw} {C : Array Value} {t : TypeId} {fz : Nat × Nat} (hc : CellsAt m w l sz els0 ro C t fz) (ho : o % sz = 0)
    (hle : len ≤ (els0.drop (o / sz)).length) :
    ∃ us, (∀ el ∈ (els0.drop (o / sz)).take len, el.length = sz) ∧ ((els0.drop (o / sz)).take len).length = len ∧ us.length = len * sz ∧ Rl m ((els0.drop (o / sz)).take len).flatten us ∧ (∀ x ∈ us, scalar x) ∧
      (∀ (j : Nat) v, us[j]? = some v → C[l.base + o + j]? = some v) := by
  have heach : ∀ el ∈ (els0.drop (o / sz)).take len, el.length = sz := fun el hel => hc.each el (List.mem_of_mem_drop (List.mem_of_mem_take hel))
  have hlen : ((els0.drop (o / sz)).take len).length = len := by rw [List.length_take]; omega
  have hq : o / sz * sz = o := by have := Nat.div_add_mod o sz; rw [Nat.mul_comm, ho] at this; simpa using this
  have hflat : ((els0.drop (o / sz)).take len).flatten = (els0.flatten.drop o).take (len * sz) := by
    rw [flat_take _ _ (fun el hel => hc.each el (List.mem_of_mem_drop hel)), flat_drop _ _ hc.each, hq]
  have hfl := flat_len heach
  rw [hlen] at hfl
  have hcell : ∀ j, j < len * sz → ∃ v u, ((els0.drop (o / sz)).take len).flatten[j]? = some v ∧ C[l.base + o + j]? = some u ∧ R m v u ∧ scalar u := by
    intro j hj
    have hv : ∃ v, ((els0.drop (o / sz)).take len).flatten[j]? = some v := ⟨_, List.getElem?_eq_getElem (by rw [hfl]; exact hj)⟩
    obtain ⟨v, hv⟩ := hv
    have hv2 := hv
    rw [hflat, List.getElem?_take_of_lt hj, List.getElem?_drop] at hv2
    obtain ⟨u, h1, h2, h3⟩ := hc.val _ _ hv2
    exact ⟨v, u, hv, by rw [Nat.add_assoc]; exact h1, h2, h3⟩
  refine ⟨(List.range (len * sz)).map (fun j => (C[l.base + o + j]?).getD undef), heach, hlen, by simp, ?_, ?_, ?_⟩
  · refine Rl.mk (by rw [hfl]; simp) ?_
    intro j v u hv hu
    have hj : j < len * sz := by have := (List.getElem?_eq_some_iff.1 hv).1; rw [hfl] at this; exact this
    obtain ⟨v', u', hv', hu', hR, _⟩ := hcell j hj
    rw [hv] at hv'; cases hv'
    simp only [List.getElem?_map, List.getElem?_range hj, Option.map_some, Option.some.injEq] at hu
    rw [hu'] at hu; subst hu; exact hR
  · intro x hx
    simp only [List.mem_map, List.mem_range] at hx
    obtain ⟨j, hj, rfl⟩ := hx
    obtain ⟨v', u', _, hu', _, hs⟩ := hcell j hj
    rw [hu']; exact hs
  · intro j v hv
    have hj : j < len * sz := by have := (List.getElem?_eq_some_iff.1 hv).1; simpa using this
    obtain ⟨v', u', _, hu', _, _⟩ := hcell j hj
    simp only [List.getElem?_map, List.getElem?_range hj, Option.map_some, Option.some.injEq] at hv
    rw [hu'] at hv; simp at hv; subst hv; exact hu'
theorem byteInts_spec : ∀ (s : List UInt8), (byteInts (s.map UInt8.toNat)).length = s.length ∧ (∀ el ∈ byteInts (s.map UInt8.toNat), el.length = 1) ∧
    Rl m (byteInts (s.map UInt8.toNat)).flatten (s.map fun b => .int .u8 b.toNat)
  | [] => by simp [byteInts, Rl]
  | b :: s => by
    obtain ⟨h1, h2, h3⟩ := byteInts_spec s
    refine ⟨by simp [byteInts, h1], ?_, ?_⟩
    · intro el hel
      simp only [List.map_cons, byteInts, List.mem_cons] at hel
      rcases hel with rfl | hel
      · rfl
      · exact h2 el hel
    · simp only [List.map_cons, byteInts, List.flatten_cons, List.cons_append, List.nil_append, Rl]
      exact ⟨_, _, rfl, by simp [R], h3⟩
/-- what is appended or copied: its elements, and how the model reads them -/
theorem elems_sound {h : H} (k : HR m h w) {sz : Nat} {x : V} {u : Value} {els : List (List V)} (hx : R m x u) (he : elemsOf h (sz + 1) x = some els) :
    ∃ us, (∀ el ∈ els, el.length = sz + 1) ∧ us.length = els.length * (sz + 1) ∧ Rl m els.flatten us ∧ (∀ y ∈ us, scalar y) ∧ (Builtin.lenOf u).run P w = .ok els.length w ∧
      ∀ n, n ≤ els.length → (Builtin.firstCells (sz + 1) n u).run P w = .ok ⟨us.take (n * (sz + 1))⟩ w := by
  unfold elemsOf at he
  split at he
  · cases he
    simp only [R] at hx; subst hx
    exact ⟨[], by simp, by simp, by simp [Rl], by simp, by simp [Builtin.lenOf], fun n hn => by simp [Builtin.firstCells]⟩
  · cases he
    simp only [R] at hx; obtain ⟨a, cap, rfl⟩ := hx
    refine ⟨[], by simp, by simp, by simp [Rl], by simp, by simp [Builtin.lenOf], fun n hn => ?_⟩
    have : n = 0 := by simpa using hn
    subst this
    simp [Builtin.firstCells, loadCells, loadCellsFrom]
  · rename_i b o len z
    split at he
    · rename_i sz' els0 f ro hb
      cases hc : (Nat.beq (sz + 1) sz' && Nat.beq (Nat.mod o (sz + 1)) 0) with
      | false => rw [hc] at he; cases he
      | true =>
        rw [hc] at he
        simp only [cond_true] at he
        simp only [Bool.and_eq_true] at hc
        have h1 := Nat.eq_of_beq_eq_true hc.1; subst h1
        have h2 : o % (sz + 1) = 0 := Nat.eq_of_beq_eq_true hc.2
        obtain ⟨l, hl, C, t, fz, hcs⟩ := k.obj _ _ hb
        rw [dropL_eq] at he
        obtain ⟨h5, rfl⟩ := takeL_eq _ _ _ he
        obtain ⟨us, e1, e2, e3, e4, e5, e6⟩ := els_spec hcs h2 h5
        simp only [R] at hx; obtain ⟨l2, cap, hl2, rfl, hlc, hlim⟩ := hx
        rw [hl] at hl2; cases hl2
        refine ⟨us, e1, ?_, e4, e5, ?_, ?_⟩
        · rw [e3]; congr 1; exact e2.symm
        · simp only [Builtin.lenOf, Sem.run_pure]; congr 1; exact e2.symm
        · intro n hn
          have hn' : n ≤ len := by have h6 : ((els0.drop (Nat.div o (sz + 1))).take len).length = len := e2; rw [h6] at hn; exact hn
          have hrun := run_loadCells_list (P := P) (w := w) ⟨l.blk, l.base + o, none⟩ (us.take (n * (sz + 1))) (fun j v hv => by
            rw [addr_add, cell_of hcs.at_]
            rw [List.getElem?_take] at hv
            split at hv
            · exact e6 j v hv
            · cases hv)
          have hl3 : (us.take (n * (sz + 1))).length = n * (sz + 1) := by
            rw [List.length_take, e3]
            exact Nat.min_eq_left (Nat.mul_le_mul_right _ hn')
          rw [hl3] at hrun
          simp only [Builtin.firstCells]
          simpa using hrun
    · cases he
  · rename_i l c
    cases hz : Nat.beq (sz + 1) 1 with
    | false => rw [hz] at he; cases he
    | true =>
    rw [hz] at he
    simp only [cond_true, Option.some.injEq] at he
    subst he
    have hz1 := Nat.eq_of_beq_eq_true hz
    have : sz = 0 := by omega
    subst this
    rw [R_str] at hx; obtain ⟨s, rfl, hb, _⟩ := hx
    rw [← hb]
    obtain ⟨h1, h2, h3⟩ := byteInts_spec (m := m) s.data.toList
    have hsz : s.data.toList.length = s.size := by rw [Array.length_toList]; rfl
    have h1' : (byteInts (bytesIn s)).length = s.size := by rw [← hsz]; exact h1
    refine ⟨s.data.toList.map (fun b : UInt8 => (Value.int .u8 ((b.toNat : Nat) : Int))), h2, by rw [h1']; simp [hsz], h3, by simp [scalar], ?_, ?_⟩
    · rw [h1']; simp [Builtin.lenOf]
    · intro n hn
      simp only [Builtin.firstCells, Sem.run_pure]
      congr 1
      apply Array.toList_inj.1
      obtain ⟨⟨sl⟩⟩ := s
      have := ByteArray.extract_mk sl 0 n
      rw [show (ByteArray.mk ⟨sl⟩).extract 0 n = (ByteArray.mk sl.toArray).extract 0 n from rfl, this]
      simp
  · cases he
end Go.Ev
end
section
namespace Go.Ev
open Go
variable {P : Program} {m : Mp} {w : World}

theorem upTo_spec (b : Id) : ∀ (l : List Id), (∀ x ∈ (upTo b l).1, x ≠ b ∧ x ∈ l) ∧ (∀ x ∈ (upTo b l).2, x ∈ l) ∧ (∀ x ∈ l, x ≠ b → x ∈ (upTo b l).1 ∨ x ∈ (upTo b l).2) ∧ (b ∈ l → ∃ pre, l = pre ++ b :: (upTo b l).2) ∧ (b ∉ l → (upTo b l).2 = [])
  | [] => by simp [upTo]
  | x :: l => by
    obtain ⟨h1, h2, h3, h4, h5⟩ := upTo_spec b l
    cases e : Id.beq x b with
    | true =>
      have := Id.beq_iff.1 e; subst this
      simp only [upTo, e, cond_true]
      refine ⟨by simp, fun y hy => by simp [hy], fun y hy hne => ?_, fun _ => ⟨[], rfl⟩, fun h => absurd (by simp) h⟩
      simp only [List.mem_cons] at hy
      rcases hy with rfl | hy
      · exact absurd rfl hne
      · exact .inr hy
    | false =>
      have hne : x ≠ b := fun h => by rw [Id.beq_iff.2 h] at e; cases e
      simp only [upTo, e, cond_false]
      refine ⟨?_, fun y hy => by simp [h2 y hy], ?_, ?_, ?_⟩
      · intro y hy
        simp only [List.mem_cons] at hy ⊢
        rcases hy with rfl | hy
        · exact ⟨hne, .inl rfl⟩
        · exact ⟨(h1 y hy).1, .inr (h1 y hy).2⟩
      · intro y hy hyb
        simp only [List.mem_cons] at hy ⊢
        rcases hy with rfl | hy
        · exact .inl (.inl rfl)
        · rcases h3 y hy hyb with h | h
          · exact .inl (.inr h)
          · exact .inr h
      · intro hb
        simp only [List.mem_cons] at hb
        rcases hb with rfl | hb
        · exact absurd rfl hne
        · obtain ⟨pre, hpre⟩ := h4 hb
          exact ⟨x :: pre, by simp [← hpre]⟩
      · intro hb
        exact h5 (fun h => hb (by simp [h]))
/-- GROWN: behind block b a new one, in the same place or in a new one. -/
theorem grown_fr {h h' : H} (k : HR m h w) {b f : Id} {sz len q tg : Nat} {els old new : List (List V)} {l : Loc} {v : V} (hb : mget b h.mem = some (.cells sz els f (.rw tg))) (hl : m b = some l)
    (hq : q + len = els.length) (hold : old = els.drop q) (hg : grown tg sz b f len old new h = .ok v h') (hne : ∀ el ∈ new, el.length = sz)
    {C' : Array Value} {t : TypeId} {fz' : Nat × Nat} {w' : World} {l' : Loc}
    (hw : (w' = { w with heap := w.heap.setIfInBounds l.blk (.cells C' t fz') } ∧ l' = ⟨l.blk, l.base + q * sz, l.lim - q * sz⟩ ∧ (∃ C fz, w.heap[l.blk]? = some (.cells C t fz') ∧ CellsAt m w l sz els (.rw tg) C t fz ∧ fz = fz' ∧ C'.size = C.size ∧
        (∀ j, j < l.base + els.flatten.length → C'[j]? = C[j]?))) ∨
      (w' = { w with heap := w.heap.push (.cells C' t fz') } ∧ l' = ⟨w.heap.size, 0, C'.size⟩))
    (hat : ∀ m2 : Mp, m.le m2 → w'.heap[l'.blk]? = some (.cells C' t fz') → CellsAt m2 w' l' sz (old ++ new) (.rw tg) C' t fz') :
    ∃ m', Fr m h w m' h' w' ∧ m' h.next = some l' ∧ v = .sl h.next 0 (len + new.length) sz := by
  obtain ⟨mem, fams, next⟩ := h
  unfold grown at hg
  simp only at hg
  cases hs : next.succ with
  | none => rw [hs] at hg; cases hg
  | some nx =>
    rw [hs] at hg
    simp only at hg
    obtain ⟨u1, u2, u3, u4, u5⟩ := upTo_spec b (fget f fams)
    generalize hut : upTo b (fget f fams) = ut at hg u1 u2 u3 u4 u5
    obtain ⟨dead, rest⟩ := ut
    simp only at hg u1 u2 u3 u4 u5
    cases hg
    rw [appL_eq, lenL_eq]
    have hno : m next = none := by
      cases e : m next with
      | none => rfl
      | some l0 => exact absurd (k.dom _ _ e) (Nat.lt_irrefl _)
    have hle : m.le (fun x => if x = next then some l' else m x) := by
      intro x lx hx
      have : x ≠ next := fun e => by rw [e, hno] at hx; cases hx
      simp [this, hx]
    have hnx := Id.succ_toNat hs
    have hbn : b.toNat < next.toNat := k.dom _ _ hl
    have hmem : ∀ x ox, mget x (mput next (some (.cells sz (old ++ new) f (.rw tg))) (killM dead mem)) = some ox → (x = next ∧ ox = .cells sz (old ++ new) f (.rw tg)) ∨ (x ≠ next ∧ x ∉ dead ∧ mget x mem = some ox) := by
      intro x ox hx
      by_cases e : x = next
      · subst e; rw [mget_mput] at hx; exact .inl ⟨rfl, (Option.some.inj hx).symm⟩
      · rw [mget_mput_ne e, mget_killM] at hx
        split at hx
        · cases hx
        · exact .inr ⟨e, by assumption, hx⟩
    obtain ⟨lb, hlb, C0, t0, fz0, hcb⟩ := k.obj _ _ hb
    have hlb : lb = l := by have : m b = some lb := hlb; rw [hl] at this; cases this; rfl
    subst hlb
    have hblt := k.lt _ _ hl
    -- who lies in b's block ends no further than b
    have star : ∀ y sz' els' f' ro' ly, y ∉ dead → mget y mem = some (.cells sz' els' f' ro') → m y = some ly → ly.blk = lb.blk → ly.base + els'.flatten.length ≤ lb.base + els.flatten.length := by
      intro y sz' els' f' ro' ly hd hy hly heq
      by_cases e : y = b
      · subst e
        have h1 : mget y mem = some (.cells sz els f (.rw tg)) := hb
        rw [h1] at hy; cases hy
        rw [hl] at hly; cases hly; exact Nat.le_refl _
      · have hf : f' = f := k.sep y b _ _ ly lb hy hb hly hl e heq
        subst hf
        have hyf : y ∈ fget f' fams := k.fam y b _ _ _ _ _ _ _ hy hb e
        have hyb : b ∈ fget f' fams := k.fam b y _ _ _ _ _ _ _ hb hy (Ne.symm e)
        have hyr : y ∈ rest := by
          rcases u3 y hyf e with h1 | h1
          · exact absurd h1 hd
          · exact h1
        obtain ⟨pre, hpre⟩ := u4 hyb
        have ho := k.ord f'
        have ho' : (pre ++ b :: rest).Pairwise (EndLe m mem) := by rw [← hpre]; exact ho
        have := (List.pairwise_append.1 ho').2.1
        have := (List.pairwise_cons.1 this).1 y hyr
        exact this _ _ _ _ _ _ _ _ _ _ hb hy hl hly heq.symm
    have hend : ∀ (hA : l'.blk = lb.blk), lb.base + els.flatten.length ≤ l'.base + (old ++ new).flatten.length := by
      intro hA
      rcases hw with ⟨_, hl', _⟩ | ⟨_, hl'⟩
      · subst hl'
        have h1 := flat_len hcb.each
        have h2 : (old ++ new).flatten.length = old.flatten.length + new.flatten.length := by simp
        have h3 : old.flatten.length = els.flatten.length - q * sz := by
          rw [hold, flat_drop _ _ hcb.each, List.length_drop]
        have h4 : q * sz ≤ els.flatten.length := by rw [h1]; exact Nat.mul_le_mul_right _ (by omega)
        show lb.base + els.flatten.length ≤ lb.base + q * sz + (old ++ new).flatten.length
        omega
      · subst hl'
        have : w.heap.size = lb.blk := hA
        omega
    have hatw : w'.heap[l'.blk]? = some (.cells C' t fz') := by
      rcases hw with ⟨rfl, rfl, _⟩ | ⟨rfl, rfl⟩
      · simp [hblt]
      · simp
    have hoth : ∀ B, B < w.heap.size → B ≠ lb.blk → w'.heap[B]? = w.heap[B]? := by
      intro B hB hne
      rcases hw with ⟨rfl, _, _⟩ | ⟨rfl, _⟩
      · simp [Array.getElem?_setIfInBounds, Ne.symm hne]
      · exact heap_push_old _ hB
    have hsize : w.heap.size ≤ w'.heap.size ∧ l'.blk < w'.heap.size := by
      rcases hw with ⟨rfl, rfl, _⟩ | ⟨rfl, rfl⟩
      · simp [hblt]
      · simp
    have hblk : l'.blk = lb.blk ∨ l'.blk = w.heap.size := by
      rcases hw with ⟨_, rfl, _⟩ | ⟨_, rfl⟩
      · exact .inl rfl
      · exact .inr rfl
    refine ⟨_, ⟨hle, ⟨?_, ?_, ?_, ?_, ?_, ?_, ?_, ?_⟩, hsize.1, ?_, ?_, ?_, ?_, ?_, ?_, by show next.toNat ≤ nx.toNat; omega, fun x sz1 els1 f1 ro1 hx => by
      rcases hmem x _ hx with ⟨rfl, e⟩ | ⟨_, _, hx1⟩
      · cases e; exact .inr ⟨b, _, _, _, hb⟩
      · exact .inr ⟨x, sz1, els1, ro1, hx1⟩⟩, by simp, rfl⟩
    · -- obj
      intro x ox hx
      rcases hmem x ox hx with ⟨rfl, rfl⟩ | ⟨hne, hd, hx1⟩
      · exact ⟨l', by simp, C', t, fz', hat _ hle hatw⟩
      · clear hx
        have hx := hx1
        obtain ⟨lx, hlx, ho⟩ := k.obj x ox hx
        refine ⟨lx, by simp [hne, hlx], ?_⟩
        have hltx := k.lt _ _ hlx
        by_cases hB : lx.blk = lb.blk
        · -- in b's block
          rcases hw with ⟨hw1, hl1, C, fz, hC, hCA, hfz, hsz, hsame⟩ | ⟨hw1, hl1⟩
          · by_cases hxb : ∃ sz' els' f' ro', ox = .cells sz' els' f' ro'
            · obtain ⟨sz', els', f', ro', rfl⟩ := hxb
              obtain ⟨Cx, tx, fzx, hcx⟩ := ho
              have hhx := hcx.at_
              rw [hB, hC] at hhx
              have hC1 : C = Cx ∧ t = tx ∧ fz' = fzx := by
                injection hhx with e; injection e with e1 e2 e3
                exact ⟨e1, e2, e3⟩
              obtain ⟨hC1, hT1, hF1⟩ := hC1
              have hst := star x _ _ _ _ lx hd hx hlx hB
              have hatx : w'.heap[lx.blk]? = some (.cells C' t fz') := by rw [hB, ← hatw, hl1]
              subst hC1
              subst hT1
              subst hF1
              refine ⟨C', t, fz', ⟨hatx, by rw [hsz]; exact hcx.room, hcx.len, hcx.each, ?_, hcx.free, hcx.plain, hcx.typ, hcx.al⟩⟩
              intro i v hv
              obtain ⟨u, h1, h2, h3⟩ := hcx.val i v hv
              have hi := (List.getElem?_eq_some_iff.1 hv).1
              exact ⟨u, by rw [hsame _ (by omega)]; exact h1, h2.mono hle, h3⟩
            · exfalso
              by_cases e : x = b
              · subst e
                have h1 : mget x mem = some (.cells sz els f (.rw tg)) := hb
                rw [h1] at hx; cases hx
                exact hxb ⟨_, _, _, _, rfl⟩
              · have := k.sep x b ox _ lx lb hx hb hlx hl e hB
                cases ox with
                | cells sz' els' f' ro' => exact hxb ⟨_, _, _, _, rfl⟩
                | map _ _ => exact this
                | siter _ _ _ => exact this
                | miter _ _ _ _ => exact this
          · subst hw1
            exact ho.keep hle (heap_push_old _ hltx)
        · exact ho.keep hle (hoth _ hltx hB)
    · -- dom
      intro x lx hx
      show x.toNat < nx.toNat
      by_cases e : x = next
      · subst e; omega
      · simp [e] at hx; have := k.dom _ _ hx; have h9 : x.toNat < next.toNat := this; omega
    · -- sep
      intro x y ox oy lx ly hx hy hlx hly hne heq
      rcases hmem x ox hx with ⟨rfl, rfl⟩ | ⟨hn1, hd1, hx1⟩ <;> rcases hmem y oy hy with ⟨rfl, rfl⟩ | ⟨hn2, hd2, hy1⟩
      · exact absurd rfl hne
      · simp at hlx; simp [hn2] at hly; subst hlx
        have := k.lt _ _ hly
        rcases hblk with hA | hA
        · by_cases e : y = b
          · subst e
            have h1 : mget y mem = some (.cells sz els f (.rw tg)) := hb
            rw [h1] at hy1; cases hy1; exact rfl
          · have hs2 := k.sep y b oy _ ly lb hy1 hb hly hl e (by rw [← heq, hA])
            cases oy with
            | cells sz' els' f' ro' => exact (show f' = f from hs2).symm
            | map _ _ => exact hs2
            | siter _ _ _ => exact hs2
            | miter _ _ _ _ => exact hs2
        · omega
      · simp at hly; simp [hn1] at hlx; subst hly
        have := k.lt _ _ hlx
        rcases hblk with hA | hA
        · by_cases e : x = b
          · subst e
            have h1 : mget x mem = some (.cells sz els f (.rw tg)) := hb
            rw [h1] at hx1; cases hx1; exact rfl
          · have hs2 := k.sep x b ox _ lx lb hx1 hb hlx hl e (by rw [heq, hA])
            cases ox with
            | cells sz' els' f' ro' => exact (show f' = f from hs2)
            | map _ _ => exact hs2
            | siter _ _ _ => exact hs2
            | miter _ _ _ _ => exact hs2
        · omega
      · simp [hn1] at hlx; simp [hn2] at hly
        exact k.sep x y ox oy lx ly hx1 hy1 hlx hly hne heq
    · -- fam
      intro x y sz1 els1 f1 ro1 sz2 els2 ro2 hx hy hne
      show x ∈ fget f1 (fput f (next :: b :: rest) fams)
      by_cases hf : f1 = f
      · subst hf
        rw [fget_fput]
        rcases hmem x _ hx with ⟨rfl, _⟩ | ⟨hn1, hd1, hx1⟩
        · simp
        · by_cases e : x = b
          · subst e; simp
          · have hxf : x ∈ fget f1 fams := k.fam x b _ _ _ _ _ _ _ hx1 hb e
            rcases u3 x hxf e with h1 | h1
            · exact absurd h1 hd1
            · simp [h1]
      · rw [fget_fput_ne hf]
        rcases hmem x _ hx with ⟨rfl, e1⟩ | ⟨hn1, hd1, hx1⟩
        · cases e1; exact absurd rfl hf
        · rcases hmem y _ hy with ⟨rfl, e2⟩ | ⟨hn2, hd2, hy1⟩
          · cases e2; exact absurd rfl hf
          · exact k.fam x y _ _ _ _ _ _ _ hx1 hy1 hne
    · -- ord
      intro f1
      show (fget f1 (fput f (next :: b :: rest) fams)).Pairwise _
      have trans : ∀ x y, x ≠ next → y ≠ next → EndLe m mem x y → EndLe (fun x => if x = next then some l' else m x) (mput next (some (.cells sz (old ++ new) f (.rw tg))) (killM dead mem)) x y := by
        intro x y hxn hyn hxy sz1 els1 f1 ro1 sz2 els2 f2 ro2 l1 l2 hx hy hl1 hl2 heq
        rcases hmem x _ hx with ⟨e, _⟩ | ⟨_, _, hx1⟩
        · exact absurd e hxn
        · rcases hmem y _ hy with ⟨e, _⟩ | ⟨_, _, hy1⟩
          · exact absurd e hyn
          · simp [hxn] at hl1; simp [hyn] at hl2
            exact hxy _ _ _ _ _ _ _ _ _ _ hx1 hy1 hl1 hl2 heq
      have notnext : ∀ f2 x, x ∈ fget f2 fams → x ≠ next := fun f2 x hx e => by
        have := k.flt f2 x hx; subst e; exact absurd this (Nat.lt_irrefl _)
      have lift : ∀ L : List Id, (∀ x ∈ L, x ≠ next) → L.Pairwise (EndLe m mem) → L.Pairwise (EndLe (fun x => if x = next then some l' else m x) (mput next (some (.cells sz (old ++ new) f (.rw tg))) (killM dead mem))) := by
        intro L hL hp
        exact hp.imp_of_mem (fun hx hy h => trans _ _ (hL _ hx) (hL _ hy) h)
      by_cases hf : f1 = f
      · subst hf
        rw [fget_fput]
        have hbr : (b :: rest).Pairwise (EndLe m mem) := by
          by_cases hbm : b ∈ fget f1 fams
          · obtain ⟨pre, hpre⟩ := u4 hbm
            have ho := k.ord f1
            have ho' : (pre ++ b :: rest).Pairwise (EndLe m mem) := by rw [← hpre]; exact ho
            exact (List.pairwise_append.1 ho').2.1
          · rw [u5 hbm]; simp
        have hbn' : b ≠ next := fun e => by subst e; exact absurd hbn (Nat.lt_irrefl _)
        have hrn : ∀ x ∈ b :: rest, x ≠ next := by
          intro x hx
          simp only [List.mem_cons] at hx
          rcases hx with rfl | hx
          · exact hbn'
          · exact notnext f1 x (u2 x hx)
        refine List.pairwise_cons.2 ⟨?_, lift _ hrn hbr⟩
        intro y hy sz1 els1 f2 ro1 sz2 els2 f3 ro2 l1 l2 hx hy2 hl1 hl2 heq
        rcases hmem next _ hx with ⟨_, e1⟩ | ⟨hn, _, _⟩
        · cases e1
          have hyn := hrn y hy
          rcases hmem y _ hy2 with ⟨e, _⟩ | ⟨_, hd, hy1⟩
          · exact absurd e hyn
          · simp at hl1; subst hl1
            simp [hyn] at hl2
            have hlt2 := k.lt _ _ hl2
            rcases hblk with hA | hA
            · have h1 := star y _ _ _ _ l2 hd hy1 hl2 (by rw [← heq, hA])
              have h2 := hend hA
              omega
            · omega
        · exact absurd rfl hn
      · rw [fget_fput_ne hf]
        exact lift _ (fun x hx => notnext f1 x hx) (k.ord f1)
    · -- lt
      intro x lx hx
      by_cases e : x = next
      · subst e; simp at hx; subst hx; exact hsize.2
      · simp [e] at hx; have := k.lt _ _ hx; omega
    · -- famlt
      intro x sz1 els1 f1 ro1 hx
      show f1.toNat < nx.toNat
      have hfb : f.toNat < next.toNat := k.famlt _ _ _ _ _ hb
      rcases hmem x _ hx with ⟨rfl, e1⟩ | ⟨_, _, hx1⟩
      · cases e1; omega
      · have : f1.toNat < next.toNat := k.famlt _ _ _ _ _ hx1; omega
    · -- flt
      intro f1 x hx
      show x.toNat < nx.toNat
      have hx' : x ∈ fget f1 (fput f (next :: b :: rest) fams) := hx
      by_cases hf : f1 = f
      · subst hf
        rw [fget_fput] at hx'
        simp only [List.mem_cons] at hx'
        rcases hx' with rfl | rfl | hx'
        · omega
        · omega
        · have : x.toNat < next.toNat := k.flt f1 x (u2 x hx'); omega
      · rw [fget_fput_ne hf] at hx'
        have : x.toNat < next.toNat := k.flt f1 x hx'; omega
    · -- keep
      intro B hB hn
      refine hoth B hB ?_
      rintro rfl
      exact hn ⟨b, _, lb, hb, hl, rfl, by simp [writable]⟩
    · rcases hw with ⟨rfl, _⟩ | ⟨rfl, _⟩ <;> rfl
    · rcases hw with ⟨rfl, _⟩ | ⟨rfl, _⟩ <;> rfl
    · rcases hw with ⟨rfl, _⟩ | ⟨rfl, _⟩ <;> rfl
    · -- back
      intro x ox lx hx hlx
      rcases hmem x ox hx with ⟨rfl, rfl⟩ | ⟨hne, hd, hx1⟩
      · simp at hlx; subst hlx
        rcases hblk with hA | hA
        · exact .inr ⟨b, _, lb, hb, hl, hA.symm, fun _ => by simp [writable]⟩
        · exact .inl (by omega)
      · simp [hne] at hlx
        exact .inr ⟨x, ox, lx, hx1, hlx, rfl, id⟩
    · -- old
      intro x lx hx hlt
      have : x ≠ next := fun e => by subst e; exact absurd hlt (Nat.lt_irrefl _)
      simpa [this] using hx
end Go.Ev
end
section
namespace Go.Ev
open Go
variable {P : Program} {m : Mp} {w : World}

theorem growBy_le {need : Nat} : ∀ (r c : Nat), c ≤ 2 * need + 768 → Builtin.growBy need r c ≤ 2 * need + 768
  | 0, c, h => h
  | r + 1, c, h => by
    simp only [Builtin.growBy]
    split
    · exact h
    · exact growBy_le r _ (by omega)
theorem nextcap_le {need cap : Nat} (h : cap < need) : Builtin.nextslicecap need cap ≤ 2 * need + 768 := by
  unfold Builtin.nextslicecap
  split
  · omega
  · split
    · omega
    · exact growBy_le _ _ (by omega)
theorem run_append_room {ts : Array TypeId} {t t2 ty el : TypeId} {u2 : TypeDesc} {inf : TypeInfo} {x : Value} {base : Option Addr} {len cap n : Nat} {news : Array Value} (h0 : ts[0]? = some t) (h1 : ts[1]? = some t2)
    (hu : P.underlying t = some (.slice el)) (hu2 : P.underlying t2 = some u2) (hni : ∀ k, u2 ≠ .int k) (hi : P.info? el = some inf) (hlen : (Builtin.lenOf x).run P w = .ok n w)
    (hle : len + n ≤ cap) (hf : (Builtin.firstCells inf.size n x).run P w = .ok news w) :
    (Builtin.append_ ts ty #[.slice base len cap, x]).run P w = match (match base with | some a => (storeCells (a.add (len * inf.size)) news.toList).run P w | none => .ok () w : Result Unit) with
      | .ok _ w' => .ok (.slice base (len + n) cap) w'
      | .halt h w' => .halt h w' := by
  unfold Builtin.append_
  have hz : (match u2 with | .int _ => true | _ => false) = false := by cases u2 <;> first | rfl | exact absurd rfl (hni _)
  cases base <;> simp [h0, h1, run_underlying hu, run_underlying hu2, sizeOf, typeInfo, hi, hz, hlen, hle, hf]
  cases (storeCells _ news.toList).run P w <;> rfl
theorem run_append_grow {ts : Array TypeId} {t t2 ty el : TypeId} {u2 : TypeDesc} {inf : TypeInfo} {z x : Value} {base : Option Addr} {len cap n : Nat} {olds news : Array Value} (h0 : ts[0]? = some t) (h1 : ts[1]? = some t2)
    (hu : P.underlying t = some (.slice el)) (hu2 : P.underlying t2 = some u2) (hni : ∀ k, u2 ≠ .int k) (hi : P.info? el = some inf) (hz : inf.zero = some z) (hlen : (Builtin.lenOf x).run P w = .ok n w)
    (hle : cap < len + n) (hsm : len + n ≤ 2000000) (hby : inf.bytes ≤ 1000000)
    (hf0 : (Builtin.firstCells inf.size len (.slice base len cap)).run P w.drew = .ok olds w.drew)
    (hf : (Builtin.firstCells inf.size n x).run P w.drew = .ok news w.drew) :
    ∃ nc, len + n ≤ nc ∧ (Builtin.append_ ts ty #[.slice base len cap, x]).run P w = .ok (.slice (some ⟨w.heap.size, 0, none⟩) (len + n) nc)
      { w.drew with heap := w.drew.heap.push (.cells (olds ++ news ++ Builtin.zeroCells z.cells (nc - (len + n))) el (0, 0)) } := by
  refine ⟨(Question.appendCap (len + n) cap el).cut (w.tape w.drawn (.appendCap (len + n) cap el)), by simp [Question.cut], ?_⟩
  unfold Builtin.append_
  have hzr : (match u2 with | .int _ => true | _ => false) = false := by cases u2 <;> first | rfl | exact absurd rfl (hni _)
  have h48 : ¬ (281474976710656 < Builtin.nextslicecap (len + n) cap * inf.bytes) := by
    have h2 := Nat.mul_le_mul (nextcap_le hle) hby
    omega
  have hi64 : ¬ (9223372036854775807 < ((len : Int) + (n : Int))) := by omega
  have hle' : ¬ (len + n ≤ cap) := by omega
  simp [h0, h1, run_underlying hu, run_underlying hu2, sizeOf, typeInfo, hi, hzr, hlen, hle', hf, hf0, h48, hi64, zeroValue, hz, newRow, askRoom, Question.forced]
  rfl
end Go.Ev
end
section
namespace Go.Ev
open Go
variable {P : Program} {m : Mp} {w : World}

/-- what is known of the elements that are appended or copied -/
structure ElsAt (P : Program) (m : Mp) (w : World) (S : Nat) (new : List (List V)) (uy : Value) (us : List Value) : Prop where
  each : ∀ el ∈ new, el.length = S
  len : us.length = new.length * S
  rel : Rl m new.flatten us
  sc : ∀ y ∈ us, scalar y
  lenOf : (Builtin.lenOf uy).run P w = .ok new.length w
  first : (Builtin.firstCells S new.length uy).run P w = .ok ⟨us⟩ w
theorem elsAt {h : H} (k : HR m h w) {sz : Nat} {x : V} {u : Value} {els : List (List V)} (hx : R m x u) (he : elemsOf h (sz + 1) x = some els) : ∃ us, ElsAt P m w (sz + 1) els u us := by
  obtain ⟨us, h1, h2, h3, h4, h5, h6⟩ := elems_sound (P := P) k hx he
  refine ⟨us, h1, h2, h3, h4, h5, ?_⟩
  rw [h6 _ (Nat.le_refl _), ← h2, List.take_length]
/-- the types of an append -/
structure AppTy (P : Program) (ts : Array TypeId) (S : Nat) (el : TypeId) (inf : TypeInfo) (z : Value) : Prop where
  ty : ∃ t t2 u2, ts[0]? = some t ∧ ts[1]? = some t2 ∧ P.underlying t = some (.slice el) ∧ P.underlying t2 = some u2 ∧ (∀ k, u2 ≠ .int k)
  info : P.info? el = some inf
  zero : inf.zero = some z
  size : inf.size = S
  zs : z.cells.size = S
  bytes : inf.bytes ≤ 1000000
theorem append_sl {h h' : H} (k : HR m h w) {b f : Id} {S len q cap : Nat} {els old new : List (List V)} {l : Loc} {v : V} {ts : Array TypeId} {ty el : TypeId} {inf : TypeInfo} {z uy : Value} {us us2 : List Value}
    (T : AppTy P ts S el inf z) (hS : 0 < S) (hb : mget b h.mem = some (.cells S els f (.rw el))) (hl : m b = some l) (hq : q + len = els.length) (hold : old = els.drop q) (hg : grown el S b f len old new h = .ok v h')
    (hcap : len ≤ cap) (hlim : q * S + cap * S ≤ l.lim) (A : ElsAt P m w S new uy us) (B : ElsAt P m w.drew S new uy us2) (hsm : len + new.length ≤ 2000000) :
    ∃ u w' m', (Builtin.append_ ts ty #[.slice (some ⟨l.blk, l.base + q * S, none⟩) len cap, uy]).run P w = .ok u w' ∧ Fr m h w m' h' w' ∧ R m' v u := by
  obtain ⟨⟨t, t2, u2, h0, h1, hu, hu2, hni⟩, hi, hz, hsize, hzs, hby⟩ := T
  obtain ⟨l2, hl2, C, tC, fz, hc⟩ := k.obj _ _ hb
  rw [hl] at hl2; cases hl2
  have hfl := flat_len hc.each
  have hdl : (els.drop q).length = len := by rw [List.length_drop]; omega
  have heach0 : ∀ el ∈ els.drop q, el.length = S := fun el hel => hc.each el (List.mem_of_mem_drop hel)
  have hofl : old.flatten.length = len * S := by rw [hold, flat_len heach0, hdl]
  have hnfl := flat_len A.each
  have hofd : old.flatten = els.flatten.drop (q * S) := by rw [hold, flat_drop _ _ hc.each]
  have hEl : els.flatten.length = q * S + len * S := by rw [hfl, ← hq, Nat.add_mul]
  have hof : (old ++ new).flatten = old.flatten ++ new.flatten := by simp
  have heach : ∀ el ∈ old ++ new, el.length = S := by
    intro e he
    rcases List.mem_append.1 he with h | h
    · exact heach0 e (hold ▸ h)
    · exact A.each e h
  by_cases hroom : len + new.length ≤ cap
  · -- in place
    have hr := run_append_room (P := P) (w := w) (ty := ty) (base := some ⟨l.blk, l.base + q * S, none⟩) h0 h1 hu hu2 hni hi A.lenOf hroom (by rw [hsize]; exact A.first)
    have hmul : (len + new.length) * S ≤ cap * S := Nat.mul_le_mul_right _ hroom
    rw [Nat.add_mul] at hmul
    have hroomC := hc.room
    have hst := run_storeCells (P := P) (b := l.blk) (off := l.base + q * S + len * S) us 0 C w hc.at_ (by have := A.len; omega) A.sc (by
      intro j hj hf
      have hj' : j < new.length * S := by rw [← A.len]; exact hj
      have := hc.free rfl (q * S + len * S + j) (by omega)
      exact this (by omega))
    simp only [hsize, addr_add] at hr
    rw [hst] at hr
    simp only [Nat.add_zero] at hr hst
    generalize hC' : (⟨C.toList.take (l.base + q * S + len * S) ++ us ++ C.toList.drop (l.base + q * S + len * S + us.length)⟩ : Array Value) = C' at hr
    have hCl : C.toList.length = C.size := by simp
    have hsz : C'.size = C.size := by
      rw [← hC']
      show (C.toList.take _ ++ us ++ C.toList.drop _).length = _
      have := A.len
      rw [List.length_append, List.length_append, List.length_take, List.length_drop, hCl]
      omega
    have hlow : ∀ j, j < l.base + q * S + len * S → C'[j]? = C[j]? := by
      intro j hj
      rw [← hC', ← Array.getElem?_toList, ← Array.getElem?_toList]
      show (C.toList.take _ ++ us ++ C.toList.drop _)[j]? = _
      rw [List.append_assoc, List.getElem?_append_left (by rw [List.length_take]; omega), List.getElem?_take_of_lt hj]
    have hnew : ∀ j, j < us.length → C'[l.base + q * S + len * S + j]? = us[j]? := by
      intro j hj
      have hlt : (C.toList.take (l.base + q * S + len * S)).length = l.base + q * S + len * S := by rw [List.length_take]; omega
      rw [← hC', ← Array.getElem?_toList]
      show (C.toList.take _ ++ us ++ C.toList.drop _)[_]? = _
      rw [List.append_assoc, List.getElem?_append_right (by omega), hlt, List.getElem?_append_left (by omega)]
      congr 1; omega
    obtain ⟨m', hF, hm, rfl⟩ := grown_fr k hb hl hq hold hg A.each (C' := C') (t := tC) (fz' := fz) (w' := { w with heap := w.heap.setIfInBounds l.blk (.cells C' tC fz) }) (l' := ⟨l.blk, l.base + q * S, l.lim - q * S⟩)
      (.inl ⟨rfl, rfl, C, fz, hc.at_, hc, rfl, hsz, fun j hj => hlow j (by omega)⟩) (by
        intro m2 hm2 hat
        refine ⟨hat, ?_, ?_, heach, ?_, ?_, hc.plain, hc.typ, by have := hc.al; show (l.base + q * S) % S = 0; rw [Nat.add_mul_mod_self_right]; exact this⟩
        · show l.base + q * S + (l.lim - q * S) ≤ C'.size
          omega
        · show (old ++ new).flatten.length ≤ l.lim - q * S
          rw [hof, List.length_append, hofl, hnfl]; omega
        · intro i x hx
          show ∃ u, C'[l.base + q * S + i]? = some u ∧ _
          rw [hof] at hx
          by_cases hi : i < len * S
          · rw [List.getElem?_append_left (by omega), hofd, List.getElem?_drop] at hx
            obtain ⟨u, g1, g2, g3⟩ := hc.val _ _ hx
            exact ⟨u, by rw [hlow _ (by omega), Nat.add_assoc]; exact g1, g2.mono hm2, g3⟩
          · rw [List.getElem?_append_right (by omega), hofl] at hx
            obtain ⟨u, g1, g2⟩ := A.rel.get hx
            have hlt := (List.getElem?_eq_some_iff.1 g1).1
            refine ⟨u, ?_, g2.mono hm2, A.sc u (List.mem_of_getElem? g1)⟩
            rw [← g1, ← hnew _ hlt]; congr 1; omega
        · intro _ i hi hf
          have hi' : i < l.lim - q * S := hi
          exact hc.free rfl (q * S + i) (by omega) (by
            have hf' : fz.1 ≤ l.base + q * S + i ∧ l.base + q * S + i < fz.2 := hf
            omega))
    refine ⟨_, _, m', hr, hF, ?_⟩
    simp only [R]
    refine ⟨_, cap, hm, by simp, hroom, ?_⟩
    show 0 + cap * S ≤ l.lim - q * S
    omega
  · -- a new row
    have hcd : CellsAt m w.drew l S els (.rw el) C tC fz := ⟨hc.at_, hc.room, hc.len, hc.each, hc.val, hc.free, hc.plain, hc.typ, hc.al⟩
    have hoS : q * S % S = 0 := Nat.mul_mod_left _ _
    have hdS : q * S / S = q := Nat.mul_div_cancel _ hS
    obtain ⟨us0, e1, e2, e3, e4, e5, e6⟩ := els_spec (len := len) hcd hoS (by rw [hdS, hdl]; exact Nat.le_refl _)
    rw [hdS, List.take_of_length_le (by omega), ← hold] at e4
    have hf0 : (Builtin.firstCells inf.size len (.slice (some ⟨l.blk, l.base + q * S, none⟩) len cap)).run P w.drew = .ok ⟨us0⟩ w.drew := by
      have hrun := run_loadCells_list (P := P) (w := w.drew) ⟨l.blk, l.base + q * S, none⟩ us0 (fun j v hv => by
        rw [addr_add, cell_of hcd.at_]; exact e6 j v hv)
      rw [e3] at hrun
      simp only [Builtin.firstCells, hsize]
      simpa using hrun
    obtain ⟨nc, hnc, hr⟩ := run_append_grow (P := P) (w := w) (ty := ty) h0 h1 hu hu2 hni hi hz A.lenOf (Nat.lt_of_not_le hroom) hsm hby hf0 (by rw [hsize]; exact B.first)
    generalize hC' : ((⟨us0⟩ : Array Value) ++ (⟨us2⟩ : Array Value) ++ Builtin.zeroCells z.cells (nc - (len + new.length))) = C' at hr
    have hCl : C'.toList = us0 ++ us2 ++ (Builtin.zeroCells z.cells (nc - (len + new.length))).toList := by rw [← hC']; simp
    have hzl : (Builtin.zeroCells z.cells (nc - (len + new.length))).size = (nc - (len + new.length)) * S := by simp [Builtin.zeroCells, hzs]
    have hsz : C'.size = nc * S := by
      rw [← hC', Array.size_append, Array.size_append, hzl]
      show us0.length + us2.length + _ = _
      rw [e3, B.len, ← Nat.add_mul, ← Nat.add_mul]
      congr 1; omega
    have kd : HR m h w.drew := k.drawn _
    obtain ⟨m', hF, hm, rfl⟩ := grown_fr kd hb hl hq hold hg A.each (C' := C') (t := el) (fz' := (0, 0)) (w' := { w.drew with heap := w.drew.heap.push (.cells C' el (0, 0)) }) (l' := ⟨w.drew.heap.size, 0, C'.size⟩)
      (.inr ⟨rfl, rfl⟩) (by
        intro m2 hm2 hat
        refine ⟨hat, by simp, ?_, heach, ?_, fun _ i _ hf => by simp at hf, fun _ _ => rfl, fun ty e => by cases e; rfl, Nat.zero_mod _⟩
        · show (old ++ new).flatten.length ≤ C'.size
          rw [hof, List.length_append, hofl, hnfl, hsz, ← Nat.add_mul]
          exact Nat.mul_le_mul_right _ hnc
        · intro i x hx
          rw [hof] at hx
          obtain ⟨u, g1, g2⟩ := (e4.append B.rel).get hx
          have hlt := (List.getElem?_eq_some_iff.1 g1).1
          refine ⟨u, ?_, g2.mono hm2, ?_⟩
          · show C'[0 + i]? = some u
            rw [Nat.zero_add, ← Array.getElem?_toList, hCl, List.getElem?_append_left hlt, g1]
          · rcases List.mem_append.1 (List.mem_of_getElem? g1) with g | g
            · exact e5 u g
            · exact B.sc u g)
    refine ⟨_, _, m', hr, (Fr.drawn k _).trans hF, ?_⟩
    simp only [R]
    refine ⟨_, nc, hm, by simp, hnc, ?_⟩
    show 0 + nc * S ≤ C'.size
    omega
theorem append_sound {h h' : H} (k : HR m h w) {sz : Nat} {x y v : V} {ux uy : Value} {new : List (List V)} {ts : Array TypeId} {ty el : TypeId} {inf : TypeInfo} {z : Value}
    (T : AppTy P ts (sz + 1) el inf z) (hx : R m x ux) (hy : R m y uy) (he : elemsOf h (sz + 1) y = some new) (ha : appendV el h (sz + 1) x new = .ok v h') :
    ∃ u w' m', (Builtin.append_ ts ty #[ux, uy]).run P w = .ok u w' ∧ Fr m h w m' h' w' ∧ R m' v u := by
  obtain ⟨us, A⟩ := elsAt (P := P) k hy he
  obtain ⟨us2, B⟩ := elsAt (P := P) (k.drawn (w.drawn + 1)) hy he
  have T' := T
  obtain ⟨⟨t, t2, u2, h0, h1, hu, hu2, hni⟩, hi, hz, hsize, hzs, hby⟩ := T'
  unfold appendV at ha
  split at ha
  · -- nothing
    have hus : us = [] := List.eq_nil_of_length_eq_zero (by rw [A.len]; simp)
    subst hus
    have main : ∀ base len cap, len ≤ cap → (Builtin.append_ ts ty #[.slice base len cap, uy]).run P w = .ok (.slice base len cap) w := by
      intro base len cap hle
      have hr := run_append_room (P := P) (w := w) (ty := ty) (base := base) (len := len) (cap := cap) h0 h1 hu hu2 hni hi A.lenOf (by simpa using hle) (by rw [hsize]; exact A.first)
      rw [hr]
      cases base <;> simp [storeCells]
    split at ha
    · cases ha
      have hx' := hx
      simp only [R] at hx'; subst hx'
      exact ⟨_, _, m, main none 0 0 (Nat.le_refl _), Fr.refl k, by simp [R]⟩
    · cases ha
      have hx' := hx
      simp only [R] at hx'; obtain ⟨a, cap, rfl⟩ := hx'
      exact ⟨_, _, m, main _ 0 cap (Nat.zero_le _), Fr.refl k, hx⟩
    · cases ha
      have hx' := hx
      simp only [R] at hx'; obtain ⟨l, cap, hl, rfl, hlc, hlim⟩ := hx'
      exact ⟨_, _, m, main _ _ cap hlc, Fr.refl k, hx⟩
    · cases ha
  · rename_i n0 nr
    cases hln : Nat.ble (lenL (n0 :: nr)) 1000000 with
    | false => rw [hln] at ha; cases ha
    | true =>
    rw [hln] at ha
    simp only [cond_true] at ha
    have hsmn : (n0 :: nr).length ≤ 1000000 := by have := Nat.le_of_ble_eq_true hln; rwa [lenL_eq] at this
    split at ha
    · -- nil
      simp only [R] at hx; subst hx
      obtain ⟨nc, hnc, hr⟩ := run_append_grow (P := P) (w := w) (ty := ty) (base := none) (len := 0) (cap := 0) h0 h1 hu hu2 hni hi hz A.lenOf (by simp) (by omega) hby (olds := #[]) (by simp [Builtin.firstCells]) (by rw [hsize]; exact B.first)
      have kd : HR m h w.drew := k.drawn _
      obtain ⟨m', hF, hm, rfl⟩ := newC_fr kd ha A.each B.rel B.sc (C := (#[] : Array Value) ++ (⟨us2⟩ : Array Value) ++ Builtin.zeroCells z.cells (nc - (0 + (n0 :: nr).length))) (extra := (Builtin.zeroCells z.cells (nc - (0 + (n0 :: nr).length))).toList) (by simp) el (0, 0) (.inl rfl)
      refine ⟨_, _, m', hr, (Fr.drawn k _).trans hF, ?_⟩
      simp only [R, lenL_eq]
      refine ⟨_, nc, hm, by simp, by omega, ?_⟩
      have hzl : (Builtin.zeroCells z.cells (nc - (0 + (n0 :: nr).length))).size = (nc - (0 + (n0 :: nr).length)) * (sz + 1) := by simp [Builtin.zeroCells, hzs]
      show 0 + nc * (sz + 1) ≤ (_ ++ _ ++ _ : Array Value).size
      rw [Array.size_append, Array.size_append, hzl]
      show 0 + nc * (sz + 1) ≤ 0 + us2.length + _
      rw [B.len, Nat.zero_add, Nat.zero_add, ← Nat.add_mul]
      exact Nat.mul_le_mul_right _ (by omega)
    · rename_i b o len z0
      split at ha
      · rename_i szb els f tyb hb
        cases hcd : (Nat.beq szb (sz + 1) && (Nat.beq z0 (sz + 1) && (Nat.beq (Nat.mod o (sz + 1)) 0 && (Nat.ble len 1000000 && Nat.beq tyb el)))) with
        | false => rw [hcd] at ha; cases ha
        | true =>
        rw [hcd] at ha
        simp only [cond_true] at ha
        simp only [Bool.and_eq_true] at hcd
        have e1 := Nat.eq_of_beq_eq_true hcd.1; subst e1
        have e2 := Nat.eq_of_beq_eq_true hcd.2.1; subst e2
        have e3 : o % (sz + 1) = 0 := Nat.eq_of_beq_eq_true hcd.2.2.1
        have e4 := Nat.le_of_ble_eq_true hcd.2.2.2.1
        have e5 := Nat.eq_of_beq_eq_true hcd.2.2.2.2; subst e5
        have hq : o / (sz + 1) * (sz + 1) = o := by have := Nat.div_add_mod o (sz + 1); rw [Nat.mul_comm, e3] at this; simpa using this
        simp only [R] at hx; obtain ⟨l, cap, hl, rfl, hlc, hlim⟩ := hx
        generalize hqq : o / (sz + 1) = q at *
        have hqq' : Nat.div o (sz + 1) = q := hqq
        rw [hqq'] at ha
        subst hq
        split at ha
        · cases ha
        · rename_i old hold
          rw [dropL_eq] at hold
          obtain ⟨g1, g2⟩ := takeL_eq _ _ _ hold
          cases hfull : Nat.beq (Nat.add q len) (lenL els) with
          | true =>
            rw [hfull] at ha
            simp only [cond_true] at ha
            have h9 : q + len = els.length := by have := Nat.eq_of_beq_eq_true hfull; rwa [lenL_eq] at this
            have hold' : old = els.drop q := by rw [g2, List.take_of_length_le (by rw [List.length_drop]; omega)]
            exact append_sl k T (Nat.succ_pos _) hb hl h9 hold' ha hlc (by omega) A B (by omega)
          | false =>
            rw [hfull] at ha
            simp only [cond_false] at ha
            split at ha
            · rename_i cut hcut
              obtain ⟨g3, g4⟩ := takeL_eq _ _ _ hcut
              have g3' : q + len ≤ els.length := g3
              have g4' : cut = els.take (q + len) := g4
              obtain ⟨l2, hl2, C, tC, fz, hc⟩ := k.obj _ _ hb
              rw [hl] at hl2; cases hl2
              have hblt := k.lt _ _ hl
              have hsame : w = { w with heap := w.heap.setIfInBounds l.blk (.cells C tC fz) } := by
                have hbe := (Array.getElem?_eq_some_iff.1 hc.at_).2
                have : w.heap.setIfInBounds l.blk (.cells C tC fz) = w.heap := by
                  apply Array.ext_getElem?
                  intro j
                  simp only [Array.getElem?_setIfInBounds]
                  by_cases e : l.blk = j
                  · subst e; simp [hblt, hbe]
                  · simp [e]
                rw [this]
              have hcutf : cut.flatten = els.flatten.take ((q + len) * (sz + 1)) := by rw [g4', flat_take _ _ hc.each]
              have F1 := Fr.updCells (els' := cut) (ro' := .rw tyb) k hb hl hsame (fun _ => ⟨C, tC, fz, ⟨hc.at_, hc.room, by rw [hcutf, List.length_take]; have := hc.len; omega,
                fun e he => hc.each e (List.mem_of_mem_take (g4' ▸ he)), (fun i x hx => by
                  rw [hcutf, List.getElem?_take] at hx
                  split at hx
                  · exact hc.val i x hx
                  · exact absurd hx (by simp)), hc.free, hc.plain, hc.typ, hc.al⟩⟩)
              have hb1 : mget b (setO (loneH h f b) b (.cells (sz + 1) cut f (.rw tyb))).mem = some (.cells (sz + 1) cut f (.rw tyb)) := by rw [setO_eq]; exact mget_mput _ _ _
              have hold' : old = cut.drop q := by rw [g2, g4', List.drop_take]; congr 1; omega
              obtain ⟨u, w', m', r1, r2, r3⟩ := append_sl F1.hr T (ty := ty) (Nat.succ_pos _) hb1 hl (by rw [g4', List.length_take]; omega) hold' ha hlc (by omega) A B (by omega)
              exact ⟨u, w', m', r1, F1.trans r2, r3⟩
            · cases ha
      · cases ha
    · cases ha
end Go.Ev
end
