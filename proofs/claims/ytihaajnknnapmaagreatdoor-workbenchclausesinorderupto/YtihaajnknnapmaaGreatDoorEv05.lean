/-
  A part of the proof of the card of WorkbenchClausesInOrder (second form): lemmas that the text Card uses. No condition of its own.
-/
import Derived.Test.YtihaajnknnapmaaGreatDoorEv04
import Derived.Lib.ConvBytes
import Derived.Laws.BytesString
import Derived.Orders
set_option linter.all false
set_option linter.unusedVariables false
set_option linter.unusedSimpArgs false
section
namespace Go.Ev
open Go
variable {P : Program} {m : Mp} {w : World}

/-- SOME CELLS OF A BLOCK ARE WRITTEN. -/
theorem over_fr {h : H} (k : HR m h w) {b f : Id} {sz o ty : Nat} {els els' : List (List V)} {xs : List V} {xs' : List Value} {l : Loc} {C : Array Value} {t : TypeId} {fz : Nat × Nat}
    (hb : mget b h.mem = some (.cells sz els f (.rw ty))) (hl : m b = some l) (hc : CellsAt m w l sz els (.rw ty) C t fz) (hx : Rl m xs xs') (hs : ∀ x ∈ xs', scalar x)
    (hend : o + xs.length ≤ els.flatten.length) (hset : els'.flatten = els.flatten.take o ++ xs ++ els.flatten.drop (o + xs.length)) (heach : ∀ e ∈ els', e.length = sz) :
    ∃ w', (storeCells ⟨l.blk, l.base + o, none⟩ xs').run P w = .ok () w' ∧ Fr m h w m (setO (loneH h f b) b (.cells sz els' f (.rw ty))) w' := by
  have hroom := hc.room; have hlim := hc.len
  have hxl := hx.length
  have hrun := run_storeCells (P := P) (b := l.blk) (off := l.base + o) (t := t) (fz := fz) xs' 0 C w hc.at_ (by omega) hs (fun j hj => by
    have := hc.free rfl (o + j) (by omega)
    rw [show l.base + (o + j) = l.base + o + 0 + j by omega] at this; exact this)
  refine ⟨_, hrun, Fr.updCells k hb hl rfl ?_⟩
  intro hat
  refine ⟨_, t, fz, ⟨hat, ?_, ?_, ?_, ?_, hc.free, hc.plain, hc.typ, hc.al⟩⟩
  · have : (⟨C.toList.take (l.base + o + 0) ++ xs' ++ C.toList.drop (l.base + o + 0 + xs'.length)⟩ : Array Value).size = C.size := by
      show (C.toList.take (l.base + o + 0) ++ xs' ++ C.toList.drop (l.base + o + 0 + xs'.length)).length = C.size
      simp only [List.length_append, List.length_take, List.length_drop, Array.length_toList]; omega
    rw [this]; exact hroom
  · rw [hset]; simp only [List.length_append, List.length_take, List.length_drop, Array.length_toList]; omega
  · exact heach
  · intro i x hxi
    rw [hset] at hxi
    have hCg : ∀ j : Nat, (⟨C.toList.take (l.base + o + 0) ++ xs' ++ C.toList.drop (l.base + o + 0 + xs'.length)⟩ : Array Value)[j]? =
        (C.toList.take (l.base + o) ++ xs' ++ C.toList.drop (l.base + o + xs'.length))[j]? := by intro j; simp
    rw [hCg]
    by_cases c1 : i < o
    · rw [List.append_assoc, List.getElem?_append_left (by simp only [List.length_append, List.length_take, List.length_drop, Array.length_toList]; omega), List.getElem?_take_of_lt c1] at hxi
      obtain ⟨u, h1, h2, h3⟩ := hc.val i x hxi
      refine ⟨u, ?_, h2, h3⟩
      rw [List.append_assoc, List.getElem?_append_left (by simp only [List.length_append, List.length_take, List.length_drop, Array.length_toList]; omega), List.getElem?_take_of_lt (by omega)]
      simpa using h1
    · by_cases c2 : i < o + xs.length
      · rw [List.append_assoc, List.getElem?_append_right (by simp only [List.length_append, List.length_take, List.length_drop, Array.length_toList]; omega), List.getElem?_append_left (by simp only [List.length_append, List.length_take, List.length_drop, Array.length_toList]; omega)] at hxi
        have e1 : i - (els.flatten.take o).length = i - o := by simp only [List.length_append, List.length_take, List.length_drop, Array.length_toList]; omega
        rw [e1] at hxi
        obtain ⟨u, h1, h2⟩ := hx.get hxi
        refine ⟨u, ?_, h2, hs u (List.mem_of_getElem? h1)⟩
        rw [List.append_assoc, List.getElem?_append_right (by simp only [List.length_append, List.length_take, List.length_drop, Array.length_toList]; omega), List.getElem?_append_left (by simp only [List.length_append, List.length_take, List.length_drop, Array.length_toList]; omega), ← h1]
        congr 1; simp only [List.length_append, List.length_take, List.length_drop, Array.length_toList]; omega
      · rw [List.getElem?_append_right (by simp only [List.length_append, List.length_take, List.length_drop, Array.length_toList]; omega), List.getElem?_drop] at hxi
        have e1 : o + xs.length + (i - (els.flatten.take o ++ xs).length) = i := by simp only [List.length_append, List.length_take, List.length_drop, Array.length_toList]; omega
        rw [e1] at hxi
        obtain ⟨u, h1, h2, h3⟩ := hc.val i x hxi
        refine ⟨u, ?_, h2, h3⟩
        rw [List.getElem?_append_right (by simp only [List.length_append, List.length_take, List.length_drop, Array.length_toList]; omega), List.getElem?_drop]
        have e2 : l.base + o + xs'.length + (l.base + i - (C.toList.take (l.base + o) ++ xs').length) = l.base + i := by simp only [List.length_append, List.length_take, List.length_drop, Array.length_toList]; omega
        rw [e2]; simpa using h1
/-- whole elements of a block are written -/
theorem over_els {h : H} (k : HR m h w) {b f : Id} {sz q ty : Nat} {els els' xs : List (List V)} {us : List Value} {l : Loc} (hb : mget b h.mem = some (.cells sz els f (.rw ty))) (hl : m b = some l)
    (hx : Rl m xs.flatten us) (hs : ∀ x ∈ us, scalar x) (he : ∀ e ∈ xs, e.length = sz) (ho : overAt q els xs = some els') :
    ∃ w', (storeCells ⟨l.blk, l.base + q * sz, none⟩ us).run P w = .ok () w' ∧ Fr m h w m (setO (loneH h f b) b (.cells sz els' f (.rw ty))) w' := by
  obtain ⟨l2, hl2, C, t, fz, hc⟩ := k.obj _ _ hb
  rw [hl] at hl2; cases hl2
  obtain ⟨h1, rfl⟩ := overAt_spec _ _ _ ho
  have hfl := flat_len hc.each
  have hxl := flat_len he
  have hle : (q + xs.length) * sz ≤ els.length * sz := Nat.mul_le_mul_right _ h1
  rw [Nat.add_mul] at hle
  refine over_fr k hb hl hc hx hs (by omega) ?_ ?_
  · rw [List.flatten_append, List.flatten_append, flat_take _ _ hc.each, flat_drop _ _ hc.each, hxl, Nat.add_mul]
  · intro e h
    rcases List.mem_append.1 h with h | h
    · rcases List.mem_append.1 h with h | h
      · exact hc.each e (List.mem_of_mem_take h)
      · exact he e h
    · exact hc.each e (List.mem_of_mem_drop h)
theorem copy_sound {h h' : H} (k : HR m h w) {sz : Nat} {x y v : V} {ux uy : Value} {src : List (List V)} {ts : Array TypeId} {t ty el : TypeId} {inf : TypeInfo} (h0 : ts[0]? = some t) (hu : P.underlying t = some (.slice el))
    (hi : P.info? el = some inf) (hsize : inf.size = sz + 1) (hx : R m x ux) (hy : R m y uy) (he : elemsOf h (sz + 1) y = some src) (ha : copyF h (sz + 1) x (some src) = .ok v h') :
    ∃ u w' m', (Builtin.copy_ ts ty #[ux, uy]).run P w = .ok u w' ∧ Fr m h w m' h' w' ∧ R m' v u := by
  obtain ⟨us, g1, g2, g3, g4, g5, g6⟩ := elems_sound (P := P) k hy he
  have main : ∀ base len cap, (Builtin.copy_ ts ty #[.slice base len cap, uy]).run P w = match (match base with | some a => (storeCells a (us.take (min src.length len * (sz + 1)))).run P w | none => .ok () w : Result Unit) with
      | .ok _ w' => .ok (.int .i64 ((min src.length len : Nat) : Int)) w'
      | .halt h w' => .halt h w' := by
    intro base len cap
    have hf := g6 (min src.length len) (Nat.min_le_left _ _)
    have hf' : (Builtin.firstCells (sz + 1) (src.length.min len) uy).run P w = .ok ⟨us.take (min src.length len * (sz + 1))⟩ w := hf
    unfold Builtin.copy_
    cases base <;> simp [h0, run_underlying hu, sizeOf, typeInfo, hi, g5, hsize, hf', goInt]
    cases (storeCells _ _).run P w <;> rfl
  unfold copyF at ha
  simp only at ha
  split at ha
  · rename_i src' b o len z e0
    cases e0
    split at ha
    · rename_i szb els f tyb hb
      cases hcd : (Nat.beq szb (sz + 1) && (Nat.beq z (sz + 1) && Nat.beq (Nat.mod o (sz + 1)) 0)) with
      | false => rw [hcd] at ha; cases ha
      | true =>
      rw [hcd] at ha
      simp only [cond_true] at ha
      simp only [Bool.and_eq_true] at hcd
      have e1 := Nat.eq_of_beq_eq_true hcd.1; subst e1
      have e2 := Nat.eq_of_beq_eq_true hcd.2.1; subst e2
      have e3 : o % (sz + 1) = 0 := Nat.eq_of_beq_eq_true hcd.2.2
      have hq : o / (sz + 1) * (sz + 1) = o := by have := Nat.div_add_mod o (sz + 1); rw [Nat.mul_comm, e3] at this; simpa using this
      simp only [R] at hx; obtain ⟨l, cap, hl, rfl, hlc, hlim⟩ := hx
      split at ha
      · rename_i xs hxs
        obtain ⟨t1, t2⟩ := takeL_eq _ _ _ hxs
        rw [lenL_eq] at t1 t2
        split at ha
        · rename_i els' hov
          cases ha
          have hmin : min len src.length = min src.length len := Nat.min_comm _ _
          have hxf : Rl m xs.flatten (us.take (min src.length len * (sz + 1))) := by
            rw [t2, flat_take _ _ g1, hmin]; exact g3.take _
          obtain ⟨w', r1, r2⟩ := over_els (P := P) (q := o / (sz + 1)) k hb hl hxf (fun x hx => g4 x (List.mem_of_mem_take hx)) (fun e he => g1 e (List.mem_of_mem_take (t2 ▸ he))) hov
          rw [hq] at r1
          refine ⟨.int .i64 ((min src.length len : Nat) : Int), w', m, ?_, r2, ?_⟩
          · rw [main]; simp only [r1]
          · rw [lenL_eq, hmin]; simp only [R]; rfl
        · cases ha
      · cases ha
    · cases ha
  · rename_i e0
    cases e0
    cases ha
    simp only [R] at hx; subst hx
    refine ⟨_, w, m, main none 0 0, Fr.refl k, by simp [R]⟩
  · rename_i e0
    cases e0
    cases ha
    simp only [R] at hx; obtain ⟨a, cap, rfl⟩ := hx
    refine ⟨.int .i64 0, w, m, ?_, Fr.refl k, by simp only [R]⟩
    rw [main]; simp [storeCells]
  · cases ha
theorem makeMap_sound {h h' : H} (k : HR m h w) {t : TypeId} {x : Option Value} {v : V} (hx : x = none ∨ (∃ kt et kk n, P.underlying t = some (.map kt et) ∧ x = some (.int kk n))) (hn : newO h (fun _ => .map [] 0) (fun i => .mp i) = .ok v h') :
    ∃ u w' m', (Instr.makeMap t x).run P w = .ok u w' ∧ Fr m h w m' h' w' ∧ R m' v u := by
  obtain ⟨nx, hnx, rfl, rfl⟩ := newO_ok hn
  refine ⟨.map (some w.heap.size), _, _, ?_, Fr.new k hnx (.map #[] 0) (.map [] 0) ⟨w.heap.size, 0, 0⟩ rfl (fun _ _ _ _ e => by cases e) trivial ?_, ?_⟩
  · rcases hx with rfl | ⟨kt, et, kk, n, hu, rfl⟩
    · simp [Instr.makeMap]
    · simp [Instr.makeMap, run_underlying hu, asInt, asIntOf]
  · intro m' hm w' hw'
    exact ⟨[], hw', by simp [EntsR]⟩
  · simp [R]
end Go.Ev
end
section
namespace Go.Ev
open Go
variable {P : Program} {m : Mp} {w : World}

theorem rangeS_sound {h h' : H} (k : HR m h w) {t : TypeId} {l c : Nat} {x v : V} {u : Value} (hu : P.underlying t = some .string) (hx : R m (.s l c) u) (hn : newO h (fun _ => .siter l c 0) (fun i => .p i 0) = .ok v h') :
    ∃ u' w' m', (Instr.range t u).run P w = .ok u' w' ∧ Fr m h w m' h' w' ∧ R m' v u' := by
  obtain ⟨nx, hnx, rfl, rfl⟩ := newO_ok hn
  rw [R_str] at hx; obtain ⟨s, rfl, hb, hc⟩ := hx
  refine ⟨.pointer (some ⟨w.heap.size, 0, none⟩), _, _, ?_, Fr.new k hnx (.stringIter s 0) (.siter l c 0) ⟨w.heap.size, 0, 0⟩ rfl (fun _ _ _ _ e => by cases e) trivial ?_, ?_⟩
  · simp [Instr.range, run_underlying hu]
  · intro m' hm w' hw'
    exact ⟨rfl, s, hw', hb, hc⟩
  · simp [R]
theorem rangeM_sound {h h' : H} (k : HR m h w) {t kt et : TypeId} {b : Id} {l : Loc} {es : List Ent} {clock : Nat} {v : V} (hu : P.underlying t = some (.map kt et)) (hl : m b = some l) (he : entsOf h b = some (es, clock))
    (hn : newO h (fun _ => .miter b clock [] clock) (fun i => .p i 0) = .ok v h') :
    ∃ u' w' m', (Instr.range t (.map (some l.blk))).run P w = .ok u' w' ∧ Fr m h w m' h' w' ∧ R m' v u' := by
  obtain ⟨nx, hnx, rfl, rfl⟩ := newO_ok hn
  obtain ⟨l2, es', hb, hl2, hat, hes⟩ := entsOf_some k he
  rw [hl] at hl2; cases hl2
  have hg : (getObj l.blk).run P w = .ok (.map ⟨es'⟩ clock) w := run_getObj' hat (fun _ _ _ e => by cases e)
  refine ⟨.pointer (some ⟨w.heap.size, 0, none⟩), _, _, ?_, Fr.new k hnx (.mapIter (some l.blk) clock #[] clock) (.miter b clock [] clock) ⟨w.heap.size, 0, 0⟩ rfl (fun _ _ _ _ e => by cases e) trivial ?_, ?_⟩
  · simp [Instr.range, run_underlying hu, hg]
  · intro m' hm w' hw'
    exact ⟨rfl, l, hm _ _ hl, hw'⟩
  · simp [R]
theorem nextS_sound {h h' : H} (k : HR m h w) {ty : TypeId} {b : Id} {l : Loc} {v : V} (hl : m b = some l) (hn : nextS h b = .ok v h') :
    ∃ u' w' m', (Instr.next (.pointer (some ⟨l.blk, l.base + 0, none⟩)) true ty).run P w = .ok u' w' ∧ Fr m h w m' h' w' ∧ R m' v u' := by
  unfold nextS at hn
  split at hn
  · rename_i n c pos hb
    obtain ⟨l1, hl1, h0, s, hit, hs, hc⟩ := k.obj _ _ hb
    rw [hl] at hl1; cases hl1
    have hg : (getObj l.blk).run P w = .ok (.stringIter s pos) w := run_getObj' hit (fun _ _ _ e => by cases e)
    have hsz := str_size hs
    rw [h0]
    cases h1 : Nat.ble (Nat.succ pos) n with
    | false =>
      rw [h1] at hn
      simp only [cond_false] at hn
      cases hn
      have hlt : ¬ (pos < s.size) := by
        intro hh
        have : Nat.ble (Nat.succ pos) n = true := Nat.ble_eq_true_of_le (by omega)
        rw [h1] at this; cases this
      exact ⟨.tuple #[.bool false], w, m, by simp [Instr.next, hg, hlt], Fr.refl k, by simp [R, Rl]⟩
    | true =>
      rw [h1] at hn
      simp only [cond_true] at hn
      have hlt : pos < n := Nat.le_of_ble_eq_true h1
      cases h2 : Nat.ble (Nat.succ ((c >>> (8 * pos)) % 256)) 128 with
      | false => rw [h2] at hn; cases hn
      | true =>
        rw [h2] at hn
        simp only [cond_true] at hn
        cases hn
        have hsm : (c >>> (8 * pos)) % 256 < 128 := Nat.le_of_ble_eq_true h2
        obtain ⟨bb, hb1, hb2⟩ := index_str hs hlt
        have hget : (s.get! pos).toNat = (c >>> (8 * pos)) % 256 := by
          rw [← hb2]
          have hlt' : pos < s.size := by omega
          have e1 : s[pos]? = some (s[pos]'hlt') := by simp [hlt']
          rw [e1] at hb1
          have e2 : s[pos]'hlt' = bb := by simpa using hb1
          have e3 : s.get! pos = s[pos]'hlt' := by
            obtain ⟨a⟩ := s
            show a[pos]! = _
            have hh : pos < a.size := hlt'
            simp [hh]; rfl
          rw [e3, e2]
        have hdec : Utf8.decode s pos = ((c >>> (8 * pos)) % 256, 1) := by
          unfold Utf8.decode
          simp only [Nat.add_zero, hget]
          rw [if_pos hsm]
        have hset : ∀ o', (setObj l.blk o').run P w = .ok () { w with heap := w.heap.setIfInBounds l.blk o' } := fun o' => run_setObj hit (fun _ _ _ e => by cases e)
        refine ⟨.tuple #[.bool true, .int .i64 (pos : Int), .int .i32 (((c >>> (8 * pos)) % 256 : Nat) : Int)], _, m, ?_,
          Fr.updObj k hb hl (fun _ _ _ _ e => by cases e) (fun _ _ _ _ e => by cases e) (o' := .stringIter s (pos + 1)) rfl (fun hat => ⟨h0, s, hat, hs, hc⟩), ?_⟩
        · have hlt' : pos < s.size := by omega
          simp [Instr.next, hg, hlt', hdec, hset, goInt]
        · simp [R, Rl]
  · cases hn
theorem EntsR.filter {p : Nat → Bool} : ∀ {es : List Ent} {xs : List MapEntry}, EntsR m es xs → EntsR m (es.filter fun e => p e.born) (xs.filter fun e => p e.born)
  | [], xs, h => by simp only [EntsR] at h; subst h; simp [EntsR]
  | e :: es, xs, h => by
    obtain ⟨x, xs, rfl, hx, hxs⟩ := h
    have hb : x.born = e.born := hx.2.2
    simp only [List.filter_cons, hb]
    split
    · exact ⟨x, _, rfl, hx, EntsR.filter hxs⟩
    · exact EntsR.filter hxs
theorem EntsR.all {p : Nat → Bool} : ∀ {es : List Ent} {xs : List MapEntry}, EntsR m es xs → (xs.all fun e => p e.born) = (es.all fun e => p e.born)
  | [], xs, h => by simp only [EntsR] at h; subst h; rfl
  | e :: es, xs, h => by
    obtain ⟨x, xs, rfl, hx, hxs⟩ := h
    have hb : x.born = e.born := hx.2.2
    simp only [List.all_cons, hb, EntsR.all hxs]
theorem EntsR.empty : ∀ {es : List Ent} {xs : List MapEntry}, EntsR m es xs → xs.isEmpty = es.isEmpty
  | [], xs, h => by simp only [EntsR] at h; subst h; rfl
  | e :: es, xs, h => by obtain ⟨x, xs, rfl, _, _⟩ := h; rfl
theorem nextM_sound {h h' : H} (k : HR m h w) {ty : TypeId} {b : Id} {l : Loc} {v : V} (hl : m b = some l) (hn : nextM h b = .ok v h') :
    ∃ u' w' m', (Instr.next (.pointer (some ⟨l.blk, l.base + 0, none⟩)) false ty).run P w = .ok u' w' ∧ Fr m h w m' h' w' ∧ R m' v u' := by
  unfold nextM at hn
  split at hn
  · rename_i mi since seen last hb
    obtain ⟨l1, hl1, h0, lm, hlm, hit⟩ := k.obj _ _ hb
    rw [hl] at hl1; cases hl1
    have hg : (getObj l.blk).run P w = .ok (.mapIter (some lm.blk) since ⟨seen⟩ last) w := run_getObj' hit (fun _ _ _ e => by cases e)
    rw [h0]
    split at hn
    · rename_i es clock he
      obtain ⟨l2, es', hb2, hl2, hat, hes⟩ := entsOf_some k he
      have hl2' : lm = l2 := by rw [hlm] at hl2; cases hl2; rfl
      subst hl2'
      have hg2 : (getObj lm.blk).run P w = .ok (.map ⟨es'⟩ clock) w := run_getObj' hat (fun _ _ _ e => by cases e)
      cases hgone : (!seen.isEmpty && !es.isEmpty && es.all (fun e => Nat.ble last e.born)) with
      | true => rw [hgone] at hn; cases hn
      | false =>
      rw [hgone] at hn
      simp only [cond_false] at hn
      have hgone' : (!seen.isEmpty && !es'.isEmpty && es'.all (fun e => decide (e.born ≥ last))) = false := by
        rw [hes.empty, ← hgone]
        congr 1
        have := hes.all (p := fun n => Nat.ble last n)
        rw [← this]
        congr 1
        funext e
        rw [Bool.eq_iff_iff]; simp
      have hleft := hes.filter (p := fun n => !seen.any (Nat.beq n))
      have hfl : (es'.filter fun e => !seen.contains e.born) = (es'.filter fun e => !seen.any (Nat.beq e.born)) := by
        congr 1
        funext e
        congr 1
        rw [Bool.eq_iff_iff]; simp
      have hun : unseen seen es = es.filter fun e => !seen.any (Nat.beq e.born) := rfl
      have hset : ∀ o', (setObj l.blk o').run P w = .ok () { w with heap := w.heap.setIfInBounds l.blk o' } := fun o' => run_setObj hit (fun _ _ _ e => by cases e)
      split at hn
      · rename_i hnil
        cases hn
        rw [hun] at hnil
        rw [hnil] at hleft
        simp only [EntsR] at hleft
        rw [← hfl] at hleft
        refine ⟨.tuple #[.bool false], w, m, ?_, Fr.refl k, by simp [R, Rl]⟩
        have hA : ((⟨es'⟩ : Array MapEntry).filter fun e => !(⟨seen⟩ : Array Nat).contains e.born) = #[] := by
          apply Array.toList_inj.1
          simpa using hleft
        unfold Instr.next
        have hgA : (!(⟨seen⟩ : Array Nat).isEmpty && !(⟨es'⟩ : Array MapEntry).isEmpty && (⟨es'⟩ : Array MapEntry).all fun e => decide (e.born ≥ last)) = false := by
          rw [← hgone']; simp
        simp only [hg, hg2, Sem.run_bind, Result.andThen, hgA, hA, Bool.false_eq_true, if_false]
        simp [Question.forced]
      · rename_i e hone
        rw [hun] at hone
        rw [hone] at hleft
        obtain ⟨x, xs0, hx0, hxe, hxn⟩ := hleft
        simp only [EntsR] at hxn; subst hxn
        rw [← hfl] at hx0
        cases hbo : Nat.ble (Nat.succ e.born) since with
        | false => rw [hbo] at hn; cases hn
        | true =>
          rw [hbo] at hn
          simp only [cond_true] at hn
          cases hn
          have hbl : x.born < since := by rw [hxe.2.2]; exact Nat.le_of_ble_eq_true hbo
          refine ⟨.tuple #[.bool true, x.key, x.val], _, m, ?_, Fr.updObj k hb hl (fun _ _ _ _ e => by cases e) (fun _ _ _ _ e => by cases e) (o' := .mapIter (some lm.blk) since ⟨seen ++ [e.born]⟩ clock) rfl (fun hat2 => ⟨h0, lm, hlm, hat2⟩), ?_⟩
          · have hA : ((⟨es'⟩ : Array MapEntry).filter fun e => !(⟨seen⟩ : Array Nat).contains e.born) = #[x] := by
              apply Array.toList_inj.1
              simpa using hx0
            unfold Instr.next
            have hgA : (!(⟨seen⟩ : Array Nat).isEmpty && !(⟨es'⟩ : Array MapEntry).isEmpty && (⟨es'⟩ : Array MapEntry).all fun e => decide (e.born ≥ last)) = false := by
              rw [← hgone']; simp
            simp only [hg, hg2, Sem.run_bind, Result.andThen, hgA, hA, Bool.false_eq_true, if_false]
            have hf1 : (#[x].filter fun x => decide (x.born < since)) = #[x] := by simp [hbl]
            have hf2 : (#[x].filter fun x => decide (x.born ≥ since)) = #[] := by simp; omega
            have hbe : x.born = e.born := hxe.2.2
            simp only [hf1, hf2]
            simp [Question.forced, hset, hbe]
          · simp only [R, Rl]
            exact ⟨_, rfl, _, _, rfl, rfl, _, _, rfl, hxe.1, _, _, rfl, hxe.2.1, rfl⟩
      · cases hn
    · cases hn
  · cases hn
end Go.Ev
end
section
namespace Go.Ev
open Go
variable {P : Program} {m : Mp} {w : World}

theorem bytesWorld_eq (w : World) (e : TypeId) (s : ByteArray) : Lib.bytesWorld w e s = { w.drew with heap := w.drew.heap.push (.cells (Lib.bytesCells w e s) e ((Lib.bytesCells w e s).size, (Lib.bytesCells w e s).size + 1)) } := by
  have hh : (Lib.bytesWorld w e s).heap = w.heap.push (.cells (Lib.bytesCells w e s) e ((Lib.bytesCells w e s).size, (Lib.bytesCells w e s).size + 1)) := by
    apply Array.ext_getElem?
    intro j
    rcases Nat.lt_trichotomy j w.heap.size with h | h | h
    · rw [Lib.bytesWorld_at_old _ _ _ _ h, heap_push_old _ h]
    · subst h; rw [Lib.bytesWorld_at_new]; simp
    · rw [Array.getElem?_eq_none (by rw [Lib.bytesWorld_size]; omega), Array.getElem?_eq_none (by rw [Array.size_push]; omega)]
  have h2 : Lib.bytesWorld w e s = { w.drew with heap := (Lib.bytesWorld w e s).heap } := rfl
  rw [h2, hh]; rfl
theorem strBytes_sound {h h' : H} (k : HR m h w) {s d el : TypeId} {l c : Nat} {v : V} {u : Value} (hs : P.underlying s = some .string) (hd : P.underlying d = some (.slice el)) (he : P.underlying el = some (.int .u8)) (hx : R m (.s l c) u)
    (hn : newC el h 1 (byteInts (bytesOf l c)) (fun i => .sl i 0 l 1) = .ok v h') :
    ∃ u' w' m', (convert s d u).run P w = .ok u' w' ∧ Fr m h w m' h' w' ∧ R m' v u' := by
  rw [R_str] at hx; obtain ⟨b, rfl, hb, hc⟩ := hx
  have hsz := str_size hb
  have kd : HR m h w.drew := k.drawn _
  rw [← hb] at hn
  obtain ⟨h1, h2, h3⟩ := byteInts_spec (m := m) b.data.toList
  have hge := grownCap_ge w b.size 0 el
  have hCs : (Lib.bytesCells w el b).size = grownCap w b.size 0 el := by
    have : b.data.size = b.size := rfl
    simp [Lib.bytesCells]; omega
  obtain ⟨m', hF, hm, rfl⟩ := newC_fr kd hn h2 h3 (by simp [scalar]) (C := Lib.bytesCells w el b) (extra := List.replicate (grownCap w b.size 0 el - b.size) (.int .u8 0)) (by simp [Lib.bytesCells]) el
    ((Lib.bytesCells w el b).size, (Lib.bytesCells w el b).size + 1) (.inr ⟨rfl, Nat.le_refl _⟩)
  refine ⟨_, _, m', Lib.run_convert_string_bytes w s d el b hs hd he, ?_, ?_⟩
  · rw [bytesWorld_eq]; exact (Fr.drawn k _).trans hF
  · simp only [R]
    refine ⟨_, grownCap w b.size 0 el, hm, by simp [hsz], by omega, ?_⟩
    show 0 + grownCap w b.size 0 el * 1 ≤ (Lib.bytesCells w el b).size
    omega
theorem bytesTo_spec : ∀ (els : List (List V)) {bs : List Nat} {us : List Value}, bytesTo els = some bs → Rl m els.flatten us → us = bs.map (fun n : Nat => Value.int .u8 (n : Int)) ∧ (∀ n ∈ bs, n < 256) ∧ bs.length = els.length
  | [], bs, us, hb, hr => by
    simp only [bytesTo, Option.some.injEq] at hb; subst hb
    simp only [List.flatten_nil, Rl] at hr; subst hr
    simp
  | el :: els, bs, us, hb, hr => by
    unfold bytesTo at hb
    split at hb
    · rename_i e; cases e
    · rename_i n r e
      cases e
      cases hn : Nat.ble n 255 with
      | false => rw [hn] at hb; cases hb
      | true =>
        rw [hn] at hb
        simp only [cond_true] at hb
        cases hr2 : bytesTo els with
        | none => rw [hr2] at hb; cases hb
        | some l =>
          rw [hr2] at hb; cases hb
          simp only [List.flatten_cons, List.cons_append, List.nil_append, Rl] at hr
          obtain ⟨u, us', rfl, hu, hrest⟩ := hr
          simp only [R] at hu; subst hu
          obtain ⟨g1, g2, g3⟩ := bytesTo_spec els hr2 hrest
          have := Nat.le_of_ble_eq_true hn
          refine ⟨by simp [g1], ?_, by simp [g3]⟩
          intro x hx
          rcases List.mem_cons.1 hx with rfl | hx
          · omega
          · exact g2 x hx
    · cases hb
theorem bytesIn_fold : ∀ (bs : List Nat) (s : ByteArray), (∀ n ∈ bs, n < 256) → bytesIn ((bs.map Int.ofNat).foldl (fun r n => r.push (UInt8.ofNat n.toNat)) s) = bytesIn s ++ bs
  | [], s, _ => by simp
  | n :: bs, s, h => by
    rw [List.map_cons, List.foldl_cons, bytesIn_fold bs _ (fun x hx => h x (by simp [hx]))]
    have hn := h n (by simp)
    have : bytesIn (s.push (UInt8.ofNat (Int.ofNat n).toNat)) = bytesIn s ++ [n] := by
      obtain ⟨⟨l⟩⟩ := s
      simp only [bytesIn, ByteArray.push]
      simp
      omega
    rw [this]; simp
theorem toStr_sound {h h' : H} (k : HR m h w) {s d el : TypeId} {x v : V} {u : Value} (hs : P.underlying s = some (.slice el)) (hd : P.underlying d = some .string) (he : P.underlying el = some (.int .u8)) (hx : R m x u)
    (hn : toStr h x = .ok v h') : ∃ u' w' m', (convert s d u).run P w = .ok u' w' ∧ Fr m h w m' h' w' ∧ R m' v u' := by
  unfold toStr at hn
  split at hn
  · cases hn
  · rename_i hns
    split at hn
    · rename_i els hel
      split at hn
      · rename_i bs hbs
        cases hn
        obtain ⟨us, g1, g2, g3, g4, g5, g6⟩ := elems_sound (P := P) (sz := 0) k hx hel
        obtain ⟨q1, q2, q3⟩ := bytesTo_spec els hbs g3
        have hf := g6 els.length (Nat.le_refl _)
        have hsl : ∃ a len cap, u = .slice a len cap := by
          unfold elemsOf at hel
          split at hel
          · simp only [R] at hx; exact ⟨_, _, _, hx⟩
          · simp only [R] at hx; obtain ⟨a, cap, rfl⟩ := hx; exact ⟨_, _, _, rfl⟩
          · simp only [R] at hx; obtain ⟨l, cap, _, rfl, _⟩ := hx; exact ⟨_, _, _, rfl⟩
          · exact absurd rfl (hns _ _)
          · cases hel
        obtain ⟨a, len, cap, rfl⟩ := hsl
        have hlen : len = els.length := by simp [Builtin.lenOf] at g5; exact g5
        rw [run_convert_bytes_string w s d el a len cap hs he hd]
        cases a with
        | none =>
          have hus : us = [] := by
            rw [List.take_of_length_le (by omega)] at hf
            simp only [Builtin.firstCells, Sem.run_pure] at hf
            injection hf with e1 e2
            have := congrArg Array.toList e1
            exact this.symm
          have hb0 : bs = [] := by rw [hus] at q1; cases bs with | nil => rfl | cons _ _ => simp at q1
          subst hb0
          refine ⟨.string .empty, w, m, by simp [Conv.bytesToString], Fr.refl k, ?_⟩
          have hR := R_strOf m ByteArray.empty
          simpa [bytesIn] using hR
        | some a =>
          simp only [Builtin.firstCells] at hf
          have hld : (loadCells a len).run P w = .ok ((bs.map Int.ofNat).map (Value.int .u8)).toArray w := by
            rw [hlen]
            have h8 : els.length * (0 + 1) = els.length := by omega
            rw [h8] at hf
            rw [hf, List.take_of_length_le (by omega), q1]
            simp
          refine ⟨_, w, m, run_bytesToString w a len cap _ hld, Fr.refl k, ?_⟩
          have hb := bytesIn_fold bs ByteArray.empty q2
          have hR := R_strOf m ((bs.map Int.ofNat).foldl (fun r n => r.push (UInt8.ofNat n.toNat)) ByteArray.empty)
          rw [hb] at hR
          simpa [bytesIn] using hR
      · cases hn
    · cases hn
end Go.Ev
end
section
namespace Go.Ev
open Go
variable {P : Program} {m : Mp} {w : World}

theorem clear_sound {h h' : H} (k : HR m h w) {sz : Nat} {x v z : V} {zc : List V} {ux : Value} {ts : Array TypeId} {t ty el : TypeId} (h0 : ts[0]? = some t) (hu : P.underlying t = some (.slice el))
    (hz : zeroT P el = some z) (hc : cellsQ z = some zc) (hzl : zc.length = sz + 1) (hx : R m x ux) (ha : clearF h (sz + 1) zc x = .ok v h') :
    ∃ u w' m', (Builtin.clear_ ts ty #[ux]).run P w = .ok u w' ∧ Fr m h w m' h' w' ∧ R m' v u := by
  obtain ⟨uz, hzr, rfl, _⟩ := zeroT_run (w := w) hz
  obtain ⟨zc', h1, h2, h3⟩ := cst_cells (m := m) hc
  have hzl' : uz.cells.size = sz + 1 := by rw [h1]; show zc'.length = _; rw [h2.length, hzl]
  unfold clearF at ha
  split at ha
  · rename_i b o len zz
    split at ha
    · rename_i szb els f tyb hb
      cases hcd : (Nat.beq szb (sz + 1) && (Nat.beq zz (sz + 1) && Nat.beq (Nat.mod o (sz + 1)) 0)) with
      | false => rw [hcd] at ha; cases ha
      | true =>
      rw [hcd] at ha
      simp only [cond_true] at ha
      simp only [Bool.and_eq_true] at hcd
      have e1 := Nat.eq_of_beq_eq_true hcd.1; subst e1
      have e2 := Nat.eq_of_beq_eq_true hcd.2.1; subst e2
      have e3 : o % (sz + 1) = 0 := Nat.eq_of_beq_eq_true hcd.2.2
      have hq : o / (sz + 1) * (sz + 1) = o := by have := Nat.div_add_mod o (sz + 1); rw [Nat.mul_comm, e3] at this; simpa using this
      simp only [R] at hx; obtain ⟨l, cap, hl, rfl, hlc, hlim⟩ := hx
      split at ha
      · rename_i els' hov
        cases ha
        obtain ⟨w', r1, r2⟩ := over_els (P := P) (q := o / (sz + 1)) k hb hl (h2.rep len) (rep_scalar h3 len) (by
          intro e0 he; rw [repN_eq] at he; rw [(List.mem_replicate.1 he).2, hzl]) hov
        rw [hq] at r1
        have hzero : (Builtin.zeroCells uz.cells len).toList = (List.replicate len zc').flatten := by
          rw [Builtin.zeroCells, zeros_eq uz.cells len (by omega), h1]
        refine ⟨.tuple #[], w', m, ?_, r2, by simp [R, Rl, undefV]⟩
        cases len with
        | zero =>
          simp only [List.replicate_zero, List.flatten_nil, storeCells, Sem.run_pure] at r1
          cases r1
          simp [Builtin.clear_, h0, run_underlying hu]
        | succ n =>
          simp [Builtin.clear_, h0, run_underlying hu, hzr, hzero, r1]
      · cases ha
    · cases ha
  · cases ha
    simp only [R] at hx; subst hx
    exact ⟨.tuple #[], w, m, by simp [Builtin.clear_, h0, run_underlying hu], Fr.refl k, by simp [R, Rl, undefV]⟩
  · cases ha
    simp only [R] at hx; obtain ⟨a, cap, rfl⟩ := hx
    exact ⟨.tuple #[], w, m, by simp [Builtin.clear_, h0, run_underlying hu], Fr.refl k, by simp [R, Rl, undefV]⟩
  · cases ha
end Go.Ev
end
section
namespace Go.Ev
open Go
variable {P : Program} {m : Mp} {w : World}

theorem freeze_eq {a : Addr} {n : Nat} {C : Array Value} {t : TypeId} {fz : Nat × Nat} (h : w.heap[a.block]? = some (.cells C t fz)) (hn : n ≠ 0) :
    ∃ fz', w.freeze a n = { w with heap := w.heap.setIfInBounds a.block (.cells C t fz') } := by
  obtain ⟨lo, hi⟩ := fz
  refine ⟨if lo == hi then (a.off, a.off + n) else (min lo a.off, max hi (a.off + n)), ?_⟩
  unfold World.freeze
  rw [if_neg hn]
  congr 1
  apply Array.ext_getElem?
  intro j
  rw [Array.getElem?_modify, Array.getElem?_setIfInBounds]
  have hlt := (Array.getElem?_eq_some_iff.1 h).1
  by_cases e : a.block = j
  · subst e
    rw [h]
    simp [hlt]
  · simp [e]
theorem Fr.updCellsR {m : Mp} {h : H} {w w' : World} (k : HR m h w) {b f : Id} {sz : Nat} {els els' : List (List V)} {ro ro' : Rw} {l : Loc} {o' : Obj}
    (hb : mget b h.mem = some (.cells sz els f ro)) (hro : ro ≠ .fz) (hl : m b = some l)
    (hw' : w' = { w with heap := w.heap.setIfInBounds l.blk o' })
    (hob : w'.heap[l.blk]? = some o' → ObjAt m w' l (.cells sz els' f ro')) :
    Fr m h w m (setO (loneH h f b) b (.cells sz els' f ro')) w' := by
  rw [setO_eq, loneH_eq]
  have hk : ∀ x ox, mget x (killM (others b (fget f h.fams)) h.mem) = some ox → mget x h.mem = some ox ∧ (x ∈ fget f h.fams → x = b) := by
    intro x ox hx
    rw [mget_killM] at hx
    split at hx
    · cases hx
    · rename_i hn
      refine ⟨hx, fun hm => ?_⟩
      by_cases e : x = b
      · exact e
      · exact absurd ((others_mem b _ x).2 ⟨hm, e⟩) hn
  refine Fr.upd k hb hl (by simpa [writable] using hro) (fun x ox hx => (hk x ox hx).1) ?_ ?_ ?_ ?_ (fun sz1 els1 f1 ro1 e => by cases e; exact ⟨b, _, _, _, hb⟩) ?_ hw' hob
  · intro x ox lx hne hx hlx heq
    obtain ⟨hx1, hm⟩ := hk x ox hx
    have hs := k.sep x b ox _ lx l hx1 hb hlx hl hne heq
    cases ox with
    | cells sz1 els1 f1 ro1 =>
      have hf : f1 = f := hs
      subst hf
      exact hne (hm (k.fam x b _ _ _ _ _ _ _ hx1 hb hne))
    | _ => exact hs
  · intro x y sz1 els1 f1 ro1 sz2 els2 ro2 hx hy hne
    have hx' : x = b ∧ f1 = f ∨ x ≠ b ∧ mget x h.mem = some (.cells sz1 els1 f1 ro1) ∧ (x ∈ fget f h.fams → x = b) := by
      by_cases e : x = b
      · subst e; rw [mget_mput] at hx; cases hx; exact .inl ⟨rfl, rfl⟩
      · rw [mget_mput_ne e] at hx; exact .inr ⟨e, hk x _ hx⟩
    have hy' : y = b ∧ f1 = f ∨ y ≠ b ∧ mget y h.mem = some (.cells sz2 els2 f1 ro2) ∧ (y ∈ fget f h.fams → y = b) := by
      by_cases e : y = b
      · subst e; rw [mget_mput] at hy; cases hy; exact .inl ⟨rfl, rfl⟩
      · rw [mget_mput_ne e] at hy; exact .inr ⟨e, hk y _ hy⟩
    by_cases hf : f1 = f
    · subst hf
      rcases hx' with ⟨rfl, _⟩ | ⟨hn1, hx1, hm1⟩
      · rcases hy' with ⟨rfl, _⟩ | ⟨hn2, hy1, hm2⟩
        · exact absurd rfl hne
        · exact absurd (hm2 (k.fam y x _ _ _ _ _ _ _ hy1 hb hn2)) hn2
      · exact absurd (hm1 (k.fam x b _ _ _ _ _ _ _ hx1 hb hn1)) hn1
    · have hx1 : mget x h.mem = some (.cells sz1 els1 f1 ro1) := by
        rcases hx' with ⟨_, e⟩ | ⟨_, hx1, _⟩
        · exact absurd e hf
        · exact hx1
      have hy1 : mget y h.mem = some (.cells sz2 els2 f1 ro2) := by
        rcases hy' with ⟨_, e⟩ | ⟨_, hy1, _⟩
        · exact absurd e hf
        · exact hy1
      have := k.fam x y _ _ _ _ _ _ _ hx1 hy1 hne
      show x ∈ fget f1 _
      split
      · exact this
      · rw [fget_fput_ne hf]; exact this
  · intro f1
    show (fget f1 _).Pairwise _
    split
    · exact k.ord f1
    · by_cases e : f1 = f
      · subst e; rw [fget_fput]; exact .nil
      · rw [fget_fput_ne e]; exact k.ord f1
  · intro sz1 els1 f1 ro1 e; cases e; exact k.famlt _ _ _ _ _ hb
  · intro f1 x hx
    have hx' : x ∈ fget f1 (if fget f h.fams = [] then h.fams else fput f [] h.fams) := hx
    split at hx'
    · exact k.flt f1 x hx'
    · by_cases e : f1 = f
      · subst e; rw [fget_fput] at hx'; cases hx'
      · rw [fget_fput_ne e] at hx'; exact k.flt f1 x hx'
theorem ustr_sound {h h' : H} (k : HR m h w) {t t2 el ty : TypeId} {ts : List TypeId} {x v : V} {ux : Value} {n : Nat} (hu : P.underlying t = some (.pointer el)) (hs : sizeT P el = some 1) (hx : R m x ux)
    (hv : ustrF el h x n = .ok v h') : ∃ u w' m', (Builtin.unsafeString_ ⟨t :: t2 :: ts⟩ ty #[ux, .int .i64 (n : Int)]).run P w = .ok u w' ∧ Fr m h w m' h' w' ∧ R m' v u := by
  have hmax : IntKind.i64.max = 9223372036854775807 := rfl
  have h0t : (⟨t :: t2 :: ts⟩ : Array TypeId)[0]? = some t := by simp
  unfold ustrF at hv
  cases n with
  | zero =>
    simp only at hv
    have hp : ∃ p, ux = .pointer p := by
      split at hv
      · simp only [R] at hx; exact ⟨_, hx⟩
      · simp only [R] at hx; obtain ⟨l, _, hx⟩ := hx; exact ⟨_, hx⟩
      · cases hv
    have hv' : v = .s 0 0 ∧ h' = h := by
      split at hv
      · cases hv; exact ⟨rfl, rfl⟩
      · cases hv; exact ⟨rfl, rfl⟩
      · cases hv
    obtain ⟨p, rfl⟩ := hp
    obtain ⟨rfl, rfl⟩ := hv'
    refine ⟨.string .empty, w, m, ?_, Fr.refl k, ?_⟩
    · cases p with
      | none =>
        rfl
      | some a =>
        rfl
    · have := R_strOf m ByteArray.empty
      simpa [bytesIn, strOf, codeOf] using this
  | succ n =>
    simp only at hv
    obtain ⟨b, o, e0, hv1⟩ := as_p_H_ok hv
    clear hv
    have hv := hv1
    clear hv1
    subst e0
    simp only [R] at hx
    obtain ⟨l, hl, rfl⟩ := hx
    split at hv
    · rename_i sz els f ro hb
      split at hv
      case h_2 => cases hv
      rename_i tyb hty
      cases hcd : (Nat.beq sz 1 && (Nat.beq tyb el && Nat.ble n 1000000)) with
      | false => rw [hcd] at hv; cases hv
      | true =>
        rw [hcd] at hv
        simp only [cond_true] at hv
        simp only [Bool.and_eq_true] at hcd
        have e1 := Nat.eq_of_beq_eq_true hcd.1; subst e1
        have e2 := Nat.eq_of_beq_eq_true hcd.2.1; subst e2
        have e3 := Nat.le_of_ble_eq_true hcd.2.2
        split at hv
        · rename_i L hL
          split at hv
          · rename_i bs hbs
            cases hv
            obtain ⟨l2, hl2, C, tC, fz, hc⟩ := k.obj _ _ hb
            rw [hl] at hl2; cases hl2
            have ht := hc.typ _ hty
            subst ht
            rw [dropL_eq] at hL
            obtain ⟨g1, g2⟩ := takeL_eq _ _ _ hL
            have hlen0 : o + (n + 1) ≤ els.length := by rw [List.length_drop] at g1; omega
            obtain ⟨us, s1, s2, s3, s4, s5, s6⟩ := els_spec (o := o) (len := n + 1) hc (Nat.mod_one _) (by rw [Nat.div_one]; exact g1)
            rw [Nat.div_one, ← g2] at s4
            obtain ⟨q1, q2, q3⟩ := bytesTo_spec L hbs s4
            have hus : us.length = n + 1 := by rw [s3]; omega
            have hbl : bs.length = n + 1 := by rw [q1] at hus; simpa using hus
            have hcell : ∀ j y, (bs.map UInt8.ofNat)[j]? = some y → w.cell? ((⟨l.blk, l.base + o, none⟩ : Addr).add j) = some (.int .u8 y.toNat) := by
              intro j y hy
              rw [addr_add, cell_of hc.at_]
              have hy2 : us[j]? = some (.int .u8 (y.toNat : Int)) := by
                rw [q1]
                rw [List.getElem?_map] at hy ⊢
                cases hbj : bs[j]? with
                | none => rw [hbj] at hy; cases hy
                | some x =>
                  rw [hbj] at hy
                  simp only [Option.map_some, Option.some.injEq] at hy ⊢
                  subst hy
                  have hlt := q2 x (List.mem_of_getElem? hbj)
                  simp [Nat.mod_eq_of_lt hlt]
              exact s6 j _ hy2
            have hload := Lib.run_loadBytes (P := P) w (bs.map UInt8.ofNat) ⟨l.blk, l.base + o, none⟩ .empty hcell
            rw [List.length_map, hbl] at hload
            have hroom := hc.room; have hlim := hc.len
            have hfl := flat_len hc.each
            have hlies := liesAt_row (P := P) (cells := C.size) (off := l.base + o) (n := n + 1) (cellsOf_sizeT hs) Nat.one_pos (Nat.mod_one _) (by omega)
            have hsh := shape_of hc.at_
            obtain ⟨fz', hfz⟩ := freeze_eq (w := w) (a := ⟨l.blk, l.base + o, none⟩) (n := n + 1) hc.at_ (by omega)
            have hneg : ¬ ((n : Int) + 1 < 0) := by omega
            have hbig : ¬ ((9223372036854775807 : Int) < (n : Int) + 1) := by omega
            have hnz : ¬ ((n : Int) + 1 = 0) := by omega
            have htn : ((n : Int) + 1).toNat = n + 1 := by omega
            refine ⟨.string ⟨ByteArray.empty.data ++ (bs.map UInt8.ofNat).toArray⟩, w.freeze ⟨l.blk, l.base + o, none⟩ (n + 1), m, ?_, ?_, ?_⟩
            · have hdef : ∃ s1 s2 s3, Builtin.unsafeString_ ⟨t :: t2 :: ts⟩ ty #[.pointer (some ⟨l.blk, l.base + o, none⟩), .int .i64 ((n + 1 : Nat) : Int)] =
                (do
                  let n ← asInt (.int .i64 ((n + 1 : Nat) : Int))
                  if n < 0 then runtimePanic (.error s1)
                  if n > IntKind.i64.max then unsupported (.unsafePointer s2)
                  if n = 0 then pure (.string .empty)
                  else if ← variablesAt ⟨l.blk, l.base + o, none⟩ (← elemOf t) n.toNat then do
                    let s ← loadBytes ⟨l.blk, l.base + o, none⟩ .empty n.toNat
                    freeze ⟨l.blk, l.base + o, none⟩ n.toNat
                    pure (.string s)
                  else unsupported (.unsafePointer s3)) := ⟨_, _, _, rfl⟩
              obtain ⟨s1, s2, s3, hdef⟩ := hdef
              rw [hdef]
              simp [asInt, asIntOf, hmax, hneg, hbig, hnz, htn, variablesAt, elemOf, run_underlying hu, hsh, hlies, hload]
            · rw [hfz]
              refine Fr.updCellsR k hb (fun e => by subst e; cases hty) hl rfl ?_
              intro hat
              exact ⟨C, _, fz', ⟨hat, hc.room, hc.len, hc.each, hc.val, (fun hx => Bool.noConfusion hx), (fun hx => Bool.noConfusion hx), (fun ty e => Option.some.inj e), hc.al⟩⟩
            · have hR := R_strOf m (⟨ByteArray.empty.data ++ (bs.map UInt8.ofNat).toArray⟩ : ByteArray)
              have hbi : bytesIn (⟨ByteArray.empty.data ++ (bs.map UInt8.ofNat).toArray⟩ : ByteArray) = bs := by
                simp only [bytesIn]
                have : (ByteArray.empty.data ++ (bs.map UInt8.ofNat).toArray).toList = bs.map UInt8.ofNat := by simp
                rw [this, List.map_map]
                have hid : ∀ x ∈ bs, (UInt8.toNat ∘ UInt8.ofNat) x = x := fun x hx => by
                  have := q2 x hx
                  simp [Nat.mod_eq_of_lt this]
                rw [List.map_congr_left hid]; simp
              rw [hbi] at hR; exact hR
          · cases hv
        · cases hv
    · cases hv
end Go.Ev
end
section
namespace Go.Ev
open Go
variable {P : Program} {m : Mp} {w : World}

/-- what calls must come to -/
def CallOK (P : Program) (call : CallT) : Prop :=
  ∀ (f : FuncId) (vs : List V) (us : List Value) (m : Mp) (h : H) (w : World) (v : V) (h' : H), HR m h w → Gl P m → Rl m vs us → call f vs h = .ok v h' → HvOk P ((callFunc f ⟨us⟩).run P w) m h w v h'
theorem HvOk.val {s : Sem Value} {h h' : H} {v : V} (hs : ∃ u w' m', s.run P w = .ok u w' ∧ Fr m h w m' h' w' ∧ R m' v u) : HvOk P ((do pure (Next.value (← s)) : Sem Next).run P w) m h w v h' := by
  obtain ⟨u, w', m', h1, h2, h3⟩ := hs
  exact .inl ⟨u, w', m', .inl (by simp [h1]), h2, h3⟩
theorem HvOk.unit {s : Sem Unit} {h h' : H} {v : V} (hs : ∃ w' m', s.run P w = .ok () w' ∧ Fr m h w m' h' w' ∧ R m' v undef) : HvOk P ((do s; pure Next.skip : Sem Next).run P w) m h w v h' := by
  obtain ⟨w', m', h1, h2, h3⟩ := hs
  exact .inl ⟨undef, w', m', .inr ⟨by simp [h1], rfl⟩, h2, h3⟩
theorem callH_sound {n : Nat} {e : Env} {a : Act} {call : CallT} (hcall : CallOK P call) (k : EnvR m n e a) (hg : Gl P m) {h h' : H} (hr : HR m h w) {c : Call} {ty : TypeId}
    (hops : (Op.call c).operands.toList.all (opOk P n) = true) {v : V} (hv : (callH P c).run call e h = .ok v h') :
    HvOk P ((do let d ← resolve a.eval c ty; invoke d.target d.args : Sem Next).run P w) m h w v h' := by
  obtain ⟨callee, args, argTypes⟩ := c
  obtain ⟨args⟩ := args
  obtain ⟨argTypes⟩ := argTypes
  unfold callH at hv
  simp only [Op.operands] at hops
  cases callee with
  | value f =>
    simp [Call.operands] at hops
    have hF := opnd_sound k hg hops.1
    obtain ⟨g, A, B, e1, hv⟩ := as_fn_H_ok hv
    rw [e1] at hF
    simp only [R] at hF
    obtain ⟨a', c', hu, hA, hB⟩ := hF
    split at hv
    · rename_i fid
      have hargs := opnds_sound k hg (xs := args) (by simpa using hops.2)
      rw [appV_eq, appV_eq] at hv
      have := hcall fid _ _ m h w v h' hr hg (hA.append (hargs.append hB)) hv
      simpa [resolve, hu, Deferred.ofValue, invoke] using this
    · cases hv
  | invoke r nm => cases hv
  | builtin b =>
    simp [Call.operands] at hops
    simp only at hv
    split at hv
    · rename_i e0; cases e0
    · rename_i x y t t2 ts e0
      cases e0
      simp at hops
      have hX := opnd_sound k hg hops.1
      have hY := opnd_sound k hg hops.2
      unfold appC at hv
      split at hv
      · cases hv
      · rename_i el u2 hni hu hu2
        split at hv
        · rename_i sz z hs hz
          split at hv
          · rename_i zc inf hc hi
            cases hcd : (Nat.ble inf.bytes 1000000 && Nat.beq (lenV1 zc) (sz + 1)) with
            | false => rw [hcd] at hv; cases hv
            | true =>
              rw [hcd] at hv
              simp only [cond_true] at hv
              simp only [Bool.and_eq_true] at hcd
              split at hv
              · rename_i new he
                obtain ⟨uz, hzr, rfl, i2, hi2, hzi⟩ := zeroT_run (w := w) hz
                rw [hi] at hi2; cases hi2
                obtain ⟨zc', h1, h2, h3⟩ := cst_cells (m := m) hc
                obtain ⟨i3, hi3, hsz⟩ := sizeT_info hs
                rw [hi] at hi3; cases hi3
                have hzl : uz.cells.size = sz + 1 := by
                  rw [h1]; show zc'.length = _
                  rw [h2.length, ← lenV1_eq]; exact Nat.eq_of_beq_eq_true hcd.2
                have T : AppTy P ⟨t :: t2 :: ts⟩ (sz + 1) el inf uz := ⟨⟨t, t2, u2, by simp, by simp, hu, hu2, hni⟩, hi, hzi, hsz, hzl, Nat.le_of_ble_eq_true hcd.1⟩
                have := HvOk.val (append_sound (ty := ty) hr T hX hY he hv)
                simpa [resolve, invoke, builtin] using this
              · cases hv
          · cases hv
        · cases hv
      · cases hv
    · rename_i x y t ts e0
      cases e0
      simp at hops
      have hX := opnd_sound k hg hops.1
      have hY := opnd_sound k hg hops.2
      unfold copyC at hv
      split at hv
      · rename_i el hu
        split at hv
        · rename_i sz hs
          obtain ⟨inf, hi, hsz⟩ := sizeT_info hs
          cases he : elemsOf h (sz + 1) ((opnd y).run e) with
          | none =>
            simp only [he] at hv
            unfold copyF at hv
            cases hv
          | some src =>
            simp only [he] at hv
            have := HvOk.val (copy_sound (P := P) (ts := ⟨t :: ts⟩) (ty := ty) hr (by simp) hu hi hsz hX hY he hv)
            simpa [resolve, invoke, builtin] using this
        · cases hv
      · cases hv
    · rename_i x t ts e0
      cases e0
      simp at hops
      have hX := opnd_sound k hg hops
      unfold clearC at hv
      split at hv
      · rename_i el hu
        split at hv
        · rename_i sz z hs hz
          split at hv
          · rename_i zc hc
            cases hcd : (Nat.beq (lenV1 zc) (sz + 1)) with
            | false => rw [hcd] at hv; cases hv
            | true =>
              rw [hcd] at hv
              simp only [cond_true] at hv
              have := HvOk.val (clear_sound (P := P) (ts := ⟨t :: ts⟩) (ty := ty) hr (by simp) hu hz hc (by rw [← lenV1_eq]; exact Nat.eq_of_beq_eq_true hcd) hX hv)
              simpa [resolve, invoke, builtin] using this
          · cases hv
        · cases hv
      · cases hv
    · rename_i x kk t ts e0
      cases e0
      simp at hops
      have hX := opnd_sound k hg hops.1
      have hY := opnd_sound k hg hops.2
      unfold delC at hv
      split at hv
      · rename_i kt et hu
        obtain ⟨b, e1, hv⟩ := as_mp_H_ok hv
        rw [e1] at hX
        simp only [R] at hX
        obtain ⟨l, hl, hu2⟩ := hX
        obtain ⟨rfl, w', r1, r2⟩ := mapDel_sound (P := P) (ts := ts) (ty := ty) hr hu hl hY hv
        have := HvOk.val (P := P) ⟨_, w', m, r1, r2, show R m undefV (.tuple #[]) by simp [R, Rl, undefV]⟩
        simpa [resolve, invoke, builtin, hu2] using this
      · cases hv
    · rename_i x nn t t2 ts e0
      cases e0
      simp at hops
      have hX := opnd_sound k hg hops.1
      have hN := opnd_sound k hg hops.2
      unfold ustrC at hv
      split at hv
      · rename_i el hu
        split at hv
        · rename_i hs
          simp only at hv
          split at hv
          · rename_i N e1
            rw [e1] at hN
            simp only [R] at hN
            have := HvOk.val (P := P) (ustr_sound (P := P) (ty := ty) (t2 := t2) (ts := ts) hr hu hs hX hv)
            have hm : (⟨[x, nn]⟩ : Array Operand).map a.eval = #[a.eval x, .int .i64 (Int.ofNat N)] := by simp [hN]
            simpa [resolve, invoke, builtin, hN] using this
          · cases hv
        · cases hv
      · cases hv
    · cases hv
theorem heavy_sound {n : Nat} {e : Env} {a : Act} {call : CallT} (hcall : CallOK P call) (k : EnvR m n e a) (hg : Gl P m) {h h' : H} (hr : HR m h w) {o : Oper} (hops : o.op.operands.toList.all (opOk P n) = true) {v : V}
    (hv : (heavyC P o.op).run call e h = .ok v h') : HvOk P ((execOp a.eval o).run P w) m h w v h' := by
  obtain ⟨dst, op, type, pos, after, guard⟩ := o
  simp only at hops hv
  have op1 : ∀ {x : Operand}, opOk P n x = true → R m ((opnd x).run e) (a.eval x) := fun hx => opnd_sound k hg hx
  cases op <;> simp only [heavyC] at hv <;> (try (cases hv; done))
  case call c => exact callH_sound hcall k hg hr hops hv
  case alloc t =>
    split at hv
    · rename_i z hz
      split at hv
      · rename_i c hc
        exact HvOk.val (alloc_sound hr hz hc hv)
      · cases hv
    · cases hv
  case box t x =>
    have hX := op1 (show opOk P n x = true by simpa [Op.operands] using hops)
    cases hc : cellsQ ((opnd x).run e) with
    | none => simp only [hc] at hv; cases hv
    | some c =>
      simp only [hc] at hv
      exact HvOk.val (box_sound hr hX hc hv)
  case makeMap t r =>
    cases r with
    | none => exact HvOk.val (makeMap_sound hr (.inl rfl) hv)
    | some x =>
      have hX := op1 (show opOk P n x = true by simpa [Op.operands] using hops)
      simp only at hv
      split at hv
      · rename_i kt et hu
        obtain ⟨kk, nn, e1, hv⟩ := as_i_H_ok hv
        rw [e1] at hX
        simp only [R] at hX
        exact HvOk.val (makeMap_sound hr (.inr ⟨kt, et, kk, nn, hu, by rw [Option.map_some, hX]⟩) hv)
      · cases hv
  case range t x =>
    have hX := op1 (show opOk P n x = true by simpa [Op.operands] using hops)
    split at hv
    · rename_i hu
      obtain ⟨l, c, e1, hv⟩ := as_s_H_ok hv
      rw [e1] at hX
      exact HvOk.val (rangeS_sound (x := .sn) hr hu hX hv)
    · rename_i kt et hu
      obtain ⟨b, e1, hv⟩ := as_mp_H_ok hv
      rw [e1] at hX
      simp only [R] at hX
      obtain ⟨l, hl, hu2⟩ := hX
      split at hv
      · rename_i es clock he
        have := HvOk.val (P := P) (rangeM_sound hr hu hl he hv)
        simpa [execOp, hu2] using this
      · cases hv
    · cases hv
  case next x isS =>
    have hX := op1 (show opOk P n x = true by simpa [Op.operands] using hops)
    cases isS with
    | true =>
      obtain ⟨b, o, e1, hv⟩ := as_p_H_ok hv
      rw [e1] at hX
      obtain ⟨l, hl, hu⟩ := R_p hX
      cases ho : Nat.beq o 0 with
      | false => rw [ho] at hv; cases hv
      | true =>
        rw [ho] at hv
        have := Nat.eq_of_beq_eq_true ho; subst this
        have := HvOk.val (P := P) (nextS_sound (ty := type) hr hl hv)
        simpa [execOp, hu] using this
    | false =>
      obtain ⟨b, o, e1, hv⟩ := as_p_H_ok hv
      rw [e1] at hX
      obtain ⟨l, hl, hu⟩ := R_p hX
      cases ho : Nat.beq o 0 with
      | false => rw [ho] at hv; cases hv
      | true =>
        rw [ho] at hv
        have := Nat.eq_of_beq_eq_true ho; subst this
        have := HvOk.val (P := P) (nextM_sound (ty := type) hr hl hv)
        simpa [execOp, hu] using this
  case convert s d x =>
    have hX := op1 (show opOk P n x = true by simpa [Op.operands] using hops)
    split at hv
    · rename_i el hs hd
      split at hv
      · rename_i he
        obtain ⟨l, c, e1, hv⟩ := as_s_H_ok hv
        rw [e1] at hX
        exact HvOk.val (strBytes_sound hr hs hd he hX hv)
      · cases hv
    · rename_i el hs hd
      split at hv
      · rename_i he
        exact HvOk.val (toStr_sound hr hs hd he hX hv)
      · cases hv
    · cases hv
  case mapUpdate t mm kx vx =>
    simp [Op.operands] at hops
    have hM := op1 hops.1
    have hK := op1 hops.2.1
    have hV := op1 hops.2.2
    split at hv
    · rename_i kt et hu
      obtain ⟨b, e1, hv⟩ := as_mp_H_ok hv
      rw [e1] at hM
      simp only [R] at hM
      obtain ⟨l, hl, hu2⟩ := hM
      obtain ⟨rfl, w', r1, r2⟩ := mapSet_sound hr hu hl hK hV hv
      have := HvOk.unit (P := P) ⟨w', m, r1, r2, show R m undefV undef by simp [R, Rl, undefV, undef]⟩
      simpa [execOp, hu2] using this
    · cases hv
  case insert t mm kx vx =>
    simp [Op.operands] at hops
    have hM := op1 hops.1
    have hK := op1 hops.2.1
    have hV := op1 hops.2.2
    split at hv
    · rename_i kt et hu
      obtain ⟨b, e1, hv⟩ := as_mp_H_ok hv
      rw [e1] at hM
      simp only [R] at hM
      obtain ⟨l, hl, hu2⟩ := hM
      obtain ⟨rfl, w', r1, r2⟩ := mapSet_sound hr hu hl hK hV hv
      have := HvOk.unit (P := P) ⟨w', m, r1, r2, show R m undefV undef by simp [R, Rl, undefV, undef]⟩
      simpa [execOp, hu2] using this
    · cases hv
  case mapEntry t mm kx =>
    simp [Op.operands] at hops
    have hM := op1 hops.1
    have hK := op1 hops.2
    split at hv
    · rename_i kt et hu
      split at hv
      · rename_i z hz
        obtain ⟨b, e1, hv⟩ := as_mp_H_ok hv
        rw [e1] at hM
        simp only [R] at hM
        obtain ⟨l, hl, hu2⟩ := hM
        obtain ⟨u, w', r1, r2, r3⟩ := mapEnt_sound hr hu hz hl hK hv
        have := HvOk.val (P := P) ⟨u, w', m, r1, r2, r3⟩
        simpa [execOp, hu2] using this
      · cases hv
    · cases hv
  case entryStore t mm sx vx =>
    simp [Op.operands] at hops
    have hM := op1 hops.1
    have hK := op1 hops.2.1
    have hV := op1 hops.2.2
    obtain ⟨b, e1, hv⟩ := as_mp_H_ok hv
    rw [e1] at hM
    simp only [R] at hM
    obtain ⟨l, hl, hu2⟩ := hM
    obtain ⟨kk, nn, e2, hv⟩ := as_i_H_ok hv
    rw [e2] at hK
    simp only [R] at hK
    split at hv
    · rename_i nn
      obtain ⟨rfl, w', r1, r2⟩ := entStore_sound (P := P) (t := t) (kk := kk) hr hl hV hv
      have := HvOk.unit (P := P) ⟨w', m, r1, r2, show R m undefV undef by simp [R, Rl, undefV, undef]⟩
      simpa [execOp, hu2, hK] using this
    · cases hv
  case buildSlice t len ps =>
    split at hv
    · rename_i el hu
      split at hv
      · rename_i sz z hs hz
        split at hv
        · rename_i zc hc
          cases hcd : (Nat.ble (len * (sz + 1)) 16777216 && Nat.beq (lenV1 zc) (sz + 1)) with
          | false => rw [hcd] at hv; cases hv
          | true =>
            rw [hcd] at hv
            simp only [cond_true] at hv
            simp only [Bool.and_eq_true] at hcd
            split at hv
            · rename_i cs hb
              exact HvOk.val (buildSlice_sound k hg hr hu (by simpa [Op.operands] using hops) hs hz hc (Nat.le_of_ble_eq_true hcd.1) (by rw [← lenV1_eq]; exact Nat.eq_of_beq_eq_true hcd.2) hb hv)
            · cases hv
        · cases hv
      · cases hv
    · cases hv
  case makeSlice t lx cx =>
    simp [Op.operands] at hops
    have hL := op1 hops.1
    have hC := op1 hops.2
    split at hv
    · rename_i el hu
      split at hv
      · rename_i sz z hs hz
        split at hv
        · rename_i zc inf hc hi
          cases hcd : (Nat.ble inf.bytes 1000000 && Nat.beq (lenV1 zc) (sz + 1)) with
          | false => rw [hcd] at hv; cases hv
          | true =>
            rw [hcd] at hv
            simp only [cond_true] at hv
            simp only [Bool.and_eq_true] at hcd
            obtain ⟨k1, n1, e1, hv1⟩ := as_i_H_ok hv
            clear hv
            obtain ⟨k2, n2, e2, hv⟩ := as_i_H_ok hv1
            clear hv1
            rw [e1] at hL; rw [e2] at hC
            simp only [R] at hL hC
            split at hv
            · rename_i N M
              cases hcd2 : (Nat.ble N M && Nat.ble M 100000) with
              | false => rw [hcd2] at hv; cases hv
              | true =>
                rw [hcd2] at hv
                simp only [cond_true] at hv
                simp only [Bool.and_eq_true] at hcd2
                have := HvOk.val (P := P) (makeSlice_sound (k1 := k1) (k2 := k2) hr hu hs hz hc hi (Nat.le_of_ble_eq_true hcd.1) (by rw [← lenV1_eq]; exact Nat.eq_of_beq_eq_true hcd.2) (Nat.le_of_ble_eq_true hcd2.1) (Nat.le_of_ble_eq_true hcd2.2) hv)
                simpa [execOp, hL, hC] using this
            · cases hv
        · cases hv
      · cases hv
    · cases hv
  case store t ax vx =>
    simp [Op.operands] at hops
    have hA := op1 hops.1
    have hV := op1 hops.2
    split at hv
    · rename_i nn hs
      obtain ⟨b, o, e1, hv⟩ := as_p_H_ok hv
      rw [e1] at hA
      obtain ⟨l, hl, hu⟩ := R_p hA
      cases hc : cellsQ ((opnd vx).run e) with
      | none => simp only [hc] at hv; cases hv
      | some c =>
        simp only [hc] at hv
        cases hn : Nat.beq (lenV1 c) nn with
        | false => rw [hn] at hv; cases hv
        | true =>
          rw [hn] at hv
          have hlen : c.length = nn := by rw [← lenV1_eq]; exact Nat.eq_of_beq_eq_true hn
          obtain ⟨c', h1, h2, h3⟩ := cellsQ_spec hV hc
          obtain ⟨inf, hi, hsz⟩ := sizeT_info hs
          obtain ⟨rfl, w', r1, r2⟩ := wr_sound (P := P) hr hl hlen h2 h3 hv
          have hcs : c'.length = nn := by rw [h2.length, hlen]
          have := HvOk.unit (P := P) (s := Instr.storeAt t (a.eval ax) (a.eval vx)) ⟨w', m, by
            simp [Instr.storeAt, hu, Instr.sureAddr, storeVar, sizeOf, typeInfo, hi, hsz, h1, hcs, r1], r2, show R m undefV undef by simp [R, Rl, undefV, undef]⟩
          simpa [execOp] using this
    · cases hv
end Go.Ev
end
section
namespace Go.Ev
open Go
variable {P : Program} {m : Mp} {w : World}

theorem heavy_wp {n : Nat} {e : Env} {a : Act} {h h' : H} {o : Oper} {v : V} {r : Result Next} (hv : HvOk P r m h w v h') {next : Act → World → Prop} {Q : Exit → Act → World → Prop}
    (hn : ∀ u m' w', Fr m h w m' h' w' → R m' v u → next (a.put o.dst u) w') : o.upon P a next Q r := by
  rcases hv with ⟨u, w', m', h1 | ⟨h1, h2⟩, hF, hR⟩ | ⟨f, us, h1, hC⟩
  · rw [h1, Oper.upon_value]; exact hn u m' w' hF hR
  · rw [h1, Oper.upon_skip, ← h2]; exact hn u m' w' hF hR
  · rw [h1, Oper.upon_enter]
    refine Calls.mono hC ?_
    rintro x w' ⟨u, m', rfl, hF, hR⟩
    exact hn u m' w' hF hR
def dstOk (n : Nat) : Option Tmp → Bool
  | none => true
  | some d => Nat.ble (Nat.succ d) n
theorem bareC_sound {n : Nat} {e e' : Env} {a : Act} {call : CallT} (hcall : CallOK P call) (k : EnvR m n e a) (hg : Gl P m) {h h' : H} (hr : HR m h w) {o : Oper} (hops : o.op.operands.toList.all (opOk P n) = true) (hd : dstOk n o.dst = true)
    (hv : (bareC P o).run call e h = .ok e' h') {next : Act → World → Prop} {Q : Exit → Act → World → Prop}
    (hn : ∀ m' a' w', Fr m h w m' h' w' → EnvR m' n e' a' → next a' w') : o.wp P a w next Q := by
  unfold Oper.wp
  unfold bareC at hv
  split at hv
  · rename_i f ts hop
    rw [hop] at hops
    simp [Op.operands, Call.operands] at hops
    have hF := opnd_sound k hg hops
    obtain ⟨L, hL, hDf⟩ := k.dfr
    cases hD : o.dst with
    | some d => rw [hD] at hv; cases hv
    | none =>
    rw [hD] at hv
    simp only [hL] at hv
    split at hv
    · rename_i g A B l e1 e2
      cases hv
      cases e2
      rw [e1] at hF
      simp only [R] at hF
      obtain ⟨a', c', hu, hA, hB⟩ := hF
      have hex : (execOp a.eval o).run P w = .ok (.defer { target := .fn g ⟨c'⟩, args := ⟨a'⟩ }) w := by
        simp [execOp, hop, resolve, hu, Deferred.ofValue]
      rw [hex, Oper.upon_defer, hD]
      refine hn m _ w (Fr.refl hr) ⟨k.size, k.le, fun t ht => ?_, _, by rw [eget_eset], ?_⟩
      · have hle := k.le
        rw [eget_eset_ne (by omega) (by unfold defSlot; omega) (by unfold defSlot; omega)]
        exact k.val t ht
      · exact ⟨a', c', _, rfl, hA, hB, hDf⟩
    · cases hv
  · cases hH : isHeavy P o.op <;> cases hD : o.dst <;> rw [hH, hD] at hv <;> simp only at hv
    · cases hl : (lightC P o.op).run e h with
      | none => rw [hl] at hv; cases hv
      | some v =>
        rw [hl] at hv
        cases hv
        obtain ⟨u, h1, h2⟩ := light_sound k hg hr hops hl
        rw [h1, Oper.upon_value, hD]
        exact hn m a w (Fr.refl hr) k
    · rename_i d
      cases hl : (lightC P o.op).run e h with
      | none => rw [hl] at hv; cases hv
      | some v =>
        rw [hl] at hv
        cases hv
        obtain ⟨u, h1, h2⟩ := light_sound k hg hr hops hl
        rw [h1, Oper.upon_value, hD]
        rw [hD] at hd
        exact hn m _ w (Fr.refl hr) (k.set (Nat.le_of_ble_eq_true hd) h2)
    · cases hl : (heavyC P o.op).run call e h with
      | bad => rw [hl] at hv; cases hv
      | ok v hx =>
        rw [hl] at hv
        cases hv
        refine heavy_wp (n := n) (e := e) (heavy_sound hcall k hg hr hops hl) ?_
        intro u m' w' hF hR
        rw [hD]
        exact hn m' a w' hF (k.mono hF.le)
    · rename_i d
      cases hl : (heavyC P o.op).run call e h with
      | bad => rw [hl] at hv; cases hv
      | ok v hx =>
        rw [hl] at hv
        cases hv
        refine heavy_wp (n := n) (e := e) (heavy_sound hcall k hg hr hops hl) ?_
        intro u m' w' hF hR
        rw [hD]
        rw [hD] at hd
        exact hn m' _ w' hF ((k.mono hF.le).set (Nat.le_of_ble_eq_true hd) hR)
end Go.Ev
end
section
namespace Go.Ev
open Go
variable (P : Program)

/-! new blocks, of what operands hold -/
structure NV where
  ob : Id → O
  v : Id → V
structure NOp where
  run : Env → Option NV
def badN : NOp := ⟨fun _ => none⟩
def newCv (ty : Nat) (sz : Nat) (els : List (List V)) (vf : Id → V) : NV := ⟨fun i => .cells sz els i (.rw ty), vf⟩
noncomputable def newP : Op → NOp
  | .alloc t => (match zeroT P t with
    | some z => (match cellsQ z with
      | some c => ⟨fun _ => some (newCv t (lenV1 c) [c] (fun i => .p i 0))⟩
      | none => badN)
    | none => badN)
  | .box t x => ⟨fun e => match cellsQ ((opnd x).run e) with | some c => some (newCv t (lenV1 c) [c] (fun i => .p i 0)) | none => none⟩
  | .buildSlice t len ps => (match P.underlying t with
    | some (.slice el) => (match sizeT P el, zeroT P el with
      | some (sz + 1), some z => (match cellsQ z with
        | some zc => bif Nat.ble (len * (sz + 1)) 16777216 && Nat.beq (lenV1 zc) (sz + 1) then
            ⟨fun e => match buildCells (fun i => some (i * (sz + 1), sz + 1)) ((repN zc len).flatten) ((pairs ps.toList).run e) with
              | some cs => some (newCv el (sz + 1) (chunks (sz + 1) len cs) (fun i => .sl i 0 len (sz + 1)))
              | none => none⟩ else badN
        | none => badN)
      | _, _ => badN)
    | _ => badN)
  | .makeSlice t l c => (match P.underlying t with
    | some (.slice el) => (match sizeT P el, zeroT P el with
      | some (sz + 1), some z => (match cellsQ z, P.info? el with
        | some zc, some inf => bif Nat.ble inf.bytes 1000000 && Nat.beq (lenV1 zc) (sz + 1) then
            ⟨fun e => match (opnd l).run e, (opnd c).run e with
              | .i _ (.ofNat n), .i _ (.ofNat m) => bif Nat.ble n m && Nat.ble m 100000 then some (newCv el (sz + 1) (repN zc m) (fun i => .sl i 0 n (sz + 1))) else none
              | _, _ => none⟩ else badN
        | _, _ => badN)
      | _, _ => badN)
    | _ => badN)
  | .makeMap _ none => ⟨fun _ => some ⟨fun _ => .map [] 0, fun i => .mp i⟩⟩
  | .makeMap t (some x) => (match P.underlying t with
    | some (.map _ _) => ⟨fun e => match (opnd x).run e with | .i _ _ => some ⟨fun _ => .map [] 0, fun i => .mp i⟩ | _ => none⟩
    | _ => badN)
  | .convert s d x => (match P.underlying s, P.underlying d with
    | some .string, some (.slice el) => (match P.underlying el with
      | some (.int .u8) => ⟨fun e => match (opnd x).run e with | .s l c => some (newCv el 1 (byteInts (bytesOf l c)) (fun i => .sl i 0 l 1)) | _ => none⟩
      | _ => badN)
    | _, _ => badN)
  | _ => badN

/-! regions whose order is drawn: what is light is done as early as it can be, new blocks get their numbers then and their cells later -/
def topEnv : Env := N8.all (N8.all (N8.all .top))
noncomputable def envM (e : Env) : List Nat → Env
  | [] => eset defSlot (eget defSlot e) topEnv
  | t :: l => eset t (eget t e) (envM e l)
def tmpsOf (l : List Operand) : List Nat := l.filterMap (fun | .tmp t => some t | _ => none)
def gDst (ops : List Oper) (o : Oper) : Option Nat := match o.guard with | some (g, _) => (nthO ops g).bind (·.dst) | none => none
def looksE (ops : List Oper) (o : Oper) : List Nat := tmpsOf o.op.operands.toList ++ (gDst ops o).toList
noncomputable def gdC (ops : List Oper) (o : Oper) (e : Env) : Option Bool :=
  match o.guard with
  | none => some true
  | some (j, want) => match (nthO ops j).bind (·.dst) with
    | none => none
    | some g => match eget g e with
      | .b b => some (b == want)
      | .tup [] => some false
      | _ => none
noncomputable def litC (ops : List Oper) (o : Oper) (e : Env) (h : H) : Option V :=
  match gdC ops o e with
  | some true => (lightC P o.op).run e h
  | some false => some undefV
  | none => none
noncomputable def hvC (op : Op) (call : CallT) (e : Env) (h : H) : VH :=
  bif isHeavy P op then (heavyC P op).run call e h else vhO h ((lightC P op).run e h)
inductive Kn where
  | light | new | heavy
def Kn.isHeavy : Kn → Bool | .heavy => true | _ => false
def dstIs (d : Nat) (o : Oper) : Bool := match o.dst with | some d' => Nat.beq d' d | none => false
/-- does an operation look at d, or write it -/
def touches (ops : List Oper) (d : Nat) (o : Oper) : Bool := memN d (looksE ops o) || dstIs d o
/-- is what operation i writes looked at or written by one that does not wait for it -/
def isLate (ops : List Oper) (bef : List Nat) (i : Nat) (o : Oper) : Bool :=
  match o.dst with
  | none => false
  | some d => memN d (looksE ops o) || (zipI 0 ops).any (fun x => !Nat.beq x.1 i && (touches ops d x.2 && !Nat.testBit (natAt bef x.1) i))
def knOf (ops : List Oper) (bef : List Nat) (i : Nat) (o : Oper) : Kn :=
  bif isLate ops bef i o then .heavy else bif isNew P o.op then .new else bif isHeavy P o.op then .heavy else .light
structure PN where
  idx : Nat
  id : Id
  ob : O
structure PC where
  idx : Nat
  chk : H → Bool
def idMax : Id := ⟨.d7, .d7, .d7, .d7, .d7⟩
def hq (h : H) : H := ⟨h.mem, h.fams, idMax⟩
noncomputable def matM (p : Nat → Bool) : List PN → Mem → Mem
  | [], m => m
  | x :: l, m => bif p x.idx then mput x.id (some x.ob) (matM p l m) else matM p l m
noncomputable def matH (p : Nat → Bool) (pn : List PN) (h : H) : H := ⟨matM p pn h.mem, h.fams, h.next⟩
noncomputable def setD (d : Option Nat) (v : V) (e : Env) : Env := match d with | some d => eset d v e | none => e
noncomputable def eqO (v : V) (x : Option V) : Bool := match x with | some v' => V.beq v v' | none => false
def pcAll (h : H) : List PC → Bool
  | [] => true
  | c :: l => c.chk h && pcAll h l
structure DOp2 where
  run : CallT → Env → H → List PN → List PC → Rs
noncomputable def finE : DOp2 := ⟨fun _ e h pn _ => .ok e (matH (fun _ => true) pn h)⟩
noncomputable def drawE (base : DOp2) (ops : List Oper) (bef : List Nat) : List Nat → DOp2
  | [] => base
  | s :: l => match nthO ops s with
    | none => ⟨fun _ _ _ _ _ => .bad⟩
    | some o => match knOf P ops bef s o with
      | .light => ⟨fun call e h pn pc => match litC P ops o (envM e (looksE ops o)) (hq h) with
          | none => .bad
          | some v => (drawE base ops bef l).run call (setD o.dst v e) h pn (⟨s, fun h' => eqO v (litC P ops o (envM e (looksE ops o)) h')⟩ :: pc)⟩
      | .new => ⟨fun call e h pn pc => match gdC ops o (envM e (looksE ops o)) with
          | some true => (match (newP P o.op).run (envM e (looksE ops o)), Id.succ h.next with
             | some nv, some nx => (drawE base ops bef l).run call (setD o.dst (nv.v h.next) e) ⟨h.mem, h.fams, nx⟩ (⟨s, h.next, nv.ob h.next⟩ :: pn) pc
             | _, _ => .bad)
          | some false => (drawE base ops bef l).run call (setD o.dst undefV e) h pn pc
          | none => .bad⟩
      | .heavy => ⟨fun call e h pn pc => match gdC ops o (envM e (looksE ops o)) with
          | some true => (match hvC P o.op call (envM e (looksE ops o)) (matH (Nat.testBit (natAt bef s)) pn h) with
             | .ok v h' => bif pcAll (hq h') (keepP (fun c => !Nat.testBit (natAt bef s) c.idx) pc) then
                 (drawE base ops bef l).run call (setD o.dst v e) h' (keepP (fun x => !Nat.testBit (natAt bef s) x.idx) pn) (keepP (fun c => !Nat.testBit (natAt bef s) c.idx) pc) else .bad
             | .bad => .bad)
          | some false => (drawE base ops bef l).run call (setD o.dst undefV e) h pn pc
          | none => .bad⟩
def schedE (bef : List Nat) : List Nat → List Nat → List Nat
  | [], rest => rest
  | h :: hs, rest => keepP (fun x => !Nat.testBit (natAt bef x) h && (!Nat.beq x h && !memN x hs)) rest ++ h :: schedE bef hs (keepP (fun x => Nat.testBit (natAt bef x) h || memN x hs) rest)
/-- every place comes once, each behind what it waits for -/
def planE (ops : List Oper) (bef : List Nat) (tl : List Nat) (T : Nat) : List Nat → Bool
  | [] => (zipI 0 ops).all (fun x => Nat.testBit T x.1 || memN x.1 tl)
  | s :: l => !Nat.testBit T s && (Nat.beq (natAt bef s &&& T) (natAt bef s) && ((nthO ops s).isSome && planE ops bef tl (T ||| 2 ^ s) l))
/-- what comes behind a heavy one waits for it -/
def chainE (ops : List Oper) (bef : List Nat) (tl : List Nat) : List Nat → Bool
  | [] => true
  | s :: l => (match nthO ops s with | some o => !(knOf P ops bef s o).isHeavy || (l.all (fun x => Nat.testBit (natAt bef x) s) && tl.all (fun x => Nat.testBit (natAt bef x) s)) | none => false) && chainE ops bef tl l
/-- two stores that may come in either order -/
def isStore (ops : List Oper) (s : Nat) : Bool :=
  match nthO ops s with
  | some o => (match o.op, o.dst, o.guard with | .store .., none, none => true | _, _, _ => false)
  | none => false
/-- where a store goes: the block -/
noncomputable def storeAt (ops : List Oper) (s : Nat) (e : Env) : Option Id :=
  match nthO ops s with
  | some o => (match o.op with | .store _ x _ => (match (opnd x).run (envM e (looksE ops o)) with | .p b _ => some b | _ => none) | _ => none)
  | none => none
def memI (b : Id) : List Id → Bool
  | [] => false
  | a :: l => bif Id.beq a b then true else memI b l
noncomputable def pairOk (ops : List Oper) (s1 s2 : Nat) (e : Env) (h : H) (pn : List PN) : Bool :=
  match pn, storeAt ops s1 e, storeAt ops s2 e with
  | [], some b1, some b2 => (match mget b1 h.mem, mget b2 h.mem with
    | some (.cells _ _ f1 _), some (.cells _ _ f2 _) => !Id.beq f1 f2 && (!Id.beq b1 b2 && (!memI b2 (fget f1 h.fams) && !memI b1 (fget f2 h.fams)))
    | _, _ => false)
  | _, _, _ => false
def beqLL : List (List V) → List (List V) → Bool
  | [], [] => true
  | a :: l, b :: r => beqs a b && beqLL l r
  | _, _ => false
/-- two stores into one block that leave the same cells in either order -/
noncomputable def sameOk (ops : List Oper) (s1 s2 : Nat) (e : Env) (h1 h2 : H) (pn : List PN) : Bool :=
  match pn, storeAt ops s1 e, storeAt ops s2 e with
  | [], some b1, some b2 => Id.beq b1 b2 && (match mget b1 h1.mem, mget b1 h2.mem with
    | some (.cells _ els1 _ _), some (.cells _ els2 _ _) => beqLL els1 els2
    | _, _ => false)
  | _, _, _ => false
noncomputable def pairE (ops : List Oper) (bef : List Nat) (s1 s2 : Nat) : DOp2 :=
  ⟨fun call e h pn pc => match (drawE P finE ops bef [s1, s2]).run call e h pn pc, (drawE P finE ops bef [s2, s1]).run call e h pn pc with
    | .ok e1 h1, .ok _ h2 => bif pairOk ops s1 s2 e h pn then .ok e1 h1 else bif sameOk ops s1 s2 e h1 h2 pn then .ok e1 h1 else .bad
    | _, _ => .bad⟩
def afterOk (ops : List Oper) : Bool := (zipI 0 ops).all (fun x => x.2.after.toList.all (fun e => !bindsE e || Nat.ble (Nat.succ e.on) x.1))
/-- what writes a temporary and what touches it wait for one another -/
def ordOk (ops : List Oper) (bef : List Nat) : Bool :=
  (zipI 0 ops).all (fun x => match x.2.dst with
    | none => true
    | some d => (zipI 0 ops).all (fun y => Nat.beq y.1 x.1 || (!touches ops d y.2 || (Nat.testBit (natAt bef y.1) x.1 || Nat.testBit (natAt bef x.1) y.1))))
def guardOk (ops : List Oper) (bef : List Nat) : Bool :=
  (zipI 0 ops).all (fun x => match x.2.guard with | none => true | some (g, _) => Nat.testBit (natAt bef x.1) g)
/-- the last two of a plan, if they may come in either order -/
def tailE (ops : List Oper) (bef : List Nat) : List Nat → List Nat × List Nat
  | [] => ([], [])
  | [a, b] => bif isStore ops a && (isStore ops b && !Nat.testBit (natAt bef b) a) then ([], [a, b]) else ([a, b], [])
  | a :: l => match tailE ops bef l with | (p, t) => (a :: p, t)
noncomputable def baseE (ops : List Oper) (bef : List Nat) : List Nat → DOp2
  | [a, b] => pairE P ops bef a b
  | _ => finE
def tlOk (ops : List Oper) (bef : List Nat) : List Nat → Bool
  | [] => true
  | [a, b] => isStore ops a && (isStore ops b && !Nat.beq a b)
  | _ => false
def maskOf : List Nat → Nat
  | [] => 0
  | a :: l => 2 ^ a ||| maskOf l
/-- the tail in either order -/
def tlPlan (ops : List Oper) (bef : List Nat) (T : Nat) : List Nat → Bool
  | [a, b] => planE ops bef [] T [a, b] && planE ops bef [] T [b, a]
  | _ => true
noncomputable def regE (ops : List Oper) : SOp :=
  match befGo [] ops with
  | bef => match schedE bef ((keepP (fun x => (knOf P ops bef x.1 x.2).isHeavy) (zipI 0 ops)).map (·.1)) ((zipI 0 ops).map (·.1)) with
    | pl0 => match tailE ops bef pl0 with
      | (pl, tl) => bif afterOk ops && (ordOk ops bef && (guardOk ops bef && (planE ops bef tl 0 pl && (chainE P ops bef tl pl && (tlOk ops bef tl && tlPlan ops bef (maskOf pl) tl))))) then
        ⟨fun call e h => (drawE P (baseE P ops bef tl) ops bef pl).run call e h [] []⟩
      else ⟨fun _ _ _ => .bad⟩
end Go.Ev
end
