/-
  A part of the proof of the card of WorkClosureMatchesSpec (second form): lemmas that the text Card uses. No condition of its own.
-/
import Derived.Test.YtbleedclnkpbkaaGreatDoorLinksA
import Derived.Laws.AppendOwn
set_option linter.all false
set_option linter.unusedVariables false
set_option linter.unusedSimpArgs false
section
namespace Go.Proofs.YtbleedclnkpbkaaGreatDoor
open Go.RowKit
def kv (k : Int × Int) : Value := .agg #[.int .i64 k.1, .int .i64 k.2]
theorem und (t : TypeId) (d : TypeDesc) (h : Tryz.prog.underlying t = some d) (w : World) : (Go.underlying t).run Tryz.prog w = .ok d w := run_underlying h w
theorem eq3 (d : Nat) (a b : Int) (w : World) : (Op.equalIn (d + 1) 3 (.int .i64 a) (.int .i64 b)).run Tryz.prog w = .ok (a == b) w := by
  rw [Op.equalIn]
  simp only [Sem.run_bind, und _ _ Tryz.underlying3, Result.andThen]
  simp
theorem equalIn_key (d : Nat) (k k' : Int × Int) (w : World) : (Op.equalIn (d + 1 + 1) 83 (kv k) (kv k')).run Tryz.prog w = .ok (decide (k = k')) w := by
  have hs : ∀ w, (Go.sizeOf 3).run Tryz.prog w = .ok 1 w := Tryz.sizeOf3
  have p0 : ∀ (a b : Int) w, (part 3 #[.int .i64 a, .int .i64 b] (0 * 1)).run Tryz.prog w = .ok (.int .i64 a) w := by
    intro a b w
    simp [part, go_sem, Tryz.isAgg3]
  have p1 : ∀ (a b : Int) w, (part 3 #[.int .i64 a, .int .i64 b] (1 * 1)).run Tryz.prog w = .ok (.int .i64 b) w := by
    intro a b w
    simp [part, go_sem, Tryz.isAgg3]
  rw [Op.equalIn]
  simp only [Sem.run_bind, und _ _ Tryz.underlying83, Result.andThen, kv]
  simp only [hs]
  rw [Std.Legacy.Range.forIn_eq_forIn_range']
  have hr : List.range' 0 2 1 = [0, 1] := rfl
  simp only [Std.Legacy.Range.size]
  rw [show ((2 - 0 + 1 - 1) / 1 : Nat) = 2 from rfl, hr]
  simp only [List.forIn_cons, List.forIn_nil, Sem.run_bind, p0, p1, eq3, Result.andThen]
  obtain ⟨a, b⟩ := k
  obtain ⟨a', b'⟩ := k'
  by_cases h1 : a = a' <;> by_cases h2 : b = b' <;> simp [h1, h2, p0, p1, eq3]
end Go.Proofs.YtbleedclnkpbkaaGreatDoor
end
section
namespace Go.Proofs.YtbleedclnkpbkaaGreatDoor
open Go.RowKit
abbrev KB := (Int × Int) × Bool
theorem equal_key (k k' : Int × Int) (w : World) : (Op.equal 83 (kv k) (kv k')).run Tryz.prog w = .ok (decide (k = k')) w := equalIn_key 9998 k k' w
theorem checkKey3 (em : Bool) (d : Nat) (a : Int) (w : World) : (Instr.checkKey em (d + 1) 3 (.int .i64 a)).run Tryz.prog w = .ok () w := by
  rw [Instr.checkKey]
  simp only [Sem.run_bind, und _ _ Tryz.underlying3, Result.andThen]
  simp
theorem checkKeyIn (em : Bool) (d : Nat) (k : Int × Int) (w : World) : (Instr.checkKey em (d + 1 + 1) 83 (kv k)).run Tryz.prog w = .ok () w := by
  have hs : ∀ w, (Go.sizeOf 3).run Tryz.prog w = .ok 1 w := Tryz.sizeOf3
  have p0 : ∀ (a b : Int) w, (part 3 #[.int .i64 a, .int .i64 b] (0 * 1)).run Tryz.prog w = .ok (.int .i64 a) w := by
    intro a b w
    simp [part, go_sem, Tryz.isAgg3]
  have p1 : ∀ (a b : Int) w, (part 3 #[.int .i64 a, .int .i64 b] (1 * 1)).run Tryz.prog w = .ok (.int .i64 b) w := by
    intro a b w
    simp [part, go_sem, Tryz.isAgg3]
  rw [Instr.checkKey]
  simp only [Sem.run_bind, und _ _ Tryz.underlying83, Result.andThen, kv]
  rw [Std.Legacy.Range.forIn_eq_forIn_range']
  have hr : List.range' 0 2 1 = [0, 1] := rfl
  simp only [Std.Legacy.Range.size]
  rw [show ((2 - 0 + 1 - 1) / 1 : Nat) = 2 from rfl, hr]
  simp [List.forIn_cons, List.forIn_nil, Sem.run_bind, p0, p1, hs, checkKey3, Result.andThen]
theorem checkKey_key (em : Bool) (k : Int × Int) (w : World) : (Instr.checkKey em 10000 83 (kv k)).run Tryz.prog w = .ok () w := checkKeyIn em 9998 k w
/-- what the entries tell -/
def EsR : List KB → List MapEntry → Prop
  | [], [] => True
  | p :: M, e :: es => e.key = kv p.1 ∧ e.val = .bool p.2 ∧ EsR M es
  | _, _ => False
def idxM (k : Int × Int) : List KB → Option Nat
  | [] => none
  | p :: M => if k = p.1 then some 0 else (idxM k M).map (· + 1)
def valM (k : Int × Int) : List KB → Option Bool
  | [] => none
  | p :: M => if k = p.1 then some p.2 else valM k M
theorem findAsking_key (k : Int × Int) (w : World) : ∀ (M : List KB) (es : List MapEntry) (i : Nat), EsR M es →
    (Instr.findAsking 83 (kv k) es i).run Tryz.prog w = .ok ((idxM k M).bind fun j => (valM k M).map fun v => (i + j, .bool v)) w
  | [], [], i, _ => by simp [Instr.findAsking, idxM]
  | p :: M, e :: es, i, h => by
    obtain ⟨h1, h2, h3⟩ := h
    have ih := findAsking_key k w M es (i + 1) h3
    rw [Instr.findAsking]
    simp only [Sem.run_bind, h1, equal_key, Result.andThen]
    by_cases hk : k = p.1
    · simp [hk, idxM, valM, h2]
    · simp only [hk, decide_false, Bool.false_eq_true, if_false, ih, idxM, valM]
      congr 1
      cases idxM k M with
      | none => rfl
      | some j => simp [Nat.add_assoc, Nat.add_comm 1 j]
  | [], _ :: _, _, h => by cases h
  | _ :: _, [], _, h => by cases h
theorem findKey_key (k : Int × Int) (w : World) (M : List KB) (es : List MapEntry) (h : EsR M es) :
    (Instr.findKey 83 (kv k) es).run Tryz.prog w = .ok ((idxM k M).bind fun j => (valM k M).map fun v => (j, .bool v)) w := by
  have e := findAsking_key k w M es 0 h
  unfold Instr.findKey
  simp only [Sem.run_bind, und _ _ Tryz.underlying83, Result.andThen]
  cases es with
  | nil =>
    cases M with
    | nil => simp [Instr.findNow, idxM]
    | cons p M => cases h
  | cons x es =>
    have hn : Instr.findNow (.array 2 3) (kv k) (x :: es) 0 = none := by simp [Instr.findNow, Instr.sameNow]
    rw [hn]
    simpa using e
end Go.Proofs.YtbleedclnkpbkaaGreatDoor
end
section
namespace Go.Proofs.YtbleedclnkpbkaaGreatDoor
open Go.RowKit
/-- THE MAP's BLOCK HOLDS M: its entries in the order of their coming -/
structure MapIs (M : List KB) (es : Array MapEntry) (clock : Nat) : Prop where
  rel : EsR M es.toList
  nodup : (M.map (·.1)).Nodup
  borns : es.toList.Pairwise fun x y => x.born < y.born
  lt : ∀ e ∈ es.toList, e.born < clock
def MapAt (w : World) (b : Nat) (M : List KB) : Prop := ∃ es clock, w.heap[b]? = some (.map es clock) ∧ MapIs M es clock
theorem lookup_key {w : World} {b : Nat} {M : List KB} (h : MapAt w b M) (k : Int × Int) :
    (Instr.lookup 82 (.map (some b)) (kv k) false).run Tryz.prog w = .ok (.bool ((valM k M).getD false)) w := by
  obtain ⟨es, clock, hb, hM⟩ := h
  have hz : ∀ w, (zeroValue 4).run Tryz.prog w = .ok (.bool false) w := Tryz.zeroValue4
  have hg : (getObj b).run Tryz.prog w = .ok (.map es clock) w := by simp [getObj, Sem.run, hb]
  unfold Instr.lookup
  simp only [Sem.run_bind, und _ _ Tryz.underlying82, Result.andThen, hg, Sem.run_pure, checkKey_key, findKey_key k w M _ hM.rel]
  have hiv : idxM k M = none ↔ valM k M = none := by
    clear hM hg
    induction M with
    | nil => simp [idxM, valM]
    | cons p M ih => by_cases hk : k = p.1 <;> simp [idxM, valM, hk, ih]
  cases hi : idxM k M with
  | none => simp [hiv.1 hi, hz, Result.andThen]
  | some j =>
    cases hv : valM k M with
    | none => rw [hiv.2 hv] at hi; cases hi
    | some v => simp [Result.andThen]
def putM (k : Int × Int) (v : Bool) : List KB → List KB
  | [] => [(k, v)]
  | p :: M => if k = p.1 then (p.1, v) :: M else p :: putM k v M
theorem sameBits_key (n : Nat) (k : Int × Int) : Instr.sameBits (n + 1 + 1) (kv k) (kv k) = true := by
  simp [kv, Instr.sameBits]
theorem idxM_none {k : Int × Int} : ∀ {M : List KB}, idxM k M = none ↔ ∀ p ∈ M, k ≠ p.1
  | [] => by simp [idxM]
  | p :: M => by
    by_cases hk : k = p.1
    · simp [idxM, hk]
    · simp [idxM, hk, idxM_none (M := M)]
theorem putM_none {k : Int × Int} {v : Bool} : ∀ {M : List KB}, idxM k M = none → putM k v M = M ++ [(k, v)]
  | [], _ => rfl
  | p :: M, h => by
    by_cases hk : k = p.1
    · simp [idxM, hk] at h
    · have : idxM k M = none := by simpa [idxM, hk] using h
      simp [putM, hk, putM_none this]
theorem EsR.put {k : Int × Int} {v : Bool} : ∀ {M : List KB} {es : List MapEntry} {j : Nat}, EsR M es → idxM k M = some j → EsR (putM k v M) (es.modify j fun e => { e with key := kv k, val := .bool v })
  | p :: M, e :: es, j, h, hi => by
    obtain ⟨h1, h2, h3⟩ := h
    by_cases hk : k = p.1
    · obtain rfl : j = 0 := by simpa [idxM, hk] using hi.symm
      subst hk
      simp [putM, EsR, h3]
    · obtain ⟨i, hi2, rfl⟩ : ∃ i, idxM k M = some i ∧ j = i + 1 := by
        simp only [idxM, hk, if_false, Option.map_eq_some_iff] at hi
        obtain ⟨i, h, e⟩ := hi
        exact ⟨i, h, e.symm⟩
      simp only [putM, hk, if_false, List.modify_succ_cons, EsR]
      exact ⟨h1, h2, EsR.put h3 hi2⟩
  | [], [], _, _, hi => by simp [idxM] at hi
  | [], _ :: _, _, h, _ => by cases h
  | _ :: _, [], _, h, _ => by cases h
theorem EsR.append {k : Int × Int} {v : Bool} (n : Nat) : ∀ {M : List KB} {es : List MapEntry}, EsR M es → EsR (M ++ [(k, v)]) (es ++ [{ key := kv k, val := .bool v, born := n }])
  | [], [], _ => ⟨rfl, rfl, trivial⟩
  | p :: M, e :: es, h => ⟨h.1, h.2.1, EsR.append n h.2.2⟩
  | [], _ :: _, h => by cases h
  | _ :: _, [], h => by cases h
theorem putM_keys {k : Int × Int} {v : Bool} : ∀ {M : List KB} {j : Nat}, idxM k M = some j → (putM k v M).map (·.1) = M.map (·.1)
  | p :: M, j, hi => by
    by_cases hk : k = p.1
    · simp [putM, hk]
    · obtain ⟨i, hi2, rfl⟩ : ∃ i, idxM k M = some i ∧ j = i + 1 := by
        simp only [idxM, hk, if_false, Option.map_eq_some_iff] at hi
        obtain ⟨i, h, e⟩ := hi
        exact ⟨i, h, e.symm⟩
      simp [putM, hk, putM_keys hi2]
  | [], _, hi => by simp [idxM] at hi
end Go.Proofs.YtbleedclnkpbkaaGreatDoor
end
section
namespace Go.Proofs.YtbleedclnkpbkaaGreatDoor
open Go.RowKit
theorem EsR.key {k : Int × Int} : ∀ {M : List KB} {es : List MapEntry} {j : Nat}, EsR M es → idxM k M = some j → ∃ e, es[j]? = some e ∧ e.key = kv k
  | p :: M, e :: es, j, h, hi => by
    obtain ⟨h1, h2, h3⟩ := h
    by_cases hk : k = p.1
    · obtain rfl : j = 0 := by simpa [idxM, hk] using hi.symm
      exact ⟨e, rfl, by rw [h1, hk]⟩
    · obtain ⟨i, hi2, rfl⟩ : ∃ i, idxM k M = some i ∧ j = i + 1 := by
        simp only [idxM, hk, if_false, Option.map_eq_some_iff] at hi
        obtain ⟨i, h, e⟩ := hi
        exact ⟨i, h, e.symm⟩
      obtain ⟨e', h4, h5⟩ := EsR.key h3 hi2
      exact ⟨e', by simpa using h4, h5⟩
  | [], [], _, _, hi => by simp [idxM] at hi
  | [], _ :: _, _, h, _ => by cases h
  | _ :: _, [], _, h, _ => by cases h
theorem valM_some {k : Int × Int} : ∀ {M : List KB} {j : Nat}, idxM k M = some j → ∃ v, valM k M = some v
  | p :: M, j, hi => by
    by_cases hk : k = p.1
    · exact ⟨p.2, by simp [valM, hk]⟩
    · obtain ⟨i, hi2, rfl⟩ : ∃ i, idxM k M = some i ∧ j = i + 1 := by
        simp only [idxM, hk, if_false, Option.map_eq_some_iff] at hi
        obtain ⟨i, h, e⟩ := hi
        exact ⟨i, h, e.symm⟩
      obtain ⟨v, hv⟩ := valM_some hi2
      exact ⟨v, by simp [valM, hk, hv]⟩
  | [], _, hi => by simp [idxM] at hi
theorem keyStays_key (k : Int × Int) (w : World) : (Instr.keyThatStays (kv k) (kv k)).run Tryz.prog w = .ok (kv k) w := by
  unfold Instr.keyThatStays
  rw [sameBits_key 9998 k]
  simp
theorem modify_borns (f : MapEntry → MapEntry) (hf : ∀ e, (f e).born = e.born) : ∀ (l : List MapEntry) (j : Nat), (l.modify j f).map (·.born) = l.map (·.born)
  | [], _ => by simp
  | e :: l, 0 => by simp [hf]
  | e :: l, j + 1 => by simp [modify_borns f hf l j]
theorem update_key {w : World} {b : Nat} {M : List KB} (h : MapAt w b M) (k : Int × Int) (v : Bool) :
    ∃ o, (Instr.mapUpdate 82 (.map (some b)) (kv k) (.bool v)).run Tryz.prog w = .ok () { w with heap := w.heap.setIfInBounds b o } ∧ MapAt { w with heap := w.heap.setIfInBounds b o } b (putM k v M) := by
  obtain ⟨es, clock, hb, hM⟩ := h
  have hlt : b < w.heap.size := (Array.getElem?_eq_some_iff.1 hb).1
  have hg : (getObj b).run Tryz.prog w = .ok (.map es clock) w := by simp [getObj, Sem.run, hb]
  have hset : ∀ o, (setObj b o).run Tryz.prog w = .ok () { w with heap := w.heap.setIfInBounds b o } := fun o => by simp [setObj, Sem.run, hb]
  have hat : ∀ o, ({ w with heap := w.heap.setIfInBounds b o } : World).heap[b]? = some o := fun o => by simp [hlt]
  unfold Instr.mapUpdate
  simp only [Sem.run_bind, und _ _ Tryz.underlying82, Result.andThen, hg, Sem.run_pure, checkKey_key, findKey_key k w M _ hM.rel]
  cases hi : idxM k M with
  | none =>
    refine ⟨.map (es.push { key := kv k, val := .bool v, born := clock }) (clock + 1), ?_, _, _, hat _, ?_⟩
    · simp [hset]
    · refine ⟨?_, ?_, ?_, ?_⟩
      · rw [putM_none hi]; simpa using EsR.append clock hM.rel
      · rw [putM_none hi, List.map_append, List.nodup_append]
        refine ⟨hM.nodup, by simp, ?_⟩
        intro a ha c hc e
        obtain ⟨p, hp, rfl⟩ := List.mem_map.1 ha
        simp at hc
        exact idxM_none.1 hi p hp (by rw [e, hc])
      · rw [Array.toList_push, List.pairwise_append]
        exact ⟨hM.borns, by simp, fun x hx y hy => by simp at hy; subst hy; exact hM.lt x hx⟩
      · intro e he
        rw [Array.toList_push, List.mem_append] at he
        rcases he with he | he
        · have := hM.lt e he; omega
        · simp at he; subst he; show clock < clock + 1; omega
  | some j =>
    obtain ⟨v0, hv0⟩ := valM_some hi
    obtain ⟨e0, he0, hk0⟩ := hM.rel.key hi
    refine ⟨.map (es.modify j fun e => { e with key := kv k, val := .bool v }) clock, ?_, _, _, hat _, ?_⟩
    · have he1 : es[j]? = some e0 := by rw [← Array.getElem?_toList]; exact he0
      simp [hv0, he1, hk0, keyStays_key, hset, Result.andThen]
    · have hb2 := modify_borns (fun e => { e with key := kv k, val := .bool v }) (fun _ => rfl) es.toList j
      refine ⟨?_, ?_, ?_, ?_⟩
      · simpa using EsR.put (v := v) hM.rel hi
      · rw [putM_keys hi]; exact hM.nodup
      · have := List.pairwise_map.2 hM.borns
        rw [← hb2] at this
        simpa using List.pairwise_map.1 this
      · intro e he
        have he' : e ∈ es.toList.modify j (fun e => { e with key := kv k, val := .bool v }) := by simpa using he
        have h1 : e.born ∈ (es.toList.modify j (fun e => { e with key := kv k, val := .bool v })).map (·.born) := List.mem_map.2 ⟨e, he', rfl⟩
        rw [hb2] at h1
        obtain ⟨e', h2, h3⟩ := List.mem_map.1 h1
        rw [← h3]; exact hM.lt e' h2
end Go.Proofs.YtbleedclnkpbkaaGreatDoor
end
section
namespace Go.Proofs.YtbleedclnkpbkaaGreatDoor
open Go.RowKit
/-- A RANGE OVER THE MAP UNDER WAY: D has come -/
def IterAt (w : World) (r b : Nat) (M D : List KB) : Prop :=
  ∃ es clock seen, w.heap[b]? = some (.map es clock) ∧ MapIs M es clock ∧ w.heap[r]? = some (.mapIter (some b) clock seen clock) ∧
    ∃ ds : List MapEntry, EsR D ds ∧ seen.toList = ds.map (·.born) ∧ (∀ e ∈ ds, e ∈ es.toList) ∧ (ds.map (·.born)).Nodup
theorem range_key {w : World} {b : Nat} {M : List KB} (h : MapAt w b M) :
    ∃ o, (Instr.range 82 (.map (some b))).run Tryz.prog w = .ok (.pointer (some ⟨w.heap.size, 0, none⟩)) (w.alloc o) ∧ IterAt (w.alloc o) w.heap.size b M [] := by
  obtain ⟨es, clock, hb, hM⟩ := h
  have hlt : b < w.heap.size := (Array.getElem?_eq_some_iff.1 hb).1
  have hg : (getObj b).run Tryz.prog w = .ok (.map es clock) w := by simp [getObj, Sem.run, hb]
  refine ⟨.mapIter (some b) clock #[] clock, ?_, es, clock, #[], ?_, hM, ?_, [], trivial, rfl, by simp, by simp⟩
  · unfold Instr.range
    simp only [Sem.run_bind, und _ _ Tryz.underlying82, Result.andThen, hg, Sem.run_pure]
    rfl
  · rw [show (w.alloc (.mapIter (some b) clock #[] clock)).heap = w.heap.push (.mapIter (some b) clock #[] clock) from rfl, Array.getElem?_push]
    simp [Nat.ne_of_lt hlt, hb]
  · rw [show (w.alloc (.mapIter (some b) clock #[] clock)).heap = w.heap.push (.mapIter (some b) clock #[] clock) from rfl]
    simp
theorem EsR.mem : ∀ {M : List KB} {es : List MapEntry} {e : MapEntry}, EsR M es → e ∈ es → ∃ p ∈ M, e.key = kv p.1 ∧ e.val = .bool p.2
  | p :: M, x :: es, e, h, he => by
    obtain ⟨h1, h2, h3⟩ := h
    rcases List.mem_cons.1 he with rfl | he
    · exact ⟨p, by simp, h1, h2⟩
    · obtain ⟨q, hq, h4⟩ := EsR.mem h3 he
      exact ⟨q, by simp [hq], h4⟩
  | [], [], _, _, he => by cases he
  | [], _ :: _, _, h, _ => by cases h
  | _ :: _, [], _, h, _ => by cases h
theorem choose_cand (n : Nat) (hn : 0 < n) (w : World) : ∃ i w', (choose (.mapNext n)).run Tryz.prog w = .ok i w' ∧ i < n ∧ (w' = w ∨ w' = w.drew) := by
  rw [run_choose_drew]
  by_cases h : n ≤ 1
  · refine ⟨0, w, ?_, hn, .inl rfl⟩
    simp [Question.forced, h]
  · refine ⟨w.tape w.drawn (.mapNext n) % n, w.drew, ?_, Nat.mod_lt _ hn, .inr rfl⟩
    simp [Question.forced, h, Question.cut]
end Go.Proofs.YtbleedclnkpbkaaGreatDoor
end
section
namespace Go.Proofs.YtbleedclnkpbkaaGreatDoor
open Go.RowKit
theorem kv_inj {k k' : Int × Int} (h : kv k = kv k') : k = k' := by
  obtain ⟨a, b⟩ := k; obtain ⟨a', b'⟩ := k'
  simpa [kv] using h
/-- an entry for each pair -/
theorem EsR.entry : ∀ {M : List KB} {es : List MapEntry} {p : KB}, EsR M es → p ∈ M → ∃ e ∈ es, e.key = kv p.1 ∧ e.val = .bool p.2
  | q :: M, x :: es, p, h, hp => by
    obtain ⟨h1, h2, h3⟩ := h
    rcases List.mem_cons.1 hp with rfl | hp
    · exact ⟨x, by simp, h1, h2⟩
    · obtain ⟨e, he, h4⟩ := EsR.entry h3 hp
      exact ⟨e, by simp [he], h4⟩
  | [], [], _, _, hp => by cases hp
  | [], _ :: _, _, h, _ => by cases h
  | _ :: _, [], _, h, _ => by cases h
/-- two entries of one key are one -/
theorem EsR.one : ∀ {M : List KB} {es : List MapEntry} {e e' : MapEntry}, EsR M es → (M.map (·.1)).Nodup → e ∈ es → e' ∈ es → e.key = e'.key → e = e'
  | q :: M, x :: es, e, e', h, hn, he, he', hk => by
    obtain ⟨h1, h2, h3⟩ := h
    rw [List.map_cons, List.nodup_cons] at hn
    rcases List.mem_cons.1 he with rfl | ha <;> rcases List.mem_cons.1 he' with rfl | ha'
    · rfl
    · obtain ⟨p, hp, hpk, _⟩ := EsR.mem h3 ha'
      rw [h1, hpk] at hk
      exact absurd (List.mem_map.2 ⟨p, hp, (kv_inj hk).symm⟩) hn.1
    · obtain ⟨p, hp, hpk, _⟩ := EsR.mem h3 ha
      rw [h1, hpk] at hk
      exact absurd (List.mem_map.2 ⟨p, hp, kv_inj hk⟩) hn.1
    · exact EsR.one h3 hn.2 ha ha' hk
  | [], [], _, _, _, _, he, _, _ => by cases he
  | [], _ :: _, _, _, h, _, _, _, _ => by cases h
  | _ :: _, [], _, _, h, _, _, _, _ => by cases h
theorem born_one {l : List MapEntry} (h : l.Pairwise fun x y => x.born < y.born) {e e' : MapEntry} (he : e ∈ l) (he' : e' ∈ l) (hb : e.born = e'.born) : e = e' := by
  induction l with
  | nil => cases he
  | cons x l ih =>
    obtain ⟨h1, h2⟩ := List.pairwise_cons.1 h
    rcases List.mem_cons.1 he with rfl | ha <;> rcases List.mem_cons.1 he' with rfl | ha'
    · rfl
    · have := h1 _ ha'; omega
    · have := h1 _ ha; omega
    · exact ih h2 ha ha'
theorem EsR.snoc {p : KB} {e : MapEntry} (hk : e.key = kv p.1) (hv : e.val = .bool p.2) : ∀ {M : List KB} {es : List MapEntry}, EsR M es → EsR (M ++ [p]) (es ++ [e])
  | [], [], _ => ⟨hk, hv, trivial⟩
  | q :: M, x :: es, h => ⟨h.1, h.2.1, EsR.snoc hk hv h.2.2⟩
  | [], _ :: _, h => by cases h
  | _ :: _, [], h => by cases h
end Go.Proofs.YtbleedclnkpbkaaGreatDoor
end
section
namespace Go.Proofs.YtbleedclnkpbkaaGreatDoor
open Go.RowKit
theorem next_key {w : World} {r b : Nat} {M D : List KB} (h : IterAt w r b M D) (ty : TypeId) :
    ((∀ p ∈ M, p ∈ D) ∧ ∃ w', (Instr.next (.pointer (some ⟨r, 0, none⟩)) false ty).run Tryz.prog w = .ok (.tuple #[.bool false]) w' ∧ (w' = w ∨ w' = w.drew)) ∨
    ∃ p ∈ M, p.1 ∉ D.map (·.1) ∧ ∃ w1 o, (w1 = w ∨ w1 = w.drew) ∧ (Instr.next (.pointer (some ⟨r, 0, none⟩)) false ty).run Tryz.prog w = .ok (.tuple #[.bool true, kv p.1, .bool p.2]) { w1 with heap := w1.heap.setIfInBounds r o } ∧
      IterAt { w1 with heap := w1.heap.setIfInBounds r o } r b M (D ++ [p]) := by
  obtain ⟨es, clock, seen, hb, hM, hr, ds, hD, hseen, hds, hnd⟩ := h
  have hrl : r < w.heap.size := (Array.getElem?_eq_some_iff.1 hr).1
  have hrb : r ≠ b := by intro e; rw [e, hb] at hr; cases hr
  have g1 : (getObj r).run Tryz.prog w = .ok (.mapIter (some b) clock seen clock) w := by simp [getObj, Sem.run, hr]
  have g2 : (getObj b).run Tryz.prog w = .ok (.map es clock) w := by simp [getObj, Sem.run, hb]
  have hguard : (!seen.isEmpty && !es.isEmpty && es.all (·.born ≥ clock)) = false := by
    cases he : es.isEmpty with
    | true => simp
    | false =>
      have hne : 0 < es.size := by
        rcases Nat.eq_zero_or_pos es.size with h0 | h0
        · rw [Array.isEmpty_iff_size_eq_zero.2 h0] at he; cases he
        · exact h0
      have hall : es.all (·.born ≥ clock) = false := by
        cases ha : es.all (·.born ≥ clock) with
        | false => rfl
        | true =>
          rw [Array.all_eq_true'] at ha
          have hm : es[0] ∈ es := Array.getElem_mem hne
          have h1 := ha _ hm
          have h2 := hM.lt es[0] (by simpa using hm)
          simp at h1; omega
      simp [hall]
  obtain ⟨left, hleft⟩ : ∃ left, es.filter (fun e => !seen.contains e.born) = left := ⟨_, rfl⟩
  have hmem : ∀ e, e ∈ left ↔ e ∈ es ∧ e.born ∉ ds.map (·.born) := by
    intro e
    rw [← hleft, Array.mem_filter]
    constructor
    · rintro ⟨h1, h2⟩
      refine ⟨h1, fun h3 => ?_⟩
      rw [← hseen] at h3
      have : seen.contains e.born = true := by simpa using h3
      rw [this] at h2; cases h2
    · rintro ⟨h1, h2⟩
      refine ⟨h1, ?_⟩
      rw [← hseen] at h2
      simpa using h2
  have hold : left.filter (·.born < clock) = left := by
    rw [Array.filter_eq_self]
    intro e he
    have := hM.lt e (by simpa using ((hmem e).1 he).1)
    simpa using this
  have hnew : left.filter (·.born ≥ clock) = #[] := by
    rw [Array.filter_eq_empty_iff]
    intro e he
    have := hM.lt e (by simpa using ((hmem e).1 he).1)
    simp; omega
  cases hE : left.isEmpty with
  | true =>
    left
    have hl0 : left = #[] := Array.isEmpty_iff.1 hE
    refine ⟨fun p hp => ?_, w, ?_, .inl rfl⟩
    · obtain ⟨e, he, hk, hv⟩ := hM.rel.entry hp
      have hs : e.born ∈ ds.map (·.born) := by
        apply Classical.byContradiction
        intro hn
        have : e ∈ left := (hmem e).2 ⟨by simpa using he, hn⟩
        rw [hl0] at this; simp at this
      obtain ⟨e', h1, h2⟩ := List.mem_map.1 hs
      have := born_one hM.borns (hds e' h1) he h2
      subst this
      obtain ⟨q, hq, h3, h4⟩ := hD.mem h1
      rw [hk] at h3; rw [hv] at h4
      have e1 := kv_inj h3
      have e2 : p.2 = q.2 := by simpa using h4
      have : p = q := Prod.ext e1 e2
      rw [this]; exact hq
    · unfold Instr.next
      simp only [Sem.run_bind, Result.andThen, g1, g2, hguard, hleft, hold, hnew, hE, Sem.run_pure]
      simp [hl0, Question.forced]
  | false =>
    right
    have hpos : 0 < left.size := by
      rcases Nat.eq_zero_or_pos left.size with h0 | h0
      · rw [Array.isEmpty_iff_size_eq_zero.2 h0] at hE; cases hE
      · exact h0
    obtain ⟨i, w1, hch, hi, hw1⟩ := choose_cand left.size hpos w
    have hel : left[i] ∈ left := Array.getElem_mem hi
    obtain ⟨he1, he2⟩ := (hmem _).1 hel
    obtain ⟨p, hp, hk, hv⟩ := hM.rel.mem (show left[i] ∈ es.toList by simpa using he1)
    have hr1 : w1.heap[r]? = some (.mapIter (some b) clock seen clock) := by rcases hw1 with rfl | rfl <;> exact hr
    have hb1 : w1.heap[b]? = some (.map es clock) := by rcases hw1 with rfl | rfl <;> exact hb
    have hrl1 : r < w1.heap.size := (Array.getElem?_eq_some_iff.1 hr1).1
    have hset : ∀ o, (setObj r o).run Tryz.prog w1 = .ok () { w1 with heap := w1.heap.setIfInBounds r o } := fun o => by simp [setObj, Sem.run, hr1]
    have hcs : ((if left.isEmpty = true then #[none] else #[]) ++ Array.map some (left ++ #[]) : Array (Option MapEntry)) = left.map some := by simp [hE]
    refine ⟨p, hp, ?_, w1, .mapIter (some b) clock (seen.push left[i].born) clock, hw1, ?_, es, clock, seen.push left[i].born, ?_, hM, ?_, ds ++ [left[i]], hD.snoc hk hv, ?_, ?_, ?_⟩
    · intro hin
      obtain ⟨q, hq, hqp⟩ := List.mem_map.1 hin
      obtain ⟨e', h1, h2, _⟩ := hD.entry hq
      have := hM.rel.one hM.nodup (hds e' h1) (show left[i] ∈ es.toList by simpa using he1) (by rw [h2, hk, hqp])
      subst this
      exact he2 (List.mem_map.2 ⟨_, h1, rfl⟩)
    · unfold Instr.next
      simp only [Sem.run_bind, Result.andThen, g1, g2, hguard, hleft, hold, hnew, Sem.run_pure, hcs]
      have hms : (left.map some).size = left.size := by simp
      have hget : (left.map some)[i]? = some (some left[i]) := by simp [hi]
      simp only [hms, Bool.false_eq_true, if_false, Sem.run_bind, hch, hget, Result.andThen, hset, Sem.run_pure, hk, hv]
    · simp [Array.getElem?_setIfInBounds, hrb, hb1]
    · simp [hrl1]
    · simp [hseen]
    · intro e he
      rcases List.mem_append.1 he with he | he
      · exact hds e he
      · simp at he; subst he; simpa using he1
    · rw [List.map_append, List.nodup_append]
      refine ⟨hnd, by simp, ?_⟩
      intro a ha c hc e
      simp at hc
      subst hc; subst e
      exact he2 ha
end Go.Proofs.YtbleedclnkpbkaaGreatDoor
end
section
namespace Go.Proofs.YtbleedclnkpbkaaGreatDoor
open Go.RowKit
theorem EsR.unsnoc {p : KB} : ∀ {M : List KB} {es : List MapEntry}, EsR (M ++ [p]) es → ∃ es' e, es = es' ++ [e] ∧ e.key = kv p.1 ∧ e.val = .bool p.2
  | [], [e], h => ⟨[], e, rfl, h.1, h.2.1⟩
  | [], e :: e' :: es, h => by cases h.2.2
  | q :: M, x :: es, h => by
    obtain ⟨es', e, h1, h2⟩ := EsR.unsnoc h.2.2
    exact ⟨x :: es', e, by rw [h1]; rfl, h2⟩
  | [], [], h => by cases h
  | _ :: _, [], h => by cases h
theorem entry_key {w : World} {r b : Nat} {M D : List KB} {p : KB} (h : IterAt w r b M (D ++ [p])) :
    (Instr.entry (.pointer (some ⟨r, 0, none⟩))).run Tryz.prog w = .ok (.tuple #[kv p.1, .bool p.2]) w := by
  obtain ⟨es, clock, seen, hb, hM, hr, ds, hD, hseen, hds, hnd⟩ := h
  have g1 : (getObj r).run Tryz.prog w = .ok (.mapIter (some b) clock seen clock) w := by simp [getObj, Sem.run, hr]
  have g2 : (getObj b).run Tryz.prog w = .ok (.map es clock) w := by simp [getObj, Sem.run, hb]
  obtain ⟨ds', e, rfl, hk, hv⟩ := hD.unsnoc
  have hback : seen.back? = some e.born := by
    rw [← Array.getLast?_toList, hseen]; simp
  have he : e ∈ es.toList := hds e (by simp)
  have hfind : es.find? (·.born == e.born) = some e := by
    rw [← Array.find?_toList]
    cases hf : es.toList.find? (·.born == e.born) with
    | none =>
      rw [List.find?_eq_none] at hf
      have := hf e he
      simp at this
    | some x =>
      have h1 := List.find?_some hf
      have h2 := List.mem_of_find?_eq_some hf
      have : x = e := born_one hM.borns h2 he (by simpa using h1)
      rw [this]
  unfold Instr.entry
  simp only [Sem.run_bind, Result.andThen, g1, g2, hback, hfind, Sem.run_pure, bne_self_eq_false, Bool.false_eq_true, if_false, hk, hv]
end Go.Proofs.YtbleedclnkpbkaaGreatDoor
namespace Go.Proofs.YtbleedclnkpbkaaGreatDoor
open Go.RowKit
theorem makeMap_key (w : World) : (Instr.makeMap 82 none).run Tryz.prog w = .ok (.map (some w.heap.size)) (w.alloc (.map #[] 0)) := by
  unfold Instr.makeMap
  rfl
theorem mapAt_new (w : World) (c : Nat) : MapAt (w.alloc (.map #[] c)) w.heap.size [] :=
  ⟨#[], c, by rw [show (w.alloc (.map #[] c)).heap = w.heap.push (.map #[] c) from rfl]; simp, ⟨trivial, by simp, by simp, by simp⟩⟩
end Go.Proofs.YtbleedclnkpbkaaGreatDoor
end
