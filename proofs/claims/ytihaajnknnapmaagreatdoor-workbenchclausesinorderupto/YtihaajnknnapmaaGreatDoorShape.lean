/-
  A part of the proof of the card of WorkbenchClausesInOrder (second form): lemmas that the text Card uses. No condition of its own.
-/
import Derived.Test.YtihaajnknnapmaaGreatDoorCopy
import Derived.Test.YtihaajnknnapmaaGreatDoorRefE
import Derived.Laws.Runes
import Derived.LoopN
set_option linter.all false
set_option linter.unusedVariables false
set_option linter.unusedSimpArgs false
section
namespace Go.Proofs.YtihaajnknnapmaaGreatDoor
open Go.RowKit Go.Big
/-! the reference's label and shape of a whole term -/
def bytN (s : ByteArray) : List Nat := s.data.toList.map UInt8.toNat
theorem strN_bytN (s : ByteArray) : strN (bytN s) = s := by
  apply byteArray_ext'
  rw [strN_data, bytN, List.map_map]
  conv => rhs; rw [← List.map_id s.data.toList]
  refine List.map_congr_left fun x hx => ?_
  show UInt8.ofNat x.toNat = x
  exact UInt8.ofNat_toNat
theorem bytN_len (s : ByteArray) : (bytN s).length = s.size := by
  unfold bytN; rw [List.length_map, Array.length_toList]; rfl
theorem bytN_lt (s : ByteArray) : ∀ x ∈ bytN s, x < 256 := by
  intro x hx
  obtain ⟨b, _, rfl⟩ := List.mem_map.1 hx
  exact b.toNat_lt
/-- the text of a node -/
def labN (k v : Int) (nm : ByteArray) (g : Bool) (num den : List Nat) (len : Nat) : List Nat :=
  if k = 1 then 118 :: dec v.toNat else if k = 2 then numText g num den else if k = 3 then 97 :: bytN nm else if k = 4 then 115 :: bytN nm else 99 :: (48 + len) :: bytN nm
theorem numFault_len {g : Bool} {A C : List Nat} (h : numFault g A C = 0) : A.length ≤ 128 ∧ C.length ≤ 128 := by
  unfold numFault at h
  by_cases h1 : 128 < A.length ∨ 128 < C.length
  · rw [if_pos h1] at h; exact absurd h (by decide)
  · omega
theorem RootOk.len {k : Int} {g : Bool} {num den : List Nat} (h : RootOk k g num den) : num.length ≤ 128 ∧ den.length ≤ 128 := by
  by_cases hk : k = 2
  · exact numFault_len (h.sound hk)
  · obtain ⟨_, rfl, rfl⟩ := h.non hk
    exact ⟨by simp, by simp⟩
theorem rune_one : ∀ n : Fin 33, Utf8.encode ((48 + n.1 : Nat) : Int) = strN [48 + n.1] := by decide +kernel
theorem rune_len {len : Nat} (h : len ≤ 32) : Utf8.encode ((48 + len : Nat) : Int) = strN [48 + len] := rune_one ⟨len, by omega⟩
set_option maxRecDepth 100000 in
set_option maxHeartbeats 1000000 in
/-- label of an atom -/
theorem rlabelA_calls (v : Int) (nm : ByteArray) (g : Bool) (s1 s2 s3 : Value) (hnm : nm.size ≤ 4000) (w : World) :
    Calls Tryz.prog 19 #[.agg #[.int .i64 3, .int .i64 v, .string nm, .bool g, s1, s2, s3]] w fun e w' => e = .returned (.string (strN (97 :: bytN nm))) ∧ Below w.heap.size w w' := by
  have b1 := below_alloc w (Obj.cells #[.int .i64 3, .int .i64 v, .string nm, .bool g, s1, s2, s3] 36)
  have s1' : ∀ w, (Op.stringOp .add { data := #[97] } nm).run Tryz.prog w = .ok (.string (strN (97 :: bytN nm))) w := fun w => add_str [97] (bytN nm) { data := #[97] } _ rfl (strN_bytN nm).symm (by rw [bytN_len]; simp; omega) w
  generalize bytN nm = L at *
  go_enter Tryz.func19, Tryz.ntmps19
  go_wp2_with fail
  go_ret
  exact ⟨rfl, b1⟩
set_option maxRecDepth 100000 in
set_option maxHeartbeats 1000000 in
/-- label of a string -/
theorem rlabelS_calls (v : Int) (nm : ByteArray) (g : Bool) (s1 s2 s3 : Value) (hnm : nm.size ≤ 4000) (w : World) :
    Calls Tryz.prog 19 #[.agg #[.int .i64 4, .int .i64 v, .string nm, .bool g, s1, s2, s3]] w fun e w' => e = .returned (.string (strN (115 :: bytN nm))) ∧ Below w.heap.size w w' := by
  have b1 := below_alloc w (Obj.cells #[.int .i64 4, .int .i64 v, .string nm, .bool g, s1, s2, s3] 36)
  have s1' : ∀ w, (Op.stringOp .add { data := #[115] } nm).run Tryz.prog w = .ok (.string (strN (115 :: bytN nm))) w := fun w => add_str [115] (bytN nm) { data := #[115] } _ rfl (strN_bytN nm).symm (by rw [bytN_len]; simp; omega) w
  generalize bytN nm = L at *
  go_enter Tryz.func19, Tryz.ntmps19
  go_wp2_with fail
  go_ret
  exact ⟨rfl, b1⟩
set_option maxRecDepth 100000 in
set_option maxHeartbeats 1000000 in
/-- label of a compound -/
theorem rlabelC_calls (v : Int) (nm : ByteArray) (g : Bool) (s1 s2 : Value) (a : Option Addr) (len c : Nat) (hlen : len ≤ 32) (hnm : nm.size ≤ 4000) (w : World) :
    Calls Tryz.prog 19 #[.agg #[.int .i64 5, .int .i64 v, .string nm, .bool g, s1, s2, .slice a len c]] w fun e w' => e = .returned (.string (strN (99 :: (48 + len) :: bytN nm))) ∧ Below w.heap.size w w' := by
  have b1 := below_alloc w (Obj.cells #[.int .i64 5, .int .i64 v, .string nm, .bool g, s1, s2, .slice a len c] 36)
  obtain ⟨m, hm⟩ : ∃ m, 48 + len = m := ⟨_, rfl⟩
  have s0' := rune_len hlen
  have w1 : IntKind.i64.wrap (48 + (len : Int)) = (m : Int) := by rw [IntKind.wrap_i64]; omega
  have w2 : wrap32 (m : Int) = (m : Int) := by unfold wrap32; omega
  rw [hm] at s0' ⊢
  have s1' : ∀ w, (Op.stringOp .add (strN [99, m]) nm).run Tryz.prog w = .ok (.string (strN (99 :: m :: bytN nm))) w := fun w => add_str [99, m] (bytN nm) _ _ rfl (strN_bytN nm).symm (by rw [bytN_len]; simp; omega) w
  have s2' : ∀ w, (Op.stringOp .add { data := #[99] } (strN [m])).run Tryz.prog w = .ok (.string (strN [99, m])) w := fun w => add_str [99] [m] _ _ rfl rfl (by simp) w
  clear hm
  generalize bytN nm = L at *
  go_enter Tryz.func19, Tryz.ntmps19
  go_wp2_with fail
  go_ret
  exact ⟨rfl, b1⟩
end Go.Proofs.YtihaajnknnapmaaGreatDoor
end
section
namespace Go.Proofs.YtihaajnknnapmaaGreatDoor
open Go.RowKit Go.Big
/-- label of a node -/
theorem rlabel_calls {k v : Int} {nm : ByteArray} {g : Bool} {num den : List Nat} {l3 : Nat} (ok : NodeOk k v nm g num den l3) (a1 a2 a3 : Option Addr) (l1 l2 c1 c2 c3 n : Nat) (hl1 : num.length = l1) (hl2 : den.length = l2) (w : World) (hn : n ≤ w.heap.size) (h1 : LimAt n w a1 num) (h2 : LimAt n w a2 den) :
    Calls Tryz.prog 19 #[.agg #[.int .i64 k, .int .i64 v, .string nm, .bool g, .slice a1 l1 c1, .slice a2 l2 c2, .slice a3 l3 c3]] w fun e w' => e = .returned (.string (strN (labN k v nm g num den l3))) ∧ Below w.heap.size w w' := by
  rcases ok.root.kind with rfl | rfl | rfl | rfl | rfl
  · obtain ⟨v0, v1⟩ := ok.var rfl
    obtain ⟨x, rfl⟩ : ∃ x : Nat, v = (x : Int) := ⟨v.toNat, by omega⟩
    exact rlabelV_calls x (by omega) _ _ _ _ _ w
  · have := ok.root.len
    exact rlabelN_calls _ _ _ g a1 a2 l1 l2 c1 c2 n num den hl1 hl2 (by omega) (by omega) w hn h1 h2
  · exact rlabelA_calls _ _ _ _ _ _ ok.name w
  · exact rlabelS_calls _ _ _ _ _ _ ok.name w
  · exact rlabelC_calls _ _ _ _ _ _ _ _ ok.args ok.name w
theorem dec_small {x : Nat} (h : x < 2 ^ 64) : (dec x).length ≤ 1000 := by
  unfold dec
  split
  · simp
  · have := digs_len 64 (n := x) h
    simp; omega
theorem labN_lt {k v : Int} {nm : ByteArray} {g : Bool} {num den : List Nat} {l3 : Nat} (h : l3 ≤ 32) : ∀ x ∈ labN k v nm g num den l3, x < 256 := by
  intro x hx
  unfold labN at hx
  split at hx
  · rcases List.mem_cons.1 hx with rfl | hx
    · omega
    · have := dec_lt x hx; omega
  · split at hx
    · exact numText_lt x hx
    · split at hx
      · rcases List.mem_cons.1 hx with rfl | hx
        · omega
        · exact bytN_lt _ x hx
      · split at hx
        · rcases List.mem_cons.1 hx with rfl | hx
          · omega
          · exact bytN_lt _ x hx
        · rcases List.mem_cons.1 hx with rfl | hx
          · omega
          · rcases List.mem_cons.1 hx with rfl | hx
            · omega
            · exact bytN_lt _ x hx
theorem labN_len {k v : Int} {nm : ByteArray} {g : Bool} {num den : List Nat} {l3 : Nat} (ok : NodeOk k v nm g num den l3) (hA : ∀ x ∈ num, x < 4294967296) (hC : ∀ x ∈ den, x < 4294967296) : (labN k v nm g num den l3).length ≤ 100000001 := by
  unfold labN
  split
  · have hv := ok.var ‹_›
    have := dec_small (x := v.toNat) (Nat.lt_of_le_of_lt (show v.toNat ≤ 1073741824 by omega) (by decide))
    simp; omega
  · split
    · have := ok.root.len
      obtain ⟨M, hM⟩ : ∃ M, M = 1024 := ⟨_, rfl⟩
      have := ratText_len (neg := g) (x := val 4294967296 num) (y := val 4294967296 den) (M := M) (lim_lt hA (by omega)) (lim_lt hC (by omega)) (by omega)
      simp [numText]; omega
    · have := ok.name
      split
      · simp [bytN_len]; omega
      · split
        · simp [bytN_len]; omega
        · simp [bytN_len]; omega
mutual
/-- the text of a term -/
def shapeT : Tm → List Nat
  | .mk k v nm g num den args => shapeN (labN k v nm g num den args.length) ++ shapeTs args
def shapeTs : List Tm → List Nat
  | [] => []
  | T :: r => shapeT T ++ shapeTs r
end
theorem shapeTs_app : ∀ (L M : List Tm), shapeTs (L ++ M) = shapeTs L ++ shapeTs M
  | [], M => by simp [shapeTs]
  | T :: r, M => by simp [shapeTs, shapeTs_app r M]
theorem shapeTs_take {L : List Tm} {i : Nat} {T : Tm} (h : L[i]? = some T) : shapeTs (L.take (i + 1)) = shapeTs (L.take i) ++ shapeT T := by
  rw [List.take_add_one, h, shapeTs_app]; simp [shapeTs]
theorem shapeN_len {s : List Nat} (h : s.length ≤ 100000001) : (shapeN s).length ≤ 100001002 := by
  have := dec_small (x := s.length) (Nat.lt_of_le_of_lt h (by decide))
  simp [shapeN]; omega
mutual
theorem shapeT_len : ∀ (T : Tm), AllOk T → (∃ n w vs, TmV n w T vs) → (shapeT T).length ≤ T.nodes * 100001002
  | .mk k v nm g num den args, h, ⟨n, w, vs, hv⟩ => by
    simp only [AllOk] at h
    simp only [TmV] at hv
    obtain ⟨s1, s2, a, c, rfl, ⟨⟨p1, q1, rfl, hA⟩, ⟨p2, q2, rfl, hC⟩⟩, h2, _⟩ := hv
    have h1 := shapeN_len (labN_len h.1 hA.1 hC.1)
    have h3 := shapeTs_len args h.2 ⟨n, w, a, 0, h2⟩
    simp only [shapeT, Tm.nodes, List.length_append]
    rw [Nat.add_mul]; omega
theorem shapeTs_len : ∀ (L : List Tm), AllOks L → (∃ n w a i, TmsV n w L a i) → (shapeTs L).length ≤ Tm.nodesL L * 100001002
  | [], _, _ => by simp [shapeTs, Tm.nodesL]
  | T :: r, h, ⟨n, w, a, i, hv⟩ => by
    simp only [AllOks] at h
    simp only [TmsV] at hv
    obtain ⟨⟨b, off, vs, e, hb, hc, hv1⟩, hr⟩ := hv
    have h1 := shapeT_len T h.1 ⟨n, w, vs, hv1⟩
    have h2 := shapeTs_len r h.2 ⟨n, w, a, i + 1, hr⟩
    simp only [shapeTs, Tm.nodesL, List.length_append]
    rw [Nat.add_mul]; omega
end
/-- what shape does at a term -/
def ShapeOk (T : Tm) : Prop := ∀ (n base : Nat) (w : World) (vs : List Value) (sv : Value) (D : List Nat), TmV n w T vs → n ≤ base → base ≤ w.heap.size → AllOk T → BytRow base w sv D → D.length + T.nodes * 100001002 ≤ 17592186044416 →
    Calls Tryz.prog 11 #[sv, .agg vs.toArray] w fun e w' => ∃ sv', e = .returned sv' ∧ BytRow base w' sv' (D ++ shapeT T) ∧ Below base w w'
/-- the append of a string onto a row of the call's own -/
theorem wpList_pushS2 {ops : Array Oper} {rest : List Oper} {o : Oper} {a : Act} {Q : Exit → Act → World → Prop} (w : World) (hgd : o.guard = none) (s x : Operand)
    (ho : o.op = .call { callee := .builtin .append, args := #[s, x], argTypes := #[46, 9] }) (base : Nat) (sv : Value) (D xs : List Nat) (hxs : ∀ x ∈ xs, x < 256) (hs : a.eval s = sv) (hx : a.eval x = .string (strN xs))
    (hR : BytRow base w sv D) (hlen : D.length + xs.length ≤ 17592186044416) (hbase : base ≤ w.heap.size)
    (h : ∀ v' w', BytRow base w' v' (D ++ xs) → Below base w w' → w.grownBy w' sv.ownBlock → wpList Tryz.prog ops Q rest (a.put o.dst v') w') : wpList Tryz.prog ops Q (o :: rest) a w := by
  obtain ⟨i0, hi0, hz0, hz1, hz2⟩ := info_parts inf5
  refine Lib.wpList_append_own_string w hgd s x 46 9 ho base 5 i0 Tryz.underlying46 Tryz.underlying9 hi0 hz0 hz1 hz2 sv D.length (D.map bv) hs hR (strN xs) hx (by rw [strN_size]; unfold maxLen; omega) (by rw [strN_size]; omega) hbase ?_
  intro v' w' h1 h2 h3
  refine h v' w' ?_ ((Below.refl _ w).grown h2 hbase fun k hk => (BytRow.own hR k hk).1) h2
  unfold BytRow
  rw [List.length_append, List.map_append, ← strCells_strN hxs, ← strN_size xs]; exact h1
/-- a box of another type is as it was behind an append onto the row -/
theorem box_kept {base : Nat} {w w' : World} {sv : Value} {D : List Nat} (h : BytRow base w sv D) (hg : w.grownBy w' sv.ownBlock) {b : Nat} {C : Array Value} (hb : w.heap[b]? = some (.cells C 36 (0, 0))) : w'.heap[b]? = some (.cells C 36 (0, 0)) := by
  rw [← hb]
  refine hg.block b (Array.getElem?_eq_some_iff.1 hb).1 fun e => ?_
  obtain ⟨_, ⟨e1, _⟩ | ⟨g, cap, cur, e1, _, hgb, _⟩⟩ := h
  · subst e1; simp [Value.ownBlock] at e
  · subst e1
    have : b = g := by simpa [Value.ownBlock] using e
    subst this
    rw [hgb] at hb
    cases hb
end Go.Proofs.YtihaajnknnapmaaGreatDoor
end
section
namespace Go.Proofs.YtihaajnknnapmaaGreatDoor
open Go.RowKit Go.Big
theorem shapeTs_take_len {n : Nat} {w : World} {a : Option Addr} {L : List Tm} (h : AllOks L) (hv : TmsV n w L a 0) : ∀ i, i ≤ L.length → (shapeTs (L.take i)).length ≤ Tm.nodesL (L.take i) * 100001002
  | 0, _ => by simp [shapeTs, Tm.nodesL]
  | i + 1, hi => by
    have hT : L[i]? = some (L[i]'(by omega)) := List.getElem?_eq_getElem _
    obtain ⟨b, off, vs, _, _, _, hv1⟩ := hv.get hT
    have h1 := shapeT_len _ (h.get hT) ⟨n, w, vs, hv1⟩
    have h2 := shapeTs_take_len h hv i (by omega)
    rw [shapeTs_take hT, nodesL_take hT, List.length_append, Nat.add_mul]
    omega
theorem nodesL_take_le (L : List Tm) (i : Nat) : Tm.nodesL (L.take i) ≤ Tm.nodesL L := by
  have h := nodesL_app (L.take i) (L.drop i)
  rw [List.take_append_drop] at h
  omega
set_option maxRecDepth 100000 in
set_option maxHeartbeats 4000000 in
/-- shape, a node, its arguments' given -/
theorem shape_step (k v : Int) (nm : ByteArray) (g : Bool) (num den : List Nat) (args : List Tm) (ih : ∀ T' ∈ args, ShapeOk T') : ShapeOk (.mk k v nm g num den args) := by
  intro n base w vs sv D h hn hbase hok hR hlim
  simp only [TmV] at h
  obtain ⟨s1, s2, a, c, rfl, ⟨⟨p1, q1, rfl, hA⟩, ⟨p2, q2, rfl, hC⟩⟩, h2, hbig, hbA, hbC⟩ := h
  simp only [AllOk] at hok
  obtain ⟨hnode, hall⟩ := hok
  obtain ⟨len, hl⟩ : ∃ len, args.length = len := ⟨_, rfl⟩
  obtain ⟨l1, hl1⟩ : ∃ l1, num.length = l1 := ⟨_, rfl⟩
  obtain ⟨l2, hl2⟩ : ∃ l2, den.length = l2 := ⟨_, rfl⟩
  have hslen := labN_len hnode hA.1 hC.1
  have hs256 := labN_lt (k := k) (v := v) (nm := nm) (g := g) (num := num) (den := den) hnode.args
  have hsh : shapeT (.mk k v nm g num den args) = shapeN (labN k v nm g num den args.length) ++ shapeTs args := by rw [shapeT]
  rw [hsh]
  clear hsh
  have hnod : (Tm.mk k v nm g num den args).nodes = 1 + Tm.nodesL args := by rw [Tm.nodes]
  rw [hnod] at hlim
  clear hnod
  rw [hl] at hbig hnode hslen hs256 ⊢
  rw [hl1] at hbA ⊢
  rw [hl2] at hbC ⊢
  have Al : Aside (args.length = len ∧ num.length = l1 ∧ den.length = l2) := ⟨hl, hl1, hl2⟩
  have b1 := below_alloc w (Obj.cells #[.int .i64 k, .int .i64 v, .string nm, .bool g, .slice p1 l1 q1, .slice p2 l2 q2, .slice a len c] 36)
  have hq := heap_alloc_new w (Obj.cells #[.int .i64 k, .int .i64 v, .string nm, .bool g, .slice p1 l1 q1, .slice p2 l2 q2, .slice a len c] 36)
  have hsz : Aside ((w.alloc (Obj.cells #[.int .i64 k, .int .i64 v, .string nm, .bool g, .slice p1 l1 q1, .slice p2 l2 q2, .slice a len c] 36)).heap.size = w.heap.size + 1) := by show _ = _; simp
  have d1 := rlabel_calls hnode p1 p2 a l1 l2 q1 q2 c n hl1 hl2 (w.alloc (Obj.cells #[.int .i64 k, .int .i64 v, .string nm, .bool g, .slice p1 l1 q1, .slice p2 l2 q2, .slice a len c] 36)) (by have := hsz.out; omega) (hA.below b1 (by omega)) (hC.below b1 (by omega))
  have hR0 := hR.below b1 (Nat.le_refl _)
  obtain ⟨wb, hwb⟩ : ∃ wb, w.alloc (Obj.cells #[.int .i64 k, .int .i64 v, .string nm, .bool g, .slice p1 l1 q1, .slice p2 l2 q2, .slice a len c] 36) = wb := ⟨_, rfl⟩
  rw [hwb] at b1 hq hsz d1 hR0
  obtain ⟨lab, hlab⟩ : ∃ lab, labN k v nm g num den len = lab := ⟨_, rfl⟩
  rw [hlab] at d1 hslen hs256 ⊢
  obtain ⟨m, hm⟩ : ∃ m, lab.length = m := ⟨_, rfl⟩
  have hssz : (strN lab).size = m := by rw [strN_size, hm]
  have d2 := fun w' => rtxt_calls m (by omega) w'
  have hdl : ∀ x ∈ dec m, x < 256 := fun x hx => by have := dec_lt x hx; omega
  have hdlen : (dec m).length ≤ 1000 := dec_small (Nat.lt_of_le_of_lt (show m ≤ 100000001 by omega) (by decide))
  have hshN : Aside (shapeN lab = dec m ++ 58 :: lab) := by show _ = _; rw [shapeN, hm]
  have hal : Aside (labN k v nm g num den len = lab ∧ lab.length = m ∧ AllOks args ∧ lab.length ≤ 100000001) := ⟨hlab, hm, hall, hslen⟩
  have hlimA : Aside (D.length + (1 + Tm.nodesL args) * 100001002 ≤ 17592186044416) := hlim
  have hD : Aside (D.length + (dec m).length + 1 + m ≤ 17592186044416) := by show _ ≤ _; rw [Nat.add_mul] at hlim; omega
  have hBb : Aside (Below w.heap.size w wb) := b1
  clear hl hl1 hl2 hA hC hnode hlab hall hm hslen hlim hR b1
  obtain ⟨x0, x1, x2, x3, x4, x5, x6⟩ := cells7 hq
  go_enter Tryz.func11, Tryz.ntmps11
  go_wp2_with first
    | (go_at_call 19; with_reducible refine d1.mono ?_; rintro e w1 ⟨rfl, hb1⟩; have hR1 := hR0.below hb1 (by have := hsz.out; omega); have hq1 := (hb1.block w.heap.size (by have := hsz.out; omega)).trans hq)
    | (go_at_call 20; with_reducible refine (d2 _).mono ?_; rintro e w2 ⟨rfl, hb2⟩; have hR2 := hR1.below hb2 (by have := hsz.out; have := hb1.size; omega); have hq2 := (hb2.block w.heap.size (by have := hsz.out; have := hb1.size; omega)).trans hq1)
    | (at_builtin; refine wpList_pushS2 _ rfl _ _ rfl base _ D (dec m) hdl rfl rfl hR2 (by have := hD.out; omega) (by have := hsz.out; have := hb1.size; have := hb2.size; omega) ?_; intro v1 w3 hR3 hB3 hg3; have hq3 := box_kept hR2 hg3 hq2)
    | (at_builtin; refine wpList_pushB2 _ rfl _ _ rfl base _ (D ++ dec m) [58] 1 rfl rfl w3.heap.size 1 rfl (new_cells w3 [bv 58] 5 (0, 0)) (hR3.below (below_alloc _ _) (Nat.le_refl _)) (by have := hD.out; simp; omega) (by have := hsz.out; have := hb1.size; have := hb2.size; have := hB3.size; simp; omega) ?_; intro v2 w4 hR4 hB4 hg4; have hq4 := box_kept (hR3.below (below_alloc _ _) (Nat.le_refl _)) hg4 (((below_alloc w3 _).block w.heap.size (Array.getElem?_eq_some_iff.1 hq3).1).trans hq3))
    | (at_builtin; refine wpList_pushS2 _ rfl _ _ rfl base _ (D ++ dec m ++ [58]) lab hs256 rfl rfl hR4 (by have := hD.out; have := hal.out.2.1; simp; omega) (by have := hsz.out; have := hb1.size; have := hb2.size; have := hB3.size; have := hB4.size; simp at this; omega) ?_; intro v3 w5 hR5 hB5 hg5; have hq5 := box_kept hR4 hg5 hq4; obtain ⟨y0, y1, y2, y3, y4, y5, y6⟩ := cells7 hq5)
  have hB5' : Below base w w5 := (((((hBb.out.mono hbase).trans (hb1.mono (by have := hsz.out; omega))).trans (hb2.mono (by have := hsz.out; have := hb1.size; omega))).trans hB3).trans ((below_alloc w3 _).mono (by have := hsz.out; have := hb1.size; have := hb2.size; have := hB3.size; omega))).trans (hB4.trans hB5)
  have hR5' : BytRow base w5 v3 (D ++ shapeN lab) := by
    rw [hshN.out]
    have e : D ++ (dec m ++ 58 :: lab) = D ++ dec m ++ [58] ++ lab := by simp
    rw [e]; exact hR5
  clear hR0 hR1 hR2 hR3 hR4 hR5 hq hq1 hq2 hq3 hq4 hq5 hg3 hg4 hg5 hB3 hB4 hB5 hb1 hb2 d1 d2 x0 x1 x2 x3 x4 x5 x6 y0 y1 y2 y3 y4 y5 y6 hBb
  go_loopw [0, 24] (fun s0 s24 wr => ∃ i : Nat, s24 = .int .i64 i ∧ i ≤ len ∧ BytRow base wr s0 (D ++ shapeN lab ++ shapeTs (args.take i)) ∧ Below base w wr) (fun _ s _ => len - (intOf s).toNat)
  case atStart => exact ⟨0, rfl, Nat.zero_le _, by simpa [shapeTs] using hR5', hB5'⟩
  case round =>
    obtain ⟨i, rfl, hi, hR, hB⟩ := hrel
    clear hR5' hB5'
    by_cases hlt : i < len
    · obtain ⟨T', hT'⟩ : ∃ T', args[i]? = some T' := ⟨args[i]'(by rw [Al.out.1]; exact hlt), List.getElem?_eq_getElem _⟩
      obtain ⟨b, off, vs', rfl, hbn, hc, hv⟩ := h2.get hT'
      have hv2 := hv
      have hok' : AllOk T' := hal.out.2.2.1.get hT'
      have hlen1 := shapeTs_take_len hal.out.2.2.1 h2 i (by rw [Al.out.1]; exact hi)
      have hlen2 := nodesL_take_le args (i + 1)
      rw [nodesL_take hT'] at hlen2
      have hlim' : (D ++ shapeN lab ++ shapeTs (args.take i)).length + T'.nodes * 100001002 ≤ 17592186044416 := by
        have h1 := hlimA.out
        have h2 := shapeN_len (s := lab) hal.out.2.2.2
        rw [List.length_append, List.length_append]
        have h3 : (1 + (Tm.nodesL (args.take i) + T'.nodes)) * 100001002 ≤ (1 + Tm.nodesL args) * 100001002 := Nat.mul_le_mul_right _ (by omega)
        rw [Nat.add_mul, Nat.add_mul] at h3
        omega
      have hnext : D ++ shapeN lab ++ shapeTs (args.take i) ++ shapeT T' = D ++ shapeN lab ++ shapeTs (args.take (i + 1)) := by
        rw [shapeTs_take hT', List.append_assoc]
      obtain ⟨k', v', nm', g', num', den', args'⟩ := T'
      simp only [TmV] at hv
      obtain ⟨t1, t2, a', c', rfl, ⟨⟨p1', q1', rfl, _⟩, ⟨p2', q2', rfl, _⟩⟩, _⟩ := hv
      have hb2 : ∀ p : Addr, p.block < n → wr.cell? p = w.cell? p := fun p hp => (hB.mono hn).cell hp
      rw [Nat.zero_add] at hc
      have x0 := (hb2 ⟨b, off + i * 7 + 0, none⟩ hbn).trans (hc 0 _ rfl)
      have x1 := (hb2 ⟨b, off + i * 7 + 1, none⟩ hbn).trans (hc 1 _ rfl)
      have x2 := (hb2 ⟨b, off + i * 7 + 2, none⟩ hbn).trans (hc 2 _ rfl)
      have x3 := (hb2 ⟨b, off + i * 7 + 3, none⟩ hbn).trans (hc 3 _ rfl)
      have x4 := (hb2 ⟨b, off + i * 7 + 4, none⟩ hbn).trans (hc 4 _ rfl)
      have x5 := (hb2 ⟨b, off + i * 7 + 5, none⟩ hbn).trans (hc 5 _ rfl)
      have x6 := (hb2 ⟨b, off + i * 7 + 6, none⟩ hbn).trans (hc 6 _ rfl)
      rw [Nat.add_zero] at x0
      have hi1 : (i : Int) < (len : Int) := by omega
      have hi3 : (0 : Int) ≤ (i : Int) := by omega
      have hw3 : IntKind.i64.wrap ((i : Int) + 1) = (i : Int) + 1 := by rw [IntKind.wrap_i64]; omega
      have hbw : base ≤ wr.heap.size := Nat.le_trans hbase hB.size
      have hB2 : Below base w (wr.alloc (Obj.cells #[.int .i64 k', .int .i64 v', .string nm', .bool g', .slice p1' num'.length q1', .slice p2' den'.length q2', .slice a' args'.length c'] 36)) := hB.alloc hbw _
      have d1 := ih _ (List.mem_of_getElem? hT') n base (wr.alloc (Obj.cells #[.int .i64 k', .int .i64 v', .string nm', .bool g', .slice p1' num'.length q1', .slice p2' den'.length q2', .slice a' args'.length c'] 36)) _ _ _ (TmV.below hB2 hn _ _ hv2) hn (by rw [World.size_alloc]; omega) hok' (hR.below (below_alloc _ _) (Nat.le_refl _)) hlim'
      rw [hnext] at d1
      replace d1 : Calls Tryz.prog 11 #[_, .agg #[.int .i64 k', .int .i64 v', .string nm', .bool g', .slice p1' num'.length q1', .slice p2' den'.length q2', .slice a' args'.length c']] _ _ := d1
      have hqe := heap_alloc_new wr (Obj.cells #[.int .i64 k', .int .i64 v', .string nm', .bool g', .slice p1' num'.length q1', .slice p2' den'.length q2', .slice a' args'.length c'] 36)
      generalize args'.length = len' at *
      generalize num'.length = ln1 at *
      generalize den'.length = ln2 at *
      obtain ⟨z0, z1, z2, z3, z4, z5, z6⟩ := cells7 hqe
      clear h2 ih hc hv2 hT' hb2 hok' hlim' hnext hlen1 hlen2 hqe hR
      go_wp2_with (go_at_call 11; with_reducible refine d1.mono ?_; rintro e w6 ⟨sv', rfl, hR6, hB6⟩)
      exact ⟨⟨i + 1, by simp, by omega, hR6, hB2.trans hB6⟩, by simp [intOf]; omega⟩
    · obtain rfl : i = len := by omega
      clear h2 ih
      have hfin : D ++ shapeN lab ++ shapeTs (args.take i) = D ++ (shapeN lab ++ shapeTs args) := by
        rw [← Al.out.1, List.take_length, List.append_assoc]
      rw [hfin] at hR
      clear hfin
      go_wp2
      go_ret
      exact ⟨_, rfl, hR, hB⟩
/-- shape -/
theorem shape_calls : ∀ (T : Tm), ShapeOk T
  | .mk k v nm g num den args => shape_step k v nm g num den args fun T' hT' => shape_calls T'
termination_by T => SizeOf.sizeOf T
decreasing_by
  simp_wf
  have := List.sizeOf_lt_of_mem hT'
  omega
end Go.Proofs.YtihaajnknnapmaaGreatDoor
end
section
namespace Go.Proofs.YtihaajnknnapmaaGreatDoor
open Go.RowKit Go.Big
set_option maxRecDepth 100000 in
set_option maxHeartbeats 1000000 in
/-- Shape -/
theorem Shape_calls (T : Tm) (n : Nat) (w : World) (vs : List Value) (h : TmV n w T vs) (hn : n ≤ w.heap.size) (hf : Fine T) :
    Calls Tryz.prog 6 #[.agg vs.toArray] w fun e w' => e = .returned (.string (strN (shapeT T))) ∧ Below w.heap.size w w' := by
  have hs := shape_calls T
  obtain ⟨TT, hTT⟩ : ∃ TT, T = TT := ⟨_, rfl⟩
  have h0 := h
  rw [hTT] at hs h0 hf ⊢
  obtain ⟨k, v, nm, g, num, den, args⟩ := T
  simp only [TmV] at h
  obtain ⟨s1, s2, a, c, rfl, ⟨⟨p1, q1, rfl, _⟩, ⟨p2, q2, rfl, _⟩⟩, _⟩ := h
  have b1 := below_alloc w (Obj.cells #[.int .i64 k, .int .i64 v, .string nm, .bool g, .slice p1 num.length q1, .slice p2 den.length q2, .slice a args.length c] 36)
  have d1 := hs n (w.alloc (Obj.cells #[.int .i64 k, .int .i64 v, .string nm, .bool g, .slice p1 num.length q1, .slice p2 den.length q2, .slice a args.length c] 36)).heap.size (w.alloc (Obj.cells #[.int .i64 k, .int .i64 v, .string nm, .bool g, .slice p1 num.length q1, .slice p2 den.length q2, .slice a args.length c] 36)) _ (.slice none 0 0) [] (TmV.below b1 hn _ _ h0) (by simp; omega) (Nat.le_refl _) hf.1 (BytRow.nil _ _) (by have := hf.2; simp; omega)
  rw [List.nil_append] at d1
  replace d1 : Calls Tryz.prog 11 #[.slice none 0 0, .agg #[.int .i64 k, .int .i64 v, .string nm, .bool g, .slice p1 num.length q1, .slice p2 den.length q2, .slice a args.length c]] _ _ := d1
  show Calls Tryz.prog 6 #[.agg #[.int .i64 k, .int .i64 v, .string nm, .bool g, .slice p1 num.length q1, .slice p2 den.length q2, .slice a args.length c]] w _
  generalize args.length = l0 at *
  generalize num.length = l1 at *
  generalize den.length = l2 at *
  clear hs h0 hTT
  go_enter Tryz.func6, Tryz.ntmps6
  go_wp2_with (go_at_call 11; with_reducible refine d1.mono ?_; rintro e w1 ⟨sv, rfl, hR, hb1⟩; have hst := hR.string)
  go_ret
  exact ⟨rfl, b1.trans (hb1.mono b1.size)⟩
end Go.Proofs.YtihaajnknnapmaaGreatDoor
end
