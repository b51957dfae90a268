/-
  A part of the proof of the card of WorkbenchClausesInOrder (second form): lemmas that the text Card uses. No condition of its own.
-/
import Derived.StillTail
set_option linter.all false
set_option linter.unusedVariables false
set_option linter.unusedSimpArgs false
section
namespace Go.Calm
open Go
/-! A region that draws its order, in whose head calls stand that make the world grow: each operation of the head gives one value in all worlds of a class, and leaves the class -/
section
variable {P : Program} {ops : Array Oper} {md : Region.Mode} {C : World → Prop}
def upon (P : Program) (C : World → Prop) (v : Value) : Result Next → Prop
  | .ok (.value u) w' => u = v ∧ C w'
  | .ok .skip w' => v = undef ∧ C w'
  | .ok (.enter f args) w' => Calls P f args w' fun e w'' => e = .returned v ∧ C w''
  | _ => False
def At (P : Program) (ops : Array Oper) (C : World → Prop) (o : Oper) (v : Value) (a : Act) : Prop :=
  (Region.wanted o (yielded ops a.tmps) = true ∧ ∀ w, C w → upon P C v ((execOp a.eval o).run P w)) ∨ (Region.wanted o (yielded ops a.tmps) = false ∧ v = undef)
theorem At.same {o : Oper} {v : Value} {a a' : Act} (h : At P ops C o v a) (he : execOp a'.eval o = execOp a.eval o) (hw : Region.wanted o (yielded ops a'.tmps) = Region.wanted o (yielded ops a.tmps)) : At P ops C o v a' := by
  unfold At at *
  rw [he, hw]
  exact h
/-- one operation -/
def one (P : Program) (ops : Array Oper) (C : World → Prop) (i : Nat) (K : Act → Prop) (a : Act) : Prop :=
  match ops[i]? with
  | none => K a
  | some o => ∃ v, At P ops C o v a ∧ K (a.put o.dst v)
theorem one_mono {i : Nat} {a : Act} {K K' : Act → Prop} (h : ∀ a, K a → K' a) (hh : one P ops C i K a) : one P ops C i K' a := by
  unfold one at *
  split
  · rename_i ho; rw [ho] at hh; exact h _ hh
  · rename_i o ho
    rw [ho] at hh
    obtain ⟨v, h1, h2⟩ := hh
    exact ⟨v, h1, h _ h2⟩
theorem At.one {i : Nat} {o : Oper} {v : Value} {a : Act} (hi : ops[i]? = some o) (hy : At P ops C o v a) {K : Act → Prop} (h : K (a.put o.dst v)) : one P ops C i K a := by
  unfold Calm.one
  rw [hi]
  exact ⟨v, hy, h⟩
theorem wp_of_upon {o : Oper} {a : Act} {v : Value} {r : Result Next} {K' : Act → World → Prop} {Q' : Exit → Act → World → Prop} (h : ∀ w, C w → K' (a.put o.dst v) w) (hh : upon P C v r) : o.upon P a K' Q' r := by
  cases r with
  | ok n w' =>
    cases n <;> simp only [Calm.upon] at hh <;> simp only [Oper.upon]
    case enter f args =>
      exact hh.mono fun e w'' ⟨he, hw⟩ => by subst he; exact h _ hw
    case value u => obtain ⟨rfl, h2⟩ := hh; exact h _ h2
    case skip => obtain ⟨rfl, h2⟩ := hh; exact h _ h2
  | halt x w' => simp only [Calm.upon] at hh
theorem wpOp_of_one {i : Nat} {a : Act} {w : World} {K : Act → Prop} {K' : Act → World → Prop} {Q' : Exit → Act → World → Prop} (hw : C w) (h : ∀ a w, C w → K a → K' a w) (hh : one P ops C i K a) : wpOp P ops Q' i K' a w := by
  unfold one at hh
  unfold wpOp
  split
  · rename_i ho; rw [ho] at hh; exact h _ _ hw hh
  · rename_i o ho
    rw [ho] at hh
    obtain ⟨v, h1 | ⟨h1, rfl⟩, h2⟩ := hh
    · rw [if_pos h1.1]
      exact .inl (wp_of_upon (fun w' hw' => h _ _ hw' h2) (h1.2 w hw))
    · rw [if_neg (by rw [h1]; exact Bool.false_ne_true)]
      exact h _ _ hw h2
theorem one_put {j : Nat} {oi oj : Oper} {v : Value} (hj : ops[j]? = some oj) (hap : oi.apart ops oj = true)
    (hsi : ∀ cs b, oi.op ≠ .select cs b) (hsj : ∀ cs b, oj.op ≠ .select cs b) {K : Act → Prop} {a : Act}
    (hy : At P ops C oi v a) (h : one P ops C j K (a.put oi.dst v)) : one P ops C j (fun a' => At P ops C oi v a' ∧ K (a'.put oi.dst v)) a := by
  obtain ⟨h1, h2, h3⟩ := Oper.apart_spec hap
  unfold one at *
  rw [hj] at h ⊢
  obtain ⟨u, hu, hK⟩ := h
  refine ⟨u, hu.same (execOp_put oj hsj a oi.dst v h1).symm (wanted_put oj a oi.dst v h1).symm, hy.same (execOp_put oi hsi a oj.dst u h3) (wanted_put oi a oj.dst u h3), ?_⟩
  rw [← Act.put_comm a v u h2]
  exact hK
/-- the head, in any order -/
def head (P : Program) (md : Region.Mode) (ops : Array Oper) (C : World → Prop) (n : Nat) (L : Array Bool → Act → Prop) : Nat → Array Bool → Act → Prop
  | 0, listed, a => L listed a
  | f + 1, listed, a => Region.ready md ops listed ≠ [] ∧ ∀ i ∈ Region.ready md ops listed, i < n ∧ one P ops C i (head P md ops C n L f (listed.setIfInBounds i true)) a
theorem any_of_head {n g : Nat} {L : Array Bool → Act → Prop} {Q' : Exit → Act → World → Prop} (hL : ∀ listed a w, C w → L listed a → wpAny P md ops Q' g listed a w) :
    ∀ (f : Nat) (listed : Array Bool) (a : Act) (w : World), C w → head P md ops C n L f listed a → wpAny P md ops Q' (f + g) listed a w
  | 0, listed, a, w, hw, h => by rw [Nat.zero_add]; exact hL _ _ _ hw h
  | f + 1, listed, a, w, hw, h => by
    rw [show f + 1 + g = (f + g) + 1 by omega]
    exact ⟨fun h0 => absurd h0 h.1, fun i hi => wpOp_of_one hw (fun a' w' hw' h' => any_of_head hL f _ a' w' hw' h') (h.2 i hi).2⟩
theorem head_first {n i : Nat} {oi : Oper} {v : Value} {L : Array Bool → Act → Prop} (hi : ops[i]? = some oi) (hsel : ∀ (j : Nat) (o : Oper) cs b, ops[j]? = some o → o.op ≠ .select cs b)
    (hs : Region.sinkB md ops n = true) (hc : Region.chainB md ops n = true) (hn : n < ops.size) (hin : i < n) (hdone : ∀ listed a, L listed a → ∀ j ∈ Region.ready md ops listed, n ≤ j) :
    ∀ (f : Nat) (listed : Array Bool) (a : Act), HeadInv md ops n listed →
      (∀ j oj, ops[j]? = some oj → j ≠ i → listed.getD j true = false → (∀ e ∈ oj.after, Region.binds md e = true → e.on ≠ i) → oi.apart ops oj = true) →
      i ∈ Region.ready md ops listed → At P ops C oi v a → head P md ops C n L f (listed.setIfInBounds i true) (a.put oi.dst v) → head P md ops C n L (f + 1) listed a := by
  intro f
  induction f with
  | zero =>
    intro listed a inv _ hr hy H
    have hun := (mem_ready.1 hr).1
    refine ⟨fun h => (by rw [h] at hr; cases hr), fun j hj => ?_⟩
    have hjn : j < n := Nat.lt_of_not_le fun h => tail_waits hs hc hn inv _ i rfl hin hun j h hj
    refine ⟨hjn, ?_⟩
    by_cases hji : j = i
    · subst hji; exact hy.one hi H
    · have := hdone _ _ H j (ready_mono hj hji)
      omega
  | succ f ih =>
    intro listed a inv hfree hr hy H
    have hun := (mem_ready.1 hr).1
    refine ⟨fun h => (by rw [h] at hr; cases hr), fun j hj => ?_⟩
    have hjn : j < n := Nat.lt_of_not_le fun h => tail_waits hs hc hn inv _ i rfl hin hun j h hj
    refine ⟨hjn, ?_⟩
    by_cases hji : j = i
    · subst hji; exact hy.one hi H
    · have h1 := (H.2 j (ready_mono hj hji)).2
      obtain ⟨hjun, oj, hoj, hall⟩ := mem_ready.1 hj
      have hnot : ∀ e ∈ oj.after, Region.binds md e = true → e.on ≠ i := fun e he hb heq => by
        have h1 := hall e he hb
        rw [heq, getD_both hun] at h1
        cases h1
      have h2 := one_put hoj (hfree j oj hoj hji hjun hnot) (fun cs b => hsel i oi cs b hi) (fun cs b => hsel j oj cs b hoj) hy h1
      have hfree' : ∀ k ok, ops[k]? = some ok → k ≠ i → (listed.setIfInBounds j true).getD k true = false →
          (∀ e ∈ ok.after, Region.binds md e = true → e.on ≠ i) → oi.apart ops ok = true := fun k ok hk hki hkun hno => by
        refine hfree k ok hk hki ?_ hno
        by_cases hjk : j = k
        · subst hjk; exact hjun
        · rw [getD_set_ne true hjk] at hkun; exact hkun
      refine one_mono (fun a' h3 => ih (listed.setIfInBounds j true) a' (inv.set hj hjn) hfree' (ready_mono hr (Ne.symm hji)) h3.1 ?_) h2
      rw [Array.setIfInBounds_comm _ _ hji]
      exact h3.2
/-- the head, in the order of the text -/
def chain (P : Program) (ops : Array Oper) (C : World → Prop) (Q : Act → Prop) : List Oper → Act → Prop
  | [], a => Q a
  | o :: rest, a => ∃ v, At P ops C o v a ∧ chain P ops C Q rest (a.put o.dst v)
theorem head_lex {n g : Nat} {Lq : Act → Prop} (hsel : Region.noSelect ops = true) (hs : Region.sinkB md ops n = true) (hc : Region.chainB md ops n = true) (hn : n < ops.size) :
    ∀ (l : List Oper) (k : Nat) (listed : Array Bool) (a : Act), (∀ j, j < l.length → l[j]? = ops[k + j]?) → k + l.length = n → HeadInv md ops n listed →
    Region.lexHead md ops g l.length k listed = true → chain P ops C Lq l a → head P md ops C n (fun listed' a' => Region.seqB md ops g n listed' = true ∧ Lq a') l.length listed a
  | [], k, listed, a, _, hk, _, hB, h => by
    have : k = n := by simpa using hk
    subst this
    exact ⟨by simpa [Region.lexHead] using hB, h⟩
  | o :: l, k, listed, a, hl, hk, inv, hB, h => by
    have h0 : ops[k]? = some o := by simpa using (hl 0 (by simp)).symm
    simp only [List.length_cons, Region.lexHead, Bool.and_eq_true] at hB
    obtain ⟨⟨hr, hf⟩, hB'⟩ := hB
    have hkn : k < n := by simp only [List.length_cons] at hk; omega
    have hr' : k ∈ Region.ready md ops listed := by simpa using hr
    obtain ⟨v, hy, hK⟩ := h
    exact head_first h0 (Region.noSelect_spec hsel) hs hc hn hkn (fun listed' a' hL => seqB_ready hL.1) l.length listed a inv (Region.free_spec h0 hf) hr' hy
      (head_lex hsel hs hc hn l (k + 1) _ _ (fun j hj => by have := hl (j + 1) (by simp; omega); simpa [Nat.add_assoc, Nat.add_comm 1 j] using this) (by simp only [List.length_cons] at hk; omega) (inv.set hr' hkn) hB' hK)
/-- THE RULE: n operations of the head, calm in the class C; the tail one behind the other -/
theorem region_tail {id : Nat} {Q : Exit → Act → World → Prop} {a : Act} {w : World} {l : List Oper} (C : World → Prop) (n : Nat) (hm : P.follows .mixedOrders = true) (hB : Region.lexTailB .any l.toArray n = true)
    (hw : C { w with drawn := w.drawn + 1 }) (h : chain P l.toArray C (fun a' => ∀ w', C w' → wpList P l.toArray Q (l.drop n) a' w') (l.take n) a) : (Code.region id l.toArray true).wp P Q a w := by
  simp only [Region.lexTailB, Bool.and_eq_true, decide_eq_true_eq] at hB
  obtain ⟨⟨⟨⟨hsel, hn⟩, hs⟩, hc⟩, hlex⟩ := hB
  have hn' : n < l.length := by simpa using hn
  have htl : (l.take n).length = n := by simp; omega
  have hdl : (l.drop n).length = l.toArray.size - n := by simp
  have inv0 : HeadInv .any l.toArray n (Array.replicate l.toArray.size false) :=
    ⟨by simp, fun j oj _ hl => (by rw [getD_replicate_false] at hl; cases hl), fun t _ ht => getD_in (by simpa using ht) (getD_replicate_false _ _)⟩
  have H := head_lex (md := .any) (g := l.toArray.size - n) hsel hs hc hn (l.take n) 0 _ a (fun j hj => by
    have hj' : j < n := by rw [htl] at hj; exact hj
    simp [hj']) (by simpa using htl) inv0 (by rw [htl]; exact hlex) h
  refine wp_region_any hm ?_
  have := any_of_head (Q' := Q) (g := l.toArray.size - n) (fun listed a' w' hw' hL => by
    have := wpAny_of_seq (md := .any) (Q' := Q) (l.drop n) n listed a' w' (fun j => by simp [List.getElem?_drop]) (by rw [hdl]; exact hL.1) (hL.2 w' hw')
    rwa [hdl] at this) _ _ _ _ hw H
  rw [htl, show n + (l.toArray.size - n) = l.toArray.size by omega] at this
  exact this
theorem chain_step {Q : Act → Prop} {o : Oper} {rest : List Oper} {a : Act} (v : Value) (hg : o.guard = none) (h : ∀ w, C w → upon P C v ((execOp a.eval o).run P w)) (hK : chain P ops C Q rest (a.put o.dst v)) : chain P ops C Q (o :: rest) a :=
  ⟨v, .inl ⟨by unfold Region.wanted; rw [hg], h⟩, hK⟩
theorem chain_step_w {Q : Act → Prop} {o : Oper} {rest : List Oper} {a : Act} (v : Value) (hg : Region.wanted o (yielded ops a.tmps) = true) (h : ∀ w, C w → upon P C v ((execOp a.eval o).run P w)) (hK : chain P ops C Q rest (a.put o.dst v)) : chain P ops C Q (o :: rest) a :=
  ⟨v, .inl ⟨hg, h⟩, hK⟩
theorem chain_skip {Q : Act → Prop} {o : Oper} {rest : List Oper} {a : Act} (hg : Region.wanted o (yielded ops a.tmps) = false) (hK : chain P ops C Q rest (a.put o.dst undef)) : chain P ops C Q (o :: rest) a :=
  ⟨undef, .inr ⟨hg, rfl⟩, hK⟩
theorem chain_nil {Q : Act → Prop} {a : Act} (h : Q a) : chain P ops C Q [] a := h
end
end Go.Calm
end
section
namespace Go.Heavy
open Go
/-! A region that draws its order, in whose head ONE call (the heavy one, number h) changes the world, the others being still: each gives one value in all worlds of a class and leaves the world as it is; the heavy one keeps the class -/
section
variable {P : Program} {ops : Array Oper} {md : Region.Mode} {C : World → Prop}
def uponW (P : Program) (K : Value → World → Prop) : Result Next → Prop
  | .ok (.value u) w' => K u w'
  | .ok .skip w' => K undef w'
  | .ok (.enter f args) w' => Calls P f args w' fun e w'' => ∃ v, e = .returned v ∧ K v w''
  | _ => False
theorem uponW_mono {K K' : Value → World → Prop} (h : ∀ v w, K v w → K' v w) {r : Result Next} (hh : uponW P K r) : uponW P K' r := by
  cases r with
  | ok n w' =>
    cases n <;> simp only [uponW] at hh ⊢
    case enter f args => exact hh.mono fun e w'' ⟨v, e1, e2⟩ => ⟨v, e1, h _ _ e2⟩
    all_goals exact h _ _ hh
  | halt x w' => simp only [uponW] at hh
/-- still: one value, the world as it was -/
def St (P : Program) (ops : Array Oper) (C : World → Prop) (o : Oper) (v : Value) (a : Act) : Prop :=
  (Region.wanted o (yielded ops a.tmps) = true ∧ ∀ w, C w → uponW P (fun u w' => u = v ∧ w' = w) ((execOp a.eval o).run P w)) ∨ (Region.wanted o (yielded ops a.tmps) = false ∧ v = undef)
theorem St.same {o : Oper} {v : Value} {a a' : Act} (h : St P ops C o v a) (he : execOp a'.eval o = execOp a.eval o) (hw : Region.wanted o (yielded ops a'.tmps) = Region.wanted o (yielded ops a.tmps)) : St P ops C o v a' := by
  unfold St at *
  rw [he, hw]
  exact h
/-- one operation -/
def oneO (P : Program) (ops : Array Oper) (o : Oper) (K : Act → World → Prop) (a : Act) (w : World) : Prop :=
  (Region.wanted o (yielded ops a.tmps) = true ∧ uponW P (fun v w' => K (a.put o.dst v) w') ((execOp a.eval o).run P w)) ∨ (Region.wanted o (yielded ops a.tmps) = false ∧ K (a.put o.dst undef) w)
def oneW (P : Program) (ops : Array Oper) (i : Nat) (K : Act → World → Prop) (a : Act) (w : World) : Prop :=
  match ops[i]? with
  | none => K a w
  | some o => oneO P ops o K a w
theorem oneO_mono {o : Oper} {a : Act} {w : World} {K K' : Act → World → Prop} (h : ∀ a w, K a w → K' a w) (hh : oneO P ops o K a w) : oneO P ops o K' a w := by
  rcases hh with ⟨h1, h2⟩ | ⟨h1, h2⟩
  · exact .inl ⟨h1, uponW_mono (fun v w' => h _ _) h2⟩
  · exact .inr ⟨h1, h _ _ h2⟩
theorem oneW_mono {i : Nat} {a : Act} {w : World} {K K' : Act → World → Prop} (h : ∀ a w, K a w → K' a w) (hh : oneW P ops i K a w) : oneW P ops i K' a w := by
  unfold oneW at *
  split
  · rename_i ho; rw [ho] at hh; exact h _ _ hh
  · rename_i o ho
    rw [ho] at hh
    exact oneO_mono h hh
theorem St.one {i : Nat} {o : Oper} {v : Value} {a : Act} {w : World} (hi : ops[i]? = some o) (hw : C w) (hy : St P ops C o v a) {K : Act → World → Prop} (h : K (a.put o.dst v) w) : oneW P ops i K a w := by
  unfold oneW
  rw [hi]
  rcases hy with ⟨h1, h2⟩ | ⟨h1, rfl⟩
  · exact .inl ⟨h1, uponW_mono (fun u w' ⟨e1, e2⟩ => by subst e1; subst e2; exact h) (h2 w hw)⟩
  · exact .inr ⟨h1, h⟩
theorem wp_of_uponW {o : Oper} {a : Act} {r : Result Next} {K : Value → World → Prop} {K' : Act → World → Prop} {Q' : Exit → Act → World → Prop} (h : ∀ v w, K v w → K' (a.put o.dst v) w) (hh : uponW P K r) : o.upon P a K' Q' r := by
  cases r with
  | ok n w' =>
    cases n <;> simp only [uponW] at hh <;> simp only [Oper.upon]
    case enter f args =>
      exact hh.mono fun e w'' ⟨v, he, hw⟩ => by subst he; exact h _ _ hw
    case value u => exact h _ _ hh
    case skip => exact h _ _ hh
  | halt x w' => simp only [uponW] at hh
theorem wpOp_of_oneW {i : Nat} {a : Act} {w : World} {K K' : Act → World → Prop} {Q' : Exit → Act → World → Prop} (h : ∀ a w, K a w → K' a w) (hh : oneW P ops i K a w) : wpOp P ops Q' i K' a w := by
  unfold oneW at hh
  unfold wpOp
  split
  · rename_i ho; rw [ho] at hh; exact h _ _ hh
  · rename_i o ho
    rw [ho] at hh
    rcases hh with ⟨h1, h2⟩ | ⟨h1, h2⟩
    · rw [if_pos h1]
      exact .inl (wp_of_uponW (fun v w' hw' => h _ _ hw') h2)
    · rw [if_neg (by rw [h1]; exact Bool.false_ne_true)]
      exact h _ _ h2
theorem oneW_put {j : Nat} {oi oj : Oper} {v : Value} (hj : ops[j]? = some oj) (hap : oi.apart ops oj = true)
    (hsi : ∀ cs b, oi.op ≠ .select cs b) (hsj : ∀ cs b, oj.op ≠ .select cs b) {K : Act → World → Prop} {a : Act} {w : World}
    (hy : St P ops C oi v a) (h : oneW P ops j K (a.put oi.dst v) w) : oneW P ops j (fun a' w' => St P ops C oi v a' ∧ K (a'.put oi.dst v) w') a w := by
  obtain ⟨h1, h2, h3⟩ := Oper.apart_spec hap
  unfold oneW at *
  rw [hj] at h ⊢
  have key : ∀ u, St P ops C oi v (a.put oj.dst u) := fun u => hy.same (execOp_put oi hsi a oj.dst u h3) (wanted_put oi a oj.dst u h3)
  have hE := execOp_put oj hsj a oi.dst v h1
  have hW := wanted_put oj a oi.dst v h1
  rcases h with ⟨g1, g2⟩ | ⟨g1, g2⟩
  · refine .inl ⟨hW.symm.trans g1, ?_⟩
    rw [hE] at g2
    refine uponW_mono (fun u w' hk => ⟨key u, ?_⟩) g2
    rw [← Act.put_comm a v u h2]
    exact hk
  · refine .inr ⟨hW.symm.trans g1, key _, ?_⟩
    rw [← Act.put_comm a v undef h2]
    exact g2
/-- the head, in any order -/
def headW (P : Program) (md : Region.Mode) (ops : Array Oper) (C : World → Prop) (n : Nat) (L : Array Bool → Act → World → Prop) : Nat → Array Bool → Act → World → Prop
  | 0, listed, a, w => L listed a w
  | f + 1, listed, a, w => Region.ready md ops listed ≠ [] ∧ ∀ i ∈ Region.ready md ops listed, i < n ∧ oneW P ops i (fun a' w' => C w' ∧ headW P md ops C n L f (listed.setIfInBounds i true) a' w') a w
theorem any_of_headW {n g : Nat} {L : Array Bool → Act → World → Prop} {Q' : Exit → Act → World → Prop} (hL : ∀ listed a w, L listed a w → wpAny P md ops Q' g listed a w) :
    ∀ (f : Nat) (listed : Array Bool) (a : Act) (w : World), headW P md ops C n L f listed a w → wpAny P md ops Q' (f + g) listed a w
  | 0, listed, a, w, h => by rw [Nat.zero_add]; exact hL _ _ _ h
  | f + 1, listed, a, w, h => by
    rw [show f + 1 + g = (f + g) + 1 by omega]
    exact ⟨fun h0 => absurd h0 h.1, fun i hi => wpOp_of_oneW (fun a' w' h' => any_of_headW hL f _ a' w' h'.2) (h.2 i hi).2⟩
theorem headW_first {n i : Nat} {oi : Oper} {v : Value} {L : Array Bool → Act → World → Prop} (hi : ops[i]? = some oi) (hsel : ∀ (j : Nat) (o : Oper) cs b, ops[j]? = some o → o.op ≠ .select cs b)
    (hs : Region.sinkB md ops n = true) (hc : Region.chainB md ops n = true) (hn : n < ops.size) (hin : i < n) (hdone : ∀ listed a w, L listed a w → ∀ j ∈ Region.ready md ops listed, n ≤ j) :
    ∀ (f : Nat) (listed : Array Bool) (a : Act) (w : World), C w → HeadInv md ops n listed →
      (∀ j oj, ops[j]? = some oj → j ≠ i → listed.getD j true = false → (∀ e ∈ oj.after, Region.binds md e = true → e.on ≠ i) → oi.apart ops oj = true) →
      i ∈ Region.ready md ops listed → St P ops C oi v a → headW P md ops C n L f (listed.setIfInBounds i true) (a.put oi.dst v) w → headW P md ops C n L (f + 1) listed a w := by
  intro f
  induction f with
  | zero =>
    intro listed a w hw inv _ hr hy H
    have hun := (mem_ready.1 hr).1
    refine ⟨fun h => (by rw [h] at hr; cases hr), fun j hj => ?_⟩
    have hjn : j < n := Nat.lt_of_not_le fun h => tail_waits hs hc hn inv _ i rfl hin hun j h hj
    refine ⟨hjn, ?_⟩
    by_cases hji : j = i
    · subst hji; exact hy.one hi hw ⟨hw, H⟩
    · have := hdone _ _ _ H j (ready_mono hj hji)
      omega
  | succ f ih =>
    intro listed a w hw inv hfree hr hy H
    have hun := (mem_ready.1 hr).1
    refine ⟨fun h => (by rw [h] at hr; cases hr), fun j hj => ?_⟩
    have hjn : j < n := Nat.lt_of_not_le fun h => tail_waits hs hc hn inv _ i rfl hin hun j h hj
    refine ⟨hjn, ?_⟩
    by_cases hji : j = i
    · subst hji; exact hy.one hi hw ⟨hw, H⟩
    · have h1 := (H.2 j (ready_mono hj hji)).2
      obtain ⟨hjun, oj, hoj, hall⟩ := mem_ready.1 hj
      have hnot : ∀ e ∈ oj.after, Region.binds md e = true → e.on ≠ i := fun e he hb heq => by
        have h1 := hall e he hb
        rw [heq, getD_both hun] at h1
        cases h1
      have h2 := oneW_put hoj (hfree j oj hoj hji hjun hnot) (fun cs b => hsel i oi cs b hi) (fun cs b => hsel j oj cs b hoj) hy h1
      have hfree' : ∀ k ok, ops[k]? = some ok → k ≠ i → (listed.setIfInBounds j true).getD k true = false →
          (∀ e ∈ ok.after, Region.binds md e = true → e.on ≠ i) → oi.apart ops ok = true := fun k ok hk hki hkun hno => by
        refine hfree k ok hk hki ?_ hno
        by_cases hjk : j = k
        · subst hjk; exact hjun
        · rw [getD_set_ne true hjk] at hkun; exact hkun
      refine oneW_mono (fun a' w' h3 => ⟨h3.2.1, ih (listed.setIfInBounds j true) a' w' h3.2.1 (inv.set hj hjn) hfree' (ready_mono hr (Ne.symm hji)) h3.1 ?_⟩) h2
      rw [Array.setIfInBounds_comm _ _ hji]
      exact h3.2.2
/-- the head, in the order of the text; k: the number of its first operation -/
def chainH (P : Program) (ops : Array Oper) (C : World → Prop) (h : Nat) (Q : Act → World → Prop) : Nat → List Oper → Act → World → Prop
  | _, [], a, w => Q a w
  | k, o :: rest, a, w => if k = h then oneO P ops o (fun a' w' => C w' ∧ chainH P ops C h Q (k + 1) rest a' w') a w else ∃ v, St P ops C o v a ∧ chainH P ops C h Q (k + 1) rest (a.put o.dst v) w
/-- when the heavy one comes up in the order of the text, it alone is ready -/
def loneAt (md : Region.Mode) (ops : Array Oper) (h : Nat) : Nat → Nat → Array Bool → Bool
  | 0, _, _ => true
  | f + 1, k, listed => (k != h || Region.ready md ops listed == [h]) && loneAt md ops h f (k + 1) (listed.setIfInBounds k true)
theorem headW_lex {n g h : Nat} {Lq : Act → World → Prop} (hsel : Region.noSelect ops = true) (hs : Region.sinkB md ops n = true) (hc : Region.chainB md ops n = true) (hn : n < ops.size) :
    ∀ (l : List Oper) (k : Nat) (listed : Array Bool) (a : Act) (w : World), C w → (∀ j, j < l.length → l[j]? = ops[k + j]?) → k + l.length = n → HeadInv md ops n listed →
    Region.lexHead md ops g l.length k listed = true → loneAt md ops h l.length k listed = true → chainH P ops C h Lq k l a w → headW P md ops C n (fun listed' a' w' => Region.seqB md ops g n listed' = true ∧ Lq a' w') l.length listed a w
  | [], k, listed, a, w, _, _, hk, _, hB, _, h => by
    have : k = n := by simpa using hk
    subst this
    exact ⟨by simpa [Region.lexHead] using hB, h⟩
  | o :: l, k, listed, a, w, hw, hl, hk, inv, hB, hA, hch => by
    have h0 : ops[k]? = some o := by simpa using (hl 0 (by simp)).symm
    simp only [List.length_cons, Region.lexHead, Bool.and_eq_true] at hB
    simp only [List.length_cons, loneAt, Bool.and_eq_true] at hA
    obtain ⟨⟨hr, hf⟩, hB'⟩ := hB
    obtain ⟨hA1, hA'⟩ := hA
    have hkn : k < n := by simp only [List.length_cons] at hk; omega
    have hr' : k ∈ Region.ready md ops listed := by simpa using hr
    have next : ∀ (a' : Act) (w' : World), C w' → chainH P ops C h Lq (k + 1) l a' w' → headW P md ops C n (fun listed' a' w' => Region.seqB md ops g n listed' = true ∧ Lq a' w') l.length (listed.setIfInBounds k true) a' w' := fun a' w' hw' hcc =>
      headW_lex hsel hs hc hn l (k + 1) (listed.setIfInBounds k true) a' w' hw' (fun j hj => by have := hl (j + 1) (by simp; omega); simpa [Nat.add_assoc, Nat.add_comm 1 j] using this) (by simp only [List.length_cons] at hk; omega) (inv.set hr' hkn) hB' hA' hcc
    unfold chainH at hch
    by_cases hkh : k = h
    · subst hkh
      rw [if_pos rfl] at hch
      have hready : Region.ready md ops listed = [k] := by simpa using hA1
      refine ⟨by rw [hready]; simp, fun i hi => ?_⟩
      rw [hready] at hi
      have : i = k := by simpa using hi
      subst this
      refine ⟨hkn, ?_⟩
      unfold oneW
      rw [h0]
      exact oneO_mono (fun a' w' ⟨h1, h2⟩ => ⟨h1, next a' w' h1 h2⟩) hch
    · rw [if_neg hkh] at hch
      obtain ⟨v, hy, hK⟩ := hch
      exact headW_first h0 (Region.noSelect_spec hsel) hs hc hn hkn (fun listed' a' w' hL => seqB_ready hL.1) l.length listed a w hw inv (Region.free_spec h0 hf) hr' hy (next _ _ hw hK)
/-- THE RULE: n operations of the head, number h of them the heavy one; the tail one behind the other -/
theorem region_heavy {id : Nat} {Q : Exit → Act → World → Prop} {a : Act} {w : World} {l : List Oper} (C : World → Prop) (n h : Nat) (hm : P.follows .mixedOrders = true) (hB : Region.lexTailB .any l.toArray n = true)
    (hA : loneAt .any l.toArray h n 0 (Array.replicate l.toArray.size false) = true)
    (hw : C { w with drawn := w.drawn + 1 }) (hch : chainH P l.toArray C h (fun a' w' => wpList P l.toArray Q (l.drop n) a' w') 0 (l.take n) a { w with drawn := w.drawn + 1 }) : (Code.region id l.toArray true).wp P Q a w := by
  simp only [Region.lexTailB, Bool.and_eq_true, decide_eq_true_eq] at hB
  obtain ⟨⟨⟨⟨hsel, hn⟩, hs⟩, hc⟩, hlex⟩ := hB
  have hn' : n < l.length := by simpa using hn
  have htl : (l.take n).length = n := by simp; omega
  have hdl : (l.drop n).length = l.toArray.size - n := by simp
  have inv0 : HeadInv .any l.toArray n (Array.replicate l.toArray.size false) :=
    ⟨by simp, fun j oj _ hl => (by rw [getD_replicate_false] at hl; cases hl), fun t _ ht => getD_in (by simpa using ht) (getD_replicate_false _ _)⟩
  have H := headW_lex (md := .any) (g := l.toArray.size - n) (h := h) hsel hs hc hn (l.take n) 0 _ a _ hw (fun j hj => by
    have hj' : j < n := by rw [htl] at hj; exact hj
    simp [hj']) (by simpa using htl) inv0 (by rw [htl]; exact hlex) (by rw [htl]; exact hA) hch
  refine wp_region_any hm ?_
  have := any_of_headW (Q' := Q) (g := l.toArray.size - n) (fun listed a' w' hL => by
    have := wpAny_of_seq (md := .any) (Q' := Q) (l.drop n) n listed a' w' (fun j => by simp [List.getElem?_drop]) (by rw [hdl]; exact hL.1) hL.2
    rwa [hdl] at this) _ _ _ _ H
  rw [htl, show n + (l.toArray.size - n) = l.toArray.size by omega] at this
  exact this
theorem still_step {h k : Nat} {Q : Act → World → Prop} {o : Oper} {rest : List Oper} {a : Act} {w : World} (v : Value) (hk : ¬ k = h) (hg : Region.wanted o (yielded ops a.tmps) = true) (hs : ∀ w, C w → uponW P (fun u w' => u = v ∧ w' = w) ((execOp a.eval o).run P w)) (hK : chainH P ops C h Q (k + 1) rest (a.put o.dst v) w) : chainH P ops C h Q k (o :: rest) a w := by
  unfold chainH; rw [if_neg hk]
  exact ⟨v, .inl ⟨hg, hs⟩, hK⟩
theorem heavy_step {h : Nat} {Q : Act → World → Prop} {o : Oper} {rest : List Oper} {a : Act} {w : World} (hg : Region.wanted o (yielded ops a.tmps) = true) (hK : uponW P (fun v w' => C w' ∧ chainH P ops C h Q (h + 1) rest (a.put o.dst v) w') ((execOp a.eval o).run P w)) : chainH P ops C h Q h (o :: rest) a w := by
  unfold chainH; rw [if_pos rfl]
  exact .inl ⟨hg, hK⟩
theorem chain_end {h k : Nat} {Q : Act → World → Prop} {a : Act} {w : World} (hQ : Q a w) : chainH P ops C h Q k [] a w := hQ
end
end Go.Heavy
end
section
namespace Go.Heavy
open Go
/-! A region that draws its order, walked by a plan: an operation that only reads (its value the same in all worlds of a class) is taken as soon as it is ready; where none is, one or two others are ready, and both orders are walked -/
inductive Plan where
  | done
  | light (i : Nat) (p : Plan)
  | one (i : Nat) (p : Plan)
  | two (i j : Nat) (p q : Plan)
def lights : List Nat → Plan → Plan
  | [], p => p
  | i :: is, p => .light i (lights is p)
def Plan.size : Plan → Nat
  | .done => 0
  | .light _ p => p.size + 1
  | .one _ p => p.size + 1
  | .two _ _ p _ => p.size + 1
def okPlan (md : Region.Mode) (ops : Array Oper) (g n : Nat) : Plan → Array Bool → Bool
  | .done, listed => Region.seqB md ops g n listed
  | .light i p, listed => (Region.ready md ops listed).contains i && Region.free md ops listed i && decide (i < n) && okPlan md ops g n p (listed.setIfInBounds i true)
  | .one i p, listed => Region.ready md ops listed == [i] && decide (i < n) && okPlan md ops g n p (listed.setIfInBounds i true)
  | .two i j p q, listed => Region.ready md ops listed == [i, j] && decide (i < n) && decide (j < n) && decide (p.size = q.size) && okPlan md ops g n p (listed.setIfInBounds i true) && okPlan md ops g n q (listed.setIfInBounds j true)
section
variable {P : Program} {ops : Array Oper} {md : Region.Mode} {C : World → Prop}
def runP (P : Program) (ops : Array Oper) (C : World → Prop) (Q : Act → World → Prop) : Plan → Act → World → Prop
  | .done, a, w => Q a w
  | .light i p, a, w => ∃ o v, ops[i]? = some o ∧ St P ops C o v a ∧ runP P ops C Q p (a.put o.dst v) w
  | .one i p, a, w => ∃ o, ops[i]? = some o ∧ oneO P ops o (fun a' w' => C w' ∧ runP P ops C Q p a' w') a w
  | .two i j p q, a, w => (∃ o, ops[i]? = some o ∧ oneO P ops o (fun a' w' => C w' ∧ runP P ops C Q p a' w') a w) ∧ ∃ o, ops[j]? = some o ∧ oneO P ops o (fun a' w' => C w' ∧ runP P ops C Q q a' w') a w
theorem headW_plan {n g : Nat} {Lq : Act → World → Prop} (hsel : Region.noSelect ops = true) (hs : Region.sinkB md ops n = true) (hc : Region.chainB md ops n = true) (hn : n < ops.size) :
    ∀ (p : Plan) (listed : Array Bool) (a : Act) (w : World), C w → HeadInv md ops n listed → okPlan md ops g n p listed = true → runP P ops C Lq p a w → headW P md ops C n (fun listed' a' w' => Region.seqB md ops g n listed' = true ∧ Lq a' w') p.size listed a w
  | .done, listed, a, w, _, _, hB, h => ⟨hB, h⟩
  | .light i p, listed, a, w, hw, inv, hB, h => by
    simp only [okPlan, Bool.and_eq_true, decide_eq_true_eq] at hB
    obtain ⟨⟨⟨hr, hf⟩, hin⟩, hB'⟩ := hB
    have hr' : i ∈ Region.ready md ops listed := by simpa using hr
    obtain ⟨o, v, h0, hy, hK⟩ := h
    exact headW_first h0 (Region.noSelect_spec hsel) hs hc hn hin (fun listed' a' w' hL => seqB_ready hL.1) p.size listed a w hw inv (Region.free_spec h0 hf) hr' hy
      (headW_plan hsel hs hc hn p _ _ _ hw (inv.set hr' hin) hB' hK)
  | .one i p, listed, a, w, hw, inv, hB, h => by
    simp only [okPlan, Bool.and_eq_true, decide_eq_true_eq] at hB
    obtain ⟨⟨hr, hin⟩, hB'⟩ := hB
    have hready : Region.ready md ops listed = [i] := by simpa using hr
    obtain ⟨o, h0, h1⟩ := h
    refine ⟨by rw [hready]; simp, fun k hk => ?_⟩
    have hk' : k ∈ Region.ready md ops listed := hk
    rw [hready] at hk
    have : k = i := by simpa using hk
    subst this
    refine ⟨hin, ?_⟩
    unfold oneW
    rw [h0]
    exact oneO_mono (fun a' w' ⟨h2, h3⟩ => ⟨h2, headW_plan hsel hs hc hn p _ a' w' h2 (inv.set hk' hin) hB' h3⟩) h1
  | .two i j p q, listed, a, w, hw, inv, hB, h => by
    simp only [okPlan, Bool.and_eq_true, decide_eq_true_eq] at hB
    obtain ⟨⟨⟨⟨⟨hr, hin⟩, hjn⟩, hpq⟩, hB1⟩, hB2⟩ := hB
    have hready : Region.ready md ops listed = [i, j] := by simpa using hr
    obtain ⟨⟨o, h0, h1⟩, o', h0', h1'⟩ := h
    refine ⟨by rw [hready]; simp, fun k hk => ?_⟩
    have hk' : k ∈ Region.ready md ops listed := hk
    rw [hready] at hk
    have : k = i ∨ k = j := by simpa using hk
    rcases this with rfl | rfl
    · refine ⟨hin, ?_⟩
      unfold oneW
      rw [h0]
      exact oneO_mono (fun a' w' ⟨h2, h3⟩ => ⟨h2, headW_plan hsel hs hc hn p _ a' w' h2 (inv.set hk' hin) hB1 h3⟩) h1
    · refine ⟨hjn, ?_⟩
      unfold oneW
      rw [h0']
      refine oneO_mono (fun a' w' ⟨h2, h3⟩ => ⟨h2, ?_⟩) h1'
      have := headW_plan hsel hs hc hn q _ a' w' h2 (inv.set hk' hjn) hB2 h3
      rw [hpq]
      exact this
/-- THE RULE -/
theorem region_plan {id : Nat} {Q : Exit → Act → World → Prop} {a : Act} {w : World} {l : List Oper} (C : World → Prop) (n : Nat) (p : Plan) (hm : P.follows .mixedOrders = true)
    (hB : (Region.noSelect l.toArray && decide (n < l.toArray.size) && Region.sinkB .any l.toArray n && Region.chainB .any l.toArray n && decide (p.size = n) && okPlan .any l.toArray (l.toArray.size - n) n p (Array.replicate l.toArray.size false)) = true)
    (hw : C { w with drawn := w.drawn + 1 }) (hrun : runP P l.toArray C (fun a' w' => wpList P l.toArray Q (l.drop n) a' w') p a { w with drawn := w.drawn + 1 }) : (Code.region id l.toArray true).wp P Q a w := by
  simp only [Bool.and_eq_true, decide_eq_true_eq] at hB
  obtain ⟨⟨⟨⟨⟨hsel, hn⟩, hs⟩, hc⟩, hsz⟩, hok⟩ := hB
  have hdl : (l.drop n).length = l.toArray.size - n := by simp
  have inv0 : HeadInv .any l.toArray n (Array.replicate l.toArray.size false) :=
    ⟨by simp, fun j oj _ hl => (by rw [getD_replicate_false] at hl; cases hl), fun t _ ht => getD_in (by simpa using ht) (getD_replicate_false _ _)⟩
  have H := headW_plan (md := .any) hsel hs hc hn p _ a _ hw inv0 hok hrun
  refine wp_region_any hm ?_
  have := any_of_headW (Q' := Q) (g := l.toArray.size - n) (fun listed a' w' hL => by
    have := wpAny_of_seq (md := .any) (Q' := Q) (l.drop n) n listed a' w' (fun j => by simp [List.getElem?_drop]) (by rw [hdl]; exact hL.1) hL.2
    rwa [hdl] at this) _ _ _ _ H
  rw [hsz, show n + (l.toArray.size - n) = l.toArray.size by omega] at this
  exact this
theorem light_step {i : Nat} {p : Plan} {Q : Act → World → Prop} {o : Oper} {a : Act} {w : World} (v : Value) (h0 : ops[i]? = some o) (hg : Region.wanted o (yielded ops a.tmps) = true) (hs : ∀ w, C w → uponW P (fun u w' => u = v ∧ w' = w) ((execOp a.eval o).run P w)) (hK : runP P ops C Q p (a.put o.dst v) w) : runP P ops C Q (.light i p) a w :=
  ⟨o, v, h0, .inl ⟨hg, hs⟩, hK⟩
theorem light_n {i : Nat} {p : Plan} {Q : Act → World → Prop} {o : Oper} {a : Act} {w : World} (v : Value) (h0 : ops[i]? = some o) (hg : o.guard = none) (hs : ∀ w, C w → uponW P (fun u w' => u = v ∧ w' = w) ((execOp a.eval o).run P w)) (hK : runP P ops C Q p (a.put o.dst v) w) : runP P ops C Q (.light i p) a w :=
  ⟨o, v, h0, .inl ⟨by unfold Region.wanted; rw [hg], hs⟩, hK⟩
theorem one_n {i : Nat} {p : Plan} {Q : Act → World → Prop} {o : Oper} {a : Act} {w : World} (h0 : ops[i]? = some o) (hg : o.guard = none) (hK : uponW P (fun v w' => C w' ∧ runP P ops C Q p (a.put o.dst v) w') ((execOp a.eval o).run P w)) : runP P ops C Q (.one i p) a w :=
  ⟨o, h0, .inl ⟨by unfold Region.wanted; rw [hg], hK⟩⟩
theorem two_n {i j : Nat} {p q : Plan} {Q : Act → World → Prop} {o o' : Oper} {a : Act} {w : World} (h0 : ops[i]? = some o) (hg : o.guard = none) (h0' : ops[j]? = some o') (hg' : o'.guard = none)
    (hK : uponW P (fun v w' => C w' ∧ runP P ops C Q p (a.put o.dst v) w') ((execOp a.eval o).run P w)) (hK' : uponW P (fun v w' => C w' ∧ runP P ops C Q q (a.put o'.dst v) w') ((execOp a.eval o').run P w)) : runP P ops C Q (.two i j p q) a w :=
  ⟨⟨o, h0, .inl ⟨by unfold Region.wanted; rw [hg], hK⟩⟩, o', h0', .inl ⟨by unfold Region.wanted; rw [hg'], hK'⟩⟩
theorem light_skip {i : Nat} {p : Plan} {Q : Act → World → Prop} {o : Oper} {a : Act} {w : World} (h0 : ops[i]? = some o) (hg : Region.wanted o (yielded ops a.tmps) = false) (hK : runP P ops C Q p (a.put o.dst undef) w) : runP P ops C Q (.light i p) a w :=
  ⟨o, undef, h0, .inr ⟨hg, rfl⟩, hK⟩
theorem one_step {i : Nat} {p : Plan} {Q : Act → World → Prop} {o : Oper} {a : Act} {w : World} (h0 : ops[i]? = some o) (hg : Region.wanted o (yielded ops a.tmps) = true) (hK : uponW P (fun v w' => C w' ∧ runP P ops C Q p (a.put o.dst v) w') ((execOp a.eval o).run P w)) : runP P ops C Q (.one i p) a w :=
  ⟨o, h0, .inl ⟨hg, hK⟩⟩
theorem two_step {i j : Nat} {p q : Plan} {Q : Act → World → Prop} {o o' : Oper} {a : Act} {w : World} (h0 : ops[i]? = some o) (hg : Region.wanted o (yielded ops a.tmps) = true) (h0' : ops[j]? = some o') (hg' : Region.wanted o' (yielded ops a.tmps) = true)
    (hK : uponW P (fun v w' => C w' ∧ runP P ops C Q p (a.put o.dst v) w') ((execOp a.eval o).run P w)) (hK' : uponW P (fun v w' => C w' ∧ runP P ops C Q q (a.put o'.dst v) w') ((execOp a.eval o').run P w)) : runP P ops C Q (.two i j p q) a w :=
  ⟨⟨o, h0, .inl ⟨hg, hK⟩⟩, o', h0', .inl ⟨hg', hK'⟩⟩
theorem plan_end {Q : Act → World → Prop} {a : Act} {w : World} (hQ : Q a w) : runP P ops C Q .done a w := hQ
end
end Go.Heavy
end
