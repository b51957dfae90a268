/-
  A part of the proof of the card of WorkComposeIsAssociative (second form): lemmas that the text Card uses. No condition of its own.
-/
import Derived.Test.YtcbgbiddkkfjmaaGreatDoorEv09
import Derived.Recover
import Derived.Maps.RangeRun
set_option linter.all false
set_option linter.unusedVariables false
set_option linter.unusedSimpArgs false
section
namespace Go.Ev
open Go
variable {P : Program} {m : Mp} {w : World}

/-- what a run of code comes to -/
def CQ (m : Mp) (h : H) (w : World) (n : Nat) (Q : Exit → Act → World → Prop) : CR → Prop
  | .bad => False
  | .nrm e' h' => ∀ m' a' w', Fr m h w m' h' w' → EnvR m' n e' a' → Q .normal a' w'
  | .ext i e' h' => ∀ m' a' w', Fr m h w m' h' w' → EnvR m' n e' a' → Q (.exit i) a' w'
  | .ret e' h' => ∀ m' a' w', Fr m h w m' h' w' → EnvR m' n e' a' → Q .ret a' w'
theorem CQ.of_fr {m' : Mp} {h h' : H} {w' : World} {n : Nat} {Q : Exit → Act → World → Prop} (hF : Fr m h w m' h' w') : ∀ {r : CR}, CQ m h w n Q r → CQ m' h' w' n Q r
  | .bad, k => k
  | .nrm _ _, k => fun m2 a2 w2 h2 => k m2 a2 w2 (hF.trans h2)
  | .ext _ _ _, k => fun m2 a2 w2 h2 => k m2 a2 w2 (hF.trans h2)
  | .ret _ _, k => fun m2 a2 w2 h2 => k m2 a2 w2 (hF.trans h2)
theorem codeE_sound {n lf : Nat} {call : CallT} (hcall : CallOK P call) (hmix : P.follows .mixedOrders = true) : ∀ (c : Code), codeOk P n c = true →
    ∀ (m : Mp) (e : Env) (a : Act) (h : H) (w : World) (Q : Exit → Act → World → Prop), EnvR m n e a → Gl P m → HR m h w → CQ m h w n Q ((codeE P lf c).run call e h) → c.wp P Q a w := by
  intro c
  induction c with
  | skip => intro hc m e a h w Q k hg hr hq; exact wp_skip (hq m a w (Fr.refl hr) k)
  | label l => intro hc m e a h w Q k hg hr hq; exact wp_label (hq m a w (Fr.refl hr) k)
  | ret => intro hc m e a h w Q k hg hr hq; exact wp_ret (hq m a w (Fr.refl hr) k)
  | exit id => intro hc m e a h w Q k hg hr hq; exact wp_exit (hq m a w (Fr.refl hr) k)
  | seq x y ihx ihy =>
    intro hc m e a h w Q k hg hr hq
    simp only [codeOk, Bool.and_eq_true] at hc
    refine wp_seq (ihx hc.1 m e a h w _ k hg hr ?_)
    simp only [codeE] at hq
    cases hx : (codeE P lf x).run call e h with
    | bad => rw [hx] at hq; exact hq.elim
    | nrm e1 h1 =>
      rw [hx] at hq
      intro m' a' w' hF hE
      exact ihy hc.2 m' e1 a' h1 w' Q hE (hg.mono hF.le) hF.hr (hq.of_fr hF)
    | ext i e1 h1 => rw [hx] at hq; exact hq
    | ret e1 h1 => rw [hx] at hq; exact hq
  | cond c x y ihx ihy =>
    intro hc m e a h w Q k hg hr hq
    simp only [codeOk, Bool.and_eq_true] at hc
    simp only [codeE] at hq
    have hC := opnd_sound k hg hc.1
    generalize hres : as_b_C ((opnd c).run e) (fun t => iteC t ((codeE P lf x).run call e h) ((codeE P lf y).run call e h)) .bad = r at hq
    rcases as_b_C_of hres with ⟨b, hb, hv⟩ | ⟨hb, hv⟩
    · rw [hb] at hC
      simp only [R] at hC
      refine wp_cond hC ?_
      rcases iteC_of hv with ⟨hb1, hv2⟩ | ⟨hb1, hv2⟩
      · rw [hb1]; exact ihx hc.2.1 m e a h w Q k hg hr (by rw [hv2]; exact hq)
      · rw [hb1]; exact ihy hc.2.2 m e a h w Q k hg hr (by rw [hv2]; exact hq)
    · rw [← hv] at hq; exact hq.elim
  | block id x ih =>
    intro hc m e a h w Q k hg hr hq
    simp only [codeOk] at hc
    simp only [codeE] at hq
    refine wp_block (ih hc m e a h w _ k hg hr ?_)
    cases hx : (codeE P lf x).run call e h with
    | bad => rw [hx] at hq; exact hq.elim
    | nrm e1 h1 => rw [hx] at hq; exact hq
    | ret e1 h1 => rw [hx] at hq; exact hq
    | ext j e1 h1 =>
      rw [hx] at hq
      simp only at hq
      intro m' a' w' hF hE
      show (if j = id then Q .normal a' w' else Q (.exit j) a' w')
      generalize hres : iteC (Nat.beq j id) (.nrm e1 h1) (.ext j e1 h1) = r at hq
      rcases iteC_of hres with ⟨hj, hv⟩ | ⟨hj, hv⟩
      · rw [if_pos (Nat.eq_of_beq_eq_true hj)]
        rw [← hv] at hq; exact hq m' a' w' hF hE
      · rw [if_neg (Nat.ne_of_beq_eq_false hj)]
        rw [← hv] at hq; exact hq m' a' w' hF hE
  | loop x ih =>
    intro hc m e a h w Q k hg hr hq
    simp only [codeOk] at hc
    simp only [codeE] at hq
    refine wp_loop_rounds lf ?_
    have key : ∀ (N : Nat) (m : Mp) (e : Env) (a : Act) (h : H) (w : World), EnvR m n e a → Gl P m → HR m h w → CQ m h w n Q (loopN ((codeE P lf x).run call) N e h) → Code.rounds P x Q N a w := by
      intro N
      induction N with
      | zero => intro m e a h w k hg hr hq; exact hq.elim
      | succ N ihN =>
        intro m e a h w k hg hr hq
        rw [rounds_succ]
        refine ih hc m e a h w _ k hg hr ?_
        have hl : loopN ((codeE P lf x).run call) (N + 1) e h = CR.rec (motive := fun _ => CR) .bad (fun e h => loopN ((codeE P lf x).run call) N e h) (fun i e h => .ext i e h) (fun e h => .ret e h) ((codeE P lf x).run call e h) := rfl
        rw [hl] at hq
        cases hx : (codeE P lf x).run call e h with
        | bad => rw [hx] at hq; exact hq.elim
        | nrm e1 h1 =>
          rw [hx] at hq
          intro m' a' w' hF hE
          exact ihN m' e1 a' h1 w' hE (hg.mono hF.le) hF.hr (hq.of_fr hF)
        | ext i e1 h1 => rw [hx] at hq; exact hq
        | ret e1 h1 => rw [hx] at hq; exact hq
    exact key lf m e a h w k hg hr hq
  | region id ops d =>
    intro hc m e a h w Q k hg hr hq
    simp only [codeOk] at hc
    cases d with
    | false =>
      simp only [codeE] at hq
      cases hx : (seqC P ops.toList ops.toList).run call e h with
      | bad => rw [hx] at hq; exact hq.elim
      | ok e1 h1 => rw [hx] at hq; exact region_sound hcall hc k hg hr hx hq
    | true =>
      simp only [codeE] at hq
      cases hx : (regE P ops.toList).run call e h with
      | bad => rw [hx] at hq; exact hq.elim
      | ok e1 h1 => rw [hx] at hq; exact regE_sound hmix hcall hc k hg hr hx hq
  | _ => intro hc m e a h w Q k hg hr hq; simp only [codeE] at hq; exact hq.elim
end Go.Ev
end
section
namespace Go.Ev
open Go
variable {P : Program} {m : Mp} {w : World}

theorem eget_new (t : Nat) : eget t Env.new = undefV := by
  unfold eget Env.new N8.all
  cases dg (t / 64) <;> cases dg (t / 8 % 8) <;> cases dg (t % 8) <;> rfl
theorem eget_putArgs : ∀ (l : List V) (i : Nat) (e : Env) (t : Nat), i + l.length ≤ 511 → t < 512 → eget t (putArgs i l e) = if i ≤ t ∧ t < i + l.length then (l[t - i]?).getD .top else eget t e
  | [], i, e, t, _, _ => by
    have : ¬ (i ≤ t ∧ t < i + 0) := by omega
    simp [putArgs]; omega
  | v :: l, i, e, t, hl, ht => by
    simp only [List.length_cons] at hl
    rw [putArgs, eget_putArgs l (i + 1) _ t (by omega) ht]
    by_cases h1 : i + 1 ≤ t ∧ t < i + 1 + l.length
    · rw [if_pos h1, if_pos (by simp; omega)]
      have : t - i = (t - (i + 1)) + 1 := by omega
      rw [this]; simp
    · rw [if_neg h1]
      by_cases h2 : t = i
      · subst h2
        rw [eget_eset, if_pos (by simp)]; simp
      · rw [eget_eset_ne ht (by omega) h2, if_neg (by simp; omega)]
theorem args_env {n : Nat} {args : List V} {us : List Value} (hR : Rl m args us) (hl : args.length ≤ n) (hn : n ≤ 511) :
    EnvR m n (putArgs 0 args Env.new) { tmps := (⟨us⟩ : Array Value) ++ Array.replicate (n - us.length) undef, defers := [] } := by
  have hlen := hR.length
  refine ⟨by simp; omega, hn, ?_, ?_⟩
  · intro t ht
    rw [eget_putArgs args 0 _ t (by omega) (by omega)]
    by_cases h1 : t < args.length
    · rw [if_pos (by omega)]
      obtain ⟨v, hv⟩ : ∃ v, args[t]? = some v := ⟨args[t], by simp [h1]⟩
      obtain ⟨u, hu, hRu⟩ := hR.get hv
      have : ((⟨us⟩ : Array Value) ++ Array.replicate (n - us.length) undef).getD t undef = u := by
        rw [Array.getD_eq_getD_getElem?, Array.getElem?_append_left (by show t < us.length; omega)]
        have h9 : (⟨us⟩ : Array Value)[t]? = some u := by simpa using hu
        rw [h9]; rfl
      simp only [Nat.sub_zero, hv, Option.getD_some]
      show R m v (((⟨us⟩ : Array Value) ++ Array.replicate (n - us.length) undef).getD t undef)
      rw [this]; exact hRu
    · rw [if_neg (by omega), eget_new]
      have : ((⟨us⟩ : Array Value) ++ Array.replicate (n - us.length) undef).getD t undef = undef := by
        rw [Array.getD_eq_getD_getElem?, Array.getElem?_append_right (by show us.length ≤ t; omega)]
        have : t - us.length < n - us.length := by omega
        show ((Array.replicate (n - us.length) undef)[t - us.length]?).getD undef = undef
        simp [this]
      show R m undefV (((⟨us⟩ : Array Value) ++ Array.replicate (n - us.length) undef).getD t undef)
      rw [this]; simp [R, Rl, undefV, undef]
  · refine ⟨[], ?_, rfl⟩
    rw [eget_putArgs args 0 _ defSlot (by omega) (by decide), if_neg (by simp [defSlot]; omega), eget_new]; rfl
theorem resC_sound {n : Nat} {e : Env} {a : Act} (k : EnvR m n e a) {h : H} (hr : HR m h w) {r : ResultVar} (hok : resOk n r = true) {v : V} (hv : (resC P r).run e h = some v) :
    ∃ u, ((match r with | .tmp t => pure (a.tmps.getD t undef) | .cell x t => do loadVar t (← asAddr (a.tmps.getD x undef)) : Sem Value)).run P w = .ok u w ∧ R m v u := by
  cases r with
  | tmp t =>
    simp only [resC] at hv
    cases hv
    exact ⟨a.tmps.getD t undef, by simp, k.val t (Nat.le_of_ble_eq_true hok)⟩
  | cell x t =>
    have hx := k.val x (Nat.le_of_ble_eq_true hok)
    simp only [resC] at hv
    have hd : ∃ d, P.underlying t = some d := by
      cases hu : P.underlying t with
      | some d => exact ⟨d, rfl⟩
      | none => simp [sizeT, isAggT, hu] at hv
    obtain ⟨d, hd⟩ := hd
    have key : ∀ nn, sizeT P t = some nn → as_p_O (eget x e) (fun b o => iteO (isAggT P t) (aggO (rd h b o nn)) (rd1 h b o)) none = some v →
        ∃ u, (do loadVar t (← asAddr (a.tmps.getD x undef)) : Sem Value).run P w = .ok u w ∧ R m v u := by
      intro nn hs hv
      obtain ⟨u', h1, h2⟩ := load_sound hr hd hs hx hv
      refine ⟨u', ?_, h2⟩
      obtain ⟨b, o, e1, _⟩ := as_p_O_some hv
      rw [e1] at hx
      obtain ⟨l, hl, hu⟩ := R_p hx
      rw [hu] at h1 ⊢
      simpa [Instr.loadAt, Instr.sureAddr, asAddr] using h1
    cases ha : isAggT P t with
    | true =>
      cases hs : sizeT P t with
      | none => rw [ha, hs] at hv; cases hv
      | some nn =>
        rw [ha, hs] at hv
        exact key nn hs (by rw [ha]; exact hv)
    | false =>
      cases hs : sizeT P t with
      | none => rw [ha, hs] at hv; cases hv
      | some nn =>
        rw [ha, hs] at hv
        exact key nn hs (by rw [ha]; exact hv)
theorem resCs_sound {n : Nat} {e : Env} {a : Act} (k : EnvR m n e a) {h : H} (hr : HR m h w) : ∀ (rs : List ResultVar), rs.all (resOk n) = true → ∀ vs, (resCs P rs).run e h = some vs →
    ∃ us, (rs.mapM (fun r => (match r with | .tmp t => pure (a.tmps.getD t undef) | .cell x t => do loadVar t (← asAddr (a.tmps.getD x undef)) : Sem Value))).run P w = .ok us w ∧ Rl m vs us
  | [], _, vs, hv => by
    simp only [resCs] at hv
    cases hv
    exact ⟨[], by simp, by simp [Rl]⟩
  | r :: rs, hok, vs, hv => by
    simp only [List.all_cons, Bool.and_eq_true] at hok
    simp only [resCs] at hv
    cases h1 : (resC P r).run e h with
    | none => rw [h1] at hv; cases hv
    | some v =>
      cases h2 : (resCs P rs).run e h with
      | none => rw [h1, h2] at hv; cases hv
      | some vs' =>
        rw [h1, h2] at hv
        cases hv
        obtain ⟨u, a1, a2⟩ := resC_sound k hr hok.1 h1
        obtain ⟨us, b1, b2⟩ := resCs_sound k hr rs hok.2 vs' h2
        refine ⟨u :: us, ?_, by simp only [Rl]; exact ⟨u, us, rfl, a2, b2⟩⟩
        rw [List.mapM_cons, Sem.run_bind, a1, Result.andThen_ok, Sem.run_bind, b1, Result.andThen_ok, Sem.run_pure]
theorem retC_sound {n : Nat} {e : Env} {a : Act} (k : EnvR m n e a) {h : H} (hr : HR m h w) {fn : Func} (hok : fn.results.toList.all (resOk n) = true) {v : V} (hv : (retC P fn.results.toList).run e h = some v) :
    ∃ u, (results fn a.tmps).run P w = .ok u w ∧ R m v u := by
  have hm : ∃ vs, (resCs P fn.results.toList).run e h = some vs ∧ ((vs = [v] ∧ fn.results.toList.length = 1) ∨ (v = .tup vs ∧ fn.results.toList.length ≠ 1)) := by
    generalize fn.results.toList = rs at hv
    match rs, hv with
    | [r], hv =>
      refine ⟨[v], ?_, .inl ⟨rfl, rfl⟩⟩
      simp only [retC] at hv
      simp only [resCs]
      rw [hv]
    | [], hv =>
      simp only [retC, resCs] at hv
      cases hv
      exact ⟨[], rfl, .inr ⟨rfl, by simp⟩⟩
    | r1 :: r2 :: l, hv =>
      simp only [retC] at hv
      cases h1 : (resCs P (r1 :: r2 :: l)).run e h with
      | none => rw [h1] at hv; cases hv
      | some vs =>
        rw [h1] at hv
        cases hv
        exact ⟨vs, rfl, .inr ⟨rfl, by simp⟩⟩
  obtain ⟨vs, h1, h2⟩ := hm
  obtain ⟨us, b1, b2⟩ := resCs_sound k hr _ hok vs h1
  have hlen : us.length = fn.results.toList.length := by
    have hv : ∀ (rs : List ResultVar) vs, (resCs P rs).run e h = some vs → vs.length = rs.length := by
      intro rs
      induction rs with
      | nil => intro vs hv; simp only [resCs] at hv; cases hv; rfl
      | cons r rs ih =>
        intro vs hv
        simp only [resCs] at hv
        cases h1 : (resC P r).run e h with
        | none => rw [h1] at hv; cases hv
        | some v =>
          cases h2 : (resCs P rs).run e h with
          | none => rw [h1, h2] at hv; cases hv
          | some vs' => rw [h1, h2] at hv; cases hv; simp [ih vs' h2]
    rw [b2.length, hv _ _ h1]
  have hrun : ((fn.results.mapM (fun r => (match r with | .tmp t => pure (a.tmps.getD t undef) | .cell x t => do loadVar t (← asAddr (a.tmps.getD x undef)) : Sem Value)))).run P w = .ok ⟨us⟩ w := by
    have he : fn.results = fn.results.toList.toArray := by simp
    rw [he, List.mapM_toArray, map_eq_pure_bind, Sem.run_bind, b1, Result.andThen_ok, Sem.run_pure]
  have hres : (results fn a.tmps).run P w = .ok (if h : (⟨us⟩ : Array Value).size = 1 then (⟨us⟩ : Array Value)[0] else .tuple ⟨us⟩) w := by
    unfold results
    rw [Sem.run_bind]
    show (Result.andThen ((fn.results.mapM (fun r => (match r with | .tmp t => pure (a.tmps.getD t undef) | .cell x t => do loadVar t (← asAddr (a.tmps.getD x undef)) : Sem Value))).run P w) _) = _
    rw [hrun, Result.andThen_ok, Sem.run_pure]
  refine ⟨_, hres, ?_⟩
  rcases h2 with ⟨rfl, h3⟩ | ⟨rfl, h3⟩
  · simp only [Rl] at b2
    obtain ⟨u, us', rfl, hR, rfl⟩ := b2
    exact hR
  · have : ¬ (⟨us⟩ : Array Value).size = 1 := by show ¬ us.length = 1; rw [hlen]; exact h3
    rw [dif_neg this]
    simp only [R]; exact ⟨us, rfl, b2⟩
end Go.Ev
end
section
namespace Go.Ev
open Go
variable {P : Program} {m : Mp} {w : World}

theorem wpOpS_of {ops : Array Oper} {Q : Exit → Act → List Frame → World → Prop} {cs : List Frame} {i : Nat} {rest : List Nat} {a : Act} (hQo : ∀ a w, ¬ Q .outgrown a cs w)
    (h : wpOp P ops (fun e a w => Q e a cs w) i (fun a' w' => wpOpsS P ops Q rest a' cs w') a w) : wpOpsS P ops Q (i :: rest) a cs w := by
  unfold wpOp at h
  simp only [wpOpsS]
  cases ho : ops[i]? with
  | none => rw [ho] at h; exact h
  | some o =>
    rw [ho] at h
    simp only at h ⊢
    split at h
    · rename_i hw
      rw [if_pos hw]
      rcases h with h | ⟨_, a0, w0, hl⟩
      · unfold Oper.wp at h
        generalize (execOp a.eval o).run P w = r at h ⊢
        cases r with
        | ok n w' => cases n <;> first | exact h | (simp [Oper.upon] at h)
        | halt x w' => exact h
      · exact absurd hl (hQo a0 w0)
    · rename_i hw
      rw [if_neg hw]; exact h
theorem seqS_sound {n : Nat} {call : CallT} (hcall : CallOK P call) {ops : Array Oper} (hreg : regOk P n ops = true) {Q : Exit → Act → List Frame → World → Prop} {cs : List Frame} (hQo : ∀ a w, ¬ Q .outgrown a cs w) :
    ∀ (l : List Oper) (i : Nat) (m : Mp) (e e' : Env) (a : Act) (h h' : H) (w : World), ops.toList.drop i = l → EnvR m n e a → Gl P m → HR m h w → (seqC P ops.toList l).run call e h = .ok e' h' →
      (∀ m' a' w', Fr m h w m' h' w' → EnvR m' n e' a' → Q .normal a' cs w') → wpOpsS P ops Q (List.range' i l.length) a cs w
  | [], i, m, e, e', a, h, h', w, hl, k, hg, hr, hv, hn => by
    simp only [seqC] at hv
    cases hv
    exact hn m a w (Fr.refl hr) k
  | o :: l, i, m, e, e', a, h, h', w, hl, k, hg, hr, hv, hn => by
    have hi : ops[i]? = some o := by
      have : (ops.toList.drop i)[0]? = some o := by rw [hl]; rfl
      rw [List.getElem?_drop] at this
      simpa using this
    have hl' : ops.toList.drop (i + 1) = l := by
      have : (ops.toList.drop i).drop 1 = l := by rw [hl]; rfl
      rw [List.drop_drop] at this; exact this
    simp only [List.length_cons, List.range'_succ]
    refine wpOpS_of hQo ?_
    simp only [seqC] at hv
    cases h1 : (operC P ops.toList o).run call e h with
    | bad => rw [h1] at hv; cases hv
    | ok e1 h1' =>
      rw [h1] at hv
      refine operC_sound hcall k hg hr hreg hi h1 ?_
      intro m1 a1 w1 hF1 hE1
      exact seqS_sound hcall hreg hQo l (i + 1) m1 e1 e' a1 h1' h' w1 hl' hE1 (hg.mono hF1.le) hF1.hr hv (fun m2 a2 w2 hF2 hE2 => hn m2 a2 w2 (hF1.trans hF2) hE2)
theorem isRecover_spec {o : Oper} {d : Nat} (h : isRecover o = some d) : o.dst = some d ∧ o.guard = none ∧ ∀ a : Act, ∀ w, (execOp a.eval o).run P w = .ok .recover w := by
  unfold isRecover at h
  split at h
  · rename_i ts d' h1 h2 h3
    cases h
    refine ⟨h2, h3, fun a w => ?_⟩
    simp [execOp, h1, resolve, invoke, builtin]
  · cases h
theorem defC_sound {n lf : Nat} {call : CallT} (hcall : CallOK P call) (hmix : P.follows .mixedOrders = true) {c₀ : Frame} {cs0 : List Frame} (hmode : c₀.mode = .returning) : ∀ (c : Code), codeOk P n c = true →
    ∀ (m : Mp) (e : Env) (a : Act) (h : H) (w : World) (Q : Exit → Act → List Frame → World → Prop), (∀ a w, ¬ Q .outgrown a (c₀ :: cs0) w) → EnvR m n e a → Gl P m → HR m h w →
      CQ m h w n (fun e a w => Q e a (c₀ :: cs0) w) ((defC P lf c).run call e h) → c.wpS P Q a (c₀ :: cs0) w := by
  intro c
  induction c with
  | seq x y ihx ihy =>
    intro hc m e a h w Q hQo k hg hr hq
    simp only [codeOk, Bool.and_eq_true] at hc
    refine wpS_seq (ihx hc.1 m e a h w _ (fun a w => hQo a w) k hg hr ?_)
    simp only [defC] at hq
    cases hx : (defC P lf x).run call e h with
    | bad => rw [hx] at hq; exact hq.elim
    | nrm e1 h1 =>
      rw [hx] at hq
      intro m' a' w' hF hE
      exact wpS_of_wp (codeE_sound hcall hmix y hc.2 m' e1 a' h1 w' _ hE (hg.mono hF.le) hF.hr (hq.of_fr hF))
    | ext i e1 h1 => rw [hx] at hq; exact hq
    | ret e1 h1 => rw [hx] at hq; exact hq
  | region id ops d =>
    intro hc m e a h w Q hQo k hg hr hq
    have other : CQ m h w n (fun e a w => Q e a (c₀ :: cs0) w) ((codeE P lf (.region id ops d)).run call e h) → (Code.region id ops d).wpS P Q a (c₀ :: cs0) w :=
      fun hq => wpS_of_wp (codeE_sound hcall hmix _ hc m e a h w _ k hg hr hq)
    cases d with
    | true => exact other (by simpa only [defC] using hq)
    | false =>
      obtain ⟨l⟩ := ops
      cases l with
      | nil => exact other (by simpa only [defC] using hq)
      | cons o l =>
        simp only [defC] at hq
        cases hrec : isRecover o with
        | none => rw [hrec] at hq; exact other hq
        | some d =>
          rw [hrec] at hq
          simp only at hq
          obtain ⟨r1, r2, r3⟩ := isRecover_spec (P := P) hrec
          simp only [codeOk] at hc
          cases hx : (seqC P (o :: l) l).run call (eset d .ni e) h with
          | bad => rw [hx] at hq; exact hq.elim
          | ok e1 h1 =>
            rw [hx] at hq
            refine wpS_region ?_
            have hrg : List.range (⟨o :: l⟩ : Array Oper).size = 0 :: List.range' 1 l.length := by
              show List.range (l.length + 1) = _
              rw [List.range_eq_range', List.range'_succ]
            rw [hrg]
            have h0 : (⟨o :: l⟩ : Array Oper)[0]? = some o := by simp
            have hd := dst_lt (regOk_get hc h0).2 r1
            simp only [wpOpsS, h0]
            rw [if_pos (by simp [Region.wanted, r2]), r3 a w]
            simp only [recoverD, hmode, r1]
            refine seqS_sound hcall hc hQo l 1 m _ e1 _ h h1 w (by simp) (k.set hd (show R m .ni .nilIface by simp [R])) hg hr hx hq
  | _ => intro hc m e a h w Q hQo k hg hr hq; exact wpS_of_wp (codeE_sound hcall hmix _ hc m e a h w _ k hg hr (by simpa only [defC] using hq))
theorem progOk_get (hp : progOk P = true) {f : FuncId} {fn : Func} {c : Code} (hf : P.funcs[f]? = some fn) (hb : fn.body = some c) :
    fn.ntmps ≤ 511 ∧ codeOk P fn.ntmps c = true ∧ fn.results.toList.all (resOk fn.ntmps) = true ∧ (fn.name == "runtime.NumGoroutine") = false := by
  have hm : fn ∈ P.funcs.toList := by
    rw [← Array.getElem?_toList] at hf; exact List.mem_of_getElem? hf
  have := (List.all_eq_true.1 hp) fn hm
  simp only [funcOk, hb, Bool.and_eq_true, Bool.not_eq_true'] at this
  exact ⟨Nat.le_of_ble_eq_true this.1, this.2.1, this.2.2.1, this.2.2.2⟩
theorem callFunc_run (hp : progOk P = true) {f : FuncId} {fn : Func} {c : Code} (hf : P.funcs[f]? = some fn) (hb : fn.body = some c) (args : Array Value) (w : World) : (callFunc f args).run P w = .ok (.enter f args) w := by
  obtain ⟨_, _, _, h4⟩ := progOk_get hp hf hb
  have h5 : fn.name ≠ "runtime.NumGoroutine" := by simpa using h4
  simp [callFunc, hf, h5, hb]
theorem leaves_sound {lf : Nat} {call : CallT} (hp : progOk P = true) (hcall : CallOK P call) (hmix : P.follows .mixedOrders = true) {fn : Func} {tmps : Array Value} {Rr : Ending → World → Prop} {h2 : H} :
    ∀ (l : List V) (ds : List Deferred) (m : Mp) (h : H) (w : World), DfrR m l ds → HR m h w → Gl P m → runDefE P lf call l h = some h2 →
      (∀ m' w', Fr m h w m' h2 w' → ∃ v, (results fn tmps).run P w' = .ok v w' ∧ Rr (.returned v) w') → (∀ w, ¬ Rr .outgrown w) → Leaves P fn tmps Rr ds .returning w
  | [], ds, m, h, w, hd, hr, hg, hv, hfin, hRo => by
    simp only [DfrR] at hd
    subst hd
    simp only [runDefE] at hv
    cases hv
    exact hfin m w (Fr.refl hr)
  | .fn (.func f) first cap :: l, ds, m, h, w, hd, hr, hg, hv, hfin, hRo => by
    simp only [DfrR] at hd
    obtain ⟨a', c', r, rfl, hA, hC, hD⟩ := hd
    simp only [runDefE] at hv
    cases hx : (defF P lf f).run call (first ++ cap) h with
    | bad => rw [hx] at hv; cases hv
    | ok v h1 =>
      rw [hx] at hv
      simp only at hv
      unfold defF at hx
      cases hf : P.funcs[f]? with
      | none => rw [hf] at hx; cases hx
      | some fd =>
        rw [hf] at hx
        simp only at hx
        cases hb : fd.body with
        | none => rw [hb] at hx; cases hx
        | some c =>
          rw [hb] at hx
          simp only at hx
          obtain ⟨hle, hx⟩ := iteH_ok hx
          obtain ⟨p1, p2, p3, p4⟩ := progOk_get hp hf hb
          have hlen : (first ++ cap).length ≤ fd.ntmps := by rw [lenV1_eq] at hle; exact Nat.le_of_ble_eq_true hle
          refine leaves_cons (by simp) (f := f) (args := ⟨a' ++ c'⟩) (by simp only [invoke]; rw [callFunc_run hp hf hb]; simp) ?_
          refine callsD_of_wpS hf hb ?_
          intro c₀ cs hmode
          have hE := args_env (hA.append hC) hlen p1
          have hfr : ({ c₀ with mode := .returning } : Frame) = c₀ := by rw [← hmode]
          refine defC_sound (lf := lf) hcall hmix hmode c p2 m _ _ h w _ ?_ hE hg hr ?_
          · rintro a w ⟨u', hu⟩
            exact hRo w hu
          · have key : ∀ e1 h1', leave0 P fd.results.toList e1 h1' = .ok v h1 → ∀ m' a' w', Fr m h w m' h1' w' → EnvR m' fd.ntmps e1 a' →
                a'.defers = [] ∧ ∃ u', (c₀ :: cs) = { c₀ with mode := u' } :: cs ∧ ∃ v, (results fd a'.tmps).run P w' = .ok v w' ∧ Leaves P fn tmps Rr r (settle u') w' := by
              intro e1 h1' hl m' a' w' hF hE'
              unfold leave0 at hl
              split at hl
              · rename_i hdef
                obtain ⟨L, hL, hDf⟩ := hE'.dfr
                rw [hdef] at hL
                cases hL
                simp only [DfrR] at hDf
                unfold vhO at hl
                split at hl
                · rename_i v' hv'
                  cases hl
                  obtain ⟨u, hu, _⟩ := retC_sound hE' hF.hr p3 hv'
                  refine ⟨hDf, .returning, by rw [hfr], u, hu, ?_⟩
                  exact leaves_sound hp hcall hmix l r m' _ w' (hD.mono hF.le) hF.hr (hg.mono hF.le) hv (fun m2 w2 hF2 => hfin m2 w2 (hF.trans hF2)) hRo
                · cases hl
              · cases hl
            cases hc : (defC P lf c).run call (putArgs 0 (first ++ cap) Env.new) h with
            | bad => rw [hc] at hx; cases hx
            | nrm e1 h1' => rw [hc] at hx; exact key e1 h1' hx
            | ext i e1 h1' => rw [hc] at hx; cases hx
            | ret e1 h1' => rw [hc] at hx; exact key e1 h1' hx
  | .fn (.method _) _ _ :: _, ds, m, h, w, hd, hr, hg, hv, hfin, hRo => by simp [runDefE] at hv
  | .fn (.methodOf _ _) _ _ :: _, ds, m, h, w, hd, hr, hg, hv, hfin, hRo => by simp [runDefE] at hv
  | .fn (.via _ _ _ _) _ _ :: _, ds, m, h, w, hd, hr, hg, hv, hfin, hRo => by simp [runDefE] at hv
  | .fn (.yield _) _ _ :: _, ds, m, h, w, hd, hr, hg, hv, hfin, hRo => by simp [runDefE] at hv
  | .top :: _, ds, m, h, w, hd, hr, hg, hv, hfin, hRo => by simp [runDefE] at hv
  | .b _ :: _, ds, m, h, w, hd, hr, hg, hv, hfin, hRo => by simp [runDefE] at hv
  | .i _ _ :: _, ds, m, h, w, hd, hr, hg, hv, hfin, hRo => by simp [runDefE] at hv
  | .s _ _ :: _, ds, m, h, w, hd, hr, hg, hv, hfin, hRo => by simp [runDefE] at hv
  | .pn :: _, ds, m, h, w, hd, hr, hg, hv, hfin, hRo => by simp [runDefE] at hv
  | .p _ _ :: _, ds, m, h, w, hd, hr, hg, hv, hfin, hRo => by simp [runDefE] at hv
  | .sn :: _, ds, m, h, w, hd, hr, hg, hv, hfin, hRo => by simp [runDefE] at hv
  | .sl _ _ _ _ :: _, ds, m, h, w, hd, hr, hg, hv, hfin, hRo => by simp [runDefE] at hv
  | .se :: _, ds, m, h, w, hd, hr, hg, hv, hfin, hRo => by simp [runDefE] at hv
  | .mn :: _, ds, m, h, w, hd, hr, hg, hv, hfin, hRo => by simp [runDefE] at hv
  | .mp _ :: _, ds, m, h, w, hd, hr, hg, hv, hfin, hRo => by simp [runDefE] at hv
  | .nf :: _, ds, m, h, w, hd, hr, hg, hv, hfin, hRo => by simp [runDefE] at hv
  | .ifc _ _ :: _, ds, m, h, w, hd, hr, hg, hv, hfin, hRo => by simp [runDefE] at hv
  | .ni :: _, ds, m, h, w, hd, hr, hg, hv, hfin, hRo => by simp [runDefE] at hv
  | .agg _ :: _, ds, m, h, w, hd, hr, hg, hv, hfin, hRo => by simp [runDefE] at hv
  | .tup _ :: _, ds, m, h, w, hd, hr, hg, hv, hfin, hRo => by simp [runDefE] at hv
/-- what is given for some functions is sound -/
def SpecOK (P : Program) (sp : Nat → Option FOp) : Prop :=
  ∀ (f : FuncId) (op : FOp), sp f = some op → ∀ (call : CallT), CallOK P call → ∀ (vs : List V) (us : List Value) (m : Mp) (h : H) (w : World) (v : V) (h' : H), HR m h w → Gl P m → Rl m vs us → op.run call vs h = .ok v h' → HvOk P ((callFunc f ⟨us⟩).run P w) m h w v h'
theorem bodyE_sound {lf : Nat} {call : CallT} (hp : progOk P = true) (hcall : CallOK P call) (hmix : P.follows .mixedOrders = true) {f : FuncId} {fn : Func} {c : Code} (hf : P.funcs[f]? = some fn) (hb : fn.body = some c)
    {vs : List V} {us : List Value} {h h' : H} {v : V} (hr : HR m h w) (hg : Gl P m) (hR : Rl m vs us) (hv : (bodyE P lf fn c).run call vs h = .ok v h') :
    Calls P f ⟨us⟩ w (fun e w' => ∃ u m', e = .returned u ∧ Fr m h w m' h' w' ∧ R m' v u) := by
  obtain ⟨p1, p2, p3, p4⟩ := progOk_get hp hf hb
  unfold bodyE at hv
  obtain ⟨hle, hv⟩ := iteH_ok hv
  have hlen : vs.length ≤ fn.ntmps := by rw [lenV1_eq] at hle; exact Nat.le_of_ble_eq_true hle
  have hE := args_env hR hlen p1
  refine calls_of_wp_defers hf hb ?_
  refine codeE_sound (lf := lf) hcall hmix c p2 m _ _ h w _ hE hg hr ?_
  have key : ∀ e1 h1, leaveE P lf fn.results.toList call e1 h1 = .ok v h' → ∀ m' a' w', Fr m h w m' h1 w' → EnvR m' fn.ntmps e1 a' →
      Leaves P fn a'.tmps (fun e w' => ∃ u m', e = .returned u ∧ Fr m h w m' h' w' ∧ R m' v u) a'.defers .returning w' := by
    intro e1 h1 hl m' a' w' hF hE'
    obtain ⟨L, hL, hDf⟩ := hE'.dfr
    have fin : ∀ h2, vhO h2 ((retC P fn.results.toList).run e1 h2) = .ok v h' → ∀ m2 w2, Fr m' h1 w' m2 h2 w2 → ∃ u, (results fn a'.tmps).run P w2 = .ok u w2 ∧ ∃ u' m', Ending.returned u = .returned u' ∧ Fr m h w m' h' w2 ∧ R m' v u' := by
      intro h2 hvh m2 w2 hF2
      unfold vhO at hvh
      split at hvh
      · rename_i v' hv'
        cases hvh
        obtain ⟨u, hu, hRu⟩ := retC_sound (hE'.mono hF2.le) hF2.hr p3 hv'
        exact ⟨u, hu, u, m2, rfl, hF.trans hF2, hRu⟩
      · cases hvh
    unfold leaveE at hl
    split at hl
    · rename_i hdef
      rw [hdef] at hL; cases hL
      simp only [DfrR] at hDf
      rw [hDf]
      exact fin h1 hl m' w' (Fr.refl hF.hr)
    · rename_i l hne hdef
      rw [hdef] at hL; cases hL
      split at hl
      · rename_i h2 hrd
        exact leaves_sound hp hcall hmix _ a'.defers m' h1 w' hDf hF.hr (hg.mono hF.le) hrd (fin h2 hl) (by rintro w ⟨u, m', hu, _⟩; cases hu)
      · cases hl
    · cases hl
  cases hc : (codeE P lf c).run call (putArgs 0 vs Env.new) h with
  | bad => rw [hc] at hv; cases hv
  | nrm e1 h1 => rw [hc] at hv; exact key e1 h1 hv
  | ext i e1 h1 => rw [hc] at hv; cases hv
  | ret e1 h1 => rw [hc] at hv; exact key e1 h1 hv
/-- CALLS. -/
theorem callE_sound {sp : Nat → Option FOp} {lf : Nat} (hp : progOk P = true) (hmix : P.follows .mixedOrders = true) (hsp : SpecOK P sp) : ∀ n, CallOK P (callE P sp lf n)
  | 0 => by intro f vs us m h w v h' hr hg hR hv; cases hv
  | n + 1 => by
    intro f vs us m h w v h' hr hg hR hv
    have hcall := callE_sound (lf := lf) hp hmix hsp n
    have hv : (funcE P sp lf f).run (callE P sp lf n) vs h = .ok v h' := hv
    unfold funcE at hv
    cases hs : sp f with
    | some op => rw [hs] at hv; exact hsp f op hs _ hcall vs us m h w v h' hr hg hR hv
    | none =>
      rw [hs] at hv
      simp only at hv
      cases hf : P.funcs[f]? with
      | none => rw [hf] at hv; cases hv
      | some fn =>
        rw [hf] at hv
        simp only at hv
        cases hb : fn.body with
        | none => rw [hb] at hv; cases hv
        | some c =>
          rw [hb] at hv
          simp only at hv
          exact .inr ⟨f, ⟨us⟩, callFunc_run hp hf hb _ _, bodyE_sound hp hcall hmix hf hb hr hg hR hv⟩
end Go.Ev
end
section
namespace Go.Ev
open Go
/-- internal/bytealg's comparison of two strings -/
noncomputable def cmpF : FOp := ⟨fun _ args h => match args with
  | [.s l c, .s l' c'] => .ok (.i .i64 (bif sEq l c l' c' then 0 else bif ltB (bytesOf l c) (bytesOf l' c') then -1 else 1)) h
  | _ => .bad⟩
/-- what hands its argument back -/
noncomputable def sameF : FOp := ⟨fun _ args h => match args with | [x] => .ok x h | _ => .bad⟩
/-- slices.AppendSeq(s, slices.Values(t)): fv is the function of the iterator, el the element's type (one cell) -/
noncomputable def seqF (fv el : Nat) : FOp := ⟨fun _ args h => match args with
  | [x, .fn (.func g) [] [.p b o]] => bif Nat.beq g fv then (match rd1 h b o with
      | some v => (match elemsOf h 1 v with
        | some new => appendV el h 1 x new
        | none => .bad)
      | none => .bad) else .bad
  | _ => .bad⟩
end Go.Ev
end
section
namespace Go.Ev
open Go
/-! the composition of two graphs (workbench.compose) -/
abbrev Lk := Int × Int × Bool
noncomputable def kEqL (x y : Lk) : Bool := iEq x.1 y.1 && iEq x.2.1 y.2.1
noncomputable def kLtL (x y : Lk) : Bool := iLt x.1 y.1 || (iEq x.1 y.1 && iLt x.2.1 y.2.1)
noncomputable def insL (x : Lk) : List Lk → List Lk
  | [] => [x]
  | y :: l => bif kEqL x y then (y.1, y.2.1, y.2.2 || x.2.2) :: l else bif kLtL x y then x :: y :: l else y :: insL x l
noncomputable def compRow (x : Lk) : List Lk → List Lk → List Lk
  | [], acc => acc
  | y :: B, acc => compRow x B (bif iEq x.2.1 y.1 then insL (x.1, y.2.1, x.2.2 || y.2.2) acc else acc)
noncomputable def compL : List Lk → List Lk → List Lk → List Lk
  | [], _, acc => acc
  | x :: A, B, acc => compL A B (compRow x B acc)
def lkOf : List (List V) → Option (List Lk)
  | [] => some []
  | [.i .i64 a, .i .i64 b, .b s] :: r => (match lkOf r with | some l => some ((a, b, s) :: l) | none => none)
  | _ => none
def lkV (x : Lk) : List V := [.i .i64 x.1, .i .i64 x.2.1, .b x.2.2]
noncomputable def compF (el : Nat) : FOp := ⟨fun _ args h => match args with
  | [.agg [.i .i64 f, .i .i64 t, l1], .agg [.i .i64 f', .i .i64 t', l2]] =>
    (match elemsOf h 3 l1, elemsOf h 3 l2 with
     | some e1, some e2 => (match lkOf e1, lkOf e2 with
       | some A, some B => (match compL A B [] with
         | [] => .ok (.agg [.i .i64 f, .i .i64 t', .sn]) h
         | c => newC el h 3 (c.map lkV) (fun i => .agg [.i .i64 f, .i .i64 t', .sl i 0 c.length 3]))
       | _, _ => .bad)
     | _, _ => .bad)
  | _ => .bad⟩
end Go.Ev
end
section
namespace Go.Ev
open Go
/-! code whose ranges over maps take their entries in any order: a list of outcomes -/
noncomputable def nextN (h : H) (b : Id) : Option (List (V × H)) :=
  match mget b h.mem with
  | some (.miter m since seen last) => (match entsOf h m with
    | some (es, clock) => bif es.all (fun e => Nat.ble (Nat.succ e.born) since) && Nat.ble since last then
        (match unseen seen es with
         | [] => some [(.tup [.b false], h)]
         | l => some (l.map fun e => (.tup [.b true, e.key, e.val], setO h b (.miter m since (seen ++ [e.born]) clock))))
        else none
    | none => none)
  | _ => none
def nextOf (o : Oper) : Option (Operand × Nat) :=
  match o.op, o.dst, o.guard with
  | .next x false, some d, none => some (x, d)
  | _, _, _ => none
structure NS where
  run : CallT → Env → H → List Rs
structure NCd where
  run : CallT → Env → H → List CR
variable (P : Program)
noncomputable def operN (ops : List Oper) (o : Oper) : NS :=
  match nextOf o with
  | none => ⟨fun call e h => [(operC P ops o).run call e h]⟩
  | some (x, d) => ⟨fun _ e h => match (opnd x).run e with
     | .p b 0 => (match nextN h b with | some l => l.map (fun r => .ok (eset d r.1 e) r.2) | none => [.bad])
     | _ => [.bad]⟩
noncomputable def bindS (k : Env → H → List Rs) : Rs → List Rs
  | .bad => [.bad]
  | .ok e h => k e h
noncomputable def seqN (ops : List Oper) : List Oper → NS
  | [] => ⟨fun _ e h => [.ok e h]⟩
  | o :: l => ⟨fun call e h => ((operN P ops o).run call e h).flatMap (bindS ((seqN ops l).run call))⟩
noncomputable def bindC (k : Env → H → List CR) : CR → List CR
  | .bad => [.bad]
  | .nrm e h => k e h
  | .ext i e h => [.ext i e h]
  | .ret e h => [.ret e h]
noncomputable def loopNN (body : Env → H → List CR) : Nat → Env → H → List CR
  | 0 => fun _ _ => [.bad]
  | n + 1 => fun e h => (body e h).flatMap (bindC (loopNN body n))
noncomputable def blkC (id : Nat) : CR → CR
  | .ext j e h => bif Nat.beq j id then .nrm e h else .ext j e h
  | r => r
noncomputable def rsC : Rs → CR
  | .bad => .bad
  | .ok e h => .nrm e h
noncomputable def codeN (lf : Nat) : Code → NCd
  | .seq a b => ⟨fun call e h => ((codeN lf a).run call e h).flatMap (bindC ((codeN lf b).run call))⟩
  | .cond c a b => ⟨fun call e h => match (opnd c).run e with
      | .b true => (codeN lf a).run call e h
      | .b false => (codeN lf b).run call e h
      | _ => [.bad]⟩
  | .block id b => ⟨fun call e h => ((codeN lf b).run call e h).map (blkC id)⟩
  | .loop b => ⟨fun call e h => loopNN ((codeN lf b).run call) lf e h⟩
  | .region _ ops false => ⟨fun call e h => ((seqN P ops.toList ops.toList).run call e h).map rsC⟩
  | .region id ops true => ⟨fun call e h => [(codeE P lf (.region id ops true)).run call e h]⟩
  | .skip => ⟨fun _ e h => [.nrm e h]⟩
  | .label _ => ⟨fun _ e h => [.nrm e h]⟩
  | .ret => ⟨fun _ e h => [.ret e h]⟩
  | .exit id => ⟨fun _ e h => [.ext id e h]⟩
  | _ => ⟨fun _ _ _ => [.bad]⟩
end Go.Ev
end
section
namespace Go.Ev
open Go
variable {P : Program} {m : Mp} {w : World}

theorem nextN_sound {h : H} (k : HR m h w) {ty : TypeId} {b : Id} {l : Loc} {L : List (V × H)} (hl : m b = some l) (hn : nextN h b = some L) :
    ∃ r ∈ L, ∃ u' w' m', (Instr.next (.pointer (some ⟨l.blk, l.base + 0, none⟩)) false ty).run P w = .ok u' w' ∧ Fr m h w m' r.2 w' ∧ R m' r.1 u' := by
  unfold nextN at hn
  split at hn
  · rename_i mi since seen last hb
    obtain ⟨l1, hl1, h0, lm, hlm, hit⟩ := k.obj _ _ hb
    rw [hl] at hl1; cases hl1
    rw [h0]
    split at hn
    · rename_i es clock he
      obtain ⟨l2, es', hb2, hl2, hat, hes⟩ := entsOf_some k he
      have hl2' : lm = l2 := by rw [hlm] at hl2; cases hl2; rfl
      subst hl2'
      cases hc : (es.all (fun e => Nat.ble (Nat.succ e.born) since) && Nat.ble since last) with
      | false => rw [hc] at hn; cases hn
      | true =>
        rw [hc] at hn
        simp only [cond_true] at hn
        rw [Bool.and_eq_true] at hc
        have hold : ∀ x ∈ (⟨es'⟩ : Array MapEntry).toList, x.born < since := by
          have h1 := hes.all (p := fun n => Nat.ble (Nat.succ n) since)
          rw [hc.1] at h1
          intro x hx
          have := (List.all_eq_true.1 h1) x (by simpa using hx)
          exact Nat.le_of_ble_eq_true this
        have hsl : since ≤ last := Nat.le_of_ble_eq_true hc.2
        have hleft := hes.filter (p := fun n => !seen.any (Nat.beq n))
        have hfl : (leftOf (⟨es'⟩ : Array MapEntry) ⟨seen⟩).toList = (es'.filter fun e => !seen.any (Nat.beq e.born)) := by
          unfold leftOf
          simp only [Array.toList_filter]
          congr 1
          funext e
          congr 1
          rw [Bool.eq_iff_iff]; simp
        have hun : unseen seen es = es.filter fun e => !seen.any (Nat.beq e.born) := rfl
        rw [← hun, ← hfl] at hleft
        rcases run_next_at (P := P) w ty l.blk lm.blk since last ⟨seen⟩ ⟨es'⟩ clock hit hat hold hsl with ⟨hz, hrun⟩ | ⟨x, hx, w1, hw1, hrun⟩
        · have hnil : unseen seen es = [] := by
            have := hleft.length
            rw [Array.length_toList, hz] at this
            exact List.eq_nil_of_length_eq_zero this.symm
          rw [hnil] at hn
          cases hn
          exact ⟨_, List.mem_singleton.2 rfl, _, w, m, hrun, Fr.refl k, by simp [R, Rl]⟩
        · obtain ⟨i, hi⟩ := List.mem_iff_getElem?.1 hx
          have hlen := hleft.length
          have hi2 : i < (unseen seen es).length := by
            rw [← hlen]; exact (List.getElem?_eq_some_iff.1 hi).1
          obtain ⟨x', hx', hxe⟩ := hleft.get (List.getElem?_eq_getElem hi2)
          rw [hi] at hx'; cases hx'
          have hne : unseen seen es ≠ [] := by intro e; rw [e] at hi2; cases hi2
          have hn' : some ((unseen seen es).map fun e => (V.tup [.b true, e.key, e.val], setO h b (.miter mi since (seen ++ [e.born]) clock))) = some L := by
            cases hu : unseen seen es with
            | nil => exact absurd hu hne
            | cons a t => rw [hu] at hn; exact hn
          cases hn'
          generalize hE : (unseen seen es)[i] = E at hxe
          refine ⟨_, List.mem_map.2 ⟨E, by rw [← hE]; exact List.getElem_mem hi2, rfl⟩, _, _, m, hrun, ?_, ?_⟩
          · have hw2 : ∃ n, w1 = { w with drawn := n } := by
              rcases hw1 with rfl | rfl
              · exact ⟨w1.drawn, rfl⟩
              · exact ⟨w.drawn + 1, rfl⟩
            obtain ⟨n, rfl⟩ := hw2
            refine (Fr.drawn k n).trans (Fr.updObj (k.drawn n) hb hl (fun _ _ _ _ e => by cases e) (fun _ _ _ _ e => by cases e) (o' := .mapIter (some lm.blk) since ⟨seen ++ [E.born]⟩ clock) ?_ (fun hat2 => ⟨h0, lm, hlm, hat2⟩))
            simp [ChangeMaps.setBlock, hxe.2.2]
          · simp only [R, Rl]
            exact ⟨_, rfl, _, _, rfl, rfl, _, _, rfl, hxe.1, _, _, rfl, hxe.2.1, rfl⟩
    · cases hn
  · cases hn
theorem nextOf_some {o : Oper} {x : Operand} {d : Nat} (h : nextOf o = some (x, d)) : o.op = .next x false ∧ o.dst = some d ∧ o.guard = none := by
  unfold nextOf at h
  split at h
  · rename_i h1 h2 h3
    cases h; exact ⟨h1, h2, h3⟩
  · cases h
theorem operN_sound {n : Nat} {e : Env} {a : Act} {call : CallT} (hcall : CallOK P call) (k : EnvR m n e a) (hg : Gl P m) {h : H} (hr : HR m h w) {ops : Array Oper} (hreg : regOk P n ops = true) {i : Nat} {o : Oper} (hi : ops[i]? = some o)
    {K : Act → World → Prop} {Q : Exit → Act → World → Prop} (hb : ∀ r ∈ (operN P ops.toList o).run call e h, r ≠ .bad)
    (hn : ∀ e' h', Rs.ok e' h' ∈ (operN P ops.toList o).run call e h → ∀ m' a' w', Fr m h w m' h' w' → EnvR m' n e' a' → K a' w') : wpOp P ops Q i K a w := by
  unfold operN at hb hn
  cases hx : nextOf o with
  | none =>
    rw [hx] at hb hn
    simp only [List.mem_singleton] at hb hn
    cases hv : (operC P ops.toList o).run call e h with
    | bad => exact absurd hv (hb _ rfl)
    | ok e1 h1 => exact operC_sound hcall k hg hr hreg hi hv (hn e1 h1 hv.symm)
  | some xd =>
    obtain ⟨x, d⟩ := xd
    rw [hx] at hb hn
    obtain ⟨h1, h2, h3⟩ := nextOf_some hx
    obtain ⟨hops, hd⟩ := regOk_get hreg hi
    simp only at hb hn
    have hX := opnd_sound k hg (show opOk P n x = true by
      rw [h1] at hops; simpa [Op.operands] using hops)
    unfold wpOp
    simp only [hi]
    rw [if_pos (by simp [Region.wanted, h3])]
    refine .inl ?_
    unfold Oper.wp
    split at hb
    · rename_i b hp
      rw [hp] at hX hn
      simp only at hn
      obtain ⟨l, hl, hu⟩ := R_p hX
      cases hN : nextN h b with
      | none => rw [hN] at hb; exact absurd rfl (hb .bad (List.mem_singleton.2 rfl))
      | some L =>
        rw [hN] at hn
        simp only at hn
        obtain ⟨r, hrm, u', w', m', hrun, hF, hR⟩ := nextN_sound (P := P) (ty := o.type) hr hl hN
        have hex : (execOp a.eval o).run P w = .ok (.value u') w' := by
          simp only [Nat.add_zero] at hrun hu
          simp [execOp, h1, hu, hrun, Result.andThen]
        rw [hex, Oper.upon_value, h2]
        rw [h2] at hd
        exact hn _ _ (List.mem_map.2 ⟨r, hrm, rfl⟩) m' _ w' hF ((k.mono hF.le).set (Nat.le_of_ble_eq_true hd) hR)
    · exact absurd rfl (hb .bad (List.mem_singleton.2 rfl))
theorem mem_bindS {k : Env → H → List Rs} {L : List Rs} {e : Env} {h : H} {r : Rs} (h1 : Rs.ok e h ∈ L) (h2 : r ∈ k e h) : r ∈ L.flatMap (bindS k) :=
  List.mem_flatMap.2 ⟨_, h1, h2⟩
theorem bad_bindS {k : Env → H → List Rs} {L : List Rs} (h1 : Rs.bad ∈ L) : Rs.bad ∈ L.flatMap (bindS k) :=
  List.mem_flatMap.2 ⟨_, h1, List.mem_singleton.2 rfl⟩
theorem seqN_sound {n : Nat} {call : CallT} (hcall : CallOK P call) {ops : Array Oper} (hreg : regOk P n ops = true) {Q : Exit → Act → World → Prop} :
    ∀ (l : List Oper) (i : Nat) (m : Mp) (e : Env) (a : Act) (h : H) (w : World), ops.toList.drop i = l → EnvR m n e a → Gl P m → HR m h w →
      (∀ r ∈ (seqN P ops.toList l).run call e h, r ≠ .bad) →
      (∀ e' h', Rs.ok e' h' ∈ (seqN P ops.toList l).run call e h → ∀ m' a' w', Fr m h w m' h' w' → EnvR m' n e' a' → Q .normal a' w') → wpOps P ops Q (List.range' i l.length) a w
  | [], i, m, e, a, h, w, hl, k, hg, hr, hb, hn => hn e h (List.mem_singleton.2 rfl) m a w (Fr.refl hr) k
  | o :: l, i, m, e, a, h, w, hl, k, hg, hr, hb, hn => by
    have hi : ops[i]? = some o := by
      have : (ops.toList.drop i)[0]? = some o := by rw [hl]; rfl
      rw [List.getElem?_drop] at this
      simpa using this
    have hl' : ops.toList.drop (i + 1) = l := by
      have : (ops.toList.drop i).drop 1 = l := by rw [hl]; rfl
      rw [List.drop_drop] at this; exact this
    simp only [List.length_cons, List.range'_succ]
    rw [wpOps_cons]
    simp only [seqN] at hb hn
    refine operN_sound hcall k hg hr hreg hi (fun r hr1 e1 => hb .bad (bad_bindS (e1 ▸ hr1)) rfl) ?_
    intro e1 h1 hm1 m1 a1 w1 hF1 hE1
    exact seqN_sound hcall hreg l (i + 1) m1 e1 a1 h1 w1 hl' hE1 (hg.mono hF1.le) hF1.hr (fun r hr2 => hb r (mem_bindS hm1 hr2))
      (fun e2 h2 hm2 m2 a2 w2 hF2 hE2 => hn e2 h2 (mem_bindS hm1 hm2) m2 a2 w2 (hF1.trans hF2) hE2)
theorem mem_bindC {k : Env → H → List CR} {L : List CR} {c r : CR} (h1 : c ∈ L) (h2 : r ∈ bindC k c) : r ∈ L.flatMap (bindC k) :=
  List.mem_flatMap.2 ⟨_, h1, h2⟩
theorem codeN_sound {n lf : Nat} {call : CallT} (hcall : CallOK P call) (hmix : P.follows .mixedOrders = true) : ∀ (c : Code), codeOk P n c = true →
    ∀ (m : Mp) (e : Env) (a : Act) (h : H) (w : World) (Q : Exit → Act → World → Prop), EnvR m n e a → Gl P m → HR m h w → (∀ r ∈ (codeN P lf c).run call e h, CQ m h w n Q r) → c.wp P Q a w := by
  intro c
  induction c with
  | skip => intro hc m e a h w Q k hg hr hq; exact wp_skip (hq _ (List.mem_singleton.2 rfl) m a w (Fr.refl hr) k)
  | label l => intro hc m e a h w Q k hg hr hq; exact wp_label (hq _ (List.mem_singleton.2 rfl) m a w (Fr.refl hr) k)
  | ret => intro hc m e a h w Q k hg hr hq; exact wp_ret (hq _ (List.mem_singleton.2 rfl) m a w (Fr.refl hr) k)
  | exit id => intro hc m e a h w Q k hg hr hq; exact wp_exit (hq _ (List.mem_singleton.2 rfl) m a w (Fr.refl hr) k)
  | seq x y ihx ihy =>
    intro hc m e a h w Q k hg hr hq
    simp only [codeOk, Bool.and_eq_true] at hc
    refine wp_seq (ihx hc.1 m e a h w _ k hg hr ?_)
    simp only [codeN] at hq
    intro r hr1
    cases r with
    | bad => exact (hq .bad (mem_bindC hr1 (List.mem_singleton.2 rfl))).elim
    | nrm e1 h1 =>
      intro m' a' w' hF hE
      exact ihy hc.2 m' e1 a' h1 w' Q hE (hg.mono hF.le) hF.hr (fun r2 hr2 => (hq r2 (mem_bindC hr1 hr2)).of_fr hF)
    | ext i e1 h1 => exact hq _ (mem_bindC hr1 (List.mem_singleton.2 rfl))
    | ret e1 h1 => exact hq _ (mem_bindC hr1 (List.mem_singleton.2 rfl))
  | cond c x y ihx ihy =>
    intro hc m e a h w Q k hg hr hq
    simp only [codeOk, Bool.and_eq_true] at hc
    simp only [codeN] at hq
    have hC := opnd_sound k hg hc.1
    split at hq
    · rename_i hb
      rw [hb] at hC; simp only [R] at hC
      exact wp_cond hC (ihx hc.2.1 m e a h w Q k hg hr hq)
    · rename_i hb
      rw [hb] at hC; simp only [R] at hC
      exact wp_cond hC (ihy hc.2.2 m e a h w Q k hg hr hq)
    · exact (hq .bad (List.mem_singleton.2 rfl)).elim
  | block id x ih =>
    intro hc m e a h w Q k hg hr hq
    simp only [codeOk] at hc
    simp only [codeN] at hq
    refine wp_block (ih hc m e a h w _ k hg hr ?_)
    intro r hr1
    have hq1 := hq (blkC id r) (List.mem_map.2 ⟨r, hr1, rfl⟩)
    cases r with
    | bad => exact hq1
    | nrm e1 h1 => exact hq1
    | ret e1 h1 => exact hq1
    | ext j e1 h1 =>
      intro m' a' w' hF hE
      show (if j = id then Q .normal a' w' else Q (.exit j) a' w')
      simp only [blkC] at hq1
      cases hj : Nat.beq j id with
      | true => rw [hj] at hq1; rw [if_pos (Nat.eq_of_beq_eq_true hj)]; exact hq1 m' a' w' hF hE
      | false => rw [hj] at hq1; rw [if_neg (Nat.ne_of_beq_eq_false hj)]; exact hq1 m' a' w' hF hE
  | loop x ih =>
    intro hc m e a h w Q k hg hr hq
    simp only [codeOk] at hc
    simp only [codeN] at hq
    refine wp_loop_rounds lf ?_
    have key : ∀ (N : Nat) (m : Mp) (e : Env) (a : Act) (h : H) (w : World), EnvR m n e a → Gl P m → HR m h w → (∀ r ∈ loopNN ((codeN P lf x).run call) N e h, CQ m h w n Q r) → Code.rounds P x Q N a w := by
      intro N
      induction N with
      | zero => intro m e a h w k hg hr hq; exact (hq .bad (List.mem_singleton.2 rfl)).elim
      | succ N ihN =>
        intro m e a h w k hg hr hq
        rw [rounds_succ]
        refine ih hc m e a h w _ k hg hr ?_
        intro r hr1
        cases r with
        | bad => exact (hq .bad (mem_bindC hr1 (List.mem_singleton.2 rfl))).elim
        | nrm e1 h1 =>
          intro m' a' w' hF hE
          exact ihN m' e1 a' h1 w' hE (hg.mono hF.le) hF.hr (fun r2 hr2 => (hq r2 (mem_bindC hr1 hr2)).of_fr hF)
        | ext i e1 h1 => exact hq _ (mem_bindC hr1 (List.mem_singleton.2 rfl))
        | ret e1 h1 => exact hq _ (mem_bindC hr1 (List.mem_singleton.2 rfl))
    exact key lf m e a h w k hg hr hq
  | region id ops d =>
    intro hc m e a h w Q k hg hr hq
    cases d with
    | false =>
      simp only [codeOk] at hc
      simp only [codeN] at hq
      refine wp_region ?_
      have := seqN_sound (Q := Q) hcall hc ops.toList 0 m e a h w (by simp) k hg hr (fun r hr1 e1 => by subst e1; exact hq .bad (List.mem_map.2 ⟨_, hr1, rfl⟩))
        (fun e1 h1 hm => hq (.nrm e1 h1) (List.mem_map.2 ⟨_, hm, rfl⟩))
      rw [List.range_eq_range']
      simpa using this
    | true =>
      simp only [codeN] at hq
      exact codeE_sound hcall hmix _ hc m e a h w Q k hg hr (hq _ (List.mem_singleton.2 rfl))
  | _ => intro hc m e a h w Q k hg hr hq; simp only [codeN] at hq; exact (hq .bad (List.mem_singleton.2 rfl)).elim
end Go.Ev
end
section
namespace Go.Ev
open Go
/-! a call that runs on what its arguments reach; whatever order its ranges over maps take, it comes to one result, which is named anew -/
noncomputable def subGo (h : H) : Nat → List V → Mem → List Id → Mem × List Id
  | 0, _, M, ms => (M, ms)
  | _ + 1, [], M, ms => (M, ms)
  | n + 1, v :: l, M, ms => match v with
    | .agg l0 => subGo h n (l0 ++ l) M ms
    | .tup l0 => subGo h n (l0 ++ l) M ms
    | .sl b _ _ _ => (match mget b M with
      | some _ => subGo h n l M ms
      | none => match mget b h.mem with
        | some (.cells sz els f _) => subGo h n (els.flatten ++ l) (mput b (some (.cells sz els f .fz)) M) ms
        | _ => subGo h n l M ms)
    | .mp b => (match mget b M with
      | some _ => subGo h n l M ms
      | none => match mget b h.mem with
        | some (.map es c) => subGo h n (es.map (·.key) ++ (es.map (·.val) ++ l)) (mput b (some (.map es c)) M) (b :: ms)
        | _ => subGo h n l M ms)
    | _ => subGo h n l M ms
def lookI (b : Id) : List (Id × Id) → Option Id
  | [] => none
  | (a, c) :: l => bif Id.beq a b then some c else lookI b l
def rho (lim : Nat) (pr : List (Id × Id)) (b : Id) : Option Id := bif Nat.ble (Nat.succ b.toNat) lim then some b else lookI b pr
mutual
def renV (ρ : Id → Option Id) : V → Option V
  | .sl b o l z => (match ρ b with | some c => some (.sl c o l z) | none => none)
  | .agg l => (match renL ρ l with | some l' => some (.agg l') | none => none)
  | .tup l => (match renL ρ l with | some l' => some (.tup l') | none => none)
  | .b x => some (.b x)
  | .i k n => some (.i k n)
  | .s l c => some (.s l c)
  | .pn => some .pn
  | .sn => some .sn
  | .se => some .se
  | .mn => some .mn
  | .nf => some .nf
  | .ni => some .ni
  | .top => none
  | .p _ _ => none
  | .mp _ => none
  | .fn _ _ _ => none
  | .ifc _ _ => none
def renL (ρ : Id → Option Id) : List V → Option (List V)
  | [] => some []
  | v :: l => (match renV ρ v, renL ρ l with | some v', some l' => some (v' :: l') | _, _ => none)
end
def renLL (ρ : Id → Option Id) : List (List V) → Option (List (List V))
  | [] => some []
  | v :: l => (match renL ρ v, renLL ρ l with | some v', some l' => some (v' :: l') | _, _ => none)
def nextIds : Nat → Id → Option (List Id × Id)
  | 0, i => some ([], i)
  | n + 1, i => (match i.succ with
    | some j => (match nextIds n j with | some (l, k) => some (i :: l, k) | none => none)
    | none => none)
noncomputable def colGo (hp : H) (lim : Nat) : Nat → List V → List Id → List Id
  | 0, _, acc => acc
  | _ + 1, [], acc => acc
  | n + 1, v :: l, acc => match v with
    | .agg l0 => colGo hp lim n (l0 ++ l) acc
    | .tup l0 => colGo hp lim n (l0 ++ l) acc
    | .sl b _ _ _ => bif Nat.ble (Nat.succ b.toNat) lim || memI b acc then colGo hp lim n l acc else (match mget b hp.mem with
      | some (.cells _ els _ _) => colGo hp lim n (els.flatten ++ l) (acc ++ [b])
      | _ => colGo hp lim n l acc)
    | _ => colGo hp lim n l acc
def nodupI : List Id → Bool
  | [] => true
  | a :: l => !memI a l && nodupI l
abbrev Ob := Nat × Nat × List (List V)
noncomputable def renObs (hp : H) (ρ : Id → Option Id) : List Id → Option (List Id × List Ob)
  | [] => some ([], [])
  | b :: l => (match mget b hp.mem with
    | some (.cells sz els f (.rw ty)) => (match renLL ρ els, renObs hp ρ l with
      | some els', some (fs, obs) => some (f :: fs, (sz, ty, els') :: obs)
      | _, _ => none)
    | _ => none)
noncomputable def canon (lim fuel : Nat) (nw : List Id) (hp : H) (v : V) : Option (V × List Ob) :=
  match colGo hp lim fuel [v] [] with
  | olds => bif Nat.beq (lenL' olds) (lenL' nw) && nodupI olds then
      (match renV (rho lim (olds.zip nw)) v, renObs hp (rho lim (olds.zip nw)) olds with
        | some v', some (fs, obs) => bif nodupI fs then some (v', obs) else none
        | _, _ => none)
      else none
where lenL' (l : List Id) : Nat := l.length
def beqObs : List Ob → List Ob → Bool
  | [], [] => true
  | (n, t, a) :: l, (n', t', b) :: r => Nat.beq n n' && (Nat.beq t t' && (beqLL a b && beqObs l r))
  | _, _ => false
def eqCan (x y : V × List Ob) : Bool := V.beq x.1 y.1 && beqObs x.2 y.2
def sameEs : List Ent → List Ent → Bool
  | [], [] => true
  | a :: l, b :: r => V.beq a.key b.key && (V.beq a.val b.val && (Nat.beq a.born b.born && sameEs l r))
  | _, _ => false
def plainV (lim : Nat) (v : V) : Bool := match renV (rho lim []) v with | some v' => V.beq v' v | none => false
def plainEs (lim : Nat) : List Ent → Bool
  | [] => true
  | e :: l => plainV lim e.key && (plainV lim e.val && plainEs lim l)
noncomputable def okMaps (lim : Nat) (h hp : H) : List Id → Bool
  | [] => true
  | b :: l => (match mget b h.mem, mget b hp.mem with
    | some (.map es c), some (.map es' c') => sameEs es es' && (Nat.beq c c' && plainEs lim es)
    | _, _ => false) && okMaps lim h hp l
noncomputable def putObs : List Id → List Ob → Mem → Mem
  | b :: nw, (sz, ty, els) :: obs, M => mput b (some (.cells sz els b (.rw ty))) (putObs nw obs M)
  | _, _, M => M
variable (P : Program)
noncomputable def leaveC (fn : Func) : CR → VH
  | .ret e h => leave0 P fn.results.toList e h
  | .nrm e h => leave0 P fn.results.toList e h
  | _ => .bad
noncomputable def okOut (fn : Func) (lim fuel : Nat) (nw : List Id) (cn : V × List Ob) (h : H) (ms : List Id) (r : CR) : Bool :=
  match leaveC P fn r with
  | .ok v hp => okMaps lim h hp ms && (match canon lim fuel nw hp v with | some c => eqCan c cn | none => false)
  | .bad => false
noncomputable def allOut (p : CR → Bool) : List CR → Bool
  | [] => true
  | r :: l => p r && allOut p l
noncomputable def ndB (lf fuel : Nat) (fn : Func) (c : Code) : FOp := ⟨fun call args h => iteH (Nat.ble (lenV1 args) fn.ntmps)
    (match subGo h fuel args Mem.new [] with
    | (M, ms) => match (codeN P lf c).run call (putArgs 0 args Env.new) ⟨M, h.fams, h.next⟩ with
      | [] => .bad
      | r :: rs => match leaveC P fn r with
        | .bad => .bad
        | .ok v1 h1 => match nextIds (colGo h1 h.next.toNat fuel [v1] []).length h.next with
          | none => .bad
          | some (nw, nx) => match canon h.next.toNat fuel nw h1 v1 with
            | none => .bad
            | some cn => bif allOut (okOut P fn h.next.toNat fuel nw cn h ms) (r :: rs) then .ok cn.1 ⟨putObs nw cn.2 h.mem, h.fams, nx⟩ else .bad) .bad⟩
noncomputable def ndF (lf fuel f : Nat) : FOp :=
  match P.funcs[f]? with
  | none => badF
  | some fn => match fn.body with
    | none => badF
    | some c => ndB P lf fuel fn c
end Go.Ev
end
