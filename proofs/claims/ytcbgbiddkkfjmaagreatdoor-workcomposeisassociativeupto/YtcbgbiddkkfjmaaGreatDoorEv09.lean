/-
  A part of the proof of the card of WorkComposeIsAssociative (second form): lemmas that the text Card uses. No condition of its own.
-/
import Derived.Test.YtcbgbiddkkfjmaaGreatDoorEv08
set_option linter.all false
set_option linter.unusedVariables false
set_option linter.unusedSimpArgs false
section
namespace Go.Ev
open Go
variable {P : Program} {m : Mp} {w : World}
section
variable {n : Nat} {ops : Array Oper} {base : DOp2} {tl : List Nat} {call : CallT} {e' : Env} {h' : H} {m0 : Mp} {h0 : H} {w0 : World} {listed : Array Bool} {T : Nat} {l : List Nat} {e : Env} {h : H} {pn : List PN} {pc : List PC} {a : Act}

/-- the heavy operation that comes next in the plan is done -/
theorem inv_heavy (hord : ordOk ops.toList (befGo [] ops.toList) = true) (hreg : regOk P n ops = true) {s : Nat} (k : Inv P n ops base tl call e' h' m0 h0 w0 listed T (s :: l) e h pn pc m a w) {o : Oper} (ho : ops.toList[s]? = some o)
    (hdn : ∀ x ∈ o.after.toList, bindsE x = true → Sb listed x.on = true) (hbS : ∀ x, Nat.testBit (natAt (befGo [] ops.toList) s) x = true → Sb listed x = true)
    {m' : Mp} {w' : World} {u : Value} {v : V} {h1 : H} {pn1 : List PN} {pc1 : List PC} (hm : m.le m') (hR : R m' v u)
    (hrun : (drawE P base ops.toList (befGo [] ops.toList) l).run call (setD o.dst v e) h1 pn1 pc1 = .ok e' h')
    (hfr : Fr m0 h0 w0 m' (matH (Sb (listed.setIfInBounds s true)) pn1 h1) w')
    (hpn : ∀ x, Nat.testBit (natAt (befGo [] ops.toList) s) x.idx = false → (x ∈ pn ↔ x ∈ pn1)) (hpc : ∀ c ∈ pc, Nat.testBit (natAt (befGo [] ops.toList) s) c.idx = false → c ∈ pc1)
    (hh : ∀ c ∈ pc, Nat.testBit (natAt (befGo [] ops.toList) s) c.idx = false → ∀ (q : H → Option V) v, (c.chk = fun h' => eqO v (q h')) → q (hq h) = some v → q (hq h1) = some v)
    (hpd : pn1.Pairwise (fun x y => x.id ≠ y.id ∧ x.idx ≠ y.idx)) (hin : ∀ x ∈ pn1, x ∈ pn) (hnx : h.next.toNat ≤ h1.next.toNat)
    (hp1 : ∀ x ∈ pn1, mget x.id h1.mem = none) (hp2 : ∀ x ∈ pn1, (∀ b sz els f ro, mget b h1.mem = some (.cells sz els f ro) → f ≠ x.id) ∧ (Sb listed x.idx = false → m' x.id = none)) :
    Inv P n ops base tl call e' h' m0 h0 w0 (listed.setIfInBounds s true) (T ||| 2 ^ s) l (setD o.dst v e) h1 pn1 pc1 m' (a.put o.dst u) w' := by
  have ho' : ops[s]? = some o := by simpa using ho
  have hlt : s < listed.size := by rw [k.lsz]; exact (Array.getElem?_eq_some_iff.1 ho').1
  obtain ⟨hops, hdo⟩ := regOk_get hreg ho'
  obtain ⟨hsT, hbT, _, hpl⟩ := plan_cons k.plan
  have hle := k.le
  have hSb := Sb_set (listed := listed) hlt
  have hmono : ∀ j, Sb listed j = true → Sb (listed.setIfInBounds s true) j = true := fun j hj => by rw [hSb]; simp [hj]
  have hback : ∀ j, Sb (listed.setIfInBounds s true) j = false → j ≠ s ∧ Sb listed j = false := fun j hj => by
    rw [hSb] at hj; simpa using hj
  have hdiff := adv_env hord hreg k ho (fun x hx _ => hbS x hx) v
  refine ⟨⟨by simp [k.lsz], ?_, ?_, ?_, ?_, by rw [put_size]; exact k.size, k.le, ?_, ?_, hfr, k.gl.mono hm, hpd, ?_, ?_⟩, hpl, hrun⟩
  · intro j oj hj hS x hx hb
    rw [hSb] at hS
    simp only [Bool.or_eq_true, decide_eq_true_eq] at hS
    rcases hS with rfl | hS
    · rw [ho] at hj; cases hj; exact hmono _ (hdn x hx hb)
    · exact hmono _ (k.down j oj hj hS x hx hb)
  · intro j hj
    rw [hSb] at hj
    rw [bit_or]
    simp only [Bool.or_eq_true, decide_eq_true_eq] at hj ⊢
    rcases hj with rfl | hj
    · exact .inl rfl
    · exact .inr (k.sT j hj)
  · intro j hj x hx
    rw [bit_or] at hj ⊢
    simp only [Bool.or_eq_true, decide_eq_true_eq] at hj ⊢
    rcases hj with rfl | hj
    · exact .inr (hbT x hx)
    · exact .inr (k.tT j hj x hx)
  · intro j oj hj hTj hS
    obtain ⟨hne, hSj⟩ := hback j hS
    rw [bit_or] at hTj
    simp only [Bool.or_eq_true, decide_eq_true_eq] at hTj
    have hTj : Nat.testBit T j = true := hTj.resolve_left hne
    have hnb : Nat.testBit (natAt (befGo [] ops.toList) s) j = false := by
      cases hb : Nat.testBit (natAt (befGo [] ops.toList) s) j with
      | false => rfl
      | true => rw [hbS j hb] at hSj; cases hSj
    obtain ⟨q1, q2⟩ := env_same (v := v) (e := e) (i := s) k.le hreg hdo hj (hdiff j oj hj hTj hSj)
    refine (k.pend j oj hj hTj hSj).mono q1 q2 (fun x hx => hpn x (by rw [hx]; exact hnb)) (fun c hc hci => hpc c hc (by rw [hci]; exact hnb)) ?_
    rintro q v1 ⟨c, hc, hci, hck⟩ hq1
    exact hh c hc (by rw [hci]; exact hnb) q v1 hck hq1
  · rw [dfr_set k.le hdo, put_defers']
    obtain ⟨L, h1, h2⟩ := k.dfr
    exact ⟨L, h1, h2.mono hm⟩
  · intro t ht
    rw [put_getD (by rw [k.size]; exact ht), eget_setD (by omega) (fun x hx => by have := dst_lt hdo hx; omega)]
    by_cases e1 : o.dst = some t
    · rw [if_pos e1, if_pos e1]; exact .inr hR
    · rw [if_neg e1, if_neg e1]
      rcases k.env t ht with ⟨x, ox, g1, g2, g3, g4⟩ | g1
      · refine .inl ⟨x, ox, by rw [bit_or]; simp [g1], ?_, g3, g4⟩
        rw [hSb]
        have : x ≠ s := fun e2 => by subst e2; rw [g1] at hsT; cases hsT
        simp [this, g2]
      · exact .inr (g1.mono hm)
  · intro x hx
    obtain ⟨g1, g2, g3, g4, g5⟩ := k.pn1 x (hin x hx)
    exact ⟨by rw [bit_or]; simp [g1], g2, g3, Nat.lt_of_lt_of_le g4 hnx, hp1 x hx⟩
  · intro x hx
    obtain ⟨g1, g2⟩ := hp2 x hx
    exact ⟨g1, (k.pn2 x (hin x hx)).2.1, fun hS => g2 (hback _ hS).2⟩
/-- A HEAVY OPERATION. -/
theorem step_heavy (hcall : CallOK P call) (hord : ordOk ops.toList (befGo [] ops.toList) = true) (hreg : regOk P n ops = true) {s : Nat} (k : Inv P n ops base tl call e' h' m0 h0 w0 listed T (s :: l) e h pn pc m a w) {o : Oper} (ho : ops.toList[s]? = some o)
    (hdn : ∀ x ∈ o.after.toList, bindsE x = true → Sb listed x.on = true) (hbS : ∀ x, Nat.testBit (natAt (befGo [] ops.toList) s) x = true → Sb listed x = true)
    (hk : knOf P ops.toList (befGo [] ops.toList) s o = .heavy) {K : Act → World → Prop} {Q : Exit → Act → World → Prop}
    (hn : ∀ e1 h1 pn1 pc1 m' a' w', Inv P n ops base tl call e' h' m0 h0 w0 (listed.setIfInBounds s true) (T ||| 2 ^ s) l e1 h1 pn1 pc1 m' a' w' → K a' w') : wpOp P ops Q s K a w := by
  have ho' : ops[s]? = some o := by simpa using ho
  have hlt : s < listed.size := by rw [k.lsz]; exact (Array.getElem?_eq_some_iff.1 ho').1
  obtain ⟨hops, hdo⟩ := regOk_get hreg ho'
  obtain ⟨hsT, hbT, _, hpl⟩ := plan_cons k.plan
  have hE := k.looksR hreg ho hbS
  have hSb := Sb_set (listed := listed) hlt
  have hrun := k.run
  rw [drawE] at hrun
  simp only [nthO_eq, ho, hk] at hrun
  have hnoS : ∀ x ∈ pn, x.idx ≠ s := fun x hx hxi => by have := (k.pn1 x hx).1; rw [hxi, hsT] at this; cases this
  unfold wpOp
  simp only [ho']
  cases hgd : gdC ops.toList o (envM e (looksE ops.toList o)) with
  | none => rw [hgd] at hrun; cases hrun
  | some b =>
    rw [hgd] at hrun
    have hw := gdC_wanted hreg hE hgd
    cases b with
    | false =>
      simp only at hrun
      rw [if_neg (by rw [hw]; simp)]
      refine hn _ _ _ _ m _ w (inv_heavy hord hreg k ho hdn hbS (Mp.le_refl m) (show R m undefV undef by simp [R, Rl, undefV, undef]) hrun ?_ (fun _ _ => Iff.rfl) (fun _ hc _ => hc) (fun _ _ _ _ _ _ hq => hq) k.pnd (fun _ hx => hx) (Nat.le_refl _)
        (fun x hx => (k.pn1 x hx).2.2.2.2) (fun x hx => ⟨(k.pn2 x hx).1, (k.pn2 x hx).2.2⟩))
      rw [mat_same k.toCore hlt hnoS]; exact k.fr
    | true =>
      simp only at hrun
      rw [if_pos hw]
      refine .inl ?_
      cases hv : hvC P o.op call (envM e (looksE ops.toList o)) (matH (Nat.testBit (natAt (befGo [] ops.toList) s)) pn h) with
      | bad => rw [hv] at hrun; cases hrun
      | ok v h1 =>
        rw [hv] at hrun
        simp only at hrun
        cases hck : pcAll (hq h1) (keepP (fun c => !Nat.testBit (natAt (befGo [] ops.toList) s) c.idx) pc) with
        | false => rw [hck] at hrun; cases hrun
        | true =>
          rw [hck] at hrun
          simp only [cond_true] at hrun
          -- the part of the heap
          have hs : ∀ x ox, mget x (matM (Nat.testBit (natAt (befGo [] ops.toList) s)) pn h.mem) = some ox → mget x (matM (Sb listed) pn h.mem) = some ox := by
            intro x ox hx
            rcases matM_cases _ _ _ k.pid _ _ hx with ⟨y, g1, g2, g3, g4⟩ | ⟨_, g1⟩
            · rw [← g3, matM_in _ _ _ k.pid y g1 (hbS _ g2), g4]
            · exact k.sub _ _ g1
          have hrb : HR m (matH (Nat.testBit (natAt (befGo [] ops.toList) s)) pn h) w := k.fr.hr.sub (mem' := matM (Nat.testBit (natAt (befGo [] ops.toList) s)) pn h.mem) hs (Nat.le_refl _)
          have hOk := hvC_sound hcall hE k.gl hrb hops hv
          refine heavy_wp (n := n) (e := e) hOk ?_
          intro u m' w' hF hR
          -- the private ones
          have hXX : ∀ x, (∃ y ∈ pn, Sb listed y.idx = true ∧ Nat.testBit (natAt (befGo [] ops.toList) s) y.idx = false ∧ y.id = x) → mget x (matM (Nat.testBit (natAt (befGo [] ops.toList) s)) pn h.mem) = none ∧ ∃ ox, mget x (matM (Sb listed) pn h.mem) = some ox := by
            rintro x ⟨y, g1, g2, g3, rfl⟩
            refine ⟨?_, y.ob, matM_in _ _ _ k.pid y g1 g2⟩
            rw [matM_out]
            · exact (k.pn1 y g1).2.2.2.2
            · intro z z1 z2 z3
              have hne : z ≠ y := fun e1 => by subst e1; rw [g3] at z2; cases z2
              exact (k.inj z1 g1 hne).1 z3
          have hXp : ∀ x, (∃ y ∈ pn, Sb listed y.idx = true ∧ Nat.testBit (natAt (befGo [] ops.toList) s) y.idx = false ∧ y.id = x) → Priv (matH (Sb listed) pn h) x := by
            rintro x ⟨y, g1, g2, g3, rfl⟩ z ox oz hne hox hoz hsf
            have e1 : ox = y.ob := by
              have h9 : mget y.id (matM (Sb listed) pn h.mem) = some ox := hox
              rw [matM_in _ _ _ k.pid y g1 g2] at h9; exact (Option.some.inj h9).symm
            subst e1
            have h9 : mget z (matM (Sb listed) pn h.mem) = some oz := hoz
            cases hyo : y.ob with
            | cells sz els f ro =>
              have hf := (k.pn2 y g1).2.1 _ _ _ _ hyo
              rw [hyo] at hsf
              cases oz with
              | cells sz' els' f' ro' =>
                have hff : f' = f := hsf
                rcases matM_cases _ _ _ k.pid _ _ h9 with ⟨y2, b1, b2, b3, b4⟩ | ⟨_, b1⟩
                · have := (k.pn2 y2 b1).2.1 _ _ _ _ b4
                  apply hne
                  rw [← b3, ← this, hff, hf]
                · exact (k.pn2 y g1).1 _ _ _ _ _ b1 (hff.trans hf)
              | _ => exact hsf
            | _ => rw [hyo] at hsf; cases oz <;> exact hsf
          have hF' : Fr m ⟨matM (Nat.testBit (natAt (befGo [] ops.toList) s)) pn h.mem, (matH (Sb listed) pn h).fams, (matH (Sb listed) pn h).next⟩ w m' h1 w' := hF
          have hpid1 : (keepP (fun x : PN => !Nat.testBit (natAt (befGo [] ops.toList) s) x.idx) pn).Pairwise (fun x y => x.id ≠ y.id) := keepP_pw _ k.pid
          have hX : ∀ x, (∃ y ∈ pn, Sb listed y.idx = true ∧ Nat.testBit (natAt (befGo [] ops.toList) s) y.idx = false ∧ y.id = x) ↔ ∃ y ∈ keepP (fun x : PN => !Nat.testBit (natAt (befGo [] ops.toList) s) x.idx) pn, Sb (listed.setIfInBounds s true) y.idx = true ∧ y.id = x := by
            intro x
            constructor
            · rintro ⟨y, g1, g2, g3, g4⟩
              exact ⟨y, (keepP_mem _ _ _).2 ⟨g1, by simp [g3]⟩, by rw [hSb]; simp [g2], g4⟩
            · rintro ⟨y, g1, g2, g3⟩
              obtain ⟨g4, g5⟩ := (keepP_mem _ _ _).1 g1
              rw [hSb, decide_eq_false (hnoS y g4), Bool.false_or] at g2
              exact ⟨y, g4, g2, by simpa using g5, g3⟩
          have hFm := Fr.merge (m' := m') (w' := w') (H1 := matH (Sb listed) pn h) k.fr.hr (memb := matM (Nat.testBit (natAt (befGo [] ops.toList) s)) pn h.mem) hs
            (X := fun x => ∃ y ∈ pn, Sb listed y.idx = true ∧ Nat.testBit (natAt (befGo [] ops.toList) s) y.idx = false ∧ y.id = x)
            (by
              intro x ox hx
              rcases matM_cases _ _ _ k.pid _ _ hx with ⟨y, g1, g2, g3, g4⟩ | ⟨_, g1⟩
              · cases hb : Nat.testBit (natAt (befGo [] ops.toList) s) y.idx with
                | false => exact .inl ⟨y, g1, g2, hb, g3⟩
                | true => exact .inr (by rw [← g3, matM_in _ _ _ k.pid y g1 hb, g4])
              · refine .inr ?_
                rw [matM_out]
                · exact g1
                · intro z z1 z2 z3
                  have := (k.pn1 z z1).2.2.2.2
                  rw [z3, g1] at this; cases this)
            hXX hXp hF' (mem2 := matM (Sb (listed.setIfInBounds s true)) (keepP (fun x : PN => !Nat.testBit (natAt (befGo [] ops.toList) s) x.idx) pn) h1.mem)
            (by
              intro x ox
              constructor
              · intro hx
                rcases matM_cases _ _ _ hpid1 _ _ hx with ⟨y, g1, g2, g3, g4⟩ | ⟨g0, g1⟩
                · have hXx := (hX x).2 ⟨y, g1, g2, g3⟩
                  refine .inr ⟨hXx, ?_⟩
                  obtain ⟨g5, g6⟩ := (keepP_mem _ _ _).1 g1
                  rw [hSb, decide_eq_false (hnoS y g5), Bool.false_or] at g2
                  show mget x (matM (Sb listed) pn h.mem) = some ox
                  rw [← g3, matM_in _ _ _ k.pid y g5 g2, g4]
                · refine .inl ⟨?_, g1⟩
                  intro hXx
                  obtain ⟨y, b1, b2, b3⟩ := (hX x).1 hXx
                  exact g0 y b1 b2 b3
              · rintro (⟨g1, g2⟩ | ⟨g1, g2⟩)
                · rw [matM_out]
                  · exact g2
                  · intro y b1 b2 b3; exact g1 ((hX x).2 ⟨y, b1, b2, b3⟩)
                · obtain ⟨y, b1, b2, b3⟩ := (hX x).1 g1
                  rw [← b3, matM_in _ _ _ hpid1 y b1 b2]
                  obtain ⟨g5, g6⟩ := (keepP_mem _ _ _).1 b1
                  rw [hSb, decide_eq_false (hnoS y g5), Bool.false_or] at b2
                  have h9 : mget x (matM (Sb listed) pn h.mem) = some ox := g2
                  rw [← b3, matM_in _ _ _ k.pid y g5 b2] at h9; exact h9)
          have hin : ∀ x ∈ keepP (fun x : PN => !Nat.testBit (natAt (befGo [] ops.toList) s) x.idx) pn, x ∈ pn ∧ Nat.testBit (natAt (befGo [] ops.toList) s) x.idx = false := fun x hx => by
            obtain ⟨g5, g6⟩ := (keepP_mem _ _ _).1 hx
            exact ⟨g5, by simpa using g6⟩
          refine hn _ _ _ _ m' _ w' (inv_heavy hord hreg k ho hdn hbS hF.le hR hrun (k.fr.trans hFm) ?_ ?_ ?_ (keepP_pw _ k.pnd) (fun x hx => (hin x hx).1) hF.nxt ?_ ?_)
          · intro x hx
            rw [keepP_mem]
            simp [hx]
          · intro c hc hcs
            rw [keepP_mem]
            simp [hc, hcs]
          · intro c hc hcs q v1 hq1 hq2
            have := pcAll_mem hck c (by rw [keepP_mem]; simp [hc, hcs])
            rw [hq1] at this
            simp only [eqO] at this
            cases hx : q (hq h1) with
            | none => rw [hx] at this; cases this
            | some v2 => rw [hx] at this; rw [beq_eq this]
          · intro x hx
            obtain ⟨g1, g2⟩ := hin x hx
            cases hxo : mget x.id h1.mem with
            | none => rfl
            | some ob =>
              exfalso
              obtain ⟨lx, hlx, _⟩ := hF.hr.obj _ _ hxo
              have hmx := hF.old _ _ hlx (k.pn1 x g1).2.2.2.1
              have hSx : Sb listed x.idx = true := by
                cases hs : Sb listed x.idx with
                | true => rfl
                | false => rw [(k.pn2 x g1).2.2 hs] at hmx; cases hmx
              have hXx : ∃ y ∈ pn, Sb listed y.idx = true ∧ Nat.testBit (natAt (befGo [] ops.toList) s) y.idx = false ∧ y.id = x.id := ⟨x, g1, hSx, g2, rfl⟩
              obtain ⟨nb, ox, hox⟩ := hXX _ hXx
              rcases hF.back _ _ _ hxo hlx with h1 | ⟨b0, ob0, l0, hb0, hl0, he, _⟩
              · have := k.fr.hr.lt _ _ hmx; omega
              · have hb0' : mget b0 (matM (Nat.testBit (natAt (befGo [] ops.toList) s)) pn h.mem) = some ob0 := hb0
                have hne : b0 ≠ x.id := fun e1 => by rw [e1, nb] at hb0'; cases hb0'
                exact (hXp _ hXx).sep k.fr.hr hox (hs _ _ hb0') hmx hl0 hne he.symm
          · intro x hx
            obtain ⟨g1, g2⟩ := hin x hx
            refine ⟨?_, ?_⟩
            · intro b sz els f ro hb e1
              rcases hF.famold _ _ _ _ _ hb with h1 | ⟨b0, sz0, els0, ro0, hb0⟩
              · have := (k.pn1 x g1).2.2.2.1
                have h1' : h.next.toNat ≤ f.toNat := h1
                rw [e1] at h1'; omega
              · have hb0' : mget b0 (matM (Nat.testBit (natAt (befGo [] ops.toList) s)) pn h.mem) = some (.cells sz0 els0 f ro0) := hb0
                rcases matM_cases _ _ _ k.pid _ _ hb0' with ⟨y, y1, y2, y3, y4⟩ | ⟨_, y1⟩
                · have hf := (k.pn2 y y1).2.1 _ _ _ _ y4
                  have hne : y ≠ x := fun e2 => by subst e2; rw [g2] at y2; cases y2
                  exact (k.inj y1 g1 hne).1 (by rw [← hf, e1])
                · exact (k.pn2 x g1).1 _ _ _ _ _ y1 e1
            · intro hS
              cases hmx : m' x.id with
              | none => rfl
              | some lx =>
                have := hF.old _ _ hmx (k.pn1 x g1).2.2.2.1
                rw [(k.pn2 x g1).2.2 hS] at this; cases this
/-- the plan goes on to the next heavy operation -/
theorem adv_all (hord : ordOk ops.toList (befGo [] ops.toList) = true) (hreg : regOk P n ops = true) : ∀ (l : List Nat) (T : Nat) (e : Env) (h : H) (pn : List PN) (pc : List PC), Inv P n ops base tl call e' h' m0 h0 w0 listed T l e h pn pc m a w → chainE P ops.toList (befGo [] ops.toList) tl l = true →
    ∃ T1 l1 e1 h1 pn1 pc1, Inv P n ops base tl call e' h' m0 h0 w0 listed T1 l1 e1 h1 pn1 pc1 m a w ∧ chainE P ops.toList (befGo [] ops.toList) tl l1 = true ∧ T ||| maskOf l = T1 ||| maskOf l1 ∧ (l1 = [] ∨ ∃ s l2 o, l1 = s :: l2 ∧ ops.toList[s]? = some o ∧ knOf P ops.toList (befGo [] ops.toList) s o = .heavy)
  | [], T, e, h, pn, pc, k, hc => ⟨T, [], e, h, pn, pc, k, hc, rfl, .inl rfl⟩
  | s :: l, T, e, h, pn, pc, k, hc => by
    have hor : T ||| maskOf (s :: l) = (T ||| 2 ^ s) ||| maskOf l := by rw [maskOf, Nat.or_assoc]
    obtain ⟨_, _, ⟨o, ho⟩, _⟩ := plan_cons k.plan
    cases hk : knOf P ops.toList (befGo [] ops.toList) s o with
    | light =>
      obtain ⟨e1, pc1, k1⟩ := adv_light hord hreg k ho hk
      rw [hor]; exact adv_all hord hreg l _ _ _ _ _ k1 (chain_cons hc).2
    | new =>
      obtain ⟨e1, h1, pn1, k1⟩ := adv_new hord hreg k ho hk (fun nv hnv => newP_fam hnv)
      rw [hor]; exact adv_all hord hreg l _ _ _ _ _ k1 (chain_cons hc).2
    | heavy => exact ⟨T, s :: l, e, h, pn, pc, k, hc, rfl, .inr ⟨s, l, o, rfl, ho, hk⟩⟩
end
end Go.Ev
end
section
namespace Go.Ev
open Go
variable {P : Program} {m : Mp} {w : World}

theorem extM1 {n n' : M1} (h : ∀ d, selM1 d n = selM1 d n') : n = n' := by
  cases n; cases n'
  congr 1 <;> first | exact h .d0 | exact h .d1 | exact h .d2 | exact h .d3 | exact h .d4 | exact h .d5 | exact h .d6 | exact h .d7
theorem extM2 {n n' : M2} (h : ∀ d, selM2 d n = selM2 d n') : n = n' := by
  cases n; cases n'
  congr 1 <;> first | exact h .d0 | exact h .d1 | exact h .d2 | exact h .d3 | exact h .d4 | exact h .d5 | exact h .d6 | exact h .d7
theorem extM3 {n n' : M3} (h : ∀ d, selM3 d n = selM3 d n') : n = n' := by
  cases n; cases n'
  congr 1 <;> first | exact h .d0 | exact h .d1 | exact h .d2 | exact h .d3 | exact h .d4 | exact h .d5 | exact h .d6 | exact h .d7
theorem extM4 {n n' : M4} (h : ∀ d, selM4 d n = selM4 d n') : n = n' := by
  cases n; cases n'
  congr 1 <;> first | exact h .d0 | exact h .d1 | exact h .d2 | exact h .d3 | exact h .d4 | exact h .d5 | exact h .d6 | exact h .d7
theorem extM5 {n n' : Mem} (h : ∀ d, selM5 d n = selM5 d n') : n = n' := by
  cases n; cases n'
  congr 1 <;> first | exact h .d0 | exact h .d1 | exact h .d2 | exact h .d3 | exact h .d4 | exact h .d5 | exact h .d6 | exact h .d7
theorem mem_ext {x y : Mem} (h : ∀ i, mget i x = mget i y) : x = y :=
  extM5 fun a => extM4 fun b => extM3 fun c => extM2 fun d => extM1 fun e => h ⟨a, b, c, d, e⟩
theorem extF1 {n n' : F1} (h : ∀ d, selF1 d n = selF1 d n') : n = n' := by
  cases n; cases n'
  congr 1 <;> first | exact h .d0 | exact h .d1 | exact h .d2 | exact h .d3 | exact h .d4 | exact h .d5 | exact h .d6 | exact h .d7
theorem extF2 {n n' : F2} (h : ∀ d, selF2 d n = selF2 d n') : n = n' := by
  cases n; cases n'
  congr 1 <;> first | exact h .d0 | exact h .d1 | exact h .d2 | exact h .d3 | exact h .d4 | exact h .d5 | exact h .d6 | exact h .d7
theorem extF3 {n n' : F3} (h : ∀ d, selF3 d n = selF3 d n') : n = n' := by
  cases n; cases n'
  congr 1 <;> first | exact h .d0 | exact h .d1 | exact h .d2 | exact h .d3 | exact h .d4 | exact h .d5 | exact h .d6 | exact h .d7
theorem extF4 {n n' : F4} (h : ∀ d, selF4 d n = selF4 d n') : n = n' := by
  cases n; cases n'
  congr 1 <;> first | exact h .d0 | exact h .d1 | exact h .d2 | exact h .d3 | exact h .d4 | exact h .d5 | exact h .d6 | exact h .d7
theorem extF5 {n n' : Fam} (h : ∀ d, selF5 d n = selF5 d n') : n = n' := by
  cases n; cases n'
  congr 1 <;> first | exact h .d0 | exact h .d1 | exact h .d2 | exact h .d3 | exact h .d4 | exact h .d5 | exact h .d6 | exact h .d7
theorem fam_ext {x y : Fam} (h : ∀ i, fget i x = fget i y) : x = y :=
  extF5 fun a => extF4 fun b => extF3 fun c => extF2 fun d => extF1 fun e => h ⟨a, b, c, d, e⟩

theorem wr_inv {h h' : H} {b : Id} {o k : Nat} {xs : List V} {v : V} (hw : wr h b o xs k = .ok v h') : ∃ sz els f els' ty, mget b h.mem = some (.cells sz els f (.rw ty)) ∧
    (∀ h2 : H, mget b h2.mem = mget b h.mem → wr h2 b o xs k = .ok undefV (setO (loneH h2 f b) b (.cells sz els' f (.rw ty)))) := by
  unfold wr at hw
  cases hm : mget b h.mem with
  | none => rw [hm] at hw; cases hw
  | some ob =>
    rw [hm] at hw
    cases ob with
    | cells sz els f ro =>
      simp only [wrO] at hw
      cases ro with
      | fz => cases hw
      | fr _ => cases hw
      | rw ty =>
        simp only at hw
        cases he : nthL els (Nat.div o sz) with
        | none => rw [he] at hw; cases hw
        | some el =>
          rw [he] at hw
          simp only at hw
          generalize hx : (Bool.rec (motive := fun _ => Option (List V)) (overAt (Nat.mod o sz) el xs) (some xs) (Nat.beq (Nat.mod o sz) 0 && Nat.beq k sz) : Option (List V)) = x at hw
          cases x with
          | none => cases hw
          | some el' =>
            refine ⟨sz, els, f, setL els (Nat.div o sz) el', ty, rfl, ?_⟩
            intro h2 h2m
            unfold wr
            rw [h2m]
            simp only [wrO, he, hx]
    | _ => cases hw
theorem isStore_spec {ops : List Oper} {s : Nat} (h : isStore ops s = true) : ∃ o t x y, ops[s]? = some o ∧ o.op = .store t x y ∧ o.dst = none ∧ o.guard = none := by
  unfold isStore at h
  rw [nthO_eq] at h
  cases ho : ops[s]? with
  | none => rw [ho] at h; cases h
  | some o =>
    rw [ho] at h
    simp only at h
    split at h
    · rename_i t x y h1 h2 h3
      exact ⟨o, t, x, y, rfl, h1, h2, h3⟩
    · cases h
theorem isStore_kn {ops : List Oper} {bef : List Nat} {s : Nat} {o : Oper} {t : TypeId} {x y : Operand} (h1 : o.op = .store t x y) (h2 : o.dst = none) : knOf P ops bef s o = .heavy := by
  simp [knOf, isLate, h1, h2, isNew, isHeavy]
theorem store_hv {t : TypeId} {x y : Operand} {call : CallT} {e : Env} {h h' : H} {v : V} (hv : hvC P (.store t x y) call e h = .ok v h') :
    ∃ b o c nn, (opnd x).run e = .p b o ∧ wr h b o c nn = .ok v h' ∧ ∀ h2, hvC P (.store t x y) call e h2 = wr h2 b o c nn := by
  have hH : isHeavy P (.store t x y) = true := rfl
  unfold hvC at hv ⊢
  simp only [hH, cond_true, heavyC] at hv ⊢
  cases hs : sizeT P t with
  | none => rw [hs] at hv; cases hv
  | some nn =>
    simp only [hs] at hv ⊢
    obtain ⟨b, o, e1, hv⟩ := as_p_H_ok hv
    cases hc : cellsQ ((opnd y).run e) with
    | none => simp only [hc] at hv; cases hv
    | some c =>
      simp only [hc] at hv ⊢
      cases hn : Nat.beq (lenV1 c) nn with
      | false => rw [hn] at hv; cases hv
      | true =>
        rw [hn] at hv
        refine ⟨b, o, c, nn, e1, hv, fun h2 => ?_⟩
        rw [e1]; rfl
def StoreIs (P : Program) (ops : List Oper) (s : Nat) (e : Env) (call : CallT) (b : Id) (o : Nat) (c : List V) (nn : Nat) : Prop :=
  storeAt ops s e = some b ∧ ∀ base bef l h e' h' pc, (drawE P base ops bef (s :: l)).run call e h [] pc = .ok e' h' → ∃ v h1 pc', wr h b o c nn = .ok v h1 ∧ (drawE P base ops bef l).run call e h1 [] pc' = .ok e' h'
theorem draw_store {base : DOp2} {ops : List Oper} {bef : List Nat} {s : Nat} {l : List Nat} {call : CallT} {e e' : Env} {h h' : H} {pc : List PC} (hst : isStore ops s = true)
    (hv : (drawE P base ops bef (s :: l)).run call e h [] pc = .ok e' h') : ∃ b o c nn, StoreIs P ops s e call b o c nn := by
  obtain ⟨op, t, x, y, ho, h1, h2, h3⟩ := isStore_spec hst
  have key : ∀ base bef l h2' e2 h3' pc2, (drawE P base ops bef (s :: l)).run call e h2' [] pc2 = .ok e2 h3' → ∃ v h4 pc3, hvC P (.store t x y) call (envM e (looksE ops op)) h2' = .ok v h4 ∧ (drawE P base ops bef l).run call e h4 [] pc3 = .ok e2 h3' := by
    intro base bef l h2' e2 h3' pc2 hr
    have hkn := isStore_kn (P := P) (ops := ops) (bef := bef) (s := s) h1 h2
    rw [drawE] at hr
    simp only [nthO_eq, ho, hkn] at hr
    have hgd : gdC ops op (envM e (looksE ops op)) = some true := by simp [gdC, h3]
    rw [hgd] at hr
    simp only at hr
    have hmt : matH (Nat.testBit (natAt bef s)) [] h2' = h2' := by cases h2'; rfl
    rw [hmt, h1] at hr
    cases hc : hvC P (.store t x y) call (envM e (looksE ops op)) h2' with
    | bad => rw [hc] at hr; cases hr
    | ok v h4 =>
      rw [hc] at hr
      simp only at hr
      cases hck : pcAll (hq h4) (keepP (fun c => !Nat.testBit (natAt bef s) c.idx) pc2) with
      | false => rw [hck] at hr; cases hr
      | true =>
        rw [hck] at hr
        simp only [cond_true, h2, setD, keepP] at hr
        exact ⟨v, h4, _, rfl, hr⟩
  obtain ⟨v, h4, pc3, a1, a2⟩ := key _ _ _ _ _ _ _ hv
  obtain ⟨b, o, c, nn, b1, b2, b3⟩ := store_hv a1
  refine ⟨b, o, c, nn, ?_, ?_⟩
  · unfold storeAt
    rw [nthO_eq, ho]
    simp only [h1, b1]
  · intro base bef l h2' e2 h3' pc2 hr
    obtain ⟨v', h4', pc3', c1, c2⟩ := key _ _ _ _ _ _ _ hr
    exact ⟨v', h4', pc3', by rw [← b3]; exact c1, c2⟩
theorem memI_iff (b : Id) : ∀ l : List Id, memI b l = true ↔ b ∈ l
  | [] => by simp [memI]
  | a :: l => by
    rw [memI]
    cases h : Id.beq a b with
    | true => have := Id.beq_iff.1 h; simp [this]
    | false =>
      have : a ≠ b := fun e => by rw [Id.beq_iff.2 e] at h; cases h
      simp [memI_iff b l, Ne.symm this]
/-- two stores into blocks of two families come to the same in either order -/
theorem wr_comm {h : H} {b1 b2 f1 f2 : Id} {sz1 sz2 : Nat} {els1 els2 : List (List V)} {X1 X2 : O} (hb : b1 ≠ b2) (hf : f1 ≠ f2) (h12 : b2 ∉ fget f1 h.fams) (h21 : b1 ∉ fget f2 h.fams) :
    setO (loneH (setO (loneH h f1 b1) b1 X1) f2 b2) b2 X2 = setO (loneH (setO (loneH h f2 b2) b2 X2) f1 b1) b1 X1 := by
  obtain ⟨mem, fams, next⟩ := h
  simp only [setO_eq, loneH_eq] at *
  have g2 : fget f2 (if fget f1 fams = [] then fams else fput f1 [] fams) = fget f2 fams := by
    split
    · rfl
    · rw [fget_fput_ne (Ne.symm hf)]
  have g1 : fget f1 (if fget f2 fams = [] then fams else fput f2 [] fams) = fget f1 fams := by
    split
    · rfl
    · rw [fget_fput_ne hf]
  rw [g1, g2]
  have e1 : (mput b2 (some X2) (killM (others b2 (fget f2 fams)) (mput b1 (some X1) (killM (others b1 (fget f1 fams)) mem)))) = (mput b1 (some X1) (killM (others b1 (fget f1 fams)) (mput b2 (some X2) (killM (others b2 (fget f2 fams)) mem)))) := by
    refine mem_ext fun x => ?_
    by_cases x1 : x = b1
    · subst x1
      rw [mget_mput, mget_mput_ne hb, mget_killM, mget_mput]
      simp [others_mem, h21]
    · by_cases x2 : x = b2
      · subst x2
        rw [mget_mput, mget_mput_ne x1, mget_killM, mget_mput]
        simp [others_mem, h12]
      · rw [mget_mput_ne x2, mget_killM, mget_mput_ne x1, mget_killM, mget_mput_ne x1, mget_killM, mget_mput_ne x2, mget_killM]
        split <;> split <;> rfl
  have e2 : (if fget f2 fams = [] then (if fget f1 fams = [] then fams else fput f1 [] fams) else fput f2 [] (if fget f1 fams = [] then fams else fput f1 [] fams)) = (if fget f1 fams = [] then (if fget f2 fams = [] then fams else fput f2 [] fams) else fput f1 [] (if fget f2 fams = [] then fams else fput f2 [] fams)) := by
    refine fam_ext fun x => ?_
    by_cases x1 : x = f1
    · subst x1
      split <;> split <;> simp [fget_fput, fget_fput_ne hf, *]
    · by_cases x2 : x = f2
      · subst x2
        split <;> split <;> simp [fget_fput, fget_fput_ne x1, *]
      · split <;> split <;> simp [fget_fput_ne x1, fget_fput_ne x2, *]
  rw [e1, e2]
theorem beqLL_eq : ∀ {a b : List (List V)}, beqLL a b = true → a = b
  | [], [], _ => rfl
  | [], _ :: _, h => by simp [beqLL] at h
  | _ :: _, [], h => by simp [beqLL] at h
  | a :: l, b :: r, h => by
    simp only [beqLL, Bool.and_eq_true] at h
    rw [beqs_eq h.1, beqLL_eq h.2]
/-- two stores into one block: what is left beside the block's cells is the same -/
theorem wr_twice {h : H} {b f : Id} {X Y : O} :
    setO (loneH (setO (loneH h f b) b X) f b) b Y = setO (loneH h f b) b Y := by
  obtain ⟨mem, fams, next⟩ := h
  simp only [setO_eq, loneH_eq]
  have g1 : fget f (if fget f fams = [] then fams else fput f [] fams) = [] := by
    split
    · assumption
    · rw [fget_fput]
  rw [g1]
  congr 1
  · refine mem_ext fun x => ?_
    by_cases x1 : x = b
    · subst x1; rw [mget_mput, mget_mput]
    · rw [mget_mput_ne x1, mget_mput_ne x1, mget_killM, mget_mput_ne x1]
      simp [others]
theorem pair_eq {ops : List Oper} {bef : List Nat} {s1 s2 : Nat} {call : CallT} {e e' : Env} {h h' : H} {pn : List PN} {pc : List PC} (i1 : isStore ops s1 = true) (i2 : isStore ops s2 = true)
    (hv : (pairE P ops bef s1 s2).run call e h pn pc = .ok e' h') : (drawE P finE ops bef [s1, s2]).run call e h pn pc = .ok e' h' ∧ (drawE P finE ops bef [s2, s1]).run call e h pn pc = .ok e' h' := by
  unfold pairE at hv
  simp only at hv
  split at hv
  · rename_i e1 h1 e2 h2 r12 r21
    cases hp : pairOk ops s1 s2 e h pn with
    | false =>
      rw [hp] at hv
      simp only [cond_false] at hv
      cases hq : sameOk ops s1 s2 e h1 h2 pn with
      | false => rw [hq] at hv; cases hv
      | true =>
        rw [hq] at hv
        simp only [cond_true] at hv
        cases hv
        refine ⟨r12, ?_⟩
        rw [r21]
        unfold sameOk at hq
        split at hq
        · rename_i b1 b2 q1 q2
          simp only [Bool.and_eq_true] at hq
          obtain ⟨hq1, hq2⟩ := hq
          have hb := Id.beq_iff.1 hq1
          subst hb
          obtain ⟨c1, o1, xs1, n1, a1, A1⟩ := draw_store i1 r12
          obtain ⟨c2, o2, xs2, n2, a2, A2⟩ := draw_store i2 r21
          rw [q1] at a1; cases a1
          rw [q2] at a2; cases a2
          obtain ⟨v1, k1, pc1, w1, r1⟩ := A1 _ _ _ _ _ _ _ r12
          obtain ⟨v2, k2, pc2, w2, r2⟩ := A2 _ _ _ _ _ _ _ r21
          obtain ⟨v12, k12, pc12, w12, r12'⟩ := A2 _ _ _ _ _ _ _ r1
          obtain ⟨v21, k21, pc21, w21, r21'⟩ := A1 _ _ _ _ _ _ _ r2
          have hm12 : matH (fun _ => true) [] k12 = k12 := by cases k12; rfl
          have hm21 : matH (fun _ => true) [] k21 = k21 := by cases k21; rfl
          simp only [drawE, finE, hm12] at r12'
          simp only [drawE, finE, hm21] at r21'
          injection r12' with x1 x2
          injection r21' with x3 x4
          rw [← x2, ← x4] at hq2
          rw [← x1, ← x2, ← x3, ← x4]
          obtain ⟨sz1, els1, f1, el1, ty1, g1, G1⟩ := wr_inv w1
          obtain ⟨sz2, els2, f2, el2, ty2, g2, G2⟩ := wr_inv w2
          rw [g1] at g2
          cases g2
          have y1 := G1 h rfl
          have y2 := G2 h rfl
          rw [w1] at y1
          rw [w2] at y2
          injection y1 with _ y1
          injection y2 with _ y2
          have m1 : mget b1 k1.mem = some (.cells sz1 el1 f1 (.rw ty1)) := by
            rw [y1, setO_eq]; exact mget_mput _ _ _
          have m2 : mget b1 k2.mem = some (.cells sz1 el2 f1 (.rw ty1)) := by
            rw [y2, setO_eq]; exact mget_mput _ _ _
          obtain ⟨sz3, els3, f3, el3, ty3, g3, G3⟩ := wr_inv w12
          obtain ⟨sz4, els4, f4, el4, ty4, g4, G4⟩ := wr_inv w21
          rw [m1] at g3; cases g3
          rw [m2] at g4; cases g4
          have z12 := G3 k1 rfl
          have z21 := G4 k2 rfl
          rw [w12] at z12
          rw [w21] at z21
          injection z12 with _ z12
          injection z21 with _ z21
          have p1 : mget b1 k12.mem = some (.cells sz1 el3 f1 (.rw ty1)) := by
            rw [z12, setO_eq]; exact mget_mput _ _ _
          have p2 : mget b1 k21.mem = some (.cells sz1 el4 f1 (.rw ty1)) := by
            rw [z21, setO_eq]; exact mget_mput _ _ _
          rw [p1, p2] at hq2
          simp only at hq2
          have hel := beqLL_eq hq2
          rw [z12, z21, y1, y2, hel, wr_twice, wr_twice]
        · cases hq
    | true =>
      rw [hp] at hv
      simp only [cond_true] at hv
      cases hv
      refine ⟨r12, ?_⟩
      rw [r21]
      unfold pairOk at hp
      split at hp
      · rename_i b1 b2 q1 q2
        obtain ⟨c1, o1, xs1, n1, a1, A1⟩ := draw_store i1 r12
        obtain ⟨c2, o2, xs2, n2, a2, A2⟩ := draw_store i2 r21
        rw [q1] at a1; cases a1
        rw [q2] at a2; cases a2
        obtain ⟨v1, k1, pc1, w1, r1⟩ := A1 _ _ _ _ _ _ _ r12
        obtain ⟨v2, k2, pc2, w2, r2⟩ := A2 _ _ _ _ _ _ _ r21
        obtain ⟨v12, k12, pc12, w12, r12'⟩ := A2 _ _ _ _ _ _ _ r1
        obtain ⟨v21, k21, pc21, w21, r21'⟩ := A1 _ _ _ _ _ _ _ r2
        have hm12 : matH (fun _ => true) [] k12 = k12 := by cases k12; rfl
        have hm21 : matH (fun _ => true) [] k21 = k21 := by cases k21; rfl
        simp only [drawE, finE, hm12] at r12'
        simp only [drawE, finE, hm21] at r21'
        injection r12' with x1 x2
        injection r21' with x3 x4
        rw [← x1, ← x2, ← x3, ← x4]
        obtain ⟨sz1, els1, f1, el1, ty1, g1, G1⟩ := wr_inv w1
        obtain ⟨sz2, els2, f2, el2, ty2, g2, G2⟩ := wr_inv w2
        rw [g1, g2] at hp
        simp only [Bool.and_eq_true, Bool.not_eq_true'] at hp
        obtain ⟨p1, p2, p3, p4⟩ := hp
        have hf : f1 ≠ f2 := fun e1 => by rw [Id.beq_iff.2 e1] at p1; cases p1
        have hb : b1 ≠ b2 := fun e1 => by rw [Id.beq_iff.2 e1] at p2; cases p2
        have hn12 : b2 ∉ fget f1 h.fams := fun hx => by rw [(memI_iff _ _).2 hx] at p3; cases p3
        have hn21 : b1 ∉ fget f2 h.fams := fun hx => by rw [(memI_iff _ _).2 hx] at p4; cases p4
        have y1 := G1 h rfl
        have y2 := G2 h rfl
        rw [w1] at y1
        rw [w2] at y2
        injection y1 with _ y1
        injection y2 with _ y2
        have m1 : mget b2 k1.mem = mget b2 h.mem := by
          rw [y1, setO_eq, loneH_eq]
          show mget b2 (mput b1 _ (killM _ _)) = _
          rw [mget_mput_ne (Ne.symm hb), mget_killM]
          simp [others_mem, hn12]
        have m2 : mget b1 k2.mem = mget b1 h.mem := by
          rw [y2, setO_eq, loneH_eq]
          show mget b1 (mput b2 _ (killM _ _)) = _
          rw [mget_mput_ne hb, mget_killM]
          simp [others_mem, hn21]
        have z12 := G2 k1 m1
        have z21 := G1 k2 m2
        rw [w12] at z12
        rw [w21] at z21
        injection z12 with _ z12
        injection z21 with _ z21
        rw [z12, z21, y1, y2]
        congr 1
        exact (wr_comm (sz1 := 0) (sz2 := 0) (els1 := []) (els2 := []) hb hf hn12 hn21).symm
      · cases hp
  · cases hv
end Go.Ev
end
section
namespace Go.Ev
open Go
variable {P : Program} {n : Nat} {ops : Array Oper} {call : CallT} {e' : Env} {h' : H} {m0 : Mp} {h0 : H} {w0 : World}

theorem ready_nil (hok : afterOk ops.toList = true) {listed : Array Bool} (hsz : listed.size = ops.size) (h : Region.ready .any ops listed = []) : ∀ i, i < ops.size → Sb listed i = true := by
  intro i
  induction i using Nat.strongRecOn with
  | _ i ih =>
    intro hi
    cases hS : Sb listed i with
    | true => rfl
    | false =>
      exfalso
      have ho : ops[i]? = some ops[i] := by simp [hi]
      have ho' : ops.toList[i]? = some ops[i] := by simpa using ho
      have : i ∈ Region.ready .any ops listed := by
        refine mem_ready.2 ⟨?_, ops[i], ho, ?_⟩
        · unfold Sb at hS
          have : i < listed.size := by omega
          simp [Array.getD, this] at hS ⊢; exact hS
        · intro x hx hb
          rw [binds_any] at hb
          have hk := List.all_eq_true.1 (zipI_all hok ho') x (by simpa using hx)
          simp only [hb, Bool.not_true, Bool.false_or] at hk
          have hlt : x.on < i := Nat.le_of_ble_eq_true hk
          exact ih x.on hlt (by omega)
      rw [h] at this; cases this
theorem idx_lt {s : Nat} {o : Oper} (ho : ops.toList[s]? = some o) : s < ops.size := by
  have : s < ops.toList.length := (List.getElem?_eq_some_iff.1 ho).1
  simpa using this
/-- the plan goes on -/
def StA (P : Program) (n : Nat) (ops : Array Oper) (call : CallT) (e' : Env) (h' : H) (m0 : Mp) (h0 : H) (w0 : World) (listed : Array Bool) (m : Mp) (a : Act) (w : World) : Prop :=
  ∃ tl M T l e h pn pc, tlOk ops.toList (befGo [] ops.toList) tl = true ∧ tlPlan ops.toList (befGo [] ops.toList) M tl = true ∧
    Inv P n ops (baseE P ops.toList (befGo [] ops.toList) tl) tl call e' h' m0 h0 w0 listed T l e h pn pc m a w ∧ chainE P ops.toList (befGo [] ops.toList) tl l = true ∧ T ||| maskOf l = M
/-- two stores in either order are left of the plan -/
def StB (P : Program) (n : Nat) (ops : Array Oper) (call : CallT) (e' : Env) (h' : H) (m0 : Mp) (h0 : H) (w0 : World) (listed : Array Bool) (m : Mp) (a : Act) (w : World) : Prop :=
  ∃ s1 s2 T e h pn pc, isStore ops.toList s1 = true ∧ isStore ops.toList s2 = true ∧
    Inv P n ops finE [] call e' h' m0 h0 w0 listed T [s1, s2] e h pn pc m a w ∧ Inv P n ops finE [] call e' h' m0 h0 w0 listed T [s2, s1] e h pn pc m a w
theorem StA.norm (hord : ordOk ops.toList (befGo [] ops.toList) = true) (hreg : regOk P n ops = true) {listed : Array Bool} {m : Mp} {a : Act} {w : World} (k : StA P n ops call e' h' m0 h0 w0 listed m a w) :
    (∃ T e h pn pc, Inv P n ops finE [] call e' h' m0 h0 w0 listed T [] e h pn pc m a w) ∨
    (∃ tl M T s l o e h pn pc, tlOk ops.toList (befGo [] ops.toList) tl = true ∧ tlPlan ops.toList (befGo [] ops.toList) M tl = true ∧ ops.toList[s]? = some o ∧ knOf P ops.toList (befGo [] ops.toList) s o = .heavy ∧
      Inv P n ops (baseE P ops.toList (befGo [] ops.toList) tl) tl call e' h' m0 h0 w0 listed T (s :: l) e h pn pc m a w ∧ chainE P ops.toList (befGo [] ops.toList) tl (s :: l) = true ∧ T ||| maskOf (s :: l) = M) ∨
    StB P n ops call e' h' m0 h0 w0 listed m a w := by
  obtain ⟨tl, M, T, l, e, h, pn, pc, k1, k2, k3, k4, k5⟩ := k
  obtain ⟨T1, l1, e1, h1, pn1, pc1, q1, q2, q3, q4⟩ := adv_all hord hreg l T e h pn pc k3 k4
  rcases q4 with rfl | ⟨s, l2, o, rfl, ho, hk⟩
  · match tl, k1, k2, q1, q2 with
    | [], _, _, q1, _ => exact .inl ⟨T1, e1, h1, pn1, pc1, q1⟩
    | [s1, s2], k1, k2, q1, _ =>
      refine .inr (.inr ?_)
      simp only [tlOk, Bool.and_eq_true] at k1
      simp only [tlPlan, Bool.and_eq_true] at k2
      have hT : T1 = M := by rw [← k5, q3]; simp [maskOf]
      subst hT
      have hrun := q1.run
      simp only [drawE, baseE] at hrun
      obtain ⟨r1, r2⟩ := pair_eq k1.1 k1.2.1 hrun
      exact ⟨s1, s2, T1, e1, h1, pn1, pc1, k1.1, k1.2.1, ⟨q1.toCore, k2.1, r1⟩, ⟨q1.toCore, k2.2, r2⟩⟩
    | [_], k1, _, _, _ => simp [tlOk] at k1
    | _ :: _ :: _ :: _, k1, _, _, _ => simp [tlOk] at k1
  · exact .inr (.inl ⟨tl, M, T1, s, l2, o, e1, h1, pn1, pc1, k1, k2, ho, hk, q1, q2, by rw [← q3]; exact k5⟩)
theorem draw_main (hcall : CallOK P call) (hok : afterOk ops.toList = true) (hord : ordOk ops.toList (befGo [] ops.toList) = true) (hreg : regOk P n ops = true) {Q : Exit → Act → World → Prop}
    (hn : ∀ m' a' w', Fr m0 h0 w0 m' h' w' → EnvR m' n e' a' → Q .normal a' w') :
    ∀ (fuel : Nat) (listed : Array Bool) (m : Mp) (a : Act) (w : World),
      StA P n ops call e' h' m0 h0 w0 listed m a w ∨ StB P n ops call e' h' m0 h0 w0 listed m a w → listed.toList.countP (fun b => !b) ≤ fuel → wpAny P .any ops Q fuel listed a w := by
  have hnorm : ∀ (listed : Array Bool) (m : Mp) (a : Act) (w : World), StA P n ops call e' h' m0 h0 w0 listed m a w ∨ StB P n ops call e' h' m0 h0 w0 listed m a w →
    (∃ T e h pn pc, Inv P n ops finE [] call e' h' m0 h0 w0 listed T [] e h pn pc m a w) ∨
    (∃ tl M T s l o e h pn pc, tlOk ops.toList (befGo [] ops.toList) tl = true ∧ tlPlan ops.toList (befGo [] ops.toList) M tl = true ∧ ops.toList[s]? = some o ∧ knOf P ops.toList (befGo [] ops.toList) s o = .heavy ∧
      Inv P n ops (baseE P ops.toList (befGo [] ops.toList) tl) tl call e' h' m0 h0 w0 listed T (s :: l) e h pn pc m a w ∧ chainE P ops.toList (befGo [] ops.toList) tl (s :: l) = true ∧ T ||| maskOf (s :: l) = M) ∨
    StB P n ops call e' h' m0 h0 w0 listed m a w := by
    rintro listed m a w (k | k)
    · exact k.norm hord hreg
    · exact .inr (.inr k)
  -- a plan that goes on is not at its end
  have notyet : ∀ (base : DOp2) (tl : List Nat) (listed : Array Bool) (T s : Nat) (l : List Nat) (e : Env) (h : H) (pn : List PN) (pc : List PC) (m : Mp) (a : Act) (w : World),
      Inv P n ops base tl call e' h' m0 h0 w0 listed T (s :: l) e h pn pc m a w → Region.ready .any ops listed = [] → False := by
    intro base tl listed T s l e h pn pc m a w k hr
    have hall := ready_nil hok k.lsz hr
    obtain ⟨hsT, _, ⟨o, ho⟩, _⟩ := plan_cons k.plan
    rw [k.sT s (hall s (idx_lt ho))] at hsT; cases hsT
  -- at the end
  have fin : ∀ (listed : Array Bool) (m : Mp) (a : Act) (w : World), StA P n ops call e' h' m0 h0 w0 listed m a w ∨ StB P n ops call e' h' m0 h0 w0 listed m a w → Region.ready .any ops listed = [] → Q .normal a w := by
    intro listed m a w k hr
    rcases hnorm listed m a w k with ⟨T, e, h, pn, pc, k⟩ | ⟨tl, M, T, s, l, o, e, h, pn, pc, _, _, _, _, k, _⟩ | ⟨s1, s2, T, e, h, pn, pc, _, _, k, _⟩
    · have hall := ready_nil hok k.lsz hr
      have hrun := k.run
      simp only [drawE, finE] at hrun
      have hmat : matH (fun _ => true) pn h = matH (Sb listed) pn h := by
        unfold matH
        rw [matM_congr h.mem pn (fun x hx => ?_)]
        obtain ⟨_, ⟨o, ho⟩, _⟩ := k.pn1 x hx
        rw [hall _ (idx_lt ho)]
      simp only [hmat] at hrun
      have hh : e = e' ∧ matH (Sb listed) pn h = h' := by
        injection hrun with h1 h2; exact ⟨h1, h2⟩
      obtain ⟨rfl, rfl⟩ := hh
      refine hn m a w k.fr ⟨k.size, k.le, fun t ht => ?_, k.dfr⟩
      rcases k.env t ht with ⟨x, ox, _, hS, hx, _⟩ | h1
      · rw [hall x (idx_lt hx)] at hS; cases hS
      · exact h1
    · exact (notyet _ _ _ _ _ _ _ _ _ _ _ _ _ k hr).elim
    · exact (notyet _ _ _ _ _ _ _ _ _ _ _ _ _ k hr).elim
  have core : ∀ (listed : Array Bool) (m : Mp) (a : Act) (w : World), StA P n ops call e' h' m0 h0 w0 listed m a w ∨ StB P n ops call e' h' m0 h0 w0 listed m a w → listed.size = ops.size := by
    rintro listed m a w (⟨tl, M, T, l, e, h, pn, pc, _, _, k, _⟩ | ⟨s1, s2, T, e, h, pn, pc, _, _, k, _⟩) <;> exact k.lsz
  intro fuel
  induction fuel with
  | zero =>
    intro listed m a w k hc
    have hsz := core _ _ _ _ k
    have hr : Region.ready .any ops listed = [] := by
      cases hx : Region.ready .any ops listed with
      | nil => rfl
      | cons i r =>
        exfalso
        have hi : i ∈ Region.ready .any ops listed := by rw [hx]; simp
        obtain ⟨h1, o, ho, _⟩ := mem_ready.1 hi
        have hlt : i < listed.size := by rw [hsz]; exact (Array.getElem?_eq_some_iff.1 ho).1
        have hm : listed[i] = false := by simpa [Array.getD, hlt] using h1
        have : 0 < listed.toList.countP (fun b => !b) := List.countP_pos_iff.2 ⟨false, by rw [← hm]; simp, rfl⟩
        omega
    exact ⟨hr, fin _ _ _ _ k hr⟩
  | succ fuel ih =>
    intro listed m a w k0 hc
    have hsz := core _ _ _ _ k0
    refine ⟨fin _ _ _ _ k0, ?_⟩
    intro i hi
    obtain ⟨h1, o, ho', hready⟩ := mem_ready.1 hi
    have ho : ops.toList[i]? = some o := by simpa using ho'
    have hlt : i < listed.size := by rw [hsz]; exact (Array.getElem?_eq_some_iff.1 ho').1
    have hm : listed[i] = false := by simpa [Array.getD, hlt] using h1
    have hS : Sb listed i = false := by simp [Sb, hlt, hm]
    have hdn : ∀ x ∈ o.after.toList, bindsE x = true → Sb listed x.on = true := fun x hx hb => hready x (by simpa using hx) (by rw [binds_any]; exact hb)
    have hcnt : (listed.setIfInBounds i true).toList.countP (fun b => !b) ≤ fuel := by
      rw [Array.toList_setIfInBounds]
      have hlt' : i < listed.toList.length := by simpa using hlt
      rw [List.countP_set hlt']
      have : (listed.toList[i]) = false := by simpa using hm
      rw [this]
      simp only [Bool.not_false, Bool.not_true, if_true, Bool.false_eq_true, if_false]
      have hpos : 0 < listed.toList.countP (fun b => !b) := List.countP_pos_iff.2 ⟨false, by rw [← hm]; simp, rfl⟩
      omega
    -- an operation that the plan has passed
    have passed : ∀ (T : Nat) (e : Env) (h : H) (pn : List PN) (pc : List PC), Core P n ops m0 h0 w0 listed T e h pn pc m a w → Nat.testBit T i = true →
        (∀ m' a' w', Core P n ops m0 h0 w0 (listed.setIfInBounds i true) T e h pn pc m' a' w' → StA P n ops call e' h' m0 h0 w0 (listed.setIfInBounds i true) m' a' w' ∨ StB P n ops call e' h' m0 h0 w0 (listed.setIfInBounds i true) m' a' w') →
        wpOp P ops Q i (wpAny P .any ops Q fuel (listed.setIfInBounds i true)) a w := by
      intro T e h pn pc k hT hnext
      have hbS : ∀ x, Nat.testBit (natAt (befGo [] ops.toList) i) x = true → Sb listed x = true := fun x hx => bef_ready hok (S := fun j => Sb listed j = true) k.down ho hdn hx
      have hp := k.pend i o ho hT hS
      cases hk : knOf P ops.toList (befGo [] ops.toList) i o with
      | light => exact step_light hreg k ho hT hS hdn hbS hk (fun m' a' w' k' => ih _ _ _ _ (hnext m' a' w' k') hcnt)
      | new => exact step_new hreg k ho hT hS hdn hbS hk (fun m' a' w' k' => ih _ _ _ _ (hnext m' a' w' k') hcnt)
      | heavy => rw [hk] at hp; exact hp.elim
    rcases hnorm listed m a w k0 with ⟨T, e, h, pn, pc, k⟩ | ⟨tl, M, T, s, l, os, e, h, pn, pc, t1, t2, hos, hk, k, hch, hM⟩ | ⟨s1, s2, T, e, h, pn, pc, i1, i2, k12, k21⟩
    · cases hT : Nat.testBit T i with
      | true => exact passed T e h pn pc k.toCore hT (fun m' a' w' k' => .inl ⟨[], T ||| maskOf [], T, [], e, h, pn, pc, rfl, rfl, ⟨k', k.plan, k.run⟩, rfl, rfl⟩)
      | false =>
        rcases plan_mem [] T k.plan i o ho hT with h1 | h1 <;> cases h1
    · have hbS : ∀ x, Nat.testBit (natAt (befGo [] ops.toList) i) x = true → Sb listed x = true := fun x hx => bef_ready hok (S := fun j => Sb listed j = true) k.down ho hdn hx
      cases hT : Nat.testBit T i with
      | true => exact passed T e h pn pc k.toCore hT (fun m' a' w' k' => .inl ⟨tl, M, T, s :: l, e, h, pn, pc, t1, t2, ⟨k', k.plan, k.run⟩, hch, hM⟩)
      | false =>
        obtain ⟨hsT, _, _, _⟩ := plan_cons k.plan
        obtain ⟨hw, hch'⟩ := chain_cons hch
        obtain ⟨w1, w2⟩ := hw os hos hk
        have bad : Nat.testBit (natAt (befGo [] ops.toList) i) s = true → False := fun hb => by
          have := k.sT s (hbS s hb)
          rw [this] at hsT; cases hsT
        rcases plan_mem (s :: l) T k.plan i o ho hT with him | him
        · rcases List.mem_cons.1 him with e1 | him
          · subst e1
            rw [ho] at hos; cases hos
            exact step_heavy hcall hord hreg k ho hdn hbS hk (fun e1 h1 pn1 pc1 m' a' w' k' => ih _ _ _ _ (.inl ⟨tl, M, _, l, e1, h1, pn1, pc1, t1, t2, k', hch', by rw [← hM, maskOf, Nat.or_assoc]⟩) hcnt)
          · exact (bad (w1 i him)).elim
        · exact (bad (w2 i him)).elim
    · have hbS : ∀ x, Nat.testBit (natAt (befGo [] ops.toList) i) x = true → Sb listed x = true := fun x hx => bef_ready hok (S := fun j => Sb listed j = true) k12.down ho hdn hx
      have one : ∀ (x y : Nat), isStore ops.toList x = true → isStore ops.toList y = true → Inv P n ops finE [] call e' h' m0 h0 w0 listed T [x, y] e h pn pc m a w → i = x →
          wpOp P ops Q i (wpAny P .any ops Q fuel (listed.setIfInBounds i true)) a w := by
        intro x y ix iy k e1
        subst e1
        obtain ⟨ox, t, p, q, g1, g2, g3, _⟩ := isStore_spec ix
        rw [ho] at g1; cases g1
        refine step_heavy hcall hord hreg k ho hdn hbS (isStore_kn g2 g3) (fun e1 h1 pn1 pc1 m' a' w' k' => ih _ _ _ _ (.inl ⟨[], (T ||| 2 ^ i) ||| maskOf [y], _, [y], e1, h1, pn1, pc1, rfl, rfl, k', ?_, rfl⟩) hcnt)
        obtain ⟨oy, _, _, _, gy, _⟩ := isStore_spec iy
        simp [chainE, nthO_eq, gy]
      cases hT : Nat.testBit T i with
      | true => exact passed T e h pn pc k12.toCore hT (fun m' a' w' k' => .inr ⟨s1, s2, T, e, h, pn, pc, i1, i2, ⟨k', k12.plan, k12.run⟩, ⟨k', k21.plan, k21.run⟩⟩)
      | false =>
        rcases plan_mem [s1, s2] T k12.plan i o ho hT with him | him
        · rcases List.mem_cons.1 him with e1 | him
          · exact one s1 s2 i1 i2 k12 e1
          · rcases List.mem_cons.1 him with e1 | him
            · exact one s2 s1 i2 i1 k21 e1
            · cases him
        · cases him
/-- A REGION WHOSE ORDER IS DRAWN. -/
theorem regE_sound {m : Mp} {w : World} {e : Env} {a : Act} {h : H} (hmix : P.follows .mixedOrders = true) (hcall : CallOK P call) (hreg : regOk P n ops = true) {Q : Exit → Act → World → Prop} {id : Nat}
    (k : EnvR m n e a) (hg : Gl P m) (hr : HR m h w) (hv : (regE P ops.toList).run call e h = .ok e' h')
    (hn : ∀ m' a' w', Fr m h w m' h' w' → EnvR m' n e' a' → Q .normal a' w') : (Code.region id ops true).wp P Q a w := by
  unfold regE at hv
  simp only at hv
  generalize hpl : tailE ops.toList (befGo [] ops.toList) _ = pt at hv
  obtain ⟨pl, tl⟩ := pt
  simp only at hv
  generalize hc : (afterOk ops.toList && _) = c at hv
  cases c with
  | false => cases hv
  | true =>
    simp only [cond_true] at hv
    simp only [Bool.and_eq_true] at hc
    obtain ⟨hok, hord, _, hplan, hch, htl, htp⟩ := hc
    refine wp_region_any hmix ?_
    have hS0 : ∀ j, Sb (Array.replicate ops.size false) j = false := by
      intro j; unfold Sb
      by_cases hj : j < ops.size
      · simp [Array.getD, hj]
      · simp [Array.getD, hj]
    refine draw_main (m0 := m) (h0 := h) (w0 := w) hcall hok hord hreg hn ops.size _ m a _ (.inl ⟨tl, maskOf pl, 0, pl, e, h, [], [], htl, htp, ⟨?_, hplan, hv⟩, hch, by simp⟩) ?_
    · refine ⟨by simp, ?_, ?_, ?_, ?_, k.size, k.le, k.dfr, fun t ht => .inr (k.val t ht), ?_, hg, .nil, ?_, ?_⟩
      · intro i o _ hS; rw [hS0] at hS; cases hS
      · intro j hS; rw [hS0] at hS; cases hS
      · intro j hT; simp at hT
      · intro j o _ hT; simp at hT
      · exact Fr.drawn hr _
      · intro x hx; cases hx
      · intro x hx; cases hx
    · refine Nat.le_trans List.countP_le_length ?_
      simp
end Go.Ev
end
section
namespace Go.Ev
open Go
variable (P : Program)

noncomputable def codeE (lf : Nat) : Code → COd
  | .skip => ⟨fun _ e h => .nrm e h⟩
  | .label _ => ⟨fun _ e h => .nrm e h⟩
  | .ret => ⟨fun _ e h => .ret e h⟩
  | .exit id => ⟨fun _ e h => .ext id e h⟩
  | .seq a b => ⟨fun call e h => CR.rec (motive := fun _ => CR) .bad (fun e h => (codeE lf b).run call e h) (fun i e h => .ext i e h) (fun e h => .ret e h) ((codeE lf a).run call e h)⟩
  | .cond c a b => ⟨fun call e h => as_b_C ((opnd c).run e) (fun t => iteC t ((codeE lf a).run call e h) ((codeE lf b).run call e h)) .bad⟩
  | .block id b => ⟨fun call e h => CR.rec (motive := fun _ => CR) .bad (fun e h => .nrm e h) (fun j e h => iteC (Nat.beq j id) (.nrm e h) (.ext j e h)) (fun e h => .ret e h) ((codeE lf b).run call e h)⟩
  | .loop b => ⟨fun call e h => loopN ((codeE lf b).run call) lf e h⟩
  | .region _ ops false => ⟨fun call e h => Rs.rec (motive := fun _ => CR) .bad (fun e h => .nrm e h) ((seqC P ops.toList ops.toList).run call e h)⟩
  | .region _ ops true => ⟨fun call e h => Rs.rec (motive := fun _ => CR) .bad (fun e h => .nrm e h) ((regE P ops.toList).run call e h)⟩
  | _ => ⟨fun _ _ _ => .bad⟩
def isRecover (o : Oper) : Option Nat :=
  match o.op, o.dst, o.guard with
  | .call ⟨.builtin .recover, ⟨[]⟩, _⟩, some d, none => some d
  | _, _, _ => none
/-- the body of a function that is called while its caller returns: recover, if it comes first, finds no panic -/
noncomputable def defC (lf : Nat) : Code → COd
  | .seq a b => ⟨fun call e h => CR.rec (motive := fun _ => CR) .bad (fun e h => (codeE P lf b).run call e h) (fun i e h => .ext i e h) (fun e h => .ret e h) ((defC lf a).run call e h)⟩
  | .region id ⟨o :: l⟩ false => (match isRecover o with
    | some d => ⟨fun call e h => Rs.rec (motive := fun _ => CR) .bad (fun e h => .nrm e h) ((seqC P (o :: l) l).run call (eset d .ni e) h)⟩
    | none => codeE P lf (.region id ⟨o :: l⟩ false))
  | c => codeE P lf c
noncomputable def leave0 (rs : List ResultVar) (e : Env) (h : H) : VH :=
  match eget defSlot e with
  | .tup [] => vhO h ((retC P rs).run e h)
  | _ => .bad
noncomputable def defF (lf f : Nat) : FOp :=
  match P.funcs[f]? with
  | none => badF
  | some fn => match fn.body with
    | none => badF
    | some c => ⟨fun call args h => iteH (Nat.ble (lenV1 args) fn.ntmps)
        (CR.rec (motive := fun _ => VH) .bad (fun e h => leave0 P fn.results.toList e h) (fun _ _ _ => .bad) (fun e h => leave0 P fn.results.toList e h) ((defC P lf c).run call (putArgs 0 args Env.new) h)) .bad⟩
noncomputable def runDefE (lf : Nat) (call : CallT) : List V → H → Option H
  | [], h => some h
  | .fn (.func n) first cap :: l, h => match (defF P lf n).run call (first ++ cap) h with | .ok _ h' => runDefE lf call l h' | .bad => none
  | _, _ => none
noncomputable def leaveE (lf : Nat) (rs : List ResultVar) (call : CallT) (e : Env) (h : H) : VH :=
  match eget defSlot e with
  | .tup [] => vhO h ((retC P rs).run e h)
  | .tup l => (match runDefE P lf call l h with | some h' => vhO h' ((retC P rs).run e h') | none => .bad)
  | _ => .bad
noncomputable def bodyE (lf : Nat) (fn : Func) (c : Code) : FOp :=
  ⟨fun call args h => iteH (Nat.ble (lenV1 args) fn.ntmps)
    (CR.rec (motive := fun _ => VH) .bad (fun e h => leaveE P lf fn.results.toList call e h) (fun _ _ _ => .bad) (fun e h => leaveE P lf fn.results.toList call e h) ((codeE P lf c).run call (putArgs 0 args Env.new) h)) .bad⟩
noncomputable def funcE (sp : Nat → Option FOp) (lf : Nat) (f : Nat) : FOp :=
  match sp f with
  | some op => op
  | none => match P.funcs[f]? with
    | none => badF
    | some fn => match fn.body with
      | none => badF
      | some c => bodyE P lf fn c
noncomputable def callE (sp : Nat → Option FOp) (lf : Nat) (n : Nat) : CallT :=
  Nat.rec (motive := fun _ => CallT) (fun _ _ _ => .bad) (fun _ ih f args h => (funcE P sp lf f).run ih args h) n

/-! what is asked of the program's text -/
def codeOk (n : Nat) : Code → Bool
  | .seq a b => codeOk n a && codeOk n b
  | .cond c a b => opOk P n c && (codeOk n a && codeOk n b)
  | .block _ b => codeOk n b
  | .loop b => codeOk n b
  | .region _ ops _ => regOk P n ops
  | _ => true
def resOk (n : Nat) : ResultVar → Bool
  | .tmp t => Nat.ble (Nat.succ t) n
  | .cell t _ => Nat.ble (Nat.succ t) n
def funcOk (fn : Func) : Bool :=
  match fn.body with
  | none => true
  | some c => Nat.ble fn.ntmps 511 && (codeOk P fn.ntmps c && (fn.results.toList.all (resOk fn.ntmps) && !(fn.name == "runtime.NumGoroutine")))
def progOk : Bool := P.funcs.toList.all (funcOk P)
end Go.Ev
end
