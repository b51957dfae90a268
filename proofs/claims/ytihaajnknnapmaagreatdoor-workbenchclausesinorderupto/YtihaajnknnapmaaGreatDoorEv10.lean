/-
  A part of the proof of the card of WorkbenchClausesInOrder (second form): lemmas that the text Card uses. No condition of its own.
-/
import Derived.Test.YtihaajnknnapmaaGreatDoorEv09
import Derived.Test.YtihaajnknnapmaaGreatDoorEv08
import Derived.Lib.Bytealg
import Derived.Laws.AppendOwn
set_option linter.all false
set_option linter.unusedVariables false
set_option linter.unusedSimpArgs false
section
namespace Go.Ev
open Go
variable {P : Program} {m : Mp} {w : World}

theorem dg_toNat : ∀ x, x < 8 → (dg x).toNat = x := by decide
theorem idOf_toNat {n : Nat} (h : n < 32768) : (idOf n).toNat = n := by
  have h1 := dg_toNat (n / 4096 % 8) (by omega)
  have h2 := dg_toNat (n / 512 % 8) (by omega)
  have h3 := dg_toNat (n / 64 % 8) (by omega)
  have h4 := dg_toNat (n / 8 % 8) (by omega)
  have h5 := dg_toNat (n % 8) (by omega)
  simp only [idOf, Id.toNat, h1, h2, h3, h4, h5]
  omega
theorem selF5_all (d : D8) (x) : selF5 d (N8.all x) = x := by cases d <;> rfl
theorem selF4_all (d : D8) (x) : selF4 d (N8.all x) = x := by cases d <;> rfl
theorem selF3_all (d : D8) (x) : selF3 d (N8.all x) = x := by cases d <;> rfl
theorem selF2_all (d : D8) (x) : selF2 d (N8.all x) = x := by cases d <;> rfl
theorem selF1_all (d : D8) (x) : selF1 d (N8.all x) = x := by cases d <;> rfl
theorem fget_new (b : Id) : fget b Fam.new = [] := by
  obtain ⟨a, b, c, d, e⟩ := b
  simp [fget, Fam.new, selF5_all, selF4_all, selF3_all, selF2_all, selF1_all]
theorem beqIb_eq : ∀ {a b : List Ib}, beqIb a b = true → a = b
  | [], [], _ => rfl
  | [], _ :: _, h => by simp [beqIb] at h
  | _ :: _, [], h => by simp [beqIb] at h
  | (n, x) :: l, (n', y) :: r, h => by
    simp only [beqIb, Bool.and_eq_true] at h
    rw [Nat.eq_of_beq_eq_true h.1, beqLL_eq h.2.1, beqIb_eq h.2.2]
theorem renIn_get {h : H} {ρ : Id → Option Id} : ∀ {l fs : List Id} {o : List Ib}, renIn h ρ l = some (fs, o) → fs.length = l.length ∧ o.length = l.length ∧
    ∀ (j : Nat) b, l[j]? = some b → ∃ sz els f ro els', mget b h.mem = some (.cells sz els f ro) ∧ renLL ρ els = some els' ∧ fs[j]? = some f ∧ o[j]? = some (sz, els')
  | [], _, _, h => by simp only [renIn, Option.some.injEq, Prod.mk.injEq] at h; obtain ⟨rfl, rfl⟩ := h; exact ⟨rfl, rfl, fun j b hb => by simp at hb⟩
  | a :: l, _, _, h => by
    simp only [renIn] at h
    split at h
    · rename_i sz els f ro hb
      split at h
      · rename_i els' fs o h1 h2
        cases h
        obtain ⟨k1, k2, k3⟩ := renIn_get h2
        refine ⟨by simp [k1], by simp [k2], ?_⟩
        intro j b hj
        cases j with
        | zero => simp at hj; subst hj; exact ⟨sz, els, f, ro, els', hb, h1, rfl, rfl⟩
        | succ j => simp at hj; obtain ⟨a1, a2, a3, a4, a5, a6, a7, a8, a9⟩ := k3 j b hj; exact ⟨a1, a2, a3, a4, a5, a6, a7, by simpa using a8, by simpa using a9⟩
      · cases h
    · cases h
theorem putIn_get : ∀ {nw : List Id} {o : List Ib} {M : Mem} {b : Id} {ob : O}, mget b (putIn nw o M) = some ob →
    (mget b M = some ob) ∨ ∃ (j sz : Nat) (els : List (List V)), nw[j]? = some b ∧ o[j]? = some (sz, els) ∧ ob = .cells sz els b .fz
  | [], o, M, b, ob, h => by simp only [putIn] at h; exact .inl h
  | a :: nw, [], M, b, ob, h => by simp only [putIn] at h; exact .inl h
  | a :: nw, (sz, els) :: o, M, b, ob, h => by
    simp only [putIn] at h
    by_cases e : b = a
    · subst e; rw [mget_mput] at h; cases h; exact .inr ⟨0, sz, els, rfl, rfl, rfl⟩
    · rw [mget_mput_ne e] at h
      rcases putIn_get h with h1 | ⟨j, sz, els, h1, h2, h3⟩
      · exact .inl h1
      · exact .inr ⟨j + 1, sz, els, by simpa using h1, by simpa using h2, h3⟩
/-- two renamings, one behind the other -/
def thenR (ρ σ : Id → Option Id) (b : Id) : Option Id := (ρ b).bind σ
mutual
theorem renV_comp {ρ σ : Id → Option Id} : ∀ {v v1 v2 : V}, renV ρ v = some v1 → renV σ v1 = some v2 → renV (thenR ρ σ) v = some v2
  | .top, _, _, h, _ => by simp [renV] at h
  | .b x, _, _, h, k => by simp only [renV, Option.some.injEq] at h; subst h; exact k
  | .i _ _, _, _, h, k => by simp only [renV, Option.some.injEq] at h; subst h; exact k
  | .s _ _, _, _, h, k => by simp only [renV, Option.some.injEq] at h; subst h; exact k
  | .pn, _, _, h, k => by simp only [renV, Option.some.injEq] at h; subst h; exact k
  | .p _ _, _, _, h, _ => by simp [renV] at h
  | .sn, _, _, h, k => by simp only [renV, Option.some.injEq] at h; subst h; exact k
  | .sl b o len sz, _, _, h, k => by
    simp only [renV] at h
    cases hb : ρ b with
    | none => rw [hb] at h; cases h
    | some c =>
      rw [hb] at h; cases h
      simp only [renV] at k ⊢
      simp only [thenR, hb, Option.bind_some]
      exact k
  | .se, _, _, h, k => by simp only [renV, Option.some.injEq] at h; subst h; exact k
  | .mn, _, _, h, k => by simp only [renV, Option.some.injEq] at h; subst h; exact k
  | .mp _, _, _, h, _ => by simp [renV] at h
  | .fn _ _ _, _, _, h, _ => by simp [renV] at h
  | .nf, _, _, h, k => by simp only [renV, Option.some.injEq] at h; subst h; exact k
  | .ifc _ _, _, _, h, _ => by simp [renV] at h
  | .ni, _, _, h, k => by simp only [renV, Option.some.injEq] at h; subst h; exact k
  | .agg l, _, _, h, k => by
    simp only [renV] at h
    cases hl : renL ρ l with
    | none => rw [hl] at h; cases h
    | some l' =>
      rw [hl] at h; cases h
      simp only [renV] at k ⊢
      cases hk : renL σ l' with
      | none => rw [hk] at k; cases k
      | some l2 => rw [hk] at k; rw [renL_comp hl hk]; exact k
  | .tup l, _, _, h, k => by
    simp only [renV] at h
    cases hl : renL ρ l with
    | none => rw [hl] at h; cases h
    | some l' =>
      rw [hl] at h; cases h
      simp only [renV] at k ⊢
      cases hk : renL σ l' with
      | none => rw [hk] at k; cases k
      | some l2 => rw [hk] at k; rw [renL_comp hl hk]; exact k
theorem renL_comp {ρ σ : Id → Option Id} : ∀ {l l1 l2 : List V}, renL ρ l = some l1 → renL σ l1 = some l2 → renL (thenR ρ σ) l = some l2
  | [], _, _, h, k => by simp only [renL, Option.some.injEq] at h; subst h; exact k
  | v :: l, _, _, h, k => by
    simp only [renL] at h
    cases hv : renV ρ v with
    | none => rw [hv] at h; cases h
    | some v1 =>
      cases hl : renL ρ l with
      | none => rw [hv, hl] at h; cases h
      | some l1 =>
        rw [hv, hl] at h; cases h
        simp only [renL] at k ⊢
        cases kv : renV σ v1 with
        | none => rw [kv] at k; cases k
        | some v2 =>
          cases kl : renL σ l1 with
          | none => rw [kv, kl] at k; cases k
          | some l2 => rw [kv, kl] at k; cases k; rw [renV_comp hv kv, renL_comp hl kl]
end
theorem renLL_comp {ρ σ : Id → Option Id} : ∀ {l l1 l2 : List (List V)}, renLL ρ l = some l1 → renLL σ l1 = some l2 → renLL (thenR ρ σ) l = some l2
  | [], _, _, h, k => by simp only [renLL, Option.some.injEq] at h; subst h; exact k
  | v :: l, _, _, h, k => by
    simp only [renLL] at h
    cases hv : renL ρ v with
    | none => rw [hv] at h; cases h
    | some v1 =>
      cases hl : renLL ρ l with
      | none => rw [hv, hl] at h; cases h
      | some l1 =>
        rw [hv, hl] at h; cases h
        simp only [renLL] at k ⊢
        cases kv : renL σ v1 with
        | none => rw [kv] at k; cases k
        | some v2 =>
          cases kl : renLL σ l1 with
          | none => rw [kv, kl] at k; cases k
          | some l2 => rw [kv, kl] at k; cases k; rw [renL_comp hv kv, renLL_comp hl kl]
theorem renObs_comp {hp : H} {ρ σ : Id → Option Id} : ∀ {l fs : List Id} {obs obs2 : List Ob}, renObs hp ρ l = some (fs, obs) → renOb σ obs = some obs2 → renObs hp (thenR ρ σ) l = some (fs, obs2)
  | [], _, _, _, h, k => by simp only [renObs, Option.some.injEq, Prod.mk.injEq] at h; obtain ⟨rfl, rfl⟩ := h; simp only [renOb, Option.some.injEq] at k; subst k; rfl
  | a :: l, _, _, _, h, k => by
    simp only [renObs] at h ⊢
    split at h
    · rename_i sz els f ty hb
      split at h
      · rename_i els' fs obs h1 h2
        cases h
        simp only [renOb] at k
        split at k
        · rename_i e r k1 k2
          cases k
          rw [renLL_comp h1 k1, renObs_comp h2 k2]
        · cases k
      · cases h
    · cases h
theorem HvOk.tr {r : Result Next} {m1 : Mp} {h1 h1' h h' : H} {v1 v : V} (hk : HvOk P r m1 h1 w v1 h1')
    (t : ∀ u m' w', Fr m1 h1 w m' h1' w' → R m' v1 u → ∃ m2, Fr m h w m2 h' w' ∧ R m2 v u) (hun : ∀ m' w', Fr m1 h1 w m' h1' w' → R m' v1 undef → True := fun _ _ _ _ => trivial) : HvOk P r m h w v h' := by
  rcases hk with ⟨u, w', m', hr, hF, hR⟩ | ⟨f, us, hr, hC⟩
  · obtain ⟨m2, h2, h3⟩ := t u m' w' hF hR
    exact .inl ⟨u, w', m2, hr, h2, h3⟩
  · refine .inr ⟨f, us, hr, Calls.mono hC ?_⟩
    rintro e w' ⟨u, m', rfl, hF, hR⟩
    obtain ⟨m2, h2, h3⟩ := t u m' w' hF hR
    exact ⟨u, m2, rfl, h2, h3⟩
/-- the arguments under their own names -/
def mtOf (base : Nat) (nwT olds : List Id) (m : Mp) : Mp := fun i => bif Nat.ble (Nat.succ i.toNat) base then m i else match lookI i (nwT.zip olds) with | some b => m b | none => none
theorem memo_sound {call : CallT} {base fuel fuel2 : Nat} {f : FuncId} {mm : Memo} (hfact : memoFact call base fuel f mm = true) (hcall : CallOK P call) (hbase : P.globals.size ≤ base) (hb32 : base < 32768)
    {vs : List V} {us : List Value} {h h' : H} {v : V} {olds : List Id} (hr : HR m h w) (hg : Gl P m) (hR : Rl m vs us) (hnx : base ≤ h.next.toNat)
    (hin : canonIn fuel2 base vs h = some (mm.args, mm.ins, olds)) (hv : memoOut base mm olds h = .ok v h') : HvOk P ((callFunc f ⟨us⟩).run P w) m h w v h' := by
  -- the arguments
  unfold canonIn at hin
  simp only at hin
  generalize colGo h 0 fuel2 vs [] = O at hin
  cases hid : nextIds O.length (idOf base) with
  | none => rw [hid] at hin; cases hin
  | some nn =>
  obtain ⟨nwT, nx0⟩ := nn
  rw [hid] at hin
  simp only at hin
  cases hnd : nodupI O with
  | false => rw [hnd] at hin; cases hin
  | true =>
  rw [hnd] at hin
  simp only [cond_true] at hin
  split at hin
  case h_2 => cases hin
  rename_i a fs o hra hri
  cases hfs : nodupI fs with
  | false => rw [hfs] at hin; cases hin
  | true =>
  rw [hfs] at hin
  simp only [cond_true, Option.some.injEq, Prod.mk.injEq] at hin
  obtain ⟨rfl, rfl, rfl⟩ := hin
  obtain ⟨i1, i2, i3⟩ := nextIds_ok hid
  rw [idOf_toNat hb32] at i2 i3
  obtain ⟨r1, r2, r3⟩ := renIn_get hri
  have hgeT : ∀ b, b ∈ nwT → base ≤ b.toNat ∧ b.toNat < nx0.toNat := by
    intro b hb; obtain ⟨j, hj⟩ := List.mem_iff_getElem?.1 hb
    have := i3 j b hj
    have := (List.getElem?_eq_some_iff.1 hj).1
    omega
  have T1 : ∀ i, i.toNat < base → mtOf base nwT O m i = m i := by
    intro i hi; unfold mtOf; rw [show Nat.ble (Nat.succ i.toNat) base = true from Nat.ble_eq_true_of_le hi]; rfl
  have T2 : ∀ (j : Nat) c b, nwT[j]? = some c → O[j]? = some b → mtOf base nwT O m c = m b := by
    intro j c b h1 h2
    have := (hgeT c (List.mem_of_getElem? h1)).1
    unfold mtOf
    rw [show Nat.ble (Nat.succ c.toNat) base = false by cases e : Nat.ble (Nat.succ c.toNat) base with | false => rfl | true => have := Nat.le_of_ble_eq_true e; omega]
    simp only [cond_false]
    rw [lookI_get (fun j j' b a1 a2 => nextIds_nodup hid a1 a2) h1 h2]
  have T3 : ∀ i l, mtOf base nwT O m i = some l → (i.toNat < base ∧ m i = some l) ∨ ∃ (j : Nat) (b : Id), nwT[j]? = some i ∧ O[j]? = some b ∧ m b = some l := by
    intro i l hi
    unfold mtOf at hi
    cases hb : Nat.ble (Nat.succ i.toNat) base with
    | true => rw [hb] at hi; exact .inl ⟨Nat.le_of_ble_eq_true hb, hi⟩
    | false =>
      rw [hb] at hi
      simp only [cond_false] at hi
      split at hi
      · rename_i b hlk
        obtain ⟨j, h1, h2⟩ := lookI_zip hlk
        exact .inr ⟨j, b, h1, h2, hi⟩
      · cases hi
  have hρT : ∀ b c l, rho 0 (O.zip nwT) b = some c → m b = some l → mtOf base nwT O m c = some l := by
    intro b c l h1 h2
    unfold rho at h1
    rw [show Nat.ble (Nat.succ b.toNat) 0 = false from rfl] at h1
    obtain ⟨j, h3, h4⟩ := lookI_zip h1
    rw [T2 j c b h4 h3]; exact h2
  have hRT : Rl (mtOf base nwT O m) mm.args us := renL_R hρT hra hR
  have hgT : Gl P (mtOf base nwT O m) := by
    intro g hlt
    obtain ⟨lim, hl⟩ := hg g hlt
    exact ⟨lim, by rw [T1 _ (by rw [idOf_toNat (by omega)]; omega)]; exact hl⟩
  have memT : ∀ b ob, mget b (putIn nwT mm.ins Mem.new) = some ob → ∃ (j sz : Nat) (els els0 : List (List V)) (b0 f0 : Id) (ro : Rw), nwT[j]? = some b ∧ O[j]? = some b0 ∧ ob = .cells sz els b .fz ∧ mget b0 h.mem = some (.cells sz els0 f0 ro) ∧ renLL (rho 0 (O.zip nwT)) els0 = some els ∧ fs[j]? = some f0 := by
    intro b ob hb
    rcases putIn_get hb with h1 | ⟨j, sz, els, h1, h2, h3⟩
    · rw [mget_new] at h1; cases h1
    · have hjl : j < O.length := by rw [← i1]; exact (List.getElem?_eq_some_iff.1 h1).1
      have hb0 := List.getElem?_eq_getElem hjl
      obtain ⟨sz1, els1, f1, ro1, els1', a1, a2, a3, a4⟩ := r3 j _ hb0
      rw [h2] at a4
      cases a4
      exact ⟨j, sz, els, els1, _, f1, ro1, h1, hb0, h3, a1, a2, a3⟩
  have hrT : HR (mtOf base nwT O m) ⟨putIn nwT mm.ins Mem.new, Fam.new, nx0⟩ w := by
    refine ⟨?_, ?_, ?_, ?_, ?_, ?_, ?_, ?_⟩
    · intro b ob hb
      obtain ⟨j, sz, els, els0, b0, f0, ro, h1, h2, rfl, h4, h5, h6⟩ := memT b ob hb
      obtain ⟨l, hl, C, t, fz, hc⟩ := hr.obj b0 _ h4
      have hc' := hc.ren hρT h5
      exact ⟨l, by rw [T2 j b b0 h1 h2]; exact hl, C, t, fz, ⟨hc'.at_, hc'.room, hc'.len, hc'.each, hc'.val, (fun e => by cases e), (fun e => by cases e), (fun ty e => by cases e), hc'.al⟩⟩
    · intro b l hb
      show b.toNat < nx0.toNat
      rcases T3 b l hb with ⟨h1, _⟩ | ⟨j, b0, h1, _, _⟩
      · omega
      · exact (hgeT b (List.mem_of_getElem? h1)).2
    · intro b b' ob ob' l l' hb hb' hl hl' hne heq
      obtain ⟨j, sz, els, els0, b0, f0, ro, h1, h2, rfl, h4, h5, h6⟩ := memT b ob hb
      obtain ⟨j', sz', els', els0', b0', f0', ro', g1, g2, rfl, g4, g5, g6⟩ := memT b' ob' hb'
      rw [T2 j b b0 h1 h2] at hl; rw [T2 j' b' b0' g1 g2] at hl'
      have hjj : j ≠ j' := fun e => by subst e; rw [h1] at g1; cases g1; exact hne rfl
      have hbb : b0 ≠ b0' := fun e => by subst e; exact hjj (nodupI_get hnd j j' b0 h2 g2)
      have hs : f0 = f0' := hr.sep b0 b0' _ _ l l' h4 g4 hl hl' hbb heq
      subst hs
      exact (hjj (nodupI_get hfs j j' f0 h6 g6)).elim
    · intro b b' sz els f ro sz' els' ro' hb hb' hne
      obtain ⟨j, _, _, _, b0, f0, _, h1, h2, h3, _⟩ := memT b _ hb
      obtain ⟨j', _, _, _, b0', f0', _, g1, g2, g3, _⟩ := memT b' _ hb'
      cases h3; cases g3; exact (hne rfl).elim
    · intro f; show List.Pairwise _ (fget f Fam.new); rw [fget_new]; exact List.Pairwise.nil
    · intro b l hb
      rcases T3 b l hb with ⟨_, h1⟩ | ⟨j, b0, _, _, h1⟩
      · exact hr.lt b l h1
      · exact hr.lt b0 l h1
    · intro b sz els f ro hb
      obtain ⟨j, _, _, _, b0, f0, _, h1, h2, h3, _⟩ := memT b _ hb
      cases h3
      exact (hgeT b (List.mem_of_getElem? h1)).2
    · intro f x hx
      have hx : x ∈ fget f Fam.new := hx
      rw [fget_new] at hx; cases hx
  -- the run
  unfold memoFact at hfact
  rw [show mm.ins.length = O.length from r2, hid] at hfact
  simp only at hfact
  cases hidR : nextIds mm.outs.length nx0 with
  | none => rw [hidR] at hfact; cases hfact
  | some nn =>
  obtain ⟨nwR, nxR⟩ := nn
  rw [hidR] at hfact
  simp only at hfact
  cases hcl : call f mm.args ⟨putIn nwT mm.ins Mem.new, Fam.new, nx0⟩ with
  | bad => rw [hcl] at hfact; cases hfact
  | ok vT hpp =>
  rw [hcl] at hfact
  simp only at hfact
  cases hcan : canon nx0.toNat fuel nwR hpp vT with
  | none => rw [hcan] at hfact; cases hfact
  | some cn =>
  rw [hcan] at hfact
  simp only at hfact
  have := eqCan_eq hfact
  subst this
  have hH := hcall f mm.args us (mtOf base nwT O m) _ w vT hpp hrT hgT hRT hcl
  -- the outcome
  unfold memoOut at hv
  rw [hid] at hv
  cases hid2 : nextIds mm.outs.length h.next with
  | none => rw [hid2] at hv; cases hv
  | some nn =>
  obtain ⟨nw2, nx⟩ := nn
  rw [hid2] at hv
  simp only [hidR] at hv
  split at hv
  case h_2 => cases hv
  rename_i v2 obs2 hv2 ho2
  cases hv
  refine hH.tr ?_
  intro u mp w' hF hRp
  obtain ⟨olds2, fs2, hlen2, hnd2, hrv2, hro2, hfs2⟩ := canon_some hcan
  obtain ⟨j1, j2, j3⟩ := nextIds_ok hidR
  obtain ⟨q1, q2, q3⟩ := nextIds_ok hid2
  obtain ⟨e1, e2, e3⟩ := renObs_get hro2
  have hgeR : ∀ b, b ∈ nwR → nx0.toNat ≤ b.toNat := by
    intro b hb; obtain ⟨j, hj⟩ := List.mem_iff_getElem?.1 hb; have := j3 j b hj; omega
  have hge2 : ∀ b, b ∈ nw2 → h.next.toNat ≤ b.toNat := by
    intro b hb; obtain ⟨j, hj⟩ := List.mem_iff_getElem?.1 hb; have := q3 j b hj; omega
  have C1 : ∀ i l, m i = some l → mcOf nw2 olds2 mp m i = some l := by
    intro i l hi
    have := hr.dom i l hi
    unfold mcOf; rw [lookI_none (fun hm => by have := hge2 i hm; omega)]; exact hi
  have notW : ∀ B, ¬ Wb (mtOf base nwT O m) ⟨putIn nwT mm.ins Mem.new, Fam.new, nx0⟩ B := by
    rintro B ⟨b1, ob1, l1, h1, h2, h3, h4⟩
    obtain ⟨j, _, _, _, b0, f0, _, _, _, rfl, _⟩ := memT b1 ob1 h1
    exact h4 rfl
  have hρF : ∀ b c l, thenR (rho nx0.toNat (olds2.zip nwR)) (rho2 (nwT.zip O) (nwR.zip nw2)) b = some c → mp b = some l → mcOf nw2 olds2 mp m c = some l := by
    intro b c l h1 h2
    unfold thenR at h1
    cases hc1 : rho nx0.toNat (olds2.zip nwR) b with
    | none => rw [hc1] at h1; cases h1
    | some c1 =>
      rw [hc1] at h1
      simp only [Option.bind_some] at h1
      unfold rho at hc1
      unfold rho2 at h1
      cases hb : Nat.ble (Nat.succ b.toNat) nx0.toNat with
      | true =>
        rw [hb] at hc1
        simp only [cond_true, Option.some.injEq] at hc1
        subst hc1
        have hlt : b.toNat < nx0.toNat := Nat.le_of_ble_eq_true hb
        split at h1
        · rename_i b0 hlk
          cases h1
          obtain ⟨j, g1, g2⟩ := lookI_zip hlk
          have := hF.old b l h2 hlt
          rw [T2 j b c g1 g2] at this
          exact C1 c l this
        · obtain ⟨j, g1, g2⟩ := lookI_zip h1
          have := hgeR b (List.mem_of_getElem? g1); omega
      | false =>
        rw [hb] at hc1
        obtain ⟨j, g1, g2⟩ := lookI_zip hc1
        have hge := hgeR c1 (List.mem_of_getElem? g2)
        split at h1
        · rename_i b0 hlk
          obtain ⟨j', g3, _⟩ := lookI_zip hlk
          have := (hgeT c1 (List.mem_of_getElem? g3)).2; omega
        · obtain ⟨j', g3, g4⟩ := lookI_zip h1
          have hjj : j = j' := nextIds_nodup hidR g2 g3
          subst hjj
          unfold mcOf
          rw [lookI_get (fun j j' b a1 a2 => nextIds_nodup hid2 a1 a2) g4 g1]
          exact h2
  refine ⟨mcOf nw2 olds2 mp m, canon_gen hr hF.hr hF.size (fun B hB _ => hF.keep B hB (notW B)) hF.os hF.tape hF.output hid2 (by rw [hlen2, j1, q1]) (nodupI_get hnd2) (renObs_comp hro2 ho2) hfs2 hρF ?_ ?_, renV_R hρF (renV_comp hrv2 hv2) hRp⟩
  · intro j b l h1 h2
    obtain ⟨sz, els, f1, ty, els', a1, _⟩ := e3 j b h1
    rcases hF.back b _ l a1 h2 with h3 | ⟨b0, ob0, l0, h3, h4, h5, h6⟩
    · exact h3
    · obtain ⟨_, _, _, _, _, _, _, _, _, rfl, _⟩ := memT b0 ob0 h3
      exact absurd rfl (h6 (by intro e; cases e))
  · intro b ob l hb hl
    obtain ⟨l', hl', ho⟩ := hr.obj b ob hb
    rw [hl] at hl'; cases hl'
    exact ho.keep (fun i li hi => C1 i li hi) (hF.keep l.blk (hr.lt b l hl) (notW _))
theorem findM_mem {a : List V} {o : List Ib} : ∀ {l : List Memo} {mm : Memo}, findM a o l = some mm → mm ∈ l ∧ a = mm.args ∧ o = mm.ins
  | [], _, h => by simp [findM] at h
  | x :: l, mm, h => by
    simp only [findM] at h
    cases hb : (beqs a x.args && beqIb o x.ins) with
    | true =>
      rw [hb] at h
      cases h
      rw [Bool.and_eq_true] at hb
      exact ⟨List.mem_cons_self, beqs_eq hb.1, beqIb_eq hb.2⟩
    | false =>
      rw [hb] at h
      obtain ⟨h1, h2⟩ := findM_mem h
      exact ⟨List.mem_cons_of_mem _ h1, h2⟩
end Go.Ev
end
section
namespace Go.Ev
open Go
variable {P : Program} {m : Mp} {w : World}

theorem ext_run {f : FuncId} {fn : Func} {e : Array Value → Sem Value} (hf : P.funcs[f]? = some fn) (hb : fn.body = none) (hn : fn.name ≠ "runtime.NumGoroutine") (h1 : Extern.findNext fn = none) (h2 : Extern.find fn = some e) (args : Array Value) :
    (callFunc f args).run P w = ((do pure (Next.value (← e args))) : Sem Next).run P w := by
  simp [callFunc, hf, hn, hb, h1, h2, mark, Sem.run]
theorem less_cons (a b : UInt8) (x y : List UInt8) : Op.bytesLess (a :: x) (b :: y) = (decide (a < b) || (a == b && Op.bytesLess x y)) := by
  simp [Op.bytesLess]
theorem compareBytes_eq : ∀ (x y : List UInt8), Lib.compareBytes x y = if x = y then 0 else if Op.bytesLess x y then -1 else 1
  | [], [] => by simp [Lib.compareBytes]
  | [], _ :: _ => by simp [Lib.compareBytes, Op.bytesLess]
  | _ :: _, [] => by simp [Lib.compareBytes, Op.bytesLess]
  | a :: x, b :: y => by
    rw [less_cons]
    simp only [Lib.compareBytes]
    by_cases h1 : a < b
    · have hne : a ≠ b := fun e => by subst e; exact absurd h1 (by simp [UInt8.lt_irrefl])
      simp [h1, hne]
    · by_cases h2 : b < a
      · have hne : a ≠ b := fun e => by subst e; exact h1 h2
        simp [h1, h2, hne]
      · have he : a = b := by
          apply UInt8.toNat_inj.1
          simp only [UInt8.lt_iff_toNat_lt] at h1 h2
          omega
        subst he
        simp [h1, compareBytes_eq x y]
end Go.Ev
end
section
namespace Go.Ev
open Go
variable {P : Program} {m : Mp} {w : World}
/-- what an external row hands back as a value, nothing touched -/
theorem HvOk.pureV {s : Sem Value} {h : H} {v : V} {u : Value} (hr : HR m h w) (hs : s.run P w = .ok u w) (hR : R m v u) :
    HvOk P ((do pure (Next.value (← s)) : Sem Next).run P w) m h w v h :=
  HvOk.val ⟨u, w, m, hs, Fr.refl hr, hR⟩
theorem cmpF_sound {f : FuncId} {fn : Func} (hf : P.funcs[f]? = some fn) (hb : fn.body = none) (hn : fn.name ≠ "runtime.NumGoroutine") (h1 : Extern.findNext fn = none) (h2 : Extern.find fn = some Extern.BytealgCompare.compare)
    {call : CallT} {vs : List V} {us : List Value} {h h' : H} {v : V} (hr : HR m h w) (hR : Rl m vs us) (hv : cmpF.run call vs h = .ok v h') : HvOk P ((callFunc f ⟨us⟩).run P w) m h w v h' := by
  simp only [cmpF] at hv
  split at hv
  · rename_i l c l' c'
    cases hv
    obtain ⟨x, us, rfl, hx, hR⟩ : ∃ x us', us = x :: us' ∧ R m (.s l c) x ∧ Rl m [.s l' c'] us' := by
      cases us with | nil => simp [Rl] at hR | cons x us => simp only [Rl, List.cons.injEq] at hR ⊢; obtain ⟨u, us', ⟨e1, e2⟩, h1, h2⟩ := hR; subst e1 e2; exact ⟨_, _, ⟨rfl, rfl⟩, h1, h2⟩
    obtain ⟨y, us, rfl, hy, hR⟩ : ∃ x us', us = x :: us' ∧ R m (.s l' c') x ∧ Rl m [] us' := by
      cases us with | nil => simp [Rl] at hR | cons x us => simp only [Rl, List.cons.injEq] at hR ⊢; obtain ⟨u, us', ⟨e1, e2⟩, h1, h2⟩ := hR; subst e1 e2; exact ⟨_, _, ⟨rfl, rfl⟩, h1, h2⟩
    obtain rfl : us = [] := by cases us with | nil => rfl | cons x us => simp [Rl] at hR
    rw [R_str] at hx hy
    obtain ⟨s, rfl, hs, hc⟩ := hx
    obtain ⟨t, rfl, ht, hc'⟩ := hy
    rw [ext_run hf hb hn h1 h2]
    refine HvOk.pureV hr (Lib.run_compareString s t w) ?_
    rw [compareBytes_eq, sEq_sound hs hc ht hc', ltB_sound hs ht, ByteArray.toList_eq, ByteArray.toList_eq]
    by_cases e : s.data.toList = t.data.toList
    · simp [e, R]
    · have e' : (s.data.toList == t.data.toList) = false := by simpa using e
      rw [e', if_neg e]
      cases hB : Op.bytesLess s.data.toList t.data.toList <;> simp [R]
  · cases hv
theorem sameF_sound {f : FuncId} {fn : Func} (hf : P.funcs[f]? = some fn) (hb : fn.body = none) (hn : fn.name ≠ "runtime.NumGoroutine") (h1 : Extern.findNext fn = none) (h2 : Extern.find fn = some Extern.AbiNoEscape.same)
    {call : CallT} {vs : List V} {us : List Value} {h h' : H} {v : V} (hr : HR m h w) (hR : Rl m vs us) (hv : sameF.run call vs h = .ok v h') : HvOk P ((callFunc f ⟨us⟩).run P w) m h w v h' := by
  simp only [sameF] at hv
  split at hv
  · cases hv
    obtain ⟨x, us, rfl, hx, hR⟩ : ∃ x us', us = x :: us' ∧ R m v x ∧ Rl m [] us' := by
      cases us with | nil => simp [Rl] at hR | cons x us => simp only [Rl, List.cons.injEq] at hR ⊢; obtain ⟨u, us', ⟨e1, e2⟩, h1, h2⟩ := hR; subst e1 e2; exact ⟨_, _, ⟨rfl, rfl⟩, h1, h2⟩
    obtain rfl : us = [] := by cases us with | nil => rfl | cons x us => simp [Rl] at hR
    rw [ext_run hf hb hn h1 h2]
    exact HvOk.pureV hr rfl hx
  · cases hv
end Go.Ev
end
section
namespace Go.Ev
open Go
variable {P : Program} {m : Mp} {w : World}
/-- A NEW OBJECT, laid somewhere behind what lay. -/
theorem Fr.newIn {m : Mp} {h : H} {w w' : World} (k : HR m h w) {nx : Id} (hn : h.next.succ = some nx) (ob : O) (l : Loc) (hl : w.heap.size ≤ l.blk) (hl2 : l.blk < w'.heap.size)
    (hkeep : ∀ B, B < w.heap.size → w'.heap[B]? = w.heap[B]?) (hos : w'.os = w.os) (hta : w'.tape = w.tape) (hou : w'.output = w.output)
    (hf : ∀ sz els f ro, ob = .cells sz els f ro → f = h.next) (hw : writable ob)
    (hob : ∀ m' : Mp, m.le m' → ObjAt m' w' l ob) :
    Fr m h w (fun b => if b = h.next then some l else m b) ⟨mput h.next (some ob) h.mem, h.fams, nx⟩ w' := by
  have hno : m h.next = none := by
    cases e : m h.next with
    | none => rfl
    | some l' => exact absurd (k.dom _ _ e) (Nat.lt_irrefl _)
  have hle : m.le (fun b => if b = h.next then some l else m b) := by
    intro b l' hb
    have : b ≠ h.next := fun e => by rw [e, hno] at hb; cases hb
    simp [this, hb]
  have hmem : ∀ b ob', mget b (mput h.next (some ob) h.mem) = some ob' → (b = h.next ∧ ob' = ob) ∨ (b ≠ h.next ∧ mget b h.mem = some ob') := by
    intro b ob' hb
    by_cases e : b = h.next
    · subst e; rw [mget_mput] at hb; exact .inl ⟨rfl, (Option.some.inj hb).symm⟩
    · rw [mget_mput_ne e] at hb; exact .inr ⟨e, hb⟩
  have hnx := Id.succ_toNat hn
  refine ⟨hle, ⟨?_, ?_, ?_, ?_, ?_, ?_, ?_, fun f x hx => by have := k.flt f x hx; show x.toNat < nx.toNat; omega⟩, by omega, ?_, hos, hta, hou, ?_, ?_, by show h.next.toNat ≤ nx.toNat; omega, fun b sz els f ro hb => by
    rcases hmem b _ hb with ⟨rfl, e⟩ | ⟨_, hb1⟩
    · exact .inl (by rw [hf _ _ _ _ e.symm]; exact Nat.le_refl _)
    · exact .inr ⟨b, sz, els, ro, hb1⟩⟩
  · intro b ob' hb
    rcases hmem b ob' hb with ⟨rfl, rfl⟩ | ⟨hne, hb⟩
    · exact ⟨l, by simp, hob _ hle⟩
    · obtain ⟨l', hl', ho⟩ := k.obj b ob' hb
      exact ⟨l', by simp [hne, hl'], ho.keep hle (hkeep _ (k.lt _ _ hl'))⟩
  · intro b l' hb
    show b.toNat < nx.toNat
    by_cases e : b = h.next
    · subst e; omega
    · simp [e] at hb; have := k.dom _ _ hb; omega
  · intro b b' ob1 ob2 l1 l2 hb hb' hl1 hl2 hne heq
    rcases hmem b ob1 hb with ⟨rfl, rfl⟩ | ⟨hn1, hb1⟩ <;> rcases hmem b' ob2 hb' with ⟨rfl, rfl⟩ | ⟨hn2, hb2⟩
    · exact absurd rfl hne
    · simp at hl1; simp [hn2] at hl2; have := k.lt _ _ hl2; subst hl1; omega
    · simp at hl2; simp [hn1] at hl1; have := k.lt _ _ hl1; subst hl2; omega
    · simp [hn1] at hl1; simp [hn2] at hl2
      exact k.sep b b' ob1 ob2 l1 l2 hb1 hb2 hl1 hl2 hne heq
  · intro b b' sz els f ro sz' els' ro' hb hb' hne
    rcases hmem b _ hb with ⟨rfl, e1⟩ | ⟨hn1, hb1⟩ <;> rcases hmem b' _ hb' with ⟨rfl, e2⟩ | ⟨hn2, hb2⟩
    · exact absurd rfl hne
    · have := hf _ _ _ _ e1.symm; have := k.famlt _ _ _ _ _ hb2; subst f; omega
    · have := hf _ _ _ _ e2.symm; have := k.famlt _ _ _ _ _ hb1; subst f; omega
    · exact k.fam b b' _ _ _ _ _ _ _ hb1 hb2 hne
  · intro f
    refine (k.ord f).imp ?_
    intro x y hxy sz els f1 ro sz' els' f2 ro' l1 l2 hx hy hl1 hl2 heq
    rcases hmem x _ hx with ⟨rfl, e1⟩ | ⟨hn1, hb1⟩ <;> rcases hmem y _ hy with ⟨rfl, e2⟩ | ⟨hn2, hb2⟩
    · rw [hl1] at hl2; cases hl2; rw [← e1] at e2; cases e2; exact Nat.le_refl _
    · simp at hl1; simp [hn2] at hl2; have := k.lt _ _ hl2; subst hl1; omega
    · simp at hl2; simp [hn1] at hl1; have := k.lt _ _ hl1; subst hl2; omega
    · simp [hn1] at hl1; simp [hn2] at hl2
      exact hxy _ _ _ _ _ _ _ _ _ _ hb1 hb2 hl1 hl2 heq
  · intro b l' hb
    by_cases e : b = h.next
    · subst e; simp at hb; subst hb; exact hl2
    · simp [e] at hb; have := k.lt _ _ hb; omega
  · intro b sz els f ro hb
    show f.toNat < nx.toNat
    rcases hmem b _ hb with ⟨rfl, e1⟩ | ⟨hn1, hb1⟩
    · have := hf _ _ _ _ e1.symm; subst this; omega
    · have := k.famlt _ _ _ _ _ hb1; omega
  · intro B hB _; exact hkeep B hB
  · intro b ob' l' hb hl'
    rcases hmem b ob' hb with ⟨rfl, rfl⟩ | ⟨hne, hb⟩
    · simp at hl'; subst hl'; exact .inl (by omega)
    · simp [hne] at hl'; exact .inr ⟨b, ob', l', hb, hl', rfl, id⟩
  · intro b l' hb hlt
    have : b ≠ h.next := fun e => by subst e; omega
    simpa [this] using hb
/-- nothing new is told of a later world -/
theorem Fr.later {m : Mp} {h : H} {w w' : World} (k : HR m h w) (hsz : w.heap.size ≤ w'.heap.size)
    (hkeep : ∀ B, B < w.heap.size → w'.heap[B]? = w.heap[B]?) (hos : w'.os = w.os) (hta : w'.tape = w.tape) (hou : w'.output = w.output) : Fr m h w m h w' := by
  refine ⟨fun _ _ e => e, ⟨?_, k.dom, k.sep, k.fam, k.ord, fun b l hb => Nat.lt_of_lt_of_le (k.lt b l hb) hsz, k.famlt, k.flt⟩, hsz, fun B hB _ => hkeep B hB, hos, hta, hou, ?_, fun b l hb _ => hb, Nat.le_refl _, ?_⟩
  · intro b ob hb
    obtain ⟨l, hl, ho⟩ := k.obj b ob hb
    exact ⟨l, hl, ho.keep (fun _ _ e => e) (hkeep _ (k.lt _ _ hl))⟩
  · intro b ob l hb hl; exact .inr ⟨b, ob, l, hb, hl, rfl, id⟩
  · intro b sz els f ro hb; exact .inr ⟨b, sz, els, ro, hb⟩
end Go.Ev
end
section
namespace Go.Ev
open Go
variable {P : Program} {m : Mp} {w : World}
theorem rd1_cell {h : H} (k : HR m h w) {b : Id} {o : Nat} {v : V} {l : Loc} (hl : m b = some l) (hv : rd1 h b o = some v) : ∃ u', w.cell? ⟨l.blk, l.base + o, none⟩ = some u' ∧ R m v u' := by
  unfold rd1 at hv
  cases hb : mget b h.mem with
  | none => rw [hb] at hv; cases hv
  | some ob =>
    rw [hb] at hv
    cases ob with
    | map _ _ => cases hv
    | siter _ _ _ => cases hv
    | miter _ _ _ _ => cases hv
    | cells sz els f ro =>
      have hv1 : (Option.rec (motive := fun _ => Option V) none (fun el => nthV el (Nat.mod o sz)) (nthL els (Nat.div o sz)) : Option V) = some v := hv
      rw [nthL_eq] at hv1
      cases he : els[Nat.div o sz]? with
      | none => rw [he] at hv1; cases hv1
      | some el =>
        rw [he] at hv1
        have hv2 : nthV el (o % sz) = some v := hv1
        rw [nthV_eq] at hv2
        obtain ⟨l2, hl2, C, t2, fz, hcs⟩ := k.obj _ _ hb
        rw [hl] at hl2; cases hl2
        have hlt := (List.getElem?_eq_some_iff.1 hv2).1
        have hlen := hcs.each el (List.mem_of_getElem? he)
        have hf := flat_get hcs.each he (o % sz) (by omega)
        rw [hv2] at hf
        obtain ⟨u', hu', hR, _⟩ := hcs.val _ _ hf
        have hi : Nat.div o sz * sz + o % sz = o := by
          have := Nat.div_add_mod o sz; rw [Nat.mul_comm] at this; exact this
        rw [hi] at hu'
        exact ⟨u', by rw [cell_of hcs.at_, hu'], hR⟩
/-- n ints (of 64 bits) from cell o on -/
noncomputable def rdInts (h : H) (b : Id) : Nat → Nat → Option (List Int)
  | 0, _ => some []
  | n + 1, o => match rd1 h b o with
    | some (.i .i64 z) => (match rdInts h b n (Nat.succ o) with | some l => some (z :: l) | none => none)
    | _ => none
theorem rdInts_ok {h : H} (k : HR m h w) {b : Id} {l : Loc} (hl : m b = some l) : ∀ (n o : Nat) (zs : List Int), rdInts h b n o = some zs → zs.length = n ∧ ∀ j, j < n → w.cell? ⟨l.blk, l.base + (o + j), none⟩ = some (.int .i64 (zs[j]?.getD 0))
  | 0, o, zs, hz => by cases hz; exact ⟨rfl, fun j hj => absurd hj (by omega)⟩
  | n + 1, o, zs, hz => by
    unfold rdInts at hz
    split at hz
    · rename_i z hz1
      split at hz
      · rename_i zs' hz2
        cases hz
        obtain ⟨h1, h2⟩ := rdInts_ok k hl n _ _ hz2
        obtain ⟨u, hu, hR⟩ := rd1_cell k hl hz1
        simp only [R] at hR; subst hR
        refine ⟨by simp [h1], fun j hj => ?_⟩
        cases j with
        | zero => simpa using hu
        | succ j => have := h2 j (by omega); rw [show o + (j + 1) = Nat.succ o + j by omega]; simpa using this
      · cases hz
    · cases hz
def oneEls : List Int → List (List V)
  | [] => []
  | z :: l => [.i .i64 z] :: oneEls l
theorem oneEls_flat : ∀ (zs : List Int), (oneEls zs).flatten = zs.map (V.i .i64)
  | [] => rfl
  | z :: l => by simp [oneEls, oneEls_flat l]
theorem oneEls_length : ∀ (zs : List Int), (oneEls zs).length = zs.length
  | [] => rfl
  | z :: l => by simp [oneEls, oneEls_length l]
theorem oneEls_each : ∀ (zs : List Int), ∀ el ∈ oneEls zs, el.length = 1
  | [], el, h => by simp [oneEls] at h
  | z :: l, el, h => by
    simp only [oneEls, List.mem_cons] at h
    rcases h with rfl | h
    · rfl
    · exact oneEls_each l el h
/-- slices.AppendSeq(nil, slices.Values(t)): fv is the function of the iterator, el the element's type (an int) -/
noncomputable def seqG (fv el : Nat) : FOp := ⟨fun _ args h => match args with
  | [.sn, .fn (.func g) [] [.p b o]] => bif Nat.beq g fv then (match rd1 h b o with
      | some (.sl b2 o2 len _) => bif Nat.ble len 1000000 then (match rdInts h b2 len o2 with
        | some [] => .ok .sn h
        | some (z :: zs) => newC el h 1 (oneEls (z :: zs)) (fun i => .sl i 0 len 1)
        | none => .bad) else .bad
      | _ => .bad) else .bad
  | _ => .bad⟩
/-- what AppendSeq over Values is to do -/
def SeqDoes (P : Program) (f fv el : Nat) : Prop :=
  (∀ args w, (callFunc f args).run P w = .ok (.enter f args) w) ∧
  ∀ (w : World) (Bs oB b off cap : Nat) (zs : List Int), zs.length ≤ 1000000 → Bs < w.heap.size → b < w.heap.size → w.cell? ⟨Bs, oB, none⟩ = some (.slice (some ⟨b, off, none⟩) zs.length cap) →
    (∀ j, j < zs.length → w.cell? ⟨b, off + j, none⟩ = some (.int .i64 (zs[j]?.getD 0))) →
    Calls P f #[.slice none 0 0, .func (.func fv) #[] #[.pointer (some ⟨Bs, oB, none⟩)]] w fun e w' => ∃ v : Value, e = .returned v ∧ w'.ownsRow w.heap.size el 1 v zs.length (zs.map (Value.int .i64)) ∧ (v = .slice none 0 0 ↔ zs = []) ∧ RowKit.Below w.heap.size w w'
theorem seqG_sound {f fv el : Nat} (hD : SeqDoes P f fv el) {call : CallT} {vs : List V} {us : List Value} {h h' : H} {v : V} (hr : HR m h w) (hR : Rl m vs us) (hv : (seqG fv el).run call vs h = .ok v h') : HvOk P ((callFunc f ⟨us⟩).run P w) m h w v h' := by
  simp only [seqG] at hv
  split at hv
  · rename_i g b o
    have hg : g = fv := by
      cases e : Nat.beq g fv with
      | false => rw [e] at hv; cases hv
      | true => exact Nat.eq_of_beq_eq_true e
    subst hg
    rw [show Nat.beq g g = true from Nat.beq_refl g] at hv
    simp only [cond_true] at hv
    simp only [Rl, R] at hR
    obtain ⟨u0, us0, rfl, rfl, u1, us1, rfl, ⟨a', c', rfl, rfl, u2, us2, rfl, ⟨l, hl, rfl⟩, rfl⟩, rfl⟩ := hR
    split at hv
    · rename_i b2 o2 len sz hrd
      cases hle : Nat.ble len 1000000 with
      | false => rw [hle] at hv; cases hv
      | true =>
        rw [hle] at hv
        simp only [cond_true] at hv
        have hlen := Nat.le_of_ble_eq_true hle
        obtain ⟨us, hus, hRs⟩ := rd1_cell hr hl hrd
        simp only [R] at hRs
        obtain ⟨l2, cap, hl2, rfl, hcap, hlim⟩ := hRs
        obtain ⟨hen, hcalls⟩ := hD
        have fin : ∀ zs, rdInts h b2 len o2 = some zs → (∀ (w' : World) (v' : Value), w'.ownsRow w.heap.size el 1 v' zs.length (zs.map (Value.int .i64)) → (v' = .slice none 0 0 ↔ zs = []) → RowKit.Below w.heap.size w w' → ∃ m', Fr m h w m' h' w' ∧ R m' v v') → HvOk P ((callFunc f ⟨[.slice none 0 0, .func (.func g) ⟨[]⟩ ⟨[.pointer (some ⟨l.blk, l.base + o, none⟩)]⟩]⟩).run P w) m h w v h' := by
          intro zs hz hfin
          obtain ⟨h1, h2⟩ := rdInts_ok hr hl2 len o2 zs hz
          refine .inr ⟨f, _, hen _ w, (hcalls w l.blk (l.base + o) l2.blk (l2.base + o2) cap zs (by omega) (hr.lt _ _ hl) (hr.lt _ _ hl2) (by rw [h1]; exact hus) (fun j hj => by rw [Nat.add_assoc]; exact h2 j (by omega))).mono ?_⟩
          rintro e w' ⟨v', rfl, h3, h4, h5⟩
          obtain ⟨m', hF, hRv⟩ := hfin w' v' h3 h4 h5
          exact ⟨v', m', rfl, hF, hRv⟩
        split at hv
        · rename_i hz
          cases hv
          refine fin _ hz ?_
          intro w' v' h3 h4 h5
          exact ⟨m, Fr.later hr h5.size h5.block h5.os h5.tape h5.output, by simp only [R]; exact h4.2 rfl⟩
        · rename_i z zs hz
          refine fin _ hz ?_
          intro w' v' h3 h4 h5
          obtain ⟨nx, hnx, rfl, rfl⟩ := newO_ok hv
          obtain ⟨h1, _⟩ := rdInts_ok hr hl2 len o2 _ hz
          rcases h3.2 with ⟨e, _⟩ | ⟨g', cap', cur, rfl, hge, hg', hle', hmax, hsz, htake⟩
          · cases h4.1 e
          · refine ⟨_, Fr.newIn hr hnx (.cells 1 (oneEls (z :: zs)) h.next (.rw el)) ⟨g', 0, cur.size⟩ hge ?_ h5.block h5.os h5.tape h5.output (fun _ _ _ _ e => by cases e; rfl) (by simp [writable]) ?_, ?_⟩
            · exact (Array.getElem?_eq_some_iff.1 hg').1
            · intro m' hm
              refine ⟨cur, el, (0, 0), ⟨hg', by simp, ?_, oneEls_each _, ?_, ?_, fun _ _ => rfl, fun ty e => by cases e; rfl, Nat.zero_mod _⟩⟩
              · rw [oneEls_flat, List.length_map]; show (z :: zs).length ≤ cur.size; omega
              · intro i v hv
                rw [oneEls_flat] at hv
                have hi : i < (z :: zs).length := by have := (List.getElem?_eq_some_iff.1 hv).1; simpa using this
                have hc : cur.toList[i]? = ((z :: zs).map (Value.int .i64))[i]? := by
                  rw [← htake, List.getElem?_take_of_lt (by omega)]
                rw [List.getElem?_map] at hv hc
                rw [List.getElem?_eq_getElem hi] at hv hc
                cases hv
                refine ⟨_, by show cur[0 + i]? = _; rw [Nat.zero_add, ← Array.getElem?_toList]; exact hc, by simp [R], by simp [scalar]⟩
              · intro _ i _; show ¬ (0 ≤ _ ∧ _ < 0); omega
            · simp only [R]
              exact ⟨⟨g', 0, cur.size⟩, cap', by simp, by simp; omega, by omega, by show 0 + cap' * 1 ≤ cur.size; omega⟩
        · cases hv
    · cases hv
  · cases hv
end Go.Ev
end
section
namespace Go.Ev
open Go
variable {P : Program} {m : Mp} {w : World}
/-! internal/bytealg's CountString and IndexByteString -/
def countN (n : Nat) : List Nat → Nat
  | [] => 0
  | x :: l => bif Nat.beq x n then Nat.succ (countN n l) else countN n l
def indexN (n : Nat) : List Nat → Option Nat
  | [] => none
  | x :: l => bif Nat.beq x n then some 0 else (match indexN n l with | some k => some (Nat.succ k) | none => none)
noncomputable def countF : FOp := ⟨fun _ args h => match args with
  | [.s l c, .i .u8 (.ofNat n)] => bif Nat.ble n 255 then .ok (.i .i64 (.ofNat (countN n (bytesOf l c)))) h else .bad
  | _ => .bad⟩
noncomputable def indexByteF : FOp := ⟨fun _ args h => match args with
  | [.s l c, .i .u8 (.ofNat n)] => bif Nat.ble n 255 then .ok (.i .i64 (match indexN n (bytesOf l c) with | some k => .ofNat k | none => .negSucc 0)) h else .bad
  | _ => .bad⟩
theorem beq_byte (b : UInt8) {n : Nat} (hn : n ≤ 255) : Nat.beq b.toNat n = (b == n.toUInt8) := by
  by_cases e : b.toNat = n
  · have : b = n.toUInt8 := by apply UInt8.toNat_inj.1; simp [e]; omega
    rw [this]; simp only [beq_self_eq_true]
    rw [← this, e]; exact Nat.beq_refl n
  · have h1 : Nat.beq b.toNat n = false := by
      cases h : Nat.beq b.toNat n with
      | false => rfl
      | true => exact absurd (Nat.eq_of_beq_eq_true h) e
    rw [h1]; symm
    have : b ≠ n.toUInt8 := fun h => e (by rw [h]; simp; omega)
    simpa using this
theorem countN_eq {n : Nat} (hn : n ≤ 255) : ∀ (l : List UInt8), countN n (l.map UInt8.toNat) = Lib.countByte l n.toUInt8
  | [] => rfl
  | b :: l => by
    have ih := countN_eq hn l
    unfold Lib.countByte at ih ⊢
    simp only [List.map_cons, countN, beq_byte b hn, List.count_cons, ih]
    cases h : (b == n.toUInt8) <;> simp
theorem indexN_eq {n : Nat} (hn : n ≤ 255) : ∀ (l : List UInt8), (match indexN n (l.map UInt8.toNat) with | some k => Int.ofNat k | none => Int.negSucc 0) = Lib.indexByte l n.toUInt8
  | [] => rfl
  | b :: l => by
    have ih := indexN_eq hn l
    simp only [List.map_cons, indexN, beq_byte b hn, Lib.indexByte, ← ih]
    cases h : (b == n.toUInt8) with
    | true => simp
    | false =>
      cases h2 : indexN n (l.map UInt8.toNat) with
      | none => simp
      | some k => simp
theorem argSB {vs : List Value} {m : Mp} {l c : Nat} {z : Int} (hR : Rl m [.s l c, .i .u8 z] vs) : ∃ s : ByteArray, vs = [.string s, .int .u8 z] ∧ s.data.toList.map UInt8.toNat = bytesOf l c := by
  obtain ⟨x, us, rfl, hx, hR⟩ : ∃ x us', vs = x :: us' ∧ R m (.s l c) x ∧ Rl m [.i .u8 z] us' := by
    cases vs with | nil => simp [Rl] at hR | cons x us => simp only [Rl, List.cons.injEq] at hR ⊢; obtain ⟨u, us', ⟨e1, e2⟩, h1, h2⟩ := hR; subst e1 e2; exact ⟨_, _, ⟨rfl, rfl⟩, h1, h2⟩
  obtain ⟨y, us, rfl, hy, hR⟩ : ∃ x us', us = x :: us' ∧ R m (.i .u8 z) x ∧ Rl m [] us' := by
    cases us with | nil => simp [Rl] at hR | cons x us => simp only [Rl, List.cons.injEq] at hR ⊢; obtain ⟨u, us', ⟨e1, e2⟩, h1, h2⟩ := hR; subst e1 e2; exact ⟨_, _, ⟨rfl, rfl⟩, h1, h2⟩
  obtain rfl : us = [] := by cases us with | nil => rfl | cons x us => simp [Rl] at hR
  rw [R_str] at hx
  obtain ⟨s, rfl, hs, hc⟩ := hx
  simp only [R] at hy
  exact ⟨s, by rw [hy], hs⟩
theorem countF_sound {f : FuncId} {fn : Func} (hf : P.funcs[f]? = some fn) (hb : fn.body = none) (hn : fn.name ≠ "runtime.NumGoroutine") (h1 : Extern.findNext fn = none) (h2 : Extern.find fn = some Extern.BytealgCount.count)
    {call : CallT} {vs : List V} {us : List Value} {h h' : H} {v : V} (hr : HR m h w) (hR : Rl m vs us) (hv : countF.run call vs h = .ok v h') : HvOk P ((callFunc f ⟨us⟩).run P w) m h w v h' := by
  simp only [countF] at hv
  split at hv
  · rename_i l c n
    cases hle : Nat.ble n 255 with
    | false => rw [hle] at hv; cases hv
    | true =>
      rw [hle] at hv; cases hv
      have hn' := Nat.le_of_ble_eq_true hle
      obtain ⟨s, rfl, hs⟩ := argSB hR
      rw [ext_run hf hb hn h1 h2]
      refine HvOk.pureV hr (Lib.run_countString s _ w) ?_
      rw [← hs, countN_eq hn']
      simp only [R]; rfl
  · cases hv
theorem indexByteF_sound {f : FuncId} {fn : Func} (hf : P.funcs[f]? = some fn) (hb : fn.body = none) (hn : fn.name ≠ "runtime.NumGoroutine") (h1 : Extern.findNext fn = none) (h2 : Extern.find fn = some Extern.BytealgIndexByte.indexByte)
    {call : CallT} {vs : List V} {us : List Value} {h h' : H} {v : V} (hr : HR m h w) (hR : Rl m vs us) (hv : indexByteF.run call vs h = .ok v h') : HvOk P ((callFunc f ⟨us⟩).run P w) m h w v h' := by
  simp only [indexByteF] at hv
  split at hv
  · rename_i l c n
    cases hle : Nat.ble n 255 with
    | false => rw [hle] at hv; cases hv
    | true =>
      rw [hle] at hv; cases hv
      have hn' := Nat.le_of_ble_eq_true hle
      obtain ⟨s, rfl, hs⟩ := argSB hR
      rw [ext_run hf hb hn h1 h2]
      refine HvOk.pureV hr (Lib.run_indexByteString s _ w) ?_
      have := indexN_eq hn' s.data.toList
      rw [hs] at this
      rw [this]
      simp only [R]; rfl
  · cases hv
end Go.Ev
end
