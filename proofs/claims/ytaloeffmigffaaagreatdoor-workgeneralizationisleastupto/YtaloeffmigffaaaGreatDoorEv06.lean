/-
  A part of the proof of the card of WorkGeneralizationIsLeast (second form): lemmas that the text Card uses. No condition of its own.
-/
import Derived.Test.YtaloeffmigffaaaGreatDoorEv05
set_option linter.all false
set_option linter.unusedVariables false
set_option linter.unusedSimpArgs false
section
namespace Go.Ev
open Go
variable {P:Program} {m:Mp} {w:World}
theorem natAt_eq:∀ (l:List Nat) (i:Nat),natAt l i = (l[i]?).getD 0
  | [],_=>by simp [natAt]
  | a :: _,0=>by simp [natAt]
  | _ :: l,i + 1=>by simp [natAt,natAt_eq l i]
theorem zipI_mem:∀ (l:List Oper) (k:Nat) (x:Nat × Oper),x ∈ zipI k l ↔ ∃ i,l[i]? = some x.2 ∧ x.1 = k + i
  | [],k,x=>by simp [zipI]
  | o :: l,k,x=>by
    simp only [zipI,List.mem_cons,zipI_mem l (k + 1) x]
    constructor
    · rintro (rfl | ⟨i,h1,h2⟩)
      · exact ⟨0,rfl,rfl⟩
      · exact ⟨i + 1,by simpa using h1,by omega⟩
    · rintro ⟨i,h1,h2⟩
      cases i with
      | zero=>left;obtain ⟨x1,x2⟩:=x;simp at h1 h2;simp [h1,h2]
      | succ i=>right;exact ⟨i,by simpa using h1,by omega⟩
theorem zipI_all {l:List Oper} {p:Nat × Oper → Bool} (h:(zipI 0 l).all p = true) {i:Nat} {o:Oper} (ho:l[i]? = some o):p (i,o) = true:=
  (List.all_eq_true.1 h) (i,o) ((zipI_mem l 0 (i,o)).2 ⟨i,ho,by simp⟩)
theorem zipI_any_false {l:List Oper} {p:Nat × Oper → Bool} (h:(zipI 0 l).any p = false) {i:Nat} {o:Oper} (ho:l[i]? = some o):p (i,o) = false:=by
  have:=List.any_eq_false.1 h (i,o) ((zipI_mem l 0 (i,o)).2 ⟨i,ho,by simp⟩)
  simpa using this
theorem memN_iff (n:Nat):∀ l:List Nat,memN n l = true ↔ n ∈ l
  | []=>by simp [memN]
  | a :: l=>by
    rw [memN]
    cases h:Nat.beq a n with
    | true=>have:=Nat.eq_of_beq_eq_true h;simp [this]
    | false=>
      have:a ≠ n:=Nat.ne_of_beq_eq_false h
      simp [memN_iff n l,Ne.symm this]
theorem keepP_mem {α:Type} (p:α → Bool):∀ (l:List α) (x:α),x ∈ keepP p l ↔ x ∈ l ∧ p x = true
  | [],x=>by simp [keepP]
  | a :: l,x=>by
    rw [keepP]
    cases h:p a with
    | true=>
      simp only [cond_true,List.mem_cons,keepP_mem p l x]
      constructor
      · rintro (rfl | ⟨h1,h2⟩)
        · exact ⟨.inl rfl,h⟩
        · exact ⟨.inr h1,h2⟩
      · rintro ⟨rfl | h1,h2⟩
        · exact .inl rfl
        · exact .inr ⟨h1,h2⟩
    | false=>
      simp only [cond_false,List.mem_cons,keepP_mem p l x]
      constructor
      · rintro ⟨h1,h2⟩;exact ⟨.inr h1,h2⟩
      · rintro ⟨rfl | h1,h2⟩
        · rw [h] at h2;cases h2
        · exact ⟨h1,h2⟩
theorem keepP_pw {α:Type} {r:α → α → Prop} (p:α → Bool):∀ {l:List α},l.Pairwise r → (keepP p l).Pairwise r
  | [],_=>by simp [keepP]
  | a :: l,h=>by
    rw [keepP]
    have h1:=List.pairwise_cons.1 h
    cases hp:p a with
    | true=>
      simp only [cond_true]
      exact List.pairwise_cons.2 ⟨fun y hy=>h1.1 y ((keepP_mem p l y).1 hy).1,keepP_pw p h1.2⟩
    | false=>simp only [cond_false];exact keepP_pw p h1.2
theorem maskE_bit (acc:List Nat) (j:Nat):∀ l:List Edge,Nat.testBit (maskE acc l) j = true ↔ ∃ e ∈ l,bindsE e = true ∧ (j = e.on ∨ Nat.testBit (natAt acc e.on) j = true)
  | []=>by simp [maskE]
  | e :: l=>by
    rw [maskE]
    cases h:bindsE e with
    | true=>
      simp only [cond_true,Nat.testBit_or,Bool.or_eq_true,maskE_bit acc j l,List.mem_cons,Nat.one_shiftLeft,Nat.testBit_two_pow,decide_eq_true_eq]
      constructor
      · rintro (h1 | h1 | ⟨e',h1,h2⟩)
        · exact ⟨e,.inl rfl,h,.inl h1.symm⟩
        · exact ⟨e,.inl rfl,h,.inr h1⟩
        · exact ⟨e',.inr h1,h2⟩
      · rintro ⟨e',rfl | h1,h2,h3⟩
        · rcases h3 with h3 | h3
          · exact .inl h3.symm
          · exact .inr (.inl h3)
        · exact .inr (.inr ⟨e',h1,h2,h3⟩)
    | false=>
      simp only [cond_false,maskE_bit acc j l,List.mem_cons]
      constructor
      · rintro ⟨e',h1,h2⟩;exact ⟨e',.inr h1,h2⟩
      · rintro ⟨e',rfl | h1,h2,h3⟩
        · rw [h] at h2;cases h2
        · exact ⟨e',h1,h2,h3⟩
theorem befGo_spec:∀ (l:List Oper) (acc:List Nat),(∃ s,befGo acc l = acc ++ s) ∧
    ∀ i o,l[i]? = some o → natAt (befGo acc l) (acc.length + i) = maskE ((befGo acc l).take (acc.length + i)) o.after.toList
  | [],acc=>⟨⟨[],by simp [befGo]⟩,fun i o h=>by simp at h⟩
  | o :: l,acc=>by
    obtain ⟨⟨s,hs⟩,ih⟩:=befGo_spec l (acc ++ [maskE acc o.after.toList])
    refine ⟨⟨maskE acc o.after.toList :: s,by rw [befGo,hs];simp⟩,?_⟩
    intro i o' h
    rw [befGo]
    cases i with
    | zero=>
      simp at h;subst h
      rw [hs,natAt_eq];simp
    | succ i=>
      have:=ih i o' (by simpa using h)
      simp only [List.length_append,List.length_singleton] at this
      rw [show acc.length + (i + 1) = acc.length + 1 + i by omega]
      exact this
theorem bef_spec {ops:List Oper} (hok:afterOk ops = true) {i:Nat} {o:Oper} (ho:ops[i]? = some o) (j:Nat) :
    Nat.testBit (natAt (befGo [] ops) i) j = true ↔ ∃ e ∈ o.after.toList,bindsE e = true ∧ (j = e.on ∨ Nat.testBit (natAt (befGo [] ops) e.on) j = true):=by
  have h:=(befGo_spec ops []).2 i o ho
  simp only [List.length_nil,Nat.zero_add] at h
  rw [h,maskE_bit]
  have hk:=List.all_eq_true.1 (zipI_all hok ho)
  have key:∀ e ∈ o.after.toList,bindsE e = true → natAt ((befGo [] ops).take i) e.on = natAt (befGo [] ops) e.on:=by
    intro e he hb
    have:=hk e he
    simp only [hb,Bool.not_true,Bool.false_or] at this
    have hlt:e.on < i:=Nat.le_of_ble_eq_true this
    rw [natAt_eq,natAt_eq,List.getElem?_take,if_pos hlt]
  constructor
  · rintro ⟨e,h1,h2,h3⟩
    exact ⟨e,h1,h2,by rwa [key e h1 h2] at h3⟩
  · rintro ⟨e,h1,h2,h3⟩
    exact ⟨e,h1,h2,by rwa [key e h1 h2]⟩
theorem bef_out {ops:List Oper} {i:Nat} (h:ops[i]? = none):natAt (befGo [] ops) i = 0:=by
  have hl:∀ (l:List Oper) (acc:List Nat),(befGo acc l).length = acc.length + l.length:=by
    intro l
    induction l with
    | nil=>intro acc;simp [befGo]
    | cons o l ih=>intro acc;rw [befGo,ih];simp;omega
  rw [natAt_eq,List.getElem?_eq_none]
  · rfl
  · rw [hl];simpa using h
theorem bef_down {ops:List Oper} (hok:afterOk ops = true) {S:Nat → Prop} (hS:∀ i o,ops[i]? = some o → S i → ∀ e ∈ o.after.toList,bindsE e = true → S e.on) :
    ∀ (i j:Nat),S i → Nat.testBit (natAt (befGo [] ops) i) j = true → S j:=by
  intro i
  induction i using Nat.strongRecOn with
  | _ i ih=>
    intro j hi hb
    cases ho:ops[i]? with
    | none=>rw [bef_out ho] at hb;simp at hb
    | some o=>
      obtain ⟨e,he,hbe,hj⟩:=(bef_spec hok ho j).1 hb
      have hk:=List.all_eq_true.1 (zipI_all hok ho) e he
      simp only [hbe,Bool.not_true,Bool.false_or] at hk
      have hlt:e.on < i:=Nat.le_of_ble_eq_true hk
      have hon:=hS i o ho hi e he hbe
      rcases hj with rfl | hj
      · exact hon
      · exact ih e.on hlt j hon hj
theorem bef_ready {ops:List Oper} (hok:afterOk ops = true) {S:Nat → Prop} (hS:∀ i o,ops[i]? = some o → S i → ∀ e ∈ o.after.toList,bindsE e = true → S e.on) {i:Nat} {o:Oper} (ho:ops[i]? = some o)
    (hr:∀ e ∈ o.after.toList,bindsE e = true → S e.on) {j:Nat} (hb:Nat.testBit (natAt (befGo [] ops) i) j = true):S j:=by
  obtain ⟨e,he,hbe,hj⟩:=(bef_spec hok ho j).1 hb
  rcases hj with rfl | hj
  · exact hr e he hbe
  · exact bef_down hok hS e.on j (hr e he hbe) hj
theorem matM_out (p:Nat → Bool) (i:Id) (mem:Mem):∀ pn:List PN,(∀ x ∈ pn,p x.idx = true → x.id ≠ i) → mget i (matM p pn mem) = mget i mem
  | [],_=>rfl
  | x :: l,h=>by
    rw [matM]
    have ih:=matM_out p i mem l (fun y hy=>h y (by simp [hy]))
    cases hp:p x.idx with
    | true=>
      simp only [cond_true]
      rw [mget_mput_ne (Ne.symm (h x (by simp) hp))];exact ih
    | false=>simpa using ih
theorem matM_in (p:Nat → Bool) (mem:Mem):∀ pn:List PN,pn.Pairwise (fun x y=>x.id ≠ y.id) → ∀ x ∈ pn,p x.idx = true → mget x.id (matM p pn mem) = some x.ob
  | [],_,x,hx,_=>by simp at hx
  | y :: l,hd,x,hx,hp=>by
    have h1:=List.pairwise_cons.1 hd
    rw [matM]
    rcases List.mem_cons.1 hx with rfl | hx
    · rw [hp];simp [mget_mput]
    · have ih:=matM_in p mem l h1.2 x hx hp
      have hne:x.id ≠ y.id:=Ne.symm (h1.1 x hx)
      cases hpy:p y.idx with
      | true=>simp only [cond_true];rw [mget_mput_ne hne];exact ih
      | false=>simpa using ih
theorem matM_congr {p q:Nat → Bool} (mem:Mem):∀ pn:List PN,(∀ x ∈ pn,p x.idx = q x.idx) → matM p pn mem = matM q pn mem
  | [],_=>rfl
  | x :: l,h=>by
    rw [matM,matM,h x (by simp),matM_congr mem l (fun y hy=>h y (by simp [hy]))]
theorem matM_cases (p:Nat → Bool) (mem:Mem) (pn:List PN) (hd:pn.Pairwise (fun x y=>x.id ≠ y.id)) (i:Id) (ob:O) (h:mget i (matM p pn mem) = some ob) :
    (∃ x ∈ pn,p x.idx = true ∧ x.id = i ∧ x.ob = ob) ∨ ((∀ x ∈ pn,p x.idx = true → x.id ≠ i) ∧ mget i mem = some ob):=by
  by_cases hx:∃ x ∈ pn,p x.idx = true ∧ x.id = i
  · obtain ⟨x,h1,h2,rfl⟩:=hx
    rw [matM_in p mem pn hd x h1 h2] at h
    exact .inl ⟨x,h1,h2,rfl,Option.some.inj h⟩
  · have hall:∀ x ∈ pn,p x.idx = true → x.id ≠ i:=fun x h1 h2 h3=>hx ⟨x,h1,h2,h3⟩
    rw [matM_out p i mem pn hall] at h
    exact .inr ⟨hall,h⟩
theorem eget_top (t:Nat):eget t topEnv = .top:=by
  unfold eget topEnv N8.all
  cases dg (t / 64) <;> cases dg (t / 8 % 8) <;> cases dg (t % 8) <;> rfl
theorem eget_envM_def (e:Env):∀ l:List Nat,(∀ t ∈ l,t < 511) → eget defSlot (envM e l) = eget defSlot e
  | [],_=>by rw [envM,eget_eset]
  | t :: l,h=>by
    have ht:=h t (by simp)
    rw [envM,eget_eset_ne (by decide) (by omega) (by show 511 ≠ t;omega)]
    exact eget_envM_def e l (fun x hx=>h x (by simp [hx]))
theorem eget_envM (e:Env) (t:Nat) (ht:t < 511):∀ l:List Nat,(∀ t ∈ l,t < 511) → eget t (envM e l) = if t ∈ l then eget t e else .top
  | [],_=>by
    rw [envM,eget_eset_ne (by omega) (by decide) (by show t ≠ 511;omega)]
    simp [eget_top]
  | x :: l,h=>by
    have hx:=h x (by simp)
    rw [envM]
    by_cases e1:t = x
    · subst e1;rw [eget_eset];simp
    · rw [eget_eset_ne (by omega) (by omega) e1,eget_envM e t ht l (fun y hy=>h y (by simp [hy]))]
      simp [e1]
theorem envM_congr {e e':Env} (hd:eget defSlot e = eget defSlot e'):∀ l:List Nat,(∀ t ∈ l,eget t e = eget t e') → envM e l = envM e' l
  | [],_=>by rw [envM,envM,hd]
  | t :: l,h=>by rw [envM,envM,h t (by simp),envM_congr hd l (fun x hx=>h x (by simp [hx]))]
theorem envM_R {n:Nat} {e:Env} {a:Act} (hs:a.tmps.size = n) (hn:n ≤ 511) (hd:∃ l,eget defSlot e = .tup l ∧ DfrR m l a.defers) (l:List Nat) (hl:∀ t ∈ l,t < n) (hR:∀ t ∈ l,R m (eget t e) (a.tmps.getD t undef)):EnvR m n (envM e l) a:=by
  refine ⟨hs,hn,fun t ht=>?_,?_⟩
  · rw [eget_envM e t (by omega) l (fun x hx=>by have:=hl x hx;omega)]
    split
    · rename_i h;exact hR t h
    · simp [R]
  · rw [eget_envM_def e l (fun x hx=>by have:=hl x hx;omega)];exact hd
theorem looksE_lt {n:Nat} {ops:Array Oper} (hreg:regOk P n ops = true) {i:Nat} {o:Oper} (ho:ops[i]? = some o):∀ t ∈ looksE ops.toList o,t < n:=by
  intro t ht
  obtain ⟨h1,h2⟩:=regOk_get hreg ho
  simp only [looksE,List.mem_append] at ht
  rcases ht with ht | ht
  · simp only [tmpsOf,List.mem_filterMap] at ht
    obtain ⟨x,hx,hxt⟩:=ht
    have:=(List.all_eq_true.1 h1) x hx
    cases x with
    | tmp t'=>simp at hxt;subst hxt;simpa [opOk] using this
    | _=>simp at hxt
  · simp only [gDst] at ht
    cases hg:o.guard with
    | none=>rw [hg] at ht;simp at ht
    | some jw=>
      obtain ⟨j,want⟩:=jw
      rw [hg] at ht
      simp only [nthO_eq,Array.getElem?_toList,Option.mem_toList] at ht
      cases hj:ops[j]? with
      | none=>rw [hj] at ht;simp at ht
      | some oj=>
        rw [hj] at ht
        exact dst_lt (regOk_get hreg hj).2 (by simpa using ht)
theorem gdC_wanted {n:Nat} {e:Env} {a:Act} {ops:Array Oper} (hreg:regOk P n ops = true) (k:EnvR m n e a) {o:Oper} {b:Bool} (h:gdC ops.toList o e = some b):Region.wanted o (yielded ops a.tmps) = b:=by
  unfold gdC at h
  cases hgd:o.guard with
  | none=>rw [hgd] at h;simp at h;subst h;simp [Region.wanted,hgd]
  | some jw=>
    obtain ⟨j,want⟩:=jw
    rw [hgd] at h
    simp only [nthO_eq,Array.getElem?_toList] at h
    cases hj:(ops[j]?).bind (·.dst) with
    | none=>rw [hj] at h;cases h
    | some g=>
      rw [hj] at h
      simp only at h
      have hlt:g < n:=by
        cases ho:ops[j]? with
        | none=>rw [ho] at hj;cases hj
        | some oj=>rw [ho] at hj;exact dst_lt (regOk_get hreg ho).2 (by simpa using hj)
      obtain ⟨g1,g2⟩:=guard_spec hreg hj k.size (k.val g hlt) want
      have hwd:Region.wanted o (yielded ops a.tmps) = (yielded ops a.tmps j == some want):=by simp [Region.wanted,hgd]
      split at h
      · rename_i b' hb
        rw [hwd,g1 b' hb];exact Option.some.inj h
      · rename_i hb
        rw [hwd,g2 hb];exact Option.some.inj h
      · cases h
end Go.Ev
end
section
namespace Go.Ev
open Go
variable {P:Program} {m:Mp} {w:World}
def Sb (listed:Array Bool) (j:Nat):Bool:=listed.getD j false
theorem Sb_set {listed:Array Bool} {i:Nat} (hi:i < listed.size) (j:Nat):Sb (listed.setIfInBounds i true) j = (decide (j = i) || Sb listed j):=by
  unfold Sb
  by_cases e:j = i
  · subst e;simp [hi]
  · simp [Array.getD_eq_getD_getElem?,Array.getElem?_setIfInBounds,Ne.symm e,e]
theorem binds_any (e:Edge):Region.binds .any e = bindsE e:=by
  unfold Region.binds bindsE
  cases e.ground <;> rfl
theorem touches_iff {ops:List Oper} {d:Nat} {o:Oper}:touches ops d o = true ↔ d ∈ looksE ops o ∨ o.dst = some d:=by
  unfold touches dstIs
  rw [Bool.or_eq_true,memN_iff]
  cases h:o.dst with
  | none=>simp
  | some d'=>
    simp only [Option.some.injEq]
    constructor
    · rintro (h1 | h1)
      · exact .inl h1
      · exact .inr (Nat.eq_of_beq_eq_true h1)
    · rintro (h1 | h1)
      · exact .inl h1
      · exact .inr (by subst h1;exact Nat.beq_refl _)
theorem late_spec {ops:List Oper} {bef:List Nat} {i:Nat} {o:Oper} (h:isLate ops bef i o = false) {d:Nat} (hd:o.dst = some d) :
    d ∉ looksE ops o ∧ ∀ j oj,ops[j]? = some oj → j ≠ i → (d ∈ looksE ops oj ∨ oj.dst = some d) → Nat.testBit (natAt bef j) i = true:=by
  unfold isLate at h
  rw [hd] at h
  simp only [Bool.or_eq_false_iff] at h
  refine ⟨fun hm=>by rw [(memN_iff _ _).2 hm] at h;exact absurd h.1 (by simp),?_⟩
  intro j oj hj hne ht
  have:=zipI_any_false h.2 hj
  simp only [touches_iff.2 ht,Bool.true_and,Bool.and_eq_false_iff,Bool.not_eq_false'] at this
  rcases this with h1 | h1
  · exact absurd (Nat.eq_of_beq_eq_true h1) hne
  · exact h1
theorem kn_late {ops:List Oper} {bef:List Nat} {i:Nat} {o:Oper} (h:knOf P ops bef i o ≠ .heavy):isLate ops bef i o = false:=by
  unfold knOf at h
  cases hl:isLate ops bef i o with
  | false=>rfl
  | true=>rw [hl] at h;exact absurd rfl h
theorem ord_spec {ops:List Oper} {bef:List Nat} (h:ordOk ops bef = true) {i:Nat} {o:Oper} (ho:ops[i]? = some o) {d:Nat} (hd:o.dst = some d) {j:Nat} {oj:Oper} (hj:ops[j]? = some oj) (hne:j ≠ i)
    (ht:d ∈ looksE ops oj ∨ oj.dst = some d):Nat.testBit (natAt bef j) i = true ∨ Nat.testBit (natAt bef i) j = true:=by
  have:=zipI_all h ho
  simp only [hd] at this
  have:=zipI_all this hj
  simp only [touches_iff.2 ht,Bool.not_true,Bool.false_or,Bool.or_eq_true] at this
  rcases this with h1 | h1
  · exact absurd (Nat.eq_of_beq_eq_true h1) hne
  · exact h1
theorem eget_setD {t:Nat} (ht:t < 512) {d:Option Nat} (hd:∀ x,d = some x → x < 512) (v:V) (e:Env):eget t (setD d v e) = if d = some t then v else eget t e:=by
  cases d with
  | none=>simp [setD]
  | some x=>
    simp only [setD,Option.some.injEq]
    by_cases e1:x = t
    · subst e1;rw [eget_eset];simp
    · rw [eget_eset_ne ht (hd x rfl) (Ne.symm e1)];simp [e1]
theorem bit_or (T s j:Nat):Nat.testBit (T ||| 2 ^ s) j = (decide (j = s) || Nat.testBit T j):=by
  rw [Nat.testBit_or,Nat.testBit_two_pow]
  by_cases e:s = j
  · subst e;simp
  · simp [e,Ne.symm e]
theorem plan_cons {ops:List Oper} {bef tl:List Nat} {T s:Nat} {l:List Nat} (h:planE ops bef tl T (s :: l) = true) :
    Nat.testBit T s = false ∧ (∀ x,Nat.testBit (natAt bef s) x = true → Nat.testBit T x = true) ∧ (∃ o,ops[s]? = some o) ∧ planE ops bef tl (T ||| 2 ^ s) l = true:=by
  rw [planE] at h
  simp only [Bool.and_eq_true,Bool.not_eq_true',nthO_eq] at h
  obtain ⟨h1,h2,h3,h4⟩:=h
  refine ⟨h1,?_,Option.isSome_iff_exists.1 h3,h4⟩
  intro x hx
  have:=Nat.eq_of_beq_eq_true h2
  rw [← this,Nat.testBit_and] at hx
  simp only [Bool.and_eq_true] at hx
  exact hx.2
theorem chain_cons {ops:List Oper} {bef tl:List Nat} {s:Nat} {l:List Nat} (h:chainE P ops bef tl (s :: l) = true) :
    (∀ o,ops[s]? = some o → knOf P ops bef s o = .heavy → (∀ x ∈ l,Nat.testBit (natAt bef x) s = true) ∧ ∀ x ∈ tl,Nat.testBit (natAt bef x) s = true) ∧ chainE P ops bef tl l = true:=by
  rw [chainE] at h
  simp only [Bool.and_eq_true,nthO_eq] at h
  refine ⟨?_,h.2⟩
  intro o ho hk
  have h1:=h.1
  rw [ho] at h1
  simp only [hk,Kn.isHeavy,Bool.not_true,Bool.false_or,Bool.and_eq_true,List.all_eq_true] at h1
  exact h1
theorem plan_mem {ops:List Oper} {bef tl:List Nat}:∀ (l:List Nat) (T:Nat),planE ops bef tl T l = true → ∀ i o,ops[i]? = some o → Nat.testBit T i = false → i ∈ l ∨ i ∈ tl
  | [],T,h,i,o,ho,hT=>by
    rw [planE] at h
    have:=zipI_all h ho
    simp only [hT,Bool.false_or,memN_iff] at this
    exact .inr this
  | s :: l,T,h,i,o,ho,hT=>by
    by_cases e:i = s
    · simp [e]
    · obtain ⟨_,_,_,h4⟩:=plan_cons h
      rcases plan_mem l _ h4 i o ho (by rw [bit_or];simp [e,hT]) with h1 | h1
      · exact .inl (List.mem_cons_of_mem _ h1)
      · exact .inr h1
theorem pcAll_mem {h:H}:∀ {l:List PC},pcAll h l = true → ∀ c ∈ l,c.chk h = true
  | [],_,c,hc=>by simp at hc
  | x :: l,hl,c,hc=>by
    simp only [pcAll,Bool.and_eq_true] at hl
    rcases List.mem_cons.1 hc with rfl | hc
    · exact hl.1
    · exact pcAll_mem hl.2 c hc
theorem pw_ne {α:Type} {r:α → α → Prop} (hs:∀ x y,r x y → r y x):∀ {l:List α},l.Pairwise r → ∀ x ∈ l,∀ y ∈ l,x ≠ y → r x y
  | [],_,x,hx,_,_,_=>by simp at hx
  | a :: l,h,x,hx,y,hy,hne=>by
    have h1:=List.pairwise_cons.1 h
    rcases List.mem_cons.1 hx with ex | hx1 <;> rcases List.mem_cons.1 hy with ey | hy1
    · exact absurd (ex.trans ey.symm) hne
    · rw [ex];exact h1.1 y hy1
    · rw [ey];exact hs _ _ (h1.1 x hx1)
    · exact pw_ne hs h1.2 x hx1 y hy1 hne
def PendOk (P:Program) (ops:List Oper) (e:Env) (h:H) (pn:List PN) (pc:List PC) (i:Nat) (o:Oper):Kn → Prop
  | .light=>(∀ x ∈ pn,x.idx ≠ i) ∧ ∃ v,(∀ d,o.dst = some d → eget d e = v) ∧ litC P ops o (envM e (looksE ops o)) (hq h) = some v ∧
      ∃ c ∈ pc,c.idx = i ∧ c.chk = fun h'=>eqO v (litC P ops o (envM e (looksE ops o)) h')
  | .new=>(gdC ops o (envM e (looksE ops o)) = some true ∧ ∃ x ∈ pn,x.idx = i ∧ ∃ nv,(newP P o.op).run (envM e (looksE ops o)) = some nv ∧ x.ob = nv.ob x.id ∧ ∀ d,o.dst = some d → eget d e = nv.v x.id) ∨
      ((∀ x ∈ pn,x.idx ≠ i) ∧ gdC ops o (envM e (looksE ops o)) = some false ∧ ∀ d,o.dst = some d → eget d e = undefV)
  | .heavy=>False
theorem PendOk.mono {ops:List Oper} {e e':Env} {h h':H} {pn pn':List PN} {pc pc':List PC} {i:Nat} {o:Oper}:∀ {kn:Kn},PendOk P ops e h pn pc i o kn → envM e' (looksE ops o) = envM e (looksE ops o) → (∀ d,o.dst = some d → eget d e' = eget d e) →
    (∀ x,x.idx = i → (x ∈ pn ↔ x ∈ pn')) → (∀ c ∈ pc,c.idx = i → c ∈ pc') →
    (∀ (q:H → Option V) v,(∃ c ∈ pc,c.idx = i ∧ c.chk = fun h'=>eqO v (q h')) → q (hq h) = some v → q (hq h') = some v) → PendOk P ops e' h' pn' pc' i o kn
  | .light,k,he,hd,hpn,hpc,hh=>by
    obtain ⟨k0,v,k1,k2,c,k3,k4,k5⟩:=k
    refine ⟨fun x hx hxi=>k0 x ((hpn x hxi).2 hx) hxi,v,fun d hd'=>by rw [hd d hd'];exact k1 d hd',?_,c,hpc c k3 k4,k4,by rw [he];exact k5⟩
    rw [he]
    exact hh (fun h'=>litC P ops o (envM e (looksE ops o)) h') v ⟨c,k3,k4,k5⟩ k2
  | .new,k,he,hd,hpn,hpc,hh=>by
    rcases k with ⟨k1,x,k2,k3,nv,k4,k5,k6⟩ | ⟨k0,k1,k2⟩
    · exact .inl ⟨by rw [he];exact k1,x,(hpn x k3).1 k2,k3,nv,by rw [he];exact k4,k5,fun d hd'=>by rw [hd d hd'];exact k6 d hd'⟩
    · exact .inr ⟨fun x hx hxi=>k0 x ((hpn x hxi).2 hx) hxi,by rw [he];exact k1,fun d hd'=>by rw [hd d hd'];exact k2 d hd'⟩
  | .heavy,k,_,_,_,_,_=>k.elim
structure Core (P:Program) (n:Nat) (ops:Array Oper) (m0:Mp) (h0:H) (w0:World) (listed:Array Bool) (T:Nat) (e:Env) (h:H) (pn:List PN) (pc:List PC) (m:Mp) (a:Act) (w:World):Prop where
  lsz:listed.size = ops.size
  down:∀ i o,ops.toList[i]? = some o → Sb listed i = true → ∀ x ∈ o.after.toList,bindsE x = true → Sb listed x.on = true
  sT:∀ j,Sb listed j = true → Nat.testBit T j = true
  tT:∀ j,Nat.testBit T j = true → ∀ x,Nat.testBit (natAt (befGo [] ops.toList) j) x = true → Nat.testBit T x = true
  pend:∀ j o,ops.toList[j]? = some o → Nat.testBit T j = true → Sb listed j = false → PendOk P ops.toList e h pn pc j o (knOf P ops.toList (befGo [] ops.toList) j o)
  size:a.tmps.size = n
  le:n ≤ 511
  dfr:∃ l,eget defSlot e = .tup l ∧ DfrR m l a.defers
  env:∀ t,t < n → (∃ i o,Nat.testBit T i = true ∧ Sb listed i = false ∧ ops.toList[i]? = some o ∧ o.dst = some t) ∨ R m (eget t e) (a.tmps.getD t undef)
  fr:Fr m0 h0 w0 m (matH (Sb listed) pn h) w
  gl:Gl P m
  pnd:pn.Pairwise (fun x y=>x.id ≠ y.id ∧ x.idx ≠ y.idx)
  pn1:∀ x ∈ pn,Nat.testBit T x.idx = true ∧ (∃ o,ops.toList[x.idx]? = some o) ∧ h0.next.toNat ≤ x.id.toNat ∧ x.id.toNat < h.next.toNat ∧ mget x.id h.mem = none
  pn2:∀ x ∈ pn,(∀ b sz els f ro,mget b h.mem = some (.cells sz els f ro) → f ≠ x.id) ∧ (∀ sz els f ro,x.ob = .cells sz els f ro → f = x.id) ∧ (Sb listed x.idx = false → m x.id = none)
structure Inv (P:Program) (n:Nat) (ops:Array Oper) (base:DOp2) (tl:List Nat) (call:CallT) (e':Env) (h':H) (m0:Mp) (h0:H) (w0:World) (listed:Array Bool) (T:Nat) (l:List Nat) (e:Env) (h:H) (pn:List PN) (pc:List PC) (m:Mp) (a:Act) (w:World):Prop
    extends Core P n ops m0 h0 w0 listed T e h pn pc m a w where
  plan:planE ops.toList (befGo [] ops.toList) tl T l = true
  run:(drawE P base ops.toList (befGo [] ops.toList) l).run call e h pn pc = .ok e' h'
section
variable {n:Nat} {ops:Array Oper} {base:DOp2} {tl:List Nat} {call:CallT} {e':Env} {h':H} {m0:Mp} {h0:H} {w0:World} {listed:Array Bool} {T:Nat} {l:List Nat} {e:Env} {h:H} {pn:List PN} {pc:List PC} {a:Act}
theorem Core.pid (k:Core P n ops m0 h0 w0 listed T e h pn pc m a w):pn.Pairwise (fun x y=>x.id ≠ y.id):=k.pnd.imp (fun h=>h.1)
theorem Core.inj (k:Core P n ops m0 h0 w0 listed T e h pn pc m a w) {x y:PN} (hx:x ∈ pn) (hy:y ∈ pn) (hne:x ≠ y):x.id ≠ y.id ∧ x.idx ≠ y.idx:=
  pw_ne (fun _ _ h=>⟨Ne.symm h.1,Ne.symm h.2⟩) k.pnd x hx y hy hne
theorem adv_env (hord:ordOk ops.toList (befGo [] ops.toList) = true) (hreg:regOk P n ops = true) {s:Nat} (k:Inv P n ops base tl call e' h' m0 h0 w0 listed T (s :: l) e h pn pc m a w) {o:Oper} (ho:ops.toList[s]? = some o)
    (hS:∀ x,Nat.testBit (natAt (befGo [] ops.toList) s) x = true → knOf P ops.toList (befGo [] ops.toList) s o = .heavy → Sb listed x = true) (v:V) :
    ∀ j oj,ops.toList[j]? = some oj → Nat.testBit T j = true → Sb listed j = false → (∀ t,t ∈ looksE ops.toList oj ∨ oj.dst = some t → o.dst ≠ some t):=by
  intro j oj hj hT hSj t ht hd
  obtain ⟨hsT,hbT,_,_⟩:=plan_cons k.plan
  have hne:j ≠ s:=fun e=>by subst e;rw [hT] at hsT;cases hsT
  have hjs:¬ Nat.testBit (natAt (befGo [] ops.toList) j) s = true:=fun hb=>by
    have:=k.tT j hT s hb;rw [this] at hsT;cases hsT
  by_cases hk:knOf P ops.toList (befGo [] ops.toList) s o = .heavy
  · rcases ord_spec hord ho hd hj hne ht with h1 | h1
    · exact hjs h1
    · rw [hS j h1 hk] at hSj;cases hSj
  · exact hjs ((late_spec (kn_late hk) hd).2 j oj hj hne ht)
theorem env_same {o oj:Oper} {i:Nat} {v:V} (hle:n ≤ 511) (hreg:regOk P n ops = true) (hdo:dstOk n o.dst = true) {j:Nat} (hj:ops.toList[j]? = some oj) (hne:∀ t,t ∈ looksE ops.toList oj ∨ oj.dst = some t → o.dst ≠ some t) :
    envM (setD o.dst v e) (looksE ops.toList oj) = envM e (looksE ops.toList oj) ∧ ∀ d,oj.dst = some d → eget d (setD o.dst v e) = eget d e:=by
  have hj':ops[j]? = some oj:=by simpa using hj
  have hd512:∀ x:Nat,o.dst = some x → x < 512:=fun x hx=>by have:=dst_lt hdo hx;omega
  constructor
  · refine envM_congr ?_ _ ?_
    · rw [eget_setD (by decide) hd512]
      have:o.dst ≠ some defSlot:=fun hx=>by have:=dst_lt hdo hx;simp [defSlot] at this;omega
      simp [this]
    · intro t ht
      have:=looksE_lt hreg hj' t ht
      rw [eget_setD (by omega) hd512];simp [hne t (.inl ht)]
  · intro d hd
    have:=dst_lt (regOk_get hreg hj').2 hd
    rw [eget_setD (by omega) hd512];simp [hne d (.inr hd)]
theorem dfr_set {o:Oper} {v:V} (hle:n ≤ 511) (hdo:dstOk n o.dst = true):eget defSlot (setD o.dst v e) = eget defSlot e:=by
  have hd512:∀ x:Nat,o.dst = some x → x < 512:=fun x hx=>by have:=dst_lt hdo hx;omega
  rw [eget_setD (by decide) hd512]
  have:o.dst ≠ some defSlot:=fun hx=>by have:=dst_lt hdo hx;simp [defSlot] at this;omega
  simp [this]
theorem adv_light (hord:ordOk ops.toList (befGo [] ops.toList) = true) (hreg:regOk P n ops = true) {s:Nat} (k:Inv P n ops base tl call e' h' m0 h0 w0 listed T (s :: l) e h pn pc m a w) {o:Oper} (ho:ops.toList[s]? = some o)
    (hk:knOf P ops.toList (befGo [] ops.toList) s o = .light):∃ e1 pc1,Inv P n ops base tl call e' h' m0 h0 w0 listed (T ||| 2 ^ s) l e1 h pn pc1 m a w:=by
  have hrun:=k.run
  rw [drawE] at hrun
  simp only [nthO_eq,ho,hk] at hrun
  have ho':ops[s]? = some o:=by simpa using ho
  obtain ⟨hops,hdo⟩:=regOk_get hreg ho'
  obtain ⟨hsT,hbT,_,hpl⟩:=plan_cons k.plan
  have hSs:Sb listed s = false:=by
    cases hx:Sb listed s with
    | false=>rfl
    | true=>rw [k.sT s hx] at hsT;cases hsT
  cases hv:litC P ops.toList o (envM e (looksE ops.toList o)) (hq h) with
  | none=>rw [hv] at hrun;cases hrun
  | some v=>
    rw [hv] at hrun
    simp only at hrun
    have hdiff:=adv_env hord hreg k ho (fun x _ hh=>by rw [hk] at hh;cases hh) v
    have hlate:=kn_late (P:=P) (ops:=ops.toList) (bef:=befGo [] ops.toList) (i:=s) (o:=o) (by rw [hk];simp)
    have hself:∀ t,t ∈ looksE ops.toList o → o.dst ≠ some t:=fun t ht hd=>(late_spec hlate hd).1 ht
    have hselfM:envM (setD o.dst v e) (looksE ops.toList o) = envM e (looksE ops.toList o):=by
      refine envM_congr (dfr_set k.le hdo) _ ?_
      intro t ht
      have:=looksE_lt hreg ho' t ht
      have hle:=k.le
      rw [eget_setD (by omega) (fun x hx=>by have:=dst_lt hdo hx;omega)];simp [hself t ht]
    refine ⟨setD o.dst v e,⟨s,fun h'=>eqO v (litC P ops.toList o (envM e (looksE ops.toList o)) h')⟩ :: pc,⟨⟨k.lsz,k.down,fun j hj=>by rw [bit_or];simp [k.sT j hj],?_,?_,k.size,k.le,?_,?_,k.fr,k.gl,k.pnd,?_,k.pn2⟩,hpl,hrun⟩⟩
    · intro j hj x hx
      rw [bit_or] at hj ⊢
      simp only [Bool.or_eq_true,decide_eq_true_eq] at hj ⊢
      rcases hj with rfl | hj
      · exact .inr (hbT x hx)
      · exact .inr (k.tT j hj x hx)
    · intro j oj hj hT hS
      rw [bit_or] at hT
      simp only [Bool.or_eq_true,decide_eq_true_eq] at hT
      by_cases e1:j = s
      · subst e1
        rw [ho] at hj;cases hj
        rw [hk]
        refine ⟨fun x hx hxi=>?_,v,fun d hd=>?_,?_,_,List.mem_cons_self,rfl,?_⟩
        · have:=(k.pn1 x hx).1;rw [hxi,hsT] at this;cases this
        · have:=dst_lt hdo hd
          have hle:=k.le
          rw [eget_setD (by omega) (fun x hx=>by have:=dst_lt hdo hx;omega)];simp [hd]
        · rw [hselfM];exact hv
        · rw [hselfM]
      · have hT:Nat.testBit T j = true:=hT.resolve_left e1
        obtain ⟨q1,q2⟩:=env_same (v:=v) (e:=e) (i:=s) k.le hreg hdo hj (hdiff j oj hj hT hS)
        exact (k.pend j oj hj hT hS).mono q1 q2 (fun x _=>Iff.rfl) (fun c hc _=>List.mem_cons_of_mem _ hc) (fun q v _ hq=>hq)
    · rw [dfr_set k.le hdo];exact k.dfr
    · intro t ht
      by_cases e1:o.dst = some t
      · exact .inl ⟨s,o,by rw [bit_or];simp,hSs,ho,e1⟩
      · have hle:=k.le
        rw [eget_setD (by omega) (fun x hx=>by have:=dst_lt hdo hx;omega)]
        rw [if_neg e1]
        rcases k.env t ht with ⟨i,oi,h1,h2,h3,h4⟩ | h1
        · exact .inl ⟨i,oi,by rw [bit_or];simp [h1],h2,h3,h4⟩
        · exact .inr h1
    · intro x hx
      obtain ⟨h1,h2⟩:=k.pn1 x hx
      exact ⟨by rw [bit_or];simp [h1],h2⟩
theorem adv_new (hord:ordOk ops.toList (befGo [] ops.toList) = true) (hreg:regOk P n ops = true) {s:Nat} (k:Inv P n ops base tl call e' h' m0 h0 w0 listed T (s :: l) e h pn pc m a w) {o:Oper} (ho:ops.toList[s]? = some o)
    (hk:knOf P ops.toList (befGo [] ops.toList) s o = .new) (hnv:∀ nv,(newP P o.op).run (envM e (looksE ops.toList o)) = some nv → ∀ i sz els f ro,nv.ob i = .cells sz els f ro → f = i) :
    ∃ e1 h1 pn1,Inv P n ops base tl call e' h' m0 h0 w0 listed (T ||| 2 ^ s) l e1 h1 pn1 pc m a w:=by
  have hrun:=k.run
  rw [drawE] at hrun
  simp only [nthO_eq,ho,hk] at hrun
  have ho':ops[s]? = some o:=by simpa using ho
  obtain ⟨hops,hdo⟩:=regOk_get hreg ho'
  obtain ⟨hsT,hbT,_,hpl⟩:=plan_cons k.plan
  have hle:=k.le
  have hSs:Sb listed s = false:=by
    cases hx:Sb listed s with
    | false=>rfl
    | true=>rw [k.sT s hx] at hsT;cases hsT
  have hlate:=kn_late (P:=P) (ops:=ops.toList) (bef:=befGo [] ops.toList) (i:=s) (o:=o) (by rw [hk];simp)
  have hself:∀ t,t ∈ looksE ops.toList o → o.dst ≠ some t:=fun t ht hd=>(late_spec hlate hd).1 ht
  have hselfM:∀ v,envM (setD o.dst v e) (looksE ops.toList o) = envM e (looksE ops.toList o):=fun v=>by
    refine envM_congr (dfr_set k.le hdo) _ ?_
    intro t ht
    have:=looksE_lt hreg ho' t ht
    rw [eget_setD (by omega) (fun x hx=>by have:=dst_lt hdo hx;omega)];simp [hself t ht]
  have htT:∀ j,Nat.testBit (T ||| 2 ^ s) j = true → ∀ x,Nat.testBit (natAt (befGo [] ops.toList) j) x = true → Nat.testBit (T ||| 2 ^ s) x = true:=by
    intro j hj x hx
    rw [bit_or] at hj ⊢
    simp only [Bool.or_eq_true,decide_eq_true_eq] at hj ⊢
    rcases hj with rfl | hj
    · exact .inr (hbT x hx)
    · exact .inr (k.tT j hj x hx)
  have henv:∀ v t,t < n → (∃ i o,Nat.testBit (T ||| 2 ^ s) i = true ∧ Sb listed i = false ∧ ops.toList[i]? = some o ∧ o.dst = some t) ∨ R m (eget t (setD o.dst v e)) (a.tmps.getD t undef):=by
    intro v t ht
    by_cases e1:o.dst = some t
    · exact .inl ⟨s,o,by rw [bit_or];simp,hSs,ho,e1⟩
    · rw [eget_setD (by omega) (fun x hx=>by have:=dst_lt hdo hx;omega)]
      rw [if_neg e1]
      rcases k.env t ht with ⟨i,oi,h1,h2,h3,h4⟩ | h1
      · exact .inl ⟨i,oi,by rw [bit_or];simp [h1],h2,h3,h4⟩
      · exact .inr h1
  have hnoS:∀ x ∈ pn,x.idx ≠ s:=fun x hx hxi=>by have:=(k.pn1 x hx).1;rw [hxi,hsT] at this;cases this
  cases hgd:gdC ops.toList o (envM e (looksE ops.toList o)) with
  | none=>rw [hgd] at hrun;cases hrun
  | some b=>
    rw [hgd] at hrun
    cases b with
    | false=>
      simp only at hrun
      have hdiff:=adv_env hord hreg k ho (fun x _ hh=>by rw [hk] at hh;cases hh) undefV
      refine ⟨setD o.dst undefV e,h,pn,⟨⟨k.lsz,k.down,fun j hj=>by rw [bit_or];simp [k.sT j hj],htT,?_,k.size,k.le,by rw [dfr_set k.le hdo];exact k.dfr,henv _,k.fr,k.gl,k.pnd,?_,k.pn2⟩,hpl,hrun⟩⟩
      · intro j oj hj hT hS
        rw [bit_or] at hT
        simp only [Bool.or_eq_true,decide_eq_true_eq] at hT
        by_cases e1:j = s
        · subst e1
          rw [ho] at hj;cases hj
          rw [hk]
          refine .inr ⟨hnoS,by rw [hselfM];exact hgd,fun d hd=>?_⟩
          have:=dst_lt hdo hd
          rw [eget_setD (by omega) (fun x hx=>by have:=dst_lt hdo hx;omega)];simp [hd]
        · have hT:Nat.testBit T j = true:=hT.resolve_left e1
          obtain ⟨q1,q2⟩:=env_same (v:=undefV) (e:=e) (i:=s) k.le hreg hdo hj (hdiff j oj hj hT hS)
          exact (k.pend j oj hj hT hS).mono q1 q2 (fun x _=>Iff.rfl) (fun c hc _=>hc) (fun q v _ hq=>hq)
      · intro x hx
        obtain ⟨h1,h2⟩:=k.pn1 x hx
        exact ⟨by rw [bit_or];simp [h1],h2⟩
    | true=>
      simp only at hrun
      cases hnw:(newP P o.op).run (envM e (looksE ops.toList o)) with
      | none=>rw [hnw] at hrun;cases hrun
      | some nv=>
        cases hnx:h.next.succ with
        | none=>rw [hnw,hnx] at hrun;cases hrun
        | some nx=>
          rw [hnw,hnx] at hrun
          simp only at hrun
          have hnxn:=Id.succ_toNat hnx
          have hdiff:=adv_env hord hreg k ho (fun x _ hh=>by rw [hk] at hh;cases hh) (nv.v h.next)
          have hmat:matH (Sb listed) (⟨s,h.next,nv.ob h.next⟩ :: pn) ⟨h.mem,h.fams,nx⟩ = ⟨(matH (Sb listed) pn h).mem,(matH (Sb listed) pn h).fams,nx⟩:=by
            simp [matH,matM,hSs]
          have hmn:m h.next = none:=by
            cases hx:m h.next with
            | none=>rfl
            | some lx=>exact absurd (k.fr.hr.dom _ _ hx) (Nat.lt_irrefl _)
          have hsub:∀ b ob,mget b h.mem = some ob → mget b (matM (Sb listed) pn h.mem) = some ob:=by
            intro b ob hb
            rw [matM_out]
            · exact hb
            · intro x hx _ e1
              have:=(k.pn1 x hx).2.2.2.2
              rw [e1,hb] at this;cases this
          have hmemn:mget h.next h.mem = none:=by
            cases hx:mget h.next h.mem with
            | none=>rfl
            | some ob=>
              obtain ⟨l,hl,_⟩:=k.fr.hr.obj _ _ (hsub _ _ hx)
              rw [hmn] at hl;cases hl
          refine ⟨setD o.dst (nv.v h.next) e,⟨h.mem,h.fams,nx⟩,⟨s,h.next,nv.ob h.next⟩ :: pn,⟨⟨k.lsz,k.down,fun j hj=>by rw [bit_or];simp [k.sT j hj],htT,?_,k.size,k.le,by rw [dfr_set k.le hdo];exact k.dfr,henv _,?_,k.gl,?_,?_,?_⟩,hpl,hrun⟩⟩
          · intro j oj hj hT hS
            rw [bit_or] at hT
            simp only [Bool.or_eq_true,decide_eq_true_eq] at hT
            by_cases e1:j = s
            · subst e1
              rw [ho] at hj;cases hj
              rw [hk]
              refine .inl ⟨by rw [hselfM];exact hgd,_,List.mem_cons_self,rfl,nv,by rw [hselfM];exact hnw,rfl,fun d hd=>?_⟩
              have:=dst_lt hdo hd
              rw [eget_setD (by omega) (fun x hx=>by have:=dst_lt hdo hx;omega)];simp [hd]
            · have hT:Nat.testBit T j = true:=hT.resolve_left e1
              obtain ⟨q1,q2⟩:=env_same (v:=nv.v h.next) (e:=e) (i:=s) k.le hreg hdo hj (hdiff j oj hj hT hS)
              refine (k.pend j oj hj hT hS).mono q1 q2 (fun x hx=>?_) (fun c hc _=>hc) (fun q v _ hq=>hq)
              constructor
              · exact fun h=>List.mem_cons_of_mem _ h
              · intro h
                rcases List.mem_cons.1 h with rfl | h
                · exact absurd hx.symm e1
                · exact h
          · rw [hmat]
            exact k.fr.bump (by show h.next.toNat ≤ nx.toNat;omega)
          · refine List.pairwise_cons.2 ⟨fun y hy=>⟨?_,?_⟩,k.pnd⟩
            · intro e1
              have h3:=(k.pn1 y hy).2.2.2.1
              have e2:h.next = y.id:=e1
              rw [← e2] at h3;exact absurd h3 (Nat.lt_irrefl _)
            · exact Ne.symm (hnoS y hy)
          · intro x hx
            rcases List.mem_cons.1 hx with rfl | hx
            · refine ⟨by rw [bit_or];simp,⟨o,ho⟩,?_,?_,hmemn⟩
              · have:=k.fr.nxt
                have h2:(matH (Sb listed) pn h).next = h.next:=rfl
                rw [h2] at this;exact this
              · show h.next.toNat < nx.toNat;omega
            · obtain ⟨h1,h2,h3,h4,h5⟩:=k.pn1 x hx
              exact ⟨by rw [bit_or];simp [h1],h2,h3,by show x.id.toNat < nx.toNat;omega,h5⟩
          · intro x hx
            rcases List.mem_cons.1 hx with rfl | hx
            · refine ⟨?_,fun sz els f ro e1=>hnv nv hnw _ _ _ _ _ e1,fun _=>hmn⟩
              intro b sz els f ro hb e1
              have:=k.fr.hr.famlt _ _ _ _ _ (hsub _ _ hb)
              have h2:(matH (Sb listed) pn h).next = h.next:=rfl
              rw [h2] at this
              have e2:f = h.next:=e1
              rw [e2] at this;exact absurd this (Nat.lt_irrefl _)
            · exact k.pn2 x hx
end
end Go.Ev
end
section
namespace Go.Ev
open Go
variable {P:Program} {m:Mp} {w:World}
theorem newP_fam {op:Op} {e:Env} {nv:NV} (hv:(newP P op).run e = some nv):∀ i sz els f ro,nv.ob i = .cells sz els f ro → f = i:=by
  have key:∀ ty s els vf,∀ i sz' els' f ro,(newCv ty s els vf).ob i = .cells sz' els' f ro → f = i:=by
    intro ty s els vf i sz' els' f ro h;cases h;rfl
  cases op <;> simp only [newP] at hv <;> (try (cases hv;done))
  case alloc t=>
    split at hv
    · split at hv
      · cases hv;exact key _ _ _ _
      · cases hv
    · cases hv
  case box t x=>
    split at hv
    · cases hv;exact key _ _ _ _
    · cases hv
  case makeMap t r=>
    cases r with
    | none=>cases hv;intro i sz els f ro h;cases h
    | some x=>
      simp only at hv
      split at hv
      · simp only at hv
        split at hv
        · cases hv;intro i sz els f ro h;cases h
        · cases hv
      · cases hv
  case convert s d x=>
    split at hv
    · split at hv
      · simp only at hv
        split at hv
        · cases hv;exact key _ _ _ _
        · cases hv
      · cases hv
    · cases hv
  case buildSlice t len ps=>
    split at hv
    · rename_i el hu
      split at hv
      · rename_i sz z hs hz
        split at hv
        · rename_i zc hc
          cases hcd:(Nat.ble (len * (sz + 1)) 16777216 && Nat.beq (lenV1 zc) (sz + 1)) with
          | false=>rw [hcd] at hv;cases hv
          | true=>
            rw [hcd] at hv
            simp only [cond_true] at hv
            split at hv
            · cases hv;exact key _ _ _ _
            · cases hv
        · cases hv
      · cases hv
    · cases hv
  case makeSlice t lx cx=>
    split at hv
    · rename_i el hu
      split at hv
      · rename_i sz z hs hz
        split at hv
        · rename_i zc inf hc hi
          cases hcd:(Nat.ble inf.bytes 1000000 && Nat.beq (lenV1 zc) (sz + 1)) with
          | false=>rw [hcd] at hv;cases hv
          | true=>
            rw [hcd] at hv
            simp only [cond_true] at hv
            split at hv
            · rename_i k1 N k2 M e1 e2
              cases hcd2:(Nat.ble N M && Nat.ble M 100000) with
              | false=>rw [hcd2] at hv;cases hv
              | true=>
                rw [hcd2] at hv
                simp only [cond_true] at hv
                cases hv;exact key _ _ _ _
            · cases hv
        · cases hv
      · cases hv
    · cases hv
theorem hvC_sound {n:Nat} {e:Env} {a:Act} {call:CallT} (hcall:CallOK P call) (k:EnvR m n e a) (hg:Gl P m) {h h':H} (hr:HR m h w) {o:Oper} (hops:o.op.operands.toList.all (opOk P n) = true) {v:V}
    (hv:hvC P o.op call e h = .ok v h'):HvOk P ((execOp a.eval o).run P w) m h w v h':=by
  unfold hvC at hv
  cases hh:isHeavy P o.op with
  | true=>rw [hh] at hv;exact heavy_sound hcall k hg hr hops hv
  | false=>
    rw [hh] at hv
    simp only [cond_false] at hv
    cases hl:(lightC P o.op).run e h with
    | none=>rw [hl] at hv;cases hv
    | some v'=>
      rw [hl] at hv
      cases hv
      obtain ⟨u,h1,h2⟩:=light_sound k hg hr hops hl
      exact .inl ⟨u,w,m,.inl h1,Fr.refl hr,h2⟩
theorem put_size (a:Act) (d:Option Nat) (u:Value):(a.put d u).tmps.size = a.tmps.size:=by cases d <;> simp [Act.put]
theorem put_defers' (a:Act) (d:Option Nat) (u:Value):(a.put d u).defers = a.defers:=by cases d <;> rfl
theorem put_getD {a:Act} {d:Option Nat} {u:Value} {t:Nat} (ht:t < a.tmps.size):(a.put d u).tmps.getD t undef = if d = some t then u else a.tmps.getD t undef:=by
  cases d with
  | none=>simp [Act.put]
  | some x=>
    by_cases e:x = t
    · subst e;simp [Act.put,Array.getD_eq_getD_getElem?,ht]
    · simp [Act.put,Array.getD_eq_getD_getElem?,Array.getElem?_setIfInBounds,e]
section
variable {n:Nat} {ops:Array Oper} {m0:Mp} {h0:H} {w0:World} {listed:Array Bool} {T:Nat} {l:List Nat} {e:Env} {h:H} {pn:List PN} {pc:List PC} {a:Act}
theorem Core.sub (k:Core P n ops m0 h0 w0 listed T e h pn pc m a w):∀ b ob,mget b h.mem = some ob → mget b (matM (Sb listed) pn h.mem) = some ob:=by
  intro b ob hb
  rw [matM_out]
  · exact hb
  · intro x hx _ e1
    have:=(k.pn1 x hx).2.2.2.2
    rw [e1,hb] at this;cases this
theorem Core.hrq (k:Core P n ops m0 h0 w0 listed T e h pn pc m a w):HR m (hq h) w:=by
  have:h.next.toNat ≤ idMax.toNat:=by
    have hmx:idMax.toNat = 32767:=rfl
    rw [hmx]
    obtain ⟨a,b,c,d,e⟩:=h.next
    have h1:=D8.toNat_lt a;have h2:=D8.toNat_lt b;have h3:=D8.toNat_lt c;have h4:=D8.toNat_lt d;have h5:=D8.toNat_lt e
    simp only [Id.toNat];omega
  exact k.fr.hr.sub (mem':=h.mem) k.sub this
theorem Core.looksR (hreg:regOk P n ops = true) (k:Core P n ops m0 h0 w0 listed T e h pn pc m a w) {i:Nat} {o:Oper} (ho:ops.toList[i]? = some o)
    (hbS:∀ x,Nat.testBit (natAt (befGo [] ops.toList) i) x = true → Sb listed x = true):EnvR m n (envM e (looksE ops.toList o)) a:=by
  have ho':ops[i]? = some o:=by simpa using ho
  refine envM_R k.size k.le k.dfr _ (looksE_lt hreg ho') ?_
  intro t ht
  rcases k.env t (looksE_lt hreg ho' t ht) with ⟨x,ox,hT,hS,hx,hd⟩ | h1
  · exfalso
    have hp:=k.pend x ox hx hT hS
    have hnh:knOf P ops.toList (befGo [] ops.toList) x ox ≠ .heavy:=fun hh=>by rw [hh] at hp;exact hp
    obtain ⟨l1,l2⟩:=late_spec (kn_late hnh) hd
    by_cases e1:i = x
    · subst e1;rw [ho] at hx;cases hx;exact l1 ht
    · have:=hbS x (l2 i o ho e1 (.inl ht))
      rw [this] at hS;cases hS
  · exact h1
theorem inv_done (k:Core P n ops m0 h0 w0 listed T e h pn pc m a w) {i:Nat} {o:Oper} (ho:ops.toList[i]? = some o) (hT:Nat.testBit T i = true)
    (hdn:∀ x ∈ o.after.toList,bindsE x = true → Sb listed x.on = true) {m':Mp} {w':World} {u:Value} (hm:m.le m') (hfr:Fr m0 h0 w0 m' (matH (Sb (listed.setIfInBounds i true)) pn h) w')
    (hu:∀ d,o.dst = some d → R m' (eget d e) u) (hpn:∀ x ∈ pn,Sb (listed.setIfInBounds i true) x.idx = false → m' x.id = none) :
    Core P n ops m0 h0 w0 (listed.setIfInBounds i true) T e h pn pc m' (a.put o.dst u) w':=by
  have hlt:i < listed.size:=by
    rw [k.lsz]
    have:i < ops.toList.length:=(List.getElem?_eq_some_iff.1 ho).1
    simpa using this
  have hSb:=Sb_set (listed:=listed) hlt
  have hmono:∀ j,Sb listed j = true → Sb (listed.setIfInBounds i true) j = true:=fun j hj=>by rw [hSb];simp [hj]
  have hback:∀ j,Sb (listed.setIfInBounds i true) j = false → j ≠ i ∧ Sb listed j = false:=fun j hj=>by
    rw [hSb] at hj;simpa using hj
  refine ⟨by simp [k.lsz],?_,?_,k.tT,?_,by rw [put_size];exact k.size,k.le,?_,?_,hfr,k.gl.mono hm,k.pnd,k.pn1,?_⟩
  · intro j oj hj hS x hx hb
    rw [hSb] at hS
    simp only [Bool.or_eq_true,decide_eq_true_eq] at hS
    rcases hS with rfl | hS
    · rw [ho] at hj;cases hj;exact hmono _ (hdn x hx hb)
    · exact hmono _ (k.down j oj hj hS x hx hb)
  · intro j hj
    rw [hSb] at hj
    simp only [Bool.or_eq_true,decide_eq_true_eq] at hj
    rcases hj with rfl | hj
    · exact hT
    · exact k.sT j hj
  · intro j oj hj hTj hS
    exact k.pend j oj hj hTj (hback j hS).2
  · rw [put_defers']
    obtain ⟨L,h1,h2⟩:=k.dfr
    exact ⟨L,h1,h2.mono hm⟩
  · intro t ht
    rw [put_getD (by rw [k.size];exact ht)]
    by_cases e1:o.dst = some t
    · rw [if_pos e1];exact .inr (hu t e1)
    · rw [if_neg e1]
      rcases k.env t ht with ⟨x,ox,h1,h2,h3,h4⟩ | h1
      · refine .inl ⟨x,ox,h1,?_,h3,h4⟩
        rw [hSb]
        have:x ≠ i:=fun e2=>by subst e2;rw [ho] at h3;cases h3;exact e1 h4
        simp [this,h2]
      · exact .inr (h1.mono hm)
  · intro x hx
    obtain ⟨p1,p2,p3⟩:=k.pn2 x hx
    exact ⟨p1,p2,hpn x hx⟩
theorem mat_same (k:Core P n ops m0 h0 w0 listed T e h pn pc m a w) {i:Nat} (hi:i < listed.size) (hno:∀ x ∈ pn,x.idx ≠ i):matH (Sb (listed.setIfInBounds i true)) pn h = matH (Sb listed) pn h:=by
  unfold matH
  rw [matM_congr h.mem pn (fun x hx=>by rw [Sb_set hi,decide_eq_false (hno x hx),Bool.false_or])]
theorem step_light (hreg:regOk P n ops = true) (k:Core P n ops m0 h0 w0 listed T e h pn pc m a w) {i:Nat} {o:Oper} (ho:ops.toList[i]? = some o) (hT:Nat.testBit T i = true) (hS:Sb listed i = false)
    (hdn:∀ x ∈ o.after.toList,bindsE x = true → Sb listed x.on = true) (hbS:∀ x,Nat.testBit (natAt (befGo [] ops.toList) i) x = true → Sb listed x = true)
    (hk:knOf P ops.toList (befGo [] ops.toList) i o = .light) {K:Act → World → Prop} {Q:Exit → Act → World → Prop}
    (hn:∀ m' a' w',Core P n ops m0 h0 w0 (listed.setIfInBounds i true) T e h pn pc m' a' w' → K a' w'):wpOp P ops Q i K a w:=by
  have ho':ops[i]? = some o:=by simpa using ho
  have hlt:i < listed.size:=by rw [k.lsz];exact (Array.getElem?_eq_some_iff.1 ho').1
  obtain ⟨hops,hdo⟩:=regOk_get hreg ho'
  have hE:=k.looksR hreg ho hbS
  have hp:=k.pend i o ho hT hS
  rw [hk] at hp
  obtain ⟨hno,v,hv1,hv2,_⟩:=hp
  unfold litC at hv2
  unfold wpOp
  simp only [ho']
  cases hgd:gdC ops.toList o (envM e (looksE ops.toList o)) with
  | none=>rw [hgd] at hv2;cases hv2
  | some b=>
    rw [hgd] at hv2
    have hw:=gdC_wanted hreg hE hgd
    cases b with
    | true=>
      simp only at hv2
      rw [if_pos hw]
      obtain ⟨u,h1,h2⟩:=light_sound hE k.gl k.hrq hops hv2
      refine .inl ?_
      unfold Oper.wp
      rw [h1,Oper.upon_value]
      refine hn m _ w (inv_done k ho hT hdn (Mp.le_refl m) ?_ (fun d hd=>by rw [hv1 d hd];exact h2) (fun x hx hs=>(k.pn2 x hx).2.2 ?_))
      · rw [mat_same k hlt hno];exact k.fr
      · rw [Sb_set hlt] at hs;simp at hs;exact hs.2
    | false=>
      simp only at hv2
      cases hv2
      rw [if_neg (by rw [hw];simp)]
      refine hn m _ w (inv_done k ho hT hdn (Mp.le_refl m) ?_ (fun d hd=>by rw [hv1 d hd];simp [R,Rl,undefV,undef]) (fun x hx hs=>(k.pn2 x hx).2.2 ?_))
      · rw [mat_same k hlt hno];exact k.fr
      · rw [Sb_set hlt] at hs;simp at hs;exact hs.2
theorem step_new (hreg:regOk P n ops = true) (k:Core P n ops m0 h0 w0 listed T e h pn pc m a w) {i:Nat} {o:Oper} (ho:ops.toList[i]? = some o) (hT:Nat.testBit T i = true) (hS:Sb listed i = false)
    (hdn:∀ x ∈ o.after.toList,bindsE x = true → Sb listed x.on = true) (hbS:∀ x,Nat.testBit (natAt (befGo [] ops.toList) i) x = true → Sb listed x = true)
    (hk:knOf P ops.toList (befGo [] ops.toList) i o = .new) {K:Act → World → Prop} {Q:Exit → Act → World → Prop}
    (hn:∀ m' a' w',Core P n ops m0 h0 w0 (listed.setIfInBounds i true) T e h pn pc m' a' w' → K a' w'):wpOp P ops Q i K a w:=by
  have ho':ops[i]? = some o:=by simpa using ho
  have hlt:i < listed.size:=by rw [k.lsz];exact (Array.getElem?_eq_some_iff.1 ho').1
  obtain ⟨hops,hdo⟩:=regOk_get hreg ho'
  have hE:=k.looksR hreg ho hbS
  have hp:=k.pend i o ho hT hS
  rw [hk] at hp
  unfold wpOp
  simp only [ho']
  have hSb:=Sb_set (listed:=listed) hlt
  rcases hp with ⟨hgd,x,hx,hxi,nv,hnw,hob,hdst⟩ | ⟨hno,hgd,hdst⟩
  · rw [if_pos (gdC_wanted hreg hE hgd)]
    obtain ⟨s,hs,u,ob,lc,w',hrun,hheap,hos,htape,hout,hblk,hwr,hfam,hobj,hval⟩:=newP_sound (w:=w) hE k.gl hops hnw
    refine .inl ?_
    unfold Oper.wp
    have hex:(execOp a.eval o).run P w = .ok (.value u) w':=by rw [hs];simp [hrun]
    rw [hex,Oper.upon_value]
    have hmn:m x.id = none:=(k.pn2 x hx).2.2 (by rw [hxi];exact hS)
    obtain ⟨q1,q2,q3,q4,q5⟩:=k.pn1 x hx
    obtain ⟨r1,r2,r3⟩:=k.pn2 x hx
    have hfo:∀ b sz els f ro,mget b (matM (Sb listed) pn h.mem) = some (.cells sz els f ro) → f ≠ x.id:=by
      intro b sz els f ro hb
      rcases matM_cases _ _ _ k.pid _ _ hb with ⟨y,hy,hys,hyb,hyo⟩ | ⟨_,hb⟩
      · have hne:y ≠ x:=fun e1=>by subst e1;rw [hxi,hS] at hys;cases hys
        have:=(k.pn2 y hy).2.1 _ _ _ _ hyo
        rw [this];exact (k.inj hy hx hne).1
      · exact r1 _ _ _ _ _ hb
    have hm1:mget x.id (matM (Sb (listed.setIfInBounds i true)) pn h.mem) = some (nv.ob x.id):=by
      rw [← hob];exact matM_in _ _ _ k.pid x hx (by rw [hSb];simp [hxi])
    have hm2:∀ b,b ≠ x.id → mget b (matM (Sb (listed.setIfInBounds i true)) pn h.mem) = mget b (matM (Sb listed) pn h.mem):=by
      intro b hb
      by_cases hy:∃ y ∈ pn,Sb listed y.idx = true ∧ y.id = b
      · obtain ⟨y,h1,h2,rfl⟩:=hy
        rw [matM_in _ _ _ k.pid y h1 h2,matM_in _ _ _ k.pid y h1 (by rw [hSb];simp [h2])]
      · rw [matM_out,matM_out]
        · intro y h1 h2 h3;exact hy ⟨y,h1,h2,h3⟩
        · intro y h1 h2 h3
          rw [hSb] at h2
          simp only [Bool.or_eq_true,decide_eq_true_eq] at h2
          rcases h2 with h2 | h2
          · by_cases e1:y = x
            · subst e1;exact hb h3.symm
            · exact (k.inj h1 hx e1).2 (h2.trans hxi.symm)
          · exact hy ⟨y,h1,h2,h3⟩
    obtain ⟨hF,hle⟩:=Fr.addNew k.fr hmn q3 q4 hblk (fun sz els f ro e1=>hfam x.id sz els f ro e1) hfo hheap hos htape hout (fun m' hm' w2 hw2=>hobj x.id m' hm' w2 hw2) hm1 hm2
    refine hn _ _ w' (inv_done k ho hT hdn hle hF (fun d hd=>by rw [hdst d hd];exact hval x.id _ (by simp)) ?_)
    intro y hy hys
    rw [hSb] at hys
    simp at hys
    have hne:y ≠ x:=fun e1=>by subst e1;exact hys.1 hxi
    have:=(k.inj hy hx hne).1
    simp [this];exact (k.pn2 y hy).2.2 hys.2
  · rw [if_neg (by rw [gdC_wanted hreg hE hgd];simp)]
    refine hn m _ w (inv_done k ho hT hdn (Mp.le_refl m) ?_ (fun d hd=>by rw [hdst d hd];simp [R,Rl,undefV,undef]) (fun x hx hs=>(k.pn2 x hx).2.2 ?_))
    · rw [mat_same k hlt hno];exact k.fr
    · rw [Sb_set hlt] at hs;simp at hs;exact hs.2
end
end Go.Ev
end
section
namespace Go.Ev
open Go
variable {P:Program} {m:Mp} {w:World}
section
variable {n:Nat} {ops:Array Oper} {base:DOp2} {tl:List Nat} {call:CallT} {e':Env} {h':H} {m0:Mp} {h0:H} {w0:World} {listed:Array Bool} {T:Nat} {l:List Nat} {e:Env} {h:H} {pn:List PN} {pc:List PC} {a:Act}
theorem inv_heavy (hord:ordOk ops.toList (befGo [] ops.toList) = true) (hreg:regOk P n ops = true) {s:Nat} (k:Inv P n ops base tl call e' h' m0 h0 w0 listed T (s :: l) e h pn pc m a w) {o:Oper} (ho:ops.toList[s]? = some o)
    (hdn:∀ x ∈ o.after.toList,bindsE x = true → Sb listed x.on = true) (hbS:∀ x,Nat.testBit (natAt (befGo [] ops.toList) s) x = true → Sb listed x = true)
    {m':Mp} {w':World} {u:Value} {v:V} {h1:H} {pn1:List PN} {pc1:List PC} (hm:m.le m') (hR:R m' v u)
    (hrun:(drawE P base ops.toList (befGo [] ops.toList) l).run call (setD o.dst v e) h1 pn1 pc1 = .ok e' h')
    (hfr:Fr m0 h0 w0 m' (matH (Sb (listed.setIfInBounds s true)) pn1 h1) w')
    (hpn:∀ x,Nat.testBit (natAt (befGo [] ops.toList) s) x.idx = false → (x ∈ pn ↔ x ∈ pn1)) (hpc:∀ c ∈ pc,Nat.testBit (natAt (befGo [] ops.toList) s) c.idx = false → c ∈ pc1)
    (hh:∀ c ∈ pc,Nat.testBit (natAt (befGo [] ops.toList) s) c.idx = false → ∀ (q:H → Option V) v,(c.chk = fun h'=>eqO v (q h')) → q (hq h) = some v → q (hq h1) = some v)
    (hpd:pn1.Pairwise (fun x y=>x.id ≠ y.id ∧ x.idx ≠ y.idx)) (hin:∀ x ∈ pn1,x ∈ pn) (hnx:h.next.toNat ≤ h1.next.toNat)
    (hp1:∀ x ∈ pn1,mget x.id h1.mem = none) (hp2:∀ x ∈ pn1,(∀ b sz els f ro,mget b h1.mem = some (.cells sz els f ro) → f ≠ x.id) ∧ (Sb listed x.idx = false → m' x.id = none)) :
    Inv P n ops base tl call e' h' m0 h0 w0 (listed.setIfInBounds s true) (T ||| 2 ^ s) l (setD o.dst v e) h1 pn1 pc1 m' (a.put o.dst u) w':=by
  have ho':ops[s]? = some o:=by simpa using ho
  have hlt:s < listed.size:=by rw [k.lsz];exact (Array.getElem?_eq_some_iff.1 ho').1
  obtain ⟨hops,hdo⟩:=regOk_get hreg ho'
  obtain ⟨hsT,hbT,_,hpl⟩:=plan_cons k.plan
  have hle:=k.le
  have hSb:=Sb_set (listed:=listed) hlt
  have hmono:∀ j,Sb listed j = true → Sb (listed.setIfInBounds s true) j = true:=fun j hj=>by rw [hSb];simp [hj]
  have hback:∀ j,Sb (listed.setIfInBounds s true) j = false → j ≠ s ∧ Sb listed j = false:=fun j hj=>by
    rw [hSb] at hj;simpa using hj
  have hdiff:=adv_env hord hreg k ho (fun x hx _=>hbS x hx) v
  refine ⟨⟨by simp [k.lsz],?_,?_,?_,?_,by rw [put_size];exact k.size,k.le,?_,?_,hfr,k.gl.mono hm,hpd,?_,?_⟩,hpl,hrun⟩
  · intro j oj hj hS x hx hb
    rw [hSb] at hS
    simp only [Bool.or_eq_true,decide_eq_true_eq] at hS
    rcases hS with rfl | hS
    · rw [ho] at hj;cases hj;exact hmono _ (hdn x hx hb)
    · exact hmono _ (k.down j oj hj hS x hx hb)
  · intro j hj
    rw [hSb] at hj
    rw [bit_or]
    simp only [Bool.or_eq_true,decide_eq_true_eq] at hj ⊢
    rcases hj with rfl | hj
    · exact .inl rfl
    · exact .inr (k.sT j hj)
  · intro j hj x hx
    rw [bit_or] at hj ⊢
    simp only [Bool.or_eq_true,decide_eq_true_eq] at hj ⊢
    rcases hj with rfl | hj
    · exact .inr (hbT x hx)
    · exact .inr (k.tT j hj x hx)
  · intro j oj hj hTj hS
    obtain ⟨hne,hSj⟩:=hback j hS
    rw [bit_or] at hTj
    simp only [Bool.or_eq_true,decide_eq_true_eq] at hTj
    have hTj:Nat.testBit T j = true:=hTj.resolve_left hne
    have hnb:Nat.testBit (natAt (befGo [] ops.toList) s) j = false:=by
      cases hb:Nat.testBit (natAt (befGo [] ops.toList) s) j with
      | false=>rfl
      | true=>rw [hbS j hb] at hSj;cases hSj
    obtain ⟨q1,q2⟩:=env_same (v:=v) (e:=e) (i:=s) k.le hreg hdo hj (hdiff j oj hj hTj hSj)
    refine (k.pend j oj hj hTj hSj).mono q1 q2 (fun x hx=>hpn x (by rw [hx];exact hnb)) (fun c hc hci=>hpc c hc (by rw [hci];exact hnb)) ?_
    rintro q v1 ⟨c,hc,hci,hck⟩ hq1
    exact hh c hc (by rw [hci];exact hnb) q v1 hck hq1
  · rw [dfr_set k.le hdo,put_defers']
    obtain ⟨L,h1,h2⟩:=k.dfr
    exact ⟨L,h1,h2.mono hm⟩
  · intro t ht
    rw [put_getD (by rw [k.size];exact ht),eget_setD (by omega) (fun x hx=>by have:=dst_lt hdo hx;omega)]
    by_cases e1:o.dst = some t
    · rw [if_pos e1,if_pos e1];exact .inr hR
    · rw [if_neg e1,if_neg e1]
      rcases k.env t ht with ⟨x,ox,g1,g2,g3,g4⟩ | g1
      · refine .inl ⟨x,ox,by rw [bit_or];simp [g1],?_,g3,g4⟩
        rw [hSb]
        have:x ≠ s:=fun e2=>by subst e2;rw [g1] at hsT;cases hsT
        simp [this,g2]
      · exact .inr (g1.mono hm)
  · intro x hx
    obtain ⟨g1,g2,g3,g4,g5⟩:=k.pn1 x (hin x hx)
    exact ⟨by rw [bit_or];simp [g1],g2,g3,Nat.lt_of_lt_of_le g4 hnx,hp1 x hx⟩
  · intro x hx
    obtain ⟨g1,g2⟩:=hp2 x hx
    exact ⟨g1,(k.pn2 x (hin x hx)).2.1,fun hS=>g2 (hback _ hS).2⟩
theorem step_heavy (hcall:CallOK P call) (hord:ordOk ops.toList (befGo [] ops.toList) = true) (hreg:regOk P n ops = true) {s:Nat} (k:Inv P n ops base tl call e' h' m0 h0 w0 listed T (s :: l) e h pn pc m a w) {o:Oper} (ho:ops.toList[s]? = some o)
    (hdn:∀ x ∈ o.after.toList,bindsE x = true → Sb listed x.on = true) (hbS:∀ x,Nat.testBit (natAt (befGo [] ops.toList) s) x = true → Sb listed x = true)
    (hk:knOf P ops.toList (befGo [] ops.toList) s o = .heavy) {K:Act → World → Prop} {Q:Exit → Act → World → Prop}
    (hn:∀ e1 h1 pn1 pc1 m' a' w',Inv P n ops base tl call e' h' m0 h0 w0 (listed.setIfInBounds s true) (T ||| 2 ^ s) l e1 h1 pn1 pc1 m' a' w' → K a' w'):wpOp P ops Q s K a w:=by
  have ho':ops[s]? = some o:=by simpa using ho
  have hlt:s < listed.size:=by rw [k.lsz];exact (Array.getElem?_eq_some_iff.1 ho').1
  obtain ⟨hops,hdo⟩:=regOk_get hreg ho'
  obtain ⟨hsT,hbT,_,hpl⟩:=plan_cons k.plan
  have hE:=k.looksR hreg ho hbS
  have hSb:=Sb_set (listed:=listed) hlt
  have hrun:=k.run
  rw [drawE] at hrun
  simp only [nthO_eq,ho,hk] at hrun
  have hnoS:∀ x ∈ pn,x.idx ≠ s:=fun x hx hxi=>by have:=(k.pn1 x hx).1;rw [hxi,hsT] at this;cases this
  unfold wpOp
  simp only [ho']
  cases hgd:gdC ops.toList o (envM e (looksE ops.toList o)) with
  | none=>rw [hgd] at hrun;cases hrun
  | some b=>
    rw [hgd] at hrun
    have hw:=gdC_wanted hreg hE hgd
    cases b with
    | false=>
      simp only at hrun
      rw [if_neg (by rw [hw];simp)]
      refine hn _ _ _ _ m _ w (inv_heavy hord hreg k ho hdn hbS (Mp.le_refl m) (show R m undefV undef by simp [R,Rl,undefV,undef]) hrun ?_ (fun _ _=>Iff.rfl) (fun _ hc _=>hc) (fun _ _ _ _ _ _ hq=>hq) k.pnd (fun _ hx=>hx) (Nat.le_refl _)
        (fun x hx=>(k.pn1 x hx).2.2.2.2) (fun x hx=>⟨(k.pn2 x hx).1,(k.pn2 x hx).2.2⟩))
      rw [mat_same k.toCore hlt hnoS];exact k.fr
    | true=>
      simp only at hrun
      rw [if_pos hw]
      refine .inl ?_
      cases hv:hvC P o.op call (envM e (looksE ops.toList o)) (matH (Nat.testBit (natAt (befGo [] ops.toList) s)) pn h) with
      | bad=>rw [hv] at hrun;cases hrun
      | ok v h1=>
        rw [hv] at hrun
        simp only at hrun
        cases hck:pcAll (hq h1) (keepP (fun c=>!Nat.testBit (natAt (befGo [] ops.toList) s) c.idx) pc) with
        | false=>rw [hck] at hrun;cases hrun
        | true=>
          rw [hck] at hrun
          simp only [cond_true] at hrun
          have hs:∀ x ox,mget x (matM (Nat.testBit (natAt (befGo [] ops.toList) s)) pn h.mem) = some ox → mget x (matM (Sb listed) pn h.mem) = some ox:=by
            intro x ox hx
            rcases matM_cases _ _ _ k.pid _ _ hx with ⟨y,g1,g2,g3,g4⟩ | ⟨_,g1⟩
            · rw [← g3,matM_in _ _ _ k.pid y g1 (hbS _ g2),g4]
            · exact k.sub _ _ g1
          have hrb:HR m (matH (Nat.testBit (natAt (befGo [] ops.toList) s)) pn h) w:=k.fr.hr.sub (mem':=matM (Nat.testBit (natAt (befGo [] ops.toList) s)) pn h.mem) hs (Nat.le_refl _)
          have hOk:=hvC_sound hcall hE k.gl hrb hops hv
          refine heavy_wp (n:=n) (e:=e) hOk ?_
          intro u m' w' hF hR
          have hXX:∀ x,(∃ y ∈ pn,Sb listed y.idx = true ∧ Nat.testBit (natAt (befGo [] ops.toList) s) y.idx = false ∧ y.id = x) → mget x (matM (Nat.testBit (natAt (befGo [] ops.toList) s)) pn h.mem) = none ∧ ∃ ox,mget x (matM (Sb listed) pn h.mem) = some ox:=by
            rintro x ⟨y,g1,g2,g3,rfl⟩
            refine ⟨?_,y.ob,matM_in _ _ _ k.pid y g1 g2⟩
            rw [matM_out]
            · exact (k.pn1 y g1).2.2.2.2
            · intro z z1 z2 z3
              have hne:z ≠ y:=fun e1=>by subst e1;rw [g3] at z2;cases z2
              exact (k.inj z1 g1 hne).1 z3
          have hXp:∀ x,(∃ y ∈ pn,Sb listed y.idx = true ∧ Nat.testBit (natAt (befGo [] ops.toList) s) y.idx = false ∧ y.id = x) → Priv (matH (Sb listed) pn h) x:=by
            rintro x ⟨y,g1,g2,g3,rfl⟩ z ox oz hne hox hoz hsf
            have e1:ox = y.ob:=by
              have h9:mget y.id (matM (Sb listed) pn h.mem) = some ox:=hox
              rw [matM_in _ _ _ k.pid y g1 g2] at h9;exact (Option.some.inj h9).symm
            subst e1
            have h9:mget z (matM (Sb listed) pn h.mem) = some oz:=hoz
            cases hyo:y.ob with
            | cells sz els f ro=>
              have hf:=(k.pn2 y g1).2.1 _ _ _ _ hyo
              rw [hyo] at hsf
              cases oz with
              | cells sz' els' f' ro'=>
                have hff:f' = f:=hsf
                rcases matM_cases _ _ _ k.pid _ _ h9 with ⟨y2,b1,b2,b3,b4⟩ | ⟨_,b1⟩
                · have:=(k.pn2 y2 b1).2.1 _ _ _ _ b4
                  apply hne
                  rw [← b3,← this,hff,hf]
                · exact (k.pn2 y g1).1 _ _ _ _ _ b1 (hff.trans hf)
              | _=>exact hsf
            | _=>rw [hyo] at hsf;cases oz <;> exact hsf
          have hF':Fr m ⟨matM (Nat.testBit (natAt (befGo [] ops.toList) s)) pn h.mem,(matH (Sb listed) pn h).fams,(matH (Sb listed) pn h).next⟩ w m' h1 w':=hF
          have hpid1:(keepP (fun x:PN=>!Nat.testBit (natAt (befGo [] ops.toList) s) x.idx) pn).Pairwise (fun x y=>x.id ≠ y.id):=keepP_pw _ k.pid
          have hX:∀ x,(∃ y ∈ pn,Sb listed y.idx = true ∧ Nat.testBit (natAt (befGo [] ops.toList) s) y.idx = false ∧ y.id = x) ↔ ∃ y ∈ keepP (fun x:PN=>!Nat.testBit (natAt (befGo [] ops.toList) s) x.idx) pn,Sb (listed.setIfInBounds s true) y.idx = true ∧ y.id = x:=by
            intro x
            constructor
            · rintro ⟨y,g1,g2,g3,g4⟩
              exact ⟨y,(keepP_mem _ _ _).2 ⟨g1,by simp [g3]⟩,by rw [hSb];simp [g2],g4⟩
            · rintro ⟨y,g1,g2,g3⟩
              obtain ⟨g4,g5⟩:=(keepP_mem _ _ _).1 g1
              rw [hSb,decide_eq_false (hnoS y g4),Bool.false_or] at g2
              exact ⟨y,g4,g2,by simpa using g5,g3⟩
          have hFm:=Fr.merge (m':=m') (w':=w') (H1:=matH (Sb listed) pn h) k.fr.hr (memb:=matM (Nat.testBit (natAt (befGo [] ops.toList) s)) pn h.mem) hs
            (X:=fun x=>∃ y ∈ pn,Sb listed y.idx = true ∧ Nat.testBit (natAt (befGo [] ops.toList) s) y.idx = false ∧ y.id = x)
            (by
              intro x ox hx
              rcases matM_cases _ _ _ k.pid _ _ hx with ⟨y,g1,g2,g3,g4⟩ | ⟨_,g1⟩
              · cases hb:Nat.testBit (natAt (befGo [] ops.toList) s) y.idx with
                | false=>exact .inl ⟨y,g1,g2,hb,g3⟩
                | true=>exact .inr (by rw [← g3,matM_in _ _ _ k.pid y g1 hb,g4])
              · refine .inr ?_
                rw [matM_out]
                · exact g1
                · intro z z1 z2 z3
                  have:=(k.pn1 z z1).2.2.2.2
                  rw [z3,g1] at this;cases this)
            hXX hXp hF' (mem2:=matM (Sb (listed.setIfInBounds s true)) (keepP (fun x:PN=>!Nat.testBit (natAt (befGo [] ops.toList) s) x.idx) pn) h1.mem)
            (by
              intro x ox
              constructor
              · intro hx
                rcases matM_cases _ _ _ hpid1 _ _ hx with ⟨y,g1,g2,g3,g4⟩ | ⟨g0,g1⟩
                · have hXx:=(hX x).2 ⟨y,g1,g2,g3⟩
                  refine .inr ⟨hXx,?_⟩
                  obtain ⟨g5,g6⟩:=(keepP_mem _ _ _).1 g1
                  rw [hSb,decide_eq_false (hnoS y g5),Bool.false_or] at g2
                  show mget x (matM (Sb listed) pn h.mem) = some ox
                  rw [← g3,matM_in _ _ _ k.pid y g5 g2,g4]
                · refine .inl ⟨?_,g1⟩
                  intro hXx
                  obtain ⟨y,b1,b2,b3⟩:=(hX x).1 hXx
                  exact g0 y b1 b2 b3
              · rintro (⟨g1,g2⟩ | ⟨g1,g2⟩)
                · rw [matM_out]
                  · exact g2
                  · intro y b1 b2 b3;exact g1 ((hX x).2 ⟨y,b1,b2,b3⟩)
                · obtain ⟨y,b1,b2,b3⟩:=(hX x).1 g1
                  rw [← b3,matM_in _ _ _ hpid1 y b1 b2]
                  obtain ⟨g5,g6⟩:=(keepP_mem _ _ _).1 b1
                  rw [hSb,decide_eq_false (hnoS y g5),Bool.false_or] at b2
                  have h9:mget x (matM (Sb listed) pn h.mem) = some ox:=g2
                  rw [← b3,matM_in _ _ _ k.pid y g5 b2] at h9;exact h9)
          have hin:∀ x ∈ keepP (fun x:PN=>!Nat.testBit (natAt (befGo [] ops.toList) s) x.idx) pn,x ∈ pn ∧ Nat.testBit (natAt (befGo [] ops.toList) s) x.idx = false:=fun x hx=>by
            obtain ⟨g5,g6⟩:=(keepP_mem _ _ _).1 hx
            exact ⟨g5,by simpa using g6⟩
          refine hn _ _ _ _ m' _ w' (inv_heavy hord hreg k ho hdn hbS hF.le hR hrun (k.fr.trans hFm) ?_ ?_ ?_ (keepP_pw _ k.pnd) (fun x hx=>(hin x hx).1) hF.nxt ?_ ?_)
          · intro x hx
            rw [keepP_mem]
            simp [hx]
          · intro c hc hcs
            rw [keepP_mem]
            simp [hc,hcs]
          · intro c hc hcs q v1 hq1 hq2
            have:=pcAll_mem hck c (by rw [keepP_mem];simp [hc,hcs])
            rw [hq1] at this
            simp only [eqO] at this
            cases hx:q (hq h1) with
            | none=>rw [hx] at this;cases this
            | some v2=>rw [hx] at this;rw [beq_eq this]
          · intro x hx
            obtain ⟨g1,g2⟩:=hin x hx
            cases hxo:mget x.id h1.mem with
            | none=>rfl
            | some ob=>
              exfalso
              obtain ⟨lx,hlx,_⟩:=hF.hr.obj _ _ hxo
              have hmx:=hF.old _ _ hlx (k.pn1 x g1).2.2.2.1
              have hSx:Sb listed x.idx = true:=by
                cases hs:Sb listed x.idx with
                | true=>rfl
                | false=>rw [(k.pn2 x g1).2.2 hs] at hmx;cases hmx
              have hXx:∃ y ∈ pn,Sb listed y.idx = true ∧ Nat.testBit (natAt (befGo [] ops.toList) s) y.idx = false ∧ y.id = x.id:=⟨x,g1,hSx,g2,rfl⟩
              obtain ⟨nb,ox,hox⟩:=hXX _ hXx
              rcases hF.back _ _ _ hxo hlx with h1 | ⟨b0,ob0,l0,hb0,hl0,he,_⟩
              · have:=k.fr.hr.lt _ _ hmx;omega
              · have hb0':mget b0 (matM (Nat.testBit (natAt (befGo [] ops.toList) s)) pn h.mem) = some ob0:=hb0
                have hne:b0 ≠ x.id:=fun e1=>by rw [e1,nb] at hb0';cases hb0'
                exact (hXp _ hXx).sep k.fr.hr hox (hs _ _ hb0') hmx hl0 hne he.symm
          · intro x hx
            obtain ⟨g1,g2⟩:=hin x hx
            refine ⟨?_,?_⟩
            · intro b sz els f ro hb e1
              rcases hF.famold _ _ _ _ _ hb with h1 | ⟨b0,sz0,els0,ro0,hb0⟩
              · have:=(k.pn1 x g1).2.2.2.1
                have h1':h.next.toNat ≤ f.toNat:=h1
                rw [e1] at h1';omega
              · have hb0':mget b0 (matM (Nat.testBit (natAt (befGo [] ops.toList) s)) pn h.mem) = some (.cells sz0 els0 f ro0):=hb0
                rcases matM_cases _ _ _ k.pid _ _ hb0' with ⟨y,y1,y2,y3,y4⟩ | ⟨_,y1⟩
                · have hf:=(k.pn2 y y1).2.1 _ _ _ _ y4
                  have hne:y ≠ x:=fun e2=>by subst e2;rw [g2] at y2;cases y2
                  exact (k.inj y1 g1 hne).1 (by rw [← hf,e1])
                · exact (k.pn2 x g1).1 _ _ _ _ _ y1 e1
            · intro hS
              cases hmx:m' x.id with
              | none=>rfl
              | some lx=>
                have:=hF.old _ _ hmx (k.pn1 x g1).2.2.2.1
                rw [(k.pn2 x g1).2.2 hS] at this;cases this
theorem adv_all (hord:ordOk ops.toList (befGo [] ops.toList) = true) (hreg:regOk P n ops = true):∀ (l:List Nat) (T:Nat) (e:Env) (h:H) (pn:List PN) (pc:List PC),Inv P n ops base tl call e' h' m0 h0 w0 listed T l e h pn pc m a w → chainE P ops.toList (befGo [] ops.toList) tl l = true →
    ∃ T1 l1 e1 h1 pn1 pc1,Inv P n ops base tl call e' h' m0 h0 w0 listed T1 l1 e1 h1 pn1 pc1 m a w ∧ chainE P ops.toList (befGo [] ops.toList) tl l1 = true ∧ T ||| maskOf l = T1 ||| maskOf l1 ∧ (l1 = [] ∨ ∃ s l2 o,l1 = s :: l2 ∧ ops.toList[s]? = some o ∧ knOf P ops.toList (befGo [] ops.toList) s o = .heavy)
  | [],T,e,h,pn,pc,k,hc=>⟨T,[],e,h,pn,pc,k,hc,rfl,.inl rfl⟩
  | s :: l,T,e,h,pn,pc,k,hc=>by
    have hor:T ||| maskOf (s :: l) = (T ||| 2 ^ s) ||| maskOf l:=by rw [maskOf,Nat.or_assoc]
    obtain ⟨_,_,⟨o,ho⟩,_⟩:=plan_cons k.plan
    cases hk:knOf P ops.toList (befGo [] ops.toList) s o with
    | light=>
      obtain ⟨e1,pc1,k1⟩:=adv_light hord hreg k ho hk
      rw [hor];exact adv_all hord hreg l _ _ _ _ _ k1 (chain_cons hc).2
    | new=>
      obtain ⟨e1,h1,pn1,k1⟩:=adv_new hord hreg k ho hk (fun nv hnv=>newP_fam hnv)
      rw [hor];exact adv_all hord hreg l _ _ _ _ _ k1 (chain_cons hc).2
    | heavy=>exact ⟨T,s :: l,e,h,pn,pc,k,hc,rfl,.inr ⟨s,l,o,rfl,ho,hk⟩⟩
end
end Go.Ev
end
