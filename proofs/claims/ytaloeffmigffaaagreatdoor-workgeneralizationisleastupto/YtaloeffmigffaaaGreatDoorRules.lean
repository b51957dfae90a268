/-
  A part of the proof of the card of WorkGeneralizationIsLeast (second form): lemmas that the text Card uses. No condition of its own.
-/
import Derived.StillTail
set_option linter.all false
set_option linter.unusedVariables false
set_option linter.unusedSimpArgs false
section
namespace Go.Calm
open Go
section
variable {P:Program} {ops:Array Oper} {md:Region.Mode} {C:World → Prop}
end
end Go.Calm
end
section
namespace Go.Heavy
open Go
section
variable {P:Program} {ops:Array Oper} {md:Region.Mode} {C:World → Prop}
def uponW (P:Program) (K:Value → World → Prop):Result Next → Prop
  | .ok (.value u) w'=>K u w'
  | .ok .skip w'=>K undef w'
  | .ok (.enter f args) w'=>Calls P f args w' fun e w''=>∃ v,e = .returned v ∧ K v w''
  | _=>False
theorem uponW_mono {K K':Value → World → Prop} (h:∀ v w,K v w → K' v w) {r:Result Next} (hh:uponW P K r):uponW P K' r:=by
  cases r with
  | ok n w'=>
    cases n <;> simp only [uponW] at hh ⊢
    case enter f args=>exact hh.mono fun e w'' ⟨v,e1,e2⟩=>⟨v,e1,h _ _ e2⟩
    all_goals exact h _ _ hh
  | halt x w'=>simp only [uponW] at hh
def St (P:Program) (ops:Array Oper) (C:World → Prop) (o:Oper) (v:Value) (a:Act):Prop:=
  (Region.wanted o (yielded ops a.tmps) = true ∧ ∀ w,C w → uponW P (fun u w'=>u = v ∧ w' = w) ((execOp a.eval o).run P w)) ∨ (Region.wanted o (yielded ops a.tmps) = false ∧ v = undef)
theorem St.same {o:Oper} {v:Value} {a a':Act} (h:St P ops C o v a) (he:execOp a'.eval o = execOp a.eval o) (hw:Region.wanted o (yielded ops a'.tmps) = Region.wanted o (yielded ops a.tmps)):St P ops C o v a':=by
  unfold St at *
  rw [he,hw]
  exact h
def oneO (P:Program) (ops:Array Oper) (o:Oper) (K:Act → World → Prop) (a:Act) (w:World):Prop:=
  (Region.wanted o (yielded ops a.tmps) = true ∧ uponW P (fun v w'=>K (a.put o.dst v) w') ((execOp a.eval o).run P w)) ∨ (Region.wanted o (yielded ops a.tmps) = false ∧ K (a.put o.dst undef) w)
def oneW (P:Program) (ops:Array Oper) (i:Nat) (K:Act → World → Prop) (a:Act) (w:World):Prop:=
  match ops[i]? with
  | none=>K a w
  | some o=>oneO P ops o K a w
theorem oneO_mono {o:Oper} {a:Act} {w:World} {K K':Act → World → Prop} (h:∀ a w,K a w → K' a w) (hh:oneO P ops o K a w):oneO P ops o K' a w:=by
  rcases hh with ⟨h1,h2⟩ | ⟨h1,h2⟩
  · exact .inl ⟨h1,uponW_mono (fun v w'=>h _ _) h2⟩
  · exact .inr ⟨h1,h _ _ h2⟩
theorem oneW_mono {i:Nat} {a:Act} {w:World} {K K':Act → World → Prop} (h:∀ a w,K a w → K' a w) (hh:oneW P ops i K a w):oneW P ops i K' a w:=by
  unfold oneW at *
  split
  · rename_i ho;rw [ho] at hh;exact h _ _ hh
  · rename_i o ho
    rw [ho] at hh
    exact oneO_mono h hh
theorem St.one {i:Nat} {o:Oper} {v:Value} {a:Act} {w:World} (hi:ops[i]? = some o) (hw:C w) (hy:St P ops C o v a) {K:Act → World → Prop} (h:K (a.put o.dst v) w):oneW P ops i K a w:=by
  unfold oneW
  rw [hi]
  rcases hy with ⟨h1,h2⟩ | ⟨h1,rfl⟩
  · exact .inl ⟨h1,uponW_mono (fun u w' ⟨e1,e2⟩=>by subst e1;subst e2;exact h) (h2 w hw)⟩
  · exact .inr ⟨h1,h⟩
theorem wp_of_uponW {o:Oper} {a:Act} {r:Result Next} {K:Value → World → Prop} {K':Act → World → Prop} {Q':Exit → Act → World → Prop} (h:∀ v w,K v w → K' (a.put o.dst v) w) (hh:uponW P K r):o.upon P a K' Q' r:=by
  cases r with
  | ok n w'=>
    cases n <;> simp only [uponW] at hh <;> simp only [Oper.upon]
    case enter f args=>
      exact hh.mono fun e w'' ⟨v,he,hw⟩=>by subst he;exact h _ _ hw
    case value u=>exact h _ _ hh
    case skip=>exact h _ _ hh
  | halt x w'=>simp only [uponW] at hh
theorem wpOp_of_oneW {i:Nat} {a:Act} {w:World} {K K':Act → World → Prop} {Q':Exit → Act → World → Prop} (h:∀ a w,K a w → K' a w) (hh:oneW P ops i K a w):wpOp P ops Q' i K' a w:=by
  unfold oneW at hh
  unfold wpOp
  split
  · rename_i ho;rw [ho] at hh;exact h _ _ hh
  · rename_i o ho
    rw [ho] at hh
    rcases hh with ⟨h1,h2⟩ | ⟨h1,h2⟩
    · rw [if_pos h1]
      exact .inl (wp_of_uponW (fun v w' hw'=>h _ _ hw') h2)
    · rw [if_neg (by rw [h1];exact Bool.false_ne_true)]
      exact h _ _ h2
theorem oneW_put {j:Nat} {oi oj:Oper} {v:Value} (hj:ops[j]? = some oj) (hap:oi.apart ops oj = true)
    (hsi:∀ cs b,oi.op ≠ .select cs b) (hsj:∀ cs b,oj.op ≠ .select cs b) {K:Act → World → Prop} {a:Act} {w:World}
    (hy:St P ops C oi v a) (h:oneW P ops j K (a.put oi.dst v) w):oneW P ops j (fun a' w'=>St P ops C oi v a' ∧ K (a'.put oi.dst v) w') a w:=by
  obtain ⟨h1,h2,h3⟩:=Oper.apart_spec hap
  unfold oneW at *
  rw [hj] at h ⊢
  have key:∀ u,St P ops C oi v (a.put oj.dst u):=fun u=>hy.same (execOp_put oi hsi a oj.dst u h3) (wanted_put oi a oj.dst u h3)
  have hE:=execOp_put oj hsj a oi.dst v h1
  have hW:=wanted_put oj a oi.dst v h1
  rcases h with ⟨g1,g2⟩ | ⟨g1,g2⟩
  · refine .inl ⟨hW.symm.trans g1,?_⟩
    rw [hE] at g2
    refine uponW_mono (fun u w' hk=>⟨key u,?_⟩) g2
    rw [← Act.put_comm a v u h2]
    exact hk
  · refine .inr ⟨hW.symm.trans g1,key _,?_⟩
    rw [← Act.put_comm a v undef h2]
    exact g2
def headW (P:Program) (md:Region.Mode) (ops:Array Oper) (C:World → Prop) (n:Nat) (L:Array Bool → Act → World → Prop):Nat → Array Bool → Act → World → Prop
  | 0,listed,a,w=>L listed a w
  | f + 1,listed,a,w=>Region.ready md ops listed ≠ [] ∧ ∀ i ∈ Region.ready md ops listed,i < n ∧ oneW P ops i (fun a' w'=>C w' ∧ headW P md ops C n L f (listed.setIfInBounds i true) a' w') a w
theorem any_of_headW {n g:Nat} {L:Array Bool → Act → World → Prop} {Q':Exit → Act → World → Prop} (hL:∀ listed a w,L listed a w → wpAny P md ops Q' g listed a w) :
    ∀ (f:Nat) (listed:Array Bool) (a:Act) (w:World),headW P md ops C n L f listed a w → wpAny P md ops Q' (f + g) listed a w
  | 0,listed,a,w,h=>by rw [Nat.zero_add];exact hL _ _ _ h
  | f + 1,listed,a,w,h=>by
    rw [show f + 1 + g = (f + g) + 1 by omega]
    exact ⟨fun h0=>absurd h0 h.1,fun i hi=>wpOp_of_oneW (fun a' w' h'=>any_of_headW hL f _ a' w' h'.2) (h.2 i hi).2⟩
theorem headW_first {n i:Nat} {oi:Oper} {v:Value} {L:Array Bool → Act → World → Prop} (hi:ops[i]? = some oi) (hsel:∀ (j:Nat) (o:Oper) cs b,ops[j]? = some o → o.op ≠ .select cs b)
    (hs:Region.sinkB md ops n = true) (hc:Region.chainB md ops n = true) (hn:n < ops.size) (hin:i < n) (hdone:∀ listed a w,L listed a w → ∀ j ∈ Region.ready md ops listed,n ≤ j) :
    ∀ (f:Nat) (listed:Array Bool) (a:Act) (w:World),C w → HeadInv md ops n listed →
      (∀ j oj,ops[j]? = some oj → j ≠ i → listed.getD j true = false → (∀ e ∈ oj.after,Region.binds md e = true → e.on ≠ i) → oi.apart ops oj = true) →
      i ∈ Region.ready md ops listed → St P ops C oi v a → headW P md ops C n L f (listed.setIfInBounds i true) (a.put oi.dst v) w → headW P md ops C n L (f + 1) listed a w:=by
  intro f
  induction f with
  | zero=>
    intro listed a w hw inv _ hr hy H
    have hun:=(mem_ready.1 hr).1
    refine ⟨fun h=>(by rw [h] at hr;cases hr),fun j hj=>?_⟩
    have hjn:j < n:=Nat.lt_of_not_le fun h=>tail_waits hs hc hn inv _ i rfl hin hun j h hj
    refine ⟨hjn,?_⟩
    by_cases hji:j = i
    · subst hji;exact hy.one hi hw ⟨hw,H⟩
    · have:=hdone _ _ _ H j (ready_mono hj hji)
      omega
  | succ f ih=>
    intro listed a w hw inv hfree hr hy H
    have hun:=(mem_ready.1 hr).1
    refine ⟨fun h=>(by rw [h] at hr;cases hr),fun j hj=>?_⟩
    have hjn:j < n:=Nat.lt_of_not_le fun h=>tail_waits hs hc hn inv _ i rfl hin hun j h hj
    refine ⟨hjn,?_⟩
    by_cases hji:j = i
    · subst hji;exact hy.one hi hw ⟨hw,H⟩
    · have h1:=(H.2 j (ready_mono hj hji)).2
      obtain ⟨hjun,oj,hoj,hall⟩:=mem_ready.1 hj
      have hnot:∀ e ∈ oj.after,Region.binds md e = true → e.on ≠ i:=fun e he hb heq=>by
        have h1:=hall e he hb
        rw [heq,getD_both hun] at h1
        cases h1
      have h2:=oneW_put hoj (hfree j oj hoj hji hjun hnot) (fun cs b=>hsel i oi cs b hi) (fun cs b=>hsel j oj cs b hoj) hy h1
      have hfree':∀ k ok,ops[k]? = some ok → k ≠ i → (listed.setIfInBounds j true).getD k true = false →
          (∀ e ∈ ok.after,Region.binds md e = true → e.on ≠ i) → oi.apart ops ok = true:=fun k ok hk hki hkun hno=>by
        refine hfree k ok hk hki ?_ hno
        by_cases hjk:j = k
        · subst hjk;exact hjun
        · rw [getD_set_ne true hjk] at hkun;exact hkun
      refine oneW_mono (fun a' w' h3=>⟨h3.2.1,ih (listed.setIfInBounds j true) a' w' h3.2.1 (inv.set hj hjn) hfree' (ready_mono hr (Ne.symm hji)) h3.1 ?_⟩) h2
      rw [Array.setIfInBounds_comm _ _ hji]
      exact h3.2.2
end
end Go.Heavy
end
section
namespace Go.Heavy
open Go
inductive Plan where
  | done
  | light (i:Nat) (p:Plan)
  | one (i:Nat) (p:Plan)
  | two (i j:Nat) (p q:Plan)
def lights:List Nat → Plan → Plan
  | [],p=>p
  | i :: is,p=>.light i (lights is p)
def Plan.size:Plan → Nat
  | .done=>0
  | .light _ p=>p.size + 1
  | .one _ p=>p.size + 1
  | .two _ _ p _=>p.size + 1
def okPlan (md:Region.Mode) (ops:Array Oper) (g n:Nat):Plan → Array Bool → Bool
  | .done,listed=>Region.seqB md ops g n listed
  | .light i p,listed=>(Region.ready md ops listed).contains i && Region.free md ops listed i && decide (i < n) && okPlan md ops g n p (listed.setIfInBounds i true)
  | .one i p,listed=>Region.ready md ops listed == [i] && decide (i < n) && okPlan md ops g n p (listed.setIfInBounds i true)
  | .two i j p q,listed=>Region.ready md ops listed == [i,j] && decide (i < n) && decide (j < n) && decide (p.size = q.size) && okPlan md ops g n p (listed.setIfInBounds i true) && okPlan md ops g n q (listed.setIfInBounds j true)
section
variable {P:Program} {ops:Array Oper} {md:Region.Mode} {C:World → Prop}
def runP (P:Program) (ops:Array Oper) (C:World → Prop) (Q:Act → World → Prop):Plan → Act → World → Prop
  | .done,a,w=>Q a w
  | .light i p,a,w=>∃ o v,ops[i]? = some o ∧ St P ops C o v a ∧ runP P ops C Q p (a.put o.dst v) w
  | .one i p,a,w=>∃ o,ops[i]? = some o ∧ oneO P ops o (fun a' w'=>C w' ∧ runP P ops C Q p a' w') a w
  | .two i j p q,a,w=>(∃ o,ops[i]? = some o ∧ oneO P ops o (fun a' w'=>C w' ∧ runP P ops C Q p a' w') a w) ∧ ∃ o,ops[j]? = some o ∧ oneO P ops o (fun a' w'=>C w' ∧ runP P ops C Q q a' w') a w
theorem headW_plan {n g:Nat} {Lq:Act → World → Prop} (hsel:Region.noSelect ops = true) (hs:Region.sinkB md ops n = true) (hc:Region.chainB md ops n = true) (hn:n < ops.size) :
    ∀ (p:Plan) (listed:Array Bool) (a:Act) (w:World),C w → HeadInv md ops n listed → okPlan md ops g n p listed = true → runP P ops C Lq p a w → headW P md ops C n (fun listed' a' w'=>Region.seqB md ops g n listed' = true ∧ Lq a' w') p.size listed a w
  | .done,listed,a,w,_,_,hB,h=>⟨hB,h⟩
  | .light i p,listed,a,w,hw,inv,hB,h=>by
    simp only [okPlan,Bool.and_eq_true,decide_eq_true_eq] at hB
    obtain ⟨⟨⟨hr,hf⟩,hin⟩,hB'⟩:=hB
    have hr':i ∈ Region.ready md ops listed:=by simpa using hr
    obtain ⟨o,v,h0,hy,hK⟩:=h
    exact headW_first h0 (Region.noSelect_spec hsel) hs hc hn hin (fun listed' a' w' hL=>seqB_ready hL.1) p.size listed a w hw inv (Region.free_spec h0 hf) hr' hy
      (headW_plan hsel hs hc hn p _ _ _ hw (inv.set hr' hin) hB' hK)
  | .one i p,listed,a,w,hw,inv,hB,h=>by
    simp only [okPlan,Bool.and_eq_true,decide_eq_true_eq] at hB
    obtain ⟨⟨hr,hin⟩,hB'⟩:=hB
    have hready:Region.ready md ops listed = [i]:=by simpa using hr
    obtain ⟨o,h0,h1⟩:=h
    refine ⟨by rw [hready];simp,fun k hk=>?_⟩
    have hk':k ∈ Region.ready md ops listed:=hk
    rw [hready] at hk
    have:k = i:=by simpa using hk
    subst this
    refine ⟨hin,?_⟩
    unfold oneW
    rw [h0]
    exact oneO_mono (fun a' w' ⟨h2,h3⟩=>⟨h2,headW_plan hsel hs hc hn p _ a' w' h2 (inv.set hk' hin) hB' h3⟩) h1
  | .two i j p q,listed,a,w,hw,inv,hB,h=>by
    simp only [okPlan,Bool.and_eq_true,decide_eq_true_eq] at hB
    obtain ⟨⟨⟨⟨⟨hr,hin⟩,hjn⟩,hpq⟩,hB1⟩,hB2⟩:=hB
    have hready:Region.ready md ops listed = [i,j]:=by simpa using hr
    obtain ⟨⟨o,h0,h1⟩,o',h0',h1'⟩:=h
    refine ⟨by rw [hready];simp,fun k hk=>?_⟩
    have hk':k ∈ Region.ready md ops listed:=hk
    rw [hready] at hk
    have:k = i ∨ k = j:=by simpa using hk
    rcases this with rfl | rfl
    · refine ⟨hin,?_⟩
      unfold oneW
      rw [h0]
      exact oneO_mono (fun a' w' ⟨h2,h3⟩=>⟨h2,headW_plan hsel hs hc hn p _ a' w' h2 (inv.set hk' hin) hB1 h3⟩) h1
    · refine ⟨hjn,?_⟩
      unfold oneW
      rw [h0']
      refine oneO_mono (fun a' w' ⟨h2,h3⟩=>⟨h2,?_⟩) h1'
      have:=headW_plan hsel hs hc hn q _ a' w' h2 (inv.set hk' hjn) hB2 h3
      rw [hpq]
      exact this
theorem region_plan {id:Nat} {Q:Exit → Act → World → Prop} {a:Act} {w:World} {l:List Oper} (C:World → Prop) (n:Nat) (p:Plan) (hm:P.follows .mixedOrders = true)
    (hB:(Region.noSelect l.toArray && decide (n < l.toArray.size) && Region.sinkB .any l.toArray n && Region.chainB .any l.toArray n && decide (p.size = n) && okPlan .any l.toArray (l.toArray.size - n) n p (Array.replicate l.toArray.size false)) = true)
    (hw:C { w with drawn:=w.drawn + 1 }) (hrun:runP P l.toArray C (fun a' w'=>wpList P l.toArray Q (l.drop n) a' w') p a { w with drawn:=w.drawn + 1 }):(Code.region id l.toArray true).wp P Q a w:=by
  simp only [Bool.and_eq_true,decide_eq_true_eq] at hB
  obtain ⟨⟨⟨⟨⟨hsel,hn⟩,hs⟩,hc⟩,hsz⟩,hok⟩:=hB
  have hdl:(l.drop n).length = l.toArray.size - n:=by simp
  have inv0:HeadInv .any l.toArray n (Array.replicate l.toArray.size false):=
    ⟨by simp,fun j oj _ hl=>(by rw [getD_replicate_false] at hl;cases hl),fun t _ ht=>getD_in (by simpa using ht) (getD_replicate_false _ _)⟩
  have H:=headW_plan (md:=.any) hsel hs hc hn p _ a _ hw inv0 hok hrun
  refine wp_region_any hm ?_
  have:=any_of_headW (Q':=Q) (g:=l.toArray.size - n) (fun listed a' w' hL=>by
    have:=wpAny_of_seq (md:=.any) (Q':=Q) (l.drop n) n listed a' w' (fun j=>by simp [List.getElem?_drop]) (by rw [hdl];exact hL.1) hL.2
    rwa [hdl] at this) _ _ _ _ H
  rw [hsz,show n + (l.toArray.size - n) = l.toArray.size by omega] at this
  exact this
theorem light_step {i:Nat} {p:Plan} {Q:Act → World → Prop} {o:Oper} {a:Act} {w:World} (v:Value) (h0:ops[i]? = some o) (hg:Region.wanted o (yielded ops a.tmps) = true) (hs:∀ w,C w → uponW P (fun u w'=>u = v ∧ w' = w) ((execOp a.eval o).run P w)) (hK:runP P ops C Q p (a.put o.dst v) w):runP P ops C Q (.light i p) a w:=
  ⟨o,v,h0,.inl ⟨hg,hs⟩,hK⟩
theorem light_n {i:Nat} {p:Plan} {Q:Act → World → Prop} {o:Oper} {a:Act} {w:World} (v:Value) (h0:ops[i]? = some o) (hg:o.guard = none) (hs:∀ w,C w → uponW P (fun u w'=>u = v ∧ w' = w) ((execOp a.eval o).run P w)) (hK:runP P ops C Q p (a.put o.dst v) w):runP P ops C Q (.light i p) a w:=
  ⟨o,v,h0,.inl ⟨by unfold Region.wanted;rw [hg],hs⟩,hK⟩
theorem one_n {i:Nat} {p:Plan} {Q:Act → World → Prop} {o:Oper} {a:Act} {w:World} (h0:ops[i]? = some o) (hg:o.guard = none) (hK:uponW P (fun v w'=>C w' ∧ runP P ops C Q p (a.put o.dst v) w') ((execOp a.eval o).run P w)):runP P ops C Q (.one i p) a w:=
  ⟨o,h0,.inl ⟨by unfold Region.wanted;rw [hg],hK⟩⟩
theorem plan_end {Q:Act → World → Prop} {a:Act} {w:World} (hQ:Q a w):runP P ops C Q .done a w:=hQ
end
end Go.Heavy
end
section
namespace Go.Heavy
open Go
theorem norm_a {P:Program} {ops:Array Oper} {C:World → Prop} {p:Plan} {Q:Act → World → Prop} {a a':Act} {w:World} (h:a = a') (hK:runP P ops C Q p a' w):runP P ops C Q p a w:=by subst h;exact hK
end Go.Heavy
end
