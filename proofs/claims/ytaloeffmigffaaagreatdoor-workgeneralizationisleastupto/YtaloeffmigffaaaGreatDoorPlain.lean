/-
  A part of the proof of the card of WorkGeneralizationIsLeast (second form): lemmas that the text Card uses. No condition of its own.
-/
import Derived.Test.YtaloeffmigffaaaGreatDoorRefC
set_option linter.all false
set_option linter.unusedVariables false
set_option linter.unusedSimpArgs false
section
namespace Go.Proofs.YtaloeffmigffaaaGreatDoor
mutual
def Tm.ground:Tm → Prop
  | .mk k _ _ _ _ _ args=>k ≠ 1 ∧ Tm.groundL args
def Tm.groundL:List Tm → Prop
  | []=>True
  | T :: r=>T.ground ∧ Tm.groundL r
end
mutual
def Tm.vd:Tm → Prop
  | .mk k v _ g num den args=>(k ≠ 5 → args = []) ∧ (k ≠ 1 → v = 0) ∧ (k ≠ 2 → g = false ∧ num = [] ∧ den = []) ∧ Tm.vdL args
def Tm.vdL:List Tm → Prop
  | []=>True
  | T :: r=>T.vd ∧ Tm.vdL r
end
mutual
def Tm.inst (f:Int → Option Tm):Tm → Tm → Prop
  | .mk k v nm g num den args,t=>if k = 1 then f v = some t else match t with
    | .mk k' v' nm' g' num' den' args'=>k = k' ∧ v = v' ∧ nm = nm' ∧ g = g' ∧ num = num' ∧ den = den' ∧ Tm.instL f args args'
def Tm.instL (f:Int → Option Tm):List Tm → List Tm → Prop
  | [],[]=>True
  | T :: r,U :: q=>Tm.inst f T U ∧ Tm.instL f r q
  | _,_=>False
end
def varT (n:Nat):Tm:=.mk 1 n ⟨#[]⟩ false [] [] []
open Classical in
mutual
noncomputable def gphi (ix:Tm → Tm → Nat):Tm → Tm → Tm
  | .mk k v nm g num den args,b=>
    if Tm.mk k v nm g num den args = b ∧ (Tm.mk k v nm g num den args).ground then b
    else match b with
    | .mk k' v' nm' g' num' den' args'=>if k = 5 ∧ k' = 5 ∧ nm = nm' ∧ args.length = args'.length then .mk 5 0 nm false [] [] (gphiL ix args args') else varT (ix (.mk k v nm g num den args) (.mk k' v' nm' g' num' den' args'))
noncomputable def gphiL (ix:Tm → Tm → Nat):List Tm → List Tm → List Tm
  | T :: r,U :: q=>gphi ix T U :: gphiL ix r q
  | _,_=>[]
end
theorem gphi_ground {ix:Tm → Tm → Nat}:∀ {a:Tm},a.ground → gphi ix a a = a
  | .mk k v nm g num den args,h=>by rw [gphi,if_pos ⟨rfl,h⟩]
theorem gphiL_ground {ix:Tm → Tm → Nat}:∀ {L:List Tm},Tm.groundL L → gphiL ix L L = L
  | [],_=>by simp [gphiL]
  | a :: r,h=>by
    simp only [Tm.groundL] at h
    simp only [gphiL,gphi_ground h.1,gphiL_ground h.2]
theorem gphi_comp {ix:Tm → Tm → Nat} {nm:ByteArray} {L M:List Tm} (hl:L.length = M.length):gphi ix (.mk 5 0 nm false [] [] L) (.mk 5 0 nm false [] [] M) = .mk 5 0 nm false [] [] (gphiL ix L M):=by
  rw [gphi]
  split
  · rename_i h
    obtain ⟨h1,h2⟩:=h
    obtain rfl:L = M:=by injection h1
    simp only [Tm.ground] at h2
    rw [gphiL_ground h2.2]
  · simp [hl]
theorem instL_length {f:Int → Option Tm}:∀ {L M:List Tm},Tm.instL f L M → L.length = M.length
  | [],[],_=>rfl
  | T :: r,U :: q,h=>by
    simp only [Tm.instL] at h
    simp [instL_length h.2]
  | [],U :: q,h=>by simp [Tm.instL] at h
  | T :: r,[],h=>by simp [Tm.instL] at h
noncomputable def both (ix:Tm → Tm → Nat) (f1 f2:Int → Option Tm):Int → Option Tm:=fun v=>match f1 v,f2 v with
  | some p,some q=>some (gphi ix p q)
  | _,_=>none
theorem inst_var {f:Int → Option Tm} {v:Int} {nm:ByteArray} {g:Bool} {num den:List Nat} {args:List Tm} {t:Tm}:Tm.inst f (.mk 1 v nm g num den args) t ↔ f v = some t:=by
  cases t;simp [Tm.inst]
theorem inst_non {f:Int → Option Tm} {k v k' v':Int} {nm nm':ByteArray} {g g':Bool} {num den num' den':List Nat} {args args':List Tm} (hk:k ≠ 1):Tm.inst f (.mk k v nm g num den args) (.mk k' v' nm' g' num' den' args') ↔ (k = k' ∧ v = v' ∧ nm = nm' ∧ g = g' ∧ num = num' ∧ den = den' ∧ Tm.instL f args args'):=by
  simp [Tm.inst,hk]
mutual
theorem gphi_least {ix:Tm → Tm → Nat} {f1 f2:Int → Option Tm}:∀ (z a b:Tm),a.vd → b.vd → z.inst f1 a → z.inst f2 b → z.inst (both ix f1 f2) (gphi ix a b)
  | .mk k v nm g num den args,.mk ka va na ga nua da aa,.mk kb vb nb gb nub db ab,ha,hb,h1,h2=>by
    by_cases hk:k = 1
    · subst hk
      rw [inst_var] at h1 h2 ⊢
      simp [both,h1,h2]
    · rw [inst_non hk] at h1 h2
      obtain ⟨rfl,rfl,rfl,rfl,rfl,rfl,h1⟩:=h1
      obtain ⟨rfl,rfl,rfl,rfl,rfl,rfl,h2⟩:=h2
      simp only [Tm.vd] at ha hb
      have hl:aa.length = ab.length:=(instL_length h1).symm.trans (instL_length h2)
      by_cases h5:k = 5
      · subst h5
        obtain rfl:v = 0:=ha.2.1 (by decide)
        obtain ⟨rfl,rfl,rfl⟩:=ha.2.2.1 (by decide)
        rw [gphi_comp hl,inst_non hk]
        exact ⟨rfl,rfl,rfl,rfl,rfl,rfl,gphiL_least args aa ab ha.2.2.2 hb.2.2.2 h1 h2⟩
      · obtain rfl:aa = []:=ha.1 h5
        obtain rfl:ab = []:=hb.1 h5
        rw [gphi_ground (by simp [Tm.ground,Tm.groundL,hk]),inst_non hk]
        refine ⟨rfl,rfl,rfl,rfl,rfl,rfl,?_⟩
        match args,h1 with
        | [],_=>simp only [Tm.instL]
theorem gphiL_least {ix:Tm → Tm → Nat} {f1 f2:Int → Option Tm}:∀ (Z A B:List Tm),Tm.vdL A → Tm.vdL B → Tm.instL f1 Z A → Tm.instL f2 Z B → Tm.instL (both ix f1 f2) Z (gphiL ix A B)
  | [],[],[],_,_,_,_=>by simp [gphiL,Tm.instL]
  | z :: Z,a :: A,b :: B,ha,hb,h1,h2=>by
    simp only [Tm.vdL] at ha hb
    simp only [Tm.instL] at h1 h2
    simp only [gphiL,Tm.instL]
    exact ⟨gphi_least z a b ha.1 hb.1 h1.1 h2.1,gphiL_least Z A B ha.2 hb.2 h1.2 h2.2⟩
  | [],a :: A,_,_,_,h1,_=>by simp [Tm.instL] at h1
  | [],[],b :: B,_,_,_,h2=>by simp [Tm.instL] at h2
  | z :: Z,[],_,_,_,h1,_=>by simp [Tm.instL] at h1
  | z :: Z,a :: A,[],_,_,_,h2=>by simp [Tm.instL] at h2
end
end Go.Proofs.YtaloeffmigffaaaGreatDoor
end
section
namespace Go.Proofs.YtaloeffmigffaaaGreatDoor
open Classical in
mutual
noncomputable def gpairs:Tm → Tm → List (Tm × Tm)
  | .mk k v nm g num den args,b=>
    if Tm.mk k v nm g num den args = b ∧ (Tm.mk k v nm g num den args).ground then []
    else match b with
    | .mk k' v' nm' g' num' den' args'=>if k = 5 ∧ k' = 5 ∧ nm = nm' ∧ args.length = args'.length then gpairsL args args' else [(.mk k v nm g num den args,.mk k' v' nm' g' num' den' args')]
noncomputable def gpairsL:List Tm → List Tm → List (Tm × Tm)
  | T :: r,U :: q=>gpairs T U ++ gpairsL r q
  | _,_=>[]
end
mutual
theorem ground_inst {f:Int → Option Tm}:∀ {a:Tm},a.ground → a.inst f a
  | .mk k v nm g num den args,h=>by
    simp only [Tm.ground] at h
    rw [inst_non h.1]
    exact ⟨rfl,rfl,rfl,rfl,rfl,rfl,groundL_inst h.2⟩
theorem groundL_inst {f:Int → Option Tm}:∀ {L:List Tm},Tm.groundL L → Tm.instL f L L
  | [],_=>by simp only [Tm.instL]
  | T :: r,h=>by
    simp only [Tm.groundL] at h
    simp only [Tm.instL]
    exact ⟨ground_inst h.1,groundL_inst h.2⟩
end
mutual
theorem gphi_inst {ix:Tm → Tm → Nat} {f:Int → Option Tm} {pr:Tm × Tm → Tm} (hpr:(∀ p,pr p = p.1) ∨ (∀ p,pr p = p.2)):∀ (a b:Tm),a.vd → b.vd → (∀ p ∈ gpairs a b,f (ix p.1 p.2) = some (pr p)) → (gphi ix a b).inst f (pr (a,b))
  | .mk k v nm g num den args,.mk k' v' nm' g' num' den' args',ha,hb,H=>by
    rw [gphi]
    rw [gpairs] at H
    split
    · rename_i h
      obtain ⟨h1,h2⟩:=h
      rw [← h1]
      have:pr (Tm.mk k v nm g num den args,Tm.mk k v nm g num den args) = Tm.mk k v nm g num den args:=by rcases hpr with h | h <;> rw [h]
      rw [this]
      exact ground_inst h2
    · rename_i h
      rw [if_neg h] at H
      by_cases h5:k = 5 ∧ k' = 5 ∧ nm = nm' ∧ args.length = args'.length
      · simp only [if_pos h5] at H ⊢
        obtain ⟨rfl,rfl,rfl,hl⟩:=h5
        simp only [Tm.vd] at ha hb
        obtain rfl:v = 0:=ha.2.1 (by decide)
        obtain ⟨rfl,rfl,rfl⟩:=ha.2.2.1 (by decide)
        obtain rfl:v' = 0:=hb.2.1 (by decide)
        obtain ⟨rfl,rfl,rfl⟩:=hb.2.2.1 (by decide)
        have ih:=gphiL_inst hpr args args' ha.2.2.2 hb.2.2.2 hl H
        rcases hpr with h | h
        · rw [h,inst_non (by decide)]
          exact ⟨rfl,rfl,rfl,rfl,rfl,rfl,ih.1 h⟩
        · rw [h,inst_non (by decide)]
          exact ⟨rfl,rfl,rfl,rfl,rfl,rfl,ih.2 h⟩
      · simp only [if_neg h5] at H ⊢
        unfold varT
        rw [inst_var]
        exact H (_,_) (List.mem_singleton.2 rfl)
theorem gphiL_inst {ix:Tm → Tm → Nat} {f:Int → Option Tm} {pr:Tm × Tm → Tm} (hpr:(∀ p,pr p = p.1) ∨ (∀ p,pr p = p.2)):∀ (A B:List Tm),Tm.vdL A → Tm.vdL B → A.length = B.length → (∀ p ∈ gpairsL A B,f (ix p.1 p.2) = some (pr p)) → ((∀ p,pr p = p.1) → Tm.instL f (gphiL ix A B) A) ∧ ((∀ p,pr p = p.2) → Tm.instL f (gphiL ix A B) B)
  | [],[],_,_,_,_=>by simp [gphiL,Tm.instL]
  | a :: A,b :: B,ha,hb,hl,H=>by
    simp only [Tm.vdL] at ha hb
    simp only [gpairsL] at H
    have h1:=gphi_inst hpr a b ha.1 hb.1 fun p hp=>H p (List.mem_append_left _ hp)
    have h2:=gphiL_inst hpr A B ha.2 hb.2 (by simpa using hl) fun p hp=>H p (List.mem_append_right _ hp)
    simp only [gphiL,Tm.instL]
    exact ⟨fun h=>⟨by rw [h] at h1;exact h1,h2.1 h⟩,fun h=>⟨by rw [h] at h1;exact h1,h2.2 h⟩⟩
  | [],b :: B,_,_,hl,_=>by simp at hl
  | a :: A,[],_,_,hl,_=>by simp at hl
end
mutual
theorem gphi_nodes {ix:Tm → Tm → Nat}:∀ (a b:Tm),(gphi ix a b).nodes ≤ a.nodes
  | .mk k v nm g num den args,.mk k' v' nm' g' num' den' args'=>by
    rw [gphi]
    split
    · rename_i h;rw [← h.1];exact Nat.le_refl _
    · by_cases h5:k = 5 ∧ k' = 5 ∧ nm = nm' ∧ args.length = args'.length
      · simp only [if_pos h5,Tm.nodes]
        have:=gphiL_nodes (ix:=ix) args args'
        omega
      · simp only [if_neg h5,varT,Tm.nodes,Tm.nodesL];omega
theorem gphiL_nodes {ix:Tm → Tm → Nat}:∀ (A B:List Tm),Tm.nodesL (gphiL ix A B) ≤ Tm.nodesL A
  | [],B=>by simp [gphiL,Tm.nodesL]
  | a :: A,[]=>by simp [gphiL,Tm.nodesL]
  | a :: A,b :: B=>by
    simp only [gphiL,Tm.nodesL]
    have h1:=gphi_nodes (ix:=ix) a b
    have h2:=gphiL_nodes (ix:=ix) A B
    omega
end
end Go.Proofs.YtaloeffmigffaaaGreatDoor
end
section
namespace Go.Proofs.YtaloeffmigffaaaGreatDoor
open Classical in
noncomputable def addPair (S:List (Tm × Tm)) (p:Tm × Tm):List (Tm × Tm):=if p ∈ S then S else S ++ [p]
noncomputable def addAll (S L:List (Tm × Tm)):List (Tm × Tm):=L.foldl addPair S
open Classical in
noncomputable def ixOf (S:List (Tm × Tm)) (p q:Tm):Nat:=S.findIdx fun x=>decide (x = (p,q))
theorem addPair_prefix (S:List (Tm × Tm)) (p:Tm × Tm):S <+: addPair S p:=by
  unfold addPair
  split
  · exact List.prefix_refl _
  · exact List.prefix_append _ _
theorem addAll_prefix:∀ (L S:List (Tm × Tm)),S <+: addAll S L
  | [],S=>List.prefix_refl _
  | p :: L,S=>(addPair_prefix S p).trans (addAll_prefix L (addPair S p))
theorem mem_addPair (S:List (Tm × Tm)) (p:Tm × Tm):p ∈ addPair S p:=by
  unfold addPair
  split
  · assumption
  · simp
theorem mem_addAll:∀ {L S:List (Tm × Tm)} {p:Tm × Tm},p ∈ L → p ∈ addAll S L
  | q :: L,S,p,h=>by
    rcases List.mem_cons.1 h with rfl | h
    · exact (addAll_prefix L (addPair S p)).subset (mem_addPair S p)
    · exact mem_addAll (L:=L) (S:=addPair S q) h
theorem addAll_append (S L M:List (Tm × Tm)):addAll S (L ++ M) = addAll (addAll S L) M:=by
  unfold addAll;rw [List.foldl_append]
theorem addPair_length (S:List (Tm × Tm)) (p:Tm × Tm):(addPair S p).length ≤ S.length + 1:=by
  unfold addPair
  split
  · omega
  · simp
theorem addAll_length:∀ (L S:List (Tm × Tm)),(addAll S L).length ≤ S.length + L.length
  | [],S=>by simp [addAll]
  | p :: L,S=>by
    have h1:=addAll_length L (addPair S p)
    have h2:=addPair_length S p
    show (addAll (addPair S p) L).length ≤ _
    simp only [List.length_cons];omega
theorem ixOf_lt {S:List (Tm × Tm)} {p q:Tm} (h:(p,q) ∈ S):ixOf S p q < S.length:=by
  unfold ixOf
  exact List.findIdx_lt_length_of_exists ⟨(p,q),h,by simp⟩
theorem ixOf_get {S:List (Tm × Tm)} {p q:Tm} (h:(p,q) ∈ S):S[ixOf S p q]? = some (p,q):=by
  have h1:=ixOf_lt h
  unfold ixOf at h1 ⊢
  rw [List.getElem?_eq_getElem h1]
  have:=List.findIdx_getElem (w:=h1)
  simp only [decide_eq_true_eq] at this
  exact congrArg some this
theorem ixOf_mono {S S':List (Tm × Tm)} {p q:Tm} (hp:S <+: S') (h:(p,q) ∈ S):ixOf S' p q = ixOf S p q:=by
  obtain ⟨X,rfl⟩:=hp
  have h1:=ixOf_lt h
  unfold ixOf at h1 ⊢
  rw [List.findIdx_append,if_pos h1]
mutual
theorem gphi_congr {ix ix':Tm → Tm → Nat}:∀ (a b:Tm),(∀ p ∈ gpairs a b,ix p.1 p.2 = ix' p.1 p.2) → gphi ix a b = gphi ix' a b
  | .mk k v nm g num den args,.mk k' v' nm' g' num' den' args',H=>by
    rw [gphi,gphi]
    rw [gpairs] at H
    split
    · rfl
    · rename_i h
      rw [if_neg h] at H
      by_cases h5:k = 5 ∧ k' = 5 ∧ nm = nm' ∧ args.length = args'.length
      · simp only [if_pos h5] at H ⊢
        rw [gphiL_congr args args' H]
      · simp only [if_neg h5] at H ⊢
        rw [H (_,_) (List.mem_singleton.2 rfl)]
theorem gphiL_congr {ix ix':Tm → Tm → Nat}:∀ (A B:List Tm),(∀ p ∈ gpairsL A B,ix p.1 p.2 = ix' p.1 p.2) → gphiL ix A B = gphiL ix' A B
  | [],B,_=>by simp [gphiL]
  | a :: A,[],_=>by simp [gphiL]
  | a :: A,b :: B,H=>by
    simp only [gpairsL] at H
    simp only [gphiL]
    rw [gphi_congr a b fun p hp=>H p (List.mem_append_left _ hp),gphiL_congr A B fun p hp=>H p (List.mem_append_right _ hp)]
end
noncomputable def genT (S:List (Tm × Tm)) (a b:Tm):Tm:=gphi (ixOf (addAll S (gpairs a b))) a b
theorem genT_later {S S':List (Tm × Tm)} {a b:Tm} (h:addAll S (gpairs a b) <+: S'):gphi (ixOf S') a b = genT S a b:=
  gphi_congr a b fun p hp=>ixOf_mono h (mem_addAll (p:=p) hp)
mutual
theorem gpairs_length:∀ (a b:Tm),(gpairs a b).length ≤ a.nodes
  | .mk k v nm g num den args,.mk k' v' nm' g' num' den' args'=>by
    rw [gpairs]
    split
    · simp
    · by_cases h5:k = 5 ∧ k' = 5 ∧ nm = nm' ∧ args.length = args'.length
      · simp only [if_pos h5,Tm.nodes]
        have:=gpairsL_length args args'
        omega
      · simp only [if_neg h5,Tm.nodes,List.length_singleton];omega
theorem gpairsL_length:∀ (A B:List Tm),(gpairsL A B).length ≤ Tm.nodesL A
  | [],B=>by simp [gpairsL]
  | a :: A,[]=>by simp [gpairsL]
  | a :: A,b :: B=>by
    simp only [gpairsL,List.length_append,Tm.nodesL]
    have h1:=gpairs_length a b
    have h2:=gpairsL_length A B
    omega
end
def leftOf (S:List (Tm × Tm)):Int → Option Tm:=fun v=>if 0 ≤ v then (S[v.toNat]?).map (·.1) else none
def rightOf (S:List (Tm × Tm)):Int → Option Tm:=fun v=>if 0 ≤ v then (S[v.toNat]?).map (·.2) else none
theorem genT_inst (a b:Tm) (ha:a.vd) (hb:b.vd):(genT [] a b).inst (leftOf (addAll [] (gpairs a b))) a ∧ (genT [] a b).inst (rightOf (addAll [] (gpairs a b))) b:=by
  have h:∀ p ∈ gpairs a b,(addAll [] (gpairs a b))[ixOf (addAll [] (gpairs a b)) p.1 p.2]? = some (p.1,p.2):=fun p hp=>ixOf_get (mem_addAll (p:=p) hp)
  refine ⟨gphi_inst (pr:=fun p=>p.1) (.inl fun _=>rfl) a b ha hb fun p hp=>?_,gphi_inst (pr:=fun p=>p.2) (.inr fun _=>rfl) a b ha hb fun p hp=>?_⟩
  · simp [leftOf,h p hp]
  · simp [rightOf,h p hp]
theorem genT_least (a b z:Tm) (ha:a.vd) (hb:b.vd) {f1 f2:Int → Option Tm} (h1:z.inst f1 a) (h2:z.inst f2 b):∃ f,z.inst f (genT [] a b):=⟨_,gphi_least z a b ha hb h1 h2⟩
end Go.Proofs.YtaloeffmigffaaaGreatDoor
end
section
namespace Go.Proofs.YtaloeffmigffaaaGreatDoor
def findB:List (Int × Tm) → Int → Option Tm
  | [],_=>none
  | (u,x) :: r,v=>if u = v then some x else findB r v
def putB:List (Int × Tm) → Int → Tm → List (Int × Tm)
  | [],v,t=>[(v,t)]
  | (u,x) :: r,v,t=>if v < u then (v,t) :: (u,x) :: r else (u,x) :: putB r v t
theorem findB_putB:∀ (l:List (Int × Tm)) (v:Int) (t:Tm) (w:Int),findB l v = none → findB (putB l v t) w = if v = w then some t else findB l w
  | [],v,t,w,_=>by simp [findB,putB]
  | (u,x) :: r,v,t,w,h=>by
    simp only [findB] at h
    by_cases huv:u = v
    · rw [if_pos huv] at h;cases h
    · rw [if_neg huv] at h
      simp only [putB]
      split
      · simp only [findB]
      · simp only [findB]
        rw [findB_putB r v t w h]
        by_cases hw:u = w
        · subst hw;simp [Ne.symm huv]
        · simp [hw]
open Classical in
mutual
noncomputable def matchT:Tm → Tm → List (Int × Tm) → Option (List (Int × Tm))
  | .mk k v nm g num den args,t,l=>if k = 1 then (match findB l v with
      | some x=>if x = t then some l else none
      | none=>some (putB l v t)) else match t with
    | .mk k' v' nm' g' num' den' args'=>if k = k' ∧ v = v' ∧ nm = nm' ∧ g = g' ∧ num = num' ∧ den = den' ∧ args.length = args'.length then matchL args args' l else none
noncomputable def matchL:List Tm → List Tm → List (Int × Tm) → Option (List (Int × Tm))
  | T :: r,U :: q,l=>match matchT T U l with
    | some l'=>matchL r q l'
    | none=>none
  | _,_,l=>some l
end
def Ext (l l':List (Int × Tm)):Prop:=∀ v x,findB l v = some x → findB l' v = some x
mutual
theorem inst_mono {f f':Int → Option Tm} (h:∀ v x,f v = some x → f' v = some x):∀ (p t:Tm),p.inst f t → p.inst f' t
  | .mk k v nm g num den args,.mk k' v' nm' g' num' den' args',hp=>by
    by_cases hk:k = 1
    · subst hk;rw [inst_var] at hp ⊢;exact h _ _ hp
    · rw [inst_non hk] at hp ⊢
      obtain ⟨h1,h2,h3,h4,h5,h6,h7⟩:=hp
      exact ⟨h1,h2,h3,h4,h5,h6,instL_mono h args args' h7⟩
theorem instL_mono {f f':Int → Option Tm} (h:∀ v x,f v = some x → f' v = some x):∀ (P T:List Tm),Tm.instL f P T → Tm.instL f' P T
  | [],[],_=>by simp only [Tm.instL]
  | p :: P,t :: T,hp=>by
    simp only [Tm.instL] at hp ⊢
    exact ⟨inst_mono h p t hp.1,instL_mono h P T hp.2⟩
  | [],t :: T,hp=>by simp [Tm.instL] at hp
  | p :: P,[],hp=>by simp [Tm.instL] at hp
end
mutual
theorem match_sound:∀ (p t:Tm) (l l':List (Int × Tm)),matchT p t l = some l' → Ext l l' ∧ p.inst (findB l') t
  | .mk k v nm g num den args,.mk k' v' nm' g' num' den' args',l,l',h=>by
    rw [matchT] at h
    by_cases hk:k = 1
    · subst hk
      rw [if_pos rfl] at h
      rw [inst_var]
      split at h
      · rename_i x hx
        split at h
        · rename_i hxt
          cases h;subst hxt
          exact ⟨fun _ _ h=>h,hx⟩
        · cases h
      · rename_i hx
        cases h
        refine ⟨fun w y hy=>?_,?_⟩
        · rw [findB_putB l v _ w hx]
          by_cases hvw:v = w
          · subst hvw;rw [hx] at hy;cases hy
          · rw [if_neg hvw];exact hy
        · rw [findB_putB l v _ v hx,if_pos rfl]
    · rw [if_neg hk] at h
      rw [inst_non hk]
      split at h
      · rename_i hr
        obtain ⟨h1,h2⟩:=matchL_sound args args' l l' hr.2.2.2.2.2.2 h
        exact ⟨h1,hr.1,hr.2.1,hr.2.2.1,hr.2.2.2.1,hr.2.2.2.2.1,hr.2.2.2.2.2.1,h2⟩
      · cases h
theorem matchL_sound:∀ (P T:List Tm) (l l':List (Int × Tm)),P.length = T.length → matchL P T l = some l' → Ext l l' ∧ Tm.instL (findB l') P T
  | [],[],l,l',_,h=>by
    simp only [matchL] at h;cases h
    exact ⟨fun _ _ h=>h,by simp only [Tm.instL]⟩
  | p :: P,t :: T,l,l',hl,h=>by
    simp only [matchL] at h
    split at h
    · rename_i l1 h1
      obtain ⟨e1,i1⟩:=match_sound p t l l1 h1
      obtain ⟨e2,i2⟩:=matchL_sound P T l1 l' (by simpa using hl) h
      simp only [Tm.instL]
      exact ⟨fun v x hx=>e2 v x (e1 v x hx),inst_mono e2 p t i1,i2⟩
    · cases h
  | [],t :: T,l,l',hl,_=>by simp at hl
  | p :: P,[],l,l',hl,_=>by simp at hl
end
mutual
theorem match_complete {f:Int → Option Tm}:∀ (p t:Tm) (l:List (Int × Tm)),(∀ v x,findB l v = some x → f v = some x) → p.inst f t → ∃ l',matchT p t l = some l' ∧ ∀ v x,findB l' v = some x → f v = some x
  | .mk k v nm g num den args,.mk k' v' nm' g' num' den' args',l,hf,h=>by
    rw [matchT]
    by_cases hk:k = 1
    · subst hk
      rw [if_pos rfl]
      rw [inst_var] at h
      split
      · rename_i x hx
        have:=hf v x hx
        rw [h] at this
        cases this
        exact ⟨l,by simp,hf⟩
      · rename_i hx
        refine ⟨_,rfl,fun w y hy=>?_⟩
        rw [findB_putB l v _ w hx] at hy
        by_cases hvw:v = w
        · subst hvw;rw [if_pos rfl] at hy;rw [h];exact hy
        · rw [if_neg hvw] at hy;exact hf w y hy
    · rw [if_neg hk]
      rw [inst_non hk] at h
      obtain ⟨rfl,rfl,rfl,rfl,rfl,rfl,h7⟩:=h
      have hl:=instL_length h7
      simp only [true_and,if_pos hl]
      exact matchL_complete args args' l hf h7
theorem matchL_complete {f:Int → Option Tm}:∀ (P T:List Tm) (l:List (Int × Tm)),(∀ v x,findB l v = some x → f v = some x) → Tm.instL f P T → ∃ l',matchL P T l = some l' ∧ ∀ v x,findB l' v = some x → f v = some x
  | [],[],l,hf,_=>⟨l,by simp only [matchL],hf⟩
  | p :: P,t :: T,l,hf,h=>by
    simp only [Tm.instL] at h
    obtain ⟨l1,e1,f1⟩:=match_complete p t l hf h.1
    obtain ⟨l2,e2,f2⟩:=matchL_complete P T l1 f1 h.2
    exact ⟨l2,by simp only [matchL,e1];exact e2,f2⟩
  | [],t :: T,l,_,h=>by simp [Tm.instL] at h
  | p :: P,[],l,_,h=>by simp [Tm.instL] at h
end
end Go.Proofs.YtaloeffmigffaaaGreatDoor
end
section
namespace Go.Proofs.YtaloeffmigffaaaGreatDoor
theorem match_of_inst {f:Int → Option Tm} {p t:Tm} (h:p.inst f t):∃ l,matchT p t [] = some l:=by
  obtain ⟨l,h1,_⟩:=match_complete p t [] (fun v x hx=>by simp [findB] at hx) h
  exact ⟨l,h1⟩
theorem lgg_law (a b z:Tm) (ha:a.vd) (hb:b.vd) :
    (∃ l,matchT (genT [] a b) a [] = some l) ∧ (∃ l,matchT (genT [] a b) b [] = some l) ∧
    ((∃ l,matchT z a [] = some l) → (∃ l,matchT z b [] = some l) → ∃ l,matchT z (genT [] a b) [] = some l):=by
  obtain ⟨h1,h2⟩:=genT_inst a b ha hb
  refine ⟨match_of_inst h1,match_of_inst h2,?_⟩
  rintro ⟨l1,e1⟩ ⟨l2,e2⟩
  obtain ⟨f,hf⟩:=genT_least a b z ha hb (match_sound z a [] l1 e1).2 (match_sound z b [] l2 e2).2
  exact match_of_inst hf
end Go.Proofs.YtaloeffmigffaaaGreatDoor
end
