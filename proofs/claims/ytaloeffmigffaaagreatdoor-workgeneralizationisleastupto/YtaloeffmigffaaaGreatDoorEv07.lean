/-
  A part of the proof of the card of WorkGeneralizationIsLeast (second form): lemmas that the text Card uses. No condition of its own.
-/
import Derived.Test.YtaloeffmigffaaaGreatDoorEv06
import Derived.Recover
import Derived.Maps.RangeRun
set_option linter.all false
set_option linter.unusedVariables false
set_option linter.unusedSimpArgs false
section
namespace Go.Ev
open Go
variable {P:Program} {m:Mp} {w:World}
theorem extM1 {n n':M1} (h:∀ d,selM1 d n = selM1 d n'):n = n':=by
  cases n;cases n'
  congr 1 <;> first | exact h .d0 | exact h .d1 | exact h .d2 | exact h .d3 | exact h .d4 | exact h .d5 | exact h .d6 | exact h .d7
theorem extM2 {n n':M2} (h:∀ d,selM2 d n = selM2 d n'):n = n':=by
  cases n;cases n'
  congr 1 <;> first | exact h .d0 | exact h .d1 | exact h .d2 | exact h .d3 | exact h .d4 | exact h .d5 | exact h .d6 | exact h .d7
theorem extM3 {n n':M3} (h:∀ d,selM3 d n = selM3 d n'):n = n':=by
  cases n;cases n'
  congr 1 <;> first | exact h .d0 | exact h .d1 | exact h .d2 | exact h .d3 | exact h .d4 | exact h .d5 | exact h .d6 | exact h .d7
theorem extM4 {n n':M4} (h:∀ d,selM4 d n = selM4 d n'):n = n':=by
  cases n;cases n'
  congr 1 <;> first | exact h .d0 | exact h .d1 | exact h .d2 | exact h .d3 | exact h .d4 | exact h .d5 | exact h .d6 | exact h .d7
theorem extM5 {n n':Mem} (h:∀ d,selM5 d n = selM5 d n'):n = n':=by
  cases n;cases n'
  congr 1 <;> first | exact h .d0 | exact h .d1 | exact h .d2 | exact h .d3 | exact h .d4 | exact h .d5 | exact h .d6 | exact h .d7
theorem mem_ext {x y:Mem} (h:∀ i,mget i x = mget i y):x = y:=
  extM5 fun a=>extM4 fun b=>extM3 fun c=>extM2 fun d=>extM1 fun e=>h ⟨a,b,c,d,e⟩
theorem extF1 {n n':F1} (h:∀ d,selF1 d n = selF1 d n'):n = n':=by
  cases n;cases n'
  congr 1 <;> first | exact h .d0 | exact h .d1 | exact h .d2 | exact h .d3 | exact h .d4 | exact h .d5 | exact h .d6 | exact h .d7
theorem extF2 {n n':F2} (h:∀ d,selF2 d n = selF2 d n'):n = n':=by
  cases n;cases n'
  congr 1 <;> first | exact h .d0 | exact h .d1 | exact h .d2 | exact h .d3 | exact h .d4 | exact h .d5 | exact h .d6 | exact h .d7
theorem extF3 {n n':F3} (h:∀ d,selF3 d n = selF3 d n'):n = n':=by
  cases n;cases n'
  congr 1 <;> first | exact h .d0 | exact h .d1 | exact h .d2 | exact h .d3 | exact h .d4 | exact h .d5 | exact h .d6 | exact h .d7
theorem extF4 {n n':F4} (h:∀ d,selF4 d n = selF4 d n'):n = n':=by
  cases n;cases n'
  congr 1 <;> first | exact h .d0 | exact h .d1 | exact h .d2 | exact h .d3 | exact h .d4 | exact h .d5 | exact h .d6 | exact h .d7
theorem extF5 {n n':Fam} (h:∀ d,selF5 d n = selF5 d n'):n = n':=by
  cases n;cases n'
  congr 1 <;> first | exact h .d0 | exact h .d1 | exact h .d2 | exact h .d3 | exact h .d4 | exact h .d5 | exact h .d6 | exact h .d7
theorem fam_ext {x y:Fam} (h:∀ i,fget i x = fget i y):x = y:=
  extF5 fun a=>extF4 fun b=>extF3 fun c=>extF2 fun d=>extF1 fun e=>h ⟨a,b,c,d,e⟩
theorem wr_inv {h h':H} {b:Id} {o k:Nat} {xs:List V} {v:V} (hw:wr h b o xs k = .ok v h'):∃ sz els f els' ty,mget b h.mem = some (.cells sz els f (.rw ty)) ∧
    (∀ h2:H,mget b h2.mem = mget b h.mem → wr h2 b o xs k = .ok undefV (setO (loneH h2 f b) b (.cells sz els' f (.rw ty)))):=by
  unfold wr at hw
  cases hm:mget b h.mem with
  | none=>rw [hm] at hw;cases hw
  | some ob=>
    rw [hm] at hw
    cases ob with
    | cells sz els f ro=>
      simp only [wrO] at hw
      cases ro with
      | fz=>cases hw
      | fr _=>cases hw
      | rw ty=>
        simp only at hw
        cases he:nthL els (Nat.div o sz) with
        | none=>rw [he] at hw;cases hw
        | some el=>
          rw [he] at hw
          simp only at hw
          generalize hx:(Bool.rec (motive:=fun _=>Option (List V)) (overAt (Nat.mod o sz) el xs) (some xs) (Nat.beq (Nat.mod o sz) 0 && Nat.beq k sz):Option (List V)) = x at hw
          cases x with
          | none=>cases hw
          | some el'=>
            refine ⟨sz,els,f,setL els (Nat.div o sz) el',ty,rfl,?_⟩
            intro h2 h2m
            unfold wr
            rw [h2m]
            simp only [wrO,he,hx]
    | _=>cases hw
theorem isStore_spec {ops:List Oper} {s:Nat} (h:isStore ops s = true):∃ o t x y,ops[s]? = some o ∧ o.op = .store t x y ∧ o.dst = none ∧ o.guard = none:=by
  unfold isStore at h
  rw [nthO_eq] at h
  cases ho:ops[s]? with
  | none=>rw [ho] at h;cases h
  | some o=>
    rw [ho] at h
    simp only at h
    split at h
    · rename_i t x y h1 h2 h3
      exact ⟨o,t,x,y,rfl,h1,h2,h3⟩
    · cases h
theorem isStore_kn {ops:List Oper} {bef:List Nat} {s:Nat} {o:Oper} {t:TypeId} {x y:Operand} (h1:o.op = .store t x y) (h2:o.dst = none):knOf P ops bef s o = .heavy:=by
  simp [knOf,isLate,h1,h2,isNew,isHeavy]
theorem store_hv {t:TypeId} {x y:Operand} {call:CallT} {e:Env} {h h':H} {v:V} (hv:hvC P (.store t x y) call e h = .ok v h') :
    ∃ b o c nn,(opnd x).run e = .p b o ∧ wr h b o c nn = .ok v h' ∧ ∀ h2,hvC P (.store t x y) call e h2 = wr h2 b o c nn:=by
  have hH:isHeavy P (.store t x y) = true:=rfl
  unfold hvC at hv ⊢
  simp only [hH,cond_true,heavyC] at hv ⊢
  cases hs:sizeT P t with
  | none=>rw [hs] at hv;cases hv
  | some nn=>
    simp only [hs] at hv ⊢
    obtain ⟨b,o,e1,hv⟩:=as_p_H_ok hv
    cases hc:cellsQ ((opnd y).run e) with
    | none=>simp only [hc] at hv;cases hv
    | some c=>
      simp only [hc] at hv ⊢
      cases hn:Nat.beq (lenV1 c) nn with
      | false=>rw [hn] at hv;cases hv
      | true=>
        rw [hn] at hv
        refine ⟨b,o,c,nn,e1,hv,fun h2=>?_⟩
        rw [e1];rfl
def StoreIs (P:Program) (ops:List Oper) (s:Nat) (e:Env) (call:CallT) (b:Id) (o:Nat) (c:List V) (nn:Nat):Prop:=
  storeAt ops s e = some b ∧ ∀ base bef l h e' h' pc,(drawE P base ops bef (s :: l)).run call e h [] pc = .ok e' h' → ∃ v h1 pc',wr h b o c nn = .ok v h1 ∧ (drawE P base ops bef l).run call e h1 [] pc' = .ok e' h'
theorem draw_store {base:DOp2} {ops:List Oper} {bef:List Nat} {s:Nat} {l:List Nat} {call:CallT} {e e':Env} {h h':H} {pc:List PC} (hst:isStore ops s = true)
    (hv:(drawE P base ops bef (s :: l)).run call e h [] pc = .ok e' h'):∃ b o c nn,StoreIs P ops s e call b o c nn:=by
  obtain ⟨op,t,x,y,ho,h1,h2,h3⟩:=isStore_spec hst
  have key:∀ base bef l h2' e2 h3' pc2,(drawE P base ops bef (s :: l)).run call e h2' [] pc2 = .ok e2 h3' → ∃ v h4 pc3,hvC P (.store t x y) call (envM e (looksE ops op)) h2' = .ok v h4 ∧ (drawE P base ops bef l).run call e h4 [] pc3 = .ok e2 h3':=by
    intro base bef l h2' e2 h3' pc2 hr
    have hkn:=isStore_kn (P:=P) (ops:=ops) (bef:=bef) (s:=s) h1 h2
    rw [drawE] at hr
    simp only [nthO_eq,ho,hkn] at hr
    have hgd:gdC ops op (envM e (looksE ops op)) = some true:=by simp [gdC,h3]
    rw [hgd] at hr
    simp only at hr
    have hmt:matH (Nat.testBit (natAt bef s)) [] h2' = h2':=by cases h2';rfl
    rw [hmt,h1] at hr
    cases hc:hvC P (.store t x y) call (envM e (looksE ops op)) h2' with
    | bad=>rw [hc] at hr;cases hr
    | ok v h4=>
      rw [hc] at hr
      simp only at hr
      cases hck:pcAll (hq h4) (keepP (fun c=>!Nat.testBit (natAt bef s) c.idx) pc2) with
      | false=>rw [hck] at hr;cases hr
      | true=>
        rw [hck] at hr
        simp only [cond_true,h2,setD,keepP] at hr
        exact ⟨v,h4,_,rfl,hr⟩
  obtain ⟨v,h4,pc3,a1,a2⟩:=key _ _ _ _ _ _ _ hv
  obtain ⟨b,o,c,nn,b1,b2,b3⟩:=store_hv a1
  refine ⟨b,o,c,nn,?_,?_⟩
  · unfold storeAt
    rw [nthO_eq,ho]
    simp only [h1,b1]
  · intro base bef l h2' e2 h3' pc2 hr
    obtain ⟨v',h4',pc3',c1,c2⟩:=key _ _ _ _ _ _ _ hr
    exact ⟨v',h4',pc3',by rw [← b3];exact c1,c2⟩
theorem memI_iff (b:Id):∀ l:List Id,memI b l = true ↔ b ∈ l
  | []=>by simp [memI]
  | a :: l=>by
    rw [memI]
    cases h:Id.beq a b with
    | true=>have:=Id.beq_iff.1 h;simp [this]
    | false=>
      have:a ≠ b:=fun e=>by rw [Id.beq_iff.2 e] at h;cases h
      simp [memI_iff b l,Ne.symm this]
theorem wr_comm {h:H} {b1 b2 f1 f2:Id} {sz1 sz2:Nat} {els1 els2:List (List V)} {X1 X2:O} (hb:b1 ≠ b2) (hf:f1 ≠ f2) (h12:b2 ∉ fget f1 h.fams) (h21:b1 ∉ fget f2 h.fams) :
    setO (loneH (setO (loneH h f1 b1) b1 X1) f2 b2) b2 X2 = setO (loneH (setO (loneH h f2 b2) b2 X2) f1 b1) b1 X1:=by
  obtain ⟨mem,fams,next⟩:=h
  simp only [setO_eq,loneH_eq] at *
  have g2:fget f2 (if fget f1 fams = [] then fams else fput f1 [] fams) = fget f2 fams:=by
    split
    · rfl
    · rw [fget_fput_ne (Ne.symm hf)]
  have g1:fget f1 (if fget f2 fams = [] then fams else fput f2 [] fams) = fget f1 fams:=by
    split
    · rfl
    · rw [fget_fput_ne hf]
  rw [g1,g2]
  have e1:(mput b2 (some X2) (killM (others b2 (fget f2 fams)) (mput b1 (some X1) (killM (others b1 (fget f1 fams)) mem)))) = (mput b1 (some X1) (killM (others b1 (fget f1 fams)) (mput b2 (some X2) (killM (others b2 (fget f2 fams)) mem)))):=by
    refine mem_ext fun x=>?_
    by_cases x1:x = b1
    · subst x1
      rw [mget_mput,mget_mput_ne hb,mget_killM,mget_mput]
      simp [others_mem,h21]
    · by_cases x2:x = b2
      · subst x2
        rw [mget_mput,mget_mput_ne x1,mget_killM,mget_mput]
        simp [others_mem,h12]
      · rw [mget_mput_ne x2,mget_killM,mget_mput_ne x1,mget_killM,mget_mput_ne x1,mget_killM,mget_mput_ne x2,mget_killM]
        split <;> split <;> rfl
  have e2:(if fget f2 fams = [] then (if fget f1 fams = [] then fams else fput f1 [] fams) else fput f2 [] (if fget f1 fams = [] then fams else fput f1 [] fams)) = (if fget f1 fams = [] then (if fget f2 fams = [] then fams else fput f2 [] fams) else fput f1 [] (if fget f2 fams = [] then fams else fput f2 [] fams)):=by
    refine fam_ext fun x=>?_
    by_cases x1:x = f1
    · subst x1
      split <;> split <;> simp [fget_fput,fget_fput_ne hf, *]
    · by_cases x2:x = f2
      · subst x2
        split <;> split <;> simp [fget_fput,fget_fput_ne x1, *]
      · split <;> split <;> simp [fget_fput_ne x1,fget_fput_ne x2, *]
  rw [e1,e2]
theorem beqLL_eq:∀ {a b:List (List V)},beqLL a b = true → a = b
  | [],[],_=>rfl
  | [],_ :: _,h=>by simp [beqLL] at h
  | _ :: _,[],h=>by simp [beqLL] at h
  | a :: l,b :: r,h=>by
    simp only [beqLL,Bool.and_eq_true] at h
    rw [beqs_eq h.1,beqLL_eq h.2]
theorem wr_twice {h:H} {b f:Id} {X Y:O} :
    setO (loneH (setO (loneH h f b) b X) f b) b Y = setO (loneH h f b) b Y:=by
  obtain ⟨mem,fams,next⟩:=h
  simp only [setO_eq,loneH_eq]
  have g1:fget f (if fget f fams = [] then fams else fput f [] fams) = []:=by
    split
    · assumption
    · rw [fget_fput]
  rw [g1]
  congr 1
  · refine mem_ext fun x=>?_
    by_cases x1:x = b
    · subst x1;rw [mget_mput,mget_mput]
    · rw [mget_mput_ne x1,mget_mput_ne x1,mget_killM,mget_mput_ne x1]
      simp [others]
theorem pair_eq {ops:List Oper} {bef:List Nat} {s1 s2:Nat} {call:CallT} {e e':Env} {h h':H} {pn:List PN} {pc:List PC} (i1:isStore ops s1 = true) (i2:isStore ops s2 = true)
    (hv:(pairE P ops bef s1 s2).run call e h pn pc = .ok e' h'):(drawE P finE ops bef [s1,s2]).run call e h pn pc = .ok e' h' ∧ (drawE P finE ops bef [s2,s1]).run call e h pn pc = .ok e' h':=by
  unfold pairE at hv
  simp only at hv
  split at hv
  · rename_i e1 h1 e2 h2 r12 r21
    cases hp:pairOk ops s1 s2 e h pn with
    | false=>
      rw [hp] at hv
      simp only [cond_false] at hv
      cases hq:sameOk ops s1 s2 e h1 h2 pn with
      | false=>rw [hq] at hv;cases hv
      | true=>
        rw [hq] at hv
        simp only [cond_true] at hv
        cases hv
        refine ⟨r12,?_⟩
        rw [r21]
        unfold sameOk at hq
        split at hq
        · rename_i b1 b2 q1 q2
          simp only [Bool.and_eq_true] at hq
          obtain ⟨hq1,hq2⟩:=hq
          have hb:=Id.beq_iff.1 hq1
          subst hb
          obtain ⟨c1,o1,xs1,n1,a1,A1⟩:=draw_store i1 r12
          obtain ⟨c2,o2,xs2,n2,a2,A2⟩:=draw_store i2 r21
          rw [q1] at a1;cases a1
          rw [q2] at a2;cases a2
          obtain ⟨v1,k1,pc1,w1,r1⟩:=A1 _ _ _ _ _ _ _ r12
          obtain ⟨v2,k2,pc2,w2,r2⟩:=A2 _ _ _ _ _ _ _ r21
          obtain ⟨v12,k12,pc12,w12,r12'⟩:=A2 _ _ _ _ _ _ _ r1
          obtain ⟨v21,k21,pc21,w21,r21'⟩:=A1 _ _ _ _ _ _ _ r2
          have hm12:matH (fun _=>true) [] k12 = k12:=by cases k12;rfl
          have hm21:matH (fun _=>true) [] k21 = k21:=by cases k21;rfl
          simp only [drawE,finE,hm12] at r12'
          simp only [drawE,finE,hm21] at r21'
          injection r12' with x1 x2
          injection r21' with x3 x4
          rw [← x2,← x4] at hq2
          rw [← x1,← x2,← x3,← x4]
          obtain ⟨sz1,els1,f1,el1,ty1,g1,G1⟩:=wr_inv w1
          obtain ⟨sz2,els2,f2,el2,ty2,g2,G2⟩:=wr_inv w2
          rw [g1] at g2
          cases g2
          have y1:=G1 h rfl
          have y2:=G2 h rfl
          rw [w1] at y1
          rw [w2] at y2
          injection y1 with _ y1
          injection y2 with _ y2
          have m1:mget b1 k1.mem = some (.cells sz1 el1 f1 (.rw ty1)):=by
            rw [y1,setO_eq];exact mget_mput _ _ _
          have m2:mget b1 k2.mem = some (.cells sz1 el2 f1 (.rw ty1)):=by
            rw [y2,setO_eq];exact mget_mput _ _ _
          obtain ⟨sz3,els3,f3,el3,ty3,g3,G3⟩:=wr_inv w12
          obtain ⟨sz4,els4,f4,el4,ty4,g4,G4⟩:=wr_inv w21
          rw [m1] at g3;cases g3
          rw [m2] at g4;cases g4
          have z12:=G3 k1 rfl
          have z21:=G4 k2 rfl
          rw [w12] at z12
          rw [w21] at z21
          injection z12 with _ z12
          injection z21 with _ z21
          have p1:mget b1 k12.mem = some (.cells sz1 el3 f1 (.rw ty1)):=by
            rw [z12,setO_eq];exact mget_mput _ _ _
          have p2:mget b1 k21.mem = some (.cells sz1 el4 f1 (.rw ty1)):=by
            rw [z21,setO_eq];exact mget_mput _ _ _
          rw [p1,p2] at hq2
          simp only at hq2
          have hel:=beqLL_eq hq2
          rw [z12,z21,y1,y2,hel,wr_twice,wr_twice]
        · cases hq
    | true=>
      rw [hp] at hv
      simp only [cond_true] at hv
      cases hv
      refine ⟨r12,?_⟩
      rw [r21]
      unfold pairOk at hp
      split at hp
      · rename_i b1 b2 q1 q2
        obtain ⟨c1,o1,xs1,n1,a1,A1⟩:=draw_store i1 r12
        obtain ⟨c2,o2,xs2,n2,a2,A2⟩:=draw_store i2 r21
        rw [q1] at a1;cases a1
        rw [q2] at a2;cases a2
        obtain ⟨v1,k1,pc1,w1,r1⟩:=A1 _ _ _ _ _ _ _ r12
        obtain ⟨v2,k2,pc2,w2,r2⟩:=A2 _ _ _ _ _ _ _ r21
        obtain ⟨v12,k12,pc12,w12,r12'⟩:=A2 _ _ _ _ _ _ _ r1
        obtain ⟨v21,k21,pc21,w21,r21'⟩:=A1 _ _ _ _ _ _ _ r2
        have hm12:matH (fun _=>true) [] k12 = k12:=by cases k12;rfl
        have hm21:matH (fun _=>true) [] k21 = k21:=by cases k21;rfl
        simp only [drawE,finE,hm12] at r12'
        simp only [drawE,finE,hm21] at r21'
        injection r12' with x1 x2
        injection r21' with x3 x4
        rw [← x1,← x2,← x3,← x4]
        obtain ⟨sz1,els1,f1,el1,ty1,g1,G1⟩:=wr_inv w1
        obtain ⟨sz2,els2,f2,el2,ty2,g2,G2⟩:=wr_inv w2
        rw [g1,g2] at hp
        simp only [Bool.and_eq_true,Bool.not_eq_true'] at hp
        obtain ⟨p1,p2,p3,p4⟩:=hp
        have hf:f1 ≠ f2:=fun e1=>by rw [Id.beq_iff.2 e1] at p1;cases p1
        have hb:b1 ≠ b2:=fun e1=>by rw [Id.beq_iff.2 e1] at p2;cases p2
        have hn12:b2 ∉ fget f1 h.fams:=fun hx=>by rw [(memI_iff _ _).2 hx] at p3;cases p3
        have hn21:b1 ∉ fget f2 h.fams:=fun hx=>by rw [(memI_iff _ _).2 hx] at p4;cases p4
        have y1:=G1 h rfl
        have y2:=G2 h rfl
        rw [w1] at y1
        rw [w2] at y2
        injection y1 with _ y1
        injection y2 with _ y2
        have m1:mget b2 k1.mem = mget b2 h.mem:=by
          rw [y1,setO_eq,loneH_eq]
          show mget b2 (mput b1 _ (killM _ _)) = _
          rw [mget_mput_ne (Ne.symm hb),mget_killM]
          simp [others_mem,hn12]
        have m2:mget b1 k2.mem = mget b1 h.mem:=by
          rw [y2,setO_eq,loneH_eq]
          show mget b1 (mput b2 _ (killM _ _)) = _
          rw [mget_mput_ne hb,mget_killM]
          simp [others_mem,hn21]
        have z12:=G2 k1 m1
        have z21:=G1 k2 m2
        rw [w12] at z12
        rw [w21] at z21
        injection z12 with _ z12
        injection z21 with _ z21
        rw [z12,z21,y1,y2]
        congr 1
        exact (wr_comm (sz1:=0) (sz2:=0) (els1:=[]) (els2:=[]) hb hf hn12 hn21).symm
      · cases hp
  · cases hv
end Go.Ev
end
section
namespace Go.Ev
open Go
variable {P:Program} {n:Nat} {ops:Array Oper} {call:CallT} {e':Env} {h':H} {m0:Mp} {h0:H} {w0:World}
theorem ready_nil (hok:afterOk ops.toList = true) {listed:Array Bool} (hsz:listed.size = ops.size) (h:Region.ready .any ops listed = []):∀ i,i < ops.size → Sb listed i = true:=by
  intro i
  induction i using Nat.strongRecOn with
  | _ i ih=>
    intro hi
    cases hS:Sb listed i with
    | true=>rfl
    | false=>
      exfalso
      have ho:ops[i]? = some ops[i]:=by simp [hi]
      have ho':ops.toList[i]? = some ops[i]:=by simpa using ho
      have:i ∈ Region.ready .any ops listed:=by
        refine mem_ready.2 ⟨?_,ops[i],ho,?_⟩
        · unfold Sb at hS
          have:i < listed.size:=by omega
          simp [Array.getD,this] at hS ⊢;exact hS
        · intro x hx hb
          rw [binds_any] at hb
          have hk:=List.all_eq_true.1 (zipI_all hok ho') x (by simpa using hx)
          simp only [hb,Bool.not_true,Bool.false_or] at hk
          have hlt:x.on < i:=Nat.le_of_ble_eq_true hk
          exact ih x.on hlt (by omega)
      rw [h] at this;cases this
theorem idx_lt {s:Nat} {o:Oper} (ho:ops.toList[s]? = some o):s < ops.size:=by
  have:s < ops.toList.length:=(List.getElem?_eq_some_iff.1 ho).1
  simpa using this
def StA (P:Program) (n:Nat) (ops:Array Oper) (call:CallT) (e':Env) (h':H) (m0:Mp) (h0:H) (w0:World) (listed:Array Bool) (m:Mp) (a:Act) (w:World):Prop:=
  ∃ tl M T l e h pn pc,tlOk ops.toList (befGo [] ops.toList) tl = true ∧ tlPlan ops.toList (befGo [] ops.toList) M tl = true ∧
    Inv P n ops (baseE P ops.toList (befGo [] ops.toList) tl) tl call e' h' m0 h0 w0 listed T l e h pn pc m a w ∧ chainE P ops.toList (befGo [] ops.toList) tl l = true ∧ T ||| maskOf l = M
def StB (P:Program) (n:Nat) (ops:Array Oper) (call:CallT) (e':Env) (h':H) (m0:Mp) (h0:H) (w0:World) (listed:Array Bool) (m:Mp) (a:Act) (w:World):Prop:=
  ∃ s1 s2 T e h pn pc,isStore ops.toList s1 = true ∧ isStore ops.toList s2 = true ∧
    Inv P n ops finE [] call e' h' m0 h0 w0 listed T [s1,s2] e h pn pc m a w ∧ Inv P n ops finE [] call e' h' m0 h0 w0 listed T [s2,s1] e h pn pc m a w
theorem StA.norm (hord:ordOk ops.toList (befGo [] ops.toList) = true) (hreg:regOk P n ops = true) {listed:Array Bool} {m:Mp} {a:Act} {w:World} (k:StA P n ops call e' h' m0 h0 w0 listed m a w) :
    (∃ T e h pn pc,Inv P n ops finE [] call e' h' m0 h0 w0 listed T [] e h pn pc m a w) ∨
    (∃ tl M T s l o e h pn pc,tlOk ops.toList (befGo [] ops.toList) tl = true ∧ tlPlan ops.toList (befGo [] ops.toList) M tl = true ∧ ops.toList[s]? = some o ∧ knOf P ops.toList (befGo [] ops.toList) s o = .heavy ∧
      Inv P n ops (baseE P ops.toList (befGo [] ops.toList) tl) tl call e' h' m0 h0 w0 listed T (s :: l) e h pn pc m a w ∧ chainE P ops.toList (befGo [] ops.toList) tl (s :: l) = true ∧ T ||| maskOf (s :: l) = M) ∨
    StB P n ops call e' h' m0 h0 w0 listed m a w:=by
  obtain ⟨tl,M,T,l,e,h,pn,pc,k1,k2,k3,k4,k5⟩:=k
  obtain ⟨T1,l1,e1,h1,pn1,pc1,q1,q2,q3,q4⟩:=adv_all hord hreg l T e h pn pc k3 k4
  rcases q4 with rfl | ⟨s,l2,o,rfl,ho,hk⟩
  · match tl,k1,k2,q1,q2 with
    | [],_,_,q1,_=>exact .inl ⟨T1,e1,h1,pn1,pc1,q1⟩
    | [s1,s2],k1,k2,q1,_=>
      refine .inr (.inr ?_)
      simp only [tlOk,Bool.and_eq_true] at k1
      simp only [tlPlan,Bool.and_eq_true] at k2
      have hT:T1 = M:=by rw [← k5,q3];simp [maskOf]
      subst hT
      have hrun:=q1.run
      simp only [drawE,baseE] at hrun
      obtain ⟨r1,r2⟩:=pair_eq k1.1 k1.2.1 hrun
      exact ⟨s1,s2,T1,e1,h1,pn1,pc1,k1.1,k1.2.1,⟨q1.toCore,k2.1,r1⟩,⟨q1.toCore,k2.2,r2⟩⟩
    | [_],k1,_,_,_=>simp [tlOk] at k1
    | _ :: _ :: _ :: _,k1,_,_,_=>simp [tlOk] at k1
  · exact .inr (.inl ⟨tl,M,T1,s,l2,o,e1,h1,pn1,pc1,k1,k2,ho,hk,q1,q2,by rw [← q3];exact k5⟩)
theorem draw_main (hcall:CallOK P call) (hok:afterOk ops.toList = true) (hord:ordOk ops.toList (befGo [] ops.toList) = true) (hreg:regOk P n ops = true) {Q:Exit → Act → World → Prop}
    (hn:∀ m' a' w',Fr m0 h0 w0 m' h' w' → EnvR m' n e' a' → Q .normal a' w') :
    ∀ (fuel:Nat) (listed:Array Bool) (m:Mp) (a:Act) (w:World),
      StA P n ops call e' h' m0 h0 w0 listed m a w ∨ StB P n ops call e' h' m0 h0 w0 listed m a w → listed.toList.countP (fun b=>!b) ≤ fuel → wpAny P .any ops Q fuel listed a w:=by
  have hnorm:∀ (listed:Array Bool) (m:Mp) (a:Act) (w:World),StA P n ops call e' h' m0 h0 w0 listed m a w ∨ StB P n ops call e' h' m0 h0 w0 listed m a w →
    (∃ T e h pn pc,Inv P n ops finE [] call e' h' m0 h0 w0 listed T [] e h pn pc m a w) ∨
    (∃ tl M T s l o e h pn pc,tlOk ops.toList (befGo [] ops.toList) tl = true ∧ tlPlan ops.toList (befGo [] ops.toList) M tl = true ∧ ops.toList[s]? = some o ∧ knOf P ops.toList (befGo [] ops.toList) s o = .heavy ∧
      Inv P n ops (baseE P ops.toList (befGo [] ops.toList) tl) tl call e' h' m0 h0 w0 listed T (s :: l) e h pn pc m a w ∧ chainE P ops.toList (befGo [] ops.toList) tl (s :: l) = true ∧ T ||| maskOf (s :: l) = M) ∨
    StB P n ops call e' h' m0 h0 w0 listed m a w:=by
    rintro listed m a w (k | k)
    · exact k.norm hord hreg
    · exact .inr (.inr k)
  have notyet:∀ (base:DOp2) (tl:List Nat) (listed:Array Bool) (T s:Nat) (l:List Nat) (e:Env) (h:H) (pn:List PN) (pc:List PC) (m:Mp) (a:Act) (w:World),
      Inv P n ops base tl call e' h' m0 h0 w0 listed T (s :: l) e h pn pc m a w → Region.ready .any ops listed = [] → False:=by
    intro base tl listed T s l e h pn pc m a w k hr
    have hall:=ready_nil hok k.lsz hr
    obtain ⟨hsT,_,⟨o,ho⟩,_⟩:=plan_cons k.plan
    rw [k.sT s (hall s (idx_lt ho))] at hsT;cases hsT
  have fin:∀ (listed:Array Bool) (m:Mp) (a:Act) (w:World),StA P n ops call e' h' m0 h0 w0 listed m a w ∨ StB P n ops call e' h' m0 h0 w0 listed m a w → Region.ready .any ops listed = [] → Q .normal a w:=by
    intro listed m a w k hr
    rcases hnorm listed m a w k with ⟨T,e,h,pn,pc,k⟩ | ⟨tl,M,T,s,l,o,e,h,pn,pc,_,_,_,_,k,_⟩ | ⟨s1,s2,T,e,h,pn,pc,_,_,k,_⟩
    · have hall:=ready_nil hok k.lsz hr
      have hrun:=k.run
      simp only [drawE,finE] at hrun
      have hmat:matH (fun _=>true) pn h = matH (Sb listed) pn h:=by
        unfold matH
        rw [matM_congr h.mem pn (fun x hx=>?_)]
        obtain ⟨_,⟨o,ho⟩,_⟩:=k.pn1 x hx
        rw [hall _ (idx_lt ho)]
      simp only [hmat] at hrun
      have hh:e = e' ∧ matH (Sb listed) pn h = h':=by
        injection hrun with h1 h2;exact ⟨h1,h2⟩
      obtain ⟨rfl,rfl⟩:=hh
      refine hn m a w k.fr ⟨k.size,k.le,fun t ht=>?_,k.dfr⟩
      rcases k.env t ht with ⟨x,ox,_,hS,hx,_⟩ | h1
      · rw [hall x (idx_lt hx)] at hS;cases hS
      · exact h1
    · exact (notyet _ _ _ _ _ _ _ _ _ _ _ _ _ k hr).elim
    · exact (notyet _ _ _ _ _ _ _ _ _ _ _ _ _ k hr).elim
  have core:∀ (listed:Array Bool) (m:Mp) (a:Act) (w:World),StA P n ops call e' h' m0 h0 w0 listed m a w ∨ StB P n ops call e' h' m0 h0 w0 listed m a w → listed.size = ops.size:=by
    rintro listed m a w (⟨tl,M,T,l,e,h,pn,pc,_,_,k,_⟩ | ⟨s1,s2,T,e,h,pn,pc,_,_,k,_⟩) <;> exact k.lsz
  intro fuel
  induction fuel with
  | zero=>
    intro listed m a w k hc
    have hsz:=core _ _ _ _ k
    have hr:Region.ready .any ops listed = []:=by
      cases hx:Region.ready .any ops listed with
      | nil=>rfl
      | cons i r=>
        exfalso
        have hi:i ∈ Region.ready .any ops listed:=by rw [hx];simp
        obtain ⟨h1,o,ho,_⟩:=mem_ready.1 hi
        have hlt:i < listed.size:=by rw [hsz];exact (Array.getElem?_eq_some_iff.1 ho).1
        have hm:listed[i] = false:=by simpa [Array.getD,hlt] using h1
        have:0 < listed.toList.countP (fun b=>!b):=List.countP_pos_iff.2 ⟨false,by rw [← hm];simp,rfl⟩
        omega
    exact ⟨hr,fin _ _ _ _ k hr⟩
  | succ fuel ih=>
    intro listed m a w k0 hc
    have hsz:=core _ _ _ _ k0
    refine ⟨fin _ _ _ _ k0,?_⟩
    intro i hi
    obtain ⟨h1,o,ho',hready⟩:=mem_ready.1 hi
    have ho:ops.toList[i]? = some o:=by simpa using ho'
    have hlt:i < listed.size:=by rw [hsz];exact (Array.getElem?_eq_some_iff.1 ho').1
    have hm:listed[i] = false:=by simpa [Array.getD,hlt] using h1
    have hS:Sb listed i = false:=by simp [Sb,hlt,hm]
    have hdn:∀ x ∈ o.after.toList,bindsE x = true → Sb listed x.on = true:=fun x hx hb=>hready x (by simpa using hx) (by rw [binds_any];exact hb)
    have hcnt:(listed.setIfInBounds i true).toList.countP (fun b=>!b) ≤ fuel:=by
      rw [Array.toList_setIfInBounds]
      have hlt':i < listed.toList.length:=by simpa using hlt
      rw [List.countP_set hlt']
      have:(listed.toList[i]) = false:=by simpa using hm
      rw [this]
      simp only [Bool.not_false,Bool.not_true,if_true,Bool.false_eq_true,if_false]
      have hpos:0 < listed.toList.countP (fun b=>!b):=List.countP_pos_iff.2 ⟨false,by rw [← hm];simp,rfl⟩
      omega
    have passed:∀ (T:Nat) (e:Env) (h:H) (pn:List PN) (pc:List PC),Core P n ops m0 h0 w0 listed T e h pn pc m a w → Nat.testBit T i = true →
        (∀ m' a' w',Core P n ops m0 h0 w0 (listed.setIfInBounds i true) T e h pn pc m' a' w' → StA P n ops call e' h' m0 h0 w0 (listed.setIfInBounds i true) m' a' w' ∨ StB P n ops call e' h' m0 h0 w0 (listed.setIfInBounds i true) m' a' w') →
        wpOp P ops Q i (wpAny P .any ops Q fuel (listed.setIfInBounds i true)) a w:=by
      intro T e h pn pc k hT hnext
      have hbS:∀ x,Nat.testBit (natAt (befGo [] ops.toList) i) x = true → Sb listed x = true:=fun x hx=>bef_ready hok (S:=fun j=>Sb listed j = true) k.down ho hdn hx
      have hp:=k.pend i o ho hT hS
      cases hk:knOf P ops.toList (befGo [] ops.toList) i o with
      | light=>exact step_light hreg k ho hT hS hdn hbS hk (fun m' a' w' k'=>ih _ _ _ _ (hnext m' a' w' k') hcnt)
      | new=>exact step_new hreg k ho hT hS hdn hbS hk (fun m' a' w' k'=>ih _ _ _ _ (hnext m' a' w' k') hcnt)
      | heavy=>rw [hk] at hp;exact hp.elim
    rcases hnorm listed m a w k0 with ⟨T,e,h,pn,pc,k⟩ | ⟨tl,M,T,s,l,os,e,h,pn,pc,t1,t2,hos,hk,k,hch,hM⟩ | ⟨s1,s2,T,e,h,pn,pc,i1,i2,k12,k21⟩
    · cases hT:Nat.testBit T i with
      | true=>exact passed T e h pn pc k.toCore hT (fun m' a' w' k'=>.inl ⟨[],T ||| maskOf [],T,[],e,h,pn,pc,rfl,rfl,⟨k',k.plan,k.run⟩,rfl,rfl⟩)
      | false=>
        rcases plan_mem [] T k.plan i o ho hT with h1 | h1 <;> cases h1
    · have hbS:∀ x,Nat.testBit (natAt (befGo [] ops.toList) i) x = true → Sb listed x = true:=fun x hx=>bef_ready hok (S:=fun j=>Sb listed j = true) k.down ho hdn hx
      cases hT:Nat.testBit T i with
      | true=>exact passed T e h pn pc k.toCore hT (fun m' a' w' k'=>.inl ⟨tl,M,T,s :: l,e,h,pn,pc,t1,t2,⟨k',k.plan,k.run⟩,hch,hM⟩)
      | false=>
        obtain ⟨hsT,_,_,_⟩:=plan_cons k.plan
        obtain ⟨hw,hch'⟩:=chain_cons hch
        obtain ⟨w1,w2⟩:=hw os hos hk
        have bad:Nat.testBit (natAt (befGo [] ops.toList) i) s = true → False:=fun hb=>by
          have:=k.sT s (hbS s hb)
          rw [this] at hsT;cases hsT
        rcases plan_mem (s :: l) T k.plan i o ho hT with him | him
        · rcases List.mem_cons.1 him with e1 | him
          · subst e1
            rw [ho] at hos;cases hos
            exact step_heavy hcall hord hreg k ho hdn hbS hk (fun e1 h1 pn1 pc1 m' a' w' k'=>ih _ _ _ _ (.inl ⟨tl,M,_,l,e1,h1,pn1,pc1,t1,t2,k',hch',by rw [← hM,maskOf,Nat.or_assoc]⟩) hcnt)
          · exact (bad (w1 i him)).elim
        · exact (bad (w2 i him)).elim
    · have hbS:∀ x,Nat.testBit (natAt (befGo [] ops.toList) i) x = true → Sb listed x = true:=fun x hx=>bef_ready hok (S:=fun j=>Sb listed j = true) k12.down ho hdn hx
      have one:∀ (x y:Nat),isStore ops.toList x = true → isStore ops.toList y = true → Inv P n ops finE [] call e' h' m0 h0 w0 listed T [x,y] e h pn pc m a w → i = x →
          wpOp P ops Q i (wpAny P .any ops Q fuel (listed.setIfInBounds i true)) a w:=by
        intro x y ix iy k e1
        subst e1
        obtain ⟨ox,t,p,q,g1,g2,g3,_⟩:=isStore_spec ix
        rw [ho] at g1;cases g1
        refine step_heavy hcall hord hreg k ho hdn hbS (isStore_kn g2 g3) (fun e1 h1 pn1 pc1 m' a' w' k'=>ih _ _ _ _ (.inl ⟨[],(T ||| 2 ^ i) ||| maskOf [y],_,[y],e1,h1,pn1,pc1,rfl,rfl,k',?_,rfl⟩) hcnt)
        obtain ⟨oy,_,_,_,gy,_⟩:=isStore_spec iy
        simp [chainE,nthO_eq,gy]
      cases hT:Nat.testBit T i with
      | true=>exact passed T e h pn pc k12.toCore hT (fun m' a' w' k'=>.inr ⟨s1,s2,T,e,h,pn,pc,i1,i2,⟨k',k12.plan,k12.run⟩,⟨k',k21.plan,k21.run⟩⟩)
      | false=>
        rcases plan_mem [s1,s2] T k12.plan i o ho hT with him | him
        · rcases List.mem_cons.1 him with e1 | him
          · exact one s1 s2 i1 i2 k12 e1
          · rcases List.mem_cons.1 him with e1 | him
            · exact one s2 s1 i2 i1 k21 e1
            · cases him
        · cases him
theorem regE_sound {m:Mp} {w:World} {e:Env} {a:Act} {h:H} (hmix:P.follows .mixedOrders = true) (hcall:CallOK P call) (hreg:regOk P n ops = true) {Q:Exit → Act → World → Prop} {id:Nat}
    (k:EnvR m n e a) (hg:Gl P m) (hr:HR m h w) (hv:(regE P ops.toList).run call e h = .ok e' h')
    (hn:∀ m' a' w',Fr m h w m' h' w' → EnvR m' n e' a' → Q .normal a' w'):(Code.region id ops true).wp P Q a w:=by
  unfold regE at hv
  simp only at hv
  generalize hpl:tailE ops.toList (befGo [] ops.toList) _ = pt at hv
  obtain ⟨pl,tl⟩:=pt
  simp only at hv
  generalize hc:(afterOk ops.toList && _) = c at hv
  cases c with
  | false=>cases hv
  | true=>
    simp only [cond_true] at hv
    simp only [Bool.and_eq_true] at hc
    obtain ⟨hok,hord,_,hplan,hch,htl,htp⟩:=hc
    refine wp_region_any hmix ?_
    have hS0:∀ j,Sb (Array.replicate ops.size false) j = false:=by
      intro j;unfold Sb
      by_cases hj:j < ops.size
      · simp [Array.getD,hj]
      · simp [Array.getD,hj]
    refine draw_main (m0:=m) (h0:=h) (w0:=w) hcall hok hord hreg hn ops.size _ m a _ (.inl ⟨tl,maskOf pl,0,pl,e,h,[],[],htl,htp,⟨?_,hplan,hv⟩,hch,by simp⟩) ?_
    · refine ⟨by simp,?_,?_,?_,?_,k.size,k.le,k.dfr,fun t ht=>.inr (k.val t ht),?_,hg,.nil,?_,?_⟩
      · intro i o _ hS;rw [hS0] at hS;cases hS
      · intro j hS;rw [hS0] at hS;cases hS
      · intro j hT;simp at hT
      · intro j o _ hT;simp at hT
      · exact Fr.drawn hr _
      · intro x hx;cases hx
      · intro x hx;cases hx
    · refine Nat.le_trans List.countP_le_length ?_
      simp
end Go.Ev
end
section
namespace Go.Ev
open Go
variable (P:Program)
noncomputable def codeE (lf:Nat):Code → COd
  | .skip=>⟨fun _ e h=>.nrm e h⟩
  | .label _=>⟨fun _ e h=>.nrm e h⟩
  | .ret=>⟨fun _ e h=>.ret e h⟩
  | .exit id=>⟨fun _ e h=>.ext id e h⟩
  | .seq a b=>⟨fun call e h=>CR.rec (motive:=fun _=>CR) .bad (fun e h=>(codeE lf b).run call e h) (fun i e h=>.ext i e h) (fun e h=>.ret e h) ((codeE lf a).run call e h)⟩
  | .cond c a b=>⟨fun call e h=>as_b_C ((opnd c).run e) (fun t=>iteC t ((codeE lf a).run call e h) ((codeE lf b).run call e h)) .bad⟩
  | .block id b=>⟨fun call e h=>CR.rec (motive:=fun _=>CR) .bad (fun e h=>.nrm e h) (fun j e h=>iteC (Nat.beq j id) (.nrm e h) (.ext j e h)) (fun e h=>.ret e h) ((codeE lf b).run call e h)⟩
  | .loop b=>⟨fun call e h=>loopN ((codeE lf b).run call) lf e h⟩
  | .region _ ops false=>⟨fun call e h=>Rs.rec (motive:=fun _=>CR) .bad (fun e h=>.nrm e h) ((seqC P ops.toList ops.toList).run call e h)⟩
  | .region _ ops true=>⟨fun call e h=>Rs.rec (motive:=fun _=>CR) .bad (fun e h=>.nrm e h) ((regE P ops.toList).run call e h)⟩
  | _=>⟨fun _ _ _=>.bad⟩
def isRecover (o:Oper):Option Nat:=
  match o.op,o.dst,o.guard with
  | .call ⟨.builtin .recover,⟨[]⟩,_⟩,some d,none=>some d
  | _,_,_=>none
noncomputable def defC (lf:Nat):Code → COd
  | .seq a b=>⟨fun call e h=>CR.rec (motive:=fun _=>CR) .bad (fun e h=>(codeE P lf b).run call e h) (fun i e h=>.ext i e h) (fun e h=>.ret e h) ((defC lf a).run call e h)⟩
  | .region id ⟨o :: l⟩ false=>(match isRecover o with
    | some d=>⟨fun call e h=>Rs.rec (motive:=fun _=>CR) .bad (fun e h=>.nrm e h) ((seqC P (o :: l) l).run call (eset d .ni e) h)⟩
    | none=>codeE P lf (.region id ⟨o :: l⟩ false))
  | c=>codeE P lf c
noncomputable def leave0 (rs:List ResultVar) (e:Env) (h:H):VH:=
  match eget defSlot e with
  | .tup []=>vhO h ((retC P rs).run e h)
  | _=>.bad
noncomputable def defF (lf f:Nat):FOp:=
  match P.funcs[f]? with
  | none=>badF
  | some fn=>match fn.body with
    | none=>badF
    | some c=>⟨fun call args h=>iteH (Nat.ble (lenV1 args) fn.ntmps)
        (CR.rec (motive:=fun _=>VH) .bad (fun e h=>leave0 P fn.results.toList e h) (fun _ _ _=>.bad) (fun e h=>leave0 P fn.results.toList e h) ((defC P lf c).run call (putArgs 0 args Env.new) h)) .bad⟩
noncomputable def runDefE (lf:Nat) (call:CallT):List V → H → Option H
  | [],h=>some h
  | .fn (.func n) first cap :: l,h=>match (defF P lf n).run call (first ++ cap) h with | .ok _ h'=>runDefE lf call l h' | .bad=>none
  | _,_=>none
noncomputable def leaveE (lf:Nat) (rs:List ResultVar) (call:CallT) (e:Env) (h:H):VH:=
  match eget defSlot e with
  | .tup []=>vhO h ((retC P rs).run e h)
  | .tup l=>(match runDefE P lf call l h with | some h'=>vhO h' ((retC P rs).run e h') | none=>.bad)
  | _=>.bad
noncomputable def bodyE (lf:Nat) (fn:Func) (c:Code):FOp:=
  ⟨fun call args h=>iteH (Nat.ble (lenV1 args) fn.ntmps)
    (CR.rec (motive:=fun _=>VH) .bad (fun e h=>leaveE P lf fn.results.toList call e h) (fun _ _ _=>.bad) (fun e h=>leaveE P lf fn.results.toList call e h) ((codeE P lf c).run call (putArgs 0 args Env.new) h)) .bad⟩
noncomputable def funcE (sp:Nat → Option FOp) (lf:Nat) (f:Nat):FOp:=
  match sp f with
  | some op=>op
  | none=>match P.funcs[f]? with
    | none=>badF
    | some fn=>match fn.body with
      | none=>badF
      | some c=>bodyE P lf fn c
noncomputable def callE (sp:Nat → Option FOp) (lf:Nat) (n:Nat):CallT:=
  Nat.rec (motive:=fun _=>CallT) (fun _ _ _=>.bad) (fun _ ih f args h=>(funcE P sp lf f).run ih args h) n
def codeOk (n:Nat):Code → Bool
  | .seq a b=>codeOk n a && codeOk n b
  | .cond c a b=>opOk P n c && (codeOk n a && codeOk n b)
  | .block _ b=>codeOk n b
  | .loop b=>codeOk n b
  | .region _ ops _=>regOk P n ops
  | _=>true
def resOk (n:Nat):ResultVar → Bool
  | .tmp t=>Nat.ble (Nat.succ t) n
  | .cell t _=>Nat.ble (Nat.succ t) n
def funcOk (fn:Func):Bool:=
  match fn.body with
  | none=>true
  | some c => Nat.ble fn.ntmps 511 && (codeOk P fn.ntmps c && (fn.results.toList.all (resOk fn.ntmps) && !(fn.name == "runtime.NumGoroutine")))
def progOk:Bool:=P.funcs.toList.all (funcOk P)
end Go.Ev
end
section
namespace Go.Ev
open Go
variable {P:Program} {m:Mp} {w:World}
def CQ (m:Mp) (h:H) (w:World) (n:Nat) (Q:Exit → Act → World → Prop):CR → Prop
  | .bad=>False
  | .nrm e' h'=>∀ m' a' w',Fr m h w m' h' w' → EnvR m' n e' a' → Q .normal a' w'
  | .ext i e' h'=>∀ m' a' w',Fr m h w m' h' w' → EnvR m' n e' a' → Q (.exit i) a' w'
  | .ret e' h'=>∀ m' a' w',Fr m h w m' h' w' → EnvR m' n e' a' → Q .ret a' w'
theorem CQ.of_fr {m':Mp} {h h':H} {w':World} {n:Nat} {Q:Exit → Act → World → Prop} (hF:Fr m h w m' h' w'):∀ {r:CR},CQ m h w n Q r → CQ m' h' w' n Q r
  | .bad,k=>k
  | .nrm _ _,k=>fun m2 a2 w2 h2=>k m2 a2 w2 (hF.trans h2)
  | .ext _ _ _,k=>fun m2 a2 w2 h2=>k m2 a2 w2 (hF.trans h2)
  | .ret _ _,k=>fun m2 a2 w2 h2=>k m2 a2 w2 (hF.trans h2)
theorem codeE_sound {n lf:Nat} {call:CallT} (hcall:CallOK P call) (hmix:P.follows .mixedOrders = true):∀ (c:Code),codeOk P n c = true →
    ∀ (m:Mp) (e:Env) (a:Act) (h:H) (w:World) (Q:Exit → Act → World → Prop),EnvR m n e a → Gl P m → HR m h w → CQ m h w n Q ((codeE P lf c).run call e h) → c.wp P Q a w:=by
  intro c
  induction c with
  | skip=>intro hc m e a h w Q k hg hr hq;exact wp_skip (hq m a w (Fr.refl hr) k)
  | label l=>intro hc m e a h w Q k hg hr hq;exact wp_label (hq m a w (Fr.refl hr) k)
  | ret=>intro hc m e a h w Q k hg hr hq;exact wp_ret (hq m a w (Fr.refl hr) k)
  | exit id=>intro hc m e a h w Q k hg hr hq;exact wp_exit (hq m a w (Fr.refl hr) k)
  | seq x y ihx ihy=>
    intro hc m e a h w Q k hg hr hq
    simp only [codeOk,Bool.and_eq_true] at hc
    refine wp_seq (ihx hc.1 m e a h w _ k hg hr ?_)
    simp only [codeE] at hq
    cases hx:(codeE P lf x).run call e h with
    | bad=>rw [hx] at hq;exact hq.elim
    | nrm e1 h1=>
      rw [hx] at hq
      intro m' a' w' hF hE
      exact ihy hc.2 m' e1 a' h1 w' Q hE (hg.mono hF.le) hF.hr (hq.of_fr hF)
    | ext i e1 h1=>rw [hx] at hq;exact hq
    | ret e1 h1=>rw [hx] at hq;exact hq
  | cond c x y ihx ihy=>
    intro hc m e a h w Q k hg hr hq
    simp only [codeOk,Bool.and_eq_true] at hc
    simp only [codeE] at hq
    have hC:=opnd_sound k hg hc.1
    generalize hres:as_b_C ((opnd c).run e) (fun t=>iteC t ((codeE P lf x).run call e h) ((codeE P lf y).run call e h)) .bad = r at hq
    rcases as_b_C_of hres with ⟨b,hb,hv⟩ | ⟨hb,hv⟩
    · rw [hb] at hC
      simp only [R] at hC
      refine wp_cond hC ?_
      rcases iteC_of hv with ⟨hb1,hv2⟩ | ⟨hb1,hv2⟩
      · rw [hb1];exact ihx hc.2.1 m e a h w Q k hg hr (by rw [hv2];exact hq)
      · rw [hb1];exact ihy hc.2.2 m e a h w Q k hg hr (by rw [hv2];exact hq)
    · rw [← hv] at hq;exact hq.elim
  | block id x ih=>
    intro hc m e a h w Q k hg hr hq
    simp only [codeOk] at hc
    simp only [codeE] at hq
    refine wp_block (ih hc m e a h w _ k hg hr ?_)
    cases hx:(codeE P lf x).run call e h with
    | bad=>rw [hx] at hq;exact hq.elim
    | nrm e1 h1=>rw [hx] at hq;exact hq
    | ret e1 h1=>rw [hx] at hq;exact hq
    | ext j e1 h1=>
      rw [hx] at hq
      simp only at hq
      intro m' a' w' hF hE
      show (if j = id then Q .normal a' w' else Q (.exit j) a' w')
      generalize hres:iteC (Nat.beq j id) (.nrm e1 h1) (.ext j e1 h1) = r at hq
      rcases iteC_of hres with ⟨hj,hv⟩ | ⟨hj,hv⟩
      · rw [if_pos (Nat.eq_of_beq_eq_true hj)]
        rw [← hv] at hq;exact hq m' a' w' hF hE
      · rw [if_neg (Nat.ne_of_beq_eq_false hj)]
        rw [← hv] at hq;exact hq m' a' w' hF hE
  | loop x ih=>
    intro hc m e a h w Q k hg hr hq
    simp only [codeOk] at hc
    simp only [codeE] at hq
    refine wp_loop_rounds lf ?_
    have key:∀ (N:Nat) (m:Mp) (e:Env) (a:Act) (h:H) (w:World),EnvR m n e a → Gl P m → HR m h w → CQ m h w n Q (loopN ((codeE P lf x).run call) N e h) → Code.rounds P x Q N a w:=by
      intro N
      induction N with
      | zero=>intro m e a h w k hg hr hq;exact hq.elim
      | succ N ihN=>
        intro m e a h w k hg hr hq
        rw [rounds_succ]
        refine ih hc m e a h w _ k hg hr ?_
        have hl:loopN ((codeE P lf x).run call) (N + 1) e h = CR.rec (motive:=fun _=>CR) .bad (fun e h=>loopN ((codeE P lf x).run call) N e h) (fun i e h=>.ext i e h) (fun e h=>.ret e h) ((codeE P lf x).run call e h):=rfl
        rw [hl] at hq
        cases hx:(codeE P lf x).run call e h with
        | bad=>rw [hx] at hq;exact hq.elim
        | nrm e1 h1=>
          rw [hx] at hq
          intro m' a' w' hF hE
          exact ihN m' e1 a' h1 w' hE (hg.mono hF.le) hF.hr (hq.of_fr hF)
        | ext i e1 h1=>rw [hx] at hq;exact hq
        | ret e1 h1=>rw [hx] at hq;exact hq
    exact key lf m e a h w k hg hr hq
  | region id ops d=>
    intro hc m e a h w Q k hg hr hq
    simp only [codeOk] at hc
    cases d with
    | false=>
      simp only [codeE] at hq
      cases hx:(seqC P ops.toList ops.toList).run call e h with
      | bad=>rw [hx] at hq;exact hq.elim
      | ok e1 h1=>rw [hx] at hq;exact region_sound hcall hc k hg hr hx hq
    | true=>
      simp only [codeE] at hq
      cases hx:(regE P ops.toList).run call e h with
      | bad=>rw [hx] at hq;exact hq.elim
      | ok e1 h1=>rw [hx] at hq;exact regE_sound hmix hcall hc k hg hr hx hq
  | _=>intro hc m e a h w Q k hg hr hq;simp only [codeE] at hq;exact hq.elim
end Go.Ev
end
section
namespace Go.Ev
open Go
variable {P:Program} {m:Mp} {w:World}
theorem eget_new (t:Nat):eget t Env.new = undefV:=by
  unfold eget Env.new N8.all
  cases dg (t / 64) <;> cases dg (t / 8 % 8) <;> cases dg (t % 8) <;> rfl
theorem eget_putArgs:∀ (l:List V) (i:Nat) (e:Env) (t:Nat),i + l.length ≤ 511 → t < 512 → eget t (putArgs i l e) = if i ≤ t ∧ t < i + l.length then (l[t - i]?).getD .top else eget t e
  | [],i,e,t,_,_=>by
    have:¬ (i ≤ t ∧ t < i + 0):=by omega
    simp [putArgs];omega
  | v :: l,i,e,t,hl,ht=>by
    simp only [List.length_cons] at hl
    rw [putArgs,eget_putArgs l (i + 1) _ t (by omega) ht]
    by_cases h1:i + 1 ≤ t ∧ t < i + 1 + l.length
    · rw [if_pos h1,if_pos (by simp;omega)]
      have:t - i = (t - (i + 1)) + 1:=by omega
      rw [this];simp
    · rw [if_neg h1]
      by_cases h2:t = i
      · subst h2
        rw [eget_eset,if_pos (by simp)];simp
      · rw [eget_eset_ne ht (by omega) h2,if_neg (by simp;omega)]
theorem args_env {n:Nat} {args:List V} {us:List Value} (hR:Rl m args us) (hl:args.length ≤ n) (hn:n ≤ 511) :
    EnvR m n (putArgs 0 args Env.new) { tmps:=(⟨us⟩:Array Value) ++ Array.replicate (n - us.length) undef,defers:=[] }:=by
  have hlen:=hR.length
  refine ⟨by simp;omega,hn,?_,?_⟩
  · intro t ht
    rw [eget_putArgs args 0 _ t (by omega) (by omega)]
    by_cases h1:t < args.length
    · rw [if_pos (by omega)]
      obtain ⟨v,hv⟩:∃ v,args[t]? = some v:=⟨args[t],by simp [h1]⟩
      obtain ⟨u,hu,hRu⟩:=hR.get hv
      have:((⟨us⟩:Array Value) ++ Array.replicate (n - us.length) undef).getD t undef = u:=by
        rw [Array.getD_eq_getD_getElem?,Array.getElem?_append_left (by show t < us.length;omega)]
        have h9:(⟨us⟩:Array Value)[t]? = some u:=by simpa using hu
        rw [h9];rfl
      simp only [Nat.sub_zero,hv,Option.getD_some]
      show R m v (((⟨us⟩:Array Value) ++ Array.replicate (n - us.length) undef).getD t undef)
      rw [this];exact hRu
    · rw [if_neg (by omega),eget_new]
      have:((⟨us⟩:Array Value) ++ Array.replicate (n - us.length) undef).getD t undef = undef:=by
        rw [Array.getD_eq_getD_getElem?,Array.getElem?_append_right (by show us.length ≤ t;omega)]
        have:t - us.length < n - us.length:=by omega
        show ((Array.replicate (n - us.length) undef)[t - us.length]?).getD undef = undef
        simp [this]
      show R m undefV (((⟨us⟩:Array Value) ++ Array.replicate (n - us.length) undef).getD t undef)
      rw [this];simp [R,Rl,undefV,undef]
  · refine ⟨[],?_,rfl⟩
    rw [eget_putArgs args 0 _ defSlot (by omega) (by decide),if_neg (by simp [defSlot];omega),eget_new];rfl
theorem resC_sound {n:Nat} {e:Env} {a:Act} (k:EnvR m n e a) {h:H} (hr:HR m h w) {r:ResultVar} (hok:resOk n r = true) {v:V} (hv:(resC P r).run e h = some v) :
    ∃ u,((match r with | .tmp t=>pure (a.tmps.getD t undef) | .cell x t=>do loadVar t (← asAddr (a.tmps.getD x undef)):Sem Value)).run P w = .ok u w ∧ R m v u:=by
  cases r with
  | tmp t=>
    simp only [resC] at hv
    cases hv
    exact ⟨a.tmps.getD t undef,by simp,k.val t (Nat.le_of_ble_eq_true hok)⟩
  | cell x t=>
    have hx:=k.val x (Nat.le_of_ble_eq_true hok)
    simp only [resC] at hv
    have hd:∃ d,P.underlying t = some d:=by
      cases hu:P.underlying t with
      | some d=>exact ⟨d,rfl⟩
      | none=>simp [sizeT,isAggT,hu] at hv
    obtain ⟨d,hd⟩:=hd
    have key:∀ nn,sizeT P t = some nn → as_p_O (eget x e) (fun b o=>iteO (isAggT P t) (aggO (rd h b o nn)) (rd1 h b o)) none = some v →
        ∃ u,(do loadVar t (← asAddr (a.tmps.getD x undef)):Sem Value).run P w = .ok u w ∧ R m v u:=by
      intro nn hs hv
      obtain ⟨u',h1,h2⟩:=load_sound hr hd hs hx hv
      refine ⟨u',?_,h2⟩
      obtain ⟨b,o,e1,_⟩:=as_p_O_some hv
      rw [e1] at hx
      obtain ⟨l,hl,hu⟩:=R_p hx
      rw [hu] at h1 ⊢
      simpa [Instr.loadAt,Instr.sureAddr,asAddr] using h1
    cases ha:isAggT P t with
    | true=>
      cases hs:sizeT P t with
      | none=>rw [ha,hs] at hv;cases hv
      | some nn=>
        rw [ha,hs] at hv
        exact key nn hs (by rw [ha];exact hv)
    | false=>
      cases hs:sizeT P t with
      | none=>rw [ha,hs] at hv;cases hv
      | some nn=>
        rw [ha,hs] at hv
        exact key nn hs (by rw [ha];exact hv)
theorem resCs_sound {n:Nat} {e:Env} {a:Act} (k:EnvR m n e a) {h:H} (hr:HR m h w):∀ (rs:List ResultVar),rs.all (resOk n) = true → ∀ vs,(resCs P rs).run e h = some vs →
    ∃ us,(rs.mapM (fun r=>(match r with | .tmp t=>pure (a.tmps.getD t undef) | .cell x t=>do loadVar t (← asAddr (a.tmps.getD x undef)):Sem Value))).run P w = .ok us w ∧ Rl m vs us
  | [],_,vs,hv=>by
    simp only [resCs] at hv
    cases hv
    exact ⟨[],by simp,by simp [Rl]⟩
  | r :: rs,hok,vs,hv=>by
    simp only [List.all_cons,Bool.and_eq_true] at hok
    simp only [resCs] at hv
    cases h1:(resC P r).run e h with
    | none=>rw [h1] at hv;cases hv
    | some v=>
      cases h2:(resCs P rs).run e h with
      | none=>rw [h1,h2] at hv;cases hv
      | some vs'=>
        rw [h1,h2] at hv
        cases hv
        obtain ⟨u,a1,a2⟩:=resC_sound k hr hok.1 h1
        obtain ⟨us,b1,b2⟩:=resCs_sound k hr rs hok.2 vs' h2
        refine ⟨u :: us,?_,by simp only [Rl];exact ⟨u,us,rfl,a2,b2⟩⟩
        rw [List.mapM_cons,Sem.run_bind,a1,Result.andThen_ok,Sem.run_bind,b1,Result.andThen_ok,Sem.run_pure]
theorem retC_sound {n:Nat} {e:Env} {a:Act} (k:EnvR m n e a) {h:H} (hr:HR m h w) {fn:Func} (hok:fn.results.toList.all (resOk n) = true) {v:V} (hv:(retC P fn.results.toList).run e h = some v) :
    ∃ u,(results fn a.tmps).run P w = .ok u w ∧ R m v u:=by
  have hm:∃ vs,(resCs P fn.results.toList).run e h = some vs ∧ ((vs = [v] ∧ fn.results.toList.length = 1) ∨ (v = .tup vs ∧ fn.results.toList.length ≠ 1)):=by
    generalize fn.results.toList = rs at hv
    match rs,hv with
    | [r],hv=>
      refine ⟨[v],?_,.inl ⟨rfl,rfl⟩⟩
      simp only [retC] at hv
      simp only [resCs]
      rw [hv]
    | [],hv=>
      simp only [retC,resCs] at hv
      cases hv
      exact ⟨[],rfl,.inr ⟨rfl,by simp⟩⟩
    | r1 :: r2 :: l,hv=>
      simp only [retC] at hv
      cases h1:(resCs P (r1 :: r2 :: l)).run e h with
      | none=>rw [h1] at hv;cases hv
      | some vs=>
        rw [h1] at hv
        cases hv
        exact ⟨vs,rfl,.inr ⟨rfl,by simp⟩⟩
  obtain ⟨vs,h1,h2⟩:=hm
  obtain ⟨us,b1,b2⟩:=resCs_sound k hr _ hok vs h1
  have hlen:us.length = fn.results.toList.length:=by
    have hv:∀ (rs:List ResultVar) vs,(resCs P rs).run e h = some vs → vs.length = rs.length:=by
      intro rs
      induction rs with
      | nil=>intro vs hv;simp only [resCs] at hv;cases hv;rfl
      | cons r rs ih=>
        intro vs hv
        simp only [resCs] at hv
        cases h1:(resC P r).run e h with
        | none=>rw [h1] at hv;cases hv
        | some v=>
          cases h2:(resCs P rs).run e h with
          | none=>rw [h1,h2] at hv;cases hv
          | some vs'=>rw [h1,h2] at hv;cases hv;simp [ih vs' h2]
    rw [b2.length,hv _ _ h1]
  have hrun:((fn.results.mapM (fun r=>(match r with | .tmp t=>pure (a.tmps.getD t undef) | .cell x t=>do loadVar t (← asAddr (a.tmps.getD x undef)):Sem Value)))).run P w = .ok ⟨us⟩ w:=by
    have he:fn.results = fn.results.toList.toArray:=by simp
    rw [he,List.mapM_toArray,map_eq_pure_bind,Sem.run_bind,b1,Result.andThen_ok,Sem.run_pure]
  have hres:(results fn a.tmps).run P w = .ok (if h:(⟨us⟩:Array Value).size = 1 then (⟨us⟩:Array Value)[0] else .tuple ⟨us⟩) w:=by
    unfold results
    rw [Sem.run_bind]
    show (Result.andThen ((fn.results.mapM (fun r=>(match r with | .tmp t=>pure (a.tmps.getD t undef) | .cell x t=>do loadVar t (← asAddr (a.tmps.getD x undef)):Sem Value))).run P w) _) = _
    rw [hrun,Result.andThen_ok,Sem.run_pure]
  refine ⟨_,hres,?_⟩
  rcases h2 with ⟨rfl,h3⟩ | ⟨rfl,h3⟩
  · simp only [Rl] at b2
    obtain ⟨u,us',rfl,hR,rfl⟩:=b2
    exact hR
  · have:¬ (⟨us⟩:Array Value).size = 1:=by show ¬ us.length = 1;rw [hlen];exact h3
    rw [dif_neg this]
    simp only [R];exact ⟨us,rfl,b2⟩
end Go.Ev
end
section
namespace Go.Ev
open Go
variable {P:Program} {m:Mp} {w:World}
theorem wpOpS_of {ops:Array Oper} {Q:Exit → Act → List Frame → World → Prop} {cs:List Frame} {i:Nat} {rest:List Nat} {a:Act} (hQo:∀ a w,¬ Q .outgrown a cs w)
    (h:wpOp P ops (fun e a w=>Q e a cs w) i (fun a' w'=>wpOpsS P ops Q rest a' cs w') a w):wpOpsS P ops Q (i :: rest) a cs w:=by
  unfold wpOp at h
  simp only [wpOpsS]
  cases ho:ops[i]? with
  | none=>rw [ho] at h;exact h
  | some o=>
    rw [ho] at h
    simp only at h ⊢
    split at h
    · rename_i hw
      rw [if_pos hw]
      rcases h with h | ⟨_,a0,w0,hl⟩
      · unfold Oper.wp at h
        generalize (execOp a.eval o).run P w = r at h ⊢
        cases r with
        | ok n w'=>cases n <;> first | exact h | (simp [Oper.upon] at h)
        | halt x w'=>exact h
      · exact absurd hl (hQo a0 w0)
    · rename_i hw
      rw [if_neg hw];exact h
theorem seqS_sound {n:Nat} {call:CallT} (hcall:CallOK P call) {ops:Array Oper} (hreg:regOk P n ops = true) {Q:Exit → Act → List Frame → World → Prop} {cs:List Frame} (hQo:∀ a w,¬ Q .outgrown a cs w) :
    ∀ (l:List Oper) (i:Nat) (m:Mp) (e e':Env) (a:Act) (h h':H) (w:World),ops.toList.drop i = l → EnvR m n e a → Gl P m → HR m h w → (seqC P ops.toList l).run call e h = .ok e' h' →
      (∀ m' a' w',Fr m h w m' h' w' → EnvR m' n e' a' → Q .normal a' cs w') → wpOpsS P ops Q (List.range' i l.length) a cs w
  | [],i,m,e,e',a,h,h',w,hl,k,hg,hr,hv,hn=>by
    simp only [seqC] at hv
    cases hv
    exact hn m a w (Fr.refl hr) k
  | o :: l,i,m,e,e',a,h,h',w,hl,k,hg,hr,hv,hn=>by
    have hi:ops[i]? = some o:=by
      have:(ops.toList.drop i)[0]? = some o:=by rw [hl];rfl
      rw [List.getElem?_drop] at this
      simpa using this
    have hl':ops.toList.drop (i + 1) = l:=by
      have:(ops.toList.drop i).drop 1 = l:=by rw [hl];rfl
      rw [List.drop_drop] at this;exact this
    simp only [List.length_cons,List.range'_succ]
    refine wpOpS_of hQo ?_
    simp only [seqC] at hv
    cases h1:(operC P ops.toList o).run call e h with
    | bad=>rw [h1] at hv;cases hv
    | ok e1 h1'=>
      rw [h1] at hv
      refine operC_sound hcall k hg hr hreg hi h1 ?_
      intro m1 a1 w1 hF1 hE1
      exact seqS_sound hcall hreg hQo l (i + 1) m1 e1 e' a1 h1' h' w1 hl' hE1 (hg.mono hF1.le) hF1.hr hv (fun m2 a2 w2 hF2 hE2=>hn m2 a2 w2 (hF1.trans hF2) hE2)
theorem isRecover_spec {o:Oper} {d:Nat} (h:isRecover o = some d):o.dst = some d ∧ o.guard = none ∧ ∀ a:Act,∀ w,(execOp a.eval o).run P w = .ok .recover w:=by
  unfold isRecover at h
  split at h
  · rename_i ts d' h1 h2 h3
    cases h
    refine ⟨h2,h3,fun a w=>?_⟩
    simp [execOp,h1,resolve,invoke,builtin]
  · cases h
theorem defC_sound {n lf:Nat} {call:CallT} (hcall:CallOK P call) (hmix:P.follows .mixedOrders = true) {c₀:Frame} {cs0:List Frame} (hmode:c₀.mode = .returning):∀ (c:Code),codeOk P n c = true →
    ∀ (m:Mp) (e:Env) (a:Act) (h:H) (w:World) (Q:Exit → Act → List Frame → World → Prop),(∀ a w,¬ Q .outgrown a (c₀ :: cs0) w) → EnvR m n e a → Gl P m → HR m h w →
      CQ m h w n (fun e a w=>Q e a (c₀ :: cs0) w) ((defC P lf c).run call e h) → c.wpS P Q a (c₀ :: cs0) w:=by
  intro c
  induction c with
  | seq x y ihx ihy=>
    intro hc m e a h w Q hQo k hg hr hq
    simp only [codeOk,Bool.and_eq_true] at hc
    refine wpS_seq (ihx hc.1 m e a h w _ (fun a w=>hQo a w) k hg hr ?_)
    simp only [defC] at hq
    cases hx:(defC P lf x).run call e h with
    | bad=>rw [hx] at hq;exact hq.elim
    | nrm e1 h1=>
      rw [hx] at hq
      intro m' a' w' hF hE
      exact wpS_of_wp (codeE_sound hcall hmix y hc.2 m' e1 a' h1 w' _ hE (hg.mono hF.le) hF.hr (hq.of_fr hF))
    | ext i e1 h1=>rw [hx] at hq;exact hq
    | ret e1 h1=>rw [hx] at hq;exact hq
  | region id ops d=>
    intro hc m e a h w Q hQo k hg hr hq
    have other:CQ m h w n (fun e a w=>Q e a (c₀ :: cs0) w) ((codeE P lf (.region id ops d)).run call e h) → (Code.region id ops d).wpS P Q a (c₀ :: cs0) w:=
      fun hq=>wpS_of_wp (codeE_sound hcall hmix _ hc m e a h w _ k hg hr hq)
    cases d with
    | true=>exact other (by simpa only [defC] using hq)
    | false=>
      obtain ⟨l⟩:=ops
      cases l with
      | nil=>exact other (by simpa only [defC] using hq)
      | cons o l=>
        simp only [defC] at hq
        cases hrec:isRecover o with
        | none=>rw [hrec] at hq;exact other hq
        | some d=>
          rw [hrec] at hq
          simp only at hq
          obtain ⟨r1,r2,r3⟩:=isRecover_spec (P:=P) hrec
          simp only [codeOk] at hc
          cases hx:(seqC P (o :: l) l).run call (eset d .ni e) h with
          | bad=>rw [hx] at hq;exact hq.elim
          | ok e1 h1=>
            rw [hx] at hq
            refine wpS_region ?_
            have hrg:List.range (⟨o :: l⟩:Array Oper).size = 0 :: List.range' 1 l.length:=by
              show List.range (l.length + 1) = _
              rw [List.range_eq_range',List.range'_succ]
            rw [hrg]
            have h0:(⟨o :: l⟩:Array Oper)[0]? = some o:=by simp
            have hd:=dst_lt (regOk_get hc h0).2 r1
            simp only [wpOpsS,h0]
            rw [if_pos (by simp [Region.wanted,r2]),r3 a w]
            simp only [recoverD,hmode,r1]
            refine seqS_sound hcall hc hQo l 1 m _ e1 _ h h1 w (by simp) (k.set hd (show R m .ni .nilIface by simp [R])) hg hr hx hq
  | _=>intro hc m e a h w Q hQo k hg hr hq;exact wpS_of_wp (codeE_sound hcall hmix _ hc m e a h w _ k hg hr (by simpa only [defC] using hq))
theorem progOk_get (hp:progOk P = true) {f:FuncId} {fn:Func} {c:Code} (hf:P.funcs[f]? = some fn) (hb:fn.body = some c) :
    fn.ntmps ≤ 511 ∧ codeOk P fn.ntmps c = true ∧ fn.results.toList.all (resOk fn.ntmps) = true ∧ (fn.name == "runtime.NumGoroutine") = false := by
  have hm:fn ∈ P.funcs.toList:=by
    rw [← Array.getElem?_toList] at hf;exact List.mem_of_getElem? hf
  have:=(List.all_eq_true.1 hp) fn hm
  simp only [funcOk,hb,Bool.and_eq_true,Bool.not_eq_true'] at this
  exact ⟨Nat.le_of_ble_eq_true this.1,this.2.1,this.2.2.1,this.2.2.2⟩
theorem callFunc_run (hp:progOk P = true) {f:FuncId} {fn:Func} {c:Code} (hf:P.funcs[f]? = some fn) (hb:fn.body = some c) (args:Array Value) (w:World):(callFunc f args).run P w = .ok (.enter f args) w:=by
  obtain ⟨_,_,_,h4⟩:=progOk_get hp hf hb
  have h5 : fn.name ≠ "runtime.NumGoroutine" := by simpa using h4
  simp [callFunc,hf,h5,hb]
theorem leaves_sound {lf:Nat} {call:CallT} (hp:progOk P = true) (hcall:CallOK P call) (hmix:P.follows .mixedOrders = true) {fn:Func} {tmps:Array Value} {Rr:Ending → World → Prop} {h2:H} :
    ∀ (l:List V) (ds:List Deferred) (m:Mp) (h:H) (w:World),DfrR m l ds → HR m h w → Gl P m → runDefE P lf call l h = some h2 →
      (∀ m' w',Fr m h w m' h2 w' → ∃ v,(results fn tmps).run P w' = .ok v w' ∧ Rr (.returned v) w') → (∀ w,¬ Rr .outgrown w) → Leaves P fn tmps Rr ds .returning w
  | [],ds,m,h,w,hd,hr,hg,hv,hfin,hRo=>by
    simp only [DfrR] at hd
    subst hd
    simp only [runDefE] at hv
    cases hv
    exact hfin m w (Fr.refl hr)
  | .fn (.func f) first cap :: l,ds,m,h,w,hd,hr,hg,hv,hfin,hRo=>by
    simp only [DfrR] at hd
    obtain ⟨a',c',r,rfl,hA,hC,hD⟩:=hd
    simp only [runDefE] at hv
    cases hx:(defF P lf f).run call (first ++ cap) h with
    | bad=>rw [hx] at hv;cases hv
    | ok v h1=>
      rw [hx] at hv
      simp only at hv
      unfold defF at hx
      cases hf:P.funcs[f]? with
      | none=>rw [hf] at hx;cases hx
      | some fd=>
        rw [hf] at hx
        simp only at hx
        cases hb:fd.body with
        | none=>rw [hb] at hx;cases hx
        | some c=>
          rw [hb] at hx
          simp only at hx
          obtain ⟨hle,hx⟩:=iteH_ok hx
          obtain ⟨p1,p2,p3,p4⟩:=progOk_get hp hf hb
          have hlen:(first ++ cap).length ≤ fd.ntmps:=by rw [lenV1_eq] at hle;exact Nat.le_of_ble_eq_true hle
          refine leaves_cons (by simp) (f:=f) (args:=⟨a' ++ c'⟩) (by simp only [invoke];rw [callFunc_run hp hf hb];simp) ?_
          refine callsD_of_wpS hf hb ?_
          intro c₀ cs hmode
          have hE:=args_env (hA.append hC) hlen p1
          have hfr:({ c₀ with mode:=.returning }:Frame) = c₀:=by rw [← hmode]
          refine defC_sound (lf:=lf) hcall hmix hmode c p2 m _ _ h w _ ?_ hE hg hr ?_
          · rintro a w ⟨u',hu⟩
            exact hRo w hu
          · have key:∀ e1 h1',leave0 P fd.results.toList e1 h1' = .ok v h1 → ∀ m' a' w',Fr m h w m' h1' w' → EnvR m' fd.ntmps e1 a' →
                a'.defers = [] ∧ ∃ u',(c₀ :: cs) = { c₀ with mode:=u' } :: cs ∧ ∃ v,(results fd a'.tmps).run P w' = .ok v w' ∧ Leaves P fn tmps Rr r (settle u') w':=by
              intro e1 h1' hl m' a' w' hF hE'
              unfold leave0 at hl
              split at hl
              · rename_i hdef
                obtain ⟨L,hL,hDf⟩:=hE'.dfr
                rw [hdef] at hL
                cases hL
                simp only [DfrR] at hDf
                unfold vhO at hl
                split at hl
                · rename_i v' hv'
                  cases hl
                  obtain ⟨u,hu,_⟩:=retC_sound hE' hF.hr p3 hv'
                  refine ⟨hDf,.returning,by rw [hfr],u,hu,?_⟩
                  exact leaves_sound hp hcall hmix l r m' _ w' (hD.mono hF.le) hF.hr (hg.mono hF.le) hv (fun m2 w2 hF2=>hfin m2 w2 (hF.trans hF2)) hRo
                · cases hl
              · cases hl
            cases hc:(defC P lf c).run call (putArgs 0 (first ++ cap) Env.new) h with
            | bad=>rw [hc] at hx;cases hx
            | nrm e1 h1'=>rw [hc] at hx;exact key e1 h1' hx
            | ext i e1 h1'=>rw [hc] at hx;cases hx
            | ret e1 h1'=>rw [hc] at hx;exact key e1 h1' hx
  | .fn (.method _) _ _ :: _,ds,m,h,w,hd,hr,hg,hv,hfin,hRo=>by simp [runDefE] at hv
  | .fn (.methodOf _ _) _ _ :: _,ds,m,h,w,hd,hr,hg,hv,hfin,hRo=>by simp [runDefE] at hv
  | .fn (.via _ _ _ _) _ _ :: _,ds,m,h,w,hd,hr,hg,hv,hfin,hRo=>by simp [runDefE] at hv
  | .fn (.yield _) _ _ :: _,ds,m,h,w,hd,hr,hg,hv,hfin,hRo=>by simp [runDefE] at hv
  | .top :: _,ds,m,h,w,hd,hr,hg,hv,hfin,hRo=>by simp [runDefE] at hv
  | .b _ :: _,ds,m,h,w,hd,hr,hg,hv,hfin,hRo=>by simp [runDefE] at hv
  | .i _ _ :: _,ds,m,h,w,hd,hr,hg,hv,hfin,hRo=>by simp [runDefE] at hv
  | .s _ _ :: _,ds,m,h,w,hd,hr,hg,hv,hfin,hRo=>by simp [runDefE] at hv
  | .pn :: _,ds,m,h,w,hd,hr,hg,hv,hfin,hRo=>by simp [runDefE] at hv
  | .p _ _ :: _,ds,m,h,w,hd,hr,hg,hv,hfin,hRo=>by simp [runDefE] at hv
  | .sn :: _,ds,m,h,w,hd,hr,hg,hv,hfin,hRo=>by simp [runDefE] at hv
  | .sl _ _ _ _ :: _,ds,m,h,w,hd,hr,hg,hv,hfin,hRo=>by simp [runDefE] at hv
  | .se :: _,ds,m,h,w,hd,hr,hg,hv,hfin,hRo=>by simp [runDefE] at hv
  | .mn :: _,ds,m,h,w,hd,hr,hg,hv,hfin,hRo=>by simp [runDefE] at hv
  | .mp _ :: _,ds,m,h,w,hd,hr,hg,hv,hfin,hRo=>by simp [runDefE] at hv
  | .nf :: _,ds,m,h,w,hd,hr,hg,hv,hfin,hRo=>by simp [runDefE] at hv
  | .ifc _ _ :: _,ds,m,h,w,hd,hr,hg,hv,hfin,hRo=>by simp [runDefE] at hv
  | .ni :: _,ds,m,h,w,hd,hr,hg,hv,hfin,hRo=>by simp [runDefE] at hv
  | .agg _ :: _,ds,m,h,w,hd,hr,hg,hv,hfin,hRo=>by simp [runDefE] at hv
  | .tup _ :: _,ds,m,h,w,hd,hr,hg,hv,hfin,hRo=>by simp [runDefE] at hv
def SpecOK (P:Program) (sp:Nat → Option FOp):Prop:=
  ∀ (f:FuncId) (op:FOp),sp f = some op → ∀ (call:CallT),CallOK P call → ∀ (vs:List V) (us:List Value) (m:Mp) (h:H) (w:World) (v:V) (h':H),HR m h w → Gl P m → Rl m vs us → op.run call vs h = .ok v h' → HvOk P ((callFunc f ⟨us⟩).run P w) m h w v h'
theorem bodyE_sound {lf:Nat} {call:CallT} (hp:progOk P = true) (hcall:CallOK P call) (hmix:P.follows .mixedOrders = true) {f:FuncId} {fn:Func} {c:Code} (hf:P.funcs[f]? = some fn) (hb:fn.body = some c)
    {vs:List V} {us:List Value} {h h':H} {v:V} (hr:HR m h w) (hg:Gl P m) (hR:Rl m vs us) (hv:(bodyE P lf fn c).run call vs h = .ok v h') :
    Calls P f ⟨us⟩ w (fun e w'=>∃ u m',e = .returned u ∧ Fr m h w m' h' w' ∧ R m' v u):=by
  obtain ⟨p1,p2,p3,p4⟩:=progOk_get hp hf hb
  unfold bodyE at hv
  obtain ⟨hle,hv⟩:=iteH_ok hv
  have hlen:vs.length ≤ fn.ntmps:=by rw [lenV1_eq] at hle;exact Nat.le_of_ble_eq_true hle
  have hE:=args_env hR hlen p1
  refine calls_of_wp_defers hf hb ?_
  refine codeE_sound (lf:=lf) hcall hmix c p2 m _ _ h w _ hE hg hr ?_
  have key:∀ e1 h1,leaveE P lf fn.results.toList call e1 h1 = .ok v h' → ∀ m' a' w',Fr m h w m' h1 w' → EnvR m' fn.ntmps e1 a' →
      Leaves P fn a'.tmps (fun e w'=>∃ u m',e = .returned u ∧ Fr m h w m' h' w' ∧ R m' v u) a'.defers .returning w':=by
    intro e1 h1 hl m' a' w' hF hE'
    obtain ⟨L,hL,hDf⟩:=hE'.dfr
    have fin:∀ h2,vhO h2 ((retC P fn.results.toList).run e1 h2) = .ok v h' → ∀ m2 w2,Fr m' h1 w' m2 h2 w2 → ∃ u,(results fn a'.tmps).run P w2 = .ok u w2 ∧ ∃ u' m',Ending.returned u = .returned u' ∧ Fr m h w m' h' w2 ∧ R m' v u':=by
      intro h2 hvh m2 w2 hF2
      unfold vhO at hvh
      split at hvh
      · rename_i v' hv'
        cases hvh
        obtain ⟨u,hu,hRu⟩:=retC_sound (hE'.mono hF2.le) hF2.hr p3 hv'
        exact ⟨u,hu,u,m2,rfl,hF.trans hF2,hRu⟩
      · cases hvh
    unfold leaveE at hl
    split at hl
    · rename_i hdef
      rw [hdef] at hL;cases hL
      simp only [DfrR] at hDf
      rw [hDf]
      exact fin h1 hl m' w' (Fr.refl hF.hr)
    · rename_i l hne hdef
      rw [hdef] at hL;cases hL
      split at hl
      · rename_i h2 hrd
        exact leaves_sound hp hcall hmix _ a'.defers m' h1 w' hDf hF.hr (hg.mono hF.le) hrd (fin h2 hl) (by rintro w ⟨u,m',hu,_⟩;cases hu)
      · cases hl
    · cases hl
  cases hc:(codeE P lf c).run call (putArgs 0 vs Env.new) h with
  | bad=>rw [hc] at hv;cases hv
  | nrm e1 h1=>rw [hc] at hv;exact key e1 h1 hv
  | ext i e1 h1=>rw [hc] at hv;cases hv
  | ret e1 h1=>rw [hc] at hv;exact key e1 h1 hv
theorem callE_sound {sp:Nat → Option FOp} {lf:Nat} (hp:progOk P = true) (hmix:P.follows .mixedOrders = true) (hsp:SpecOK P sp):∀ n,CallOK P (callE P sp lf n)
  | 0=>by intro f vs us m h w v h' hr hg hR hv;cases hv
  | n + 1=>by
    intro f vs us m h w v h' hr hg hR hv
    have hcall:=callE_sound (lf:=lf) hp hmix hsp n
    have hv:(funcE P sp lf f).run (callE P sp lf n) vs h = .ok v h':=hv
    unfold funcE at hv
    cases hs:sp f with
    | some op=>rw [hs] at hv;exact hsp f op hs _ hcall vs us m h w v h' hr hg hR hv
    | none=>
      rw [hs] at hv
      simp only at hv
      cases hf:P.funcs[f]? with
      | none=>rw [hf] at hv;cases hv
      | some fn=>
        rw [hf] at hv
        simp only at hv
        cases hb:fn.body with
        | none=>rw [hb] at hv;cases hv
        | some c=>
          rw [hb] at hv
          simp only at hv
          exact .inr ⟨f,⟨us⟩,callFunc_run hp hf hb _ _,bodyE_sound hp hcall hmix hf hb hr hg hR hv⟩
end Go.Ev
end
section
namespace Go.Ev
open Go
noncomputable def nextN (h:H) (b:Id):Option (List (V × H)):=
  match mget b h.mem with
  | some (.miter m since seen last)=>(match entsOf h m with
    | some (es,clock)=>bif es.all (fun e=>Nat.ble (Nat.succ e.born) since) && Nat.ble since last then
        (match unseen seen es with
         | []=>some [(.tup [.b false],h)]
         | l=>some (l.map fun e=>(.tup [.b true,e.key,e.val],setO h b (.miter m since (seen ++ [e.born]) clock))))
        else none
    | none=>none)
  | _=>none
def nextOf (o:Oper):Option (Operand × Nat):=
  match o.op,o.dst,o.guard with
  | .next x false,some d,none=>some (x,d)
  | _,_,_=>none
structure NS where
  run:CallT → Env → H → List Rs
structure NCd where
  run:CallT → Env → H → List CR
variable (P:Program)
noncomputable def operN (ops:List Oper) (o:Oper):NS:=
  match nextOf o with
  | none=>⟨fun call e h=>[(operC P ops o).run call e h]⟩
  | some (x,d)=>⟨fun _ e h=>match (opnd x).run e with
     | .p b 0=>(match nextN h b with | some l=>l.map (fun r=>.ok (eset d r.1 e) r.2) | none=>[.bad])
     | _=>[.bad]⟩
noncomputable def bindS (k:Env → H → List Rs):Rs → List Rs
  | .bad=>[.bad]
  | .ok e h=>k e h
noncomputable def seqN (ops:List Oper):List Oper → NS
  | []=>⟨fun _ e h=>[.ok e h]⟩
  | o :: l=>⟨fun call e h=>((operN P ops o).run call e h).flatMap (bindS ((seqN ops l).run call))⟩
noncomputable def bindC (k:Env → H → List CR):CR → List CR
  | .bad=>[.bad]
  | .nrm e h=>k e h
  | .ext i e h=>[.ext i e h]
  | .ret e h=>[.ret e h]
noncomputable def loopNN (body:Env → H → List CR):Nat → Env → H → List CR
  | 0=>fun _ _=>[.bad]
  | n + 1=>fun e h=>(body e h).flatMap (bindC (loopNN body n))
noncomputable def blkC (id:Nat):CR → CR
  | .ext j e h=>bif Nat.beq j id then .nrm e h else .ext j e h
  | r=>r
noncomputable def rsC:Rs → CR
  | .bad=>.bad
  | .ok e h=>.nrm e h
noncomputable def codeN (lf:Nat):Code → NCd
  | .seq a b=>⟨fun call e h=>((codeN lf a).run call e h).flatMap (bindC ((codeN lf b).run call))⟩
  | .cond c a b=>⟨fun call e h=>match (opnd c).run e with
      | .b true=>(codeN lf a).run call e h
      | .b false=>(codeN lf b).run call e h
      | _=>[.bad]⟩
  | .block id b=>⟨fun call e h=>((codeN lf b).run call e h).map (blkC id)⟩
  | .loop b=>⟨fun call e h=>loopNN ((codeN lf b).run call) lf e h⟩
  | .region _ ops false=>⟨fun call e h=>((seqN P ops.toList ops.toList).run call e h).map rsC⟩
  | .region id ops true=>⟨fun call e h=>[(codeE P lf (.region id ops true)).run call e h]⟩
  | .skip=>⟨fun _ e h=>[.nrm e h]⟩
  | .label _=>⟨fun _ e h=>[.nrm e h]⟩
  | .ret=>⟨fun _ e h=>[.ret e h]⟩
  | .exit id=>⟨fun _ e h=>[.ext id e h]⟩
  | _=>⟨fun _ _ _=>[.bad]⟩
end Go.Ev
end
