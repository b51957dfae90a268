/-
  A part of the proof of the card of WorkGeneralizationIsLeast (second form): lemmas that the text Card uses. No condition of its own.
-/
import Derived.Test.YtaloeffmigffaaaGreatDoorTermA
set_option linter.all false
set_option linter.unusedVariables false
set_option linter.unusedSimpArgs false
section
namespace Go.Proofs.YtaloeffmigffaaaGreatDoor
open Go.RowKit Go.Big
theorem nodesL_take_le (L:List Tm) (i:Nat):Tm.nodesL (L.take i) ≤ Tm.nodesL L:=by
  have:=nodesL_app (L.take i) (L.drop i)
  rw [List.take_append_drop] at this
  omega
def SizeOk (T:Tm):Prop:=∀ (n:Nat) (w:World) (vs:List Value) (m:Nat),m ≤ 1000000 → TmV n w T vs → n ≤ w.heap.size →
    Calls Tryz.prog 21 #[.agg vs.toArray,.int .i64 m] w fun e w'=>∃ r:Nat,e = .returned (.int .i64 r) ∧ r = min T.nodes (m + 1) ∧ Below w.heap.size w w'
set_option maxRecDepth 100000 in
set_option maxHeartbeats 4000000 in
theorem psize_step (k v:Int) (nm:ByteArray) (g:Bool) (num den:List Nat) (args:List Tm) (ih:∀ T' ∈ args,SizeOk T'):SizeOk (.mk k v nm g num den args):=by
  intro n w vs m hm h hn
  simp only [TmV] at h
  obtain ⟨s1,s2,a,c,rfl,⟨⟨p1,q1,rfl,hA⟩,⟨p2,q2,rfl,hC⟩⟩,h2,hbig,hbA,hbC⟩:=h
  obtain ⟨F,hF⟩:∃ F,Tm.nodes (.mk k v nm g num den args) = F:=⟨_,rfl⟩
  have hFA:Aside (F = 1 + Tm.nodesL args):=by show F = _;rw [← hF];simp only [Tm.nodes]
  rw [hF]
  obtain ⟨len,hl⟩:∃ len,args.length = len:=⟨_,rfl⟩
  generalize num.length = l1 at *
  generalize den.length = l2 at *
  rw [hl] at hbig ⊢
  show Calls Tryz.prog 21 #[.agg #[.int .i64 k,.int .i64 v,.string nm,.bool g,.slice p1 l1 q1,.slice p2 l2 q2,.slice a len c],.int .i64 m] w _
  have hBw:=below_alloc w (Obj.cells #[.int .i64 k,.int .i64 v,.string nm,.bool g,.slice p1 l1 q1,.slice p2 l2 q2,.slice a len c] 27)
  have Al:Aside (args.length = len):=hl
  have hwm:IntKind.i64.wrap ((m:Int) + 1) = (m:Int) + 1:=by rw [IntKind.wrap_i64];omega
  clear hl hA hC hF
  go_enter Tryz.func21,Tryz.ntmps21
  go_wp2_with fail
  go_loopw [5,11] (fun s5 s11 wr=>∃ i r:Nat,s11 = .int .i64 i ∧ s5 = .int .i64 r ∧ i ≤ len ∧ Aside (r = min (1 + Tm.nodesL (args.take i)) (m + 1)) ∧ Below w.heap.size w wr) (fun _ s _=>len - (intOf s).toNat)
  case atStart=>exact ⟨0,1,rfl,by simp,Nat.zero_le _,by show 1 = _;simp [Tm.nodesL],hBw⟩
  case round=>
    obtain ⟨i,r,rfl,rfl,hi,hex,hB⟩:=hrel
    have hrm:r ≤ m + 1:=by rw [hex.out];exact Nat.min_le_right _ _
    by_cases hlt:i < len
    · obtain ⟨T',hT'⟩:∃ T',args[i]? = some T':=⟨args[i]'(by rw [Al.out];exact hlt),List.getElem?_eq_getElem _⟩
      obtain ⟨b,off,vs',rfl,hbn,hc,hv⟩:=h2.get hT'
      have hv2:=hv
      have hnx:Aside (∀ d:Nat,r ≤ m → d = min T'.nodes (m - r + 1) → r + d = min (1 + Tm.nodesL (args.take (i + 1))) (m + 1) ∧ d ≤ m - r + 1):=by
        show ∀ d:Nat,_
        intro d hr hd
        have h3:=hex.out
        rw [nodesL_take hT']
        omega
      have hlast:Aside (¬ r ≤ m → m + 1 = min F (m + 1)):=by
        show ¬ r ≤ m → _
        intro hr
        have h3:=hex.out
        have h4:=nodesL_take_le args i
        have h5:=hFA.out
        omega
      have hmem:=List.mem_of_getElem? hT'
      obtain ⟨k',v',nm',g',num',den',args'⟩:=T'
      simp only [TmV] at hv
      obtain ⟨t1,t2,a',c',rfl,⟨⟨p1',q1',rfl,_⟩,⟨p2',q2',rfl,_⟩⟩,_⟩:=hv
      have hb2:∀ p:Addr,p.block < n → wr.cell? p = w.cell? p:=fun p hp=>(hB.mono hn).cell hp
      rw [Nat.zero_add] at hc
      have x0:=(hb2 ⟨b,off + i * 7 + 0,none⟩ hbn).trans (hc 0 _ rfl)
      have x1:=(hb2 ⟨b,off + i * 7 + 1,none⟩ hbn).trans (hc 1 _ rfl)
      have x2:=(hb2 ⟨b,off + i * 7 + 2,none⟩ hbn).trans (hc 2 _ rfl)
      have x3:=(hb2 ⟨b,off + i * 7 + 3,none⟩ hbn).trans (hc 3 _ rfl)
      have x4:=(hb2 ⟨b,off + i * 7 + 4,none⟩ hbn).trans (hc 4 _ rfl)
      have x5:=(hb2 ⟨b,off + i * 7 + 5,none⟩ hbn).trans (hc 5 _ rfl)
      have x6:=(hb2 ⟨b,off + i * 7 + 6,none⟩ hbn).trans (hc 6 _ rfl)
      rw [Nat.add_zero] at x0
      have hi1:(i:Int) < (len:Int):=by omega
      have hi3:(0:Int) ≤ (i:Int):=by omega
      have hw3:IntKind.i64.wrap ((i:Int) + 1) = (i:Int) + 1:=by rw [IntKind.wrap_i64];omega
      have hB2:Below w.heap.size w (wr.alloc (Obj.cells #[.int .i64 k',.int .i64 v',.string nm',.bool g',.slice p1' num'.length q1',.slice p2' den'.length q2',.slice a' args'.length c'] 27)):=hB.alloc hB.size _
      have hia:Aside (i < len):=hlt
      by_cases hrl:r ≤ m
      · have hi4:¬ (m:Int) < (r:Int):=by omega
        obtain ⟨mr,hmr⟩:∃ mr,mr = m - r:=⟨_,rfl⟩
        have hw4:IntKind.i64.wrap ((m:Int) - (r:Int)) = (mr:Int):=by rw [IntKind.wrap_i64];omega
        have d1:=ih _ hmem n (wr.alloc (Obj.cells #[.int .i64 k',.int .i64 v',.string nm',.bool g',.slice p1' num'.length q1',.slice p2' den'.length q2',.slice a' args'.length c'] 27)) _ mr (by omega) (TmV.below hB2 hn _ _ hv2) (Nat.le_trans hn hB2.size)
        rw [hmr] at d1
        replace d1:Calls Tryz.prog 21 #[.agg #[.int .i64 k',.int .i64 v',.string nm',.bool g',.slice p1' num'.length q1',.slice p2' den'.length q2',.slice a' args'.length c'],.int .i64 (m - r:Nat)] _ _:=d1
        rw [← hmr] at d1 hnx
        have hwd:∀ d:Nat,d ≤ mr + 1 → IntKind.i64.wrap ((r:Int) + (d:Int)) = ((r + d:Nat):Int):=fun d hd=>by rw [IntKind.wrap_i64];omega
        generalize args'.length = len' at *
        generalize num'.length = ln1 at *
        generalize den'.length = ln2 at *
        clear h2 ih hc hv2 hT' hb2 hmem hex hlt hmr hrm hlast
        go_wp2_with first | (go_at_call 21;(with_reducible refine d1.mono ?_);rintro e w3 ⟨d,rfl,hd,hb3⟩;obtain ⟨hd1,hd2⟩:=hnx.out d hrl hd;have hwd2:=hwd d hd2;clear hd)
        exact ⟨⟨i + 1,_,by simp,rfl,by have:=hia.out;omega,rfl,hB2.trans (hb3.mono hB2.size)⟩,by have:=hia.out;simp [intOf];omega⟩
      · have hi4:(m:Int) < (r:Int):=by omega
        have hL:Aside (m + 1 = min F (m + 1)):=hlast.out hrl
        generalize args'.length = len' at *
        generalize num'.length = ln1 at *
        generalize den'.length = ln2 at *
        clear h2 ih hc hv2 hT' hb2 hmem hex hlt hrm hlast hnx hrl
        go_wp2_with fail
        go_ret
        exact ⟨m + 1,rfl,hL.out,hB2⟩
    · obtain rfl:i = len:=by omega
      have hL:Aside (r = min F (m + 1)):=by
        show r = _
        have h3:=hex.out
        rw [← Al.out,List.take_length] at h3
        rw [h3,hFA.out]
      have hi4:min (r:Int) ((m:Int) + 1) = (r:Int):=by omega
      clear h2 ih hex
      go_wp2_with fail
      go_ret
      exact ⟨r,rfl,hL.out,hB⟩
theorem psize_ok:∀ T:Tm,SizeOk T
  | .mk k v nm g num den args=>psize_step k v nm g num den args fun T' hT'=>psize_ok T'
termination_by T=>SizeOf.sizeOf T
decreasing_by
  simp_wf
  have:=List.sizeOf_lt_of_mem hT'
  omega
end Go.Proofs.YtaloeffmigffaaaGreatDoor
end
section
namespace Go.Proofs.YtaloeffmigffaaaGreatDoor
open Go.RowKit Go.Big
noncomputable def Tm.faultE (T:Tm):Int:=if 10000 < T.nodes then 3 else T.errE
set_option maxRecDepth 100000 in
set_option maxHeartbeats 4000000 in
theorem check_calls (T:Tm) (n:Nat) (w:World) (vs:List Value) (h:TmV n w T vs) (hn:n ≤ w.heap.size) :
    Calls Tryz.prog 7 #[.agg vs.toArray] w fun e w'=>e = .returned (.int .i64 T.faultE) ∧ Below w.heap.size w w':=by
  have hs:=psize_ok T n
  have hd:=nodes_ok T n
  obtain ⟨F,hF⟩:∃ F,T.errE = F:=⟨_,rfl⟩
  have hFF:Aside (T.faultE = if 10000 < T.nodes then 3 else F):=by rw [← hF];rfl
  rw [hF] at hd
  have h0:=h
  obtain ⟨k,v,nm,g,num,den,args⟩:=T
  simp only [TmV] at h
  obtain ⟨s1,s2,a,c,rfl,⟨⟨p1,q1,rfl,_⟩,⟨p2,q2,rfl,_⟩⟩,_⟩:=h
  obtain ⟨N,hN⟩:∃ N,Tm.nodes (.mk k v nm g num den args) = N:=⟨_,rfl⟩
  obtain ⟨E,hE⟩:∃ E,Tm.faultE (.mk k v nm g num den args) = E:=⟨_,rfl⟩
  rw [hE,hN] at hFF
  rw [hE]
  have hB:=below_alloc w (Obj.cells #[.int .i64 k,.int .i64 v,.string nm,.bool g,.slice p1 num.length q1,.slice p2 den.length q2,.slice a args.length c] 27)
  have hq:=heap_alloc_new w (Obj.cells #[.int .i64 k,.int .i64 v,.string nm,.bool g,.slice p1 num.length q1,.slice p2 den.length q2,.slice a args.length c] 27)
  have d1:=hs (w.alloc (Obj.cells #[.int .i64 k,.int .i64 v,.string nm,.bool g,.slice p1 num.length q1,.slice p2 den.length q2,.slice a args.length c] 27)) _ 10000 (by omega) (TmV.below hB hn _ _ h0) (Nat.le_trans hn hB.size)
  have d2:∀ w2,Below w.heap.size w w2 → _:=fun w2 hb=>hd w2 _ (TmV.below hb hn _ _ h0) (Nat.le_trans hn hb.size)
  rw [hN] at d1
  replace d1:Calls Tryz.prog 21 #[.agg #[.int .i64 k,.int .i64 v,.string nm,.bool g,.slice p1 num.length q1,.slice p2 den.length q2,.slice a args.length c],.int .i64 10000] _ _:=d1
  replace d2:∀ w2,Below w.heap.size w w2 → Calls Tryz.prog 22 #[.agg #[.int .i64 k,.int .i64 v,.string nm,.bool g,.slice p1 num.length q1,.slice p2 den.length q2,.slice a args.length c]] w2 _:=d2
  clear h0 hs hd hN hE hF
  generalize args.length = l0 at *
  generalize num.length = l1 at *
  generalize den.length = l2 at *
  show Calls Tryz.prog 7 #[.agg #[.int .i64 k,.int .i64 v,.string nm,.bool g,.slice p1 l1 q1,.slice p2 l2 q2,.slice a l0 c]] w _
  by_cases hb:10000 < N
  · have hEA:Aside (E = 3):=by show E = 3;rw [hFF.out,if_pos hb]
    go_enter Tryz.func7,Tryz.ntmps7
    go_wp2_with first | (go_at_call 21;(with_reducible refine d1.mono ?_);rintro e w3 ⟨r,rfl,hr,hb3⟩;obtain ⟨r2,hr2⟩:∃ r2:Nat,r = r2 ∧ (10000:Int) < (r2:Int):=⟨r,rfl,by omega⟩;obtain ⟨rfl,hr3⟩:=hr2;clear hr)
    go_ret
    rw [hEA.out]
    exact ⟨rfl,hB.trans (hb3.mono hB.size)⟩
  · have hEA:Aside (E = F):=by show E = F;rw [hFF.out,if_neg hb]
    go_enter Tryz.func7,Tryz.ntmps7
    go_wp2_with first | (go_at_call 21;(with_reducible refine d1.mono ?_);rintro e w3 ⟨r,rfl,hr,hb3⟩;have hr2:(r:Int) ≤ 10000:=(by omega);have hB3:=hB.trans (hb3.mono hB.size);obtain ⟨y0,y1,y2,y3,y4,y5,y6⟩:=cells7 ((hb3.block w.heap.size (by simp)).trans hq);clear hr) | (go_at_call 22;(with_reducible refine (d2 _ hB3).mono ?_);rintro e w4 ⟨rfl,hb4⟩)
    go_ret
    rw [hEA.out]
    exact ⟨rfl,hB3.trans (hb4.mono hB3.size)⟩
end Go.Proofs.YtaloeffmigffaaaGreatDoor
end
section
namespace Go.Proofs.YtaloeffmigffaaaGreatDoor
theorem faultE_split {T:Tm} (h:T.faultE = 0):T.nodes ≤ 10000 ∧ T.errE = 0:=by
  unfold Tm.faultE at h
  split at h
  · cases h
  · exact ⟨by omega,h⟩
theorem genT_fault {a b:Tm} (ha:a.faultE = 0) (hb:b.faultE = 0):(genT [] a b).faultE = 0:=by
  obtain ⟨a1,a2⟩:=faultE_split ha
  obtain ⟨b1,b2⟩:=faultE_split hb
  have h1:(genT [] a b).nodes ≤ a.nodes:=gphi_nodes a b
  have h2:(genT [] a b).errE = 0:=gphi_errE a b a2 b2 fun p hp=>by
    have h3:=ixOf_lt (mem_addAll (S:=[]) hp)
    have h4:=addAll_length (gpairs a b) []
    have h5:=gpairs_length a b
    simp only [List.length_nil,Nat.zero_add] at h4
    omega
  unfold Tm.faultE
  rw [if_neg (by omega),h2]
end Go.Proofs.YtaloeffmigffaaaGreatDoor
end
section
namespace Go.Proofs.YtaloeffmigffaaaGreatDoor
def leb (n:Nat):List Nat:=if h:n < 128 then [n] else (n % 128 + 128) :: leb (n / 128)
termination_by n
decreasing_by omega
theorem leb_inj:∀ (n m:Nat) {X Y:List Nat},leb n ++ X = leb m ++ Y → n = m ∧ X = Y:=by
  intro n
  induction n using Nat.strongRecOn with
  | ind n ih=>
    intro m X Y h
    rw [leb,leb.eq_def m] at h
    by_cases hn:n < 128 <;> by_cases hm:m < 128
    · simp only [dif_pos hn,dif_pos hm,List.cons_append,List.nil_append,List.cons.injEq] at h
      exact h
    · simp only [dif_pos hn,dif_neg hm,List.cons_append,List.nil_append,List.cons.injEq] at h
      omega
    · simp only [dif_neg hn,dif_pos hm,List.cons_append,List.nil_append,List.cons.injEq] at h
      omega
    · simp only [dif_neg hn,dif_neg hm,List.cons_append,List.cons.injEq] at h
      obtain ⟨h1,h2⟩:=ih (n / 128) (by omega) (m / 128) h.2
      exact ⟨by omega,h2⟩
def lebs (L:List Nat):List Nat:=leb L.length ++ (L.map leb).flatten
theorem flat_inj:∀ {L M:List Nat} {X Y:List Nat},L.length = M.length → (L.map leb).flatten ++ X = (M.map leb).flatten ++ Y → L = M ∧ X = Y
  | [],[],X,Y,_,h=>⟨rfl,by simpa using h⟩
  | a :: L,b :: M,X,Y,hl,h=>by
    simp only [List.map_cons,List.flatten_cons,List.append_assoc] at h
    obtain ⟨rfl,h2⟩:=leb_inj a b h
    obtain ⟨rfl,h3⟩:=flat_inj (by simpa using hl) h2
    exact ⟨rfl,h3⟩
  | [],b :: M,_,_,hl,_=>by simp at hl
  | a :: L,[],_,_,hl,_=>by simp at hl
theorem lebs_inj {L M X Y:List Nat} (h:lebs L ++ X = lebs M ++ Y):L = M ∧ X = Y:=by
  unfold lebs at h
  rw [List.append_assoc,List.append_assoc] at h
  obtain ⟨h1,h2⟩:=leb_inj _ _ h
  exact flat_inj h1 h2
def nameB (b:ByteArray):List Nat:=b.data.toList.map UInt8.toNat
theorem nameB_inj {a b:ByteArray} {X Y:List Nat} (hl:a.size = b.size) (h:nameB a ++ X = nameB b ++ Y):a = b ∧ X = Y:=by
  have e:(nameB a).length = (nameB b).length:=by simpa [nameB] using hl
  obtain ⟨h1,h2⟩:=List.append_inj h e
  refine ⟨?_,h2⟩
  unfold nameB at h1
  have h3:a.data.toList = b.data.toList:=by
    refine (List.map_inj_right fun x y hxy=>?_).1 h1
    exact UInt8.toNat_inj.1 hxy
  cases a;cases b
  congr 1
  exact Array.toList_inj.1 h3
mutual
def Tm.key:Tm → List Nat
  | .mk k v nm g num den args=>k.toNat :: (if k = 1 then leb v.toNat else if k = 2 then (if g then 1 else 0) :: (lebs num ++ lebs den) else leb nm.size ++ (nameB nm ++ (leb args.length ++ Tm.keyL args)))
def Tm.keyL:List Tm → List Nat
  | []=>[]
  | T :: r=>T.key ++ Tm.keyL r
end
theorem bit_inj:∀ (g g':Bool),(if g then 1 else 0:Nat) = (if g' then 1 else 0) → g = g':=by decide
mutual
theorem key_inj:∀ (T U:Tm) {X Y:List Nat},T.errE = 0 → U.errE = 0 → T.key ++ X = U.key ++ Y → T = U ∧ X = Y
  | .mk k v nm g num den args,.mk k' v' nm' g' num' den' args',X,Y,hT,hU,h=>by
    obtain ⟨t1,t2⟩:=errE_split hT
    obtain ⟨u1,u2⟩:=errE_split hU
    have ft:=(rootE_fine t1).1
    have fu:=(rootE_fine u1).1
    have st:=(rootE_fine t1).2
    have su:=(rootE_fine u1).2
    have vt:=errE_vd _ hT
    have vu:=errE_vd _ hU
    simp only [Tm.vd] at vt vu
    simp only [Tm.key,List.cons_append,List.cons.injEq] at h
    obtain ⟨hk,h⟩:=h
    obtain rfl:k = k':=by unfold RootFine at ft fu;omega
    by_cases k1:k = 1
    · subst k1
      simp only [if_pos rfl] at h
      obtain ⟨h1,h2⟩:=leb_inj _ _ h
      obtain ⟨rfl,rfl,rfl⟩:=vt.2.2.1 (by decide)
      obtain ⟨rfl,rfl,rfl⟩:=vu.2.2.1 (by decide)
      obtain rfl:args = []:=vt.1 (by decide)
      obtain rfl:args' = []:=vu.1 (by decide)
      have hn:nm = nm':=by
        have e1:nm.size = 0:=by unfold RootFine at ft;omega
        have e2:nm'.size = 0:=by unfold RootFine at fu;omega
        exact (nameB_inj (X:=[]) (Y:=[]) (e1.trans e2.symm) (by
          have a1:nameB nm = []:=List.length_eq_zero_iff.1 (by simpa [nameB] using e1)
          have a2:nameB nm' = []:=List.length_eq_zero_iff.1 (by simpa [nameB] using e2)
          rw [a1,a2])).1
      obtain rfl:v = v':=by unfold RootFine at ft fu;omega
      exact ⟨by rw [hn],h2⟩
    · obtain rfl:v = 0:=vt.2.1 k1
      obtain rfl:v' = 0:=vu.2.1 k1
      simp only [if_neg k1] at h
      by_cases k2:k = 2
      · subst k2
        rw [if_pos rfl,if_pos rfl,List.cons_append,List.cons_append,List.append_assoc,List.append_assoc] at h
        obtain ⟨hg,h3⟩:=List.cons.inj h
        obtain ⟨h4,h5⟩:=lebs_inj h3
        obtain ⟨h6,h7⟩:=lebs_inj h5
        obtain rfl:args = []:=vt.1 (by decide)
        obtain rfl:args' = []:=vu.1 (by decide)
        have e1:nm.size = 0:=by unfold RootFine at ft;omega
        have e2:nm'.size = 0:=by unfold RootFine at fu;omega
        have hn:nm = nm':=(nameB_inj (X:=[]) (Y:=[]) (e1.trans e2.symm) (by
          have a1:nameB nm = []:=List.length_eq_zero_iff.1 (by simpa [nameB] using e1)
          have a2:nameB nm' = []:=List.length_eq_zero_iff.1 (by simpa [nameB] using e2)
          rw [a1,a2])).1
        have hgg:g = g':=bit_inj g g' hg
        exact ⟨by rw [hn,hgg,h4,h6],h7⟩
      · obtain ⟨rfl,rfl,rfl⟩:=vt.2.2.1 k2
        obtain ⟨rfl,rfl,rfl⟩:=vu.2.2.1 k2
        simp only [if_neg k2,List.append_assoc] at h
        obtain ⟨h1,h2⟩:=leb_inj _ _ h
        obtain ⟨h3,h4⟩:=nameB_inj h1 h2
        obtain ⟨h5,h6⟩:=leb_inj _ _ h4
        obtain ⟨h7,h8⟩:=keyL_inj args args' h5 t2 u2 h6
        exact ⟨by rw [h3,h7],h8⟩
theorem keyL_inj:∀ (L M:List Tm) {X Y:List Nat},L.length = M.length → Tm.errL L = 0 → Tm.errL M = 0 → Tm.keyL L ++ X = Tm.keyL M ++ Y → L = M ∧ X = Y
  | [],[],X,Y,_,_,_,h=>⟨rfl,by simpa [Tm.keyL] using h⟩
  | a :: L,b :: M,X,Y,hl,ha,hb,h=>by
    obtain ⟨a1,a2⟩:=errL_split ha
    obtain ⟨b1,b2⟩:=errL_split hb
    simp only [Tm.keyL,List.append_assoc] at h
    obtain ⟨h1,h2⟩:=key_inj a b a1 b1 h
    obtain ⟨h3,h4⟩:=keyL_inj L M (by simpa using hl) a2 b2 h2
    exact ⟨by rw [h1,h3],h4⟩
  | [],b :: M,_,_,hl,_,_,_=>by simp at hl
  | a :: L,[],_,_,hl,_,_,_=>by simp at hl
end
end Go.Proofs.YtaloeffmigffaaaGreatDoor
end
