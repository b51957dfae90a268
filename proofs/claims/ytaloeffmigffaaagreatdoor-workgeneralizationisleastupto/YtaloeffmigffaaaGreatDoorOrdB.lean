/-
  A part of the proof of the card of WorkGeneralizationIsLeast (second form): lemmas that the text Card uses. No condition of its own.
-/
import Derived.Test.YtaloeffmigffaaaGreatDoorOrdA
import Derived.Test.YtaloeffmigffaaaGreatDoorGen
import Derived.Test.YtaloeffmigffaaaGreatDoorPlain
set_option linter.all false
set_option linter.unusedVariables false
set_option linter.unusedSimpArgs false
section
namespace Go.Proofs.YtaloeffmigffaaaGreatDoor
open Go.RowKit Go.Big
attribute [local go_sem] Heavy.uponW
theorem numFault_parts {g:Bool} {A C:List Nat} (h:numFault g A C = 0):A.length ≤ 128 ∧ C.length ≤ 128 ∧ C ≠ [] ∧ NoZ C ∧ NoZ A ∧ Nat.gcd (val 4294967296 A) (val 4294967296 C) = 1:=by
  unfold numFault at h
  split at h
  · exact absurd h (by decide)
  · rename_i h1
    split at h
    · exact absurd h (by decide)
    · rename_i h2
      split at h
      · exact absurd h (by decide)
      · split at h
        · exact absurd h (by decide)
        · rename_i h4
          exact ⟨by omega,by omega,fun e=>h2 (.inl e),NoZ.of_last fun e=>h2 (.inr (.inl e)),NoZ.of_last fun e=>h2 (.inr (.inr e)),Decidable.not_not.1 h4⟩
theorem frac_eq {x1 y1 x2 y2:Nat} (h1:Nat.gcd x1 y1 = 1) (h2:Nat.gcd x2 y2 = 1) (p1:0 < y1) (p2:0 < y2):x1 * y2 = x2 * y1 ↔ x1 = x2 ∧ y1 = y2:=by
  constructor
  · intro h
    have d1:y1 ∣ y2:=by
      have:y1 ∣ x1 * y2:=⟨x2,by rw [h,Nat.mul_comm]⟩
      exact (Nat.Coprime.dvd_of_dvd_mul_left (by rw [Nat.coprime_iff_gcd_eq_one,Nat.gcd_comm];exact h1) this)
    have d2:y2 ∣ y1:=by
      have:y2 ∣ x2 * y1:=⟨x1,by rw [← h,Nat.mul_comm]⟩
      exact (Nat.Coprime.dvd_of_dvd_mul_left (by rw [Nat.coprime_iff_gcd_eq_one,Nat.gcd_comm];exact h2) this)
    obtain rfl:=Nat.dvd_antisymm d1 d2
    exact ⟨Nat.eq_of_mul_eq_mul_right p1 h,rfl⟩
  · rintro ⟨rfl,rfl⟩;rfl
theorem num_same {g g':Bool} {A C A' C':List Nat} (h:numFault g A C = 0) (h':numFault g' A' C' = 0) (hA:∀ x ∈ A,x < 4294967296) (hC:∀ x ∈ C,x < 4294967296) (hA':∀ x ∈ A',x < 4294967296) (hC':∀ x ∈ C',x < 4294967296) :
    (g = g' ∧ val 4294967296 A * val 4294967296 C' = val 4294967296 A' * val 4294967296 C) ↔ g = g' ∧ A = A' ∧ C = C':=by
  obtain ⟨_,_,n1,z1,z2,c1⟩:=numFault_parts h
  obtain ⟨_,_,n2,z3,z4,c2⟩:=numFault_parts h'
  rw [frac_eq c1 c2 (z1.pos' n1) (z3.pos' n2)]
  constructor
  · rintro ⟨e1,e2,e3⟩
    exact ⟨e1,z2.eq z4 hA hA' (by decide) e2,z1.eq z3 hC hC' (by decide) e3⟩
  · rintro ⟨rfl,rfl,rfl⟩;exact ⟨rfl,rfl,rfl⟩
def Tm.rootEq:Tm → Tm → Prop
  | .mk k v nm g num den args,.mk k' v' nm' g' num' den' args'=>k = k' ∧ v = v' ∧ nm = nm' ∧ g = g' ∧ num = num' ∧ den = den' ∧ args.length = args'.length
set_option maxRecDepth 100000 in
set_option maxHeartbeats 1000000 in
theorem rsign_calls (n:Int) (w:World):Calls Tryz.prog 112 #[.int .i64 n] w fun e w'=>(∃ c:Int,e = .returned (.int .i64 c) ∧ (c = 0 ↔ n = 0)) ∧ w' = w:=by
  by_cases h1:n < 0
  · have hA:Aside (¬ n = 0):=by show ¬ _;omega
    go_enter Tryz.func112,Tryz.ntmps112
    go_wp2
    go_ret
    exact ⟨⟨-1,rfl,by simp [hA.out]⟩,rfl⟩
  · by_cases h2:0 < n
    · have hA:Aside (¬ n = 0):=by show ¬ _;omega
      go_enter Tryz.func112,Tryz.ntmps112
      go_wp2
      go_ret
      exact ⟨⟨1,rfl,by simp [hA.out]⟩,rfl⟩
    · have hA:Aside (n = 0):=by show _ = _;omega
      go_enter Tryz.func112,Tryz.ntmps112
      go_wp2
      go_ret
      exact ⟨⟨0,rfl,by simp [hA.out]⟩,rfl⟩
theorem cmpL_zero:∀ (A C:List UInt8),Lib.compareBytes A C = 0 ↔ A = C
  | [],[]=>by simp [Lib.compareBytes]
  | [],c :: C=>by simp [Lib.compareBytes]
  | a :: A,[]=>by simp [Lib.compareBytes]
  | a :: A,c :: C=>by
    unfold Lib.compareBytes
    split
    · rename_i h
      constructor
      · intro e;exact absurd e (by decide)
      · intro e;injection e with e1 _;subst e1;exact absurd h (UInt8.lt_irrefl a)
    · rename_i h1
      split
      · rename_i h
        constructor
        · intro e;exact absurd e (by decide)
        · intro e;injection e with e1 _;subst e1;exact absurd h (UInt8.lt_irrefl a)
      · rename_i h2
        have e:a = c:=by
          have g1:=UInt8.not_lt.1 h1
          have g2:=UInt8.not_lt.1 h2
          exact UInt8.le_antisymm g2 g1
        rw [cmpL_zero A C]
        simp [e]
theorem cmpB_zero (a b:ByteArray):Lib.compareBytes a.data.toList b.data.toList = 0 ↔ a = b:=by
  rw [cmpL_zero]
  constructor
  · intro h
    exact byteArray_ext' h
  · rintro rfl;rfl
set_option maxRecDepth 100000 in
set_option maxHeartbeats 4000000 in
theorem roots_calls (T U:Tm) (n:Nat) (w:World) (vs us:List Value) (hT:T.errE = 0) (hU:U.errE = 0) (h:TmV n w T vs) (h':TmV n w U us) (hn:n ≤ w.heap.size) :
    Calls Tryz.prog 53 #[.agg vs.toArray,.agg us.toArray] w fun e w'=>(∃ c:Int,e = .returned (.int .i64 c) ∧ (c = 0 ↔ T.rootEq U)) ∧ Below w.heap.size w w':=by
  obtain ⟨k,v,nm,g,num,den,args⟩:=T
  obtain ⟨k',v',nm',g',num',den',args'⟩:=U
  simp only [TmV] at h h'
  obtain ⟨s1,s2,p,c,rfl,hN,_,hbig,_⟩:=h
  obtain ⟨t1,t2,p',c',rfl,hN',_,hbig',_⟩:=h'
  have ft:=(rootE_fine (errE_split hT).1).1
  have fu:=(rootE_fine (errE_split hU).1).1
  have vT:=errE_vd _ hT
  have vU:=errE_vd _ hU
  simp only [Tm.vd] at vT vU
  unfold RootFine at ft fu
  obtain ⟨R,hR⟩:∃ R:Prop,Tm.rootEq (.mk k v nm g num den args) (.mk k' v' nm' g' num' den' args') = R:=⟨_,rfl⟩
  have RA:Aside (R ↔ k = k' ∧ v = v' ∧ nm = nm' ∧ g = g' ∧ num = num' ∧ den = den' ∧ args.length = args'.length):=by rw [← hR];exact Iff.rfl
  rw [hR]
  have Rno:¬ (k = k' ∧ v = v' ∧ nm = nm' ∧ g = g' ∧ num = num' ∧ den = den' ∧ args.length = args'.length) → ¬ R:=fun h1 h2=>h1 (RA.out.1 h2)
  obtain ⟨len,hl⟩:∃ len,args.length = len:=⟨_,rfl⟩
  obtain ⟨len',hl'⟩:∃ len',args'.length = len':=⟨_,rfl⟩
  rw [hl] at hbig ft ⊢
  rw [hl'] at hbig' fu ⊢
  have Al:Aside (args.length = len ∧ args'.length = len'):=⟨hl,hl'⟩
  obtain ⟨hBw,q1,q2,hsz⟩:=two_blocks w (Obj.cells #[.int .i64 k,.int .i64 v,.string nm,.bool g,s1,s2,.slice p len c] 27) (Obj.cells #[.int .i64 k',.int .i64 v',.string nm',.bool g',t1,t2,.slice p' len' c'] 27)
  obtain ⟨wb,hwb⟩:∃ wb,(w.alloc (Obj.cells #[.int .i64 k,.int .i64 v,.string nm,.bool g,s1,s2,.slice p len c] 27)).alloc (Obj.cells #[.int .i64 k',.int .i64 v',.string nm',.bool g',t1,t2,.slice p' len' c'] 27) = wb:=⟨_,rfl⟩
  rw [hwb] at hBw q1 q2 hsz
  have fa:Aside (∀ w2,Below wb.heap.size wb w2 → _):=fun (w2:World) (hb:Below wb.heap.size wb w2)=>cells7 ((hb.block _ (by omega)).trans q1)
  have fb:Aside (∀ w2,Below wb.heap.size wb w2 → _):=fun (w2:World) (hb:Below wb.heap.size wb w2)=>cells7 ((hb.block _ (by omega)).trans q2)
  obtain ⟨x0,x1,x2,x3,x4,x5,x6⟩:=fa.out wb (Below.refl _ _)
  obtain ⟨y0,y1,y2,y3,y4,y5,y6⟩:=fb.out wb (Below.refl _ _)
  clear hl hl' hR q1 q2 hsz hT hU
  show Calls Tryz.prog 53 #[.agg #[.int .i64 k,.int .i64 v,.string nm,.bool g,s1,s2,.slice p len c],.agg #[.int .i64 k',.int .i64 v',.string nm',.bool g',t1,t2,.slice p' len' c']] w _
  by_cases hk:k = k'
  case neg=>
    have hkB:(k == k') = false:=by simpa using hk
    have hwr:IntKind.i64.wrap (k - k') = k - k':=by rw [IntKind.wrap_i64];omega
    have hRn:Aside (¬ R):=Rno fun h=>hk h.1
    have hnz:Aside (¬ (k - k' = 0)):=by show ¬ _;omega
    have d1:=rsign_calls (k - k')
    clear hN hN' vT vU ft fu fa fb RA Rno
    go_enter Tryz.func53,Tryz.ntmps53
    go_upto_region 1 with fail
    clear hwb
    go_wp2_with (go_at_call 112;(with_reducible refine (d1 _).mono ?_);rintro e w3 ⟨⟨z,rfl,hz⟩,rfl⟩)
    go_ret
    exact ⟨⟨z,rfl,by rw [hz];exact ⟨fun h=>absurd h hnz.out,fun h=>absurd h hRn.out⟩⟩,hBw⟩
  subst hk
  by_cases k1:k = 1
  case pos=>
    subst k1
    have hRi:Aside (v - v' = 0 ↔ R):=by
      show _ ↔ _
      rw [RA.out,Al.out.1,Al.out.2]
      obtain ⟨rfl,rfl,rfl⟩:=vT.2.2.1 (by decide)
      obtain ⟨rfl,rfl,rfl⟩:=vU.2.2.1 (by decide)
      have hnn:nm = nm':=by
        have e1:nm.size = 0:=by omega
        have e2:nm'.size = 0:=by omega
        refine byteArray_ext' ?_
        have a1:nm.data.toList = []:=List.length_eq_zero_iff.1 (by simpa using e1)
        have a2:nm'.data.toList = []:=List.length_eq_zero_iff.1 (by simpa using e2)
        rw [a1,a2]
      constructor
      · intro h;exact ⟨rfl,by omega,hnn,rfl,rfl,rfl,by omega⟩
      · intro h;omega
    have hwr:IntKind.i64.wrap (v - v') = v - v':=by rw [IntKind.wrap_i64];omega
    have d1:=rsign_calls (v - v')
    clear hN hN' vT vU ft fu fa fb RA Rno
    go_enter Tryz.func53,Tryz.ntmps53
    go_upto_region 1 with fail
    clear hwb
    go_wp2_with (go_at_call 112;(with_reducible refine (d1 _).mono ?_);rintro e w3 ⟨⟨z,rfl,hz⟩,rfl⟩)
    go_ret
    exact ⟨⟨z,rfl,hz.trans hRi.out⟩,hBw⟩
  have k1B:(k == 1) = false:=by simpa using k1
  have hv0:v = 0:=vT.2.1 k1
  have hv0':v' = 0:=vU.2.1 k1
  subst hv0
  subst hv0'
  by_cases k2:k = 2
  case pos=>
    subst k2
    obtain ⟨⟨p1,c1,rfl,hA⟩,⟨p2,c2,rfl,hC⟩⟩:=hN
    obtain ⟨⟨p1',c1',rfl,hA'⟩,⟨p2',c2',rfl,hC'⟩⟩:=hN'
    obtain rfl:args = []:=vT.1 (by decide)
    obtain rfl:args' = []:=vU.1 (by decide)
    have f1:numFault g num den = 0:=by omega
    have f2:numFault g' num' den' = 0:=by omega
    obtain ⟨l1,l2,_,_,_,_⟩:=numFault_parts f1
    obtain ⟨l3,l4,_,_,_,_⟩:=numFault_parts f2
    have hRi:Aside ((g = g' ∧ val 4294967296 num * val 4294967296 den' = val 4294967296 num' * val 4294967296 den) ↔ R):=by
      show _ ↔ _
      rw [RA.out,num_same f1 f2 hA.1 hC.1 hA'.1 hC'.1]
      have hnn:nm = nm':=by
        have e1:nm.size = 0:=by omega
        have e2:nm'.size = 0:=by omega
        refine byteArray_ext' ?_
        have a1:nm.data.toList = []:=List.length_eq_zero_iff.1 (by simpa using e1)
        have a2:nm'.data.toList = []:=List.length_eq_zero_iff.1 (by simpa using e2)
        rw [a1,a2]
      constructor
      · rintro ⟨h1,h2,h3⟩;exact ⟨rfl,rfl,hnn,h1,h2,h3,rfl⟩
      · intro h;exact ⟨h.2.2.2.1,h.2.2.2.2.1,h.2.2.2.2.2.1⟩
    obtain ⟨M,hM⟩:∃ M:Nat,M = 256:=⟨_,rfl⟩
    have b1:=lim_lt (A:=num) (M:=M) hA.1 (by omega)
    have b2:=lim_lt (A:=den) (M:=M) hC.1 (by omega)
    have b3:=lim_lt (A:=num') (M:=M) hA'.1 (by omega)
    have b4:=lim_lt (A:=den') (M:=M) hC'.1 (by omega)
    have hMA:Aside (M ≤ 50000):=by show _ ≤ _;omega
    have o1:Aside (∀ w2,Below w.heap.size w w2 → _):=fun (w2:World) (hb:Below w.heap.size w w2)=>rof_calls g p1 p2 num.length den.length c1 c2 n num den rfl rfl (by omega) (by omega) w2 (Nat.le_trans hn hb.size) (hA.below hb hn) (hC.below hb hn)
    have o2:Aside (∀ w2,Below w.heap.size w w2 → _):=fun (w2:World) (hb:Below w.heap.size w w2)=>rof_calls g' p1' p2' num'.length den'.length c1' c2' n num' den' rfl rfl (by omega) (by omega) w2 (Nat.le_trans hn hb.size) (hA'.below hb hn) (hC'.below hb hn)
    clear hM
    generalize num.length = m1 at *
    generalize den.length = m2 at *
    generalize num'.length = m3 at *
    generalize den'.length = m4 at *
    generalize val 4294967296 num = X1 at *
    generalize val 4294967296 den = Y1 at *
    generalize val 4294967296 num' = X2 at *
    generalize val 4294967296 den' = Y2 at *
    have hbA:Aside (X1 < 65536 ^ M ∧ Y1 < 65536 ^ M ∧ X2 < 65536 ^ M ∧ Y2 < 65536 ^ M):=⟨b1,b2,b3,b4⟩
    clear b1 b2 b3 b4 hA hC hA' hC' vT vU ft fu RA Rno f1 f2
    go_enter Tryz.func53,Tryz.ntmps53
    go_upto_region 1 with fail
    clear hwb
    go_upto_region 7 with fail
    have hBd:Below wb.heap.size wb { wb with drawn:=wb.drawn + 1 }:=below_drew wb
    refine Heavy.region_plan (fun w'=>Below wb.heap.size wb w') 6 (Heavy.lights [0,1,3,4] (.one 2 (.one 5 .done))) (by kernel_rfl) (by kernel_rfl) hBd ?_
    simp only [Heavy.lights,List.take_succ_cons,List.take_zero,List.drop_succ_cons,List.drop_zero]
    clear x0 x1 x2 x3 x4 x5 x6 y0 y1 y2 y3 y4 y5 y6
    iterate 4 (apply Heavy.light_n;(exact rfl);(exact rfl);(intro wr2 hw;have E1:=fa.out wr2 hw;have E2:=fb.out wr2 hw;have x3:=E1.2.2.2.1;have x4:=E1.2.2.2.2.1;have x5:=E1.2.2.2.2.2.1;have y3:=E2.2.2.2.1;have y4:=E2.2.2.2.2.1;have y5:=E2.2.2.2.2.2.1;clear E1 E2;go_simp;exact rfl)
               refine Heavy.norm_a (by go_simp;exact rfl) ?_)
    apply Heavy.one_n
    · exact rfl
    · exact rfl
    go_simp
    refine (o1.out _ (hBw.trans (hBd.mono hBw.size))).mono ?_
    rintro e w3 ⟨u1,rfl,hN1,hb3⟩
    have hB3:Below wb.heap.size wb w3:=hBd.trans hb3
    refine ⟨_,rfl,hB3,?_⟩
    refine Heavy.norm_a (by go_simp;exact rfl) ?_
    apply Heavy.one_n
    · exact rfl
    · exact rfl
    go_simp
    refine (o2.out _ (hBw.trans (hB3.mono hBw.size))).mono ?_
    rintro e w4 ⟨u2,rfl,hN2,hb4⟩
    have hB4:=hB3.trans (hb4.mono hB3.size)
    refine ⟨_,rfl,hB4,?_⟩
    refine Heavy.norm_a (by go_simp;exact rfl) ?_
    apply Heavy.plan_end
    show wpList _ _ _ _ _ _
    obtain ⟨r1,r2,rfl,n1,n2⟩:=hN1
    obtain ⟨r3,r4,rfl,n3,n4⟩:=hN2
    have dc:=ratcmp_calls g g' r1 r2 r3 r4 w4.heap.size X1 Y1 X2 Y2 M hMA.out hbA.out.1 hbA.out.2.1 hbA.out.2.2.1 hbA.out.2.2.2 w4 (Nat.le_refl _) ((n1.below hb4 (Nat.le_refl _)).up hb4.size) ((n2.below hb4 (Nat.le_refl _)).up hb4.size) n3 n4
    clear fa fb o1 o2 n1 n2 n3 n4 hbA
    go_wp2_with (go_at_call 113;(with_reducible refine dc.mono ?_);rintro e w5 ⟨⟨z,rfl,hz⟩,hb5⟩)
    go_ret
    exact ⟨⟨z,rfl,hz.trans hRi.out⟩,hBw.trans ((hB4.trans (hb5.mono hB4.size)).mono hBw.size)⟩
  have k2B:(k == 2) = false:=by simpa using k2
  obtain ⟨rfl,rfl,rfl⟩:=vT.2.2.1 k2
  obtain ⟨rfl,rfl,rfl⟩:=vU.2.2.1 k2
  by_cases hll:len = len'
  case neg=>
    have hlB:((len:Int) == (len':Int)) = false:=by simp;omega
    have hwr:IntKind.i64.wrap ((len:Int) - (len':Int)) = (len:Int) - (len':Int):=by rw [IntKind.wrap_i64];omega
    have hRn:Aside (¬ R):=Rno fun h=>hll (by have:=h.2.2.2.2.2.2;rw [Al.out.1,Al.out.2] at this;exact this)
    have hnz:Aside (¬ ((len:Int) - (len':Int) = 0)):=by show ¬ _;omega
    have d1:=rsign_calls ((len:Int) - (len':Int))
    clear hN hN' vT vU ft fu fa fb RA Rno
    go_enter Tryz.func53,Tryz.ntmps53
    go_upto_region 1 with fail
    clear hwb
    go_wp2_with (go_at_call 112;(with_reducible refine (d1 _).mono ?_);rintro e w3 ⟨⟨z,rfl,hz⟩,rfl⟩)
    go_ret
    exact ⟨⟨z,rfl,by rw [hz];exact ⟨fun h=>absurd h hnz.out,fun h=>absurd h hRn.out⟩⟩,hBw⟩
  subst hll
  have d1:=Tryz.strings_Compare nm nm'
  have hRi:Aside (Lib.compareBytes nm.data.toList nm'.data.toList = 0 ↔ R):=by
    show _ ↔ _
    rw [cmpB_zero,RA.out]
    constructor
    · intro h;exact ⟨rfl,rfl,h,rfl,rfl,rfl,by rw [Al.out.1,Al.out.2]⟩
    · intro h;exact h.2.2.1
  generalize Lib.compareBytes nm.data.toList nm'.data.toList = Z at *
  clear hN hN' vT vU ft fu fa fb RA Rno
  go_enter Tryz.func53,Tryz.ntmps53
  go_upto_region 1 with fail
  clear hwb
  go_wp2_with (go_at_call 115;(with_reducible refine (d1 _).mono ?_);rintro e w3 ⟨rfl,rfl⟩)
  go_ret
  exact ⟨⟨Z,rfl,hRi.out⟩,hBw⟩
end Go.Proofs.YtaloeffmigffaaaGreatDoor
end
section
namespace Go.Proofs.YtaloeffmigffaaaGreatDoor
open Go.RowKit Go.Big
attribute [local go_sem] Heavy.uponW
def OrdOk (T:Tm):Prop:=∀ (U:Tm) (n:Nat) (w:World) (vs us:List Value),T.errE = 0 → U.errE = 0 → TmV n w T vs → TmV n w U us → n ≤ w.heap.size →
  Calls Tryz.prog 48 #[.agg vs.toArray,.agg us.toArray] w fun e w'=>(∃ c:Int,e = .returned (.int .i64 c) ∧ (c = 0 ↔ T = U)) ∧ Below w.heap.size w w'
set_option maxRecDepth 100000 in
set_option maxHeartbeats 4000000 in
theorem order_step (k v:Int) (nm:ByteArray) (g:Bool) (num den:List Nat) (args:List Tm) (ih:∀ T' ∈ args,OrdOk T'):OrdOk (.mk k v nm g num den args):=by
  intro U n w vs us hT hU h h' hn
  have hr:=fun (w2:World) (hb:Below w.heap.size w w2)=>roots_calls (.mk k v nm g num den args) U n w2 vs us hT hU (TmV.below hb hn _ _ h) (TmV.below hb hn _ _ h') (Nat.le_trans hn hb.size)
  obtain ⟨k',v',nm',g',num',den',args'⟩:=U
  simp only [TmV] at h h'
  obtain ⟨s1,s2,p,c,rfl,_,hS,hbig,_⟩:=h
  obtain ⟨t1,t2,p',c',rfl,_,hS',hbig',_⟩:=h'
  have erA:Aside (Tm.errL args = 0 ∧ Tm.errL args' = 0):=⟨(errE_split hT).2,(errE_split hU).2⟩
  obtain ⟨F,hF⟩:∃ F:Prop,(Tm.mk k v nm g num den args = .mk k' v' nm' g' num' den' args') = F:=⟨_,rfl⟩
  obtain ⟨R,hR⟩:∃ R:Prop,Tm.rootEq (.mk k v nm g num den args) (.mk k' v' nm' g' num' den' args') = R:=⟨_,rfl⟩
  have FA:Aside (F ↔ R ∧ args = args'):=by
    show _ ↔ _
    rw [← hF,← hR]
    simp only [Tm.rootEq]
    constructor
    · intro h;injection h with e1 e2 e3 e4 e5 e6 e7
      subst e1 e2 e3 e4 e5 e6 e7
      exact ⟨⟨rfl,rfl,rfl,rfl,rfl,rfl,rfl⟩,rfl⟩
    · rintro ⟨⟨rfl,rfl,rfl,rfl,rfl,rfl,_⟩,rfl⟩;rfl
  have RlA:Aside (R → args.length = args'.length):=by
    show R → _
    rw [← hR];simp only [Tm.rootEq]
    intro h;exact h.2.2.2.2.2.2
  rw [hF]
  rw [hR] at hr
  obtain ⟨len,hl⟩:∃ len,args.length = len:=⟨_,rfl⟩
  obtain ⟨len',hl'⟩:∃ len',args'.length = len':=⟨_,rfl⟩
  rw [hl] at hbig hr ⊢
  rw [hl'] at hr ⊢
  have Al:Aside (args.length = len ∧ args'.length = len'):=⟨hl,hl'⟩
  have hSA:Aside (TmsV n w args p 0):=hS
  have hSA':Aside (TmsV n w args' p' 0):=hS'
  have ihA:Aside (∀ T' ∈ args,OrdOk T'):=ih
  clear hl hl' hF hR hT hU hS hS' ih hbig'
  obtain ⟨hBw,q1,q2,hsz⟩:=two_blocks w (Obj.cells #[.int .i64 k,.int .i64 v,.string nm,.bool g,s1,s2,.slice p len c] 27) (Obj.cells #[.int .i64 k',.int .i64 v',.string nm',.bool g',t1,t2,.slice p' len' c'] 27)
  obtain ⟨wb,hwb⟩:∃ wb,(w.alloc (Obj.cells #[.int .i64 k,.int .i64 v,.string nm,.bool g,s1,s2,.slice p len c] 27)).alloc (Obj.cells #[.int .i64 k',.int .i64 v',.string nm',.bool g',t1,t2,.slice p' len' c'] 27) = wb:=⟨_,rfl⟩
  rw [hwb] at hBw q1 q2 hsz
  have fa:Aside (∀ w2,Below wb.heap.size wb w2 → _):=fun (w2:World) (hb:Below wb.heap.size wb w2)=>cells7 ((hb.block _ (by omega)).trans q1)
  have fb:Aside (∀ w2,Below wb.heap.size wb w2 → _):=fun (w2:World) (hb:Below wb.heap.size wb w2)=>cells7 ((hb.block _ (by omega)).trans q2)
  obtain ⟨x0,x1,x2,x3,x4,x5,x6⟩:=fa.out wb (Below.refl _ _)
  obtain ⟨y0,y1,y2,y3,y4,y5,y6⟩:=fb.out wb (Below.refl _ _)
  have hszA:Aside (w.heap.size + 2 ≤ wb.heap.size):=hsz
  have d1:=hr wb hBw
  replace d1:Calls Tryz.prog 53 #[.agg #[.int .i64 k,.int .i64 v,.string nm,.bool g,s1,s2,.slice p len c],.agg #[.int .i64 k',.int .i64 v',.string nm',.bool g',t1,t2,.slice p' len' c']] _ _:=d1
  clear hr q1 q2 hsz
  show Calls Tryz.prog 48 #[.agg #[.int .i64 k,.int .i64 v,.string nm,.bool g,s1,s2,.slice p len c],.agg #[.int .i64 k',.int .i64 v',.string nm',.bool g',t1,t2,.slice p' len' c']] w _
  go_enter Tryz.func48,Tryz.ntmps48
  go_upto_region 1 with fail
  clear hwb
  go_wp2_with (go_at_call 53;with_reducible refine d1.mono ?_)
  first | rintro e w1 ⟨⟨z,rfl,hz⟩,hb1⟩ | rintro e w1 z rfl hz hb1
  clear d1
  by_cases hz0:z = 0
  case neg=>
    have hzB:(z == 0) = false:=by simpa using hz0
    have hFn:Aside (¬ F):=fun h=>hz0 (hz.2 (FA.out.1 h).1)
    have hznA:Aside (¬ z = 0):=hz0
    clear hz hz0
    go_wp2
    go_ret
    exact ⟨⟨z,rfl,⟨fun h=>absurd h hznA.out,fun h=>absurd h hFn.out⟩⟩,hBw.trans (hb1.mono hBw.size)⟩
  case pos=>
    subst hz0
    have hRt:Aside R:=hz.1 rfl
    have hll:len' = len:=by
      have:=RlA.out hRt.out
      rw [Al.out.1,Al.out.2] at this
      exact this.symm
    subst hll
    obtain ⟨x0,x1,x2,x3,x4,x5,x6⟩:=fa.out w1 hb1
    have hFi:Aside (F ↔ args = args'):=by
      show _ ↔ _
      rw [FA.out];exact ⟨fun h=>h.2,fun h=>⟨hRt.out,h⟩⟩
    clear hz
    go_wp2
    go_loopw [17] (fun s wr=>∃ i:Nat,s = .int .i64 i ∧ i ≤ len' ∧ Aside (args.take i = args'.take i) ∧ Below wb.heap.size wb wr) (fun s _=>len' - (intOf s).toNat)
    case atStart=>exact ⟨0,rfl,Nat.zero_le _,by show _ = _;simp,hb1⟩
    case round=>
      obtain ⟨i,rfl,hi,ht,hB⟩:=hrel
      have hBww:Below w.heap.size w wr:=hBw.trans (hB.mono hBw.size)
      by_cases hlt:i < len'
      · obtain ⟨T',hT'⟩:∃ T',args[i]? = some T':=⟨args[i]'(by rw [Al.out.1];exact hlt),List.getElem?_eq_getElem _⟩
        obtain ⟨U',hU'⟩:∃ U',args'[i]? = some U':=⟨args'[i]'(by rw [Al.out.2];exact hlt),List.getElem?_eq_getElem _⟩
        obtain ⟨b,o,vs',rfl,hbn,hc,hv⟩:=hSA.out.get hT'
        obtain ⟨b',o',us',rfl,hbn',hc',hv'⟩:=hSA'.out.get hU'
        rw [Nat.zero_add] at hc hc'
        have d2:=ihA.out T' (List.mem_of_getElem? hT') U' n wr.drew vs' us' (errL_get erA.out.1 hT') (errL_get erA.out.2 hU') (TmV.below (hBww.trans (below_drew_at _ _)) hn _ _ hv) (TmV.below (hBww.trans (below_drew_at _ _)) hn _ _ hv') (Nat.le_trans hn hBww.size)
        have ht1:Aside (∀ z:Int,(z = 0 ↔ T' = U') → z = 0 → args.take (i + 1) = args'.take (i + 1)):=by
          show ∀ z:Int,_
          intro z h1 h2
          rw [List.take_add_one,List.take_add_one,hT',hU',ht.out,h1.1 h2]
        have ht2:Aside (∀ z:Int,(z = 0 ↔ T' = U') → ¬ z = 0 → ¬ F):=by
          show ∀ z:Int,_
          intro z h1 h2 h3
          have h4:=hFi.out.1 h3
          rw [h4,hU'] at hT'
          exact h2 (h1.2 (Option.some.inj hT').symm)
        have hBm:∀ q:Addr,q.block < n → wr.cell? q = w.cell? q:=fun q hq=>(hBww.mono hn).cell hq
        obtain ⟨m0,m1,m2,m3,m4,m5,m6⟩:∃ r0 r1 r2 r3 r4 r5 r6,True:=⟨0,0,0,0,0,0,0,trivial⟩
        clear m0 m1 m2 m3 m4 m5 m6
        clear hT' hU'
        obtain ⟨k1,v1,nm1,g1,num1,den1,args1⟩:=T'
        obtain ⟨k2,v2,nm2,g2,num2,den2,args2⟩:=U'
        simp only [TmV] at hv hv'
        obtain ⟨p1,p2,pa,pc,rfl,_⟩:=hv
        obtain ⟨r1,r2,ra,rc,rfl,_⟩:=hv'
        obtain ⟨m0,m1,m2,m3,m4,m5,m6⟩:=seven (w:=w) (w2:=wr) (fun q hq=>hBm q (hq ▸ hbn)) hc
        obtain ⟨n0,n1,n2,n3,n4,n5,n6⟩:=seven (w:=w) (w2:=wr) (fun q hq=>hBm q (hq ▸ hbn')) hc'
        have xa:=(fa.out wr hB).2.2.2.2.2.2
        have xb:=(fb.out wr hB).2.2.2.2.2.2
        replace d2:Calls Tryz.prog 48 #[.agg #[.int .i64 k1,.int .i64 v1,.string nm1,.bool g1,p1,p2,.slice pa args1.length pc],.agg #[.int .i64 k2,.int .i64 v2,.string nm2,.bool g2,r1,r2,.slice ra args2.length rc]] wr.drew _:=d2
        generalize args1.length = ln1 at *
        generalize args2.length = ln2 at *
        generalize Tm.mk k1 v1 nm1 g1 num1 den1 args1 = T' at *
        generalize Tm.mk k2 v2 nm2 g2 num2 den2 args2 = U' at *
        obtain ⟨Q,hQ⟩:∃ Q:Prop,(T' = U') = Q:=⟨_,rfl⟩
        rw [hQ] at d2 ht1 ht2
        have hi1:(i:Int) < (len':Int):=by omega
        have hi3:(0:Int) ≤ (i:Int):=by omega
        have hw3:IntKind.i64.wrap ((i:Int) + 1) = (i:Int) + 1:=by rw [IntKind.wrap_i64];omega
        have z2:Aside (∀ w2,Below wr.heap.size wr.drew w2 → Below wb.heap.size wb w2):=fun w2 hb=>hB.trans (((below_drew wr).trans hb).mono hB.size)
        clear hc hc' hBm fa fb ihA hSA hSA' erA ht hQ x0 x1 x2 x3 x4 x5 x6 y0 y1 y2 y3 y4 y5 y6
        go_upto_region 7 with fail
        refine wp_region_still_tail 10 (by kernel_rfl) (by kernel_rfl) ?_
        simp only [List.take_succ_cons,List.take_zero,List.drop_succ_cons,List.drop_zero,World.drew_eq]
        repeat (with_reducible refine wpStill_step (fun K hK=>?_);go_simp;with_reducible refine hK _ ?_;clear hK K)
        refine wpStill_nil ?_
        show wpList _ _ _ _ _ _
        go_wp2_with (go_at_call 48;with_reducible refine d2.mono ?_)
        first | rintro e w3 ⟨⟨z,rfl,hz⟩,hb3⟩ | rintro e w3 z rfl hz hb3
        by_cases hz0:z = 0
        · subst hz0
          have ht4:Aside (args.take (i + 1) = args'.take (i + 1)):=ht1.out 0 hz rfl
          clear ht1 ht2 hz d2
          go_wp2
          go_roundw
          case rel=>exact ⟨i + 1,by simp,by omega,ht4,z2.out _ hb3⟩
          case measure=>simp [intOf];omega
        · have hzB:(z == 0) = false:=by simpa using hz0
          have hFn:Aside (¬ F):=ht2.out z hz hz0
          have hznA:Aside (¬ z = 0):=hz0
          clear ht1 ht2 hz hz0 d2
          go_wp2
          go_ret
          exact ⟨⟨z,rfl,⟨fun h=>absurd h hznA.out,fun h=>absurd h hFn.out⟩⟩,hBw.trans ((z2.out _ hb3).mono hBw.size)⟩
      · obtain rfl:i = len':=by omega
        have hft:Aside F:=hFi.out.2 (by
          have h1:=ht.out
          rw [← Al.out.1,List.take_length,Al.out.1,← Al.out.2,List.take_length] at h1
          exact h1)
        clear fa fb ihA hSA hSA' erA
        go_wp2
        go_ret
        exact ⟨⟨0,rfl,⟨fun _=>hft.out,fun _=>rfl⟩⟩,hBww⟩
theorem order_calls:∀ (T:Tm),OrdOk T
  | .mk k v nm g num den args=>order_step k v nm g num den args fun T' hT'=>order_calls T'
termination_by T=>SizeOf.sizeOf T
decreasing_by
  simp_wf
  have:=List.sizeOf_lt_of_mem hT'
  omega
end Go.Proofs.YtaloeffmigffaaaGreatDoor
end
section
namespace Go.Proofs.YtaloeffmigffaaaGreatDoor
open Go.RowKit Go.Big
attribute [local go_sem] Heavy.uponW
def BsAt (n:Nat) (w:World) (L:List (Int × Tm)) (a:Option Addr):Prop:=
  ∀ (i:Nat) p,L[i]? = some p → ∃ b off vs,a = some ⟨b,off,none⟩ ∧ b < n ∧ w.cell? ⟨b,off + i * 8,none⟩ = some (.int .i64 p.1) ∧ (∀ (j:Nat) u,vs[j]? = some u → w.cell? ⟨b,off + i * 8 + 1 + j,none⟩ = some u) ∧ TmV n w p.2 vs
def BsV (n:Nat) (w:World) (L:List (Int × Tm)) (sv:Value):Prop:=∃ a c,sv = .slice a L.length c ∧ BsAt n w L a
theorem BsAt.below {n m:Nat} {w w':World} {L:List (Int × Tm)} {a:Option Addr} (h:BsAt n w L a) (hb:Below m w w') (hm:n ≤ m):BsAt n w' L a:=fun i p hp=>by
  obtain ⟨b,off,vs,e,hbn,h1,h2,h3⟩:=h i p hp
  exact ⟨b,off,vs,e,hbn,((hb.mono hm).cell (p:=⟨b,off + i * 8,none⟩) hbn).trans h1,fun j u hj=>((hb.mono hm).cell (p:=⟨b,off + i * 8 + 1 + j,none⟩) hbn).trans (h2 j u hj),TmV.below hb hm _ _ h3⟩
theorem BsV.below {n m:Nat} {w w':World} {L:List (Int × Tm)} {sv:Value} (h:BsV n w L sv) (hb:Below m w w') (hm:n ≤ m):BsV n w' L sv:=by
  obtain ⟨a,c,e,h1⟩:=h
  exact ⟨a,c,e,h1.below hb hm⟩
theorem TmV.up {n m:Nat} {w:World} (hm:n ≤ m) (T:Tm) (vs:List Value) (h:TmV n w T vs):TmV m w T vs:=TmS.toV (S:=fun k=>k < n) (fun k hk=>by omega) _ _ (TmV.toS _ _ h)
theorem BsV.up {n m:Nat} {w:World} {L:List (Int × Tm)} {sv:Value} (h:BsV n w L sv) (hm:n ≤ m):BsV m w L sv:=by
  obtain ⟨a,c,e,h1⟩:=h
  refine ⟨a,c,e,fun i p hp=>?_⟩
  obtain ⟨b,off,vs,e,hbn,h2,h3,h4⟩:=h1 i p hp
  exact ⟨b,off,vs,e,by omega,h2,h3,TmV.up hm _ _ h4⟩
theorem bsV_nil (n:Nat) (w:World):BsV n w [] (.slice none 0 0):=⟨none,0,rfl,fun i p hp=>by simp at hp⟩
theorem seven8 {w w2:World} {b o i:Nat} {v0 v1 v2 v3 v4 v5 v6:Value} (hx:∀ p:Addr,p.block = b → w2.cell? p = w.cell? p) (hc:∀ (j:Nat) u,[v0,v1,v2,v3,v4,v5,v6][j]? = some u → w.cell? ⟨b,o + i * 8 + 1 + j,none⟩ = some u) :
    w2.cell? ⟨b,o + i * 8 + 1,none⟩ = some v0 ∧ w2.cell? ⟨b,o + i * 8 + 2,none⟩ = some v1 ∧ w2.cell? ⟨b,o + i * 8 + 3,none⟩ = some v2 ∧ w2.cell? ⟨b,o + i * 8 + 4,none⟩ = some v3 ∧ w2.cell? ⟨b,o + i * 8 + 5,none⟩ = some v4 ∧ w2.cell? ⟨b,o + i * 8 + 6,none⟩ = some v5 ∧ w2.cell? ⟨b,o + i * 8 + 7,none⟩ = some v6:=
  ⟨(hx _ rfl).trans (hc 0 _ rfl),(hx _ rfl).trans (hc 1 _ rfl),(hx _ rfl).trans (hc 2 _ rfl),(hx _ rfl).trans (hc 3 _ rfl),(hx _ rfl).trans (hc 4 _ rfl),(hx _ rfl).trans (hc 5 _ rfl),(hx _ rfl).trans (hc 6 _ rfl)⟩
theorem findB_drop {L:List (Int × Tm)} {i:Nat} {p:Int × Tm} {v:Int} (h:L[i]? = some p):findB (L.drop i) v = if p.1 = v then some p.2 else findB (L.drop (i + 1)) v:=by
  have hi:=(List.getElem?_eq_some_iff.1 h).1
  have e:=(List.getElem?_eq_some_iff.1 h).2
  rw [List.drop_eq_getElem_cons hi,e]
  obtain ⟨u,x⟩:=p
  rw [findB]
def FindR (L:List (Int × Tm)) (v:Int) (n:Nat) (e:Ending) (w':World):Prop:=∃ (rs:List Value) (b:Bool) (X:Tm),e = .returned (.tuple #[.agg rs.toArray,.bool b]) ∧ ((b = true → findB L v = some X) ∧ (b = false → findB L v = none)) ∧ TmV n w' X rs
set_option maxRecDepth 100000 in
set_option maxHeartbeats 4000000 in
theorem find_calls (L:List (Int × Tm)) (v:Int) (n:Nat) (w:World) (sv:Value) (h:BsV n w L sv) (hbig:L.length ≤ 1048576) (hn:n ≤ w.heap.size) :
    Calls Tryz.prog 51 #[sv,.int .i64 v] w fun e w'=>FindR L v n e w' ∧ Below w.heap.size w w':=by
  obtain ⟨a,c,rfl,hA⟩:=h
  obtain ⟨len,hl⟩:∃ len,L.length = len:=⟨_,rfl⟩
  rw [hl] at hbig ⊢
  have Al:Aside (L.length = len):=hl
  have hAA:Aside (BsAt n w L a):=hA
  clear hl hA
  obtain ⟨wb,hwb⟩:∃ wb,w.alloc zObj = wb:=⟨_,rfl⟩
  have hBw:Below w.heap.size w wb:=hwb ▸ below_alloc _ _
  have hq:wb.heap[w.heap.size]? = some zObj:=hwb ▸ heap_alloc_new _ _
  have hsz:Aside (wb.heap.size = w.heap.size + 1):=by show _ = _;rw [← hwb,World.size_alloc]
  have hqA:Aside (wb.heap[w.heap.size]? = some zObj):=hq
  clear hq
  have hzO:zObj = .cells #[.int .i64 0,.int .i64 0,.string { data:=#[] },.bool false,.slice none 0 0,.slice none 0 0,.slice none 0 0] 27:=rfl
  rw [hzO] at hwb
  go_enter Tryz.func51,Tryz.ntmps51
  go_upto_region 1 with fail
  clear hwb
  go_wp2
  go_loopw [10] (fun s wr=>∃ i:Nat,s = .int .i64 i ∧ i ≤ len ∧ Aside (findB L v = findB (L.drop i) v) ∧ Below wb.heap.size wb wr) (fun s _=>len - (intOf s).toNat)
  case atStart=>exact ⟨0,rfl,Nat.zero_le _,by show _ = _;simp,Below.refl _ _⟩
  case round=>
    obtain ⟨i,rfl,hi,hf,hB⟩:=hrel
    have hBww:Below w.heap.size w wr:=hBw.trans (hB.mono hBw.size)
    have hBs:=hB.size
    by_cases hlt:i < len
    · obtain ⟨p,hp⟩:∃ p,L[i]? = some p:=⟨L[i]'(by rw [Al.out];exact hlt),List.getElem?_eq_getElem _⟩
      obtain ⟨b,o,vs,rfl,hbn,hc0,hc,hv⟩:=hAA.out i p hp
      have hfd:=findB_drop (v:=v) hp
      have hfA:Aside (findB L v = if p.1 = v then some p.2 else findB (L.drop (i + 1)) v):=hf.out.trans hfd
      have hx0:=(hBww.mono hn).cell (p:=⟨b,o + i * 8,none⟩) hbn
      have c0:=hx0.trans hc0
      have hvA:Aside (TmV n wr p.2 vs):=TmV.below hBww hn _ _ hv
      clear hp hfd hc0 hx0 hf
      obtain ⟨pv,T'⟩:=p
      obtain ⟨k1,v1,nm1,g1,num1,den1,args1⟩:=T'
      simp only [TmV] at hv
      obtain ⟨_,_,s3,t3,rfl,⟨⟨s1,t1,rfl,_⟩,⟨s2,t2,rfl,_⟩⟩,_⟩:=hv
      obtain ⟨m0,m1,m2,m3,m4,m5,m6⟩:=seven8 (w:=w) (w2:=wr) (fun q hq=>(hBww.mono hn).cell (hq ▸ hbn)) hc
      generalize args1.length = ln1 at *
      generalize num1.length = ln2 at *
      generalize den1.length = ln3 at *
      have hi1:(i:Int) < (len:Int):=by omega
      have hi3:(0:Int) ≤ (i:Int):=by omega
      have hw3:IntKind.i64.wrap ((i:Int) + 1) = (i:Int) + 1:=by rw [IntKind.wrap_i64];omega
      clear hc
      by_cases hpv:pv = v
      · have hpB:(pv == v) = true:=by simpa using hpv
        have hres:Aside (findB L v = some (Tm.mk k1 v1 nm1 g1 num1 den1 args1)):=by
          show _ = _;rw [hfA.out,if_pos hpv]
        have hq2:wr.heap[w.heap.size]? = some zObj:=(hB.block _ (by have:=hsz.out;omega)).trans hqA.out
        have hq3:=(Lib.alloc_old wr (.cells #[.int .i64 pv,.int .i64 k1,.int .i64 v1,.string nm1,.bool g1,.slice s1 ln2 t1,.slice s2 ln3 t2,.slice s3 ln1 t3] 114) w.heap.size (by have:=hsz.out;omega)).trans hq2
        obtain ⟨r0,r1,r2,r3,r4,r5,r6⟩:=cells7 hq3
        have rz:=frozen_of hq3
        clear hpv hfA
        go_wp2
        obtain ⟨z1,z2,z3⟩:=set7 (v0:=.int .i64 k1) (v1:=.int .i64 v1) (v2:=.string nm1) (v3:=.bool g1) (v4:=.slice s1 ln2 t1) (v5:=.slice s2 ln3 t2) (v6:=.slice s3 ln1 t3) hq3
        refine bodyPost_ret (results_cell2 rfl _ _ w.heap.size 27 _ _ _ rfl z1 Tryz.underlying27 rfl (by kernel_rfl)) rfl ?_
        have hBf:Below w.heap.size wr _:=((below_alloc wr _).mono (by have:=hBww.size;omega)).trans z3
        exact ⟨⟨_,true,_,rfl,⟨fun _=>hres.out,fun h=>absurd h (by decide)⟩,TmV.below hBf hn _ _ hvA.out⟩,hBww.trans hBf⟩
      · have hpB:(pv == v) = false:=by simpa using hpv
        have hres:Aside (findB L v = findB (L.drop (i + 1)) v):=by
          show _ = _;rw [hfA.out,if_neg hpv]
        clear hpv hfA
        go_wp2
        go_roundw
        case rel=>exact ⟨i + 1,by simp,by omega,hres,hB.alloc (by omega) _⟩
        case measure=>simp [intOf];omega
    · obtain rfl:i = len:=by omega
      have hres:Aside (findB L v = none):=by
        show _ = _
        rw [hf.out,← Al.out,List.drop_length]
        rfl
      have hq2:wr.heap[w.heap.size]? = some zObj:=(hB.block _ (by have:=hsz.out;omega)).trans hqA.out
      obtain ⟨r0,r1,r2,r3,r4,r5,r6⟩:=cells7 hq2
      have rz:=frozen_of hq2
      clear hf hAA
      go_wp2
      obtain ⟨z1,z2,z3⟩:=set7 (v0:=.int .i64 1) (v1:=.int .i64 v) (v2:=.string ⟨#[]⟩) (v3:=.bool false) (v4:=.slice none 0 0) (v5:=.slice none 0 0) (v6:=.slice none 0 0) hq2
      refine bodyPost_ret (results_cell2 rfl _ _ w.heap.size 27 _ _ _ rfl z1 Tryz.underlying27 rfl (by kernel_rfl)) rfl ?_
      refine ⟨⟨[.int .i64 1,.int .i64 v,.string ⟨#[]⟩,.bool false,.slice none 0 0,.slice none 0 0,.slice none 0 0],false,.mk 1 v ⟨#[]⟩ false [] [] [],rfl,⟨fun h=>absurd h (by decide),fun _=>hres.out⟩,?_⟩,hBww.trans z3⟩
      simp only [TmV,TmsV]
      exact ⟨_,_,none,0,rfl,⟨⟨none,0,rfl,by simp [LimAt]⟩,⟨none,0,rfl,by simp [LimAt]⟩⟩,trivial,by simp,by simp,by simp⟩
end Go.Proofs.YtaloeffmigffaaaGreatDoor
end
