/-
  A part of the proof of the card of WorkGeneralizationIsLeast (second form): lemmas that the text Card uses. No condition of its own.
-/
import Derived.Test.YtaloeffmigffaaaGreatDoorNat
import Derived.Test.YtaloeffmigffaaaGreatDoorRefA
import Derived.Test.YtaloeffmigffaaaGreatDoorRefC
import Derived.Test.YtaloeffmigffaaaGreatDoorRules
set_option linter.all false
set_option linter.unusedVariables false
set_option linter.unusedSimpArgs false
section
namespace Go.Big
theorem val_set (B:Nat):∀ (D:List Nat) (k x:Nat),k < D.length → val B (D.set k x) + dg D k * B ^ k = val B D + x * B ^ k
  | [],k,x,h=>by simp at h
  | d :: D,0,x,h=>by simp [val,dg];omega
  | d :: D,k + 1,x,h=>by
    have ih:=val_set B D k x (by simpa using h)
    simp only [List.set_cons_succ,val,dg_cons]
    rw [Nat.pow_succ,Nat.mul_comm (B ^ k) B,Nat.mul_left_comm,Nat.mul_left_comm x B,Nat.add_assoc,← Nat.mul_add,ih,Nat.mul_add]
    omega
theorem take_val (B:Nat) {A:List Nat} {i:Nat} (h:i < A.length):val B (A.take (i + 1)) = val B (A.take i) + B ^ i * dg A i:=by
  rw [List.take_add_one,dg_get h]
  simp only [Option.toList_some]
  rw [val_snoc,List.length_take,Nat.min_eq_left (by omega)]
theorem valf_past (B:Nat) (C:List Nat) {j:Nat} (h:C.length ≤ j):valf B (dg C) j = val B C:=val_valf B C j h
structure Mul1 (A C D:List Nat) (i j c:Nat):Prop where
  lt:∀ x ∈ D,x < 65536
  len:D.length = A.length + C.length + 1
  small:c < 65536
  eq:val 65536 D + c * 65536 ^ (i + j) = val 65536 (A.take i) * val 65536 C + dg A i * valf 65536 (dg C) j * 65536 ^ i
theorem Mul1.start {A C D:List Nat} {i:Nat} (hlt:∀ x ∈ D,x < 65536) (hlen:D.length = A.length + C.length + 1) (h:val 65536 D = val 65536 (A.take i) * val 65536 C):Mul1 A C D i 0 0:=
  ⟨hlt,hlen,by decide,by simp [valf,h]⟩
theorem Mul1.sum_lt {A C D:List Nat} {i j c:Nat} (h:Mul1 A C D i j c) (hA:∀ x ∈ A,x < 65536) (hC:∀ x ∈ C,x < 65536):dg D (i + j) + dg A i * dg C j + c < 65536 * 65536:=by
  have h1:dg D (i + j) < 65536:=dg_lt (by decide) h.lt _
  have h2:dg A i < 65536:=dg_lt (by decide) hA _
  have h3:dg C j < 65536:=dg_lt (by decide) hC _
  have h4:dg A i * dg C j ≤ 65535 * 65535:=Nat.mul_le_mul (by omega) (by omega)
  have:=h.small
  omega
theorem Mul1.step {A C D:List Nat} {i j c s:Nat} (h:Mul1 A C D i j c) (hA:∀ x ∈ A,x < 65536) (hC:∀ x ∈ C,x < 65536) (hij:i + j < D.length) (hs:s = dg D (i + j) + dg A i * dg C j + c) :
    Mul1 A C (D.set (i + j) (s % 65536)) i (j + 1) (s / 65536):=by
  have hlt:=h.sum_lt hA hC
  rw [← hs] at hlt
  refine ⟨fun x hx=>?_,by simpa using h.len,?_,?_⟩
  · rcases List.mem_or_eq_of_mem_set hx with hx | rfl
    · exact h.lt x hx
    · exact Nat.mod_lt _ (by decide)
  · exact Nat.div_lt_of_lt_mul hlt
  · have e1:=val_set 65536 D (i + j) (s % 65536) hij
    have e2:=h.eq
    have e3:s % 65536 + s / 65536 * 65536 = s:=by rw [Nat.mul_comm];exact Nat.mod_add_div s 65536
    obtain ⟨P,hP⟩:∃ P,65536 ^ (i + j) = P:=⟨_,rfl⟩
    have e4:65536 ^ (i + (j + 1)) = P * 65536:=by rw [← Nat.add_assoc,Nat.pow_succ,hP]
    have e5:65536 ^ j * 65536 ^ i = P:=by rw [← hP,Nat.pow_add,Nat.mul_comm]
    rw [e4]
    rw [hP] at e1 e2
    rw [valf,Nat.mul_add,Nat.add_mul]
    have e6:dg A i * (65536 ^ j * dg C j) * 65536 ^ i = dg A i * dg C j * P:=by
      rw [← e5]
      simp only [Nat.mul_assoc,Nat.mul_comm,Nat.mul_left_comm]
    rw [e6]
    have e7:s / 65536 * (P * 65536) = s / 65536 * 65536 * P:=by
      rw [Nat.mul_comm P 65536,Nat.mul_assoc]
    rw [e7]
    have e8:s % 65536 * P + s / 65536 * 65536 * P = s * P:=by rw [← Nat.add_mul,e3]
    have e9:s * P = dg D (i + j) * P + dg A i * dg C j * P + c * P:=by rw [hs,Nat.add_mul,Nat.add_mul]
    omega
theorem Mul1.bound {A C D:List Nat} {i j c:Nat} (h:Mul1 A C D i j c) (hA:∀ x ∈ A,x < 65536) (hC:∀ x ∈ C,x < 65536) (hi:i < A.length) (hj:j < C.length ∨ 0 < c):j ≤ C.length ∧ i + j < D.length:=by
  rcases Nat.lt_or_ge j C.length with h1 | h1
  · rw [h.len];exact ⟨by omega,by omega⟩
  · have hc:0 < c:=by omega
    have e:=h.eq
    rw [valf_past 65536 C h1] at e
    have e1:val 65536 (A.take i) * val 65536 C + dg A i * val 65536 C * 65536 ^ i = val 65536 (A.take (i + 1)) * val 65536 C:=by
      rw [take_val 65536 hi,Nat.add_mul]
      simp only [Nat.mul_assoc,Nat.mul_comm,Nat.mul_left_comm]
    rw [e1] at e
    have l1:val 65536 (A.take (i + 1)) < 65536 ^ (i + 1):=by
      have:=val_lt (B:=65536) (a:=A.take (i + 1)) fun x hx=>hA x (List.mem_of_mem_take hx)
      rwa [List.length_take,Nat.min_eq_left (by omega)] at this
    have l2:val 65536 C < 65536 ^ C.length:=val_lt hC
    have l3:val 65536 (A.take (i + 1)) * val 65536 C < 65536 ^ (i + 1) * 65536 ^ C.length:=Nat.mul_lt_mul'' l1 l2
    rw [← Nat.pow_add] at l3
    have l4:65536 ^ (i + j) ≤ c * 65536 ^ (i + j):=Nat.le_mul_of_pos_left _ hc
    have l5:65536 ^ (i + j) < 65536 ^ (i + 1 + C.length):=by omega
    have l6:=(Nat.pow_lt_pow_iff_right (a:=65536) (by decide)).1 l5
    rw [h.len]
    exact ⟨by omega,by omega⟩
theorem Mul1.done {A C D:List Nat} {i j:Nat} (h:Mul1 A C D i j 0) (hi:i < A.length) (hj:C.length ≤ j):val 65536 D = val 65536 (A.take (i + 1)) * val 65536 C:=by
  have e:=h.eq
  rw [valf_past 65536 C hj] at e
  rw [take_val 65536 hi,Nat.add_mul]
  have:dg A i * val 65536 C * 65536 ^ i = 65536 ^ i * dg A i * val 65536 C:=by
    rw [Nat.mul_comm (dg A i * val 65536 C),Nat.mul_assoc]
  omega
end Go.Big
end
section
namespace Go.Proofs.YtaloeffmigffaaaGreatDoor
open Go.RowKit Go.Big
set_option maxRecDepth 100000 in
set_option maxHeartbeats 4000000 in
theorem rmul_calls (r1 r2:Value) (n v1 v2 M:Nat) (hv1:v1 < 65536 ^ M) (hv2:v2 < 65536 ^ M) (hM:M ≤ 100000) (w:World) (hn:n ≤ w.heap.size) (h1:NatR n w r1 v1) (h2:NatR n w r2 v2) :
    Calls Tryz.prog 176 #[r1,r2] w fun e w'=>∃ r,e = .returned r ∧ NatR w'.heap.size w' r (v1 * v2) ∧ Below w.heap.size w w':=by
  obtain ⟨a1,A,cap1,rfl,_,_,hatA,hzA,rfl⟩:=h1
  obtain ⟨a2,C,cap2,rfl,_,_,hatC,hzC,rfl⟩:=h2
  have hlA:A.length ≤ 100000:=Nat.le_trans (hzA.len_of hv1) hM
  have hlC:C.length ≤ 100000:=Nat.le_trans (hzC.len_of hv2) hM
  obtain ⟨la,hla⟩:∃ la,A.length = la:=⟨_,rfl⟩
  obtain ⟨lb,hlb⟩:∃ lb,C.length = lb:=⟨_,rfl⟩
  rw [hla] at hlA ⊢
  rw [hlb] at hlC ⊢
  have hAl:Aside (A.length = la ∧ C.length = lb):=⟨hla,hlb⟩
  have hmk:∀ w:World,(Instr.makeSlice 177 (.int .i64 ((la:Int) + lb + 1)) (.int .i64 ((la:Int) + lb + 1))).run Tryz.prog w = .ok (.slice (some ⟨w.heap.size,0,none⟩) (la + lb + 1) (la + lb + 1)) (w.alloc (.cells (madeCells #[.int .i64 0] (la + lb + 1)) 3)):=fun w=>by
    have:=run_make_row' (P:=Tryz.prog) 177 3 (.int .i64 0) 8 Tryz.underlying177 inf3 rfl .i64 .i64 (la + lb + 1) (by omega) (by omega) w
    have e:((la + lb + 1:Nat):Int) = (la:Int) + lb + 1:=by omega
    rw [e] at this
    exact this
  obtain ⟨m,hm⟩:∃ m,la + lb + 1 = m:=⟨_,rfl⟩
  have hmA:Aside (la + lb + 1 = m):=hm
  rw [hm] at hmk
  have hw1:IntKind.i64.wrap ((la:Int) + lb) = (la:Int) + lb:=by rw [IntKind.wrap_i64];omega
  have hw2:IntKind.i64.wrap ((la:Int) + lb + 1) = (la:Int) + lb + 1:=by rw [IntKind.wrap_i64];omega
  clear hv1 hv2 hla hlb hm hzA hzC
  go_enter Tryz.func176,Tryz.ntmps176
  go_wp2
  go_loopw [19] (fun s wr=>∃ (i:Nat) (D:List Nat),s = .int .i64 i ∧ i ≤ la ∧ IRow wr w.heap.size D ∧ Aside ((∀ x ∈ D,x < 65536) ∧ D.length = m ∧ val 65536 D = val 65536 (A.take i) * val 65536 C) ∧ Below w.heap.size w wr) (fun s _=>la - (intOf s).toNat)
  case atStart=>exact ⟨0,List.replicate m 0,rfl,Nat.zero_le _,IRow.made _ _,⟨by simp,by simp,by simp [val,val_zeros]⟩,below_alloc _ _⟩
  case round=>
    obtain ⟨i,D,rfl,hi,hR,hD,hB⟩:=hrel
    obtain ⟨wq,rfl⟩:∃ wq,wq = wr:=⟨_,rfl⟩
    by_cases hlt:i < la
    · have hi1:(i:Int) < (la:Int):=by omega
      have hi3:(0:Int) ≤ (i:Int):=by omega
      have hw3:IntKind.i64.wrap ((i:Int) + 1) = (i:Int) + 1:=by rw [IntKind.wrap_i64];omega
      have hst:Aside (Mul1 A C D i 0 0):=Mul1.start hD.out.1 (by rw [hD.out.2.1,hAl.out.1,hAl.out.2];exact hmA.out.symm) hD.out.2.2
      clear hmk hw1 hw2
      go_wp2
      go_loopw [7,8] (fun s7 s8 wr=>∃ (c j:Nat) (D:List Nat),s7 = .int .i64 c ∧ s8 = .int .i64 j ∧ j ≤ lb + 1 ∧ IRow wr w.heap.size D ∧ Aside (Mul1 A C D i j c) ∧ Below w.heap.size w wr) (fun _ s8 _=>lb + 2 - (intOf s8).toNat)
      case atStart=>exact ⟨0,0,D,rfl,rfl,by omega,hR,hst,hB⟩
      case round=>
        clear hR hD hst hB
        obtain ⟨c,j,D,rfl,rfl,hj,hR,hI,hB⟩:=hrel
        by_cases hgo:j < lb ∨ 0 < c
        · obtain ⟨hj2,hij⟩:=hI.out.bound hatA.1 hatC.1 (by rw [hAl.out.1];exact hlt) (by rw [hAl.out.2];exact hgo)
          rw [hAl.out.2] at hj2
          have hijm:i + j < m:=by rw [hI.out.len,hAl.out.1,hAl.out.2] at hij;have:=hmA.out;omega
          have hxA:=dg_get (L:=A) (i:=i) (by rw [hAl.out.1];exact hlt)
          obtain ⟨b1,o1,rfl,hbn,hxl,hcA⟩:=(hatA.below hB hn).get hxA
          have hdg:=rdigit_calls a2 lb cap2 n j C hAl.out.2 wr.drew (hatC.below hB.drew hn)
          obtain ⟨s,hs⟩:∃ s,s = dg D (i + j) + dg A i * dg C j + c:=⟨_,rfl⟩
          have hsl:s < 65536 * 65536:=by rw [hs];exact hI.out.sum_lt hatA.1 hatC.1
          have hnx:Aside (Mul1 A C (D.set (i + j) (s % 65536)) i (j + 1) (s / 65536)):=hI.out.step hatA.1 hatC.1 hij hs
          obtain ⟨c0,z0⟩:=hR.cell (dg_get (L:=D) (i:=i + j) hij)
          have hijA:Aside (i + j < D.length):=hij
          have hlw:w.heap.size < wr.heap.size:=(Array.getElem?_eq_some_iff.1 hR).1
          have hyl:dg C j < 65536:=dg_lt (by decide) hatC.1 _
          have hdl:dg D (i + j) < 65536:=dg_lt (by decide) hI.out.lt _
          have hcl:=hI.out.small
          obtain ⟨x,hxe⟩:∃ x,dg A i = x:=⟨_,rfl⟩
          obtain ⟨y,hye⟩:∃ y,dg C j = y:=⟨_,rfl⟩
          obtain ⟨z,hze⟩:∃ z,dg D (i + j) = z:=⟨_,rfl⟩
          rw [hxe] at hxl hcA hs
          rw [hye] at hdg hyl hs
          rw [hze] at c0 hs hdl
          have hxy:x * y ≤ 65535 * 65535:=Nat.mul_le_mul (by omega) (by omega)
          obtain ⟨pr,hpr⟩:∃ pr,x * y = pr:=⟨_,rfl⟩
          rw [hpr] at hs hxy
          have hprI:(x:Int) * (y:Int) = (pr:Int):=by rw [← hpr];simp
          have wp1:IntKind.i64.wrap (pr:Int) = (pr:Int):=by rw [IntKind.wrap_i64];omega
          have wp2:IntKind.i64.wrap ((z:Int) + pr) = (z:Int) + pr:=by rw [IntKind.wrap_i64];omega
          have wp3:IntKind.i64.wrap ((z:Int) + pr + c) = (s:Int):=by rw [IntKind.wrap_i64];omega
          have wij:IntKind.i64.wrap ((i:Int) + j) = ((i + j:Nat):Int):=by rw [IntKind.wrap_i64];omega
          have hrem:Int.tmod (s:Int) 65536 = ((s % 65536:Nat):Int):=by rw [Int.ofNat_tmod];rfl
          have hquo:Int.tdiv (s:Int) 65536 = ((s / 65536:Nat):Int):=by rw [Int.ofNat_tdiv];rfl
          obtain ⟨q,hq⟩:∃ q,s / 65536 = q:=⟨_,rfl⟩
          obtain ⟨t,ht⟩:∃ t,s % 65536 = t:=⟨_,rfl⟩
          obtain ⟨ij,hije⟩:∃ ij,i + j = ij:=⟨_,rfl⟩
          rw [hq] at hquo hnx
          rw [ht] at hrem hnx
          rw [hije] at wij c0 z0 hijm hijA hnx
          have hx1:(ij:Int) < (m:Int):=by omega
          have hx3:(0:Int) ≤ (ij:Int):=by omega
          have hwj:IntKind.i64.wrap ((j:Int) + 1) = (j:Int) + 1:=by rw [IntKind.wrap_i64];omega
          have hgoA:Aside (j < lb ∨ 0 < c):=hgo
          have hq0:q ≤ s:=by rw [← hq];exact Nat.div_le_self _ _
          clear hxe hye hze hs hpr hij hije hq ht hxA hI hxy hgo
          go_upto_region 7 with fail
          go_cut [29] from 22 to 29 (fun s29 wx=>s29 = .bool true ∧ wx = wr)
          case first=>
            by_cases hjl:j < lb
            · have hjI:(j:Int) < (lb:Int):=by omega
              go_wp2
              go_meet
              exact ⟨rfl,rfl⟩
            · have hjI:¬ (j:Int) < (lb:Int):=by omega
              have hcN:0 < c:=by have:=hgoA.out;omega
              go_wp2
              go_meet
              exact ⟨by simp [hcN],rfl⟩
          case rest=>
            obtain ⟨rfl,hwx⟩:=hcut
            subst hwx
            go_upto_region 9 with fail
            refine wp_region_still_tail 17 (by kernel_rfl) (by kernel_rfl) ?_
            simp only [List.take_succ_cons,List.take_zero,List.drop_succ_cons,List.drop_zero,World.drew_eq]
            repeat (with_reducible refine wpStill_step (fun K hK=>?_);go_simp;with_reducible refine hK _ ?_;clear hK K)
            with_reducible refine wpStill_step (fun K hK=>?_)
            go_simp
            refine ⟨_,hdg,?_⟩
            with_reducible refine hK _ ?_
            clear hK K
            repeat (with_reducible refine wpStill_step (fun K hK=>?_);go_simp;with_reducible refine hK _ ?_;clear hK K)
            refine wpStill_nil ?_
            show wpList _ _ _ _ _ _
            go_wp2
            go_roundw
            case rel=>exact ⟨q,j + 1,D.set ij t,rfl,by simp,by omega,IRow.put (hR.kept (below_drew _) hlw) hijA.out,hnx,(hB.drew).setCell (Nat.le_refl _) _⟩
            case measure=>simp [intOf];omega
        · have hc0:c = 0:=by omega
          subst hc0
          have hjI:¬ (j:Int) < (lb:Int):=by omega
          have hdn:Aside (val 65536 D = val 65536 (A.take (i + 1)) * val 65536 C):=hI.out.done (by rw [hAl.out.1];exact hlt) (by rw [hAl.out.2];omega)
          have hDD:Aside ((∀ x ∈ D,x < 65536) ∧ D.length = m):=⟨hI.out.lt,by rw [hI.out.len,hAl.out.1,hAl.out.2];exact hmA.out⟩
          clear hI hgo
          go_wp2
          go_roundw
          case rel=>exact ⟨i + 1,D,by simp,by omega,hR,⟨hDD.out.1,hDD.out.2,hdn.out⟩,hB⟩
          case measure=>simp [intOf];omega
    · obtain rfl:i = la:=by omega
      have hat2:=hR.at hD.out.1
      have htr:=rtrim_calls (some ⟨w.heap.size,0,none⟩) m m wq.heap.size D hD.out.2.1 (by have:=hmA.out;omega) (Nat.le_refl _) wq (Nat.le_refl _) hat2
      have hV:Aside (val 65536 D = val 65536 A * val 65536 C ∧ D.length = m):=by
        have h3:=hD.out.2.2
        rw [← hAl.out.1,List.take_length] at h3
        exact ⟨h3,hD.out.2.1⟩
      clear hD hmk
      go_wp2_with (go_at_call 217;(with_reducible refine htr.mono ?_);rintro e w' ⟨k,rfl,hT,hb2⟩)
      go_ret
      exact ⟨_,rfl,NatR.of_trim hT (by have:=hT.1;have:=hV.out.2;omega) (by have:=hmA.out;unfold maxLen;omega) ((hat2.below hb2 (Nat.le_refl _)).up hb2.size) hV.out.1,hB.trans (hb2.mono hB.size)⟩
end Go.Proofs.YtaloeffmigffaaaGreatDoor
end
section
namespace Go.Proofs.YtaloeffmigffaaaGreatDoor
open Go.RowKit Go.Big
attribute [local go_sem] Heavy.uponW
theorem cmpV_zero (x y:Nat):cmpV x y = 0 ↔ x = y:=by
  unfold cmpV
  split
  · constructor <;> intro h
    · exact absurd h (by decide)
    · omega
  · split
    · constructor <;> intro h
      · exact absurd h (by decide)
      · omega
    · constructor <;> intro h
      · omega
      · rfl
theorem natcmp_calls (r1 r2:Value) (n v1 v2 M:Nat) (hv1:v1 < 65536 ^ M) (hv2:v2 < 65536 ^ M) (hM:M ≤ 1048576) (w:World) (h1:NatR n w r1 v1) (h2:NatR n w r2 v2) :
    Calls Tryz.prog 174 #[r1,r2] w fun e w'=>e = .returned (.int .i64 (cmpV v1 v2)) ∧ w' = w:=by
  obtain ⟨a1,A,cap1,rfl,_,_,hatA,hzA,rfl⟩:=h1
  obtain ⟨a2,C,cap2,rfl,_,_,hatC,hzC,rfl⟩:=h2
  exact rcmp_calls a1 a2 A.length C.length cap1 cap2 n n A C rfl rfl (Nat.lt_of_le_of_lt (Nat.le_trans (hzA.len_of hv1) hM) (by decide)) (Nat.lt_of_le_of_lt (Nat.le_trans (hzC.len_of hv2) hM) (by decide)) w hatA hatC
theorem pow_mul_lt {x y M:Nat} (hx:x < 65536 ^ M) (hy:y < 65536 ^ M):x * y < 65536 ^ (M + M):=by
  rw [Nat.pow_add];exact Nat.mul_lt_mul'' hx hy
set_option maxRecDepth 100000 in
set_option maxHeartbeats 4000000 in
theorem ratcmp_calls (n1 n2:Bool) (r1 r2 s1 s2:Value) (n x1 y1 x2 y2 M:Nat) (hM:M ≤ 50000) (hx1:x1 < 65536 ^ M) (hy1:y1 < 65536 ^ M) (hx2:x2 < 65536 ^ M) (hy2:y2 < 65536 ^ M) (w:World) (hn:n ≤ w.heap.size)
    (h1:NatR n w r1 x1) (h2:NatR n w r2 y1) (h3:NatR n w s1 x2) (h4:NatR n w s2 y2) :
    Calls Tryz.prog 113 #[.agg #[.bool n1,r1,r2],.agg #[.bool n2,s1,s2]] w fun e w'=>(∃ c:Int,e = .returned (.int .i64 c) ∧ (c = 0 ↔ n1 = n2 ∧ x1 * y2 = x2 * y1)) ∧ Below w.heap.size w w':=by
  obtain ⟨hBw,q1,q2,hsz⟩:=two_blocks w (Obj.cells #[.bool n1,r1,r2] 179) (Obj.cells #[.bool n2,s1,s2] 179)
  obtain ⟨wb,hwb⟩:∃ wb,(w.alloc (Obj.cells #[.bool n1,r1,r2] 179)).alloc (Obj.cells #[.bool n2,s1,s2] 179) = wb:=⟨_,rfl⟩
  rw [hwb] at hBw q1 q2 hsz
  have fa:Aside (∀ w2,Below wb.heap.size wb w2 → w2.cell? ⟨w.heap.size,0,none⟩ = some (.bool n1) ∧ w2.cell? ⟨w.heap.size,1,none⟩ = some r1 ∧ w2.cell? ⟨w.heap.size,2,none⟩ = some r2):=fun w2 hb=>by
    have:=(hb.block w.heap.size (by omega)).trans q1
    simp [World.cell?,this]
  have fb:Aside (∀ w2,Below wb.heap.size wb w2 → w2.cell? ⟨w.heap.size + 1,0,none⟩ = some (.bool n2) ∧ w2.cell? ⟨w.heap.size + 1,1,none⟩ = some s1 ∧ w2.cell? ⟨w.heap.size + 1,2,none⟩ = some s2):=fun w2 hb=>by
    have:=(hb.block (w.heap.size + 1) (by omega)).trans q2
    simp [World.cell?,this]
  have m1:=fun w2 (hb:Below w.heap.size w w2)=>rmul_calls r1 s2 n x1 y2 M hx1 hy2 (by omega) w2 (Nat.le_trans hn hb.size) (h1.below hb hn) (h4.below hb hn)
  have m2:=fun w2 (hb:Below w.heap.size w w2)=>rmul_calls s1 r2 n x2 y1 M hx2 hy1 (by omega) w2 (Nat.le_trans hn hb.size) (h3.below hb hn) (h2.below hb hn)
  have b1:=pow_mul_lt hx1 hy2
  have b2:=pow_mul_lt hx2 hy1
  have hM2:M + M ≤ 1048576:=by omega
  obtain ⟨P,hP⟩:∃ P,x1 * y2 = P:=⟨_,rfl⟩
  obtain ⟨Q,hQ⟩:∃ Q,x2 * y1 = Q:=⟨_,rfl⟩
  rw [hP] at b1 m1
  rw [hQ] at b2 m2
  rw [hP,hQ]
  have hPQ:Aside (P < 65536 ^ (M + M) ∧ Q < 65536 ^ (M + M)):=⟨b1,b2⟩
  have hM2A:Aside (M + M ≤ 1048576):=hM2
  clear b1 b2 hP hQ hx1 hy1 hx2 hy2 h1 h2 h3 h4 q1 q2 hM hM2
  go_enter Tryz.func113,Tryz.ntmps113
  go_upto_region 1 with fail
  clear hwb
  go_cut [5,6] from 5 to 16 (fun s5 s6 wx=>NatR wx.heap.size wx s5 P ∧ NatR wx.heap.size wx s6 Q ∧ Below wb.heap.size wb wx)
  case first=>as_aux_lemma=>
    have hBd:Below wb.heap.size wb { wb with drawn:=wb.drawn + 1 }:=below_drew wb
    refine Heavy.region_plan (fun w'=>Below wb.heap.size wb w') 10 (Heavy.lights [0,1,2,3,5,6,7,8] (.one 4 (.one 9 .done))) (by kernel_rfl) (by kernel_rfl) hBd ?_
    simp only [Heavy.lights,List.take_succ_cons,List.take_zero,List.drop_succ_cons,List.drop_zero]
    iterate 8 (apply Heavy.light_n;(exact rfl);(exact rfl);(intro wr2 hw;have x1:=(fa.out wr2 hw).2.1;have x2:=(fa.out wr2 hw).2.2;have y1:=(fb.out wr2 hw).2.1;have y2:=(fb.out wr2 hw).2.2;go_simp;exact rfl)
               refine Heavy.norm_a (by go_simp;exact rfl) ?_)
    apply Heavy.one_n
    · exact rfl
    · exact rfl
    go_simp
    refine (m1 _ (hBw.trans (hBd.mono hBw.size))).mono ?_
    rintro e w3 ⟨u1,rfl,hN1,hb3⟩
    have hB3:Below wb.heap.size wb w3:=hBd.trans hb3
    refine ⟨_,rfl,hB3,?_⟩
    refine Heavy.norm_a (by go_simp;exact rfl) ?_
    apply Heavy.one_n
    · exact rfl
    · exact rfl
    go_simp
    refine (m2 _ (hBw.trans (hB3.mono hBw.size))).mono ?_
    rintro e w4 ⟨u2,rfl,hN2,hb4⟩
    have hB4:=hB3.trans (hb4.mono hB3.size)
    refine ⟨_,rfl,hB4,?_⟩
    refine Heavy.norm_a (by go_simp;exact rfl) ?_
    apply Heavy.plan_end
    show wpList _ _ _ _ _ _
    clear fa fb m1 m2
    go_wp2
    go_meet
    exact ⟨(hN1.below hb4 (Nat.le_refl _)).up hb4.size,hN2,hB4⟩
  case rest=>
    obtain ⟨hN1,hN2,hB⟩:=hcut
    obtain ⟨x0,_,_⟩:=fa.out wc hB
    obtain ⟨y0,_,_⟩:=fb.out wc hB
    have hBB:Below w.heap.size w wc:=hBw.trans (hB.mono hBw.size)
    have c1:=natcmp_calls u6 u5 wc.heap.size Q P (M + M) hPQ.out.2 hPQ.out.1 hM2A.out wc hN2 hN1
    have c2:=natcmp_calls u5 u6 wc.heap.size P Q (M + M) hPQ.out.1 hPQ.out.2 hM2A.out wc hN1 hN2
    have z1:=cmpV_zero Q P
    have z2:=cmpV_zero P Q
    obtain ⟨C1,hC1⟩:∃ C1,cmpV Q P = C1:=⟨_,rfl⟩
    obtain ⟨C2,hC2⟩:∃ C2,cmpV P Q = C2:=⟨_,rfl⟩
    rw [hC1] at c1 z1
    rw [hC2] at c2 z2
    have z1A:Aside (C1 = 0 ↔ Q = P):=z1
    have z2A:Aside (C2 = 0 ↔ P = Q):=z2
    clear fa fb m1 m2 hN1 hN2 hC1 hC2 z1 z2
    cases n1 <;> cases n2
    · go_wp2_with (go_at_call 174;(with_reducible refine c2.mono ?_);rintro e w5 ⟨rfl,rfl⟩)
      go_ret
      exact ⟨⟨C2,rfl,by simpa using z2A.out⟩,hBB⟩
    · go_wp2
      go_ret
      exact ⟨⟨1,rfl,by simp⟩,hBB⟩
    · go_wp2
      go_ret
      exact ⟨⟨-1,rfl,by simp⟩,hBB⟩
    · go_wp2_with (go_at_call 174;(with_reducible refine c1.mono ?_);rintro e w5 ⟨rfl,rfl⟩)
      go_ret
      exact ⟨⟨C1,rfl,by rw [z1A.out];simp [eq_comm]⟩,hBB⟩
end Go.Proofs.YtaloeffmigffaaaGreatDoor
end
