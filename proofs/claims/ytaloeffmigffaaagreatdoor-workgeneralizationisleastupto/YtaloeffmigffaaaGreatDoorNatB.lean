/-
  A part of the proof of the card of WorkGeneralizationIsLeast (second form): lemmas that the text Card uses. No condition of its own.
-/
import Derived.Test.YtaloeffmigffaaaGreatDoorNatA
import Derived.Deep.Cut
import Derived.Deep.CutRange
import Derived.Deep.CutBlock
set_option linter.all false
set_option linter.unusedVariables false
set_option linter.unusedSimpArgs false
section
namespace Go.Proofs.YtaloeffmigffaaaGreatDoor
open Go.RowKit Go.Big
theorem tdiv_nat (T d:Nat) (hT:T < 18446744073709551616):IntKind.u64.wrap (Int.tdiv (T:Int) (d:Int)) = ((T / d:Nat):Int):=by
  have h:=Nat.div_le_self T d
  show IntKind.u64.wrap ((T / d:Nat):Int) = _
  generalize T / d = q at h ⊢
  rw [wrap_u64]
  omega
theorem tmod_nat (T d:Nat) (hT:T < 18446744073709551616):IntKind.u64.wrap (Int.tmod (T:Int) (d:Int)) = ((T % d:Nat):Int):=by
  have h:=Nat.mod_le T d
  show IntKind.u64.wrap ((T % d:Nat):Int) = _
  generalize T % d = q at h ⊢
  rw [wrap_u64]
  omega
set_option maxRecDepth 100000 in
set_option maxHeartbeats 4000000 in
theorem digit_calls (bu off bv offv m capu capv:Nat) (lo us hi vs:List Nat) (un:Nat) (hm:m < 1073741824) (hun:un < 4294967296) (husB:∀ x ∈ us,x < 4294967296) (hvsB:∀ x ∈ vs,x < 4294967296) (hv1p:∀ x,vs[m + 1]? = some x → 0 < x) (hlo:lo.length = off) (hus:us.length = m + 2) (hvs:vs.length = m + 2) (w:World) (hu:DRow w bu (lo ++ us ++ un :: hi)) (hne:bu ≠ bv)
    (hv:∀ (j x:Nat),vs[j]? = some x → w.cell? ⟨bv,offv + j,none⟩ = some (.int .u32 x)) (hUV0:val 4294967296 us + 4294967296 ^ (m + 2) * un < 4294967296 * val 4294967296 vs) :
    Calls Tryz.prog 270 #[.slice (some ⟨bu,off,none⟩) (m + 2 + 1) capu,.slice (some ⟨bv,offv,none⟩) (m + 2) capv] w fun e w'=>∃ (q:Nat) (es:List Nat),e = .returned (.int .u32 q) ∧ q < 4294967296 ∧ es.length = m + 2 ∧ (∀ x ∈ es,x < 4294967296) ∧ val 4294967296 us + 4294967296 ^ (m + 2) * un = q * val 4294967296 vs + val 4294967296 es ∧ val 4294967296 es < val 4294967296 vs ∧ DRow w' bu (lo ++ es ++ 0 :: hi) ∧ Only bu w w':=by
  obtain ⟨u1,h1⟩:∃ x,us[m + 1]? = some x:=⟨_,List.getElem?_eq_getElem (by omega)⟩
  obtain ⟨u2,h2⟩:∃ x,us[m]? = some x:=⟨_,List.getElem?_eq_getElem (by omega)⟩
  obtain ⟨v1,h3⟩:∃ x,vs[m + 1]? = some x:=⟨_,List.getElem?_eq_getElem (by omega)⟩
  obtain ⟨v2,h4⟩:∃ x,vs[m]? = some x:=⟨_,List.getElem?_eq_getElem (by omega)⟩
  have c0:=(hu.cell (k:=off + (m + 2)) (x:=un) (by rw [List.append_assoc,List.getElem?_append_right (by omega),hlo,Nat.add_sub_cancel_left,List.getElem?_append_right (by omega),hus,Nat.sub_self];rfl)).1
  have c1:=(hu.cell (k:=off + (m + 1)) (x:=u1) (by rw [List.append_assoc,List.getElem?_append_right (by omega),hlo,Nat.add_sub_cancel_left,List.getElem?_append_left (by omega)];exact h1)).1
  have c2:=(hu.cell (k:=off + m) (x:=u2) (by rw [List.append_assoc,List.getElem?_append_right (by omega),hlo,Nat.add_sub_cancel_left,List.getElem?_append_left (by omega)];exact h2)).1
  have d1:=hv _ _ h3
  have d2:=hv _ _ h4
  have hw0:IntKind.i64.wrap ((m:Int) + 2) = (m:Int) + 2:=by rw [IntKind.wrap_i64];omega
  have hw1:IntKind.i64.wrap ((m:Int) + 1) = (m:Int) + 1:=by rw [IntKind.wrap_i64];omega
  have hw2:IntKind.i64.wrap (m:Int) = (m:Int):=by rw [IntKind.wrap_i64];omega
  have hi1:(m:Int) + 2 < (m:Int) + 2 + 1:=by omega
  have hi2:(0:Int) ≤ (m:Int) + 2:=by omega
  have hi3:(0:Int) ≤ (m:Int) + 1:=by omega
  have hi4:(m:Int) + 1 < (m:Int) + 2 + 1:=by omega
  have hi5:(m:Int) + 1 < (m:Int) + 2:=by omega
  have hi6:(m:Int) < (m:Int) + 2:=by omega
  have hi7:(0:Int) ≤ (m:Int):=by omega
  have hi8:(m:Int) < (m:Int) + 2 + 1:=by omega
  have hu1:=husB u1 (List.mem_of_getElem? h1)
  have hu2:=husB u2 (List.mem_of_getElem? h2)
  have hv1:=hvsB v1 (List.mem_of_getElem? h3)
  have hv2:=hvsB v2 (List.mem_of_getElem? h4)
  have k1:IntKind.u64.wrap (un:Int) = un:=by rw [wrap_u64];omega
  have k2:IntKind.u64.wrap ((un:Int) * 4294967296) = (un:Int) * 4294967296:=by rw [wrap_u64];omega
  have k3:IntKind.i64.wrap ((m:Int) + 2 - 1) = (m:Int) + 1:=by rw [IntKind.wrap_i64];omega
  have k4:IntKind.u64.wrap (u1:Int) = u1:=by rw [wrap_u64];omega
  have k5:=bits_or_shift un u1 hun hu1
  have k6:IntKind.u64.wrap (v1:Int) = v1:=by rw [wrap_u64];omega
  have hvp:=hv1p v1 h3
  have k7:¬ ((v1:Int) = 0):=by omega
  have k8:((v1:Int) == 0) = false:=by simp;omega
  clear hv1p
  have k9:¬ v1 = 0:=by omega
  obtain ⟨tp,htp⟩:∃ tp:Nat,tp = un * 4294967296 + u1:=⟨_,rfl⟩
  have hT:(un:Int) * 4294967296 + (u1:Int) = (tp:Int):=by rw [htp];omega
  rw [hT] at k5
  have htB:tp < 18446744073709551616:=by omega
  obtain ⟨g0,hg0⟩:∃ g0,g0 = tp / v1:=⟨_,rfl⟩
  obtain ⟨r0,hr0⟩:∃ r0,r0 = tp % v1:=⟨_,rfl⟩
  have ka:IntKind.u64.wrap ((tp:Int) / (v1:Int)) = (g0:Int):=by
    rw [hg0];exact tdiv_nat tp v1 htB
  have kb:Int.tmod (tp:Int) (v1:Int) = (r0:Int):=by
    rw [hr0];rfl
  have Agr:Aside (g0 = tp / v1 ∧ r0 = tp % v1):=⟨hg0,hr0⟩
  clear hg0 hr0
  have Atp:Aside (tp = un * 4294967296 + u1):=htp
  clear htp hT
  have kc:IntKind.i64.wrap ((m:Int) + 2 - 2) = (m:Int):=by rw [IntKind.wrap_i64];omega
  have kd:IntKind.u64.wrap (v2:Int) = v2:=by rw [wrap_u64];omega
  have ke:IntKind.u64.wrap (u2:Int) = u2:=by rw [wrap_u64];omega
  have ht0:((m:Int) + 2).toNat = m + 2:=by omega
  have ht1:((m:Int) + 1).toNat = m + 1:=by omega
  have hKeep:Aside (DRow w bu (lo ++ us ++ un :: hi) ∧ (∀ (j x:Nat),vs[j]? = some x → w.cell? ⟨bv,offv + j,none⟩ = some (.int .u32 x)) ∧ val 4294967296 us + 4294967296 ^ (m + 2) * un < 4294967296 * val 4294967296 vs):=⟨hu,hv,hUV0⟩
  have hVal:Aside (v1 * 4294967296 ^ (m + 1) + v2 * 4294967296 ^ m + val 4294967296 (vs.take m) = val 4294967296 vs ∧ tp * 4294967296 ^ (m + 1) + u2 * 4294967296 ^ m + val 4294967296 (us.take m) = val 4294967296 us + 4294967296 ^ (m + 2) * un):=by
    refine ⟨(val_top2 hvs h3 h4).symm,?_⟩
    rw [val_top2 (B:=4294967296) hus h1 h2,Atp.out,Nat.add_mul,Nat.pow_succ 4294967296 (m + 1),Nat.mul_comm (4294967296 ^ (m + 1)) 4294967296,Nat.mul_comm _ un,← Nat.mul_assoc]
    omega
  clear h1 h2 h3 h4 hv hu hUV0
  go_enter Tryz.func270,Tryz.ntmps270
  go_wp2
  refine wp_region_still_tail 13 (by kernel_rfl) (by kernel_rfl) ?_
  simp only [List.take_succ_cons,List.take_zero,List.drop_succ_cons,List.drop_zero,World.drew_eq]
  repeat (with_reducible refine wpStill_step (fun K hK=>?_);go_simp;with_reducible refine hK _ ?_;clear hK K)
  refine wpStill_nil ?_
  show wpList _ _ _ _ _ _
  go_wp2
  refine wp_region_still_tail 17 (by kernel_rfl) (by kernel_rfl) ?_
  simp only [List.take_succ_cons,List.take_zero,List.drop_succ_cons,List.drop_zero,World.drew_eq]
  repeat (with_reducible refine wpStill_step (fun K hK=>?_);go_simp;with_reducible refine hK _ ?_;clear hK K)
  refine wpStill_nil ?_
  show wpList _ _ _ _ _ _
  go_upto_block 0 with fail
  go_cut [7,8] from 46 to 81 (fun s7 s8 wc=>∃ g r:Nat,s7 = .int .u64 g ∧ s8 = .int .u64 r ∧ Below w.heap.size w wc ∧ g < 4294967296 ∧ Guess (v1 * 4294967296 ^ (m + 1) + v2 * 4294967296 ^ m + val 4294967296 (vs.take m)) (tp * 4294967296 ^ (m + 1) + u2 * 4294967296 ^ m + val 4294967296 (us.take m)) g)
  case first=>
    have hP:(4294967296:Nat) ^ (m + 1) = 4294967296 * 4294967296 ^ m:=by rw [Nat.pow_succ,Nat.mul_comm]
    have hU3:val 4294967296 (us.take m) < 4294967296 ^ m:=by
      have:=val_lt (B:=4294967296) (a:=us.take m) fun x hx=>husB x (List.mem_of_mem_take hx)
      rwa [List.length_take,show min m us.length = m by omega] at this
    have hV3:val 4294967296 (vs.take m) < 4294967296 ^ m:=by
      have:=val_lt (B:=4294967296) (a:=vs.take m) fun x hx=>hvsB x (List.mem_of_mem_take hx)
      rwa [List.length_take,show min m vs.length = m by omega] at this
    have hUV:tp * 4294967296 ^ (m + 1) + u2 * 4294967296 ^ m + val 4294967296 (us.take m) < 4294967296 * (v1 * 4294967296 ^ (m + 1) + v2 * 4294967296 ^ m + val 4294967296 (vs.take m)):=by rw [hVal.out.1,hVal.out.2];exact hKeep.out.2.2
    have AP:Aside ((4294967296:Nat) ^ (m + 1) = 4294967296 * 4294967296 ^ m):=hP
    clear hP
    go_wp2_with fail
    go_loopw [7,8] (fun s7 s8 wr=>∃ g r:Nat,s7 = .int .u64 g ∧ s8 = .int .u64 r ∧ Below w.heap.size w wr ∧ Gue 4294967296 (4294967296 ^ (m + 1)) (4294967296 ^ m) v1 v2 (val 4294967296 (vs.take m)) tp u2 (val 4294967296 (us.take m)) g r ∧ g < 18446744073709551616 ∧ r < 4294967296) (fun s7 _ _=>(intOf s7).toNat)
    case atStart=>exact ⟨g0,r0,rfl,rfl,⟨rfl,rfl,rfl,Nat.le_refl _,fun _ _=>rfl⟩,by rw [Agr.out.1,Agr.out.2];exact Gue.start AP.out hvp hu2 hU3,by have:=Agr.out.1;have:=Nat.div_le_self tp v1;omega,by have:=Agr.out.2;have:=Nat.mod_lt tp hvp;omega⟩
    case round=>
      obtain ⟨g,r,rfl,rfl,hB,hG,hg64,hr64⟩:=hrel
      have e0:wr.cell? ⟨bv,offv + (m + 1),none⟩ = some (.int .u32 v1):=(hB.cell (p:=⟨bv,offv + (m + 1),none⟩) (block_lt_of_cell d1)).trans d1
      have e1:wr.cell? ⟨bv,offv + m,none⟩ = some (.int .u32 v2):=(hB.cell (p:=⟨bv,offv + m,none⟩) (block_lt_of_cell d2)).trans d2
      have e2:wr.cell? ⟨bu,off + m,none⟩ = some (.int .u32 u2):=(hB.cell (p:=⟨bu,off + m,none⟩) (block_lt_of_cell c2)).trans c2
      have hBd:Below w.heap.size w wr.drew:=hB.trans ⟨rfl,rfl,rfl,Nat.le_refl _,fun _ _=>rfl⟩
      by_cases hgB:g < 4294967296
      · have hq:(g:Int) / 4294967296 = 0:=by omega
        have hmul:g * v2 < 18446744073709551616:=Nat.lt_of_le_of_lt (Nat.mul_le_mul (show g ≤ 4294967295 by omega) (show v2 ≤ 4294967295 by omega)) (by decide)
        obtain ⟨gv,hgv⟩:∃ gv:Nat,gv = g * v2:=⟨_,rfl⟩
        have m1:IntKind.u64.wrap ((g:Int) * (v2:Int)) = (gv:Int):=by
          have:(g:Int) * (v2:Int) = (gv:Int):=by rw [hgv];simp
          rw [this,wrap_u64];omega
        obtain ⟨rv,hrv⟩:∃ rv:Nat,rv = r * 4294967296 + u2:=⟨_,rfl⟩
        have m2:IntKind.u64.wrap ((r:Int) * 4294967296) = (r:Int) * 4294967296:=by rw [wrap_u64];omega
        have m3:bits BinOp.or IntKind.u64 ((r:Int) * 4294967296) (u2:Int) = (rv:Int):=by
          rw [bits_or_shift r u2 hr64 hu2,hrv];simp
        have Agv:Aside (gv = g * v2 ∧ rv = r * 4294967296 + u2):=⟨hgv,hrv⟩
        clear hgv hrv hmul
        by_cases hlt:rv < gv
        · have hli:(rv:Int) < (gv:Int):=by omega
          have hless:=hG.less AP.out hU3 hUV (.inr (by have:=Agv.out;omega))
          have hgp:=hless.1
          obtain ⟨g1,hg1⟩:∃ g1:Nat,g1 = g - 1:=⟨_,rfl⟩
          have kg:IntKind.u64.wrap ((g:Int) - 1) = (g1:Int):=by rw [wrap_u64];omega
          have kr:IntKind.u64.wrap ((r:Int) + (v1:Int)) = (r:Int) + (v1:Int):=by rw [wrap_u64];omega
          have hG1:=hless.2
          rw [← hg1] at hG1
          have Ag1:Aside (g1 = g - 1):=hg1
          clear hless hg1
          by_cases hrv:r + v1 < 4294967296
          · have hq2:((r:Int) + (v1:Int)) / 4294967296 = 0:=by omega
            go_wp2
            refine wp_region_still_tail 22 (by kernel_rfl) (by kernel_rfl) ?_
            simp only [List.take_succ_cons,List.take_zero,List.drop_succ_cons,List.drop_zero,World.drew_eq]
            repeat (with_reducible refine wpStill_step (fun K hK=>?_);go_simp;with_reducible refine hK _ ?_;clear hK K)
            refine wpStill_nil ?_
            show wpList _ _ _ _ _ _
            go_wp2
            exact ⟨⟨g1,r + v1,rfl,by simp,hBd,hG1,by have:=Ag1.out;omega,hrv⟩,by have:=Ag1.out;simp [intOf];omega⟩
          · have hq2:(0:Int) < ((r:Int) + (v1:Int)) / 4294967296:=by omega
            have hbr:=hG1.breaks AP.out hvp hv2 hV3 hUV (by omega)
            go_wp2
            refine wp_region_still_tail 22 (by kernel_rfl) (by kernel_rfl) ?_
            simp only [List.take_succ_cons,List.take_zero,List.drop_succ_cons,List.drop_zero,World.drew_eq]
            repeat (with_reducible refine wpStill_step (fun K hK=>?_);go_simp;with_reducible refine hK _ ?_;clear hK K)
            refine wpStill_nil ?_
            show wpList _ _ _ _ _ _
            go_wp2
            go_meet
            exact ⟨g1,r + v1,rfl,by simp,hBd,hbr.1,hbr.2⟩
        · have hli:¬ (rv:Int) < (gv:Int):=by omega
          go_wp2
          refine wp_region_still_tail 22 (by kernel_rfl) (by kernel_rfl) ?_
          simp only [List.take_succ_cons,List.take_zero,List.drop_succ_cons,List.drop_zero,World.drew_eq]
          repeat (with_reducible refine wpStill_step (fun K hK=>?_);go_simp;with_reducible refine hK _ ?_;clear hK K)
          refine wpStill_nil ?_
          show wpList _ _ _ _ _ _
          go_wp2
          go_meet
          exact ⟨g,r,rfl,rfl,hBd,hgB,hG.ends AP.out hvp hV3 hgB (by have:=Agv.out;omega)⟩
      · have hq:(0:Int) < (g:Int) / 4294967296:=by omega
        have hless:=hG.less AP.out hU3 hUV (.inl (by omega))
        have hgp:=hless.1
        obtain ⟨g1,hg1⟩:∃ g1:Nat,g1 = g - 1:=⟨_,rfl⟩
        have kg:IntKind.u64.wrap ((g:Int) - 1) = (g1:Int):=by rw [wrap_u64];omega
        have kr:IntKind.u64.wrap ((r:Int) + (v1:Int)) = (r:Int) + (v1:Int):=by rw [wrap_u64];omega
        have hG1:=hless.2
        rw [← hg1] at hG1
        have Ag1:Aside (g1 = g - 1):=hg1
        clear hless hg1
        by_cases hrv:r + v1 < 4294967296
        · have hq2:((r:Int) + (v1:Int)) / 4294967296 = 0:=by omega
          go_wp2
          refine wp_region_still_tail 22 (by kernel_rfl) (by kernel_rfl) ?_
          simp only [List.take_succ_cons,List.take_zero,List.drop_succ_cons,List.drop_zero,World.drew_eq]
          repeat (with_reducible refine wpStill_step (fun K hK=>?_);go_simp;with_reducible refine hK _ ?_;clear hK K)
          refine wpStill_nil ?_
          show wpList _ _ _ _ _ _
          go_wp2
          exact ⟨⟨g1,r + v1,rfl,by simp,hBd,hG1,by have:=Ag1.out;omega,hrv⟩,by have:=Ag1.out;simp [intOf];omega⟩
        · have hq2:(0:Int) < ((r:Int) + (v1:Int)) / 4294967296:=by omega
          have hbr:=hG1.breaks AP.out hvp hv2 hV3 hUV (by omega)
          go_wp2
          refine wp_region_still_tail 22 (by kernel_rfl) (by kernel_rfl) ?_
          simp only [List.take_succ_cons,List.take_zero,List.drop_succ_cons,List.drop_zero,World.drew_eq]
          repeat (with_reducible refine wpStill_step (fun K hK=>?_);go_simp;with_reducible refine hK _ ?_;clear hK K)
          refine wpStill_nil ?_
          show wpList _ _ _ _ _ _
          go_wp2
          go_meet
          exact ⟨g1,r + v1,rfl,by simp,hBd,hbr.1,hbr.2⟩
  case rest=>
    obtain ⟨g,r,rfl,rfl,hBc,hg32,hGs⟩:=hcut
    rw [hVal.out.1,hVal.out.2] at hGs
    obtain ⟨wd,rfl⟩:∃ wd,wd = wc:=⟨_,rfl⟩
    have hRd:DRow wd bu (lo ++ us ++ un :: hi):=(hBc.block bu (Array.getElem?_eq_some_iff.1 hKeep.out.1).1).trans hKeep.out.1
    have hvd:∀ (j x:Nat),vs[j]? = some x → wd.cell? ⟨bv,offv + j,none⟩ = some (.int .u32 x):=fun j x hx=>(hBc.cell (p:=⟨bv,offv + j,none⟩) (block_lt_of_cell (hKeep.out.2.1 j x hx))).trans (hKeep.out.2.1 j x hx)
    have hO0:Only bu w wd:=Only.of_below hBc
    have hGa:Aside (Guess (val 4294967296 vs) (val 4294967296 us + 4294967296 ^ (m + 2) * un) g):=hGs
    have hVp:Aside (0 < val 4294967296 vs):=by
      show 0 < _
      rw [← hVal.out.1]
      have:1 * 1 ≤ v1 * 4294967296 ^ (m + 1):=Nat.mul_le_mul (by omega) (Nat.pow_pos (by decide))
      omega
    have hRa:Aside (DRow wd bu (lo ++ us ++ un :: hi)):=hRd
    clear hGs hRd c0 c1 c2 d1 d2 k2 k4 k5 k6 k7 k8 ka kb kd ke hBc
    go_wp2_with fail
    go_loopw [9,10,84] (fun s9 s10 s84 wr=>∃ (k b c:Nat) (ds:List Nat),s84 = .int .i64 k ∧ s9 = .int .u64 b ∧ s10 = .int .u64 c ∧ k ≤ m + 2 ∧ c < 4294967296 ∧ b ≤ 1 ∧ Aside (ds.length = k ∧ MulSub 4294967296 g (us.take k) (vs.take k) ds c b) ∧ DRow wr bu (lo ++ ds ++ us.drop k ++ un :: hi) ∧ Only bu wd wr) (fun _ _ s _=>m + 2 - (intOf s).toNat)
    case atStart=>exact ⟨0,0,0,[],rfl,rfl,rfl,Nat.zero_le _,by omega,by omega,⟨rfl,by simpa using MulSub.nil⟩,by simpa using hRa.out,Only.refl _ _⟩
    case round=>
      obtain ⟨k,b,c,ds,rfl,rfl,rfl,hk,hcB,hb1,hms,hR,hO⟩:=hrel
      by_cases hlt:k < m + 2
      · obtain ⟨x,hx⟩:∃ x,us[k]? = some x:=⟨_,List.getElem?_eq_getElem (by omega)⟩
        obtain ⟨y,hy⟩:∃ y,vs[k]? = some y:=⟨_,List.getElem?_eq_getElem (by omega)⟩
        have hxB:=husB x (List.mem_of_getElem? hx)
        have hyB:=hvsB y (List.mem_of_getElem? hy)
        have cy:wr.cell? ⟨bv,offv + k,none⟩ = some (.int .u32 y):=(hO.cell (p:=⟨bv,offv + k,none⟩) (block_lt_of_cell (hvd _ _ hy)) (Ne.symm hne)).trans (hvd _ _ hy)
        have cx:=hR.cell (row_get (rest:=un :: hi) hlo hms.out.1 hx)
        obtain ⟨cx1,cx2⟩:=cx
        obtain ⟨gy,hgy⟩:∃ gy:Nat,gy = g * y:=⟨_,rfl⟩
        have hgyB:gy ≤ 4294967295 * 4294967295:=by rw [hgy];exact Nat.mul_le_mul (by omega) (by omega)
        obtain ⟨cg,hcg⟩:∃ cg:Nat,cg = c + gy:=⟨_,rfl⟩
        obtain ⟨lw,hlw⟩:∃ lw:Nat,lw = cg % 4294967296:=⟨_,rfl⟩
        obtain ⟨c',hc'⟩:∃ c':Nat,c' = cg / 4294967296:=⟨_,rfl⟩
        obtain ⟨b',d,hb',hdB,he,t1,t2,q,ht1,ht2,hq,hq1,hd32⟩:=sub_step x lw b hxB (by omega) hb1
        have m1:IntKind.u64.wrap (y:Int) = (y:Int):=by rw [wrap_u64];omega
        have m2:IntKind.u64.wrap ((g:Int) * (y:Int)) = (gy:Int):=by
          have e:(g:Int) * (y:Int) = (gy:Int):=by rw [hgy];simp
          rw [e,wrap_u64];omega
        have m3:IntKind.u64.wrap ((c:Int) + (gy:Int)) = (cg:Int):=by rw [wrap_u64];omega
        have m4:IntKind.u64.wrap (x:Int) = (x:Int):=by rw [wrap_u64];omega
        have m5:IntKind.u32.wrap (cg:Int) = (lw:Int):=by rw [wrap_u32];omega
        have m6:IntKind.u64.wrap (lw:Int) = (lw:Int):=by rw [wrap_u64];omega
        have m7:(cg:Int) / 4294967296 = (c':Int):=by omega
        have hi1':(k:Int) < (m:Int) + 2:=by omega
        have hi2':(0:Int) ≤ (k:Int):=by omega
        have hi3':(k:Int) < (m:Int) + 2 + 1:=by omega
        have hwk:IntKind.i64.wrap ((k:Int) + 1) = (k:Int) + 1:=by rw [IntKind.wrap_i64];omega
        have hms2:Aside ((ds ++ [d]).length = k + 1 ∧ MulSub 4294967296 g (us.take (k + 1)) (vs.take (k + 1)) (ds ++ [d]) c' b'):=by
          refine ⟨by rw [List.length_append,hms.out.1];rfl,?_⟩
          rw [take_snoc hx,take_snoc hy,hc',hcg,hgy]
          refine MulSub.snoc hms.out.2 hdB hb' ?_
          rw [he,hlw,hcg,hgy]
        have hR2:DRow (wr.setCell ⟨bu,off + k,none⟩ (.int .u32 d)) bu (lo ++ (ds ++ [d]) ++ us.drop (k + 1) ++ un :: hi):=by
          have:=hR.set (k:=off + k) (d:=d)
          rwa [row_set hlo hms.out.1 hx] at this
        have hO2:=hO.trans (Only.set wr bu (off + k) (.int .u32 d))
        have hc'B:Aside (c' < 4294967296):=by show _ < _;omega
        have hb'A:Aside (b' ≤ 1):=hb'
        have hkA:Aside (k < m + 2):=hlt
        clear hgy hcg hlw hc' hx hy hxB hyB he hb' hdB hR hO hlt hgyB
        go_wp2_with fail
        exact ⟨⟨k + 1,b',c',ds ++ [d],by simp,rfl,rfl,by have:=hkA.out;omega,hc'B.out,hb'A.out,hms2,hR2,hO2⟩,by have:=hkA.out;simp [intOf];omega⟩
      · obtain rfl:k = m + 2:=by omega
        obtain ⟨hdl,hM⟩:=hms.out
        rw [List.take_of_length_le (by omega),List.take_of_length_le (by omega)] at hM
        have hR1:DRow wr bu (lo ++ ds ++ un :: hi):=by
          rw [List.drop_of_length_le (by omega),List.append_nil] at hR;exact hR
        obtain ⟨cn1,cn2⟩:=hR1.cell (row_last (d:=0) hlo hdl).1
        obtain ⟨b'',dn,hb'',hdnB,hen,t1,t2,q,ht1,ht2,hq,hq1,hd32⟩:=sub_step un c b hun hcB hb1
        have hset:=hR1.set (k:=off + (m + 2)) (d:=dn)
        rw [(row_last (d:=dn) hlo hdl).2] at hset
        have hOs:=(hO0.trans hO).trans (Only.set wr bu (off + (m + 2)) (.int .u32 dn))
        have hOs1:=hO.trans (Only.set wr bu (off + (m + 2)) (.int .u32 dn))
        have m4:IntKind.u64.wrap (un:Int) = (un:Int):=by rw [wrap_u64];omega
        have mg:IntKind.u32.wrap (g:Int) = (g:Int):=by rw [wrap_u32];omega
        have hMA:Aside (MulSub 4294967296 g us vs ds c b ∧ ds.length = m + 2):=⟨hM,hdl⟩
        have hUe:val 4294967296 us + 4294967296 ^ (m + 2) * un = val 4294967296 us + 4294967296 ^ (m + 2) * un:=rfl
        by_cases hb0:b'' = 0
        · subst hb0
          obtain ⟨g1,g2,g3⟩:=guess_right (B:=4294967296) (n:=m + 2) (un:=un) rfl hvs.symm rfl hvsB hM hGa.out hVp.out (by omega)
          have hds:=hM.spec.2.2.2.1
          obtain rfl:dn = 0:=by omega
          have hFin:Aside (val 4294967296 us + 4294967296 ^ (m + 2) * un = g * val 4294967296 vs + val 4294967296 ds ∧ val 4294967296 ds < val 4294967296 vs ∧ (∀ x ∈ ds,x < 4294967296)):=⟨g1,g2,hds⟩
          clear hM hdl hR hen g1 g2 g3 hds hUe hvd hms
          go_wp2_with fail
          go_ret
          exact ⟨g,ds,rfl,hg32,hMA.out.2,hFin.out.2.2,hFin.out.1,hFin.out.2.1,hset,hOs⟩
        · obtain rfl:b'' = 1:=by omega
          have hcu:Aside (un < c + b ∧ un + 1 * 4294967296 = dn + c + b):=⟨by omega,hen⟩
          clear hen hUe hms hR hM hdl
          go_upto_block 4 with fail
          have hsetA:Aside (DRow (wr.setCell ⟨bu,off + (m + 2),none⟩ (.int .u32 dn)) bu (lo ++ ds ++ dn :: hi) ∧ Only bu w (wr.setCell ⟨bu,off + (m + 2),none⟩ (.int .u32 dn))):=⟨hset,hOs⟩
          obtain ⟨we,hwe⟩:∃ we,wr.setCell ⟨bu,off + (m + 2),none⟩ (.int .u32 dn) = we:=⟨_,rfl⟩
          rw [hwe] at hsetA hOs1 ⊢
          have hve:∀ (j x:Nat),vs[j]? = some x → we.cell? ⟨bv,offv + j,none⟩ = some (.int .u32 x):=fun j x hx=>(hOs1.cell (p:=⟨bv,offv + j,none⟩) (block_lt_of_cell (hvd _ _ hx)) (Ne.symm hne)).trans (hvd _ _ hx)
          clear hwe hset hOs hOs1 hR1 hO hvd cn1 cn2 ht1 ht2 hq hq1 hd32
          go_wp2_with fail
          go_loopw [10,140] (fun s10 s140 wr=>∃ (k ca:Nat) (es:List Nat),s140 = .int .i64 k ∧ s10 = .int .u64 ca ∧ k ≤ m + 2 ∧ ca ≤ 1 ∧ Aside (es.length = k ∧ AddD 4294967296 (ds.take k) (vs.take k) es ca) ∧ DRow wr bu (lo ++ es ++ ds.drop k ++ dn :: hi) ∧ Only bu we wr) (fun _ s _=>m + 2 - (intOf s).toNat)
          case atStart=>exact ⟨0,0,[],rfl,rfl,Nat.zero_le _,by omega,⟨rfl,by simpa using AddD.nil⟩,by simpa using hsetA.out.1,Only.refl _ _⟩
          case round=>
            obtain ⟨k,ca,es,rfl,rfl,hk,hca,hes,hR,hO⟩:=hrel
            by_cases hlt:k < m + 2
            · obtain ⟨x,hx⟩:∃ x,ds[k]? = some x:=⟨_,List.getElem?_eq_getElem (by have:=hMA.out.2;omega)⟩
              obtain ⟨y,hy⟩:∃ y,vs[k]? = some y:=⟨_,List.getElem?_eq_getElem (by omega)⟩
              have hxB:=hMA.out.1.spec.2.2.2.1 x (List.mem_of_getElem? hx)
              have hyB:=hvsB y (List.mem_of_getElem? hy)
              have cy:wr.cell? ⟨bv,offv + k,none⟩ = some (.int .u32 y):=(hO.cell (p:=⟨bv,offv + k,none⟩) (block_lt_of_cell (hve _ _ hy)) (Ne.symm hne)).trans (hve _ _ hy)
              obtain ⟨cx1,cx2⟩:=hR.cell (row_get (rest:=dn :: hi) hlo hes.out.1 hx)
              obtain ⟨sm,hsm⟩:∃ sm:Nat,sm = x + y + ca:=⟨_,rfl⟩
              obtain ⟨d,hd⟩:∃ d:Nat,d = sm % 4294967296:=⟨_,rfl⟩
              obtain ⟨c',hc'⟩:∃ c':Nat,c' = sm / 4294967296:=⟨_,rfl⟩
              have m1:IntKind.u64.wrap (y:Int) = (y:Int):=by rw [wrap_u64];omega
              have m2:IntKind.u64.wrap (x:Int) = (x:Int):=by rw [wrap_u64];omega
              have m3:IntKind.u64.wrap ((x:Int) + (y:Int)) = (x:Int) + (y:Int):=by rw [wrap_u64];omega
              have m5:IntKind.u64.wrap ((ca:Int) + ((x:Int) + (y:Int))) = (sm:Int):=by rw [wrap_u64];omega
              have m6:IntKind.u32.wrap (sm:Int) = (d:Int):=by rw [wrap_u32];omega
              have m7:(sm:Int) / 4294967296 = (c':Int):=by omega
              have hi1':(k:Int) < (m:Int) + 2:=by omega
              have hi2':(0:Int) ≤ (k:Int):=by omega
              have hi3':(k:Int) < (m:Int) + 2 + 1:=by omega
              have hwk:IntKind.i64.wrap ((k:Int) + 1) = (k:Int) + 1:=by rw [IntKind.wrap_i64];omega
              have hes2:Aside ((es ++ [d]).length = k + 1 ∧ AddD 4294967296 (ds.take (k + 1)) (vs.take (k + 1)) (es ++ [d]) c'):=by
                refine ⟨by rw [List.length_append,hes.out.1];rfl,?_⟩
                rw [take_snoc hx,take_snoc hy]
                exact AddD.snoc hes.out.2 (by omega) (by omega)
              have hRd:DRow wr.drew bu (lo ++ es ++ ds.drop k ++ dn :: hi):=hR
              have hR2:DRow (wr.drew.setCell ⟨bu,off + k,none⟩ (.int .u32 d)) bu (lo ++ (es ++ [d]) ++ ds.drop (k + 1) ++ dn :: hi):=by
                have:=hRd.set (k:=off + k) (d:=d)
                rwa [row_set hlo hes.out.1 hx] at this
              have hO2:=(hO.trans (Only.drew bu wr)).trans (Only.set wr.drew bu (off + k) (.int .u32 d))
              have hc'A:Aside (c' ≤ 1):=by show _ ≤ _;omega
              have hkA:Aside (k < m + 2):=hlt
              clear hsm hd hc' hx hy hxB hyB hR hO hlt hca hRd
              go_wp2_with fail
              refine wp_region_still_tail 13 (by kernel_rfl) (by kernel_rfl) ?_
              simp only [List.take_succ_cons,List.take_zero,List.drop_succ_cons,List.drop_zero,World.drew_eq]
              repeat (with_reducible refine wpStill_step (fun K hK=>?_);go_simp;with_reducible refine hK _ ?_;clear hK K)
              refine wpStill_nil ?_
              show wpList _ _ _ _ _ _
              go_wp2_with fail
              refine ⟨?_,?measure⟩
              · repeat with_reducible apply Exists.intro
                refine ⟨?rel,rfl⟩
                exact ⟨k + 1,c',es ++ [d],by simp,rfl,by have:=hkA.out;omega,hc'A.out,hes2,hR2,hO2⟩
              case measure=>
                show m + 2 - ((k:Int) + 1).toNat < m + 2 - (k:Int).toNat
                have:=hkA.out;omega
            · obtain rfl:k = m + 2:=by omega
              obtain ⟨hel,hA⟩:=hes.out
              rw [List.take_of_length_le (by have:=hMA.out.2;omega),List.take_of_length_le (by omega)] at hA
              have hR1:DRow wr bu (lo ++ es ++ dn :: hi):=by
                rw [List.drop_of_length_le (by have:=hMA.out.2;omega),List.append_nil] at hR;exact hR
              obtain ⟨hg0,g1,g2,g3,g4⟩:=guess_back (B:=4294967296) (n:=m + 2) (un:=un) (by decide) rfl hvs.symm rfl hvsB hMA.out.1 hGa.out hVp.out hcu.out.1 hA
              subst g3
              have hdn:dn = 4294967295:=by have:=hcu.out.2;omega
              subst hdn
              have hesB:=hA.spec.2.2.1
              obtain ⟨cn1,cn2⟩:=hR1.cell (row_last (d:=0) hlo hel).1
              have hset:=hR1.set (k:=off + (m + 2)) (d:=0)
              rw [(row_last (d:=0) hlo hel).2] at hset
              have hOs:=(hsetA.out.2.trans hO).trans (Only.set wr bu (off + (m + 2)) (.int .u32 (0:Nat)))
              obtain ⟨gq,hgq⟩:∃ gq:Nat,gq = g - 1:=⟨_,rfl⟩
              have m6:IntKind.u64.wrap ((g:Int) - 1) = (gq:Int):=by rw [wrap_u64];omega
              have m7:IntKind.u32.wrap (gq:Int) = (gq:Int):=by rw [wrap_u32];omega
              have hFin:Aside (gq < 4294967296 ∧ es.length = m + 2 ∧ (∀ x ∈ es,x < 4294967296) ∧ val 4294967296 us + 4294967296 ^ (m + 2) * un = gq * val 4294967296 vs + val 4294967296 es ∧ val 4294967296 es < val 4294967296 vs):=⟨by omega,hel,hesB,by rw [hgq];exact g1,g2⟩
              clear hA hel hR g1 g2 g4 hesB hg0 hgq hO hes
              go_wp2_with fail
              go_ret
              exact ⟨gq,es,rfl,hFin.out.1,hFin.out.2.1,hFin.out.2.2.1,hFin.out.2.2.2.1,hFin.out.2.2.2.2,hset,hOs⟩
end Go.Proofs.YtaloeffmigffaaaGreatDoor
end
