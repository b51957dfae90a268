/-
  A part of the proof of the card of WorkGeneralizationIsLeast (second form): lemmas that the text Card uses. No condition of its own.
-/
import Derived.Test.YtaloeffmigffaaaGreatDoorRefB
import Derived.Test.YtaloeffmigffaaaGreatDoorRules
import Derived.Laws.BytesArg
import Derived.Laws.Strings
import Derived.Lib.SliceRun
set_option linter.all false
set_option linter.unusedVariables false
set_option linter.unusedSimpArgs false
section
namespace Go.Proofs.YtaloeffmigffaaaGreatDoor
open Go.RowKit Go.Big
attribute [local go_sem] Heavy.uponW
def numFault (neg:Bool) (A C:List Nat):Int:=
  if 128 < A.length ∨ 128 < C.length then 3
  else if C = [] ∨ C.getLast? = some 0 ∨ A.getLast? = some 0 then 2
  else if val 4294967296 A = 0 ∧ (neg = true ∨ val 4294967296 C ≠ 1) then 2
  else if Nat.gcd (val 4294967296 A) (val 4294967296 C) ≠ 1 then 2
  else 0
theorem one_natR (w:World):NatR (w.heap.size + 1) (w.alloc (Obj.cells #[.int .i64 1] 3)) (.slice (some ⟨w.heap.size,0,none⟩) 1 1) 1:=by
  have hn:=new_cells w [iv 1] 3 (0,0)
  refine ⟨_,[1],1,rfl,Nat.le_refl _,by unfold maxLen;omega,⟨by simp,fun _=>⟨w.heap.size,0,rfl,by omega,fun j x hx=>?_⟩⟩,by intro x hx;simp at hx;omega,by simp [val]⟩
  rcases j with _ | j
  · simp at hx;subst hx
    exact hn 0 (iv 1) rfl
  · simp at hx
set_option maxRecDepth 100000 in
set_option maxHeartbeats 2000000 in
theorem rnum_calls (neg:Bool) (a1 a2:Option Addr) (len1 len2 cap1 cap2 n:Nat) (A C:List Nat) (hl1:A.length = len1) (hl2:C.length = len2) (hb1:len1 < 4611686018427387904) (hb2:len2 < 4611686018427387904) (w:World) (hn:n ≤ w.heap.size) (h1:LimAt n w a1 A) (h2:LimAt n w a2 C) :
    Calls Tryz.prog 111 #[.agg #[.bool neg,.slice a1 len1 cap1,.slice a2 len2 cap2]] w fun e w'=>e = .returned (.int .i64 (numFault neg A C)) ∧ Below w.heap.size w w':=by
  by_cases hc1:128 < len1
  · have hv:numFault neg A C = 3:=by unfold numFault;rw [if_pos (.inl (by omega))]
    rw [hv]
    have hi1:(128:Int) < (len1:Int):=by omega
    go_enter Tryz.func111,Tryz.ntmps111
    go_wp2
    go_ret
    exact ⟨rfl,below_alloc _ _⟩
  by_cases hc2:128 < len2
  · have hv:numFault neg A C = 3:=by unfold numFault;rw [if_pos (.inr (by omega))]
    rw [hv]
    have hi1:¬ (128:Int) < (len1:Int):=by omega
    have hi2:(128:Int) < (len2:Int):=by omega
    go_enter Tryz.func111,Tryz.ntmps111
    go_wp2
    go_ret
    exact ⟨rfl,below_alloc _ _⟩
  have hi1:¬ (128:Int) < (len1:Int):=by omega
  have hi2:¬ (128:Int) < (len2:Int):=by omega
  by_cases hc3:len2 = 0
  · have hv:numFault neg A C = 2:=by
      unfold numFault
      rw [if_neg (by omega),if_pos (.inl (List.eq_nil_of_length_eq_zero (by omega)))]
    rw [hv]
    subst hc3
    go_enter Tryz.func111,Tryz.ntmps111
    go_wp2
    go_ret
    exact ⟨rfl,below_alloc _ _⟩
  obtain ⟨k2,rfl⟩:∃ k2,len2 = k2 + 1:=⟨len2 - 1,by omega⟩
  obtain ⟨y,hy⟩:∃ y,C[k2]? = some y:=⟨C[k2],List.getElem?_eq_getElem (by omega)⟩
  have hylast:C.getLast? = some y:=by rw [List.getLast?_eq_getElem?,hl2,Nat.add_sub_cancel];exact hy
  have hCne:C ≠ []:=by rintro rfl;simp at hl2
  obtain ⟨b2,o2,rfl,hbn2,hyl,hcy⟩:=h2.get hy
  have hw2:IntKind.i64.wrap ((k2:Int) + 1 - 1) = (k2:Int):=by rw [IntKind.wrap_i64];omega
  have hj2:(k2:Int) < (k2:Int) + 1:=by omega
  have hj2':(0:Int) ≤ (k2:Int):=by omega
  have hne2:((k2:Int) + 1 == 0) = false:=by simp;omega
  have hcy':∀ o,(w.alloc o).cell? ⟨b2,o2 + k2,none⟩ = some (.int .u32 y):=fun o=>((below_alloc w o).cell (p:=⟨b2,o2 + k2,none⟩) (by show b2 < _;omega)).trans hcy
  by_cases hc4:y = 0
  · have hv:numFault neg A C = 2:=by
      unfold numFault
      rw [if_neg (by omega),if_pos (.inr (.inl (by rw [hylast,hc4])))]
    rw [hv]
    subst hc4
    clear hylast
    go_enter Tryz.func111,Tryz.ntmps111
    go_wp2
    go_ret
    exact ⟨rfl,below_alloc _ _⟩
  have hyB:((y:Int) == 0) = false:=by simp;omega
  clear hcy
  by_cases hc5:A.getLast? = some 0
  · have hv:numFault neg A C = 2:=by
      unfold numFault
      rw [if_neg (by omega),if_pos (.inr (.inr hc5))]
    rw [hv]
    have hAne:A ≠ []:=by rintro rfl;simp at hc5
    obtain ⟨k1,rfl⟩:∃ k1,len1 = k1 + 1:=⟨len1 - 1,by have:=List.length_pos_iff.2 hAne;omega⟩
    rw [List.getLast?_eq_getElem?,hl1,Nat.add_sub_cancel] at hc5
    obtain ⟨b1,o1,rfl,hbn1,hxl,hcx⟩:=h1.get hc5
    have hw1:IntKind.i64.wrap ((k1:Int) + 1 - 1) = (k1:Int):=by rw [IntKind.wrap_i64];omega
    have hj1:(k1:Int) < (k1:Int) + 1:=by omega
    have hj1':(0:Int) ≤ (k1:Int):=by omega
    have hj1'':(0:Int) < (k1:Int) + 1:=by omega
    have hcx':∀ o,(w.alloc o).cell? ⟨b1,o1 + k1,none⟩ = some (.int .u32 (0:Nat)):=fun o=>((below_alloc w o).cell (p:=⟨b1,o1 + k1,none⟩) (by show b1 < _;omega)).trans hcx
    clear hylast hcx hc5
    go_enter Tryz.func111,Tryz.ntmps111
    go_wp2
    go_ret
    exact ⟨rfl,below_alloc _ _⟩
  obtain ⟨x,hX⟩:∃ x,val 4294967296 A = x:=⟨_,rfl⟩
  obtain ⟨z,hY⟩:∃ z,val 4294967296 C = z:=⟨_,rfl⟩
  have hbad:numFault neg A C = if x = 0 ∧ (neg = true ∨ z ≠ 1) then 2 else if Nat.gcd x z ≠ 1 then 2 else 0:=by
    unfold numFault
    rw [if_neg (by omega),if_neg (by rw [hylast];rintro (h | h | h);exact hCne h;exact hc4 (by simpa using h);exact hc5 h),hX,hY]
  obtain ⟨F,hF⟩:∃ F:Int,(if x = 0 ∧ (neg = true ∨ z ≠ 1) then 2 else if Nat.gcd x z ≠ 1 then 2 else 0) = F:=⟨_,rfl⟩
  rw [hbad,hF]
  have AF:Aside ((if x = 0 ∧ (neg = true ∨ z ≠ 1) then 2 else if Nat.gcd x z ≠ 1 then 2 else 0) = F):=hF
  clear hbad hF
  obtain ⟨P,hP⟩:∃ P,P = 65536 ^ 256:=⟨_,rfl⟩
  have hxP:x < P:=by
    rw [hP,← show (4294967296:Nat) ^ 128 = 65536 ^ 256 by rw [show (256:Nat) = 2 * 128 from rfl,Nat.pow_mul],← hX]
    exact Nat.lt_of_lt_of_le (val_lt h1.1) (Nat.pow_le_pow_right (by decide) (by omega))
  have hyP:z < P:=by
    rw [hP,← show (4294967296:Nat) ^ 128 = 65536 ^ 256 by rw [show (256:Nat) = 2 * 128 from rfl,Nat.pow_mul],← hY]
    exact Nat.lt_of_lt_of_le (val_lt h2.1) (Nat.pow_le_pow_right (by decide) (by omega))
  have AXY:Aside (val 4294967296 A = x ∧ val 4294967296 C = z):=⟨hX,hY⟩
  have AP:Aside (P = 65536 ^ 256):=hP
  clear hX hY hP
  go_enter Tryz.func111,Tryz.ntmps111
  go_upto_region 3 with fail
  go_cut [46] from 15 to 45 (fun s46 wx=>s46 = .bool false ∧ wx = w.alloc (Obj.cells #[.bool neg,.slice a1 len1 cap1,.slice (some ⟨b2,o2,none⟩) (k2 + 1) cap2] 24))
  case first=>
    by_cases hl0:len1 = 0
    · subst hl0
      go_wp2_with fail
      go_meet
      exact ⟨rfl,rfl⟩
    · obtain ⟨k1,rfl⟩:∃ k1,len1 = k1 + 1:=⟨len1 - 1,by omega⟩
      obtain ⟨x,hx⟩:∃ x,A[k1]? = some x:=⟨A[k1],List.getElem?_eq_getElem (by omega)⟩
      rw [List.getLast?_eq_getElem?,hl1,Nat.add_sub_cancel,hx] at hc5
      obtain ⟨b1,o1,rfl,hbn1,hxl,hcx⟩:=h1.get hx
      have hxB:((x:Int) == 0) = false:=by have:x ≠ 0:=fun e=>hc5 (by rw [e]);simp;omega
      have hw1:IntKind.i64.wrap ((k1:Int) + 1 - 1) = (k1:Int):=by rw [IntKind.wrap_i64];omega
      have hj1:(k1:Int) < (k1:Int) + 1:=by omega
      have hj1':(0:Int) ≤ (k1:Int):=by omega
      have hj1'':(0:Int) < (k1:Int) + 1:=by omega
      have hcx':∀ o,(w.alloc o).cell? ⟨b1,o1 + k1,none⟩ = some (.int .u32 x):=fun o=>((below_alloc w o).cell (p:=⟨b1,o1 + k1,none⟩) (by show b1 < _;omega)).trans hcx
      clear hylast hcx hc5
      go_wp2_with fail
      go_meet
      exact ⟨rfl,rfl⟩
  case rest=>
    obtain ⟨rfl,hwx⟩:=hcut
    have hlw:w.heap.size < wc.heap.size:=by rw [hwx,World.size_alloc];omega
    have hBw:Below w.heap.size w wc:=hwx ▸ below_alloc _ _
    have hblk:wc.heap[w.heap.size]? = some (Obj.cells #[.bool neg,.slice a1 len1 cap1,.slice (some ⟨b2,o2,none⟩) (k2 + 1) cap2] 24):=by rw [hwx];exact heap_alloc_new _ _
    have cb0:wc.cell? ⟨w.heap.size,0,none⟩ = some (.bool neg):=by simp [World.cell?,hblk]
    have cb1:wc.cell? ⟨w.heap.size,1,none⟩ = some (.slice a1 len1 cap1):=by simp [World.cell?,hblk]
    have cb2:wc.cell? ⟨w.heap.size,2,none⟩ = some (.slice (some ⟨b2,o2,none⟩) (k2 + 1) cap2):=by simp [World.cell?,hblk]
    have g1:=h1.below hBw hn
    have g2:=h2.below hBw hn
    clear hwx
    generalize wc = wb at *
    clear hblk hylast hcy' hi1 hi2 hw2 hj2 hj2' hne2 hyB
    go_upto_region 5 with fail
    go_cut [3,4] from 47 to 52 (fun s3 s4 wx=>NatR wx.heap.size wx s3 x ∧ NatR wx.heap.size wx s4 z ∧ Below wb.heap.size wb wx)
    case first=>
      refine Heavy.region_plan (fun w'=>Below wb.heap.size wb w') 6 (Heavy.lights [0,1,3,4] (.one 2 (.one 5 .done))) (by kernel_rfl) (by kernel_rfl) ⟨rfl,rfl,rfl,Nat.le_refl _,fun _ _=>rfl⟩ ?_
      simp only [Heavy.lights,List.take_succ_cons,List.take_zero,List.drop_succ_cons,List.drop_zero]
      have fc:∀ w2,Below wb.heap.size wb w2 → w2.cell? ⟨w.heap.size,1,none⟩ = some (.slice a1 len1 cap1) ∧ w2.cell? ⟨w.heap.size,2,none⟩ = some (.slice (some ⟨b2,o2,none⟩) (k2 + 1) cap2):=fun w2 hb=>
        ⟨(hb.cell (p:=⟨w.heap.size,1,none⟩) (by show w.heap.size < _;omega)).trans cb1,(hb.cell (p:=⟨w.heap.size,2,none⟩) (by show w.heap.size < _;omega)).trans cb2⟩
      clear cb0 cb1 cb2
      have hBd:Below wb.heap.size wb { wb with drawn:=wb.drawn + 1 }:=⟨rfl,rfl,rfl,Nat.le_refl _,fun _ _=>rfl⟩
      have n1:=fun w' (hb:Below wb.heap.size wb w')=>rnatOf_calls a1 len1 cap1 n A hl1 (by omega) w' (by have:=hb.size;omega) (g1.below hb (by omega))
      rw [AXY.out.1] at n1
      have n2:=fun w' (hb:Below wb.heap.size wb w')=>rnatOf_calls (some ⟨b2,o2,none⟩) (k2 + 1) cap2 n C hl2 (by omega) w' (by have:=hb.size;omega) (g2.below hb (by omega))
      rw [AXY.out.2] at n2
      iterate 4 (apply Heavy.light_n;(exact rfl);(exact rfl);(intro wr2 hw;have x0:=(fc wr2 hw).1;have x1:=(fc wr2 hw).2;go_simp;exact rfl))
      apply Heavy.one_n
      · exact rfl
      · exact rfl
      go_simp
      refine (n1 _ hBd).mono ?_
      rintro e w3 ⟨r3,rfl,hN3,hb3⟩
      have hB3:Below wb.heap.size wb w3:=hBd.trans hb3
      refine ⟨_,rfl,hB3,?_⟩
      apply Heavy.one_n
      · exact rfl
      · exact rfl
      go_simp
      refine (n2 _ hB3).mono ?_
      rintro e w4 ⟨r4,rfl,hN4,hb4⟩
      refine ⟨_,rfl,hB3.trans (hb4.mono hB3.size),?_⟩
      apply Heavy.plan_end
      show wpList _ _ _ _ _ _
      go_wp2
      go_meet
      exact ⟨(hN3.below hb4 (Nat.le_refl _)).up hb4.size,hN4,hB3.trans (hb4.mono hB3.size)⟩
    case rest=>
      obtain ⟨hA,hC,hB⟩:=hcut
      have e0:wc.cell? ⟨w.heap.size,0,none⟩ = some (.bool neg):=(hB.cell (p:=⟨w.heap.size,0,none⟩) hlw).trans cb0
      have hBc:Below w.heap.size w wc:=hBw.trans (hB.mono hBw.size)
      clear cb0 cb1 cb2 g1 g2 hB hBw
      have hP:=AP.out
      clear h1 h2 hc5
      obtain ⟨a3,l3,c3,rfl⟩:=hA.slice
      obtain ⟨a4,l4,c4,rfl⟩:=hC.slice
      have hz3:=hA.zero_iff
      go_upto_region 6 with fail
      go_cut [65] from 53 to 64 (fun s65 wx=>s65 = .bool (decide (x = 0 ∧ (neg = true ∨ z ≠ 1))) ∧ Below wc.heap.size wc wx)
      case first=>
        by_cases hx0:x = 0
        · obtain rfl:l3 = 0:=hz3.1 hx0
          have Ax:Aside (x = 0):=hx0
          clear hx0 hz3
          cases neg
          · have hB1:=below_alloc wc (Obj.cells #[.int .i64 1] 3)
            have hcm:=rcmpN _ _ _ _ z 1 256 (wc.alloc (Obj.cells #[.int .i64 1] 3)) (hC.below hB1 (Nat.le_refl _)) (one_natR wc) (hP ▸ hyP) (Nat.one_lt_pow (by decide) (by decide)) (by decide)
            by_cases hy1:z = 1
            · have hcv:cmpV z 1 = 0:=by simp [cmpV,hy1]
              rw [hcv] at hcm
              have Ay:Aside (z = 1):=hy1
              clear hy1 hcv
              go_wp2_with (go_at_call 174;with_reducible refine hcm.mono ?_;rintro e w' ⟨rfl,rfl⟩)
              go_meet
              exact ⟨by simp [Ax.out,Ay.out],hB1⟩
            · obtain ⟨cv,hcv⟩:∃ cv,cmpV z 1 = cv:=⟨_,rfl⟩
              have hcn:(cv == 0) = false:=by
                rw [← hcv];unfold cmpV
                split
                · rfl
                · split
                  · rfl
                  · exfalso;omega
              have hcn2:Aside (¬ cv = 0):=by intro h;simp [h] at hcn
              rw [hcv] at hcm
              have Ay:Aside (¬ z = 1):=hy1
              clear hy1 hcv
              go_wp2_with (go_at_call 174;with_reducible refine hcm.mono ?_;rintro e w' ⟨rfl,rfl⟩)
              go_meet
              exact ⟨by have:=hcn2.out;simp [Ax.out,Ay.out,this],hB1⟩
          · go_wp2_with fail
            go_meet
            exact ⟨by simp [Ax.out],Below.refl _ _⟩
        · have hl3:((l3:Int) == 0) = false:=by have:l3 ≠ 0:=fun e=>hx0 (hz3.2 e);simp;omega
          have Ax:Aside (¬ x = 0):=hx0
          clear hx0 hz3
          go_wp2_with fail
          go_meet
          exact ⟨by simp [Ax.out],Below.refl _ _⟩
      case rest=>
        obtain ⟨rfl,hB2⟩:=hcut
        have hBw2:=hBc.trans (hB2.mono hBc.size)
        have hA2:=(hA.below hB2 (Nat.le_refl _)).up hB2.size
        have hC2:=(hC.below hB2 (Nat.le_refl _)).up hB2.size
        clear hA hC hB2 e0 hBc hz3
        by_cases hbad:x = 0 ∧ (neg = true ∨ z ≠ 1)
        · have hF2:Aside (F = 2):=by have:=AF.out;rw [if_pos hbad] at this;exact this.symm
          have hd:decide (x = 0 ∧ (neg = true ∨ z ≠ 1)) = true:=decide_eq_true hbad
          rw [hd]
          clear hd hbad
          go_wp2
          go_ret
          exact ⟨by rw [hF2.out];rfl,hBw2⟩
        · have hF0:=AF.out
          rw [if_neg hbad] at hF0
          have hd:decide (x = 0 ∧ (neg = true ∨ z ≠ 1)) = false:=decide_eq_false hbad
          rw [hd]
          clear hd hbad
          have hg:=rgcd_calls _ _ _ _ x z P 256 hP (by decide) hxP hyP wc (Nat.le_refl _) (Nat.le_refl _) hA2 hC2
          obtain ⟨g,hgg⟩:∃ g,Nat.gcd x z = g:=⟨_,rfl⟩
          have hgP:g < P ∨ x = 0 ∧ z = 0:=by
            rw [← hgg]
            by_cases hx0:x = 0
            · subst hx0;rw [Nat.gcd_zero_left];exact .inl hyP
            · exact .inl (Nat.lt_of_le_of_lt (Nat.gcd_le_left z (Nat.pos_of_ne_zero hx0)) hxP)
          have hgP':g < P:=by
            rcases hgP with h | ⟨rfl,rfl⟩
            · exact h
            · rw [← hgg];exact hxP
          rw [hgg] at hg
          have Agg:Aside (Nat.gcd x z = g):=hgg
          have hcm:=fun w' r (hr:NatR w'.heap.size w' r g)=>rcmpN _ _ _ _ g 1 256 (w'.alloc (Obj.cells #[.int .i64 1] 3)) (hr.below (below_alloc w' (Obj.cells #[.int .i64 1] 3)) (Nat.le_refl _)) (one_natR w') (hP ▸ hgP') (Nat.one_lt_pow (by decide) (by decide)) (by decide)
          clear hgP hgg
          by_cases hg1:g = 1
          · have hcv:cmpV g 1 = 0:=by simp [cmpV,hg1]
            rw [if_neg (by rw [Agg.out];simpa using hg1)] at hF0
            have hF2:Aside (F = 0):=hF0.symm
            rw [hcv] at hcm
            clear hcv hg1 hF0
            go_wp2_with first | (go_at_call 175;with_reducible refine hg.mono ?_;rintro e w2 ⟨rg,rfl,hR,hb2⟩) | (go_at_call 174;with_reducible refine (hcm _ _ (by assumption)).mono ?_;rintro e w' ⟨rfl,rfl⟩)
            go_ret
            exact ⟨by rw [hF2.out];rfl,hBw2.trans ((hb2.mono hBw2.size).alloc (Nat.le_trans hBw2.size hb2.size) _)⟩
          · obtain ⟨cv,hcv⟩:∃ cv,cmpV g 1 = cv:=⟨_,rfl⟩
            have hcn:(cv == 0) = false:=by
              rw [← hcv];unfold cmpV
              split
              · rfl
              · split
                · rfl
                · exfalso;omega
            rw [if_pos (by rw [Agg.out];simpa using hg1)] at hF0
            have hF2:Aside (F = 2):=hF0.symm
            rw [hcv] at hcm
            clear hcv hg1 hF0
            go_wp2_with first | (go_at_call 175;with_reducible refine hg.mono ?_;rintro e w2 ⟨rg,rfl,hR,hb2⟩) | (go_at_call 174;with_reducible refine (hcm _ _ (by assumption)).mono ?_;rintro e w' ⟨rfl,rfl⟩)
            go_ret
            exact ⟨by rw [hF2.out];rfl,hBw2.trans ((hb2.mono hBw2.size).alloc (Nat.le_trans hBw2.size hb2.size) _)⟩
end Go.Proofs.YtaloeffmigffaaaGreatDoor
end
section
namespace Go.Proofs.YtaloeffmigffaaaGreatDoor
open Go.RowKit Go.Big
theorem inf5:(Tryz.prog.info? 5).map (fun i=>(i.zero,i.size,i.bytes)) = some (some (.int .u8 0),1,1):=by kernel_rfl
def bv (x:Nat):Value:=.int .u8 x
def strN (L:List Nat):ByteArray:=strOfNums (L.map fun x:Nat=>(x:Int))
theorem strN_size (L:List Nat):(strN L).size = L.length:=by simp [strN,strOfNums_size]
theorem strN_data (L:List Nat):(strN L).data.toList = L.map UInt8.ofNat:=by simp [strN,strOfNums_data]
theorem byteArray_ext' {a b:ByteArray} (h:a.data.toList = b.data.toList):a = b:=by
  cases a;cases b
  simp at h
  congr
end Go.Proofs.YtaloeffmigffaaaGreatDoor
end
section
namespace Go.Proofs.YtaloeffmigffaaaGreatDoor
open Go.RowKit Go.Big
attribute [local go_sem] Heavy.uponW
theorem setCell_block {w:World} {g:Nat} {i:Nat} {v:Value} {cs:Array Value} {e:TypeId} {fr:Nat × Nat} (h:w.heap[g]? = some (.cells cs e fr)) (k:Nat) :
    (w.setCell ⟨g,i,none⟩ v).heap[k]? = if k = g then some (.cells (cs.setIfInBounds i v) e fr) else w.heap[k]?:=by
  show (Array.modify w.heap g _)[k]? = _
  rw [Array.getElem?_modify]
  by_cases hk:k = g
  · subst hk;simp [h]
  · rw [if_neg (Ne.symm hk),if_neg hk]
theorem setCell_size (w:World) (g i:Nat) (v:Value):(w.setCell ⟨g,i,none⟩ v).heap.size = w.heap.size:=by
  simp [World.setCell]
theorem put3_block {w:World} {k:Nat} {x y z a b c:Value} {e:TypeId} {fr:Nat × Nat} (h:w.heap[k]? = some (.cells #[x,y,z] e fr)):(((w.setCell ⟨k,0,none⟩ a).setCell ⟨k,1,none⟩ b).setCell ⟨k,2,none⟩ c).heap[k]? = some (.cells #[a,b,c] e fr):=by
  have h1:=setCell_block (i:=0) (v:=a) h k
  rw [if_pos rfl] at h1
  have h2:=setCell_block (i:=1) (v:=b) h1 k
  rw [if_pos rfl] at h2
  have h3:=setCell_block (i:=2) (v:=c) h2 k
  rw [if_pos rfl] at h3
  exact h3
theorem below_put (w:World) (n g i:Nat) (v:Value) (h:n ≤ g):Below n w (w.setCell ⟨g,i,none⟩ v):=(Below.refl n w).setCell h v
theorem NatR.aside {n g:Nat} {w w':World} {r:Value} {v:Nat} {cs:Array Value} {e:TypeId} {fr:Nat × Nat} (h:NatR n w r v) (hg:w.heap[g]? = some (.cells cs e fr)) (hno:∀ (i:Nat) (x:Int),cs[i]? ≠ some (.int .i64 x)) (hk:∀ k,k ≠ g → w'.heap[k]? = w.heap[k]?):NatR n w' r v:=by
  obtain ⟨a,L,c,h1,h2,h3,⟨h4,h4'⟩,h5⟩:=h
  refine ⟨a,L,c,h1,h2,h3,⟨h4,fun hne=>?_⟩,h5⟩
  obtain ⟨b,off,e1,hb,hc⟩:=h4' hne
  refine ⟨b,off,e1,hb,fun j x hx=>?_⟩
  have hcx:=hc j x hx
  have hbg:b ≠ g:=by
    rintro rfl
    simp only [World.cell?,hg] at hcx
    exact hno _ _ hcx
  simp only [World.cell?,hk b hbg] at hcx ⊢
  exact hcx
def RatR (n:Nat) (w:World) (v:Value) (neg:Bool) (x y:Nat):Prop:=∃ r1 r2,v = .agg #[.bool neg,r1,r2] ∧ NatR n w r1 x ∧ NatR n w r2 y
set_option maxRecDepth 100000 in
set_option maxHeartbeats 2000000 in
theorem rof_calls (neg:Bool) (a1 a2:Option Addr) (len1 len2 cap1 cap2 n:Nat) (A C:List Nat) (hl1:A.length = len1) (hl2:C.length = len2) (hb1:len1 ≤ 1048576) (hb2:len2 ≤ 1048576) (w:World) (hn:n ≤ w.heap.size) (h1:LimAt n w a1 A) (h2:LimAt n w a2 C) :
    Calls Tryz.prog 114 #[.agg #[.bool neg,.slice a1 len1 cap1,.slice a2 len2 cap2]] w fun e w'=>∃ v,e = .returned v ∧ RatR w'.heap.size w' v neg (val 4294967296 A) (val 4294967296 C) ∧ Below w.heap.size w w':=by
  have b1:=below_alloc w (Obj.cells #[.bool neg,.slice a1 len1 cap1,.slice a2 len2 cap2] 24)
  have b2:=below_alloc (w.alloc (Obj.cells #[.bool neg,.slice a1 len1 cap1,.slice a2 len2 cap2] 24)) (Obj.cells #[.bool false,.slice none 0 0,.slice none 0 0] 179)
  have q1:=heap_alloc_new w (Obj.cells #[.bool neg,.slice a1 len1 cap1,.slice a2 len2 cap2] 24)
  have q2:=heap_alloc_new (w.alloc (Obj.cells #[.bool neg,.slice a1 len1 cap1,.slice a2 len2 cap2] 24)) (Obj.cells #[.bool false,.slice none 0 0,.slice none 0 0] 179)
  have sz:((w.alloc (Obj.cells #[.bool neg,.slice a1 len1 cap1,.slice a2 len2 cap2] 24)).alloc (Obj.cells #[.bool false,.slice none 0 0,.slice none 0 0] 179)).heap.size = w.heap.size + 2:=by simp
  rw [World.size_alloc] at q2 b2
  have q1':=(b2.block w.heap.size (by omega)).trans q1
  have hBw:=b1.trans (b2.mono (by omega))
  clear b1 b2 q1
  go_enter Tryz.func114,Tryz.ntmps114
  go_upto_region 1 with fail
  generalize (w.alloc (Obj.cells #[.bool neg,.slice a1 len1 cap1,.slice a2 len2 cap2] 24)).alloc (Obj.cells #[.bool false,.slice none 0 0,.slice none 0 0] 179) = wb at *
  have hsz:=hBw.size
  have hlw:w.heap.size + 1 < wb.heap.size:=by omega
  clear sz
  have g1:=h1.below hBw hn
  have g2:=h2.below hBw hn
  have k1:wb.cell? ⟨w.heap.size,0,none⟩ = some (.bool neg):=by simp [World.cell?,q1']
  have k2:wb.cell? ⟨w.heap.size,1,none⟩ = some (.slice a1 len1 cap1):=by simp [World.cell?,q1']
  have k3:wb.cell? ⟨w.heap.size,2,none⟩ = some (.slice a2 len2 cap2):=by simp [World.cell?,q1']
  have fc:∀ w2,Below wb.heap.size wb w2 → w2.cell? ⟨w.heap.size,0,none⟩ = some (.bool neg) ∧ w2.cell? ⟨w.heap.size,1,none⟩ = some (.slice a1 len1 cap1) ∧ w2.cell? ⟨w.heap.size,2,none⟩ = some (.slice a2 len2 cap2):=fun w2 hb=>
    ⟨(hb.cell (p:=⟨w.heap.size,0,none⟩) (by show w.heap.size < _;omega)).trans k1,(hb.cell (p:=⟨w.heap.size,1,none⟩) (by show w.heap.size < _;omega)).trans k2,(hb.cell (p:=⟨w.heap.size,2,none⟩) (by show w.heap.size < _;omega)).trans k3⟩
  clear k1 k2 k3 q1'
  have hBd:Below wb.heap.size wb { wb with drawn:=wb.drawn + 1 }:=⟨rfl,rfl,rfl,Nat.le_refl _,fun _ _=>rfl⟩
  have n1:=fun w' (hb:Below wb.heap.size wb w')=>rnatOf_calls a1 len1 cap1 n A hl1 hb1 w' (by have:=hb.size;omega) (g1.below hb (by omega))
  have n2:=fun w' (hb:Below wb.heap.size wb w')=>rnatOf_calls a2 len2 cap2 n C hl2 hb2 w' (by have:=hb.size;omega) (g2.below hb (by omega))
  refine Heavy.region_plan (fun w'=>Below wb.heap.size wb w') 8 (Heavy.lights [0,1,2,3,5,6] (.one 4 (.one 7 .done))) (by kernel_rfl) (by kernel_rfl) hBd ?_
  simp only [Heavy.lights,List.take_succ_cons,List.take_zero,List.drop_succ_cons,List.drop_zero]
  iterate 6 (apply Heavy.light_n;(exact rfl);(exact rfl);(intro wr2 hw;have x0:=(fc wr2 hw).1;have x1:=(fc wr2 hw).2.1;have x2:=(fc wr2 hw).2.2;go_simp;exact rfl))
  apply Heavy.one_n
  · exact rfl
  · exact rfl
  go_simp
  refine (n1 _ hBd).mono ?_
  rintro e w3 ⟨r3,rfl,hN3,hb3⟩
  have hB3:Below wb.heap.size wb w3:=hBd.trans hb3
  refine ⟨_,rfl,hB3,?_⟩
  apply Heavy.one_n
  · exact rfl
  · exact rfl
  go_simp
  refine (n2 _ hB3).mono ?_
  rintro e w4 ⟨r4,rfl,hN4,hb4⟩
  have hB4:=hB3.trans (hb4.mono hB3.size)
  refine ⟨_,rfl,hB4,?_⟩
  apply Heavy.plan_end
  show wpList _ _ _ _ _ _
  have q4:=(hB4.block (w.heap.size + 1) (by omega)).trans q2
  have hN3':=(hN3.below hb4 (Nat.le_refl _)).up hb4.size
  obtain ⟨a3,l3,c3,rfl⟩:=hN3'.slice
  obtain ⟨a4,l4,c4,rfl⟩:=hN4.slice
  obtain ⟨d0,d1,d2,z0,z1,z2⟩:w4.cell? ⟨w.heap.size + 1,0,none⟩ = some (.bool false) ∧ w4.cell? ⟨w.heap.size + 1,1,none⟩ = some (.slice none 0 0) ∧ w4.cell? ⟨w.heap.size + 1,2,none⟩ = some (.slice none 0 0) ∧
      w4.frozen? ⟨w.heap.size + 1,0,none⟩ = false ∧ w4.frozen? ⟨w.heap.size + 1,1,none⟩ = false ∧ w4.frozen? ⟨w.heap.size + 1,2,none⟩ = false:=by
    simp [World.cell?,World.frozen?,q4]
  go_wp2
  have hres:=put3_block (a:=.bool neg) (b:=.slice a3 l3 c3) (c:=.slice a4 l4 c4) q4
  have hk:∀ k,k ≠ w.heap.size + 1 → (((w4.setCell ⟨w.heap.size + 1,0,none⟩ (.bool neg)).setCell ⟨w.heap.size + 1,1,none⟩ (.slice a3 l3 c3)).setCell ⟨w.heap.size + 1,2,none⟩ (.slice a4 l4 c4)).heap[k]? = w4.heap[k]?:=fun k hk=>by
    rw [Below.heap_setCell _ _ _ _ hk,Below.heap_setCell _ _ _ _ hk,Below.heap_setCell _ _ _ _ hk]
  have hno:∀ (i:Nat) (x:Int),(#[Value.bool false,.slice none 0 0,.slice none 0 0]:Array Value)[i]? ≠ some (.int .i64 x):=by
    intro i x
    rcases i with _ | _ | _ | i <;> simp
  refine bodyPost_ret (results_cell_row rfl _ _ (w.heap.size + 1) 179 _ _ _ rfl hres Tryz.underlying179 rfl (by kernel_rfl)) rfl ?_
  refine ⟨_,rfl,⟨_,_,rfl,?_,?_⟩,?_⟩
  · rw [setCell_size,setCell_size,setCell_size]
    exact hN3'.aside q4 hno hk
  · rw [setCell_size,setCell_size,setCell_size]
    exact hN4.aside q4 hno hk
  · refine hBw.trans ((hB4.mono (by omega)).trans ?_)
    exact (below_put _ _ _ _ _ (by omega)).trans ((below_put _ _ _ _ _ (by omega)).trans (below_put _ _ _ _ _ (by omega)))
end Go.Proofs.YtaloeffmigffaaaGreatDoor
end
section
namespace Go.Proofs.YtaloeffmigffaaaGreatDoor
open Go.RowKit Go.Big
attribute [local go_sem] Heavy.uponW
theorem lim_lt {A:List Nat} {M:Nat} (h:∀ x ∈ A,x < 4294967296) (hM:2 * A.length ≤ M):val 4294967296 A < 65536 ^ M:=by
  rw [← twos_val A]
  refine Nat.lt_of_lt_of_le (val_lt (twos_lt h)) (Nat.pow_le_pow_right (by decide) ?_)
  rw [twos_len];exact hM
structure NumAt (n:Nat) (w:World) (neg:Bool) (s1 s2:Value) (A C:List Nat):Prop where
  at1:∃ a c,s1 = .slice a A.length c ∧ LimAt n w a A
  at2:∃ a c,s2 = .slice a C.length c ∧ LimAt n w a C
theorem NumAt.below {n m:Nat} {w w':World} {neg:Bool} {s1 s2:Value} {A C:List Nat} (h:NumAt n w neg s1 s2 A C) (hb:Below m w w') (hm:n ≤ m):NumAt n w' neg s1 s2 A C:=by
  obtain ⟨⟨a,c,e1,h1⟩,⟨a',c',e2,h2⟩⟩:=h
  exact ⟨⟨a,c,e1,h1.below hb hm⟩,⟨a',c',e2,h2.below hb hm⟩⟩
theorem strEq (a c:ByteArray):(a.toList == c.toList) = decide (a = c):=by
  rw [ByteArray.toList_eq,ByteArray.toList_eq]
  by_cases h:a = c
  · subst h;simp
  · rw [decide_eq_false h]
    simp only [beq_eq_false_iff_ne,ne_eq]
    exact fun e=>h (byteArray_ext' e)
theorem cells7 {w:World} {g:Nat} {v0 v1 v2 v3 v4 v5 v6:Value} {e:TypeId} {fr:Nat × Nat} (h:w.heap[g]? = some (.cells #[v0,v1,v2,v3,v4,v5,v6] e fr)) :
    w.cell? ⟨g,0,none⟩ = some v0 ∧ w.cell? ⟨g,1,none⟩ = some v1 ∧ w.cell? ⟨g,2,none⟩ = some v2 ∧ w.cell? ⟨g,3,none⟩ = some v3 ∧ w.cell? ⟨g,4,none⟩ = some v4 ∧ w.cell? ⟨g,5,none⟩ = some v5 ∧ w.cell? ⟨g,6,none⟩ = some v6:=by
  simp [World.cell?,h]
theorem two_blocks (w:World) (o1 o2:Obj):Below w.heap.size w ((w.alloc o1).alloc o2) ∧ ((w.alloc o1).alloc o2).heap[w.heap.size]? = some o1 ∧ ((w.alloc o1).alloc o2).heap[w.heap.size + 1]? = some o2 ∧ w.heap.size + 2 ≤ ((w.alloc o1).alloc o2).heap.size:=by
  have b1:=below_alloc w o1
  have b2:=below_alloc (w.alloc o1) o2
  have q1:=heap_alloc_new w o1
  have q2:=heap_alloc_new (w.alloc o1) o2
  rw [World.size_alloc] at q2 b2
  exact ⟨b1.trans (b2.mono (by omega)),(b2.block w.heap.size (by omega)).trans q1,q2,by simp⟩
end Go.Proofs.YtaloeffmigffaaaGreatDoor
end
section
namespace Go.Proofs.YtaloeffmigffaaaGreatDoor
open Go.RowKit Go.Big
attribute [local go_sem] Heavy.uponW
theorem inf67:(Tryz.prog.info? 67).map (fun i=>(i.zero,i.size,i.bytes)) = some (some (.int .u32 0),1,4):=by kernel_rfl
def lv (x:Nat):Value:=.int .u32 x
def LimS (S:Nat → Prop) (w:World) (a:Option Addr) (L:List Nat):Prop:=
  (∀ x ∈ L,x < 4294967296) ∧ (L ≠ [] → ∃ b off,a = some ⟨b,off,none⟩ ∧ S b ∧ ∀ (j x:Nat),L[j]? = some x → w.cell? ⟨b,off + j,none⟩ = some (.int .u32 x))
def Fresh (a b:Nat):Nat → Prop:=fun k=>a ≤ k ∧ k < b
def Same (S:Nat → Prop) (w w':World):Prop:=∀ k,S k → w'.heap[k]? = w.heap[k]?
theorem Same.cell {S:Nat → Prop} {w w':World} (h:Same S w w') {p:Addr} (hp:S p.block):w'.cell? p = w.cell? p:=World.cell?_of_block (w:=w) (h p.block hp)
theorem Same.of_below {S:Nat → Prop} {m:Nat} {w w':World} (h:Below m w w') (hS:∀ k,S k → k < m):Same S w w':=fun k hk=>h.block k (hS k hk)
theorem Same.trans {S:Nat → Prop} {a b c:World} (h:Same S a b) (h':Same S b c):Same S a c:=fun k hk=>(h' k hk).trans (h k hk)
theorem LimS.mono {S S':Nat → Prop} {w:World} {a:Option Addr} {L:List Nat} (h:LimS S w a L) (hS:∀ k,S k → S' k):LimS S' w a L:=by
  refine ⟨h.1,fun hne=>?_⟩
  obtain ⟨b,off,e,hb,hc⟩:=h.2 hne
  exact ⟨b,off,e,hS b hb,hc⟩
theorem LimS.keep {S:Nat → Prop} {w w':World} {a:Option Addr} {L:List Nat} (h:LimS S w a L) (hk:Same S w w'):LimS S w' a L:=by
  refine ⟨h.1,fun hne=>?_⟩
  obtain ⟨b,off,e,hb,hc⟩:=h.2 hne
  exact ⟨b,off,e,hb,fun j x hx=>(hk.cell (p:=⟨b,off + j,none⟩) hb).trans (hc j x hx)⟩
theorem LimS.toAt {S:Nat → Prop} {n:Nat} {w:World} {a:Option Addr} {L:List Nat} (h:LimS S w a L) (hS:∀ k,S k → k < n):LimAt n w a L:=by
  refine ⟨h.1,fun hne=>?_⟩
  obtain ⟨b,off,e,hb,hc⟩:=h.2 hne
  exact ⟨b,off,e,hS b hb,hc⟩
theorem limAt_of_owns {base:Nat} {w:World} {sv:Value} {A:List Nat} (hA:∀ x ∈ A,x < 4294967296) (h:w.ownsRow base 67 1 sv A.length (A.map lv)):∃ a c,sv = .slice a A.length c ∧ LimS (Fresh base w.heap.size) w a A:=by
  obtain ⟨h1,⟨e,h0⟩ | ⟨g,cap,cur,e1,hb,hg,hnc,hm,hs,ht⟩⟩:=h
  · have:A = []:=List.eq_nil_of_length_eq_zero h0
    subst this
    exact ⟨none,0,e,hA,fun h=>absurd rfl h⟩
  · refine ⟨some ⟨g,0,none⟩,cap,e1,hA,fun _=>⟨g,0,rfl,⟨hb,(Array.getElem?_eq_some_iff.1 hg).1⟩,fun j x hx=>?_⟩⟩
    have hj:=(List.getElem?_eq_some_iff.1 hx).1
    have h2:cur[j]? = some (lv x):=by
      rw [← Array.getElem?_toList,← List.getElem?_take_of_lt (show j < A.length * 1 by omega),ht,List.getElem?_map,hx];rfl
    simpa [World.cell?,hg,lv] using h2
set_option maxRecDepth 100000 in
set_option maxHeartbeats 1000000 in
theorem rclone_calls (s:Value) (n:Nat) (A:List Nat) (hA:A.length ≤ 1048576) (w:World) (hn:n ≤ w.heap.size) (h:∃ a c,s = .slice a A.length c ∧ LimAt n w a A) :
    Calls Tryz.prog 23 #[s] w fun e w'=>∃ sv,e = .returned sv ∧ (∃ a c,sv = .slice a A.length c ∧ LimS (Fresh w.heap.size w'.heap.size) w' a A) ∧ Below w.heap.size w w':=by
  obtain ⟨a,cap,rfl,h1⟩:=h
  have q22:∀ (w:World) (a:Option Addr) (n c n' c':Nat),(binOp .eql 22 (.slice a n c) (.slice none n' c')).run Tryz.prog w = .ok (.bool a.isNone) w:=fun w a n c n' c'=>Lib.run_eql_slice_nil w _ _ a n c n' c' Tryz.underlying22
  cases a with
  | none=>
    have hA0:A = []:=by
      apply Classical.byContradiction
      intro hne
      obtain ⟨b,off,e,_⟩:=h1.2 hne
      cases e
    subst hA0
    go_enter Tryz.func23,Tryz.ntmps23
    go_wp2
    go_ret
    exact ⟨_,rfl,⟨none,0,rfl,h1.1,fun h=>absurd rfl h⟩,Below.refl _ _⟩
  | some ad=>
    obtain ⟨i0,hi,hz0,hz1,hz2⟩:=info_parts inf67
    have hown0:(w.alloc (Obj.cells #[] 67)).ownsRow w.heap.size 67 1 (.slice (some ⟨w.heap.size,0,none⟩) 0 0) 0 []:=World.ownsRow_made w #[] 0 (Nat.le_refl _) (by unfold maxLen;omega) (by simp)
    have hnews2:∀ (j:Nat) u,(A.map lv)[j]? = some u → (w.alloc (Obj.cells #[] 67)).cell? (ad.add j) = some u:=fun j u hj=>by
      rw [List.getElem?_map] at hj
      obtain ⟨x,hx,rfl⟩:=Option.map_eq_some_iff.1 hj
      obtain ⟨b,off,e,hb,hc⟩:=h1.2 (by rintro rfl;simp at hx)
      cases e
      rw [Addr.add_lit]
      exact ((below_alloc w _).cell (p:=⟨b,off + j,none⟩) (by show b < _;omega)).trans (hc j x hx)
    have hone:∀ u ∈ A.map lv,u.oneCell' = true:=by
      intro u hu
      obtain ⟨y,_,rfl⟩:=List.mem_map.1 hu
      rfl
    obtain ⟨len,hl⟩:∃ len,A.length = len:=⟨_,rfl⟩
    have hvl:(A.map lv).length = len * 1:=by rw [List.length_map,hl];omega
    rw [hl] at hA ⊢
    have Al:Aside (A.length = len):=hl
    have hlt:=h1.1
    clear h1 hl
    go_enter Tryz.func23,Tryz.ntmps23
    go_wp2_with (at_builtin;refine wpList_append_own _ rfl _ _ 22 rfl w.heap.size 67 i0 (.int .u32 0) 1 4 Tryz.underlying22 hi hz0 hz1 hz2 rfl (by decide) _ _ _ rfl hown0 ad len cap (A.map lv) rfl hvl hnews2 hone (by unfold maxLen;omega) (by omega) (by simp) ?_;intro v' w3 hown' hgrow3 hnil3)
    go_ret
    have hb3:Below w.heap.size w w3:=((Below.refl _ w).alloc (Nat.le_refl _) _).grown hgrow3 (by simp) (by intro k hk;cases hk;exact Nat.le_refl _)
    rw [Nat.zero_add,List.nil_append,← Al.out] at hown'
    have:=limAt_of_owns hlt hown'
    rw [Al.out] at this
    exact ⟨_,rfl,this,hb3⟩
end Go.Proofs.YtaloeffmigffaaaGreatDoor
end
section
namespace Go.Proofs.YtaloeffmigffaaaGreatDoor
open Go.RowKit Go.Big
def rfitsB (kk tk:Int) (num:Bool) (nm1 nm2:ByteArray) (n1 l:Nat):Bool:=
  kk == 0 || (tk == 1 || (kk == tk && ((nm1.toList == nm2.toList) && (((n1:Int) == (l:Int)) && (!(kk == 2) || num)))))
set_option maxRecDepth 100000 in
set_option maxHeartbeats 1000000 in
theorem rnoNumber_calls (g:Bool) (a1 a2:Option Addr) (l1 l2 c1 c2:Nat) (w:World) :
    Calls Tryz.prog 110 #[.agg #[.bool g,.slice a1 l1 c1,.slice a2 l2 c2]] w fun e w'=>e = .returned (.bool (!g && (((l1:Int) == 0) && ((l2:Int) == 0)))) ∧ Below w.heap.size w w':=by
  have hB:=below_alloc w (Obj.cells #[.bool g,.slice a1 l1 c1,.slice a2 l2 c2] 24)
  obtain ⟨F,hF⟩:∃ F,(!g && (((l1:Int) == 0) && ((l2:Int) == 0))) = F:=⟨_,rfl⟩
  rw [hF]
  cases g
  · by_cases h1:l1 = 0
    · subst h1
      have hF1:F = ((l2:Int) == 0):=by rw [← hF];simp
      subst hF1
      clear hF
      go_enter Tryz.func110,Tryz.ntmps110
      go_wp2
      go_ret
      exact ⟨rfl,hB⟩
    · have h1B:((l1:Int) == 0) = false:=by simp;omega
      have hF1:F = false:=by rw [← hF,h1B];rfl
      subst hF1
      clear hF
      go_enter Tryz.func110,Tryz.ntmps110
      go_wp2
      go_ret
      exact ⟨rfl,hB⟩
  · have hF1:F = false:=by rw [← hF];rfl
    subst hF1
    clear hF
    go_enter Tryz.func110,Tryz.ntmps110
    go_wp2
    go_ret
    exact ⟨rfl,hB⟩
end Go.Proofs.YtaloeffmigffaaaGreatDoor
end
section
namespace Go.Proofs.YtaloeffmigffaaaGreatDoor
open Go.RowKit Go.Big
inductive Tm where
  | mk (k v:Int) (nm:ByteArray) (g:Bool) (num den:List Nat) (args:List Tm)
mutual
def TmV (n:Nat) (w:World):Tm → List Value → Prop
  | .mk k v nm g num den args,vs=>∃ s1 s2 a c,vs = [.int .i64 k,.int .i64 v,.string nm,.bool g,s1,s2,.slice a args.length c] ∧ NumAt n w g s1 s2 num den ∧ TmsV n w args a 0 ∧ args.length ≤ 1048576 ∧ num.length ≤ 1048576 ∧ den.length ≤ 1048576
def TmsV (n:Nat) (w:World):List Tm → Option Addr → Nat → Prop
  | [],_,_=>True
  | T :: r,a,i=>(∃ b off vs,a = some ⟨b,off,none⟩ ∧ b < n ∧ (∀ (j:Nat) u,vs[j]? = some u → w.cell? ⟨b,off + i * 7 + j,none⟩ = some u) ∧ TmV n w T vs) ∧ TmsV n w r a (i + 1)
end
mutual
theorem TmV.below {n m:Nat} {w w':World} (hb:Below m w w') (hm:n ≤ m):∀ (T:Tm) (vs:List Value),TmV n w T vs → TmV n w' T vs
  | .mk k v nm g num den args,vs,h=>by
    simp only [TmV] at h ⊢
    obtain ⟨s1,s2,a,c,e,h1,h2,h3⟩:=h
    exact ⟨s1,s2,a,c,e,h1.below hb hm,TmsV.below hb hm args a 0 h2,h3⟩
theorem TmsV.below {n m:Nat} {w w':World} (hb:Below m w w') (hm:n ≤ m):∀ (L:List Tm) (a:Option Addr) (i:Nat),TmsV n w L a i → TmsV n w' L a i
  | [],_,_,_=>by simp only [TmsV]
  | T :: r,a,i,h=>by
    simp only [TmsV] at h ⊢
    obtain ⟨⟨b,off,vs,e,hbn,hc,hv⟩,hr⟩:=h
    exact ⟨⟨b,off,vs,e,hbn,fun j u hj=>((hb.mono hm).cell (p:=⟨b,off + i * 7 + j,none⟩) hbn).trans (hc j u hj),TmV.below hb hm T vs hv⟩,TmsV.below hb hm r a (i + 1) hr⟩
end
theorem TmsV.get {n:Nat} {w:World} {a:Option Addr}:∀ {L:List Tm} {i k:Nat} {T:Tm},TmsV n w L a i → L[k]? = some T → ∃ b off vs,a = some ⟨b,off,none⟩ ∧ b < n ∧ (∀ (j:Nat) u,vs[j]? = some u → w.cell? ⟨b,off + (i + k) * 7 + j,none⟩ = some u) ∧ TmV n w T vs
  | [],_,_,_,_,h=>by simp at h
  | T0 :: r,i,0,T,hs,h=>by
    simp only [TmsV] at hs
    simp at h
    subst h
    simpa using hs.1
  | T0 :: r,i,k + 1,T,hs,h=>by
    simp only [TmsV] at hs
    have:=TmsV.get hs.2 (show r[k]? = some T by simpa using h)
    rw [show i + 1 + k = i + (k + 1) by omega] at this
    exact this
mutual
def Tm.nodes:Tm → Nat
  | .mk _ _ _ _ _ _ args=>1 + Tm.nodesL args
def Tm.nodesL:List Tm → Nat
  | []=>0
  | T :: r=>Tm.nodes T + Tm.nodesL r
end
theorem nodesL_app:∀ (L M:List Tm),Tm.nodesL (L ++ M) = Tm.nodesL L + Tm.nodesL M
  | [],M=>by simp [Tm.nodesL]
  | T :: r,M=>by simp [Tm.nodesL,nodesL_app r M];omega
theorem nodesL_take {L:List Tm} {i:Nat} {T:Tm} (h:L[i]? = some T):Tm.nodesL (L.take (i + 1)) = Tm.nodesL (L.take i) + Tm.nodes T:=by
  rw [List.take_add_one,h,nodesL_app];simp [Tm.nodesL]
end Go.Proofs.YtaloeffmigffaaaGreatDoor
end
