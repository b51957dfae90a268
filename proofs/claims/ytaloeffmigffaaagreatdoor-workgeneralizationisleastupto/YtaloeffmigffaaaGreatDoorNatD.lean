/-
  A part of the proof of the card of WorkGeneralizationIsLeast (second form): lemmas that the text Card uses. No condition of its own.
-/
import Derived.Test.YtaloeffmigffaaaGreatDoorNatC
import Derived.Test.YtaloeffmigffaaaGreatDoorNatB
import Derived.Test.YtaloeffmigffaaaGreatDoorRefC
import Derived.Laws.CopyRow
set_option linter.all false
set_option linter.unusedVariables false
set_option linter.unusedSimpArgs false
section
namespace Go.Proofs.YtaloeffmigffaaaGreatDoor
open Go.RowKit Go.Big
theorem NoZ.len_eq {B M:Nat} {L:List Nat} (hB:1 < B) (h:NoZ L) (hd:∀ x ∈ L,x < B) (h1:B ^ M ≤ Go.Big.val B L) (h2:Go.Big.val B L < B ^ (M + 1)):L.length = M + 1:=by
  have hne:L ≠ []:=by
    rintro rfl
    have:0 < B ^ M:=Nat.pow_pos (by omega)
    simp [Go.Big.val] at h1
    omega
  have h3:=h.pos (B:=B) (by omega) hne
  have h4:=Go.Big.val_lt hd
  have h5:=(Nat.pow_lt_pow_iff_right hB).1 (Nat.lt_of_le_of_lt h1 h4)
  have h6:=(Nat.pow_lt_pow_iff_right hB).1 (Nat.lt_of_le_of_lt h3 h2)
  omega
theorem shifted_len {m s x:Nat} {C L:List Nat} (hs:s < 32) (hC:C.length = m + 1) (hCd:∀ y ∈ C,y < 4294967296) (hx:C[m]? = some x) (hx0:0 < x) (hxs:x * 2 ^ s < 4294967296) (hL:NoZ L) (hLd:∀ y ∈ L,y < 4294967296) (hv:val 4294967296 L = val 4294967296 C * 2 ^ s):L.length = m + 1 ∧ 4294967296 ^ m * 2 ^ s ≤ val 4294967296 L:=by
  have e:C = C.take m ++ [x]:=by rw [← take_snoc hx,List.take_of_length_le (by omega)]
  have hl:(C.take m).length = m:=by rw [List.length_take];omega
  have hlt:=val_lt (a:=C.take m) (B:=4294967296) fun y hy=>hCd y (List.mem_of_mem_take hy)
  rw [hl] at hlt
  have hcv:val 4294967296 C = val 4294967296 (C.take m) + 4294967296 ^ m * x:=by
    conv=>lhs;rw [e]
    rw [val_snoc,hl]
  have hp:0 < 2 ^ s:=Nat.pow_pos (by decide)
  obtain ⟨p,hpd⟩:∃ p,p = 2 ^ s:=⟨_,rfl⟩
  obtain ⟨M,hM⟩:∃ M,M = 2 ^ (32 - s):=⟨_,rfl⟩
  have hB:4294967296 = p * M:=by rw [hpd,hM];exact pow_split hs
  obtain ⟨W,hW⟩:∃ W,W = (4294967296:Nat) ^ m:=⟨_,rfl⟩
  rw [← hpd] at hxs hp hv ⊢
  rw [← hW] at hlt hcv ⊢
  have h1:W * 1 ≤ W * x:=Nat.mul_le_mul_left _ hx0
  have hge:W * p ≤ val 4294967296 L:=by
    rw [hv];exact Nat.mul_le_mul_right _ (by omega)
  have hxM:x + 1 ≤ M:=by
    have h5:x * p < M * p:=by rw [Nat.mul_comm M p,← hB];exact hxs
    exact Nat.lt_of_mul_lt_mul_right h5
  have hup:val 4294967296 L < W * 4294967296:=by
    rw [hv]
    have h2:val 4294967296 C < W * (x + 1):=by rw [hcv,Nat.mul_add];omega
    have h3:val 4294967296 C * p < W * (x + 1) * p:=Nat.mul_lt_mul_of_pos_right h2 hp
    have h4:W * (x + 1) * p ≤ W * M * p:=Nat.mul_le_mul_right _ (Nat.mul_le_mul_left _ hxM)
    rw [show W * 4294967296 = W * M * p by rw [hB,Nat.mul_assoc,Nat.mul_comm M p]]
    omega
  refine ⟨hL.len_eq (B:=4294967296) (by decide) hLd ?_ (by rw [Nat.pow_succ,← hW];exact hup),hge⟩
  rw [← hW]
  have:W * 1 ≤ W * p:=Nat.mul_le_mul_left _ hp
  omega
theorem DivAt.begin {V l m s J:Nat} {A La:List Nat} (hJ:J + (m + 1) = l + 1) (hA:A.length = l) (hAd:∀ y ∈ A,y < 4294967296) (hLl:La.length = l + 1) (hLd:∀ y ∈ La,y < 4294967296) (hLv:val 4294967296 La = val 4294967296 A * 2 ^ s) (hV:4294967296 ^ m * 2 ^ s ≤ V):DivAt 4294967296 (val 4294967296 La) V J (m + 1) La []:=by
  refine ⟨by omega,hLd,by simp,?_,by simp [val]⟩
  have e:=val_append 4294967296 (La.take J) (La.drop J)
  rw [List.take_append_drop,List.length_take,Nat.min_eq_left (by omega)] at e
  have h1:4294967296 ^ J * val 4294967296 (La.drop J) ≤ val 4294967296 A * 2 ^ s:=by rw [← hLv,e];exact Nat.le_add_left _ _
  have h2:=val_lt (B:=4294967296) hAd
  have hp:0 < 2 ^ s:=Nat.pow_pos (by decide)
  have h3:val 4294967296 A * 2 ^ s < 4294967296 ^ l * 2 ^ s:=by rw [← hA];exact Nat.mul_lt_mul_of_pos_right h2 hp
  have h4:(4294967296:Nat) ^ l = 4294967296 ^ J * 4294967296 ^ m:=by rw [← Nat.pow_add,show J + m = l by omega]
  rw [h4,Nat.mul_assoc] at h3
  have h5:4294967296 ^ J * val 4294967296 (La.drop J) < 4294967296 ^ J * (4294967296 ^ m * 2 ^ s):=Nat.lt_of_le_of_lt h1 h3
  exact Nat.lt_of_lt_of_le (Nat.lt_of_mul_lt_mul_left h5) hV
theorem rest_back {a c p Q u:Nat} (hp:0 < p) (h:a * p = Q * (c * p) + u) (hu:u < c * p):u / p = a % c:=by
  have hd:p ∣ u:=by
    have h1:p ∣ a * p:=Nat.dvd_mul_left _ _
    have h2:p ∣ Q * (c * p):=⟨Q * c,by rw [← Nat.mul_assoc,Nat.mul_comm]⟩
    rw [h] at h1
    exact (Nat.dvd_add_right h2).1 h1
  obtain ⟨t,rfl⟩:=hd
  rw [Nat.mul_div_cancel_left _ hp]
  have ht:t < c:=by
    rw [Nat.mul_comm p t] at hu
    exact Nat.lt_of_mul_lt_mul_right hu
  have ha:a = Q * c + t:=by
    have:a * p = (Q * c + t) * p:=by rw [h,Nat.add_mul,Nat.mul_assoc,Nat.mul_comm p t]
    exact Nat.eq_of_mul_eq_mul_right hp this
  rw [ha,Nat.mul_comm Q c,Nat.mul_add_mod,Nat.mod_eq_of_lt ht]
theorem trimmed_row {L:List Nat} {k l:Nat} (h:Trimmed L k) (hl:L.length = l):L.take k ++ (List.replicate l 0).drop k = L:=by
  conv=>rhs;rw [← List.take_append_drop k L]
  congr 1
  rw [List.drop_replicate]
  have hz:=h.2.1
  have hn:(L.drop k).length = l - k:=by rw [List.length_drop,hl]
  generalize L.drop k = D at *
  exact (List.eq_replicate_iff.2 ⟨hn,hz⟩).symm
theorem val_zeros_end (B n:Nat) (L:List Nat):val B (L ++ List.replicate n 0) = val B L:=by
  rw [val_append,val_zeros];simp
theorem setRow_drow {w:World} {g:Nat} {cur:List Nat} (new:List Nat) (h:DRow w g cur):DRow (w.setRow g ((new.map fun x:Nat=>Value.int .u32 x).toArray)) g new:=by
  unfold DRow at h ⊢
  exact setRow_heap w g _ _ 67 (0,0) h
theorem copy_limbs (w:World) (g dLen dCap:Nat) (a:Addr) (sLen sCap:Nat) (cur cs:List Nat) (hR:DRow w g cur) (hn:cs.length = Nat.min sLen dLen) (hsrc:∀ (j x:Nat),cs[j]? = some x → w.cell? (a.add j) = some (.int .u32 x)) (hfit:cs.length ≤ cur.length) :
    ∃ w',(∀ ty,(Builtin.copy_ #[22,22] ty #[.slice (some ⟨g,0,none⟩) dLen dCap,.slice (some a) sLen sCap]).run Tryz.prog w = .ok (goInt cs.length) w') ∧ DRow w' g (cs ++ cur.drop cs.length) ∧ Only g w w':=by
  obtain ⟨i0,hi,hz0,hz1,hz2⟩:=info_parts inf67
  refine ⟨w.setRow g (((cs ++ cur.drop cs.length).map fun x:Nat=>Value.int .u32 x).toArray),fun ty=>?_,setRow_drow _ hR,?_⟩
  · have:=run_copy_row (P:=Tryz.prog) w 22 22 ty 67 g 0 dLen dCap a sLen sCap ((cur.map fun x:Nat=>Value.int .u32 x).toArray) 67 (cs.map fun x:Nat=>Value.int .u32 x) Tryz.underlying22 (by rw [hi];simp [hz1]) hR (by simpa using hn) (fun j v hv=>by
      rw [List.getElem?_map] at hv
      obtain ⟨x,hx,rfl⟩:=Option.map_eq_some_iff.1 hv
      exact hsrc j x hx) (by simpa using hfit) (fun v hv=>by
      obtain ⟨y,_,rfl⟩:=List.mem_map.1 hv
      rfl)
    simpa [List.map_append,List.map_drop] using this
  · exact ⟨rfl,rfl,rfl,by simp [World.setRow],fun k hk hne=>by simp [World.setRow,Array.getElem?_modify,Ne.symm hne]⟩
theorem copy_all (w:World) (g gs k l:Nat) (La:List Nat) (hLl:La.length = l) (hT:Trimmed La k) (hR:DRow w g (List.replicate l 0)) (hS:DRow w gs La):∃ w',(∀ ty,(Builtin.copy_ #[22,22] ty #[.slice (some ⟨g,0,none⟩) l l,.slice (some ⟨gs,0,none⟩) k l]).run Tryz.prog w = .ok (goInt k) w') ∧ DRow w' g La ∧ Only g w w':=by
  have hk:=hT.1
  have hl:(La.take k).length = k:=by rw [List.length_take];omega
  obtain ⟨w',h1,h2,h3⟩:=copy_limbs w g l l ⟨gs,0,none⟩ k l (List.replicate l 0) (La.take k) hR (by rw [hl];exact (Nat.min_eq_left (by omega)).symm) (fun j x hx=>by
    have hj:j < k:=by have:=(List.getElem?_eq_some_iff.1 hx).1;omega
    rw [List.getElem?_take_of_lt hj] at hx
    have:=(hS.cell hx).1
    rw [Addr.add_lit,Nat.zero_add]
    exact this) (by rw [hl,List.length_replicate];omega)
  rw [hl] at h1 h2
  rw [trimmed_row hT hLl] at h2
  exact ⟨w',h1,h2,h3⟩
end Go.Proofs.YtaloeffmigffaaaGreatDoor
end
section
namespace Go.Proofs.YtaloeffmigffaaaGreatDoor
open Go.RowKit Go.Big
theorem CmpD.lt {A C:List Nat} {c:Int} (h:CmpD A C c) (hA:NoZ A) (hC:NoZ C) (hAd:∀ y ∈ A,y < 4294967296) (hCd:∀ y ∈ C,y < 4294967296) (hlt:val 4294967296 A < val 4294967296 C):c = -1:=by
  rcases h with ⟨_,h⟩ | ⟨h,_⟩ | ⟨hl,⟨_,h⟩ | ⟨h,_⟩ | ⟨_,h⟩⟩
  · exact h
  · have:=NoZ.len_le (B:=4294967296) (by decide) hA hCd (by omega)
    omega
  · subst h;omega
  · exact h
  · omega
theorem CmpD.ge {A C:List Nat} {c:Int} (h:CmpD A C c) (hA:NoZ A) (hC:NoZ C) (hAd:∀ y ∈ A,y < 4294967296) (hCd:∀ y ∈ C,y < 4294967296) (hge:val 4294967296 C ≤ val 4294967296 A):0 ≤ c:=by
  rcases h with ⟨h,_⟩ | ⟨_,h⟩ | ⟨hl,⟨h,_⟩ | ⟨h,h2⟩ | ⟨h,_⟩⟩
  · have:=NoZ.len_le (B:=4294967296) (by decide) hC hAd hge
    omega
  · omega
  · omega
  · omega
  · omega
set_option maxRecDepth 100000 in
set_option maxHeartbeats 4000000 in
theorem divMod_less (a1 a2:Option Addr) (len1 len2 cap1 cap2 n:Nat) (A C:List Nat) (hl1:A.length = len1) (hl2:C.length = len2) (hb1:len1 ≤ 500000) (hb2:len2 ≤ 500000) (w:World) (hn:n ≤ w.heap.size) (h1:LimAt n w a1 A) (h2:LimAt n w a2 C) (hA:NoZ A) (hC:NoZ C) (hlt:val 4294967296 A < val 4294967296 C) :
    Calls Tryz.prog 224 #[.slice a1 len1 cap1,.slice a2 len2 cap2] w fun e w'=>∃ q r,e = .returned (.tuple #[q,r]) ∧ NatL w'.heap.size w' r (val 4294967296 A % val 4294967296 C) ∧ Below w.heap.size w w':=by
  have hcm:=compare_nat_calls a1 a2 len1 len2 cap1 cap2 n A C hl1 hl2 (by omega) (by omega) w hn h1 h2
  have hcl:∀ w2,Below w.heap.size w w2 → _:=fun w2 hb=>rclone_calls (.slice a1 len1 cap1) n A (by omega) w2 (Nat.le_trans hn hb.size) ⟨a1,cap1,by rw [hl1],h1.below hb hn⟩
  have hF:Aside (NoZ A ∧ NoZ C ∧ val 4294967296 A < val 4294967296 C):=⟨hA,hC,hlt⟩
  have h1d:=h1.1
  have h2d:=h2.1
  go_enter Tryz.func224,Tryz.ntmps224
  go_wp2_with first | (go_at_call 265;with_reducible refine hcm.mono ?_;rintro e w1 ⟨c,rfl,hc,hb1⟩;obtain rfl:=hc.lt hF.out.1 hF.out.2.1 h1d h2d hF.out.2.2;have hcl2:=hcl w1 hb1) | (go_at_call 23;with_reducible refine hcl2.mono ?_;rintro e w' ⟨sv,rfl,⟨a3,c3,rfl,hL⟩,hb2⟩)
  go_ret2
  refine ⟨_,_,rfl,?_,hb1.trans (hb2.mono hb1.size)⟩
  rw [Nat.mod_eq_of_lt hF.out.2.2]
  exact ⟨a3,A,c3,by rw [hl1];rfl,hL.toAt fun k hk=>hk.2,hF.out.1,rfl⟩
set_option maxRecDepth 100000 in
set_option maxHeartbeats 4000000 in
theorem divMod_one (a1 a2:Option Addr) (len1 cap1 cap2 n d:Nat) (A:List Nat) (hl1:A.length = len1) (hb1:len1 ≤ 500000) (w:World) (hn:n ≤ w.heap.size) (h1:LimAt n w a1 A) (h2:LimAt n w a2 [d]) (hA:NoZ A) (hC:NoZ [d]) (hge:d ≤ val 4294967296 A) :
    Calls Tryz.prog 224 #[.slice a1 len1 cap1,.slice a2 1 cap2] w fun e w'=>∃ q r,e = .returned (.tuple #[q,r]) ∧ NatL w'.heap.size w' r (val 4294967296 A % d) ∧ Below w.heap.size w w':=by
  have hcm:=compare_nat_calls a1 a2 len1 1 cap1 cap2 n A [d] hl1 rfl (by omega) (by omega) w hn h1 h2
  have hd0:0 < d:=by
    have:=hC d rfl;omega
  obtain ⟨b,off,rfl,hbn,hdB,hcd⟩:=h2.get (k:=0) rfl
  have hdv:val 4294967296 [d] = d:=by simp [val]
  have hF:Aside (NoZ A ∧ NoZ [d] ∧ val 4294967296 [d] ≤ val 4294967296 A):=⟨hA,hC,by rw [hdv];exact hge⟩
  have hds:∀ w2,Below w.heap.size w w2 → _:=fun w2 hb=>divSmall_calls a1 len1 cap1 n d A hl1 (by omega) hd0 hdB w2 (Nat.le_trans hn hb.size) (h1.below hb hn)
  have hcd2:∀ w2,Below w.heap.size w w2 → w2.cell? ⟨b,off,none⟩ = some (.int .u32 d):=fun w2 hb=>(hb.cell (p:=⟨b,off,none⟩) (by show b < _;omega)).trans (by simpa using hcd)
  have h1d:=h1.1
  have h2d:=h2.1
  clear hdv hA hC hge
  go_enter Tryz.func224,Tryz.ntmps224
  go_upto_region 4 with first | (go_at_call 265;with_reducible refine hcm.mono ?_;rintro e w1 ⟨c,rfl,hc,hb1'⟩;have hc0:=hc.ge hF.out.1 hF.out.2.1 h1d h2d hF.out.2.2;have hc9:¬ c < 0:=Int.not_lt.2 hc0)
  have hds2:=hds w1 hb1'
  have k1:=hcd2 w1 hb1'
  clear hds hcd2 hcm hc
  go_upto_region 5 with first | (go_at_call 266;(with_reducible refine hds2.mono ?_);rintro e w2 ⟨q,r,rfl,hr,hq,hb2⟩;have hra:Aside (r = val 4294967296 A % d):=hr;clear hr)
  have hrB:r < 4294967296:=by rw [hra.out];exact Nat.lt_trans (Nat.mod_lt _ hd0) hdB
  have m1:IntKind.u64.wrap (r:Int) = (r:Int):=by rw [wrap_u64];omega
  have hof:=nof_calls r hrB w2
  go_wp2_with first | (go_at_call 267;with_reducible refine hof.mono ?_;rintro e w3 ⟨r3,rfl,hr3,hb3⟩)
  go_ret2
  refine ⟨_,_,rfl,?_,(hb1'.trans (hb2.mono hb1'.size)).trans (hb3.mono (Nat.le_trans hb1'.size hb2.size))⟩
  rw [← hra.out]
  exact hr3
end Go.Proofs.YtaloeffmigffaaaGreatDoor
end
section
namespace Go.Proofs.YtaloeffmigffaaaGreatDoor
open Go.RowKit Go.Big
set_option maxRecDepth 100000 in
set_option maxHeartbeats 4000000 in
theorem divMod_long (a1 a2:Option Addr) (len1 m cap1 cap2 n:Nat) (A C:List Nat) (hl1:A.length = len1) (hl2:C.length = m + 2) (hb1:len1 ≤ 500000) (w:World) (hn:n ≤ w.heap.size) (h1:LimAt n w a1 A) (h2:LimAt n w a2 C) (hA:NoZ A) (hC:NoZ C) (hge:val 4294967296 C ≤ val 4294967296 A) :
    Calls Tryz.prog 224 #[.slice a1 len1 cap1,.slice a2 (m + 2) cap2] w fun e w'=>∃ q r,e = .returned (.tuple #[q,r]) ∧ NatL w'.heap.size w' r (val 4294967296 A % val 4294967296 C) ∧ Below w.heap.size w w':=by
  have h1d:=h1.1
  have h2d:=h2.1
  have hlen:m + 2 ≤ len1:=by
    have:=NoZ.len_le (B:=4294967296) (by decide) hC h1d hge
    omega
  obtain ⟨jq,hjq⟩:∃ jq,jq + (m + 2) = len1 + 1:=⟨len1 + 1 - (m + 2),by omega⟩
  have hcm:=compare_nat_calls a1 a2 len1 (m + 2) cap1 cap2 n A C hl1 hl2 (by omega) (by omega) w hn h1 h2
  obtain ⟨x,hx⟩:∃ x,C[m + 1]? = some x:=⟨_,List.getElem?_eq_getElem (by omega)⟩
  have hx0:0 < x:=by
    have:=hC x (by rw [List.getLast?_eq_getElem?,hl2];exact hx)
    omega
  obtain ⟨b,off,rfl,hbn,hxB,hcx⟩:=h2.get hx
  have hF:Aside (NoZ A ∧ NoZ C ∧ val 4294967296 C ≤ val 4294967296 A):=⟨hA,hC,hge⟩
  have hw1:IntKind.i64.wrap ((m:Int) + 2 - 1) = (m:Int) + 1:=by rw [IntKind.wrap_i64];omega
  have hw2:IntKind.i64.wrap ((len1:Int) + 1) = (len1:Int) + 1:=by rw [IntKind.wrap_i64];omega
  have hi1:(m:Int) + 1 < (m:Int) + 2:=by omega
  have hi2:(0:Int) ≤ (m:Int) + 1:=by omega
  have hne1:((m:Int) + 2 == 1) = false:=by simp;omega
  have hJ:Aside (jq + (m + 2) = len1 + 1 ∧ m + 2 ≤ len1):=⟨hjq,hlen⟩
  clear hA hC hge hlen hjq
  go_enter Tryz.func224,Tryz.ntmps224
  go_upto_region 6 with first | (go_at_call 265;with_reducible refine hcm.mono ?_;rintro e w1 ⟨c,rfl,hc,hb1'⟩;have hc0:=hc.ge hF.out.1 hF.out.2.1 h1d h2d hF.out.2.2;have hc9:¬ c < 0:=Int.not_lt.2 hc0)
  have hcx1:w1.cell? ⟨b,off + (m + 1),none⟩ = some (.int .u32 x):=(hb1'.cell (p:=⟨b,off + (m + 1),none⟩) (by show b < _;omega)).trans hcx
  have hlz:=lz_calls x hx0 hxB w1
  clear hcm hc hcx
  go_upto_region 7 with first | (go_at_call 268;with_reducible refine hlz.mono ?_;rintro e wz ⟨s,rfl,hs,hxs,ez⟩;obtain rfl:=ez.symm)
  have hb1:=hb1'
  have h1':=h1.below hb1 hn
  have h2':=h2.below hb1 hn
  have hn1:n ≤ w1.heap.size:=Nat.le_trans hn hb1.size
  have hsh:=shl_calls (some ⟨b,off,none⟩) (m + 2) cap2 n s C hl2 (by have:=hJ.out;omega) hs (by omega) h2d w1 hn1 h2'
  have hs9:Aside (x * 2 ^ s < 4294967296):=hxs
  clear hlz hxs hcx1 hw1
  go_upto_region 8 with first | (go_at_call 269;(with_reducible refine hsh.mono ?_);rintro e w2 ⟨L,k,rfl,hL1,hL2,hL3,hL4,hL5,hb2⟩)
  obtain ⟨hkl,hVge⟩:=shifted_len (m:=m + 1) hs hl2 h2d hx hx0 hs9.out hL4.noZ (fun y hy=>hL2 y (List.mem_of_mem_take hy)) (hL4.val.trans hL3)
  obtain rfl:k = m + 2:=by have:=hL4.1;rw [List.length_take] at hkl;omega
  obtain ⟨vs,hvs⟩:∃ vs,vs = L.take (m + 2):=⟨_,rfl⟩
  rw [← hvs] at hkl hVge
  have hvsv:val 4294967296 vs = val 4294967296 C * 2 ^ s:=by rw [hvs];exact hL4.val.trans hL3
  have hvsB:∀ y ∈ vs,y < 4294967296:=fun y hy=>hL2 y (List.mem_of_mem_take (hvs ▸ hy))
  have hvsz:NoZ vs:=hvs ▸ hL4.noZ
  have hvr:∀ (j y:Nat),vs[j]? = some y → w2.cell? ⟨w1.heap.size,0 + j,none⟩ = some (.int .u32 y):=fun j y hy=>by
    have hj:=(List.getElem?_eq_some_iff.1 hy).1
    rw [Nat.zero_add]
    refine (hL5.cell ?_).1
    rw [hvs,List.getElem?_take_of_lt (by omega)] at hy
    exact hy
  have hV9:Aside (vs.length = m + 2 ∧ 4294967296 ^ (m + 1) * 2 ^ s ≤ val 4294967296 vs ∧ val 4294967296 vs = val 4294967296 C * 2 ^ s ∧ NoZ vs):=⟨hkl,hVge,hvsv,hvsz⟩
  obtain ⟨bv,hbv⟩:∃ bv,bv = w1.heap.size:=⟨_,rfl⟩
  rw [← hbv] at hvr ⊢
  have hbv2:bv < w2.heap.size:=hbv ▸ hL5.lt
  have hbw:w.heap.size ≤ bv:=hbv ▸ hb1.size
  have hB2:Below w.heap.size w w2:=hb1.trans (hb2.mono hb1.size)
  obtain ⟨w3,hw3⟩:∃ w3,w2.alloc (zerosObj (len1 + 1)) = w3:=⟨_,rfl⟩
  have mk:(Instr.makeSlice 22 (.int .i64 ((len1:Int) + 1)) (.int .i64 ((len1:Int) + 1))).run Tryz.prog w2 = _:=mkLimbs_run (len1 + 1) (by omega) w2
  have hR3:DRow w3 w2.heap.size (List.replicate (len1 + 1) 0):=hw3 ▸ zeros_row w2 _
  have hb3:Below w2.heap.size w2 w3:=hw3 ▸ zeros_below w2 _
  have hB3:Below w.heap.size w w3:=hB2.trans (hb3.mono hB2.size)
  have h1'':=h1.below hB3 hn
  have hsh2:=shl_calls a1 len1 cap1 n s A hl1 (by omega) hs (by have:=hJ.out;omega) h1d w3 (Nat.le_trans hn hB3.size) h1''
  clear hL1 hL2 hL3 hL4 hL5 hvs hkl hVge hvsv hvsz hsh hbv h1' h2' hn1 hx hs9 hb2 hb1
  clear h1''
  go_upto_region 9 with fail
  clear mk hw3
  obtain ⟨bo,hbo⟩:∃ bo,bo = w2.heap.size:=⟨_,rfl⟩
  rw [← hbo] at hR3 hbv2 ⊢
  have hob:w.heap.size ≤ bo:=hbo ▸ hB2.size
  have hov:bv ≠ bo:=by omega
  have hv3:∀ (j y:Nat),vs[j]? = some y → w3.cell? ⟨bv,0 + j,none⟩ = some (.int .u32 y):=fun j y hy=>(hb3.cell (p:=⟨bv,0 + j,none⟩) (by show bv < _;omega)).trans (hvr j y hy)
  have hv3l:bv < w3.heap.size:=by have:=hR3.lt;omega
  clear hvr hb3 hbo hbv2
  go_upto_region 10 with first | (go_at_call 269;(with_reducible refine hsh2.mono ?_);rintro e w4 ⟨La,kA,rfl,hM1,hM2,hM3,hM4,hM5,hb4⟩;obtain ⟨w5,hcp,hR5,hO5⟩:=copy_all w4 bo w3.heap.size kA (len1 + 1) La hM1 hM4 ((hb4.block bo hR3.lt).trans hR3) hM5)
  have hO45:Only bo w3 w5:=(Only.of_below hb4).trans hO5
  have hv5:∀ (j y:Nat),vs[j]? = some y → w5.cell? ⟨bv,0 + j,none⟩ = some (.int .u32 y):=fun j y hy=>(hO45.cell (p:=⟨bv,0 + j,none⟩) hv3l hov).trans (hv3 j y hy)
  have hv5l:bv < w5.heap.size:=Nat.lt_of_lt_of_le hv3l hO45.size
  have hB5:Below w.heap.size w w5:=hB3.trans (hO45.toBelow hob hB3.size)
  obtain ⟨w6,hw6⟩:∃ w6,w5.alloc (zerosObj jq) = w6:=⟨_,rfl⟩
  have mk:(Instr.makeSlice 22 (.int .i64 (jq:Int)) (.int .i64 (jq:Int))).run Tryz.prog w5 = _:=mkLimbs_run jq (by have:=hJ.out;omega) w5
  have hRq:DRow w6 w5.heap.size (List.replicate jq 0):=hw6 ▸ zeros_row w5 _
  have hb6:Below w5.heap.size w5 w6:=hw6 ▸ zeros_below w5 _
  have hR6:DRow w6 bo La:=(hb6.block bo hR5.lt).trans hR5
  obtain ⟨bq,hbq⟩:∃ bq,bq = w5.heap.size:=⟨_,rfl⟩
  rw [← hbq] at hRq mk
  have hoq:bo ≠ bq:=by have:=hR5.lt;omega
  have hvq:bv ≠ bq:=by omega
  have hv6:∀ (j y:Nat),vs[j]? = some y → w6.cell? ⟨bv,0 + j,none⟩ = some (.int .u32 y):=fun j y hy=>(hb6.cell (p:=⟨bv,0 + j,none⟩) hv5l).trans (hv5 j y hy)
  have hv6l:bv < w6.heap.size:=Nat.lt_of_lt_of_le hv5l hb6.size
  have hB6:Below w.heap.size w w6:=hB5.trans (hb6.mono hB5.size)
  have hqw:w.heap.size ≤ bq:=hbq ▸ hB5.size
  have hDA:Aside (DivAt 4294967296 (val 4294967296 La) (val 4294967296 vs) jq (m + 1 + 1) La []):=DivAt.begin (l:=len1) (by have:=hJ.out;omega) hl1 h1d hM1 hM2 hM3 hV9.out.2.1
  have hLv:Aside (val 4294967296 La = val 4294967296 A * 2 ^ s):=hM3
  have hsub:IntKind.i64.wrap ((len1:Int) + 1 - ((m:Int) + 2)) = (jq:Int):=by rw [IntKind.wrap_i64];have:=hJ.out;omega
  have hsub2:IntKind.i64.wrap ((jq:Int) - 1) = (jq:Int) - 1:=by rw [IntKind.wrap_i64];have:=hJ.out;omega
  have hStart:Aside (DRow w6 bo La ∧ DRow w6 bq (List.replicate jq 0) ∧ Below w.heap.size w w6 ∧ (∀ (j y:Nat),vs[j]? = some y → w6.cell? ⟨bv,0 + j,none⟩ = some (.int .u32 y)) ∧ bv < w6.heap.size ∧ w.heap.size ≤ bo ∧ w.heap.size ≤ bq):=⟨hR6,hRq,hB6,hv6,hv6l,hob,hqw⟩
  clear hsh2 hM1 hM2 hM3 hM4 hM5 hcp hR5 hO5 hb4 hR3 hv3 hv3l hO45 hv5 hv5l hB5 hR6 hRq hB6 hv6 hv6l hb6 hbq hB3 hB2 hob hqw hbw
  go_wp2_with fail
  clear mk hw6 ez
  go_loopw [12] (fun s12 wr=>∃ (J:Nat) (u qs qr:List Nat),s12 = .int .i64 ((J:Int) - 1) ∧ Aside (DivAt 4294967296 (val 4294967296 La) (val 4294967296 vs) J (m + 1 + 1) u qs ∧ J ≤ jq ∧ qr.length = jq ∧ ∀ y ∈ qr,y < 4294967296) ∧ DRow wr bo (u ++ List.replicate (jq - J) 0) ∧ DRow wr bq qr ∧ (∀ (j y:Nat),vs[j]? = some y → wr.cell? ⟨bv,0 + j,none⟩ = some (.int .u32 y)) ∧ Below w.heap.size w wr) (fun s _=>(intOf s + 1).toNat)
  case atStart=>exact ⟨jq,La,[],List.replicate jq 0,rfl,⟨hDA.out,Nat.le_refl _,by simp,fun y hy=>by rw [(List.mem_replicate.1 hy).2];decide⟩,by simpa using hStart.out.1,hStart.out.2.1,hStart.out.2.2.2.1,hStart.out.2.2.1⟩
  case round=>
    obtain ⟨J,u,qs,qr,rfl,hD,hRu,hRq,hv,hB⟩:=hrel
    by_cases hJ0:J = 0
    · subst hJ0
      obtain ⟨hDv,-,hql,hqB⟩:=hD.out
      obtain ⟨e1,e2⟩:=hDv.done
      have hul:=hDv.len
      have huB:=hDv.dig
      rw [Nat.sub_zero] at hRu
      obtain ⟨row,hrow⟩:∃ row,row = u ++ List.replicate jq 0:=⟨_,rfl⟩
      rw [← hrow] at hRu
      have hrl:row.length = len1 + 1:=by rw [hrow,List.length_append,List.length_replicate];have:=hJ.out;omega
      have hrB:∀ y ∈ row,y < 4294967296:=fun y hy=>by
        rw [hrow] at hy
        rcases List.mem_append.1 hy with hy | hy
        · exact huB y hy
        · rw [(List.mem_replicate.1 hy).2];decide
      have hrv:val 4294967296 row = val 4294967296 u:=by rw [hrow];exact val_zeros_end _ _ _
      have hres:val 4294967296 row / 2 ^ s = val 4294967296 A % val 4294967296 C:=by
        rw [hrv]
        refine rest_back (Q:=val 4294967296 qs) (Nat.pow_pos (by decide)) ?_ ?_
        · rw [← hLv.out,← hV9.out.2.2.1];exact e1
        · rw [← hV9.out.2.2.1];exact e2
      have ht1:=ntrim_calls (some ⟨bo,0,none⟩) (len1 + 1) (len1 + 1) wr.heap.size row hrl (by omega) (Nat.le_refl _) wr (Nat.le_refl _) (by
        have:=hRu.lim0 hrB hRu.lt (len1 + 1)
        rwa [List.take_of_length_le (by omega)] at this)
      have hEn:Aside (val 4294967296 row / 2 ^ s = val 4294967296 A % val 4294967296 C ∧ row.length = len1 + 1 ∧ (∀ y ∈ row,y < 4294967296) ∧ qr.length = jq ∧ (∀ y ∈ qr,y < 4294967296)):=⟨hres,hrl,hrB,hql,hqB⟩
      clear hDv hql hqB e1 e2 hul huB hrow hrl hrB hrv hres hD
      go_upto_region 17 with first | (go_at_call 272;(with_reducible refine ht1.mono ?_);rintro e w8 ⟨k8,rfl,hT8,hb8⟩;have hsr:=shr_calls (some ⟨bo,0,none⟩) k8 (len1 + 1) w8.heap.size s (row.take k8) (by rw [List.length_take];exact Nat.min_eq_left hT8.1) (by have:=hT8.1;have:=hEn.out.2.1;omega) hs (by have:=hT8.1;have:=hEn.out.2.1;omega) w8 (Nat.le_refl _) (DRow.lim0 (w:=w8) ((hb8.block bo hRu.lt).trans hRu) hEn.out.2.2.1 (Nat.lt_of_lt_of_le hRu.lt hb8.size) k8)) | (go_at_call 271;(with_reducible refine hsr.mono ?_);rintro e w9 ⟨r,xx,rfl,hr,hb9⟩)
      have hb89:=hb8.trans (hb9.mono hb8.size)
      have hRq9:DRow w9 bq qr:=(hb89.block bq hRq.lt).trans hRq
      have ht2:=ntrim_calls (some ⟨bq,0,none⟩) jq jq w9.heap.size qr hEn.out.2.2.2.1 (by have:=hJ.out;omega) (Nat.le_refl _) w9 (Nat.le_refl _) (by
        have:=hRq9.lim0 hEn.out.2.2.2.2 hRq9.lt jq
        rwa [List.take_of_length_le (by rw [hEn.out.2.2.2.1];exact Nat.le_refl _)] at this)
      have hrA:Aside (NatL w9.heap.size w9 r (val 4294967296 (row.take k8) / 2 ^ s) ∧ Trimmed row k8):=⟨hr,hT8⟩
      clear hr hT8 ht1 hsr
      go_wp2_with first | (go_at_call 272;(with_reducible refine ht2.mono ?_);rintro e w10 ⟨k10,rfl,hT10,hb10⟩)
      go_ret2
      refine ⟨_,_,rfl,?_,hB.trans ((hb89.mono hB.size).trans (hb10.mono (Nat.le_trans hB.size hb89.size)))⟩
      rw [← hEn.out.1,← hrA.out.2.val]
      exact (hrA.out.1.below hb10 (Nat.le_refl _)).up hb10.size
    · obtain ⟨j,rfl⟩:∃ j,J = j + 1:=⟨J - 1,by omega⟩
      obtain ⟨hDv,hjq,hql,hqB⟩:=hD.out
      have hul:=hDv.len
      obtain ⟨lo,hlo⟩:∃ lo,lo = u.take j:=⟨_,rfl⟩
      obtain ⟨us,hus⟩:∃ us,us = (u.drop j).take (m + 2):=⟨_,rfl⟩
      obtain ⟨un,hun⟩:∃ un,u[j + (m + 2)]? = some un:=⟨_,List.getElem?_eq_getElem (by omega)⟩
      have hlol:lo.length = j:=by rw [hlo,List.length_take];omega
      have husl:us.length = m + 2:=by rw [hus,List.length_take,List.length_drop];omega
      have hmid:u.drop j = us ++ [un]:=by
        have h9:(u.drop j)[m + 2]? = some un:=by rw [List.getElem?_drop];exact hun
        rw [hus,← take_snoc h9,List.take_of_length_le (by rw [List.length_drop];omega)]
      have hu:u = lo ++ (us ++ [un]):=by rw [hlo,← hmid,List.take_append_drop]
      clear hlo hus hun hmid
      subst hu
      have hunB:un < 4294967296:=hDv.dig un (by simp)
      have husB:∀ y ∈ us,y < 4294967296:=fun y hy=>hDv.dig y (by simp [hy])
      have hmidv:val 4294967296 (us ++ [un]) = val 4294967296 us + 4294967296 ^ (m + 2) * un:=by rw [val_snoc,husl]
      have hUV:=hDv.below hlol
      rw [hmidv] at hUV
      obtain ⟨hi,hhi⟩:∃ hi,hi = List.replicate (jq - (j + 1)) 0:=⟨_,rfl⟩
      have hRu2:DRow wr bo (lo ++ us ++ un :: hi):=by
        rw [← hhi] at hRu
        simpa using hRu
      have hv1p:∀ y,vs[m + 1]? = some y → 0 < y:=fun y hy=>by
        have:=hV9.out.2.2.2 y (by rw [List.getLast?_eq_getElem?,hV9.out.1];exact hy)
        omega
      have hov2:bo ≠ bv:=Ne.symm hov
      have hdg:=digit_calls bo j bv 0 m (len1 + 1 - j) (m + 2 + 1) lo us hi vs un (by have:=hJ.out;omega) hunB husB hvsB hv1p hlol husl hV9.out.1 wr hRu2 hov2 hv hUV
      have hjJ:j + (m + 2) + 1 ≤ len1 + 1:=by have:=hJ.out;omega
      have k1:IntKind.i64.wrap ((j:Int) + ((m:Int) + 2)) = (j:Int) + ((m:Int) + 2):=by rw [IntKind.wrap_i64];omega
      have k2:IntKind.i64.wrap ((j:Int) + ((m:Int) + 2) + 1) = (j:Int) + ((m:Int) + 2) + 1:=by rw [IntKind.wrap_i64];omega
      have hi5:(0:Int) ≤ (j:Int):=by omega
      have hi6:(j:Int) < (jq:Int):=by omega
      have hwk:IntKind.i64.wrap ((j:Int) - 1) = (j:Int) - 1:=by rw [IntKind.wrap_i64];omega
      have k3:(j:Int) + ((m:Int) + 2) + 1 ≤ (len1:Int) + 1:=by omega
      have k4:(j:Int) ≤ (j:Int) + ((m:Int) + 2) + 1:=by omega
      have k5:(0:Int) ≤ (j:Int) + ((m:Int) + 2) + 1:=by omega
      have kl:j + (m + 2) + 1 - j = m + 2 + 1:=by omega
      obtain ⟨y0,hy0⟩:∃ y,qr[j]? = some y:=⟨_,List.getElem?_eq_getElem (by omega)⟩
      have hSt:Aside (DivAt 4294967296 (val 4294967296 La) (val 4294967296 vs) (j + 1) (m + 1 + 1) (lo ++ (us ++ [un])) qs ∧ j + 1 ≤ jq ∧ qr.length = jq ∧ (∀ y ∈ qr,y < 4294967296) ∧ val 4294967296 (us ++ [un]) = val 4294967296 us + 4294967296 ^ (m + 2) * un ∧ hi = List.replicate (jq - (j + 1)) 0 ∧ lo.length = j):=⟨hDv,hjq,hql,hqB,hmidv,hhi,hlol⟩
      clear hD hDv hjq hql hqB hul hmidv hhi hUV hRu hRu2 hlol husl hunB husB hv1p
      go_wp2_with first | (go_at_call 270;(rw [kl]);(with_reducible refine hdg.mono ?_);rintro e w7 ⟨q,es,rfl,hq2,hel,hesB,hes1,hes2,hRe,hO⟩;have hRq2:DRow w7 bq qr:=(hO.block bq hRq.lt (Ne.symm hoq)).trans hRq;obtain ⟨c0,c1⟩:=hRq2.cell hy0;have hEA:Aside (val 4294967296 us + 4294967296 ^ (m + 2) * un = q * val 4294967296 vs + val 4294967296 es ∧ es.length = m + 2):=⟨hes1,hel⟩;clear hes1 hel)
      obtain ⟨hDv,hjq,hql,hqB,hmidv,hhi,hlol⟩:=hSt.out
      obtain ⟨hes1,hel⟩:=hEA.out
      have hstep:=DivAt.step (lo:=lo) (mid:=us ++ [un]) hDv hlol hq2 hesB hel (by rw [hmidv];exact hes1) hes2
      have hOs:=Only.set w7 bq j (.int .u32 q)
      have hRow:lo ++ es ++ List.replicate (jq - j) 0 = lo ++ es ++ 0 :: hi:=by
        rw [show jq - j = jq - (j + 1) + 1 by omega,List.replicate_succ,hhi]
      refine ⟨⟨j,lo ++ es,q :: qs,qr.set j q,rfl,⟨hstep,by omega,by rw [List.length_set];exact hql,fun y hy=>?_⟩,?_,hRq2.set,fun j' y hy=>?_,?_⟩,by simp [intOf]⟩
      · rcases List.mem_or_eq_of_mem_set hy with hy | rfl
        · exact hqB y hy
        · exact hq2
      · rw [hRow]
        exact (hOs.block bo hRe.lt hoq).trans hRe
      · have hlv:=block_lt_of_cell (hv j' y hy)
        exact ((hOs.cell (p:=⟨bv,0 + j',none⟩) (Nat.lt_of_lt_of_le hlv hO.size) hvq).trans (hO.cell (p:=⟨bv,0 + j',none⟩) hlv hov)).trans (hv j' y hy)
      · have h9:=hB.trans (hO.toBelow hStart.out.2.2.2.2.2.1 hB.size)
        exact h9.setCell (p:=⟨bq,j,none⟩) hStart.out.2.2.2.2.2.2 _
end Go.Proofs.YtaloeffmigffaaaGreatDoor
end
section
namespace Go.Proofs.YtaloeffmigffaaaGreatDoor
open Go.RowKit Go.Big
theorem NoZ.pos' {C:List Nat} (h:NoZ C) (hne:C ≠ []):0 < val 4294967296 C:=by
  have:=h.pos (B:=4294967296) (by decide) hne
  have h2:0 < (4294967296:Nat) ^ (C.length - 1):=Nat.pow_pos (by decide)
  omega
theorem divMod_calls (a1 a2:Option Addr) (len1 len2 cap1 cap2 n:Nat) (A C:List Nat) (hl1:A.length = len1) (hl2:C.length = len2) (hb1:len1 ≤ 500000) (hb2:len2 ≤ 500000) (w:World) (hn:n ≤ w.heap.size) (h1:LimAt n w a1 A) (h2:LimAt n w a2 C) (hA:NoZ A) (hC:NoZ C) (hne:C ≠ []) :
    Calls Tryz.prog 224 #[.slice a1 len1 cap1,.slice a2 len2 cap2] w fun e w'=>∃ q r,e = .returned (.tuple #[q,r]) ∧ NatL w'.heap.size w' r (val 4294967296 A % val 4294967296 C) ∧ Below w.heap.size w w':=by
  by_cases hlt:val 4294967296 A < val 4294967296 C
  · exact divMod_less a1 a2 len1 len2 cap1 cap2 n A C hl1 hl2 hb1 hb2 w hn h1 h2 hA hC hlt
  · have hge:val 4294967296 C ≤ val 4294967296 A:=by omega
    match C,len2,hl2,hne with
    | [d],_,rfl,_=>
      have hdv:val 4294967296 [d] = d:=by simp [val]
      have:=divMod_one a1 a2 len1 cap1 cap2 n d A hl1 hb1 w hn h1 h2 hA hC (by rw [← hdv];exact hge)
      rw [hdv]
      exact this
    | d1 :: d2 :: D,_,rfl,_=>exact divMod_long a1 a2 len1 D.length cap1 cap2 n A (d1 :: d2 :: D) hl1 (by simp) hb1 w hn h1 h2 hA hC hge
def limbN (w:World) (b off j:Nat):Nat:=match w.cell? ⟨b,off + j,none⟩ with
  | some (.int _ x)=>x.toNat
  | _=>0
def readL (s:Value) (w:World):Nat:=match s with
  | .slice (some ⟨b,off,none⟩) k _=>val 4294967296 ((List.range k).map (limbN w b off))
  | _=>0
theorem NatL.read {n:Nat} {w:World} {r:Value} {v:Nat} (h:NatL n w r v):readL r w = v:=by
  obtain ⟨a,L,c,rfl,h1,_,rfl⟩:=h
  by_cases hne:L = []
  · subst hne
    unfold readL
    split
    · rename_i e;cases e;rfl
    · rfl
  · obtain ⟨b,off,rfl,_,hc⟩:=h1.2 hne
    show val 4294967296 ((List.range L.length).map (limbN w b off)) = _
    congr 1
    apply List.ext_getElem
    · simp
    · intro j h3 h4
      have:=hc j L[j] (List.getElem?_eq_getElem h4)
      simp [limbN,this]
theorem NoZ.len_pow {L:List Nat} {M:Nat} (h:NoZ L) (hv:val 4294967296 L < 4294967296 ^ M):L.length ≤ M:=by
  by_cases hne:L = []
  · subst hne;simp
  · have h1:=h.pos (B:=4294967296) (by decide) hne
    have:=(Nat.pow_lt_pow_iff_right (show 1 < 4294967296 by decide)).1 (Nat.lt_of_le_of_lt h1 hv)
    omega
set_option maxRecDepth 100000 in
set_option maxHeartbeats 4000000 in
theorem ngcd_calls (r1 r2:Value) (n a c M:Nat) (hM:M ≤ 500000) (ha:a < 4294967296 ^ M) (hc:c < 4294967296 ^ M) (w:World) (hn:n ≤ w.heap.size) (h1:NatL n w r1 a) (h2:NatL n w r2 c) :
    Calls Tryz.prog 180 #[r1,r2] w fun e w'=>∃ r,e = .returned r ∧ NatL w'.heap.size w' r (Nat.gcd a c) ∧ Below w.heap.size w w':=by
  have hw0:Aside (NatL w.heap.size w r1 a ∧ NatL w.heap.size w r2 c ∧ a < 4294967296 ^ M ∧ c < 4294967296 ^ M):=⟨h1.up hn,h2.up hn,ha,hc⟩
  clear hn h1 h2 ha hc
  go_enter Tryz.func180,Tryz.ntmps180
  go_wp2_with fail
  go_loopw [0,1] (fun s0 s1 wr=>∃ (x y:Nat),Aside (NatL wr.heap.size wr s0 x ∧ NatL wr.heap.size wr s1 y ∧ Nat.gcd x y = Nat.gcd a c ∧ x < 4294967296 ^ M ∧ y < 4294967296 ^ M ∧ Below w.heap.size w wr)) (fun _ s wr=>readL s wr)
  case atStart=>exact ⟨a,c,hw0.out.1,hw0.out.2.1,rfl,hw0.out.2.2.1,hw0.out.2.2.2,Below.refl _ _⟩
  case round=>
    obtain ⟨x,y,hR⟩:=hrel
    obtain ⟨⟨a1,L1,c1,rfl,hA1,hA2,hA3⟩,⟨a2,L2,c2,rfl,hC1,hC2,hC3⟩,hg,hx,hy,hB⟩:=hR.out
    have hl1:=hA2.len_pow (M:=M) (by rw [hA3];exact hx)
    have hl2:=hC2.len_pow (M:=M) (by rw [hC3];exact hy)
    by_cases hne:L2 = []
    · subst hne
      have hcl:=rclone_calls (.slice a1 L1.length c1) wr.heap.size L1 (by omega) wr (Nat.le_refl _) ⟨a1,c1,rfl,hA1⟩
      have hF:Aside (Nat.gcd a c = x ∧ NoZ L1 ∧ val 4294967296 L1 = x):=⟨by rw [← hg,← hC3];simp [val],hA2,hA3⟩
      clear hA1 hA2 hA3 hC1 hC2 hC3 hg hx hy hl1 hl2 hR
      go_wp2_with first | (go_at_call 23;(with_reducible refine hcl.mono ?_);rintro e w' ⟨sv,rfl,⟨a3,c3,rfl,hL⟩,hb2⟩)
      go_ret
      refine ⟨_,rfl,?_,hB.trans (hb2.mono hB.size)⟩
      rw [hF.out.1]
      exact ⟨a3,L1,c3,rfl,hL.toAt fun k hk=>hk.2,hF.out.2.1,hF.out.2.2⟩
    · have hdm:=divMod_calls a1 a2 L1.length L2.length c1 c2 wr.heap.size L1 L2 rfl rfl (by omega) (by omega) wr (Nat.le_refl _) hA1 hC1 hA2 hC2 hne
      rw [hA3,hC3] at hdm
      have hy0:0 < y:=hC3 ▸ hC2.pos' hne
      have hlp:0 < L2.length:=by
        rcases L2 with _ | ⟨d,D⟩
        · exact absurd rfl hne
        · simp
      have hF:Aside (NatL wr.heap.size wr (.slice a2 L2.length c2) y ∧ 0 < y ∧ Nat.gcd x y = Nat.gcd a c ∧ y < 4294967296 ^ M):=⟨⟨a2,L2,c2,rfl,hC1,hC2,hC3⟩,hy0,hg,hy⟩
      clear hA1 hA2 hA3 hC1 hC2 hC3 hg hx hy hl1 hl2 hR hne hy0
      go_wp2_with first | (go_at_call 224;(with_reducible refine hdm.mono ?_);rintro e w' ⟨q,r,rfl,hr,hb2⟩)
      obtain ⟨f1,f2,f3,f4⟩:=hF.out
      refine ⟨⟨y,x % y,(f1.below hb2 (Nat.le_refl _)).up hb2.size,hr,?_,f4,Nat.lt_trans (Nat.mod_lt _ f2) f4,hB.trans (hb2.mono hB.size)⟩,?_⟩
      · rw [Nat.gcd_comm,← Nat.gcd_rec,Nat.gcd_comm];exact f3
      · rw [hr.read,f1.read];exact Nat.mod_lt _ f2
end Go.Proofs.YtaloeffmigffaaaGreatDoor
end
section
namespace Go.Proofs.YtaloeffmigffaaaGreatDoor
open Go.RowKit Go.Big
set_option maxRecDepth 100000 in
set_option maxHeartbeats 4000000 in
theorem isOne_calls (a:Option Addr) (len cap n:Nat) (L:List Nat) (hl:L.length = len) (w:World) (h1:LimAt n w a L):Calls Tryz.prog 179 #[.slice a len cap] w fun e w'=>e = .returned (.bool (decide (L = [1]))) ∧ w' = w:=by
  by_cases h:len = 1
  · subst h
    obtain ⟨x,rfl⟩:∃ x,L = [x]:=by
      match L,hl with
      | [x],_=>exact ⟨x,rfl⟩
    obtain ⟨b,off,rfl,hb,hx,hc⟩:=h1.get (k:=0) rfl
    have hc':w.cell? ⟨b,off,none⟩ = some (.int .u32 x):=by simpa using hc
    clear hc hl
    by_cases hx1:x = 1
    · subst hx1
      go_enter Tryz.func179,Tryz.ntmps179
      go_wp2_with fail
      go_ret
      exact ⟨rfl,rfl⟩
    · have hxB:((x:Int) == 1) = false:=by simp;omega
      have hd:decide ([x] = [1]) = false:=by simp [hx1]
      rw [hd]
      go_enter Tryz.func179,Tryz.ntmps179
      go_wp2_with fail
      go_ret
      exact ⟨rfl,rfl⟩
  · have hlB:((len:Int) == 1) = false:=by simp;omega
    have hd:decide (L = [1]) = false:=by
      rw [decide_eq_false_iff_not];rintro rfl;exact h hl.symm
    rw [hd]
    go_enter Tryz.func179,Tryz.ntmps179
    go_wp2_with fail
    go_ret
    exact ⟨rfl,rfl⟩
set_option maxRecDepth 100000 in
set_option maxHeartbeats 4000000 in
theorem last_calls (a:Option Addr) (len cap n:Nat) (L:List Nat) (hl:L.length = len) (hb:len < 4611686018427387904) (w:World) (h1:LimAt n w a L):Calls Tryz.prog 178 #[.slice a len cap] w fun e w'=>e = .returned (.bool (decide (L.getLast? = some 0))) ∧ w' = w:=by
  by_cases h:len = 0
  · subst h
    obtain rfl:L = []:=List.length_eq_zero_iff.1 hl
    go_enter Tryz.func178,Tryz.ntmps178
    go_wp2_with fail
    go_ret
    exact ⟨rfl,rfl⟩
  · obtain ⟨k,rfl⟩:∃ k,len = k + 1:=⟨len - 1,by omega⟩
    obtain ⟨x,hx⟩:∃ x,L[k]? = some x:=⟨_,List.getElem?_eq_getElem (by omega)⟩
    have hlast:L.getLast? = some x:=by rw [List.getLast?_eq_getElem?,hl,Nat.add_sub_cancel];exact hx
    obtain ⟨b,off,rfl,hbn,hxB,hc⟩:=h1.get hx
    have hw1:IntKind.i64.wrap ((k:Int) + 1 - 1) = (k:Int):=by rw [IntKind.wrap_i64];omega
    have hj1:(k:Int) < (k:Int) + 1:=by omega
    have hj2:(0:Int) ≤ (k:Int):=by omega
    have hj3:(0:Int) < (k:Int) + 1:=by omega
    rw [hlast]
    clear hlast hx hl
    by_cases hx0:x = 0
    · subst hx0
      go_enter Tryz.func178,Tryz.ntmps178
      go_wp2_with fail
      go_ret
      exact ⟨rfl,rfl⟩
    · have hxz:((x:Int) == 0) = false:=by simp;omega
      have hd:decide (some x = some 0) = false:=by simp [hx0]
      rw [hd]
      go_enter Tryz.func178,Tryz.ntmps178
      go_wp2_with fail
      go_ret
      exact ⟨rfl,rfl⟩
end Go.Proofs.YtaloeffmigffaaaGreatDoor
end
section
namespace Go.Proofs.YtaloeffmigffaaaGreatDoor
open Go.RowKit Go.Big
theorem NoZ.of_last {L:List Nat} (h:L.getLast? ≠ some 0):NoZ L:=fun x hx hx0=>h (by rw [hx,hx0])
theorem NoZ.one_iff {L:List Nat} (h:NoZ L) (hd:∀ x ∈ L,x < 4294967296):val 4294967296 L = 1 ↔ L = [1]:=by
  constructor
  · intro hv
    exact NoZ.eq (B:=4294967296) h (by intro x hx;simp at hx;omega) hd (by intro x hx;simp at hx;omega) (by decide) (by rw [hv];rfl)
  · rintro rfl;rfl
theorem numFault_last {neg:Bool} {A C:List Nat} (h1:¬ 128 < A.length) (h2:¬ 128 < C.length) (h:A.getLast? = some 0 ∨ C.getLast? = some 0 ∨ C = []):numFault neg A C = 2:=by
  unfold numFault
  rw [if_neg (by omega),if_pos]
  rcases h with h | h | h
  · exact .inr (.inr h)
  · exact .inr (.inl h)
  · exact .inl h
theorem numFault_nil {neg:Bool} {A C:List Nat} (h1:¬ 128 < A.length) (h2:¬ 128 < C.length) (hA:A.getLast? ≠ some 0) (hC:C.getLast? ≠ some 0) (hne:C ≠ []) (hCd:∀ x ∈ C,x < 4294967296) (h:A = []):numFault neg A C = if neg = true ∨ C ≠ [1] then 2 else 0:=by
  subst h
  unfold numFault
  rw [if_neg (by omega),if_neg (by rintro (h | h | h);exact hne h;exact hC h;exact hA h)]
  have e:=(NoZ.of_last hC).one_iff hCd
  by_cases hn:neg = true ∨ C ≠ [1]
  · rw [if_pos ⟨rfl,hn.imp id fun h e'=>h (e.1 e')⟩,if_pos hn]
  · rw [if_neg (by rintro ⟨_,h⟩;exact hn (h.imp id fun h e'=>h (e.2 e'))),if_neg hn]
    have hc:val 4294967296 C = 1:=e.2 (Classical.byContradiction fun h=>hn (.inr h))
    rw [hc]
    rfl
theorem numFault_else {neg:Bool} {A C:List Nat} (h1:¬ 128 < A.length) (h2:¬ 128 < C.length) (hA:A.getLast? ≠ some 0) (hC:C.getLast? ≠ some 0) (hne:C ≠ []) (hAd:∀ x ∈ A,x < 4294967296) (hCd:∀ x ∈ C,x < 4294967296) (h:A ≠ []):numFault neg A C = if C ≠ [1] ∧ A ≠ [1] ∧ Nat.gcd (val 4294967296 A) (val 4294967296 C) ≠ 1 then 2 else 0:=by
  unfold numFault
  have hp:=(NoZ.of_last hA).pos' h
  rw [if_neg (by omega),if_neg (by rintro (h | h | h);exact hne h;exact hC h;exact hA h),if_neg (by rintro ⟨h,_⟩;omega)]
  by_cases hg:Nat.gcd (val 4294967296 A) (val 4294967296 C) = 1
  · rw [if_neg (by simp [hg]),if_neg (by rintro ⟨_,_,h⟩;exact h hg)]
  · rw [if_pos hg,if_pos]
    refine ⟨?_,?_,hg⟩
    · rintro rfl;exact hg (by simp [val])
    · rintro rfl;exact hg (by simp [val])
set_option maxRecDepth 100000 in
set_option maxHeartbeats 4000000 in
theorem ncheck_calls (neg:Bool) (a1 a2:Option Addr) (len1 len2 cap1 cap2 n:Nat) (A C:List Nat) (hl1:A.length = len1) (hl2:C.length = len2) (hb1:len1 < 4611686018427387904) (hb2:len2 < 4611686018427387904) (w:World) (hn:n ≤ w.heap.size) (h1:LimAt n w a1 A) (h2:LimAt n w a2 C) :
    Calls Tryz.prog 116 #[.agg #[.bool neg,.slice a1 len1 cap1,.slice a2 len2 cap2]] w fun e w'=>e = .returned (.int .i64 (numFault neg A C)) ∧ Below w.heap.size w w':=by
  by_cases hc1:128 < len1
  · have hv:numFault neg A C = 3:=by unfold numFault;rw [if_pos (.inl (by omega))]
    rw [hv]
    have hi1:(128:Int) < (len1:Int):=by omega
    go_enter Tryz.func116,Tryz.ntmps116
    go_wp2
    go_ret
    exact ⟨rfl,below_alloc _ _⟩
  by_cases hc2:128 < len2
  · have hv:numFault neg A C = 3:=by unfold numFault;rw [if_pos (.inr (by omega))]
    rw [hv]
    have hi1:¬ (128:Int) < (len1:Int):=by omega
    have hi2:(128:Int) < (len2:Int):=by omega
    go_enter Tryz.func116,Tryz.ntmps116
    go_wp2
    go_ret
    exact ⟨rfl,below_alloc _ _⟩
  have hi1:¬ (128:Int) < (len1:Int):=by omega
  have hi2:¬ (128:Int) < (len2:Int):=by omega
  obtain ⟨wb,hwb⟩:∃ wb,w.alloc (Obj.cells #[.bool neg,.slice a1 len1 cap1,.slice a2 len2 cap2] 24) = wb:=⟨_,rfl⟩
  have hBb:Below w.heap.size w wb:=hwb ▸ below_alloc _ _
  have h1b:=h1.below hBb hn
  have h2b:=h2.below hBb hn
  have hnb:n ≤ wb.heap.size:=Nat.le_trans hn hBb.size
  have hla:=last_calls a1 len1 cap1 n A hl1 hb1 wb h1b
  have hlc:=last_calls a2 len2 cap2 n C hl2 hb2 wb h2b
  have hoa:=isOne_calls a1 len1 cap1 n A hl1 wb h1b
  have hoc:=isOne_calls a2 len2 cap2 n C hl2 wb h2b
  have hl1':¬ 128 < A.length:=by omega
  have hl2':¬ 128 < C.length:=by omega
  subst hwb
  by_cases hA:A.getLast? = some 0
  · rw [numFault_last hl1' hl2' (.inl hA)]
    rw [decide_eq_true hA] at hla
    clear hA hoa hoc hlc h1b h2b hl1' hl2'
    go_enter Tryz.func116,Tryz.ntmps116
    go_wp2_with first | (go_at_call 178;with_reducible refine hla.mono ?_;rintro e w2 ⟨rfl,rfl⟩) | (go_at_call 178;with_reducible refine hlc.mono ?_;rintro e w2 ⟨rfl,rfl⟩)
    go_ret
    exact ⟨rfl,hBb⟩
  rw [decide_eq_false hA] at hla
  by_cases hC:C.getLast? = some 0
  · rw [numFault_last hl1' hl2' (.inr (.inl hC))]
    rw [decide_eq_true hC] at hlc
    clear hA hC hoa hoc h1b h2b hl1' hl2'
    go_enter Tryz.func116,Tryz.ntmps116
    go_wp2_with first | (go_at_call 178;with_reducible refine hla.mono ?_;rintro e w2 ⟨rfl,rfl⟩) | (go_at_call 178;with_reducible refine hlc.mono ?_;rintro e w2 ⟨rfl,rfl⟩)
    go_ret
    exact ⟨rfl,hBb⟩
  rw [decide_eq_false hC] at hlc
  by_cases hne:C = []
  · rw [numFault_last hl1' hl2' (.inr (.inr hne))]
    have hl0:len2 = 0:=by rw [← hl2,hne];rfl
    subst hl0
    clear hA hC hoa hoc h1b h2b hl1' hl2' hne
    go_enter Tryz.func116,Tryz.ntmps116
    go_wp2_with first | (go_at_call 178;with_reducible refine hla.mono ?_;rintro e w2 ⟨rfl,rfl⟩) | (go_at_call 178;with_reducible refine hlc.mono ?_;rintro e w2 ⟨rfl,rfl⟩)
    go_ret
    exact ⟨rfl,hBb⟩
  have hC0:((len2:Int) == 0) = false:=by
    have:len2 ≠ 0:=fun h=>hne (List.length_eq_zero_iff.1 (by omega))
    simp;omega
  by_cases hAn:A = []
  · rw [numFault_nil hl1' hl2' hA hC hne h2.1 hAn]
    have hl0:len1 = 0:=by rw [← hl1,hAn];rfl
    subst hl0
    by_cases hng:neg = true
    · subst hng
      rw [if_pos (.inl rfl)]
      clear hA hC hoa hoc h1b h2b hl1' hl2' hne hAn
      go_enter Tryz.func116,Tryz.ntmps116
      go_wp2_with first | (go_at_call 178;with_reducible refine hla.mono ?_;rintro e w2 ⟨rfl,rfl⟩) | (go_at_call 178;with_reducible refine hlc.mono ?_;rintro e w2 ⟨rfl,rfl⟩)
      go_ret
      exact ⟨rfl,hBb⟩
    · obtain rfl:neg = false:=by simpa using hng
      by_cases hC1:C = [1]
      · rw [if_neg (by simp [hC1])]
        rw [decide_eq_true hC1] at hoc
        clear hA hC hoa h1b h2b hl1' hl2' hne hAn hC1
        go_enter Tryz.func116,Tryz.ntmps116
        go_wp2_with first | (go_at_call 178;with_reducible refine hla.mono ?_;rintro e w2 ⟨rfl,rfl⟩) | (go_at_call 178;with_reducible refine hlc.mono ?_;rintro e w2 ⟨rfl,rfl⟩) | (go_at_call 179;with_reducible refine hoc.mono ?_;rintro e w2 ⟨rfl,rfl⟩) | (go_at_call 179;with_reducible refine hoa.mono ?_;rintro e w2 ⟨rfl,rfl⟩)
        go_ret
        exact ⟨rfl,hBb⟩
      · rw [if_pos (.inr hC1)]
        rw [decide_eq_false hC1] at hoc
        clear hA hC hoa h1b h2b hl1' hl2' hne hAn hC1
        go_enter Tryz.func116,Tryz.ntmps116
        go_wp2_with first | (go_at_call 178;with_reducible refine hla.mono ?_;rintro e w2 ⟨rfl,rfl⟩) | (go_at_call 178;with_reducible refine hlc.mono ?_;rintro e w2 ⟨rfl,rfl⟩) | (go_at_call 179;with_reducible refine hoc.mono ?_;rintro e w2 ⟨rfl,rfl⟩) | (go_at_call 179;with_reducible refine hoa.mono ?_;rintro e w2 ⟨rfl,rfl⟩)
        go_ret
        exact ⟨rfl,hBb⟩
  have hA0:((len1:Int) == 0) = false:=by
    have:len1 ≠ 0:=fun h=>hAn (List.length_eq_zero_iff.1 (by omega))
    simp;omega
  rw [numFault_else hl1' hl2' hA hC hne h1.1 h2.1 hAn]
  by_cases hC1:C = [1]
  · rw [if_neg (by simp [hC1])]
    rw [decide_eq_true hC1] at hoc
    clear hA hC hoa h1b h2b hl1' hl2' hne hAn hC1
    go_enter Tryz.func116,Tryz.ntmps116
    go_wp2_with first | (go_at_call 178;with_reducible refine hla.mono ?_;rintro e w2 ⟨rfl,rfl⟩) | (go_at_call 178;with_reducible refine hlc.mono ?_;rintro e w2 ⟨rfl,rfl⟩) | (go_at_call 179;with_reducible refine hoc.mono ?_;rintro e w2 ⟨rfl,rfl⟩) | (go_at_call 179;with_reducible refine hoa.mono ?_;rintro e w2 ⟨rfl,rfl⟩)
    go_ret
    exact ⟨rfl,hBb⟩
  rw [decide_eq_false hC1] at hoc
  by_cases hA1:A = [1]
  · rw [if_neg (by simp [hA1])]
    rw [decide_eq_true hA1] at hoa
    clear hA hC h1b h2b hl1' hl2' hne hAn hC1 hA1
    go_enter Tryz.func116,Tryz.ntmps116
    go_wp2_with first | (go_at_call 178;with_reducible refine hla.mono ?_;rintro e w2 ⟨rfl,rfl⟩) | (go_at_call 178;with_reducible refine hlc.mono ?_;rintro e w2 ⟨rfl,rfl⟩) | (go_at_call 179;with_reducible refine hoc.mono ?_;rintro e w2 ⟨rfl,rfl⟩) | (go_at_call 179;with_reducible refine hoa.mono ?_;rintro e w2 ⟨rfl,rfl⟩)
    go_ret
    exact ⟨rfl,hBb⟩
  rw [decide_eq_false hA1] at hoa
  have hva:=val_lt h1.1
  have hvc:=val_lt h2.1
  have hpl:∀ k,k ≤ 128 → (4294967296:Nat) ^ k ≤ 4294967296 ^ 128:=fun k hk=>Nat.pow_le_pow_right (by decide) hk
  obtain ⟨M,hM⟩:∃ M:Nat,M = 128:=⟨_,rfl⟩
  rw [← hM] at hpl
  have hg:=ngcd_calls (.slice a1 len1 cap1) (.slice a2 len2 cap2) n (val 4294967296 A) (val 4294967296 C) M (by omega) (Nat.lt_of_lt_of_le hva (hpl _ (by omega))) (Nat.lt_of_lt_of_le hvc (hpl _ (by omega))) _ hnb ⟨a1,A,cap1,by rw [hl1],h1b,NoZ.of_last hA,rfl⟩ ⟨a2,C,cap2,by rw [hl2],h2b,NoZ.of_last hC,rfl⟩
  by_cases hG1:Nat.gcd (val 4294967296 A) (val 4294967296 C) = 1
  · rw [if_neg (by rintro ⟨_,_,h⟩;exact h hG1)]
    obtain ⟨G,hG⟩:∃ G,Nat.gcd (val 4294967296 A) (val 4294967296 C) = G:=⟨_,rfl⟩
    rw [hG] at hg hG1
    clear hG hpl hva hvc hM hA hC h1b h2b hl1' hl2' hne hAn hC1 hA1
    go_enter Tryz.func116,Tryz.ntmps116
    go_wp2_with first | (go_at_call 178;with_reducible refine hla.mono ?_;rintro e w2 ⟨rfl,rfl⟩) | (go_at_call 178;with_reducible refine hlc.mono ?_;rintro e w2 ⟨rfl,rfl⟩) | (go_at_call 179;with_reducible refine hoc.mono ?_;rintro e w2 ⟨rfl,rfl⟩) | (go_at_call 179;with_reducible refine hoa.mono ?_;rintro e w2 ⟨rfl,rfl⟩) | (go_at_call 180;(with_reducible refine hg.mono ?_);rintro e w3 ⟨r,rfl,⟨a3,L3,c3,rfl,hL1,hL2,hL3⟩,hb3⟩;have hor:=isOne_calls a3 L3.length c3 w3.heap.size L3 rfl w3 hL1;(rw [decide_eq_true ((hL2.one_iff hL1.1).1 (hL3.trans hG1))] at hor)) | (go_at_call 179;with_reducible refine hor.mono ?_;rintro e w4 ⟨rfl,rfl⟩)
    go_ret
    exact ⟨rfl,hBb.trans (hb3.mono hBb.size)⟩
  · rw [if_pos ⟨hC1,hA1,hG1⟩]
    obtain ⟨G,hG⟩:∃ G,Nat.gcd (val 4294967296 A) (val 4294967296 C) = G:=⟨_,rfl⟩
    rw [hG] at hg hG1
    clear hG hpl hva hvc hM hA hC h1b h2b hl1' hl2' hne hAn hC1 hA1
    go_enter Tryz.func116,Tryz.ntmps116
    go_wp2_with first | (go_at_call 178;with_reducible refine hla.mono ?_;rintro e w2 ⟨rfl,rfl⟩) | (go_at_call 178;with_reducible refine hlc.mono ?_;rintro e w2 ⟨rfl,rfl⟩) | (go_at_call 179;with_reducible refine hoc.mono ?_;rintro e w2 ⟨rfl,rfl⟩) | (go_at_call 179;with_reducible refine hoa.mono ?_;rintro e w2 ⟨rfl,rfl⟩) | (go_at_call 180;(with_reducible refine hg.mono ?_);rintro e w3 ⟨r,rfl,⟨a3,L3,c3,rfl,hL1,hL2,hL3⟩,hb3⟩;have hor:=isOne_calls a3 L3.length c3 w3.heap.size L3 rfl w3 hL1;(rw [decide_eq_false (fun h=>hG1 (hL3.symm.trans ((hL2.one_iff hL1.1).2 h)))] at hor)) | (go_at_call 179;with_reducible refine hor.mono ?_;rintro e w4 ⟨rfl,rfl⟩)
    go_ret
    exact ⟨rfl,hBb.trans (hb3.mono hBb.size)⟩
end Go.Proofs.YtaloeffmigffaaaGreatDoor
end
