/-
  A part of the proof of the card of WorkGeneralizationIsLeast (second form): lemmas that the text Card uses. No condition of its own.
-/
import Derived.Test.YtaloeffmigffaaaGreatDoorRefC
set_option linter.all false
set_option linter.unusedVariables false
set_option linter.unusedSimpArgs false
section
namespace Go.Proofs.YtaloeffmigffaaaGreatDoor
open Go.RowKit Go.Big
set_option maxRecDepth 100000 in
set_option maxHeartbeats 1000000 in
theorem ntrim_calls (a:Option Addr) (len cap n:Nat) (L:List Nat) (hlen:L.length = len) (hbig:len < 4611686018427387904) (hcap:len ≤ cap) (w:World) (hn:n ≤ w.heap.size) (h1:LimAt n w a L) :
    Calls Tryz.prog 272 #[.slice a len cap] w fun e w'=>∃ k,e = .returned (.slice a k cap) ∧ Trimmed L k ∧ Below w.heap.size w w':=by
  go_enter Tryz.func272,Tryz.ntmps272
  go_wp2
  go_loopw [0] (fun s wr=>∃ k:Nat,s = .slice a k cap ∧ k ≤ len ∧ (∀ x ∈ L.drop k,x = 0) ∧ Below w.heap.size w wr) (fun s _=>slen0 s)
  case atStart=>exact ⟨len,rfl,Nat.le_refl _,by rw [← hlen,List.drop_length];simp,Below.refl _ _⟩
  case round=>
    obtain ⟨k,rfl,hk,hz,hB⟩:=hrel
    by_cases hk0:k = 0
    · subst hk0
      go_wp2
      go_ret
      exact ⟨0,rfl,⟨Nat.zero_le _,hz,.inl rfl⟩,hB⟩
    · obtain ⟨k',rfl⟩:∃ k',k = k' + 1:=⟨k - 1,by omega⟩
      obtain ⟨x,hx⟩:∃ x,L[k']? = some x:=⟨L[k'],List.getElem?_eq_getElem (by omega)⟩
      obtain ⟨b,off,rfl,hb,hxl,hc⟩:=(h1.below hB hn).get hx
      have hw1:IntKind.i64.wrap (k':Int) = k':=wrap_nat (by omega)
      have hi1:(k':Int) < (k':Int) + 1:=by omega
      have hi3:(0:Int) ≤ (k':Int):=by omega
      have hi4:(0:Int) < (k':Int) + 1:=by omega
      have hi5:(k':Int) ≤ (cap:Int):=by omega
      have hi6:¬ (cap:Int) < (k':Int):=by omega
      clear h1 hk0
      by_cases h0:x = 0
      · subst h0
        go_wp2
        refine ⟨⟨k',rfl,by omega,fun y hy=>?_,hB⟩,by simp [slen0]⟩
        rw [List.drop_eq_getElem_cons (by omega)] at hy
        rcases List.mem_cons.1 hy with rfl | hy
        · exact (List.getElem?_eq_some_iff.1 hx).2
        · exact hz y hy
      · have hxB:((x:Int) == 0) = false:=by simp;omega
        go_wp2
        go_ret
        exact ⟨k' + 1,rfl,⟨by omega,hz,.inr ⟨x,by simpa using hx,h0⟩⟩,hB⟩
end Go.Proofs.YtaloeffmigffaaaGreatDoor
end
section
namespace Go.Proofs.YtaloeffmigffaaaGreatDoor
open Go.RowKit Go.Big
theorem val_top {B:Nat} {A C:List Nat} {k x y:Nat} (hA:∀ d ∈ A,d < B) (hx:A[k]? = some x) (hy:C[k]? = some y) (hd:A.drop (k + 1) = C.drop (k + 1)) (hlt:x < y):val B A < val B C:=by
  obtain ⟨h1,rfl⟩:=List.getElem?_eq_some_iff.1 hx
  obtain ⟨h2,rfl⟩:=List.getElem?_eq_some_iff.1 hy
  have eA:A = A.take k ++ (A[k] :: A.drop (k + 1)):=by rw [← List.drop_eq_getElem_cons h1,List.take_append_drop]
  have eC:C = C.take k ++ (C[k] :: C.drop (k + 1)):=by rw [← List.drop_eq_getElem_cons h2,List.take_append_drop]
  have lA:(A.take k).length = k:=by rw [List.length_take];omega
  have lC:(C.take k).length = k:=by rw [List.length_take];omega
  have vA:val B A = val B (A.take k) + B ^ k * (A[k] + B * val B (A.drop (k + 1))):=by
    conv=>lhs;rw [eA]
    rw [val_append,lA,val]
  have vC:val B C = val B (C.take k) + B ^ k * (C[k] + B * val B (A.drop (k + 1))):=by
    conv=>lhs;rw [eC]
    rw [val_append,lC,val,hd]
  have hl:val B (A.take k) < B ^ k:=by
    have:=val_lt (B:=B) (a:=A.take k) fun d hd=>hA d (List.mem_of_mem_take hd)
    rwa [lA] at this
  have hm:B ^ k * (A[k] + B * val B (A.drop (k + 1)) + 1) ≤ B ^ k * (C[k] + B * val B (A.drop (k + 1))):=Nat.mul_le_mul_left _ (by omega)
  rw [Nat.mul_add,Nat.mul_one] at hm
  omega
set_option maxRecDepth 100000 in
theorem sign_calls (x:Int) (w:World):Calls Tryz.prog 297 #[.int .i64 x] w fun e w'=>e = .returned (.int .i64 (if x < 0 then -1 else if 0 < x then 1 else 0)) ∧ Below w.heap.size w w':=by
  by_cases h1:x < 0
  · go_enter Tryz.func297,Tryz.ntmps297
    go_wp2
    go_ret
    exact ⟨by simp [h1],Below.refl _ _⟩
  · by_cases h2:0 < x
    · go_enter Tryz.func297,Tryz.ntmps297
      go_wp2
      go_ret
      exact ⟨by simp [h1,h2],Below.refl _ _⟩
    · go_enter Tryz.func297,Tryz.ntmps297
      go_wp2
      go_ret
      exact ⟨by simp [h1,h2],Below.refl _ _⟩
def CmpD (A C:List Nat) (c:Int):Prop:=
  (A.length < C.length ∧ c = -1) ∨ (C.length < A.length ∧ c = 1) ∨ (A.length = C.length ∧ ((c = 0 ∧ A = C) ∨ (c = -1 ∧ val 4294967296 A < val 4294967296 C) ∨ (c = 1 ∧ val 4294967296 C < val 4294967296 A)))
set_option maxRecDepth 100000 in
set_option maxHeartbeats 2000000 in
theorem compare_nat_calls (a1 a2:Option Addr) (len1 len2 cap1 cap2 n:Nat) (A C:List Nat) (hl1:A.length = len1) (hl2:C.length = len2) (hb1:len1 < 4611686018427387904) (hb2:len2 < 4611686018427387904) (w:World) (hn:n ≤ w.heap.size) (h1:LimAt n w a1 A) (h2:LimAt n w a2 C) :
    Calls Tryz.prog 265 #[.slice a1 len1 cap1,.slice a2 len2 cap2] w fun e w'=>∃ c,e = .returned (.int .i64 c) ∧ CmpD A C c ∧ Below w.heap.size w w':=by
  by_cases hne:len1 = len2
  · subst hne
    have hlenB:(((len1:Nat):Int) == len1) = true:=by simp
    go_enter Tryz.func265,Tryz.ntmps265
    go_wp2
    go_loopw [5] (fun s wr=>∃ k:Nat,s = .int .i64 ((k:Int) - 1) ∧ k ≤ len1 ∧ A.drop k = C.drop k ∧ Below w.heap.size w wr) (fun s _=>(intOf s + 1).toNat)
    case atStart=>exact ⟨len1,rfl,Nat.le_refl _,by rw [← hl1,List.drop_length,hl1,← hl2,List.drop_length],Below.refl _ _⟩
    case round=>
      obtain ⟨k,rfl,hk,hd,hB⟩:=hrel
      by_cases hk0:k = 0
      · subst hk0
        have e0:(((0:Nat):Int) - 1) = -1:=by omega
        rw [e0]
        have hAC:A = C:=by simpa using hd
        go_wp2
        go_ret
        exact ⟨0,rfl,.inr (.inr ⟨by omega,.inl ⟨rfl,hAC⟩⟩),hB⟩
      · obtain ⟨k',rfl⟩:∃ k',k = k' + 1:=⟨k - 1,by omega⟩
        have e0:(((k' + 1:Nat):Int) - 1) = k':=by omega
        rw [e0]
        obtain ⟨x,hx⟩:∃ x,A[k']? = some x:=⟨A[k'],List.getElem?_eq_getElem (by omega)⟩
        obtain ⟨y,hy⟩:∃ y,C[k']? = some y:=⟨C[k'],List.getElem?_eq_getElem (by omega)⟩
        obtain ⟨b,off,rfl,hb,hxl,hc⟩:=(h1.below hB hn).get hx
        obtain ⟨b',off',rfl,hb',hyl,hc'⟩:=(h2.below hB hn).get hy
        have hi1:(k':Int) < (len1:Int):=by omega
        have hi3:(0:Int) ≤ (k':Int):=by omega
        have hA:∀ d ∈ A,d < 4294967296:=h1.1
        have hC:∀ d ∈ C,d < 4294967296:=h2.1
        have hBd:Below w.heap.size w wr.drew:=hB.trans ⟨rfl,rfl,rfl,Nat.le_refl _,fun _ _=>rfl⟩
        have hBdd:Below w.heap.size w wr.drew.drew:=hBd.trans ⟨rfl,rfl,rfl,Nat.le_refl _,fun _ _=>rfl⟩
        clear h1 h2 hk0
        by_cases hxy:x = y
        · subst hxy
          have hd':A.drop k' = C.drop k':=by
            obtain ⟨q1,q2⟩:=List.getElem?_eq_some_iff.1 hx
            obtain ⟨q3,q4⟩:=List.getElem?_eq_some_iff.1 hy
            rw [List.drop_eq_getElem_cons q1,List.drop_eq_getElem_cons q3,hd,q2,q4]
          go_wp2
          refine wp_region_still_tail 8 (by kernel_rfl) (by kernel_rfl) ?_
          simp only [List.take_succ_cons,List.take_zero,List.drop_succ_cons,List.drop_zero,World.drew_eq]
          repeat (with_reducible refine wpStill_step (fun K hK=>?_);go_simp;with_reducible refine hK _ ?_;clear hK K)
          refine wpStill_nil ?_
          show wpList _ _ _ _ _ _
          go_wp2
          exact ⟨⟨k',by simp,by omega,hd',hBd⟩,by simp [intOf]⟩
        · have hneB:((x:Int) == y) = false:=by simp;omega
          by_cases hlt:x < y
          · have hlI:(x:Int) < (y:Int):=by omega
            have hv:=val_top hA hx hy hd hlt
            clear hxy
            go_wp2
            refine wp_region_still_tail 8 (by kernel_rfl) (by kernel_rfl) ?_
            simp only [List.take_succ_cons,List.take_zero,List.drop_succ_cons,List.drop_zero,World.drew_eq]
            repeat (with_reducible refine wpStill_step (fun K hK=>?_);go_simp;with_reducible refine hK _ ?_;clear hK K)
            refine wpStill_nil ?_
            show wpList _ _ _ _ _ _
            go_wp2
            refine wp_region_still_tail 8 (by kernel_rfl) (by kernel_rfl) ?_
            simp only [List.take_succ_cons,List.take_zero,List.drop_succ_cons,List.drop_zero,World.drew_eq]
            repeat (with_reducible refine wpStill_step (fun K hK=>?_);go_simp;with_reducible refine hK _ ?_;clear hK K)
            refine wpStill_nil ?_
            show wpList _ _ _ _ _ _
            go_wp2
            go_ret
            exact ⟨-1,rfl,.inr (.inr ⟨by omega,.inr (.inl ⟨rfl,hv⟩)⟩),hBdd⟩
          · have hlI:¬ (x:Int) < (y:Int):=by omega
            have hv:=val_top hC hy hx hd.symm (by omega)
            clear hxy
            go_wp2
            refine wp_region_still_tail 8 (by kernel_rfl) (by kernel_rfl) ?_
            simp only [List.take_succ_cons,List.take_zero,List.drop_succ_cons,List.drop_zero,World.drew_eq]
            repeat (with_reducible refine wpStill_step (fun K hK=>?_);go_simp;with_reducible refine hK _ ?_;clear hK K)
            refine wpStill_nil ?_
            show wpList _ _ _ _ _ _
            go_wp2
            refine wp_region_still_tail 8 (by kernel_rfl) (by kernel_rfl) ?_
            simp only [List.take_succ_cons,List.take_zero,List.drop_succ_cons,List.drop_zero,World.drew_eq]
            repeat (with_reducible refine wpStill_step (fun K hK=>?_);go_simp;with_reducible refine hK _ ?_;clear hK K)
            refine wpStill_nil ?_
            show wpList _ _ _ _ _ _
            go_wp2
            go_ret
            exact ⟨1,rfl,.inr (.inr ⟨by omega,.inr (.inr ⟨rfl,hv⟩)⟩),hBdd⟩
  · have hlenB:((len1:Int) == len2) = false:=by simp;omega
    have hwr:IntKind.i64.wrap ((len1:Int) - len2) = (len1:Int) - len2:=by rw [IntKind.wrap_i64];omega
    have sc:=sign_calls ((len1:Int) - len2) w
    clear h1 h2
    rcases Nat.lt_or_ge len1 len2 with h | h
    · rw [if_pos (by omega)] at sc
      go_enter Tryz.func265,Tryz.ntmps265
      go_wp2_with (go_at_call 297;refine sc.mono ?_;rintro e w' ⟨rfl,hb⟩)
      go_ret
      exact ⟨-1,rfl,.inl ⟨by omega,rfl⟩,hb⟩
    · rw [if_neg (by omega),if_pos (by omega)] at sc
      go_enter Tryz.func265,Tryz.ntmps265
      go_wp2_with (go_at_call 297;refine sc.mono ?_;rintro e w' ⟨rfl,hb⟩)
      go_ret
      exact ⟨1,rfl,.inr (.inl ⟨by omega,rfl⟩),hb⟩
end Go.Proofs.YtaloeffmigffaaaGreatDoor
end
section
namespace Go.Proofs.YtaloeffmigffaaaGreatDoor
open Go
theorem bits_or_shift (x y:Nat) (hx:x < 4294967296) (hy:y < 4294967296):bits .or .u64 ((x:Int) * 4294967296) y = (x:Int) * 4294967296 + y:=by
  have e:x <<< 32 + y = x <<< 32 ||| y:=Nat.shiftLeft_add_eq_or_of_lt (by omega) x
  rw [Nat.shiftLeft_eq] at e
  have e1:((x:Int) * 4294967296) = ((x * 4294967296:Nat):Int):=by simp
  have h1:(BitVec.ofInt 64 ((x:Int) * 4294967296)).toNat = x * 4294967296:=by
    rw [e1,BitVec.ofInt_natCast,BitVec.toNat_ofNat]
    omega
  have h2:(BitVec.ofInt 64 (y:Int)).toNat = y:=by
    rw [BitVec.ofInt_natCast,BitVec.toNat_ofNat]
    omega
  show IntKind.u64.wrap (((BitVec.ofInt 64 ((x:Int) * 4294967296)) ||| BitVec.ofInt 64 (y:Int)).toNat:Int) = _
  rw [BitVec.toNat_or,h1,h2]
  have e2:x * 4294967296 ||| y = x * 4294967296 + y:=by
    have:(2:Nat) ^ 32 = 4294967296:=by decide
    rw [this] at e
    exact e.symm
  rw [e2,IntKind.wrap_u64]
  omega
theorem bits_and_one (x:Nat):bits .and .u64 (x:Int) 1 = ((x % 2:Nat):Int):=by
  have h1:(BitVec.ofInt 64 (x:Int)).toNat = x % 18446744073709551616:=by
    rw [BitVec.ofInt_natCast,BitVec.toNat_ofNat]
  have h2:(BitVec.ofInt 64 (1:Int)).toNat = 1:=by decide
  show IntKind.u64.wrap (((BitVec.ofInt 64 (x:Int)) &&& BitVec.ofInt 64 (1:Int)).toNat:Int) = _
  rw [BitVec.toNat_and,h1,h2,Nat.and_one_is_mod,IntKind.wrap_u64]
  omega
end Go.Proofs.YtaloeffmigffaaaGreatDoor
end
section
namespace Go.Proofs.YtaloeffmigffaaaGreatDoor
open Go.RowKit Go.Big
def DRow (w:World) (b:Nat) (cur:List Nat):Prop:=w.heap[b]? = some (.cells (cur.map fun x:Nat=>Value.int .u32 x).toArray 67 (0,0))
theorem DRow.cell {w:World} {b:Nat} {cur:List Nat} (h:DRow w b cur) {k x:Nat} (hx:cur[k]? = some x):w.cell? ⟨b,k,none⟩ = some (.int .u32 x) ∧ w.frozen? ⟨b,k,none⟩ = false:=by
  unfold DRow at h
  simp [World.cell?,World.frozen?,h,hx]
theorem DRow.set {w:World} {b k d:Nat} {cur:List Nat} (h:DRow w b cur):DRow (w.setCell ⟨b,k,none⟩ (.int .u32 d)) b (cur.set k d):=by
  unfold DRow at h ⊢
  have e:(w.setCell ⟨b,k,none⟩ (.int .u32 d)).heap[b]? = some (.cells ((cur.map fun x:Nat=>Value.int .u32 x).toArray.setIfInBounds k (.int .u32 d)) 67 (0,0)):=by
    simp [World.setCell,Array.getElem?_modify,h]
  rw [e,List.setIfInBounds_toArray,List.map_set]
structure Only (b:Nat) (w w':World):Prop where
  os:w'.os = w.os
  tape:w'.tape = w.tape
  output:w'.output = w.output
  size:w.heap.size ≤ w'.heap.size
  block:∀ k,k < w.heap.size → k ≠ b → w'.heap[k]? = w.heap[k]?
theorem Only.refl (b:Nat) (w:World):Only b w w:=⟨rfl,rfl,rfl,Nat.le_refl _,fun _ _ _=>rfl⟩
theorem Only.trans {b:Nat} {a c d:World} (h:Only b a c) (h':Only b c d):Only b a d:=
  ⟨h'.os.trans h.os,h'.tape.trans h.tape,h'.output.trans h.output,Nat.le_trans h.size h'.size,fun k hk hb=>(h'.block k (Nat.lt_of_lt_of_le hk h.size) hb).trans (h.block k hk hb)⟩
theorem Only.of_below {b:Nat} {w w':World} (h:Below w.heap.size w w'):Only b w w':=⟨h.os,h.tape,h.output,h.size,fun k hk _=>h.block k hk⟩
theorem Only.toBelow {b base:Nat} {w w':World} (h:Only b w w') (hb:base ≤ b) (hw:base ≤ w.heap.size):Below base w w':=⟨h.os,h.tape,h.output,h.size,fun k hk=>h.block k (by omega) (by omega)⟩
theorem Only.set (w:World) (b k:Nat) (v:Value):Only b w (w.setCell ⟨b,k,none⟩ v):=⟨rfl,rfl,rfl,by simp,fun j hj hne=>Below.heap_setCell w ⟨b,k,none⟩ v j hne⟩
theorem Only.drew (b:Nat) (w:World):Only b w w.drew:=⟨rfl,rfl,rfl,Nat.le_refl _,fun _ _ _=>rfl⟩
theorem Only.cell {b:Nat} {w w':World} (h:Only b w w') {p:Addr} (hp:p.block < w.heap.size) (hb:p.block ≠ b):w'.cell? p = w.cell? p:=World.cell?_of_block (w:=w) (h.block p.block hp hb)
theorem DRow.drew {w:World} {b:Nat} {cur:List Nat} (h:DRow w b cur):DRow w.drew b cur:=h
theorem row_set {lo ds us rest:List Nat} {x d k off:Nat} (hlo:lo.length = off) (hds:ds.length = k) (hx:us[k]? = some x):(lo ++ ds ++ us.drop k ++ rest).set (off + k) d = lo ++ (ds ++ [d]) ++ us.drop (k + 1) ++ rest:=by
  obtain ⟨h1,rfl⟩:=List.getElem?_eq_some_iff.1 hx
  obtain ⟨t,ht⟩:∃ t,us.drop (k + 1) = t:=⟨_,rfl⟩
  rw [List.drop_eq_getElem_cons h1,ht]
  have hl:(lo ++ ds).length = off + k:=by rw [List.length_append,hlo,hds]
  rw [List.append_assoc (lo ++ ds),List.set_append_right _ _ (by omega),hl,Nat.sub_self]
  simp
theorem row_get {lo ds us rest:List Nat} {x k off:Nat} (hlo:lo.length = off) (hds:ds.length = k) (hx:us[k]? = some x):(lo ++ ds ++ us.drop k ++ rest)[off + k]? = some x:=by
  obtain ⟨h1,rfl⟩:=List.getElem?_eq_some_iff.1 hx
  rw [List.drop_eq_getElem_cons h1]
  have hl:(lo ++ ds).length = off + k:=by rw [List.length_append,hlo,hds]
  rw [List.append_assoc (lo ++ ds),List.getElem?_append_right (by omega),hl,Nat.sub_self]
  rfl
theorem row_last {lo ds rest:List Nat} {x d off n:Nat} (hlo:lo.length = off) (hds:ds.length = n):(lo ++ ds ++ x :: rest)[off + n]? = some x ∧ (lo ++ ds ++ x :: rest).set (off + n) d = lo ++ ds ++ d :: rest:=by
  have hl:(lo ++ ds).length = off + n:=by rw [List.length_append,hlo,hds]
  constructor
  · rw [List.getElem?_append_right (by omega),hl,Nat.sub_self];rfl
  · rw [List.set_append_right _ _ (by omega),hl,Nat.sub_self];rfl
theorem take_snoc {L:List Nat} {k x:Nat} (h:L[k]? = some x):L.take (k + 1) = L.take k ++ [x]:=by rw [List.take_add_one,h];rfl
theorem val_top2 {B m x y:Nat} {L:List Nat} (hl:L.length = m + 2) (h1:L[m + 1]? = some x) (h2:L[m]? = some y):val B L = x * B ^ (m + 1) + y * B ^ m + val B (L.take m):=by
  have e:L = L.take m ++ [y] ++ [x]:=by
    rw [← take_snoc h2,← take_snoc h1,List.take_of_length_le (by omega)]
  have lm:(L.take m).length = m:=by rw [List.length_take];omega
  conv=>lhs;rw [e]
  rw [val_append,val_append,List.length_append,lm]
  simp only [val,List.length_singleton,Nat.mul_zero,Nat.add_zero]
  rw [Nat.mul_comm (B ^ m),Nat.mul_comm (B ^ (m + 1))]
  omega
theorem wrap_u64 (x:Int):IntKind.u64.wrap x = x % 18446744073709551616:=by
  simp [IntKind.wrap,IntKind.bits,IntKind.signed]
theorem wrap_u32 (x:Int):IntKind.u32.wrap x = x % 4294967296:=by
  simp [IntKind.wrap,IntKind.bits,IntKind.signed]
theorem sub_step (x l b:Nat) (hx:x < 4294967296) (hl:l < 4294967296) (hb:b ≤ 1):∃ b' d:Nat,b' ≤ 1 ∧ d < 4294967296 ∧ x + b' * 4294967296 = d + l + b ∧ ∃ t1 t2 q:Nat,
    IntKind.u64.wrap ((x:Int) - (l:Int)) = (t1:Int) ∧ IntKind.u64.wrap ((t1:Int) - (b:Int)) = (t2:Int) ∧ (t2:Int) / 4294967296 = (q:Int) ∧ bits .and .u64 (q:Int) 1 = (b':Int) ∧ IntKind.u32.wrap (t2:Int) = (d:Int):=by
  by_cases h:l + b ≤ x
  · refine ⟨0,x - l - b,by omega,by omega,by omega,(x + 18446744073709551616 - l) % 18446744073709551616,x - l - b,0,?_,?_,by omega,?_,?_⟩
    · rw [wrap_u64];omega
    · rw [wrap_u64];omega
    · have:=bits_and_one 0;simpa using this
    · rw [wrap_u32];omega
  · refine ⟨1,x + 4294967296 - l - b,by omega,by omega,by omega,(x + 18446744073709551616 - l) % 18446744073709551616,x + 18446744073709551616 - l - b,4294967295,?_,?_,by omega,?_,?_⟩
    · rw [wrap_u64];omega
    · rw [wrap_u64];omega
    · have:=bits_and_one 4294967295;simpa using this
    · rw [wrap_u32];omega
end Go.Proofs.YtaloeffmigffaaaGreatDoor
end
