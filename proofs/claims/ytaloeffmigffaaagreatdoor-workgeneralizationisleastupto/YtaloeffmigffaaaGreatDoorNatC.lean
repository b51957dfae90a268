/-
  A part of the proof of the card of WorkGeneralizationIsLeast (second form): lemmas that the text Card uses. No condition of its own.
-/
import Derived.Test.YtaloeffmigffaaaGreatDoorNatA
import Derived.Test.YtaloeffmigffaaaGreatDoorCopy
import Derived.Shelf.Small.Bits
set_option linter.all false
set_option linter.unusedVariables false
set_option linter.unusedSimpArgs false
section
namespace Go.Proofs.YtaloeffmigffaaaGreatDoor
open Go.RowKit Go.Big Go.Shelf
def Tryz.lz_ren:Go.Shelf.Ren:=⟨fun | 128=>205 | 133=>268 | n=>n,fun | 3=>3 | 4=>4 | 5=>5 | 9=>9 | 46=>207 | 51=>67 | n=>n,fun n=>n⟩
theorem Tryz.lz:Go.Proofs.Lays.n133 Tryz.prog Tryz.lz_ren:={
  mixed:=by kernel_rfl
  f128:=Tryz.func205.trans (congrArg some (by kernel_rfl))
  f133:=Tryz.func268.trans (congrArg some (by kernel_rfl))
  t3:=Tryz.underlying3
  a3:=Tryz.isAgg3
  z3:=Tryz.sizeOf3
  v3:=Tryz.zeroValue3
  t4:=Tryz.underlying4
  a4:=Tryz.isAgg4
  z4:=Tryz.sizeOf4
  v4:=Tryz.zeroValue4
  t5:=Tryz.underlying5
  a5:=Tryz.isAgg5
  z5:=Tryz.sizeOf5
  v5:=Tryz.zeroValue5
  t9:=Tryz.underlying9
  a9:=Tryz.isAgg9
  z9:=Tryz.sizeOf9
  v9:=Tryz.zeroValue9
  t46:=Tryz.underlying207
  a46:=Tryz.isAgg207
  z46:=Tryz.sizeOf207
  v46:=Tryz.zeroValue207
  t51:=Tryz.underlying67
  a51:=Tryz.isAgg67
  z51:=Tryz.sizeOf67
  v51:=Tryz.zeroValue67 }
theorem bitLenAux_lt:∀ (f x:Nat),x < 2 ^ f → x < 2 ^ Lib.bitLenAux f x
  | 0,x,h=>by simpa [Lib.bitLenAux] using h
  | f + 1,x,h=>by
    unfold Lib.bitLenAux
    split
    · subst x;simp
    · have h1:=bitLenAux_lt f (x / 2) (by rw [Nat.pow_succ] at h;omega)
      rw [Nat.add_comm,Nat.pow_succ]
      omega
theorem bitLen_pos {x:Nat} (h:0 < x):1 ≤ Lib.bitLen x:=by
  unfold Lib.bitLen Lib.bitLenAux
  rw [if_neg (by omega)]
  omega
theorem lz_calls (x:Nat) (h0:0 < x) (h1:x < 4294967296) (w:World):Calls Tryz.prog 268 #[.int .u32 x] w fun e w'=>∃ s:Nat,e = .returned (.int .i64 s) ∧ s < 32 ∧ x * 2 ^ s < 4294967296 ∧ w' = w:=by
  have h:=Any.bits_LeadingZeros32 Tryz.lz (x:Int) w (by omega) (by omega)
  refine (show Calls Tryz.prog 268 #[.int .u32 x] w _ from h).mono ?_
  rintro e w' ⟨rfl,rfl⟩
  have l1:=Any.bitLen_le32 (x:Int) (by omega) (by omega)
  rw [Int.toNat_natCast] at l1 ⊢
  have l2:=bitLen_pos h0
  have l3:x < 2 ^ Lib.bitLen x:=bitLenAux_lt 64 x (Nat.lt_of_lt_of_le h1 (by decide))
  refine ⟨32 - Lib.bitLen x,?_,by omega,?_,rfl⟩
  · congr 2;omega
  · have e:(4294967296:Nat) = 2 ^ Lib.bitLen x * 2 ^ (32 - Lib.bitLen x):=by
      rw [← Nat.pow_add,show Lib.bitLen x + (32 - Lib.bitLen x) = 32 by omega]
    rw [e]
    exact Nat.mul_lt_mul_of_pos_right l3 (Nat.pow_pos (by decide))
end Go.Proofs.YtaloeffmigffaaaGreatDoor
end
section
namespace Go.Proofs.YtaloeffmigffaaaGreatDoor
open Go.RowKit Go.Big
inductive ShlD (B p:Nat):List Nat → List Nat → Nat → Prop
  | nil:ShlD B p [] [] 0
  | snoc {xs ds:List Nat} {c x:Nat} (h:ShlD B p xs ds c) (hx:x < B):ShlD B p (xs ++ [x]) (ds ++ [x * p % B + c]) (x * p / B)
theorem ShlD.spec {B p m:Nat} {xs ds:List Nat} {c:Nat} (hB:B = p * m) (hp:0 < p) (h:ShlD B p xs ds c):ds.length = xs.length ∧ c < p ∧ (∀ d ∈ ds,d < B) ∧ val B ds + B ^ xs.length * c = val B xs * p:=by
  induction h with
  | nil=>exact ⟨rfl,hp,by simp,by simp [val]⟩
  | @snoc xs ds c x h hx ih=>
    obtain ⟨h1,h2,h3,h4⟩:=ih
    have hm:0 < m:=by
      rcases Nat.eq_zero_or_pos m with h | h
      · subst h;rw [Nat.mul_zero] at hB;omega
      · exact h
    have e1:x * p % B = p * (x % m):=by rw [hB,Nat.mul_comm x p,Nat.mul_mod_mul_left]
    have e2:p * (x % m) + p ≤ B:=by
      rw [hB,← Nat.mul_succ]
      exact Nat.mul_le_mul_left _ (Nat.mod_lt _ hm)
    refine ⟨by simp [h1],Nat.div_lt_of_lt_mul (Nat.mul_lt_mul_of_pos_right hx hp),fun d hd=>?_,?_⟩
    · rcases List.mem_append.1 hd with hd | hd
      · exact h3 d hd
      · simp at hd;rw [hd,e1];omega
    · rw [val_snoc,val_snoc,h1,List.length_append,List.length_singleton,Nat.pow_succ]
      have e3:x * p % B + B * (x * p / B) = x * p:=Nat.mod_add_div _ _
      generalize x * p % B = r at *
      generalize x * p / B = q at *
      generalize B ^ xs.length = W at *
      have e4:W * B * q = W * (B * q):=Nat.mul_assoc _ _ _
      have e5:(val B xs + W * x) * p = val B xs * p + W * (x * p):=by rw [Nat.add_mul,Nat.mul_assoc]
      rw [e4,e5,← e3,Nat.mul_add,Nat.mul_add,← h4]
      omega
theorem bits_or_low {s y c:Nat} (hc:c < 2 ^ s) (hy:∃ k,y = k * 2 ^ s) (hyB:y < 4294967296) (hcB:c < 4294967296) (hs:y + c < 4294967296):bits .or .u32 (c:Int) (y:Int) = ((y + c:Nat):Int):=by
  obtain ⟨k,rfl⟩:=hy
  have e:k <<< s + c = k <<< s ||| c:=Nat.shiftLeft_add_eq_or_of_lt hc k
  rw [Nat.shiftLeft_eq] at e
  have h1:(BitVec.ofInt 32 (c:Int)).toNat = c:=by rw [BitVec.ofInt_natCast,BitVec.toNat_ofNat];omega
  have h2:(BitVec.ofInt 32 ((k * 2 ^ s:Nat):Int)).toNat = k * 2 ^ s:=by rw [BitVec.ofInt_natCast,BitVec.toNat_ofNat];omega
  show IntKind.u32.wrap (((BitVec.ofInt 32 (c:Int)) ||| BitVec.ofInt 32 ((k * 2 ^ s:Nat):Int)).toNat:Int) = _
  rw [BitVec.toNat_or,h1,h2,Nat.or_comm,← e,wrap_u32]
  omega
def zerosObj (len:Nat):Obj:=.cells ((List.replicate len 0).map fun x:Nat=>Value.int .u32 x).toArray 67
theorem mkLimbs_run (len:Nat) (hb:len ≤ 1048576) (w:World):(Instr.makeSlice 22 (.int .i64 len) (.int .i64 len)).run Tryz.prog w = .ok (.slice (some ⟨w.heap.size,0,none⟩) len len) (w.alloc (zerosObj len)):=by
  unfold zerosObj
  obtain ⟨i0,hi,hz0,hz1,hz2⟩:=info_parts inf67
  have:=run_make (P:=Tryz.prog) w 22 67 i0 (.int .u32 0) Tryz.underlying22 hi hz0 .i64 .i64 len len (by omega) (Int.le_refl _) (by rw [hz2];omega) (by omega)
  rw [hz1] at this
  have e:madeCells (Value.int .u32 0).cells (len * 1) = ((List.replicate len 0).map fun x:Nat=>Value.int .u32 x).toArray:=by
    apply Array.ext'
    simp [madeCells,Value.cells]
    apply List.ext_getElem
    · simp
    · intro i h1 h2
      simp [Nat.mod_one]
  rw [← e]
  simpa using this
theorem zeros_row (w:World) (m:Nat):DRow (w.alloc (zerosObj m)) w.heap.size (List.replicate m 0):=by
  unfold DRow zerosObj
  generalize (List.replicate m 0) = L
  show (w.heap.push _)[w.heap.size]? = _
  rw [Array.getElem?_push_size]
theorem zeros_below (w:World) (m:Nat):Below w.heap.size w (w.alloc (zerosObj m)):=(Below.refl _ _).alloc (Nat.le_refl _) _
theorem DRow.lim {w:World} {b off n:Nat} {lo mid hi cur:List Nat} (h:DRow w b cur) (e:cur = lo ++ mid ++ hi) (hlo:lo.length = off) (hd:∀ x ∈ mid,x < 4294967296) (hb:b < n):LimAt n w (some ⟨b,off,none⟩) mid:=by
  refine ⟨hd,fun _=>⟨b,off,rfl,hb,fun j x hx=>?_⟩⟩
  have h1:=(List.getElem?_eq_some_iff.1 hx).1
  refine (h.cell ?_).1
  rw [e,List.append_assoc,List.getElem?_append_right (by omega),show off + j - lo.length = j by omega,List.getElem?_append_left h1]
  exact hx
theorem DRow.lim0 {w:World} {b n:Nat} {cur:List Nat} (h:DRow w b cur) (hd:∀ x ∈ cur,x < 4294967296) (hb:b < n) (k:Nat):LimAt n w (some ⟨b,0,none⟩) (cur.take k):=
  h.lim (lo:=[]) (hi:=cur.drop k) (by simp) rfl (fun x hx=>hd x (List.mem_of_mem_take hx)) hb
theorem DRow.lt {w:World} {b:Nat} {cur:List Nat} (h:DRow w b cur):b < w.heap.size:=(Array.getElem?_eq_some_iff.1 h).1
theorem pow_split {s:Nat} (hs:s < 32):(4294967296:Nat) = 2 ^ s * 2 ^ (32 - s):=by
  rw [← Nat.pow_add,show s + (32 - s) = 32 by omega]
theorem ShlD.len {B p:Nat} {xs ds:List Nat} {c:Nat} (h:ShlD B p xs ds c):ds.length = xs.length:=by
  induction h with
  | nil=>rfl
  | snoc h hx ih=>simp [ih]
theorem row_set0 {ds rest:List Nat} {c d:Nat} {k:Nat} (hk:ds.length = k):(ds ++ c :: rest).set k d = ds ++ d :: rest:=by
  rw [List.set_append_right _ _ (by omega),hk,Nat.sub_self];rfl
theorem row_set1 {ds rest:List Nat} {c e d:Nat} {k:Nat} (hk:ds.length = k):(ds ++ c :: e :: rest).set (k + 1) d = ds ++ c :: d :: rest:=by
  rw [List.set_append_right _ _ (by omega),hk,show k + 1 - k = 1 by omega];rfl
theorem row_get0 {ds rest:List Nat} {c:Nat} {k:Nat} (hk:ds.length = k):(ds ++ c :: rest)[k]? = some c:=by
  rw [List.getElem?_append_right (by omega),hk,Nat.sub_self];rfl
theorem row_get1 {ds rest:List Nat} {c e:Nat} {k:Nat} (hk:ds.length = k):(ds ++ c :: e :: rest)[k + 1]? = some e:=by
  rw [List.getElem?_append_right (by omega),hk,show k + 1 - k = 1 by omega];rfl
set_option maxRecDepth 100000 in
set_option maxHeartbeats 4000000 in
theorem shl_calls (a:Option Addr) (len cap n s:Nat) (A:List Nat) (hl:A.length = len) (hb:len ≤ 1000000) (hs:s < 32) (hnz:0 < len) (hAB:∀ x ∈ A,x < 4294967296) (w:World) (hn:n ≤ w.heap.size) (h1:LimAt n w a A) :
    Calls Tryz.prog 269 #[.slice a len cap,.int .i64 s] w fun e w'=>∃ L k,e = .returned (.slice (some ⟨w.heap.size,0,none⟩) k (len + 1)) ∧ L.length = len + 1 ∧ (∀ x ∈ L,x < 4294967296) ∧ val 4294967296 L = val 4294967296 A * 2 ^ s ∧ Trimmed L k ∧ DRow w' w.heap.size L ∧ Below w.heap.size w w':=by
  have hlB:((len:Int) == 0) = false:=by simp;omega
  have hq:(s:Int) / 32 = 0:=by omega
  have hr:(s:Int) % 32 = s:=by omega
  have hwl:IntKind.i64.wrap ((len:Int) + 1) = (len:Int) + 1:=by rw [IntKind.wrap_i64];omega
  have mk:∀ w:World,(Instr.makeSlice 22 (.int .i64 ((len:Int) + 1)) (.int .i64 ((len:Int) + 1))).run Tryz.prog w = _:=fun w=>mkLimbs_run (len + 1) (by omega) w
  obtain ⟨wb,hwb⟩:∃ wb,w.alloc (zerosObj (len + 1)) = wb:=⟨_,rfl⟩
  go_enter Tryz.func269,Tryz.ntmps269
  go_wp2_with fail
  have hRb:DRow wb w.heap.size (List.replicate (len + 1) 0):=by
    rw [← hwb];exact zeros_row w _
  have hBb:Below w.heap.size w wb:=hwb ▸ zeros_below w _
  have h1b:LimAt n wb a A:=h1.below hBb hn
  have hRA:Aside (DRow wb w.heap.size (List.replicate (len + 1) 0) ∧ Below w.heap.size w wb):=⟨hRb,hBb⟩
  clear hwb hRb hBb mk
  go_loopw [21] (fun s21 wr=>∃ (i c:Nat) (ds:List Nat),s21 = .int .i64 i ∧ i ≤ len ∧ Aside (ds.length = i ∧ ShlD 4294967296 (2 ^ s) (A.take i) ds c) ∧ DRow wr w.heap.size (ds ++ c :: List.replicate (len - i) 0) ∧ Below w.heap.size w wr) (fun s _=>len - (intOf s).toNat)
  case atStart=>exact ⟨0,0,[],rfl,Nat.zero_le _,⟨rfl,by simpa using ShlD.nil⟩,by simpa [List.replicate_succ] using hRA.out.1,hRA.out.2⟩
  case round=>
    obtain ⟨i,c,ds,rfl,hi,hD,hR,hB⟩:=hrel
    by_cases hlt:i < len
    · obtain ⟨x,hx⟩:∃ x,A[i]? = some x:=⟨_,List.getElem?_eq_getElem (by omega)⟩
      obtain ⟨b,off,rfl,hbk,hxl,hc⟩:=(h1.below hB hn).get hx
      have hxB:=hAB x (List.mem_of_getElem? hx)
      obtain ⟨z,hz⟩:∃ z,len - i = z + 1:=⟨len - i - 1,by omega⟩
      rw [hz,List.replicate_succ] at hR
      obtain ⟨p,hp⟩:∃ p,p = 2 ^ s:=⟨_,rfl⟩
      obtain ⟨m,hm⟩:∃ m,m = 2 ^ (32 - s):=⟨_,rfl⟩
      have hpm:4294967296 = p * m:=by rw [hp,hm];exact pow_split hs
      have hp0:0 < p:=by rw [hp];exact Nat.pow_pos (by decide)
      have hm0:0 < m:=by rw [hm];exact Nat.pow_pos (by decide)
      obtain ⟨y,hy⟩:∃ y,y = x * p:=⟨_,rfl⟩
      have hp32:p ≤ 2147483648:=by rw [hp];exact Nat.pow_le_pow_right (by decide) (show s ≤ 31 by omega)
      have hyB:y ≤ 4294967295 * 2147483648:=by rw [hy];exact Nat.mul_le_mul (by omega) hp32
      have sp:=hD.out.2.spec (m:=m) (by rw [← hp];exact hpm) (by rw [← hp];exact hp0)
      have hcp:c < p:=by rw [hp];exact sp.2.1
      obtain ⟨k,hk⟩:∃ k,y % 4294967296 = k * p:=⟨x % m,by rw [hy,hpm,Nat.mul_comm x p,Nat.mul_mod_mul_left,Nat.mul_comm]⟩
      have hkp:k * p + p ≤ 4294967296:=by
        have hkm:k < m:=by
          have:k * p < m * p:=by rw [← hk,Nat.mul_comm m p,← hpm];omega
          exact Nat.lt_of_mul_lt_mul_right this
        rw [hpm,← Nat.succ_mul,Nat.mul_comm p m]
        exact Nat.mul_le_mul_right _ hkm
      obtain ⟨lw,hlw⟩:∃ lw,lw = y % 4294967296:=⟨_,rfl⟩
      obtain ⟨hg,hhg⟩:∃ hg,hg = y / 4294967296:=⟨_,rfl⟩
      have m1:IntKind.u64.wrap (x:Int) = (x:Int):=by rw [wrap_u64];omega
      have m5:IntKind.u32.wrap (y:Int) = (lw:Int):=by rw [wrap_u32];omega
      have m7:(y:Int) / 4294967296 = (hg:Int):=by omega
      have m8:IntKind.u32.wrap (hg:Int) = (hg:Int):=by rw [wrap_u32];omega
      have hi1:(i:Int) < (len:Int):=by omega
      have hi2:(0:Int) ≤ (i:Int):=by omega
      have hi3:(i:Int) < (len:Int) + 1:=by omega
      have hi4:(i:Int) + 1 < (len:Int) + 1:=by omega
      have hi5:(0:Int) ≤ (i:Int) + 1:=by omega
      have hwk:IntKind.i64.wrap ((i:Int) + 1) = (i:Int) + 1:=by rw [IntKind.wrap_i64];omega
      have m2:IntKind.u64.wrap ((x:Int) * 2 ^ s) = (y:Int):=by
        have e:(x:Int) * 2 ^ s = (y:Int):=by rw [hy,hp];simp
        rw [e,wrap_u64];omega
      obtain ⟨d,hd⟩:∃ d,d = lw + c:=⟨_,rfl⟩
      have hlk:lw = k * 2 ^ s:=by rw [hlw,hk,hp]
      have mo:bits .or .u32 (c:Int) (lw:Int) = (d:Int):=by
        rw [hd]
        exact bits_or_low (s:=s) (by rw [← hp];exact hcp) ⟨k,hlk⟩ (by omega) (by omega) (by omega)
      have mz:bits .or .u32 (0:Int) (hg:Int) = (hg:Int):=by
        have:=bits_or_low (s:=0) (c:=0) (y:=hg) (by decide) ⟨hg,by simp⟩ (by omega) (by decide) (by omega)
        simpa using this
      have hdl:=hD.out.1
      obtain ⟨c0,c1⟩:=hR.cell (row_get0 (c:=c) (rest:=0 :: List.replicate z 0) hdl)
      have hR1:=hR.set (k:=i) (d:=d)
      rw [row_set0 hdl] at hR1
      obtain ⟨c2,c3⟩:=hR1.cell (row_get1 (c:=d) (e:=0) (rest:=List.replicate z 0) hdl)
      have hR2:=hR1.set (k:=i + 1) (d:=hg)
      rw [row_set1 hdl] at hR2
      have hB2:=(hB.setCell (p:=⟨w.heap.size,i,none⟩) (Nat.le_refl _) (.int .u32 d)).setCell (p:=⟨w.heap.size,i + 1,none⟩) (Nat.le_refl _) (.int .u32 hg)
      have hD2:Aside ((ds ++ [d]).length = i + 1 ∧ ShlD 4294967296 (2 ^ s) (A.take (i + 1)) (ds ++ [d]) hg):=by
        refine ⟨by rw [List.length_append,hdl];rfl,?_⟩
        have:=ShlD.snoc hD.out.2 hxB
        rw [take_snoc hx]
        have e1:d = x * 2 ^ s % 4294967296 + c:=by rw [hd,hlw,hy,hp]
        have e2:hg = x * 2 ^ s / 4294967296:=by rw [hhg,hy,hp]
        rw [e1,e2];exact this
      have hzz:Aside (len - (i + 1) = z):=by show _ = _;omega
      have hia:Aside (i < len):=hlt
      clear sp hR hR1 hB hd hlk hlw hhg hy hp hm hpm hp0 hm0 hk hkp hcp hdl hz hD hyB hp32 hx
      go_wp2_with fail
      exact ⟨⟨i + 1,hg,ds ++ [d],by simp,by have:=hia.out;omega,hD2,by rw [hzz.out];simpa using hR2,hB2⟩,by have:=hia.out;simp [intOf];omega⟩
    · obtain rfl:i = len:=by omega
      obtain ⟨hdl,hSD⟩:=hD.out
      rw [List.take_of_length_le (by omega)] at hSD
      rw [Nat.sub_self,List.replicate_zero] at hR
      obtain ⟨q1,q2,q3,q4⟩:=hSD.spec (pow_split hs) (Nat.pow_pos (by decide))
      have hp32:2 ^ s ≤ 2147483648:=Nat.pow_le_pow_right (by decide) (show s ≤ 31 by omega)
      have hLd:∀ x ∈ ds ++ [c],x < 4294967296:=fun x hx=>by
        rcases List.mem_append.1 hx with hx | hx
        · exact q3 x hx
        · simp at hx;omega
      have hLl:(ds ++ [c]).length = i + 1:=by rw [List.length_append,hdl];rfl
      have hLv:val 4294967296 (ds ++ [c]) = val 4294967296 A * 2 ^ s:=by rw [val_snoc,q1];exact q4
      have hl2:LimAt wr.heap.size wr (some ⟨w.heap.size,0,none⟩) (ds ++ [c]):=by
        have:=hR.lim0 hLd hR.lt (i + 1)
        rwa [List.take_of_length_le (by omega)] at this
      have htr:=ntrim_calls (some ⟨w.heap.size,0,none⟩) (i + 1) (i + 1) wr.heap.size (ds ++ [c]) hLl (by omega) (Nat.le_refl _) wr (Nat.le_refl _) hl2
      have hFin:Aside ((ds ++ [c]).length = i + 1 ∧ (∀ x ∈ ds ++ [c],x < 4294967296) ∧ val 4294967296 (ds ++ [c]) = val 4294967296 A * 2 ^ s):=⟨hLl,hLd,hLv⟩
      have hRa:Aside (DRow wr w.heap.size (ds ++ [c])):=hR
      clear hLl hLd hLv hl2 q1 q2 q3 q4 hSD hdl hR hp32 hD
      go_wp2_with (go_at_call 272;with_reducible refine htr.mono ?_;rintro e w' ⟨k,rfl,hT,hb2⟩)
      go_ret
      exact ⟨_,k,rfl,hFin.out.1,hFin.out.2.1,hFin.out.2.2,hT,(hb2.block w.heap.size hRa.out.lt).trans hRa.out,hB.trans (hb2.mono hB.size)⟩
end Go.Proofs.YtaloeffmigffaaaGreatDoor
end
section
namespace Go.Proofs.YtaloeffmigffaaaGreatDoor
open Go.RowKit Go.Big
attribute [local go_sem] Heavy.uponW
def NatL (n:Nat) (w:World) (r:Value) (v:Nat):Prop:=∃ a L c,r = .slice a L.length c ∧ LimAt n w a L ∧ NoZ L ∧ val 4294967296 L = v
theorem LimAt.up {n m:Nat} {w:World} {a:Option Addr} {L:List Nat} (h:LimAt n w a L) (hm:n ≤ m):LimAt m w a L:=by
  refine ⟨h.1,fun hne=>?_⟩
  obtain ⟨b,off,e,hbn,hc⟩:=h.2 hne
  exact ⟨b,off,e,by omega,hc⟩
theorem NatL.below {n m:Nat} {w w':World} {r:Value} {v:Nat} (h:NatL n w r v) (hb:Below m w w') (hm:n ≤ m):NatL n w' r v:=by
  obtain ⟨a,L,c,h1,h3,h4⟩:=h
  exact ⟨a,L,c,h1,h3.below hb hm,h4⟩
theorem NatL.up {n m:Nat} {w:World} {r:Value} {v:Nat} (h:NatL n w r v) (hm:n ≤ m):NatL m w r v:=by
  obtain ⟨a,L,c,h1,h3,h4⟩:=h
  exact ⟨a,L,c,h1,h3.up hm,h4⟩
theorem Trimmed.noZ {L:List Nat} {k:Nat} (h:Trimmed L k):NoZ (L.take k):=by
  intro x hx
  rw [List.getLast?_eq_getElem?,List.length_take,Nat.min_eq_left h.1] at hx
  rcases h.2.2 with h0 | ⟨y,hy,hy0⟩
  · subst h0;simp at hx
  · have hk:k - 1 < k:=by
      rcases Nat.eq_zero_or_pos k with h0 | h0
      · subst h0;simp at hx
      · omega
    rw [List.getElem?_take_of_lt hk,hy] at hx
    cases hx;exact hy0
theorem bits_or_shift' (x y:Nat) (hx:x < 4294967296) (hy:y < 4294967296):bits .or .u64 (x:Int) ((y:Int) * 4294967296) = ((x + y * 4294967296:Nat):Int):=by
  have e:y <<< 32 + x = y <<< 32 ||| x:=Nat.shiftLeft_add_eq_or_of_lt (by omega) y
  rw [Nat.shiftLeft_eq] at e
  have h1:(BitVec.ofInt 64 (x:Int)).toNat = x:=by rw [BitVec.ofInt_natCast,BitVec.toNat_ofNat];omega
  have e1:((y:Int) * 4294967296) = ((y * 4294967296:Nat):Int):=by simp
  have h2:(BitVec.ofInt 64 ((y * 4294967296:Nat):Int)).toNat = y * 4294967296:=by rw [BitVec.ofInt_natCast,BitVec.toNat_ofNat];omega
  show IntKind.u64.wrap (((BitVec.ofInt 64 (x:Int)) ||| BitVec.ofInt 64 ((y:Int) * 4294967296)).toNat:Int) = _
  rw [e1,BitVec.toNat_or,h1,h2,Nat.or_comm]
  have e3:y * 4294967296 ||| x = y * 4294967296 + x:=by rw [show (4294967296:Nat) = 2 ^ 32 by decide,e]
  rw [e3,wrap_u64]
  omega
theorem NatL.of_trim {w w':World} {bo k i:Nat} {ds:List Nat} (hl:ds.length = i) (hT:Trimmed ds k) (h:LimAt w.heap.size w (some ⟨bo,0,none⟩) ds) (hb:Below w.heap.size w w'):NatL w'.heap.size w' (.slice (some ⟨bo,0,none⟩) k i) (val 4294967296 ds):=by
  have hk:=hT.1
  refine ⟨some ⟨bo,0,none⟩,ds.take k,i,?_,?_,hT.noZ,hT.val⟩
  · rw [List.length_take,Nat.min_eq_left hT.1]
  · have:=((h.below hb (Nat.le_refl _)).up hb.size)
    refine ⟨fun x hx=>this.1 x (List.mem_of_mem_take hx),fun hne=>?_⟩
    obtain ⟨b3,off3,e3,hb3,hc3⟩:=this.2 (fun h=>hne (by rw [h];simp))
    exact ⟨b3,off3,e3,hb3,fun j x hx=>hc3 j x (by
      have hj:j < k:=by
        have:=(List.getElem?_eq_some_iff.1 hx).1
        rw [List.length_take] at this;omega
      rwa [List.getElem?_take_of_lt hj] at hx)⟩
structure ShrD (B p:Nat) (A:List Nat) (i:Nat) (ds:List Nat):Prop where
  len:ds.length = i
  dig:∀ d ∈ ds,d < B
  sum:val B ds * p + dg A 0 % p = val B (A.take i) + B ^ i * (dg A i % p)
theorem ShrD.start {B p:Nat} {A:List Nat}:ShrD B p A 0 []:=⟨rfl,by simp,by simp [val]⟩
theorem shr_digit {p m x y:Nat} (hp:0 < p) (hm:0 < m) (hx:x < p * m):(x + y * (p * m)) / p % (p * m) < p * m ∧ (x + y * (p * m)) / p % (p * m) * p + x % p = x + p * m * (y % p):=by
  have hpm:0 < p * m:=Nat.mul_pos hp hm
  refine ⟨Nat.mod_lt _ hpm,?_⟩
  have e1:(x + y * (p * m)) / p = x / p + m * y:=by
    rw [show y * (p * m) = p * (m * y) by rw [Nat.mul_comm y,Nat.mul_assoc],Nat.add_mul_div_left _ _ hp]
  have hxm:x / p < m:=Nat.div_lt_of_lt_mul hx
  have hy:m * (y % p) + m ≤ p * m:=by
    rw [← Nat.mul_succ,Nat.mul_comm p m]
    exact Nat.mul_le_mul_left _ (Nat.mod_lt _ hp)
  have e2:(x / p + m * y) % (p * m) = x / p + m * (y % p):=by
    have e3:m * y = m * (y % p) + p * m * (y / p):=by
      have:=Nat.mod_add_div y p
      conv=>lhs;rw [← this]
      rw [Nat.mul_add,← Nat.mul_assoc,Nat.mul_comm m p]
    rw [e3,← Nat.add_assoc,Nat.add_mul_mod_self_left,Nat.mod_eq_of_lt (by omega)]
  rw [e1,e2,Nat.add_mul]
  have h1:=Nat.div_add_mod x p
  have h2:m * (y % p) * p = p * m * (y % p):=by rw [Nat.mul_comm,Nat.mul_assoc]
  rw [h2,Nat.mul_comm (x / p) p]
  omega
theorem ShrD.step {B p m:Nat} {A ds:List Nat} {i x:Nat} (hB:B = p * m) (hp:0 < p) (hm:0 < m) (h:ShrD B p A i ds) (hx:A[i]? = some x) (hxB:x < B):ShrD B p A (i + 1) (ds ++ [(x + dg A (i + 1) * B) / p % B]):=by
  obtain ⟨q1,q2⟩:=shr_digit (y:=dg A (i + 1)) hp hm (by rw [← hB];exact hxB)
  rw [← hB] at q1 q2
  obtain ⟨d,hd⟩:∃ d,d = (x + dg A (i + 1) * B) / p % B:=⟨_,rfl⟩
  rw [← hd] at q1 q2 ⊢
  refine ⟨by rw [List.length_append,h.len];rfl,fun e he=>?_,?_⟩
  · rcases List.mem_append.1 he with he | he
    · exact h.dig e he
    · simp at he;omega
  · have h1:=h.sum
    rw [dg_some hx] at h1
    have hl:(A.take i).length = i:=by
      have:=(List.getElem?_eq_some_iff.1 hx).1
      rw [List.length_take];omega
    rw [val_snoc,h.len,take_snoc hx,val_snoc,hl,Nat.pow_succ]
    have e1:(val B ds + B ^ i * d) * p = val B ds * p + B ^ i * (d * p):=by rw [Nat.add_mul,Nat.mul_assoc]
    have e2:B ^ i * (d * p) + B ^ i * (x % p) = B ^ i * x + B ^ i * B * (dg A (i + 1) % p):=by
      rw [← Nat.mul_add,q2,Nat.mul_add,Nat.mul_assoc]
    rw [e1]
    omega
theorem ShrD.done {B p:Nat} {A ds:List Nat} (hp:0 < p) (h:ShrD B p A A.length ds):val B ds = val B A / p:=by
  have h1:=h.sum
  rw [dg_ge (Nat.le_refl _),Nat.zero_mod,Nat.mul_zero,Nat.add_zero,List.take_length] at h1
  have h2:dg A 0 % p < p:=Nat.mod_lt _ hp
  rw [← h1,Nat.mul_comm,Nat.mul_add_div hp,Nat.div_eq_of_lt h2,Nat.add_zero]
set_option maxRecDepth 100000 in
set_option maxHeartbeats 4000000 in
theorem shr_calls (a:Option Addr) (len cap n s:Nat) (A:List Nat) (hl:A.length = len) (hb:len ≤ 1000000) (hs:s < 32) (hcap:len ≤ cap) (w:World) (hn:n ≤ w.heap.size) (h1:LimAt n w a A) :
    Calls Tryz.prog 271 #[.slice a len cap,.int .i64 s] w fun e w'=>∃ r x,e = .returned (.tuple #[r,x]) ∧ NatL w'.heap.size w' r (val 4294967296 A / 2 ^ s) ∧ Below w.heap.size w w':=by
  have hq:(s:Int) / 32 = 0:=by omega
  have hr:(s:Int) % 32 = s:=by omega
  by_cases h0:len = 0
  · subst h0
    obtain rfl:A = []:=List.length_eq_zero_iff.1 hl
    go_enter Tryz.func271,Tryz.ntmps271
    go_wp2_with fail
    go_ret2
    exact ⟨_,_,rfl,⟨none,[],0,rfl,⟨by simp,fun h=>absurd rfl h⟩,by simp [NoZ],by simp [val]⟩,Below.refl _ _⟩
  · have hnz:¬ ((len:Int) ≤ 0):=by omega
    obtain ⟨x0,hx0⟩:∃ x,A[0]? = some x:=⟨_,List.getElem?_eq_getElem (by omega)⟩
    obtain ⟨b,off,rfl,hbk,hx0B,hc0⟩:=h1.get hx0
    have hcz:∀ w2,Below w.heap.size w w2 → w2.cell? ⟨b,off,none⟩ = some (.int .u32 x0):=fun w2 hb2=>(hb2.cell (p:=⟨b,off,none⟩) (by show b < _;omega)).trans (by simpa using hc0)
    have hz1:∀ w2,Below w.heap.size w w2 → Calls Tryz.prog 23 #[.slice (some ⟨b,off,none⟩) 0 cap] w2 fun e w'=>∃ sv,e = .returned sv ∧ (∃ a c,sv = .slice a 0 c ∧ LimS (Fresh w2.heap.size w'.heap.size) w' a []) ∧ Below w2.heap.size w2 w':=fun w2 hb2=>rclone_calls _ 0 [] (by simp) w2 (Nat.zero_le _) ⟨_,cap,rfl,by simp,fun h=>absurd rfl h⟩
    have hlp:0 < len:=by omega
    have hrt:(s:Int).tmod 32 = s:=by rw [Int.tmod_eq_emod_of_nonneg (by omega)];omega
    have hcx:(0:Int) ≤ (cap:Int):=by omega
    go_enter Tryz.func271,Tryz.ntmps271
    go_upto_region 4 with fail
    have hBd:Below w.heap.size w { w with drawn:=w.drawn + 1 }:=below_drew w
    refine Heavy.region_plan (fun w'=>Below w.heap.size w w') 19 (Heavy.lights [0,1,2] (.one 3 (.one 4 (Heavy.lights [5,6,7,8,9,10,11,12,13,14,15,16,17,18] .done)))) (by kernel_rfl) (by kernel_rfl) hBd ?_
    simp only [Heavy.lights,List.take_succ_cons,List.take_zero,List.drop_succ_cons,List.drop_zero]
    iterate 3 (apply Heavy.light_n;(exact rfl);(exact rfl);(intro wr2 hw;go_simp;exact rfl))
    apply Heavy.one_n
    · exact rfl
    · exact rfl
    go_simp
    refine (hz1 _ hBd).mono ?_
    rintro e w3 ⟨sv1,rfl,⟨b1,e1,rfl,hL1⟩,hb3⟩
    have hB3:Below w.heap.size w w3:=hBd.trans hb3
    refine ⟨_,rfl,hB3,?_⟩
    apply Heavy.one_n
    · exact rfl
    · exact rfl
    go_simp
    refine (ntrim_calls b1 0 e1 0 [] rfl (by decide) (Nat.zero_le _) w3 (Nat.zero_le _) ⟨by simp,fun h=>absurd rfl h⟩).mono ?_
    rintro e w4 ⟨k4,rfl,hT4,hb4⟩
    have hB4:Below w.heap.size w w4:=hB3.trans (hb4.mono hB3.size)
    obtain rfl:k4 = 0:=by have:=hT4.1;simp only [List.length_nil] at this;omega
    clear hT4
    refine ⟨_,rfl,hB4,?_⟩
    iterate 3 (apply Heavy.light_n;(exact rfl);(exact rfl);(intro wr2 hw;go_simp;exact rfl))
    iterate 10 (apply Heavy.light_step;(exact rfl);(go_simp);(intro wr2 hw;have ka:=hcz wr2 hw;go_simp;exact rfl))
    iterate 1 (apply Heavy.light_n;(exact rfl);(exact rfl);(intro wr2 hw;go_simp;exact rfl))
    refine Heavy.plan_end ?_
    have mk:(Instr.makeSlice 22 (.int .i64 (len:Int)) (.int .i64 (len:Int))).run Tryz.prog w4 = _:=mkLimbs_run len (by omega) w4
    obtain ⟨wb,hwb⟩:∃ wb,w4.alloc (zerosObj len) = wb:=⟨_,rfl⟩
    have hRb:DRow wb w4.heap.size (List.replicate len 0):=hwb ▸ zeros_row w4 len
    have hBb:Below w.heap.size w wb:=hB4.trans ((hwb ▸ zeros_below w4 len).mono hB4.size)
    have hwl:IntKind.i64.wrap (len:Int) = (len:Int):=by rw [IntKind.wrap_i64];omega
    obtain ⟨bo,hbo⟩:∃ bo,w4.heap.size = bo:=⟨_,rfl⟩
    rw [hbo] at hRb mk
    have hob:w.heap.size ≤ bo:=hbo ▸ hB4.size
    have hA4:Aside (DRow wb bo (List.replicate len 0) ∧ Below w.heap.size w wb ∧ w.heap.size ≤ bo):=⟨hRb,hBb,hob⟩
    clear hb3 hB3 hb4 hB4 hRb hBb hob hL1 hBd hbo
    go_wp2_with fail
    clear mk hwb
    have hAx:Aside (A.length = len):=hl
    go_loopw [44] (fun s44 wr=>∃ (i:Nat) (ds:List Nat),s44 = .int .i64 i ∧ i ≤ len ∧ Aside (ShrD 4294967296 (2 ^ s) A i ds) ∧ DRow wr bo (ds ++ List.replicate (len - i) 0) ∧ Below w.heap.size w wr) (fun s _=>len - (intOf s).toNat)
    case atStart=>exact ⟨0,[],rfl,Nat.zero_le _,ShrD.start,by simpa using hA4.out.1,hA4.out.2.1⟩
    case round=>
      obtain ⟨i,ds,rfl,hi,hD,hR,hB⟩:=hrel
      by_cases hlt:i < len
      · obtain ⟨x,hx⟩:∃ x,A[i]? = some x:=⟨_,List.getElem?_eq_getElem (by omega)⟩
        have hxB:=h1.1 x (List.mem_of_getElem? hx)
        have hc:wr.cell? ⟨b,off + i,none⟩ = some (.int .u32 x):=by
          obtain ⟨b',off',e,_,_,h⟩:=(h1.below hB hn).get hx
          cases e;exact h
        obtain ⟨z,hz⟩:∃ z,len - i = z + 1:=⟨len - i - 1,by omega⟩
        rw [hz,List.replicate_succ] at hR
        obtain ⟨y,hy⟩:∃ y,y = dg A (i + 1):=⟨_,rfl⟩
        have hyB:y < 4294967296:=by rw [hy];exact dg_lt (by decide) h1.1 _
        obtain ⟨T,hT⟩:∃ T,T = x + y * 4294967296:=⟨_,rfl⟩
        obtain ⟨q,hq'⟩:∃ q,q = T / 2 ^ s:=⟨_,rfl⟩
        obtain ⟨d,hd⟩:∃ d,d = q % 4294967296:=⟨_,rfl⟩
        have hstep:=ShrD.step (pow_split hs) (Nat.pow_pos (by decide)) (Nat.pow_pos (by decide)) hD.out hx hxB
        rw [← hy,← hT,← hq',← hd] at hstep
        have hsA:Aside (ShrD 4294967296 (2 ^ s) A (i + 1) (ds ++ [d])):=hstep
        have m1:IntKind.u64.wrap (x:Int) = (x:Int):=by rw [wrap_u64];omega
        have m2:(T:Int) / 2 ^ s = (q:Int):=by rw [hq'];simp
        have m3:IntKind.u32.wrap (q:Int) = (d:Int):=by rw [wrap_u32];omega
        have hdl:=hD.out.len
        obtain ⟨c0,c1⟩:=hR.cell (row_get0 (c:=0) (rest:=List.replicate z 0) hdl)
        have hR2:=hR.set (k:=i) (d:=d)
        rw [row_set0 hdl] at hR2
        have hB2:=hB.setCell (p:=⟨bo,i,none⟩) hA4.out.2.2 (.int .u32 d)
        have hi1:(i:Int) < (len:Int):=by omega
        have hi2:(0:Int) ≤ (i:Int):=by omega
        have hwk:IntKind.i64.wrap ((i:Int) + 1) = (i:Int) + 1:=by rw [IntKind.wrap_i64];omega
        have hzz:Aside (len - (i + 1) = z):=by show _ = _;omega
        have hia:Aside (i < len):=hlt
        by_cases hlast:i + 1 < len
        · have hc2:wr.cell? ⟨b,off + (i + 1),none⟩ = some (.int .u32 y):=by
            have hx2:A[i + 1]? = some y:=by rw [hy];exact dg_get (by omega)
            obtain ⟨b',off',e,_,_,h⟩:=(h1.below hB hn).get hx2
            cases e;exact h
          have m4:IntKind.u64.wrap (y:Int) = (y:Int):=by rw [wrap_u64];omega
          have m5:IntKind.u64.wrap ((y:Int) * 4294967296) = (y:Int) * 4294967296:=by rw [wrap_u64];omega
          have m6:bits .or .u64 (x:Int) ((y:Int) * 4294967296) = (T:Int):=by rw [bits_or_shift' x y hxB hyB,hT]
          have hi3:(i:Int) + 1 < (len:Int):=by omega
          have hi4:(0:Int) ≤ (i:Int) + 1:=by omega
          clear hstep hdl hd hq' hT hy hz hR hB hD hx hlt hxB hyB hlast
          go_wp2_with fail
          exact ⟨⟨i + 1,ds ++ [d],by simp,by have:=hia.out;omega,hsA,by rw [hzz.out];simpa using hR2,hB2⟩,by have:=hia.out;simp [intOf];omega⟩
        · have hy0:y = 0:=by rw [hy];exact dg_ge (by omega)
          have hTx:T = x:=by rw [hT,hy0];omega
          subst hTx
          have hi3:¬ (i:Int) + 1 < (len:Int):=by omega
          clear hstep hdl hd hq' hT hy hz hR hB hD hx hlt hxB hyB hlast hy0
          go_wp2_with fail
          exact ⟨⟨i + 1,ds ++ [d],by simp,by have:=hia.out;omega,hsA,by rw [hzz.out];simpa using hR2,hB2⟩,by have:=hia.out;simp [intOf];omega⟩
      · obtain rfl:i = len:=by omega
        have hD2:=hD.out
        rw [Nat.sub_self,List.replicate_zero,List.append_nil] at hR
        have hv:=(show ShrD 4294967296 (2 ^ s) A A.length ds by rw [hAx.out];exact hD2).done (Nat.pow_pos (by decide))
        have hl2:LimAt wr.heap.size wr (some ⟨bo,0,none⟩) ds:=by
          have:=hR.lim0 hD2.dig hR.lt i
          rwa [List.take_of_length_le (by rw [hD2.len];exact Nat.le_refl _)] at this
        have htr:=ntrim_calls (some ⟨bo,0,none⟩) i i wr.heap.size ds hD2.len (by omega) (Nat.le_refl _) wr (Nat.le_refl _) hl2
        have hFin:Aside (val 4294967296 ds = val 4294967296 A / 2 ^ s ∧ ds.length = i ∧ LimAt wr.heap.size wr (some ⟨bo,0,none⟩) ds):=⟨hv,hD2.len,hl2⟩
        clear hv hl2 hD2 hR hD
        go_wp2_with (go_at_call 272;with_reducible refine htr.mono ?_;rintro e w' ⟨k,rfl,hT,hb2⟩)
        go_ret2
        have:=NatL.of_trim hFin.out.2.1 hT hFin.out.2.2 hb2
        rw [hFin.out.1] at this
        exact ⟨_,_,rfl,this,hB.trans (hb2.mono hB.size)⟩
end Go.Proofs.YtaloeffmigffaaaGreatDoor
end
section
namespace Go.Proofs.YtaloeffmigffaaaGreatDoor
open Go.RowKit Go.Big
structure DivS (B d:Nat) (A:List Nat) (j:Nat) (qs:List Nat) (rest:Nat):Prop where
  len:j + qs.length = A.length
  dig:∀ q ∈ qs,q < B
  lt:rest < d
  sum:val B (A.drop j) = val B qs * d + rest
theorem DivS.start {B d:Nat} {A:List Nat} (hd:0 < d):DivS B d A A.length [] 0:=⟨by simp,by simp,hd,by simp [val]⟩
theorem DivS.step {B d:Nat} {A:List Nat} {j x rest:Nat} {qs:List Nat} (h:DivS B d A (j + 1) qs rest) (hx:A[j]? = some x) (hxB:x < B):(rest * B + x) / d < B ∧ DivS B d A j ((rest * B + x) / d :: qs) ((rest * B + x) % d):=by
  have hd:0 < d:=Nat.lt_of_le_of_lt (Nat.zero_le _) h.lt
  have hq:(rest * B + x) / d < B:=by
    refine Nat.div_lt_of_lt_mul ?_
    have:(rest + 1) * B ≤ d * B:=Nat.mul_le_mul_right _ h.lt
    rw [Nat.add_mul,Nat.one_mul] at this
    omega
  refine ⟨hq,⟨by have:=h.len;simp only [List.length_cons];omega,fun q hm=>?_,Nat.mod_lt _ hd,?_⟩⟩
  · rcases List.mem_cons.1 hm with rfl | hm
    · exact hq
    · exact h.dig q hm
  · obtain ⟨h1,rfl⟩:=List.getElem?_eq_some_iff.1 hx
    rw [List.drop_eq_getElem_cons h1,val,h.sum,val]
    have e:=Nat.div_add_mod (rest * B + A[j]) d
    obtain ⟨Q,hQ⟩:∃ Q,Q = (rest * B + A[j]) / d:=⟨_,rfl⟩
    obtain ⟨R,hR⟩:∃ R,R = (rest * B + A[j]) % d:=⟨_,rfl⟩
    rw [← hQ,← hR] at e ⊢
    rw [Nat.add_mul,Nat.mul_add,Nat.mul_assoc,Nat.mul_comm Q d,Nat.mul_comm B rest]
    omega
theorem DivS.done {B d rest:Nat} {A qs:List Nat} (h:DivS B d A 0 qs rest):val B A / d = val B qs ∧ val B A % d = rest:=by
  have h1:=h.sum
  rw [List.drop_zero] at h1
  have hd:0 < d:=Nat.lt_of_le_of_lt (Nat.zero_le _) h.lt
  rw [h1,Nat.mul_comm]
  exact ⟨by rw [Nat.mul_add_div hd,Nat.div_eq_of_lt h.lt,Nat.add_zero],by rw [Nat.mul_add_mod,Nat.mod_eq_of_lt h.lt]⟩
theorem row_setd {j q:Nat} {qs:List Nat}:(List.replicate (j + 1) 0 ++ qs).set j q = List.replicate j 0 ++ q :: qs:=by
  rw [List.replicate_succ',List.append_assoc]
  exact row_set0 (by simp)
theorem row_getd {j:Nat} {qs:List Nat}:(List.replicate (j + 1) 0 ++ qs)[j]? = some 0:=by
  rw [List.replicate_succ',List.append_assoc]
  exact row_get0 (by simp)
set_option maxRecDepth 100000 in
set_option maxHeartbeats 4000000 in
theorem divSmall_calls (a:Option Addr) (len cap n d:Nat) (A:List Nat) (hl:A.length = len) (hb:len ≤ 1000000) (hd0:0 < d) (hdB:d < 4294967296) (w:World) (hn:n ≤ w.heap.size) (h1:LimAt n w a A) :
    Calls Tryz.prog 266 #[.slice a len cap,.int .u32 d] w fun e w'=>∃ (q:Value) (r:Nat),e = .returned (.tuple #[q,.int .u32 r]) ∧ r = val 4294967296 A % d ∧ NatL w'.heap.size w' q (val 4294967296 A / d) ∧ Below w.heap.size w w':=by
  have mk:(Instr.makeSlice 22 (.int .i64 (len:Int)) (.int .i64 (len:Int))).run Tryz.prog w = _:=mkLimbs_run len (by omega) w
  obtain ⟨wb,hwb⟩:∃ wb,w.alloc (zerosObj len) = wb:=⟨_,rfl⟩
  have hRb:DRow wb w.heap.size (List.replicate len 0):=hwb ▸ zeros_row w len
  have hBb:Below w.heap.size w wb:=hwb ▸ zeros_below w len
  have hA4:Aside (DRow wb w.heap.size (List.replicate len 0) ∧ Below w.heap.size w wb):=⟨hRb,hBb⟩
  have hwl:IntKind.i64.wrap ((len:Int) - 1) = (len:Int) - 1:=by rw [IntKind.wrap_i64];omega
  have hd9:¬ d = 0:=by omega
  clear hRb hBb
  go_enter Tryz.func266,Tryz.ntmps266
  go_wp2_with fail
  clear mk hwb
  have hAx:Aside (A.length = len):=hl
  go_loopw [7,8] (fun s7 s8 wr=>∃ (j rest:Nat) (qs:List Nat),s8 = .int .i64 ((j:Int) - 1) ∧ s7 = .int .u64 rest ∧ Aside (DivS 4294967296 d A j qs rest) ∧ DRow wr w.heap.size (List.replicate j 0 ++ qs) ∧ Below w.heap.size w wr) (fun _ s _=>(intOf s + 1).toNat)
  case atStart=>exact ⟨len,0,[],rfl,rfl,by rw [← hAx.out];exact DivS.start hd0,by simpa using hA4.out.1,hA4.out.2⟩
  case round=>
    obtain ⟨j,rest,qs,rfl,rfl,hD,hR,hB⟩:=hrel
    by_cases hj0:j = 0
    · subst hj0
      obtain ⟨v1,v2⟩:=hD.out.done
      have hrd:=hD.out.lt
      have hdl:qs.length = len:=by have:=hD.out.len;omega
      rw [List.replicate_zero,List.nil_append] at hR
      have hl2:LimAt wr.heap.size wr (some ⟨w.heap.size,0,none⟩) qs:=by
        have:=hR.lim0 hD.out.dig hR.lt len
        rwa [List.take_of_length_le (by omega)] at this
      have htr:=ntrim_calls (some ⟨w.heap.size,0,none⟩) len len wr.heap.size qs hdl (by omega) (Nat.le_refl _) wr (Nat.le_refl _) hl2
      have hFin:Aside (val 4294967296 A / d = val 4294967296 qs ∧ val 4294967296 A % d = rest ∧ qs.length = len ∧ LimAt wr.heap.size wr (some ⟨w.heap.size,0,none⟩) qs):=⟨v1,v2,hdl,hl2⟩
      have m1:IntKind.u32.wrap (rest:Int) = (rest:Int):=by rw [wrap_u32];omega
      clear v1 v2 hrd hdl hl2 hR hD
      go_wp2_with (go_at_call 272;with_reducible refine htr.mono ?_;rintro e w' ⟨k,rfl,hT,hb2⟩)
      go_ret2
      refine ⟨_,rest,rfl,hFin.out.2.1.symm,?_,hB.trans (hb2.mono hB.size)⟩
      rw [hFin.out.1]
      exact NatL.of_trim hFin.out.2.2.1 hT hFin.out.2.2.2 hb2
    · obtain ⟨j,rfl⟩:∃ j',j = j' + 1:=⟨j - 1,by omega⟩
      have hjl:j < len:=by have:=hD.out.len;omega
      obtain ⟨x,hx⟩:∃ x,A[j]? = some x:=⟨_,List.getElem?_eq_getElem (by omega)⟩
      obtain ⟨b,off,rfl,hbk,hxB,hc⟩:=(h1.below hB hn).get hx
      obtain ⟨hqB,hstep⟩:=hD.out.step hx hxB
      have hrB:rest < 4294967296:=Nat.lt_trans hD.out.lt hdB
      obtain ⟨T,hT⟩:∃ T,T = rest * 4294967296 + x:=⟨_,rfl⟩
      obtain ⟨q,hq⟩:∃ q,q = T / d:=⟨_,rfl⟩
      obtain ⟨r2,hr2⟩:∃ r2,r2 = T % d:=⟨_,rfl⟩
      rw [← hT,← hq,← hr2] at hstep
      rw [← hT,← hq] at hqB
      have hr2d:r2 < d:=hstep.lt
      have hsA:Aside (DivS 4294967296 d A j (q :: qs) r2):=hstep
      have m1:IntKind.u64.wrap (x:Int) = (x:Int):=by rw [wrap_u64];omega
      have m2:IntKind.u64.wrap ((rest:Int) * 4294967296) = (rest:Int) * 4294967296:=by rw [wrap_u64];omega
      have m3:bits .or .u64 ((rest:Int) * 4294967296) (x:Int) = (T:Int):=by rw [bits_or_shift rest x hrB hxB,hT];simp
      have m4:IntKind.u64.wrap (d:Int) = (d:Int):=by rw [wrap_u64];omega
      have m5:(T:Int) / (d:Int) = (q:Int):=by rw [hq];simp
      have m6:IntKind.u64.wrap (q:Int) = (q:Int):=by rw [wrap_u64];omega
      have m7:IntKind.u32.wrap (q:Int) = (q:Int):=by rw [wrap_u32];omega
      have m8:(T:Int).tmod (d:Int) = (r2:Int):=by rw [hr2,Int.ofNat_tmod]
      have m9:IntKind.u64.wrap (r2:Int) = (r2:Int):=by rw [wrap_u64];omega
      obtain ⟨c0,c1⟩:=hR.cell (row_getd (j:=j) (qs:=qs))
      have hR2:=hR.set (k:=j) (d:=q)
      rw [row_setd] at hR2
      have hB2:=hB.setCell (p:=⟨w.heap.size,j,none⟩) (Nat.le_refl _) (.int .u32 q)
      have hi1:(j:Int) < (len:Int):=by omega
      have hi2:(0:Int) ≤ (j:Int):=by omega
      have hwk:IntKind.i64.wrap ((j:Int) - 1) = (j:Int) - 1:=by rw [IntKind.wrap_i64];omega
      clear hstep hR hB hD hx hqB hq hr2 hT hjl hr2d hrB hxB hj0
      go_wp2_with fail
      exact ⟨⟨j,r2,q :: qs,rfl,rfl,hsA,hR2,hB2⟩,by simp [intOf]⟩
end Go.Proofs.YtaloeffmigffaaaGreatDoor
end
section
namespace Go.Proofs.YtaloeffmigffaaaGreatDoor
open Go.RowKit Go.Big
set_option maxRecDepth 100000 in
set_option maxHeartbeats 4000000 in
theorem nof_calls (x:Nat) (hx:x < 4294967296) (w:World):Calls Tryz.prog 267 #[.int .u64 x] w fun e w'=>∃ r,e = .returned r ∧ NatL w'.heap.size w' r x ∧ Below w.heap.size w w':=by
  have m1:IntKind.u32.wrap (x:Int) = (x:Int):=by rw [wrap_u32];omega
  have m2:(x:Int) / 4294967296 = 0:=by omega
  obtain ⟨wb,hwb⟩:∃ wb,w.alloc (Obj.cells #[.int .u32 (x:Int),.int .u32 0] 67) = wb:=⟨_,rfl⟩
  have hR:DRow wb w.heap.size [x,0]:=by
    rw [← hwb];unfold DRow
    show (w.heap.push _)[w.heap.size]? = _
    rw [Array.getElem?_push_size];rfl
  have hBb:Below w.heap.size w wb:=hwb ▸ (Below.refl _ _).alloc (Nat.le_refl _) _
  have hd:∀ y ∈ [x,0],y < 4294967296:=by
    intro y hy
    simp at hy
    rcases hy with rfl | rfl
    · exact hx
    · decide
  have hl2:LimAt wb.heap.size wb (some ⟨w.heap.size,0,none⟩) [x,0]:=hR.lim0 hd hR.lt 2
  have htr:=ntrim_calls (some ⟨w.heap.size,0,none⟩) 2 2 wb.heap.size [x,0] rfl (by decide) (Nat.le_refl _) wb (Nat.le_refl _) hl2
  have hFin:Aside (LimAt wb.heap.size wb (some ⟨w.heap.size,0,none⟩) [x,0]):=hl2
  clear hl2 hR hd
  go_enter Tryz.func267,Tryz.ntmps267
  go_wp2_with (go_at_call 272;with_reducible refine htr.mono ?_;rintro e w' ⟨k,rfl,hT,hb2⟩)
  go_ret
  have:=NatL.of_trim rfl hT hFin.out hb2
  refine ⟨_,rfl,?_,hBb.trans (hb2.mono hBb.size)⟩
  have e:val 4294967296 [x,0] = x:=by simp [val]
  rw [e] at this
  exact this
end Go.Proofs.YtaloeffmigffaaaGreatDoor
end
