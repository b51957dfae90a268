/-
  A part of the proof of the card of WorkGeneralizationIsLeast (second form): lemmas that the text Card uses. No condition of its own.
-/
import Derived.Test.YtaloeffmigffaaaGreatDoorNat
import Derived.Test.YtaloeffmigffaaaGreatDoorProg
import Derived.WalkKit
import Derived.LoopTactic
import Derived.Below
import Derived.Sort.Grow
import Derived.Sort.Lot0
import Derived.Deep.QuietTactic
import Derived.StillTailTactics
import Derived.BigQuiet
import Derived.Lib.LaidTab
import Derived.Laws.AppendOwn
import Derived.Deep.Cut
import Derived.Deep.CutRange
import Derived.Deep.CutBlock
import Derived.OwnWalk
import Derived.WalkSmall
import Derived.Deep.OwnRows
set_option linter.all false
set_option linter.unusedVariables false
set_option linter.unusedSimpArgs false
section
namespace Go.Proofs.YtaloeffmigffaaaGreatDoor
open Go.RowKit Go.Big
theorem wrap_nat {k:Nat} (h:k < 4611686018427387904):IntKind.i64.wrap (k:Int) = k:=by
  rw [IntKind.wrap_i64];omega
theorem below_alloc (w:World) (o:Obj):Below w.heap.size w (w.alloc o):=(Below.refl _ _).alloc (Nat.le_refl _) o
theorem below_drew (w:World):Below w.heap.size w w.drew:=⟨rfl,rfl,rfl,Nat.le_refl _,fun _ _=>rfl⟩
def slen0:Value → Nat
  | .slice _ n _=>n
  | _=>0
def IntAt (n:Nat) (w:World) (a:Option Addr) (L:List Nat):Prop:=
  (∀ x ∈ L,x < 65536) ∧ (L ≠ [] → ∃ b off,a = some ⟨b,off,none⟩ ∧ b < n ∧ ∀ (j x:Nat),L[j]? = some x → w.cell? ⟨b,off + j,none⟩ = some (.int .i64 x))
theorem IntAt.below {n m:Nat} {w w':World} {a:Option Addr} {L:List Nat} (h:IntAt n w a L) (hb:Below m w w') (hm:n ≤ m):IntAt n w' a L:=by
  refine ⟨h.1,fun hne=>?_⟩
  obtain ⟨b,off,e,hbn,hc⟩:=h.2 hne
  exact ⟨b,off,e,hbn,fun j x hx=>((hb.mono hm).cell (p:=⟨b,off + j,none⟩) hbn).trans (hc j x hx)⟩
theorem IntAt.up {n m:Nat} {w:World} {a:Option Addr} {L:List Nat} (h:IntAt n w a L) (hm:n ≤ m):IntAt m w a L:=by
  refine ⟨h.1,fun hne=>?_⟩
  obtain ⟨b,off,e,hbn,hc⟩:=h.2 hne
  exact ⟨b,off,e,by omega,hc⟩
theorem IntAt.get {n:Nat} {w:World} {a:Option Addr} {L:List Nat} {k x:Nat} (h:IntAt n w a L) (hx:L[k]? = some x):∃ b off,a = some ⟨b,off,none⟩ ∧ b < n ∧ x < 65536 ∧ w.cell? ⟨b,off + k,none⟩ = some (.int .i64 x):=by
  have hne:L ≠ []:=by intro e;subst e;simp at hx
  obtain ⟨b,off,e,hb,hc⟩:=h.2 hne
  exact ⟨b,off,e,hb,h.1 x (List.mem_of_getElem? hx),hc k x hx⟩
theorem IntAt.take {n:Nat} {w:World} {a:Option Addr} {L:List Nat} (h:IntAt n w a L) (k:Nat):IntAt n w a (L.take k):=by
  refine ⟨fun x hx=>h.1 x (List.mem_of_mem_take hx),fun hne=>?_⟩
  obtain ⟨b,off,e,hb,hc⟩:=h.2 fun e=>hne (by rw [e];simp)
  refine ⟨b,off,e,hb,fun j x hx=>hc j x ?_⟩
  have hj:j < k:=by have:=(List.getElem?_eq_some_iff.1 hx).1;rw [List.length_take] at this;omega
  rwa [List.getElem?_take_of_lt hj] at hx
def Trimmed (L:List Nat) (k:Nat):Prop:=k ≤ L.length ∧ (∀ x ∈ L.drop k,x = 0) ∧ (k = 0 ∨ ∃ x,L[k - 1]? = some x ∧ x ≠ 0)
theorem val_zero {B:Nat}:∀ {L:List Nat},(∀ x ∈ L,x = 0) → val B L = 0
  | [],_=>rfl
  | x :: L,h=>by
    have h1:=h x (by simp)
    have h2:=val_zero (B:=B) (L:=L) fun y hy=>h y (by simp [hy])
    rw [val,h1,h2];simp
theorem Trimmed.val {L:List Nat} {k B:Nat} (h:Trimmed L k):val B (L.take k) = val B L:=by
  have e:L.take k ++ L.drop k = L:=List.take_append_drop k L
  conv=>rhs;rw [← e]
  rw [val_append,val_zero h.2.1];simp
def NoZ (L:List Nat):Prop:=∀ x,L.getLast? = some x → x ≠ 0
theorem Trimmed.noz {L:List Nat} {k:Nat} (h:Trimmed L k):NoZ (L.take k):=by
  intro x hx
  obtain ⟨h1,_,h3⟩:=h
  rw [List.getLast?_eq_getElem?,List.length_take,show min k L.length = k by omega] at hx
  rcases h3 with h3 | ⟨y,hy,hn⟩
  · subst h3;simp at hx
  · have hk:k ≠ 0:=by
      intro e;subst e;simp at hx
    rw [List.getElem?_take_of_lt (by omega),hy] at hx
    cases hx
    exact hn
theorem NoZ.pos {B:Nat} {L:List Nat} (hB:0 < B) (h:NoZ L) (hne:L ≠ []):B ^ (L.length - 1) ≤ Go.Big.val B L:=by
  obtain ⟨A,x,rfl⟩:∃ A x,L = A ++ [x]:=⟨L.dropLast,L.getLast hne,(List.dropLast_concat_getLast hne).symm⟩
  have:=val_ge (B:=B) (a:=A) (x:=x) (h x (by simp))
  simpa using this
theorem NoZ.nil_iff {B:Nat} {L:List Nat} (hB:0 < B) (h:NoZ L):Go.Big.val B L = 0 ↔ L = []:=by
  constructor
  · intro e
    apply Classical.byContradiction
    intro hne
    have h1:=h.pos hB hne
    have h2:0 < B ^ (L.length - 1):=Nat.pow_pos hB
    omega
  · rintro rfl;rfl
theorem NoZ.len_le {B:Nat} {A C:List Nat} (hB:1 < B) (hC:NoZ C) (hA:∀ x ∈ A,x < B) (h:Go.Big.val B C ≤ Go.Big.val B A):C.length ≤ A.length:=by
  by_cases hne:C = []
  · subst hne;simp
  · have h1:=hC.pos (B:=B) (by omega) hne
    have h2:=val_lt hA
    have h3:B ^ (C.length - 1) < B ^ A.length:=by omega
    have:=(Nat.pow_lt_pow_iff_right hB).1 h3
    omega
theorem NoZ.eq {B:Nat}:∀ {A C:List Nat},NoZ A → NoZ C → (∀ x ∈ A,x < B) → (∀ x ∈ C,x < B) → 1 < B → Go.Big.val B A = Go.Big.val B C → A = C:=by
  intro A C hA hC ha hc hB h
  have l1:=hC.len_le hB ha (Nat.le_of_eq h.symm)
  have l2:=hA.len_le hB hc (Nat.le_of_eq h)
  have hl:A.length = C.length:=by omega
  clear l1 l2 hA hC
  induction A generalizing C with
  | nil=>cases C with | nil=>rfl | cons y C=>simp at hl
  | cons x A ih=>
    cases C with
    | nil=>simp at hl
    | cons y C=>
      rw [Go.Big.val,Go.Big.val] at h
      have hx:=ha x (by simp)
      have hy:=hc y (by simp)
      have e1:x = y:=by
        have:=congrArg (· % B) h
        simpa [Nat.add_mul_mod_self_left,Nat.mod_eq_of_lt hx,Nat.mod_eq_of_lt hy] using this
      subst e1
      have e2:Go.Big.val B A = Go.Big.val B C:=Nat.eq_of_mul_eq_mul_left (show 0 < B by omega) (by omega)
      rw [ih (fun z hz=>ha z (by simp [hz])) (fun z hz=>hc z (by simp [hz])) e2 (by simpa using hl)]
end Go.Proofs.YtaloeffmigffaaaGreatDoor
end
section
namespace Go.Proofs.YtaloeffmigffaaaGreatDoor
open Go.RowKit Go.Big
set_option maxRecDepth 100000 in
set_option maxHeartbeats 1000000 in
theorem rtrim_calls (a:Option Addr) (len cap n:Nat) (L:List Nat) (hlen:L.length = len) (hbig:len < 4611686018427387904) (hcap:len ≤ cap) (w:World) (hn:n ≤ w.heap.size) (h1:IntAt n w a L) :
    Calls Tryz.prog 217 #[.slice a len cap] w fun e w'=>∃ k,e = .returned (.slice a k cap) ∧ Trimmed L k ∧ Below w.heap.size w w':=by
  go_enter Tryz.func217,Tryz.ntmps217
  go_wp2
  go_loopw [0] (fun s wr=>∃ k:Nat,s = .slice a k cap ∧ k ≤ len ∧ (∀ x ∈ L.drop k,x = 0) ∧ Below w.heap.size w wr) (fun s _=>slen0 s)
  case atStart=>exact ⟨len,rfl,Nat.le_refl _,by rw [← hlen,List.drop_length];simp,Below.refl _ _⟩
  case round=>
    obtain ⟨k,rfl,hk,hz,hB⟩:=hrel
    by_cases hk0:k = 0
    · subst hk0
      go_wp2
      go_ret
      exact ⟨0,rfl,⟨Nat.zero_le _,hz,.inl rfl⟩,hB⟩
    · obtain ⟨k',rfl⟩:∃ k',k = k' + 1:=⟨k - 1,by omega⟩
      obtain ⟨x,hx⟩:∃ x,L[k']? = some x:=⟨L[k'],List.getElem?_eq_getElem (by omega)⟩
      obtain ⟨b,off,rfl,hb,hxl,hc⟩:=(h1.below hB hn).get hx
      have hw1:IntKind.i64.wrap (k':Int) = k':=wrap_nat (by omega)
      have hi1:(k':Int) < (k':Int) + 1:=by omega
      have hi3:(0:Int) ≤ (k':Int):=by omega
      have hi4:(0:Int) < (k':Int) + 1:=by omega
      have hi5:(k':Int) ≤ (cap:Int):=by omega
      have hi6:¬ (cap:Int) < (k':Int):=by omega
      clear h1 hk0
      by_cases h0:x = 0
      · subst h0
        go_wp2
        refine ⟨⟨k',rfl,by omega,fun y hy=>?_,hB⟩,by simp [slen0]⟩
        rw [List.drop_eq_getElem_cons (by omega)] at hy
        rcases List.mem_cons.1 hy with rfl | hy
        · exact (List.getElem?_eq_some_iff.1 hx).2
        · exact hz y hy
      · have hxB:((x:Int) == 0) = false:=by simp;omega
        go_wp2
        go_ret
        exact ⟨k' + 1,rfl,⟨by omega,hz,.inr ⟨x,by simpa using hx,h0⟩⟩,hB⟩
set_option maxRecDepth 100000 in
theorem rdigit_calls (a:Option Addr) (len cap n i:Nat) (L:List Nat) (hlen:L.length = len) (w:World) (h1:IntAt n w a L) :
    Calls Tryz.prog 218 #[.slice a len cap,.int .i64 i] w fun e w'=>e = .returned (.int .i64 (dg L i)) ∧ w' = w:=by
  by_cases hi:i < len
  · obtain ⟨b,off,rfl,hb,hxl,hc⟩:=h1.get (dg_get (L:=L) (i:=i) (by omega))
    generalize dg L i = x at *
    have hi1:(i:Int) < (len:Int):=by omega
    have hi2:(0:Int) ≤ (i:Int):=by omega
    clear h1
    go_enter Tryz.func218,Tryz.ntmps218
    go_wp2
    go_ret
    exact ⟨rfl,rfl⟩
  · rw [dg_ge (by omega)]
    have hi1:¬ (i:Int) < (len:Int):=by omega
    clear h1
    go_enter Tryz.func218,Tryz.ntmps218
    go_wp2
    go_ret
    exact ⟨rfl,rfl⟩
end Go.Proofs.YtaloeffmigffaaaGreatDoor
end
section
namespace Go.Proofs.YtaloeffmigffaaaGreatDoor
open Go.RowKit Go.Big
theorem i64_and_one (x:Nat) (h:x < 65536):bits BinOp.and IntKind.i64 (x:Int) 1 = ((x % 2:Nat):Int):=by
  have h1:(BitVec.ofInt 64 (x:Int)).toNat = x:=by
    rw [BitVec.ofInt_natCast,BitVec.toNat_ofNat];omega
  have h2:(BitVec.ofInt 64 (1:Int)).toNat = 1:=by decide
  show IntKind.i64.wrap (((BitVec.ofInt 64 (x:Int)) &&& BitVec.ofInt 64 (1:Int)).toNat:Int) = _
  rw [BitVec.toNat_and,h1,h2,Nat.and_one_is_mod,IntKind.wrap_i64]
  omega
set_option maxRecDepth 100000 in
theorem rbit_calls (a:Option Addr) (len cap n:Nat) (L:List Nat) (hlen:L.length = len) (w:World) (h1:IntAt n w a L) :
    Calls Tryz.prog 219 #[.slice a len cap,.int .i64 0] w fun e w'=>e = .returned (.int .i64 ((dg L 0 % 2:Nat):Int)) ∧ w' = w:=by
  have hd:=rdigit_calls a len cap n 0 L hlen w h1
  have hx:dg L 0 < 65536:=dg_lt (by decide) h1.1 0
  generalize dg L 0 = x at *
  have ha:=i64_and_one x hx
  have e0:((0:Nat):Int) = 0:=rfl
  rw [e0] at hd
  clear h1 e0
  go_enter Tryz.func219,Tryz.ntmps219
  go_wp2_with (go_at_call 218;refine hd.mono ?_;rintro e w' ⟨rfl,rfl⟩)
  go_ret
  exact ⟨by simp,rfl⟩
end Go.Proofs.YtaloeffmigffaaaGreatDoor
end
section
namespace Go.Proofs.YtaloeffmigffaaaGreatDoor
open Go.RowKit Go.Big
def cmpV (x y:Nat):Int:=if x < y then -1 else if y < x then 1 else 0
set_option maxRecDepth 100000 in
set_option maxHeartbeats 1000000 in
theorem rcmp_calls (a1 a2:Option Addr) (len1 len2 cap1 cap2 n1 n2:Nat) (A C:List Nat) (hl1:A.length = len1) (hl2:C.length = len2) (hb1:len1 < 4611686018427387904) (hb2:len2 < 4611686018427387904) (w:World) (h1:IntAt n1 w a1 A) (h2:IntAt n2 w a2 C) :
    Calls Tryz.prog 174 #[.slice a1 len1 cap1,.slice a2 len2 cap2] w fun e w'=>e = .returned (.int .i64 (cmpV (val 65536 A) (val 65536 C))) ∧ w' = w:=by
  rcases Nat.lt_or_ge len1 len2 with h | h
  · have hlt:(len1:Int) < (len2:Int):=by omega
    have hm1:len1 ≤ len2:=by omega
    have hm2:len2 ≤ len2:=by omega
    have hmb:len2 < 4611686018427387904:=by omega
    have hw1:IntKind.i64.wrap ((len2:Int) - 1) = (len2:Int) - 1:=by rw [IntKind.wrap_i64];omega
    clear h
    go_enter Tryz.func174,Tryz.ntmps174
    go_wp2
    go_loopw [5] (fun s wr=>∃ k:Nat,s = .int .i64 ((k:Int) - 1) ∧ k ≤ len2 ∧ (∀ i,k ≤ i → i < len2 → dg A i = dg C i) ∧ wr = w) (fun s _=>(intOf s + 1).toNat)
    case atStart=>exact ⟨len2,by simp [hw1],Nat.le_refl _,fun i hi hj=>absurd hj (by omega),rfl⟩
    case round=>
      obtain ⟨k,rfl,hk,hz,rfl⟩:=hrel
      by_cases hk0:k = 0
      · subst hk0
        have e0:(((0:Nat):Int) - 1) = -1:=by omega
        rw [e0]
        go_wp2
        go_ret
        refine ⟨?_,rfl⟩
        have:=val_same (B:=65536) (A:=A) (C:=C) (n:=len2) (by omega) (by omega) fun i hi=>hz i (Nat.zero_le _) hi
        simp [cmpV,this]
      · obtain ⟨k',rfl⟩:∃ k',k = k' + 1:=⟨k - 1,by omega⟩
        have e0:(((k' + 1:Nat):Int) - 1) = k':=by omega
        rw [e0]
        have d1:=rdigit_calls a1 len1 cap1 n1 k' A hl1 wr h1
        have d2:=rdigit_calls a2 len2 cap2 n2 k' C hl2 wr h2
        have hA:dg A k' < dg C k' → val 65536 A < val 65536 C:=fun h=>val_less (by decide) h1.1 (n:=len2) (by omega) (by omega) (show k' < len2 by omega) (fun i hi hj=>hz i (by omega) hj) h
        have hC:dg C k' < dg A k' → val 65536 C < val 65536 A:=fun h=>val_less (by decide) h2.1 (n:=len2) (by omega) (by omega) (show k' < len2 by omega) (fun i hi hj=>(hz i (by omega) hj).symm) h
        have hE:dg A k' = dg C k' → ∀ i,k' ≤ i → i < len2 → dg A i = dg C i:=fun h i hi hj=>by
          rcases Nat.eq_or_lt_of_le hi with rfl | hi
          · exact h
          · exact hz i hi hj
        generalize dg A k' = x at *
        generalize dg C k' = y at *
        have hwk:IntKind.i64.wrap ((k':Int) - 1) = (k':Int) - 1:=by rw [IntKind.wrap_i64];omega
        clear h1 h2 hz
        have hi3:(0:Int) ≤ (k':Int):=by omega
        rcases Nat.lt_trichotomy x y with h | h | h
        · have hI:(x:Int) < (y:Int):=by omega
          have hv:=hA h
          clear hA hC hE
          go_wp2_with first | (go_at_call 218;with_reducible refine d1.mono ?_;rintro e w' ⟨rfl,rfl⟩) | (go_at_call 218;with_reducible refine d2.mono ?_;rintro e w' ⟨rfl,rfl⟩)
          go_ret
          exact ⟨by simp [cmpV,hv],rfl⟩
        · subst h
          have hv:Aside _:=hE rfl
          clear hA hC hE
          go_wp2_with first | (go_at_call 218;with_reducible refine d1.mono ?_;rintro e w' ⟨rfl,rfl⟩) | (go_at_call 218;with_reducible refine d2.mono ?_;rintro e w' ⟨rfl,rfl⟩)
          go_roundw
          case rel=>exact ⟨k',rfl,by omega,hv.out,trivial⟩
          case measure=>simp [intOf]
        · have hI:(y:Int) < (x:Int):=by omega
          have hv:=hC h
          clear hA hC hE
          go_wp2_with first | (go_at_call 218;with_reducible refine d1.mono ?_;rintro e w' ⟨rfl,rfl⟩) | (go_at_call 218;with_reducible refine d2.mono ?_;rintro e w' ⟨rfl,rfl⟩)
          go_ret
          exact ⟨by simp [cmpV,hv];omega,rfl⟩
  · have hlt:¬ (len1:Int) < (len2:Int):=by omega
    have hm1:len1 ≤ len1:=by omega
    have hm2:len2 ≤ len1:=by omega
    have hmb:len1 < 4611686018427387904:=by omega
    have hw1:IntKind.i64.wrap ((len1:Int) - 1) = (len1:Int) - 1:=by rw [IntKind.wrap_i64];omega
    clear h
    go_enter Tryz.func174,Tryz.ntmps174
    go_wp2
    go_loopw [5] (fun s wr=>∃ k:Nat,s = .int .i64 ((k:Int) - 1) ∧ k ≤ len1 ∧ (∀ i,k ≤ i → i < len1 → dg A i = dg C i) ∧ wr = w) (fun s _=>(intOf s + 1).toNat)
    case atStart=>exact ⟨len1,by simp [hw1],Nat.le_refl _,fun i hi hj=>absurd hj (by omega),rfl⟩
    case round=>
      obtain ⟨k,rfl,hk,hz,rfl⟩:=hrel
      by_cases hk0:k = 0
      · subst hk0
        have e0:(((0:Nat):Int) - 1) = -1:=by omega
        rw [e0]
        go_wp2
        go_ret
        refine ⟨?_,rfl⟩
        have:=val_same (B:=65536) (A:=A) (C:=C) (n:=len1) (by omega) (by omega) fun i hi=>hz i (Nat.zero_le _) hi
        simp [cmpV,this]
      · obtain ⟨k',rfl⟩:∃ k',k = k' + 1:=⟨k - 1,by omega⟩
        have e0:(((k' + 1:Nat):Int) - 1) = k':=by omega
        rw [e0]
        have d1:=rdigit_calls a1 len1 cap1 n1 k' A hl1 wr h1
        have d2:=rdigit_calls a2 len2 cap2 n2 k' C hl2 wr h2
        have hA:dg A k' < dg C k' → val 65536 A < val 65536 C:=fun h=>val_less (by decide) h1.1 (n:=len1) (by omega) (by omega) (show k' < len1 by omega) (fun i hi hj=>hz i (by omega) hj) h
        have hC:dg C k' < dg A k' → val 65536 C < val 65536 A:=fun h=>val_less (by decide) h2.1 (n:=len1) (by omega) (by omega) (show k' < len1 by omega) (fun i hi hj=>(hz i (by omega) hj).symm) h
        have hE:dg A k' = dg C k' → ∀ i,k' ≤ i → i < len1 → dg A i = dg C i:=fun h i hi hj=>by
          rcases Nat.eq_or_lt_of_le hi with rfl | hi
          · exact h
          · exact hz i hi hj
        generalize dg A k' = x at *
        generalize dg C k' = y at *
        have hwk:IntKind.i64.wrap ((k':Int) - 1) = (k':Int) - 1:=by rw [IntKind.wrap_i64];omega
        clear h1 h2 hz
        have hi3:(0:Int) ≤ (k':Int):=by omega
        rcases Nat.lt_trichotomy x y with h | h | h
        · have hI:(x:Int) < (y:Int):=by omega
          have hv:=hA h
          clear hA hC hE
          go_wp2_with first | (go_at_call 218;with_reducible refine d1.mono ?_;rintro e w' ⟨rfl,rfl⟩) | (go_at_call 218;with_reducible refine d2.mono ?_;rintro e w' ⟨rfl,rfl⟩)
          go_ret
          exact ⟨by simp [cmpV,hv],rfl⟩
        · subst h
          have hv:Aside _:=hE rfl
          clear hA hC hE
          go_wp2_with first | (go_at_call 218;with_reducible refine d1.mono ?_;rintro e w' ⟨rfl,rfl⟩) | (go_at_call 218;with_reducible refine d2.mono ?_;rintro e w' ⟨rfl,rfl⟩)
          go_roundw
          case rel=>exact ⟨k',rfl,by omega,hv.out,trivial⟩
          case measure=>simp [intOf]
        · have hI:(y:Int) < (x:Int):=by omega
          have hv:=hC h
          clear hA hC hE
          go_wp2_with first | (go_at_call 218;with_reducible refine d1.mono ?_;rintro e w' ⟨rfl,rfl⟩) | (go_at_call 218;with_reducible refine d2.mono ?_;rintro e w' ⟨rfl,rfl⟩)
          go_ret
          exact ⟨by simp [cmpV,hv];omega,rfl⟩
end Go.Proofs.YtaloeffmigffaaaGreatDoor
end
section
namespace Go.Proofs.YtaloeffmigffaaaGreatDoor
open Go.RowKit Go.Big
theorem inf3:(Tryz.prog.info? 3).map (fun i=>(i.zero,i.size,i.bytes)) = some (some (.int .i64 0),1,8):=by kernel_rfl
def iv (x:Nat):Value:=.int .i64 x
def IntRow (base:Nat) (w:World) (sv:Value) (D:List Nat):Prop:=w.ownsRow base 3 1 sv D.length (D.map iv)
theorem IntRow.kept {base:Nat} {w w':World} {sv:Value} {D:List Nat} (h:IntRow base w sv D) (hk:∀ k,base ≤ k → k < w.heap.size → w'.heap[k]? = w.heap[k]?):IntRow base w' sv D:=by
  obtain ⟨h1,h2 | ⟨g,cap,cur,e1,hb,hg,h3⟩⟩:=h
  · exact ⟨h1,.inl h2⟩
  · exact ⟨h1,.inr ⟨g,cap,cur,e1,hb,(hk g hb (Array.getElem?_eq_some_iff.1 hg).1).trans hg,h3⟩⟩
theorem IntRow.below {base m:Nat} {w w':World} {sv:Value} {D:List Nat} (h:IntRow base w sv D) (hb:Below m w w') (hm:w.heap.size ≤ m):IntRow base w' sv D:=
  h.kept fun k _ hk=>hb.block k (by omega)
theorem IntRow.nil (base:Nat) (w:World):IntRow base w (.slice none 0 0) []:=World.ownsRow_nil _ _ _ _
theorem IntRow.at {base:Nat} {w:World} {sv:Value} {D:List Nat} (h:IntRow base w sv D) (hd:∀ x ∈ D,x < 65536):∃ a c,sv = .slice a D.length c ∧ D.length ≤ c ∧ c ≤ maxLen ∧ IntAt w.heap.size w a D:=by
  obtain ⟨h1,⟨e,h0⟩ | ⟨g,cap,cur,e1,hb,hg,hnc,hm,hs,ht⟩⟩:=h
  · have:D = []:=List.eq_nil_of_length_eq_zero h0
    subst this
    exact ⟨none,0,e,Nat.le_refl _,Nat.zero_le _,hd,fun h=>absurd rfl h⟩
  · refine ⟨some ⟨g,0,none⟩,cap,e1,hnc,hm,hd,fun _=>⟨g,0,rfl,(Array.getElem?_eq_some_iff.1 hg).1,fun j x hx=>?_⟩⟩
    have hj:=(List.getElem?_eq_some_iff.1 hx).1
    have h2:cur[j]? = some (iv x):=by
      rw [← Array.getElem?_toList,← List.getElem?_take_of_lt (show j < D.length * 1 by omega),ht,List.getElem?_map,hx];rfl
    simpa [World.cell?,hg,iv] using h2
theorem IntRow.push {base:Nat} {w:World} {sv:Value} {D:List Nat} {x:Nat} (h:w.ownsRow base 3 1 sv (D.length + 1) (D.map iv ++ [iv x])):IntRow base w sv (D ++ [x]):=by
  unfold IntRow
  rw [List.length_append,List.map_append];exact h
theorem IntRow.own {base:Nat} {w:World} {sv:Value} {D:List Nat} (h:IntRow base w sv D):∀ k,sv.ownBlock = some k → base ≤ k ∧ k < w.heap.size:=World.ownsRow.lt h
theorem new_cells (w:World) (vs:List Value) (e:TypeId) (fr:Nat × Nat):∀ (j:Nat) u,vs[j]? = some u → (w.alloc (Obj.cells vs.toArray e fr)).cell? ⟨w.heap.size,j,none⟩ = some u:=by
  intro j u hj
  have h:=heap_alloc_new w (Obj.cells vs.toArray e fr)
  unfold World.cell?
  rw [h]
  simpa using hj
theorem wpList_push {ops:Array Oper} {rest:List Oper} {o:Oper} {a:Act} {Q:Exit → Act → World → Prop} (w:World) (hgd:o.guard = none) (s x:Operand)
    (ho:o.op = .call { callee:=.builtin .append,args:=#[s,x],argTypes:=#[177,177] }) (base:Nat) (sv:Value) (D xs:List Nat) (m:Nat) (hm:xs.length = m) (hs:a.eval s = sv) (g c:Nat) (hx:a.eval x = .slice (some ⟨g,0,none⟩) m c)
    (hc:∀ (j:Nat) u,(xs.map iv)[j]? = some u → w.cell? ⟨g,j,none⟩ = some u) (hR:IntRow base w sv D) (hlen:D.length + m ≤ 17592186044416) (hbase:base ≤ w.heap.size)
    (h:∀ v' w',IntRow base w' v' (D ++ xs) → Below base w w' → wpList Tryz.prog ops Q rest (a.put o.dst v') w'):wpList Tryz.prog ops Q (o :: rest) a w:=by
  obtain ⟨i0,hi0,hz0,hz1,hz2⟩:=info_parts inf3
  refine wpList_append_own w hgd s x 177 ho base 3 i0 (.int .i64 0) 1 8 Tryz.underlying177 hi0 hz0 hz1 hz2 rfl (by decide) sv D.length (D.map iv) hs hR ⟨g,0,none⟩ m c (xs.map iv) hx (by simp [hm]) (fun j u hj=>?_) ?_ (by unfold maxLen;omega) (by omega) hbase ?_
  · rw [Addr.add_lit,Nat.zero_add];exact hc j u hj
  · intro u hu
    obtain ⟨y,_,rfl⟩:=List.mem_map.1 hu
    rfl
  · intro v' w' h1 h2 h3
    refine h v' w' ?_ ((Below.refl _ w).grown h2 hbase fun k hk=>(IntRow.own hR k hk).1)
    unfold IntRow
    rw [List.length_append,List.map_append,hm];exact h1
set_option maxRecDepth 100000 in
set_option maxHeartbeats 1000000 in
theorem rsub_calls (a1 a2:Option Addr) (len1 len2 cap1 cap2 n1 n2:Nat) (A C:List Nat) (hl1:A.length = len1) (hl2:C.length = len2) (hb1:len1 ≤ 1048576) (w:World) (hn1:n1 ≤ w.heap.size) (hn2:n2 ≤ w.heap.size) (h1:IntAt n1 w a1 A) (h2:IntAt n2 w a2 C) :
    Calls Tryz.prog 221 #[.slice a1 len1 cap1,.slice a2 len2 cap2] w fun e w'=>∃ D b a k c,Subs 65536 A C D len1 b ∧ Trimmed D k ∧ k ≤ c ∧ c ≤ maxLen ∧ e = .returned (.slice a k c) ∧ IntAt w'.heap.size w' a D ∧ Below w.heap.size w w':=by
  go_enter Tryz.func221,Tryz.ntmps221
  go_wp2
  go_loopw [5,6,11] (fun s5 s6 s11 wr=>∃ (i b:Nat) (D:List Nat),s11 = .int .i64 i ∧ s6 = .int .i64 b ∧ i ≤ len1 ∧ Subs 65536 A C D i b ∧ IntRow w.heap.size wr s5 D ∧ Below w.heap.size w wr) (fun _ _ s _=>len1 - (intOf s).toNat)
  case atStart=>exact ⟨0,0,[],rfl,rfl,Nat.zero_le _,Subs.start _ _ _,IntRow.nil _ _,Below.refl _ _⟩
  case round=>
    obtain ⟨i,b,D,rfl,rfl,hi,hS,hR,hB⟩:=hrel
    by_cases hlt:i < len1
    · have hx:=dg_get (L:=A) (i:=i) (by omega)
      obtain ⟨b1,o1,rfl,hbn,hxl,hc⟩:=(h1.below hB hn1).get hx
      have hd:∀ q,_:=fun q=>rdigit_calls a2 len2 cap2 n2 i C hl2 (wr.drewN q) (h2.below (below_drewN hB q) hn2)
      have hyl:dg C i < 65536:=dg_lt (by decide) h2.1 i
      have hst:=fun d b' (h3:d < 65536) (h4:b' ≤ 1) (h5:dg A i + b' * 65536 = d + dg C i + b)=>hS.step h3 h4 h5
      have hbb:=hS.bor
      have hDl:=hS.len
      have hDd:=hS.dig
      clear h1 h2 hS hx
      generalize dg A i = x at *
      generalize dg C i = y at *
      have hi1:(i:Int) < (len1:Int):=by omega
      have hi3:(0:Int) ≤ (i:Int):=by omega
      have hw1:IntKind.i64.wrap ((x:Int) - (y:Int)) = (x:Int) - (y:Int):=by rw [IntKind.wrap_i64];omega
      have hw2:IntKind.i64.wrap ((x:Int) - (y:Int) - (b:Int)) = (x:Int) - (y:Int) - (b:Int):=by rw [IntKind.wrap_i64];omega
      have hw3:IntKind.i64.wrap ((i:Int) + 1) = (i:Int) + 1:=by rw [IntKind.wrap_i64];omega
      go_wp2
      go_quiet (exact Calls.quiet_of_same (hd _))
      by_cases hneg:(x:Int) - (y:Int) - (b:Int) < 0
      · obtain ⟨d,hd0⟩:∃ d:Nat,d = x + 65536 - (y + b):=⟨_,rfl⟩
        have hwd:IntKind.i64.wrap ((x:Int) - (y:Int) - (b:Int) + 65536) = (d:Int):=by rw [IntKind.wrap_i64];omega
        have hS':Subs 65536 A C (D ++ [d]) (i + 1) 1:=hst d 1 (by omega) (by omega) (by omega)
        clear hd0
        have ho:IntRow w.heap.size ((wr.drewN nq).alloc (Obj.cells #[iv d] 3)) u5 D:=hR.below ((below_drewN (Below.refl _ wr) nq).trans (below_alloc _ _)) (Nat.le_refl _)
        have hnw:=new_cells (wr.drewN nq) [iv d] 3 (0,0)
        have hsz:=hB.size
        have hap:D.length + 1 ≤ 17592186044416:=by omega
        have hba:w.heap.size ≤ ((wr.drewN nq).alloc (Obj.cells #[iv d] 3)).heap.size:=by simp;omega
        have hBa:Below w.heap.size w ((wr.drewN nq).alloc (Obj.cells #[iv d] 3)):=(below_drewN hB nq).alloc (by simpa using hsz) _
        have hDA:Aside (D.length = i):=hDl
        clear hDl
        go_wp2_with (at_builtin;refine wpList_push _ rfl _ _ rfl w.heap.size _ D [d] 1 rfl rfl wr.heap.size 1 rfl hnw ho hap hba ?_;intro v' w3 hown' hgrow3)
        go_roundw
        case rel=>exact ⟨i + 1,1,D ++ [d],by simp,rfl,by omega,hS',hown',hBa.trans hgrow3⟩
        case measure=>simp [intOf];omega
      · obtain ⟨d,hd0⟩:∃ d:Nat,d = x - (y + b):=⟨_,rfl⟩
        have hwd:(x:Int) - (y:Int) - (b:Int) = (d:Int):=by omega
        have hS':Subs 65536 A C (D ++ [d]) (i + 1) 0:=hst d 0 (by omega) (by omega) (by omega)
        have hneg':¬ (d:Int) < 0:=by omega
        clear hd0
        rw [hwd] at hw2 hneg
        have ho:IntRow w.heap.size ((wr.drewN nq).alloc (Obj.cells #[iv d] 3)) u5 D:=hR.below ((below_drewN (Below.refl _ wr) nq).trans (below_alloc _ _)) (Nat.le_refl _)
        have hnw:=new_cells (wr.drewN nq) [iv d] 3 (0,0)
        have hsz:=hB.size
        have hap:D.length + 1 ≤ 17592186044416:=by omega
        have hba:w.heap.size ≤ ((wr.drewN nq).alloc (Obj.cells #[iv d] 3)).heap.size:=by simp;omega
        have hBa:Below w.heap.size w ((wr.drewN nq).alloc (Obj.cells #[iv d] 3)):=(below_drewN hB nq).alloc (by simpa using hsz) _
        have hDA:Aside (D.length = i):=hDl
        clear hDl
        go_wp2_with (at_builtin;refine wpList_push _ rfl _ _ rfl w.heap.size _ D [d] 1 rfl rfl wr.heap.size 1 rfl hnw ho hap hba ?_;intro v' w3 hown' hgrow3)
        go_roundw
        case rel=>exact ⟨i + 1,0,D ++ [d],by simp,rfl,by omega,hS',hown',hBa.trans hgrow3⟩
        case measure=>simp [intOf];omega
    · obtain rfl:i = len1:=by omega
      obtain ⟨a,c,rfl,hDc,hcm,hat⟩:=hR.at hS.dig
      have hdl:=hS.len
      rw [hdl] at hDc ⊢
      have htr:=rtrim_calls a i c wr.heap.size D hdl (by omega) hDc wr (Nat.le_refl _) hat
      have hA:Aside (D.length = i):=hdl
      clear hdl
      go_wp2_with (go_at_call 217;with_reducible refine htr.mono ?_;rintro e w' ⟨k,rfl,hT,hb2⟩)
      go_ret
      exact ⟨D,b,a,k,c,hS,hT,by have:=hT.1;have:=hA.out;omega,hcm,rfl,(hat.below hb2 (Nat.le_refl _)).up hb2.size,hB.trans (hb2.mono hB.size)⟩
end Go.Proofs.YtaloeffmigffaaaGreatDoor
end
section
namespace Go.Proofs.YtaloeffmigffaaaGreatDoor
open Go.RowKit Go.Big
def LimAt (n:Nat) (w:World) (a:Option Addr) (L:List Nat):Prop:=
  (∀ x ∈ L,x < 4294967296) ∧ (L ≠ [] → ∃ b off,a = some ⟨b,off,none⟩ ∧ b < n ∧ ∀ (j x:Nat),L[j]? = some x → w.cell? ⟨b,off + j,none⟩ = some (.int .u32 x))
theorem LimAt.below {n m:Nat} {w w':World} {a:Option Addr} {L:List Nat} (h:LimAt n w a L) (hb:Below m w w') (hm:n ≤ m):LimAt n w' a L:=by
  refine ⟨h.1,fun hne=>?_⟩
  obtain ⟨b,off,e,hbn,hc⟩:=h.2 hne
  exact ⟨b,off,e,hbn,fun j x hx=>((hb.mono hm).cell (p:=⟨b,off + j,none⟩) hbn).trans (hc j x hx)⟩
theorem LimAt.get {n:Nat} {w:World} {a:Option Addr} {L:List Nat} {k x:Nat} (h:LimAt n w a L) (hx:L[k]? = some x):∃ b off,a = some ⟨b,off,none⟩ ∧ b < n ∧ x < 4294967296 ∧ w.cell? ⟨b,off + k,none⟩ = some (.int .u32 x):=by
  have hne:L ≠ []:=by intro e;subst e;simp at hx
  obtain ⟨b,off,e,hb,hc⟩:=h.2 hne
  exact ⟨b,off,e,hb,h.1 x (List.mem_of_getElem? hx),hc k x hx⟩
def NatR (n:Nat) (w:World) (r:Value) (v:Nat):Prop:=∃ a L c,r = .slice a L.length c ∧ L.length ≤ c ∧ c ≤ maxLen ∧ IntAt n w a L ∧ NoZ L ∧ val 65536 L = v
theorem NatR.below {n m:Nat} {w w':World} {r:Value} {v:Nat} (h:NatR n w r v) (hb:Below m w w') (hm:n ≤ m):NatR n w' r v:=by
  obtain ⟨a,L,c,h1,h2,h3,h4,h5⟩:=h
  exact ⟨a,L,c,h1,h2,h3,h4.below hb hm,h5⟩
theorem NatR.up {n m:Nat} {w:World} {r:Value} {v:Nat} (h:NatR n w r v) (hm:n ≤ m):NatR m w r v:=by
  obtain ⟨a,L,c,h1,h2,h3,h4,h5⟩:=h
  exact ⟨a,L,c,h1,h2,h3,h4.up hm,h5⟩
theorem NoZ.len_of {L:List Nat} {M:Nat} (h:NoZ L) (hv:val 65536 L < 65536 ^ M):L.length ≤ M:=by
  by_cases hne:L = []
  · subst hne;simp
  · have h1:=h.pos (B:=65536) (by decide) hne
    have:=(Nat.pow_lt_pow_iff_right (show 1 < 65536 by decide)).1 (Nat.lt_of_le_of_lt h1 hv)
    omega
theorem NatR.of_trim {w':World} {a:Option Addr} {k c:Nat} {D:List Nat} {v:Nat} (hT:Trimmed D k) (hkc:k ≤ c) (hcm:c ≤ maxLen) (hat:IntAt w'.heap.size w' a D) (hv:val 65536 D = v):NatR w'.heap.size w' (.slice a k c) v:=by
  have hl:(D.take k).length = k:=by rw [List.length_take];have:=hT.1;omega
  exact ⟨a,D.take k,c,by rw [hl],by rw [hl];exact hkc,hcm,hat.take k,hT.noz,by rw [hT.val];exact hv⟩
def twos (L:List Nat):List Nat:=L.flatMap fun x=>[x % 65536,x / 65536]
theorem twos_len (L:List Nat):(twos L).length = 2 * L.length:=by
  induction L with
  | nil=>rfl
  | cons x L ih=>simp only [twos,List.flatMap_cons,List.length_append,List.length_cons,List.length_nil] at ih ⊢;omega
theorem twos_val:∀ L:List Nat,val 65536 (twos L) = val 4294967296 L
  | []=>rfl
  | x :: L=>by
    have ih:=twos_val L
    have e:twos (x :: L) = x % 65536 :: x / 65536 :: twos L:=rfl
    rw [e,val,val,val,ih]
    omega
theorem twos_lt {L:List Nat} (h:∀ x ∈ L,x < 4294967296):∀ d ∈ twos L,d < 65536:=by
  intro d hd
  obtain ⟨x,hx,hd⟩:=List.mem_flatMap.1 hd
  have:=h x hx
  simp at hd
  omega
theorem twos_take {L:List Nat} {i x:Nat} (h:L[i]? = some x):twos (L.take (i + 1)) = twos (L.take i) ++ [x % 65536,x / 65536]:=by
  rw [List.take_add_one,h]
  simp [twos]
theorem u32_and (x:Nat) (h:x < 4294967296):bits BinOp.and IntKind.u32 (x:Int) 65535 = ((x % 65536:Nat):Int):=by
  have h1:(BitVec.ofInt 32 (x:Int)).toNat = x:=by
    rw [BitVec.ofInt_natCast,BitVec.toNat_ofNat];omega
  have h2:(BitVec.ofInt 32 (65535:Int)).toNat = 2 ^ 16 - 1:=by decide
  show IntKind.u32.wrap (((BitVec.ofInt 32 (x:Int)) &&& BitVec.ofInt 32 (65535:Int)).toNat:Int) = _
  rw [BitVec.toNat_and,h1,h2,Nat.and_two_pow_sub_one_eq_mod]
  simp [IntKind.wrap,IntKind.bits,IntKind.signed]
  omega
set_option maxRecDepth 100000 in
set_option maxHeartbeats 1000000 in
theorem rnatOf_calls (a1:Option Addr) (len1 cap1 n1:Nat) (A:List Nat) (hl1:A.length = len1) (hb1:len1 ≤ 1048576) (w:World) (hn1:n1 ≤ w.heap.size) (h1:LimAt n1 w a1 A) :
    Calls Tryz.prog 173 #[.slice a1 len1 cap1] w fun e w'=>∃ r,e = .returned r ∧ NatR w'.heap.size w' r (val 4294967296 A) ∧ Below w.heap.size w w':=by
  go_enter Tryz.func173,Tryz.ntmps173
  go_wp2
  go_loopw [3,8] (fun s3 s8 wr=>∃ (i:Nat),s8 = .int .i64 i ∧ i ≤ len1 ∧ IntRow w.heap.size wr s3 (twos (A.take i)) ∧ Below w.heap.size w wr) (fun _ s _=>len1 - (intOf s).toNat)
  case atStart=>exact ⟨0,rfl,Nat.zero_le _,IntRow.nil _ _,Below.refl _ _⟩
  case round=>
    obtain ⟨i,rfl,hi,hR,hB⟩:=hrel
    by_cases hlt:i < len1
    · obtain ⟨x,hx⟩:∃ x,A[i]? = some x:=⟨A[i],List.getElem?_eq_getElem (by omega)⟩
      obtain ⟨b1,o1,rfl,hbn,hxl,hc⟩:=(h1.below hB hn1).get hx
      have htk:=twos_take hx
      have htl:(twos (A.take i)).length = 2 * i:=by rw [twos_len,List.length_take];omega
      clear h1 hx
      obtain ⟨p,hp⟩:∃ p,x % 65536 = p:=⟨_,rfl⟩
      obtain ⟨q,hq⟩:∃ q,x / 65536 = q:=⟨_,rfl⟩
      have ha:=u32_and x hxl
      rw [hp] at ha
      rw [hp,hq] at htk
      generalize twos (A.take i) = T at *
      have Atk:Aside (twos (A.take (i + 1)) = T ++ [p,q]):=htk
      clear htk
      have hi1:(i:Int) < (len1:Int):=by omega
      have hi3:(0:Int) ≤ (i:Int):=by omega
      have hw3:IntKind.i64.wrap ((i:Int) + 1) = (i:Int) + 1:=by rw [IntKind.wrap_i64];omega
      have hq2:(x:Int) / 65536 = (q:Int):=by omega
      have hw4:IntKind.i64.wrap (p:Int) = (p:Int):=by rw [IntKind.wrap_i64];omega
      have hw5:IntKind.i64.wrap (q:Int) = (q:Int):=by rw [IntKind.wrap_i64];omega
      clear hp hq
      have ho:IntRow w.heap.size (wr.alloc (Obj.cells #[iv p,iv q] 3)) u3 T:=hR.below (below_alloc _ _) (Nat.le_refl _)
      have hnw:=new_cells wr [iv p,iv q] 3 (0,0)
      have hsz:=hB.size
      have hap:T.length + 2 ≤ 17592186044416:=by omega
      have hba:w.heap.size ≤ (wr.alloc (Obj.cells #[iv p,iv q] 3)).heap.size:=by simp;omega
      have hBa:Below w.heap.size w (wr.alloc (Obj.cells #[iv p,iv q] 3)):=hB.alloc hsz _
      clear htl
      go_wp2_with (at_builtin;refine wpList_push _ rfl _ _ rfl w.heap.size _ T [p,q] 2 rfl rfl wr.heap.size 2 rfl hnw ho hap hba ?_;intro v' w3 hown' hgrow3)
      go_roundw
      case rel=>exact ⟨i + 1,by simp,by omega,by rw [Atk.out];exact hown',hBa.trans hgrow3⟩
      case measure=>simp [intOf];omega
    · obtain rfl:i = len1:=by omega
      rw [List.take_of_length_le (by omega)] at hR
      have hd:=twos_lt h1.1
      obtain ⟨a,c,rfl,hDc,hcm,hat⟩:=hR.at hd
      have hdl:(twos A).length = 2 * i:=by rw [twos_len,hl1]
      have hv:=twos_val A
      generalize twos A = D at *
      rw [hdl] at hDc ⊢
      obtain ⟨m,hm⟩:∃ m,2 * i = m:=⟨_,rfl⟩
      rw [hm] at hdl hDc ⊢
      have htr:=rtrim_calls a m c wr.heap.size D hdl (by omega) hDc wr (Nat.le_refl _) hat
      have hA:Aside (D.length = m):=hdl
      clear hdl hm
      go_wp2_with (go_at_call 217;with_reducible refine htr.mono ?_;rintro e w' ⟨k,rfl,hT,hb2⟩)
      go_ret
      exact ⟨_,rfl,NatR.of_trim hT (by have:=hT.1;have:=hA.out;omega) hcm ((hat.below hb2 (Nat.le_refl _)).up hb2.size) hv,hB.trans (hb2.mono hB.size)⟩
end Go.Proofs.YtaloeffmigffaaaGreatDoor
end
section
namespace Go.Proofs.YtaloeffmigffaaaGreatDoor
open Go.RowKit Go.Big
def IRow (w:World) (b:Nat) (cur:List Nat):Prop:=w.heap[b]? = some (.cells (cur.map iv).toArray 3 (0,0))
theorem IRow.cell {w:World} {b:Nat} {cur:List Nat} (h:IRow w b cur) {k x:Nat} (hx:cur[k]? = some x):w.cell? ⟨b,k,none⟩ = some (.int .i64 x) ∧ w.frozen? ⟨b,k,none⟩ = false:=by
  unfold IRow at h
  simp [World.cell?,World.frozen?,h,hx,iv]
theorem IRow.made (w:World) (n:Nat):IRow (w.alloc (.cells (madeCells #[.int .i64 0] n) 3)) w.heap.size (List.replicate n 0):=by
  unfold IRow
  rw [heap_alloc_new]
  congr 2
  apply Array.ext_getElem?
  intro i
  by_cases hi:i < n
  · simp [madeCells,hi,Nat.mod_one,iv]
  · simp [madeCells,hi]
theorem IRow.kept {w w':World} {b m:Nat} {cur:List Nat} (h:IRow w b cur) (hb:Below m w w') (hm:b < m):IRow w' b cur:=(hb.block b hm).trans h
theorem IRow.put {w:World} {b:Nat} {cur:List Nat} (h:IRow w b cur) {k x:Nat} (hk:k < cur.length):IRow (w.setCell ⟨b,k,none⟩ (.int .i64 x)) b (cur.set k x):=by
  have hlt:b < w.heap.size:=(Array.getElem?_eq_some_iff.1 h).1
  unfold IRow at *
  show (Array.modify w.heap b _)[b]? = _
  rw [Array.getElem?_modify,if_pos rfl,h]
  simp [iv]
theorem IRow.at {w:World} {b:Nat} {cur:List Nat} (h:IRow w b cur) (hd:∀ x ∈ cur,x < 65536):IntAt w.heap.size w (some ⟨b,0,none⟩) cur:=
  ⟨hd,fun _=>⟨b,0,rfl,(Array.getElem?_eq_some_iff.1 h).1,fun j x hx=>by rw [Nat.zero_add];exact (h.cell hx).1⟩⟩
theorem dg_set {cur:List Nat} {k x i:Nat} (hk:k < cur.length):dg (cur.set k x) i = if i = k then x else dg cur i:=by
  unfold dg
  rw [List.getElem?_set]
  by_cases h:k = i
  · subst h;simp [hk]
  · rw [if_neg h,if_neg (Ne.symm h)]
theorem i64_shr1 (x:Nat):(x:Int) / 2 = ((x / 2:Nat):Int):=by omega
theorem i64_or_half (p q:Nat) (hp:p < 32768) (hq:q < 2):bits BinOp.or IntKind.i64 (p:Int) ((q:Int) * 32768) = ((p + q * 32768:Nat):Int):=by
  have e1:((q:Int) * 32768) = ((q * 32768:Nat):Int):=by simp
  have h1:(BitVec.ofInt 64 (p:Int)).toNat = p:=by rw [BitVec.ofInt_natCast,BitVec.toNat_ofNat];omega
  have h2:(BitVec.ofInt 64 ((q:Int) * 32768)).toNat = q * 32768:=by rw [e1,BitVec.ofInt_natCast,BitVec.toNat_ofNat];omega
  show IntKind.i64.wrap (((BitVec.ofInt 64 (p:Int)) ||| BitVec.ofInt 64 ((q:Int) * 32768)).toNat:Int) = _
  have e:q <<< 15 + p = q <<< 15 ||| p:=Nat.shiftLeft_add_eq_or_of_lt (by omega) q
  rw [Nat.shiftLeft_eq,show (2:Nat) ^ 15 = 32768 by decide] at e
  rw [BitVec.toNat_or,h1,h2,Nat.or_comm,← e,IntKind.wrap_i64]
  omega
set_option maxRecDepth 100000 in
set_option maxHeartbeats 1000000 in
theorem rhalf_calls (r1:Value) (n1 v M:Nat) (hv:v < 65536 ^ M) (hM:M ≤ 1048576) (w:World) (hn1:n1 ≤ w.heap.size) (h1:NatR n1 w r1 v) :
    Calls Tryz.prog 220 #[r1] w fun e w'=>∃ r,e = .returned r ∧ NatR w'.heap.size w' r (v / 2) ∧ Below w.heap.size w w':=by
  obtain ⟨a1,A,cap1,rfl,hlc,hcm,hat,hz,rfl⟩:=h1
  have hlen:A.length ≤ 1048576:=Nat.le_trans (hz.len_of hv) hM
  obtain ⟨len1,hl1⟩:∃ len1,A.length = len1:=⟨_,rfl⟩
  rw [hl1] at hlc hlen ⊢
  clear hv
  have hmk:=run_make_row' (P:=Tryz.prog) 177 3 (.int .i64 0) 8 Tryz.underlying177 inf3 rfl .i64 .i64 len1 (by omega) (by omega)
  have hA:Aside (A.length = len1):=hl1
  go_enter Tryz.func220,Tryz.ntmps220
  go_wp2
  go_loopw [10] (fun s wr=>∃ (i:Nat) (cur:List Nat),s = .int .i64 i ∧ i ≤ len1 ∧ IRow wr w.heap.size cur ∧ cur.length = len1 ∧ (∀ j,j < i → dg cur j = dg A j / 2 + dg A (j + 1) % 2 * 32768) ∧ (∀ x ∈ cur,x < 65536) ∧ Below w.heap.size w wr) (fun s _=>len1 - (intOf s).toNat)
  case atStart=>exact ⟨0,List.replicate len1 0,rfl,Nat.zero_le _,IRow.made _ _,by simp,fun j hj=>absurd hj (by omega),by simp,below_alloc _ _⟩
  case round=>
    obtain ⟨i,cur,rfl,hi,hR,hcl,hd,hcd,hB⟩:=hrel
    by_cases hlt:i < len1
    · have hx:=dg_get (L:=A) (i:=i) (by omega)
      obtain ⟨b1,o1,rfl,hbn,hxl,hc⟩:=(hat.below hB hn1).get hx
      have hdg:=rdigit_calls (some ⟨b1,o1,none⟩) len1 cap1 n1 (i + 1) A hl1 wr.drew (hat.below hB.drew hn1)
      have hyl:dg A (i + 1) < 65536:=dg_lt (by decide) hat.1 _
      have hone:=i64_and_one (dg A (i + 1)) hyl
      obtain ⟨x,hxe⟩:∃ x,dg A i = x:=⟨_,rfl⟩
      obtain ⟨y,hye⟩:∃ y,dg A (i + 1) = y:=⟨_,rfl⟩
      rw [hxe] at hx hxl hc
      rw [hye] at hdg hyl hone
      have ec:((i + 1:Nat):Int) = (i:Int) + 1:=by omega
      rw [ec] at hdg
      clear ec
      have hi1:(i:Int) < (len1:Int):=by omega
      have hi3:(0:Int) ≤ (i:Int):=by omega
      have hw3:IntKind.i64.wrap ((i:Int) + 1) = (i:Int) + 1:=by rw [IntKind.wrap_i64];omega
      obtain ⟨z,hz0⟩:∃ z,z = x / 2 + y % 2 * 32768:=⟨_,rfl⟩
      have hzl:z < 65536:=by rw [hz0];exact half_lt (B:=65536) rfl hxl
      have hs1:IntKind.i64.wrap ((y:Int) % 2 * 32768) = (y:Int) % 2 * 32768:=by rw [IntKind.wrap_i64];omega
      have hor:bits BinOp.or IntKind.i64 ((x:Int) / 2) ((y:Int) % 2 * 32768) = (z:Int):=by
        have:=i64_or_half (x / 2) (y % 2) (by omega) (by omega)
        rw [hz0,← this]
        congr 1
      have hd':∀ j,j < i + 1 → dg (cur.set i z) j = dg A j / 2 + dg A (j + 1) % 2 * 32768:=fun j hj=>by
        rw [dg_set (by omega)]
        by_cases hji:j = i
        · subst hji;rw [if_pos rfl,hz0,hxe,hye]
        · rw [if_neg hji];exact hd j (by omega)
      have hcd':∀ e ∈ cur.set i z,e < 65536:=fun e he=>by
        rcases List.mem_or_eq_of_mem_set he with he | rfl
        · exact hcd e he
        · exact hzl
      have hc0:=hR.cell (dg_get (L:=cur) (i:=i) (by omega))
      have hlw:w.heap.size < wr.heap.size:=(Array.getElem?_eq_some_iff.1 hR).1
      obtain ⟨c0,z0⟩:=hc0
      have hXY:Aside (x = dg A i ∧ y = dg A (i + 1)):=⟨hxe.symm,hye.symm⟩
      have hcl':Aside (cur.length = len1):=hcl
      have hd'':Aside (∀ j,j < i + 1 → dg (cur.set i z) j = dg A j / 2 + dg A (j + 1) % 2 * 32768):=hd'
      clear hx hcl hd hd' hxe hye hz0 hl1
      go_wp2
      refine wp_region_still_tail 15 (by kernel_rfl) (by kernel_rfl) ?_
      simp only [List.take_succ_cons,List.take_zero,List.drop_succ_cons,List.drop_zero,World.drew_eq]
      repeat (with_reducible refine wpStill_step (fun K hK=>?_);go_simp;with_reducible refine hK _ ?_;clear hK K)
      with_reducible refine wpStill_step (fun K hK=>?_)
      go_simp
      refine ⟨_,hdg,?_⟩
      with_reducible refine hK _ ?_
      clear hK K
      repeat (with_reducible refine wpStill_step (fun K hK=>?_);go_simp;with_reducible refine hK _ ?_;clear hK K)
      refine wpStill_nil ?_
      show wpList _ _ _ _ _ _
      go_wp2
      go_roundw
      case rel=>exact ⟨i + 1,cur.set i z,by simp,by omega,IRow.put (hR.kept (below_drew wr) hlw) (by have:=hcl'.out;omega),by simp [hcl'.out],hd''.out,hcd',(hB.drew).setCell (Nat.le_refl _) _⟩
      case measure=>simp [intOf];omega
    · obtain rfl:i = len1:=by omega
      have hat2:=hR.at hcd
      have htr:=rtrim_calls (some ⟨w.heap.size,0,none⟩) i i wr.heap.size cur hcl (by omega) (Nat.le_refl _) wr (Nat.le_refl _) hat2
      have hval:=(val_half (B:=65536) (H:=32768) rfl (hcl.trans hA.out.symm) (fun j hj=>hd j (by rw [hA.out] at hj;exact hj))).1
      have hC:Aside (cur.length = i):=hcl
      have hV:Aside (val 65536 cur = val 65536 A / 2):=hval
      clear hcl hmk hd hcd hval
      go_wp2_with (go_at_call 217;with_reducible refine htr.mono ?_;rintro e w' ⟨k,rfl,hT,hb2⟩)
      go_ret
      exact ⟨_,rfl,NatR.of_trim hT (by have:=hT.1;have:=hC.out;omega) (by unfold maxLen;omega) ((hat2.below hb2 (Nat.le_refl _)).up hb2.size) hV.out,hB.trans (hb2.mono hB.size)⟩
end Go.Proofs.YtaloeffmigffaaaGreatDoor
end
