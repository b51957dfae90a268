/-
  A part of the proof of the card of WorkGeneralizationIsLeast (second form): lemmas that the text Card uses. No condition of its own.
-/
import Derived.Test.YtaloeffmigffaaaGreatDoorNatD
import Derived.Test.YtaloeffmigffaaaGreatDoorRefC
import Derived.Test.YtaloeffmigffaaaGreatDoorPlain
set_option linter.all false
set_option linter.unusedVariables false
set_option linter.unusedSimpArgs false
section
namespace Go.Proofs.YtaloeffmigffaaaGreatDoor
open Go.RowKit Go.Big
def noNum (g:Bool) (l1 l2:Nat):Bool:=!g && decide (l1 + l2 = 0)
def RootFine (k v:Int) (sz:Nat) (g:Bool) (num den:List Nat) (len:Nat):Prop:=
  (k = 1 ∧ 0 ≤ v ∧ v ≤ 1073741824 ∧ sz = 0 ∧ noNum g num.length den.length = true ∧ len = 0) ∨
  (k = 2 ∧ v = 0 ∧ sz = 0 ∧ len = 0 ∧ numFault g num den = 0) ∨
  (k = 3 ∧ v = 0 ∧ noNum g num.length den.length = true ∧ len = 0) ∨
  (k = 4 ∧ v = 0 ∧ noNum g num.length den.length = true ∧ len = 0) ∨
  (k = 5 ∧ v = 0 ∧ noNum g num.length den.length = true ∧ 1 ≤ len ∧ len ≤ 32)
def nameMost (k:Int):Nat:=if k = 4 then 4000 else if k = 3 ∨ k = 5 then 255 else 0
open Classical in
noncomputable def rootE (k v:Int) (sz:Nat) (g:Bool) (num den:List Nat) (len:Nat):Int:=
  if RootFine k v sz g num den len then (if nameMost k < sz then 3 else 0) else 2
theorem toList_nil {b:ByteArray}:b.toList = [] ↔ b.size = 0:=by
  rw [ByteArray.toList_eq]
  constructor
  · intro h
    have:b.data.toList.length = 0:=by rw [h];rfl
    simpa using this
  · intro h
    exact List.eq_nil_of_length_eq_zero (by simpa using h)
theorem re3a {v:Int} {nm:ByteArray} {g nn:Bool} {num den:List Nat} {len:Nat} (hN:Aside (noNum g num.length den.length = nn)) (h1:v = 0) (h2:nn = true) (h3:(!((len:Int) == 0)) = true):rootE 3 v nm.size g num den len = 2:=by
  refine if_neg ?_
  have hN':=hN.out
  unfold RootFine
  simp only [hN']
  try simp only [toList_nil] at *
  simp at *
  try omega
  try grind
theorem re3b {v:Int} {nm:ByteArray} {g nn:Bool} {num den:List Nat} {len:Nat} (hN:Aside (noNum g num.length den.length = nn)) (h1:v = 0) (h2:nn = true) (h3:(!((len:Int) == 0)) = false) (h4:(255:Int) < (nm.size:Int)):rootE 3 v nm.size g num den len = 3:=by
  have hN':=hN.out
  unfold rootE
  try simp only [toList_nil] at *
  simp at *
  rw [if_pos,if_pos]
  · unfold nameMost;simp;omega
  · unfold RootFine;simp only [hN'];simp;try omega
    try grind
theorem re3c {v:Int} {nm:ByteArray} {g nn:Bool} {num den:List Nat} {len:Nat} (hN:Aside (noNum g num.length den.length = nn)) (h1:v = 0) (h2:nn = true) (h3:(!((len:Int) == 0)) = false) (h4:(nm.size:Int) ≤ 255):rootE 3 v nm.size g num den len = 0:=by
  have hN':=hN.out
  unfold rootE
  try simp only [toList_nil] at *
  simp at *
  rw [if_pos,if_neg]
  · unfold nameMost;simp;omega
  · unfold RootFine;simp only [hN'];simp;try omega
    try grind
theorem re3d {v:Int} {nm:ByteArray} {g nn:Bool} {num den:List Nat} {len:Nat} (hN:Aside (noNum g num.length den.length = nn)) (h1:v = 0) (h2:¬ nn = true):rootE 3 v nm.size g num den len = 2:=by
  refine if_neg ?_
  have hN':=hN.out
  unfold RootFine
  simp only [hN']
  try simp only [toList_nil] at *
  simp at *
  try omega
  try grind
theorem re3e {v:Int} {nm:ByteArray} {g nn:Bool} {num den:List Nat} {len:Nat} (hN:Aside (noNum g num.length den.length = nn)) (h1:¬ v = 0):rootE 3 v nm.size g num den len = 2:=by
  refine if_neg ?_
  have hN':=hN.out
  unfold RootFine
  simp only [hN']
  try simp only [toList_nil] at *
  simp at *
  try omega
  try grind
theorem re4a {v:Int} {nm:ByteArray} {g nn:Bool} {num den:List Nat} {len:Nat} (hN:Aside (noNum g num.length den.length = nn)) (h1:v = 0) (h2:nn = true) (h3:(!((len:Int) == 0)) = true):rootE 4 v nm.size g num den len = 2:=by
  refine if_neg ?_
  have hN':=hN.out
  unfold RootFine
  simp only [hN']
  try simp only [toList_nil] at *
  simp at *
  try omega
  try grind
theorem re4b {v:Int} {nm:ByteArray} {g nn:Bool} {num den:List Nat} {len:Nat} (hN:Aside (noNum g num.length den.length = nn)) (h1:v = 0) (h2:nn = true) (h3:(!((len:Int) == 0)) = false) (h4:(4000:Int) < (nm.size:Int)):rootE 4 v nm.size g num den len = 3:=by
  have hN':=hN.out
  unfold rootE
  try simp only [toList_nil] at *
  simp at *
  rw [if_pos,if_pos]
  · unfold nameMost;simp;omega
  · unfold RootFine;simp only [hN'];simp;try omega
    try grind
theorem re4c {v:Int} {nm:ByteArray} {g nn:Bool} {num den:List Nat} {len:Nat} (hN:Aside (noNum g num.length den.length = nn)) (h1:v = 0) (h2:nn = true) (h3:(!((len:Int) == 0)) = false) (h4:(nm.size:Int) ≤ 4000):rootE 4 v nm.size g num den len = 0:=by
  have hN':=hN.out
  unfold rootE
  try simp only [toList_nil] at *
  simp at *
  rw [if_pos,if_neg]
  · unfold nameMost;simp;omega
  · unfold RootFine;simp only [hN'];simp;try omega
    try grind
theorem re4d {v:Int} {nm:ByteArray} {g nn:Bool} {num den:List Nat} {len:Nat} (hN:Aside (noNum g num.length den.length = nn)) (h1:v = 0) (h2:¬ nn = true):rootE 4 v nm.size g num den len = 2:=by
  refine if_neg ?_
  have hN':=hN.out
  unfold RootFine
  simp only [hN']
  try simp only [toList_nil] at *
  simp at *
  try omega
  try grind
theorem re4e {v:Int} {nm:ByteArray} {g nn:Bool} {num den:List Nat} {len:Nat} (hN:Aside (noNum g num.length den.length = nn)) (h1:¬ v = 0):rootE 4 v nm.size g num den len = 2:=by
  refine if_neg ?_
  have hN':=hN.out
  unfold RootFine
  simp only [hN']
  try simp only [toList_nil] at *
  simp at *
  try omega
  try grind
theorem re5a {v:Int} {nm:ByteArray} {g nn:Bool} {num den:List Nat} {len:Nat} (hN:Aside (noNum g num.length den.length = nn)) (h1:v = 0) (h2:nn = true) (h3:(1:Int) ≤ (len:Int)) (h4:(!decide ((len:Int) ≤ 32)) = true):rootE 5 v nm.size g num den len = 2:=by
  refine if_neg ?_
  have hN':=hN.out
  unfold RootFine
  simp only [hN']
  try simp only [toList_nil] at *
  simp at *
  try omega
  try grind
theorem re5b {v:Int} {nm:ByteArray} {g nn:Bool} {num den:List Nat} {len:Nat} (hN:Aside (noNum g num.length den.length = nn)) (h1:v = 0) (h2:nn = true) (h3:(1:Int) ≤ (len:Int)) (h4:(!decide ((len:Int) ≤ 32)) = false) (h5:(255:Int) < (nm.size:Int)):rootE 5 v nm.size g num den len = 3:=by
  have hN':=hN.out
  unfold rootE
  try simp only [toList_nil] at *
  simp at *
  rw [if_pos,if_pos]
  · unfold nameMost;simp;omega
  · unfold RootFine;simp only [hN'];simp;try omega
    try grind
theorem re5c {v:Int} {nm:ByteArray} {g nn:Bool} {num den:List Nat} {len:Nat} (hN:Aside (noNum g num.length den.length = nn)) (h1:v = 0) (h2:nn = true) (h3:(1:Int) ≤ (len:Int)) (h4:(!decide ((len:Int) ≤ 32)) = false) (h5:(nm.size:Int) ≤ 255):rootE 5 v nm.size g num den len = 0:=by
  have hN':=hN.out
  unfold rootE
  try simp only [toList_nil] at *
  simp at *
  rw [if_pos,if_neg]
  · unfold nameMost;simp;omega
  · unfold RootFine;simp only [hN'];simp;try omega
    try grind
theorem re5d {v:Int} {nm:ByteArray} {g nn:Bool} {num den:List Nat} {len:Nat} (hN:Aside (noNum g num.length den.length = nn)) (h1:v = 0) (h2:nn = true) (h3:(len:Int) < 1):rootE 5 v nm.size g num den len = 2:=by
  refine if_neg ?_
  have hN':=hN.out
  unfold RootFine
  simp only [hN']
  try simp only [toList_nil] at *
  simp at *
  try omega
  try grind
theorem re5e {v:Int} {nm:ByteArray} {g nn:Bool} {num den:List Nat} {len:Nat} (hN:Aside (noNum g num.length den.length = nn)) (h1:v = 0) (h2:¬ nn = true):rootE 5 v nm.size g num den len = 2:=by
  refine if_neg ?_
  have hN':=hN.out
  unfold RootFine
  simp only [hN']
  try simp only [toList_nil] at *
  simp at *
  try omega
  try grind
theorem re5f {v:Int} {nm:ByteArray} {g nn:Bool} {num den:List Nat} {len:Nat} (hN:Aside (noNum g num.length den.length = nn)) (h1:¬ v = 0):rootE 5 v nm.size g num den len = 2:=by
  refine if_neg ?_
  have hN':=hN.out
  unfold RootFine
  simp only [hN']
  try simp only [toList_nil] at *
  simp at *
  try omega
  try grind
theorem re1a {v:Int} {nm:ByteArray} {g nn:Bool} {num den:List Nat} {len:Nat} (hN:Aside (noNum g num.length den.length = nn)) (h1:0 ≤ v) (h2:v ≤ 1073741824) (h3:nm.toList = []) (h4:nn = true) (h5:(!((len:Int) == 0)) = true):rootE 1 v nm.size g num den len = 2:=by
  refine if_neg ?_
  have hN':=hN.out
  unfold RootFine
  simp only [hN']
  try simp only [toList_nil] at *
  simp at *
  try omega
  try grind
theorem re1c {v:Int} {nm:ByteArray} {g nn:Bool} {num den:List Nat} {len:Nat} (hN:Aside (noNum g num.length den.length = nn)) (h1:0 ≤ v) (h2:v ≤ 1073741824) (h3:nm.toList = []) (h4:nn = true) (h5:(!((len:Int) == 0)) = false) (h6:¬ 0 < nm.size):rootE 1 v nm.size g num den len = 0:=by
  have hN':=hN.out
  unfold rootE
  try simp only [toList_nil] at *
  simp at *
  rw [if_pos,if_neg]
  · unfold nameMost;simp;omega
  · unfold RootFine;simp only [hN'];simp;try omega
    try grind
theorem re1d {v:Int} {nm:ByteArray} {g nn:Bool} {num den:List Nat} {len:Nat} (hN:Aside (noNum g num.length den.length = nn)) (h1:0 ≤ v) (h2:v ≤ 1073741824) (h3:nm.toList = []) (h4:¬ nn = true):rootE 1 v nm.size g num den len = 2:=by
  refine if_neg ?_
  have hN':=hN.out
  unfold RootFine
  simp only [hN']
  try simp only [toList_nil] at *
  simp at *
  try omega
  try grind
theorem re1e {v:Int} {nm:ByteArray} {g nn:Bool} {num den:List Nat} {len:Nat} (hN:Aside (noNum g num.length den.length = nn)) (h1:0 ≤ v) (h2:v ≤ 1073741824) (h3:¬ nm.toList = []):rootE 1 v nm.size g num den len = 2:=by
  refine if_neg ?_
  have hN':=hN.out
  unfold RootFine
  simp only [hN']
  try simp only [toList_nil] at *
  simp at *
  try omega
  try grind
theorem re1f {v:Int} {nm:ByteArray} {g nn:Bool} {num den:List Nat} {len:Nat} (hN:Aside (noNum g num.length den.length = nn)) (h1:1073741824 < v):rootE 1 v nm.size g num den len = 2:=by
  refine if_neg ?_
  have hN':=hN.out
  unfold RootFine
  simp only [hN']
  try simp only [toList_nil] at *
  simp at *
  try omega
  try grind
theorem re1g {v:Int} {nm:ByteArray} {g nn:Bool} {num den:List Nat} {len:Nat} (hN:Aside (noNum g num.length den.length = nn)) (h1:v < 0):rootE 1 v nm.size g num den len = 2:=by
  refine if_neg ?_
  have hN':=hN.out
  unfold RootFine
  simp only [hN']
  try simp only [toList_nil] at *
  simp at *
  try omega
  try grind
theorem re2a {v:Int} {nm:ByteArray} {g nn:Bool} {num den:List Nat} {len:Nat} (hN:Aside (noNum g num.length den.length = nn)) (h1:v = 0) (h2:nm.toList = []) (h3:len = 0) (h4:numFault g num den = 0):rootE 2 v nm.size g num den len = 0:=by
  have hN':=hN.out
  unfold rootE
  try simp only [toList_nil] at *
  simp at *
  rw [if_pos,if_neg]
  · unfold nameMost;simp;omega
  · unfold RootFine;simp only [hN'];simp;try omega
    try grind
theorem re2b {v:Int} {nm:ByteArray} {g nn:Bool} {num den:List Nat} {len:Nat} (hN:Aside (noNum g num.length den.length = nn)) (h1:¬ numFault g num den = 0):rootE 2 v nm.size g num den len = 2:=by
  refine if_neg ?_
  have hN':=hN.out
  unfold RootFine
  simp only [hN']
  try simp only [toList_nil] at *
  simp at *
  try omega
  try grind
theorem re2c {v:Int} {nm:ByteArray} {g nn:Bool} {num den:List Nat} {len:Nat} (hN:Aside (noNum g num.length den.length = nn)) (h1:¬ len = 0):rootE 2 v nm.size g num den len = 2:=by
  refine if_neg ?_
  have hN':=hN.out
  unfold RootFine
  simp only [hN']
  try simp only [toList_nil] at *
  simp at *
  try omega
  try grind
theorem re2d {v:Int} {nm:ByteArray} {g nn:Bool} {num den:List Nat} {len:Nat} (hN:Aside (noNum g num.length den.length = nn)) (h1:¬ nm.toList = []):rootE 2 v nm.size g num den len = 2:=by
  refine if_neg ?_
  have hN':=hN.out
  unfold RootFine
  simp only [hN']
  try simp only [toList_nil] at *
  simp at *
  try omega
  try grind
theorem re2e {v:Int} {nm:ByteArray} {g nn:Bool} {num den:List Nat} {len:Nat} (hN:Aside (noNum g num.length den.length = nn)) (h1:¬ v = 0):rootE 2 v nm.size g num den len = 2:=by
  refine if_neg ?_
  have hN':=hN.out
  unfold RootFine
  simp only [hN']
  try simp only [toList_nil] at *
  simp at *
  try omega
  try grind
set_option maxRecDepth 100000 in
set_option maxHeartbeats 4000000 in
theorem node_calls (k v:Int) (nm:ByteArray) (g:Bool) (p1 p2 a:Option Addr) (l1 l2 len q1 q2 c n:Nat) (num den:List Nat) (hl1:num.length = l1) (hl2:den.length = l2) (hb1:l1 ≤ 1048576) (hb2:l2 ≤ 1048576) (hb:len ≤ 1048576) (w:World) (hn:n ≤ w.heap.size) (h1:LimAt n w p1 num) (h2:LimAt n w p2 den) :
    Calls Tryz.prog 54 #[.agg #[.int .i64 k,.int .i64 v,.string nm,.bool g,.slice p1 l1 q1,.slice p2 l2 q2,.slice a len c]] w fun e w'=>e = .returned (.int .i64 (rootE k v nm.size g num den len)) ∧ Below w.heap.size w w':=by
  have hnc:=fun w2 (hb2':Below w.heap.size w w2)=>ncheck_calls g p1 p2 l1 l2 q1 q2 n num den hl1 hl2 (by omega) (by omega) w2 (Nat.le_trans hn hb2'.size) (h1.below hb2' hn) (h2.below hb2' hn)
  obtain ⟨nn,hnn⟩:∃ nn,noNum g l1 l2 = nn:=⟨_,rfl⟩
  have hN:Aside (noNum g num.length den.length = nn):=by rw [hl1,hl2];exact hnn
  go_enter Tryz.func54,Tryz.ntmps54
  go_upto_region 1 with fail
  go_cut [3] from 6 to 21 (fun s3 wx=>s3 = .bool nn ∧ wx = w.alloc (Obj.cells #[.int .i64 k,.int .i64 v,.string nm,.bool g,.slice p1 l1 q1,.slice p2 l2 q2,.slice a len c] 27))
  case first=>
    have hws:IntKind.i64.wrap ((l1:Int) + (l2:Int)) = (l1:Int) + (l2:Int):=by rw [IntKind.wrap_i64];omega
    cases g with
    | true=>
      obtain rfl:nn = false:=by rw [← hnn];rfl
      clear hnc hnn
      go_wp2_with fail
      go_meet
      exact ⟨rfl,rfl⟩
    | false=>
      by_cases h0:l1 + l2 = 0
      · obtain rfl:nn = true:=by rw [← hnn];simp only [noNum,h0];rfl
        have hz:((l1:Int) + (l2:Int) == 0) = true:=by simp;omega
        clear hnc hnn h0
        go_wp2_with fail
        go_meet
        exact ⟨rfl,rfl⟩
      · obtain rfl:nn = false:=by rw [← hnn];simp only [noNum,h0];rfl
        have hz:((l1:Int) + (l2:Int) == 0) = false:=by simp;omega
        clear hnc hnn h0
        go_wp2_with fail
        go_meet
        exact ⟨rfl,rfl⟩
  case rest=>
    obtain ⟨rfl,rfl⟩:=hcut
    clear hnn
    by_cases hk1:k = 1
    · subst hk1
      go_wp2_with fail
      all_goals go_ret
      all_goals first | (rw [re1a hN (by assumption) (by assumption) (by assumption) (by assumption) (by assumption)];exact ⟨rfl,below_alloc _ _⟩) | (rw [re1c hN (by assumption) (by assumption) (by assumption) (by assumption) (by assumption) (by assumption)];exact ⟨rfl,below_alloc _ _⟩) | (rw [re1d hN (by assumption) (by assumption) (by assumption) (by assumption)];exact ⟨rfl,below_alloc _ _⟩) | (rw [re1e hN (by assumption) (by assumption) (by assumption)];exact ⟨rfl,below_alloc _ _⟩) | (rw [re1f hN (by assumption)];exact ⟨rfl,below_alloc _ _⟩) | (rw [re1g hN (by assumption)];exact ⟨rfl,below_alloc _ _⟩) | (exfalso;have e1:=toList_nil.1 (show nm.toList = [] from (by assumption));have e2:0 < nm.size:=(by assumption);omega)
    have hk1':(k == 1) = false:=by simpa using hk1
    by_cases hk2:k = 2
    · subst hk2
      by_cases hv:v = 0
      · subst hv
        by_cases hnl:nm.toList = []
        · by_cases hl:len = 0
          · subst hl
            by_cases hF:numFault g num den = 0
            · have hr:Aside (rootE 2 0 nm.size g num den 0 = 0):=re2a hN rfl hnl rfl hF
              rw [hF] at hnc
              have hns:¬ 0 < nm.size:=by rw [toList_nil.1 hnl];omega
              have hq:=heap_alloc_new w (Obj.cells #[.int .i64 2,.int .i64 0,.string nm,.bool g,.slice p1 l1 q1,.slice p2 l2 q2,.slice a 0 c] 27)
              clear hF
              go_wp2_with first | (go_at_call 116;(with_reducible refine (hnc _ (below_alloc w _)).mono ?_);rintro e w3 ⟨rfl,hb3⟩;have x2:=(cells7 ((hb3.block w.heap.size (by simp)).trans hq)).2.2.1)
              go_ret
              rw [hr.out]
              exact ⟨rfl,(below_alloc _ _).trans (hb3.mono (by simp))⟩
            · have hr:Aside (rootE 2 0 nm.size g num den 0 = 2):=re2b hN hF
              have hF':(numFault g num den == 0) = false:=by simpa using hF
              clear hF
              go_wp2_with first | (go_at_call 116;(with_reducible refine (hnc _ (below_alloc w _)).mono ?_);rintro e w3 ⟨rfl,hb3⟩)
              go_ret
              rw [hr.out]
              exact ⟨rfl,(below_alloc _ _).trans (hb3.mono (by simp))⟩
          · have hr:Aside (rootE 2 0 nm.size g num den len = 2):=re2c hN hl
            have hl':((len:Int) == 0) = false:=by simp;omega
            clear hl
            go_wp2_with fail
            go_ret
            rw [hr.out]
            exact ⟨rfl,below_alloc _ _⟩
        · have hr:Aside (rootE 2 0 nm.size g num den len = 2):=re2d hN hnl
          go_wp2_with fail
          go_ret
          rw [hr.out]
          exact ⟨rfl,below_alloc _ _⟩
      · have hr:Aside (rootE 2 v nm.size g num den len = 2):=re2e hN hv
        have hv':(v == 0) = false:=by simpa using hv
        go_wp2_with fail
        go_ret
        rw [hr.out]
        exact ⟨rfl,below_alloc _ _⟩
    have hk2':(k == 2) = false:=by simpa using hk2
    by_cases hk3:k = 3
    · subst hk3
      go_wp2_with fail
      all_goals go_ret
      all_goals first | (rw [re3a hN (by assumption) (by assumption) (by assumption)];exact ⟨rfl,below_alloc _ _⟩) | (rw [re3b hN (by assumption) (by assumption) (by assumption) (by assumption)];exact ⟨rfl,below_alloc _ _⟩) | (rw [re3c hN (by assumption) (by assumption) (by assumption) (by assumption)];exact ⟨rfl,below_alloc _ _⟩) | (rw [re3d hN (by assumption) (by assumption)];exact ⟨rfl,below_alloc _ _⟩) | (rw [re3e hN (by assumption)];exact ⟨rfl,below_alloc _ _⟩) | (rw [re3a (v:=0) hN rfl (by assumption) (by assumption)];exact ⟨rfl,below_alloc _ _⟩) | (rw [re3b (v:=0) hN rfl (by assumption) (by assumption) (by assumption)];exact ⟨rfl,below_alloc _ _⟩) | (rw [re3c (v:=0) hN rfl (by assumption) (by assumption) (by assumption)];exact ⟨rfl,below_alloc _ _⟩) | (rw [re3d (v:=0) hN rfl (by assumption)];exact ⟨rfl,below_alloc _ _⟩)
    have hk3':(k == 3) = false:=by simpa using hk3
    by_cases hk4:k = 4
    · subst hk4
      go_wp2_with fail
      all_goals go_ret
      all_goals first | (rw [re4a hN (by assumption) (by assumption) (by assumption)];exact ⟨rfl,below_alloc _ _⟩) | (rw [re4b hN (by assumption) (by assumption) (by assumption) (by assumption)];exact ⟨rfl,below_alloc _ _⟩) | (rw [re4c hN (by assumption) (by assumption) (by assumption) (by assumption)];exact ⟨rfl,below_alloc _ _⟩) | (rw [re4d hN (by assumption) (by assumption)];exact ⟨rfl,below_alloc _ _⟩) | (rw [re4e hN (by assumption)];exact ⟨rfl,below_alloc _ _⟩) | (rw [re4a (v:=0) hN rfl (by assumption) (by assumption)];exact ⟨rfl,below_alloc _ _⟩) | (rw [re4b (v:=0) hN rfl (by assumption) (by assumption) (by assumption)];exact ⟨rfl,below_alloc _ _⟩) | (rw [re4c (v:=0) hN rfl (by assumption) (by assumption) (by assumption)];exact ⟨rfl,below_alloc _ _⟩) | (rw [re4d (v:=0) hN rfl (by assumption)];exact ⟨rfl,below_alloc _ _⟩)
    have hk4':(k == 4) = false:=by simpa using hk4
    by_cases hk5:k = 5
    · subst hk5
      go_wp2_with fail
      all_goals go_ret
      all_goals first | (rw [re5a hN (by assumption) (by assumption) (by assumption) (by assumption)];exact ⟨rfl,below_alloc _ _⟩) | (rw [re5b hN (by assumption) (by assumption) (by assumption) (by assumption) (by assumption)];exact ⟨rfl,below_alloc _ _⟩) | (rw [re5c hN (by assumption) (by assumption) (by assumption) (by assumption) (by assumption)];exact ⟨rfl,below_alloc _ _⟩) | (rw [re5d hN (by assumption) (by assumption) (by assumption)];exact ⟨rfl,below_alloc _ _⟩) | (rw [re5e hN (by assumption) (by assumption)];exact ⟨rfl,below_alloc _ _⟩) | (rw [re5f hN (by assumption)];exact ⟨rfl,below_alloc _ _⟩) | (rw [re5a (v:=0) hN rfl (by assumption) (by assumption) (by assumption)];exact ⟨rfl,below_alloc _ _⟩) | (rw [re5b (v:=0) hN rfl (by assumption) (by assumption) (by assumption) (by assumption)];exact ⟨rfl,below_alloc _ _⟩) | (rw [re5c (v:=0) hN rfl (by assumption) (by assumption) (by assumption) (by assumption)];exact ⟨rfl,below_alloc _ _⟩) | (rw [re5d (v:=0) hN rfl (by assumption) (by assumption)];exact ⟨rfl,below_alloc _ _⟩) | (rw [re5e (v:=0) hN rfl (by assumption)];exact ⟨rfl,below_alloc _ _⟩)
    have hk5':(k == 5) = false:=by simpa using hk5
    go_wp2_with fail
    go_ret
    rw [show rootE k v nm.size g num den len = 2 from if_neg (by rintro (h | h | h | h | h);exact hk1 h.1;exact hk2 h.1;exact hk3 h.1;exact hk4 h.1;exact hk5 h.1)]
    exact ⟨rfl,below_alloc _ _⟩
end Go.Proofs.YtaloeffmigffaaaGreatDoor
end
section
namespace Go.Proofs.YtaloeffmigffaaaGreatDoor
open Go.RowKit Go.Big
mutual
noncomputable def Tm.errE:Tm → Int
  | .mk k v nm g num den args=>if rootE k v nm.size g num den args.length ≠ 0 then rootE k v nm.size g num den args.length else Tm.errL args
noncomputable def Tm.errL:List Tm → Int
  | []=>0
  | T :: r=>if Tm.errE T ≠ 0 then Tm.errE T else Tm.errL r
end
theorem errL_take_zero:∀ {L:List Tm} {i:Nat} {T:Tm},L[i]? = some T → Tm.errL (L.take i) = 0 → Tm.errE T = 0 → Tm.errL (L.take (i + 1)) = 0
  | [],_,_,h,_,_=>by simp at h
  | T0 :: r,0,T,h,_,h2=>by
    simp at h;subst h
    simp [Tm.errL,h2]
  | T0 :: r,i + 1,T,h,h1,h2=>by
    simp only [List.take_succ_cons,Tm.errL] at h1 ⊢
    by_cases h0:T0.errE = 0
    · rw [if_neg (by simp [h0])] at h1 ⊢
      exact errL_take_zero (by simpa using h) h1 h2
    · rw [if_pos h0] at h1;exact absurd h1 h0
theorem errL_first:∀ {L:List Tm} {i:Nat} {T:Tm},L[i]? = some T → Tm.errL (L.take i) = 0 → Tm.errE T ≠ 0 → Tm.errL L = Tm.errE T
  | [],_,_,h,_,_=>by simp at h
  | T0 :: r,0,T,h,_,h2=>by
    simp at h;subst h
    simp [Tm.errL,h2]
  | T0 :: r,i + 1,T,h,h1,h2=>by
    simp only [List.take_succ_cons,Tm.errL] at h1 ⊢
    by_cases h0:T0.errE = 0
    · rw [if_neg (by simp [h0])] at h1 ⊢
      exact errL_first (by simpa using h) h1 h2
    · rw [if_pos h0] at h1;exact absurd h1 h0
def NodesOk (T:Tm):Prop:=∀ (n:Nat) (w:World) (vs:List Value),TmV n w T vs → n ≤ w.heap.size →
    Calls Tryz.prog 22 #[.agg vs.toArray] w fun e w'=>e = .returned (.int .i64 T.errE) ∧ Below w.heap.size w w'
set_option maxRecDepth 100000 in
set_option maxHeartbeats 4000000 in
theorem nodes_step (k v:Int) (nm:ByteArray) (g:Bool) (num den:List Nat) (args:List Tm) (ih:∀ T' ∈ args,NodesOk T'):NodesOk (.mk k v nm g num den args):=by
  intro n w vs h hn
  simp only [TmV] at h
  obtain ⟨s1,s2,a,c,rfl,⟨⟨p1,q1,rfl,hA⟩,⟨p2,q2,rfl,hC⟩⟩,h2,hbig,hbA,hbC⟩:=h
  obtain ⟨E,hE⟩:∃ E,rootE k v nm.size g num den args.length = E:=⟨_,rfl⟩
  obtain ⟨F,hF⟩:∃ F,Tm.errE (.mk k v nm g num den args) = F:=⟨_,rfl⟩
  have hEF:Aside (F = if E ≠ 0 then E else Tm.errL args):=by
    show F = _
    rw [← hF,← hE];simp only [Tm.errE]
  rw [hF]
  obtain ⟨len,hl⟩:∃ len,args.length = len:=⟨_,rfl⟩
  obtain ⟨l1,hl1⟩:∃ l1,num.length = l1:=⟨_,rfl⟩
  obtain ⟨l2,hl2⟩:∃ l2,den.length = l2:=⟨_,rfl⟩
  rw [hl] at hbig hE ⊢
  rw [hl1] at hbA ⊢
  rw [hl2] at hbC ⊢
  show Calls Tryz.prog 22 #[.agg #[.int .i64 k,.int .i64 v,.string nm,.bool g,.slice p1 l1 q1,.slice p2 l2 q2,.slice a len c]] w _
  have hBw:=below_alloc w (Obj.cells #[.int .i64 k,.int .i64 v,.string nm,.bool g,.slice p1 l1 q1,.slice p2 l2 q2,.slice a len c] 27)
  have hq:=heap_alloc_new w (Obj.cells #[.int .i64 k,.int .i64 v,.string nm,.bool g,.slice p1 l1 q1,.slice p2 l2 q2,.slice a len c] 27)
  have hnd:=node_calls k v nm g p1 p2 a l1 l2 len q1 q2 c n num den hl1 hl2 hbA hbC hbig _ (Nat.le_trans hn hBw.size) (hA.below hBw hn) (hC.below hBw hn)
  rw [hE] at hnd
  have Al:Aside (args.length = len):=hl
  clear hE hl hl1 hl2 hA hC hF
  go_enter Tryz.func22,Tryz.ntmps22
  go_upto_region 2 with first | (go_at_call 54;(with_reducible refine hnd.mono ?_);rintro e w1 ⟨rfl,hb1⟩)
  have hB1:=hBw.trans (hb1.mono hBw.size)
  have hcs:=cells7 ((hb1.block w.heap.size (by simp)).trans hq)
  obtain ⟨y0,y1,y2,y3,y4,y5,y6⟩:=hcs
  clear hnd hq y0 y1 y2 y3 y4 y5
  by_cases hE0:E = 0
  · subst hE0
    have hFA:Aside (F = Tm.errL args):=by show F = _;rw [hEF.out];simp
    clear hEF
    go_wp2_with fail
    go_loopw [15] (fun s15 wr=>∃ i:Nat,s15 = .int .i64 i ∧ i ≤ len ∧ Aside (Tm.errL (args.take i) = 0) ∧ Below w.heap.size w wr) (fun s _=>len - (intOf s).toNat)
    case atStart=>exact ⟨0,rfl,Nat.zero_le _,by simp [Tm.errL,Aside],hB1⟩
    case round=>
      obtain ⟨i,rfl,hi,hex,hB⟩:=hrel
      by_cases hlt:i < len
      · obtain ⟨T',hT'⟩:∃ T',args[i]? = some T':=⟨args[i]'(by rw [Al.out];exact hlt),List.getElem?_eq_getElem _⟩
        obtain ⟨b,off,vs',rfl,hbn,hc,hv⟩:=h2.get hT'
        have hv2:=hv
        obtain ⟨G,hG⟩:∃ G,T'.errE = G:=⟨_,rfl⟩
        have hnx:Aside ((G = 0 → Tm.errL (args.take (i + 1)) = 0) ∧ (G ≠ 0 → F = G)):=⟨fun h=>errL_take_zero hT' hex.out (hG.trans h),fun h=>by rw [hFA.out,errL_first hT' hex.out (by rw [hG];exact h),hG]⟩
        have hmem:=List.mem_of_getElem? hT'
        obtain ⟨k',v',nm',g',num',den',args'⟩:=T'
        simp only [TmV] at hv
        obtain ⟨t1,t2,a',c',rfl,⟨⟨p1',q1',rfl,_⟩,⟨p2',q2',rfl,_⟩⟩,_⟩:=hv
        have hb2:∀ p:Addr,p.block < n → wr.cell? p = w.cell? p:=fun p hp=>(hB.mono hn).cell hp
        rw [Nat.zero_add] at hc
        have x0:=(hb2 ⟨b,off + i * 7 + 0,none⟩ hbn).trans (hc 0 _ rfl)
        have x1:=(hb2 ⟨b,off + i * 7 + 1,none⟩ hbn).trans (hc 1 _ rfl)
        have x2:=(hb2 ⟨b,off + i * 7 + 2,none⟩ hbn).trans (hc 2 _ rfl)
        have x3:=(hb2 ⟨b,off + i * 7 + 3,none⟩ hbn).trans (hc 3 _ rfl)
        have x4:=(hb2 ⟨b,off + i * 7 + 4,none⟩ hbn).trans (hc 4 _ rfl)
        have x5:=(hb2 ⟨b,off + i * 7 + 5,none⟩ hbn).trans (hc 5 _ rfl)
        have x6:=(hb2 ⟨b,off + i * 7 + 6,none⟩ hbn).trans (hc 6 _ rfl)
        rw [Nat.add_zero] at x0
        have hi1:(i:Int) < (len:Int):=by omega
        have hi3:(0:Int) ≤ (i:Int):=by omega
        have hw3:IntKind.i64.wrap ((i:Int) + 1) = (i:Int) + 1:=by rw [IntKind.wrap_i64];omega
        have hB2:Below w.heap.size w (wr.alloc (Obj.cells #[.int .i64 k',.int .i64 v',.string nm',.bool g',.slice p1' num'.length q1',.slice p2' den'.length q2',.slice a' args'.length c'] 27)):=hB.alloc hB.size _
        have d1:=ih _ hmem n (wr.alloc (Obj.cells #[.int .i64 k',.int .i64 v',.string nm',.bool g',.slice p1' num'.length q1',.slice p2' den'.length q2',.slice a' args'.length c'] 27)) _ (TmV.below hB2 hn _ _ hv2) (Nat.le_trans hn hB2.size)
        rw [hG] at d1
        replace d1:Calls Tryz.prog 22 #[.agg #[.int .i64 k',.int .i64 v',.string nm',.bool g',.slice p1' num'.length q1',.slice p2' den'.length q2',.slice a' args'.length c']] _ _:=d1
        have hia:Aside (i < len):=hlt
        generalize args'.length = len' at *
        generalize num'.length = ln1 at *
        generalize den'.length = ln2 at *
        clear h2 ih hc hv2 hT' hb2 hG hmem hex hlt
        by_cases hG0:G = 0
        · subst hG0
          have hnz:Aside (Tm.errL (args.take (i + 1)) = 0):=hnx.out.1 rfl
          clear hnx
          go_wp2_with first | (go_at_call 22;(with_reducible refine d1.mono ?_);rintro e w3 ⟨rfl,hb3⟩)
          exact ⟨⟨i + 1,by simp,by have:=hia.out;omega,hnz,hB2.trans (hb3.mono hB2.size)⟩,by have:=hia.out;simp [intOf];omega⟩
        · have hGB:(G == 0) = false:=by simpa using hG0
          have hFG:Aside (F = G):=hnx.out.2 hG0
          clear hG0 hnx
          go_wp2_with first | (go_at_call 22;(with_reducible refine d1.mono ?_);rintro e w3 ⟨rfl,hb3⟩)
          go_ret
          rw [hFG.out]
          exact ⟨rfl,hB2.trans (hb3.mono hB2.size)⟩
      · obtain rfl:i = len:=by omega
        have hFz:Aside (F = 0):=by show F = 0;rw [hFA.out,← hex.out,← Al.out,List.take_length]
        clear h2 ih hex
        go_wp2_with fail
        go_ret
        rw [hFz.out]
        exact ⟨rfl,hB⟩
  · have hEB:(E == 0) = false:=by simpa using hE0
    have hFE:Aside (F = E):=by show F = E;rw [hEF.out,if_pos hE0]
    clear hE0 hEF
    go_wp2_with fail
    go_ret
    rw [hFE.out]
    exact ⟨rfl,hB1⟩
theorem nodes_ok:∀ T:Tm,NodesOk T
  | .mk k v nm g num den args=>nodes_step k v nm g num den args fun T' hT'=>nodes_ok T'
termination_by T=>SizeOf.sizeOf T
decreasing_by
  simp_wf
  have:=List.sizeOf_lt_of_mem hT'
  omega
end Go.Proofs.YtaloeffmigffaaaGreatDoor
end
section
namespace Go.Proofs.YtaloeffmigffaaaGreatDoor
theorem rootE_fine {k v:Int} {sz:Nat} {g:Bool} {num den:List Nat} {len:Nat} (h:rootE k v sz g num den len = 0):RootFine k v sz g num den len ∧ sz ≤ nameMost k:=by
  unfold rootE at h
  split at h
  · rename_i h1
    refine ⟨h1,?_⟩
    split at h
    · cases h
    · omega
  · cases h
theorem noNum_true {g:Bool} {num den:List Nat} (h:noNum g num.length den.length = true):g = false ∧ num = [] ∧ den = []:=by
  unfold noNum at h
  simp only [Bool.and_eq_true,Bool.not_eq_true',decide_eq_true_eq] at h
  exact ⟨h.1,List.length_eq_zero_iff.1 (by omega),List.length_eq_zero_iff.1 (by omega)⟩
theorem errE_split {k v:Int} {nm:ByteArray} {g:Bool} {num den:List Nat} {args:List Tm} (h:Tm.errE (.mk k v nm g num den args) = 0):rootE k v nm.size g num den args.length = 0 ∧ Tm.errL args = 0:=by
  simp only [Tm.errE] at h
  by_cases h0:rootE k v nm.size g num den args.length = 0
  · rw [if_neg (by simp [h0])] at h;exact ⟨h0,h⟩
  · rw [if_pos h0] at h;exact absurd h h0
theorem errL_split {T:Tm} {r:List Tm} (h:Tm.errL (T :: r) = 0):T.errE = 0 ∧ Tm.errL r = 0:=by
  simp only [Tm.errL] at h
  by_cases h0:T.errE = 0
  · rw [if_neg (by simp [h0])] at h;exact ⟨h0,h⟩
  · rw [if_pos h0] at h;exact absurd h h0
mutual
theorem errE_vd:∀ T:Tm,T.errE = 0 → T.vd
  | .mk k v nm g num den args,h=>by
    obtain ⟨h1,h2⟩:=errE_split h
    have h3:=(rootE_fine h1).1
    simp only [Tm.vd]
    refine ⟨fun hk=>List.length_eq_zero_iff.1 ?_,fun hk=>?_,fun hk=>?_,errL_vd args h2⟩
    · unfold RootFine at h3;omega
    · unfold RootFine at h3;omega
    · unfold RootFine at h3
      rcases h3 with h | h | h | h | h
      · exact noNum_true h.2.2.2.2.1
      · exact absurd h.1 hk
      · exact noNum_true h.2.2.1
      · exact noNum_true h.2.2.1
      · exact noNum_true h.2.2.1
theorem errL_vd:∀ L:List Tm,Tm.errL L = 0 → Tm.vdL L
  | [],_=>by simp only [Tm.vdL]
  | T :: r,h=>by
    obtain ⟨h1,h2⟩:=errL_split h
    simp only [Tm.vdL]
    exact ⟨errE_vd T h1,errL_vd r h2⟩
end
theorem rootE_var {n:Nat} (h:n ≤ 1073741824):rootE 1 n 0 false [] [] 0 = 0:=by
  unfold rootE
  rw [if_pos (.inl ⟨rfl,by omega,by omega,rfl,rfl,rfl⟩),if_neg (by simp)]
theorem gphiL_length {ix:Tm → Tm → Nat}:∀ (A B:List Tm),A.length = B.length → (gphiL ix A B).length = A.length
  | [],[],_=>by simp [gphiL]
  | a :: A,b :: B,h=>by simp [gphiL,gphiL_length A B (by simpa using h)]
  | [],b :: B,h=>by simp at h
  | a :: A,[],h=>by simp at h
mutual
theorem gphi_errE {ix:Tm → Tm → Nat}:∀ (a b:Tm),a.errE = 0 → b.errE = 0 → (∀ p ∈ gpairs a b,ix p.1 p.2 ≤ 1073741824) → (gphi ix a b).errE = 0
  | .mk k v nm g num den args,.mk k' v' nm' g' num' den' args',ha,hb,H=>by
    rw [gphi]
    rw [gpairs] at H
    split
    · exact hb
    · rename_i h
      rw [if_neg h] at H
      by_cases h5:k = 5 ∧ k' = 5 ∧ nm = nm' ∧ args.length = args'.length
      · simp only [if_pos h5] at H ⊢
        obtain ⟨rfl,rfl,rfl,hl⟩:=h5
        obtain ⟨a1,a2⟩:=errE_split ha
        obtain ⟨b1,b2⟩:=errE_split hb
        have hv:=errE_vd _ ha
        simp only [Tm.vd] at hv
        obtain rfl:v = 0:=hv.2.1 (by decide)
        obtain ⟨rfl,rfl,rfl⟩:=hv.2.2.1 (by decide)
        have ih:=gphiL_errL args args' a2 b2 hl H
        simp only [Tm.errE,gphiL_length args args' hl,a1,ih]
        simp
      · simp only [if_neg h5] at H ⊢
        have:=H (_,_) (List.mem_singleton.2 rfl)
        unfold varT
        simp only [Tm.errE,List.length_nil]
        rw [show (⟨#[]⟩:ByteArray).size = 0 from rfl,rootE_var this]
        simp [Tm.errL]
theorem gphiL_errL {ix:Tm → Tm → Nat}:∀ (A B:List Tm),Tm.errL A = 0 → Tm.errL B = 0 → A.length = B.length → (∀ p ∈ gpairsL A B,ix p.1 p.2 ≤ 1073741824) → Tm.errL (gphiL ix A B) = 0
  | [],[],_,_,_,_=>by simp [gphiL,Tm.errL]
  | a :: A,b :: B,ha,hb,hl,H=>by
    obtain ⟨a1,a2⟩:=errL_split ha
    obtain ⟨b1,b2⟩:=errL_split hb
    simp only [gpairsL] at H
    have h1:=gphi_errE a b a1 b1 fun p hp=>H p (List.mem_append_left _ hp)
    have h2:=gphiL_errL A B a2 b2 (by simpa using hl) fun p hp=>H p (List.mem_append_right _ hp)
    simp [gphiL,Tm.errL,h1,h2]
  | [],b :: B,_,_,hl,_=>by simp at hl
  | a :: A,[],_,_,hl,_=>by simp at hl
end
end Go.Proofs.YtaloeffmigffaaaGreatDoor
end
