/-
  A part of the proof of the card of WorkGeneralizationIsLeast (second form): lemmas that the text Card uses. No condition of its own.
-/
import Derived.Test.YtaloeffmigffaaaGreatDoorRefA
set_option linter.all false
set_option linter.unusedVariables false
set_option linter.unusedSimpArgs false
section
namespace Go.Proofs.YtaloeffmigffaaaGreatDoor
open Go.RowKit Go.Big
theorem IRow.own {w:World} {b n base:Nat} {cur:List Nat} (h:IRow w b cur) (hb:base ≤ b) (hl:cur.length ≤ 1152921504606846976) (hn:cur.length = n:=by simp):IntRow base w (.slice (some ⟨b,0,none⟩) n n) cur:=by
  subst hn
  exact ⟨by simp,.inr ⟨b,cur.length,(cur.map iv).toArray,rfl,hb,h,Nat.le_refl _,by unfold maxLen;omega,by simp,by rw [List.take_of_length_le (by simp)]⟩⟩
theorem i64_or_shl (x c f:Nat) (hx:x < 65536) (hf:f < 16) (hc:c < 2 ^ f):bits BinOp.or IntKind.i64 ((x * 2 ^ f:Nat):Int) (c:Int) = ((x * 2 ^ f + c:Nat):Int):=by
  have h0:2 ^ f ≤ 2 ^ 15:=Nat.pow_le_pow_right (by decide) (by omega)
  have h9:(2:Nat) ^ 15 = 32768:=by decide
  have h8:x * 2 ^ f ≤ 65535 * 32768:=Nat.mul_le_mul (by omega) (by omega)
  have e:x <<< f + c = x <<< f ||| c:=Nat.shiftLeft_add_eq_or_of_lt hc x
  rw [Nat.shiftLeft_eq] at e
  generalize x * 2 ^ f = X at *
  have h1:(BitVec.ofInt 64 (X:Int)).toNat = X:=by rw [BitVec.ofInt_natCast,BitVec.toNat_ofNat];omega
  have h2:(BitVec.ofInt 64 (c:Int)).toNat = c:=by rw [BitVec.ofInt_natCast,BitVec.toNat_ofNat];omega
  show IntKind.i64.wrap (((BitVec.ofInt 64 (X:Int)) ||| BitVec.ofInt 64 (c:Int)).toNat:Int) = _
  rw [BitVec.toNat_or,h1,h2,← e,IntKind.wrap_i64]
  omega
set_option maxRecDepth 100000 in
set_option maxHeartbeats 1000000 in
theorem rshl_calls (r1:Value) (k n1 v M:Nat) (hv:v < 65536 ^ M) (hM:M ≤ 1048576) (hk:k ≤ 16777216) (w:World) (hn1:n1 ≤ w.heap.size) (h1:NatR n1 w r1 v) :
    Calls Tryz.prog 222 #[r1,.int .i64 k] w fun e w'=>∃ r,e = .returned r ∧ NatR w'.heap.size w' r (v * 2 ^ k) ∧ Below w.heap.size w w':=by
  obtain ⟨a1,A,cap1,rfl,hlc,hcm,hat,hz,rfl⟩:=h1
  have hlen:A.length ≤ 1048576:=Nat.le_trans (hz.len_of hv) hM
  obtain ⟨len1,hl1⟩:∃ len1,A.length = len1:=⟨_,rfl⟩
  rw [hl1] at hlc hlen ⊢
  clear hv
  by_cases hl0:len1 = 0
  · subst hl0
    have hAn:A = []:=List.eq_nil_of_length_eq_zero hl1
    subst hAn
    go_enter Tryz.func222,Tryz.ntmps222
    go_wp2
    go_ret
    exact ⟨_,rfl,⟨none,[],0,rfl,Nat.le_refl _,Nat.zero_le _,⟨by simp,fun h=>absurd rfl h⟩,hz,by simp [val]⟩,Below.refl _ _⟩
  · obtain ⟨e,he⟩:∃ e,k / 16 = e:=⟨_,rfl⟩
    obtain ⟨f,hf⟩:∃ f,k % 16 = f:=⟨_,rfl⟩
    have he1:(k:Int) / 16 = (e:Int):=by omega
    have hf1:(k:Int) % 16 = (f:Int):=by omega
    have hne:((len1:Int) == 0) = false:=by simp;omega
    have hmk:=run_make_row' (P:=Tryz.prog) 177 3 (.int .i64 0) 8 Tryz.underlying177 inf3 rfl .i64 .i64 e (by omega) (by omega)
    have hA:Aside (A.length = len1 ∧ k / 16 = e ∧ k % 16 = f):=⟨hl1,he,hf⟩
    clear he hf
    go_enter Tryz.func222,Tryz.ntmps222
    go_wp2
    go_loopw [5,6,18] (fun s5 s6 s18 wr=>∃ (i c:Nat) (D:List Nat),s18 = .int .i64 i ∧ s6 = .int .i64 c ∧ i ≤ len1 ∧ Shls 65536 f A D i c ∧ IntRow w.heap.size wr s5 (List.replicate e 0 ++ D) ∧ Below w.heap.size w wr) (fun _ _ s _=>len1 - (intOf s).toNat)
    case atStart=>exact ⟨0,0,[],rfl,rfl,Nat.zero_le _,Shls.start _ _ _,by rw [List.append_nil];exact (IRow.made w e).own (Nat.le_refl _) (by simp;omega),below_alloc _ _⟩
    case round=>
      obtain ⟨i,c,D,rfl,rfl,hi,hS,hR,hB⟩:=hrel
      by_cases hlt:i < len1
      · have hx:=dg_get (L:=A) (i:=i) (by omega)
        obtain ⟨b1,o1,rfl,hbn,hxl,hc⟩:=(hat.below hB hn1).get hx
        have hst:=fun s (hs:s = dg A i * 2 ^ f + c)=>hS.step (by decide) hxl hs
        have hcl:=hS.car
        have hDl:=hS.len
        have hfl:f < 16:=by have:=hA.out.2.2;omega
        have hor:=i64_or_shl (dg A i) c f hxl hfl hcl
        have h0:2 ^ f ≤ 32768:=Nat.le_trans (Nat.pow_le_pow_right (n:=2) (by decide) (show f ≤ 15 by omega)) (by decide)
        have h8:dg A i * 2 ^ f ≤ 2147450880:=Nat.le_trans (Nat.mul_le_mul (show dg A i ≤ 65535 by omega) h0) (by decide)
        have hcast:(dg A i:Int) * 2 ^ f = ((dg A i * 2 ^ f:Nat):Int):=by simp
        have hst2:=hst _ rfl
        obtain ⟨X,hX⟩:∃ X,dg A i * 2 ^ f = X:=⟨_,rfl⟩
        rw [hX] at hor h8 hcast hst2
        have hw0:wrap64 ((dg A i:Int) * 2 ^ f) = (X:Int):=by rw [hcast];unfold wrap64;clear hcast hor hst2 hst hX h0 hcl;omega
        obtain ⟨s,hs⟩:∃ s,X + c = s:=⟨_,rfl⟩
        rw [hs] at hor hst2
        have hsl:s < 4294967296:=by rw [← hs];exact Nat.lt_of_lt_of_le (Nat.add_lt_add_of_le_of_lt h8 (Nat.lt_of_lt_of_le hcl h0)) (by decide)
        obtain ⟨p,hp⟩:∃ p,s % 65536 = p:=⟨_,rfl⟩
        obtain ⟨q,hq⟩:∃ q,s / 65536 = q:=⟨_,rfl⟩
        rw [hp,hq] at hst2
        have hp1:Int.tmod (s:Int) 65536 = (p:Int):=by rw [← hp];exact (Int.ofNat_tmod s 65536).symm
        have hq1:(s:Int) / 65536 = (q:Int):=by omega
        have hq2:Int.tdiv (s:Int) 65536 = (q:Int):=by rw [← hq];exact (Int.ofNat_tdiv s 65536).symm
        clear hst hcast hX h0 h8 hs hp hq hx hcl hfl
        generalize dg A i = x at *
        have hi1:(i:Int) < (len1:Int):=by omega
        have hi3:(0:Int) ≤ (i:Int):=by omega
        have hw3:IntKind.i64.wrap ((i:Int) + 1) = (i:Int) + 1:=by rw [IntKind.wrap_i64];omega
        have ho:IntRow w.heap.size (wr.alloc (Obj.cells #[iv p] 3)) u5 (List.replicate e 0 ++ D):=hR.below (below_alloc _ _) (Nat.le_refl _)
        have hnw:=new_cells wr [iv p] 3 (0,0)
        have hsz:=hB.size
        have hel:e ≤ 1048576:=by have:=hA.out.2.1;omega
        have hap:(List.replicate e 0 ++ D).length + 1 ≤ 17592186044416:=by rw [List.length_append,List.length_replicate];omega
        have hba:w.heap.size ≤ (wr.alloc (Obj.cells #[iv p] 3)).heap.size:=by simp;omega
        have hBa:Below w.heap.size w (wr.alloc (Obj.cells #[iv p] 3)):=hB.alloc hsz _
        clear hDl hS
        go_wp2_with (at_builtin;refine wpList_push _ rfl _ _ rfl w.heap.size _ (List.replicate e 0 ++ D) [p] 1 rfl rfl wr.heap.size 1 rfl hnw ho hap hba ?_;intro v' w3 hown' hgrow3)
        go_roundw
        case rel=>exact ⟨i + 1,q,D ++ [p],by simp,by simp,by omega,hst2,by rw [← List.append_assoc];exact hown',hBa.trans hgrow3⟩
        case measure=>simp [intOf];omega
      · obtain rfl:i = len1:=by omega
        have hfl:f < 16:=by have:=hA.out.2.2;omega
        have h0:2 ^ f ≤ 32768:=Nat.le_trans (Nat.pow_le_pow_right (n:=2) (by decide) (show f ≤ 15 by omega)) (by decide)
        have hfin:=Shls.done (A:=A) (c:=c) (D:=D) (r:=f) (B:=65536) (by rw [hA.out.1];exact hS) e (Nat.le_trans h0 (by decide))
        have hDl:=hS.len
        have hel:e ≤ 1048576:=by have:=hA.out.2.1;omega
        have hLl:(List.replicate e 0 ++ D).length = e + i:=by rw [List.length_append,List.length_replicate,hDl]
        have hpow:2 ^ f * 65536 ^ e = 2 ^ k:=by
          have:k = f + 16 * e:=by have:=hA.out;omega
          rw [this,Nat.pow_add,Nat.pow_mul]
        rw [Nat.mul_assoc,hpow] at hfin
        generalize List.replicate e 0 ++ D = E at *
        obtain ⟨hfv,hfd⟩:=hfin
        have ho:IntRow w.heap.size (wr.alloc (Obj.cells #[iv c] 3)) u5 E:=hR.below (below_alloc _ _) (Nat.le_refl _)
        have hnw:=new_cells wr [iv c] 3 (0,0)
        have hsz:=hB.size
        have hap:E.length + 1 ≤ 17592186044416:=by omega
        have hba:w.heap.size ≤ (wr.alloc (Obj.cells #[iv c] 3)).heap.size:=by simp;omega
        have hBa:Below w.heap.size w (wr.alloc (Obj.cells #[iv c] 3)):=hB.alloc hsz _
        have hfin:Aside (val 65536 (E ++ [c]) = val 65536 A * 2 ^ k):=hfv
        have hEl:Aside (E.length = e + i):=hLl
        clear hfv hLl hDl h0 hpow hS hne hl1
        go_wp2_with (at_builtin;refine wpList_push _ rfl _ _ rfl w.heap.size _ E [c] 1 rfl rfl wr.heap.size 1 rfl hnw ho hap hba ?_;intro v' w3 hown' hgrow3)
        obtain ⟨a,cp,rfl,hDc,hcm2,hat2⟩:=hown'.at hfd
        have hBb:=hBa.trans hgrow3
        obtain ⟨m,hm⟩:∃ m,(E ++ [c]).length = m:=⟨_,rfl⟩
        rw [hm] at hDc ⊢
        have hml:m = e + i + 1:=by rw [← hm,List.length_append,hEl.out];rfl
        have htr:=rtrim_calls a m cp w3.heap.size (E ++ [c]) hm (by omega) hDc w3 (Nat.le_refl _) hat2
        have hM2:Aside ((E ++ [c]).length = m):=hm
        clear hm hml
        go_wp2_with (go_at_call 217;with_reducible refine htr.mono ?_;rintro e w' ⟨k',rfl,hT,hb2⟩)
        go_ret
        exact ⟨_,rfl,NatR.of_trim hT (by have:=hT.1;have:=hM2.out;omega) hcm2 ((hat2.below hb2 (Nat.le_refl _)).up hb2.size) hfin.out,hBb.trans (hb2.mono hBb.size)⟩
end Go.Proofs.YtaloeffmigffaaaGreatDoor
end
section
namespace Go.Proofs.YtaloeffmigffaaaGreatDoor
open Go.RowKit Go.Big
def cellN (w:World) (b k:Nat):Nat:=match w.cell? ⟨b,k,none⟩ with
  | some (.int _ q)=>q.toNat
  | _=>0
def natAt (w:World):Value → Nat
  | .slice (some ⟨b,off,none⟩) n _=>val 65536 ((List.range n).map fun j=>cellN w b (off + j))
  | _=>0
theorem NatR.natAt {n:Nat} {w:World} {r:Value} {v:Nat} (h:NatR n w r v):natAt w r = v:=by
  obtain ⟨a,L,c,rfl,h2,h3,h4,h5,rfl⟩:=h
  by_cases hne:L = []
  · subst hne
    rcases a with _ | ⟨b,off,_ | p⟩ <;> simp [YtaloeffmigffaaaGreatDoor.natAt,Go.Big.val]
  · obtain ⟨b,off,rfl,hb,hc⟩:=h4.2 hne
    show val 65536 _ = _
    congr 1
    apply List.ext_getElem?
    intro j
    by_cases hj:j < L.length
    · rw [List.getElem?_map,List.getElem?_range hj]
      have hx:=List.getElem?_eq_getElem hj
      have:=hc j _ hx
      rw [hx]
      simp [cellN,this]
    · rw [List.getElem?_eq_none (by simp;omega),List.getElem?_eq_none (by omega)]
theorem NatR.zero_iff {n:Nat} {w:World} {a:Option Addr} {len c:Nat} {v:Nat} (h:NatR n w (.slice a len c) v):v = 0 ↔ len = 0:=by
  obtain ⟨a',L,c',e,h2,h3,h4,h5,rfl⟩:=h
  cases e
  rw [h5.nil_iff (by decide)]
  exact List.length_eq_zero_iff.symm
theorem NatR.slice {n:Nat} {w:World} {r:Value} {v:Nat} (h:NatR n w r v):∃ a len c,r = .slice a len c:=by
  obtain ⟨a,L,c,rfl,_⟩:=h
  exact ⟨_,_,_,rfl⟩
theorem cap_lt {M len:Nat} (h:len ≤ M) (hM:M ≤ 1048576):len < 4611686018427387904:=by omega
theorem rbitN (r:Value) (n v:Nat) (w:World) (h:NatR n w r v):Calls Tryz.prog 219 #[r,.int .i64 0] w fun e w'=>e = .returned (.int .i64 ((v % 2:Nat):Int)) ∧ w' = w:=by
  obtain ⟨a,L,c,rfl,h2,h3,h4,h5,rfl⟩:=h
  rw [val_odd (B:=65536) (H:=32768) rfl]
  exact rbit_calls a L.length c n L rfl w h4
theorem rcmpN (r1 r2:Value) (n1 n2 x y M:Nat) (w:World) (h1:NatR n1 w r1 x) (h2:NatR n2 w r2 y) (hx:x < 65536 ^ M) (hy:y < 65536 ^ M) (hM:M ≤ 1048576):Calls Tryz.prog 174 #[r1,r2] w fun e w'=>e = .returned (.int .i64 (cmpV x y)) ∧ w' = w:=by
  obtain ⟨a,L,c,rfl,h2',h3,h4,h5,rfl⟩:=h1
  obtain ⟨a',L',c',rfl,k2,k3,k4,k5,rfl⟩:=h2
  exact rcmp_calls a a' L.length L'.length c c' n1 n2 L L' rfl rfl (cap_lt (h5.len_of hx) hM) (cap_lt (k5.len_of hy) hM) w h4 k4
theorem rsubN (r1 r2:Value) (n1 n2 x y M:Nat) (w:World) (hn1:n1 ≤ w.heap.size) (hn2:n2 ≤ w.heap.size) (h1:NatR n1 w r1 x) (h2:NatR n2 w r2 y) (hx:x < 65536 ^ M) (hM:M ≤ 1048576) (hyx:y ≤ x):Calls Tryz.prog 221 #[r1,r2] w fun e w'=>∃ r,e = .returned r ∧ NatR w'.heap.size w' r (x - y) ∧ Below w.heap.size w w':=by
  obtain ⟨a,L,c,rfl,h2',h3,h4,h5,rfl⟩:=h1
  obtain ⟨a',L',c',rfl,k2,k3,k4,k5,rfl⟩:=h2
  refine (rsub_calls a a' L.length L'.length c c' n1 n2 L L' rfl rfl (Nat.le_trans (h5.len_of hx) hM) w hn1 hn2 h4 k4).mono ?_
  rintro e w' ⟨D,b,a2,k,c2,hS,hT,hkc,hcm,rfl,hat,hb⟩
  have hle:L'.length ≤ L.length:=k5.len_le (B:=65536) (by decide) h4.1 hyx
  exact ⟨_,rfl,NatR.of_trim hT hkc hcm hat (hS.done hle hyx),hb⟩
structure Twos (x y t a b:Nat):Prop where
  ha:x = 2 ^ t * a
  hb:y = 2 ^ t * b
  pa:0 < a
  pb:0 < b
theorem Twos.start {x y:Nat} (hx:0 < x) (hy:0 < y):Twos x y 0 x y:=⟨by simp,by simp,hx,hy⟩
theorem Twos.step {x y t a b:Nat} (h:Twos x y t a b) (h0:a % 2 = 0) (h1:b % 2 = 0):Twos x y (t + 1) (a / 2) (b / 2):=by
  have e1:a = 2 * (a / 2):=by omega
  have e2:b = 2 * (b / 2):=by omega
  have:=h.pa
  have:=h.pb
  refine ⟨?_,?_,by omega,by omega⟩
  · rw [h.ha,Nat.pow_succ,Nat.mul_assoc,← e1]
  · rw [h.hb,Nat.pow_succ,Nat.mul_assoc,← e2]
theorem Twos.lt {x y t a b M:Nat} (h:Twos x y t a b) (hx:x < 65536 ^ M):t < 16 * M:=by
  have h1:2 ^ t ≤ x:=by
    rw [h.ha]
    exact Nat.le_mul_of_pos_right _ h.pa
  have h2:(65536:Nat) ^ M = 2 ^ (16 * M):=by rw [Nat.pow_mul]
  rw [h2] at hx
  exact (Nat.pow_lt_pow_iff_right (by decide)).1 (Nat.lt_of_le_of_lt h1 hx)
theorem Twos.gcd {x y t a b:Nat} (h:Twos x y t a b):Nat.gcd x y = Nat.gcd a b * 2 ^ t:=by
  rw [h.ha,h.hb,Nat.gcd_mul_left,Nat.mul_comm]
theorem Twos.le {x y t a b:Nat} (h:Twos x y t a b):a ≤ x ∧ b ≤ y:=by
  have h0:=Nat.two_pow_pos t
  exact ⟨h.ha ▸ Nat.le_mul_of_pos_left _ h0,h.hb ▸ Nat.le_mul_of_pos_left _ h0⟩
structure Odd (g a b:Nat):Prop where
  g:Nat.gcd a b = g
  pb:0 < b
  odd:a % 2 = 1 ∨ b % 2 = 1
theorem Odd.left {g a b:Nat} (h:Odd g a b) (pa:0 < a) (h0:a % 2 = 0):Odd g (a / 2) b:=by
  have hb:b % 2 = 1:=h.odd.resolve_left (by omega)
  exact ⟨(gcd_half_left h0 hb).trans h.g,h.pb,.inr hb⟩
theorem Odd.right {g a b:Nat} (h:Odd g a b) (h0:b % 2 = 0):Odd g a (b / 2):=by
  have ha:a % 2 = 1:=h.odd.resolve_right (by omega)
  have:=h.pb
  exact ⟨by rw [Nat.gcd_comm,gcd_half_left h0 ha,Nat.gcd_comm];exact h.g,by omega,.inl ha⟩
theorem Odd.sub {g a b:Nat} (h:Odd g a b) (hb:b % 2 = 1) (hle:b ≤ a):Odd g (a - b) b:=⟨by rw [gcd_sub hle];exact h.g,h.pb,.inr hb⟩
theorem Odd.swap {g a b:Nat} (h:Odd g a b) (ha:a % 2 = 1) (hb:b % 2 = 1) (hlt:a < b):Odd g (b - a) a:=by
  refine ⟨?_,by omega,.inr ha⟩
  rw [gcd_sub (Nat.le_of_lt hlt),Nat.gcd_comm];exact h.g
theorem Odd.done {g a b:Nat} (h:Odd g a b) (h0:a = 0):b = g:=by
  have:=h.g
  rw [h0,Nat.gcd_zero_left] at this
  exact this
end Go.Proofs.YtaloeffmigffaaaGreatDoor
end
section
namespace Go.Proofs.YtaloeffmigffaaaGreatDoor
open Go.RowKit Go.Big
theorem rhalfN (r:Value) (n v P M:Nat) (hP:P = 65536 ^ M) (hM:M ≤ 1048576) (hv:v < P) (w:World) (hn:n ≤ w.heap.size) (h:NatR n w r v) :
    Calls Tryz.prog 220 #[r] w fun e w'=>∃ r,e = .returned r ∧ NatR w'.heap.size w' r (v / 2) ∧ Below w.heap.size w w':=rhalf_calls r n v M (hP ▸ hv) hM w hn h
set_option maxRecDepth 100000 in
set_option maxHeartbeats 2000000 in
theorem rgcd_calls (r1 r2:Value) (n1 n2 x y P M:Nat) (hP:P = 65536 ^ M) (hM:M ≤ 1048576) (hx:x < P) (hy:y < P) (w:World) (hn1:n1 ≤ w.heap.size) (hn2:n2 ≤ w.heap.size) (h1:NatR n1 w r1 x) (h2:NatR n2 w r2 y) :
    Calls Tryz.prog 175 #[r1,r2] w fun e w'=>∃ r,e = .returned r ∧ NatR w'.heap.size w' r (Nat.gcd x y) ∧ Below w.heap.size w w':=by
  obtain ⟨a1,len1,c1,rfl⟩:=h1.slice
  obtain ⟨a2,len2,c2,rfl⟩:=h2.slice
  have z1:=h1.zero_iff
  have z2:=h2.zero_iff
  by_cases hx0:x = 0
  · obtain rfl:len1 = 0:=z1.1 hx0
    subst hx0
    have hr:=(h2.up hn2)
    rw [Nat.gcd_zero_left]
    clear h1 h2 z1 z2
    go_enter Tryz.func175,Tryz.ntmps175
    go_wp2
    go_ret
    exact ⟨_,rfl,hr,Below.refl _ _⟩
  by_cases hy0:y = 0
  · obtain rfl:len2 = 0:=z2.1 hy0
    subst hy0
    have hr:=(h1.up hn1)
    have hne:((len1:Int) == 0) = false:=by have:len1 ≠ 0:=fun e=>hx0 (z1.2 e);simp;omega
    rw [Nat.gcd_zero_right]
    clear h1 h2 z1 z2
    go_enter Tryz.func175,Tryz.ntmps175
    go_wp2
    go_ret
    exact ⟨_,rfl,hr,Below.refl _ _⟩
  have hne1:((len1:Int) == 0) = false:=by have:len1 ≠ 0:=fun e=>hx0 (z1.2 e);simp;omega
  have hne2:((len2:Int) == 0) = false:=by have:len2 ≠ 0:=fun e=>hy0 (z2.2 e);simp;omega
  have i1:=h1.up hn1
  have i2:=h2.up hn2
  clear h1 h2 z1 z2
  go_enter Tryz.func175,Tryz.ntmps175
  go_upto_block 0 with fail
  go_cut [0,1,5] from 15 to 28 (fun s0 s1 s5 wc=>∃ a b t:Nat,NatR wc.heap.size wc s0 a ∧ NatR wc.heap.size wc s1 b ∧ s5 = .int .i64 t ∧ Twos x y t a b ∧ (a % 2 = 1 ∨ b % 2 = 1) ∧ Below w.heap.size w wc)
  case first=>
    go_wp2_with fail
    go_loopw [0,1,5] (fun s0 s1 s5 wc=>∃ a b t:Nat,NatR wc.heap.size wc s0 a ∧ NatR wc.heap.size wc s1 b ∧ s5 = .int .i64 t ∧ Twos x y t a b ∧ Below w.heap.size w wc) (fun _ _ s _=>16777216 - (intOf s).toNat)
    case atStart=>exact ⟨x,y,0,i1,i2,rfl,Twos.start (by omega) (by omega),Below.refl _ _⟩
    case round=>
      obtain ⟨a,b,t,hA,hC,rfl,hT,hB⟩:=hrel
      have htl:t < 16777216:=by have:=hT.lt (hP ▸ hx);omega
      have d1:=rbitN _ _ a wr hA
      have d2:=rbitN _ _ b wr hC
      have hle:=hT.le
      by_cases ha:a % 2 = 0
      · by_cases hb:b % 2 = 0
        · have hT':=hT.step ha hb
          have k1:=rhalfN _ _ a P M hP hM (Nat.lt_of_le_of_lt hle.1 hx) wr (Nat.le_refl _) hA
          have k2:=fun w2 (hb2:Below wr.heap.size wr w2)=>rhalfN _ _ b P M hP hM (Nat.lt_of_le_of_lt hle.2 hy) w2 (Nat.le_refl _) ((hC.below hb2 (Nat.le_refl _)).up hb2.size)
          rw [ha] at d1
          rw [hb] at d2
          have hw3:IntKind.i64.wrap ((t:Int) + 1) = (t:Int) + 1:=by rw [IntKind.wrap_i64];omega
          clear ha hb hT hle hA hC
          go_wp2_with first | (go_at_call 219;with_reducible refine d1.mono ?_;rintro e w' ⟨rfl,rfl⟩) | (go_at_call 219;with_reducible refine d2.mono ?_;rintro e w' ⟨rfl,rfl⟩) | (go_at_call 220;with_reducible refine k1.mono ?_;rintro e w2 ⟨ra,rfl,hA2,hb2⟩) | (go_at_call 220;with_reducible refine (k2 _ (by assumption)).mono ?_;rintro e w3 ⟨rb,rfl,hC2,hb3⟩)
          go_roundw
          case rel=>exact ⟨a / 2,b / 2,t + 1,(hA2.below hb3 (Nat.le_refl _)).up hb3.size,hC2,by simp,hT',hB.trans ((hb2.trans (hb3.mono hb2.size)).mono hB.size)⟩
          case measure=>simp [intOf];omega
        · have hb1:b % 2 = 1:=by omega
          rw [ha] at d1
          rw [hb1] at d2
          have hAs:Aside (b % 2 = 1):=hb1
          clear ha hb hb1
          go_wp2_with first | (go_at_call 219;with_reducible refine d1.mono ?_;rintro e w' ⟨rfl,rfl⟩) | (go_at_call 219;with_reducible refine d2.mono ?_;rintro e w' ⟨rfl,rfl⟩)
          go_meet
          exact ⟨a,b,t,hA,hC,rfl,hT,.inr hAs.out,hB⟩
      · have ha1:a % 2 = 1:=by omega
        rw [ha1] at d1
        have hAs:Aside (a % 2 = 1):=ha1
        clear ha ha1
        go_wp2_with first | (go_at_call 219;with_reducible refine d1.mono ?_;rintro e w' ⟨rfl,rfl⟩) | (go_at_call 219;with_reducible refine d2.mono ?_;rintro e w' ⟨rfl,rfl⟩)
        go_meet
        exact ⟨a,b,t,hA,hC,rfl,hT,.inl hAs.out,hB⟩
  case rest=>
    obtain ⟨a0,b0,t,hA0,hC0,rfl,hT,hod,hB0⟩:=hcut
    have hle0:=hT.le
    have htl:t ≤ 16777216:=by have:=hT.lt (hP ▸ hx);omega
    have hgg:=hT.gcd
    obtain ⟨g,hg⟩:∃ g,Nat.gcd a0 b0 = g:=⟨_,rfl⟩
    have hO0:Odd g a0 b0:=⟨hg,hT.pb,hod⟩
    have hgP:g < P:=Nat.lt_of_le_of_lt (Nat.le_trans (hg ▸ Nat.gcd_le_right a0 hT.pb) hle0.2) hy
    rw [hg] at hgg
    have hGG:Aside (Nat.gcd x y = g * 2 ^ t):=hgg
    have ha0:a0 < P:=Nat.lt_of_le_of_lt hle0.1 hx
    have hb0:b0 < P:=Nat.lt_of_le_of_lt hle0.2 hy
    clear hgg hg hT hod hle0
    go_wp2_with fail
    go_loopw [0,1] (fun s0 s1 wc=>∃ a b:Nat,NatR wc.heap.size wc s0 a ∧ NatR wc.heap.size wc s1 b ∧ Odd g a b ∧ a < P ∧ b < P ∧ Below w.heap.size w wc) (fun s0 s1 wc=>natAt wc s0 + natAt wc s1)
    case atStart=>exact ⟨a0,b0,hA0,hC0,hO0,ha0,hb0,hB0⟩
    case round=>
      clear hA0 hC0 hO0 ha0 hb0 hB0
      obtain ⟨a,b,hA,hC,hO,haP,hbP,hB⟩:=hrel
      have m0:=hA.natAt
      have m1:=hC.natAt
      obtain ⟨aa,la,ca,rfl⟩:=hA.slice
      have hz:=hA.zero_iff
      by_cases ha0:a = 0
      · obtain rfl:la = 0:=hz.1 ha0
        have hbg:=hO.done ha0
        subst hbg
        have hs:=rshl_calls _ t _ b M (hP ▸ hbP) hM htl wr (Nat.le_refl _) hC
        clear hz m0 m1
        go_wp2_with (go_at_call 222;with_reducible refine hs.mono ?_;rintro e w2 ⟨r,rfl,hR,hb2⟩)
        go_ret
        exact ⟨_,rfl,by rw [hGG.out];exact hR,hB.trans (hb2.mono hB.size)⟩
      · have hla':0 < la:=by have:la ≠ 0:=fun e=>ha0 (hz.2 e);omega
        have hla:(0:Int) < (la:Int):=by omega
        clear hz
        go_upto_block 4 with fail
        go_cut [0] from 32 to 36 (fun s0 wc=>∃ a':Nat,NatR wc.heap.size wc s0 a' ∧ a' % 2 = 1 ∧ a' ≤ a ∧ Odd g a' b ∧ Below wr.heap.size wr wc)
        case first=>
          go_wp2_with fail
          go_loopw [0] (fun s0 wc=>∃ a':Nat,NatR wc.heap.size wc s0 a' ∧ 0 < a' ∧ a' ≤ a ∧ Odd g a' b ∧ Below wr.heap.size wr wc) (fun s0 wc=>natAt wc s0)
          case atStart=>exact ⟨a,hA,by omega,Nat.le_refl _,hO,Below.refl _ _⟩
          case round=>
            clear hO
            obtain ⟨a',hA',hp',hle',hO',hB'⟩:=hrel
            have d1:=rbitN _ _ a' _ hA'
            have m2:=hA'.natAt
            by_cases hev:a' % 2 = 0
            · have k1:=rhalfN _ _ a' P M hP hM (Nat.lt_of_le_of_lt hle' haP) _ (Nat.le_refl _) hA'
              have hO2:=hO'.left hp' hev
              have hpos:0 < a' / 2:=by omega
              rw [hev] at d1
              clear hev
              go_wp2_with first | (go_at_call 219;with_reducible refine d1.mono ?_;rintro e w' ⟨rfl,rfl⟩) | (go_at_call 220;with_reducible refine k1.mono ?_;rintro e w2 ⟨ra,rfl,hA2,hb2⟩)
              go_roundw
              case rel=>exact ⟨a' / 2,hA2,hpos,by omega,hO2,hB'.trans (hb2.mono hB'.size)⟩
              case measure=>have:=hA2.natAt;simp [*];omega
            · have hev1:a' % 2 = 1:=by omega
              rw [hev1] at d1
              have hAs:Aside (a' % 2 = 1):=hev1
              clear hev hev1
              go_wp2_with (go_at_call 219;with_reducible refine d1.mono ?_;rintro e w' ⟨rfl,rfl⟩)
              go_meet
              exact ⟨a',hA',hAs.out,hle',hO',hB'⟩
        case rest=>
          obtain ⟨a',hA',hodd,hle',hO',hB'⟩:=hcut
          have hC':=(hC.below hB' (Nat.le_refl _)).up hB'.size
          clear hO hA hC
          go_upto_block 6 with fail
          go_cut [1] from 37 to 41 (fun s1 wc2=>∃ b':Nat,NatR wc2.heap.size wc2 s1 b' ∧ b' % 2 = 1 ∧ b' ≤ b ∧ Odd g a' b' ∧ Below wc.heap.size wc wc2)
          case first=>
            go_wp2_with fail
            go_loopw [1] (fun s1 wc2=>∃ b':Nat,NatR wc2.heap.size wc2 s1 b' ∧ b' ≤ b ∧ Odd g a' b' ∧ Below wc.heap.size wc wc2) (fun s1 wc2=>natAt wc2 s1)
            case atStart=>exact ⟨b,hC',Nat.le_refl _,hO',Below.refl _ _⟩
            case round=>
              clear hO'
              obtain ⟨b',hC2,hlb,hO2,hB2⟩:=hrel
              have d1:=rbitN _ _ b' _ hC2
              have m2:=hC2.natAt
              have hbp:=hO2.pb
              by_cases hev:b' % 2 = 0
              · have k1:=rhalfN _ _ b' P M hP hM (Nat.lt_of_le_of_lt hlb hbP) _ (Nat.le_refl _) hC2
                have hO3:=hO2.right hev
                rw [hev] at d1
                clear hev hodd
                go_wp2_with first | (go_at_call 219;with_reducible refine d1.mono ?_;rintro e w' ⟨rfl,rfl⟩) | (go_at_call 220;with_reducible refine k1.mono ?_;rintro e w2 ⟨ra,rfl,hA2,hb2⟩)
                go_roundw
                case rel=>exact ⟨b' / 2,hA2,by omega,hO3,hB2.trans (hb2.mono hB2.size)⟩
                case measure=>have:=hA2.natAt;simp [*];omega
              · have hev1:b' % 2 = 1:=by omega
                rw [hev1] at d1
                have hAs:Aside (b' % 2 = 1):=hev1
                clear hev hev1 hodd
                go_wp2_with (go_at_call 219;with_reducible refine d1.mono ?_;rintro e w' ⟨rfl,rfl⟩)
                go_meet
                exact ⟨b',hC2,hAs.out,hlb,hO2,hB2⟩
          case rest=>
            obtain ⟨b',hC2,hodb,hlb,hO2,hB2⟩:=hcut
            have hA2:=(hA'.below hB2 (Nat.le_refl _)).up hB2.size
            have hbp:=hO2.pb
            have ha'P:a' < P:=Nat.lt_of_le_of_lt hle' haP
            have hb'P:b' < P:=Nat.lt_of_le_of_lt hlb hbP
            have hcmp:=rcmpN _ _ _ _ a' b' M _ hA2 hC2 (hP ▸ ha'P) (hP ▸ hb'P) hM
            have hBw:Below w.heap.size w wc:=hB.trans ((hB'.trans (hB2.mono hB'.size)).mono hB.size)
            clear hO' hC' hA' hB' hB2
            by_cases hlt:a' < b'
            · have hO3:=hO2.swap hodd hodb hlt
              have hsub:=rsubN _ _ _ _ b' a' M wc (Nat.le_refl _) (Nat.le_refl _) hC2 hA2 (hP ▸ hb'P) hM (Nat.le_of_lt hlt)
              have hcv:cmpV a' b' = -1:=by simp [cmpV,hlt]
              rw [hcv] at hcmp
              have hpa:0 < a':=by omega
              have hl3:Aside (a' < b'):=hlt
              clear hO2 hodd hodb hlt hcv
              go_wp2_with first | (go_at_call 174;with_reducible refine hcmp.mono ?_;rintro e w' ⟨rfl,rfl⟩) | (go_at_call 221;with_reducible refine hsub.mono ?_;rintro e w3 ⟨rs,rfl,hS3,hb3⟩)
              have hN:=(hA2.below hb3 (Nat.le_refl _)).up hb3.size
              go_roundw
              case rel=>exact ⟨b' - a',a',hS3,hN,hO3,Nat.lt_of_le_of_lt (Nat.sub_le _ _) hb'P,ha'P,hBw.trans (hb3.mono hBw.size)⟩
              case measure=>have q1:=hS3.natAt;have q2:=hN.natAt;have q3:=hl3.out;simp [*];omega
            · have hO3:=hO2.sub hodb (by omega)
              have hsub:=rsubN _ _ _ _ a' b' M wc (Nat.le_refl _) (Nat.le_refl _) hA2 hC2 (hP ▸ ha'P) hM (by omega)
              obtain ⟨cv,hcv⟩:∃ cv,cmpV a' b' = cv:=⟨_,rfl⟩
              have hcn:¬ cv < 0:=by rw [← hcv];unfold cmpV;rw [if_neg hlt];split <;> omega
              rw [hcv] at hcmp
              have hl3:Aside (b' ≤ a'):=Nat.le_of_not_lt hlt
              clear hO2 hodd hodb hlt hcv
              go_wp2_with first | (go_at_call 174;with_reducible refine hcmp.mono ?_;rintro e w' ⟨rfl,rfl⟩) | (go_at_call 221;with_reducible refine hsub.mono ?_;rintro e w3 ⟨rs,rfl,hS3,hb3⟩)
              have hN:=(hC2.below hb3 (Nat.le_refl _)).up hb3.size
              go_roundw
              case rel=>exact ⟨a' - b',b',hS3,hN,hO3,Nat.lt_of_le_of_lt (Nat.sub_le _ _) ha'P,hb'P,hBw.trans (hb3.mono hBw.size)⟩
              case measure=>have q1:=hS3.natAt;have q2:=hN.natAt;have q3:=hl3.out;simp [*];omega
end Go.Proofs.YtaloeffmigffaaaGreatDoor
end
