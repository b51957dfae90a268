/-
  A part of the proof of the card of WorkGeneralizationIsLeast (second form): lemmas that the text Card uses. No condition of its own.
-/
import Derived.Test.YtaloeffmigffaaaGreatDoorRefC
import Derived.Test.YtaloeffmigffaaaGreatDoorPlain
set_option linter.all false
set_option linter.unusedVariables false
set_option linter.unusedSimpArgs false
section
namespace Go.Proofs.YtaloeffmigffaaaGreatDoor
open Go.RowKit Go.Big
attribute [local go_sem] Heavy.uponW
set_option maxRecDepth 100000 in
set_option maxHeartbeats 1000000 in
theorem requal_calls (a1 a2:Option Addr) (len1 len2 cap1 cap2 n:Nat) (A C:List Nat) (hl1:A.length = len1) (hl2:C.length = len2) (hb1:len1 ≤ 1048576) (w:World) (hn:n ≤ w.heap.size) (h1:LimAt n w a1 A) (h2:LimAt n w a2 C) :
    Calls Tryz.prog 181 #[.slice a1 len1 cap1,.slice a2 len2 cap2] w fun e w'=>e = .returned (.bool (decide (A = C))) ∧ Below w.heap.size w w':=by
  by_cases hne:len1 = len2
  · subst hne
    have hlenB:(((len1:Nat):Int) == len1) = true:=by simp
    have hP:∀ b,b = decide (A = C) → b = decide (A = C):=fun b h=>h
    obtain ⟨d,hd⟩:∃ d,decide (A = C) = d:=⟨_,rfl⟩
    rw [hd]
    have Ad:Aside (decide (A = C) = d):=hd
    clear hd hP
    go_enter Tryz.func181,Tryz.ntmps181
    go_wp2
    go_loopw [13] (fun s wr=>∃ i:Nat,s = .int .i64 i ∧ i ≤ len1 ∧ A.take i = C.take i ∧ Below w.heap.size w wr) (fun s _=>len1 - (intOf s).toNat)
    case atStart=>exact ⟨0,rfl,Nat.zero_le _,rfl,Below.refl _ _⟩
    case round=>
      obtain ⟨i,rfl,hi,ht,hB⟩:=hrel
      by_cases hlt:i < len1
      · obtain ⟨x,hx⟩:∃ x,A[i]? = some x:=⟨A[i],List.getElem?_eq_getElem (by omega)⟩
        obtain ⟨y,hy⟩:∃ y,C[i]? = some y:=⟨C[i],List.getElem?_eq_getElem (by omega)⟩
        obtain ⟨b1,o1,rfl,hbn1,hxl,hc1⟩:=(h1.below hB hn).get hx
        obtain ⟨b2,o2,rfl,hbn2,hyl,hc2⟩:=(h2.below hB hn).get hy
        have hi1:(i:Int) < (len1:Int):=by omega
        have hi3:(0:Int) ≤ (i:Int):=by omega
        have hw3:IntKind.i64.wrap ((i:Int) + 1) = (i:Int) + 1:=by rw [IntKind.wrap_i64];omega
        have hBd:Below w.heap.size w wr.drew:=hB.drew
        by_cases hxy:x = y
        · subst hxy
          have ht':Aside (A.take (i + 1) = C.take (i + 1)):=by
            show A.take (i + 1) = C.take (i + 1)
            rw [List.take_add_one,List.take_add_one,hx,hy,ht]
          clear h1 h2 hx hy ht
          go_wp2
          refine wp_region_still_tail 8 (by kernel_rfl) (by kernel_rfl) ?_
          simp only [List.take_succ_cons,List.take_zero,List.drop_succ_cons,List.drop_zero,World.drew_eq]
          repeat (with_reducible refine wpStill_step (fun K hK=>?_);go_simp;with_reducible refine hK _ ?_;clear hK K)
          refine wpStill_nil ?_
          show wpList _ _ _ _ _ _
          go_wp2
          go_roundw
          case rel=>exact ⟨i + 1,by simp,by omega,ht'.out,hBd⟩
          case measure=>simp [intOf];omega
        · have hneB:((x:Int) == y) = false:=by simp;omega
          have hAC:d = false:=by
            rw [← Ad.out]
            exact decide_eq_false fun e=>hxy (by rw [e,hy] at hx;exact (Option.some.inj hx).symm)
          subst hAC
          clear h1 h2 hx hy ht hxy Ad
          go_wp2
          refine wp_region_still_tail 8 (by kernel_rfl) (by kernel_rfl) ?_
          simp only [List.take_succ_cons,List.take_zero,List.drop_succ_cons,List.drop_zero,World.drew_eq]
          repeat (with_reducible refine wpStill_step (fun K hK=>?_);go_simp;with_reducible refine hK _ ?_;clear hK K)
          refine wpStill_nil ?_
          show wpList _ _ _ _ _ _
          go_wp2
          go_ret
          exact ⟨rfl,hBd⟩
      · obtain rfl:i = len1:=by omega
        rw [List.take_of_length_le (by omega),List.take_of_length_le (by omega)] at ht
        have hAC:d = true:=by rw [← Ad.out];exact decide_eq_true ht
        subst hAC
        clear h1 h2 ht Ad
        go_wp2
        go_ret
        exact ⟨rfl,hB⟩
  · have hlenB:((len1:Int) == len2) = false:=by simp;omega
    have hAC:decide (A = C) = false:=decide_eq_false fun e=>hne (by rw [← hl1,← hl2,e])
    rw [hAC]
    clear h1 h2
    go_enter Tryz.func181,Tryz.ntmps181
    go_wp2
    go_ret
    exact ⟨rfl,Below.refl _ _⟩
set_option maxRecDepth 100000 in
set_option maxHeartbeats 1000000 in
theorem rSameNumber_calls (g1 g2:Bool) (s1 s2 t1 t2:Value) (A1 C1 A2 C2:List Nat) (n:Nat) (hA1:A1.length ≤ 1048576) (hC1:C1.length ≤ 1048576) (w:World) (hn:n ≤ w.heap.size) (h1:NumAt n w g1 s1 s2 A1 C1) (h2:NumAt n w g2 t1 t2 A2 C2) :
    Calls Tryz.prog 117 #[.agg #[.bool g1,s1,s2],.agg #[.bool g2,t1,t2]] w
      fun e w'=>e = .returned (.bool (decide (g1 = g2 ∧ A1 = A2 ∧ C1 = C2))) ∧ Below w.heap.size w w':=by
  obtain ⟨⟨a1,c1,rfl,k1⟩,⟨a2,c2,rfl,k2⟩⟩:=h1
  obtain ⟨⟨b1,d1,rfl,m1⟩,⟨b2,d2,rfl,m2⟩⟩:=h2
  obtain ⟨hBw,q1,q2,hsz⟩:=two_blocks w (Obj.cells #[.bool g1,.slice a1 A1.length c1,.slice a2 C1.length c2] 24) (Obj.cells #[.bool g2,.slice b1 A2.length d1,.slice b2 C2.length d2] 24)
  have fc:∀ w2,Below ((w.alloc (Obj.cells #[.bool g1,.slice a1 A1.length c1,.slice a2 C1.length c2] 24)).alloc (Obj.cells #[.bool g2,.slice b1 A2.length d1,.slice b2 C2.length d2] 24)).heap.size ((w.alloc (Obj.cells #[.bool g1,.slice a1 A1.length c1,.slice a2 C1.length c2] 24)).alloc (Obj.cells #[.bool g2,.slice b1 A2.length d1,.slice b2 C2.length d2] 24)) w2 → w2.cell? ⟨w.heap.size,2,none⟩ = some (.slice a2 C1.length c2) ∧ w2.cell? ⟨w.heap.size + 1,2,none⟩ = some (.slice b2 C2.length d2):=fun w2 hb=>by
    have r1:=(hb.block w.heap.size (by omega)).trans q1
    have r2:=(hb.block (w.heap.size + 1) (by omega)).trans q2
    simp [World.cell?,r1,r2]
  have e1:=requal_calls a1 b1 A1.length A2.length c1 d1 n A1 A2 rfl rfl hA1 _ (by omega) (k1.below hBw hn) (m1.below hBw hn)
  have e2:=fun w' (hb:Below w.heap.size w w') (hs:n ≤ w'.heap.size)=>requal_calls a2 b2 C1.length C2.length c2 d2 n C1 C2 rfl rfl hC1 w' hs (k2.below hb hn) (m2.below hb hn)
  obtain ⟨p1,hp1⟩:∃ p1,decide (A1 = A2) = p1:=⟨_,rfl⟩
  obtain ⟨p2,hp2⟩:∃ p2,decide (C1 = C2) = p2:=⟨_,rfl⟩
  obtain ⟨F,hF⟩:∃ F,decide (g1 = g2 ∧ A1 = A2 ∧ C1 = C2) = F:=⟨_,rfl⟩
  have hFv:F = (g1 == g2 && (p1 && p2)):=by
    rw [← hF,← hp1,← hp2]
    cases g1 <;> cases g2 <;> simp
  rw [hF]
  rw [hp1] at e1
  simp only [hp2] at e2
  clear hp1 hp2 hF q1 q2 k1 k2 m1 m2
  generalize A1.length = l1 at *
  generalize A2.length = l2 at *
  generalize C1.length = l3 at *
  generalize C2.length = l4 at *
  by_cases hg:g1 = g2
  · subst hg
    have hgB:(g1 == g1) = true:=by simp
    cases hp:p1
    · subst hp
      have hF0:F = false:=by rw [hFv];simp
      subst hF0
      clear hFv
      go_enter Tryz.func117,Tryz.ntmps117
      go_wp2_with (go_at_call 181;with_reducible refine e1.mono ?_;rintro e w1 ⟨rfl,hb1⟩)
      go_ret
      exact ⟨rfl,hBw.trans (hb1.mono hBw.size)⟩
    · subst hp
      have hF0:F = p2:=by rw [hFv];simp
      subst hF0
      clear hFv
      go_enter Tryz.func117,Tryz.ntmps117
      go_wp2_with first | (go_at_call 181;with_reducible refine e1.mono ?_;rintro e w1 ⟨rfl,hb1⟩;have hbb:=hBw.trans (hb1.mono hBw.size);have hcc:=fc w1 hb1) | (go_at_call 181;with_reducible refine (e2 _ hbb (Nat.le_trans hn hbb.size)).mono ?_;rintro e w2 ⟨rfl,hb2⟩)
      go_ret
      exact ⟨rfl,hbb.trans (hb2.mono hbb.size)⟩
  · have hgB:(g1 == g2) = false:=by simpa using hg
    have hF0:F = false:=by rw [hFv,hgB];rfl
    subst hF0
    clear hFv hg
    go_enter Tryz.func117,Tryz.ntmps117
    go_wp2
    go_ret
    exact ⟨rfl,hBw⟩
end Go.Proofs.YtaloeffmigffaaaGreatDoor
end
section
namespace Go.Proofs.YtaloeffmigffaaaGreatDoor
open Go.RowKit Go.Big
attribute [local go_sem] Heavy.uponW
open Classical in
noncomputable def Tm.eqB (T U:Tm):Bool:=decide (T = U)
theorem Tm.eqB_iff {T U:Tm}:T.eqB U = true ↔ T = U:=by unfold Tm.eqB;simp
theorem Tm.eqB_false {T U:Tm} (h:T ≠ U):T.eqB U = false:=by unfold Tm.eqB;simpa using h
theorem Tm.eqB_true {T U:Tm} (h:T = U):T.eqB U = true:=by unfold Tm.eqB;simpa using h
theorem vdL_get {L:List Tm} {i:Nat} {T:Tm} (h:Tm.vdL L) (hi:L[i]? = some T):T.vd:=by
  induction L generalizing i with
  | nil=>simp at hi
  | cons a r ih=>
    simp only [Tm.vdL] at h
    cases i with
    | zero=>simp at hi;subst hi;exact h.1
    | succ j=>exact ih h.2 (by simpa using hi)
theorem seven {w w2:World} {b o i:Nat} {v0 v1 v2 v3 v4 v5 v6:Value} (hx:∀ p:Addr,p.block = b → w2.cell? p = w.cell? p) (hc:∀ (j:Nat) u,[v0,v1,v2,v3,v4,v5,v6][j]? = some u → w.cell? ⟨b,o + i * 7 + j,none⟩ = some u) :
    w2.cell? ⟨b,o + i * 7,none⟩ = some v0 ∧ w2.cell? ⟨b,o + i * 7 + 1,none⟩ = some v1 ∧ w2.cell? ⟨b,o + i * 7 + 2,none⟩ = some v2 ∧ w2.cell? ⟨b,o + i * 7 + 3,none⟩ = some v3 ∧ w2.cell? ⟨b,o + i * 7 + 4,none⟩ = some v4 ∧ w2.cell? ⟨b,o + i * 7 + 5,none⟩ = some v5 ∧ w2.cell? ⟨b,o + i * 7 + 6,none⟩ = some v6:=
  ⟨(hx _ rfl).trans (hc 0 _ rfl),(hx _ rfl).trans (hc 1 _ rfl),(hx _ rfl).trans (hc 2 _ rfl),(hx _ rfl).trans (hc 3 _ rfl),(hx _ rfl).trans (hc 4 _ rfl),(hx _ rfl).trans (hc 5 _ rfl),(hx _ rfl).trans (hc 6 _ rfl)⟩
set_option maxRecDepth 100000 in
set_option maxHeartbeats 4000000 in
theorem equal_calls:∀ (T U:Tm) (n:Nat) (w:World) (vs us:List Value),T.vd → U.vd → TmV n w T vs → TmV n w U us → n ≤ w.heap.size →
    Calls Tryz.prog 55 #[.agg vs.toArray,.agg us.toArray] w fun e w'=>e = .returned (.bool (T.eqB U)) ∧ Below w.heap.size w w'
  | .mk k v nm g num den args,.mk k' v' nm' g' num' den' args',n,w,vs,us,hT,hU,h,h',hn=>by
    have ih:∀ T' ∈ args,∀ (U':Tm) (n:Nat) (w:World) (vs us:List Value),T'.vd → U'.vd → TmV n w T' vs → TmV n w U' us → n ≤ w.heap.size →
        Calls Tryz.prog 55 #[.agg vs.toArray,.agg us.toArray] w fun e w'=>e = .returned (.bool (T'.eqB U')) ∧ Below w.heap.size w w':=fun T' hT' U'=>equal_calls T' U'
    simp only [TmV] at h h'
    simp only [Tm.vd] at hT hU
    obtain ⟨s1,s2,a,c,rfl,hN,hS,hbig,hbA,hbC⟩:=h
    obtain ⟨t1,t2,a',c',rfl,hN',hS',hbig',hbA',hbC'⟩:=h'
    obtain ⟨F,hF⟩:∃ F,Tm.eqB (.mk k v nm g num den args) (.mk k' v' nm' g' num' den' args') = F:=⟨_,rfl⟩
    rw [hF]
    have AF:Aside (F = true ↔ Tm.mk k v nm g num den args = .mk k' v' nm' g' num' den' args'):=by rw [← hF];exact Tm.eqB_iff
    have off:Tm.mk k v nm g num den args ≠ .mk k' v' nm' g' num' den' args' → F = false:=fun hne=>by rw [← hF];exact Tm.eqB_false hne
    have on:Tm.mk k v nm g num den args = .mk k' v' nm' g' num' den' args' → F = true:=fun hne=>by rw [← hF];exact Tm.eqB_true hne
    obtain ⟨len,hl⟩:∃ len,args.length = len:=⟨_,rfl⟩
    obtain ⟨len',hl'⟩:∃ len',args'.length = len':=⟨_,rfl⟩
    rw [hl] at hbig ⊢
    rw [hl'] at hbig' ⊢
    have Al:Aside (args.length = len):=hl
    have Al':Aside (args'.length = len'):=hl'
    obtain ⟨hBw,q1,q2,hsz⟩:=two_blocks w (Obj.cells #[.int .i64 k,.int .i64 v,.string nm,.bool g,s1,s2,.slice a len c] 27) (Obj.cells #[.int .i64 k',.int .i64 v',.string nm',.bool g',t1,t2,.slice a' len' c'] 27)
    obtain ⟨wb,hwb⟩:∃ wb,(w.alloc (Obj.cells #[.int .i64 k,.int .i64 v,.string nm,.bool g,s1,s2,.slice a len c] 27)).alloc (Obj.cells #[.int .i64 k',.int .i64 v',.string nm',.bool g',t1,t2,.slice a' len' c'] 27) = wb:=⟨_,rfl⟩
    rw [hwb] at hBw q1 q2 hsz
    have fa:=fun (w2:World) (hb:Below wb.heap.size wb w2)=>cells7 ((hb.block _ (by omega)).trans q1)
    have fb:=fun (w2:World) (hb:Below wb.heap.size wb w2)=>cells7 ((hb.block _ (by omega)).trans q2)
    obtain ⟨x0,x1,x2,x3,x4,x5,x6⟩:=fa wb (Below.refl _ _)
    obtain ⟨y0,y1,y2,y3,y4,y5,y6⟩:=fb wb (Below.refl _ _)
    have hsA:Aside (w.heap.size + 2 ≤ wb.heap.size):=hsz
    clear hsz
    clear hl hl' hF q1 q2
    show Calls Tryz.prog 55 #[.agg #[.int .i64 k,.int .i64 v,.string nm,.bool g,s1,s2,.slice a len c],.agg #[.int .i64 k',.int .i64 v',.string nm',.bool g',t1,t2,.slice a' len' c']] w _
    by_cases hk:k = k'
    case neg=>
      have hkB:(k == k') = false:=by simpa using hk
      obtain rfl:=off (fun e=>hk (by injection e))
      clear ih hN hS hN' hS' hT hU on off AF
      go_enter Tryz.func55,Tryz.ntmps55
      go_upto_region 1 with fail
      clear hwb
      go_wp2
      go_ret
      exact ⟨rfl,hBw⟩
    by_cases hv:v = v'
    case neg=>
      have hkB:(v == v') = false:=by simpa using hv
      obtain rfl:=off (fun e=>hv (by injection e))
      clear ih hN hS hN' hS' hT hU on off AF
      subst hk
      go_enter Tryz.func55,Tryz.ntmps55
      go_upto_region 1 with fail
      clear hwb
      go_wp2
      go_ret
      exact ⟨rfl,hBw⟩
    subst hk
    subst hv
    by_cases hm:nm = nm'
    case neg=>
      have hkB:(nm.toList == nm'.toList) = false:=by rw [strEq];simpa using hm
      obtain rfl:=off (fun e=>hm (by injection e))
      clear ih hN hS hN' hS' hT hU on off AF
      go_enter Tryz.func55,Tryz.ntmps55
      go_upto_region 1 with fail
      clear hwb
      go_wp2
      go_ret
      exact ⟨rfl,hBw⟩
    subst hm
    by_cases hll:len = len'
    case neg=>
      have hkB:((len:Int) == (len':Int)) = false:=by simp;omega
      obtain rfl:=off (fun e=>hll (by injection e with _ _ _ _ _ _ e7;rw [← Al.out,← Al'.out,e7]))
      clear ih hN hS hN' hS' hT hU on off AF
      go_enter Tryz.func55,Tryz.ntmps55
      go_upto_region 1 with fail
      clear hwb
      go_wp2
      go_ret
      exact ⟨rfl,hBw⟩
    subst hll
    by_cases h2:k = 2
    case pos=>
      subst h2
      obtain rfl:args = []:=hT.1 (by decide)
      obtain rfl:args' = []:=hU.1 (by decide)
      have hFs:F = decide (g = g' ∧ num = num' ∧ den = den'):=by
        by_cases hh:g = g' ∧ num = num' ∧ den = den'
        · rw [decide_eq_true hh]
          obtain ⟨rfl,rfl,rfl⟩:=hh
          exact on rfl
        · rw [decide_eq_false hh]
          exact off (fun e=>hh (by injection e with _ _ _ e4 e5 e6 _;exact ⟨e4,e5,e6⟩))
      have d1:=fun w2 (hb:Below w.heap.size w w2) (hs:n ≤ w2.heap.size)=>rSameNumber_calls g g' s1 s2 t1 t2 num den num' den' n hbA hbC w2 hs (hN.below hb hn) (hN'.below hb hn)
      rw [← hFs] at d1
      have hnB:=Nat.le_trans hn hBw.size
      clear ih hN hS hN' hS' hT hU on off AF hFs
      go_enter Tryz.func55,Tryz.ntmps55
      go_upto_region 1 with fail
      clear hwb
      go_wp2_with (go_at_call 117;with_reducible refine (d1 _ hBw hnB).mono ?_;rintro e w1 ⟨rfl,hb1⟩)
      go_ret
      exact ⟨rfl,hBw.trans (hb1.mono hBw.size)⟩
    have h2B:(k == 2) = false:=by simpa using h2
    obtain ⟨rfl,rfl,rfl⟩:=hT.2.2.1 h2
    obtain ⟨rfl,rfl,rfl⟩:=hU.2.2.1 h2
    have hvl:=hT.2.2.2
    have hvl':=hU.2.2.2
    clear hT hU
    go_enter Tryz.func55,Tryz.ntmps55
    go_upto_region 1 with fail
    clear hwb
    go_wp2
    go_loopw [45] (fun s wr=>∃ i:Nat,s = .int .i64 i ∧ i ≤ len ∧ Aside (args.take i = args'.take i) ∧ Below wb.heap.size wb wr) (fun s _=>len - (intOf s).toNat)
    case atStart=>exact ⟨0,rfl,Nat.zero_le _,by show _ = _;simp,Below.refl _ _⟩
    case round=>
      obtain ⟨i,rfl,hi,ht,hB⟩:=hrel
      by_cases hlt:i < len
      · obtain ⟨T',hT'⟩:∃ T',args[i]? = some T':=⟨args[i]'(by rw [Al.out];exact hlt),List.getElem?_eq_getElem _⟩
        obtain ⟨U',hU'⟩:∃ U',args'[i]? = some U':=⟨args'[i]'(by rw [Al'.out];exact hlt),List.getElem?_eq_getElem _⟩
        obtain ⟨b,o,vs',rfl,hbn,hc,hv⟩:=hS.get hT'
        obtain ⟨b',o',us',rfl,hbn',hc',hv'⟩:=hS'.get hU'
        rw [Nat.zero_add] at hc hc'
        have hnw:n ≤ wb.heap.size:=Nat.le_trans hn hBw.size
        have hBl:=hB.size
        have hlw:Aside (w.heap.size < wr.heap.size ∧ w.heap.size + 1 < wr.heap.size):=⟨by have:=hsA.out;omega,by have:=hsA.out;omega⟩
        have z:∀ w2,Below wr.heap.size wr w2 → Below wb.heap.size wb w2:=fun w2 hb=>hB.trans (hb.mono hBl)
        have ht1:Aside (∀ b:Bool,(b = true ↔ T' = U') → b = true → args.take (i + 1) = args'.take (i + 1)):=by
          show ∀ b:Bool,_
          intro b h1 h2
          rw [List.take_add_one,List.take_add_one,hT',hU',ht.out,h1.1 h2]
        have ht2:Aside (∀ b:Bool,(b = true ↔ T' = U') → b = false → F = false):=by
          show ∀ b:Bool,_
          intro b h1 h2
          refine off (fun e=>?_)
          injection e with _ _ _ _ _ _ e7
          rw [e7,hU'] at hT'
          have:=h1.2 (Option.some.inj hT').symm
          rw [h2] at this;exact absurd this (by decide)
        obtain ⟨b2,hb2⟩:∃ b2,Tm.eqB T' U' = b2:=⟨_,rfl⟩
        have hb3:=hb2 ▸ Tm.eqB_iff (T:=T') (U:=U')
        have hv0:=hv
        have hv0':=hv'
        match T',U',hv,hv' with
        | .mk k1 v1 nm1 g1 num1 den1 args1,.mk k2 v2 nm2 g2 num2 den2 args2,hv,hv'=>
          simp only [TmV] at hv hv'
          obtain ⟨p1,p2,pa,pc,rfl,_⟩:=hv
          obtain ⟨r1,r2,ra,rc,rfl,_⟩:=hv'
          have e1:=fun (w2:World) (hb:Below wr.heap.size wr w2)=>seven (w:=w) (w2:=w2) (fun p hp=>((hBw.trans ((z w2 hb).mono hBw.size)).mono hn).cell (hp ▸ hbn)) hc
          have e2:=fun (w2:World) (hb:Below wr.heap.size wr w2)=>seven (w:=w) (w2:=w2) (fun p hp=>((hBw.trans ((z w2 hb).mono hBw.size)).mono hn).cell (hp ▸ hbn')) hc'
          have d1:=fun w2 (hb:Below wr.heap.size wr w2)=>ih _ (List.mem_of_getElem? hT') _ n w2 _ _ (vdL_get hvl hT') (vdL_get hvl' hU') (TmV.below (hBw.trans ((z w2 hb).mono hBw.size)) hn _ _ hv0) (TmV.below (hBw.trans ((z w2 hb).mono hBw.size)) hn _ _ hv0') (Nat.le_trans hnw (z w2 hb).size)
          rw [hb2] at d1
          replace d1:∀ w2,Below wr.heap.size wr w2 → Calls Tryz.prog 55 #[.agg #[.int .i64 k1,.int .i64 v1,.string nm1,.bool g1,p1,p2,.slice pa args1.length pc],.agg #[.int .i64 k2,.int .i64 v2,.string nm2,.bool g2,r1,r2,.slice ra args2.length rc]] w2 _:=d1
          have fa':=fun w2 hb=>(fa w2 (z w2 hb)).2.2.2.2.2.2
          have fb':=fun w2 hb=>(fb w2 (z w2 hb)).2.2.2.2.2.2
          generalize args1.length = ln1 at *
          generalize args2.length = ln2 at *
          have hi1:(i:Int) < (len:Int):=by omega
          have hi3:(0:Int) ≤ (i:Int):=by omega
          have hw3:IntKind.i64.wrap ((i:Int) + 1) = (i:Int) + 1:=by rw [IntKind.wrap_i64];omega
          clear hS hS' ih hc hc' hv0 hv0' hT' hU' on off AF fa fb hvl hvl' hb2 ht Al Al' x0 x1 x2 x3 x4 x5 x6 y0 y1 y2 y3 y4 y5 y6
          have d2:=d1 wr.drew (below_drew wr)
          obtain ⟨m0,m1,m2,m3,m4,m5,m6⟩:=e1 wr (Below.refl _ _)
          obtain ⟨n0,n1,n2,n3,n4,n5,n6⟩:=e2 wr (Below.refl _ _)
          have xa:=fa' wr (Below.refl _ _)
          have xb:=fb' wr (Below.refl _ _)
          have z2:Aside (∀ w2,Below wr.heap.size wr.drew w2 → Below wb.heap.size wb w2):=fun w2 hb=>z w2 ((below_drew wr).trans hb)
          have z3:Aside (∀ w2,Below wr.heap.size wr.drew w2 → Below w.heap.size w w2):=fun w2 hb=>hBw.trans ((z2.out w2 hb).mono hBw.size)
          clear e1 e2 fa' fb' z d1
          go_upto_region 8 with fail
          refine wp_region_still_tail 10 (by kernel_rfl) (by kernel_rfl) ?_
          simp only [List.take_succ_cons,List.take_zero,List.drop_succ_cons,List.drop_zero,World.drew_eq]
          repeat (with_reducible refine wpStill_step (fun K hK=>?_);go_simp;with_reducible refine hK _ ?_;clear hK K)
          refine wpStill_nil ?_
          show wpList _ _ _ _ _ _
          cases b2
          · obtain rfl:=ht2.out _ hb3 rfl
            clear ht1 ht2
            go_wp2_with (go_at_call 55;(with_reducible refine d2.mono ?_);rintro e w3 ⟨rfl,hb4⟩)
            go_ret
            exact ⟨rfl,z3.out _ hb4⟩
          · have ht3:=ht1.out _ hb3 rfl
            have ht4:Aside (args.take (i + 1) = args'.take (i + 1)):=ht3
            clear ht1 ht2 ht3
            go_wp2_with (go_at_call 55;(with_reducible refine d2.mono ?_);rintro e w3 ⟨rfl,hb4⟩)
            go_roundw
            case rel=>exact ⟨i + 1,by simp,by omega,ht4,z2.out _ hb4⟩
            case measure=>simp [intOf];omega
      · obtain rfl:i = len:=by omega
        have hft:F = true:=on (by
          have h1:=ht.out
          rw [← Al.out,List.take_length,Al.out,← Al'.out,List.take_length] at h1
          rw [h1])
        subst hft
        clear hS hS' ih on off AF
        go_wp2
        go_ret
        exact ⟨rfl,hBw.trans (hB.mono hBw.size)⟩
termination_by T=>SizeOf.sizeOf T
decreasing_by
  simp_wf
  have:=List.sizeOf_lt_of_mem hT'
  omega
end Go.Proofs.YtaloeffmigffaaaGreatDoor
end
section
namespace Go.Proofs.YtaloeffmigffaaaGreatDoor
open Go.RowKit Go.Big
open Classical in
noncomputable def Tm.gndB (T:Tm):Bool:=decide T.ground
theorem Tm.gndB_iff {T:Tm}:T.gndB = true ↔ T.ground:=by unfold Tm.gndB;simp
def GndOk (T:Tm):Prop:=∀ (n:Nat) (w:World) (vs:List Value),TmV n w T vs → n ≤ w.heap.size →
  Calls Tryz.prog 56 #[.agg vs.toArray] w fun e w'=>e = .returned (.bool T.gndB) ∧ Below w.heap.size w w'
set_option maxRecDepth 100000 in
set_option maxHeartbeats 2000000 in
theorem gclo_calls (T:Tm) (hT:GndOk T) (n:Nat) (w:World) (vs:List Value) (h:TmV n w T vs) (hn:n ≤ w.heap.size) :
    Calls Tryz.prog 119 #[.agg vs.toArray] w fun e w'=>e = .returned (.bool (!T.gndB)) ∧ Below w.heap.size w w':=by
  have h0:=h
  obtain ⟨k,v,nm,g,num,den,args⟩:=T
  simp only [TmV] at h
  obtain ⟨s1,s2,a,c,rfl,_⟩:=h
  have hB:=below_alloc w (Obj.cells #[.int .i64 k,.int .i64 v,.string nm,.bool g,s1,s2,.slice a args.length c] 27)
  have d1:=hT n (w.alloc (Obj.cells #[.int .i64 k,.int .i64 v,.string nm,.bool g,s1,s2,.slice a args.length c] 27)) _ (TmV.below hB hn _ _ h0) (Nat.le_trans hn hB.size)
  generalize Tm.gndB _ = G at *
  replace d1:Calls Tryz.prog 56 #[.agg #[.int .i64 k,.int .i64 v,.string nm,.bool g,s1,s2,.slice a args.length c]] _ _:=d1
  generalize args.length = len at *
  show Calls Tryz.prog 119 #[.agg #[.int .i64 k,.int .i64 v,.string nm,.bool g,s1,s2,.slice a len c]] w _
  clear hT h0
  go_enter Tryz.func119,Tryz.ntmps119
  go_wp2_with (go_at_call 56;(with_reducible refine d1.mono ?_);rintro e w1 ⟨rfl,hb1⟩)
  go_ret
  exact ⟨rfl,hB.trans (hb1.mono hB.size)⟩
theorem groundL_take {L:List Tm} {i:Nat} {T:Tm} (h:L[i]? = some T) (ht:Tm.groundL (L.take i)) (hT:T.ground):Tm.groundL (L.take (i + 1)):=by
  induction L generalizing i with
  | nil=>simp at h
  | cons a r ih=>
    cases i with
    | zero=>simp at h;subst h;simp [Tm.groundL,hT]
    | succ j=>
      simp only [List.take_succ_cons,Tm.groundL] at ht ⊢
      exact ⟨ht.1,ih (by simpa using h) ht.2⟩
theorem groundL_get {L:List Tm} {i:Nat} {T:Tm} (h:L[i]? = some T) (ht:Tm.groundL L):T.ground:=by
  induction L generalizing i with
  | nil=>simp at h
  | cons a r ih=>
    simp only [Tm.groundL] at ht
    cases i with
    | zero=>simp at h;subst h;exact ht.1
    | succ j=>exact ih (by simpa using h) ht.2
open Classical in
noncomputable def Tm.gndsB (L:List Tm):Bool:=decide (Tm.groundL L)
set_option maxRecDepth 100000 in
set_option maxHeartbeats 4000000 in
theorem gidx_calls (args:List Tm) (hG:∀ T ∈ args,GndOk T) (n:Nat) (w:World) (a:Option Addr) (len c:Nat) (hl:args.length = len) (hbig:len ≤ 1048576) (hS:TmsV n w args a 0) (hn:n ≤ w.heap.size) :
    Calls Tryz.prog 166 #[.slice a len c,.func (.func 119) #[] #[]] w fun e w'=>(∃ r:Int,e = .returned (.int .i64 r) ∧ (0 ≤ r ↔ ¬ Tm.groundL args)) ∧ Below w.heap.size w w':=by
  have Al:Aside (args.length = len):=hl
  have hGA:Aside (∀ T ∈ args,GndOk T):=hG
  clear hl hG
  have hSA:Aside (TmsV n w args a 0):=hS
  clear hS
  go_enter Tryz.func166,Tryz.ntmps166
  go_wp2
  go_loopw [8] (fun s wr=>∃ i:Nat,s = .int .i64 i ∧ i ≤ len ∧ Aside (Tm.groundL (args.take i)) ∧ Below w.heap.size w wr) (fun s _=>len - (intOf s).toNat)
  case atStart=>exact ⟨0,rfl,Nat.zero_le _,by show Tm.groundL _;simp [Tm.groundL],Below.refl _ _⟩
  case round=>
    obtain ⟨i,rfl,hi,ht,hB⟩:=hrel
    by_cases hlt:i < len
    · obtain ⟨T',hT'⟩:∃ T',args[i]? = some T':=⟨args[i]'(by rw [Al.out];exact hlt),List.getElem?_eq_getElem _⟩
      obtain ⟨b,o,vs',rfl,hbn,hc,hv⟩:=hSA.out.get hT'
      rw [Nat.zero_add] at hc
      have d1:=gclo_calls T' (hGA.out T' (List.mem_of_getElem? hT')) n wr vs' (TmV.below hB hn _ _ hv) (Nat.le_trans hn hB.size)
      have hon:Aside (T'.gndB = true → Tm.groundL (args.take (i + 1))):=fun h=>groundL_take hT' ht.out (Tm.gndB_iff.1 h)
      have hoff:Aside (T'.gndB = false → ¬ Tm.groundL args):=fun h h2=>by
        have:=Tm.gndB_iff.2 (groundL_get hT' h2)
        rw [h] at this;exact absurd this (by decide)
      match T',hv with
      | .mk k' v' nm' g' num' den' args',hv=>
        simp only [TmV] at hv
        obtain ⟨t1,t2,a',c',rfl,_⟩:=hv
        generalize Tm.gndB _ = G at *
        obtain ⟨m0,m1,m2,m3,m4,m5,m6⟩:=seven (w:=w) (w2:=wr) (fun p hp=>(hB.mono hn).cell (hp ▸ hbn)) hc
        replace d1:Calls Tryz.prog 119 #[.agg #[.int .i64 k',.int .i64 v',.string nm',.bool g',t1,t2,.slice a' args'.length c']] _ _:=d1
        generalize args'.length = ln1 at *
        have hi1:(i:Int) < (len:Int):=by omega
        have hi3:(0:Int) ≤ (i:Int):=by omega
        have hw3:IntKind.i64.wrap ((i:Int) + 1) = (i:Int) + 1:=by rw [IntKind.wrap_i64];omega
        clear hc hT' ht
        cases G
        · have hx:Aside (¬ Tm.groundL args):=hoff.out rfl
          clear hon hoff
          go_wp2_with (go_at_call 119;(with_reducible refine d1.mono ?_);rintro e w3 ⟨rfl,hb3⟩)
          go_ret
          exact ⟨⟨i,rfl,by simp [hx.out]⟩,hB.trans (hb3.mono hB.size)⟩
        · have hx:Aside (Tm.groundL (args.take (i + 1))):=hon.out rfl
          clear hon hoff
          go_wp2_with (go_at_call 119;(with_reducible refine d1.mono ?_);rintro e w3 ⟨rfl,hb3⟩)
          go_roundw
          case rel=>exact ⟨i + 1,by simp,by omega,hx,hB.trans (hb3.mono hB.size)⟩
          case measure=>simp [intOf];omega
    · obtain rfl:i = len:=by omega
      have hx:Aside (Tm.groundL args):=by
        have:=ht.out
        rw [← Al.out,List.take_length] at this
        exact this
      clear ht
      go_wp2
      go_ret
      exact ⟨⟨-1,rfl,by simp [hx.out]⟩,hB⟩
set_option maxRecDepth 100000 in
set_option maxHeartbeats 4000000 in
theorem ground_step (k v:Int) (nm:ByteArray) (g:Bool) (num den:List Nat) (args:List Tm) (ih:∀ T' ∈ args,GndOk T'):GndOk (.mk k v nm g num den args):=by
  intro n w vs h hn
  simp only [TmV] at h
  obtain ⟨s1,s2,a,c,rfl,_,hS,hbig,_⟩:=h
  have hB:=below_alloc w (Obj.cells #[.int .i64 k,.int .i64 v,.string nm,.bool g,s1,s2,.slice a args.length c] 27)
  obtain ⟨len,hl⟩:∃ len,args.length = len:=⟨_,rfl⟩
  have d0:=gidx_calls args ih n (w.alloc (Obj.cells #[.int .i64 k,.int .i64 v,.string nm,.bool g,s1,s2,.slice a args.length c] 27)) a len c hl (hl ▸ hbig) (TmsV.below hB hn _ _ _ hS) (Nat.le_trans hn hB.size)
  obtain ⟨G,hG⟩:∃ G,Tm.gndB (.mk k v nm g num den args) = G:=⟨_,rfl⟩
  have hGi:G = true ↔ k ≠ 1 ∧ Tm.groundL args:=by rw [← hG,Tm.gndB_iff,Tm.ground]
  rw [hG]
  rw [hl] at d0 hB ⊢
  generalize Tm.groundL args = GL at *
  have A1:Aside (G = true ↔ k ≠ 1 ∧ GL):=hGi
  clear ih hG hS hl hGi
  have d1:Calls Tryz.prog 118 #[.slice a len c,.func (.func 119) #[] #[]] (w.alloc (Obj.cells #[.int .i64 k,.int .i64 v,.string nm,.bool g,s1,s2,.slice a len c] 27)) fun e w'=>(∃ b:Bool,e = .returned (.bool b) ∧ (b = true ↔ ¬ GL)) ∧ Below (w.alloc (Obj.cells #[.int .i64 k,.int .i64 v,.string nm,.bool g,s1,s2,.slice a len c] 27)).heap.size (w.alloc (Obj.cells #[.int .i64 k,.int .i64 v,.string nm,.bool g,s1,s2,.slice a len c] 27)) w':=by
    generalize w.alloc (Obj.cells #[.int .i64 k,.int .i64 v,.string nm,.bool g,s1,s2,.slice a len c] 27) = wb at *
    go_enter Tryz.func118,Tryz.ntmps118
    go_wp2_with (go_at_call 166;(with_reducible refine d0.mono ?_);rintro e w3 ⟨⟨r,rfl,hr⟩,hb3⟩)
    go_ret
    exact ⟨⟨_,rfl,by simpa using hr⟩,hb3⟩
  clear d0
  show Calls Tryz.prog 56 #[.agg #[.int .i64 k,.int .i64 v,.string nm,.bool g,s1,s2,.slice a len c]] w _
  by_cases hk:k = 1
  · subst hk
    obtain rfl:G = false:=by
      cases G
      · rfl
      · exact absurd rfl (A1.out.1 rfl).1
    clear A1 d1
    go_enter Tryz.func56,Tryz.ntmps56
    go_wp2
    go_ret
    exact ⟨rfl,hB⟩
  · have hkB:(k == 1) = false:=by simpa using hk
    have A2:Aside (∀ b:Bool,(b = true ↔ ¬ GL) → (!b) = G):=by
      show ∀ b:Bool,_
      intro b hb
      have h1:=A1.out
      cases b <;> cases G <;> simp_all
    clear A1
    go_enter Tryz.func56,Tryz.ntmps56
    go_wp2_with (go_at_call 118;(with_reducible refine d1.mono ?_);rintro e w3 ⟨⟨r,rfl,hr⟩,hb3⟩)
    go_ret
    refine ⟨?_,hB.trans (hb3.mono hB.size)⟩
    have e1:=A2.out _ hr
    have e2:(k != 1) = true:=by simp [bne,hkB]
    show Ending.returned (.bool (k != 1 && !r)) = _
    rw [e2,e1];rfl
theorem ground_calls:∀ (T:Tm),GndOk T
  | .mk k v nm g num den args=>ground_step k v nm g num den args fun T' hT'=>ground_calls T'
termination_by T=>SizeOf.sizeOf T
decreasing_by
  simp_wf
  have:=List.sizeOf_lt_of_mem hT'
  omega
end Go.Proofs.YtaloeffmigffaaaGreatDoor
end
