/-
  A part of the proof of the card of WorkGeneralizationIsLeast (second form): lemmas that the text Card uses. No condition of its own.
-/
import Derived.Test.YtaloeffmigffaaaGreatDoorTermB
set_option linter.all false
set_option linter.unusedVariables false
set_option linter.unusedSimpArgs false
section
namespace Go.Proofs.YtaloeffmigffaaaGreatDoor
open Go.RowKit Go.Big
theorem pf20 {k v:Int} {sz:Nat} {g:Bool} {num den:List Nat} {len:Nat} (h:k < 1 ∨ 5 < k):¬ RootFine k v sz g num den len:=by
  unfold RootFine;omega
theorem pf29 {k v:Int} {sz:Nat} {g:Bool} {num den:List Nat} {len:Nat} (h:(¬ k = 1 ∧ ¬ v = 0) ∨ v < 0 ∨ 1073741824 < v):¬ RootFine k v sz g num den len:=by
  unfold RootFine;omega
theorem pf48 {k v:Int} {sz:Nat} {g:Bool} {num den:List Nat} {len:Nat} (h:(¬ (k = 3 ∨ k = 4 ∨ k = 5) ∧ ¬ sz = 0) ∨ (¬ k = 2 ∧ noNum g num.length den.length = false)):¬ RootFine k v sz g num den len:=by
  rcases h with h | ⟨h,h2⟩
  · unfold RootFine;omega
  · unfold RootFine;rw [h2];simp;omega
theorem pf67 {k v:Int} {sz:Nat} {g:Bool} {num den:List Nat} {len:Nat} (h:k = 2 ∧ ¬ numFault g num den = 0):¬ RootFine k v sz g num den len:=by
  obtain ⟨rfl,h2⟩:=h
  unfold RootFine
  rintro (h | h | h | h | h)
  · omega
  · exact h2 h.2.2.2.2
  · omega
  · omega
  · omega
theorem pf77 {k v:Int} {sz:Nat} {g:Bool} {num den:List Nat} {len:Nat} (h:(¬ k = 5 ∧ 0 < len) ∨ (k = 5 ∧ (len < 1 ∨ 32 < len))):¬ RootFine k v sz g num den len:=by
  unfold RootFine;omega
theorem pf_all {k v:Int} {sz:Nat} {g:Bool} {num den:List Nat} {len:Nat} (h1:¬ (k < 1 ∨ 5 < k)) (h2:¬ ((¬ k = 1 ∧ ¬ v = 0) ∨ v < 0 ∨ 1073741824 < v)) (h3:¬ ((¬ (k = 3 ∨ k = 4 ∨ k = 5) ∧ ¬ sz = 0) ∨ (¬ k = 2 ∧ noNum g num.length den.length = false))) (h4:¬ (k = 2 ∧ ¬ numFault g num den = 0)) (h5:¬ ((¬ k = 5 ∧ 0 < len) ∨ (k = 5 ∧ (len < 1 ∨ 32 < len)))):RootFine k v sz g num den len:=by
  have hn:¬ k = 2 → noNum g num.length den.length = true:=fun h=>by
    cases hc:noNum g num.length den.length with
    | true=>rfl
    | false=>exact absurd (.inr ⟨h,hc⟩) h3
  have hs:¬ (¬ (k = 3 ∨ k = 4 ∨ k = 5) ∧ ¬ sz = 0):=fun h=>h3 (.inl h)
  unfold RootFine
  have hk:k = 1 ∨ k = 2 ∨ k = 3 ∨ k = 4 ∨ k = 5:=by omega
  rcases hk with rfl | rfl | rfl | rfl | rfl
  · exact .inl ⟨rfl,by omega,by omega,by omega,hn (by decide),by omega⟩
  · exact .inr (.inl ⟨rfl,by omega,by omega,by omega,Classical.byContradiction fun h=>h4 ⟨rfl,h⟩⟩)
  · exact .inr (.inr (.inl ⟨rfl,by omega,hn (by decide),by omega⟩))
  · exact .inr (.inr (.inr (.inl ⟨rfl,by omega,hn (by decide),by omega⟩)))
  · exact .inr (.inr (.inr (.inr ⟨rfl,by omega,hn (by decide),by omega,by omega⟩)))
theorem rootE_zero {k v:Int} {sz:Nat} {g:Bool} {num den:List Nat} {len:Nat} (h:RootFine k v sz g num den len) (hs:¬ ((k = 4 ∧ 4000 < sz) ∨ (¬ k = 4 ∧ 255 < sz))):rootE k v sz g num den len = 0:=by
  unfold rootE
  rw [if_pos h,if_neg]
  unfold nameMost RootFine at *
  split
  · omega
  · split <;> omega
theorem rootE_three {k v:Int} {sz:Nat} {g:Bool} {num den:List Nat} {len:Nat} (h:RootFine k v sz g num den len) (hs:(k = 4 ∧ 4000 < sz) ∨ (¬ k = 4 ∧ 255 < sz)):rootE k v sz g num den len = 3:=by
  unfold rootE
  rw [if_pos h,if_pos]
  unfold nameMost
  split
  · omega
  · split <;> omega
def NfOk (T:Tm):Prop:=∀ (n:Nat) (w:World) (vs:List Value),TmV n w T vs → n ≤ w.heap.size →
    Calls Tryz.prog 50 #[.agg vs.toArray] w fun e w'=>e = .returned (.int .i64 T.errE) ∧ Below w.heap.size w w'
set_option maxRecDepth 100000 in
set_option maxHeartbeats 40000000 in
theorem nf_step (k v:Int) (nm:ByteArray) (g:Bool) (num den:List Nat) (args:List Tm) (ih:∀ T' ∈ args,NfOk T'):NfOk (.mk k v nm g num den args):=by
    intro n w vs h hn
    obtain ⟨F,hF⟩:∃ F,Tm.errE (.mk k v nm g num den args) = F:=⟨_,rfl⟩
    have hEF:Aside (F = if rootE k v nm.size g num den args.length ≠ 0 then rootE k v nm.size g num den args.length else Tm.errL args):=by
      show F = _
      rw [← hF];simp only [Tm.errE]
    have hbad:Aside (¬ RootFine k v nm.size g num den args.length → F = 2):=fun h=>by
      have e:rootE k v nm.size g num den args.length = 2:=if_neg h
      rw [hEF.out,e];rfl
    rw [hF]
    clear hF
    simp only [TmV] at h
    obtain ⟨s1,s2,a,c,rfl,⟨⟨p1,q1,rfl,hA⟩,⟨p2,q2,rfl,hC⟩⟩,h2,hbig,hbA,hbC⟩:=h
    obtain ⟨len,hl⟩:∃ len,args.length = len:=⟨_,rfl⟩
    obtain ⟨l1,hl1⟩:∃ l1,num.length = l1:=⟨_,rfl⟩
    obtain ⟨l2,hl2⟩:∃ l2,den.length = l2:=⟨_,rfl⟩
    rw [hl] at hbig hbad hEF ⊢
    rw [hl1] at hbA ⊢
    rw [hl2] at hbC ⊢
    show Calls Tryz.prog 50 #[.agg #[.int .i64 k,.int .i64 v,.string nm,.bool g,.slice p1 l1 q1,.slice p2 l2 q2,.slice a len c]] w _
    have hBw:=below_alloc w (Obj.cells #[.int .i64 k,.int .i64 v,.string nm,.bool g,.slice p1 l1 q1,.slice p2 l2 q2,.slice a len c] 27)
    have hq:=heap_alloc_new w (Obj.cells #[.int .i64 k,.int .i64 v,.string nm,.bool g,.slice p1 l1 q1,.slice p2 l2 q2,.slice a len c] 27)
    have hsz:w.heap.size + 1 ≤ (w.alloc (Obj.cells #[.int .i64 k,.int .i64 v,.string nm,.bool g,.slice p1 l1 q1,.slice p2 l2 q2,.slice a len c] 27)).heap.size:=by simp
    go_enter Tryz.func50,Tryz.ntmps50
    go_upto_region 1 with fail
    generalize w.alloc (Obj.cells #[.int .i64 k,.int .i64 v,.string nm,.bool g,.slice p1 l1 q1,.slice p2 l2 q2,.slice a len c] 27) = wb at *
    have fc:∀ w2,Below wb.heap.size wb w2 → _:=fun w2 hb=>cells7 ((hb.block w.heap.size (by omega)).trans hq)
    obtain ⟨x0,x1,x2,x3,x4,x5,x6⟩:=fc wb (Below.refl _ _)
    have Al:Aside (args.length = len ∧ num.length = l1 ∧ den.length = l2):=⟨hl,hl1,hl2⟩
    clear hl hl1 hl2 hq
    obtain ⟨P3,hP3r⟩:∃ P:Prop,P = (k = 3 ∨ k = 4 ∨ k = 5):=⟨_,rfl⟩
    have hP3A:Aside (P3 = (k = 3 ∨ k = 4 ∨ k = 5)):=hP3r
    clear hP3r
    go_cut [3] from 7 to 19 (fun s3 wx=>∃ b,s3 = .bool b ∧ (b = true ↔ P3) ∧ wx = wb)
    case first=>
      as_aux_lemma=>
        clear fc ih h2 hA hC hBw hbig hbA hbC
        by_cases k3:k = 3
        · subst k3
          have hPf:Aside P3:=by show P3;rw [hP3A.out];exact .inl rfl
          go_wp2_with fail
          go_meet
          exact ⟨true,rfl,⟨fun _=>hPf.out,fun _=>rfl⟩,rfl⟩
        · have k3B:(k == 3) = false:=by simpa using k3
          by_cases k4:k = 4
          · subst k4
            clear k3
            have hPf:Aside P3:=by show P3;rw [hP3A.out];exact .inr (.inl rfl)
            go_wp2_with fail
            go_meet
            exact ⟨true,rfl,⟨fun _=>hPf.out,fun _=>rfl⟩,rfl⟩
          · have k4B:(k == 4) = false:=by simpa using k4
            have kA:Aside (¬ k = 3 ∧ ¬ k = 4):=⟨k3,k4⟩
            clear k3 k4
            go_wp2_with fail
            go_meet
            exact ⟨_,rfl,by rw [hP3A.out];have:=kA.out;simp;omega,rfl⟩
    case rest=>
      obtain ⟨b3,rfl,hb3c,rfl⟩:=hcut
      rw [hP3A.out] at hb3c
      have hb3A:Aside (b3 = true ↔ k = 3 ∨ k = 4 ∨ k = 5):=hb3c
      clear hP3A
      clear hb3c
      go_upto_region 2 with fail
      obtain ⟨P20,hP20r⟩:∃ P:Prop,P = (k < 1 ∨ 5 < k):=⟨_,rfl⟩
      have hP20A:Aside (P20 = (k < 1 ∨ 5 < k)):=hP20r
      clear hP20r
      go_cut [20] from 21 to 28 (fun s wx=>∃ b,s = .bool b ∧ (b = true ↔ P20) ∧ wx = wc)
      case first=>
        as_aux_lemma=>
          clear fc ih h2 hA hC hBw hbig hbA hbC
          by_cases k1:k < 1
          · have hk:Aside (k < 1):=k1
            have hPf:Aside P20:=by show P20;rw [hP20A.out];exact .inl hk.out
            go_wp2_with fail
            go_meet
            exact ⟨true,rfl,⟨fun _=>hPf.out,fun _=>rfl⟩,rfl⟩
          · by_cases k5:5 < k
            · have hk:Aside (5 < k):=k5
              have hPf:Aside P20:=by show P20;rw [hP20A.out];exact .inr hk.out
              go_wp2_with fail
              go_meet
              exact ⟨true,rfl,⟨fun _=>hPf.out,fun _=>rfl⟩,rfl⟩
            · have hk:Aside (¬ (k < 1 ∨ 5 < k)):=by show ¬ _;omega
              have hPf:Aside (¬ P20):=by show ¬ P20;rw [hP20A.out];exact fun h=>absurd h hk.out
              go_wp2_with fail
              go_meet
              exact ⟨false,rfl,⟨fun h=>(by cases h),fun h=>absurd h hPf.out⟩,rfl⟩
      case rest=>
        obtain ⟨b20,rfl,hb20,rfl⟩:=hcut
        rw [hP20A.out] at hb20
        clear hP20A
        cases b20
        · have hk15:Aside (¬ (k < 1 ∨ 5 < k)):=fun h=>by have:=hb20.2 h;cases this
          clear hb20
          go_upto_region 4 with fail
          obtain ⟨P29,hP29r⟩:∃ P:Prop,P = ((¬ k = 1 ∧ ¬ v = 0) ∨ v < 0 ∨ 1073741824 < v):=⟨_,rfl⟩
          have hP29A:Aside (P29 = ((¬ k = 1 ∧ ¬ v = 0) ∨ v < 0 ∨ 1073741824 < v)):=hP29r
          clear hP29r
          go_cut [29] from 30 to 47 (fun s wx=>∃ b,s = .bool b ∧ (b = true ↔ P29) ∧ wx = wc)
          case first=>
            as_aux_lemma=>
              clear fc ih h2 hA hC hBw hbig hbA hbC
              clear hk15
              by_cases k1:k = 1
              · subst k1
                by_cases v0:v < 0
                · have hv:Aside (v < 0):=v0
                  have hPf:Aside P29:=by show P29;rw [hP29A.out];exact .inr (.inl hv.out)
                  go_wp2_with fail
                  go_meet
                  exact ⟨true,rfl,⟨fun _=>hPf.out,fun _=>rfl⟩,rfl⟩
                · by_cases v1:1073741824 < v
                  · have hv:Aside (1073741824 < v):=v1
                    have hPf:Aside P29:=by show P29;rw [hP29A.out];exact .inr (.inr hv.out)
                    go_wp2_with fail
                    go_meet
                    exact ⟨true,rfl,⟨fun _=>hPf.out,fun _=>rfl⟩,rfl⟩
                  · have hv:Aside (0 ≤ v ∧ v ≤ 1073741824):=⟨by omega,by omega⟩
                    have hPf:Aside (¬ P29):=by show ¬ P29;rw [hP29A.out];exact fun h=>by have:=hv.out;omega
                    go_wp2_with fail
                    go_meet
                    exact ⟨false,rfl,⟨fun h=>(by cases h),fun h=>absurd h hPf.out⟩,rfl⟩
              · have k1B:(k != 1) = true:=by simpa using k1
                have k1A:Aside (¬ k = 1):=k1
                by_cases vz:v = 0
                · subst vz
                  have hPf:Aside (¬ P29):=by show ¬ P29;rw [hP29A.out];exact fun h=>by omega
                  go_wp2_with fail
                  go_meet
                  exact ⟨false,rfl,⟨fun h=>(by cases h),fun h=>absurd h hPf.out⟩,rfl⟩
                · have vzB:(v != 0) = true:=by simpa using vz
                  have vzA:Aside (¬ v = 0):=vz
                  have hPf:Aside P29:=by show P29;rw [hP29A.out];exact .inl ⟨k1A.out,vzA.out⟩
                  go_wp2_with fail
                  go_meet
                  exact ⟨true,rfl,⟨fun _=>hPf.out,fun _=>rfl⟩,rfl⟩
          case rest=>
            obtain ⟨b29,rfl,hb29,rfl⟩:=hcut
            rw [hP29A.out] at hb29
            clear hP29A
            cases b29
            · have hvar:Aside (¬ ((¬ k = 1 ∧ ¬ v = 0) ∨ v < 0 ∨ 1073741824 < v)):=fun h=>by have:=hb29.2 h;cases this
              clear hb29
              obtain ⟨wb,rfl⟩:∃ wb,wb = wc:=⟨_,rfl⟩
              have d21:=rnoNumber_calls g p1 p2 l1 l2 q1 q2 wb
              go_upto_region 6 with fail
              obtain ⟨P48,hP48r⟩:∃ P:Prop,P = ((b3 = false ∧ ¬ nm.toList = []) ∨ (¬ k = 2 ∧ noNum g l1 l2 = false)):=⟨_,rfl⟩
              have hP48A:Aside (P48 = ((b3 = false ∧ ¬ nm.toList = []) ∨ (¬ k = 2 ∧ noNum g l1 l2 = false))):=hP48r
              clear hP48r
              go_cut [48] from 49 to 66 (fun s wx=>∃ b,s = .bool b ∧ (b = true ↔ P48) ∧ Below wb.heap.size wb wx)
              case first=>
                as_aux_lemma=>
                  obtain ⟨NN,hNN⟩:∃ NN,(!g && (((l1:Int) == 0) && ((l2:Int) == 0))) = NN:=⟨_,rfl⟩
                  rw [hNN] at d21
                  have AN:Aside (noNum g l1 l2 = NN):=by
                    show _ = _
                    rw [← hNN];unfold noNum
                    cases g
                    · by_cases h0:l1 = 0 <;> by_cases h1:l2 = 0 <;> simp [h0,h1]
                    · rfl
                  clear hNN fc ih h2 hA hC hBw hbig hbA hbC hk15
                  cases b3
                  · by_cases hn0:nm.toList = []
                    · have hnA:Aside (nm.toList = []):=hn0
                      by_cases k2:k = 2
                      · subst k2
                        have hPf:Aside (¬ P48):=by show ¬ P48;rw [hP48A.out];exact fun h=>by rcases h with h | h;exact absurd hnA.out h.2;exact absurd rfl h.1
                        go_wp2_with fail
                        go_meet
                        exact ⟨false,rfl,⟨fun h=>(by cases h),fun h=>absurd h hPf.out⟩,Below.refl _ _⟩
                      · have k2B:(k != 2) = true:=by simpa using k2
                        have k2A:Aside (¬ k = 2):=k2
                        cases NN
                        · have hPf:Aside P48:=by show P48;rw [hP48A.out];exact .inr ⟨k2A.out,AN.out⟩
                          go_wp2_with (go_at_call 110;with_reducible refine d21.mono ?_;rintro e w3 ⟨rfl,hb3⟩)
                          go_meet
                          exact ⟨true,rfl,⟨fun _=>hPf.out,fun _=>rfl⟩,hb3⟩
                        · have hPf:Aside (¬ P48):=by show ¬ P48;rw [hP48A.out];exact fun h=>by rcases h with h | h;exact absurd hnA.out h.2;have:=h.2;rw [AN.out] at this;cases this
                          go_wp2_with (go_at_call 110;with_reducible refine d21.mono ?_;rintro e w3 ⟨rfl,hb3⟩)
                          go_meet
                          exact ⟨false,rfl,⟨fun h=>(by cases h),fun h=>absurd h hPf.out⟩,hb3⟩
                    · have hnA:Aside (¬ nm.toList = []):=hn0
                      have hPf:Aside P48:=by show P48;rw [hP48A.out];exact .inl ⟨rfl,hnA.out⟩
                      go_wp2_with fail
                      go_meet
                      exact ⟨true,rfl,⟨fun _=>hPf.out,fun _=>rfl⟩,Below.refl _ _⟩
                  · skip
                    by_cases k2:k = 2
                    · subst k2
                      have hPf:Aside (¬ P48):=by show ¬ P48;rw [hP48A.out];exact fun h=>by rcases h with h | h;exact absurd h.1 (by decide);exact absurd rfl h.1
                      go_wp2_with fail
                      go_meet
                      exact ⟨false,rfl,⟨fun h=>(by cases h),fun h=>absurd h hPf.out⟩,Below.refl _ _⟩
                    · have k2B:(k != 2) = true:=by simpa using k2
                      have k2A:Aside (¬ k = 2):=k2
                      cases NN
                      · have hPf:Aside P48:=by show P48;rw [hP48A.out];exact .inr ⟨k2A.out,AN.out⟩
                        go_wp2_with (go_at_call 110;with_reducible refine d21.mono ?_;rintro e w3 ⟨rfl,hb3⟩)
                        go_meet
                        exact ⟨true,rfl,⟨fun _=>hPf.out,fun _=>rfl⟩,hb3⟩
                      · have hPf:Aside (¬ P48):=by show ¬ P48;rw [hP48A.out];exact fun h=>by rcases h with h | h;exact absurd h.1 (by decide);have:=h.2;rw [AN.out] at this;cases this
                        go_wp2_with (go_at_call 110;with_reducible refine d21.mono ?_;rintro e w3 ⟨rfl,hb3⟩)
                        go_meet
                        exact ⟨false,rfl,⟨fun h=>(by cases h),fun h=>absurd h hPf.out⟩,hb3⟩
              case rest=>
                obtain ⟨b48,rfl,hb48,hB48⟩:=hcut
                rw [hP48A.out] at hb48
                clear hP48A
                have hP48:Aside (b48 = true ↔ (¬ (k = 3 ∨ k = 4 ∨ k = 5) ∧ ¬ nm.size = 0) ∨ (¬ k = 2 ∧ noNum g num.length den.length = false)):=by
                  show _ ↔ _
                  rw [hb48,Al.out.2.1,Al.out.2.2,← hb3A.out,← toList_nil]
                  cases b3 <;> simp
                clear hb48
                cases b48
                · have hnon:Aside (¬ ((¬ (k = 3 ∨ k = 4 ∨ k = 5) ∧ ¬ nm.size = 0) ∨ (¬ k = 2 ∧ noNum g num.length den.length = false))):=fun h=>by have:=hP48.out.2 h;cases this
                  clear hP48 d21
                  have hB1:=hBw.trans (hB48.mono hBw.size)
                  obtain ⟨wd,rfl⟩:∃ wd,wd = wc:=⟨_,rfl⟩
                  have e0:=fc wd hB48
                  obtain ⟨y0,y1,y2,y3,y4,y5,y6⟩:=e0
                  have d22:=rnum_calls g p1 p2 l1 l2 q1 q2 n num den Al.out.2.1 Al.out.2.2 (by omega) (by omega) wd (Nat.le_trans hn hB1.size) (hA.below hB1 hn) (hC.below hB1 hn)
                  have hh2:=h2
                  clear x0 x1 x2 x3 x4 x5 x6 hA hC
                  go_upto_region 8 with fail
                  obtain ⟨P67,hP67r⟩:∃ P:Prop,P = (k = 2 ∧ ¬ numFault g num den = 0):=⟨_,rfl⟩
                  have hP67A:Aside (P67 = (k = 2 ∧ ¬ numFault g num den = 0)):=hP67r
                  clear hP67r
                  go_cut [67] from 68 to 76 (fun s wx=>∃ b,s = .bool b ∧ (b = true ↔ P67) ∧ Below wd.heap.size wd wx)
                  case first=>
                    as_aux_lemma=>
                      by_cases k2:k = 2
                      · subst k2
                        obtain ⟨NF,hF⟩:∃ NF,numFault g num den = NF:=⟨_,rfl⟩
                        rw [hF] at d22
                        have AF:Aside (numFault g num den = NF):=hF
                        clear hF fc ih h2 hh2 hnon hk15 hBw hB48 hB1 hbig hbA hbC
                        by_cases hF0:NF = 0
                        · subst hF0
                          have hPf:Aside (¬ P67):=by show ¬ P67;rw [hP67A.out];exact fun h=>absurd AF.out h.2
                          go_wp2_with (go_at_call 111;with_reducible refine d22.mono ?_;rintro e w3 ⟨rfl,hb3⟩)
                          go_meet
                          exact ⟨false,rfl,⟨fun h=>(by cases h),fun h=>absurd h hPf.out⟩,hb3⟩
                        · have hFB:(NF != 0) = true:=by simpa using hF0
                          have AF2:Aside (¬ numFault g num den = 0):=by show ¬ _;rw [AF.out];exact hF0
                          have hPf:Aside P67:=by show P67;rw [hP67A.out];exact ⟨rfl,AF2.out⟩
                          go_wp2_with (go_at_call 111;with_reducible refine d22.mono ?_;rintro e w3 ⟨rfl,hb3⟩)
                          go_meet
                          exact ⟨true,rfl,⟨fun _=>hPf.out,fun _=>rfl⟩,hb3⟩
                      · have k2B:(k == 2) = false:=by simpa using k2
                        have k2A:Aside (¬ k = 2):=k2
                        clear fc ih h2 hh2 hnon hk15 hBw hB48 d22 k2 hB1 hbig hbA hbC
                        have hPf:Aside (¬ P67):=by show ¬ P67;rw [hP67A.out];exact fun h=>absurd h.1 k2A.out
                        go_wp2_with fail
                        go_meet
                        exact ⟨false,rfl,⟨fun h=>(by cases h),fun h=>absurd h hPf.out⟩,Below.refl _ _⟩
                  case rest=>
                    obtain ⟨b67,rfl,hb67,hB67⟩:=hcut
                    rw [hP67A.out] at hb67
                    clear hP67A
                    cases b67
                    · have hnum:Aside (¬ (k = 2 ∧ ¬ numFault g num den = 0)):=fun h=>by have:=hb67.2 h;cases this
                      have hB2:=hB1.trans (hB67.mono hB1.size)
                      obtain ⟨we,rfl⟩:∃ we,we = wc:=⟨_,rfl⟩
                      have fe:∀ w2,Below we.heap.size we w2 → _:=fun w2 hb=>fc w2 (hB48.trans ((hB67.trans (hb.mono hB67.size)).mono hB48.size))
                      obtain ⟨z0,z1,z2,z3,z4,z5,z6⟩:=fe we (Below.refl _ _)
                      clear hb67 d22 y0 y1 y2 y3 y4 y5 y6 fc
                      go_upto_region 10 with fail
                      obtain ⟨P77,hP77r⟩:∃ P:Prop,P = ((¬ k = 5 ∧ 0 < len) ∨ (k = 5 ∧ (len < 1 ∨ 32 < len))):=⟨_,rfl⟩
                      have hP77A:Aside (P77 = ((¬ k = 5 ∧ 0 < len) ∨ (k = 5 ∧ (len < 1 ∨ 32 < len)))):=hP77r
                      clear hP77r
                      go_cut [77] from 78 to 103 (fun s wx=>∃ b,s = .bool b ∧ (b = true ↔ P77) ∧ wx = we)
                      case first=>
                        as_aux_lemma=>
                          clear ih h2 hh2 fe hBw hB48 hB67 hB1 hB2 hbig hbA hbC hk15 hvar hnon hnum
                          by_cases k5:k = 5
                          · subst k5
                            by_cases hl0:len < 1
                            · have hl1':(len:Int) < 1:=by omega
                              have hlA:Aside (len < 1):=hl0
                              have hPf:Aside P77:=by show P77;rw [hP77A.out];exact .inr ⟨rfl,.inl hlA.out⟩
                              go_wp2_with fail
                              go_meet
                              exact ⟨true,rfl,⟨fun _=>hPf.out,fun _=>rfl⟩,rfl⟩
                            · have hl1':¬ (len:Int) < 1:=by omega
                              by_cases h32:32 < len
                              · have h32':(32:Int) < (len:Int):=by omega
                                have hlA:Aside (32 < len):=h32
                                have hPf:Aside P77:=by show P77;rw [hP77A.out];exact .inr ⟨rfl,.inr hlA.out⟩
                                go_wp2_with fail
                                go_meet
                                exact ⟨true,rfl,⟨fun _=>hPf.out,fun _=>rfl⟩,rfl⟩
                              · have h32':¬ (32:Int) < (len:Int):=by omega
                                have hle:Aside (len ≤ 32 ∧ 1 ≤ len):=⟨by omega,by omega⟩
                                have hPf:Aside (¬ P77):=by show ¬ P77;rw [hP77A.out];exact fun h=>by have:=hle.out;omega
                                go_wp2_with fail
                                go_meet
                                exact ⟨false,rfl,⟨fun h=>(by cases h),fun h=>absurd h hPf.out⟩,rfl⟩
                          · have k5B:(k != 5) = true:=by simpa using k5
                            have k5C:(k == 5) = false:=by simpa using k5
                            have k5A:Aside (¬ k = 5):=k5
                            by_cases hl0:0 < len
                            · have hl1':(0:Int) < (len:Int):=by omega
                              have hlA:Aside (0 < len):=hl0
                              have hPf:Aside P77:=by show P77;rw [hP77A.out];exact .inl ⟨k5A.out,hlA.out⟩
                              go_wp2_with fail
                              go_meet
                              exact ⟨true,rfl,⟨fun _=>hPf.out,fun _=>rfl⟩,rfl⟩
                            · have hl1':¬ (0:Int) < (len:Int):=by omega
                              have hle:Aside (len = 0):=by show len = 0;omega
                              have hPf:Aside (¬ P77):=by show ¬ P77;rw [hP77A.out];exact fun h=>by have:=hle.out;have:=k5A.out;omega
                              go_wp2_with fail
                              go_meet
                              exact ⟨false,rfl,⟨fun h=>(by cases h),fun h=>absurd h hPf.out⟩,rfl⟩
                      case rest=>
                        obtain ⟨b77,rfl,hb77,rfl⟩:=hcut
                        rw [hP77A.out] at hb77
                        clear hP77A
                        cases b77
                        · have hroot:Aside (RootFine k v nm.size g num den len):=pf_all hk15.out hvar.out hnon.out hnum.out fun h=>by have:=hb77.2 h;cases this
                          clear hb77 hk15 hvar hnon hnum
                          go_upto_region 12 with fail
                          obtain ⟨P104,hP104r⟩:∃ P:Prop,P = ((k = 4 ∧ 4000 < nm.size) ∨ (¬ k = 4 ∧ 255 < nm.size)):=⟨_,rfl⟩
                          have hP104A:Aside (P104 = ((k = 4 ∧ 4000 < nm.size) ∨ (¬ k = 4 ∧ 255 < nm.size))):=hP104r
                          clear hP104r
                          go_cut [104] from 105 to 124 (fun s wx=>∃ b,s = .bool b ∧ (b = true ↔ P104) ∧ wx = wc)
                          case first=>
                            as_aux_lemma=>
                              clear ih h2 hh2 fe hroot hBw hB48 hB67 hB1 hB2 hbig hbA hbC
                              by_cases k4:k = 4
                              · subst k4
                                by_cases hn4:(4000:Int) < (nm.size:Int)
                                · have hnA:Aside (4000 < nm.size):=by show _ < _;omega
                                  have hPf:Aside P104:=by show P104;rw [hP104A.out];exact .inl ⟨rfl,hnA.out⟩
                                  go_wp2_with fail
                                  go_meet
                                  exact ⟨true,rfl,⟨fun _=>hPf.out,fun _=>rfl⟩,rfl⟩
                                · have hnm:Aside (nm.size ≤ 4000):=by show nm.size ≤ 4000;omega
                                  have hPf:Aside (¬ P104):=by show ¬ P104;rw [hP104A.out];exact fun h=>by have:=hnm.out;omega
                                  go_wp2_with fail
                                  go_meet
                                  exact ⟨false,rfl,⟨fun h=>(by cases h),fun h=>absurd h hPf.out⟩,rfl⟩
                              · have k4B:(k != 4) = true:=by simpa using k4
                                have k4C:(k == 4) = false:=by simpa using k4
                                have k4A:Aside (¬ k = 4):=k4
                                by_cases hn4:(255:Int) < (nm.size:Int)
                                · have hnA:Aside (255 < nm.size):=by show _ < _;omega
                                  have hPf:Aside P104:=by show P104;rw [hP104A.out];exact .inr ⟨k4A.out,hnA.out⟩
                                  go_wp2_with fail
                                  go_meet
                                  exact ⟨true,rfl,⟨fun _=>hPf.out,fun _=>rfl⟩,rfl⟩
                                · have hnm:Aside (nm.size ≤ 255):=by show nm.size ≤ 255;omega
                                  have hPf:Aside (¬ P104):=by show ¬ P104;rw [hP104A.out];exact fun h=>by have:=hnm.out;have:=k4A.out;omega
                                  go_wp2_with fail
                                  go_meet
                                  exact ⟨false,rfl,⟨fun h=>(by cases h),fun h=>absurd h hPf.out⟩,rfl⟩
                          case rest=>
                            obtain ⟨b104,rfl,hb104,rfl⟩:=hcut
                            rw [hP104A.out] at hb104
                            clear hP104A
                            cases b104
                            · have hFA:Aside (F = Tm.errL args):=by
                                show F = _
                                rw [hEF.out,if_neg]
                                rw [rootE_zero hroot.out fun h=>by have:=hb104.2 h;cases this];simp
                              clear hb104 hbad hEF
                              have hBe:Aside (Below w.heap.size w wc):=hB2
                              obtain ⟨wf,rfl⟩:∃ wf,wf = wc:=⟨_,rfl⟩
                              clear hBw hB48 hB67 hB1
                              go_wp2
                              go_loopw [128] (fun s128 wr=>∃ i:Nat,s128 = .int .i64 i ∧ i ≤ len ∧ Aside (Tm.errL (args.take i) = 0) ∧ Below w.heap.size w wr) (fun s _=>len - (intOf s).toNat)
                              case atStart=>exact ⟨0,rfl,Nat.zero_le _,by simp [Tm.errL,Aside],hB2⟩
                              case round=>
                                clear z0 z1 z2 z3 z4 z5 z6 fe hB2 hBe
                                obtain ⟨i,rfl,hi,hex,hB⟩:=hrel
                                by_cases hlt:i < len
                                · obtain ⟨T',hT'⟩:∃ T',args[i]? = some T':=⟨args[i]'(by rw [Al.out.1];exact hlt),List.getElem?_eq_getElem _⟩
                                  obtain ⟨b,off,vs',rfl,hbn,hc,hv⟩:=h2.get hT'
                                  have hv2:=hv
                                  obtain ⟨G,hG⟩:∃ G,T'.errE = G:=⟨_,rfl⟩
                                  have hnx:Aside ((G = 0 → Tm.errL (args.take (i + 1)) = 0) ∧ (G ≠ 0 → F = G)):=⟨fun h=>errL_take_zero hT' hex.out (hG.trans h),fun h=>by rw [hFA.out,errL_first hT' hex.out (by rw [hG];exact h),hG]⟩
                                  have hmem:=List.mem_of_getElem? hT'
                                  obtain ⟨k',v',nm',g',num',den',args'⟩:=T'
                                  simp only [TmV] at hv
                                  obtain ⟨t1,t2,a',c',rfl,⟨⟨p1',q1',rfl,_⟩,⟨p2',q2',rfl,_⟩⟩,_⟩:=hv
                                  have hb2:∀ p:Addr,p.block < n → wr.cell? p = w.cell? p:=fun p hp=>(hB.mono hn).cell hp
                                  rw [Nat.zero_add] at hc
                                  have x0:=(hb2 ⟨b,off + i * 7 + 0,none⟩ hbn).trans (hc 0 _ rfl)
                                  have x1:=(hb2 ⟨b,off + i * 7 + 1,none⟩ hbn).trans (hc 1 _ rfl)
                                  have x2:=(hb2 ⟨b,off + i * 7 + 2,none⟩ hbn).trans (hc 2 _ rfl)
                                  have x3:=(hb2 ⟨b,off + i * 7 + 3,none⟩ hbn).trans (hc 3 _ rfl)
                                  have x4:=(hb2 ⟨b,off + i * 7 + 4,none⟩ hbn).trans (hc 4 _ rfl)
                                  have x5:=(hb2 ⟨b,off + i * 7 + 5,none⟩ hbn).trans (hc 5 _ rfl)
                                  have x6:=(hb2 ⟨b,off + i * 7 + 6,none⟩ hbn).trans (hc 6 _ rfl)
                                  rw [Nat.add_zero] at x0
                                  have hi1:(i:Int) < (len:Int):=by omega
                                  have hi3:(0:Int) ≤ (i:Int):=by omega
                                  have hw3:IntKind.i64.wrap ((i:Int) + 1) = (i:Int) + 1:=by rw [IntKind.wrap_i64];omega
                                  have hB2:Below w.heap.size w (wr.alloc (Obj.cells #[.int .i64 k',.int .i64 v',.string nm',.bool g',.slice p1' num'.length q1',.slice p2' den'.length q2',.slice a' args'.length c'] 27)):=hB.alloc hB.size _
                                  have d1:=ih _ hmem n (wr.alloc (Obj.cells #[.int .i64 k',.int .i64 v',.string nm',.bool g',.slice p1' num'.length q1',.slice p2' den'.length q2',.slice a' args'.length c'] 27)) _ (TmV.below hB2 hn _ _ hv2) (Nat.le_trans hn hB2.size)
                                  rw [hG] at d1
                                  replace d1:Calls Tryz.prog 50 #[.agg #[.int .i64 k',.int .i64 v',.string nm',.bool g',.slice p1' num'.length q1',.slice p2' den'.length q2',.slice a' args'.length c']] _ _:=d1
                                  have hia:Aside (i < len):=hlt
                                  generalize args'.length = len' at *
                                  generalize num'.length = ln1 at *
                                  generalize den'.length = ln2 at *
                                  clear h2 hh2 ih hc hv2 hT' hb2 hG hmem hex hlt
                                  by_cases hG0:G = 0
                                  · subst hG0
                                    have hnz:Aside (Tm.errL (args.take (i + 1)) = 0):=hnx.out.1 rfl
                                    clear hnx
                                    go_wp2_with first | (go_at_call 50;(with_reducible refine d1.mono ?_);rintro e w3 ⟨rfl,hb3⟩)
                                    exact ⟨⟨i + 1,by simp,by have:=hia.out;omega,hnz,hB2.trans (hb3.mono hB2.size)⟩,by have:=hia.out;simp [intOf];omega⟩
                                  · have hGB:(G == 0) = false:=by simpa using hG0
                                    have hFG:Aside (F = G):=hnx.out.2 hG0
                                    clear hG0 hnx
                                    go_wp2_with first | (go_at_call 50;(with_reducible refine d1.mono ?_);rintro e w3 ⟨rfl,hb3⟩)
                                    go_ret
                                    rw [hFG.out]
                                    exact ⟨rfl,hB2.trans (hb3.mono hB2.size)⟩
                                · obtain rfl:i = len:=by omega
                                  have hFz:Aside (F = 0):=by show F = 0;rw [hFA.out,← hex.out,← Al.out.1,List.take_length]
                                  clear h2 hh2 ih hex
                                  go_wp2_with fail
                                  go_ret
                                  rw [hFz.out]
                                  exact ⟨rfl,hB⟩
                            · have hF3:Aside (F = 3):=by
                                show F = 3
                                rw [hEF.out,rootE_three hroot.out (hb104.1 rfl)];rfl
                              clear hb104 hEF hbad
                              go_wp2
                              go_ret
                              rw [hF3.out]
                              exact ⟨rfl,hB2⟩
                        · have hF2:Aside (F = 2):=hbad.out (by exact pf77 (hb77.1 rfl))
                          clear hbad hEF
                          go_wp2
                          go_ret
                          rw [hF2.out]
                          exact ⟨rfl,hB2⟩
                    · have hF2:Aside (F = 2):=hbad.out (by exact pf67 (hb67.1 rfl))
                      clear hbad hEF
                      go_wp2
                      go_ret
                      rw [hF2.out]
                      exact ⟨rfl,hB1.trans (hB67.mono hB1.size)⟩
                · have hF2:Aside (F = 2):=hbad.out (by exact pf48 (hP48.out.1 rfl))
                  clear hbad hEF
                  go_wp2
                  go_ret
                  rw [hF2.out]
                  exact ⟨rfl,hBw.trans (hB48.mono hBw.size)⟩
            · have hF2:Aside (F = 2):=hbad.out (by exact pf29 (hb29.1 rfl))
              clear hbad hEF
              go_wp2
              go_ret
              rw [hF2.out]
              exact ⟨rfl,hBw⟩
        · have hF2:Aside (F = 2):=hbad.out (by exact pf20 (hb20.1 rfl))
          clear hbad hEF
          go_wp2
          go_ret
          rw [hF2.out]
          exact ⟨rfl,hBw⟩
theorem nf_ok:∀ T:Tm,NfOk T
  | .mk k v nm g num den args=>nf_step k v nm g num den args fun T' hT'=>nf_ok T'
termination_by T=>SizeOf.sizeOf T
decreasing_by
  simp_wf
  have:=List.sizeOf_lt_of_mem hT'
  omega
end Go.Proofs.YtaloeffmigffaaaGreatDoor
end
