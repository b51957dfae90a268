/-
  A part of the proof of the card of WorkGeneralizationIsLeast (second form): lemmas that the text Card uses. No condition of its own.
-/
import Derived.Test.YtaloeffmigffaaaGreatDoorMatched
import Derived.Test.YtaloeffmigffaaaGreatDoorFaultB
set_option linter.all false
set_option linter.unusedVariables false
set_option linter.unusedSimpArgs false
section
namespace Go.Proofs.YtaloeffmigffaaaGreatDoor
open Go.RowKit Go.Big
attribute [local go_sem] Heavy.uponW
def MatchRes (a b:Tm) (e:Ending) (w':World):Prop:=
  ∃ (sv:Value) (m:Bool) (c:Int),e = .returned (.tuple #[sv,.bool m,.int .i64 c]) ∧ (c = 0 ↔ a.faultE = 0 ∧ b.faultE = 0) ∧ (c = 0 → (m = true ↔ ∃ l,matchT a b [] = some l))
set_option maxRecDepth 100000 in
set_option maxHeartbeats 4000000 in
theorem Match_calls (a b:Tm) (n:Nat) (w:World) (vs us:List Value) (h:TmV n w a vs) (h':TmV n w b us) (hn:n ≤ w.heap.size) :
    Calls Tryz.prog 6 #[.agg vs.toArray,.agg us.toArray] w fun e w'=>MatchRes a b e w' ∧ Below w.heap.size w w':=by
  have h0:=h
  have h0':=h'
  have k1:Aside (∀ w2:World,Below w.heap.size w w2 → Calls Tryz.prog 19 #[.agg vs.toArray] w2 fun e w'=>e = .returned (.int .i64 a.faultE) ∧ Below w2.heap.size w2 w'):=fun w2 hb=>faultE_calls a n w2 vs (TmV.below hb hn _ _ h0) (Nat.le_trans hn hb.size)
  have k2:Aside (∀ w2:World,Below w.heap.size w w2 → Calls Tryz.prog 19 #[.agg us.toArray] w2 fun e w'=>e = .returned (.int .i64 b.faultE) ∧ Below w2.heap.size w2 w'):=fun w2 hb=>faultE_calls b n w2 us (TmV.below hb hn _ _ h0') (Nat.le_trans hn hb.size)
  have k3:Aside (∀ w2:World,Below w.heap.size w w2 → a.faultE = 0 → b.faultE = 0 → Calls Tryz.prog 20 #[.agg vs.toArray,.agg us.toArray,.slice none 0 0] w2 fun e w'=>MatR a b [] e w' ∧ Below w2.heap.size w2 w'):=fun w2 hb fa fb=>
    matched_calls a b n w2 vs us [] _ (faultE_split fa).2 (faultE_split fb).2 (TmV.below hb hn _ _ h0) (TmV.below hb hn _ _ h0') (bsV_nil _ _) (fun x hx=>by simp at hx) (Nat.le_trans hn hb.size) (by have:=(faultE_split fa).1;simp;omega)
  obtain ⟨RR,hRR⟩:∃ RR,MatchRes a b = RR:=⟨_,rfl⟩
  have hret0:∀ (sv:Value) (m:Bool) (c:Int) (w':World),(c = 0 ↔ a.faultE = 0 ∧ b.faultE = 0) → (c = 0 → (m = true ↔ ∃ l,matchT a b [] = some l)) → RR (.returned (.tuple #[sv,.bool m,.int .i64 c])) w':=fun sv m c w' x y=>by
    rw [← hRR];exact ⟨sv,m,c,rfl,x,y⟩
  rw [hRR]
  obtain ⟨Fa,hFa⟩:∃ Fa,a.faultE = Fa:=⟨_,rfl⟩
  obtain ⟨Fb,hFb⟩:∃ Fb,b.faultE = Fb:=⟨_,rfl⟩
  rw [hFa] at k1 k3 hret0
  rw [hFb] at k2 k3 hret0
  have hmt:Aside (∀ e w',MatR a b [] e w' → ∃ (sv:Value) (m:Bool),e = .returned (.tuple #[sv,.bool m]) ∧ (m = true ↔ ∃ l,matchT a b [] = some l)):=by
    show ∀ e w',_
    rintro e w' ⟨sv,m,L',e1,e2,e3⟩
    refine ⟨sv,m,e1,fun hm=>⟨L',(e2 hm).1⟩,fun ⟨l,hl⟩=>?_⟩
    cases m
    · rw [e3 rfl] at hl;exact absurd hl (by simp)
    · rfl
  obtain ⟨PP,hPP⟩:∃ PP:Prop,(∃ l,matchT a b [] = some l) = PP:=⟨_,rfl⟩
  rw [hPP] at hret0 hmt
  have hret:Aside (∀ (sv:Value) (m:Bool) (c:Int) (w':World),(c = 0 ↔ Fa = 0 ∧ Fb = 0) → (c = 0 → (m = true ↔ PP)) → RR (.returned (.tuple #[sv,.bool m,.int .i64 c])) w'):=hret0
  clear hret0 hPP hRR hFa hFb
  generalize MatR a b [] = MR at *
  obtain ⟨k,v,nm,g,num,den,args⟩:=a
  obtain ⟨k',v',nm',g',num',den',args'⟩:=b
  simp only [TmV] at h h'
  obtain ⟨s1,s2,p,c,rfl,⟨⟨p1,c1,rfl,_⟩,⟨p2,c2,rfl,_⟩⟩,_⟩:=h
  obtain ⟨t1,t2,p',c',rfl,⟨⟨p1',c1',rfl,_⟩,⟨p2',c2',rfl,_⟩⟩,_⟩:=h'
  generalize args.length = len at *
  generalize num.length = l1 at *
  generalize den.length = l2 at *
  generalize args'.length = len' at *
  generalize num'.length = l1' at *
  generalize den'.length = l2' at *
  obtain ⟨hBw,q1,q2,hsz⟩:=two_blocks w (.cells #[.int .i64 k,.int .i64 v,.string nm,.bool g,.slice p1 l1 c1,.slice p2 l2 c2,.slice p len c] 27) (.cells #[.int .i64 k',.int .i64 v',.string nm',.bool g',.slice p1' l1' c1',.slice p2' l2' c2',.slice p' len' c'] 27)
  obtain ⟨wb,hwb⟩:∃ wb,(w.alloc (.cells #[.int .i64 k,.int .i64 v,.string nm,.bool g,.slice p1 l1 c1,.slice p2 l2 c2,.slice p len c] 27)).alloc (.cells #[.int .i64 k',.int .i64 v',.string nm',.bool g',.slice p1' l1' c1',.slice p2' l2' c2',.slice p' len' c'] 27) = wb:=⟨_,rfl⟩
  rw [hwb] at hBw q1 q2 hsz
  have fa:Aside (∀ (w2:World) (hb:Below wb.heap.size wb w2),_):=fun w2 hb=>cells7 ((hb.block w.heap.size (by omega)).trans q1)
  have fb:Aside (∀ (w2:World) (hb:Below wb.heap.size wb w2),_):=fun w2 hb=>cells7 ((hb.block (w.heap.size + 1) (by omega)).trans q2)
  obtain ⟨x0,x1,x2,x3,x4,x5,x6⟩:=cells7 q1
  obtain ⟨y0,y1,y2,y3,y4,y5,y6⟩:=cells7 q2
  clear h0 h0' q1 q2
  show Calls Tryz.prog 6 #[.agg #[.int .i64 k,.int .i64 v,.string nm,.bool g,.slice p1 l1 c1,.slice p2 l2 c2,.slice p len c],.agg #[.int .i64 k',.int .i64 v',.string nm',.bool g',.slice p1' l1' c1',.slice p2' l2' c2',.slice p' len' c']] w _
  go_enter Tryz.func6,Tryz.ntmps6
  go_upto_region 1 with fail
  clear hwb
  have hB11:=below_alloc wb (.cells #[.int .i64 k,.int .i64 v,.string nm,.bool g,.slice p1 l1 c1,.slice p2 l2 c2,.slice p len c,.int .i64 k',.int .i64 v',.string nm',.bool g',.slice p1' l1' c1',.slice p2' l2' c2',.slice p' len' c'] 27)
  have hL11:=heap_alloc_new wb (.cells #[.int .i64 k,.int .i64 v,.string nm,.bool g,.slice p1 l1 c1,.slice p2 l2 c2,.slice p len c,.int .i64 k',.int .i64 v',.string nm',.bool g',.slice p1' l1' c1',.slice p2' l2' c2',.slice p' len' c'] 27)
  have hs11:(wb.alloc (.cells #[.int .i64 k,.int .i64 v,.string nm,.bool g,.slice p1 l1 c1,.slice p2 l2 c2,.slice p len c,.int .i64 k',.int .i64 v',.string nm',.bool g',.slice p1' l1' c1',.slice p2' l2' c2',.slice p' len' c'] 27)).heap.size = wb.heap.size + 1:=by simp
  have fL:Aside (∀ w2:World,Below (wb.heap.size + 1) (wb.alloc (.cells #[.int .i64 k,.int .i64 v,.string nm,.bool g,.slice p1 l1 c1,.slice p2 l2 c2,.slice p len c,.int .i64 k',.int .i64 v',.string nm',.bool g',.slice p1' l1' c1',.slice p2' l2' c2',.slice p' len' c'] 27)) w2 → w2.cell? ⟨wb.heap.size,0,none⟩ = some (.int .i64 k) ∧ w2.cell? ⟨wb.heap.size,1,none⟩ = some (.int .i64 v) ∧ w2.cell? ⟨wb.heap.size,2,none⟩ = some (.string nm) ∧ w2.cell? ⟨wb.heap.size,3,none⟩ = some (.bool g) ∧ w2.cell? ⟨wb.heap.size,4,none⟩ = some (.slice p1 l1 c1) ∧ w2.cell? ⟨wb.heap.size,5,none⟩ = some (.slice p2 l2 c2) ∧ w2.cell? ⟨wb.heap.size,6,none⟩ = some (.slice p len c) ∧
      w2.cell? ⟨wb.heap.size,7,none⟩ = some (.int .i64 k') ∧ w2.cell? ⟨wb.heap.size,8,none⟩ = some (.int .i64 v') ∧ w2.cell? ⟨wb.heap.size,9,none⟩ = some (.string nm') ∧ w2.cell? ⟨wb.heap.size,10,none⟩ = some (.bool g') ∧ w2.cell? ⟨wb.heap.size,11,none⟩ = some (.slice p1' l1' c1') ∧ w2.cell? ⟨wb.heap.size,12,none⟩ = some (.slice p2' l2' c2') ∧ w2.cell? ⟨wb.heap.size,13,none⟩ = some (.slice p' len' c')):=fun w2 hb=>by
    have:=(hb.block wb.heap.size (by omega)).trans hL11
    simp [World.cell?,this]
  clear hL11
  go_upto_region 2 with fail
  obtain ⟨wd,hwd⟩:∃ wd,wb.alloc (.cells #[.int .i64 k,.int .i64 v,.string nm,.bool g,.slice p1 l1 c1,.slice p2 l2 c2,.slice p len c,.int .i64 k',.int .i64 v',.string nm',.bool g',.slice p1' l1' c1',.slice p2' l2' c2',.slice p' len' c'] 27) = wd:=⟨_,rfl⟩
  rw [hwd] at fL hB11 hs11 ⊢
  clear hwd x0 x1 x2 x3 x4 x5 x6 y0 y1 y2 y3 y4 y5 y6
  go_loopw [16] (fun s wr=>∃ i:Nat,s = .int .i64 i ∧ i ≤ 2 ∧ Aside ((1 ≤ i → Fa = 0) ∧ (2 ≤ i → Fb = 0)) ∧ Below (wb.heap.size + 1) wd wr) (fun s _=>2 - (intOf s).toNat)
  case atStart=>exact ⟨0,rfl,by omega,⟨fun h=>absurd h (by omega),fun h=>absurd h (by omega)⟩,Below.refl _ _⟩
  case round=>
    obtain ⟨i,rfl,hi,hab,hB⟩:=hrel
    have hBb:Below wb.heap.size wb wr:=hB11.trans (hB.mono (by omega))
    have hBwr:Below w.heap.size w wr:=hBw.trans (hBb.mono hBw.size)
    have hBs:=hB.size
    obtain rfl | rfl | rfl:i = 0 ∨ i = 1 ∨ i = 2:=by omega
    · obtain ⟨m0,m1,m2,m3,m4,m5,m6,_⟩:=fL.out wr hB
      have hBx:=hBwr.alloc hBwr.size (.cells #[.int .i64 k,.int .i64 v,.string nm,.bool g,.slice p1 l1 c1,.slice p2 l2 c2,.slice p len c] 27)
      have dc:=k1.out (wr.alloc (.cells #[.int .i64 k,.int .i64 v,.string nm,.bool g,.slice p1 l1 c1,.slice p2 l2 c2,.slice p len c] 27)) hBx
      replace dc:Calls Tryz.prog 19 #[.agg #[.int .i64 k,.int .i64 v,.string nm,.bool g,.slice p1 l1 c1,.slice p2 l2 c2,.slice p len c]] _ _:=dc
      clear k1
      by_cases hf:Fa = 0
      · have hfA:Aside (Fa = 0):=hf
        have hfB:(Fa == 0) = true:=by simpa using hf
        clear hf
        go_wp2_with (go_at_call 19;with_reducible refine dc.mono ?_)
        first | rintro e w5 rfl hb5 | rintro e w5 ⟨rfl,hb5⟩
        go_wp2
        go_roundw
        case rel=>exact ⟨1,rfl,by omega,⟨fun h=>hfA.out,fun h=>absurd h (by omega)⟩,(hB.alloc (by have:=hB.size;omega) _).trans (hb5.mono (by simp;have:=hB.size;omega))⟩
        case measure=>simp [intOf]
      · have hfA:Aside (¬ Fa = 0):=hf
        have hfB:(Fa == 0) = false:=by simpa using hf
        clear hf
        go_wp2_with (go_at_call 19;with_reducible refine dc.mono ?_)
        first | rintro e w5 rfl hb5 | rintro e w5 ⟨rfl,hb5⟩
        have hb5s:=hb5.size
        have hB5:Below wb.heap.size wb w5:=hBb.trans (((below_alloc wr _).trans (hb5.mono (by simp))).mono hBb.size)
        have hRR:Aside (RR (.returned (.tuple #[.slice none 0 0,.bool false,.int .i64 Fa])) w5):=hret.out _ _ _ _ ⟨fun h=>absurd h hfA.out,fun h=>absurd h.1 hfA.out⟩ (fun h=>absurd h hfA.out)
        go_wp2
        go_ret3
        exact ⟨hRR.out,hBw.trans (hB5.mono hBw.size)⟩
    · obtain ⟨_,_,_,_,_,_,_,m0,m1,m2,m3,m4,m5,m6⟩:=fL.out wr hB
      have hBx:=hBwr.alloc hBwr.size (.cells #[.int .i64 k',.int .i64 v',.string nm',.bool g',.slice p1' l1' c1',.slice p2' l2' c2',.slice p' len' c'] 27)
      have dc:=k2.out (wr.alloc (.cells #[.int .i64 k',.int .i64 v',.string nm',.bool g',.slice p1' l1' c1',.slice p2' l2' c2',.slice p' len' c'] 27)) hBx
      replace dc:Calls Tryz.prog 19 #[.agg #[.int .i64 k',.int .i64 v',.string nm',.bool g',.slice p1' l1' c1',.slice p2' l2' c2',.slice p' len' c']] _ _:=dc
      clear k2
      by_cases hf:Fb = 0
      · have hfA:Aside (Fb = 0):=hf
        have hfB:(Fb == 0) = true:=by simpa using hf
        clear hf
        go_wp2_with (go_at_call 19;with_reducible refine dc.mono ?_)
        first | rintro e w5 rfl hb5 | rintro e w5 ⟨rfl,hb5⟩
        go_wp2
        go_roundw
        case rel=>exact ⟨2,rfl,by omega,⟨fun h=>hab.out.1 (by omega),fun h=>hfA.out⟩,(hB.alloc (by have:=hB.size;omega) _).trans (hb5.mono (by simp;have:=hB.size;omega))⟩
        case measure=>simp [intOf]
      · have hfA:Aside (¬ Fb = 0):=hf
        have hfB:(Fb == 0) = false:=by simpa using hf
        clear hf
        go_wp2_with (go_at_call 19;with_reducible refine dc.mono ?_)
        first | rintro e w5 rfl hb5 | rintro e w5 ⟨rfl,hb5⟩
        have hb5s:=hb5.size
        have hB5:Below wb.heap.size wb w5:=hBb.trans (((below_alloc wr _).trans (hb5.mono (by simp))).mono hBb.size)
        have hRR:Aside (RR (.returned (.tuple #[.slice none 0 0,.bool false,.int .i64 Fb])) w5):=hret.out _ _ _ _ ⟨fun h=>absurd h hfA.out,fun h=>absurd h.2 hfA.out⟩ (fun h=>absurd h hfA.out)
        go_wp2
        go_ret3
        exact ⟨hRR.out,hBw.trans (hB5.mono hBw.size)⟩
    · have hFa:=hab.out.1 (by omega)
      have hFb:=hab.out.2 (by omega)
      obtain ⟨x0,x1,x2,x3,x4,x5,x6⟩:=fa.out wr hBb
      obtain ⟨y0,y1,y2,y3,y4,y5,y6⟩:=fb.out wr hBb
      have dg:=k3.out wr hBwr hFa hFb
      replace dg:Calls Tryz.prog 20 #[.agg #[.int .i64 k,.int .i64 v,.string nm,.bool g,.slice p1 l1 c1,.slice p2 l2 c2,.slice p len c],.agg #[.int .i64 k',.int .i64 v',.string nm',.bool g',.slice p1' l1' c1',.slice p2' l2' c2',.slice p' len' c'],.slice none 0 0] _ _:=dg
      have hAA:Aside (Fa = 0 ∧ Fb = 0):=⟨hFa,hFb⟩
      clear k1 k2 k3 fL hFa hFb fa fb
      go_wp2_with (go_at_call 20;with_reducible refine dg.mono ?_)
      rintro e w5 ⟨hmr,hb5⟩
      obtain ⟨sv,m,rfl,hm⟩:=hmt.out e w5 hmr
      clear hmr dg hmt x0 x1 x2 x3 x4 x5 x6 y0 y1 y2 y3 y4 y5 y6
      cases m
      · have hRR:Aside (RR (.returned (.tuple #[.slice none 0 0,.bool false,.int .i64 0])) w5):=hret.out _ _ _ _ ⟨fun _=>hAA.out,fun _=>rfl⟩ (fun _=>hm)
        clear hm
        go_wp2
        go_ret3
        exact ⟨hRR.out,hBwr.trans (hb5.mono hBwr.size)⟩
      · have hRR:Aside (RR (.returned (.tuple #[sv,.bool true,.int .i64 0])) w5):=hret.out _ _ _ _ ⟨fun _=>hAA.out,fun _=>rfl⟩ (fun _=>hm)
        clear hm
        go_wp2
        go_ret3
        exact ⟨hRR.out,hBwr.trans (hb5.mono hBwr.size)⟩
end Go.Proofs.YtaloeffmigffaaaGreatDoor
end
