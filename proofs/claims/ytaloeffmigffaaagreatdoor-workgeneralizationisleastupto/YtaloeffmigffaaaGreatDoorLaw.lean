/-
  A part of the proof of the card of WorkGeneralizationIsLeast (second form): lemmas that the text Card uses. No condition of its own.
-/
import Derived.Test.YtaloeffmigffaaaGreatDoorMatch
import Derived.Test.YtaloeffmigffaaaGreatDoorTermB
set_option linter.all false
set_option linter.unusedVariables false
set_option linter.unusedSimpArgs false
section
namespace Go.Proofs.YtaloeffmigffaaaGreatDoor
open Go.RowKit Go.Big
attribute [local go_sem] Heavy.uponW
theorem fault_vd {T:Tm} (h:T.faultE = 0):T.vd:=errE_vd _ (faultE_split h).2
set_option maxRecDepth 100000 in
set_option maxHeartbeats 8000000 in
theorem law_calls (x y z:Tm) (n:Nat) (w:World) (vx vy vz:List Value) (hx:TmV n w x vx) (hy:TmV n w y vy) (hz:TmV n w z vz) (hn:n ≤ w.heap.size)
    (happ:∀ w',Below w.heap.size w w' → Calls Tryz.prog 5 #[] w' fun e w''=>e = .returned (.bool true) ∧ Below w'.heap.size w' w'') :
    Calls Tryz.prog 3 #[.agg vx.toArray,.agg vy.toArray,.agg vz.toArray] w fun e w'=>e = .returned (.bool true) ∧ Below w.heap.size w w':=by
  have hgen:Aside (∀ w2,Below w.heap.size w w2 → _):=fun (w2:World) (hb:Below w.heap.size w w2)=>Generalize_calls x y n w2 vx vy (TmV.below hb hn _ _ hx) (TmV.below hb hn _ _ hy) (Nat.le_trans hn hb.size)
  have hzx:Aside (∀ w2,Below w.heap.size w w2 → _):=fun (w2:World) (hb:Below w.heap.size w w2)=>Match_calls z x n w2 vz vx (TmV.below hb hn _ _ hz) (TmV.below hb hn _ _ hx) (Nat.le_trans hn hb.size)
  have hzy:Aside (∀ w2,Below w.heap.size w w2 → _):=fun (w2:World) (hb:Below w.heap.size w w2)=>Match_calls z y n w2 vz vy (TmV.below hb hn _ _ hz) (TmV.below hb hn _ _ hy) (Nat.le_trans hn hb.size)
  have hgx:Aside (∀ (w2:World) (t:Tm) (rs:List Value),Below w.heap.size w w2 → TmV w2.heap.size w2 t rs → Calls Tryz.prog 6 #[.agg rs.toArray,.agg vx.toArray] w2 fun e w'=>MatchRes t x e w' ∧ Below w2.heap.size w2 w'):=fun w2 t rs hb ht=>Match_calls t x w2.heap.size w2 rs vx ht (TmV.up (Nat.le_trans hn hb.size) _ _ (TmV.below hb hn _ _ hx)) (Nat.le_refl _)
  have hgy:Aside (∀ (w2:World) (t:Tm) (rs:List Value),Below w.heap.size w w2 → TmV w2.heap.size w2 t rs → Calls Tryz.prog 6 #[.agg rs.toArray,.agg vy.toArray] w2 fun e w'=>MatchRes t y e w' ∧ Below w2.heap.size w2 w'):=fun w2 t rs hb ht=>Match_calls t y w2.heap.size w2 rs vy ht (TmV.up (Nat.le_trans hn hb.size) _ _ (TmV.below hb hn _ _ hy)) (Nat.le_refl _)
  have hgz:Aside (∀ (w2:World) (t:Tm) (rs:List Value),Below w.heap.size w w2 → TmV w2.heap.size w2 t rs → Calls Tryz.prog 6 #[.agg vz.toArray,.agg rs.toArray] w2 fun e w'=>MatchRes z t e w' ∧ Below w2.heap.size w2 w'):=fun w2 t rs hb ht=>Match_calls z t w2.heap.size w2 vz rs (TmV.up (Nat.le_trans hn hb.size) _ _ (TmV.below hb hn _ _ hz)) ht (Nat.le_refl _)
  have hplain:Aside (x.faultE = 0 → y.faultE = 0 → (genT [] x y).faultE = 0 ∧ (∃ l,matchT (genT [] x y) x [] = some l) ∧ (∃ l,matchT (genT [] x y) y [] = some l) ∧ ((∃ l,matchT z x [] = some l) → (∃ l,matchT z y [] = some l) → ∃ l,matchT z (genT [] x y) [] = some l)):=fun hfx hfy=>by
    obtain ⟨a1,a2,a3⟩:=lgg_law x y z (fault_vd hfx) (fault_vd hfy)
    exact ⟨genT_fault hfx hfy,a1,a2,a3⟩
  have happA:Aside (∀ w',Below w.heap.size w w' → Calls Tryz.prog 5 #[] w' fun e w''=>e = .returned (.bool true) ∧ Below w'.heap.size w' w''):=happ
  have hgenE:Aside (∀ t,t = genT [] x y → (∀ e w',MatchRes t x e w' → ∃ (sv:Value) (m:Bool) (c:Int),e = .returned (.tuple #[sv,.bool m,.int .i64 c]) ∧ (c = 0 ↔ t.faultE = 0 ∧ x.faultE = 0) ∧ (c = 0 → (m = true ↔ ∃ l,matchT t x [] = some l)))):=fun t _ e w' h=>h
  clear happ
  obtain ⟨ka,va,nma,ga,numa,dena,argsa⟩:=x
  obtain ⟨kb,vb,nmb,gb,numb,denb,argsb⟩:=y
  obtain ⟨kc,vc,nmc,gc,numc,denc,argsc⟩:=z
  simp only [TmV] at hx hy hz
  obtain ⟨_,_,ra,ea,rfl,⟨⟨pa,ca,rfl,_⟩,⟨qa,da,rfl,_⟩⟩,_⟩:=hx
  obtain ⟨_,_,rb,eb,rfl,⟨⟨pb,cb,rfl,_⟩,⟨qb,db,rfl,_⟩⟩,_⟩:=hy
  obtain ⟨_,_,rc,ec,rfl,⟨⟨pc,cc,rfl,_⟩,⟨qc,dc,rfl,_⟩⟩,_⟩:=hz
  generalize argsa.length = lena at *
  generalize numa.length = la at *
  generalize dena.length = ma at *
  generalize argsb.length = lenb at *
  generalize numb.length = lb at *
  generalize denb.length = mb at *
  generalize argsc.length = lenc at *
  generalize numc.length = lc at *
  generalize denc.length = mc at *
  generalize Tm.mk ka va nma ga numa dena argsa = X at *
  generalize Tm.mk kb vb nmb gb numb denb argsb = Y at *
  generalize Tm.mk kc vc nmc gc numc denc argsc = Z at *
  obtain ⟨hBw,q1,q2,q3,hsz⟩:=three_blocks w (.cells #[.int .i64 ka,.int .i64 va,.string nma,.bool ga,.slice pa la ca,.slice qa ma da,.slice ra lena ea] 27) (.cells #[.int .i64 kb,.int .i64 vb,.string nmb,.bool gb,.slice pb lb cb,.slice qb mb db,.slice rb lenb eb] 27) (.cells #[.int .i64 kc,.int .i64 vc,.string nmc,.bool gc,.slice pc lc cc,.slice qc mc dc,.slice rc lenc ec] 27)
  obtain ⟨wb,hwb⟩:∃ wb,((w.alloc (.cells #[.int .i64 ka,.int .i64 va,.string nma,.bool ga,.slice pa la ca,.slice qa ma da,.slice ra lena ea] 27)).alloc (.cells #[.int .i64 kb,.int .i64 vb,.string nmb,.bool gb,.slice pb lb cb,.slice qb mb db,.slice rb lenb eb] 27)).alloc (.cells #[.int .i64 kc,.int .i64 vc,.string nmc,.bool gc,.slice pc lc cc,.slice qc mc dc,.slice rc lenc ec] 27) = wb:=⟨_,rfl⟩
  rw [hwb] at hBw q1 q2 q3 hsz
  have fa:Aside (∀ w2,Below wb.heap.size wb w2 → _):=fun (w2:World) (hb:Below wb.heap.size wb w2)=>cells7 ((hb.block w.heap.size (by omega)).trans q1)
  have fb:Aside (∀ w2,Below wb.heap.size wb w2 → _):=fun (w2:World) (hb:Below wb.heap.size wb w2)=>cells7 ((hb.block (w.heap.size + 1) (by omega)).trans q2)
  have fc:Aside (∀ w2,Below wb.heap.size wb w2 → _):=fun (w2:World) (hb:Below wb.heap.size wb w2)=>cells7 ((hb.block (w.heap.size + 1 + 1) (by omega)).trans q3)
  have hszA:Aside (wb.heap.size = w.heap.size + 3):=hsz
  obtain ⟨x0,x1,x2,x3,x4,x5,x6⟩:=fa.out wb (Below.refl _ _)
  obtain ⟨y0,y1,y2,y3,y4,y5,y6⟩:=fb.out wb (Below.refl _ _)
  clear q1 q2 q3 hsz
  have d1:=hgen.out wb hBw
  replace d1:Calls Tryz.prog 4 #[.agg #[.int .i64 ka,.int .i64 va,.string nma,.bool ga,.slice pa la ca,.slice qa ma da,.slice ra lena ea],.agg #[.int .i64 kb,.int .i64 vb,.string nmb,.bool gb,.slice pb lb cb,.slice qb mb db,.slice rb lenb eb]] wb _:=d1
  show Calls Tryz.prog 3 #[.agg #[.int .i64 ka,.int .i64 va,.string nma,.bool ga,.slice pa la ca,.slice qa ma da,.slice ra lena ea],.agg #[.int .i64 kb,.int .i64 vb,.string nmb,.bool gb,.slice pb lb cb,.slice qb mb db,.slice rb lenb eb],.agg #[.int .i64 kc,.int .i64 vc,.string nmc,.bool gc,.slice pc lc cc,.slice qc mc dc,.slice rc lenc ec]] w _
  go_enter Tryz.func3,Tryz.ntmps3
  go_upto_region 1 with fail
  clear hwb hgen
  go_wp2_with (go_at_call 4;with_reducible refine d1.mono ?_)
  first | rintro e w1 ⟨rs,c1,t,rfl,ht,hct,hb1⟩ | rintro e w1 rs c1 t rfl ht hct hb1
  clear d1 x0 x1 x2 x3 x4 x5 x6 y0 y1 y2 y3 y4 y5 y6
  have ht0:Aside (TmV w1.heap.size w1 t rs):=ht
  obtain ⟨kt,vt,nmt,gt,numt,dent,argst⟩:=t
  simp only [TmV] at ht
  obtain ⟨_,_,rt,et,rfl,⟨⟨pt,ct,rfl,_⟩,⟨qt,dt,rfl,_⟩⟩,_⟩:=ht
  generalize argst.length = lent at *
  generalize numt.length = lt at *
  generalize dent.length = mt at *
  generalize Tm.mk kt vt nmt gt numt dent argst = T at *
  have hB1:Below w.heap.size w w1:=hBw.trans (hb1.mono hBw.size)
  have hb1s:=hb1.size
  have hBx:Below wb.heap.size wb (w1.alloc (.cells #[.int .i64 kt,.int .i64 vt,.string nmt,.bool gt,.slice pt lt ct,.slice qt mt dt,.slice rt lent et] 27)):=hb1.alloc hb1.size _
  have hBwx:Below w.heap.size w (w1.alloc (.cells #[.int .i64 kt,.int .i64 vt,.string nmt,.bool gt,.slice pt lt ct,.slice qt mt dt,.slice rt lent et] 27)):=hBw.trans (hBx.mono hBw.size)
  have hTx:=TmV.below (below_alloc w1 (.cells #[.int .i64 kt,.int .i64 vt,.string nmt,.bool gt,.slice pt lt ct,.slice qt mt dt,.slice rt lent et] 27)) (Nat.le_refl _) _ _ ht0.out
  have hqt:=heap_alloc_new w1 (.cells #[.int .i64 kt,.int .i64 vt,.string nmt,.bool gt,.slice pt lt ct,.slice qt mt dt,.slice rt lent et] 27)
  have hxs:(w1.alloc (.cells #[.int .i64 kt,.int .i64 vt,.string nmt,.bool gt,.slice pt lt ct,.slice qt mt dt,.slice rt lent et] 27)).heap.size = w1.heap.size + 1:=by simp
  by_cases hc0:c1 = 0
  case neg=>
    have hcB:(c1 == 0) = false:=by simpa using hc0
    have d2:=happA.out _ hBwx
    clear hc0 hct hgx hgy hgz hzx hzy hplain fa fb fc hTx hqt
    go_wp2_with (go_at_call 5;with_reducible refine d2.mono ?_)
    first | rintro e w2 rfl hb2 | rintro e w2 ⟨rfl,hb2⟩
    go_wp2
    go_ret
    exact ⟨rfl,hBwx.trans (hb2.mono hBwx.size)⟩
  case pos=>
    subst hc0
    obtain ⟨hfx,hfy⟩:=hct.out.1.1 rfl
    have hTg:=hct.out.2 rfl
    obtain ⟨pf,pm1,pm2,pm3⟩:=hplain.out hfx hfy
    rw [← hTg] at pf pm1 pm2 pm3
    have hP:Aside (X.faultE = 0 ∧ Y.faultE = 0 ∧ T.faultE = 0 ∧ (∃ l,matchT T X [] = some l) ∧ (∃ l,matchT T Y [] = some l) ∧ ((∃ l,matchT Z X [] = some l) → (∃ l,matchT Z Y [] = some l) → ∃ l,matchT Z T [] = some l)):=⟨hfx,hfy,pf,pm1,pm2,pm3⟩
    clear hct hfx hfy hTg pf pm1 pm2 pm3 hplain hgenE
    obtain ⟨wx,hwx⟩:∃ wx,w1.alloc (.cells #[.int .i64 kt,.int .i64 vt,.string nmt,.bool gt,.slice pt lt ct,.slice qt mt dt,.slice rt lent et] 27) = wx:=⟨_,rfl⟩
    rw [hwx] at hBx hBwx hTx hqt hxs
    have ft:Aside (∀ w2,Below wx.heap.size wx w2 → _):=fun (w2:World) (hb:Below wx.heap.size wx w2)=>cells7 ((hb.block w1.heap.size (by omega)).trans hqt)
    have hTA:Aside (∀ w2,Below wx.heap.size wx w2 → TmV w2.heap.size w2 T [.int .i64 kt,.int .i64 vt,.string nmt,.bool gt,.slice pt lt ct,.slice qt mt dt,.slice rt lent et]):=fun w2 hb=>TmV.up (by have:=hb.size;omega) _ _ (TmV.below hb (by omega) _ _ hTx)
    clear hTx hqt ht0
    go_upto_region 4 with fail
    clear hwx
    have hr:=Below.refl wx.heap.size wx
    obtain ⟨t0,t1,t2,t3,t4,t5,t6⟩:=ft.out wx hr
    obtain ⟨x0,x1,x2,x3,x4,x5,x6⟩:=fa.out wx hBx
    have dd:=hgx.out wx T _ hBwx (hTA.out wx hr)
    replace dd:Calls Tryz.prog 6 #[.agg #[.int .i64 kt,.int .i64 vt,.string nmt,.bool gt,.slice pt lt ct,.slice qt mt dt,.slice rt lent et],.agg #[.int .i64 ka,.int .i64 va,.string nma,.bool ga,.slice pa la ca,.slice qa ma da,.slice ra lena ea]] _ _:=dd
    go_wp2_with (go_at_call 6;with_reducible refine dd.mono ?_)
    rintro e w4 ⟨hm,hb4⟩
    obtain ⟨s4,m4,c4,rfl,h1,h2⟩:=hm
    have hBx4:Below wx.heap.size wx w4:=hr.trans (hb4.mono hr.size)
    have hBb4:Below wb.heap.size wb w4:=hBx.trans (hBx4.mono hBx.size)
    have hBw4:Below w.heap.size w w4:=hBw.trans (hBb4.mono hBw.size)
    have hc4:c4 = 0:=h1.2 ⟨hP.out.2.2.1,hP.out.1⟩
    subst hc4
    have hm4:m4 = true:=(h2 rfl).2 hP.out.2.2.2.1
    subst hm4
    clear h1 h2
    clear dd t0 t1 t2 t3 t4 t5 t6 x0 x1 x2 x3 x4 x5 x6
    obtain ⟨t0,t1,t2,t3,t4,t5,t6⟩:=ft.out w4 hBx4
    obtain ⟨y0,y1,y2,y3,y4,y5,y6⟩:=fb.out w4 hBb4
    have dd:=hgy.out w4 T _ hBw4 (hTA.out w4 hBx4)
    replace dd:Calls Tryz.prog 6 #[.agg #[.int .i64 kt,.int .i64 vt,.string nmt,.bool gt,.slice pt lt ct,.slice qt mt dt,.slice rt lent et],.agg #[.int .i64 kb,.int .i64 vb,.string nmb,.bool gb,.slice pb lb cb,.slice qb mb db,.slice rb lenb eb]] _ _:=dd
    go_wp2_with (go_at_call 6;with_reducible refine dd.mono ?_)
    rintro e w5 ⟨hm,hb5⟩
    obtain ⟨s5,m5,c5,rfl,h1,h2⟩:=hm
    have hBx5:Below wx.heap.size wx w5:=hBx4.trans (hb5.mono hBx4.size)
    have hBb5:Below wb.heap.size wb w5:=hBx.trans (hBx5.mono hBx.size)
    have hBw5:Below w.heap.size w w5:=hBw.trans (hBb5.mono hBw.size)
    have hc5:c5 = 0:=h1.2 ⟨hP.out.2.2.1,hP.out.2.1⟩
    subst hc5
    have hm5:m5 = true:=(h2 rfl).2 hP.out.2.2.2.2.1
    subst hm5
    clear h1 h2
    clear dd t0 t1 t2 t3 t4 t5 t6 y0 y1 y2 y3 y4 y5 y6
    obtain ⟨z0,z1,z2,z3,z4,z5,z6⟩:=fc.out w5 hBb5
    obtain ⟨x0,x1,x2,x3,x4,x5,x6⟩:=fa.out w5 hBb5
    have dd:=hzx.out w5 hBw5
    replace dd:Calls Tryz.prog 6 #[.agg #[.int .i64 kc,.int .i64 vc,.string nmc,.bool gc,.slice pc lc cc,.slice qc mc dc,.slice rc lenc ec],.agg #[.int .i64 ka,.int .i64 va,.string nma,.bool ga,.slice pa la ca,.slice qa ma da,.slice ra lena ea]] _ _:=dd
    go_wp2_with (go_at_call 6;with_reducible refine dd.mono ?_)
    rintro e w6 ⟨hm,hb6⟩
    obtain ⟨s6,m6,c6,rfl,h1,h2⟩:=hm
    have hBx6:Below wx.heap.size wx w6:=hBx5.trans (hb6.mono hBx5.size)
    have hBb6:Below wb.heap.size wb w6:=hBx.trans (hBx6.mono hBx.size)
    have hBw6:Below w.heap.size w w6:=hBw.trans (hBb6.mono hBw.size)
    have h6:Aside ((c6 = 0 ↔ Z.faultE = 0 ∧ X.faultE = 0) ∧ (c6 = 0 → (m6 = true ↔ ∃ l,matchT Z X [] = some l))):=⟨h1,h2⟩
    clear h1 h2
    clear dd z0 z1 z2 z3 z4 z5 z6 x0 x1 x2 x3 x4 x5 x6
    obtain ⟨z0,z1,z2,z3,z4,z5,z6⟩:=fc.out w6 hBb6
    obtain ⟨y0,y1,y2,y3,y4,y5,y6⟩:=fb.out w6 hBb6
    have dd:=hzy.out w6 hBw6
    replace dd:Calls Tryz.prog 6 #[.agg #[.int .i64 kc,.int .i64 vc,.string nmc,.bool gc,.slice pc lc cc,.slice qc mc dc,.slice rc lenc ec],.agg #[.int .i64 kb,.int .i64 vb,.string nmb,.bool gb,.slice pb lb cb,.slice qb mb db,.slice rb lenb eb]] _ _:=dd
    go_wp2_with (go_at_call 6;with_reducible refine dd.mono ?_)
    rintro e w7 ⟨hm,hb7⟩
    obtain ⟨s7,m7,c7,rfl,h1,h2⟩:=hm
    have hBx7:Below wx.heap.size wx w7:=hBx6.trans (hb7.mono hBx6.size)
    have hBb7:Below wb.heap.size wb w7:=hBx.trans (hBx7.mono hBx.size)
    have hBw7:Below w.heap.size w w7:=hBw.trans (hBb7.mono hBw.size)
    have h7:Aside ((c7 = 0 ↔ Z.faultE = 0 ∧ Y.faultE = 0) ∧ (c7 = 0 → (m7 = true ↔ ∃ l,matchT Z Y [] = some l))):=⟨h1,h2⟩
    clear h1 h2
    clear dd z0 z1 z2 z3 z4 z5 z6 y0 y1 y2 y3 y4 y5 y6
    have d5:=happA.out w7 hBw7
    by_cases hg:c6 = 0 ∧ c7 = 0 ∧ m6 = true ∧ m7 = true
    case neg=>
      have hgA:Aside (¬ (c6 = 0 ∧ c7 = 0 ∧ m6 = true ∧ m7 = true)):=hg
      clear hg hgx hgy hgz hzx hzy hP ft fa fb fc hTA h6 h7
      by_cases e1:c6 = 0
      · subst e1
        by_cases e2:c7 = 0
        · subst e2
          cases m6 <;> cases m7
          · (go_wp2_with (go_at_call 5;with_reducible refine d5.mono ?_));(first | rintro e w8 rfl hb8 | rintro e w8 ⟨rfl,hb8⟩);go_wp2;go_ret;exact ⟨rfl,hBw7.trans (hb8.mono hBw7.size)⟩
          · (go_wp2_with (go_at_call 5;with_reducible refine d5.mono ?_));(first | rintro e w8 rfl hb8 | rintro e w8 ⟨rfl,hb8⟩);go_wp2;go_ret;exact ⟨rfl,hBw7.trans (hb8.mono hBw7.size)⟩
          · (go_wp2_with (go_at_call 5;with_reducible refine d5.mono ?_));(first | rintro e w8 rfl hb8 | rintro e w8 ⟨rfl,hb8⟩);go_wp2;go_ret;exact ⟨rfl,hBw7.trans (hb8.mono hBw7.size)⟩
          · exact absurd ⟨rfl,rfl,rfl,rfl⟩ hgA.out
        · have e2B:(c7 == 0) = false:=by simpa using e2
          clear hgA
          cases m6 <;> cases m7 <;> ((go_wp2_with (go_at_call 5;with_reducible refine d5.mono ?_));(first | rintro e w8 rfl hb8 | rintro e w8 ⟨rfl,hb8⟩);go_wp2;go_ret;exact ⟨rfl,hBw7.trans (hb8.mono hBw7.size)⟩)
      · have e1B:(c6 == 0) = false:=by simpa using e1
        clear hgA
        by_cases e2:c7 = 0
        · subst e2
          cases m6 <;> cases m7 <;> ((go_wp2_with (go_at_call 5;with_reducible refine d5.mono ?_));(first | rintro e w8 rfl hb8 | rintro e w8 ⟨rfl,hb8⟩);go_wp2;go_ret;exact ⟨rfl,hBw7.trans (hb8.mono hBw7.size)⟩)
        · have e2B:(c7 == 0) = false:=by simpa using e2
          cases m6 <;> cases m7 <;> ((go_wp2_with (go_at_call 5;with_reducible refine d5.mono ?_));(first | rintro e w8 rfl hb8 | rintro e w8 ⟨rfl,hb8⟩);go_wp2;go_ret;exact ⟨rfl,hBw7.trans (hb8.mono hBw7.size)⟩)
    obtain ⟨rfl,rfl,rfl,rfl⟩:=hg
    have hZ:Z.faultE = 0:=(h6.out.1.1 rfl).1
    have hmz:=hP.out.2.2.2.2.2 ((h6.out.2 rfl).1 rfl) ((h7.out.2 rfl).1 rfl)
    have hZA:Aside (Z.faultE = 0 ∧ ∃ l,matchT Z T [] = some l):=⟨hZ,hmz⟩
    clear d5 h6 h7 hZ hmz hzx hzy hgx hgy
    obtain ⟨z0,z1,z2,z3,z4,z5,z6⟩:=fc.out w7 hBb7
    obtain ⟨t0,t1,t2,t3,t4,t5,t6⟩:=ft.out w7 hBx7
    have dd:=hgz.out w7 T _ hBw7 (hTA.out w7 hBx7)
    replace dd:Calls Tryz.prog 6 #[.agg #[.int .i64 kc,.int .i64 vc,.string nmc,.bool gc,.slice pc lc cc,.slice qc mc dc,.slice rc lenc ec],.agg #[.int .i64 kt,.int .i64 vt,.string nmt,.bool gt,.slice pt lt ct,.slice qt mt dt,.slice rt lent et]] _ _:=dd
    go_wp2_with (go_at_call 6;with_reducible refine dd.mono ?_)
    rintro e w8 ⟨hm,hb8⟩
    obtain ⟨s8,m8,c8,rfl,h1,h2⟩:=hm
    have hBx8:Below wx.heap.size wx w8:=hBx7.trans (hb8.mono hBx7.size)
    have hBb8:Below wb.heap.size wb w8:=hBx.trans (hBx8.mono hBx.size)
    have hBw8:Below w.heap.size w w8:=hBw.trans (hBb8.mono hBw.size)
    have hc8:c8 = 0:=h1.2 ⟨hZA.out.1,hP.out.2.2.1⟩
    subst hc8
    have hm8:m8 = true:=(h2 rfl).2 hZA.out.2
    subst hm8
    clear h1 h2
    clear dd z0 z1 z2 z3 z4 z5 z6 t0 t1 t2 t3 t4 t5 t6
    have d5:=happA.out w8 hBw8
    clear hgz hP ft fa fb fc hTA hZA
    go_wp2_with (go_at_call 5;with_reducible refine d5.mono ?_)
    first | rintro e w9 rfl hb9 | rintro e w9 ⟨rfl,hb9⟩
    go_wp2
    go_ret
    exact ⟨rfl,hBw8.trans (hb9.mono hBw8.size)⟩
end Go.Proofs.YtaloeffmigffaaaGreatDoor
end
