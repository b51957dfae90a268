/-
  A part of the proof of the card of WorkGeneralizationIsLeast (second form): lemmas that the text Card uses. No condition of its own.
-/
import Derived.Test.YtaloeffmigffaaaGreatDoorRefC
set_option linter.all false
set_option linter.unusedVariables false
set_option linter.unusedSimpArgs false
section
namespace Go.Proofs.YtaloeffmigffaaaGreatDoor
open Go.RowKit Go.Big
mutual
def TmS (S:Nat → Prop) (w:World):Tm → List Value → Prop
  | .mk k v nm g num den args,vs=>∃ a1 c1 a2 c2 a c,vs = [.int .i64 k,.int .i64 v,.string nm,.bool g,.slice a1 num.length c1,.slice a2 den.length c2,.slice a args.length c] ∧ LimS S w a1 num ∧ LimS S w a2 den ∧ TmsS S w args a 0 ∧ args.length ≤ 1048576 ∧ num.length ≤ 1048576 ∧ den.length ≤ 1048576
def TmsS (S:Nat → Prop) (w:World):List Tm → Option Addr → Nat → Prop
  | [],_,_=>True
  | T :: r,a,i=>(∃ b off vs,a = some ⟨b,off,none⟩ ∧ S b ∧ (∀ (j:Nat) u,vs[j]? = some u → w.cell? ⟨b,off + i * 7 + j,none⟩ = some u) ∧ TmS S w T vs) ∧ TmsS S w r a (i + 1)
end
mutual
theorem TmS.mono {S S':Nat → Prop} {w:World} (hS:∀ k,S k → S' k):∀ (T:Tm) (vs:List Value),TmS S w T vs → TmS S' w T vs
  | .mk k v nm g num den args,vs,h=>by
    simp only [TmS] at h ⊢
    obtain ⟨a1,c1,a2,c2,a,c,e,h1,h2,h3,h4⟩:=h
    exact ⟨a1,c1,a2,c2,a,c,e,h1.mono hS,h2.mono hS,TmsS.mono hS args a 0 h3,h4⟩
theorem TmsS.mono {S S':Nat → Prop} {w:World} (hS:∀ k,S k → S' k):∀ (L:List Tm) (a:Option Addr) (i:Nat),TmsS S w L a i → TmsS S' w L a i
  | [],_,_,_=>by simp only [TmsS]
  | T :: r,a,i,h=>by
    simp only [TmsS] at h ⊢
    obtain ⟨⟨b,off,vs,e,hb,hc,hv⟩,hr⟩:=h
    exact ⟨⟨b,off,vs,e,hS b hb,hc,TmS.mono hS T vs hv⟩,TmsS.mono hS r a (i + 1) hr⟩
end
mutual
theorem TmS.keep {S:Nat → Prop} {w w':World} (hk:Same S w w'):∀ (T:Tm) (vs:List Value),TmS S w T vs → TmS S w' T vs
  | .mk k v nm g num den args,vs,h=>by
    simp only [TmS] at h ⊢
    obtain ⟨a1,c1,a2,c2,a,c,e,h1,h2,h3,h4⟩:=h
    exact ⟨a1,c1,a2,c2,a,c,e,h1.keep hk,h2.keep hk,TmsS.keep hk args a 0 h3,h4⟩
theorem TmsS.keep {S:Nat → Prop} {w w':World} (hk:Same S w w'):∀ (L:List Tm) (a:Option Addr) (i:Nat),TmsS S w L a i → TmsS S w' L a i
  | [],_,_,_=>by simp only [TmsS]
  | T :: r,a,i,h=>by
    simp only [TmsS] at h ⊢
    obtain ⟨⟨b,off,vs,e,hb,hc,hv⟩,hr⟩:=h
    exact ⟨⟨b,off,vs,e,hb,fun j u hj=>(hk.cell (p:=⟨b,off + i * 7 + j,none⟩) hb).trans (hc j u hj),TmS.keep hk T vs hv⟩,TmsS.keep hk r a (i + 1) hr⟩
end
mutual
theorem TmS.toV {S:Nat → Prop} {n:Nat} {w:World} (hS:∀ k,S k → k < n):∀ (T:Tm) (vs:List Value),TmS S w T vs → TmV n w T vs
  | .mk k v nm g num den args,vs,h=>by
    simp only [TmS] at h
    simp only [TmV]
    obtain ⟨a1,c1,a2,c2,a,c,e,h1,h2,h3,h4⟩:=h
    exact ⟨_,_,a,c,e,⟨⟨a1,c1,rfl,h1.toAt hS⟩,⟨a2,c2,rfl,h2.toAt hS⟩⟩,TmsS.toV hS args a 0 h3,h4⟩
theorem TmsS.toV {S:Nat → Prop} {n:Nat} {w:World} (hS:∀ k,S k → k < n):∀ (L:List Tm) (a:Option Addr) (i:Nat),TmsS S w L a i → TmsV n w L a i
  | [],_,_,_=>by simp only [TmsV]
  | T :: r,a,i,h=>by
    simp only [TmsS] at h
    simp only [TmsV]
    obtain ⟨⟨b,off,vs,e,hb,hc,hv⟩,hr⟩:=h
    exact ⟨⟨b,off,vs,e,hS b hb,hc,TmS.toV hS T vs hv⟩,TmsS.toV hS r a (i + 1) hr⟩
end
theorem tmsS_of {S:Nat → Prop} {w:World} {b off:Nat} (hb:S b):∀ (L:List Tm) (i:Nat),(∀ k T,L[k]? = some T → ∃ vs,(∀ (j:Nat) u,vs[j]? = some u → w.cell? ⟨b,off + (i + k) * 7 + j,none⟩ = some u) ∧ TmS S w T vs) → TmsS S w L (some ⟨b,off,none⟩) i
  | [],_,_=>by simp only [TmsS]
  | T :: r,i,h=>by
    simp only [TmsS]
    obtain ⟨vs,h1,h2⟩:=h 0 T rfl
    refine ⟨⟨b,off,vs,rfl,hb,fun j u hj=>by have:=h1 j u hj;rwa [Nat.add_zero] at this,h2⟩,tmsS_of hb r (i + 1) fun k T' hk=>?_⟩
    obtain ⟨vs',h3,h4⟩:=h (k + 1) T' (by simpa using hk)
    exact ⟨vs',fun j u hj=>by have:=h3 j u hj;rwa [show i + (k + 1) = i + 1 + k by omega] at this,h4⟩
end Go.Proofs.YtaloeffmigffaaaGreatDoor
end
section
namespace Go.Proofs.YtaloeffmigffaaaGreatDoor
open Go.RowKit Go.Big
attribute [local go_sem] Heavy.uponW
theorem frozen_of {w:World} {g:Nat} {C:Array Value} {t:TypeId} (h:w.heap[g]? = some (.cells C t (0,0))) (o:Nat):w.frozen? ⟨g,o,none⟩ = false:=by
  simp [World.frozen?,h]
theorem heap_setCell_same {w:World} {b i:Nat} {cs:Array Value} {T:TypeId} {fr:Nat × Nat} (hb:w.heap[b]? = some (.cells cs T fr)) (v:Value) :
    (w.setCell ⟨b,i,none⟩ v).heap[b]? = some (.cells (cs.setIfInBounds i v) T fr):=by
  simp [World.setCell,Array.getElem?_modify,hb]
theorem set7 {w:World} {g:Nat} {u0 u1 u2 u3 u4 u5 u6 v0 v1 v2 v3 v4 v5 v6:Value} {t:TypeId} (h:w.heap[g]? = some (.cells #[u0,u1,u2,u3,u4,u5,u6] t (0,0))) :
    (((((((w.setCell ⟨g,0,none⟩ v0).setCell ⟨g,1,none⟩ v1).setCell ⟨g,2,none⟩ v2).setCell ⟨g,3,none⟩ v3).setCell ⟨g,4,none⟩ v4).setCell ⟨g,5,none⟩ v5).setCell ⟨g,6,none⟩ v6).heap[g]? = some (.cells #[v0,v1,v2,v3,v4,v5,v6] t (0,0)) ∧
    (∀ b,b ≠ g → (((((((w.setCell ⟨g,0,none⟩ v0).setCell ⟨g,1,none⟩ v1).setCell ⟨g,2,none⟩ v2).setCell ⟨g,3,none⟩ v3).setCell ⟨g,4,none⟩ v4).setCell ⟨g,5,none⟩ v5).setCell ⟨g,6,none⟩ v6).heap[b]? = w.heap[b]?) ∧
    Below g w (((((((w.setCell ⟨g,0,none⟩ v0).setCell ⟨g,1,none⟩ v1).setCell ⟨g,2,none⟩ v2).setCell ⟨g,3,none⟩ v3).setCell ⟨g,4,none⟩ v4).setCell ⟨g,5,none⟩ v5).setCell ⟨g,6,none⟩ v6):=by
  refine ⟨?_,fun b hb=>?_,?_⟩
  · have:=heap_setCell_same (heap_setCell_same (heap_setCell_same (heap_setCell_same (heap_setCell_same (heap_setCell_same (heap_setCell_same h (i:=0) v0) (i:=1) v1) (i:=2) v2) (i:=3) v3) (i:=4) v4) (i:=5) v5) (i:=6) v6
    simpa using this
  · iterate 7 rw [Below.heap_setCell _ _ _ _ (by exact hb)]
  · iterate 7 refine Below.setCell ?_ (Nat.le_refl g) _
    exact Below.refl _ _
def CloneOk (T:Tm):Prop:=∀ (n:Nat) (w:World) (vs:List Value),TmV n w T vs → n ≤ w.heap.size →
    Calls Tryz.prog 8 #[.agg vs.toArray] w fun e w'=>∃ vs',e = .returned (.agg vs'.toArray) ∧ TmS (Fresh w.heap.size w'.heap.size) w' T vs' ∧ Below w.heap.size w w'
theorem set7at {w:World} {g o:Nat} {C:Array Value} {v0 v1 v2 v3 v4 v5 v6:Value} {t:TypeId} (h:w.heap[g]? = some (.cells C t (0,0))) (ho:o + 7 ≤ C.size) :
    ∃ C':Array Value,(((((((w.setCell ⟨g,o,none⟩ v0).setCell ⟨g,o + 1,none⟩ v1).setCell ⟨g,o + 2,none⟩ v2).setCell ⟨g,o + 3,none⟩ v3).setCell ⟨g,o + 4,none⟩ v4).setCell ⟨g,o + 5,none⟩ v5).setCell ⟨g,o + 6,none⟩ v6).heap[g]? = some (.cells C' t (0,0)) ∧
    C'.size = C.size ∧ (∀ j,j < o ∨ o + 7 ≤ j → C'[j]? = C[j]?) ∧ (∀ (m:Nat) u,[v0,v1,v2,v3,v4,v5,v6][m]? = some u → C'[o + m]? = some u) ∧
    (∀ b,b ≠ g → (((((((w.setCell ⟨g,o,none⟩ v0).setCell ⟨g,o + 1,none⟩ v1).setCell ⟨g,o + 2,none⟩ v2).setCell ⟨g,o + 3,none⟩ v3).setCell ⟨g,o + 4,none⟩ v4).setCell ⟨g,o + 5,none⟩ v5).setCell ⟨g,o + 6,none⟩ v6).heap[b]? = w.heap[b]?) ∧
    Below g w (((((((w.setCell ⟨g,o,none⟩ v0).setCell ⟨g,o + 1,none⟩ v1).setCell ⟨g,o + 2,none⟩ v2).setCell ⟨g,o + 3,none⟩ v3).setCell ⟨g,o + 4,none⟩ v4).setCell ⟨g,o + 5,none⟩ v5).setCell ⟨g,o + 6,none⟩ v6):=by
  refine ⟨_,heap_setCell_same (heap_setCell_same (heap_setCell_same (heap_setCell_same (heap_setCell_same (heap_setCell_same (heap_setCell_same h (i:=o) v0) (i:=o + 1) v1) (i:=o + 2) v2) (i:=o + 3) v3) (i:=o + 4) v4) (i:=o + 5) v5) (i:=o + 6) v6,by simp,fun j hj=>?_,fun m u hm=>?_,fun b hb=>?_,?_⟩
  · iterate 7 rw [Array.getElem?_setIfInBounds_ne (by omega)]
  · match m,hm with
    | 0,hm=>
      cases hm
      iterate 6 rw [Array.getElem?_setIfInBounds_ne (by omega)]
      rw [Nat.add_zero,Array.getElem?_setIfInBounds_self_of_lt (by omega)]
    | 1,hm=>
      cases hm
      iterate 5 rw [Array.getElem?_setIfInBounds_ne (by omega)]
      rw [Array.getElem?_setIfInBounds_self_of_lt (by simp;omega)]
    | 2,hm=>
      cases hm
      iterate 4 rw [Array.getElem?_setIfInBounds_ne (by omega)]
      rw [Array.getElem?_setIfInBounds_self_of_lt (by simp;omega)]
    | 3,hm=>
      cases hm
      iterate 3 rw [Array.getElem?_setIfInBounds_ne (by omega)]
      rw [Array.getElem?_setIfInBounds_self_of_lt (by simp;omega)]
    | 4,hm=>
      cases hm
      iterate 2 rw [Array.getElem?_setIfInBounds_ne (by omega)]
      rw [Array.getElem?_setIfInBounds_self_of_lt (by simp;omega)]
    | 5,hm=>
      cases hm
      iterate 1 rw [Array.getElem?_setIfInBounds_ne (by omega)]
      rw [Array.getElem?_setIfInBounds_self_of_lt (by simp;omega)]
    | 6,hm=>
      cases hm
      rw [Array.getElem?_setIfInBounds_self_of_lt (by simp;omega)]
    | m + 7,hm=>simp at hm
  · iterate 7 rw [Below.heap_setCell _ _ _ _ (by exact hb)]
  · iterate 7 refine Below.setCell ?_ (Nat.le_refl g) _
    exact Below.refl _ _
def zTm:Value:=.agg #[.int .i64 0,.int .i64 0,.string { data:=#[] },.bool false,.slice none 0 0,.slice none 0 0,.slice none 0 0]
theorem inf27:(Tryz.prog.info? 27).map (fun i=>(i.zero,i.size,i.bytes)) = some (some zTm,7,112):=by kernel_rfl
theorem mkTerms_run (len:Nat) (hb:len ≤ 1048576) (w:World):(Instr.makeSlice 25 (.int .i64 len) (.int .i64 len)).run Tryz.prog w = .ok (.slice (some ⟨w.heap.size,0,none⟩) len len) (w.alloc (.cells (madeCells zTm.cells (len * 7)) 27)):=by
  obtain ⟨i0,hi,hz0,hz1,hz2⟩:=info_parts inf27
  have:=run_make (P:=Tryz.prog) w 25 27 i0 zTm Tryz.underlying25 hi hz0 .i64 .i64 len len (by omega) (Int.le_refl _) (by rw [hz2];omega) (by omega)
  rw [hz1] at this
  simpa using this
set_option maxRecDepth 100000 in
set_option maxHeartbeats 4000000 in
theorem clone_step (k v:Int) (nm:ByteArray) (g:Bool) (num den:List Nat) (args:List Tm) (ih:∀ T' ∈ args,CloneOk T'):CloneOk (.mk k v nm g num den args):=by
    intro n w vs h hn
    simp only [TmV] at h
    obtain ⟨s1,s2,a,c,rfl,⟨⟨p1,q1,rfl,hA⟩,⟨p2,q2,rfl,hC⟩⟩,h2,hbig,hbA,hbC⟩:=h
    obtain ⟨len,hl⟩:∃ len,args.length = len:=⟨_,rfl⟩
    obtain ⟨l1,hl1⟩:∃ l1,num.length = l1:=⟨_,rfl⟩
    obtain ⟨l2,hl2⟩:∃ l2,den.length = l2:=⟨_,rfl⟩
    rw [hl] at hbig ⊢
    rw [hl1] at hbA ⊢
    rw [hl2] at hbC ⊢
    show Calls Tryz.prog 8 #[.agg #[.int .i64 k,.int .i64 v,.string nm,.bool g,.slice p1 l1 q1,.slice p2 l2 q2,.slice a len c]] w _
    have Al:Aside (args.length = len ∧ num.length = l1 ∧ den.length = l2):=⟨hl,hl1,hl2⟩
    obtain ⟨wb,hwb⟩:∃ wb,(w.alloc (Obj.cells #[.int .i64 k,.int .i64 v,.string nm,.bool g,.slice p1 l1 q1,.slice p2 l2 q2,.slice a len c] 27)).alloc (Obj.cells #[.int .i64 0,.int .i64 0,.string { data:=#[] },.bool false,.slice none 0 0,.slice none 0 0,.slice none 0 0] 27) = wb:=⟨_,rfl⟩
    obtain ⟨hBw,hq1,hq2⟩:=two_blocks w (Obj.cells #[.int .i64 k,.int .i64 v,.string nm,.bool g,.slice p1 l1 q1,.slice p2 l2 q2,.slice a len c] 27) (Obj.cells #[.int .i64 0,.int .i64 0,.string { data:=#[] },.bool false,.slice none 0 0,.slice none 0 0,.slice none 0 0] 27)
    have hsz:wb.heap.size = w.heap.size + 2:=by rw [← hwb];simp
    have hsA:Aside (wb.heap.size = w.heap.size + 2):=hsz
    rw [hwb] at hBw hq1 hq2
    have fc:∀ w2,Below wb.heap.size wb w2 → _:=fun w2 hb=>cells7 ((hb.block w.heap.size (by omega)).trans hq1)
    obtain ⟨x0,x1,x2,x3,x4,x5,x6⟩:=fc wb (Below.refl _ _)
    have hnb:n ≤ wb.heap.size:=by omega
    have d1:∀ w2,Below wb.heap.size wb w2 → Calls Tryz.prog 23 #[.slice p1 l1 q1] w2 fun e w'=>∃ sv,e = .returned sv ∧ (∃ a c,sv = .slice a num.length c ∧ LimS (Fresh w2.heap.size w'.heap.size) w' a num) ∧ Below w2.heap.size w2 w':=fun w2 hb=>rclone_calls (.slice p1 l1 q1) n num (by omega) w2 (Nat.le_trans hnb hb.size) ⟨p1,q1,by rw [hl1],(hA.below hBw hn).below hb hnb⟩
    have d2:∀ w2,Below wb.heap.size wb w2 → Calls Tryz.prog 23 #[.slice p2 l2 q2] w2 fun e w'=>∃ sv,e = .returned sv ∧ (∃ a c,sv = .slice a den.length c ∧ LimS (Fresh w2.heap.size w'.heap.size) w' a den) ∧ Below w2.heap.size w2 w':=fun w2 hb=>rclone_calls (.slice p2 l2 q2) n den (by omega) w2 (Nat.le_trans hnb hb.size) ⟨p2,q2,by rw [hl2],(hC.below hBw hn).below hb hnb⟩
    clear hl hl1 hl2 hA hC hsz
    go_enter Tryz.func8,Tryz.ntmps8
    go_upto_region 1 with fail
    clear hwb
    have hBd:Below wb.heap.size wb { wb with drawn:=wb.drawn + 1 }:=below_drew wb
    refine Heavy.region_plan (fun w'=>Below wb.heap.size wb w') 10 (Heavy.lights [0,1,2,4,5,6] (.one 3 (Heavy.lights [8,9] (.one 7 .done)))) (by kernel_rfl) (by kernel_rfl) hBd ?_
    simp only [Heavy.lights,List.take_succ_cons,List.take_zero,List.drop_succ_cons,List.drop_zero]
    iterate 6 (apply Heavy.light_n;(exact rfl);(exact rfl);(intro wr2 hw;have ka4:=(fc wr2 hw).2.2.2.2.1;have ka5:=(fc wr2 hw).2.2.2.2.2.1;go_simp;exact rfl))
    apply Heavy.one_n
    · exact rfl
    · exact rfl
    go_simp
    refine (d1 _ hBd).mono ?_
    rintro e w3 ⟨sv1,rfl,⟨b1,e1,rfl,hL1⟩,hb3⟩
    have hB3:Below wb.heap.size wb w3:=hBd.trans hb3
    refine ⟨_,rfl,hB3,?_⟩
    iterate 2 (apply Heavy.light_n;(exact rfl);(exact rfl);(intro wr2 hw;go_simp;exact rfl))
    apply Heavy.one_n
    · exact rfl
    · exact rfl
    go_simp
    refine (d2 _ hB3).mono ?_
    rintro e w4 ⟨sv2,rfl,⟨b2,e2,rfl,hL2⟩,hb4⟩
    have hB4:Below wb.heap.size wb w4:=hB3.trans (hb4.mono hB3.size)
    refine ⟨_,rfl,hB4,?_⟩
    refine Heavy.plan_end ?_
    have hq4:w4.heap[w.heap.size]? = some (Obj.cells #[.int .i64 k,.int .i64 v,.string nm,.bool g,.slice p1 l1 q1,.slice p2 l2 q2,.slice a len c] 27 (0,0)):=(hB4.block w.heap.size (by have:=hsA.out;omega)).trans hq1
    have hr4:w4.heap[w.heap.size + 1]? = some (Obj.cells #[.int .i64 0,.int .i64 0,.string { data:=#[] },.bool false,.slice none 0 0,.slice none 0 0,.slice none 0 0] 27 (0,0)):=(hB4.block (w.heap.size + 1) (by have:=hsA.out;omega)).trans hq2.1
    have z4:∀ o,w4.frozen? ⟨w.heap.size,o,none⟩ = false:=fun o=>frozen_of hq4 o
    obtain ⟨y0,y1,y2,y3,y4,y5,y6⟩:=cells7 hq4
    have hsA4:Aside (wb.heap.size ≤ w4.heap.size ∧ wb.heap.size ≤ w3.heap.size ∧ w3.heap.size ≤ w4.heap.size):=⟨hB4.size,hB3.size,hb4.size⟩
    have hBc:=(hBw.trans (hB4.mono (by have:=hsA.out;omega)))
    go_upto_region 2 with fail
    have hq5:=heap_setCell_same (heap_setCell_same hq4 (i:=4) (.slice b1 num.length e1)) (i:=5) (.slice b2 den.length e2)
    have hr5:((w4.setCell ⟨w.heap.size,4,none⟩ (.slice b1 num.length e1)).setCell ⟨w.heap.size,5,none⟩ (.slice b2 den.length e2)).heap[w.heap.size + 1]? = _:=(Below.heap_setCell _ ⟨w.heap.size,5,none⟩ _ _ (by show w.heap.size + 1 ≠ w.heap.size;omega)).trans ((Below.heap_setCell _ ⟨w.heap.size,4,none⟩ _ _ (by show w.heap.size + 1 ≠ w.heap.size;omega)).trans hr4)
    have hS4:Same (fun b=>w.heap.size + 2 ≤ b) w4 ((w4.setCell ⟨w.heap.size,4,none⟩ (.slice b1 num.length e1)).setCell ⟨w.heap.size,5,none⟩ (.slice b2 den.length e2)):=fun b hb=>(Below.heap_setCell _ ⟨w.heap.size,5,none⟩ _ _ (by show b ≠ w.heap.size;omega)).trans (Below.heap_setCell _ ⟨w.heap.size,4,none⟩ _ _ (by show b ≠ w.heap.size;omega))
    have hBe:Below w.heap.size w ((w4.setCell ⟨w.heap.size,4,none⟩ (.slice b1 num.length e1)).setCell ⟨w.heap.size,5,none⟩ (.slice b2 den.length e2)):=(hBc.setCell (p:=⟨w.heap.size,4,none⟩) (Nat.le_refl _) _).setCell (p:=⟨w.heap.size,5,none⟩) (Nat.le_refl _) _
    obtain ⟨wc,hwc⟩:∃ wc,(w4.setCell ⟨w.heap.size,4,none⟩ (.slice b1 num.length e1)).setCell ⟨w.heap.size,5,none⟩ (.slice b2 den.length e2) = wc:=⟨_,rfl⟩
    have hzc:wc.heap.size = w4.heap.size:=by rw [← hwc];simp
    rw [hwc] at hq5 hr5 hS4 hBe ⊢
    have hL1':LimS (Fresh (w.heap.size + 2) wc.heap.size) wc b1 num:=((hL1.keep (Same.of_below hb4 fun k hk=>hk.2)).mono fun k hk=>⟨by have:=hk.1;have:=hBd.size;have:=hsA.out;have e:({ wb with drawn:=wb.drawn + 1 }:World).heap.size = wb.heap.size:=rfl;omega,by have:=hk.2;have:=hsA4.out;omega⟩).keep (fun b hb=>hS4 b hb.1)
    have hL2':LimS (Fresh (w.heap.size + 2) wc.heap.size) wc b2 den:=(hL2.mono fun k hk=>⟨by have:=hk.1;have:=hsA.out;have:=hsA4.out;omega,by have:=hk.2;omega⟩).keep (fun b hb=>hS4 b hb.1)
    have hsc:Aside (w.heap.size + 2 ≤ wc.heap.size):=by have:=hsA.out;have:=hsA4.out;show _ ≤ _;omega
    simp only [List.setIfInBounds_toArray,List.set_cons_succ,List.set_cons_zero] at hq5
    clear hwc hzc hL1 hL2 y0 y1 y2 y3 y4 y5 y6 z4 hq4 hr4 hb3 hb4 hB3 hB4 fc d1 d2 x0 x1 x2 x3 x4 x5 x6 hBd hsA hsA4 hq1 hq2 hBw hS4 hBc
    obtain ⟨y0,y1,y2,y3,y4,y5,y6⟩:=cells7 hq5
    have z5:=frozen_of hq5
    obtain ⟨u0,u1,u2,u3,u4,u5,u6⟩:=cells7 hr5
    have t5:=frozen_of hr5
    by_cases hl0:len = 0
    · subst hl0
      have hargs:args = []:=List.eq_nil_of_length_eq_zero Al.out.1
      clear ih h2
      go_wp2_with fail
      have h6:(wc.setCell ⟨w.heap.size,6,none⟩ (.slice none 0 0)).heap[w.heap.size + 1]? = _:=(Below.heap_setCell wc ⟨w.heap.size,6,none⟩ (.slice none 0 0) (w.heap.size + 1) (by show w.heap.size + 1 ≠ w.heap.size;omega)).trans hr5
      obtain ⟨g1,g2,g3⟩:=set7 (v0:=.int .i64 k) (v1:=.int .i64 v) (v2:=.string nm) (v3:=.bool g) (v4:=.slice b1 num.length e1) (v5:=.slice b2 den.length e2) (v6:=.slice none 0 0) h6
      have hBf:=hBe.setCell (p:=⟨w.heap.size,6,none⟩) (Nat.le_refl _) (.slice none 0 0)
      refine bodyPost_ret (results_cell_row rfl _ _ (w.heap.size + 1) 27 _ _ _ rfl g1 Tryz.underlying27 rfl (by kernel_rfl)) rfl ?_
      refine ⟨[.int .i64 k,.int .i64 v,.string nm,.bool g,.slice b1 num.length e1,.slice b2 den.length e2,.slice none 0 0],rfl,?_,hBf.trans (g3.mono (by omega))⟩
      have hk:Same (Fresh (w.heap.size + 2) wc.heap.size) wc _:=fun b hb=>(g2 b (by have:=hb.1;omega)).trans (Below.heap_setCell wc ⟨w.heap.size,6,none⟩ (.slice none 0 0) b (by have:=hb.1;show b ≠ w.heap.size;omega))
      have hz:=g3.size
      rw [World.size_setCell] at hz
      subst hargs
      simp only [TmS,TmsS]
      exact ⟨b1,e1,b2,e2,none,0,rfl,(hL1'.keep hk).mono fun b hb=>⟨by have:=hb.1;omega,Nat.lt_of_lt_of_le hb.2 hz⟩,(hL2'.keep hk).mono fun b hb=>⟨by have:=hb.1;omega,Nat.lt_of_lt_of_le hb.2 hz⟩,trivial,by simp,by rw [Al.out.2.1];exact hbA,by rw [Al.out.2.2];exact hbC⟩
    · have hlB:((len:Int) == 0) = false:=by simpa using hl0
      have hpos:Aside (0 < len):=by show 0 < len;omega
      clear hl0
      go_upto_region 5 with fail
      obtain ⟨C0,hC0⟩:∃ C0,madeCells zTm.cells (len * 7) = C0:=⟨_,rfl⟩
      have mk:∀ w:World,(Instr.makeSlice 25 (.int .i64 len) (.int .i64 len)).run Tryz.prog w = .ok (.slice (some ⟨w.heap.size,0,none⟩) len len) (w.alloc (.cells C0 27)):=fun w=>by rw [← hC0];exact mkTerms_run len hbig w
      have hC1:Aside (C0.size = len * 7):=by rw [← hC0];exact size_madeCells _ _
      clear hC0
      go_upto_region 6 with fail
      have hBd:=below_alloc wc (Obj.cells C0 27)
      have hqd:=(hBd.block w.heap.size (by have:=hsc.out;omega)).trans hq5
      have hrd:=(hBd.block (w.heap.size + 1) (by have:=hsc.out;omega)).trans hr5
      have hLd:=heap_alloc_new wc (Obj.cells C0 27)
      obtain ⟨L,hL⟩:∃ L,wc.heap.size = L:=⟨_,rfl⟩
      rw [hL] at hBd hLd hsc hL1' hL2' ⊢
      have hLa:Aside (wc.heap.size = L):=hL
      have hwsz:Aside ((wc.alloc (Obj.cells C0 27)).heap.size = L + 1):=by show _ = _;rw [World.size_alloc,hL]
      generalize wc.alloc (Obj.cells C0 27) = wd at *
      clear mk hL hq5 hr5 y0 y1 y2 y3 y4 y5 y6 z5 u0 u1 u2 u3 u4 u5 u6 t5
      obtain ⟨y0,y1,y2,y3,y4,y5,y6⟩:=cells7 hqd
      go_wp2_with fail
      have hBwd:Below w.heap.size w wd:=hBe.trans (hBd.mono (by have:=hsc.out;omega))
      go_loopw [31] (fun s wr=>∃ i:Nat,s = .int .i64 i ∧ i ≤ len ∧ Below L wd wr ∧ ∃ C:Array Value,wr.heap[L]? = some (.cells C 27 (0,0)) ∧ Aside (C.size = len * 7 ∧ L + 1 ≤ wr.heap.size ∧ ∀ (j:Nat) T,j < i → args[j]? = some T → ∃ vs,vs.length = 7 ∧ (∀ (m:Nat) u,vs[m]? = some u → C[j * 7 + m]? = some u) ∧ TmS (Fresh (L + 1) wr.heap.size) wr T vs)) (fun s _=>len - (intOf s).toNat)
      case atStart=>exact ⟨0,rfl,Nat.zero_le _,Below.refl _ _,C0,hLd,hC1.out,Nat.le_of_eq hwsz.out.symm,fun j T hj=>absurd hj (Nat.not_lt_zero j)⟩
      case round=>
        obtain ⟨i,rfl,hi,hBr,C,hC,hinv⟩:=hrel
        by_cases hlt:i < len
        · obtain ⟨T',hT'⟩:∃ T',args[i]? = some T':=⟨args[i]'(by rw [Al.out.1];exact hlt),List.getElem?_eq_getElem _⟩
          obtain ⟨b,off,vs',rfl,hbn,hc,hv⟩:=h2.get hT'
          have hv2:=hv
          match T',hv with
          | .mk k' v' nm' g' num' den' args',hv=>
            simp only [TmV] at hv
            obtain ⟨t1,t2,a',c',rfl,⟨⟨p1',q1',rfl,_⟩,⟨p2',q2',rfl,_⟩⟩,_⟩:=hv
            have hBB:Below w.heap.size w wr:=hBwd.trans (hBr.mono (by have:=hsc.out;omega))
            have hb2:∀ p:Addr,p.block < n → wr.cell? p = w.cell? p:=fun p hp=>(hBB.mono hn).cell hp
            rw [Nat.zero_add] at hc
            have x0:=(hb2 ⟨b,off + i * 7 + 0,none⟩ hbn).trans (hc 0 _ rfl)
            have x1:=(hb2 ⟨b,off + i * 7 + 1,none⟩ hbn).trans (hc 1 _ rfl)
            have x2:=(hb2 ⟨b,off + i * 7 + 2,none⟩ hbn).trans (hc 2 _ rfl)
            have x3:=(hb2 ⟨b,off + i * 7 + 3,none⟩ hbn).trans (hc 3 _ rfl)
            have x4:=(hb2 ⟨b,off + i * 7 + 4,none⟩ hbn).trans (hc 4 _ rfl)
            have x5:=(hb2 ⟨b,off + i * 7 + 5,none⟩ hbn).trans (hc 5 _ rfl)
            have x6:=(hb2 ⟨b,off + i * 7 + 6,none⟩ hbn).trans (hc 6 _ rfl)
            rw [Nat.add_zero] at x0
            have hi1:(i:Int) < (len:Int):=by omega
            have hi3:(0:Int) ≤ (i:Int):=by omega
            have hw3:IntKind.i64.wrap ((i:Int) + 1) = (i:Int) + 1:=by rw [IntKind.wrap_i64];omega
            have hB2:Below wr.heap.size wr (wr.alloc (Obj.cells #[.int .i64 k',.int .i64 v',.string nm',.bool g',.slice p1' num'.length q1',.slice p2' den'.length q2',.slice a' args'.length c'] 27)):=below_alloc _ _
            have hsz2:Aside ((wr.alloc (Obj.cells #[.int .i64 k',.int .i64 v',.string nm',.bool g',.slice p1' num'.length q1',.slice p2' den'.length q2',.slice a' args'.length c'] 27)).heap.size = wr.heap.size + 1):=by show _ = _;simp
            have d1:=ih _ (List.mem_of_getElem? hT') n (wr.alloc (Obj.cells #[.int .i64 k',.int .i64 v',.string nm',.bool g',.slice p1' num'.length q1',.slice p2' den'.length q2',.slice a' args'.length c'] 27)) _ (TmV.below (hBB.trans (hB2.mono hBB.size)) hn _ _ hv2) (by have:=hsz2.out;have:=hBB.size;omega)
            replace d1:Calls Tryz.prog 8 #[.agg #[.int .i64 k',.int .i64 v',.string nm',.bool g',.slice p1' num'.length q1',.slice p2' den'.length q2',.slice a' args'.length c']] _ _:=d1
            have hqe:=heap_alloc_new wr (Obj.cells #[.int .i64 k',.int .i64 v',.string nm',.bool g',.slice p1' num'.length q1',.slice p2' den'.length q2',.slice a' args'.length c'] 27)
            generalize hwe:wr.alloc (Obj.cells #[.int .i64 k',.int .i64 v',.string nm',.bool g',.slice p1' num'.length q1',.slice p2' den'.length q2',.slice a' args'.length c'] 27) = we at *
            have hC7:Aside (i * 7 + 7 ≤ C.size):=by show _ ≤ _;have:=hinv.out.1;rw [this];omega
            have d2:=d1.mono (R':=fun e w'=>∃ a1 c1 a2 c2 a3 c3 r0 r1 r2 r3 r4 r5 r6,e = .returned (.agg #[.int .i64 k',.int .i64 v',.string nm',.bool g',.slice a1 num'.length c1,.slice a2 den'.length c2,.slice a3 args'.length c3]) ∧ Aside (TmS (Fresh we.heap.size w'.heap.size) w' (.mk k' v' nm' g' num' den' args') [.int .i64 k',.int .i64 v',.string nm',.bool g',.slice a1 num'.length c1,.slice a2 den'.length c2,.slice a3 args'.length c3]) ∧ Below we.heap.size we w' ∧ w'.heap[L]? = some (.cells C 27 (0,0)) ∧
                (w'.cell? ⟨L,i * 7,none⟩ = some r0 ∧ w'.cell? ⟨L,i * 7 + 1,none⟩ = some r1 ∧ w'.cell? ⟨L,i * 7 + 2,none⟩ = some r2 ∧ w'.cell? ⟨L,i * 7 + 3,none⟩ = some r3 ∧ w'.cell? ⟨L,i * 7 + 4,none⟩ = some r4 ∧ w'.cell? ⟨L,i * 7 + 5,none⟩ = some r5 ∧ w'.cell? ⟨L,i * 7 + 6,none⟩ = some r6)) (fun e w' ⟨vs,e1,ht,hb⟩=>by
              have ht0:=ht
              simp only [TmS] at ht
              obtain ⟨a1,c1,a2,c2,a3,c3,rfl,_⟩:=ht
              have hL':w'.heap[L]? = some (.cells C 27 (0,0)):=((hb.block L (by have:=hinv.out.2.1;have:=hsz2.out;omega)).trans (hB2.block L (by have:=hinv.out.2.1;omega))).trans hC
              have at_:∀ m,m < 7 → ∃ r,w'.cell? ⟨L,i * 7 + m,none⟩ = some r:=fun m hm=>⟨C[i * 7 + m]'(by have:=hC7.out;omega),by simp [World.cell?,hL',show i * 7 + m < C.size by have:=hC7.out;omega]⟩
              obtain ⟨r0,e0⟩:=at_ 0 (by omega)
              obtain ⟨r1,e1'⟩:=at_ 1 (by omega)
              obtain ⟨r2,e2'⟩:=at_ 2 (by omega)
              obtain ⟨r3,e3⟩:=at_ 3 (by omega)
              obtain ⟨r4,e4⟩:=at_ 4 (by omega)
              obtain ⟨r5,e5⟩:=at_ 5 (by omega)
              obtain ⟨r6,e6⟩:=at_ 6 (by omega)
              exact ⟨a1,c1,a2,c2,a3,c3,r0,r1,r2,r3,r4,r5,r6,e1,ht0,hb,hL',e0,e1',e2',e3,e4,e5,e6⟩)
            have hnx:Aside (∀ (w3 w4:World) (C':Array Value) us,us.length = 7 → TmS (Fresh we.heap.size w3.heap.size) w3 (.mk k' v' nm' g' num' den' args') us → Below we.heap.size we w3 → (∀ b,b ≠ L → w4.heap[b]? = w3.heap[b]?) → w3.heap.size ≤ w4.heap.size →
                (∀ j,j < i * 7 ∨ i * 7 + 7 ≤ j → C'[j]? = C[j]?) → (∀ (m:Nat) u,us[m]? = some u → C'[i * 7 + m]? = some u) → ∀ (j:Nat) T,j < i + 1 → args[j]? = some T → ∃ vs,vs.length = 7 ∧ (∀ (m:Nat) u,vs[m]? = some u → C'[j * 7 + m]? = some u) ∧ TmS (Fresh (L + 1) w4.heap.size) w4 T vs):=by
              show ∀ (w3 w4:World) (C':Array Value) us,_
              intro w3 w4 C' us hlen ht hbw hk hsz hout hin j T hj hT
              have hks:∀ m,Same (Fresh (L + 1) m) w3 w4:=fun m b hb=>hk b (by have:=hb.1;omega)
              by_cases hji:j < i
              · obtain ⟨vs,h1,h2,h3⟩:=hinv.out.2.2 j T hji hT
                refine ⟨vs,h1,fun m u hm=>?_,?_⟩
                · have hm7:m < 7:=by have:=(List.getElem?_eq_some_iff.1 hm).1;omega
                  rw [hout (j * 7 + m) (.inl (by omega))]
                  exact h2 m u hm
                · refine TmS.mono (fun b hb=>⟨hb.1,?_⟩) _ _ (TmS.keep (hks _) _ _ (TmS.keep (Same.of_below hbw fun b hb=>?_) _ _ (TmS.keep (Same.of_below hB2 fun b hb=>hb.2) _ _ h3)))
                  · have h1:=hb.2
                    have h2:=hsz2.out;have h3:=hbw.size
                    omega
                  · have h1:=hb.2;have h2:=hsz2.out;have h3:=hbw.size;omega
              · obtain rfl:j = i:=by omega
                rw [hT'] at hT
                obtain rfl:=Option.some.inj hT
                refine ⟨us,hlen,hin,?_⟩
                have hlo:L + 1 ≤ we.heap.size:=by have:=hinv.out.2.1;have:=hsz2.out;omega
                refine TmS.mono (fun b hb=>⟨Nat.le_trans hlo hb.1,Nat.lt_of_lt_of_le hb.2 hsz⟩) _ _ (TmS.keep (fun b hb=>hk b (by have:=hb.1;omega)) _ _ ht)
            generalize args'.length = len' at *
            generalize num'.length = ln1 at *
            generalize den'.length = ln2 at *
            clear h2 ih hc hv2 hT' hb2 d1 hLd
            obtain ⟨s0,s1,s2,s3,s4,s5,s6⟩:=cells7 hqe
            go_wp2_with (go_at_call 8;with_reducible refine d2.mono ?_;rintro e w3 ⟨a1,c1,a2,c2,a3,c3,r0,r1,r2,r3,r4,r5,r6,rfl,hts,hb3,hL3,f0,f1,f2,f3,f4,f5,f6⟩;have z3:=frozen_of hL3)
            obtain ⟨C',g1,g2,g3,g4,g5,g6⟩:=set7at (o:=i * 7) (v0:=.int .i64 k') (v1:=.int .i64 v') (v2:=.string nm') (v3:=.bool g') (v4:=.slice a1 ln1 c1) (v5:=.slice a2 ln2 c2) (v6:=.slice a3 len' c3) hL3 hC7.out
            have hBr2:Below L wd _:=hBr.trans ((hB2.mono (by have:=hinv.out.2.1;omega)).trans ((hb3.mono (by have:=hinv.out.2.1;have:=hsz2.out;omega)).trans g6))
            exact ⟨⟨i + 1,by simp,by omega,hBr2,C',g1,by rw [g2];exact hinv.out.1,by have:=g6.size;have:=hb3.size;have:=hinv.out.2.1;have:=hsz2.out;omega,hnx.out w3 _ C' _ rfl hts.out hb3 g5 g6.size g3 g4⟩,by simp [intOf];omega⟩
        · obtain rfl:i = len:=by omega
          have hqr:=(hBr.block w.heap.size (by have:=hsc.out;omega)).trans hqd
          have hrr:=(hBr.block (w.heap.size + 1) (by have:=hsc.out;omega)).trans hrd
          obtain ⟨w0,w1,w2,w3,w4,w5,w6⟩:=cells7 hqr
          have z7:=frozen_of hqr
          obtain ⟨o0,o1,o2,o3,o4,o5,o6⟩:=cells7 hrr
          have z8:=frozen_of hrr
          clear ih h2 y0 y1 y2 y3 y4 y5 y6 hqd hrd hLd
          go_wp2_with fail
          have h6:(wr.setCell ⟨w.heap.size,6,none⟩ (.slice (some ⟨L,0,none⟩) i i)).heap[w.heap.size + 1]? = _:=(Below.heap_setCell wr ⟨w.heap.size,6,none⟩ (.slice (some ⟨L,0,none⟩) i i) (w.heap.size + 1) (by show w.heap.size + 1 ≠ w.heap.size;omega)).trans hrr
          obtain ⟨g1,g2,g3⟩:=set7 (v0:=.int .i64 k) (v1:=.int .i64 v) (v2:=.string nm) (v3:=.bool g) (v4:=.slice b1 num.length e1) (v5:=.slice b2 den.length e2) (v6:=.slice (some ⟨L,0,none⟩) i i) h6
          have hBf:=(hBwd.trans (hBr.mono (by have:=hsc.out;omega))).setCell (p:=⟨w.heap.size,6,none⟩) (Nat.le_refl _) (.slice (some ⟨L,0,none⟩) i i)
          refine bodyPost_ret (results_cell_row rfl _ _ (w.heap.size + 1) 27 _ _ _ rfl g1 Tryz.underlying27 rfl (by kernel_rfl)) rfl ?_
          refine ⟨[.int .i64 k,.int .i64 v,.string nm,.bool g,.slice b1 num.length e1,.slice b2 den.length e2,.slice (some ⟨L,0,none⟩) i i],rfl,?_,hBf.trans (g3.mono (by omega))⟩
          have hz:=g3.size
          rw [World.size_setCell] at hz
          obtain ⟨wf,hwf⟩:∃ wf,(((((((wr.setCell ⟨w.heap.size,6,none⟩ (.slice (some ⟨L,0,none⟩) i i)).setCell ⟨w.heap.size + 1,0,none⟩ (.int .i64 k)).setCell ⟨w.heap.size + 1,1,none⟩ (.int .i64 v)).setCell ⟨w.heap.size + 1,2,none⟩ (.string nm)).setCell ⟨w.heap.size + 1,3,none⟩ (.bool g)).setCell ⟨w.heap.size + 1,4,none⟩ (.slice b1 num.length e1)).setCell ⟨w.heap.size + 1,5,none⟩ (.slice b2 den.length e2)).setCell ⟨w.heap.size + 1,6,none⟩ (.slice (some ⟨L,0,none⟩) i i) = wf:=⟨_,rfl⟩
          rw [hwf] at g2 hz ⊢
          have hk:∀ b,w.heap.size + 2 ≤ b → wf.heap[b]? = wr.heap[b]?:=fun b hb=>(g2 b (by omega)).trans (Below.heap_setCell wr ⟨w.heap.size,6,none⟩ (.slice (some ⟨L,0,none⟩) i i) b (by show b ≠ w.heap.size;omega))
          clear hwf g2 g1 g3 hBf h6
          have hLr:=hinv.out.2.1
          have hsc':=hsc.out
          have hks:Same (fun b=>w.heap.size + 2 ≤ b) wr wf:=hk
          have hwcr:∀ b,b < L → wr.heap[b]? = wc.heap[b]?:=fun b hb=>(hBr.block b hb).trans (hBd.block b hb)
          have hkl:Same (Fresh (w.heap.size + 2) L) wc wf:=fun b hb=>(hk b hb.1).trans (hwcr b hb.2)
          simp only [TmS]
          refine ⟨b1,e1,b2,e2,some ⟨L,0,none⟩,i,by rw [Al.out.1],(hL1'.keep hkl).mono fun b hb=>⟨by have:=hb.1;omega,by have:=hb.2;omega⟩,(hL2'.keep hkl).mono fun b hb=>⟨by have:=hb.1;omega,by have:=hb.2;omega⟩,?_,by rw [Al.out.1];exact hbig,by rw [Al.out.2.1];exact hbA,by rw [Al.out.2.2];exact hbC⟩
          refine tmsS_of ⟨by omega,by omega⟩ args 0 fun kk T hT=>?_
          obtain ⟨vs,e1,e2,e3⟩:=hinv.out.2.2 kk T (by have:=(List.getElem?_eq_some_iff.1 hT).1;have:=Al.out.1;omega) hT
          refine ⟨vs,fun m u hm=>?_,TmS.mono (fun b hb=>⟨by have:=hb.1;omega,by have:=hb.2;omega⟩) _ _ (TmS.keep (fun b hb=>hk b (by have:=hb.1;omega)) _ _ e3)⟩
          have hLf:wf.heap[L]? = some (.cells C 27 (0,0)):=(hk L hsc').trans hC
          have:=e2 m u hm
          simp [World.cell?,hLf,this]
theorem clone_calls:∀ (T:Tm),CloneOk T
  | .mk k v nm g num den args=>clone_step k v nm g num den args fun T' hT'=>clone_calls T'
termination_by T=>SizeOf.sizeOf T
decreasing_by
  simp_wf
  have:=List.sizeOf_lt_of_mem hT'
  omega
end Go.Proofs.YtaloeffmigffaaaGreatDoor
end
