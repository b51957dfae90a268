/-
  A part of the proof of the card of WorkGeneralizationIsLeast (second form): lemmas that the text Card uses. No condition of its own.
-/
import Derived.Test.YtaloeffmigffaaaGreatDoorKey
import Derived.Test.YtaloeffmigffaaaGreatDoorEqual
import Derived.Test.YtaloeffmigffaaaGreatDoorCopy
import Derived.Maps.OwnSet
import Derived.Maps.Views
import Derived.StringKeys
set_option linter.all false
set_option linter.unusedVariables false
set_option linter.unusedSimpArgs false
section
namespace Go.Proofs.YtaloeffmigffaaaGreatDoor
open Go.RowKit Go.Big Go.Maps
def pkT (p:Tm × Tm):Tm:=.mk 5 0 ⟨#[120]⟩ false [] [] [p.1,p.2]
def Good (p:Tm × Tm):Prop:=p.1.errE = 0 ∧ p.2.errE = 0
theorem pkT_err {p:Tm × Tm} (h:Good p):(pkT p).errE = 0:=by
  unfold pkT
  simp only [Tm.errE]
  have h1:rootE 5 0 (ByteArray.size ⟨#[120]⟩) false [] [] [p.1,p.2].length = 0:=by
    unfold rootE RootFine nameMost
    simp [ByteArray.size,noNum]
  have h2:Tm.errL [p.1,p.2] = 0:=by
    simp only [Tm.errL]
    simp [h.1,h.2]
  simp only [h1,h2]
  simp
def pairKey (p:Tm × Tm):List Nat:=(pkT p).key
theorem pairKey_inj {p q:Tm × Tm} (hp:Good p) (hq:Good q) (h:pairKey p = pairKey q):p = q:=by
  have:=(key_inj (X:=[]) (Y:=[]) (pkT p) (pkT q) (pkT_err hp) (pkT_err hq) (by simpa [pairKey] using h)).1
  unfold pkT at this
  injection this with _ _ _ _ _ _ e
  injection e with e1 e2
  injection e2 with e2 _
  exact Prod.ext e1 e2
def klt (p:Tm × Tm):Lit:=.string ((pairKey p).map UInt8.ofNat)
theorem klt_inj {p q:Tm × Tm} (hp:Good p) (hq:Good q) (h:klt p = klt q):p = q:=by
  refine pairKey_inj hp hq ?_
  unfold klt at h
  injection h with h
  have h2:=congrArg (List.map UInt8.toNat) h
  have e:∀ L:List Nat,(∀ x ∈ L,x < 256) → (L.map UInt8.ofNat).map UInt8.toNat = L:=by
    intro L hL
    induction L with
    | nil=>rfl
    | cons a r ih=>
      have:=hL a (by simp)
      simp only [List.map_cons,List.cons.injEq]
      exact ⟨by simp;omega,ih fun x hx=>hL x (by simp [hx])⟩
  rwa [e (pairKey p) (key_lt _ (pkT_err hp)),e (pairKey q) (key_lt _ (pkT_err hq))] at h2
theorem klt_key (p:Tm × Tm):WideAt.IsKeyLit (klt p):=by unfold klt;trivial
theorem law9:Keyed Tryz.prog 9:=string_keyed Tryz.underlying9
theorem und69:Tryz.prog.underlying 69 = some (.map 9 3):=by kernel_rfl
theorem zero3 (w:World):(zeroValue 3).run Tryz.prog w = .ok (.int .i64 0) w:=by kernel_rfl
theorem klt_of (p:Tm × Tm) (hlen:(pairKey p).length ≤ maxLen):keyOf Tryz.prog 9 (.string (strN (pairKey p))) = some (klt p):=by
  have:=WideMaps.keyOf_string_mk (P:=Tryz.prog) Tryz.underlying9 (s:=strN (pairKey p)) (by rw [strN_size];exact hlen)
  rw [this]
  unfold klt
  rw [strN_data]
structure TabOk (D:DataW Unit) (S:List (Tm × Tm)):Prop where
  tidy:Maps.Tidy D
  size:Maps.size D = S.length
  has:∀ p,Good p → (Maps.has D (klt p) = true ↔ p ∈ S)
  at_:∀ p,Good p → p ∈ S → D.atKey (klt p) (.lit (.int .i64 0)) = .lit (.int .i64 (ixOf S p.1 p.2))
theorem tabOk_nil:TabOk (.map []) []:=⟨tidy_empty,rfl,fun p _=>by simp [Maps.has],fun p _ h=>by simp at h⟩
open Classical in
theorem ixOf_new {S:List (Tm × Tm)} {p:Tm × Tm} (h:p ∉ S):ixOf (S ++ [p]) p.1 p.2 = S.length:=by
  have hm:(p.1,p.2) ∈ S ++ [p]:=by simp
  have h1:=ixOf_lt hm
  have h2:=ixOf_get hm
  rw [List.length_append,List.length_singleton] at h1
  rcases Nat.lt_or_ge (ixOf (S ++ [p]) p.1 p.2) S.length with h3 | h3
  · rw [List.getElem?_append_left h3] at h2
    exact absurd (List.mem_of_getElem? h2) h
  · omega
theorem TabOk.put {D:DataW Unit} {S:List (Tm × Tm)} (h:TabOk D S) {p:Tm × Tm} (hp:Good p) (hS:∀ q ∈ S,Good q) (hn:p ∉ S):TabOk (D.put (klt p) (.lit (.int .i64 S.length))) (S ++ [p]):=by
  have hno:Maps.has D (klt p) = false:=by
    cases e:Maps.has D (klt p)
    · rfl
    · exact absurd ((h.has p hp).1 e) hn
  refine ⟨h.tidy.put (klt_key p) _,?_,fun q hq=>?_,fun q hq hm=>?_⟩
  · rw [size_put h.tidy,hno];simp [h.size]
  · by_cases e:q = p
    · subst e
      rw [has_put_same h.tidy.isMap (klt_key q)];simp
    · rw [has_put_other (fun e2=>e (klt_inj hq hp e2)),h.has q hq]
      simp [e]
  · by_cases e:q = p
    · subst e
      rw [atKey_put_same h.tidy.isMap (klt_key q),ixOf_new hn]
    · rw [atKey_put_other (fun e2=>e (klt_inj hq hp e2))]
      have hm2:q ∈ S:=by simpa [e] using hm
      rw [h.at_ q hq hm2,ixOf_mono (List.prefix_append S [p]) (p:=q.1) (q:=q.2) hm2]
def MapTab (w:World) (mb:Nat) (S:List (Tm × Tm)):Prop:=(∀ q ∈ S,Good q) ∧ ∃ D:DataW Unit,w.ownsMap Tryz.prog 9 (plainElem Tryz.prog 3) mb S.length D ∧ TabOk D S
theorem MapTab.made (w:World):MapTab (w.alloc (.map #[] 0)) w.heap.size []:=⟨by simp,.map [],World.ownsMap_made _ _ _ _,tabOk_nil⟩
theorem MapTab.of_block {w w':World} {mb:Nat} {S:List (Tm × Tm)} (h:MapTab w mb S) (e:w'.heap[mb]? = w.heap[mb]?):MapTab w' mb S:=by
  obtain ⟨hG,D,⟨es,clock,h1,h2⟩,h3⟩:=h
  exact ⟨hG,D,⟨es,clock,e.trans h1,h2⟩,h3⟩
theorem MapTab.lt {w:World} {mb:Nat} {S:List (Tm × Tm)} (h:MapTab w mb S):mb < w.heap.size:=by
  obtain ⟨_,D,h1,_⟩:=h
  exact h1.lt
theorem MapTab.len {w:World} {mb:Nat} {S:List (Tm × Tm)} (h:MapTab w mb S) (ty:TypeId):(Builtin.len_ #[69] ty #[.map (some mb)]).run Tryz.prog w = .ok (.int .i64 (S.length:Nat)) w:=by
  obtain ⟨_,D,h1,h2⟩:=h
  rw [h1.len und69 ty,h2.size]
theorem MapTab.look {w:World} {mb:Nat} {S:List (Tm × Tm)} (h:MapTab w mb S) {p:Tm × Tm} (hp:Good p) (hlen:(pairKey p).length ≤ maxLen) :
    ∃ (r:Int) (k:Bool),(Instr.lookup 69 (.map (some mb)) (.string (strN (pairKey p))) true).run Tryz.prog w = .ok (.tuple #[.int .i64 r,.bool k]) w ∧ (k = true ↔ p ∈ S) ∧ (k = true → r = ixOf S p.1 p.2):=by
  obtain ⟨_,D,h1,h2⟩:=h
  obtain ⟨v,ps,hrun,hv⟩:=h1.look_ok law9 und69 (zero3 w) (plainElem_int Tryz.underlying3 (by decide)) (klt_of p hlen)
  obtain ⟨c,rfl,hc,_⟩:=plainElem_int_inv Tryz.underlying3 hv
  obtain ⟨k,hk0⟩:∃ k,Maps.has D (klt p) = k:=⟨_,rfl⟩
  have hks:=h2.has p hp
  rw [hk0] at hrun hks
  refine ⟨c,k,hrun,hks,fun hk=>?_⟩
  have hm:=hks.1 hk
  have hc1:=congrArg Prod.fst hc
  have hc2:=(h2.at_ p hp hm).symm.trans hc1
  have e1:=DataW.lit.inj hc2
  have e2:=(Lit.int.inj e1).2
  exact e2.symm
theorem MapTab.put {w:World} {mb:Nat} {S:List (Tm × Tm)} (h:MapTab w mb S) {p:Tm × Tm} (hp:Good p) (hlen:(pairKey p).length ≤ maxLen) (hn:p ∉ S) (hS:S.length ≤ 1048576) :
    ∃ w',(Instr.mapUpdate 69 (.map (some mb)) (.string (strN (pairKey p))) (.int .i64 (S.length:Nat))).run Tryz.prog w = .ok () w' ∧ MapTab w' mb (S ++ [p]) ∧ w.grownBy w' (some mb):=by
  obtain ⟨hG,D,h1,h2⟩:=h
  obtain ⟨w',hrun,h3,h4⟩:=h1.update law9 und69 (by unfold maxLen;omega) (klt_of p hlen) (plainElem_int Tryz.underlying3 (a:=(S.length:Nat)) (WalkArith.wf_i64 (by omega)))
  refine ⟨w',hrun,⟨fun q hq=>?_,D.put (klt p) (.lit (.int .i64 S.length)),by simpa using h3,h2.put hp hG hn⟩,h4⟩
  rcases List.mem_append.1 hq with h | h
  · exact hG q h
  · simp at h;subst h;exact hp
end Go.Proofs.YtaloeffmigffaaaGreatDoor
end
section
namespace Go.Proofs.YtaloeffmigffaaaGreatDoor
open Go.RowKit Go.Big
set_option maxRecDepth 100000 in
set_option maxHeartbeats 1000000 in
theorem tvar_calls (k:Int) (w:World) :
    Calls Tryz.prog 59 #[.int .i64 k] w fun e w'=>e = .returned (.agg #[.int .i64 1,.int .i64 k,.string { data:=#[] },.bool false,.slice none 0 0,.slice none 0 0,.slice none 0 0]) ∧ Below w.heap.size w w':=by
  go_enter Tryz.func59,Tryz.ntmps59
  go_wp2
  refine bodyPost_ret (results_cell_row rfl _ _ w.heap.size 27 _ _ _ rfl (heap_alloc_new _ _) Tryz.underlying27 rfl (by kernel_rfl)) rfl ?_
  exact ⟨rfl,below_alloc _ _⟩
set_option maxRecDepth 100000 in
set_option maxHeartbeats 1000000 in
theorem tcomp_calls (s:ByteArray) (a:Option Addr) (len c:Nat) (hl:0 < len) (w:World) :
    Calls Tryz.prog 57 #[.string s,.slice a len c] w fun e w'=>e = .returned (.agg #[.int .i64 5,.int .i64 0,.string s,.bool false,.slice none 0 0,.slice none 0 0,.slice a len c]) ∧ Below w.heap.size w w':=by
  have hlB:((len:Int) == 0) = false:=by simp;omega
  go_enter Tryz.func57,Tryz.ntmps57
  go_wp2
  refine bodyPost_ret (results_cell_row rfl _ _ w.heap.size 27 _ _ _ rfl (heap_alloc_new _ _) Tryz.underlying27 rfl (by kernel_rfl)) rfl ?_
  exact ⟨rfl,below_alloc _ _⟩
structure Kept (mb:Nat) (w w':World):Prop where
  below:Below mb w w'
  block:∀ k,k < w.heap.size → k ≠ mb → w'.heap[k]? = w.heap[k]?
theorem Kept.refl (mb:Nat) (w:World):Kept mb w w:=⟨Below.refl _ _,fun _ _ _=>rfl⟩
theorem Kept.trans {mb:Nat} {w w1 w2:World} (h:Kept mb w w1) (h':Kept mb w1 w2):Kept mb w w2:=
  ⟨h.below.trans h'.below,fun k hk hm=>(h'.block k (Nat.lt_of_lt_of_le hk h.below.size) hm).trans (h.block k hk hm)⟩
theorem Kept.of_below {mb:Nat} {w w':World} (hm:mb ≤ w.heap.size) (h:Below w.heap.size w w'):Kept mb w w':=
  ⟨h.mono hm,fun k hk _=>h.block k hk⟩
theorem Kept.cell {mb:Nat} {w w':World} (h:Kept mb w w') {p:Addr} (hp:p.block < w.heap.size) (hm:p.block ≠ mb):w'.cell? p = w.cell? p:=by
  simp [World.cell?,h.block p.block hp hm]
theorem Kept.grown {mb:Nat} {w w':World} (hm:mb < w.heap.size) (h:w.grownBy w' (some mb)):Kept mb w w':=
  ⟨⟨h.os,h.tape,h.output,h.size,fun k hk=>h.block k (by omega) (fun e=>by injection e;omega)⟩,fun k hk hm=>h.block k hk (fun e=>by injection e with e;exact hm e)⟩
mutual
theorem TmV.toS {n:Nat} {w:World}:∀ (T:Tm) (vs:List Value),TmV n w T vs → TmS (fun k=>k < n) w T vs
  | .mk k v nm g num den args,vs,h=>by
    simp only [TmV] at h
    simp only [TmS]
    obtain ⟨s1,s2,a,c,rfl,⟨⟨p1,c1,rfl,h1⟩,⟨p2,c2,rfl,h2⟩⟩,h3,h4⟩:=h
    exact ⟨p1,c1,p2,c2,a,c,rfl,h1,h2,TmsV.toS args a 0 h3,h4⟩
theorem TmsV.toS {n:Nat} {w:World}:∀ (L:List Tm) (a:Option Addr) (i:Nat),TmsV n w L a i → TmsS (fun k=>k < n) w L a i
  | [],_,_,_=>by simp only [TmsS]
  | T :: r,a,i,h=>by
    simp only [TmsV] at h
    simp only [TmsS]
    obtain ⟨⟨b,off,vs,e,hb,hc,hv⟩,hr⟩:=h
    exact ⟨⟨b,off,vs,e,hb,hc,TmV.toS T vs hv⟩,TmsV.toS r a (i + 1) hr⟩
end
theorem three_blocks (w:World) (o1 o2 o3:Obj):Below w.heap.size w (((w.alloc o1).alloc o2).alloc o3) ∧ (((w.alloc o1).alloc o2).alloc o3).heap[w.heap.size]? = some o1 ∧ (((w.alloc o1).alloc o2).alloc o3).heap[w.heap.size + 1]? = some o2 ∧ (((w.alloc o1).alloc o2).alloc o3).heap[w.heap.size + 2]? = some o3 ∧ (((w.alloc o1).alloc o2).alloc o3).heap.size = w.heap.size + 3:=by
  obtain ⟨b,q1,q2,_⟩:=two_blocks w o1 o2
  have b3:=below_alloc ((w.alloc o1).alloc o2) o3
  have q3:=heap_alloc_new ((w.alloc o1).alloc o2) o3
  have hs:((w.alloc o1).alloc o2).heap.size = w.heap.size + 2:=by simp
  rw [hs] at b3 q3
  exact ⟨b.trans (b3.mono (by omega)),(b3.block _ (by omega)).trans q1,(b3.block _ (by omega)).trans q2,q3,by simp⟩
def zObj:Obj:=.cells #[.int .i64 0,.int .i64 0,.string { data:=#[] },.bool false,.slice none 0 0,.slice none 0 0,.slice none 0 0] 27
def Nw (n:Nat) (w w':World):Nat → Prop:=fun k=>k < n ∨ (w.heap.size ≤ k ∧ k < w'.heap.size)
def OfOk (a:Tm):Prop:=∀ (b:Tm) (n:Nat) (w:World) (vs us:List Value) (S:List (Tm × Tm)) (mb gb:Nat),
  a.errE = 0 → b.errE = 0 → a.nodes ≤ 10000 → b.nodes ≤ 10000 → TmV n w a vs → TmV n w b us → n ≤ mb → n ≤ gb → gb ≠ mb → gb < w.heap.size → w.cell? ⟨gb,0,none⟩ = some (.map (some mb)) → MapTab w mb S → S.length + (gpairs a b).length ≤ 1048576 →
  Calls Tryz.prog 24 #[.pointer (some ⟨gb,0,none⟩),.agg vs.toArray,.agg us.toArray] w fun e w'=>∃ rs,e = .returned (.agg rs.toArray) ∧ TmS (Nw n w w') w' (genT S a b) rs ∧ MapTab w' mb (addAll S (gpairs a b)) ∧ Kept mb w w'
end Go.Proofs.YtaloeffmigffaaaGreatDoor
end
section
namespace Go.Proofs.YtaloeffmigffaaaGreatDoor
open Go.RowKit Go.Big
attribute [local go_sem] Heavy.uponW
set_option maxRecDepth 100000 in
set_option maxHeartbeats 4000000 in
theorem of_same (a:Tm) (hgr:a.ground) (n:Nat) (w:World) (vs us:List Value) (S:List (Tm × Tm)) (mb gb:Nat)
    (ha:a.errE = 0) (h:TmV n w a vs) (h':TmV n w a us) (hnm:n ≤ mb) (hmw:mb < w.heap.size) :
    Calls Tryz.prog 24 #[.pointer (some ⟨gb,0,none⟩),.agg vs.toArray,.agg us.toArray] w fun e w'=>∃ rs,e = .returned (.agg rs.toArray) ∧ TmS (Nw n w w') w' a rs ∧ Below w.heap.size w w':=by
  have h0:=h
  have h0':=h'
  have e1:=fun (w2:World) (hb:Below w.heap.size w w2)=>equal_calls a a n w2 vs us (errE_vd _ ha) (errE_vd _ ha) (TmV.below hb (by omega) _ _ h0) (TmV.below hb (by omega) _ _ h0') (Nat.le_trans (by omega) hb.size)
  have e2:=fun (w2:World) (hb:Below w.heap.size w w2)=>ground_calls a n w2 vs (TmV.below hb (by omega) _ _ h0) (Nat.le_trans (by omega) hb.size)
  rw [Tm.eqB_true rfl] at e1
  rw [Tm.gndB_iff.2 hgr] at e2
  have hfin:Aside (∀ w2,Below w.heap.size w w2 → TmS (Nw n w w2) w2 a vs):=fun w2 hb=>
    TmS.mono (fun k hk=>.inl hk) _ _ (TmV.toS _ _ (TmV.below hb (show n ≤ w.heap.size by omega) _ _ h0))
  obtain ⟨k,v,nm,g,num,den,args⟩:=a
  simp only [TmV] at h h'
  obtain ⟨s1,s2,p,c,rfl,⟨⟨p1,c1,rfl,_⟩,⟨p2,c2,rfl,_⟩⟩,_⟩:=h
  obtain ⟨t1,t2,p',c',rfl,⟨⟨p1',c1',rfl,_⟩,⟨p2',c2',rfl,_⟩⟩,_⟩:=h'
  generalize args.length = len at *
  generalize num.length = l1 at *
  generalize den.length = l2 at *
  obtain ⟨hBw,q1,q2,q3,hsz⟩:=three_blocks w (.cells #[.int .i64 k,.int .i64 v,.string nm,.bool g,.slice p1 l1 c1,.slice p2 l2 c2,.slice p len c] 27) (.cells #[.int .i64 k,.int .i64 v,.string nm,.bool g,.slice p1' l1 c1',.slice p2' l2 c2',.slice p' len c'] 27) zObj
  obtain ⟨wb,hwb⟩:∃ wb,((w.alloc (.cells #[.int .i64 k,.int .i64 v,.string nm,.bool g,.slice p1 l1 c1,.slice p2 l2 c2,.slice p len c] 27)).alloc (.cells #[.int .i64 k,.int .i64 v,.string nm,.bool g,.slice p1' l1 c1',.slice p2' l2 c2',.slice p' len c'] 27)).alloc zObj = wb:=⟨_,rfl⟩
  rw [hwb] at hBw q1 q2 q3 hsz
  have f1:=e1 wb hBw
  replace f1:Calls Tryz.prog 55 #[.agg #[.int .i64 k,.int .i64 v,.string nm,.bool g,.slice p1 l1 c1,.slice p2 l2 c2,.slice p len c],.agg #[.int .i64 k,.int .i64 v,.string nm,.bool g,.slice p1' l1 c1',.slice p2' l2 c2',.slice p' len c']] _ _:=f1
  have e2A:Aside (∀ (w2:World) (hb:Below w.heap.size w w2),Calls Tryz.prog 56 #[.agg #[.int .i64 k,.int .i64 v,.string nm,.bool g,.slice p1 l1 c1,.slice p2 l2 c2,.slice p len c]] w2 _):=e2
  have fa:Aside (∀ (w2:World) (hb:Below wb.heap.size wb w2),_):=fun w2 hb=>cells7 ((hb.block w.heap.size (by omega)).trans q1)
  have fr:Aside (∀ (w2:World) (hb:Below wb.heap.size wb w2),w2.heap[w.heap.size + 2]? = some zObj):=fun w2 hb=>(hb.block (w.heap.size + 2) (by omega)).trans q3
  obtain ⟨x0,x1,x2,x3,x4,x5,x6⟩:=cells7 q1
  obtain ⟨y0,y1,y2,y3,y4,y5,y6⟩:=cells7 q2
  have hszA:Aside (wb.heap.size = w.heap.size + 3):=hsz
  clear e1 e2 h0 h0' q1 q2 q3 hsz hgr ha
  show Calls Tryz.prog 24 #[.pointer (some ⟨gb,0,none⟩),.agg #[.int .i64 k,.int .i64 v,.string nm,.bool g,.slice p1 l1 c1,.slice p2 l2 c2,.slice p len c],.agg #[.int .i64 k,.int .i64 v,.string nm,.bool g,.slice p1' l1 c1',.slice p2' l2 c2',.slice p' len c']] w _
  have hzO:zObj = .cells #[.int .i64 0,.int .i64 0,.string { data:=#[] },.bool false,.slice none 0 0,.slice none 0 0,.slice none 0 0] 27:=rfl
  rw [hzO] at hwb
  go_enter Tryz.func24,Tryz.ntmps24
  go_upto_region 1 with fail
  clear hwb
  go_wp2_with (go_at_call 55;with_reducible refine f1.mono ?_)
  first | rintro e w1 rfl hb1 | rintro e w1 ⟨rfl,hb1⟩
  obtain ⟨z0,z1,z2,z3,z4,z5,z6⟩:=fa.out w1 hb1
  have hB1:Below w.heap.size w w1:=hBw.trans (hb1.mono hBw.size)
  have f2:=e2A.out w1 hB1
  go_wp2_with (go_at_call 56;with_reducible refine f2.mono ?_)
  first | rintro e w2 rfl hb2 | rintro e w2 ⟨rfl,hb2⟩
  have hb12:Below wb.heap.size wb w2:=hb1.trans (hb2.mono hb1.size)
  obtain ⟨u0,u1,u2,u3,u4,u5,u6⟩:=fa.out w2 hb12
  have hr:=fr.out w2 hb12
  obtain ⟨r0,r1,r2,r3,r4,r5,r6⟩:=cells7 hr
  have rz:=frozen_of hr
  have hB2:Below w.heap.size w w2:=hB1.trans (hb2.mono hB1.size)
  clear z0 z1 z2 z3 z4 z5 z6 x0 x1 x2 x3 x4 x5 x6 y0 y1 y2 y3 y4 y5 y6
  go_wp2
  obtain ⟨g1,g2,g3⟩:=set7 (v0:=.int .i64 k) (v1:=.int .i64 v) (v2:=.string nm) (v3:=.bool g) (v4:=.slice p1 l1 c1) (v5:=.slice p2 l2 c2) (v6:=.slice p len c) hr
  refine bodyPost_ret (results_cell_row rfl _ _ (w.heap.size + 2) 27 _ _ _ rfl g1 Tryz.underlying27 rfl (by kernel_rfl)) rfl ?_
  have hBf:=hB2.trans (g3.mono (by omega))
  exact ⟨[.int .i64 k,.int .i64 v,.string nm,.bool g,.slice p1 l1 c1,.slice p2 l2 c2,.slice p len c],rfl,hfin.out _ hBf,hBf⟩
end Go.Proofs.YtaloeffmigffaaaGreatDoor
end
