/-
  A part of the proof of the card of WorkGeneralizationIsLeast (second form): lemmas that the text Card uses. No condition of its own.
-/
import Derived.Test.YtaloeffmigffaaaGreatDoorOrdB
set_option linter.all false
set_option linter.unusedVariables false
set_option linter.unusedSimpArgs false
section
namespace Go.Proofs.YtaloeffmigffaaaGreatDoor
open Go.RowKit Go.Big
attribute [local go_sem] Heavy.uponW
def FlatOk (n:Nat) (w:World):List (Int × Tm) → List Value → Prop
  | [],xs=>xs = []
  | p :: r,xs=>∃ vs ys,xs = .int .i64 p.1 :: (vs ++ ys) ∧ vs.length = 7 ∧ TmV n w p.2 vs ∧ FlatOk n w r ys
theorem FlatOk.below {n m:Nat} {w w':World} (hb:Below m w w') (hm:n ≤ m):∀ (M:List (Int × Tm)) (xs:List Value),FlatOk n w M xs → FlatOk n w' M xs
  | [],xs,h=>h
  | p :: r,xs,⟨vs,ys,e,h1,h2,h3⟩=>⟨vs,ys,e,h1,TmV.below hb hm _ _ h2,FlatOk.below hb hm r ys h3⟩
theorem FlatOk.snoc {n:Nat} {w:World} {p:Int × Tm} {vs:List Value} (hv:TmV n w p.2 vs) (hl:vs.length = 7):∀ (M:List (Int × Tm)) (xs:List Value),FlatOk n w M xs → FlatOk n w (M ++ [p]) (xs ++ (.int .i64 p.1 :: vs))
  | [],xs,h=>by
    unfold FlatOk at h;subst h
    exact ⟨vs,[],by simp,hl,hv,rfl⟩
  | q :: r,xs,⟨us,ys,e,h1,h2,h3⟩=>⟨us,ys ++ (.int .i64 p.1 :: vs),by rw [e];simp,h1,h2,FlatOk.snoc hv hl r ys h3⟩
theorem FlatOk.get {n:Nat} {w:World}:∀ (M:List (Int × Tm)) (xs:List Value),FlatOk n w M xs → ∀ (i:Nat) p,M[i]? = some p → ∃ vs,xs[i * 8]? = some (.int .i64 p.1) ∧ vs.length = 7 ∧ (∀ (j:Nat) u,vs[j]? = some u → xs[i * 8 + 1 + j]? = some u) ∧ TmV n w p.2 vs
  | [],xs,_,i,p,hp=>by simp at hp
  | q :: r,xs,⟨us,ys,e,h1,h2,h3⟩,0,p,hp=>by
    simp at hp;subst hp
    refine ⟨us,by rw [e];rfl,h1,fun j u hj=>?_,h2⟩
    have hj7:j < us.length:=(List.getElem?_eq_some_iff.1 hj).1
    rw [e,show 0 * 8 + 1 + j = j + 1 by omega,List.getElem?_cons_succ,List.getElem?_append_left hj7]
    exact hj
  | q :: r,xs,⟨us,ys,e,h1,h2,h3⟩,i + 1,p,hp=>by
    obtain ⟨vs,g1,g2,g3,g4⟩:=FlatOk.get r ys h3 i p (by simpa using hp)
    have hs:∀ k,xs[8 + k]? = ys[k]?:=fun k=>by
      rw [e,show 8 + k = (7 + k) + 1 by omega,List.getElem?_cons_succ,List.getElem?_append_right (by omega),h1]
      congr 1;omega
    refine ⟨vs,?_,g2,fun j u hj=>?_,g4⟩
    · rw [show (i + 1) * 8 = 8 + i * 8 by omega,hs];exact g1
    · rw [show (i + 1) * 8 + 1 + j = 8 + (i * 8 + 1 + j) by omega,hs];exact g3 j u hj
theorem bsV_of_owns {base n m:Nat} {w:World} {sv:Value} {M:List (Int × Tm)} {xs:List Value} (h:w.ownsRow base 114 8 sv M.length xs) (hF:FlatOk n w M xs) (hnm:n ≤ m) (hm:w.heap.size ≤ m):BsV m w M sv:=by
  obtain ⟨h1,⟨e,h0⟩ | ⟨g,cap,cur,e1,hb,hg,hnc,hmx,hs,ht⟩⟩:=h
  · have:M = []:=List.eq_nil_of_length_eq_zero h0
    subst this
    exact ⟨none,0,e,fun i p hp=>by simp at hp⟩
  · have hcell:∀ (k:Nat) u,xs[k]? = some u → w.cell? ⟨g,k,none⟩ = some u:=fun k u hk=>by
      have hk2:=(List.getElem?_eq_some_iff.1 hk).1
      rw [h1] at hk2
      have h2:cur[k]? = some u:=by
        rw [← Array.getElem?_toList,← List.getElem?_take_of_lt hk2,ht];exact hk
      simpa [World.cell?,hg] using h2
    refine ⟨some ⟨g,0,none⟩,cap,e1,fun i p hp=>?_⟩
    obtain ⟨vs,g1,g2,g3,g4⟩:=FlatOk.get M xs hF i p hp
    have hgl:=(Array.getElem?_eq_some_iff.1 hg).1
    refine ⟨g,0,vs,rfl,by omega,?_,fun j u hj=>?_,TmV.up hnm _ _ g4⟩
    · rw [Nat.zero_add];exact hcell _ _ g1
    · rw [Nat.zero_add];exact hcell _ _ (g3 j u hj)
def zBn:Value:=.agg #[.int .i64 0,.int .i64 0,.int .i64 0,.string { data:=#[] },.bool false,.slice none 0 0,.slice none 0 0,.slice none 0 0]
theorem inf114:(Tryz.prog.info? 114).map (fun i=>(i.zero,i.size,i.bytes)) = some (some zBn,8,120):=by kernel_rfl
theorem wpList_put8 {ops:Array Oper} {rest:List Oper} {o:Oper} {a:Act} {Q:Exit → Act → World → Prop} (w:World) (hgd:o.guard = none) (s x:Operand)
    (ho:o.op = .call { callee:=.builtin .append,args:=#[s,x],argTypes:=#[32,32] }) (base:Nat) (hb:base ≤ w.heap.size) (sv:Value) (m:Nat) (xs:List Value) (hs:a.eval s = sv) (hown:w.ownsRow base 114 8 sv m xs)
    (z:Int) (u0 u1:Int) (u2:ByteArray) (u3:Bool) (a4 a5 a6:Option Addr) (l4 l5 l6 c4 c5 c6:Nat) (hx:a.eval x = .slice (some ⟨w.heap.size,0,none⟩) 1 1) (hm:m ≤ 1048576)
    (h:∀ v' w',w'.ownsRow base 114 8 v' (m + 1) (xs ++ [.int .i64 z,.int .i64 u0,.int .i64 u1,.string u2,.bool u3,.slice a4 l4 c4,.slice a5 l5 c5,.slice a6 l6 c6]) → Below base w w' → (∀ k,k < w.heap.size → sv.ownBlock ≠ some k → w'.heap[k]? = w.heap[k]?) → wpList Tryz.prog ops Q rest (a.put o.dst v') w') :
    wpList Tryz.prog ops Q (o :: rest) a (w.alloc (.cells #[.int .i64 z,.int .i64 u0,.int .i64 u1,.string u2,.bool u3,.slice a4 l4 c4,.slice a5 l5 c5,.slice a6 l6 c6] 114)):=by
  obtain ⟨i0,hi,hz0,hz1,hz2⟩:=info_parts inf114
  refine wpList_append_own _ hgd s x 32 ho base 114 i0 zBn 8 120 Tryz.underlying32 hi hz0 hz1 hz2 rfl (by decide) sv m xs hs (hown.alloc _) ⟨w.heap.size,0,none⟩ 1 1 [.int .i64 z,.int .i64 u0,.int .i64 u1,.string u2,.bool u3,.slice a4 l4 c4,.slice a5 l5 c5,.slice a6 l6 c6] hx rfl ?c1 ?c2 ?c3 ?c4 ?c5 ?_
  case c1=>
    intro j u hj
    match j,hj with
    | 0,hj | 1,hj | 2,hj | 3,hj | 4,hj | 5,hj | 6,hj | 7,hj=>
      simp at hj;subst hj
      simp [Addr.add]
    | j + 8,hj=>simp at hj
  case c2=>intro u hu;simp at hu;rcases hu with rfl | rfl | rfl | rfl | rfl | rfl | rfl | rfl <;> rfl
  case c3=>unfold maxLen;omega
  case c4=>omega
  case c5=>simp;omega
  intro v' w2 hown' hgrow _
  refine h v' w2 (by simpa using hown') ?_ (fun k hk hne=>(hgrow.block k (by simp;omega) (fun e=>hne e.symm)).trans (Lib.alloc_old w _ k hk))
  exact ((Below.refl base w).alloc hb _).grown hgrow (by simp;omega) (fun k hk=>(hown.lt k hk).1)
end Go.Proofs.YtaloeffmigffaaaGreatDoor
end
section
namespace Go.Proofs.YtaloeffmigffaaaGreatDoor
open Go.RowKit Go.Big
attribute [local go_sem] Heavy.uponW
def PutInv (L:List (Int × Tm)) (v:Int) (T:Tm) (M:List (Int × Tm)) (i:Nat) (dn:Bool):Prop:=
  if dn then M ++ L.drop i = putB L v T else M = L.take i ∧ putB L v T = L.take i ++ putB (L.drop i) v T
theorem PutInv.start (L:List (Int × Tm)) (v:Int) (T:Tm):PutInv L v T [] 0 false:=by simp [PutInv]
theorem PutInv.later {L:List (Int × Tm)} {v:Int} {T:Tm} {M:List (Int × Tm)} {i:Nat} {p:Int × Tm} (h:PutInv L v T M i true) (hp:L[i]? = some p):PutInv L v T (M ++ [p]) (i + 1) true:=by
  have hi:=(List.getElem?_eq_some_iff.1 hp).1
  have e:=(List.getElem?_eq_some_iff.1 hp).2
  simp only [PutInv,if_true] at h ⊢
  rw [List.drop_eq_getElem_cons hi,e] at h
  simpa using h
theorem PutInv.here {L:List (Int × Tm)} {v:Int} {T:Tm} {M:List (Int × Tm)} {i:Nat} {p:Int × Tm} (h:PutInv L v T M i false) (hp:L[i]? = some p) (hv:v < p.1):PutInv L v T (M ++ [(v,T)] ++ [p]) (i + 1) true:=by
  have hi:=(List.getElem?_eq_some_iff.1 hp).1
  have e:=(List.getElem?_eq_some_iff.1 hp).2
  simp only [PutInv,if_true,Bool.false_eq_true,if_false] at h ⊢
  obtain ⟨h1,h2⟩:=h
  rw [h2,List.drop_eq_getElem_cons hi,e]
  obtain ⟨u,x⟩:=p
  rw [putB,if_pos hv,h1]
  simp
theorem PutInv.next {L:List (Int × Tm)} {v:Int} {T:Tm} {M:List (Int × Tm)} {i:Nat} {p:Int × Tm} (h:PutInv L v T M i false) (hp:L[i]? = some p) (hv:¬ v < p.1):PutInv L v T (M ++ [p]) (i + 1) false:=by
  have hi:=(List.getElem?_eq_some_iff.1 hp).1
  have e:=(List.getElem?_eq_some_iff.1 hp).2
  simp only [PutInv,Bool.false_eq_true,if_false] at h ⊢
  obtain ⟨h1,h2⟩:=h
  refine ⟨by rw [h1,List.take_add_one,hp];rfl,?_⟩
  rw [h2,List.take_add_one,hp,List.drop_eq_getElem_cons hi,e]
  obtain ⟨u,x⟩:=p
  rw [putB,if_neg hv]
  simp
theorem PutInv.done_t {L:List (Int × Tm)} {v:Int} {T:Tm} {M:List (Int × Tm)} (h:PutInv L v T M L.length true):M = putB L v T:=by
  simpa [PutInv] using h
theorem PutInv.done_f {L:List (Int × Tm)} {v:Int} {T:Tm} {M:List (Int × Tm)} (h:PutInv L v T M L.length false):M ++ [(v,T)] = putB L v T:=by
  simp only [PutInv,Bool.false_eq_true,if_false,List.take_length,List.drop_length] at h
  rw [h.1,h.2]
  rfl
theorem PutInv.len {L:List (Int × Tm)} {v:Int} {T:Tm} {M:List (Int × Tm)} {i:Nat} (h:PutInv L v T M i false):M.length ≤ i:=by
  simp only [PutInv,Bool.false_eq_true,if_false] at h
  rw [h.1,List.length_take];omega
theorem owns_snoc {w:World} {base:Nat} {v:Value} {M:List (Int × Tm)} {p:Int × Tm} {xs:List Value} (h:w.ownsRow base 114 8 v (M.length + 1) xs):w.ownsRow base 114 8 v (M ++ [p]).length xs:=by
  have e:(M ++ [p]).length = M.length + 1:=by simp
  rw [e];exact h
def PutR (L:List (Int × Tm)) (v:Int) (T:Tm) (n base:Nat) (i:Nat) (s5 s6:Value) (w:World):Prop:=
  ∃ (dn:Bool) (M:List (Int × Tm)) (xs:List Value),s6 = .bool dn ∧ w.ownsRow base 114 8 s5 M.length xs ∧ FlatOk n w M xs ∧ M.length ≤ i + 1 ∧ PutInv L v T M i dn
set_option maxRecDepth 100000 in
set_option maxHeartbeats 4000000 in
theorem put_calls (L:List (Int × Tm)) (v:Int) (T:Tm) (n:Nat) (w:World) (sv:Value) (vs:List Value) (h:BsV n w L sv) (hT:TmV n w T vs) (hbig:L.length < 1000000) (hn:n ≤ w.heap.size) :
    Calls Tryz.prog 52 #[sv,.agg (.int .i64 v :: vs).toArray] w fun e w'=>(∃ sv',e = .returned sv' ∧ BsV w'.heap.size w' (putB L v T) sv') ∧ Below w.heap.size w w':=by
  obtain ⟨a,c,rfl,hA⟩:=h
  obtain ⟨len,hl⟩:∃ len,L.length = len:=⟨_,rfl⟩
  rw [hl] at hbig ⊢
  have Al:Aside (L.length = len):=hl
  have hAA:Aside (BsAt n w L a):=hA
  have hTA:Aside (∀ w2,Below w.heap.size w w2 → TmV n w2 T vs):=fun w2 hb=>TmV.below hb hn _ _ hT
  clear hl hA
  obtain ⟨R,hR⟩:∃ R,putB L v T = R:=⟨_,rfl⟩
  have hRA:Aside (putB L v T = R):=hR
  rw [hR]
  have hT0:Aside (∃ X:Tm,X = T):=⟨T,rfl⟩
  obtain ⟨TT,hTT⟩:∃ TT,T = TT:=⟨_,rfl⟩
  have hv7:vs.length = 7:=by
    obtain ⟨k,v,nm,g,num,den,args⟩:=T
    simp only [TmV] at hT
    obtain ⟨_,_,_,_,rfl,_⟩:=hT
    rfl
  have hvs:∃ (u0 u1:Int) (u2:ByteArray) (u3:Bool) (a4 a5 a6:Option Addr) (l4 l5 l6 c4 c5 c6:Nat),vs = [.int .i64 u0,.int .i64 u1,.string u2,.bool u3,.slice a4 l4 c4,.slice a5 l5 c5,.slice a6 l6 c6]:=by
    obtain ⟨k,v,nm,g,num,den,args⟩:=T
    simp only [TmV] at hT
    obtain ⟨_,_,_,_,rfl,⟨⟨_,_,rfl,_⟩,⟨_,_,rfl,_⟩⟩,_⟩:=hT
    exact ⟨_,_,_,_,_,_,_,_,_,_,_,_,_,rfl⟩
  obtain ⟨u0,u1,u2,u3,a4,a5,a6,l4,l5,l6,d4,d5,d6,rfl⟩:=hvs
  obtain ⟨wb,hwb⟩:∃ wb,w.alloc (.cells #[.int .i64 v,.int .i64 u0,.int .i64 u1,.string u2,.bool u3,.slice a4 l4 d4,.slice a5 l5 d5,.slice a6 l6 d6] 114) = wb:=⟨_,rfl⟩
  have hBw:Below w.heap.size w wb:=hwb ▸ below_alloc _ _
  have hq:wb.heap[w.heap.size]? = some (.cells #[.int .i64 v,.int .i64 u0,.int .i64 u1,.string u2,.bool u3,.slice a4 l4 d4,.slice a5 l5 d5,.slice a6 l6 d6] 114):=hwb ▸ heap_alloc_new _ _
  have hsz:Aside (wb.heap.size = w.heap.size + 1):=by show _ = _;rw [← hwb,World.size_alloc]
  have fq:Aside (∀ w2,Below (w.heap.size + 1) wb w2 → w2.cell? ⟨w.heap.size,0,none⟩ = some (.int .i64 v) ∧ w2.cell? ⟨w.heap.size,1,none⟩ = some (.int .i64 u0) ∧ w2.cell? ⟨w.heap.size,2,none⟩ = some (.int .i64 u1) ∧ w2.cell? ⟨w.heap.size,3,none⟩ = some (.string u2) ∧ w2.cell? ⟨w.heap.size,4,none⟩ = some (.bool u3) ∧ w2.cell? ⟨w.heap.size,5,none⟩ = some (.slice a4 l4 d4) ∧ w2.cell? ⟨w.heap.size,6,none⟩ = some (.slice a5 l5 d5) ∧ w2.cell? ⟨w.heap.size,7,none⟩ = some (.slice a6 l6 d6)):=fun w2 hb=>by
    have:=(hb.block w.heap.size (by omega)).trans hq
    simp [World.cell?,this]
  clear hq hT hR hv7 hT0 hTT
  show Calls Tryz.prog 52 #[.slice a len c,.agg #[.int .i64 v,.int .i64 u0,.int .i64 u1,.string u2,.bool u3,.slice a4 l4 d4,.slice a5 l5 d5,.slice a6 l6 d6]] w _
  go_enter Tryz.func52,Tryz.ntmps52
  go_upto_region 1 with fail
  clear hwb
  go_wp2
  go_loopw [11,5,6] (fun s11 s5 s6 wr=>∃ i:Nat,s11 = .int .i64 i ∧ i ≤ len ∧ PutR L v T n (w.heap.size + 1) i s5 s6 wr ∧ Below (w.heap.size + 1) wb wr) (fun s _ _ _=>len - (intOf s).toNat)
  case atStart=>exact ⟨0,rfl,Nat.zero_le _,⟨false,[],[],rfl,⟨by simp,.inl ⟨rfl,rfl⟩⟩,rfl,by simp,PutInv.start L v T⟩,Below.refl _ _⟩
  case round=>
    obtain ⟨i,rfl,hi,⟨dn,M,xs,rfl,hown,hF,hMl,hP⟩,hB⟩:=hrel
    have hBww:Below w.heap.size w wr:=hBw.trans (hB.mono (by omega))
    have hBs:=hB.size
    obtain ⟨f0,f1,f2,f3,f4,f5,f6,f7⟩:=fq.out wr hB
    by_cases hlt:i < len
    · obtain ⟨p,hp⟩:∃ p,L[i]? = some p:=⟨L[i]'(by rw [Al.out];exact hlt),List.getElem?_eq_getElem _⟩
      obtain ⟨b,o,vs',rfl,hbn,hc0,hc,hv⟩:=hAA.out i p hp
      have c0:=((hBww.mono hn).cell (p:=⟨b,o + i * 8,none⟩) hbn).trans hc0
      have hvA:Aside (∀ w2,Below w.heap.size w w2 → TmV n w2 p.2 vs'):=fun w2 hb=>TmV.below hb hn _ _ hv
      have hpA:Aside (L[i]? = some p):=hp
      have hPA:Aside (PutInv L v T M i dn):=hP
      have hFA:Aside (FlatOk n wr M xs):=hF
      have hMA:Aside (M.length ≤ i + 1):=hMl
      clear hp hc0 hP hF
      obtain ⟨pv,T'⟩:=p
      have hvs:∃ (y0 y1:Int) (y2:ByteArray) (y3:Bool) (z4 z5 z6:Option Addr) (m4 m5 m6 e4 e5 e6:Nat),vs' = [.int .i64 y0,.int .i64 y1,.string y2,.bool y3,.slice z4 m4 e4,.slice z5 m5 e5,.slice z6 m6 e6]:=by
        obtain ⟨k,v,nm,g,num,den,args⟩:=T'
        simp only [TmV] at hv
        obtain ⟨_,_,_,_,rfl,⟨⟨_,_,rfl,_⟩,⟨_,_,rfl,_⟩⟩,_⟩:=hv
        exact ⟨_,_,_,_,_,_,_,_,_,_,_,_,_,rfl⟩
      obtain ⟨y0,y1,y2,y3,z4,z5,z6,m4,m5,m6,e4,e5,e6,rfl⟩:=hvs
      obtain ⟨g0,g1,g2,g3,g4,g5,g6⟩:=seven8 (w:=w) (w2:=wr) (fun q hq=>(hBww.mono hn).cell (hq ▸ hbn)) hc
      have hi1:(i:Int) < (len:Int):=by omega
      have hi3:(0:Int) ≤ (i:Int):=by omega
      have hw3:IntKind.i64.wrap ((i:Int) + 1) = (i:Int) + 1:=by rw [IntKind.wrap_i64];omega
      have hsw:Aside (w.heap.size + 1 ≤ wr.heap.size):=by have:=hsz.out;show _ ≤ _;omega
      have hol:Aside (∀ k,u5.ownBlock = some k → k < wr.heap.size):=fun k hk=>(hown.lt k hk).2
      clear hc hv
      go_upto_region 6 with fail
      obtain ⟨wx,hwx⟩:∃ wx,wr.alloc (.cells #[.int .i64 pv,.int .i64 y0,.int .i64 y1,.string y2,.bool y3,.slice z4 m4 e4,.slice z5 m5 e5,.slice z6 m6 e6] 114) = wx:=⟨_,rfl⟩
      have hBx:Below (w.heap.size + 1) wr wx:=hwx ▸ (below_alloc wr _).mono (by have:=hsw.out;omega)
      have hxs:Aside (wx.heap.size = wr.heap.size + 1):=by show _ = _;rw [← hwx];simp
      have hownx:=hown.alloc (.cells #[.int .i64 pv,.int .i64 y0,.int .i64 y1,.string y2,.bool y3,.slice z4 m4 e4,.slice z5 m5 e5,.slice z6 m6 e6] 114)
      have hqx:=heap_alloc_new wr (.cells #[.int .i64 pv,.int .i64 y0,.int .i64 y1,.string y2,.bool y3,.slice z4 m4 e4,.slice z5 m5 e5,.slice z6 m6 e6] 114)
      rw [hwx] at hownx hqx ⊢
      clear hwx
      have fx:Aside (∀ w2:World,w2.heap[wr.heap.size]? = wx.heap[wr.heap.size]? → w2.cell? ⟨wr.heap.size,0,none⟩ = some (.int .i64 pv) ∧ w2.cell? ⟨wr.heap.size,1,none⟩ = some (.int .i64 y0) ∧ w2.cell? ⟨wr.heap.size,2,none⟩ = some (.int .i64 y1) ∧ w2.cell? ⟨wr.heap.size,3,none⟩ = some (.string y2) ∧ w2.cell? ⟨wr.heap.size,4,none⟩ = some (.bool y3) ∧ w2.cell? ⟨wr.heap.size,5,none⟩ = some (.slice z4 m4 e4) ∧ w2.cell? ⟨wr.heap.size,6,none⟩ = some (.slice z5 m5 e5) ∧ w2.cell? ⟨wr.heap.size,7,none⟩ = some (.slice z6 m6 e6)):=fun w2 e=>by
        have:=e.trans hqx
        simp [World.cell?,this]
      clear f0 f1 f2 f3 f4 f5 f6 f7
      obtain ⟨x0,x1,x2,x3,x4,x5,x6,x7⟩:=fx.out wx rfl
      have hBwx:Below (w.heap.size + 1) wb wx:=hB.trans hBx
      obtain ⟨f0,f1,f2,f3,f4,f5,f6,f7⟩:=fq.out wx hBwx
      have hwx':Below w.heap.size w wx:=hBw.trans (hBwx.mono (by omega))
      have hFx:Aside (FlatOk n wx M xs):=FlatOk.below (hBx.mono (show w.heap.size ≤ w.heap.size + 1 by omega)) hn M xs hFA.out
      clear hown
      cases dn
      · by_cases hvp:v < pv
        · have hvA2:Aside (v < pv):=hvp
          go_wp2_with (at_builtin;refine wpList_put8 _ rfl _ _ rfl (w.heap.size + 1) ?_ _ M.length xs rfl hownx _ _ _ _ _ _ _ _ _ _ _ _ _ _ rfl ?_ ?_)
          · rw [hxs.out];have:=hsw.out;omega
          · have:=hMA.out;omega
          intro s7 w7 ho7 hb7 hk7
          have hb7s:=hb7.size
          rw [hxs.out] at hb7s
          have hBw7:Below (w.heap.size + 1) wb w7:=hBwx.trans hb7
          obtain ⟨k0,k1,k2,k3,k4,k5,k6,k7⟩:=fx.out w7 (hk7 _ (by have:=hxs.out;omega) (fun e=>by have:=hol.out _ e;omega))
          have hw7:Below w.heap.size w w7:=hBw.trans (hBw7.mono (by omega))
          have hF7:Aside (FlatOk n w7 (M ++ [(v,T)]) (xs ++ [.int .i64 v,.int .i64 u0,.int .i64 u1,.string u2,.bool u3,.slice a4 l4 d4,.slice a5 l5 d5,.slice a6 l6 d6])):=
            FlatOk.snoc (p:=(v,T)) (hTA.out w7 hw7) rfl _ _ (FlatOk.below (hb7.mono (show w.heap.size ≤ w.heap.size + 1 by omega)) hn _ _ hFx.out)
          have ho7':Aside (w7.ownsRow (w.heap.size + 1) 114 8 s7 (M ++ [(v,T)]).length (xs ++ [.int .i64 v,.int .i64 u0,.int .i64 u1,.string u2,.bool u3,.slice a4 l4 d4,.slice a5 l5 d5,.slice a6 l6 d6])):=by
            have e:(M ++ [(v,T)]).length = M.length + 1:=by simp
            rw [e];exact ho7
          clear hk7 x0 x1 x2 x3 x4 x5 x6 x7 f0 f1 f2 f3 f4 f5 f6 f7 ho7
          go_wp2_with (at_builtin;refine wpList_put8 _ rfl _ _ rfl (w.heap.size + 1) ?_ _ (M ++ [(v,T)]).length _ rfl ho7'.out _ _ _ _ _ _ _ _ _ _ _ _ _ _ rfl ?_ ?_)
          · have:=hsw.out;omega
          · have:=hMA.out;simp;omega
          intro s9 w9 ho9 hb9 _
          have hB9:Below (w.heap.size + 1) wb w9:=hBw7.trans hb9
          have hw9:Below w.heap.size w w9:=hBw.trans (hB9.mono (by omega))
          have hRA9:Aside (PutR L v T n (w.heap.size + 1) (i + 1) s9 (.bool true) w9):=⟨true,(M ++ [(v,T)]) ++ [(pv,T')],(xs ++ [.int .i64 v,.int .i64 u0,.int .i64 u1,.string u2,.bool u3,.slice a4 l4 d4,.slice a5 l5 d5,.slice a6 l6 d6]) ++ [.int .i64 pv,.int .i64 y0,.int .i64 y1,.string y2,.bool y3,.slice z4 m4 e4,.slice z5 m5 e5,.slice z6 m6 e6],rfl,(by simpa using ho9),FlatOk.snoc (p:=(pv,T')) (hvA.out w9 hw9) rfl _ _ (FlatOk.below (hb9.mono (show w.heap.size ≤ w.heap.size + 1 by omega)) hn _ _ hF7.out),(by have:=hMA.out;have:=hPA.out.len;simp;omega),hPA.out.here hpA.out hvA2.out⟩
          clear ho9
          go_wp2
          go_roundw
          case rel=>exact ⟨i + 1,by simp,by omega,hRA9.out,hB9⟩
          case measure=>simp [intOf];omega
        · have hvA2:Aside (¬ v < pv):=hvp
          go_wp2_with (at_builtin;refine wpList_put8 _ rfl _ _ rfl (w.heap.size + 1) ?_ _ M.length _ rfl hownx _ _ _ _ _ _ _ _ _ _ _ _ _ _ rfl ?_ ?_)
          · rw [hxs.out];have:=hsw.out;omega
          · have:=hMA.out;simp;omega
          intro s9 w9 ho9 hb9 _
          have hB9:Below (w.heap.size + 1) wb w9:=hBwx.trans hb9
          have hw9:Below w.heap.size w w9:=hBw.trans (hB9.mono (by omega))
          have hRA9:Aside (PutR L v T n (w.heap.size + 1) (i + 1) s9 (.bool false) w9):=⟨false,M ++ [(pv,T')],xs ++ [.int .i64 pv,.int .i64 y0,.int .i64 y1,.string y2,.bool y3,.slice z4 m4 e4,.slice z5 m5 e5,.slice z6 m6 e6],rfl,(by simpa using ho9),FlatOk.snoc (p:=(pv,T')) (hvA.out w9 hw9) rfl _ _ (FlatOk.below (hb9.mono (show w.heap.size ≤ w.heap.size + 1 by omega)) hn _ _ hFx.out),(by have:=hMA.out;have:=hPA.out.len;simp;omega),hPA.out.next hpA.out (Int.not_lt.2 hvA2.out)⟩
          clear ho9
          go_wp2
          go_roundw
          case rel=>exact ⟨i + 1,by simp,by omega,hRA9.out,hB9⟩
          case measure=>simp [intOf];omega
      · go_wp2_with (at_builtin;refine wpList_put8 _ rfl _ _ rfl (w.heap.size + 1) ?_ _ M.length _ rfl hownx _ _ _ _ _ _ _ _ _ _ _ _ _ _ rfl ?_ ?_)
        · rw [hxs.out];have:=hsw.out;omega
        · have:=hMA.out;simp;omega
        intro s9 w9 ho9 hb9 _
        have hB9:Below (w.heap.size + 1) wb w9:=hBwx.trans hb9
        have hw9:Below w.heap.size w w9:=hBw.trans (hB9.mono (by omega))
        have hRA9:Aside (PutR L v T n (w.heap.size + 1) (i + 1) s9 (.bool true) w9):=⟨true,M ++ [(pv,T')],xs ++ [.int .i64 pv,.int .i64 y0,.int .i64 y1,.string y2,.bool y3,.slice z4 m4 e4,.slice z5 m5 e5,.slice z6 m6 e6],rfl,(by simpa using ho9),FlatOk.snoc (p:=(pv,T')) (hvA.out w9 hw9) rfl _ _ (FlatOk.below (hb9.mono (show w.heap.size ≤ w.heap.size + 1 by omega)) hn _ _ hFx.out),(by have:=hMA.out;simp;omega),hPA.out.later hpA.out⟩
        clear ho9
        go_wp2
        go_roundw
        case rel=>exact ⟨i + 1,by simp,by omega,hRA9.out,hB9⟩
        case measure=>simp [intOf];omega
    · obtain rfl:i = len:=by omega
      clear hi
      have hPA:Aside (PutInv L v T M i dn):=hP
      have hFA:Aside (FlatOk n wr M xs):=hF
      have hMA:Aside (M.length ≤ i + 1):=hMl
      have hsw:Aside (w.heap.size + 1 ≤ wr.heap.size):=by have:=hsz.out;show _ ≤ _;omega
      clear hP hF hMl
      cases dn
      · go_wp2_with (at_builtin;refine wpList_put8 _ rfl _ _ rfl (w.heap.size + 1) ?_ _ M.length xs rfl hown _ _ _ _ _ _ _ _ _ _ _ _ _ _ rfl ?_ ?_)
        · have:=hsw.out;omega
        · have:=hMA.out;omega
        intro s9 w9 ho9 hb9 _
        have hB9:Below (w.heap.size + 1) wb w9:=hB.trans hb9
        have hw9:Below w.heap.size w w9:=hBw.trans (hB9.mono (by omega))
        have hlen:M ++ [(v,T)] = R:=by rw [← hRA.out];exact PutInv.done_f (by rw [Al.out];exact hPA.out)
        have hfin:Aside (BsV w9.heap.size w9 R s9):=by
          show BsV _ _ _ _
          rw [← hlen]
          exact bsV_of_owns (base:=w.heap.size + 1) (n:=n) (xs:=xs ++ [.int .i64 v,.int .i64 u0,.int .i64 u1,.string u2,.bool u3,.slice a4 l4 d4,.slice a5 l5 d5,.slice a6 l6 d6]) (by simpa using ho9) (FlatOk.snoc (p:=(v,T)) (hTA.out w9 hw9) rfl _ _ (FlatOk.below (hb9.mono (show w.heap.size ≤ w.heap.size + 1 by omega)) hn _ _ hFA.out)) (Nat.le_trans hn hw9.size) (Nat.le_refl _)
        clear ho9
        go_wp2
        go_ret
        exact ⟨⟨_,rfl,hfin.out⟩,hw9⟩
      · have hlen:M = R:=by rw [← hRA.out];exact PutInv.done_t (by rw [Al.out];exact hPA.out)
        have hfin:Aside (BsV wr.heap.size wr R u5):=by
          show BsV _ _ _ _
          rw [← hlen]
          exact bsV_of_owns (base:=w.heap.size + 1) (n:=n) (xs:=xs) hown hFA.out (Nat.le_trans hn hBww.size) (Nat.le_refl _)
        clear hown
        go_wp2
        go_ret
        exact ⟨⟨_,rfl,hfin.out⟩,hBww⟩
end Go.Proofs.YtaloeffmigffaaaGreatDoor
end
