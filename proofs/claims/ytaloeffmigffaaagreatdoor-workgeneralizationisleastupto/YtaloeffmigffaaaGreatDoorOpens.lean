/-
  A part of the proof of the card of WorkGeneralizationIsLeast (second form): lemmas that the text Card uses. No condition of its own.
-/
import Derived.Test.YtaloeffmigffaaaGreatDoorRefC
import Derived.Test.YtaloeffmigffaaaGreatDoorFactE
import Derived.Test.YtaloeffmigffaaaGreatDoorLaw
import Derived.Test.YtaloeffmigffaaaGreatDoorChecks
import Derived.Test.YtaloeffmigffaaaGreatDoorRows
import Derived.ProofKit
import Derived.OpenShut
import Derived.Deep.Slices
import Derived.Deep.Fields
import Derived.ChangeSame
import Derived.Lib.SmallJoins
import Derived.Carry
import Derived.Test.YtaloeffmigffaaaGreatDoorCards
import Derived.Test.YtaloeffmigffaaaGreatDoorTie
import Derived.WalkKit
import Derived.Deep.DeepHandedRow
import Derived.Lib.LaidTab
set_option linter.all false
set_option linter.unusedVariables false
set_option linter.unusedSimpArgs false
section
namespace Go.Proofs.YtaloeffmigffaaaGreatDoor
open Go.ChangeShapes Go.WideShapes Go.Deep
open Go.RowKit Go.Joins
theorem bulk_part {H:Type} {d:DataW H} {l:List (DataW H)} (h:d ∈ l):Rows.uptoBulk d ≤ Rows.uptoBulkAll l:=by
  induction l with
  | nil=>cases h
  | cons x r ih=>
    simp only [Rows.uptoBulkAll]
    cases List.mem_cons.1 h with
    | inl e=>subst e;omega
    | inr e=>have:=ih e;omega
theorem bulk_one {H:Type} (d:DataW H):1 ≤ Rows.uptoBulk d:=by
  cases d with
  | lit l=>cases l <;> simp [Rows.uptoBulk]
  | nil=>simp [Rows.uptoBulk]
  | ptr d=>simp [Rows.uptoBulk]
  | slice elems spare=>simp [Rows.uptoBulk]
  | agg parts=>simp [Rows.uptoBulk]
  | iface t d=>simp [Rows.uptoBulk]
  | map entries=>simp [Rows.uptoBulk]
  | held h=>simp [Rows.uptoBulk]
theorem bulk_length {H:Type} (l:List (DataW H)):l.length ≤ Rows.uptoBulkAll l:=by
  induction l with
  | nil=>simp [Rows.uptoBulkAll]
  | cons x r ih=>have:=bulk_one x;simp only [Rows.uptoBulkAll,List.length_cons];omega
theorem list_of {A:Type} {P:Nat → A → Prop}:∀ n:Nat,(∀ i,i < n → ∃ x,P i x) → ∃ L:List A,L.length = n ∧ ∀ i x,L[i]? = some x → P i x
  | 0,_=>⟨[],rfl,fun i x h=>by simp at h⟩
  | n + 1,h=>by
    obtain ⟨L,h1,h2⟩:=list_of n fun i hi=>h i (by omega)
    obtain ⟨x,hx⟩:=h n (by omega)
    refine ⟨L ++ [x],by simp [h1],fun i y hy=>?_⟩
    by_cases hi:i < n
    · rw [List.getElem?_append_left (by omega)] at hy
      exact h2 i y hy
    · rw [List.getElem?_append_right (by omega)] at hy
      have h0:i - L.length = 0:=by
        have:=(List.getElem?_eq_some_iff.1 hy).1;simp at this;omega
      rw [h0] at hy
      simp at hy
      subst hy
      have:i = n:=by omega
      rw [this];exact hx
theorem u32_small {z:Int} (h:(Lit.int .u32 z).wf = true):0 ≤ z ∧ z < 4294967296:=by
  simp [Lit.wf,IntKind.wrap,IntKind.min,IntKind.max,IntKind.bits,IntKind.signed] at h
  omega
theorem addr_plain {W:World} {a:Addr} {v:Value} (h:W.cell? a = some v):∃ b o,a = ⟨b,o,none⟩:=by
  have hsp:a.spot = none:=by
    cases hs:a.spot with
    | none=>rfl
    | some s=>
      unfold World.cell? at h
      rw [hs] at h
      split at h <;> simp at h
  obtain ⟨ab,ao,asp⟩:=a
  simp only at hsp
  subst hsp
  exact ⟨ab,ao,rfl⟩
theorem add_plain (ab ao k:Nat):Addr.add ⟨ab,ao,none⟩ k = ⟨ab,ao + k,none⟩:=by
  unfold Addr.add
  split
  · next h=>subst h;rfl
  · rfl
theorem cells67:Tryz.prog.cellsOf 67 = 1:=by kernel_rfl
theorem cells27:Tryz.prog.cellsOf 27 = 7:=by kernel_rfl
theorem cells24:Tryz.prog.cellsOf 24 = 3:=by kernel_rfl
theorem cells25:Tryz.prog.cellsOf 25 = 1:=by kernel_rfl
theorem cells22:Tryz.prog.cellsOf 22 = 1:=by kernel_rfl
theorem cells3:Tryz.prog.cellsOf 3 = 1:=by kernel_rfl
theorem cells4:Tryz.prog.cellsOf 4 = 1:=by kernel_rfl
theorem cells9:Tryz.prog.cellsOf 9 = 1:=by kernel_rfl
section
variable {H:Type} {enc:TypeId × Value → H} {W:World}
theorem limbs_open {fuel:Nat} {cs:List Value} {x:DataW H × List MemPlace} (h:DataW.trod enc Tryz.prog W 0 (fun _=>true) true fuel 22 cs = some x) :
    ∃ (ao:Option Addr) (cap:Nat) (L:List Nat),cs = [.slice ao L.length cap] ∧ L.length ≤ Rows.uptoBulk x.1 ∧ LimAt W.heap.size W ao L:=by
  rcases open_slice Tryz.underlying22 h with ⟨rfl,rfl⟩ | ⟨a,len,cap,m,n,D,Pl,rfl,_,hl,_,hm,rfl,hi⟩
  · exact ⟨none,0,[],rfl,by simp,(fun x hx=>by simp at hx),fun h=>absurd rfl h⟩
  · have hlen:len ≤ Rows.uptoBulkAll ((List.range len).map D):=by
      have h1:=bulk_length ((List.range len).map D)
      rw [List.length_map,List.length_range] at h1
      omega
    have hmc:len ≤ m:=by rw [hm];simpa using hl
    obtain ⟨L,hL1,hL2⟩:=list_of (P:=fun i (x:Nat)=>x < 4294967296 ∧ W.cell? (a.add i) = some (.int .u32 x)) len fun i hil=>by
      obtain ⟨cs',hc,ht⟩:=hi i (by omega)
      obtain ⟨z,rfl,_,hw⟩:=DataW.trod_int Tryz.underlying67 ht
      obtain ⟨h0,h1⟩:=u32_small hw
      rw [cells67,Nat.mul_one] at hc
      obtain ⟨_,_,hat⟩:=World.cells?_some hc
      have h3:=hat 0 (by decide)
      rw [Go.Deep.add_add,Nat.add_zero] at h3
      refine ⟨z.toNat,by omega,?_⟩
      rw [h3,Int.toNat_of_nonneg h0]
      rfl
    refine ⟨some a,cap,L,by rw [hL1],by simp only [Rows.uptoBulk];omega,?_,fun hne=>?_⟩
    · intro x hx
      obtain ⟨i,hi⟩:=List.getElem?_of_mem hx
      exact (hL2 i x hi).1
    · obtain ⟨x0,hx0⟩:∃ x0,L[0]? = some x0:=by
        cases L with
        | nil=>exact absurd rfl hne
        | cons x L=>exact ⟨x,rfl⟩
      have h00:=(hL2 0 x0 hx0).2
      have ha0:a.add 0 = a:=by simp [Addr.add]
      rw [ha0] at h00
      obtain ⟨ab,ao,rfl⟩:=addr_plain h00
      refine ⟨ab,ao,rfl,block_lt_of_cell h00,fun j x hx=>?_⟩
      have:=(hL2 j x hx).2
      rwa [add_plain] at this
theorem list1 {α:Type} {l:List α} (h:l.length = 1):∃ a,l = [a]:=by
  match l,h with
  | [a],_=>exact ⟨a,rfl⟩
theorem list3 {α:Type} {l:List α} (h:l.length = 3):∃ a b c,l = [a,b,c]:=by
  match l,h with
  | [a,b,c],_=>exact ⟨a,b,c,rfl⟩
theorem list5 {α:Type} {l:List α} (h:l.length = 5):∃ a b c d e,l = [a,b,c,d,e]:=by
  match l,h with
  | [a,b,c,d,e],_=>exact ⟨a,b,c,d,e,rfl⟩
theorem list7 {α:Type} {l:List α} (h:l.length = 7):∃ a b c d e f g,l = [a,b,c,d,e,f,g]:=by
  match l,h with
  | [a,b,c,d,e,f,g],_=>exact ⟨a,b,c,d,e,f,g,rfl⟩
theorem number_open {fuel:Nat} {cs:List Value} {x:DataW H × List MemPlace} (h:DataW.trod enc Tryz.prog W 0 (fun _=>true) true fuel 24 cs = some x) :
    ∃ (g:Bool) (s1 s2:Value) (num den:List Nat),cs = [.bool g,s1,s2] ∧ NumAt W.heap.size W g s1 s2 num den ∧ num.length ≤ Rows.uptoBulk x.1 ∧ den.length ≤ Rows.uptoBulk x.1:=by
  obtain ⟨xs,n,_,rfl,hl,hx,hf⟩:=DataW.trod_struct Tryz.underlying24 h
  rw [cells24] at hl
  obtain ⟨c0,c1,c2,rfl⟩:=list3 hl
  obtain ⟨y0,y1,y2,rfl⟩:=list3 (hx.trans rfl)
  have h0:DataW.trod enc Tryz.prog W 0 (fun _=>true) true n 4 (([c0,c1,c2].drop 0).take (Tryz.prog.cellsOf 4)) = some y0:=hf 0 _ rfl
  rw [cells4] at h0
  have h1:DataW.trod enc Tryz.prog W 0 (fun _=>true) true n 22 (([c0,c1,c2].drop 1).take (Tryz.prog.cellsOf 22)) = some y1:=hf 1 _ rfl
  rw [cells22] at h1
  have h2:DataW.trod enc Tryz.prog W 0 (fun _=>true) true n 22 (([c0,c1,c2].drop 2).take (Tryz.prog.cellsOf 22)) = some y2:=hf 2 _ rfl
  rw [cells22] at h2
  obtain ⟨g,e0,_⟩:=DataW.trod_bool Tryz.underlying4 h0
  obtain ⟨a1,p1,L1,e1,b1,l1⟩:=limbs_open h1
  obtain ⟨a2,p2,L2,e2,b2,l2⟩:=limbs_open h2
  simp only [List.drop_zero,List.drop_succ_cons,List.take_succ_cons,List.take_zero,List.cons.injEq,and_true] at e0 e1 e2
  subst e0 e1 e2
  have m1:=bulk_part (d:=y1.1) (l:=[y0.1,y1.1,y2.1]) (by simp)
  have m2:=bulk_part (d:=y2.1) (l:=[y0.1,y1.1,y2.1]) (by simp)
  refine ⟨g,_,_,L1,L2,rfl,⟨⟨a1,p1,rfl,l1⟩,⟨a2,p2,rfl,l2⟩⟩,?_,?_⟩ <;> simp only [List.map_cons,List.map_nil,Rows.uptoBulk] <;> omega
theorem tms_of {n:Nat} {w:World} {b off:Nat} (hb:b < n):∀ (L:List Tm) (i:Nat),(∀ k T,L[k]? = some T → ∃ vs,(∀ (j:Nat) u,vs[j]? = some u → w.cell? ⟨b,off + (i + k) * 7 + j,none⟩ = some u) ∧ TmV n w T vs) → TmsV n w L (some ⟨b,off,none⟩) i
  | [],_,_=>by simp only [TmsV]
  | T :: r,i,h=>by
    simp only [TmsV]
    obtain ⟨vs,h1,h2⟩:=h 0 T rfl
    refine ⟨⟨b,off,vs,rfl,hb,fun j u hj=>by have:=h1 j u hj;rwa [Nat.add_zero] at this,h2⟩,tms_of hb r (i + 1) fun k T' hk=>?_⟩
    obtain ⟨vs',h3,h4⟩:=h (k + 1) T' (by simpa using hk)
    exact ⟨vs',fun j u hj=>by have:=h3 j u hj;rwa [show i + (k + 1) = i + 1 + k by omega] at this,h4⟩
theorem term_open:∀ (B:Nat),B ≤ 1048576 → ∀ (fuel:Nat) (cs:List Value) (x:DataW H × List MemPlace),DataW.trod enc Tryz.prog W 0 (fun _=>true) true fuel 27 cs = some x → Rows.uptoBulk x.1 ≤ B → ∃ T,TmV W.heap.size W T cs:=by
  intro B
  induction B with
  | zero=>
    intro _ fuel cs x _ hb
    have:=bulk_one x.1
    omega
  | succ B ih=>
    intro hB fuel cs x h hb
    obtain ⟨xs,n,_,rfl,hl,hx,hf⟩:=DataW.trod_struct Tryz.underlying27 h
    rw [cells27] at hl
    obtain ⟨c0,c1,c2,c3,c4,c5,c6,rfl⟩:=list7 hl
    obtain ⟨y0,y1,y2,y3,y4,rfl⟩:=list5 (hx.trans rfl)
    have h0:DataW.trod enc Tryz.prog W 0 (fun _=>true) true n 3 (([c0,c1,c2,c3,c4,c5,c6].drop 0).take (Tryz.prog.cellsOf 3)) = some y0:=hf 0 _ rfl
    rw [cells3] at h0
    have h1:DataW.trod enc Tryz.prog W 0 (fun _=>true) true n 3 (([c0,c1,c2,c3,c4,c5,c6].drop 1).take (Tryz.prog.cellsOf 3)) = some y1:=hf 1 _ rfl
    rw [cells3] at h1
    have h2:DataW.trod enc Tryz.prog W 0 (fun _=>true) true n 9 (([c0,c1,c2,c3,c4,c5,c6].drop 2).take (Tryz.prog.cellsOf 9)) = some y2:=hf 2 _ rfl
    rw [cells9] at h2
    have h3:DataW.trod enc Tryz.prog W 0 (fun _=>true) true n 24 (([c0,c1,c2,c3,c4,c5,c6].drop 3).take (Tryz.prog.cellsOf 24)) = some y3:=hf 3 _ rfl
    rw [cells24] at h3
    have h4:DataW.trod enc Tryz.prog W 0 (fun _=>true) true n 25 (([c0,c1,c2,c3,c4,c5,c6].drop 6).take (Tryz.prog.cellsOf 25)) = some y4:=hf 4 _ rfl
    rw [cells25] at h4
    obtain ⟨k,e0,_⟩:=DataW.trod_int Tryz.underlying3 h0
    obtain ⟨v,e1,_⟩:=DataW.trod_int Tryz.underlying3 h1
    obtain ⟨nm,e2,_⟩:=DataW.trod_string Tryz.underlying9 h2
    obtain ⟨g,s1,s2,num,den,e3,hN,bn,bd⟩:=number_open h3
    simp only [List.drop_zero,List.drop_succ_cons,List.take_succ_cons,List.take_zero,List.cons.injEq,and_true] at e0 e1 e2 e3
    obtain ⟨rfl,rfl,rfl⟩:=e3
    subst e0 e1 e2
    have m3:=bulk_part (d:=y3.1) (l:=[y0.1,y1.1,y2.1,y3.1,y4.1]) (by simp)
    have m4:=bulk_part (d:=y4.1) (l:=[y0.1,y1.1,y2.1,y3.1,y4.1]) (by simp)
    simp only [List.map_cons,List.map_nil,Rows.uptoBulk] at hb
    rcases open_slice Tryz.underlying25 h4 with ⟨e4,_⟩ | ⟨a,len,cap,m,n',D,Pl,e4,_,hl4,_,hm,e5,hi⟩
    · simp only [List.drop_zero,List.drop_succ_cons,List.take_succ_cons,List.take_zero,List.cons.injEq,and_true] at e4
      subst e4
      refine ⟨.mk k v nm g num den [],?_⟩
      simp only [TmV,TmsV]
      exact ⟨c4,c5,none,0,rfl,hN,trivial,by simp,by omega,by omega⟩
    · simp only [List.drop_zero,List.drop_succ_cons,List.take_succ_cons,List.take_zero,List.cons.injEq,and_true] at e4
      subst e4
      have hy4:Rows.uptoBulk y4.1 = Rows.uptoBulk (DataW.slice ((List.range len).map D) ((List.range (m - len)).map fun j=>D (len + j))):=by rw [e5]
      simp only [Rows.uptoBulk] at hy4
      clear e5
      have hlen:len ≤ Rows.uptoBulkAll ((List.range len).map D):=by
        have h1:=bulk_length ((List.range len).map D)
        rw [List.length_map,List.length_range] at h1
        omega
      have hmc:len ≤ m:=by rw [hm];simpa using hl4
      obtain ⟨L,hL1,hL2⟩:=list_of (P:=fun i (T:Tm)=>∃ vs,W.cells? 0 (a.add (i * 7)) 7 = some vs ∧ TmV W.heap.size W T vs) len fun i hil=>by
        obtain ⟨cs',hc,ht⟩:=hi i (by omega)
        rw [cells27] at hc
        have hd:=bulk_part (d:=D i) (l:=(List.range len).map D) (List.mem_map.2 ⟨i,List.mem_range.2 hil,rfl⟩)
        obtain ⟨T,hT⟩:=ih (by omega) n' cs' (D i,Pl i) ht (by show Rows.uptoBulk (D i) ≤ B;omega)
        exact ⟨T,cs',hc,hT⟩
      refine ⟨.mk k v nm g num den L,?_⟩
      simp only [TmV]
      refine ⟨c4,c5,some a,cap,by rw [hL1],hN,?_,by omega,by omega,by omega⟩
      cases L with
      | nil=>simp only [TmsV]
      | cons T0 L0=>
        obtain ⟨vs0,hc0,hv0⟩:=hL2 0 T0 rfl
        obtain ⟨_,hlen0,hat0⟩:=World.cells?_some hc0
        have h00:=hat0 0 (by decide)
        rw [Nat.zero_mul,Go.Deep.add_add,List.getElem?_eq_getElem (by omega)] at h00
        have ha0:a.add (0 + 0) = a:=by simp [Addr.add]
        rw [ha0] at h00
        obtain ⟨ab,ao,rfl⟩:=addr_plain h00
        refine tms_of (block_lt_of_cell h00) _ 0 fun kk T hT=>?_
        obtain ⟨vs,hc,hv⟩:=hL2 kk T hT
        refine ⟨vs,fun j u hj=>?_,hv⟩
        obtain ⟨_,hlen,hat⟩:=World.cells?_some hc
        have hj7:j < 7:=by have:=(List.getElem?_eq_some_iff.1 hj).1;omega
        have:=hat j hj7
        rw [add_plain,add_plain,hj] at this
        rw [Nat.zero_add]
        exact this
end
set_option maxRecDepth 100000 in
theorem term_arg {H:Type} {enc:TypeId × Value → H} {W:World} {base:Nat} {v:Value} {d:DataW H} {p:List MemPlace} (hv:Value.okWide Tryz.prog W .any base 27 v) (h:DataW.Trod enc Tryz.prog W 0 (fun _=>true) true 27 v d p) (hb:Rows.uptoBulk d ≤ 1048576) :
    ∃ (T:Tm) (vs:List Value),v = .agg vs.toArray ∧ TmV W.heap.size W T vs:=by
  obtain ⟨cs,rfl,_⟩:=okWide_struct Tryz.underlying27 hv
  obtain ⟨fuel,hf⟩:=h
  obtain ⟨T,hT⟩:=term_open 1048576 (Nat.le_refl _) fuel cs.toList (d,p) hf hb
  exact ⟨T,cs.toList,by simp,hT⟩
end Go.Proofs.YtaloeffmigffaaaGreatDoor
end
section
namespace Go.Proofs.YtaloeffmigffaaaGreatDoor
open Go.ChangeShapes Go.WideShapes Go.ChangeAt Go.RowKit
theorem own:ownKnob Tryz.prog.godebug = none:=by kernel_rfl
theorem rowLaid:laidOutB Tryz.prog = true:=factLaid
theorem globals4:Tryz.prog.globals.size = 4:=by kernel_rfl
theorem block3:(((begin Tryz.prog (fun _ _=>0) default).world.heap[3]?).bind Obj.row?).isSome = true:=by kernel_rfl
theorem globals_there {W:World} (h:W.ShapedOpen Tryz.prog):Tryz.prog.globals.size ≤ W.heap.size:=by
  obtain ⟨⟨zero,t⟩,hx⟩:=Option.isSome_iff_exists.1 block3
  obtain ⟨cs,h1,_⟩:=h.1 3 zero t (by rw [globals4];omega) hx
  have:=(Array.getElem?_eq_some_iff.1 h1).1
  rw [globals4];omega
set_option maxRecDepth 100000 in
theorem contract (H:Type) (enc:TypeId × Value → H) (W:World) (base:Nat) (args:Array Value) (ds gs:List (DataW H)) (before:List MemPlace)
    (hval:∀ (j:Nat) t v,Tryz.f3.params[j]? = some t → args[j]? = some v → Value.okWide Tryz.prog W .any base t v)
    (hW:DataW.Whole enc Tryz.prog Tryz.f3.params.toList Rows.workGeneralizationIsLeastSpec.vars false W args.toList ds gs before) (hk:Rows.uptoSmall H (ds ++ gs) = true) (hS:W.ShapedOpen Tryz.prog) :
    Calls Tryz.prog 3 args W fun e W'=>∃ v,e = .returned v ∧ Rows.workGeneralizationIsLeastSpec.post enc Tryz.prog Tryz.f3 false true false false W args v W':=by
  have hW':=hW
  obtain ⟨p,q,hA0,hV,rfl,hfz,hnd⟩:=hW
  have hA:DataW.TrodAll enc Tryz.prog W 0 (fun _=>true) true Tryz.f3.params.toList args.toList ds p:=hA0
  rw [Tryz.params3] at hA hval
  obtain ⟨v0,v1,v2,d0,d1,d2,p0,p1,p2,rfl,rfl,rfl,h0,h1,h2⟩:=trodAll_three hA
  obtain ⟨rfl,rfl⟩:=trodVars_none hV
  have hbd:Rows.uptoBulkAll ([d0,d1,d2] ++ []) ≤ 1048576:=of_decide_eq_true hk
  simp only [List.append_nil] at hbd hW'
  have hbe:∀ d,d ∈ [d0,d1,d2] → Rows.uptoBulk d ≤ 1048576:=fun d hd=>Nat.le_trans (bulk_part hd) hbd
  obtain ⟨T,vs,rfl,hT⟩:=term_arg (hval 0 27 v0 rfl rfl) h0 (hbe d0 (by simp))
  obtain ⟨U,us,rfl,hU⟩:=term_arg (hval 1 27 v1 rfl rfl) h1 (hbe d1 (by simp))
  obtain ⟨V,zs,rfl,hV⟩:=term_arg (hval 2 27 v2 rfl rfl) h2 (hbe d2 (by simp))
  have hlt:∀ x ∈ p0 ++ p1 ++ p2,x.block < W.heap.size:=fun x hx=>by simpa using hW'.lt x hx
  have hG:=globals_there hS
  refine (law_calls T U V W.heap.size W vs us zs hT hU hV (Nat.le_refl _) fun w' hb=>appends_calls w' (Nat.le_trans hG hb.size)).mono ?_
  rintro e W' ⟨rfl,hb⟩
  have r0:=Below.trod rowLaid (by kernel_rfl) (of_decide_eq_true (by kernel_rfl)) h0 hb fun x hx=>hlt x (by simp [hx])
  have r1:=Below.trod rowLaid (by kernel_rfl) (of_decide_eq_true (by kernel_rfl)) h1 hb fun x hx=>hlt x (by simp [hx])
  have r2:=Below.trod rowLaid (by kernel_rfl) (of_decide_eq_true (by kernel_rfl)) h2 hb fun x hx=>hlt x (by simp [hx])
  exact ⟨_,rfl,[d0,d1,d2],[],_,[],_,[],hW',trodAll_cons_mk (shut_bool Tryz.underlying4 _) trodAll_mk0,trodAll_mk3 r0 r1 r2,rfl,hb.frame _,fun h=>by cases h⟩
end Go.Proofs.YtaloeffmigffaaaGreatDoor
end
