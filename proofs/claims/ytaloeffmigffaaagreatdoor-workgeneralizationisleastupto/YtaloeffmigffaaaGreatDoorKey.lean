/-
  A part of the proof of the card of WorkGeneralizationIsLeast (second form): lemmas that the text Card uses. No condition of its own.
-/
import Derived.Test.YtaloeffmigffaaaGreatDoorText
import Derived.Test.YtaloeffmigffaaaGreatDoorEqual
set_option linter.all false
set_option linter.unusedVariables false
set_option linter.unusedSimpArgs false
section
namespace Go.Proofs.YtaloeffmigffaaaGreatDoor
open Go.RowKit Go.Big
theorem keyL_app:∀ (L M:List Tm),Tm.keyL (L ++ M) = Tm.keyL L ++ Tm.keyL M
  | [],M=>by simp [Tm.keyL]
  | T :: r,M=>by simp [Tm.keyL,keyL_app r M]
theorem keyL_take {L:List Tm} {i:Nat} {T:Tm} (h:L[i]? = some T):Tm.keyL (L.take (i + 1)) = Tm.keyL (L.take i) ++ T.key:=by
  rw [List.take_add_one,h,keyL_app];simp [Tm.keyL]
theorem keyL_take_le (L:List Tm) (i:Nat):(Tm.keyL (L.take i)).length ≤ (Tm.keyL L).length:=by
  have h:Tm.keyL L = Tm.keyL (L.take i) ++ Tm.keyL (L.drop i):=by rw [← keyL_app,List.take_append_drop]
  rw [h,List.length_append];omega
theorem errL_get {L:List Tm} {i:Nat} {T:Tm} (h:Tm.errL L = 0) (hi:L[i]? = some T):T.errE = 0:=by
  induction L generalizing i with
  | nil=>simp at hi
  | cons a r ih=>
    obtain ⟨h1,h2⟩:=errL_split h
    cases i with
    | zero=>simp at hi;subst hi;exact h1
    | succ j=>exact ih h2 (by simpa using hi)
theorem flat_take {A:List Nat} {i x:Nat} (h:A[i]? = some x):((A.take (i + 1)).map leb).flatten = ((A.take i).map leb).flatten ++ leb x:=by
  rw [List.take_add_one,h];simp
theorem flat_take_le (A:List Nat) (i:Nat):((A.take i).map leb).flatten.length ≤ (A.map leb).flatten.length:=by
  have h:(A.map leb).flatten = ((A.take i).map leb).flatten ++ ((A.drop i).map leb).flatten:=by
    rw [← List.flatten_append,← List.map_append,List.take_append_drop]
  rw [h,List.length_append];omega
theorem idx242 (x y:Value) (w:World):(Instr.index 242 (.agg #[x,y]) (.int .i64 0)).run Tryz.prog w = .ok x w ∧ (Instr.index 242 (.agg #[x,y]) (.int .i64 1)).run Tryz.prog w = .ok y w:=by
  have hu:=Tryz.underlying242
  constructor <;> simp [Instr.index,run_underlying hu,asIntOf,go_sem]
def WrOk (T:Tm):Prop:=∀ (n B b:Nat) (L:List Nat) (w:World) (vs:List Value),T.errE = 0 → TmV n w T vs → n ≤ B → B ≤ w.heap.size → Bld B b L w → L.length + T.key.length + 10 ≤ 140737488355328 →
  Calls Tryz.prog 121 #[.pointer (some ⟨b,0,none⟩),.agg vs.toArray] w fun e w'=>e = .returned (.tuple #[]) ∧ Bld B b (L ++ T.key) w' ∧ Below B w w' ∧ Lib.OthersKept 5 (some b) w w'
set_option maxRecDepth 100000 in
set_option maxHeartbeats 4000000 in
theorem write_step (k v:Int) (nm:ByteArray) (g:Bool) (num den:List Nat) (args:List Tm) (ih:∀ T' ∈ args,WrOk T'):WrOk (.mk k v nm g num den args):=by
  intro n B b L w vs hE h hnB hBw hbl hlen
  obtain ⟨t1,t2⟩:=errE_split hE
  have ft:=(rootE_fine t1).1
  have st:=(rootE_fine t1).2
  have hk5:1 ≤ k ∧ k ≤ 5:=by unfold RootFine at ft;omega
  have hv5:0 ≤ v ∧ v ≤ 1073741824:=by unfold RootFine at ft;omega
  have hsz:nm.size ≤ 4000:=by refine Nat.le_trans st ?_;unfold nameMost;(repeat' split) <;> omega
  obtain ⟨kn,rfl⟩:∃ kn:Nat,k = kn:=⟨k.toNat,by omega⟩
  obtain ⟨vn,rfl⟩:∃ vn:Nat,v = vn:=⟨v.toNat,by omega⟩
  simp only [TmV] at h
  obtain ⟨s1,s2,a,c,rfl,hN,hS,hbig,hbA,hbC⟩:=h
  simp only [Tm.key,Int.toNat_natCast,List.length_cons] at hlen ⊢
  clear hE ft st t1
  obtain ⟨⟨p1,c1,rfl,hA⟩,⟨p2,c2,rfl,hC⟩⟩:=hN
  obtain ⟨l1,hl1⟩:∃ l1,num.length = l1:=⟨_,rfl⟩
  obtain ⟨l2,hl2⟩:∃ l2,den.length = l2:=⟨_,rfl⟩
  have Al12:Aside (num.length = l1 ∧ den.length = l2):=⟨hl1,hl2⟩
  rw [hl1] at hbA ⊢
  rw [hl2] at hbC ⊢
  clear hl1 hl2
  obtain ⟨len,hl⟩:∃ len,args.length = len:=⟨_,rfl⟩
  rw [hl] at hbig hlen ⊢
  have Al:Aside (args.length = len):=hl
  have hwk:((kn:Nat):Int) % 256 = kn:=by omega
  obtain ⟨wb,hwb⟩:∃ wb,w.alloc (Obj.cells #[.int .i64 kn,.int .i64 vn,.string nm,.bool g,.slice p1 l1 c1,.slice p2 l2 c2,.slice a len c] 27) = wb:=⟨_,rfl⟩
  have hB0:=below_alloc w (Obj.cells #[.int .i64 kn,.int .i64 vn,.string nm,.bool g,.slice p1 l1 c1,.slice p2 l2 c2,.slice a len c] 27)
  have q1:=heap_alloc_new w (Obj.cells #[.int .i64 kn,.int .i64 vn,.string nm,.bool g,.slice p1 l1 c1,.slice p2 l2 c2,.slice a len c] 27)
  rw [hwb] at hB0 q1
  have hlt:w.heap.size < wb.heap.size:=by rw [← hwb,World.size_alloc];omega
  have hbl0:Bld B b L wb:=hwb ▸ hbl.alloc _
  have hbw:b < w.heap.size:=by rcases hbl with h | h <;> exact h.lt
  have hB:Below B w wb:=hB0.mono hBw
  have hk0:Lib.OthersKept 5 (some b) w wb:=by
    rw [← hwb];exact (Lib.OthersKept.refl 5 (some b) w).alloc _
  have fa:=fun (w2:World) (hk:Lib.OthersKept 5 (some b) wb w2)=>cells7 (hk _ _ q1 (fun e=>by injection e;omega) (fun c fz e=>by injection e with _ e2 _;exact absurd e2 (by decide)))
  have d0:=writeByte_calls B b L kn wb hbl0 (by omega) (by omega)
  obtain ⟨x0,x1,x2,x3,x4,x5,x6⟩:=fa wb (Lib.OthersKept.refl _ _ _)
  have hbe:=hB.size
  show Calls Tryz.prog 121 #[.pointer (some ⟨b,0,none⟩),.agg #[.int .i64 kn,.int .i64 vn,.string nm,.bool g,.slice p1 l1 c1,.slice p2 l2 c2,.slice a len c]] w _
  by_cases h1:kn = 1
  · have h1i:(kn:Int) = 1:=by omega
    rw [if_pos h1i] at hlen ⊢
    have hkB:((kn:Int) == 1) = true:=by simpa using h1i
    clear h1i h1
    have d1:Aside (∀ w1,Bld B b (L ++ [kn]) w1 → B ≤ w1.heap.size → Calls Tryz.prog 183 #[.pointer (some ⟨b,0,none⟩),.int .i64 vn] w1 _):=fun w1 hw1 hs1=>number_calls B b (L ++ [kn]) vn w1 hw1 (by omega) (by simp;omega) hs1
    have fa2:=fun (w2:World) (hk:Lib.OthersKept 5 (some b) wb w2)=>(fa w2 hk).2.1
    have fa1:=fun (w2:World) (hk:Lib.OthersKept 5 (some b) wb w2)=>(fa w2 hk).1
    have fA:Aside (∀ (w2:World) (hk:Lib.OthersKept 5 (some b) wb w2),w2.cell? ⟨w.heap.size,0,none⟩ = _ ∧ w2.cell? ⟨w.heap.size,1,none⟩ = _):=fun w2 hk=>⟨fa1 w2 hk,fa2 w2 hk⟩
    clear fa hA hC hS ih t2 fa1 fa2
    go_enter Tryz.func121,Tryz.ntmps121
    go_upto_region 1 with fail
    clear hwb
    go_wp2_with (go_at_call 182;with_reducible refine d0.mono ?_)
    rintro e w1 ⟨rfl,hbl1,hb1,hk1⟩
    have hb1s:=hb1.size
    obtain ⟨y0,y1⟩:=fA.out w1 hk1
    have d2:=d1.out w1 hbl1 (by omega)
    go_wp2_with (go_at_call 183;with_reducible refine d2.mono ?_)
    rintro e w2 ⟨rfl,hbl2,hb2,hk2⟩
    go_wp2
    go_end0
    exact ⟨rfl,by simpa using hbl2,(hB.trans hb1).trans hb2,(hk0.trans hk1).trans hk2⟩
  by_cases h2:kn = 2
  · have h2i:(kn:Int) = 2:=by omega
    rw [if_neg (by omega),if_pos h2i] at hlen ⊢
    have hkB1:((kn:Int) == 1) = false:=by simp;omega
    have hkB2:((kn:Int) == 2) = true:=by simpa using h2i
    clear h2i h2 h1
    have fA:Aside (∀ (w2:World) (hk:Lib.OthersKept 5 (some b) wb w2),w2.cell? ⟨w.heap.size,0,none⟩ = _ ∧ w2.cell? ⟨w.heap.size,3,none⟩ = _ ∧ w2.cell? ⟨w.heap.size,4,none⟩ = _ ∧ w2.cell? ⟨w.heap.size,5,none⟩ = _):=fun w2 hk=>⟨(fa w2 hk).1,(fa w2 hk).2.2.2.1,(fa w2 hk).2.2.2.2.1,(fa w2 hk).2.2.2.2.2.1⟩
    clear fa hS ih t2
    cases g
    · have hg:Aside (∀ w1,Bld B b (L ++ [kn]) w1 → B ≤ w1.heap.size → Calls Tryz.prog 182 #[.pointer (some ⟨b,0,none⟩),.int .u8 0] w1 fun e w'=>e = .returned .nilIface ∧ Bld B b (L ++ [kn] ++ [0]) w' ∧ Below B w1 w' ∧ Lib.OthersKept 5 (some b) w1 w'):=fun w1 hw1 hs1=>
        writeByte_calls B b (L ++ [kn]) 0 w1 hw1 (by simp at hlen ⊢;omega) hs1
      have hlenA:Aside (L.length + 2 + (lebs num ++ lebs den).length + 10 ≤ 140737488355328):=by show _ ≤ _;simp at hlen ⊢;omega
      have hfin:Aside (L ++ [kn] ++ [0] ++ (lebs num ++ lebs den) = L ++ kn :: 0 :: (lebs num ++ lebs den)):=by show _ = _;simp
      clear hlen
      go_enter Tryz.func121,Tryz.ntmps121
      go_upto_region 1 with fail
      clear hwb
      go_wp2_with (go_at_call 182;with_reducible refine d0.mono ?_)
      rintro e w1 ⟨rfl,hbl1,hb1,hk1⟩
      have hb1s:=hb1.size
      obtain ⟨y0,y3,y4,y5⟩:=fA.out w1 hk1
      have d2:=hg.out w1 hbl1 (by omega)
      go_wp2_with (go_at_call 182;with_reducible refine d2.mono ?_)
      rintro e w2 ⟨rfl,hbl2,hb2,hk2⟩
      have hB3:Below B w w2:=(hB.trans hb1).trans hb2
      have hK3:Aside (Lib.OthersKept 5 (some b) w w2):=(hk0.trans hk1).trans hk2
      obtain ⟨z0,z3,z4,z5⟩:=fA.out w2 (hk1.trans hk2)
      obtain ⟨L2,hL2⟩:∃ L2,L ++ [kn] ++ [0] = L2:=⟨_,rfl⟩
      have hL2l:Aside (L2.length = L.length + 2):=by show _ = _;rw [← hL2];simp
      rw [hL2] at hbl2 hfin
      clear hL2 hk1 hk2 fA hg hbl1 d0 d2 hbl0 hbl hb1 hb2
      go_wp2
      go_loopw [64] (fun s wr=>∃ j:Nat,s = .int .i64 j ∧ j ≤ 2 ∧ Aside (Bld B b (L2 ++ if j = 0 then [] else if j = 1 then lebs num else lebs num ++ lebs den) wr) ∧ Below B w wr ∧ Aside (Lib.OthersKept 5 (some b) w wr)) (fun s _=>2 - (intOf s).toNat)
      case atStart=>exact ⟨0,rfl,by omega,(by show Bld _ _ _ _;simpa using hbl2),hB3,hK3⟩
      case round=>
        clear hB3 hK3 hbl2
        obtain ⟨j,rfl,hj,hbl3,hB3,hK3⟩:=hrel
        obtain ⟨wq,rfl⟩:∃ wq,wq = wr:=⟨_,rfl⟩
        obtain rfl | rfl | rfl:j = 0 ∨ j = 1 ∨ j = 2:=by omega
        · have hix0:=fun (x y:Value) (w:World)=>(idx242 x y w).1
          have hix1:=fun (x y:Value) (w:World)=>(idx242 x y w).2
          have hnum:=number_calls B b (L2 ++ []) l1 wq hbl3.out (by omega) (by have:=hlenA.out;have h7:=Al12.out;have h9:=hL2l.out;simp [lebs,h7] at this ⊢;omega) (by have:=hB3.size;omega)
          go_wp2_with (go_at_call 183;with_reducible refine hnum.mono ?_)
          first | rintro e w4 rfl hbl4 hb4 hk4 | rintro e w4 ⟨rfl,hbl4,hb4,hk4⟩
          have hB4:Below B w w4:=hB3.trans hb4
          have hK4:Aside (Lib.OthersKept 5 (some b) w w4):=hK3.out.trans hk4
          clear hnum hbl3 hb4 hk4 hK3
          go_wp2
          go_loopw [73] (fun s ws=>∃ i:Nat,s = .int .i64 i ∧ i ≤ l1 ∧ Aside (Bld B b (L2 ++ [] ++ leb l1 ++ ((num.take i).map leb).flatten) ws) ∧ Below B w ws ∧ Aside (Lib.OthersKept 5 (some b) w ws)) (fun s _=>l1 - (intOf s).toNat)
          case atStart=>exact ⟨0,rfl,Nat.zero_le _,(by show Bld _ _ _ _;simpa using hbl4),hB4,hK4⟩
          case round=>
            clear hB4 hK4 hB3
            obtain ⟨i,rfl,hi,hbl5,hB5,hK5⟩:=hrel
            by_cases hlt2:i < l1
            · obtain ⟨x,hx⟩:∃ x,num[i]? = some x:=⟨num[i]'(by have:=Al12.out;omega),List.getElem?_eq_getElem _⟩
              obtain ⟨bb,oo,rfl,hbn,hxl,hc⟩:=(hA.below hB5 hnB).get hx
              have hi1:(i:Int) < (l1:Int):=by omega
              have hi3:(0:Int) ≤ (i:Int):=by omega
              have hw3:IntKind.i64.wrap ((i:Int) + 1) = (i:Int) + 1:=by rw [IntKind.wrap_i64];omega
              have hwx:IntKind.i64.wrap (x:Int) = (x:Int):=by rw [IntKind.wrap_i64];omega
              have hnum:=number_calls B b _ x wr hbl5.out (by omega) (by have:=hlenA.out;have:=flat_take_le num i;have h7:=Al12.out;have h9:=hL2l.out;simp [lebs,h7] at *;omega) (by have:=hB5.size;omega)
              have hfl:Aside (L2 ++ [] ++ leb l1 ++ ((num.take i).map leb).flatten ++ leb x = L2 ++ [] ++ leb l1 ++ ((num.take (i + 1)).map leb).flatten):=by
                show _ = _
                rw [flat_take hx];simp
              clear hx hbl5
              go_wp2_with (go_at_call 183;with_reducible refine hnum.mono ?_)
              first | rintro e w6 rfl hbl6 hb6 hk6 | rintro e w6 ⟨rfl,hbl6,hb6,hk6⟩
              go_wp2
              go_roundw
              case rel=>exact ⟨i + 1,by simp,by omega,(by show Bld _ _ _ _;rw [← hfl.out];exact hbl6),hB5.trans hb6,hK5.out.trans hk6⟩
              case measure=>simp [intOf];omega
            · obtain rfl:i = l1:=by omega
              have hbl7:Aside (Bld B b (L2 ++ lebs num) wr):=by
                show Bld _ _ _ _
                have h7:=Al12.out
                have h8:=hbl5.out
                have e1:L2 ++ lebs num = L2 ++ [] ++ leb i ++ ((num.take i).map leb).flatten:=by
                  rw [show num.take i = num from List.take_of_length_le (by omega)]
                  simp [lebs,h7]
                rw [e1];exact h8
              clear hbl5
              go_wp2
              go_roundw
              case rel=>exact ⟨1,rfl,by omega,hbl7,hB5,hK5⟩
              case measure=>simp [intOf]
        · have hix0:=fun (x y:Value) (w:World)=>(idx242 x y w).1
          have hix1:=fun (x y:Value) (w:World)=>(idx242 x y w).2
          have hnum:=number_calls B b (L2 ++ lebs num) l2 wq hbl3.out (by omega) (by have:=hlenA.out;have h7:=Al12.out;have h9:=hL2l.out;simp [lebs,h7] at this ⊢;omega) (by have:=hB3.size;omega)
          go_wp2_with (go_at_call 183;with_reducible refine hnum.mono ?_)
          first | rintro e w4 rfl hbl4 hb4 hk4 | rintro e w4 ⟨rfl,hbl4,hb4,hk4⟩
          have hB4:Below B w w4:=hB3.trans hb4
          have hK4:Aside (Lib.OthersKept 5 (some b) w w4):=hK3.out.trans hk4
          clear hnum hbl3 hb4 hk4 hK3
          go_wp2
          go_loopw [73] (fun s ws=>∃ i:Nat,s = .int .i64 i ∧ i ≤ l2 ∧ Aside (Bld B b (L2 ++ lebs num ++ leb l2 ++ ((den.take i).map leb).flatten) ws) ∧ Below B w ws ∧ Aside (Lib.OthersKept 5 (some b) w ws)) (fun s _=>l2 - (intOf s).toNat)
          case atStart=>exact ⟨0,rfl,Nat.zero_le _,(by show Bld _ _ _ _;simpa using hbl4),hB4,hK4⟩
          case round=>
            clear hB4 hK4 hB3
            obtain ⟨i,rfl,hi,hbl5,hB5,hK5⟩:=hrel
            by_cases hlt2:i < l2
            · obtain ⟨x,hx⟩:∃ x,den[i]? = some x:=⟨den[i]'(by have:=Al12.out;omega),List.getElem?_eq_getElem _⟩
              obtain ⟨bb,oo,rfl,hbn,hxl,hc⟩:=(hC.below hB5 hnB).get hx
              have hi1:(i:Int) < (l2:Int):=by omega
              have hi3:(0:Int) ≤ (i:Int):=by omega
              have hw3:IntKind.i64.wrap ((i:Int) + 1) = (i:Int) + 1:=by rw [IntKind.wrap_i64];omega
              have hwx:IntKind.i64.wrap (x:Int) = (x:Int):=by rw [IntKind.wrap_i64];omega
              have hnum:=number_calls B b _ x wr hbl5.out (by omega) (by have:=hlenA.out;have:=flat_take_le den i;have h7:=Al12.out;have h9:=hL2l.out;simp [lebs,h7] at *;omega) (by have:=hB5.size;omega)
              have hfl:Aside (L2 ++ lebs num ++ leb l2 ++ ((den.take i).map leb).flatten ++ leb x = L2 ++ lebs num ++ leb l2 ++ ((den.take (i + 1)).map leb).flatten):=by
                show _ = _
                rw [flat_take hx];simp
              clear hx hbl5
              go_wp2_with (go_at_call 183;with_reducible refine hnum.mono ?_)
              first | rintro e w6 rfl hbl6 hb6 hk6 | rintro e w6 ⟨rfl,hbl6,hb6,hk6⟩
              go_wp2
              go_roundw
              case rel=>exact ⟨i + 1,by simp,by omega,(by show Bld _ _ _ _;rw [← hfl.out];exact hbl6),hB5.trans hb6,hK5.out.trans hk6⟩
              case measure=>simp [intOf];omega
            · obtain rfl:i = l2:=by omega
              have hbl7:Aside (Bld B b (L2 ++ (lebs num ++ lebs den)) wr):=by
                show Bld _ _ _ _
                have h7:=Al12.out
                have h8:=hbl5.out
                have e1:L2 ++ (lebs num ++ lebs den) = L2 ++ lebs num ++ leb i ++ ((den.take i).map leb).flatten:=by
                  rw [show den.take i = den from List.take_of_length_le (by omega)]
                  simp [lebs,h7]
                rw [e1];exact h8
              clear hbl5
              go_wp2
              go_roundw
              case rel=>exact ⟨2,rfl,by omega,hbl7,hB5,hK5⟩
              case measure=>simp [intOf]
        · go_wp2
          go_end0
          exact ⟨rfl,by rw [← hfin.out];exact hbl3.out,hB3,hK3⟩
    · have hg:Aside (∀ w1,Bld B b (L ++ [kn]) w1 → B ≤ w1.heap.size → Calls Tryz.prog 182 #[.pointer (some ⟨b,0,none⟩),.int .u8 1] w1 fun e w'=>e = .returned .nilIface ∧ Bld B b (L ++ [kn] ++ [1]) w' ∧ Below B w1 w' ∧ Lib.OthersKept 5 (some b) w1 w'):=fun w1 hw1 hs1=>
        writeByte_calls B b (L ++ [kn]) 1 w1 hw1 (by simp at hlen ⊢;omega) hs1
      have hlenA:Aside (L.length + 2 + (lebs num ++ lebs den).length + 10 ≤ 140737488355328):=by show _ ≤ _;simp at hlen ⊢;omega
      have hfin:Aside (L ++ [kn] ++ [1] ++ (lebs num ++ lebs den) = L ++ kn :: 1 :: (lebs num ++ lebs den)):=by show _ = _;simp
      clear hlen
      go_enter Tryz.func121,Tryz.ntmps121
      go_upto_region 1 with fail
      clear hwb
      go_wp2_with (go_at_call 182;with_reducible refine d0.mono ?_)
      rintro e w1 ⟨rfl,hbl1,hb1,hk1⟩
      have hb1s:=hb1.size
      obtain ⟨y0,y3,y4,y5⟩:=fA.out w1 hk1
      have d2:=hg.out w1 hbl1 (by omega)
      go_wp2_with (go_at_call 182;with_reducible refine d2.mono ?_)
      rintro e w2 ⟨rfl,hbl2,hb2,hk2⟩
      have hB3:Below B w w2:=(hB.trans hb1).trans hb2
      have hK3:Aside (Lib.OthersKept 5 (some b) w w2):=(hk0.trans hk1).trans hk2
      obtain ⟨z0,z3,z4,z5⟩:=fA.out w2 (hk1.trans hk2)
      obtain ⟨L2,hL2⟩:∃ L2,L ++ [kn] ++ [1] = L2:=⟨_,rfl⟩
      have hL2l:Aside (L2.length = L.length + 2):=by show _ = _;rw [← hL2];simp
      rw [hL2] at hbl2 hfin
      clear hL2 hk1 hk2 fA hg hbl1 d0 d2 hbl0 hbl hb1 hb2
      go_wp2
      go_loopw [64] (fun s wr=>∃ j:Nat,s = .int .i64 j ∧ j ≤ 2 ∧ Aside (Bld B b (L2 ++ if j = 0 then [] else if j = 1 then lebs num else lebs num ++ lebs den) wr) ∧ Below B w wr ∧ Aside (Lib.OthersKept 5 (some b) w wr)) (fun s _=>2 - (intOf s).toNat)
      case atStart=>exact ⟨0,rfl,by omega,(by show Bld _ _ _ _;simpa using hbl2),hB3,hK3⟩
      case round=>
        clear hB3 hK3 hbl2
        obtain ⟨j,rfl,hj,hbl3,hB3,hK3⟩:=hrel
        obtain ⟨wq,rfl⟩:∃ wq,wq = wr:=⟨_,rfl⟩
        obtain rfl | rfl | rfl:j = 0 ∨ j = 1 ∨ j = 2:=by omega
        · have hix0:=fun (x y:Value) (w:World)=>(idx242 x y w).1
          have hix1:=fun (x y:Value) (w:World)=>(idx242 x y w).2
          have hnum:=number_calls B b (L2 ++ []) l1 wq hbl3.out (by omega) (by have:=hlenA.out;have h7:=Al12.out;have h9:=hL2l.out;simp [lebs,h7] at this ⊢;omega) (by have:=hB3.size;omega)
          go_wp2_with (go_at_call 183;with_reducible refine hnum.mono ?_)
          first | rintro e w4 rfl hbl4 hb4 hk4 | rintro e w4 ⟨rfl,hbl4,hb4,hk4⟩
          have hB4:Below B w w4:=hB3.trans hb4
          have hK4:Aside (Lib.OthersKept 5 (some b) w w4):=hK3.out.trans hk4
          clear hnum hbl3 hb4 hk4 hK3
          go_wp2
          go_loopw [73] (fun s ws=>∃ i:Nat,s = .int .i64 i ∧ i ≤ l1 ∧ Aside (Bld B b (L2 ++ [] ++ leb l1 ++ ((num.take i).map leb).flatten) ws) ∧ Below B w ws ∧ Aside (Lib.OthersKept 5 (some b) w ws)) (fun s _=>l1 - (intOf s).toNat)
          case atStart=>exact ⟨0,rfl,Nat.zero_le _,(by show Bld _ _ _ _;simpa using hbl4),hB4,hK4⟩
          case round=>
            clear hB4 hK4 hB3
            obtain ⟨i,rfl,hi,hbl5,hB5,hK5⟩:=hrel
            by_cases hlt2:i < l1
            · obtain ⟨x,hx⟩:∃ x,num[i]? = some x:=⟨num[i]'(by have:=Al12.out;omega),List.getElem?_eq_getElem _⟩
              obtain ⟨bb,oo,rfl,hbn,hxl,hc⟩:=(hA.below hB5 hnB).get hx
              have hi1:(i:Int) < (l1:Int):=by omega
              have hi3:(0:Int) ≤ (i:Int):=by omega
              have hw3:IntKind.i64.wrap ((i:Int) + 1) = (i:Int) + 1:=by rw [IntKind.wrap_i64];omega
              have hwx:IntKind.i64.wrap (x:Int) = (x:Int):=by rw [IntKind.wrap_i64];omega
              have hnum:=number_calls B b _ x wr hbl5.out (by omega) (by have:=hlenA.out;have:=flat_take_le num i;have h7:=Al12.out;have h9:=hL2l.out;simp [lebs,h7] at *;omega) (by have:=hB5.size;omega)
              have hfl:Aside (L2 ++ [] ++ leb l1 ++ ((num.take i).map leb).flatten ++ leb x = L2 ++ [] ++ leb l1 ++ ((num.take (i + 1)).map leb).flatten):=by
                show _ = _
                rw [flat_take hx];simp
              clear hx hbl5
              go_wp2_with (go_at_call 183;with_reducible refine hnum.mono ?_)
              first | rintro e w6 rfl hbl6 hb6 hk6 | rintro e w6 ⟨rfl,hbl6,hb6,hk6⟩
              go_wp2
              go_roundw
              case rel=>exact ⟨i + 1,by simp,by omega,(by show Bld _ _ _ _;rw [← hfl.out];exact hbl6),hB5.trans hb6,hK5.out.trans hk6⟩
              case measure=>simp [intOf];omega
            · obtain rfl:i = l1:=by omega
              have hbl7:Aside (Bld B b (L2 ++ lebs num) wr):=by
                show Bld _ _ _ _
                have h7:=Al12.out
                have h8:=hbl5.out
                have e1:L2 ++ lebs num = L2 ++ [] ++ leb i ++ ((num.take i).map leb).flatten:=by
                  rw [show num.take i = num from List.take_of_length_le (by omega)]
                  simp [lebs,h7]
                rw [e1];exact h8
              clear hbl5
              go_wp2
              go_roundw
              case rel=>exact ⟨1,rfl,by omega,hbl7,hB5,hK5⟩
              case measure=>simp [intOf]
        · have hix0:=fun (x y:Value) (w:World)=>(idx242 x y w).1
          have hix1:=fun (x y:Value) (w:World)=>(idx242 x y w).2
          have hnum:=number_calls B b (L2 ++ lebs num) l2 wq hbl3.out (by omega) (by have:=hlenA.out;have h7:=Al12.out;have h9:=hL2l.out;simp [lebs,h7] at this ⊢;omega) (by have:=hB3.size;omega)
          go_wp2_with (go_at_call 183;with_reducible refine hnum.mono ?_)
          first | rintro e w4 rfl hbl4 hb4 hk4 | rintro e w4 ⟨rfl,hbl4,hb4,hk4⟩
          have hB4:Below B w w4:=hB3.trans hb4
          have hK4:Aside (Lib.OthersKept 5 (some b) w w4):=hK3.out.trans hk4
          clear hnum hbl3 hb4 hk4 hK3
          go_wp2
          go_loopw [73] (fun s ws=>∃ i:Nat,s = .int .i64 i ∧ i ≤ l2 ∧ Aside (Bld B b (L2 ++ lebs num ++ leb l2 ++ ((den.take i).map leb).flatten) ws) ∧ Below B w ws ∧ Aside (Lib.OthersKept 5 (some b) w ws)) (fun s _=>l2 - (intOf s).toNat)
          case atStart=>exact ⟨0,rfl,Nat.zero_le _,(by show Bld _ _ _ _;simpa using hbl4),hB4,hK4⟩
          case round=>
            clear hB4 hK4 hB3
            obtain ⟨i,rfl,hi,hbl5,hB5,hK5⟩:=hrel
            by_cases hlt2:i < l2
            · obtain ⟨x,hx⟩:∃ x,den[i]? = some x:=⟨den[i]'(by have:=Al12.out;omega),List.getElem?_eq_getElem _⟩
              obtain ⟨bb,oo,rfl,hbn,hxl,hc⟩:=(hC.below hB5 hnB).get hx
              have hi1:(i:Int) < (l2:Int):=by omega
              have hi3:(0:Int) ≤ (i:Int):=by omega
              have hw3:IntKind.i64.wrap ((i:Int) + 1) = (i:Int) + 1:=by rw [IntKind.wrap_i64];omega
              have hwx:IntKind.i64.wrap (x:Int) = (x:Int):=by rw [IntKind.wrap_i64];omega
              have hnum:=number_calls B b _ x wr hbl5.out (by omega) (by have:=hlenA.out;have:=flat_take_le den i;have h7:=Al12.out;have h9:=hL2l.out;simp [lebs,h7] at *;omega) (by have:=hB5.size;omega)
              have hfl:Aside (L2 ++ lebs num ++ leb l2 ++ ((den.take i).map leb).flatten ++ leb x = L2 ++ lebs num ++ leb l2 ++ ((den.take (i + 1)).map leb).flatten):=by
                show _ = _
                rw [flat_take hx];simp
              clear hx hbl5
              go_wp2_with (go_at_call 183;with_reducible refine hnum.mono ?_)
              first | rintro e w6 rfl hbl6 hb6 hk6 | rintro e w6 ⟨rfl,hbl6,hb6,hk6⟩
              go_wp2
              go_roundw
              case rel=>exact ⟨i + 1,by simp,by omega,(by show Bld _ _ _ _;rw [← hfl.out];exact hbl6),hB5.trans hb6,hK5.out.trans hk6⟩
              case measure=>simp [intOf];omega
            · obtain rfl:i = l2:=by omega
              have hbl7:Aside (Bld B b (L2 ++ (lebs num ++ lebs den)) wr):=by
                show Bld _ _ _ _
                have h7:=Al12.out
                have h8:=hbl5.out
                have e1:L2 ++ (lebs num ++ lebs den) = L2 ++ lebs num ++ leb i ++ ((den.take i).map leb).flatten:=by
                  rw [show den.take i = den from List.take_of_length_le (by omega)]
                  simp [lebs,h7]
                rw [e1];exact h8
              clear hbl5
              go_wp2
              go_roundw
              case rel=>exact ⟨2,rfl,by omega,hbl7,hB5,hK5⟩
              case measure=>simp [intOf]
        · go_wp2
          go_end0
          exact ⟨rfl,by rw [← hfin.out];exact hbl3.out,hB3,hK3⟩
  have hk1i:¬ (kn:Int) = 1:=by omega
  have hk2i:¬ (kn:Int) = 2:=by omega
  rw [if_neg hk1i,if_neg hk2i] at hlen ⊢
  have hkB1:((kn:Int) == 1) = false:=by simp;omega
  have hkB2:((kn:Int) == 2) = false:=by simp;omega
  clear hk1i hk2i h1 h2 hA hC
  have fA:Aside (∀ (w2:World) (hk:Lib.OthersKept 5 (some b) wb w2),w2.cell? ⟨w.heap.size,0,none⟩ = _ ∧ w2.cell? ⟨w.heap.size,2,none⟩ = _ ∧ w2.cell? ⟨w.heap.size,6,none⟩ = _):=fun w2 hk=>⟨(fa w2 hk).1,(fa w2 hk).2.2.1,(fa w2 hk).2.2.2.2.2.2⟩
  obtain ⟨nz,hnzz⟩:∃ nz,nm.size = nz:=⟨_,rfl⟩
  have hnz:(nameB nm).length = nz:=by rw [← hnzz];simp [nameB]
  rw [hnzz] at hlen ⊢
  have hlenA:Aside (L.length + 1 + (leb nz).length + nz + (leb len).length + (Tm.keyL args).length + 10 ≤ 140737488355328):=by show _ ≤ _;simp [hnz] at hlen ⊢;omega
  have ihA:Aside (∀ T' ∈ args,WrOk T'):=ih
  have t2A:Aside (Tm.errL args = 0):=t2
  clear fa hlen ih t2
  go_enter Tryz.func121,Tryz.ntmps121
  go_upto_region 1 with fail
  clear hwb
  go_wp2_with (go_at_call 182;with_reducible refine d0.mono ?_)
  first | rintro e w1 rfl hbl1 hb1 hk1 | rintro e w1 ⟨rfl,hbl1,hb1,hk1⟩
  have hb1s:=hb1.size
  obtain ⟨y0,y2,y6⟩:=fA.out w1 hk1
  have d2:=number_calls B b (L ++ [kn]) nz w1 hbl1 (by omega) (by have:=hlenA.out;simp;omega) (by omega)
  go_wp2_with (go_at_call 183;with_reducible refine d2.mono ?_)
  first | rintro e w2 rfl hbl2 hb2 hk2 | rintro e w2 ⟨rfl,hbl2,hb2,hk2⟩
  have hb2s:=hb2.size
  obtain ⟨z0,z2,z6⟩:=fA.out w2 (hk1.trans hk2)
  have d3:=writeString_calls B b _ nm w2 hbl2 (by have:=hlenA.out;simp;omega) (by omega)
  go_wp2_with (go_at_call 184;with_reducible refine d3.mono ?_)
  first | rintro e w3 ⟨v3,rfl⟩ hbl3 hb3 hk3 | rintro e w3 ⟨⟨v3,rfl⟩,hbl3,hb3,hk3⟩ | rintro e w3 v3 rfl hbl3 hb3 hk3
  have hb3s:=hb3.size
  obtain ⟨x0',x2',x6'⟩:=fA.out w3 ((hk1.trans hk2).trans hk3)
  have d4:=number_calls B b _ len w3 hbl3 (by omega) (by have:=hlenA.out;simp;omega) (by omega)
  go_wp2_with (go_at_call 183;with_reducible refine d4.mono ?_)
  first | rintro e w4 rfl hbl4 hb4 hk4 | rintro e w4 ⟨rfl,hbl4,hb4,hk4⟩
  have hb4s:=hb4.size
  obtain ⟨x0'',x2'',x6''⟩:=fA.out w4 (((hk1.trans hk2).trans hk3).trans hk4)
  have hB4:Below B w w4:=(((hB.trans hb1).trans hb2).trans hb3).trans hb4
  have hK4:Aside (Lib.OthersKept 5 (some b) w w4):=(((hk0.trans hk1).trans hk2).trans hk3).trans hk4
  obtain ⟨L2,hL2⟩:∃ L2,L ++ [kn] ++ leb nz ++ nameB nm ++ leb len = L2:=⟨_,rfl⟩
  have hL2l:Aside (L2.length = L.length + 1 + (leb nz).length + nz + (leb len).length):=by show _ = _;rw [← hL2];simp [hnz];omega
  have hfin:Aside (L2 ++ Tm.keyL args = L ++ kn :: (leb nz ++ (nameB nm ++ (leb len ++ Tm.keyL args)))):=by show _ = _;rw [← hL2];simp
  have hbl5:Aside (Bld B b L2 w4):=by
    show Bld _ _ _ _
    rw [← hL2];unfold nameB;simpa using hbl4
  clear hL2 hbl1 hbl2 hbl3 hbl4 hk1 hk2 hk3 hk4 hb1 hb2 hb3 hb4 hb1s hb2s hb3s d0 d2 d3 d4 fA hbl hbl0
  go_wp2
  go_loopw [34] (fun s wr=>∃ i:Nat,s = .int .i64 i ∧ i ≤ len ∧ Aside (Bld B b (L2 ++ Tm.keyL (args.take i)) wr) ∧ Below B w wr ∧ Aside (Lib.OthersKept 5 (some b) w wr)) (fun s _=>len - (intOf s).toNat)
  case atStart=>exact ⟨0,rfl,Nat.zero_le _,(by show Bld _ _ _ _;simpa [Tm.keyL] using hbl5.out),hB4,hK4⟩
  case round=>
    clear hB4 hK4 hbl5
    obtain ⟨i,rfl,hi,hbl5,hB5,hK5⟩:=hrel
    by_cases hlt2:i < len
    · obtain ⟨T',hT'⟩:∃ T',args[i]? = some T':=⟨args[i]'(by rw [Al.out];exact hlt2),List.getElem?_eq_getElem _⟩
      obtain ⟨bb,o,vs',rfl,hbn,hc,hv⟩:=hS.get hT'
      rw [Nat.zero_add] at hc
      have hkt:Aside (Tm.keyL (args.take (i + 1)) = Tm.keyL (args.take i) ++ T'.key):=keyL_take hT'
      have hkl:Aside ((Tm.keyL (args.take i)).length + T'.key.length ≤ (Tm.keyL args).length):=by
        show _ ≤ _
        have h1:=keyL_take_le args (i + 1)
        rw [hkt.out,List.length_append] at h1
        exact h1
      have hv0:=hv
      have hTA:Aside (args[i]? = some T'):=hT'
      clear hT'
      match T',hv with
      | .mk k' v' nm' g' num' den' args',hv=>
        simp only [TmV] at hv
        obtain ⟨t1',t2',a',c',rfl,⟨⟨pp1,pc1,rfl,_⟩,⟨pp2,pc2,rfl,_⟩⟩,_⟩:=hv
        obtain ⟨m0,m1,m2,m3,m4,m5,m6⟩:=seven (w:=w) (w2:=wr) (fun p hp=>(hB5.mono hnB).cell (hp ▸ hbn)) hc
        have hbs:=hB5.size
        obtain ⟨ln1,hln1⟩:∃ ln1,args'.length = ln1:=⟨_,rfl⟩
        obtain ⟨ln2,hln2⟩:∃ ln2,num'.length = ln2:=⟨_,rfl⟩
        obtain ⟨ln3,hln3⟩:∃ ln3,den'.length = ln3:=⟨_,rfl⟩
        have hB6:Below B w (wr.alloc (Obj.cells #[.int .i64 k',.int .i64 v',.string nm',.bool g',.slice pp1 ln2 pc1,.slice pp2 ln3 pc2,.slice a' ln1 c'] 27)):=hB5.alloc (by omega) _
        have hK6:Aside (Lib.OthersKept 5 (some b) w (wr.alloc (Obj.cells #[.int .i64 k',.int .i64 v',.string nm',.bool g',.slice pp1 ln2 pc1,.slice pp2 ln3 pc2,.slice a' ln1 c'] 27))):=hK5.out.alloc _
        have d1:=ihA.out _ (List.mem_of_getElem? hTA.out) n B b (L2 ++ Tm.keyL (args.take i)) (wr.alloc (Obj.cells #[.int .i64 k',.int .i64 v',.string nm',.bool g',.slice pp1 ln2 pc1,.slice pp2 ln3 pc2,.slice a' ln1 c'] 27)) _ (errL_get t2A.out hTA.out) (TmV.below (hB6.mono hnB) (Nat.le_refl n) _ _ hv0) hnB (by have:=hB6.size;omega) (hbl5.out.alloc _) (by have h1:=hkl.out;have h2:=hlenA.out;have h3:=hL2l.out;simp;omega)
        rw [List.append_assoc,← hkt.out] at d1
        rw [hln1] at m6
        rw [hln2] at m4
        rw [hln3] at m5
        replace d1:Calls Tryz.prog 121 #[.pointer (some ⟨b,0,none⟩),.agg #[.int .i64 k',.int .i64 v',.string nm',.bool g',.slice pp1 num'.length pc1,.slice pp2 den'.length pc2,.slice a' args'.length c']] _ _:=d1
        rw [hln1,hln2,hln3] at d1
        have hi1:(i:Int) < (len:Int):=by omega
        have hi3:(0:Int) ≤ (i:Int):=by omega
        have hw3:IntKind.i64.wrap ((i:Int) + 1) = (i:Int) + 1:=by rw [IntKind.wrap_i64];omega
        clear hln1 hln2 hln3 hc hv0 hbl5
        go_wp2_with (go_at_call 121;with_reducible refine d1.mono ?_)
        first | rintro e w6 rfl hbl6 hb6 hk6 | rintro e w6 ⟨rfl,hbl6,hb6,hk6⟩
        go_wp2
        go_roundw
        case rel=>exact ⟨i + 1,by simp,by omega,hbl6,hB6.trans hb6,hK6.out.trans hk6⟩
        case measure=>simp [intOf];omega
    · obtain rfl:i = len:=by omega
      have hbl7:Aside (Bld B b (L2 ++ Tm.keyL args) wr):=by
        have h1:=hbl5.out
        rw [← Al.out,List.take_length] at h1
        exact h1
      clear hbl5
      go_wp2
      go_end0
      exact ⟨rfl,by rw [← hfin.out];exact hbl7.out,hB5,hK5⟩
theorem write_calls:∀ (T:Tm),WrOk T
  | .mk k v nm g num den args=>write_step k v nm g num den args fun T' hT'=>write_calls T'
termination_by T=>SizeOf.sizeOf T
decreasing_by
  simp_wf
  have:=List.sizeOf_lt_of_mem hT'
  omega
end Go.Proofs.YtaloeffmigffaaaGreatDoor
end
section
namespace Go.Proofs.YtaloeffmigffaaaGreatDoor
open Go.RowKit Go.Big
theorem leb_lt:∀ (n:Nat),∀ x ∈ leb n,x < 256:=by
  intro n
  induction n using Nat.strongRecOn with
  | ind n ih=>
    rw [leb]
    split
    · intro x hx;simp at hx;omega
    · intro x hx
      rcases List.mem_cons.1 hx with rfl | hx
      · omega
      · exact ih (n / 128) (by omega) x hx
theorem leb_len (n:Nat):∀ k,n < 128 ^ (k + 1) → (leb n).length ≤ k + 1:=by
  induction n using Nat.strongRecOn with
  | ind n ih=>
    intro k hk
    rw [leb]
    split
    · simp
    · cases k with
      | zero=>simp at hk;omega
      | succ k=>
        have h1:n / 128 < 128 ^ (k + 1):=by
          rw [Nat.div_lt_iff_lt_mul (by decide)]
          rw [Nat.pow_succ] at hk;exact hk
        have:=ih (n / 128) (by omega) k h1
        simp;omega
theorem leb_len10 {n:Nat} (h:n < 4611686018427387904):(leb n).length ≤ 10:=
  leb_len n 9 (Nat.lt_of_lt_of_le h (by decide))
theorem lebs_lt {L:List Nat}:∀ x ∈ lebs L,x < 256:=by
  intro x hx
  unfold lebs at hx
  rcases List.mem_append.1 hx with h | h
  · exact leb_lt _ x h
  · obtain ⟨l,hl,hx⟩:=List.mem_flatten.1 h
    obtain ⟨y,_,rfl⟩:=List.mem_map.1 hl
    exact leb_lt _ x hx
theorem flat_len {L:List Nat} (h:∀ x ∈ L,x < 4611686018427387904):((L.map leb).flatten).length ≤ 10 * L.length:=by
  induction L with
  | nil=>simp
  | cons a r ih=>
    have h1:=leb_len10 (h a (by simp))
    have h2:=ih fun x hx=>h x (by simp [hx])
    simp only [List.map_cons,List.flatten_cons,List.length_append,List.length_cons]
    omega
theorem nameB_lt (b:ByteArray):∀ x ∈ nameB b,x < 256:=by
  intro x hx
  unfold nameB at hx
  obtain ⟨y,_,rfl⟩:=List.mem_map.1 hx
  exact y.toNat_lt
mutual
theorem key_lt:∀ (T:Tm),T.errE = 0 → ∀ x ∈ T.key,x < 256
  | .mk k v nm g num den args,hE,x,hx=>by
    obtain ⟨t1,t2⟩:=errE_split hE
    have ft:=(rootE_fine t1).1
    have hk5:1 ≤ k ∧ k ≤ 5:=by unfold RootFine at ft;omega
    simp only [Tm.key] at hx
    rcases List.mem_cons.1 hx with rfl | hx
    · omega
    · split at hx
      · exact leb_lt _ x hx
      · split at hx
        · rcases List.mem_cons.1 hx with rfl | hx
          · split <;> omega
          · rcases List.mem_append.1 hx with h | h
            · exact lebs_lt x h
            · exact lebs_lt x h
        · rcases List.mem_append.1 hx with h | hx
          · exact leb_lt _ x h
          · rcases List.mem_append.1 hx with h | hx
            · exact nameB_lt nm x h
            · rcases List.mem_append.1 hx with h | h
              · exact leb_lt _ x h
              · exact keyL_lt args t2 x h
theorem keyL_lt:∀ (L:List Tm),Tm.errL L = 0 → ∀ x ∈ Tm.keyL L,x < 256
  | [],_,x,hx=>by simp [Tm.keyL] at hx
  | T :: r,h,x,hx=>by
    obtain ⟨h1,h2⟩:=errL_split h
    simp only [Tm.keyL] at hx
    rcases List.mem_append.1 hx with h | h
    · exact key_lt T h1 x h
    · exact keyL_lt r h2 x h
end
theorem byteCells_bv {L:List Nat} (h:∀ x ∈ L,x < 256):Lib.byteCells (L.map UInt8.ofNat) = L.map bv:=by
  induction L with
  | nil=>rfl
  | cons a r ih=>
    have:=h a (by simp)
    have h2:=ih fun x hx=>h x (by simp [hx])
    simp only [Lib.byteCells,List.map_cons,List.map_map,List.cons.injEq] at h2 ⊢
    refine ⟨?_,h2⟩
    simp [bv];omega
set_option maxRecDepth 100000 in
set_option maxHeartbeats 4000000 in
theorem key_calls (T:Tm) (n:Nat) (w:World) (vs:List Value) (hE:T.errE = 0) (h:TmV n w T vs) (hn:n ≤ w.heap.size) (hlen:T.key.length + 10 ≤ 140737488355328) :
    Calls Tryz.prog 58 #[.agg vs.toArray] w fun e w'=>e = .returned (.string (strN T.key)) ∧ Below w.heap.size w w':=by
  have h0:=h
  have hlt:=key_lt T hE
  obtain ⟨K,hK⟩:∃ K,T.key = K:=⟨_,rfl⟩
  have hw:=write_calls T
  unfold WrOk at hw
  rw [hK] at hw hlen hlt ⊢
  obtain ⟨k,v,nm,g,num,den,args⟩:=T
  simp only [TmV] at h
  obtain ⟨s1,s2,a,c,rfl,⟨⟨p1,c1,rfl,_⟩,⟨p2,c2,rfl,_⟩⟩,_⟩:=h
  obtain ⟨hBw,q1,q2,hsz⟩:=two_blocks w (Obj.cells #[.int .i64 k,.int .i64 v,.string nm,.bool g,.slice p1 num.length c1,.slice p2 den.length c2,.slice a args.length c] 27) (Obj.cells #[.pointer none,.slice none 0 0] 187)
  have hfr:=Lib.fresh_isBuilder 187 5 (w.alloc (Obj.cells #[.int .i64 k,.int .i64 v,.string nm,.bool g,.slice p1 num.length c1,.slice p2 den.length c2,.slice a args.length c] 27))
  rw [World.size_alloc] at hfr
  have d1:=hw n (w.heap.size + 1) (w.heap.size + 1) [] _ _ hE (TmV.below hBw hn _ _ h0) (by omega) (by omega) hfr (by simpa using hlen)
  clear hw q1 q2 hK hfr
  have hstr:Aside (∀ w1,Bld (w.heap.size + 1) (w.heap.size + 1) ([] ++ K) w1 → w.heap.size + 1 ≤ w1.heap.size → Calls Tryz.prog 122 #[.pointer (some ⟨w.heap.size + 1,0,none⟩)] w1 fun e w'=>e = .returned (.string (strN K)) ∧ Below (w.heap.size + 1) w1 w'):=by
    show ∀ w1,_
    intro w1 hb hs
    have hb2:Lib.IsBuilder 187 5 (w.heap.size + 1) (w.heap.size + 1) (Lib.byteCells (K.map UInt8.ofNat)) w1:=by
      rw [byteCells_bv hlt];simpa [Bld] using hb
    refine (Tryz.Builder_String_any (w.heap.size + 1) (w.heap.size + 1) (K.map UInt8.ofNat) w1 hb2 hs).mono ?_
    rintro e w' ⟨rfl,h2⟩
    refine ⟨?_,h2⟩
    congr 2
    exact byteArray_ext' (by rw [strN_data])
  replace d1:Calls Tryz.prog 121 #[.pointer (some ⟨w.heap.size + 1,0,none⟩),.agg #[.int .i64 k,.int .i64 v,.string nm,.bool g,.slice p1 num.length c1,.slice p2 den.length c2,.slice a args.length c]] _ _:=d1
  generalize args.length = len at *
  generalize num.length = l1 at *
  generalize den.length = l2 at *
  show Calls Tryz.prog 58 #[.agg #[.int .i64 k,.int .i64 v,.string nm,.bool g,.slice p1 l1 c1,.slice p2 l2 c2,.slice a len c]] w _
  clear h0 hlt hE
  go_enter Tryz.func58,Tryz.ntmps58
  go_wp2_with (go_at_call 121;with_reducible refine d1.mono ?_)
  first | rintro e w1 rfl hbl1 hb1 hk1 | rintro e w1 ⟨rfl,hbl1,hb1,hk1⟩
  have hb1s:=hb1.size
  have d2:=hstr.out w1 (by simpa using hbl1) (by omega)
  go_wp2_with (go_at_call 122;with_reducible refine d2.mono ?_)
  first | rintro e w2 rfl hb2 | rintro e w2 ⟨rfl,hb2⟩
  go_wp2
  go_ret
  exact ⟨rfl,(hBw.trans (hb1.mono (by omega))).trans (hb2.mono (by omega))⟩
end Go.Proofs.YtaloeffmigffaaaGreatDoor
end
