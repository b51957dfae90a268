/-
  A part of the proof of the card of WorkGeneralizationIsLeast (second form): lemmas that the text Card uses. No condition of its own.
-/
import Derived.Test.YtaloeffmigffaaaGreatDoorRefC
import Derived.Test.YtaloeffmigffaaaGreatDoorTermB
import Derived.Shelf.Strings.Builder1
import Derived.Shelf.Small.Strs
import Derived.Test.YtaloeffmigffaaaGreatDoorProg
import Derived.Lib.AppendStr
import Derived.Laws.Externs
import Derived.Lib.OthersKept
set_option linter.all false
set_option linter.unusedVariables false
set_option linter.unusedSimpArgs false
section
namespace Go.Proofs
open Go.Shelf
def Tryz.lays169_ren:Go.Shelf.Ren:=⟨fun | 169=>122 | n=>n,fun | 70=>184 | 9=>9 | 0=>0 | 72=>187 | 37=>185 | 127=>245 | 3=>3 | 5=>5 | n=>n,fun | n=>n⟩
theorem Tryz.lays169:Go.Proofs.Lays.n169 Tryz.prog Tryz.lays169_ren:={
  mixed:=by kernel_rfl
  f169:=Tryz.func122.trans (congrArg some (by kernel_rfl))
  t0:=Tryz.underlying0
  a0:=Tryz.isAgg0
  z0:=Tryz.sizeOf0
  v0:=Tryz.zeroValue0
  t3:=Tryz.underlying3
  a3:=Tryz.isAgg3
  z3:=Tryz.sizeOf3
  v3:=Tryz.zeroValue3
  t9:=Tryz.underlying9
  a9:=Tryz.isAgg9
  z9:=Tryz.sizeOf9
  v9:=Tryz.zeroValue9
  t37:=Tryz.underlying185
  a37:=Tryz.isAgg185
  z37:=Tryz.sizeOf185
  v37:=Tryz.zeroValue185
  t70:=Tryz.underlying184
  a70:=Tryz.isAgg184
  z70:=Tryz.sizeOf184
  v70:=Tryz.zeroValue184
  t72:=Tryz.underlying187
  a72:=Tryz.isAgg187
  z72:=Tryz.sizeOf187
  v72:=Tryz.zeroValue187
  t127:=Tryz.underlying245
  a127:=Tryz.isAgg245
  z127:=Tryz.sizeOf245
  v127:=Tryz.zeroValue245 }
theorem Tryz.Builder_Extra_169:Builder.Extra Tryz.prog Tryz.lays169_ren:={
  sizeBuilder:=by kernel_rfl
  liesBuilder:=by kernel_rfl
  t5:=Tryz.underlying5
  a5:=Tryz.isAgg5
  z5:=Tryz.sizeOf5
  v5:=Tryz.zeroValue5
  infoByte:=by kernel_rfl
  cellsByte:=by kernel_rfl
  sizeByte:=by kernel_rfl
  neB5:=by decide }
open Go.RowKit in
theorem Tryz.Builder_String (B b:Nat) (l:List UInt8) (w:World) (h:Lib.IsBuilder 187 5 B b (Lib.byteCells l) w) (h0:l ≠ []) :
    Calls Tryz.prog 122 #[.pointer (some ⟨b,0,none⟩)] w fun e w'=>e = .returned (.string ⟨l.toArray⟩) ∧ Below B w w':=Any.Builder_String Tryz.lays169 Tryz.Builder_Extra_169 B b l w h h0
open Go.RowKit in
theorem Tryz.Builder_String_empty (B b:Nat) (w:World) (h:Lib.IsBuilder 187 5 B b [] w) (hBw:B ≤ w.heap.size) :
    Calls Tryz.prog 122 #[.pointer (some ⟨b,0,none⟩)] w fun e w'=>e = .returned (.string ⟨#[]⟩) ∧ Below B w w':=Any.Builder_String_empty Tryz.lays169 Tryz.Builder_Extra_169 B b w h hBw
open Go.RowKit in
theorem Tryz.Builder_String_any (B b:Nat) (l:List UInt8) (w:World) (h:Lib.IsBuilder 187 5 B b (Lib.byteCells l) w) (hBw:B ≤ w.heap.size) :
    Calls Tryz.prog 122 #[.pointer (some ⟨b,0,none⟩)] w fun e w'=>e = .returned (.string ⟨l.toArray⟩) ∧ Below B w w':=Any.Builder_String_any Tryz.lays169 Tryz.Builder_Extra_169 B b l w h hBw
def Tryz.lays213_ren:Go.Shelf.Ren:=⟨fun | 213=>177 | 265=>223 | n=>n,fun | 9=>9 | 3=>3 | n=>n,fun | n=>n⟩
theorem Tryz.lays213:Go.Proofs.Lays.n213 Tryz.prog Tryz.lays213_ren:={
  mixed:=by kernel_rfl
  f213:=Tryz.func177.trans (congrArg some (by kernel_rfl))
  f265:=Tryz.func223.trans (congrArg some (by kernel_rfl))
  t3:=Tryz.underlying3
  a3:=Tryz.isAgg3
  z3:=Tryz.sizeOf3
  v3:=Tryz.zeroValue3
  t9:=Tryz.underlying9
  a9:=Tryz.isAgg9
  z9:=Tryz.sizeOf9
  v9:=Tryz.zeroValue9 }
open Go.RowKit in
theorem Tryz.bytealg_CompareString (a b:ByteArray) (w:World) :
    Calls Tryz.prog 177 #[.string a,.string b] w fun e w'=>e = .returned (.int .i64 (Lib.compareBytes a.data.toList b.data.toList)) ∧ w' = w:=Any.bytealg_CompareString Tryz.lays213 a b w
def Tryz.lays106_ren:Go.Shelf.Ren:=⟨fun | 106=>115 | 213=>177 | 265=>223 | n=>n,fun | 9=>9 | 3=>3 | n=>n,fun | n=>n⟩
theorem Tryz.lays106:Go.Proofs.Lays.n106 Tryz.prog Tryz.lays106_ren:={
  mixed:=by kernel_rfl
  f106:=Tryz.func115.trans (congrArg some (by kernel_rfl))
  f213:=Tryz.func177.trans (congrArg some (by kernel_rfl))
  f265:=Tryz.func223.trans (congrArg some (by kernel_rfl))
  t3:=Tryz.underlying3
  a3:=Tryz.isAgg3
  z3:=Tryz.sizeOf3
  v3:=Tryz.zeroValue3
  t9:=Tryz.underlying9
  a9:=Tryz.isAgg9
  z9:=Tryz.sizeOf9
  v9:=Tryz.zeroValue9 }
open Go.RowKit in
theorem Tryz.strings_Compare (a b:ByteArray) (w:World) :
    Calls Tryz.prog 115 #[.string a,.string b] w fun e w'=>e = .returned (.int .i64 (Lib.compareBytes a.data.toList b.data.toList)) ∧ w' = w:=Any.strings_Compare Tryz.lays106 a b w
end Go.Proofs
end
section
namespace Go.Proofs.YtaloeffmigffaaaGreatDoor
open Go.RowKit Go.Big
theorem inf187:(Tryz.prog.info? 187).map (fun i=>decide (i.size = 0)) = some false:=by kernel_rfl
theorem liesB:liesAt Tryz.prog Tryz.prog.depth 187 (2 / Tryz.prog.cellsOf 187) 0 187 1 = true:=by kernel_rfl
theorem und327:Tryz.prog.underlying 327 = some .unsafePointer:=by kernel_rfl
theorem und184:Tryz.prog.underlying 184 = some (.pointer 187):=by kernel_rfl
set_option maxRecDepth 100000 in
set_option maxHeartbeats 2000000 in
theorem copyCheck_calls (B b:Nat) (bs:List Value) (w:World) (h:Lib.IsBuilder 187 5 B b bs w) :
    Calls Tryz.prog 225 #[.pointer (some ⟨b,0,none⟩)] w fun e w'=>e = .returned (.tuple #[]) ∧ Lib.BuilderAt 187 5 B b (.pointer (some ⟨b,0,none⟩)) bs w' ∧ Below B w w' ∧ Lib.OthersKept 5 (some b) w w':=by
  obtain ⟨j,hj,hj2⟩:=Option.map_eq_some_iff.1 inf187
  have hj0:j.size ≠ 0:=by simpa using hj2
  rcases h with h | h
  · have h0:=h.cell0
    have hsh:=h.shape
    have hfz:=h.frozen0
    have hto:=Lib.run_to_unsafe (P:=Tryz.prog) w ⟨b,0,none⟩ und184 und327 hj hj0 hsh (Nat.zero_lt_succ 1)
    have hfrom:=Lib.run_from_unsafe (P:=Tryz.prog) w ⟨b,0,none⟩ und327 und184 hj hsh liesB
    have k1:=h.used (.pointer (some ⟨b,0,none⟩))
    have k2:=(Below.refl B w).setCell (p:=⟨b,0,none⟩) h.1 (.pointer (some ⟨b,0,none⟩))
    have k3:=(Lib.OthersKept.refl 5 (some b) w).setCell ⟨b,0,none⟩ rfl (.pointer (some ⟨b,0,none⟩))
    have hex:(callFunc 273 #[.pointer (some ⟨b,0,none⟩)]).run Tryz.prog w = .ok (.value (.pointer (some ⟨b,0,none⟩))) w:=by
      rw [run_callFunc_extern Tryz.func273 (by kernel_rfl) (by kernel_rfl) (by kernel_rfl) (e:=Extern.AbiNoEscape.same) (by kernel_rfl),Lib.run_noEscape]
      rfl
    clear h hsh
    go_enter Tryz.func225,Tryz.ntmps225
    go_wp2
    go_end0
    exact ⟨rfl,k1,k2,k3⟩
  · have h0:=h.cell0
    have hsame:=Lib.run_neq_ptr_same (P:=Tryz.prog) w ⟨b,0,none⟩ und184 hj
    have k2:=Below.refl B w
    go_enter Tryz.func225,Tryz.ntmps225
    go_wp2
    go_end0
    exact ⟨rfl,h,k2,Lib.OthersKept.refl 5 (some b) w⟩
theorem own_row5 {B:Nat} {v:Value} {n:Nat} {xs:List Value} {w:World} (h:w.ownsRow B 5 1 v n xs):∀ g,v.ownBlock = some g → ∃ c fz,w.heap[g]? = some (.cells c 5 fz):=by
  intro g hg
  rcases h.2 with ⟨rfl,_⟩ | ⟨g',cap,cur,rfl,_,hc,_⟩
  · simp [Value.ownBlock] at hg
  · simp only [Value.ownBlock,Option.some.injEq] at hg
    subst hg
    exact ⟨_,_,hc⟩
def Bld (B b:Nat) (L:List Nat) (w:World):Prop:=Lib.IsBuilder 187 5 B b (L.map bv) w
set_option maxRecDepth 100000 in
set_option maxHeartbeats 2000000 in
theorem writeByte_calls (B b:Nat) (L:List Nat) (c:Nat) (w:World) (h:Bld B b L w) (hlen:L.length + 1 ≤ 140737488355328) (hBw:B ≤ w.heap.size) :
    Calls Tryz.prog 182 #[.pointer (some ⟨b,0,none⟩),.int .u8 c] w fun e w'=>e = .returned .nilIface ∧ Bld B b (L ++ [c]) w' ∧ Below B w w' ∧ Lib.OthersKept 5 (some b) w w':=by
  obtain ⟨i0,hi,hz0,hz1,hz2⟩:=info_parts inf5
  have hcc:=copyCheck_calls B b _ w h
  go_enter Tryz.func182,Tryz.ntmps182
  go_wp2_with (go_at_call 225;with_reducible refine hcc.mono ?_)
  rintro e w1 ⟨rfl,h1,hb1,hk1⟩
  obtain ⟨hB,v,hbk,hown,hne⟩:=h1
  have c0:w1.cell? ⟨b,0,none⟩ = some (.pointer (some ⟨b,0,none⟩)):=by rw [Lib.cell_of_heap hbk];rfl
  have c1:w1.cell? ⟨b,1,none⟩ = some v:=by rw [Lib.cell_of_heap hbk];rfl
  have hs1:=hb1.size
  have hlt:b < w1.heap.size:=by
    rcases Nat.lt_or_ge b w1.heap.size with h' | h'
    · exact h'
    · simp [Array.getElem?_eq_none h'] at hbk
  go_wp2_with (at_builtin;refine wpList_append_own _ rfl _ _ 185 rfl B 5 i0 (.int .u8 0) 1 1 Tryz.underlying185 hi hz0 hz1 hz2 rfl (by decide) _ _ _ rfl (hown.alloc _) ⟨w1.heap.size,0,none⟩ 1 1 [bv c] rfl rfl ?c1 ?c2 ?c3 ?c4 ?c5 ?_)
  case c1=>
    intro j u hj
    match j,hj with
    | 0,hj=>simp at hj;subst hj;simp [Addr.add,bv]
  case c2=>intro u hu;simp at hu;subst hu;rfl
  case c3=>unfold maxLen;simp;omega
  case c4=>simp;omega
  case c5=>simp;omega
  intro v' w2 hown' hgrow _
  have hb2:w2.heap[b]? = some (.cells #[.pointer (some ⟨b,0,none⟩),v] 187 (0,0)):=by
    rw [hgrow.block b (by simp;omega) (fun e=>hne e.symm),Lib.alloc_old w1 _ b hlt]
    exact hbk
  have d0:w2.cell? ⟨b,0,none⟩ = some (.pointer (some ⟨b,0,none⟩)):=by rw [Lib.cell_of_heap hb2];rfl
  have d1:w2.cell? ⟨b,1,none⟩ = some v:=by rw [Lib.cell_of_heap hb2];rfl
  have f1:w2.frozen? ⟨b,1,none⟩ = false:=Lib.frozen_of_heap hb2 1
  obtain ⟨g,n',cap,rfl⟩:∃ g n' cap,v' = .slice g n' cap:=by
    rcases hown'.2 with ⟨h0,_⟩ | ⟨g,cap,cur,hv,_⟩
    · exact ⟨_,_,_,h0⟩
    · exact ⟨_,_,_,hv⟩
  go_wp2
  go_ret
  have hrow:=own_row5 (hown.alloc (.cells #[bv c] 5))
  refine ⟨rfl,.inr ?_,?_,((hk1.alloc _).grown hgrow hrow).setCell ⟨b,1,none⟩ rfl _⟩
  · exact Lib.BuilderAt.put (T:=187) (e:=5) hB hb2 (bs':=(L ++ [c]).map bv) (by simpa using hown') (by decide)
  · exact ((hb1.alloc (by omega) _).grown hgrow (by simp;omega) (fun k hk=>(hown.lt k hk).1)).setCell (p:=⟨b,1,none⟩) hB _
set_option maxRecDepth 100000 in
set_option maxHeartbeats 2000000 in
theorem writeString_calls (B b:Nat) (L:List Nat) (s:ByteArray) (w:World) (h:Bld B b L w) (hlen:L.length + s.size ≤ 140737488355328) (hBw:B ≤ w.heap.size) :
    Calls Tryz.prog 184 #[.pointer (some ⟨b,0,none⟩),.string s] w fun e w'=>(∃ v,e = .returned v) ∧ Bld B b (L ++ s.data.toList.map UInt8.toNat) w' ∧ Below B w w' ∧ Lib.OthersKept 5 (some b) w w':=by
  obtain ⟨i0,hi,hz0,hz1,hz2⟩:=info_parts inf5
  have hcc:=copyCheck_calls B b _ w h
  have hsc:Aside (Lib.strCells s = (s.data.toList.map UInt8.toNat).map bv):=by
    show _ = _
    simp [Lib.strCells,bv]
  go_enter Tryz.func184,Tryz.ntmps184
  go_wp2_with (go_at_call 225;with_reducible refine hcc.mono ?_)
  rintro e w1 ⟨rfl,h1,hb1,hk1⟩
  obtain ⟨hB,v,hbk,hown,hne⟩:=h1
  have c0:w1.cell? ⟨b,0,none⟩ = some (.pointer (some ⟨b,0,none⟩)):=by rw [Lib.cell_of_heap hbk];rfl
  have c1:w1.cell? ⟨b,1,none⟩ = some v:=by rw [Lib.cell_of_heap hbk];rfl
  have hs1:=hb1.size
  have hlt:b < w1.heap.size:=by
    rcases Nat.lt_or_ge b w1.heap.size with h' | h'
    · exact h'
    · simp [Array.getElem?_eq_none h'] at hbk
  go_wp2_with (at_builtin;refine Lib.wpList_append_own_string _ rfl _ _ 185 9 rfl B 5 i0 Tryz.underlying185 Tryz.underlying9 hi hz0 hz1 hz2 _ _ _ rfl hown s rfl ?c3 ?c4 ?c5 ?_)
  case c3=>unfold maxLen;simp;omega
  case c4=>simp;omega
  case c5=>omega
  intro v' w2 hown' hgrow _
  have hb2:w2.heap[b]? = some (.cells #[.pointer (some ⟨b,0,none⟩),v] 187 (0,0)):=by
    rw [hgrow.block b hlt (fun e=>hne e.symm)]
    exact hbk
  have d0:w2.cell? ⟨b,0,none⟩ = some (.pointer (some ⟨b,0,none⟩)):=by rw [Lib.cell_of_heap hb2];rfl
  have d1:w2.cell? ⟨b,1,none⟩ = some v:=by rw [Lib.cell_of_heap hb2];rfl
  have f1:w2.frozen? ⟨b,1,none⟩ = false:=Lib.frozen_of_heap hb2 1
  obtain ⟨g,n',cap,rfl⟩:∃ g n' cap,v' = .slice g n' cap:=by
    rcases hown'.2 with ⟨h0,_⟩ | ⟨g,cap,cur,hv,_⟩
    · exact ⟨_,_,_,h0⟩
    · exact ⟨_,_,_,hv⟩
  go_wp2
  go_ret2
  have hrow:=own_row5 hown
  refine ⟨⟨_,rfl⟩,.inr ?_,?_,(hk1.grown hgrow hrow).setCell ⟨b,1,none⟩ rfl _⟩
  · refine Lib.BuilderAt.put (T:=187) (e:=5) hB hb2 (bs':=(L ++ s.data.toList.map UInt8.toNat).map bv) ?_ (by decide)
    have e1:(L ++ s.data.toList.map UInt8.toNat).map bv = L.map bv ++ Lib.strCells s:=by rw [List.map_append,hsc.out]
    have e2:(L.map bv ++ Lib.strCells s).length = (L.map bv).length + s.size:=by rw [List.length_append,Lib.strCells_length]
    rw [e1,e2]
    simpa using hown'
  · exact (hb1.grown hgrow (by omega) (fun k hk=>(hown.lt k hk).1)).setCell (p:=⟨b,1,none⟩) hB _
theorem Bld.alloc {B b:Nat} {L:List Nat} {w:World} (h:Bld B b L w) (o:Obj):Bld B b L (w.alloc o):=by
  have k:∀ p,Lib.BuilderAt 187 5 B b p (L.map bv) w → Lib.BuilderAt 187 5 B b p (L.map bv) (w.alloc o):=fun p hp=>by
    have hlt:=hp.lt
    obtain ⟨h1,v,h2,h3,h4⟩:=hp
    exact ⟨h1,v,(Lib.alloc_old w o b hlt).trans h2,h3.alloc o,h4⟩
  exact h.imp (k _) (k _)
end Go.Proofs.YtaloeffmigffaaaGreatDoor
end
section
namespace Go.Proofs.YtaloeffmigffaaaGreatDoor
open Go.RowKit Go.Big
set_option maxRecDepth 10000 in
theorem or128:∀ x:Nat,x < 256 → x ||| 128 = x % 128 + 128:=by decide
theorem u8_or (m:Nat):bits BinOp.or IntKind.u8 ((m:Int) % 256) 128 = ((m % 128 + 128:Nat):Int):=by
  have h0:(m:Int) % 256 = ((m % 256:Nat):Int):=by omega
  rw [h0]
  have h1:(BitVec.ofInt 8 ((m % 256:Nat):Int)).toNat = m % 256:=by rw [BitVec.ofInt_natCast,BitVec.toNat_ofNat];omega
  have h2:(BitVec.ofInt 8 (128:Int)).toNat = 128:=by decide
  show IntKind.u8.wrap (((BitVec.ofInt 8 ((m % 256:Nat):Int)) ||| BitVec.ofInt 8 (128:Int)).toNat:Int) = _
  rw [BitVec.toNat_or,h1,h2,or128 _ (by omega)]
  have h3:m % 256 % 128 = m % 128:=by omega
  rw [h3]
  rw [IntKind.wrap_u8];omega
set_option maxRecDepth 100000 in
set_option maxHeartbeats 2000000 in
theorem number_calls (B b:Nat) (L:List Nat) (n:Nat) (w:World) (h:Bld B b L w) (hn:n < 4611686018427387904) (hlen:L.length + 10 ≤ 140737488355328) (hBw:B ≤ w.heap.size) :
    Calls Tryz.prog 183 #[.pointer (some ⟨b,0,none⟩),.int .i64 n] w fun e w'=>e = .returned (.tuple #[]) ∧ Bld B b (L ++ leb n) w' ∧ Below B w w' ∧ Lib.OthersKept 5 (some b) w w':=by
  go_enter Tryz.func183,Tryz.ntmps183
  have hA:Aside (Bld B b L w):=h
  clear h
  go_wp2
  go_loopw [1] (fun s wr=>∃ (m:Nat) (M:List Nat),s = .int .i64 m ∧ m ≤ n ∧ Aside (Bld B b (L ++ M) wr) ∧ Aside (M ++ leb m = leb n) ∧ Aside (m * 128 ^ M.length ≤ n ∧ M.length ≤ 9) ∧ Below B w wr ∧ Aside (Lib.OthersKept 5 (some b) w wr)) (fun s _=>(intOf s).toNat)
  case atStart=>exact ⟨n,[],rfl,Nat.le_refl _,by simpa using hA,by show _ = _;simp,⟨by simp,by simp⟩,Below.refl _ _,Lib.OthersKept.refl _ _ _⟩
  case round=>
    obtain ⟨m,M,rfl,hm,hbl,hM,hlM,hB,hK⟩:=hrel
    have hBs:=hB.size
    by_cases hlt:128 ≤ m
    · have h1:(128:Int) ≤ (m:Int):=by omega
      have hor:=u8_or m
      have hleb:Aside (M ++ (m % 128 + 128) :: leb (m / 128) = leb n):=by
        show _ = _
        rw [← hM.out,leb.eq_def m,dif_neg (by omega)]
      have hpw:Aside (m / 128 * 128 ^ (M.length + 1) ≤ n ∧ M.length + 1 ≤ 9):=by
        have h2:=hlM.out
        have h3:m / 128 * 128 ^ (M.length + 1) ≤ n:=by
          refine Nat.le_trans ?_ h2.1
          rw [Nat.pow_succ,Nat.mul_comm (128 ^ M.length),← Nat.mul_assoc]
          exact Nat.mul_le_mul_right _ (Nat.div_mul_le_self m 128)
        refine ⟨h3,?_⟩
        rcases Nat.lt_or_ge M.length 9 with h4 | h4
        · exact h4
        · exfalso
          have h5:1 ≤ m / 128:=by omega
          have h6:(128:Nat) ^ 10 ≤ 128 ^ (M.length + 1):=Nat.pow_le_pow_right (by decide) (by omega)
          have h7:(128:Nat) ^ 10 ≤ n:=Nat.le_trans h6 (Nat.le_trans (Nat.le_mul_of_pos_left _ h5) h3)
          have h8:(4611686018427387904:Nat) ≤ 128 ^ 10:=by decide
          omega
      have d1:=writeByte_calls B b (L ++ M) (m % 128 + 128) wr hbl.out (by have:=hlM.out.2;simp;omega) (by omega)
      obtain ⟨c,hc⟩:∃ c,m % 128 + 128 = c:=⟨_,rfl⟩
      rw [hc] at hor d1 hleb
      have hc0:m / 128 < m:=by omega
      have hc1:m / 128 ≤ n:=by omega
      have hd:(m:Int) / 128 = ((m / 128:Nat):Int):=by omega
      obtain ⟨q,hq⟩:∃ q,m / 128 = q:=⟨_,rfl⟩
      rw [hq] at hd hc0 hc1 hpw hleb
      clear hc hq hbl hM hlM
      go_wp2_with (go_at_call 182;(with_reducible refine d1.mono ?_);rintro e w3 ⟨rfl,hbl3,hb3,hk3⟩)
      go_roundw
      case rel=>exact ⟨q,M ++ [c],rfl,hc1,(by show Bld _ _ _ _;simpa using hbl3),by simpa using hleb,by simpa using hpw,hB.trans (hb3.mono (by omega)),hK.out.trans hk3⟩
      case measure=>simp [intOf];omega
    · have h1:¬ (128:Int) ≤ (m:Int):=by omega
      have hw:(m:Int) % 256 = (m:Int):=by omega
      have hleb:Aside (M ++ [m] = leb n):=by
        show _ = _
        rw [← hM.out,leb.eq_def m,dif_pos (by omega)]
      have d1:=writeByte_calls B b (L ++ M) m wr hbl.out (by have:=hlM.out.2;simp;omega) (by omega)
      clear hbl hM hlM
      go_wp2_with (go_at_call 182;(with_reducible refine d1.mono ?_);rintro e w3 ⟨rfl,hbl3,hb3,hk3⟩)
      go_end0
      exact ⟨rfl,by rw [← hleb.out,← List.append_assoc];exact hbl3,hB.trans (hb3.mono (by omega)),hK.out.trans hk3⟩
end Go.Proofs.YtaloeffmigffaaaGreatDoor
end
