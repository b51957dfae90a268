/- Lemmas; no condition. -/
import Derived.Test.YtbdpdeonapmlgaaGreatDoorAv
import Derived.Test.YtbdpdeonapmlgaaGreatDoorAx
set_option linter.all false
set_option maxRecDepth 100000
namespace Go.Proofs
open Go.RowKit Go.Maps Go.Sort Go.Shelf
def Tryz.e327:∀args w,(callFunc 327 args).run Tryz.prog w= .ok (.enter 327 args) w:=enters_of Tryz.func327 (by kernel_rfl) rfl
def Tryz.e347:∀args w,(callFunc 347 args).run Tryz.prog w= .ok (.enter 347 args) w:=enters_of Tryz.func347 (by kernel_rfl) rfl
def Tryz.appendValues (w:Wo) (Bs oB b off cap:Nat) (zs:List Int) (a0:zs.length*8≤140737488351232) (hB:Bs<w.heap.size) (hb:b<w.heap.size)
  (a1:w.cell? ⟨Bs,oB,none⟩=some (.slice (some ⟨b,off,none⟩) zs.length cap)) (hc:∀j,j<zs.length→w.cell? ⟨b,off+j,none⟩=some (.int .i64 (zs[j]?.getD 0))):
  Calls Tryz.prog 347 #[.slice none 0 0,.func (.func 327) #[] #[.pointer (some ⟨Bs,oB,none⟩)]] w fun e w'=>∃v:Value,e= .returned v∧w'.ownsRow w.heap.size 3 1 v zs.length (zs.map encZ)∧(v= .slice none 0 0↔zs= [])∧Below w.heap.size w w':=by
 have a2:=AnyZI.appendSeqAt_in Tryz.apL Fence.wide 3 trivial rfl (by decide) 327 #[.pointer (some ⟨Bs,oB,none⟩)] trivial Tryz.e327 (fun ss=>ss=zs) zs.length (by unfold maxLen;omega) (by omega) w ?_
 ·refine(callsIn_wide.1 a2).mono ?_;rintro e w' ⟨v,ss,rfl,rfl,h1,h2,h3⟩;exact⟨v,rfl,h1,h2,h3⟩
 ·intro l fn D W hY h0;refine(Tryz.values1_in Fence.wide (3-1) trivial rfl (by decide) l Bs oB b off zs.length cap zs a0 (AnyZI.ApAt Tryz.apL_ren w fn (.func (.func 327) #[] #[.pointer (some ⟨Bs,oB,none⟩)]) w.heap.size l D) hY W ?_ ?_ h0).mono ?_
  ·exact(h0.below.cell (p:=⟨Bs,oB,none⟩) hB).trans a1
  ·intro a3 W' hJ j hj;exact(hJ.below.cell (p:=⟨b,off+j,none⟩) hb).trans (hc j hj)
  ·rintro e W' ⟨h1,h2⟩;exact⟨h1,zs,rfl,by rw [Tryz.upto_all] at h2;exact h2⟩
def Tryz.seqDoes:Ev.SeqDoes Tryz.prog 347 327 3:=
 ⟨Tryz.e347,fun w Bs oB b off cap zs hl hB hb a1 hc=>Tryz.appendValues w Bs oB b off cap zs (by omega) hB hb a1 hc⟩
end Go.Proofs
