/-
  A part of the proof of the card of WorkGeneralizationIsLeast (second form): lemmas that the text Card uses. No condition of its own.
-/
import Derived.Test.YtaloeffmigffaaaGreatDoorFactA
import Derived.Test.YtaloeffmigffaaaGreatDoorFactB
import Derived.Test.YtaloeffmigffaaaGreatDoorFactC
import Derived.Test.YtaloeffmigffaaaGreatDoorFactD
import Derived.Test.YtaloeffmigffaaaGreatDoorFactE
import Derived.Test.YtaloeffmigffaaaGreatDoorRows
import Derived.JoinedCond
import Derived.SevenTiedAt
set_option linter.all false
set_option linter.unusedVariables false
set_option linter.unusedSimpArgs false
section
namespace Go.Proofs.YtaloeffmigffaaaGreatDoor
set_option maxRecDepth 100000 in
theorem factHeard:Tryz.pinned.checked.prog.stopsHeard = true:=by kernel_rfl
set_option maxRecDepth 100000 in
theorem factEnter:Tryz.pinned.checked.prog.mayEnter = true:=by kernel_rfl
end Go.Proofs.YtaloeffmigffaaaGreatDoor
end
section
namespace Go.Proofs.YtaloeffmigffaaaGreatDoor
theorem goes_none {P:Program} (h:P.funcs.any Func.goes = false) (f:FuncId):P.goes f = false:=by
  unfold Program.goes
  rw [h,Bool.and_false,Bool.or_false,Bool.eq_false_iff]
  intro hc
  have hn:∀ (i:Nat) (fn:Func),P.funcs[i]? = some fn → fn.goes = false:=by
    intro i fn hi
    rw [Array.any_eq_false] at h
    obtain ⟨hlt,rfl⟩:=Array.getElem?_eq_some_iff.1 hi
    simpa using h i hlt
  simp only [List.any_eq_true,Option.any_eq_true] at hc
  obtain ⟨g,_,fn,h1,h2⟩:=hc
  rw [hn g fn h1] at h2
  cases h2
set_option maxRecDepth 100000 in
theorem noGo:Tryz.pinned.checked.prog.funcs.any Func.goes = false:=by kernel_rfl
set_option maxRecDepth 100000 in
theorem factFunc:Tryz.pinned.checked.prog.funcNamed Rows.workGeneralizationIsLeastUptoRow.func = some 3:=by kernel_rfl
theorem factStart:Rows.workGeneralizationIsLeastUptoRow.start = .entering:=rfl
theorem goesAt_none {P:Program} {fn:String} {f:FuncId} (h:P.funcNamed fn = some f) (hn:P.funcs.any Func.goes = false):P.goesAt .entering fn = false:=by
  unfold Program.goesAt Program.goesFrom
  rw [h,Option.any_some,goes_none hn,Bool.false_or]
theorem factGoes:false = Rows.workGeneralizationIsLeastUptoRow.goesBy Tryz.pinned.checked.prog:=by
  unfold OpenClaim.goesBy
  rw [factStart]
  exact (goesAt_none factFunc noGo).symm
end Go.Proofs.YtaloeffmigffaaaGreatDoor
end
section
namespace Go.Proofs.YtaloeffmigffaaaGreatDoor
set_option maxRecDepth 100000 in
theorem closed:joinedFacts Tryz.pinned.checked.prog 3 Tryz.f3 (Rows.OpenSpec.upto Rows.workGeneralizationIsLeastSpec).bare Rows.workGeneralizationIsLeastUptoRow = true:=by
  unfold joinedFacts
  rw [factInPlace,factUnfollowed,factRecurses,factNamed,factLaid,factMaps,factHeard,factEnter]
  kernel_rfl
end Go.Proofs.YtaloeffmigffaaaGreatDoor
end
