/-
  A part of the proof of the card of WorkbenchClausesInOrder (second form): lemmas that the text Card uses. No condition of its own.
-/
import Derived.Test.YtihaajnknnapmaaGreatDoorEv10
import Derived.Test.YtihaajnknnapmaaGreatDoorEv09
import Derived.Test.YtihaajnknnapmaaGreatDoorRunB
import Derived.Test.YtihaajnknnapmaaGreatDoorProg
import Derived.KernelRfl
set_option linter.all false
set_option linter.unusedVariables false
set_option linter.unusedSimpArgs false
section
open Go Go.Ev
namespace Go.Proofs.YtihaajnknnapmaaGreatDoor
/-- the query of divided(), read -/
noncomputable def mQuery : Memo := ⟨[.s 6 50715667474545, .sl ⟨.d0, .d0, .d0, .d1, .d6⟩ 0 56 3], [(3, [[.s 2 15395, iV 700, iV 1], [.s 2 15651, iV 700, iV 1], [.s 3 3947811, iV
  700, iV 1], [.s 2 15907, iV 700, iV 1], [.s 3 4013603, iV 700, iV 1], [.s 3 4021283, iV 700, iV 1], [.s 1 42, iV 400, iV 3], [.s 2 10794, iV 200, iV 1], [.s 3 4074794, iV 1050, iV
  2], [.s 1 43, iV 500, iV 3], [.s 1 43, iV 200, iV 4], [.s 1 45, iV 500, iV 3], [.s 1 45, iV 200, iV 4], [.s 3 4074797, iV 1200, iV 1], [.s 2 15917, iV 1050, iV 2], [.s 2 11822, iV
  450, iV 1], [.s 1 47, iV 400, iV 3], [.s 2 12079, iV 400, iV 3], [.s 2 23599, iV 500, iV 3], [.s 1 58, iV 600, iV 2], [.s 2 11578, iV 1200, iV 1], [.s 2 11578, iV 1200, iV 5], [.s
  1 59, iV 1100, iV 2], [.s 1 60, iV 700, iV 1], [.s 2 15420, iV 400, iV 3], [.s 1 61, iV 700, iV 1], [.s 3 3026493, iV 700, iV 1], [.s 3 4012605, iV 700, iV 1], [.s 2 15421, iV 700,
  iV 1], [.s 2 15677, iV 700, iV 1], [.s 3 4021309, iV 700, iV 1], [.s 1 62, iV 700, iV 1], [.s 2 15678, iV 700, iV 1], [.s 2 15934, iV 400, iV 3], [.s 2 11583, iV 1200, iV 5], [.s 2
  15424, iV 700, iV 1], [.s 3 3947840, iV 700, iV 1], [.s 2 15936, iV 700, iV 1], [.s 3 4013632, iV 700, iV 1], [.s 1 92, iV 200, iV 4], [.s 2 11100, iV 900, iV 4], [.s 2 12124, iV
  500, iV 3], [.s 2 15708, iV 700, iV 1], [.s 3 4013404, iV 700, iV 1], [.s 1 94, iV 200, iV 2], [.s 3 7760228, iV 400, iV 3], [.s 7 27981941201336676, iV 1150, iV 5], [.s 2 28265,
  iV 700, iV 1], [.s 14 2239892019062521052805406558613097, iV 1150, iV 5], [.s 2 29545, iV 700, iV 1], [.s 14 2057743977047782653436861915358573, iV 1150, iV 5], [.s 3 6582125, iV
  400, iV 3], [.s 3 7169394, iV 400, iV 3], [.s 5 435610083700, iV 1150, iV 5], [.s 3 7499640, iV 500, iV 3], [.s 1 124, iV 1105, iV 2]])], .tup [.agg [iV 5, iV 0, .s 1 113, .b
  false, .sn, .sn, .sl ⟨.d0, .d0, .d0, .d1, .d7⟩ 0 1 7, .sl ⟨.d0, .d0, .d0, .d2, .d0⟩ 0 1 1], iV 6, iV 0], [(7, 36, [[iV 1, iV 0, .s 0 0, .b false, .sn, .sn, .sn]]), (1, 9, [[.s 1
  88]])]⟩
theorem fQuery : memoFact callA 14 10000 13 mQuery = true := by kernel_rfl
end Go.Proofs.YtihaajnknnapmaaGreatDoor
end
