/-
  A part of the proof of the card of WorkbenchClausesInOrder (second form): lemmas that the text Card uses. No condition of its own.
-/
import Derived.Test.YtihaajnknnapmaaGreatDoorEv10
import Derived.Test.YtihaajnknnapmaaGreatDoorEv09
import Derived.Test.YtihaajnknnapmaaGreatDoorMemoA
import Derived.Test.YtihaajnknnapmaaGreatDoorProg
import Derived.KernelRfl
set_option linter.all false
set_option linter.unusedVariables false
set_option linter.unusedSimpArgs false
section
open Go Go.Ev
namespace Go.Proofs.YtihaajnknnapmaaGreatDoor
/-- OpsFault of the whole table -/
noncomputable def mOps : Memo := ⟨[.sl ⟨.d0, .d0, .d0, .d1, .d6⟩ 0 56 3], [(3, [[.s 2 15395, iV 700, iV 1], [.s 2 15651, iV 700, iV 1], [.s 3 3947811, iV 700, iV 1], [.s 2 15907,
  iV 700, iV 1], [.s 3 4013603, iV 700, iV 1], [.s 3 4021283, iV 700, iV 1], [.s 1 42, iV 400, iV 3], [.s 2 10794, iV 200, iV 1], [.s 3 4074794, iV 1050, iV 2], [.s 1 43, iV 500, iV
  3], [.s 1 43, iV 200, iV 4], [.s 1 45, iV 500, iV 3], [.s 1 45, iV 200, iV 4], [.s 3 4074797, iV 1200, iV 1], [.s 2 15917, iV 1050, iV 2], [.s 2 11822, iV 450, iV 1], [.s 1 47, iV
  400, iV 3], [.s 2 12079, iV 400, iV 3], [.s 2 23599, iV 500, iV 3], [.s 1 58, iV 600, iV 2], [.s 2 11578, iV 1200, iV 1], [.s 2 11578, iV 1200, iV 5], [.s 1 59, iV 1100, iV 2], [.s
  1 60, iV 700, iV 1], [.s 2 15420, iV 400, iV 3], [.s 1 61, iV 700, iV 1], [.s 3 3026493, iV 700, iV 1], [.s 3 4012605, iV 700, iV 1], [.s 2 15421, iV 700, iV 1], [.s 2 15677, iV
  700, iV 1], [.s 3 4021309, iV 700, iV 1], [.s 1 62, iV 700, iV 1], [.s 2 15678, iV 700, iV 1], [.s 2 15934, iV 400, iV 3], [.s 2 11583, iV 1200, iV 5], [.s 2 15424, iV 700, iV 1],
  [.s 3 3947840, iV 700, iV 1], [.s 2 15936, iV 700, iV 1], [.s 3 4013632, iV 700, iV 1], [.s 1 92, iV 200, iV 4], [.s 2 11100, iV 900, iV 4], [.s 2 12124, iV 500, iV 3], [.s 2
  15708, iV 700, iV 1], [.s 3 4013404, iV 700, iV 1], [.s 1 94, iV 200, iV 2], [.s 3 7760228, iV 400, iV 3], [.s 7 27981941201336676, iV 1150, iV 5], [.s 2 28265, iV 700, iV 1], [.s
  14 2239892019062521052805406558613097, iV 1150, iV 5], [.s 2 29545, iV 700, iV 1], [.s 14 2057743977047782653436861915358573, iV 1150, iV 5], [.s 3 6582125, iV 400, iV 3], [.s 3
  7169394, iV 400, iV 3], [.s 5 435610083700, iV 1150, iV 5], [.s 3 7499640, iV 500, iV 3], [.s 1 124, iV 1105, iV 2]])], iV 0, []⟩
theorem fOps : memoFact call0 14 10000 28 mOps = true := by kernel_rfl
noncomputable def spA (f : Nat) : Option FOp := bif Nat.beq f 28 then some (memosG 10000 14 [mOps] badF) else sp0 f
noncomputable def callA : CallT := callE Tryz.prog spA 5000 300
end Go.Proofs.YtihaajnknnapmaaGreatDoor
end
section
open Go Go.Ev
namespace Go.Proofs.YtihaajnknnapmaaGreatDoor
/-- the text of divided(), read -/
noncomputable def mRead : Memo := ⟨[.s 28 4857595891048504222731728941066205356595317398843711739943908878448, .sl ⟨.d0, .d0, .d0, .d1, .d6⟩ 0 56 3], [(3, [[.s 2 15395, iV 700, iV
  1], [.s 2 15651, iV 700, iV 1], [.s 3 3947811, iV 700, iV 1], [.s 2 15907, iV 700, iV 1], [.s 3 4013603, iV 700, iV 1], [.s 3 4021283, iV 700, iV 1], [.s 1 42, iV 400, iV 3], [.s 2
  10794, iV 200, iV 1], [.s 3 4074794, iV 1050, iV 2], [.s 1 43, iV 500, iV 3], [.s 1 43, iV 200, iV 4], [.s 1 45, iV 500, iV 3], [.s 1 45, iV 200, iV 4], [.s 3 4074797, iV 1200, iV
  1], [.s 2 15917, iV 1050, iV 2], [.s 2 11822, iV 450, iV 1], [.s 1 47, iV 400, iV 3], [.s 2 12079, iV 400, iV 3], [.s 2 23599, iV 500, iV 3], [.s 1 58, iV 600, iV 2], [.s 2 11578,
  iV 1200, iV 1], [.s 2 11578, iV 1200, iV 5], [.s 1 59, iV 1100, iV 2], [.s 1 60, iV 700, iV 1], [.s 2 15420, iV 400, iV 3], [.s 1 61, iV 700, iV 1], [.s 3 3026493, iV 700, iV 1],
  [.s 3 4012605, iV 700, iV 1], [.s 2 15421, iV 700, iV 1], [.s 2 15677, iV 700, iV 1], [.s 3 4021309, iV 700, iV 1], [.s 1 62, iV 700, iV 1], [.s 2 15678, iV 700, iV 1], [.s 2
  15934, iV 400, iV 3], [.s 2 11583, iV 1200, iV 5], [.s 2 15424, iV 700, iV 1], [.s 3 3947840, iV 700, iV 1], [.s 2 15936, iV 700, iV 1], [.s 3 4013632, iV 700, iV 1], [.s 1 92, iV
  200, iV 4], [.s 2 11100, iV 900, iV 4], [.s 2 12124, iV 500, iV 3], [.s 2 15708, iV 700, iV 1], [.s 3 4013404, iV 700, iV 1], [.s 1 94, iV 200, iV 2], [.s 3 7760228, iV 400, iV 3],
  [.s 7 27981941201336676, iV 1150, iV 5], [.s 2 28265, iV 700, iV 1], [.s 14 2239892019062521052805406558613097, iV 1150, iV 5], [.s 2 29545, iV 700, iV 1], [.s 14
  2057743977047782653436861915358573, iV 1150, iV 5], [.s 3 6582125, iV 400, iV 3], [.s 3 7169394, iV 400, iV 3], [.s 5 435610083700, iV 1150, iV 5], [.s 3 7499640, iV 500, iV 3],
  [.s 1 124, iV 1105, iV 2]])], .tup [.sl ⟨.d0, .d0, .d0, .d1, .d7⟩ 0 3 8, .sl ⟨.d0, .d0, .d0, .d3, .d2⟩ 0 3 1, .sl ⟨.d0, .d0, .d0, .d1, .d6⟩ 0 56 3, iV 28, iV 0], [(8, 52, [[iV 5,
  iV 0, .s 1 112, .b false, .sn, .sn, .sl ⟨.d0, .d0, .d0, .d2, .d0⟩ 0 1 7, .sn], [iV 5, iV 0, .s 1 112, .b false, .sn, .sn, .sl ⟨.d0, .d0, .d0, .d2, .d3⟩ 0 1 7, .sn], [iV 5, iV 0, .s
  2 11578, .b false, .sn, .sn, .sl ⟨.d0, .d0, .d0, .d2, .d6⟩ 0 2 7, .sl ⟨.d0, .d0, .d0, .d3, .d1⟩ 0 1 1]]), (7, 36, [[iV 2, iV 0, .s 0 0, .b false, .sl ⟨.d0, .d0, .d0, .d2, .d1⟩ 0 1
  1, .sl ⟨.d0, .d0, .d0, .d2, .d2⟩ 0 1 1, .sn]]), (1, 61, [[.i .u32 (.ofNat 1)]]), (1, 61, [[.i .u32 (.ofNat 1)]]), (7, 36, [[iV 2, iV 0, .s 0 0, .b false, .sl ⟨.d0, .d0, .d0, .d2,
  .d4⟩ 0 1 1, .sl ⟨.d0, .d0, .d0, .d2, .d5⟩ 0 1 1, .sn]]), (1, 61, [[.i .u32 (.ofNat 2)]]), (1, 61, [[.i .u32 (.ofNat 1)]]), (7, 36, [[iV 5, iV 0, .s 1 113, .b false, .sn, .sn, .sl
  ⟨.d0, .d0, .d0, .d2, .d7⟩ 0 1 7], [iV 5, iV 0, .s 1 112, .b false, .sn, .sn, .sl ⟨.d0, .d0, .d0, .d3, .d0⟩ 0 1 7]]), (7, 36, [[iV 1, iV 0, .s 0 0, .b false, .sn, .sn, .sn]]), (7,
  36, [[iV 1, iV 0, .s 0 0, .b false, .sn, .sn, .sn]]), (1, 9, [[.s 1 88]]), (1, 3, [[iV 0], [iV 7], [iV 14]])]⟩
theorem fRead : memoFact callA 14 10000 21 mRead = true := by kernel_rfl
end Go.Proofs.YtihaajnknnapmaaGreatDoor
end
