/-
  A part of the proof of the card of WorkbenchClausesInOrder (second form): lemmas that the text Card uses. No condition of its own.
-/
import Derived.Test.YtihaajnknnapmaaGreatDoorEv10
import Derived.Test.YtihaajnknnapmaaGreatDoorEv09
import Derived.Test.YtihaajnknnapmaaGreatDoorMemoA
import Derived.Test.YtihaajnknnapmaaGreatDoorMemoB
import Derived.Test.YtihaajnknnapmaaGreatDoorMemoC
import Derived.Test.YtihaajnknnapmaaGreatDoorMemoD
import Derived.Test.YtihaajnknnapmaaGreatDoorMemoE
import Derived.Test.YtihaajnknnapmaaGreatDoorMemoF
import Derived.Test.YtihaajnknnapmaaGreatDoorMemoG
import Derived.Test.YtihaajnknnapmaaGreatDoorMemoH
import Derived.Test.YtihaajnknnapmaaGreatDoorProg
import Derived.KernelRfl
set_option linter.all false
set_option linter.unusedVariables false
set_option linter.unusedSimpArgs false
section
open Go Go.Ev
namespace Go.Proofs.YtihaajnknnapmaaGreatDoor
noncomputable def mUs : List Memo := [mU0, mU1, mU2, mU3, mU4, mU5, mU6, mU7, mU8, mU9, mU10, mU11, mU12, mU13, mU14, mU15, mU16, mU17, mU18, mU19, mU20, mU21, mU22, mU23, mU24, mU25, mU26, mU27, mU28, mU29, mU30, mU31, mU32, mU33, mU34, mU35, mU36, mU37, mU38, mU39, mU40, mU41, mU42, mU43, mU44, mU45, mU46, mU47, mU48, mU49, mU50, mU51, mU52, mU53, mU54, mU55]
noncomputable def sp1 (f : Nat) : Option FOp := bif Nat.beq f 47 then some (memosG 10000 14 mUs badF) else sp0 f
noncomputable def call1 : CallT := callE Tryz.prog sp1 5000 300
end Go.Proofs.YtihaajnknnapmaaGreatDoor
end
section
open Go Go.Ev
namespace Go.Proofs.YtihaajnknnapmaaGreatDoor
/-- the reference's table of operators -/
noncomputable def mDef : Memo := ⟨[], [], .sl ⟨.d0, .d0, .d0, .d1, .d6⟩ 0 56 3, [(3, 131, [[.s 2 15395, iV 700, iV 1], [.s 2 15651, iV 700, iV 1], [.s 3 3947811, iV 700, iV 1], [.s
  2 15907, iV 700, iV 1], [.s 3 4013603, iV 700, iV 1], [.s 3 4021283, iV 700, iV 1], [.s 1 42, iV 400, iV 3], [.s 2 10794, iV 200, iV 1], [.s 3 4074794, iV 1050, iV 2], [.s 1 43, iV
  500, iV 3], [.s 1 43, iV 200, iV 4], [.s 1 45, iV 500, iV 3], [.s 1 45, iV 200, iV 4], [.s 3 4074797, iV 1200, iV 1], [.s 2 15917, iV 1050, iV 2], [.s 2 11822, iV 450, iV 1], [.s 1
  47, iV 400, iV 3], [.s 2 12079, iV 400, iV 3], [.s 2 23599, iV 500, iV 3], [.s 1 58, iV 600, iV 2], [.s 2 11578, iV 1200, iV 1], [.s 2 11578, iV 1200, iV 5], [.s 1 59, iV 1100, iV
  2], [.s 1 60, iV 700, iV 1], [.s 2 15420, iV 400, iV 3], [.s 1 61, iV 700, iV 1], [.s 3 3026493, iV 700, iV 1], [.s 3 4012605, iV 700, iV 1], [.s 2 15421, iV 700, iV 1], [.s 2
  15677, iV 700, iV 1], [.s 3 4021309, iV 700, iV 1], [.s 1 62, iV 700, iV 1], [.s 2 15678, iV 700, iV 1], [.s 2 15934, iV 400, iV 3], [.s 2 11583, iV 1200, iV 5], [.s 2 15424, iV
  700, iV 1], [.s 3 3947840, iV 700, iV 1], [.s 2 15936, iV 700, iV 1], [.s 3 4013632, iV 700, iV 1], [.s 1 92, iV 200, iV 4], [.s 2 11100, iV 900, iV 4], [.s 2 12124, iV 500, iV 3],
  [.s 2 15708, iV 700, iV 1], [.s 3 4013404, iV 700, iV 1], [.s 1 94, iV 200, iV 2], [.s 3 7760228, iV 400, iV 3], [.s 7 27981941201336676, iV 1150, iV 5], [.s 2 28265, iV 700, iV
  1], [.s 14 2239892019062521052805406558613097, iV 1150, iV 5], [.s 2 29545, iV 700, iV 1], [.s 14 2057743977047782653436861915358573, iV 1150, iV 5], [.s 3 6582125, iV 400, iV 3],
  [.s 3 7169394, iV 400, iV 3], [.s 5 435610083700, iV 1150, iV 5], [.s 3 7499640, iV 500, iV 3], [.s 1 124, iV 1105, iV 2]])]⟩
theorem fDef : memoFact call1 14 10000 22 mDef = true := by kernel_rfl
end Go.Proofs.YtihaajnknnapmaaGreatDoor
end
