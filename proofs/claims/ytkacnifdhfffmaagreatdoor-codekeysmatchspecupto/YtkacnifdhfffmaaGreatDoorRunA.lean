/-
  A part of the proof of the card of CodeKeysMatchSpec (second form): lemmas that the text Card uses. No condition of its own.
-/
import Derived.Test.YtkacnifdhfffmaaGreatDoorEv10
import Derived.Test.YtkacnifdhfffmaaGreatDoorEv09
import Derived.Test.YtkacnifdhfffmaaGreatDoorMemoA
import Derived.Test.YtkacnifdhfffmaaGreatDoorMemoB
import Derived.Test.YtkacnifdhfffmaaGreatDoorMemoC
import Derived.Test.YtkacnifdhfffmaaGreatDoorMemoD
import Derived.Test.YtkacnifdhfffmaaGreatDoorMemoE
import Derived.Test.YtkacnifdhfffmaaGreatDoorMemoF
import Derived.Test.YtkacnifdhfffmaaGreatDoorMemoG
import Derived.Test.YtkacnifdhfffmaaGreatDoorMemoH
import Derived.Test.YtkacnifdhfffmaaGreatDoorProg
import Derived.KernelRfl
set_option linter.all false
set_option linter.unusedVariables false
set_option linter.unusedSimpArgs false
section
open Go Go.Ev
namespace Go.Proofs.YtkacnifdhfffmaaGreatDoor
noncomputable def mUs : List Memo := [mU0, mU1, mU2, mU3, mU4, mU5, mU6, mU7, mU8, mU9, mU10, mU11, mU12, mU13, mU14, mU15, mU16, mU17, mU18, mU19, mU20, mU21, mU22, mU23, mU24, mU25, mU26, mU27, mU28, mU29, mU30, mU31, mU32, mU33, mU34, mU35, mU36, mU37, mU38, mU39, mU40, mU41, mU42, mU43, mU44, mU45, mU46, mU47, mU48, mU49, mU50, mU51, mU52, mU53, mU54, mU55]
end Go.Proofs.YtkacnifdhfffmaaGreatDoor
end
section
open Go Go.Ev
namespace Go.Proofs.YtkacnifdhfffmaaGreatDoor
/-- memos, where at least base ids have been given -/
noncomputable def memosG (fuel base : Nat) (l : List Memo) (alt : FOp) : FOp := ⟨fun call args h => bif Nat.ble base h.next.toNat then (memosF fuel base l alt).run call args h else alt.run call args h⟩
noncomputable def sp1 (f : Nat) : Option FOp := bif Nat.beq f 48 then some (memosG 10000 14 mUs badF) else sp0 f
noncomputable def call1 : CallT := callE Tryz.prog sp1 5000 300
/-- the reference's table of operators -/
noncomputable def mDef : Memo := ⟨[], [], .sl ⟨.d0, .d0, .d0, .d1, .d6⟩ 0 56 3, [(3, 138, [[.s 2 15395, .i .i64 (.ofNat 700), .i .i64 (.ofNat 1)], [.s 2 15651, .i .i64 (.ofNat
  700), .i .i64 (.ofNat 1)], [.s 3 3947811, .i .i64 (.ofNat 700), .i .i64 (.ofNat 1)], [.s 2 15907, .i .i64 (.ofNat 700), .i .i64 (.ofNat 1)], [.s 3 4013603, .i .i64 (.ofNat 700), .i
  .i64 (.ofNat 1)], [.s 3 4021283, .i .i64 (.ofNat 700), .i .i64 (.ofNat 1)], [.s 1 42, .i .i64 (.ofNat 400), .i .i64 (.ofNat 3)], [.s 2 10794, .i .i64 (.ofNat 200), .i .i64 (.ofNat
  1)], [.s 3 4074794, .i .i64 (.ofNat 1050), .i .i64 (.ofNat 2)], [.s 1 43, .i .i64 (.ofNat 500), .i .i64 (.ofNat 3)], [.s 1 43, .i .i64 (.ofNat 200), .i .i64 (.ofNat 4)], [.s 1 45,
  .i .i64 (.ofNat 500), .i .i64 (.ofNat 3)], [.s 1 45, .i .i64 (.ofNat 200), .i .i64 (.ofNat 4)], [.s 3 4074797, .i .i64 (.ofNat 1200), .i .i64 (.ofNat 1)], [.s 2 15917, .i .i64
  (.ofNat 1050), .i .i64 (.ofNat 2)], [.s 2 11822, .i .i64 (.ofNat 450), .i .i64 (.ofNat 1)], [.s 1 47, .i .i64 (.ofNat 400), .i .i64 (.ofNat 3)], [.s 2 12079, .i .i64 (.ofNat 400),
  .i .i64 (.ofNat 3)], [.s 2 23599, .i .i64 (.ofNat 500), .i .i64 (.ofNat 3)], [.s 1 58, .i .i64 (.ofNat 600), .i .i64 (.ofNat 2)], [.s 2 11578, .i .i64 (.ofNat 1200), .i .i64
  (.ofNat 1)], [.s 2 11578, .i .i64 (.ofNat 1200), .i .i64 (.ofNat 5)], [.s 1 59, .i .i64 (.ofNat 1100), .i .i64 (.ofNat 2)], [.s 1 60, .i .i64 (.ofNat 700), .i .i64 (.ofNat 1)], [.s
  2 15420, .i .i64 (.ofNat 400), .i .i64 (.ofNat 3)], [.s 1 61, .i .i64 (.ofNat 700), .i .i64 (.ofNat 1)], [.s 3 3026493, .i .i64 (.ofNat 700), .i .i64 (.ofNat 1)], [.s 3 4012605, .i
  .i64 (.ofNat 700), .i .i64 (.ofNat 1)], [.s 2 15421, .i .i64 (.ofNat 700), .i .i64 (.ofNat 1)], [.s 2 15677, .i .i64 (.ofNat 700), .i .i64 (.ofNat 1)], [.s 3 4021309, .i .i64
  (.ofNat 700), .i .i64 (.ofNat 1)], [.s 1 62, .i .i64 (.ofNat 700), .i .i64 (.ofNat 1)], [.s 2 15678, .i .i64 (.ofNat 700), .i .i64 (.ofNat 1)], [.s 2 15934, .i .i64 (.ofNat 400),
  .i .i64 (.ofNat 3)], [.s 2 11583, .i .i64 (.ofNat 1200), .i .i64 (.ofNat 5)], [.s 2 15424, .i .i64 (.ofNat 700), .i .i64 (.ofNat 1)], [.s 3 3947840, .i .i64 (.ofNat 700), .i .i64
  (.ofNat 1)], [.s 2 15936, .i .i64 (.ofNat 700), .i .i64 (.ofNat 1)], [.s 3 4013632, .i .i64 (.ofNat 700), .i .i64 (.ofNat 1)], [.s 1 92, .i .i64 (.ofNat 200), .i .i64 (.ofNat 4)],
  [.s 2 11100, .i .i64 (.ofNat 900), .i .i64 (.ofNat 4)], [.s 2 12124, .i .i64 (.ofNat 500), .i .i64 (.ofNat 3)], [.s 2 15708, .i .i64 (.ofNat 700), .i .i64 (.ofNat 1)], [.s 3
  4013404, .i .i64 (.ofNat 700), .i .i64 (.ofNat 1)], [.s 1 94, .i .i64 (.ofNat 200), .i .i64 (.ofNat 2)], [.s 3 7760228, .i .i64 (.ofNat 400), .i .i64 (.ofNat 3)], [.s 7
  27981941201336676, .i .i64 (.ofNat 1150), .i .i64 (.ofNat 5)], [.s 2 28265, .i .i64 (.ofNat 700), .i .i64 (.ofNat 1)], [.s 14 2239892019062521052805406558613097, .i .i64 (.ofNat
  1150), .i .i64 (.ofNat 5)], [.s 2 29545, .i .i64 (.ofNat 700), .i .i64 (.ofNat 1)], [.s 14 2057743977047782653436861915358573, .i .i64 (.ofNat 1150), .i .i64 (.ofNat 5)], [.s 3
  6582125, .i .i64 (.ofNat 400), .i .i64 (.ofNat 3)], [.s 3 7169394, .i .i64 (.ofNat 400), .i .i64 (.ofNat 3)], [.s 5 435610083700, .i .i64 (.ofNat 1150), .i .i64 (.ofNat 5)], [.s 3
  7499640, .i .i64 (.ofNat 500), .i .i64 (.ofNat 3)], [.s 1 124, .i .i64 (.ofNat 1105), .i .i64 (.ofNat 2)]])]⟩
theorem fDef : memoFact call1 14 10000 24 mDef = true := by kernel_rfl
end Go.Proofs.YtkacnifdhfffmaaGreatDoor
end
