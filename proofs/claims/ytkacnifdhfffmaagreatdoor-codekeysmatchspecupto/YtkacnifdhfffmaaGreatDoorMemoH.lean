/-
  A part of the proof of the card of CodeKeysMatchSpec (second form): lemmas that the text Card uses. No condition of its own.
-/
import Derived.Test.YtkacnifdhfffmaaGreatDoorEv10
import Derived.Test.YtkacnifdhfffmaaGreatDoorEv09
import Derived.Test.YtkacnifdhfffmaaGreatDoorMemoA
import Derived.Test.YtkacnifdhfffmaaGreatDoorProg
import Derived.KernelRfl
set_option linter.all false
set_option linter.unusedVariables false
set_option linter.unusedSimpArgs false
section
open Go Go.Ev
namespace Go.Proofs.YtkacnifdhfffmaaGreatDoor
noncomputable def mU5 : Memo := ⟨[.sl ⟨.d0, .d0, .d0, .d1, .d6⟩ 0 5 3, .agg [.s 5 435610083700, .i .i64 (.ofNat 1150), .i .i64 (.ofNat 5)]], [(3, [[.s 3 4074797, .i .i64 (.ofNat
  1200), .i .i64 (.ofNat 1)], [.s 2 11578, .i .i64 (.ofNat 1200), .i .i64 (.ofNat 1)], [.s 2 11578, .i .i64 (.ofNat 1200), .i .i64 (.ofNat 5)], [.s 2 11583, .i .i64 (.ofNat 1200), .i
  .i64 (.ofNat 5)], [.s 7 27981941201336676, .i .i64 (.ofNat 1150), .i .i64 (.ofNat 5)]])], .tup [.sl ⟨.d0, .d0, .d0, .d1, .d7⟩ 0 6 3, .i .i64 (.ofNat 0)], [(3, 138, [[.s 3 4074797,
  .i .i64 (.ofNat 1200), .i .i64 (.ofNat 1)], [.s 2 11578, .i .i64 (.ofNat 1200), .i .i64 (.ofNat 1)], [.s 2 11578, .i .i64 (.ofNat 1200), .i .i64 (.ofNat 5)], [.s 2 11583, .i .i64
  (.ofNat 1200), .i .i64 (.ofNat 5)], [.s 7 27981941201336676, .i .i64 (.ofNat 1150), .i .i64 (.ofNat 5)], [.s 5 435610083700, .i .i64 (.ofNat 1150), .i .i64 (.ofNat 5)]])]⟩
noncomputable def mU12 : Memo := ⟨[.sl ⟨.d0, .d0, .d0, .d1, .d6⟩ 0 12 3, .agg [.s 2 11100, .i .i64 (.ofNat 900), .i .i64 (.ofNat 4)]], [(3, [[.s 3 4074794, .i .i64 (.ofNat 1050),
  .i .i64 (.ofNat 2)], [.s 3 4074797, .i .i64 (.ofNat 1200), .i .i64 (.ofNat 1)], [.s 2 15917, .i .i64 (.ofNat 1050), .i .i64 (.ofNat 2)], [.s 2 11578, .i .i64 (.ofNat 1200), .i .i64
  (.ofNat 1)], [.s 2 11578, .i .i64 (.ofNat 1200), .i .i64 (.ofNat 5)], [.s 1 59, .i .i64 (.ofNat 1100), .i .i64 (.ofNat 2)], [.s 2 11583, .i .i64 (.ofNat 1200), .i .i64 (.ofNat 5)],
  [.s 7 27981941201336676, .i .i64 (.ofNat 1150), .i .i64 (.ofNat 5)], [.s 14 2239892019062521052805406558613097, .i .i64 (.ofNat 1150), .i .i64 (.ofNat 5)], [.s 14
  2057743977047782653436861915358573, .i .i64 (.ofNat 1150), .i .i64 (.ofNat 5)], [.s 5 435610083700, .i .i64 (.ofNat 1150), .i .i64 (.ofNat 5)], [.s 1 124, .i .i64 (.ofNat 1105), .i
  .i64 (.ofNat 2)]])], .tup [.sl ⟨.d0, .d0, .d0, .d1, .d7⟩ 0 13 3, .i .i64 (.ofNat 0)], [(3, 138, [[.s 3 4074794, .i .i64 (.ofNat 1050), .i .i64 (.ofNat 2)], [.s 3 4074797, .i .i64
  (.ofNat 1200), .i .i64 (.ofNat 1)], [.s 2 15917, .i .i64 (.ofNat 1050), .i .i64 (.ofNat 2)], [.s 2 11578, .i .i64 (.ofNat 1200), .i .i64 (.ofNat 1)], [.s 2 11578, .i .i64 (.ofNat
  1200), .i .i64 (.ofNat 5)], [.s 1 59, .i .i64 (.ofNat 1100), .i .i64 (.ofNat 2)], [.s 2 11583, .i .i64 (.ofNat 1200), .i .i64 (.ofNat 5)], [.s 2 11100, .i .i64 (.ofNat 900), .i
  .i64 (.ofNat 4)], [.s 7 27981941201336676, .i .i64 (.ofNat 1150), .i .i64 (.ofNat 5)], [.s 14 2239892019062521052805406558613097, .i .i64 (.ofNat 1150), .i .i64 (.ofNat 5)], [.s 14
  2057743977047782653436861915358573, .i .i64 (.ofNat 1150), .i .i64 (.ofNat 5)], [.s 5 435610083700, .i .i64 (.ofNat 1150), .i .i64 (.ofNat 5)], [.s 1 124, .i .i64 (.ofNat 1105), .i
  .i64 (.ofNat 2)]])]⟩
noncomputable def mU19 : Memo := ⟨[.sl ⟨.d0, .d0, .d0, .d1, .d6⟩ 0 19 3, .agg [.s 3 3947840, .i .i64 (.ofNat 700), .i .i64 (.ofNat 1)]], [(3, [[.s 3 4074794, .i .i64 (.ofNat 1050),
  .i .i64 (.ofNat 2)], [.s 3 4074797, .i .i64 (.ofNat 1200), .i .i64 (.ofNat 1)], [.s 2 15917, .i .i64 (.ofNat 1050), .i .i64 (.ofNat 2)], [.s 2 11578, .i .i64 (.ofNat 1200), .i .i64
  (.ofNat 1)], [.s 2 11578, .i .i64 (.ofNat 1200), .i .i64 (.ofNat 5)], [.s 1 59, .i .i64 (.ofNat 1100), .i .i64 (.ofNat 2)], [.s 1 61, .i .i64 (.ofNat 700), .i .i64 (.ofNat 1)], [.s
  2 15677, .i .i64 (.ofNat 700), .i .i64 (.ofNat 1)], [.s 2 11583, .i .i64 (.ofNat 1200), .i .i64 (.ofNat 5)], [.s 2 15424, .i .i64 (.ofNat 700), .i .i64 (.ofNat 1)], [.s 2 15936, .i
  .i64 (.ofNat 700), .i .i64 (.ofNat 1)], [.s 2 11100, .i .i64 (.ofNat 900), .i .i64 (.ofNat 4)], [.s 2 15708, .i .i64 (.ofNat 700), .i .i64 (.ofNat 1)], [.s 3 4013404, .i .i64
  (.ofNat 700), .i .i64 (.ofNat 1)], [.s 7 27981941201336676, .i .i64 (.ofNat 1150), .i .i64 (.ofNat 5)], [.s 14 2239892019062521052805406558613097, .i .i64 (.ofNat 1150), .i .i64
  (.ofNat 5)], [.s 14 2057743977047782653436861915358573, .i .i64 (.ofNat 1150), .i .i64 (.ofNat 5)], [.s 5 435610083700, .i .i64 (.ofNat 1150), .i .i64 (.ofNat 5)], [.s 1 124, .i
  .i64 (.ofNat 1105), .i .i64 (.ofNat 2)]])], .tup [.sl ⟨.d0, .d0, .d0, .d1, .d7⟩ 0 20 3, .i .i64 (.ofNat 0)], [(3, 138, [[.s 3 4074794, .i .i64 (.ofNat 1050), .i .i64 (.ofNat 2)],
  [.s 3 4074797, .i .i64 (.ofNat 1200), .i .i64 (.ofNat 1)], [.s 2 15917, .i .i64 (.ofNat 1050), .i .i64 (.ofNat 2)], [.s 2 11578, .i .i64 (.ofNat 1200), .i .i64 (.ofNat 1)], [.s 2
  11578, .i .i64 (.ofNat 1200), .i .i64 (.ofNat 5)], [.s 1 59, .i .i64 (.ofNat 1100), .i .i64 (.ofNat 2)], [.s 1 61, .i .i64 (.ofNat 700), .i .i64 (.ofNat 1)], [.s 2 15677, .i .i64
  (.ofNat 700), .i .i64 (.ofNat 1)], [.s 2 11583, .i .i64 (.ofNat 1200), .i .i64 (.ofNat 5)], [.s 2 15424, .i .i64 (.ofNat 700), .i .i64 (.ofNat 1)], [.s 3 3947840, .i .i64 (.ofNat
  700), .i .i64 (.ofNat 1)], [.s 2 15936, .i .i64 (.ofNat 700), .i .i64 (.ofNat 1)], [.s 2 11100, .i .i64 (.ofNat 900), .i .i64 (.ofNat 4)], [.s 2 15708, .i .i64 (.ofNat 700), .i
  .i64 (.ofNat 1)], [.s 3 4013404, .i .i64 (.ofNat 700), .i .i64 (.ofNat 1)], [.s 7 27981941201336676, .i .i64 (.ofNat 1150), .i .i64 (.ofNat 5)], [.s 14
  2239892019062521052805406558613097, .i .i64 (.ofNat 1150), .i .i64 (.ofNat 5)], [.s 14 2057743977047782653436861915358573, .i .i64 (.ofNat 1150), .i .i64 (.ofNat 5)], [.s 5
  435610083700, .i .i64 (.ofNat 1150), .i .i64 (.ofNat 5)], [.s 1 124, .i .i64 (.ofNat 1105), .i .i64 (.ofNat 2)]])]⟩
noncomputable def mU30 : Memo := ⟨[.sl ⟨.d0, .d0, .d0, .d1, .d6⟩ 0 30 3, .agg [.s 3 4021283, .i .i64 (.ofNat 700), .i .i64 (.ofNat 1)]], [(3, [[.s 2 15651, .i .i64 (.ofNat 700), .i
  .i64 (.ofNat 1)], [.s 3 4074794, .i .i64 (.ofNat 1050), .i .i64 (.ofNat 2)], [.s 3 4074797, .i .i64 (.ofNat 1200), .i .i64 (.ofNat 1)], [.s 2 15917, .i .i64 (.ofNat 1050), .i .i64
  (.ofNat 2)], [.s 2 11578, .i .i64 (.ofNat 1200), .i .i64 (.ofNat 1)], [.s 2 11578, .i .i64 (.ofNat 1200), .i .i64 (.ofNat 5)], [.s 1 59, .i .i64 (.ofNat 1100), .i .i64 (.ofNat 2)],
  [.s 1 60, .i .i64 (.ofNat 700), .i .i64 (.ofNat 1)], [.s 1 61, .i .i64 (.ofNat 700), .i .i64 (.ofNat 1)], [.s 3 3026493, .i .i64 (.ofNat 700), .i .i64 (.ofNat 1)], [.s 3 4012605,
  .i .i64 (.ofNat 700), .i .i64 (.ofNat 1)], [.s 2 15421, .i .i64 (.ofNat 700), .i .i64 (.ofNat 1)], [.s 2 15677, .i .i64 (.ofNat 700), .i .i64 (.ofNat 1)], [.s 3 4021309, .i .i64
  (.ofNat 700), .i .i64 (.ofNat 1)], [.s 1 62, .i .i64 (.ofNat 700), .i .i64 (.ofNat 1)], [.s 2 15678, .i .i64 (.ofNat 700), .i .i64 (.ofNat 1)], [.s 2 11583, .i .i64 (.ofNat 1200),
  .i .i64 (.ofNat 5)], [.s 2 15424, .i .i64 (.ofNat 700), .i .i64 (.ofNat 1)], [.s 3 3947840, .i .i64 (.ofNat 700), .i .i64 (.ofNat 1)], [.s 2 15936, .i .i64 (.ofNat 700), .i .i64
  (.ofNat 1)], [.s 3 4013632, .i .i64 (.ofNat 700), .i .i64 (.ofNat 1)], [.s 2 11100, .i .i64 (.ofNat 900), .i .i64 (.ofNat 4)], [.s 2 15708, .i .i64 (.ofNat 700), .i .i64 (.ofNat
  1)], [.s 3 4013404, .i .i64 (.ofNat 700), .i .i64 (.ofNat 1)], [.s 7 27981941201336676, .i .i64 (.ofNat 1150), .i .i64 (.ofNat 5)], [.s 14 2239892019062521052805406558613097, .i
  .i64 (.ofNat 1150), .i .i64 (.ofNat 5)], [.s 2 29545, .i .i64 (.ofNat 700), .i .i64 (.ofNat 1)], [.s 14 2057743977047782653436861915358573, .i .i64 (.ofNat 1150), .i .i64 (.ofNat
  5)], [.s 5 435610083700, .i .i64 (.ofNat 1150), .i .i64 (.ofNat 5)], [.s 1 124, .i .i64 (.ofNat 1105), .i .i64 (.ofNat 2)]])], .tup [.sl ⟨.d0, .d0, .d0, .d1, .d7⟩ 0 31 3, .i .i64
  (.ofNat 0)], [(3, 138, [[.s 2 15651, .i .i64 (.ofNat 700), .i .i64 (.ofNat 1)], [.s 3 4021283, .i .i64 (.ofNat 700), .i .i64 (.ofNat 1)], [.s 3 4074794, .i .i64 (.ofNat 1050), .i
  .i64 (.ofNat 2)], [.s 3 4074797, .i .i64 (.ofNat 1200), .i .i64 (.ofNat 1)], [.s 2 15917, .i .i64 (.ofNat 1050), .i .i64 (.ofNat 2)], [.s 2 11578, .i .i64 (.ofNat 1200), .i .i64
  (.ofNat 1)], [.s 2 11578, .i .i64 (.ofNat 1200), .i .i64 (.ofNat 5)], [.s 1 59, .i .i64 (.ofNat 1100), .i .i64 (.ofNat 2)], [.s 1 60, .i .i64 (.ofNat 700), .i .i64 (.ofNat 1)], [.s
  1 61, .i .i64 (.ofNat 700), .i .i64 (.ofNat 1)], [.s 3 3026493, .i .i64 (.ofNat 700), .i .i64 (.ofNat 1)], [.s 3 4012605, .i .i64 (.ofNat 700), .i .i64 (.ofNat 1)], [.s 2 15421, .i
  .i64 (.ofNat 700), .i .i64 (.ofNat 1)], [.s 2 15677, .i .i64 (.ofNat 700), .i .i64 (.ofNat 1)], [.s 3 4021309, .i .i64 (.ofNat 700), .i .i64 (.ofNat 1)], [.s 1 62, .i .i64 (.ofNat
  700), .i .i64 (.ofNat 1)], [.s 2 15678, .i .i64 (.ofNat 700), .i .i64 (.ofNat 1)], [.s 2 11583, .i .i64 (.ofNat 1200), .i .i64 (.ofNat 5)], [.s 2 15424, .i .i64 (.ofNat 700), .i
  .i64 (.ofNat 1)], [.s 3 3947840, .i .i64 (.ofNat 700), .i .i64 (.ofNat 1)], [.s 2 15936, .i .i64 (.ofNat 700), .i .i64 (.ofNat 1)], [.s 3 4013632, .i .i64 (.ofNat 700), .i .i64
  (.ofNat 1)], [.s 2 11100, .i .i64 (.ofNat 900), .i .i64 (.ofNat 4)], [.s 2 15708, .i .i64 (.ofNat 700), .i .i64 (.ofNat 1)], [.s 3 4013404, .i .i64 (.ofNat 700), .i .i64 (.ofNat
  1)], [.s 7 27981941201336676, .i .i64 (.ofNat 1150), .i .i64 (.ofNat 5)], [.s 14 2239892019062521052805406558613097, .i .i64 (.ofNat 1150), .i .i64 (.ofNat 5)], [.s 2 29545, .i
  .i64 (.ofNat 700), .i .i64 (.ofNat 1)], [.s 14 2057743977047782653436861915358573, .i .i64 (.ofNat 1150), .i .i64 (.ofNat 5)], [.s 5 435610083700, .i .i64 (.ofNat 1150), .i .i64
  (.ofNat 5)], [.s 1 124, .i .i64 (.ofNat 1105), .i .i64 (.ofNat 2)]])]⟩
noncomputable def mU33 : Memo := ⟨[.sl ⟨.d0, .d0, .d0, .d1, .d6⟩ 0 33 3, .agg [.s 3 3947811, .i .i64 (.ofNat 700), .i .i64 (.ofNat 1)]], [(3, [[.s 2 15395, .i .i64 (.ofNat 700), .i
  .i64 (.ofNat 1)], [.s 2 15651, .i .i64 (.ofNat 700), .i .i64 (.ofNat 1)], [.s 2 15907, .i .i64 (.ofNat 700), .i .i64 (.ofNat 1)], [.s 3 4021283, .i .i64 (.ofNat 700), .i .i64
  (.ofNat 1)], [.s 3 4074794, .i .i64 (.ofNat 1050), .i .i64 (.ofNat 2)], [.s 3 4074797, .i .i64 (.ofNat 1200), .i .i64 (.ofNat 1)], [.s 2 15917, .i .i64 (.ofNat 1050), .i .i64
  (.ofNat 2)], [.s 2 11578, .i .i64 (.ofNat 1200), .i .i64 (.ofNat 1)], [.s 2 11578, .i .i64 (.ofNat 1200), .i .i64 (.ofNat 5)], [.s 1 59, .i .i64 (.ofNat 1100), .i .i64 (.ofNat 2)],
  [.s 1 60, .i .i64 (.ofNat 700), .i .i64 (.ofNat 1)], [.s 1 61, .i .i64 (.ofNat 700), .i .i64 (.ofNat 1)], [.s 3 3026493, .i .i64 (.ofNat 700), .i .i64 (.ofNat 1)], [.s 3 4012605,
  .i .i64 (.ofNat 700), .i .i64 (.ofNat 1)], [.s 2 15421, .i .i64 (.ofNat 700), .i .i64 (.ofNat 1)], [.s 2 15677, .i .i64 (.ofNat 700), .i .i64 (.ofNat 1)], [.s 3 4021309, .i .i64
  (.ofNat 700), .i .i64 (.ofNat 1)], [.s 1 62, .i .i64 (.ofNat 700), .i .i64 (.ofNat 1)], [.s 2 15678, .i .i64 (.ofNat 700), .i .i64 (.ofNat 1)], [.s 2 11583, .i .i64 (.ofNat 1200),
  .i .i64 (.ofNat 5)], [.s 2 15424, .i .i64 (.ofNat 700), .i .i64 (.ofNat 1)], [.s 3 3947840, .i .i64 (.ofNat 700), .i .i64 (.ofNat 1)], [.s 2 15936, .i .i64 (.ofNat 700), .i .i64
  (.ofNat 1)], [.s 3 4013632, .i .i64 (.ofNat 700), .i .i64 (.ofNat 1)], [.s 2 11100, .i .i64 (.ofNat 900), .i .i64 (.ofNat 4)], [.s 2 15708, .i .i64 (.ofNat 700), .i .i64 (.ofNat
  1)], [.s 3 4013404, .i .i64 (.ofNat 700), .i .i64 (.ofNat 1)], [.s 7 27981941201336676, .i .i64 (.ofNat 1150), .i .i64 (.ofNat 5)], [.s 14 2239892019062521052805406558613097, .i
  .i64 (.ofNat 1150), .i .i64 (.ofNat 5)], [.s 2 29545, .i .i64 (.ofNat 700), .i .i64 (.ofNat 1)], [.s 14 2057743977047782653436861915358573, .i .i64 (.ofNat 1150), .i .i64 (.ofNat
  5)], [.s 5 435610083700, .i .i64 (.ofNat 1150), .i .i64 (.ofNat 5)], [.s 1 124, .i .i64 (.ofNat 1105), .i .i64 (.ofNat 2)]])], .tup [.sl ⟨.d0, .d0, .d0, .d1, .d7⟩ 0 34 3, .i .i64
  (.ofNat 0)], [(3, 138, [[.s 2 15395, .i .i64 (.ofNat 700), .i .i64 (.ofNat 1)], [.s 2 15651, .i .i64 (.ofNat 700), .i .i64 (.ofNat 1)], [.s 3 3947811, .i .i64 (.ofNat 700), .i .i64
  (.ofNat 1)], [.s 2 15907, .i .i64 (.ofNat 700), .i .i64 (.ofNat 1)], [.s 3 4021283, .i .i64 (.ofNat 700), .i .i64 (.ofNat 1)], [.s 3 4074794, .i .i64 (.ofNat 1050), .i .i64 (.ofNat
  2)], [.s 3 4074797, .i .i64 (.ofNat 1200), .i .i64 (.ofNat 1)], [.s 2 15917, .i .i64 (.ofNat 1050), .i .i64 (.ofNat 2)], [.s 2 11578, .i .i64 (.ofNat 1200), .i .i64 (.ofNat 1)],
  [.s 2 11578, .i .i64 (.ofNat 1200), .i .i64 (.ofNat 5)], [.s 1 59, .i .i64 (.ofNat 1100), .i .i64 (.ofNat 2)], [.s 1 60, .i .i64 (.ofNat 700), .i .i64 (.ofNat 1)], [.s 1 61, .i
  .i64 (.ofNat 700), .i .i64 (.ofNat 1)], [.s 3 3026493, .i .i64 (.ofNat 700), .i .i64 (.ofNat 1)], [.s 3 4012605, .i .i64 (.ofNat 700), .i .i64 (.ofNat 1)], [.s 2 15421, .i .i64
  (.ofNat 700), .i .i64 (.ofNat 1)], [.s 2 15677, .i .i64 (.ofNat 700), .i .i64 (.ofNat 1)], [.s 3 4021309, .i .i64 (.ofNat 700), .i .i64 (.ofNat 1)], [.s 1 62, .i .i64 (.ofNat 700),
  .i .i64 (.ofNat 1)], [.s 2 15678, .i .i64 (.ofNat 700), .i .i64 (.ofNat 1)], [.s 2 11583, .i .i64 (.ofNat 1200), .i .i64 (.ofNat 5)], [.s 2 15424, .i .i64 (.ofNat 700), .i .i64
  (.ofNat 1)], [.s 3 3947840, .i .i64 (.ofNat 700), .i .i64 (.ofNat 1)], [.s 2 15936, .i .i64 (.ofNat 700), .i .i64 (.ofNat 1)], [.s 3 4013632, .i .i64 (.ofNat 700), .i .i64 (.ofNat
  1)], [.s 2 11100, .i .i64 (.ofNat 900), .i .i64 (.ofNat 4)], [.s 2 15708, .i .i64 (.ofNat 700), .i .i64 (.ofNat 1)], [.s 3 4013404, .i .i64 (.ofNat 700), .i .i64 (.ofNat 1)], [.s 7
  27981941201336676, .i .i64 (.ofNat 1150), .i .i64 (.ofNat 5)], [.s 14 2239892019062521052805406558613097, .i .i64 (.ofNat 1150), .i .i64 (.ofNat 5)], [.s 2 29545, .i .i64 (.ofNat
  700), .i .i64 (.ofNat 1)], [.s 14 2057743977047782653436861915358573, .i .i64 (.ofNat 1150), .i .i64 (.ofNat 5)], [.s 5 435610083700, .i .i64 (.ofNat 1150), .i .i64 (.ofNat 5)],
  [.s 1 124, .i .i64 (.ofNat 1105), .i .i64 (.ofNat 2)]])]⟩
noncomputable def mU47 : Memo := ⟨[.sl ⟨.d0, .d0, .d0, .d1, .d6⟩ 0 47 3, .agg [.s 3 6582125, .i .i64 (.ofNat 400), .i .i64 (.ofNat 3)]], [(3, [[.s 2 15395, .i .i64 (.ofNat 700), .i
  .i64 (.ofNat 1)], [.s 2 15651, .i .i64 (.ofNat 700), .i .i64 (.ofNat 1)], [.s 3 3947811, .i .i64 (.ofNat 700), .i .i64 (.ofNat 1)], [.s 2 15907, .i .i64 (.ofNat 700), .i .i64
  (.ofNat 1)], [.s 3 4013603, .i .i64 (.ofNat 700), .i .i64 (.ofNat 1)], [.s 3 4021283, .i .i64 (.ofNat 700), .i .i64 (.ofNat 1)], [.s 1 42, .i .i64 (.ofNat 400), .i .i64 (.ofNat
  3)], [.s 3 4074794, .i .i64 (.ofNat 1050), .i .i64 (.ofNat 2)], [.s 1 43, .i .i64 (.ofNat 500), .i .i64 (.ofNat 3)], [.s 1 45, .i .i64 (.ofNat 500), .i .i64 (.ofNat 3)], [.s 3
  4074797, .i .i64 (.ofNat 1200), .i .i64 (.ofNat 1)], [.s 2 15917, .i .i64 (.ofNat 1050), .i .i64 (.ofNat 2)], [.s 2 11822, .i .i64 (.ofNat 450), .i .i64 (.ofNat 1)], [.s 1 47, .i
  .i64 (.ofNat 400), .i .i64 (.ofNat 3)], [.s 2 12079, .i .i64 (.ofNat 400), .i .i64 (.ofNat 3)], [.s 2 23599, .i .i64 (.ofNat 500), .i .i64 (.ofNat 3)], [.s 1 58, .i .i64 (.ofNat
  600), .i .i64 (.ofNat 2)], [.s 2 11578, .i .i64 (.ofNat 1200), .i .i64 (.ofNat 1)], [.s 2 11578, .i .i64 (.ofNat 1200), .i .i64 (.ofNat 5)], [.s 1 59, .i .i64 (.ofNat 1100), .i
  .i64 (.ofNat 2)], [.s 1 60, .i .i64 (.ofNat 700), .i .i64 (.ofNat 1)], [.s 1 61, .i .i64 (.ofNat 700), .i .i64 (.ofNat 1)], [.s 3 3026493, .i .i64 (.ofNat 700), .i .i64 (.ofNat
  1)], [.s 3 4012605, .i .i64 (.ofNat 700), .i .i64 (.ofNat 1)], [.s 2 15421, .i .i64 (.ofNat 700), .i .i64 (.ofNat 1)], [.s 2 15677, .i .i64 (.ofNat 700), .i .i64 (.ofNat 1)], [.s 3
  4021309, .i .i64 (.ofNat 700), .i .i64 (.ofNat 1)], [.s 1 62, .i .i64 (.ofNat 700), .i .i64 (.ofNat 1)], [.s 2 15678, .i .i64 (.ofNat 700), .i .i64 (.ofNat 1)], [.s 2 11583, .i
  .i64 (.ofNat 1200), .i .i64 (.ofNat 5)], [.s 2 15424, .i .i64 (.ofNat 700), .i .i64 (.ofNat 1)], [.s 3 3947840, .i .i64 (.ofNat 700), .i .i64 (.ofNat 1)], [.s 2 15936, .i .i64
  (.ofNat 700), .i .i64 (.ofNat 1)], [.s 3 4013632, .i .i64 (.ofNat 700), .i .i64 (.ofNat 1)], [.s 2 11100, .i .i64 (.ofNat 900), .i .i64 (.ofNat 4)], [.s 2 12124, .i .i64 (.ofNat
  500), .i .i64 (.ofNat 3)], [.s 2 15708, .i .i64 (.ofNat 700), .i .i64 (.ofNat 1)], [.s 3 4013404, .i .i64 (.ofNat 700), .i .i64 (.ofNat 1)], [.s 7 27981941201336676, .i .i64
  (.ofNat 1150), .i .i64 (.ofNat 5)], [.s 2 28265, .i .i64 (.ofNat 700), .i .i64 (.ofNat 1)], [.s 14 2239892019062521052805406558613097, .i .i64 (.ofNat 1150), .i .i64 (.ofNat 5)],
  [.s 2 29545, .i .i64 (.ofNat 700), .i .i64 (.ofNat 1)], [.s 14 2057743977047782653436861915358573, .i .i64 (.ofNat 1150), .i .i64 (.ofNat 5)], [.s 3 7169394, .i .i64 (.ofNat 400),
  .i .i64 (.ofNat 3)], [.s 5 435610083700, .i .i64 (.ofNat 1150), .i .i64 (.ofNat 5)], [.s 3 7499640, .i .i64 (.ofNat 500), .i .i64 (.ofNat 3)], [.s 1 124, .i .i64 (.ofNat 1105), .i
  .i64 (.ofNat 2)]])], .tup [.sl ⟨.d0, .d0, .d0, .d1, .d7⟩ 0 48 3, .i .i64 (.ofNat 0)], [(3, 138, [[.s 2 15395, .i .i64 (.ofNat 700), .i .i64 (.ofNat 1)], [.s 2 15651, .i .i64
  (.ofNat 700), .i .i64 (.ofNat 1)], [.s 3 3947811, .i .i64 (.ofNat 700), .i .i64 (.ofNat 1)], [.s 2 15907, .i .i64 (.ofNat 700), .i .i64 (.ofNat 1)], [.s 3 4013603, .i .i64 (.ofNat
  700), .i .i64 (.ofNat 1)], [.s 3 4021283, .i .i64 (.ofNat 700), .i .i64 (.ofNat 1)], [.s 1 42, .i .i64 (.ofNat 400), .i .i64 (.ofNat 3)], [.s 3 4074794, .i .i64 (.ofNat 1050), .i
  .i64 (.ofNat 2)], [.s 1 43, .i .i64 (.ofNat 500), .i .i64 (.ofNat 3)], [.s 1 45, .i .i64 (.ofNat 500), .i .i64 (.ofNat 3)], [.s 3 4074797, .i .i64 (.ofNat 1200), .i .i64 (.ofNat
  1)], [.s 2 15917, .i .i64 (.ofNat 1050), .i .i64 (.ofNat 2)], [.s 2 11822, .i .i64 (.ofNat 450), .i .i64 (.ofNat 1)], [.s 1 47, .i .i64 (.ofNat 400), .i .i64 (.ofNat 3)], [.s 2
  12079, .i .i64 (.ofNat 400), .i .i64 (.ofNat 3)], [.s 2 23599, .i .i64 (.ofNat 500), .i .i64 (.ofNat 3)], [.s 1 58, .i .i64 (.ofNat 600), .i .i64 (.ofNat 2)], [.s 2 11578, .i .i64
  (.ofNat 1200), .i .i64 (.ofNat 1)], [.s 2 11578, .i .i64 (.ofNat 1200), .i .i64 (.ofNat 5)], [.s 1 59, .i .i64 (.ofNat 1100), .i .i64 (.ofNat 2)], [.s 1 60, .i .i64 (.ofNat 700),
  .i .i64 (.ofNat 1)], [.s 1 61, .i .i64 (.ofNat 700), .i .i64 (.ofNat 1)], [.s 3 3026493, .i .i64 (.ofNat 700), .i .i64 (.ofNat 1)], [.s 3 4012605, .i .i64 (.ofNat 700), .i .i64
  (.ofNat 1)], [.s 2 15421, .i .i64 (.ofNat 700), .i .i64 (.ofNat 1)], [.s 2 15677, .i .i64 (.ofNat 700), .i .i64 (.ofNat 1)], [.s 3 4021309, .i .i64 (.ofNat 700), .i .i64 (.ofNat
  1)], [.s 1 62, .i .i64 (.ofNat 700), .i .i64 (.ofNat 1)], [.s 2 15678, .i .i64 (.ofNat 700), .i .i64 (.ofNat 1)], [.s 2 11583, .i .i64 (.ofNat 1200), .i .i64 (.ofNat 5)], [.s 2
  15424, .i .i64 (.ofNat 700), .i .i64 (.ofNat 1)], [.s 3 3947840, .i .i64 (.ofNat 700), .i .i64 (.ofNat 1)], [.s 2 15936, .i .i64 (.ofNat 700), .i .i64 (.ofNat 1)], [.s 3 4013632,
  .i .i64 (.ofNat 700), .i .i64 (.ofNat 1)], [.s 2 11100, .i .i64 (.ofNat 900), .i .i64 (.ofNat 4)], [.s 2 12124, .i .i64 (.ofNat 500), .i .i64 (.ofNat 3)], [.s 2 15708, .i .i64
  (.ofNat 700), .i .i64 (.ofNat 1)], [.s 3 4013404, .i .i64 (.ofNat 700), .i .i64 (.ofNat 1)], [.s 7 27981941201336676, .i .i64 (.ofNat 1150), .i .i64 (.ofNat 5)], [.s 2 28265, .i
  .i64 (.ofNat 700), .i .i64 (.ofNat 1)], [.s 14 2239892019062521052805406558613097, .i .i64 (.ofNat 1150), .i .i64 (.ofNat 5)], [.s 2 29545, .i .i64 (.ofNat 700), .i .i64 (.ofNat
  1)], [.s 14 2057743977047782653436861915358573, .i .i64 (.ofNat 1150), .i .i64 (.ofNat 5)], [.s 3 6582125, .i .i64 (.ofNat 400), .i .i64 (.ofNat 3)], [.s 3 7169394, .i .i64 (.ofNat
  400), .i .i64 (.ofNat 3)], [.s 5 435610083700, .i .i64 (.ofNat 1150), .i .i64 (.ofNat 5)], [.s 3 7499640, .i .i64 (.ofNat 500), .i .i64 (.ofNat 3)], [.s 1 124, .i .i64 (.ofNat
  1105), .i .i64 (.ofNat 2)]])]⟩
noncomputable def mU48 : Memo := ⟨[.sl ⟨.d0, .d0, .d0, .d1, .d6⟩ 0 48 3, .agg [.s 3 7760228, .i .i64 (.ofNat 400), .i .i64 (.ofNat 3)]], [(3, [[.s 2 15395, .i .i64 (.ofNat 700), .i
  .i64 (.ofNat 1)], [.s 2 15651, .i .i64 (.ofNat 700), .i .i64 (.ofNat 1)], [.s 3 3947811, .i .i64 (.ofNat 700), .i .i64 (.ofNat 1)], [.s 2 15907, .i .i64 (.ofNat 700), .i .i64
  (.ofNat 1)], [.s 3 4013603, .i .i64 (.ofNat 700), .i .i64 (.ofNat 1)], [.s 3 4021283, .i .i64 (.ofNat 700), .i .i64 (.ofNat 1)], [.s 1 42, .i .i64 (.ofNat 400), .i .i64 (.ofNat
  3)], [.s 3 4074794, .i .i64 (.ofNat 1050), .i .i64 (.ofNat 2)], [.s 1 43, .i .i64 (.ofNat 500), .i .i64 (.ofNat 3)], [.s 1 45, .i .i64 (.ofNat 500), .i .i64 (.ofNat 3)], [.s 3
  4074797, .i .i64 (.ofNat 1200), .i .i64 (.ofNat 1)], [.s 2 15917, .i .i64 (.ofNat 1050), .i .i64 (.ofNat 2)], [.s 2 11822, .i .i64 (.ofNat 450), .i .i64 (.ofNat 1)], [.s 1 47, .i
  .i64 (.ofNat 400), .i .i64 (.ofNat 3)], [.s 2 12079, .i .i64 (.ofNat 400), .i .i64 (.ofNat 3)], [.s 2 23599, .i .i64 (.ofNat 500), .i .i64 (.ofNat 3)], [.s 1 58, .i .i64 (.ofNat
  600), .i .i64 (.ofNat 2)], [.s 2 11578, .i .i64 (.ofNat 1200), .i .i64 (.ofNat 1)], [.s 2 11578, .i .i64 (.ofNat 1200), .i .i64 (.ofNat 5)], [.s 1 59, .i .i64 (.ofNat 1100), .i
  .i64 (.ofNat 2)], [.s 1 60, .i .i64 (.ofNat 700), .i .i64 (.ofNat 1)], [.s 1 61, .i .i64 (.ofNat 700), .i .i64 (.ofNat 1)], [.s 3 3026493, .i .i64 (.ofNat 700), .i .i64 (.ofNat
  1)], [.s 3 4012605, .i .i64 (.ofNat 700), .i .i64 (.ofNat 1)], [.s 2 15421, .i .i64 (.ofNat 700), .i .i64 (.ofNat 1)], [.s 2 15677, .i .i64 (.ofNat 700), .i .i64 (.ofNat 1)], [.s 3
  4021309, .i .i64 (.ofNat 700), .i .i64 (.ofNat 1)], [.s 1 62, .i .i64 (.ofNat 700), .i .i64 (.ofNat 1)], [.s 2 15678, .i .i64 (.ofNat 700), .i .i64 (.ofNat 1)], [.s 2 11583, .i
  .i64 (.ofNat 1200), .i .i64 (.ofNat 5)], [.s 2 15424, .i .i64 (.ofNat 700), .i .i64 (.ofNat 1)], [.s 3 3947840, .i .i64 (.ofNat 700), .i .i64 (.ofNat 1)], [.s 2 15936, .i .i64
  (.ofNat 700), .i .i64 (.ofNat 1)], [.s 3 4013632, .i .i64 (.ofNat 700), .i .i64 (.ofNat 1)], [.s 2 11100, .i .i64 (.ofNat 900), .i .i64 (.ofNat 4)], [.s 2 12124, .i .i64 (.ofNat
  500), .i .i64 (.ofNat 3)], [.s 2 15708, .i .i64 (.ofNat 700), .i .i64 (.ofNat 1)], [.s 3 4013404, .i .i64 (.ofNat 700), .i .i64 (.ofNat 1)], [.s 7 27981941201336676, .i .i64
  (.ofNat 1150), .i .i64 (.ofNat 5)], [.s 2 28265, .i .i64 (.ofNat 700), .i .i64 (.ofNat 1)], [.s 14 2239892019062521052805406558613097, .i .i64 (.ofNat 1150), .i .i64 (.ofNat 5)],
  [.s 2 29545, .i .i64 (.ofNat 700), .i .i64 (.ofNat 1)], [.s 14 2057743977047782653436861915358573, .i .i64 (.ofNat 1150), .i .i64 (.ofNat 5)], [.s 3 6582125, .i .i64 (.ofNat 400),
  .i .i64 (.ofNat 3)], [.s 3 7169394, .i .i64 (.ofNat 400), .i .i64 (.ofNat 3)], [.s 5 435610083700, .i .i64 (.ofNat 1150), .i .i64 (.ofNat 5)], [.s 3 7499640, .i .i64 (.ofNat 500),
  .i .i64 (.ofNat 3)], [.s 1 124, .i .i64 (.ofNat 1105), .i .i64 (.ofNat 2)]])], .tup [.sl ⟨.d0, .d0, .d0, .d1, .d7⟩ 0 49 3, .i .i64 (.ofNat 0)], [(3, 138, [[.s 2 15395, .i .i64
  (.ofNat 700), .i .i64 (.ofNat 1)], [.s 2 15651, .i .i64 (.ofNat 700), .i .i64 (.ofNat 1)], [.s 3 3947811, .i .i64 (.ofNat 700), .i .i64 (.ofNat 1)], [.s 2 15907, .i .i64 (.ofNat
  700), .i .i64 (.ofNat 1)], [.s 3 4013603, .i .i64 (.ofNat 700), .i .i64 (.ofNat 1)], [.s 3 4021283, .i .i64 (.ofNat 700), .i .i64 (.ofNat 1)], [.s 1 42, .i .i64 (.ofNat 400), .i
  .i64 (.ofNat 3)], [.s 3 4074794, .i .i64 (.ofNat 1050), .i .i64 (.ofNat 2)], [.s 1 43, .i .i64 (.ofNat 500), .i .i64 (.ofNat 3)], [.s 1 45, .i .i64 (.ofNat 500), .i .i64 (.ofNat
  3)], [.s 3 4074797, .i .i64 (.ofNat 1200), .i .i64 (.ofNat 1)], [.s 2 15917, .i .i64 (.ofNat 1050), .i .i64 (.ofNat 2)], [.s 2 11822, .i .i64 (.ofNat 450), .i .i64 (.ofNat 1)], [.s
  1 47, .i .i64 (.ofNat 400), .i .i64 (.ofNat 3)], [.s 2 12079, .i .i64 (.ofNat 400), .i .i64 (.ofNat 3)], [.s 2 23599, .i .i64 (.ofNat 500), .i .i64 (.ofNat 3)], [.s 1 58, .i .i64
  (.ofNat 600), .i .i64 (.ofNat 2)], [.s 2 11578, .i .i64 (.ofNat 1200), .i .i64 (.ofNat 1)], [.s 2 11578, .i .i64 (.ofNat 1200), .i .i64 (.ofNat 5)], [.s 1 59, .i .i64 (.ofNat
  1100), .i .i64 (.ofNat 2)], [.s 1 60, .i .i64 (.ofNat 700), .i .i64 (.ofNat 1)], [.s 1 61, .i .i64 (.ofNat 700), .i .i64 (.ofNat 1)], [.s 3 3026493, .i .i64 (.ofNat 700), .i .i64
  (.ofNat 1)], [.s 3 4012605, .i .i64 (.ofNat 700), .i .i64 (.ofNat 1)], [.s 2 15421, .i .i64 (.ofNat 700), .i .i64 (.ofNat 1)], [.s 2 15677, .i .i64 (.ofNat 700), .i .i64 (.ofNat
  1)], [.s 3 4021309, .i .i64 (.ofNat 700), .i .i64 (.ofNat 1)], [.s 1 62, .i .i64 (.ofNat 700), .i .i64 (.ofNat 1)], [.s 2 15678, .i .i64 (.ofNat 700), .i .i64 (.ofNat 1)], [.s 2
  11583, .i .i64 (.ofNat 1200), .i .i64 (.ofNat 5)], [.s 2 15424, .i .i64 (.ofNat 700), .i .i64 (.ofNat 1)], [.s 3 3947840, .i .i64 (.ofNat 700), .i .i64 (.ofNat 1)], [.s 2 15936, .i
  .i64 (.ofNat 700), .i .i64 (.ofNat 1)], [.s 3 4013632, .i .i64 (.ofNat 700), .i .i64 (.ofNat 1)], [.s 2 11100, .i .i64 (.ofNat 900), .i .i64 (.ofNat 4)], [.s 2 12124, .i .i64
  (.ofNat 500), .i .i64 (.ofNat 3)], [.s 2 15708, .i .i64 (.ofNat 700), .i .i64 (.ofNat 1)], [.s 3 4013404, .i .i64 (.ofNat 700), .i .i64 (.ofNat 1)], [.s 3 7760228, .i .i64 (.ofNat
  400), .i .i64 (.ofNat 3)], [.s 7 27981941201336676, .i .i64 (.ofNat 1150), .i .i64 (.ofNat 5)], [.s 2 28265, .i .i64 (.ofNat 700), .i .i64 (.ofNat 1)], [.s 14
  2239892019062521052805406558613097, .i .i64 (.ofNat 1150), .i .i64 (.ofNat 5)], [.s 2 29545, .i .i64 (.ofNat 700), .i .i64 (.ofNat 1)], [.s 14 2057743977047782653436861915358573,
  .i .i64 (.ofNat 1150), .i .i64 (.ofNat 5)], [.s 3 6582125, .i .i64 (.ofNat 400), .i .i64 (.ofNat 3)], [.s 3 7169394, .i .i64 (.ofNat 400), .i .i64 (.ofNat 3)], [.s 5 435610083700,
  .i .i64 (.ofNat 1150), .i .i64 (.ofNat 5)], [.s 3 7499640, .i .i64 (.ofNat 500), .i .i64 (.ofNat 3)], [.s 1 124, .i .i64 (.ofNat 1105), .i .i64 (.ofNat 2)]])]⟩
theorem fU5 : memoFact call0 14 10000 48 mU5 = true := by kernel_rfl
theorem fU12 : memoFact call0 14 10000 48 mU12 = true := by kernel_rfl
theorem fU19 : memoFact call0 14 10000 48 mU19 = true := by kernel_rfl
theorem fU30 : memoFact call0 14 10000 48 mU30 = true := by kernel_rfl
theorem fU33 : memoFact call0 14 10000 48 mU33 = true := by kernel_rfl
theorem fU47 : memoFact call0 14 10000 48 mU47 = true := by kernel_rfl
theorem fU48 : memoFact call0 14 10000 48 mU48 = true := by kernel_rfl
end Go.Proofs.YtkacnifdhfffmaaGreatDoor
end
