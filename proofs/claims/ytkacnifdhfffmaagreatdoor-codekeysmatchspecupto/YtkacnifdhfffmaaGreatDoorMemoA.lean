/-
  A part of the proof of the card of CodeKeysMatchSpec (second form): lemmas that the text Card uses. No condition of its own.
-/
import Derived.Test.YtkacnifdhfffmaaGreatDoorEv10
import Derived.Test.YtkacnifdhfffmaaGreatDoorEv09
import Derived.Test.YtkacnifdhfffmaaGreatDoorProg
import Derived.KernelRfl
set_option linter.all false
set_option linter.unusedVariables false
set_option linter.unusedSimpArgs false
section
open Go Go.Ev
namespace Go.Proofs.YtkacnifdhfffmaaGreatDoor
/-- strings.asciiSpace -/
def spaceEls : List (List V) := [[.i .u8 (.ofNat 0)], [.i .u8 (.ofNat 0)], [.i .u8 (.ofNat 0)], [.i .u8 (.ofNat 0)], [.i .u8 (.ofNat 0)], [.i .u8 (.ofNat 0)], [.i .u8 (.ofNat 0)], [.i .u8 (.ofNat 0)], [.i .u8 (.ofNat 0)], [.i .u8 (.ofNat 1)], [.i .u8 (.ofNat 1)], [.i .u8 (.ofNat 1)], [.i .u8 (.ofNat 1)], [.i .u8 (.ofNat 1)], [.i .u8 (.ofNat 0)], [.i .u8 (.ofNat 0)], [.i .u8 (.ofNat 0)], [.i .u8 (.ofNat 0)], [.i .u8 (.ofNat 0)], [.i .u8 (.ofNat 0)], [.i .u8 (.ofNat 0)], [.i .u8 (.ofNat 0)], [.i .u8 (.ofNat 0)], [.i .u8 (.ofNat 0)], [.i .u8 (.ofNat 0)], [.i .u8 (.ofNat 0)], [.i .u8 (.ofNat 0)], [.i .u8 (.ofNat 0)], [.i .u8 (.ofNat 0)], [.i .u8 (.ofNat 0)], [.i .u8 (.ofNat 0)], [.i .u8 (.ofNat 0)], [.i .u8 (.ofNat 1)], [.i .u8 (.ofNat 0)], [.i .u8 (.ofNat 0)], [.i .u8 (.ofNat 0)], [.i .u8 (.ofNat 0)], [.i .u8 (.ofNat 0)], [.i .u8 (.ofNat 0)], [.i .u8 (.ofNat 0)], [.i .u8 (.ofNat 0)], [.i .u8 (.ofNat 0)], [.i .u8 (.ofNat 0)], [.i .u8 (.ofNat 0)], [.i .u8 (.ofNat 0)], [.i .u8 (.ofNat 0)], [.i .u8 (.ofNat 0)], [.i .u8 (.ofNat 0)], [.i .u8 (.ofNat 0)], [.i .u8 (.ofNat 0)], [.i .u8 (.ofNat 0)], [.i .u8 (.ofNat 0)], [.i .u8 (.ofNat 0)], [.i .u8 (.ofNat 0)], [.i .u8 (.ofNat 0)], [.i .u8 (.ofNat 0)], [.i .u8 (.ofNat 0)], [.i .u8 (.ofNat 0)], [.i .u8 (.ofNat 0)], [.i .u8 (.ofNat 0)], [.i .u8 (.ofNat 0)], [.i .u8 (.ofNat 0)], [.i .u8 (.ofNat 0)], [.i .u8 (.ofNat 0)], [.i .u8 (.ofNat 0)], [.i .u8 (.ofNat 0)], [.i .u8 (.ofNat 0)], [.i .u8 (.ofNat 0)], [.i .u8 (.ofNat 0)], [.i .u8 (.ofNat 0)], [.i .u8 (.ofNat 0)], [.i .u8 (.ofNat 0)], [.i .u8 (.ofNat 0)], [.i .u8 (.ofNat 0)], [.i .u8 (.ofNat 0)], [.i .u8 (.ofNat 0)], [.i .u8 (.ofNat 0)], [.i .u8 (.ofNat 0)], [.i .u8 (.ofNat 0)], [.i .u8 (.ofNat 0)], [.i .u8 (.ofNat 0)], [.i .u8 (.ofNat 0)], [.i .u8 (.ofNat 0)], [.i .u8 (.ofNat 0)], [.i .u8 (.ofNat 0)], [.i .u8 (.ofNat 0)], [.i .u8 (.ofNat 0)], [.i .u8 (.ofNat 0)], [.i .u8 (.ofNat 0)], [.i .u8 (.ofNat 0)], [.i .u8 (.ofNat 0)], [.i .u8 (.ofNat 0)], [.i .u8 (.ofNat 0)], [.i .u8 (.ofNat 0)], [.i .u8 (.ofNat 0)], [.i .u8 (.ofNat 0)], [.i .u8 (.ofNat 0)], [.i .u8 (.ofNat 0)], [.i .u8 (.ofNat 0)], [.i .u8 (.ofNat 0)], [.i .u8 (.ofNat 0)], [.i .u8 (.ofNat 0)], [.i .u8 (.ofNat 0)], [.i .u8 (.ofNat 0)], [.i .u8 (.ofNat 0)], [.i .u8 (.ofNat 0)], [.i .u8 (.ofNat 0)], [.i .u8 (.ofNat 0)], [.i .u8 (.ofNat 0)], [.i .u8 (.ofNat 0)], [.i .u8 (.ofNat 0)], [.i .u8 (.ofNat 0)], [.i .u8 (.ofNat 0)], [.i .u8 (.ofNat 0)], [.i .u8 (.ofNat 0)], [.i .u8 (.ofNat 0)], [.i .u8 (.ofNat 0)], [.i .u8 (.ofNat 0)], [.i .u8 (.ofNat 0)], [.i .u8 (.ofNat 0)], [.i .u8 (.ofNat 0)], [.i .u8 (.ofNat 0)], [.i .u8 (.ofNat 0)], [.i .u8 (.ofNat 0)], [.i .u8 (.ofNat 0)], [.i .u8 (.ofNat 0)], [.i .u8 (.ofNat 0)], [.i .u8 (.ofNat 0)], [.i .u8 (.ofNat 0)], [.i .u8 (.ofNat 0)], [.i .u8 (.ofNat 0)], [.i .u8 (.ofNat 0)], [.i .u8 (.ofNat 0)], [.i .u8 (.ofNat 0)], [.i .u8 (.ofNat 0)], [.i .u8 (.ofNat 0)], [.i .u8 (.ofNat 0)], [.i .u8 (.ofNat 0)], [.i .u8 (.ofNat 0)], [.i .u8 (.ofNat 0)], [.i .u8 (.ofNat 0)], [.i .u8 (.ofNat 0)], [.i .u8 (.ofNat 0)], [.i .u8 (.ofNat 0)], [.i .u8 (.ofNat 0)], [.i .u8 (.ofNat 0)], [.i .u8 (.ofNat 0)], [.i .u8 (.ofNat 0)], [.i .u8 (.ofNat 0)], [.i .u8 (.ofNat 0)], [.i .u8 (.ofNat 0)], [.i .u8 (.ofNat 0)], [.i .u8 (.ofNat 0)], [.i .u8 (.ofNat 0)], [.i .u8 (.ofNat 0)], [.i .u8 (.ofNat 0)], [.i .u8 (.ofNat 0)], [.i .u8 (.ofNat 0)], [.i .u8 (.ofNat 0)], [.i .u8 (.ofNat 0)], [.i .u8 (.ofNat 0)], [.i .u8 (.ofNat 0)], [.i .u8 (.ofNat 0)], [.i .u8 (.ofNat 0)], [.i .u8 (.ofNat 0)], [.i .u8 (.ofNat 0)], [.i .u8 (.ofNat 0)], [.i .u8 (.ofNat 0)], [.i .u8 (.ofNat 0)], [.i .u8 (.ofNat 0)], [.i .u8 (.ofNat 0)], [.i .u8 (.ofNat 0)], [.i .u8 (.ofNat 0)], [.i .u8 (.ofNat 0)], [.i .u8 (.ofNat 0)], [.i .u8 (.ofNat 0)], [.i .u8 (.ofNat 0)], [.i .u8 (.ofNat 0)], [.i .u8 (.ofNat 0)], [.i .u8 (.ofNat 0)], [.i .u8 (.ofNat 0)], [.i .u8 (.ofNat 0)], [.i .u8 (.ofNat 0)], [.i .u8 (.ofNat 0)], [.i .u8 (.ofNat 0)], [.i .u8 (.ofNat 0)], [.i .u8 (.ofNat 0)], [.i .u8 (.ofNat 0)], [.i .u8 (.ofNat 0)], [.i .u8 (.ofNat 0)], [.i .u8 (.ofNat 0)], [.i .u8 (.ofNat 0)], [.i .u8 (.ofNat 0)], [.i .u8 (.ofNat 0)], [.i .u8 (.ofNat 0)], [.i .u8 (.ofNat 0)], [.i .u8 (.ofNat 0)], [.i .u8 (.ofNat 0)], [.i .u8 (.ofNat 0)], [.i .u8 (.ofNat 0)], [.i .u8 (.ofNat 0)], [.i .u8 (.ofNat 0)], [.i .u8 (.ofNat 0)], [.i .u8 (.ofNat 0)], [.i .u8 (.ofNat 0)], [.i .u8 (.ofNat 0)], [.i .u8 (.ofNat 0)], [.i .u8 (.ofNat 0)], [.i .u8 (.ofNat 0)], [.i .u8 (.ofNat 0)], [.i .u8 (.ofNat 0)], [.i .u8 (.ofNat 0)], [.i .u8 (.ofNat 0)], [.i .u8 (.ofNat 0)], [.i .u8 (.ofNat 0)], [.i .u8 (.ofNat 0)], [.i .u8 (.ofNat 0)], [.i .u8 (.ofNat 0)], [.i .u8 (.ofNat 0)], [.i .u8 (.ofNat 0)], [.i .u8 (.ofNat 0)], [.i .u8 (.ofNat 0)], [.i .u8 (.ofNat 0)], [.i .u8 (.ofNat 0)], [.i .u8 (.ofNat 0)], [.i .u8 (.ofNat 0)], [.i .u8 (.ofNat 0)], [.i .u8 (.ofNat 0)], [.i .u8 (.ofNat 0)], [.i .u8 (.ofNat 0)], [.i .u8 (.ofNat 0)], [.i .u8 (.ofNat 0)], [.i .u8 (.ofNat 0)], [.i .u8 (.ofNat 0)], [.i .u8 (.ofNat 0)], [.i .u8 (.ofNat 0)], [.i .u8 (.ofNat 0)], [.i .u8 (.ofNat 0)], [.i .u8 (.ofNat 0)], [.i .u8 (.ofNat 0)], [.i .u8 (.ofNat 0)], [.i .u8 (.ofNat 0)], [.i .u8 (.ofNat 0)], [.i .u8 (.ofNat 0)], [.i .u8 (.ofNat 0)], [.i .u8 (.ofNat 0)], [.i .u8 (.ofNat 0)], [.i .u8 (.ofNat 0)], [.i .u8 (.ofNat 0)], [.i .u8 (.ofNat 0)], [.i .u8 (.ofNat 0)], [.i .u8 (.ofNat 0)], [.i .u8 (.ofNat 0)], [.i .u8 (.ofNat 0)], [.i .u8 (.ofNat 0)], [.i .u8 (.ofNat 0)]]
/-- what package source's System hands back at the two names that compiled() asks for -/
noncomputable def sysF : FOp := ⟨fun _ args h => match args with
  | [.s l c, .i .i64 (.ofNat n)] => bif (Nat.beq l 1 && (Nat.beq c 112 && Nat.beq n 2)) || (Nat.beq l 1 && (Nat.beq c 113 && Nat.beq n 1)) then
      (match mget (idOf 3) h.mem with
        | some (.cells sz els _ _) => bif Nat.beq sz 1 && beqLL els spaceEls then .ok (.tup [.s 0 0, .b false]) h else .bad
        | _ => .bad) else .bad
  | _ => .bad⟩
noncomputable def sp0 (f : Nat) : Option FOp :=
  bif Nat.beq f 294 then some cmpF else bif Nat.beq f 340 then some countF else bif Nat.beq f 299 then some indexByteF else bif Nat.beq f 204 then some sysF else none
noncomputable def call0 : CallT := callE Tryz.prog sp0 5000 300
end Go.Proofs.YtkacnifdhfffmaaGreatDoor
end
section
open Go Go.Ev
namespace Go.Proofs.YtkacnifdhfffmaaGreatDoor
noncomputable def mU1 : Memo := ⟨[.sl ⟨.d0, .d0, .d0, .d1, .d6⟩ 0 1 3, .agg [.s 3 4074797, .i .i64 (.ofNat 1200), .i .i64 (.ofNat 1)]], [(3, [[.s 2 11578, .i .i64 (.ofNat 1200), .i
  .i64 (.ofNat 1)]])], .tup [.sl ⟨.d0, .d0, .d0, .d1, .d7⟩ 0 2 3, .i .i64 (.ofNat 0)], [(3, 138, [[.s 3 4074797, .i .i64 (.ofNat 1200), .i .i64 (.ofNat 1)], [.s 2 11578, .i .i64
  (.ofNat 1200), .i .i64 (.ofNat 1)]])]⟩
noncomputable def mU14 : Memo := ⟨[.sl ⟨.d0, .d0, .d0, .d1, .d6⟩ 0 14 3, .agg [.s 2 15708, .i .i64 (.ofNat 700), .i .i64 (.ofNat 1)]], [(3, [[.s 3 4074794, .i .i64 (.ofNat 1050),
  .i .i64 (.ofNat 2)], [.s 3 4074797, .i .i64 (.ofNat 1200), .i .i64 (.ofNat 1)], [.s 2 15917, .i .i64 (.ofNat 1050), .i .i64 (.ofNat 2)], [.s 2 11578, .i .i64 (.ofNat 1200), .i .i64
  (.ofNat 1)], [.s 2 11578, .i .i64 (.ofNat 1200), .i .i64 (.ofNat 5)], [.s 1 59, .i .i64 (.ofNat 1100), .i .i64 (.ofNat 2)], [.s 1 61, .i .i64 (.ofNat 700), .i .i64 (.ofNat 1)], [.s
  2 11583, .i .i64 (.ofNat 1200), .i .i64 (.ofNat 5)], [.s 2 11100, .i .i64 (.ofNat 900), .i .i64 (.ofNat 4)], [.s 7 27981941201336676, .i .i64 (.ofNat 1150), .i .i64 (.ofNat 5)],
  [.s 14 2239892019062521052805406558613097, .i .i64 (.ofNat 1150), .i .i64 (.ofNat 5)], [.s 14 2057743977047782653436861915358573, .i .i64 (.ofNat 1150), .i .i64 (.ofNat 5)], [.s 5
  435610083700, .i .i64 (.ofNat 1150), .i .i64 (.ofNat 5)], [.s 1 124, .i .i64 (.ofNat 1105), .i .i64 (.ofNat 2)]])], .tup [.sl ⟨.d0, .d0, .d0, .d1, .d7⟩ 0 15 3, .i .i64 (.ofNat 0)],
  [(3, 138, [[.s 3 4074794, .i .i64 (.ofNat 1050), .i .i64 (.ofNat 2)], [.s 3 4074797, .i .i64 (.ofNat 1200), .i .i64 (.ofNat 1)], [.s 2 15917, .i .i64 (.ofNat 1050), .i .i64 (.ofNat
  2)], [.s 2 11578, .i .i64 (.ofNat 1200), .i .i64 (.ofNat 1)], [.s 2 11578, .i .i64 (.ofNat 1200), .i .i64 (.ofNat 5)], [.s 1 59, .i .i64 (.ofNat 1100), .i .i64 (.ofNat 2)], [.s 1
  61, .i .i64 (.ofNat 700), .i .i64 (.ofNat 1)], [.s 2 11583, .i .i64 (.ofNat 1200), .i .i64 (.ofNat 5)], [.s 2 11100, .i .i64 (.ofNat 900), .i .i64 (.ofNat 4)], [.s 2 15708, .i .i64
  (.ofNat 700), .i .i64 (.ofNat 1)], [.s 7 27981941201336676, .i .i64 (.ofNat 1150), .i .i64 (.ofNat 5)], [.s 14 2239892019062521052805406558613097, .i .i64 (.ofNat 1150), .i .i64
  (.ofNat 5)], [.s 14 2057743977047782653436861915358573, .i .i64 (.ofNat 1150), .i .i64 (.ofNat 5)], [.s 5 435610083700, .i .i64 (.ofNat 1150), .i .i64 (.ofNat 5)], [.s 1 124, .i
  .i64 (.ofNat 1105), .i .i64 (.ofNat 2)]])]⟩
noncomputable def mU17 : Memo := ⟨[.sl ⟨.d0, .d0, .d0, .d1, .d6⟩ 0 17 3, .agg [.s 2 15424, .i .i64 (.ofNat 700), .i .i64 (.ofNat 1)]], [(3, [[.s 3 4074794, .i .i64 (.ofNat 1050),
  .i .i64 (.ofNat 2)], [.s 3 4074797, .i .i64 (.ofNat 1200), .i .i64 (.ofNat 1)], [.s 2 15917, .i .i64 (.ofNat 1050), .i .i64 (.ofNat 2)], [.s 2 11578, .i .i64 (.ofNat 1200), .i .i64
  (.ofNat 1)], [.s 2 11578, .i .i64 (.ofNat 1200), .i .i64 (.ofNat 5)], [.s 1 59, .i .i64 (.ofNat 1100), .i .i64 (.ofNat 2)], [.s 1 61, .i .i64 (.ofNat 700), .i .i64 (.ofNat 1)], [.s
  2 15677, .i .i64 (.ofNat 700), .i .i64 (.ofNat 1)], [.s 2 11583, .i .i64 (.ofNat 1200), .i .i64 (.ofNat 5)], [.s 2 11100, .i .i64 (.ofNat 900), .i .i64 (.ofNat 4)], [.s 2 15708, .i
  .i64 (.ofNat 700), .i .i64 (.ofNat 1)], [.s 3 4013404, .i .i64 (.ofNat 700), .i .i64 (.ofNat 1)], [.s 7 27981941201336676, .i .i64 (.ofNat 1150), .i .i64 (.ofNat 5)], [.s 14
  2239892019062521052805406558613097, .i .i64 (.ofNat 1150), .i .i64 (.ofNat 5)], [.s 14 2057743977047782653436861915358573, .i .i64 (.ofNat 1150), .i .i64 (.ofNat 5)], [.s 5
  435610083700, .i .i64 (.ofNat 1150), .i .i64 (.ofNat 5)], [.s 1 124, .i .i64 (.ofNat 1105), .i .i64 (.ofNat 2)]])], .tup [.sl ⟨.d0, .d0, .d0, .d1, .d7⟩ 0 18 3, .i .i64 (.ofNat 0)],
  [(3, 138, [[.s 3 4074794, .i .i64 (.ofNat 1050), .i .i64 (.ofNat 2)], [.s 3 4074797, .i .i64 (.ofNat 1200), .i .i64 (.ofNat 1)], [.s 2 15917, .i .i64 (.ofNat 1050), .i .i64 (.ofNat
  2)], [.s 2 11578, .i .i64 (.ofNat 1200), .i .i64 (.ofNat 1)], [.s 2 11578, .i .i64 (.ofNat 1200), .i .i64 (.ofNat 5)], [.s 1 59, .i .i64 (.ofNat 1100), .i .i64 (.ofNat 2)], [.s 1
  61, .i .i64 (.ofNat 700), .i .i64 (.ofNat 1)], [.s 2 15677, .i .i64 (.ofNat 700), .i .i64 (.ofNat 1)], [.s 2 11583, .i .i64 (.ofNat 1200), .i .i64 (.ofNat 5)], [.s 2 15424, .i .i64
  (.ofNat 700), .i .i64 (.ofNat 1)], [.s 2 11100, .i .i64 (.ofNat 900), .i .i64 (.ofNat 4)], [.s 2 15708, .i .i64 (.ofNat 700), .i .i64 (.ofNat 1)], [.s 3 4013404, .i .i64 (.ofNat
  700), .i .i64 (.ofNat 1)], [.s 7 27981941201336676, .i .i64 (.ofNat 1150), .i .i64 (.ofNat 5)], [.s 14 2239892019062521052805406558613097, .i .i64 (.ofNat 1150), .i .i64 (.ofNat
  5)], [.s 14 2057743977047782653436861915358573, .i .i64 (.ofNat 1150), .i .i64 (.ofNat 5)], [.s 5 435610083700, .i .i64 (.ofNat 1150), .i .i64 (.ofNat 5)], [.s 1 124, .i .i64
  (.ofNat 1105), .i .i64 (.ofNat 2)]])]⟩
noncomputable def mU31 : Memo := ⟨[.sl ⟨.d0, .d0, .d0, .d1, .d6⟩ 0 31 3, .agg [.s 2 15395, .i .i64 (.ofNat 700), .i .i64 (.ofNat 1)]], [(3, [[.s 2 15651, .i .i64 (.ofNat 700), .i
  .i64 (.ofNat 1)], [.s 3 4021283, .i .i64 (.ofNat 700), .i .i64 (.ofNat 1)], [.s 3 4074794, .i .i64 (.ofNat 1050), .i .i64 (.ofNat 2)], [.s 3 4074797, .i .i64 (.ofNat 1200), .i .i64
  (.ofNat 1)], [.s 2 15917, .i .i64 (.ofNat 1050), .i .i64 (.ofNat 2)], [.s 2 11578, .i .i64 (.ofNat 1200), .i .i64 (.ofNat 1)], [.s 2 11578, .i .i64 (.ofNat 1200), .i .i64 (.ofNat
  5)], [.s 1 59, .i .i64 (.ofNat 1100), .i .i64 (.ofNat 2)], [.s 1 60, .i .i64 (.ofNat 700), .i .i64 (.ofNat 1)], [.s 1 61, .i .i64 (.ofNat 700), .i .i64 (.ofNat 1)], [.s 3 3026493,
  .i .i64 (.ofNat 700), .i .i64 (.ofNat 1)], [.s 3 4012605, .i .i64 (.ofNat 700), .i .i64 (.ofNat 1)], [.s 2 15421, .i .i64 (.ofNat 700), .i .i64 (.ofNat 1)], [.s 2 15677, .i .i64
  (.ofNat 700), .i .i64 (.ofNat 1)], [.s 3 4021309, .i .i64 (.ofNat 700), .i .i64 (.ofNat 1)], [.s 1 62, .i .i64 (.ofNat 700), .i .i64 (.ofNat 1)], [.s 2 15678, .i .i64 (.ofNat 700),
  .i .i64 (.ofNat 1)], [.s 2 11583, .i .i64 (.ofNat 1200), .i .i64 (.ofNat 5)], [.s 2 15424, .i .i64 (.ofNat 700), .i .i64 (.ofNat 1)], [.s 3 3947840, .i .i64 (.ofNat 700), .i .i64
  (.ofNat 1)], [.s 2 15936, .i .i64 (.ofNat 700), .i .i64 (.ofNat 1)], [.s 3 4013632, .i .i64 (.ofNat 700), .i .i64 (.ofNat 1)], [.s 2 11100, .i .i64 (.ofNat 900), .i .i64 (.ofNat
  4)], [.s 2 15708, .i .i64 (.ofNat 700), .i .i64 (.ofNat 1)], [.s 3 4013404, .i .i64 (.ofNat 700), .i .i64 (.ofNat 1)], [.s 7 27981941201336676, .i .i64 (.ofNat 1150), .i .i64
  (.ofNat 5)], [.s 14 2239892019062521052805406558613097, .i .i64 (.ofNat 1150), .i .i64 (.ofNat 5)], [.s 2 29545, .i .i64 (.ofNat 700), .i .i64 (.ofNat 1)], [.s 14
  2057743977047782653436861915358573, .i .i64 (.ofNat 1150), .i .i64 (.ofNat 5)], [.s 5 435610083700, .i .i64 (.ofNat 1150), .i .i64 (.ofNat 5)], [.s 1 124, .i .i64 (.ofNat 1105), .i
  .i64 (.ofNat 2)]])], .tup [.sl ⟨.d0, .d0, .d0, .d1, .d7⟩ 0 32 3, .i .i64 (.ofNat 0)], [(3, 138, [[.s 2 15395, .i .i64 (.ofNat 700), .i .i64 (.ofNat 1)], [.s 2 15651, .i .i64
  (.ofNat 700), .i .i64 (.ofNat 1)], [.s 3 4021283, .i .i64 (.ofNat 700), .i .i64 (.ofNat 1)], [.s 3 4074794, .i .i64 (.ofNat 1050), .i .i64 (.ofNat 2)], [.s 3 4074797, .i .i64
  (.ofNat 1200), .i .i64 (.ofNat 1)], [.s 2 15917, .i .i64 (.ofNat 1050), .i .i64 (.ofNat 2)], [.s 2 11578, .i .i64 (.ofNat 1200), .i .i64 (.ofNat 1)], [.s 2 11578, .i .i64 (.ofNat
  1200), .i .i64 (.ofNat 5)], [.s 1 59, .i .i64 (.ofNat 1100), .i .i64 (.ofNat 2)], [.s 1 60, .i .i64 (.ofNat 700), .i .i64 (.ofNat 1)], [.s 1 61, .i .i64 (.ofNat 700), .i .i64
  (.ofNat 1)], [.s 3 3026493, .i .i64 (.ofNat 700), .i .i64 (.ofNat 1)], [.s 3 4012605, .i .i64 (.ofNat 700), .i .i64 (.ofNat 1)], [.s 2 15421, .i .i64 (.ofNat 700), .i .i64 (.ofNat
  1)], [.s 2 15677, .i .i64 (.ofNat 700), .i .i64 (.ofNat 1)], [.s 3 4021309, .i .i64 (.ofNat 700), .i .i64 (.ofNat 1)], [.s 1 62, .i .i64 (.ofNat 700), .i .i64 (.ofNat 1)], [.s 2
  15678, .i .i64 (.ofNat 700), .i .i64 (.ofNat 1)], [.s 2 11583, .i .i64 (.ofNat 1200), .i .i64 (.ofNat 5)], [.s 2 15424, .i .i64 (.ofNat 700), .i .i64 (.ofNat 1)], [.s 3 3947840, .i
  .i64 (.ofNat 700), .i .i64 (.ofNat 1)], [.s 2 15936, .i .i64 (.ofNat 700), .i .i64 (.ofNat 1)], [.s 3 4013632, .i .i64 (.ofNat 700), .i .i64 (.ofNat 1)], [.s 2 11100, .i .i64
  (.ofNat 900), .i .i64 (.ofNat 4)], [.s 2 15708, .i .i64 (.ofNat 700), .i .i64 (.ofNat 1)], [.s 3 4013404, .i .i64 (.ofNat 700), .i .i64 (.ofNat 1)], [.s 7 27981941201336676, .i
  .i64 (.ofNat 1150), .i .i64 (.ofNat 5)], [.s 14 2239892019062521052805406558613097, .i .i64 (.ofNat 1150), .i .i64 (.ofNat 5)], [.s 2 29545, .i .i64 (.ofNat 700), .i .i64 (.ofNat
  1)], [.s 14 2057743977047782653436861915358573, .i .i64 (.ofNat 1150), .i .i64 (.ofNat 5)], [.s 5 435610083700, .i .i64 (.ofNat 1150), .i .i64 (.ofNat 5)], [.s 1 124, .i .i64
  (.ofNat 1105), .i .i64 (.ofNat 2)]])]⟩
noncomputable def mU32 : Memo := ⟨[.sl ⟨.d0, .d0, .d0, .d1, .d6⟩ 0 32 3, .agg [.s 2 15907, .i .i64 (.ofNat 700), .i .i64 (.ofNat 1)]], [(3, [[.s 2 15395, .i .i64 (.ofNat 700), .i
  .i64 (.ofNat 1)], [.s 2 15651, .i .i64 (.ofNat 700), .i .i64 (.ofNat 1)], [.s 3 4021283, .i .i64 (.ofNat 700), .i .i64 (.ofNat 1)], [.s 3 4074794, .i .i64 (.ofNat 1050), .i .i64
  (.ofNat 2)], [.s 3 4074797, .i .i64 (.ofNat 1200), .i .i64 (.ofNat 1)], [.s 2 15917, .i .i64 (.ofNat 1050), .i .i64 (.ofNat 2)], [.s 2 11578, .i .i64 (.ofNat 1200), .i .i64 (.ofNat
  1)], [.s 2 11578, .i .i64 (.ofNat 1200), .i .i64 (.ofNat 5)], [.s 1 59, .i .i64 (.ofNat 1100), .i .i64 (.ofNat 2)], [.s 1 60, .i .i64 (.ofNat 700), .i .i64 (.ofNat 1)], [.s 1 61,
  .i .i64 (.ofNat 700), .i .i64 (.ofNat 1)], [.s 3 3026493, .i .i64 (.ofNat 700), .i .i64 (.ofNat 1)], [.s 3 4012605, .i .i64 (.ofNat 700), .i .i64 (.ofNat 1)], [.s 2 15421, .i .i64
  (.ofNat 700), .i .i64 (.ofNat 1)], [.s 2 15677, .i .i64 (.ofNat 700), .i .i64 (.ofNat 1)], [.s 3 4021309, .i .i64 (.ofNat 700), .i .i64 (.ofNat 1)], [.s 1 62, .i .i64 (.ofNat 700),
  .i .i64 (.ofNat 1)], [.s 2 15678, .i .i64 (.ofNat 700), .i .i64 (.ofNat 1)], [.s 2 11583, .i .i64 (.ofNat 1200), .i .i64 (.ofNat 5)], [.s 2 15424, .i .i64 (.ofNat 700), .i .i64
  (.ofNat 1)], [.s 3 3947840, .i .i64 (.ofNat 700), .i .i64 (.ofNat 1)], [.s 2 15936, .i .i64 (.ofNat 700), .i .i64 (.ofNat 1)], [.s 3 4013632, .i .i64 (.ofNat 700), .i .i64 (.ofNat
  1)], [.s 2 11100, .i .i64 (.ofNat 900), .i .i64 (.ofNat 4)], [.s 2 15708, .i .i64 (.ofNat 700), .i .i64 (.ofNat 1)], [.s 3 4013404, .i .i64 (.ofNat 700), .i .i64 (.ofNat 1)], [.s 7
  27981941201336676, .i .i64 (.ofNat 1150), .i .i64 (.ofNat 5)], [.s 14 2239892019062521052805406558613097, .i .i64 (.ofNat 1150), .i .i64 (.ofNat 5)], [.s 2 29545, .i .i64 (.ofNat
  700), .i .i64 (.ofNat 1)], [.s 14 2057743977047782653436861915358573, .i .i64 (.ofNat 1150), .i .i64 (.ofNat 5)], [.s 5 435610083700, .i .i64 (.ofNat 1150), .i .i64 (.ofNat 5)],
  [.s 1 124, .i .i64 (.ofNat 1105), .i .i64 (.ofNat 2)]])], .tup [.sl ⟨.d0, .d0, .d0, .d1, .d7⟩ 0 33 3, .i .i64 (.ofNat 0)], [(3, 138, [[.s 2 15395, .i .i64 (.ofNat 700), .i .i64
  (.ofNat 1)], [.s 2 15651, .i .i64 (.ofNat 700), .i .i64 (.ofNat 1)], [.s 2 15907, .i .i64 (.ofNat 700), .i .i64 (.ofNat 1)], [.s 3 4021283, .i .i64 (.ofNat 700), .i .i64 (.ofNat
  1)], [.s 3 4074794, .i .i64 (.ofNat 1050), .i .i64 (.ofNat 2)], [.s 3 4074797, .i .i64 (.ofNat 1200), .i .i64 (.ofNat 1)], [.s 2 15917, .i .i64 (.ofNat 1050), .i .i64 (.ofNat 2)],
  [.s 2 11578, .i .i64 (.ofNat 1200), .i .i64 (.ofNat 1)], [.s 2 11578, .i .i64 (.ofNat 1200), .i .i64 (.ofNat 5)], [.s 1 59, .i .i64 (.ofNat 1100), .i .i64 (.ofNat 2)], [.s 1 60, .i
  .i64 (.ofNat 700), .i .i64 (.ofNat 1)], [.s 1 61, .i .i64 (.ofNat 700), .i .i64 (.ofNat 1)], [.s 3 3026493, .i .i64 (.ofNat 700), .i .i64 (.ofNat 1)], [.s 3 4012605, .i .i64
  (.ofNat 700), .i .i64 (.ofNat 1)], [.s 2 15421, .i .i64 (.ofNat 700), .i .i64 (.ofNat 1)], [.s 2 15677, .i .i64 (.ofNat 700), .i .i64 (.ofNat 1)], [.s 3 4021309, .i .i64 (.ofNat
  700), .i .i64 (.ofNat 1)], [.s 1 62, .i .i64 (.ofNat 700), .i .i64 (.ofNat 1)], [.s 2 15678, .i .i64 (.ofNat 700), .i .i64 (.ofNat 1)], [.s 2 11583, .i .i64 (.ofNat 1200), .i .i64
  (.ofNat 5)], [.s 2 15424, .i .i64 (.ofNat 700), .i .i64 (.ofNat 1)], [.s 3 3947840, .i .i64 (.ofNat 700), .i .i64 (.ofNat 1)], [.s 2 15936, .i .i64 (.ofNat 700), .i .i64 (.ofNat
  1)], [.s 3 4013632, .i .i64 (.ofNat 700), .i .i64 (.ofNat 1)], [.s 2 11100, .i .i64 (.ofNat 900), .i .i64 (.ofNat 4)], [.s 2 15708, .i .i64 (.ofNat 700), .i .i64 (.ofNat 1)], [.s 3
  4013404, .i .i64 (.ofNat 700), .i .i64 (.ofNat 1)], [.s 7 27981941201336676, .i .i64 (.ofNat 1150), .i .i64 (.ofNat 5)], [.s 14 2239892019062521052805406558613097, .i .i64 (.ofNat
  1150), .i .i64 (.ofNat 5)], [.s 2 29545, .i .i64 (.ofNat 700), .i .i64 (.ofNat 1)], [.s 14 2057743977047782653436861915358573, .i .i64 (.ofNat 1150), .i .i64 (.ofNat 5)], [.s 5
  435610083700, .i .i64 (.ofNat 1150), .i .i64 (.ofNat 5)], [.s 1 124, .i .i64 (.ofNat 1105), .i .i64 (.ofNat 2)]])]⟩
noncomputable def mU40 : Memo := ⟨[.sl ⟨.d0, .d0, .d0, .d1, .d6⟩ 0 40 3, .agg [.s 2 12124, .i .i64 (.ofNat 500), .i .i64 (.ofNat 3)]], [(3, [[.s 2 15395, .i .i64 (.ofNat 700), .i
  .i64 (.ofNat 1)], [.s 2 15651, .i .i64 (.ofNat 700), .i .i64 (.ofNat 1)], [.s 3 3947811, .i .i64 (.ofNat 700), .i .i64 (.ofNat 1)], [.s 2 15907, .i .i64 (.ofNat 700), .i .i64
  (.ofNat 1)], [.s 3 4013603, .i .i64 (.ofNat 700), .i .i64 (.ofNat 1)], [.s 3 4021283, .i .i64 (.ofNat 700), .i .i64 (.ofNat 1)], [.s 3 4074794, .i .i64 (.ofNat 1050), .i .i64
  (.ofNat 2)], [.s 1 43, .i .i64 (.ofNat 500), .i .i64 (.ofNat 3)], [.s 1 45, .i .i64 (.ofNat 500), .i .i64 (.ofNat 3)], [.s 3 4074797, .i .i64 (.ofNat 1200), .i .i64 (.ofNat 1)],
  [.s 2 15917, .i .i64 (.ofNat 1050), .i .i64 (.ofNat 2)], [.s 2 23599, .i .i64 (.ofNat 500), .i .i64 (.ofNat 3)], [.s 1 58, .i .i64 (.ofNat 600), .i .i64 (.ofNat 2)], [.s 2 11578,
  .i .i64 (.ofNat 1200), .i .i64 (.ofNat 1)], [.s 2 11578, .i .i64 (.ofNat 1200), .i .i64 (.ofNat 5)], [.s 1 59, .i .i64 (.ofNat 1100), .i .i64 (.ofNat 2)], [.s 1 60, .i .i64 (.ofNat
  700), .i .i64 (.ofNat 1)], [.s 1 61, .i .i64 (.ofNat 700), .i .i64 (.ofNat 1)], [.s 3 3026493, .i .i64 (.ofNat 700), .i .i64 (.ofNat 1)], [.s 3 4012605, .i .i64 (.ofNat 700), .i
  .i64 (.ofNat 1)], [.s 2 15421, .i .i64 (.ofNat 700), .i .i64 (.ofNat 1)], [.s 2 15677, .i .i64 (.ofNat 700), .i .i64 (.ofNat 1)], [.s 3 4021309, .i .i64 (.ofNat 700), .i .i64
  (.ofNat 1)], [.s 1 62, .i .i64 (.ofNat 700), .i .i64 (.ofNat 1)], [.s 2 15678, .i .i64 (.ofNat 700), .i .i64 (.ofNat 1)], [.s 2 11583, .i .i64 (.ofNat 1200), .i .i64 (.ofNat 5)],
  [.s 2 15424, .i .i64 (.ofNat 700), .i .i64 (.ofNat 1)], [.s 3 3947840, .i .i64 (.ofNat 700), .i .i64 (.ofNat 1)], [.s 2 15936, .i .i64 (.ofNat 700), .i .i64 (.ofNat 1)], [.s 3
  4013632, .i .i64 (.ofNat 700), .i .i64 (.ofNat 1)], [.s 2 11100, .i .i64 (.ofNat 900), .i .i64 (.ofNat 4)], [.s 2 15708, .i .i64 (.ofNat 700), .i .i64 (.ofNat 1)], [.s 3 4013404,
  .i .i64 (.ofNat 700), .i .i64 (.ofNat 1)], [.s 7 27981941201336676, .i .i64 (.ofNat 1150), .i .i64 (.ofNat 5)], [.s 2 28265, .i .i64 (.ofNat 700), .i .i64 (.ofNat 1)], [.s 14
  2239892019062521052805406558613097, .i .i64 (.ofNat 1150), .i .i64 (.ofNat 5)], [.s 2 29545, .i .i64 (.ofNat 700), .i .i64 (.ofNat 1)], [.s 14 2057743977047782653436861915358573,
  .i .i64 (.ofNat 1150), .i .i64 (.ofNat 5)], [.s 5 435610083700, .i .i64 (.ofNat 1150), .i .i64 (.ofNat 5)], [.s 1 124, .i .i64 (.ofNat 1105), .i .i64 (.ofNat 2)]])], .tup [.sl
  ⟨.d0, .d0, .d0, .d1, .d7⟩ 0 41 3, .i .i64 (.ofNat 0)], [(3, 138, [[.s 2 15395, .i .i64 (.ofNat 700), .i .i64 (.ofNat 1)], [.s 2 15651, .i .i64 (.ofNat 700), .i .i64 (.ofNat 1)],
  [.s 3 3947811, .i .i64 (.ofNat 700), .i .i64 (.ofNat 1)], [.s 2 15907, .i .i64 (.ofNat 700), .i .i64 (.ofNat 1)], [.s 3 4013603, .i .i64 (.ofNat 700), .i .i64 (.ofNat 1)], [.s 3
  4021283, .i .i64 (.ofNat 700), .i .i64 (.ofNat 1)], [.s 3 4074794, .i .i64 (.ofNat 1050), .i .i64 (.ofNat 2)], [.s 1 43, .i .i64 (.ofNat 500), .i .i64 (.ofNat 3)], [.s 1 45, .i
  .i64 (.ofNat 500), .i .i64 (.ofNat 3)], [.s 3 4074797, .i .i64 (.ofNat 1200), .i .i64 (.ofNat 1)], [.s 2 15917, .i .i64 (.ofNat 1050), .i .i64 (.ofNat 2)], [.s 2 23599, .i .i64
  (.ofNat 500), .i .i64 (.ofNat 3)], [.s 1 58, .i .i64 (.ofNat 600), .i .i64 (.ofNat 2)], [.s 2 11578, .i .i64 (.ofNat 1200), .i .i64 (.ofNat 1)], [.s 2 11578, .i .i64 (.ofNat 1200),
  .i .i64 (.ofNat 5)], [.s 1 59, .i .i64 (.ofNat 1100), .i .i64 (.ofNat 2)], [.s 1 60, .i .i64 (.ofNat 700), .i .i64 (.ofNat 1)], [.s 1 61, .i .i64 (.ofNat 700), .i .i64 (.ofNat 1)],
  [.s 3 3026493, .i .i64 (.ofNat 700), .i .i64 (.ofNat 1)], [.s 3 4012605, .i .i64 (.ofNat 700), .i .i64 (.ofNat 1)], [.s 2 15421, .i .i64 (.ofNat 700), .i .i64 (.ofNat 1)], [.s 2
  15677, .i .i64 (.ofNat 700), .i .i64 (.ofNat 1)], [.s 3 4021309, .i .i64 (.ofNat 700), .i .i64 (.ofNat 1)], [.s 1 62, .i .i64 (.ofNat 700), .i .i64 (.ofNat 1)], [.s 2 15678, .i
  .i64 (.ofNat 700), .i .i64 (.ofNat 1)], [.s 2 11583, .i .i64 (.ofNat 1200), .i .i64 (.ofNat 5)], [.s 2 15424, .i .i64 (.ofNat 700), .i .i64 (.ofNat 1)], [.s 3 3947840, .i .i64
  (.ofNat 700), .i .i64 (.ofNat 1)], [.s 2 15936, .i .i64 (.ofNat 700), .i .i64 (.ofNat 1)], [.s 3 4013632, .i .i64 (.ofNat 700), .i .i64 (.ofNat 1)], [.s 2 11100, .i .i64 (.ofNat
  900), .i .i64 (.ofNat 4)], [.s 2 12124, .i .i64 (.ofNat 500), .i .i64 (.ofNat 3)], [.s 2 15708, .i .i64 (.ofNat 700), .i .i64 (.ofNat 1)], [.s 3 4013404, .i .i64 (.ofNat 700), .i
  .i64 (.ofNat 1)], [.s 7 27981941201336676, .i .i64 (.ofNat 1150), .i .i64 (.ofNat 5)], [.s 2 28265, .i .i64 (.ofNat 700), .i .i64 (.ofNat 1)], [.s 14
  2239892019062521052805406558613097, .i .i64 (.ofNat 1150), .i .i64 (.ofNat 5)], [.s 2 29545, .i .i64 (.ofNat 700), .i .i64 (.ofNat 1)], [.s 14 2057743977047782653436861915358573,
  .i .i64 (.ofNat 1150), .i .i64 (.ofNat 5)], [.s 5 435610083700, .i .i64 (.ofNat 1150), .i .i64 (.ofNat 5)], [.s 1 124, .i .i64 (.ofNat 1105), .i .i64 (.ofNat 2)]])]⟩
noncomputable def mU55 : Memo := ⟨[.sl ⟨.d0, .d0, .d0, .d1, .d6⟩ 0 55 3, .agg [.s 1 92, .i .i64 (.ofNat 200), .i .i64 (.ofNat 4)]], [(3, [[.s 2 15395, .i .i64 (.ofNat 700), .i .i64
  (.ofNat 1)], [.s 2 15651, .i .i64 (.ofNat 700), .i .i64 (.ofNat 1)], [.s 3 3947811, .i .i64 (.ofNat 700), .i .i64 (.ofNat 1)], [.s 2 15907, .i .i64 (.ofNat 700), .i .i64 (.ofNat
  1)], [.s 3 4013603, .i .i64 (.ofNat 700), .i .i64 (.ofNat 1)], [.s 3 4021283, .i .i64 (.ofNat 700), .i .i64 (.ofNat 1)], [.s 1 42, .i .i64 (.ofNat 400), .i .i64 (.ofNat 3)], [.s 2
  10794, .i .i64 (.ofNat 200), .i .i64 (.ofNat 1)], [.s 3 4074794, .i .i64 (.ofNat 1050), .i .i64 (.ofNat 2)], [.s 1 43, .i .i64 (.ofNat 500), .i .i64 (.ofNat 3)], [.s 1 43, .i .i64
  (.ofNat 200), .i .i64 (.ofNat 4)], [.s 1 45, .i .i64 (.ofNat 500), .i .i64 (.ofNat 3)], [.s 1 45, .i .i64 (.ofNat 200), .i .i64 (.ofNat 4)], [.s 3 4074797, .i .i64 (.ofNat 1200),
  .i .i64 (.ofNat 1)], [.s 2 15917, .i .i64 (.ofNat 1050), .i .i64 (.ofNat 2)], [.s 2 11822, .i .i64 (.ofNat 450), .i .i64 (.ofNat 1)], [.s 1 47, .i .i64 (.ofNat 400), .i .i64
  (.ofNat 3)], [.s 2 12079, .i .i64 (.ofNat 400), .i .i64 (.ofNat 3)], [.s 2 23599, .i .i64 (.ofNat 500), .i .i64 (.ofNat 3)], [.s 1 58, .i .i64 (.ofNat 600), .i .i64 (.ofNat 2)],
  [.s 2 11578, .i .i64 (.ofNat 1200), .i .i64 (.ofNat 1)], [.s 2 11578, .i .i64 (.ofNat 1200), .i .i64 (.ofNat 5)], [.s 1 59, .i .i64 (.ofNat 1100), .i .i64 (.ofNat 2)], [.s 1 60, .i
  .i64 (.ofNat 700), .i .i64 (.ofNat 1)], [.s 2 15420, .i .i64 (.ofNat 400), .i .i64 (.ofNat 3)], [.s 1 61, .i .i64 (.ofNat 700), .i .i64 (.ofNat 1)], [.s 3 3026493, .i .i64 (.ofNat
  700), .i .i64 (.ofNat 1)], [.s 3 4012605, .i .i64 (.ofNat 700), .i .i64 (.ofNat 1)], [.s 2 15421, .i .i64 (.ofNat 700), .i .i64 (.ofNat 1)], [.s 2 15677, .i .i64 (.ofNat 700), .i
  .i64 (.ofNat 1)], [.s 3 4021309, .i .i64 (.ofNat 700), .i .i64 (.ofNat 1)], [.s 1 62, .i .i64 (.ofNat 700), .i .i64 (.ofNat 1)], [.s 2 15678, .i .i64 (.ofNat 700), .i .i64 (.ofNat
  1)], [.s 2 15934, .i .i64 (.ofNat 400), .i .i64 (.ofNat 3)], [.s 2 11583, .i .i64 (.ofNat 1200), .i .i64 (.ofNat 5)], [.s 2 15424, .i .i64 (.ofNat 700), .i .i64 (.ofNat 1)], [.s 3
  3947840, .i .i64 (.ofNat 700), .i .i64 (.ofNat 1)], [.s 2 15936, .i .i64 (.ofNat 700), .i .i64 (.ofNat 1)], [.s 3 4013632, .i .i64 (.ofNat 700), .i .i64 (.ofNat 1)], [.s 2 11100,
  .i .i64 (.ofNat 900), .i .i64 (.ofNat 4)], [.s 2 12124, .i .i64 (.ofNat 500), .i .i64 (.ofNat 3)], [.s 2 15708, .i .i64 (.ofNat 700), .i .i64 (.ofNat 1)], [.s 3 4013404, .i .i64
  (.ofNat 700), .i .i64 (.ofNat 1)], [.s 1 94, .i .i64 (.ofNat 200), .i .i64 (.ofNat 2)], [.s 3 7760228, .i .i64 (.ofNat 400), .i .i64 (.ofNat 3)], [.s 7 27981941201336676, .i .i64
  (.ofNat 1150), .i .i64 (.ofNat 5)], [.s 2 28265, .i .i64 (.ofNat 700), .i .i64 (.ofNat 1)], [.s 14 2239892019062521052805406558613097, .i .i64 (.ofNat 1150), .i .i64 (.ofNat 5)],
  [.s 2 29545, .i .i64 (.ofNat 700), .i .i64 (.ofNat 1)], [.s 14 2057743977047782653436861915358573, .i .i64 (.ofNat 1150), .i .i64 (.ofNat 5)], [.s 3 6582125, .i .i64 (.ofNat 400),
  .i .i64 (.ofNat 3)], [.s 3 7169394, .i .i64 (.ofNat 400), .i .i64 (.ofNat 3)], [.s 5 435610083700, .i .i64 (.ofNat 1150), .i .i64 (.ofNat 5)], [.s 3 7499640, .i .i64 (.ofNat 500),
  .i .i64 (.ofNat 3)], [.s 1 124, .i .i64 (.ofNat 1105), .i .i64 (.ofNat 2)]])], .tup [.sl ⟨.d0, .d0, .d0, .d1, .d7⟩ 0 56 3, .i .i64 (.ofNat 0)], [(3, 138, [[.s 2 15395, .i .i64
  (.ofNat 700), .i .i64 (.ofNat 1)], [.s 2 15651, .i .i64 (.ofNat 700), .i .i64 (.ofNat 1)], [.s 3 3947811, .i .i64 (.ofNat 700), .i .i64 (.ofNat 1)], [.s 2 15907, .i .i64 (.ofNat
  700), .i .i64 (.ofNat 1)], [.s 3 4013603, .i .i64 (.ofNat 700), .i .i64 (.ofNat 1)], [.s 3 4021283, .i .i64 (.ofNat 700), .i .i64 (.ofNat 1)], [.s 1 42, .i .i64 (.ofNat 400), .i
  .i64 (.ofNat 3)], [.s 2 10794, .i .i64 (.ofNat 200), .i .i64 (.ofNat 1)], [.s 3 4074794, .i .i64 (.ofNat 1050), .i .i64 (.ofNat 2)], [.s 1 43, .i .i64 (.ofNat 500), .i .i64 (.ofNat
  3)], [.s 1 43, .i .i64 (.ofNat 200), .i .i64 (.ofNat 4)], [.s 1 45, .i .i64 (.ofNat 500), .i .i64 (.ofNat 3)], [.s 1 45, .i .i64 (.ofNat 200), .i .i64 (.ofNat 4)], [.s 3 4074797,
  .i .i64 (.ofNat 1200), .i .i64 (.ofNat 1)], [.s 2 15917, .i .i64 (.ofNat 1050), .i .i64 (.ofNat 2)], [.s 2 11822, .i .i64 (.ofNat 450), .i .i64 (.ofNat 1)], [.s 1 47, .i .i64
  (.ofNat 400), .i .i64 (.ofNat 3)], [.s 2 12079, .i .i64 (.ofNat 400), .i .i64 (.ofNat 3)], [.s 2 23599, .i .i64 (.ofNat 500), .i .i64 (.ofNat 3)], [.s 1 58, .i .i64 (.ofNat 600),
  .i .i64 (.ofNat 2)], [.s 2 11578, .i .i64 (.ofNat 1200), .i .i64 (.ofNat 1)], [.s 2 11578, .i .i64 (.ofNat 1200), .i .i64 (.ofNat 5)], [.s 1 59, .i .i64 (.ofNat 1100), .i .i64
  (.ofNat 2)], [.s 1 60, .i .i64 (.ofNat 700), .i .i64 (.ofNat 1)], [.s 2 15420, .i .i64 (.ofNat 400), .i .i64 (.ofNat 3)], [.s 1 61, .i .i64 (.ofNat 700), .i .i64 (.ofNat 1)], [.s 3
  3026493, .i .i64 (.ofNat 700), .i .i64 (.ofNat 1)], [.s 3 4012605, .i .i64 (.ofNat 700), .i .i64 (.ofNat 1)], [.s 2 15421, .i .i64 (.ofNat 700), .i .i64 (.ofNat 1)], [.s 2 15677,
  .i .i64 (.ofNat 700), .i .i64 (.ofNat 1)], [.s 3 4021309, .i .i64 (.ofNat 700), .i .i64 (.ofNat 1)], [.s 1 62, .i .i64 (.ofNat 700), .i .i64 (.ofNat 1)], [.s 2 15678, .i .i64
  (.ofNat 700), .i .i64 (.ofNat 1)], [.s 2 15934, .i .i64 (.ofNat 400), .i .i64 (.ofNat 3)], [.s 2 11583, .i .i64 (.ofNat 1200), .i .i64 (.ofNat 5)], [.s 2 15424, .i .i64 (.ofNat
  700), .i .i64 (.ofNat 1)], [.s 3 3947840, .i .i64 (.ofNat 700), .i .i64 (.ofNat 1)], [.s 2 15936, .i .i64 (.ofNat 700), .i .i64 (.ofNat 1)], [.s 3 4013632, .i .i64 (.ofNat 700), .i
  .i64 (.ofNat 1)], [.s 1 92, .i .i64 (.ofNat 200), .i .i64 (.ofNat 4)], [.s 2 11100, .i .i64 (.ofNat 900), .i .i64 (.ofNat 4)], [.s 2 12124, .i .i64 (.ofNat 500), .i .i64 (.ofNat
  3)], [.s 2 15708, .i .i64 (.ofNat 700), .i .i64 (.ofNat 1)], [.s 3 4013404, .i .i64 (.ofNat 700), .i .i64 (.ofNat 1)], [.s 1 94, .i .i64 (.ofNat 200), .i .i64 (.ofNat 2)], [.s 3
  7760228, .i .i64 (.ofNat 400), .i .i64 (.ofNat 3)], [.s 7 27981941201336676, .i .i64 (.ofNat 1150), .i .i64 (.ofNat 5)], [.s 2 28265, .i .i64 (.ofNat 700), .i .i64 (.ofNat 1)], [.s
  14 2239892019062521052805406558613097, .i .i64 (.ofNat 1150), .i .i64 (.ofNat 5)], [.s 2 29545, .i .i64 (.ofNat 700), .i .i64 (.ofNat 1)], [.s 14
  2057743977047782653436861915358573, .i .i64 (.ofNat 1150), .i .i64 (.ofNat 5)], [.s 3 6582125, .i .i64 (.ofNat 400), .i .i64 (.ofNat 3)], [.s 3 7169394, .i .i64 (.ofNat 400), .i
  .i64 (.ofNat 3)], [.s 5 435610083700, .i .i64 (.ofNat 1150), .i .i64 (.ofNat 5)], [.s 3 7499640, .i .i64 (.ofNat 500), .i .i64 (.ofNat 3)], [.s 1 124, .i .i64 (.ofNat 1105), .i
  .i64 (.ofNat 2)]])]⟩
theorem fU1 : memoFact call0 14 10000 48 mU1 = true := by kernel_rfl
theorem fU14 : memoFact call0 14 10000 48 mU14 = true := by kernel_rfl
theorem fU17 : memoFact call0 14 10000 48 mU17 = true := by kernel_rfl
theorem fU31 : memoFact call0 14 10000 48 mU31 = true := by kernel_rfl
theorem fU32 : memoFact call0 14 10000 48 mU32 = true := by kernel_rfl
theorem fU40 : memoFact call0 14 10000 48 mU40 = true := by kernel_rfl
theorem fU55 : memoFact call0 14 10000 48 mU55 = true := by kernel_rfl
end Go.Proofs.YtkacnifdhfffmaaGreatDoor
end
