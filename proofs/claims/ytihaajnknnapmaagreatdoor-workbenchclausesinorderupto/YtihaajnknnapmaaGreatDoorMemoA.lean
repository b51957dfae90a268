/-
  A part of the proof of the card of WorkbenchClausesInOrder (second form): lemmas that the text Card uses. No condition of its own.
-/
import Derived.Test.YtihaajnknnapmaaGreatDoorEv10
import Derived.Test.YtihaajnknnapmaaGreatDoorEv09
import Derived.Test.YtihaajnknnapmaaGreatDoorProg
import Derived.KernelRfl
set_option linter.all false
set_option linter.unusedVariables false
set_option linter.unusedSimpArgs false
section
open Go Go.Ev
namespace Go.Proofs.YtihaajnknnapmaaGreatDoor
/-- an int -/
def iV (n : Nat) : V := .i .i64 (.ofNat n)
/-- strings.asciiSpace -/
def spaceEls : List (List V) := [[.i .u8 (.ofNat 0)], [.i .u8 (.ofNat 0)], [.i .u8 (.ofNat 0)], [.i .u8 (.ofNat 0)], [.i .u8 (.ofNat 0)], [.i .u8 (.ofNat 0)], [.i .u8 (.ofNat 0)], [.i .u8 (.ofNat 0)], [.i .u8 (.ofNat 0)], [.i .u8 (.ofNat 1)], [.i .u8 (.ofNat 1)], [.i .u8 (.ofNat 1)], [.i .u8 (.ofNat 1)], [.i .u8 (.ofNat 1)], [.i .u8 (.ofNat 0)], [.i .u8 (.ofNat 0)], [.i .u8 (.ofNat 0)], [.i .u8 (.ofNat 0)], [.i .u8 (.ofNat 0)], [.i .u8 (.ofNat 0)], [.i .u8 (.ofNat 0)], [.i .u8 (.ofNat 0)], [.i .u8 (.ofNat 0)], [.i .u8 (.ofNat 0)], [.i .u8 (.ofNat 0)], [.i .u8 (.ofNat 0)], [.i .u8 (.ofNat 0)], [.i .u8 (.ofNat 0)], [.i .u8 (.ofNat 0)], [.i .u8 (.ofNat 0)], [.i .u8 (.ofNat 0)], [.i .u8 (.ofNat 0)], [.i .u8 (.ofNat 1)], [.i .u8 (.ofNat 0)], [.i .u8 (.ofNat 0)], [.i .u8 (.ofNat 0)], [.i .u8 (.ofNat 0)], [.i .u8 (.ofNat 0)], [.i .u8 (.ofNat 0)], [.i .u8 (.ofNat 0)], [.i .u8 (.ofNat 0)], [.i .u8 (.ofNat 0)], [.i .u8 (.ofNat 0)], [.i .u8 (.ofNat 0)], [.i .u8 (.ofNat 0)], [.i .u8 (.ofNat 0)], [.i .u8 (.ofNat 0)], [.i .u8 (.ofNat 0)], [.i .u8 (.ofNat 0)], [.i .u8 (.ofNat 0)], [.i .u8 (.ofNat 0)], [.i .u8 (.ofNat 0)], [.i .u8 (.ofNat 0)], [.i .u8 (.ofNat 0)], [.i .u8 (.ofNat 0)], [.i .u8 (.ofNat 0)], [.i .u8 (.ofNat 0)], [.i .u8 (.ofNat 0)], [.i .u8 (.ofNat 0)], [.i .u8 (.ofNat 0)], [.i .u8 (.ofNat 0)], [.i .u8 (.ofNat 0)], [.i .u8 (.ofNat 0)], [.i .u8 (.ofNat 0)], [.i .u8 (.ofNat 0)], [.i .u8 (.ofNat 0)], [.i .u8 (.ofNat 0)], [.i .u8 (.ofNat 0)], [.i .u8 (.ofNat 0)], [.i .u8 (.ofNat 0)], [.i .u8 (.ofNat 0)], [.i .u8 (.ofNat 0)], [.i .u8 (.ofNat 0)], [.i .u8 (.ofNat 0)], [.i .u8 (.ofNat 0)], [.i .u8 (.ofNat 0)], [.i .u8 (.ofNat 0)], [.i .u8 (.ofNat 0)], [.i .u8 (.ofNat 0)], [.i .u8 (.ofNat 0)], [.i .u8 (.ofNat 0)], [.i .u8 (.ofNat 0)], [.i .u8 (.ofNat 0)], [.i .u8 (.ofNat 0)], [.i .u8 (.ofNat 0)], [.i .u8 (.ofNat 0)], [.i .u8 (.ofNat 0)], [.i .u8 (.ofNat 0)], [.i .u8 (.ofNat 0)], [.i .u8 (.ofNat 0)], [.i .u8 (.ofNat 0)], [.i .u8 (.ofNat 0)], [.i .u8 (.ofNat 0)], [.i .u8 (.ofNat 0)], [.i .u8 (.ofNat 0)], [.i .u8 (.ofNat 0)], [.i .u8 (.ofNat 0)], [.i .u8 (.ofNat 0)], [.i .u8 (.ofNat 0)], [.i .u8 (.ofNat 0)], [.i .u8 (.ofNat 0)], [.i .u8 (.ofNat 0)], [.i .u8 (.ofNat 0)], [.i .u8 (.ofNat 0)], [.i .u8 (.ofNat 0)], [.i .u8 (.ofNat 0)], [.i .u8 (.ofNat 0)], [.i .u8 (.ofNat 0)], [.i .u8 (.ofNat 0)], [.i .u8 (.ofNat 0)], [.i .u8 (.ofNat 0)], [.i .u8 (.ofNat 0)], [.i .u8 (.ofNat 0)], [.i .u8 (.ofNat 0)], [.i .u8 (.ofNat 0)], [.i .u8 (.ofNat 0)], [.i .u8 (.ofNat 0)], [.i .u8 (.ofNat 0)], [.i .u8 (.ofNat 0)], [.i .u8 (.ofNat 0)], [.i .u8 (.ofNat 0)], [.i .u8 (.ofNat 0)], [.i .u8 (.ofNat 0)], [.i .u8 (.ofNat 0)], [.i .u8 (.ofNat 0)], [.i .u8 (.ofNat 0)], [.i .u8 (.ofNat 0)], [.i .u8 (.ofNat 0)], [.i .u8 (.ofNat 0)], [.i .u8 (.ofNat 0)], [.i .u8 (.ofNat 0)], [.i .u8 (.ofNat 0)], [.i .u8 (.ofNat 0)], [.i .u8 (.ofNat 0)], [.i .u8 (.ofNat 0)], [.i .u8 (.ofNat 0)], [.i .u8 (.ofNat 0)], [.i .u8 (.ofNat 0)], [.i .u8 (.ofNat 0)], [.i .u8 (.ofNat 0)], [.i .u8 (.ofNat 0)], [.i .u8 (.ofNat 0)], [.i .u8 (.ofNat 0)], [.i .u8 (.ofNat 0)], [.i .u8 (.ofNat 0)], [.i .u8 (.ofNat 0)], [.i .u8 (.ofNat 0)], [.i .u8 (.ofNat 0)], [.i .u8 (.ofNat 0)], [.i .u8 (.ofNat 0)], [.i .u8 (.ofNat 0)], [.i .u8 (.ofNat 0)], [.i .u8 (.ofNat 0)], [.i .u8 (.ofNat 0)], [.i .u8 (.ofNat 0)], [.i .u8 (.ofNat 0)], [.i .u8 (.ofNat 0)], [.i .u8 (.ofNat 0)], [.i .u8 (.ofNat 0)], [.i .u8 (.ofNat 0)], [.i .u8 (.ofNat 0)], [.i .u8 (.ofNat 0)], [.i .u8 (.ofNat 0)], [.i .u8 (.ofNat 0)], [.i .u8 (.ofNat 0)], [.i .u8 (.ofNat 0)], [.i .u8 (.ofNat 0)], [.i .u8 (.ofNat 0)], [.i .u8 (.ofNat 0)], [.i .u8 (.ofNat 0)], [.i .u8 (.ofNat 0)], [.i .u8 (.ofNat 0)], [.i .u8 (.ofNat 0)], [.i .u8 (.ofNat 0)], [.i .u8 (.ofNat 0)], [.i .u8 (.ofNat 0)], [.i .u8 (.ofNat 0)], [.i .u8 (.ofNat 0)], [.i .u8 (.ofNat 0)], [.i .u8 (.ofNat 0)], [.i .u8 (.ofNat 0)], [.i .u8 (.ofNat 0)], [.i .u8 (.ofNat 0)], [.i .u8 (.ofNat 0)], [.i .u8 (.ofNat 0)], [.i .u8 (.ofNat 0)], [.i .u8 (.ofNat 0)], [.i .u8 (.ofNat 0)], [.i .u8 (.ofNat 0)], [.i .u8 (.ofNat 0)], [.i .u8 (.ofNat 0)], [.i .u8 (.ofNat 0)], [.i .u8 (.ofNat 0)], [.i .u8 (.ofNat 0)], [.i .u8 (.ofNat 0)], [.i .u8 (.ofNat 0)], [.i .u8 (.ofNat 0)], [.i .u8 (.ofNat 0)], [.i .u8 (.ofNat 0)], [.i .u8 (.ofNat 0)], [.i .u8 (.ofNat 0)], [.i .u8 (.ofNat 0)], [.i .u8 (.ofNat 0)], [.i .u8 (.ofNat 0)], [.i .u8 (.ofNat 0)], [.i .u8 (.ofNat 0)], [.i .u8 (.ofNat 0)], [.i .u8 (.ofNat 0)], [.i .u8 (.ofNat 0)], [.i .u8 (.ofNat 0)], [.i .u8 (.ofNat 0)], [.i .u8 (.ofNat 0)], [.i .u8 (.ofNat 0)], [.i .u8 (.ofNat 0)], [.i .u8 (.ofNat 0)], [.i .u8 (.ofNat 0)], [.i .u8 (.ofNat 0)], [.i .u8 (.ofNat 0)], [.i .u8 (.ofNat 0)], [.i .u8 (.ofNat 0)], [.i .u8 (.ofNat 0)], [.i .u8 (.ofNat 0)], [.i .u8 (.ofNat 0)], [.i .u8 (.ofNat 0)], [.i .u8 (.ofNat 0)], [.i .u8 (.ofNat 0)], [.i .u8 (.ofNat 0)], [.i .u8 (.ofNat 0)], [.i .u8 (.ofNat 0)], [.i .u8 (.ofNat 0)], [.i .u8 (.ofNat 0)], [.i .u8 (.ofNat 0)], [.i .u8 (.ofNat 0)], [.i .u8 (.ofNat 0)], [.i .u8 (.ofNat 0)], [.i .u8 (.ofNat 0)], [.i .u8 (.ofNat 0)], [.i .u8 (.ofNat 0)], [.i .u8 (.ofNat 0)], [.i .u8 (.ofNat 0)], [.i .u8 (.ofNat 0)], [.i .u8 (.ofNat 0)], [.i .u8 (.ofNat 0)], [.i .u8 (.ofNat 0)], [.i .u8 (.ofNat 0)], [.i .u8 (.ofNat 0)], [.i .u8 (.ofNat 0)], [.i .u8 (.ofNat 0)], [.i .u8 (.ofNat 0)], [.i .u8 (.ofNat 0)], [.i .u8 (.ofNat 0)], [.i .u8 (.ofNat 0)], [.i .u8 (.ofNat 0)], [.i .u8 (.ofNat 0)], [.i .u8 (.ofNat 0)], [.i .u8 (.ofNat 0)]]
/-- what package source's System hands back at the three names that divided() asks for -/
noncomputable def sysF : FOp := ⟨fun _ args h => match args with
  | [.s l c, .i .i64 (.ofNat n)] => bif (Nat.beq l 1 && (Nat.beq c 112 && Nat.beq n 1)) || (Nat.beq l 1 && (Nat.beq c 113 && Nat.beq n 1)) then
      (match mget (idOf 2) h.mem with
        | some (.cells sz els _ _) => bif Nat.beq sz 1 && beqLL els spaceEls then .ok (.tup [.s 0 0, .b false]) h else .bad
        | _ => .bad) else bif Nat.beq l 4 && (Nat.beq c 1702195828 && Nat.beq n 0) then
      (match mget (idOf 2) h.mem with
        | some (.cells sz els _ _) => bif Nat.beq sz 1 && beqLL els spaceEls then .ok (.tup [.s 0 0, .b true]) h else .bad
        | _ => .bad) else .bad
  | _ => .bad⟩
noncomputable def sp0 (f : Nat) : Option FOp :=
  bif Nat.beq f 334 then some cmpF else bif Nat.beq f 393 then some countF else bif Nat.beq f 339 then some indexByteF else bif Nat.beq f 170 then some sysF else bif Nat.beq f 367 then some sameF else bif Nat.beq f 383 then some (seqG 356 3) else none
noncomputable def call0 : CallT := callE Tryz.prog sp0 5000 300
/-- memos, where at least base ids have been given -/
noncomputable def memosG (fuel base : Nat) (l : List Memo) (alt : FOp) : FOp := ⟨fun call args h => bif Nat.ble base h.next.toNat then (memosF fuel base l alt).run call args h else alt.run call args h⟩
end Go.Proofs.YtihaajnknnapmaaGreatDoor
end
section
open Go Go.Ev
namespace Go.Proofs.YtihaajnknnapmaaGreatDoor
noncomputable def mU1 : Memo := ⟨[.sl ⟨.d0, .d0, .d0, .d1, .d6⟩ 0 1 3, .agg [.s 3 4074797, iV 1200, iV 1]], [(3, [[.s 2 11578, iV 1200, iV 1]])], .tup [.sl ⟨.d0, .d0, .d0, .d1,
  .d7⟩ 0 2 3, iV 0], [(3, 131, [[.s 3 4074797, iV 1200, iV 1], [.s 2 11578, iV 1200, iV 1]])]⟩
noncomputable def mU14 : Memo := ⟨[.sl ⟨.d0, .d0, .d0, .d1, .d6⟩ 0 14 3, .agg [.s 2 15708, iV 700, iV 1]], [(3, [[.s 3 4074794, iV 1050, iV 2], [.s 3 4074797, iV 1200, iV 1], [.s 2
  15917, iV 1050, iV 2], [.s 2 11578, iV 1200, iV 1], [.s 2 11578, iV 1200, iV 5], [.s 1 59, iV 1100, iV 2], [.s 1 61, iV 700, iV 1], [.s 2 11583, iV 1200, iV 5], [.s 2 11100, iV
  900, iV 4], [.s 7 27981941201336676, iV 1150, iV 5], [.s 14 2239892019062521052805406558613097, iV 1150, iV 5], [.s 14 2057743977047782653436861915358573, iV 1150, iV 5], [.s 5
  435610083700, iV 1150, iV 5], [.s 1 124, iV 1105, iV 2]])], .tup [.sl ⟨.d0, .d0, .d0, .d1, .d7⟩ 0 15 3, iV 0], [(3, 131, [[.s 3 4074794, iV 1050, iV 2], [.s 3 4074797, iV 1200, iV
  1], [.s 2 15917, iV 1050, iV 2], [.s 2 11578, iV 1200, iV 1], [.s 2 11578, iV 1200, iV 5], [.s 1 59, iV 1100, iV 2], [.s 1 61, iV 700, iV 1], [.s 2 11583, iV 1200, iV 5], [.s 2
  11100, iV 900, iV 4], [.s 2 15708, iV 700, iV 1], [.s 7 27981941201336676, iV 1150, iV 5], [.s 14 2239892019062521052805406558613097, iV 1150, iV 5], [.s 14
  2057743977047782653436861915358573, iV 1150, iV 5], [.s 5 435610083700, iV 1150, iV 5], [.s 1 124, iV 1105, iV 2]])]⟩
noncomputable def mU17 : Memo := ⟨[.sl ⟨.d0, .d0, .d0, .d1, .d6⟩ 0 17 3, .agg [.s 2 15424, iV 700, iV 1]], [(3, [[.s 3 4074794, iV 1050, iV 2], [.s 3 4074797, iV 1200, iV 1], [.s 2
  15917, iV 1050, iV 2], [.s 2 11578, iV 1200, iV 1], [.s 2 11578, iV 1200, iV 5], [.s 1 59, iV 1100, iV 2], [.s 1 61, iV 700, iV 1], [.s 2 15677, iV 700, iV 1], [.s 2 11583, iV
  1200, iV 5], [.s 2 11100, iV 900, iV 4], [.s 2 15708, iV 700, iV 1], [.s 3 4013404, iV 700, iV 1], [.s 7 27981941201336676, iV 1150, iV 5], [.s 14
  2239892019062521052805406558613097, iV 1150, iV 5], [.s 14 2057743977047782653436861915358573, iV 1150, iV 5], [.s 5 435610083700, iV 1150, iV 5], [.s 1 124, iV 1105, iV 2]])],
  .tup [.sl ⟨.d0, .d0, .d0, .d1, .d7⟩ 0 18 3, iV 0], [(3, 131, [[.s 3 4074794, iV 1050, iV 2], [.s 3 4074797, iV 1200, iV 1], [.s 2 15917, iV 1050, iV 2], [.s 2 11578, iV 1200, iV
  1], [.s 2 11578, iV 1200, iV 5], [.s 1 59, iV 1100, iV 2], [.s 1 61, iV 700, iV 1], [.s 2 15677, iV 700, iV 1], [.s 2 11583, iV 1200, iV 5], [.s 2 15424, iV 700, iV 1], [.s 2
  11100, iV 900, iV 4], [.s 2 15708, iV 700, iV 1], [.s 3 4013404, iV 700, iV 1], [.s 7 27981941201336676, iV 1150, iV 5], [.s 14 2239892019062521052805406558613097, iV 1150, iV 5],
  [.s 14 2057743977047782653436861915358573, iV 1150, iV 5], [.s 5 435610083700, iV 1150, iV 5], [.s 1 124, iV 1105, iV 2]])]⟩
noncomputable def mU31 : Memo := ⟨[.sl ⟨.d0, .d0, .d0, .d1, .d6⟩ 0 31 3, .agg [.s 2 15395, iV 700, iV 1]], [(3, [[.s 2 15651, iV 700, iV 1], [.s 3 4021283, iV 700, iV 1], [.s 3
  4074794, iV 1050, iV 2], [.s 3 4074797, iV 1200, iV 1], [.s 2 15917, iV 1050, iV 2], [.s 2 11578, iV 1200, iV 1], [.s 2 11578, iV 1200, iV 5], [.s 1 59, iV 1100, iV 2], [.s 1 60,
  iV 700, iV 1], [.s 1 61, iV 700, iV 1], [.s 3 3026493, iV 700, iV 1], [.s 3 4012605, iV 700, iV 1], [.s 2 15421, iV 700, iV 1], [.s 2 15677, iV 700, iV 1], [.s 3 4021309, iV 700,
  iV 1], [.s 1 62, iV 700, iV 1], [.s 2 15678, iV 700, iV 1], [.s 2 11583, iV 1200, iV 5], [.s 2 15424, iV 700, iV 1], [.s 3 3947840, iV 700, iV 1], [.s 2 15936, iV 700, iV 1], [.s 3
  4013632, iV 700, iV 1], [.s 2 11100, iV 900, iV 4], [.s 2 15708, iV 700, iV 1], [.s 3 4013404, iV 700, iV 1], [.s 7 27981941201336676, iV 1150, iV 5], [.s 14
  2239892019062521052805406558613097, iV 1150, iV 5], [.s 2 29545, iV 700, iV 1], [.s 14 2057743977047782653436861915358573, iV 1150, iV 5], [.s 5 435610083700, iV 1150, iV 5], [.s 1
  124, iV 1105, iV 2]])], .tup [.sl ⟨.d0, .d0, .d0, .d1, .d7⟩ 0 32 3, iV 0], [(3, 131, [[.s 2 15395, iV 700, iV 1], [.s 2 15651, iV 700, iV 1], [.s 3 4021283, iV 700, iV 1], [.s 3
  4074794, iV 1050, iV 2], [.s 3 4074797, iV 1200, iV 1], [.s 2 15917, iV 1050, iV 2], [.s 2 11578, iV 1200, iV 1], [.s 2 11578, iV 1200, iV 5], [.s 1 59, iV 1100, iV 2], [.s 1 60,
  iV 700, iV 1], [.s 1 61, iV 700, iV 1], [.s 3 3026493, iV 700, iV 1], [.s 3 4012605, iV 700, iV 1], [.s 2 15421, iV 700, iV 1], [.s 2 15677, iV 700, iV 1], [.s 3 4021309, iV 700,
  iV 1], [.s 1 62, iV 700, iV 1], [.s 2 15678, iV 700, iV 1], [.s 2 11583, iV 1200, iV 5], [.s 2 15424, iV 700, iV 1], [.s 3 3947840, iV 700, iV 1], [.s 2 15936, iV 700, iV 1], [.s 3
  4013632, iV 700, iV 1], [.s 2 11100, iV 900, iV 4], [.s 2 15708, iV 700, iV 1], [.s 3 4013404, iV 700, iV 1], [.s 7 27981941201336676, iV 1150, iV 5], [.s 14
  2239892019062521052805406558613097, iV 1150, iV 5], [.s 2 29545, iV 700, iV 1], [.s 14 2057743977047782653436861915358573, iV 1150, iV 5], [.s 5 435610083700, iV 1150, iV 5], [.s 1
  124, iV 1105, iV 2]])]⟩
noncomputable def mU32 : Memo := ⟨[.sl ⟨.d0, .d0, .d0, .d1, .d6⟩ 0 32 3, .agg [.s 2 15907, iV 700, iV 1]], [(3, [[.s 2 15395, iV 700, iV 1], [.s 2 15651, iV 700, iV 1], [.s 3
  4021283, iV 700, iV 1], [.s 3 4074794, iV 1050, iV 2], [.s 3 4074797, iV 1200, iV 1], [.s 2 15917, iV 1050, iV 2], [.s 2 11578, iV 1200, iV 1], [.s 2 11578, iV 1200, iV 5], [.s 1
  59, iV 1100, iV 2], [.s 1 60, iV 700, iV 1], [.s 1 61, iV 700, iV 1], [.s 3 3026493, iV 700, iV 1], [.s 3 4012605, iV 700, iV 1], [.s 2 15421, iV 700, iV 1], [.s 2 15677, iV 700,
  iV 1], [.s 3 4021309, iV 700, iV 1], [.s 1 62, iV 700, iV 1], [.s 2 15678, iV 700, iV 1], [.s 2 11583, iV 1200, iV 5], [.s 2 15424, iV 700, iV 1], [.s 3 3947840, iV 700, iV 1], [.s
  2 15936, iV 700, iV 1], [.s 3 4013632, iV 700, iV 1], [.s 2 11100, iV 900, iV 4], [.s 2 15708, iV 700, iV 1], [.s 3 4013404, iV 700, iV 1], [.s 7 27981941201336676, iV 1150, iV 5],
  [.s 14 2239892019062521052805406558613097, iV 1150, iV 5], [.s 2 29545, iV 700, iV 1], [.s 14 2057743977047782653436861915358573, iV 1150, iV 5], [.s 5 435610083700, iV 1150, iV
  5], [.s 1 124, iV 1105, iV 2]])], .tup [.sl ⟨.d0, .d0, .d0, .d1, .d7⟩ 0 33 3, iV 0], [(3, 131, [[.s 2 15395, iV 700, iV 1], [.s 2 15651, iV 700, iV 1], [.s 2 15907, iV 700, iV 1],
  [.s 3 4021283, iV 700, iV 1], [.s 3 4074794, iV 1050, iV 2], [.s 3 4074797, iV 1200, iV 1], [.s 2 15917, iV 1050, iV 2], [.s 2 11578, iV 1200, iV 1], [.s 2 11578, iV 1200, iV 5],
  [.s 1 59, iV 1100, iV 2], [.s 1 60, iV 700, iV 1], [.s 1 61, iV 700, iV 1], [.s 3 3026493, iV 700, iV 1], [.s 3 4012605, iV 700, iV 1], [.s 2 15421, iV 700, iV 1], [.s 2 15677, iV
  700, iV 1], [.s 3 4021309, iV 700, iV 1], [.s 1 62, iV 700, iV 1], [.s 2 15678, iV 700, iV 1], [.s 2 11583, iV 1200, iV 5], [.s 2 15424, iV 700, iV 1], [.s 3 3947840, iV 700, iV
  1], [.s 2 15936, iV 700, iV 1], [.s 3 4013632, iV 700, iV 1], [.s 2 11100, iV 900, iV 4], [.s 2 15708, iV 700, iV 1], [.s 3 4013404, iV 700, iV 1], [.s 7 27981941201336676, iV
  1150, iV 5], [.s 14 2239892019062521052805406558613097, iV 1150, iV 5], [.s 2 29545, iV 700, iV 1], [.s 14 2057743977047782653436861915358573, iV 1150, iV 5], [.s 5 435610083700,
  iV 1150, iV 5], [.s 1 124, iV 1105, iV 2]])]⟩
noncomputable def mU40 : Memo := ⟨[.sl ⟨.d0, .d0, .d0, .d1, .d6⟩ 0 40 3, .agg [.s 2 12124, iV 500, iV 3]], [(3, [[.s 2 15395, iV 700, iV 1], [.s 2 15651, iV 700, iV 1], [.s 3
  3947811, iV 700, iV 1], [.s 2 15907, iV 700, iV 1], [.s 3 4013603, iV 700, iV 1], [.s 3 4021283, iV 700, iV 1], [.s 3 4074794, iV 1050, iV 2], [.s 1 43, iV 500, iV 3], [.s 1 45, iV
  500, iV 3], [.s 3 4074797, iV 1200, iV 1], [.s 2 15917, iV 1050, iV 2], [.s 2 23599, iV 500, iV 3], [.s 1 58, iV 600, iV 2], [.s 2 11578, iV 1200, iV 1], [.s 2 11578, iV 1200, iV
  5], [.s 1 59, iV 1100, iV 2], [.s 1 60, iV 700, iV 1], [.s 1 61, iV 700, iV 1], [.s 3 3026493, iV 700, iV 1], [.s 3 4012605, iV 700, iV 1], [.s 2 15421, iV 700, iV 1], [.s 2 15677,
  iV 700, iV 1], [.s 3 4021309, iV 700, iV 1], [.s 1 62, iV 700, iV 1], [.s 2 15678, iV 700, iV 1], [.s 2 11583, iV 1200, iV 5], [.s 2 15424, iV 700, iV 1], [.s 3 3947840, iV 700, iV
  1], [.s 2 15936, iV 700, iV 1], [.s 3 4013632, iV 700, iV 1], [.s 2 11100, iV 900, iV 4], [.s 2 15708, iV 700, iV 1], [.s 3 4013404, iV 700, iV 1], [.s 7 27981941201336676, iV
  1150, iV 5], [.s 2 28265, iV 700, iV 1], [.s 14 2239892019062521052805406558613097, iV 1150, iV 5], [.s 2 29545, iV 700, iV 1], [.s 14 2057743977047782653436861915358573, iV 1150,
  iV 5], [.s 5 435610083700, iV 1150, iV 5], [.s 1 124, iV 1105, iV 2]])], .tup [.sl ⟨.d0, .d0, .d0, .d1, .d7⟩ 0 41 3, iV 0], [(3, 131, [[.s 2 15395, iV 700, iV 1], [.s 2 15651, iV
  700, iV 1], [.s 3 3947811, iV 700, iV 1], [.s 2 15907, iV 700, iV 1], [.s 3 4013603, iV 700, iV 1], [.s 3 4021283, iV 700, iV 1], [.s 3 4074794, iV 1050, iV 2], [.s 1 43, iV 500,
  iV 3], [.s 1 45, iV 500, iV 3], [.s 3 4074797, iV 1200, iV 1], [.s 2 15917, iV 1050, iV 2], [.s 2 23599, iV 500, iV 3], [.s 1 58, iV 600, iV 2], [.s 2 11578, iV 1200, iV 1], [.s 2
  11578, iV 1200, iV 5], [.s 1 59, iV 1100, iV 2], [.s 1 60, iV 700, iV 1], [.s 1 61, iV 700, iV 1], [.s 3 3026493, iV 700, iV 1], [.s 3 4012605, iV 700, iV 1], [.s 2 15421, iV 700,
  iV 1], [.s 2 15677, iV 700, iV 1], [.s 3 4021309, iV 700, iV 1], [.s 1 62, iV 700, iV 1], [.s 2 15678, iV 700, iV 1], [.s 2 11583, iV 1200, iV 5], [.s 2 15424, iV 700, iV 1], [.s 3
  3947840, iV 700, iV 1], [.s 2 15936, iV 700, iV 1], [.s 3 4013632, iV 700, iV 1], [.s 2 11100, iV 900, iV 4], [.s 2 12124, iV 500, iV 3], [.s 2 15708, iV 700, iV 1], [.s 3 4013404,
  iV 700, iV 1], [.s 7 27981941201336676, iV 1150, iV 5], [.s 2 28265, iV 700, iV 1], [.s 14 2239892019062521052805406558613097, iV 1150, iV 5], [.s 2 29545, iV 700, iV 1], [.s 14
  2057743977047782653436861915358573, iV 1150, iV 5], [.s 5 435610083700, iV 1150, iV 5], [.s 1 124, iV 1105, iV 2]])]⟩
noncomputable def mU55 : Memo := ⟨[.sl ⟨.d0, .d0, .d0, .d1, .d6⟩ 0 55 3, .agg [.s 1 92, iV 200, iV 4]], [(3, [[.s 2 15395, iV 700, iV 1], [.s 2 15651, iV 700, iV 1], [.s 3 3947811,
  iV 700, iV 1], [.s 2 15907, iV 700, iV 1], [.s 3 4013603, iV 700, iV 1], [.s 3 4021283, iV 700, iV 1], [.s 1 42, iV 400, iV 3], [.s 2 10794, iV 200, iV 1], [.s 3 4074794, iV 1050,
  iV 2], [.s 1 43, iV 500, iV 3], [.s 1 43, iV 200, iV 4], [.s 1 45, iV 500, iV 3], [.s 1 45, iV 200, iV 4], [.s 3 4074797, iV 1200, iV 1], [.s 2 15917, iV 1050, iV 2], [.s 2 11822,
  iV 450, iV 1], [.s 1 47, iV 400, iV 3], [.s 2 12079, iV 400, iV 3], [.s 2 23599, iV 500, iV 3], [.s 1 58, iV 600, iV 2], [.s 2 11578, iV 1200, iV 1], [.s 2 11578, iV 1200, iV 5],
  [.s 1 59, iV 1100, iV 2], [.s 1 60, iV 700, iV 1], [.s 2 15420, iV 400, iV 3], [.s 1 61, iV 700, iV 1], [.s 3 3026493, iV 700, iV 1], [.s 3 4012605, iV 700, iV 1], [.s 2 15421, iV
  700, iV 1], [.s 2 15677, iV 700, iV 1], [.s 3 4021309, iV 700, iV 1], [.s 1 62, iV 700, iV 1], [.s 2 15678, iV 700, iV 1], [.s 2 15934, iV 400, iV 3], [.s 2 11583, iV 1200, iV 5],
  [.s 2 15424, iV 700, iV 1], [.s 3 3947840, iV 700, iV 1], [.s 2 15936, iV 700, iV 1], [.s 3 4013632, iV 700, iV 1], [.s 2 11100, iV 900, iV 4], [.s 2 12124, iV 500, iV 3], [.s 2
  15708, iV 700, iV 1], [.s 3 4013404, iV 700, iV 1], [.s 1 94, iV 200, iV 2], [.s 3 7760228, iV 400, iV 3], [.s 7 27981941201336676, iV 1150, iV 5], [.s 2 28265, iV 700, iV 1], [.s
  14 2239892019062521052805406558613097, iV 1150, iV 5], [.s 2 29545, iV 700, iV 1], [.s 14 2057743977047782653436861915358573, iV 1150, iV 5], [.s 3 6582125, iV 400, iV 3], [.s 3
  7169394, iV 400, iV 3], [.s 5 435610083700, iV 1150, iV 5], [.s 3 7499640, iV 500, iV 3], [.s 1 124, iV 1105, iV 2]])], .tup [.sl ⟨.d0, .d0, .d0, .d1, .d7⟩ 0 56 3, iV 0], [(3, 131,
  [[.s 2 15395, iV 700, iV 1], [.s 2 15651, iV 700, iV 1], [.s 3 3947811, iV 700, iV 1], [.s 2 15907, iV 700, iV 1], [.s 3 4013603, iV 700, iV 1], [.s 3 4021283, iV 700, iV 1], [.s 1
  42, iV 400, iV 3], [.s 2 10794, iV 200, iV 1], [.s 3 4074794, iV 1050, iV 2], [.s 1 43, iV 500, iV 3], [.s 1 43, iV 200, iV 4], [.s 1 45, iV 500, iV 3], [.s 1 45, iV 200, iV 4],
  [.s 3 4074797, iV 1200, iV 1], [.s 2 15917, iV 1050, iV 2], [.s 2 11822, iV 450, iV 1], [.s 1 47, iV 400, iV 3], [.s 2 12079, iV 400, iV 3], [.s 2 23599, iV 500, iV 3], [.s 1 58,
  iV 600, iV 2], [.s 2 11578, iV 1200, iV 1], [.s 2 11578, iV 1200, iV 5], [.s 1 59, iV 1100, iV 2], [.s 1 60, iV 700, iV 1], [.s 2 15420, iV 400, iV 3], [.s 1 61, iV 700, iV 1], [.s
  3 3026493, iV 700, iV 1], [.s 3 4012605, iV 700, iV 1], [.s 2 15421, iV 700, iV 1], [.s 2 15677, iV 700, iV 1], [.s 3 4021309, iV 700, iV 1], [.s 1 62, iV 700, iV 1], [.s 2 15678,
  iV 700, iV 1], [.s 2 15934, iV 400, iV 3], [.s 2 11583, iV 1200, iV 5], [.s 2 15424, iV 700, iV 1], [.s 3 3947840, iV 700, iV 1], [.s 2 15936, iV 700, iV 1], [.s 3 4013632, iV 700,
  iV 1], [.s 1 92, iV 200, iV 4], [.s 2 11100, iV 900, iV 4], [.s 2 12124, iV 500, iV 3], [.s 2 15708, iV 700, iV 1], [.s 3 4013404, iV 700, iV 1], [.s 1 94, iV 200, iV 2], [.s 3
  7760228, iV 400, iV 3], [.s 7 27981941201336676, iV 1150, iV 5], [.s 2 28265, iV 700, iV 1], [.s 14 2239892019062521052805406558613097, iV 1150, iV 5], [.s 2 29545, iV 700, iV 1],
  [.s 14 2057743977047782653436861915358573, iV 1150, iV 5], [.s 3 6582125, iV 400, iV 3], [.s 3 7169394, iV 400, iV 3], [.s 5 435610083700, iV 1150, iV 5], [.s 3 7499640, iV 500, iV
  3], [.s 1 124, iV 1105, iV 2]])]⟩
theorem fU1 : memoFact call0 14 10000 47 mU1 = true := by kernel_rfl
theorem fU14 : memoFact call0 14 10000 47 mU14 = true := by kernel_rfl
theorem fU17 : memoFact call0 14 10000 47 mU17 = true := by kernel_rfl
theorem fU31 : memoFact call0 14 10000 47 mU31 = true := by kernel_rfl
theorem fU32 : memoFact call0 14 10000 47 mU32 = true := by kernel_rfl
theorem fU40 : memoFact call0 14 10000 47 mU40 = true := by kernel_rfl
theorem fU55 : memoFact call0 14 10000 47 mU55 = true := by kernel_rfl
end Go.Proofs.YtihaajnknnapmaaGreatDoor
end
