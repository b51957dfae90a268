/-
  A part of the proof of the card of WorkGeneralizationIsLeast (second form): lemmas that the text Card uses. No condition of its own.
-/
import Derived.Test.YtaloeffmigffaaaGreatDoorEv09
import Derived.Test.YtaloeffmigffaaaGreatDoorEv08
import Derived.Test.YtaloeffmigffaaaGreatDoorProg
import Derived.KernelRfl
set_option linter.all false
set_option linter.unusedVariables false
set_option linter.unusedSimpArgs false
section
open Go Go.Ev
namespace Go.Proofs.YtaloeffmigffaaaGreatDoor
noncomputable def sp0 (f:Nat):Option FOp:=
  bif Nat.beq f 223 then some cmpF else bif Nat.beq f 273 then some sameF else bif Nat.beq f 298 then some (seqG 276 3) else bif Nat.beq f 36 then some (ndF Tryz.prog 100 10000 36) else bif Nat.beq f 240 then some (ndF Tryz.prog 100 10000 240) else none
noncomputable def call0:CallT:=callE Tryz.prog sp0 5000 300
def mU0:Memo:=⟨[.agg [.i .i64 (.ofNat 5),.i .i64 (.ofNat 0),.s 3 7368801,.b false,.sn,.sn,.sl ⟨.d0,.d0,.d0,.d1,.d6⟩ 0 3 7],.agg [.i .i64 (.ofNat 5),.i .i64 (.ofNat 0),.s 3 7368801,
  .b false,.sn,.sn,.sl ⟨.d0,.d0,.d0,.d1,.d7⟩ 0 3 7]],[(7,[[.i .i64 (.ofNat 3),.i .i64 (.ofNat 0),.s 2 23899,.b false,.sn,.sn,.sn],[.i .i64 (.ofNat 1),.i .i64 (.ofNat
   3),.s 0 0,.b false,.sn,.sn,.sn],[.i .i64 (.ofNat 1),.i .i64 (.ofNat 3),.s 0 0,.b false,.sn,.sn,.sn]]),(7,[[.i .i64 (.ofNat 5),.i .i64 (.ofNat 0),.s 1 46,.b false,
   .sn,.sn,.sl ⟨.d0,.d0,.d0,.d2,.d0⟩ 0 2 7],[.i .i64 (.ofNat 1),.i .i64 (.ofNat 1),.s 0 0,.b false,.sn,.sn,.sn],[.i .i64 (.ofNat 1),.i .i64 (.ofNat 2),.s 0 0,.b
  false,.sn,.sn,.sn]]),(7,[[.i .i64 (.ofNat 3),.i .i64 (.ofNat 0),.s 1 97,.b false,.sn,.sn,.sn],[.i .i64 (.ofNat 1),.i .i64 (.ofNat 0),.s 0 0,.b false,.sn,.sn,
  .sn]])],.tup [.sn,.b false,.i .i64 (.ofNat 0)],[]⟩
def mU1:Memo:=⟨[.agg [.i .i64 (.ofNat 5),.i .i64 (.ofNat 0),.s 3 7368801,.b false,.sn,.sn,.sl ⟨.d0,.d0,.d0,.d1,.d6⟩ 0 3 7],.agg [.i .i64 (.ofNat 5),.i .i64 (.ofNat 0),.s 3 7368801,
  .b false,.sn,.sn,.sl ⟨.d0,.d0,.d0,.d2,.d1⟩ 0 3 7]],[(7,[[.i .i64 (.ofNat 5),.i .i64 (.ofNat 0),.s 1 46,.b false,.sn,.sn,.sl ⟨.d0,.d0,.d0,.d1,.d7⟩ 0 2 7],[.i
  .i64 (.ofNat 1),.i .i64 (.ofNat 5),.s 0 0,.b false,.sn,.sn,.sn],[.i .i64 (.ofNat 5),.i .i64 (.ofNat 0),.s 1 46,.b false,.sn,.sn,.sl ⟨.d0,.d0,.d0,.d2,.d0⟩ 0 2 7]]),
   (7,[[.i .i64 (.ofNat 1),.i .i64 (.ofNat 3),.s 0 0,.b false,.sn,.sn,.sn],[.i .i64 (.ofNat 1),.i .i64 (.ofNat 4),.s 0 0,.b false,.sn,.sn,.sn]]),(7,[[.i .i64 (.ofNat
  1),.i .i64 (.ofNat 3),.s 0 0,.b false,.sn,.sn,.sn],[.i .i64 (.ofNat 1),.i .i64 (.ofNat 6),.s 0 0,.b false,.sn,.sn,.sn]]),(7,[[.i .i64 (.ofNat 5),.i .i64 (.ofNat 0),
   .s 1 46,.b false,.sn,.sn,.sl ⟨.d0,.d0,.d0,.d2,.d2⟩ 0 2 7],[.i .i64 (.ofNat 1),.i .i64 (.ofNat 1),.s 0 0,.b false,.sn,.sn,.sn],[.i .i64 (.ofNat 1),.i .i64 (.ofNat
  2),.s 0 0,.b false,.sn,.sn,.sn]]),(7,[[.i .i64 (.ofNat 3),.i .i64 (.ofNat 0),.s 1 97,.b false,.sn,.sn,.sn],[.i .i64 (.ofNat 1),.i .i64 (.ofNat 0),.s 0 0,.b false,
  .sn,.sn,.sn]])],.tup [.sl ⟨.d0,.d0,.d0,.d2,.d3⟩ 0 4 8,.b true,.i .i64 (.ofNat 0)],[(8,114,[[.i .i64 (.ofNat 2),.i .i64 (.ofNat 5),.i .i64 (.ofNat 0),.s 1 46,.b
  false,.sn,.sn,.sl ⟨.d0,.d0,.d0,.d2,.d4⟩ 0 2 7],[.i .i64 (.ofNat 3),.i .i64 (.ofNat 3),.i .i64 (.ofNat 0),.s 1 97,.b false,.sn,.sn,.sn],[.i .i64 (.ofNat 4),.i .i64
  (.ofNat 1),.i .i64 (.ofNat 0),.s 0 0,.b false,.sn,.sn,.sn],[.i .i64 (.ofNat 5),.i .i64 (.ofNat 1),.i .i64 (.ofNat 1),.s 0 0,.b false,.sn,.sn,.sn]]),(7,27,[[.i .i64
   (.ofNat 3),.i .i64 (.ofNat 0),.s 1 97,.b false,.sn,.sn,.sn],[.i .i64 (.ofNat 1),.i .i64 (.ofNat 6),.s 0 0,.b false,.sn,.sn,.sn]])]⟩
def mU2:Memo:=⟨[.agg [.i .i64 (.ofNat 5),.i .i64 (.ofNat 0),.s 3 7368801,.b false,.sn,.sn,.sl ⟨.d0,.d0,.d0,.d1,.d6⟩ 0 3 7],.agg [.i .i64 (.ofNat 5),.i .i64 (.ofNat 0),.s 3 7368801,
  .b false,.sn,.sn,.sl ⟨.d0,.d0,.d0,.d1,.d7⟩ 0 3 7]],[(7,[[.i .i64 (.ofNat 3),.i .i64 (.ofNat 0),.s 2 23899,.b false,.sn,.sn,.sn],[.i .i64 (.ofNat 1),.i .i64 (.ofNat
   7),.s 0 0,.b false,.sn,.sn,.sn],[.i .i64 (.ofNat 1),.i .i64 (.ofNat 7),.s 0 0,.b false,.sn,.sn,.sn]]),(7,[[.i .i64 (.ofNat 1),.i .i64 (.ofNat 0),.s 0 0,.b false,
  .sn,.sn,.sn],[.i .i64 (.ofNat 1),.i .i64 (.ofNat 1),.s 0 0,.b false,.sn,.sn,.sn],[.i .i64 (.ofNat 1),.i .i64 (.ofNat 6),.s 0 0,.b false,.sn,.sn,.sn]])],.tup [.sl
  ⟨.d0,.d0,.d0,.d2,.d0⟩ 0 3 8,.b true,.i .i64 (.ofNat 0)],[(8,114,[[.i .i64 (.ofNat 0),.i .i64 (.ofNat 3),.i .i64 (.ofNat 0),.s 2 23899,.b false,.sn,.sn,.sn],[.i
  .i64 (.ofNat 6),.i .i64 (.ofNat 1),.i .i64 (.ofNat 1),.s 0 0,.b false,.sn,.sn,.sn],[.i .i64 (.ofNat 7),.i .i64 (.ofNat 1),.i .i64 (.ofNat 1),.s 0 0,.b false,.sn,.sn,
  .sn]])]⟩
def mU3:Memo:=⟨[.agg [.i .i64 (.ofNat 5),.i .i64 (.ofNat 0),.s 3 7368801,.b false,.sn,.sn,.sl ⟨.d0,.d0,.d0,.d1,.d6⟩ 0 3 7],.agg [.i .i64 (.ofNat 5),.i .i64 (.ofNat 0),.s 3 7368801,
  .b false,.sn,.sn,.sl ⟨.d0,.d0,.d0,.d2,.d1⟩ 0 3 7]],[(7,[[.i .i64 (.ofNat 5),.i .i64 (.ofNat 0),.s 1 46,.b false,.sn,.sn,.sl ⟨.d0,.d0,.d0,.d1,.d7⟩ 0 2 7],[.i
  .i64 (.ofNat 1),.i .i64 (.ofNat 9),.s 0 0,.b false,.sn,.sn,.sn],[.i .i64 (.ofNat 5),.i .i64 (.ofNat 0),.s 1 46,.b false,.sn,.sn,.sl ⟨.d0,.d0,.d0,.d2,.d0⟩ 0 2 7]]),
   (7,[[.i .i64 (.ofNat 1),.i .i64 (.ofNat 7),.s 0 0,.b false,.sn,.sn,.sn],[.i .i64 (.ofNat 1),.i .i64 (.ofNat 8),.s 0 0,.b false,.sn,.sn,.sn]]),(7,[[.i .i64 (.ofNat
  1),.i .i64 (.ofNat 7),.s 0 0,.b false,.sn,.sn,.sn],[.i .i64 (.ofNat 1),.i .i64 (.ofNat 10),.s 0 0,.b false,.sn,.sn,.sn]]),(7,[[.i .i64 (.ofNat 1),.i .i64 (.ofNat
  0),.s 0 0,.b false,.sn,.sn,.sn],[.i .i64 (.ofNat 1),.i .i64 (.ofNat 1),.s 0 0,.b false,.sn,.sn,.sn],[.i .i64 (.ofNat 1),.i .i64 (.ofNat 6),.s 0 0,.b false,.sn,
  .sn,.sn]])],.tup [.sl ⟨.d0,.d0,.d0,.d2,.d2⟩ 0 3 8,.b true,.i .i64 (.ofNat 0)],[(8,114,[[.i .i64 (.ofNat 0),.i .i64 (.ofNat 5),.i .i64 (.ofNat 0),.s 1 46,.b false,
  .sn,.sn,.sl ⟨.d0,.d0,.d0,.d2,.d3⟩ 0 2 7],[.i .i64 (.ofNat 6),.i .i64 (.ofNat 5),.i .i64 (.ofNat 0),.s 1 46,.b false,.sn,.sn,.sl ⟨.d0,.d0,.d0,.d2,.d4⟩ 0 2 7],[.i
  .i64 (.ofNat 9),.i .i64 (.ofNat 1),.i .i64 (.ofNat 1),.s 0 0,.b false,.sn,.sn,.sn]]),(7,27,[[.i .i64 (.ofNat 1),.i .i64 (.ofNat 7),.s 0 0,.b false,.sn,.sn,.sn],[.i
   .i64 (.ofNat 1),.i .i64 (.ofNat 8),.s 0 0,.b false,.sn,.sn,.sn]]),(7,27,[[.i .i64 (.ofNat 1),.i .i64 (.ofNat 7),.s 0 0,.b false,.sn,.sn,.sn],[.i .i64 (.ofNat 1),
  .i .i64 (.ofNat 10),.s 0 0,.b false,.sn,.sn,.sn]])]⟩
def mU4:Memo:=⟨[.agg [.i .i64 (.ofNat 5),.i .i64 (.ofNat 0),.s 3 7368801,.b false,.sn,.sn,.sl ⟨.d0,.d0,.d0,.d1,.d6⟩ 0 3 7],.agg [.i .i64 (.ofNat 5),.i .i64 (.ofNat 0),.s 3 7368801,
  .b false,.sn,.sn,.sl ⟨.d0,.d0,.d0,.d1,.d7⟩ 0 3 7]],[(7,[[.i .i64 (.ofNat 3),.i .i64 (.ofNat 0),.s 2 23899,.b false,.sn,.sn,.sn],[.i .i64 (.ofNat 1),.i .i64 (.ofNat
   3),.s 0 0,.b false,.sn,.sn,.sn],[.i .i64 (.ofNat 1),.i .i64 (.ofNat 3),.s 0 0,.b false,.sn,.sn,.sn]]),(7,[[.i .i64 (.ofNat 1),.i .i64 (.ofNat 0),.s 0 0,.b false,
  .sn,.sn,.sn],[.i .i64 (.ofNat 1),.i .i64 (.ofNat 1),.s 0 0,.b false,.sn,.sn,.sn],[.i .i64 (.ofNat 1),.i .i64 (.ofNat 2),.s 0 0,.b false,.sn,.sn,.sn]])],.tup [.sl
  ⟨.d0,.d0,.d0,.d2,.d0⟩ 0 3 8,.b true,.i .i64 (.ofNat 0)],[(8,114,[[.i .i64 (.ofNat 0),.i .i64 (.ofNat 3),.i .i64 (.ofNat 0),.s 2 23899,.b false,.sn,.sn,.sn],[.i
  .i64 (.ofNat 2),.i .i64 (.ofNat 1),.i .i64 (.ofNat 1),.s 0 0,.b false,.sn,.sn,.sn],[.i .i64 (.ofNat 3),.i .i64 (.ofNat 1),.i .i64 (.ofNat 1),.s 0 0,.b false,.sn,.sn,
  .sn]])]⟩
def mU5:Memo:=⟨[.agg [.i .i64 (.ofNat 5),.i .i64 (.ofNat 0),.s 3 7368801,.b false,.sn,.sn,.sl ⟨.d0,.d0,.d0,.d1,.d6⟩ 0 3 7],.agg [.i .i64 (.ofNat 5),.i .i64 (.ofNat 0),.s 3 7368801,
  .b false,.sn,.sn,.sl ⟨.d0,.d0,.d0,.d2,.d1⟩ 0 3 7]],[(7,[[.i .i64 (.ofNat 5),.i .i64 (.ofNat 0),.s 1 46,.b false,.sn,.sn,.sl ⟨.d0,.d0,.d0,.d1,.d7⟩ 0 2 7],[.i
  .i64 (.ofNat 1),.i .i64 (.ofNat 5),.s 0 0,.b false,.sn,.sn,.sn],[.i .i64 (.ofNat 5),.i .i64 (.ofNat 0),.s 1 46,.b false,.sn,.sn,.sl ⟨.d0,.d0,.d0,.d2,.d0⟩ 0 2 7]]),
   (7,[[.i .i64 (.ofNat 1),.i .i64 (.ofNat 3),.s 0 0,.b false,.sn,.sn,.sn],[.i .i64 (.ofNat 1),.i .i64 (.ofNat 4),.s 0 0,.b false,.sn,.sn,.sn]]),(7,[[.i .i64 (.ofNat
  1),.i .i64 (.ofNat 3),.s 0 0,.b false,.sn,.sn,.sn],[.i .i64 (.ofNat 1),.i .i64 (.ofNat 6),.s 0 0,.b false,.sn,.sn,.sn]]),(7,[[.i .i64 (.ofNat 1),.i .i64 (.ofNat 0),
   .s 0 0,.b false,.sn,.sn,.sn],[.i .i64 (.ofNat 1),.i .i64 (.ofNat 1),.s 0 0,.b false,.sn,.sn,.sn],[.i .i64 (.ofNat 1),.i .i64 (.ofNat 2),.s 0 0,.b false,.sn,.sn,
  .sn]])],.tup [.sl ⟨.d0,.d0,.d0,.d2,.d2⟩ 0 3 8,.b true,.i .i64 (.ofNat 0)],[(8,114,[[.i .i64 (.ofNat 0),.i .i64 (.ofNat 5),.i .i64 (.ofNat 0),.s 1 46,.b false,.sn,
  .sn,.sl ⟨.d0,.d0,.d0,.d2,.d3⟩ 0 2 7],[.i .i64 (.ofNat 2),.i .i64 (.ofNat 5),.i .i64 (.ofNat 0),.s 1 46,.b false,.sn,.sn,.sl ⟨.d0,.d0,.d0,.d2,.d4⟩ 0 2 7],[.i .i64
  (.ofNat 5),.i .i64 (.ofNat 1),.i .i64 (.ofNat 1),.s 0 0,.b false,.sn,.sn,.sn]]),(7,27,[[.i .i64 (.ofNat 1),.i .i64 (.ofNat 3),.s 0 0,.b false,.sn,.sn,.sn],[.i .i64
   (.ofNat 1),.i .i64 (.ofNat 4),.s 0 0,.b false,.sn,.sn,.sn]]),(7,27,[[.i .i64 (.ofNat 1),.i .i64 (.ofNat 3),.s 0 0,.b false,.sn,.sn,.sn],[.i .i64 (.ofNat 1),.i
  .i64 (.ofNat 6),.s 0 0,.b false,.sn,.sn,.sn]])]⟩
def mU6:Memo:=⟨[.agg [.i .i64 (.ofNat 5),.i .i64 (.ofNat 0),.s 3 7368801,.b false,.sn,.sn,.sl ⟨.d0,.d0,.d0,.d1,.d6⟩ 0 3 7],.agg [.i .i64 (.ofNat 5),.i .i64 (.ofNat 0),.s 3 7368801,
  .b false,.sn,.sn,.sl ⟨.d0,.d0,.d0,.d1,.d7⟩ 0 3 7]],[(7,[[.i .i64 (.ofNat 3),.i .i64 (.ofNat 0),.s 2 23899,.b false,.sn,.sn,.sn],[.i .i64 (.ofNat 1),.i .i64 (.ofNat
   7),.s 0 0,.b false,.sn,.sn,.sn],[.i .i64 (.ofNat 1),.i .i64 (.ofNat 7),.s 0 0,.b false,.sn,.sn,.sn]]),(7,[[.i .i64 (.ofNat 1),.i .i64 (.ofNat 4),.s 0 0,.b false,
  .sn,.sn,.sn],[.i .i64 (.ofNat 1),.i .i64 (.ofNat 1),.s 0 0,.b false,.sn,.sn,.sn],[.i .i64 (.ofNat 1),.i .i64 (.ofNat 6),.s 0 0,.b false,.sn,.sn,.sn]])],.tup [.sl
  ⟨.d0,.d0,.d0,.d2,.d0⟩ 0 3 8,.b true,.i .i64 (.ofNat 0)],[(8,114,[[.i .i64 (.ofNat 4),.i .i64 (.ofNat 3),.i .i64 (.ofNat 0),.s 2 23899,.b false,.sn,.sn,.sn],[.i
  .i64 (.ofNat 6),.i .i64 (.ofNat 1),.i .i64 (.ofNat 1),.s 0 0,.b false,.sn,.sn,.sn],[.i .i64 (.ofNat 7),.i .i64 (.ofNat 1),.i .i64 (.ofNat 1),.s 0 0,.b false,.sn,.sn,
  .sn]])]⟩
def mU7:Memo:=⟨[.agg [.i .i64 (.ofNat 5),.i .i64 (.ofNat 0),.s 3 7368801,.b false,.sn,.sn,.sl ⟨.d0,.d0,.d0,.d1,.d6⟩ 0 3 7],.agg [.i .i64 (.ofNat 5),.i .i64 (.ofNat 0),.s 3 7368801,
  .b false,.sn,.sn,.sl ⟨.d0,.d0,.d0,.d2,.d1⟩ 0 3 7]],[(7,[[.i .i64 (.ofNat 5),.i .i64 (.ofNat 0),.s 1 46,.b false,.sn,.sn,.sl ⟨.d0,.d0,.d0,.d1,.d7⟩ 0 2 7],[.i
  .i64 (.ofNat 1),.i .i64 (.ofNat 9),.s 0 0,.b false,.sn,.sn,.sn],[.i .i64 (.ofNat 5),.i .i64 (.ofNat 0),.s 1 46,.b false,.sn,.sn,.sl ⟨.d0,.d0,.d0,.d2,.d0⟩ 0 2 7]]),
   (7,[[.i .i64 (.ofNat 1),.i .i64 (.ofNat 7),.s 0 0,.b false,.sn,.sn,.sn],[.i .i64 (.ofNat 1),.i .i64 (.ofNat 8),.s 0 0,.b false,.sn,.sn,.sn]]),(7,[[.i .i64 (.ofNat
  1),.i .i64 (.ofNat 7),.s 0 0,.b false,.sn,.sn,.sn],[.i .i64 (.ofNat 1),.i .i64 (.ofNat 10),.s 0 0,.b false,.sn,.sn,.sn]]),(7,[[.i .i64 (.ofNat 1),.i .i64 (.ofNat
  4),.s 0 0,.b false,.sn,.sn,.sn],[.i .i64 (.ofNat 1),.i .i64 (.ofNat 1),.s 0 0,.b false,.sn,.sn,.sn],[.i .i64 (.ofNat 1),.i .i64 (.ofNat 6),.s 0 0,.b false,.sn,
  .sn,.sn]])],.tup [.sl ⟨.d0,.d0,.d0,.d2,.d2⟩ 0 3 8,.b true,.i .i64 (.ofNat 0)],[(8,114,[[.i .i64 (.ofNat 4),.i .i64 (.ofNat 5),.i .i64 (.ofNat 0),.s 1 46,.b false,
  .sn,.sn,.sl ⟨.d0,.d0,.d0,.d2,.d3⟩ 0 2 7],[.i .i64 (.ofNat 6),.i .i64 (.ofNat 5),.i .i64 (.ofNat 0),.s 1 46,.b false,.sn,.sn,.sl ⟨.d0,.d0,.d0,.d2,.d4⟩ 0 2 7],[.i
  .i64 (.ofNat 9),.i .i64 (.ofNat 1),.i .i64 (.ofNat 1),.s 0 0,.b false,.sn,.sn,.sn]]),(7,27,[[.i .i64 (.ofNat 1),.i .i64 (.ofNat 7),.s 0 0,.b false,.sn,.sn,.sn],[.i
   .i64 (.ofNat 1),.i .i64 (.ofNat 8),.s 0 0,.b false,.sn,.sn,.sn]]),(7,27,[[.i .i64 (.ofNat 1),.i .i64 (.ofNat 7),.s 0 0,.b false,.sn,.sn,.sn],[.i .i64 (.ofNat 1),
  .i .i64 (.ofNat 10),.s 0 0,.b false,.sn,.sn,.sn]])]⟩
def mU8:Memo:=⟨[.agg [.i .i64 (.ofNat 5),.i .i64 (.ofNat 0),.s 1 120,.b false,.sn,.sn,.sl ⟨.d0,.d0,.d0,.d1,.d6⟩ 0 2 7],.agg [.i .i64 (.ofNat 5),.i .i64 (.ofNat 0),.s 1 120,.b
  false,.sn,.sn,.sl ⟨.d0,.d0,.d0,.d1,.d7⟩ 0 2 7]],[(7,[[.i .i64 (.ofNat 3),.i .i64 (.ofNat 0),.s 2 23899,.b false,.sn,.sn,.sn],[.i .i64 (.ofNat 1),.i .i64 (.ofNat
  0),.s 0 0,.b false,.sn,.sn,.sn]]),(7,[[.i .i64 (.ofNat 5),.i .i64 (.ofNat 0),.s 1 46,.b false,.sn,.sn,.sl ⟨.d0,.d0,.d0,.d2,.d0⟩ 0 2 7],[.i .i64 (.ofNat 1),.i
  .i64 (.ofNat 3),.s 0 0,.b false,.sn,.sn,.sn]]),(7,[[.i .i64 (.ofNat 1),.i .i64 (.ofNat 1),.s 0 0,.b false,.sn,.sn,.sn],[.i .i64 (.ofNat 1),.i .i64 (.ofNat 2),.s 0
  0,.b false,.sn,.sn,.sn]])],.tup [.sn,.b false,.i .i64 (.ofNat 0)],[]⟩
def mUs:List Memo:=[mU0,mU1,mU2,mU3,mU4,mU5,mU6,mU7,mU8]
end Go.Proofs.YtaloeffmigffaaaGreatDoor
end
section
open Go Go.Ev
namespace Go.Proofs.YtaloeffmigffaaaGreatDoor
theorem fU0:memoFact call0 14 10000 189 mU0 = true:=by kernel_rfl
theorem fU4:memoFact call0 14 10000 189 mU4 = true:=by kernel_rfl
theorem fU8:memoFact call0 14 10000 189 mU8 = true:=by kernel_rfl
end Go.Proofs.YtaloeffmigffaaaGreatDoor
end
