/- Lemmas; no condition. -/
import Derived.Test.YtbdpdeonapmlgaaGreatDoorAx
import Derived.Test.YtbdpdeonapmlgaaGreatDoorProg
import Derived.KernelRfl
set_option linter.all false
namespace Go.Proofs.YtbdpdeonapmlgaaGreatDoor
open Go.Ev
noncomputable def sp0 (f:Nat):Option FOp:=
  bif Nat.beq f 320 then some cmpF else bif Nat.beq f 361 then some zH else bif Nat.beq f 347 then some (seqG 327 3) else bif Nat.beq f 50 then some (ndF Tryz.prog 100 10000 50) else bif Nat.beq f 297 then some (ndF Tryz.prog 100 10000 297) else none
noncomputable def mL:bR:=xU Tryz.prog sp0 5000 300
def mU0:Memo:=⟨[.agg [.i .i64 (.ofNat 5),.i .i64 (.ofNat 0),.s 3 7368801,.b false,.sn,.sn,.sl ⟨.d0,.d0,.d0,.d1,.d6⟩ 0 3 7],.agg [.i .i64 (.ofNat 5),.i .i64 (.ofNat 0),.s 3 7368801,
  .b false,.sn,.sn,.sl ⟨.d0,.d0,.d0,.d1,.d7⟩ 0 3 7]],[(7,[[.i .i64 (.ofNat 3),.i .i64 (.ofNat 0),.s 2 23899,.b false,.sn,.sn,.sn],[.i .i64 (.ofNat 1),.i .i64 (.ofNat
   3),.s 0 0,.b false,.sn,.sn,.sn],[.i .i64 (.ofNat 1),.i .i64 (.ofNat 3),.s 0 0,.b false,.sn,.sn,.sn]]),(7,[[.i .i64 (.ofNat 5),.i .i64 (.ofNat 0),.s 1 46,.b false,
   .sn,.sn,.sl ⟨.d0,.d0,.d0,.d2,.d0⟩ 0 2 7],[.i .i64 (.ofNat 1),.i .i64 (.ofNat 1),.s 0 0,.b false,.sn,.sn,.sn],[.i .i64 (.ofNat 1),.i .i64 (.ofNat 2),.s 0 0,.b
  false,.sn,.sn,.sn]]),(7,[[.i .i64 (.ofNat 3),.i .i64 (.ofNat 0),.s 1 97,.b false,.sn,.sn,.sn],[.i .i64 (.ofNat 1),.i .i64 (.ofNat 0),.s 0 0,.b false,.sn,.sn,
  .sn]])],.tup [.sn,.b false,.i .i64 (.ofNat 0)],[]⟩
def mU1:Memo:=⟨[.agg [.i .i64 (.ofNat 5),.i .i64 (.ofNat 0),.s 3 7368801,.b false,.sn,.sn,.sl ⟨.d0,.d0,.d0,.d1,.d6⟩ 0 3 7],.agg [.i .i64 (.ofNat 5),.i .i64 (.ofNat 0),.s 3 7368801,
  .b false,.sn,.sn,.sl ⟨.d0,.d0,.d0,.d2,.d1⟩ 0 3 7]],[(7,[[.i .i64 (.ofNat 5),.i .i64 (.ofNat 0),.s 1 46,.b false,.sn,.sn,.sl ⟨.d0,.d0,.d0,.d1,.d7⟩ 0 2 7],[.i
  .i64 (.ofNat 1),.i .i64 (.ofNat 5),.s 0 0,.b false,.sn,.sn,.sn],[.i .i64 (.ofNat 5),.i .i64 (.ofNat 0),.s 1 46,.b false,.sn,.sn,.sl ⟨.d0,.d0,.d0,.d2,.d0⟩ 0 2 7]]),
   (7,[[.i .i64 (.ofNat 1),.i .i64 (.ofNat 3),.s 0 0,.b false,.sn,.sn,.sn],[.i .i64 (.ofNat 1),.i .i64 (.ofNat 4),.s 0 0,.b false,.sn,.sn,.sn]]),(7,[[.i .i64 (.ofNat
  1),.i .i64 (.ofNat 3),.s 0 0,.b false,.sn,.sn,.sn],[.i .i64 (.ofNat 1),.i .i64 (.ofNat 6),.s 0 0,.b false,.sn,.sn,.sn]]),(7,[[.i .i64 (.ofNat 5),.i .i64 (.ofNat 0),
   .s 1 46,.b false,.sn,.sn,.sl ⟨.d0,.d0,.d0,.d2,.d2⟩ 0 2 7],[.i .i64 (.ofNat 1),.i .i64 (.ofNat 1),.s 0 0,.b false,.sn,.sn,.sn],[.i .i64 (.ofNat 1),.i .i64 (.ofNat
  2),.s 0 0,.b false,.sn,.sn,.sn]]),(7,[[.i .i64 (.ofNat 3),.i .i64 (.ofNat 0),.s 1 97,.b false,.sn,.sn,.sn],[.i .i64 (.ofNat 1),.i .i64 (.ofNat 0),.s 0 0,.b false,
  .sn,.sn,.sn]])],.tup [.sl ⟨.d0,.d0,.d0,.d2,.d3⟩ 0 4 8,.b true,.i .i64 (.ofNat 0)],[(8,275,[[.i .i64 (.ofNat 2),.i .i64 (.ofNat 5),.i .i64 (.ofNat 0),.s 1 46,.b
  false,.sn,.sn,.sl ⟨.d0,.d0,.d0,.d2,.d4⟩ 0 2 7],[.i .i64 (.ofNat 3),.i .i64 (.ofNat 3),.i .i64 (.ofNat 0),.s 1 97,.b false,.sn,.sn,.sn],[.i .i64 (.ofNat 4),.i .i64
  (.ofNat 1),.i .i64 (.ofNat 0),.s 0 0,.b false,.sn,.sn,.sn],[.i .i64 (.ofNat 5),.i .i64 (.ofNat 1),.i .i64 (.ofNat 1),.s 0 0,.b false,.sn,.sn,.sn]]),(7,48,[[.i .i64
   (.ofNat 3),.i .i64 (.ofNat 0),.s 1 97,.b false,.sn,.sn,.sn],[.i .i64 (.ofNat 1),.i .i64 (.ofNat 6),.s 0 0,.b false,.sn,.sn,.sn]])]⟩
def mU2:Memo:=⟨[.agg [.i .i64 (.ofNat 5),.i .i64 (.ofNat 0),.s 3 7368801,.b false,.sn,.sn,.sl ⟨.d0,.d0,.d0,.d1,.d6⟩ 0 3 7],.agg [.i .i64 (.ofNat 5),.i .i64 (.ofNat 0),.s 3 7368801,
  .b false,.sn,.sn,.sl ⟨.d0,.d0,.d0,.d1,.d7⟩ 0 3 7]],[(7,[[.i .i64 (.ofNat 3),.i .i64 (.ofNat 0),.s 2 23899,.b false,.sn,.sn,.sn],[.i .i64 (.ofNat 1),.i .i64 (.ofNat
   7),.s 0 0,.b false,.sn,.sn,.sn],[.i .i64 (.ofNat 1),.i .i64 (.ofNat 7),.s 0 0,.b false,.sn,.sn,.sn]]),(7,[[.i .i64 (.ofNat 1),.i .i64 (.ofNat 0),.s 0 0,.b false,
  .sn,.sn,.sn],[.i .i64 (.ofNat 1),.i .i64 (.ofNat 1),.s 0 0,.b false,.sn,.sn,.sn],[.i .i64 (.ofNat 1),.i .i64 (.ofNat 6),.s 0 0,.b false,.sn,.sn,.sn]])],.tup [.sl
  ⟨.d0,.d0,.d0,.d2,.d0⟩ 0 3 8,.b true,.i .i64 (.ofNat 0)],[(8,275,[[.i .i64 (.ofNat 0),.i .i64 (.ofNat 3),.i .i64 (.ofNat 0),.s 2 23899,.b false,.sn,.sn,.sn],[.i
  .i64 (.ofNat 6),.i .i64 (.ofNat 1),.i .i64 (.ofNat 1),.s 0 0,.b false,.sn,.sn,.sn],[.i .i64 (.ofNat 7),.i .i64 (.ofNat 1),.i .i64 (.ofNat 1),.s 0 0,.b false,.sn,.sn,
  .sn]])]⟩
def mU3:Memo:=⟨[.agg [.i .i64 (.ofNat 5),.i .i64 (.ofNat 0),.s 3 7368801,.b false,.sn,.sn,.sl ⟨.d0,.d0,.d0,.d1,.d6⟩ 0 3 7],.agg [.i .i64 (.ofNat 5),.i .i64 (.ofNat 0),.s 3 7368801,
  .b false,.sn,.sn,.sl ⟨.d0,.d0,.d0,.d2,.d1⟩ 0 3 7]],[(7,[[.i .i64 (.ofNat 5),.i .i64 (.ofNat 0),.s 1 46,.b false,.sn,.sn,.sl ⟨.d0,.d0,.d0,.d1,.d7⟩ 0 2 7],[.i
  .i64 (.ofNat 1),.i .i64 (.ofNat 9),.s 0 0,.b false,.sn,.sn,.sn],[.i .i64 (.ofNat 5),.i .i64 (.ofNat 0),.s 1 46,.b false,.sn,.sn,.sl ⟨.d0,.d0,.d0,.d2,.d0⟩ 0 2 7]]),
   (7,[[.i .i64 (.ofNat 1),.i .i64 (.ofNat 7),.s 0 0,.b false,.sn,.sn,.sn],[.i .i64 (.ofNat 1),.i .i64 (.ofNat 8),.s 0 0,.b false,.sn,.sn,.sn]]),(7,[[.i .i64 (.ofNat
  1),.i .i64 (.ofNat 7),.s 0 0,.b false,.sn,.sn,.sn],[.i .i64 (.ofNat 1),.i .i64 (.ofNat 10),.s 0 0,.b false,.sn,.sn,.sn]]),(7,[[.i .i64 (.ofNat 1),.i .i64 (.ofNat
  0),.s 0 0,.b false,.sn,.sn,.sn],[.i .i64 (.ofNat 1),.i .i64 (.ofNat 1),.s 0 0,.b false,.sn,.sn,.sn],[.i .i64 (.ofNat 1),.i .i64 (.ofNat 6),.s 0 0,.b false,.sn,
  .sn,.sn]])],.tup [.sl ⟨.d0,.d0,.d0,.d2,.d2⟩ 0 3 8,.b true,.i .i64 (.ofNat 0)],[(8,275,[[.i .i64 (.ofNat 0),.i .i64 (.ofNat 5),.i .i64 (.ofNat 0),.s 1 46,.b false,
  .sn,.sn,.sl ⟨.d0,.d0,.d0,.d2,.d3⟩ 0 2 7],[.i .i64 (.ofNat 6),.i .i64 (.ofNat 5),.i .i64 (.ofNat 0),.s 1 46,.b false,.sn,.sn,.sl ⟨.d0,.d0,.d0,.d2,.d4⟩ 0 2 7],[.i
  .i64 (.ofNat 9),.i .i64 (.ofNat 1),.i .i64 (.ofNat 1),.s 0 0,.b false,.sn,.sn,.sn]]),(7,48,[[.i .i64 (.ofNat 1),.i .i64 (.ofNat 7),.s 0 0,.b false,.sn,.sn,.sn],[.i
   .i64 (.ofNat 1),.i .i64 (.ofNat 8),.s 0 0,.b false,.sn,.sn,.sn]]),(7,48,[[.i .i64 (.ofNat 1),.i .i64 (.ofNat 7),.s 0 0,.b false,.sn,.sn,.sn],[.i .i64 (.ofNat 1),
  .i .i64 (.ofNat 10),.s 0 0,.b false,.sn,.sn,.sn]])]⟩
def mU4:Memo:=⟨[.agg [.i .i64 (.ofNat 5),.i .i64 (.ofNat 0),.s 3 7368801,.b false,.sn,.sn,.sl ⟨.d0,.d0,.d0,.d1,.d6⟩ 0 3 7],.agg [.i .i64 (.ofNat 5),.i .i64 (.ofNat 0),.s 3 7368801,
  .b false,.sn,.sn,.sl ⟨.d0,.d0,.d0,.d1,.d7⟩ 0 3 7]],[(7,[[.i .i64 (.ofNat 3),.i .i64 (.ofNat 0),.s 2 23899,.b false,.sn,.sn,.sn],[.i .i64 (.ofNat 1),.i .i64 (.ofNat
   3),.s 0 0,.b false,.sn,.sn,.sn],[.i .i64 (.ofNat 1),.i .i64 (.ofNat 3),.s 0 0,.b false,.sn,.sn,.sn]]),(7,[[.i .i64 (.ofNat 1),.i .i64 (.ofNat 0),.s 0 0,.b false,
  .sn,.sn,.sn],[.i .i64 (.ofNat 1),.i .i64 (.ofNat 1),.s 0 0,.b false,.sn,.sn,.sn],[.i .i64 (.ofNat 1),.i .i64 (.ofNat 2),.s 0 0,.b false,.sn,.sn,.sn]])],.tup [.sl
  ⟨.d0,.d0,.d0,.d2,.d0⟩ 0 3 8,.b true,.i .i64 (.ofNat 0)],[(8,275,[[.i .i64 (.ofNat 0),.i .i64 (.ofNat 3),.i .i64 (.ofNat 0),.s 2 23899,.b false,.sn,.sn,.sn],[.i
  .i64 (.ofNat 2),.i .i64 (.ofNat 1),.i .i64 (.ofNat 1),.s 0 0,.b false,.sn,.sn,.sn],[.i .i64 (.ofNat 3),.i .i64 (.ofNat 1),.i .i64 (.ofNat 1),.s 0 0,.b false,.sn,.sn,
  .sn]])]⟩
def mU5:Memo:=⟨[.agg [.i .i64 (.ofNat 5),.i .i64 (.ofNat 0),.s 3 7368801,.b false,.sn,.sn,.sl ⟨.d0,.d0,.d0,.d1,.d6⟩ 0 3 7],.agg [.i .i64 (.ofNat 5),.i .i64 (.ofNat 0),.s 3 7368801,
  .b false,.sn,.sn,.sl ⟨.d0,.d0,.d0,.d2,.d1⟩ 0 3 7]],[(7,[[.i .i64 (.ofNat 5),.i .i64 (.ofNat 0),.s 1 46,.b false,.sn,.sn,.sl ⟨.d0,.d0,.d0,.d1,.d7⟩ 0 2 7],[.i
  .i64 (.ofNat 1),.i .i64 (.ofNat 5),.s 0 0,.b false,.sn,.sn,.sn],[.i .i64 (.ofNat 5),.i .i64 (.ofNat 0),.s 1 46,.b false,.sn,.sn,.sl ⟨.d0,.d0,.d0,.d2,.d0⟩ 0 2 7]]),
   (7,[[.i .i64 (.ofNat 1),.i .i64 (.ofNat 3),.s 0 0,.b false,.sn,.sn,.sn],[.i .i64 (.ofNat 1),.i .i64 (.ofNat 4),.s 0 0,.b false,.sn,.sn,.sn]]),(7,[[.i .i64 (.ofNat
  1),.i .i64 (.ofNat 3),.s 0 0,.b false,.sn,.sn,.sn],[.i .i64 (.ofNat 1),.i .i64 (.ofNat 6),.s 0 0,.b false,.sn,.sn,.sn]]),(7,[[.i .i64 (.ofNat 1),.i .i64 (.ofNat 0),
   .s 0 0,.b false,.sn,.sn,.sn],[.i .i64 (.ofNat 1),.i .i64 (.ofNat 1),.s 0 0,.b false,.sn,.sn,.sn],[.i .i64 (.ofNat 1),.i .i64 (.ofNat 2),.s 0 0,.b false,.sn,.sn,
  .sn]])],.tup [.sl ⟨.d0,.d0,.d0,.d2,.d2⟩ 0 3 8,.b true,.i .i64 (.ofNat 0)],[(8,275,[[.i .i64 (.ofNat 0),.i .i64 (.ofNat 5),.i .i64 (.ofNat 0),.s 1 46,.b false,.sn,
  .sn,.sl ⟨.d0,.d0,.d0,.d2,.d3⟩ 0 2 7],[.i .i64 (.ofNat 2),.i .i64 (.ofNat 5),.i .i64 (.ofNat 0),.s 1 46,.b false,.sn,.sn,.sl ⟨.d0,.d0,.d0,.d2,.d4⟩ 0 2 7],[.i .i64
  (.ofNat 5),.i .i64 (.ofNat 1),.i .i64 (.ofNat 1),.s 0 0,.b false,.sn,.sn,.sn]]),(7,48,[[.i .i64 (.ofNat 1),.i .i64 (.ofNat 3),.s 0 0,.b false,.sn,.sn,.sn],[.i .i64
   (.ofNat 1),.i .i64 (.ofNat 4),.s 0 0,.b false,.sn,.sn,.sn]]),(7,48,[[.i .i64 (.ofNat 1),.i .i64 (.ofNat 3),.s 0 0,.b false,.sn,.sn,.sn],[.i .i64 (.ofNat 1),.i
  .i64 (.ofNat 6),.s 0 0,.b false,.sn,.sn,.sn]])]⟩
def mU6:Memo:=⟨[.agg [.i .i64 (.ofNat 5),.i .i64 (.ofNat 0),.s 3 7368801,.b false,.sn,.sn,.sl ⟨.d0,.d0,.d0,.d1,.d6⟩ 0 3 7],.agg [.i .i64 (.ofNat 5),.i .i64 (.ofNat 0),.s 3 7368801,
  .b false,.sn,.sn,.sl ⟨.d0,.d0,.d0,.d1,.d7⟩ 0 3 7]],[(7,[[.i .i64 (.ofNat 3),.i .i64 (.ofNat 0),.s 2 23899,.b false,.sn,.sn,.sn],[.i .i64 (.ofNat 1),.i .i64 (.ofNat
   7),.s 0 0,.b false,.sn,.sn,.sn],[.i .i64 (.ofNat 1),.i .i64 (.ofNat 7),.s 0 0,.b false,.sn,.sn,.sn]]),(7,[[.i .i64 (.ofNat 1),.i .i64 (.ofNat 4),.s 0 0,.b false,
  .sn,.sn,.sn],[.i .i64 (.ofNat 1),.i .i64 (.ofNat 1),.s 0 0,.b false,.sn,.sn,.sn],[.i .i64 (.ofNat 1),.i .i64 (.ofNat 6),.s 0 0,.b false,.sn,.sn,.sn]])],.tup [.sl
  ⟨.d0,.d0,.d0,.d2,.d0⟩ 0 3 8,.b true,.i .i64 (.ofNat 0)],[(8,275,[[.i .i64 (.ofNat 4),.i .i64 (.ofNat 3),.i .i64 (.ofNat 0),.s 2 23899,.b false,.sn,.sn,.sn],[.i
  .i64 (.ofNat 6),.i .i64 (.ofNat 1),.i .i64 (.ofNat 1),.s 0 0,.b false,.sn,.sn,.sn],[.i .i64 (.ofNat 7),.i .i64 (.ofNat 1),.i .i64 (.ofNat 1),.s 0 0,.b false,.sn,.sn,
  .sn]])]⟩
def mU7:Memo:=⟨[.agg [.i .i64 (.ofNat 5),.i .i64 (.ofNat 0),.s 3 7368801,.b false,.sn,.sn,.sl ⟨.d0,.d0,.d0,.d1,.d6⟩ 0 3 7],.agg [.i .i64 (.ofNat 5),.i .i64 (.ofNat 0),.s 3 7368801,
  .b false,.sn,.sn,.sl ⟨.d0,.d0,.d0,.d2,.d1⟩ 0 3 7]],[(7,[[.i .i64 (.ofNat 5),.i .i64 (.ofNat 0),.s 1 46,.b false,.sn,.sn,.sl ⟨.d0,.d0,.d0,.d1,.d7⟩ 0 2 7],[.i
  .i64 (.ofNat 1),.i .i64 (.ofNat 9),.s 0 0,.b false,.sn,.sn,.sn],[.i .i64 (.ofNat 5),.i .i64 (.ofNat 0),.s 1 46,.b false,.sn,.sn,.sl ⟨.d0,.d0,.d0,.d2,.d0⟩ 0 2 7]]),
   (7,[[.i .i64 (.ofNat 1),.i .i64 (.ofNat 7),.s 0 0,.b false,.sn,.sn,.sn],[.i .i64 (.ofNat 1),.i .i64 (.ofNat 8),.s 0 0,.b false,.sn,.sn,.sn]]),(7,[[.i .i64 (.ofNat
  1),.i .i64 (.ofNat 7),.s 0 0,.b false,.sn,.sn,.sn],[.i .i64 (.ofNat 1),.i .i64 (.ofNat 10),.s 0 0,.b false,.sn,.sn,.sn]]),(7,[[.i .i64 (.ofNat 1),.i .i64 (.ofNat
  4),.s 0 0,.b false,.sn,.sn,.sn],[.i .i64 (.ofNat 1),.i .i64 (.ofNat 1),.s 0 0,.b false,.sn,.sn,.sn],[.i .i64 (.ofNat 1),.i .i64 (.ofNat 6),.s 0 0,.b false,.sn,
  .sn,.sn]])],.tup [.sl ⟨.d0,.d0,.d0,.d2,.d2⟩ 0 3 8,.b true,.i .i64 (.ofNat 0)],[(8,275,[[.i .i64 (.ofNat 4),.i .i64 (.ofNat 5),.i .i64 (.ofNat 0),.s 1 46,.b false,
  .sn,.sn,.sl ⟨.d0,.d0,.d0,.d2,.d3⟩ 0 2 7],[.i .i64 (.ofNat 6),.i .i64 (.ofNat 5),.i .i64 (.ofNat 0),.s 1 46,.b false,.sn,.sn,.sl ⟨.d0,.d0,.d0,.d2,.d4⟩ 0 2 7],[.i
  .i64 (.ofNat 9),.i .i64 (.ofNat 1),.i .i64 (.ofNat 1),.s 0 0,.b false,.sn,.sn,.sn]]),(7,48,[[.i .i64 (.ofNat 1),.i .i64 (.ofNat 7),.s 0 0,.b false,.sn,.sn,.sn],[.i
   .i64 (.ofNat 1),.i .i64 (.ofNat 8),.s 0 0,.b false,.sn,.sn,.sn]]),(7,48,[[.i .i64 (.ofNat 1),.i .i64 (.ofNat 7),.s 0 0,.b false,.sn,.sn,.sn],[.i .i64 (.ofNat 1),
  .i .i64 (.ofNat 10),.s 0 0,.b false,.sn,.sn,.sn]])]⟩
def mU8:Memo:=⟨[.agg [.i .i64 (.ofNat 5),.i .i64 (.ofNat 0),.s 1 120,.b false,.sn,.sn,.sl ⟨.d0,.d0,.d0,.d1,.d6⟩ 0 2 7],.agg [.i .i64 (.ofNat 5),.i .i64 (.ofNat 0),.s 1 120,.b
  false,.sn,.sn,.sl ⟨.d0,.d0,.d0,.d1,.d7⟩ 0 2 7]],[(7,[[.i .i64 (.ofNat 3),.i .i64 (.ofNat 0),.s 2 23899,.b false,.sn,.sn,.sn],[.i .i64 (.ofNat 1),.i .i64 (.ofNat
  0),.s 0 0,.b false,.sn,.sn,.sn]]),(7,[[.i .i64 (.ofNat 5),.i .i64 (.ofNat 0),.s 1 46,.b false,.sn,.sn,.sl ⟨.d0,.d0,.d0,.d2,.d0⟩ 0 2 7],[.i .i64 (.ofNat 1),.i
  .i64 (.ofNat 3),.s 0 0,.b false,.sn,.sn,.sn]]),(7,[[.i .i64 (.ofNat 1),.i .i64 (.ofNat 1),.s 0 0,.b false,.sn,.sn,.sn],[.i .i64 (.ofNat 1),.i .i64 (.ofNat 2),.s 0
  0,.b false,.sn,.sn,.sn]])],.tup [.sn,.b false,.i .i64 (.ofNat 0)],[]⟩
def mUs:List Memo:=[mU0,mU1,mU2,mU3,mU4,mU5,mU6,mU7,mU8]
