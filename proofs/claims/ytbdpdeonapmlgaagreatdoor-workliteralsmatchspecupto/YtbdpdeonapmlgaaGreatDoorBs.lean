/- Lemmas for the text Card; no condition. -/
import Derived.Test.YtbdpdeonapmlgaaGreatDoorBm
import Derived.Test.YtbdpdeonapmlgaaGreatDoorBn
import Derived.Test.YtbdpdeonapmlgaaGreatDoorBo
import Derived.Test.YtbdpdeonapmlgaaGreatDoorBp
import Derived.Test.YtbdpdeonapmlgaaGreatDoorBq
import Derived.Test.YtbdpdeonapmlgaaGreatDoorBr
set_option linter.all false
namespace Go.Proofs.YtbdpdeonapmlgaaGreatDoor
open Go.Ev
variable {f:FuncId}
theorem xX:nE Tryz.prog=true:=by kernel_rfl
theorem yM:Tryz.prog.follows .mixedOrders=true:=by kernel_rfl
theorem EG:Tryz.prog.globals.size≤14:=cK (by kernel_rfl)
theorem tA {α:Type} {b:Bool} {x y:Option α} {z:α} (h:(bif b then x else y)=some z):(b=true∧x=some z)∨(b=false∧y=some z):=by
 cases b with
 |true=>exact .inl ⟨rfl,h⟩
 |false=>exact .inr ⟨rfl,h⟩
theorem YK:Tryz.f320.name≠ "runtime.NumGoroutine" :=by
 have h:(Tryz.f320.name== "runtime.NumGoroutine")=false:=by kernel_rfl
 simpa using h
theorem YJ:Tryz.f361.name≠ "runtime.NumGoroutine" :=by
 have h:(Tryz.f361.name== "runtime.NumGoroutine")=false:=by kernel_rfl
 simpa using h
theorem Di (h:f=320) {vs:List V} {us:List Value} {m:Mp} {h0 h':H} {w:World} {v:V} {call:bP} (hr:HR m h0 w) (hR:Rl m vs us) (hv:cmpF.run call vs h0= .ok v h'):cJ Tryz.prog ((callFunc f ⟨us⟩).run Tryz.prog w) m h0 w v h':=by
 subst h;exact Dh (fn:=Tryz.f320) Tryz.func320 rfl YK (by kernel_rfl) (by kernel_rfl) hr hR hv
theorem VG (h:f=361) {vs:List V} {us:List Value} {m:Mp} {h0 h':H} {w:World} {v:V} {call:bP} (hr:HR m h0 w) (hR:Rl m vs us) (hv:xJ.run call vs h0= .ok v h'):cJ Tryz.prog ((callFunc f ⟨us⟩).run Tryz.prog w) m h0 w v h':=by
 subst h;exact VF (fn:=Tryz.f361) Tryz.func361 rfl YJ (by kernel_rfl) (by kernel_rfl) hr hR hv
theorem UZ (h:f=347) {vs:List V} {us:List Value} {m:Mp} {h0 h':H} {w:World} {v:V} {call:bP} (hr:HR m h0 w) (hR:Rl m vs us) (hv:(seqG 327 3).run call vs h0= .ok v h'):cJ Tryz.prog ((callFunc f ⟨us⟩).run Tryz.prog w) m h0 w v h':=by
 subst h;exact UY Tryz.seqDoes hr hR hv
theorem KZ {P:Program} {lf fuel:Nat} {g f:Nat} (h:f=g) {call:bP} (hp:nE P=true) (a0:eN P call) (a2:P.follows .mixedOrders=true) {m:Mp} {w:World}
  {vs:List V} {us:List Value} {h0 h':H} {v:V} (hr:HR m h0 w) (hg:Gl P m) (hR:Rl m vs us) (hv:(ndF P lf fuel g).run call vs h0= .ok v h'):
  cJ P ((callFunc f ⟨us⟩).run P w) m h0 w v h':=by
 subst h;exact YF hp a0 a2 hr hg hR hv
theorem tD {a b:Nat} (h:Nat.beq a b=true):a=b:=aV h
theorem Hn:SpecOK Tryz.prog sp0:=by
 intro f op a1 call a0 vs us m h w v h' hr hg hR hv;unfold sp0 at a1;rcases tA a1 with⟨e,h1⟩|⟨_,a1⟩
 ·obtain rfl:=aJ h1;exact Di (tD e) hr hR hv
 rcases tA a1 with⟨e,h1⟩|⟨_,a1⟩
 ·obtain rfl:=aJ h1;exact VG (tD e) hr hR hv
 rcases tA a1 with⟨e,h1⟩|⟨_,a1⟩
 ·obtain rfl:=aJ h1;exact UZ (tD e) hr hR hv
 rcases tA a1 with⟨e,h1⟩|⟨_,a1⟩
 ·exact KZ (lf:=100) (fuel:=10000) (g:=50) (tD e) xX a0 yM hr hg hR (by rw [aJ h1];exact hv)
 rcases tA a1 with⟨e,h1⟩|⟨_,a1⟩
 ·exact KZ (lf:=100) (fuel:=10000) (g:=297) (tD e) xX a0 yM hr hg hR (by rw [aJ h1];exact hv)
 ·cases a1
theorem Dy:eN Tryz.prog lS:=FK xX yM Hn 300
theorem facts:∀mm∈mUs,kS lS 14 10000 252 mm=true:=by
 intro mm hm;simp only [mUs,cD,SG,GL] at hm;rcases hm with rfl|rfl|rfl|rfl|rfl|rfl|rfl|rfl|rfl
 ·exact fU0
 ·exact fU1
 ·exact fU2
 ·exact fU3
 ·exact fU4
 ·exact fU5
 ·exact fU6
 ·exact fU7
 ·exact fU8
theorem FU {call:bP} {vs:List V} {h h':H} {v:V} (hv:mR.run call vs h= .ok v h'):False:=by
 simp only [mR] at hv;cases hv
theorem YP (e:f=252) {vs:List V} {us:List Value} {m:Mp} {h h':H} {w:World} {v:V} {call:bP} (hr:HR m h w) (hg:Gl Tryz.prog m) (hR:Rl m vs us) (hv:(DL 10000 14 mUs mR).run call vs h= .ok v h'):cJ Tryz.prog ((callFunc f ⟨us⟩).run Tryz.prog w) m h w v h':=by
 subst e;simp only [DL] at hv;cases hn:Nat.ble 14 h.next.toNat with
 |false=>rw [hn] at hv;exact absurd hv FU
 | true=>
  rw [hn] at hv;simp only [cN,Ho] at hv;split at hv
  ·exact absurd hv FU
  ·rename_i a o olds a3;split at hv
   ·exact absurd hv FU
   ·rename_i mm hf;obtain⟨h1,rfl,rfl⟩:=NP hf;exact YQ (facts mm h1) Dy EG (by decide) hr hg hR (cK hn) a3 hv
theorem sp1_ok:SpecOK Tryz.prog sp1:=by
 intro f op a1 call a0 vs us m h w v h' hr hg hR hv;unfold sp1 at a1;rcases tA a1 with⟨e,h1⟩|⟨_,a1⟩
 ·obtain rfl:=aJ h1;exact YP (tD e) hr hg hR hv
 ·exact Hn f op a1 call a0 vs us m h w v h' hr hg hR hv
theorem Dx:eN Tryz.prog (vY Tryz.prog sp1 5000 300):=FK xX yM sp1_ok 300
end Go.Proofs.YtbdpdeonapmlgaaGreatDoor
