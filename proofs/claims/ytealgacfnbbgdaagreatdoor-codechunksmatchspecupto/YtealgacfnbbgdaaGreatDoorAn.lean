/- Lemmas; no condition. -/
import Derived.Test.YtealgacfnbbgdaaGreatDoorAm
set_option linter.all false
set_option maxHeartbeats 4000000
set_option maxRecDepth 100000
namespace Go.Proofs.YtealgacfnbbgdaaGreatDoor
open Go.RowKit Go.Big
def spL:Nat→List (List UInt8)
 |0=>[]
 |1=>[[92,43],[111,110,99,101],[105,103,110,111,114,101],[99,97,108,108]]
 |2=>[[44],[59],[45,62],[42,45,62],[102,111,114,97,108,108],[102,114,101,101,122,101],[112,104,114,97,115,101],[99,97,108,108]]
 |3=>[[99,97,116,99,104],[102,105,110,100,97,108,108],[98,97,103,111,102],[115,101,116,111,102],[112,104,114,97,115,101],[99,97,108,108]]
 |4=>[[99,97,108,108]]
 |5=>[[99,97,108,108]]
 |6=>[[99,97,108,108]]
 |7=>[[99,97,108,108]]
 |8=>[[99,97,108,108]]
 |_=>[]
def gY:Prop:=∀(n:Nat) (w:Wo),n≤8→Cz 210 #[.string ⟨#[63]⟩,.int .i64 n] w fun e w'=>∃s,e= .returned (.string s)∧s.size≤100∧Bz w w'
def mM:Prop:=∀(n:Nat) (w:Wo),n≤8→Cz 325 #[.int .i64 n] w fun e w'=>∃s,e= .returned (.string s)∧s.size≤100∧w'=w
def cQ (nm:ByteArray) (n:Nat) (w:Wo) (e:Ending) (w':Wo):Prop:=∃s,e= .returned (.tuple #[.string s,.bool ((spL n).contains nm.toList)])∧((spL n).contains nm.toList=false→s=⟨#[]⟩)∧Bz w w'
def cQ.yes {nm:ByteArray} {n:Nat} {w w':Wo} {s:ByteArray} (h:(spL n).contains nm.toList=true) (hb:Bz w w'):cQ nm n w (.returned (.tuple #[.string s,.bool true])) w':=⟨s,by rw [h],fun h2=>(by rw [h] at h2;cases h2),hb⟩
def cQ.no {nm:ByteArray} {n:Nat} {w:Wo} (h:(spL n).contains nm.toList=false):cQ nm n w (.returned (.tuple #[.string ⟨#[]⟩,.bool false])) w:=⟨_,by rw [h],fun _=>rfl,aK _ _⟩
def aT (x a:List UInt8) (l:List (List UInt8)):(a::l).contains x=((x==a)||l.contains x):=rfl
def aQ (x:List UInt8):([]:List (List UInt8)).contains x=false:=rfl
def RP (l:List UInt8):(l== [92,43])=true∨((l== [92,43])=false∧(l== [111,110,99,101])=true)∨((l== [92,43])=false∧(l== [111,110,99,101])=false∧(l== [105,103,110,111,114,101])=true)∨((l== [92,43])=false∧(l== [111,110,99,101])=false∧(l== [105,103,110,111,114,101])=false):=by
 cases (l== [92,43])<;>cases (l== [111,110,99,101])<;>cases (l== [105,103,110,111,114,101])<;>simp
def Dn (hR:gY) (hI:mM) (nm:ByteArray) (w:Wo):Cz 280 #[.string nm,.int .i64 0] w fun e w'=>cQ nm 0 w e w':=by
 cases hc:(nm.toList== [99,97,108,108])
 ·go_enter Tryz.func280,Tryz.ntmps280;go_wp2
  all_goals go_ret2
  all_goals first
   |exact cQ.yes (by first|(simp only [spL,aT,aQ, *];done)|(simp only [spL,aT,aQ, *];rfl)) (aK _ _)
   |(exfalso;simp_all;done)
   |exact cQ.no (by first|(simp only [spL,aT,aQ, *];done)|(simp only [spL,aT,aQ, *];rfl))
 ·go_enter Tryz.func280,Tryz.ntmps280;go_wp2
  all_goals go_ret2
  all_goals first
   |exact cQ.yes (by first|(simp only [spL,aT,aQ, *];done)|(simp only [spL,aT,aQ, *];rfl)) (aK _ _)
   |(exfalso;simp_all;done)
   |exact cQ.no (by first|(simp only [spL,aT,aQ, *];done)|(simp only [spL,aT,aQ, *];rfl))
def Dm (hR:gY) (hI:mM) (nm:ByteArray) (w:Wo):Cz 280 #[.string nm,.int .i64 1] w fun e w'=>cQ nm 1 w e w':=by
 cases hc:(nm.toList== [99,97,108,108])
 ·rcases RP nm.toList with h1|⟨h1,h2⟩|⟨h1,h2,h3⟩|⟨h1,h2,h3⟩
  all_goals
   go_enter Tryz.func280,Tryz.ntmps280;go_wp2
   all_goals go_ret2
   all_goals first
    |exact cQ.yes (by first|(simp only [spL,aT,aQ, *];done)|(simp only [spL,aT,aQ, *];rfl)) (aK _ _)
    |(exfalso;simp_all;done)
    |exact cQ.no (by first|(simp only [spL,aT,aQ, *];done)|(simp only [spL,aT,aQ, *];rfl))
 ·rcases RP nm.toList with h1|⟨h1,h2⟩|⟨h1,h2,h3⟩|⟨h1,h2,h3⟩
  all_goals
   have r1:∀w,Cz 210 #[.string ⟨#[63]⟩,.int .i64 0] w fun e w'=>∃s,e= .returned (.string s)∧s.size≤100∧Bz w w':=fun w=>hR 0 w (by decide)
   have i1:∀w,Cz 325 #[.int .i64 0] w fun e w'=>∃s,e= .returned (.string s)∧s.size≤100∧w'=w:=fun w=>hI 0 w (by decide)
   go_enter Tryz.func280,Tryz.ntmps280
   go_wp2_with first|(go_at_call 325;(with_reducible refine(i1 _).mono ?_);rintro e w2 ⟨s1,rfl,hz1,hw⟩;obtain rfl:=hw)|(go_at_call 210;(with_reducible refine(r1 _).mono ?_);rintro e w2 ⟨s2,rfl,hz2,hb2⟩;have a0:¬9223372036854775807<s1.size+s2.size:=(by omega))
   all_goals go_ret2
   all_goals first
    |exact cQ.yes (by first|(simp only [spL,aT,aQ, *];done)|(simp only [spL,aT,aQ, *];rfl)) (aK _ _)
    |exact cQ.yes (by first|(simp only [spL,aT,aQ, *];done)|(simp only [spL,aT,aQ, *];rfl)) hb2
    |(exfalso;simp_all;done)
    |exact cQ.no (by first|(simp only [spL,aT,aQ, *];done)|(simp only [spL,aT,aQ, *];rfl))
def Dl (hR:gY) (hI:mM) (nm:ByteArray) (w:Wo):Cz 280 #[.string nm,.int .i64 2] w fun e w'=>cQ nm 2 w e w':=by
 cases hc:(nm.toList== [99,97,108,108])
 ·go_enter Tryz.func280,Tryz.ntmps280;go_wp2
  all_goals go_ret2
  all_goals first
   |exact cQ.yes (by first|(simp only [spL,aT,aQ, *];done)|(simp only [spL,aT,aQ, *];rfl)) (aK _ _)
   |(exfalso;simp_all;done)
   |exact cQ.no (by first|(simp only [spL,aT,aQ, *];done)|(simp only [spL,aT,aQ, *];rfl))
 ·have r1:∀w,Cz 210 #[.string ⟨#[63]⟩,.int .i64 1] w fun e w'=>∃s,e= .returned (.string s)∧s.size≤100∧Bz w w':=fun w=>hR 1 w (by decide)
  have i1:∀w,Cz 325 #[.int .i64 1] w fun e w'=>∃s,e= .returned (.string s)∧s.size≤100∧w'=w:=fun w=>hI 1 w (by decide)
  go_enter Tryz.func280,Tryz.ntmps280
  go_wp2_with first|(go_at_call 325;(with_reducible refine(i1 _).mono ?_);rintro e w2 ⟨s1,rfl,hz1,hw⟩;obtain rfl:=hw)|(go_at_call 210;(with_reducible refine(r1 _).mono ?_);rintro e w2 ⟨s2,rfl,hz2,hb2⟩;have a0:¬9223372036854775807<s1.size+s2.size:=(by omega))
  all_goals go_ret2
  all_goals first
   |exact cQ.yes (by first|(simp only [spL,aT,aQ, *];done)|(simp only [spL,aT,aQ, *];rfl)) (aK _ _)
   |exact cQ.yes (by first|(simp only [spL,aT,aQ, *];done)|(simp only [spL,aT,aQ, *];rfl)) hb2
   |(exfalso;simp_all;done)
   |exact cQ.no (by first|(simp only [spL,aT,aQ, *];done)|(simp only [spL,aT,aQ, *];rfl))
def Dk (hR:gY) (hI:mM) (nm:ByteArray) (w:Wo):Cz 280 #[.string nm,.int .i64 3] w fun e w'=>cQ nm 3 w e w':=by
 cases hc:(nm.toList== [99,97,108,108])
 ·go_enter Tryz.func280,Tryz.ntmps280;go_wp2
  all_goals go_ret2
  all_goals first
   |exact cQ.yes (by first|(simp only [spL,aT,aQ, *];done)|(simp only [spL,aT,aQ, *];rfl)) (aK _ _)
   |(exfalso;simp_all;done)
   |exact cQ.no (by first|(simp only [spL,aT,aQ, *];done)|(simp only [spL,aT,aQ, *];rfl))
 ·have r1:∀w,Cz 210 #[.string ⟨#[63]⟩,.int .i64 2] w fun e w'=>∃s,e= .returned (.string s)∧s.size≤100∧Bz w w':=fun w=>hR 2 w (by decide)
  have i1:∀w,Cz 325 #[.int .i64 2] w fun e w'=>∃s,e= .returned (.string s)∧s.size≤100∧w'=w:=fun w=>hI 2 w (by decide)
  go_enter Tryz.func280,Tryz.ntmps280
  go_wp2_with first|(go_at_call 325;(with_reducible refine(i1 _).mono ?_);rintro e w2 ⟨s1,rfl,hz1,hw⟩;obtain rfl:=hw)|(go_at_call 210;(with_reducible refine(r1 _).mono ?_);rintro e w2 ⟨s2,rfl,hz2,hb2⟩;have a0:¬9223372036854775807<s1.size+s2.size:=(by omega))
  all_goals go_ret2
  all_goals first
   |exact cQ.yes (by first|(simp only [spL,aT,aQ, *];done)|(simp only [spL,aT,aQ, *];rfl)) (aK _ _)
   |exact cQ.yes (by first|(simp only [spL,aT,aQ, *];done)|(simp only [spL,aT,aQ, *];rfl)) hb2
   |(exfalso;simp_all;done)
   |exact cQ.no (by first|(simp only [spL,aT,aQ, *];done)|(simp only [spL,aT,aQ, *];rfl))
def Dj (hR:gY) (hI:mM) (nm:ByteArray) (w:Wo):Cz 280 #[.string nm,.int .i64 4] w fun e w'=>cQ nm 4 w e w':=by
 cases hc:(nm.toList== [99,97,108,108])
 ·go_enter Tryz.func280,Tryz.ntmps280;go_wp2
  all_goals go_ret2
  all_goals first
   |exact cQ.yes (by first|(simp only [spL,aT,aQ, *];done)|(simp only [spL,aT,aQ, *];rfl)) (aK _ _)
   |(exfalso;simp_all;done)
   |exact cQ.no (by first|(simp only [spL,aT,aQ, *];done)|(simp only [spL,aT,aQ, *];rfl))
 ·have r1:∀w,Cz 210 #[.string ⟨#[63]⟩,.int .i64 3] w fun e w'=>∃s,e= .returned (.string s)∧s.size≤100∧Bz w w':=fun w=>hR 3 w (by decide)
  have i1:∀w,Cz 325 #[.int .i64 3] w fun e w'=>∃s,e= .returned (.string s)∧s.size≤100∧w'=w:=fun w=>hI 3 w (by decide)
  go_enter Tryz.func280,Tryz.ntmps280
  go_wp2_with first|(go_at_call 325;(with_reducible refine(i1 _).mono ?_);rintro e w2 ⟨s1,rfl,hz1,hw⟩;obtain rfl:=hw)|(go_at_call 210;(with_reducible refine(r1 _).mono ?_);rintro e w2 ⟨s2,rfl,hz2,hb2⟩;have a0:¬9223372036854775807<s1.size+s2.size:=(by omega))
  all_goals go_ret2
  all_goals first
   |exact cQ.yes (by first|(simp only [spL,aT,aQ, *];done)|(simp only [spL,aT,aQ, *];rfl)) (aK _ _)
   |exact cQ.yes (by first|(simp only [spL,aT,aQ, *];done)|(simp only [spL,aT,aQ, *];rfl)) hb2
   |(exfalso;simp_all;done)
   |exact cQ.no (by first|(simp only [spL,aT,aQ, *];done)|(simp only [spL,aT,aQ, *];rfl))
def Di (hR:gY) (hI:mM) (nm:ByteArray) (w:Wo):Cz 280 #[.string nm,.int .i64 5] w fun e w'=>cQ nm 5 w e w':=by
 cases hc:(nm.toList== [99,97,108,108])
 ·go_enter Tryz.func280,Tryz.ntmps280;go_wp2
  all_goals go_ret2
  all_goals first
   |exact cQ.yes (by first|(simp only [spL,aT,aQ, *];done)|(simp only [spL,aT,aQ, *];rfl)) (aK _ _)
   |(exfalso;simp_all;done)
   |exact cQ.no (by first|(simp only [spL,aT,aQ, *];done)|(simp only [spL,aT,aQ, *];rfl))
 ·have r1:∀w,Cz 210 #[.string ⟨#[63]⟩,.int .i64 4] w fun e w'=>∃s,e= .returned (.string s)∧s.size≤100∧Bz w w':=fun w=>hR 4 w (by decide)
  have i1:∀w,Cz 325 #[.int .i64 4] w fun e w'=>∃s,e= .returned (.string s)∧s.size≤100∧w'=w:=fun w=>hI 4 w (by decide)
  go_enter Tryz.func280,Tryz.ntmps280
  go_wp2_with first|(go_at_call 325;(with_reducible refine(i1 _).mono ?_);rintro e w2 ⟨s1,rfl,hz1,hw⟩;obtain rfl:=hw)|(go_at_call 210;(with_reducible refine(r1 _).mono ?_);rintro e w2 ⟨s2,rfl,hz2,hb2⟩;have a0:¬9223372036854775807<s1.size+s2.size:=(by omega))
  all_goals go_ret2
  all_goals first
   |exact cQ.yes (by first|(simp only [spL,aT,aQ, *];done)|(simp only [spL,aT,aQ, *];rfl)) (aK _ _)
   |exact cQ.yes (by first|(simp only [spL,aT,aQ, *];done)|(simp only [spL,aT,aQ, *];rfl)) hb2
   |(exfalso;simp_all;done)
   |exact cQ.no (by first|(simp only [spL,aT,aQ, *];done)|(simp only [spL,aT,aQ, *];rfl))
def Dh (hR:gY) (hI:mM) (nm:ByteArray) (w:Wo):Cz 280 #[.string nm,.int .i64 6] w fun e w'=>cQ nm 6 w e w':=by
 cases hc:(nm.toList== [99,97,108,108])
 ·go_enter Tryz.func280,Tryz.ntmps280;go_wp2
  all_goals go_ret2
  all_goals first
   |exact cQ.yes (by first|(simp only [spL,aT,aQ, *];done)|(simp only [spL,aT,aQ, *];rfl)) (aK _ _)
   |(exfalso;simp_all;done)
   |exact cQ.no (by first|(simp only [spL,aT,aQ, *];done)|(simp only [spL,aT,aQ, *];rfl))
 ·have r1:∀w,Cz 210 #[.string ⟨#[63]⟩,.int .i64 5] w fun e w'=>∃s,e= .returned (.string s)∧s.size≤100∧Bz w w':=fun w=>hR 5 w (by decide)
  have i1:∀w,Cz 325 #[.int .i64 5] w fun e w'=>∃s,e= .returned (.string s)∧s.size≤100∧w'=w:=fun w=>hI 5 w (by decide)
  go_enter Tryz.func280,Tryz.ntmps280
  go_wp2_with first|(go_at_call 325;(with_reducible refine(i1 _).mono ?_);rintro e w2 ⟨s1,rfl,hz1,hw⟩;obtain rfl:=hw)|(go_at_call 210;(with_reducible refine(r1 _).mono ?_);rintro e w2 ⟨s2,rfl,hz2,hb2⟩;have a0:¬9223372036854775807<s1.size+s2.size:=(by omega))
  all_goals go_ret2
  all_goals first
   |exact cQ.yes (by first|(simp only [spL,aT,aQ, *];done)|(simp only [spL,aT,aQ, *];rfl)) (aK _ _)
   |exact cQ.yes (by first|(simp only [spL,aT,aQ, *];done)|(simp only [spL,aT,aQ, *];rfl)) hb2
   |(exfalso;simp_all;done)
   |exact cQ.no (by first|(simp only [spL,aT,aQ, *];done)|(simp only [spL,aT,aQ, *];rfl))
def Dg (hR:gY) (hI:mM) (nm:ByteArray) (w:Wo):Cz 280 #[.string nm,.int .i64 7] w fun e w'=>cQ nm 7 w e w':=by
 cases hc:(nm.toList== [99,97,108,108])
 ·go_enter Tryz.func280,Tryz.ntmps280;go_wp2
  all_goals go_ret2
  all_goals first
   |exact cQ.yes (by first|(simp only [spL,aT,aQ, *];done)|(simp only [spL,aT,aQ, *];rfl)) (aK _ _)
   |(exfalso;simp_all;done)
   |exact cQ.no (by first|(simp only [spL,aT,aQ, *];done)|(simp only [spL,aT,aQ, *];rfl))
 ·have r1:∀w,Cz 210 #[.string ⟨#[63]⟩,.int .i64 6] w fun e w'=>∃s,e= .returned (.string s)∧s.size≤100∧Bz w w':=fun w=>hR 6 w (by decide)
  have i1:∀w,Cz 325 #[.int .i64 6] w fun e w'=>∃s,e= .returned (.string s)∧s.size≤100∧w'=w:=fun w=>hI 6 w (by decide)
  go_enter Tryz.func280,Tryz.ntmps280
  go_wp2_with first|(go_at_call 325;(with_reducible refine(i1 _).mono ?_);rintro e w2 ⟨s1,rfl,hz1,hw⟩;obtain rfl:=hw)|(go_at_call 210;(with_reducible refine(r1 _).mono ?_);rintro e w2 ⟨s2,rfl,hz2,hb2⟩;have a0:¬9223372036854775807<s1.size+s2.size:=(by omega))
  all_goals go_ret2
  all_goals first
   |exact cQ.yes (by first|(simp only [spL,aT,aQ, *];done)|(simp only [spL,aT,aQ, *];rfl)) (aK _ _)
   |exact cQ.yes (by first|(simp only [spL,aT,aQ, *];done)|(simp only [spL,aT,aQ, *];rfl)) hb2
   |(exfalso;simp_all;done)
   |exact cQ.no (by first|(simp only [spL,aT,aQ, *];done)|(simp only [spL,aT,aQ, *];rfl))
def Df (hR:gY) (hI:mM) (nm:ByteArray) (w:Wo):Cz 280 #[.string nm,.int .i64 8] w fun e w'=>cQ nm 8 w e w':=by
 cases hc:(nm.toList== [99,97,108,108])
 ·go_enter Tryz.func280,Tryz.ntmps280;go_wp2
  all_goals go_ret2
  all_goals first
   |exact cQ.yes (by first|(simp only [spL,aT,aQ, *];done)|(simp only [spL,aT,aQ, *];rfl)) (aK _ _)
   |(exfalso;simp_all;done)
   |exact cQ.no (by first|(simp only [spL,aT,aQ, *];done)|(simp only [spL,aT,aQ, *];rfl))
 ·have r1:∀w,Cz 210 #[.string ⟨#[63]⟩,.int .i64 7] w fun e w'=>∃s,e= .returned (.string s)∧s.size≤100∧Bz w w':=fun w=>hR 7 w (by decide)
  have i1:∀w,Cz 325 #[.int .i64 7] w fun e w'=>∃s,e= .returned (.string s)∧s.size≤100∧w'=w:=fun w=>hI 7 w (by decide)
  go_enter Tryz.func280,Tryz.ntmps280
  go_wp2_with first|(go_at_call 325;(with_reducible refine(i1 _).mono ?_);rintro e w2 ⟨s1,rfl,hz1,hw⟩;obtain rfl:=hw)|(go_at_call 210;(with_reducible refine(r1 _).mono ?_);rintro e w2 ⟨s2,rfl,hz2,hb2⟩;have a0:¬9223372036854775807<s1.size+s2.size:=(by omega))
  all_goals go_ret2
  all_goals first
   |exact cQ.yes (by first|(simp only [spL,aT,aQ, *];done)|(simp only [spL,aT,aQ, *];rfl)) (aK _ _)
   |exact cQ.yes (by first|(simp only [spL,aT,aQ, *];done)|(simp only [spL,aT,aQ, *];rfl)) hb2
   |(exfalso;simp_all;done)
   |exact cQ.no (by first|(simp only [spL,aT,aQ, *];done)|(simp only [spL,aT,aQ, *];rfl))
def De (nm:ByteArray) (n:Nat) (w:Wo):Cz 280 #[.string nm,.int .i64 ((n+9:Nat):Int)] w fun e w'=>cQ nm (n+9) w e w':=by
 have h1:¬(((n+9:Nat):Int)=1):=by omega
 have h2:¬(((n+9:Nat):Int)=2):=by omega
 have h3:¬(((n+9:Nat):Int)=3):=by omega
 have h4:¬(((n+9:Nat):Int)≤8):=by omega
 have h5:(1:Int)≤((n+9:Nat):Int):=by omega
 have h6:(8:Int)<((n+9:Nat):Int):=by omega
 generalize ((n+9:Nat):Int)=z at*;cases hc:(nm.toList== [99,97,108,108])<;>
 ·go_enter Tryz.func280,Tryz.ntmps280;go_wp2
  go_ret2
  exact cQ.no rfl
def Dd (hR:gY) (hI:mM) (nm:ByteArray) (n:Nat) (w:Wo):Cz 280 #[.string nm,.int .i64 n] w fun e w'=>cQ nm n w e w':=by
 match n with
 |0=>exact Dn hR hI nm w
 |1=>exact Dm hR hI nm w
 |2=>exact Dl hR hI nm w
 |3=>exact Dk hR hI nm w
 |4=>exact Dj hR hI nm w
 |5=>exact Di hR hI nm w
 |6=>exact Dh hR hI nm w
 |7=>exact Dg hR hI nm w
 |8=>exact Df hR hI nm w
 |n+9=>exact De nm n w
end Go.Proofs.YtealgacfnbbgdaaGreatDoor
namespace Go.Proofs.YtealgacfnbbgdaaGreatDoor
open Go.RowKit Go.Maps Go.Shelf
variable {l:List ByteArray} {x s y:ByteArray} {Bs n n0 b i:Nat}
section
attribute [local go_sem] Oper.semAt_some
def KpF.refl (Bs:Nat) (s:ByteArray) (W:Wo):KpF Bs s W W:=⟨id,id⟩
def kpF_b (W:Wo) (l:Nat) (o o':Obj) (_:n0≤l) (h:W.heap[l]?=some o) (hc:o.isCells=false) (_:o.isWalk=false):KpF Bs s W (W.putObj l o'):=KpF.putObj W l o o' h hc
def KeepsOthers.below {W W':Wo} (h:Bz W W'):KeepsOthers W W':=⟨h.size,fun k o hk _=>(h.block k (cV.1 hk).1).trans hk⟩
def flL (n:Nat):List (List UInt8):=(fieldsOf (pnS n)).map (·.toList)
def clL (n:Nat):List (List UInt8):=(fieldsOf (cnS n)).map (·.toList)
def lL (l:List UInt8) (n:Nat):Bool:=(spL n).contains l||(flL n).contains l
def callL:List UInt8:=[99,97,108,108]
def icB (l:List UInt8) (n:Nat):Bool:=if l==callL then decide (1≤n∧n≤8) else(clL n).contains l
def pnS5 (n:Nat):pnS (n+5)=⟨#[]⟩:=rfl
def ascB (s:ByteArray):Bool:=decide (s.size≤1000000)&&(List.range s.size).all fun i=>decide ((s[i]!).toNat<128)
def sU (h:ascB s=true):s.size≤1000000∧∀i,i<s.size→(s[i]!).toNat<128:=by
 unfold ascB at h;rw [aR,iO,kV] at h;exact⟨h.1,fun i hi=>NH (h.2 i (GP.2 hi))⟩
def RL:∀n,(pnS n).size≤1000000∧∀i,i<(pnS n).size→((pnS n)[i]!).toNat<128
 |0=>sU (by kernel_rfl)
 |1=>sU (by kernel_rfl)
 |2=>sU (by kernel_rfl)
 |3=>sU (by kernel_rfl)
 |4=>sU (by kernel_rfl)
 |n+5=>⟨cJ _,fun i hi=>absurd hi (rR _)⟩
def WV:∀n,(cnS n).size≤1000000∧∀i,i<(cnS n).size→((cnS n)[i]!).toNat<128
 |0=>sU (by kernel_rfl)
 |1=>sU (by kernel_rfl)
 |2=>sU (by kernel_rfl)
 |3=>sU (by kernel_rfl)
 |n+4=>⟨cJ _,fun i hi=>absurd hi (rR _)⟩
def pnS_lt (h:0<(pnS n).size):n≤8:=by
 match n with
 |0|1|2|3|4=>omega
 |n+5=>rw [pnS5] at h;exact absurd h (uW 0)
def WK (h:x∈l):(l.map (·.toList)).contains x.toList=true:=by
 simp only [NY,rT,gF];exact⟨_,⟨x,h,rfl⟩,by simp⟩
def WL (h:∀y∈l,(y.toList==x.toList)=false):(l.map (·.toList)).contains x.toList=false:=by
 rw [yW];intro h2;simp only [NY,rT,gF] at h2;obtain⟨_,⟨y,hy,rfl⟩,h3⟩:=h2;have h4:=h y hy;rw [beq_eq_false_iff_ne] at h4;exact h4 (by simpa using (tE.1 h3).symm)
def VV (h:(x.toList==y.toList)=true):x=y:=by
 have e:=tE.1 h;rw [mS,mS] at e;cases x;cases y;congr 1;exact mT.1 e
def TD {w:Wo} {v:Value} (h:w.cell? ⟨b,i,none⟩=some v):b<w.heap.size:=by
 unfold World.cell? at h;split at h
 ·rename_i c t fz hb;exact(cV.1 hb).1
 ·cases h
def SysPost (nm:ByteArray) (n:Nat) (w:Wo) (e:Ending) (w':Wo):Prop:=∃s,e= .returned (.tuple #[.string s,.bool (lL nm.toList n)])∧(lL nm.toList n=false→s=⟨#[]⟩)∧Bz w w'
def Co (hR:gY) (hI:mM) (nm:ByteArray) (n:Nat) (w:Wo) (h3:2<w.heap.size) (a8:eQ w):
  CallsIn Fence.wide 5 Tryz.prog 207 #[.string nm,.int .i64 n] w fun e w'=>SysPost nm n w e w':=by
 have h1:1≤5:=by decide
 have b8:Fence.wide.round=none:=rfl;refine ZK Tryz.func207 rfl trivial ?_ b8;simp only [Tryz.ntmps207,GN,jD,pN,Nat.reduceAdd,Nat.reduceSub,HI,HH,GO,HB,lG,mF];have a9:=Dd hR hI nm n;have b9:=Iz n;cases hb:(spL n).contains nm.toList
 ·have a6:∀w,Cz 280 #[.string nm,.int .i64 n] w fun e w'=>e= .returned (.tuple #[.string ⟨#[]⟩,.bool false])∧Bz w w':=fun w=>(a9 w).mono (by
   rintro e w' ⟨s,rfl,hs,hb2⟩;rw [hb];rw [hs hb];exact⟨rfl,hb2⟩)
  clear a9;obtain⟨WA,hWA⟩:∃W0,((((w.alloc (Obj.cells #[Value.string nm] 9)).alloc (Obj.cells #[Value.int IntKind.i64 n] 3)).alloc (Obj.cells #[Value.string ⟨#[]⟩] 9)).alloc (Obj.cells #[Value.bool false] 4))=W0:=⟨_,rfl⟩;have c0:=oF w (.string nm) 9;have c1:=oF (w.alloc (Obj.cells #[Value.string nm] 9)) (.int .i64 n) 3;have c2:=oF ((w.alloc (Obj.cells #[Value.string nm] 9)).alloc (Obj.cells #[Value.int IntKind.i64 n] 3)) (.string ⟨#[]⟩) 9;have c3:=oF (((w.alloc (Obj.cells #[Value.string nm] 9)).alloc (Obj.cells #[Value.int IntKind.i64 n] 3)).alloc (Obj.cells #[Value.string ⟨#[]⟩] 9)) (.bool false) 4;simp only [eX] at c1 c2 c3;have a0:WA.cell? ⟨w.heap.size,0,none⟩=some (.string nm):=by rw [←hWA];exact kI _ (kI _ (kI _ (c0.1)))
  have a1:WA.cell? ⟨w.heap.size+1,0,none⟩=some (.int .i64 n):=by rw [←hWA];exact kI _ (kI _ (c1.1))
  have a2:WA.cell? ⟨w.heap.size+1+1,0,none⟩=some (.string ⟨#[]⟩):=by rw [←hWA];exact kI _ (c2.1)
  have f2:WA.frozen? ⟨w.heap.size+1+1,0,none⟩=false:=by rw [←hWA];exact AM _ (c2.1) (c2.2)
  have a3:WA.cell? ⟨w.heap.size+1+1+1,0,none⟩=some (.bool false):=by rw [←hWA];exact c3.1
  have f3:WA.frozen? ⟨w.heap.size+1+1+1,0,none⟩=false:=by rw [←hWA];exact c3.2
  have b1:Bz w WA:=by rw [←hWA];exact((((aK _ w).alloc (aA _) _).alloc (by simp) _).alloc (by simp;omega) _).alloc (by simp;omega) _
  have d2:WA.heap.size=w.heap.size+4:=by rw [←hWA];simp
  clear c0 c1 c2 c3
  gi_wp2_with first
   |(refine⟨trivial,?_⟩;gi_at_call 280;refine(sZ.2 (a6 _)).mono ?_;rintro e WB ⟨rfl,hBB⟩;have g0:=(hBB.cell (p:=⟨w.heap.size,0,none⟩) (by show w.heap.size<WA.heap.size;omega)).trans a0;have g1:=(hBB.cell (p:=⟨w.heap.size+1,0,none⟩) (by show w.heap.size+1<WA.heap.size;omega)).trans a1;have g2:=(hBB.cell (p:=⟨w.heap.size+1+1,0,none⟩) (by show w.heap.size+1+1<WA.heap.size;omega)).trans a2;have g3:=(hBB.cell (p:=⟨w.heap.size+1+1+1,0,none⟩) (by show w.heap.size+1+1+1<WA.heap.size;omega)).trans a3)
   |(refine⟨trivial,?_⟩;gi_at_call 281;refine(sZ.2 (b9 _)).mono ?_;rintro e w' ⟨rfl,hw⟩;obtain rfl:=hw.symm)
   |(refine⟨trivial,?_⟩;gi_at_call 208;refine(sZ.2 (VQ (pnS n) _)).mono ?_;rintro e w' ⟨rfl,hw⟩;obtain rfl:=hw.symm)
  have d6:=f2;have d7:=f3;have b5:WB.frozen? ⟨w.heap.size+1+1,0,none⟩=false:=(hBB.frozen (p:=⟨w.heap.size+1+1,0,none⟩) (by show w.heap.size+1+1<WA.heap.size;omega)).trans f2;have b6:WB.frozen? ⟨w.heap.size+1+1+1,0,none⟩=false:=(hBB.frozen (p:=⟨w.heap.size+1+1+1,0,none⟩) (by show w.heap.size+1+1+1<WA.heap.size;omega)).trans f3;have b2:Bz w WB:=b1.trans (hBB.mono (by omega));have d4:w.heap.size+4≤WB.heap.size:=by have:=hBB.size;omega
  obtain⟨W0,hW0⟩:=enm (WB.alloc (Obj.cells #[Value.string (pnS n)] 9));have c4:=oF WB (.string (pnS n)) 9;have k0:W0.cell? ⟨w.heap.size,0,none⟩=some (.string nm):=by rw [←hW0];exact kI _ g0
  have k1:W0.cell? ⟨w.heap.size+1,0,none⟩=some (.int .i64 n):=by rw [←hW0];exact kI _ g1
  have k2:W0.cell? ⟨w.heap.size+1+1,0,none⟩=some (.string ⟨#[]⟩):=by rw [←hW0];exact kI _ g2
  have k3:W0.cell? ⟨w.heap.size+1+1+1,0,none⟩=some (.bool false):=by rw [←hW0];exact kI _ g3
  have k4:W0.cell? ⟨WB.heap.size,0,none⟩=some (.string (pnS n)):=by rw [←hW0];exact c4.1
  have z2:W0.frozen? ⟨w.heap.size+1+1,0,none⟩=false:=by rw [←hW0];exact AM _ g2 b5
  have z3:W0.frozen? ⟨w.heap.size+1+1+1,0,none⟩=false:=by rw [←hW0];exact AM _ g3 b6
  have b7:Bz w W0:=by rw [←hW0];exact b2.alloc (by omega) _
  have d3:W0.heap.size=WB.heap.size+1:=by rw [←hW0];simp
  have b4:eQ W0:=fun b hb=>(b7.cell (p:=⟨2,b,none⟩) h3).trans (a8 b hb)
  clear c4;rw [hW0];clear hW0;refine wpIn_rangeFunc_ownF b8 h1 (gf:=282) (lb:=#[.pointer (some ⟨WB.heap.size,0,none⟩)]) rfl trivial (enters_of Tryz.func282 (by kernel_rfl) rfl)
   (VP Fence.wide (5-1) trivial rfl (by decide) WB.heap.size (pnS n) W0 (by omega) (by omega) (RL n).1 (RL n).2 k4 b4) KpF.trans kpF_b (aK _ _) (fun _=>rfl)
   (fun pre W=>((W.cell? ⟨w.heap.size,0,none⟩=some (.string nm)∧W.cell? ⟨w.heap.size+1,0,none⟩=some (.int .i64 n)∧(W.cell? ⟨w.heap.size+1+1,0,none⟩=some (.string ⟨#[]⟩)∧W.frozen? ⟨w.heap.size+1+1,0,none⟩=false)∧(W.cell? ⟨w.heap.size+1+1+1,0,none⟩=some (.bool false)∧W.frozen? ⟨w.heap.size+1+1+1,0,none⟩=false))∧(∀y∈pre,(y.toList==nm.toList)=false))∧Bz w W)
   (fun c pre W=>((c= .ret∧nm∈pre)∧(∃s,W.cell? ⟨w.heap.size+1+1,0,none⟩=some (.string s))∧W.cell? ⟨w.heap.size+1+1+1,0,none⟩=some (.bool true))∧Bz w W)
   (NJ (Own.from (fun s A B row hs hg hr=>⟨⟨cell_kept hs.1.1 hg hr,cell_kept hs.1.2.1 hg hr,⟨cell_kept hs.1.2.2.1.1 hg hr,(NI hs.1.2.2.1.1 hg hr).trans hs.1.2.2.1.2⟩,⟨cell_kept hs.1.2.2.2.1 hg hr,(NI hs.1.2.2.2.1 hg hr).trans hs.1.2.2.2.2⟩⟩,hs.2⟩) _) (NG (aA _) (by omega)))
   (fun c=>NJ (Own.from (fun s A B row hs hg hr=>⟨hs.1,hs.2.1.imp fun s h=>cell_kept h hg hr,cell_kept hs.2.2 hg hr⟩) _) (NG (aA _) (by omega)))
   ⟨⟨⟨k0,k1,⟨k2,z2⟩,⟨k3,z3⟩⟩,fun y hy=>by cases hy⟩,b7⟩
   (fun y=>{ tmps:=#[Value.string nm,Value.int IntKind.i64 n,.pointer (some ⟨w.heap.size,0,none⟩),.pointer (some ⟨w.heap.size+1,0,none⟩),.pointer (some ⟨w.heap.size+1+1,0,none⟩),.pointer (some ⟨w.heap.size+1+1+1,0,none⟩),Value.string ⟨#[]⟩,Value.bool false,.string y,Value.tuple #[Value.string ⟨#[]⟩,Value.bool false],Value.string nm,Value.int IntKind.i64 n,Value.tuple #[Value.string ⟨#[]⟩,Value.bool false],Value.string ⟨#[]⟩,Value.bool false,Value.bool false,undef,Value.int IntKind.i64 n,Value.string (pnS n),.func (.func 282) #[] #[.pointer (some ⟨WB.heap.size,0,none⟩)],.string y,undef,undef,undef,undef,undef],defers:=[] }) ?assign ?body ?done ?stop
  case assign=>
   intro l y W K hK
   gi_wp2
   exact hK
  case body=>
   rintro l pre y W ⟨⟨⟨q0,q1,q2,q3⟩,hpre⟩,hB⟩ hlen;cases hy:(y.toList==nm.toList)
   ·gi_wp2
    exact⟨KeepsOthers.refl _,KpF.refl _ _ _,⟨⟨q0,q1,q2,q3⟩,fun z hz=>by
     rcases eY.1 hz with hz|hz
     ·exact hpre z hz
     ·rw [mP.1 hz];exact hy⟩,hB⟩
   ·obtain rfl:=VV hy;have b3:∀w,CallsIn (Fence.wide.inRound l) (5-1-1-1) Tryz.prog 210 #[.string ⟨#[63]⟩,.int .i64 n] w fun e w'=>∃s,e= .returned (.string s)∧s.size≤100∧Bz w w':=fun w=>(sZ.2 (hR n w (pnS_lt (by omega))):CallsIn Fence.wide (5-1-1-1) Tryz.prog 210 #[.string ⟨#[63]⟩,.int .i64 n] w fun e w'=>∃s,e= .returned (.string s)∧s.size≤100∧Bz w w')
    have d5:w.heap.size+4<W.heap.size∨True:=.inr trivial;have l2:w.heap.size+1+1<W.heap.size:=TD q2.1;have l3:w.heap.size+1+1+1<W.heap.size:=TD q3.1
    gi_wp2_with (refine⟨trivial,?_⟩;gi_at_call 210;refine(b3 _).mono ?_;rintro e WR ⟨sr,rfl,_,hbR⟩;have r2:=(hbR.cell (p:=⟨w.heap.size+1+1,0,none⟩) l2).trans q2.1;have r3:=(hbR.cell (p:=⟨w.heap.size+1+1+1,0,none⟩) l3).trans q3.1;have y2:=(hbR.frozen (p:=⟨w.heap.size+1+1,0,none⟩) l2).trans q2.2;have y3:=(hbR.frozen (p:=⟨w.heap.size+1+1+1,0,none⟩) l3).trans q3.2)
    have a4:(⟨w.heap.size+1+1+1,0,none⟩:Addr)≠⟨w.heap.size+1+1,0,none⟩:=by intro e;have:=cI Addr.block e;simp at this
    have e2:((WR.setCell ⟨w.heap.size+1+1,0,none⟩ (.string sr)).setCell ⟨w.heap.size+1+1+1,0,none⟩ (.bool true)).cell? ⟨w.heap.size+1+1,0,none⟩=some (.string sr):=
     (BT _ _ _ _ a4).trans (rO _ _ _ (by rw [r2];rfl))
    have a7:(WR.setCell ⟨w.heap.size+1+1,0,none⟩ (.string sr)).cell? ⟨w.heap.size+1+1+1,0,none⟩=some (.bool false):=(BT _ _ _ _ (fO a4)).trans r3;have e3:((WR.setCell ⟨w.heap.size+1+1,0,none⟩ (.string sr)).setCell ⟨w.heap.size+1+1+1,0,none⟩ (.bool true)).cell? ⟨w.heap.size+1+1+1,0,none⟩=some (.bool true):=
     rO _ _ _ (by rw [a7];rfl)
    have c6:Bz w WR:=hB.trans (hbR.mono hB.size);exact⟨((KeepsOthers.below hbR).trans (KeepsOthers.setCell WR _ _)).trans (KeepsOthers.setCell _ _ _),⟨⟨rfl,Ao _ (mP.2 rfl)⟩,⟨sr,e2⟩,e3⟩,(c6.setCell (p:=⟨w.heap.size+1+1,0,none⟩) (by show w.heap.size≤w.heap.size+1+1;omega) _).setCell (p:=⟨w.heap.size+1+1+1,0,none⟩) (by show w.heap.size≤w.heap.size+1+1+1;omega) _⟩
  case done=>
   rintro D ys W hD rfl ⟨⟨⟨_,_,⟨q2,j2⟩,⟨q3,j3⟩⟩,hpre⟩,hB⟩ hK;have c9:lL nm.toList n=false:=by
    unfold lL flL;rw [hb,WL hpre];rfl
   gi_wp2
   have c8:=(KeepsOthers.setCell W ⟨w.heap.size+1+1,0,none⟩ (.string ⟨#[]⟩)).same D _ hK rfl;have b0:=(KeepsOthers.setCell _ ⟨w.heap.size+1+1+1,0,none⟩ (.bool false)).same D _ c8 rfl;have c5:Bz w ((W.setCell ⟨w.heap.size+1+1,0,none⟩ (.string ⟨#[]⟩)).setCell ⟨w.heap.size+1+1+1,0,none⟩ (.bool false)):=(hB.setCell (p:=⟨w.heap.size+1+1,0,none⟩) (by show w.heap.size≤w.heap.size+1+1;omega) _).setCell (p:=⟨w.heap.size+1+1+1,0,none⟩) (by show w.heap.size≤w.heap.size+1+1+1;omega) _;have a4:(⟨w.heap.size+1+1+1,0,none⟩:Addr)≠⟨w.heap.size+1+1,0,none⟩:=by intro e;have:=cI Addr.block e;simp at this
   have e2:((W.setCell ⟨w.heap.size+1+1,0,none⟩ (.string ⟨#[]⟩)).setCell ⟨w.heap.size+1+1+1,0,none⟩ (.bool false)).cell? ⟨w.heap.size+1+1,0,none⟩=some (.string ⟨#[]⟩):=
    (BT _ _ _ _ a4).trans (rO _ _ _ (by rw [q2];rfl))
   have a7:(W.setCell ⟨w.heap.size+1+1,0,none⟩ (.string ⟨#[]⟩)).cell? ⟨w.heap.size+1+1+1,0,none⟩=some (.bool false):=(BT _ _ _ _ (fO a4)).trans q3;have e3:((W.setCell ⟨w.heap.size+1+1,0,none⟩ (.string ⟨#[]⟩)).setCell ⟨w.heap.size+1+1+1,0,none⟩ (.bool false)).cell? ⟨w.heap.size+1+1+1,0,none⟩=some (.bool false):=
    rO _ _ _ (by rw [a7];rfl)
   generalize (W.setCell ⟨w.heap.size+1+1,0,none⟩ (.string ⟨#[]⟩)).setCell ⟨w.heap.size+1+1+1,0,none⟩ (.bool false)=W3 at*;refine⟨by simp,.inl ⟨_,_,rfl,FZ b0,?_⟩⟩;have g2:=cell_kept e2 (yO _ D (.deferred none)) (fun r e=>by cases e;exact⟨_,b0,rfl⟩);have g3:=cell_kept e3 (yO _ D (.deferred none)) (fun r e=>by cases e;exact⟨_,b0,rfl⟩);refine⟨.tuple #[.string ⟨#[]⟩,.bool false],?_,⟨⟨#[]⟩,by rw [c9],fun _=>rfl,c5.trans (belowK_b (w:=w) (aA _) _ D _ _ (by omega) b0 rfl rfl)⟩⟩;simp [results,Tryz.f207,go_sem,g2,g3]
  case stop=>
   rintro D c pre W hD d0 ⟨⟨⟨rfl,hin⟩,⟨sr,q2⟩,q3⟩,hB⟩ hK;have a5:lL nm.toList n=true:=by
    unfold lL flL;rw [WK (d0.subset hin),Bool.or_true]
   gi_wp2
   refine⟨by simp,.inl ⟨_,_,rfl,FZ hK,?_⟩⟩;have g2:=cell_kept q2 (yO _ D (.deferred none)) (fun r e=>by cases e;exact⟨_,hK,rfl⟩);have g3:=cell_kept q3 (yO _ D (.deferred none)) (fun r e=>by cases e;exact⟨_,hK,rfl⟩);refine⟨.tuple #[.string sr,.bool true],?_,⟨sr,by rw [a5],fun h=>(by rw [a5] at h;cases h),hB.trans (belowK_b (w:=w) (aA _) _ D _ _ (by omega) hK rfl rfl)⟩⟩;simp [results,Tryz.f207,go_sem,g2,g3]
 ·have a6:∀w,Cz 280 #[.string nm,.int .i64 n] w fun e w'=>∃s,e= .returned (.tuple #[.string s,.bool true])∧Bz w w':=fun w=>(a9 w).mono (by
   rintro e w' ⟨s,rfl,hs,hb2⟩;rw [hb];exact⟨s,rfl,hb2⟩)
  have a5:lL nm.toList n=true:=by unfold lL;rw [hb,Bool.true_or]
  clear a9;obtain⟨WA,hWA⟩:∃W0,((((w.alloc (Obj.cells #[Value.string nm] 9)).alloc (Obj.cells #[Value.int IntKind.i64 n] 3)).alloc (Obj.cells #[Value.string ⟨#[]⟩] 9)).alloc (Obj.cells #[Value.bool false] 4))=W0:=⟨_,rfl⟩;have c0:=oF w (.string nm) 9;have c1:=oF (w.alloc (Obj.cells #[Value.string nm] 9)) (.int .i64 n) 3;have c2:=oF ((w.alloc (Obj.cells #[Value.string nm] 9)).alloc (Obj.cells #[Value.int IntKind.i64 n] 3)) (.string ⟨#[]⟩) 9;have c3:=oF (((w.alloc (Obj.cells #[Value.string nm] 9)).alloc (Obj.cells #[Value.int IntKind.i64 n] 3)).alloc (Obj.cells #[Value.string ⟨#[]⟩] 9)) (.bool false) 4;simp only [eX] at c1 c2 c3;have a0:WA.cell? ⟨w.heap.size,0,none⟩=some (.string nm):=by rw [←hWA];exact kI _ (kI _ (kI _ (c0.1)))
  have a1:WA.cell? ⟨w.heap.size+1,0,none⟩=some (.int .i64 n):=by rw [←hWA];exact kI _ (kI _ (c1.1))
  have a2:WA.cell? ⟨w.heap.size+1+1,0,none⟩=some (.string ⟨#[]⟩):=by rw [←hWA];exact kI _ (c2.1)
  have f2:WA.frozen? ⟨w.heap.size+1+1,0,none⟩=false:=by rw [←hWA];exact AM _ (c2.1) (c2.2)
  have a3:WA.cell? ⟨w.heap.size+1+1+1,0,none⟩=some (.bool false):=by rw [←hWA];exact c3.1
  have f3:WA.frozen? ⟨w.heap.size+1+1+1,0,none⟩=false:=by rw [←hWA];exact c3.2
  have b1:Bz w WA:=by rw [←hWA];exact((((aK _ w).alloc (aA _) _).alloc (by simp) _).alloc (by simp;omega) _).alloc (by simp;omega) _
  have d2:WA.heap.size=w.heap.size+4:=by rw [←hWA];simp
  clear c0 c1 c2 c3
  gi_wp2_with first
   |(refine⟨trivial,?_⟩;gi_at_call 280;refine(sZ.2 (a6 _)).mono ?_;rintro e WB ⟨sr,rfl,hBB⟩;have g0:=(hBB.cell (p:=⟨w.heap.size,0,none⟩) (by show w.heap.size<WA.heap.size;omega)).trans a0;have g2:=(hBB.cell (p:=⟨w.heap.size+1+1,0,none⟩) (by show w.heap.size+1+1<WA.heap.size;omega)).trans a2;have g3:=(hBB.cell (p:=⟨w.heap.size+1+1+1,0,none⟩) (by show w.heap.size+1+1+1<WA.heap.size;omega)).trans a3;have b5:WB.frozen? ⟨w.heap.size+1+1,0,none⟩=false:=(hBB.frozen (p:=⟨w.heap.size+1+1,0,none⟩) (by show w.heap.size+1+1<WA.heap.size;omega)).trans f2;have b6:WB.frozen? ⟨w.heap.size+1+1+1,0,none⟩=false:=(hBB.frozen (p:=⟨w.heap.size+1+1+1,0,none⟩) (by show w.heap.size+1+1+1<WA.heap.size;omega)).trans f3)
  have c7:Bz w WB:=b1.trans (hBB.mono (by omega));have a4:(⟨w.heap.size+1+1+1,0,none⟩:Addr)≠⟨w.heap.size+1+1,0,none⟩:=by intro e;have:=cI Addr.block e;simp at this
  have e2:((WB.setCell ⟨w.heap.size+1+1,0,none⟩ (.string sr)).setCell ⟨w.heap.size+1+1+1,0,none⟩ (.bool true)).cell? ⟨w.heap.size+1+1,0,none⟩=some (.string sr):=
   (BT _ _ _ _ a4).trans (rO _ _ _ (by rw [g2];rfl))
  have a7:(WB.setCell ⟨w.heap.size+1+1,0,none⟩ (.string sr)).cell? ⟨w.heap.size+1+1+1,0,none⟩=some (.bool false):=(BT _ _ _ _ (fO a4)).trans g3;have e3:((WB.setCell ⟨w.heap.size+1+1,0,none⟩ (.string sr)).setCell ⟨w.heap.size+1+1+1,0,none⟩ (.bool true)).cell? ⟨w.heap.size+1+1+1,0,none⟩=some (.bool true):=
   rO _ _ _ (by rw [a7];rfl)
  refine⟨.tuple #[.string sr,.bool true],?_,⟨sr,by rw [a5],fun h=>(by rw [a5] at h;cases h),(c7.setCell (p:=⟨w.heap.size+1+1,0,none⟩) (by show w.heap.size≤w.heap.size+1+1;omega) _).setCell (p:=⟨w.heap.size+1+1+1,0,none⟩) (by show w.heap.size≤w.heap.size+1+1+1;omega) _⟩⟩;simp [results,Tryz.f207,go_sem,e2,e3]
def OX (hR:gY) (hI:mM) (nm:ByteArray) (n:Nat) (w:Wo) (h3:2<w.heap.size) (a8:eQ w):
  Cz 207 #[.string nm,.int .i64 n] w fun e w'=>SysPost nm n w e w':=sZ.1 (Co hR hI nm n w h3 a8)
def Ke (hR:gY) (hI:mM) (nm:ByteArray) (n:Nat) (w:Wo) (h3:2<w.heap.size) (a8:eQ w):
  Cz 126 #[.string nm,.int .i64 n] w fun e w'=>e= .returned (.bool (lL nm.toList n))∧Bz w w':=by
 have d1:=OX hR hI nm n w h3 a8;obtain⟨B,hB⟩:∃b,lL nm.toList n=b:=⟨_,rfl⟩;unfold SysPost at d1;rw [hB] at d1 ⊢;clear hB;go_enter Tryz.func126,Tryz.ntmps126
 go_wp2_with (go_at_call 207;(with_reducible refine d1.mono ?_);rintro e w2 ⟨s,rfl,hs,hb2⟩)
 go_ret
 exact⟨rfl,hb2⟩
end
section
attribute [local go_sem] Oper.semAt_some
def Nw (nm:ByteArray) (n:Nat) (w:Wo) (h3:2<w.heap.size) (a7:eQ w):
  CallsIn Fence.wide 5 Tryz.prog 127 #[.string nm,.int .i64 n] w fun e w'=>e= .returned (.bool (icB nm.toList n))∧Bz w w':=by
 have h1:1≤5:=by decide
 have b1:Fence.wide.round=none:=rfl;refine ZK Tryz.func127 rfl trivial ?_ b1;simp only [Tryz.ntmps127,GN,jD,pN,Nat.reduceAdd,Nat.reduceSub,HI,HH,GO,HB,lG,mF];have b2:=Oe n;obtain⟨WA,hWA⟩:∃W0,((w.alloc (Obj.cells #[Value.string nm] 9)).alloc (Obj.cells #[Value.bool false] 4))=W0:=⟨_,rfl⟩;have c0:=oF w (.string nm) 9;have c1:=oF (w.alloc (Obj.cells #[Value.string nm] 9)) (.bool false) 4;simp only [eX] at c1;have a0:WA.cell? ⟨w.heap.size,0,none⟩=some (.string nm):=by rw [←hWA];exact kI _ c0.1
 have a1:WA.cell? ⟨w.heap.size+1,0,none⟩=some (.bool false):=by rw [←hWA];exact c1.1
 have f1:WA.frozen? ⟨w.heap.size+1,0,none⟩=false:=by rw [←hWA];exact c1.2
 have a4:Bz w WA:=by rw [←hWA];exact((aK _ w).alloc (aA _) _).alloc (by simp) _
 have a6:Aside (WA.heap.size=w.heap.size+2):=by show _=_;rw [←hWA];simp
 clear c0 c1;cases hc:(nm.toList== [99,97,108,108])
 ·have a3:icB nm.toList n=(clL n).contains nm.toList:=by unfold icB callL;rw [hc];rfl
  gi_wp2_with first
   |(refine⟨trivial,?_⟩;gi_at_call 209;refine(sZ.2 (b2 _)).mono ?_;rintro e w' ⟨rfl,hw⟩;obtain rfl:=hw.symm)
   |(refine⟨trivial,?_⟩;gi_at_call 208;refine(sZ.2 (VQ (cnS n) _)).mono ?_;rintro e w' ⟨rfl,hw⟩;obtain rfl:=hw.symm)
  have b7:w.heap.size+2≤WA.heap.size:=NQ a6.o.symm;obtain⟨W0,hW0⟩:=enm (WA.alloc (Obj.cells #[Value.string (cnS n)] 9));have c4:=oF WA (.string (cnS n)) 9;have k0:W0.cell? ⟨w.heap.size,0,none⟩=some (.string nm):=by rw [←hW0];exact kI _ a0
  have k3:W0.cell? ⟨w.heap.size+1,0,none⟩=some (.bool false):=by rw [←hW0];exact kI _ a1
  have k4:W0.cell? ⟨WA.heap.size,0,none⟩=some (.string (cnS n)):=by rw [←hW0];exact c4.1
  have z3:W0.frozen? ⟨w.heap.size+1,0,none⟩=false:=by rw [←hW0];exact AM _ a1 f1
  have b0:Bz w W0:=by rw [←hW0];exact a4.alloc (by omega) _
  have b6:W0.heap.size=WA.heap.size+1:=by rw [←hW0];simp
  have a8:eQ W0:=fun b hb=>(b0.cell (p:=⟨2,b,none⟩) h3).trans (a7 b hb)
  clear c4;rw [hW0];clear hW0;refine wpIn_rangeFunc_ownF b1 h1 (gf:=282) (lb:=#[.pointer (some ⟨WA.heap.size,0,none⟩)]) rfl trivial (enters_of Tryz.func282 (by kernel_rfl) rfl)
   (VP Fence.wide (5-1) trivial rfl (by decide) WA.heap.size (cnS n) W0 (by omega) (by omega) (WV n).1 (WV n).2 k4 a8) KpF.trans kpF_b (aK _ _) (fun _=>rfl)
   (fun pre W=>((W.cell? ⟨w.heap.size,0,none⟩=some (.string nm)∧(W.cell? ⟨w.heap.size+1,0,none⟩=some (.bool false)∧W.frozen? ⟨w.heap.size+1,0,none⟩=false))∧(∀y∈pre,(y.toList==nm.toList)=false))∧Bz w W)
   (fun c pre W=>((c= .ret∧nm∈pre)∧W.cell? ⟨w.heap.size+1,0,none⟩=some (.bool true))∧Bz w W)
   (NJ (Own.from (fun s A B row hs hg hr=>⟨⟨cell_kept hs.1.1 hg hr,⟨cell_kept hs.1.2.1 hg hr,(NI hs.1.2.1 hg hr).trans hs.1.2.2⟩⟩,hs.2⟩) _) (NG (aA _) (by omega)))
   (fun c=>NJ (Own.from (fun s A B row hs hg hr=>⟨hs.1,cell_kept hs.2 hg hr⟩) _) (NG (aA _) (by omega)))
   ⟨⟨⟨k0,⟨k3,z3⟩⟩,fun y hy=>by cases hy⟩,b0⟩
   (fun y=>{ tmps:=#[Value.string nm,Value.int IntKind.i64 n,.pointer (some ⟨w.heap.size,0,none⟩),undef,.pointer (some ⟨w.heap.size+1,0,none⟩),.string y,Value.string nm,Value.bool false,undef,undef,undef,undef,undef,undef,Value.int IntKind.i64 n,Value.string (cnS n),.func (.func 282) #[] #[.pointer (some ⟨WA.heap.size,0,none⟩)],.string y,undef,undef,undef],defers:=[] }) ?assign ?body ?done ?stop
  case assign=>
   intro l y W K hK
   gi_wp2
   exact hK
  case body=>
   rintro l pre y W ⟨⟨⟨q0,q3⟩,hpre⟩,hB⟩ hlen;cases hy:(y.toList==nm.toList)
   ·gi_wp2
    exact⟨KeepsOthers.refl _,KpF.refl _ _ _,⟨⟨q0,q3⟩,fun z hz=>by
     rcases eY.1 hz with hz|hz
     ·exact hpre z hz
     ·rw [mP.1 hz];exact hy⟩,hB⟩
   ·obtain rfl:=VV hy
    gi_wp2
    have e3:(W.setCell ⟨w.heap.size+1,0,none⟩ (.bool true)).cell? ⟨w.heap.size+1,0,none⟩=some (.bool true):=
     rO _ _ _ (by rw [q3.1];rfl)
    exact⟨KeepsOthers.setCell _ _ _,⟨⟨rfl,Ao _ (mP.2 rfl)⟩,e3⟩,hB.setCell (p:=⟨w.heap.size+1,0,none⟩) (by show w.heap.size≤w.heap.size+1;omega) _⟩
  case done=>
   rintro D ys W hD rfl ⟨⟨⟨_,⟨q3,j3⟩⟩,hpre⟩,hB⟩ hK;have b4:icB nm.toList n=false:=by
    rw [a3];exact WL hpre
   gi_wp2
   have a5:=(KeepsOthers.setCell W ⟨w.heap.size+1,0,none⟩ (.bool false)).same D _ hK rfl;have b3:Bz w (W.setCell ⟨w.heap.size+1,0,none⟩ (.bool false)):=hB.setCell (p:=⟨w.heap.size+1,0,none⟩) (by show w.heap.size≤w.heap.size+1;omega) _;have e3:(W.setCell ⟨w.heap.size+1,0,none⟩ (.bool false)).cell? ⟨w.heap.size+1,0,none⟩=some (.bool false):=
    rO _ _ _ (by rw [q3];rfl)
   generalize W.setCell ⟨w.heap.size+1,0,none⟩ (.bool false)=W3 at*;refine⟨by simp,.inl ⟨_,_,rfl,FZ a5,?_⟩⟩;have g3:=cell_kept e3 (yO _ D (.deferred none)) (fun r e=>by cases e;exact⟨_,a5,rfl⟩);refine⟨.bool false,?_,⟨by rw [b4],b3.trans (belowK_b (w:=w) (aA _) _ D _ _ (by omega) a5 rfl rfl)⟩⟩;simp [results,Tryz.f127,go_sem,g3]
  case stop=>
   rintro D c pre W hD b5 ⟨⟨⟨rfl,hin⟩,q3⟩,hB⟩ hK;have a9:icB nm.toList n=true:=by
    rw [a3];exact WK (b5.subset hin)
   gi_wp2
   refine⟨by simp,.inl ⟨_,_,rfl,FZ hK,?_⟩⟩;have g3:=cell_kept q3 (yO _ D (.deferred none)) (fun r e=>by cases e;exact⟨_,hK,rfl⟩);refine⟨.bool true,?_,⟨by rw [a9],hB.trans (belowK_b (w:=w) (aA _) _ D _ _ (by omega) hK rfl rfl)⟩⟩;simp [results,Tryz.f127,go_sem,g3]
 ·have a3:icB nm.toList n=decide (1≤n∧n≤8):=by unfold icB callL;rw [hc];rfl
  by_cases m1:(1:Int)≤(n:Int)
  ·by_cases m8:(n:Int)≤8
   ·have a2:icB nm.toList n=true:=by rw [a3];exact mN (by omega)
    clear a3
    gi_wp2
    have e3:(WA.setCell ⟨w.heap.size+1,0,none⟩ (.bool true)).cell? ⟨w.heap.size+1,0,none⟩=some (.bool true):=
     rO _ _ _ (by rw [a1];rfl)
    refine⟨.bool true,?_,⟨by first|rfl|rw [a2],a4.setCell (p:=⟨w.heap.size+1,0,none⟩) (by show w.heap.size≤w.heap.size+1;omega) _⟩⟩;simp [results,Tryz.f127,go_sem,e3]
   ·have a2:icB nm.toList n=false:=by rw [a3];exact kU (by omega)
    clear a3
    gi_wp2
    have e3:(WA.setCell ⟨w.heap.size+1,0,none⟩ (.bool false)).cell? ⟨w.heap.size+1,0,none⟩=some (.bool false):=
     rO _ _ _ (by rw [a1];rfl)
    refine⟨.bool false,?_,⟨by first|rfl|rw [a2],a4.setCell (p:=⟨w.heap.size+1,0,none⟩) (by show w.heap.size≤w.heap.size+1;omega) _⟩⟩;simp [results,Tryz.f127,go_sem,e3]
  ·have a2:icB nm.toList n=false:=by rw [a3];exact kU (by omega)
   clear a3
   gi_wp2
   have e3:(WA.setCell ⟨w.heap.size+1,0,none⟩ (.bool false)).cell? ⟨w.heap.size+1,0,none⟩=some (.bool false):=
    rO _ _ _ (by rw [a1];rfl)
   refine⟨.bool false,?_,⟨by first|rfl|rw [a2],a4.setCell (p:=⟨w.heap.size+1,0,none⟩) (by show w.heap.size≤w.heap.size+1;omega) _⟩⟩;simp [results,Tryz.f127,go_sem,e3]
def Kp (nm:ByteArray) (n:Nat) (w:Wo) (h3:2<w.heap.size) (a7:eQ w):
  Cz 127 #[.string nm,.int .i64 n] w fun e w'=>e= .returned (.bool (icB nm.toList n))∧Bz w w':=sZ.1 (Nw nm n w h3 a7)
end
