/-
  A part of the proof of the card of WorkGeneralizationIsLeast (second form): lemmas that the text Card uses. No condition of its own.
-/
import GoSem.Step
set_option linter.all false
set_option linter.unusedVariables false
set_option linter.unusedSimpArgs false
section
namespace Go.Ev
open Go
inductive D8 where
  | d0 | d1 | d2 | d3 | d4 | d5 | d6 | d7
structure N8 (α:Type) where
  a0:α
  a1:α
  a2:α
  a3:α
  a4:α
  a5:α
  a6:α
  a7:α
structure Id where
  a:D8
  b:D8
  c:D8
  d:D8
  e:D8
inductive V where
  | top
  | b (x:Bool)
  | i (k:IntKind) (n:Int)
  | s (len code:Nat)
  | pn
  | p (b:Id) (o:Nat)
  | sn
  | sl (b:Id) (o len sz:Nat)
  | se
  | mn
  | mp (b:Id)
  | fn (f:Fn) (first captured:List V)
  | nf
  | ifc (t:Nat) (v:V)
  | ni
  | agg (l:List V)
  | tup (l:List V)
structure Ent where
  key:V
  val:V
  born:Nat
inductive Rw where
  | rw (ty:Nat)
  | fz
  | fr (ty:Nat)
inductive O where
  | cells (sz:Nat) (els:List (List V)) (fam:Id) (ro:Rw)
  | map (es:List Ent) (clock:Nat)
  | siter (len code pos:Nat)
  | miter (m:Id) (since:Nat) (seen:List Nat) (last:Nat)
def N8.all {α:Type} (x:α):N8 α:=⟨x,x,x,x,x,x,x,x⟩
abbrev E1:=N8 V
abbrev E2:=N8 E1
abbrev Env:=N8 E2
abbrev M1:=N8 (Option O)
abbrev M2:=N8 M1
abbrev M3:=N8 M2
abbrev M4:=N8 M3
abbrev Mem:=N8 M4
abbrev F1:=N8 (List Id)
abbrev F2:=N8 F1
abbrev F3:=N8 F2
abbrev F4:=N8 F3
abbrev Fam:=N8 F4
structure H where
  mem:Mem
  fams:Fam
  next:Id
inductive VH where
  | bad
  | ok (v:V) (h:H)
inductive Rs where
  | bad
  | ok (e:Env) (h:H)
inductive CR where
  | bad
  | nrm (e:Env) (h:H)
  | ext (id:Nat) (e:Env) (h:H)
  | ret (e:Env) (h:H)
abbrev CallT:=Nat → List V → H → VH
def dg:Nat → D8
  | 0=>.d0 | 1=>.d1 | 2=>.d2 | 3=>.d3 | 4=>.d4 | 5=>.d5 | 6=>.d6 | _=>.d7
noncomputable def selE1 (d:D8):E1 → V:=
  D8.rec (motive:=fun _=>E1 → V) N8.a0 N8.a1 N8.a2 N8.a3 N8.a4 N8.a5 N8.a6 N8.a7 d
noncomputable def modE1 (d:D8):(V → V) → E1 → E1:=
  D8.rec (motive:=fun _=>(V → V) → E1 → E1)
    (fun k n=>N8.rec (motive:=fun _=>E1) (fun a b c d e f g h=>N8.mk (k a) b c d e f g h) n)
    (fun k n=>N8.rec (motive:=fun _=>E1) (fun a b c d e f g h=>N8.mk a (k b) c d e f g h) n)
    (fun k n=>N8.rec (motive:=fun _=>E1) (fun a b c d e f g h=>N8.mk a b (k c) d e f g h) n)
    (fun k n=>N8.rec (motive:=fun _=>E1) (fun a b c d e f g h=>N8.mk a b c (k d) e f g h) n)
    (fun k n=>N8.rec (motive:=fun _=>E1) (fun a b c d e f g h=>N8.mk a b c d (k e) f g h) n)
    (fun k n=>N8.rec (motive:=fun _=>E1) (fun a b c d e f g h=>N8.mk a b c d e (k f) g h) n)
    (fun k n=>N8.rec (motive:=fun _=>E1) (fun a b c d e f g h=>N8.mk a b c d e f (k g) h) n)
    (fun k n=>N8.rec (motive:=fun _=>E1) (fun a b c d e f g h=>N8.mk a b c d e f g (k h)) n) d
noncomputable def selE2 (d:D8):E2 → E1:=
  D8.rec (motive:=fun _=>E2 → E1) N8.a0 N8.a1 N8.a2 N8.a3 N8.a4 N8.a5 N8.a6 N8.a7 d
noncomputable def modE2 (d:D8):(E1 → E1) → E2 → E2:=
  D8.rec (motive:=fun _=>(E1 → E1) → E2 → E2)
    (fun k n=>N8.rec (motive:=fun _=>E2) (fun a b c d e f g h=>N8.mk (k a) b c d e f g h) n)
    (fun k n=>N8.rec (motive:=fun _=>E2) (fun a b c d e f g h=>N8.mk a (k b) c d e f g h) n)
    (fun k n=>N8.rec (motive:=fun _=>E2) (fun a b c d e f g h=>N8.mk a b (k c) d e f g h) n)
    (fun k n=>N8.rec (motive:=fun _=>E2) (fun a b c d e f g h=>N8.mk a b c (k d) e f g h) n)
    (fun k n=>N8.rec (motive:=fun _=>E2) (fun a b c d e f g h=>N8.mk a b c d (k e) f g h) n)
    (fun k n=>N8.rec (motive:=fun _=>E2) (fun a b c d e f g h=>N8.mk a b c d e (k f) g h) n)
    (fun k n=>N8.rec (motive:=fun _=>E2) (fun a b c d e f g h=>N8.mk a b c d e f (k g) h) n)
    (fun k n=>N8.rec (motive:=fun _=>E2) (fun a b c d e f g h=>N8.mk a b c d e f g (k h)) n) d
noncomputable def selE3 (d:D8):Env → E2:=
  D8.rec (motive:=fun _=>Env → E2) N8.a0 N8.a1 N8.a2 N8.a3 N8.a4 N8.a5 N8.a6 N8.a7 d
noncomputable def modE3 (d:D8):(E2 → E2) → Env → Env:=
  D8.rec (motive:=fun _=>(E2 → E2) → Env → Env)
    (fun k n=>N8.rec (motive:=fun _=>Env) (fun a b c d e f g h=>N8.mk (k a) b c d e f g h) n)
    (fun k n=>N8.rec (motive:=fun _=>Env) (fun a b c d e f g h=>N8.mk a (k b) c d e f g h) n)
    (fun k n=>N8.rec (motive:=fun _=>Env) (fun a b c d e f g h=>N8.mk a b (k c) d e f g h) n)
    (fun k n=>N8.rec (motive:=fun _=>Env) (fun a b c d e f g h=>N8.mk a b c (k d) e f g h) n)
    (fun k n=>N8.rec (motive:=fun _=>Env) (fun a b c d e f g h=>N8.mk a b c d (k e) f g h) n)
    (fun k n=>N8.rec (motive:=fun _=>Env) (fun a b c d e f g h=>N8.mk a b c d e (k f) g h) n)
    (fun k n=>N8.rec (motive:=fun _=>Env) (fun a b c d e f g h=>N8.mk a b c d e f (k g) h) n)
    (fun k n=>N8.rec (motive:=fun _=>Env) (fun a b c d e f g h=>N8.mk a b c d e f g (k h)) n) d
noncomputable def selM1 (d:D8):M1 → (Option O):=
  D8.rec (motive:=fun _=>M1 → (Option O)) N8.a0 N8.a1 N8.a2 N8.a3 N8.a4 N8.a5 N8.a6 N8.a7 d
noncomputable def modM1 (d:D8):((Option O) → (Option O)) → M1 → M1:=
  D8.rec (motive:=fun _=>((Option O) → (Option O)) → M1 → M1)
    (fun k n=>N8.rec (motive:=fun _=>M1) (fun a b c d e f g h=>N8.mk (k a) b c d e f g h) n)
    (fun k n=>N8.rec (motive:=fun _=>M1) (fun a b c d e f g h=>N8.mk a (k b) c d e f g h) n)
    (fun k n=>N8.rec (motive:=fun _=>M1) (fun a b c d e f g h=>N8.mk a b (k c) d e f g h) n)
    (fun k n=>N8.rec (motive:=fun _=>M1) (fun a b c d e f g h=>N8.mk a b c (k d) e f g h) n)
    (fun k n=>N8.rec (motive:=fun _=>M1) (fun a b c d e f g h=>N8.mk a b c d (k e) f g h) n)
    (fun k n=>N8.rec (motive:=fun _=>M1) (fun a b c d e f g h=>N8.mk a b c d e (k f) g h) n)
    (fun k n=>N8.rec (motive:=fun _=>M1) (fun a b c d e f g h=>N8.mk a b c d e f (k g) h) n)
    (fun k n=>N8.rec (motive:=fun _=>M1) (fun a b c d e f g h=>N8.mk a b c d e f g (k h)) n) d
noncomputable def selM2 (d:D8):M2 → M1:=
  D8.rec (motive:=fun _=>M2 → M1) N8.a0 N8.a1 N8.a2 N8.a3 N8.a4 N8.a5 N8.a6 N8.a7 d
noncomputable def modM2 (d:D8):(M1 → M1) → M2 → M2:=
  D8.rec (motive:=fun _=>(M1 → M1) → M2 → M2)
    (fun k n=>N8.rec (motive:=fun _=>M2) (fun a b c d e f g h=>N8.mk (k a) b c d e f g h) n)
    (fun k n=>N8.rec (motive:=fun _=>M2) (fun a b c d e f g h=>N8.mk a (k b) c d e f g h) n)
    (fun k n=>N8.rec (motive:=fun _=>M2) (fun a b c d e f g h=>N8.mk a b (k c) d e f g h) n)
    (fun k n=>N8.rec (motive:=fun _=>M2) (fun a b c d e f g h=>N8.mk a b c (k d) e f g h) n)
    (fun k n=>N8.rec (motive:=fun _=>M2) (fun a b c d e f g h=>N8.mk a b c d (k e) f g h) n)
    (fun k n=>N8.rec (motive:=fun _=>M2) (fun a b c d e f g h=>N8.mk a b c d e (k f) g h) n)
    (fun k n=>N8.rec (motive:=fun _=>M2) (fun a b c d e f g h=>N8.mk a b c d e f (k g) h) n)
    (fun k n=>N8.rec (motive:=fun _=>M2) (fun a b c d e f g h=>N8.mk a b c d e f g (k h)) n) d
noncomputable def selM3 (d:D8):M3 → M2:=
  D8.rec (motive:=fun _=>M3 → M2) N8.a0 N8.a1 N8.a2 N8.a3 N8.a4 N8.a5 N8.a6 N8.a7 d
noncomputable def modM3 (d:D8):(M2 → M2) → M3 → M3:=
  D8.rec (motive:=fun _=>(M2 → M2) → M3 → M3)
    (fun k n=>N8.rec (motive:=fun _=>M3) (fun a b c d e f g h=>N8.mk (k a) b c d e f g h) n)
    (fun k n=>N8.rec (motive:=fun _=>M3) (fun a b c d e f g h=>N8.mk a (k b) c d e f g h) n)
    (fun k n=>N8.rec (motive:=fun _=>M3) (fun a b c d e f g h=>N8.mk a b (k c) d e f g h) n)
    (fun k n=>N8.rec (motive:=fun _=>M3) (fun a b c d e f g h=>N8.mk a b c (k d) e f g h) n)
    (fun k n=>N8.rec (motive:=fun _=>M3) (fun a b c d e f g h=>N8.mk a b c d (k e) f g h) n)
    (fun k n=>N8.rec (motive:=fun _=>M3) (fun a b c d e f g h=>N8.mk a b c d e (k f) g h) n)
    (fun k n=>N8.rec (motive:=fun _=>M3) (fun a b c d e f g h=>N8.mk a b c d e f (k g) h) n)
    (fun k n=>N8.rec (motive:=fun _=>M3) (fun a b c d e f g h=>N8.mk a b c d e f g (k h)) n) d
noncomputable def selM4 (d:D8):M4 → M3:=
  D8.rec (motive:=fun _=>M4 → M3) N8.a0 N8.a1 N8.a2 N8.a3 N8.a4 N8.a5 N8.a6 N8.a7 d
noncomputable def modM4 (d:D8):(M3 → M3) → M4 → M4:=
  D8.rec (motive:=fun _=>(M3 → M3) → M4 → M4)
    (fun k n=>N8.rec (motive:=fun _=>M4) (fun a b c d e f g h=>N8.mk (k a) b c d e f g h) n)
    (fun k n=>N8.rec (motive:=fun _=>M4) (fun a b c d e f g h=>N8.mk a (k b) c d e f g h) n)
    (fun k n=>N8.rec (motive:=fun _=>M4) (fun a b c d e f g h=>N8.mk a b (k c) d e f g h) n)
    (fun k n=>N8.rec (motive:=fun _=>M4) (fun a b c d e f g h=>N8.mk a b c (k d) e f g h) n)
    (fun k n=>N8.rec (motive:=fun _=>M4) (fun a b c d e f g h=>N8.mk a b c d (k e) f g h) n)
    (fun k n=>N8.rec (motive:=fun _=>M4) (fun a b c d e f g h=>N8.mk a b c d e (k f) g h) n)
    (fun k n=>N8.rec (motive:=fun _=>M4) (fun a b c d e f g h=>N8.mk a b c d e f (k g) h) n)
    (fun k n=>N8.rec (motive:=fun _=>M4) (fun a b c d e f g h=>N8.mk a b c d e f g (k h)) n) d
noncomputable def selM5 (d:D8):Mem → M4:=
  D8.rec (motive:=fun _=>Mem → M4) N8.a0 N8.a1 N8.a2 N8.a3 N8.a4 N8.a5 N8.a6 N8.a7 d
noncomputable def modM5 (d:D8):(M4 → M4) → Mem → Mem:=
  D8.rec (motive:=fun _=>(M4 → M4) → Mem → Mem)
    (fun k n=>N8.rec (motive:=fun _=>Mem) (fun a b c d e f g h=>N8.mk (k a) b c d e f g h) n)
    (fun k n=>N8.rec (motive:=fun _=>Mem) (fun a b c d e f g h=>N8.mk a (k b) c d e f g h) n)
    (fun k n=>N8.rec (motive:=fun _=>Mem) (fun a b c d e f g h=>N8.mk a b (k c) d e f g h) n)
    (fun k n=>N8.rec (motive:=fun _=>Mem) (fun a b c d e f g h=>N8.mk a b c (k d) e f g h) n)
    (fun k n=>N8.rec (motive:=fun _=>Mem) (fun a b c d e f g h=>N8.mk a b c d (k e) f g h) n)
    (fun k n=>N8.rec (motive:=fun _=>Mem) (fun a b c d e f g h=>N8.mk a b c d e (k f) g h) n)
    (fun k n=>N8.rec (motive:=fun _=>Mem) (fun a b c d e f g h=>N8.mk a b c d e f (k g) h) n)
    (fun k n=>N8.rec (motive:=fun _=>Mem) (fun a b c d e f g h=>N8.mk a b c d e f g (k h)) n) d
noncomputable def selF1 (d:D8):F1 → (List Id):=
  D8.rec (motive:=fun _=>F1 → (List Id)) N8.a0 N8.a1 N8.a2 N8.a3 N8.a4 N8.a5 N8.a6 N8.a7 d
noncomputable def modF1 (d:D8):((List Id) → (List Id)) → F1 → F1:=
  D8.rec (motive:=fun _=>((List Id) → (List Id)) → F1 → F1)
    (fun k n=>N8.rec (motive:=fun _=>F1) (fun a b c d e f g h=>N8.mk (k a) b c d e f g h) n)
    (fun k n=>N8.rec (motive:=fun _=>F1) (fun a b c d e f g h=>N8.mk a (k b) c d e f g h) n)
    (fun k n=>N8.rec (motive:=fun _=>F1) (fun a b c d e f g h=>N8.mk a b (k c) d e f g h) n)
    (fun k n=>N8.rec (motive:=fun _=>F1) (fun a b c d e f g h=>N8.mk a b c (k d) e f g h) n)
    (fun k n=>N8.rec (motive:=fun _=>F1) (fun a b c d e f g h=>N8.mk a b c d (k e) f g h) n)
    (fun k n=>N8.rec (motive:=fun _=>F1) (fun a b c d e f g h=>N8.mk a b c d e (k f) g h) n)
    (fun k n=>N8.rec (motive:=fun _=>F1) (fun a b c d e f g h=>N8.mk a b c d e f (k g) h) n)
    (fun k n=>N8.rec (motive:=fun _=>F1) (fun a b c d e f g h=>N8.mk a b c d e f g (k h)) n) d
noncomputable def selF2 (d:D8):F2 → F1:=
  D8.rec (motive:=fun _=>F2 → F1) N8.a0 N8.a1 N8.a2 N8.a3 N8.a4 N8.a5 N8.a6 N8.a7 d
noncomputable def modF2 (d:D8):(F1 → F1) → F2 → F2:=
  D8.rec (motive:=fun _=>(F1 → F1) → F2 → F2)
    (fun k n=>N8.rec (motive:=fun _=>F2) (fun a b c d e f g h=>N8.mk (k a) b c d e f g h) n)
    (fun k n=>N8.rec (motive:=fun _=>F2) (fun a b c d e f g h=>N8.mk a (k b) c d e f g h) n)
    (fun k n=>N8.rec (motive:=fun _=>F2) (fun a b c d e f g h=>N8.mk a b (k c) d e f g h) n)
    (fun k n=>N8.rec (motive:=fun _=>F2) (fun a b c d e f g h=>N8.mk a b c (k d) e f g h) n)
    (fun k n=>N8.rec (motive:=fun _=>F2) (fun a b c d e f g h=>N8.mk a b c d (k e) f g h) n)
    (fun k n=>N8.rec (motive:=fun _=>F2) (fun a b c d e f g h=>N8.mk a b c d e (k f) g h) n)
    (fun k n=>N8.rec (motive:=fun _=>F2) (fun a b c d e f g h=>N8.mk a b c d e f (k g) h) n)
    (fun k n=>N8.rec (motive:=fun _=>F2) (fun a b c d e f g h=>N8.mk a b c d e f g (k h)) n) d
noncomputable def selF3 (d:D8):F3 → F2:=
  D8.rec (motive:=fun _=>F3 → F2) N8.a0 N8.a1 N8.a2 N8.a3 N8.a4 N8.a5 N8.a6 N8.a7 d
noncomputable def modF3 (d:D8):(F2 → F2) → F3 → F3:=
  D8.rec (motive:=fun _=>(F2 → F2) → F3 → F3)
    (fun k n=>N8.rec (motive:=fun _=>F3) (fun a b c d e f g h=>N8.mk (k a) b c d e f g h) n)
    (fun k n=>N8.rec (motive:=fun _=>F3) (fun a b c d e f g h=>N8.mk a (k b) c d e f g h) n)
    (fun k n=>N8.rec (motive:=fun _=>F3) (fun a b c d e f g h=>N8.mk a b (k c) d e f g h) n)
    (fun k n=>N8.rec (motive:=fun _=>F3) (fun a b c d e f g h=>N8.mk a b c (k d) e f g h) n)
    (fun k n=>N8.rec (motive:=fun _=>F3) (fun a b c d e f g h=>N8.mk a b c d (k e) f g h) n)
    (fun k n=>N8.rec (motive:=fun _=>F3) (fun a b c d e f g h=>N8.mk a b c d e (k f) g h) n)
    (fun k n=>N8.rec (motive:=fun _=>F3) (fun a b c d e f g h=>N8.mk a b c d e f (k g) h) n)
    (fun k n=>N8.rec (motive:=fun _=>F3) (fun a b c d e f g h=>N8.mk a b c d e f g (k h)) n) d
noncomputable def selF4 (d:D8):F4 → F3:=
  D8.rec (motive:=fun _=>F4 → F3) N8.a0 N8.a1 N8.a2 N8.a3 N8.a4 N8.a5 N8.a6 N8.a7 d
noncomputable def modF4 (d:D8):(F3 → F3) → F4 → F4:=
  D8.rec (motive:=fun _=>(F3 → F3) → F4 → F4)
    (fun k n=>N8.rec (motive:=fun _=>F4) (fun a b c d e f g h=>N8.mk (k a) b c d e f g h) n)
    (fun k n=>N8.rec (motive:=fun _=>F4) (fun a b c d e f g h=>N8.mk a (k b) c d e f g h) n)
    (fun k n=>N8.rec (motive:=fun _=>F4) (fun a b c d e f g h=>N8.mk a b (k c) d e f g h) n)
    (fun k n=>N8.rec (motive:=fun _=>F4) (fun a b c d e f g h=>N8.mk a b c (k d) e f g h) n)
    (fun k n=>N8.rec (motive:=fun _=>F4) (fun a b c d e f g h=>N8.mk a b c d (k e) f g h) n)
    (fun k n=>N8.rec (motive:=fun _=>F4) (fun a b c d e f g h=>N8.mk a b c d e (k f) g h) n)
    (fun k n=>N8.rec (motive:=fun _=>F4) (fun a b c d e f g h=>N8.mk a b c d e f (k g) h) n)
    (fun k n=>N8.rec (motive:=fun _=>F4) (fun a b c d e f g h=>N8.mk a b c d e f g (k h)) n) d
noncomputable def selF5 (d:D8):Fam → F4:=
  D8.rec (motive:=fun _=>Fam → F4) N8.a0 N8.a1 N8.a2 N8.a3 N8.a4 N8.a5 N8.a6 N8.a7 d
noncomputable def modF5 (d:D8):(F4 → F4) → Fam → Fam:=
  D8.rec (motive:=fun _=>(F4 → F4) → Fam → Fam)
    (fun k n=>N8.rec (motive:=fun _=>Fam) (fun a b c d e f g h=>N8.mk (k a) b c d e f g h) n)
    (fun k n=>N8.rec (motive:=fun _=>Fam) (fun a b c d e f g h=>N8.mk a (k b) c d e f g h) n)
    (fun k n=>N8.rec (motive:=fun _=>Fam) (fun a b c d e f g h=>N8.mk a b (k c) d e f g h) n)
    (fun k n=>N8.rec (motive:=fun _=>Fam) (fun a b c d e f g h=>N8.mk a b c (k d) e f g h) n)
    (fun k n=>N8.rec (motive:=fun _=>Fam) (fun a b c d e f g h=>N8.mk a b c d (k e) f g h) n)
    (fun k n=>N8.rec (motive:=fun _=>Fam) (fun a b c d e f g h=>N8.mk a b c d e (k f) g h) n)
    (fun k n=>N8.rec (motive:=fun _=>Fam) (fun a b c d e f g h=>N8.mk a b c d e f (k g) h) n)
    (fun k n=>N8.rec (motive:=fun _=>Fam) (fun a b c d e f g h=>N8.mk a b c d e f g (k h)) n) d
def undefV:V:=.tup []
def Env.new:Env:=N8.all (N8.all (N8.all undefV))
noncomputable def eget (t:Nat) (e:Env):V:=selE1 (dg (t % 8)) (selE2 (dg (t / 8 % 8)) (selE3 (dg (t / 64)) e))
noncomputable def eset (t:Nat) (v:V) (e:Env):Env:=modE3 (dg (t / 64)) (modE2 (dg (t / 8 % 8)) (modE1 (dg (t % 8)) (fun _=>v))) e
noncomputable def mget (i:Id) (m:Mem):Option O:=
  Id.rec (motive:=fun _=>Mem → Option O) (fun a b c d e m=>selM1 e (selM2 d (selM3 c (selM4 b (selM5 a m))))) i m
noncomputable def mput (i:Id) (x:Option O) (m:Mem):Mem:=
  Id.rec (motive:=fun _=>Option O → Mem → Mem) (fun a b c d e x m=>modM5 a (modM4 b (modM3 c (modM2 d (modM1 e (fun _=>x))))) m) i x m
noncomputable def fget (i:Id) (m:Fam):List Id:=
  Id.rec (motive:=fun _=>Fam → List Id) (fun a b c d e m=>selF1 e (selF2 d (selF3 c (selF4 b (selF5 a m))))) i m
noncomputable def fput (i:Id) (x:List Id) (m:Fam):Fam:=
  Id.rec (motive:=fun _=>List Id → Fam → Fam) (fun a b c d e x m=>modF5 a (modF4 b (modF3 c (modF2 d (modF1 e (fun _=>x))))) m) i x m
def Mem.new:Mem:=N8.all (N8.all (N8.all (N8.all (N8.all none))))
def Fam.new:Fam:=N8.all (N8.all (N8.all (N8.all (N8.all []))))
def D8.nextd:D8 → Bool × D8
  | .d0=>(false,.d1) | .d1=>(false,.d2) | .d2=>(false,.d3) | .d3=>(false,.d4) | .d4=>(false,.d5) | .d5=>(false,.d6) | .d6=>(false,.d7) | .d7=>(true,.d0)
def Id.succ:Id → Option Id
  | ⟨a,b,c,d,e⟩=>match e.nextd with
    | (false,e')=>some ⟨a,b,c,d,e'⟩
    | (true,e')=>match d.nextd with
      | (false,d')=>some ⟨a,b,c,d',e'⟩
      | (true,d')=>match c.nextd with
        | (false,c')=>some ⟨a,b,c',d',e'⟩
        | (true,c')=>match b.nextd with
          | (false,b')=>some ⟨a,b',c',d',e'⟩
          | (true,b')=>match a.nextd with
            | (false,a')=>some ⟨a',b',c',d',e'⟩
            | (true,_)=>none
def D8.toNat:D8 → Nat
  | .d0=>0 | .d1=>1 | .d2=>2 | .d3=>3 | .d4=>4 | .d5=>5 | .d6=>6 | .d7=>7
def Id.toNat:Id → Nat
  | ⟨a,b,c,d,e⟩=>(((a.toNat * 8 + b.toNat) * 8 + c.toNat) * 8 + d.toNat) * 8 + e.toNat
def D8.beq (x y:D8):Bool:=Nat.beq x.toNat y.toNat
def Id.beq:Id → Id → Bool
  | ⟨a,b,c,d,e⟩,⟨a',b',c',d',e'⟩=>D8.beq e e' && (D8.beq d d' && (D8.beq c c' && (D8.beq b b' && D8.beq a a')))
def idOf (n:Nat):Id:=⟨dg (n / 4096 % 8),dg (n / 512 % 8),dg (n / 64 % 8),dg (n / 8 % 8),dg (n % 8)⟩
noncomputable def as_b_O (v:V):(Bool → (Option V)) → (Option V) → (Option V):=
  V.rec (motive_1:=fun _=>(Bool → (Option V)) → (Option V) → (Option V)) (motive_2:=fun _=>Unit) (fun _ d=>d) (fun x0 k _=>k x0) (fun _ _ _ d=>d) (fun _ _ _ d=>d) (fun _ d=>d) (fun _ _ _ d=>d) (fun _ d=>d) (fun _ _ _ _ _ d=>d) (fun _ d=>d) (fun _ d=>d) (fun _ _ d=>d) (fun _ _ _ _ _ _ d=>d) (fun _ d=>d) (fun _ _ _ _ d=>d) (fun _ d=>d) (fun _ _ _ d=>d) (fun _ _ _ d=>d) () (fun _ _ _ _=>()) v
noncomputable def as_b_C (v:V):(Bool → CR) → CR → CR:=
  V.rec (motive_1:=fun _=>(Bool → CR) → CR → CR) (motive_2:=fun _=>Unit) (fun _ d=>d) (fun x0 k _=>k x0) (fun _ _ _ d=>d) (fun _ _ _ d=>d) (fun _ d=>d) (fun _ _ _ d=>d) (fun _ d=>d) (fun _ _ _ _ _ d=>d) (fun _ d=>d) (fun _ d=>d) (fun _ _ d=>d) (fun _ _ _ _ _ _ d=>d) (fun _ d=>d) (fun _ _ _ _ d=>d) (fun _ d=>d) (fun _ _ _ d=>d) (fun _ _ _ d=>d) () (fun _ _ _ _=>()) v
noncomputable def as_b_R (v:V):(Bool → Rs) → Rs → Rs:=
  V.rec (motive_1:=fun _=>(Bool → Rs) → Rs → Rs) (motive_2:=fun _=>Unit) (fun _ d=>d) (fun x0 k _=>k x0) (fun _ _ _ d=>d) (fun _ _ _ d=>d) (fun _ d=>d) (fun _ _ _ d=>d) (fun _ d=>d) (fun _ _ _ _ _ d=>d) (fun _ d=>d) (fun _ d=>d) (fun _ _ d=>d) (fun _ _ _ _ _ _ d=>d) (fun _ d=>d) (fun _ _ _ _ d=>d) (fun _ d=>d) (fun _ _ _ d=>d) (fun _ _ _ d=>d) () (fun _ _ _ _=>()) v
noncomputable def as_i_O (v:V):(IntKind → Int → (Option V)) → (Option V) → (Option V):=
  V.rec (motive_1:=fun _=>(IntKind → Int → (Option V)) → (Option V) → (Option V)) (motive_2:=fun _=>Unit) (fun _ d=>d) (fun _ _ d=>d) (fun x0 x1 k _=>k x0 x1) (fun _ _ _ d=>d) (fun _ d=>d) (fun _ _ _ d=>d) (fun _ d=>d) (fun _ _ _ _ _ d=>d) (fun _ d=>d) (fun _ d=>d) (fun _ _ d=>d) (fun _ _ _ _ _ _ d=>d) (fun _ d=>d) (fun _ _ _ _ d=>d) (fun _ d=>d) (fun _ _ _ d=>d) (fun _ _ _ d=>d) () (fun _ _ _ _=>()) v
noncomputable def as_i_H (v:V):(IntKind → Int → VH) → VH → VH:=
  V.rec (motive_1:=fun _=>(IntKind → Int → VH) → VH → VH) (motive_2:=fun _=>Unit) (fun _ d=>d) (fun _ _ d=>d) (fun x0 x1 k _=>k x0 x1) (fun _ _ _ d=>d) (fun _ d=>d) (fun _ _ _ d=>d) (fun _ d=>d) (fun _ _ _ _ _ d=>d) (fun _ d=>d) (fun _ d=>d) (fun _ _ d=>d) (fun _ _ _ _ _ _ d=>d) (fun _ d=>d) (fun _ _ _ _ d=>d) (fun _ d=>d) (fun _ _ _ d=>d) (fun _ _ _ d=>d) () (fun _ _ _ _=>()) v
noncomputable def as_s_O (v:V):(Nat → Nat → (Option V)) → (Option V) → (Option V):=
  V.rec (motive_1:=fun _=>(Nat → Nat → (Option V)) → (Option V) → (Option V)) (motive_2:=fun _=>Unit) (fun _ d=>d) (fun _ _ d=>d) (fun _ _ _ d=>d) (fun x0 x1 k _=>k x0 x1) (fun _ d=>d) (fun _ _ _ d=>d) (fun _ d=>d) (fun _ _ _ _ _ d=>d) (fun _ d=>d) (fun _ d=>d) (fun _ _ d=>d) (fun _ _ _ _ _ _ d=>d) (fun _ d=>d) (fun _ _ _ _ d=>d) (fun _ d=>d) (fun _ _ _ d=>d) (fun _ _ _ d=>d) () (fun _ _ _ _=>()) v
noncomputable def as_s_H (v:V):(Nat → Nat → VH) → VH → VH:=
  V.rec (motive_1:=fun _=>(Nat → Nat → VH) → VH → VH) (motive_2:=fun _=>Unit) (fun _ d=>d) (fun _ _ d=>d) (fun _ _ _ d=>d) (fun x0 x1 k _=>k x0 x1) (fun _ d=>d) (fun _ _ _ d=>d) (fun _ d=>d) (fun _ _ _ _ _ d=>d) (fun _ d=>d) (fun _ d=>d) (fun _ _ d=>d) (fun _ _ _ _ _ _ d=>d) (fun _ d=>d) (fun _ _ _ _ d=>d) (fun _ d=>d) (fun _ _ _ d=>d) (fun _ _ _ d=>d) () (fun _ _ _ _=>()) v
noncomputable def as_p_O (v:V):(Id → Nat → (Option V)) → (Option V) → (Option V):=
  V.rec (motive_1:=fun _=>(Id → Nat → (Option V)) → (Option V) → (Option V)) (motive_2:=fun _=>Unit) (fun _ d=>d) (fun _ _ d=>d) (fun _ _ _ d=>d) (fun _ _ _ d=>d) (fun _ d=>d) (fun x0 x1 k _=>k x0 x1) (fun _ d=>d) (fun _ _ _ _ _ d=>d) (fun _ d=>d) (fun _ d=>d) (fun _ _ d=>d) (fun _ _ _ _ _ _ d=>d) (fun _ d=>d) (fun _ _ _ _ d=>d) (fun _ d=>d) (fun _ _ _ d=>d) (fun _ _ _ d=>d) () (fun _ _ _ _=>()) v
noncomputable def as_p_H (v:V):(Id → Nat → VH) → VH → VH:=
  V.rec (motive_1:=fun _=>(Id → Nat → VH) → VH → VH) (motive_2:=fun _=>Unit) (fun _ d=>d) (fun _ _ d=>d) (fun _ _ _ d=>d) (fun _ _ _ d=>d) (fun _ d=>d) (fun x0 x1 k _=>k x0 x1) (fun _ d=>d) (fun _ _ _ _ _ d=>d) (fun _ d=>d) (fun _ d=>d) (fun _ _ d=>d) (fun _ _ _ _ _ _ d=>d) (fun _ d=>d) (fun _ _ _ _ d=>d) (fun _ d=>d) (fun _ _ _ d=>d) (fun _ _ _ d=>d) () (fun _ _ _ _=>()) v
noncomputable def as_sl_O (v:V):(Id → Nat → Nat → Nat → (Option V)) → (Option V) → (Option V):=
  V.rec (motive_1:=fun _=>(Id → Nat → Nat → Nat → (Option V)) → (Option V) → (Option V)) (motive_2:=fun _=>Unit) (fun _ d=>d) (fun _ _ d=>d) (fun _ _ _ d=>d) (fun _ _ _ d=>d) (fun _ d=>d) (fun _ _ _ d=>d) (fun _ d=>d) (fun x0 x1 x2 x3 k _=>k x0 x1 x2 x3) (fun _ d=>d) (fun _ d=>d) (fun _ _ d=>d) (fun _ _ _ _ _ _ d=>d) (fun _ d=>d) (fun _ _ _ _ d=>d) (fun _ d=>d) (fun _ _ _ d=>d) (fun _ _ _ d=>d) () (fun _ _ _ _=>()) v
noncomputable def as_agg_O (v:V):((List V) → (Option V)) → (Option V) → (Option V):=
  V.rec (motive_1:=fun _=>((List V) → (Option V)) → (Option V) → (Option V)) (motive_2:=fun _=>Unit) (fun _ d=>d) (fun _ _ d=>d) (fun _ _ _ d=>d) (fun _ _ _ d=>d) (fun _ d=>d) (fun _ _ _ d=>d) (fun _ d=>d) (fun _ _ _ _ _ d=>d) (fun _ d=>d) (fun _ d=>d) (fun _ _ d=>d) (fun _ _ _ _ _ _ d=>d) (fun _ d=>d) (fun _ _ _ _ d=>d) (fun _ d=>d) (fun x0 _ k _=>k x0) (fun _ _ _ d=>d) () (fun _ _ _ _=>()) v
noncomputable def as_tup_O (v:V):((List V) → (Option V)) → (Option V) → (Option V):=
  V.rec (motive_1:=fun _=>((List V) → (Option V)) → (Option V) → (Option V)) (motive_2:=fun _=>Unit) (fun _ d=>d) (fun _ _ d=>d) (fun _ _ _ d=>d) (fun _ _ _ d=>d) (fun _ d=>d) (fun _ _ _ d=>d) (fun _ d=>d) (fun _ _ _ _ _ d=>d) (fun _ d=>d) (fun _ d=>d) (fun _ _ d=>d) (fun _ _ _ _ _ _ d=>d) (fun _ d=>d) (fun _ _ _ _ d=>d) (fun _ d=>d) (fun _ _ _ d=>d) (fun x0 _ k _=>k x0) () (fun _ _ _ _=>()) v
noncomputable def as_mp_O (v:V):(Id → (Option V)) → (Option V) → (Option V):=
  V.rec (motive_1:=fun _=>(Id → (Option V)) → (Option V) → (Option V)) (motive_2:=fun _=>Unit) (fun _ d=>d) (fun _ _ d=>d) (fun _ _ _ d=>d) (fun _ _ _ d=>d) (fun _ d=>d) (fun _ _ _ d=>d) (fun _ d=>d) (fun _ _ _ _ _ d=>d) (fun _ d=>d) (fun _ d=>d) (fun x0 k _=>k x0) (fun _ _ _ _ _ _ d=>d) (fun _ d=>d) (fun _ _ _ _ d=>d) (fun _ d=>d) (fun _ _ _ d=>d) (fun _ _ _ d=>d) () (fun _ _ _ _=>()) v
noncomputable def as_mp_H (v:V):(Id → VH) → VH → VH:=
  V.rec (motive_1:=fun _=>(Id → VH) → VH → VH) (motive_2:=fun _=>Unit) (fun _ d=>d) (fun _ _ d=>d) (fun _ _ _ d=>d) (fun _ _ _ d=>d) (fun _ d=>d) (fun _ _ _ d=>d) (fun _ d=>d) (fun _ _ _ _ _ d=>d) (fun _ d=>d) (fun _ d=>d) (fun x0 k _=>k x0) (fun _ _ _ _ _ _ d=>d) (fun _ d=>d) (fun _ _ _ _ d=>d) (fun _ d=>d) (fun _ _ _ d=>d) (fun _ _ _ d=>d) () (fun _ _ _ _=>()) v
noncomputable def as_fn_H (v:V):(Fn → (List V) → (List V) → VH) → VH → VH:=
  V.rec (motive_1:=fun _=>(Fn → (List V) → (List V) → VH) → VH → VH) (motive_2:=fun _=>Unit) (fun _ d=>d) (fun _ _ d=>d) (fun _ _ _ d=>d) (fun _ _ _ d=>d) (fun _ d=>d) (fun _ _ _ d=>d) (fun _ d=>d) (fun _ _ _ _ _ d=>d) (fun _ d=>d) (fun _ d=>d) (fun _ _ d=>d) (fun x0 x1 x2 _ _ k _=>k x0 x1 x2) (fun _ d=>d) (fun _ _ _ _ d=>d) (fun _ d=>d) (fun _ _ _ d=>d) (fun _ _ _ d=>d) () (fun _ _ _ _=>()) v
noncomputable def as_sn_O (v:V):(Option V) → (Option V) → (Option V):=
  V.rec (motive_1:=fun _=>(Option V) → (Option V) → (Option V)) (motive_2:=fun _=>Unit) (fun _ d=>d) (fun _ _ d=>d) (fun _ _ _ d=>d) (fun _ _ _ d=>d) (fun _ d=>d) (fun _ _ _ d=>d) (fun k _=>k) (fun _ _ _ _ _ d=>d) (fun _ d=>d) (fun _ d=>d) (fun _ _ d=>d) (fun _ _ _ _ _ _ d=>d) (fun _ d=>d) (fun _ _ _ _ d=>d) (fun _ d=>d) (fun _ _ _ d=>d) (fun _ _ _ d=>d) () (fun _ _ _ _=>()) v
noncomputable def as_se_O (v:V):(Option V) → (Option V) → (Option V):=
  V.rec (motive_1:=fun _=>(Option V) → (Option V) → (Option V)) (motive_2:=fun _=>Unit) (fun _ d=>d) (fun _ _ d=>d) (fun _ _ _ d=>d) (fun _ _ _ d=>d) (fun _ d=>d) (fun _ _ _ d=>d) (fun _ d=>d) (fun _ _ _ _ _ d=>d) (fun k _=>k) (fun _ d=>d) (fun _ _ d=>d) (fun _ _ _ _ _ _ d=>d) (fun _ d=>d) (fun _ _ _ _ d=>d) (fun _ d=>d) (fun _ _ _ d=>d) (fun _ _ _ d=>d) () (fun _ _ _ _=>()) v
noncomputable def as_mn_O (v:V):(Option V) → (Option V) → (Option V):=
  V.rec (motive_1:=fun _=>(Option V) → (Option V) → (Option V)) (motive_2:=fun _=>Unit) (fun _ d=>d) (fun _ _ d=>d) (fun _ _ _ d=>d) (fun _ _ _ d=>d) (fun _ d=>d) (fun _ _ _ d=>d) (fun _ d=>d) (fun _ _ _ _ _ d=>d) (fun _ d=>d) (fun k _=>k) (fun _ _ d=>d) (fun _ _ _ _ _ _ d=>d) (fun _ d=>d) (fun _ _ _ _ d=>d) (fun _ d=>d) (fun _ _ _ d=>d) (fun _ _ _ d=>d) () (fun _ _ _ _=>()) v
noncomputable def iteO (b:Bool):(Option V) → (Option V) → (Option V):=Bool.rec (motive:=fun _=>(Option V) → (Option V) → (Option V)) (fun _ y=>y) (fun x _=>x) b
noncomputable def iteH (b:Bool):VH → VH → VH:=Bool.rec (motive:=fun _=>VH → VH → VH) (fun _ y=>y) (fun x _=>x) b
noncomputable def iteC (b:Bool):CR → CR → CR:=Bool.rec (motive:=fun _=>CR → CR → CR) (fun _ y=>y) (fun x _=>x) b
noncomputable def iteR (b:Bool):Rs → Rs → Rs:=Bool.rec (motive:=fun _=>Rs → Rs → Rs) (fun _ y=>y) (fun x _=>x) b
def Rw.isW:Rw → Bool
  | .rw _=>true
  | _=>false
def Rw.tyOf:Rw → Option Nat
  | .rw t=>some t
  | .fr t=>some t
  | .fz=>none
noncomputable def nthV (l:List V):Nat → Option V:=
  List.rec (motive:=fun _=>Nat → Option V) (fun _=>none) (fun a _ ih i=>Nat.rec (motive:=fun _=>Option V) (some a) (fun j _=>ih j) i) l
noncomputable def nthL (l:List (List V)):Nat → Option (List V):=
  List.rec (motive:=fun _=>Nat → Option (List V)) (fun _=>none) (fun a _ ih i=>Nat.rec (motive:=fun _=>Option (List V)) (some a) (fun j _=>ih j) i) l
noncomputable def setL (l:List (List V)):Nat → List V → List (List V):=
  List.rec (motive:=fun _=>Nat → List V → List (List V)) (fun _ _=>[]) (fun a r ih i x=>Nat.rec (motive:=fun _=>List (List V)) (x :: r) (fun j _=>a :: ih j x) i) l
noncomputable def takeV (n:Nat):List V → Option (List V):=
  Nat.rec (motive:=fun _=>List V → Option (List V)) (fun _=>some [])
    (fun _ ih l=>List.rec (motive:=fun _=>Option (List V)) none (fun a r _=>Option.rec (motive:=fun _=>Option (List V)) none (fun x=>some (a :: x)) (ih r)) l) n
noncomputable def dropV (n:Nat):List V → List V:=
  Nat.rec (motive:=fun _=>List V → List V) (fun l=>l) (fun _ ih l=>List.rec (motive:=fun _=>List V) [] (fun _ r _=>ih r) l) n
noncomputable def takeL (n:Nat):List (List V) → Option (List (List V)):=
  Nat.rec (motive:=fun _=>List (List V) → Option (List (List V))) (fun _=>some [])
    (fun _ ih l=>List.rec (motive:=fun _=>Option (List (List V))) none (fun a r _=>Option.rec (motive:=fun _=>Option (List (List V))) none (fun x=>some (a :: x)) (ih r)) l) n
noncomputable def dropL (n:Nat):List (List V) → List (List V):=
  Nat.rec (motive:=fun _=>List (List V) → List (List V)) (fun l=>l) (fun _ ih l=>List.rec (motive:=fun _=>List (List V)) [] (fun _ r _=>ih r) l) n
def over {α:Type}:List α → List α → Option (List α)
  | l,[]=>some l
  | [],_ :: _=>none
  | _ :: l,x :: xs=>match over l xs with | some r=>some (x :: r) | none=>none
def overAt {α:Type}:Nat → List α → List α → Option (List α)
  | 0,l,xs=>over l xs
  | _ + 1,[],_=>none
  | n + 1,a :: l,xs=>match overAt n l xs with | some r=>some (a :: r) | none=>none
noncomputable def appV (a:List V) (b:List V):List V:=List.rec (motive:=fun _=>List V) b (fun x _ ih=>x :: ih) a
noncomputable def appL (a:List (List V)) (b:List (List V)):List (List V):=List.rec (motive:=fun _=>List (List V)) b (fun x _ ih=>x :: ih) a
noncomputable def lenL (a:List (List V)):Nat:=List.rec (motive:=fun _=>Nat) 0 (fun _ _ ih=>Nat.succ ih) a
def repN {α:Type} (x:α):Nat → List α
  | 0=>[]
  | n + 1=>x :: repN x n
def bytesOf:Nat → Nat → List Nat
  | 0,_=>[]
  | n + 1,c=>c % 256 :: bytesOf n (c / 256)
def codeOf:List Nat → Nat
  | []=>0
  | b :: l=>b + 256 * codeOf l
def strOf (l:List Nat):V:=.s l.length (codeOf l)
def ltB:List Nat → List Nat → Bool
  | _,[]=>false
  | [],_ :: _=>true
  | a :: x,b :: y=>bif Nat.blt a b then true else bif Nat.beq a b then ltB x y else false
def sEq (l c l' c':Nat):Bool:=Nat.beq l l' && Nat.beq c c'
def scalarB:Value → Bool
  | .agg _=>false
  | .tuple _=>false
  | _=>true
mutual
def cst:Value → V
  | .bool x=>.b x
  | .int k n=>.i k n
  | .string s=>strOf (s.data.toList.map UInt8.toNat)
  | .pointer none=>.pn
  | .slice none 0 0=>.sn
  | .map none=>.mn
  | .nilFunc=>.nf
  | .nilIface=>.ni
  | .agg ⟨l⟩=>bif l.all scalarB then .agg (csts l) else .top
  | .tuple ⟨l⟩=>.tup (csts l)
  | _=>.top
def csts:List Value → List V
  | []=>[]
  | v :: l=>cst v :: csts l
end
structure Rd where
  run:Env → V
structure Rds where
  run:Env → List V
noncomputable def opnd:Operand → Rd
  | .tmp t=>⟨eget t⟩
  | .const v=>⟨fun _=>cst v⟩
  | .global g=>⟨fun _=>.p (idOf g) 0⟩
  | .func f=>⟨fun _=>.fn (.func f) [] []⟩
noncomputable def opnds:List Operand → Rds
  | []=>⟨fun _=>[]⟩
  | x :: l=>⟨fun e=>(opnd x).run e :: (opnds l).run e⟩
noncomputable def rdO (ob:O):Nat → Nat → Option (List V):=
  O.rec (motive:=fun _=>Nat → Nat → Option (List V))
    (fun sz els _ _ o k=>Option.rec (motive:=fun _=>Option (List V)) none
      (fun el=>Bool.rec (motive:=fun _=>Option (List V)) (takeV k (dropV (Nat.mod o sz) el)) (some el) (Nat.beq (Nat.mod o sz) 0 && Nat.beq k sz))
      (nthL els (Nat.div o sz)))
    (fun _ _ _ _=>none) (fun _ _ _ _ _=>none) (fun _ _ _ _ _ _=>none) ob
noncomputable def rd1O (ob:O):Nat → Option V:=
  O.rec (motive:=fun _=>Nat → Option V)
    (fun sz els _ _ o=>Option.rec (motive:=fun _=>Option V) none (fun el=>nthV el (Nat.mod o sz)) (nthL els (Nat.div o sz)))
    (fun _ _ _=>none) (fun _ _ _ _=>none) (fun _ _ _ _ _=>none) ob
noncomputable def rd (h:H) (b:Id) (o k:Nat):Option (List V):=
  Option.rec (motive:=fun _=>Option (List V)) none (fun ob=>rdO ob o k) (mget b h.mem)
noncomputable def rd1 (h:H) (b:Id) (o:Nat):Option V:=
  Option.rec (motive:=fun _=>Option V) none (fun ob=>rd1O ob o) (mget b h.mem)
def others (b:Id):List Id → List Id
  | []=>[]
  | x :: l=>bif Id.beq x b then others b l else x :: others b l
noncomputable def killM:List Id → Mem → Mem
  | [],m=>m
  | b :: l,m=>killM l (mput b none m)
noncomputable def loneH (h:H) (f b:Id):H:=
  List.rec (motive:=fun _=>H) h (fun x l _=>H.rec (motive:=fun _=>H) (fun mem fams next=>H.mk (killM (others b (x :: l)) mem) (fput f [] fams) next) h) (fget f h.fams)
noncomputable def setO (h:H) (b:Id) (ob:O):H:=
  H.rec (motive:=fun _=>H) (fun mem fams next=>H.mk (mput b (some ob) mem) fams next) h
noncomputable def wrO (h:H) (b:Id) (o:Nat) (xs:List V) (k:Nat) (ob:O):VH:=
  O.rec (motive:=fun _=>VH)
    (fun sz els f ro=>Rw.rec (motive:=fun _=>VH)
      (fun ty=>Option.rec (motive:=fun _=>VH) .bad
        (fun el=>Option.rec (motive:=fun _=>VH) .bad
          (fun el'=>.ok undefV (setO (loneH h f b) b (.cells sz (setL els (Nat.div o sz) el') f (.rw ty))))
          (Bool.rec (motive:=fun _=>Option (List V)) (overAt (Nat.mod o sz) el xs) (some xs) (Nat.beq (Nat.mod o sz) 0 && Nat.beq k sz)))
        (nthL els (Nat.div o sz))) .bad (fun _=>.bad) ro)
    (fun _ _=>.bad) (fun _ _ _=>.bad) (fun _ _ _ _=>.bad) ob
noncomputable def wr (h:H) (b:Id) (o:Nat) (xs:List V) (k:Nat):VH:=
  Option.rec (motive:=fun _=>VH) .bad (fun ob=>wrO h b o xs k ob) (mget b h.mem)
noncomputable def newO (h:H) (ob:Id → O) (v:Id → V):VH:=
  H.rec (motive:=fun _=>VH) (fun mem fams next=>Option.rec (motive:=fun _=>VH) .bad (fun nx=>.ok (v next) (H.mk (mput next (some (ob next)) mem) fams nx)) (Id.succ next)) h
noncomputable def newC (ty:Nat) (h:H) (sz:Nat) (els:List (List V)) (v:Id → V):VH:=newO h (fun i=>.cells sz els i (.rw ty)) v
variable (P:Program)
def sizeT (t:TypeId):Option Nat:=match P.underlying t,P.info? t with | some _,some i=>some i.size | _,_=>none
def isAggT (t:TypeId):Bool:=match P.underlying t with | some (.struct _) | some (.array _ _)=>true | _=>false
def zeroT (t:TypeId):Option V:=match (P.info? t).bind (·.zero) with | some z=>some (cst z) | none=>none
noncomputable def cellsQ (v:V):Option (List V):=
  V.rec (motive_1:=fun _=>Option (List V)) (motive_2:=fun _=>Unit) none (fun x=>some [.b x]) (fun k n=>some [.i k n]) (fun l c=>some [.s l c]) (some [.pn]) (fun b o=>some [.p b o]) (some [.sn]) (fun b o l z=>some [.sl b o l z]) (some [.se]) (some [.mn]) (fun b=>some [.mp b]) (fun f a b _ _=>some [.fn f a b]) (some [.nf]) (fun t v _=>some [.ifc t v]) (some [.ni]) (fun l _=>some l) (fun _ _=>none) () (fun _ _ _ _=>()) v
noncomputable def lenV1 (a:List V):Nat:=List.rec (motive:=fun _=>Nat) 0 (fun _ _ ih=>Nat.succ ih) a
def thr:IntKind → Nat
  | .i8=>127 | .i16=>32767 | .i32=>2147483647 | .i64=>9223372036854775807 | .u8=>255 | .u16=>65535 | .u32=>4294967295 | .u64=>18446744073709551615
noncomputable def wrapF (k:IntKind) (n:Int):Int:=
  Int.rec (motive:=fun _=>Int) (fun m=>Bool.rec (motive:=fun _=>Int) (k.wrap (.ofNat m)) (.ofNat m) (Nat.ble m (thr k))) (fun m=>k.wrap (.negSucc m)) n
noncomputable def kEq (j k:IntKind):Bool:=
  IntKind.rec (motive:=fun _=>IntKind → Bool)
    (fun k=>IntKind.rec (motive:=fun _=>Bool) true false false false false false false false k)
    (fun k=>IntKind.rec (motive:=fun _=>Bool) false true false false false false false false k)
    (fun k=>IntKind.rec (motive:=fun _=>Bool) false false true false false false false false k)
    (fun k=>IntKind.rec (motive:=fun _=>Bool) false false false true false false false false k)
    (fun k=>IntKind.rec (motive:=fun _=>Bool) false false false false true false false false k)
    (fun k=>IntKind.rec (motive:=fun _=>Bool) false false false false false true false false k)
    (fun k=>IntKind.rec (motive:=fun _=>Bool) false false false false false false true false k)
    (fun k=>IntKind.rec (motive:=fun _=>Bool) false false false false false false false true k) j k
noncomputable def iLt (a b:Int):Bool:=
  Int.rec (motive:=fun _=>Int → Bool)
    (fun x b=>Int.rec (motive:=fun _=>Bool) (fun y=>Nat.ble (Nat.succ x) y) (fun _=>false) b)
    (fun x b=>Int.rec (motive:=fun _=>Bool) (fun _=>true) (fun y=>Nat.ble (Nat.succ y) x) b) a b
noncomputable def iEq (a b:Int):Bool:=
  Int.rec (motive:=fun _=>Int → Bool)
    (fun x b=>Int.rec (motive:=fun _=>Bool) (fun y=>Nat.beq x y) (fun _=>false) b)
    (fun x b=>Int.rec (motive:=fun _=>Bool) (fun _=>false) (fun y=>Nat.beq x y) b) a b
noncomputable def iAdd (a b:Int):Int:=
  Int.rec (motive:=fun _=>Int → Int)
    (fun x b=>Int.rec (motive:=fun _=>Int) (fun y=>.ofNat (Nat.add x y)) (fun y=>Int.add (.ofNat x) (.negSucc y)) b)
    (fun x b=>Int.add (.negSucc x) b) a b
noncomputable def iSub (a b:Int):Int:=
  Int.rec (motive:=fun _=>Int → Int)
    (fun x b=>Int.rec (motive:=fun _=>Int) (fun y=>Bool.rec (motive:=fun _=>Int) (Int.sub (.ofNat x) (.ofNat y)) (.ofNat (Nat.sub x y)) (Nat.ble y x)) (fun y=>Int.sub (.ofNat x) (.negSucc y)) b)
    (fun x b=>Int.sub (.negSucc x) b) a b
structure IOp where
  run:IntKind → Int → Int → Option V
noncomputable def intOp:BinOp → IOp
  | .add=>⟨fun k x y=>some (.i k (wrapF k (iAdd x y)))⟩
  | .sub=>⟨fun k x y=>some (.i k (wrapF k (iSub x y)))⟩
  | .mul=>⟨fun k x y=>some (.i k (wrapF k (Int.mul x y)))⟩
  | .quo=>⟨fun k x y=>iteO (iEq y 0) none (some (.i k (wrapF k (Int.tdiv x y))))⟩
  | .rem=>⟨fun k x y=>iteO (iEq y 0) none (some (.i k (Int.tmod x y)))⟩
  | .and=>⟨fun k x y=>some (.i k (k.wrap (BitVec.ofInt k.bits x &&& BitVec.ofInt k.bits y).toNat))⟩
  | .or=>⟨fun k x y=>some (.i k (k.wrap (BitVec.ofInt k.bits x ||| BitVec.ofInt k.bits y).toNat))⟩
  | .xor=>⟨fun k x y=>some (.i k (k.wrap (BitVec.ofInt k.bits x ^^^ BitVec.ofInt k.bits y).toNat))⟩
  | .andNot=>⟨fun k x y=>some (.i k (k.wrap (BitVec.ofInt k.bits x &&& ~~~ BitVec.ofInt k.bits y).toNat))⟩
  | .eql=>⟨fun _ x y=>some (.b (iEq x y))⟩
  | .neq=>⟨fun _ x y=>some (.b (!iEq x y))⟩
  | .lss=>⟨fun _ x y=>some (.b (iLt x y))⟩
  | .leq=>⟨fun _ x y=>some (.b (!iLt y x))⟩
  | .gtr=>⟨fun _ x y=>some (.b (iLt y x))⟩
  | .geq=>⟨fun _ x y=>some (.b (!iLt x y))⟩
  | _=>⟨fun _ _ _=>none⟩
noncomputable def shiftOp (op:BinOp) (k:IntKind) (x y:Int):Option V:=
  bif iLt y 0 then none else
  match op with
  | .shl=>some (.i k (k.wrap (x * 2 ^ (min y.toNat k.bits))))
  | .shr=>some (.i k (x.fdiv (2 ^ (min y.toNat k.bits))))
  | _=>none
structure StrOp where
  run:Nat → Nat → Nat → Nat → Option V
def strOp:BinOp → StrOp
  | .add=>⟨fun l c l' c'=>bif Nat.ble (l + l') 1000000000 then some (.s (l + l') (c + c' <<< (8 * l))) else none⟩
  | .eql=>⟨fun l c l' c'=>some (.b (sEq l c l' c'))⟩
  | .neq=>⟨fun l c l' c'=>some (.b (!sEq l c l' c'))⟩
  | .lss=>⟨fun l c l' c'=>some (.b (ltB (bytesOf l c) (bytesOf l' c')))⟩
  | .leq=>⟨fun l c l' c'=>some (.b (ltB (bytesOf l c) (bytesOf l' c') || sEq l c l' c'))⟩
  | .gtr=>⟨fun l c l' c'=>some (.b (!(ltB (bytesOf l c) (bytesOf l' c') || sEq l c l' c')))⟩
  | .geq=>⟨fun l c l' c'=>some (.b (!ltB (bytesOf l c) (bytesOf l' c')))⟩
  | _=>⟨fun _ _ _ _=>none⟩
structure EqT where
  run:H → V → V → Option Bool
noncomputable def famOf (h:H) (b:Id):Option Id:=match mget b h.mem with | some (.cells sz _ f (.rw _))=>bif Nat.beq sz 1 then none else some f | _=>none
noncomputable def partE (agg:Bool) (n:Nat) (l:List V):Option V:=bif agg then (match takeV n l with | some x=>some (.agg x) | none=>none) else nthV l 0
def badE:EqT:=⟨fun _ _ _=>none⟩
noncomputable def eqFs (q:TypeId → EqT):List Field → EqT
  | []=>⟨fun _ x y=>match x,y with | .agg _,.agg _=>some true | _,_=>none⟩
  | f :: fs => if f.name = "_" then badE else
    match sizeT P f.type with
    | none=>badE
    | some n=>⟨fun h x y=>match x,y with
      | .agg xs,.agg ys=>(match partE (isAggT P f.type) n (dropV f.offset xs),partE (isAggT P f.type) n (dropV f.offset ys) with
        | some a,some b=>(match (q f.type).run h a b with
          | some true=>(eqFs q fs).run h x y
          | some false=>some false
          | none=>none)
        | _,_=>none)
      | _,_=>none⟩
noncomputable def eqAs (q:EqT) (agg:Bool) (n:Nat):Nat → List V → List V → H → Option Bool
  | 0,_,_,_=>some true
  | k + 1,xs,ys,h=>match partE agg n xs,partE agg n ys with
    | some a,some b=>(match q.run h a b with
      | some true=>eqAs q agg n k (dropV n xs) (dropV n ys) h
      | some false=>some false
      | none=>none)
    | _,_=>none
noncomputable def eqT:Nat → TypeId → EqT
  | 0,_=>badE
  | d + 1,t=>match P.underlying t with
    | some .bool=>⟨fun _ x y=>match x,y with | .b a,.b b=>some (a == b) | _,_=>none⟩
    | some (.int _)=>⟨fun _ x y=>match x,y with | .i k a,.i k' b=>bif kEq k k' then some (iEq a b) else none | _,_=>none⟩
    | some .string=>⟨fun _ x y=>match x,y with | .s l c,.s l' c'=>some (sEq l c l' c') | _,_=>none⟩
    | some (.pointer e)=>(match sizeT P e with
      | some (_ + 1)=>⟨fun h x y=>match x,y with
        | .pn,.pn=>some true
        | .pn,.p _ _=>some false
        | .p _ _,.pn=>some false
        | .p b o,.p b' o'=>bif Id.beq b b' then some (Nat.beq o o') else
            (match famOf h b,famOf h b' with
            | some f,some f'=>bif Id.beq f f' then none else some false
            | _,_=>none)
        | _,_=>none⟩
      | _=>⟨fun _ x y=>match x,y with | .pn,.pn=>some true | .pn,.p _ _=>some false | .p _ _,.pn=>some false | _,_=>none⟩)
    | some (.interface _)=>⟨fun h x y=>match x,y with
        | .ni,.ifc _ _=>some false
        | .ifc _ _,.ni=>some false
        | .ifc tx vx,.ifc ty vy=>bif Nat.beq tx ty then
            (match P.info? tx with | some i=>bif i.comparable then (eqT d tx).run h vx vy else none | none=>none) else some false
        | _,_=>none⟩
    | some (.struct fs)=>bif P.stoodInHeld t then badE else eqFs P (eqT d) fs.toList
    | some (.array len el)=>(match sizeT P el with
      | some n=>⟨fun h x y=>match x,y with
        | .agg xs,.agg ys=>eqAs (eqT d el) (isAggT P el) n len xs ys h
        | _,_=>none⟩
      | none=>badE)
    | some (.slice _)=>⟨fun _ x y=>match x,y with | .sn,.sn=>some true | .sn,.sl ..=>some false | .sl ..,.sn=>some false | .se,.sn=>some false | .sn,.se=>some false | _,_=>none⟩
    | some (.map _ _)=>⟨fun _ x y=>match x,y with | .mn,.mn=>some true | .mn,.mp _=>some false | .mp _,.mn=>some false | _,_=>none⟩
    | some (.func _ _ _)=>⟨fun _ x y=>match x,y with | .nf,.nf=>some true | .nf,.fn ..=>some false | .fn ..,.nf=>some false | _,_=>none⟩
    | _=>badE
structure CkT where
  run:V → Bool
def badK:CkT:=⟨fun _=>false⟩
noncomputable def ckFs (q:TypeId → CkT):List Field → CkT
  | []=>⟨fun v=>match v with | .agg _=>true | _=>false⟩
  | f :: fs => if f.name = "_" then badK else
    match sizeT P f.type with
    | none=>badK
    | some n=>⟨fun v=>match v with
      | .agg l=>(match partE (isAggT P f.type) n (dropV f.offset l) with
        | some a=>(q f.type).run a && (ckFs q fs).run v
        | none=>false)
      | _=>false⟩
noncomputable def ckAs (q:CkT) (agg:Bool) (n:Nat):Nat → List V → Bool
  | 0,_=>true
  | k + 1,l=>match partE agg n l with
    | some a=>q.run a && ckAs q agg n k (dropV n l)
    | none=>false
noncomputable def ckT:Nat → TypeId → CkT
  | 0,_=>badK
  | d + 1,t=>match P.underlying t with
    | some (.interface _)=>badK
    | some (.struct fs)=>ckFs P (ckT d) fs.toList
    | some (.array len el)=>(match sizeT P el with
      | some n=>⟨fun v=>match v with | .agg l=>ckAs (ckT d el) (isAggT P el) n len l | _=>false⟩
      | none=>badK)
    | some _=>⟨fun _=>true⟩
    | none=>badK
structure LOp where
  run:Env → H → Option V
structure HOp where
  run:CallT → Env → H → VH
def isConstOp:Operand → Bool | .const _=>true | _=>false
def notO:Option Bool → Option V | some r=>some (.b (!r)) | none=>none
def yesO:Option Bool → Option V | some r=>some (.b r) | none=>none
def okEq:V → Bool
  | .top=>false
  | .i _ _=>false
  | .s _ _=>false
  | .ni=>false
  | .ifc _ _=>false
  | _=>true
noncomputable def eqVal (t:TypeId) (h:H) (x y:V):Option Bool:=bif okEq x then (eqT P 20 t).run h x y else none
noncomputable def eqIfc (t:TypeId) (c:Bool) (h:H) (x y:V):Option Bool:=
  match x,y with
  | .ni,.ni=>bif c then some true else none
  | .ni,.ifc _ _=>some false
  | .ifc _ _,.ni=>some false
  | .ifc tx vx,.ifc ty vy=>(eqT P 20 t).run h (.ifc tx vx) (.ifc ty vy)
  | _,_=>none
def badL:LOp:=⟨fun _ _=>none⟩
noncomputable def binC (op:BinOp) (t:TypeId) (x y:Operand):LOp:=
  match P.underlying t with
  | some (.int _)=>(match op with
    | .shl | .shr=>⟨fun e _=>as_i_O ((opnd x).run e) (fun k a=>as_i_O ((opnd y).run e) (fun _ b=>shiftOp op k a b) none) none⟩
    | _=>⟨fun e _=>as_i_O ((opnd x).run e) (fun k a=>as_i_O ((opnd y).run e) (fun k' b=>iteO (kEq k k') ((intOp op).run k a b) none) none) none⟩)
  | some .string=>⟨fun e _=>as_s_O ((opnd x).run e) (fun l c=>as_s_O ((opnd y).run e) (fun l' c'=>(strOp op).run l c l' c') none) none⟩
  | some (.interface _)=>(match op with
    | .eql=>⟨fun e h=>yesO (eqIfc P t (isConstOp x || isConstOp y) h ((opnd x).run e) ((opnd y).run e))⟩
    | .neq=>⟨fun e h=>notO (eqIfc P t (isConstOp x || isConstOp y) h ((opnd x).run e) ((opnd y).run e))⟩
    | _=>badL)
  | _=>bif P.eqGuardType P.depth t then badL else (match op with
    | .eql=>⟨fun e h=>yesO (eqVal P t h ((opnd x).run e) ((opnd y).run e))⟩
    | .neq=>⟨fun e h=>notO (eqVal P t h ((opnd x).run e) ((opnd y).run e))⟩
    | _=>badL)
noncomputable def unC (op:UnOp) (x:Operand):LOp:=
  match op with
  | .not=>⟨fun e _=>as_b_O ((opnd x).run e) (fun b=>some (.b (!b))) none⟩
  | .neg=>⟨fun e _=>as_i_O ((opnd x).run e) (fun k n=>some (.i k (wrapF k (iSub 0 n)))) none⟩
  | .xor=>⟨fun e _=>as_i_O ((opnd x).run e) (fun k n=>some (.i k (k.wrap (BitVec.ofInt k.bits (if k.signed then -1 else k.max) ^^^ BitVec.ofInt k.bits n).toNat))) none⟩
  | _=>badL
def nthF:List Field → Nat → Option Field
  | [],_=>none
  | a :: _,0=>some a
  | _ :: l,n + 1=>nthF l n
noncomputable def asN (v:V) (k:Nat → Option V):Option V:=as_i_O v (fun _ n=>Int.rec (motive:=fun _=>Option V) k (fun _=>none) n) none
noncomputable def bnd (x:Option Operand) (d:Nat) (e:Env) (k:Nat → Option V):Option V:=
  match x with
  | none=>k d
  | some x=>asN ((opnd x).run e) k
noncomputable def sliceStr (lo hi:Option Operand) (e:Env) (len c:Nat):Option V:=
  bnd hi len e fun h=>bnd lo 0 e fun l=>iteO (Nat.ble l h && Nat.ble h len) (some (.s (h - l) ((c >>> (8 * l)) % 2 ^ (8 * (h - l))))) none
noncomputable def sliceSl (sz:Nat) (lo hi:Option Operand) (e:Env) (b:Id) (o len z:Nat):Option V:=
  bnd hi len e fun h=>bnd lo 0 e fun l=>iteO (Nat.ble l h && Nat.ble h len)
    (iteO (Nat.beq l h && !Nat.beq l 0) (some .se) (some (.sl b (Nat.add o (Nat.mul l sz)) (Nat.sub h l) z))) none
noncomputable def sliceNil (r:V) (lo hi:Option Operand) (e:Env):Option V:=
  bnd hi 0 e fun h=>bnd lo 0 e fun l=>iteO (Nat.beq h 0 && Nat.beq l 0) (some r) none
noncomputable def sliceC (t:TypeId) (x:Operand) (lo hi:Option Operand):LOp:=
  match P.underlying t with
  | some .string=>⟨fun e _=>as_s_O ((opnd x).run e) (sliceStr lo hi e) none⟩
  | some (.slice el)=>(match sizeT P el with
    | some (sz + 1)=>⟨fun e _=>as_sl_O ((opnd x).run e) (fun b o len z=>iteO (Nat.beq z (sz + 1)) (sliceSl (sz + 1) lo hi e b o len z) none) (as_sn_O ((opnd x).run e) (sliceNil .sn lo hi e) (as_se_O ((opnd x).run e) (sliceNil .se lo hi e) none))⟩
    | _=>badL)
  | some (.array n el)=>badL
  | _=>badL
noncomputable def idxAddr (x ix:Operand) (sz:Nat):LOp:=
  ⟨fun e _=>as_sl_O ((opnd x).run e) (fun b o len _=>asN ((opnd ix).run e) (fun n=>iteO (Nat.ble (Nat.succ n) len) (some (.p b (Nat.add o (Nat.mul n sz)))) none)) none⟩
noncomputable def idxAddrA (x ix:Operand) (len sz:Nat):LOp:=
  ⟨fun e _=>as_p_O ((opnd x).run e) (fun b o=>asN ((opnd ix).run e) (fun n=>iteO (Nat.ble (Nat.succ n) len) (some (.p b (Nat.add o (Nat.mul n sz)))) none)) none⟩
noncomputable def aggO (x:Option (List V)):Option V:=Option.rec (motive:=fun _=>Option V) none (fun l=>some (.agg l)) x
noncomputable def partV (agg:Bool) (off n:Nat) (l:List V):Option V:=iteO agg (aggO (takeV n (dropV off l))) (nthV l off)
noncomputable def buildCells (place:Nat → Option (Nat × Nat)):List V → List (Nat × V) → Option (List V)
  | cs,[]=>some cs
  | cs,(i,v) :: r=>match place i with
    | none=>none
    | some (off,sz)=>match cellsQ v with
      | none=>none
      | some c=>bif Nat.beq (lenV1 c) sz then (match overAt off cs c with | some cs'=>buildCells place cs' r | none=>none) else none
structure Prs where
  run:Env → List (Nat × V)
noncomputable def pairs:List (Nat × Operand) → Prs
  | []=>⟨fun _=>[]⟩
  | (i,x) :: l=>⟨fun e=>(i,(opnd x).run e) :: (pairs l).run e⟩
def placesT:List Field → Option (List (Nat × Nat))
  | []=>some []
  | f :: fs=>match sizeT P f.type,placesT fs with | some n,some l=>some ((f.offset,n) :: l) | _,_=>none
def nthP:List (Nat × Nat) → Nat → Option (Nat × Nat)
  | [],_=>none
  | a :: _,0=>some a
  | _ :: l,n + 1=>nthP l n
noncomputable def buildC (t:TypeId) (ps:List (Nat × Operand)):LOp:=
  match zeroT P t,P.underlying t with
  | some z,some (.struct fs)=>(match cellsQ z with
    | some zc=>(match placesT P fs.toList with
      | some pl=>⟨fun e _=>aggO (buildCells (nthP pl) zc ((pairs ps).run e))⟩
      | none=>badL)
    | none=>badL)
  | some z,some (.array _ el)=>(match cellsQ z with
    | some zc=>(match sizeT P el with
      | some n=>⟨fun e _=>aggO (buildCells (fun i=>some (i * n,n)) zc ((pairs ps).run e))⟩
      | none=>badL)
    | none=>badL)
  | _,_=>badL
mutual
def V.beq:V → V → Bool
  | .top,.top=>true
  | .b x,.b y=>x == y
  | .i k n,.i k' n'=>(match k,k' with | .i8,.i8 | .i16,.i16 | .i32,.i32 | .i64,.i64 | .u8,.u8 | .u16,.u16 | .u32,.u32 | .u64,.u64=>true | _,_=>false) && (match n,n' with | .ofNat x,.ofNat y=>Nat.beq x y | .negSucc x,.negSucc y=>Nat.beq x y | _,_=>false)
  | .s l c,.s l' c'=>sEq l c l' c'
  | .pn,.pn=>true
  | .p b o,.p b' o'=>Id.beq b b' && Nat.beq o o'
  | .sn,.sn=>true
  | .sl b o l z,.sl b' o' l' z'=>Id.beq b b' && (Nat.beq o o' && (Nat.beq l l' && Nat.beq z z'))
  | .se,.se=>true
  | .mn,.mn=>true
  | .mp b,.mp b'=>Id.beq b b'
  | .fn (.func f) a b,.fn (.func f') a' b'=>Nat.beq f f' && (beqs a a' && beqs b b')
  | .nf,.nf=>true
  | .ifc t v,.ifc t' v'=>Nat.beq t t' && V.beq v v'
  | .ni,.ni=>true
  | .agg l,.agg l'=>beqs l l'
  | .tup l,.tup l'=>beqs l l'
  | _,_=>false
def beqs:List V → List V → Bool
  | [],[]=>true
  | a :: l,b :: r=>V.beq a b && beqs l r
  | _,_=>false
end
def keyS:V → Bool
  | .b _=>true
  | .i _ _=>true
  | .s _ _=>true
  | .pn=>true
  | .p _ _=>true
  | .ni=>true
  | _=>false
def keyV:V → Bool
  | .agg l=>l.all keyS
  | v=>keyS v
noncomputable def findGo (q:EqT) (h:H) (k:V):List Ent → Nat → Option (Option (Nat × Ent))
  | [],_=>some none
  | e :: es,i=>match q.run h k e.key with
    | some true=>some (some (i,e))
    | some false=>findGo q h k es (i + 1)
    | none=>none
noncomputable def findEnt (kt:TypeId) (h:H) (k:V) (es:List Ent):Option (Option (Nat × Ent)):=
  bif (ckT P 20 kt).run k then findGo (eqT P 20 kt) h k es 0 else none
noncomputable def entsOf (h:H) (b:Id):Option (List Ent × Nat):=match mget b h.mem with | some (.map es c)=>some (es,c) | _=>none
noncomputable def lookF (kt:TypeId) (z:V) (ok:Bool) (h:H) (k:V) (es:List Ent):Option V:=
  match findEnt P kt h k es with
  | some (some (_,e))=>some (if ok then .tup [e.val,.b true] else e.val)
  | some none=>some (if ok then .tup [z,.b false] else z)
  | none=>none
noncomputable def lookC (t:TypeId) (x k:Operand) (ok:Bool):LOp:=
  match P.underlying t with
  | some (.map kt et)=>(match zeroT P et with
    | some z=>⟨fun e h=>as_mp_O ((opnd x).run e) (fun b=>match entsOf h b with | some (es,_)=>lookF P kt z ok h ((opnd k).run e) es | none=>none)
        (as_mn_O ((opnd x).run e) (lookF P kt z ok h ((opnd k).run e) []) none)⟩
    | none=>badL)
  | _=>badL
noncomputable def lenC (t:TypeId) (x:Operand):LOp:=
  match P.underlying t with
  | some .string=>⟨fun e _=>as_s_O ((opnd x).run e) (fun l _=>some (.i .i64 (.ofNat l))) none⟩
  | some (.array n _)=>⟨fun _ _=>some (.i .i64 (.ofNat n))⟩
  | some (.pointer a)=>(match P.underlying a with | some (.array n _)=>⟨fun _ _=>some (.i .i64 (.ofNat n))⟩ | _=>badL)
  | some (.slice _)=>⟨fun e _=>as_sl_O ((opnd x).run e) (fun _ _ n _=>some (.i .i64 (.ofNat n))) (as_sn_O ((opnd x).run e) (some (.i .i64 0)) (as_se_O ((opnd x).run e) (some (.i .i64 0)) none))⟩
  | some (.map _ _)=>⟨fun e h=>as_mp_O ((opnd x).run e) (fun b=>match entsOf h b with | some (es,_)=>some (.i .i64 (.ofNat es.length)) | none=>none) (as_mn_O ((opnd x).run e) (some (.i .i64 0)) none)⟩
  | _=>badL
noncomputable def fold2 (f:V → V → Option V):V → List V → Option V
  | a,[]=>some a
  | a,x :: l=>match f a x with | some b=>fold2 f b l | none=>none
noncomputable def max2 (x y:V):Option V:=as_i_O x (fun k a=>as_i_O y (fun k' b=>iteO (kEq k k') (some (.i k (bif iLt a b then b else a))) none) none) none
noncomputable def min2 (x y:V):Option V:=as_i_O x (fun k a=>as_i_O y (fun k' b=>iteO (kEq k k') (some (.i k (bif iLt b a then b else a))) none) none) none
def entAt (n:Nat):List Ent → Option Ent
  | []=>none
  | e :: l=>bif Nat.beq e.born n then some e else entAt n l
def lastN:List Nat → Option Nat
  | []=>none
  | [a]=>some a
  | _ :: l=>lastN l
noncomputable def entryF (h:H) (b:Id):Option V:=
  match mget b h.mem with
  | some (.miter m _ seen last)=>(match lastN seen,entsOf h m with
    | some st,some (es,clock)=>bif Nat.beq clock last then (match entAt st es with | some en=>some (.tup [en.key,en.val]) | none=>none) else none
    | _,_=>none)
  | _=>none
noncomputable def capC (t:TypeId) (x:Operand):LOp:=
  match P.underlying t with
  | some (.slice _)=>⟨fun e _=>as_sl_O ((opnd x).run e) (fun _ _ _ _=>some .top) (as_sn_O ((opnd x).run e) (some (.i .i64 0)) none)⟩
  | _=>badL
noncomputable def callL (c:Call):LOp:=
  match c.callee,c.args.toList,c.argTypes.toList with
  | .builtin .len,[x],t :: _=>lenC P t x
  | .builtin .cap,[x],t :: _=>capC P t x
  | .builtin .unsafeSliceData,[x],_=>⟨fun e _=>as_sl_O ((opnd x).run e) (fun b o len _=>iteO (Nat.ble 1 len) (some (.p b o)) none) (as_sn_O ((opnd x).run e) (some .pn) none)⟩
  | .builtin .max,x :: l,_=>⟨fun e _=>fold2 max2 ((opnd x).run e) ((opnds l).run e)⟩
  | .builtin .min,x :: l,_=>⟨fun e _=>fold2 min2 ((opnd x).run e) ((opnds l).run e)⟩
  | _,_,_=>badL
def fieldB (P:Program) (ty u szb r:Nat):Bool:=
  match sizeT P ty,P.underlying ty with
  | some (n + 1),some (.struct fs)=>Nat.beq (n + 1) szb && (!P.stoodInHeld ty && fs.toList.any fun f=>Nat.beq f.offset r && Nat.beq f.type u)
  | _,_=>false
noncomputable def lightC:Op → LOp
  | .move x=>⟨fun e _=>some ((opnd x).run e)⟩
  | .assign x=>⟨fun e _=>some ((opnd x).run e)⟩
  | .pick c a b=>⟨fun e _=>as_b_O ((opnd c).run e) (fun t=>iteO t (some ((opnd a).run e)) (some ((opnd b).run e))) none⟩
  | .nilCheck x=>⟨fun e _=>as_p_O ((opnd x).run e) (fun b o=>some (.p b o)) (match (opnd x).run e with | .fn (.func f) a b=>some (.fn (.func f) a b) | .ifc t v=>some (.ifc t v) | .mp b=>some (.mp b) | .mn=>some .mn | _=>none)⟩
  | .binOp op t x y _=>binC P op t x y
  | .unOp op _ x=>unC op x
  | .fieldAddr t x i=>(match P.underlying t with
    | some (.struct fs)=>(match nthF fs.toList i with
      | some f=>(match sizeT P f.type with
        | some (_ + 1)=>⟨fun e _=>as_p_O ((opnd x).run e) (fun b o=>some (.p b (Nat.add o f.offset))) none⟩
        | _=>badL)
      | none=>badL)
    | _=>badL)
  | .field t x i=>(match P.underlying t with
    | some (.struct fs)=>(match nthF fs.toList i with
      | some f=>(match sizeT P f.type with
        | some n=>⟨fun e _=>as_agg_O ((opnd x).run e) (partV (isAggT P f.type) f.offset n) none⟩
        | none=>badL)
      | none=>badL)
    | _=>badL)
  | .indexAddr t x ix=>(match P.underlying t with
    | some (.slice el)=>(match sizeT P el with | some (sz + 1)=>idxAddr x ix (sz + 1) | _=>badL)
    | some (.array len el)=>(match sizeT P el with | some (sz + 1)=>idxAddrA x ix len (sz + 1) | _=>badL)
    | _=>badL)
  | .index t x ix=>(match P.underlying t with
    | some .string=>⟨fun e _=>as_s_O ((opnd x).run e) (fun len c=>asN ((opnd ix).run e) (fun n=>iteO (Nat.ble (Nat.succ n) len) (some (.i .u8 (.ofNat ((c >>> (8 * n)) % 256)))) none)) none⟩
    | some (.array len el)=>(match sizeT P el with
      | some sz=>⟨fun e _=>as_agg_O ((opnd x).run e) (fun l=>asN ((opnd ix).run e) (fun n=>iteO (Nat.ble (Nat.succ n) len) (partV (isAggT P el) (n * sz) sz l) none)) none⟩
      | none=>badL)
    | _=>badL)
  | .extract x i=>⟨fun e _=>as_tup_O ((opnd x).run e) (fun l=>nthV l i) none⟩
  | .slice t x lo hi none=>sliceC P t x lo hi
  | .build t ps=>buildC P t ps.toList
  | .load t x=>(match isAggT P t,sizeT P t with
    | true,some n=>⟨fun e h=>as_p_O ((opnd x).run e) (fun b o=>aggO (rd h b o n)) none⟩
    | false,some _=>⟨fun e h=>as_p_O ((opnd x).run e) (fun b o=>rd1 h b o) none⟩
    | _,_=>badL)
  | .lookup t x k ok=>lookC P t x k ok
  | .convert s d x=>(match P.underlying s,P.underlying d with
    | some _,some (.int k)=>⟨fun e _=>as_i_O ((opnd x).run e) (fun _ n=>some (.i k (wrapF k n))) none⟩
    | some (.int _),some .string=>⟨fun e _=>asN ((opnd x).run e) (fun n=>iteO (Nat.ble (Nat.succ n) 128) (some (.s 1 n)) none)⟩
    | some .string,some .string=>⟨fun e _=>as_s_O ((opnd x).run e) (fun l c=>some (.s l c)) none⟩
    | some (.pointer t),some .unsafePointer=>(match sizeT P t with
      | some (_ + 1)=>⟨fun e h=>as_p_O ((opnd x).run e) (fun b o=>Option.rec (motive:=fun _=>Option V) none (fun _=>some (.p b o)) (rd1 h b o)) none⟩
      | _=>badL)
    | some .unsafePointer,some (.pointer u)=>(match sizeT P u with
      | some (sz + 1)=>⟨fun e h=>as_p_O ((opnd x).run e) (fun b o=>match mget b h.mem with
          | some (.cells szb els _ (.rw ty))=>iteO ((Nat.beq szb (sz + 1) && (Nat.beq ty u && (Nat.beq (Nat.mod o szb) 0 && Nat.ble (Nat.succ (Nat.div o szb)) (lenL els)))) || (fieldB P ty u szb (Nat.mod o szb) && Nat.ble (Nat.succ (Nat.div o szb)) (lenL els))) (some (.p b o)) none
          | _=>none) none⟩
      | _=>badL)
    | _,_=>badL)
  | .entry x=>⟨fun e h=>as_p_O ((opnd x).run e) (fun b o=>iteO (Nat.beq o 0) (entryF h b) none) none⟩
  | .makeInterface t x=>(match P.underlying t with
    | some (.interface _)=>badL
    | some _=>⟨fun e _=>some (.ifc t ((opnd x).run e))⟩
    | none=>badL)
  | .makeFunc fn a b=>⟨fun e _=>some (.fn fn ((opnds a.toList).run e) ((opnds b.toList).run e))⟩
  | .typeAssert x _ t ok=>(match P.underlying t,zeroT P t with
    | some (.interface _),_=>badL
    | some _,some z=>⟨fun e _=>match ((opnd x).run e:V) with
      | .ni=>if ok then some (.tup [z,.b false]) else none
      | .ifc t' v=>bif Nat.beq t' t then some (if ok then .tup [v,.b true] else v) else if ok then some (.tup [z,.b false]) else none
      | _=>none⟩
    | _,_=>badL)
  | .call c=>callL P c
  | _=>badL
def byteInts:List Nat → List (List V)
  | []=>[]
  | b :: l=>[.i .u8 b] :: byteInts l
noncomputable def chunks (sz:Nat):Nat → List V → List (List V)
  | 0,_=>[]
  | n + 1,l=>(takeV sz l).getD [] :: chunks sz n (dropV sz l)
noncomputable def elemsOf (h:H) (sz:Nat) (x:V):Option (List (List V)):=
  match x with
  | .sn=>some []
  | .se=>some []
  | .sl b o len _=>(match mget b h.mem with
    | some (.cells sz' els _ _)=>bif Nat.beq sz sz' && Nat.beq (Nat.mod o sz) 0 then takeL len (dropL (Nat.div o sz) els) else none
    | _=>none)
  | .s l c=>bif Nat.beq sz 1 then some (byteInts (bytesOf l c)) else none
  | _=>none
def upTo (b:Id):List Id → List Id × List Id
  | []=>([],[])
  | x :: l=>bif Id.beq x b then ([],l) else match upTo b l with | (p,q)=>(x :: p,q)
noncomputable def grown (ty:Nat) (sz:Nat) (b f:Id) (len:Nat) (old new:List (List V)) (h:H):VH:=
  H.rec (motive:=fun _=>VH) (fun mem fams next=>Option.rec (motive:=fun _=>VH) .bad
    (fun nx=>match upTo b (fget f fams) with
        | (dead,rest)=>.ok (.sl next 0 (Nat.add len (lenL new)) sz) (H.mk (mput next (some (.cells sz (appL old new) f (.rw ty))) (killM dead mem)) (fput f (next :: b :: rest) fams) nx))
      (Id.succ next)) h
noncomputable def appendV (ty:Nat) (h:H) (sz:Nat) (x:V) (new:List (List V)):VH:=
  match new with
  | []=>(match x with | .sn=>.ok x h | .se=>.ok x h | .sl ..=>.ok x h | _=>.bad)
  | _ :: _=>bif Nat.ble (lenL new) 1000000 then match x with
    | .sn=>newC ty h sz new (fun i=>.sl i 0 (lenL new) sz)
    | .sl b o len z=>(match mget b h.mem with
      | some (.cells szb els f (.rw tyb))=>bif Nat.beq szb sz && (Nat.beq z sz && (Nat.beq (Nat.mod o sz) 0 && (Nat.ble len 1000000 && Nat.beq tyb ty))) then
          (match takeL len (dropL (Nat.div o sz) els) with
           | none=>.bad
           | some old=>bif Nat.beq (Nat.add (Nat.div o sz) len) (lenL els) then grown ty sz b f len old new h
               else (match takeL (Nat.add (Nat.div o sz) len) els with
                 | some cut=>grown ty sz b f len old new (setO (loneH h f b) b (.cells szb cut f (.rw ty)))
                 | none=>.bad))
          else .bad
      | _=>.bad)
    | _=>.bad
    else .bad
def bytesTo:List (List V) → Option (List Nat)
  | []=>some []
  | [.i .u8 (.ofNat n)] :: r=>bif Nat.ble n 255 then match bytesTo r with | some l=>some (n :: l) | none=>none else none
  | _=>none
noncomputable def toStr (h:H) (x:V):VH:=
  match x with
  | .s _ _=>.bad
  | x=>match elemsOf h 1 x with
    | some l=>(match bytesTo l with | some bs=>.ok (strOf bs) h | none=>.bad)
    | none=>.bad
def setE:List Ent → Nat → Ent → List Ent
  | [],_,_=>[]
  | _ :: l,0,x=>x :: l
  | a :: l,n + 1,x=>a :: setE l n x
def delE:List Ent → Nat → List Ent
  | [],_=>[]
  | _ :: l,0=>l
  | a :: l,n + 1=>a :: delE l n
noncomputable def mapSet (kt:TypeId) (h:H) (b:Id) (k v:V):VH:=
  match entsOf h b with
  | some (es,clock)=>(match findEnt P kt h k es with
    | some (some (i,e))=>bif keyV k && V.beq k e.key then .ok undefV (setO h b (.map (setE es i ⟨k,v,e.born⟩) clock)) else .bad
    | some none=>.ok undefV (setO h b (.map (es ++ [⟨k,v,clock⟩]) (clock + 1)))
    | none=>.bad)
  | none=>.bad
noncomputable def mapEnt (kt:TypeId) (z:V) (h:H) (b:Id) (k:V):VH:=
  match entsOf h b with
  | some (es,clock)=>(match findEnt P kt h k es with
    | some (some (i,e))=>bif keyV k && V.beq k e.key then .ok (.tup [e.val,.i .i64 (.ofNat e.born)]) (setO h b (.map (setE es i ⟨k,e.val,e.born⟩) clock)) else .bad
    | some none=>.ok (.tup [z,.i .i64 (.ofNat clock)]) (setO h b (.map (es ++ [⟨k,z,clock⟩]) (clock + 1)))
    | none=>.bad)
  | none=>.bad
def bornAt (n:Nat):List Ent → Nat → Option (Nat × Ent)
  | [],_=>none
  | e :: l,i=>bif Nat.beq e.born n then some (i,e) else bornAt n l (i + 1)
noncomputable def entStore (h:H) (b:Id) (n:Nat) (v:V):VH:=
  match entsOf h b with
  | some (es,clock)=>(match bornAt n es 0 with
    | some (i,e)=>.ok undefV (setO h b (.map (setE es i ⟨e.key,v,e.born⟩) clock))
    | none=>.bad)
  | none=>.bad
noncomputable def mapDel (kt:TypeId) (h:H) (b:Id) (k:V):VH:=
  match entsOf h b with
  | some (es,clock)=>(match findEnt P kt h k es with
    | some (some (i,_))=>.ok undefV (setO h b (.map (delE es i) clock))
    | some none=>.ok undefV (setO h b (.map es clock))
    | none=>.bad)
  | none=>.bad
def unseen (seen:List Nat) (es:List Ent):List Ent:=es.filter fun e=>!seen.any (Nat.beq e.born)
noncomputable def nextS (h:H) (b:Id):VH:=
  match mget b h.mem with
  | some (.siter l c pos)=>bif Nat.ble (Nat.succ pos) l then
      (bif Nat.ble (Nat.succ ((c >>> (8 * pos)) % 256)) 128 then
        .ok (.tup [.b true,.i .i64 (.ofNat pos),.i .i32 (.ofNat ((c >>> (8 * pos)) % 256))]) (setO h b (.siter l c (pos + 1))) else .bad)
      else .ok (.tup [.b false]) h
  | _=>.bad
noncomputable def nextM (h:H) (b:Id):VH:=
  match mget b h.mem with
  | some (.miter m since seen last)=>(match entsOf h m with
    | some (es,clock)=>bif !seen.isEmpty && !es.isEmpty && es.all (fun e=>Nat.ble last e.born) then .bad else
        (match unseen seen es with
         | []=>.ok (.tup [.b false]) h
         | [e]=>bif Nat.ble (Nat.succ e.born) since then .ok (.tup [.b true,e.key,e.val]) (setO h b (.miter m since (seen ++ [e.born]) clock)) else .bad
         | _=>.bad)
    | none=>.bad)
  | _=>.bad
def badH:HOp:=⟨fun _ _ _=>.bad⟩
noncomputable def copyF (h:H) (sz:Nat) (dst:V) (src:Option (List (List V))):VH:=
  match src,dst with
  | some src,.sl b o len z=>(match mget b h.mem with
    | some (.cells szb els f (.rw ty))=>bif Nat.beq szb sz && (Nat.beq z sz && Nat.beq (Nat.mod o sz) 0) then
        (match takeL (min len (lenL src)) src with
         | some xs=>(match overAt (Nat.div o sz) els xs with
           | some els'=>.ok (.i .i64 (.ofNat (min len (lenL src)))) (setO (loneH h f b) b (.cells szb els' f (.rw ty)))
           | none=>.bad)
         | none=>.bad) else .bad
    | _=>.bad)
  | some _,.sn=>.ok (.i .i64 0) h
  | some _,.se=>.ok (.i .i64 0) h
  | _,_=>.bad
noncomputable def clearF (h:H) (sz:Nat) (z:List V) (x:V):VH:=
  match x with
  | .sl b o len zz=>(match mget b h.mem with
    | some (.cells szb els f (.rw ty))=>bif Nat.beq szb sz && (Nat.beq zz sz && Nat.beq (Nat.mod o sz) 0) then
        (match overAt (Nat.div o sz) els (repN z len) with
         | some els'=>.ok undefV (setO (loneH h f b) b (.cells szb els' f (.rw ty)))
         | none=>.bad) else .bad
    | _=>.bad)
  | .sn=>.ok undefV h
  | .se=>.ok undefV h
  | _=>.bad
noncomputable def vhO (h:H) (x:Option V):VH:=match x with | some v=>.ok v h | none=>.bad
noncomputable def appC (t t2:TypeId) (x y:Operand):HOp:=
  match P.underlying t,P.underlying t2 with
  | some (.slice _),some (.int _)=>badH
  | some (.slice el),some _=>(match sizeT P el,zeroT P el with
      | some (sz + 1),some z=>(match cellsQ z,P.info? el with
        | some zc,some inf=>bif Nat.ble inf.bytes 1000000 && Nat.beq (lenV1 zc) (sz + 1) then
            ⟨fun _ e h=>match elemsOf h (sz + 1) ((opnd y).run e) with
              | some new=>appendV el h (sz + 1) ((opnd x).run e) new
              | none=>.bad⟩ else badH
        | _,_=>badH)
      | _,_=>badH)
  | _,_=>badH
noncomputable def copyC (t:TypeId) (x y:Operand):HOp:=
  match P.underlying t with
  | some (.slice el)=>(match sizeT P el with
      | some (sz + 1)=>⟨fun _ e h=>copyF h (sz + 1) ((opnd x).run e) (elemsOf h (sz + 1) ((opnd y).run e))⟩
      | _=>badH)
  | _=>badH
noncomputable def clearC (t:TypeId) (x:Operand):HOp:=
  match P.underlying t with
  | some (.slice el)=>(match sizeT P el,zeroT P el with
      | some (sz + 1),some z=>(match cellsQ z with
        | some zc=>bif Nat.beq (lenV1 zc) (sz + 1) then ⟨fun _ e h=>clearF h (sz + 1) zc ((opnd x).run e)⟩ else badH
        | none=>badH)
      | _,_=>badH)
  | _=>badH
noncomputable def delC (t:TypeId) (x k:Operand):HOp:=
  match P.underlying t with
  | some (.map kt _)=>⟨fun _ e h=>as_mp_H ((opnd x).run e) (fun b=>mapDel P kt h b ((opnd k).run e)) .bad⟩
  | _=>badH
noncomputable def ustrF (el:Nat) (h:H) (x:V) (n:Nat):VH:=
  match n with
  | 0=>(match x with | .pn=>.ok (.s 0 0) h | .p _ _=>.ok (.s 0 0) h | _=>.bad)
  | n + 1=>as_p_H x (fun b o=>match mget b h.mem with
    | some (.cells sz els f ro)=>(match ro.tyOf with
      | some ty=>bif Nat.beq sz 1 && (Nat.beq ty el && Nat.ble n 1000000) then
        (match takeL (n + 1) (dropL o els) with
         | some l=>(match bytesTo l with
           | some bs=>.ok (strOf bs) (setO (loneH h f b) b (.cells sz els f (.fr ty)))
           | none=>.bad)
         | none=>.bad) else .bad
      | none=>.bad)
    | _=>.bad) .bad
noncomputable def ustrC (t:TypeId) (x n:Operand):HOp:=
  match P.underlying t with
  | some (.pointer el)=>(match sizeT P el with
    | some 1=>⟨fun _ e h=>match (opnd n).run e with | .i .i64 (.ofNat n)=>ustrF el h ((opnd x).run e) n | _=>.bad⟩
    | _=>badH)
  | _=>badH
noncomputable def callH (c:Call):HOp:=
  match c.callee,c.args.toList,c.argTypes.toList with
  | .value f,as,_=>⟨fun call e h=>as_fn_H ((opnd f).run e) (fun g first cap=>match g with
      | .func n=>call n (appV first (appV ((opnds as).run e) cap)) h
      | _=>.bad) .bad⟩
  | .builtin .append,[x,y],t :: t2 :: _=>appC P t t2 x y
  | .builtin .copy,[x,y],t :: _=>copyC P t x y
  | .builtin .clear,[x],t :: _=>clearC P t x
  | .builtin .delete,[x,k],t :: _=>delC P t x k
  | .builtin .unsafeString,[x,n],t :: _ :: _=>ustrC P t x n
  | _,_,_=>badH
noncomputable def heavyC:Op → HOp
  | .alloc t=>(match zeroT P t with
    | some z=>(match cellsQ z with
      | some c=>⟨fun _ _ h=>newC t h (lenV1 c) [c] (fun i=>.p i 0)⟩
      | none=>badH)
    | none=>badH)
  | .box t x=>⟨fun _ e h=>Option.rec (motive:=fun _=>VH) .bad (fun c=>newC t h (lenV1 c) [c] (fun i=>.p i 0)) (cellsQ ((opnd x).run e))⟩
  | .buildSlice t len ps=>(match P.underlying t with
    | some (.slice el)=>(match sizeT P el,zeroT P el with
      | some (sz + 1),some z=>(match cellsQ z with
        | some zc=>bif Nat.ble (len * (sz + 1)) 16777216 && Nat.beq (lenV1 zc) (sz + 1) then
            ⟨fun _ e h=>match buildCells (fun i=>some (i * (sz + 1),sz + 1)) ((repN zc len).flatten) ((pairs ps.toList).run e) with
              | some cs=>newC el h (sz + 1) (chunks (sz + 1) len cs) (fun i=>.sl i 0 len (sz + 1))
              | none=>.bad⟩ else badH
        | none=>badH)
      | _,_=>badH)
    | _=>badH)
  | .makeSlice t l c=>(match P.underlying t with
    | some (.slice el)=>(match sizeT P el,zeroT P el with
      | some (sz + 1),some z=>(match cellsQ z,P.info? el with
        | some zc,some inf=>bif Nat.ble inf.bytes 1000000 && Nat.beq (lenV1 zc) (sz + 1) then
            ⟨fun _ e h=>as_i_H ((opnd l).run e) (fun _ n=>as_i_H ((opnd c).run e) (fun _ m=>match n,m with
              | .ofNat n,.ofNat m=>bif Nat.ble n m && Nat.ble m 100000 then newC el h (sz + 1) (repN zc m) (fun i=>.sl i 0 n (sz + 1)) else .bad
              | _,_=>.bad) .bad) .bad⟩ else badH
        | _,_=>badH)
      | _,_=>badH)
    | _=>badH)
  | .makeMap _ none=>⟨fun _ _ h=>newO h (fun _=>.map [] 0) (fun i=>.mp i)⟩
  | .makeMap t (some x)=>(match P.underlying t with
    | some (.map _ _)=>⟨fun _ e h=>as_i_H ((opnd x).run e) (fun _ _=>newO h (fun _=>.map [] 0) (fun i=>.mp i)) .bad⟩
    | _=>badH)
  | .mapUpdate t m k v=>(match P.underlying t with
    | some (.map kt _)=>⟨fun _ e h=>as_mp_H ((opnd m).run e) (fun b=>mapSet P kt h b ((opnd k).run e) ((opnd v).run e)) .bad⟩
    | _=>badH)
  | .insert t m k v=>(match P.underlying t with
    | some (.map kt _)=>⟨fun _ e h=>as_mp_H ((opnd m).run e) (fun b=>mapSet P kt h b ((opnd k).run e) ((opnd v).run e)) .bad⟩
    | _=>badH)
  | .mapEntry t m k=>(match P.underlying t with
    | some (.map kt et)=>(match zeroT P et with
      | some z=>⟨fun _ e h=>as_mp_H ((opnd m).run e) (fun b=>mapEnt P kt z h b ((opnd k).run e)) .bad⟩
      | none=>badH)
    | _=>badH)
  | .entryStore _ m s v=>⟨fun _ e h=>as_mp_H ((opnd m).run e) (fun b=>as_i_H ((opnd s).run e) (fun _ n=>match n with | .ofNat n=>entStore h b n ((opnd v).run e) | _=>.bad) .bad) .bad⟩
  | .store t a x=>(match sizeT P t with
    | some n=>⟨fun _ e h=>as_p_H ((opnd a).run e) (fun b o=>Option.rec (motive:=fun _=>VH) .bad (fun c=>iteH (Nat.beq (lenV1 c) n) (wr h b o c n) .bad) (cellsQ ((opnd x).run e))) .bad⟩
    | none=>badH)
  | .convert s d x=>(match P.underlying s,P.underlying d with
    | some .string,some (.slice el)=>(match P.underlying el with
      | some (.int .u8)=>⟨fun _ e h=>as_s_H ((opnd x).run e) (fun l c=>newC el h 1 (byteInts (bytesOf l c)) (fun i=>.sl i 0 l 1)) .bad⟩
      | _=>badH)
    | some (.slice el),some .string=>(match P.underlying el with
      | some (.int .u8)=>⟨fun _ e h=>toStr h ((opnd x).run e)⟩
      | _=>badH)
    | _,_=>badH)
  | .range t x=>(match P.underlying t with
    | some .string=>⟨fun _ e h=>as_s_H ((opnd x).run e) (fun l c=>newO h (fun _=>.siter l c 0) (fun i=>.p i 0)) .bad⟩
    | some (.map _ _)=>⟨fun _ e h=>as_mp_H ((opnd x).run e) (fun b=>match entsOf h b with
        | some (_,clock)=>newO h (fun _=>.miter b clock [] clock) (fun i=>.p i 0)
        | none=>.bad) .bad⟩
    | _=>badH)
  | .next x true=>⟨fun _ e h=>as_p_H ((opnd x).run e) (fun b o=>iteH (Nat.beq o 0) (nextS h b) .bad) .bad⟩
  | .next x false=>⟨fun _ e h=>as_p_H ((opnd x).run e) (fun b o=>iteH (Nat.beq o 0) (nextM h b) .bad) .bad⟩
  | .call c=>callH P c
  | _=>badH
def isHeavy:Op → Bool
  | .alloc _ | .box .. | .buildSlice .. | .makeSlice .. | .makeMap .. | .mapUpdate .. | .insert .. | .store .. | .range .. | .next .. | .mapEntry .. | .entryStore ..=>true
  | .call { callee:=.builtin .len,.. } | .call { callee:=.builtin .cap,.. } | .call { callee:=.builtin .max,.. } | .call { callee:=.builtin .min,.. } | .call { callee:=.builtin .unsafeSliceData,.. }=>false
  | .call _=>true
  | .convert s d _=>match P.underlying s,P.underlying d with
    | some .string,some (.slice _)=>true
    | some (.slice _),some .string=>true
    | _,_=>false
  | _=>false
structure SOp where
  run:CallT → Env → H → Rs
structure COd where
  run:CallT → Env → H → CR
noncomputable def doH (call:CallT) (e:Env) (dst:Nat) (r:VH):Rs:=VH.rec (motive:=fun _=>Rs) .bad (fun v h=>.ok (eset dst v e) h) r
noncomputable def doH0 (e:Env) (r:VH):Rs:=VH.rec (motive:=fun _=>Rs) .bad (fun _ h=>.ok e h) r
noncomputable def doL (e:Env) (h:H) (dst:Nat) (r:Option V):Rs:=Option.rec (motive:=fun _=>Rs) .bad (fun v=>.ok (eset dst v e) h) r
noncomputable def doL0 (e:Env) (h:H) (r:Option V):Rs:=Option.rec (motive:=fun _=>Rs) .bad (fun _=>.ok e h) r
def defSlot:Nat:=511
noncomputable def bareC (o:Oper):SOp:=
  match o.op with
  | .defer { callee:=.value f,args:=⟨[]⟩,.. }=>(match o.dst with
    | some _=>⟨fun _ _ _=>.bad⟩
    | none=>⟨fun _ e h=>match (opnd f).run e,eget defSlot e with
      | .fn g a b,.tup l=>.ok (eset defSlot (.tup (.fn g a b :: l)) e) h
      | _,_=>.bad⟩)
  | _=>match isHeavy P o.op,o.dst with
    | true,some d=>⟨fun call e h=>doH call e d ((heavyC P o.op).run call e h)⟩
    | true,none=>⟨fun call e h=>doH0 e ((heavyC P o.op).run call e h)⟩
    | false,some d=>⟨fun _ e h=>doL e h d ((lightC P o.op).run e h)⟩
    | false,none=>⟨fun _ e h=>doL0 e h ((lightC P o.op).run e h)⟩
def nthO:List Oper → Nat → Option Oper
  | [],_=>none
  | a :: _,0=>some a
  | _ :: l,n + 1=>nthO l n
noncomputable def skipE (d:Option Nat) (e:Env):Env:=match d with | some d=>eset d undefV e | none=>e
noncomputable def isUndef (v:V) (x:Rs):Rs:=match v with | .tup []=>x | _=>.bad
noncomputable def operC (ops:List Oper) (o:Oper):SOp:=
  match o.guard with
  | none=>bareC P o
  | some (j,want)=>match (nthO ops j).bind (·.dst) with
    | none=>⟨fun _ e h=>.ok (skipE o.dst e) h⟩
    | some g=>⟨fun call e h=>as_b_R (eget g e) (fun b=>iteR (b == want) ((bareC P o).run call e h) (.ok (skipE o.dst e) h)) (isUndef (eget g e) (.ok (skipE o.dst e) h))⟩
noncomputable def seqC (ops:List Oper):List Oper → SOp
  | []=>⟨fun _ e h=>.ok e h⟩
  | o :: l=>⟨fun call e h=>Rs.rec (motive:=fun _=>Rs) .bad (fun e h=>(seqC ops l).run call e h) ((operC P ops o).run call e h)⟩
def bindsE (e:Edge):Bool:=match e.ground with | .textOnly _ | .gcOnly _=>false | _=>true
def natAt:List Nat → Nat → Nat
  | [],_=>0
  | a :: _,0=>a
  | _ :: l,n + 1=>natAt l n
def maskE (acc:List Nat):List Edge → Nat
  | []=>0
  | e :: l=>bif bindsE e then (1 <<< e.on) ||| (natAt acc e.on ||| maskE acc l) else maskE acc l
def befGo (acc:List Nat):List Oper → List Nat
  | []=>acc
  | o :: l=>befGo (acc ++ [maskE acc o.after.toList]) l
def isNew:Op → Bool
  | .alloc _ | .box .. | .buildSlice .. | .makeSlice .. | .makeMap ..=>true
  | .convert s d _=>match P.underlying s,P.underlying d with
    | some .string,some (.slice _)=>true
    | _,_=>false
  | _=>false
def zipI:Nat → List Oper → List (Nat × Oper)
  | _,[]=>[]
  | i,o :: l=>(i,o) :: zipI (i + 1) l
def keepP {α:Type} (p:α → Bool):List α → List α
  | []=>[]
  | a :: l=>bif p a then a :: keepP p l else keepP p l
def memN (n:Nat):List Nat → Bool
  | []=>false
  | a :: l=>bif Nat.beq a n then true else memN n l
noncomputable def loopN (body:Env → H → CR) (n:Nat):Env → H → CR:=
  Nat.rec (motive:=fun _=>Env → H → CR) (fun _ _=>.bad)
    (fun _ ih e h=>CR.rec (motive:=fun _=>CR) .bad (fun e h=>ih e h) (fun i e h=>.ext i e h) (fun e h=>.ret e h) (body e h)) n
noncomputable def putArgs (i:Nat):List V → Env → Env
  | [],e=>e
  | v :: l,e=>putArgs (i + 1) l (eset i v e)
structure ROp where
  run:Env → H → Option V
structure ROps where
  run:Env → H → Option (List V)
noncomputable def resC:ResultVar → ROp
  | .tmp t=>⟨fun e _=>some (eget t e)⟩
  | .cell a t=>match isAggT P t,sizeT P t with
    | true,some n=>⟨fun e h=>as_p_O (eget a e) (fun b o=>aggO (rd h b o n)) none⟩
    | false,some _=>⟨fun e h=>as_p_O (eget a e) (fun b o=>rd1 h b o) none⟩
    | _,_=>⟨fun _ _=>none⟩
noncomputable def resCs:List ResultVar → ROps
  | []=>⟨fun _ _=>some []⟩
  | r :: l=>⟨fun e h=>match (resC P r).run e h,(resCs l).run e h with | some v,some vs=>some (v :: vs) | _,_=>none⟩
noncomputable def retC (rs:List ResultVar):ROp:=
  match rs with
  | [r]=>resC P r
  | rs=>⟨fun e h=>match (resCs P rs).run e h with | some vs=>some (.tup vs) | none=>none⟩
structure FOp where
  run:CallT → List V → H → VH
def badF:FOp:=⟨fun _ _ _=>.bad⟩
def H0 (n:Nat):H:=⟨Mem.new,Fam.new,idOf n⟩
def VH.isTrue:VH → Bool | .ok (.b true) _=>true | _=>false
end Go.Ev
end
