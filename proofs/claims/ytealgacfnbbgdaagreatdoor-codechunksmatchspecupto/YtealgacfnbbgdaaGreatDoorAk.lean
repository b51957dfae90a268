/- Lemmas; no condition. -/
import Derived.Test.YtealgacfnbbgdaaGreatDoorZ
import GoSem.Step
import Derived.Calls
import Derived.Orders
import Derived.LoopN
import Derived.Below
import Derived.Laws.Tables
import Derived.Laws.Cells
import Derived.Laws.Unary
import Derived.Laws.Strings
import Derived.Laws.Strings2
import Derived.Laws.Concat
import Derived.Laws.StructEq
import Derived.Laws.Entries
import Derived.Lib.UnsafeStr
import Derived.Laws.MakeOwn
set_option linter.all false
set_option maxHeartbeats 4000000
namespace Go.Ev
noncomputable section
variable {t kt ty e el t2 t':TypeId} {u v u' z:Value} {n c l cap o len c' l' off B a0 i sz h:Nat} {C a1 C' olds:Array Value} {fz fz':Nat × Nat} {s:ByteArray} {a:Act} {w w':Wo} {op:BinOp} {d ds u2:TypeDesc} {ts:Array TypeId} {b isS r:Bool} {base:Option Addr} {x:Option Bool} {k k':IntKind} {a2:TypeInfo} {P:Program} {us:Lv}
section
inductive D8 where
 |d0|d1|d2|d3|d4|d5|d6|d7
structure N8 (α:Type) where
 a0:α
 a1:α
 a2:α
 a3:α
 a4:α
 a5:α
 a6:α
 a7:α
structure Id where
 a:D8
 b:D8
 c:D8
 d:D8
 e:D8
inductive V where
 |top
 |b (x:Bool)
 |i (k:IntKind) (n:Int)
 |s (len b4:Nat)
 |pn
 |p (b:Id) (o:Nat)
 |sn
 |sl (b:Id) (o len sz:Nat)
 |se
 |mn
 |mp (b:Id)
 |fn (f:Fn) (first b3:List V)
 |nf
 |ifc (t:Nat) (v:V)
 |ni
 |agg (l:List V)
 |tup (l:List V)
structure Ent where
 key:V
 val:V
 born:Nat
inductive Rw where
 |rw (ty:Nat)
 |fz
 |fr (ty:Nat)
inductive O where
 |cells (sz:Nat) (els:List (List V)) (fam:Id) (ro:Rw)
 |map (es:List Ent) (a8:Nat)
 |siter (len b4 pos:Nat)
 |miter (m:Id) (b0:Nat) (seen:List Nat) (last:Nat)
def N8.all {α:Type} (x:α):N8 α:=⟨x,x,x,x,x,x,x,x⟩
abbrev E1:=N8 V
abbrev E2:=N8 E1
abbrev Env:=N8 E2
abbrev M1:=N8 (Option O)
abbrev M2:=N8 M1
abbrev M3:=N8 M2
abbrev M4:=N8 M3
abbrev Mem:=N8 M4
abbrev F1:=N8 (List Id)
abbrev F2:=N8 F1
abbrev F3:=N8 F2
abbrev F4:=N8 F3
abbrev Fam:=N8 F4
structure H where
 mem:Mem
 fams:Fam
 next:Id
inductive VH where
 |bad
 |ok (v:V) (h:H)
inductive Rs where
 |bad
 |ok (e:Env) (h:H)
inductive CR where
 |bad
 |nrm (e:Env) (h:H)
 |ext (id:Nat) (e:Env) (h:H)
 |ret (e:Env) (h:H)
abbrev dQ:=Nat→List V→H→VH
def dg:Nat→D8
 |0=>.d0|1=>.d1|2=>.d2|3=>.d3|4=>.d4|5=>.d5|6=>.d6|_=>.d7
def jW {α:Type} (d:D8):N8 α→α:=
 D8.rec (motive:=fun _=>N8 α→α) N8.a0 N8.a1 N8.a2 N8.a3 N8.a4 N8.a5 N8.a6 N8.a7 d
def mI {α:Type} (d:D8):(α→α)→N8 α→N8 α:=
 D8.rec (motive:=fun _=>(α→α)→N8 α→N8 α)
  (fun k n=>N8.rec (motive:=fun _=>N8 α) (fun a b c d e f g h=>N8.mk (k a) b c d e f g h) n)
  (fun k n=>N8.rec (motive:=fun _=>N8 α) (fun a b c d e f g h=>N8.mk a (k b) c d e f g h) n)
  (fun k n=>N8.rec (motive:=fun _=>N8 α) (fun a b c d e f g h=>N8.mk a b (k c) d e f g h) n)
  (fun k n=>N8.rec (motive:=fun _=>N8 α) (fun a b c d e f g h=>N8.mk a b c (k d) e f g h) n)
  (fun k n=>N8.rec (motive:=fun _=>N8 α) (fun a b c d e f g h=>N8.mk a b c d (k e) f g h) n)
  (fun k n=>N8.rec (motive:=fun _=>N8 α) (fun a b c d e f g h=>N8.mk a b c d e (k f) g h) n)
  (fun k n=>N8.rec (motive:=fun _=>N8 α) (fun a b c d e f g h=>N8.mk a b c d e f (k g) h) n)
  (fun k n=>N8.rec (motive:=fun _=>N8 α) (fun a b c d e f g h=>N8.mk a b c d e f g (k h)) n) d
def dU:V:=.tup []
def Env.new:Env:=N8.all (N8.all (N8.all dU))
def dD (t:Nat) (e:Env):V:=jW (dg (t%8)) (jW (dg (t/8%8)) (jW (dg (t/64)) e))
def lS (t:Nat) (v:V) (e:Env):Env:=mI (dg (t/64)) (mI (dg (t/8%8)) (mI (dg (t%8)) (fun _=>v))) e
def aB (i:Id) (m:Mem):Option O:=
 Id.rec (motive:=fun _=>Mem→Option O) (fun a b c d e m=>jW e (jW d (jW c (jW b (jW a m))))) i m
def fU (i:Id) (x:Option O) (m:Mem):Mem:=
 Id.rec (motive:=fun _=>Option O→Mem→Mem) (fun a b c d e x m=>mI a (mI b (mI c (mI d (mI e (fun _=>x))))) m) i x m
def bR (i:Id) (m:Fam):List Id:=
 Id.rec (motive:=fun _=>Fam→List Id) (fun a b c d e m=>jW e (jW d (jW c (jW b (jW a m))))) i m
def jR (i:Id) (x:List Id) (m:Fam):Fam:=
 Id.rec (motive:=fun _=>List Id→Fam→Fam) (fun a b c d e x m=>mI a (mI b (mI c (mI d (mI e (fun _=>x))))) m) i x m
def Mem.new:Mem:=N8.all (N8.all (N8.all (N8.all (N8.all none))))
def Fam.new:Fam:=N8.all (N8.all (N8.all (N8.all (N8.all []))))
def D8.nextd:D8→Bool × D8
 | .d0=>(false,.d1)| .d1=>(false,.d2)| .d2=>(false,.d3)| .d3=>(false,.d4)| .d4=>(false,.d5)| .d5=>(false,.d6)| .d6=>(false,.d7)| .d7=>(true,.d0)
def Id.succ:Id→Option Id
 | ⟨a,b,c,d,e⟩=>match e.nextd with
  |(false,e')=>some ⟨a,b,c,d,e'⟩
  | (true,e')=>match d.nextd with
   |(false,d')=>some ⟨a,b,c,d',e'⟩
   | (true,d')=>match c.nextd with
    |(false,c')=>some ⟨a,b,c',d',e'⟩
    | (true,c')=>match b.nextd with
      |(false,b')=>some ⟨a,b',c',d',e'⟩
      | (true,b')=>match a.nextd with
        |(false,a')=>some ⟨a',b',c',d',e'⟩
        |(true,_)=>none
def D8.toNat:D8→Nat
 | .d0=>0| .d1=>1| .d2=>2| .d3=>3| .d4=>4| .d5=>5| .d6=>6| .d7=>7
def Id.toNat:Id→Nat
 |⟨a,b,c,d,e⟩=>(((a.toNat*8+b.toNat)*8+c.toNat)*8+d.toNat)*8+e.toNat
def D8.beq (x y:D8):Bool:=Nat.beq x.toNat y.toNat
def Id.beq:Id→Id→Bool
 |⟨a,b,c,d,e⟩,⟨a',b',c',d',e'⟩=>D8.beq e e'&&(D8.beq d d'&&(D8.beq c c'&&(D8.beq b b'&&D8.beq a a')))
def fY (n:Nat):Id:=⟨dg (n/4096%8),dg (n/512%8),dg (n/64%8),dg (n/8%8),dg (n%8)⟩
def wH {α:Type} (v:V):(Bool→α)→α→α:=
 V.rec (motive_1:=fun _=>(Bool→α)→α→α) (motive_2:=fun _=>Unit) (fun _ d=>d) (fun x0 k _=>k x0) (fun _ _ _ d=>d) (fun _ _ _ d=>d) (fun _ d=>d) (fun _ _ _ d=>d) (fun _ d=>d) (fun _ _ _ _ _ d=>d) (fun _ d=>d) (fun _ d=>d) (fun _ _ d=>d) (fun _ _ _ _ _ _ d=>d) (fun _ d=>d) (fun _ _ _ _ d=>d) (fun _ d=>d) (fun _ _ _ d=>d) (fun _ _ _ d=>d) () (fun _ _ _ _=>()) v
def jB {α:Type} (v:V):(IntKind→Int→α)→α→α:=
 V.rec (motive_1:=fun _=>(IntKind→Int→α)→α→α) (motive_2:=fun _=>Unit) (fun _ d=>d) (fun _ _ d=>d) (fun x0 x1 k _=>k x0 x1) (fun _ _ _ d=>d) (fun _ d=>d) (fun _ _ _ d=>d) (fun _ d=>d) (fun _ _ _ _ _ d=>d) (fun _ d=>d) (fun _ d=>d) (fun _ _ d=>d) (fun _ _ _ _ _ _ d=>d) (fun _ d=>d) (fun _ _ _ _ d=>d) (fun _ d=>d) (fun _ _ _ d=>d) (fun _ _ _ d=>d) () (fun _ _ _ _=>()) v
def pZ {α:Type} (v:V):(Nat→Nat→α)→α→α:=
 V.rec (motive_1:=fun _=>(Nat→Nat→α)→α→α) (motive_2:=fun _=>Unit) (fun _ d=>d) (fun _ _ d=>d) (fun _ _ _ d=>d) (fun x0 x1 k _=>k x0 x1) (fun _ d=>d) (fun _ _ _ d=>d) (fun _ d=>d) (fun _ _ _ _ _ d=>d) (fun _ d=>d) (fun _ d=>d) (fun _ _ d=>d) (fun _ _ _ _ _ _ d=>d) (fun _ d=>d) (fun _ _ _ _ d=>d) (fun _ d=>d) (fun _ _ _ d=>d) (fun _ _ _ d=>d) () (fun _ _ _ _=>()) v
def kJ {α:Type} (v:V):(Id→Nat→α)→α→α:=
 V.rec (motive_1:=fun _=>(Id→Nat→α)→α→α) (motive_2:=fun _=>Unit) (fun _ d=>d) (fun _ _ d=>d) (fun _ _ _ d=>d) (fun _ _ _ d=>d) (fun _ d=>d) (fun x0 x1 k _=>k x0 x1) (fun _ d=>d) (fun _ _ _ _ _ d=>d) (fun _ d=>d) (fun _ d=>d) (fun _ _ d=>d) (fun _ _ _ _ _ _ d=>d) (fun _ d=>d) (fun _ _ _ _ d=>d) (fun _ d=>d) (fun _ _ _ d=>d) (fun _ _ _ d=>d) () (fun _ _ _ _=>()) v
def wF {α:Type} (v:V):(Id→Nat→Nat→Nat→α)→α→α:=
 V.rec (motive_1:=fun _=>(Id→Nat→Nat→Nat→α)→α→α) (motive_2:=fun _=>Unit) (fun _ d=>d) (fun _ _ d=>d) (fun _ _ _ d=>d) (fun _ _ _ d=>d) (fun _ d=>d) (fun _ _ _ d=>d) (fun _ d=>d) (fun x0 x1 x2 x3 k _=>k x0 x1 x2 x3) (fun _ d=>d) (fun _ d=>d) (fun _ _ d=>d) (fun _ _ _ _ _ _ d=>d) (fun _ d=>d) (fun _ _ _ _ d=>d) (fun _ d=>d) (fun _ _ _ d=>d) (fun _ _ _ d=>d) () (fun _ _ _ _=>()) v
def FW {α:Type} (v:V):((List V)→α)→α→α:=
 V.rec (motive_1:=fun _=>((List V)→α)→α→α) (motive_2:=fun _=>Unit) (fun _ d=>d) (fun _ _ d=>d) (fun _ _ _ d=>d) (fun _ _ _ d=>d) (fun _ d=>d) (fun _ _ _ d=>d) (fun _ d=>d) (fun _ _ _ _ _ d=>d) (fun _ d=>d) (fun _ d=>d) (fun _ _ d=>d) (fun _ _ _ _ _ _ d=>d) (fun _ d=>d) (fun _ _ _ _ d=>d) (fun _ d=>d) (fun x0 _ k _=>k x0) (fun _ _ _ d=>d) () (fun _ _ _ _=>()) v
def MT {α:Type} (v:V):((List V)→α)→α→α:=
 V.rec (motive_1:=fun _=>((List V)→α)→α→α) (motive_2:=fun _=>Unit) (fun _ d=>d) (fun _ _ d=>d) (fun _ _ _ d=>d) (fun _ _ _ d=>d) (fun _ d=>d) (fun _ _ _ d=>d) (fun _ d=>d) (fun _ _ _ _ _ d=>d) (fun _ d=>d) (fun _ d=>d) (fun _ _ d=>d) (fun _ _ _ _ _ _ d=>d) (fun _ d=>d) (fun _ _ _ _ d=>d) (fun _ d=>d) (fun _ _ _ d=>d) (fun x0 _ k _=>k x0) () (fun _ _ _ _=>()) v
def rJ {α:Type} (v:V):(Id→α)→α→α:=
 V.rec (motive_1:=fun _=>(Id→α)→α→α) (motive_2:=fun _=>Unit) (fun _ d=>d) (fun _ _ d=>d) (fun _ _ _ d=>d) (fun _ _ _ d=>d) (fun _ d=>d) (fun _ _ _ d=>d) (fun _ d=>d) (fun _ _ _ _ _ d=>d) (fun _ d=>d) (fun _ d=>d) (fun x0 k _=>k x0) (fun _ _ _ _ _ _ d=>d) (fun _ d=>d) (fun _ _ _ _ d=>d) (fun _ d=>d) (fun _ _ _ d=>d) (fun _ _ _ d=>d) () (fun _ _ _ _=>()) v
def MX {α:Type} (v:V):(Fn→(List V)→(List V)→α)→α→α:=
 V.rec (motive_1:=fun _=>(Fn→(List V)→(List V)→α)→α→α) (motive_2:=fun _=>Unit) (fun _ d=>d) (fun _ _ d=>d) (fun _ _ _ d=>d) (fun _ _ _ d=>d) (fun _ d=>d) (fun _ _ _ d=>d) (fun _ d=>d) (fun _ _ _ _ _ d=>d) (fun _ d=>d) (fun _ d=>d) (fun _ _ d=>d) (fun x0 x1 x2 _ _ k _=>k x0 x1 x2) (fun _ d=>d) (fun _ _ _ _ d=>d) (fun _ d=>d) (fun _ _ _ d=>d) (fun _ _ _ d=>d) () (fun _ _ _ _=>()) v
def yK {α:Type} (v:V):α→α→α:=
 V.rec (motive_1:=fun _=>α→α→α) (motive_2:=fun _=>Unit) (fun _ d=>d) (fun _ _ d=>d) (fun _ _ _ d=>d) (fun _ _ _ d=>d) (fun _ d=>d) (fun _ _ _ d=>d) (fun k _=>k) (fun _ _ _ _ _ d=>d) (fun _ d=>d) (fun _ d=>d) (fun _ _ d=>d) (fun _ _ _ _ _ _ d=>d) (fun _ d=>d) (fun _ _ _ _ d=>d) (fun _ d=>d) (fun _ _ _ d=>d) (fun _ _ _ d=>d) () (fun _ _ _ _=>()) v
def FT {α:Type} (v:V):α→α→α:=
 V.rec (motive_1:=fun _=>α→α→α) (motive_2:=fun _=>Unit) (fun _ d=>d) (fun _ _ d=>d) (fun _ _ _ d=>d) (fun _ _ _ d=>d) (fun _ d=>d) (fun _ _ _ d=>d) (fun _ d=>d) (fun _ _ _ _ _ d=>d) (fun k _=>k) (fun _ d=>d) (fun _ _ d=>d) (fun _ _ _ _ _ _ d=>d) (fun _ d=>d) (fun _ _ _ _ d=>d) (fun _ d=>d) (fun _ _ _ d=>d) (fun _ _ _ d=>d) () (fun _ _ _ _=>()) v
def FU {α:Type} (v:V):α→α→α:=
 V.rec (motive_1:=fun _=>α→α→α) (motive_2:=fun _=>Unit) (fun _ d=>d) (fun _ _ d=>d) (fun _ _ _ d=>d) (fun _ _ _ d=>d) (fun _ d=>d) (fun _ _ _ d=>d) (fun _ d=>d) (fun _ _ _ _ _ d=>d) (fun _ d=>d) (fun k _=>k) (fun _ _ d=>d) (fun _ _ _ _ _ _ d=>d) (fun _ d=>d) (fun _ _ _ _ d=>d) (fun _ d=>d) (fun _ _ _ d=>d) (fun _ _ _ d=>d) () (fun _ _ _ _=>()) v
def fL {α:Type} (b:Bool):α→α→α:=Bool.rec (motive:=fun _=>α→α→α) (fun _ y=>y) (fun x _=>x) b
def Rw.isW:Rw→Bool
 | .rw _=>true
 |_=>false
def Rw.tyOf:Rw→Option Nat
 | .rw t=>some t
 | .fr t=>some t
 | .fz=>none
def qR (l:List V):Nat→Option V:=
 List.rec (motive:=fun _=>Nat→Option V) (fun _=>none) (fun a _ ih i=>Nat.rec (motive:=fun _=>Option V) (some a) (fun j _=>ih j) i) l
def qS (l:List (List V)):Nat→Option (List V):=
 List.rec (motive:=fun _=>Nat→Option (List V)) (fun _=>none) (fun a _ ih i=>Nat.rec (motive:=fun _=>Option (List V)) (some a) (fun j _=>ih j) i) l
def sA (l:List (List V)):Nat→List V→List (List V):=
 List.rec (motive:=fun _=>Nat→List V→List (List V)) (fun _ _=>[]) (fun a r ih i x=>Nat.rec (motive:=fun _=>List (List V)) (x::r) (fun j _=>a::ih j x) i) l
def mG (n:Nat):List V→Option (List V):=
 Nat.rec (motive:=fun _=>List V→Option (List V)) (fun _=>some [])
  (fun _ ih l=>List.rec (motive:=fun _=>Option (List V)) none (fun a r _=>Option.rec (motive:=fun _=>Option (List V)) none (fun x=>some (a::x)) (ih r)) l) n
def fZ (n:Nat):List V→List V:=
 Nat.rec (motive:=fun _=>List V→List V) (fun l=>l) (fun _ ih l=>List.rec (motive:=fun _=>List V) [] (fun _ r _=>ih r) l) n
def rY (n:Nat):List (List V)→Option (List (List V)):=
 Nat.rec (motive:=fun _=>List (List V)→Option (List (List V))) (fun _=>some [])
  (fun _ ih l=>List.rec (motive:=fun _=>Option (List (List V))) none (fun a r _=>Option.rec (motive:=fun _=>Option (List (List V))) none (fun x=>some (a::x)) (ih r)) l) n
def AY (n:Nat):List (List V)→List (List V):=
 Nat.rec (motive:=fun _=>List (List V)→List (List V)) (fun l=>l) (fun _ ih l=>List.rec (motive:=fun _=>List (List V)) [] (fun _ r _=>ih r) l) n
def over {α:Type}:List α→List α→Option (List α)
 |l,[]=>some l
 | [],_::_=>none
 |_::l,x::xs=>match over l xs with|some r=>some (x::r)|none=>none
def jY {α:Type}:Nat→List α→List α→Option (List α)
 |0,l,xs=>over l xs
 |_+1,[],_=>none
 |n+1,a::l,xs=>match jY n l xs with|some r=>some (a::r)|none=>none
def appV (a:List V) (b:List V):List V:=List.rec (motive:=fun _=>List V) b (fun x _ ih=>x::ih) a
def appL (a:List (List V)) (b:List (List V)):List (List V):=List.rec (motive:=fun _=>List (List V)) b (fun x _ ih=>x::ih) a
def pD (a:List (List V)):Nat:=List.rec (motive:=fun _=>Nat) 0 (fun _ _ ih=>Nat.succ ih) a
def kY {α:Type} (x:α):Nat→List α
 |0=>[]
 |n+1=>x::kY x n
def bytesOf:Nat→Nat→List Nat
 |0,_=>[]
 |n+1,c=>c%256::bytesOf n (c/256)
def pW:List Nat→Nat
 | []=>0
 |b::l=>b+256*pW l
def wX (l:List Nat):V:=.s l.length (pW l)
def ltB:List Nat→List Nat→Bool
 |_,[]=>false
 | [],_::_=>true
 |a::x,b::y=>bif Nat.blt a b then true else bif Nat.beq a b then ltB x y else false
def sEq (l c l' c':Nat):Bool:=Nat.beq l l'&&Nat.beq c c'
def CZ:Value→Bool
 | .agg _=>false
 | .tuple _=>false
 |_=>true
mutual
def cst:Value→V
 | .bool x=>.b x
 | .int k n=>.i k n
 | .string s=>wX (s.data.toList.map UInt8.toNat)
 | .pointer none=>.pn
 | .slice none 0 0=>.sn
 | .map none=>.mn
 | .nilFunc=>.nf
 | .nilIface=>.ni
 | .agg ⟨l⟩=>bif l.all CZ then .agg (yA l) else .top
 | .tuple ⟨l⟩=>.tup (yA l)
 |_=>.top
def yA:Lv→List V
 | []=>[]
 |v::l=>cst v::yA l
end
structure Rd where
 run:Env→V
structure Rds where
 run:Env→List V
def aD:Operand→Rd
 | .tmp t=>⟨dD t⟩
 | .const v=>⟨fun _=>cst v⟩
 | .global g=>⟨fun _=>.p (fY g) 0⟩
 | .func f=>⟨fun _=>.fn (.func f) [] []⟩
def sH:List Operand→Rds
 | []=>⟨fun _=>[]⟩
 |x::l=>⟨fun e=>(aD x).run e::(sH l).run e⟩
def rdO (ob:O):Nat→Nat→Option (List V):=
 O.rec (motive:=fun _=>Nat→Nat→Option (List V))
  (fun sz els _ _ o k=>Option.rec (motive:=fun _=>Option (List V)) none
   (fun el=>Bool.rec (motive:=fun _=>Option (List V)) (mG k (fZ (Nat.mod o sz) el)) (some el) (Nat.beq (Nat.mod o sz) 0&&Nat.beq k sz))
   (qS els (Nat.div o sz)))
  (fun _ _ _ _=>none) (fun _ _ _ _ _=>none) (fun _ _ _ _ _ _=>none) ob
def rd1O (ob:O):Nat→Option V:=
 O.rec (motive:=fun _=>Nat→Option V)
  (fun sz els _ _ o=>Option.rec (motive:=fun _=>Option V) none (fun el=>qR el (Nat.mod o sz)) (qS els (Nat.div o sz)))
  (fun _ _ _=>none) (fun _ _ _ _=>none) (fun _ _ _ _ _=>none) ob
def rd (h:H) (b:Id) (o k:Nat):Option (List V):=
 Option.rec (motive:=fun _=>Option (List V)) none (fun ob=>rdO ob o k) (aB b h.mem)
def rd1 (h:H) (b:Id) (o:Nat):Option V:=
 Option.rec (motive:=fun _=>Option V) none (fun ob=>rd1O ob o) (aB b h.mem)
def mH (b:Id):List Id→List Id
 | []=>[]
 |x::l=>bif Id.beq x b then mH b l else x::mH b l
def kF:List Id→Mem→Mem
 | [],m=>m
 |b::l,m=>kF l (fU b none m)
def iS (h:H) (f b:Id):H:=
 List.rec (motive:=fun _=>H) h (fun x l _=>H.rec (motive:=fun _=>H) (fun mem fams next=>H.mk (kF (mH b (x::l)) mem) (jR f [] fams) next) h) (bR f h.fams)
def fR (h:H) (b:Id) (ob:O):H:=
 H.rec (motive:=fun _=>H) (fun mem fams next=>H.mk (fU b (some ob) mem) fams next) h
def wrO (h:H) (b:Id) (o:Nat) (xs:List V) (k:Nat) (ob:O):VH:=
 O.rec (motive:=fun _=>VH)
  (fun sz els f ro=>Rw.rec (motive:=fun _=>VH)
   (fun ty=>Option.rec (motive:=fun _=>VH) .bad
    (fun el=>Option.rec (motive:=fun _=>VH) .bad
      (fun b5=>.ok dU (fR (iS h f b) b (.cells sz (sA els (Nat.div o sz) b5) f (.rw ty))))
      (Bool.rec (motive:=fun _=>Option (List V)) (jY (Nat.mod o sz) el xs) (some xs) (Nat.beq (Nat.mod o sz) 0&&Nat.beq k sz)))
    (qS els (Nat.div o sz))) .bad (fun _=>.bad) ro)
  (fun _ _=>.bad) (fun _ _ _=>.bad) (fun _ _ _ _=>.bad) ob
def wr (h:H) (b:Id) (o:Nat) (xs:List V) (k:Nat):VH:=
 Option.rec (motive:=fun _=>VH) .bad (fun ob=>wrO h b o xs k ob) (aB b h.mem)
def qT (h:H) (ob:Id→O) (v:Id→V):VH:=
 H.rec (motive:=fun _=>VH) (fun mem fams next=>Option.rec (motive:=fun _=>VH) .bad (fun nx=>.ok (v next) (H.mk (fU next (some (ob next)) mem) fams nx)) (Id.succ next)) h
def oY (ty:Nat) (h:H) (sz:Nat) (els:List (List V)) (v:Id→V):VH:=qT h (fun i=>.cells sz els i (.rw ty)) v
variable (P:Program)
def cF (t:TypeId):Option Nat:=match P.underlying t,P.info? t with|some _,some i=>some i.size|_,_=>none
def gX (t:TypeId):Bool:=match P.underlying t with|some (.struct _)|some (.array _ _)=>true|_=>false
def iF (t:TypeId):Option V:=match (P.info? t).bind (·.zero) with|some z=>some (cst z)|none=>none
def cellsOf (v:V):List V:=
 V.rec (motive_1:=fun _=>List V) (motive_2:=fun _=>Unit) [.top] (fun x=>[.b x]) (fun k n=>[.i k n]) (fun l c=>[.s l c]) [.pn] (fun b o=>[.p b o]) [.sn] (fun b o l z=>[.sl b o l z]) [.se] [.mn] (fun b=>[.mp b]) (fun f a b _ _=>[.fn f a b]) [.nf] (fun t v _=>[.ifc t v]) [.ni] (fun l _=>l) (fun l _=>[.tup l]) () (fun _ _ _ _=>()) v
def fM (v:V):Option (List V):=
 V.rec (motive_1:=fun _=>Option (List V)) (motive_2:=fun _=>Unit) none (fun x=>some [.b x]) (fun k n=>some [.i k n]) (fun l c=>some [.s l c]) (some [.pn]) (fun b o=>some [.p b o]) (some [.sn]) (fun b o l z=>some [.sl b o l z]) (some [.se]) (some [.mn]) (fun b=>some [.mp b]) (fun f a b _ _=>some [.fn f a b]) (some [.nf]) (fun t v _=>some [.ifc t v]) (some [.ni]) (fun l _=>some l) (fun _ _=>none) () (fun _ _ _ _=>()) v
def fW (a:List V):Nat:=List.rec (motive:=fun _=>Nat) 0 (fun _ _ ih=>Nat.succ ih) a
def thr:IntKind→Nat
 | .i8=>127| .i16=>32767| .i32=>2147483647| .i64=>9223372036854775807| .u8=>255| .u16=>65535| .u32=>4294967295| .u64=>18446744073709551615
def uZ (k:IntKind) (n:Int):Int:=
 Int.rec (motive:=fun _=>Int) (fun m=>Bool.rec (motive:=fun _=>Int) (k.wrap (.ofNat m)) (.ofNat m) (Nat.ble m (thr k))) (fun m=>k.wrap (.negSucc m)) n
def kEq (j k:IntKind):Bool:=
 IntKind.rec (motive:=fun _=>IntKind→Bool)
  (fun k=>IntKind.rec (motive:=fun _=>Bool) true false false false false false false false k)
  (fun k=>IntKind.rec (motive:=fun _=>Bool) false true false false false false false false k)
  (fun k=>IntKind.rec (motive:=fun _=>Bool) false false true false false false false false k)
  (fun k=>IntKind.rec (motive:=fun _=>Bool) false false false true false false false false k)
  (fun k=>IntKind.rec (motive:=fun _=>Bool) false false false false true false false false k)
  (fun k=>IntKind.rec (motive:=fun _=>Bool) false false false false false true false false k)
  (fun k=>IntKind.rec (motive:=fun _=>Bool) false false false false false false true false k)
  (fun k=>IntKind.rec (motive:=fun _=>Bool) false false false false false false false true k) j k
def iLt (a b:Int):Bool:=
 Int.rec (motive:=fun _=>Int→Bool)
  (fun x b=>Int.rec (motive:=fun _=>Bool) (fun y=>Nat.ble (Nat.succ x) y) (fun _=>false) b)
  (fun x b=>Int.rec (motive:=fun _=>Bool) (fun _=>true) (fun y=>Nat.ble (Nat.succ y) x) b) a b
def iEq (a b:Int):Bool:=
 Int.rec (motive:=fun _=>Int→Bool)
  (fun x b=>Int.rec (motive:=fun _=>Bool) (fun y=>Nat.beq x y) (fun _=>false) b)
  (fun x b=>Int.rec (motive:=fun _=>Bool) (fun _=>false) (fun y=>Nat.beq x y) b) a b
def iAdd (a b:Int):Int:=
 Int.rec (motive:=fun _=>Int→Int)
  (fun x b=>Int.rec (motive:=fun _=>Int) (fun y=>.ofNat (Nat.add x y)) (fun y=>Int.add (.ofNat x) (.negSucc y)) b)
  (fun x b=>Int.add (.negSucc x) b) a b
def iSub (a b:Int):Int:=
 Int.rec (motive:=fun _=>Int→Int)
  (fun x b=>Int.rec (motive:=fun _=>Int) (fun y=>Bool.rec (motive:=fun _=>Int) (Int.sub (.ofNat x) (.ofNat y)) (.ofNat (Nat.sub x y)) (Nat.ble y x)) (fun y=>Int.sub (.ofNat x) (.negSucc y)) b)
  (fun x b=>Int.sub (.negSucc x) b) a b
structure IOp where
 run:IntKind→Int→Int→Option V
def EL:BinOp→IOp
 | .add=>⟨fun k x y=>some (.i k (uZ k (iAdd x y)))⟩
 | .sub=>⟨fun k x y=>some (.i k (uZ k (iSub x y)))⟩
 | .mul=>⟨fun k x y=>some (.i k (uZ k (Int.mul x y)))⟩
 | .quo=>⟨fun k x y=>fL (iEq y 0) none (some (.i k (uZ k (Int.tdiv x y))))⟩
 | .rem=>⟨fun k x y=>fL (iEq y 0) none (some (.i k (Int.tmod x y)))⟩
 | .and=>⟨fun k x y=>some (.i k (k.wrap (BitVec.ofInt k.bits x&&&BitVec.ofInt k.bits y).toNat))⟩
 | .or=>⟨fun k x y=>some (.i k (k.wrap (BitVec.ofInt k.bits x|||BitVec.ofInt k.bits y).toNat))⟩
 | .xor=>⟨fun k x y=>some (.i k (k.wrap (BitVec.ofInt k.bits x^^^BitVec.ofInt k.bits y).toNat))⟩
 | .andNot=>⟨fun k x y=>some (.i k (k.wrap (BitVec.ofInt k.bits x&&&~~~ BitVec.ofInt k.bits y).toNat))⟩
 | .eql=>⟨fun _ x y=>some (.b (iEq x y))⟩
 | .neq=>⟨fun _ x y=>some (.b (!iEq x y))⟩
 | .lss=>⟨fun _ x y=>some (.b (iLt x y))⟩
 | .leq=>⟨fun _ x y=>some (.b (!iLt y x))⟩
 | .gtr=>⟨fun _ x y=>some (.b (iLt y x))⟩
 | .geq=>⟨fun _ x y=>some (.b (!iLt x y))⟩
 |_=>⟨fun _ _ _=>none⟩
def CW (op:BinOp) (k:IntKind) (x y:Int):Option V:=
 bif iLt y 0 then none else
 match op with
 | .shl=>some (.i k (k.wrap (x*2^(min y.toNat k.bits))))
 | .shr=>some (.i k (x.fdiv (2^(min y.toNat k.bits))))
 |_=>none
structure StrOp where
 run:Nat→Nat→Nat→Nat→Option V
def HV:BinOp→StrOp
 | .add=>⟨fun l c l' c'=>bif Nat.ble (l+l') 1000000000 then some (.s (l+l') (c+c'<<<(8*l))) else none⟩
 | .eql=>⟨fun l c l' c'=>some (.b (sEq l c l' c'))⟩
 | .neq=>⟨fun l c l' c'=>some (.b (!sEq l c l' c'))⟩
 | .lss=>⟨fun l c l' c'=>some (.b (ltB (bytesOf l c) (bytesOf l' c')))⟩
 | .leq=>⟨fun l c l' c'=>some (.b (ltB (bytesOf l c) (bytesOf l' c')||sEq l c l' c'))⟩
 | .gtr=>⟨fun l c l' c'=>some (.b (!(ltB (bytesOf l c) (bytesOf l' c')||sEq l c l' c')))⟩
 | .geq=>⟨fun l c l' c'=>some (.b (!ltB (bytesOf l c) (bytesOf l' c')))⟩
 |_=>⟨fun _ _ _ _=>none⟩
structure EqT where
 run:H→V→V→Option Bool
def xR (h:H) (b:Id):Option Id:=match aB b h.mem with|some (.cells sz _ f (.rw _))=>bif Nat.beq sz 1 then none else some f|_=>none
def sG (agg:Bool) (n:Nat) (l:List V):Option V:=bif agg then(match mG n l with|some x=>some (.agg x)|none=>none) else qR l 0
def yJ:EqT:=⟨fun _ _ _=>none⟩
def xV (q:TypeId→EqT):List Field→EqT
 | []=>⟨fun _ x y=>match x,y with| .agg _,.agg _=>some true|_,_=>none⟩
 | f::fs=>if f.name= "_" then yJ else
  match cF P f.type with
  |none=>yJ
  | some n=>⟨fun h x y=>match x,y with
   | .agg xs,.agg ys=>(match sG (gX P f.type) n (fZ f.offset xs),sG (gX P f.type) n (fZ f.offset ys) with
    | some a,some b=>(match (q f.type).run h a b with
      |some true=>(xV q fs).run h x y
      |some false=>some false
      |none=>none)
    |_,_=>none)
   |_,_=>none⟩
def eqAs (q:EqT) (agg:Bool) (n:Nat):Nat→List V→List V→H→Option Bool
 |0,_,_,_=>some true
 | k+1,xs,ys,h=>match sG agg n xs,sG agg n ys with
  |some a,some b=>(match q.run h a b with
   |some true=>eqAs q agg n k (fZ n xs) (fZ n ys) h
   |some false=>some false
   |none=>none)
  |_,_=>none
def eqT:Nat→TypeId→EqT
 |0,_=>yJ
 | d+1,t=>match P.underlying t with
  |some .bool=>⟨fun _ x y=>match x,y with| .b a,.b b=>some (a==b)|_,_=>none⟩
  |some (.int _)=>⟨fun _ x y=>match x,y with| .i k a,.i k' b=>bif kEq k k' then some (iEq a b) else none|_,_=>none⟩
  |some .string=>⟨fun _ x y=>match x,y with| .s l c,.s l' c'=>some (sEq l c l' c')|_,_=>none⟩
  | some (.pointer e)=>(match cF P e with
   |some (_+1)=>⟨fun h x y=>match x,y with
    | .pn,.pn=>some true
    | .pn,.p _ _=>some false
    | .p _ _,.pn=>some false
    | .p b o,.p b' o'=>bif Id.beq b b' then some (Nat.beq o o') else
        (match xR h b,xR h b' with
        |some f,some f'=>bif Id.beq f f' then none else some false
        |_,_=>none)
    |_,_=>none⟩
   |_=>⟨fun _ x y=>match x,y with| .pn,.pn=>some true| .pn,.p _ _=>some false| .p _ _,.pn=>some false|_,_=>none⟩)
  | some (.interface _)=>⟨fun h x y=>match x,y with
    | .ni,.ifc _ _=>some false
    | .ifc _ _,.ni=>some false
    | .ifc tx vx,.ifc ty vy=>bif Nat.beq tx ty then
        (match P.info? tx with|some i=>bif i.comparable then(eqT d tx).run h vx vy else none|none=>none) else some false
    |_,_=>none⟩
  |some (.struct fs)=>bif P.stoodInHeld t then yJ else xV P (eqT d) fs.toList
  | some (.array len el)=>(match cF P el with
   |some n=>⟨fun h x y=>match x,y with
    | .agg xs,.agg ys=>eqAs (eqT d el) (gX P el) n len xs ys h
    |_,_=>none⟩
   |none=>yJ)
  |some (.slice _)=>⟨fun _ x y=>match x,y with| .sn,.sn=>some true| .sn,.sl ..=>some false| .sl ..,.sn=>some false| .se,.sn=>some false| .sn,.se=>some false|_,_=>none⟩
  |some (.map _ _)=>⟨fun _ x y=>match x,y with| .mn,.mn=>some true| .mn,.mp _=>some false| .mp _,.mn=>some false|_,_=>none⟩
  |some (.func _ _ _)=>⟨fun _ x y=>match x,y with| .nf,.nf=>some true| .nf,.fn ..=>some false| .fn ..,.nf=>some false|_,_=>none⟩
  |_=>yJ
structure CkT where
 run:V→Bool
def yI:CkT:=⟨fun _=>false⟩
def yE (q:TypeId→CkT):List Field→CkT
 | []=>⟨fun v=>match v with| .agg _=>true|_=>false⟩
 | f::fs=>if f.name= "_" then yI else
  match cF P f.type with
  |none=>yI
  | some n=>⟨fun v=>match v with
   | .agg l=>(match sG (gX P f.type) n (fZ f.offset l) with
    |some a=>(q f.type).run a&&(yE q fs).run v
    |none=>false)
   |_=>false⟩
def ckAs (q:CkT) (agg:Bool) (n:Nat):Nat→List V→Bool
 |0,_=>true
 |k+1,l=>match sG agg n l with
  |some a=>q.run a&&ckAs q agg n k (fZ n l)
  |none=>false
def ckT:Nat→TypeId→CkT
 |0,_=>yI
 | d+1,t=>match P.underlying t with
  |some (.interface _)=>yI
  |some (.struct fs)=>yE P (ckT d) fs.toList
  |some (.array len el)=>(match cF P el with
   |some n=>⟨fun v=>match v with| .agg l=>ckAs (ckT d el) (gX P el) n len l|_=>false⟩
   |none=>yI)
  |some _=>⟨fun _=>true⟩
  |none=>yI
structure LOp where
 run:Env→H→Option V
structure HOp where
 run:dQ→Env→H→VH
def qV:Operand→Bool| .const _=>true|_=>false
def notO:Option Bool→Option V|some r=>some (.b (!r))|none=>none
def yesO:Option Bool→Option V|some r=>some (.b r)|none=>none
def okEq:V→Bool
 | .top=>false
 | .i _ _=>false
 | .s _ _=>false
 | .ni=>false
 | .ifc _ _=>false
 |_=>true
def xS (t:TypeId) (h:H) (x y:V):Option Bool:=bif okEq x then(eqT P 20 t).run h x y else none
def EV (t:TypeId) (c:Bool) (h:H) (x y:V):Option Bool:=
 match x,y with
 | .ni,.ni=>bif c then some true else none
 | .ni,.ifc _ _=>some false
 | .ifc _ _,.ni=>some false
 | .ifc tx vx,.ifc ty vy=>(eqT P 20 t).run h (.ifc tx vx) (.ifc ty vy)
 |_,_=>none
def fG:LOp:=⟨fun _ _=>none⟩
def binC (op:BinOp) (t:TypeId) (x y:Operand):LOp:=
 match P.underlying t with
 |some (.int _)=>(match op with
  | .shl| .shr=>⟨fun e _=>jB ((aD x).run e) (fun k a=>jB ((aD y).run e) (fun _ b=>CW op k a b) none) none⟩
  |_=>⟨fun e _=>jB ((aD x).run e) (fun k a=>jB ((aD y).run e) (fun k' b=>fL (kEq k k') ((EL op).run k a b) none) none) none⟩)
 |some .string=>⟨fun e _=>pZ ((aD x).run e) (fun l c=>pZ ((aD y).run e) (fun l' c'=>(HV op).run l c l' c') none) none⟩
 |some (.interface _)=>(match op with
  | .eql=>⟨fun e h=>yesO (EV P t (qV x||qV y) h ((aD x).run e) ((aD y).run e))⟩
  | .neq=>⟨fun e h=>notO (EV P t (qV x||qV y) h ((aD x).run e) ((aD y).run e))⟩
  |_=>fG)
 |_=>bif P.eqGuardType P.depth t then fG else(match op with
  | .eql=>⟨fun e h=>yesO (xS P t h ((aD x).run e) ((aD y).run e))⟩
  | .neq=>⟨fun e h=>notO (xS P t h ((aD x).run e) ((aD y).run e))⟩
  |_=>fG)
def unC (op:UnOp) (x:Operand):LOp:=
 match op with
 | .not=>⟨fun e _=>wH ((aD x).run e) (fun b=>some (.b (!b))) none⟩
 | .neg=>⟨fun e _=>jB ((aD x).run e) (fun k n=>some (.i k (uZ k (iSub 0 n)))) none⟩
 | .xor=>⟨fun e _=>jB ((aD x).run e) (fun k n=>some (.i k (k.wrap (BitVec.ofInt k.bits (if k.signed then-1 else k.max)^^^BitVec.ofInt k.bits n).toNat))) none⟩
 |_=>fG
def vQ:List Field→Nat→Option Field
 | [],_=>none
 |a::_,0=>some a
 |_::l,n+1=>vQ l n
def asN (v:V) (k:Nat→Option V):Option V:=jB v (fun _ n=>Int.rec (motive:=fun _=>Option V) k (fun _=>none) n) none
def bnd (x:Option Operand) (d:Nat) (e:Env) (k:Nat→Option V):Option V:=
 match x with
 |none=>k d
 |some x=>asN ((aD x).run e) k
def Dw (lo hi:Option Operand) (e:Env) (len c:Nat):Option V:=
 bnd hi len e fun h=>bnd lo 0 e fun l=>fL (Nat.ble l h&&Nat.ble h len) (some (.s (h-l) ((c>>>(8*l))%2^(8*(h-l))))) none
def PJ (sz:Nat) (lo hi:Option Operand) (e:Env) (b:Id) (o len z:Nat):Option V:=
 bnd hi len e fun h=>bnd lo 0 e fun l=>fL (Nat.ble l h&&Nat.ble h len)
  (fL (Nat.beq l h&& !Nat.beq l 0) (some .se) (some (.sl b (Nat.add o (Nat.mul l sz)) (Nat.sub h l) z))) none
def PK (r:V) (lo hi:Option Operand) (e:Env):Option V:=
 bnd hi 0 e fun h=>bnd lo 0 e fun l=>fL (Nat.beq h 0&&Nat.beq l 0) (some r) none
def IC (t:TypeId) (x:Operand) (lo hi:Option Operand):LOp:=
 match P.underlying t with
 |some .string=>⟨fun e _=>pZ ((aD x).run e) (Dw lo hi e) none⟩
 |some (.slice el)=>(match cF P el with
  |some (sz+1)=>⟨fun e _=>wF ((aD x).run e) (fun b o len z=>fL (Nat.beq z (sz+1)) (PJ (sz+1) lo hi e b o len z) none) (yK ((aD x).run e) (PK .sn lo hi e) (FT ((aD x).run e) (PK .se lo hi e) none))⟩
  |_=>fG)
 |some (.array n el)=>fG
 |_=>fG
def Ko (x ix:Operand) (sz:Nat):LOp:=
 ⟨fun e _=>wF ((aD x).run e) (fun b o len _=>asN ((aD ix).run e) (fun n=>fL (Nat.ble (Nat.succ n) len) (some (.p b (Nat.add o (Nat.mul n sz)))) none)) none⟩
def Km (x ix:Operand) (len sz:Nat):LOp:=
 ⟨fun e _=>kJ ((aD x).run e) (fun b o=>asN ((aD ix).run e) (fun n=>fL (Nat.ble (Nat.succ n) len) (some (.p b (Nat.add o (Nat.mul n sz)))) none)) none⟩
def qB (x:Option (List V)):Option V:=Option.rec (motive:=fun _=>Option V) none (fun l=>some (.agg l)) x
def nV (agg:Bool) (off n:Nat) (l:List V):Option V:=fL agg (qB (mG n (fZ off l))) (qR l off)
def lF (b1:Nat→Option (Nat × Nat)):List V→List (Nat × V)→Option (List V)
 |cs,[]=>some cs
 | cs,(i,v)::r=>match b1 i with
  |none=>none
  |some (off,sz)=>match fM v with
   |none=>none
   |some c=>bif Nat.beq (fW c) sz then(match jY off cs c with|some cs'=>lF b1 cs' r|none=>none) else none
structure Prs where
 run:Env→List (Nat × V)
def oW:List (Nat × Operand)→Prs
 | []=>⟨fun _=>[]⟩
 |(i,x)::l=>⟨fun e=>(i,(aD x).run e)::(oW l).run e⟩
def vL:List Field→Option (List (Nat × Nat))
 | []=>some []
 |f::fs=>match cF P f.type,vL fs with|some n,some l=>some ((f.offset,n)::l)|_,_=>none
def nthP:List (Nat × Nat)→Nat→Option (Nat × Nat)
 | [],_=>none
 |a::_,0=>some a
 |_::l,n+1=>nthP l n
def MN (t:TypeId) (ps:List (Nat × Operand)):LOp:=
 match iF P t,P.underlying t with
 | some z,some (.struct fs)=>(match fM z with
  |some zc=>(match vL P fs.toList with
   |some pl=>⟨fun e _=>qB (lF (nthP pl) zc ((oW ps).run e))⟩
   |none=>fG)
  |none=>fG)
 | some z,some (.array _ el)=>(match fM z with
  |some zc=>(match cF P el with
   |some n=>⟨fun e _=>qB (lF (fun i=>some (i*n,n)) zc ((oW ps).run e))⟩
   |none=>fG)
  |none=>fG)
 |_,_=>fG
mutual
def V.beq:V→V→Bool
 | .top,.top=>true
 | .b x,.b y=>x==y
 | .i k n,.i k' n'=>(match k,k' with| .i8,.i8| .i16,.i16| .i32,.i32| .i64,.i64| .u8,.u8| .u16,.u16| .u32,.u32| .u64,.u64=>true|_,_=>false)&&(match n,n' with| .ofNat x,.ofNat y=>Nat.beq x y| .negSucc x,.negSucc y=>Nat.beq x y|_,_=>false)
 | .s l c,.s l' c'=>sEq l c l' c'
 | .pn,.pn=>true
 | .p b o,.p b' o'=>Id.beq b b'&&Nat.beq o o'
 | .sn,.sn=>true
 | .sl b o l z,.sl b' o' l' z'=>Id.beq b b'&&(Nat.beq o o'&&(Nat.beq l l'&&Nat.beq z z'))
 | .se,.se=>true
 | .mn,.mn=>true
 | .mp b,.mp b'=>Id.beq b b'
 | .fn (.func f) a b,.fn (.func f') a' b'=>Nat.beq f f'&&(lU a a'&&lU b b')
 | .nf,.nf=>true
 | .ifc t v,.ifc t' v'=>Nat.beq t t'&&V.beq v v'
 | .ni,.ni=>true
 | .agg l,.agg l'=>lU l l'
 | .tup l,.tup l'=>lU l l'
 |_,_=>false
def lU:List V→List V→Bool
 | [],[]=>true
 |a::l,b::r=>V.beq a b&&lU l r
 |_,_=>false
end
def pT:V→Bool
 | .b _=>true
 | .i _ _=>true
 | .s _ _=>true
 | .pn=>true
 | .p _ _=>true
 | .ni=>true
 |_=>false
def uH:V→Bool
 | .agg l=>l.all pT
 |v=>pT v
def ES (q:EqT) (h:H) (k:V):List Ent→Nat→Option (Option (Nat × Ent))
 | [],_=>some none
 |e::es,i=>match q.run h k e.key with
  |some true=>some (some (i,e))
  |some false=>ES q h k es (i+1)
  |none=>none
def qY (kt:TypeId) (h:H) (k:V) (es:List Ent):Option (Option (Nat × Ent)):=
 bif (ckT P 20 kt).run k then ES (eqT P 20 kt) h k es 0 else none
def kH (h:H) (b:Id):Option (List Ent × Nat):=match aB b h.mem with|some (.map es c)=>some (es,c)|_=>none
def DZ (kt:TypeId) (z:V) (ok:Bool) (h:H) (k:V) (es:List Ent):Option V:=
 match qY P kt h k es with
 |some (some (_,e))=>some (if ok then .tup [e.val,.b true] else e.val)
 |some none=>some (if ok then .tup [z,.b false] else z)
 |none=>none
def lookC (t:TypeId) (x k:Operand) (ok:Bool):LOp:=
 match P.underlying t with
 |some (.map kt et)=>(match iF P et with
  | some z=>⟨fun e h=>rJ ((aD x).run e) (fun b=>match kH h b with|some (es,_)=>DZ P kt z ok h ((aD k).run e) es|none=>none)
    (FU ((aD x).run e) (DZ P kt z ok h ((aD k).run e) []) none)⟩
  |none=>fG)
 |_=>fG
def lenC (t:TypeId) (x:Operand):LOp:=
 match P.underlying t with
 |some .string=>⟨fun e _=>pZ ((aD x).run e) (fun l _=>some (.i .i64 (.ofNat l))) none⟩
 |some (.array n _)=>⟨fun _ _=>some (.i .i64 (.ofNat n))⟩
 |some (.pointer a)=>(match P.underlying a with|some (.array n _)=>⟨fun _ _=>some (.i .i64 (.ofNat n))⟩|_=>fG)
 |some (.slice _)=>⟨fun e _=>wF ((aD x).run e) (fun _ _ n _=>some (.i .i64 (.ofNat n))) (yK ((aD x).run e) (some (.i .i64 0)) (FT ((aD x).run e) (some (.i .i64 0)) none))⟩
 |some (.map _ _)=>⟨fun e h=>rJ ((aD x).run e) (fun b=>match kH h b with|some (es,_)=>some (.i .i64 (.ofNat es.length))|none=>none) (FU ((aD x).run e) (some (.i .i64 0)) none)⟩
 |_=>fG
def vV (f:V→V→Option V):V→List V→Option V
 |a,[]=>some a
 |a,x::l=>match f a x with|some b=>vV f b l|none=>none
def max2 (x y:V):Option V:=jB x (fun k a=>jB y (fun k' b=>fL (kEq k k') (some (.i k (bif iLt a b then b else a))) none) none) none
def min2 (x y:V):Option V:=jB x (fun k a=>jB y (fun k' b=>fL (kEq k k') (some (.i k (bif iLt b a then b else a))) none) none) none
def AW (n:Nat):List Ent→Option Ent
 | []=>none
 |e::l=>bif Nat.beq e.born n then some e else AW n l
def uF:List Nat→Option Nat
 | []=>none
 | [a]=>some a
 |_::l=>uF l
def LJ (h:H) (b:Id):Option V:=
 match aB b h.mem with
 |some (.miter m _ seen last)=>(match uF seen,kH h m with
  |some st,some (es,a8)=>bif Nat.beq a8 last then(match AW st es with|some en=>some (.tup [en.key,en.val])|none=>none) else none
  |_,_=>none)
 |_=>none
def capC (t:TypeId) (x:Operand):LOp:=
 match P.underlying t with
 |some (.slice _)=>⟨fun e _=>wF ((aD x).run e) (fun _ _ _ _=>some .top) (yK ((aD x).run e) (some (.i .i64 0)) none)⟩
 |_=>fG
def callL (c:Call):LOp:=
 match c.callee,c.args.toList,c.argTypes.toList with
 | .builtin .len,[x],t::_=>lenC P t x
 | .builtin .cap,[x],t::_=>capC P t x
 | .builtin .unsafeSliceData,[x],_=>⟨fun e _=>wF ((aD x).run e) (fun b o len _=>fL (Nat.ble 1 len) (some (.p b o)) none) (yK ((aD x).run e) (some .pn) none)⟩
 | .builtin .max,x::l,_=>⟨fun e _=>vV max2 ((aD x).run e) ((sH l).run e)⟩
 | .builtin .min,x::l,_=>⟨fun e _=>vV min2 ((aD x).run e) ((sH l).run e)⟩
 |_,_,_=>fG
def AV (P:Program) (ty u a9 r:Nat):Bool:=
 match cF P ty,P.underlying ty with
 |some (n+1),some (.struct fs)=>Nat.beq (n+1) a9&&(!P.stoodInHeld ty&&fs.toList.any fun f=>Nat.beq f.offset r&&Nat.beq f.type u)
 |_,_=>false
def sO:Op→LOp
 | .move x=>⟨fun e _=>some ((aD x).run e)⟩
 | .assign x=>⟨fun e _=>some ((aD x).run e)⟩
 | .pick c a b=>⟨fun e _=>wH ((aD c).run e) (fun t=>fL t (some ((aD a).run e)) (some ((aD b).run e))) none⟩
 | .nilCheck x=>⟨fun e _=>kJ ((aD x).run e) (fun b o=>some (.p b o)) (match (aD x).run e with| .fn (.func f) a b=>some (.fn (.func f) a b)| .ifc t v=>some (.ifc t v)| .mp b=>some (.mp b)| .mn=>some .mn|_=>none)⟩
 | .binOp op t x y _=>binC P op t x y
 | .unOp op _ x=>unC op x
 | .fieldAddr t x i=>(match P.underlying t with
  | some (.struct fs)=>(match vQ fs.toList i with
   |some f=>(match cF P f.type with
    |some (_+1)=>⟨fun e _=>kJ ((aD x).run e) (fun b o=>some (.p b (Nat.add o f.offset))) none⟩
    |_=>fG)
   |none=>fG)
  |_=>fG)
 | .field t x i=>(match P.underlying t with
  | some (.struct fs)=>(match vQ fs.toList i with
   |some f=>(match cF P f.type with
    |some n=>⟨fun e _=>FW ((aD x).run e) (nV (gX P f.type) f.offset n) none⟩
    |none=>fG)
   |none=>fG)
  |_=>fG)
 | .indexAddr t x ix=>(match P.underlying t with
  |some (.slice el)=>(match cF P el with|some (sz+1)=>Ko x ix (sz+1)|_=>fG)
  |some (.array len el)=>(match cF P el with|some (sz+1)=>Km x ix len (sz+1)|_=>fG)
  |_=>fG)
 | .index t x ix=>(match P.underlying t with
  |some .string=>⟨fun e _=>pZ ((aD x).run e) (fun len c=>asN ((aD ix).run e) (fun n=>fL (Nat.ble (Nat.succ n) len) (some (.i .u8 (.ofNat ((c>>>(8*n))%256)))) none)) none⟩
  |some (.array len el)=>(match cF P el with
   |some sz=>⟨fun e _=>FW ((aD x).run e) (fun l=>asN ((aD ix).run e) (fun n=>fL (Nat.ble (Nat.succ n) len) (nV (gX P el) (n*sz) sz l) none)) none⟩
   |none=>fG)
  |_=>fG)
 | .extract x i=>⟨fun e _=>MT ((aD x).run e) (fun l=>qR l i) none⟩
 | .slice t x lo hi none=>IC P t x lo hi
 | .build t ps=>MN P t ps.toList
 | .load t x=>(match gX P t,cF P t with
  |true,some n=>⟨fun e h=>kJ ((aD x).run e) (fun b o=>qB (rd h b o n)) none⟩
  |false,some _=>⟨fun e h=>kJ ((aD x).run e) (fun b o=>rd1 h b o) none⟩
  |_,_=>fG)
 | .lookup t x k ok=>lookC P t x k ok
 | .convert s d x=>(match P.underlying s,P.underlying d with
  |some _,some (.int k)=>⟨fun e _=>jB ((aD x).run e) (fun _ n=>some (.i k (uZ k n))) none⟩
  |some (.int _),some .string=>⟨fun e _=>asN ((aD x).run e) (fun n=>fL (Nat.ble (Nat.succ n) 128) (some (.s 1 n)) none)⟩
  |some .string,some .string=>⟨fun e _=>pZ ((aD x).run e) (fun l c=>some (.s l c)) none⟩
  |some (.pointer t),some .unsafePointer=>(match cF P t with
   |some (_+1)=>⟨fun e h=>kJ ((aD x).run e) (fun b o=>Option.rec (motive:=fun _=>Option V) none (fun _=>some (.p b o)) (rd1 h b o)) none⟩
   |_=>fG)
  |some .unsafePointer,some (.pointer u)=>(match cF P u with
   |some (sz+1)=>⟨fun e h=>kJ ((aD x).run e) (fun b o=>match aB b h.mem with
      |some (.cells a9 els _ (.rw ty))=>fL ((Nat.beq a9 (sz+1)&&(Nat.beq ty u&&(Nat.beq (Nat.mod o a9) 0&&Nat.ble (Nat.succ (Nat.div o a9)) (pD els))))||(AV P ty u a9 (Nat.mod o a9)&&Nat.ble (Nat.succ (Nat.div o a9)) (pD els))) (some (.p b o)) none
      |_=>none) none⟩
   |_=>fG)
  |_,_=>fG)
 | .entry x=>⟨fun e h=>kJ ((aD x).run e) (fun b o=>fL (Nat.beq o 0) (LJ h b) none) none⟩
 | .makeInterface t x=>(match P.underlying t with
  |some (.interface _)=>fG
  |some _=>⟨fun e _=>some (.ifc t ((aD x).run e))⟩
  |none=>fG)
 | .makeFunc fn a b=>⟨fun e _=>some (.fn fn ((sH a.toList).run e) ((sH b.toList).run e))⟩
 | .typeAssert x _ t ok=>(match P.underlying t,iF P t with
  |some (.interface _),_=>fG
  |some _,some z=>⟨fun e _=>match ((aD x).run e:V) with
   | .ni=>if ok then some (.tup [z,.b false]) else none
   | .ifc t' v=>bif Nat.beq t' t then some (if ok then .tup [v,.b true] else v) else if ok then some (.tup [z,.b false]) else none
   |_=>none⟩
  |_,_=>fG)
 | .call c=>callL P c
 |_=>fG
def nJ:List Nat→List (List V)
 | []=>[]
 |b::l=>[.i .u8 b]::nJ l
def rF (sz:Nat):Nat→List V→List (List V)
 |0,_=>[]
 |n+1,l=>(mG sz l).getD []::rF sz n (fZ sz l)
def rC (h:H) (sz:Nat) (x:V):Option (List (List V)):=
 match x with
 | .sn=>some []
 | .se=>some []
 | .sl b o len _=>(match aB b h.mem with
  |some (.cells sz' els _ _)=>bif Nat.beq sz sz'&&Nat.beq (Nat.mod o sz) 0 then rY len (AY (Nat.div o sz) els) else none
  |_=>none)
 | .s l c=>bif Nat.beq sz 1 then some (nJ (bytesOf l c)) else none
 |_=>none
def oP (b:Id):List Id→List Id × List Id
 | []=>([],[])
 |x::l=>bif Id.beq x b then([],l) else match oP b l with|(p,q)=>(x::p,q)
def grown (ty:Nat) (sz:Nat) (b f:Id) (len:Nat) (old new:List (List V)) (h:H):VH:=
 H.rec (motive:=fun _=>VH) (fun mem fams next=>Option.rec (motive:=fun _=>VH) .bad
  (fun nx=>match oP b (bR f fams) with
    |(dead,rest)=>.ok (.sl next 0 (Nat.add len (pD new)) sz) (H.mk (fU next (some (.cells sz (appL old new) f (.rw ty))) (kF dead mem)) (jR f (next::b::rest) fams) nx))
   (Id.succ next)) h
def MZ (ty:Nat) (h:H) (sz:Nat) (x:V) (new:List (List V)):VH:=
 match new with
 | []=>(match x with| .sn=>.ok x h| .se=>.ok x h| .sl ..=>.ok x h|_=>.bad)
 | _::_=>bif Nat.ble (pD new) 1000000 then match x with
  | .sn=>oY ty h sz new (fun i=>.sl i 0 (pD new) sz)
  | .sl b o len z=>(match aB b h.mem with
   | some (.cells a9 els f (.rw tyb))=>bif Nat.beq a9 sz&&(Nat.beq z sz&&(Nat.beq (Nat.mod o sz) 0&&(Nat.ble len 1000000&&Nat.beq tyb ty))) then
      (
       match rY len (AY (Nat.div o sz) els) with
       |none=>.bad
       |some old=>bif Nat.beq (Nat.add (Nat.div o sz) len) (pD els) then grown ty sz b f len old new h
          else(match rY (Nat.add (Nat.div o sz) len) els with
           |some cut=>grown ty sz b f len old new (fR (iS h f b) b (.cells a9 cut f (.rw ty)))
           |none=>.bad))
      else .bad
   |_=>.bad)
  |_=>.bad
  else .bad
def wB:List (List V)→Option (List Nat)
 | []=>some []
 | [.i .u8 (.ofNat n)]::r=>bif Nat.ble n 255 then match wB r with|some l=>some (n::l)|none=>none else none
 |_=>none
def HQ (h:H) (x:V):VH:=
 match x with
 | .s _ _=>.bad
 |x=>match rC h 1 x with
  |some l=>(match wB l with|some bs=>.ok (wX bs) h|none=>.bad)
  |none=>.bad
def tN:List Ent→Nat→Ent→List Ent
 | [],_,_=>[]
 |_::l,0,x=>x::l
 |a::l,n+1,x=>a::tN l n x
def xZ:List Ent→Nat→List Ent
 | [],_=>[]
 |_::l,0=>l
 |a::l,n+1=>a::xZ l n
def DX (kt:TypeId) (h:H) (b:Id) (k v:V):VH:=
 match kH h b with
 |some (es,a8)=>(match qY P kt h k es with
  |some (some (i,e))=>bif uH k&&V.beq k e.key then .ok dU (fR h b (.map (tN es i ⟨k,v,e.born⟩) a8)) else .bad
  |some none=>.ok dU (fR h b (.map (es++ [⟨k,v,a8⟩]) (a8+1)))
  |none=>.bad)
 |none=>.bad
def JX (kt:TypeId) (z:V) (h:H) (b:Id) (k:V):VH:=
 match kH h b with
 |some (es,a8)=>(match qY P kt h k es with
  |some (some (i,e))=>bif uH k&&V.beq k e.key then .ok (.tup [e.val,.i .i64 (.ofNat e.born)]) (fR h b (.map (tN es i ⟨k,e.val,e.born⟩) a8)) else .bad
  |some none=>.ok (.tup [z,.i .i64 (.ofNat a8)]) (fR h b (.map (es++ [⟨k,z,a8⟩]) (a8+1)))
  |none=>.bad)
 |none=>.bad
def BI (n:Nat):List Ent→Nat→Option (Nat × Ent)
 | [],_=>none
 |e::l,i=>bif Nat.beq e.born n then some (i,e) else BI n l (i+1)
def LK (h:H) (b:Id) (n:Nat) (v:V):VH:=
 match kH h b with
 |some (es,a8)=>(match BI n es 0 with
  |some (i,e)=>.ok dU (fR h b (.map (tN es i ⟨e.key,v,e.born⟩) a8))
  |none=>.bad)
 |none=>.bad
def JY (kt:TypeId) (h:H) (b:Id) (k:V):VH:=
 match kH h b with
 |some (es,a8)=>(match qY P kt h k es with
  |some (some (i,_))=>.ok dU (fR h b (.map (xZ es i) a8))
  |some none=>.ok dU (fR h b (.map es a8))
  |none=>.bad)
 |none=>.bad
def OR (seen:List Nat) (es:List Ent):List Ent:=es.filter fun e=>!seen.any (Nat.beq e.born)
def JP (h:H) (b:Id):VH:=
 match aB b h.mem with
 | some (.siter l c pos)=>bif Nat.ble (Nat.succ pos) l then
   (bif Nat.ble (Nat.succ ((c>>>(8*pos))%256)) 128 then
    .ok (.tup [.b true,.i .i64 (.ofNat pos),.i .i32 (.ofNat ((c>>>(8*pos))%256))]) (fR h b (.siter l c (pos+1))) else .bad)
   else .ok (.tup [.b false]) h
 |_=>.bad
def JQ (h:H) (b:Id):VH:=
 match aB b h.mem with
 |some (.miter m b0 seen last)=>(match kH h m with
  | some (es,a8)=>bif !seen.isEmpty&& !es.isEmpty&&es.all (fun e=>Nat.ble last e.born) then .bad else
    (
     match OR seen es with
     | []=>.ok (.tup [.b false]) h
     | [e]=>bif Nat.ble (Nat.succ e.born) b0 then .ok (.tup [.b true,e.key,e.val]) (fR h b (.miter m b0 (seen++ [e.born]) a8)) else .bad
     |_=>.bad)
  |none=>.bad)
 |_=>.bad
def fN:HOp:=⟨fun _ _ _=>.bad⟩
def FH (h:H) (sz:Nat) (dst:V) (src:Option (List (List V))):VH:=
 match src,dst with
 |some src,.sl b o len z=>(match aB b h.mem with
  | some (.cells a9 els f (.rw ty))=>bif Nat.beq a9 sz&&(Nat.beq z sz&&Nat.beq (Nat.mod o sz) 0) then
    (
     match rY (min len (pD src)) src with
     | some xs=>(match jY (Nat.div o sz) els xs with
       |some els'=>.ok (.i .i64 (.ofNat (min len (pD src)))) (fR (iS h f b) b (.cells a9 els' f (.rw ty)))
       |none=>.bad)
     |none=>.bad) else .bad
  |_=>.bad)
 |some _,.sn=>.ok (.i .i64 0) h
 |some _,.se=>.ok (.i .i64 0) h
 |_,_=>.bad
def LZ (h:H) (sz:Nat) (z:List V) (x:V):VH:=
 match x with
 | .sl b o len zz=>(match aB b h.mem with
  | some (.cells a9 els f (.rw ty))=>bif Nat.beq a9 sz&&(Nat.beq zz sz&&Nat.beq (Nat.mod o sz) 0) then
    (
     match jY (Nat.div o sz) els (kY z len) with
     |some els'=>.ok dU (fR (iS h f b) b (.cells a9 els' f (.rw ty)))
     |none=>.bad) else .bad
  |_=>.bad)
 | .sn=>.ok dU h
 | .se=>.ok dU h
 |_=>.bad
def vhO (h:H) (x:Option V):VH:=match x with|some v=>.ok v h|none=>.bad
def appC (t t2:TypeId) (x y:Operand):HOp:=
 match P.underlying t,P.underlying t2 with
 |some (.slice _),some (.int _)=>fN
 | some (.slice el),some _=>(match cF P el,iF P el with
   |some (sz+1),some z=>(match fM z,P.info? el with
    |some zc,some inf=>bif Nat.ble inf.bytes 1000000&&Nat.beq (fW zc) (sz+1) then
        ⟨fun _ e h=>match rC h (sz+1) ((aD y).run e) with
         |some new=>MZ el h (sz+1) ((aD x).run e) new
         |none=>.bad⟩ else fN
    |_,_=>fN)
   |_,_=>fN)
 |_,_=>fN
def copyC (t:TypeId) (x y:Operand):HOp:=
 match P.underlying t with
 | some (.slice el)=>(match cF P el with
   |some (sz+1)=>⟨fun _ e h=>FH h (sz+1) ((aD x).run e) (rC h (sz+1) ((aD y).run e))⟩
   |_=>fN)
 |_=>fN
def WW (t:TypeId) (x:Operand):HOp:=
 match P.underlying t with
 | some (.slice el)=>(match cF P el,iF P el with
   |some (sz+1),some z=>(match fM z with
    |some zc=>bif Nat.beq (fW zc) (sz+1) then⟨fun _ e h=>LZ h (sz+1) zc ((aD x).run e)⟩ else fN
    |none=>fN)
   |_,_=>fN)
 |_=>fN
def delC (t:TypeId) (x k:Operand):HOp:=
 match P.underlying t with
 |some (.map kt _)=>⟨fun _ e h=>rJ ((aD x).run e) (fun b=>JY P kt h b ((aD k).run e)) .bad⟩
 |_=>fN
def HN (el:Nat) (h:H) (x:V) (n:Nat):VH:=
 match n with
 |0=>(match x with| .pn=>.ok (.s 0 0) h| .p _ _=>.ok (.s 0 0) h|_=>.bad)
 | n + 1=>kJ x (fun b o=>match aB b h.mem with
  | some (.cells sz els f ro)=>(match ro.tyOf with
   | some ty=>bif Nat.beq sz 1&&(Nat.beq ty el&&Nat.ble n 1000000) then
    (
     match rY (n+1) (AY o els) with
     | some l=>(match wB l with
       |some bs=>.ok (wX bs) (fR (iS h f b) b (.cells sz els f (.fr ty)))
       |none=>.bad)
     |none=>.bad) else .bad
   |none=>.bad)
  |_=>.bad) .bad
def ustrC (t:TypeId) (x n:Operand):HOp:=
 match P.underlying t with
 |some (.pointer el)=>(match cF P el with
  |some 1=>⟨fun _ e h=>match (aD n).run e with| .i .i64 (.ofNat n)=>HN el h ((aD x).run e) n|_=>.bad⟩
  |_=>fN)
 |_=>fN
def MI (c:Call):HOp:=
 match c.callee,c.args.toList,c.argTypes.toList with
 | .value f,as,_=>⟨fun call e h=>MX ((aD f).run e) (fun g first cap=>match g with
   | .func n=>call n (appV first (appV ((sH as).run e) cap)) h
   |_=>.bad) .bad⟩
 | .builtin .append,[x,y],t::t2::_=>appC P t t2 x y
 | .builtin .copy,[x,y],t::_=>copyC P t x y
 | .builtin .clear,[x],t::_=>WW P t x
 | .builtin .delete,[x,k],t::_=>delC P t x k
 | .builtin .unsafeString,[x,n],t::_::_=>ustrC P t x n
 |_,_,_=>fN
def uI:Op→HOp
 | .alloc t=>(match iF P t with
  |some z=>(match fM z with
   |some c=>⟨fun _ _ h=>oY t h (fW c) [c] (fun i=>.p i 0)⟩
   |none=>fN)
  |none=>fN)
 | .box t x=>⟨fun _ e h=>Option.rec (motive:=fun _=>VH) .bad (fun c=>oY t h (fW c) [c] (fun i=>.p i 0)) (fM ((aD x).run e))⟩
 | .buildSlice t len ps=>(match P.underlying t with
  | some (.slice el)=>(match cF P el,iF P el with
   |some (sz+1),some z=>(match fM z with
    |some zc=>bif Nat.ble (len*(sz+1)) 16777216&&Nat.beq (fW zc) (sz+1) then
        ⟨fun _ e h=>match lF (fun i=>some (i*(sz+1),sz+1)) ((kY zc len).flatten) ((oW ps.toList).run e) with
         |some cs=>oY el h (sz+1) (rF (sz+1) len cs) (fun i=>.sl i 0 len (sz+1))
         |none=>.bad⟩ else fN
    |none=>fN)
   |_,_=>fN)
  |_=>fN)
 | .makeSlice t l c=>(match P.underlying t with
  | some (.slice el)=>(match cF P el,iF P el with
   |some (sz+1),some z=>(match fM z,P.info? el with
    |some zc,some inf=>bif Nat.ble inf.bytes 1000000&&Nat.beq (fW zc) (sz+1) then
        ⟨fun _ e h=>jB ((aD l).run e) (fun _ n=>jB ((aD c).run e) (fun _ m=>match n,m with
         | .ofNat n,.ofNat m=>bif Nat.ble n m&&Nat.ble m 100000 then oY el h (sz+1) (kY zc m) (fun i=>.sl i 0 n (sz+1)) else .bad
         |_,_=>.bad) .bad) .bad⟩ else fN
    |_,_=>fN)
   |_,_=>fN)
  |_=>fN)
 | .makeMap _ none=>⟨fun _ _ h=>qT h (fun _=>.map [] 0) (fun i=>.mp i)⟩
 | .makeMap t (some x)=>(match P.underlying t with
  |some (.map _ _)=>⟨fun _ e h=>jB ((aD x).run e) (fun _ _=>qT h (fun _=>.map [] 0) (fun i=>.mp i)) .bad⟩
  |_=>fN)
 | .mapUpdate t m k v=>(match P.underlying t with
  |some (.map kt _)=>⟨fun _ e h=>rJ ((aD m).run e) (fun b=>DX P kt h b ((aD k).run e) ((aD v).run e)) .bad⟩
  |_=>fN)
 | .insert t m k v=>(match P.underlying t with
  |some (.map kt _)=>⟨fun _ e h=>rJ ((aD m).run e) (fun b=>DX P kt h b ((aD k).run e) ((aD v).run e)) .bad⟩
  |_=>fN)
 | .mapEntry t m k=>(match P.underlying t with
  |some (.map kt et)=>(match iF P et with
   |some z=>⟨fun _ e h=>rJ ((aD m).run e) (fun b=>JX P kt z h b ((aD k).run e)) .bad⟩
   |none=>fN)
  |_=>fN)
 | .entryStore _ m s v=>⟨fun _ e h=>rJ ((aD m).run e) (fun b=>jB ((aD s).run e) (fun _ n=>match n with| .ofNat n=>LK h b n ((aD v).run e)|_=>.bad) .bad) .bad⟩
 | .store t a x=>(match cF P t with
  |some n=>⟨fun _ e h=>kJ ((aD a).run e) (fun b o=>Option.rec (motive:=fun _=>VH) .bad (fun c=>fL (Nat.beq (fW c) n) (wr h b o c n) .bad) (fM ((aD x).run e))) .bad⟩
  |none=>fN)
 | .convert s d x=>(match P.underlying s,P.underlying d with
  |some .string,some (.slice el)=>(match P.underlying el with
   |some (.int .u8)=>⟨fun _ e h=>pZ ((aD x).run e) (fun l c=>oY el h 1 (nJ (bytesOf l c)) (fun i=>.sl i 0 l 1)) .bad⟩
   |_=>fN)
  |some (.slice el),some .string=>(match P.underlying el with
   |some (.int .u8)=>⟨fun _ e h=>HQ h ((aD x).run e)⟩
   |_=>fN)
  |_,_=>fN)
 | .range t x=>(match P.underlying t with
  |some .string=>⟨fun _ e h=>pZ ((aD x).run e) (fun l c=>qT h (fun _=>.siter l c 0) (fun i=>.p i 0)) .bad⟩
  | some (.map _ _)=>⟨fun _ e h=>rJ ((aD x).run e) (fun b=>match kH h b with
    |some (_,a8)=>qT h (fun _=>.miter b a8 [] a8) (fun i=>.p i 0)
    |none=>.bad) .bad⟩
  |_=>fN)
 | .next x true=>⟨fun _ e h=>kJ ((aD x).run e) (fun b o=>fL (Nat.beq o 0) (JP h b) .bad) .bad⟩
 | .next x false=>⟨fun _ e h=>kJ ((aD x).run e) (fun b o=>fL (Nat.beq o 0) (JQ h b) .bad) .bad⟩
 | .call c=>MI P c
 |_=>fN
def isHeavy:Op→Bool
 | .alloc _| .box .. | .buildSlice .. | .makeSlice .. | .makeMap .. | .mapUpdate .. | .insert .. | .store .. | .range .. | .next .. | .mapEntry .. | .entryStore ..=>true
 | .call { callee:=.builtin .len,.. }| .call { callee:=.builtin .cap,.. }| .call { callee:=.builtin .max,.. }| .call { callee:=.builtin .min,.. }| .call { callee:=.builtin .unsafeSliceData,.. }=>false
 | .call _=>true
 | .convert s d _=>match P.underlying s,P.underlying d with
  |some .string,some (.slice _)=>true
  |some (.slice _),some .string=>true
  |_,_=>false
 |_=>false
structure SOp where
 run:dQ→Env→H→Rs
structure COd where
 run:dQ→Env→H→CR
def doH (call:dQ) (e:Env) (dst:Nat) (r:VH):Rs:=VH.rec (motive:=fun _=>Rs) .bad (fun v h=>.ok (lS dst v e) h) r
def doH0 (e:Env) (r:VH):Rs:=VH.rec (motive:=fun _=>Rs) .bad (fun _ h=>.ok e h) r
def doL (e:Env) (h:H) (dst:Nat) (r:Option V):Rs:=Option.rec (motive:=fun _=>Rs) .bad (fun v=>.ok (lS dst v e) h) r
def doL0 (e:Env) (h:H) (r:Option V):Rs:=Option.rec (motive:=fun _=>Rs) .bad (fun _=>.ok e h) r
def iY:Nat:=511
def FR (o:Oper):SOp:=
 match o.op with
 | .defer { callee:=.value f,args:=⟨[]⟩,.. }=>(match o.dst with
  |some _=>⟨fun _ _ _=>.bad⟩
  |none=>⟨fun _ e h=>match (aD f).run e,dD iY e with
   | .fn g a b,.tup l=>.ok (lS iY (.tup (.fn g a b::l)) e) h
   |_,_=>.bad⟩)
 |_=>match isHeavy P o.op,o.dst with
  |true,some d=>⟨fun call e h=>doH call e d ((uI P o.op).run call e h)⟩
  |true,none=>⟨fun call e h=>doH0 e ((uI P o.op).run call e h)⟩
  |false,some d=>⟨fun _ e h=>doL e h d ((sO P o.op).run e h)⟩
  |false,none=>⟨fun _ e h=>doL0 e h ((sO P o.op).run e h)⟩
def nY:List Oper→Nat→Option Oper
 | [],_=>none
 |a::_,0=>some a
 |_::l,n+1=>nY l n
def CV (d:Option Nat) (e:Env):Env:=match d with|some d=>lS d dU e|none=>e
def UD (v:V) (x:Rs):Rs:=match v with| .tup []=>x|_=>.bad
def zQ (ops:List Oper) (o:Oper):SOp:=
 match o.guard with
 |none=>FR P o
 |some (j,want)=>match (nY ops j).bind (·.dst) with
  |none=>⟨fun _ e h=>.ok (CV o.dst e) h⟩
  |some g=>⟨fun call e h=>wH (dD g e) (fun b=>fL (b==want) ((FR P o).run call e h) (.ok (CV o.dst e) h)) (UD (dD g e) (.ok (CV o.dst e) h))⟩
def oR (ops:List Oper):List Oper→SOp
 | []=>⟨fun _ e h=>.ok e h⟩
 |o::l=>⟨fun call e h=>Rs.rec (motive:=fun _=>Rs) .bad (fun e h=>(oR ops l).run call e h) ((zQ P ops o).run call e h)⟩
def kS (e:Edge):Bool:=match e.ground with| .textOnly _| .gcOnly _=>false|_=>true
def natAt:List Nat→Nat→Nat
 | [],_=>0
 |a::_,0=>a
 |_::l,n+1=>natAt l n
def sN (b2:List Nat):List Edge→Nat
 | []=>0
 |e::l=>bif kS e then(1<<<e.on)|||(natAt b2 e.on|||sN b2 l) else sN b2 l
def aO (b2:List Nat):List Oper→List Nat
 | []=>b2
 |o::l=>aO (b2++ [sN b2 o.after.toList]) l
def isNew:Op→Bool
 | .alloc _| .box .. | .buildSlice .. | .makeSlice .. | .makeMap ..=>true
 | .convert s d _=>match P.underlying s,P.underlying d with
  |some .string,some (.slice _)=>true
  |_,_=>false
 |_=>false
def mU:Nat→List Oper→List (Nat × Oper)
 |_,[]=>[]
 |i,o::l=>(i,o)::mU (i+1) l
def jQ {α:Type} (p:α→Bool):List α→List α
 | []=>[]
 |a::l=>bif p a then a::jQ p l else jQ p l
def sL (n:Nat):List Nat→Bool
 | []=>false
 |a::l=>bif Nat.beq a n then true else sL n l
def DY (body:Env→H→CR) (n:Nat):Env→H→CR:=
 Nat.rec (motive:=fun _=>Env→H→CR) (fun _ _=>.bad)
  (fun _ ih e h=>CR.rec (motive:=fun _=>CR) .bad (fun e h=>ih e h) (fun i e h=>.ext i e h) (fun e h=>.ret e h) (body e h)) n
def sC (i:Nat):List V→Env→Env
 | [],e=>e
 |v::l,e=>sC (i+1) l (lS i v e)
structure ROp where
 run:Env→H→Option V
structure ROps where
 run:Env→H→Option (List V)
def vH:ResultVar→ROp
 | .tmp t=>⟨fun e _=>some (dD t e)⟩
 | .cell a t=>match gX P t,cF P t with
  |true,some n=>⟨fun e h=>kJ (dD a e) (fun b o=>qB (rd h b o n)) none⟩
  |false,some _=>⟨fun e h=>kJ (dD a e) (fun b o=>rd1 h b o) none⟩
  |_,_=>⟨fun _ _=>none⟩
def mX:List ResultVar→ROps
 | []=>⟨fun _ _=>some []⟩
 |r::l=>⟨fun e h=>match (vH P r).run e h,(mX l).run e h with|some v,some vs=>some (v::vs)|_,_=>none⟩
def tQ (rs:List ResultVar):ROp:=
 match rs with
 | [r]=>vH P r
 |rs=>⟨fun e h=>match (mX P rs).run e h with|some vs=>some (.tup vs)|none=>none⟩
structure FOp where
 run:dQ→List V→H→VH
def rI:FOp:=⟨fun _ _ _=>.bad⟩
def VH.isTrue:VH→Bool| .ok (.b true) _=>true|_=>false
end
variable {h' hh:H}
instance:DecidableEq D8:=fun a b=>by
 cases a<;>cases b<;>first|exact .isTrue rfl|exact .isFalse (fun h=>by cases h)
def sm8 {α:Type} (d:D8) (k) (n:N8 α):jW d (mI d k n)=k (jW d n):=by cases d<;>cases n<;>rfl
def sn8 {α:Type} {d d':D8} (h:d≠d') (k) (n:N8 α):jW d (mI d' k n)=jW d n:=by cases d<;>cases d'<;>cases n<;>first|rfl|exact absurd rfl h
def LR:∀x,x<8→∀y,y<8→dg x=dg y→x=y:=by decide
def xX (t:Nat) (v:V) (e:Env):dD t (lS t v e)=v:=by
 simp [dD,lS,sm8]
def uL {t t':Nat} (ht:t<512) (a0:t'<512) (h:t≠t') (v:V) (e:Env):dD t (lS t' v e)=dD t e:=by
 unfold dD lS
 by_cases h1:dg (t/64)=dg (t'/64)
 ·rw [h1,sm8]
  by_cases h2:dg (t/8%8)=dg (t'/8%8)
  ·rw [h2,sm8];have h3:dg (t%8)≠dg (t'%8):=fun h3=>h (by
    have a:=LR _ (by omega) _ (by omega) h1;have b:=LR _ (by omega) _ (by omega) h2;have c:=LR _ (by omega) _ (by omega) h3;omega)
   rw [sn8 h3]
  ·rw [sn8 h2]
 ·rw [sn8 h1]
def iA (i:Id) (x:Option O) (m:Mem):aB i (fU i x m)=x:=by
 cases i;simp [aB,fU,sm8]
def gN {i j:Id} (h:i≠j) (x:Option O) (m:Mem):aB i (fU j x m)=aB i m:=by
 obtain⟨a,b,c,d,e⟩:=i;obtain⟨a',b',c',d',e'⟩:=j;simp only [aB,fU]
 by_cases ha:a=a'
 ·subst ha;rw [sm8]
  by_cases hb:b=b'
  ·subst hb;rw [sm8]
   by_cases hc:c=c'
   ·subst hc;rw [sm8]
    by_cases hd:d=d'
    ·subst hd;rw [sm8]
     by_cases he:e=e'
     ·subst he;exact absurd rfl h
     ·rw [sn8 he]
    ·rw [sn8 hd]
   ·rw [sn8 hc]
  ·rw [sn8 hb]
 ·rw [sn8 ha]
def qZ (i:Id) (x:List Id) (m:Fam):bR i (jR i x m)=x:=by
 cases i;simp [bR,jR,sm8]
def mL {i j:Id} (h:i≠j) (x:List Id) (m:Fam):bR i (jR j x m)=bR i m:=by
 obtain⟨a,b,c,d,e⟩:=i;obtain⟨a',b',c',d',e'⟩:=j;simp only [bR,jR]
 by_cases ha:a=a'
 ·subst ha;rw [sm8]
  by_cases hb:b=b'
  ·subst hb;rw [sm8]
   by_cases hc:c=c'
   ·subst hc;rw [sm8]
    by_cases hd:d=d'
    ·subst hd;rw [sm8]
     by_cases he:e=e'
     ·subst he;exact absurd rfl h
     ·rw [sn8 he]
    ·rw [sn8 hd]
   ·rw [sn8 hc]
  ·rw [sn8 hb]
 ·rw [sn8 ha]
def D8.toNat_lt (d:D8):d.toNat<8:=by cases d<;>decide
def D8.toNat_inj {a b:D8} (h:a.toNat=b.toNat):a=b:=by cases a<;>cases b<;>first|rfl|(simp [D8.toNat] at h)
def D8.beq_iff {a b:D8}:D8.beq a b=true↔a=b:=by
 constructor
 ·intro h;exact D8.toNat_inj (bG h)
 ·rintro rfl;exact Ai _
def Id.beq_iff {i j:Id}:Id.beq i j=true↔i=j:=by
 obtain⟨a,b,c,d,e⟩:=i;obtain⟨a',b',c',d',e'⟩:=j;simp only [Id.beq,aR,D8.beq_iff,Id.mk.injEq];constructor
 ·rintro⟨h1,h2,h3,h4,h5⟩;exact⟨h5,h4,h3,h2,h1⟩
 ·rintro⟨h1,h2,h3,h4,h5⟩;exact⟨h5,h4,h3,h2,h1⟩
def Id.toNat_inj {i j:Id} (h:i.toNat=j.toNat):i=j:=by
 obtain⟨a,b,c,d,e⟩:=i;obtain⟨a',b',c',d',e'⟩:=j;simp only [Id.toNat] at h;have:=a.toNat_lt;have:=b.toNat_lt;have:=c.toNat_lt;have:=d.toNat_lt;have:=e.toNat_lt;have:=a'.toNat_lt;have:=b'.toNat_lt;have:=c'.toNat_lt;have:=d'.toNat_lt;have:=e'.toNat_lt;have e1:e.toNat=e'.toNat:=by omega
 have e2:d.toNat=d'.toNat:=by omega
 have e3:c.toNat=c'.toNat:=by omega
 have e4:b.toNat=b'.toNat:=by omega
 have e5:a.toNat=a'.toNat:=by omega
 rw [D8.toNat_inj e1,D8.toNat_inj e2,D8.toNat_inj e3,D8.toNat_inj e4,D8.toNat_inj e5]
def D8.nextd_false {d d':D8} (h:d.nextd=(false,d')):d'.toNat=d.toNat+1:=by cases d<;>simp [D8.nextd] at h<;>subst h<;>rfl
def D8.nextd_true {d d':D8} (h:d.nextd=(true,d')):d.toNat=7∧d'.toNat=0:=by cases d<;>simp [D8.nextd] at h;subst h;exact⟨rfl,rfl⟩
def Id.succ_toNat {i j:Id} (h:i.succ=some j):j.toNat=i.toNat+1:=by
 obtain⟨a,b,c,d,e⟩:=i;simp only [Id.succ] at h
 repeat' split at h
 all_goals first
  |(cases h;done)
  |skip
 all_goals
  obtain rfl:=bP h;simp only [Id.toNat]
 ·have:=D8.nextd_false (by assumption);omega
 ·have h1:=D8.nextd_true (d:=e) (by assumption);have:=D8.nextd_false (d:=d) (by assumption);omega
 ·have h1:=D8.nextd_true (d:=e) (by assumption);have h2:=D8.nextd_true (d:=d) (by assumption);have:=D8.nextd_false (d:=c) (by assumption);omega
 ·have h1:=D8.nextd_true (d:=e) (by assumption);have h2:=D8.nextd_true (d:=d) (by assumption);have h3:=D8.nextd_true (d:=c) (by assumption);have:=D8.nextd_false (d:=b) (by assumption);omega
 ·have h1:=D8.nextd_true (d:=e) (by assumption);have h2:=D8.nextd_true (d:=d) (by assumption);have h3:=D8.nextd_true (d:=c) (by assumption);have h4:=D8.nextd_true (d:=b) (by assumption);have:=D8.nextd_false (d:=a) (by assumption);omega
structure Loc where
 blk:Nat
 base:Nat
 lim:Nat
abbrev Mp:=Id→Option Loc
def Mp.le (m m':Mp):Prop:=∀i l,m i=some l→m' i=some l
def Mp.le_refl (m:Mp):m.le m:=fun _ _ h=>h
def Mp.le_trans {a b c:Mp} (h:a.le b) (k:b.le c):a.le c:=fun i l x=>k i l (h i l x)
def fI:Value→Prop
 | .agg _=>False
 | .tuple _=>False
 |_=>True
mutual
def R (m:Mp):V→Value→Prop
 | .top,_=>True
 | .b x,u=>u= .bool x
 | .i k n,u=>u= .int k n
 | .s len code,u=>∃s:ByteArray,u= .string s∧s.data.toList.map UInt8.toNat=bytesOf len code∧code<256^len
 | .pn,u=>u= .pointer none
 | .p b o,u=>∃l,m b=some l∧u= .pointer (some ⟨l.blk,l.base+o,none⟩)
 | .sn,u=>u= .slice none 0 0
 | .sl b o len sz,u=>∃l cap,m b=some l∧u= .slice (some ⟨l.blk,l.base+o,none⟩) len cap∧len≤cap∧o+cap*sz≤l.lim
 | .se,u=>∃a cap,u= .slice (some a) 0 cap
 | .mn,u=>u= .map none
 | .mp b,u=>∃l,m b=some l∧u= .map (some l.blk)
 | .fn f a c,u=>∃a' c',u= .func f ⟨a'⟩ ⟨c'⟩∧Rl m a a'∧Rl m c c'
 | .nf,u=>u= .nilFunc
 | .ifc t v,u=>∃v',u= .iface t v'∧R m v v'
 | .ni,u=>u= .nilIface
 | .agg l,u=>∃l',u= .agg ⟨l'⟩∧Rl m l l'∧∀x∈l',fI x
 | .tup l,u=>∃l',u= .tuple ⟨l'⟩∧Rl m l l'
def Rl (m:Mp):List V→Lv→Prop
 | [],l=>l= []
 |v::vs,l=>∃u us,l=u::us∧R m v u∧Rl m vs us
end
mutual
theorem R.mono {m m':Mp} (h:m.le m'):∀{v:V} {u:Value},R m v u→R m' v u
 | .top,_,_=>by simp [R]
 | .b x,_,k=>by simpa [R] using k
 | .i _ _,_,k=>by simpa [R] using k
 | .s _ _,_,k=>by simpa [R] using k
 | .pn,_,k=>by simpa [R] using k
 | .p b o,_,k=>by
  simp only [R] at k ⊢;obtain⟨l,hl,hu⟩:=k;exact⟨l,h _ _ hl,hu⟩
 | .sn,_,k=>by simpa [R] using k
 | .sl b o len sz,_,k=>by
  simp only [R] at k ⊢;obtain⟨l,cap,hl,hu⟩:=k;exact⟨l,cap,h _ _ hl,hu⟩
 | .se,_,k=>by simpa [R] using k
 | .mn,_,k=>by simpa [R] using k
 | .mp b,_,k=>by
  simp only [R] at k ⊢;obtain⟨l,hl,hu⟩:=k;exact⟨l,h _ _ hl,hu⟩
 | .fn f a c,_,k=>by
  simp only [R] at k ⊢;obtain⟨a',c',hu,ha,hc⟩:=k;exact⟨a',c',hu,Rl.mono h ha,Rl.mono h hc⟩
 | .nf,_,k=>by simpa [R] using k
 | .ifc t v,_,k=>by
  simp only [R] at k ⊢;obtain⟨v',hu,hv⟩:=k;exact⟨v',hu,R.mono h hv⟩
 | .ni,_,k=>by simpa [R] using k
 | .agg l,_,k=>by
  simp only [R] at k ⊢;obtain⟨l',hu,hl,hs⟩:=k;exact⟨l',hu,Rl.mono h hl,hs⟩
 | .tup l,_,k=>by
  simp only [R] at k ⊢;obtain⟨l',hu,hl⟩:=k;exact⟨l',hu,Rl.mono h hl⟩
theorem Rl.mono {m m':Mp} (h:m.le m'):∀{l:List V} {us:Lv},Rl m l us→Rl m' l us
 | [],_,k=>by simpa [Rl] using k
 |v::l,_,k=>by
  simp only [Rl] at k ⊢;obtain⟨u,us,rfl,hv,hl⟩:=k;exact⟨u,us,rfl,R.mono h hv,Rl.mono h hl⟩
end
def Rl.length {m:Mp}:∀{l:List V} {us:Lv},Rl m l us→us.length=l.length
 | [],_,k=>by simp only [Rl] at k;subst k;rfl
 |v::l,_,k=>by simp only [Rl] at k;obtain⟨u,us,rfl,_,hl⟩:=k;simp [Rl.length hl]
def Rl.get {m:Mp}:∀{l:List V} {us:Lv},Rl m l us→∀{i:Nat} {v:V},l[i]?=some v→∃u,us[i]?=some u∧R m v u
 | [],_,_,i,v,h=>by simp at h
 |w::l,_,k,i,v,h=>by
  simp only [Rl] at k;obtain⟨u,us,rfl,hv,hl⟩:=k;cases i with
  |zero=>simp at h;subst h;exact⟨u,rfl,hv⟩
  |succ i=>simp at h ⊢;exact Rl.get hl h
def Rl.mk {m:Mp}:∀{l:List V} {us:Lv},us.length=l.length→(∀(i:Nat) v u,l[i]?=some v→us[i]?=some u→R m v u)→Rl m l us
 | [],us,hl,_=>by simp only [Rl];exact mE (by simpa using hl)
 |v::l,[],hl,_=>by simp at hl
 |v::l,u::us,hl,h=>by
  simp only [Rl];exact⟨u,us,rfl,h 0 v u rfl rfl,Rl.mk (by simpa using hl) (fun i v u a b=>h (i+1) v u (by simpa using a) (by simpa using b))⟩
def Rl.append {m:Mp}:∀{l l':List V} {us a1:Lv},Rl m l us→Rl m l' a1→Rl m (l++l') (us++a1)
 | [],_,_,_,k,k'=>by simp only [Rl] at k;subst k;simpa using k'
 |v::l,_,_,_,k,k'=>by
  simp only [Rl] at k;obtain⟨u,us,rfl,hv,hl⟩:=k;simp only [mF,Rl];exact⟨u,_,rfl,hv,Rl.append hl k'⟩
def Rl.take {m:Mp} {l:List V} (h:Rl m l us) (n:Nat):Rl m (l.take n) (us.take n):=
 Rl.mk (by simp [h.length]) (fun i v u a b=>by
  rw [yT] at a b;split at a
  ·rename_i a2;rw [if_pos a2] at b;obtain⟨u',hu',hr⟩:=h.get a;rw [hu'] at b;cases b;exact hr
  ·cases a)
def Rl.drop {m:Mp} {l:List V} (h:Rl m l us) (n:Nat):Rl m (l.drop n) (us.drop n):=
 Rl.mk (by simp [h.length]) (fun i v u a b=>by
  rw [mC] at a b;obtain⟨u',hu',hr⟩:=h.get a;rw [hu'] at b;cases b;exact hr)
def BG {m:Mp} {v:V} {l:List V} (h:R m v u) (hc:fM v=some l):
  ∃l',u.cells=⟨l'⟩∧Rl m l l'∧∀x∈l',fI x:=by
 cases v<;>simp only [fM,dW,reduceCtorEq] at hc
 case agg l0=>
  subst hc;simp only [R] at h;obtain⟨l',rfl,hl,hs⟩:=h;exact⟨l',rfl,hl,hs⟩
 all_goals
  subst hc;have a0:fI u:=by
   simp only [R] at h
   first
    |(subst h;trivial)
    |(obtain⟨_,rfl,_⟩:=h;trivial)
    |(obtain⟨_,_,rfl⟩:=h;trivial)
    |(obtain⟨_,_,_,rfl,_⟩:=h;trivial)
    |(obtain⟨_,_,rfl,_⟩:=h;trivial)
  have hu:u.cells=⟨[u]⟩:=by cases u<;>first|rfl|exact a0.elim
  exact⟨[u],hu,by simp only [Rl];exact⟨u,[],rfl,h,rfl⟩,by simpa using a0⟩
variable {m m':Mp}
instance:DecidableEq Id:=fun i j=>if h:Id.beq i j=true then .isTrue (Id.beq_iff.1 h) else .isFalse (fun e=>h (Id.beq_iff.2 e))
def eU (s:ByteArray):List Nat:=s.data.toList.map UInt8.toNat
def EntR (m:Mp) (e:Ent) (x:MapEntry):Prop:=R m e.key x.key∧R m e.val x.val∧x.born=e.born
def cR (m:Mp):List Ent→List MapEntry→Prop
 | [],l=>l= []
 |e::es,l=>∃x xs,l=x::xs∧EntR m e x∧cR m es xs
def EntR.mono (h:m.le m') {e:Ent} {x:MapEntry} (k:EntR m e x):EntR m' e x:=⟨k.1.mono h,k.2.1.mono h,k.2.2⟩
def cR.mono {m m':Mp} (h:m.le m'):∀{es:List Ent} {xs:List MapEntry},cR m es xs→cR m' es xs
 | [],_,k=>k
 |e::es,_,k=>by obtain⟨x,xs,rfl,hx,hxs⟩:=k;exact⟨x,xs,rfl,hx.mono h,cR.mono h hxs⟩
structure CellsAt (m:Mp) (w:Wo) (l:Loc) (sz:Nat) (els:List (List V)) (ro:Rw) (C:Array Value) (t:TypeId) (fz:Nat × Nat):Prop where
 at_:w.heap[l.blk]?=some (.cells C t fz)
 room:l.base+l.lim≤C.size
 len:els.flatten.length≤l.lim
 each:∀el∈els,el.length=sz
 val:∀(i:Nat) v,els.flatten[i]?=some v→∃u,C[l.base+i]?=some u∧R m v u∧fI u
 free:ro.isW=true→∀i,i<l.lim→¬(fz.1≤l.base+i∧l.base+i<fz.2)
 plain:ro.isW=true→sz≠1→fz.1=fz.2
 typ:∀ty,ro.tyOf=some ty→t=ty
 al:l.base%sz=0
def ObjAt (m:Mp) (w:Wo) (l:Loc):O→Prop
 | .cells sz els _ ro=>∃C t fz,CellsAt m w l sz els ro C t fz
 | .map es clock=>∃es',w.heap[l.blk]?=some (.map ⟨es'⟩ clock)∧cR m es es'
 | .siter len code pos=>l.base=0∧∃s,w.heap[l.blk]?=some (.stringIter s pos)∧eU s=bytesOf len code∧code<256^len
 | .miter mi since seen last=>l.base=0∧∃lm,m mi=some lm∧w.heap[l.blk]?=some (.mapIter (some lm.blk) since ⟨seen⟩ last)
def oN:O→Prop
 | .cells _ _ _ ro=>ro≠ .fz
 |_=>True
def QE:O→O→Prop
 | .cells _ _ f _,.cells _ _ f' _=>f=f'
 |_,_=>False
def EndLe (m:Mp) (mem:Mem) (x y:Id):Prop:=
 ∀sz els f ro b6 els' f' ro' l l',aB x mem=some (.cells sz els f ro)→aB y mem=some (.cells b6 els' f' ro')→m x=some l→m y=some l'→
  l.blk=l'.blk→l'.base+els'.flatten.length≤l.base+els.flatten.length
structure HR (m:Mp) (h:H) (w:Wo):Prop where
 obj:∀b ob,aB b h.mem=some ob→∃l,m b=some l∧ObjAt m w l ob
 dom:∀b l,m b=some l→b.toNat<h.next.toNat
 sep:∀b b' ob a2 l l',aB b h.mem=some ob→aB b' h.mem=some a2→m b=some l→m b'=some l'→b≠b'→l.blk=l'.blk→QE ob a2
 fam:∀b b' sz els f ro b6 els' ro',aB b h.mem=some (.cells sz els f ro)→aB b' h.mem=some (.cells b6 els' f ro')→b≠b'→b∈bR f h.fams
 ord:∀f,(bR f h.fams).Pairwise (EndLe m h.mem)
 lt:∀b l,m b=some l→l.blk<w.heap.size
 famlt:∀b sz els f ro,aB b h.mem=some (.cells sz els f ro)→f.toNat<h.next.toNat
 flt:∀f x,x∈bR f h.fams→x.toNat<h.next.toNat
def Wb (m:Mp) (h:H) (B:Nat):Prop:=∃b ob l,aB b h.mem=some ob∧m b=some l∧l.blk=B∧oN ob
structure Fr (m:Mp) (h:H) (w:Wo) (m':Mp) (h':H) (w':Wo):Prop where
 le:m.le m'
 hr:HR m' h' w'
 size:w.heap.size≤w'.heap.size
 keep:∀B,B<w.heap.size→¬Wb m h B→w'.heap[B]?=w.heap[B]?
 os:w'.os=w.os
 tape:w'.tape=w.tape
 output:w'.output=w.output
 back:∀b ob l,aB b h'.mem=some ob→m' b=some l→
  w.heap.size≤l.blk∨∃b0 c0 l0,aB b0 h.mem=some c0∧m b0=some l0∧l0.blk=l.blk∧(oN ob→oN c0)
 old:∀b l,m' b=some l→b.toNat<h.next.toNat→m b=some l
 nxt:h.next.toNat≤h'.next.toNat
 famold:∀b sz els f ro,aB b h'.mem=some (.cells sz els f ro)→h.next.toNat≤f.toNat∨∃b0 c8 b4 c6,aB b0 h.mem=some (.cells c8 b4 f c6)
def Fr.refl {h:H} (k:HR m h w):Fr m h w m h w:=
 ⟨m.le_refl,k,aA _,fun _ _ _=>rfl,rfl,rfl,rfl,fun b ob l hb hl=>.inr ⟨b,ob,l,hb,hl,rfl,id⟩,fun _ _ h _=>h,aA _,fun b sz els f ro hb=>.inr ⟨b,sz,els,ro,hb⟩⟩
def Fr.trans {m1 m2:Mp} {h h1 h2:H} {w1 w2:Wo} (a:Fr m h w m1 h1 w1) (b:Fr m1 h1 w1 m2 h2 w2):Fr m h w m2 h2 w2 where
 le:=Mp.le_trans a.le b.le
 hr:=b.hr
 size:=aE a.size b.size
 keep:=fun B hB hn=>(b.keep B (eE hB a.size) (by
  rintro⟨x,ob,l,hx,hl,rfl,hw⟩;rcases a.back x ob l hx hl with h'|⟨b0,c0,l0,h0,hl0,he,hw0⟩
  ·omega
  ·exact hn ⟨b0,c0,l0,h0,hl0,he,hw0 hw⟩)).trans (a.keep B hB hn)
 os:=b.os.trans a.os
 tape:=b.tape.trans a.tape
 output:=b.output.trans a.output
 back:=fun x ob l hx hl=>by
  rcases b.back x ob l hx hl with h'|⟨b0,c0,l0,h0,hl0,he,hw0⟩
  ·exact .inl (aE a.size h')
  ·rcases a.back b0 c0 l0 h0 hl0 with h'|⟨b1,c5,l1,h1,a3,he1,hw1⟩
   ·exact .inl (he▸h')
   ·exact .inr ⟨b1,c5,l1,h1,a3,he1.trans he,fun x=>hw1 (hw0 x)⟩
 old:=fun x l hx c1=>a.old x l (b.old x l hx (eE c1 a.nxt)) c1
 nxt:=aE a.nxt b.nxt
 famold:=fun x sz els f ro hx=>by
  rcases b.famold x sz els f ro hx with h'|⟨b0,c8,b4,c6,h0⟩
  ·exact .inl (aE a.nxt h')
  ·exact a.famold _ _ _ _ _ h0
def HR.drawn {h:H} (k:HR m h w) (n:Nat):HR m h { w with drawn:=n }:=
 ⟨fun b ob hb=>by
  obtain⟨l,hl,ho⟩:=k.obj b ob hb;refine⟨l,hl,?_⟩;cases ob with
  |cells sz els f ro=>obtain⟨C,t,fz,hc⟩:=ho;exact⟨C,t,fz,⟨hc.at_,hc.room,hc.len,hc.each,hc.val,hc.free,hc.plain,hc.typ,hc.al⟩⟩
  |map es clock=>exact ho
  |siter len code pos=>exact ho
  |miter mi since seen last=>exact ho,k.dom,k.sep,k.fam,k.ord,k.lt,k.famlt,k.flt⟩
def Fr.drawn {h:H} (k:HR m h w) (n:Nat):Fr m h w m h { w with drawn:=n }:=
 ⟨m.le_refl,k.drawn n,aA _,fun _ _ _=>rfl,rfl,rfl,rfl,fun b ob l hb hl=>.inr ⟨b,ob,l,hb,hl,rfl,id⟩,fun _ _ h _=>h,aA _,fun b sz els f ro hb=>.inr ⟨b,sz,els,ro,hb⟩⟩
def ObjAt.keep {l:Loc} {ob:O} (h:ObjAt m w l ob) (hm:m.le m') (hb:w'.heap[l.blk]?=w.heap[l.blk]?):ObjAt m' w' l ob:=by
 cases ob with
 |cells sz els f ro=>
  obtain⟨C,t,fz,hc⟩:=h;exact⟨C,t,fz,⟨hb.trans hc.at_,hc.room,hc.len,hc.each,fun i v hv=>by obtain⟨u,h1,h2,h3⟩:=hc.val i v hv;exact⟨u,h1,h2.mono hm,h3⟩,hc.free,hc.plain,hc.typ,hc.al⟩⟩
 |map es clock=>obtain⟨es',h1,h2⟩:=h;exact⟨es',hb.trans h1,h2.mono hm⟩
 |siter len code pos=>obtain⟨h0,s,h1,h2⟩:=h;exact⟨h0,s,hb.trans h1,h2⟩
 |miter mi since seen last=>obtain⟨h0,lm,h1,h2⟩:=h;exact⟨h0,lm,hm _ _ h1,hb.trans h2⟩
def AH (o:Obj) {B:Nat} (h:B<w.heap.size):(w.heap.push o)[B]?=w.heap[B]?:=by
 simp [lI,ZW h]
def Fr.new {h:H} (k:HR m h w) {nx:Id} (hn:h.next.succ=some nx) (o:Obj) (ob:O) (l:Loc) (hl:l.blk=w.heap.size)
  (hf:∀sz els f ro,ob= .cells sz els f ro→f=h.next) (hw:oN ob)
  (b8:∀m':Mp,m.le m'→∀w':Wo,w'.heap[w.heap.size]?=some o→ObjAt m' w' l ob):
  Fr m h w (fun b=>if b=h.next then some l else m b) ⟨fU h.next (some ob) h.mem,h.fams,nx⟩ { w with heap:=w.heap.push o }:=by
 have e0:m h.next=none:=by
  cases e:m h.next with
  |none=>rfl
  |some l'=>exact absurd (k.dom _ _ e) (uW _)
 have d2:m.le (fun b=>if b=h.next then some l else m b):=by
  intro b l' hb;have:b≠h.next:=fun e=>by rw [e,e0] at hb;cases hb
  simp [this,hb]
 have a0:∀b a2,aB b (fU h.next (some ob) h.mem)=some a2→(b=h.next∧a2=ob)∨(b≠h.next∧aB b h.mem=some a2):=by
  intro b a2 hb
  by_cases e:b=h.next
  ·subst e;rw [iA] at hb;exact .inl ⟨rfl,(bP hb).symm⟩
  ·rw [gN e] at hb;exact .inr ⟨e,hb⟩
 have e4:=Id.succ_toNat hn;refine⟨d2,⟨?_,?_,?_,?_,?_,?_,?_,fun f x hx=>by have:=k.flt f x hx;show x.toNat<nx.toNat;omega⟩,by simp,?_,rfl,rfl,rfl,?_,?_,by show h.next.toNat≤nx.toNat;omega,fun b sz els f ro hb=>by
  rcases a0 b _ hb with⟨rfl,e⟩|⟨_,hb1⟩
  ·exact .inl (by rw [hf _ _ _ _ e.symm];exact aA _)
  ·exact .inr ⟨b,sz,els,ro,hb1⟩⟩
 ·intro b a2 hb;rcases a0 b a2 hb with⟨rfl,rfl⟩|⟨a1,hb⟩
  ·exact⟨l,by simp,b8 _ d2 _ (by simp)⟩
  ·obtain⟨l',b7,ho⟩:=k.obj b a2 hb;exact⟨l',by simp [a1,b7],ho.keep d2 (AH o (k.lt _ _ b7))⟩
 ·intro b l' hb;show b.toNat<nx.toNat
  by_cases e:b=h.next
  ·subst e;omega
  ·simp [e] at hb;have:=k.dom _ _ hb;omega
 ·intro b b' c5 d6 l1 l2 hb c9 a3 a4 a1 a6;rcases a0 b c5 hb with⟨rfl,rfl⟩|⟨hn1,hb1⟩<;>rcases a0 b' d6 c9 with⟨rfl,rfl⟩|⟨hn2,hb2⟩
  ·exact absurd rfl a1
  ·simp at a3;simp [hn2] at a4;have:=k.lt _ _ a4;subst a3;omega
  ·simp at a4;simp [hn1] at a3;have:=k.lt _ _ a3;subst a4;omega
  ·simp [hn1] at a3;simp [hn2] at a4;exact k.sep b b' c5 d6 l1 l2 hb1 hb2 a3 a4 a1 a6
 ·intro b b' sz els f ro b6 els' ro' hb c9 a1;rcases a0 b _ hb with⟨rfl,e1⟩|⟨hn1,hb1⟩<;>rcases a0 b' _ c9 with⟨rfl,e2⟩|⟨hn2,hb2⟩
  ·exact absurd rfl a1
  ·have:=hf _ _ _ _ e1.symm;have:=k.famlt _ _ _ _ _ hb2;subst f;omega
  ·have:=hf _ _ _ _ e2.symm;have:=k.famlt _ _ _ _ _ hb1;subst f;omega
  ·exact k.fam b b' _ _ _ _ _ _ _ hb1 hb2 a1
 ·intro f;refine(k.ord f).imp ?_;intro x y d4 sz els f1 ro b6 els' f2 ro' l1 l2 hx hy a3 a4 a6;rcases a0 x _ hx with⟨rfl,e1⟩|⟨hn1,hb1⟩<;>rcases a0 y _ hy with⟨rfl,e2⟩|⟨hn2,hb2⟩
  ·rw [a3] at a4;cases a4;rw [←e1] at e2;cases e2;exact aA _
  ·simp at a3;simp [hn2] at a4;have:=k.lt _ _ a4;subst a3;omega
  ·simp at a4;simp [hn1] at a3;have:=k.lt _ _ a3;subst a4;omega
  ·simp [hn1] at a3;simp [hn2] at a4;exact d4 _ _ _ _ _ _ _ _ _ _ hb1 hb2 a3 a4 a6
 ·intro b l' hb
  by_cases e:b=h.next
  ·subst e;simp at hb;subst hb;simp [hl]
  ·simp [e] at hb;have:=k.lt _ _ hb;simp;omega
 ·intro b sz els f ro hb;show f.toNat<nx.toNat;rcases a0 b _ hb with⟨rfl,e1⟩|⟨hn1,hb1⟩
  ·have:=hf _ _ _ _ e1.symm;subst this;omega
  ·have:=k.famlt _ _ _ _ _ hb1;omega
 ·intro B hB _;exact AH o hB
 ·intro b a2 l' hb b7;rcases a0 b a2 hb with⟨rfl,rfl⟩|⟨a1,hb⟩
  ·simp at b7;subst b7;exact .inl (by omega)
  ·simp [a1] at b7;exact .inr ⟨b,a2,l',hb,b7,rfl,id⟩
 ·intro b l' hb c1;have:b≠h.next:=fun e=>by subst e;omega
  simpa [this] using hb
def Fr.upd {h:H} (k:HR m h w) {b:Id} {ob a2:O} {l:Loc} {mem':Mem} {a8:Fam} {o':Obj}
  (hb:aB b h.mem=some ob) (hl:m b=some l) (hw:oN ob)
  (sub:∀x ox,aB x mem'=some ox→aB x h.mem=some ox)
  (b2:∀x ox lx,x≠b→aB x mem'=some ox→m x=some lx→lx.blk≠l.blk)
  (d0:∀x y sz els f ro b6 els' ro',aB x (fU b (some a2) mem')=some (.cells sz els f ro)→aB y (fU b (some a2) mem')=some (.cells b6 els' f ro')→x≠y→x∈bR f a8)
  (d3:∀f,(bR f a8).Pairwise (EndLe m h.mem))
  (d8:∀sz els f ro,a2= .cells sz els f ro→f.toNat<h.next.toNat)
  (d9:∀sz els f ro,a2= .cells sz els f ro→∃b0 c8 b4 c6,aB b0 h.mem=some (.cells c8 b4 f c6))
  (d1:∀f x,x∈bR f a8→x.toNat<h.next.toNat)
  (b3:w'={ w with heap:=w.heap.setIfInBounds l.blk o' })
  (b8:w'.heap[l.blk]?=some o'→ObjAt m w' l a2):
  Fr m h w m ⟨fU b (some a2) mem',a8,h.next⟩ w':=by
 have c1:=k.lt _ _ hl;have d7:w'.heap[l.blk]?=some o':=by rw [b3];simp [c1]
 have c2:∀B,B≠l.blk→w'.heap[B]?=w.heap[B]?:=by
  intro B hB;rw [b3];simp [qG,fO hB]
 have a0:∀x ox,aB x (fU b (some a2) mem')=some ox→(x=b∧ox=a2)∨(x≠b∧aB x mem'=some ox):=by
  intro x ox hx
  by_cases e:x=b
  ·subst e;rw [iA] at hx;exact .inl ⟨rfl,(bP hx).symm⟩
  ·rw [gN e] at hx;exact .inr ⟨e,hx⟩
 have e3:w'.heap.size=w.heap.size:=by rw [b3];simp
 refine⟨m.le_refl,⟨?_,k.dom,?_,d0,?_,?_,?_,d1⟩,by omega,?_,by rw [b3],by rw [b3],by rw [b3],?_,fun _ _ h _=>h,aA _,fun x sz els f ro hx=>by
  rcases a0 x _ hx with⟨rfl,e⟩|⟨_,a5⟩
  ·exact .inr (d9 _ _ _ _ e.symm)
  ·exact .inr ⟨x,sz,els,ro,sub _ _ a5⟩⟩
 ·intro x ox hx;rcases a0 x ox hx with⟨rfl,rfl⟩|⟨a1,hx⟩
  ·exact⟨l,hl,b8 d7⟩
  ·obtain⟨lx,a7,ho⟩:=k.obj x ox (sub _ _ hx);exact⟨lx,a7,ho.keep m.le_refl (c2 _ (b2 x ox lx a1 hx a7))⟩
 ·intro x y ox oy lx ly hx hy a7 c3 a1 a6;rcases a0 x ox hx with⟨rfl,rfl⟩|⟨hn1,a5⟩<;>rcases a0 y oy hy with⟨rfl,rfl⟩|⟨hn2,a9⟩
  ·exact absurd rfl a1
  ·rw [hl] at a7;cases a7;exact absurd a6.symm (b2 y oy ly hn2 a9 c3)
  ·rw [hl] at c3;cases c3;exact absurd a6 (b2 x ox lx hn1 a5 a7)
  ·exact k.sep x y ox oy lx ly (sub _ _ a5) (sub _ _ a9) a7 c3 a1 a6
 ·intro f;refine(d3 f).imp ?_;intro x y d4 sz els f1 ro b6 els' f2 ro' l1 l2 hx hy a3 a4 a6;rcases a0 x _ hx with⟨rfl,e1⟩|⟨hn1,a5⟩<;>rcases a0 y _ hy with⟨rfl,e2⟩|⟨hn2,a9⟩
  ·rw [a3] at a4;cases a4;rw [←e1] at e2;cases e2;exact aA _
  ·rw [hl] at a3;cases a3;exact absurd a6.symm (b2 y _ l2 hn2 a9 a4)
  ·rw [hl] at a4;cases a4;exact absurd a6 (b2 x _ l1 hn1 a5 a3)
  ·exact d4 _ _ _ _ _ _ _ _ _ _ (sub _ _ a5) (sub _ _ a9) a3 a4 a6
 ·intro x lx hx;rw [e3];exact k.lt _ _ hx
 ·intro x sz els f ro hx;show f.toNat<h.next.toNat;rcases a0 x _ hx with⟨rfl,e1⟩|⟨hn1,hx⟩
  ·exact d8 _ _ _ _ e1.symm
  ·exact k.famlt _ _ _ _ _ (sub _ _ hx)
 ·intro B hB hn;refine c2 B ?_;rintro rfl;exact hn ⟨b,ob,l,hb,hl,rfl,hw⟩
 ·intro x ox lx hx a7;rcases a0 x ox hx with⟨rfl,rfl⟩|⟨a1,hx⟩
  ·rw [hl] at a7;cases a7;exact .inr ⟨x,ob,l,hb,hl,rfl,fun _=>hw⟩
  ·exact .inr ⟨x,ox,lx,sub _ _ hx,a7,rfl,id⟩
def oC:∀(l:List Id) (m:Mem) (x:Id),aB x (kF l m)=if x∈l then none else aB x m
 | [],m,x=>by simp [kF]
 | b::l,m,x=>by
  rw [kF,oC l]
  by_cases h:x∈l
  ·simp [h]
  ·by_cases e:x=b
   ·subst e;simp [h,iA]
   ·simp [h,e,gN e]
def tW (b:Id):∀(l:List Id) (x:Id),x∈mH b l↔x∈l∧x≠b
 | [],x=>by simp [mH]
 | y::l,x=>by
  rw [mH]
  by_cases e:Id.beq y b=true
  ·have e':=Id.beq_iff.1 e;subst e';simp only [e,dG,tW y l x,cN];constructor
   ·rintro⟨h1,h2⟩;exact⟨.inr h1,h2⟩
   ·rintro⟨h1|h1,h2⟩
    ·exact absurd h1 h2
    ·exact⟨h1,h2⟩
  ·have e':y≠b:=fun h=>e (Id.beq_iff.2 h)
   have e2:Id.beq y b=false:=by simpa using e
   simp only [e2,mO,cN,tW b l x];constructor
   ·rintro(rfl|⟨h1,h2⟩)
    ·exact⟨.inl rfl,e'⟩
    ·exact⟨.inr h1,h2⟩
   ·rintro⟨h1|h1,h2⟩
    ·exact .inl h1
    ·exact .inr ⟨h1,h2⟩
def xO (h:H) (f b:Id):iS h f b=⟨kF (mH b (bR f h.fams)) h.mem,if bR f h.fams= [] then h.fams else jR f [] h.fams,h.next⟩:=by
 obtain⟨mem,fams,next⟩:=h;unfold iS;cases e:bR f fams with
 |nil=>simp [e,mH,kF]
 |cons x l=>simp [e]
def oQ (h:H) (b:Id) (ob:O):fR h b ob=⟨fU b (some ob) h.mem,h.fams,h.next⟩:=by cases h;rfl
def Fr.updCells {h:H} (k:HR m h w) {b f:Id} {sz ty:Nat} {els els':List (List V)} {ro':Rw} {l:Loc} {o':Obj}
  (hb:aB b h.mem=some (.cells sz els f (.rw ty))) (hl:m b=some l)
  (b3:w'={ w with heap:=w.heap.setIfInBounds l.blk o' })
  (b8:w'.heap[l.blk]?=some o'→ObjAt m w' l (.cells sz els' f ro')):
  Fr m h w m (fR (iS h f b) b (.cells sz els' f ro')) w':=by
 rw [oQ,xO];have hk:∀x ox,aB x (kF (mH b (bR f h.fams)) h.mem)=some ox→aB x h.mem=some ox∧(x∈bR f h.fams→x=b):=by
  intro x ox hx;rw [oC] at hx;split at hx
  ·cases hx
  ·rename_i hn;refine⟨hx,fun hm=>?_⟩
   by_cases e:x=b
   ·exact e
   ·exact absurd ((tW b _ x).2 ⟨hm,e⟩) hn
 refine Fr.upd k hb hl (by simp [oN]) (fun x ox hx=>(hk x ox hx).1) ?_ ?_ ?_ ?_ (fun sz1 els1 f1 b9 e=>by cases e;exact⟨b,_,_,_,hb⟩) ?_ b3 b8
 ·intro x ox lx a1 hx a7 a6;obtain⟨a5,hm⟩:=hk x ox hx;have hs:=k.sep x b ox _ lx l a5 hb a7 hl a1 a6;cases ox with
  |cells sz1 els1 f1 b9=>
   have hf:f1=f:=hs;subst hf;exact a1 (hm (k.fam x b _ _ _ _ _ _ _ a5 hb a1))
  |_=>exact hs
 ·intro x y sz1 els1 f1 b9 sz2 els2 c7 hx hy a1;have b5:x=b∧f1=f∨x≠b∧aB x h.mem=some (.cells sz1 els1 f1 b9)∧(x∈bR f h.fams→x=b):=by
   by_cases e:x=b
   ·subst e;rw [iA] at hx;cases hx;exact .inl ⟨rfl,rfl⟩
   ·rw [gN e] at hx;exact .inr ⟨e,hk x _ hx⟩
  have d5:y=b∧f1=f∨y≠b∧aB y h.mem=some (.cells sz2 els2 f1 c7)∧(y∈bR f h.fams→y=b):=by
   by_cases e:y=b
   ·subst e;rw [iA] at hy;cases hy;exact .inl ⟨rfl,rfl⟩
   ·rw [gN e] at hy;exact .inr ⟨e,hk y _ hy⟩
  by_cases hf:f1=f
  ·subst hf;rcases b5 with⟨rfl,_⟩|⟨hn1,a5,hm1⟩
   ·rcases d5 with⟨rfl,_⟩|⟨hn2,a9,hm2⟩
    ·exact absurd rfl a1
    ·exact absurd (hm2 (k.fam y x _ _ _ _ _ _ _ a9 hb hn2)) hn2
   ·exact absurd (hm1 (k.fam x b _ _ _ _ _ _ _ a5 hb hn1)) hn1
  ·have a5:aB x h.mem=some (.cells sz1 els1 f1 b9):=by
    rcases b5 with⟨_,e⟩|⟨_,a5,_⟩
    ·exact absurd e hf
    ·exact a5
   have a9:aB y h.mem=some (.cells sz2 els2 f1 c7):=by
    rcases d5 with⟨_,e⟩|⟨_,a9,_⟩
    ·exact absurd e hf
    ·exact a9
   have:=k.fam x y _ _ _ _ _ _ _ a5 a9 a1;show x∈bR f1 _;split
   ·exact this
   ·rw [mL hf];exact this
 ·intro f1;show(bR f1 _).Pairwise _;split
  ·exact k.ord f1
  ·by_cases e:f1=f
   ·subst e;rw [qZ];exact .nil
   ·rw [mL e];exact k.ord f1
 ·intro sz1 els1 f1 b9 e;cases e;exact k.famlt _ _ _ _ _ hb
 ·intro f1 x hx;have b5:x∈bR f1 (if bR f h.fams= [] then h.fams else jR f [] h.fams):=hx;split at b5
  ·exact k.flt f1 x b5
  ·by_cases e:f1=f
   ·subst e;rw [qZ] at b5;cases b5
   ·rw [mL e] at b5;exact k.flt f1 x b5
def Fr.updObj {h:H} (k:HR m h w) {b:Id} {ob a2:O} {l:Loc} {o':Obj}
  (hb:aB b h.mem=some ob) (hl:m b=some l) (hn:∀sz els f ro,ob≠ .cells sz els f ro) (c4:∀sz els f ro,a2≠ .cells sz els f ro)
  (b3:w'={ w with heap:=w.heap.setIfInBounds l.blk o' }) (b8:w'.heap[l.blk]?=some o'→ObjAt m w' l a2):
  Fr m h w m (fR h b a2) w':=by
 rw [oQ];refine Fr.upd k hb hl ?_ (fun _ _ h=>h) ?_ ?_ k.ord (fun sz els f ro e=>absurd e (c4 _ _ _ _)) (fun sz els f ro e=>absurd e (c4 _ _ _ _)) k.flt b3 b8
 ·cases ob<;>first|trivial|exact absurd rfl (hn _ _ _ _)
 ·intro x ox lx a1 hx a7 a6;have hs:=k.sep x b ox _ lx l hx hb a7 hl a1 a6;cases ob with
  |cells sz els f ro=>exact hn _ _ _ _ rfl
  |_=>cases ox<;>exact hs
 ·intro x y sz1 els1 f1 b9 sz2 els2 c7 hx hy a1;have a5:aB x h.mem=some (.cells sz1 els1 f1 b9):=by
   by_cases e:x=b
   ·subst e;rw [iA] at hx;cases hx;exact absurd rfl (c4 _ _ _ _)
   ·rwa [gN e] at hx
  have a9:aB y h.mem=some (.cells sz2 els2 f1 c7):=by
   by_cases e:y=b
   ·subst e;rw [iA] at hy;cases hy;exact absurd rfl (c4 _ _ _ _)
   ·rwa [gN e] at hy
  exact k.fam x y _ _ _ _ _ _ _ a5 a9 a1
def MY {α:Type} {v:V} {k} {d} {r:α} (h:wH v k d=r):(∃x0,v= .b x0∧k x0=r)∨((∀x0,v≠ .b x0)∧d=r):=by
 cases v<;>first|exact .inl ⟨_,rfl,h⟩|exact .inr ⟨by intros;simp,h⟩
def YW {α:Type} {v:V} {k} {r:α} (h:wH v k none=some r):∃x0,v= .b x0∧k x0=some r:=by
 rcases MY h with h|⟨_,h⟩
 ·exact h
 ·cases h
def YV {α:Type} {v:V} {k} {d} {r:α} (h:jB v k d=r):(∃x0 x1,v= .i x0 x1∧k x0 x1=r)∨((∀x0 x1,v≠ .i x0 x1)∧d=r):=by
 cases v<;>first|exact .inl ⟨_,_,rfl,h⟩|exact .inr ⟨by intros;simp,h⟩
def pH {α:Type} {v:V} {k} {r:α} (h:jB v k none=some r):∃x0 x1,v= .i x0 x1∧k x0 x1=some r:=by
 rcases YV h with h|⟨_,h⟩
 ·exact h
 ·cases h
def FV {v:V} {k} {r:V} (h:jB v k VH.bad=VH.ok r hh):∃x0 x1,v= .i x0 x1∧k x0 x1= .ok r hh:=by
 rcases YV h with h|⟨_,h⟩
 ·exact h
 ·cases h
def YT {α:Type} {v:V} {k} {d} {r:α} (h:pZ v k d=r):(∃x0 x1,v= .s x0 x1∧k x0 x1=r)∨((∀x0 x1,v≠ .s x0 x1)∧d=r):=by
 cases v<;>first|exact .inl ⟨_,_,rfl,h⟩|exact .inr ⟨by intros;simp,h⟩
def yL {α:Type} {v:V} {k} {r:α} (h:pZ v k none=some r):∃x0 x1,v= .s x0 x1∧k x0 x1=some r:=by
 rcases YT h with h|⟨_,h⟩
 ·exact h
 ·cases h
def YS {v:V} {k} {r:V} (h:pZ v k VH.bad=VH.ok r hh):∃x0 x1,v= .s x0 x1∧k x0 x1= .ok r hh:=by
 rcases YT h with h|⟨_,h⟩
 ·exact h
 ·cases h
def MV {α:Type} {v:V} {k} {d} {r:α} (h:kJ v k d=r):(∃x0 x1,v= .p x0 x1∧k x0 x1=r)∨((∀x0 x1,v≠ .p x0 x1)∧d=r):=by
 cases v<;>first|exact .inl ⟨_,_,rfl,h⟩|exact .inr ⟨by intros;simp,h⟩
def wG {α:Type} {v:V} {k} {r:α} (h:kJ v k none=some r):∃x0 x1,v= .p x0 x1∧k x0 x1=some r:=by
 rcases MV h with h|⟨_,h⟩
 ·exact h
 ·cases h
def BO {v:V} {k} {r:V} (h:kJ v k VH.bad=VH.ok r hh):∃x0 x1,v= .p x0 x1∧k x0 x1= .ok r hh:=by
 rcases MV h with h|⟨_,h⟩
 ·exact h
 ·cases h
def BN {α:Type} {v:V} {k} {d} {r:α} (h:wF v k d=r):(∃x0 x1 x2 x3,v= .sl x0 x1 x2 x3∧k x0 x1 x2 x3=r)∨((∀x0 x1 x2 x3,v≠ .sl x0 x1 x2 x3)∧d=r):=by
 cases v<;>first|exact .inl ⟨_,_,_,_,rfl,h⟩|exact .inr ⟨by intros;simp,h⟩
def Px {α:Type} {v:V} {k} {r:α} (h:wF v k none=some r):∃x0 x1 x2 x3,v= .sl x0 x1 x2 x3∧k x0 x1 x2 x3=some r:=by
 rcases BN h with h|⟨_,h⟩
 ·exact h
 ·cases h
def Qc {α:Type} {v:V} {k} {d} {r:α} (h:FW v k d=r):(∃x0,v= .agg x0∧k x0=r)∨((∀x0,v≠ .agg x0)∧d=r):=by
 cases v<;>first|exact .inl ⟨_,rfl,h⟩|exact .inr ⟨by intros;simp,h⟩
def YX {α:Type} {v:V} {k} {r:α} (h:FW v k none=some r):∃x0,v= .agg x0∧k x0=some r:=by
 rcases Qc h with h|⟨_,h⟩
 ·exact h
 ·cases h
def Pw {α:Type} {v:V} {k} {d} {r:α} (h:MT v k d=r):(∃x0,v= .tup x0∧k x0=r)∨((∀x0,v≠ .tup x0)∧d=r):=by
 cases v<;>first|exact .inl ⟨_,rfl,h⟩|exact .inr ⟨by intros;simp,h⟩
def Pv {α:Type} {v:V} {k} {r:α} (h:MT v k none=some r):∃x0,v= .tup x0∧k x0=some r:=by
 rcases Pw h with h|⟨_,h⟩
 ·exact h
 ·cases h
def MW {α:Type} {v:V} {k} {d} {r:α} (h:rJ v k d=r):(∃x0,v= .mp x0∧k x0=r)∨((∀x0,v≠ .mp x0)∧d=r):=by
 cases v<;>first|exact .inl ⟨_,rfl,h⟩|exact .inr ⟨by intros;simp,h⟩
def yM {v:V} {k} {r:V} (h:rJ v k VH.bad=VH.ok r hh):∃x0,v= .mp x0∧k x0= .ok r hh:=by
 rcases MW h with h|⟨_,h⟩
 ·exact h
 ·cases h
def Qb {α:Type} {v:V} {k} {d} {r:α} (h:MX v k d=r):(∃x0 x1 x2,v= .fn x0 x1 x2∧k x0 x1 x2=r)∨((∀x0 x1 x2,v≠ .fn x0 x1 x2)∧d=r):=by
 cases v<;>first|exact .inl ⟨_,_,_,rfl,h⟩|exact .inr ⟨by intros;simp,h⟩
def Qa {v:V} {k} {r:V} (h:MX v k VH.bad=VH.ok r hh):∃x0 x1 x2,v= .fn x0 x1 x2∧k x0 x1 x2= .ok r hh:=by
 rcases Qb h with h|⟨_,h⟩
 ·exact h
 ·cases h
def MU {α:Type} {v:V} {k} {d} {r:α} (h:yK v k d=r):(v= .sn∧k=r)∨((v≠ .sn)∧d=r):=by
 cases v<;>first|exact .inl ⟨rfl,h⟩|exact .inr ⟨by simp,h⟩
def YQ {α:Type} {v:V} {k} {r:α} (h:yK v k none=some r):v= .sn∧k=some r:=by
 rcases MU h with h|⟨_,h⟩
 ·exact h
 ·cases h
def Py {α:Type} {v:V} {k} {d} {r:α} (h:FT v k d=r):(v= .se∧k=r)∨((v≠ .se)∧d=r):=by
 cases v<;>first|exact .inl ⟨rfl,h⟩|exact .inr ⟨by simp,h⟩
def YR {α:Type} {v:V} {k} {r:α} (h:FT v k none=some r):v= .se∧k=some r:=by
 rcases Py h with h|⟨_,h⟩
 ·exact h
 ·cases h
def Pz {α:Type} {v:V} {k} {d} {r:α} (h:FU v k d=r):(v= .mn∧k=r)∨((v≠ .mn)∧d=r):=by
 cases v<;>first|exact .inl ⟨rfl,h⟩|exact .inr ⟨by simp,h⟩
def YU {α:Type} {v:V} {k} {r:α} (h:FU v k none=some r):v= .mn∧k=some r:=by
 rcases Pz h with h|⟨_,h⟩
 ·exact h
 ·cases h
def pV {α:Type} {x y r:α} (h:fL b x y=r):(b=true∧x=r)∨(b=false∧y=r):=by
 cases b
 ·exact .inr ⟨rfl,h⟩
 ·exact .inl ⟨rfl,h⟩
def lQ {x:Option V} {r:V} (h:fL b x none=some r):b=true∧x=some r:=by
 rcases pV h with h|⟨_,h⟩
 ·exact h
 ·cases h
def UC {x:VH} {r:V} (h:fL b x .bad= .ok r hh):b=true∧x= .ok r hh:=by
 rcases pV h with h|⟨_,h⟩
 ·exact h
 ·cases h
def FO:∀(n c:Nat),(bytesOf n c).length=n
 |0,_=>rfl
 |n+1,c=>by simp [bytesOf,FO n]
def XR:∀(l:List Nat),(∀b∈l,b<256)→bytesOf l.length (pW l)=l
 | [],_=>rfl
 |b::l,h=>by
  have hb:=h b (by simp);have e1:(b+256*pW l)%256=b:=by omega
  have e2:(b+256*pW l)/256=pW l:=by omega
  simp only [jD,bytesOf,pW,e1,e2,XR l (fun x hx=>h x (by simp [hx]))]
def WP:∀(l:List Nat),(∀b∈l,b<256)→pW l<256^l.length
 | [],_=>by simp [pW]
 |b::l,h=>by
  have hb:=h b (by simp);have:=WP l (fun x hx=>h x (by simp [hx]));simp only [pW,jD,gK];omega
def XO:∀(n c c':Nat),c<256^n→c'<256^n→bytesOf n c=bytesOf n c'→c=c'
 |0,c,c',h,h',_=>by simp at h h';omega
 |n+1,c,c',h,h',e=>by
  simp only [bytesOf,kM] at e;have:=XO n (c/256) (c'/256) (by rw [gK] at h;omega) (by rw [gK] at h';omega) e.2;omega
def XT (s:ByteArray):∀b∈eU s,b<256:=by
 intro b hb;simp only [eU,gF] at hb;obtain⟨x,_,rfl⟩:=hb;exact x.toNat_lt
def Pe {t:ByteArray} (h:eU s=eU t):s=t:=by
 have:s.data.toList=t.data.toList:=by
  have hi:∀(l r:List UInt8),l.map UInt8.toNat=r.map UInt8.toNat→l=r:=by
   intro l
   induction l with
   |nil=>intro r h;cases r with|nil=>rfl|cons _ _=>simp at h
   | cons a l ih=>
    intro r h;cases r with
    |nil=>simp at h
    |cons b r=>
     simp only [kL,kM] at h;rw [yP.1 h.1,ih r h.2]
  exact hi _ _ h
 cases s;cases t;congr 1;exact mT.1 this
def iI:R m (.s l c) u↔∃s,u= .string s∧eU s=bytesOf l c∧c<256^l:=by
 simp only [R,eU]
def R_strOf (m:Mp) (s:ByteArray):R m (wX (eU s)) (.string s):=by
 rw [wX,iI];exact⟨s,rfl,(XR _ (XT s)).symm,WP _ (XT s)⟩
def Pd (s:ByteArray):(eU s).length=s.size:=by
 rw [eU,mB,eZ];rfl
def tJ (h:eU s=bytesOf l c):s.size=l:=by
 rw [←Pd,h,FO]
def Ei:CZ v=true↔fI v:=by cases v<;>simp [CZ,fI]
mutual
theorem uN (m:Mp):∀v:Value,R m (cst v) v
 | .bool x=>by simp [cst,R]
 | .int k n=>by simp [cst,R]
 | .float ..=>by simp [cst,R]
 | .complex ..=>by simp [cst,R]
 | .string s=>by rw [cst];exact R_strOf m s
 | .pointer none=>by simp [cst,R]
 | .pointer (some _)=>by simp [cst,R]
 | .slice none 0 0=>by simp [cst,R]
 | .slice none (_+1) _=>by simp [cst,R]
 | .slice none 0 (_+1)=>by simp [cst,R]
 | .slice (some _) _ _=>by simp [cst,R]
 | .map none=>by simp [cst,R]
 | .map (some _)=>by simp [cst,R]
 | .chan _=>by simp [cst,R]
 | .func ..=>by simp [cst,R]
 | .nilFunc=>by simp [cst,R]
 | .iface ..=>by simp [cst,R]
 | .nilIface=>by simp [cst,R]
 | .agg ⟨l⟩=>by
  rw [cst];cases e:l.all CZ with
  |true=>
   simp only [dG,R];refine⟨l,rfl,LU m l,fun x hx=>Ei.1 (kV.1 e x hx)⟩
  |false=>simp [R]
 | .tuple ⟨l⟩=>by
  rw [cst];simp only [R];exact⟨l,rfl,LU m l⟩
theorem LU (m:Mp):∀l:Lv,Rl m (yA l) l
 | []=>by simp [yA,Rl]
 |v::l=>by simp only [yA,Rl];exact⟨v,l,rfl,uN m v,LU m l⟩
end
def DfrR (m:Mp):List V→List Deferred→Prop
 | [],ds=>ds= []
 | .fn g a c::l,ds=>∃a' c' r,ds={ target:=.fn g ⟨c'⟩,args:=⟨a'⟩ }::r∧Rl m a a'∧Rl m c c'∧DfrR m l r
 |_::_,_=>False
def DfrR.mono (h:m.le m'):∀{l:List V} {ds:List Deferred},DfrR m l ds→DfrR m' l ds
 | [],_,k=>k
 | .fn g a c::l,_,k=>by obtain⟨a',c',r,rfl,ha,hc,hr⟩:=k;exact⟨a',c',r,rfl,ha.mono h,hc.mono h,hr.mono h⟩
 | .top::_,_,k=>k.elim
 | .b _::_,_,k=>k.elim
 | .i _ _::_,_,k=>k.elim
 | .s _ _::_,_,k=>k.elim
 | .pn::_,_,k=>k.elim
 | .p _ _::_,_,k=>k.elim
 | .sn::_,_,k=>k.elim
 | .sl _ _ _ _::_,_,k=>k.elim
 | .se::_,_,k=>k.elim
 | .mn::_,_,k=>k.elim
 | .mp _::_,_,k=>k.elim
 | .nf::_,_,k=>k.elim
 | .ifc _ _::_,_,k=>k.elim
 | .ni::_,_,k=>k.elim
 | .agg _::_,_,k=>k.elim
 | .tup _::_,_,k=>k.elim
structure dE (m:Mp) (n:Nat) (e:Env) (a:Act):Prop where
 size:a.tmps.size=n
 le:n≤511
 val:∀t,t<n→R m (dD t e) (a.tmps.getD t undef)
 dfr:∃l,dD iY e= .tup l∧DfrR m l a.defers
def dE.mono (h:m.le m') {n:Nat} {e:Env} {a:Act} (k:dE m n e a):dE m' n e a:=
 ⟨k.size,k.le,fun t ht=>(k.val t ht).mono h,by obtain⟨l,h1,h2⟩:=k.dfr;exact⟨l,h1,h2.mono h⟩⟩
def dE.set {e:Env} (k:dE m n e a) {d:Nat} (hd:d<n) {v:V} {u:Value} (h:R m v u):dE m n (lS d v e) (a.put (some d) u):=by
 have a0:=k.le;refine⟨by simp [Act.put,k.size],k.le,fun t ht=>?_,?_⟩
 ·by_cases e':t=d
  ·subst e';rw [xX];simp [Act.put,rX,k.size,ht,h]
  ·rw [uL (by omega) (by omega) e'];have:=k.val t ht;simpa [Act.put,rX,qG,fO e'] using this
 ·obtain⟨l,h1,h2⟩:=k.dfr;refine⟨l,?_,h2⟩;rw [uL (by decide) (by omega) (by show 511≠d;omega)];exact h1
def dE.put {e:Env} (k:dE m n e a) {d:Option Nat} (hd:∀x,d=some x→x<n) {v:V} {u:Value} (h:R m v u):
  dE m n (match d with|some x=>lS x v e|none=>e) (a.put d u):=by
 cases d with
 |none=>exact k
 |some x=>exact k.set (hd x rfl) h
def Gl (P:Program) (m:Mp):Prop:=∀g,g<P.globals.size→∃lim,m (fY g)=some ⟨g,0,lim⟩
def Gl.mono (h:m.le m') (k:Gl P m):Gl P m':=fun g hg=>by obtain⟨lim,hl⟩:=k g hg;exact⟨lim,h _ _ hl⟩
def dX (P:Program) (n:Nat):Operand→Bool
 | .tmp t=>decide (t<n)
 | .global g=>decide (g<P.globals.size)
 |_=>true
def eI {e:Env} (k:dE m n e a) (hg:Gl P m) {x:Operand} (hx:dX P n x=true):R m ((aD x).run e) (a.eval x):=by
 cases x with
 |tmp t=>exact k.val t (by simpa [dX] using hx)
 |const v=>exact uN m v
 |global g=>
  obtain⟨lim,hl⟩:=hg g (by simpa [dX] using hx);simp only [aD,Act.eval,R];exact⟨_,hl,rfl⟩
 |func f=>simp only [aD,Act.eval,R];exact⟨[],[],rfl,by simp [Rl],by simp [Rl]⟩
def xF {P:Program} {m:Mp} {n:Nat} {e:Env} {a:Act} (k:dE m n e a) (hg:Gl P m):∀{xs:List Operand},xs.all (dX P n)=true→Rl m ((sH xs).run e) (xs.map a.eval)
 | [],_=>by simp [sH,Rl]
 |x::xs,h=>by
  simp only [rU,aR] at h;simp only [sH,kL,Rl];exact⟨_,_,rfl,eI k hg h.1,xF k hg h.2⟩
section
variable {P:Program} {m:Mp} {w:Wo}
def rK (b o n:Nat):(⟨b,o,none⟩:Addr).add n=⟨b,o+n,none⟩:=by
 unfold Addr.add;split
 ·rename_i h;subst h;simp
 ·rfl
def bK (h:P.underlying t=some d):(underlying t).run P w= .ok d w:=by simp [underlying,h]
def rZ (h:cF P t=some n):∃i,P.info? t=some i∧i.size=n:=by
 unfold cF at h;split at h
 ·rename_i i _ hi;cases h;exact⟨i,hi,rfl⟩
 ·cases h
def vG (h:cF P t=some n):∃d,P.underlying t=some d:=by
 unfold cF at h;split at h
 ·rename_i d _ _ hd _;exact⟨_,hd⟩
 ·cases h
def jU (h:cF P t=some n):(sizeOf t).run P w= .ok n w:=by
 obtain⟨i,hi,rfl⟩:=rZ h;simp [sizeOf,typeInfo,hi]
def EJ (h:P.underlying t=some d):(isAgg t).run P w= .ok (gX P t) w:=by
 simp only [isAgg,cX,bK h,eD,gX,h];cases d<;>rfl
def mV {z:V} (h:iF P t=some z):∃u,(zeroValue t).run P w= .ok u w∧z=cst u∧∃i,P.info? t=some i∧i.zero=some u:=by
 unfold iF at h;cases hi:P.info? t with
 |none=>simp [hi] at h
 | some i=>
  cases hz:i.zero with
  |none=>simp [hi,hz] at h
  |some u=>
   simp [hi,hz] at h;exact⟨u,by simp [zeroValue,typeInfo,hi,hz],h.symm,i,rfl,hz⟩
def uQ {l:Loc} (h:w.heap[l.blk]?=some (.cells C t fz)) (o:Nat):w.cell? ⟨l.blk,o,none⟩=C[o]?:=by
 simp [World.cell?,h]
def xI (l:List V) (i:Nat):qR l i=l[i]?:=by
 induction l generalizing i with
 |nil=>rfl
 |cons a l ih=>cases i with
  |zero=>rfl
  |succ i=>simpa [qR] using ih i
def DQ (l:List (List V)) (i:Nat):qS l i=l[i]?:=by
 induction l generalizing i with
 |nil=>rfl
 |cons a l ih=>cases i with
  |zero=>rfl
  |succ i=>simpa [qS] using ih i
def HT:∀(n:Nat) (l r:List V),mG n l=some r→n≤l.length∧r=l.take n
 |0,l,r,h=>by
  have:[]=r:=bP h;subst this;simp
 |n+1,[],r,h=>by cases h
 | n+1,a::l,r,h=>by
  have:mG (n+1) (a::l)=Option.rec (motive:=fun _=>Option (List V)) none (fun x=>some (a::x)) (mG n l):=rfl;rw [this] at h;cases e:mG n l with
  |none=>rw [e] at h;cases h
  |some x=>
   rw [e] at h;cases h;obtain⟨h1,rfl⟩:=HT n l x e;exact⟨by simp;omega,by simp⟩
def lD:∀(n:Nat) (l:List V),fZ n l=l.drop n
 |0,l=>rfl
 |n+1,[]=>rfl
 |n+1,a::l=>by
  have:fZ (n+1) (a::l)=fZ n l:=rfl;rw [this,lD n l];rfl
def nI (l:List V):fW l=l.length:=by
 induction l with
 |nil=>rfl
 |cons a l ih=>show Nat.succ (fW l)=_;rw [ih];rfl
def uE (l:List (List V)):pD l=l.length:=by
 induction l with
 |nil=>rfl
 |cons a l ih=>show Nat.succ (pD l)=_;rw [ih];rfl
def ZC (a b:List V):appV a b=a++b:=by
 induction a with
 |nil=>rfl
 |cons x a ih=>show x::appV a b=_;rw [ih];rfl
def Qf (a b:List (List V)):appL a b=a++b:=by
 induction a with
 |nil=>rfl
 |cons x a ih=>show x::appL a b=_;rw [ih];rfl
def ER {sz:Nat}:∀{els:List (List V)} (h:∀el∈els,el.length=sz) {q:Nat} {el:List V},els[q]?=some el→∀(i:Nat),i<sz→els.flatten[q*sz+i]?=el[i]?
 | [],_,q,el,hq,i,hi=>by simp at hq
 |x::els,h,0,el,hq,i,hi=>by
  simp at hq;subst hq;have:=h x (by simp);simp [List.getElem?_append,this,hi]
 |x::els,h,q+1,el,hq,i,hi=>by
  simp at hq;have hx:=h x (by simp);have:=ER (fun el he=>h el (by simp [he])) hq i hi;simp only [mD];rw [iE (by rw [hx,kC];omega),hx,←this];congr 1;rw [kC];omega
def pF {sz:Nat}:∀{els:List (List V)},(∀el∈els,el.length=sz)→els.flatten.length=els.length*sz
 | [],_=>by simp
 |x::els,h=>by
  have:=pF (els:=els) (fun el he=>h el (by simp [he]));simp only [mD,aV,h x (by simp),this,jD,kC];omega
def Gh {h:H} (k:HR m h w) {b:Id} {o n:Nat} {xs:List V} (hr:rd h b o n=some xs):
  ∃l us,m b=some l∧xs.length=n∧Rl m xs us∧(∀x∈us,fI x)∧∀(j:Nat) v,us[j]?=some v→w.cell? ⟨l.blk,l.base+o+j,none⟩=some v:=by
 unfold rd at hr;cases hb:aB b h.mem with
 |none=>rw [hb] at hr;cases hr
 | some ob=>
  rw [hb] at hr;cases ob with
  |map _ _=>cases hr
  |siter _ _ _=>cases hr
  |miter _ _ _ _=>cases hr
  | cells sz els f ro=>
   obtain⟨l,hl,C,t,fz,hc⟩:=k.obj _ _ hb;have a1:(Option.rec (motive:=fun _=>Option (List V)) none (fun el=>Bool.rec (motive:=fun _=>Option (List V)) (mG n (fZ (Nat.mod o sz) el)) (some el) (Nat.beq (Nat.mod o sz) 0&&Nat.beq n sz)) (qS els (Nat.div o sz)):Option (List V))=some xs:=hr;rw [DQ] at a1;cases he:els[Nat.div o sz]? with
   |none=>rw [he] at a1;cases a1
   | some el=>
    rw [he] at a1;have a2:=hc.each el (bV he);have hx:(∀j,j<n→o%sz+j<sz)∧n≤(el.drop (o%sz)).length∧xs=(el.drop (o%sz)).take n:=by
     cases ht:(Nat.beq (Nat.mod o sz) 0&&Nat.beq n sz) with
     |false=>
      have a3:mG n (fZ (Nat.mod o sz) el)=some xs:=by simpa [ht] using a1
      rw [lD] at a3;obtain⟨h1,rfl⟩:=HT _ _ _ a3;refine⟨fun j hj=>?_,h1,rfl⟩;have a5:n≤(el.drop (o%sz)).length:=h1;rw [fD,a2] at a5;omega
     |true=>
      have a3:el=xs:=by simpa [ht] using a1
      simp only [aR] at ht;have h1:o%sz=0:=bG ht.1;have h2:n=sz:=bG ht.2;subst a3;subst h2;rw [h1];exact⟨fun j hj=>by omega,by simp [a2],by rw [gB,iW (by omega)]⟩
    obtain⟨hn,hn2,rfl⟩:=hx;have a4:((el.drop (o%sz)).take n).length=n:=by rw [bT];omega
    have a0:∀j,j<n→∃v u,((el.drop (o%sz)).take n)[j]?=some v∧C[l.base+o+j]?=some u∧R m v u∧fI u:=by
     intro j hj;have a6:o%sz+j<sz:=hn j hj;have hv:∃v,el[o%sz+j]?=some v:=⟨el[o%sz+j]'(by omega),cE (by omega)⟩;obtain⟨v,hv⟩:=hv;have hf:=ER hc.each he (o%sz+j) a6;rw [hv] at hf;obtain⟨u,hu,hR,hs⟩:=hc.val _ _ hf;have hi:Nat.div o sz*sz+(o%sz+j)=o+j:=by
      have:=lZ o sz;rw [dM] at this;show o/sz*sz+(o%sz+j)=o+j;omega
     rw [hi] at hu;refine⟨v,u,?_,by rw [←hu];congr 1;omega,hR,hs⟩;rw [jN hj,mC,hv]
    refine⟨l,(List.range n).map (fun j=>(C[l.base+o+j]?).getD undef),hl,a4,?_,?_,?_⟩
    ·refine Rl.mk (by simp [a4]) ?_;intro j v u hv hu;have hj:j<n:=by
      have:=(aZ.1 hv).1;omega
     obtain⟨v',u',hv',hu',hR,_⟩:=a0 j hj;rw [hv] at hv';cases hv';simp only [jO,uX hj,rP,dW] at hu;rw [hu'] at hu;subst hu;exact hR
    ·intro x hx;simp only [gF,GP] at hx;obtain⟨j,hj,rfl⟩:=hx;obtain⟨v',u',_,hu',_,hs⟩:=a0 j hj;rw [hu'];exact hs
    ·intro j v hv;have hj:j<n:=by
      have:=(aZ.1 hv).1;simpa using this
     obtain⟨v',u',_,hu',_,_⟩:=a0 j hj;simp only [jO,uX hj,rP,dW] at hv;rw [hu'] at hv;simp at hv;subst hv;rw [uQ hc.at_,hu']
end
section
variable {P:Program} {m:Mp} {w:Wo}
def NA {x:Option (List V)} {r:V} (h:qB x=some r):∃l,x=some l∧r= .agg l:=by
 cases x with
 |none=>cases h
 |some l=>cases h;exact⟨l,rfl,rfl⟩
def yN {v:V} {k:Nat→Option V} {r:V} (h:asN v k=some r):∃kk n,v= .i kk (.ofNat n)∧k n=some r:=by
 obtain⟨kk,n,rfl,h⟩:=pH h;cases n with
 |ofNat n=>exact⟨kk,n,rfl,h⟩
 |negSucc n=>cases h
def JO:∀(l:List Field) (i:Nat),vQ l i=l[i]?
 | [],i=>by cases i<;>rfl
 |a::l,0=>rfl
 |a::l,i+1=>by rw [vQ,JO l i];rfl
def qC {l:List V} (h:R m (.agg l) u):∃l',u= .agg ⟨l'⟩∧Rl m l l'∧∀x∈l',fI x:=by simpa only [R] using h
def tS {l:List V} {l':Lv} {v:V} (hu:P.underlying t=some d) (hn:cF P t=some n) (hl:Rl m l l') (hs:∀x∈l',fI x)
  (hv:nV (gX P t) off n l=some v):∃u,(part t ⟨l'⟩ off).run P w= .ok u w∧R m v u:=by
 unfold nV at hv;rcases pV hv with⟨ha,hv⟩|⟨ha,hv⟩
 ·obtain⟨x,hx,rfl⟩:=NA hv;rw [lD] at hx;obtain⟨a5,rfl⟩:=HT _ _ _ hx;refine⟨.agg ((⟨l'⟩:Array Value).extract off (off+n)),?_,?_⟩
  ·simp only [part,cX,EJ hu,eD,ha,if_true,jU hn,dV]
  ·simp only [R];refine⟨(l'.drop off).take n,?_,(hl.drop off).take n,fun x hx=>hs x (CI (lH hx))⟩;congr 1;apply mT.1;simp [List.extract_eq_take_drop]
 ·rw [xI] at hv;obtain⟨u,hu',hR⟩:=hl.get hv;refine⟨u,?_,hR⟩;have:(⟨l'⟩:Array Value)[off]?=some u:=by simpa using hu'
  simp [part,EJ hu,ha,this]
def TL {h:H} (k:HR m h w) {t:TypeId} {d:TypeDesc} {n:Nat} {x:V} {u:Value} {v:V} (hd:P.underlying t=some d) (hn:cF P t=some n) (hx:R m x u)
  (hv:kJ x (fun b o=>fL (gX P t) (qB (rd h b o n)) (rd1 h b o)) none=some v):∃u',(Instr.loadAt t u).run P w= .ok u' w∧R m v u':=by
 obtain⟨b,o,rfl,hv⟩:=wG hv;simp only [R] at hx;obtain⟨l,hl,rfl⟩:=hx;rcases pV hv with⟨ha,hv⟩|⟨ha,hv⟩
 ·obtain⟨xs,hxs,rfl⟩:=NA hv;obtain⟨l2,us,hl2,a0,hR,hs,hc⟩:=Gh k hxs;rw [hl] at hl2;cases hl2;refine⟨.agg ⟨us⟩,?_,by simp only [R];exact⟨us,rfl,hR,hs⟩⟩;have a2:(loadCells ⟨l.blk,l.base+o,none⟩ n).run P w= .ok ⟨us⟩ w:=by
   have:=ZI (P:=P) (w:=w) ⟨l.blk,l.base+o,none⟩ us (fun j v hv=>by rw [rK];exact hc j v hv);rw [←a0,←hR.length];simpa using this
  simp [Instr.loadAt,Instr.sureAddr,loadVar,EJ hd,ha,jU hn,a2]
 ·have hc:∃u',w.cell? ⟨l.blk,l.base+o,none⟩=some u'∧R m v u':=by
   unfold rd1 at hv;cases hb:aB b h.mem with
   |none=>rw [hb] at hv;cases hv
   | some ob=>
    rw [hb] at hv;cases ob with
    |map _ _=>cases hv
    |siter _ _ _=>cases hv
    |miter _ _ _ _=>cases hv
    | cells sz els f ro=>
     have a1:(Option.rec (motive:=fun _=>Option V) none (fun el=>qR el (Nat.mod o sz)) (qS els (Nat.div o sz)):Option V)=some v:=hv;rw [DQ] at a1;cases he:els[Nat.div o sz]? with
     |none=>rw [he] at a1;cases a1
     | some el=>
      rw [he] at a1;have a3:qR el (o%sz)=some v:=a1;rw [xI] at a3;obtain⟨l2,hl2,C,t2,fz,hcs⟩:=k.obj _ _ hb;rw [hl] at hl2;cases hl2;have a6:=(aZ.1 a3).1;have a0:=hcs.each el (bV he);have hf:=ER hcs.each he (o%sz) (by omega);rw [a3] at hf;obtain⟨u',hu',hR,_⟩:=hcs.val _ _ hf;have hi:Nat.div o sz*sz+o%sz=o:=by
       have:=lZ o sz;rw [dM] at this;exact this
      rw [hi] at hu';exact⟨u',by rw [uQ hcs.at_,hu'],hR⟩
  obtain⟨u',hu',hR⟩:=hc;exact⟨u',by simp [Instr.loadAt,Instr.sureAddr,loadVar,EJ hd,ha,hu'],hR⟩
def CM (k:IntKind) (n:Int):uZ k n=k.wrap n:=by
 cases n with
 |negSucc m=>rfl
 | ofNat m=>
  show(Bool.rec (motive:=fun _=>Int) (k.wrap (.ofNat m)) (.ofNat m) (Nat.ble m (thr k)):Int)=_;cases e:Nat.ble m (thr k) with
  |false=>rfl
  |true=>
   have hm:=cY e;symm;cases k<;>simp only [thr] at hm<;>simp only [IntKind.wrap,IntKind.bits,IntKind.signed]<;>simp<;>omega
def EG (j k:IntKind):kEq j k=true↔j=k:=by cases j<;>cases k<;>simp [kEq]
def EN (a b:Int):iLt a b=decide (a<b):=by
 cases a with
 | ofNat x=>cases b with
  |ofNat y=>
   show Nat.ble (Nat.succ x) y=_;rw [nQ];simp [Nat.ble_eq];omega
  |negSucc y=>show false=_;symm;simp;omega
 | negSucc x=>cases b with
  |ofNat y=>show true=_;symm;simp;omega
  |negSucc y=>
   show Nat.ble (Nat.succ y) x=_;rw [nQ];simp [Nat.ble_eq];omega
def EO (a b:Int):iEq a b=(a==b):=by
 cases a with
 |ofNat x=>cases b with
  |ofNat y=>show Nat.beq x y=_;rw [nQ];simp [GL];omega
  |negSucc y=>show false=_;symm;simp
 |negSucc x=>cases b with
  |ofNat y=>show false=_;symm;simp
  |negSucc y=>show Nat.beq x y=_;rw [nQ];simp [GL]
def Kr (a b:Int):iAdd a b=a+b:=by
 cases a with
 |ofNat x=>cases b with
  |ofNat y=>rfl
  |negSucc y=>rfl
 |negSucc x=>rfl
def UK (a b:Int):iSub a b=a-b:=by
 cases a with
 | ofNat x=>cases b with
  | ofNat y=>
   show(Bool.rec (motive:=fun _=>Int) (Int.sub (.ofNat x) (.ofNat y)) (.ofNat (Nat.sub x y)) (Nat.ble y x):Int)=_;cases e:Nat.ble y x with
   |false=>rfl
   |true=>
    have:=cY e;show Int.ofNat (x-y)=Int.ofNat x-Int.ofNat y;simp;omega
  |negSucc y=>rfl
 |negSucc x=>rfl
def Kj {a b:Int} {v:V} (t:TypeId) (a4:op≠ .shl∧op≠ .shr) (h:(EL op).run k a b=some v):
  ∃u,(binOp op t (.int k a) (.int k b)).run P w= .ok u w∧R m v u:=by
 obtain⟨h1,h2⟩:=a4;cases op<;>simp only [EL] at h<;>first
  |exact absurd rfl h1
  |exact absurd rfl h2
  |skip
 case quo=>
  rcases pV h with⟨_,h⟩|⟨h0,h⟩
  ·cases h
  ·cases h;rw [EO] at h0;have:b≠0:=by simpa using h0
   exact⟨_,by simp [binOp,Op.intDiv,this];rfl,by simp [R,CM]⟩
 case rem=>
  rcases pV h with⟨_,h⟩|⟨h0,h⟩
  ·cases h
  ·cases h;rw [EO] at h0;have:b≠0:=by simpa using h0
   exact⟨_,by simp [binOp,Op.intDiv,this];rfl,by simp [R]⟩
 all_goals
  cases h;refine⟨_,by simp only [binOp,ne_eq,not_true_eq_false,kK,Op.intArith,Op.intBits,Op.intCmp,dV];rfl,?_⟩;simp only [R,CM,Kr,UK,EO,EN]
 all_goals first
  |rfl
  |(congr 1;rw [nQ];simp;done)
  |(congr 1;rw [nQ];simp;omega)
  |(simp;done)
end
section
variable {P:Program} {m:Mp} {w:Wo}
def map_toNat_inj:∀(l r:List UInt8),l.map UInt8.toNat=r.map UInt8.toNat→l=r
 | [],r,h=>by cases r with|nil=>rfl|cons _ _=>simp at h
 |a::l,[],h=>by simp at h
 |a::l,b::r,h=>by
  simp only [kL,kM] at h;rw [yP.1 h.1,map_toNat_inj l r h.2]
def IG {t:ByteArray} (h:eU s=bytesOf l c) (hc:c<256^l) (h':eU t=bytesOf l' c') (a0:c'<256^l'):sEq l c l' c'=(s.toList==t.toList):=by
 rw [mS,mS,nQ];simp only [sEq,aR,GL,tE];constructor
 ·rintro⟨rfl,rfl⟩;exact map_toNat_inj _ _ (h.trans h'.symm)
 ·intro e;have hb:eU s=eU t:=by unfold eU;rw [e]
  have hl:l=l':=by rw [←FO l c,←h,hb,h',FO]
  subst hl;exact⟨rfl,XO _ _ _ hc a0 (by rw [←h,hb,h'])⟩
def TF:∀(x y:List UInt8),ltB (x.map UInt8.toNat) (y.map UInt8.toNat)=Op.bytesLess x y
 |x,[]=>by cases x<;>rfl
 | [],_::_=>rfl
 | a::x,b::y=>by
  simp only [kL,ltB,Op.bytesLess,TF x y];have e1:Nat.blt a.toNat b.toNat=decide (a<b):=by
   rw [nQ];simp [Nat.blt,Nat.ble_eq,Qn];omega
  have e2:Nat.beq a.toNat b.toNat=(a==b):=by
   rw [nQ];simp [GL,yP]
  rw [e1,e2];cases decide (a<b)<;>cases (a==b)<;>simp
def TE {t:ByteArray} (h:eU s=bytesOf l c) (h':eU t=bytesOf l' c'):ltB (bytesOf l c) (bytesOf l' c')=Op.bytesLess s.toList t.toList:=by
 rw [mS,mS,←h,←h'];exact TF _ _
def XS:∀(l c l' c':Nat),c<256^l→bytesOf l c++bytesOf l' c'=bytesOf (l+l') (c+c'*256^l)
 |0,c,l',c',h=>by simp at h;subst h;simp [bytesOf]
 | l+1,c,l',c',h=>by
  have a1:c/256<256^l:=by rw [gK] at h;omega
  have e1:(c+c'*256^(l+1))%256=c%256:=by
   rw [gK,←fH,Qz]
  have e2:(c+c'*256^(l+1))/256=c/256+c'*256^l:=by
   rw [gK,←fH,Nat.add_mul_div_right _ _ (by decide)]
  have e3:l+1+l'=(l+l')+1:=by omega
  rw [e3];simp only [bytesOf,mF,e1,e2,XS l (c/256) l' c' a1]
def Oc (h:c<256^l) (h':c'<256^l'):c+c'*256^l<256^(l+l'):=by
 have:(c'+1)*256^l≤256^l'*256^l:=fP _ h';rw [GI,dM (256^l)];rw [kC] at this;omega
def PQ (c l:Nat):c<<<(8*l)=c*256^l:=by
 rw [BZ,uV]
def PO (c l:Nat):c>>>(8*l)=c/256^l:=by
 rw [Nat.shiftRight_eq_div_pow,uV]
def XP:∀(l c i:Nat),i<l→(bytesOf l c)[i]?=some (c/256^i%256)
 |0,c,i,h=>by omega
 |l+1,c,0,h=>by simp [bytesOf]
 |l+1,c,i+1,h=>by
  simp only [bytesOf,Rp];rw [XP l (c/256) i (by omega),Qu,gK,dM 256]
def XQ:∀(k l c:Nat),(bytesOf l c).drop k=bytesOf (l-k) (c/256^k)
 |0,l,c=>by simp
 |k+1,0,c=>by simp [bytesOf]
 |k+1,l+1,c=>by
  simp only [bytesOf,gS];rw [XQ k l (c/256),Qu,gK,dM 256];congr 1;omega
def XN:∀(k l c:Nat),k≤l→(bytesOf l c).take k=bytesOf k (c%256^k)
 |0,l,c,h=>by simp [bytesOf]
 |k+1,0,c,h=>by omega
 | k+1,l+1,c,h=>by
  have e1:c%256^(k+1)%256=c%256:=by
   rw [gK,dM];exact Nat.mod_mul_right_mod _ _ _
  have e2:c%256^(k+1)/256=c/256%256^k:=by
   rw [gK,dM];exact Nat.mod_mul_right_div_self _ _ _
  simp only [bytesOf,gL,e1,e2,XN k l (c/256) (by omega)]
def Pg (s t:ByteArray):eU (s++t)=eU s++eU t:=by
 simp [eU,Sd]
def Pf (s:ByteArray) (i j:Nat):eU (s.extract i j)=((eU s).drop i).take (j-i):=by
 obtain⟨⟨l⟩⟩:=s;have:=ByteArray.extract_mk l i j;rw [show(ByteArray.mk ⟨l⟩).extract i j=(ByteArray.mk l.toArray).extract i j from rfl,this];simp [eU,List.map_take,List.map_drop]
def Cq {x y:Value} {v:V} (t:TypeId) (hx:R m (.s l c) x) (hy:R m (.s l' c') y) (h:(HV op).run l c l' c'=some v):
  ∃u,(binOp op t x y).run P w= .ok u w∧R m v u:=by
 rw [iI] at hx hy;obtain⟨s,rfl,hs,hc⟩:=hx;obtain⟨s',rfl,hs',a0⟩:=hy;have he:=IG hs hc hs' a0;have hl:=TE hs hs';cases op<;>simp only [HV] at h<;>(try (cases h;done))
 case add=>
  cases e:Nat.ble (l+l') 1000000000 with
  |false=>rw [e] at h;cases h
  |true=>
   rw [e] at h;cases h;have a4:=cY e;have h1:=tJ hs;have h2:=tJ hs';refine⟨.string (s++s'),by rw [binOp_string_add,run_string_add_sum];omega,?_⟩;rw [iI];refine⟨s++s',rfl,?_,?_⟩
   ·rw [Pg,hs,hs',XS _ _ _ _ hc,PQ]
   ·rw [PQ];exact Oc hc a0
 all_goals
  cases h;refine⟨_,by simp only [binOp,Op.stringOp,dV];rfl,?_⟩;simp only [R,he,hl]
def UG (h:eU s=bytesOf l c) (hi:i<l):∃b:UInt8,s[i]?=some b∧b.toNat=(c>>>(8*i))%256:=by
 have a2:=tJ h;have hg:=XP l c i hi;rw [←h] at hg;simp only [eU,jO,wJ] at hg;obtain⟨b,hb,hb2⟩:=hg;refine⟨b,?_,by rw [PO];exact hb2⟩;rw [ByteArray.getElem?_lt' s i (by omega)];rw [←hb];have:i<s.data.toList.length:=by rw [eZ];exact(by rw [a2];exact hi:i<s.size)
 rw [cE this];rfl
def Du {j:Nat} (h:eU s=bytesOf l c) (a3:i≤j) (hj:j≤l):R m (.s (j-i) ((c>>>(8*i))%2^(8*(j-i)))) (.string (s.extract i j)):=by
 rw [iI];refine⟨_,rfl,?_,?_⟩
 ·rw [Pf,h,XQ,XN _ _ _ (by omega),PO,uV]
 ·rw [uV];exact nP _ (nN (by decide))
end
section
variable {P:Program} {m:Mp} {w:Wo}
def zO (agg:Bool) (n off:Nat) (l:List V):sG agg n (fZ off l)=nV agg off n l:=by
 unfold sG nV;rw [lD,xI,xI,mC,gQ];cases agg with
 |true=>
  show _=qB _;unfold qB;cases mG n (l.drop off)<;>rfl
 |false=>rfl
def VR {h:H} {b f:Id} (hf:xR h b=some f):∃sz els ty,aB b h.mem=some (.cells sz els f (.rw ty))∧sz≠1:=by
 unfold xR at hf;split at hf
 ·rename_i sz els f' ty hb;cases e:Nat.beq sz 1 with
  |true=>rw [e] at hf;cases hf
  |false=>
   rw [e] at hf;cases hf;exact⟨sz,els,ty,hb,fun h1=>by subst h1;simp at e⟩
 ·cases hf
def Em {a b:Addr} (a7:a.block≠b.block)
  (ha:w.heap[a.block]?=some (.cells C t fz)) (hb:w.heap[b.block]?=some (.cells C' t' fz')) (hz:fz.1=fz.2) (a4:fz'.1=fz'.2):
  (sameAddr a b).run P w= .ok false w:=by
 have fa:∀o,w.frozen? ⟨a.block,o,none⟩=false:=by intro o;simp [World.frozen?,ha,hz]
 have fb:∀o,w.frozen? ⟨b.block,o,none⟩=false:=by intro o;simp [World.frozen?,hb,a4]
 have b0:w.frozen? a=false:=by simp [World.frozen?,ha,hz]
 have b1:w.frozen? b=false:=by simp [World.frozen?,hb,a4]
 have sa:w.shape? a.block=some (t,C.size):=by simp [World.shape?,ha]
 have sb:w.shape? b.block=some (t',C'.size):=by simp [World.shape?,hb]
 have a8:(a.block==b.block)=false:=by simpa using a7
 simp [sameAddr,a8,b0,noView,viewAt,sa,sb,mayBeOne,stringish,fa,fb,b1]
def VW {h:H} (k:HR m h w) {q:TypeId→EqT} {D:Nat}
  (hq:∀t x y ux uy r,R m x ux→R m y uy→(q t).run h x y=some r→(Op.equalIn D t ux uy).run P w= .ok r w):
  ∀(fs:List Field) {xs ys:List V} {xs' a3:Lv} {r:Bool},Rl m xs xs'→Rl m ys a3→(∀x∈xs',fI x)→(∀x∈a3,fI x)→
   (xV P q fs).run h (.agg xs) (.agg ys)=some r→(Op.eqFields D ⟨xs'⟩ ⟨a3⟩ fs).run P w= .ok r w
 | [],xs,ys,xs',a3,r,_,_,_,_,he=>by
  have:true=r:=bP he;subst this;simp [Op.eqFields]
 | f :: fs,xs,ys,xs',a3,r,hx,hy,sx,sy,he=>by
  unfold xV at he;split at he
  ·cases he
  ·rename_i a1;cases hs:cF P f.type with
   |none=>rw [hs] at he;cases he
   | some n=>
    rw [hs] at he;simp only [zO] at he;cases ha:nV (gX P f.type) f.offset n xs with
    |none=>rw [ha] at he;cases he
    | some a=>
     cases hb:nV (gX P f.type) f.offset n ys with
     |none=>rw [ha,hb] at he;cases he
     | some b=>
      rw [ha,hb] at he;obtain⟨d,hd⟩:=vG hs;obtain⟨ua,hua,ra⟩:=tS (w:=w) hd hs hx sx ha;obtain⟨ub,hub,rb⟩:=tS (w:=w) hd hs hy sy hb;simp only at he;cases hqr:(q f.type).run h a b with
      |none=>rw [hqr] at he;cases he
      | some r0=>
       rw [hqr] at he;have a2:=hq f.type a b ua ub r0 ra rb hqr;cases r0 with
       |false=>
        have:false=r:=bP he;subst this;simp [Op.eqFields,a1,hua,hub,a2]
       |true=>
        have ih:=VW k hq fs hx hy sx sy he;simp [Op.eqFields,a1,hua,hub,a2,ih]
def uK (d:Nat) (el:TypeId) (n:Nat) (xs ys:Array Value):List Nat→Sem Bool
 | []=>pure true
 |i::is=>do
  let a←part el xs (i*n)
  let b←part el ys (i*n)
  let r←Op.equalIn d el a b
  if(!r)=true then pure false else uK d el n xs ys is
def Eq (d:Nat) (t:TypeId) (len:Nat) (el:TypeId) (n:Nat) (xs ys:Array Value) (ht:P.underlying t=some (.array len el)) (hn:cF P el=some n):
  (Op.equalIn (d+1) t (.agg xs) (.agg ys)).run P w=(uK d el n xs ys (List.range' 0 len)).run P w:=by
 simp only [Op.equalIn,cX,bK ht,eD,jU hn,Qo,Std.Legacy.Range.size,GG,Qy,NT];generalize List.range' 0 len=is;clear ht hn
 induction is generalizing w with
 |nil=>simp [uK]
 | cons i is ih=>
  simp only [As,uK,cX,BV];generalize (part el xs (i*n)).run P w=r1;cases r1 with
  | ok a w1=>
   simp only [eD];generalize (part el ys (i*n)).run P w1=r2;cases r2 with
   | ok b w2=>
    simp only [eD];generalize (Op.equalIn d el a b).run P w2=r3;cases r3 with
    | ok r w3=>
     cases r
     ·simp only [eD,Bd,if_true,dV]
     ·simp only [eD,wQ,fT,kK,dV];exact ih (w:=w3)
    |halt x w3=>simp [Result.andThen]
   |halt x w2=>simp [Result.andThen]
  |halt x w1=>simp [Result.andThen]
def VX {h:H} (k:HR m h w) {q:EqT} {D:Nat} {el:TypeId} {n:Nat} {d:TypeDesc} (hd:P.underlying el=some d) (hn:cF P el=some n)
  (hq:∀x y ux uy r,R m x ux→R m y uy→q.run h x y=some r→(Op.equalIn D el ux uy).run P w= .ok r w)
  {X Y:List V} {X' Y':Lv} (hX:Rl m X X') (hY:Rl m Y Y') (sX:∀x∈X',fI x) (sY:∀x∈Y',fI x):
  ∀(c i:Nat) {r:Bool},eqAs q (gX P el) n c (fZ (i*n) X) (fZ (i*n) Y) h=some r→(uK D el n ⟨X'⟩ ⟨Y'⟩ (List.range' i c)).run P w= .ok r w
 |0,i,r,he=>by
  have:true=r:=bP he;subst this;simp [uK]
 | c + 1,i,r,he=>by
  unfold eqAs at he;simp only [zO] at he;have e0:∀l:List V,sG (gX P el) n (fZ (i*n) l)=nV (gX P el) (i*n) n l:=fun l=>zO _ _ _ _
  cases ha:nV (gX P el) (i*n) n X with
  |none=>rw [ha] at he;cases he
  | some a=>
   cases hb:nV (gX P el) (i*n) n Y with
   |none=>rw [ha,hb] at he;cases he
   | some b=>
    rw [ha,hb] at he;simp only at he;obtain⟨ua,hua,ra⟩:=tS (w:=w) hd hn hX sX ha;obtain⟨ub,hub,rb⟩:=tS (w:=w) hd hn hY sY hb;cases hqr:q.run h a b with
    |none=>rw [hqr] at he;cases he
    | some r0=>
     rw [hqr] at he;have a2:=hq a b ua ub r0 ra rb hqr;cases r0 with
     |false=>
      have:false=r:=bP he;subst this;simp [CH,uK,hua,hub,a2]
     | true=>
      have e1:fZ n (fZ (i*n) X)=fZ ((i+1)*n) X:=by
       rw [lD,lD,lD,HA];congr 1;rw [kC]
      have e2:fZ n (fZ (i*n) Y)=fZ ((i+1)*n) Y:=by
       rw [lD,lD,lD,HA];congr 1;rw [kC]
      simp only [e1,e2] at he;have ih:=VX k hd hn hq hX hY sX sY c (i+1) he;simp [CH,uK,hua,hub,a2,ih]
def xT {h:H} (k:HR m h w):∀(d:Nat) (t:TypeId) (D:Nat),d≤D→∀x y ux uy r,R m x ux→R m y uy→(eqT P d t).run h x y=some r→(Op.equalIn D t ux uy).run P w= .ok r w
 |0,t,D,_,x,y,ux,uy,r,_,_,he=>by cases he
 |d+1,t,0,hD,_,_,_,_,_,_,_,_=>by omega
 | d +1,t,D+1,hD,x,y,ux,uy,r,hx,hy,he=>by
  have ih:=xT k d;unfold eqT at he;cases hu:P.underlying t with
  |none=>rw [hu] at he;cases he
  | some ds=>
   rw [hu] at he;cases ds<;>simp only at he<;>(try (cases he;done))
   case bool=>
    split at he
    ·cases he;simp only [R] at hx hy;subst hx;subst hy;simp [Op.equalIn,bK hu]
    ·cases he
   case int kk=>
    split at he
    ·rename_i k1 a k2 b;cases e:kEq k1 k2 with
     |false=>rw [e] at he;cases he
     |true=>
      rw [e] at he;cases he;have:=(EG _ _).1 e;subst this;simp only [R] at hx hy;subst hx;subst hy;simp [Op.equalIn,bK hu,EO]
    ·cases he
   case string=>
    split at he
    ·cases he;rw [iI] at hx hy;obtain⟨s,rfl,hs,hc⟩:=hx;obtain⟨s',rfl,hs',hc'⟩:=hy;rw [IG hs hc hs' hc'];exact run_equalIn_string w D t s s' hu
    ·cases he
   case pointer e=>
    have a0:∀r,(match x,y with| .pn,.pn=>some true| .pn,.p _ _=>some false| .p _ _,.pn=>some false|_,_=>(none:Option Bool))=some r→(Op.equalIn (D+1) t ux uy).run P w= .ok r w:=by
     intro r he;split at he
     ·cases he;simp only [R] at hx hy;subst hx;subst hy;simp [Op.equalIn,bK hu]
     ·cases he;simp only [R] at hx hy;obtain⟨l,_,rfl⟩:=hy;subst hx;simp [Op.equalIn,bK hu]
     ·cases he;simp only [R] at hx hy;obtain⟨l,_,rfl⟩:=hx;subst hy;simp [Op.equalIn,bK hu]
     ·cases he
    cases hs:cF P e with
    |none=>rw [hs] at he;exact a0 r he
    | some n=>
     cases n with
     |zero=>rw [hs] at he;exact a0 r he
     | succ n=>
      rw [hs] at he;simp only at he;split at he
      ·exact a0 r (by simpa using he)
      ·exact a0 r (by simpa using he)
      ·exact a0 r (by simpa using he)
      ·rename_i b o b' o';simp only [R] at hx hy;obtain⟨l,hl,rfl⟩:=hx;obtain⟨l',hl',rfl⟩:=hy;cases eb:Id.beq b b' with
       | true=>
        rw [eb] at he;simp only [dG,dW] at he;subst he;have:=Id.beq_iff.1 eb;subst this;rw [hl] at hl';cases hl';have e3:Nat.beq o o'=((⟨l.blk,l.base+o,none⟩:Addr)==⟨l.blk,l.base+o',none⟩):=by
         rw [nQ];simp [GL]
        simp only [Op.equalIn,cX,bK hu,eD,jU hs];simp [sameAddr,e3]
       | false=>
        rw [eb] at he;simp only [mO] at he;have a7:b≠b':=fun h=>by rw [Id.beq_iff.2 h] at eb;cases eb
        cases hf:xR h b with
        |none=>rw [hf] at he;cases he
        | some f=>
         cases hf':xR h b' with
         |none=>rw [hf,hf'] at he;cases he
         | some f'=>
          rw [hf,hf'] at he;simp only at he;cases ef:Id.beq f f' with
          |true=>rw [ef] at he;cases he
          | false=>
           rw [ef] at he;cases he;obtain⟨sz,els,ty1,hb,hz⟩:=VR hf;obtain⟨b4,els',ty2,hb',a4⟩:=VR hf';obtain⟨l1,hl1,C,t1,fz,hc⟩:=k.obj _ _ hb;obtain⟨l2,hl2,C',t2,fz',hc'⟩:=k.obj _ _ hb';rw [hl] at hl1;cases hl1;rw [hl'] at hl2;cases hl2;have a6:l.blk≠l'.blk:=fun a2=>by
            have:f=f':=k.sep b b' _ _ l l' hb hb' hl hl' a7 a2;rw [Id.beq_iff.2 this] at ef;cases ef
           have:=Em (P:=P) (a:=⟨l.blk,l.base+o,none⟩) (b:=⟨l'.blk,l'.base+o',none⟩) a6 hc.at_ hc'.at_ (hc.plain rfl hz) (hc'.plain rfl a4);simp only [Op.equalIn,cX,bK hu,eD,jU hs];simp [this]
      ·cases he
   case interface ms=>
    split at he
    ·cases he;simp only [R] at hx hy;subst hx;obtain⟨v',rfl,_⟩:=hy;simp [Op.equalIn,bK hu]
    ·cases he;simp only [R] at hx hy;subst hy;obtain⟨v',rfl,_⟩:=hx;simp [Op.equalIn,bK hu]
    ·rename_i tx vx ty vy;simp only [R] at hx hy;obtain⟨b2,rfl,hvx⟩:=hx;obtain⟨b3,rfl,hvy⟩:=hy;cases e:Nat.beq tx ty with
     |false=>
      rw [e] at he;cases he;have:tx≠ty:=fun h=>by subst h;simp at e
      simp [Op.equalIn,bK hu,this]
     | true=>
      rw [e] at he;simp only [dG] at he;have:=bG e;subst this;cases hi:P.info? tx with
      |none=>rw [hi] at he;cases he
      | some i=>
       rw [hi] at he;simp only at he;cases hc:i.comparable with
       |false=>rw [hc] at he;cases he
       |true=>
        rw [hc] at he;simp only [dG] at he;have:=ih tx D (by omega) vx vy b2 b3 r hvx hvy he;simp [Op.equalIn,bK hu,typeInfo,hi,hc,this]
    ·cases he
   case struct fs=>
    cases hst:P.stoodInHeld t with
    |true=>rw [hst] at he;cases he
    | false=>
     rw [hst] at he;simp only [mO] at he;have a5:∃xs ys,x= .agg xs∧y= .agg ys:=by
      cases hfs:fs.toList with
      |nil=>
       rw [hfs] at he;unfold xV at he;simp only at he;split at he
       ·exact⟨_,_,rfl,rfl⟩
       ·cases he
      | cons f fs'=>
       rw [hfs] at he;unfold xV at he;split at he
       ·cases he
       ·split at he
        ·cases he
        ·simp only at he;split at he
         ·exact⟨_,_,rfl,rfl⟩
         ·cases he
     obtain⟨xs,ys,rfl,rfl⟩:=a5;obtain⟨xs',rfl,hxs,sx⟩:=qC hx;obtain⟨a3,rfl,hys,sy⟩:=qC hy;have a9:P.fieldsOf t=fs:=by simp [Program.fieldsOf,hu]
     rw [run_equalIn_struct w D t _ _ (by rw [a9];exact hu) hst,a9];exact VW k (fun t x y ux uy r hx hy hq=>ih t D (by omega) x y ux uy r hx hy hq) fs.toList hxs hys sx sy he
   case array len el=>
    cases hn:cF P el with
    |none=>rw [hn] at he;cases he
    | some n=>
     rw [hn] at he;simp only at he;split at he
     ·rename_i xs ys;obtain⟨xs',rfl,hxs,sx⟩:=qC hx;obtain⟨a3,rfl,hys,sy⟩:=qC hy;obtain⟨ds,hds⟩:=vG hn;have hz:∀l:List V,fZ (0*n) l=l:=by intro l;rw [lD];simp
      have:=VX (P:=P) k hds hn (fun x y ux uy r hx hy hq=>ih el D (by omega) x y ux uy r hx hy hq) hxs hys sx sy len 0 (r:=r) (by rw [hz,hz];exact he);rw [Eq D t len el n _ _ hu hn];exact this
     ·cases he
   case slice e=>
    split at he<;>(try (cases he;done))<;>cases he<;>simp only [R] at hx hy
    ·subst hx;subst hy;simp [Op.equalIn,bK hu]
    ·subst hx;obtain⟨l,cap,_,rfl,_⟩:=hy;simp [Op.equalIn,bK hu]
    ·subst hy;obtain⟨l,cap,_,rfl,_⟩:=hx;simp [Op.equalIn,bK hu]
    ·subst hy;obtain⟨l,cap,rfl⟩:=hx;simp [Op.equalIn,bK hu]
    ·subst hx;obtain⟨l,cap,rfl⟩:=hy;simp [Op.equalIn,bK hu]
   case map kt et=>
    split at he<;>(try (cases he;done))<;>cases he<;>simp only [R] at hx hy
    ·subst hx;subst hy;simp [Op.equalIn,bK hu]
    ·subst hx;obtain⟨l,_,rfl⟩:=hy;simp [Op.equalIn,bK hu]
    ·subst hy;obtain⟨l,_,rfl⟩:=hx;simp [Op.equalIn,bK hu]
   case func ps rs va=>
    split at he<;>(try (cases he;done))<;>cases he<;>simp only [R] at hx hy
    ·subst hx;subst hy;simp [Op.equalIn,bK hu]
    ·subst hx;obtain⟨a',c',rfl,_⟩:=hy;simp [Op.equalIn,bK hu]
    ·subst hy;obtain⟨a',c',rfl,_⟩:=hx;simp [Op.equalIn,bK hu]
end
section
variable {P:Program} {m:Mp} {w:Wo}
def uP (em:Bool) (d:Nat) (xs:Array Value):List Field→Sem Unit
 | []=>pure ()
 | f::fs=>if f.name≠ "_" then do
   let a←part f.type xs f.offset
   Instr.checkKey em d f.type a
   uP em d xs fs
  else uP em d xs fs
def Er (em:Bool) (d:Nat) (t:TypeId) (fs:Array Field) (xs:Array Value) (ht:P.underlying t=some (.struct fs)):
  (Instr.checkKey em (d+1) t (.agg xs)).run P w=(uP em d xs fs.toList).run P w:=by
 simp only [Instr.checkKey,cX,bK ht,eD];rw [←Array.forIn_toList];generalize fs.toList=l;clear ht
 induction l generalizing w with
 |nil=>simp [uP]
 | cons f l ih=>
  simp only [As,uP,cX,BV];split
  ·generalize (part f.type xs f.offset).run P w=r1;cases r1 with
   |ok a w1=>
    simp only [eD];generalize (Instr.checkKey em d f.type a).run P w1=r2;cases r2 with
    |ok b w2=>simp only [eD,dV];exact ih (w:=w2)
    |halt x w2=>simp [Result.andThen]
   |halt x w1=>simp [Result.andThen]
  ·simp only [dV,eD];exact ih
def vY (em:Bool) (d:Nat) (el:TypeId) (n:Nat) (xs:Array Value):List Nat→Sem Unit
 | []=>pure ()
 |i::is=>do
  let a←part el xs (i*n)
  Instr.checkKey em d el a
  vY em d el n xs is
def Es (em:Bool) (d:Nat) (t:TypeId) (len:Nat) (el:TypeId) (n:Nat) (xs:Array Value) (ht:P.underlying t=some (.array len el)) (hn:cF P el=some n):
  (Instr.checkKey em (d+1) t (.agg xs)).run P w=(vY em d el n xs (List.range' 0 len)).run P w:=by
 simp only [Instr.checkKey,cX,bK ht,eD,Qo,Std.Legacy.Range.size,GG,Qy,NT];generalize List.range' 0 len=is;clear ht
 induction is generalizing w with
 |nil=>simp [vY]
 | cons i is ih=>
  simp only [As,vY,cX,jU hn,eD];generalize (part el xs (i*n)).run P w=r1;cases r1 with
  |ok a w1=>
   simp only [eD];generalize (Instr.checkKey em d el a).run P w1=r2;cases r2 with
   |ok b w2=>simp only [eD,dV];exact ih (w:=w2)
   |halt x w2=>simp [Result.andThen]
  |halt x w1=>simp [Result.andThen]
def WY {em:Bool} {q:TypeId→CkT} {D:Nat} (hq:∀t x ux,R m x ux→(q t).run x=true→(Instr.checkKey em D t ux).run P w= .ok () w):
  ∀(fs:List Field) {xs:List V} {xs':Lv},Rl m xs xs'→(∀x∈xs',fI x)→(yE P q fs).run (.agg xs)=true→(uP em D ⟨xs'⟩ fs).run P w= .ok () w
 | [],xs,xs',_,_,_=>by simp [uP]
 | f ::fs,xs,xs',hx,sx,he=>by
  unfold yE at he;split at he
  ·cases he
  ·rename_i a1;cases hs:cF P f.type with
   |none=>rw [hs] at he;cases he
   | some n=>
    rw [hs] at he;simp only [zO] at he;cases ha:nV (gX P f.type) f.offset n xs with
    |none=>rw [ha] at he;cases he
    |some a=>
     rw [ha] at he;simp only [aR] at he;obtain⟨d,hd⟩:=vG hs;obtain⟨ua,hua,ra⟩:=tS (w:=w) hd hs hx sx ha;have h1:=hq f.type a ua ra he.1;have ih:=WY hq fs hx sx he.2;simp [uP,a1,hua,h1,ih]
def WZ {em:Bool} {q:CkT} {D:Nat} {el:TypeId} {n:Nat} {d:TypeDesc} (hd:P.underlying el=some d) (hn:cF P el=some n)
  (hq:∀x ux,R m x ux→q.run x=true→(Instr.checkKey em D el ux).run P w= .ok () w) {X:List V} {X':Lv} (hX:Rl m X X') (sX:∀x∈X',fI x):
  ∀(c i:Nat),ckAs q (gX P el) n c (fZ (i*n) X)=true→(vY em D el n ⟨X'⟩ (List.range' i c)).run P w= .ok () w
 |0,i,_=>by simp [vY]
 | c+1,i,he=>by
  unfold ckAs at he;simp only [zO] at he;cases ha:nV (gX P el) (i*n) n X with
  |none=>rw [ha] at he;cases he
  | some a=>
   rw [ha] at he;simp only [aR] at he;obtain⟨ua,hua,ra⟩:=tS (w:=w) hd hn hX sX ha;have e1:fZ n (fZ (i*n) X)=fZ ((i+1)*n) X:=by
    rw [lD,lD,lD,HA];congr 1;rw [kC]
   rw [e1] at he;have h1:=hq a ua ra he.1;have ih:=WZ hd hn hq hX sX c (i+1) he.2;simp [CH,vY,hua,h1,ih]
def WX {em:Bool}:∀(d:Nat) (t:TypeId) (D:Nat),d≤D→∀x ux,R m x ux→(ckT P d t).run x=true→(Instr.checkKey em D t ux).run P w= .ok () w
 |0,t,D,_,x,ux,_,he=>by cases he
 |d+1,t,0,hD,_,_,_,_=>by omega
 | d + 1,t,D+1,hD,x,ux,hx,he=>by
  have ih:=WX (em:=em) d;unfold ckT at he;cases hu:P.underlying t with
  |none=>rw [hu] at he;cases he
  | some ds=>
   rw [hu] at he;cases ds<;>simp only at he<;>(try (cases he;done))
   case struct fs=>
    have a2:∃xs,x= .agg xs:=by
     cases hfs:fs.toList with
     |nil=>
      rw [hfs] at he;unfold yE at he;simp only at he;split at he
      ·exact⟨_,rfl⟩
      ·cases he
     | cons f fs'=>
      rw [hfs] at he;unfold yE at he;split at he
      ·cases he
      ·split at he
       ·cases he
       ·simp only at he;split at he
        ·exact⟨_,rfl⟩
        ·cases he
    obtain⟨xs,rfl⟩:=a2;obtain⟨xs',rfl,hxs,sx⟩:=qC hx;rw [Er em D t fs _ hu];exact WY (fun t x ux hx hq=>ih t D (by omega) x ux hx hq) fs.toList hxs sx he
   case array len el=>
    cases hn:cF P el with
    |none=>rw [hn] at he;cases he
    | some n=>
     rw [hn] at he;simp only at he;split at he
     ·rename_i xs;obtain⟨xs',rfl,hxs,sx⟩:=qC hx;obtain⟨ds,hds⟩:=vG hn;rw [Es em D t len el n _ hu hn];have hz:fZ (0*n) xs=xs:=by rw [lD];simp
      exact WZ hds hn (fun x ux hx hq=>ih el D (by omega) x ux hx hq) hxs sx len 0 (by rw [hz];exact he)
     ·cases he
   all_goals simp [Instr.checkKey,bK hu]
def cR.length:∀{es:List Ent} {xs:List MapEntry},cR m es xs→xs.length=es.length
 | [],_,k=>by simp only [cR] at k;subst k;rfl
 |e::es,_,k=>by obtain⟨x,xs,rfl,_,h⟩:=k;simp [cR.length h]
def cR.get:∀{es:List Ent} {xs:List MapEntry},cR m es xs→∀{i:Nat} {e:Ent},es[i]?=some e→∃x,xs[i]?=some x∧EntR m e x
 | [],_,_,i,e,h=>by simp at h
 |a::es,_,k,i,e,h=>by
  obtain⟨x,xs,rfl,hx,hxs⟩:=k;cases i with
  |zero=>simp at h;subst h;exact⟨x,rfl,hx⟩
  |succ i=>simp at h ⊢;exact cR.get hxs h
def VK {h:H} (k:HR m h w) {kt:TypeId} {key:V} {a0:Value} (hk:R m key a0):
  ∀(es:List Ent) (xs:List MapEntry) (i:Nat) {r:Option (Nat × Ent)},cR m es xs→ES (eqT P 20 kt) h key es i=some r→
   (Instr.findAsking kt a0 xs i).run P w= .ok (r.map fun x=>(x.1,(xs.getD (x.1-i) default).val)) w∧(∀x,r=some x→i≤x.1∧es[x.1-i]?=some x.2)
 | [],xs,i,r,hx,he=>by
  simp only [cR] at hx;subst hx;have:none=r:=bP he;subst this;simp [Instr.findAsking]
 | e ::es,xs,i,r,hx,he=>by
  obtain⟨x,xs',rfl,hx1,hxs⟩:=hx;unfold ES at he;cases hq:(eqT P 20 kt).run h key e.key with
  |none=>rw [hq] at he;cases he
  | some b=>
   rw [hq] at he;have a3:(Op.equal kt a0 x.key).run P w= .ok b w:=xT k 20 kt 10000 (by omega) key e.key a0 x.key b hk hx1.1 hq;cases b with
   |true=>
    have:some (i,e)=r:=bP he;subst this;refine⟨by simp [Instr.findAsking,a3],?_⟩;intro y hy;cases hy;simp
   | false=>
    obtain⟨a5,ih2⟩:=VK k hk es xs' (i+1) hxs he;refine⟨?_,?_⟩
    ·simp only [Instr.findAsking,cX,a3,eD,fT,kK,a5];cases r with
     |none=>rfl
     |some y=>
      have:=(ih2 y rfl).1;have e1:y.1-i=(y.1-(i+1))+1:=by omega
      simp [e1]
    ·intro y hy;obtain⟨h1,h2⟩:=ih2 y hy;have e1:y.1-i=(y.1-(i+1))+1:=by omega
     exact⟨by omega,by rw [e1];simpa using h2⟩
def Ej (hu:P.underlying kt=some ds) {k k':Value} {b:Bool} (hb:Instr.sameNow ds k k'=some b):(Op.equal kt k k').run P w= .ok b w:=by
 unfold Instr.sameNow at hb;split at hb
 ·rename_i kk k1 a k2 b';split at hb
  ·rename_i a4;subst a4;cases hb;exact run_equalIn_int w 9999 kt k1 kk a b' hu
  ·cases hb
 ·rename_i a b';cases hb;rw [beq_toListBytes];exact run_equalIn_string w 9999 kt a b' hu
 ·rename_i a b';cases hb;exact run_equalIn_bool' w 9999 kt a b' hu
 ·cases hb
def VN {kt:TypeId} {ds:TypeDesc} (hu:P.underlying kt=some ds) {k:Value}:∀(xs:List MapEntry) (i:Nat) {r:Option (Nat × Value)},Instr.findNow ds k xs i=some r→(Instr.findAsking kt k xs i).run P w= .ok r w
 | [],i,r,h=>by
  have:none=r:=bP h;subst this;simp [Instr.findAsking]
 | x::xs,i,r,h=>by
  unfold Instr.findNow at h;have same:∀b,Instr.sameNow ds k x.key=some b→(Op.equal kt k x.key).run P w= .ok b w:=fun b hb=>Ej hu hb
  split at h
  ·rename_i hb;have:some (i,x.val)=r:=bP h;subst this;simp [Instr.findAsking,same _ hb]
  ·rename_i hb;simp [Instr.findAsking,same _ hb,VN hu xs (i+1) h]
  ·cases h
def Ly (hu:P.underlying kt=some ds) {k:Value} {xs:List MapEntry}:(Instr.findKey kt k xs).run P w=(Instr.findAsking kt k xs 0).run P w:=by
 simp only [Instr.findKey,cX,bK hu,eD];split
 ·rename_i r hr;rw [VN hu xs 0 hr];rfl
 ·rfl
end
section
variable {P:Program} {m:Mp} {w:Wo}
def sP {h:H} (k:HR m h w) {b:Id} {es:List Ent} {c:Nat} (he:kH h b=some (es,c)):
  ∃l es',aB b h.mem=some (.map es c)∧m b=some l∧w.heap[l.blk]?=some (.map ⟨es'⟩ c)∧cR m es es':=by
 unfold kH at he;split at he
 ·rename_i a6 c0 hb;cases he;obtain⟨l,hl,es',h1,h2⟩:=k.obj _ _ hb;exact⟨l,es',hb,hl,h1,h2⟩
 ·cases he
def ET {h:H} (k:HR m h w) {kt:TypeId} {key:V} {a0:Value} (hk:R m key a0) {es:List Ent} {xs:List MapEntry} {r:Option (Nat × Ent)} (hx:cR m es xs)
  (he:qY P kt h key es=some r) (em:Bool):
  (Instr.checkKey em 10000 kt a0).run P w= .ok () w∧(Instr.findKey kt a0 xs).run P w= .ok (r.map fun x=>(x.1,(xs.getD x.1 default).val)) w∧
   (∀x,r=some x→es[x.1]?=some x.2∧∃y,xs[x.1]?=some y∧EntR m x.2 y):=by
 unfold qY at he;cases hc:(ckT P 20 kt).run key with
 |false=>rw [hc] at he;cases he
 | true=>
  rw [hc] at he;simp only [dG] at he;have hu:∃ds,P.underlying kt=some ds:=by
   unfold ckT at hc;cases hu:P.underlying kt with
   |none=>rw [hu] at hc;cases hc
   |some ds=>exact⟨ds,rfl⟩
  obtain⟨ds,hu⟩:=hu;obtain⟨h1,h2⟩:=VK k hk es xs 0 hx he;refine⟨WX 20 kt 10000 (by omega) key a0 hk hc,?_,?_⟩
  ·rw [Ly hu,h1];simp
  ·intro x a4;obtain⟨_,h3⟩:=h2 x a4;simp at h3;exact⟨h3,hx.get h3⟩
def run_getMap {b:Nat} {xs:List MapEntry} (hb:w.heap[b]?=some (.map ⟨xs⟩ c)):(getObj b).run P w= .ok (.map ⟨xs⟩ c) w:=by
 simp [getObj,Sem.run,hb]
def TI {h:H} (k:HR m h w) {t kt et:TypeId} {z:V} {ok:Bool} {key:V} {a0:Value} {es:List Ent} {xs:List MapEntry} {v:V} {x:Value}
  (hu:P.underlying t=some (.map kt et)) (hz:iF P et=some z) (hk:R m key a0) (hx:cR m es xs)
  (a3:(∃b c,x= .map (some b)∧w.heap[b]?=some (.map ⟨xs⟩ c))∨(x= .map none∧xs= []))
  (hv:DZ P kt z ok h key es=some v):∃u,(Instr.lookup t x a0 ok).run P w= .ok u w∧R m v u:=by
 obtain⟨uz,hzr,hzc,_⟩:=mV (w:=w) hz;unfold DZ at hv;cases hf:qY P kt h key es with
 |none=>rw [hf] at hv;cases hv
 | some r=>
  rw [hf] at hv;obtain⟨h1,h2,h3⟩:=ET k hk hx hf xs.isEmpty;have a1:(⟨xs⟩:Array MapEntry).isEmpty=xs.isEmpty:=by cases xs<;>rfl
  cases r with
  | none=>
   have a2:some (if ok then V.tup [z,.b false] else z)=some v:=hv;cases a2;refine⟨if ok then .tuple #[uz,.bool false] else uz,?_,?_⟩
   ·rcases a3 with⟨b,c,rfl,hb⟩|⟨rfl,rfl⟩
    ·simp only [Instr.lookup,cX,bK hu,eD,run_getMap hb,a1,h1,h2,NK,hzr,dV]
    ·simp only [Instr.lookup,cX,bK hu,eD,a1,h1,h2,NK,hzr,dV]
   ·cases ok
    ·simpa [hzc] using uN m uz
    ·simp only [if_true,R,Rl];exact⟨_,rfl,_,_,rfl,by rw [hzc];exact uN m uz,_,_,rfl,rfl,rfl⟩
  | some p=>
   obtain⟨i,e⟩:=p;obtain⟨a7,y,hy,hye⟩:=h3 _ rfl;simp only at hy;have a5:(xs.getD i default).val=y.val:=by simp [Rq,hy]
   have a2:some (if ok then V.tup [e.val,.b true] else e.val)=some v:=hv;cases a2;refine⟨if ok then .tuple #[y.val,.bool true] else y.val,?_,?_⟩
   ·rcases a3 with⟨b,c,rfl,hb⟩|⟨rfl,rfl⟩
    ·simp only [Instr.lookup,cX,bK hu,eD,run_getMap hb,a1,h1,h2,rP,a5,dV]
    ·simp at hy
   ·cases ok
    ·simpa using hye.2.1
    ·simp only [if_true,R,Rl];exact⟨_,rfl,_,_,rfl,hye.2.1,_,_,rfl,rfl,rfl⟩
end
section
variable {P:Program} {m:Mp} {w:Wo}
def uU {e:Env} (k:dE m n e a) (hg:Gl P m) {x:Option Operand} {d:Nat} {f:Nat→Option V} {v:V} (hx:∀y,x=some y→dX P n y=true)
  (h:bnd x d e f=some v):∃j,f j=some v∧((x=none∧j=d)∨∃y kk,x=some y∧a.eval y= .int kk (.ofNat j)):=by
 cases x with
 |none=>exact⟨d,h,.inl ⟨rfl,rfl⟩⟩
 |some y=>
  obtain⟨kk,j,hj,hf⟩:=yN h;have:=eI k hg (hx y rfl);rw [hj] at this;simp only [R] at this;exact⟨j,hf,.inr ⟨y,kk,rfl,this⟩⟩
def FQ {lo hi:Option Value} (hl:lo=none∧l=0∨∃k,lo=some (.int k (.ofNat l))) (hh:hi=none∧h=len∨∃k,hi=some (.int k (.ofNat h)))
  (h1:l≤h) (h2:h≤len) (h3:len≤cap):(Instr.sliceBounds isS len cap lo hi none).run P w= .ok (l,h,cap) w:=by
 have hb:∀(k:IntKind) (j y:Nat) (c:BoundsCode),j≤y→(Instr.sliceBound (.int k (j:Int)) y c).run P w= .ok j w:=by
  intro k j y c hj;have:(0:Int)≤(j:Int)∧(j:Int)≤(y:Int):=⟨by omega,by omega⟩;simp only [Instr.sliceBound,asIntOf,cX,dV,eD,this,and_self,if_true];rfl
 rcases hl with⟨rfl,rfl⟩|⟨k1,rfl⟩<;>rcases hh with⟨rfl,rfl⟩|⟨k2,rfl⟩
 ·simp [Instr.sliceBounds]
 ·simp [Instr.sliceBounds,hb k2 h cap _ (by omega)]
 ·simp [Instr.sliceBounds,hb k1 l _ _ h1]
 ·simp [Instr.sliceBounds,hb k1 l _ _ h1,hb k2 h cap _ (by omega)]
def Dv {e:Env} (k:dE m n e a) (hg:Gl P m) {t:TypeId} {x:Operand} {lo hi:Option Operand} (hx:dX P n x=true)
  (a4:∀y,lo=some y→dX P n y=true) (a3:∀y,hi=some y→dX P n y=true) {hh:H} {v:V} (hv:(IC P t x lo hi).run e hh=some v):
  ∃u,(Instr.sliceAt t (a.eval x) (lo.map a.eval) (hi.map a.eval) none).run P w= .ok u w∧R m v u:=by
 have hX:=eI k hg hx;have conv:∀{z:Option Operand} {d j:Nat},((z=none∧j=d)∨∃y kk,z=some y∧a.eval y= .int kk (.ofNat j))→(z.map a.eval=none∧j=d∨∃kk,z.map a.eval=some (.int kk (.ofNat j))):=by
  rintro z d j (⟨rfl,rfl⟩|⟨y,kk,rfl,h⟩)
  ·exact .inl ⟨rfl,rfl⟩
  ·exact .inr ⟨kk,by simp [h]⟩
 have a0:∀{sz b o len z:_} {el:TypeId} (u:Value),R m (.sl b o len z) u→z=sz+1→cF P el=some (sz+1)→PJ (sz+1) lo hi e b o len z=some v→
   ∃j i ll cap,m b=some ll∧u= .slice (some ⟨ll.blk,ll.base+o,none⟩) len cap∧i≤j∧j≤len∧len≤cap∧
    (lo.map a.eval=none∧i=0∨∃kk,lo.map a.eval=some (.int kk (.ofNat i)))∧(hi.map a.eval=none∧j=len∨∃kk,hi.map a.eval=some (.int kk (.ofNat j)))∧
    R m v (.slice (some (if cap=i then⟨ll.blk,ll.base+o,none⟩ else⟨ll.blk,ll.base+o+i*(sz+1),none⟩)) (j-i) (cap-i)):=by
  intro sz b o len z el u hu hz hs hv;subst hz;obtain⟨j,hv,hj⟩:=uU k hg a3 hv;obtain⟨i,hv,hi'⟩:=uU k hg a4 hv;obtain⟨hc,hv⟩:=lQ hv;simp only [aR] at hc;have h1:=cY hc.1;have h2:=cY hc.2;simp only [R] at hu;obtain⟨ll,cap,hll,rfl,hlc,hlim⟩:=hu;refine⟨j,i,ll,cap,hll,rfl,h1,h2,hlc,conv hi',conv hj,?_⟩;rcases pV hv with⟨hb,hv⟩|⟨hb,hv⟩
  ·cases hv;simp only [aR] at hb;have:i=j:=bG hb.1;subst this;simp only [R,rQ];exact⟨_,_,rfl⟩
  ·cases hv;have a7:cap=i→i=0:=by
    intro a2;simp only [Se] at hb;rcases hb with hb|hb
    ·have:i=j:=by omega
     rw [this] at hb;simp at hb
    ·simpa using hb
   simp only [R];refine⟨ll,cap-i,hll,?_,by show j-i≤cap-i;omega,?_⟩
   ·show Value.slice _ _ _=Value.slice _ _ _
    by_cases a2:cap=i
    ·have:=a7 a2;subst this;simp [a2]
    ·simp only [if_neg a2];have e1:Nat.add o (Nat.mul i (sz+1))=o+i*(sz+1):=rfl;have e2:Nat.sub j i=j-i:=rfl;rw [e1,e2,pJ]
   ·show o+i*(sz+1)+(cap-i)*(sz+1)≤ll.lim;have:i*(sz+1)+(cap-i)*(sz+1)=cap*(sz+1):=by
     rw [←eO];congr 1;omega
    omega
 unfold IC at hv;cases hu:P.underlying t with
 |none=>rw [hu] at hv;cases hv
 | some ds=>
  rw [hu] at hv;cases ds<;>simp only at hv<;>(try (cases hv;done))
  case string=>
   obtain⟨len,c,hs,hv⟩:=yL hv;rw [hs] at hX;obtain⟨j,hv,hj⟩:=uU k hg a3 hv;obtain⟨i,hv,hi'⟩:=uU k hg a4 hv;obtain⟨hc,hv⟩:=lQ hv;cases hv;simp only [aR] at hc;have h1:=cY hc.1;have h2:=cY hc.2;rw [iI] at hX;obtain⟨s,hse,hb,hc2⟩:=hX;have a8:=tJ hb;have hr:=FQ (P:=P) (w:=w) (isS:=false) (len:=s.size) (cap:=s.size) (conv hi') (by rw [a8];exact conv hj) h1 (by omega) (aA _);refine⟨.string (s.extract i j),?_,Du hb h1 h2⟩;rw [hse];simp [Instr.sliceAt,bK hu,Instr.slice,hr]
  case slice el=>
   cases hs:cF P el with
   |none=>rw [hs] at hv;cases hv
   | some sz=>
    cases sz with
    |zero=>rw [hs] at hv;cases hv
    | succ sz=>
     rw [hs] at hv;simp only at hv;rcases BN hv with⟨b,o,len,z,a1,hv⟩|⟨_,hv⟩
     ·rw [a1] at hX;obtain⟨hz,hv⟩:=lQ hv;have hz:=bG hz;obtain⟨j,i,ll,cap,hll,hue,h1,h2,h3,hlo',hhi',hR⟩:=a0 _ hX hz hs hv;have hr:=FQ (P:=P) (w:=w) (isS:=true) hlo' hhi' h1 h2 h3;refine⟨_,?_,hR⟩;rw [hue];simp [Instr.sliceAt,bK hu,Instr.slice,hr,jU hs];split<;>simp [rK]
     ·rcases MU hv with⟨a1,hv⟩|⟨_,hv⟩
      ·rw [a1] at hX;obtain⟨j,hv,hj⟩:=uU k hg a3 hv;obtain⟨i,hv,hi'⟩:=uU k hg a4 hv;obtain⟨hc,hv⟩:=lQ hv;cases hv;simp only [aR] at hc;have a6:=bG hc.1;have a5:=bG hc.2;subst a6;subst a5;simp only [R] at hX;have hr:=FQ (P:=P) (w:=w) (isS:=true) (len:=0) (cap:=0) (conv hi') (conv hj) (aA _) (aA _) (aA _);refine⟨.slice none 0 0,?_,by simp [R]⟩;rw [hX];simp [Instr.sliceAt,bK hu,Instr.slice,hr,jU hs]
      ·obtain⟨a1,hv⟩:=YR hv;rw [a1] at hX;obtain⟨j,hv,hj⟩:=uU k hg a3 hv;obtain⟨i,hv,hi'⟩:=uU k hg a4 hv;obtain⟨hc,hv⟩:=lQ hv;cases hv;simp only [aR] at hc;have a6:=bG hc.1;have a5:=bG hc.2;subst a6;subst a5;simp only [R] at hX;obtain⟨ad,cap,hue⟩:=hX;have hr:=FQ (P:=P) (w:=w) (isS:=true) (len:=0) (cap:=cap) (conv hi') (conv hj) (aA _) (aA _) (cJ _);rw [hue];refine⟨.slice (if cap=0 then some ad else some (ad.add 0)) 0 cap,?_,?_⟩
       ·simp [Instr.sliceAt,bK hu,Instr.slice,hr,jU hs]
       ·simp only [R];split<;>exact⟨_,_,rfl⟩
end
section
variable {P:Program} {m:Mp} {w:Wo}
def xU {x y:Operand} {a b:Value} (h1:¬(a= .nilIface∧b= .nilIface)) (h2:(∀xs,a≠ .agg xs)∨P.eqGuardType P.depth t=false):
  (eqGuard op t x y a b).run P w= .ok () w:=by
 unfold eqGuard;cases op<;>first
  |rfl
  | (
    simp only [wQ,fT,kK];split
    ·exact absurd ⟨rfl,rfl⟩ h1
    ·rename_i xs ys;rcases h2 with h2|h2
     ·exact absurd rfl (h2 xs)
     ·simp [h2]
    ·rfl)
def Mo {x y:Operand} (h:qV x=true∨qV y=true):(eqGuard op t x y .nilIface .nilIface).run P w= .ok () w:=by
 unfold eqGuard;cases op<;>first
  |rfl
  | (
    rcases h with h|h
    ·cases x<;>first|(cases h;done)|simp
    ·cases y<;>first|(cases h;done)|simp)
def Ec {a b:Int} {v:V} (t:TypeId) (a1:op= .shl∨op= .shr) (h:CW op k a b=some v):∃u,(binOp op t (.int k a) (.int k' b)).run P w= .ok u w∧R m v u:=by
 unfold CW at h;cases hb:iLt b 0 with
 |true=>rw [hb] at h;cases h
 | false=>
  rw [hb] at h;rw [EN] at hb;have a0:¬b<0:=by simpa using hb
  rcases a1 with rfl|rfl
  ·cases h;exact⟨_,by simp only [binOp,Op.shift,a0,kK,dV];rfl,by simp [R]⟩
  ·cases h;exact⟨_,by simp only [binOp,Op.shift,a0,kK,dV];rfl,by simp [R]⟩
def OD {v:V} (h:yesO x=some v):∃b,x=some b∧v= .b b:=by cases x<;>cases h;exact⟨_,rfl,rfl⟩
def SJ {v:V} (h:notO x=some v):∃b,x=some b∧v= .b (!b):=by cases x<;>cases h;exact⟨_,rfl,rfl⟩
def BJ {x y:Value} (hx:∀k n,x≠ .int k n) (hs:∀s,x≠ .string s) (hf:∀k n,x≠ .float k n) (hc:∀k a b,x≠ .complex k a b) (h:(Op.equal t x y).run P w= .ok r w):
  (binOp .eql t x y).run P w= .ok (.bool r) w∧(binOp .neq t x y).run P w= .ok (.bool (!r)) w:=by
 constructor
 ·unfold binOp
  split<;>first
   |exact absurd rfl (hx _ _)
   |exact absurd rfl (hs _)
   |exact absurd rfl (hf _ _)
   |exact absurd rfl (hc _ _ _)
   |(simp [h];done)
   |(simp_all;done)
 ·unfold binOp
  split<;>first
   |exact absurd rfl (hx _ _)
   |exact absurd rfl (hs _)
   |exact absurd rfl (hf _ _)
   |exact absurd rfl (hc _ _ _)
   |(simp [h];done)
   |(simp_all;done)
end
section
variable {P:Program} {m:Mp} {w:Wo}
def Ie {x:V} (h:okEq x=true) (hR:R m x u):(∀k n,u≠ .int k n)∧(∀s,u≠ .string s)∧(∀k n,u≠ .float k n)∧(∀k a b,u≠ .complex k a b)∧u≠ .nilIface:=by
 cases x<;>simp only [okEq,fT] at h<;>simp only [R] at hR
 all_goals first
  |(subst hR;simp;done)
  |(obtain⟨_,rfl,_⟩:=hR;simp;done)
  |(obtain⟨_,_,rfl⟩:=hR;simp;done)
  |(obtain⟨_,_,_,rfl,_⟩:=hR;simp;done)
  |(obtain⟨_,_,rfl,_⟩:=hR;simp;done)
def Ps {e:Env} (k:dE m n e a) (hg:Gl P m) {h:H} (hr:HR m h w) {op:BinOp} {t:TypeId} {x y:Operand} (hx:dX P n x=true) (hy:dX P n y=true)
  {v:V} (hv:(binC P op t x y).run e h=some v):∃u,(do eqGuard op t x y (a.eval x) (a.eval y);binOp op t (a.eval x) (a.eval y):Sem Value).run P w= .ok u w∧R m v u:=by
 have hX:=eI k hg hx;have hY:=eI k hg hy;have fin:(eqGuard op t x y (a.eval x) (a.eval y)).run P w= .ok () w→(∃u,(binOp op t (a.eval x) (a.eval y)).run P w= .ok u w∧R m v u)→
   ∃u,(do eqGuard op t x y (a.eval x) (a.eval y);binOp op t (a.eval x) (a.eval y):Sem Value).run P w= .ok u w∧R m v u:=by
  rintro h1 ⟨u,h2,h3⟩;exact⟨u,by simp [h1,h2],h3⟩
 have other:P.eqGuardType P.depth t=false→(op= .eql∧yesO (xS P t h ((aD x).run e) ((aD y).run e))=some v∨op= .neq∧notO (xS P t h ((aD x).run e) ((aD y).run e))=some v)→
   ∃u,(do eqGuard op t x y (a.eval x) (a.eval y);binOp op t (a.eval x) (a.eval y):Sem Value).run P w= .ok u w∧R m v u:=by
  intro a0 a5;have val:∀b,xS P t h ((aD x).run e) ((aD y).run e)=some b→(eqGuard op t x y (a.eval x) (a.eval y)).run P w= .ok () w∧
    (binOp .eql t (a.eval x) (a.eval y)).run P w= .ok (.bool b) w∧(binOp .neq t (a.eval x) (a.eval y)).run P w= .ok (.bool (!b)) w:=by
   intro b hb;unfold xS at hb;cases ho:okEq ((aD x).run e) with
   |false=>rw [ho] at hb;cases hb
   |true=>
    rw [ho] at hb;obtain⟨s1,s2,s3,s4,s5⟩:=Ie ho hX;have a1:=xT hr 20 t 10000 (by omega) _ _ _ _ b hX hY hb;exact⟨xU (fun hh=>s5 hh.1) (.inr a0),BJ s1 s2 s3 s4 a1⟩
  rcases a5 with⟨rfl,hv1⟩|⟨rfl,hv1⟩
  ·obtain⟨b,hb,rfl⟩:=OD hv1;obtain⟨h1,h2,h3⟩:=val b hb;exact fin h1 ⟨_,h2,by simp [R]⟩
  ·obtain⟨b,hb,rfl⟩:=SJ hv1;obtain⟨h1,h2,h3⟩:=val b hb;exact fin h1 ⟨_,h3,by simp [R]⟩
 unfold binC at hv;cases hu:P.underlying t with
 | none=>
  rw [hu] at hv;simp only at hv;cases a0:P.eqGuardType P.depth t with
  |true=>rw [a0] at hv;cases hv
  |false=>
   rw [a0] at hv;simp only [mO] at hv;cases op<;>first|(cases hv;done)|exact other a0 (.inl ⟨rfl,hv⟩)|exact other a0 (.inr ⟨rfl,hv⟩)
 | some ds=>
  rw [hu] at hv;cases ds
  case int kk=>
   simp only at hv;have a3:∀{k1 k2:IntKind} {A B:Int},(aD x).run e= .i k1 A→(aD y).run e= .i k2 B→a.eval x= .int k1 A∧a.eval y= .int k2 B:=by
    intro k1 k2 A B h1 h2;rw [h1] at hX;rw [h2] at hY;simpa only [R] using And.intro hX hY
   have gd:∀{k1 k2:IntKind} {A B:Int},a.eval x= .int k1 A→a.eval y= .int k2 B→(eqGuard op t x y (a.eval x) (a.eval y)).run P w= .ok () w:=by
    intro k1 k2 A B h1 h2;rw [h1,h2];exact xU (by simp) (.inl (by simp))
   by_cases a2:op= .shl∨op= .shr
   ·have a4:jB ((aD x).run e) (fun k a=>jB ((aD y).run e) (fun _ b=>CW op k a b) none) none=some v:=by
     rcases a2 with rfl|rfl<;>exact hv
    obtain⟨k1,A,e1,hv1⟩:=pH a4;obtain⟨k2,B,e2,hv2⟩:=pH hv1;obtain⟨i1,i2⟩:=a3 e1 e2;refine fin (gd i1 i2) ?_;rw [i1,i2];exact Ec t a2 hv2
   ·have a4:jB ((aD x).run e) (fun k a=>jB ((aD y).run e) (fun k' b=>fL (kEq k k') ((EL op).run k a b) none) none) none=some v:=by
     cases op<;>first|exact hv|exact absurd (.inl rfl) a2|exact absurd (.inr rfl) a2
    obtain⟨k1,A,e1,hv1⟩:=pH a4;obtain⟨k2,B,e2,hv2⟩:=pH hv1;obtain⟨hk,hv3⟩:=lQ hv2;obtain⟨i1,i2⟩:=a3 e1 e2;have:=(EG _ _).1 hk;subst this;refine fin (gd i1 i2) ?_;rw [i1,i2];exact Kj t ⟨fun h=>a2 (.inl h),fun h=>a2 (.inr h)⟩ hv3
  case string=>
   simp only at hv;obtain⟨l,c,e1,hv1⟩:=yL hv;obtain⟨l',c',e2,hv2⟩:=yL hv1;rw [e1] at hX;rw [e2] at hY;refine fin ?_ (Cq t hX hY hv2);rw [iI] at hX hY;obtain⟨s,h1,_⟩:=hX;obtain⟨s',h2,_⟩:=hY;rw [h1,h2];exact xU (by simp) (.inl (by simp))
  case interface ms=>
   simp only at hv;have val:∀b,EV P t (qV x||qV y) h ((aD x).run e) ((aD y).run e)=some b→(eqGuard op t x y (a.eval x) (a.eval y)).run P w= .ok () w∧
     (binOp .eql t (a.eval x) (a.eval y)).run P w= .ok (.bool b) w∧(binOp .neq t (a.eval x) (a.eval y)).run P w= .ok (.bool (!b)) w:=by
    intro b hb;generalize a6:(aD x).run e=X at hX hb;generalize a7:(aD y).run e=Y at hY hb;unfold EV at hb;split at hb
    ·cases hc:(qV x||qV y) with
     |false=>rw [hc] at hb;cases hb
     |true=>
      rw [hc] at hb;cases hb;simp only [R] at hX hY;rw [hX,hY];refine⟨Mo (by simpa using hc),BJ (by simp) (by simp) (by simp) (by simp) ?_⟩;have nn:∀D,(Op.equalIn (D+1) t .nilIface .nilIface).run P w= .ok true w:=fun D=>by simp [Op.equalIn,bK hu]
      exact nn 9999
    ·cases hb;have a1:=xT (P:=P) hr 20 t 10000 (by omega) .ni (.ifc _ _) _ _ false hX hY (by unfold eqT;rw [hu]);simp only [R] at hX hY;obtain⟨v',h2,_⟩:=hY;rw [hX,h2] at a1 ⊢;exact⟨xU (by simp) (.inl (by simp)),BJ (by simp) (by simp) (by simp) (by simp) a1⟩
    ·cases hb;have a1:=xT (P:=P) hr 20 t 10000 (by omega) (.ifc _ _) .ni _ _ false hX hY (by unfold eqT;rw [hu]);simp only [R] at hX hY;obtain⟨v',h2,_⟩:=hX;rw [hY,h2] at a1 ⊢;exact⟨xU (by simp) (.inl (by simp)),BJ (by simp) (by simp) (by simp) (by simp) a1⟩
    ·have a1:=xT (P:=P) hr 20 t 10000 (by omega) _ _ _ _ b hX hY hb;simp only [R] at hX hY;obtain⟨v1,h1,_⟩:=hX;obtain⟨v2,h2,_⟩:=hY;rw [h1,h2] at a1 ⊢;exact⟨xU (by simp) (.inl (by simp)),BJ (by simp) (by simp) (by simp) (by simp) a1⟩
    ·cases hb
   cases op<;>first|(cases hv;done)|skip
   ·obtain⟨b,hb,rfl⟩:=OD hv;obtain⟨h1,h2,h3⟩:=val b hb;exact fin h1 ⟨_,h2,by simp [R]⟩
   ·obtain⟨b,hb,rfl⟩:=SJ hv;obtain⟨h1,h2,h3⟩:=val b hb;exact fin h1 ⟨_,h3,by simp [R]⟩
  all_goals
   simp only at hv;cases a0:P.eqGuardType P.depth t with
   |true=>rw [a0] at hv;cases hv
   |false=>
    rw [a0] at hv;simp only [mO] at hv;cases op<;>first|(cases hv;done)|exact other a0 (.inl ⟨rfl,hv⟩)|exact other a0 (.inr ⟨rfl,hv⟩)
end
section
variable {P:Program} {m:Mp} {w:Wo}
def RX {α:Type}:∀(l xs:List α) {r:List α},over l xs=some r→xs.length≤l.length∧r=xs++l.drop xs.length
 |l,[],r,h=>by cases l<;>(simp [over] at h;subst h;simp)
 | [],_::_,r,h=>by simp [over] at h
 | a::l,x::xs,r,h=>by
  simp only [over] at h;cases e:over l xs with
  |none=>rw [e] at h;cases h
  |some r'=>
   rw [e] at h;cases h;obtain⟨h1,rfl⟩:=RX l xs e;exact⟨by simp;omega,by simp⟩
def xE {α:Type}:∀(n:Nat) (l xs:List α) {r:List α},jY n l xs=some r→n+xs.length≤l.length∧r=l.take n++xs++l.drop (n+xs.length)
 |0,l,xs,r,h=>by
  have h':over l xs=some r:=by cases l<;>simpa [jY] using h
  obtain⟨h1,rfl⟩:=RX l xs h';exact⟨by omega,by simp⟩
 |n+1,[],xs,r,h=>by simp [jY] at h
 | n+1,a::l,xs,r,h=>by
  simp only [jY] at h;cases e:jY n l xs with
  |none=>rw [e] at h;cases h
  |some r'=>
   rw [e] at h;cases h;obtain⟨h1,rfl⟩:=xE n l xs e;refine⟨by simp;omega,?_⟩;have e1:n+1+xs.length=(n+xs.length)+1:=by omega
   rw [e1];simp
def VG (off:Nat):∀(xs:Lv) (k:Nat) (cs:Array Value),off+k+xs.length≤cs.size→
  ((xs.zipIdx k).foldl (fun cs (x:Value × Nat)=>cs.setIfInBounds (off+x.2) x.1) cs).toList=cs.toList.take (off+k)++xs++cs.toList.drop (off+k+xs.length)
 | [],k,cs,h=>by simp
 | x::xs,k,cs,h=>by
  simp only [List.zipIdx_cons,wP];simp only [jD] at h;rw [VG off xs (k+1) _ (by simp;omega)];have hl:off+k<cs.toList.length:=by simp;omega
  rw [HG];have e1:(cs.toList.set (off+k) x).take (off+(k+1))=cs.toList.take (off+k)++ [x]:=by
   rw [←pJ,Aj,Re hl];rw [CG _ _ (by simp;omega)];have hm:min (off+k) cs.size=off+k:=by simp at hl;omega
   simp [hm]
  have e2:(cs.toList.set (off+k) x).drop (off+(k+1)+xs.length)=cs.toList.drop (off+k+(xs.length+1)):=by
   rw [Rv (by omega)];congr 1;omega
  rw [e1,e2];simp
def Rl.over {l xs:List V} {l' xs':Lv} (hl:Rl m l l') (hx:Rl m xs xs') (n:Nat):Rl m (l.take n++xs++l.drop (n+xs.length)) (l'.take n++xs'++l'.drop (n+xs'.length)):=by
 have:=hx.length;rw [this];exact((hl.take n).append hx).append (hl.drop _)
def EU {a0:Nat→Option (Nat × Nat)}:∀(ps:List (Nat × V)) (a3:List (Nat × Value)) {cs:List V} {a2:Lv} {r:List V},(ps.map (·.1)=a3.map (·.1))→Rl m (ps.map (·.2)) (a3.map (·.2))→
  Rl m cs a2→(∀x∈a2,fI x)→lF a0 cs ps=some r→∃r',Instr.fill a0 ⟨a2⟩ a3=some ⟨r'⟩∧Rl m r r'∧∀x∈r',fI x
 | [],a3,cs,a2,r,h1,_,hc,hs,hb=>by
  have:a3= []:=by cases a3 with|nil=>rfl|cons _ _=>simp at h1
  subst this;have:cs=r:=bP (by simpa [lF] using hb);subst this;exact⟨a2,by simp [Instr.fill],hc,hs⟩
 | (i,v)::ps,a3,cs,a2,r,h1,h2,hc,hs,hb=>by
  cases a3 with
  |nil=>simp at h1
  | cons p a3=>
   obtain⟨i',u⟩:=p;simp only [kL,kM] at h1;obtain⟨rfl,h1⟩:=h1;simp only [kL,Rl] at h2;obtain⟨u',us,he,hv,h2⟩:=h2;simp only [kM] at he;obtain⟨rfl,rfl⟩:=he;unfold lF at hb;cases hp:a0 i with
   |none=>rw [hp] at hb;cases hb
   | some p=>
    obtain⟨off,sz⟩:=p;rw [hp] at hb;simp only at hb;cases hq:fM v with
    |none=>rw [hq] at hb;cases hb
    | some c=>
     rw [hq] at hb;simp only at hb;obtain⟨c',hc1,hc2,hc3⟩:=BG hv hq;cases a1:Nat.beq (fW c) sz with
     |false=>rw [a1] at hb;cases hb
     | true=>
      rw [a1] at hb;simp only [dG] at hb;have a1:=bG a1;rw [nI] at a1;cases ho:jY off cs c with
      |none=>rw [ho] at hb;cases hb
      | some cs2=>
       rw [ho] at hb;simp only at hb;obtain⟨b2,rfl⟩:=xE _ _ _ ho;have b0:=hc.length;have b1:=hc2.length;have a5:=VG off c' 0 ⟨a2⟩ (by show off+0+c'.length≤a2.length;omega);obtain⟨r',hr1,hr2,hr3⟩:=EU ps a3 h1 h2 (hc.over hc2 off) (by
        intro x hx;simp only [eY] at hx;rcases hx with(hx|hx)|hx
        ·exact hs x (lH hx)
        ·exact hc3 x hx
        ·exact hs x (CI hx)) hb
       refine⟨r',?_,hr2,hr3⟩;unfold Instr.fill;simp only [hp,hc1];have a8:(decide ((⟨c'⟩:Array Value).size≠sz)||decide (off+(⟨c'⟩:Array Value).size>(⟨a2⟩:Array Value).size))=false:=by
        simp only [HE,Ql];exact⟨by show¬c'.length≠sz;omega,by show¬(off+c'.length>a2.length);omega⟩
       rw [if_neg (by rw [a8];simp)];rw [←hr1];congr 1;apply mT.1;rw [←Array.foldl_toList];have:(⟨c'⟩:Array Value).zipIdx.toList=c'.zipIdx 0:=by simp
       rw [this,a5];simp
def DO {n:Nat} {e:Env} {a:Act} (k:dE m n e a) (hg:Gl P m):∀{ps:List (Nat × Operand)},(ps.map (·.2)).all (dX P n)=true→
  ((oW ps).run e).map (·.1)=(ps.map fun x=>(x.1,a.eval x.2)).map (·.1)∧Rl m (((oW ps).run e).map (·.2)) ((ps.map fun x=>(x.1,a.eval x.2)).map (·.2))
 | [],_=>by simp [oW,Rl]
 |(i,x)::ps,h=>by
  simp only [kL,rU,aR] at h;obtain⟨h1,h2⟩:=DO k hg h.2;simp only [oW,kL,kM,FY,Rl];exact⟨h1,_,_,⟨rfl,rfl⟩,eI k hg h.1,h2⟩
def SI:∀(l:List (Nat × Nat)) (i:Nat),nthP l i=l[i]?
 | [],i=>by cases i<;>rfl
 |a::l,0=>rfl
 |a::l,i+1=>by rw [nthP,SI l i];rfl
def RS:∀(fs:List Field) (pl:List (Nat × Nat)),vL P fs=some pl→fs.mapM (fun f=>(P.info? f.type).map fun i=>(f.offset,i.size))=some pl
 | [],pl,h=>by simp [vL] at h;subst h;simp
 | f::fs,pl,h=>by
  unfold vL at h;cases hn:cF P f.type with
  |none=>rw [hn] at h;cases h
  | some n=>
   cases hl:vL P fs with
   |none=>rw [hn,hl] at h;cases h
   |some l=>
    rw [hn,hl] at h;cases h;obtain⟨i,hi,rfl⟩:=rZ hn;simp [Ar,hi,RS fs l hl]
def sQ {l:List V} (h:fM (cst z)=some l):∃l',z.cells=⟨l'⟩∧Rl m l l'∧∀x∈l',fI x:=BG (uN m z) h
def Pi {e:Env} (k:dE m n e a) (hg:Gl P m) {t:TypeId} {ps:Array (Nat × Operand)} (hx:(ps.toList.map (·.2)).all (dX P n)=true) {h:H} {v:V}
  (hv:(MN P t ps.toList).run e h=some v):∃u,(Instr.build t (ps.map fun(i,x)=>(i,a.eval x))).run P w= .ok u w∧R m v u:=by
 obtain⟨p1,p2⟩:=DO k hg hx;have a7:(ps.map fun(i,x)=>(i,a.eval x)).toList=ps.toList.map fun x=>(x.1,a.eval x.2):=by simp
 unfold MN at hv;cases hz:iF P t with
 |none=>rw [hz] at hv;cases hv
 | some z=>
  cases hu:P.underlying t with
  |none=>rw [hz,hu] at hv;cases hv
  | some ds=>
   rw [hz,hu] at hv;obtain⟨uz,hzr,rfl,it,hit,hzi⟩:=mV (w:=w) hz;have fin:∀(a0:Nat→Option (Nat × Nat)) (zc:List V),fM (cst uz)=some zc→qB (lF a0 zc ((oW ps.toList).run e))=some v→(∀r',Instr.fill a0 uz.cells (ps.toList.map fun x=>(x.1,a.eval x.2))=some r'→P.built t (ps.map fun(i,x)=>(i,a.eval x)).toList=some r')→
     ∃u,(Instr.build t (ps.map fun(i,x)=>(i,a.eval x))).run P w= .ok u w∧R m v u:=by
    intro a0 zc a4 hv hb;obtain⟨l,hl,rfl⟩:=NA hv;obtain⟨b3,hz1,hz2,hz3⟩:=sQ (m:=m) a4;obtain⟨r',hr1,hr2,hr3⟩:=EU _ _ p1 p2 hz2 hz3 hl;rw [←hz1] at hr1;exact⟨.agg ⟨r'⟩,run_build w t _ _ (hb _ hr1),by simp only [R];exact⟨r',rfl,hr2,hr3⟩⟩
   cases ds<;>simp only at hv<;>(try (cases hv;done))
   case struct fs=>
    cases a4:fM (cst uz) with
    |none=>rw [a4] at hv;cases hv
    | some zc=>
     rw [a4] at hv;simp only at hv;cases hp:vL P fs.toList with
     |none=>rw [hp] at hv;cases hv
     | some pl=>
      rw [hp] at hv;simp only at hv;refine fin (fun i=>pl[i]?) zc a4 ?_ ?_
      ·rw [show(fun i=>pl[i]?)=nthP pl from funext fun i=>(SI pl i).symm];exact hv
      ·intro r' a6;rw [a7];have a9:fs.toList.mapM (fun f=>(P.info? f.type).map fun i=>(f.offset,i.size))=some pl:=RS _ _ hp;simp only [Program.built,hit,hu,hzi,a9];simpa using a6
   case array len el=>
    cases a4:fM (cst uz) with
    |none=>rw [a4] at hv;cases hv
    | some zc=>
     rw [a4] at hv;simp only at hv;cases hn:cF P el with
     |none=>rw [hn] at hv;cases hv
     |some sz=>
      rw [hn] at hv;simp only at hv;obtain⟨ie,hie,rfl⟩:=rZ hn;refine fin (fun i=>some (i*ie.size,ie.size)) zc a4 hv ?_;intro r' a6;rw [a7];simp only [Program.built,hit,hu,hzi,hie];exact a6
end
section
variable {P:Program} {m:Mp} {w:Wo}
def R_p {b:Id} (h:R m (.p b o) u):∃l,m b=some l∧u= .pointer (some ⟨l.blk,l.base+o,none⟩):=by simpa only [R] using h
def R_i {n:Int} (h:R m (.i k n) u):u= .int k n:=by simpa only [R] using h
def R_b (h:R m (.b b) u):u= .bool b:=by simpa only [R] using h
def R_tup {l:List V} (h:R m (.tup l) u):∃l',u= .tuple ⟨l'⟩∧Rl m l l':=by simpa only [R] using h
def SW:∀(l:List V) (l':Lv) {x:V} {u:Value} {v:V},R m x u→Rl m l l'→vV max2 x l=some v→∃u',(l'.foldlM Builtin.max2 u).run P w= .ok u' w∧R m v u'
 | [],l',x,u,v,hx,hl,hv=>by
  simp only [Rl] at hl;subst hl;have:x=v:=bP hv;subst this;exact⟨u,rfl,hx⟩
 | y::l,l',x,u,v,hx,hl,hv=>by
  simp only [Rl] at hl;obtain⟨uy,us,rfl,hy,hl⟩:=hl;unfold vV at hv;cases hm:max2 x y with
  |none=>rw [hm] at hv;cases hv
  | some z=>
   rw [hm] at hv;obtain⟨k,A,rfl,hm1⟩:=pH hm;obtain⟨k',B,rfl,hm2⟩:=pH hm1;obtain⟨hk,hm3⟩:=lQ hm2;have:=(EG _ _).1 hk;subst this;cases hm3;have hu:=R_i hx;subst hu;have hu:=R_i hy;subst hu;have hz:R m (.i k (bif iLt A B then B else A)) (.int k (if B>A then B else A)):=by
    rw [EN];simp only [R]
    by_cases h:A<B<;>simp [h]
   obtain⟨u',h1,h2⟩:=SW l us hz hl hv;exact⟨u',by simp [List.foldlM_cons,Builtin.max2,h1],h2⟩
def SQ:∀(l:List V) (l':Lv) {x:V} {u:Value} {v:V},R m x u→Rl m l l'→vV min2 x l=some v→∃u',(l'.foldlM Builtin.min2 u).run P w= .ok u' w∧R m v u'
 | [],l',x,u,v,hx,hl,hv=>by
  simp only [Rl] at hl;subst hl;have:x=v:=bP hv;subst this;exact⟨u,rfl,hx⟩
 | y::l,l',x,u,v,hx,hl,hv=>by
  simp only [Rl] at hl;obtain⟨uy,us,rfl,hy,hl⟩:=hl;unfold vV at hv;cases hm:min2 x y with
  |none=>rw [hm] at hv;cases hv
  | some z=>
   rw [hm] at hv;obtain⟨k,A,rfl,hm1⟩:=pH hm;obtain⟨k',B,rfl,hm2⟩:=pH hm1;obtain⟨hk,hm3⟩:=lQ hm2;have:=(EG _ _).1 hk;subst this;cases hm3;have hu:=R_i hx;subst hu;have hu:=R_i hy;subst hu;have hz:R m (.i k (bif iLt B A then B else A)) (.int k (if B<A then B else A)):=by
    rw [EN];simp only [R]
    by_cases h:B<A<;>simp [h]
   obtain⟨u',h1,h2⟩:=SQ l us hz hl hv;exact⟨u',by simp [List.foldlM_cons,Builtin.min2,h1],h2⟩
def Jr {h:H} (hr:HR m h w) {t:TypeId} {x:Operand} {n:Nat} {e:Env} {a:Act} (k:dE m n e a) (hg:Gl P m) (hx:dX P n x=true) {v:V} {ts:List TypeId} {ty:TypeId}
  (hv:(lenC P t x).run e h=some v):∃u,(Builtin.len_ ⟨t::ts⟩ ty #[a.eval x]).run P w= .ok u w∧R m v u:=by
 have hX:=eI k hg hx;have h0:(⟨t::ts⟩:Array TypeId)[0]?=some t:=by simp
 unfold lenC at hv;cases hu:P.underlying t with
 |none=>rw [hu] at hv;cases hv
 | some ds=>
  rw [hu] at hv;cases ds<;>simp only at hv<;>(try (cases hv;done))
  case string=>
   obtain⟨l,c,e1,hv⟩:=yL hv;cases hv;rw [e1,iI] at hX;obtain⟨s,hs,hb,_⟩:=hX;have:=tJ hb;exact⟨_,by rw [hs];simp [Builtin.len_,bK hu,goInt];rfl,by simp [R,this]⟩
  case array len el=>
   cases hv;exact⟨_,by simp [Builtin.len_,bK hu,goInt];rfl,by simp [R]⟩
  case pointer el=>
   cases hu2:P.underlying el with
   |none=>rw [hu2] at hv;cases hv
   |some d2=>
    rw [hu2] at hv;cases d2<;>simp only at hv<;>(try (cases hv;done));cases hv;exact⟨_,by simp [Builtin.len_,bK hu,bK hu2,goInt];rfl,by simp [R]⟩
  case slice el=>
   rcases BN hv with⟨b,o,l,z,e1,hv⟩|⟨_,hv⟩
   ·cases hv;rw [e1] at hX;simp only [R] at hX;obtain⟨ll,cap,_,hs,_⟩:=hX;exact⟨_,by rw [hs];simp [Builtin.len_,bK hu,goInt];rfl,by simp [R]⟩
   ·rcases MU hv with⟨e1,hv⟩|⟨_,hv⟩
    ·cases hv;rw [e1] at hX;simp only [R] at hX;exact⟨_,by rw [hX];simp [Builtin.len_,bK hu,goInt];rfl,by simp [R]⟩
    ·obtain⟨e1,hv⟩:=YR hv;cases hv;rw [e1] at hX;simp only [R] at hX;obtain⟨ad,cap,hs⟩:=hX;exact⟨_,by rw [hs];simp [Builtin.len_,bK hu,goInt];rfl,by simp [R]⟩
  case map kt et=>
   rcases MW hv with⟨b,e1,hv⟩|⟨_,hv⟩
   ·cases he:kH h b with
    |none=>rw [he] at hv;cases hv
    |some p=>
     obtain⟨es,c⟩:=p;rw [he] at hv;cases hv;obtain⟨l,es',_,hl,hm,hes⟩:=sP hr he;rw [e1] at hX;simp only [R] at hX;obtain⟨l2,hl2,hs⟩:=hX;rw [hl] at hl2;cases hl2;have:=hes.length;exact⟨_,by rw [hs];simp [Builtin.len_,bK hu,run_getMap hm,goInt];rfl,by simp [R,this]⟩
   ·obtain⟨e1,hv⟩:=YU hv;cases hv;rw [e1] at hX;simp only [R] at hX;exact⟨_,by rw [hX];simp [Builtin.len_,bK hu,goInt];rfl,by simp [R]⟩
end
section
variable {P:Program} {m:Mp} {w:Wo}
def FL (h:cF P t=some n):P.cellsOf t=n:=by
 obtain⟨i,h1,h2⟩:=rZ h;simp [Program.cellsOf,h1,h2]
def TO {s cells:Nat} (hs:P.cellsOf e=s) (h0:0<s) (ho:off%s=0) (hn:off+n*s≤cells):liesAt P P.depth e (cells/P.cellsOf e) off e n=true:=by
 have hd:P.depth=(2*(P.types.size+Made.depth)+1)+1:=rfl;have h1:off/s+n≤cells/s:=by
  rw [Ac h0,eO];have:=lZ off s;rw [ho,dM] at this;omega
 have h2:s≠0:=by omega
 rw [hd];simp only [liesAt,kN];left;rw [hd];simp [rowAt,hs,h2,ho,h1,sameLayout]
def Gi {h:H} (k:HR m h w) {b:Id} {o:Nat} {v:V} {l:Loc} (hl:m b=some l) (hv:rd1 h b o=some v):∃C t fz,w.heap[l.blk]?=some (.cells C t fz)∧l.base+o<C.size:=by
 unfold rd1 at hv;cases hb:aB b h.mem with
 |none=>rw [hb] at hv;cases hv
 | some ob=>
  rw [hb] at hv;cases ob with
  |map _ _=>cases hv
  |siter _ _ _=>cases hv
  |miter _ _ _ _=>cases hv
  | cells sz els f ro=>
   have a7:(Option.rec (motive:=fun _=>Option V) none (fun el=>qR el (Nat.mod o sz)) (qS els (Nat.div o sz)):Option V)=some v:=hv;rw [DQ] at a7;cases he:els[Nat.div o sz]? with
   |none=>rw [he] at a7;cases a7
   | some el=>
    rw [he] at a7;have b3:qR el (o%sz)=some v:=a7;rw [xI] at b3;obtain⟨l2,hl2,C,t2,fz,hcs⟩:=k.obj _ _ hb;rw [hl] at hl2;cases hl2;have a8:=(aZ.1 b3).1;have a3:=hcs.each el (bV he);have hf:=ER hcs.each he (o%sz) (by omega);rw [b3] at hf;obtain⟨u',hu',_,_⟩:=hcs.val _ _ hf;have hi:Nat.div o sz*sz+o%sz=o:=by
     have:=lZ o sz;rw [dM] at this;exact this
    rw [hi] at hu';exact⟨C,t2,fz,hcs.at_,(cV.1 hu').1⟩
def CX (h:w.heap[B]?=some (.cells C t fz)):w.shape? B=some (t,C.size):=by simp [World.shape?,h]
def Ch {h:H} (k:HR m h w) {s d t:TypeId} {n o:Nat} {b:Id} {u:Value} {v:V} (hs:P.underlying s=some (.pointer t)) (hd:P.underlying d=some .unsafePointer) (hn:cF P t=some (n+1))
  (hx:R m (.p b o) u) (hv:rd1 h b o=some v):(convert s d u).run P w= .ok u w:=by
 simp only [R] at hx;obtain⟨l,hl,rfl⟩:=hx;obtain⟨C,t2,fz,h1,h2⟩:=Gi k hl hv;have a6:=CX h1;have h3:¬C.size≤l.base+o:=by omega
 simp [convert,bK hs,bK hd,Conv.unsafePointer,Conv.seenAt,viewAt,a6,cellsIn,jU hn,h3]
def Jp {u:TypeId} {cells r:Nat} (hf:AV P ty u a0 r=true) (hn:cF P u=some (sz+1)) (a2:off%a0=r) (a8:off/a0<cells/a0):liesAt P P.depth ty (cells/P.cellsOf ty) off u 1=true:=by
 unfold AV at hf;split at hf
 case h_2=>cases hf
 rename_i n fs hs hu;simp only [aR,yV,rT] at hf;obtain⟨h1,h2,f,hfm,h3,h4⟩:=hf;have h1:=bG h1;have h3:=bG h3;have h4:=bG h4;subst h1;have hc:P.cellsOf ty=n+1:=FL hs;have b4:P.cellsOf u=sz+1:=FL hn;obtain⟨i,hi,rfl⟩:=List.getElem_of_mem hfm;have hd:P.depth=((2*(P.types.size+Made.depth))+1)+1:=rfl;have b0:sameLayout P P.depth u u=true:=by
  rw [hd];simp [sameLayout]
 have b2:∀d,rowAt P (sameLayout P P.depth · u) (d+1) u 1 0 1=true:=by
  intro d;unfold rowAt;simp [b4,b0]
 rw [hd];simp only [liesAt,kN];left;rw [hd];unfold rowAt;rw [hc];simp only [Nat.add_one_ne_zero,kK,a2,hu,h2,Bd,Bool.true_and,kN,aR,iO];right;refine⟨a8,?_⟩;rw [Array.any_eq_true];refine⟨i,by simpa using ‹_›,?_⟩;have e:fs[i]'(by simpa using ‹_›)=fs.toList[i]:=by simp
 rw [e,h3,h4,b4,rQ];simp only [aR,iO];exact⟨⟨aA _,by omega⟩,hd▸b2 _⟩
def Ln {h:H} (k:HR m h w) {s d u:TypeId} {sz o a0 ty:Nat} {b f:Id} {els:List (List V)} {x:Value} (hs:P.underlying s=some .unsafePointer) (hd:P.underlying d=some (.pointer u)) (hn:cF P u=some (sz+1))
  (hx:R m (.p b o) x) (hb:aB b h.mem=some (.cells a0 els f (.rw ty))) (h1:AV P ty u a0 (o%a0)=true) (h4:o/a0<els.length):(convert s d x).run P w= .ok x w:=by
 simp only [R] at hx;obtain⟨l,hl,rfl⟩:=hx;obtain⟨l2,hl2,C,t,fz,hc⟩:=k.obj _ _ hb;rw [hl] at hl2;cases hl2;have ht:=hc.typ ty rfl;subst ht;have a6:=CX hc.at_;have b6:=pF hc.each;have a5:=hc.room;have a3:=hc.len;have a2:=hc.al;have h0:0<a0:=by
  unfold AV at h1;split at h1
  ·simp only [aR] at h1;have:=bG h1.1;omega
  ·cases h1
 have a4:(o/a0+1)*a0≤els.length*a0:=fP _ h4;have b5:a0*(o/a0)+o%a0=o:=lZ o a0;have b7:=nP o h0;obtain⟨q,hq⟩:∃q,l.base=a0*q:=⟨l.base/a0,by have:=lZ l.base a0;rw [a2] at this;omega⟩;have a9:(l.base+o)/a0=q+o/a0:=by rw [hq,ZY h0]
 have b1:(l.base+o)%a0=o%a0:=by rw [hq,ZX]
 have a8:(l.base+o)/a0<C.size/a0:=by
  rw [a9];have:q+o/a0+1≤C.size/a0:=by
   rw [Ac h0];have e:(q+o/a0+1)*a0=a0*q+(o/a0+1)*a0:=by rw [pJ,eO,dM q]
   rw [e,←hq];omega
  omega
 have a1:=Jp (P:=P) (cells:=C.size) (off:=l.base+o) h1 hn b1 a8;simp [convert,bK hs,bK hd,Conv.unsafePointer,Conv.seenAt,viewAt,a6,jU hn,variablesAt,a1]
def Lm {h:H} (k:HR m h w) {s d u:TypeId} {sz o a0 ty:Nat} {b f:Id} {els:List (List V)} {x:Value} (hs:P.underlying s=some .unsafePointer) (hd:P.underlying d=some (.pointer u)) (hn:cF P u=some (sz+1))
  (hx:R m (.p b o) x) (hb:aB b h.mem=some (.cells a0 els f (.rw ty))) (h1:a0=sz+1) (h2:ty=u) (h3:o%a0=0) (h4:o/a0<els.length):(convert s d x).run P w= .ok x w:=by
 simp only [R] at hx;obtain⟨l,hl,rfl⟩:=hx;obtain⟨l2,hl2,C,t,fz,hc⟩:=k.obj _ _ hb;rw [hl] at hl2;cases hl2;have ht:=hc.typ ty rfl;subst h1;subst h2;subst ht;have a6:=CX hc.at_;have b6:=pF hc.each;have a5:=hc.room;have a3:=hc.len;have a2:=hc.al;have a4:(o/(sz+1)+1)*(sz+1)≤els.length*(sz+1):=fP _ h4;have b5:o/(sz+1)*(sz+1)=o:=by
  have:=lZ o (sz+1);rw [h3,dM] at this;simpa using this
 rw [eO,b5] at a4;have a1:=TO (P:=P) (cells:=C.size) (off:=l.base+o) (n:=1) (FL hn) (ZT _) (by rw [Nat.add_mod,a2,h3];simp) (by omega);simp [convert,bK hs,bK hd,Conv.unsafePointer,Conv.seenAt,viewAt,a6,jU hn,variablesAt,a1]
end
section
variable {P:Program} {m:Mp} {w:Wo}
def VY {st:Nat}:∀{es:List Ent} {xs:List MapEntry} {e:Ent},cR m es xs→AW st es=some e→∃x,xs.find? (·.born==st)=some x∧EntR m e x
 | [],xs,e,h,he=>by cases he
 | a::es,xs,e,h,he=>by
  obtain⟨x,xs',rfl,hx,hxs⟩:=h;unfold AW at he;cases hb:Nat.beq a.born st with
  |true=>
   rw [hb] at he;cases he;have:(x.born==st)=true:=by rw [hx.2.2];simpa using bG hb
   exact⟨x,by simp [List.find?,this],hx⟩
  | false=>
   rw [hb] at he;have:(x.born==st)=false:=by
    rw [hx.2.2];simp;intro h;subst h;simp at hb
   obtain⟨y,h1,h2⟩:=VY hxs he;exact⟨y,by simp [List.find?,this,h1],h2⟩
def TR:∀(l:List Nat),uF l=(⟨l⟩:Array Nat).back?
 | []=>by simp [uF]
 | [a]=>by simp [uF]
 |a::b::l=>by
  have:uF (a::b::l)=uF (b::l):=rfl;rw [this,TR (b::l)];simp [List.getLast?_cons]
def zG {b:Nat} {o:Obj} (hb:w.heap[b]?=some o) (hn:∀c t f,o≠ .cells c t f):(getObj b).run P w= .ok o w:=by
 cases o<;>first|exact absurd rfl (hn _ _ _)|simp [getObj,Sem.run,hb]
def Mr {h:H} (hr:HR m h w) {b:Id} {l:Loc} (hl:m b=some l) {v:V} (hv:LJ h b=some v):∃u,(Instr.entry (.pointer (some ⟨l.blk,l.base+0,none⟩))).run P w= .ok u w∧R m v u:=by
 unfold LJ at hv;split at hv
 ·rename_i mi b2 seen last hb;obtain⟨l1,hl1,h0,lm,hlm,hit⟩:=hr.obj _ _ hb;rw [hl] at hl1;cases hl1;cases hs:uF seen with
  |none=>rw [hs] at hv;cases hv
  | some st=>
   cases he:kH h mi with
   |none=>rw [hs,he] at hv;cases hv
   | some p=>
    obtain⟨es,clock⟩:=p;rw [hs,he] at hv;simp only at hv;cases hc:Nat.beq clock last with
    |false=>rw [hc] at hv;cases hv
    | true=>
     rw [hc] at hv;simp only [dG] at hv;have b4:=bG hc;cases ha:AW st es with
     |none=>rw [ha] at hv;cases hv
     | some en=>
      rw [ha] at hv;cases hv;obtain⟨l2,es',_,hl2,hm,hes⟩:=sP hr he;rw [hlm] at hl2;cases hl2;obtain⟨x,hx1,hx2⟩:=VY hes ha;rw [TR] at hs;refine⟨.tuple #[x.key,x.val],?_,?_⟩
      ·rw [h0];have a9:(⟨es'⟩:Array MapEntry).find? (fun x=>x.born==st)=some x:=by simpa using hx1
       simp only [Instr.entry,cX,zG hit (by simp),eD,hs,run_getMap hm];simp [b4,a9]
      ·simp only [R,Rl];exact⟨_,rfl,_,_,rfl,hx2.1,_,_,rfl,hx2.2.1,rfl⟩
 ·cases hv
def Mu (n:Nat) (h:n<128):eU (Utf8.encode (n:Int))=bytesOf 1 n:=by
 have key:∀n:Nat,n<128→eU (Utf8.encode (n:Int))=bytesOf 1 n:=by decide+kernel
 exact key n h
def EA {e:Env} (k:dE m n e a) (hg:Gl P m) {h:H} (hr:HR m h w) {o:Oper} (a0:o.op.operands.toList.all (dX P n)=true) {v:V}
  (hv:(sO P o.op).run e h=some v):∃u,(execOp a.eval o).run P w= .ok (.value u) w∧R m v u:=by
 have vv:∀{s:Sem Value},(∃u,s.run P w= .ok u w∧R m v u)→∃u,(do pure (Next.value (←s)):Sem Next).run P w= .ok (.value u) w∧R m v u:=by
  rintro s ⟨u,h1,h2⟩;exact⟨u,by simp [h1],h2⟩
 obtain⟨dst,op,type,pos,after,guard⟩:=o;simp only at a0 hv;cases op<;>simp only [Op.operands] at a0<;>simp only [sO] at hv<;>(try (cases hv;done))
 case move x=>
  cases hv;exact⟨_,rfl,eI k hg (by simpa using a0)⟩
 case assign x=>
  cases hv;exact⟨_,rfl,eI k hg (by simpa using a0)⟩
 case pick c x y=>
  simp at a0;obtain⟨b,e1,hv⟩:=YW hv;have hc:=eI k hg a0.1;rw [e1] at hc;have hc:=R_b hc;rcases pV hv with⟨hb,hv⟩|⟨hb,hv⟩<;>cases hv
  ·subst hb;exact⟨_,by simp [execOp,hc,asBool],eI k hg a0.2.1⟩
  ·subst hb;exact⟨_,by simp [execOp,hc,asBool],eI k hg a0.2.2⟩
 case build t ps=>
  exact vv (Pi k hg (by simpa using a0) hv)
 case load t x=>
  have hX:=eI k hg (show dX P n x=true by simpa using a0);cases hn:cF P t with
  |none=>rw [hn] at hv;cases ha:gX P t<;>rw [ha] at hv<;>cases hv
  |some sz=>
   obtain⟨d,hd⟩:=vG hn;refine vv (TL hr hd hn hX ?_);rw [hn] at hv;cases ha:gX P t<;>rw [ha] at hv<;>exact hv
 case nilCheck x=>
  have hX:=eI k hg (show dX P n x=true by simpa using a0);rcases MV hv with⟨b,o,e1,hv⟩|⟨_,hv⟩
  ·cases hv;rw [e1] at hX;obtain⟨l,hl,hu⟩:=R_p hX;refine⟨a.eval x,by simp only [execOp,hu];rfl,hX⟩
  ·split at hv
   ·rename_i f A B e1;cases hv;rw [e1] at hX;refine⟨a.eval x,?_,hX⟩;simp only [R] at hX;obtain⟨a',c',hu,_⟩:=hX;simp only [execOp,hu];rfl
   ·rename_i t0 v0 e1;cases hv;rw [e1] at hX;refine⟨a.eval x,?_,hX⟩;simp only [R] at hX;obtain⟨v',hu,_⟩:=hX;simp only [execOp,hu];rfl
   ·rename_i b e1;cases hv;rw [e1] at hX;refine⟨a.eval x,?_,hX⟩;simp only [R] at hX;obtain⟨l,_,hu⟩:=hX;simp only [execOp,hu];rfl
   ·rename_i e1;cases hv;rw [e1] at hX;refine⟨a.eval x,?_,hX⟩;simp only [R] at hX;simp only [execOp,hX];rfl
   ·cases hv
 case binOp op t x y yt=>
  simp at a0;exact vv (Ps k hg hr a0.1 a0.2 hv)
 case unOp op t x=>
  have hX:=eI k hg (show dX P n x=true by simpa using a0);refine vv ?_;cases op<;>simp only [unC] at hv<;>(try (cases hv;done))
  ·obtain⟨kk,A,e1,hv⟩:=pH hv;cases hv;rw [e1] at hX;have hX:=R_i hX;exact⟨_,by rw [hX];simp [Op.unary,Op.intArith];rfl,by simp [R,CM,UK]⟩
  ·obtain⟨kk,A,e1,hv⟩:=pH hv;cases hv;rw [e1] at hX;have hX:=R_i hX;exact⟨_,by rw [hX];simp only [Op.unary,Op.intBits,dV];rfl,by simp [R]⟩
  ·obtain⟨b,e1,hv⟩:=YW hv;cases hv;rw [e1] at hX;have hX:=R_b hX;exact⟨_,by rw [hX];simp [Op.unary];rfl,by simp [R]⟩
 case convert s d x=>
  have hX:=eI k hg (show dX P n x=true by simpa using a0);refine vv ?_;split at hv
  ·rename_i ds kk hs hd;obtain⟨k1,A,e1,hv⟩:=pH hv;cases hv;rw [e1] at hX;have hX:=R_i hX;exact⟨_,by rw [hX];simp only [convert,cX,bK hs,bK hd,eD,Conv.intToInt,dV];rfl,by simp [R,CM]⟩
  ·rename_i kk hs hd;obtain⟨k1,A,e1,hv⟩:=yN hv;obtain⟨b1,hv⟩:=lQ hv;cases hv;have b1:=cY b1;rw [e1] at hX;have hX:=R_i hX;refine⟨.string (Utf8.encode (A:Int)),by rw [hX];simp only [convert,cX,bK hs,bK hd,eD,Conv.intToString,dV];rfl,?_⟩;rw [iI];exact⟨_,rfl,Mu A (by omega),by omega⟩
  ·rename_i hs hd;obtain⟨l,c,e1,hv⟩:=yL hv;cases hv;rw [e1] at hX;refine⟨a.eval x,?_,hX⟩;rw [iI] at hX;obtain⟨s',hs',_⟩:=hX;rw [hs'];simp only [convert,cX,bK hs,bK hd,eD,dV]
  ·rename_i t hs hd;split at hv
   ·rename_i n0 a5;obtain⟨b,o,e1,hv⟩:=wG hv;rw [e1] at hX;cases hrd:rd1 h b o with
    |none=>rw [hrd] at hv;cases hv
    |some v0=>
     rw [hrd] at hv;cases hv;exact⟨a.eval x,Ch hr hs hd a5 hX hrd,hX⟩
   ·cases hv
  ·rename_i u hs hd;split at hv
   ·rename_i sz a5;obtain⟨b,o,e1,hv⟩:=wG hv;rw [e1] at hX;split at hv
    ·rename_i b7 els f ty hb;obtain⟨hc,hv⟩:=lQ hv;cases hv;simp only [kN,aR] at hc;rcases hc with⟨c1,c2,c3,c4⟩|⟨c1,c4⟩
     case inr=>exact⟨a.eval x,Ln hr hs hd a5 hX hb c1 (by have:=cY c4;rw [uE] at this;exact this),hX⟩
     exact⟨a.eval x,Lm hr hs hd a5 hX hb (bG c1) (bG c2) (bG c3) (by have:=cY c4;rw [uE] at this;exact this),hX⟩
    ·cases hv
   ·cases hv
  ·cases hv
 case makeInterface t x=>
  have hX:=eI k hg (show dX P n x=true by simpa using a0);refine vv ?_;cases hu:P.underlying t with
  |none=>rw [hu] at hv;cases hv
  | some ds=>
   rw [hu] at hv;cases ds<;>simp only at hv<;>(try (cases hv;done))<;>cases hv<;>
    exact⟨.iface t (a.eval x),by simp [Instr.makeInterface,bK hu],by simp only [R];exact⟨_,rfl,hX⟩⟩
 case makeFunc fn f c=>
  cases hv;have a3:=a0;refine vv ⟨.func fn (f.map a.eval) (c.map a.eval),rfl,?_⟩;simp only [R];refine⟨f.toList.map a.eval,c.toList.map a.eval,by congr 1<;>(apply mT.1;simp),xF k hg ?_,xF k hg ?_⟩
  ·rw [kV];intro x hx;have:=kV.1 a3 x (by simp [hx]);exact this
  ·rw [kV];intro x hx;have:=kV.1 a3 x (by simp [hx]);exact this
 case slice t x lo hi mx=>
  cases mx with
  |some _=>cases hv
  |none=>
   refine vv (Dv k hg ?_ ?_ ?_ hv)
   ·simp at a0;exact a0.1
   ·rintro y rfl;simp at a0;exact a0.2.1
   ·rintro y rfl;simp at a0;exact a0.2.2
 case fieldAddr t x i=>
  have hX:=eI k hg (show dX P n x=true by simpa using a0);refine vv ?_;cases hu:P.underlying t with
  |none=>rw [hu] at hv;cases hv
  | some ds=>
   rw [hu] at hv;cases ds<;>simp only at hv<;>(try (cases hv;done));rename_i fs;cases hf:vQ fs.toList i with
   |none=>rw [hf] at hv;cases hv
   | some f=>
    rw [hf] at hv;simp only at hv;split at hv
    ·rename_i sz hs;obtain⟨b,o,e1,hv⟩:=wG hv;cases hv;rw [e1] at hX;obtain⟨l,hl,hu2⟩:=R_p hX;rw [JO] at hf;have a7:fs[i]?=some f:=by simpa using hf
     refine⟨.pointer (some ⟨l.blk,l.base+o+f.offset,none⟩),?_,?_⟩
     ·rw [hu2];simp [Instr.fieldAt,bK hu,a7,Instr.sureAddr,fieldPlace,jU hs,rK]
     ·simp only [R];exact⟨l,hl,by rw [pJ];rfl⟩
    ·cases hv
 case field t x i=>
  have hX:=eI k hg (show dX P n x=true by simpa using a0);refine vv ?_;cases hu:P.underlying t with
  |none=>rw [hu] at hv;cases hv
  | some ds=>
   rw [hu] at hv;cases ds<;>simp only at hv<;>(try (cases hv;done));rename_i fs;cases hf:vQ fs.toList i with
   |none=>rw [hf] at hv;cases hv
   | some f=>
    rw [hf] at hv;simp only at hv;cases hs:cF P f.type with
    |none=>rw [hs] at hv;cases hv
    |some sz=>
     rw [hs] at hv;simp only at hv;obtain⟨l,e1,hv⟩:=YX hv;rw [e1] at hX;obtain⟨l',hu2,hl,hsc⟩:=qC hX;obtain⟨d2,hd2⟩:=vG hs;obtain⟨u,h1,h2⟩:=tS (w:=w) hd2 hs hl hsc hv;rw [JO] at hf;have a7:fs[i]?=some f:=by simpa using hf
     exact⟨u,by rw [hu2];simp [Instr.field,bK hu,a7,asAgg,h1],h2⟩
 case indexAddr t x ix=>
  simp at a0;have hX:=eI k hg a0.1;have hI:=eI k hg a0.2;refine vv ?_;cases hu:P.underlying t with
  |none=>rw [hu] at hv;cases hv
  | some ds=>
   rw [hu] at hv;cases ds<;>simp only at hv<;>(try (cases hv;done))
   case slice el=>
    split at hv
    ·rename_i sz hs;obtain⟨b,o,len,z,e1,hv⟩:=Px hv;obtain⟨kk,j,e2,hv⟩:=yN hv;obtain⟨hj,hv⟩:=lQ hv;cases hv;have hj:=cY hj;rw [e1] at hX;simp only [R] at hX;obtain⟨l,cap,hl,hu2,_⟩:=hX;rw [e2] at hI;have hI:=R_i hI;refine⟨.pointer (some ⟨l.blk,l.base+o+j*(sz+1),none⟩),?_,?_⟩
     ·rw [hu2,hI];have hc:(0:Int)≤(j:Int)∧(j:Int)<(len:Int):=⟨by omega,by omega⟩;simp [Instr.indexAt,asIntOf,bK hu,jU hs,hc,rK];omega
     ·simp only [R];exact⟨l,hl,by rw [pJ];rfl⟩
    ·cases hv
   case array len el=>
    split at hv
    ·rename_i sz hs;obtain⟨b,o,e1,hv⟩:=wG hv;obtain⟨kk,j,e2,hv⟩:=yN hv;obtain⟨hj,hv⟩:=lQ hv;cases hv;have hj:=cY hj;rw [e1] at hX;obtain⟨l,hl,hu2⟩:=R_p hX;rw [e2] at hI;have hI:=R_i hI;refine⟨.pointer (some ⟨l.blk,l.base+o+j*(sz+1),none⟩),?_,?_⟩
     ·rw [hu2,hI];have hc:(0:Int)≤(j:Int)∧(j:Int)<(len:Int):=⟨by omega,by omega⟩;simp [Instr.indexAt,asIntOf,bK hu,jU hs,hc,rK,Instr.sureAddr];omega
     ·simp only [R];exact⟨l,hl,by rw [pJ];rfl⟩
    ·cases hv
 case index t x ix=>
  simp at a0;have hX:=eI k hg a0.1;have hI:=eI k hg a0.2;refine vv ?_;cases hu:P.underlying t with
  |none=>rw [hu] at hv;cases hv
  | some ds=>
   rw [hu] at hv;cases ds<;>simp only at hv<;>(try (cases hv;done))
   case string=>
    obtain⟨len,c,e1,hv⟩:=yL hv;obtain⟨kk,j,e2,hv⟩:=yN hv;obtain⟨hj,hv⟩:=lQ hv;cases hv;have hj:=cY hj;rw [e1,iI] at hX;obtain⟨s,hs,hb,_⟩:=hX;rw [e2] at hI;have hI:=R_i hI;obtain⟨b,h1,h2⟩:=UG hb (show j<len by omega);refine⟨.int .u8 b.toNat,?_,by simp only [R];rw [←h2];rfl⟩;rw [hs,hI];have hc:(0:Int)≤(j:Int):=by omega
    simp only [Instr.index,asIntOf,cX,dV,eD,bK hu];have hz:(0:Int)≤Int.ofNat j:=by simp
    rw [if_pos hz,show(Int.ofNat j).toNat=j from rfl,h1];rfl
   case array len el=>
    cases hs:cF P el with
    |none=>rw [hs] at hv;cases hv
    |some sz=>
     rw [hs] at hv;simp only at hv;obtain⟨l,e1,hv⟩:=YX hv;obtain⟨kk,j,e2,hv⟩:=yN hv;obtain⟨hj,hv⟩:=lQ hv;have hj:=cY hj;rw [e1] at hX;obtain⟨l',hu2,hl,hsc⟩:=qC hX;rw [e2] at hI;have hI:=R_i hI;obtain⟨d2,hd2⟩:=vG hs;obtain⟨u,h1,h2⟩:=tS (w:=w) hd2 hs hl hsc hv;refine⟨u,?_,h2⟩;rw [hu2,hI];have b5:j<len:=by omega
     have hz:(0:Int)≤Int.ofNat j∧Int.ofNat j<(len:Int):=⟨by simp,by simpa using b5⟩;simp only [Instr.index,asIntOf,cX,dV,eD,bK hu];rw [if_pos hz];simp only [cX,jU hs,eD];exact h1
 case lookup t x ix ok=>
  simp at a0;have hX:=eI k hg a0.1;have hI:=eI k hg a0.2;refine vv ?_;unfold lookC at hv;cases hu:P.underlying t with
  |none=>rw [hu] at hv;cases hv
  | some ds=>
   rw [hu] at hv;cases ds<;>simp only at hv<;>(try (cases hv;done));rename_i kt et;cases hz:iF P et with
   |none=>rw [hz] at hv;cases hv
   | some z=>
    rw [hz] at hv;simp only at hv;rcases MW hv with⟨b,e1,hv⟩|⟨_,hv⟩
    ·cases he:kH h b with
     |none=>rw [he] at hv;cases hv
     |some p=>
      obtain⟨es,c⟩:=p;rw [he] at hv;obtain⟨l,es',_,hl,hm,hes⟩:=sP hr he;rw [e1] at hX;simp only [R] at hX;obtain⟨l2,hl2,hs⟩:=hX;rw [hl] at hl2;cases hl2;exact TI hr hu hz hI hes (.inl ⟨_,_,hs,hm⟩) hv
    ·obtain⟨e1,hv⟩:=YU hv;rw [e1] at hX;simp only [R] at hX;exact TI hr hu hz hI (xs:=[]) (by simp [cR]) (.inr ⟨hX,rfl⟩) hv
 case entry x=>
  have hX:=eI k hg (show dX P n x=true by simpa using a0);refine vv ?_;obtain⟨b,o,e1,hv⟩:=wG hv;obtain⟨ho,hv⟩:=lQ hv;have ho:=bG ho;subst ho;rw [e1] at hX;obtain⟨l,hl,hu⟩:=R_p hX;rw [hu];exact Mr hr hl hv
 case typeAssert x xt t ok=>
  have hX:=eI k hg (show dX P n x=true by simpa using a0);refine vv ?_;cases hu:P.underlying t with
  |none=>rw [hu] at hv;cases hv
  | some ds=>
   cases hz:iF P t with
   |none=>rw [hu,hz] at hv;cases ds<;>cases hv
   | some z=>
    rw [hu,hz] at hv;obtain⟨uz,hzr,rfl,_⟩:=mV (w:=w) hz;have a6:∀ms,ds≠ .interface ms:=by rintro ms rfl;cases hv
    have a2:(match ((aD x).run e:V) with
     | .ni=>if ok then some (V.tup [cst uz,.b false]) else none
     | .ifc t' v=>bif Nat.beq t' t then some (if ok then .tup [v,.b true] else v) else if ok then some (.tup [cst uz,.b false]) else none
     |_=>none)=some v:=by
     cases ds<;>first|exact absurd rfl (a6 _)|exact hv
    have a4:R m (.tup [cst uz,.b false]) (.tuple #[uz,.bool false]):=by
     simp only [R,Rl];exact⟨_,rfl,_,_,rfl,uN m uz,_,_,rfl,rfl,rfl⟩
    split at a2
    ·rename_i e1;rw [e1] at hX;simp only [R] at hX;cases ok with
     |false=>cases a2
     |true=>
      cases a2;refine⟨_,?_,a4⟩;rw [hX];cases ds<;>first|exact absurd rfl (a6 _)|(simp [Instr.typeAssert,bK hu,hzr];done)
    ·rename_i t' v0 e1;rw [e1] at hX;simp only [R] at hX;obtain⟨u0,hu0,hR0⟩:=hX;cases ht:Nat.beq t' t with
     | true=>
      rw [ht] at a2;have:=bG ht;subst this;cases a2;refine⟨if ok then .tuple #[u0,.bool true] else u0,?_,?_⟩
      ·rw [hu0];cases ds<;>first|exact absurd rfl (a6 _)|(simp [Instr.typeAssert,bK hu];done)
      ·cases ok
       ·exact hR0
       ·simp only [if_true,R,Rl];exact⟨_,rfl,_,_,rfl,hR0,_,_,rfl,rfl,rfl⟩
     | false=>
      rw [ht] at a2;have b6:t'≠t:=by rintro rfl;simp at ht
      cases ok with
      |false=>cases a2
      |true=>
       cases a2;refine⟨_,?_,a4⟩;rw [hu0];cases ds<;>first|exact absurd rfl (a6 _)|(simp [Instr.typeAssert,bK hu,b6,hzr];done)
    ·cases a2
 case extract x i=>
  have hX:=eI k hg (show dX P n x=true by simpa using a0);refine vv ?_;obtain⟨l,e1,hv⟩:=Pv hv;rw [e1] at hX;obtain⟨l',hu,hl⟩:=R_tup hX;rw [xI] at hv;obtain⟨u,h1,h2⟩:=hl.get hv;have b3:(⟨l'⟩:Array Value)[i]?=some u:=by simpa using h1
  exact⟨u,by rw [hu];simp [Instr.extract,b3],h2⟩
 case call c=>
  obtain⟨callee,args,argTypes⟩:=c;have bi:∀{b:Builtin} {s:Sem Value},callee= .builtin b→(∀cs,builtin b argTypes type cs (args.map a.eval)=(do pure (.value (←s))))→(∃u,s.run P w= .ok u w∧R m v u)→
    ∃u,(execOp a.eval { dst:=dst,op:=.call { callee:=callee,args:=args,argTypes:=argTypes },type:=type,pos:=pos,after:=after,guard:=guard }).run P w= .ok (.value u) w∧R m v u:=by
   rintro b s rfl hb ⟨u,h1,h2⟩;refine⟨u,?_,h2⟩;simp only [execOp,resolve,cX,dV,eD,invoke,hb,h1]
  have a1:args.toList.all (dX P n)=true:=by
   rw [kV] at a0 ⊢;intro x hx;exact a0 x (by simp [Call.operands,hx])
  unfold callL at hv;simp only at hv;split at hv
  ·rename_i x t ts e2 e3;obtain⟨args⟩:=args;obtain⟨argTypes⟩:=argTypes;simp only at e2 e3;subst e2;subst e3;refine bi rfl (fun _=>rfl) ?_;have:=Jr (ts:=ts) (ty:=type) hr k hg (by simpa using a1) hv;simpa using this
  ·rename_i x t ts e2 e3;obtain⟨args⟩:=args;obtain⟨argTypes⟩:=argTypes;simp only at e2 e3;subst e2;subst e3;refine bi rfl (fun _=>rfl) ?_;have hX:=eI k hg (show dX P n x=true by simpa using a1);unfold capC at hv;cases hu:P.underlying t with
   |none=>rw [hu] at hv;cases hv
   | some ds=>
    rw [hu] at hv;cases ds<;>simp only at hv<;>(try (cases hv;done));rcases BN hv with⟨b,o,l,z,e4,hv⟩|⟨_,hv⟩
    ·cases hv;rw [e4] at hX;simp only [R] at hX;obtain⟨ll,cap,_,hs,_⟩:=hX;exact⟨_,by simp [hs,Builtin.cap_,bK hu,goInt];rfl,by simp [R]⟩
    ·obtain⟨e4,hv⟩:=YQ hv;cases hv;rw [e4] at hX;simp only [R] at hX;exact⟨_,by simp [hX,Builtin.cap_,bK hu,goInt];rfl,by simp [R]⟩
  ·rename_i x e2;obtain⟨args⟩:=args;simp only at e2;subst e2;refine bi rfl (fun _=>rfl) ?_;have hX:=eI k hg (show dX P n x=true by simpa using a1);have a8:(⟨[x]⟩:Array Operand).map a.eval=#[a.eval x]:=by simp
   rw [a8];rcases BN hv with⟨b,o,l,z,e4,hv⟩|⟨_,hv⟩
   ·obtain⟨b0,hv⟩:=lQ hv;cases hv;have b0:=cY b0;rw [e4] at hX;simp only [R] at hX;obtain⟨ll,cap,hll,hs,hlc,_⟩:=hX;rw [hs];exact⟨_,Lib.run_unsafeSliceData_row w _ _ _ _ _ (by omega),by simp only [R];exact⟨ll,hll,rfl⟩⟩
   ·obtain⟨e4,hv⟩:=YQ hv;cases hv;rw [e4] at hX;simp only [R] at hX;rw [hX];exact⟨_,Lib.run_unsafeSliceData_nil w _ _ _ _,by simp [R]⟩
  ·rename_i x l e2;obtain⟨args⟩:=args;simp only at e2;subst e2;simp only [rU,aR] at a1;obtain⟨u,h1,h2⟩:=SW (P:=P) (w:=w) _ _ (eI k hg a1.1) (xF k hg a1.2) hv;exact bi rfl (fun _=>rfl) ⟨u,by simpa [Builtin.max_] using h1,h2⟩
  ·rename_i x l e2;obtain⟨args⟩:=args;simp only at e2;subst e2;simp only [rU,aR] at a1;obtain⟨u,h1,h2⟩:=SQ (P:=P) (w:=w) _ _ (eI k hg a1.1) (xF k hg a1.2) hv;exact bi rfl (fun _=>rfl) ⟨u,by simpa [Builtin.min_] using h1,h2⟩
  ·cases hv
end
section
variable {P:Program} {m:Mp} {w:Wo}
def DS {h:H} {ob:Id→O} {vf:Id→V} {v:V} (hn:qT h ob vf= .ok v h'):∃nx,h.next.succ=some nx∧v=vf h.next∧h'=⟨fU h.next (some (ob h.next)) h.mem,h.fams,nx⟩:=by
 obtain⟨mem,fams,next⟩:=h;unfold qT at hn;simp only at hn;cases hs:next.succ with
 |none=>rw [hs] at hn;cases hn
 |some nx=>rw [hs] at hn;cases hn;exact⟨nx,by simpa using hs,rfl,rfl⟩
def xM {h:H} (k:HR m h w) {sz:Nat} {els:List (List V)} {vf:Id→V} {v:V} {t0:TypeId} (hn:oY t0 h sz els vf= .ok v h') (he:∀el∈els,el.length=sz)
  {us:Lv} (hR:Rl m els.flatten us) (hs:∀x∈us,fI x) {C:Array Value} {extra:Lv} (hC:C.toList=us++extra) (t:TypeId) (fz:Nat × Nat)
  (a4:fz.1=fz.2∨(sz=1∧C.size≤fz.1)) (ht:t0=t:=by rfl):
  ∃m',Fr m h w m' h' { w with heap:=w.heap.push (.cells C t fz) }∧m' h.next=some ⟨w.heap.size,0,C.size⟩∧v=vf h.next:=by
 obtain⟨nx,hnx,rfl,rfl⟩:=DS hn;have a0:C.size=us.length+extra.length:=by rw [←eZ,hC];simp
 refine⟨_,Fr.new k hnx (.cells C t fz) (.cells sz els h.next (.rw t0)) ⟨w.heap.size,0,C.size⟩ rfl (fun _ _ _ _ e=>by cases e;rfl) (by simp [oN]) ?_,by simp,rfl⟩;intro m' hm w' a5;refine⟨C,t,fz,⟨a5,by simp,?_,he,?_,?_,?_,fun ty e=>by cases e;exact ht.symm,BY _⟩⟩
 ·show els.flatten.length≤C.size;rw [←hR.length];omega
 ·intro i x hx;obtain⟨u,hu,hRu⟩:=hR.get hx;have hi:=(aZ.1 hu).1;refine⟨u,?_,hRu.mono hm,hs u (bV hu)⟩;show C[0+i]?=some u;rw [dH,←kE,hC,gM hi,hu]
 ·intro _ i hi;show¬(fz.1≤0+i∧0+i<fz.2);have a6:i<C.size:=hi;rcases a4 with h1|⟨_,h2⟩<;>omega
 ·intro _ hz;rcases a4 with h1|⟨h1,_⟩
  ·exact h1
  ·exact absurd h1 hz
def dO (P:Program) (r:Result Next) (m:Mp) (h:H) (w:Wo) (v:V) (h':H):Prop:=
 (∃u w' m',(r= .ok (.value u) w'∨(r= .ok .skip w'∧u=undef))∧Fr m h w m' h' w'∧R m' v u)∨
 (∃f us,r= .ok (.enter f us) w∧Calls P f us w (fun e w'=>∃u m',e= .returned u∧Fr m h w m' h' w'∧R m' v u))
def Qg {h:H} (k:HR m h w) {t:TypeId} {z v:V} {c:List V} (hz:iF P t=some z) (hc:fM z=some c) (hn:oY t h (fW c) [c] (fun i=>.p i 0)= .ok v h'):
  ∃u w' m',(Instr.alloc t true (.tuple #[])).run P w= .ok u w'∧Fr m h w m' h' w'∧R m' v u:=by
 obtain⟨uz,hzr,rfl,_⟩:=mV (w:=w) hz;obtain⟨c',h1,h2,h3⟩:=sQ (m:=m) hc;obtain⟨m',hf,hm,rfl⟩:=xM k hn (by simp [nI]) (us:=c') (by simpa using h2) h3 (C:=uz.cells) (extra:=[]) (by rw [h1];simp) t (0,0) (.inl rfl);refine⟨.pointer (some ⟨w.heap.size,0,none⟩),_,m',?_,hf,?_⟩
 ·simp [Instr.alloc,hzr,newVar,newRow]
 ·simp only [R];exact⟨_,hm,rfl⟩
def Pm {h:H} (k:HR m h w) {t:TypeId} {x v:V} {u:Value} {c:List V} (hx:R m x u) (hc:fM x=some c) (hn:oY t h (fW c) [c] (fun i=>.p i 0)= .ok v h'):
  ∃u' w' m',(Instr.box t u).run P w= .ok u' w'∧Fr m h w m' h' w'∧R m' v u':=by
 obtain⟨c',h1,h2,h3⟩:=BG hx hc;obtain⟨m',hf,hm,rfl⟩:=xM k hn (by simp [nI]) (us:=c') (by simpa using h2) h3 (C:=u.cells) (extra:=[]) (by rw [h1];simp) t (0,0) (.inl rfl);refine⟨.pointer (some ⟨w.heap.size,0,none⟩),_,m',?_,hf,?_⟩
 ·simp [Instr.box,newVar,newRow]
 ·simp only [R];exact⟨_,hm,rfl⟩
def Rl.rep {zc:List V} {a1:Lv} (h:Rl m zc a1):∀n,Rl m ((kY zc n).flatten) ((List.replicate n a1).flatten)
 |0=>by simp [kY,Rl]
 |n+1=>by simp only [kY,mD,pL];exact h.append (Rl.rep h n)
def zL {a1:Lv} (h:∀x∈a1,fI x) (n:Nat):∀x∈(List.replicate n a1).flatten,fI x:=by
 intro x hx;simp only [List.mem_flatten,yS] at hx;obtain⟨l,⟨_,rfl⟩,hx⟩:=hx;exact h x hx
def yY (z:Array Value) (n:Nat) (hz:0<z.size):((Array.range (n*z.size)).map (z[· %z.size]!)).toList=(List.replicate n z.toList).flatten:=by
 apply CK;intro i;have a0:∀n,((List.replicate n z.toList).flatten).length=n*z.size:=by
  intro n;induction n with
  |zero=>simp
  |succ n ih=>simp [pL,kC];omega
 have a3:∀n i,i<n*z.size→((List.replicate n z.toList).flatten)[i]?=z.toList[i%z.size]?:=by
  intro n
  induction n with
  |zero=>intro i hi;simp at hi
  | succ n ih=>
   intro i hi;rw [pL,mD]
   by_cases h:i<z.size
   ·rw [gM (by simpa using h),tH h]
   ·rw [iE (by simpa using h),eZ,ih (i-z.size) (by rw [kC] at hi;omega)];congr 1;rw [←Nat.mod_eq_sub_mod (by omega)]
 by_cases h:i<n*z.size
 ·rw [a3 n i h];have hm:i%z.size<z.size:=nP _ hz;simp [h,hm]
 ·rw [wO (by simp;omega),wO (by rw [a0];omega)]
def wZ {α:Type} (x:α):∀n,kY x n=List.replicate n x
 |0=>rfl
 |n+1=>by rw [kY,wZ x n,pL]
def MA {sz:Nat}:∀(n:Nat) (l:List V),l.length=n*sz→(rF sz n l).flatten=l∧(∀el∈rF sz n l,el.length=sz)∧(rF sz n l).length=n
 |0,l,h=>by simp at h;subst h;simp [rF]
 | n +1,l,h=>by
  rw [kC] at h;have hd:(fZ sz l).length=n*sz:=by rw [lD];simp;omega
  obtain⟨h1,h2,h3⟩:=MA n (fZ sz l) hd;have ht:mG sz l=some (l.take sz):=by
   have:∀(k:Nat) (l:List V),k≤l.length→mG k l=some (l.take k):=by
    intro k
    induction k with
    |zero=>intro l _;rfl
    | succ k ih=>
     intro l hl;cases l with
     |nil=>simp at hl
     |cons a l=>
      have e:mG (k+1) (a::l)=Option.rec (motive:=fun _=>Option (List V)) none (fun x=>some (a::x)) (mG k l):=rfl;rw [e,ih l (by simpa using hl)];rfl
   exact this sz l (by omega)
  unfold rF;rw [ht];refine⟨?_,?_,by simp [h3]⟩
  ·simp only [BX,mD];rw [h1,lD,rS]
  ·intro el a2;simp only [BX,cN] at a2;rcases a2 with rfl|a2
   ·simp;omega
   ·exact h2 el a2
end
section
variable {P:Program} {m:Mp} {w:Wo}
def Eh (h:fI v):v.oneCell'=true:=by cases v<;>first|rfl|exact h.elim
def Ef {b:Nat} (h:w.heap[b]?=some (.cells C t fz)):
  w.setCell ⟨b,o,none⟩ v={ w with heap:=w.heap.setIfInBounds b (.cells (C.setIfInBounds o v) t fz) }:=by
 unfold World.setCell;have hb:b<w.heap.size:=(cV.1 h).1;congr 1;apply wS;intro i;simp only [rW,qG]
 by_cases e:b=i
 ·subst e;have a5:=(cV.1 h).2;simp [hb,a5]
 ·simp [e]
def DB {b off:Nat} {t:TypeId} {fz:Nat × Nat}:∀(vs:Lv) (i:Nat) (C:Array Value) (w:Wo),w.heap[b]?=some (.cells C t fz)→off+i+vs.length≤C.size→(∀v∈vs,fI v)→
  (∀j,j<vs.length→¬(fz.1≤off+i+j∧off+i+j<fz.2))→
  (storeCells ⟨b,off,none⟩ vs i).run P w= .ok () { w with heap:=w.heap.setIfInBounds b (.cells ⟨C.toList.take (off+i)++vs++C.toList.drop (off+i+vs.length)⟩ t fz) }
 | [],i,C,w,h,_,_,_=>by
  have hb:b<w.heap.size:=(cV.1 h).1;have a5:=(cV.1 h).2;simp only [storeCells,dV,yU,pN,gQ,rS];congr 1;have:w.heap.setIfInBounds b (.cells C t fz)=w.heap:=by
   apply wS;intro j;simp only [qG]
   by_cases e:b=j
   ·subst e;simp [hb,a5]
   ·simp [e]
  show w={ w with heap:=w.heap.setIfInBounds b (.cells C t fz) };rw [this]
 | v::vs,i,C,w,h,hl,hs,hf=>by
  simp only [jD] at hl;have hb:b<w.heap.size:=(cV.1 h).1;have hc:w.cell? ⟨b,off+i,none⟩=some (C[off+i]'(by omega)):=by simp [World.cell?,h,show off+i<C.size by omega]
  have hz:w.frozen? ⟨b,off+i,none⟩=false:=by
   have:=hf 0 (by simp);simp only [gQ] at this;simp only [World.frozen?,h];rw [yW];simpa using this
  have h1:(store ((⟨b,off,none⟩:Addr).add i) v).run P w= .ok () (w.setCell ⟨b,off+i,none⟩ v):=by
   rw [rK,run_store P w _ v .plain (Eh (hs v (by simp)))];simp [hc,hz]
  have a1:=Ef (o:=off+i) (v:=v) h;rw [a1] at h1;have a6:({ w with heap:=w.heap.setIfInBounds b (.cells (C.setIfInBounds (off+i) v) t fz) }:Wo).heap[b]?=some (.cells (C.setIfInBounds (off+i) v) t fz):=by simp [hb]
  have ih:=DB (off:=off) vs (i+1) (C.setIfInBounds (off+i) v) _ a6 (by rw [Array.size_setIfInBounds];omega) (fun x hx=>hs x (by simp [hx])) (fun j hj=>by
   have h9:=hf (j+1) (by simpa using hj);have e9:off+i+(j+1)=off+(i+1)+j:=by omega
   rw [e9] at h9;exact h9)
  simp only [storeCells,cX,h1,eD,ih];congr 1;have b0:off+i<C.toList.length:=by simp;omega
  have e1:(C.setIfInBounds (off+i) v).toList.take (off+(i+1))=C.toList.take (off+i)++ [v]:=by
   rw [HG,←pJ,Aj,Re b0];rw [CG _ _ (by simp;omega)];have hm:min (off+i) C.size=off+i:=by simp at b0;omega
   simp [hm]
  have e2:(C.setIfInBounds (off+i) v).toList.drop (off+(i+1)+vs.length)=C.toList.drop (off+i+(vs.length+1)):=by
   rw [HG,Rv (by omega)];congr 1;omega
  rw [e1,e2];simp [Array.setIfInBounds_setIfInBounds]
def PY (l:List (List V)) (i:Nat) (x:List V):sA l i x=l.set i x:=by
 induction l generalizing i with
 |nil=>rfl
 |cons a l ih=>cases i with
  |zero=>rfl
  |succ i=>show a::sA l i x=_;rw [ih];rfl
def VJ {sz:Nat}:∀{els:List (List V)} (h:∀el∈els,el.length=sz) {q o:Nat} {el a0 xs:List V},els[q]?=some el→∀{r:Nat},r+xs.length≤sz→a0=el.take r++xs++el.drop (r+xs.length)→q*sz+r=o→
  (els.set q a0).flatten=els.flatten.take o++xs++els.flatten.drop (o+xs.length)
 | [],_,q,o,el,a0,xs,hq,r,hr,he,ho=>by simp at hq
 |x::els,h,0,o,el,a0,xs,hq,r,hr,he,ho=>by
  simp at hq;subst hq;have hx:=h x (by simp);have:o=r:=by omega
  subst this;simp only [Rf,mD,he];rw [List.take_append_of_le_length (by omega),Ry (by omega)];simp
 | x::els,h,q+1,o,el,a0,xs,hq,r,hr,he,ho=>by
  simp at hq;have hx:=h x (by simp);have ih:=VJ (fun el he=>h el (by simp [he])) hq hr he (o:=q*sz+r) rfl;have c0:o=sz+(q*sz+r):=by rw [←ho,kC];omega
  simp only [Rg,mD,ih];have t1:(x++els.flatten).take o=x++els.flatten.take (q*sz+r):=by
   rw [List.take_append,iW (by omega)];congr 2;omega
  have t2:(x++els.flatten).drop (o+xs.length)=els.flatten.drop (q*sz+r+xs.length):=by
   rw [Av,Rx (by omega),lG];congr 1;omega
  rw [t1,t2];simp
def Bj {h:H} (k:HR m h w) {b:Id} {o n:Nat} {xs:List V} {xs':Lv} {v:V} {l:Loc} (hl:m b=some l) (hn:xs.length=n) (hx:Rl m xs xs') (hs:∀x∈xs',fI x)
  (hw:wr h b o xs n= .ok v h'):v=dU∧∃w',(storeCells ⟨l.blk,l.base+o,none⟩ xs').run P w= .ok () w'∧Fr m h w m h' w':=by
 unfold wr at hw;cases hb:aB b h.mem with
 |none=>rw [hb] at hw;cases hw
 | some ob=>
  rw [hb] at hw;cases ob with
  |map _ _=>cases hw
  |siter _ _ _=>cases hw
  |miter _ _ _ _=>cases hw
  | cells sz els f ro=>
   cases ro with
   |fz=>cases hw
   |fr _=>cases hw
   | rw ty=>
    have a3:(Option.rec (motive:=fun _=>VH) .bad
     (fun el=>Option.rec (motive:=fun _=>VH) .bad
      (fun a0=>.ok dU (fR (iS h f b) b (.cells sz (sA els (Nat.div o sz) a0) f (.rw ty))))
      (Bool.rec (motive:=fun _=>Option (List V)) (jY (Nat.mod o sz) el xs) (some xs) (Nat.beq (Nat.mod o sz) 0&&Nat.beq n sz)))
     (qS els (Nat.div o sz)):VH)= .ok v h':=hw
    rw [DQ] at a3;cases he:els[Nat.div o sz]? with
    |none=>rw [he] at a3;cases a3
    | some el=>
     rw [he] at a3;obtain⟨l2,hl2,C,t,fz,hc⟩:=k.obj _ _ hb;rw [hl] at hl2;cases hl2;have a7:=hc.each el (bV he);have b4:∃a0,(Bool.rec (motive:=fun _=>Option (List V)) (jY (Nat.mod o sz) el xs) (some xs) (Nat.beq (Nat.mod o sz) 0&&Nat.beq n sz):Option (List V))=some a0∧
       o%sz+xs.length≤sz∧a0=el.take (o%sz)++xs++el.drop (o%sz+xs.length):=by
      cases ht:(Nat.beq (Nat.mod o sz) 0&&Nat.beq n sz) with
      |true=>
       simp only [aR] at ht;have h1:o%sz=0:=bG ht.1;have h2:n=sz:=bG ht.2;refine⟨xs,rfl,by omega,?_⟩;rw [h1];simp;omega
      | false=>
       cases ho:jY (Nat.mod o sz) el xs with
       | none=>
        exfalso;have:(Option.rec (motive:=fun _=>VH) .bad (fun a0=>.ok dU (fR (iS h f b) b (.cells sz (sA els (Nat.div o sz) a0) f (.rw ty)))) (jY (Nat.mod o sz) el xs):VH)= .ok v h':=by
         simpa [ht] using a3
        rw [ho] at this;cases this
       |some a0=>
        obtain⟨h1,h2⟩:=xE _ _ _ ho;exact⟨a0,rfl,by rw [a7] at h1;exact h1,h2⟩
     obtain⟨a0,hel1,hel2,hel3⟩:=b4;have b9:VH.ok dU (fR (iS h f b) b (.cells sz (sA els (Nat.div o sz) a0) f (.rw ty)))= .ok v h':=by
      have:(Option.rec (motive:=fun _=>VH) .bad (fun a0=>.ok dU (fR (iS h f b) b (.cells sz (sA els (Nat.div o sz) a0) f (.rw ty))))
       (Bool.rec (motive:=fun _=>Option (List V)) (jY (Nat.mod o sz) el xs) (some xs) (Nat.beq (Nat.mod o sz) 0&&Nat.beq n sz)):VH)= .ok v h':=a3
      rw [hel1] at this;exact this
     cases b9;refine⟨rfl,?_⟩;have c3:=hx.length;have hq:o/sz<els.length:=(aZ.1 he).1;have b6:=pF hc.each;have b3:o/sz*sz+o%sz=o:=by have:=lZ o sz;rw [dM] at this;exact this
     have b8:(o/sz+1)*sz≤els.length*sz:=fP _ hq;have b5:o+xs.length≤els.flatten.length:=by
      rw [b6];rw [kC] at b8;omega
     have a4:=hc.room;have b7:=hc.len;have a8:=DB (P:=P) (b:=l.blk) (off:=l.base+o) (t:=t) (fz:=fz) xs' 0 C w hc.at_ (by omega) hs (fun j hj=>by
      have:=hc.free rfl (o+j) (by omega);rw [show l.base+(o+j)=l.base+o+0+j by omega] at this;exact this)
     refine⟨_,a8,Fr.updCells k hb hl rfl ?_⟩;intro b2;have a1:(sA els (Nat.div o sz) a0).flatten=els.flatten.take o++xs++els.flatten.drop (o+xs.length):=by
      rw [PY];exact VJ hc.each he (by omega) hel3 b3
     refine⟨_,t,fz,⟨b2,?_,?_,?_,?_,hc.free,hc.plain,hc.typ,hc.al⟩⟩
     ·have:(⟨C.toList.take (l.base+o+0)++xs'++C.toList.drop (l.base+o+0+xs'.length)⟩:Array Value).size=C.size:=by
       show(C.toList.take (l.base+o+0)++xs'++C.toList.drop (l.base+o+0+xs'.length)).length=C.size;simp only [aV,bT,fD,eZ];omega
      rw [this];exact a4
     ·rw [a1];simp only [aV,bT,fD,eZ];omega
     ·intro e0 a9;rw [PY] at a9;rcases GQ a9 with h1|rfl
      ·exact hc.each e0 h1
      ·rw [hel3];simp;omega
     ·intro i x a2;rw [a1] at a2;have b1:∀j:Nat,(⟨C.toList.take (l.base+o+0)++xs'++C.toList.drop (l.base+o+0+xs'.length)⟩:Array Value)[j]?=
        (C.toList.take (l.base+o)++xs'++C.toList.drop (l.base+o+xs'.length))[j]?:=by intro j;simp
      rw [b1]
      by_cases c1:i<o
      ·rw [iP,gM (by simp only [aV,bT,fD,eZ];omega),jN c1] at a2;obtain⟨u,h1,h2,h3⟩:=hc.val i x a2;refine⟨u,?_,h2,h3⟩;rw [iP,gM (by simp only [aV,bT,fD,eZ];omega),jN (by omega)];simpa using h1
      ·by_cases c2:i<o+xs.length
       ·rw [iP,iE (by simp only [aV,bT,fD,eZ];omega),gM (by simp only [aV,bT,fD,eZ];omega)] at a2;have e1:i-(els.flatten.take o).length=i-o:=by simp only [aV,bT,fD,eZ];omega
        rw [e1] at a2;obtain⟨u,h1,h2⟩:=hx.get a2;refine⟨u,?_,h2,hs u (bV h1)⟩;rw [iP,iE (by simp only [aV,bT,fD,eZ];omega),gM (by simp only [aV,bT,fD,eZ];omega),←h1];congr 1;simp only [aV,bT,fD,eZ];omega
       ·rw [iE (by simp only [aV,bT,fD,eZ];omega),mC] at a2;have e1:o+xs.length+(i-(els.flatten.take o++xs).length)=i:=by simp only [aV,bT,fD,eZ];omega
        rw [e1] at a2;obtain⟨u,h1,h2,h3⟩:=hc.val i x a2;refine⟨u,?_,h2,h3⟩;rw [iE (by simp only [aV,bT,fD,eZ];omega),mC];have e2:l.base+o+xs'.length+(l.base+i-(C.toList.take (l.base+o)++xs').length)=l.base+i:=by simp only [aV,bT,fD,eZ];omega
        rw [e2];simpa using h1
end
section
variable {P:Program} {m:Mp} {w:Wo}
def Pj {e:Env} (ke:dE m n e a) (hg:Gl P m) {h h':H} (k:HR m h w) {t el:TypeId} {len sz:Nat} {z v:V} {zc:List V} {ps:Array (Nat × Operand)} (hu:P.underlying t=some (.slice el))
  (hx:(ps.toList.map (·.2)).all (dX P n)=true) (hs:cF P el=some (sz+1)) (hz:iF P el=some z) (hc:fM z=some zc) (b4:len*(sz+1)≤16777216) (a4:zc.length=sz+1) {cs:List V}
  (hb:lF (fun i=>some (i*(sz+1),sz+1)) ((kY zc len).flatten) ((oW ps.toList).run e)=some cs)
  (hn:oY el h (sz+1) (rF (sz+1) len cs) (fun i=>.sl i 0 len (sz+1))= .ok v h'):
  ∃u w' m',(Instr.buildSlice t len (ps.map fun(i,x)=>(i,a.eval x))).run P w= .ok u w'∧Fr m h w m' h' w'∧R m' v u:=by
 obtain⟨p1,p2⟩:=DO ke hg hx;have b2:(ps.map fun(i,x)=>(i,a.eval x)).toList=ps.toList.map fun x=>(x.1,a.eval x.2):=by simp
 obtain⟨uz,hzr,rfl,_⟩:=mV (w:=w) hz;obtain⟨a1,h1,h2,h3⟩:=sQ (m:=m) hc;have a2:uz.cells.size=sz+1:=by rw [h1];show a1.length=_;rw [h2.length,a4]
 obtain⟨r',hr1,hr2,hr3⟩:=EU _ _ p1 p2 (h2.rep len) (zL h3 len) hb;have a0:((Array.range (len*(sz+1))).map (uz.cells[· %uz.cells.size]!))=⟨(List.replicate len a1).flatten⟩:=by
  apply mT.1;rw [←a2,yY uz.cells len (by omega),h1]
 have a6:cs.length=len*(sz+1):=by
  have hl:∀(ps:List (Nat × V)) (c r:List V),lF (fun i=>some (i*(sz+1),sz+1)) c ps=some r→r.length=c.length:=by
   intro ps
   induction ps with
   |nil=>intro c r h;have:c=r:=bP (by simpa [lF] using h);rw [this]
   | cons p ps ih=>
    intro c r h;obtain⟨i,x⟩:=p;unfold lF at h;simp only at h;cases hq:fM x with
    |none=>rw [hq] at h;cases h
    | some c0=>
     rw [hq] at h;simp only at h;cases hb:Nat.beq (fW c0) (sz+1) with
     |false=>rw [hb] at h;cases h
     | true=>
      rw [hb] at h;simp only [dG] at h;cases ho:jY (i*(sz+1)) c c0 with
      |none=>rw [ho] at h;cases h
      |some c2=>
       rw [ho] at h;obtain⟨h5,h6⟩:=xE _ _ _ ho;rw [ih _ _ h,h6];simp only [aV,bT,fD];omega
  have:=hl _ _ _ hb;rw [this,wZ];have:∀k,((List.replicate k zc).flatten).length=k*(sz+1):=by
   intro k;induction k with
   |zero=>simp
   |succ k ih=>rw [pL,mD,aV,ih,a4,kC];omega
  exact this len
 obtain⟨c1,c2,c3⟩:=MA len cs a6;obtain⟨m',hf,hm,rfl⟩:=xM k hn c2 (us:=r') (by rw [c1];exact hr2) hr3 (C:=⟨r'⟩) (extra:=[]) (by simp) el (0,0) (.inl rfl);refine⟨.slice (some ⟨w.heap.size,0,none⟩) len len,_,m',?_,hf,?_⟩
 ·have a8:¬(len*(sz+1)>2^24):=by omega
  rw [←b2] at hr1
  by_cases h0:len*(sz+1)=0
  ·have b1:len=0:=by
    rcases Nat.mul_eq_zero.1 h0 with h|h
    ·exact h
    ·omega
   subst b1;simp only [Instr.buildSlice,cX,bK hu,eD,jU hs,BV,if_neg a8,if_pos h0,dV];have e0:((Array.range (0*(sz+1))).map fun x=>(#[]:Array Value)[x%(#[]:Array Value).size]!)=(⟨(List.replicate 0 a1).flatten⟩:Array Value):=by simp
   simp only [e0,hr1,cX,newRow,ND,eD,dV]
  ·simp only [Instr.buildSlice,cX,bK hu,eD,jU hs,BV,if_neg a8,if_neg h0,dV,hzr,a0,hr1,newRow,ND]
 ·simp only [R];refine⟨_,len,hm,by simp,aA _,?_⟩;show 0+len*(sz+1)≤r'.length;rw [hr2.length];omega
def Jj {h:H} (k:HR m h w) {t el:TypeId} {sz N M:Nat} {k1 k2:IntKind} {z v:V} {zc:List V} {a3:TypeInfo} (hu:P.underlying t=some (.slice el)) (hs:cF P el=some (sz+1))
  (hz:iF P el=some z) (hc:fM z=some zc) (hi:P.info? el=some a3) (b0:a3.bytes≤1000000) (a4:zc.length=sz+1) (a9:N≤M) (hM:M≤100000)
  (hn:oY el h (sz+1) (kY zc M) (fun i=>.sl i 0 N (sz+1))= .ok v h'):
  ∃u w' m',(Instr.makeSlice t (.int k1 (N:Int)) (.int k2 (M:Int))).run P w= .ok u w'∧Fr m h w m' h' w'∧R m' v u:=by
 obtain⟨uz,hzr,rfl,_⟩:=mV (w:=w) hz;obtain⟨a1,h1,h2,h3⟩:=sQ (m:=m) hc;have a2:uz.cells.size=sz+1:=by rw [h1];show a1.length=_;rw [h2.length,a4]
 have a0:((Array.range (M*(sz+1))).map (uz.cells[· %uz.cells.size]!))=⟨(List.replicate M a1).flatten⟩:=by
  apply mT.1;rw [←a2,yY uz.cells M (by omega),h1]
 have a5:∀e0∈kY zc M,e0.length=sz+1:=by
  intro e0 he;rw [wZ] at he;rw [(yS.1 he).2,a4]
 obtain⟨m',hf,hm,rfl⟩:=xM k hn a5 (us:=(List.replicate M a1).flatten) (h2.rep M) (zL h3 M) (C:=⟨(List.replicate M a1).flatten⟩) (extra:=[]) (by simp) el (0,0) (.inl rfl);have a6:((List.replicate M a1).flatten).length=M*(sz+1):=by
  have:∀k,((List.replicate k a1).flatten).length=k*(sz+1):=by
   intro k;induction k with
   |zero=>simp
   |succ k ih=>rw [pL,mD,aV,ih,h2.length,a4,kC];omega
  exact this M
 refine⟨.slice (some ⟨w.heap.size,0,none⟩) N M,_,m',?_,hf,?_⟩
 ·have a7:(a3.bytes:Int)*(M:Int)≤281474976710656:=by
   have h9:a3.bytes*M≤1000000*100000:=tG b0 hM;have h8:((a3.bytes*M:Nat):Int)≤281474976710656:=by omega
   simpa using h8
  obtain⟨i2,hi2,hzi⟩:∃i,P.info? el=some i∧i.zero=some uz:=by
   obtain⟨u2,hu2,_,i,hi',hz'⟩:=mV (w:=w) hz;rw [hzr] at hu2;cases hu2;exact⟨i,hi',hz'⟩
  rw [hi] at hi2;cases hi2;have b3:a3.size=sz+1:=by
   obtain⟨i3,hi3,h4⟩:=rZ hs;rw [hi] at hi3;cases hi3;exact h4
  have:=GC (P:=P) w t el a3 uz hu hi hzi k1 k2 (N:Int) (M:Int) (by omega) (by omega) a7 (by omega);rw [this,b3];simp only [CL,madeCells];rw [a0];rfl
 ·simp only [R];refine⟨_,M,hm,by simp,a9,?_⟩;show 0+M*(sz+1)≤((List.replicate M a1).flatten).length;omega
end
section
variable {P:Program} {m:Mp} {w:Wo}
def YJ {x y:V} (hk:pT x=true) (h:V.beq x y=true):x=y:=by
 cases x<;>simp only [pT,fT] at hk<;>cases y<;>simp only [V.beq,fT] at h
 case b.b x y=>
  have e0:x=y:=by simpa using h
  rw [e0]
 case i.i k n k' n'=>
  simp only [aR] at h;obtain⟨h1,h2⟩:=h;have e1:k=k':=by cases k<;>cases k'<;>first|rfl|(simp at h1)
  have e2:n=n':=by
   cases n<;>cases n'<;>simp only [fT] at h2
   ·rw [bG h2]
   ·rw [bG h2]
  rw [e1,e2]
 case s.s l c l' c'=>
  simp only [sEq,aR] at h;rw [bG h.1,bG h.2]
 case pn.pn=>rfl
 case p.p b o b' o'=>
  simp only [aR] at h;rw [Id.beq_iff.1 h.1,bG h.2]
 case ni.ni=>rfl
def YG:∀{l r:List V},l.all pT=true→lU l r=true→l=r
 | [],[],_,_=>rfl
 | [],_::_,_,h=>by simp [lU] at h
 |_::_,[],_,h=>by simp [lU] at h
 |a::l,b::r,hk,h=>by
  simp only [rU,aR] at hk;simp only [lU,aR] at h;rw [YJ hk.1 h.1,YG hk.2 h.2]
def YI {x y:V} (hk:uH x=true) (h:V.beq x y=true):x=y:=by
 cases x
 case agg l=>
  cases y<;>simp only [V.beq,fT] at h;rw [YG hk h]
 all_goals exact YJ (by exact hk) h
def TW {x:V} (hk:pT x=true) (h:R m x u) (h':R m x u'):u=u':=by
 cases x<;>simp only [pT,fT] at hk
 case s l c=>
  rw [iI] at h h';obtain⟨s,rfl,h1,_⟩:=h;obtain⟨s',rfl,h1',_⟩:=h';rw [Pe (h1.trans h1'.symm)]
 case p b o=>
  obtain⟨l,hl,rfl⟩:=R_p h;obtain⟨l',hl',rfl⟩:=R_p h';rw [hl] at hl';cases hl';rfl
 all_goals
  simp only [R] at h h';rw [h,h']
def TV:∀{l:List V} {u u':Lv},l.all pT=true→Rl m l u→Rl m l u'→u=u'
 | [],u,u',_,h,h'=>by simp only [Rl] at h h';rw [h,h']
 |a::l,u,u',hk,h,h'=>by
  simp only [rU,aR] at hk;simp only [Rl] at h h';obtain⟨x,xs,rfl,h1,h2⟩:=h;obtain⟨x',xs',rfl,h1',h2'⟩:=h';rw [TW hk.1 h1 h1',TV hk.2 h2 h2']
def Jz {x:V} (hk:uH x=true) (h:R m x u) (h':R m x u'):u=u':=by
 cases x
 case agg l=>
  obtain⟨l1,rfl,h1,_⟩:=qC h;obtain⟨l2,rfl,h2,_⟩:=qC h';rw [TV hk h1 h2]
 all_goals exact TW (by exact hk) h h'
def TY {x:V} (hk:pT x=true) (h:R m x u) (n:Nat):Instr.sameBits n u u=true:=by
 cases x<;>simp only [pT,fT] at hk
 case s l c=>
  rw [iI] at h;obtain⟨s,rfl,_⟩:=h;cases n<;>simp [Instr.sameBits,beq_toListBytes]
 case p b o=>
  obtain⟨l,hl,rfl⟩:=R_p h;cases n<;>simp [Instr.sameBits]
 all_goals
  simp only [R] at h;subst h;cases n<;>simp [Instr.sameBits]
def TX:∀{l:List V} {us:Lv},l.all pT=true→Rl m l us→∀n,(us.zip us).all (fun x=>Instr.sameBits n x.1 x.2)=true
 | [],us,_,h,n=>by simp only [Rl] at h;subst h;rfl
 |a::l,us,hk,h,n=>by
  simp only [rU,aR] at hk;simp only [Rl] at h;obtain⟨u,us,rfl,h1,h2⟩:=h;simp only [Rc,rU,aR];exact⟨TY hk.1 h1 n,TX hk.2 h2 n⟩
def Ka {x:V} (hk:uH x=true) (h:R m x u) (n:Nat):Instr.sameBits (n+1) u u=true:=by
 cases x
 case agg l=>
  obtain⟨l1,rfl,h1,_⟩:=qC h;have:=TX hk h1 n;simp only [Instr.sameBits,aR];exact⟨by simp,this⟩
 all_goals exact TY (by exact hk) h _
def TU {x:V} (hk:uH x=true) (h:R m x u) (h':R m x u'):(Instr.keyThatStays u u').run P w= .ok u' w:=by
 rw [Jz hk h h'];have:=Ka hk h' 9999;simp only [Instr.keyThatStays,this,if_true,dV]
def sB {b:Nat} {o o':Obj} (hb:w.heap[b]?=some o) (hn:∀c t f,o≠ .cells c t f):(setObj b o').run P w= .ok () { w with heap:=w.heap.setIfInBounds b o' }:=by
 cases o<;>first|exact absurd rfl (hn _ _ _)|simp [setObj,Sem.run,hb]
def cR.set:∀{es:List Ent} {xs:List MapEntry} (i:Nat) {e':Ent} {f:MapEntry→MapEntry},cR m es xs→(∀y,xs[i]?=some y→EntR m e' (f y))→cR m (tN es i e') (xs.modify i f)
 | [],xs,i,e',f,h,_=>by simp only [cR] at h;subst h;simp [tN,cR]
 |a::es,xs,0,e',f,h,hf=>by
  obtain⟨x,xs,rfl,hx,hxs⟩:=h;simp only [tN,List.modify_zero_cons,cR];exact⟨_,_,rfl,hf x rfl,hxs⟩
 |a::es,xs,i+1,e',f,h,hf=>by
  obtain⟨x,xs,rfl,hx,hxs⟩:=h;simp only [tN,Rm,cR];exact⟨_,_,rfl,hx,cR.set i hxs (fun y hy=>hf y (by simpa using hy))⟩
def cR.append:∀{es es':List Ent} {xs xs':List MapEntry},cR m es xs→cR m es' xs'→cR m (es++es') (xs++xs')
 | [],_,xs,_,h,h'=>by simp only [cR] at h;subst h;exact h'
 |a::es,_,xs,_,h,h'=>by
  obtain⟨x,xs,rfl,hx,hxs⟩:=h;simp only [mF,cR];exact⟨_,_,rfl,hx,hxs.append h'⟩
def cR.del:∀{es:List Ent} {xs:List MapEntry} (i:Nat),cR m es xs→cR m (xZ es i) (xs.eraseIdx i)
 | [],xs,i,h=>by simp only [cR] at h;subst h;simp [xZ,cR]
 |a::es,xs,0,h=>by obtain⟨x,xs,rfl,hx,hxs⟩:=h;simpa [xZ] using hxs
 |a::es,xs,i+1,h=>by
  obtain⟨x,xs,rfl,hx,hxs⟩:=h;simp only [xZ,List.eraseIdx_cons_succ,cR];exact⟨_,_,rfl,hx,hxs.del i⟩
end
section
variable {P:Program} {m:Mp} {w:Wo}
def vR {h:H} (k:HR m h w) {b:Id} {l:Loc} {es a7:List Ent} {c c2:Nat} {a6:List MapEntry} (hb:aB b h.mem=some (.map es c)) (hl:m b=some l) (a1:cR m a7 a6):
  Fr m h w m (fR h b (.map a7 c2)) { w with heap:=w.heap.setIfInBounds l.blk (.map ⟨a6⟩ c2) }:=
 Fr.updObj k hb hl (by simp) (by simp) rfl (fun a9=>⟨a6,a9,a1⟩)
def SX {h:H} (k:HR m h w) {t kt et:TypeId} {b:Id} {l:Loc} {key x v:V} {a0 ux:Value} (hu:P.underlying t=some (.map kt et)) (hl:m b=some l) (hk:R m key a0) (hx:R m x ux)
  (hs:DX P kt h b key x= .ok v h'):v=dU∧∃w',(Instr.mapUpdate t (.map (some l.blk)) a0 ux).run P w= .ok () w'∧Fr m h w m h' w':=by
 unfold DX at hs;cases he:kH h b with
 |none=>rw [he] at hs;cases hs
 | some p=>
  obtain⟨es,c⟩:=p;rw [he] at hs;simp only at hs;obtain⟨l2,xs,hb,hl2,hm,a1⟩:=sP k he;rw [hl] at hl2;cases hl2;cases hf:qY P kt h key es with
  |none=>rw [hf] at hs;cases hs
  | some r=>
   rw [hf] at hs;obtain⟨h1,h2,h3⟩:=ET k hk a1 hf false;cases r with
   |none=>
    simp only at hs;cases hs;refine⟨rfl,_,?_,vR k hb hl (a1.append (es':=[⟨key,x,c⟩]) (xs':=[⟨a0,ux,c⟩]) ⟨_,_,rfl,⟨hk,hx,rfl⟩,rfl⟩)⟩;simp only [Instr.mapUpdate,cX,bK hu,eD,run_getMap hm,h1,h2,NK,sB hm (by simp)];simp
   | some p=>
    obtain⟨i,e⟩:=p;simp only at hs;obtain⟨a2,y,hy,hye⟩:=h3 _ rfl;simp only at a2 hy hye;cases hkb:(uH key&&V.beq key e.key) with
    |false=>rw [hkb] at hs;cases hs
    |true=>
     rw [hkb] at hs;cases hs;simp only [aR] at hkb;have a3:=YI hkb.1 hkb.2;have a5:R m key y.key:=by rw [a3];exact hye.1
     refine⟨rfl,_,?_,vR k hb hl (a1.set i (e':=⟨key,x,e.born⟩) (f:=fun z=>{ z with key:=a0,val:=ux }) (fun z hz=>by rw [hy] at hz;cases hz;exact⟨hk,hx,hye.2.2⟩))⟩;have a4:(⟨xs⟩:Array MapEntry)[i]?=some y:=by simpa using hy
     simp only [Instr.mapUpdate,cX,bK hu,eD,run_getMap hm,h1,h2,rP,a4,BX,TU hkb.1 a5 hk,sB hm (by simp)];congr 5;apply mT.1;simp
def Jh {h:H} (k:HR m h w) {t kt et:TypeId} {b:Id} {l:Loc} {key z v:V} {a0:Value} (hu:P.underlying t=some (.map kt et)) (hz:iF P et=some z) (hl:m b=some l) (hk:R m key a0)
  (hs:JX P kt z h b key= .ok v h'):∃u w',(Instr.mapEntry t (.map (some l.blk)) a0).run P w= .ok u w'∧Fr m h w m h' w'∧R m v u:=by
 obtain⟨uz,hzr,rfl,_⟩:=mV (w:=w) hz;unfold JX at hs;cases he:kH h b with
 |none=>rw [he] at hs;cases hs
 | some p=>
  obtain⟨es,c⟩:=p;rw [he] at hs;simp only at hs;obtain⟨l2,xs,hb,hl2,hm,a1⟩:=sP k he;rw [hl] at hl2;cases hl2;cases hf:qY P kt h key es with
  |none=>rw [hf] at hs;cases hs
  | some r=>
   rw [hf] at hs;obtain⟨h1,h2,h3⟩:=ET k hk a1 hf false;cases r with
   | none=>
    simp only at hs;cases hs;refine⟨.tuple #[uz,goInt c],_,?_,vR k hb hl (a1.append (es':=[⟨key,cst uz,c⟩]) (xs':=[⟨a0,uz,c⟩]) ⟨_,_,rfl,⟨hk,uN m uz,rfl⟩,rfl⟩),?_⟩
    ·simp only [Instr.mapEntry,cX,bK hu,eD,run_getMap hm,h1,h2,NK,hzr,sB hm (by simp),dV];simp
    ·simp only [R,Rl];exact⟨_,rfl,_,_,rfl,uN m uz,_,_,rfl,rfl,rfl⟩
   | some p=>
    obtain⟨i,e⟩:=p;simp only at hs;obtain⟨a2,y,hy,hye⟩:=h3 _ rfl;simp only at a2 hy hye;cases hkb:(uH key&&V.beq key e.key) with
    |false=>rw [hkb] at hs;cases hs
    | true=>
     rw [hkb] at hs;cases hs;simp only [aR] at hkb;have a3:=YI hkb.1 hkb.2;have a5:R m key y.key:=by rw [a3];exact hye.1
     have a4:(⟨xs⟩:Array MapEntry)[i]?=some y:=by simpa using hy
     have b0:(xs.getD i default).val=y.val:=by simp [Rq,hy]
     refine⟨.tuple #[y.val,goInt y.born],_,?_,vR k hb hl (a1.set i (e':=⟨key,e.val,e.born⟩) (f:=fun z=>{ z with key:=a0 }) (fun z hz=>by rw [hy] at hz;cases hz;exact⟨hk,hye.2.1,hye.2.2⟩)),?_⟩
     ·simp only [Instr.mapEntry,cX,bK hu,eD,run_getMap hm,h1,h2,rP,a4,b0,BX,TU hkb.1 a5 hk,sB hm (by simp),dV];congr 5;apply mT.1;simp
     ·simp only [R,Rl];exact⟨_,rfl,_,_,rfl,hye.2.1,_,_,rfl,by rw [hye.2.2];rfl,rfl⟩
def Ji {h:H} (k:HR m h w) {t kt et:TypeId} {b:Id} {l:Loc} {key v:V} {a0:Value} {ts:List TypeId} {ty:TypeId} (hu:P.underlying t=some (.map kt et)) (hl:m b=some l) (hk:R m key a0)
  (hs:JY P kt h b key= .ok v h'):v=dU∧∃w',(Builtin.delete_ ⟨t::ts⟩ ty #[.map (some l.blk),a0]).run P w= .ok (.tuple #[]) w'∧Fr m h w m h' w':=by
 unfold JY at hs;cases he:kH h b with
 |none=>rw [he] at hs;cases hs
 | some p=>
  obtain⟨es,c⟩:=p;rw [he] at hs;simp only at hs;obtain⟨l2,xs,hb,hl2,hm,a1⟩:=sP k he;rw [hl] at hl2;cases hl2;cases hf:qY P kt h key es with
  |none=>rw [hf] at hs;cases hs
  | some r=>
   rw [hf] at hs;obtain⟨h1,h2,h3⟩:=ET k hk a1 hf xs.isEmpty;have a8:(⟨xs⟩:Array MapEntry).isEmpty=xs.isEmpty:=by cases xs<;>rfl
   cases r with
   |none=>
    simp only at hs;cases hs;refine⟨rfl,_,?_,vR k hb hl a1⟩;simp [Builtin.delete_,bK hu,run_getMap hm,a8,h1,h2,sB hm]
   | some p=>
    obtain⟨i,e⟩:=p;simp only at hs;cases hs;refine⟨rfl,_,?_,vR k hb hl (a1.del i)⟩;have:(⟨xs⟩:Array MapEntry).eraseIdxIfInBounds i=⟨xs.eraseIdx i⟩:=by
     apply mT.1;simp
    simp [Builtin.delete_,bK hu,run_getMap hm,a8,h1,h2,sB hm,this]
def XZ {nn:Nat}:∀{es:List Ent} {xs:List MapEntry} (i:Nat) {j:Nat} {e:Ent},cR m es xs→BI nn es i=some (j,e)→
  i≤j∧es[j-i]?=some e∧(∃y,xs[j-i]?=some y∧EntR m e y)∧xs.findIdx? (fun y=>(y.born:Int)==(nn:Int))=some (j-i)
 | [],xs,i,j,e,h,he=>by cases he
 | a::es,xs,i,j,e,h,he=>by
  obtain⟨x,xs,rfl,hx,hxs⟩:=h;unfold BI at he;cases hb:Nat.beq a.born nn with
  |true=>
   rw [hb] at he;cases he;have h1:((x.born:Int)==(nn:Int))=true:=by rw [hx.2.2,bG hb];simp
   refine⟨aA _,by simp,⟨x,by simp,hx⟩,?_⟩;simp [Ru,h1]
  | false=>
   rw [hb] at he;have h1:((x.born:Int)==(nn:Int))=false:=by
    rw [hx.2.2];simp;intro h;have:a.born=nn:=by omega
    subst this;simp at hb
   obtain⟨i1,i2,⟨y,i3,i4⟩,i5⟩:=XZ (i+1) hxs he;have e1:j-i=(j-(i+1))+1:=by omega
   refine⟨by omega,by rw [e1];simpa using i2,⟨y,by rw [e1];simpa using i3,i4⟩,?_⟩;simp only [Ru,h1,i5,e1];rfl
def Mt {h:H} (k:HR m h w) {t:TypeId} {b:Id} {l:Loc} {nn:Nat} {kk:IntKind} {x v:V} {ux:Value} (hl:m b=some l) (hx:R m x ux)
  (hs:LK h b nn x= .ok v h'):v=dU∧∃w',(Instr.entryStore t (.map (some l.blk)) (.int kk (nn:Int)) ux).run P w= .ok () w'∧Fr m h w m h' w':=by
 unfold LK at hs;cases he:kH h b with
 |none=>rw [he] at hs;cases hs
 | some p=>
  obtain⟨es,c⟩:=p;rw [he] at hs;simp only at hs;obtain⟨l2,xs,hb,hl2,hm,a1⟩:=sP k he;rw [hl] at hl2;cases hl2;cases hf:BI nn es 0 with
  |none=>rw [hf] at hs;cases hs
  |some p=>
   obtain⟨i,e⟩:=p;rw [hf] at hs;cases hs;obtain⟨_,i2,⟨y,i3,i4⟩,i5⟩:=XZ 0 a1 hf;simp only [GG] at i2 i3 i5;refine⟨rfl,_,?_,vR k hb hl (a1.set i (e':=⟨e.key,x,e.born⟩) (f:=fun z=>{ z with val:=ux }) (fun z hz=>by rw [i3] at hz;cases hz;exact⟨i4.1,hx,i4.2.2⟩))⟩;have b1:(⟨xs⟩:Array MapEntry).findIdx? (fun e=>(e.born:Int)==(nn:Int))=some i:=by simpa using i5
   simp only [Instr.entryStore,cX,run_getMap hm,eD,asInt,asIntOf,dV,b1,sB hm (by simp)];congr 5;apply mT.1;simp
end
section
variable {P:Program} {m:Mp} {w:Wo}
def wW:∀(n:Nat) (L r:List (List V)),rY n L=some r→n≤L.length∧r=L.take n
 |0,L,r,h=>by
  have:[]=r:=bP h;subst this;simp
 |n+1,[],r,h=>by cases h
 | n+1,a::L,r,h=>by
  have e:rY (n+1) (a::L)=Option.rec (motive:=fun _=>Option (List (List V))) none (fun x=>some (a::x)) (rY n L):=rfl;rw [e] at h;cases hx:rY n L with
  |none=>rw [hx] at h;cases h
  |some x=>
   rw [hx] at h;cases h;obtain⟨h5,rfl⟩:=wW n L x hx;exact⟨by simp;omega,by simp⟩
def EZ:∀(n:Nat) (L:List (List V)),AY n L=L.drop n
 |0,L=>rfl
 |n+1,[]=>rfl
 |n+1,a::L=>by show AY n L=_;rw [EZ n L];rfl
def AT {sz:Nat}:∀(L:List (List V)) (q:Nat),(∀el∈L,el.length=sz)→(L.drop q).flatten=L.flatten.drop (q*sz)
 | [],q,_=>by simp
 |a::L,0,_=>by simp
 | a::L,q+1,hL=>by
  have ha:=hL a (by simp);have e1:(a++L.flatten).drop ((q+1)*sz)=L.flatten.drop (q*sz):=by
   rw [Av,Rx (by rw [ha,kC];omega),lG];congr 1;rw [ha,kC];omega
  rw [gS,AT L q (fun el he=>hL el (by simp [he])),mD,e1]
def AS {sz:Nat}:∀(L:List (List V)) (q:Nat),(∀el∈L,el.length=sz)→(L.take q).flatten=L.flatten.take (q*sz)
 | [],q,_=>by simp
 |a::L,0,_=>by simp
 | a::L,q+1,hL=>by
  have ha:=hL a (by simp);have e1:(a++L.flatten).take ((q+1)*sz)=a++L.flatten.take (q*sz):=by
   rw [List.take_append,iW (by rw [ha,kC];omega)];congr 2;rw [ha,kC];omega
  rw [gL,mD,AS L q (fun el he=>hL el (by simp [he])),mD,e1]
def LM {l:Loc} {a0:List (List V)} {ro:Rw} (hc:CellsAt m w l sz a0 ro C t fz) (ho:o%sz=0)
  (b4:len≤(a0.drop (o/sz)).length):
  ∃us,(∀el∈(a0.drop (o/sz)).take len,el.length=sz)∧((a0.drop (o/sz)).take len).length=len∧us.length=len*sz∧Rl m ((a0.drop (o/sz)).take len).flatten us∧(∀x∈us,fI x)∧
   (∀(j:Nat) v,us[j]?=some v→C[l.base+o+j]?=some v):=by
 have a2:∀el∈(a0.drop (o/sz)).take len,el.length=sz:=fun el a3=>hc.each el (CI (lH a3))
 have a5:((a0.drop (o/sz)).take len).length=len:=by rw [bT];omega
 have hq:o/sz*sz=o:=by have:=lZ o sz;rw [dM,ho] at this;simpa using this
 have a4:((a0.drop (o/sz)).take len).flatten=(a0.flatten.drop o).take (len*sz):=by
  rw [AS _ _ (fun el a3=>hc.each el (CI a3)),AT _ _ hc.each,hq]
 have a7:=pF a2;rw [a5] at a7;have a1:∀j,j<len*sz→∃v u,((a0.drop (o/sz)).take len).flatten[j]?=some v∧C[l.base+o+j]?=some u∧R m v u∧fI u:=by
  intro j hj;have hv:∃v,((a0.drop (o/sz)).take len).flatten[j]?=some v:=⟨_,cE (by rw [a7];exact hj)⟩;obtain⟨v,hv⟩:=hv;have b0:=hv;rw [a4,jN hj,mC] at b0;obtain⟨u,h1,h2,h3⟩:=hc.val _ _ b0;exact⟨v,u,hv,by rw [pJ];exact h1,h2,h3⟩
 refine⟨(List.range (len*sz)).map (fun j=>(C[l.base+o+j]?).getD undef),a2,a5,by simp,?_,?_,?_⟩
 ·refine Rl.mk (by rw [a7];simp) ?_;intro j v u hv hu;have hj:j<len*sz:=by have:=(aZ.1 hv).1;rw [a7] at this;exact this
  obtain⟨v',u',hv',hu',hR,_⟩:=a1 j hj;rw [hv] at hv';cases hv';simp only [jO,uX hj,rP,dW] at hu;rw [hu'] at hu;subst hu;exact hR
 ·intro x hx;simp only [gF,GP] at hx;obtain⟨j,hj,rfl⟩:=hx;obtain⟨v',u',_,hu',_,hs⟩:=a1 j hj;rw [hu'];exact hs
 ·intro j v hv;have hj:j<len*sz:=by have:=(aZ.1 hv).1;simpa using this
  obtain⟨v',u',_,hu',_,_⟩:=a1 j hj;simp only [jO,uX hj,rP,dW] at hv;rw [hu'] at hv;simp at hv;subst hv;exact hu'
def FP:∀(s:List UInt8),(nJ (s.map UInt8.toNat)).length=s.length∧(∀el∈nJ (s.map UInt8.toNat),el.length=1)∧
  Rl m (nJ (s.map UInt8.toNat)).flatten (s.map fun b=>.int .u8 b.toNat)
 | []=>by simp [nJ,Rl]
 | b::s=>by
  obtain⟨h1,h2,h3⟩:=FP s;refine⟨by simp [nJ,h1],?_,?_⟩
  ·intro el a3;simp only [kL,nJ,cN] at a3;rcases a3 with rfl|a3
   ·rfl
   ·exact h2 el a3
  ·simp only [kL,nJ,mD,mF,lG,Rl];exact⟨_,_,rfl,by simp [R],h3⟩
def LN {h:H} (k:HR m h w) {sz:Nat} {x:V} {u:Value} {els:List (List V)} (hx:R m x u) (he:rC h (sz+1) x=some els):
  ∃us,(∀el∈els,el.length=sz+1)∧us.length=els.length*(sz+1)∧Rl m els.flatten us∧(∀y∈us,fI y)∧(Builtin.lenOf u).run P w= .ok els.length w∧
   ∀n,n≤els.length→(Builtin.firstCells (sz+1) n u).run P w= .ok ⟨us.take (n*(sz+1))⟩ w:=by
 unfold rC at he;split at he
 ·cases he;simp only [R] at hx;subst hx;exact⟨[],by simp,by simp,by simp [Rl],by simp,by simp [Builtin.lenOf],fun n hn=>by simp [Builtin.firstCells]⟩
 ·cases he;simp only [R] at hx;obtain⟨a,cap,rfl⟩:=hx;refine⟨[],by simp,by simp,by simp [Rl],by simp,by simp [Builtin.lenOf],fun n hn=>?_⟩;have:n=0:=by simpa using hn
  subst this;simp [Builtin.firstCells,loadCells,loadCellsFrom]
 ·rename_i b o len z;split at he
  ·rename_i b3 a0 f ro hb;cases hc:(Nat.beq (sz+1) b3&&Nat.beq (Nat.mod o (sz+1)) 0) with
   |false=>rw [hc] at he;cases he
   | true=>
    rw [hc] at he;simp only [dG] at he;simp only [aR] at hc;have h1:=bG hc.1;subst h1;have h2:o%(sz+1)=0:=bG hc.2;obtain⟨l,hl,C,t,fz,hcs⟩:=k.obj _ _ hb;rw [EZ] at he;obtain⟨h5,rfl⟩:=wW _ _ _ he;obtain⟨us,e1,e2,e3,e4,e5,e6⟩:=LM hcs h2 h5;simp only [R] at hx;obtain⟨l2,cap,hl2,rfl,hlc,hlim⟩:=hx;rw [hl] at hl2;cases hl2;refine⟨us,e1,?_,e4,e5,?_,?_⟩
    ·rw [e3];congr 1;exact e2.symm
    ·simp only [Builtin.lenOf,dV];congr 1;exact e2.symm
    ·intro n hn;have b2:n≤len:=by have h6:((a0.drop (Nat.div o (sz+1))).take len).length=len:=e2;rw [h6] at hn;exact hn
     have a6:=ZI (P:=P) (w:=w) ⟨l.blk,l.base+o,none⟩ (us.take (n*(sz+1))) (fun j v hv=>by
      rw [rK,uQ hcs.at_];rw [yT] at hv;split at hv
      ·exact e6 j v hv
      ·cases hv)
     have b1:(us.take (n*(sz+1))).length=n*(sz+1):=by
      rw [bT,e3];exact CF (fP _ b2)
     rw [b1] at a6;simp only [Builtin.firstCells];simpa using a6
  ·cases he
 ·rename_i l c;cases hz:Nat.beq (sz+1) 1 with
  |false=>rw [hz] at he;cases he
  |true=>
  rw [hz] at he;simp only [dG,dW] at he;subst he;have b5:=bG hz;have:sz=0:=by omega
  subst this;rw [iI] at hx;obtain⟨s,rfl,hb,_⟩:=hx;rw [←hb];obtain⟨h1,h2,h3⟩:=FP (m:=m) s.data.toList;have a9:s.data.toList.length=s.size:=by rw [eZ];rfl
  have a8:(nJ (eU s)).length=s.size:=by rw [←a9];exact h1
  refine⟨s.data.toList.map (fun b:UInt8=>(Value.int .u8 ((b.toNat:Nat):Int))),h2,by rw [a8];simp [a9],h3,by simp [fI],?_,?_⟩
  ·rw [a8];simp [Builtin.lenOf]
  ·intro n hn;simp only [Builtin.firstCells,dV];congr 1;apply mT.1;obtain⟨⟨sl⟩⟩:=s;have:=ByteArray.extract_mk sl 0 n;rw [show(ByteArray.mk ⟨sl⟩).extract 0 n=(ByteArray.mk sl.toArray).extract 0 n from rfl,this];simp
 ·cases he
end
section
variable {P:Program} {m:Mp} {w:Wo}
def OQ (b:Id):∀(l:List Id),(∀x∈(oP b l).1,x≠b∧x∈l)∧(∀x∈(oP b l).2,x∈l)∧(∀x∈l,x≠b→x∈(oP b l).1∨x∈(oP b l).2)∧(b∈l→∃pre,l=pre++b::(oP b l).2)∧(b∉l→(oP b l).2= [])
 | []=>by simp [oP]
 | x ::l=>by
  obtain⟨h1,h2,h3,h4,h5⟩:=OQ b l;cases e:Id.beq x b with
  |true=>
   have:=Id.beq_iff.1 e;subst this;simp only [oP,e,dG];refine⟨by simp,fun y hy=>by simp [hy],fun y hy a2=>?_,fun _=>⟨[],rfl⟩,fun h=>absurd (by simp) h⟩;simp only [cN] at hy;rcases hy with rfl|hy
   ·exact absurd rfl a2
   ·exact .inr hy
  | false=>
   have a2:x≠b:=fun h=>by rw [Id.beq_iff.2 h] at e;cases e
   simp only [oP,e,mO];refine⟨?_,fun y hy=>by simp [h2 y hy],?_,?_,?_⟩
   ·intro y hy;simp only [cN] at hy ⊢;rcases hy with rfl|hy
    ·exact⟨a2,.inl rfl⟩
    ·exact⟨(h1 y hy).1,.inr (h1 y hy).2⟩
   ·intro y hy d0;simp only [cN] at hy ⊢;rcases hy with rfl|hy
    ·exact .inl (.inl rfl)
    ·rcases h3 y hy d0 with h|h
     ·exact .inl (.inr h)
     ·exact .inr h
   ·intro hb;simp only [cN] at hb;rcases hb with rfl|hb
    ·exact absurd rfl a2
    ·obtain⟨pre,hpre⟩:=h4 hb;exact⟨x::pre,by simp [←hpre]⟩
   ·intro hb;exact h5 (fun h=>hb (by simp [h]))
def UO {h:H} (k:HR m h w) {b f:Id} {sz len q tg:Nat} {els old new:List (List V)} {l:Loc} {v:V} (hb:aB b h.mem=some (.cells sz els f (.rw tg))) (hl:m b=some l)
  (hq:q+len=els.length) (c8:old=els.drop q) (hg:grown tg sz b f len old new h= .ok v h') (a2:∀el∈new,el.length=sz)
  {C':Array Value} {t:TypeId} {fz':Nat × Nat} {w':Wo} {l':Loc}
  (hw:(w'={ w with heap:=w.heap.setIfInBounds l.blk (.cells C' t fz') }∧l'=⟨l.blk,l.base+q*sz,l.lim-q*sz⟩∧(∃C fz,w.heap[l.blk]?=some (.cells C t fz')∧CellsAt m w l sz els (.rw tg) C t fz∧fz=fz'∧C'.size=C.size∧
    (∀j,j<l.base+els.flatten.length→C'[j]?=C[j]?)))∨
   (w'={ w with heap:=w.heap.push (.cells C' t fz') }∧l'=⟨w.heap.size,0,C'.size⟩))
  (d7:∀m2:Mp,m.le m2→w'.heap[l'.blk]?=some (.cells C' t fz')→CellsAt m2 w' l' sz (old++new) (.rw tg) C' t fz'):
  ∃m',Fr m h w m' h' w'∧m' h.next=some l'∧v= .sl h.next 0 (len+new.length) sz:=by
 obtain⟨mem,fams,next⟩:=h;unfold grown at hg;simp only at hg;cases hs:next.succ with
 |none=>rw [hs] at hg;cases hg
 | some nx=>
  rw [hs] at hg;simp only at hg;obtain⟨u1,u2,u3,u4,u5⟩:=OQ b (bR f fams);generalize f7:oP b (bR f fams)=ut at hg u1 u2 u3 u4 u5;obtain⟨a5,rest⟩:=ut;simp only at hg u1 u2 u3 u4 u5;cases hg;rw [Qf,uE];have e5:m next=none:=by
   cases e:m next with
   |none=>rfl
   |some l0=>exact absurd (k.dom _ _ e) (uW _)
  have b6:m.le (fun x=>if x=next then some l' else m x):=by
   intro x lx hx;have:x≠next:=fun e=>by rw [e,e5] at hx;cases hx
   simp [this,hx]
  have f5:=Id.succ_toNat hs;have d8:b.toNat<next.toNat:=k.dom _ _ hl
  have a0:∀x ox,aB x (fU next (some (.cells sz (old++new) f (.rw tg))) (kF a5 mem))=some ox→(x=next∧ox= .cells sz (old++new) f (.rw tg))∨(x≠next∧x∉a5∧aB x mem=some ox):=by
   intro x ox hx
   by_cases e:x=next
   ·subst e;rw [iA] at hx;exact .inl ⟨rfl,(bP hx).symm⟩
   ·rw [gN e,oC] at hx;split at hx
    ·cases hx
    ·exact .inr ⟨e,by assumption,hx⟩
  obtain⟨lb,c6,C0,t0,fz0,hcb⟩:=k.obj _ _ hb;have c6:lb=l:=by have:m b=some lb:=c6;rw [hl] at this;cases this;rfl
  subst c6;have b5:=k.lt _ _ hl;have c1:∀y b1 els' f' ro' ly,y∉a5→aB y mem=some (.cells b1 els' f' ro')→m y=some ly→ly.blk=lb.blk→ly.base+els'.flatten.length≤lb.base+els.flatten.length:=by
   intro y b1 els' f' ro' ly hd hy a4 a6
   by_cases e:y=b
   ·subst e;have h1:aB y mem=some (.cells sz els f (.rw tg)):=hb;rw [h1] at hy;cases hy;rw [hl] at a4;cases a4;exact aA _
   ·have hf:f'=f:=k.sep y b _ _ ly lb hy hb a4 hl e a6;subst hf;have e9:y∈bR f' fams:=k.fam y b _ _ _ _ _ _ _ hy hb e;have d0:b∈bR f' fams:=k.fam b y _ _ _ _ _ _ _ hb hy (fO e);have f0:y∈rest:=by
     rcases u3 y e9 e with h1|h1
     ·exact absurd h1 hd
     ·exact h1
    obtain⟨pre,hpre⟩:=u4 d0;have ho:=k.ord f';have c7:(pre++b::rest).Pairwise (EndLe m mem):=by rw [←hpre];exact ho
    have:=(Am.1 c7).2.1;have:=(wM.1 this).1 y f0;exact this _ _ _ _ _ _ _ _ _ _ hb hy hl a4 a6.symm
  have c5:∀(hA:l'.blk=lb.blk),lb.base+els.flatten.length≤l'.base+(old++new).flatten.length:=by
   intro hA;rcases hw with⟨_,hl',_⟩|⟨_,hl'⟩
   ·subst hl';have h1:=pF hcb.each;have h2:(old++new).flatten.length=old.flatten.length+new.flatten.length:=by simp
    have h3:old.flatten.length=els.flatten.length-q*sz:=by
     rw [c8,AT _ _ hcb.each,fD]
    have h4:q*sz≤els.flatten.length:=by rw [h1];exact fP _ (by omega)
    show lb.base+els.flatten.length≤lb.base+q*sz+(old++new).flatten.length;omega
   ·subst hl';have:w.heap.size=lb.blk:=hA;omega
  have b4:w'.heap[l'.blk]?=some (.cells C' t fz'):=by
   rcases hw with⟨rfl,rfl,_⟩|⟨rfl,rfl⟩
   ·simp [b5]
   ·simp
  have b8:∀B,B<w.heap.size→B≠lb.blk→w'.heap[B]?=w.heap[B]?:=by
   intro B hB a2;rcases hw with⟨rfl,_,_⟩|⟨rfl,_⟩
   ·simp [qG,fO a2]
   ·exact AH _ hB
  have b0:w.heap.size≤w'.heap.size∧l'.blk<w'.heap.size:=by
   rcases hw with⟨rfl,rfl,_⟩|⟨rfl,rfl⟩
   ·simp [b5]
   ·simp
  have a7:l'.blk=lb.blk∨l'.blk=w.heap.size:=by
   rcases hw with⟨_,rfl,_⟩|⟨_,rfl⟩
   ·exact .inl rfl
   ·exact .inr rfl
  refine⟨_,⟨b6,⟨?_,?_,?_,?_,?_,?_,?_,?_⟩,b0.1,?_,?_,?_,?_,?_,?_,by show next.toNat≤nx.toNat;omega,fun x sz1 els1 f1 c0 hx=>by
   rcases a0 x _ hx with⟨rfl,e⟩|⟨_,_,hx1⟩
   ·cases e;exact .inr ⟨b,_,_,_,hb⟩
   ·exact .inr ⟨x,sz1,els1,c0,hx1⟩⟩,by simp,rfl⟩
  ·
   intro x ox hx;rcases a0 x ox hx with⟨rfl,rfl⟩|⟨a2,hd,hx1⟩
   ·exact⟨l',by simp,C',t,fz',d7 _ b6 b4⟩
   ·clear hx;have hx:=hx1;obtain⟨lx,a1,ho⟩:=k.obj x ox hx;refine⟨lx,by simp [a2,a1],?_⟩;have b7:=k.lt _ _ a1
    by_cases hB:lx.blk=lb.blk
    ·
     rcases hw with⟨d4,a9,C,fz,hC,hCA,hfz,hsz,hsame⟩|⟨d4,a9⟩
     ·by_cases c9:∃b1 els' f' ro',ox= .cells b1 els' f' ro'
      ·obtain⟨b1,els',f',ro',rfl⟩:=c9;obtain⟨Cx,tx,fzx,hcx⟩:=ho;have d2:=hcx.at_;rw [hB,hC] at d2;have c2:C=Cx∧t=tx∧fz'=fzx:=by
        injection d2 with e;injection e with e1 e2 e3
        exact⟨e1,e2,e3⟩
       obtain⟨c2,hT1,hF1⟩:=c2;have f6:=c1 x _ _ _ _ lx hd hx a1 hB;have c3:w'.heap[lx.blk]?=some (.cells C' t fz'):=by rw [hB,←b4,a9]
       subst c2;subst hT1;subst hF1;refine⟨C',t,fz',⟨c3,by rw [hsz];exact hcx.room,hcx.len,hcx.each,?_,hcx.free,hcx.plain,hcx.typ,hcx.al⟩⟩;intro i v hv;obtain⟨u,h1,h2,h3⟩:=hcx.val i v hv;have hi:=(aZ.1 hv).1;exact⟨u,by rw [hsame _ (by omega)];exact h1,h2.mono b6,h3⟩
      ·exfalso
       by_cases e:x=b
       ·subst e;have h1:aB x mem=some (.cells sz els f (.rw tg)):=hb;rw [h1] at hx;cases hx;exact c9 ⟨_,_,_,_,rfl⟩
       ·have:=k.sep x b ox _ lx lb hx hb a1 hl e hB;cases ox with
        |cells b1 els' f' ro'=>exact c9 ⟨_,_,_,_,rfl⟩
        |map _ _=>exact this
        |siter _ _ _=>exact this
        |miter _ _ _ _=>exact this
     ·subst d4;exact ho.keep b6 (AH _ b7)
    ·exact ho.keep b6 (b8 _ b7 hB)
  ·
   intro x lx hx;show x.toNat<nx.toNat
   by_cases e:x=next
   ·subst e;omega
   ·simp [e] at hx;have:=k.dom _ _ hx;have h9:x.toNat<next.toNat:=this;omega
  ·
   intro x y ox oy lx ly hx hy a1 a4 a2 a6;rcases a0 x ox hx with⟨rfl,rfl⟩|⟨hn1,hd1,hx1⟩<;>rcases a0 y oy hy with⟨rfl,rfl⟩|⟨hn2,hd2,hy1⟩
   ·exact absurd rfl a2
   ·simp at a1;simp [hn2] at a4;subst a1;have:=k.lt _ _ a4;rcases a7 with hA|hA
    ·by_cases e:y=b
     ·subst e;have h1:aB y mem=some (.cells sz els f (.rw tg)):=hb;rw [h1] at hy1;cases hy1;exact rfl
     ·have a8:=k.sep y b oy _ ly lb hy1 hb a4 hl e (by rw [←a6,hA]);cases oy with
      |cells b1 els' f' ro'=>exact(show f'=f from a8).symm
      |map _ _=>exact a8
      |siter _ _ _=>exact a8
      |miter _ _ _ _=>exact a8
    ·omega
   ·simp at a4;simp [hn1] at a1;subst a4;have:=k.lt _ _ a1;rcases a7 with hA|hA
    ·by_cases e:x=b
     ·subst e;have h1:aB x mem=some (.cells sz els f (.rw tg)):=hb;rw [h1] at hx1;cases hx1;exact rfl
     ·have a8:=k.sep x b ox _ lx lb hx1 hb a1 hl e (by rw [a6,hA]);cases ox with
      |cells b1 els' f' ro'=>exact(show f'=f from a8)
      |map _ _=>exact a8
      |siter _ _ _=>exact a8
      |miter _ _ _ _=>exact a8
    ·omega
   ·simp [hn1] at a1;simp [hn2] at a4;exact k.sep x y ox oy lx ly hx1 hy1 a1 a4 a2 a6
  ·
   intro x y sz1 els1 f1 c0 sz2 els2 d6 hx hy a2;show x∈bR f1 (jR f (next::b::rest) fams)
   by_cases hf:f1=f
   ·subst hf;rw [qZ];rcases a0 x _ hx with⟨rfl,_⟩|⟨hn1,hd1,hx1⟩
    ·simp
    ·by_cases e:x=b
     ·subst e;simp
     ·have e6:x∈bR f1 fams:=k.fam x b _ _ _ _ _ _ _ hx1 hb e;rcases u3 x e6 e with h1|h1
      ·exact absurd h1 hd1
      ·simp [h1]
   ·rw [mL hf];rcases a0 x _ hx with⟨rfl,e1⟩|⟨hn1,hd1,hx1⟩
    ·cases e1;exact absurd rfl hf
    ·rcases a0 y _ hy with⟨rfl,e2⟩|⟨hn2,hd2,hy1⟩
     ·cases e2;exact absurd rfl hf
     ·exact k.fam x y _ _ _ _ _ _ _ hx1 hy1 a2
  ·
   intro f1;show(bR f1 (jR f (next::b::rest) fams)).Pairwise _;have trans:∀x y,x≠next→y≠next→EndLe m mem x y→EndLe (fun x=>if x=next then some l' else m x) (fU next (some (.cells sz (old++new) f (.rw tg))) (kF a5 mem)) x y:=by
    intro x y d5 b9 e7 sz1 els1 f1 c0 sz2 els2 f2 d6 l1 l2 hx hy a9 b3 a6;rcases a0 x _ hx with⟨e,_⟩|⟨_,_,hx1⟩
    ·exact absurd e d5
    ·rcases a0 y _ hy with⟨e,_⟩|⟨_,_,hy1⟩
     ·exact absurd e b9
     ·simp [d5] at a9;simp [b9] at b3;exact e7 _ _ _ _ _ _ _ _ _ _ hx1 hy1 a9 b3 a6
   have a3:∀f2 x,x∈bR f2 fams→x≠next:=fun f2 x hx e=>by
    have:=k.flt f2 x hx;subst e;exact absurd this (uW _)
   have lift:∀L:List Id,(∀x∈L,x≠next)→L.Pairwise (EndLe m mem)→L.Pairwise (EndLe (fun x=>if x=next then some l' else m x) (fU next (some (.cells sz (old++new) f (.rw tg))) (kF a5 mem))):=by
    intro L hL hp;exact hp.imp_of_mem (fun hx hy h=>trans _ _ (hL _ hx) (hL _ hy) h)
   by_cases hf:f1=f
   ·subst hf;rw [qZ];have d9:(b::rest).Pairwise (EndLe m mem):=by
     by_cases d1:b∈bR f1 fams
     ·obtain⟨pre,hpre⟩:=u4 d1;have ho:=k.ord f1;have c7:(pre++b::rest).Pairwise (EndLe m mem):=by rw [←hpre];exact ho
      exact(Am.1 c7).2.1
     ·rw [u5 d1];simp
    have c4:b≠next:=fun e=>by subst e;exact absurd d8 (uW _)
    have d3:∀x∈b::rest,x≠next:=by
     intro x hx;simp only [cN] at hx;rcases hx with rfl|hx
     ·exact c4
     ·exact a3 f1 x (u2 x hx)
    refine wM.2 ⟨?_,lift _ d3 d9⟩;intro y hy sz1 els1 f2 c0 sz2 els2 f3 d6 l1 l2 hx e8 a9 b3 a6;rcases a0 next _ hx with⟨_,e1⟩|⟨hn,_,_⟩
    ·cases e1;have b9:=d3 y hy;rcases a0 y _ e8 with⟨e,_⟩|⟨_,hd,hy1⟩
     ·exact absurd e b9
     ·simp at a9;subst a9;simp [b9] at b3;have e4:=k.lt _ _ b3;rcases a7 with hA|hA
      ·have h1:=c1 y _ _ _ _ l2 hd hy1 b3 (by rw [←a6,hA]);have h2:=c5 hA;omega
      ·omega
    ·exact absurd rfl hn
   ·rw [mL hf];exact lift _ (fun x hx=>a3 f1 x hx) (k.ord f1)
  ·
   intro x lx hx
   by_cases e:x=next
   ·subst e;simp at hx;subst hx;exact b0.2
   ·simp [e] at hx;have:=k.lt _ _ hx;omega
  ·
   intro x sz1 els1 f1 c0 hx;show f1.toNat<nx.toNat;have f4:f.toNat<next.toNat:=k.famlt _ _ _ _ _ hb
   rcases a0 x _ hx with⟨rfl,e1⟩|⟨_,_,hx1⟩
   ·cases e1;omega
   ·have:f1.toNat<next.toNat:=k.famlt _ _ _ _ _ hx1;omega
  ·
   intro f1 x hx;show x.toNat<nx.toNat;have b2:x∈bR f1 (jR f (next::b::rest) fams):=hx
   by_cases hf:f1=f
   ·subst hf;rw [qZ] at b2;simp only [cN] at b2;rcases b2 with rfl|rfl|b2
    ·omega
    ·omega
    ·have:x.toNat<next.toNat:=k.flt f1 x (u2 x b2);omega
   ·rw [mL hf] at b2;have:x.toNat<next.toNat:=k.flt f1 x b2;omega
  ·
   intro B hB hn;refine b8 B hB ?_;rintro rfl;exact hn ⟨b,_,lb,hb,hl,rfl,by simp [oN]⟩
  ·rcases hw with⟨rfl,_⟩|⟨rfl,_⟩<;>rfl
  ·rcases hw with⟨rfl,_⟩|⟨rfl,_⟩<;>rfl
  ·rcases hw with⟨rfl,_⟩|⟨rfl,_⟩<;>rfl
  ·
   intro x ox lx hx a1;rcases a0 x ox hx with⟨rfl,rfl⟩|⟨a2,hd,hx1⟩
   ·simp at a1;subst a1;rcases a7 with hA|hA
    ·exact .inr ⟨b,_,lb,hb,hl,hA.symm,fun _=>by simp [oN]⟩
    ·exact .inl (by omega)
   ·simp [a2] at a1;exact .inr ⟨x,ox,lx,hx1,a1,rfl,id⟩
  ·
   intro x lx hx e0;have:x≠next:=fun e=>by subst e;exact absurd e0 (uW _)
   simpa [this] using hx
end
section
variable {P:Program} {m:Mp} {w:Wo}
def UP {a0:Nat}:∀(r c:Nat),c≤2*a0+768→Builtin.growBy a0 r c≤2*a0+768
 |0,c,h=>h
 |r+1,c,h=>by
  simp only [Builtin.growBy];split
  ·exact h
  ·exact UP r _ (by omega)
def Ip (h:cap<a0):Builtin.nextslicecap a0 cap≤2*a0+768:=by
 unfold Builtin.nextslicecap;split
 ·omega
 ·split
  ·omega
  ·exact UP _ _ (by omega)
def run_append_room {x:Value} (h0:ts[0]?=some t) (h1:ts[1]?=some t2)
  (hu:P.underlying t=some (.slice el)) (a8:P.underlying t2=some u2) (a7:∀k,u2≠ .int k) (hi:P.info? el=some a2) (a3:(Builtin.lenOf x).run P w= .ok n w)
  (a5:len+n≤cap) (hf:(Builtin.firstCells a2.size n x).run P w= .ok a1 w):
  (Builtin.append_ ts ty #[.slice base len cap,x]).run P w=match (match base with|some a=>(storeCells (a.add (len*a2.size)) a1.toList).run P w|none=>.ok () w:Result Unit) with
   | .ok _ w'=>.ok (.slice base (len+n) cap) w'
   | .halt h w'=>.halt h w':=by
 unfold Builtin.append_;have hz:(match u2 with| .int _=>true|_=>false)=false:=by cases u2<;>first|rfl|exact absurd rfl (a7 _)
 cases base<;>simp [h0,h1,iN hu,iN a8,sizeOf,typeInfo,hi,hz,a3,a5,hf];cases (storeCells _ a1.toList).run P w<;>rfl
def run_append_grow {x:Value} (h0:ts[0]?=some t) (h1:ts[1]?=some t2)
  (hu:P.underlying t=some (.slice el)) (a8:P.underlying t2=some u2) (a7:∀k,u2≠ .int k) (hi:P.info? el=some a2) (hz:a2.zero=some z) (a3:(Builtin.lenOf x).run P w= .ok n w)
  (a5:cap<len+n) (b3:len+n≤2000000) (b0:a2.bytes≤1000000)
  (b1:(Builtin.firstCells a2.size len (.slice base len cap)).run P w.drew= .ok olds w.drew)
  (hf:(Builtin.firstCells a2.size n x).run P w.drew= .ok a1 w.drew):
  ∃nc,len+n≤nc∧(Builtin.append_ ts ty #[.slice base len cap,x]).run P w= .ok (.slice (some ⟨w.heap.size,0,none⟩) (len+n) nc)
   { w.drew with heap:=w.drew.heap.push (.cells (olds++a1++Builtin.zeroCells z.cells (nc-(len+n))) el (0,0)) }:=by
 refine⟨(Question.appendCap (len+n) cap el).cut (w.tape w.drawn (.appendCap (len+n) cap el)),by simp [Question.cut],?_⟩;unfold Builtin.append_;have b2:(match u2 with| .int _=>true|_=>false)=false:=by cases u2<;>first|rfl|exact absurd rfl (a7 _)
 have a9:¬(281474976710656<Builtin.nextslicecap (len+n) cap*a2.bytes):=by
  have h2:=tG (Ip a5) b0;omega
 have a4:¬(9223372036854775807<((len:Int)+(n:Int))):=by omega
 have a6:¬(len+n≤cap):=by omega
 simp [h0,h1,iN hu,iN a8,sizeOf,typeInfo,hi,b2,a3,a6,hf,b1,a9,a4,zeroValue,hz,newRow,askRoom,Question.forced];rfl
end
section
variable {P:Program} {m:Mp} {w:Wo}
structure ElsAt (P:Program) (m:Mp) (w:Wo) (S:Nat) (new:List (List V)) (uy:Value) (us:Lv):Prop where
 each:∀el∈new,el.length=S
 len:us.length=new.length*S
 rel:Rl m new.flatten us
 sc:∀y∈us,fI y
 lenOf:(Builtin.lenOf uy).run P w= .ok new.length w
 first:(Builtin.firstCells S new.length uy).run P w= .ok ⟨us⟩ w
def elsAt {h:H} (k:HR m h w) {sz:Nat} {x:V} {u:Value} {els:List (List V)} (hx:R m x u) (he:rC h (sz+1) x=some els):∃us,ElsAt P m w (sz+1) els u us:=by
 obtain⟨us,h1,h2,h3,h4,h5,h6⟩:=LN (P:=P) k hx he;refine⟨us,h1,h2,h3,h4,h5,?_⟩;rw [h6 _ (aA _),←h2,kD]
structure AppTy (P:Program) (ts:Array TypeId) (S:Nat) (el:TypeId) (a5:TypeInfo) (z:Value):Prop where
 ty:∃t t2 u2,ts[0]?=some t∧ts[1]?=some t2∧P.underlying t=some (.slice el)∧P.underlying t2=some u2∧(∀k,u2≠ .int k)
 info:P.info? el=some a5
 zero:a5.zero=some z
 size:a5.size=S
 zs:z.cells.size=S
 bytes:a5.bytes≤1000000
def ZB {h:H} (k:HR m h w) {b f:Id} {S len q cap:Nat} {els old new:List (List V)} {l:Loc} {v:V} {ts:Array TypeId} {ty el:TypeId} {a5:TypeInfo} {z uy:Value} {us b1:Lv}
  (T:AppTy P ts S el a5 z) (hS:0<S) (hb:aB b h.mem=some (.cells S els f (.rw el))) (hl:m b=some l) (hq:q+len=els.length) (a0:old=els.drop q) (hg:grown el S b f len old new h= .ok v h')
  (e0:len≤cap) (b3:q*S+cap*S≤l.lim) (A:ElsAt P m w S new uy us) (B:ElsAt P m w.drew S new uy b1) (f3:len+new.length≤2000000):
  ∃u w' m',(Builtin.append_ ts ty #[.slice (some ⟨l.blk,l.base+q*S,none⟩) len cap,uy]).run P w= .ok u w'∧Fr m h w m' h' w'∧R m' v u:=by
 obtain⟨⟨t,t2,u2,h0,h1,hu,hu2,hni⟩,hi,hz,hsize,hzs,hby⟩:=T;obtain⟨l2,hl2,C,tC,fz,hc⟩:=k.obj _ _ hb;rw [hl] at hl2;cases hl2;have e9:=pF hc.each;have d6:(els.drop q).length=len:=by rw [fD];omega
 have a3:∀el∈els.drop q,el.length=S:=fun el e7=>hc.each el (CI e7)
 have a9:old.flatten.length=len*S:=by rw [a0,pF a3,d6]
 have b6:=pF A.each;have d0:old.flatten=els.flatten.drop (q*S):=by rw [a0,AT _ _ hc.each]
 have f8:els.flatten.length=q*S+len*S:=by rw [e9,←hq,eO]
 have c2:(old++new).flatten=old.flatten++new.flatten:=by simp
 have a7:∀el∈old++new,el.length=S:=by
  intro e he;rcases eY.1 he with h|h
  ·exact a3 e (a0▸h)
  ·exact A.each e h
 by_cases a1:len+new.length≤cap
 ·
  have hr:=run_append_room (P:=P) (w:=w) (ty:=ty) (base:=some ⟨l.blk,l.base+q*S,none⟩) h0 h1 hu hu2 hni hi A.lenOf a1 (by rw [hsize];exact A.first);have c8:(len+new.length)*S≤cap*S:=fP _ a1;rw [eO] at c8;have d2:=hc.room;have d7:=DB (P:=P) (b:=l.blk) (off:=l.base+q*S+len*S) us 0 C w hc.at_ (by have:=A.len;omega) A.sc (by
   intro j hj hf;have g5:j<new.length*S:=by rw [←A.len];exact hj
   have:=hc.free rfl (q*S+len*S+j) (by omega);exact this (by omega))
  simp only [hsize,rK] at hr;rw [d7] at hr;simp only [gQ] at hr d7;generalize b2:(⟨C.toList.take (l.base+q*S+len*S)++us++C.toList.drop (l.base+q*S+len*S+us.length)⟩:Array Value)=C' at hr;have c4:C.toList.length=C.size:=by simp
  have d3:C'.size=C.size:=by
   rw [←b2];show(C.toList.take _++us++C.toList.drop _).length=_;have:=A.len;rw [aV,aV,bT,fD,c4];omega
  have b4:∀j,j<l.base+q*S+len*S→C'[j]?=C[j]?:=by
   intro j hj;rw [←b2,←kE,←kE];show(C.toList.take _++us++C.toList.drop _)[j]?=_;rw [iP,gM (by rw [bT];omega),jN hj]
  have c9:∀j,j<us.length→C'[l.base+q*S+len*S+j]?=us[j]?:=by
   intro j hj;have b5:(C.toList.take (l.base+q*S+len*S)).length=l.base+q*S+len*S:=by rw [bT];omega
   rw [←b2,←kE];show(C.toList.take _++us++C.toList.drop _)[_]?=_;rw [iP,iE (by omega),b5,gM (by omega)];congr 1;omega
  obtain⟨m',hF,hm,rfl⟩:=UO k hb hl hq a0 hg A.each (C':=C') (t:=tC) (fz':=fz) (w':={ w with heap:=w.heap.setIfInBounds l.blk (.cells C' tC fz) }) (l':=⟨l.blk,l.base+q*S,l.lim-q*S⟩)
   (.inl ⟨rfl,rfl,C,fz,hc.at_,hc,rfl,d3,fun j hj=>b4 j (by omega)⟩) (by
    intro m2 c1 c5;refine⟨c5,?_,?_,a7,?_,?_,hc.plain,hc.typ,by have:=hc.al;show(l.base+q*S)%S=0;rw [Qz];exact this⟩
    ·show l.base+q*S+(l.lim-q*S)≤C'.size;omega
    ·show(old++new).flatten.length≤l.lim-q*S;rw [c2,aV,a9,b6];omega
    ·intro i x hx;show∃u,C'[l.base+q*S+i]?=some u∧_;rw [c2] at hx
     by_cases hi:i<len*S
     ·rw [gM (by omega),d0,mC] at hx;obtain⟨u,g1,g2,g3⟩:=hc.val _ _ hx;exact⟨u,by rw [b4 _ (by omega),pJ];exact g1,g2.mono c1,g3⟩
     ·rw [iE (by omega),a9] at hx;obtain⟨u,g1,g2⟩:=A.rel.get hx;have b5:=(aZ.1 g1).1;refine⟨u,?_,g2.mono c1,A.sc u (bV g1)⟩;rw [←g1,←c9 _ b5];congr 1;omega
    ·intro _ i hi hf;have g0:i<l.lim-q*S:=hi;exact hc.free rfl (q*S+i) (by omega) (by
      have f9:fz.1≤l.base+q*S+i∧l.base+q*S+i<fz.2:=hf;omega))
  refine⟨_,_,m',hr,hF,?_⟩;simp only [R];refine⟨_,cap,hm,by simp,a1,?_⟩;show 0+cap*S≤l.lim-q*S;omega
 ·
  have a2:CellsAt m w.drew l S els (.rw el) C tC fz:=⟨hc.at_,hc.room,hc.len,hc.each,hc.val,hc.free,hc.plain,hc.typ,hc.al⟩;have f1:q*S%S=0:=Nat.mul_mod_left _ _;have d5:q*S/S=q:=Nat.mul_div_cancel _ hS;obtain⟨b9,e1,e2,e3,e4,e5,e6⟩:=LM (len:=len) a2 f1 (by rw [d5,d6];exact aA _);rw [d5,iW (by omega),←a0] at e4;have e8:(Builtin.firstCells a5.size len (.slice (some ⟨l.blk,l.base+q*S,none⟩) len cap)).run P w.drew= .ok ⟨b9⟩ w.drew:=by
   have b7:=ZI (P:=P) (w:=w.drew) ⟨l.blk,l.base+q*S,none⟩ b9 (fun j v hv=>by
    rw [rK,uQ a2.at_];exact e6 j v hv)
   rw [e3] at b7;simp only [Builtin.firstCells,hsize];simpa using b7
  obtain⟨nc,hnc,hr⟩:=run_append_grow (P:=P) (w:=w) (ty:=ty) h0 h1 hu hu2 hni hi hz A.lenOf (Aa a1) f3 hby e8 (by rw [hsize];exact B.first);generalize b2:((⟨b9⟩:Array Value)++(⟨b1⟩:Array Value)++Builtin.zeroCells z.cells (nc-(len+new.length)))=C' at hr;have c4:C'.toList=b9++b1++(Builtin.zeroCells z.cells (nc-(len+new.length))).toList:=by rw [←b2];simp
  have d4:(Builtin.zeroCells z.cells (nc-(len+new.length))).size=(nc-(len+new.length))*S:=by simp [Builtin.zeroCells,hzs]
  have d3:C'.size=nc*S:=by
   rw [←b2,OB,OB,d4];show b9.length+b1.length+_=_;rw [e3,B.len,←eO,←eO];congr 1;omega
  have kd:HR m h w.drew:=k.drawn _;obtain⟨m',hF,hm,rfl⟩:=UO kd hb hl hq a0 hg A.each (C':=C') (t:=el) (fz':=(0,0)) (w':={ w.drew with heap:=w.drew.heap.push (.cells C' el (0,0)) }) (l':=⟨w.drew.heap.size,0,C'.size⟩)
   (.inr ⟨rfl,rfl⟩) (by
    intro m2 c1 c5;refine⟨c5,by simp,?_,a7,?_,fun _ i _ hf=>by simp at hf,fun _ _=>rfl,fun ty e=>by cases e;rfl,BY _⟩
    ·show(old++new).flatten.length≤C'.size;rw [c2,aV,a9,b6,d3,←eO];exact fP _ hnc
    ·intro i x hx;rw [c2] at hx;obtain⟨u,g1,g2⟩:=(e4.append B.rel).get hx;have b5:=(aZ.1 g1).1;refine⟨u,?_,g2.mono c1,?_⟩
     ·show C'[0+i]?=some u;rw [dH,←kE,c4,gM b5,g1]
     ·rcases eY.1 (bV g1) with g|g
      ·exact e5 u g
      ·exact B.sc u g)
  refine⟨_,_,m',hr,(Fr.drawn k _).trans hF,?_⟩;simp only [R];refine⟨_,nc,hm,by simp,hnc,?_⟩;show 0+nc*S≤C'.size;omega
def Qe {h:H} (k:HR m h w) {sz:Nat} {x y v:V} {ux uy:Value} {new:List (List V)} {ts:Array TypeId} {ty el:TypeId} {a5:TypeInfo} {z:Value}
  (T:AppTy P ts (sz+1) el a5 z) (hx:R m x ux) (hy:R m y uy) (he:rC h (sz+1) y=some new) (ha:MZ el h (sz+1) x new= .ok v h'):
  ∃u w' m',(Builtin.append_ ts ty #[ux,uy]).run P w= .ok u w'∧Fr m h w m' h' w'∧R m' v u:=by
 obtain⟨us,A⟩:=elsAt (P:=P) k hy he;obtain⟨b1,B⟩:=elsAt (P:=P) (k.drawn (w.drawn+1)) hy he;have T':=T;obtain⟨⟨t,t2,u2,h0,h1,hu,hu2,hni⟩,hi,hz,hsize,hzs,hby⟩:=T';unfold MZ at ha;split at ha
 ·
  have f5:us= []:=mE (by rw [A.len];simp);subst f5;have b0:∀base len cap,len≤cap→(Builtin.append_ ts ty #[.slice base len cap,uy]).run P w= .ok (.slice base len cap) w:=by
   intro base len cap f0;have hr:=run_append_room (P:=P) (w:=w) (ty:=ty) (base:=base) (len:=len) (cap:=cap) h0 h1 hu hu2 hni hi A.lenOf (by simpa using f0) (by rw [hsize];exact A.first);rw [hr];cases base<;>simp [storeCells]
  split at ha
  ·cases ha;have a8:=hx;simp only [R] at a8;subst a8;exact⟨_,_,m,b0 none 0 0 (aA _),Fr.refl k,by simp [R]⟩
  ·cases ha;have a8:=hx;simp only [R] at a8;obtain⟨a,cap,rfl⟩:=a8;exact⟨_,_,m,b0 _ 0 cap (cJ _),Fr.refl k,hx⟩
  ·cases ha;have a8:=hx;simp only [R] at a8;obtain⟨l,cap,hl,rfl,hlc,b3⟩:=a8;exact⟨_,_,m,b0 _ _ cap hlc,Fr.refl k,hx⟩
  ·cases ha
 ·rename_i n0 nr;cases hln:Nat.ble (pD (n0::nr)) 1000000 with
  |false=>rw [hln] at ha;cases ha
  |true=>
  rw [hln] at ha;simp only [dG] at ha;have f4:(n0::nr).length≤1000000:=by have:=cY hln;rwa [uE] at this
  split at ha
  ·
   simp only [R] at hx;subst hx;obtain⟨nc,hnc,hr⟩:=run_append_grow (P:=P) (w:=w) (ty:=ty) (base:=none) (len:=0) (cap:=0) h0 h1 hu hu2 hni hi hz A.lenOf (by simp) (by omega) hby (olds:=#[]) (by simp [Builtin.firstCells]) (by rw [hsize];exact B.first);have kd:HR m h w.drew:=k.drawn _;obtain⟨m',hF,hm,rfl⟩:=xM kd ha A.each B.rel B.sc (C:=(#[]:Array Value)++(⟨b1⟩:Array Value)++Builtin.zeroCells z.cells (nc-(0+(n0::nr).length))) (extra:=(Builtin.zeroCells z.cells (nc-(0+(n0::nr).length))).toList) (by simp) el (0,0) (.inl rfl);refine⟨_,_,m',hr,(Fr.drawn k _).trans hF,?_⟩;simp only [R,uE];refine⟨_,nc,hm,by simp,by omega,?_⟩;have d4:(Builtin.zeroCells z.cells (nc-(0+(n0::nr).length))).size=(nc-(0+(n0::nr).length))*(sz+1):=by simp [Builtin.zeroCells,hzs]
   show 0+nc*(sz+1)≤(_++_++_:Array Value).size;rw [OB,OB,d4];show 0+nc*(sz+1)≤0+b1.length+_;rw [B.len,dH,dH,←eO];exact fP _ (by omega)
  ·rename_i b o len z0;split at ha
   ·rename_i f6 els f c3 hb;cases a2:(Nat.beq f6 (sz+1)&&(Nat.beq z0 (sz+1)&&(Nat.beq (Nat.mod o (sz+1)) 0&&(Nat.ble len 1000000&&Nat.beq c3 el)))) with
    |false=>rw [a2] at ha;cases ha
    |true=>
    rw [a2] at ha;simp only [dG] at ha;simp only [aR] at a2;have e1:=bG a2.1;subst e1;have e2:=bG a2.2.1;subst e2;have e3:o%(sz+1)=0:=bG a2.2.2.1;have e4:=cY a2.2.2.2.1;have e5:=bG a2.2.2.2.2;subst e5;have hq:o/(sz+1)*(sz+1)=o:=by have:=lZ o (sz+1);rw [dM,e3] at this;simpa using this
    simp only [R] at hx;obtain⟨l,cap,hl,rfl,hlc,b3⟩:=hx;generalize f2:o/(sz+1)=q at*;have d1:Nat.div o (sz+1)=q:=f2;rw [d1] at ha;subst hq;split at ha
    ·cases ha
    ·rename_i old a0;rw [EZ] at a0;obtain⟨g1,g2⟩:=wW _ _ _ a0;cases hfull:Nat.beq (Nat.add q len) (pD els) with
     |true=>
      rw [hfull] at ha;simp only [dG] at ha;have h9:q+len=els.length:=by have:=bG hfull;rwa [uE] at this
      have a4:old=els.drop q:=by rw [g2,iW (by rw [fD];omega)]
      exact ZB k T (ZT _) hb hl h9 a4 ha hlc (by omega) A B (by omega)
     | false=>
      rw [hfull] at ha;simp only [mO] at ha;split at ha
      ·rename_i cut c7;obtain⟨g3,g4⟩:=wW _ _ _ c7;have f7:q+len≤els.length:=g3;have c0:cut=els.take (q+len):=g4;obtain⟨l2,hl2,C,tC,fz,hc⟩:=k.obj _ _ hb;rw [hl] at hl2;cases hl2;have c6:=k.lt _ _ hl;have b8:w={ w with heap:=w.heap.setIfInBounds l.blk (.cells C tC fz) }:=by
        have d9:=(cV.1 hc.at_).2;have:w.heap.setIfInBounds l.blk (.cells C tC fz)=w.heap:=by
         apply wS;intro j;simp only [qG]
         by_cases e:l.blk=j
         ·subst e;simp [c6,d9]
         ·simp [e]
        rw [this]
       have a6:cut.flatten=els.flatten.take ((q+len)*(sz+1)):=by rw [c0,AS _ _ hc.each]
       have F1:=Fr.updCells (els':=cut) (ro':=.rw c3) k hb hl b8 (fun _=>⟨C,tC,fz,⟨hc.at_,hc.room,by rw [a6,bT];have:=hc.len;omega,
        fun e he=>hc.each e (lH (c0▸he)),(fun i x hx=>by
         rw [a6,yT] at hx;split at hx
         ·exact hc.val i x hx
         ·exact absurd hx (by simp)),hc.free,hc.plain,hc.typ,hc.al⟩⟩)
       have d8:aB b (fR (iS h f b) b (.cells (sz+1) cut f (.rw c3))).mem=some (.cells (sz+1) cut f (.rw c3)):=by rw [oQ];exact iA _ _ _
       have a4:old=cut.drop q:=by rw [g2,c0,List.drop_take];congr 1;omega
       obtain⟨u,w',m',r1,r2,r3⟩:=ZB F1.hr T (ty:=ty) (ZT _) d8 hl (by rw [c0,bT];omega) a4 ha hlc (by omega) A B (by omega);exact⟨u,w',m',r1,F1.trans r2,r3⟩
      ·cases ha
   ·cases ha
  ·cases ha
end
end
end Go.Ev
