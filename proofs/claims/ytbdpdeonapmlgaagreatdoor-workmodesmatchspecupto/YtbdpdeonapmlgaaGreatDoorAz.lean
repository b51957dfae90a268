/- Lemmas; no condition. -/
import Derived.Test.YtbdpdeonapmlgaaGreatDoorZ
import GoSem.Step
import Derived.Calls
import Derived.Orders
import Derived.LoopN
import Derived.Below
import Derived.Laws.Tables
import Derived.Laws.Cells
import Derived.Laws.Unary
import Derived.Laws.Strings
import Derived.Laws.Strings2
import Derived.Laws.Concat
import Derived.Laws.StructEq
import Derived.Laws.Entries
import Derived.Lib.UnsafeStr
import Derived.Laws.MakeOwn
import Derived.Lib.ConvBytes
import Derived.Laws.BytesString
set_option linter.all false
set_option maxHeartbeats 4000000
namespace Go.Ev
noncomputable section
variable {t kt e el t2 ty t':TypeId} {n c l cap o len c' l' B off i h:Nat} {u v u' z:Value} {C a1 C' olds:Array Value} {fz fz':Nat × Nat} {s:ByteArray} {a:Act} {w w':Wo} {op:BinOp} {d ds u2:TypeDesc} {ts:Array TypeId} {b isS r:Bool} {base:Option Addr} {x:Option Bool} {k k':IntKind} {a2:TypeInfo} {P:Program} {us:Lv}
section
inductive D8 where
 |d0|d1|d2|d3|d4|d5|d6|d7
structure N8 (α:Type) where
 a0:α
 a1:α
 a2:α
 a3:α
 a4:α
 a5:α
 a6:α
 a7:α
structure Id where
 a:D8
 b:D8
 c:D8
 d:D8
 e:D8
inductive V where
 |top
 |b (x:Bool)
 |i (k:IntKind) (n:Int)
 |s (len b4:Nat)
 |pn
 |p (b:Id) (o:Nat)
 |sn
 |sl (b:Id) (o len sz:Nat)
 |se
 |mn
 |mp (b:Id)
 |fn (f:Fn) (first b3:List V)
 |nf
 |ni
 |agg (l:List V)
 |tup (l:List V)
structure Ent where
 key:V
 val:V
 born:Nat
inductive Rw where
 |rw (ty:Nat)
 |fz
 |fr (ty:Nat)
inductive O where
 |cells (sz:Nat) (els:List (List V)) (fam:Id) (ro:Rw)
 |map (es:List Ent) (a8:Nat)
 |miter (m:Id) (a9:Nat) (seen:List Nat) (b0:Nat)
def N8.all {α:Type} (x:α):N8 α:=⟨x,x,x,x,x,x,x,x⟩
abbrev E1:=N8 V
abbrev E2:=N8 E1
abbrev Env:=N8 E2
abbrev M1:=N8 (Option O)
abbrev M2:=N8 M1
abbrev M3:=N8 M2
abbrev M4:=N8 M3
abbrev Mem:=N8 M4
abbrev F1:=N8 (List Id)
abbrev F2:=N8 F1
abbrev F3:=N8 F2
abbrev F4:=N8 F3
abbrev Fam:=N8 F4
structure H where
 mem:Mem
 fams:Fam
 next:Id
inductive VH where
 |bad
 |ok (v:V) (h:H)
inductive Rs where
 |bad
 |ok (e:Env) (h:H)
inductive CR where
 |bad
 |nrm (e:Env) (h:H)
 |ext (id:Nat) (e:Env) (h:H)
 |ret (e:Env) (h:H)
abbrev bS:=Nat→List V→H→VH
def dg:Nat→D8
 |0=>.d0|1=>.d1|2=>.d2|3=>.d3|4=>.d4|5=>.d5|6=>.d6|_=>.d7
def gV {α:Type} (d:D8):N8 α→α:=
 D8.rec (motive:=fun _=>N8 α→α) N8.a0 N8.a1 N8.a2 N8.a3 N8.a4 N8.a5 N8.a6 N8.a7 d
def jO {α:Type} (d:D8):(α→α)→N8 α→N8 α:=
 D8.rec (motive:=fun _=>(α→α)→N8 α→N8 α)
  (fun k n=>N8.rec (motive:=fun _=>N8 α) (fun a b c d e f g h=>N8.mk (k a) b c d e f g h) n)
  (fun k n=>N8.rec (motive:=fun _=>N8 α) (fun a b c d e f g h=>N8.mk a (k b) c d e f g h) n)
  (fun k n=>N8.rec (motive:=fun _=>N8 α) (fun a b c d e f g h=>N8.mk a b (k c) d e f g h) n)
  (fun k n=>N8.rec (motive:=fun _=>N8 α) (fun a b c d e f g h=>N8.mk a b c (k d) e f g h) n)
  (fun k n=>N8.rec (motive:=fun _=>N8 α) (fun a b c d e f g h=>N8.mk a b c d (k e) f g h) n)
  (fun k n=>N8.rec (motive:=fun _=>N8 α) (fun a b c d e f g h=>N8.mk a b c d e (k f) g h) n)
  (fun k n=>N8.rec (motive:=fun _=>N8 α) (fun a b c d e f g h=>N8.mk a b c d e f (k g) h) n)
  (fun k n=>N8.rec (motive:=fun _=>N8 α) (fun a b c d e f g h=>N8.mk a b c d e f g (k h)) n) d
def cL:V:=.tup []
def Env.new:Env:=N8.all (N8.all (N8.all cL))
def bR (t:Nat) (e:Env):V:=gV (dg (t%8)) (gV (dg (t/8%8)) (gV (dg (t/64)) e))
def iX (t:Nat) (v:V) (e:Env):Env:=jO (dg (t/64)) (jO (dg (t/8%8)) (jO (dg (t%8)) (fun _=>v))) e
def aB (i:Id) (m:Mem):Option O:=
 Id.rec (motive:=fun _=>Mem→Option O) (fun a b c d e m=>gV e (gV d (gV c (gV b (gV a m))))) i m
def dS (i:Id) (x:Option O) (m:Mem):Mem:=
 Id.rec (motive:=fun _=>Option O→Mem→Mem) (fun a b c d e x m=>jO a (jO b (jO c (jO d (jO e (fun _=>x))))) m) i x m
def aU (i:Id) (m:Fam):List Id:=
 Id.rec (motive:=fun _=>Fam→List Id) (fun a b c d e m=>gV e (gV d (gV c (gV b (gV a m))))) i m
def gX (i:Id) (x:List Id) (m:Fam):Fam:=
 Id.rec (motive:=fun _=>List Id→Fam→Fam) (fun a b c d e x m=>jO a (jO b (jO c (jO d (jO e (fun _=>x))))) m) i x m
def Mem.new:Mem:=N8.all (N8.all (N8.all (N8.all (N8.all none))))
def Fam.new:Fam:=N8.all (N8.all (N8.all (N8.all (N8.all []))))
def D8.nextd:D8→Bool × D8
 | .d0=>(false,.d1)| .d1=>(false,.d2)| .d2=>(false,.d3)| .d3=>(false,.d4)| .d4=>(false,.d5)| .d5=>(false,.d6)| .d6=>(false,.d7)| .d7=>(true,.d0)
def Id.succ:Id→Option Id
 | ⟨a,b,c,d,e⟩=>match e.nextd with
  |(false,e')=>some ⟨a,b,c,d,e'⟩
  | (true,e')=>match d.nextd with
   |(false,d')=>some ⟨a,b,c,d',e'⟩
   | (true,d')=>match c.nextd with
    |(false,c')=>some ⟨a,b,c',d',e'⟩
    | (true,c')=>match b.nextd with
      |(false,b')=>some ⟨a,b',c',d',e'⟩
      | (true,b')=>match a.nextd with
        |(false,a')=>some ⟨a',b',c',d',e'⟩
        |(true,_)=>none
def D8.toNat:D8→Nat
 | .d0=>0| .d1=>1| .d2=>2| .d3=>3| .d4=>4| .d5=>5| .d6=>6| .d7=>7
def Id.toNat:Id→Nat
 |⟨a,b,c,d,e⟩=>(((a.toNat*8+b.toNat)*8+c.toNat)*8+d.toNat)*8+e.toNat
def D8.beq (x y:D8):Bool:=Nat.beq x.toNat y.toNat
def Id.beq:Id→Id→Bool
 |⟨a,b,c,d,e⟩,⟨a',b',c',d',e'⟩=>D8.beq e e'&&(D8.beq d d'&&(D8.beq c c'&&(D8.beq b b'&&D8.beq a a')))
def nY (n:Nat):Id:=⟨dg (n/4096%8),dg (n/512%8),dg (n/64%8),dg (n/8%8),dg (n%8)⟩
def tH {α:Type} (v:V):(Bool→α)→α→α:=
 V.rec (motive_1:=fun _=>(Bool→α)→α→α) (motive_2:=fun _=>Unit) (fun _ d=>d) (fun x0 k _=>k x0) (fun _ _ _ d=>d) (fun _ _ _ d=>d) (fun _ d=>d) (fun _ _ _ d=>d) (fun _ d=>d) (fun _ _ _ _ _ d=>d) (fun _ d=>d) (fun _ d=>d) (fun _ _ d=>d) (fun _ _ _ _ _ _ d=>d) (fun _ d=>d) (fun _ d=>d) (fun _ _ _ d=>d) (fun _ _ _ d=>d) () (fun _ _ _ _=>()) v
def gZ {α:Type} (v:V):(IntKind→Int→α)→α→α:=
 V.rec (motive_1:=fun _=>(IntKind→Int→α)→α→α) (motive_2:=fun _=>Unit) (fun _ d=>d) (fun _ _ d=>d) (fun x0 x1 k _=>k x0 x1) (fun _ _ _ d=>d) (fun _ d=>d) (fun _ _ _ d=>d) (fun _ d=>d) (fun _ _ _ _ _ d=>d) (fun _ d=>d) (fun _ d=>d) (fun _ _ d=>d) (fun _ _ _ _ _ _ d=>d) (fun _ d=>d) (fun _ d=>d) (fun _ _ _ d=>d) (fun _ _ _ d=>d) () (fun _ _ _ _=>()) v
def tF {α:Type} (v:V):(Nat→Nat→α)→α→α:=
 V.rec (motive_1:=fun _=>(Nat→Nat→α)→α→α) (motive_2:=fun _=>Unit) (fun _ d=>d) (fun _ _ d=>d) (fun _ _ _ d=>d) (fun x0 x1 k _=>k x0 x1) (fun _ d=>d) (fun _ _ _ d=>d) (fun _ d=>d) (fun _ _ _ _ _ d=>d) (fun _ d=>d) (fun _ d=>d) (fun _ _ d=>d) (fun _ _ _ _ _ _ d=>d) (fun _ d=>d) (fun _ d=>d) (fun _ _ _ d=>d) (fun _ _ _ d=>d) () (fun _ _ _ _=>()) v
def iO {α:Type} (v:V):(Id→Nat→α)→α→α:=
 V.rec (motive_1:=fun _=>(Id→Nat→α)→α→α) (motive_2:=fun _=>Unit) (fun _ d=>d) (fun _ _ d=>d) (fun _ _ _ d=>d) (fun _ _ _ d=>d) (fun _ d=>d) (fun x0 x1 k _=>k x0 x1) (fun _ d=>d) (fun _ _ _ _ _ d=>d) (fun _ d=>d) (fun _ d=>d) (fun _ _ d=>d) (fun _ _ _ _ _ _ d=>d) (fun _ d=>d) (fun _ d=>d) (fun _ _ _ d=>d) (fun _ _ _ d=>d) () (fun _ _ _ _=>()) v
def vI {α:Type} (v:V):(Id→Nat→Nat→Nat→α)→α→α:=
 V.rec (motive_1:=fun _=>(Id→Nat→Nat→Nat→α)→α→α) (motive_2:=fun _=>Unit) (fun _ d=>d) (fun _ _ d=>d) (fun _ _ _ d=>d) (fun _ _ _ d=>d) (fun _ d=>d) (fun _ _ _ d=>d) (fun _ d=>d) (fun x0 x1 x2 x3 k _=>k x0 x1 x2 x3) (fun _ d=>d) (fun _ d=>d) (fun _ _ d=>d) (fun _ _ _ _ _ _ d=>d) (fun _ d=>d) (fun _ d=>d) (fun _ _ _ d=>d) (fun _ _ _ d=>d) () (fun _ _ _ _=>()) v
def JE {α:Type} (v:V):((List V)→α)→α→α:=
 V.rec (motive_1:=fun _=>((List V)→α)→α→α) (motive_2:=fun _=>Unit) (fun _ d=>d) (fun _ _ d=>d) (fun _ _ _ d=>d) (fun _ _ _ d=>d) (fun _ d=>d) (fun _ _ _ d=>d) (fun _ d=>d) (fun _ _ _ _ _ d=>d) (fun _ d=>d) (fun _ d=>d) (fun _ _ d=>d) (fun _ _ _ _ _ _ d=>d) (fun _ d=>d) (fun _ d=>d) (fun x0 _ k _=>k x0) (fun _ _ _ d=>d) () (fun _ _ _ _=>()) v
def IX {α:Type} (v:V):((List V)→α)→α→α:=
 V.rec (motive_1:=fun _=>((List V)→α)→α→α) (motive_2:=fun _=>Unit) (fun _ d=>d) (fun _ _ d=>d) (fun _ _ _ d=>d) (fun _ _ _ d=>d) (fun _ d=>d) (fun _ _ _ d=>d) (fun _ d=>d) (fun _ _ _ _ _ d=>d) (fun _ d=>d) (fun _ d=>d) (fun _ _ d=>d) (fun _ _ _ _ _ _ d=>d) (fun _ d=>d) (fun _ d=>d) (fun _ _ _ d=>d) (fun x0 _ k _=>k x0) () (fun _ _ _ _=>()) v
def pS {α:Type} (v:V):(Id→α)→α→α:=
 V.rec (motive_1:=fun _=>(Id→α)→α→α) (motive_2:=fun _=>Unit) (fun _ d=>d) (fun _ _ d=>d) (fun _ _ _ d=>d) (fun _ _ _ d=>d) (fun _ d=>d) (fun _ _ _ d=>d) (fun _ d=>d) (fun _ _ _ _ _ d=>d) (fun _ d=>d) (fun _ d=>d) (fun x0 k _=>k x0) (fun _ _ _ _ _ _ d=>d) (fun _ d=>d) (fun _ d=>d) (fun _ _ _ d=>d) (fun _ _ _ d=>d) () (fun _ _ _ _=>()) v
def JC {α:Type} (v:V):(Fn→(List V)→(List V)→α)→α→α:=
 V.rec (motive_1:=fun _=>(Fn→(List V)→(List V)→α)→α→α) (motive_2:=fun _=>Unit) (fun _ d=>d) (fun _ _ d=>d) (fun _ _ _ d=>d) (fun _ _ _ d=>d) (fun _ d=>d) (fun _ _ _ d=>d) (fun _ d=>d) (fun _ _ _ _ _ d=>d) (fun _ d=>d) (fun _ d=>d) (fun _ _ d=>d) (fun x0 x1 x2 _ _ k _=>k x0 x1 x2) (fun _ d=>d) (fun _ d=>d) (fun _ _ _ d=>d) (fun _ _ _ d=>d) () (fun _ _ _ _=>()) v
def yJ {α:Type} (v:V):α→α→α:=
 V.rec (motive_1:=fun _=>α→α→α) (motive_2:=fun _=>Unit) (fun _ d=>d) (fun _ _ d=>d) (fun _ _ _ d=>d) (fun _ _ _ d=>d) (fun _ d=>d) (fun _ _ _ d=>d) (fun k _=>k) (fun _ _ _ _ _ d=>d) (fun _ d=>d) (fun _ d=>d) (fun _ _ d=>d) (fun _ _ _ _ _ _ d=>d) (fun _ d=>d) (fun _ d=>d) (fun _ _ _ d=>d) (fun _ _ _ d=>d) () (fun _ _ _ _=>()) v
def DI {α:Type} (v:V):α→α→α:=
 V.rec (motive_1:=fun _=>α→α→α) (motive_2:=fun _=>Unit) (fun _ d=>d) (fun _ _ d=>d) (fun _ _ _ d=>d) (fun _ _ _ d=>d) (fun _ d=>d) (fun _ _ _ d=>d) (fun _ d=>d) (fun _ _ _ _ _ d=>d) (fun k _=>k) (fun _ d=>d) (fun _ _ d=>d) (fun _ _ _ _ _ _ d=>d) (fun _ d=>d) (fun _ d=>d) (fun _ _ _ d=>d) (fun _ _ _ d=>d) () (fun _ _ _ _=>()) v
def DK {α:Type} (v:V):α→α→α:=
 V.rec (motive_1:=fun _=>α→α→α) (motive_2:=fun _=>Unit) (fun _ d=>d) (fun _ _ d=>d) (fun _ _ _ d=>d) (fun _ _ _ d=>d) (fun _ d=>d) (fun _ _ _ d=>d) (fun _ d=>d) (fun _ _ _ _ _ d=>d) (fun _ d=>d) (fun k _=>k) (fun _ _ d=>d) (fun _ _ _ _ _ _ d=>d) (fun _ d=>d) (fun _ d=>d) (fun _ _ _ d=>d) (fun _ _ _ d=>d) () (fun _ _ _ _=>()) v
def dZ {α:Type} (b:Bool):α→α→α:=Bool.rec (motive:=fun _=>α→α→α) (fun _ y=>y) (fun x _=>x) b
def Rw.isW:Rw→Bool
 | .rw _=>true
 |_=>false
def Rw.tyOf:Rw→Option Nat
 | .rw t=>some t
 | .fr t=>some t
 | .fz=>none
def lP (l:List V):Nat→Option V:=
 List.rec (motive:=fun _=>Nat→Option V) (fun _=>none) (fun a _ ih i=>Nat.rec (motive:=fun _=>Option V) (some a) (fun j _=>ih j) i) l
def mM (l:List (List V)):Nat→Option (List V):=
 List.rec (motive:=fun _=>Nat→Option (List V)) (fun _=>none) (fun a _ ih i=>Nat.rec (motive:=fun _=>Option (List V)) (some a) (fun j _=>ih j) i) l
def oU (l:List (List V)):Nat→List V→List (List V):=
 List.rec (motive:=fun _=>Nat→List V→List (List V)) (fun _ _=>[]) (fun a r ih i x=>Nat.rec (motive:=fun _=>List (List V)) (x::r) (fun j _=>a::ih j x) i) l
def jK (n:Nat):List V→Option (List V):=
 Nat.rec (motive:=fun _=>List V→Option (List V)) (fun _=>some [])
  (fun _ ih l=>List.rec (motive:=fun _=>Option (List V)) none (fun a r _=>Option.rec (motive:=fun _=>Option (List V)) none (fun x=>some (a::x)) (ih r)) l) n
def eD (n:Nat):List V→List V:=
 Nat.rec (motive:=fun _=>List V→List V) (fun l=>l) (fun _ ih l=>List.rec (motive:=fun _=>List V) [] (fun _ r _=>ih r) l) n
def qD (n:Nat):List (List V)→Option (List (List V)):=
 Nat.rec (motive:=fun _=>List (List V)→Option (List (List V))) (fun _=>some [])
  (fun _ ih l=>List.rec (motive:=fun _=>Option (List (List V))) none (fun a r _=>Option.rec (motive:=fun _=>Option (List (List V))) none (fun x=>some (a::x)) (ih r)) l) n
def xV (n:Nat):List (List V)→List (List V):=
 Nat.rec (motive:=fun _=>List (List V)→List (List V)) (fun l=>l) (fun _ ih l=>List.rec (motive:=fun _=>List (List V)) [] (fun _ r _=>ih r) l) n
def over {α:Type}:List α→List α→Option (List α)
 |l,[]=>some l
 | [],_::_=>none
 |_::l,x::xs=>match over l xs with|some r=>some (x::r)|none=>none
def iF {α:Type}:Nat→List α→List α→Option (List α)
 |0,l,xs=>over l xs
 |_+1,[],_=>none
 |n+1,a::l,xs=>match iF n l xs with|some r=>some (a::r)|none=>none
def appV (a:List V) (b:List V):List V:=List.rec (motive:=fun _=>List V) b (fun x _ ih=>x::ih) a
def appL (a:List (List V)) (b:List (List V)):List (List V):=List.rec (motive:=fun _=>List (List V)) b (fun x _ ih=>x::ih) a
def pG (a:List (List V)):Nat:=List.rec (motive:=fun _=>Nat) 0 (fun _ _ ih=>Nat.succ ih) a
def kF {α:Type} (x:α):Nat→List α
 |0=>[]
 |n+1=>x::kF x n
def dC:Nat→Nat→List Nat
 |0,_=>[]
 |n+1,c=>c%256::dC n (c/256)
def mS:List Nat→Nat
 | []=>0
 |b::l=>b+256*mS l
def wJ (l:List Nat):V:=.s l.length (mS l)
def ltB:List Nat→List Nat→Bool
 |_,[]=>false
 | [],_::_=>true
 |a::x,b::y=>bif Nat.blt a b then true else bif Nat.beq a b then ltB x y else false
def sEq (l c l' c':Nat):Bool:=Nat.beq l l'&&Nat.beq c c'
def zN:Value→Bool
 | .agg _=>false
 | .tuple _=>false
 |_=>true
mutual
def cst:Value→V
 | .bool x=>.b x
 | .int k n=>.i k n
 | .string s=>wJ (s.data.toList.map UInt8.toNat)
 | .pointer none=>.pn
 | .slice none 0 0=>.sn
 | .map none=>.mn
 | .nilFunc=>.nf
 | .nilIface=>.ni
 | .agg ⟨l⟩=>bif l.all zN then .agg (uX l) else .top
 | .tuple ⟨l⟩=>.tup (uX l)
 |_=>.top
def uX:Lv→List V
 | []=>[]
 |v::l=>cst v::uX l
end
structure Rd where
 run:Env→V
structure Rds where
 run:Env→List V
def aF:Operand→Rd
 | .tmp t=>⟨bR t⟩
 | .const v=>⟨fun _=>cst v⟩
 | .global g=>⟨fun _=>.p (nY g) 0⟩
 | .func f=>⟨fun _=>.fn (.func f) [] []⟩
def oY:List Operand→Rds
 | []=>⟨fun _=>[]⟩
 |x::l=>⟨fun e=>(aF x).run e::(oY l).run e⟩
def rdO (ob:O):Nat→Nat→Option (List V):=
 O.rec (motive:=fun _=>Nat→Nat→Option (List V))
  (fun sz els _ _ o k=>Option.rec (motive:=fun _=>Option (List V)) none
   (fun el=>Bool.rec (motive:=fun _=>Option (List V)) (jK k (eD (Nat.mod o sz) el)) (some el) (Nat.beq (Nat.mod o sz) 0&&Nat.beq k sz))
   (mM els (Nat.div o sz)))
  (fun _ _ _ _=>none) (fun _ _ _ _ _ _=>none) ob
def rd1O (ob:O):Nat→Option V:=
 O.rec (motive:=fun _=>Nat→Option V)
  (fun sz els _ _ o=>Option.rec (motive:=fun _=>Option V) none (fun el=>lP el (Nat.mod o sz)) (mM els (Nat.div o sz)))
  (fun _ _ _=>none) (fun _ _ _ _ _=>none) ob
def rd (h:H) (b:Id) (o k:Nat):Option (List V):=
 Option.rec (motive:=fun _=>Option (List V)) none (fun ob=>rdO ob o k) (aB b h.mem)
def rd1 (h:H) (b:Id) (o:Nat):Option V:=
 Option.rec (motive:=fun _=>Option V) none (fun ob=>rd1O ob o) (aB b h.mem)
def kH (b:Id):List Id→List Id
 | []=>[]
 |x::l=>bif Id.beq x b then kH b l else x::kH b l
def iH:List Id→Mem→Mem
 | [],m=>m
 |b::l,m=>iH l (dS b none m)
def gW (h:H) (f b:Id):H:=
 List.rec (motive:=fun _=>H) h (fun x l _=>H.rec (motive:=fun _=>H) (fun mem fams next=>H.mk (iH (kH b (x::l)) mem) (gX f [] fams) next) h) (aU f h.fams)
def eP (h:H) (b:Id) (ob:O):H:=
 H.rec (motive:=fun _=>H) (fun mem fams next=>H.mk (dS b (some ob) mem) fams next) h
def wrO (h:H) (b:Id) (o:Nat) (xs:List V) (k:Nat) (ob:O):VH:=
 O.rec (motive:=fun _=>VH)
  (fun sz els f ro=>Rw.rec (motive:=fun _=>VH)
   (fun ty=>Option.rec (motive:=fun _=>VH) .bad
    (fun el=>Option.rec (motive:=fun _=>VH) .bad
      (fun b5=>.ok cL (eP (gW h f b) b (.cells sz (oU els (Nat.div o sz) b5) f (.rw ty))))
      (Bool.rec (motive:=fun _=>Option (List V)) (iF (Nat.mod o sz) el xs) (some xs) (Nat.beq (Nat.mod o sz) 0&&Nat.beq k sz)))
    (mM els (Nat.div o sz))) .bad (fun _=>.bad) ro)
  (fun _ _=>.bad) (fun _ _ _ _=>.bad) ob
def wr (h:H) (b:Id) (o:Nat) (xs:List V) (k:Nat):VH:=
 Option.rec (motive:=fun _=>VH) .bad (fun ob=>wrO h b o xs k ob) (aB b h.mem)
def sO (h:H) (ob:Id→O) (v:Id→V):VH:=
 H.rec (motive:=fun _=>VH) (fun mem fams next=>Option.rec (motive:=fun _=>VH) .bad (fun nx=>.ok (v next) (H.mk (dS next (some (ob next)) mem) fams nx)) (Id.succ next)) h
def mN (ty:Nat) (h:H) (sz:Nat) (els:List (List V)) (v:Id→V):VH:=sO h (fun i=>.cells sz els i (.rw ty)) v
variable (P:Program)
def bM (t:TypeId):Option Nat:=match P.underlying t,P.info? t with|some _,some i=>some i.size|_,_=>none
def eV (t:TypeId):Bool:=match P.underlying t with|some (.struct _)|some (.array _ _)=>true|_=>false
def gC (t:TypeId):Option V:=match (P.info? t).bind (·.zero) with|some z=>some (cst z)|none=>none
def cellsOf (v:V):List V:=
 V.rec (motive_1:=fun _=>List V) (motive_2:=fun _=>Unit) [.top] (fun x=>[.b x]) (fun k n=>[.i k n]) (fun l c=>[.s l c]) [.pn] (fun b o=>[.p b o]) [.sn] (fun b o l z=>[.sl b o l z]) [.se] [.mn] (fun b=>[.mp b]) (fun f a b _ _=>[.fn f a b]) [.nf] [.ni] (fun l _=>l) (fun l _=>[.tup l]) () (fun _ _ _ _=>()) v
def dT (v:V):Option (List V):=
 V.rec (motive_1:=fun _=>Option (List V)) (motive_2:=fun _=>Unit) none (fun x=>some [.b x]) (fun k n=>some [.i k n]) (fun l c=>some [.s l c]) (some [.pn]) (fun b o=>some [.p b o]) (some [.sn]) (fun b o l z=>some [.sl b o l z]) (some [.se]) (some [.mn]) (fun b=>some [.mp b]) (fun f a b _ _=>some [.fn f a b]) (some [.nf]) (some [.ni]) (fun l _=>some l) (fun _ _=>none) () (fun _ _ _ _=>()) v
def eF (a:List V):Nat:=List.rec (motive:=fun _=>Nat) 0 (fun _ _ ih=>Nat.succ ih) a
def thr:IntKind→Nat
 | .i8=>127| .i16=>32767| .i32=>2147483647| .i64=>9223372036854775807| .u8=>255| .u16=>65535| .u32=>4294967295| .u64=>18446744073709551615
def zG (k:IntKind) (n:Int):Int:=
 Int.rec (motive:=fun _=>Int) (fun m=>Bool.rec (motive:=fun _=>Int) (k.wrap (.ofNat m)) (.ofNat m) (Nat.ble m (thr k))) (fun m=>k.wrap (.negSucc m)) n
def kEq (j k:IntKind):Bool:=
 IntKind.rec (motive:=fun _=>IntKind→Bool)
  (fun k=>IntKind.rec (motive:=fun _=>Bool) true false false false false false false false k)
  (fun k=>IntKind.rec (motive:=fun _=>Bool) false true false false false false false false k)
  (fun k=>IntKind.rec (motive:=fun _=>Bool) false false true false false false false false k)
  (fun k=>IntKind.rec (motive:=fun _=>Bool) false false false true false false false false k)
  (fun k=>IntKind.rec (motive:=fun _=>Bool) false false false false true false false false k)
  (fun k=>IntKind.rec (motive:=fun _=>Bool) false false false false false true false false k)
  (fun k=>IntKind.rec (motive:=fun _=>Bool) false false false false false false true false k)
  (fun k=>IntKind.rec (motive:=fun _=>Bool) false false false false false false false true k) j k
def iLt (a b:Int):Bool:=
 Int.rec (motive:=fun _=>Int→Bool)
  (fun x b=>Int.rec (motive:=fun _=>Bool) (fun y=>Nat.ble (Nat.succ x) y) (fun _=>false) b)
  (fun x b=>Int.rec (motive:=fun _=>Bool) (fun _=>true) (fun y=>Nat.ble (Nat.succ y) x) b) a b
def iEq (a b:Int):Bool:=
 Int.rec (motive:=fun _=>Int→Bool)
  (fun x b=>Int.rec (motive:=fun _=>Bool) (fun y=>Nat.beq x y) (fun _=>false) b)
  (fun x b=>Int.rec (motive:=fun _=>Bool) (fun _=>false) (fun y=>Nat.beq x y) b) a b
def iAdd (a b:Int):Int:=
 Int.rec (motive:=fun _=>Int→Int)
  (fun x b=>Int.rec (motive:=fun _=>Int) (fun y=>.ofNat (Nat.add x y)) (fun y=>Int.add (.ofNat x) (.negSucc y)) b)
  (fun x b=>Int.add (.negSucc x) b) a b
def iSub (a b:Int):Int:=
 Int.rec (motive:=fun _=>Int→Int)
  (fun x b=>Int.rec (motive:=fun _=>Int) (fun y=>Bool.rec (motive:=fun _=>Int) (Int.sub (.ofNat x) (.ofNat y)) (.ofNat (Nat.sub x y)) (Nat.ble y x)) (fun y=>Int.sub (.ofNat x) (.negSucc y)) b)
  (fun x b=>Int.sub (.negSucc x) b) a b
structure IOp where
 run:IntKind→Int→Int→Option V
def BX:BinOp→IOp
 | .add=>⟨fun k x y=>some (.i k (zG k (iAdd x y)))⟩
 | .sub=>⟨fun k x y=>some (.i k (zG k (iSub x y)))⟩
 | .and=>⟨fun k x y=>some (.i k (k.wrap (BitVec.ofInt k.bits x&&&BitVec.ofInt k.bits y).toNat))⟩
 | .or=>⟨fun k x y=>some (.i k (k.wrap (BitVec.ofInt k.bits x|||BitVec.ofInt k.bits y).toNat))⟩
 | .eql=>⟨fun _ x y=>some (.b (iEq x y))⟩
 | .neq=>⟨fun _ x y=>some (.b (!iEq x y))⟩
 | .lss=>⟨fun _ x y=>some (.b (iLt x y))⟩
 | .leq=>⟨fun _ x y=>some (.b (!iLt y x))⟩
 | .gtr=>⟨fun _ x y=>some (.b (iLt y x))⟩
 | .geq=>⟨fun _ x y=>some (.b (!iLt x y))⟩
 |_=>⟨fun _ _ _=>none⟩
def zM (op:BinOp) (k:IntKind) (x y:Int):Option V:=
 bif iLt y 0 then none else
 match op with
 | .shl=>some (.i k (k.wrap (x*2^(min y.toNat k.bits))))
 | .shr=>some (.i k (x.fdiv (2^(min y.toNat k.bits))))
 |_=>none
structure StrOp where
 run:Nat→Nat→Nat→Nat→Option V
def EQ:BinOp→StrOp
 | .add=>⟨fun l c l' c'=>bif Nat.ble (l+l') 1000000000 then some (.s (l+l') (c+c'<<<(8*l))) else none⟩
 | .eql=>⟨fun l c l' c'=>some (.b (sEq l c l' c'))⟩
 | .neq=>⟨fun l c l' c'=>some (.b (!sEq l c l' c'))⟩
 |_=>⟨fun _ _ _ _=>none⟩
structure EqT where
 run:H→V→V→Option Bool
def uR (h:H) (b:Id):Option Id:=match aB b h.mem with|some (.cells sz _ f (.rw _))=>bif Nat.beq sz 1 then none else some f|_=>none
def oX (agg:Bool) (n:Nat) (l:List V):Option V:=bif agg then(match jK n l with|some x=>some (.agg x)|none=>none) else lP l 0
def vH:EqT:=⟨fun _ _ _=>none⟩
def uT (q:TypeId→EqT):List Field→EqT
 | []=>⟨fun _ x y=>match x,y with| .agg _,.agg _=>some true|_,_=>none⟩
 | f::fs=>if f.name= "_" then vH else
  match bM P f.type with
  |none=>vH
  | some n=>⟨fun h x y=>match x,y with
   | .agg xs,.agg ys=>(match oX (eV P f.type) n (eD f.offset xs),oX (eV P f.type) n (eD f.offset ys) with
    | some a,some b=>(match (q f.type).run h a b with
      |some true=>(uT q fs).run h x y
      |some false=>some false
      |none=>none)
    |_,_=>none)
   |_,_=>none⟩
def eqAs (q:EqT) (agg:Bool) (n:Nat):Nat→List V→List V→H→Option Bool
 |0,_,_,_=>some true
 | k+1,xs,ys,h=>match oX agg n xs,oX agg n ys with
  |some a,some b=>(match q.run h a b with
   |some true=>eqAs q agg n k (eD n xs) (eD n ys) h
   |some false=>some false
   |none=>none)
  |_,_=>none
def eqT:Nat→TypeId→EqT
 |0,_=>vH
 | d+1,t=>match P.underlying t with
  |some .bool=>⟨fun _ x y=>match x,y with| .b a,.b b=>some (a==b)|_,_=>none⟩
  |some (.int _)=>⟨fun _ x y=>match x,y with| .i k a,.i k' b=>bif kEq k k' then some (iEq a b) else none|_,_=>none⟩
  |some .string=>⟨fun _ x y=>match x,y with| .s l c,.s l' c'=>some (sEq l c l' c')|_,_=>none⟩
  | some (.pointer e)=>(match bM P e with
   |some (_+1)=>⟨fun h x y=>match x,y with
    | .pn,.pn=>some true
    | .pn,.p _ _=>some false
    | .p _ _,.pn=>some false
    | .p b o,.p b' o'=>bif Id.beq b b' then some (Nat.beq o o') else
        (match uR h b,uR h b' with
        |some f,some f'=>bif Id.beq f f' then none else some false
        |_,_=>none)
    |_,_=>none⟩
   |_=>⟨fun _ x y=>match x,y with| .pn,.pn=>some true| .pn,.p _ _=>some false| .p _ _,.pn=>some false|_,_=>none⟩)
  |some (.struct fs)=>bif P.stoodInHeld t then vH else uT P (eqT d) fs.toList
  | some (.array len el)=>(match bM P el with
   |some n=>⟨fun h x y=>match x,y with
    | .agg xs,.agg ys=>eqAs (eqT d el) (eV P el) n len xs ys h
    |_,_=>none⟩
   |none=>vH)
  |some (.slice _)=>⟨fun _ x y=>match x,y with| .sn,.sn=>some true| .sn,.sl ..=>some false| .sl ..,.sn=>some false| .se,.sn=>some false| .sn,.se=>some false|_,_=>none⟩
  |_=>vH
structure CkT where
 run:V→Bool
def vG:CkT:=⟨fun _=>false⟩
def uY (q:TypeId→CkT):List Field→CkT
 | []=>⟨fun v=>match v with| .agg _=>true|_=>false⟩
 | f::fs=>if f.name= "_" then vG else
  match bM P f.type with
  |none=>vG
  | some n=>⟨fun v=>match v with
   | .agg l=>(match oX (eV P f.type) n (eD f.offset l) with
    |some a=>(q f.type).run a&&(uY q fs).run v
    |none=>false)
   |_=>false⟩
def ckAs (q:CkT) (agg:Bool) (n:Nat):Nat→List V→Bool
 |0,_=>true
 |k+1,l=>match oX agg n l with
  |some a=>q.run a&&ckAs q agg n k (eD n l)
  |none=>false
def ckT:Nat→TypeId→CkT
 |0,_=>vG
 | d+1,t=>match P.underlying t with
  |some (.interface _)=>vG
  |some (.struct fs)=>uY P (ckT d) fs.toList
  |some (.array len el)=>(match bM P el with
   |some n=>⟨fun v=>match v with| .agg l=>ckAs (ckT d el) (eV P el) n len l|_=>false⟩
   |none=>vG)
  |some _=>⟨fun _=>true⟩
  |none=>vG
structure LOp where
 run:Env→H→Option V
structure HOp where
 run:bS→Env→H→VH
def nX:Operand→Bool| .const _=>true|_=>false
def notO:Option Bool→Option V|some r=>some (.b (!r))|none=>none
def yesO:Option Bool→Option V|some r=>some (.b r)|none=>none
def okEq:V→Bool
 | .top=>false
 | .i _ _=>false
 | .s _ _=>false
 | .ni=>false
 |_=>true
def uS (t:TypeId) (h:H) (x y:V):Option Bool:=bif okEq x then(eqT P 20 t).run h x y else none
def CS (t:TypeId) (c:Bool) (h:H) (x y:V):Option Bool:=
 match x,y with
 | .ni,.ni=>bif c then some true else none
 |_,_=>none
def eI:LOp:=⟨fun _ _=>none⟩
def binC (op:BinOp) (t:TypeId) (x y:Operand):LOp:=
 match P.underlying t with
 |some (.int _)=>(match op with
  | .shl| .shr=>⟨fun e _=>gZ ((aF x).run e) (fun k a=>gZ ((aF y).run e) (fun _ b=>zM op k a b) none) none⟩
  |_=>⟨fun e _=>gZ ((aF x).run e) (fun k a=>gZ ((aF y).run e) (fun k' b=>dZ (kEq k k') ((BX op).run k a b) none) none) none⟩)
 |some .string=>⟨fun e _=>tF ((aF x).run e) (fun l c=>tF ((aF y).run e) (fun l' c'=>(EQ op).run l c l' c') none) none⟩
 |some (.interface _)=>(match op with
  | .eql=>⟨fun e h=>yesO (CS t (nX x||nX y) h ((aF x).run e) ((aF y).run e))⟩
  | .neq=>⟨fun e h=>notO (CS t (nX x||nX y) h ((aF x).run e) ((aF y).run e))⟩
  |_=>eI)
 |_=>bif P.eqGuardType P.depth t then eI else(match op with
  | .eql=>⟨fun e h=>yesO (uS P t h ((aF x).run e) ((aF y).run e))⟩
  | .neq=>⟨fun e h=>notO (uS P t h ((aF x).run e) ((aF y).run e))⟩
  |_=>eI)
def unC (op:UnOp) (x:Operand):LOp:=
 match op with
 | .not=>⟨fun e _=>tH ((aF x).run e) (fun b=>some (.b (!b))) none⟩
 |_=>eI
def sM:List Field→Nat→Option Field
 | [],_=>none
 |a::_,0=>some a
 |_::l,n+1=>sM l n
def asN (v:V) (k:Nat→Option V):Option V:=gZ v (fun _ n=>Int.rec (motive:=fun _=>Option V) k (fun _=>none) n) none
def bnd (x:Option Operand) (d:Nat) (e:Env) (k:Nat→Option V):Option V:=
 match x with
 |none=>k d
 |some x=>asN ((aF x).run e) k
def YE (lo hi:Option Operand) (e:Env) (len c:Nat):Option V:=
 bnd hi len e fun h=>bnd lo 0 e fun l=>dZ (Nat.ble l h&&Nat.ble h len) (some (.s (h-l) ((c>>>(8*l))%2^(8*(h-l))))) none
def LS (sz:Nat) (lo hi:Option Operand) (e:Env) (b:Id) (o len z:Nat):Option V:=
 bnd hi len e fun h=>bnd lo 0 e fun l=>dZ (Nat.ble l h&&Nat.ble h len)
  (dZ (Nat.beq l h&& !Nat.beq l 0) (some .se) (some (.sl b (Nat.add o (Nat.mul l sz)) (Nat.sub h l) z))) none
def LU (r:V) (lo hi:Option Operand) (e:Env):Option V:=
 bnd hi 0 e fun h=>bnd lo 0 e fun l=>dZ (Nat.beq h 0&&Nat.beq l 0) (some r) none
def ER (t:TypeId) (x:Operand) (lo hi:Option Operand):LOp:=
 match P.underlying t with
 |some .string=>⟨fun e _=>tF ((aF x).run e) (YE lo hi e) none⟩
 |some (.slice el)=>(match bM P el with
  |some (sz+1)=>⟨fun e _=>vI ((aF x).run e) (fun b o len z=>dZ (Nat.beq z (sz+1)) (LS (sz+1) lo hi e b o len z) none) (yJ ((aF x).run e) (LU .sn lo hi e) (DI ((aF x).run e) (LU .se lo hi e) none))⟩
  |_=>eI)
 |some (.array n el)=>eI
 |_=>eI
def Ej (x ix:Operand) (sz:Nat):LOp:=
 ⟨fun e _=>vI ((aF x).run e) (fun b o len _=>asN ((aF ix).run e) (fun n=>dZ (Nat.ble (Nat.succ n) len) (some (.p b (Nat.add o (Nat.mul n sz)))) none)) none⟩
def Ei (x ix:Operand) (len sz:Nat):LOp:=
 ⟨fun e _=>iO ((aF x).run e) (fun b o=>asN ((aF ix).run e) (fun n=>dZ (Nat.ble (Nat.succ n) len) (some (.p b (Nat.add o (Nat.mul n sz)))) none)) none⟩
def mY (x:Option (List V)):Option V:=Option.rec (motive:=fun _=>Option V) none (fun l=>some (.agg l)) x
def lM (agg:Bool) (off n:Nat) (l:List V):Option V:=dZ agg (mY (jK n (eD off l))) (lP l off)
def jB (b1:Nat→Option (Nat × Nat)):List V→List (Nat × V)→Option (List V)
 |cs,[]=>some cs
 | cs,(i,v)::r=>match b1 i with
  |none=>none
  |some (off,sz)=>match dT v with
   |none=>none
   |some c=>bif Nat.beq (eF c) sz then(match iF off cs c with|some cs'=>jB b1 cs' r|none=>none) else none
structure Prs where
 run:Env→List (Nat × V)
def lN:List (Nat × Operand)→Prs
 | []=>⟨fun _=>[]⟩
 |(i,x)::l=>⟨fun e=>(i,(aF x).run e)::(lN l).run e⟩
def sH:List Field→Option (List (Nat × Nat))
 | []=>some []
 |f::fs=>match bM P f.type,sH fs with|some n,some l=>some ((f.offset,n)::l)|_,_=>none
def nthP:List (Nat × Nat)→Nat→Option (Nat × Nat)
 | [],_=>none
 |a::_,0=>some a
 |_::l,n+1=>nthP l n
def IP (t:TypeId) (ps:List (Nat × Operand)):LOp:=
 match gC P t,P.underlying t with
 | some z,some (.struct fs)=>(match dT z with
  |some zc=>(match sH P fs.toList with
   |some pl=>⟨fun e _=>mY (jB (nthP pl) zc ((lN ps).run e))⟩
   |none=>eI)
  |none=>eI)
 | some z,some (.array _ el)=>(match dT z with
  |some zc=>(match bM P el with
   |some n=>⟨fun e _=>mY (jB (fun i=>some (i*n,n)) zc ((lN ps).run e))⟩
   |none=>eI)
  |none=>eI)
 |_,_=>eI
mutual
def V.beq:V→V→Bool
 | .top,.top=>true
 | .b x,.b y=>x==y
 | .i k n,.i k' n'=>(match k,k' with| .i8,.i8| .i16,.i16| .i32,.i32| .i64,.i64| .u8,.u8| .u16,.u16| .u32,.u32| .u64,.u64=>true|_,_=>false)&&(match n,n' with| .ofNat x,.ofNat y=>Nat.beq x y| .negSucc x,.negSucc y=>Nat.beq x y|_,_=>false)
 | .s l c,.s l' c'=>sEq l c l' c'
 | .pn,.pn=>true
 | .p b o,.p b' o'=>Id.beq b b'&&Nat.beq o o'
 | .sn,.sn=>true
 | .sl b o l z,.sl b' o' l' z'=>Id.beq b b'&&(Nat.beq o o'&&(Nat.beq l l'&&Nat.beq z z'))
 | .se,.se=>true
 | .mn,.mn=>true
 | .mp b,.mp b'=>Id.beq b b'
 | .fn (.func f) a b,.fn (.func f') a' b'=>Nat.beq f f'&&(jG a a'&&jG b b')
 | .nf,.nf=>true
 | .ni,.ni=>true
 | .agg l,.agg l'=>jG l l'
 | .tup l,.tup l'=>jG l l'
 |_,_=>false
def jG:List V→List V→Bool
 | [],[]=>true
 |a::l,b::r=>V.beq a b&&jG l r
 |_,_=>false
end
def mP:V→Bool
 | .b _=>true
 | .i _ _=>true
 | .s _ _=>true
 | .pn=>true
 | .p _ _=>true
 | .ni=>true
 |_=>false
def qU:V→Bool
 | .agg l=>l.all mP
 |v=>mP v
def CM (q:EqT) (h:H) (k:V):List Ent→Nat→Option (Option (Nat × Ent))
 | [],_=>some none
 |e::es,i=>match q.run h k e.key with
  |some true=>some (some (i,e))
  |some false=>CM q h k es (i+1)
  |none=>none
def qY (kt:TypeId) (h:H) (k:V) (es:List Ent):Option (Option (Nat × Ent)):=
 bif (ckT P 20 kt).run k then CM (eqT P 20 kt) h k es 0 else none
def iM (h:H) (b:Id):Option (List Ent × Nat):=match aB b h.mem with|some (.map es c)=>some (es,c)|_=>none
def BG (kt:TypeId) (z:V) (ok:Bool) (h:H) (k:V) (es:List Ent):Option V:=
 match qY P kt h k es with
 |some (some (_,e))=>some (if ok then .tup [e.val,.b true] else e.val)
 |some none=>some (if ok then .tup [z,.b false] else z)
 |none=>none
def lookC (t:TypeId) (x k:Operand) (ok:Bool):LOp:=
 match P.underlying t with
 |some (.map kt et)=>(match gC P et with
  | some z=>⟨fun e h=>pS ((aF x).run e) (fun b=>match iM h b with|some (es,_)=>BG P kt z ok h ((aF k).run e) es|none=>none)
    (DK ((aF x).run e) (BG P kt z ok h ((aF k).run e) []) none)⟩
  |none=>eI)
 |_=>eI
def lenC (t:TypeId) (x:Operand):LOp:=
 match P.underlying t with
 |some .string=>⟨fun e _=>tF ((aF x).run e) (fun l _=>some (.i .i64 (.ofNat l))) none⟩
 |some (.slice _)=>⟨fun e _=>vI ((aF x).run e) (fun _ _ n _=>some (.i .i64 (.ofNat n))) (yJ ((aF x).run e) (some (.i .i64 0)) (DI ((aF x).run e) (some (.i .i64 0)) none))⟩
 |some (.map _ _)=>⟨fun e h=>pS ((aF x).run e) (fun b=>match iM h b with|some (es,_)=>some (.i .i64 (.ofNat es.length))|none=>none) (DK ((aF x).run e) (some (.i .i64 0)) none)⟩
 |_=>eI
def sQ (f:V→V→Option V):V→List V→Option V
 |a,[]=>some a
 |a,x::l=>match f a x with|some b=>sQ f b l|none=>none
def max2 (x y:V):Option V:=gZ x (fun k a=>gZ y (fun k' b=>dZ (kEq k k') (some (.i k (bif iLt a b then b else a))) none) none) none
def min2 (x y:V):Option V:=gZ x (fun k a=>gZ y (fun k' b=>dZ (kEq k k') (some (.i k (bif iLt b a then b else a))) none) none) none
def xT (n:Nat):List Ent→Option Ent
 | []=>none
 |e::l=>bif Nat.beq e.born n then some e else xT n l
def qT:List Nat→Option Nat
 | []=>none
 | [a]=>some a
 |_::l=>qT l
def HW (h:H) (b:Id):Option V:=
 match aB b h.mem with
 |some (.miter m _ seen b0)=>(match qT seen,iM h m with
  |some st,some (es,a8)=>bif Nat.beq a8 b0 then(match xT st es with|some en=>some (.tup [en.key,en.val])|none=>none) else none
  |_,_=>none)
 |_=>none
def callL (c:Call):LOp:=
 match c.callee,c.args.toList,c.argTypes.toList with
 | .builtin .len,[x],t::_=>lenC P t x
 | .builtin .unsafeSliceData,[x],_=>⟨fun e _=>vI ((aF x).run e) (fun b o len _=>dZ (Nat.ble 1 len) (some (.p b o)) none) (yJ ((aF x).run e) (some .pn) none)⟩
 | .builtin .max,x::l,_=>⟨fun e _=>sQ max2 ((aF x).run e) ((oY l).run e)⟩
 | .builtin .min,x::l,_=>⟨fun e _=>sQ min2 ((aF x).run e) ((oY l).run e)⟩
 |_,_,_=>eI
def pF:Op→LOp
 | .move x=>⟨fun e _=>some ((aF x).run e)⟩
 | .assign x=>⟨fun e _=>some ((aF x).run e)⟩
 | .pick c a b=>⟨fun e _=>tH ((aF c).run e) (fun t=>dZ t (some ((aF a).run e)) (some ((aF b).run e))) none⟩
 | .nilCheck x=>⟨fun e _=>iO ((aF x).run e) (fun b o=>some (.p b o)) (match (aF x).run e with| .fn (.func f) a b=>some (.fn (.func f) a b)| .mp b=>some (.mp b)| .mn=>some .mn|_=>none)⟩
 | .binOp op t x y _=>binC P op t x y
 | .unOp op _ x=>unC op x
 | .fieldAddr t x i=>(match P.underlying t with
  | some (.struct fs)=>(match sM fs.toList i with
   |some f=>(match bM P f.type with
    |some (_+1)=>⟨fun e _=>iO ((aF x).run e) (fun b o=>some (.p b (Nat.add o f.offset))) none⟩
    |_=>eI)
   |none=>eI)
  |_=>eI)
 | .field t x i=>(match P.underlying t with
  | some (.struct fs)=>(match sM fs.toList i with
   |some f=>(match bM P f.type with
    |some n=>⟨fun e _=>JE ((aF x).run e) (lM (eV P f.type) f.offset n) none⟩
    |none=>eI)
   |none=>eI)
  |_=>eI)
 | .indexAddr t x ix=>(match P.underlying t with
  |some (.slice el)=>(match bM P el with|some (sz+1)=>Ej x ix (sz+1)|_=>eI)
  |some (.array len el)=>(match bM P el with|some (sz+1)=>Ei x ix len (sz+1)|_=>eI)
  |_=>eI)
 | .index t x ix=>(match P.underlying t with
  |some .string=>⟨fun e _=>tF ((aF x).run e) (fun len c=>asN ((aF ix).run e) (fun n=>dZ (Nat.ble (Nat.succ n) len) (some (.i .u8 (.ofNat ((c>>>(8*n))%256)))) none)) none⟩
  |_=>eI)
 | .extract x i=>⟨fun e _=>IX ((aF x).run e) (fun l=>lP l i) none⟩
 | .slice t x lo hi none=>ER P t x lo hi
 | .build t ps=>IP P t ps.toList
 | .load t x=>(match eV P t,bM P t with
  |true,some n=>⟨fun e h=>iO ((aF x).run e) (fun b o=>mY (rd h b o n)) none⟩
  |false,some _=>⟨fun e h=>iO ((aF x).run e) (fun b o=>rd1 h b o) none⟩
  |_,_=>eI)
 | .lookup t x k ok=>lookC P t x k ok
 | .convert s d x=>(match P.underlying s,P.underlying d with
  |some _,some (.int k)=>⟨fun e _=>gZ ((aF x).run e) (fun _ n=>some (.i k (zG k n))) none⟩
  |some (.pointer t),some .unsafePointer=>(match bM P t with
   |some (_+1)=>⟨fun e h=>iO ((aF x).run e) (fun b o=>Option.rec (motive:=fun _=>Option V) none (fun _=>some (.p b o)) (rd1 h b o)) none⟩
   |_=>eI)
  |some .unsafePointer,some (.pointer u)=>(match bM P u with
   |some (sz+1)=>⟨fun e h=>iO ((aF x).run e) (fun b o=>match aB b h.mem with
      |some (.cells szb els _ (.rw ty))=>dZ (Nat.beq szb (sz+1)&&(Nat.beq ty u&&(Nat.beq (Nat.mod o szb) 0&&Nat.ble (Nat.succ (Nat.div o szb)) (pG els)))) (some (.p b o)) none
      |_=>none) none⟩
   |_=>eI)
  |_,_=>eI)
 | .entry x=>⟨fun e h=>iO ((aF x).run e) (fun b o=>dZ (Nat.beq o 0) (HW h b) none) none⟩
 | .makeFunc fn a b=>⟨fun e _=>some (.fn fn ((oY a.toList).run e) ((oY b.toList).run e))⟩
 | .call c=>callL P c
 |_=>eI
def oH:List Nat→List (List V)
 | []=>[]
 |b::l=>[.i .u8 b]::oH l
def oF (sz:Nat):Nat→List V→List (List V)
 |0,_=>[]
 |n+1,l=>(jK sz l).getD []::oF sz n (eD sz l)
def xU (h:H) (sz:Nat) (x:V):Option (List (List V)):=
 match x with
 | .sn=>some []
 | .se=>some []
 | .sl b o len _=>(match aB b h.mem with
  |some (.cells sz' els _ _)=>bif Nat.beq sz sz'&&Nat.beq (Nat.mod o sz) 0 then qD len (xV (Nat.div o sz) els) else none
  |_=>none)
 | .s l c=>bif Nat.beq sz 1 then some (oH (dC l c)) else none
 |_=>none
def lK (b:Id):List Id→List Id × List Id
 | []=>([],[])
 |x::l=>bif Id.beq x b then([],l) else match lK b l with|(p,q)=>(x::p,q)
def grown (ty:Nat) (sz:Nat) (b f:Id) (len:Nat) (old new:List (List V)) (h:H):VH:=
 H.rec (motive:=fun _=>VH) (fun mem fams next=>Option.rec (motive:=fun _=>VH) .bad
  (fun nx=>match lK b (aU f fams) with
    |(dead,rest)=>.ok (.sl next 0 (Nat.add len (pG new)) sz) (H.mk (dS next (some (.cells sz (appL old new) f (.rw ty))) (iH dead mem)) (gX f (next::b::rest) fams) nx))
   (Id.succ next)) h
def JG (ty:Nat) (h:H) (sz:Nat) (x:V) (new:List (List V)):VH:=
 match new with
 | []=>(match x with| .sn=>.ok x h| .se=>.ok x h| .sl ..=>.ok x h|_=>.bad)
 | _::_=>bif Nat.ble (pG new) 1000000 then match x with
  | .sn=>mN ty h sz new (fun i=>.sl i 0 (pG new) sz)
  | .sl b o len z=>(match aB b h.mem with
   | some (.cells szb els f (.rw tyb))=>bif Nat.beq szb sz&&(Nat.beq z sz&&(Nat.beq (Nat.mod o sz) 0&&(Nat.ble len 1000000&&Nat.beq tyb ty))) then
      (
       match qD len (xV (Nat.div o sz) els) with
       |none=>.bad
       |some old=>bif Nat.beq (Nat.add (Nat.div o sz) len) (pG els) then grown ty sz b f len old new h
          else(match qD (Nat.add (Nat.div o sz) len) els with
           |some cut=>grown ty sz b f len old new (eP (gW h f b) b (.cells szb cut f (.rw ty)))
           |none=>.bad))
      else .bad
   |_=>.bad)
  |_=>.bad
  else .bad
def vB:List (List V)→Option (List Nat)
 | []=>some []
 | [.i .u8 (.ofNat n)]::r=>bif Nat.ble n 255 then match vB r with|some l=>some (n::l)|none=>none else none
 |_=>none
def qF:List Ent→Nat→Ent→List Ent
 | [],_,_=>[]
 |_::l,0,x=>x::l
 |a::l,n+1,x=>a::qF l n x
def BD (kt:TypeId) (h:H) (b:Id) (k v:V):VH:=
 match iM h b with
 |some (es,a8)=>(match qY P kt h k es with
  |some (some (i,e))=>bif qU k&&V.beq k e.key then .ok cL (eP h b (.map (qF es i ⟨k,v,e.born⟩) a8)) else .bad
  |some none=>.ok cL (eP h b (.map (es++ [⟨k,v,a8⟩]) (a8+1)))
  |none=>.bad)
 |none=>.bad
def GS (kt:TypeId) (z:V) (h:H) (b:Id) (k:V):VH:=
 match iM h b with
 |some (es,a8)=>(match qY P kt h k es with
  |some (some (i,e))=>bif qU k&&V.beq k e.key then .ok (.tup [e.val,.i .i64 (.ofNat e.born)]) (eP h b (.map (qF es i ⟨k,e.val,e.born⟩) a8)) else .bad
  |some none=>.ok (.tup [z,.i .i64 (.ofNat a8)]) (eP h b (.map (es++ [⟨k,z,a8⟩]) (a8+1)))
  |none=>.bad)
 |none=>.bad
def yD (n:Nat):List Ent→Nat→Option (Nat × Ent)
 | [],_=>none
 |e::l,i=>bif Nat.beq e.born n then some (i,e) else yD n l (i+1)
def HX (h:H) (b:Id) (n:Nat) (v:V):VH:=
 match iM h b with
 |some (es,a8)=>(match yD n es 0 with
  |some (i,e)=>.ok cL (eP h b (.map (qF es i ⟨e.key,v,e.born⟩) a8))
  |none=>.bad)
 |none=>.bad
def nO (seen:List Nat) (es:List Ent):List Ent:=es.filter fun e=>!seen.any (Nat.beq e.born)
def GH (h:H) (b:Id):VH:=
 match aB b h.mem with
 |some (.miter m a9 seen b0)=>(match iM h m with
  | some (es,a8)=>bif !seen.isEmpty&& !es.isEmpty&&es.all (fun e=>Nat.ble b0 e.born) then .bad else
    (
     match nO seen es with
     | []=>.ok (.tup [.b false]) h
     | [e]=>bif Nat.ble (Nat.succ e.born) a9 then .ok (.tup [.b true,e.key,e.val]) (eP h b (.miter m a9 (seen++ [e.born]) a8)) else .bad
     |_=>.bad)
  |none=>.bad)
 |_=>.bad
def eQ:HOp:=⟨fun _ _ _=>.bad⟩
def IE (h:H) (sz:Nat) (z:List V) (x:V):VH:=
 match x with
 | .sl b o len zz=>(match aB b h.mem with
  | some (.cells szb els f (.rw ty))=>bif Nat.beq szb sz&&(Nat.beq zz sz&&Nat.beq (Nat.mod o sz) 0) then
    (
     match iF (Nat.div o sz) els (kF z len) with
     |some els'=>.ok cL (eP (gW h f b) b (.cells szb els' f (.rw ty)))
     |none=>.bad) else .bad
  |_=>.bad)
 | .sn=>.ok cL h
 | .se=>.ok cL h
 |_=>.bad
def vhO (h:H) (x:Option V):VH:=match x with|some v=>.ok v h|none=>.bad
def appC (t t2:TypeId) (x y:Operand):HOp:=
 match P.underlying t,P.underlying t2 with
 |some (.slice _),some (.int _)=>eQ
 | some (.slice el),some _=>(match bM P el,gC P el with
   |some (sz+1),some z=>(match dT z,P.info? el with
    |some zc,some inf=>bif Nat.ble inf.bytes 1000000&&Nat.beq (eF zc) (sz+1) then
        ⟨fun _ e h=>match xU h (sz+1) ((aF y).run e) with
         |some new=>JG el h (sz+1) ((aF x).run e) new
         |none=>.bad⟩ else eQ
    |_,_=>eQ)
   |_,_=>eQ)
 |_,_=>eQ
def SH (t:TypeId) (x:Operand):HOp:=
 match P.underlying t with
 | some (.slice el)=>(match bM P el,gC P el with
   |some (sz+1),some z=>(match dT z with
    |some zc=>bif Nat.beq (eF zc) (sz+1) then⟨fun _ e h=>IE h (sz+1) zc ((aF x).run e)⟩ else eQ
    |none=>eQ)
   |_,_=>eQ)
 |_=>eQ
def EJ (el:Nat) (h:H) (x:V) (n:Nat):VH:=
 match n with
 |0=>(match x with| .pn=>.ok (.s 0 0) h| .p _ _=>.ok (.s 0 0) h|_=>.bad)
 | n + 1=>iO x (fun b o=>match aB b h.mem with
  | some (.cells sz els f ro)=>(match ro.tyOf with
   | some ty=>bif Nat.beq sz 1&&(Nat.beq ty el&&Nat.ble n 1000000) then
    (
     match qD (n+1) (xV o els) with
     | some l=>(match vB l with
       |some bs=>.ok (wJ bs) (eP (gW h f b) b (.cells sz els f (.fr ty)))
       |none=>.bad)
     |none=>.bad) else .bad
   |none=>.bad)
  |_=>.bad) .bad
def ustrC (t:TypeId) (x n:Operand):HOp:=
 match P.underlying t with
 |some (.pointer el)=>(match bM P el with
  |some 1=>⟨fun _ e h=>match (aF n).run e with| .i .i64 (.ofNat n)=>EJ el h ((aF x).run e) n|_=>.bad⟩
  |_=>eQ)
 |_=>eQ
def IK (c:Call):HOp:=
 match c.callee,c.args.toList,c.argTypes.toList with
 | .value f,as,_=>⟨fun call e h=>JC ((aF f).run e) (fun g first cap=>match g with
   | .func n=>call n (appV first (appV ((oY as).run e) cap)) h
   |_=>.bad) .bad⟩
 | .builtin .append,[x,y],t::t2::_=>appC P t t2 x y
 | .builtin .clear,[x],t::_=>SH P t x
 | .builtin .unsafeString,[x,n],t::_::_=>ustrC P t x n
 |_,_,_=>eQ
def qV:Op→HOp
 | .alloc t=>(match gC P t with
  |some z=>(match dT z with
   |some c=>⟨fun _ _ h=>mN t h (eF c) [c] (fun i=>.p i 0)⟩
   |none=>eQ)
  |none=>eQ)
 | .box t x=>⟨fun _ e h=>Option.rec (motive:=fun _=>VH) .bad (fun c=>mN t h (eF c) [c] (fun i=>.p i 0)) (dT ((aF x).run e))⟩
 | .buildSlice t len ps=>(match P.underlying t with
  | some (.slice el)=>(match bM P el,gC P el with
   |some (sz+1),some z=>(match dT z with
    |some zc=>bif Nat.ble (len*(sz+1)) 16777216&&Nat.beq (eF zc) (sz+1) then
        ⟨fun _ e h=>match jB (fun i=>some (i*(sz+1),sz+1)) ((kF zc len).flatten) ((lN ps.toList).run e) with
         |some cs=>mN el h (sz+1) (oF (sz+1) len cs) (fun i=>.sl i 0 len (sz+1))
         |none=>.bad⟩ else eQ
    |none=>eQ)
   |_,_=>eQ)
  |_=>eQ)
 | .makeSlice t l c=>(match P.underlying t with
  | some (.slice el)=>(match bM P el,gC P el with
   |some (sz+1),some z=>(match dT z,P.info? el with
    |some zc,some inf=>bif Nat.ble inf.bytes 1000000&&Nat.beq (eF zc) (sz+1) then
        ⟨fun _ e h=>gZ ((aF l).run e) (fun _ n=>gZ ((aF c).run e) (fun _ m=>match n,m with
         | .ofNat n,.ofNat m=>bif Nat.ble n m&&Nat.ble m 100000 then mN el h (sz+1) (kF zc m) (fun i=>.sl i 0 n (sz+1)) else .bad
         |_,_=>.bad) .bad) .bad⟩ else eQ
    |_,_=>eQ)
   |_,_=>eQ)
  |_=>eQ)
 | .makeMap _ none=>⟨fun _ _ h=>sO h (fun _=>.map [] 0) (fun i=>.mp i)⟩
 | .mapUpdate t m k v=>(match P.underlying t with
  |some (.map kt _)=>⟨fun _ e h=>pS ((aF m).run e) (fun b=>BD P kt h b ((aF k).run e) ((aF v).run e)) .bad⟩
  |_=>eQ)
 | .insert t m k v=>(match P.underlying t with
  |some (.map kt _)=>⟨fun _ e h=>pS ((aF m).run e) (fun b=>BD P kt h b ((aF k).run e) ((aF v).run e)) .bad⟩
  |_=>eQ)
 | .mapEntry t m k=>(match P.underlying t with
  |some (.map kt et)=>(match gC P et with
   |some z=>⟨fun _ e h=>pS ((aF m).run e) (fun b=>GS P kt z h b ((aF k).run e)) .bad⟩
   |none=>eQ)
  |_=>eQ)
 | .entryStore _ m s v=>⟨fun _ e h=>pS ((aF m).run e) (fun b=>gZ ((aF s).run e) (fun _ n=>match n with| .ofNat n=>HX h b n ((aF v).run e)|_=>.bad) .bad) .bad⟩
 | .store t a x=>(match bM P t with
  |some n=>⟨fun _ e h=>iO ((aF a).run e) (fun b o=>Option.rec (motive:=fun _=>VH) .bad (fun c=>dZ (Nat.beq (eF c) n) (wr h b o c n) .bad) (dT ((aF x).run e))) .bad⟩
  |none=>eQ)
 | .range t x=>(match P.underlying t with
  | some (.map _ _)=>⟨fun _ e h=>pS ((aF x).run e) (fun b=>match iM h b with
    |some (_,a8)=>sO h (fun _=>.miter b a8 [] a8) (fun i=>.p i 0)
    |none=>.bad) .bad⟩
  |_=>eQ)
 | .next x false=>⟨fun _ e h=>iO ((aF x).run e) (fun b o=>dZ (Nat.beq o 0) (GH h b) .bad) .bad⟩
 | .call c=>IK P c
 |_=>eQ
def isHeavy:Op→Bool
 | .alloc _| .box .. | .buildSlice .. | .makeSlice .. | .makeMap .. | .mapUpdate .. | .insert .. | .store .. | .range .. | .next .. | .mapEntry .. | .entryStore ..=>true
 | .call { callee:=.builtin .len,.. }| .call { callee:=.builtin .max,.. }| .call { callee:=.builtin .min,.. }| .call { callee:=.builtin .unsafeSliceData,.. }=>false
 | .call _=>true
 |_=>false
structure SOp where
 run:bS→Env→H→Rs
structure COd where
 run:bS→Env→H→CR
def doH (call:bS) (e:Env) (dst:Nat) (r:VH):Rs:=VH.rec (motive:=fun _=>Rs) .bad (fun v h=>.ok (iX dst v e) h) r
def doH0 (e:Env) (r:VH):Rs:=VH.rec (motive:=fun _=>Rs) .bad (fun _ h=>.ok e h) r
def doL (e:Env) (h:H) (dst:Nat) (r:Option V):Rs:=Option.rec (motive:=fun _=>Rs) .bad (fun v=>.ok (iX dst v e) h) r
def doL0 (e:Env) (h:H) (r:Option V):Rs:=Option.rec (motive:=fun _=>Rs) .bad (fun _=>.ok e h) r
def fW:Nat:=511
def DG (o:Oper):SOp:=
 match o.op with
 | .defer { callee:=.value f,args:=⟨[]⟩,.. }=>(match o.dst with
  |some _=>⟨fun _ _ _=>.bad⟩
  |none=>⟨fun _ e h=>match (aF f).run e,bR fW e with
   | .fn g a b,.tup l=>.ok (iX fW (.tup (.fn g a b::l)) e) h
   |_,_=>.bad⟩)
 |_=>match isHeavy o.op,o.dst with
  |true,some d=>⟨fun call e h=>doH call e d ((qV P o.op).run call e h)⟩
  |true,none=>⟨fun call e h=>doH0 e ((qV P o.op).run call e h)⟩
  |false,some d=>⟨fun _ e h=>doL e h d ((pF P o.op).run e h)⟩
  |false,none=>⟨fun _ e h=>doL0 e h ((pF P o.op).run e h)⟩
def kV:List Oper→Nat→Option Oper
 | [],_=>none
 |a::_,0=>some a
 |_::l,n+1=>kV l n
def zL (d:Option Nat) (e:Env):Env:=match d with|some d=>iX d cL e|none=>e
def PR (v:V) (x:Rs):Rs:=match v with| .tup []=>x|_=>.bad
def sJ (ops:List Oper) (o:Oper):SOp:=
 match o.guard with
 |none=>DG P o
 |some (j,want)=>match (kV ops j).bind (·.dst) with
  |none=>⟨fun _ e h=>.ok (zL o.dst e) h⟩
  |some g=>⟨fun call e h=>tH (bR g e) (fun b=>dZ (b==want) ((DG P o).run call e h) (.ok (zL o.dst e) h)) (PR (bR g e) (.ok (zL o.dst e) h))⟩
def lL (ops:List Oper):List Oper→SOp
 | []=>⟨fun _ e h=>.ok e h⟩
 |o::l=>⟨fun call e h=>Rs.rec (motive:=fun _=>Rs) .bad (fun e h=>(lL ops l).run call e h) ((sJ P ops o).run call e h)⟩
def iN (e:Edge):Bool:=match e.ground with| .textOnly _| .gcOnly _=>false|_=>true
def natAt:List Nat→Nat→Nat
 | [],_=>0
 |a::_,0=>a
 |_::l,n+1=>natAt l n
def pD (b2:List Nat):List Edge→Nat
 | []=>0
 |e::l=>bif iN e then(1<<<e.on)|||(natAt b2 e.on|||pD b2 l) else pD b2 l
def aH (b2:List Nat):List Oper→List Nat
 | []=>b2
 |o::l=>aH (b2++ [pD b2 o.after.toList]) l
def isNew:Op→Bool
 | .alloc _| .box .. | .buildSlice .. | .makeSlice .. | .makeMap ..=>true
 |_=>false
def jY:Nat→List Oper→List (Nat × Oper)
 |_,[]=>[]
 |i,o::l=>(i,o)::jY (i+1) l
def gO {α:Type} (p:α→Bool):List α→List α
 | []=>[]
 |a::l=>bif p a then a::gO p l else gO p l
def pB (n:Nat):List Nat→Bool
 | []=>false
 |a::l=>bif Nat.beq a n then true else pB n l
def BE (body:Env→H→CR) (n:Nat):Env→H→CR:=
 Nat.rec (motive:=fun _=>Env→H→CR) (fun _ _=>.bad)
  (fun _ ih e h=>CR.rec (motive:=fun _=>CR) .bad (fun e h=>ih e h) (fun i e h=>.ext i e h) (fun e h=>.ret e h) (body e h)) n
def mL (i:Nat):List V→Env→Env
 | [],e=>e
 |v::l,e=>mL (i+1) l (iX i v e)
structure ROp where
 run:Env→H→Option V
structure ROps where
 run:Env→H→Option (List V)
def sF:ResultVar→ROp
 | .tmp t=>⟨fun e _=>some (bR t e)⟩
 | .cell a t=>match eV P t,bM P t with
  |true,some n=>⟨fun e h=>iO (bR a e) (fun b o=>mY (rd h b o n)) none⟩
  |false,some _=>⟨fun e h=>iO (bR a e) (fun b o=>rd1 h b o) none⟩
  |_,_=>⟨fun _ _=>none⟩
def kE:List ResultVar→ROps
 | []=>⟨fun _ _=>some []⟩
 |r::l=>⟨fun e h=>match (sF P r).run e h,(kE l).run e h with|some v,some vs=>some (v::vs)|_,_=>none⟩
def qG (rs:List ResultVar):ROp:=
 match rs with
 | [r]=>sF P r
 |rs=>⟨fun e h=>match (kE P rs).run e h with|some vs=>some (.tup vs)|none=>none⟩
structure FOp where
 run:bS→List V→H→VH
def oI:FOp:=⟨fun _ _ _=>.bad⟩
def H0 (n:Nat):H:=⟨Mem.new,Fam.new,nY n⟩
def VH.isTrue:VH→Bool| .ok (.b true) _=>true|_=>false
end
variable {h' hh:H}
instance:DecidableEq D8:=fun a b=>by
 cases a<;>cases b<;>first|exact .isTrue rfl|exact .isFalse (fun h=>by cases h)
def sm8 {α:Type} (d:D8) (k) (n:N8 α):gV d (jO d k n)=k (gV d n):=by cases d<;>cases n<;>rfl
def sn8 {α:Type} {d d':D8} (h:d≠d') (k) (n:N8 α):gV d (jO d' k n)=gV d n:=by cases d<;>cases d'<;>cases n<;>first|rfl|exact absurd rfl h
def IB:∀x,x<8→∀y,y<8→dg x=dg y→x=y:=by decide
def uU (t:Nat) (v:V) (e:Env):bR t (iX t v e)=v:=by
 simp [bR,iX,sm8]
def rA {t t':Nat} (ht:t<512) (a0:t'<512) (h:t≠t') (v:V) (e:Env):bR t (iX t' v e)=bR t e:=by
 unfold bR iX
 by_cases h1:dg (t/64)=dg (t'/64)
 ·rw [h1,sm8]
  by_cases h2:dg (t/8%8)=dg (t'/8%8)
  ·rw [h2,sm8];have h3:dg (t%8)≠dg (t'%8):=fun h3=>h (by
    have a:=IB _ (by omega) _ (by omega) h1;have b:=IB _ (by omega) _ (by omega) h2;have c:=IB _ (by omega) _ (by omega) h3;omega)
   rw [sn8 h3]
  ·rw [sn8 h2]
 ·rw [sn8 h1]
def gN (i:Id) (x:Option O) (m:Mem):aB i (dS i x m)=x:=by
 cases i;simp [aB,dS,sm8]
def fG {i j:Id} (h:i≠j) (x:Option O) (m:Mem):aB i (dS j x m)=aB i m:=by
 obtain⟨a,b,c,d,e⟩:=i;obtain⟨a',b',c',d',e'⟩:=j;simp only [aB,dS]
 by_cases ha:a=a'
 ·subst ha;rw [sm8]
  by_cases hb:b=b'
  ·subst hb;rw [sm8]
   by_cases hc:c=c'
   ·subst hc;rw [sm8]
    by_cases hd:d=d'
    ·subst hd;rw [sm8]
     by_cases he:e=e'
     ·subst he;exact absurd rfl h
     ·rw [sn8 he]
    ·rw [sn8 hd]
   ·rw [sn8 hc]
  ·rw [sn8 hb]
 ·rw [sn8 ha]
def pL (i:Id) (x:List Id) (m:Fam):aU i (gX i x m)=x:=by
 cases i;simp [aU,gX,sm8]
def jR {i j:Id} (h:i≠j) (x:List Id) (m:Fam):aU i (gX j x m)=aU i m:=by
 obtain⟨a,b,c,d,e⟩:=i;obtain⟨a',b',c',d',e'⟩:=j;simp only [aU,gX]
 by_cases ha:a=a'
 ·subst ha;rw [sm8]
  by_cases hb:b=b'
  ·subst hb;rw [sm8]
   by_cases hc:c=c'
   ·subst hc;rw [sm8]
    by_cases hd:d=d'
    ·subst hd;rw [sm8]
     by_cases he:e=e'
     ·subst he;exact absurd rfl h
     ·rw [sn8 he]
    ·rw [sn8 hd]
   ·rw [sn8 hc]
  ·rw [sn8 hb]
 ·rw [sn8 ha]
def D8.toNat_lt (d:D8):d.toNat<8:=by cases d<;>decide
def D8.toNat_inj {a b:D8} (h:a.toNat=b.toNat):a=b:=by cases a<;>cases b<;>first|rfl|(simp [D8.toNat] at h)
def D8.beq_iff {a b:D8}:D8.beq a b=true↔a=b:=by
 constructor
 ·intro h;exact D8.toNat_inj (bE h)
 ·rintro rfl;exact VP _
def Id.beq_iff {i j:Id}:Id.beq i j=true↔i=j:=by
 obtain⟨a,b,c,d,e⟩:=i;obtain⟨a',b',c',d',e'⟩:=j;simp only [Id.beq,aN,D8.beq_iff,Id.mk.injEq];constructor
 ·rintro⟨h1,h2,h3,h4,h5⟩;exact⟨h5,h4,h3,h2,h1⟩
 ·rintro⟨h1,h2,h3,h4,h5⟩;exact⟨h5,h4,h3,h2,h1⟩
def D8.nextd_false {d d':D8} (h:d.nextd=(false,d')):d'.toNat=d.toNat+1:=by cases d<;>simp [D8.nextd] at h<;>subst h<;>rfl
def D8.nextd_true {d d':D8} (h:d.nextd=(true,d')):d.toNat=7∧d'.toNat=0:=by cases d<;>simp [D8.nextd] at h;subst h;exact⟨rfl,rfl⟩
def Id.succ_toNat {i j:Id} (h:i.succ=some j):j.toNat=i.toNat+1:=by
 obtain⟨a,b,c,d,e⟩:=i;simp only [Id.succ] at h
 repeat' split at h
 all_goals first
  |(cases h;done)
  |skip
 all_goals
  obtain rfl:=aL h;simp only [Id.toNat]
 ·have:=D8.nextd_false (by assumption);omega
 ·have h1:=D8.nextd_true (d:=e) (by assumption);have:=D8.nextd_false (d:=d) (by assumption);omega
 ·have h1:=D8.nextd_true (d:=e) (by assumption);have h2:=D8.nextd_true (d:=d) (by assumption);have:=D8.nextd_false (d:=c) (by assumption);omega
 ·have h1:=D8.nextd_true (d:=e) (by assumption);have h2:=D8.nextd_true (d:=d) (by assumption);have h3:=D8.nextd_true (d:=c) (by assumption);have:=D8.nextd_false (d:=b) (by assumption);omega
 ·have h1:=D8.nextd_true (d:=e) (by assumption);have h2:=D8.nextd_true (d:=d) (by assumption);have h3:=D8.nextd_true (d:=c) (by assumption);have h4:=D8.nextd_true (d:=b) (by assumption);have:=D8.nextd_false (d:=a) (by assumption);omega
structure Loc where
 blk:Nat
 base:Nat
 lim:Nat
abbrev Mp:=Id→Option Loc
def Mp.le (m m':Mp):Prop:=∀i l,m i=some l→m' i=some l
def Mp.le_refl (m:Mp):m.le m:=fun _ _ h=>h
def Mp.le_trans {a b c:Mp} (h:a.le b) (k:b.le c):a.le c:=fun i l x=>k i l (h i l x)
def dR:Value→Prop
 | .agg _=>False
 | .tuple _=>False
 |_=>True
mutual
def R (m:Mp):V→Value→Prop
 | .top,_=>True
 | .b x,u=>u= .bool x
 | .i k n,u=>u= .int k n
 | .s len code,u=>∃s:ByteArray,u= .string s∧s.data.toList.map UInt8.toNat=dC len code∧code<256^len
 | .pn,u=>u= .pointer none
 | .p b o,u=>∃l,m b=some l∧u= .pointer (some ⟨l.blk,l.base+o,none⟩)
 | .sn,u=>u= .slice none 0 0
 | .sl b o len sz,u=>∃l cap,m b=some l∧u= .slice (some ⟨l.blk,l.base+o,none⟩) len cap∧len≤cap∧o+cap*sz≤l.lim
 | .se,u=>∃a cap,u= .slice (some a) 0 cap
 | .mn,u=>u= .map none
 | .mp b,u=>∃l,m b=some l∧u= .map (some l.blk)
 | .fn f a c,u=>∃a' c',u= .func f ⟨a'⟩ ⟨c'⟩∧Rl m a a'∧Rl m c c'
 | .nf,u=>u= .nilFunc
 | .ni,u=>u= .nilIface
 | .agg l,u=>∃l',u= .agg ⟨l'⟩∧Rl m l l'∧∀x∈l',dR x
 | .tup l,u=>∃l',u= .tuple ⟨l'⟩∧Rl m l l'
def Rl (m:Mp):List V→Lv→Prop
 | [],l=>l= []
 |v::vs,l=>∃u us,l=u::us∧R m v u∧Rl m vs us
end
mutual
theorem R.mono {m m':Mp} (h:m.le m'):∀{v:V} {u:Value},R m v u→R m' v u
 | .top,_,_=>by simp [R]
 | .b x,_,k=>by simpa [R] using k
 | .i _ _,_,k=>by simpa [R] using k
 | .s _ _,_,k=>by simpa [R] using k
 | .pn,_,k=>by simpa [R] using k
 | .p b o,_,k=>by
  simp only [R] at k ⊢;obtain⟨l,hl,hu⟩:=k;exact⟨l,h _ _ hl,hu⟩
 | .sn,_,k=>by simpa [R] using k
 | .sl b o len sz,_,k=>by
  simp only [R] at k ⊢;obtain⟨l,cap,hl,hu⟩:=k;exact⟨l,cap,h _ _ hl,hu⟩
 | .se,_,k=>by simpa [R] using k
 | .mn,_,k=>by simpa [R] using k
 | .mp b,_,k=>by
  simp only [R] at k ⊢;obtain⟨l,hl,hu⟩:=k;exact⟨l,h _ _ hl,hu⟩
 | .fn f a c,_,k=>by
  simp only [R] at k ⊢;obtain⟨a',c',hu,ha,hc⟩:=k;exact⟨a',c',hu,Rl.mono h ha,Rl.mono h hc⟩
 | .nf,_,k=>by simpa [R] using k
 | .ni,_,k=>by simpa [R] using k
 | .agg l,_,k=>by
  simp only [R] at k ⊢;obtain⟨l',hu,hl,hs⟩:=k;exact⟨l',hu,Rl.mono h hl,hs⟩
 | .tup l,_,k=>by
  simp only [R] at k ⊢;obtain⟨l',hu,hl⟩:=k;exact⟨l',hu,Rl.mono h hl⟩
theorem Rl.mono {m m':Mp} (h:m.le m'):∀{l:List V} {us:Lv},Rl m l us→Rl m' l us
 | [],_,k=>by simpa [Rl] using k
 |v::l,_,k=>by
  simp only [Rl] at k ⊢;obtain⟨u,us,rfl,hv,hl⟩:=k;exact⟨u,us,rfl,R.mono h hv,Rl.mono h hl⟩
end
def Rl.length {m:Mp}:∀{l:List V} {us:Lv},Rl m l us→us.length=l.length
 | [],_,k=>by simp only [Rl] at k;subst k;rfl
 |v::l,_,k=>by simp only [Rl] at k;obtain⟨u,us,rfl,_,hl⟩:=k;simp [Rl.length hl]
def Rl.get {m:Mp}:∀{l:List V} {us:Lv},Rl m l us→∀{i:Nat} {v:V},l[i]?=some v→∃u,us[i]?=some u∧R m v u
 | [],_,_,i,v,h=>by simp at h
 |w::l,_,k,i,v,h=>by
  simp only [Rl] at k;obtain⟨u,us,rfl,hv,hl⟩:=k;cases i with
  |zero=>simp at h;subst h;exact⟨u,rfl,hv⟩
  |succ i=>simp at h ⊢;exact Rl.get hl h
def Rl.mk {m:Mp}:∀{l:List V} {us:Lv},us.length=l.length→(∀(i:Nat) v u,l[i]?=some v→us[i]?=some u→R m v u)→Rl m l us
 | [],us,hl,_=>by simp only [Rl];exact nL (by simpa using hl)
 |v::l,[],hl,_=>by simp at hl
 |v::l,u::us,hl,h=>by
  simp only [Rl];exact⟨u,us,rfl,h 0 v u rfl rfl,Rl.mk (by simpa using hl) (fun i v u a b=>h (i+1) v u (by simpa using a) (by simpa using b))⟩
def Rl.append {m:Mp}:∀{l l':List V} {us a1:Lv},Rl m l us→Rl m l' a1→Rl m (l++l') (us++a1)
 | [],_,_,_,k,k'=>by simp only [Rl] at k;subst k;simpa using k'
 |v::l,_,_,_,k,k'=>by
  simp only [Rl] at k;obtain⟨u,us,rfl,hv,hl⟩:=k;simp only [qA,Rl];exact⟨u,_,rfl,hv,Rl.append hl k'⟩
def Rl.take {m:Mp} {l:List V} (h:Rl m l us) (n:Nat):Rl m (l.take n) (us.take n):=
 Rl.mk (by simp [h.length]) (fun i v u a b=>by
  rw [vW] at a b;split at a
  ·rename_i a2;rw [if_pos a2] at b;obtain⟨u',hu',hr⟩:=h.get a;rw [hu'] at b;cases b;exact hr
  ·cases a)
def Rl.drop {m:Mp} {l:List V} (h:Rl m l us) (n:Nat):Rl m (l.drop n) (us.drop n):=
 Rl.mk (by simp [h.length]) (fun i v u a b=>by
  rw [kR] at a b;obtain⟨u',hu',hr⟩:=h.get a;rw [hu'] at b;cases b;exact hr)
def yB {m:Mp} {v:V} {l:List V} (h:R m v u) (hc:dT v=some l):
  ∃l',u.cells=⟨l'⟩∧Rl m l l'∧∀x∈l',dR x:=by
 cases v<;>simp only [dT,cI,reduceCtorEq] at hc
 case agg l0=>
  subst hc;simp only [R] at h;obtain⟨l',rfl,hl,hs⟩:=h;exact⟨l',rfl,hl,hs⟩
 all_goals
  subst hc;have a0:dR u:=by
   simp only [R] at h
   first
    |(subst h;trivial)
    |(obtain⟨_,rfl,_⟩:=h;trivial)
    |(obtain⟨_,_,rfl⟩:=h;trivial)
    |(obtain⟨_,_,_,rfl,_⟩:=h;trivial)
    |(obtain⟨_,_,rfl,_⟩:=h;trivial)
  have hu:u.cells=⟨[u]⟩:=by cases u<;>first|rfl|exact a0.elim
  exact⟨[u],hu,by simp only [Rl];exact⟨u,[],rfl,h,rfl⟩,by simpa using a0⟩
variable {m m':Mp}
instance:DecidableEq Id:=fun i j=>if h:Id.beq i j=true then .isTrue (Id.beq_iff.1 h) else .isFalse (fun e=>h (Id.beq_iff.2 e))
def eH (s:ByteArray):List Nat:=s.data.toList.map UInt8.toNat
def EntR (m:Mp) (e:Ent) (x:MapEntry):Prop:=R m e.key x.key∧R m e.val x.val∧x.born=e.born
def bQ (m:Mp):List Ent→List MapEntry→Prop
 | [],l=>l= []
 |e::es,l=>∃x xs,l=x::xs∧EntR m e x∧bQ m es xs
def EntR.mono (h:m.le m') {e:Ent} {x:MapEntry} (k:EntR m e x):EntR m' e x:=⟨k.1.mono h,k.2.1.mono h,k.2.2⟩
def bQ.mono {m m':Mp} (h:m.le m'):∀{es:List Ent} {xs:List MapEntry},bQ m es xs→bQ m' es xs
 | [],_,k=>k
 |e::es,_,k=>by obtain⟨x,xs,rfl,hx,hxs⟩:=k;exact⟨x,xs,rfl,hx.mono h,bQ.mono h hxs⟩
structure CellsAt (m:Mp) (w:Wo) (l:Loc) (sz:Nat) (els:List (List V)) (ro:Rw) (C:Array Value) (t:TypeId) (fz:Nat × Nat):Prop where
 at_:w.heap[l.blk]?=some (.cells C t fz)
 room:l.base+l.lim≤C.size
 len:els.flatten.length≤l.lim
 each:∀el∈els,el.length=sz
 val:∀(i:Nat) v,els.flatten[i]?=some v→∃u,C[l.base+i]?=some u∧R m v u∧dR u
 free:ro.isW=true→∀i,i<l.lim→¬(fz.1≤l.base+i∧l.base+i<fz.2)
 plain:ro.isW=true→sz≠1→fz.1=fz.2
 typ:∀ty,ro.tyOf=some ty→t=ty
 al:l.base%sz=0
def ObjAt (m:Mp) (w:Wo) (l:Loc):O→Prop
 | .cells sz els _ ro=>∃C t fz,CellsAt m w l sz els ro C t fz
 | .map es clock=>∃es',w.heap[l.blk]?=some (.map ⟨es'⟩ clock)∧bQ m es es'
 | .miter mi since seen last=>l.base=0∧∃lm,m mi=some lm∧w.heap[l.blk]?=some (.mapIter (some lm.blk) since ⟨seen⟩ last)
def jJ:O→Prop
 | .cells _ _ _ ro=>ro≠ .fz
 |_=>True
def wK:O→O→Prop
 | .cells _ _ f _,.cells _ _ f' _=>f=f'
 |_,_=>False
def EndLe (m:Mp) (mem:Mem) (x y:Id):Prop:=
 ∀sz els f ro b6 els' f' ro' l l',aB x mem=some (.cells sz els f ro)→aB y mem=some (.cells b6 els' f' ro')→m x=some l→m y=some l'→
  l.blk=l'.blk→l'.base+els'.flatten.length≤l.base+els.flatten.length
structure HR (m:Mp) (h:H) (w:Wo):Prop where
 obj:∀b ob,aB b h.mem=some ob→∃l,m b=some l∧ObjAt m w l ob
 dom:∀b l,m b=some l→b.toNat<h.next.toNat
 sep:∀b b' ob a2 l l',aB b h.mem=some ob→aB b' h.mem=some a2→m b=some l→m b'=some l'→b≠b'→l.blk=l'.blk→wK ob a2
 fam:∀b b' sz els f ro b6 els' ro',aB b h.mem=some (.cells sz els f ro)→aB b' h.mem=some (.cells b6 els' f ro')→b≠b'→b∈aU f h.fams
 ord:∀f,(aU f h.fams).Pairwise (EndLe m h.mem)
 lt:∀b l,m b=some l→l.blk<w.heap.size
 famlt:∀b sz els f ro,aB b h.mem=some (.cells sz els f ro)→f.toNat<h.next.toNat
 flt:∀f x,x∈aU f h.fams→x.toNat<h.next.toNat
def Wb (m:Mp) (h:H) (B:Nat):Prop:=∃b ob l,aB b h.mem=some ob∧m b=some l∧l.blk=B∧jJ ob
structure Fr (m:Mp) (h:H) (w:Wo) (m':Mp) (h':H) (w':Wo):Prop where
 le:m.le m'
 hr:HR m' h' w'
 size:w.heap.size≤w'.heap.size
 keep:∀B,B<w.heap.size→¬Wb m h B→w'.heap[B]?=w.heap[B]?
 os:w'.os=w.os
 tape:w'.tape=w.tape
 output:w'.output=w.output
 back:∀b ob l,aB b h'.mem=some ob→m' b=some l→
  w.heap.size≤l.blk∨∃b0 c0 l0,aB b0 h.mem=some c0∧m b0=some l0∧l0.blk=l.blk∧(jJ ob→jJ c0)
 old:∀b l,m' b=some l→b.toNat<h.next.toNat→m b=some l
 nxt:h.next.toNat≤h'.next.toNat
 famold:∀b sz els f ro,aB b h'.mem=some (.cells sz els f ro)→h.next.toNat≤f.toNat∨∃b0 c8 b4 c6,aB b0 h.mem=some (.cells c8 b4 f c6)
def Fr.refl {h:H} (k:HR m h w):Fr m h w m h w:=
 ⟨m.le_refl,k,aA _,fun _ _ _=>rfl,rfl,rfl,rfl,fun b ob l hb hl=>.inr ⟨b,ob,l,hb,hl,rfl,id⟩,fun _ _ h _=>h,aA _,fun b sz els f ro hb=>.inr ⟨b,sz,els,ro,hb⟩⟩
def Fr.trans {m1 m2:Mp} {h h1 h2:H} {w1 w2:Wo} (a:Fr m h w m1 h1 w1) (b:Fr m1 h1 w1 m2 h2 w2):Fr m h w m2 h2 w2 where
 le:=Mp.le_trans a.le b.le
 hr:=b.hr
 size:=aE a.size b.size
 keep:=fun B hB hn=>(b.keep B (bG hB a.size) (by
  rintro⟨x,ob,l,hx,hl,rfl,hw⟩;rcases a.back x ob l hx hl with h'|⟨b0,c0,l0,h0,hl0,he,hw0⟩
  ·omega
  ·exact hn ⟨b0,c0,l0,h0,hl0,he,hw0 hw⟩)).trans (a.keep B hB hn)
 os:=b.os.trans a.os
 tape:=b.tape.trans a.tape
 output:=b.output.trans a.output
 back:=fun x ob l hx hl=>by
  rcases b.back x ob l hx hl with h'|⟨b0,c0,l0,h0,hl0,he,hw0⟩
  ·exact .inl (aE a.size h')
  ·rcases a.back b0 c0 l0 h0 hl0 with h'|⟨b1,c5,l1,h1,a3,he1,hw1⟩
   ·exact .inl (he▸h')
   ·exact .inr ⟨b1,c5,l1,h1,a3,he1.trans he,fun x=>hw1 (hw0 x)⟩
 old:=fun x l hx c1=>a.old x l (b.old x l hx (bG c1 a.nxt)) c1
 nxt:=aE a.nxt b.nxt
 famold:=fun x sz els f ro hx=>by
  rcases b.famold x sz els f ro hx with h'|⟨b0,c8,b4,c6,h0⟩
  ·exact .inl (aE a.nxt h')
  ·exact a.famold _ _ _ _ _ h0
def HR.drawn {h:H} (k:HR m h w) (n:Nat):HR m h { w with drawn:=n }:=
 ⟨fun b ob hb=>by
  obtain⟨l,hl,ho⟩:=k.obj b ob hb;refine⟨l,hl,?_⟩;cases ob with
  |cells sz els f ro=>obtain⟨C,t,fz,hc⟩:=ho;exact⟨C,t,fz,⟨hc.at_,hc.room,hc.len,hc.each,hc.val,hc.free,hc.plain,hc.typ,hc.al⟩⟩
  |map es clock=>exact ho
  |miter mi since seen last=>exact ho,k.dom,k.sep,k.fam,k.ord,k.lt,k.famlt,k.flt⟩
def Fr.drawn {h:H} (k:HR m h w) (n:Nat):Fr m h w m h { w with drawn:=n }:=
 ⟨m.le_refl,k.drawn n,aA _,fun _ _ _=>rfl,rfl,rfl,rfl,fun b ob l hb hl=>.inr ⟨b,ob,l,hb,hl,rfl,id⟩,fun _ _ h _=>h,aA _,fun b sz els f ro hb=>.inr ⟨b,sz,els,ro,hb⟩⟩
def ObjAt.keep {l:Loc} {ob:O} (h:ObjAt m w l ob) (hm:m.le m') (hb:w'.heap[l.blk]?=w.heap[l.blk]?):ObjAt m' w' l ob:=by
 cases ob with
 |cells sz els f ro=>
  obtain⟨C,t,fz,hc⟩:=h;exact⟨C,t,fz,⟨hb.trans hc.at_,hc.room,hc.len,hc.each,fun i v hv=>by obtain⟨u,h1,h2,h3⟩:=hc.val i v hv;exact⟨u,h1,h2.mono hm,h3⟩,hc.free,hc.plain,hc.typ,hc.al⟩⟩
 |map es clock=>obtain⟨es',h1,h2⟩:=h;exact⟨es',hb.trans h1,h2.mono hm⟩
 |miter mi since seen last=>obtain⟨h0,lm,h1,h2⟩:=h;exact⟨h0,lm,hm _ _ h1,hb.trans h2⟩
def CE (o:Obj) {B:Nat} (h:B<w.heap.size):(w.heap.push o)[B]?=w.heap[B]?:=by
 simp [jE,VC h]
def Fr.new {h:H} (k:HR m h w) {nx:Id} (hn:h.next.succ=some nx) (o:Obj) (ob:O) (l:Loc) (hl:l.blk=w.heap.size)
  (hf:∀sz els f ro,ob= .cells sz els f ro→f=h.next) (hw:jJ ob)
  (b8:∀m':Mp,m.le m'→∀w':Wo,w'.heap[w.heap.size]?=some o→ObjAt m' w' l ob):
  Fr m h w (fun b=>if b=h.next then some l else m b) ⟨dS h.next (some ob) h.mem,h.fams,nx⟩ { w with heap:=w.heap.push o }:=by
 have e0:m h.next=none:=by
  cases e:m h.next with
  |none=>rfl
  |some l'=>exact absurd (k.dom _ _ e) (rO _)
 have d2:m.le (fun b=>if b=h.next then some l else m b):=by
  intro b l' hb;have:b≠h.next:=fun e=>by rw [e,e0] at hb;cases hb
  simp [this,hb]
 have a0:∀b a2,aB b (dS h.next (some ob) h.mem)=some a2→(b=h.next∧a2=ob)∨(b≠h.next∧aB b h.mem=some a2):=by
  intro b a2 hb
  by_cases e:b=h.next
  ·subst e;rw [gN] at hb;exact .inl ⟨rfl,(aL hb).symm⟩
  ·rw [fG e] at hb;exact .inr ⟨e,hb⟩
 have e4:=Id.succ_toNat hn;refine⟨d2,⟨?_,?_,?_,?_,?_,?_,?_,fun f x hx=>by have:=k.flt f x hx;show x.toNat<nx.toNat;omega⟩,by simp,?_,rfl,rfl,rfl,?_,?_,by show h.next.toNat≤nx.toNat;omega,fun b sz els f ro hb=>by
  rcases a0 b _ hb with⟨rfl,e⟩|⟨_,hb1⟩
  ·exact .inl (by rw [hf _ _ _ _ e.symm];exact aA _)
  ·exact .inr ⟨b,sz,els,ro,hb1⟩⟩
 ·intro b a2 hb;rcases a0 b a2 hb with⟨rfl,rfl⟩|⟨a1,hb⟩
  ·exact⟨l,by simp,b8 _ d2 _ (by simp)⟩
  ·obtain⟨l',b7,ho⟩:=k.obj b a2 hb;exact⟨l',by simp [a1,b7],ho.keep d2 (CE o (k.lt _ _ b7))⟩
 ·intro b l' hb;show b.toNat<nx.toNat
  by_cases e:b=h.next
  ·subst e;omega
  ·simp [e] at hb;have:=k.dom _ _ hb;omega
 ·intro b b' c5 d6 l1 l2 hb c9 a3 a4 a1 a6;rcases a0 b c5 hb with⟨rfl,rfl⟩|⟨hn1,hb1⟩<;>rcases a0 b' d6 c9 with⟨rfl,rfl⟩|⟨hn2,hb2⟩
  ·exact absurd rfl a1
  ·simp at a3;simp [hn2] at a4;have:=k.lt _ _ a4;subst a3;omega
  ·simp at a4;simp [hn1] at a3;have:=k.lt _ _ a3;subst a4;omega
  ·simp [hn1] at a3;simp [hn2] at a4;exact k.sep b b' c5 d6 l1 l2 hb1 hb2 a3 a4 a1 a6
 ·intro b b' sz els f ro b6 els' ro' hb c9 a1;rcases a0 b _ hb with⟨rfl,e1⟩|⟨hn1,hb1⟩<;>rcases a0 b' _ c9 with⟨rfl,e2⟩|⟨hn2,hb2⟩
  ·exact absurd rfl a1
  ·have:=hf _ _ _ _ e1.symm;have:=k.famlt _ _ _ _ _ hb2;subst f;omega
  ·have:=hf _ _ _ _ e2.symm;have:=k.famlt _ _ _ _ _ hb1;subst f;omega
  ·exact k.fam b b' _ _ _ _ _ _ _ hb1 hb2 a1
 ·intro f;refine(k.ord f).imp ?_;intro x y d4 sz els f1 ro b6 els' f2 ro' l1 l2 hx hy a3 a4 a6;rcases a0 x _ hx with⟨rfl,e1⟩|⟨hn1,hb1⟩<;>rcases a0 y _ hy with⟨rfl,e2⟩|⟨hn2,hb2⟩
  ·rw [a3] at a4;cases a4;rw [←e1] at e2;cases e2;exact aA _
  ·simp at a3;simp [hn2] at a4;have:=k.lt _ _ a4;subst a3;omega
  ·simp at a4;simp [hn1] at a3;have:=k.lt _ _ a3;subst a4;omega
  ·simp [hn1] at a3;simp [hn2] at a4;exact d4 _ _ _ _ _ _ _ _ _ _ hb1 hb2 a3 a4 a6
 ·intro b l' hb
  by_cases e:b=h.next
  ·subst e;simp at hb;subst hb;simp [hl]
  ·simp [e] at hb;have:=k.lt _ _ hb;simp;omega
 ·intro b sz els f ro hb;show f.toNat<nx.toNat;rcases a0 b _ hb with⟨rfl,e1⟩|⟨hn1,hb1⟩
  ·have:=hf _ _ _ _ e1.symm;subst this;omega
  ·have:=k.famlt _ _ _ _ _ hb1;omega
 ·intro B hB _;exact CE o hB
 ·intro b a2 l' hb b7;rcases a0 b a2 hb with⟨rfl,rfl⟩|⟨a1,hb⟩
  ·simp at b7;subst b7;exact .inl (by omega)
  ·simp [a1] at b7;exact .inr ⟨b,a2,l',hb,b7,rfl,id⟩
 ·intro b l' hb c1;have:b≠h.next:=fun e=>by subst e;omega
  simpa [this] using hb
def Fr.upd {h:H} (k:HR m h w) {b:Id} {ob a2:O} {l:Loc} {mem':Mem} {a8:Fam} {o':Obj}
  (hb:aB b h.mem=some ob) (hl:m b=some l) (hw:jJ ob)
  (sub:∀x ox,aB x mem'=some ox→aB x h.mem=some ox)
  (b2:∀x ox lx,x≠b→aB x mem'=some ox→m x=some lx→lx.blk≠l.blk)
  (d0:∀x y sz els f ro b6 els' ro',aB x (dS b (some a2) mem')=some (.cells sz els f ro)→aB y (dS b (some a2) mem')=some (.cells b6 els' f ro')→x≠y→x∈aU f a8)
  (d3:∀f,(aU f a8).Pairwise (EndLe m h.mem))
  (d8:∀sz els f ro,a2= .cells sz els f ro→f.toNat<h.next.toNat)
  (d9:∀sz els f ro,a2= .cells sz els f ro→∃b0 c8 b4 c6,aB b0 h.mem=some (.cells c8 b4 f c6))
  (d1:∀f x,x∈aU f a8→x.toNat<h.next.toNat)
  (b3:w'={ w with heap:=w.heap.setIfInBounds l.blk o' })
  (b8:w'.heap[l.blk]?=some o'→ObjAt m w' l a2):
  Fr m h w m ⟨dS b (some a2) mem',a8,h.next⟩ w':=by
 have c1:=k.lt _ _ hl;have d7:w'.heap[l.blk]?=some o':=by rw [b3];simp [c1]
 have c2:∀B,B≠l.blk→w'.heap[B]?=w.heap[B]?:=by
  intro B hB;rw [b3];simp [mG,eZ hB]
 have a0:∀x ox,aB x (dS b (some a2) mem')=some ox→(x=b∧ox=a2)∨(x≠b∧aB x mem'=some ox):=by
  intro x ox hx
  by_cases e:x=b
  ·subst e;rw [gN] at hx;exact .inl ⟨rfl,(aL hx).symm⟩
  ·rw [fG e] at hx;exact .inr ⟨e,hx⟩
 have e3:w'.heap.size=w.heap.size:=by rw [b3];simp
 refine⟨m.le_refl,⟨?_,k.dom,?_,d0,?_,?_,?_,d1⟩,by omega,?_,by rw [b3],by rw [b3],by rw [b3],?_,fun _ _ h _=>h,aA _,fun x sz els f ro hx=>by
  rcases a0 x _ hx with⟨rfl,e⟩|⟨_,a5⟩
  ·exact .inr (d9 _ _ _ _ e.symm)
  ·exact .inr ⟨x,sz,els,ro,sub _ _ a5⟩⟩
 ·intro x ox hx;rcases a0 x ox hx with⟨rfl,rfl⟩|⟨a1,hx⟩
  ·exact⟨l,hl,b8 d7⟩
  ·obtain⟨lx,a7,ho⟩:=k.obj x ox (sub _ _ hx);exact⟨lx,a7,ho.keep m.le_refl (c2 _ (b2 x ox lx a1 hx a7))⟩
 ·intro x y ox oy lx ly hx hy a7 c3 a1 a6;rcases a0 x ox hx with⟨rfl,rfl⟩|⟨hn1,a5⟩<;>rcases a0 y oy hy with⟨rfl,rfl⟩|⟨hn2,a9⟩
  ·exact absurd rfl a1
  ·rw [hl] at a7;cases a7;exact absurd a6.symm (b2 y oy ly hn2 a9 c3)
  ·rw [hl] at c3;cases c3;exact absurd a6 (b2 x ox lx hn1 a5 a7)
  ·exact k.sep x y ox oy lx ly (sub _ _ a5) (sub _ _ a9) a7 c3 a1 a6
 ·intro f;refine(d3 f).imp ?_;intro x y d4 sz els f1 ro b6 els' f2 ro' l1 l2 hx hy a3 a4 a6;rcases a0 x _ hx with⟨rfl,e1⟩|⟨hn1,a5⟩<;>rcases a0 y _ hy with⟨rfl,e2⟩|⟨hn2,a9⟩
  ·rw [a3] at a4;cases a4;rw [←e1] at e2;cases e2;exact aA _
  ·rw [hl] at a3;cases a3;exact absurd a6.symm (b2 y _ l2 hn2 a9 a4)
  ·rw [hl] at a4;cases a4;exact absurd a6 (b2 x _ l1 hn1 a5 a3)
  ·exact d4 _ _ _ _ _ _ _ _ _ _ (sub _ _ a5) (sub _ _ a9) a3 a4 a6
 ·intro x lx hx;rw [e3];exact k.lt _ _ hx
 ·intro x sz els f ro hx;show f.toNat<h.next.toNat;rcases a0 x _ hx with⟨rfl,e1⟩|⟨hn1,hx⟩
  ·exact d8 _ _ _ _ e1.symm
  ·exact k.famlt _ _ _ _ _ (sub _ _ hx)
 ·intro B hB hn;refine c2 B ?_;rintro rfl;exact hn ⟨b,ob,l,hb,hl,rfl,hw⟩
 ·intro x ox lx hx a7;rcases a0 x ox hx with⟨rfl,rfl⟩|⟨a1,hx⟩
  ·rw [hl] at a7;cases a7;exact .inr ⟨x,ob,l,hb,hl,rfl,fun _=>hw⟩
  ·exact .inr ⟨x,ox,lx,sub _ _ hx,a7,rfl,id⟩
def lS:∀(l:List Id) (m:Mem) (x:Id),aB x (iH l m)=if x∈l then none else aB x m
 | [],m,x=>by simp [iH]
 | b::l,m,x=>by
  rw [iH,lS l]
  by_cases h:x∈l
  ·simp [h]
  ·by_cases e:x=b
   ·subst e;simp [h,gN]
   ·simp [h,e,fG e]
def qH (b:Id):∀(l:List Id) (x:Id),x∈kH b l↔x∈l∧x≠b
 | [],x=>by simp [kH]
 | y::l,x=>by
  rw [kH]
  by_cases e:Id.beq y b=true
  ·have e':=Id.beq_iff.1 e;subst e';simp only [e,cQ,qH y l x,cD];constructor
   ·rintro⟨h1,h2⟩;exact⟨.inr h1,h2⟩
   ·rintro⟨h1|h1,h2⟩
    ·exact absurd h1 h2
    ·exact⟨h1,h2⟩
  ·have e':y≠b:=fun h=>e (Id.beq_iff.2 h)
   have e2:Id.beq y b=false:=by simpa using e
   simp only [e2,lE,cD,qH b l x];constructor
   ·rintro(rfl|⟨h1,h2⟩)
    ·exact⟨.inl rfl,e'⟩
    ·exact⟨.inr h1,h2⟩
   ·rintro⟨h1|h1,h2⟩
    ·exact .inl h1
    ·exact .inr ⟨h1,h2⟩
def xI (h:H) (f b:Id):gW h f b=⟨iH (kH b (aU f h.fams)) h.mem,if aU f h.fams= [] then h.fams else gX f [] h.fams,h.next⟩:=by
 obtain⟨mem,fams,next⟩:=h;unfold gW;cases e:aU f fams with
 |nil=>simp [e,kH,iH]
 |cons x l=>simp [e]
def sE (h:H) (b:Id) (ob:O):eP h b ob=⟨dS b (some ob) h.mem,h.fams,h.next⟩:=by cases h;rfl
def Fr.updCells {h:H} (k:HR m h w) {b f:Id} {sz ty:Nat} {els els':List (List V)} {ro':Rw} {l:Loc} {o':Obj}
  (hb:aB b h.mem=some (.cells sz els f (.rw ty))) (hl:m b=some l)
  (b3:w'={ w with heap:=w.heap.setIfInBounds l.blk o' })
  (b8:w'.heap[l.blk]?=some o'→ObjAt m w' l (.cells sz els' f ro')):
  Fr m h w m (eP (gW h f b) b (.cells sz els' f ro')) w':=by
 rw [sE,xI];have hk:∀x ox,aB x (iH (kH b (aU f h.fams)) h.mem)=some ox→aB x h.mem=some ox∧(x∈aU f h.fams→x=b):=by
  intro x ox hx;rw [lS] at hx;split at hx
  ·cases hx
  ·rename_i hn;refine⟨hx,fun hm=>?_⟩
   by_cases e:x=b
   ·exact e
   ·exact absurd ((qH b _ x).2 ⟨hm,e⟩) hn
 refine Fr.upd k hb hl (by simp [jJ]) (fun x ox hx=>(hk x ox hx).1) ?_ ?_ ?_ ?_ (fun sz1 els1 f1 b9 e=>by cases e;exact⟨b,_,_,_,hb⟩) ?_ b3 b8
 ·intro x ox lx a1 hx a7 a6;obtain⟨a5,hm⟩:=hk x ox hx;have hs:=k.sep x b ox _ lx l a5 hb a7 hl a1 a6;cases ox with
  |cells sz1 els1 f1 b9=>
   have hf:f1=f:=hs;subst hf;exact a1 (hm (k.fam x b _ _ _ _ _ _ _ a5 hb a1))
  |_=>exact hs
 ·intro x y sz1 els1 f1 b9 sz2 els2 c7 hx hy a1;have b5:x=b∧f1=f∨x≠b∧aB x h.mem=some (.cells sz1 els1 f1 b9)∧(x∈aU f h.fams→x=b):=by
   by_cases e:x=b
   ·subst e;rw [gN] at hx;cases hx;exact .inl ⟨rfl,rfl⟩
   ·rw [fG e] at hx;exact .inr ⟨e,hk x _ hx⟩
  have d5:y=b∧f1=f∨y≠b∧aB y h.mem=some (.cells sz2 els2 f1 c7)∧(y∈aU f h.fams→y=b):=by
   by_cases e:y=b
   ·subst e;rw [gN] at hy;cases hy;exact .inl ⟨rfl,rfl⟩
   ·rw [fG e] at hy;exact .inr ⟨e,hk y _ hy⟩
  by_cases hf:f1=f
  ·subst hf;rcases b5 with⟨rfl,_⟩|⟨hn1,a5,hm1⟩
   ·rcases d5 with⟨rfl,_⟩|⟨hn2,a9,hm2⟩
    ·exact absurd rfl a1
    ·exact absurd (hm2 (k.fam y x _ _ _ _ _ _ _ a9 hb hn2)) hn2
   ·exact absurd (hm1 (k.fam x b _ _ _ _ _ _ _ a5 hb hn1)) hn1
  ·have a5:aB x h.mem=some (.cells sz1 els1 f1 b9):=by
    rcases b5 with⟨_,e⟩|⟨_,a5,_⟩
    ·exact absurd e hf
    ·exact a5
   have a9:aB y h.mem=some (.cells sz2 els2 f1 c7):=by
    rcases d5 with⟨_,e⟩|⟨_,a9,_⟩
    ·exact absurd e hf
    ·exact a9
   have:=k.fam x y _ _ _ _ _ _ _ a5 a9 a1;show x∈aU f1 _;split
   ·exact this
   ·rw [jR hf];exact this
 ·intro f1;show(aU f1 _).Pairwise _;split
  ·exact k.ord f1
  ·by_cases e:f1=f
   ·subst e;rw [pL];exact .nil
   ·rw [jR e];exact k.ord f1
 ·intro sz1 els1 f1 b9 e;cases e;exact k.famlt _ _ _ _ _ hb
 ·intro f1 x hx;have b5:x∈aU f1 (if aU f h.fams= [] then h.fams else gX f [] h.fams):=hx;split at b5
  ·exact k.flt f1 x b5
  ·by_cases e:f1=f
   ·subst e;rw [pL] at b5;cases b5
   ·rw [jR e] at b5;exact k.flt f1 x b5
def Fr.updObj {h:H} (k:HR m h w) {b:Id} {ob a2:O} {l:Loc} {o':Obj}
  (hb:aB b h.mem=some ob) (hl:m b=some l) (hn:∀sz els f ro,ob≠ .cells sz els f ro) (c4:∀sz els f ro,a2≠ .cells sz els f ro)
  (b3:w'={ w with heap:=w.heap.setIfInBounds l.blk o' }) (b8:w'.heap[l.blk]?=some o'→ObjAt m w' l a2):
  Fr m h w m (eP h b a2) w':=by
 rw [sE];refine Fr.upd k hb hl ?_ (fun _ _ h=>h) ?_ ?_ k.ord (fun sz els f ro e=>absurd e (c4 _ _ _ _)) (fun sz els f ro e=>absurd e (c4 _ _ _ _)) k.flt b3 b8
 ·cases ob<;>first|trivial|exact absurd rfl (hn _ _ _ _)
 ·intro x ox lx a1 hx a7 a6;have hs:=k.sep x b ox _ lx l hx hb a7 hl a1 a6;cases ob with
  |cells sz els f ro=>exact hn _ _ _ _ rfl
  |_=>cases ox<;>exact hs
 ·intro x y sz1 els1 f1 b9 sz2 els2 c7 hx hy a1;have a5:aB x h.mem=some (.cells sz1 els1 f1 b9):=by
   by_cases e:x=b
   ·subst e;rw [gN] at hx;cases hx;exact absurd rfl (c4 _ _ _ _)
   ·rwa [fG e] at hx
  have a9:aB y h.mem=some (.cells sz2 els2 f1 c7):=by
   by_cases e:y=b
   ·subst e;rw [gN] at hy;cases hy;exact absurd rfl (c4 _ _ _ _)
   ·rwa [fG e] at hy
  exact k.fam x y _ _ _ _ _ _ _ a5 a9 a1
def JD {α:Type} {v:V} {k} {d} {r:α} (h:tH v k d=r):(∃x0,v= .b x0∧k x0=r)∨((∀x0,v≠ .b x0)∧d=r):=by
 cases v<;>first|exact .inl ⟨_,rfl,h⟩|exact .inr ⟨by intros;simp,h⟩
def UD {α:Type} {v:V} {k} {r:α} (h:tH v k none=some r):∃x0,v= .b x0∧k x0=some r:=by
 rcases JD h with h|⟨_,h⟩
 ·exact h
 ·cases h
def UC {α:Type} {v:V} {k} {d} {r:α} (h:gZ v k d=r):(∃x0 x1,v= .i x0 x1∧k x0 x1=r)∨((∀x0 x1,v≠ .i x0 x1)∧d=r):=by
 cases v<;>first|exact .inl ⟨_,_,rfl,h⟩|exact .inr ⟨by intros;simp,h⟩
def oJ {α:Type} {v:V} {k} {r:α} (h:gZ v k none=some r):∃x0 x1,v= .i x0 x1∧k x0 x1=some r:=by
 rcases UC h with h|⟨_,h⟩
 ·exact h
 ·cases h
def JB {v:V} {k} {r:V} (h:gZ v k VH.bad=VH.ok r hh):∃x0 x1,v= .i x0 x1∧k x0 x1= .ok r hh:=by
 rcases UC h with h|⟨_,h⟩
 ·exact h
 ·cases h
def Ka {α:Type} {v:V} {k} {d} {r:α} (h:tF v k d=r):(∃x0 x1,v= .s x0 x1∧k x0 x1=r)∨((∀x0 x1,v≠ .s x0 x1)∧d=r):=by
 cases v<;>first|exact .inl ⟨_,_,rfl,h⟩|exact .inr ⟨by intros;simp,h⟩
def yK {α:Type} {v:V} {k} {r:α} (h:tF v k none=some r):∃x0 x1,v= .s x0 x1∧k x0 x1=some r:=by
 rcases Ka h with h|⟨_,h⟩
 ·exact h
 ·cases h
def IZ {α:Type} {v:V} {k} {d} {r:α} (h:iO v k d=r):(∃x0 x1,v= .p x0 x1∧k x0 x1=r)∨((∀x0 x1,v≠ .p x0 x1)∧d=r):=by
 cases v<;>first|exact .inl ⟨_,_,rfl,h⟩|exact .inr ⟨by intros;simp,h⟩
def tG {α:Type} {v:V} {k} {r:α} (h:iO v k none=some r):∃x0 x1,v= .p x0 x1∧k x0 x1=some r:=by
 rcases IZ h with h|⟨_,h⟩
 ·exact h
 ·cases h
def DJ {v:V} {k} {r:V} (h:iO v k VH.bad=VH.ok r hh):∃x0 x1,v= .p x0 x1∧k x0 x1= .ok r hh:=by
 rcases IZ h with h|⟨_,h⟩
 ·exact h
 ·cases h
def DH {α:Type} {v:V} {k} {d} {r:α} (h:vI v k d=r):(∃x0 x1 x2 x3,v= .sl x0 x1 x2 x3∧k x0 x1 x2 x3=r)∨((∀x0 x1 x2 x3,v≠ .sl x0 x1 x2 x3)∧d=r):=by
 cases v<;>first|exact .inl ⟨_,_,_,_,rfl,h⟩|exact .inr ⟨by intros;simp,h⟩
def Jy {α:Type} {v:V} {k} {r:α} (h:vI v k none=some r):∃x0 x1 x2 x3,v= .sl x0 x1 x2 x3∧k x0 x1 x2 x3=some r:=by
 rcases DH h with h|⟨_,h⟩
 ·exact h
 ·cases h
def Kf {α:Type} {v:V} {k} {d} {r:α} (h:JE v k d=r):(∃x0,v= .agg x0∧k x0=r)∨((∀x0,v≠ .agg x0)∧d=r):=by
 cases v<;>first|exact .inl ⟨_,rfl,h⟩|exact .inr ⟨by intros;simp,h⟩
def Ke {α:Type} {v:V} {k} {r:α} (h:JE v k none=some r):∃x0,v= .agg x0∧k x0=some r:=by
 rcases Kf h with h|⟨_,h⟩
 ·exact h
 ·cases h
def Jw {α:Type} {v:V} {k} {d} {r:α} (h:IX v k d=r):(∃x0,v= .tup x0∧k x0=r)∨((∀x0,v≠ .tup x0)∧d=r):=by
 cases v<;>first|exact .inl ⟨_,rfl,h⟩|exact .inr ⟨by intros;simp,h⟩
def Jv {α:Type} {v:V} {k} {r:α} (h:IX v k none=some r):∃x0,v= .tup x0∧k x0=some r:=by
 rcases Jw h with h|⟨_,h⟩
 ·exact h
 ·cases h
def JA {α:Type} {v:V} {k} {d} {r:α} (h:pS v k d=r):(∃x0,v= .mp x0∧k x0=r)∨((∀x0,v≠ .mp x0)∧d=r):=by
 cases v<;>first|exact .inl ⟨_,rfl,h⟩|exact .inr ⟨by intros;simp,h⟩
def yL {v:V} {k} {r:V} (h:pS v k VH.bad=VH.ok r hh):∃x0,v= .mp x0∧k x0= .ok r hh:=by
 rcases JA h with h|⟨_,h⟩
 ·exact h
 ·cases h
def Kd {α:Type} {v:V} {k} {d} {r:α} (h:JC v k d=r):(∃x0 x1 x2,v= .fn x0 x1 x2∧k x0 x1 x2=r)∨((∀x0 x1 x2,v≠ .fn x0 x1 x2)∧d=r):=by
 cases v<;>first|exact .inl ⟨_,_,_,rfl,h⟩|exact .inr ⟨by intros;simp,h⟩
def Kc {v:V} {k} {r:V} (h:JC v k VH.bad=VH.ok r hh):∃x0 x1 x2,v= .fn x0 x1 x2∧k x0 x1 x2= .ok r hh:=by
 rcases Kd h with h|⟨_,h⟩
 ·exact h
 ·cases h
def IY {α:Type} {v:V} {k} {d} {r:α} (h:yJ v k d=r):(v= .sn∧k=r)∨((v≠ .sn)∧d=r):=by
 cases v<;>first|exact .inl ⟨rfl,h⟩|exact .inr ⟨by simp,h⟩
def Jx {α:Type} {v:V} {k} {r:α} (h:yJ v k none=some r):v= .sn∧k=some r:=by
 rcases IY h with h|⟨_,h⟩
 ·exact h
 ·cases h
def Jz {α:Type} {v:V} {k} {d} {r:α} (h:DI v k d=r):(v= .se∧k=r)∨((v≠ .se)∧d=r):=by
 cases v<;>first|exact .inl ⟨rfl,h⟩|exact .inr ⟨by simp,h⟩
def UA {α:Type} {v:V} {k} {r:α} (h:DI v k none=some r):v= .se∧k=some r:=by
 rcases Jz h with h|⟨_,h⟩
 ·exact h
 ·cases h
def Kb {α:Type} {v:V} {k} {d} {r:α} (h:DK v k d=r):(v= .mn∧k=r)∨((v≠ .mn)∧d=r):=by
 cases v<;>first|exact .inl ⟨rfl,h⟩|exact .inr ⟨by simp,h⟩
def UB {α:Type} {v:V} {k} {r:α} (h:DK v k none=some r):v= .mn∧k=some r:=by
 rcases Kb h with h|⟨_,h⟩
 ·exact h
 ·cases h
def pH {α:Type} {x y r:α} (h:dZ b x y=r):(b=true∧x=r)∨(b=false∧y=r):=by
 cases b
 ·exact .inr ⟨rfl,h⟩
 ·exact .inl ⟨rfl,h⟩
def kL {x:Option V} {r:V} (h:dZ b x none=some r):b=true∧x=some r:=by
 rcases pH h with h|⟨_,h⟩
 ·exact h
 ·cases h
def HC {x:VH} {r:V} (h:dZ b x .bad= .ok r hh):b=true∧x= .ok r hh:=by
 rcases pH h with h|⟨_,h⟩
 ·exact h
 ·cases h
def DC:∀(n c:Nat),(dC n c).length=n
 |0,_=>rfl
 |n+1,c=>by simp [dC,DC n]
def SZ:∀(l:List Nat),(∀b∈l,b<256)→dC l.length (mS l)=l
 | [],_=>rfl
 |b::l,h=>by
  have hb:=h b (by simp);have e1:(b+256*mS l)%256=b:=by omega
  have e2:(b+256*mS l)/256=mS l:=by omega
  simp only [iE,dC,mS,e1,e2,SZ l (fun x hx=>h x (by simp [hx]))]
def SF:∀(l:List Nat),(∀b∈l,b<256)→mS l<256^l.length
 | [],_=>by simp [mS]
 |b::l,h=>by
  have hb:=h b (by simp);have:=SF l (fun x hx=>h x (by simp [hx]));simp only [mS,iE,eR];omega
def SW:∀(n c c':Nat),c<256^n→c'<256^n→dC n c=dC n c'→c=c'
 |0,c,c',h,h',_=>by simp at h h';omega
 |n+1,c,c',h,h',e=>by
  simp only [dC,jD] at e;have:=SW n (c/256) (c'/256) (by rw [eR] at h;omega) (by rw [eR] at h';omega) e.2;omega
def TC (s:ByteArray):∀b∈eH s,b<256:=by
 intro b hb;simp only [eH,dJ] at hb;obtain⟨x,_,rfl⟩:=hb;exact x.toNat_lt
def Is {t:ByteArray} (h:eH s=eH t):s=t:=by
 have:s.data.toList=t.data.toList:=by
  have hi:∀(l r:List UInt8),l.map UInt8.toNat=r.map UInt8.toNat→l=r:=by
   intro l
   induction l with
   |nil=>intro r h;cases r with|nil=>rfl|cons _ _=>simp at h
   | cons a l ih=>
    intro r h;cases r with
    |nil=>simp at h
    |cons b r=>
     simp only [gS,jD] at h;rw [DS.1 h.1,ih r h.2]
  exact hi _ _ h
 cases s;cases t;congr 1;exact lH.1 this
def R_str:R m (.s l c) u↔∃s,u= .string s∧eH s=dC l c∧c<256^l:=by
 simp only [R,eH]
def R_strOf (m:Mp) (s:ByteArray):R m (wJ (eH s)) (.string s):=by
 rw [wJ,R_str];exact⟨s,rfl,(SZ _ (TC s)).symm,SF _ (TC s)⟩
def Ir (s:ByteArray):(eH s).length=s.size:=by
 rw [eH,nJ,cZ];rfl
def wI (h:eH s=dC l c):s.size=l:=by
 rw [←Ir,h,DC]
def YQ:zN v=true↔dR v:=by cases v<;>simp [zN,dR]
mutual
theorem sV (m:Mp):∀v:Value,R m (cst v) v
 | .bool x=>by simp [cst,R]
 | .int k n=>by simp [cst,R]
 | .float ..=>by simp [cst,R]
 | .complex ..=>by simp [cst,R]
 | .string s=>by rw [cst];exact R_strOf m s
 | .pointer none=>by simp [cst,R]
 | .pointer (some _)=>by simp [cst,R]
 | .slice none 0 0=>by simp [cst,R]
 | .slice none (_+1) _=>by simp [cst,R]
 | .slice none 0 (_+1)=>by simp [cst,R]
 | .slice (some _) _ _=>by simp [cst,R]
 | .map none=>by simp [cst,R]
 | .map (some _)=>by simp [cst,R]
 | .chan _=>by simp [cst,R]
 | .func ..=>by simp [cst,R]
 | .nilFunc=>by simp [cst,R]
 | .iface ..=>by simp [cst,R]
 | .nilIface=>by simp [cst,R]
 | .agg ⟨l⟩=>by
  rw [cst];cases e:l.all zN with
  |true=>
   simp only [cQ,R];refine⟨l,rfl,IC m l,fun x hx=>YQ.1 (jI.1 e x hx)⟩
  |false=>simp [R]
 | .tuple ⟨l⟩=>by
  rw [cst];simp only [R];exact⟨l,rfl,IC m l⟩
theorem IC (m:Mp):∀l:Lv,Rl m (uX l) l
 | []=>by simp [uX,Rl]
 |v::l=>by simp only [uX,Rl];exact⟨v,l,rfl,sV m v,IC m l⟩
end
def DfrR (m:Mp):List V→List Deferred→Prop
 | [],ds=>ds= []
 | .fn g a c::l,ds=>∃a' c' r,ds={ target:=.fn g ⟨c'⟩,args:=⟨a'⟩ }::r∧Rl m a a'∧Rl m c c'∧DfrR m l r
 |_::_,_=>False
def DfrR.mono (h:m.le m'):∀{l:List V} {ds:List Deferred},DfrR m l ds→DfrR m' l ds
 | [],_,k=>k
 | .fn g a c::l,_,k=>by obtain⟨a',c',r,rfl,ha,hc,hr⟩:=k;exact⟨a',c',r,rfl,ha.mono h,hc.mono h,hr.mono h⟩
 | .top::_,_,k=>k.elim
 | .b _::_,_,k=>k.elim
 | .i _ _::_,_,k=>k.elim
 | .s _ _::_,_,k=>k.elim
 | .pn::_,_,k=>k.elim
 | .p _ _::_,_,k=>k.elim
 | .sn::_,_,k=>k.elim
 | .sl _ _ _ _::_,_,k=>k.elim
 | .se::_,_,k=>k.elim
 | .mn::_,_,k=>k.elim
 | .mp _::_,_,k=>k.elim
 | .nf::_,_,k=>k.elim
 | .ni::_,_,k=>k.elim
 | .agg _::_,_,k=>k.elim
 | .tup _::_,_,k=>k.elim
structure bL (m:Mp) (n:Nat) (e:Env) (a:Act):Prop where
 size:a.tmps.size=n
 le:n≤511
 val:∀t,t<n→R m (bR t e) (a.tmps.getD t undef)
 dfr:∃l,bR fW e= .tup l∧DfrR m l a.defers
def bL.mono (h:m.le m') {n:Nat} {e:Env} {a:Act} (k:bL m n e a):bL m' n e a:=
 ⟨k.size,k.le,fun t ht=>(k.val t ht).mono h,by obtain⟨l,h1,h2⟩:=k.dfr;exact⟨l,h1,h2.mono h⟩⟩
def bL.set {e:Env} (k:bL m n e a) {d:Nat} (hd:d<n) {v:V} {u:Value} (h:R m v u):bL m n (iX d v e) (a.put (some d) u):=by
 have a0:=k.le;refine⟨by simp [Act.put,k.size],k.le,fun t ht=>?_,?_⟩
 ·by_cases e':t=d
  ·subst e';rw [uU];simp [Act.put,oS,k.size,ht,h]
  ·rw [rA (by omega) (by omega) e'];have:=k.val t ht;simpa [Act.put,oS,mG,eZ e'] using this
 ·obtain⟨l,h1,h2⟩:=k.dfr;refine⟨l,?_,h2⟩;rw [rA (by decide) (by omega) (by show 511≠d;omega)];exact h1
def bL.put {e:Env} (k:bL m n e a) {d:Option Nat} (hd:∀x,d=some x→x<n) {v:V} {u:Value} (h:R m v u):
  bL m n (match d with|some x=>iX x v e|none=>e) (a.put d u):=by
 cases d with
 |none=>exact k
 |some x=>exact k.set (hd x rfl) h
def Gl (P:Program) (m:Mp):Prop:=∀g,g<P.globals.size→∃lim,m (nY g)=some ⟨g,0,lim⟩
def Gl.mono (h:m.le m') (k:Gl P m):Gl P m':=fun g hg=>by obtain⟨lim,hl⟩:=k g hg;exact⟨lim,h _ _ hl⟩
def cS (P:Program) (n:Nat):Operand→Bool
 | .tmp t=>decide (t<n)
 | .global g=>decide (g<P.globals.size)
 |_=>true
def cX {e:Env} (k:bL m n e a) (hg:Gl P m) {x:Operand} (hx:cS P n x=true):R m ((aF x).run e) (a.eval x):=by
 cases x with
 |tmp t=>exact k.val t (by simpa [cS] using hx)
 |const v=>exact sV m v
 |global g=>
  obtain⟨lim,hl⟩:=hg g (by simpa [cS] using hx);simp only [aF,Act.eval,R];exact⟨_,hl,rfl⟩
 |func f=>simp only [aF,Act.eval,R];exact⟨[],[],rfl,by simp [Rl],by simp [Rl]⟩
def uH {P:Program} {m:Mp} {n:Nat} {e:Env} {a:Act} (k:bL m n e a) (hg:Gl P m):∀{xs:List Operand},xs.all (cS P n)=true→Rl m ((oY xs).run e) (xs.map a.eval)
 | [],_=>by simp [oY,Rl]
 |x::xs,h=>by
  simp only [qB,aN] at h;simp only [oY,gS,Rl];exact⟨_,_,rfl,cX k hg h.1,uH k hg h.2⟩
section
variable {P:Program} {m:Mp} {w:Wo}
def oK (b o n:Nat):(⟨b,o,none⟩:Addr).add n=⟨b,o+n,none⟩:=by
 unfold Addr.add;split
 ·rename_i h;subst h;simp
 ·rfl
def bU (h:P.underlying t=some d):(underlying t).run P w= .ok d w:=by simp [underlying,h]
def sC (h:bM P t=some n):∃i,P.info? t=some i∧i.size=n:=by
 unfold bM at h;split at h
 ·rename_i i _ hi;cases h;exact⟨i,hi,rfl⟩
 ·cases h
def uC (h:bM P t=some n):∃d,P.underlying t=some d:=by
 unfold bM at h;split at h
 ·rename_i d _ _ hd _;exact⟨_,hd⟩
 ·cases h
def iK (h:bM P t=some n):(sizeOf t).run P w= .ok n w:=by
 obtain⟨i,hi,rfl⟩:=sC h;simp [sizeOf,typeInfo,hi]
def BV (h:P.underlying t=some d):(isAgg t).run P w= .ok (eV P t) w:=by
 simp only [isAgg,bF,bU h,cK,eV,h];cases d<;>rfl
def mH {z:V} (h:gC P t=some z):∃u,(zeroValue t).run P w= .ok u w∧z=cst u∧∃i,P.info? t=some i∧i.zero=some u:=by
 unfold gC at h;cases hi:P.info? t with
 |none=>simp [hi] at h
 | some i=>
  cases hz:i.zero with
  |none=>simp [hi,hz] at h
  |some u=>
   simp [hi,hz] at h;exact⟨u,by simp [zeroValue,typeInfo,hi,hz],h.symm,i,rfl,hz⟩
def uZ {l:Loc} (h:w.heap[l.blk]?=some (.cells C t fz)) (o:Nat):w.cell? ⟨l.blk,o,none⟩=C[o]?:=by
 simp [World.cell?,h]
def sL (l:List V) (i:Nat):lP l i=l[i]?:=by
 induction l generalizing i with
 |nil=>rfl
 |cons a l ih=>cases i with
  |zero=>rfl
  |succ i=>simpa [lP] using ih i
def wY (l:List (List V)) (i:Nat):mM l i=l[i]?:=by
 induction l generalizing i with
 |nil=>rfl
 |cons a l ih=>cases i with
  |zero=>rfl
  |succ i=>simpa [mM] using ih i
def EN:∀(n:Nat) (l r:List V),jK n l=some r→n≤l.length∧r=l.take n
 |0,l,r,h=>by
  have:[]=r:=aL h;subst this;simp
 |n+1,[],r,h=>by cases h
 | n+1,a::l,r,h=>by
  have:jK (n+1) (a::l)=Option.rec (motive:=fun _=>Option (List V)) none (fun x=>some (a::x)) (jK n l):=rfl;rw [this] at h;cases e:jK n l with
  |none=>rw [e] at h;cases h
  |some x=>
   rw [e] at h;cases h;obtain⟨h1,rfl⟩:=EN n l x e;exact⟨by simp;omega,by simp⟩
def iY:∀(n:Nat) (l:List V),eD n l=l.drop n
 |0,l=>rfl
 |n+1,[]=>rfl
 |n+1,a::l=>by
  have:eD (n+1) (a::l)=eD n l:=rfl;rw [this,iY n l];rfl
def kK (l:List V):eF l=l.length:=by
 induction l with
 |nil=>rfl
 |cons a l ih=>show Nat.succ (eF l)=_;rw [ih];rfl
def xJ (l:List (List V)):pG l=l.length:=by
 induction l with
 |nil=>rfl
 |cons a l ih=>show Nat.succ (pG l)=_;rw [ih];rfl
def UG (a b:List V):appV a b=a++b:=by
 induction a with
 |nil=>rfl
 |cons x a ih=>show x::appV a b=_;rw [ih];rfl
def Km (a b:List (List V)):appL a b=a++b:=by
 induction a with
 |nil=>rfl
 |cons x a ih=>show x::appL a b=_;rw [ih];rfl
def flat_get {sz:Nat}:∀{els:List (List V)} (h:∀el∈els,el.length=sz) {q:Nat} {el:List V},els[q]?=some el→∀(i:Nat),i<sz→els.flatten[q*sz+i]?=el[i]?
 | [],_,q,el,hq,i,hi=>by simp at hq
 |x::els,h,0,el,hq,i,hi=>by
  simp at hq;subst hq;have:=h x (by simp);simp [List.getElem?_append,this,hi]
 |x::els,h,q+1,el,hq,i,hi=>by
  simp at hq;have hx:=h x (by simp);have:=flat_get (fun el he=>h el (by simp [he])) hq i hi;simp only [jW];rw [eO (by rw [hx,iC];omega),hx,←this];congr 1;rw [iC];omega
def flat_len {sz:Nat}:∀{els:List (List V)},(∀el∈els,el.length=sz)→els.flatten.length=els.length*sz
 | [],_=>by simp
 |x::els,h=>by
  have:=flat_len (els:=els) (fun el he=>h el (by simp [he]));simp only [jW,aI,h x (by simp),this,iE,iC];omega
def ZZ {h:H} (k:HR m h w) {b:Id} {o n:Nat} {xs:List V} (hr:rd h b o n=some xs):
  ∃l us,m b=some l∧xs.length=n∧Rl m xs us∧(∀x∈us,dR x)∧∀(j:Nat) v,us[j]?=some v→w.cell? ⟨l.blk,l.base+o+j,none⟩=some v:=by
 unfold rd at hr;cases hb:aB b h.mem with
 |none=>rw [hb] at hr;cases hr
 | some ob=>
  rw [hb] at hr;cases ob with
  |map _ _=>cases hr
  |miter _ _ _ _=>cases hr
  | cells sz els f ro=>
   obtain⟨l,hl,C,t,fz,hc⟩:=k.obj _ _ hb;have a1:(Option.rec (motive:=fun _=>Option (List V)) none (fun el=>Bool.rec (motive:=fun _=>Option (List V)) (jK n (eD (Nat.mod o sz) el)) (some el) (Nat.beq (Nat.mod o sz) 0&&Nat.beq n sz)) (mM els (Nat.div o sz)):Option (List V))=some xs:=hr;rw [wY] at a1;cases he:els[Nat.div o sz]? with
   |none=>rw [he] at a1;cases a1
   | some el=>
    rw [he] at a1;have a2:=hc.each el (aP he);have hx:(∀j,j<n→o%sz+j<sz)∧n≤(el.drop (o%sz)).length∧xs=(el.drop (o%sz)).take n:=by
     cases ht:(Nat.beq (Nat.mod o sz) 0&&Nat.beq n sz) with
     |false=>
      have a3:jK n (eD (Nat.mod o sz) el)=some xs:=by simpa [ht] using a1
      rw [iY] at a3;obtain⟨h1,rfl⟩:=EN _ _ _ a3;refine⟨fun j hj=>?_,h1,rfl⟩;have a5:n≤(el.drop (o%sz)).length:=h1;rw [dK,a2] at a5;omega
     |true=>
      have a3:el=xs:=by simpa [ht] using a1
      simp only [aN] at ht;have h1:o%sz=0:=bE ht.1;have h2:n=sz:=bE ht.2;subst a3;subst h2;rw [h1];exact⟨fun j hj=>by omega,by simp [a2],by rw [bD,eS (by omega)]⟩
    obtain⟨hn,hn2,rfl⟩:=hx;have a4:((el.drop (o%sz)).take n).length=n:=by rw [bJ];omega
    have a0:∀j,j<n→∃v u,((el.drop (o%sz)).take n)[j]?=some v∧C[l.base+o+j]?=some u∧R m v u∧dR u:=by
     intro j hj;have a6:o%sz+j<sz:=hn j hj;have hv:∃v,el[o%sz+j]?=some v:=⟨el[o%sz+j]'(by omega),aZ (by omega)⟩;obtain⟨v,hv⟩:=hv;have hf:=flat_get hc.each he (o%sz+j) a6;rw [hv] at hf;obtain⟨u,hu,hR,hs⟩:=hc.val _ _ hf;have hi:Nat.div o sz*sz+(o%sz+j)=o+j:=by
      have:=lG o sz;rw [bZ] at this;show o/sz*sz+(o%sz+j)=o+j;omega
     rw [hi] at hu;refine⟨v,u,?_,by rw [←hu];congr 1;omega,hR,hs⟩;rw [iQ hj,kR,hv]
    refine⟨l,(List.range n).map (fun j=>(C[l.base+o+j]?).getD undef),hl,a4,?_,?_,?_⟩
    ·refine Rl.mk (by simp [a4]) ?_;intro j v u hv hu;have hj:j<n:=by
      have:=(aO.1 hv).1;omega
     obtain⟨v',u',hv',hu',hR,_⟩:=a0 j hj;rw [hv] at hv';cases hv';simp only [iJ,EC hj,tL,cI] at hu;rw [hu'] at hu;subst hu;exact hR
    ·intro x hx;simp only [dJ,JY] at hx;obtain⟨j,hj,rfl⟩:=hx;obtain⟨v',u',_,hu',_,hs⟩:=a0 j hj;rw [hu'];exact hs
    ·intro j v hv;have hj:j<n:=by
      have:=(aO.1 hv).1;simpa using this
     obtain⟨v',u',_,hu',_,_⟩:=a0 j hj;simp only [iJ,EC hj,tL,cI] at hv;rw [hu'] at hv;simp at hv;subst hv;rw [uZ hc.at_,hu']
end
section
variable {P:Program} {m:Mp} {w:Wo}
def JI {x:Option (List V)} {r:V} (h:mY x=some r):∃l,x=some l∧r= .agg l:=by
 cases x with
 |none=>cases h
 |some l=>cases h;exact⟨l,rfl,rfl⟩
def DL {v:V} {k:Nat→Option V} {r:V} (h:asN v k=some r):∃kk n,v= .i kk (.ofNat n)∧k n=some r:=by
 obtain⟨kk,n,rfl,h⟩:=oJ h;cases n with
 |ofNat n=>exact⟨kk,n,rfl,h⟩
 |negSucc n=>cases h
def GF:∀(l:List Field) (i:Nat),sM l i=l[i]?
 | [],i=>by cases i<;>rfl
 |a::l,0=>rfl
 |a::l,i+1=>by rw [sM,GF l i];rfl
def oL {l:List V} (h:R m (.agg l) u):∃l',u= .agg ⟨l'⟩∧Rl m l l'∧∀x∈l',dR x:=by simpa only [R] using h
def sI {l:List V} {l':Lv} {v:V} (hu:P.underlying t=some d) (hn:bM P t=some n) (hl:Rl m l l') (hs:∀x∈l',dR x)
  (hv:lM (eV P t) off n l=some v):∃u,(part t ⟨l'⟩ off).run P w= .ok u w∧R m v u:=by
 unfold lM at hv;rcases pH hv with⟨ha,hv⟩|⟨ha,hv⟩
 ·obtain⟨x,hx,rfl⟩:=JI hv;rw [iY] at hx;obtain⟨a5,rfl⟩:=EN _ _ _ hx;refine⟨.agg ((⟨l'⟩:Array Value).extract off (off+n)),?_,?_⟩
  ·simp only [part,bF,BV hu,cK,ha,if_true,iK hn,cH]
  ·simp only [R];refine⟨(l'.drop off).take n,?_,(hl.drop off).take n,fun x hx=>hs x (yY (jV hx))⟩;congr 1;apply lH.1;simp [List.extract_eq_take_drop]
 ·rw [sL] at hv;obtain⟨u,hu',hR⟩:=hl.get hv;refine⟨u,?_,hR⟩;have:(⟨l'⟩:Array Value)[off]?=some u:=by simpa using hu'
  simp [part,BV hu,ha,this]
def OU {h:H} (k:HR m h w) {t:TypeId} {d:TypeDesc} {n:Nat} {x:V} {u:Value} {v:V} (hd:P.underlying t=some d) (hn:bM P t=some n) (hx:R m x u)
  (hv:iO x (fun b o=>dZ (eV P t) (mY (rd h b o n)) (rd1 h b o)) none=some v):∃u',(Instr.loadAt t u).run P w= .ok u' w∧R m v u':=by
 obtain⟨b,o,rfl,hv⟩:=tG hv;simp only [R] at hx;obtain⟨l,hl,rfl⟩:=hx;rcases pH hv with⟨ha,hv⟩|⟨ha,hv⟩
 ·obtain⟨xs,hxs,rfl⟩:=JI hv;obtain⟨l2,us,hl2,a0,hR,hs,hc⟩:=ZZ k hxs;rw [hl] at hl2;cases hl2;refine⟨.agg ⟨us⟩,?_,by simp only [R];exact⟨us,rfl,hR,hs⟩⟩;have a2:(loadCells ⟨l.blk,l.base+o,none⟩ n).run P w= .ok ⟨us⟩ w:=by
   have:=UN (P:=P) (w:=w) ⟨l.blk,l.base+o,none⟩ us (fun j v hv=>by rw [oK];exact hc j v hv);rw [←a0,←hR.length];simpa using this
  simp [Instr.loadAt,Instr.sureAddr,loadVar,BV hd,ha,iK hn,a2]
 ·have hc:∃u',w.cell? ⟨l.blk,l.base+o,none⟩=some u'∧R m v u':=by
   unfold rd1 at hv;cases hb:aB b h.mem with
   |none=>rw [hb] at hv;cases hv
   | some ob=>
    rw [hb] at hv;cases ob with
    |map _ _=>cases hv
    |miter _ _ _ _=>cases hv
    | cells sz els f ro=>
     have a1:(Option.rec (motive:=fun _=>Option V) none (fun el=>lP el (Nat.mod o sz)) (mM els (Nat.div o sz)):Option V)=some v:=hv;rw [wY] at a1;cases he:els[Nat.div o sz]? with
     |none=>rw [he] at a1;cases a1
     | some el=>
      rw [he] at a1;have a3:lP el (o%sz)=some v:=a1;rw [sL] at a3;obtain⟨l2,hl2,C,t2,fz,hcs⟩:=k.obj _ _ hb;rw [hl] at hl2;cases hl2;have a6:=(aO.1 a3).1;have a0:=hcs.each el (aP he);have hf:=flat_get hcs.each he (o%sz) (by omega);rw [a3] at hf;obtain⟨u',hu',hR,_⟩:=hcs.val _ _ hf;have hi:Nat.div o sz*sz+o%sz=o:=by
       have:=lG o sz;rw [bZ] at this;exact this
      rw [hi] at hu';exact⟨u',by rw [uZ hcs.at_,hu'],hR⟩
  obtain⟨u',hu',hR⟩:=hc;exact⟨u',by simp [Instr.loadAt,Instr.sureAddr,loadVar,BV hd,ha,hu'],hR⟩
def KN (k:IntKind) (n:Int):zG k n=k.wrap n:=by
 cases n with
 |negSucc m=>rfl
 | ofNat m=>
  show(Bool.rec (motive:=fun _=>Int) (k.wrap (.ofNat m)) (.ofNat m) (Nat.ble m (thr k)):Int)=_;cases e:Nat.ble m (thr k) with
  |false=>rfl
  |true=>
   have hm:=cN e;symm;cases k<;>simp only [thr] at hm<;>simp only [IntKind.wrap,IntKind.bits,IntKind.signed]<;>simp<;>omega
def BS (j k:IntKind):kEq j k=true↔j=k:=by cases j<;>cases k<;>simp [kEq]
def CD (a b:Int):iLt a b=decide (a<b):=by
 cases a with
 | ofNat x=>cases b with
  |ofNat y=>
   show Nat.ble (Nat.succ x) y=_;rw [iS];simp [Nat.ble_eq];omega
  |negSucc y=>show false=_;symm;simp;omega
 | negSucc x=>cases b with
  |ofNat y=>show true=_;symm;simp;omega
  |negSucc y=>
   show Nat.ble (Nat.succ y) x=_;rw [iS];simp [Nat.ble_eq];omega
def QA (a b:Int):iEq a b=(a==b):=by
 cases a with
 |ofNat x=>cases b with
  |ofNat y=>show Nat.beq x y=_;rw [iS];simp [EA];omega
  |negSucc y=>show false=_;symm;simp
 |negSucc x=>cases b with
  |ofNat y=>show false=_;symm;simp
  |negSucc y=>show Nat.beq x y=_;rw [iS];simp [EA]
def Em (a b:Int):iAdd a b=a+b:=by
 cases a with
 |ofNat x=>cases b with
  |ofNat y=>rfl
  |negSucc y=>rfl
 |negSucc x=>rfl
def Ek (a b:Int):iSub a b=a-b:=by
 cases a with
 | ofNat x=>cases b with
  | ofNat y=>
   show(Bool.rec (motive:=fun _=>Int) (Int.sub (.ofNat x) (.ofNat y)) (.ofNat (Nat.sub x y)) (Nat.ble y x):Int)=_;cases e:Nat.ble y x with
   |false=>rfl
   |true=>
    have:=cN e;show Int.ofNat (x-y)=Int.ofNat x-Int.ofNat y;simp;omega
  |negSucc y=>rfl
 |negSucc x=>rfl
def Dz {a b:Int} {v:V} (t:TypeId) (a4:op≠ .shl∧op≠ .shr) (h:(BX op).run k a b=some v):
  ∃u,(binOp op t (.int k a) (.int k b)).run P w= .ok u w∧R m v u:=by
 obtain⟨h1,h2⟩:=a4;cases op<;>simp only [BX] at h<;>first
  |exact absurd rfl h1
  |exact absurd rfl h2
  |(cases h;done)
  |skip
 all_goals
  cases h;refine⟨_,by simp only [binOp,ne_eq,UQ,fN,Op.intArith,Op.intBits,Op.intCmp,cH];rfl,?_⟩;simp only [R,KN,Em,Ek,QA,CD]
 all_goals first
  |rfl
  |(congr 1;rw [iS];simp;done)
  |(congr 1;rw [iS];simp;omega)
  |(simp;done)
end
section
variable {P:Program} {m:Mp} {w:Wo}
def OO:∀(l r:List UInt8),l.map UInt8.toNat=r.map UInt8.toNat→l=r
 | [],r,h=>by cases r with|nil=>rfl|cons _ _=>simp at h
 |a::l,[],h=>by simp at h
 |a::l,b::r,h=>by
  simp only [gS,jD] at h;rw [DS.1 h.1,OO l r h.2]
def EU {t:ByteArray} (h:eH s=dC l c) (hc:c<256^l) (h':eH t=dC l' c') (a0:c'<256^l'):sEq l c l' c'=(s.toList==t.toList):=by
 rw [mD,mD,iS];simp only [sEq,aN,EA,rI];constructor
 ·rintro⟨rfl,rfl⟩;exact OO _ _ (h.trans h'.symm)
 ·intro e;have hb:eH s=eH t:=by unfold eH;rw [e]
  have hl:l=l':=by rw [←DC l c,←h,hb,h',DC]
  subst hl;exact⟨rfl,SW _ _ _ hc a0 (by rw [←h,hb,h'])⟩
def OR:∀(x y:List UInt8),ltB (x.map UInt8.toNat) (y.map UInt8.toNat)=Op.bytesLess x y
 |x,[]=>by cases x<;>rfl
 | [],_::_=>rfl
 | a::x,b::y=>by
  simp only [gS,ltB,Op.bytesLess,OR x y];have e1:Nat.blt a.toNat b.toNat=decide (a<b):=by
   rw [iS];simp [Nat.blt,Nat.ble_eq,Ku];omega
  have e2:Nat.beq a.toNat b.toNat=(a==b):=by
   rw [iS];simp [EA,DS]
  rw [e1,e2];cases decide (a<b)<;>cases (a==b)<;>simp
def Dg {t:ByteArray} (h:eH s=dC l c) (h':eH t=dC l' c'):ltB (dC l c) (dC l' c')=Op.bytesLess s.toList t.toList:=by
 rw [mD,mD,←h,←h'];exact OR _ _
def TB:∀(l c l' c':Nat),c<256^l→dC l c++dC l' c'=dC (l+l') (c+c'*256^l)
 |0,c,l',c',h=>by simp at h;subst h;simp [dC]
 | l+1,c,l',c',h=>by
  have a1:c/256<256^l:=by rw [eR] at h;omega
  have e1:(c+c'*256^(l+1))%256=c%256:=by
   rw [eR,←dM,Lg]
  have e2:(c+c'*256^(l+1))/256=c/256+c'*256^l:=by
   rw [eR,←dM,Nat.add_mul_div_right _ _ (by decide)]
  have e3:l+1+l'=(l+l')+1:=by omega
  rw [e3];simp only [dC,qA,e1,e2,TB l (c/256) l' c' a1]
def Hn (h:c<256^l) (h':c'<256^l'):c+c'*256^l<256^(l+l'):=by
 have:(c'+1)*256^l≤256^l'*256^l:=fE _ h';rw [DX,bZ (256^l)];rw [iC] at this;omega
def LY (c l:Nat):c<<<(8*l)=c*256^l:=by
 rw [yT,tN]
def LW (c l:Nat):c>>>(8*l)=c/256^l:=by
 rw [Nat.shiftRight_eq_div_pow,tN]
def SX:∀(l c i:Nat),i<l→(dC l c)[i]?=some (c/256^i%256)
 |0,c,i,h=>by omega
 |l+1,c,0,h=>by simp [dC]
 |l+1,c,i+1,h=>by
  simp only [dC,List.getElem?_cons_succ];rw [SX l (c/256) i (by omega),Lc,eR,bZ 256]
def SY:∀(k l c:Nat),(dC l c).drop k=dC (l-k) (c/256^k)
 |0,l,c=>by simp
 |k+1,0,c=>by simp [dC]
 |k+1,l+1,c=>by
  simp only [dC,aW];rw [SY k l (c/256),Lc,eR,bZ 256];congr 1;omega
def SV:∀(k l c:Nat),k≤l→(dC l c).take k=dC k (c%256^k)
 |0,l,c,h=>by simp [dC]
 |k+1,0,c,h=>by omega
 | k+1,l+1,c,h=>by
  have e1:c%256^(k+1)%256=c%256:=by
   rw [eR,bZ];exact Nat.mod_mul_right_mod _ _ _
  have e2:c%256^(k+1)/256=c/256%256^k:=by
   rw [eR,bZ];exact Nat.mod_mul_right_div_self _ _ _
  simp only [dC,aX,e1,e2,SV k l (c/256) (by omega)]
def Iu (s t:ByteArray):eH (s++t)=eH s++eH t:=by
 simp [eH,ByteArray.data_append]
def It (s:ByteArray) (i j:Nat):eH (s.extract i j)=((eH s).drop i).take (j-i):=by
 obtain⟨⟨l⟩⟩:=s;have:=ByteArray.extract_mk l i j;rw [show(ByteArray.mk ⟨l⟩).extract i j=(ByteArray.mk l.toArray).extract i j from rfl,this];simp [eH,List.map_take,List.map_drop]
def XU {x y:Value} {v:V} (t:TypeId) (hx:R m (.s l c) x) (hy:R m (.s l' c') y) (h:(EQ op).run l c l' c'=some v):
  ∃u,(binOp op t x y).run P w= .ok u w∧R m v u:=by
 rw [R_str] at hx hy;obtain⟨s,rfl,hs,hc⟩:=hx;obtain⟨s',rfl,hs',a0⟩:=hy;have he:=EU hs hc hs' a0;cases op<;>simp only [EQ] at h<;>(try (cases h;done))
 case add=>
  cases e:Nat.ble (l+l') 1000000000 with
  |false=>rw [e] at h;cases h
  |true=>
   rw [e] at h;cases h;have a4:=cN e;have h1:=wI hs;have h2:=wI hs';refine⟨.string (s++s'),by rw [binOp_string_add,run_string_add_sum];omega,?_⟩;rw [R_str];refine⟨s++s',rfl,?_,?_⟩
   ·rw [Iu,hs,hs',TB _ _ _ _ hc,LY]
   ·rw [LY];exact Hn hc a0
 all_goals
  cases h;refine⟨_,by simp only [binOp,Op.stringOp,cH];rfl,?_⟩;simp only [R,he]
def Ea (h:eH s=dC l c) (hi:i<l):∃b:UInt8,s[i]?=some b∧b.toNat=(c>>>(8*i))%256:=by
 have a2:=wI h;have hg:=SX l c i hi;rw [←h] at hg;simp only [eH,iJ,rL] at hg;obtain⟨b,hb,hb2⟩:=hg;refine⟨b,?_,by rw [LW];exact hb2⟩;rw [ByteArray.getElem?_lt' s i (by omega)];rw [←hb];have:i<s.data.toList.length:=by rw [cZ];exact(by rw [a2];exact hi:i<s.size)
 rw [aZ this];rfl
def YC {j:Nat} (h:eH s=dC l c) (a3:i≤j) (hj:j≤l):R m (.s (j-i) ((c>>>(8*i))%2^(8*(j-i)))) (.string (s.extract i j)):=by
 rw [R_str];refine⟨_,rfl,?_,?_⟩
 ·rw [It,h,SY,SV _ _ _ (by omega),LW,tN]
 ·rw [tN];exact mB _ (kQ (by decide))
end
section
variable {P:Program} {m:Mp} {w:Wo}
def wV (agg:Bool) (n off:Nat) (l:List V):oX agg n (eD off l)=lM agg off n l:=by
 unfold oX lM;rw [iY,sL,sL,kR,iI];cases agg with
 |true=>
  show _=mY _;unfold mY;cases jK n (l.drop off)<;>rfl
 |false=>rfl
def QZ {h:H} {b f:Id} (hf:uR h b=some f):∃sz els ty,aB b h.mem=some (.cells sz els f (.rw ty))∧sz≠1:=by
 unfold uR at hf;split at hf
 ·rename_i sz els f' ty hb;cases e:Nat.beq sz 1 with
  |true=>rw [e] at hf;cases hf
  |false=>
   rw [e] at hf;cases hf;exact⟨sz,els,ty,hb,fun h1=>by subst h1;simp at e⟩
 ·cases hf
def YV {a b:Addr} (a7:a.block≠b.block)
  (ha:w.heap[a.block]?=some (.cells C t fz)) (hb:w.heap[b.block]?=some (.cells C' t' fz')) (hz:fz.1=fz.2) (a4:fz'.1=fz'.2):
  (sameAddr a b).run P w= .ok false w:=by
 have fa:∀o,w.frozen? ⟨a.block,o,none⟩=false:=by intro o;simp [World.frozen?,ha,hz]
 have fb:∀o,w.frozen? ⟨b.block,o,none⟩=false:=by intro o;simp [World.frozen?,hb,a4]
 have b0:w.frozen? a=false:=by simp [World.frozen?,ha,hz]
 have b1:w.frozen? b=false:=by simp [World.frozen?,hb,a4]
 have sa:w.shape? a.block=some (t,C.size):=by simp [World.shape?,ha]
 have sb:w.shape? b.block=some (t',C'.size):=by simp [World.shape?,hb]
 have a8:(a.block==b.block)=false:=by simpa using a7
 simp [sameAddr,a8,b0,noView,viewAt,sa,sb,mayBeOne,stringish,fa,fb,b1]
def RH {h:H} (k:HR m h w) {q:TypeId→EqT} {D:Nat}
  (hq:∀t x y ux uy r,R m x ux→R m y uy→(q t).run h x y=some r→(Op.equalIn D t ux uy).run P w= .ok r w):
  ∀(fs:List Field) {xs ys:List V} {xs' a3:Lv} {r:Bool},Rl m xs xs'→Rl m ys a3→(∀x∈xs',dR x)→(∀x∈a3,dR x)→
   (uT P q fs).run h (.agg xs) (.agg ys)=some r→(Op.eqFields D ⟨xs'⟩ ⟨a3⟩ fs).run P w= .ok r w
 | [],xs,ys,xs',a3,r,_,_,_,_,he=>by
  have:true=r:=aL he;subst this;simp [Op.eqFields]
 | f :: fs,xs,ys,xs',a3,r,hx,hy,sx,sy,he=>by
  unfold uT at he;split at he
  ·cases he
  ·rename_i a1;cases hs:bM P f.type with
   |none=>rw [hs] at he;cases he
   | some n=>
    rw [hs] at he;simp only [wV] at he;cases ha:lM (eV P f.type) f.offset n xs with
    |none=>rw [ha] at he;cases he
    | some a=>
     cases hb:lM (eV P f.type) f.offset n ys with
     |none=>rw [ha,hb] at he;cases he
     | some b=>
      rw [ha,hb] at he;obtain⟨d,hd⟩:=uC hs;obtain⟨ua,hua,ra⟩:=sI (w:=w) hd hs hx sx ha;obtain⟨ub,hub,rb⟩:=sI (w:=w) hd hs hy sy hb;simp only at he;cases hqr:(q f.type).run h a b with
      |none=>rw [hqr] at he;cases he
      | some r0=>
       rw [hqr] at he;have a2:=hq f.type a b ua ub r0 ra rb hqr;cases r0 with
       |false=>
        have:false=r:=aL he;subst this;simp [Op.eqFields,a1,hua,hub,a2]
       |true=>
        have ih:=RH k hq fs hx hy sx sy he;simp [Op.eqFields,a1,hua,hub,a2,ih]
def qZ (d:Nat) (el:TypeId) (n:Nat) (xs ys:Array Value):List Nat→Sem Bool
 | []=>pure true
 |i::is=>do
  let a←part el xs (i*n)
  let b←part el ys (i*n)
  let r←Op.equalIn d el a b
  if(!r)=true then pure false else qZ d el n xs ys is
def YX (d:Nat) (t:TypeId) (len:Nat) (el:TypeId) (n:Nat) (xs ys:Array Value) (ht:P.underlying t=some (.array len el)) (hn:bM P el=some n):
  (Op.equalIn (d+1) t (.agg xs) (.agg ys)).run P w=(qZ d el n xs ys (List.range' 0 len)).run P w:=by
 simp only [Op.equalIn,bF,bU ht,cK,iK hn,Kv,Std.Legacy.Range.size,DV,Lf,JR];generalize List.range' 0 len=is;clear ht hn
 induction is generalizing w with
 |nil=>simp [qZ]
 | cons i is ih=>
  simp only [WF,qZ,bF,yQ];generalize (part el xs (i*n)).run P w=r1;cases r1 with
  | ok a w1=>
   simp only [cK];generalize (part el ys (i*n)).run P w1=r2;cases r2 with
   | ok b w2=>
    simp only [cK];generalize (Op.equalIn d el a b).run P w2=r3;cases r3 with
    | ok r w3=>
     cases r
     ·simp only [cK,Bool.not_false,if_true,cH]
     ·simp only [cK,tX,dX,fN,cH];exact ih (w:=w3)
    |halt x w3=>simp [Result.andThen]
   |halt x w2=>simp [Result.andThen]
  |halt x w1=>simp [Result.andThen]
def RJ {h:H} (k:HR m h w) {q:EqT} {D:Nat} {el:TypeId} {n:Nat} {d:TypeDesc} (hd:P.underlying el=some d) (hn:bM P el=some n)
  (hq:∀x y ux uy r,R m x ux→R m y uy→q.run h x y=some r→(Op.equalIn D el ux uy).run P w= .ok r w)
  {X Y:List V} {X' Y':Lv} (hX:Rl m X X') (hY:Rl m Y Y') (sX:∀x∈X',dR x) (sY:∀x∈Y',dR x):
  ∀(c i:Nat) {r:Bool},eqAs q (eV P el) n c (eD (i*n) X) (eD (i*n) Y) h=some r→(qZ D el n ⟨X'⟩ ⟨Y'⟩ (List.range' i c)).run P w= .ok r w
 |0,i,r,he=>by
  have:true=r:=aL he;subst this;simp [qZ]
 | c + 1,i,r,he=>by
  unfold eqAs at he;simp only [wV] at he;have e0:∀l:List V,oX (eV P el) n (eD (i*n) l)=lM (eV P el) (i*n) n l:=fun l=>wV _ _ _ _
  cases ha:lM (eV P el) (i*n) n X with
  |none=>rw [ha] at he;cases he
  | some a=>
   cases hb:lM (eV P el) (i*n) n Y with
   |none=>rw [ha,hb] at he;cases he
   | some b=>
    rw [ha,hb] at he;simp only at he;obtain⟨ua,hua,ra⟩:=sI (w:=w) hd hn hX sX ha;obtain⟨ub,hub,rb⟩:=sI (w:=w) hd hn hY sY hb;cases hqr:q.run h a b with
    |none=>rw [hqr] at he;cases he
    | some r0=>
     rw [hqr] at he;have a2:=hq a b ua ub r0 ra rb hqr;cases r0 with
     |false=>
      have:false=r:=aL he;subst this;simp [vQ,qZ,hua,hub,a2]
     | true=>
      have e1:eD n (eD (i*n) X)=eD ((i+1)*n) X:=by
       rw [iY,iY,iY,zB];congr 1;rw [iC]
      have e2:eD n (eD (i*n) Y)=eD ((i+1)*n) Y:=by
       rw [iY,iY,iY,zB];congr 1;rw [iC]
      simp only [e1,e2] at he;have ih:=RJ k hd hn hq hX hY sX sY c (i+1) he;simp [vQ,qZ,hua,hub,a2,ih]
def HU {h:H} (k:HR m h w):∀(d:Nat) (t:TypeId) (D:Nat),d≤D→∀x y ux uy r,R m x ux→R m y uy→(eqT P d t).run h x y=some r→(Op.equalIn D t ux uy).run P w= .ok r w
 |0,t,D,_,x,y,ux,uy,r,_,_,he=>by cases he
 |d+1,t,0,hD,_,_,_,_,_,_,_,_=>by omega
 | d +1,t,D+1,hD,x,y,ux,uy,r,hx,hy,he=>by
  have ih:=HU k d;unfold eqT at he;cases hu:P.underlying t with
  |none=>rw [hu] at he;cases he
  | some ds=>
   rw [hu] at he;cases ds<;>simp only at he<;>(try (cases he;done))
   case bool=>
    split at he
    ·cases he;simp only [R] at hx hy;subst hx;subst hy;simp [Op.equalIn,bU hu]
    ·cases he
   case int kk=>
    split at he
    ·rename_i k1 a k2 b;cases e:kEq k1 k2 with
     |false=>rw [e] at he;cases he
     |true=>
      rw [e] at he;cases he;have:=(BS _ _).1 e;subst this;simp only [R] at hx hy;subst hx;subst hy;simp [Op.equalIn,bU hu,QA]
    ·cases he
   case string=>
    split at he
    ·cases he;rw [R_str] at hx hy;obtain⟨s,rfl,hs,hc⟩:=hx;obtain⟨s',rfl,hs',hc'⟩:=hy;rw [EU hs hc hs' hc'];exact UO w D t s s' hu
    ·cases he
   case pointer e=>
    have a0:∀r,(match x,y with| .pn,.pn=>some true| .pn,.p _ _=>some false| .p _ _,.pn=>some false|_,_=>(none:Option Bool))=some r→(Op.equalIn (D+1) t ux uy).run P w= .ok r w:=by
     intro r he;split at he
     ·cases he;simp only [R] at hx hy;subst hx;subst hy;simp [Op.equalIn,bU hu]
     ·cases he;simp only [R] at hx hy;obtain⟨l,_,rfl⟩:=hy;subst hx;simp [Op.equalIn,bU hu]
     ·cases he;simp only [R] at hx hy;obtain⟨l,_,rfl⟩:=hx;subst hy;simp [Op.equalIn,bU hu]
     ·cases he
    cases hs:bM P e with
    |none=>rw [hs] at he;exact a0 r he
    | some n=>
     cases n with
     |zero=>rw [hs] at he;exact a0 r he
     | succ n=>
      rw [hs] at he;simp only at he;split at he
      ·exact a0 r (by simpa using he)
      ·exact a0 r (by simpa using he)
      ·exact a0 r (by simpa using he)
      ·rename_i b o b' o';simp only [R] at hx hy;obtain⟨l,hl,rfl⟩:=hx;obtain⟨l',hl',rfl⟩:=hy;cases eb:Id.beq b b' with
       | true=>
        rw [eb] at he;simp only [cQ,cI] at he;subst he;have:=Id.beq_iff.1 eb;subst this;rw [hl] at hl';cases hl';have e3:Nat.beq o o'=((⟨l.blk,l.base+o,none⟩:Addr)==⟨l.blk,l.base+o',none⟩):=by
         rw [iS];simp [EA]
        simp only [Op.equalIn,bF,bU hu,cK,iK hs];simp [sameAddr,e3]
       | false=>
        rw [eb] at he;simp only [lE] at he;have a7:b≠b':=fun h=>by rw [Id.beq_iff.2 h] at eb;cases eb
        cases hf:uR h b with
        |none=>rw [hf] at he;cases he
        | some f=>
         cases hf':uR h b' with
         |none=>rw [hf,hf'] at he;cases he
         | some f'=>
          rw [hf,hf'] at he;simp only at he;cases ef:Id.beq f f' with
          |true=>rw [ef] at he;cases he
          | false=>
           rw [ef] at he;cases he;obtain⟨sz,els,ty1,hb,hz⟩:=QZ hf;obtain⟨b2,els',ty2,hb',a4⟩:=QZ hf';obtain⟨l1,hl1,C,t1,fz,hc⟩:=k.obj _ _ hb;obtain⟨l2,hl2,C',t2,fz',hc'⟩:=k.obj _ _ hb';rw [hl] at hl1;cases hl1;rw [hl'] at hl2;cases hl2;have a6:l.blk≠l'.blk:=fun a2=>by
            have:f=f':=k.sep b b' _ _ l l' hb hb' hl hl' a7 a2;rw [Id.beq_iff.2 this] at ef;cases ef
           have:=YV (P:=P) (a:=⟨l.blk,l.base+o,none⟩) (b:=⟨l'.blk,l'.base+o',none⟩) a6 hc.at_ hc'.at_ (hc.plain rfl hz) (hc'.plain rfl a4);simp only [Op.equalIn,bF,bU hu,cK,iK hs];simp [this]
      ·cases he
   case struct fs=>
    cases hst:P.stoodInHeld t with
    |true=>rw [hst] at he;cases he
    | false=>
     rw [hst] at he;simp only [lE] at he;have a5:∃xs ys,x= .agg xs∧y= .agg ys:=by
      cases hfs:fs.toList with
      |nil=>
       rw [hfs] at he;unfold uT at he;simp only at he;split at he
       ·exact⟨_,_,rfl,rfl⟩
       ·cases he
      | cons f fs'=>
       rw [hfs] at he;unfold uT at he;split at he
       ·cases he
       ·split at he
        ·cases he
        ·simp only at he;split at he
         ·exact⟨_,_,rfl,rfl⟩
         ·cases he
     obtain⟨xs,ys,rfl,rfl⟩:=a5;obtain⟨xs',rfl,hxs,sx⟩:=oL hx;obtain⟨a3,rfl,hys,sy⟩:=oL hy;have a9:P.fieldsOf t=fs:=by simp [Program.fieldsOf,hu]
     rw [run_equalIn_struct w D t _ _ (by rw [a9];exact hu) hst,a9];exact RH k (fun t x y ux uy r hx hy hq=>ih t D (by omega) x y ux uy r hx hy hq) fs.toList hxs hys sx sy he
   case array len el=>
    cases hn:bM P el with
    |none=>rw [hn] at he;cases he
    | some n=>
     rw [hn] at he;simp only at he;split at he
     ·rename_i xs ys;obtain⟨xs',rfl,hxs,sx⟩:=oL hx;obtain⟨a3,rfl,hys,sy⟩:=oL hy;obtain⟨ds,hds⟩:=uC hn;have hz:∀l:List V,eD (0*n) l=l:=by intro l;rw [iY];simp
      have:=RJ (P:=P) k hds hn (fun x y ux uy r hx hy hq=>ih el D (by omega) x y ux uy r hx hy hq) hxs hys sx sy len 0 (r:=r) (by rw [hz,hz];exact he);rw [YX D t len el n _ _ hu hn];exact this
     ·cases he
   case slice e=>
    split at he<;>(try (cases he;done))<;>cases he<;>simp only [R] at hx hy
    ·subst hx;subst hy;simp [Op.equalIn,bU hu]
    ·subst hx;obtain⟨l,cap,_,rfl,_⟩:=hy;simp [Op.equalIn,bU hu]
    ·subst hy;obtain⟨l,cap,_,rfl,_⟩:=hx;simp [Op.equalIn,bU hu]
    ·subst hy;obtain⟨l,cap,rfl⟩:=hx;simp [Op.equalIn,bU hu]
    ·subst hx;obtain⟨l,cap,rfl⟩:=hy;simp [Op.equalIn,bU hu]
end
section
variable {P:Program} {m:Mp} {w:Wo}
def rC (em:Bool) (d:Nat) (xs:Array Value):List Field→Sem Unit
 | []=>pure ()
 | f::fs=>if f.name≠ "_" then do
   let a←part f.type xs f.offset
   Instr.checkKey em d f.type a
   rC em d xs fs
  else rC em d xs fs
def YY (em:Bool) (d:Nat) (t:TypeId) (fs:Array Field) (xs:Array Value) (ht:P.underlying t=some (.struct fs)):
  (Instr.checkKey em (d+1) t (.agg xs)).run P w=(rC em d xs fs.toList).run P w:=by
 simp only [Instr.checkKey,bF,bU ht,cK];rw [←Array.forIn_toList];generalize fs.toList=l;clear ht
 induction l generalizing w with
 |nil=>simp [rC]
 | cons f l ih=>
  simp only [WF,rC,bF,yQ];split
  ·generalize (part f.type xs f.offset).run P w=r1;cases r1 with
   |ok a w1=>
    simp only [cK];generalize (Instr.checkKey em d f.type a).run P w1=r2;cases r2 with
    |ok b w2=>simp only [cK,cH];exact ih (w:=w2)
    |halt x w2=>simp [Result.andThen]
   |halt x w1=>simp [Result.andThen]
  ·simp only [cH,cK];exact ih
def sW (em:Bool) (d:Nat) (el:TypeId) (n:Nat) (xs:Array Value):List Nat→Sem Unit
 | []=>pure ()
 |i::is=>do
  let a←part el xs (i*n)
  Instr.checkKey em d el a
  sW em d el n xs is
def YZ (em:Bool) (d:Nat) (t:TypeId) (len:Nat) (el:TypeId) (n:Nat) (xs:Array Value) (ht:P.underlying t=some (.array len el)) (hn:bM P el=some n):
  (Instr.checkKey em (d+1) t (.agg xs)).run P w=(sW em d el n xs (List.range' 0 len)).run P w:=by
 simp only [Instr.checkKey,bF,bU ht,cK,Kv,Std.Legacy.Range.size,DV,Lf,JR];generalize List.range' 0 len=is;clear ht
 induction is generalizing w with
 |nil=>simp [sW]
 | cons i is ih=>
  simp only [WF,sW,bF,iK hn,cK];generalize (part el xs (i*n)).run P w=r1;cases r1 with
  |ok a w1=>
   simp only [cK];generalize (Instr.checkKey em d el a).run P w1=r2;cases r2 with
   |ok b w2=>simp only [cK,cH];exact ih (w:=w2)
   |halt x w2=>simp [Result.andThen]
  |halt x w1=>simp [Result.andThen]
def SJ {em:Bool} {q:TypeId→CkT} {D:Nat} (hq:∀t x ux,R m x ux→(q t).run x=true→(Instr.checkKey em D t ux).run P w= .ok () w):
  ∀(fs:List Field) {xs:List V} {xs':Lv},Rl m xs xs'→(∀x∈xs',dR x)→(uY P q fs).run (.agg xs)=true→(rC em D ⟨xs'⟩ fs).run P w= .ok () w
 | [],xs,xs',_,_,_=>by simp [rC]
 | f ::fs,xs,xs',hx,sx,he=>by
  unfold uY at he;split at he
  ·cases he
  ·rename_i a1;cases hs:bM P f.type with
   |none=>rw [hs] at he;cases he
   | some n=>
    rw [hs] at he;simp only [wV] at he;cases ha:lM (eV P f.type) f.offset n xs with
    |none=>rw [ha] at he;cases he
    |some a=>
     rw [ha] at he;simp only [aN] at he;obtain⟨d,hd⟩:=uC hs;obtain⟨ua,hua,ra⟩:=sI (w:=w) hd hs hx sx ha;have h1:=hq f.type a ua ra he.1;have ih:=SJ hq fs hx sx he.2;simp [rC,a1,hua,h1,ih]
def SK {em:Bool} {q:CkT} {D:Nat} {el:TypeId} {n:Nat} {d:TypeDesc} (hd:P.underlying el=some d) (hn:bM P el=some n)
  (hq:∀x ux,R m x ux→q.run x=true→(Instr.checkKey em D el ux).run P w= .ok () w) {X:List V} {X':Lv} (hX:Rl m X X') (sX:∀x∈X',dR x):
  ∀(c i:Nat),ckAs q (eV P el) n c (eD (i*n) X)=true→(sW em D el n ⟨X'⟩ (List.range' i c)).run P w= .ok () w
 |0,i,_=>by simp [sW]
 | c+1,i,he=>by
  unfold ckAs at he;simp only [wV] at he;cases ha:lM (eV P el) (i*n) n X with
  |none=>rw [ha] at he;cases he
  | some a=>
   rw [ha] at he;simp only [aN] at he;obtain⟨ua,hua,ra⟩:=sI (w:=w) hd hn hX sX ha;have e1:eD n (eD (i*n) X)=eD ((i+1)*n) X:=by
    rw [iY,iY,iY,zB];congr 1;rw [iC]
   rw [e1] at he;have h1:=hq a ua ra he.1;have ih:=SK hd hn hq hX sX c (i+1) he.2;simp [vQ,sW,hua,h1,ih]
def SI {em:Bool}:∀(d:Nat) (t:TypeId) (D:Nat),d≤D→∀x ux,R m x ux→(ckT P d t).run x=true→(Instr.checkKey em D t ux).run P w= .ok () w
 |0,t,D,_,x,ux,_,he=>by cases he
 |d+1,t,0,hD,_,_,_,_=>by omega
 | d + 1,t,D+1,hD,x,ux,hx,he=>by
  have ih:=SI (em:=em) d;unfold ckT at he;cases hu:P.underlying t with
  |none=>rw [hu] at he;cases he
  | some ds=>
   rw [hu] at he;cases ds<;>simp only at he<;>(try (cases he;done))
   case struct fs=>
    have a2:∃xs,x= .agg xs:=by
     cases hfs:fs.toList with
     |nil=>
      rw [hfs] at he;unfold uY at he;simp only at he;split at he
      ·exact⟨_,rfl⟩
      ·cases he
     | cons f fs'=>
      rw [hfs] at he;unfold uY at he;split at he
      ·cases he
      ·split at he
       ·cases he
       ·simp only at he;split at he
        ·exact⟨_,rfl⟩
        ·cases he
    obtain⟨xs,rfl⟩:=a2;obtain⟨xs',rfl,hxs,sx⟩:=oL hx;rw [YY em D t fs _ hu];exact SJ (fun t x ux hx hq=>ih t D (by omega) x ux hx hq) fs.toList hxs sx he
   case array len el=>
    cases hn:bM P el with
    |none=>rw [hn] at he;cases he
    | some n=>
     rw [hn] at he;simp only at he;split at he
     ·rename_i xs;obtain⟨xs',rfl,hxs,sx⟩:=oL hx;obtain⟨ds,hds⟩:=uC hn;rw [YZ em D t len el n _ hu hn];have hz:eD (0*n) xs=xs:=by rw [iY];simp
      exact SK hds hn (fun x ux hx hq=>ih el D (by omega) x ux hx hq) hxs sx len 0 (by rw [hz];exact he)
     ·cases he
   all_goals simp [Instr.checkKey,bU hu]
def bQ.length:∀{es:List Ent} {xs:List MapEntry},bQ m es xs→xs.length=es.length
 | [],_,k=>by simp only [bQ] at k;subst k;rfl
 |e::es,_,k=>by obtain⟨x,xs,rfl,_,h⟩:=k;simp [bQ.length h]
def bQ.get:∀{es:List Ent} {xs:List MapEntry},bQ m es xs→∀{i:Nat} {e:Ent},es[i]?=some e→∃x,xs[i]?=some x∧EntR m e x
 | [],_,_,i,e,h=>by simp at h
 |a::es,_,k,i,e,h=>by
  obtain⟨x,xs,rfl,hx,hxs⟩:=k;cases i with
  |zero=>simp at h;subst h;exact⟨x,rfl,hx⟩
  |succ i=>simp at h ⊢;exact bQ.get hxs h
def QU {h:H} (k:HR m h w) {kt:TypeId} {key:V} {a0:Value} (hk:R m key a0):
  ∀(es:List Ent) (xs:List MapEntry) (i:Nat) {r:Option (Nat × Ent)},bQ m es xs→CM (eqT P 20 kt) h key es i=some r→
   (Instr.findAsking kt a0 xs i).run P w= .ok (r.map fun x=>(x.1,(xs.getD (x.1-i) default).val)) w∧(∀x,r=some x→i≤x.1∧es[x.1-i]?=some x.2)
 | [],xs,i,r,hx,he=>by
  simp only [bQ] at hx;subst hx;have:none=r:=aL he;subst this;simp [Instr.findAsking]
 | e ::es,xs,i,r,hx,he=>by
  obtain⟨x,xs',rfl,hx1,hxs⟩:=hx;unfold CM at he;cases hq:(eqT P 20 kt).run h key e.key with
  |none=>rw [hq] at he;cases he
  | some b=>
   rw [hq] at he;have a3:(Op.equal kt a0 x.key).run P w= .ok b w:=HU k 20 kt 10000 (by omega) key e.key a0 x.key b hk hx1.1 hq;cases b with
   |true=>
    have:some (i,e)=r:=aL he;subst this;refine⟨by simp [Instr.findAsking,a3],?_⟩;intro y hy;cases hy;simp
   | false=>
    obtain⟨a5,ih2⟩:=QU k hk es xs' (i+1) hxs he;refine⟨?_,?_⟩
    ·simp only [Instr.findAsking,bF,a3,cK,dX,fN,a5];cases r with
     |none=>rfl
     |some y=>
      have:=(ih2 y rfl).1;have e1:y.1-i=(y.1-(i+1))+1:=by omega
      simp [e1]
    ·intro y hy;obtain⟨h1,h2⟩:=ih2 y hy;have e1:y.1-i=(y.1-(i+1))+1:=by omega
     exact⟨by omega,by rw [e1];simpa using h2⟩
def YS (hu:P.underlying kt=some ds) {k k':Value} {b:Bool} (hb:Instr.sameNow ds k k'=some b):(Op.equal kt k k').run P w= .ok b w:=by
 unfold Instr.sameNow at hb;split at hb
 ·rename_i kk k1 a k2 b';split at hb
  ·rename_i a4;subst a4;cases hb;exact run_equalIn_int w 9999 kt k1 kk a b' hu
  ·cases hb
 ·rename_i a b';cases hb;rw [beq_toListBytes];exact UO w 9999 kt a b' hu
 ·rename_i a b';cases hb;exact run_equalIn_bool' w 9999 kt a b' hu
 ·cases hb
def QW {kt:TypeId} {ds:TypeDesc} (hu:P.underlying kt=some ds) {k:Value}:∀(xs:List MapEntry) (i:Nat) {r:Option (Nat × Value)},Instr.findNow ds k xs i=some r→(Instr.findAsking kt k xs i).run P w= .ok r w
 | [],i,r,h=>by
  have:none=r:=aL h;subst this;simp [Instr.findAsking]
 | x::xs,i,r,h=>by
  unfold Instr.findNow at h;have same:∀b,Instr.sameNow ds k x.key=some b→(Op.equal kt k x.key).run P w= .ok b w:=fun b hb=>YS hu hb
  split at h
  ·rename_i hb;have:some (i,x.val)=r:=aL h;subst this;simp [Instr.findAsking,same _ hb]
  ·rename_i hb;simp [Instr.findAsking,same _ hb,QW hu xs (i+1) h]
  ·cases h
def Fs (hu:P.underlying kt=some ds) {k:Value} {xs:List MapEntry}:(Instr.findKey kt k xs).run P w=(Instr.findAsking kt k xs 0).run P w:=by
 simp only [Instr.findKey,bF,bU hu,cK];split
 ·rename_i r hr;rw [QW hu xs 0 hr];rfl
 ·rfl
end
section
variable {P:Program} {m:Mp} {w:Wo}
def pN {h:H} (k:HR m h w) {b:Id} {es:List Ent} {c:Nat} (he:iM h b=some (es,c)):
  ∃l es',aB b h.mem=some (.map es c)∧m b=some l∧w.heap[l.blk]?=some (.map ⟨es'⟩ c)∧bQ m es es':=by
 unfold iM at he;split at he
 ·rename_i a6 c0 hb;cases he;obtain⟨l,hl,es',h1,h2⟩:=k.obj _ _ hb;exact⟨l,es',hb,hl,h1,h2⟩
 ·cases he
def HP {h:H} (k:HR m h w) {kt:TypeId} {key:V} {a0:Value} (hk:R m key a0) {es:List Ent} {xs:List MapEntry} {r:Option (Nat × Ent)} (hx:bQ m es xs)
  (he:qY P kt h key es=some r) (em:Bool):
  (Instr.checkKey em 10000 kt a0).run P w= .ok () w∧(Instr.findKey kt a0 xs).run P w= .ok (r.map fun x=>(x.1,(xs.getD x.1 default).val)) w∧
   (∀x,r=some x→es[x.1]?=some x.2∧∃y,xs[x.1]?=some y∧EntR m x.2 y):=by
 unfold qY at he;cases hc:(ckT P 20 kt).run key with
 |false=>rw [hc] at he;cases he
 | true=>
  rw [hc] at he;simp only [cQ] at he;have hu:∃ds,P.underlying kt=some ds:=by
   unfold ckT at hc;cases hu:P.underlying kt with
   |none=>rw [hu] at hc;cases hc
   |some ds=>exact⟨ds,rfl⟩
  obtain⟨ds,hu⟩:=hu;obtain⟨h1,h2⟩:=QU k hk es xs 0 hx he;refine⟨SI 20 kt 10000 (by omega) key a0 hk hc,?_,?_⟩
  ·rw [Fs hu,h1];simp
  ·intro x a4;obtain⟨_,h3⟩:=h2 x a4;simp at h3;exact⟨h3,hx.get h3⟩
def run_getMap {b:Nat} {xs:List MapEntry} (hb:w.heap[b]?=some (.map ⟨xs⟩ c)):(getObj b).run P w= .ok (.map ⟨xs⟩ c) w:=by
 simp [getObj,Sem.run,hb]
def OS {h:H} (k:HR m h w) {t kt et:TypeId} {z:V} {ok:Bool} {key:V} {a0:Value} {es:List Ent} {xs:List MapEntry} {v:V} {x:Value}
  (hu:P.underlying t=some (.map kt et)) (hz:gC P et=some z) (hk:R m key a0) (hx:bQ m es xs)
  (a3:(∃b c,x= .map (some b)∧w.heap[b]?=some (.map ⟨xs⟩ c))∨(x= .map none∧xs= []))
  (hv:BG P kt z ok h key es=some v):∃u,(Instr.lookup t x a0 ok).run P w= .ok u w∧R m v u:=by
 obtain⟨uz,hzr,hzc,_⟩:=mH (w:=w) hz;unfold BG at hv;cases hf:qY P kt h key es with
 |none=>rw [hf] at hv;cases hv
 | some r=>
  rw [hf] at hv;obtain⟨h1,h2,h3⟩:=HP k hk hx hf xs.isEmpty;have a1:(⟨xs⟩:Array MapEntry).isEmpty=xs.isEmpty:=by cases xs<;>rfl
  cases r with
  | none=>
   have a2:some (if ok then V.tup [z,.b false] else z)=some v:=hv;cases a2;refine⟨if ok then .tuple #[uz,.bool false] else uz,?_,?_⟩
   ·rcases a3 with⟨b,c,rfl,hb⟩|⟨rfl,rfl⟩
    ·simp only [Instr.lookup,bF,bU hu,cK,run_getMap hb,a1,h1,h2,JN,hzr,cH]
    ·simp only [Instr.lookup,bF,bU hu,cK,a1,h1,h2,JN,hzr,cH]
   ·cases ok
    ·simpa [hzc] using sV m uz
    ·simp only [if_true,R,Rl];exact⟨_,rfl,_,_,rfl,by rw [hzc];exact sV m uz,_,_,rfl,rfl,rfl⟩
  | some p=>
   obtain⟨i,e⟩:=p;obtain⟨a7,y,hy,hye⟩:=h3 _ rfl;simp only at hy;have a5:(xs.getD i default).val=y.val:=by simp [KA,hy]
   have a2:some (if ok then V.tup [e.val,.b true] else e.val)=some v:=hv;cases a2;refine⟨if ok then .tuple #[y.val,.bool true] else y.val,?_,?_⟩
   ·rcases a3 with⟨b,c,rfl,hb⟩|⟨rfl,rfl⟩
    ·simp only [Instr.lookup,bF,bU hu,cK,run_getMap hb,a1,h1,h2,tL,a5,cH]
    ·simp at hy
   ·cases ok
    ·simpa using hye.2.1
    ·simp only [if_true,R,Rl];exact⟨_,rfl,_,_,rfl,hye.2.1,_,_,rfl,rfl,rfl⟩
end
section
variable {P:Program} {m:Mp} {w:Wo}
def rD {e:Env} (k:bL m n e a) (hg:Gl P m) {x:Option Operand} {d:Nat} {f:Nat→Option V} {v:V} (hx:∀y,x=some y→cS P n y=true)
  (h:bnd x d e f=some v):∃j,f j=some v∧((x=none∧j=d)∨∃y kk,x=some y∧a.eval y= .int kk (.ofNat j)):=by
 cases x with
 |none=>exact⟨d,h,.inl ⟨rfl,rfl⟩⟩
 |some y=>
  obtain⟨kk,j,hj,hf⟩:=DL h;have:=cX k hg (hx y rfl);rw [hj] at this;simp only [R] at this;exact⟨j,hf,.inr ⟨y,kk,rfl,this⟩⟩
def DE {lo hi:Option Value} (hl:lo=none∧l=0∨∃k,lo=some (.int k (.ofNat l))) (hh:hi=none∧h=len∨∃k,hi=some (.int k (.ofNat h)))
  (h1:l≤h) (h2:h≤len) (h3:len≤cap):(Instr.sliceBounds isS len cap lo hi none).run P w= .ok (l,h,cap) w:=by
 have hb:∀(k:IntKind) (j y:Nat) (c:BoundsCode),j≤y→(Instr.sliceBound (.int k (j:Int)) y c).run P w= .ok j w:=by
  intro k j y c hj;have:(0:Int)≤(j:Int)∧(j:Int)≤(y:Int):=⟨by omega,by omega⟩;simp only [Instr.sliceBound,asIntOf,bF,cH,cK,this,and_self,if_true];rfl
 rcases hl with⟨rfl,rfl⟩|⟨k1,rfl⟩<;>rcases hh with⟨rfl,rfl⟩|⟨k2,rfl⟩
 ·simp [Instr.sliceBounds]
 ·simp [Instr.sliceBounds,hb k2 h cap _ (by omega)]
 ·simp [Instr.sliceBounds,hb k1 l _ _ h1]
 ·simp [Instr.sliceBounds,hb k1 l _ _ h1,hb k2 h cap _ (by omega)]
def YD {e:Env} (k:bL m n e a) (hg:Gl P m) {t:TypeId} {x:Operand} {lo hi:Option Operand} (hx:cS P n x=true)
  (a4:∀y,lo=some y→cS P n y=true) (a3:∀y,hi=some y→cS P n y=true) {hh:H} {v:V} (hv:(ER P t x lo hi).run e hh=some v):
  ∃u,(Instr.sliceAt t (a.eval x) (lo.map a.eval) (hi.map a.eval) none).run P w= .ok u w∧R m v u:=by
 have hX:=cX k hg hx;have conv:∀{z:Option Operand} {d j:Nat},((z=none∧j=d)∨∃y kk,z=some y∧a.eval y= .int kk (.ofNat j))→(z.map a.eval=none∧j=d∨∃kk,z.map a.eval=some (.int kk (.ofNat j))):=by
  rintro z d j (⟨rfl,rfl⟩|⟨y,kk,rfl,h⟩)
  ·exact .inl ⟨rfl,rfl⟩
  ·exact .inr ⟨kk,by simp [h]⟩
 have a0:∀{sz b o len z:_} {el:TypeId} (u:Value),R m (.sl b o len z) u→z=sz+1→bM P el=some (sz+1)→LS (sz+1) lo hi e b o len z=some v→
   ∃j i ll cap,m b=some ll∧u= .slice (some ⟨ll.blk,ll.base+o,none⟩) len cap∧i≤j∧j≤len∧len≤cap∧
    (lo.map a.eval=none∧i=0∨∃kk,lo.map a.eval=some (.int kk (.ofNat i)))∧(hi.map a.eval=none∧j=len∨∃kk,hi.map a.eval=some (.int kk (.ofNat j)))∧
    R m v (.slice (some (if cap=i then⟨ll.blk,ll.base+o,none⟩ else⟨ll.blk,ll.base+o+i*(sz+1),none⟩)) (j-i) (cap-i)):=by
  intro sz b o len z el u hu hz hs hv;subst hz;obtain⟨j,hv,hj⟩:=rD k hg a3 hv;obtain⟨i,hv,hi'⟩:=rD k hg a4 hv;obtain⟨hc,hv⟩:=kL hv;simp only [aN] at hc;have h1:=cN hc.1;have h2:=cN hc.2;simp only [R] at hu;obtain⟨ll,cap,hll,rfl,hlc,hlim⟩:=hu;refine⟨j,i,ll,cap,hll,rfl,h1,h2,hlc,conv hi',conv hj,?_⟩;rcases pH hv with⟨hb,hv⟩|⟨hb,hv⟩
  ·cases hv;simp only [aN] at hb;have:i=j:=bE hb.1;subst this;simp only [R,pW];exact⟨_,_,rfl⟩
  ·cases hv;have a7:cap=i→i=0:=by
    intro a2;simp only [Mg] at hb;rcases hb with hb|hb
    ·have:i=j:=by omega
     rw [this] at hb;simp at hb
    ·simpa using hb
   simp only [R];refine⟨ll,cap-i,hll,?_,by show j-i≤cap-i;omega,?_⟩
   ·show Value.slice _ _ _=Value.slice _ _ _
    by_cases a2:cap=i
    ·have:=a7 a2;subst this;simp [a2]
    ·simp only [if_neg a2];have e1:Nat.add o (Nat.mul i (sz+1))=o+i*(sz+1):=rfl;have e2:Nat.sub j i=j-i:=rfl;rw [e1,e2,nG]
   ·show o+i*(sz+1)+(cap-i)*(sz+1)≤ll.lim;have:i*(sz+1)+(cap-i)*(sz+1)=cap*(sz+1):=by
     rw [←dI];congr 1;omega
    omega
 unfold ER at hv;cases hu:P.underlying t with
 |none=>rw [hu] at hv;cases hv
 | some ds=>
  rw [hu] at hv;cases ds<;>simp only at hv<;>(try (cases hv;done))
  case string=>
   obtain⟨len,c,hs,hv⟩:=yK hv;rw [hs] at hX;obtain⟨j,hv,hj⟩:=rD k hg a3 hv;obtain⟨i,hv,hi'⟩:=rD k hg a4 hv;obtain⟨hc,hv⟩:=kL hv;cases hv;simp only [aN] at hc;have h1:=cN hc.1;have h2:=cN hc.2;rw [R_str] at hX;obtain⟨s,hse,hb,hc2⟩:=hX;have a8:=wI hb;have hr:=DE (P:=P) (w:=w) (isS:=false) (len:=s.size) (cap:=s.size) (conv hi') (by rw [a8];exact conv hj) h1 (by omega) (aA _);refine⟨.string (s.extract i j),?_,YC hb h1 h2⟩;rw [hse];simp [Instr.sliceAt,bU hu,Instr.slice,hr]
  case slice el=>
   cases hs:bM P el with
   |none=>rw [hs] at hv;cases hv
   | some sz=>
    cases sz with
    |zero=>rw [hs] at hv;cases hv
    | succ sz=>
     rw [hs] at hv;simp only at hv;rcases DH hv with⟨b,o,len,z,a1,hv⟩|⟨_,hv⟩
     ·rw [a1] at hX;obtain⟨hz,hv⟩:=kL hv;have hz:=bE hz;obtain⟨j,i,ll,cap,hll,hue,h1,h2,h3,hlo',hhi',hR⟩:=a0 _ hX hz hs hv;have hr:=DE (P:=P) (w:=w) (isS:=true) hlo' hhi' h1 h2 h3;refine⟨_,?_,hR⟩;rw [hue];simp [Instr.sliceAt,bU hu,Instr.slice,hr,iK hs];split<;>simp [oK]
     ·rcases IY hv with⟨a1,hv⟩|⟨_,hv⟩
      ·rw [a1] at hX;obtain⟨j,hv,hj⟩:=rD k hg a3 hv;obtain⟨i,hv,hi'⟩:=rD k hg a4 hv;obtain⟨hc,hv⟩:=kL hv;cases hv;simp only [aN] at hc;have a6:=bE hc.1;have a5:=bE hc.2;subst a6;subst a5;simp only [R] at hX;have hr:=DE (P:=P) (w:=w) (isS:=true) (len:=0) (cap:=0) (conv hi') (conv hj) (aA _) (aA _) (aA _);refine⟨.slice none 0 0,?_,by simp [R]⟩;rw [hX];simp [Instr.sliceAt,bU hu,Instr.slice,hr,iK hs]
      ·obtain⟨a1,hv⟩:=UA hv;rw [a1] at hX;obtain⟨j,hv,hj⟩:=rD k hg a3 hv;obtain⟨i,hv,hi'⟩:=rD k hg a4 hv;obtain⟨hc,hv⟩:=kL hv;cases hv;simp only [aN] at hc;have a6:=bE hc.1;have a5:=bE hc.2;subst a6;subst a5;simp only [R] at hX;obtain⟨ad,cap,hue⟩:=hX;have hr:=DE (P:=P) (w:=w) (isS:=true) (len:=0) (cap:=cap) (conv hi') (conv hj) (aA _) (aA _) (aJ _);rw [hue];refine⟨.slice (if cap=0 then some ad else some (ad.add 0)) 0 cap,?_,?_⟩
       ·simp [Instr.sliceAt,bU hu,Instr.slice,hr,iK hs]
       ·simp only [R];split<;>exact⟨_,_,rfl⟩
end
section
variable {P:Program} {m:Mp} {w:Wo}
def HV {x y:Operand} {a b:Value} (h1:¬(a= .nilIface∧b= .nilIface)) (h2:(∀xs,a≠ .agg xs)∨P.eqGuardType P.depth t=false):
  (eqGuard op t x y a b).run P w= .ok () w:=by
 unfold eqGuard;cases op<;>first
  |rfl
  | (
    simp only [tX,dX,fN];split
    ·exact absurd ⟨rfl,rfl⟩ h1
    ·rename_i xs ys;rcases h2 with h2|h2
     ·exact absurd rfl (h2 xs)
     ·simp [h2]
    ·rfl)
def Gj {x y:Operand} (h:nX x=true∨nX y=true):(eqGuard op t x y .nilIface .nilIface).run P w= .ok () w:=by
 unfold eqGuard;cases op<;>first
  |rfl
  | (
    rcases h with h|h
    ·cases x<;>first|(cases h;done)|simp
    ·cases y<;>first|(cases h;done)|simp)
def YK {a b:Int} {v:V} (t:TypeId) (a1:op= .shl∨op= .shr) (h:zM op k a b=some v):∃u,(binOp op t (.int k a) (.int k' b)).run P w= .ok u w∧R m v u:=by
 unfold zM at h;cases hb:iLt b 0 with
 |true=>rw [hb] at h;cases h
 | false=>
  rw [hb] at h;rw [CD] at hb;have a0:¬b<0:=by simpa using hb
  rcases a1 with rfl|rfl
  ·cases h;exact⟨_,by simp only [binOp,Op.shift,a0,fN,cH];rfl,by simp [R]⟩
  ·cases h;exact⟨_,by simp only [binOp,Op.shift,a0,fN,cH];rfl,by simp [R]⟩
def KK {v:V} (h:yesO x=some v):∃b,x=some b∧v= .b b:=by cases x<;>cases h;exact⟨_,rfl,rfl⟩
def OD {v:V} (h:notO x=some v):∃b,x=some b∧v= .b (!b):=by cases x<;>cases h;exact⟨_,rfl,rfl⟩
def TM {x y:Value} (hx:∀k n,x≠ .int k n) (hs:∀s,x≠ .string s) (hf:∀k n,x≠ .float k n) (hc:∀k a b,x≠ .complex k a b) (h:(Op.equal t x y).run P w= .ok r w):
  (binOp .eql t x y).run P w= .ok (.bool r) w∧(binOp .neq t x y).run P w= .ok (.bool (!r)) w:=by
 constructor
 ·unfold binOp
  split<;>first
   |exact absurd rfl (hx _ _)
   |exact absurd rfl (hs _)
   |exact absurd rfl (hf _ _)
   |exact absurd rfl (hc _ _ _)
   |(simp [h];done)
   |(simp_all;done)
 ·unfold binOp
  split<;>first
   |exact absurd rfl (hx _ _)
   |exact absurd rfl (hs _)
   |exact absurd rfl (hf _ _)
   |exact absurd rfl (hc _ _ _)
   |(simp [h];done)
   |(simp_all;done)
end
section
variable {P:Program} {m:Mp} {w:Wo}
def Bf {x:V} (h:okEq x=true) (hR:R m x u):(∀k n,u≠ .int k n)∧(∀s,u≠ .string s)∧(∀k n,u≠ .float k n)∧(∀k a b,u≠ .complex k a b)∧u≠ .nilIface:=by
 cases x<;>simp only [okEq,dX] at h<;>simp only [R] at hR
 all_goals first
  |(subst hR;simp;done)
  |(obtain⟨_,rfl,_⟩:=hR;simp;done)
  |(obtain⟨_,_,rfl⟩:=hR;simp;done)
  |(obtain⟨_,_,_,rfl,_⟩:=hR;simp;done)
  |(obtain⟨_,_,rfl,_⟩:=hR;simp;done)
def Jf {e:Env} (k:bL m n e a) (hg:Gl P m) {h:H} (hr:HR m h w) {op:BinOp} {t:TypeId} {x y:Operand} (hx:cS P n x=true) (hy:cS P n y=true)
  {v:V} (hv:(binC P op t x y).run e h=some v):∃u,(do eqGuard op t x y (a.eval x) (a.eval y);binOp op t (a.eval x) (a.eval y):Sem Value).run P w= .ok u w∧R m v u:=by
 have hX:=cX k hg hx;have hY:=cX k hg hy;have a1:(eqGuard op t x y (a.eval x) (a.eval y)).run P w= .ok () w→(∃u,(binOp op t (a.eval x) (a.eval y)).run P w= .ok u w∧R m v u)→
   ∃u,(do eqGuard op t x y (a.eval x) (a.eval y);binOp op t (a.eval x) (a.eval y):Sem Value).run P w= .ok u w∧R m v u:=by
  rintro h1 ⟨u,h2,h3⟩;exact⟨u,by simp [h1,h2],h3⟩
 have other:P.eqGuardType P.depth t=false→(op= .eql∧yesO (uS P t h ((aF x).run e) ((aF y).run e))=some v∨op= .neq∧notO (uS P t h ((aF x).run e) ((aF y).run e))=some v)→
   ∃u,(do eqGuard op t x y (a.eval x) (a.eval y);binOp op t (a.eval x) (a.eval y):Sem Value).run P w= .ok u w∧R m v u:=by
  intro a0 a6;have val:∀b,uS P t h ((aF x).run e) ((aF y).run e)=some b→(eqGuard op t x y (a.eval x) (a.eval y)).run P w= .ok () w∧
    (binOp .eql t (a.eval x) (a.eval y)).run P w= .ok (.bool b) w∧(binOp .neq t (a.eval x) (a.eval y)).run P w= .ok (.bool (!b)) w:=by
   intro b hb;unfold uS at hb;cases ho:okEq ((aF x).run e) with
   |false=>rw [ho] at hb;cases hb
   |true=>
    rw [ho] at hb;obtain⟨s1,s2,s3,s4,s5⟩:=Bf ho hX;have a5:=HU hr 20 t 10000 (by omega) _ _ _ _ b hX hY hb;exact⟨HV (fun hh=>s5 hh.1) (.inr a0),TM s1 s2 s3 s4 a5⟩
  rcases a6 with⟨rfl,hv1⟩|⟨rfl,hv1⟩
  ·obtain⟨b,hb,rfl⟩:=KK hv1;obtain⟨h1,h2,h3⟩:=val b hb;exact a1 h1 ⟨_,h2,by simp [R]⟩
  ·obtain⟨b,hb,rfl⟩:=OD hv1;obtain⟨h1,h2,h3⟩:=val b hb;exact a1 h1 ⟨_,h3,by simp [R]⟩
 unfold binC at hv;cases hu:P.underlying t with
 | none=>
  rw [hu] at hv;simp only at hv;cases a0:P.eqGuardType P.depth t with
  |true=>rw [a0] at hv;cases hv
  |false=>
   rw [a0] at hv;simp only [lE] at hv;cases op<;>first|(cases hv;done)|exact other a0 (.inl ⟨rfl,hv⟩)|exact other a0 (.inr ⟨rfl,hv⟩)
 | some ds=>
  rw [hu] at hv;cases ds
  case int kk=>
   simp only at hv;have a3:∀{k1 k2:IntKind} {A B:Int},(aF x).run e= .i k1 A→(aF y).run e= .i k2 B→a.eval x= .int k1 A∧a.eval y= .int k2 B:=by
    intro k1 k2 A B h1 h2;rw [h1] at hX;rw [h2] at hY;simpa only [R] using And.intro hX hY
   have gd:∀{k1 k2:IntKind} {A B:Int},a.eval x= .int k1 A→a.eval y= .int k2 B→(eqGuard op t x y (a.eval x) (a.eval y)).run P w= .ok () w:=by
    intro k1 k2 A B h1 h2;rw [h1,h2];exact HV (by simp) (.inl (by simp))
   by_cases a2:op= .shl∨op= .shr
   ·have a4:gZ ((aF x).run e) (fun k a=>gZ ((aF y).run e) (fun _ b=>zM op k a b) none) none=some v:=by
     rcases a2 with rfl|rfl<;>exact hv
    obtain⟨k1,A,e1,hv1⟩:=oJ a4;obtain⟨k2,B,e2,hv2⟩:=oJ hv1;obtain⟨i1,i2⟩:=a3 e1 e2;refine a1 (gd i1 i2) ?_;rw [i1,i2];exact YK t a2 hv2
   ·have a4:gZ ((aF x).run e) (fun k a=>gZ ((aF y).run e) (fun k' b=>dZ (kEq k k') ((BX op).run k a b) none) none) none=some v:=by
     cases op<;>first|exact hv|exact absurd (.inl rfl) a2|exact absurd (.inr rfl) a2
    obtain⟨k1,A,e1,hv1⟩:=oJ a4;obtain⟨k2,B,e2,hv2⟩:=oJ hv1;obtain⟨hk,hv3⟩:=kL hv2;obtain⟨i1,i2⟩:=a3 e1 e2;have:=(BS _ _).1 hk;subst this;refine a1 (gd i1 i2) ?_;rw [i1,i2];exact Dz t ⟨fun h=>a2 (.inl h),fun h=>a2 (.inr h)⟩ hv3
  case string=>
   simp only at hv;obtain⟨l,c,e1,hv1⟩:=yK hv;obtain⟨l',c',e2,hv2⟩:=yK hv1;rw [e1] at hX;rw [e2] at hY;refine a1 ?_ (XU t hX hY hv2);rw [R_str] at hX hY;obtain⟨s,h1,_⟩:=hX;obtain⟨s',h2,_⟩:=hY;rw [h1,h2];exact HV (by simp) (.inl (by simp))
  case interface ms=>
   simp only at hv;have val:∀b,CS t (nX x||nX y) h ((aF x).run e) ((aF y).run e)=some b→(eqGuard op t x y (a.eval x) (a.eval y)).run P w= .ok () w∧
     (binOp .eql t (a.eval x) (a.eval y)).run P w= .ok (.bool b) w∧(binOp .neq t (a.eval x) (a.eval y)).run P w= .ok (.bool (!b)) w:=by
    intro b hb;generalize a7:(aF x).run e=X at hX hb;generalize a8:(aF y).run e=Y at hY hb;unfold CS at hb;split at hb
    ·cases hc:(nX x||nX y) with
     |false=>rw [hc] at hb;cases hb
     |true=>
      rw [hc] at hb;cases hb;simp only [R] at hX hY;rw [hX,hY];refine⟨Gj (by simpa using hc),TM (by simp) (by simp) (by simp) (by simp) ?_⟩;have nn:∀D,(Op.equalIn (D+1) t .nilIface .nilIface).run P w= .ok true w:=fun D=>by simp [Op.equalIn,bU hu]
      exact nn 9999
    ·cases hb
   cases op<;>first|(cases hv;done)|skip
   ·obtain⟨b,hb,rfl⟩:=KK hv;obtain⟨h1,h2,h3⟩:=val b hb;exact a1 h1 ⟨_,h2,by simp [R]⟩
   ·obtain⟨b,hb,rfl⟩:=OD hv;obtain⟨h1,h2,h3⟩:=val b hb;exact a1 h1 ⟨_,h3,by simp [R]⟩
  all_goals
   simp only at hv;cases a0:P.eqGuardType P.depth t with
   |true=>rw [a0] at hv;cases hv
   |false=>
    rw [a0] at hv;simp only [lE] at hv;cases op<;>first|(cases hv;done)|exact other a0 (.inl ⟨rfl,hv⟩)|exact other a0 (.inr ⟨rfl,hv⟩)
end
section
variable {P:Program} {m:Mp} {w:Wo}
def NQ {α:Type}:∀(l xs:List α) {r:List α},over l xs=some r→xs.length≤l.length∧r=xs++l.drop xs.length
 |l,[],r,h=>by cases l<;>(simp [over] at h;subst h;simp)
 | [],_::_,r,h=>by simp [over] at h
 | a::l,x::xs,r,h=>by
  simp only [over] at h;cases e:over l xs with
  |none=>rw [e] at h;cases h
  |some r'=>
   rw [e] at h;cases h;obtain⟨h1,rfl⟩:=NQ l xs e;exact⟨by simp;omega,by simp⟩
def uG {α:Type}:∀(n:Nat) (l xs:List α) {r:List α},iF n l xs=some r→n+xs.length≤l.length∧r=l.take n++xs++l.drop (n+xs.length)
 |0,l,xs,r,h=>by
  have h':over l xs=some r:=by cases l<;>simpa [iF] using h
  obtain⟨h1,rfl⟩:=NQ l xs h';exact⟨by omega,by simp⟩
 |n+1,[],xs,r,h=>by simp [iF] at h
 | n+1,a::l,xs,r,h=>by
  simp only [iF] at h;cases e:iF n l xs with
  |none=>rw [e] at h;cases h
  |some r'=>
   rw [e] at h;cases h;obtain⟨h1,rfl⟩:=uG n l xs e;refine⟨by simp;omega,?_⟩;have e1:n+1+xs.length=(n+xs.length)+1:=by omega
   rw [e1];simp
def QQ (off:Nat):∀(xs:Lv) (k:Nat) (cs:Array Value),off+k+xs.length≤cs.size→
  ((xs.zipIdx k).foldl (fun cs (x:Value × Nat)=>cs.setIfInBounds (off+x.2) x.1) cs).toList=cs.toList.take (off+k)++xs++cs.toList.drop (off+k+xs.length)
 | [],k,cs,h=>by simp
 | x::xs,k,cs,h=>by
  simp only [List.zipIdx_cons,KB];simp only [iE] at h;rw [QQ off xs (k+1) _ (by simp;omega)];have hl:off+k<cs.toList.length:=by simp;omega
  rw [KH];have e1:(cs.toList.set (off+k) x).take (off+(k+1))=cs.toList.take (off+k)++ [x]:=by
   rw [←nG,VS,Lm hl];rw [yV _ _ (by simp;omega)];have hm:min (off+k) cs.size=off+k:=by simp at hl;omega
   simp [hm]
  have e2:(cs.toList.set (off+k) x).drop (off+(k+1)+xs.length)=cs.toList.drop (off+k+(xs.length+1)):=by
   rw [Lz (by omega)];congr 1;omega
  rw [e1,e2];simp
def Rl.over {l xs:List V} {l' xs':Lv} (hl:Rl m l l') (hx:Rl m xs xs') (n:Nat):Rl m (l.take n++xs++l.drop (n+xs.length)) (l'.take n++xs'++l'.drop (n+xs'.length)):=by
 have:=hx.length;rw [this];exact((hl.take n).append hx).append (hl.drop _)
def CN {a0:Nat→Option (Nat × Nat)}:∀(ps:List (Nat × V)) (a3:List (Nat × Value)) {cs:List V} {a2:Lv} {r:List V},(ps.map (·.1)=a3.map (·.1))→Rl m (ps.map (·.2)) (a3.map (·.2))→
  Rl m cs a2→(∀x∈a2,dR x)→jB a0 cs ps=some r→∃r',Instr.fill a0 ⟨a2⟩ a3=some ⟨r'⟩∧Rl m r r'∧∀x∈r',dR x
 | [],a3,cs,a2,r,h1,_,hc,hs,hb=>by
  have:a3= []:=by cases a3 with|nil=>rfl|cons _ _=>simp at h1
  subst this;have:cs=r:=aL (by simpa [jB] using hb);subst this;exact⟨a2,by simp [Instr.fill],hc,hs⟩
 | (i,v)::ps,a3,cs,a2,r,h1,h2,hc,hs,hb=>by
  cases a3 with
  |nil=>simp at h1
  | cons p a3=>
   obtain⟨i',u⟩:=p;simp only [gS,jD] at h1;obtain⟨rfl,h1⟩:=h1;simp only [gS,Rl] at h2;obtain⟨u',us,he,hv,h2⟩:=h2;simp only [jD] at he;obtain⟨rfl,rfl⟩:=he;unfold jB at hb;cases hp:a0 i with
   |none=>rw [hp] at hb;cases hb
   | some p=>
    obtain⟨off,sz⟩:=p;rw [hp] at hb;simp only at hb;cases hq:dT v with
    |none=>rw [hq] at hb;cases hb
    | some c=>
     rw [hq] at hb;simp only at hb;obtain⟨c',hc1,hc2,hc3⟩:=yB hv hq;cases a1:Nat.beq (eF c) sz with
     |false=>rw [a1] at hb;cases hb
     | true=>
      rw [a1] at hb;simp only [cQ] at hb;have a1:=bE a1;rw [kK] at a1;cases ho:iF off cs c with
      |none=>rw [ho] at hb;cases hb
      | some cs2=>
       rw [ho] at hb;simp only at hb;obtain⟨b3,rfl⟩:=uG _ _ _ ho;have b1:=hc.length;have b2:=hc2.length;have a5:=QQ off c' 0 ⟨a2⟩ (by show off+0+c'.length≤a2.length;omega);obtain⟨r',hr1,hr2,hr3⟩:=CN ps a3 h1 h2 (hc.over hc2 off) (by
        intro x hx;simp only [bX] at hx;rcases hx with(hx|hx)|hx
        ·exact hs x (jV hx)
        ·exact hc3 x hx
        ·exact hs x (yY hx)) hb
       refine⟨r',?_,hr2,hr3⟩;unfold Instr.fill;simp only [hp,hc1];have a9:(decide ((⟨c'⟩:Array Value).size≠sz)||decide (off+(⟨c'⟩:Array Value).size>(⟨a2⟩:Array Value).size))=false:=by
        simp only [Mf,rH];exact⟨by show¬c'.length≠sz;omega,by show¬(off+c'.length>a2.length);omega⟩
       rw [if_neg (by rw [a9];simp)];rw [←hr1];congr 1;apply lH.1;rw [←Array.foldl_toList];have:(⟨c'⟩:Array Value).zipIdx.toList=c'.zipIdx 0:=by simp
       rw [this,a5];simp
def AK {n:Nat} {e:Env} {a:Act} (k:bL m n e a) (hg:Gl P m):∀{ps:List (Nat × Operand)},(ps.map (·.2)).all (cS P n)=true→
  ((lN ps).run e).map (·.1)=(ps.map fun x=>(x.1,a.eval x.2)).map (·.1)∧Rl m (((lN ps).run e).map (·.2)) ((ps.map fun x=>(x.1,a.eval x.2)).map (·.2))
 | [],_=>by simp [lN,Rl]
 |(i,x)::ps,h=>by
  simp only [gS,qB,aN] at h;obtain⟨h1,h2⟩:=AK k hg h.2;simp only [lN,gS,jD,DN,Rl];exact⟨h1,_,_,⟨rfl,rfl⟩,cX k hg h.1,h2⟩
def OC:∀(l:List (Nat × Nat)) (i:Nat),nthP l i=l[i]?
 | [],i=>by cases i<;>rfl
 |a::l,0=>rfl
 |a::l,i+1=>by rw [nthP,OC l i];rfl
def NM:∀(fs:List Field) (pl:List (Nat × Nat)),sH P fs=some pl→fs.mapM (fun f=>(P.info? f.type).map fun i=>(f.offset,i.size))=some pl
 | [],pl,h=>by simp [sH] at h;subst h;simp
 | f::fs,pl,h=>by
  unfold sH at h;cases hn:bM P f.type with
  |none=>rw [hn] at h;cases h
  | some n=>
   cases hl:sH P fs with
   |none=>rw [hn,hl] at h;cases h
   |some l=>
    rw [hn,hl] at h;cases h;obtain⟨i,hi,rfl⟩:=sC hn;simp [List.mapM_cons,hi,NM fs l hl]
def rB {l:List V} (h:dT (cst z)=some l):∃l',z.cells=⟨l'⟩∧Rl m l l'∧∀x∈l',dR x:=yB (sV m z) h
def Iw {e:Env} (k:bL m n e a) (hg:Gl P m) {t:TypeId} {ps:Array (Nat × Operand)} (hx:(ps.toList.map (·.2)).all (cS P n)=true) {h:H} {v:V}
  (hv:(IP P t ps.toList).run e h=some v):∃u,(Instr.build t (ps.map fun(i,x)=>(i,a.eval x))).run P w= .ok u w∧R m v u:=by
 obtain⟨p1,p2⟩:=AK k hg hx;have a8:(ps.map fun(i,x)=>(i,a.eval x)).toList=ps.toList.map fun x=>(x.1,a.eval x.2):=by simp
 unfold IP at hv;cases hz:gC P t with
 |none=>rw [hz] at hv;cases hv
 | some z=>
  cases hu:P.underlying t with
  |none=>rw [hz,hu] at hv;cases hv
  | some ds=>
   rw [hz,hu] at hv;obtain⟨uz,hzr,rfl,it,hit,hzi⟩:=mH (w:=w) hz;have a7:∀(a0:Nat→Option (Nat × Nat)) (zc:List V),dT (cst uz)=some zc→mY (jB a0 zc ((lN ps.toList).run e))=some v→(∀r',Instr.fill a0 uz.cells (ps.toList.map fun x=>(x.1,a.eval x.2))=some r'→P.built t (ps.map fun(i,x)=>(i,a.eval x)).toList=some r')→
     ∃u,(Instr.build t (ps.map fun(i,x)=>(i,a.eval x))).run P w= .ok u w∧R m v u:=by
    intro a0 zc a4 hv hb;obtain⟨l,hl,rfl⟩:=JI hv;obtain⟨b4,hz1,hz2,hz3⟩:=rB (m:=m) a4;obtain⟨r',hr1,hr2,hr3⟩:=CN _ _ p1 p2 hz2 hz3 hl;rw [←hz1] at hr1;exact⟨.agg ⟨r'⟩,run_build w t _ _ (hb _ hr1),by simp only [R];exact⟨r',rfl,hr2,hr3⟩⟩
   cases ds<;>simp only at hv<;>(try (cases hv;done))
   case struct fs=>
    cases a4:dT (cst uz) with
    |none=>rw [a4] at hv;cases hv
    | some zc=>
     rw [a4] at hv;simp only at hv;cases hp:sH P fs.toList with
     |none=>rw [hp] at hv;cases hv
     | some pl=>
      rw [hp] at hv;simp only at hv;refine a7 (fun i=>pl[i]?) zc a4 ?_ ?_
      ·rw [show(fun i=>pl[i]?)=nthP pl from funext fun i=>(OC pl i).symm];exact hv
      ·intro r' a6;rw [a8];have b0:fs.toList.mapM (fun f=>(P.info? f.type).map fun i=>(f.offset,i.size))=some pl:=NM _ _ hp;simp only [Program.built,hit,hu,hzi,b0];simpa using a6
   case array len el=>
    cases a4:dT (cst uz) with
    |none=>rw [a4] at hv;cases hv
    | some zc=>
     rw [a4] at hv;simp only at hv;cases hn:bM P el with
     |none=>rw [hn] at hv;cases hv
     |some sz=>
      rw [hn] at hv;simp only at hv;obtain⟨ie,hie,rfl⟩:=sC hn;refine a7 (fun i=>some (i*ie.size,ie.size)) zc a4 hv ?_;intro r' a6;rw [a8];simp only [Program.built,hit,hu,hzi,hie];exact a6
end
section
variable {P:Program} {m:Mp} {w:Wo}
def R_p {b:Id} (h:R m (.p b o) u):∃l,m b=some l∧u= .pointer (some ⟨l.blk,l.base+o,none⟩):=by simpa only [R] using h
def R_i {n:Int} (h:R m (.i k n) u):u= .int k n:=by simpa only [R] using h
def R_b (h:R m (.b b) u):u= .bool b:=by simpa only [R] using h
def R_tup {l:List V} (h:R m (.tup l) u):∃l',u= .tuple ⟨l'⟩∧Rl m l l':=by simpa only [R] using h
def ON:∀(l:List V) (l':Lv) {x:V} {u:Value} {v:V},R m x u→Rl m l l'→sQ max2 x l=some v→∃u',(l'.foldlM Builtin.max2 u).run P w= .ok u' w∧R m v u'
 | [],l',x,u,v,hx,hl,hv=>by
  simp only [Rl] at hl;subst hl;have:x=v:=aL hv;subst this;exact⟨u,rfl,hx⟩
 | y::l,l',x,u,v,hx,hl,hv=>by
  simp only [Rl] at hl;obtain⟨uy,us,rfl,hy,hl⟩:=hl;unfold sQ at hv;cases hm:max2 x y with
  |none=>rw [hm] at hv;cases hv
  | some z=>
   rw [hm] at hv;obtain⟨k,A,rfl,hm1⟩:=oJ hm;obtain⟨k',B,rfl,hm2⟩:=oJ hm1;obtain⟨hk,hm3⟩:=kL hm2;have:=(BS _ _).1 hk;subst this;cases hm3;have hu:=R_i hx;subst hu;have hu:=R_i hy;subst hu;have hz:R m (.i k (bif iLt A B then B else A)) (.int k (if B>A then B else A)):=by
    rw [CD];simp only [R]
    by_cases h:A<B<;>simp [h]
   obtain⟨u',h1,h2⟩:=ON l us hz hl hv;exact⟨u',by simp [List.foldlM_cons,Builtin.max2,h1],h2⟩
def OJ:∀(l:List V) (l':Lv) {x:V} {u:Value} {v:V},R m x u→Rl m l l'→sQ min2 x l=some v→∃u',(l'.foldlM Builtin.min2 u).run P w= .ok u' w∧R m v u'
 | [],l',x,u,v,hx,hl,hv=>by
  simp only [Rl] at hl;subst hl;have:x=v:=aL hv;subst this;exact⟨u,rfl,hx⟩
 | y::l,l',x,u,v,hx,hl,hv=>by
  simp only [Rl] at hl;obtain⟨uy,us,rfl,hy,hl⟩:=hl;unfold sQ at hv;cases hm:min2 x y with
  |none=>rw [hm] at hv;cases hv
  | some z=>
   rw [hm] at hv;obtain⟨k,A,rfl,hm1⟩:=oJ hm;obtain⟨k',B,rfl,hm2⟩:=oJ hm1;obtain⟨hk,hm3⟩:=kL hm2;have:=(BS _ _).1 hk;subst this;cases hm3;have hu:=R_i hx;subst hu;have hu:=R_i hy;subst hu;have hz:R m (.i k (bif iLt B A then B else A)) (.int k (if B<A then B else A)):=by
    rw [CD];simp only [R]
    by_cases h:B<A<;>simp [h]
   obtain⟨u',h1,h2⟩:=OJ l us hz hl hv;exact⟨u',by simp [List.foldlM_cons,Builtin.min2,h1],h2⟩
def Dm {h:H} (hr:HR m h w) {t:TypeId} {x:Operand} {n:Nat} {e:Env} {a:Act} (k:bL m n e a) (hg:Gl P m) (hx:cS P n x=true) {v:V} {ts:List TypeId} {ty:TypeId}
  (hv:(lenC P t x).run e h=some v):∃u,(Builtin.len_ ⟨t::ts⟩ ty #[a.eval x]).run P w= .ok u w∧R m v u:=by
 have hX:=cX k hg hx;have h0:(⟨t::ts⟩:Array TypeId)[0]?=some t:=by simp
 unfold lenC at hv;cases hu:P.underlying t with
 |none=>rw [hu] at hv;cases hv
 | some ds=>
  rw [hu] at hv;cases ds<;>simp only at hv<;>(try (cases hv;done))
  case string=>
   obtain⟨l,c,e1,hv⟩:=yK hv;cases hv;rw [e1,R_str] at hX;obtain⟨s,hs,hb,_⟩:=hX;have:=wI hb;exact⟨_,by rw [hs];simp [Builtin.len_,bU hu,goInt];rfl,by simp [R,this]⟩
  case slice el=>
   rcases DH hv with⟨b,o,l,z,e1,hv⟩|⟨_,hv⟩
   ·cases hv;rw [e1] at hX;simp only [R] at hX;obtain⟨ll,cap,_,hs,_⟩:=hX;exact⟨_,by rw [hs];simp [Builtin.len_,bU hu,goInt];rfl,by simp [R]⟩
   ·rcases IY hv with⟨e1,hv⟩|⟨_,hv⟩
    ·cases hv;rw [e1] at hX;simp only [R] at hX;exact⟨_,by rw [hX];simp [Builtin.len_,bU hu,goInt];rfl,by simp [R]⟩
    ·obtain⟨e1,hv⟩:=UA hv;cases hv;rw [e1] at hX;simp only [R] at hX;obtain⟨ad,cap,hs⟩:=hX;exact⟨_,by rw [hs];simp [Builtin.len_,bU hu,goInt];rfl,by simp [R]⟩
  case map kt et=>
   rcases JA hv with⟨b,e1,hv⟩|⟨_,hv⟩
   ·cases he:iM h b with
    |none=>rw [he] at hv;cases hv
    |some p=>
     obtain⟨es,c⟩:=p;rw [he] at hv;cases hv;obtain⟨l,es',_,hl,hm,hes⟩:=pN hr he;rw [e1] at hX;simp only [R] at hX;obtain⟨l2,hl2,hs⟩:=hX;rw [hl] at hl2;cases hl2;have:=hes.length;exact⟨_,by rw [hs];simp [Builtin.len_,bU hu,run_getMap hm,goInt];rfl,by simp [R,this]⟩
   ·obtain⟨e1,hv⟩:=UB hv;cases hv;rw [e1] at hX;simp only [R] at hX;exact⟨_,by rw [hX];simp [Builtin.len_,bU hu,goInt];rfl,by simp [R]⟩
end
section
variable {P:Program} {m:Mp} {w:Wo}
def SL (h:bM P t=some n):P.cellsOf t=n:=by
 obtain⟨i,h1,h2⟩:=sC h;simp [Program.cellsOf,h1,h2]
def PE {s cells:Nat} (hs:P.cellsOf e=s) (h0:0<s) (ho:off%s=0) (hn:off+n*s≤cells):liesAt P P.depth e (cells/P.cellsOf e) off e n=true:=by
 have hd:P.depth=(2*(P.types.size+Made.depth)+1)+1:=rfl;have h1:off/s+n≤cells/s:=by
  rw [Lb h0,dI];have:=lG off s;rw [ho,bZ] at this;omega
 have h2:s≠0:=by omega
 rw [hd];simp only [liesAt,gT];left;rw [hd];simp [rowAt,hs,h2,ho,h1,sameLayout]
def Aa {h:H} (k:HR m h w) {b:Id} {o:Nat} {v:V} {l:Loc} (hl:m b=some l) (hv:rd1 h b o=some v):∃C t fz,w.heap[l.blk]?=some (.cells C t fz)∧l.base+o<C.size:=by
 unfold rd1 at hv;cases hb:aB b h.mem with
 |none=>rw [hb] at hv;cases hv
 | some ob=>
  rw [hb] at hv;cases ob with
  |map _ _=>cases hv
  |miter _ _ _ _=>cases hv
  | cells sz els f ro=>
   have a1:(Option.rec (motive:=fun _=>Option V) none (fun el=>lP el (Nat.mod o sz)) (mM els (Nat.div o sz)):Option V)=some v:=hv;rw [wY] at a1;cases he:els[Nat.div o sz]? with
   |none=>rw [he] at a1;cases a1
   | some el=>
    rw [he] at a1;have a6:lP el (o%sz)=some v:=a1;rw [sL] at a6;obtain⟨l2,hl2,C,t2,fz,hcs⟩:=k.obj _ _ hb;rw [hl] at hl2;cases hl2;have b1:=(aO.1 a6).1;have a3:=hcs.each el (aP he);have hf:=flat_get hcs.each he (o%sz) (by omega);rw [a6] at hf;obtain⟨u',hu',_,_⟩:=hcs.val _ _ hf;have hi:Nat.div o sz*sz+o%sz=o:=by
     have:=lG o sz;rw [bZ] at this;exact this
    rw [hi] at hu';exact⟨C,t2,fz,hcs.at_,(aM.1 hu').1⟩
def ET (h:w.heap[B]?=some (.cells C t fz)):w.shape? B=some (t,C.size):=by simp [World.shape?,h]
def XM {h:H} (k:HR m h w) {s d t:TypeId} {n o:Nat} {b:Id} {u:Value} {v:V} (hs:P.underlying s=some (.pointer t)) (hd:P.underlying d=some .unsafePointer) (hn:bM P t=some (n+1))
  (hx:R m (.p b o) u) (hv:rd1 h b o=some v):(convert s d u).run P w= .ok u w:=by
 simp only [R] at hx;obtain⟨l,hl,rfl⟩:=hx;obtain⟨C,t2,fz,h1,h2⟩:=Aa k hl hv;have a5:=ET h1;have h3:¬C.size≤l.base+o:=by omega
 simp [convert,bU hs,bU hd,Conv.unsafePointer,Conv.seenAt,viewAt,a5,cellsIn,iK hn,h3]
def Fh {h:H} (k:HR m h w) {s d u:TypeId} {sz o a2 ty:Nat} {b f:Id} {els:List (List V)} {x:Value} (hs:P.underlying s=some .unsafePointer) (hd:P.underlying d=some (.pointer u)) (hn:bM P u=some (sz+1))
  (hx:R m (.p b o) x) (hb:aB b h.mem=some (.cells a2 els f (.rw ty))) (h1:a2=sz+1) (h2:ty=u) (h3:o%a2=0) (h4:o/a2<els.length):(convert s d x).run P w= .ok x w:=by
 simp only [R] at hx;obtain⟨l,hl,rfl⟩:=hx;obtain⟨l2,hl2,C,t,fz,hc⟩:=k.obj _ _ hb;rw [hl] at hl2;cases hl2;have ht:=hc.typ ty rfl;subst h1;subst h2;subst ht;have a5:=ET hc.at_;have b0:=flat_len hc.each;have a7:=hc.room;have a3:=hc.len;have a8:=hc.al;have a4:(o/(sz+1)+1)*(sz+1)≤els.length*(sz+1):=fE _ h4;have a9:o/(sz+1)*(sz+1)=o:=by
  have:=lG o (sz+1);rw [h3,bZ] at this;simpa using this
 rw [dI,a9] at a4;have a0:=PE (P:=P) (cells:=C.size) (off:=l.base+o) (n:=1) (SL hn) (UZ _) (by rw [Nat.add_mod,a8,h3];simp) (by omega);simp [convert,bU hs,bU hd,Conv.unsafePointer,Conv.seenAt,viewAt,a5,iK hn,variablesAt,a0]
end
section
variable {P:Program} {m:Mp} {w:Wo}
def RK {st:Nat}:∀{es:List Ent} {xs:List MapEntry} {e:Ent},bQ m es xs→xT st es=some e→∃x,xs.find? (·.born==st)=some x∧EntR m e x
 | [],xs,e,h,he=>by cases he
 | a::es,xs,e,h,he=>by
  obtain⟨x,xs',rfl,hx,hxs⟩:=h;unfold xT at he;cases hb:Nat.beq a.born st with
  |true=>
   rw [hb] at he;cases he;have:(x.born==st)=true:=by rw [hx.2.2];simpa using bE hb
   exact⟨x,by simp [List.find?,this],hx⟩
  | false=>
   rw [hb] at he;have:(x.born==st)=false:=by
    rw [hx.2.2];simp;intro h;subst h;simp at hb
   obtain⟨y,h1,h2⟩:=RK hxs he;exact⟨y,by simp [List.find?,this,h1],h2⟩
def PH:∀(l:List Nat),qT l=(⟨l⟩:Array Nat).back?
 | []=>by simp [qT]
 | [a]=>by simp [qT]
 |a::b::l=>by
  have:qT (a::b::l)=qT (b::l):=rfl;rw [this,PH (b::l)];simp [List.getLast?_cons]
def zQ {b:Nat} {o:Obj} (hb:w.heap[b]?=some o) (hn:∀c t f,o≠ .cells c t f):(getObj b).run P w= .ok o w:=by
 cases o<;>first|exact absurd rfl (hn _ _ _)|simp [getObj,Sem.run,hb]
def Gk {h:H} (hr:HR m h w) {b:Id} {l:Loc} (hl:m b=some l) {v:V} (hv:HW h b=some v):∃u,(Instr.entry (.pointer (some ⟨l.blk,l.base+0,none⟩))).run P w= .ok u w∧R m v u:=by
 unfold HW at hv;split at hv
 ·rename_i mi a9 seen a7 hb;obtain⟨l1,hl1,h0,lm,hlm,hit⟩:=hr.obj _ _ hb;rw [hl] at hl1;cases hl1;cases hs:qT seen with
  |none=>rw [hs] at hv;cases hv
  | some st=>
   cases he:iM h mi with
   |none=>rw [hs,he] at hv;cases hv
   | some p=>
    obtain⟨es,clock⟩:=p;rw [hs,he] at hv;simp only at hv;cases hc:Nat.beq clock a7 with
    |false=>rw [hc] at hv;cases hv
    | true=>
     rw [hc] at hv;simp only [cQ] at hv;have b1:=bE hc;cases ha:xT st es with
     |none=>rw [ha] at hv;cases hv
     | some en=>
      rw [ha] at hv;cases hv;obtain⟨l2,es',_,hl2,hm,hes⟩:=pN hr he;rw [hlm] at hl2;cases hl2;obtain⟨x,hx1,hx2⟩:=RK hes ha;rw [PH] at hs;refine⟨.tuple #[x.key,x.val],?_,?_⟩
      ·rw [h0];have a6:(⟨es'⟩:Array MapEntry).find? (fun x=>x.born==st)=some x:=by simpa using hx1
       simp only [Instr.entry,bF,zQ hit (by simp),cK,hs,run_getMap hm];simp [b1,a6]
      ·simp only [R,Rl];exact⟨_,rfl,_,_,rfl,hx2.1,_,_,rfl,hx2.2.1,rfl⟩
 ·cases hv
def BM {e:Env} (k:bL m n e a) (hg:Gl P m) {h:H} (hr:HR m h w) {o:Oper} (a0:o.op.operands.toList.all (cS P n)=true) {v:V}
  (hv:(pF P o.op).run e h=some v):∃u,(execOp a.eval o).run P w= .ok (.value u) w∧R m v u:=by
 have vv:∀{s:Sem Value},(∃u,s.run P w= .ok u w∧R m v u)→∃u,(do pure (Next.value (←s)):Sem Next).run P w= .ok (.value u) w∧R m v u:=by
  rintro s ⟨u,h1,h2⟩;exact⟨u,by simp [h1],h2⟩
 obtain⟨dst,op,type,pos,after,guard⟩:=o;simp only at a0 hv;cases op<;>simp only [Op.operands] at a0<;>simp only [pF] at hv<;>(try (cases hv;done))
 case move x=>
  cases hv;exact⟨_,rfl,cX k hg (by simpa using a0)⟩
 case assign x=>
  cases hv;exact⟨_,rfl,cX k hg (by simpa using a0)⟩
 case pick c x y=>
  simp at a0;obtain⟨b,e1,hv⟩:=UD hv;have hc:=cX k hg a0.1;rw [e1] at hc;have hc:=R_b hc;rcases pH hv with⟨hb,hv⟩|⟨hb,hv⟩<;>cases hv
  ·subst hb;exact⟨_,by simp [execOp,hc,asBool],cX k hg a0.2.1⟩
  ·subst hb;exact⟨_,by simp [execOp,hc,asBool],cX k hg a0.2.2⟩
 case build t ps=>
  exact vv (Iw k hg (by simpa using a0) hv)
 case load t x=>
  have hX:=cX k hg (show cS P n x=true by simpa using a0);cases hn:bM P t with
  |none=>rw [hn] at hv;cases ha:eV P t<;>rw [ha] at hv<;>cases hv
  |some sz=>
   obtain⟨d,hd⟩:=uC hn;refine vv (OU hr hd hn hX ?_);rw [hn] at hv;cases ha:eV P t<;>rw [ha] at hv<;>exact hv
 case nilCheck x=>
  have hX:=cX k hg (show cS P n x=true by simpa using a0);rcases IZ hv with⟨b,o,e1,hv⟩|⟨_,hv⟩
  ·cases hv;rw [e1] at hX;obtain⟨l,hl,hu⟩:=R_p hX;refine⟨a.eval x,by simp only [execOp,hu];rfl,hX⟩
  ·split at hv
   ·rename_i f A B e1;cases hv;rw [e1] at hX;refine⟨a.eval x,?_,hX⟩;simp only [R] at hX;obtain⟨a',c',hu,_⟩:=hX;simp only [execOp,hu];rfl
   ·rename_i b e1;cases hv;rw [e1] at hX;refine⟨a.eval x,?_,hX⟩;simp only [R] at hX;obtain⟨l,_,hu⟩:=hX;simp only [execOp,hu];rfl
   ·rename_i e1;cases hv;rw [e1] at hX;refine⟨a.eval x,?_,hX⟩;simp only [R] at hX;simp only [execOp,hX];rfl
   ·cases hv
 case binOp op t x y yt=>
  simp at a0;exact vv (Jf k hg hr a0.1 a0.2 hv)
 case unOp op t x=>
  have hX:=cX k hg (show cS P n x=true by simpa using a0);refine vv ?_;cases op<;>simp only [unC] at hv<;>(try (cases hv;done))
  ·obtain⟨b,e1,hv⟩:=UD hv;cases hv;rw [e1] at hX;have hX:=R_b hX;exact⟨_,by rw [hX];simp [Op.unary];rfl,by simp [R]⟩
 case convert s d x=>
  have hX:=cX k hg (show cS P n x=true by simpa using a0);refine vv ?_;split at hv
  ·rename_i ds kk hs hd;obtain⟨k1,A,e1,hv⟩:=oJ hv;cases hv;rw [e1] at hX;have hX:=R_i hX;exact⟨_,by rw [hX];simp only [convert,bF,bU hs,bU hd,cK,Conv.intToInt,cH];rfl,by simp [R,KN]⟩
  ·rename_i t hs hd;split at hv
   ·rename_i n0 a5;obtain⟨b,o,e1,hv⟩:=tG hv;rw [e1] at hX;cases hrd:rd1 h b o with
    |none=>rw [hrd] at hv;cases hv
    |some v0=>
     rw [hrd] at hv;cases hv;exact⟨a.eval x,XM hr hs hd a5 hX hrd,hX⟩
   ·cases hv
  ·rename_i u hs hd;split at hv
   ·rename_i sz a5;obtain⟨b,o,e1,hv⟩:=tG hv;rw [e1] at hX;split at hv
    ·rename_i b2 els f ty hb;obtain⟨hc,hv⟩:=kL hv;cases hv;simp only [aN] at hc;obtain⟨c1,c2,c3,c4⟩:=hc;exact⟨a.eval x,Fh hr hs hd a5 hX hb (bE c1) (bE c2) (bE c3) (by have:=cN c4;rw [xJ] at this;exact this),hX⟩
    ·cases hv
   ·cases hv
  ·cases hv
 case makeFunc fn f c=>
  cases hv;have a2:=a0;refine vv ⟨.func fn (f.map a.eval) (c.map a.eval),rfl,?_⟩;simp only [R];refine⟨f.toList.map a.eval,c.toList.map a.eval,by congr 1<;>(apply lH.1;simp),uH k hg ?_,uH k hg ?_⟩
  ·rw [jI];intro x hx;have:=jI.1 a2 x (by simp [hx]);exact this
  ·rw [jI];intro x hx;have:=jI.1 a2 x (by simp [hx]);exact this
 case slice t x lo hi mx=>
  cases mx with
  |some _=>cases hv
  |none=>
   refine vv (YD k hg ?_ ?_ ?_ hv)
   ·simp at a0;exact a0.1
   ·rintro y rfl;simp at a0;exact a0.2.1
   ·rintro y rfl;simp at a0;exact a0.2.2
 case fieldAddr t x i=>
  have hX:=cX k hg (show cS P n x=true by simpa using a0);refine vv ?_;cases hu:P.underlying t with
  |none=>rw [hu] at hv;cases hv
  | some ds=>
   rw [hu] at hv;cases ds<;>simp only at hv<;>(try (cases hv;done));rename_i fs;cases hf:sM fs.toList i with
   |none=>rw [hf] at hv;cases hv
   | some f=>
    rw [hf] at hv;simp only at hv;split at hv
    ·rename_i sz hs;obtain⟨b,o,e1,hv⟩:=tG hv;cases hv;rw [e1] at hX;obtain⟨l,hl,hu2⟩:=R_p hX;rw [GF] at hf;have a3:fs[i]?=some f:=by simpa using hf
     refine⟨.pointer (some ⟨l.blk,l.base+o+f.offset,none⟩),?_,?_⟩
     ·rw [hu2];simp [Instr.fieldAt,bU hu,a3,Instr.sureAddr,fieldPlace,iK hs,oK]
     ·simp only [R];exact⟨l,hl,by rw [nG];rfl⟩
    ·cases hv
 case field t x i=>
  have hX:=cX k hg (show cS P n x=true by simpa using a0);refine vv ?_;cases hu:P.underlying t with
  |none=>rw [hu] at hv;cases hv
  | some ds=>
   rw [hu] at hv;cases ds<;>simp only at hv<;>(try (cases hv;done));rename_i fs;cases hf:sM fs.toList i with
   |none=>rw [hf] at hv;cases hv
   | some f=>
    rw [hf] at hv;simp only at hv;cases hs:bM P f.type with
    |none=>rw [hs] at hv;cases hv
    |some sz=>
     rw [hs] at hv;simp only at hv;obtain⟨l,e1,hv⟩:=Ke hv;rw [e1] at hX;obtain⟨l',hu2,hl,hsc⟩:=oL hX;obtain⟨d2,hd2⟩:=uC hs;obtain⟨u,h1,h2⟩:=sI (w:=w) hd2 hs hl hsc hv;rw [GF] at hf;have a3:fs[i]?=some f:=by simpa using hf
     exact⟨u,by rw [hu2];simp [Instr.field,bU hu,a3,asAgg,h1],h2⟩
 case indexAddr t x ix=>
  simp at a0;have hX:=cX k hg a0.1;have hI:=cX k hg a0.2;refine vv ?_;cases hu:P.underlying t with
  |none=>rw [hu] at hv;cases hv
  | some ds=>
   rw [hu] at hv;cases ds<;>simp only at hv<;>(try (cases hv;done))
   case slice el=>
    split at hv
    ·rename_i sz hs;obtain⟨b,o,len,z,e1,hv⟩:=Jy hv;obtain⟨kk,j,e2,hv⟩:=DL hv;obtain⟨hj,hv⟩:=kL hv;cases hv;have hj:=cN hj;rw [e1] at hX;simp only [R] at hX;obtain⟨l,cap,hl,hu2,_⟩:=hX;rw [e2] at hI;have hI:=R_i hI;refine⟨.pointer (some ⟨l.blk,l.base+o+j*(sz+1),none⟩),?_,?_⟩
     ·rw [hu2,hI];have hc:(0:Int)≤(j:Int)∧(j:Int)<(len:Int):=⟨by omega,by omega⟩;simp [Instr.indexAt,asIntOf,bU hu,iK hs,hc,oK];omega
     ·simp only [R];exact⟨l,hl,by rw [nG];rfl⟩
    ·cases hv
   case array len el=>
    split at hv
    ·rename_i sz hs;obtain⟨b,o,e1,hv⟩:=tG hv;obtain⟨kk,j,e2,hv⟩:=DL hv;obtain⟨hj,hv⟩:=kL hv;cases hv;have hj:=cN hj;rw [e1] at hX;obtain⟨l,hl,hu2⟩:=R_p hX;rw [e2] at hI;have hI:=R_i hI;refine⟨.pointer (some ⟨l.blk,l.base+o+j*(sz+1),none⟩),?_,?_⟩
     ·rw [hu2,hI];have hc:(0:Int)≤(j:Int)∧(j:Int)<(len:Int):=⟨by omega,by omega⟩;simp [Instr.indexAt,asIntOf,bU hu,iK hs,hc,oK,Instr.sureAddr];omega
     ·simp only [R];exact⟨l,hl,by rw [nG];rfl⟩
    ·cases hv
 case index t x ix=>
  simp at a0;have hX:=cX k hg a0.1;have hI:=cX k hg a0.2;refine vv ?_;cases hu:P.underlying t with
  |none=>rw [hu] at hv;cases hv
  | some ds=>
   rw [hu] at hv;cases ds<;>simp only at hv<;>(try (cases hv;done))
   case string=>
    obtain⟨len,c,e1,hv⟩:=yK hv;obtain⟨kk,j,e2,hv⟩:=DL hv;obtain⟨hj,hv⟩:=kL hv;cases hv;have hj:=cN hj;rw [e1,R_str] at hX;obtain⟨s,hs,hb,_⟩:=hX;rw [e2] at hI;have hI:=R_i hI;obtain⟨b,h1,h2⟩:=Ea hb (show j<len by omega);refine⟨.int .u8 b.toNat,?_,by simp only [R];rw [←h2];rfl⟩;rw [hs,hI];have hc:(0:Int)≤(j:Int):=by omega
    simp only [Instr.index,asIntOf,bF,cH,cK,bU hu];have hz:(0:Int)≤Int.ofNat j:=by simp
    rw [if_pos hz,show(Int.ofNat j).toNat=j from rfl,h1];rfl
 case lookup t x ix ok=>
  simp at a0;have hX:=cX k hg a0.1;have hI:=cX k hg a0.2;refine vv ?_;unfold lookC at hv;cases hu:P.underlying t with
  |none=>rw [hu] at hv;cases hv
  | some ds=>
   rw [hu] at hv;cases ds<;>simp only at hv<;>(try (cases hv;done));rename_i kt et;cases hz:gC P et with
   |none=>rw [hz] at hv;cases hv
   | some z=>
    rw [hz] at hv;simp only at hv;rcases JA hv with⟨b,e1,hv⟩|⟨_,hv⟩
    ·cases he:iM h b with
     |none=>rw [he] at hv;cases hv
     |some p=>
      obtain⟨es,c⟩:=p;rw [he] at hv;obtain⟨l,es',_,hl,hm,hes⟩:=pN hr he;rw [e1] at hX;simp only [R] at hX;obtain⟨l2,hl2,hs⟩:=hX;rw [hl] at hl2;cases hl2;exact OS hr hu hz hI hes (.inl ⟨_,_,hs,hm⟩) hv
    ·obtain⟨e1,hv⟩:=UB hv;rw [e1] at hX;simp only [R] at hX;exact OS hr hu hz hI (xs:=[]) (by simp [bQ]) (.inr ⟨hX,rfl⟩) hv
 case entry x=>
  have hX:=cX k hg (show cS P n x=true by simpa using a0);refine vv ?_;obtain⟨b,o,e1,hv⟩:=tG hv;obtain⟨ho,hv⟩:=kL hv;have ho:=bE ho;subst ho;rw [e1] at hX;obtain⟨l,hl,hu⟩:=R_p hX;rw [hu];exact Gk hr hl hv
 case extract x i=>
  have hX:=cX k hg (show cS P n x=true by simpa using a0);refine vv ?_;obtain⟨l,e1,hv⟩:=Jv hv;rw [e1] at hX;obtain⟨l',hu,hl⟩:=R_tup hX;rw [sL] at hv;obtain⟨u,h1,h2⟩:=hl.get hv;have b0:(⟨l'⟩:Array Value)[i]?=some u:=by simpa using h1
  exact⟨u,by rw [hu];simp [Instr.extract,b0],h2⟩
 case call c=>
  obtain⟨callee,args,argTypes⟩:=c;have bi:∀{b:Builtin} {s:Sem Value},callee= .builtin b→(∀cs,builtin b argTypes type cs (args.map a.eval)=(do pure (.value (←s))))→(∃u,s.run P w= .ok u w∧R m v u)→
    ∃u,(execOp a.eval { dst:=dst,op:=.call { callee:=callee,args:=args,argTypes:=argTypes },type:=type,pos:=pos,after:=after,guard:=guard }).run P w= .ok (.value u) w∧R m v u:=by
   rintro b s rfl hb ⟨u,h1,h2⟩;refine⟨u,?_,h2⟩;simp only [execOp,resolve,bF,cH,cK,invoke,hb,h1]
  have a1:args.toList.all (cS P n)=true:=by
   rw [jI] at a0 ⊢;intro x hx;exact a0 x (by simp [Call.operands,hx])
  unfold callL at hv;simp only at hv;split at hv
  ·rename_i x t ts e2 e3;obtain⟨args⟩:=args;obtain⟨argTypes⟩:=argTypes;simp only at e2 e3;subst e2;subst e3;refine bi rfl (fun _=>rfl) ?_;have:=Dm (ts:=ts) (ty:=type) hr k hg (by simpa using a1) hv;simpa using this
  ·rename_i x e2;obtain⟨args⟩:=args;simp only at e2;subst e2;refine bi rfl (fun _=>rfl) ?_;have hX:=cX k hg (show cS P n x=true by simpa using a1);have a4:(⟨[x]⟩:Array Operand).map a.eval=#[a.eval x]:=by simp
   rw [a4];rcases DH hv with⟨b,o,l,z,e4,hv⟩|⟨_,hv⟩
   ·obtain⟨a8,hv⟩:=kL hv;cases hv;have a8:=cN a8;rw [e4] at hX;simp only [R] at hX;obtain⟨ll,cap,hll,hs,hlc,_⟩:=hX;rw [hs];exact⟨_,Lib.run_unsafeSliceData_row w _ _ _ _ _ (by omega),by simp only [R];exact⟨ll,hll,rfl⟩⟩
   ·obtain⟨e4,hv⟩:=Jx hv;cases hv;rw [e4] at hX;simp only [R] at hX;rw [hX];exact⟨_,Lib.run_unsafeSliceData_nil w _ _ _ _,by simp [R]⟩
  ·rename_i x l e2;obtain⟨args⟩:=args;simp only at e2;subst e2;simp only [qB,aN] at a1;obtain⟨u,h1,h2⟩:=ON (P:=P) (w:=w) _ _ (cX k hg a1.1) (uH k hg a1.2) hv;exact bi rfl (fun _=>rfl) ⟨u,by simpa [Builtin.max_] using h1,h2⟩
  ·rename_i x l e2;obtain⟨args⟩:=args;simp only at e2;subst e2;simp only [qB,aN] at a1;obtain⟨u,h1,h2⟩:=OJ (P:=P) (w:=w) _ _ (cX k hg a1.1) (uH k hg a1.2) hv;exact bi rfl (fun _=>rfl) ⟨u,by simpa [Builtin.min_] using h1,h2⟩
  ·cases hv
end
section
variable {P:Program} {m:Mp} {w:Wo}
def AW {h:H} {ob:Id→O} {vf:Id→V} {v:V} (hn:sO h ob vf= .ok v h'):∃nx,h.next.succ=some nx∧v=vf h.next∧h'=⟨dS h.next (some (ob h.next)) h.mem,h.fams,nx⟩:=by
 obtain⟨mem,fams,next⟩:=h;unfold sO at hn;simp only at hn;cases hs:next.succ with
 |none=>rw [hs] at hn;cases hn
 |some nx=>rw [hs] at hn;cases hn;exact⟨nx,by simpa using hs,rfl,rfl⟩
def xA {h:H} (k:HR m h w) {sz:Nat} {els:List (List V)} {vf:Id→V} {v:V} {t0:TypeId} (hn:mN t0 h sz els vf= .ok v h') (he:∀el∈els,el.length=sz)
  {us:Lv} (hR:Rl m els.flatten us) (hs:∀x∈us,dR x) {C:Array Value} {extra:Lv} (hC:C.toList=us++extra) (t:TypeId) (fz:Nat × Nat)
  (a4:fz.1=fz.2∨(sz=1∧C.size≤fz.1)) (ht:t0=t:=by rfl):
  ∃m',Fr m h w m' h' { w with heap:=w.heap.push (.cells C t fz) }∧m' h.next=some ⟨w.heap.size,0,C.size⟩∧v=vf h.next:=by
 obtain⟨nx,hnx,rfl,rfl⟩:=AW hn;have a0:C.size=us.length+extra.length:=by rw [←cZ,hC];simp
 refine⟨_,Fr.new k hnx (.cells C t fz) (.cells sz els h.next (.rw t0)) ⟨w.heap.size,0,C.size⟩ rfl (fun _ _ _ _ e=>by cases e;rfl) (by simp [jJ]) ?_,by simp,rfl⟩;intro m' hm w' a5;refine⟨C,t,fz,⟨a5,by simp,?_,he,?_,?_,?_,fun ty e=>by cases e;exact ht.symm,DU _⟩⟩
 ·show els.flatten.length≤C.size;rw [←hR.length];omega
 ·intro i x hx;obtain⟨u,hu,hRu⟩:=hR.get hx;have hi:=(aO.1 hu).1;refine⟨u,?_,hRu.mono hm,hs u (aP hu)⟩;show C[0+i]?=some u;rw [bT,←iT,hC,fF hi,hu]
 ·intro _ i hi;show¬(fz.1≤0+i∧0+i<fz.2);have a6:i<C.size:=hi;rcases a4 with h1|⟨_,h2⟩<;>omega
 ·intro _ hz;rcases a4 with h1|⟨h1,_⟩
  ·exact h1
  ·exact absurd h1 hz
def cM (P:Program) (r:Result Next) (m:Mp) (h:H) (w:Wo) (v:V) (h':H):Prop:=
 (∃u w' m',(r= .ok (.value u) w'∨(r= .ok .skip w'∧u=undef))∧Fr m h w m' h' w'∧R m' v u)∨
 (∃f us,r= .ok (.enter f us) w∧Calls P f us w (fun e w'=>∃u m',e= .returned u∧Fr m h w m' h' w'∧R m' v u))
def Ko {h:H} (k:HR m h w) {t:TypeId} {z v:V} {c:List V} (hz:gC P t=some z) (hc:dT z=some c) (hn:mN t h (eF c) [c] (fun i=>.p i 0)= .ok v h'):
  ∃u w' m',(Instr.alloc t true (.tuple #[])).run P w= .ok u w'∧Fr m h w m' h' w'∧R m' v u:=by
 obtain⟨uz,hzr,rfl,_⟩:=mH (w:=w) hz;obtain⟨c',h1,h2,h3⟩:=rB (m:=m) hc;obtain⟨m',hf,hm,rfl⟩:=xA k hn (by simp [kK]) (us:=c') (by simpa using h2) h3 (C:=uz.cells) (extra:=[]) (by rw [h1];simp) t (0,0) (.inl rfl);refine⟨.pointer (some ⟨w.heap.size,0,none⟩),_,m',?_,hf,?_⟩
 ·simp [Instr.alloc,hzr,newVar,newRow]
 ·simp only [R];exact⟨_,hm,rfl⟩
def Iz {h:H} (k:HR m h w) {t:TypeId} {x v:V} {u:Value} {c:List V} (hx:R m x u) (hc:dT x=some c) (hn:mN t h (eF c) [c] (fun i=>.p i 0)= .ok v h'):
  ∃u' w' m',(Instr.box t u).run P w= .ok u' w'∧Fr m h w m' h' w'∧R m' v u':=by
 obtain⟨c',h1,h2,h3⟩:=yB hx hc;obtain⟨m',hf,hm,rfl⟩:=xA k hn (by simp [kK]) (us:=c') (by simpa using h2) h3 (C:=u.cells) (extra:=[]) (by rw [h1];simp) t (0,0) (.inl rfl);refine⟨.pointer (some ⟨w.heap.size,0,none⟩),_,m',?_,hf,?_⟩
 ·simp [Instr.box,newVar,newRow]
 ·simp only [R];exact⟨_,hm,rfl⟩
def Rl.rep {zc:List V} {a1:Lv} (h:Rl m zc a1):∀n,Rl m ((kF zc n).flatten) ((List.replicate n a1).flatten)
 |0=>by simp [kF,Rl]
 |n+1=>by simp only [kF,jW,nH];exact h.append (Rl.rep h n)
def zW {a1:Lv} (h:∀x∈a1,dR x) (n:Nat):∀x∈(List.replicate n a1).flatten,dR x:=by
 intro x hx;simp only [List.mem_flatten,yX] at hx;obtain⟨l,⟨_,rfl⟩,hx⟩:=hx;exact h x hx
def zF (z:Array Value) (n:Nat) (hz:0<z.size):((Array.range (n*z.size)).map (z[· %z.size]!)).toList=(List.replicate n z.toList).flatten:=by
 apply zA;intro i;have a0:∀n,((List.replicate n z.toList).flatten).length=n*z.size:=by
  intro n;induction n with
  |zero=>simp
  |succ n ih=>simp [nH,iC];omega
 have a3:∀n i,i<n*z.size→((List.replicate n z.toList).flatten)[i]?=z.toList[i%z.size]?:=by
  intro n
  induction n with
  |zero=>intro i hi;simp at hi
  | succ n ih=>
   intro i hi;rw [nH,jW]
   by_cases h:i<z.size
   ·rw [fF (by simpa using h),rM h]
   ·rw [eO (by simpa using h),cZ,ih (i-z.size) (by rw [iC] at hi;omega)];congr 1;rw [←Nat.mod_eq_sub_mod (by omega)]
 by_cases h:i<n*z.size
 ·rw [a3 n i h];have hm:i%z.size<z.size:=mB _ hz;simp [h,hm]
 ·rw [nK (by simp;omega),nK (by rw [a0];omega)]
def wN {α:Type} (x:α):∀n,kF x n=List.replicate n x
 |0=>rfl
 |n+1=>by rw [kF,wN x n,nH]
def IG {sz:Nat}:∀(n:Nat) (l:List V),l.length=n*sz→(oF sz n l).flatten=l∧(∀el∈oF sz n l,el.length=sz)∧(oF sz n l).length=n
 |0,l,h=>by simp at h;subst h;simp [oF]
 | n +1,l,h=>by
  rw [iC] at h;have hd:(eD sz l).length=n*sz:=by rw [iY];simp;omega
  obtain⟨h1,h2,h3⟩:=IG n (eD sz l) hd;have ht:jK sz l=some (l.take sz):=by
   have:∀(k:Nat) (l:List V),k≤l.length→jK k l=some (l.take k):=by
    intro k
    induction k with
    |zero=>intro l _;rfl
    | succ k ih=>
     intro l hl;cases l with
     |nil=>simp at hl
     |cons a l=>
      have e:jK (k+1) (a::l)=Option.rec (motive:=fun _=>Option (List V)) none (fun x=>some (a::x)) (jK k l):=rfl;rw [e,ih l (by simpa using hl)];rfl
   exact this sz l (by omega)
  unfold oF;rw [ht];refine⟨?_,?_,by simp [h3]⟩
  ·simp only [yR,jW];rw [h1,iY,rP]
  ·intro el a2;simp only [yR,cD] at a2;rcases a2 with rfl|a2
   ·simp;omega
   ·exact h2 el a2
end
section
variable {P:Program} {m:Mp} {w:Wo}
def YP (h:dR v):v.oneCell'=true:=by cases v<;>first|rfl|exact h.elim
def YM {b:Nat} (h:w.heap[b]?=some (.cells C t fz)):
  w.setCell ⟨b,o,none⟩ v={ w with heap:=w.heap.setIfInBounds b (.cells (C.setIfInBounds o v) t fz) }:=by
 unfold World.setCell;have hb:b<w.heap.size:=(aM.1 h).1;congr 1;apply vX;intro i;simp only [oR,mG]
 by_cases e:b=i
 ·subst e;have a5:=(aM.1 h).2;simp [hb,a5]
 ·simp [e]
def zP {b off:Nat} {t:TypeId} {fz:Nat × Nat}:∀(vs:Lv) (i:Nat) (C:Array Value) (w:Wo),w.heap[b]?=some (.cells C t fz)→off+i+vs.length≤C.size→(∀v∈vs,dR v)→
  (∀j,j<vs.length→¬(fz.1≤off+i+j∧off+i+j<fz.2))→
  (storeCells ⟨b,off,none⟩ vs i).run P w= .ok () { w with heap:=w.heap.setIfInBounds b (.cells ⟨C.toList.take (off+i)++vs++C.toList.drop (off+i+vs.length)⟩ t fz) }
 | [],i,C,w,h,_,_,_=>by
  have hb:b<w.heap.size:=(aM.1 h).1;have a5:=(aM.1 h).2;simp only [storeCells,cH,mC,pY,iI,rP];congr 1;have:w.heap.setIfInBounds b (.cells C t fz)=w.heap:=by
   apply vX;intro j;simp only [mG]
   by_cases e:b=j
   ·subst e;simp [hb,a5]
   ·simp [e]
  show w={ w with heap:=w.heap.setIfInBounds b (.cells C t fz) };rw [this]
 | v::vs,i,C,w,h,hl,hs,hf=>by
  simp only [iE] at hl;have hb:b<w.heap.size:=(aM.1 h).1;have hc:w.cell? ⟨b,off+i,none⟩=some (C[off+i]'(by omega)):=by simp [World.cell?,h,show off+i<C.size by omega]
  have hz:w.frozen? ⟨b,off+i,none⟩=false:=by
   have:=hf 0 (by simp);simp only [iI] at this;simp only [World.frozen?,h];rw [Bool.eq_false_iff];simpa using this
  have h1:(store ((⟨b,off,none⟩:Addr).add i) v).run P w= .ok () (w.setCell ⟨b,off+i,none⟩ v):=by
   rw [oK,run_store P w _ v .plain (YP (hs v (by simp)))];simp [hc,hz]
  have a1:=YM (o:=off+i) (v:=v) h;rw [a1] at h1;have a6:({ w with heap:=w.heap.setIfInBounds b (.cells (C.setIfInBounds (off+i) v) t fz) }:Wo).heap[b]?=some (.cells (C.setIfInBounds (off+i) v) t fz):=by simp [hb]
  have ih:=zP (off:=off) vs (i+1) (C.setIfInBounds (off+i) v) _ a6 (by rw [Array.size_setIfInBounds];omega) (fun x hx=>hs x (by simp [hx])) (fun j hj=>by
   have h9:=hf (j+1) (by simpa using hj);have e9:off+i+(j+1)=off+(i+1)+j:=by omega
   rw [e9] at h9;exact h9)
  simp only [storeCells,bF,h1,cK,ih];congr 1;have b0:off+i<C.toList.length:=by simp;omega
  have e1:(C.setIfInBounds (off+i) v).toList.take (off+(i+1))=C.toList.take (off+i)++ [v]:=by
   rw [KH,←nG,VS,Lm b0];rw [yV _ _ (by simp;omega)];have hm:min (off+i) C.size=off+i:=by simp at b0;omega
   simp [hm]
  have e2:(C.setIfInBounds (off+i) v).toList.drop (off+(i+1)+vs.length)=C.toList.drop (off+i+(vs.length+1)):=by
   rw [KH,Lz (by omega)];congr 1;omega
  rw [e1,e2];simp [Array.setIfInBounds_setIfInBounds]
def LZ (l:List (List V)) (i:Nat) (x:List V):oU l i x=l.set i x:=by
 induction l generalizing i with
 |nil=>rfl
 |cons a l ih=>cases i with
  |zero=>rfl
  |succ i=>show a::oU l i x=_;rw [ih];rfl
def flat_set {sz:Nat}:∀{els:List (List V)} (h:∀el∈els,el.length=sz) {q o:Nat} {el a0 xs:List V},els[q]?=some el→∀{r:Nat},r+xs.length≤sz→a0=el.take r++xs++el.drop (r+xs.length)→q*sz+r=o→
  (els.set q a0).flatten=els.flatten.take o++xs++els.flatten.drop (o+xs.length)
 | [],_,q,o,el,a0,xs,hq,r,hr,he,ho=>by simp at hq
 |x::els,h,0,o,el,a0,xs,hq,r,hr,he,ho=>by
  simp at hq;subst hq;have hx:=h x (by simp);have:o=r:=by omega
  subst this;simp only [List.set_cons_zero,jW,he];rw [JT (by omega),Ma (by omega)];simp
 | x::els,h,q+1,o,el,a0,xs,hq,r,hr,he,ho=>by
  simp at hq;have hx:=h x (by simp);have ih:=flat_set (fun el he=>h el (by simp [he])) hq hr he (o:=q*sz+r) rfl;have c0:o=sz+(q*sz+r):=by rw [←ho,iC];omega
  simp only [VV,jW,ih];have t1:(x++els.flatten).take o=x++els.flatten.take (q*sz+r):=by
   rw [VU,eS (by omega)];congr 2;omega
  have t2:(x++els.flatten).drop (o+xs.length)=els.flatten.drop (q*sz+r+xs.length):=by
   rw [WJ,rS (by omega),oO];congr 1;omega
  rw [t1,t2];simp
def WT {h:H} (k:HR m h w) {b:Id} {o n:Nat} {xs:List V} {xs':Lv} {v:V} {l:Loc} (hl:m b=some l) (hn:xs.length=n) (hx:Rl m xs xs') (hs:∀x∈xs',dR x)
  (hw:wr h b o xs n= .ok v h'):v=cL∧∃w',(storeCells ⟨l.blk,l.base+o,none⟩ xs').run P w= .ok () w'∧Fr m h w m h' w':=by
 unfold wr at hw;cases hb:aB b h.mem with
 |none=>rw [hb] at hw;cases hw
 | some ob=>
  rw [hb] at hw;cases ob with
  |map _ _=>cases hw
  |miter _ _ _ _=>cases hw
  | cells sz els f ro=>
   cases ro with
   |fz=>cases hw
   |fr _=>cases hw
   | rw ty=>
    have a3:(Option.rec (motive:=fun _=>VH) .bad
     (fun el=>Option.rec (motive:=fun _=>VH) .bad
      (fun a0=>.ok cL (eP (gW h f b) b (.cells sz (oU els (Nat.div o sz) a0) f (.rw ty))))
      (Bool.rec (motive:=fun _=>Option (List V)) (iF (Nat.mod o sz) el xs) (some xs) (Nat.beq (Nat.mod o sz) 0&&Nat.beq n sz)))
     (mM els (Nat.div o sz)):VH)= .ok v h':=hw
    rw [wY] at a3;cases he:els[Nat.div o sz]? with
    |none=>rw [he] at a3;cases a3
    | some el=>
     rw [he] at a3;obtain⟨l2,hl2,C,t,fz,hc⟩:=k.obj _ _ hb;rw [hl] at hl2;cases hl2;have a7:=hc.each el (aP he);have b4:∃a0,(Bool.rec (motive:=fun _=>Option (List V)) (iF (Nat.mod o sz) el xs) (some xs) (Nat.beq (Nat.mod o sz) 0&&Nat.beq n sz):Option (List V))=some a0∧
       o%sz+xs.length≤sz∧a0=el.take (o%sz)++xs++el.drop (o%sz+xs.length):=by
      cases ht:(Nat.beq (Nat.mod o sz) 0&&Nat.beq n sz) with
      |true=>
       simp only [aN] at ht;have h1:o%sz=0:=bE ht.1;have h2:n=sz:=bE ht.2;refine⟨xs,rfl,by omega,?_⟩;rw [h1];simp;omega
      | false=>
       cases ho:iF (Nat.mod o sz) el xs with
       | none=>
        exfalso;have:(Option.rec (motive:=fun _=>VH) .bad (fun a0=>.ok cL (eP (gW h f b) b (.cells sz (oU els (Nat.div o sz) a0) f (.rw ty)))) (iF (Nat.mod o sz) el xs):VH)= .ok v h':=by
         simpa [ht] using a3
        rw [ho] at this;cases this
       |some a0=>
        obtain⟨h1,h2⟩:=uG _ _ _ ho;exact⟨a0,rfl,by rw [a7] at h1;exact h1,h2⟩
     obtain⟨a0,hel1,hel2,hel3⟩:=b4;have b9:VH.ok cL (eP (gW h f b) b (.cells sz (oU els (Nat.div o sz) a0) f (.rw ty)))= .ok v h':=by
      have:(Option.rec (motive:=fun _=>VH) .bad (fun a0=>.ok cL (eP (gW h f b) b (.cells sz (oU els (Nat.div o sz) a0) f (.rw ty))))
       (Bool.rec (motive:=fun _=>Option (List V)) (iF (Nat.mod o sz) el xs) (some xs) (Nat.beq (Nat.mod o sz) 0&&Nat.beq n sz)):VH)= .ok v h':=a3
      rw [hel1] at this;exact this
     cases b9;refine⟨rfl,?_⟩;have c3:=hx.length;have hq:o/sz<els.length:=(aO.1 he).1;have b6:=flat_len hc.each;have b3:o/sz*sz+o%sz=o:=by have:=lG o sz;rw [bZ] at this;exact this
     have b8:(o/sz+1)*sz≤els.length*sz:=fE _ hq;have b5:o+xs.length≤els.flatten.length:=by
      rw [b6];rw [iC] at b8;omega
     have a4:=hc.room;have b7:=hc.len;have a8:=zP (P:=P) (b:=l.blk) (off:=l.base+o) (t:=t) (fz:=fz) xs' 0 C w hc.at_ (by omega) hs (fun j hj=>by
      have:=hc.free rfl (o+j) (by omega);rw [show l.base+(o+j)=l.base+o+0+j by omega] at this;exact this)
     refine⟨_,a8,Fr.updCells k hb hl rfl ?_⟩;intro b2;have a1:(oU els (Nat.div o sz) a0).flatten=els.flatten.take o++xs++els.flatten.drop (o+xs.length):=by
      rw [LZ];exact flat_set hc.each he (by omega) hel3 b3
     refine⟨_,t,fz,⟨b2,?_,?_,?_,?_,hc.free,hc.plain,hc.typ,hc.al⟩⟩
     ·have:(⟨C.toList.take (l.base+o+0)++xs'++C.toList.drop (l.base+o+0+xs'.length)⟩:Array Value).size=C.size:=by
       show(C.toList.take (l.base+o+0)++xs'++C.toList.drop (l.base+o+0+xs'.length)).length=C.size;simp only [aI,bJ,dK,cZ];omega
      rw [this];exact a4
     ·rw [a1];simp only [aI,bJ,dK,cZ];omega
     ·intro e0 a9;rw [LZ] at a9;rcases VY a9 with h1|rfl
      ·exact hc.each e0 h1
      ·rw [hel3];simp;omega
     ·intro i x a2;rw [a1] at a2;have b1:∀j:Nat,(⟨C.toList.take (l.base+o+0)++xs'++C.toList.drop (l.base+o+0+xs'.length)⟩:Array Value)[j]?=
        (C.toList.take (l.base+o)++xs'++C.toList.drop (l.base+o+xs'.length))[j]?:=by intro j;simp
      rw [b1]
      by_cases c1:i<o
      ·rw [fO,fF (by simp only [aI,bJ,dK,cZ];omega),iQ c1] at a2;obtain⟨u,h1,h2,h3⟩:=hc.val i x a2;refine⟨u,?_,h2,h3⟩;rw [fO,fF (by simp only [aI,bJ,dK,cZ];omega),iQ (by omega)];simpa using h1
      ·by_cases c2:i<o+xs.length
       ·rw [fO,eO (by simp only [aI,bJ,dK,cZ];omega),fF (by simp only [aI,bJ,dK,cZ];omega)] at a2;have e1:i-(els.flatten.take o).length=i-o:=by simp only [aI,bJ,dK,cZ];omega
        rw [e1] at a2;obtain⟨u,h1,h2⟩:=hx.get a2;refine⟨u,?_,h2,hs u (aP h1)⟩;rw [fO,eO (by simp only [aI,bJ,dK,cZ];omega),fF (by simp only [aI,bJ,dK,cZ];omega),←h1];congr 1;simp only [aI,bJ,dK,cZ];omega
       ·rw [eO (by simp only [aI,bJ,dK,cZ];omega),kR] at a2;have e1:o+xs.length+(i-(els.flatten.take o++xs).length)=i:=by simp only [aI,bJ,dK,cZ];omega
        rw [e1] at a2;obtain⟨u,h1,h2,h3⟩:=hc.val i x a2;refine⟨u,?_,h2,h3⟩;rw [eO (by simp only [aI,bJ,dK,cZ];omega),kR];have e2:l.base+o+xs'.length+(l.base+i-(C.toList.take (l.base+o)++xs').length)=l.base+i:=by simp only [aI,bJ,dK,cZ];omega
        rw [e2];simpa using h1
end
section
variable {P:Program} {m:Mp} {w:Wo}
def Ix {e:Env} (ke:bL m n e a) (hg:Gl P m) {h h':H} (k:HR m h w) {t el:TypeId} {len sz:Nat} {z v:V} {zc:List V} {ps:Array (Nat × Operand)} (hu:P.underlying t=some (.slice el))
  (hx:(ps.toList.map (·.2)).all (cS P n)=true) (hs:bM P el=some (sz+1)) (hz:gC P el=some z) (hc:dT z=some zc) (b4:len*(sz+1)≤16777216) (a4:zc.length=sz+1) {cs:List V}
  (hb:jB (fun i=>some (i*(sz+1),sz+1)) ((kF zc len).flatten) ((lN ps.toList).run e)=some cs)
  (hn:mN el h (sz+1) (oF (sz+1) len cs) (fun i=>.sl i 0 len (sz+1))= .ok v h'):
  ∃u w' m',(Instr.buildSlice t len (ps.map fun(i,x)=>(i,a.eval x))).run P w= .ok u w'∧Fr m h w m' h' w'∧R m' v u:=by
 obtain⟨p1,p2⟩:=AK ke hg hx;have b2:(ps.map fun(i,x)=>(i,a.eval x)).toList=ps.toList.map fun x=>(x.1,a.eval x.2):=by simp
 obtain⟨uz,hzr,rfl,_⟩:=mH (w:=w) hz;obtain⟨a1,h1,h2,h3⟩:=rB (m:=m) hc;have a2:uz.cells.size=sz+1:=by rw [h1];show a1.length=_;rw [h2.length,a4]
 obtain⟨r',hr1,hr2,hr3⟩:=CN _ _ p1 p2 (h2.rep len) (zW h3 len) hb;have a0:((Array.range (len*(sz+1))).map (uz.cells[· %uz.cells.size]!))=⟨(List.replicate len a1).flatten⟩:=by
  apply lH.1;rw [←a2,zF uz.cells len (by omega),h1]
 have a6:cs.length=len*(sz+1):=by
  have hl:∀(ps:List (Nat × V)) (c r:List V),jB (fun i=>some (i*(sz+1),sz+1)) c ps=some r→r.length=c.length:=by
   intro ps
   induction ps with
   |nil=>intro c r h;have:c=r:=aL (by simpa [jB] using h);rw [this]
   | cons p ps ih=>
    intro c r h;obtain⟨i,x⟩:=p;unfold jB at h;simp only at h;cases hq:dT x with
    |none=>rw [hq] at h;cases h
    | some c0=>
     rw [hq] at h;simp only at h;cases hb:Nat.beq (eF c0) (sz+1) with
     |false=>rw [hb] at h;cases h
     | true=>
      rw [hb] at h;simp only [cQ] at h;cases ho:iF (i*(sz+1)) c c0 with
      |none=>rw [ho] at h;cases h
      |some c2=>
       rw [ho] at h;obtain⟨h5,h6⟩:=uG _ _ _ ho;rw [ih _ _ h,h6];simp only [aI,bJ,dK];omega
  have:=hl _ _ _ hb;rw [this,wN];have:∀k,((List.replicate k zc).flatten).length=k*(sz+1):=by
   intro k;induction k with
   |zero=>simp
   |succ k ih=>rw [nH,jW,aI,ih,a4,iC];omega
  exact this len
 obtain⟨c1,c2,c3⟩:=IG len cs a6;obtain⟨m',hf,hm,rfl⟩:=xA k hn c2 (us:=r') (by rw [c1];exact hr2) hr3 (C:=⟨r'⟩) (extra:=[]) (by simp) el (0,0) (.inl rfl);refine⟨.slice (some ⟨w.heap.size,0,none⟩) len len,_,m',?_,hf,?_⟩
 ·have a8:¬(len*(sz+1)>2^24):=by omega
  rw [←b2] at hr1
  by_cases h0:len*(sz+1)=0
  ·have b1:len=0:=by
    rcases Nat.mul_eq_zero.1 h0 with h|h
    ·exact h
    ·omega
   subst b1;simp only [Instr.buildSlice,bF,bU hu,cK,iK hs,yQ,if_neg a8,if_pos h0,cH];have e0:((Array.range (0*(sz+1))).map fun x=>(#[]:Array Value)[x%(#[]:Array Value).size]!)=(⟨(List.replicate 0 a1).flatten⟩:Array Value):=by simp
   simp only [e0,hr1,bF,newRow,JM,cK,cH]
  ·simp only [Instr.buildSlice,bF,bU hu,cK,iK hs,yQ,if_neg a8,if_neg h0,cH,hzr,a0,hr1,newRow,JM]
 ·simp only [R];refine⟨_,len,hm,by simp,aA _,?_⟩;show 0+len*(sz+1)≤r'.length;rw [hr2.length];omega
def Dc {h:H} (k:HR m h w) {t el:TypeId} {sz N M:Nat} {k1 k2:IntKind} {z v:V} {zc:List V} {a3:TypeInfo} (hu:P.underlying t=some (.slice el)) (hs:bM P el=some (sz+1))
  (hz:gC P el=some z) (hc:dT z=some zc) (hi:P.info? el=some a3) (b0:a3.bytes≤1000000) (a4:zc.length=sz+1) (a9:N≤M) (hM:M≤100000)
  (hn:mN el h (sz+1) (kF zc M) (fun i=>.sl i 0 N (sz+1))= .ok v h'):
  ∃u w' m',(Instr.makeSlice t (.int k1 (N:Int)) (.int k2 (M:Int))).run P w= .ok u w'∧Fr m h w m' h' w'∧R m' v u:=by
 obtain⟨uz,hzr,rfl,_⟩:=mH (w:=w) hz;obtain⟨a1,h1,h2,h3⟩:=rB (m:=m) hc;have a2:uz.cells.size=sz+1:=by rw [h1];show a1.length=_;rw [h2.length,a4]
 have a0:((Array.range (M*(sz+1))).map (uz.cells[· %uz.cells.size]!))=⟨(List.replicate M a1).flatten⟩:=by
  apply lH.1;rw [←a2,zF uz.cells M (by omega),h1]
 have a5:∀e0∈kF zc M,e0.length=sz+1:=by
  intro e0 he;rw [wN] at he;rw [(yX.1 he).2,a4]
 obtain⟨m',hf,hm,rfl⟩:=xA k hn a5 (us:=(List.replicate M a1).flatten) (h2.rep M) (zW h3 M) (C:=⟨(List.replicate M a1).flatten⟩) (extra:=[]) (by simp) el (0,0) (.inl rfl);have a6:((List.replicate M a1).flatten).length=M*(sz+1):=by
  have:∀k,((List.replicate k a1).flatten).length=k*(sz+1):=by
   intro k;induction k with
   |zero=>simp
   |succ k ih=>rw [nH,jW,aI,ih,h2.length,a4,iC];omega
  exact this M
 refine⟨.slice (some ⟨w.heap.size,0,none⟩) N M,_,m',?_,hf,?_⟩
 ·have a7:(a3.bytes:Int)*(M:Int)≤281474976710656:=by
   have h9:a3.bytes*M≤1000000*100000:=oN b0 hM;have h8:((a3.bytes*M:Nat):Int)≤281474976710656:=by omega
   simpa using h8
  obtain⟨i2,hi2,hzi⟩:∃i,P.info? el=some i∧i.zero=some uz:=by
   obtain⟨u2,hu2,_,i,hi',hz'⟩:=mH (w:=w) hz;rw [hzr] at hu2;cases hu2;exact⟨i,hi',hz'⟩
  rw [hi] at hi2;cases hi2;have b3:a3.size=sz+1:=by
   obtain⟨i3,hi3,h4⟩:=sC hs;rw [hi] at hi3;cases hi3;exact h4
  have:=run_make (P:=P) w t el a3 uz hu hi hzi k1 k2 (N:Int) (M:Int) (by omega) (by omega) a7 (by omega);rw [this,b3];simp only [zC,madeCells];rw [a0];rfl
 ·simp only [R];refine⟨_,M,hm,by simp,a9,?_⟩;show 0+M*(sz+1)≤((List.replicate M a1).flatten).length;omega
end
section
variable {P:Program} {m:Mp} {w:Wo}
def TP {x y:V} (hk:mP x=true) (h:V.beq x y=true):x=y:=by
 cases x<;>simp only [mP,dX] at hk<;>cases y<;>simp only [V.beq,dX] at h
 case b.b x y=>
  have e0:x=y:=by simpa using h
  rw [e0]
 case i.i k n k' n'=>
  simp only [aN] at h;obtain⟨h1,h2⟩:=h;have e1:k=k':=by cases k<;>cases k'<;>first|rfl|(simp at h1)
  have e2:n=n':=by
   cases n<;>cases n'<;>simp only [dX] at h2
   ·rw [bE h2]
   ·rw [bE h2]
  rw [e1,e2]
 case s.s l c l' c'=>
  simp only [sEq,aN] at h;rw [bE h.1,bE h.2]
 case pn.pn=>rfl
 case p.p b o b' o'=>
  simp only [aN] at h;rw [Id.beq_iff.1 h.1,bE h.2]
 case ni.ni=>rfl
def TN:∀{l r:List V},l.all mP=true→jG l r=true→l=r
 | [],[],_,_=>rfl
 | [],_::_,_,h=>by simp [jG] at h
 |_::_,[],_,h=>by simp [jG] at h
 |a::l,b::r,hk,h=>by
  simp only [qB,aN] at hk;simp only [jG,aN] at h;rw [TP hk.1 h.1,TN hk.2 h.2]
def TO {x y:V} (hk:qU x=true) (h:V.beq x y=true):x=y:=by
 cases x
 case agg l=>
  cases y<;>simp only [V.beq,dX] at h;rw [TN hk h]
 all_goals exact TP (by exact hk) h
def PK {x:V} (hk:mP x=true) (h:R m x u) (h':R m x u'):u=u':=by
 cases x<;>simp only [mP,dX] at hk
 case s l c=>
  rw [R_str] at h h';obtain⟨s,rfl,h1,_⟩:=h;obtain⟨s',rfl,h1',_⟩:=h';rw [Is (h1.trans h1'.symm)]
 case p b o=>
  obtain⟨l,hl,rfl⟩:=R_p h;obtain⟨l',hl',rfl⟩:=R_p h';rw [hl] at hl';cases hl';rfl
 all_goals
  simp only [R] at h h';rw [h,h']
def PJ:∀{l:List V} {u u':Lv},l.all mP=true→Rl m l u→Rl m l u'→u=u'
 | [],u,u',_,h,h'=>by simp only [Rl] at h h';rw [h,h']
 |a::l,u,u',hk,h,h'=>by
  simp only [qB,aN] at hk;simp only [Rl] at h h';obtain⟨x,xs,rfl,h1,h2⟩:=h;obtain⟨x',xs',rfl,h1',h2'⟩:=h';rw [PK hk.1 h1 h1',PJ hk.2 h2 h2']
def Dt {x:V} (hk:qU x=true) (h:R m x u) (h':R m x u'):u=u':=by
 cases x
 case agg l=>
  obtain⟨l1,rfl,h1,_⟩:=oL h;obtain⟨l2,rfl,h2,_⟩:=oL h';rw [PJ hk h1 h2]
 all_goals exact PK (by exact hk) h h'
def PM {x:V} (hk:mP x=true) (h:R m x u) (n:Nat):Instr.sameBits n u u=true:=by
 cases x<;>simp only [mP,dX] at hk
 case s l c=>
  rw [R_str] at h;obtain⟨s,rfl,_⟩:=h;cases n<;>simp [Instr.sameBits,beq_toListBytes]
 case p b o=>
  obtain⟨l,hl,rfl⟩:=R_p h;cases n<;>simp [Instr.sameBits]
 all_goals
  simp only [R] at h;subst h;cases n<;>simp [Instr.sameBits]
def PL:∀{l:List V} {us:Lv},l.all mP=true→Rl m l us→∀n,(us.zip us).all (fun x=>Instr.sameBits n x.1 x.2)=true
 | [],us,_,h,n=>by simp only [Rl] at h;subst h;rfl
 |a::l,us,hk,h,n=>by
  simp only [qB,aN] at hk;simp only [Rl] at h;obtain⟨u,us,rfl,h1,h2⟩:=h;simp only [Lj,qB,aN];exact⟨PM hk.1 h1 n,PL hk.2 h2 n⟩
def Du {x:V} (hk:qU x=true) (h:R m x u) (n:Nat):Instr.sameBits (n+1) u u=true:=by
 cases x
 case agg l=>
  obtain⟨l1,rfl,h1,_⟩:=oL h;have:=PL hk h1 n;simp only [Instr.sameBits,aN];exact⟨by simp,this⟩
 all_goals exact PM (by exact hk) h _
def PI {x:V} (hk:qU x=true) (h:R m x u) (h':R m x u'):(Instr.keyThatStays u u').run P w= .ok u' w:=by
 rw [Dt hk h h'];have:=Du hk h' 9999;simp only [Instr.keyThatStays,this,if_true,cH]
def uE {b:Nat} {o o':Obj} (hb:w.heap[b]?=some o) (hn:∀c t f,o≠ .cells c t f):(setObj b o').run P w= .ok () { w with heap:=w.heap.setIfInBounds b o' }:=by
 cases o<;>first|exact absurd rfl (hn _ _ _)|simp [setObj,Sem.run,hb]
def bQ.set:∀{es:List Ent} {xs:List MapEntry} (i:Nat) {e':Ent} {f:MapEntry→MapEntry},bQ m es xs→(∀y,xs[i]?=some y→EntR m e' (f y))→bQ m (qF es i e') (xs.modify i f)
 | [],xs,i,e',f,h,_=>by simp only [bQ] at h;subst h;simp [qF,bQ]
 |a::es,xs,0,e',f,h,hf=>by
  obtain⟨x,xs,rfl,hx,hxs⟩:=h;simp only [qF,List.modify_zero_cons,bQ];exact⟨_,_,rfl,hf x rfl,hxs⟩
 |a::es,xs,i+1,e',f,h,hf=>by
  obtain⟨x,xs,rfl,hx,hxs⟩:=h;simp only [qF,Ls,bQ];exact⟨_,_,rfl,hx,bQ.set i hxs (fun y hy=>hf y (by simpa using hy))⟩
def bQ.append:∀{es es':List Ent} {xs xs':List MapEntry},bQ m es xs→bQ m es' xs'→bQ m (es++es') (xs++xs')
 | [],_,xs,_,h,h'=>by simp only [bQ] at h;subst h;exact h'
 |a::es,_,xs,_,h,h'=>by
  obtain⟨x,xs,rfl,hx,hxs⟩:=h;simp only [qA,bQ];exact⟨_,_,rfl,hx,hxs.append h'⟩
end
section
variable {P:Program} {m:Mp} {w:Wo}
def xF {h:H} (k:HR m h w) {b:Id} {l:Loc} {es a7:List Ent} {c c2:Nat} {a6:List MapEntry} (hb:aB b h.mem=some (.map es c)) (hl:m b=some l) (a1:bQ m a7 a6):
  Fr m h w m (eP h b (.map a7 c2)) { w with heap:=w.heap.setIfInBounds l.blk (.map ⟨a6⟩ c2) }:=
 Fr.updObj k hb hl (by simp) (by simp) rfl (fun a8=>⟨a6,a8,a1⟩)
def OP {h:H} (k:HR m h w) {t kt et:TypeId} {b:Id} {l:Loc} {key x v:V} {a0 ux:Value} (hu:P.underlying t=some (.map kt et)) (hl:m b=some l) (hk:R m key a0) (hx:R m x ux)
  (hs:BD P kt h b key x= .ok v h'):v=cL∧∃w',(Instr.mapUpdate t (.map (some l.blk)) a0 ux).run P w= .ok () w'∧Fr m h w m h' w':=by
 unfold BD at hs;cases he:iM h b with
 |none=>rw [he] at hs;cases hs
 | some p=>
  obtain⟨es,c⟩:=p;rw [he] at hs;simp only at hs;obtain⟨l2,xs,hb,hl2,hm,a1⟩:=pN k he;rw [hl] at hl2;cases hl2;cases hf:qY P kt h key es with
  |none=>rw [hf] at hs;cases hs
  | some r=>
   rw [hf] at hs;obtain⟨h1,h2,h3⟩:=HP k hk a1 hf false;cases r with
   |none=>
    simp only at hs;cases hs;refine⟨rfl,_,?_,xF k hb hl (a1.append (es':=[⟨key,x,c⟩]) (xs':=[⟨a0,ux,c⟩]) ⟨_,_,rfl,⟨hk,hx,rfl⟩,rfl⟩)⟩;simp only [Instr.mapUpdate,bF,bU hu,cK,run_getMap hm,h1,h2,JN,uE hm (by simp)];simp
   | some p=>
    obtain⟨i,e⟩:=p;simp only at hs;obtain⟨a2,y,hy,hye⟩:=h3 _ rfl;simp only at a2 hy hye;cases hkb:(qU key&&V.beq key e.key) with
    |false=>rw [hkb] at hs;cases hs
    |true=>
     rw [hkb] at hs;cases hs;simp only [aN] at hkb;have a3:=TO hkb.1 hkb.2;have a5:R m key y.key:=by rw [a3];exact hye.1
     refine⟨rfl,_,?_,xF k hb hl (a1.set i (e':=⟨key,x,e.born⟩) (f:=fun z=>{ z with key:=a0,val:=ux }) (fun z hz=>by rw [hy] at hz;cases hz;exact⟨hk,hx,hye.2.2⟩))⟩;have a4:(⟨xs⟩:Array MapEntry)[i]?=some y:=by simpa using hy
     simp only [Instr.mapUpdate,bF,bU hu,cK,run_getMap hm,h1,h2,tL,a4,yR,PI hkb.1 a5 hk,uE hm (by simp)];congr 5;apply lH.1;simp
def Db {h:H} (k:HR m h w) {t kt et:TypeId} {b:Id} {l:Loc} {key z v:V} {a0:Value} (hu:P.underlying t=some (.map kt et)) (hz:gC P et=some z) (hl:m b=some l) (hk:R m key a0)
  (hs:GS P kt z h b key= .ok v h'):∃u w',(Instr.mapEntry t (.map (some l.blk)) a0).run P w= .ok u w'∧Fr m h w m h' w'∧R m v u:=by
 obtain⟨uz,hzr,rfl,_⟩:=mH (w:=w) hz;unfold GS at hs;cases he:iM h b with
 |none=>rw [he] at hs;cases hs
 | some p=>
  obtain⟨es,c⟩:=p;rw [he] at hs;simp only at hs;obtain⟨l2,xs,hb,hl2,hm,a1⟩:=pN k he;rw [hl] at hl2;cases hl2;cases hf:qY P kt h key es with
  |none=>rw [hf] at hs;cases hs
  | some r=>
   rw [hf] at hs;obtain⟨h1,h2,h3⟩:=HP k hk a1 hf false;cases r with
   | none=>
    simp only at hs;cases hs;refine⟨.tuple #[uz,goInt c],_,?_,xF k hb hl (a1.append (es':=[⟨key,cst uz,c⟩]) (xs':=[⟨a0,uz,c⟩]) ⟨_,_,rfl,⟨hk,sV m uz,rfl⟩,rfl⟩),?_⟩
    ·simp only [Instr.mapEntry,bF,bU hu,cK,run_getMap hm,h1,h2,JN,hzr,uE hm (by simp),cH];simp
    ·simp only [R,Rl];exact⟨_,rfl,_,_,rfl,sV m uz,_,_,rfl,rfl,rfl⟩
   | some p=>
    obtain⟨i,e⟩:=p;simp only at hs;obtain⟨a2,y,hy,hye⟩:=h3 _ rfl;simp only at a2 hy hye;cases hkb:(qU key&&V.beq key e.key) with
    |false=>rw [hkb] at hs;cases hs
    | true=>
     rw [hkb] at hs;cases hs;simp only [aN] at hkb;have a3:=TO hkb.1 hkb.2;have a5:R m key y.key:=by rw [a3];exact hye.1
     have a4:(⟨xs⟩:Array MapEntry)[i]?=some y:=by simpa using hy
     have a9:(xs.getD i default).val=y.val:=by simp [KA,hy]
     refine⟨.tuple #[y.val,goInt y.born],_,?_,xF k hb hl (a1.set i (e':=⟨key,e.val,e.born⟩) (f:=fun z=>{ z with key:=a0 }) (fun z hz=>by rw [hy] at hz;cases hz;exact⟨hk,hye.2.1,hye.2.2⟩)),?_⟩
     ·simp only [Instr.mapEntry,bF,bU hu,cK,run_getMap hm,h1,h2,tL,a4,a9,yR,PI hkb.1 a5 hk,uE hm (by simp),cH];congr 5;apply lH.1;simp
     ·simp only [R,Rl];exact⟨_,rfl,_,_,rfl,hye.2.1,_,_,rfl,by rw [hye.2.2];rfl,rfl⟩
def TG {nn:Nat}:∀{es:List Ent} {xs:List MapEntry} (i:Nat) {j:Nat} {e:Ent},bQ m es xs→yD nn es i=some (j,e)→
  i≤j∧es[j-i]?=some e∧(∃y,xs[j-i]?=some y∧EntR m e y)∧xs.findIdx? (fun y=>(y.born:Int)==(nn:Int))=some (j-i)
 | [],xs,i,j,e,h,he=>by cases he
 | a::es,xs,i,j,e,h,he=>by
  obtain⟨x,xs,rfl,hx,hxs⟩:=h;unfold yD at he;cases hb:Nat.beq a.born nn with
  |true=>
   rw [hb] at he;cases he;have h1:((x.born:Int)==(nn:Int))=true:=by rw [hx.2.2,bE hb];simp
   refine⟨aA _,by simp,⟨x,by simp,hx⟩,?_⟩;simp [Lx,h1]
  | false=>
   rw [hb] at he;have h1:((x.born:Int)==(nn:Int))=false:=by
    rw [hx.2.2];simp;intro h;have:a.born=nn:=by omega
    subst this;simp at hb
   obtain⟨i1,i2,⟨y,i3,i4⟩,i5⟩:=TG (i+1) hxs he;have e1:j-i=(j-(i+1))+1:=by omega
   refine⟨by omega,by rw [e1];simpa using i2,⟨y,by rw [e1];simpa using i3,i4⟩,?_⟩;simp only [Lx,h1,i5,e1];rfl
def Gp {h:H} (k:HR m h w) {t:TypeId} {b:Id} {l:Loc} {nn:Nat} {kk:IntKind} {x v:V} {ux:Value} (hl:m b=some l) (hx:R m x ux)
  (hs:HX h b nn x= .ok v h'):v=cL∧∃w',(Instr.entryStore t (.map (some l.blk)) (.int kk (nn:Int)) ux).run P w= .ok () w'∧Fr m h w m h' w':=by
 unfold HX at hs;cases he:iM h b with
 |none=>rw [he] at hs;cases hs
 | some p=>
  obtain⟨es,c⟩:=p;rw [he] at hs;simp only at hs;obtain⟨l2,xs,hb,hl2,hm,a1⟩:=pN k he;rw [hl] at hl2;cases hl2;cases hf:yD nn es 0 with
  |none=>rw [hf] at hs;cases hs
  |some p=>
   obtain⟨i,e⟩:=p;rw [hf] at hs;cases hs;obtain⟨_,i2,⟨y,i3,i4⟩,i5⟩:=TG 0 a1 hf;simp only [DV] at i2 i3 i5;refine⟨rfl,_,?_,xF k hb hl (a1.set i (e':=⟨e.key,x,e.born⟩) (f:=fun z=>{ z with val:=ux }) (fun z hz=>by rw [i3] at hz;cases hz;exact⟨i4.1,hx,i4.2.2⟩))⟩;have b0:(⟨xs⟩:Array MapEntry).findIdx? (fun e=>(e.born:Int)==(nn:Int))=some i:=by simpa using i5
   simp only [Instr.entryStore,bF,run_getMap hm,cK,asInt,asIntOf,cH,b0,uE hm (by simp)];congr 5;apply lH.1;simp
end
section
variable {P:Program} {m:Mp} {w:Wo}
def wH:∀(n:Nat) (L r:List (List V)),qD n L=some r→n≤L.length∧r=L.take n
 |0,L,r,h=>by
  have:[]=r:=aL h;subst this;simp
 |n+1,[],r,h=>by cases h
 | n+1,a::L,r,h=>by
  have e:qD (n+1) (a::L)=Option.rec (motive:=fun _=>Option (List (List V))) none (fun x=>some (a::x)) (qD n L):=rfl;rw [e] at h;cases hx:qD n L with
  |none=>rw [hx] at h;cases h
  |some x=>
   rw [hx] at h;cases h;obtain⟨h5,rfl⟩:=wH n L x hx;exact⟨by simp;omega,by simp⟩
def CX:∀(n:Nat) (L:List (List V)),xV n L=L.drop n
 |0,L=>rfl
 |n+1,[]=>rfl
 |n+1,a::L=>by show xV n L=_;rw [CX n L];rfl
def xR {sz:Nat}:∀(L:List (List V)) (q:Nat),(∀el∈L,el.length=sz)→(L.drop q).flatten=L.flatten.drop (q*sz)
 | [],q,_=>by simp
 |a::L,0,_=>by simp
 | a::L,q+1,hL=>by
  have ha:=hL a (by simp);have e1:(a++L.flatten).drop ((q+1)*sz)=L.flatten.drop (q*sz):=by
   rw [WJ,rS (by rw [ha,iC];omega),oO];congr 1;rw [ha,iC];omega
  rw [aW,xR L q (fun el he=>hL el (by simp [he])),jW,e1]
def flat_take {sz:Nat}:∀(L:List (List V)) (q:Nat),(∀el∈L,el.length=sz)→(L.take q).flatten=L.flatten.take (q*sz)
 | [],q,_=>by simp
 |a::L,0,_=>by simp
 | a::L,q+1,hL=>by
  have ha:=hL a (by simp);have e1:(a++L.flatten).take ((q+1)*sz)=a++L.flatten.take (q*sz):=by
   rw [VU,eS (by rw [ha,iC];omega)];congr 2;rw [ha,iC];omega
  rw [aX,jW,flat_take L q (fun el he=>hL el (by simp [he])),jW,e1]
def HY {sz:Nat} {l:Loc} {a0:List (List V)} {ro:Rw} (hc:CellsAt m w l sz a0 ro C t fz) (ho:o%sz=0)
  (b4:len≤(a0.drop (o/sz)).length):
  ∃us,(∀el∈(a0.drop (o/sz)).take len,el.length=sz)∧((a0.drop (o/sz)).take len).length=len∧us.length=len*sz∧Rl m ((a0.drop (o/sz)).take len).flatten us∧(∀x∈us,dR x)∧
   (∀(j:Nat) v,us[j]?=some v→C[l.base+o+j]?=some v):=by
 have a2:∀el∈(a0.drop (o/sz)).take len,el.length=sz:=fun el a3=>hc.each el (yY (jV a3))
 have a5:((a0.drop (o/sz)).take len).length=len:=by rw [bJ];omega
 have hq:o/sz*sz=o:=by have:=lG o sz;rw [bZ,ho] at this;simpa using this
 have a4:((a0.drop (o/sz)).take len).flatten=(a0.flatten.drop o).take (len*sz):=by
  rw [flat_take _ _ (fun el a3=>hc.each el (yY a3)),xR _ _ hc.each,hq]
 have a7:=flat_len a2;rw [a5] at a7;have a1:∀j,j<len*sz→∃v u,((a0.drop (o/sz)).take len).flatten[j]?=some v∧C[l.base+o+j]?=some u∧R m v u∧dR u:=by
  intro j hj;have hv:∃v,((a0.drop (o/sz)).take len).flatten[j]?=some v:=⟨_,aZ (by rw [a7];exact hj)⟩;obtain⟨v,hv⟩:=hv;have b0:=hv;rw [a4,iQ hj,kR] at b0;obtain⟨u,h1,h2,h3⟩:=hc.val _ _ b0;exact⟨v,u,hv,by rw [nG];exact h1,h2,h3⟩
 refine⟨(List.range (len*sz)).map (fun j=>(C[l.base+o+j]?).getD undef),a2,a5,by simp,?_,?_,?_⟩
 ·refine Rl.mk (by rw [a7];simp) ?_;intro j v u hv hu;have hj:j<len*sz:=by have:=(aO.1 hv).1;rw [a7] at this;exact this
  obtain⟨v',u',hv',hu',hR,_⟩:=a1 j hj;rw [hv] at hv';cases hv';simp only [iJ,EC hj,tL,cI] at hu;rw [hu'] at hu;subst hu;exact hR
 ·intro x hx;simp only [dJ,JY] at hx;obtain⟨j,hj,rfl⟩:=hx;obtain⟨v',u',_,hu',_,hs⟩:=a1 j hj;rw [hu'];exact hs
 ·intro j v hv;have hj:j<len*sz:=by have:=(aO.1 hv).1;simpa using this
  obtain⟨v',u',_,hu',_,_⟩:=a1 j hj;simp only [iJ,EC hj,tL,cI] at hv;rw [hu'] at hv;simp at hv;subst hv;exact hu'
def TD:∀(s:List UInt8),(oH (s.map UInt8.toNat)).length=s.length∧(∀el∈oH (s.map UInt8.toNat),el.length=1)∧
  Rl m (oH (s.map UInt8.toNat)).flatten (s.map fun b=>.int .u8 b.toNat)
 | []=>by simp [oH,Rl]
 | b::s=>by
  obtain⟨h1,h2,h3⟩:=TD s;refine⟨by simp [oH,h1],?_,?_⟩
  ·intro el a3;simp only [gS,oH,cD] at a3;rcases a3 with rfl|a3
   ·rfl
   ·exact h2 el a3
  ·simp only [gS,oH,jW,qA,oO,Rl];exact⟨_,_,rfl,by simp [R],h3⟩
def Gq {h:H} (k:HR m h w) {sz:Nat} {x:V} {u:Value} {els:List (List V)} (hx:R m x u) (he:xU h (sz+1) x=some els):
  ∃us,(∀el∈els,el.length=sz+1)∧us.length=els.length*(sz+1)∧Rl m els.flatten us∧(∀y∈us,dR y)∧(Builtin.lenOf u).run P w= .ok els.length w∧
   ∀n,n≤els.length→(Builtin.firstCells (sz+1) n u).run P w= .ok ⟨us.take (n*(sz+1))⟩ w:=by
 unfold xU at he;split at he
 ·cases he;simp only [R] at hx;subst hx;exact⟨[],by simp,by simp,by simp [Rl],by simp,by simp [Builtin.lenOf],fun n hn=>by simp [Builtin.firstCells]⟩
 ·cases he;simp only [R] at hx;obtain⟨a,cap,rfl⟩:=hx;refine⟨[],by simp,by simp,by simp [Rl],by simp,by simp [Builtin.lenOf],fun n hn=>?_⟩;have:n=0:=by simpa using hn
  subst this;simp [Builtin.firstCells,loadCells,loadCellsFrom]
 ·rename_i b o len z;split at he
  ·rename_i b3 a0 f ro hb;cases hc:(Nat.beq (sz+1) b3&&Nat.beq (Nat.mod o (sz+1)) 0) with
   |false=>rw [hc] at he;cases he
   | true=>
    rw [hc] at he;simp only [cQ] at he;simp only [aN] at hc;have h1:=bE hc.1;subst h1;have h2:o%(sz+1)=0:=bE hc.2;obtain⟨l,hl,C,t,fz,hcs⟩:=k.obj _ _ hb;rw [CX] at he;obtain⟨h5,rfl⟩:=wH _ _ _ he;obtain⟨us,e1,e2,e3,e4,e5,e6⟩:=HY hcs h2 h5;simp only [R] at hx;obtain⟨l2,cap,hl2,rfl,hlc,hlim⟩:=hx;rw [hl] at hl2;cases hl2;refine⟨us,e1,?_,e4,e5,?_,?_⟩
    ·rw [e3];congr 1;exact e2.symm
    ·simp only [Builtin.lenOf,cH];congr 1;exact e2.symm
    ·intro n hn;have b2:n≤len:=by have h6:((a0.drop (Nat.div o (sz+1))).take len).length=len:=e2;rw [h6] at hn;exact hn
     have a6:=UN (P:=P) (w:=w) ⟨l.blk,l.base+o,none⟩ (us.take (n*(sz+1))) (fun j v hv=>by
      rw [oK,uZ hcs.at_];rw [vW] at hv;split at hv
      ·exact e6 j v hv
      ·cases hv)
     have b1:(us.take (n*(sz+1))).length=n*(sz+1):=by
      rw [bJ,e3];exact rN (fE _ b2)
     rw [b1] at a6;simp only [Builtin.firstCells];simpa using a6
  ·cases he
 ·rename_i l c;cases hz:Nat.beq (sz+1) 1 with
  |false=>rw [hz] at he;cases he
  |true=>
  rw [hz] at he;simp only [cQ,cI] at he;subst he;have b5:=bE hz;have:sz=0:=by omega
  subst this;rw [R_str] at hx;obtain⟨s,rfl,hb,_⟩:=hx;rw [←hb];obtain⟨h1,h2,h3⟩:=TD (m:=m) s.data.toList;have a9:s.data.toList.length=s.size:=by rw [cZ];rfl
  have a8:(oH (eH s)).length=s.size:=by rw [←a9];exact h1
  refine⟨s.data.toList.map (fun b:UInt8=>(Value.int .u8 ((b.toNat:Nat):Int))),h2,by rw [a8];simp [a9],h3,by simp [dR],?_,?_⟩
  ·rw [a8];simp [Builtin.lenOf]
  ·intro n hn;simp only [Builtin.firstCells,cH];congr 1;apply lH.1;obtain⟨⟨sl⟩⟩:=s;have:=ByteArray.extract_mk sl 0 n;rw [show(ByteArray.mk ⟨sl⟩).extract 0 n=(ByteArray.mk sl.toArray).extract 0 n from rfl,this];simp
 ·cases he
end
section
variable {P:Program} {m:Mp} {w:Wo}
def LD (b:Id):∀(l:List Id),(∀x∈(lK b l).1,x≠b∧x∈l)∧(∀x∈(lK b l).2,x∈l)∧(∀x∈l,x≠b→x∈(lK b l).1∨x∈(lK b l).2)∧(b∈l→∃pre,l=pre++b::(lK b l).2)∧(b∉l→(lK b l).2= [])
 | []=>by simp [lK]
 | x ::l=>by
  obtain⟨h1,h2,h3,h4,h5⟩:=LD b l;cases e:Id.beq x b with
  |true=>
   have:=Id.beq_iff.1 e;subst this;simp only [lK,e,cQ];refine⟨by simp,fun y hy=>by simp [hy],fun y hy a2=>?_,fun _=>⟨[],rfl⟩,fun h=>absurd (by simp) h⟩;simp only [cD] at hy;rcases hy with rfl|hy
   ·exact absurd rfl a2
   ·exact .inr hy
  | false=>
   have a2:x≠b:=fun h=>by rw [Id.beq_iff.2 h] at e;cases e
   simp only [lK,e,lE];refine⟨?_,fun y hy=>by simp [h2 y hy],?_,?_,?_⟩
   ·intro y hy;simp only [cD] at hy ⊢;rcases hy with rfl|hy
    ·exact⟨a2,.inl rfl⟩
    ·exact⟨(h1 y hy).1,.inr (h1 y hy).2⟩
   ·intro y hy d0;simp only [cD] at hy ⊢;rcases hy with rfl|hy
    ·exact .inl (.inl rfl)
    ·rcases h3 y hy d0 with h|h
     ·exact .inl (.inr h)
     ·exact .inr h
   ·intro hb;simp only [cD] at hb;rcases hb with rfl|hb
    ·exact absurd rfl a2
    ·obtain⟨pre,hpre⟩:=h4 hb;exact⟨x::pre,by simp [←hpre]⟩
   ·intro hb;exact h5 (fun h=>hb (by simp [h]))
def QE {h:H} (k:HR m h w) {b f:Id} {sz len q tg:Nat} {els old new:List (List V)} {l:Loc} {v:V} (hb:aB b h.mem=some (.cells sz els f (.rw tg))) (hl:m b=some l)
  (hq:q+len=els.length) (c8:old=els.drop q) (hg:grown tg sz b f len old new h= .ok v h') (a2:∀el∈new,el.length=sz)
  {C':Array Value} {t:TypeId} {fz':Nat × Nat} {w':Wo} {l':Loc}
  (hw:(w'={ w with heap:=w.heap.setIfInBounds l.blk (.cells C' t fz') }∧l'=⟨l.blk,l.base+q*sz,l.lim-q*sz⟩∧(∃C fz,w.heap[l.blk]?=some (.cells C t fz')∧CellsAt m w l sz els (.rw tg) C t fz∧fz=fz'∧C'.size=C.size∧
    (∀j,j<l.base+els.flatten.length→C'[j]?=C[j]?)))∨
   (w'={ w with heap:=w.heap.push (.cells C' t fz') }∧l'=⟨w.heap.size,0,C'.size⟩))
  (d7:∀m2:Mp,m.le m2→w'.heap[l'.blk]?=some (.cells C' t fz')→CellsAt m2 w' l' sz (old++new) (.rw tg) C' t fz'):
  ∃m',Fr m h w m' h' w'∧m' h.next=some l'∧v= .sl h.next 0 (len+new.length) sz:=by
 obtain⟨mem,fams,next⟩:=h;unfold grown at hg;simp only at hg;cases hs:next.succ with
 |none=>rw [hs] at hg;cases hg
 | some nx=>
  rw [hs] at hg;simp only at hg;obtain⟨u1,u2,u3,u4,u5⟩:=LD b (aU f fams);generalize f8:lK b (aU f fams)=ut at hg u1 u2 u3 u4 u5;obtain⟨a5,rest⟩:=ut;simp only at hg u1 u2 u3 u4 u5;cases hg;rw [Km,xJ];have e6:m next=none:=by
   cases e:m next with
   |none=>rfl
   |some l0=>exact absurd (k.dom _ _ e) (rO _)
  have b6:m.le (fun x=>if x=next then some l' else m x):=by
   intro x lx hx;have:x≠next:=fun e=>by rw [e,e6] at hx;cases hx
   simp [this,hx]
  have f6:=Id.succ_toNat hs;have d8:b.toNat<next.toNat:=k.dom _ _ hl
  have a0:∀x ox,aB x (dS next (some (.cells sz (old++new) f (.rw tg))) (iH a5 mem))=some ox→(x=next∧ox= .cells sz (old++new) f (.rw tg))∨(x≠next∧x∉a5∧aB x mem=some ox):=by
   intro x ox hx
   by_cases e:x=next
   ·subst e;rw [gN] at hx;exact .inl ⟨rfl,(aL hx).symm⟩
   ·rw [fG e,lS] at hx;split at hx
    ·cases hx
    ·exact .inr ⟨e,by assumption,hx⟩
  obtain⟨lb,c6,C0,t0,fz0,hcb⟩:=k.obj _ _ hb;have c6:lb=l:=by have:m b=some lb:=c6;rw [hl] at this;cases this;rfl
  subst c6;have b5:=k.lt _ _ hl;have c1:∀y b0 els' f' ro' ly,y∉a5→aB y mem=some (.cells b0 els' f' ro')→m y=some ly→ly.blk=lb.blk→ly.base+els'.flatten.length≤lb.base+els.flatten.length:=by
   intro y b0 els' f' ro' ly hd hy a4 a6
   by_cases e:y=b
   ·subst e;have h1:aB y mem=some (.cells sz els f (.rw tg)):=hb;rw [h1] at hy;cases hy;rw [hl] at a4;cases a4;exact aA _
   ·have hf:f'=f:=k.sep y b _ _ ly lb hy hb a4 hl e a6;subst hf;have f0:y∈aU f' fams:=k.fam y b _ _ _ _ _ _ _ hy hb e;have d0:b∈aU f' fams:=k.fam b y _ _ _ _ _ _ _ hb hy (eZ e);have f4:y∈rest:=by
     rcases u3 y f0 e with h1|h1
     ·exact absurd h1 hd
     ·exact h1
    obtain⟨pre,hpre⟩:=u4 d0;have ho:=k.ord f';have c7:(pre++b::rest).Pairwise (EndLe m mem):=by rw [←hpre];exact ho
    have:=(JX.1 c7).2.1;have:=(tR.1 this).1 y f4;exact this _ _ _ _ _ _ _ _ _ _ hb hy hl a4 a6.symm
  have c5:∀(hA:l'.blk=lb.blk),lb.base+els.flatten.length≤l'.base+(old++new).flatten.length:=by
   intro hA;rcases hw with⟨_,hl',_⟩|⟨_,hl'⟩
   ·subst hl';have h1:=flat_len hcb.each;have h2:(old++new).flatten.length=old.flatten.length+new.flatten.length:=by simp
    have h3:old.flatten.length=els.flatten.length-q*sz:=by
     rw [c8,xR _ _ hcb.each,dK]
    have h4:q*sz≤els.flatten.length:=by rw [h1];exact fE _ (by omega)
    show lb.base+els.flatten.length≤lb.base+q*sz+(old++new).flatten.length;omega
   ·subst hl';have:w.heap.size=lb.blk:=hA;omega
  have b4:w'.heap[l'.blk]?=some (.cells C' t fz'):=by
   rcases hw with⟨rfl,rfl,_⟩|⟨rfl,rfl⟩
   ·simp [b5]
   ·simp
  have b8:∀B,B<w.heap.size→B≠lb.blk→w'.heap[B]?=w.heap[B]?:=by
   intro B hB a2;rcases hw with⟨rfl,_,_⟩|⟨rfl,_⟩
   ·simp [mG,eZ a2]
   ·exact CE _ hB
  have a9:w.heap.size≤w'.heap.size∧l'.blk<w'.heap.size:=by
   rcases hw with⟨rfl,rfl,_⟩|⟨rfl,rfl⟩
   ·simp [b5]
   ·simp
  have a7:l'.blk=lb.blk∨l'.blk=w.heap.size:=by
   rcases hw with⟨_,rfl,_⟩|⟨_,rfl⟩
   ·exact .inl rfl
   ·exact .inr rfl
  refine⟨_,⟨b6,⟨?_,?_,?_,?_,?_,?_,?_,?_⟩,a9.1,?_,?_,?_,?_,?_,?_,by show next.toNat≤nx.toNat;omega,fun x sz1 els1 f1 c0 hx=>by
   rcases a0 x _ hx with⟨rfl,e⟩|⟨_,_,hx1⟩
   ·cases e;exact .inr ⟨b,_,_,_,hb⟩
   ·exact .inr ⟨x,sz1,els1,c0,hx1⟩⟩,by simp,rfl⟩
  ·
   intro x ox hx;rcases a0 x ox hx with⟨rfl,rfl⟩|⟨a2,hd,hx1⟩
   ·exact⟨l',by simp,C',t,fz',d7 _ b6 b4⟩
   ·clear hx;have hx:=hx1;obtain⟨lx,a1,ho⟩:=k.obj x ox hx;refine⟨lx,by simp [a2,a1],?_⟩;have b7:=k.lt _ _ a1
    by_cases hB:lx.blk=lb.blk
    ·
     rcases hw with⟨d4,a8,C,fz,hC,hCA,hfz,hsz,hsame⟩|⟨d4,a8⟩
     ·by_cases c9:∃b0 els' f' ro',ox= .cells b0 els' f' ro'
      ·obtain⟨b0,els',f',ro',rfl⟩:=c9;obtain⟨Cx,tx,fzx,hcx⟩:=ho;have d2:=hcx.at_;rw [hB,hC] at d2;have c2:C=Cx∧t=tx∧fz'=fzx:=by
        injection d2 with e;injection e with e1 e2 e3
        exact⟨e1,e2,e3⟩
       obtain⟨c2,hT1,hF1⟩:=c2;have f7:=c1 x _ _ _ _ lx hd hx a1 hB;have c3:w'.heap[lx.blk]?=some (.cells C' t fz'):=by rw [hB,←b4,a8]
       subst c2;subst hT1;subst hF1;refine⟨C',t,fz',⟨c3,by rw [hsz];exact hcx.room,hcx.len,hcx.each,?_,hcx.free,hcx.plain,hcx.typ,hcx.al⟩⟩;intro i v hv;obtain⟨u,h1,h2,h3⟩:=hcx.val i v hv;have hi:=(aO.1 hv).1;exact⟨u,by rw [hsame _ (by omega)];exact h1,h2.mono b6,h3⟩
      ·exfalso
       by_cases e:x=b
       ·subst e;have h1:aB x mem=some (.cells sz els f (.rw tg)):=hb;rw [h1] at hx;cases hx;exact c9 ⟨_,_,_,_,rfl⟩
       ·have:=k.sep x b ox _ lx lb hx hb a1 hl e hB;cases ox with
        |cells b0 els' f' ro'=>exact c9 ⟨_,_,_,_,rfl⟩
        |map _ _=>exact this
        |miter _ _ _ _=>exact this
     ·subst d4;exact ho.keep b6 (CE _ b7)
    ·exact ho.keep b6 (b8 _ b7 hB)
  ·
   intro x lx hx;show x.toNat<nx.toNat
   by_cases e:x=next
   ·subst e;omega
   ·simp [e] at hx;have:=k.dom _ _ hx;have h9:x.toNat<next.toNat:=this;omega
  ·
   intro x y ox oy lx ly hx hy a1 a4 a2 a6;rcases a0 x ox hx with⟨rfl,rfl⟩|⟨hn1,hd1,hx1⟩<;>rcases a0 y oy hy with⟨rfl,rfl⟩|⟨hn2,hd2,hy1⟩
   ·exact absurd rfl a2
   ·simp at a1;simp [hn2] at a4;subst a1;have:=k.lt _ _ a4;rcases a7 with hA|hA
    ·by_cases e:y=b
     ·subst e;have h1:aB y mem=some (.cells sz els f (.rw tg)):=hb;rw [h1] at hy1;cases hy1;exact rfl
     ·have b1:=k.sep y b oy _ ly lb hy1 hb a4 hl e (by rw [←a6,hA]);cases oy with
      |cells b0 els' f' ro'=>exact(show f'=f from b1).symm
      |map _ _=>exact b1
      |miter _ _ _ _=>exact b1
    ·omega
   ·simp at a4;simp [hn1] at a1;subst a4;have:=k.lt _ _ a1;rcases a7 with hA|hA
    ·by_cases e:x=b
     ·subst e;have h1:aB x mem=some (.cells sz els f (.rw tg)):=hb;rw [h1] at hx1;cases hx1;exact rfl
     ·have b1:=k.sep x b ox _ lx lb hx1 hb a1 hl e (by rw [a6,hA]);cases ox with
      |cells b0 els' f' ro'=>exact(show f'=f from b1)
      |map _ _=>exact b1
      |miter _ _ _ _=>exact b1
    ·omega
   ·simp [hn1] at a1;simp [hn2] at a4;exact k.sep x y ox oy lx ly hx1 hy1 a1 a4 a2 a6
  ·
   intro x y sz1 els1 f1 c0 sz2 els2 d6 hx hy a2;show x∈aU f1 (gX f (next::b::rest) fams)
   by_cases hf:f1=f
   ·subst hf;rw [pL];rcases a0 x _ hx with⟨rfl,_⟩|⟨hn1,hd1,hx1⟩
    ·simp
    ·by_cases e:x=b
     ·subst e;simp
     ·have e7:x∈aU f1 fams:=k.fam x b _ _ _ _ _ _ _ hx1 hb e;rcases u3 x e7 e with h1|h1
      ·exact absurd h1 hd1
      ·simp [h1]
   ·rw [jR hf];rcases a0 x _ hx with⟨rfl,e1⟩|⟨hn1,hd1,hx1⟩
    ·cases e1;exact absurd rfl hf
    ·rcases a0 y _ hy with⟨rfl,e2⟩|⟨hn2,hd2,hy1⟩
     ·cases e2;exact absurd rfl hf
     ·exact k.fam x y _ _ _ _ _ _ _ hx1 hy1 a2
  ·
   intro f1;show(aU f1 (gX f (next::b::rest) fams)).Pairwise _;have trans:∀x y,x≠next→y≠next→EndLe m mem x y→EndLe (fun x=>if x=next then some l' else m x) (dS next (some (.cells sz (old++new) f (.rw tg))) (iH a5 mem)) x y:=by
    intro x y d5 b9 e8 sz1 els1 f1 c0 sz2 els2 f2 d6 l1 l2 hx hy a8 b3 a6;rcases a0 x _ hx with⟨e,_⟩|⟨_,_,hx1⟩
    ·exact absurd e d5
    ·rcases a0 y _ hy with⟨e,_⟩|⟨_,_,hy1⟩
     ·exact absurd e b9
     ·simp [d5] at a8;simp [b9] at b3;exact e8 _ _ _ _ _ _ _ _ _ _ hx1 hy1 a8 b3 a6
   have a3:∀f2 x,x∈aU f2 fams→x≠next:=fun f2 x hx e=>by
    have:=k.flt f2 x hx;subst e;exact absurd this (rO _)
   have lift:∀L:List Id,(∀x∈L,x≠next)→L.Pairwise (EndLe m mem)→L.Pairwise (EndLe (fun x=>if x=next then some l' else m x) (dS next (some (.cells sz (old++new) f (.rw tg))) (iH a5 mem))):=by
    intro L hL hp;exact hp.imp_of_mem (fun hx hy h=>trans _ _ (hL _ hx) (hL _ hy) h)
   by_cases hf:f1=f
   ·subst hf;rw [pL];have d9:(b::rest).Pairwise (EndLe m mem):=by
     by_cases d1:b∈aU f1 fams
     ·obtain⟨pre,hpre⟩:=u4 d1;have ho:=k.ord f1;have c7:(pre++b::rest).Pairwise (EndLe m mem):=by rw [←hpre];exact ho
      exact(JX.1 c7).2.1
     ·rw [u5 d1];simp
    have c4:b≠next:=fun e=>by subst e;exact absurd d8 (rO _)
    have d3:∀x∈b::rest,x≠next:=by
     intro x hx;simp only [cD] at hx;rcases hx with rfl|hx
     ·exact c4
     ·exact a3 f1 x (u2 x hx)
    refine tR.2 ⟨?_,lift _ d3 d9⟩;intro y hy sz1 els1 f2 c0 sz2 els2 f3 d6 l1 l2 hx e9 a8 b3 a6;rcases a0 next _ hx with⟨_,e1⟩|⟨hn,_,_⟩
    ·cases e1;have b9:=d3 y hy;rcases a0 y _ e9 with⟨e,_⟩|⟨_,hd,hy1⟩
     ·exact absurd e b9
     ·simp at a8;subst a8;simp [b9] at b3;have e4:=k.lt _ _ b3;rcases a7 with hA|hA
      ·have h1:=c1 y _ _ _ _ l2 hd hy1 b3 (by rw [←a6,hA]);have h2:=c5 hA;omega
      ·omega
    ·exact absurd rfl hn
   ·rw [jR hf];exact lift _ (fun x hx=>a3 f1 x hx) (k.ord f1)
  ·
   intro x lx hx
   by_cases e:x=next
   ·subst e;simp at hx;subst hx;exact a9.2
   ·simp [e] at hx;have:=k.lt _ _ hx;omega
  ·
   intro x sz1 els1 f1 c0 hx;show f1.toNat<nx.toNat;have f5:f.toNat<next.toNat:=k.famlt _ _ _ _ _ hb
   rcases a0 x _ hx with⟨rfl,e1⟩|⟨_,_,hx1⟩
   ·cases e1;omega
   ·have:f1.toNat<next.toNat:=k.famlt _ _ _ _ _ hx1;omega
  ·
   intro f1 x hx;show x.toNat<nx.toNat;have b2:x∈aU f1 (gX f (next::b::rest) fams):=hx
   by_cases hf:f1=f
   ·subst hf;rw [pL] at b2;simp only [cD] at b2;rcases b2 with rfl|rfl|b2
    ·omega
    ·omega
    ·have:x.toNat<next.toNat:=k.flt f1 x (u2 x b2);omega
   ·rw [jR hf] at b2;have:x.toNat<next.toNat:=k.flt f1 x b2;omega
  ·
   intro B hB hn;refine b8 B hB ?_;rintro rfl;exact hn ⟨b,_,lb,hb,hl,rfl,by simp [jJ]⟩
  ·rcases hw with⟨rfl,_⟩|⟨rfl,_⟩<;>rfl
  ·rcases hw with⟨rfl,_⟩|⟨rfl,_⟩<;>rfl
  ·rcases hw with⟨rfl,_⟩|⟨rfl,_⟩<;>rfl
  ·
   intro x ox lx hx a1;rcases a0 x ox hx with⟨rfl,rfl⟩|⟨a2,hd,hx1⟩
   ·simp at a1;subst a1;rcases a7 with hA|hA
    ·exact .inr ⟨b,_,lb,hb,hl,hA.symm,fun _=>by simp [jJ]⟩
    ·exact .inl (by omega)
   ·simp [a2] at a1;exact .inr ⟨x,ox,lx,hx1,a1,rfl,id⟩
  ·
   intro x lx hx e0;have:x≠next:=fun e=>by subst e;exact absurd e0 (rO _)
   simpa [this] using hx
end
section
variable {P:Program} {m:Mp} {w:Wo}
def QF {a0:Nat}:∀(r c:Nat),c≤2*a0+768→Builtin.growBy a0 r c≤2*a0+768
 |0,c,h=>h
 |r+1,c,h=>by
  simp only [Builtin.growBy];split
  ·exact h
  ·exact QF r _ (by omega)
def Br {a0:Nat} (h:cap<a0):Builtin.nextslicecap a0 cap≤2*a0+768:=by
 unfold Builtin.nextslicecap;split
 ·omega
 ·split
  ·omega
  ·exact QF _ _ (by omega)
def run_append_room {x:Value} (h0:ts[0]?=some t) (h1:ts[1]?=some t2)
  (hu:P.underlying t=some (.slice el)) (a8:P.underlying t2=some u2) (a7:∀k,u2≠ .int k) (hi:P.info? el=some a2) (a3:(Builtin.lenOf x).run P w= .ok n w)
  (a5:len+n≤cap) (hf:(Builtin.firstCells a2.size n x).run P w= .ok a1 w):
  (Builtin.append_ ts ty #[.slice base len cap,x]).run P w=match (match base with|some a=>(storeCells (a.add (len*a2.size)) a1.toList).run P w|none=>.ok () w:Result Unit) with
   | .ok _ w'=>.ok (.slice base (len+n) cap) w'
   | .halt h w'=>.halt h w':=by
 unfold Builtin.append_;have hz:(match u2 with| .int _=>true|_=>false)=false:=by cases u2<;>first|rfl|exact absurd rfl (a7 _)
 cases base<;>simp [h0,h1,dW hu,dW a8,sizeOf,typeInfo,hi,hz,a3,a5,hf];cases (storeCells _ a1.toList).run P w<;>rfl
def run_append_grow {x:Value} (h0:ts[0]?=some t) (h1:ts[1]?=some t2)
  (hu:P.underlying t=some (.slice el)) (a8:P.underlying t2=some u2) (a7:∀k,u2≠ .int k) (hi:P.info? el=some a2) (hz:a2.zero=some z) (a3:(Builtin.lenOf x).run P w= .ok n w)
  (a5:cap<len+n) (b3:len+n≤2000000) (b0:a2.bytes≤1000000)
  (b1:(Builtin.firstCells a2.size len (.slice base len cap)).run P w.drew= .ok olds w.drew)
  (hf:(Builtin.firstCells a2.size n x).run P w.drew= .ok a1 w.drew):
  ∃nc,len+n≤nc∧(Builtin.append_ ts ty #[.slice base len cap,x]).run P w= .ok (.slice (some ⟨w.heap.size,0,none⟩) (len+n) nc)
   { w.drew with heap:=w.drew.heap.push (.cells (olds++a1++Builtin.zeroCells z.cells (nc-(len+n))) el (0,0)) }:=by
 refine⟨(Question.appendCap (len+n) cap el).cut (w.tape w.drawn (.appendCap (len+n) cap el)),by simp [Question.cut],?_⟩;unfold Builtin.append_;have b2:(match u2 with| .int _=>true|_=>false)=false:=by cases u2<;>first|rfl|exact absurd rfl (a7 _)
 have a9:¬(281474976710656<Builtin.nextslicecap (len+n) cap*a2.bytes):=by
  have h2:=oN (Br a5) b0;omega
 have a4:¬(9223372036854775807<((len:Int)+(n:Int))):=by omega
 have a6:¬(len+n≤cap):=by omega
 simp [h0,h1,dW hu,dW a8,sizeOf,typeInfo,hi,b2,a3,a6,hf,b1,a9,a4,zeroValue,hz,newRow,askRoom,Question.forced];rfl
end
section
variable {P:Program} {m:Mp} {w:Wo}
structure ElsAt (P:Program) (m:Mp) (w:Wo) (S:Nat) (new:List (List V)) (uy:Value) (us:Lv):Prop where
 each:∀el∈new,el.length=S
 len:us.length=new.length*S
 rel:Rl m new.flatten us
 sc:∀y∈us,dR y
 lenOf:(Builtin.lenOf uy).run P w= .ok new.length w
 first:(Builtin.firstCells S new.length uy).run P w= .ok ⟨us⟩ w
def elsAt {h:H} (k:HR m h w) {sz:Nat} {x:V} {u:Value} {els:List (List V)} (hx:R m x u) (he:xU h (sz+1) x=some els):∃us,ElsAt P m w (sz+1) els u us:=by
 obtain⟨us,h1,h2,h3,h4,h5,h6⟩:=Gq (P:=P) k hx he;refine⟨us,h1,h2,h3,h4,h5,?_⟩;rw [h6 _ (aA _),←h2,iP]
structure AppTy (P:Program) (ts:Array TypeId) (S:Nat) (el:TypeId) (a5:TypeInfo) (z:Value):Prop where
 ty:∃t t2 u2,ts[0]?=some t∧ts[1]?=some t2∧P.underlying t=some (.slice el)∧P.underlying t2=some u2∧(∀k,u2≠ .int k)
 info:P.info? el=some a5
 zero:a5.zero=some z
 size:a5.size=S
 zs:z.cells.size=S
 bytes:a5.bytes≤1000000
def UF {h:H} (k:HR m h w) {b f:Id} {S len q cap:Nat} {els old new:List (List V)} {l:Loc} {v:V} {ts:Array TypeId} {ty el:TypeId} {a5:TypeInfo} {z uy:Value} {us b1:Lv}
  (T:AppTy P ts S el a5 z) (hS:0<S) (hb:aB b h.mem=some (.cells S els f (.rw el))) (hl:m b=some l) (hq:q+len=els.length) (a0:old=els.drop q) (hg:grown el S b f len old new h= .ok v h')
  (e0:len≤cap) (b3:q*S+cap*S≤l.lim) (A:ElsAt P m w S new uy us) (B:ElsAt P m w.drew S new uy b1) (f3:len+new.length≤2000000):
  ∃u w' m',(Builtin.append_ ts ty #[.slice (some ⟨l.blk,l.base+q*S,none⟩) len cap,uy]).run P w= .ok u w'∧Fr m h w m' h' w'∧R m' v u:=by
 obtain⟨⟨t,t2,u2,h0,h1,hu,hu2,hni⟩,hi,hz,hsize,hzs,hby⟩:=T;obtain⟨l2,hl2,C,tC,fz,hc⟩:=k.obj _ _ hb;rw [hl] at hl2;cases hl2;have e9:=flat_len hc.each;have d6:(els.drop q).length=len:=by rw [dK];omega
 have a3:∀el∈els.drop q,el.length=S:=fun el e7=>hc.each el (yY e7)
 have a9:old.flatten.length=len*S:=by rw [a0,flat_len a3,d6]
 have b6:=flat_len A.each;have d0:old.flatten=els.flatten.drop (q*S):=by rw [a0,xR _ _ hc.each]
 have f8:els.flatten.length=q*S+len*S:=by rw [e9,←hq,dI]
 have c2:(old++new).flatten=old.flatten++new.flatten:=by simp
 have a7:∀el∈old++new,el.length=S:=by
  intro e he;rcases bX.1 he with h|h
  ·exact a3 e (a0▸h)
  ·exact A.each e h
 by_cases a1:len+new.length≤cap
 ·
  have hr:=run_append_room (P:=P) (w:=w) (ty:=ty) (base:=some ⟨l.blk,l.base+q*S,none⟩) h0 h1 hu hu2 hni hi A.lenOf a1 (by rw [hsize];exact A.first);have c8:(len+new.length)*S≤cap*S:=fE _ a1;rw [dI] at c8;have d2:=hc.room;have d7:=zP (P:=P) (b:=l.blk) (off:=l.base+q*S+len*S) us 0 C w hc.at_ (by have:=A.len;omega) A.sc (by
   intro j hj hf;have g5:j<new.length*S:=by rw [←A.len];exact hj
   have:=hc.free rfl (q*S+len*S+j) (by omega);exact this (by omega))
  simp only [hsize,oK] at hr;rw [d7] at hr;simp only [iI] at hr d7;generalize b2:(⟨C.toList.take (l.base+q*S+len*S)++us++C.toList.drop (l.base+q*S+len*S+us.length)⟩:Array Value)=C' at hr;have c4:C.toList.length=C.size:=by simp
  have d3:C'.size=C.size:=by
   rw [←b2];show(C.toList.take _++us++C.toList.drop _).length=_;have:=A.len;rw [aI,aI,bJ,dK,c4];omega
  have b4:∀j,j<l.base+q*S+len*S→C'[j]?=C[j]?:=by
   intro j hj;rw [←b2,←iT,←iT];show(C.toList.take _++us++C.toList.drop _)[j]?=_;rw [fO,fF (by rw [bJ];omega),iQ hj]
  have c9:∀j,j<us.length→C'[l.base+q*S+len*S+j]?=us[j]?:=by
   intro j hj;have b5:(C.toList.take (l.base+q*S+len*S)).length=l.base+q*S+len*S:=by rw [bJ];omega
   rw [←b2,←iT];show(C.toList.take _++us++C.toList.drop _)[_]?=_;rw [fO,eO (by omega),b5,fF (by omega)];congr 1;omega
  obtain⟨m',hF,hm,rfl⟩:=QE k hb hl hq a0 hg A.each (C':=C') (t:=tC) (fz':=fz) (w':={ w with heap:=w.heap.setIfInBounds l.blk (.cells C' tC fz) }) (l':=⟨l.blk,l.base+q*S,l.lim-q*S⟩)
   (.inl ⟨rfl,rfl,C,fz,hc.at_,hc,rfl,d3,fun j hj=>b4 j (by omega)⟩) (by
    intro m2 c1 c5;refine⟨c5,?_,?_,a7,?_,?_,hc.plain,hc.typ,by have:=hc.al;show(l.base+q*S)%S=0;rw [Lg];exact this⟩
    ·show l.base+q*S+(l.lim-q*S)≤C'.size;omega
    ·show(old++new).flatten.length≤l.lim-q*S;rw [c2,aI,a9,b6];omega
    ·intro i x hx;show∃u,C'[l.base+q*S+i]?=some u∧_;rw [c2] at hx
     by_cases hi:i<len*S
     ·rw [fF (by omega),d0,kR] at hx;obtain⟨u,g1,g2,g3⟩:=hc.val _ _ hx;exact⟨u,by rw [b4 _ (by omega),nG];exact g1,g2.mono c1,g3⟩
     ·rw [eO (by omega),a9] at hx;obtain⟨u,g1,g2⟩:=A.rel.get hx;have b5:=(aO.1 g1).1;refine⟨u,?_,g2.mono c1,A.sc u (aP g1)⟩;rw [←g1,←c9 _ b5];congr 1;omega
    ·intro _ i hi hf;have g0:i<l.lim-q*S:=hi;exact hc.free rfl (q*S+i) (by omega) (by
      have f9:fz.1≤l.base+q*S+i∧l.base+q*S+i<fz.2:=hf;omega))
  refine⟨_,_,m',hr,hF,?_⟩;simp only [R];refine⟨_,cap,hm,by simp,a1,?_⟩;show 0+cap*S≤l.lim-q*S;omega
 ·
  have a2:CellsAt m w.drew l S els (.rw el) C tC fz:=⟨hc.at_,hc.room,hc.len,hc.each,hc.val,hc.free,hc.plain,hc.typ,hc.al⟩;have f1:q*S%S=0:=Nat.mul_mod_left _ _;have d5:q*S/S=q:=Nat.mul_div_cancel _ hS;obtain⟨b9,e1,e2,e3,e4,e5,e6⟩:=HY (len:=len) a2 f1 (by rw [d5,d6];exact aA _);rw [d5,eS (by omega),←a0] at e4;have e8:(Builtin.firstCells a5.size len (.slice (some ⟨l.blk,l.base+q*S,none⟩) len cap)).run P w.drew= .ok ⟨b9⟩ w.drew:=by
   have b7:=UN (P:=P) (w:=w.drew) ⟨l.blk,l.base+q*S,none⟩ b9 (fun j v hv=>by
    rw [oK,uZ a2.at_];exact e6 j v hv)
   rw [e3] at b7;simp only [Builtin.firstCells,hsize];simpa using b7
  obtain⟨nc,hnc,hr⟩:=run_append_grow (P:=P) (w:=w) (ty:=ty) h0 h1 hu hu2 hni hi hz A.lenOf (DY a1) f3 hby e8 (by rw [hsize];exact B.first);generalize b2:((⟨b9⟩:Array Value)++(⟨b1⟩:Array Value)++Builtin.zeroCells z.cells (nc-(len+new.length)))=C' at hr;have c4:C'.toList=b9++b1++(Builtin.zeroCells z.cells (nc-(len+new.length))).toList:=by rw [←b2];simp
  have d4:(Builtin.zeroCells z.cells (nc-(len+new.length))).size=(nc-(len+new.length))*S:=by simp [Builtin.zeroCells,hzs]
  have d3:C'.size=nc*S:=by
   rw [←b2,KJ,KJ,d4];show b9.length+b1.length+_=_;rw [e3,B.len,←dI,←dI];congr 1;omega
  have kd:HR m h w.drew:=k.drawn _;obtain⟨m',hF,hm,rfl⟩:=QE kd hb hl hq a0 hg A.each (C':=C') (t:=el) (fz':=(0,0)) (w':={ w.drew with heap:=w.drew.heap.push (.cells C' el (0,0)) }) (l':=⟨w.drew.heap.size,0,C'.size⟩)
   (.inr ⟨rfl,rfl⟩) (by
    intro m2 c1 c5;refine⟨c5,by simp,?_,a7,?_,fun _ i _ hf=>by simp at hf,fun _ _=>rfl,fun ty e=>by cases e;rfl,DU _⟩
    ·show(old++new).flatten.length≤C'.size;rw [c2,aI,a9,b6,d3,←dI];exact fE _ hnc
    ·intro i x hx;rw [c2] at hx;obtain⟨u,g1,g2⟩:=(e4.append B.rel).get hx;have b5:=(aO.1 g1).1;refine⟨u,?_,g2.mono c1,?_⟩
     ·show C'[0+i]?=some u;rw [bT,←iT,c4,fF b5,g1]
     ·rcases bX.1 (aP g1) with g|g
      ·exact e5 u g
      ·exact B.sc u g)
  refine⟨_,_,m',hr,(Fr.drawn k _).trans hF,?_⟩;simp only [R];refine⟨_,nc,hm,by simp,hnc,?_⟩;show 0+nc*S≤C'.size;omega
def Kl {h:H} (k:HR m h w) {sz:Nat} {x y v:V} {ux uy:Value} {new:List (List V)} {ts:Array TypeId} {ty el:TypeId} {a5:TypeInfo} {z:Value}
  (T:AppTy P ts (sz+1) el a5 z) (hx:R m x ux) (hy:R m y uy) (he:xU h (sz+1) y=some new) (ha:JG el h (sz+1) x new= .ok v h'):
  ∃u w' m',(Builtin.append_ ts ty #[ux,uy]).run P w= .ok u w'∧Fr m h w m' h' w'∧R m' v u:=by
 obtain⟨us,A⟩:=elsAt (P:=P) k hy he;obtain⟨b1,B⟩:=elsAt (P:=P) (k.drawn (w.drawn+1)) hy he;have T':=T;obtain⟨⟨t,t2,u2,h0,h1,hu,hu2,hni⟩,hi,hz,hsize,hzs,hby⟩:=T';unfold JG at ha;split at ha
 ·
  have f5:us= []:=nL (by rw [A.len];simp);subst f5;have b0:∀base len cap,len≤cap→(Builtin.append_ ts ty #[.slice base len cap,uy]).run P w= .ok (.slice base len cap) w:=by
   intro base len cap f0;have hr:=run_append_room (P:=P) (w:=w) (ty:=ty) (base:=base) (len:=len) (cap:=cap) h0 h1 hu hu2 hni hi A.lenOf (by simpa using f0) (by rw [hsize];exact A.first);rw [hr];cases base<;>simp [storeCells]
  split at ha
  ·cases ha;have a8:=hx;simp only [R] at a8;subst a8;exact⟨_,_,m,b0 none 0 0 (aA _),Fr.refl k,by simp [R]⟩
  ·cases ha;have a8:=hx;simp only [R] at a8;obtain⟨a,cap,rfl⟩:=a8;exact⟨_,_,m,b0 _ 0 cap (aJ _),Fr.refl k,hx⟩
  ·cases ha;have a8:=hx;simp only [R] at a8;obtain⟨l,cap,hl,rfl,hlc,b3⟩:=a8;exact⟨_,_,m,b0 _ _ cap hlc,Fr.refl k,hx⟩
  ·cases ha
 ·rename_i n0 nr;cases hln:Nat.ble (pG (n0::nr)) 1000000 with
  |false=>rw [hln] at ha;cases ha
  |true=>
  rw [hln] at ha;simp only [cQ] at ha;have f4:(n0::nr).length≤1000000:=by have:=cN hln;rwa [xJ] at this
  split at ha
  ·
   simp only [R] at hx;subst hx;obtain⟨nc,hnc,hr⟩:=run_append_grow (P:=P) (w:=w) (ty:=ty) (base:=none) (len:=0) (cap:=0) h0 h1 hu hu2 hni hi hz A.lenOf (by simp) (by omega) hby (olds:=#[]) (by simp [Builtin.firstCells]) (by rw [hsize];exact B.first);have kd:HR m h w.drew:=k.drawn _;obtain⟨m',hF,hm,rfl⟩:=xA kd ha A.each B.rel B.sc (C:=(#[]:Array Value)++(⟨b1⟩:Array Value)++Builtin.zeroCells z.cells (nc-(0+(n0::nr).length))) (extra:=(Builtin.zeroCells z.cells (nc-(0+(n0::nr).length))).toList) (by simp) el (0,0) (.inl rfl);refine⟨_,_,m',hr,(Fr.drawn k _).trans hF,?_⟩;simp only [R,xJ];refine⟨_,nc,hm,by simp,by omega,?_⟩;have d4:(Builtin.zeroCells z.cells (nc-(0+(n0::nr).length))).size=(nc-(0+(n0::nr).length))*(sz+1):=by simp [Builtin.zeroCells,hzs]
   show 0+nc*(sz+1)≤(_++_++_:Array Value).size;rw [KJ,KJ,d4];show 0+nc*(sz+1)≤0+b1.length+_;rw [B.len,bT,bT,←dI];exact fE _ (by omega)
  ·rename_i b o len z0;split at ha
   ·rename_i f6 els f c3 hb;cases a2:(Nat.beq f6 (sz+1)&&(Nat.beq z0 (sz+1)&&(Nat.beq (Nat.mod o (sz+1)) 0&&(Nat.ble len 1000000&&Nat.beq c3 el)))) with
    |false=>rw [a2] at ha;cases ha
    |true=>
    rw [a2] at ha;simp only [cQ] at ha;simp only [aN] at a2;have e1:=bE a2.1;subst e1;have e2:=bE a2.2.1;subst e2;have e3:o%(sz+1)=0:=bE a2.2.2.1;have e4:=cN a2.2.2.2.1;have e5:=bE a2.2.2.2.2;subst e5;have hq:o/(sz+1)*(sz+1)=o:=by have:=lG o (sz+1);rw [bZ,e3] at this;simpa using this
    simp only [R] at hx;obtain⟨l,cap,hl,rfl,hlc,b3⟩:=hx;generalize f2:o/(sz+1)=q at*;have d1:Nat.div o (sz+1)=q:=f2;rw [d1] at ha;subst hq;split at ha
    ·cases ha
    ·rename_i old a0;rw [CX] at a0;obtain⟨g1,g2⟩:=wH _ _ _ a0;cases hfull:Nat.beq (Nat.add q len) (pG els) with
     |true=>
      rw [hfull] at ha;simp only [cQ] at ha;have h9:q+len=els.length:=by have:=bE hfull;rwa [xJ] at this
      have a4:old=els.drop q:=by rw [g2,eS (by rw [dK];omega)]
      exact UF k T (UZ _) hb hl h9 a4 ha hlc (by omega) A B (by omega)
     | false=>
      rw [hfull] at ha;simp only [lE] at ha;split at ha
      ·rename_i cut c7;obtain⟨g3,g4⟩:=wH _ _ _ c7;have f7:q+len≤els.length:=g3;have c0:cut=els.take (q+len):=g4;obtain⟨l2,hl2,C,tC,fz,hc⟩:=k.obj _ _ hb;rw [hl] at hl2;cases hl2;have c6:=k.lt _ _ hl;have b8:w={ w with heap:=w.heap.setIfInBounds l.blk (.cells C tC fz) }:=by
        have d9:=(aM.1 hc.at_).2;have:w.heap.setIfInBounds l.blk (.cells C tC fz)=w.heap:=by
         apply vX;intro j;simp only [mG]
         by_cases e:l.blk=j
         ·subst e;simp [c6,d9]
         ·simp [e]
        rw [this]
       have a6:cut.flatten=els.flatten.take ((q+len)*(sz+1)):=by rw [c0,flat_take _ _ hc.each]
       have F1:=Fr.updCells (els':=cut) (ro':=.rw c3) k hb hl b8 (fun _=>⟨C,tC,fz,⟨hc.at_,hc.room,by rw [a6,bJ];have:=hc.len;omega,
        fun e he=>hc.each e (jV (c0▸he)),(fun i x hx=>by
         rw [a6,vW] at hx;split at hx
         ·exact hc.val i x hx
         ·exact absurd hx (by simp)),hc.free,hc.plain,hc.typ,hc.al⟩⟩)
       have d8:aB b (eP (gW h f b) b (.cells (sz+1) cut f (.rw c3))).mem=some (.cells (sz+1) cut f (.rw c3)):=by rw [sE];exact gN _ _ _
       have a4:old=cut.drop q:=by rw [g2,c0,List.drop_take];congr 1;omega
       obtain⟨u,w',m',r1,r2,r3⟩:=UF F1.hr T (ty:=ty) (UZ _) d8 hl (by rw [c0,bJ];omega) a4 ha hlc (by omega) A B (by omega);exact⟨u,w',m',r1,F1.trans r2,r3⟩
      ·cases ha
   ·cases ha
  ·cases ha
end
section
variable {P:Program} {m:Mp} {w:Wo}
def Au {h:H} (k:HR m h w) {b f:Id} {sz o ty:Nat} {els els':List (List V)} {xs:List V} {xs':Lv} {l:Loc} {C:Array Value} {t:TypeId} {fz:Nat × Nat}
  (hb:aB b h.mem=some (.cells sz els f (.rw ty))) (hl:m b=some l) (hc:CellsAt m w l sz els (.rw ty) C t fz) (hx:Rl m xs xs') (hs:∀x∈xs',dR x)
  (a8:o+xs.length≤els.flatten.length) (a3:els'.flatten=els.flatten.take o++xs++els.flatten.drop (o+xs.length)) (a1:∀e∈els',e.length=sz):
  ∃w',(storeCells ⟨l.blk,l.base+o,none⟩ xs').run P w= .ok () w'∧Fr m h w m (eP (gW h f b) b (.cells sz els' f (.rw ty))) w':=by
 have a2:=hc.room;have b0:=hc.len;have a5:=hx.length;have a4:=zP (P:=P) (b:=l.blk) (off:=l.base+o) (t:=t) (fz:=fz) xs' 0 C w hc.at_ (by omega) hs (fun j hj=>by
  have:=hc.free rfl (o+j) (by omega);rw [show l.base+(o+j)=l.base+o+0+j by omega] at this;exact this)
 refine⟨_,a4,Fr.updCells k hb hl rfl ?_⟩;intro a7;refine⟨_,t,fz,⟨a7,?_,?_,?_,?_,hc.free,hc.plain,hc.typ,hc.al⟩⟩
 ·have:(⟨C.toList.take (l.base+o+0)++xs'++C.toList.drop (l.base+o+0+xs'.length)⟩:Array Value).size=C.size:=by
   show(C.toList.take (l.base+o+0)++xs'++C.toList.drop (l.base+o+0+xs'.length)).length=C.size;simp only [aI,bJ,dK,cZ];omega
  rw [this];exact a2
 ·rw [a3];simp only [aI,bJ,dK,cZ];omega
 ·exact a1
 ·intro i x a0;rw [a3] at a0;have a6:∀j:Nat,(⟨C.toList.take (l.base+o+0)++xs'++C.toList.drop (l.base+o+0+xs'.length)⟩:Array Value)[j]?=
    (C.toList.take (l.base+o)++xs'++C.toList.drop (l.base+o+xs'.length))[j]?:=by intro j;simp
  rw [a6]
  by_cases c1:i<o
  ·rw [fO,fF (by simp only [aI,bJ,dK,cZ];omega),iQ c1] at a0;obtain⟨u,h1,h2,h3⟩:=hc.val i x a0;refine⟨u,?_,h2,h3⟩;rw [fO,fF (by simp only [aI,bJ,dK,cZ];omega),iQ (by omega)];simpa using h1
  ·by_cases c2:i<o+xs.length
   ·rw [fO,eO (by simp only [aI,bJ,dK,cZ];omega),fF (by simp only [aI,bJ,dK,cZ];omega)] at a0;have e1:i-(els.flatten.take o).length=i-o:=by simp only [aI,bJ,dK,cZ];omega
    rw [e1] at a0;obtain⟨u,h1,h2⟩:=hx.get a0;refine⟨u,?_,h2,hs u (aP h1)⟩;rw [fO,eO (by simp only [aI,bJ,dK,cZ];omega),fF (by simp only [aI,bJ,dK,cZ];omega),←h1];congr 1;simp only [aI,bJ,dK,cZ];omega
   ·rw [eO (by simp only [aI,bJ,dK,cZ];omega),kR] at a0;have e1:o+xs.length+(i-(els.flatten.take o++xs).length)=i:=by simp only [aI,bJ,dK,cZ];omega
    rw [e1] at a0;obtain⟨u,h1,h2,h3⟩:=hc.val i x a0;refine⟨u,?_,h2,h3⟩;rw [eO (by simp only [aI,bJ,dK,cZ];omega),kR];have e2:l.base+o+xs'.length+(l.base+i-(C.toList.take (l.base+o)++xs').length)=l.base+i:=by simp only [aI,bJ,dK,cZ];omega
    rw [e2];simpa using h1
def Av {h:H} (k:HR m h w) {b f:Id} {sz q ty:Nat} {els els' xs:List (List V)} {us:Lv} {l:Loc} (hb:aB b h.mem=some (.cells sz els f (.rw ty))) (hl:m b=some l)
  (hx:Rl m xs.flatten us) (hs:∀x∈us,dR x) (he:∀e∈xs,e.length=sz) (ho:iF q els xs=some els'):
  ∃w',(storeCells ⟨l.blk,l.base+q*sz,none⟩ us).run P w= .ok () w'∧Fr m h w m (eP (gW h f b) b (.cells sz els' f (.rw ty))) w':=by
 obtain⟨l2,hl2,C,t,fz,hc⟩:=k.obj _ _ hb;rw [hl] at hl2;cases hl2;obtain⟨h1,rfl⟩:=uG _ _ _ ho;have b2:=flat_len hc.each;have a5:=flat_len he;have a9:(q+xs.length)*sz≤els.length*sz:=fE _ h1;rw [dI] at a9;refine Au k hb hl hc hx hs (by omega) ?_ ?_
 ·rw [Lw,Lw,flat_take _ _ hc.each,xR _ _ hc.each,a5,dI]
 ·intro e h;rcases bX.1 h with h|h
  ·rcases bX.1 h with h|h
   ·exact hc.each e (jV h)
   ·exact he e h
  ·exact hc.each e (yY h)
def Dd {h:H} (k:HR m h w) {t:TypeId} {x:Option Value} {v:V} (hx:x=none∨(∃kt et kk n,P.underlying t=some (.map kt et)∧x=some (.int kk n))) (hn:sO h (fun _=>.map [] 0) (fun i=>.mp i)= .ok v h'):
  ∃u w' m',(Instr.makeMap t x).run P w= .ok u w'∧Fr m h w m' h' w'∧R m' v u:=by
 obtain⟨nx,hnx,rfl,rfl⟩:=AW hn;refine⟨.map (some w.heap.size),_,_,?_,Fr.new k hnx (.map #[] 0) (.map [] 0) ⟨w.heap.size,0,0⟩ rfl (fun _ _ _ _ e=>by cases e) trivial ?_,?_⟩
 ·rcases hx with rfl|⟨kt,et,kk,n,hu,rfl⟩
  ·simp [Instr.makeMap]
  ·simp [Instr.makeMap,dW hu,asInt,asIntOf]
 ·intro m' hm w' b1;exact⟨[],b1,by simp [bQ]⟩
 ·simp [R]
end
section
variable {P:Program} {m:Mp} {w:Wo}
def Ag {h:H} (k:HR m h w) {t kt et:TypeId} {b:Id} {l:Loc} {es:List Ent} {a0:Nat} {v:V} (hu:P.underlying t=some (.map kt et)) (hl:m b=some l) (he:iM h b=some (es,a0))
  (hn:sO h (fun _=>.miter b a0 [] a0) (fun i=>.p i 0)= .ok v h'):
  ∃u' w' m',(Instr.range t (.map (some l.blk))).run P w= .ok u' w'∧Fr m h w m' h' w'∧R m' v u':=by
 obtain⟨nx,hnx,rfl,rfl⟩:=AW hn;obtain⟨l2,es',hb,hl2,hat,hes⟩:=pN k he;rw [hl] at hl2;cases hl2;have hg:(getObj l.blk).run P w= .ok (.map ⟨es'⟩ a0) w:=zQ hat (fun _ _ _ e=>by cases e);refine⟨.pointer (some ⟨w.heap.size,0,none⟩),_,_,?_,Fr.new k hnx (.mapIter (some l.blk) a0 #[] a0) (.miter b a0 [] a0) ⟨w.heap.size,0,0⟩ rfl (fun _ _ _ _ e=>by cases e) trivial ?_,?_⟩
 ·simp [Instr.range,dW hu,hg]
 ·intro m' hm w' b8;exact⟨rfl,l,hm _ _ hl,b8⟩
 ·simp [R]
def bQ.filter {p:Nat→Bool}:∀{es:List Ent} {xs:List MapEntry},bQ m es xs→bQ m (es.filter fun e=>p e.born) (xs.filter fun e=>p e.born)
 | [],xs,h=>by simp only [bQ] at h;subst h;simp [bQ]
 |e::es,xs,h=>by
  obtain⟨x,xs,rfl,hx,hxs⟩:=h;have hb:x.born=e.born:=hx.2.2;simp only [List.filter_cons,hb];split
  ·exact⟨x,_,rfl,hx,bQ.filter hxs⟩
  ·exact bQ.filter hxs
def bQ.all {p:Nat→Bool}:∀{es:List Ent} {xs:List MapEntry},bQ m es xs→(xs.all fun e=>p e.born)=(es.all fun e=>p e.born)
 | [],xs,h=>by simp only [bQ] at h;subst h;rfl
 |e::es,xs,h=>by
  obtain⟨x,xs,rfl,hx,hxs⟩:=h;have hb:x.born=e.born:=hx.2.2;simp only [qB,hb,bQ.all hxs]
def bQ.empty:∀{es:List Ent} {xs:List MapEntry},bQ m es xs→xs.isEmpty=es.isEmpty
 | [],xs,h=>by simp only [bQ] at h;subst h;rfl
 |e::es,xs,h=>by obtain⟨x,xs,rfl,_,_⟩:=h;rfl
def Bx {h:H} (k:HR m h w) {ty:TypeId} {b:Id} {l:Loc} {v:V} (hl:m b=some l) (hn:GH h b= .ok v h'):
  ∃u' w' m',(Instr.next (.pointer (some ⟨l.blk,l.base+0,none⟩)) false ty).run P w= .ok u' w'∧Fr m h w m' h' w'∧R m' v u':=by
 unfold GH at hn;split at hn
 ·rename_i mi a2 seen a3 hb;obtain⟨l1,hl1,h0,lm,hlm,hit⟩:=k.obj _ _ hb;rw [hl] at hl1;cases hl1;have hg:(getObj l.blk).run P w= .ok (.mapIter (some lm.blk) a2 ⟨seen⟩ a3) w:=zQ hit (fun _ _ _ e=>by cases e);rw [h0];split at hn
  ·rename_i es a0 he;obtain⟨l2,es',hb2,hl2,hat,hes⟩:=pN k he;have a9:lm=l2:=by rw [hlm] at hl2;cases hl2;rfl
   subst a9;have b2:(getObj lm.blk).run P w= .ok (.map ⟨es'⟩ a0) w:=zQ hat (fun _ _ _ e=>by cases e);cases hgone:(!seen.isEmpty&& !es.isEmpty&&es.all (fun e=>Nat.ble a3 e.born)) with
   |true=>rw [hgone] at hn;cases hn
   |false=>
   rw [hgone] at hn;simp only [lE] at hn;have a4:(!seen.isEmpty&& !es'.isEmpty&&es'.all (fun e=>decide (e.born≥a3)))=false:=by
    rw [hes.empty,←hgone];congr 1;have:=hes.all (p:=fun n=>Nat.ble a3 n);rw [←this];congr 1;funext e;rw [iS];simp
   have a1:=hes.filter (p:=fun n=>!seen.any (Nat.beq n));have b1:(es'.filter fun e=>!seen.contains e.born)=(es'.filter fun e=>!seen.any (Nat.beq e.born)):=by
    congr 1;funext e;congr 1;rw [iS];simp
   have b3:nO seen es=es.filter fun e=>!seen.any (Nat.beq e.born):=rfl
   have b0:∀o',(setObj l.blk o').run P w= .ok () { w with heap:=w.heap.setIfInBounds l.blk o' }:=fun o'=>uE hit (fun _ _ _ e=>by cases e)
   split at hn
   ·rename_i a5;cases hn;rw [b3] at a5;rw [a5] at a1;simp only [bQ] at a1;rw [←b1] at a1;refine⟨.tuple #[.bool false],w,m,?_,Fr.refl k,by simp [R,Rl]⟩;have hA:((⟨es'⟩:Array MapEntry).filter fun e=>!(⟨seen⟩:Array Nat).contains e.born)=#[]:=by
     apply lH.1;simpa using a1
    unfold Instr.next;have a8:(!(⟨seen⟩:Array Nat).isEmpty&& !(⟨es'⟩:Array MapEntry).isEmpty&&(⟨es'⟩:Array MapEntry).all fun e=>decide (e.born≥a3))=false:=by
     rw [←a4];simp
    simp only [hg,b2,bF,Result.andThen,a8,hA,dX,fN];simp [Question.forced]
   ·rename_i e a6;rw [b3] at a6;rw [a6] at a1;obtain⟨x,xs0,hx0,hxe,hxn⟩:=a1;simp only [bQ] at hxn;subst hxn;rw [←b1] at hx0;cases hbo:Nat.ble (Nat.succ e.born) a2 with
    |false=>rw [hbo] at hn;cases hn
    | true=>
     rw [hbo] at hn;simp only [cQ] at hn;cases hn;have b5:x.born<a2:=by rw [hxe.2.2];exact cN hbo
     refine⟨.tuple #[.bool true,x.key,x.val],_,m,?_,Fr.updObj k hb hl (fun _ _ _ _ e=>by cases e) (fun _ _ _ _ e=>by cases e) (o':=.mapIter (some lm.blk) a2 ⟨seen++ [e.born]⟩ a0) rfl (fun a7=>⟨h0,lm,hlm,a7⟩),?_⟩
     ·have hA:((⟨es'⟩:Array MapEntry).filter fun e=>!(⟨seen⟩:Array Nat).contains e.born)=#[x]:=by
       apply lH.1;simpa using hx0
      unfold Instr.next;have a8:(!(⟨seen⟩:Array Nat).isEmpty&& !(⟨es'⟩:Array MapEntry).isEmpty&&(⟨es'⟩:Array MapEntry).all fun e=>decide (e.born≥a3))=false:=by
       rw [←a4];simp
      simp only [hg,b2,bF,Result.andThen,a8,hA,dX,fN];have b6:(#[x].filter fun x=>decide (x.born<a2))=#[x]:=by simp [b5]
      have b7:(#[x].filter fun x=>decide (x.born≥a2))=#[]:=by simp;omega
      have b4:x.born=e.born:=hxe.2.2;simp only [b6,b7];simp [Question.forced,b0,b4]
     ·simp only [R,Rl];exact⟨_,rfl,_,_,rfl,rfl,_,_,rfl,hxe.1,_,_,rfl,hxe.2.1,rfl⟩
   ·cases hn
  ·cases hn
 ·cases hn
end
section
variable {P:Program} {m:Mp} {w:Wo}
def SU:∀(els:List (List V)) {bs:List Nat} {us:Lv},vB els=some bs→Rl m els.flatten us→us=bs.map (fun n:Nat=>Value.int .u8 (n:Int))∧(∀n∈bs,n<256)∧bs.length=els.length
 | [],bs,us,hb,hr=>by
  simp only [vB,cI] at hb;subst hb;simp only [List.flatten_nil,Rl] at hr;subst hr;simp
 | el::els,bs,us,hb,hr=>by
  unfold vB at hb;split at hb
  ·rename_i e;cases e
  ·rename_i n r e;cases e;cases hn:Nat.ble n 255 with
   |false=>rw [hn] at hb;cases hb
   | true=>
    rw [hn] at hb;simp only [cQ] at hb;cases hr2:vB els with
    |none=>rw [hr2] at hb;cases hb
    |some l=>
     rw [hr2] at hb;cases hb;simp only [jW,qA,oO,Rl] at hr;obtain⟨u,us',rfl,hu,hrest⟩:=hr;simp only [R] at hu;subst hu;obtain⟨g1,g2,g3⟩:=SU els hr2 hrest;have:=cN hn;refine⟨by simp [g1],?_,by simp [g3]⟩;intro x hx;rcases cD.1 hx with rfl|hx
     ·omega
     ·exact g2 x hx
  ·cases hb
end
section
variable {P:Program} {m:Mp} {w:Wo}
def Hz {h:H} (k:HR m h w) {sz:Nat} {x v z:V} {zc:List V} {ux:Value} {ts:Array TypeId} {t ty el:TypeId} (h0:ts[0]?=some t) (hu:P.underlying t=some (.slice el))
  (hz:gC P el=some z) (hc:dT z=some zc) (a1:zc.length=sz+1) (hx:R m x ux) (ha:IE h (sz+1) zc x= .ok v h'):
  ∃u w' m',(Builtin.clear_ ts ty #[ux]).run P w= .ok u w'∧Fr m h w m' h' w'∧R m' v u:=by
 obtain⟨uz,hzr,rfl,_⟩:=mH (w:=w) hz;obtain⟨a2,h1,h2,h3⟩:=rB (m:=m) hc;have a4:uz.cells.size=sz+1:=by rw [h1];show a2.length=_;rw [h2.length,a1]
 unfold IE at ha;split at ha
 ·rename_i b o len zz;split at ha
  ·rename_i a5 els f a6 hb;cases hcd:(Nat.beq a5 (sz+1)&&(Nat.beq zz (sz+1)&&Nat.beq (Nat.mod o (sz+1)) 0)) with
   |false=>rw [hcd] at ha;cases ha
   |true=>
   rw [hcd] at ha;simp only [cQ] at ha;simp only [aN] at hcd;have e1:=bE hcd.1;subst e1;have e2:=bE hcd.2.1;subst e2;have e3:o%(sz+1)=0:=bE hcd.2.2;have hq:o/(sz+1)*(sz+1)=o:=by have:=lG o (sz+1);rw [bZ,e3] at this;simpa using this
   simp only [R] at hx;obtain⟨l,cap,hl,rfl,hlc,hlim⟩:=hx;split at ha
   ·rename_i els' a3;cases ha;obtain⟨w',r1,r2⟩:=Av (P:=P) (q:=o/(sz+1)) k hb hl (h2.rep len) (zW h3 len) (by
     intro e0 he;rw [wN] at he;rw [(yX.1 he).2,a1]) a3
    rw [hq] at r1;have a0:(Builtin.zeroCells uz.cells len).toList=(List.replicate len a2).flatten:=by
     rw [Builtin.zeroCells,zF uz.cells len (by omega),h1]
    refine⟨.tuple #[],w',m,?_,r2,by simp [R,Rl,cL]⟩;cases len with
    |zero=>
     simp only [JV,List.flatten_nil,storeCells,cH] at r1;cases r1;simp [Builtin.clear_,h0,dW hu]
    |succ n=>
     simp [Builtin.clear_,h0,dW hu,hzr,a0,r1]
   ·cases ha
  ·cases ha
 ·cases ha;simp only [R] at hx;subst hx;exact⟨.tuple #[],w,m,by simp [Builtin.clear_,h0,dW hu],Fr.refl k,by simp [R,Rl,cL]⟩
 ·cases ha;simp only [R] at hx;obtain⟨a,cap,rfl⟩:=hx;exact⟨.tuple #[],w,m,by simp [Builtin.clear_,h0,dW hu],Fr.refl k,by simp [R,Rl,cL]⟩
 ·cases ha
end
section
variable {P:Program} {m:Mp} {w:Wo}
def Fi {a:Addr} (h:w.heap[a.block]?=some (.cells C t fz)) (hn:n≠0):
  ∃fz',w.freeze a n={ w with heap:=w.heap.setIfInBounds a.block (.cells C t fz') }:=by
 obtain⟨lo,hi⟩:=fz;refine⟨if lo==hi then(a.off,a.off+n) else(min lo a.off,max hi (a.off+n)),?_⟩;unfold World.freeze;rw [if_neg hn];congr 1;apply vX;intro j;rw [oR,mG];have b0:=(aM.1 h).1
 by_cases e:a.block=j
 ·subst e;rw [h];simp [b0]
 ·simp [e]
def Fr.updCellsR {h:H} (k:HR m h w) {b f:Id} {sz:Nat} {els els':List (List V)} {ro ro':Rw} {l:Loc} {o':Obj}
  (hb:aB b h.mem=some (.cells sz els f ro)) (c8:ro≠ .fz) (hl:m b=some l)
  (d2:w'={ w with heap:=w.heap.setIfInBounds l.blk o' })
  (c7:w'.heap[l.blk]?=some o'→ObjAt m w' l (.cells sz els' f ro')):
  Fr m h w m (eP (gW h f b) b (.cells sz els' f ro')) w':=by
 rw [sE,xI];have hk:∀x ox,aB x (iH (kH b (aU f h.fams)) h.mem)=some ox→aB x h.mem=some ox∧(x∈aU f h.fams→x=b):=by
  intro x ox hx;rw [lS] at hx;split at hx
  ·cases hx
  ·rename_i hn;refine⟨hx,fun hm=>?_⟩
   by_cases e:x=b
   ·exact e
   ·exact absurd ((qH b _ x).2 ⟨hm,e⟩) hn
 refine Fr.upd k hb hl (by simpa [jJ] using c8) (fun x ox hx=>(hk x ox hx).1) ?_ ?_ ?_ ?_ (fun sz1 els1 f1 a8 e=>by cases e;exact⟨b,_,_,_,hb⟩) ?_ d2 c7
 ·intro x ox lx a4 hx c5 c3;obtain⟨a2,hm⟩:=hk x ox hx;have hs:=k.sep x b ox _ lx l a2 hb c5 hl a4 c3;cases ox with
  |cells sz1 els1 f1 a8=>
   have hf:f1=f:=hs;subst hf;exact a4 (hm (k.fam x b _ _ _ _ _ _ _ a2 hb a4))
  |_=>exact hs
 ·intro x y sz1 els1 f1 a8 sz2 els2 b8 hx hy a4;have a0:x=b∧f1=f∨x≠b∧aB x h.mem=some (.cells sz1 els1 f1 a8)∧(x∈aU f h.fams→x=b):=by
   by_cases e:x=b
   ·subst e;rw [gN] at hx;cases hx;exact .inl ⟨rfl,rfl⟩
   ·rw [fG e] at hx;exact .inr ⟨e,hk x _ hx⟩
  have b7:y=b∧f1=f∨y≠b∧aB y h.mem=some (.cells sz2 els2 f1 b8)∧(y∈aU f h.fams→y=b):=by
   by_cases e:y=b
   ·subst e;rw [gN] at hy;cases hy;exact .inl ⟨rfl,rfl⟩
   ·rw [fG e] at hy;exact .inr ⟨e,hk y _ hy⟩
  by_cases hf:f1=f
  ·subst hf;rcases a0 with⟨rfl,_⟩|⟨hn1,a2,hm1⟩
   ·rcases b7 with⟨rfl,_⟩|⟨hn2,a7,hm2⟩
    ·exact absurd rfl a4
    ·exact absurd (hm2 (k.fam y x _ _ _ _ _ _ _ a7 hb hn2)) hn2
   ·exact absurd (hm1 (k.fam x b _ _ _ _ _ _ _ a2 hb hn1)) hn1
  ·have a2:aB x h.mem=some (.cells sz1 els1 f1 a8):=by
    rcases a0 with⟨_,e⟩|⟨_,a2,_⟩
    ·exact absurd e hf
    ·exact a2
   have a7:aB y h.mem=some (.cells sz2 els2 f1 b8):=by
    rcases b7 with⟨_,e⟩|⟨_,a7,_⟩
    ·exact absurd e hf
    ·exact a7
   have:=k.fam x y _ _ _ _ _ _ _ a2 a7 a4;show x∈aU f1 _;split
   ·exact this
   ·rw [jR hf];exact this
 ·intro f1;show(aU f1 _).Pairwise _;split
  ·exact k.ord f1
  ·by_cases e:f1=f
   ·subst e;rw [pL];exact .nil
   ·rw [jR e];exact k.ord f1
 ·intro sz1 els1 f1 a8 e;cases e;exact k.famlt _ _ _ _ _ hb
 ·intro f1 x hx;have a0:x∈aU f1 (if aU f h.fams= [] then h.fams else gX f [] h.fams):=hx;split at a0
  ·exact k.flt f1 x a0
  ·by_cases e:f1=f
   ·subst e;rw [pL] at a0;cases a0
   ·rw [jR e] at a0;exact k.flt f1 x a0
def XD {h:H} (k:HR m h w) {t t2 el ty:TypeId} {ts:List TypeId} {x v:V} {ux:Value} {n:Nat} (hu:P.underlying t=some (.pointer el)) (hs:bM P el=some 1) (hx:R m x ux)
  (hv:EJ el h x n= .ok v h'):∃u w' m',(Builtin.unsafeString_ ⟨t::t2::ts⟩ ty #[ux,.int .i64 (n:Int)]).run P w= .ok u w'∧Fr m h w m' h' w'∧R m' v u:=by
 have b1:IntKind.i64.max=9223372036854775807:=rfl;have d5:(⟨t::t2::ts⟩:Array TypeId)[0]?=some t:=by simp
 unfold EJ at hv;cases n with
 | zero=>
  simp only at hv;have hp:∃p,ux= .pointer p:=by
   split at hv
   ·simp only [R] at hx;exact⟨_,hx⟩
   ·simp only [R] at hx;obtain⟨l,_,hx⟩:=hx;exact⟨_,hx⟩
   ·cases hv
  have d1:v= .s 0 0∧h'=h:=by
   split at hv
   ·cases hv;exact⟨rfl,rfl⟩
   ·cases hv;exact⟨rfl,rfl⟩
   ·cases hv
  obtain⟨p,rfl⟩:=hp;obtain⟨rfl,rfl⟩:=d1;refine⟨.string .empty,w,m,?_,Fr.refl k,?_⟩
  ·cases p with
   |none=>
    rfl
   |some a=>
    rfl
  ·have:=R_strOf m ByteArray.empty;simpa [eH,wJ,mS] using this
 | succ n=>
  simp only at hv;obtain⟨b,o,e0,hv1⟩:=DJ hv;clear hv;have hv:=hv1;clear hv1;subst e0;simp only [R] at hx;obtain⟨l,hl,rfl⟩:=hx;split at hv
  ·rename_i sz els f ro hb;split at hv
   case h_2=>cases hv
   rename_i d4 b5;cases hcd:(Nat.beq sz 1&&(Nat.beq d4 el&&Nat.ble n 1000000)) with
   |false=>rw [hcd] at hv;cases hv
   | true=>
    rw [hcd] at hv;simp only [cQ] at hv;simp only [aN] at hcd;have e1:=bE hcd.1;subst e1;have e2:=bE hcd.2.1;subst e2;have e3:=cN hcd.2.2;split at hv
    ·rename_i L hL;split at hv
     ·rename_i bs c2;cases hv;obtain⟨l2,hl2,C,tC,fz,hc⟩:=k.obj _ _ hb;rw [hl] at hl2;cases hl2;have ht:=hc.typ _ b5;subst ht;rw [CX] at hL;obtain⟨g1,g2⟩:=wH _ _ _ hL;have b3:o+(n+1)≤els.length:=by rw [dK] at g1;omega
      obtain⟨us,s1,s2,s3,s4,s5,s6⟩:=HY (o:=o) (len:=n+1) hc (vN _) (by rw [JR];exact g1);rw [JR,←g2] at s4;obtain⟨q1,q2,q3⟩:=SU L c2 s4;have b6:us.length=n+1:=by rw [s3];omega
      have c1:bs.length=n+1:=by rw [q1] at b6;simpa using b6
      have a5:∀j y,(bs.map UInt8.ofNat)[j]?=some y→w.cell? ((⟨l.blk,l.base+o,none⟩:Addr).add j)=some (.int .u8 y.toNat):=by
       intro j y hy;rw [oK,uZ hc.at_];have d3:us[j]?=some (.int .u8 (y.toNat:Int)):=by
        rw [q1];rw [iJ] at hy ⊢;cases hbj:bs[j]? with
        |none=>rw [hbj] at hy;cases hy
        |some x=>
         rw [hbj] at hy;simp only [tL,cI] at hy ⊢;subst hy;have b0:=q2 x (aP hbj);simp [rM b0]
       exact s6 j _ d3
      have a1:=Lib.run_loadBytes (P:=P) w (bs.map UInt8.ofNat) ⟨l.blk,l.base+o,none⟩ .empty a5;rw [nJ,c1] at a1;have b4:=hc.room;have c4:=hc.len;have d6:=flat_len hc.each;have a6:=PE (P:=P) (cells:=C.size) (off:=l.base+o) (n:=n+1) (SL hs) Nat.one_pos (vN _) (by omega);have c9:=ET hc.at_;obtain⟨fz',hfz⟩:=Fi (w:=w) (a:=⟨l.blk,l.base+o,none⟩) (n:=n+1) hc.at_ (by omega);have b2:¬((n:Int)+1<0):=by omega
      have a9:¬((9223372036854775807:Int)<(n:Int)+1):=by omega
      have c6:¬((n:Int)+1=0):=by omega
      have d0:((n:Int)+1).toNat=n+1:=by omega
      refine⟨.string ⟨ByteArray.empty.data++(bs.map UInt8.ofNat).toArray⟩,w.freeze ⟨l.blk,l.base+o,none⟩ (n+1),m,?_,?_,?_⟩
      ·have a3:∃s1 s2 s3,Builtin.unsafeString_ ⟨t::t2::ts⟩ ty #[.pointer (some ⟨l.blk,l.base+o,none⟩),.int .i64 ((n+1:Nat):Int)]=
        (do
         let n←asInt (.int .i64 ((n+1:Nat):Int))
         if n<0 then runtimePanic (.error s1)
         if n>IntKind.i64.max then unsupported (.unsafePointer s2)
         if n=0 then pure (.string .empty)
         else if←variablesAt ⟨l.blk,l.base+o,none⟩ (←elemOf t) n.toNat then do
          let s←loadBytes ⟨l.blk,l.base+o,none⟩ .empty n.toNat
          freeze ⟨l.blk,l.base+o,none⟩ n.toNat
          pure (.string s)
         else unsupported (.unsafePointer s3)):=⟨_,_,_,rfl⟩
       obtain⟨s1,s2,s3,a3⟩:=a3;rw [a3];simp [asInt,asIntOf,b1,b2,a9,c6,d0,variablesAt,elemOf,dW hu,c9,a6,a1]
      ·rw [hfz];refine Fr.updCellsR k hb (fun e=>by subst e;cases b5) hl rfl ?_;intro b9;exact⟨C,_,fz',⟨b9,hc.room,hc.len,hc.each,hc.val,(fun hx=>Bool.noConfusion hx),(fun hx=>Bool.noConfusion hx),(fun ty e=>aL e),hc.al⟩⟩
      ·have hR:=R_strOf m (⟨ByteArray.empty.data++(bs.map UInt8.ofNat).toArray⟩:ByteArray);have c0:eH (⟨ByteArray.empty.data++(bs.map UInt8.ofNat).toArray⟩:ByteArray)=bs:=by
        simp only [eH];have:(ByteArray.empty.data++(bs.map UInt8.ofNat).toArray).toList=bs.map UInt8.ofNat:=by simp
        rw [this,List.map_map];have hid:∀x∈bs,(UInt8.toNat∘UInt8.ofNat) x=x:=fun x hx=>by
         have:=q2 x hx;simp [rM this]
        rw [List.map_congr_left hid];simp
       rw [c0] at hR;exact hR
     ·cases hv
    ·cases hv
  ·cases hv
end
end
end Go.Ev
