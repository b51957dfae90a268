/- Lemmas; no condition. -/
import Derived.Test.YtbdpdeonapmlgaaGreatDoorZ
import GoSem.Step
import Derived.Calls
import Derived.Orders
import Derived.LoopN
import Derived.Below
import Derived.Laws.Tables
import Derived.Laws.Cells
import Derived.Laws.Unary
import Derived.Laws.Strings
import Derived.Laws.Strings2
import Derived.Laws.Concat
import Derived.Laws.StructEq
import Derived.Laws.Entries
import Derived.Lib.UnsafeStr
import Derived.Laws.MakeOwn
import Derived.Lib.ConvBytes
import Derived.Laws.BytesString
set_option linter.all false
set_option maxHeartbeats 4000000
namespace Go.Ev
noncomputable section
variable {t kt e el t2 ty t':TypeId} {n c l cap o len c' l' B off i h:Nat} {u v u' z:Value} {C a1 C' olds:Array Value} {fz fz':Nat × Nat} {s:ByteArray} {a:Act} {w w':Wo} {op:BinOp} {d ds u2:TypeDesc} {ts:Array TypeId} {b isS r:Bool} {base:Option Addr} {x:Option Bool} {k k':IntKind} {a2:TypeInfo} {P:Program} {us:Lv}
section
inductive D8 where
 |d0|d1|d2|d3|d4|d5|d6|d7
structure N8 (α:Type) where
 a0:α
 a1:α
 a2:α
 a3:α
 a4:α
 a5:α
 a6:α
 a7:α
structure Id where
 a:D8
 b:D8
 c:D8
 d:D8
 e:D8
inductive V where
 |top
 |b (x:Bool)
 |i (k:IntKind) (n:Int)
 |s (len b4:Nat)
 |pn
 |p (b:Id) (o:Nat)
 |sn
 |sl (b:Id) (o len sz:Nat)
 |se
 |mn
 |mp (b:Id)
 |fn (f:Fn) (first b3:List V)
 |nf
 |ni
 |agg (l:List V)
 |tup (l:List V)
structure Ent where
 key:V
 val:V
 born:Nat
inductive Rw where
 |rw (ty:Nat)
 |fz
 |fr (ty:Nat)
inductive O where
 |cells (sz:Nat) (els:List (List V)) (fam:Id) (ro:Rw)
 |map (es:List Ent) (a8:Nat)
 |miter (m:Id) (a9:Nat) (seen:List Nat) (b0:Nat)
def N8.all {α:Type} (x:α):N8 α:=⟨x,x,x,x,x,x,x,x⟩
abbrev E1:=N8 V
abbrev E2:=N8 E1
abbrev Env:=N8 E2
abbrev M1:=N8 (Option O)
abbrev M2:=N8 M1
abbrev M3:=N8 M2
abbrev M4:=N8 M3
abbrev Mem:=N8 M4
abbrev F1:=N8 (List Id)
abbrev F2:=N8 F1
abbrev F3:=N8 F2
abbrev F4:=N8 F3
abbrev Fam:=N8 F4
structure H where
 mem:Mem
 fams:Fam
 next:Id
inductive VH where
 |bad
 |ok (v:V) (h:H)
inductive Rs where
 |bad
 |ok (e:Env) (h:H)
inductive CR where
 |bad
 |nrm (e:Env) (h:H)
 |ext (id:Nat) (e:Env) (h:H)
 |ret (e:Env) (h:H)
abbrev bR:=Nat→List V→H→VH
def dg:Nat→D8
 |0=>.d0|1=>.d1|2=>.d2|3=>.d3|4=>.d4|5=>.d5|6=>.d6|_=>.d7
def gR {α:Type} (d:D8):N8 α→α:=
 D8.rec (motive:=fun _=>N8 α→α) N8.a0 N8.a1 N8.a2 N8.a3 N8.a4 N8.a5 N8.a6 N8.a7 d
def jN {α:Type} (d:D8):(α→α)→N8 α→N8 α:=
 D8.rec (motive:=fun _=>(α→α)→N8 α→N8 α)
  (fun k n=>N8.rec (motive:=fun _=>N8 α) (fun a b c d e f g h=>N8.mk (k a) b c d e f g h) n)
  (fun k n=>N8.rec (motive:=fun _=>N8 α) (fun a b c d e f g h=>N8.mk a (k b) c d e f g h) n)
  (fun k n=>N8.rec (motive:=fun _=>N8 α) (fun a b c d e f g h=>N8.mk a b (k c) d e f g h) n)
  (fun k n=>N8.rec (motive:=fun _=>N8 α) (fun a b c d e f g h=>N8.mk a b c (k d) e f g h) n)
  (fun k n=>N8.rec (motive:=fun _=>N8 α) (fun a b c d e f g h=>N8.mk a b c d (k e) f g h) n)
  (fun k n=>N8.rec (motive:=fun _=>N8 α) (fun a b c d e f g h=>N8.mk a b c d e (k f) g h) n)
  (fun k n=>N8.rec (motive:=fun _=>N8 α) (fun a b c d e f g h=>N8.mk a b c d e f (k g) h) n)
  (fun k n=>N8.rec (motive:=fun _=>N8 α) (fun a b c d e f g h=>N8.mk a b c d e f g (k h)) n) d
def cN:V:=.tup []
def Env.new:Env:=N8.all (N8.all (N8.all cN))
def bQ (t:Nat) (e:Env):V:=gR (dg (t%8)) (gR (dg (t/8%8)) (gR (dg (t/64)) e))
def iP (t:Nat) (v:V) (e:Env):Env:=jN (dg (t/64)) (jN (dg (t/8%8)) (jN (dg (t%8)) (fun _=>v))) e
def aB (i:Id) (m:Mem):Option O:=
 Id.rec (motive:=fun _=>Mem→Option O) (fun a b c d e m=>gR e (gR d (gR c (gR b (gR a m))))) i m
def dU (i:Id) (x:Option O) (m:Mem):Mem:=
 Id.rec (motive:=fun _=>Option O→Mem→Mem) (fun a b c d e x m=>jN a (jN b (jN c (jN d (jN e (fun _=>x))))) m) i x m
def aP (i:Id) (m:Fam):List Id:=
 Id.rec (motive:=fun _=>Fam→List Id) (fun a b c d e m=>gR e (gR d (gR c (gR b (gR a m))))) i m
def gV (i:Id) (x:List Id) (m:Fam):Fam:=
 Id.rec (motive:=fun _=>List Id→Fam→Fam) (fun a b c d e x m=>jN a (jN b (jN c (jN d (jN e (fun _=>x))))) m) i x m
def Mem.new:Mem:=N8.all (N8.all (N8.all (N8.all (N8.all none))))
def Fam.new:Fam:=N8.all (N8.all (N8.all (N8.all (N8.all []))))
def D8.nextd:D8→Bool × D8
 | .d0=>(false,.d1)| .d1=>(false,.d2)| .d2=>(false,.d3)| .d3=>(false,.d4)| .d4=>(false,.d5)| .d5=>(false,.d6)| .d6=>(false,.d7)| .d7=>(true,.d0)
def Id.succ:Id→Option Id
 | ⟨a,b,c,d,e⟩=>match e.nextd with
  |(false,e')=>some ⟨a,b,c,d,e'⟩
  | (true,e')=>match d.nextd with
   |(false,d')=>some ⟨a,b,c,d',e'⟩
   | (true,d')=>match c.nextd with
    |(false,c')=>some ⟨a,b,c',d',e'⟩
    | (true,c')=>match b.nextd with
      |(false,b')=>some ⟨a,b',c',d',e'⟩
      | (true,b')=>match a.nextd with
        |(false,a')=>some ⟨a',b',c',d',e'⟩
        |(true,_)=>none
def D8.toNat:D8→Nat
 | .d0=>0| .d1=>1| .d2=>2| .d3=>3| .d4=>4| .d5=>5| .d6=>6| .d7=>7
def Id.toNat:Id→Nat
 |⟨a,b,c,d,e⟩=>(((a.toNat*8+b.toNat)*8+c.toNat)*8+d.toNat)*8+e.toNat
def D8.beq (x y:D8):Bool:=Nat.beq x.toNat y.toNat
def Id.beq:Id→Id→Bool
 |⟨a,b,c,d,e⟩,⟨a',b',c',d',e'⟩=>D8.beq e e'&&(D8.beq d d'&&(D8.beq c c'&&(D8.beq b b'&&D8.beq a a')))
def nM (n:Nat):Id:=⟨dg (n/4096%8),dg (n/512%8),dg (n/64%8),dg (n/8%8),dg (n%8)⟩
def tB {α:Type} (v:V):(Bool→α)→α→α:=
 V.rec (motive_1:=fun _=>(Bool→α)→α→α) (motive_2:=fun _=>Unit) (fun _ d=>d) (fun x0 k _=>k x0) (fun _ _ _ d=>d) (fun _ _ _ d=>d) (fun _ d=>d) (fun _ _ _ d=>d) (fun _ d=>d) (fun _ _ _ _ _ d=>d) (fun _ d=>d) (fun _ d=>d) (fun _ _ d=>d) (fun _ _ _ _ _ _ d=>d) (fun _ d=>d) (fun _ d=>d) (fun _ _ _ d=>d) (fun _ _ _ d=>d) () (fun _ _ _ _=>()) v
def gW {α:Type} (v:V):(IntKind→Int→α)→α→α:=
 V.rec (motive_1:=fun _=>(IntKind→Int→α)→α→α) (motive_2:=fun _=>Unit) (fun _ d=>d) (fun _ _ d=>d) (fun x0 x1 k _=>k x0 x1) (fun _ _ _ d=>d) (fun _ d=>d) (fun _ _ _ d=>d) (fun _ d=>d) (fun _ _ _ _ _ d=>d) (fun _ d=>d) (fun _ d=>d) (fun _ _ d=>d) (fun _ _ _ _ _ _ d=>d) (fun _ d=>d) (fun _ d=>d) (fun _ _ _ d=>d) (fun _ _ _ d=>d) () (fun _ _ _ _=>()) v
def sW {α:Type} (v:V):(Nat→Nat→α)→α→α:=
 V.rec (motive_1:=fun _=>(Nat→Nat→α)→α→α) (motive_2:=fun _=>Unit) (fun _ d=>d) (fun _ _ d=>d) (fun _ _ _ d=>d) (fun x0 x1 k _=>k x0 x1) (fun _ d=>d) (fun _ _ _ d=>d) (fun _ d=>d) (fun _ _ _ _ _ d=>d) (fun _ d=>d) (fun _ d=>d) (fun _ _ d=>d) (fun _ _ _ _ _ _ d=>d) (fun _ d=>d) (fun _ d=>d) (fun _ _ _ d=>d) (fun _ _ _ d=>d) () (fun _ _ _ _=>()) v
def iJ {α:Type} (v:V):(Id→Nat→α)→α→α:=
 V.rec (motive_1:=fun _=>(Id→Nat→α)→α→α) (motive_2:=fun _=>Unit) (fun _ d=>d) (fun _ _ d=>d) (fun _ _ _ d=>d) (fun _ _ _ d=>d) (fun _ d=>d) (fun x0 x1 k _=>k x0 x1) (fun _ d=>d) (fun _ _ _ _ _ d=>d) (fun _ d=>d) (fun _ d=>d) (fun _ _ d=>d) (fun _ _ _ _ _ _ d=>d) (fun _ d=>d) (fun _ d=>d) (fun _ _ _ d=>d) (fun _ _ _ d=>d) () (fun _ _ _ _=>()) v
def vF {α:Type} (v:V):(Id→Nat→Nat→Nat→α)→α→α:=
 V.rec (motive_1:=fun _=>(Id→Nat→Nat→Nat→α)→α→α) (motive_2:=fun _=>Unit) (fun _ d=>d) (fun _ _ d=>d) (fun _ _ _ d=>d) (fun _ _ _ d=>d) (fun _ d=>d) (fun _ _ _ d=>d) (fun _ d=>d) (fun x0 x1 x2 x3 k _=>k x0 x1 x2 x3) (fun _ d=>d) (fun _ d=>d) (fun _ _ d=>d) (fun _ _ _ _ _ _ d=>d) (fun _ d=>d) (fun _ d=>d) (fun _ _ _ d=>d) (fun _ _ _ d=>d) () (fun _ _ _ _=>()) v
def IC {α:Type} (v:V):((List V)→α)→α→α:=
 V.rec (motive_1:=fun _=>((List V)→α)→α→α) (motive_2:=fun _=>Unit) (fun _ d=>d) (fun _ _ d=>d) (fun _ _ _ d=>d) (fun _ _ _ d=>d) (fun _ d=>d) (fun _ _ _ d=>d) (fun _ d=>d) (fun _ _ _ _ _ d=>d) (fun _ d=>d) (fun _ d=>d) (fun _ _ d=>d) (fun _ _ _ _ _ _ d=>d) (fun _ d=>d) (fun _ d=>d) (fun x0 _ k _=>k x0) (fun _ _ _ d=>d) () (fun _ _ _ _=>()) v
def HV {α:Type} (v:V):((List V)→α)→α→α:=
 V.rec (motive_1:=fun _=>((List V)→α)→α→α) (motive_2:=fun _=>Unit) (fun _ d=>d) (fun _ _ d=>d) (fun _ _ _ d=>d) (fun _ _ _ d=>d) (fun _ d=>d) (fun _ _ _ d=>d) (fun _ d=>d) (fun _ _ _ _ _ d=>d) (fun _ d=>d) (fun _ d=>d) (fun _ _ d=>d) (fun _ _ _ _ _ _ d=>d) (fun _ d=>d) (fun _ d=>d) (fun _ _ _ d=>d) (fun x0 _ k _=>k x0) () (fun _ _ _ _=>()) v
def pK {α:Type} (v:V):(Id→α)→α→α:=
 V.rec (motive_1:=fun _=>(Id→α)→α→α) (motive_2:=fun _=>Unit) (fun _ d=>d) (fun _ _ d=>d) (fun _ _ _ d=>d) (fun _ _ _ d=>d) (fun _ d=>d) (fun _ _ _ d=>d) (fun _ d=>d) (fun _ _ _ _ _ d=>d) (fun _ d=>d) (fun _ d=>d) (fun x0 k _=>k x0) (fun _ _ _ _ _ _ d=>d) (fun _ d=>d) (fun _ d=>d) (fun _ _ _ d=>d) (fun _ _ _ d=>d) () (fun _ _ _ _=>()) v
def IA {α:Type} (v:V):(Fn→(List V)→(List V)→α)→α→α:=
 V.rec (motive_1:=fun _=>(Fn→(List V)→(List V)→α)→α→α) (motive_2:=fun _=>Unit) (fun _ d=>d) (fun _ _ d=>d) (fun _ _ _ d=>d) (fun _ _ _ d=>d) (fun _ d=>d) (fun _ _ _ d=>d) (fun _ d=>d) (fun _ _ _ _ _ d=>d) (fun _ d=>d) (fun _ d=>d) (fun _ _ d=>d) (fun x0 x1 x2 _ _ k _=>k x0 x1 x2) (fun _ d=>d) (fun _ d=>d) (fun _ _ _ d=>d) (fun _ _ _ d=>d) () (fun _ _ _ _=>()) v
def yB {α:Type} (v:V):α→α→α:=
 V.rec (motive_1:=fun _=>α→α→α) (motive_2:=fun _=>Unit) (fun _ d=>d) (fun _ _ d=>d) (fun _ _ _ d=>d) (fun _ _ _ d=>d) (fun _ d=>d) (fun _ _ _ d=>d) (fun k _=>k) (fun _ _ _ _ _ d=>d) (fun _ d=>d) (fun _ d=>d) (fun _ _ d=>d) (fun _ _ _ _ _ _ d=>d) (fun _ d=>d) (fun _ d=>d) (fun _ _ _ d=>d) (fun _ _ _ d=>d) () (fun _ _ _ _=>()) v
def CO {α:Type} (v:V):α→α→α:=
 V.rec (motive_1:=fun _=>α→α→α) (motive_2:=fun _=>Unit) (fun _ d=>d) (fun _ _ d=>d) (fun _ _ _ d=>d) (fun _ _ _ d=>d) (fun _ d=>d) (fun _ _ _ d=>d) (fun _ d=>d) (fun _ _ _ _ _ d=>d) (fun k _=>k) (fun _ d=>d) (fun _ _ d=>d) (fun _ _ _ _ _ _ d=>d) (fun _ d=>d) (fun _ d=>d) (fun _ _ _ d=>d) (fun _ _ _ d=>d) () (fun _ _ _ _=>()) v
def CS {α:Type} (v:V):α→α→α:=
 V.rec (motive_1:=fun _=>α→α→α) (motive_2:=fun _=>Unit) (fun _ d=>d) (fun _ _ d=>d) (fun _ _ _ d=>d) (fun _ _ _ d=>d) (fun _ d=>d) (fun _ _ _ d=>d) (fun _ d=>d) (fun _ _ _ _ _ d=>d) (fun _ d=>d) (fun k _=>k) (fun _ _ d=>d) (fun _ _ _ _ _ _ d=>d) (fun _ d=>d) (fun _ d=>d) (fun _ _ _ d=>d) (fun _ _ _ d=>d) () (fun _ _ _ _=>()) v
def eE {α:Type} (b:Bool):α→α→α:=Bool.rec (motive:=fun _=>α→α→α) (fun _ y=>y) (fun x _=>x) b
def Rw.isW:Rw→Bool
 | .rw _=>true
 |_=>false
def Rw.tyOf:Rw→Option Nat
 | .rw t=>some t
 | .fr t=>some t
 | .fz=>none
def lF (l:List V):Nat→Option V:=
 List.rec (motive:=fun _=>Nat→Option V) (fun _=>none) (fun a _ ih i=>Nat.rec (motive:=fun _=>Option V) (some a) (fun j _=>ih j) i) l
def mC (l:List (List V)):Nat→Option (List V):=
 List.rec (motive:=fun _=>Nat→Option (List V)) (fun _=>none) (fun a _ ih i=>Nat.rec (motive:=fun _=>Option (List V)) (some a) (fun j _=>ih j) i) l
def oL (l:List (List V)):Nat→List V→List (List V):=
 List.rec (motive:=fun _=>Nat→List V→List (List V)) (fun _ _=>[]) (fun a r ih i x=>Nat.rec (motive:=fun _=>List (List V)) (x::r) (fun j _=>a::ih j x) i) l
def jL (n:Nat):List V→Option (List V):=
 Nat.rec (motive:=fun _=>List V→Option (List V)) (fun _=>some [])
  (fun _ ih l=>List.rec (motive:=fun _=>Option (List V)) none (fun a r _=>Option.rec (motive:=fun _=>Option (List V)) none (fun x=>some (a::x)) (ih r)) l) n
def eF (n:Nat):List V→List V:=
 Nat.rec (motive:=fun _=>List V→List V) (fun l=>l) (fun _ ih l=>List.rec (motive:=fun _=>List V) [] (fun _ r _=>ih r) l) n
def pV (n:Nat):List (List V)→Option (List (List V)):=
 Nat.rec (motive:=fun _=>List (List V)→Option (List (List V))) (fun _=>some [])
  (fun _ ih l=>List.rec (motive:=fun _=>Option (List (List V))) none (fun a r _=>Option.rec (motive:=fun _=>Option (List (List V))) none (fun x=>some (a::x)) (ih r)) l) n
def xP (n:Nat):List (List V)→List (List V):=
 Nat.rec (motive:=fun _=>List (List V)→List (List V)) (fun l=>l) (fun _ ih l=>List.rec (motive:=fun _=>List (List V)) [] (fun _ r _=>ih r) l) n
def over {α:Type}:List α→List α→Option (List α)
 |l,[]=>some l
 | [],_::_=>none
 |_::l,x::xs=>match over l xs with|some r=>some (x::r)|none=>none
def iB {α:Type}:Nat→List α→List α→Option (List α)
 |0,l,xs=>over l xs
 |_+1,[],_=>none
 |n+1,a::l,xs=>match iB n l xs with|some r=>some (a::r)|none=>none
def appV (a:List V) (b:List V):List V:=List.rec (motive:=fun _=>List V) b (fun x _ ih=>x::ih) a
def appL (a:List (List V)) (b:List (List V)):List (List V):=List.rec (motive:=fun _=>List (List V)) b (fun x _ ih=>x::ih) a
def oZ (a:List (List V)):Nat:=List.rec (motive:=fun _=>Nat) 0 (fun _ _ ih=>Nat.succ ih) a
def jZ {α:Type} (x:α):Nat→List α
 |0=>[]
 |n+1=>x::jZ x n
def dD:Nat→Nat→List Nat
 |0,_=>[]
 |n+1,c=>c%256::dD n (c/256)
def mJ:List Nat→Nat
 | []=>0
 |b::l=>b+256*mJ l
def wB (l:List Nat):V:=.s l.length (mJ l)
def ltB:List Nat→List Nat→Bool
 |_,[]=>false
 | [],_::_=>true
 |a::x,b::y=>bif Nat.blt a b then true else bif Nat.beq a b then ltB x y else false
def sEq (l c l' c':Nat):Bool:=Nat.beq l l'&&Nat.beq c c'
def zG:Value→Bool
 | .agg _=>false
 | .tuple _=>false
 |_=>true
mutual
def cst:Value→V
 | .bool x=>.b x
 | .int k n=>.i k n
 | .string s=>wB (s.data.toList.map UInt8.toNat)
 | .pointer none=>.pn
 | .slice none 0 0=>.sn
 | .map none=>.mn
 | .nilFunc=>.nf
 | .nilIface=>.ni
 | .agg ⟨l⟩=>bif l.all zG then .agg (uU l) else .top
 | .tuple ⟨l⟩=>.tup (uU l)
 |_=>.top
def uU:Lv→List V
 | []=>[]
 |v::l=>cst v::uU l
end
structure Rd where
 run:Env→V
structure Rds where
 run:Env→List V
def aE:Operand→Rd
 | .tmp t=>⟨bQ t⟩
 | .const v=>⟨fun _=>cst v⟩
 | .global g=>⟨fun _=>.p (nM g) 0⟩
 | .func f=>⟨fun _=>.fn (.func f) [] []⟩
def oP:List Operand→Rds
 | []=>⟨fun _=>[]⟩
 |x::l=>⟨fun e=>(aE x).run e::(oP l).run e⟩
def rdO (ob:O):Nat→Nat→Option (List V):=
 O.rec (motive:=fun _=>Nat→Nat→Option (List V))
  (fun sz els _ _ o k=>Option.rec (motive:=fun _=>Option (List V)) none
   (fun el=>Bool.rec (motive:=fun _=>Option (List V)) (jL k (eF (Nat.mod o sz) el)) (some el) (Nat.beq (Nat.mod o sz) 0&&Nat.beq k sz))
   (mC els (Nat.div o sz)))
  (fun _ _ _ _=>none) (fun _ _ _ _ _ _=>none) ob
def rd1O (ob:O):Nat→Option V:=
 O.rec (motive:=fun _=>Nat→Option V)
  (fun sz els _ _ o=>Option.rec (motive:=fun _=>Option V) none (fun el=>lF el (Nat.mod o sz)) (mC els (Nat.div o sz)))
  (fun _ _ _=>none) (fun _ _ _ _ _=>none) ob
def rd (h:H) (b:Id) (o k:Nat):Option (List V):=
 Option.rec (motive:=fun _=>Option (List V)) none (fun ob=>rdO ob o k) (aB b h.mem)
def rd1 (h:H) (b:Id) (o:Nat):Option V:=
 Option.rec (motive:=fun _=>Option V) none (fun ob=>rd1O ob o) (aB b h.mem)
def kC (b:Id):List Id→List Id
 | []=>[]
 |x::l=>bif Id.beq x b then kC b l else x::kC b l
def iD:List Id→Mem→Mem
 | [],m=>m
 |b::l,m=>iD l (dU b none m)
def gT (h:H) (f b:Id):H:=
 List.rec (motive:=fun _=>H) h (fun x l _=>H.rec (motive:=fun _=>H) (fun mem fams next=>H.mk (iD (kC b (x::l)) mem) (gV f [] fams) next) h) (aP f h.fams)
def eO (h:H) (b:Id) (ob:O):H:=
 H.rec (motive:=fun _=>H) (fun mem fams next=>H.mk (dU b (some ob) mem) fams next) h
def wrO (h:H) (b:Id) (o:Nat) (xs:List V) (k:Nat) (ob:O):VH:=
 O.rec (motive:=fun _=>VH)
  (fun sz els f ro=>Rw.rec (motive:=fun _=>VH)
   (fun ty=>Option.rec (motive:=fun _=>VH) .bad
    (fun el=>Option.rec (motive:=fun _=>VH) .bad
      (fun b5=>.ok cN (eO (gT h f b) b (.cells sz (oL els (Nat.div o sz) b5) f (.rw ty))))
      (Bool.rec (motive:=fun _=>Option (List V)) (iB (Nat.mod o sz) el xs) (some xs) (Nat.beq (Nat.mod o sz) 0&&Nat.beq k sz)))
    (mC els (Nat.div o sz))) .bad (fun _=>.bad) ro)
  (fun _ _=>.bad) (fun _ _ _ _=>.bad) ob
def wr (h:H) (b:Id) (o:Nat) (xs:List V) (k:Nat):VH:=
 Option.rec (motive:=fun _=>VH) .bad (fun ob=>wrO h b o xs k ob) (aB b h.mem)
def sE (h:H) (ob:Id→O) (v:Id→V):VH:=
 H.rec (motive:=fun _=>VH) (fun mem fams next=>Option.rec (motive:=fun _=>VH) .bad (fun nx=>.ok (v next) (H.mk (dU next (some (ob next)) mem) fams nx)) (Id.succ next)) h
def mD (ty:Nat) (h:H) (sz:Nat) (els:List (List V)) (v:Id→V):VH:=sE h (fun i=>.cells sz els i (.rw ty)) v
variable (P:Program)
def bJ (t:TypeId):Option Nat:=match P.underlying t,P.info? t with|some _,some i=>some i.size|_,_=>none
def eV (t:TypeId):Bool:=match P.underlying t with|some (.struct _)|some (.array _ _)=>true|_=>false
def fY (t:TypeId):Option V:=match (P.info? t).bind (·.zero) with|some z=>some (cst z)|none=>none
def cellsOf (v:V):List V:=
 V.rec (motive_1:=fun _=>List V) (motive_2:=fun _=>Unit) [.top] (fun x=>[.b x]) (fun k n=>[.i k n]) (fun l c=>[.s l c]) [.pn] (fun b o=>[.p b o]) [.sn] (fun b o l z=>[.sl b o l z]) [.se] [.mn] (fun b=>[.mp b]) (fun f a b _ _=>[.fn f a b]) [.nf] [.ni] (fun l _=>l) (fun l _=>[.tup l]) () (fun _ _ _ _=>()) v
def dV (v:V):Option (List V):=
 V.rec (motive_1:=fun _=>Option (List V)) (motive_2:=fun _=>Unit) none (fun x=>some [.b x]) (fun k n=>some [.i k n]) (fun l c=>some [.s l c]) (some [.pn]) (fun b o=>some [.p b o]) (some [.sn]) (fun b o l z=>some [.sl b o l z]) (some [.se]) (some [.mn]) (fun b=>some [.mp b]) (fun f a b _ _=>some [.fn f a b]) (some [.nf]) (some [.ni]) (fun l _=>some l) (fun _ _=>none) () (fun _ _ _ _=>()) v
def eJ (a:List V):Nat:=List.rec (motive:=fun _=>Nat) 0 (fun _ _ ih=>Nat.succ ih) a
def thr:IntKind→Nat
 | .i8=>127| .i16=>32767| .i32=>2147483647| .i64=>9223372036854775807| .u8=>255| .u16=>65535| .u32=>4294967295| .u64=>18446744073709551615
def yZ (k:IntKind) (n:Int):Int:=
 Int.rec (motive:=fun _=>Int) (fun m=>Bool.rec (motive:=fun _=>Int) (k.wrap (.ofNat m)) (.ofNat m) (Nat.ble m (thr k))) (fun m=>k.wrap (.negSucc m)) n
def kEq (j k:IntKind):Bool:=
 IntKind.rec (motive:=fun _=>IntKind→Bool)
  (fun k=>IntKind.rec (motive:=fun _=>Bool) true false false false false false false false k)
  (fun k=>IntKind.rec (motive:=fun _=>Bool) false true false false false false false false k)
  (fun k=>IntKind.rec (motive:=fun _=>Bool) false false true false false false false false k)
  (fun k=>IntKind.rec (motive:=fun _=>Bool) false false false true false false false false k)
  (fun k=>IntKind.rec (motive:=fun _=>Bool) false false false false true false false false k)
  (fun k=>IntKind.rec (motive:=fun _=>Bool) false false false false false true false false k)
  (fun k=>IntKind.rec (motive:=fun _=>Bool) false false false false false false true false k)
  (fun k=>IntKind.rec (motive:=fun _=>Bool) false false false false false false false true k) j k
def iLt (a b:Int):Bool:=
 Int.rec (motive:=fun _=>Int→Bool)
  (fun x b=>Int.rec (motive:=fun _=>Bool) (fun y=>Nat.ble (Nat.succ x) y) (fun _=>false) b)
  (fun x b=>Int.rec (motive:=fun _=>Bool) (fun _=>true) (fun y=>Nat.ble (Nat.succ y) x) b) a b
def iEq (a b:Int):Bool:=
 Int.rec (motive:=fun _=>Int→Bool)
  (fun x b=>Int.rec (motive:=fun _=>Bool) (fun y=>Nat.beq x y) (fun _=>false) b)
  (fun x b=>Int.rec (motive:=fun _=>Bool) (fun _=>false) (fun y=>Nat.beq x y) b) a b
def iAdd (a b:Int):Int:=
 Int.rec (motive:=fun _=>Int→Int)
  (fun x b=>Int.rec (motive:=fun _=>Int) (fun y=>.ofNat (Nat.add x y)) (fun y=>Int.add (.ofNat x) (.negSucc y)) b)
  (fun x b=>Int.add (.negSucc x) b) a b
def iSub (a b:Int):Int:=
 Int.rec (motive:=fun _=>Int→Int)
  (fun x b=>Int.rec (motive:=fun _=>Int) (fun y=>Bool.rec (motive:=fun _=>Int) (Int.sub (.ofNat x) (.ofNat y)) (.ofNat (Nat.sub x y)) (Nat.ble y x)) (fun y=>Int.sub (.ofNat x) (.negSucc y)) b)
  (fun x b=>Int.sub (.negSucc x) b) a b
structure IOp where
 run:IntKind→Int→Int→Option V
def BI:BinOp→IOp
 | .add=>⟨fun k x y=>some (.i k (yZ k (iAdd x y)))⟩
 | .sub=>⟨fun k x y=>some (.i k (yZ k (iSub x y)))⟩
 | .and=>⟨fun k x y=>some (.i k (k.wrap (BitVec.ofInt k.bits x&&&BitVec.ofInt k.bits y).toNat))⟩
 | .or=>⟨fun k x y=>some (.i k (k.wrap (BitVec.ofInt k.bits x|||BitVec.ofInt k.bits y).toNat))⟩
 | .eql=>⟨fun _ x y=>some (.b (iEq x y))⟩
 | .neq=>⟨fun _ x y=>some (.b (!iEq x y))⟩
 | .lss=>⟨fun _ x y=>some (.b (iLt x y))⟩
 | .leq=>⟨fun _ x y=>some (.b (!iLt y x))⟩
 | .gtr=>⟨fun _ x y=>some (.b (iLt y x))⟩
 | .geq=>⟨fun _ x y=>some (.b (!iLt x y))⟩
 |_=>⟨fun _ _ _=>none⟩
def zF (op:BinOp) (k:IntKind) (x y:Int):Option V:=
 bif iLt y 0 then none else
 match op with
 | .shl=>some (.i k (k.wrap (x*2^(min y.toNat k.bits))))
 | .shr=>some (.i k (x.fdiv (2^(min y.toNat k.bits))))
 |_=>none
structure StrOp where
 run:Nat→Nat→Nat→Nat→Option V
def DS:BinOp→StrOp
 | .add=>⟨fun l c l' c'=>bif Nat.ble (l+l') 1000000000 then some (.s (l+l') (c+c'<<<(8*l))) else none⟩
 | .eql=>⟨fun l c l' c'=>some (.b (sEq l c l' c'))⟩
 | .neq=>⟨fun l c l' c'=>some (.b (!sEq l c l' c'))⟩
 |_=>⟨fun _ _ _ _=>none⟩
structure EqT where
 run:H→V→V→Option Bool
def uO (h:H) (b:Id):Option Id:=match aB b h.mem with|some (.cells sz _ f (.rw _))=>bif Nat.beq sz 1 then none else some f|_=>none
def oO (agg:Bool) (n:Nat) (l:List V):Option V:=bif agg then(match jL n l with|some x=>some (.agg x)|none=>none) else lF l 0
def vE:EqT:=⟨fun _ _ _=>none⟩
def uR (q:TypeId→EqT):List Field→EqT
 | []=>⟨fun _ x y=>match x,y with| .agg _,.agg _=>some true|_,_=>none⟩
 | f::fs=>if f.name= "_" then vE else
  match bJ P f.type with
  |none=>vE
  | some n=>⟨fun h x y=>match x,y with
   | .agg xs,.agg ys=>(match oO (eV P f.type) n (eF f.offset xs),oO (eV P f.type) n (eF f.offset ys) with
    | some a,some b=>(match (q f.type).run h a b with
      |some true=>(uR q fs).run h x y
      |some false=>some false
      |none=>none)
    |_,_=>none)
   |_,_=>none⟩
def eqAs (q:EqT) (agg:Bool) (n:Nat):Nat→List V→List V→H→Option Bool
 |0,_,_,_=>some true
 | k+1,xs,ys,h=>match oO agg n xs,oO agg n ys with
  |some a,some b=>(match q.run h a b with
   |some true=>eqAs q agg n k (eF n xs) (eF n ys) h
   |some false=>some false
   |none=>none)
  |_,_=>none
def eqT:Nat→TypeId→EqT
 |0,_=>vE
 | d+1,t=>match P.underlying t with
  |some .bool=>⟨fun _ x y=>match x,y with| .b a,.b b=>some (a==b)|_,_=>none⟩
  |some (.int _)=>⟨fun _ x y=>match x,y with| .i k a,.i k' b=>bif kEq k k' then some (iEq a b) else none|_,_=>none⟩
  |some .string=>⟨fun _ x y=>match x,y with| .s l c,.s l' c'=>some (sEq l c l' c')|_,_=>none⟩
  | some (.pointer e)=>(match bJ P e with
   |some (_+1)=>⟨fun h x y=>match x,y with
    | .pn,.pn=>some true
    | .pn,.p _ _=>some false
    | .p _ _,.pn=>some false
    | .p b o,.p b' o'=>bif Id.beq b b' then some (Nat.beq o o') else
        (match uO h b,uO h b' with
        |some f,some f'=>bif Id.beq f f' then none else some false
        |_,_=>none)
    |_,_=>none⟩
   |_=>⟨fun _ x y=>match x,y with| .pn,.pn=>some true| .pn,.p _ _=>some false| .p _ _,.pn=>some false|_,_=>none⟩)
  |some (.struct fs)=>bif P.stoodInHeld t then vE else uR P (eqT d) fs.toList
  | some (.array len el)=>(match bJ P el with
   |some n=>⟨fun h x y=>match x,y with
    | .agg xs,.agg ys=>eqAs (eqT d el) (eV P el) n len xs ys h
    |_,_=>none⟩
   |none=>vE)
  |some (.slice _)=>⟨fun _ x y=>match x,y with| .sn,.sn=>some true| .sn,.sl ..=>some false| .sl ..,.sn=>some false| .se,.sn=>some false| .sn,.se=>some false|_,_=>none⟩
  |_=>vE
structure CkT where
 run:V→Bool
def vD:CkT:=⟨fun _=>false⟩
def uV (q:TypeId→CkT):List Field→CkT
 | []=>⟨fun v=>match v with| .agg _=>true|_=>false⟩
 | f::fs=>if f.name= "_" then vD else
  match bJ P f.type with
  |none=>vD
  | some n=>⟨fun v=>match v with
   | .agg l=>(match oO (eV P f.type) n (eF f.offset l) with
    |some a=>(q f.type).run a&&(uV q fs).run v
    |none=>false)
   |_=>false⟩
def ckAs (q:CkT) (agg:Bool) (n:Nat):Nat→List V→Bool
 |0,_=>true
 |k+1,l=>match oO agg n l with
  |some a=>q.run a&&ckAs q agg n k (eF n l)
  |none=>false
def ckT:Nat→TypeId→CkT
 |0,_=>vD
 | d+1,t=>match P.underlying t with
  |some (.interface _)=>vD
  |some (.struct fs)=>uV P (ckT d) fs.toList
  |some (.array len el)=>(match bJ P el with
   |some n=>⟨fun v=>match v with| .agg l=>ckAs (ckT d el) (eV P el) n len l|_=>false⟩
   |none=>vD)
  |some _=>⟨fun _=>true⟩
  |none=>vD
structure LOp where
 run:Env→H→Option V
structure HOp where
 run:bR→Env→H→VH
def nL:Operand→Bool| .const _=>true|_=>false
def notO:Option Bool→Option V|some r=>some (.b (!r))|none=>none
def yesO:Option Bool→Option V|some r=>some (.b r)|none=>none
def okEq:V→Bool
 | .top=>false
 | .i _ _=>false
 | .s _ _=>false
 | .ni=>false
 |_=>true
def uQ (t:TypeId) (h:H) (x y:V):Option Bool:=bif okEq x then(eqT P 20 t).run h x y else none
def BY (t:TypeId) (c:Bool) (h:H) (x y:V):Option Bool:=
 match x,y with
 | .ni,.ni=>bif c then some true else none
 |_,_=>none
def eL:LOp:=⟨fun _ _=>none⟩
def binC (op:BinOp) (t:TypeId) (x y:Operand):LOp:=
 match P.underlying t with
 |some (.int _)=>(match op with
  | .shl| .shr=>⟨fun e _=>gW ((aE x).run e) (fun k a=>gW ((aE y).run e) (fun _ b=>zF op k a b) none) none⟩
  |_=>⟨fun e _=>gW ((aE x).run e) (fun k a=>gW ((aE y).run e) (fun k' b=>eE (kEq k k') ((BI op).run k a b) none) none) none⟩)
 |some .string=>⟨fun e _=>sW ((aE x).run e) (fun l c=>sW ((aE y).run e) (fun l' c'=>(DS op).run l c l' c') none) none⟩
 |some (.interface _)=>(match op with
  | .eql=>⟨fun e h=>yesO (BY t (nL x||nL y) h ((aE x).run e) ((aE y).run e))⟩
  | .neq=>⟨fun e h=>notO (BY t (nL x||nL y) h ((aE x).run e) ((aE y).run e))⟩
  |_=>eL)
 |_=>bif P.eqGuardType P.depth t then eL else(match op with
  | .eql=>⟨fun e h=>yesO (uQ P t h ((aE x).run e) ((aE y).run e))⟩
  | .neq=>⟨fun e h=>notO (uQ P t h ((aE x).run e) ((aE y).run e))⟩
  |_=>eL)
def unC (op:UnOp) (x:Operand):LOp:=
 match op with
 | .not=>⟨fun e _=>tB ((aE x).run e) (fun b=>some (.b (!b))) none⟩
 |_=>eL
def rZ:List Field→Nat→Option Field
 | [],_=>none
 |a::_,0=>some a
 |_::l,n+1=>rZ l n
def asN (v:V) (k:Nat→Option V):Option V:=gW v (fun _ n=>Int.rec (motive:=fun _=>Option V) k (fun _=>none) n) none
def bnd (x:Option Operand) (d:Nat) (e:Env) (k:Nat→Option V):Option V:=
 match x with
 |none=>k d
 |some x=>asN ((aE x).run e) k
def YB (lo hi:Option Operand) (e:Env) (len c:Nat):Option V:=
 bnd hi len e fun h=>bnd lo 0 e fun l=>eE (Nat.ble l h&&Nat.ble h len) (some (.s (h-l) ((c>>>(8*l))%2^(8*(h-l))))) none
def KU (sz:Nat) (lo hi:Option Operand) (e:Env) (b:Id) (o len z:Nat):Option V:=
 bnd hi len e fun h=>bnd lo 0 e fun l=>eE (Nat.ble l h&&Nat.ble h len)
  (eE (Nat.beq l h&& !Nat.beq l 0) (some .se) (some (.sl b (Nat.add o (Nat.mul l sz)) (Nat.sub h l) z))) none
def KV (r:V) (lo hi:Option Operand) (e:Env):Option V:=
 bnd hi 0 e fun h=>bnd lo 0 e fun l=>eE (Nat.beq h 0&&Nat.beq l 0) (some r) none
def DT (t:TypeId) (x:Operand) (lo hi:Option Operand):LOp:=
 match P.underlying t with
 |some .string=>⟨fun e _=>sW ((aE x).run e) (YB lo hi e) none⟩
 |some (.slice el)=>(match bJ P el with
  |some (sz+1)=>⟨fun e _=>vF ((aE x).run e) (fun b o len z=>eE (Nat.beq z (sz+1)) (KU (sz+1) lo hi e b o len z) none) (yB ((aE x).run e) (KV .sn lo hi e) (CO ((aE x).run e) (KV .se lo hi e) none))⟩
  |_=>eL)
 |some (.array n el)=>eL
 |_=>eL
def Dv (x ix:Operand) (sz:Nat):LOp:=
 ⟨fun e _=>vF ((aE x).run e) (fun b o len _=>asN ((aE ix).run e) (fun n=>eE (Nat.ble (Nat.succ n) len) (some (.p b (Nat.add o (Nat.mul n sz)))) none)) none⟩
def Du (x ix:Operand) (len sz:Nat):LOp:=
 ⟨fun e _=>iJ ((aE x).run e) (fun b o=>asN ((aE ix).run e) (fun n=>eE (Nat.ble (Nat.succ n) len) (some (.p b (Nat.add o (Nat.mul n sz)))) none)) none⟩
def mO (x:Option (List V)):Option V:=Option.rec (motive:=fun _=>Option V) none (fun l=>some (.agg l)) x
def lD (agg:Bool) (off n:Nat) (l:List V):Option V:=eE agg (mO (jL n (eF off l))) (lF l off)
def iT (b1:Nat→Option (Nat × Nat)):List V→List (Nat × V)→Option (List V)
 |cs,[]=>some cs
 | cs,(i,v)::r=>match b1 i with
  |none=>none
  |some (off,sz)=>match dV v with
   |none=>none
   |some c=>bif Nat.beq (eJ c) sz then(match iB off cs c with|some cs'=>iT b1 cs' r|none=>none) else none
structure Prs where
 run:Env→List (Nat × V)
def lE:List (Nat × Operand)→Prs
 | []=>⟨fun _=>[]⟩
 |(i,x)::l=>⟨fun e=>(i,(aE x).run e)::(lE l).run e⟩
def rT:List Field→Option (List (Nat × Nat))
 | []=>some []
 |f::fs=>match bJ P f.type,rT fs with|some n,some l=>some ((f.offset,n)::l)|_,_=>none
def nthP:List (Nat × Nat)→Nat→Option (Nat × Nat)
 | [],_=>none
 |a::_,0=>some a
 |_::l,n+1=>nthP l n
def HJ (t:TypeId) (ps:List (Nat × Operand)):LOp:=
 match fY P t,P.underlying t with
 | some z,some (.struct fs)=>(match dV z with
  |some zc=>(match rT P fs.toList with
   |some pl=>⟨fun e _=>mO (iT (nthP pl) zc ((lE ps).run e))⟩
   |none=>eL)
  |none=>eL)
 | some z,some (.array _ el)=>(match dV z with
  |some zc=>(match bJ P el with
   |some n=>⟨fun e _=>mO (iT (fun i=>some (i*n,n)) zc ((lE ps).run e))⟩
   |none=>eL)
  |none=>eL)
 |_,_=>eL
mutual
def V.beq:V→V→Bool
 | .top,.top=>true
 | .b x,.b y=>x==y
 | .i k n,.i k' n'=>(match k,k' with| .i8,.i8| .i16,.i16| .i32,.i32| .i64,.i64| .u8,.u8| .u16,.u16| .u32,.u32| .u64,.u64=>true|_,_=>false)&&(match n,n' with| .ofNat x,.ofNat y=>Nat.beq x y| .negSucc x,.negSucc y=>Nat.beq x y|_,_=>false)
 | .s l c,.s l' c'=>sEq l c l' c'
 | .pn,.pn=>true
 | .p b o,.p b' o'=>Id.beq b b'&&Nat.beq o o'
 | .sn,.sn=>true
 | .sl b o l z,.sl b' o' l' z'=>Id.beq b b'&&(Nat.beq o o'&&(Nat.beq l l'&&Nat.beq z z'))
 | .se,.se=>true
 | .mn,.mn=>true
 | .mp b,.mp b'=>Id.beq b b'
 | .fn (.func f) a b,.fn (.func f') a' b'=>Nat.beq f f'&&(jC a a'&&jC b b')
 | .nf,.nf=>true
 | .ni,.ni=>true
 | .agg l,.agg l'=>jC l l'
 | .tup l,.tup l'=>jC l l'
 |_,_=>false
def jC:List V→List V→Bool
 | [],[]=>true
 |a::l,b::r=>V.beq a b&&jC l r
 |_,_=>false
end
def mG:V→Bool
 | .b _=>true
 | .i _ _=>true
 | .s _ _=>true
 | .pn=>true
 | .p _ _=>true
 | .ni=>true
 |_=>false
def qM:V→Bool
 | .agg l=>l.all mG
 |v=>mG v
def BU (q:EqT) (h:H) (k:V):List Ent→Nat→Option (Option (Nat × Ent))
 | [],_=>some none
 |e::es,i=>match q.run h k e.key with
  |some true=>some (some (i,e))
  |some false=>BU q h k es (i+1)
  |none=>none
def qS (kt:TypeId) (h:H) (k:V) (es:List Ent):Option (Option (Nat × Ent)):=
 bif (ckT P 20 kt).run k then BU (eqT P 20 kt) h k es 0 else none
def iH (h:H) (b:Id):Option (List Ent × Nat):=match aB b h.mem with|some (.map es c)=>some (es,c)|_=>none
def AS (kt:TypeId) (z:V) (ok:Bool) (h:H) (k:V) (es:List Ent):Option V:=
 match qS P kt h k es with
 |some (some (_,e))=>some (if ok then .tup [e.val,.b true] else e.val)
 |some none=>some (if ok then .tup [z,.b false] else z)
 |none=>none
def lookC (t:TypeId) (x k:Operand) (ok:Bool):LOp:=
 match P.underlying t with
 |some (.map kt et)=>(match fY P et with
  | some z=>⟨fun e h=>pK ((aE x).run e) (fun b=>match iH h b with|some (es,_)=>AS P kt z ok h ((aE k).run e) es|none=>none)
    (CS ((aE x).run e) (AS P kt z ok h ((aE k).run e) []) none)⟩
  |none=>eL)
 |_=>eL
def lenC (t:TypeId) (x:Operand):LOp:=
 match P.underlying t with
 |some .string=>⟨fun e _=>sW ((aE x).run e) (fun l _=>some (.i .i64 (.ofNat l))) none⟩
 |some (.slice _)=>⟨fun e _=>vF ((aE x).run e) (fun _ _ n _=>some (.i .i64 (.ofNat n))) (yB ((aE x).run e) (some (.i .i64 0)) (CO ((aE x).run e) (some (.i .i64 0)) none))⟩
 |some (.map _ _)=>⟨fun e h=>pK ((aE x).run e) (fun b=>match iH h b with|some (es,_)=>some (.i .i64 (.ofNat es.length))|none=>none) (CS ((aE x).run e) (some (.i .i64 0)) none)⟩
 |_=>eL
def sJ (f:V→V→Option V):V→List V→Option V
 |a,[]=>some a
 |a,x::l=>match f a x with|some b=>sJ f b l|none=>none
def max2 (x y:V):Option V:=gW x (fun k a=>gW y (fun k' b=>eE (kEq k k') (some (.i k (bif iLt a b then b else a))) none) none) none
def min2 (x y:V):Option V:=gW x (fun k a=>gW y (fun k' b=>eE (kEq k k') (some (.i k (bif iLt b a then b else a))) none) none) none
def xN (n:Nat):List Ent→Option Ent
 | []=>none
 |e::l=>bif Nat.beq e.born n then some e else xN n l
def qL:List Nat→Option Nat
 | []=>none
 | [a]=>some a
 |_::l=>qL l
def GM (h:H) (b:Id):Option V:=
 match aB b h.mem with
 |some (.miter m _ seen b0)=>(match qL seen,iH h m with
  |some st,some (es,a8)=>bif Nat.beq a8 b0 then(match xN st es with|some en=>some (.tup [en.key,en.val])|none=>none) else none
  |_,_=>none)
 |_=>none
def callL (c:Call):LOp:=
 match c.callee,c.args.toList,c.argTypes.toList with
 | .builtin .len,[x],t::_=>lenC P t x
 | .builtin .unsafeSliceData,[x],_=>⟨fun e _=>vF ((aE x).run e) (fun b o len _=>eE (Nat.ble 1 len) (some (.p b o)) none) (yB ((aE x).run e) (some .pn) none)⟩
 | .builtin .max,x::l,_=>⟨fun e _=>sJ max2 ((aE x).run e) ((oP l).run e)⟩
 | .builtin .min,x::l,_=>⟨fun e _=>sJ min2 ((aE x).run e) ((oP l).run e)⟩
 |_,_,_=>eL
def oY:Op→LOp
 | .move x=>⟨fun e _=>some ((aE x).run e)⟩
 | .assign x=>⟨fun e _=>some ((aE x).run e)⟩
 | .pick c a b=>⟨fun e _=>tB ((aE c).run e) (fun t=>eE t (some ((aE a).run e)) (some ((aE b).run e))) none⟩
 | .nilCheck x=>⟨fun e _=>iJ ((aE x).run e) (fun b o=>some (.p b o)) (match (aE x).run e with| .fn (.func f) a b=>some (.fn (.func f) a b)| .mp b=>some (.mp b)| .mn=>some .mn|_=>none)⟩
 | .binOp op t x y _=>binC P op t x y
 | .unOp op _ x=>unC op x
 | .fieldAddr t x i=>(match P.underlying t with
  | some (.struct fs)=>(match rZ fs.toList i with
   |some f=>(match bJ P f.type with
    |some (_+1)=>⟨fun e _=>iJ ((aE x).run e) (fun b o=>some (.p b (Nat.add o f.offset))) none⟩
    |_=>eL)
   |none=>eL)
  |_=>eL)
 | .field t x i=>(match P.underlying t with
  | some (.struct fs)=>(match rZ fs.toList i with
   |some f=>(match bJ P f.type with
    |some n=>⟨fun e _=>IC ((aE x).run e) (lD (eV P f.type) f.offset n) none⟩
    |none=>eL)
   |none=>eL)
  |_=>eL)
 | .indexAddr t x ix=>(match P.underlying t with
  |some (.slice el)=>(match bJ P el with|some (sz+1)=>Dv x ix (sz+1)|_=>eL)
  |some (.array len el)=>(match bJ P el with|some (sz+1)=>Du x ix len (sz+1)|_=>eL)
  |_=>eL)
 | .index t x ix=>(match P.underlying t with
  |some .string=>⟨fun e _=>sW ((aE x).run e) (fun len c=>asN ((aE ix).run e) (fun n=>eE (Nat.ble (Nat.succ n) len) (some (.i .u8 (.ofNat ((c>>>(8*n))%256)))) none)) none⟩
  |_=>eL)
 | .extract x i=>⟨fun e _=>HV ((aE x).run e) (fun l=>lF l i) none⟩
 | .slice t x lo hi none=>DT P t x lo hi
 | .build t ps=>HJ P t ps.toList
 | .load t x=>(match eV P t,bJ P t with
  |true,some n=>⟨fun e h=>iJ ((aE x).run e) (fun b o=>mO (rd h b o n)) none⟩
  |false,some _=>⟨fun e h=>iJ ((aE x).run e) (fun b o=>rd1 h b o) none⟩
  |_,_=>eL)
 | .lookup t x k ok=>lookC P t x k ok
 | .convert s d x=>(match P.underlying s,P.underlying d with
  |some _,some (.int k)=>⟨fun e _=>gW ((aE x).run e) (fun _ n=>some (.i k (yZ k n))) none⟩
  |some (.pointer t),some .unsafePointer=>(match bJ P t with
   |some (_+1)=>⟨fun e h=>iJ ((aE x).run e) (fun b o=>Option.rec (motive:=fun _=>Option V) none (fun _=>some (.p b o)) (rd1 h b o)) none⟩
   |_=>eL)
  |some .unsafePointer,some (.pointer u)=>(match bJ P u with
   |some (sz+1)=>⟨fun e h=>iJ ((aE x).run e) (fun b o=>match aB b h.mem with
      |some (.cells szb els _ (.rw ty))=>eE (Nat.beq szb (sz+1)&&(Nat.beq ty u&&(Nat.beq (Nat.mod o szb) 0&&Nat.ble (Nat.succ (Nat.div o szb)) (oZ els)))) (some (.p b o)) none
      |_=>none) none⟩
   |_=>eL)
  |_,_=>eL)
 | .entry x=>⟨fun e h=>iJ ((aE x).run e) (fun b o=>eE (Nat.beq o 0) (GM h b) none) none⟩
 | .makeFunc fn a b=>⟨fun e _=>some (.fn fn ((oP a.toList).run e) ((oP b.toList).run e))⟩
 | .call c=>callL P c
 |_=>eL
def nU:List Nat→List (List V)
 | []=>[]
 |b::l=>[.i .u8 b]::nU l
def nR (sz:Nat):Nat→List V→List (List V)
 |0,_=>[]
 |n+1,l=>(jL sz l).getD []::nR sz n (eF sz l)
def xO (h:H) (sz:Nat) (x:V):Option (List (List V)):=
 match x with
 | .sn=>some []
 | .se=>some []
 | .sl b o len _=>(match aB b h.mem with
  |some (.cells sz' els _ _)=>bif Nat.beq sz sz'&&Nat.beq (Nat.mod o sz) 0 then pV len (xP (Nat.div o sz) els) else none
  |_=>none)
 | .s l c=>bif Nat.beq sz 1 then some (nU (dD l c)) else none
 |_=>none
def kZ (b:Id):List Id→List Id × List Id
 | []=>([],[])
 |x::l=>bif Id.beq x b then([],l) else match kZ b l with|(p,q)=>(x::p,q)
def grown (ty:Nat) (sz:Nat) (b f:Id) (len:Nat) (old new:List (List V)) (h:H):VH:=
 H.rec (motive:=fun _=>VH) (fun mem fams next=>Option.rec (motive:=fun _=>VH) .bad
  (fun nx=>match kZ b (aP f fams) with
    |(dead,rest)=>.ok (.sl next 0 (Nat.add len (oZ new)) sz) (H.mk (dU next (some (.cells sz (appL old new) f (.rw ty))) (iD dead mem)) (gV f (next::b::rest) fams) nx))
   (Id.succ next)) h
def IF (ty:Nat) (h:H) (sz:Nat) (x:V) (new:List (List V)):VH:=
 match new with
 | []=>(match x with| .sn=>.ok x h| .se=>.ok x h| .sl ..=>.ok x h|_=>.bad)
 | _::_=>bif Nat.ble (oZ new) 1000000 then match x with
  | .sn=>mD ty h sz new (fun i=>.sl i 0 (oZ new) sz)
  | .sl b o len z=>(match aB b h.mem with
   | some (.cells szb els f (.rw tyb))=>bif Nat.beq szb sz&&(Nat.beq z sz&&(Nat.beq (Nat.mod o sz) 0&&(Nat.ble len 1000000&&Nat.beq tyb ty))) then
      (
       match pV len (xP (Nat.div o sz) els) with
       |none=>.bad
       |some old=>bif Nat.beq (Nat.add (Nat.div o sz) len) (oZ els) then grown ty sz b f len old new h
          else(match pV (Nat.add (Nat.div o sz) len) els with
           |some cut=>grown ty sz b f len old new (eO (gT h f b) b (.cells szb cut f (.rw ty)))
           |none=>.bad))
      else .bad
   |_=>.bad)
  |_=>.bad
  else .bad
def uX:List (List V)→Option (List Nat)
 | []=>some []
 | [.i .u8 (.ofNat n)]::r=>bif Nat.ble n 255 then match uX r with|some l=>some (n::l)|none=>none else none
 |_=>none
def pW:List Ent→Nat→Ent→List Ent
 | [],_,_=>[]
 |_::l,0,x=>x::l
 |a::l,n+1,x=>a::pW l n x
def AO (kt:TypeId) (h:H) (b:Id) (k v:V):VH:=
 match iH h b with
 |some (es,a8)=>(match qS P kt h k es with
  |some (some (i,e))=>bif qM k&&V.beq k e.key then .ok cN (eO h b (.map (pW es i ⟨k,v,e.born⟩) a8)) else .bad
  |some none=>.ok cN (eO h b (.map (es++ [⟨k,v,a8⟩]) (a8+1)))
  |none=>.bad)
 |none=>.bad
def FI (kt:TypeId) (z:V) (h:H) (b:Id) (k:V):VH:=
 match iH h b with
 |some (es,a8)=>(match qS P kt h k es with
  |some (some (i,e))=>bif qM k&&V.beq k e.key then .ok (.tup [e.val,.i .i64 (.ofNat e.born)]) (eO h b (.map (pW es i ⟨k,e.val,e.born⟩) a8)) else .bad
  |some none=>.ok (.tup [z,.i .i64 (.ofNat a8)]) (eO h b (.map (es++ [⟨k,z,a8⟩]) (a8+1)))
  |none=>.bad)
 |none=>.bad
def xV (n:Nat):List Ent→Nat→Option (Nat × Ent)
 | [],_=>none
 |e::l,i=>bif Nat.beq e.born n then some (i,e) else xV n l (i+1)
def GN (h:H) (b:Id) (n:Nat) (v:V):VH:=
 match iH h b with
 |some (es,a8)=>(match xV n es 0 with
  |some (i,e)=>.ok cN (eO h b (.map (pW es i ⟨e.key,v,e.born⟩) a8))
  |none=>.bad)
 |none=>.bad
def nD (seen:List Nat) (es:List Ent):List Ent:=es.filter fun e=>!seen.any (Nat.beq e.born)
def EV (h:H) (b:Id):VH:=
 match aB b h.mem with
 |some (.miter m a9 seen b0)=>(match iH h m with
  | some (es,a8)=>bif !seen.isEmpty&& !es.isEmpty&&es.all (fun e=>Nat.ble b0 e.born) then .bad else
    (
     match nD seen es with
     | []=>.ok (.tup [.b false]) h
     | [e]=>bif Nat.ble (Nat.succ e.born) a9 then .ok (.tup [.b true,e.key,e.val]) (eO h b (.miter m a9 (seen++ [e.born]) a8)) else .bad
     |_=>.bad)
  |none=>.bad)
 |_=>.bad
def eP:HOp:=⟨fun _ _ _=>.bad⟩
def GW (h:H) (sz:Nat) (z:List V) (x:V):VH:=
 match x with
 | .sl b o len zz=>(match aB b h.mem with
  | some (.cells szb els f (.rw ty))=>bif Nat.beq szb sz&&(Nat.beq zz sz&&Nat.beq (Nat.mod o sz) 0) then
    (
     match iB (Nat.div o sz) els (jZ z len) with
     |some els'=>.ok cN (eO (gT h f b) b (.cells szb els' f (.rw ty)))
     |none=>.bad) else .bad
  |_=>.bad)
 | .sn=>.ok cN h
 | .se=>.ok cN h
 |_=>.bad
def vhO (h:H) (x:Option V):VH:=match x with|some v=>.ok v h|none=>.bad
def appC (t t2:TypeId) (x y:Operand):HOp:=
 match P.underlying t,P.underlying t2 with
 |some (.slice _),some (.int _)=>eP
 | some (.slice el),some _=>(match bJ P el,fY P el with
   |some (sz+1),some z=>(match dV z,P.info? el with
    |some zc,some inf=>bif Nat.ble inf.bytes 1000000&&Nat.beq (eJ zc) (sz+1) then
        ⟨fun _ e h=>match xO h (sz+1) ((aE y).run e) with
         |some new=>IF el h (sz+1) ((aE x).run e) new
         |none=>.bad⟩ else eP
    |_,_=>eP)
   |_,_=>eP)
 |_,_=>eP
def SL (t:TypeId) (x:Operand):HOp:=
 match P.underlying t with
 | some (.slice el)=>(match bJ P el,fY P el with
   |some (sz+1),some z=>(match dV z with
    |some zc=>bif Nat.beq (eJ zc) (sz+1) then⟨fun _ e h=>GW h (sz+1) zc ((aE x).run e)⟩ else eP
    |none=>eP)
   |_,_=>eP)
 |_=>eP
def DL (el:Nat) (h:H) (x:V) (n:Nat):VH:=
 match n with
 |0=>(match x with| .pn=>.ok (.s 0 0) h| .p _ _=>.ok (.s 0 0) h|_=>.bad)
 | n + 1=>iJ x (fun b o=>match aB b h.mem with
  | some (.cells sz els f ro)=>(match ro.tyOf with
   | some ty=>bif Nat.beq sz 1&&(Nat.beq ty el&&Nat.ble n 1000000) then
    (
     match pV (n+1) (xP o els) with
     | some l=>(match uX l with
       |some bs=>.ok (wB bs) (eO (gT h f b) b (.cells sz els f (.fr ty)))
       |none=>.bad)
     |none=>.bad) else .bad
   |none=>.bad)
  |_=>.bad) .bad
def ustrC (t:TypeId) (x n:Operand):HOp:=
 match P.underlying t with
 |some (.pointer el)=>(match bJ P el with
  |some 1=>⟨fun _ e h=>match (aE n).run e with| .i .i64 (.ofNat n)=>DL el h ((aE x).run e) n|_=>.bad⟩
  |_=>eP)
 |_=>eP
def HE (c:Call):HOp:=
 match c.callee,c.args.toList,c.argTypes.toList with
 | .value f,as,_=>⟨fun call e h=>IA ((aE f).run e) (fun g first cap=>match g with
   | .func n=>call n (appV first (appV ((oP as).run e) cap)) h
   |_=>.bad) .bad⟩
 | .builtin .append,[x,y],t::t2::_=>appC P t t2 x y
 | .builtin .clear,[x],t::_=>SL P t x
 | .builtin .unsafeString,[x,n],t::_::_=>ustrC P t x n
 |_,_,_=>eP
def qP:Op→HOp
 | .alloc t=>(match fY P t with
  |some z=>(match dV z with
   |some c=>⟨fun _ _ h=>mD t h (eJ c) [c] (fun i=>.p i 0)⟩
   |none=>eP)
  |none=>eP)
 | .box t x=>⟨fun _ e h=>Option.rec (motive:=fun _=>VH) .bad (fun c=>mD t h (eJ c) [c] (fun i=>.p i 0)) (dV ((aE x).run e))⟩
 | .buildSlice t len ps=>(match P.underlying t with
  | some (.slice el)=>(match bJ P el,fY P el with
   |some (sz+1),some z=>(match dV z with
    |some zc=>bif Nat.ble (len*(sz+1)) 16777216&&Nat.beq (eJ zc) (sz+1) then
        ⟨fun _ e h=>match iT (fun i=>some (i*(sz+1),sz+1)) ((jZ zc len).flatten) ((lE ps.toList).run e) with
         |some cs=>mD el h (sz+1) (nR (sz+1) len cs) (fun i=>.sl i 0 len (sz+1))
         |none=>.bad⟩ else eP
    |none=>eP)
   |_,_=>eP)
  |_=>eP)
 | .makeSlice t l c=>(match P.underlying t with
  | some (.slice el)=>(match bJ P el,fY P el with
   |some (sz+1),some z=>(match dV z,P.info? el with
    |some zc,some inf=>bif Nat.ble inf.bytes 1000000&&Nat.beq (eJ zc) (sz+1) then
        ⟨fun _ e h=>gW ((aE l).run e) (fun _ n=>gW ((aE c).run e) (fun _ m=>match n,m with
         | .ofNat n,.ofNat m=>bif Nat.ble n m&&Nat.ble m 100000 then mD el h (sz+1) (jZ zc m) (fun i=>.sl i 0 n (sz+1)) else .bad
         |_,_=>.bad) .bad) .bad⟩ else eP
    |_,_=>eP)
   |_,_=>eP)
  |_=>eP)
 | .makeMap _ none=>⟨fun _ _ h=>sE h (fun _=>.map [] 0) (fun i=>.mp i)⟩
 | .mapUpdate t m k v=>(match P.underlying t with
  |some (.map kt _)=>⟨fun _ e h=>pK ((aE m).run e) (fun b=>AO P kt h b ((aE k).run e) ((aE v).run e)) .bad⟩
  |_=>eP)
 | .insert t m k v=>(match P.underlying t with
  |some (.map kt _)=>⟨fun _ e h=>pK ((aE m).run e) (fun b=>AO P kt h b ((aE k).run e) ((aE v).run e)) .bad⟩
  |_=>eP)
 | .mapEntry t m k=>(match P.underlying t with
  |some (.map kt et)=>(match fY P et with
   |some z=>⟨fun _ e h=>pK ((aE m).run e) (fun b=>FI P kt z h b ((aE k).run e)) .bad⟩
   |none=>eP)
  |_=>eP)
 | .entryStore _ m s v=>⟨fun _ e h=>pK ((aE m).run e) (fun b=>gW ((aE s).run e) (fun _ n=>match n with| .ofNat n=>GN h b n ((aE v).run e)|_=>.bad) .bad) .bad⟩
 | .store t a x=>(match bJ P t with
  |some n=>⟨fun _ e h=>iJ ((aE a).run e) (fun b o=>Option.rec (motive:=fun _=>VH) .bad (fun c=>eE (Nat.beq (eJ c) n) (wr h b o c n) .bad) (dV ((aE x).run e))) .bad⟩
  |none=>eP)
 | .range t x=>(match P.underlying t with
  | some (.map _ _)=>⟨fun _ e h=>pK ((aE x).run e) (fun b=>match iH h b with
    |some (_,a8)=>sE h (fun _=>.miter b a8 [] a8) (fun i=>.p i 0)
    |none=>.bad) .bad⟩
  |_=>eP)
 | .next x false=>⟨fun _ e h=>iJ ((aE x).run e) (fun b o=>eE (Nat.beq o 0) (EV h b) .bad) .bad⟩
 | .call c=>HE P c
 |_=>eP
def isHeavy:Op→Bool
 | .alloc _| .box .. | .buildSlice .. | .makeSlice .. | .makeMap .. | .mapUpdate .. | .insert .. | .store .. | .range .. | .next .. | .mapEntry .. | .entryStore ..=>true
 | .call { callee:=.builtin .len,.. }| .call { callee:=.builtin .max,.. }| .call { callee:=.builtin .min,.. }| .call { callee:=.builtin .unsafeSliceData,.. }=>false
 | .call _=>true
 |_=>false
structure SOp where
 run:bR→Env→H→Rs
structure COd where
 run:bR→Env→H→CR
def doH (call:bR) (e:Env) (dst:Nat) (r:VH):Rs:=VH.rec (motive:=fun _=>Rs) .bad (fun v h=>.ok (iP dst v e) h) r
def doH0 (e:Env) (r:VH):Rs:=VH.rec (motive:=fun _=>Rs) .bad (fun _ h=>.ok e h) r
def doL (e:Env) (h:H) (dst:Nat) (r:Option V):Rs:=Option.rec (motive:=fun _=>Rs) .bad (fun v=>.ok (iP dst v e) h) r
def doL0 (e:Env) (h:H) (r:Option V):Rs:=Option.rec (motive:=fun _=>Rs) .bad (fun _=>.ok e h) r
def fW:Nat:=511
def CK (o:Oper):SOp:=
 match o.op with
 | .defer { callee:=.value f,args:=⟨[]⟩,.. }=>(match o.dst with
  |some _=>⟨fun _ _ _=>.bad⟩
  |none=>⟨fun _ e h=>match (aE f).run e,bQ fW e with
   | .fn g a b,.tup l=>.ok (iP fW (.tup (.fn g a b::l)) e) h
   |_,_=>.bad⟩)
 |_=>match isHeavy o.op,o.dst with
  |true,some d=>⟨fun call e h=>doH call e d ((qP P o.op).run call e h)⟩
  |true,none=>⟨fun call e h=>doH0 e ((qP P o.op).run call e h)⟩
  |false,some d=>⟨fun _ e h=>doL e h d ((oY P o.op).run e h)⟩
  |false,none=>⟨fun _ e h=>doL0 e h ((oY P o.op).run e h)⟩
def kP:List Oper→Nat→Option Oper
 | [],_=>none
 |a::_,0=>some a
 |_::l,n+1=>kP l n
def zE (d:Option Nat) (e:Env):Env:=match d with|some d=>iP d cN e|none=>e
def PU (v:V) (x:Rs):Rs:=match v with| .tup []=>x|_=>.bad
def rV (ops:List Oper) (o:Oper):SOp:=
 match o.guard with
 |none=>CK P o
 |some (j,want)=>match (kP ops j).bind (·.dst) with
  |none=>⟨fun _ e h=>.ok (zE o.dst e) h⟩
  |some g=>⟨fun call e h=>tB (bQ g e) (fun b=>eE (b==want) ((CK P o).run call e h) (.ok (zE o.dst e) h)) (PU (bQ g e) (.ok (zE o.dst e) h))⟩
def lB (ops:List Oper):List Oper→SOp
 | []=>⟨fun _ e h=>.ok e h⟩
 |o::l=>⟨fun call e h=>Rs.rec (motive:=fun _=>Rs) .bad (fun e h=>(lB ops l).run call e h) ((rV P ops o).run call e h)⟩
def iI (e:Edge):Bool:=match e.ground with| .textOnly _| .gcOnly _=>false|_=>true
def natAt:List Nat→Nat→Nat
 | [],_=>0
 |a::_,0=>a
 |_::l,n+1=>natAt l n
def oW (b2:List Nat):List Edge→Nat
 | []=>0
 |e::l=>bif iI e then(1<<<e.on)|||(natAt b2 e.on|||oW b2 l) else oW b2 l
def aH (b2:List Nat):List Oper→List Nat
 | []=>b2
 |o::l=>aH (b2++ [oW b2 o.after.toList]) l
def isNew:Op→Bool
 | .alloc _| .box .. | .buildSlice .. | .makeSlice .. | .makeMap ..=>true
 |_=>false
def jV:Nat→List Oper→List (Nat × Oper)
 |_,[]=>[]
 |i,o::l=>(i,o)::jV (i+1) l
def gL {α:Type} (p:α→Bool):List α→List α
 | []=>[]
 |a::l=>bif p a then a::gL p l else gL p l
def oU (n:Nat):List Nat→Bool
 | []=>false
 |a::l=>bif Nat.beq a n then true else oU n l
def AQ (body:Env→H→CR) (n:Nat):Env→H→CR:=
 Nat.rec (motive:=fun _=>Env→H→CR) (fun _ _=>.bad)
  (fun _ ih e h=>CR.rec (motive:=fun _=>CR) .bad (fun e h=>ih e h) (fun i e h=>.ext i e h) (fun e h=>.ret e h) (body e h)) n
def mB (i:Nat):List V→Env→Env
 | [],e=>e
 |v::l,e=>mB (i+1) l (iP i v e)
structure ROp where
 run:Env→H→Option V
structure ROps where
 run:Env→H→Option (List V)
def rS:ResultVar→ROp
 | .tmp t=>⟨fun e _=>some (bQ t e)⟩
 | .cell a t=>match eV P t,bJ P t with
  |true,some n=>⟨fun e h=>iJ (bQ a e) (fun b o=>mO (rd h b o n)) none⟩
  |false,some _=>⟨fun e h=>iJ (bQ a e) (fun b o=>rd1 h b o) none⟩
  |_,_=>⟨fun _ _=>none⟩
def jY:List ResultVar→ROps
 | []=>⟨fun _ _=>some []⟩
 |r::l=>⟨fun e h=>match (rS P r).run e h,(jY l).run e h with|some v,some vs=>some (v::vs)|_,_=>none⟩
def pX (rs:List ResultVar):ROp:=
 match rs with
 | [r]=>rS P r
 |rs=>⟨fun e h=>match (jY P rs).run e h with|some vs=>some (.tup vs)|none=>none⟩
structure FOp where
 run:bR→List V→H→VH
def nV:FOp:=⟨fun _ _ _=>.bad⟩
def H0 (n:Nat):H:=⟨Mem.new,Fam.new,nM n⟩
def VH.isTrue:VH→Bool| .ok (.b true) _=>true|_=>false
end
variable {h' hh:H}
instance:DecidableEq D8:=fun a b=>by
 cases a<;>cases b<;>first|exact .isTrue rfl|exact .isFalse (fun h=>by cases h)
def sm8 {α:Type} (d:D8) (k) (n:N8 α):gR d (jN d k n)=k (gR d n):=by cases d<;>cases n<;>rfl
def sn8 {α:Type} {d d':D8} (h:d≠d') (k) (n:N8 α):gR d (jN d' k n)=gR d n:=by cases d<;>cases d'<;>cases n<;>first|rfl|exact absurd rfl h
def GR:∀x,x<8→∀y,y<8→dg x=dg y→x=y:=by decide
def uS (t:Nat) (v:V) (e:Env):bQ t (iP t v e)=v:=by
 simp [bQ,iP,sm8]
def qV {t t':Nat} (ht:t<512) (a0:t'<512) (h:t≠t') (v:V) (e:Env):bQ t (iP t' v e)=bQ t e:=by
 unfold bQ iP
 by_cases h1:dg (t/64)=dg (t'/64)
 ·rw [h1,sm8]
  by_cases h2:dg (t/8%8)=dg (t'/8%8)
  ·rw [h2,sm8];have h3:dg (t%8)≠dg (t'%8):=fun h3=>h (by
    have a:=GR _ (by omega) _ (by omega) h1;have b:=GR _ (by omega) _ (by omega) h2;have c:=GR _ (by omega) _ (by omega) h3;omega)
   rw [sn8 h3]
  ·rw [sn8 h2]
 ·rw [sn8 h1]
def gK (i:Id) (x:Option O) (m:Mem):aB i (dU i x m)=x:=by
 cases i;simp [aB,dU,sm8]
def eX {i j:Id} (h:i≠j) (x:Option O) (m:Mem):aB i (dU j x m)=aB i m:=by
 obtain⟨a,b,c,d,e⟩:=i;obtain⟨a',b',c',d',e'⟩:=j;simp only [aB,dU]
 by_cases ha:a=a'
 ·subst ha;rw [sm8]
  by_cases hb:b=b'
  ·subst hb;rw [sm8]
   by_cases hc:c=c'
   ·subst hc;rw [sm8]
    by_cases hd:d=d'
    ·subst hd;rw [sm8]
     by_cases he:e=e'
     ·subst he;exact absurd rfl h
     ·rw [sn8 he]
    ·rw [sn8 hd]
   ·rw [sn8 hc]
  ·rw [sn8 hb]
 ·rw [sn8 ha]
def pD (i:Id) (x:List Id) (m:Fam):aP i (gV i x m)=x:=by
 cases i;simp [aP,gV,sm8]
def jQ {i j:Id} (h:i≠j) (x:List Id) (m:Fam):aP i (gV j x m)=aP i m:=by
 obtain⟨a,b,c,d,e⟩:=i;obtain⟨a',b',c',d',e'⟩:=j;simp only [aP,gV]
 by_cases ha:a=a'
 ·subst ha;rw [sm8]
  by_cases hb:b=b'
  ·subst hb;rw [sm8]
   by_cases hc:c=c'
   ·subst hc;rw [sm8]
    by_cases hd:d=d'
    ·subst hd;rw [sm8]
     by_cases he:e=e'
     ·subst he;exact absurd rfl h
     ·rw [sn8 he]
    ·rw [sn8 hd]
   ·rw [sn8 hc]
  ·rw [sn8 hb]
 ·rw [sn8 ha]
def D8.toNat_lt (d:D8):d.toNat<8:=by cases d<;>decide
def D8.toNat_inj {a b:D8} (h:a.toNat=b.toNat):a=b:=by cases a<;>cases b<;>first|rfl|(simp [D8.toNat] at h)
def D8.beq_iff {a b:D8}:D8.beq a b=true↔a=b:=by
 constructor
 ·intro h;exact D8.toNat_inj (aT h)
 ·rintro rfl;exact VL _
def Id.beq_iff {i j:Id}:Id.beq i j=true↔i=j:=by
 obtain⟨a,b,c,d,e⟩:=i;obtain⟨a',b',c',d',e'⟩:=j;simp only [Id.beq,aN,D8.beq_iff,Id.mk.injEq];constructor
 ·rintro⟨h1,h2,h3,h4,h5⟩;exact⟨h5,h4,h3,h2,h1⟩
 ·rintro⟨h1,h2,h3,h4,h5⟩;exact⟨h5,h4,h3,h2,h1⟩
def D8.nextd_false {d d':D8} (h:d.nextd=(false,d')):d'.toNat=d.toNat+1:=by cases d<;>simp [D8.nextd] at h<;>subst h<;>rfl
def D8.nextd_true {d d':D8} (h:d.nextd=(true,d')):d.toNat=7∧d'.toNat=0:=by cases d<;>simp [D8.nextd] at h;subst h;exact⟨rfl,rfl⟩
def Id.succ_toNat {i j:Id} (h:i.succ=some j):j.toNat=i.toNat+1:=by
 obtain⟨a,b,c,d,e⟩:=i;simp only [Id.succ] at h
 repeat' split at h
 all_goals first
  |(cases h;done)
  |skip
 all_goals
  obtain rfl:=aK h;simp only [Id.toNat]
 ·have:=D8.nextd_false (by assumption);omega
 ·have h1:=D8.nextd_true (d:=e) (by assumption);have:=D8.nextd_false (d:=d) (by assumption);omega
 ·have h1:=D8.nextd_true (d:=e) (by assumption);have h2:=D8.nextd_true (d:=d) (by assumption);have:=D8.nextd_false (d:=c) (by assumption);omega
 ·have h1:=D8.nextd_true (d:=e) (by assumption);have h2:=D8.nextd_true (d:=d) (by assumption);have h3:=D8.nextd_true (d:=c) (by assumption);have:=D8.nextd_false (d:=b) (by assumption);omega
 ·have h1:=D8.nextd_true (d:=e) (by assumption);have h2:=D8.nextd_true (d:=d) (by assumption);have h3:=D8.nextd_true (d:=c) (by assumption);have h4:=D8.nextd_true (d:=b) (by assumption);have:=D8.nextd_false (d:=a) (by assumption);omega
structure Loc where
 blk:Nat
 base:Nat
 lim:Nat
abbrev Mp:=Id→Option Loc
def Mp.le (m m':Mp):Prop:=∀i l,m i=some l→m' i=some l
def Mp.le_refl (m:Mp):m.le m:=fun _ _ h=>h
def Mp.le_trans {a b c:Mp} (h:a.le b) (k:b.le c):a.le c:=fun i l x=>k i l (h i l x)
def dR:Value→Prop
 | .agg _=>False
 | .tuple _=>False
 |_=>True
mutual
def R (m:Mp):V→Value→Prop
 | .top,_=>True
 | .b x,u=>u= .bool x
 | .i k n,u=>u= .int k n
 | .s len code,u=>∃s:ByteArray,u= .string s∧s.data.toList.map UInt8.toNat=dD len code∧code<256^len
 | .pn,u=>u= .pointer none
 | .p b o,u=>∃l,m b=some l∧u= .pointer (some ⟨l.blk,l.base+o,none⟩)
 | .sn,u=>u= .slice none 0 0
 | .sl b o len sz,u=>∃l cap,m b=some l∧u= .slice (some ⟨l.blk,l.base+o,none⟩) len cap∧len≤cap∧o+cap*sz≤l.lim
 | .se,u=>∃a cap,u= .slice (some a) 0 cap
 | .mn,u=>u= .map none
 | .mp b,u=>∃l,m b=some l∧u= .map (some l.blk)
 | .fn f a c,u=>∃a' c',u= .func f ⟨a'⟩ ⟨c'⟩∧Rl m a a'∧Rl m c c'
 | .nf,u=>u= .nilFunc
 | .ni,u=>u= .nilIface
 | .agg l,u=>∃l',u= .agg ⟨l'⟩∧Rl m l l'∧∀x∈l',dR x
 | .tup l,u=>∃l',u= .tuple ⟨l'⟩∧Rl m l l'
def Rl (m:Mp):List V→Lv→Prop
 | [],l=>l= []
 |v::vs,l=>∃u us,l=u::us∧R m v u∧Rl m vs us
end
mutual
theorem R.mono {m m':Mp} (h:m.le m'):∀{v:V} {u:Value},R m v u→R m' v u
 | .top,_,_=>by simp [R]
 | .b x,_,k=>by simpa [R] using k
 | .i _ _,_,k=>by simpa [R] using k
 | .s _ _,_,k=>by simpa [R] using k
 | .pn,_,k=>by simpa [R] using k
 | .p b o,_,k=>by
  simp only [R] at k ⊢;obtain⟨l,hl,hu⟩:=k;exact⟨l,h _ _ hl,hu⟩
 | .sn,_,k=>by simpa [R] using k
 | .sl b o len sz,_,k=>by
  simp only [R] at k ⊢;obtain⟨l,cap,hl,hu⟩:=k;exact⟨l,cap,h _ _ hl,hu⟩
 | .se,_,k=>by simpa [R] using k
 | .mn,_,k=>by simpa [R] using k
 | .mp b,_,k=>by
  simp only [R] at k ⊢;obtain⟨l,hl,hu⟩:=k;exact⟨l,h _ _ hl,hu⟩
 | .fn f a c,_,k=>by
  simp only [R] at k ⊢;obtain⟨a',c',hu,ha,hc⟩:=k;exact⟨a',c',hu,Rl.mono h ha,Rl.mono h hc⟩
 | .nf,_,k=>by simpa [R] using k
 | .ni,_,k=>by simpa [R] using k
 | .agg l,_,k=>by
  simp only [R] at k ⊢;obtain⟨l',hu,hl,hs⟩:=k;exact⟨l',hu,Rl.mono h hl,hs⟩
 | .tup l,_,k=>by
  simp only [R] at k ⊢;obtain⟨l',hu,hl⟩:=k;exact⟨l',hu,Rl.mono h hl⟩
theorem Rl.mono {m m':Mp} (h:m.le m'):∀{l:List V} {us:Lv},Rl m l us→Rl m' l us
 | [],_,k=>by simpa [Rl] using k
 |v::l,_,k=>by
  simp only [Rl] at k ⊢;obtain⟨u,us,rfl,hv,hl⟩:=k;exact⟨u,us,rfl,R.mono h hv,Rl.mono h hl⟩
end
def Rl.length {m:Mp}:∀{l:List V} {us:Lv},Rl m l us→us.length=l.length
 | [],_,k=>by simp only [Rl] at k;subst k;rfl
 |v::l,_,k=>by simp only [Rl] at k;obtain⟨u,us,rfl,_,hl⟩:=k;simp [Rl.length hl]
def Rl.get {m:Mp}:∀{l:List V} {us:Lv},Rl m l us→∀{i:Nat} {v:V},l[i]?=some v→∃u,us[i]?=some u∧R m v u
 | [],_,_,i,v,h=>by simp at h
 |w::l,_,k,i,v,h=>by
  simp only [Rl] at k;obtain⟨u,us,rfl,hv,hl⟩:=k;cases i with
  |zero=>simp at h;subst h;exact⟨u,rfl,hv⟩
  |succ i=>simp at h ⊢;exact Rl.get hl h
def Rl.mk {m:Mp}:∀{l:List V} {us:Lv},us.length=l.length→(∀(i:Nat) v u,l[i]?=some v→us[i]?=some u→R m v u)→Rl m l us
 | [],us,hl,_=>by simp only [Rl];exact gI (by simpa using hl)
 |v::l,[],hl,_=>by simp at hl
 |v::l,u::us,hl,h=>by
  simp only [Rl];exact⟨u,us,rfl,h 0 v u rfl rfl,Rl.mk (by simpa using hl) (fun i v u a b=>h (i+1) v u (by simpa using a) (by simpa using b))⟩
def Rl.append {m:Mp}:∀{l l':List V} {us a1:Lv},Rl m l us→Rl m l' a1→Rl m (l++l') (us++a1)
 | [],_,_,_,k,k'=>by simp only [Rl] at k;subst k;simpa using k'
 |v::l,_,_,_,k,k'=>by
  simp only [Rl] at k;obtain⟨u,us,rfl,hv,hl⟩:=k;simp only [mW,Rl];exact⟨u,_,rfl,hv,Rl.append hl k'⟩
def Rl.take {m:Mp} {l:List V} (h:Rl m l us) (n:Nat):Rl m (l.take n) (us.take n):=
 Rl.mk (by simp [h.length]) (fun i v u a b=>by
  rw [vQ] at a b;split at a
  ·rename_i a2;rw [if_pos a2] at b;obtain⟨u',hu',hr⟩:=h.get a;rw [hu'] at b;cases b;exact hr
  ·cases a)
def Rl.drop {m:Mp} {l:List V} (h:Rl m l us) (n:Nat):Rl m (l.drop n) (us.drop n):=
 Rl.mk (by simp [h.length]) (fun i v u a b=>by
  rw [jF] at a b;obtain⟨u',hu',hr⟩:=h.get a;rw [hu'] at b;cases b;exact hr)
def xT {m:Mp} {v:V} {l:List V} (h:R m v u) (hc:dV v=some l):
  ∃l',u.cells=⟨l'⟩∧Rl m l l'∧∀x∈l',dR x:=by
 cases v<;>simp only [dV,cJ,reduceCtorEq] at hc
 case agg l0=>
  subst hc;simp only [R] at h;obtain⟨l',rfl,hl,hs⟩:=h;exact⟨l',rfl,hl,hs⟩
 all_goals
  subst hc;have a0:dR u:=by
   simp only [R] at h
   first
    |(subst h;trivial)
    |(obtain⟨_,rfl,_⟩:=h;trivial)
    |(obtain⟨_,_,rfl⟩:=h;trivial)
    |(obtain⟨_,_,_,rfl,_⟩:=h;trivial)
    |(obtain⟨_,_,rfl,_⟩:=h;trivial)
  have hu:u.cells=⟨[u]⟩:=by cases u<;>first|rfl|exact a0.elim
  exact⟨[u],hu,by simp only [Rl];exact⟨u,[],rfl,h,rfl⟩,by simpa using a0⟩
variable {m m':Mp}
instance:DecidableEq Id:=fun i j=>if h:Id.beq i j=true then .isTrue (Id.beq_iff.1 h) else .isFalse (fun e=>h (Id.beq_iff.2 e))
def eK (s:ByteArray):List Nat:=s.data.toList.map UInt8.toNat
def EntR (m:Mp) (e:Ent) (x:MapEntry):Prop:=R m e.key x.key∧R m e.val x.val∧x.born=e.born
def bP (m:Mp):List Ent→List MapEntry→Prop
 | [],l=>l= []
 |e::es,l=>∃x xs,l=x::xs∧EntR m e x∧bP m es xs
def EntR.mono (h:m.le m') {e:Ent} {x:MapEntry} (k:EntR m e x):EntR m' e x:=⟨k.1.mono h,k.2.1.mono h,k.2.2⟩
def bP.mono {m m':Mp} (h:m.le m'):∀{es:List Ent} {xs:List MapEntry},bP m es xs→bP m' es xs
 | [],_,k=>k
 |e::es,_,k=>by obtain⟨x,xs,rfl,hx,hxs⟩:=k;exact⟨x,xs,rfl,hx.mono h,bP.mono h hxs⟩
structure CellsAt (m:Mp) (w:Wo) (l:Loc) (sz:Nat) (els:List (List V)) (ro:Rw) (C:Array Value) (t:TypeId) (fz:Nat × Nat):Prop where
 at_:w.heap[l.blk]?=some (.cells C t fz)
 room:l.base+l.lim≤C.size
 len:els.flatten.length≤l.lim
 each:∀el∈els,el.length=sz
 val:∀(i:Nat) v,els.flatten[i]?=some v→∃u,C[l.base+i]?=some u∧R m v u∧dR u
 free:ro.isW=true→∀i,i<l.lim→¬(fz.1≤l.base+i∧l.base+i<fz.2)
 plain:ro.isW=true→sz≠1→fz.1=fz.2
 typ:∀ty,ro.tyOf=some ty→t=ty
 al:l.base%sz=0
def ObjAt (m:Mp) (w:Wo) (l:Loc):O→Prop
 | .cells sz els _ ro=>∃C t fz,CellsAt m w l sz els ro C t fz
 | .map es clock=>∃es',w.heap[l.blk]?=some (.map ⟨es'⟩ clock)∧bP m es es'
 | .miter mi since seen last=>l.base=0∧∃lm,m mi=some lm∧w.heap[l.blk]?=some (.mapIter (some lm.blk) since ⟨seen⟩ last)
def jJ:O→Prop
 | .cells _ _ _ ro=>ro≠ .fz
 |_=>True
def wC:O→O→Prop
 | .cells _ _ f _,.cells _ _ f' _=>f=f'
 |_,_=>False
def EndLe (m:Mp) (mem:Mem) (x y:Id):Prop:=
 ∀sz els f ro b6 els' f' ro' l l',aB x mem=some (.cells sz els f ro)→aB y mem=some (.cells b6 els' f' ro')→m x=some l→m y=some l'→
  l.blk=l'.blk→l'.base+els'.flatten.length≤l.base+els.flatten.length
structure HR (m:Mp) (h:H) (w:Wo):Prop where
 obj:∀b ob,aB b h.mem=some ob→∃l,m b=some l∧ObjAt m w l ob
 dom:∀b l,m b=some l→b.toNat<h.next.toNat
 sep:∀b b' ob a2 l l',aB b h.mem=some ob→aB b' h.mem=some a2→m b=some l→m b'=some l'→b≠b'→l.blk=l'.blk→wC ob a2
 fam:∀b b' sz els f ro b6 els' ro',aB b h.mem=some (.cells sz els f ro)→aB b' h.mem=some (.cells b6 els' f ro')→b≠b'→b∈aP f h.fams
 ord:∀f,(aP f h.fams).Pairwise (EndLe m h.mem)
 lt:∀b l,m b=some l→l.blk<w.heap.size
 famlt:∀b sz els f ro,aB b h.mem=some (.cells sz els f ro)→f.toNat<h.next.toNat
 flt:∀f x,x∈aP f h.fams→x.toNat<h.next.toNat
def Wb (m:Mp) (h:H) (B:Nat):Prop:=∃b ob l,aB b h.mem=some ob∧m b=some l∧l.blk=B∧jJ ob
structure Fr (m:Mp) (h:H) (w:Wo) (m':Mp) (h':H) (w':Wo):Prop where
 le:m.le m'
 hr:HR m' h' w'
 size:w.heap.size≤w'.heap.size
 keep:∀B,B<w.heap.size→¬Wb m h B→w'.heap[B]?=w.heap[B]?
 os:w'.os=w.os
 tape:w'.tape=w.tape
 output:w'.output=w.output
 back:∀b ob l,aB b h'.mem=some ob→m' b=some l→
  w.heap.size≤l.blk∨∃b0 c0 l0,aB b0 h.mem=some c0∧m b0=some l0∧l0.blk=l.blk∧(jJ ob→jJ c0)
 old:∀b l,m' b=some l→b.toNat<h.next.toNat→m b=some l
 nxt:h.next.toNat≤h'.next.toNat
 famold:∀b sz els f ro,aB b h'.mem=some (.cells sz els f ro)→h.next.toNat≤f.toNat∨∃b0 c8 b4 c6,aB b0 h.mem=some (.cells c8 b4 f c6)
def Fr.refl {h:H} (k:HR m h w):Fr m h w m h w:=
 ⟨m.le_refl,k,aA _,fun _ _ _=>rfl,rfl,rfl,rfl,fun b ob l hb hl=>.inr ⟨b,ob,l,hb,hl,rfl,id⟩,fun _ _ h _=>h,aA _,fun b sz els f ro hb=>.inr ⟨b,sz,els,ro,hb⟩⟩
def Fr.trans {m1 m2:Mp} {h h1 h2:H} {w1 w2:Wo} (a:Fr m h w m1 h1 w1) (b:Fr m1 h1 w1 m2 h2 w2):Fr m h w m2 h2 w2 where
 le:=Mp.le_trans a.le b.le
 hr:=b.hr
 size:=aD a.size b.size
 keep:=fun B hB hn=>(b.keep B (aR hB a.size) (by
  rintro⟨x,ob,l,hx,hl,rfl,hw⟩;rcases a.back x ob l hx hl with h'|⟨b0,c0,l0,h0,hl0,he,hw0⟩
  ·omega
  ·exact hn ⟨b0,c0,l0,h0,hl0,he,hw0 hw⟩)).trans (a.keep B hB hn)
 os:=b.os.trans a.os
 tape:=b.tape.trans a.tape
 output:=b.output.trans a.output
 back:=fun x ob l hx hl=>by
  rcases b.back x ob l hx hl with h'|⟨b0,c0,l0,h0,hl0,he,hw0⟩
  ·exact .inl (aD a.size h')
  ·rcases a.back b0 c0 l0 h0 hl0 with h'|⟨b1,c5,l1,h1,a3,he1,hw1⟩
   ·exact .inl (he▸h')
   ·exact .inr ⟨b1,c5,l1,h1,a3,he1.trans he,fun x=>hw1 (hw0 x)⟩
 old:=fun x l hx c1=>a.old x l (b.old x l hx (aR c1 a.nxt)) c1
 nxt:=aD a.nxt b.nxt
 famold:=fun x sz els f ro hx=>by
  rcases b.famold x sz els f ro hx with h'|⟨b0,c8,b4,c6,h0⟩
  ·exact .inl (aD a.nxt h')
  ·exact a.famold _ _ _ _ _ h0
def HR.drawn {h:H} (k:HR m h w) (n:Nat):HR m h { w with drawn:=n }:=
 ⟨fun b ob hb=>by
  obtain⟨l,hl,ho⟩:=k.obj b ob hb;refine⟨l,hl,?_⟩;cases ob with
  |cells sz els f ro=>obtain⟨C,t,fz,hc⟩:=ho;exact⟨C,t,fz,⟨hc.at_,hc.room,hc.len,hc.each,hc.val,hc.free,hc.plain,hc.typ,hc.al⟩⟩
  |map es clock=>exact ho
  |miter mi since seen last=>exact ho,k.dom,k.sep,k.fam,k.ord,k.lt,k.famlt,k.flt⟩
def Fr.drawn {h:H} (k:HR m h w) (n:Nat):Fr m h w m h { w with drawn:=n }:=
 ⟨m.le_refl,k.drawn n,aA _,fun _ _ _=>rfl,rfl,rfl,rfl,fun b ob l hb hl=>.inr ⟨b,ob,l,hb,hl,rfl,id⟩,fun _ _ h _=>h,aA _,fun b sz els f ro hb=>.inr ⟨b,sz,els,ro,hb⟩⟩
def ObjAt.keep {l:Loc} {ob:O} (h:ObjAt m w l ob) (hm:m.le m') (hb:w'.heap[l.blk]?=w.heap[l.blk]?):ObjAt m' w' l ob:=by
 cases ob with
 |cells sz els f ro=>
  obtain⟨C,t,fz,hc⟩:=h;exact⟨C,t,fz,⟨hb.trans hc.at_,hc.room,hc.len,hc.each,fun i v hv=>by obtain⟨u,h1,h2,h3⟩:=hc.val i v hv;exact⟨u,h1,h2.mono hm,h3⟩,hc.free,hc.plain,hc.typ,hc.al⟩⟩
 |map es clock=>obtain⟨es',h1,h2⟩:=h;exact⟨es',hb.trans h1,h2.mono hm⟩
 |miter mi since seen last=>obtain⟨h0,lm,h1,h2⟩:=h;exact⟨h0,lm,hm _ _ h1,hb.trans h2⟩
def BM (o:Obj) {B:Nat} (h:B<w.heap.size):(w.heap.push o)[B]?=w.heap[B]?:=by
 simp [jA,VD h]
def Fr.new {h:H} (k:HR m h w) {nx:Id} (hn:h.next.succ=some nx) (o:Obj) (ob:O) (l:Loc) (hl:l.blk=w.heap.size)
  (hf:∀sz els f ro,ob= .cells sz els f ro→f=h.next) (hw:jJ ob)
  (b8:∀m':Mp,m.le m'→∀w':Wo,w'.heap[w.heap.size]?=some o→ObjAt m' w' l ob):
  Fr m h w (fun b=>if b=h.next then some l else m b) ⟨dU h.next (some ob) h.mem,h.fams,nx⟩ { w with heap:=w.heap.push o }:=by
 have e0:m h.next=none:=by
  cases e:m h.next with
  |none=>rfl
  |some l'=>exact absurd (k.dom _ _ e) (rG _)
 have d2:m.le (fun b=>if b=h.next then some l else m b):=by
  intro b l' hb;have:b≠h.next:=fun e=>by rw [e,e0] at hb;cases hb
  simp [this,hb]
 have a0:∀b a2,aB b (dU h.next (some ob) h.mem)=some a2→(b=h.next∧a2=ob)∨(b≠h.next∧aB b h.mem=some a2):=by
  intro b a2 hb
  by_cases e:b=h.next
  ·subst e;rw [gK] at hb;exact .inl ⟨rfl,(aK hb).symm⟩
  ·rw [eX e] at hb;exact .inr ⟨e,hb⟩
 have e4:=Id.succ_toNat hn;refine⟨d2,⟨?_,?_,?_,?_,?_,?_,?_,fun f x hx=>by have:=k.flt f x hx;show x.toNat<nx.toNat;omega⟩,by simp,?_,rfl,rfl,rfl,?_,?_,by show h.next.toNat≤nx.toNat;omega,fun b sz els f ro hb=>by
  rcases a0 b _ hb with⟨rfl,e⟩|⟨_,hb1⟩
  ·exact .inl (by rw [hf _ _ _ _ e.symm];exact aA _)
  ·exact .inr ⟨b,sz,els,ro,hb1⟩⟩
 ·intro b a2 hb;rcases a0 b a2 hb with⟨rfl,rfl⟩|⟨a1,hb⟩
  ·exact⟨l,by simp,b8 _ d2 _ (by simp)⟩
  ·obtain⟨l',b7,ho⟩:=k.obj b a2 hb;exact⟨l',by simp [a1,b7],ho.keep d2 (BM o (k.lt _ _ b7))⟩
 ·intro b l' hb;show b.toNat<nx.toNat
  by_cases e:b=h.next
  ·subst e;omega
  ·simp [e] at hb;have:=k.dom _ _ hb;omega
 ·intro b b' c5 d6 l1 l2 hb c9 a3 a4 a1 a6;rcases a0 b c5 hb with⟨rfl,rfl⟩|⟨hn1,hb1⟩<;>rcases a0 b' d6 c9 with⟨rfl,rfl⟩|⟨hn2,hb2⟩
  ·exact absurd rfl a1
  ·simp at a3;simp [hn2] at a4;have:=k.lt _ _ a4;subst a3;omega
  ·simp at a4;simp [hn1] at a3;have:=k.lt _ _ a3;subst a4;omega
  ·simp [hn1] at a3;simp [hn2] at a4;exact k.sep b b' c5 d6 l1 l2 hb1 hb2 a3 a4 a1 a6
 ·intro b b' sz els f ro b6 els' ro' hb c9 a1;rcases a0 b _ hb with⟨rfl,e1⟩|⟨hn1,hb1⟩<;>rcases a0 b' _ c9 with⟨rfl,e2⟩|⟨hn2,hb2⟩
  ·exact absurd rfl a1
  ·have:=hf _ _ _ _ e1.symm;have:=k.famlt _ _ _ _ _ hb2;subst f;omega
  ·have:=hf _ _ _ _ e2.symm;have:=k.famlt _ _ _ _ _ hb1;subst f;omega
  ·exact k.fam b b' _ _ _ _ _ _ _ hb1 hb2 a1
 ·intro f;refine(k.ord f).imp ?_;intro x y d4 sz els f1 ro b6 els' f2 ro' l1 l2 hx hy a3 a4 a6;rcases a0 x _ hx with⟨rfl,e1⟩|⟨hn1,hb1⟩<;>rcases a0 y _ hy with⟨rfl,e2⟩|⟨hn2,hb2⟩
  ·rw [a3] at a4;cases a4;rw [←e1] at e2;cases e2;exact aA _
  ·simp at a3;simp [hn2] at a4;have:=k.lt _ _ a4;subst a3;omega
  ·simp at a4;simp [hn1] at a3;have:=k.lt _ _ a3;subst a4;omega
  ·simp [hn1] at a3;simp [hn2] at a4;exact d4 _ _ _ _ _ _ _ _ _ _ hb1 hb2 a3 a4 a6
 ·intro b l' hb
  by_cases e:b=h.next
  ·subst e;simp at hb;subst hb;simp [hl]
  ·simp [e] at hb;have:=k.lt _ _ hb;simp;omega
 ·intro b sz els f ro hb;show f.toNat<nx.toNat;rcases a0 b _ hb with⟨rfl,e1⟩|⟨hn1,hb1⟩
  ·have:=hf _ _ _ _ e1.symm;subst this;omega
  ·have:=k.famlt _ _ _ _ _ hb1;omega
 ·intro B hB _;exact BM o hB
 ·intro b a2 l' hb b7;rcases a0 b a2 hb with⟨rfl,rfl⟩|⟨a1,hb⟩
  ·simp at b7;subst b7;exact .inl (by omega)
  ·simp [a1] at b7;exact .inr ⟨b,a2,l',hb,b7,rfl,id⟩
 ·intro b l' hb c1;have:b≠h.next:=fun e=>by subst e;omega
  simpa [this] using hb
def Fr.upd {h:H} (k:HR m h w) {b:Id} {ob a2:O} {l:Loc} {mem':Mem} {a8:Fam} {o':Obj}
  (hb:aB b h.mem=some ob) (hl:m b=some l) (hw:jJ ob)
  (sub:∀x ox,aB x mem'=some ox→aB x h.mem=some ox)
  (b2:∀x ox lx,x≠b→aB x mem'=some ox→m x=some lx→lx.blk≠l.blk)
  (d0:∀x y sz els f ro b6 els' ro',aB x (dU b (some a2) mem')=some (.cells sz els f ro)→aB y (dU b (some a2) mem')=some (.cells b6 els' f ro')→x≠y→x∈aP f a8)
  (d3:∀f,(aP f a8).Pairwise (EndLe m h.mem))
  (d8:∀sz els f ro,a2= .cells sz els f ro→f.toNat<h.next.toNat)
  (d9:∀sz els f ro,a2= .cells sz els f ro→∃b0 c8 b4 c6,aB b0 h.mem=some (.cells c8 b4 f c6))
  (d1:∀f x,x∈aP f a8→x.toNat<h.next.toNat)
  (b3:w'={ w with heap:=w.heap.setIfInBounds l.blk o' })
  (b8:w'.heap[l.blk]?=some o'→ObjAt m w' l a2):
  Fr m h w m ⟨dU b (some a2) mem',a8,h.next⟩ w':=by
 have c1:=k.lt _ _ hl;have d7:w'.heap[l.blk]?=some o':=by rw [b3];simp [c1]
 have c2:∀B,B≠l.blk→w'.heap[B]?=w.heap[B]?:=by
  intro B hB;rw [b3];simp [lV,fR hB]
 have a0:∀x ox,aB x (dU b (some a2) mem')=some ox→(x=b∧ox=a2)∨(x≠b∧aB x mem'=some ox):=by
  intro x ox hx
  by_cases e:x=b
  ·subst e;rw [gK] at hx;exact .inl ⟨rfl,(aK hx).symm⟩
  ·rw [eX e] at hx;exact .inr ⟨e,hx⟩
 have e3:w'.heap.size=w.heap.size:=by rw [b3];simp
 refine⟨m.le_refl,⟨?_,k.dom,?_,d0,?_,?_,?_,d1⟩,by omega,?_,by rw [b3],by rw [b3],by rw [b3],?_,fun _ _ h _=>h,aA _,fun x sz els f ro hx=>by
  rcases a0 x _ hx with⟨rfl,e⟩|⟨_,a5⟩
  ·exact .inr (d9 _ _ _ _ e.symm)
  ·exact .inr ⟨x,sz,els,ro,sub _ _ a5⟩⟩
 ·intro x ox hx;rcases a0 x ox hx with⟨rfl,rfl⟩|⟨a1,hx⟩
  ·exact⟨l,hl,b8 d7⟩
  ·obtain⟨lx,a7,ho⟩:=k.obj x ox (sub _ _ hx);exact⟨lx,a7,ho.keep m.le_refl (c2 _ (b2 x ox lx a1 hx a7))⟩
 ·intro x y ox oy lx ly hx hy a7 c3 a1 a6;rcases a0 x ox hx with⟨rfl,rfl⟩|⟨hn1,a5⟩<;>rcases a0 y oy hy with⟨rfl,rfl⟩|⟨hn2,a9⟩
  ·exact absurd rfl a1
  ·rw [hl] at a7;cases a7;exact absurd a6.symm (b2 y oy ly hn2 a9 c3)
  ·rw [hl] at c3;cases c3;exact absurd a6 (b2 x ox lx hn1 a5 a7)
  ·exact k.sep x y ox oy lx ly (sub _ _ a5) (sub _ _ a9) a7 c3 a1 a6
 ·intro f;refine(d3 f).imp ?_;intro x y d4 sz els f1 ro b6 els' f2 ro' l1 l2 hx hy a3 a4 a6;rcases a0 x _ hx with⟨rfl,e1⟩|⟨hn1,a5⟩<;>rcases a0 y _ hy with⟨rfl,e2⟩|⟨hn2,a9⟩
  ·rw [a3] at a4;cases a4;rw [←e1] at e2;cases e2;exact aA _
  ·rw [hl] at a3;cases a3;exact absurd a6.symm (b2 y _ l2 hn2 a9 a4)
  ·rw [hl] at a4;cases a4;exact absurd a6 (b2 x _ l1 hn1 a5 a3)
  ·exact d4 _ _ _ _ _ _ _ _ _ _ (sub _ _ a5) (sub _ _ a9) a3 a4 a6
 ·intro x lx hx;rw [e3];exact k.lt _ _ hx
 ·intro x sz els f ro hx;show f.toNat<h.next.toNat;rcases a0 x _ hx with⟨rfl,e1⟩|⟨hn1,hx⟩
  ·exact d8 _ _ _ _ e1.symm
  ·exact k.famlt _ _ _ _ _ (sub _ _ hx)
 ·intro B hB hn;refine c2 B ?_;rintro rfl;exact hn ⟨b,ob,l,hb,hl,rfl,hw⟩
 ·intro x ox lx hx a7;rcases a0 x ox hx with⟨rfl,rfl⟩|⟨a1,hx⟩
  ·rw [hl] at a7;cases a7;exact .inr ⟨x,ob,l,hb,hl,rfl,fun _=>hw⟩
  ·exact .inr ⟨x,ox,lx,sub _ _ hx,a7,rfl,id⟩
def lJ:∀(l:List Id) (m:Mem) (x:Id),aB x (iD l m)=if x∈l then none else aB x m
 | [],m,x=>by simp [iD]
 | b::l,m,x=>by
  rw [iD,lJ l]
  by_cases h:x∈l
  ·simp [h]
  ·by_cases e:x=b
   ·subst e;simp [h,gK]
   ·simp [h,e,eX e]
def qB (b:Id):∀(l:List Id) (x:Id),x∈kC b l↔x∈l∧x≠b
 | [],x=>by simp [kC]
 | y::l,x=>by
  rw [kC]
  by_cases e:Id.beq y b=true
  ·have e':=Id.beq_iff.1 e;subst e';simp only [e,cS,qB y l x,cM];constructor
   ·rintro⟨h1,h2⟩;exact⟨.inr h1,h2⟩
   ·rintro⟨h1|h1,h2⟩
    ·exact absurd h1 h2
    ·exact⟨h1,h2⟩
  ·have e':y≠b:=fun h=>e (Id.beq_iff.2 h)
   have e2:Id.beq y b=false:=by simpa using e
   simp only [e2,kV,cM,qB b l x];constructor
   ·rintro(rfl|⟨h1,h2⟩)
    ·exact⟨.inl rfl,e'⟩
    ·exact⟨.inr h1,h2⟩
   ·rintro⟨h1|h1,h2⟩
    ·exact .inl h1
    ·exact .inr ⟨h1,h2⟩
def xF (h:H) (f b:Id):gT h f b=⟨iD (kC b (aP f h.fams)) h.mem,if aP f h.fams= [] then h.fams else gV f [] h.fams,h.next⟩:=by
 obtain⟨mem,fams,next⟩:=h;unfold gT;cases e:aP f fams with
 |nil=>simp [e,kC,iD]
 |cons x l=>simp [e]
def rQ (h:H) (b:Id) (ob:O):eO h b ob=⟨dU b (some ob) h.mem,h.fams,h.next⟩:=by cases h;rfl
def Fr.updCells {h:H} (k:HR m h w) {b f:Id} {sz ty:Nat} {els els':List (List V)} {ro':Rw} {l:Loc} {o':Obj}
  (hb:aB b h.mem=some (.cells sz els f (.rw ty))) (hl:m b=some l)
  (b3:w'={ w with heap:=w.heap.setIfInBounds l.blk o' })
  (b8:w'.heap[l.blk]?=some o'→ObjAt m w' l (.cells sz els' f ro')):
  Fr m h w m (eO (gT h f b) b (.cells sz els' f ro')) w':=by
 rw [rQ,xF];have hk:∀x ox,aB x (iD (kC b (aP f h.fams)) h.mem)=some ox→aB x h.mem=some ox∧(x∈aP f h.fams→x=b):=by
  intro x ox hx;rw [lJ] at hx;split at hx
  ·cases hx
  ·rename_i hn;refine⟨hx,fun hm=>?_⟩
   by_cases e:x=b
   ·exact e
   ·exact absurd ((qB b _ x).2 ⟨hm,e⟩) hn
 refine Fr.upd k hb hl (by simp [jJ]) (fun x ox hx=>(hk x ox hx).1) ?_ ?_ ?_ ?_ (fun sz1 els1 f1 b9 e=>by cases e;exact⟨b,_,_,_,hb⟩) ?_ b3 b8
 ·intro x ox lx a1 hx a7 a6;obtain⟨a5,hm⟩:=hk x ox hx;have hs:=k.sep x b ox _ lx l a5 hb a7 hl a1 a6;cases ox with
  |cells sz1 els1 f1 b9=>
   have hf:f1=f:=hs;subst hf;exact a1 (hm (k.fam x b _ _ _ _ _ _ _ a5 hb a1))
  |_=>exact hs
 ·intro x y sz1 els1 f1 b9 sz2 els2 c7 hx hy a1;have b5:x=b∧f1=f∨x≠b∧aB x h.mem=some (.cells sz1 els1 f1 b9)∧(x∈aP f h.fams→x=b):=by
   by_cases e:x=b
   ·subst e;rw [gK] at hx;cases hx;exact .inl ⟨rfl,rfl⟩
   ·rw [eX e] at hx;exact .inr ⟨e,hk x _ hx⟩
  have d5:y=b∧f1=f∨y≠b∧aB y h.mem=some (.cells sz2 els2 f1 c7)∧(y∈aP f h.fams→y=b):=by
   by_cases e:y=b
   ·subst e;rw [gK] at hy;cases hy;exact .inl ⟨rfl,rfl⟩
   ·rw [eX e] at hy;exact .inr ⟨e,hk y _ hy⟩
  by_cases hf:f1=f
  ·subst hf;rcases b5 with⟨rfl,_⟩|⟨hn1,a5,hm1⟩
   ·rcases d5 with⟨rfl,_⟩|⟨hn2,a9,hm2⟩
    ·exact absurd rfl a1
    ·exact absurd (hm2 (k.fam y x _ _ _ _ _ _ _ a9 hb hn2)) hn2
   ·exact absurd (hm1 (k.fam x b _ _ _ _ _ _ _ a5 hb hn1)) hn1
  ·have a5:aB x h.mem=some (.cells sz1 els1 f1 b9):=by
    rcases b5 with⟨_,e⟩|⟨_,a5,_⟩
    ·exact absurd e hf
    ·exact a5
   have a9:aB y h.mem=some (.cells sz2 els2 f1 c7):=by
    rcases d5 with⟨_,e⟩|⟨_,a9,_⟩
    ·exact absurd e hf
    ·exact a9
   have:=k.fam x y _ _ _ _ _ _ _ a5 a9 a1;show x∈aP f1 _;split
   ·exact this
   ·rw [jQ hf];exact this
 ·intro f1;show(aP f1 _).Pairwise _;split
  ·exact k.ord f1
  ·by_cases e:f1=f
   ·subst e;rw [pD];exact .nil
   ·rw [jQ e];exact k.ord f1
 ·intro sz1 els1 f1 b9 e;cases e;exact k.famlt _ _ _ _ _ hb
 ·intro f1 x hx;have b5:x∈aP f1 (if aP f h.fams= [] then h.fams else gV f [] h.fams):=hx;split at b5
  ·exact k.flt f1 x b5
  ·by_cases e:f1=f
   ·subst e;rw [pD] at b5;cases b5
   ·rw [jQ e] at b5;exact k.flt f1 x b5
def Fr.updObj {h:H} (k:HR m h w) {b:Id} {ob a2:O} {l:Loc} {o':Obj}
  (hb:aB b h.mem=some ob) (hl:m b=some l) (hn:∀sz els f ro,ob≠ .cells sz els f ro) (c4:∀sz els f ro,a2≠ .cells sz els f ro)
  (b3:w'={ w with heap:=w.heap.setIfInBounds l.blk o' }) (b8:w'.heap[l.blk]?=some o'→ObjAt m w' l a2):
  Fr m h w m (eO h b a2) w':=by
 rw [rQ];refine Fr.upd k hb hl ?_ (fun _ _ h=>h) ?_ ?_ k.ord (fun sz els f ro e=>absurd e (c4 _ _ _ _)) (fun sz els f ro e=>absurd e (c4 _ _ _ _)) k.flt b3 b8
 ·cases ob<;>first|trivial|exact absurd rfl (hn _ _ _ _)
 ·intro x ox lx a1 hx a7 a6;have hs:=k.sep x b ox _ lx l hx hb a7 hl a1 a6;cases ob with
  |cells sz els f ro=>exact hn _ _ _ _ rfl
  |_=>cases ox<;>exact hs
 ·intro x y sz1 els1 f1 b9 sz2 els2 c7 hx hy a1;have a5:aB x h.mem=some (.cells sz1 els1 f1 b9):=by
   by_cases e:x=b
   ·subst e;rw [gK] at hx;cases hx;exact absurd rfl (c4 _ _ _ _)
   ·rwa [eX e] at hx
  have a9:aB y h.mem=some (.cells sz2 els2 f1 c7):=by
   by_cases e:y=b
   ·subst e;rw [gK] at hy;cases hy;exact absurd rfl (c4 _ _ _ _)
   ·rwa [eX e] at hy
  exact k.fam x y _ _ _ _ _ _ _ a5 a9 a1
def IB {α:Type} {v:V} {k} {d} {r:α} (h:tB v k d=r):(∃x0,v= .b x0∧k x0=r)∨((∀x0,v≠ .b x0)∧d=r):=by
 cases v<;>first|exact .inl ⟨_,rfl,h⟩|exact .inr ⟨by intros;simp,h⟩
def UK {α:Type} {v:V} {k} {r:α} (h:tB v k none=some r):∃x0,v= .b x0∧k x0=some r:=by
 rcases IB h with h|⟨_,h⟩
 ·exact h
 ·cases h
def UJ {α:Type} {v:V} {k} {d} {r:α} (h:gW v k d=r):(∃x0 x1,v= .i x0 x1∧k x0 x1=r)∨((∀x0 x1,v≠ .i x0 x1)∧d=r):=by
 cases v<;>first|exact .inl ⟨_,_,rfl,h⟩|exact .inr ⟨by intros;simp,h⟩
def nW {α:Type} {v:V} {k} {r:α} (h:gW v k none=some r):∃x0 x1,v= .i x0 x1∧k x0 x1=some r:=by
 rcases UJ h with h|⟨_,h⟩
 ·exact h
 ·cases h
def HZ {v:V} {k} {r:V} (h:gW v k VH.bad=VH.ok r hh):∃x0 x1,v= .i x0 x1∧k x0 x1= .ok r hh:=by
 rcases UJ h with h|⟨_,h⟩
 ·exact h
 ·cases h
def Ji {α:Type} {v:V} {k} {d} {r:α} (h:sW v k d=r):(∃x0 x1,v= .s x0 x1∧k x0 x1=r)∨((∀x0 x1,v≠ .s x0 x1)∧d=r):=by
 cases v<;>first|exact .inl ⟨_,_,rfl,h⟩|exact .inr ⟨by intros;simp,h⟩
def yC {α:Type} {v:V} {k} {r:α} (h:sW v k none=some r):∃x0 x1,v= .s x0 x1∧k x0 x1=some r:=by
 rcases Ji h with h|⟨_,h⟩
 ·exact h
 ·cases h
def HX {α:Type} {v:V} {k} {d} {r:α} (h:iJ v k d=r):(∃x0 x1,v= .p x0 x1∧k x0 x1=r)∨((∀x0 x1,v≠ .p x0 x1)∧d=r):=by
 cases v<;>first|exact .inl ⟨_,_,rfl,h⟩|exact .inr ⟨by intros;simp,h⟩
def sZ {α:Type} {v:V} {k} {r:α} (h:iJ v k none=some r):∃x0 x1,v= .p x0 x1∧k x0 x1=some r:=by
 rcases HX h with h|⟨_,h⟩
 ·exact h
 ·cases h
def CP {v:V} {k} {r:V} (h:iJ v k VH.bad=VH.ok r hh):∃x0 x1,v= .p x0 x1∧k x0 x1= .ok r hh:=by
 rcases HX h with h|⟨_,h⟩
 ·exact h
 ·cases h
def CN {α:Type} {v:V} {k} {d} {r:α} (h:vF v k d=r):(∃x0 x1 x2 x3,v= .sl x0 x1 x2 x3∧k x0 x1 x2 x3=r)∨((∀x0 x1 x2 x3,v≠ .sl x0 x1 x2 x3)∧d=r):=by
 cases v<;>first|exact .inl ⟨_,_,_,_,rfl,h⟩|exact .inr ⟨by intros;simp,h⟩
def Jg {α:Type} {v:V} {k} {r:α} (h:vF v k none=some r):∃x0 x1 x2 x3,v= .sl x0 x1 x2 x3∧k x0 x1 x2 x3=some r:=by
 rcases CN h with h|⟨_,h⟩
 ·exact h
 ·cases h
def Jn {α:Type} {v:V} {k} {d} {r:α} (h:IC v k d=r):(∃x0,v= .agg x0∧k x0=r)∨((∀x0,v≠ .agg x0)∧d=r):=by
 cases v<;>first|exact .inl ⟨_,rfl,h⟩|exact .inr ⟨by intros;simp,h⟩
def Jm {α:Type} {v:V} {k} {r:α} (h:IC v k none=some r):∃x0,v= .agg x0∧k x0=some r:=by
 rcases Jn h with h|⟨_,h⟩
 ·exact h
 ·cases h
def Je {α:Type} {v:V} {k} {d} {r:α} (h:HV v k d=r):(∃x0,v= .tup x0∧k x0=r)∨((∀x0,v≠ .tup x0)∧d=r):=by
 cases v<;>first|exact .inl ⟨_,rfl,h⟩|exact .inr ⟨by intros;simp,h⟩
def Jd {α:Type} {v:V} {k} {r:α} (h:HV v k none=some r):∃x0,v= .tup x0∧k x0=some r:=by
 rcases Je h with h|⟨_,h⟩
 ·exact h
 ·cases h
def HY {α:Type} {v:V} {k} {d} {r:α} (h:pK v k d=r):(∃x0,v= .mp x0∧k x0=r)∨((∀x0,v≠ .mp x0)∧d=r):=by
 cases v<;>first|exact .inl ⟨_,rfl,h⟩|exact .inr ⟨by intros;simp,h⟩
def yD {v:V} {k} {r:V} (h:pK v k VH.bad=VH.ok r hh):∃x0,v= .mp x0∧k x0= .ok r hh:=by
 rcases HY h with h|⟨_,h⟩
 ·exact h
 ·cases h
def Jl {α:Type} {v:V} {k} {d} {r:α} (h:IA v k d=r):(∃x0 x1 x2,v= .fn x0 x1 x2∧k x0 x1 x2=r)∨((∀x0 x1 x2,v≠ .fn x0 x1 x2)∧d=r):=by
 cases v<;>first|exact .inl ⟨_,_,_,rfl,h⟩|exact .inr ⟨by intros;simp,h⟩
def Jk {v:V} {k} {r:V} (h:IA v k VH.bad=VH.ok r hh):∃x0 x1 x2,v= .fn x0 x1 x2∧k x0 x1 x2= .ok r hh:=by
 rcases Jl h with h|⟨_,h⟩
 ·exact h
 ·cases h
def HW {α:Type} {v:V} {k} {d} {r:α} (h:yB v k d=r):(v= .sn∧k=r)∨((v≠ .sn)∧d=r):=by
 cases v<;>first|exact .inl ⟨rfl,h⟩|exact .inr ⟨by simp,h⟩
def Jf {α:Type} {v:V} {k} {r:α} (h:yB v k none=some r):v= .sn∧k=some r:=by
 rcases HW h with h|⟨_,h⟩
 ·exact h
 ·cases h
def Jh {α:Type} {v:V} {k} {d} {r:α} (h:CO v k d=r):(v= .se∧k=r)∨((v≠ .se)∧d=r):=by
 cases v<;>first|exact .inl ⟨rfl,h⟩|exact .inr ⟨by simp,h⟩
def UH {α:Type} {v:V} {k} {r:α} (h:CO v k none=some r):v= .se∧k=some r:=by
 rcases Jh h with h|⟨_,h⟩
 ·exact h
 ·cases h
def Jj {α:Type} {v:V} {k} {d} {r:α} (h:CS v k d=r):(v= .mn∧k=r)∨((v≠ .mn)∧d=r):=by
 cases v<;>first|exact .inl ⟨rfl,h⟩|exact .inr ⟨by simp,h⟩
def UI {α:Type} {v:V} {k} {r:α} (h:CS v k none=some r):v= .mn∧k=some r:=by
 rcases Jj h with h|⟨_,h⟩
 ·exact h
 ·cases h
def pA {α:Type} {x y r:α} (h:eE b x y=r):(b=true∧x=r)∨(b=false∧y=r):=by
 cases b
 ·exact .inr ⟨rfl,h⟩
 ·exact .inl ⟨rfl,h⟩
def kI {x:Option V} {r:V} (h:eE b x none=some r):b=true∧x=some r:=by
 rcases pA h with h|⟨_,h⟩
 ·exact h
 ·cases h
def FT {x:VH} {r:V} (h:eE b x .bad= .ok r hh):b=true∧x= .ok r hh:=by
 rcases pA h with h|⟨_,h⟩
 ·exact h
 ·cases h
def CH:∀(n c:Nat),(dD n c).length=n
 |0,_=>rfl
 |n+1,c=>by simp [dD,CH n]
def TE:∀(l:List Nat),(∀b∈l,b<256)→dD l.length (mJ l)=l
 | [],_=>rfl
 |b::l,h=>by
  have hb:=h b (by simp);have e1:(b+256*mJ l)%256=b:=by omega
  have e2:(b+256*mJ l)/256=mJ l:=by omega
  simp only [eW,dD,mJ,e1,e2,TE l (fun x hx=>h x (by simp [hx]))]
def SF:∀(l:List Nat),(∀b∈l,b<256)→mJ l<256^l.length
 | [],_=>by simp [mJ]
 |b::l,h=>by
  have hb:=h b (by simp);have:=SF l (fun x hx=>h x (by simp [hx]));simp only [mJ,eW,gN];omega
def TB:∀(n c c':Nat),c<256^n→c'<256^n→dD n c=dD n c'→c=c'
 |0,c,c',h,h',_=>by simp at h h';omega
 |n+1,c,c',h,h',e=>by
  simp only [dD,iZ] at e;have:=TB n (c/256) (c'/256) (by rw [gN] at h;omega) (by rw [gN] at h';omega) e.2;omega
def TG (s:ByteArray):∀b∈eK s,b<256:=by
 intro b hb;simp only [eK,cL] at hb;obtain⟨x,_,rfl⟩:=hb;exact x.toNat_lt
def Ic {t:ByteArray} (h:eK s=eK t):s=t:=by
 have:s.data.toList=t.data.toList:=by
  have hi:∀(l r:List UInt8),l.map UInt8.toNat=r.map UInt8.toNat→l=r:=by
   intro l
   induction l with
   |nil=>intro r h;cases r with|nil=>rfl|cons _ _=>simp at h
   | cons a l ih=>
    intro r h;cases r with
    |nil=>simp at h
    |cons b r=>
     simp only [fS,iZ] at h;rw [CX.1 h.1,ih r h.2]
  exact hi _ _ h
 cases s;cases t;congr 1;exact kY.1 this
def R_str:R m (.s l c) u↔∃s,u= .string s∧eK s=dD l c∧c<256^l:=by
 simp only [R,eK]
def R_strOf (m:Mp) (s:ByteArray):R m (wB (eK s)) (.string s):=by
 rw [wB,R_str];exact⟨s,rfl,(TE _ (TG s)).symm,SF _ (TG s)⟩
def Ia (s:ByteArray):(eK s).length=s.size:=by
 rw [eK,jE,cU];rfl
def wA (h:eK s=dD l c):s.size=l:=by
 rw [←Ia,h,CH]
def YR:zG v=true↔dR v:=by cases v<;>simp [zG,dR]
mutual
theorem sO (m:Mp):∀v:Value,R m (cst v) v
 | .bool x=>by simp [cst,R]
 | .int k n=>by simp [cst,R]
 | .float ..=>by simp [cst,R]
 | .complex ..=>by simp [cst,R]
 | .string s=>by rw [cst];exact R_strOf m s
 | .pointer none=>by simp [cst,R]
 | .pointer (some _)=>by simp [cst,R]
 | .slice none 0 0=>by simp [cst,R]
 | .slice none (_+1) _=>by simp [cst,R]
 | .slice none 0 (_+1)=>by simp [cst,R]
 | .slice (some _) _ _=>by simp [cst,R]
 | .map none=>by simp [cst,R]
 | .map (some _)=>by simp [cst,R]
 | .chan _=>by simp [cst,R]
 | .func ..=>by simp [cst,R]
 | .nilFunc=>by simp [cst,R]
 | .iface ..=>by simp [cst,R]
 | .nilIface=>by simp [cst,R]
 | .agg ⟨l⟩=>by
  rw [cst];cases e:l.all zG with
  |true=>
   simp only [cS,R];refine⟨l,rfl,GS m l,fun x hx=>YR.1 (jG.1 e x hx)⟩
  |false=>simp [R]
 | .tuple ⟨l⟩=>by
  rw [cst];simp only [R];exact⟨l,rfl,GS m l⟩
theorem GS (m:Mp):∀l:Lv,Rl m (uU l) l
 | []=>by simp [uU,Rl]
 |v::l=>by simp only [uU,Rl];exact⟨v,l,rfl,sO m v,GS m l⟩
end
def DfrR (m:Mp):List V→List Deferred→Prop
 | [],ds=>ds= []
 | .fn g a c::l,ds=>∃a' c' r,ds={ target:=.fn g ⟨c'⟩,args:=⟨a'⟩ }::r∧Rl m a a'∧Rl m c c'∧DfrR m l r
 |_::_,_=>False
def DfrR.mono (h:m.le m'):∀{l:List V} {ds:List Deferred},DfrR m l ds→DfrR m' l ds
 | [],_,k=>k
 | .fn g a c::l,_,k=>by obtain⟨a',c',r,rfl,ha,hc,hr⟩:=k;exact⟨a',c',r,rfl,ha.mono h,hc.mono h,hr.mono h⟩
 | .top::_,_,k=>k.elim
 | .b _::_,_,k=>k.elim
 | .i _ _::_,_,k=>k.elim
 | .s _ _::_,_,k=>k.elim
 | .pn::_,_,k=>k.elim
 | .p _ _::_,_,k=>k.elim
 | .sn::_,_,k=>k.elim
 | .sl _ _ _ _::_,_,k=>k.elim
 | .se::_,_,k=>k.elim
 | .mn::_,_,k=>k.elim
 | .mp _::_,_,k=>k.elim
 | .nf::_,_,k=>k.elim
 | .ni::_,_,k=>k.elim
 | .agg _::_,_,k=>k.elim
 | .tup _::_,_,k=>k.elim
structure aY (m:Mp) (n:Nat) (e:Env) (a:Act):Prop where
 size:a.tmps.size=n
 le:n≤511
 val:∀t,t<n→R m (bQ t e) (a.tmps.getD t undef)
 dfr:∃l,bQ fW e= .tup l∧DfrR m l a.defers
def aY.mono (h:m.le m') {n:Nat} {e:Env} {a:Act} (k:aY m n e a):aY m' n e a:=
 ⟨k.size,k.le,fun t ht=>(k.val t ht).mono h,by obtain⟨l,h1,h2⟩:=k.dfr;exact⟨l,h1,h2.mono h⟩⟩
def aY.set {e:Env} (k:aY m n e a) {d:Nat} (hd:d<n) {v:V} {u:Value} (h:R m v u):aY m n (iP d v e) (a.put (some d) u):=by
 have a0:=k.le;refine⟨by simp [Act.put,k.size],k.le,fun t ht=>?_,?_⟩
 ·by_cases e':t=d
  ·subst e';rw [uS];simp [Act.put,tO,k.size,ht,h]
  ·rw [qV (by omega) (by omega) e'];have:=k.val t ht;simpa [Act.put,tO,lV,fR e'] using this
 ·obtain⟨l,h1,h2⟩:=k.dfr;refine⟨l,?_,h2⟩;rw [qV (by decide) (by omega) (by show 511≠d;omega)];exact h1
def aY.put {e:Env} (k:aY m n e a) {d:Option Nat} (hd:∀x,d=some x→x<n) {v:V} {u:Value} (h:R m v u):
  aY m n (match d with|some x=>iP x v e|none=>e) (a.put d u):=by
 cases d with
 |none=>exact k
 |some x=>exact k.set (hd x rfl) h
def Gl (P:Program) (m:Mp):Prop:=∀g,g<P.globals.size→∃lim,m (nM g)=some ⟨g,0,lim⟩
def Gl.mono (h:m.le m') (k:Gl P m):Gl P m':=fun g hg=>by obtain⟨lim,hl⟩:=k g hg;exact⟨lim,h _ _ hl⟩
def cT (P:Program) (n:Nat):Operand→Bool
 | .tmp t=>decide (t<n)
 | .global g=>decide (g<P.globals.size)
 |_=>true
def cV {e:Env} (k:aY m n e a) (hg:Gl P m) {x:Operand} (hx:cT P n x=true):R m ((aE x).run e) (a.eval x):=by
 cases x with
 |tmp t=>exact k.val t (by simpa [cT] using hx)
 |const v=>exact sO m v
 |global g=>
  obtain⟨lim,hl⟩:=hg g (by simpa [cT] using hx);simp only [aE,Act.eval,R];exact⟨_,hl,rfl⟩
 |func f=>simp only [aE,Act.eval,R];exact⟨[],[],rfl,by simp [Rl],by simp [Rl]⟩
def uE {P:Program} {m:Mp} {n:Nat} {e:Env} {a:Act} (k:aY m n e a) (hg:Gl P m):∀{xs:List Operand},xs.all (cT P n)=true→Rl m ((oP xs).run e) (xs.map a.eval)
 | [],_=>by simp [oP,Rl]
 |x::xs,h=>by
  simp only [mX,aN] at h;simp only [oP,fS,Rl];exact⟨_,_,rfl,cV k hg h.1,uE k hg h.2⟩
section
variable {P:Program} {m:Mp} {w:Wo}
def nY (b o n:Nat):(⟨b,o,none⟩:Addr).add n=⟨b,o+n,none⟩:=by
 unfold Addr.add;split
 ·rename_i h;subst h;simp
 ·rfl
def bU (h:P.underlying t=some d):(underlying t).run P w= .ok d w:=by simp [underlying,h]
def rP (h:bJ P t=some n):∃i,P.info? t=some i∧i.size=n:=by
 unfold bJ at h;split at h
 ·rename_i i _ hi;cases h;exact⟨i,hi,rfl⟩
 ·cases h
def tS (h:bJ P t=some n):∃d,P.underlying t=some d:=by
 unfold bJ at h;split at h
 ·rename_i d _ _ hd _;exact⟨_,hd⟩
 ·cases h
def iG (h:bJ P t=some n):(sizeOf t).run P w= .ok n w:=by
 obtain⟨i,hi,rfl⟩:=rP h;simp [sizeOf,typeInfo,hi]
def BG (h:P.underlying t=some d):(isAgg t).run P w= .ok (eV P t) w:=by
 simp only [isAgg,aU,bU h,cI,eV,h];cases d<;>rfl
def lW {z:V} (h:fY P t=some z):∃u,(zeroValue t).run P w= .ok u w∧z=cst u∧∃i,P.info? t=some i∧i.zero=some u:=by
 unfold fY at h;cases hi:P.info? t with
 |none=>simp [hi] at h
 | some i=>
  cases hz:i.zero with
  |none=>simp [hi,hz] at h
  |some u=>
   simp [hi,hz] at h;exact⟨u,by simp [zeroValue,typeInfo,hi,hz],h.symm,i,rfl,hz⟩
def uW {l:Loc} (h:w.heap[l.blk]?=some (.cells C t fz)) (o:Nat):w.cell? ⟨l.blk,o,none⟩=C[o]?:=by
 simp [World.cell?,h]
def rY (l:List V) (i:Nat):lF l i=l[i]?:=by
 induction l generalizing i with
 |nil=>rfl
 |cons a l ih=>cases i with
  |zero=>rfl
  |succ i=>simpa [lF] using ih i
def wU (l:List (List V)) (i:Nat):mC l i=l[i]?:=by
 induction l generalizing i with
 |nil=>rfl
 |cons a l ih=>cases i with
  |zero=>rfl
  |succ i=>simpa [mC] using ih i
def DQ:∀(n:Nat) (l r:List V),jL n l=some r→n≤l.length∧r=l.take n
 |0,l,r,h=>by
  have:[]=r:=aK h;subst this;simp
 |n+1,[],r,h=>by cases h
 | n+1,a::l,r,h=>by
  have:jL (n+1) (a::l)=Option.rec (motive:=fun _=>Option (List V)) none (fun x=>some (a::x)) (jL n l):=rfl;rw [this] at h;cases e:jL n l with
  |none=>rw [e] at h;cases h
  |some x=>
   rw [e] at h;cases h;obtain⟨h1,rfl⟩:=DQ n l x e;exact⟨by simp;omega,by simp⟩
def iQ:∀(n:Nat) (l:List V),eF n l=l.drop n
 |0,l=>rfl
 |n+1,[]=>rfl
 |n+1,a::l=>by
  have:eF (n+1) (a::l)=eF n l:=rfl;rw [this,iQ n l];rfl
def kH (l:List V):eJ l=l.length:=by
 induction l with
 |nil=>rfl
 |cons a l ih=>show Nat.succ (eJ l)=_;rw [ih];rfl
def xG (l:List (List V)):oZ l=l.length:=by
 induction l with
 |nil=>rfl
 |cons a l ih=>show Nat.succ (oZ l)=_;rw [ih];rfl
def UN (a b:List V):appV a b=a++b:=by
 induction a with
 |nil=>rfl
 |cons x a ih=>show x::appV a b=_;rw [ih];rfl
def Jq (a b:List (List V)):appL a b=a++b:=by
 induction a with
 |nil=>rfl
 |cons x a ih=>show x::appL a b=_;rw [ih];rfl
def flat_get {sz:Nat}:∀{els:List (List V)} (h:∀el∈els,el.length=sz) {q:Nat} {el:List V},els[q]?=some el→∀(i:Nat),i<sz→els.flatten[q*sz+i]?=el[i]?
 | [],_,q,el,hq,i,hi=>by simp at hq
 |x::els,h,0,el,hq,i,hi=>by
  simp at hq;subst hq;have:=h x (by simp);simp [List.getElem?_append,this,hi]
 |x::els,h,q+1,el,hq,i,hi=>by
  simp at hq;have hx:=h x (by simp);have:=flat_get (fun el he=>h el (by simp [he])) hq i hi;simp only [jT];rw [dK (by rw [hx,gY];omega),hx,←this];congr 1;rw [gY];omega
def flat_len {sz:Nat}:∀{els:List (List V)},(∀el∈els,el.length=sz)→els.flatten.length=els.length*sz
 | [],_=>by simp
 |x::els,h=>by
  have:=flat_len (els:=els) (fun el he=>h el (by simp [he]));simp only [jT,aI,h x (by simp),this,eW,gY];omega
def ZO {h:H} (k:HR m h w) {b:Id} {o n:Nat} {xs:List V} (hr:rd h b o n=some xs):
  ∃l us,m b=some l∧xs.length=n∧Rl m xs us∧(∀x∈us,dR x)∧∀(j:Nat) v,us[j]?=some v→w.cell? ⟨l.blk,l.base+o+j,none⟩=some v:=by
 unfold rd at hr;cases hb:aB b h.mem with
 |none=>rw [hb] at hr;cases hr
 | some ob=>
  rw [hb] at hr;cases ob with
  |map _ _=>cases hr
  |miter _ _ _ _=>cases hr
  | cells sz els f ro=>
   obtain⟨l,hl,C,t,fz,hc⟩:=k.obj _ _ hb;have a1:(Option.rec (motive:=fun _=>Option (List V)) none (fun el=>Bool.rec (motive:=fun _=>Option (List V)) (jL n (eF (Nat.mod o sz) el)) (some el) (Nat.beq (Nat.mod o sz) 0&&Nat.beq n sz)) (mC els (Nat.div o sz)):Option (List V))=some xs:=hr;rw [wU] at a1;cases he:els[Nat.div o sz]? with
   |none=>rw [he] at a1;cases a1
   | some el=>
    rw [he] at a1;have a2:=hc.each el (aV he);have hx:(∀j,j<n→o%sz+j<sz)∧n≤(el.drop (o%sz)).length∧xs=(el.drop (o%sz)).take n:=by
     cases ht:(Nat.beq (Nat.mod o sz) 0&&Nat.beq n sz) with
     |false=>
      have a3:jL n (eF (Nat.mod o sz) el)=some xs:=by simpa [ht] using a1
      rw [iQ] at a3;obtain⟨h1,rfl⟩:=DQ _ _ _ a3;refine⟨fun j hj=>?_,h1,rfl⟩;have a5:n≤(el.drop (o%sz)).length:=h1;rw [cW,a2] at a5;omega
     |true=>
      have a3:el=xs:=by simpa [ht] using a1
      simp only [aN] at ht;have h1:o%sz=0:=aT ht.1;have h2:n=sz:=aT ht.2;subst a3;subst h2;rw [h1];exact⟨fun j hj=>by omega,by simp [a2],by rw [bG,fH (by omega)]⟩
    obtain⟨hn,hn2,rfl⟩:=hx;have a4:((el.drop (o%sz)).take n).length=n:=by rw [aX];omega
    have a0:∀j,j<n→∃v u,((el.drop (o%sz)).take n)[j]?=some v∧C[l.base+o+j]?=some u∧R m v u∧dR u:=by
     intro j hj;have a6:o%sz+j<sz:=hn j hj;have hv:∃v,el[o%sz+j]?=some v:=⟨el[o%sz+j]'(by omega),bM (by omega)⟩;obtain⟨v,hv⟩:=hv;have hf:=flat_get hc.each he (o%sz+j) a6;rw [hv] at hf;obtain⟨u,hu,hR,hs⟩:=hc.val _ _ hf;have hi:Nat.div o sz*sz+(o%sz+j)=o+j:=by
      have:=lS o sz;rw [cP] at this;show o/sz*sz+(o%sz+j)=o+j;omega
     rw [hi] at hu;refine⟨v,u,?_,by rw [←hu];congr 1;omega,hR,hs⟩;rw [iY hj,jF,hv]
    refine⟨l,(List.range n).map (fun j=>(C[l.base+o+j]?).getD undef),hl,a4,?_,?_,?_⟩
    ·refine Rl.mk (by simp [a4]) ?_;intro j v u hv hu;have hj:j<n:=by
      have:=(aM.1 hv).1;omega
     obtain⟨v',u',hv',hu',hR,_⟩:=a0 j hj;rw [hv] at hv';cases hv';simp only [gO,DG hj,rD,cJ] at hu;rw [hu'] at hu;subst hu;exact hR
    ·intro x hx;simp only [cL,JE] at hx;obtain⟨j,hj,rfl⟩:=hx;obtain⟨v',u',_,hu',_,hs⟩:=a0 j hj;rw [hu'];exact hs
    ·intro j v hv;have hj:j<n:=by
      have:=(aM.1 hv).1;simpa using this
     obtain⟨v',u',_,hu',_,_⟩:=a0 j hj;simp only [gO,DG hj,rD,cJ] at hv;rw [hu'] at hv;simp at hv;subst hv;rw [uW hc.at_,hu']
end
section
variable {P:Program} {m:Mp} {w:Wo}
def IG {x:Option (List V)} {r:V} (h:mO x=some r):∃l,x=some l∧r= .agg l:=by
 cases x with
 |none=>cases h
 |some l=>cases h;exact⟨l,rfl,rfl⟩
def CT {v:V} {k:Nat→Option V} {r:V} (h:asN v k=some r):∃kk n,v= .i kk (.ofNat n)∧k n=some r:=by
 obtain⟨kk,n,rfl,h⟩:=nW h;cases n with
 |ofNat n=>exact⟨kk,n,rfl,h⟩
 |negSucc n=>cases h
def ET:∀(l:List Field) (i:Nat),rZ l i=l[i]?
 | [],i=>by cases i<;>rfl
 |a::l,0=>rfl
 |a::l,i+1=>by rw [rZ,ET l i];rfl
def nZ {l:List V} (h:R m (.agg l) u):∃l',u= .agg ⟨l'⟩∧Rl m l l'∧∀x∈l',dR x:=by simpa only [R] using h
def rU {l:List V} {l':Lv} {v:V} (hu:P.underlying t=some d) (hn:bJ P t=some n) (hl:Rl m l l') (hs:∀x∈l',dR x)
  (hv:lD (eV P t) off n l=some v):∃u,(part t ⟨l'⟩ off).run P w= .ok u w∧R m v u:=by
 unfold lD at hv;rcases pA hv with⟨ha,hv⟩|⟨ha,hv⟩
 ·obtain⟨x,hx,rfl⟩:=IG hv;rw [iQ] at hx;obtain⟨a5,rfl⟩:=DQ _ _ _ hx;refine⟨.agg ((⟨l'⟩:Array Value).extract off (off+n)),?_,?_⟩
  ·simp only [part,aU,BG hu,cI,ha,if_true,iG hn,cC]
  ·simp only [R];refine⟨(l'.drop off).take n,?_,(hl.drop off).take n,fun x hx=>hs x (rI (jS hx))⟩;congr 1;apply kY.1;simp [List.extract_eq_take_drop]
 ·rw [rY] at hv;obtain⟨u,hu',hR⟩:=hl.get hv;refine⟨u,?_,hR⟩;have:(⟨l'⟩:Array Value)[off]?=some u:=by simpa using hu'
  simp [part,BG hu,ha,this]
def OV {h:H} (k:HR m h w) {t:TypeId} {d:TypeDesc} {n:Nat} {x:V} {u:Value} {v:V} (hd:P.underlying t=some d) (hn:bJ P t=some n) (hx:R m x u)
  (hv:iJ x (fun b o=>eE (eV P t) (mO (rd h b o n)) (rd1 h b o)) none=some v):∃u',(Instr.loadAt t u).run P w= .ok u' w∧R m v u':=by
 obtain⟨b,o,rfl,hv⟩:=sZ hv;simp only [R] at hx;obtain⟨l,hl,rfl⟩:=hx;rcases pA hv with⟨ha,hv⟩|⟨ha,hv⟩
 ·obtain⟨xs,hxs,rfl⟩:=IG hv;obtain⟨l2,us,hl2,a0,hR,hs,hc⟩:=ZO k hxs;rw [hl] at hl2;cases hl2;refine⟨.agg ⟨us⟩,?_,by simp only [R];exact⟨us,rfl,hR,hs⟩⟩;have a2:(loadCells ⟨l.blk,l.base+o,none⟩ n).run P w= .ok ⟨us⟩ w:=by
   have:=UT (P:=P) (w:=w) ⟨l.blk,l.base+o,none⟩ us (fun j v hv=>by rw [nY];exact hc j v hv);rw [←a0,←hR.length];simpa using this
  simp [Instr.loadAt,Instr.sureAddr,loadVar,BG hd,ha,iG hn,a2]
 ·have hc:∃u',w.cell? ⟨l.blk,l.base+o,none⟩=some u'∧R m v u':=by
   unfold rd1 at hv;cases hb:aB b h.mem with
   |none=>rw [hb] at hv;cases hv
   | some ob=>
    rw [hb] at hv;cases ob with
    |map _ _=>cases hv
    |miter _ _ _ _=>cases hv
    | cells sz els f ro=>
     have a1:(Option.rec (motive:=fun _=>Option V) none (fun el=>lF el (Nat.mod o sz)) (mC els (Nat.div o sz)):Option V)=some v:=hv;rw [wU] at a1;cases he:els[Nat.div o sz]? with
     |none=>rw [he] at a1;cases a1
     | some el=>
      rw [he] at a1;have a3:lF el (o%sz)=some v:=a1;rw [rY] at a3;obtain⟨l2,hl2,C,t2,fz,hcs⟩:=k.obj _ _ hb;rw [hl] at hl2;cases hl2;have a6:=(aM.1 a3).1;have a0:=hcs.each el (aV he);have hf:=flat_get hcs.each he (o%sz) (by omega);rw [a3] at hf;obtain⟨u',hu',hR,_⟩:=hcs.val _ _ hf;have hi:Nat.div o sz*sz+o%sz=o:=by
       have:=lS o sz;rw [cP] at this;exact this
      rw [hi] at hu';exact⟨u',by rw [uW hcs.at_,hu'],hR⟩
  obtain⟨u',hu',hR⟩:=hc;exact⟨u',by simp [Instr.loadAt,Instr.sureAddr,loadVar,BG hd,ha,hu'],hR⟩
def JT (k:IntKind) (n:Int):yZ k n=k.wrap n:=by
 cases n with
 |negSucc m=>rfl
 | ofNat m=>
  show(Bool.rec (motive:=fun _=>Int) (k.wrap (.ofNat m)) (.ofNat m) (Nat.ble m (thr k)):Int)=_;cases e:Nat.ble m (thr k) with
  |false=>rfl
  |true=>
   have hm:=cQ e;symm;cases k<;>simp only [thr] at hm<;>simp only [IntKind.wrap,IntKind.bits,IntKind.signed]<;>simp<;>omega
def BD (j k:IntKind):kEq j k=true↔j=k:=by cases j<;>cases k<;>simp [kEq]
def BL (a b:Int):iLt a b=decide (a<b):=by
 cases a with
 | ofNat x=>cases b with
  |ofNat y=>
   show Nat.ble (Nat.succ x) y=_;rw [jH];simp [Nat.ble_eq];omega
  |negSucc y=>show false=_;symm;simp;omega
 | negSucc x=>cases b with
  |ofNat y=>show true=_;symm;simp;omega
  |negSucc y=>
   show Nat.ble (Nat.succ y) x=_;rw [jH];simp [Nat.ble_eq];omega
def QF (a b:Int):iEq a b=(a==b):=by
 cases a with
 |ofNat x=>cases b with
  |ofNat y=>show Nat.beq x y=_;rw [jH];simp [DC];omega
  |negSucc y=>show false=_;symm;simp
 |negSucc x=>cases b with
  |ofNat y=>show false=_;symm;simp
  |negSucc y=>show Nat.beq x y=_;rw [jH];simp [DC]
def Dx (a b:Int):iAdd a b=a+b:=by
 cases a with
 |ofNat x=>cases b with
  |ofNat y=>rfl
  |negSucc y=>rfl
 |negSucc x=>rfl
def Dw (a b:Int):iSub a b=a-b:=by
 cases a with
 | ofNat x=>cases b with
  | ofNat y=>
   show(Bool.rec (motive:=fun _=>Int) (Int.sub (.ofNat x) (.ofNat y)) (.ofNat (Nat.sub x y)) (Nat.ble y x):Int)=_;cases e:Nat.ble y x with
   |false=>rfl
   |true=>
    have:=cQ e;show Int.ofNat (x-y)=Int.ofNat x-Int.ofNat y;simp;omega
  |negSucc y=>rfl
 |negSucc x=>rfl
def Dj {a b:Int} {v:V} (t:TypeId) (a4:op≠ .shl∧op≠ .shr) (h:(BI op).run k a b=some v):
  ∃u,(binOp op t (.int k a) (.int k b)).run P w= .ok u w∧R m v u:=by
 obtain⟨h1,h2⟩:=a4;cases op<;>simp only [BI] at h<;>first
  |exact absurd rfl h1
  |exact absurd rfl h2
  |(cases h;done)
  |skip
 all_goals
  cases h;refine⟨_,by simp only [binOp,ne_eq,UV,gX,Op.intArith,Op.intBits,Op.intCmp,cC];rfl,?_⟩;simp only [R,JT,Dx,Dw,QF,BL]
 all_goals first
  |rfl
  |(congr 1;rw [jH];simp;done)
  |(congr 1;rw [jH];simp;omega)
  |(simp;done)
end
section
variable {P:Program} {m:Mp} {w:Wo}
def OP:∀(l r:List UInt8),l.map UInt8.toNat=r.map UInt8.toNat→l=r
 | [],r,h=>by cases r with|nil=>rfl|cons _ _=>simp at h
 |a::l,[],h=>by simp at h
 |a::l,b::r,h=>by
  simp only [fS,iZ] at h;rw [CX.1 h.1,OP l r h.2]
def DW {t:ByteArray} (h:eK s=dD l c) (hc:c<256^l) (h':eK t=dD l' c') (a0:c'<256^l'):sEq l c l' c'=(s.toList==t.toList):=by
 rw [pT,pT,jH];simp only [sEq,aN,DC,IL];constructor
 ·rintro⟨rfl,rfl⟩;exact OP _ _ (h.trans h'.symm)
 ·intro e;have hb:eK s=eK t:=by unfold eK;rw [e]
  have hl:l=l':=by rw [←CH l c,←h,hb,h',CH]
  subst hl;exact⟨rfl,TB _ _ _ hc a0 (by rw [←h,hb,h'])⟩
def OS:∀(x y:List UInt8),ltB (x.map UInt8.toNat) (y.map UInt8.toNat)=Op.bytesLess x y
 |x,[]=>by cases x<;>rfl
 | [],_::_=>rfl
 | a::x,b::y=>by
  simp only [fS,ltB,Op.bytesLess,OS x y];have e1:Nat.blt a.toNat b.toNat=decide (a<b):=by
   rw [jH];simp [Nat.blt,Nat.ble_eq,Jz];omega
  have e2:Nat.beq a.toNat b.toNat=(a==b):=by
   rw [jH];simp [DC,CX]
  rw [e1,e2];cases decide (a<b)<;>cases (a==b)<;>simp
def Ck {t:ByteArray} (h:eK s=dD l c) (h':eK t=dD l' c'):ltB (dD l c) (dD l' c')=Op.bytesLess s.toList t.toList:=by
 rw [pT,pT,←h,←h'];exact OS _ _
def TF:∀(l c l' c':Nat),c<256^l→dD l c++dD l' c'=dD (l+l') (c+c'*256^l)
 |0,c,l',c',h=>by simp at h;subst h;simp [dD]
 | l+1,c,l',c',h=>by
  have a1:c/256<256^l:=by rw [gN] at h;omega
  have e1:(c+c'*256^(l+1))%256=c%256:=by
   rw [gN,←eQ,Kh]
  have e2:(c+c'*256^(l+1))/256=c/256+c'*256^l:=by
   rw [gN,←eQ,Nat.add_mul_div_right _ _ (by decide)]
  have e3:l+1+l'=(l+l')+1:=by omega
  rw [e3];simp only [dD,mW,e1,e2,TF l (c/256) l' c' a1]
def Gw (h:c<256^l) (h':c'<256^l'):c+c'*256^l<256^(l+l'):=by
 have:(c'+1)*256^l≤256^l'*256^l:=eZ _ h';rw [IT,cP (256^l)];rw [gY] at this;omega
def KY (c l:Nat):c<<<(8*l)=c*256^l:=by
 rw [IQ,IR]
def KW (c l:Nat):c>>>(8*l)=c/256^l:=by
 rw [Nat.shiftRight_eq_div_pow,IR]
def TC:∀(l c i:Nat),i<l→(dD l c)[i]?=some (c/256^i%256)
 |0,c,i,h=>by omega
 |l+1,c,0,h=>by simp [dD]
 |l+1,c,i+1,h=>by
  simp only [dD,List.getElem?_cons_succ];rw [TC l (c/256) i (by omega),Kf,gN,cP 256]
def TD:∀(k l c:Nat),(dD l c).drop k=dD (l-k) (c/256^k)
 |0,l,c=>by simp
 |k+1,0,c=>by simp [dD]
 |k+1,l+1,c=>by
  simp only [dD,aZ];rw [TD k l (c/256),Kf,gN,cP 256];congr 1;omega
def SZ:∀(k l c:Nat),k≤l→(dD l c).take k=dD k (c%256^k)
 |0,l,c,h=>by simp [dD]
 |k+1,0,c,h=>by omega
 | k+1,l+1,c,h=>by
  have e1:c%256^(k+1)%256=c%256:=by
   rw [gN,cP];exact Nat.mod_mul_right_mod _ _ _
  have e2:c%256^(k+1)/256=c/256%256^k:=by
   rw [gN,cP];exact Nat.mod_mul_right_div_self _ _ _
  simp only [dD,bL,e1,e2,SZ k l (c/256) (by omega)]
def If (s t:ByteArray):eK (s++t)=eK s++eK t:=by
 simp [eK,ByteArray.data_append]
def Ie (s:ByteArray) (i j:Nat):eK (s.extract i j)=((eK s).drop i).take (j-i):=by
 obtain⟨⟨l⟩⟩:=s;have:=ByteArray.extract_mk l i j;rw [show(ByteArray.mk ⟨l⟩).extract i j=(ByteArray.mk l.toArray).extract i j from rfl,this];simp [eK,List.map_take,VV]
def XS {x y:Value} {v:V} (t:TypeId) (hx:R m (.s l c) x) (hy:R m (.s l' c') y) (h:(DS op).run l c l' c'=some v):
  ∃u,(binOp op t x y).run P w= .ok u w∧R m v u:=by
 rw [R_str] at hx hy;obtain⟨s,rfl,hs,hc⟩:=hx;obtain⟨s',rfl,hs',a0⟩:=hy;have he:=DW hs hc hs' a0;cases op<;>simp only [DS] at h<;>(try (cases h;done))
 case add=>
  cases e:Nat.ble (l+l') 1000000000 with
  |false=>rw [e] at h;cases h
  |true=>
   rw [e] at h;cases h;have a4:=cQ e;have h1:=wA hs;have h2:=wA hs';refine⟨.string (s++s'),by rw [binOp_string_add,run_string_add_sum];omega,?_⟩;rw [R_str];refine⟨s++s',rfl,?_,?_⟩
   ·rw [If,hs,hs',TF _ _ _ _ hc,KY]
   ·rw [KY];exact Gw hc a0
 all_goals
  cases h;refine⟨_,by simp only [binOp,Op.stringOp,cC];rfl,?_⟩;simp only [R,he]
def Dm (h:eK s=dD l c) (hi:i<l):∃b:UInt8,s[i]?=some b∧b.toNat=(c>>>(8*i))%256:=by
 have a2:=wA h;have hg:=TC l c i hi;rw [←h] at hg;simp only [eK,gO,tG] at hg;obtain⟨b,hb,hb2⟩:=hg;refine⟨b,?_,by rw [KW];exact hb2⟩;rw [ByteArray.getElem?_lt' s i (by omega)];rw [←hb];have:i<s.data.toList.length:=by rw [cU];exact(by rw [a2];exact hi:i<s.size)
 rw [bM this];rfl
def XZ {j:Nat} (h:eK s=dD l c) (a3:i≤j) (hj:j≤l):R m (.s (j-i) ((c>>>(8*i))%2^(8*(j-i)))) (.string (s.extract i j)):=by
 rw [R_str];refine⟨_,rfl,?_,?_⟩
 ·rw [Ie,h,TD,SZ _ _ _ (by omega),KW,IR]
 ·rw [IR];exact mT _ (kW (by decide))
end
section
variable {P:Program} {m:Mp} {w:Wo}
def wS (agg:Bool) (n off:Nat) (l:List V):oO agg n (eF off l)=lD agg off n l:=by
 unfold oO lD;rw [iQ,rY,rY,jF,fG];cases agg with
 |true=>
  show _=mO _;unfold mO;cases jL n (l.drop off)<;>rfl
 |false=>rfl
def RD {h:H} {b f:Id} (hf:uO h b=some f):∃sz els ty,aB b h.mem=some (.cells sz els f (.rw ty))∧sz≠1:=by
 unfold uO at hf;split at hf
 ·rename_i sz els f' ty hb;cases e:Nat.beq sz 1 with
  |true=>rw [e] at hf;cases hf
  |false=>
   rw [e] at hf;cases hf;exact⟨sz,els,ty,hb,fun h1=>by subst h1;simp at e⟩
 ·cases hf
def YW {a b:Addr} (a7:a.block≠b.block)
  (ha:w.heap[a.block]?=some (.cells C t fz)) (hb:w.heap[b.block]?=some (.cells C' t' fz')) (hz:fz.1=fz.2) (a4:fz'.1=fz'.2):
  (sameAddr a b).run P w= .ok false w:=by
 have fa:∀o,w.frozen? ⟨a.block,o,none⟩=false:=by intro o;simp [World.frozen?,ha,hz]
 have fb:∀o,w.frozen? ⟨b.block,o,none⟩=false:=by intro o;simp [World.frozen?,hb,a4]
 have b0:w.frozen? a=false:=by simp [World.frozen?,ha,hz]
 have b1:w.frozen? b=false:=by simp [World.frozen?,hb,a4]
 have sa:w.shape? a.block=some (t,C.size):=by simp [World.shape?,ha]
 have sb:w.shape? b.block=some (t',C'.size):=by simp [World.shape?,hb]
 have a8:(a.block==b.block)=false:=by simpa using a7
 simp [sameAddr,a8,b0,noView,viewAt,sa,sb,mayBeOne,stringish,fa,fb,b1]
def RK {h:H} (k:HR m h w) {q:TypeId→EqT} {D:Nat}
  (hq:∀t x y ux uy r,R m x ux→R m y uy→(q t).run h x y=some r→(Op.equalIn D t ux uy).run P w= .ok r w):
  ∀(fs:List Field) {xs ys:List V} {xs' a3:Lv} {r:Bool},Rl m xs xs'→Rl m ys a3→(∀x∈xs',dR x)→(∀x∈a3,dR x)→
   (uR P q fs).run h (.agg xs) (.agg ys)=some r→(Op.eqFields D ⟨xs'⟩ ⟨a3⟩ fs).run P w= .ok r w
 | [],xs,ys,xs',a3,r,_,_,_,_,he=>by
  have:true=r:=aK he;subst this;simp [Op.eqFields]
 | f :: fs,xs,ys,xs',a3,r,hx,hy,sx,sy,he=>by
  unfold uR at he;split at he
  ·cases he
  ·rename_i a1;cases hs:bJ P f.type with
   |none=>rw [hs] at he;cases he
   | some n=>
    rw [hs] at he;simp only [wS] at he;cases ha:lD (eV P f.type) f.offset n xs with
    |none=>rw [ha] at he;cases he
    | some a=>
     cases hb:lD (eV P f.type) f.offset n ys with
     |none=>rw [ha,hb] at he;cases he
     | some b=>
      rw [ha,hb] at he;obtain⟨d,hd⟩:=tS hs;obtain⟨ua,hua,ra⟩:=rU (w:=w) hd hs hx sx ha;obtain⟨ub,hub,rb⟩:=rU (w:=w) hd hs hy sy hb;simp only at he;cases hqr:(q f.type).run h a b with
      |none=>rw [hqr] at he;cases he
      | some r0=>
       rw [hqr] at he;have a2:=hq f.type a b ua ub r0 ra rb hqr;cases r0 with
       |false=>
        have:false=r:=aK he;subst this;simp [Op.eqFields,a1,hua,hub,a2]
       |true=>
        have ih:=RK k hq fs hx hy sx sy he;simp [Op.eqFields,a1,hua,hub,a2,ih]
def qT (d:Nat) (el:TypeId) (n:Nat) (xs ys:Array Value):List Nat→Sem Bool
 | []=>pure true
 |i::is=>do
  let a←part el xs (i*n)
  let b←part el ys (i*n)
  let r←Op.equalIn d el a b
  if(!r)=true then pure false else qT d el n xs ys is
def ZA (d:Nat) (t:TypeId) (len:Nat) (el:TypeId) (n:Nat) (xs ys:Array Value) (ht:P.underlying t=some (.array len el)) (hn:bJ P el=some n):
  (Op.equalIn (d+1) t (.agg xs) (.agg ys)).run P w=(qT d el n xs ys (List.range' 0 len)).run P w:=by
 simp only [Op.equalIn,aU,bU ht,cI,iG hn,Ka,Std.Legacy.Range.size,DB,Kg,IX];generalize List.range' 0 len=is;clear ht hn
 induction is generalizing w with
 |nil=>simp [qT]
 | cons i is ih=>
  simp only [WB,qT,aU,yK];generalize (part el xs (i*n)).run P w=r1;cases r1 with
  | ok a w1=>
   simp only [cI];generalize (part el ys (i*n)).run P w1=r2;cases r2 with
   | ok b w2=>
    simp only [cI];generalize (Op.equalIn d el a b).run P w2=r3;cases r3 with
    | ok r w3=>
     cases r
     ·simp only [cI,Bool.not_false,if_true,cC]
     ·simp only [cI,tN,eH,gX,cC];exact ih (w:=w3)
    |halt x w3=>simp [Result.andThen]
   |halt x w2=>simp [Result.andThen]
  |halt x w1=>simp [Result.andThen]
def RN {h:H} (k:HR m h w) {q:EqT} {D:Nat} {el:TypeId} {n:Nat} {d:TypeDesc} (hd:P.underlying el=some d) (hn:bJ P el=some n)
  (hq:∀x y ux uy r,R m x ux→R m y uy→q.run h x y=some r→(Op.equalIn D el ux uy).run P w= .ok r w)
  {X Y:List V} {X' Y':Lv} (hX:Rl m X X') (hY:Rl m Y Y') (sX:∀x∈X',dR x) (sY:∀x∈Y',dR x):
  ∀(c i:Nat) {r:Bool},eqAs q (eV P el) n c (eF (i*n) X) (eF (i*n) Y) h=some r→(qT D el n ⟨X'⟩ ⟨Y'⟩ (List.range' i c)).run P w= .ok r w
 |0,i,r,he=>by
  have:true=r:=aK he;subst this;simp [qT]
 | c + 1,i,r,he=>by
  unfold eqAs at he;simp only [wS] at he;have e0:∀l:List V,oO (eV P el) n (eF (i*n) l)=lD (eV P el) (i*n) n l:=fun l=>wS _ _ _ _
  cases ha:lD (eV P el) (i*n) n X with
  |none=>rw [ha] at he;cases he
  | some a=>
   cases hb:lD (eV P el) (i*n) n Y with
   |none=>rw [ha,hb] at he;cases he
   | some b=>
    rw [ha,hb] at he;simp only at he;obtain⟨ua,hua,ra⟩:=rU (w:=w) hd hn hX sX ha;obtain⟨ub,hub,rb⟩:=rU (w:=w) hd hn hY sY hb;cases hqr:q.run h a b with
    |none=>rw [hqr] at he;cases he
    | some r0=>
     rw [hqr] at he;have a2:=hq a b ua ub r0 ra rb hqr;cases r0 with
     |false=>
      have:false=r:=aK he;subst this;simp [vM,qT,hua,hub,a2]
     | true=>
      have e1:eF n (eF (i*n) X)=eF ((i+1)*n) X:=by
       rw [iQ,iQ,iQ,yV];congr 1;rw [gY]
      have e2:eF n (eF (i*n) Y)=eF ((i+1)*n) Y:=by
       rw [iQ,iQ,iQ,yV];congr 1;rw [gY]
      simp only [e1,e2] at he;have ih:=RN k hd hn hq hX hY sX sY c (i+1) he;simp [vM,qT,hua,hub,a2,ih]
def GJ {h:H} (k:HR m h w):∀(d:Nat) (t:TypeId) (D:Nat),d≤D→∀x y ux uy r,R m x ux→R m y uy→(eqT P d t).run h x y=some r→(Op.equalIn D t ux uy).run P w= .ok r w
 |0,t,D,_,x,y,ux,uy,r,_,_,he=>by cases he
 |d+1,t,0,hD,_,_,_,_,_,_,_,_=>by omega
 | d +1,t,D+1,hD,x,y,ux,uy,r,hx,hy,he=>by
  have ih:=GJ k d;unfold eqT at he;cases hu:P.underlying t with
  |none=>rw [hu] at he;cases he
  | some ds=>
   rw [hu] at he;cases ds<;>simp only at he<;>(try (cases he;done))
   case bool=>
    split at he
    ·cases he;simp only [R] at hx hy;subst hx;subst hy;simp [Op.equalIn,bU hu]
    ·cases he
   case int kk=>
    split at he
    ·rename_i k1 a k2 b;cases e:kEq k1 k2 with
     |false=>rw [e] at he;cases he
     |true=>
      rw [e] at he;cases he;have:=(BD _ _).1 e;subst this;simp only [R] at hx hy;subst hx;subst hy;simp [Op.equalIn,bU hu,QF]
    ·cases he
   case string=>
    split at he
    ·cases he;rw [R_str] at hx hy;obtain⟨s,rfl,hs,hc⟩:=hx;obtain⟨s',rfl,hs',hc'⟩:=hy;rw [DW hs hc hs' hc'];exact UU w D t s s' hu
    ·cases he
   case pointer e=>
    have a0:∀r,(match x,y with| .pn,.pn=>some true| .pn,.p _ _=>some false| .p _ _,.pn=>some false|_,_=>(none:Option Bool))=some r→(Op.equalIn (D+1) t ux uy).run P w= .ok r w:=by
     intro r he;split at he
     ·cases he;simp only [R] at hx hy;subst hx;subst hy;simp [Op.equalIn,bU hu]
     ·cases he;simp only [R] at hx hy;obtain⟨l,_,rfl⟩:=hy;subst hx;simp [Op.equalIn,bU hu]
     ·cases he;simp only [R] at hx hy;obtain⟨l,_,rfl⟩:=hx;subst hy;simp [Op.equalIn,bU hu]
     ·cases he
    cases hs:bJ P e with
    |none=>rw [hs] at he;exact a0 r he
    | some n=>
     cases n with
     |zero=>rw [hs] at he;exact a0 r he
     | succ n=>
      rw [hs] at he;simp only at he;split at he
      ·exact a0 r (by simpa using he)
      ·exact a0 r (by simpa using he)
      ·exact a0 r (by simpa using he)
      ·rename_i b o b' o';simp only [R] at hx hy;obtain⟨l,hl,rfl⟩:=hx;obtain⟨l',hl',rfl⟩:=hy;cases eb:Id.beq b b' with
       | true=>
        rw [eb] at he;simp only [cS,cJ] at he;subst he;have:=Id.beq_iff.1 eb;subst this;rw [hl] at hl';cases hl';have e3:Nat.beq o o'=((⟨l.blk,l.base+o,none⟩:Addr)==⟨l.blk,l.base+o',none⟩):=by
         rw [jH];simp [DC]
        simp only [Op.equalIn,aU,bU hu,cI,iG hs];simp [sameAddr,e3]
       | false=>
        rw [eb] at he;simp only [kV] at he;have a7:b≠b':=fun h=>by rw [Id.beq_iff.2 h] at eb;cases eb
        cases hf:uO h b with
        |none=>rw [hf] at he;cases he
        | some f=>
         cases hf':uO h b' with
         |none=>rw [hf,hf'] at he;cases he
         | some f'=>
          rw [hf,hf'] at he;simp only at he;cases ef:Id.beq f f' with
          |true=>rw [ef] at he;cases he
          | false=>
           rw [ef] at he;cases he;obtain⟨sz,els,ty1,hb,hz⟩:=RD hf;obtain⟨b2,els',ty2,hb',a4⟩:=RD hf';obtain⟨l1,hl1,C,t1,fz,hc⟩:=k.obj _ _ hb;obtain⟨l2,hl2,C',t2,fz',hc'⟩:=k.obj _ _ hb';rw [hl] at hl1;cases hl1;rw [hl'] at hl2;cases hl2;have a6:l.blk≠l'.blk:=fun a2=>by
            have:f=f':=k.sep b b' _ _ l l' hb hb' hl hl' a7 a2;rw [Id.beq_iff.2 this] at ef;cases ef
           have:=YW (P:=P) (a:=⟨l.blk,l.base+o,none⟩) (b:=⟨l'.blk,l'.base+o',none⟩) a6 hc.at_ hc'.at_ (hc.plain rfl hz) (hc'.plain rfl a4);simp only [Op.equalIn,aU,bU hu,cI,iG hs];simp [this]
      ·cases he
   case struct fs=>
    cases hst:P.stoodInHeld t with
    |true=>rw [hst] at he;cases he
    | false=>
     rw [hst] at he;simp only [kV] at he;have a5:∃xs ys,x= .agg xs∧y= .agg ys:=by
      cases hfs:fs.toList with
      |nil=>
       rw [hfs] at he;unfold uR at he;simp only at he;split at he
       ·exact⟨_,_,rfl,rfl⟩
       ·cases he
      | cons f fs'=>
       rw [hfs] at he;unfold uR at he;split at he
       ·cases he
       ·split at he
        ·cases he
        ·simp only at he;split at he
         ·exact⟨_,_,rfl,rfl⟩
         ·cases he
     obtain⟨xs,ys,rfl,rfl⟩:=a5;obtain⟨xs',rfl,hxs,sx⟩:=nZ hx;obtain⟨a3,rfl,hys,sy⟩:=nZ hy;have a9:P.fieldsOf t=fs:=by simp [Program.fieldsOf,hu]
     rw [run_equalIn_struct w D t _ _ (by rw [a9];exact hu) hst,a9];exact RK k (fun t x y ux uy r hx hy hq=>ih t D (by omega) x y ux uy r hx hy hq) fs.toList hxs hys sx sy he
   case array len el=>
    cases hn:bJ P el with
    |none=>rw [hn] at he;cases he
    | some n=>
     rw [hn] at he;simp only at he;split at he
     ·rename_i xs ys;obtain⟨xs',rfl,hxs,sx⟩:=nZ hx;obtain⟨a3,rfl,hys,sy⟩:=nZ hy;obtain⟨ds,hds⟩:=tS hn;have hz:∀l:List V,eF (0*n) l=l:=by intro l;rw [iQ];simp
      have:=RN (P:=P) k hds hn (fun x y ux uy r hx hy hq=>ih el D (by omega) x y ux uy r hx hy hq) hxs hys sx sy len 0 (r:=r) (by rw [hz,hz];exact he);rw [ZA D t len el n _ _ hu hn];exact this
     ·cases he
   case slice e=>
    split at he<;>(try (cases he;done))<;>cases he<;>simp only [R] at hx hy
    ·subst hx;subst hy;simp [Op.equalIn,bU hu]
    ·subst hx;obtain⟨l,cap,_,rfl,_⟩:=hy;simp [Op.equalIn,bU hu]
    ·subst hy;obtain⟨l,cap,_,rfl,_⟩:=hx;simp [Op.equalIn,bU hu]
    ·subst hy;obtain⟨l,cap,rfl⟩:=hx;simp [Op.equalIn,bU hu]
    ·subst hx;obtain⟨l,cap,rfl⟩:=hy;simp [Op.equalIn,bU hu]
end
section
variable {P:Program} {m:Mp} {w:Wo}
def qX (em:Bool) (d:Nat) (xs:Array Value):List Field→Sem Unit
 | []=>pure ()
 | f::fs=>if f.name≠ "_" then do
   let a←part f.type xs f.offset
   Instr.checkKey em d f.type a
   qX em d xs fs
  else qX em d xs fs
def ZB (em:Bool) (d:Nat) (t:TypeId) (fs:Array Field) (xs:Array Value) (ht:P.underlying t=some (.struct fs)):
  (Instr.checkKey em (d+1) t (.agg xs)).run P w=(qX em d xs fs.toList).run P w:=by
 simp only [Instr.checkKey,aU,bU ht,cI];rw [←Array.forIn_toList];generalize fs.toList=l;clear ht
 induction l generalizing w with
 |nil=>simp [qX]
 | cons f l ih=>
  simp only [WB,qX,aU,yK];split
  ·generalize (part f.type xs f.offset).run P w=r1;cases r1 with
   |ok a w1=>
    simp only [cI];generalize (Instr.checkKey em d f.type a).run P w1=r2;cases r2 with
    |ok b w2=>simp only [cI,cC];exact ih (w:=w2)
    |halt x w2=>simp [Result.andThen]
   |halt x w1=>simp [Result.andThen]
  ·simp only [cC,cI];exact ih
def sP (em:Bool) (d:Nat) (el:TypeId) (n:Nat) (xs:Array Value):List Nat→Sem Unit
 | []=>pure ()
 |i::is=>do
  let a←part el xs (i*n)
  Instr.checkKey em d el a
  sP em d el n xs is
def ZC (em:Bool) (d:Nat) (t:TypeId) (len:Nat) (el:TypeId) (n:Nat) (xs:Array Value) (ht:P.underlying t=some (.array len el)) (hn:bJ P el=some n):
  (Instr.checkKey em (d+1) t (.agg xs)).run P w=(sP em d el n xs (List.range' 0 len)).run P w:=by
 simp only [Instr.checkKey,aU,bU ht,cI,Ka,Std.Legacy.Range.size,DB,Kg,IX];generalize List.range' 0 len=is;clear ht
 induction is generalizing w with
 |nil=>simp [sP]
 | cons i is ih=>
  simp only [WB,sP,aU,iG hn,cI];generalize (part el xs (i*n)).run P w=r1;cases r1 with
  |ok a w1=>
   simp only [cI];generalize (Instr.checkKey em d el a).run P w1=r2;cases r2 with
   |ok b w2=>simp only [cI,cC];exact ih (w:=w2)
   |halt x w2=>simp [Result.andThen]
  |halt x w1=>simp [Result.andThen]
def SO {em:Bool} {q:TypeId→CkT} {D:Nat} (hq:∀t x ux,R m x ux→(q t).run x=true→(Instr.checkKey em D t ux).run P w= .ok () w):
  ∀(fs:List Field) {xs:List V} {xs':Lv},Rl m xs xs'→(∀x∈xs',dR x)→(uV P q fs).run (.agg xs)=true→(qX em D ⟨xs'⟩ fs).run P w= .ok () w
 | [],xs,xs',_,_,_=>by simp [qX]
 | f ::fs,xs,xs',hx,sx,he=>by
  unfold uV at he;split at he
  ·cases he
  ·rename_i a1;cases hs:bJ P f.type with
   |none=>rw [hs] at he;cases he
   | some n=>
    rw [hs] at he;simp only [wS] at he;cases ha:lD (eV P f.type) f.offset n xs with
    |none=>rw [ha] at he;cases he
    |some a=>
     rw [ha] at he;simp only [aN] at he;obtain⟨d,hd⟩:=tS hs;obtain⟨ua,hua,ra⟩:=rU (w:=w) hd hs hx sx ha;have h1:=hq f.type a ua ra he.1;have ih:=SO hq fs hx sx he.2;simp [qX,a1,hua,h1,ih]
def SP {em:Bool} {q:CkT} {D:Nat} {el:TypeId} {n:Nat} {d:TypeDesc} (hd:P.underlying el=some d) (hn:bJ P el=some n)
  (hq:∀x ux,R m x ux→q.run x=true→(Instr.checkKey em D el ux).run P w= .ok () w) {X:List V} {X':Lv} (hX:Rl m X X') (sX:∀x∈X',dR x):
  ∀(c i:Nat),ckAs q (eV P el) n c (eF (i*n) X)=true→(sP em D el n ⟨X'⟩ (List.range' i c)).run P w= .ok () w
 |0,i,_=>by simp [sP]
 | c+1,i,he=>by
  unfold ckAs at he;simp only [wS] at he;cases ha:lD (eV P el) (i*n) n X with
  |none=>rw [ha] at he;cases he
  | some a=>
   rw [ha] at he;simp only [aN] at he;obtain⟨ua,hua,ra⟩:=rU (w:=w) hd hn hX sX ha;have e1:eF n (eF (i*n) X)=eF ((i+1)*n) X:=by
    rw [iQ,iQ,iQ,yV];congr 1;rw [gY]
   rw [e1] at he;have h1:=hq a ua ra he.1;have ih:=SP hd hn hq hX sX c (i+1) he.2;simp [vM,sP,hua,h1,ih]
def SN {em:Bool}:∀(d:Nat) (t:TypeId) (D:Nat),d≤D→∀x ux,R m x ux→(ckT P d t).run x=true→(Instr.checkKey em D t ux).run P w= .ok () w
 |0,t,D,_,x,ux,_,he=>by cases he
 |d+1,t,0,hD,_,_,_,_=>by omega
 | d + 1,t,D+1,hD,x,ux,hx,he=>by
  have ih:=SN (em:=em) d;unfold ckT at he;cases hu:P.underlying t with
  |none=>rw [hu] at he;cases he
  | some ds=>
   rw [hu] at he;cases ds<;>simp only at he<;>(try (cases he;done))
   case struct fs=>
    have a2:∃xs,x= .agg xs:=by
     cases hfs:fs.toList with
     |nil=>
      rw [hfs] at he;unfold uV at he;simp only at he;split at he
      ·exact⟨_,rfl⟩
      ·cases he
     | cons f fs'=>
      rw [hfs] at he;unfold uV at he;split at he
      ·cases he
      ·split at he
       ·cases he
       ·simp only at he;split at he
        ·exact⟨_,rfl⟩
        ·cases he
    obtain⟨xs,rfl⟩:=a2;obtain⟨xs',rfl,hxs,sx⟩:=nZ hx;rw [ZB em D t fs _ hu];exact SO (fun t x ux hx hq=>ih t D (by omega) x ux hx hq) fs.toList hxs sx he
   case array len el=>
    cases hn:bJ P el with
    |none=>rw [hn] at he;cases he
    | some n=>
     rw [hn] at he;simp only at he;split at he
     ·rename_i xs;obtain⟨xs',rfl,hxs,sx⟩:=nZ hx;obtain⟨ds,hds⟩:=tS hn;rw [ZC em D t len el n _ hu hn];have hz:eF (0*n) xs=xs:=by rw [iQ];simp
      exact SP hds hn (fun x ux hx hq=>ih el D (by omega) x ux hx hq) hxs sx len 0 (by rw [hz];exact he)
     ·cases he
   all_goals simp [Instr.checkKey,bU hu]
def bP.length:∀{es:List Ent} {xs:List MapEntry},bP m es xs→xs.length=es.length
 | [],_,k=>by simp only [bP] at k;subst k;rfl
 |e::es,_,k=>by obtain⟨x,xs,rfl,_,h⟩:=k;simp [bP.length h]
def bP.get:∀{es:List Ent} {xs:List MapEntry},bP m es xs→∀{i:Nat} {e:Ent},es[i]?=some e→∃x,xs[i]?=some x∧EntR m e x
 | [],_,_,i,e,h=>by simp at h
 |a::es,_,k,i,e,h=>by
  obtain⟨x,xs,rfl,hx,hxs⟩:=k;cases i with
  |zero=>simp at h;subst h;exact⟨x,rfl,hx⟩
  |succ i=>simp at h ⊢;exact bP.get hxs h
def QW {h:H} (k:HR m h w) {kt:TypeId} {key:V} {a0:Value} (hk:R m key a0):
  ∀(es:List Ent) (xs:List MapEntry) (i:Nat) {r:Option (Nat × Ent)},bP m es xs→BU (eqT P 20 kt) h key es i=some r→
   (Instr.findAsking kt a0 xs i).run P w= .ok (r.map fun x=>(x.1,(xs.getD (x.1-i) default).val)) w∧(∀x,r=some x→i≤x.1∧es[x.1-i]?=some x.2)
 | [],xs,i,r,hx,he=>by
  simp only [bP] at hx;subst hx;have:none=r:=aK he;subst this;simp [Instr.findAsking]
 | e ::es,xs,i,r,hx,he=>by
  obtain⟨x,xs',rfl,hx1,hxs⟩:=hx;unfold BU at he;cases hq:(eqT P 20 kt).run h key e.key with
  |none=>rw [hq] at he;cases he
  | some b=>
   rw [hq] at he;have a3:(Op.equal kt a0 x.key).run P w= .ok b w:=GJ k 20 kt 10000 (by omega) key e.key a0 x.key b hk hx1.1 hq;cases b with
   |true=>
    have:some (i,e)=r:=aK he;subst this;refine⟨by simp [Instr.findAsking,a3],?_⟩;intro y hy;cases hy;simp
   | false=>
    obtain⟨a5,ih2⟩:=QW k hk es xs' (i+1) hxs he;refine⟨?_,?_⟩
    ·simp only [Instr.findAsking,aU,a3,cI,eH,gX,a5];cases r with
     |none=>rfl
     |some y=>
      have:=(ih2 y rfl).1;have e1:y.1-i=(y.1-(i+1))+1:=by omega
      simp [e1]
    ·intro y hy;obtain⟨h1,h2⟩:=ih2 y hy;have e1:y.1-i=(y.1-(i+1))+1:=by omega
     exact⟨by omega,by rw [e1];simpa using h2⟩
def YT (hu:P.underlying kt=some ds) {k k':Value} {b:Bool} (hb:Instr.sameNow ds k k'=some b):(Op.equal kt k k').run P w= .ok b w:=by
 unfold Instr.sameNow at hb;split at hb
 ·rename_i kk k1 a k2 b';split at hb
  ·rename_i a4;subst a4;cases hb;exact run_equalIn_int w 9999 kt k1 kk a b' hu
  ·cases hb
 ·rename_i a b';cases hb;rw [beq_toListBytes];exact UU w 9999 kt a b' hu
 ·rename_i a b';cases hb;exact run_equalIn_bool' w 9999 kt a b' hu
 ·cases hb
def QY {kt:TypeId} {ds:TypeDesc} (hu:P.underlying kt=some ds) {k:Value}:∀(xs:List MapEntry) (i:Nat) {r:Option (Nat × Value)},Instr.findNow ds k xs i=some r→(Instr.findAsking kt k xs i).run P w= .ok r w
 | [],i,r,h=>by
  have:none=r:=aK h;subst this;simp [Instr.findAsking]
 | x::xs,i,r,h=>by
  unfold Instr.findNow at h;have same:∀b,Instr.sameNow ds k x.key=some b→(Op.equal kt k x.key).run P w= .ok b w:=fun b hb=>YT hu hb
  split at h
  ·rename_i hb;have:some (i,x.val)=r:=aK h;subst this;simp [Instr.findAsking,same _ hb]
  ·rename_i hb;simp [Instr.findAsking,same _ hb,QY hu xs (i+1) h]
  ·cases h
def Ey (hu:P.underlying kt=some ds) {k:Value} {xs:List MapEntry}:(Instr.findKey kt k xs).run P w=(Instr.findAsking kt k xs 0).run P w:=by
 simp only [Instr.findKey,aU,bU hu,cI];split
 ·rename_i r hr;rw [QY hu xs 0 hr];rfl
 ·rfl
end
section
variable {P:Program} {m:Mp} {w:Wo}
def pE {h:H} (k:HR m h w) {b:Id} {es:List Ent} {c:Nat} (he:iH h b=some (es,c)):
  ∃l es',aB b h.mem=some (.map es c)∧m b=some l∧w.heap[l.blk]?=some (.map ⟨es'⟩ c)∧bP m es es':=by
 unfold iH at he;split at he
 ·rename_i a6 c0 hb;cases he;obtain⟨l,hl,es',h1,h2⟩:=k.obj _ _ hb;exact⟨l,es',hb,hl,h1,h2⟩
 ·cases he
def GG {h:H} (k:HR m h w) {kt:TypeId} {key:V} {a0:Value} (hk:R m key a0) {es:List Ent} {xs:List MapEntry} {r:Option (Nat × Ent)} (hx:bP m es xs)
  (he:qS P kt h key es=some r) (em:Bool):
  (Instr.checkKey em 10000 kt a0).run P w= .ok () w∧(Instr.findKey kt a0 xs).run P w= .ok (r.map fun x=>(x.1,(xs.getD x.1 default).val)) w∧
   (∀x,r=some x→es[x.1]?=some x.2∧∃y,xs[x.1]?=some y∧EntR m x.2 y):=by
 unfold qS at he;cases hc:(ckT P 20 kt).run key with
 |false=>rw [hc] at he;cases he
 | true=>
  rw [hc] at he;simp only [cS] at he;have hu:∃ds,P.underlying kt=some ds:=by
   unfold ckT at hc;cases hu:P.underlying kt with
   |none=>rw [hu] at hc;cases hc
   |some ds=>exact⟨ds,rfl⟩
  obtain⟨ds,hu⟩:=hu;obtain⟨h1,h2⟩:=QW k hk es xs 0 hx he;refine⟨SN 20 kt 10000 (by omega) key a0 hk hc,?_,?_⟩
  ·rw [Ey hu,h1];simp
  ·intro x a4;obtain⟨_,h3⟩:=h2 x a4;simp at h3;exact⟨h3,hx.get h3⟩
def run_getMap {b:Nat} {xs:List MapEntry} (hb:w.heap[b]?=some (.map ⟨xs⟩ c)):(getObj b).run P w= .ok (.map ⟨xs⟩ c) w:=by
 simp [getObj,Sem.run,hb]
def OT {h:H} (k:HR m h w) {t kt et:TypeId} {z:V} {ok:Bool} {key:V} {a0:Value} {es:List Ent} {xs:List MapEntry} {v:V} {x:Value}
  (hu:P.underlying t=some (.map kt et)) (hz:fY P et=some z) (hk:R m key a0) (hx:bP m es xs)
  (a3:(∃b c,x= .map (some b)∧w.heap[b]?=some (.map ⟨xs⟩ c))∨(x= .map none∧xs= []))
  (hv:AS P kt z ok h key es=some v):∃u,(Instr.lookup t x a0 ok).run P w= .ok u w∧R m v u:=by
 obtain⟨uz,hzr,hzc,_⟩:=lW (w:=w) hz;unfold AS at hv;cases hf:qS P kt h key es with
 |none=>rw [hf] at hv;cases hv
 | some r=>
  rw [hf] at hv;obtain⟨h1,h2,h3⟩:=GG k hk hx hf xs.isEmpty;have a1:(⟨xs⟩:Array MapEntry).isEmpty=xs.isEmpty:=by cases xs<;>rfl
  cases r with
  | none=>
   have a2:some (if ok then V.tup [z,.b false] else z)=some v:=hv;cases a2;refine⟨if ok then .tuple #[uz,.bool false] else uz,?_,?_⟩
   ·rcases a3 with⟨b,c,rfl,hb⟩|⟨rfl,rfl⟩
    ·simp only [Instr.lookup,aU,bU hu,cI,run_getMap hb,a1,h1,h2,IN,hzr,cC]
    ·simp only [Instr.lookup,aU,bU hu,cI,a1,h1,h2,IN,hzr,cC]
   ·cases ok
    ·simpa [hzc] using sO m uz
    ·simp only [if_true,R,Rl];exact⟨_,rfl,_,_,rfl,by rw [hzc];exact sO m uz,_,_,rfl,rfl,rfl⟩
  | some p=>
   obtain⟨i,e⟩:=p;obtain⟨a7,y,hy,hye⟩:=h3 _ rfl;simp only at hy;have a5:(xs.getD i default).val=y.val:=by simp [WA,hy]
   have a2:some (if ok then V.tup [e.val,.b true] else e.val)=some v:=hv;cases a2;refine⟨if ok then .tuple #[y.val,.bool true] else y.val,?_,?_⟩
   ·rcases a3 with⟨b,c,rfl,hb⟩|⟨rfl,rfl⟩
    ·simp only [Instr.lookup,aU,bU hu,cI,run_getMap hb,a1,h1,h2,rD,a5,cC]
    ·simp at hy
   ·cases ok
    ·simpa using hye.2.1
    ·simp only [if_true,R,Rl];exact⟨_,rfl,_,_,rfl,hye.2.1,_,_,rfl,rfl,rfl⟩
end
section
variable {P:Program} {m:Mp} {w:Wo}
def qZ {e:Env} (k:aY m n e a) (hg:Gl P m) {x:Option Operand} {d:Nat} {f:Nat→Option V} {v:V} (hx:∀y,x=some y→cT P n y=true)
  (h:bnd x d e f=some v):∃j,f j=some v∧((x=none∧j=d)∨∃y kk,x=some y∧a.eval y= .int kk (.ofNat j)):=by
 cases x with
 |none=>exact⟨d,h,.inl ⟨rfl,rfl⟩⟩
 |some y=>
  obtain⟨kk,j,hj,hf⟩:=CT h;have:=cV k hg (hx y rfl);rw [hj] at this;simp only [R] at this;exact⟨j,hf,.inr ⟨y,kk,rfl,this⟩⟩
def CI {lo hi:Option Value} (hl:lo=none∧l=0∨∃k,lo=some (.int k (.ofNat l))) (hh:hi=none∧h=len∨∃k,hi=some (.int k (.ofNat h)))
  (h1:l≤h) (h2:h≤len) (h3:len≤cap):(Instr.sliceBounds isS len cap lo hi none).run P w= .ok (l,h,cap) w:=by
 have hb:∀(k:IntKind) (j y:Nat) (c:BoundsCode),j≤y→(Instr.sliceBound (.int k (j:Int)) y c).run P w= .ok j w:=by
  intro k j y c hj;have:(0:Int)≤(j:Int)∧(j:Int)≤(y:Int):=⟨by omega,by omega⟩;simp only [Instr.sliceBound,asIntOf,aU,cC,cI,this,and_self,if_true];rfl
 rcases hl with⟨rfl,rfl⟩|⟨k1,rfl⟩<;>rcases hh with⟨rfl,rfl⟩|⟨k2,rfl⟩
 ·simp [Instr.sliceBounds]
 ·simp [Instr.sliceBounds,hb k2 h cap _ (by omega)]
 ·simp [Instr.sliceBounds,hb k1 l _ _ h1]
 ·simp [Instr.sliceBounds,hb k1 l _ _ h1,hb k2 h cap _ (by omega)]
def YA {e:Env} (k:aY m n e a) (hg:Gl P m) {t:TypeId} {x:Operand} {lo hi:Option Operand} (hx:cT P n x=true)
  (a4:∀y,lo=some y→cT P n y=true) (a3:∀y,hi=some y→cT P n y=true) {hh:H} {v:V} (hv:(DT P t x lo hi).run e hh=some v):
  ∃u,(Instr.sliceAt t (a.eval x) (lo.map a.eval) (hi.map a.eval) none).run P w= .ok u w∧R m v u:=by
 have hX:=cV k hg hx;have conv:∀{z:Option Operand} {d j:Nat},((z=none∧j=d)∨∃y kk,z=some y∧a.eval y= .int kk (.ofNat j))→(z.map a.eval=none∧j=d∨∃kk,z.map a.eval=some (.int kk (.ofNat j))):=by
  rintro z d j (⟨rfl,rfl⟩|⟨y,kk,rfl,h⟩)
  ·exact .inl ⟨rfl,rfl⟩
  ·exact .inr ⟨kk,by simp [h]⟩
 have a0:∀{sz b o len z:_} {el:TypeId} (u:Value),R m (.sl b o len z) u→z=sz+1→bJ P el=some (sz+1)→KU (sz+1) lo hi e b o len z=some v→
   ∃j i ll cap,m b=some ll∧u= .slice (some ⟨ll.blk,ll.base+o,none⟩) len cap∧i≤j∧j≤len∧len≤cap∧
    (lo.map a.eval=none∧i=0∨∃kk,lo.map a.eval=some (.int kk (.ofNat i)))∧(hi.map a.eval=none∧j=len∨∃kk,hi.map a.eval=some (.int kk (.ofNat j)))∧
    R m v (.slice (some (if cap=i then⟨ll.blk,ll.base+o,none⟩ else⟨ll.blk,ll.base+o+i*(sz+1),none⟩)) (j-i) (cap-i)):=by
  intro sz b o len z el u hu hz hs hv;subst hz;obtain⟨j,hv,hj⟩:=qZ k hg a3 hv;obtain⟨i,hv,hi'⟩:=qZ k hg a4 hv;obtain⟨hc,hv⟩:=kI hv;simp only [aN] at hc;have h1:=cQ hc.1;have h2:=cQ hc.2;simp only [R] at hu;obtain⟨ll,cap,hll,rfl,hlc,hlim⟩:=hu;refine⟨j,i,ll,cap,hll,rfl,h1,h2,hlc,conv hi',conv hj,?_⟩;rcases pA hv with⟨hb,hv⟩|⟨hb,hv⟩
  ·cases hv;simp only [aN] at hb;have:i=j:=aT hb.1;subst this;simp only [R,pN];exact⟨_,_,rfl⟩
  ·cases hv;have a7:cap=i→i=0:=by
    intro a2;simp only [Lh] at hb;rcases hb with hb|hb
    ·have:i=j:=by omega
     rw [this] at hb;simp at hb
    ·simpa using hb
   simp only [R];refine⟨ll,cap-i,hll,?_,by show j-i≤cap-i;omega,?_⟩
   ·show Value.slice _ _ _=Value.slice _ _ _
    by_cases a2:cap=i
    ·have:=a7 a2;subst this;simp [a2]
    ·simp only [if_neg a2];have e1:Nat.add o (Nat.mul i (sz+1))=o+i*(sz+1):=rfl;have e2:Nat.sub j i=j-i:=rfl;rw [e1,e2,mU]
   ·show o+i*(sz+1)+(cap-i)*(sz+1)≤ll.lim;have:i*(sz+1)+(cap-i)*(sz+1)=cap*(sz+1):=by
     rw [←dP];congr 1;omega
    omega
 unfold DT at hv;cases hu:P.underlying t with
 |none=>rw [hu] at hv;cases hv
 | some ds=>
  rw [hu] at hv;cases ds<;>simp only at hv<;>(try (cases hv;done))
  case string=>
   obtain⟨len,c,hs,hv⟩:=yC hv;rw [hs] at hX;obtain⟨j,hv,hj⟩:=qZ k hg a3 hv;obtain⟨i,hv,hi'⟩:=qZ k hg a4 hv;obtain⟨hc,hv⟩:=kI hv;cases hv;simp only [aN] at hc;have h1:=cQ hc.1;have h2:=cQ hc.2;rw [R_str] at hX;obtain⟨s,hse,hb,hc2⟩:=hX;have a8:=wA hb;have hr:=CI (P:=P) (w:=w) (isS:=false) (len:=s.size) (cap:=s.size) (conv hi') (by rw [a8];exact conv hj) h1 (by omega) (aA _);refine⟨.string (s.extract i j),?_,XZ hb h1 h2⟩;rw [hse];simp [Instr.sliceAt,bU hu,Instr.slice,hr]
  case slice el=>
   cases hs:bJ P el with
   |none=>rw [hs] at hv;cases hv
   | some sz=>
    cases sz with
    |zero=>rw [hs] at hv;cases hv
    | succ sz=>
     rw [hs] at hv;simp only at hv;rcases CN hv with⟨b,o,len,z,a1,hv⟩|⟨_,hv⟩
     ·rw [a1] at hX;obtain⟨hz,hv⟩:=kI hv;have hz:=aT hz;obtain⟨j,i,ll,cap,hll,hue,h1,h2,h3,hlo',hhi',hR⟩:=a0 _ hX hz hs hv;have hr:=CI (P:=P) (w:=w) (isS:=true) hlo' hhi' h1 h2 h3;refine⟨_,?_,hR⟩;rw [hue];simp [Instr.sliceAt,bU hu,Instr.slice,hr,iG hs];split<;>simp [nY]
     ·rcases HW hv with⟨a1,hv⟩|⟨_,hv⟩
      ·rw [a1] at hX;obtain⟨j,hv,hj⟩:=qZ k hg a3 hv;obtain⟨i,hv,hi'⟩:=qZ k hg a4 hv;obtain⟨hc,hv⟩:=kI hv;cases hv;simp only [aN] at hc;have a6:=aT hc.1;have a5:=aT hc.2;subst a6;subst a5;simp only [R] at hX;have hr:=CI (P:=P) (w:=w) (isS:=true) (len:=0) (cap:=0) (conv hi') (conv hj) (aA _) (aA _) (aA _);refine⟨.slice none 0 0,?_,by simp [R]⟩;rw [hX];simp [Instr.sliceAt,bU hu,Instr.slice,hr,iG hs]
      ·obtain⟨a1,hv⟩:=UH hv;rw [a1] at hX;obtain⟨j,hv,hj⟩:=qZ k hg a3 hv;obtain⟨i,hv,hi'⟩:=qZ k hg a4 hv;obtain⟨hc,hv⟩:=kI hv;cases hv;simp only [aN] at hc;have a6:=aT hc.1;have a5:=aT hc.2;subst a6;subst a5;simp only [R] at hX;obtain⟨ad,cap,hue⟩:=hX;have hr:=CI (P:=P) (w:=w) (isS:=true) (len:=0) (cap:=cap) (conv hi') (conv hj) (aA _) (aA _) (bX _);rw [hue];refine⟨.slice (if cap=0 then some ad else some (ad.add 0)) 0 cap,?_,?_⟩
       ·simp [Instr.sliceAt,bU hu,Instr.slice,hr,iG hs]
       ·simp only [R];split<;>exact⟨_,_,rfl⟩
end
section
variable {P:Program} {m:Mp} {w:Wo}
def GL {x y:Operand} {a b:Value} (h1:¬(a= .nilIface∧b= .nilIface)) (h2:(∀xs,a≠ .agg xs)∨P.eqGuardType P.depth t=false):
  (eqGuard op t x y a b).run P w= .ok () w:=by
 unfold eqGuard;cases op<;>first
  |rfl
  | (
    simp only [tN,eH,gX];split
    ·exact absurd ⟨rfl,rfl⟩ h1
    ·rename_i xs ys;rcases h2 with h2|h2
     ·exact absurd rfl (h2 xs)
     ·simp [h2]
    ·rfl)
def Fp {x y:Operand} (h:nL x=true∨nL y=true):(eqGuard op t x y .nilIface .nilIface).run P w= .ok () w:=by
 unfold eqGuard;cases op<;>first
  |rfl
  | (
    rcases h with h|h
    ·cases x<;>first|(cases h;done)|simp
    ·cases y<;>first|(cases h;done)|simp)
def YH {a b:Int} {v:V} (t:TypeId) (a1:op= .shl∨op= .shr) (h:zF op k a b=some v):∃u,(binOp op t (.int k a) (.int k' b)).run P w= .ok u w∧R m v u:=by
 unfold zF at h;cases hb:iLt b 0 with
 |true=>rw [hb] at h;cases h
 | false=>
  rw [hb] at h;rw [BL] at hb;have a0:¬b<0:=by simpa using hb
  rcases a1 with rfl|rfl
  ·cases h;exact⟨_,by simp only [binOp,Op.shift,a0,gX,cC];rfl,by simp [R]⟩
  ·cases h;exact⟨_,by simp only [binOp,Op.shift,a0,gX,cC];rfl,by simp [R]⟩
def JS {v:V} (h:yesO x=some v):∃b,x=some b∧v= .b b:=by cases x<;>cases h;exact⟨_,rfl,rfl⟩
def NT {v:V} (h:notO x=some v):∃b,x=some b∧v= .b (!b):=by cases x<;>cases h;exact⟨_,rfl,rfl⟩
def TU {x y:Value} (hx:∀k n,x≠ .int k n) (hs:∀s,x≠ .string s) (hf:∀k n,x≠ .float k n) (hc:∀k a b,x≠ .complex k a b) (h:(Op.equal t x y).run P w= .ok r w):
  (binOp .eql t x y).run P w= .ok (.bool r) w∧(binOp .neq t x y).run P w= .ok (.bool (!r)) w:=by
 constructor
 ·unfold binOp
  split<;>first
   |exact absurd rfl (hx _ _)
   |exact absurd rfl (hs _)
   |exact absurd rfl (hf _ _)
   |exact absurd rfl (hc _ _ _)
   |(simp [h];done)
   |(simp_all;done)
 ·unfold binOp
  split<;>first
   |exact absurd rfl (hx _ _)
   |exact absurd rfl (hs _)
   |exact absurd rfl (hf _ _)
   |exact absurd rfl (hc _ _ _)
   |(simp [h];done)
   |(simp_all;done)
end
section
variable {P:Program} {m:Mp} {w:Wo}
def An {x:V} (h:okEq x=true) (hR:R m x u):(∀k n,u≠ .int k n)∧(∀s,u≠ .string s)∧(∀k n,u≠ .float k n)∧(∀k a b,u≠ .complex k a b)∧u≠ .nilIface:=by
 cases x<;>simp only [okEq,eH] at h<;>simp only [R] at hR
 all_goals first
  |(subst hR;simp;done)
  |(obtain⟨_,rfl,_⟩:=hR;simp;done)
  |(obtain⟨_,_,rfl⟩:=hR;simp;done)
  |(obtain⟨_,_,_,rfl,_⟩:=hR;simp;done)
  |(obtain⟨_,_,rfl,_⟩:=hR;simp;done)
def Ir {e:Env} (k:aY m n e a) (hg:Gl P m) {h:H} (hr:HR m h w) {op:BinOp} {t:TypeId} {x y:Operand} (hx:cT P n x=true) (hy:cT P n y=true)
  {v:V} (hv:(binC P op t x y).run e h=some v):∃u,(do eqGuard op t x y (a.eval x) (a.eval y);binOp op t (a.eval x) (a.eval y):Sem Value).run P w= .ok u w∧R m v u:=by
 have hX:=cV k hg hx;have hY:=cV k hg hy;have a2:(eqGuard op t x y (a.eval x) (a.eval y)).run P w= .ok () w→(∃u,(binOp op t (a.eval x) (a.eval y)).run P w= .ok u w∧R m v u)→
   ∃u,(do eqGuard op t x y (a.eval x) (a.eval y);binOp op t (a.eval x) (a.eval y):Sem Value).run P w= .ok u w∧R m v u:=by
  rintro h1 ⟨u,h2,h3⟩;exact⟨u,by simp [h1,h2],h3⟩
 have a0:P.eqGuardType P.depth t=false→(op= .eql∧yesO (uQ P t h ((aE x).run e) ((aE y).run e))=some v∨op= .neq∧notO (uQ P t h ((aE x).run e) ((aE y).run e))=some v)→
   ∃u,(do eqGuard op t x y (a.eval x) (a.eval y);binOp op t (a.eval x) (a.eval y):Sem Value).run P w= .ok u w∧R m v u:=by
  intro a1 a7;have val:∀b,uQ P t h ((aE x).run e) ((aE y).run e)=some b→(eqGuard op t x y (a.eval x) (a.eval y)).run P w= .ok () w∧
    (binOp .eql t (a.eval x) (a.eval y)).run P w= .ok (.bool b) w∧(binOp .neq t (a.eval x) (a.eval y)).run P w= .ok (.bool (!b)) w:=by
   intro b hb;unfold uQ at hb;cases ho:okEq ((aE x).run e) with
   |false=>rw [ho] at hb;cases hb
   |true=>
    rw [ho] at hb;obtain⟨s1,s2,s3,s4,s5⟩:=An ho hX;have a6:=GJ hr 20 t 10000 (by omega) _ _ _ _ b hX hY hb;exact⟨GL (fun hh=>s5 hh.1) (.inr a1),TU s1 s2 s3 s4 a6⟩
  rcases a7 with⟨rfl,hv1⟩|⟨rfl,hv1⟩
  ·obtain⟨b,hb,rfl⟩:=JS hv1;obtain⟨h1,h2,h3⟩:=val b hb;exact a2 h1 ⟨_,h2,by simp [R]⟩
  ·obtain⟨b,hb,rfl⟩:=NT hv1;obtain⟨h1,h2,h3⟩:=val b hb;exact a2 h1 ⟨_,h3,by simp [R]⟩
 unfold binC at hv;cases hu:P.underlying t with
 | none=>
  rw [hu] at hv;simp only at hv;cases a1:P.eqGuardType P.depth t with
  |true=>rw [a1] at hv;cases hv
  |false=>
   rw [a1] at hv;simp only [kV] at hv;cases op<;>first|(cases hv;done)|exact a0 a1 (.inl ⟨rfl,hv⟩)|exact a0 a1 (.inr ⟨rfl,hv⟩)
 | some ds=>
  rw [hu] at hv;cases ds
  case int kk=>
   simp only at hv;have a4:∀{k1 k2:IntKind} {A B:Int},(aE x).run e= .i k1 A→(aE y).run e= .i k2 B→a.eval x= .int k1 A∧a.eval y= .int k2 B:=by
    intro k1 k2 A B h1 h2;rw [h1] at hX;rw [h2] at hY;simpa only [R] using And.intro hX hY
   have gd:∀{k1 k2:IntKind} {A B:Int},a.eval x= .int k1 A→a.eval y= .int k2 B→(eqGuard op t x y (a.eval x) (a.eval y)).run P w= .ok () w:=by
    intro k1 k2 A B h1 h2;rw [h1,h2];exact GL (by simp) (.inl (by simp))
   by_cases a3:op= .shl∨op= .shr
   ·have a5:gW ((aE x).run e) (fun k a=>gW ((aE y).run e) (fun _ b=>zF op k a b) none) none=some v:=by
     rcases a3 with rfl|rfl<;>exact hv
    obtain⟨k1,A,e1,hv1⟩:=nW a5;obtain⟨k2,B,e2,hv2⟩:=nW hv1;obtain⟨i1,i2⟩:=a4 e1 e2;refine a2 (gd i1 i2) ?_;rw [i1,i2];exact YH t a3 hv2
   ·have a5:gW ((aE x).run e) (fun k a=>gW ((aE y).run e) (fun k' b=>eE (kEq k k') ((BI op).run k a b) none) none) none=some v:=by
     cases op<;>first|exact hv|exact absurd (.inl rfl) a3|exact absurd (.inr rfl) a3
    obtain⟨k1,A,e1,hv1⟩:=nW a5;obtain⟨k2,B,e2,hv2⟩:=nW hv1;obtain⟨hk,hv3⟩:=kI hv2;obtain⟨i1,i2⟩:=a4 e1 e2;have:=(BD _ _).1 hk;subst this;refine a2 (gd i1 i2) ?_;rw [i1,i2];exact Dj t ⟨fun h=>a3 (.inl h),fun h=>a3 (.inr h)⟩ hv3
  case string=>
   simp only at hv;obtain⟨l,c,e1,hv1⟩:=yC hv;obtain⟨l',c',e2,hv2⟩:=yC hv1;rw [e1] at hX;rw [e2] at hY;refine a2 ?_ (XS t hX hY hv2);rw [R_str] at hX hY;obtain⟨s,h1,_⟩:=hX;obtain⟨s',h2,_⟩:=hY;rw [h1,h2];exact GL (by simp) (.inl (by simp))
  case interface ms=>
   simp only at hv;have val:∀b,BY t (nL x||nL y) h ((aE x).run e) ((aE y).run e)=some b→(eqGuard op t x y (a.eval x) (a.eval y)).run P w= .ok () w∧
     (binOp .eql t (a.eval x) (a.eval y)).run P w= .ok (.bool b) w∧(binOp .neq t (a.eval x) (a.eval y)).run P w= .ok (.bool (!b)) w:=by
    intro b hb;generalize a8:(aE x).run e=X at hX hb;generalize a9:(aE y).run e=Y at hY hb;unfold BY at hb;split at hb
    ·cases hc:(nL x||nL y) with
     |false=>rw [hc] at hb;cases hb
     |true=>
      rw [hc] at hb;cases hb;simp only [R] at hX hY;rw [hX,hY];refine⟨Fp (by simpa using hc),TU (by simp) (by simp) (by simp) (by simp) ?_⟩;have nn:∀D,(Op.equalIn (D+1) t .nilIface .nilIface).run P w= .ok true w:=fun D=>by simp [Op.equalIn,bU hu]
      exact nn 9999
    ·cases hb
   cases op<;>first|(cases hv;done)|skip
   ·obtain⟨b,hb,rfl⟩:=JS hv;obtain⟨h1,h2,h3⟩:=val b hb;exact a2 h1 ⟨_,h2,by simp [R]⟩
   ·obtain⟨b,hb,rfl⟩:=NT hv;obtain⟨h1,h2,h3⟩:=val b hb;exact a2 h1 ⟨_,h3,by simp [R]⟩
  all_goals
   simp only at hv;cases a1:P.eqGuardType P.depth t with
   |true=>rw [a1] at hv;cases hv
   |false=>
    rw [a1] at hv;simp only [kV] at hv;cases op<;>first|(cases hv;done)|exact a0 a1 (.inl ⟨rfl,hv⟩)|exact a0 a1 (.inr ⟨rfl,hv⟩)
end
section
variable {P:Program} {m:Mp} {w:Wo}
def NL {α:Type}:∀(l xs:List α) {r:List α},over l xs=some r→xs.length≤l.length∧r=xs++l.drop xs.length
 |l,[],r,h=>by cases l<;>(simp [over] at h;subst h;simp)
 | [],_::_,r,h=>by simp [over] at h
 | a::l,x::xs,r,h=>by
  simp only [over] at h;cases e:over l xs with
  |none=>rw [e] at h;cases h
  |some r'=>
   rw [e] at h;cases h;obtain⟨h1,rfl⟩:=NL l xs e;exact⟨by simp;omega,by simp⟩
def uD {α:Type}:∀(n:Nat) (l xs:List α) {r:List α},iB n l xs=some r→n+xs.length≤l.length∧r=l.take n++xs++l.drop (n+xs.length)
 |0,l,xs,r,h=>by
  have h':over l xs=some r:=by cases l<;>simpa [iB] using h
  obtain⟨h1,rfl⟩:=NL l xs h';exact⟨by omega,by simp⟩
 |n+1,[],xs,r,h=>by simp [iB] at h
 | n+1,a::l,xs,r,h=>by
  simp only [iB] at h;cases e:iB n l xs with
  |none=>rw [e] at h;cases h
  |some r'=>
   rw [e] at h;cases h;obtain⟨h1,rfl⟩:=uD n l xs e;refine⟨by simp;omega,?_⟩;have e1:n+1+xs.length=(n+xs.length)+1:=by omega
   rw [e1];simp
def QR (off:Nat):∀(xs:Lv) (k:Nat) (cs:Array Value),off+k+xs.length≤cs.size→
  ((xs.zipIdx k).foldl (fun cs (x:Value × Nat)=>cs.setIfInBounds (off+x.2) x.1) cs).toList=cs.toList.take (off+k)++xs++cs.toList.drop (off+k+xs.length)
 | [],k,cs,h=>by simp
 | x::xs,k,cs,h=>by
  simp only [List.zipIdx_cons,JK];simp only [eW] at h;rw [QR off xs (k+1) _ (by simp;omega)];have hl:off+k<cs.toList.length:=by simp;omega
  rw [JP];have e1:(cs.toList.set (off+k) x).take (off+(k+1))=cs.toList.take (off+k)++ [x]:=by
   rw [←mU,List.take_set,Kk hl];rw [yR _ _ (by simp;omega)];have hm:min (off+k) cs.size=off+k:=by simp at hl;omega
   simp [hm]
  have e2:(cs.toList.set (off+k) x).drop (off+(k+1)+xs.length)=cs.toList.drop (off+k+(xs.length+1)):=by
   rw [Ky (by omega)];congr 1;omega
  rw [e1,e2];simp
def Rl.over {l xs:List V} {l' xs':Lv} (hl:Rl m l l') (hx:Rl m xs xs') (n:Nat):Rl m (l.take n++xs++l.drop (n+xs.length)) (l'.take n++xs'++l'.drop (n+xs'.length)):=by
 have:=hx.length;rw [this];exact((hl.take n).append hx).append (hl.drop _)
def BV {a0:Nat→Option (Nat × Nat)}:∀(ps:List (Nat × V)) (a3:List (Nat × Value)) {cs:List V} {a2:Lv} {r:List V},(ps.map (·.1)=a3.map (·.1))→Rl m (ps.map (·.2)) (a3.map (·.2))→
  Rl m cs a2→(∀x∈a2,dR x)→iT a0 cs ps=some r→∃r',Instr.fill a0 ⟨a2⟩ a3=some ⟨r'⟩∧Rl m r r'∧∀x∈r',dR x
 | [],a3,cs,a2,r,h1,_,hc,hs,hb=>by
  have:a3= []:=by cases a3 with|nil=>rfl|cons _ _=>simp at h1
  subst this;have:cs=r:=aK (by simpa [iT] using hb);subst this;exact⟨a2,by simp [Instr.fill],hc,hs⟩
 | (i,v)::ps,a3,cs,a2,r,h1,h2,hc,hs,hb=>by
  cases a3 with
  |nil=>simp at h1
  | cons p a3=>
   obtain⟨i',u⟩:=p;simp only [fS,iZ] at h1;obtain⟨rfl,h1⟩:=h1;simp only [fS,Rl] at h2;obtain⟨u',us,he,hv,h2⟩:=h2;simp only [iZ] at he;obtain⟨rfl,rfl⟩:=he;unfold iT at hb;cases hp:a0 i with
   |none=>rw [hp] at hb;cases hb
   | some p=>
    obtain⟨off,sz⟩:=p;rw [hp] at hb;simp only at hb;cases hq:dV v with
    |none=>rw [hq] at hb;cases hb
    | some c=>
     rw [hq] at hb;simp only at hb;obtain⟨c',hc1,hc2,hc3⟩:=xT hv hq;cases a1:Nat.beq (eJ c) sz with
     |false=>rw [a1] at hb;cases hb
     | true=>
      rw [a1] at hb;simp only [cS] at hb;have a1:=aT a1;rw [kH] at a1;cases ho:iB off cs c with
      |none=>rw [ho] at hb;cases hb
      | some cs2=>
       rw [ho] at hb;simp only at hb;obtain⟨b3,rfl⟩:=uD _ _ _ ho;have b1:=hc.length;have b2:=hc2.length;have a5:=QR off c' 0 ⟨a2⟩ (by show off+0+c'.length≤a2.length;omega);obtain⟨r',hr1,hr2,hr3⟩:=BV ps a3 h1 h2 (hc.over hc2 off) (by
        intro x hx;simp only [cG] at hx;rcases hx with(hx|hx)|hx
        ·exact hs x (jS hx)
        ·exact hc3 x hx
        ·exact hs x (rI hx)) hb
       refine⟨r',?_,hr2,hr3⟩;unfold Instr.fill;simp only [hp,hc1];have a9:(decide ((⟨c'⟩:Array Value).size≠sz)||decide (off+(⟨c'⟩:Array Value).size>(⟨a2⟩:Array Value).size))=false:=by
        simp only [Lg,vI];exact⟨by show¬c'.length≠sz;omega,by show¬(off+c'.length>a2.length);omega⟩
       rw [if_neg (by rw [a9];simp)];rw [←hr1];congr 1;apply kY.1;rw [←Array.foldl_toList];have:(⟨c'⟩:Array Value).zipIdx.toList=c'.zipIdx 0:=by simp
       rw [this,a5];simp
def zZ {n:Nat} {e:Env} {a:Act} (k:aY m n e a) (hg:Gl P m):∀{ps:List (Nat × Operand)},(ps.map (·.2)).all (cT P n)=true→
  ((lE ps).run e).map (·.1)=(ps.map fun x=>(x.1,a.eval x.2)).map (·.1)∧Rl m (((lE ps).run e).map (·.2)) ((ps.map fun x=>(x.1,a.eval x.2)).map (·.2))
 | [],_=>by simp [lE,Rl]
 |(i,x)::ps,h=>by
  simp only [fS,mX,aN] at h;obtain⟨h1,h2⟩:=zZ k hg h.2;simp only [lE,fS,iZ,yG,Rl];exact⟨h1,_,_,⟨rfl,rfl⟩,cV k hg h.1,h2⟩
def NR:∀(l:List (Nat × Nat)) (i:Nat),nthP l i=l[i]?
 | [],i=>by cases i<;>rfl
 |a::l,0=>rfl
 |a::l,i+1=>by rw [nthP,NR l i];rfl
def NI:∀(fs:List Field) (pl:List (Nat × Nat)),rT P fs=some pl→fs.mapM (fun f=>(P.info? f.type).map fun i=>(f.offset,i.size))=some pl
 | [],pl,h=>by simp [rT] at h;subst h;simp
 | f::fs,pl,h=>by
  unfold rT at h;cases hn:bJ P f.type with
  |none=>rw [hn] at h;cases h
  | some n=>
   cases hl:rT P fs with
   |none=>rw [hn,hl] at h;cases h
   |some l=>
    rw [hn,hl] at h;cases h;obtain⟨i,hi,rfl⟩:=rP hn;simp [List.mapM_cons,hi,NI fs l hl]
def qW {l:List V} (h:dV (cst z)=some l):∃l',z.cells=⟨l'⟩∧Rl m l l'∧∀x∈l',dR x:=xT (sO m z) h
def Ih {e:Env} (k:aY m n e a) (hg:Gl P m) {t:TypeId} {ps:Array (Nat × Operand)} (hx:(ps.toList.map (·.2)).all (cT P n)=true) {h:H} {v:V}
  (hv:(HJ P t ps.toList).run e h=some v):∃u,(Instr.build t (ps.map fun(i,x)=>(i,a.eval x))).run P w= .ok u w∧R m v u:=by
 obtain⟨p1,p2⟩:=zZ k hg hx;have a8:(ps.map fun(i,x)=>(i,a.eval x)).toList=ps.toList.map fun x=>(x.1,a.eval x.2):=by simp
 unfold HJ at hv;cases hz:fY P t with
 |none=>rw [hz] at hv;cases hv
 | some z=>
  cases hu:P.underlying t with
  |none=>rw [hz,hu] at hv;cases hv
  | some ds=>
   rw [hz,hu] at hv;obtain⟨uz,hzr,rfl,it,hit,hzi⟩:=lW (w:=w) hz;have a7:∀(a0:Nat→Option (Nat × Nat)) (zc:List V),dV (cst uz)=some zc→mO (iT a0 zc ((lE ps.toList).run e))=some v→(∀r',Instr.fill a0 uz.cells (ps.toList.map fun x=>(x.1,a.eval x.2))=some r'→P.built t (ps.map fun(i,x)=>(i,a.eval x)).toList=some r')→
     ∃u,(Instr.build t (ps.map fun(i,x)=>(i,a.eval x))).run P w= .ok u w∧R m v u:=by
    intro a0 zc a4 hv hb;obtain⟨l,hl,rfl⟩:=IG hv;obtain⟨b4,hz1,hz2,hz3⟩:=qW (m:=m) a4;obtain⟨r',hr1,hr2,hr3⟩:=BV _ _ p1 p2 hz2 hz3 hl;rw [←hz1] at hr1;exact⟨.agg ⟨r'⟩,run_build w t _ _ (hb _ hr1),by simp only [R];exact⟨r',rfl,hr2,hr3⟩⟩
   cases ds<;>simp only at hv<;>(try (cases hv;done))
   case struct fs=>
    cases a4:dV (cst uz) with
    |none=>rw [a4] at hv;cases hv
    | some zc=>
     rw [a4] at hv;simp only at hv;cases hp:rT P fs.toList with
     |none=>rw [hp] at hv;cases hv
     | some pl=>
      rw [hp] at hv;simp only at hv;refine a7 (fun i=>pl[i]?) zc a4 ?_ ?_
      ·rw [show(fun i=>pl[i]?)=nthP pl from funext fun i=>(NR pl i).symm];exact hv
      ·intro r' a6;rw [a8];have b0:fs.toList.mapM (fun f=>(P.info? f.type).map fun i=>(f.offset,i.size))=some pl:=NI _ _ hp;simp only [Program.built,hit,hu,hzi,b0];simpa using a6
   case array len el=>
    cases a4:dV (cst uz) with
    |none=>rw [a4] at hv;cases hv
    | some zc=>
     rw [a4] at hv;simp only at hv;cases hn:bJ P el with
     |none=>rw [hn] at hv;cases hv
     |some sz=>
      rw [hn] at hv;simp only at hv;obtain⟨ie,hie,rfl⟩:=rP hn;refine a7 (fun i=>some (i*ie.size,ie.size)) zc a4 hv ?_;intro r' a6;rw [a8];simp only [Program.built,hit,hu,hzi,hie];exact a6
end
section
variable {P:Program} {m:Mp} {w:Wo}
def R_p {b:Id} (h:R m (.p b o) u):∃l,m b=some l∧u= .pointer (some ⟨l.blk,l.base+o,none⟩):=by simpa only [R] using h
def R_i {n:Int} (h:R m (.i k n) u):u= .int k n:=by simpa only [R] using h
def R_b (h:R m (.b b) u):u= .bool b:=by simpa only [R] using h
def R_tup {l:List V} (h:R m (.tup l) u):∃l',u= .tuple ⟨l'⟩∧Rl m l l':=by simpa only [R] using h
def OO:∀(l:List V) (l':Lv) {x:V} {u:Value} {v:V},R m x u→Rl m l l'→sJ max2 x l=some v→∃u',(l'.foldlM Builtin.max2 u).run P w= .ok u' w∧R m v u'
 | [],l',x,u,v,hx,hl,hv=>by
  simp only [Rl] at hl;subst hl;have:x=v:=aK hv;subst this;exact⟨u,rfl,hx⟩
 | y::l,l',x,u,v,hx,hl,hv=>by
  simp only [Rl] at hl;obtain⟨uy,us,rfl,hy,hl⟩:=hl;unfold sJ at hv;cases hm:max2 x y with
  |none=>rw [hm] at hv;cases hv
  | some z=>
   rw [hm] at hv;obtain⟨k,A,rfl,hm1⟩:=nW hm;obtain⟨k',B,rfl,hm2⟩:=nW hm1;obtain⟨hk,hm3⟩:=kI hm2;have:=(BD _ _).1 hk;subst this;cases hm3;have hu:=R_i hx;subst hu;have hu:=R_i hy;subst hu;have hz:R m (.i k (bif iLt A B then B else A)) (.int k (if B>A then B else A)):=by
    rw [BL];simp only [R]
    by_cases h:A<B<;>simp [h]
   obtain⟨u',h1,h2⟩:=OO l us hz hl hv;exact⟨u',by simp [List.foldlM_cons,Builtin.max2,h1],h2⟩
def OK:∀(l:List V) (l':Lv) {x:V} {u:Value} {v:V},R m x u→Rl m l l'→sJ min2 x l=some v→∃u',(l'.foldlM Builtin.min2 u).run P w= .ok u' w∧R m v u'
 | [],l',x,u,v,hx,hl,hv=>by
  simp only [Rl] at hl;subst hl;have:x=v:=aK hv;subst this;exact⟨u,rfl,hx⟩
 | y::l,l',x,u,v,hx,hl,hv=>by
  simp only [Rl] at hl;obtain⟨uy,us,rfl,hy,hl⟩:=hl;unfold sJ at hv;cases hm:min2 x y with
  |none=>rw [hm] at hv;cases hv
  | some z=>
   rw [hm] at hv;obtain⟨k,A,rfl,hm1⟩:=nW hm;obtain⟨k',B,rfl,hm2⟩:=nW hm1;obtain⟨hk,hm3⟩:=kI hm2;have:=(BD _ _).1 hk;subst this;cases hm3;have hu:=R_i hx;subst hu;have hu:=R_i hy;subst hu;have hz:R m (.i k (bif iLt B A then B else A)) (.int k (if B<A then B else A)):=by
    rw [BL];simp only [R]
    by_cases h:B<A<;>simp [h]
   obtain⟨u',h1,h2⟩:=OK l us hz hl hv;exact⟨u',by simp [List.foldlM_cons,Builtin.min2,h1],h2⟩
def Cu {h:H} (hr:HR m h w) {t:TypeId} {x:Operand} {n:Nat} {e:Env} {a:Act} (k:aY m n e a) (hg:Gl P m) (hx:cT P n x=true) {v:V} {ts:List TypeId} {ty:TypeId}
  (hv:(lenC P t x).run e h=some v):∃u,(Builtin.len_ ⟨t::ts⟩ ty #[a.eval x]).run P w= .ok u w∧R m v u:=by
 have hX:=cV k hg hx;have h0:(⟨t::ts⟩:Array TypeId)[0]?=some t:=by simp
 unfold lenC at hv;cases hu:P.underlying t with
 |none=>rw [hu] at hv;cases hv
 | some ds=>
  rw [hu] at hv;cases ds<;>simp only at hv<;>(try (cases hv;done))
  case string=>
   obtain⟨l,c,e1,hv⟩:=yC hv;cases hv;rw [e1,R_str] at hX;obtain⟨s,hs,hb,_⟩:=hX;have:=wA hb;exact⟨_,by rw [hs];simp [Builtin.len_,bU hu,goInt];rfl,by simp [R,this]⟩
  case slice el=>
   rcases CN hv with⟨b,o,l,z,e1,hv⟩|⟨_,hv⟩
   ·cases hv;rw [e1] at hX;simp only [R] at hX;obtain⟨ll,cap,_,hs,_⟩:=hX;exact⟨_,by rw [hs];simp [Builtin.len_,bU hu,goInt];rfl,by simp [R]⟩
   ·rcases HW hv with⟨e1,hv⟩|⟨_,hv⟩
    ·cases hv;rw [e1] at hX;simp only [R] at hX;exact⟨_,by rw [hX];simp [Builtin.len_,bU hu,goInt];rfl,by simp [R]⟩
    ·obtain⟨e1,hv⟩:=UH hv;cases hv;rw [e1] at hX;simp only [R] at hX;obtain⟨ad,cap,hs⟩:=hX;exact⟨_,by rw [hs];simp [Builtin.len_,bU hu,goInt];rfl,by simp [R]⟩
  case map kt et=>
   rcases HY hv with⟨b,e1,hv⟩|⟨_,hv⟩
   ·cases he:iH h b with
    |none=>rw [he] at hv;cases hv
    |some p=>
     obtain⟨es,c⟩:=p;rw [he] at hv;cases hv;obtain⟨l,es',_,hl,hm,hes⟩:=pE hr he;rw [e1] at hX;simp only [R] at hX;obtain⟨l2,hl2,hs⟩:=hX;rw [hl] at hl2;cases hl2;have:=hes.length;exact⟨_,by rw [hs];simp [Builtin.len_,bU hu,run_getMap hm,goInt];rfl,by simp [R,this]⟩
   ·obtain⟨e1,hv⟩:=UI hv;cases hv;rw [e1] at hX;simp only [R] at hX;exact⟨_,by rw [hX];simp [Builtin.len_,bU hu,goInt];rfl,by simp [R]⟩
end
section
variable {P:Program} {m:Mp} {w:Wo}
def SQ (h:bJ P t=some n):P.cellsOf t=n:=by
 obtain⟨i,h1,h2⟩:=rP h;simp [Program.cellsOf,h1,h2]
def PH {s cells:Nat} (hs:P.cellsOf e=s) (h0:0<s) (ho:off%s=0) (hn:off+n*s≤cells):liesAt P P.depth e (cells/P.cellsOf e) off e n=true:=by
 have hd:P.depth=(2*(P.types.size+Made.depth)+1)+1:=rfl;have h1:off/s+n≤cells/s:=by
  rw [Ke h0,dP];have:=lS off s;rw [ho,cP] at this;omega
 have h2:s≠0:=by omega
 rw [hd];simp only [liesAt,jU];left;rw [hd];simp [rowAt,hs,h2,ho,h1,sameLayout]
def ZP {h:H} (k:HR m h w) {b:Id} {o:Nat} {v:V} {l:Loc} (hl:m b=some l) (hv:rd1 h b o=some v):∃C t fz,w.heap[l.blk]?=some (.cells C t fz)∧l.base+o<C.size:=by
 unfold rd1 at hv;cases hb:aB b h.mem with
 |none=>rw [hb] at hv;cases hv
 | some ob=>
  rw [hb] at hv;cases ob with
  |map _ _=>cases hv
  |miter _ _ _ _=>cases hv
  | cells sz els f ro=>
   have a1:(Option.rec (motive:=fun _=>Option V) none (fun el=>lF el (Nat.mod o sz)) (mC els (Nat.div o sz)):Option V)=some v:=hv;rw [wU] at a1;cases he:els[Nat.div o sz]? with
   |none=>rw [he] at a1;cases a1
   | some el=>
    rw [he] at a1;have a6:lF el (o%sz)=some v:=a1;rw [rY] at a6;obtain⟨l2,hl2,C,t2,fz,hcs⟩:=k.obj _ _ hb;rw [hl] at hl2;cases hl2;have b1:=(aM.1 a6).1;have a3:=hcs.each el (aV he);have hf:=flat_get hcs.each he (o%sz) (by omega);rw [a6] at hf;obtain⟨u',hu',_,_⟩:=hcs.val _ _ hf;have hi:Nat.div o sz*sz+o%sz=o:=by
     have:=lS o sz;rw [cP] at this;exact this
    rw [hi] at hu';exact⟨C,t2,fz,hcs.at_,(aG.1 hu').1⟩
def DV (h:w.heap[B]?=some (.cells C t fz)):w.shape? B=some (t,C.size):=by simp [World.shape?,h]
def XI {h:H} (k:HR m h w) {s d t:TypeId} {n o:Nat} {b:Id} {u:Value} {v:V} (hs:P.underlying s=some (.pointer t)) (hd:P.underlying d=some .unsafePointer) (hn:bJ P t=some (n+1))
  (hx:R m (.p b o) u) (hv:rd1 h b o=some v):(convert s d u).run P w= .ok u w:=by
 simp only [R] at hx;obtain⟨l,hl,rfl⟩:=hx;obtain⟨C,t2,fz,h1,h2⟩:=ZP k hl hv;have a5:=DV h1;have h3:¬C.size≤l.base+o:=by omega
 simp [convert,bU hs,bU hd,Conv.unsafePointer,Conv.seenAt,viewAt,a5,cellsIn,iG hn,h3]
def Eo {h:H} (k:HR m h w) {s d u:TypeId} {sz o a2 ty:Nat} {b f:Id} {els:List (List V)} {x:Value} (hs:P.underlying s=some .unsafePointer) (hd:P.underlying d=some (.pointer u)) (hn:bJ P u=some (sz+1))
  (hx:R m (.p b o) x) (hb:aB b h.mem=some (.cells a2 els f (.rw ty))) (h1:a2=sz+1) (h2:ty=u) (h3:o%a2=0) (h4:o/a2<els.length):(convert s d x).run P w= .ok x w:=by
 simp only [R] at hx;obtain⟨l,hl,rfl⟩:=hx;obtain⟨l2,hl2,C,t,fz,hc⟩:=k.obj _ _ hb;rw [hl] at hl2;cases hl2;have ht:=hc.typ ty rfl;subst h1;subst h2;subst ht;have a5:=DV hc.at_;have b0:=flat_len hc.each;have a7:=hc.room;have a3:=hc.len;have a8:=hc.al;have a4:(o/(sz+1)+1)*(sz+1)≤els.length*(sz+1):=eZ _ h4;have a9:o/(sz+1)*(sz+1)=o:=by
  have:=lS o (sz+1);rw [h3,cP] at this;simpa using this
 rw [dP,a9] at a4;have a0:=PH (P:=P) (cells:=C.size) (off:=l.base+o) (n:=1) (SQ hn) (UZ _) (by rw [Nat.add_mod,a8,h3];simp) (by omega);simp [convert,bU hs,bU hd,Conv.unsafePointer,Conv.seenAt,viewAt,a5,iG hn,variablesAt,a0]
end
section
variable {P:Program} {m:Mp} {w:Wo}
def RP {st:Nat}:∀{es:List Ent} {xs:List MapEntry} {e:Ent},bP m es xs→xN st es=some e→∃x,xs.find? (·.born==st)=some x∧EntR m e x
 | [],xs,e,h,he=>by cases he
 | a::es,xs,e,h,he=>by
  obtain⟨x,xs',rfl,hx,hxs⟩:=h;unfold xN at he;cases hb:Nat.beq a.born st with
  |true=>
   rw [hb] at he;cases he;have:(x.born==st)=true:=by rw [hx.2.2];simpa using aT hb
   exact⟨x,by simp [List.find?,this],hx⟩
  | false=>
   rw [hb] at he;have:(x.born==st)=false:=by
    rw [hx.2.2];simp;intro h;subst h;simp at hb
   obtain⟨y,h1,h2⟩:=RP hxs he;exact⟨y,by simp [List.find?,this,h1],h2⟩
def PK:∀(l:List Nat),qL l=(⟨l⟩:Array Nat).back?
 | []=>by simp [qL]
 | [a]=>by simp [qL]
 |a::b::l=>by
  have:qL (a::b::l)=qL (b::l):=rfl;rw [this,PK (b::l)];simp [List.getLast?_cons]
def zJ {b:Nat} {o:Obj} (hb:w.heap[b]?=some o) (hn:∀c t f,o≠ .cells c t f):(getObj b).run P w= .ok o w:=by
 cases o<;>first|exact absurd rfl (hn _ _ _)|simp [getObj,Sem.run,hb]
def Fq {h:H} (hr:HR m h w) {b:Id} {l:Loc} (hl:m b=some l) {v:V} (hv:GM h b=some v):∃u,(Instr.entry (.pointer (some ⟨l.blk,l.base+0,none⟩))).run P w= .ok u w∧R m v u:=by
 unfold GM at hv;split at hv
 ·rename_i mi a9 seen a7 hb;obtain⟨l1,hl1,h0,lm,hlm,hit⟩:=hr.obj _ _ hb;rw [hl] at hl1;cases hl1;cases hs:qL seen with
  |none=>rw [hs] at hv;cases hv
  | some st=>
   cases he:iH h mi with
   |none=>rw [hs,he] at hv;cases hv
   | some p=>
    obtain⟨es,clock⟩:=p;rw [hs,he] at hv;simp only at hv;cases hc:Nat.beq clock a7 with
    |false=>rw [hc] at hv;cases hv
    | true=>
     rw [hc] at hv;simp only [cS] at hv;have b1:=aT hc;cases ha:xN st es with
     |none=>rw [ha] at hv;cases hv
     | some en=>
      rw [ha] at hv;cases hv;obtain⟨l2,es',_,hl2,hm,hes⟩:=pE hr he;rw [hlm] at hl2;cases hl2;obtain⟨x,hx1,hx2⟩:=RP hes ha;rw [PK] at hs;refine⟨.tuple #[x.key,x.val],?_,?_⟩
      ·rw [h0];have a6:(⟨es'⟩:Array MapEntry).find? (fun x=>x.born==st)=some x:=by simpa using hx1
       simp only [Instr.entry,aU,zJ hit (by simp),cI,hs,run_getMap hm];simp [b1,a6]
      ·simp only [R,Rl];exact⟨_,rfl,_,_,rfl,hx2.1,_,_,rfl,hx2.2.1,rfl⟩
 ·cases hv
def AX {e:Env} (k:aY m n e a) (hg:Gl P m) {h:H} (hr:HR m h w) {o:Oper} (a0:o.op.operands.toList.all (cT P n)=true) {v:V}
  (hv:(oY P o.op).run e h=some v):∃u,(execOp a.eval o).run P w= .ok (.value u) w∧R m v u:=by
 have vv:∀{s:Sem Value},(∃u,s.run P w= .ok u w∧R m v u)→∃u,(do pure (Next.value (←s)):Sem Next).run P w= .ok (.value u) w∧R m v u:=by
  rintro s ⟨u,h1,h2⟩;exact⟨u,by simp [h1],h2⟩
 obtain⟨dst,op,type,pos,after,guard⟩:=o;simp only at a0 hv;cases op<;>simp only [Op.operands] at a0<;>simp only [oY] at hv<;>(try (cases hv;done))
 case move x=>
  cases hv;exact⟨_,rfl,cV k hg (by simpa using a0)⟩
 case assign x=>
  cases hv;exact⟨_,rfl,cV k hg (by simpa using a0)⟩
 case pick c x y=>
  simp at a0;obtain⟨b,e1,hv⟩:=UK hv;have hc:=cV k hg a0.1;rw [e1] at hc;have hc:=R_b hc;rcases pA hv with⟨hb,hv⟩|⟨hb,hv⟩<;>cases hv
  ·subst hb;exact⟨_,by simp [execOp,hc,asBool],cV k hg a0.2.1⟩
  ·subst hb;exact⟨_,by simp [execOp,hc,asBool],cV k hg a0.2.2⟩
 case build t ps=>
  exact vv (Ih k hg (by simpa using a0) hv)
 case load t x=>
  have hX:=cV k hg (show cT P n x=true by simpa using a0);cases hn:bJ P t with
  |none=>rw [hn] at hv;cases ha:eV P t<;>rw [ha] at hv<;>cases hv
  |some sz=>
   obtain⟨d,hd⟩:=tS hn;refine vv (OV hr hd hn hX ?_);rw [hn] at hv;cases ha:eV P t<;>rw [ha] at hv<;>exact hv
 case nilCheck x=>
  have hX:=cV k hg (show cT P n x=true by simpa using a0);rcases HX hv with⟨b,o,e1,hv⟩|⟨_,hv⟩
  ·cases hv;rw [e1] at hX;obtain⟨l,hl,hu⟩:=R_p hX;refine⟨a.eval x,by simp only [execOp,hu];rfl,hX⟩
  ·split at hv
   ·rename_i f A B e1;cases hv;rw [e1] at hX;refine⟨a.eval x,?_,hX⟩;simp only [R] at hX;obtain⟨a',c',hu,_⟩:=hX;simp only [execOp,hu];rfl
   ·rename_i b e1;cases hv;rw [e1] at hX;refine⟨a.eval x,?_,hX⟩;simp only [R] at hX;obtain⟨l,_,hu⟩:=hX;simp only [execOp,hu];rfl
   ·rename_i e1;cases hv;rw [e1] at hX;refine⟨a.eval x,?_,hX⟩;simp only [R] at hX;simp only [execOp,hX];rfl
   ·cases hv
 case binOp op t x y yt=>
  simp at a0;exact vv (Ir k hg hr a0.1 a0.2 hv)
 case unOp op t x=>
  have hX:=cV k hg (show cT P n x=true by simpa using a0);refine vv ?_;cases op<;>simp only [unC] at hv<;>(try (cases hv;done))
  ·obtain⟨b,e1,hv⟩:=UK hv;cases hv;rw [e1] at hX;have hX:=R_b hX;exact⟨_,by rw [hX];simp [Op.unary];rfl,by simp [R]⟩
 case convert s d x=>
  have hX:=cV k hg (show cT P n x=true by simpa using a0);refine vv ?_;split at hv
  ·rename_i ds kk hs hd;obtain⟨k1,A,e1,hv⟩:=nW hv;cases hv;rw [e1] at hX;have hX:=R_i hX;exact⟨_,by rw [hX];simp only [convert,aU,bU hs,bU hd,cI,Conv.intToInt,cC];rfl,by simp [R,JT]⟩
  ·rename_i t hs hd;split at hv
   ·rename_i n0 a5;obtain⟨b,o,e1,hv⟩:=sZ hv;rw [e1] at hX;cases hrd:rd1 h b o with
    |none=>rw [hrd] at hv;cases hv
    |some v0=>
     rw [hrd] at hv;cases hv;exact⟨a.eval x,XI hr hs hd a5 hX hrd,hX⟩
   ·cases hv
  ·rename_i u hs hd;split at hv
   ·rename_i sz a5;obtain⟨b,o,e1,hv⟩:=sZ hv;rw [e1] at hX;split at hv
    ·rename_i b2 els f ty hb;obtain⟨hc,hv⟩:=kI hv;cases hv;simp only [aN] at hc;obtain⟨c1,c2,c3,c4⟩:=hc;exact⟨a.eval x,Eo hr hs hd a5 hX hb (aT c1) (aT c2) (aT c3) (by have:=cQ c4;rw [xG] at this;exact this),hX⟩
    ·cases hv
   ·cases hv
  ·cases hv
 case makeFunc fn f c=>
  cases hv;have a2:=a0;refine vv ⟨.func fn (f.map a.eval) (c.map a.eval),rfl,?_⟩;simp only [R];refine⟨f.toList.map a.eval,c.toList.map a.eval,by congr 1<;>(apply kY.1;simp),uE k hg ?_,uE k hg ?_⟩
  ·rw [jG];intro x hx;have:=jG.1 a2 x (by simp [hx]);exact this
  ·rw [jG];intro x hx;have:=jG.1 a2 x (by simp [hx]);exact this
 case slice t x lo hi mx=>
  cases mx with
  |some _=>cases hv
  |none=>
   refine vv (YA k hg ?_ ?_ ?_ hv)
   ·simp at a0;exact a0.1
   ·rintro y rfl;simp at a0;exact a0.2.1
   ·rintro y rfl;simp at a0;exact a0.2.2
 case fieldAddr t x i=>
  have hX:=cV k hg (show cT P n x=true by simpa using a0);refine vv ?_;cases hu:P.underlying t with
  |none=>rw [hu] at hv;cases hv
  | some ds=>
   rw [hu] at hv;cases ds<;>simp only at hv<;>(try (cases hv;done));rename_i fs;cases hf:rZ fs.toList i with
   |none=>rw [hf] at hv;cases hv
   | some f=>
    rw [hf] at hv;simp only at hv;split at hv
    ·rename_i sz hs;obtain⟨b,o,e1,hv⟩:=sZ hv;cases hv;rw [e1] at hX;obtain⟨l,hl,hu2⟩:=R_p hX;rw [ET] at hf;have a3:fs[i]?=some f:=by simpa using hf
     refine⟨.pointer (some ⟨l.blk,l.base+o+f.offset,none⟩),?_,?_⟩
     ·rw [hu2];simp [Instr.fieldAt,bU hu,a3,Instr.sureAddr,fieldPlace,iG hs,nY]
     ·simp only [R];exact⟨l,hl,by rw [mU];rfl⟩
    ·cases hv
 case field t x i=>
  have hX:=cV k hg (show cT P n x=true by simpa using a0);refine vv ?_;cases hu:P.underlying t with
  |none=>rw [hu] at hv;cases hv
  | some ds=>
   rw [hu] at hv;cases ds<;>simp only at hv<;>(try (cases hv;done));rename_i fs;cases hf:rZ fs.toList i with
   |none=>rw [hf] at hv;cases hv
   | some f=>
    rw [hf] at hv;simp only at hv;cases hs:bJ P f.type with
    |none=>rw [hs] at hv;cases hv
    |some sz=>
     rw [hs] at hv;simp only at hv;obtain⟨l,e1,hv⟩:=Jm hv;rw [e1] at hX;obtain⟨l',hu2,hl,hsc⟩:=nZ hX;obtain⟨d2,hd2⟩:=tS hs;obtain⟨u,h1,h2⟩:=rU (w:=w) hd2 hs hl hsc hv;rw [ET] at hf;have a3:fs[i]?=some f:=by simpa using hf
     exact⟨u,by rw [hu2];simp [Instr.field,bU hu,a3,asAgg,h1],h2⟩
 case indexAddr t x ix=>
  simp at a0;have hX:=cV k hg a0.1;have hI:=cV k hg a0.2;refine vv ?_;cases hu:P.underlying t with
  |none=>rw [hu] at hv;cases hv
  | some ds=>
   rw [hu] at hv;cases ds<;>simp only at hv<;>(try (cases hv;done))
   case slice el=>
    split at hv
    ·rename_i sz hs;obtain⟨b,o,len,z,e1,hv⟩:=Jg hv;obtain⟨kk,j,e2,hv⟩:=CT hv;obtain⟨hj,hv⟩:=kI hv;cases hv;have hj:=cQ hj;rw [e1] at hX;simp only [R] at hX;obtain⟨l,cap,hl,hu2,_⟩:=hX;rw [e2] at hI;have hI:=R_i hI;refine⟨.pointer (some ⟨l.blk,l.base+o+j*(sz+1),none⟩),?_,?_⟩
     ·rw [hu2,hI];have hc:(0:Int)≤(j:Int)∧(j:Int)<(len:Int):=⟨by omega,by omega⟩;simp [Instr.indexAt,asIntOf,bU hu,iG hs,hc,nY];omega
     ·simp only [R];exact⟨l,hl,by rw [mU];rfl⟩
    ·cases hv
   case array len el=>
    split at hv
    ·rename_i sz hs;obtain⟨b,o,e1,hv⟩:=sZ hv;obtain⟨kk,j,e2,hv⟩:=CT hv;obtain⟨hj,hv⟩:=kI hv;cases hv;have hj:=cQ hj;rw [e1] at hX;obtain⟨l,hl,hu2⟩:=R_p hX;rw [e2] at hI;have hI:=R_i hI;refine⟨.pointer (some ⟨l.blk,l.base+o+j*(sz+1),none⟩),?_,?_⟩
     ·rw [hu2,hI];have hc:(0:Int)≤(j:Int)∧(j:Int)<(len:Int):=⟨by omega,by omega⟩;simp [Instr.indexAt,asIntOf,bU hu,iG hs,hc,nY,Instr.sureAddr];omega
     ·simp only [R];exact⟨l,hl,by rw [mU];rfl⟩
    ·cases hv
 case index t x ix=>
  simp at a0;have hX:=cV k hg a0.1;have hI:=cV k hg a0.2;refine vv ?_;cases hu:P.underlying t with
  |none=>rw [hu] at hv;cases hv
  | some ds=>
   rw [hu] at hv;cases ds<;>simp only at hv<;>(try (cases hv;done))
   case string=>
    obtain⟨len,c,e1,hv⟩:=yC hv;obtain⟨kk,j,e2,hv⟩:=CT hv;obtain⟨hj,hv⟩:=kI hv;cases hv;have hj:=cQ hj;rw [e1,R_str] at hX;obtain⟨s,hs,hb,_⟩:=hX;rw [e2] at hI;have hI:=R_i hI;obtain⟨b,h1,h2⟩:=Dm hb (show j<len by omega);refine⟨.int .u8 b.toNat,?_,by simp only [R];rw [←h2];rfl⟩;rw [hs,hI];have hc:(0:Int)≤(j:Int):=by omega
    simp only [Instr.index,asIntOf,aU,cC,cI,bU hu];have hz:(0:Int)≤Int.ofNat j:=by simp
    rw [if_pos hz,show(Int.ofNat j).toNat=j from rfl,h1];rfl
 case lookup t x ix ok=>
  simp at a0;have hX:=cV k hg a0.1;have hI:=cV k hg a0.2;refine vv ?_;unfold lookC at hv;cases hu:P.underlying t with
  |none=>rw [hu] at hv;cases hv
  | some ds=>
   rw [hu] at hv;cases ds<;>simp only at hv<;>(try (cases hv;done));rename_i kt et;cases hz:fY P et with
   |none=>rw [hz] at hv;cases hv
   | some z=>
    rw [hz] at hv;simp only at hv;rcases HY hv with⟨b,e1,hv⟩|⟨_,hv⟩
    ·cases he:iH h b with
     |none=>rw [he] at hv;cases hv
     |some p=>
      obtain⟨es,c⟩:=p;rw [he] at hv;obtain⟨l,es',_,hl,hm,hes⟩:=pE hr he;rw [e1] at hX;simp only [R] at hX;obtain⟨l2,hl2,hs⟩:=hX;rw [hl] at hl2;cases hl2;exact OT hr hu hz hI hes (.inl ⟨_,_,hs,hm⟩) hv
    ·obtain⟨e1,hv⟩:=UI hv;rw [e1] at hX;simp only [R] at hX;exact OT hr hu hz hI (xs:=[]) (by simp [bP]) (.inr ⟨hX,rfl⟩) hv
 case entry x=>
  have hX:=cV k hg (show cT P n x=true by simpa using a0);refine vv ?_;obtain⟨b,o,e1,hv⟩:=sZ hv;obtain⟨ho,hv⟩:=kI hv;have ho:=aT ho;subst ho;rw [e1] at hX;obtain⟨l,hl,hu⟩:=R_p hX;rw [hu];exact Fq hr hl hv
 case extract x i=>
  have hX:=cV k hg (show cT P n x=true by simpa using a0);refine vv ?_;obtain⟨l,e1,hv⟩:=Jd hv;rw [e1] at hX;obtain⟨l',hu,hl⟩:=R_tup hX;rw [rY] at hv;obtain⟨u,h1,h2⟩:=hl.get hv;have b0:(⟨l'⟩:Array Value)[i]?=some u:=by simpa using h1
  exact⟨u,by rw [hu];simp [Instr.extract,b0],h2⟩
 case call c=>
  obtain⟨callee,args,argTypes⟩:=c;have bi:∀{b:Builtin} {s:Sem Value},callee= .builtin b→(∀cs,builtin b argTypes type cs (args.map a.eval)=(do pure (.value (←s))))→(∃u,s.run P w= .ok u w∧R m v u)→
    ∃u,(execOp a.eval { dst:=dst,op:=.call { callee:=callee,args:=args,argTypes:=argTypes },type:=type,pos:=pos,after:=after,guard:=guard }).run P w= .ok (.value u) w∧R m v u:=by
   rintro b s rfl hb ⟨u,h1,h2⟩;refine⟨u,?_,h2⟩;simp only [execOp,resolve,aU,cC,cI,invoke,hb,h1]
  have a1:args.toList.all (cT P n)=true:=by
   rw [jG] at a0 ⊢;intro x hx;exact a0 x (by simp [Call.operands,hx])
  unfold callL at hv;simp only at hv;split at hv
  ·rename_i x t ts e2 e3;obtain⟨args⟩:=args;obtain⟨argTypes⟩:=argTypes;simp only at e2 e3;subst e2;subst e3;refine bi rfl (fun _=>rfl) ?_;have:=Cu (ts:=ts) (ty:=type) hr k hg (by simpa using a1) hv;simpa using this
  ·rename_i x e2;obtain⟨args⟩:=args;simp only at e2;subst e2;refine bi rfl (fun _=>rfl) ?_;have hX:=cV k hg (show cT P n x=true by simpa using a1);have a4:(⟨[x]⟩:Array Operand).map a.eval=#[a.eval x]:=by simp
   rw [a4];rcases CN hv with⟨b,o,l,z,e4,hv⟩|⟨_,hv⟩
   ·obtain⟨a8,hv⟩:=kI hv;cases hv;have a8:=cQ a8;rw [e4] at hX;simp only [R] at hX;obtain⟨ll,cap,hll,hs,hlc,_⟩:=hX;rw [hs];exact⟨_,Lib.run_unsafeSliceData_row w _ _ _ _ _ (by omega),by simp only [R];exact⟨ll,hll,rfl⟩⟩
   ·obtain⟨e4,hv⟩:=Jf hv;cases hv;rw [e4] at hX;simp only [R] at hX;rw [hX];exact⟨_,Lib.run_unsafeSliceData_nil w _ _ _ _,by simp [R]⟩
  ·rename_i x l e2;obtain⟨args⟩:=args;simp only at e2;subst e2;simp only [mX,aN] at a1;obtain⟨u,h1,h2⟩:=OO (P:=P) (w:=w) _ _ (cV k hg a1.1) (uE k hg a1.2) hv;exact bi rfl (fun _=>rfl) ⟨u,by simpa [Builtin.max_] using h1,h2⟩
  ·rename_i x l e2;obtain⟨args⟩:=args;simp only at e2;subst e2;simp only [mX,aN] at a1;obtain⟨u,h1,h2⟩:=OK (P:=P) (w:=w) _ _ (cV k hg a1.1) (uE k hg a1.2) hv;exact bi rfl (fun _=>rfl) ⟨u,by simpa [Builtin.min_] using h1,h2⟩
  ·cases hv
end
section
variable {P:Program} {m:Mp} {w:Wo}
def AG {h:H} {ob:Id→O} {vf:Id→V} {v:V} (hn:sE h ob vf= .ok v h'):∃nx,h.next.succ=some nx∧v=vf h.next∧h'=⟨dU h.next (some (ob h.next)) h.mem,h.fams,nx⟩:=by
 obtain⟨mem,fams,next⟩:=h;unfold sE at hn;simp only at hn;cases hs:next.succ with
 |none=>rw [hs] at hn;cases hn
 |some nx=>rw [hs] at hn;cases hn;exact⟨nx,by simpa using hs,rfl,rfl⟩
def wW {h:H} (k:HR m h w) {sz:Nat} {els:List (List V)} {vf:Id→V} {v:V} {t0:TypeId} (hn:mD t0 h sz els vf= .ok v h') (he:∀el∈els,el.length=sz)
  {us:Lv} (hR:Rl m els.flatten us) (hs:∀x∈us,dR x) {C:Array Value} {extra:Lv} (hC:C.toList=us++extra) (t:TypeId) (fz:Nat × Nat)
  (a4:fz.1=fz.2∨(sz=1∧C.size≤fz.1)) (ht:t0=t:=by rfl):
  ∃m',Fr m h w m' h' { w with heap:=w.heap.push (.cells C t fz) }∧m' h.next=some ⟨w.heap.size,0,C.size⟩∧v=vf h.next:=by
 obtain⟨nx,hnx,rfl,rfl⟩:=AG hn;have a0:C.size=us.length+extra.length:=by rw [←cU,hC];simp
 refine⟨_,Fr.new k hnx (.cells C t fz) (.cells sz els h.next (.rw t0)) ⟨w.heap.size,0,C.size⟩ rfl (fun _ _ _ _ e=>by cases e;rfl) (by simp [jJ]) ?_,by simp,rfl⟩;intro m' hm w' a5;refine⟨C,t,fz,⟨a5,by simp,?_,he,?_,?_,?_,fun ty e=>by cases e;exact ht.symm,CZ _⟩⟩
 ·show els.flatten.length≤C.size;rw [←hR.length];omega
 ·intro i x hx;obtain⟨u,hu,hRu⟩:=hR.get hx;have hi:=(aM.1 hu).1;refine⟨u,?_,hRu.mono hm,hs u (aV hu)⟩;show C[0+i]?=some u;rw [bT,←gP,hC,dW hi,hu]
 ·intro _ i hi;show¬(fz.1≤0+i∧0+i<fz.2);have a6:i<C.size:=hi;rcases a4 with h1|⟨_,h2⟩<;>omega
 ·intro _ hz;rcases a4 with h1|⟨h1,_⟩
  ·exact h1
  ·exact absurd h1 hz
def cO (P:Program) (r:Result Next) (m:Mp) (h:H) (w:Wo) (v:V) (h':H):Prop:=
 (∃u w' m',(r= .ok (.value u) w'∨(r= .ok .skip w'∧u=undef))∧Fr m h w m' h' w'∧R m' v u)∨
 (∃f us,r= .ok (.enter f us) w∧Calls P f us w (fun e w'=>∃u m',e= .returned u∧Fr m h w m' h' w'∧R m' v u))
def Js {h:H} (k:HR m h w) {t:TypeId} {z v:V} {c:List V} (hz:fY P t=some z) (hc:dV z=some c) (hn:mD t h (eJ c) [c] (fun i=>.p i 0)= .ok v h'):
  ∃u w' m',(Instr.alloc t true (.tuple #[])).run P w= .ok u w'∧Fr m h w m' h' w'∧R m' v u:=by
 obtain⟨uz,hzr,rfl,_⟩:=lW (w:=w) hz;obtain⟨c',h1,h2,h3⟩:=qW (m:=m) hc;obtain⟨m',hf,hm,rfl⟩:=wW k hn (by simp [kH]) (us:=c') (by simpa using h2) h3 (C:=uz.cells) (extra:=[]) (by rw [h1];simp) t (0,0) (.inl rfl);refine⟨.pointer (some ⟨w.heap.size,0,none⟩),_,m',?_,hf,?_⟩
 ·simp [Instr.alloc,hzr,newVar,newRow]
 ·simp only [R];exact⟨_,hm,rfl⟩
def Ik {h:H} (k:HR m h w) {t:TypeId} {x v:V} {u:Value} {c:List V} (hx:R m x u) (hc:dV x=some c) (hn:mD t h (eJ c) [c] (fun i=>.p i 0)= .ok v h'):
  ∃u' w' m',(Instr.box t u).run P w= .ok u' w'∧Fr m h w m' h' w'∧R m' v u':=by
 obtain⟨c',h1,h2,h3⟩:=xT hx hc;obtain⟨m',hf,hm,rfl⟩:=wW k hn (by simp [kH]) (us:=c') (by simpa using h2) h3 (C:=u.cells) (extra:=[]) (by rw [h1];simp) t (0,0) (.inl rfl);refine⟨.pointer (some ⟨w.heap.size,0,none⟩),_,m',?_,hf,?_⟩
 ·simp [Instr.box,newVar,newRow]
 ·simp only [R];exact⟨_,hm,rfl⟩
def Rl.rep {zc:List V} {a1:Lv} (h:Rl m zc a1):∀n,Rl m ((jZ zc n).flatten) ((List.replicate n a1).flatten)
 |0=>by simp [jZ,Rl]
 |n+1=>by simp only [jZ,jT,mV];exact h.append (Rl.rep h n)
def zM {a1:Lv} (h:∀x∈a1,dR x) (n:Nat):∀x∈(List.replicate n a1).flatten,dR x:=by
 intro x hx;simp only [List.mem_flatten,DE] at hx;obtain⟨l,⟨_,rfl⟩,hx⟩:=hx;exact h x hx
def yY (z:Array Value) (n:Nat) (hz:0<z.size):((Array.range (n*z.size)).map (z[· %z.size]!)).toList=(List.replicate n z.toList).flatten:=by
 apply JL;intro i;have a0:∀n,((List.replicate n z.toList).flatten).length=n*z.size:=by
  intro n;induction n with
  |zero=>simp
  |succ n ih=>simp [mV,gY];omega
 have a3:∀n i,i<n*z.size→((List.replicate n z.toList).flatten)[i]?=z.toList[i%z.size]?:=by
  intro n
  induction n with
  |zero=>intro i hi;simp at hi
  | succ n ih=>
   intro i hi;rw [mV,jT]
   by_cases h:i<z.size
   ·rw [dW (by simpa using h),rF h]
   ·rw [dK (by simpa using h),cU,ih (i-z.size) (by rw [gY] at hi;omega)];congr 1;rw [←Nat.mod_eq_sub_mod (by omega)]
 by_cases h:i<n*z.size
 ·rw [a3 n i h];have hm:i%z.size<z.size:=mT _ hz;simp [h,hm]
 ·rw [pQ (by simp;omega),pQ (by rw [a0];omega)]
def wE {α:Type} (x:α):∀n,jZ x n=List.replicate n x
 |0=>rfl
 |n+1=>by rw [jZ,wE x n,mV]
def GX {sz:Nat}:∀(n:Nat) (l:List V),l.length=n*sz→(nR sz n l).flatten=l∧(∀el∈nR sz n l,el.length=sz)∧(nR sz n l).length=n
 |0,l,h=>by simp at h;subst h;simp [nR]
 | n +1,l,h=>by
  rw [gY] at h;have hd:(eF sz l).length=n*sz:=by rw [iQ];simp;omega
  obtain⟨h1,h2,h3⟩:=GX n (eF sz l) hd;have ht:jL sz l=some (l.take sz):=by
   have:∀(k:Nat) (l:List V),k≤l.length→jL k l=some (l.take k):=by
    intro k
    induction k with
    |zero=>intro l _;rfl
    | succ k ih=>
     intro l hl;cases l with
     |nil=>simp at hl
     |cons a l=>
      have e:jL (k+1) (a::l)=Option.rec (motive:=fun _=>Option (List V)) none (fun x=>some (a::x)) (jL k l):=rfl;rw [e,ih l (by simpa using hl)];rfl
   exact this sz l (by omega)
  unfold nR;rw [ht];refine⟨?_,?_,by simp [h3]⟩
  ·simp only [yL,jT];rw [h1,iQ,pO]
  ·intro el a2;simp only [yL,cM] at a2;rcases a2 with rfl|a2
   ·simp;omega
   ·exact h2 el a2
end
section
variable {P:Program} {m:Mp} {w:Wo}
def YQ (h:dR v):v.oneCell'=true:=by cases v<;>first|rfl|exact h.elim
def YJ {b:Nat} (h:w.heap[b]?=some (.cells C t fz)):
  w.setCell ⟨b,o,none⟩ v={ w with heap:=w.heap.setIfInBounds b (.cells (C.setIfInBounds o v) t fz) }:=by
 unfold World.setCell;have hb:b<w.heap.size:=(aG.1 h).1;congr 1;apply yX;intro i;simp only [mY,lV]
 by_cases e:b=i
 ·subst e;have a5:=(aG.1 h).2;simp [hb,a5]
 ·simp [e]
def zI {b off:Nat} {t:TypeId} {fz:Nat × Nat}:∀(vs:Lv) (i:Nat) (C:Array Value) (w:Wo),w.heap[b]?=some (.cells C t fz)→off+i+vs.length≤C.size→(∀v∈vs,dR v)→
  (∀j,j<vs.length→¬(fz.1≤off+i+j∧off+i+j<fz.2))→
  (storeCells ⟨b,off,none⟩ vs i).run P w= .ok () { w with heap:=w.heap.setIfInBounds b (.cells ⟨C.toList.take (off+i)++vs++C.toList.drop (off+i+vs.length)⟩ t fz) }
 | [],i,C,w,h,_,_,_=>by
  have hb:b<w.heap.size:=(aG.1 h).1;have a5:=(aG.1 h).2;simp only [storeCells,cC,pS,oG,fG,pO];congr 1;have:w.heap.setIfInBounds b (.cells C t fz)=w.heap:=by
   apply yX;intro j;simp only [lV]
   by_cases e:b=j
   ·subst e;simp [hb,a5]
   ·simp [e]
  show w={ w with heap:=w.heap.setIfInBounds b (.cells C t fz) };rw [this]
 | v::vs,i,C,w,h,hl,hs,hf=>by
  simp only [eW] at hl;have hb:b<w.heap.size:=(aG.1 h).1;have hc:w.cell? ⟨b,off+i,none⟩=some (C[off+i]'(by omega)):=by simp [World.cell?,h,show off+i<C.size by omega]
  have hz:w.frozen? ⟨b,off+i,none⟩=false:=by
   have:=hf 0 (by simp);simp only [fG] at this;simp only [World.frozen?,h];rw [Bool.eq_false_iff];simpa using this
  have h1:(store ((⟨b,off,none⟩:Addr).add i) v).run P w= .ok () (w.setCell ⟨b,off+i,none⟩ v):=by
   rw [nY,run_store P w _ v .plain (YQ (hs v (by simp)))];simp [hc,hz]
  have a1:=YJ (o:=off+i) (v:=v) h;rw [a1] at h1;have a6:({ w with heap:=w.heap.setIfInBounds b (.cells (C.setIfInBounds (off+i) v) t fz) }:Wo).heap[b]?=some (.cells (C.setIfInBounds (off+i) v) t fz):=by simp [hb]
  have ih:=zI (off:=off) vs (i+1) (C.setIfInBounds (off+i) v) _ a6 (by rw [Array.size_setIfInBounds];omega) (fun x hx=>hs x (by simp [hx])) (fun j hj=>by
   have h9:=hf (j+1) (by simpa using hj);have e9:off+i+(j+1)=off+(i+1)+j:=by omega
   rw [e9] at h9;exact h9)
  simp only [storeCells,aU,h1,cI,ih];congr 1;have b0:off+i<C.toList.length:=by simp;omega
  have e1:(C.setIfInBounds (off+i) v).toList.take (off+(i+1))=C.toList.take (off+i)++ [v]:=by
   rw [JP,←mU,List.take_set,Kk b0];rw [yR _ _ (by simp;omega)];have hm:min (off+i) C.size=off+i:=by simp at b0;omega
   simp [hm]
  have e2:(C.setIfInBounds (off+i) v).toList.drop (off+(i+1)+vs.length)=C.toList.drop (off+i+(vs.length+1)):=by
   rw [JP,Ky (by omega)];congr 1;omega
  rw [e1,e2];simp [Array.setIfInBounds_setIfInBounds]
def KZ (l:List (List V)) (i:Nat) (x:List V):oL l i x=l.set i x:=by
 induction l generalizing i with
 |nil=>rfl
 |cons a l ih=>cases i with
  |zero=>rfl
  |succ i=>show a::oL l i x=_;rw [ih];rfl
def flat_set {sz:Nat}:∀{els:List (List V)} (h:∀el∈els,el.length=sz) {q o:Nat} {el a0 xs:List V},els[q]?=some el→∀{r:Nat},r+xs.length≤sz→a0=el.take r++xs++el.drop (r+xs.length)→q*sz+r=o→
  (els.set q a0).flatten=els.flatten.take o++xs++els.flatten.drop (o+xs.length)
 | [],_,q,o,el,a0,xs,hq,r,hr,he,ho=>by simp at hq
 |x::els,h,0,o,el,a0,xs,hq,r,hr,he,ho=>by
  simp at hq;subst hq;have hx:=h x (by simp);have:o=r:=by omega
  subst this;simp only [Kl,jT,he];rw [IZ (by omega),Kz (by omega)];simp
 | x::els,h,q+1,o,el,a0,xs,hq,r,hr,he,ho=>by
  simp at hq;have hx:=h x (by simp);have ih:=flat_set (fun el he=>h el (by simp [he])) hq hr he (o:=q*sz+r) rfl;have c0:o=sz+(q*sz+r):=by rw [←ho,gY];omega
  simp only [VP,jT,ih];have t1:(x++els.flatten).take o=x++els.flatten.take (q*sz+r):=by
   rw [VO,fH (by omega)];congr 2;omega
  have t2:(x++els.flatten).drop (o+xs.length)=els.flatten.drop (q*sz+r+xs.length):=by
   rw [WD,tM (by omega),kX];congr 1;omega
  rw [t1,t2];simp
def WP {h:H} (k:HR m h w) {b:Id} {o n:Nat} {xs:List V} {xs':Lv} {v:V} {l:Loc} (hl:m b=some l) (hn:xs.length=n) (hx:Rl m xs xs') (hs:∀x∈xs',dR x)
  (hw:wr h b o xs n= .ok v h'):v=cN∧∃w',(storeCells ⟨l.blk,l.base+o,none⟩ xs').run P w= .ok () w'∧Fr m h w m h' w':=by
 unfold wr at hw;cases hb:aB b h.mem with
 |none=>rw [hb] at hw;cases hw
 | some ob=>
  rw [hb] at hw;cases ob with
  |map _ _=>cases hw
  |miter _ _ _ _=>cases hw
  | cells sz els f ro=>
   cases ro with
   |fz=>cases hw
   |fr _=>cases hw
   | rw ty=>
    have a3:(Option.rec (motive:=fun _=>VH) .bad
     (fun el=>Option.rec (motive:=fun _=>VH) .bad
      (fun a0=>.ok cN (eO (gT h f b) b (.cells sz (oL els (Nat.div o sz) a0) f (.rw ty))))
      (Bool.rec (motive:=fun _=>Option (List V)) (iB (Nat.mod o sz) el xs) (some xs) (Nat.beq (Nat.mod o sz) 0&&Nat.beq n sz)))
     (mC els (Nat.div o sz)):VH)= .ok v h':=hw
    rw [wU] at a3;cases he:els[Nat.div o sz]? with
    |none=>rw [he] at a3;cases a3
    | some el=>
     rw [he] at a3;obtain⟨l2,hl2,C,t,fz,hc⟩:=k.obj _ _ hb;rw [hl] at hl2;cases hl2;have a7:=hc.each el (aV he);have b4:∃a0,(Bool.rec (motive:=fun _=>Option (List V)) (iB (Nat.mod o sz) el xs) (some xs) (Nat.beq (Nat.mod o sz) 0&&Nat.beq n sz):Option (List V))=some a0∧
       o%sz+xs.length≤sz∧a0=el.take (o%sz)++xs++el.drop (o%sz+xs.length):=by
      cases ht:(Nat.beq (Nat.mod o sz) 0&&Nat.beq n sz) with
      |true=>
       simp only [aN] at ht;have h1:o%sz=0:=aT ht.1;have h2:n=sz:=aT ht.2;refine⟨xs,rfl,by omega,?_⟩;rw [h1];simp;omega
      | false=>
       cases ho:iB (Nat.mod o sz) el xs with
       | none=>
        exfalso;have:(Option.rec (motive:=fun _=>VH) .bad (fun a0=>.ok cN (eO (gT h f b) b (.cells sz (oL els (Nat.div o sz) a0) f (.rw ty)))) (iB (Nat.mod o sz) el xs):VH)= .ok v h':=by
         simpa [ht] using a3
        rw [ho] at this;cases this
       |some a0=>
        obtain⟨h1,h2⟩:=uD _ _ _ ho;exact⟨a0,rfl,by rw [a7] at h1;exact h1,h2⟩
     obtain⟨a0,hel1,hel2,hel3⟩:=b4;have b9:VH.ok cN (eO (gT h f b) b (.cells sz (oL els (Nat.div o sz) a0) f (.rw ty)))= .ok v h':=by
      have:(Option.rec (motive:=fun _=>VH) .bad (fun a0=>.ok cN (eO (gT h f b) b (.cells sz (oL els (Nat.div o sz) a0) f (.rw ty))))
       (Bool.rec (motive:=fun _=>Option (List V)) (iB (Nat.mod o sz) el xs) (some xs) (Nat.beq (Nat.mod o sz) 0&&Nat.beq n sz)):VH)= .ok v h':=a3
      rw [hel1] at this;exact this
     cases b9;refine⟨rfl,?_⟩;have c3:=hx.length;have hq:o/sz<els.length:=(aM.1 he).1;have b6:=flat_len hc.each;have b3:o/sz*sz+o%sz=o:=by have:=lS o sz;rw [cP] at this;exact this
     have b8:(o/sz+1)*sz≤els.length*sz:=eZ _ hq;have b5:o+xs.length≤els.flatten.length:=by
      rw [b6];rw [gY] at b8;omega
     have a4:=hc.room;have b7:=hc.len;have a8:=zI (P:=P) (b:=l.blk) (off:=l.base+o) (t:=t) (fz:=fz) xs' 0 C w hc.at_ (by omega) hs (fun j hj=>by
      have:=hc.free rfl (o+j) (by omega);rw [show l.base+(o+j)=l.base+o+0+j by omega] at this;exact this)
     refine⟨_,a8,Fr.updCells k hb hl rfl ?_⟩;intro b2;have a1:(oL els (Nat.div o sz) a0).flatten=els.flatten.take o++xs++els.flatten.drop (o+xs.length):=by
      rw [KZ];exact flat_set hc.each he (by omega) hel3 b3
     refine⟨_,t,fz,⟨b2,?_,?_,?_,?_,hc.free,hc.plain,hc.typ,hc.al⟩⟩
     ·have:(⟨C.toList.take (l.base+o+0)++xs'++C.toList.drop (l.base+o+0+xs'.length)⟩:Array Value).size=C.size:=by
       show(C.toList.take (l.base+o+0)++xs'++C.toList.drop (l.base+o+0+xs'.length)).length=C.size;simp only [aI,aX,cW,cU];omega
      rw [this];exact a4
     ·rw [a1];simp only [aI,aX,cW,cU];omega
     ·intro e0 a9;rw [KZ] at a9;rcases Kr a9 with h1|rfl
      ·exact hc.each e0 h1
      ·rw [hel3];simp;omega
     ·intro i x a2;rw [a1] at a2;have b1:∀j:Nat,(⟨C.toList.take (l.base+o+0)++xs'++C.toList.drop (l.base+o+0+xs'.length)⟩:Array Value)[j]?=
        (C.toList.take (l.base+o)++xs'++C.toList.drop (l.base+o+xs'.length))[j]?:=by intro j;simp
      rw [b1]
      by_cases c1:i<o
      ·rw [fJ,dW (by simp only [aI,aX,cW,cU];omega),iY c1] at a2;obtain⟨u,h1,h2,h3⟩:=hc.val i x a2;refine⟨u,?_,h2,h3⟩;rw [fJ,dW (by simp only [aI,aX,cW,cU];omega),iY (by omega)];simpa using h1
      ·by_cases c2:i<o+xs.length
       ·rw [fJ,dK (by simp only [aI,aX,cW,cU];omega),dW (by simp only [aI,aX,cW,cU];omega)] at a2;have e1:i-(els.flatten.take o).length=i-o:=by simp only [aI,aX,cW,cU];omega
        rw [e1] at a2;obtain⟨u,h1,h2⟩:=hx.get a2;refine⟨u,?_,h2,hs u (aV h1)⟩;rw [fJ,dK (by simp only [aI,aX,cW,cU];omega),dW (by simp only [aI,aX,cW,cU];omega),←h1];congr 1;simp only [aI,aX,cW,cU];omega
       ·rw [dK (by simp only [aI,aX,cW,cU];omega),jF] at a2;have e1:o+xs.length+(i-(els.flatten.take o++xs).length)=i:=by simp only [aI,aX,cW,cU];omega
        rw [e1] at a2;obtain⟨u,h1,h2,h3⟩:=hc.val i x a2;refine⟨u,?_,h2,h3⟩;rw [dK (by simp only [aI,aX,cW,cU];omega),jF];have e2:l.base+o+xs'.length+(l.base+i-(C.toList.take (l.base+o)++xs').length)=l.base+i:=by simp only [aI,aX,cW,cU];omega
        rw [e2];simpa using h1
end
section
variable {P:Program} {m:Mp} {w:Wo}
def Ii {e:Env} (ke:aY m n e a) (hg:Gl P m) {h h':H} (k:HR m h w) {t el:TypeId} {len sz:Nat} {z v:V} {zc:List V} {ps:Array (Nat × Operand)} (hu:P.underlying t=some (.slice el))
  (hx:(ps.toList.map (·.2)).all (cT P n)=true) (hs:bJ P el=some (sz+1)) (hz:fY P el=some z) (hc:dV z=some zc) (b4:len*(sz+1)≤16777216) (a4:zc.length=sz+1) {cs:List V}
  (hb:iT (fun i=>some (i*(sz+1),sz+1)) ((jZ zc len).flatten) ((lE ps.toList).run e)=some cs)
  (hn:mD el h (sz+1) (nR (sz+1) len cs) (fun i=>.sl i 0 len (sz+1))= .ok v h'):
  ∃u w' m',(Instr.buildSlice t len (ps.map fun(i,x)=>(i,a.eval x))).run P w= .ok u w'∧Fr m h w m' h' w'∧R m' v u:=by
 obtain⟨p1,p2⟩:=zZ ke hg hx;have b2:(ps.map fun(i,x)=>(i,a.eval x)).toList=ps.toList.map fun x=>(x.1,a.eval x.2):=by simp
 obtain⟨uz,hzr,rfl,_⟩:=lW (w:=w) hz;obtain⟨a1,h1,h2,h3⟩:=qW (m:=m) hc;have a2:uz.cells.size=sz+1:=by rw [h1];show a1.length=_;rw [h2.length,a4]
 obtain⟨r',hr1,hr2,hr3⟩:=BV _ _ p1 p2 (h2.rep len) (zM h3 len) hb;have a0:((Array.range (len*(sz+1))).map (uz.cells[· %uz.cells.size]!))=⟨(List.replicate len a1).flatten⟩:=by
  apply kY.1;rw [←a2,yY uz.cells len (by omega),h1]
 have a6:cs.length=len*(sz+1):=by
  have hl:∀(ps:List (Nat × V)) (c r:List V),iT (fun i=>some (i*(sz+1),sz+1)) c ps=some r→r.length=c.length:=by
   intro ps
   induction ps with
   |nil=>intro c r h;have:c=r:=aK (by simpa [iT] using h);rw [this]
   | cons p ps ih=>
    intro c r h;obtain⟨i,x⟩:=p;unfold iT at h;simp only at h;cases hq:dV x with
    |none=>rw [hq] at h;cases h
    | some c0=>
     rw [hq] at h;simp only at h;cases hb:Nat.beq (eJ c0) (sz+1) with
     |false=>rw [hb] at h;cases h
     | true=>
      rw [hb] at h;simp only [cS] at h;cases ho:iB (i*(sz+1)) c c0 with
      |none=>rw [ho] at h;cases h
      |some c2=>
       rw [ho] at h;obtain⟨h5,h6⟩:=uD _ _ _ ho;rw [ih _ _ h,h6];simp only [aI,aX,cW];omega
  have:=hl _ _ _ hb;rw [this,wE];have:∀k,((List.replicate k zc).flatten).length=k*(sz+1):=by
   intro k;induction k with
   |zero=>simp
   |succ k ih=>rw [mV,jT,aI,ih,a4,gY];omega
  exact this len
 obtain⟨c1,c2,c3⟩:=GX len cs a6;obtain⟨m',hf,hm,rfl⟩:=wW k hn c2 (us:=r') (by rw [c1];exact hr2) hr3 (C:=⟨r'⟩) (extra:=[]) (by simp) el (0,0) (.inl rfl);refine⟨.slice (some ⟨w.heap.size,0,none⟩) len len,_,m',?_,hf,?_⟩
 ·have a8:¬(len*(sz+1)>2^24):=by omega
  rw [←b2] at hr1
  by_cases h0:len*(sz+1)=0
  ·have b1:len=0:=by
    rcases Nat.mul_eq_zero.1 h0 with h|h
    ·exact h
    ·omega
   subst b1;simp only [Instr.buildSlice,aU,bU hu,cI,iG hs,yK,if_neg a8,if_pos h0,cC];have e0:((Array.range (0*(sz+1))).map fun x=>(#[]:Array Value)[x%(#[]:Array Value).size]!)=(⟨(List.replicate 0 a1).flatten⟩:Array Value):=by simp
   simp only [e0,hr1,aU,newRow,IJ,cI,cC]
  ·simp only [Instr.buildSlice,aU,bU hu,cI,iG hs,yK,if_neg a8,if_neg h0,cC,hzr,a0,hr1,newRow,IJ]
 ·simp only [R];refine⟨_,len,hm,by simp,aA _,?_⟩;show 0+len*(sz+1)≤r'.length;rw [hr2.length];omega
def Cg {h:H} (k:HR m h w) {t el:TypeId} {sz N M:Nat} {k1 k2:IntKind} {z v:V} {zc:List V} {a3:TypeInfo} (hu:P.underlying t=some (.slice el)) (hs:bJ P el=some (sz+1))
  (hz:fY P el=some z) (hc:dV z=some zc) (hi:P.info? el=some a3) (b0:a3.bytes≤1000000) (a4:zc.length=sz+1) (a9:N≤M) (hM:M≤100000)
  (hn:mD el h (sz+1) (jZ zc M) (fun i=>.sl i 0 N (sz+1))= .ok v h'):
  ∃u w' m',(Instr.makeSlice t (.int k1 (N:Int)) (.int k2 (M:Int))).run P w= .ok u w'∧Fr m h w m' h' w'∧R m' v u:=by
 obtain⟨uz,hzr,rfl,_⟩:=lW (w:=w) hz;obtain⟨a1,h1,h2,h3⟩:=qW (m:=m) hc;have a2:uz.cells.size=sz+1:=by rw [h1];show a1.length=_;rw [h2.length,a4]
 have a0:((Array.range (M*(sz+1))).map (uz.cells[· %uz.cells.size]!))=⟨(List.replicate M a1).flatten⟩:=by
  apply kY.1;rw [←a2,yY uz.cells M (by omega),h1]
 have a5:∀e0∈jZ zc M,e0.length=sz+1:=by
  intro e0 he;rw [wE] at he;rw [(DE.1 he).2,a4]
 obtain⟨m',hf,hm,rfl⟩:=wW k hn a5 (us:=(List.replicate M a1).flatten) (h2.rep M) (zM h3 M) (C:=⟨(List.replicate M a1).flatten⟩) (extra:=[]) (by simp) el (0,0) (.inl rfl);have a6:((List.replicate M a1).flatten).length=M*(sz+1):=by
  have:∀k,((List.replicate k a1).flatten).length=k*(sz+1):=by
   intro k;induction k with
   |zero=>simp
   |succ k ih=>rw [mV,jT,aI,ih,h2.length,a4,gY];omega
  exact this M
 refine⟨.slice (some ⟨w.heap.size,0,none⟩) N M,_,m',?_,hf,?_⟩
 ·have a7:(a3.bytes:Int)*(M:Int)≤281474976710656:=by
   have h9:a3.bytes*M≤1000000*100000:=rE b0 hM;have h8:((a3.bytes*M:Nat):Int)≤281474976710656:=by omega
   simpa using h8
  obtain⟨i2,hi2,hzi⟩:∃i,P.info? el=some i∧i.zero=some uz:=by
   obtain⟨u2,hu2,_,i,hi',hz'⟩:=lW (w:=w) hz;rw [hzr] at hu2;cases hu2;exact⟨i,hi',hz'⟩
  rw [hi] at hi2;cases hi2;have b3:a3.size=sz+1:=by
   obtain⟨i3,hi3,h4⟩:=rP hs;rw [hi] at hi3;cases hi3;exact h4
  have:=run_make (P:=P) w t el a3 uz hu hi hzi k1 k2 (N:Int) (M:Int) (by omega) (by omega) a7 (by omega);rw [this,b3];simp only [WG,madeCells];rw [a0];rfl
 ·simp only [R];refine⟨_,M,hm,by simp,a9,?_⟩;show 0+M*(sz+1)≤((List.replicate M a1).flatten).length;omega
end
section
variable {P:Program} {m:Mp} {w:Wo}
def TX {x y:V} (hk:mG x=true) (h:V.beq x y=true):x=y:=by
 cases x<;>simp only [mG,eH] at hk<;>cases y<;>simp only [V.beq,eH] at h
 case b.b x y=>
  have e0:x=y:=by simpa using h
  rw [e0]
 case i.i k n k' n'=>
  simp only [aN] at h;obtain⟨h1,h2⟩:=h;have e1:k=k':=by cases k<;>cases k'<;>first|rfl|(simp at h1)
  have e2:n=n':=by
   cases n<;>cases n'<;>simp only [eH] at h2
   ·rw [aT h2]
   ·rw [aT h2]
  rw [e1,e2]
 case s.s l c l' c'=>
  simp only [sEq,aN] at h;rw [aT h.1,aT h.2]
 case pn.pn=>rfl
 case p.p b o b' o'=>
  simp only [aN] at h;rw [Id.beq_iff.1 h.1,aT h.2]
 case ni.ni=>rfl
def TV:∀{l r:List V},l.all mG=true→jC l r=true→l=r
 | [],[],_,_=>rfl
 | [],_::_,_,h=>by simp [jC] at h
 |_::_,[],_,h=>by simp [jC] at h
 |a::l,b::r,hk,h=>by
  simp only [mX,aN] at hk;simp only [jC,aN] at h;rw [TX hk.1 h.1,TV hk.2 h.2]
def TW {x y:V} (hk:qM x=true) (h:V.beq x y=true):x=y:=by
 cases x
 case agg l=>
  cases y<;>simp only [V.beq,eH] at h;rw [TV hk h]
 all_goals exact TX (by exact hk) h
def PO {x:V} (hk:mG x=true) (h:R m x u) (h':R m x u'):u=u':=by
 cases x<;>simp only [mG,eH] at hk
 case s l c=>
  rw [R_str] at h h';obtain⟨s,rfl,h1,_⟩:=h;obtain⟨s',rfl,h1',_⟩:=h';rw [Ic (h1.trans h1'.symm)]
 case p b o=>
  obtain⟨l,hl,rfl⟩:=R_p h;obtain⟨l',hl',rfl⟩:=R_p h';rw [hl] at hl';cases hl';rfl
 all_goals
  simp only [R] at h h';rw [h,h']
def PM:∀{l:List V} {u u':Lv},l.all mG=true→Rl m l u→Rl m l u'→u=u'
 | [],u,u',_,h,h'=>by simp only [Rl] at h h';rw [h,h']
 |a::l,u,u',hk,h,h'=>by
  simp only [mX,aN] at hk;simp only [Rl] at h h';obtain⟨x,xs,rfl,h1,h2⟩:=h;obtain⟨x',xs',rfl,h1',h2'⟩:=h';rw [PO hk.1 h1 h1',PM hk.2 h2 h2']
def Dc {x:V} (hk:qM x=true) (h:R m x u) (h':R m x u'):u=u':=by
 cases x
 case agg l=>
  obtain⟨l1,rfl,h1,_⟩:=nZ h;obtain⟨l2,rfl,h2,_⟩:=nZ h';rw [PM hk h1 h2]
 all_goals exact PO (by exact hk) h h'
def PQ {x:V} (hk:mG x=true) (h:R m x u) (n:Nat):Instr.sameBits n u u=true:=by
 cases x<;>simp only [mG,eH] at hk
 case s l c=>
  rw [R_str] at h;obtain⟨s,rfl,_⟩:=h;cases n<;>simp [Instr.sameBits,beq_toListBytes]
 case p b o=>
  obtain⟨l,hl,rfl⟩:=R_p h;cases n<;>simp [Instr.sameBits]
 all_goals
  simp only [R] at h;subst h;cases n<;>simp [Instr.sameBits]
def PP:∀{l:List V} {us:Lv},l.all mG=true→Rl m l us→∀n,(us.zip us).all (fun x=>Instr.sameBits n x.1 x.2)=true
 | [],us,_,h,n=>by simp only [Rl] at h;subst h;rfl
 |a::l,us,hk,h,n=>by
  simp only [mX,aN] at hk;simp only [Rl] at h;obtain⟨u,us,rfl,h1,h2⟩:=h;simp only [Kj,mX,aN];exact⟨PQ hk.1 h1 n,PP hk.2 h2 n⟩
def Dd {x:V} (hk:qM x=true) (h:R m x u) (n:Nat):Instr.sameBits (n+1) u u=true:=by
 cases x
 case agg l=>
  obtain⟨l1,rfl,h1,_⟩:=nZ h;have:=PP hk h1 n;simp only [Instr.sameBits,aN];exact⟨by simp,this⟩
 all_goals exact PQ (by exact hk) h _
def PL {x:V} (hk:qM x=true) (h:R m x u) (h':R m x u'):(Instr.keyThatStays u u').run P w= .ok u' w:=by
 rw [Dc hk h h'];have:=Dd hk h' 9999;simp only [Instr.keyThatStays,this,if_true,cC]
def tW {b:Nat} {o o':Obj} (hb:w.heap[b]?=some o) (hn:∀c t f,o≠ .cells c t f):(setObj b o').run P w= .ok () { w with heap:=w.heap.setIfInBounds b o' }:=by
 cases o<;>first|exact absurd rfl (hn _ _ _)|simp [setObj,Sem.run,hb]
def bP.set:∀{es:List Ent} {xs:List MapEntry} (i:Nat) {e':Ent} {f:MapEntry→MapEntry},bP m es xs→(∀y,xs[i]?=some y→EntR m e' (f y))→bP m (pW es i e') (xs.modify i f)
 | [],xs,i,e',f,h,_=>by simp only [bP] at h;subst h;simp [pW,bP]
 |a::es,xs,0,e',f,h,hf=>by
  obtain⟨x,xs,rfl,hx,hxs⟩:=h;simp only [pW,List.modify_zero_cons,bP];exact⟨_,_,rfl,hf x rfl,hxs⟩
 |a::es,xs,i+1,e',f,h,hf=>by
  obtain⟨x,xs,rfl,hx,hxs⟩:=h;simp only [pW,Kq,bP];exact⟨_,_,rfl,hx,bP.set i hxs (fun y hy=>hf y (by simpa using hy))⟩
def bP.append:∀{es es':List Ent} {xs xs':List MapEntry},bP m es xs→bP m es' xs'→bP m (es++es') (xs++xs')
 | [],_,xs,_,h,h'=>by simp only [bP] at h;subst h;exact h'
 |a::es,_,xs,_,h,h'=>by
  obtain⟨x,xs,rfl,hx,hxs⟩:=h;simp only [mW,bP];exact⟨_,_,rfl,hx,hxs.append h'⟩
end
section
variable {P:Program} {m:Mp} {w:Wo}
def xC {h:H} (k:HR m h w) {b:Id} {l:Loc} {es a7:List Ent} {c c2:Nat} {a6:List MapEntry} (hb:aB b h.mem=some (.map es c)) (hl:m b=some l) (a1:bP m a7 a6):
  Fr m h w m (eO h b (.map a7 c2)) { w with heap:=w.heap.setIfInBounds l.blk (.map ⟨a6⟩ c2) }:=
 Fr.updObj k hb hl (by simp) (by simp) rfl (fun a8=>⟨a6,a8,a1⟩)
def OQ {h:H} (k:HR m h w) {t kt et:TypeId} {b:Id} {l:Loc} {key x v:V} {a0 ux:Value} (hu:P.underlying t=some (.map kt et)) (hl:m b=some l) (hk:R m key a0) (hx:R m x ux)
  (hs:AO P kt h b key x= .ok v h'):v=cN∧∃w',(Instr.mapUpdate t (.map (some l.blk)) a0 ux).run P w= .ok () w'∧Fr m h w m h' w':=by
 unfold AO at hs;cases he:iH h b with
 |none=>rw [he] at hs;cases hs
 | some p=>
  obtain⟨es,c⟩:=p;rw [he] at hs;simp only at hs;obtain⟨l2,xs,hb,hl2,hm,a1⟩:=pE k he;rw [hl] at hl2;cases hl2;cases hf:qS P kt h key es with
  |none=>rw [hf] at hs;cases hs
  | some r=>
   rw [hf] at hs;obtain⟨h1,h2,h3⟩:=GG k hk a1 hf false;cases r with
   |none=>
    simp only at hs;cases hs;refine⟨rfl,_,?_,xC k hb hl (a1.append (es':=[⟨key,x,c⟩]) (xs':=[⟨a0,ux,c⟩]) ⟨_,_,rfl,⟨hk,hx,rfl⟩,rfl⟩)⟩;simp only [Instr.mapUpdate,aU,bU hu,cI,run_getMap hm,h1,h2,IN,tW hm (by simp)];simp
   | some p=>
    obtain⟨i,e⟩:=p;simp only at hs;obtain⟨a2,y,hy,hye⟩:=h3 _ rfl;simp only at a2 hy hye;cases hkb:(qM key&&V.beq key e.key) with
    |false=>rw [hkb] at hs;cases hs
    |true=>
     rw [hkb] at hs;cases hs;simp only [aN] at hkb;have a3:=TW hkb.1 hkb.2;have a5:R m key y.key:=by rw [a3];exact hye.1
     refine⟨rfl,_,?_,xC k hb hl (a1.set i (e':=⟨key,x,e.born⟩) (f:=fun z=>{ z with key:=a0,val:=ux }) (fun z hz=>by rw [hy] at hz;cases hz;exact⟨hk,hx,hye.2.2⟩))⟩;have a4:(⟨xs⟩:Array MapEntry)[i]?=some y:=by simpa using hy
     simp only [Instr.mapUpdate,aU,bU hu,cI,run_getMap hm,h1,h2,rD,a4,yL,PL hkb.1 a5 hk,tW hm (by simp)];congr 5;apply kY.1;simp
def Cf {h:H} (k:HR m h w) {t kt et:TypeId} {b:Id} {l:Loc} {key z v:V} {a0:Value} (hu:P.underlying t=some (.map kt et)) (hz:fY P et=some z) (hl:m b=some l) (hk:R m key a0)
  (hs:FI P kt z h b key= .ok v h'):∃u w',(Instr.mapEntry t (.map (some l.blk)) a0).run P w= .ok u w'∧Fr m h w m h' w'∧R m v u:=by
 obtain⟨uz,hzr,rfl,_⟩:=lW (w:=w) hz;unfold FI at hs;cases he:iH h b with
 |none=>rw [he] at hs;cases hs
 | some p=>
  obtain⟨es,c⟩:=p;rw [he] at hs;simp only at hs;obtain⟨l2,xs,hb,hl2,hm,a1⟩:=pE k he;rw [hl] at hl2;cases hl2;cases hf:qS P kt h key es with
  |none=>rw [hf] at hs;cases hs
  | some r=>
   rw [hf] at hs;obtain⟨h1,h2,h3⟩:=GG k hk a1 hf false;cases r with
   | none=>
    simp only at hs;cases hs;refine⟨.tuple #[uz,goInt c],_,?_,xC k hb hl (a1.append (es':=[⟨key,cst uz,c⟩]) (xs':=[⟨a0,uz,c⟩]) ⟨_,_,rfl,⟨hk,sO m uz,rfl⟩,rfl⟩),?_⟩
    ·simp only [Instr.mapEntry,aU,bU hu,cI,run_getMap hm,h1,h2,IN,hzr,tW hm (by simp),cC];simp
    ·simp only [R,Rl];exact⟨_,rfl,_,_,rfl,sO m uz,_,_,rfl,rfl,rfl⟩
   | some p=>
    obtain⟨i,e⟩:=p;simp only at hs;obtain⟨a2,y,hy,hye⟩:=h3 _ rfl;simp only at a2 hy hye;cases hkb:(qM key&&V.beq key e.key) with
    |false=>rw [hkb] at hs;cases hs
    | true=>
     rw [hkb] at hs;cases hs;simp only [aN] at hkb;have a3:=TW hkb.1 hkb.2;have a5:R m key y.key:=by rw [a3];exact hye.1
     have a4:(⟨xs⟩:Array MapEntry)[i]?=some y:=by simpa using hy
     have a9:(xs.getD i default).val=y.val:=by simp [WA,hy]
     refine⟨.tuple #[y.val,goInt y.born],_,?_,xC k hb hl (a1.set i (e':=⟨key,e.val,e.born⟩) (f:=fun z=>{ z with key:=a0 }) (fun z hz=>by rw [hy] at hz;cases hz;exact⟨hk,hye.2.1,hye.2.2⟩)),?_⟩
     ·simp only [Instr.mapEntry,aU,bU hu,cI,run_getMap hm,h1,h2,rD,a4,a9,yL,PL hkb.1 a5 hk,tW hm (by simp),cC];congr 5;apply kY.1;simp
     ·simp only [R,Rl];exact⟨_,rfl,_,_,rfl,hye.2.1,_,_,rfl,by rw [hye.2.2];rfl,rfl⟩
def TM {nn:Nat}:∀{es:List Ent} {xs:List MapEntry} (i:Nat) {j:Nat} {e:Ent},bP m es xs→xV nn es i=some (j,e)→
  i≤j∧es[j-i]?=some e∧(∃y,xs[j-i]?=some y∧EntR m e y)∧xs.findIdx? (fun y=>(y.born:Int)==(nn:Int))=some (j-i)
 | [],xs,i,j,e,h,he=>by cases he
 | a::es,xs,i,j,e,h,he=>by
  obtain⟨x,xs,rfl,hx,hxs⟩:=h;unfold xV at he;cases hb:Nat.beq a.born nn with
  |true=>
   rw [hb] at he;cases he;have h1:((x.born:Int)==(nn:Int))=true:=by rw [hx.2.2,aT hb];simp
   refine⟨aA _,by simp,⟨x,by simp,hx⟩,?_⟩;simp [Kx,h1]
  | false=>
   rw [hb] at he;have h1:((x.born:Int)==(nn:Int))=false:=by
    rw [hx.2.2];simp;intro h;have:a.born=nn:=by omega
    subst this;simp at hb
   obtain⟨i1,i2,⟨y,i3,i4⟩,i5⟩:=TM (i+1) hxs he;have e1:j-i=(j-(i+1))+1:=by omega
   refine⟨by omega,by rw [e1];simpa using i2,⟨y,by rw [e1];simpa using i3,i4⟩,?_⟩;simp only [Kx,h1,i5,e1];rfl
def Fu {h:H} (k:HR m h w) {t:TypeId} {b:Id} {l:Loc} {nn:Nat} {kk:IntKind} {x v:V} {ux:Value} (hl:m b=some l) (hx:R m x ux)
  (hs:GN h b nn x= .ok v h'):v=cN∧∃w',(Instr.entryStore t (.map (some l.blk)) (.int kk (nn:Int)) ux).run P w= .ok () w'∧Fr m h w m h' w':=by
 unfold GN at hs;cases he:iH h b with
 |none=>rw [he] at hs;cases hs
 | some p=>
  obtain⟨es,c⟩:=p;rw [he] at hs;simp only at hs;obtain⟨l2,xs,hb,hl2,hm,a1⟩:=pE k he;rw [hl] at hl2;cases hl2;cases hf:xV nn es 0 with
  |none=>rw [hf] at hs;cases hs
  |some p=>
   obtain⟨i,e⟩:=p;rw [hf] at hs;cases hs;obtain⟨_,i2,⟨y,i3,i4⟩,i5⟩:=TM 0 a1 hf;simp only [DB] at i2 i3 i5;refine⟨rfl,_,?_,xC k hb hl (a1.set i (e':=⟨e.key,x,e.born⟩) (f:=fun z=>{ z with val:=ux }) (fun z hz=>by rw [i3] at hz;cases hz;exact⟨i4.1,hx,i4.2.2⟩))⟩;have b0:(⟨xs⟩:Array MapEntry).findIdx? (fun e=>(e.born:Int)==(nn:Int))=some i:=by simpa using i5
   simp only [Instr.entryStore,aU,run_getMap hm,cI,asInt,asIntOf,cC,b0,tW hm (by simp)];congr 5;apply kY.1;simp
end
section
variable {P:Program} {m:Mp} {w:Wo}
def vZ:∀(n:Nat) (L r:List (List V)),pV n L=some r→n≤L.length∧r=L.take n
 |0,L,r,h=>by
  have:[]=r:=aK h;subst this;simp
 |n+1,[],r,h=>by cases h
 | n+1,a::L,r,h=>by
  have e:pV (n+1) (a::L)=Option.rec (motive:=fun _=>Option (List (List V))) none (fun x=>some (a::x)) (pV n L):=rfl;rw [e] at h;cases hx:pV n L with
  |none=>rw [hx] at h;cases h
  |some x=>
   rw [hx] at h;cases h;obtain⟨h5,rfl⟩:=vZ n L x hx;exact⟨by simp;omega,by simp⟩
def CD:∀(n:Nat) (L:List (List V)),xP n L=L.drop n
 |0,L=>rfl
 |n+1,[]=>rfl
 |n+1,a::L=>by show xP n L=_;rw [CD n L];rfl
def xK {sz:Nat}:∀(L:List (List V)) (q:Nat),(∀el∈L,el.length=sz)→(L.drop q).flatten=L.flatten.drop (q*sz)
 | [],q,_=>by simp
 |a::L,0,_=>by simp
 | a::L,q+1,hL=>by
  have ha:=hL a (by simp);have e1:(a++L.flatten).drop ((q+1)*sz)=L.flatten.drop (q*sz):=by
   rw [WD,tM (by rw [ha,gY];omega),kX];congr 1;rw [ha,gY];omega
  rw [aZ,xK L q (fun el he=>hL el (by simp [he])),jT,e1]
def flat_take {sz:Nat}:∀(L:List (List V)) (q:Nat),(∀el∈L,el.length=sz)→(L.take q).flatten=L.flatten.take (q*sz)
 | [],q,_=>by simp
 |a::L,0,_=>by simp
 | a::L,q+1,hL=>by
  have ha:=hL a (by simp);have e1:(a++L.flatten).take ((q+1)*sz)=a++L.flatten.take (q*sz):=by
   rw [VO,fH (by rw [ha,gY];omega)];congr 2;rw [ha,gY];omega
  rw [bL,jT,flat_take L q (fun el he=>hL el (by simp [he])),jT,e1]
def GO {sz:Nat} {l:Loc} {a0:List (List V)} {ro:Rw} (hc:CellsAt m w l sz a0 ro C t fz) (ho:o%sz=0)
  (b4:len≤(a0.drop (o/sz)).length):
  ∃us,(∀el∈(a0.drop (o/sz)).take len,el.length=sz)∧((a0.drop (o/sz)).take len).length=len∧us.length=len*sz∧Rl m ((a0.drop (o/sz)).take len).flatten us∧(∀x∈us,dR x)∧
   (∀(j:Nat) v,us[j]?=some v→C[l.base+o+j]?=some v):=by
 have a2:∀el∈(a0.drop (o/sz)).take len,el.length=sz:=fun el a3=>hc.each el (rI (jS a3))
 have a5:((a0.drop (o/sz)).take len).length=len:=by rw [aX];omega
 have hq:o/sz*sz=o:=by have:=lS o sz;rw [cP,ho] at this;simpa using this
 have a4:((a0.drop (o/sz)).take len).flatten=(a0.flatten.drop o).take (len*sz):=by
  rw [flat_take _ _ (fun el a3=>hc.each el (rI a3)),xK _ _ hc.each,hq]
 have a7:=flat_len a2;rw [a5] at a7;have a1:∀j,j<len*sz→∃v u,((a0.drop (o/sz)).take len).flatten[j]?=some v∧C[l.base+o+j]?=some u∧R m v u∧dR u:=by
  intro j hj;have hv:∃v,((a0.drop (o/sz)).take len).flatten[j]?=some v:=⟨_,bM (by rw [a7];exact hj)⟩;obtain⟨v,hv⟩:=hv;have b0:=hv;rw [a4,iY hj,jF] at b0;obtain⟨u,h1,h2,h3⟩:=hc.val _ _ b0;exact⟨v,u,hv,by rw [mU];exact h1,h2,h3⟩
 refine⟨(List.range (len*sz)).map (fun j=>(C[l.base+o+j]?).getD undef),a2,a5,by simp,?_,?_,?_⟩
 ·refine Rl.mk (by rw [a7];simp) ?_;intro j v u hv hu;have hj:j<len*sz:=by have:=(aM.1 hv).1;rw [a7] at this;exact this
  obtain⟨v',u',hv',hu',hR,_⟩:=a1 j hj;rw [hv] at hv';cases hv';simp only [gO,DG hj,rD,cJ] at hu;rw [hu'] at hu;subst hu;exact hR
 ·intro x hx;simp only [cL,JE] at hx;obtain⟨j,hj,rfl⟩:=hx;obtain⟨v',u',_,hu',_,hs⟩:=a1 j hj;rw [hu'];exact hs
 ·intro j v hv;have hj:j<len*sz:=by have:=(aM.1 hv).1;simpa using this
  obtain⟨v',u',_,hu',_,_⟩:=a1 j hj;simp only [gO,DG hj,rD,cJ] at hv;rw [hu'] at hv;simp at hv;subst hv;exact hu'
def TH:∀(s:List UInt8),(nU (s.map UInt8.toNat)).length=s.length∧(∀el∈nU (s.map UInt8.toNat),el.length=1)∧
  Rl m (nU (s.map UInt8.toNat)).flatten (s.map fun b=>.int .u8 b.toNat)
 | []=>by simp [nU,Rl]
 | b::s=>by
  obtain⟨h1,h2,h3⟩:=TH s;refine⟨by simp [nU,h1],?_,?_⟩
  ·intro el a3;simp only [fS,nU,cM] at a3;rcases a3 with rfl|a3
   ·rfl
   ·exact h2 el a3
  ·simp only [fS,nU,jT,mW,kX,Rl];exact⟨_,_,rfl,by simp [R],h3⟩
def Fv {h:H} (k:HR m h w) {sz:Nat} {x:V} {u:Value} {els:List (List V)} (hx:R m x u) (he:xO h (sz+1) x=some els):
  ∃us,(∀el∈els,el.length=sz+1)∧us.length=els.length*(sz+1)∧Rl m els.flatten us∧(∀y∈us,dR y)∧(Builtin.lenOf u).run P w= .ok els.length w∧
   ∀n,n≤els.length→(Builtin.firstCells (sz+1) n u).run P w= .ok ⟨us.take (n*(sz+1))⟩ w:=by
 unfold xO at he;split at he
 ·cases he;simp only [R] at hx;subst hx;exact⟨[],by simp,by simp,by simp [Rl],by simp,by simp [Builtin.lenOf],fun n hn=>by simp [Builtin.firstCells]⟩
 ·cases he;simp only [R] at hx;obtain⟨a,cap,rfl⟩:=hx;refine⟨[],by simp,by simp,by simp [Rl],by simp,by simp [Builtin.lenOf],fun n hn=>?_⟩;have:n=0:=by simpa using hn
  subst this;simp [Builtin.firstCells,loadCells,loadCellsFrom]
 ·rename_i b o len z;split at he
  ·rename_i b3 a0 f ro hb;cases hc:(Nat.beq (sz+1) b3&&Nat.beq (Nat.mod o (sz+1)) 0) with
   |false=>rw [hc] at he;cases he
   | true=>
    rw [hc] at he;simp only [cS] at he;simp only [aN] at hc;have h1:=aT hc.1;subst h1;have h2:o%(sz+1)=0:=aT hc.2;obtain⟨l,hl,C,t,fz,hcs⟩:=k.obj _ _ hb;rw [CD] at he;obtain⟨h5,rfl⟩:=vZ _ _ _ he;obtain⟨us,e1,e2,e3,e4,e5,e6⟩:=GO hcs h2 h5;simp only [R] at hx;obtain⟨l2,cap,hl2,rfl,hlc,hlim⟩:=hx;rw [hl] at hl2;cases hl2;refine⟨us,e1,?_,e4,e5,?_,?_⟩
    ·rw [e3];congr 1;exact e2.symm
    ·simp only [Builtin.lenOf,cC];congr 1;exact e2.symm
    ·intro n hn;have b2:n≤len:=by have h6:((a0.drop (Nat.div o (sz+1))).take len).length=len:=e2;rw [h6] at hn;exact hn
     have a6:=UT (P:=P) (w:=w) ⟨l.blk,l.base+o,none⟩ (us.take (n*(sz+1))) (fun j v hv=>by
      rw [nY,uW hcs.at_];rw [vQ] at hv;split at hv
      ·exact e6 j v hv
      ·cases hv)
     have b1:(us.take (n*(sz+1))).length=n*(sz+1):=by
      rw [aX,e3];exact oE (eZ _ b2)
     rw [b1] at a6;simp only [Builtin.firstCells];simpa using a6
  ·cases he
 ·rename_i l c;cases hz:Nat.beq (sz+1) 1 with
  |false=>rw [hz] at he;cases he
  |true=>
  rw [hz] at he;simp only [cS,cJ] at he;subst he;have b5:=aT hz;have:sz=0:=by omega
  subst this;rw [R_str] at hx;obtain⟨s,rfl,hb,_⟩:=hx;rw [←hb];obtain⟨h1,h2,h3⟩:=TH (m:=m) s.data.toList;have a9:s.data.toList.length=s.size:=by rw [cU];rfl
  have a8:(nU (eK s)).length=s.size:=by rw [←a9];exact h1
  refine⟨s.data.toList.map (fun b:UInt8=>(Value.int .u8 ((b.toNat:Nat):Int))),h2,by rw [a8];simp [a9],h3,by simp [dR],?_,?_⟩
  ·rw [a8];simp [Builtin.lenOf]
  ·intro n hn;simp only [Builtin.firstCells,cC];congr 1;apply kY.1;obtain⟨⟨sl⟩⟩:=s;have:=ByteArray.extract_mk sl 0 n;rw [show(ByteArray.mk ⟨sl⟩).extract 0 n=(ByteArray.mk sl.toArray).extract 0 n from rfl,this];simp
 ·cases he
end
section
variable {P:Program} {m:Mp} {w:Wo}
def KD (b:Id):∀(l:List Id),(∀x∈(kZ b l).1,x≠b∧x∈l)∧(∀x∈(kZ b l).2,x∈l)∧(∀x∈l,x≠b→x∈(kZ b l).1∨x∈(kZ b l).2)∧(b∈l→∃b3,l=b3++b::(kZ b l).2)∧(b∉l→(kZ b l).2= [])
 | []=>by simp [kZ]
 | x ::l=>by
  obtain⟨h1,h2,h3,h4,h5⟩:=KD b l;cases e:Id.beq x b with
  |true=>
   have:=Id.beq_iff.1 e;subst this;simp only [kZ,e,cS];refine⟨by simp,fun y hy=>by simp [hy],fun y hy a2=>?_,fun _=>⟨[],rfl⟩,fun h=>absurd (by simp) h⟩;simp only [cM] at hy;rcases hy with rfl|hy
   ·exact absurd rfl a2
   ·exact .inr hy
  | false=>
   have a2:x≠b:=fun h=>by rw [Id.beq_iff.2 h] at e;cases e
   simp only [kZ,e,kV];refine⟨?_,fun y hy=>by simp [h2 y hy],?_,?_,?_⟩
   ·intro y hy;simp only [cM] at hy ⊢;rcases hy with rfl|hy
    ·exact⟨a2,.inl rfl⟩
    ·exact⟨(h1 y hy).1,.inr (h1 y hy).2⟩
   ·intro y hy d1;simp only [cM] at hy ⊢;rcases hy with rfl|hy
    ·exact .inl (.inl rfl)
    ·rcases h3 y hy d1 with h|h
     ·exact .inl (.inr h)
     ·exact .inr h
   ·intro hb;simp only [cM] at hb;rcases hb with rfl|hb
    ·exact absurd rfl a2
    ·obtain⟨b3,hpre⟩:=h4 hb;exact⟨x::b3,by simp [←hpre]⟩
   ·intro hb;exact h5 (fun h=>hb (by simp [h]))
def QI {h:H} (k:HR m h w) {b f:Id} {sz len q tg:Nat} {els old new:List (List V)} {l:Loc} {v:V} (hb:aB b h.mem=some (.cells sz els f (.rw tg))) (hl:m b=some l)
  (hq:q+len=els.length) (c9:old=els.drop q) (hg:grown tg sz b f len old new h= .ok v h') (a2:∀el∈new,el.length=sz)
  {C':Array Value} {t:TypeId} {fz':Nat × Nat} {w':Wo} {l':Loc}
  (hw:(w'={ w with heap:=w.heap.setIfInBounds l.blk (.cells C' t fz') }∧l'=⟨l.blk,l.base+q*sz,l.lim-q*sz⟩∧(∃C fz,w.heap[l.blk]?=some (.cells C t fz')∧CellsAt m w l sz els (.rw tg) C t fz∧fz=fz'∧C'.size=C.size∧
    (∀j,j<l.base+els.flatten.length→C'[j]?=C[j]?)))∨
   (w'={ w with heap:=w.heap.push (.cells C' t fz') }∧l'=⟨w.heap.size,0,C'.size⟩))
  (d8:∀m2:Mp,m.le m2→w'.heap[l'.blk]?=some (.cells C' t fz')→CellsAt m2 w' l' sz (old++new) (.rw tg) C' t fz'):
  ∃m',Fr m h w m' h' w'∧m' h.next=some l'∧v= .sl h.next 0 (len+new.length) sz:=by
 obtain⟨mem,fams,next⟩:=h;unfold grown at hg;simp only at hg;cases hs:next.succ with
 |none=>rw [hs] at hg;cases hg
 | some nx=>
  rw [hs] at hg;simp only at hg;obtain⟨u1,u2,u3,u4,u5⟩:=KD b (aP f fams);generalize f9:kZ b (aP f fams)=ut at hg u1 u2 u3 u4 u5;obtain⟨a5,rest⟩:=ut;simp only at hg u1 u2 u3 u4 u5;cases hg;rw [Jq,xG];have e7:m next=none:=by
   cases e:m next with
   |none=>rfl
   |some l0=>exact absurd (k.dom _ _ e) (rG _)
  have b7:m.le (fun x=>if x=next then some l' else m x):=by
   intro x lx hx;have:x≠next:=fun e=>by rw [e,e7] at hx;cases hx
   simp [this,hx]
  have f7:=Id.succ_toNat hs;have d9:b.toNat<next.toNat:=k.dom _ _ hl
  have a0:∀x ox,aB x (dU next (some (.cells sz (old++new) f (.rw tg))) (iD a5 mem))=some ox→(x=next∧ox= .cells sz (old++new) f (.rw tg))∨(x≠next∧x∉a5∧aB x mem=some ox):=by
   intro x ox hx
   by_cases e:x=next
   ·subst e;rw [gK] at hx;exact .inl ⟨rfl,(aK hx).symm⟩
   ·rw [eX e,lJ] at hx;split at hx
    ·cases hx
    ·exact .inr ⟨e,by assumption,hx⟩
  obtain⟨lb,c7,C0,t0,fz0,hcb⟩:=k.obj _ _ hb;have c7:lb=l:=by have:m b=some lb:=c7;rw [hl] at this;cases this;rfl
  subst c7;have b6:=k.lt _ _ hl;have c2:∀y b0 els' f' ro' ly,y∉a5→aB y mem=some (.cells b0 els' f' ro')→m y=some ly→ly.blk=lb.blk→ly.base+els'.flatten.length≤lb.base+els.flatten.length:=by
   intro y b0 els' f' ro' ly hd hy a4 a6
   by_cases e:y=b
   ·subst e;have h1:aB y mem=some (.cells sz els f (.rw tg)):=hb;rw [h1] at hy;cases hy;rw [hl] at a4;cases a4;exact aA _
   ·have hf:f'=f:=k.sep y b _ _ ly lb hy hb a4 hl e a6;subst hf;have f4:y∈aP f' fams:=k.fam y b _ _ _ _ _ _ _ hy hb e;have d1:b∈aP f' fams:=k.fam b y _ _ _ _ _ _ _ hb hy (fR e);have f5:y∈rest:=by
     rcases u3 y f4 e with h1|h1
     ·exact absurd h1 hd
     ·exact h1
    obtain⟨b3,hpre⟩:=u4 d1;have ho:=k.ord f';have c8:(b3++b::rest).Pairwise (EndLe m mem):=by rw [←hpre];exact ho
    have:=(JD.1 c8).2.1;have:=(tI.1 this).1 y f5;exact this _ _ _ _ _ _ _ _ _ _ hb hy hl a4 a6.symm
  have c6:∀(hA:l'.blk=lb.blk),lb.base+els.flatten.length≤l'.base+(old++new).flatten.length:=by
   intro hA;rcases hw with⟨_,hl',_⟩|⟨_,hl'⟩
   ·subst hl';have h1:=flat_len hcb.each;have h2:(old++new).flatten.length=old.flatten.length+new.flatten.length:=by simp
    have h3:old.flatten.length=els.flatten.length-q*sz:=by
     rw [c9,xK _ _ hcb.each,cW]
    have h4:q*sz≤els.flatten.length:=by rw [h1];exact eZ _ (by omega)
    show lb.base+els.flatten.length≤lb.base+q*sz+(old++new).flatten.length;omega
   ·subst hl';have:w.heap.size=lb.blk:=hA;omega
  have b5:w'.heap[l'.blk]?=some (.cells C' t fz'):=by
   rcases hw with⟨rfl,rfl,_⟩|⟨rfl,rfl⟩
   ·simp [b6]
   ·simp
  have b9:∀B,B<w.heap.size→B≠lb.blk→w'.heap[B]?=w.heap[B]?:=by
   intro B hB a2;rcases hw with⟨rfl,_,_⟩|⟨rfl,_⟩
   ·simp [lV,fR a2]
   ·exact BM _ hB
  have a9:w.heap.size≤w'.heap.size∧l'.blk<w'.heap.size:=by
   rcases hw with⟨rfl,rfl,_⟩|⟨rfl,rfl⟩
   ·simp [b6]
   ·simp
  have a7:l'.blk=lb.blk∨l'.blk=w.heap.size:=by
   rcases hw with⟨_,rfl,_⟩|⟨_,rfl⟩
   ·exact .inl rfl
   ·exact .inr rfl
  refine⟨_,⟨b7,⟨?_,?_,?_,?_,?_,?_,?_,?_⟩,a9.1,?_,?_,?_,?_,?_,?_,by show next.toNat≤nx.toNat;omega,fun x sz1 els1 f1 c1 hx=>by
   rcases a0 x _ hx with⟨rfl,e⟩|⟨_,_,hx1⟩
   ·cases e;exact .inr ⟨b,_,_,_,hb⟩
   ·exact .inr ⟨x,sz1,els1,c1,hx1⟩⟩,by simp,rfl⟩
  ·
   intro x ox hx;rcases a0 x ox hx with⟨rfl,rfl⟩|⟨a2,hd,hx1⟩
   ·exact⟨l',by simp,C',t,fz',d8 _ b7 b5⟩
   ·clear hx;have hx:=hx1;obtain⟨lx,a1,ho⟩:=k.obj x ox hx;refine⟨lx,by simp [a2,a1],?_⟩;have b8:=k.lt _ _ a1
    by_cases hB:lx.blk=lb.blk
    ·
     rcases hw with⟨d5,a8,C,fz,hC,hCA,hfz,hsz,hsame⟩|⟨d5,a8⟩
     ·by_cases d0:∃b0 els' f' ro',ox= .cells b0 els' f' ro'
      ·obtain⟨b0,els',f',ro',rfl⟩:=d0;obtain⟨Cx,tx,fzx,hcx⟩:=ho;have d3:=hcx.at_;rw [hB,hC] at d3;have c3:C=Cx∧t=tx∧fz'=fzx:=by
        injection d3 with e;injection e with e1 e2 e3
        exact⟨e1,e2,e3⟩
       obtain⟨c3,hT1,hF1⟩:=c3;have f8:=c2 x _ _ _ _ lx hd hx a1 hB;have c4:w'.heap[lx.blk]?=some (.cells C' t fz'):=by rw [hB,←b5,a8]
       subst c3;subst hT1;subst hF1;refine⟨C',t,fz',⟨c4,by rw [hsz];exact hcx.room,hcx.len,hcx.each,?_,hcx.free,hcx.plain,hcx.typ,hcx.al⟩⟩;intro i v hv;obtain⟨u,h1,h2,h3⟩:=hcx.val i v hv;have hi:=(aM.1 hv).1;exact⟨u,by rw [hsame _ (by omega)];exact h1,h2.mono b7,h3⟩
      ·exfalso
       by_cases e:x=b
       ·subst e;have h1:aB x mem=some (.cells sz els f (.rw tg)):=hb;rw [h1] at hx;cases hx;exact d0 ⟨_,_,_,_,rfl⟩
       ·have:=k.sep x b ox _ lx lb hx hb a1 hl e hB;cases ox with
        |cells b0 els' f' ro'=>exact d0 ⟨_,_,_,_,rfl⟩
        |map _ _=>exact this
        |miter _ _ _ _=>exact this
     ·subst d5;exact ho.keep b7 (BM _ b8)
    ·exact ho.keep b7 (b9 _ b8 hB)
  ·
   intro x lx hx;show x.toNat<nx.toNat
   by_cases e:x=next
   ·subst e;omega
   ·simp [e] at hx;have:=k.dom _ _ hx;have h9:x.toNat<next.toNat:=this;omega
  ·
   intro x y ox oy lx ly hx hy a1 a4 a2 a6;rcases a0 x ox hx with⟨rfl,rfl⟩|⟨hn1,hd1,hx1⟩<;>rcases a0 y oy hy with⟨rfl,rfl⟩|⟨hn2,hd2,hy1⟩
   ·exact absurd rfl a2
   ·simp at a1;simp [hn2] at a4;subst a1;have:=k.lt _ _ a4;rcases a7 with hA|hA
    ·by_cases e:y=b
     ·subst e;have h1:aB y mem=some (.cells sz els f (.rw tg)):=hb;rw [h1] at hy1;cases hy1;exact rfl
     ·have b1:=k.sep y b oy _ ly lb hy1 hb a4 hl e (by rw [←a6,hA]);cases oy with
      |cells b0 els' f' ro'=>exact(show f'=f from b1).symm
      |map _ _=>exact b1
      |miter _ _ _ _=>exact b1
    ·omega
   ·simp at a4;simp [hn1] at a1;subst a4;have:=k.lt _ _ a1;rcases a7 with hA|hA
    ·by_cases e:x=b
     ·subst e;have h1:aB x mem=some (.cells sz els f (.rw tg)):=hb;rw [h1] at hx1;cases hx1;exact rfl
     ·have b1:=k.sep x b ox _ lx lb hx1 hb a1 hl e (by rw [a6,hA]);cases ox with
      |cells b0 els' f' ro'=>exact(show f'=f from b1)
      |map _ _=>exact b1
      |miter _ _ _ _=>exact b1
    ·omega
   ·simp [hn1] at a1;simp [hn2] at a4;exact k.sep x y ox oy lx ly hx1 hy1 a1 a4 a2 a6
  ·
   intro x y sz1 els1 f1 c1 sz2 els2 d7 hx hy a2;show x∈aP f1 (gV f (next::b::rest) fams)
   by_cases hf:f1=f
   ·subst hf;rw [pD];rcases a0 x _ hx with⟨rfl,_⟩|⟨hn1,hd1,hx1⟩
    ·simp
    ·by_cases e:x=b
     ·subst e;simp
     ·have e8:x∈aP f1 fams:=k.fam x b _ _ _ _ _ _ _ hx1 hb e;rcases u3 x e8 e with h1|h1
      ·exact absurd h1 hd1
      ·simp [h1]
   ·rw [jQ hf];rcases a0 x _ hx with⟨rfl,e1⟩|⟨hn1,hd1,hx1⟩
    ·cases e1;exact absurd rfl hf
    ·rcases a0 y _ hy with⟨rfl,e2⟩|⟨hn2,hd2,hy1⟩
     ·cases e2;exact absurd rfl hf
     ·exact k.fam x y _ _ _ _ _ _ _ hx1 hy1 a2
  ·
   intro f1;show(aP f1 (gV f (next::b::rest) fams)).Pairwise _;have trans:∀x y,x≠next→y≠next→EndLe m mem x y→EndLe (fun x=>if x=next then some l' else m x) (dU next (some (.cells sz (old++new) f (.rw tg))) (iD a5 mem)) x y:=by
    intro x y d6 c0 e9 sz1 els1 f1 c1 sz2 els2 f2 d7 l1 l2 hx hy a8 b4 a6;rcases a0 x _ hx with⟨e,_⟩|⟨_,_,hx1⟩
    ·exact absurd e d6
    ·rcases a0 y _ hy with⟨e,_⟩|⟨_,_,hy1⟩
     ·exact absurd e c0
     ·simp [d6] at a8;simp [c0] at b4;exact e9 _ _ _ _ _ _ _ _ _ _ hx1 hy1 a8 b4 a6
   have a3:∀f2 x,x∈aP f2 fams→x≠next:=fun f2 x hx e=>by
    have:=k.flt f2 x hx;subst e;exact absurd this (rG _)
   have lift:∀L:List Id,(∀x∈L,x≠next)→L.Pairwise (EndLe m mem)→L.Pairwise (EndLe (fun x=>if x=next then some l' else m x) (dU next (some (.cells sz (old++new) f (.rw tg))) (iD a5 mem))):=by
    intro L hL hp;exact hp.imp_of_mem (fun hx hy h=>trans _ _ (hL _ hx) (hL _ hy) h)
   by_cases hf:f1=f
   ·subst hf;rw [pD];have e0:(b::rest).Pairwise (EndLe m mem):=by
     by_cases d2:b∈aP f1 fams
     ·obtain⟨b3,hpre⟩:=u4 d2;have ho:=k.ord f1;have c8:(b3++b::rest).Pairwise (EndLe m mem):=by rw [←hpre];exact ho
      exact(JD.1 c8).2.1
     ·rw [u5 d2];simp
    have c5:b≠next:=fun e=>by subst e;exact absurd d9 (rG _)
    have d4:∀x∈b::rest,x≠next:=by
     intro x hx;simp only [cM] at hx;rcases hx with rfl|hx
     ·exact c5
     ·exact a3 f1 x (u2 x hx)
    refine tI.2 ⟨?_,lift _ d4 e0⟩;intro y hy sz1 els1 f2 c1 sz2 els2 f3 d7 l1 l2 hx f0 a8 b4 a6;rcases a0 next _ hx with⟨_,e1⟩|⟨hn,_,_⟩
    ·cases e1;have c0:=d4 y hy;rcases a0 y _ f0 with⟨e,_⟩|⟨_,hd,hy1⟩
     ·exact absurd e c0
     ·simp at a8;subst a8;simp [c0] at b4;have e6:=k.lt _ _ b4;rcases a7 with hA|hA
      ·have h1:=c2 y _ _ _ _ l2 hd hy1 b4 (by rw [←a6,hA]);have h2:=c6 hA;omega
      ·omega
    ·exact absurd rfl hn
   ·rw [jQ hf];exact lift _ (fun x hx=>a3 f1 x hx) (k.ord f1)
  ·
   intro x lx hx
   by_cases e:x=next
   ·subst e;simp at hx;subst hx;exact a9.2
   ·simp [e] at hx;have:=k.lt _ _ hx;omega
  ·
   intro x sz1 els1 f1 c1 hx;show f1.toNat<nx.toNat;have f6:f.toNat<next.toNat:=k.famlt _ _ _ _ _ hb
   rcases a0 x _ hx with⟨rfl,e1⟩|⟨_,_,hx1⟩
   ·cases e1;omega
   ·have:f1.toNat<next.toNat:=k.famlt _ _ _ _ _ hx1;omega
  ·
   intro f1 x hx;show x.toNat<nx.toNat;have b2:x∈aP f1 (gV f (next::b::rest) fams):=hx
   by_cases hf:f1=f
   ·subst hf;rw [pD] at b2;simp only [cM] at b2;rcases b2 with rfl|rfl|b2
    ·omega
    ·omega
    ·have:x.toNat<next.toNat:=k.flt f1 x (u2 x b2);omega
   ·rw [jQ hf] at b2;have:x.toNat<next.toNat:=k.flt f1 x b2;omega
  ·
   intro B hB hn;refine b9 B hB ?_;rintro rfl;exact hn ⟨b,_,lb,hb,hl,rfl,by simp [jJ]⟩
  ·rcases hw with⟨rfl,_⟩|⟨rfl,_⟩<;>rfl
  ·rcases hw with⟨rfl,_⟩|⟨rfl,_⟩<;>rfl
  ·rcases hw with⟨rfl,_⟩|⟨rfl,_⟩<;>rfl
  ·
   intro x ox lx hx a1;rcases a0 x ox hx with⟨rfl,rfl⟩|⟨a2,hd,hx1⟩
   ·simp at a1;subst a1;rcases a7 with hA|hA
    ·exact .inr ⟨b,_,lb,hb,hl,hA.symm,fun _=>by simp [jJ]⟩
    ·exact .inl (by omega)
   ·simp [a2] at a1;exact .inr ⟨x,ox,lx,hx1,a1,rfl,id⟩
  ·
   intro x lx hx e4;have:x≠next:=fun e=>by subst e;exact absurd e4 (rG _)
   simpa [this] using hx
end
section
variable {P:Program} {m:Mp} {w:Wo}
def QJ {a0:Nat}:∀(r c:Nat),c≤2*a0+768→Builtin.growBy a0 r c≤2*a0+768
 |0,c,h=>h
 |r+1,c,h=>by
  simp only [Builtin.growBy];split
  ·exact h
  ·exact QJ r _ (by omega)
def Bb {a0:Nat} (h:cap<a0):Builtin.nextslicecap a0 cap≤2*a0+768:=by
 unfold Builtin.nextslicecap;split
 ·omega
 ·split
  ·omega
  ·exact QJ _ _ (by omega)
def run_append_room {x:Value} (h0:ts[0]?=some t) (h1:ts[1]?=some t2)
  (hu:P.underlying t=some (.slice el)) (a8:P.underlying t2=some u2) (a7:∀k,u2≠ .int k) (hi:P.info? el=some a2) (a3:(Builtin.lenOf x).run P w= .ok n w)
  (a5:len+n≤cap) (hf:(Builtin.firstCells a2.size n x).run P w= .ok a1 w):
  (Builtin.append_ ts ty #[.slice base len cap,x]).run P w=match (match base with|some a=>(storeCells (a.add (len*a2.size)) a1.toList).run P w|none=>.ok () w:Result Unit) with
   | .ok _ w'=>.ok (.slice base (len+n) cap) w'
   | .halt h w'=>.halt h w':=by
 unfold Builtin.append_;have hz:(match u2 with| .int _=>true|_=>false)=false:=by cases u2<;>first|rfl|exact absurd rfl (a7 _)
 cases base<;>simp [h0,h1,dQ hu,dQ a8,sizeOf,typeInfo,hi,hz,a3,a5,hf];cases (storeCells _ a1.toList).run P w<;>rfl
def run_append_grow {x:Value} (h0:ts[0]?=some t) (h1:ts[1]?=some t2)
  (hu:P.underlying t=some (.slice el)) (a8:P.underlying t2=some u2) (a7:∀k,u2≠ .int k) (hi:P.info? el=some a2) (hz:a2.zero=some z) (a3:(Builtin.lenOf x).run P w= .ok n w)
  (a5:cap<len+n) (b3:len+n≤2000000) (b0:a2.bytes≤1000000)
  (b1:(Builtin.firstCells a2.size len (.slice base len cap)).run P w.drew= .ok olds w.drew)
  (hf:(Builtin.firstCells a2.size n x).run P w.drew= .ok a1 w.drew):
  ∃nc,len+n≤nc∧(Builtin.append_ ts ty #[.slice base len cap,x]).run P w= .ok (.slice (some ⟨w.heap.size,0,none⟩) (len+n) nc)
   { w.drew with heap:=w.drew.heap.push (.cells (olds++a1++Builtin.zeroCells z.cells (nc-(len+n))) el (0,0)) }:=by
 refine⟨(Question.appendCap (len+n) cap el).cut (w.tape w.drawn (.appendCap (len+n) cap el)),by simp [Question.cut],?_⟩;unfold Builtin.append_;have b2:(match u2 with| .int _=>true|_=>false)=false:=by cases u2<;>first|rfl|exact absurd rfl (a7 _)
 have a9:¬(281474976710656<Builtin.nextslicecap (len+n) cap*a2.bytes):=by
  have h2:=rE (Bb a5) b0;omega
 have a4:¬(9223372036854775807<((len:Int)+(n:Int))):=by omega
 have a6:¬(len+n≤cap):=by omega
 simp [h0,h1,dQ hu,dQ a8,sizeOf,typeInfo,hi,b2,a3,a6,hf,b1,a9,a4,zeroValue,hz,newRow,askRoom,Question.forced];rfl
end
section
variable {P:Program} {m:Mp} {w:Wo}
structure ElsAt (P:Program) (m:Mp) (w:Wo) (S:Nat) (new:List (List V)) (uy:Value) (us:Lv):Prop where
 each:∀el∈new,el.length=S
 len:us.length=new.length*S
 rel:Rl m new.flatten us
 sc:∀y∈us,dR y
 lenOf:(Builtin.lenOf uy).run P w= .ok new.length w
 first:(Builtin.firstCells S new.length uy).run P w= .ok ⟨us⟩ w
def elsAt {h:H} (k:HR m h w) {sz:Nat} {x:V} {u:Value} {els:List (List V)} (hx:R m x u) (he:xO h (sz+1) x=some els):∃us,ElsAt P m w (sz+1) els u us:=by
 obtain⟨us,h1,h2,h3,h4,h5,h6⟩:=Fv (P:=P) k hx he;refine⟨us,h1,h2,h3,h4,h5,?_⟩;rw [h6 _ (aA _),←h2,vL]
structure AppTy (P:Program) (ts:Array TypeId) (S:Nat) (el:TypeId) (a5:TypeInfo) (z:Value):Prop where
 ty:∃t t2 u2,ts[0]?=some t∧ts[1]?=some t2∧P.underlying t=some (.slice el)∧P.underlying t2=some u2∧(∀k,u2≠ .int k)
 info:P.info? el=some a5
 zero:a5.zero=some z
 size:a5.size=S
 zs:z.cells.size=S
 bytes:a5.bytes≤1000000
def UM {h:H} (k:HR m h w) {b f:Id} {S len q cap:Nat} {els old new:List (List V)} {l:Loc} {v:V} {ts:Array TypeId} {ty el:TypeId} {a5:TypeInfo} {z uy:Value} {us b1:Lv}
  (T:AppTy P ts S el a5 z) (hS:0<S) (hb:aB b h.mem=some (.cells S els f (.rw el))) (hl:m b=some l) (hq:q+len=els.length) (a0:old=els.drop q) (hg:grown el S b f len old new h= .ok v h')
  (e0:len≤cap) (b3:q*S+cap*S≤l.lim) (A:ElsAt P m w S new uy us) (B:ElsAt P m w.drew S new uy b1) (f3:len+new.length≤2000000):
  ∃u w' m',(Builtin.append_ ts ty #[.slice (some ⟨l.blk,l.base+q*S,none⟩) len cap,uy]).run P w= .ok u w'∧Fr m h w m' h' w'∧R m' v u:=by
 obtain⟨⟨t,t2,u2,h0,h1,hu,hu2,hni⟩,hi,hz,hsize,hzs,hby⟩:=T;obtain⟨l2,hl2,C,tC,fz,hc⟩:=k.obj _ _ hb;rw [hl] at hl2;cases hl2;have e9:=flat_len hc.each;have d6:(els.drop q).length=len:=by rw [cW];omega
 have a3:∀el∈els.drop q,el.length=S:=fun el e7=>hc.each el (rI e7)
 have a9:old.flatten.length=len*S:=by rw [a0,flat_len a3,d6]
 have b6:=flat_len A.each;have d0:old.flatten=els.flatten.drop (q*S):=by rw [a0,xK _ _ hc.each]
 have f8:els.flatten.length=q*S+len*S:=by rw [e9,←hq,dP]
 have c2:(old++new).flatten=old.flatten++new.flatten:=by simp
 have a7:∀el∈old++new,el.length=S:=by
  intro e he;rcases cG.1 he with h|h
  ·exact a3 e (a0▸h)
  ·exact A.each e h
 by_cases a1:len+new.length≤cap
 ·
  have hr:=run_append_room (P:=P) (w:=w) (ty:=ty) (base:=some ⟨l.blk,l.base+q*S,none⟩) h0 h1 hu hu2 hni hi A.lenOf a1 (by rw [hsize];exact A.first);have c8:(len+new.length)*S≤cap*S:=eZ _ a1;rw [dP] at c8;have d2:=hc.room;have d7:=zI (P:=P) (b:=l.blk) (off:=l.base+q*S+len*S) us 0 C w hc.at_ (by have:=A.len;omega) A.sc (by
   intro j hj hf;have g5:j<new.length*S:=by rw [←A.len];exact hj
   have:=hc.free rfl (q*S+len*S+j) (by omega);exact this (by omega))
  simp only [hsize,nY] at hr;rw [d7] at hr;simp only [fG] at hr d7;generalize b2:(⟨C.toList.take (l.base+q*S+len*S)++us++C.toList.drop (l.base+q*S+len*S+us.length)⟩:Array Value)=C' at hr;have c4:C.toList.length=C.size:=by simp
  have d3:C'.size=C.size:=by
   rw [←b2];show(C.toList.take _++us++C.toList.drop _).length=_;have:=A.len;rw [aI,aI,aX,cW,c4];omega
  have b4:∀j,j<l.base+q*S+len*S→C'[j]?=C[j]?:=by
   intro j hj;rw [←b2,←gP,←gP];show(C.toList.take _++us++C.toList.drop _)[j]?=_;rw [fJ,dW (by rw [aX];omega),iY hj]
  have c9:∀j,j<us.length→C'[l.base+q*S+len*S+j]?=us[j]?:=by
   intro j hj;have b5:(C.toList.take (l.base+q*S+len*S)).length=l.base+q*S+len*S:=by rw [aX];omega
   rw [←b2,←gP];show(C.toList.take _++us++C.toList.drop _)[_]?=_;rw [fJ,dK (by omega),b5,dW (by omega)];congr 1;omega
  obtain⟨m',hF,hm,rfl⟩:=QI k hb hl hq a0 hg A.each (C':=C') (t:=tC) (fz':=fz) (w':={ w with heap:=w.heap.setIfInBounds l.blk (.cells C' tC fz) }) (l':=⟨l.blk,l.base+q*S,l.lim-q*S⟩)
   (.inl ⟨rfl,rfl,C,fz,hc.at_,hc,rfl,d3,fun j hj=>b4 j (by omega)⟩) (by
    intro m2 c1 c5;refine⟨c5,?_,?_,a7,?_,?_,hc.plain,hc.typ,by have:=hc.al;show(l.base+q*S)%S=0;rw [Kh];exact this⟩
    ·show l.base+q*S+(l.lim-q*S)≤C'.size;omega
    ·show(old++new).flatten.length≤l.lim-q*S;rw [c2,aI,a9,b6];omega
    ·intro i x hx;show∃u,C'[l.base+q*S+i]?=some u∧_;rw [c2] at hx
     by_cases hi:i<len*S
     ·rw [dW (by omega),d0,jF] at hx;obtain⟨u,g1,g2,g3⟩:=hc.val _ _ hx;exact⟨u,by rw [b4 _ (by omega),mU];exact g1,g2.mono c1,g3⟩
     ·rw [dK (by omega),a9] at hx;obtain⟨u,g1,g2⟩:=A.rel.get hx;have b5:=(aM.1 g1).1;refine⟨u,?_,g2.mono c1,A.sc u (aV g1)⟩;rw [←g1,←c9 _ b5];congr 1;omega
    ·intro _ i hi hf;have g0:i<l.lim-q*S:=hi;exact hc.free rfl (q*S+i) (by omega) (by
      have f9:fz.1≤l.base+q*S+i∧l.base+q*S+i<fz.2:=hf;omega))
  refine⟨_,_,m',hr,hF,?_⟩;simp only [R];refine⟨_,cap,hm,by simp,a1,?_⟩;show 0+cap*S≤l.lim-q*S;omega
 ·
  have a2:CellsAt m w.drew l S els (.rw el) C tC fz:=⟨hc.at_,hc.room,hc.len,hc.each,hc.val,hc.free,hc.plain,hc.typ,hc.al⟩;have f1:q*S%S=0:=Nat.mul_mod_left _ _;have d5:q*S/S=q:=Nat.mul_div_cancel _ hS;obtain⟨b9,e1,e2,e3,e4,e5,e6⟩:=GO (len:=len) a2 f1 (by rw [d5,d6];exact aA _);rw [d5,fH (by omega),←a0] at e4;have e8:(Builtin.firstCells a5.size len (.slice (some ⟨l.blk,l.base+q*S,none⟩) len cap)).run P w.drew= .ok ⟨b9⟩ w.drew:=by
   have b7:=UT (P:=P) (w:=w.drew) ⟨l.blk,l.base+q*S,none⟩ b9 (fun j v hv=>by
    rw [nY,uW a2.at_];exact e6 j v hv)
   rw [e3] at b7;simp only [Builtin.firstCells,hsize];simpa using b7
  obtain⟨nc,hnc,hr⟩:=run_append_grow (P:=P) (w:=w) (ty:=ty) h0 h1 hu hu2 hni hi hz A.lenOf (VI a1) f3 hby e8 (by rw [hsize];exact B.first);generalize b2:((⟨b9⟩:Array Value)++(⟨b1⟩:Array Value)++Builtin.zeroCells z.cells (nc-(len+new.length)))=C' at hr;have c4:C'.toList=b9++b1++(Builtin.zeroCells z.cells (nc-(len+new.length))).toList:=by rw [←b2];simp
  have d4:(Builtin.zeroCells z.cells (nc-(len+new.length))).size=(nc-(len+new.length))*S:=by simp [Builtin.zeroCells,hzs]
  have d3:C'.size=nc*S:=by
   rw [←b2,JR,JR,d4];show b9.length+b1.length+_=_;rw [e3,B.len,←dP,←dP];congr 1;omega
  have kd:HR m h w.drew:=k.drawn _;obtain⟨m',hF,hm,rfl⟩:=QI kd hb hl hq a0 hg A.each (C':=C') (t:=el) (fz':=(0,0)) (w':={ w.drew with heap:=w.drew.heap.push (.cells C' el (0,0)) }) (l':=⟨w.drew.heap.size,0,C'.size⟩)
   (.inr ⟨rfl,rfl⟩) (by
    intro m2 c1 c5;refine⟨c5,by simp,?_,a7,?_,fun _ i _ hf=>by simp at hf,fun _ _=>rfl,fun ty e=>by cases e;rfl,CZ _⟩
    ·show(old++new).flatten.length≤C'.size;rw [c2,aI,a9,b6,d3,←dP];exact eZ _ hnc
    ·intro i x hx;rw [c2] at hx;obtain⟨u,g1,g2⟩:=(e4.append B.rel).get hx;have b5:=(aM.1 g1).1;refine⟨u,?_,g2.mono c1,?_⟩
     ·show C'[0+i]?=some u;rw [bT,←gP,c4,dW b5,g1]
     ·rcases cG.1 (aV g1) with g|g
      ·exact e5 u g
      ·exact B.sc u g)
  refine⟨_,_,m',hr,(Fr.drawn k _).trans hF,?_⟩;simp only [R];refine⟨_,nc,hm,by simp,hnc,?_⟩;show 0+nc*S≤C'.size;omega
def Jp {h:H} (k:HR m h w) {sz:Nat} {x y v:V} {ux uy:Value} {new:List (List V)} {ts:Array TypeId} {ty el:TypeId} {a5:TypeInfo} {z:Value}
  (T:AppTy P ts (sz+1) el a5 z) (hx:R m x ux) (hy:R m y uy) (he:xO h (sz+1) y=some new) (ha:IF el h (sz+1) x new= .ok v h'):
  ∃u w' m',(Builtin.append_ ts ty #[ux,uy]).run P w= .ok u w'∧Fr m h w m' h' w'∧R m' v u:=by
 obtain⟨us,A⟩:=elsAt (P:=P) k hy he;obtain⟨b1,B⟩:=elsAt (P:=P) (k.drawn (w.drawn+1)) hy he;have T':=T;obtain⟨⟨t,t2,u2,h0,h1,hu,hu2,hni⟩,hi,hz,hsize,hzs,hby⟩:=T';unfold IF at ha;split at ha
 ·
  have f5:us= []:=gI (by rw [A.len];simp);subst f5;have b0:∀base len cap,len≤cap→(Builtin.append_ ts ty #[.slice base len cap,uy]).run P w= .ok (.slice base len cap) w:=by
   intro base len cap f0;have hr:=run_append_room (P:=P) (w:=w) (ty:=ty) (base:=base) (len:=len) (cap:=cap) h0 h1 hu hu2 hni hi A.lenOf (by simpa using f0) (by rw [hsize];exact A.first);rw [hr];cases base<;>simp [storeCells]
  split at ha
  ·cases ha;have a8:=hx;simp only [R] at a8;subst a8;exact⟨_,_,m,b0 none 0 0 (aA _),Fr.refl k,by simp [R]⟩
  ·cases ha;have a8:=hx;simp only [R] at a8;obtain⟨a,cap,rfl⟩:=a8;exact⟨_,_,m,b0 _ 0 cap (bX _),Fr.refl k,hx⟩
  ·cases ha;have a8:=hx;simp only [R] at a8;obtain⟨l,cap,hl,rfl,hlc,b3⟩:=a8;exact⟨_,_,m,b0 _ _ cap hlc,Fr.refl k,hx⟩
  ·cases ha
 ·rename_i n0 nr;cases hln:Nat.ble (oZ (n0::nr)) 1000000 with
  |false=>rw [hln] at ha;cases ha
  |true=>
  rw [hln] at ha;simp only [cS] at ha;have f4:(n0::nr).length≤1000000:=by have:=cQ hln;rwa [xG] at this
  split at ha
  ·
   simp only [R] at hx;subst hx;obtain⟨nc,hnc,hr⟩:=run_append_grow (P:=P) (w:=w) (ty:=ty) (base:=none) (len:=0) (cap:=0) h0 h1 hu hu2 hni hi hz A.lenOf (by simp) (by omega) hby (olds:=#[]) (by simp [Builtin.firstCells]) (by rw [hsize];exact B.first);have kd:HR m h w.drew:=k.drawn _;obtain⟨m',hF,hm,rfl⟩:=wW kd ha A.each B.rel B.sc (C:=(#[]:Array Value)++(⟨b1⟩:Array Value)++Builtin.zeroCells z.cells (nc-(0+(n0::nr).length))) (extra:=(Builtin.zeroCells z.cells (nc-(0+(n0::nr).length))).toList) (by simp) el (0,0) (.inl rfl);refine⟨_,_,m',hr,(Fr.drawn k _).trans hF,?_⟩;simp only [R,xG];refine⟨_,nc,hm,by simp,by omega,?_⟩;have d4:(Builtin.zeroCells z.cells (nc-(0+(n0::nr).length))).size=(nc-(0+(n0::nr).length))*(sz+1):=by simp [Builtin.zeroCells,hzs]
   show 0+nc*(sz+1)≤(_++_++_:Array Value).size;rw [JR,JR,d4];show 0+nc*(sz+1)≤0+b1.length+_;rw [B.len,bT,bT,←dP];exact eZ _ (by omega)
  ·rename_i b o len z0;split at ha
   ·rename_i f6 els f c3 hb;cases a2:(Nat.beq f6 (sz+1)&&(Nat.beq z0 (sz+1)&&(Nat.beq (Nat.mod o (sz+1)) 0&&(Nat.ble len 1000000&&Nat.beq c3 el)))) with
    |false=>rw [a2] at ha;cases ha
    |true=>
    rw [a2] at ha;simp only [cS] at ha;simp only [aN] at a2;have e1:=aT a2.1;subst e1;have e2:=aT a2.2.1;subst e2;have e3:o%(sz+1)=0:=aT a2.2.2.1;have e4:=cQ a2.2.2.2.1;have e5:=aT a2.2.2.2.2;subst e5;have hq:o/(sz+1)*(sz+1)=o:=by have:=lS o (sz+1);rw [cP,e3] at this;simpa using this
    simp only [R] at hx;obtain⟨l,cap,hl,rfl,hlc,b3⟩:=hx;generalize f2:o/(sz+1)=q at*;have d1:Nat.div o (sz+1)=q:=f2;rw [d1] at ha;subst hq;split at ha
    ·cases ha
    ·rename_i old a0;rw [CD] at a0;obtain⟨g1,g2⟩:=vZ _ _ _ a0;cases hfull:Nat.beq (Nat.add q len) (oZ els) with
     |true=>
      rw [hfull] at ha;simp only [cS] at ha;have h9:q+len=els.length:=by have:=aT hfull;rwa [xG] at this
      have a4:old=els.drop q:=by rw [g2,fH (by rw [cW];omega)]
      exact UM k T (UZ _) hb hl h9 a4 ha hlc (by omega) A B (by omega)
     | false=>
      rw [hfull] at ha;simp only [kV] at ha;split at ha
      ·rename_i cut c7;obtain⟨g3,g4⟩:=vZ _ _ _ c7;have f7:q+len≤els.length:=g3;have c0:cut=els.take (q+len):=g4;obtain⟨l2,hl2,C,tC,fz,hc⟩:=k.obj _ _ hb;rw [hl] at hl2;cases hl2;have c6:=k.lt _ _ hl;have b8:w={ w with heap:=w.heap.setIfInBounds l.blk (.cells C tC fz) }:=by
        have d9:=(aG.1 hc.at_).2;have:w.heap.setIfInBounds l.blk (.cells C tC fz)=w.heap:=by
         apply yX;intro j;simp only [lV]
         by_cases e:l.blk=j
         ·subst e;simp [c6,d9]
         ·simp [e]
        rw [this]
       have a6:cut.flatten=els.flatten.take ((q+len)*(sz+1)):=by rw [c0,flat_take _ _ hc.each]
       have F1:=Fr.updCells (els':=cut) (ro':=.rw c3) k hb hl b8 (fun _=>⟨C,tC,fz,⟨hc.at_,hc.room,by rw [a6,aX];have:=hc.len;omega,
        fun e he=>hc.each e (jS (c0▸he)),(fun i x hx=>by
         rw [a6,vQ] at hx;split at hx
         ·exact hc.val i x hx
         ·exact absurd hx (by simp)),hc.free,hc.plain,hc.typ,hc.al⟩⟩)
       have d8:aB b (eO (gT h f b) b (.cells (sz+1) cut f (.rw c3))).mem=some (.cells (sz+1) cut f (.rw c3)):=by rw [rQ];exact gK _ _ _
       have a4:old=cut.drop q:=by rw [g2,c0,List.drop_take];congr 1;omega
       obtain⟨u,w',m',r1,r2,r3⟩:=UM F1.hr T (ty:=ty) (UZ _) d8 hl (by rw [c0,aX];omega) a4 ha hlc (by omega) A B (by omega);exact⟨u,w',m',r1,F1.trans r2,r3⟩
      ·cases ha
   ·cases ha
  ·cases ha
end
section
variable {P:Program} {m:Mp} {w:Wo}
def Ab {h:H} (k:HR m h w) {b f:Id} {sz o ty:Nat} {els els':List (List V)} {xs:List V} {xs':Lv} {l:Loc} {C:Array Value} {t:TypeId} {fz:Nat × Nat}
  (hb:aB b h.mem=some (.cells sz els f (.rw ty))) (hl:m b=some l) (hc:CellsAt m w l sz els (.rw ty) C t fz) (hx:Rl m xs xs') (hs:∀x∈xs',dR x)
  (a8:o+xs.length≤els.flatten.length) (a3:els'.flatten=els.flatten.take o++xs++els.flatten.drop (o+xs.length)) (a1:∀e∈els',e.length=sz):
  ∃w',(storeCells ⟨l.blk,l.base+o,none⟩ xs').run P w= .ok () w'∧Fr m h w m (eO (gT h f b) b (.cells sz els' f (.rw ty))) w':=by
 have a2:=hc.room;have b0:=hc.len;have a5:=hx.length;have a4:=zI (P:=P) (b:=l.blk) (off:=l.base+o) (t:=t) (fz:=fz) xs' 0 C w hc.at_ (by omega) hs (fun j hj=>by
  have:=hc.free rfl (o+j) (by omega);rw [show l.base+(o+j)=l.base+o+0+j by omega] at this;exact this)
 refine⟨_,a4,Fr.updCells k hb hl rfl ?_⟩;intro a7;refine⟨_,t,fz,⟨a7,?_,?_,?_,?_,hc.free,hc.plain,hc.typ,hc.al⟩⟩
 ·have:(⟨C.toList.take (l.base+o+0)++xs'++C.toList.drop (l.base+o+0+xs'.length)⟩:Array Value).size=C.size:=by
   show(C.toList.take (l.base+o+0)++xs'++C.toList.drop (l.base+o+0+xs'.length)).length=C.size;simp only [aI,aX,cW,cU];omega
  rw [this];exact a2
 ·rw [a3];simp only [aI,aX,cW,cU];omega
 ·exact a1
 ·intro i x a0;rw [a3] at a0;have a6:∀j:Nat,(⟨C.toList.take (l.base+o+0)++xs'++C.toList.drop (l.base+o+0+xs'.length)⟩:Array Value)[j]?=
    (C.toList.take (l.base+o)++xs'++C.toList.drop (l.base+o+xs'.length))[j]?:=by intro j;simp
  rw [a6]
  by_cases c1:i<o
  ·rw [fJ,dW (by simp only [aI,aX,cW,cU];omega),iY c1] at a0;obtain⟨u,h1,h2,h3⟩:=hc.val i x a0;refine⟨u,?_,h2,h3⟩;rw [fJ,dW (by simp only [aI,aX,cW,cU];omega),iY (by omega)];simpa using h1
  ·by_cases c2:i<o+xs.length
   ·rw [fJ,dK (by simp only [aI,aX,cW,cU];omega),dW (by simp only [aI,aX,cW,cU];omega)] at a0;have e1:i-(els.flatten.take o).length=i-o:=by simp only [aI,aX,cW,cU];omega
    rw [e1] at a0;obtain⟨u,h1,h2⟩:=hx.get a0;refine⟨u,?_,h2,hs u (aV h1)⟩;rw [fJ,dK (by simp only [aI,aX,cW,cU];omega),dW (by simp only [aI,aX,cW,cU];omega),←h1];congr 1;simp only [aI,aX,cW,cU];omega
   ·rw [dK (by simp only [aI,aX,cW,cU];omega),jF] at a0;have e1:o+xs.length+(i-(els.flatten.take o++xs).length)=i:=by simp only [aI,aX,cW,cU];omega
    rw [e1] at a0;obtain⟨u,h1,h2,h3⟩:=hc.val i x a0;refine⟨u,?_,h2,h3⟩;rw [dK (by simp only [aI,aX,cW,cU];omega),jF];have e2:l.base+o+xs'.length+(l.base+i-(C.toList.take (l.base+o)++xs').length)=l.base+i:=by simp only [aI,aX,cW,cU];omega
    rw [e2];simpa using h1
def Ac {h:H} (k:HR m h w) {b f:Id} {sz q ty:Nat} {els els' xs:List (List V)} {us:Lv} {l:Loc} (hb:aB b h.mem=some (.cells sz els f (.rw ty))) (hl:m b=some l)
  (hx:Rl m xs.flatten us) (hs:∀x∈us,dR x) (he:∀e∈xs,e.length=sz) (ho:iB q els xs=some els'):
  ∃w',(storeCells ⟨l.blk,l.base+q*sz,none⟩ us).run P w= .ok () w'∧Fr m h w m (eO (gT h f b) b (.cells sz els' f (.rw ty))) w':=by
 obtain⟨l2,hl2,C,t,fz,hc⟩:=k.obj _ _ hb;rw [hl] at hl2;cases hl2;obtain⟨h1,rfl⟩:=uD _ _ _ ho;have b2:=flat_len hc.each;have a5:=flat_len he;have a9:(q+xs.length)*sz≤els.length*sz:=eZ _ h1;rw [dP] at a9;refine Ab k hb hl hc hx hs (by omega) ?_ ?_
 ·rw [Kw,Kw,flat_take _ _ hc.each,xK _ _ hc.each,a5,dP]
 ·intro e h;rcases cG.1 h with h|h
  ·rcases cG.1 h with h|h
   ·exact hc.each e (jS h)
   ·exact he e h
  ·exact hc.each e (rI h)
def Ch {h:H} (k:HR m h w) {t:TypeId} {x:Option Value} {v:V} (hx:x=none∨(∃kt et kk n,P.underlying t=some (.map kt et)∧x=some (.int kk n))) (hn:sE h (fun _=>.map [] 0) (fun i=>.mp i)= .ok v h'):
  ∃u w' m',(Instr.makeMap t x).run P w= .ok u w'∧Fr m h w m' h' w'∧R m' v u:=by
 obtain⟨nx,hnx,rfl,rfl⟩:=AG hn;refine⟨.map (some w.heap.size),_,_,?_,Fr.new k hnx (.map #[] 0) (.map [] 0) ⟨w.heap.size,0,0⟩ rfl (fun _ _ _ _ e=>by cases e) trivial ?_,?_⟩
 ·rcases hx with rfl|⟨kt,et,kk,n,hu,rfl⟩
  ·simp [Instr.makeMap]
  ·simp [Instr.makeMap,dQ hu,asInt,asIntOf]
 ·intro m' hm w' b1;exact⟨[],b1,by simp [bP]⟩
 ·simp [R]
end
section
variable {P:Program} {m:Mp} {w:Wo}
def ZQ {h:H} (k:HR m h w) {t kt et:TypeId} {b:Id} {l:Loc} {es:List Ent} {a0:Nat} {v:V} (hu:P.underlying t=some (.map kt et)) (hl:m b=some l) (he:iH h b=some (es,a0))
  (hn:sE h (fun _=>.miter b a0 [] a0) (fun i=>.p i 0)= .ok v h'):
  ∃u' w' m',(Instr.range t (.map (some l.blk))).run P w= .ok u' w'∧Fr m h w m' h' w'∧R m' v u':=by
 obtain⟨nx,hnx,rfl,rfl⟩:=AG hn;obtain⟨l2,es',hb,hl2,hat,hes⟩:=pE k he;rw [hl] at hl2;cases hl2;have hg:(getObj l.blk).run P w= .ok (.map ⟨es'⟩ a0) w:=zJ hat (fun _ _ _ e=>by cases e);refine⟨.pointer (some ⟨w.heap.size,0,none⟩),_,_,?_,Fr.new k hnx (.mapIter (some l.blk) a0 #[] a0) (.miter b a0 [] a0) ⟨w.heap.size,0,0⟩ rfl (fun _ _ _ _ e=>by cases e) trivial ?_,?_⟩
 ·simp [Instr.range,dQ hu,hg]
 ·intro m' hm w' b8;exact⟨rfl,l,hm _ _ hl,b8⟩
 ·simp [R]
def bP.filter {p:Nat→Bool}:∀{es:List Ent} {xs:List MapEntry},bP m es xs→bP m (es.filter fun e=>p e.born) (xs.filter fun e=>p e.born)
 | [],xs,h=>by simp only [bP] at h;subst h;simp [bP]
 |e::es,xs,h=>by
  obtain⟨x,xs,rfl,hx,hxs⟩:=h;have hb:x.born=e.born:=hx.2.2;simp only [List.filter_cons,hb];split
  ·exact⟨x,_,rfl,hx,bP.filter hxs⟩
  ·exact bP.filter hxs
def bP.all {p:Nat→Bool}:∀{es:List Ent} {xs:List MapEntry},bP m es xs→(xs.all fun e=>p e.born)=(es.all fun e=>p e.born)
 | [],xs,h=>by simp only [bP] at h;subst h;rfl
 |e::es,xs,h=>by
  obtain⟨x,xs,rfl,hx,hxs⟩:=h;have hb:x.born=e.born:=hx.2.2;simp only [mX,hb,bP.all hxs]
def bP.empty:∀{es:List Ent} {xs:List MapEntry},bP m es xs→xs.isEmpty=es.isEmpty
 | [],xs,h=>by simp only [bP] at h;subst h;rfl
 |e::es,xs,h=>by obtain⟨x,xs,rfl,_,_⟩:=h;rfl
def Be {h:H} (k:HR m h w) {ty:TypeId} {b:Id} {l:Loc} {v:V} (hl:m b=some l) (hn:EV h b= .ok v h'):
  ∃u' w' m',(Instr.next (.pointer (some ⟨l.blk,l.base+0,none⟩)) false ty).run P w= .ok u' w'∧Fr m h w m' h' w'∧R m' v u':=by
 unfold EV at hn;split at hn
 ·rename_i mi a2 seen a3 hb;obtain⟨l1,hl1,h0,lm,hlm,hit⟩:=k.obj _ _ hb;rw [hl] at hl1;cases hl1;have hg:(getObj l.blk).run P w= .ok (.mapIter (some lm.blk) a2 ⟨seen⟩ a3) w:=zJ hit (fun _ _ _ e=>by cases e);rw [h0];split at hn
  ·rename_i es a0 he;obtain⟨l2,es',hb2,hl2,hat,hes⟩:=pE k he;have a9:lm=l2:=by rw [hlm] at hl2;cases hl2;rfl
   subst a9;have b2:(getObj lm.blk).run P w= .ok (.map ⟨es'⟩ a0) w:=zJ hat (fun _ _ _ e=>by cases e);cases hgone:(!seen.isEmpty&& !es.isEmpty&&es.all (fun e=>Nat.ble a3 e.born)) with
   |true=>rw [hgone] at hn;cases hn
   |false=>
   rw [hgone] at hn;simp only [kV] at hn;have a4:(!seen.isEmpty&& !es'.isEmpty&&es'.all (fun e=>decide (e.born≥a3)))=false:=by
    rw [hes.empty,←hgone];congr 1;have:=hes.all (p:=fun n=>Nat.ble a3 n);rw [←this];congr 1;funext e;rw [jH];simp
   have a1:=hes.filter (p:=fun n=>!seen.any (Nat.beq n));have b1:(es'.filter fun e=>!seen.contains e.born)=(es'.filter fun e=>!seen.any (Nat.beq e.born)):=by
    congr 1;funext e;congr 1;rw [jH];simp
   have b3:nD seen es=es.filter fun e=>!seen.any (Nat.beq e.born):=rfl
   have b0:∀o',(setObj l.blk o').run P w= .ok () { w with heap:=w.heap.setIfInBounds l.blk o' }:=fun o'=>tW hit (fun _ _ _ e=>by cases e)
   split at hn
   ·rename_i a5;cases hn;rw [b3] at a5;rw [a5] at a1;simp only [bP] at a1;rw [←b1] at a1;refine⟨.tuple #[.bool false],w,m,?_,Fr.refl k,by simp [R,Rl]⟩;have hA:((⟨es'⟩:Array MapEntry).filter fun e=>!(⟨seen⟩:Array Nat).contains e.born)=#[]:=by
     apply kY.1;simpa using a1
    unfold Instr.next;have a8:(!(⟨seen⟩:Array Nat).isEmpty&& !(⟨es'⟩:Array MapEntry).isEmpty&&(⟨es'⟩:Array MapEntry).all fun e=>decide (e.born≥a3))=false:=by
     rw [←a4];simp
    simp only [hg,b2,aU,Result.andThen,a8,hA,eH,gX];simp [Question.forced]
   ·rename_i e a6;rw [b3] at a6;rw [a6] at a1;obtain⟨x,xs0,hx0,hxe,hxn⟩:=a1;simp only [bP] at hxn;subst hxn;rw [←b1] at hx0;cases hbo:Nat.ble (Nat.succ e.born) a2 with
    |false=>rw [hbo] at hn;cases hn
    | true=>
     rw [hbo] at hn;simp only [cS] at hn;cases hn;have b5:x.born<a2:=by rw [hxe.2.2];exact cQ hbo
     refine⟨.tuple #[.bool true,x.key,x.val],_,m,?_,Fr.updObj k hb hl (fun _ _ _ _ e=>by cases e) (fun _ _ _ _ e=>by cases e) (o':=.mapIter (some lm.blk) a2 ⟨seen++ [e.born]⟩ a0) rfl (fun a7=>⟨h0,lm,hlm,a7⟩),?_⟩
     ·have hA:((⟨es'⟩:Array MapEntry).filter fun e=>!(⟨seen⟩:Array Nat).contains e.born)=#[x]:=by
       apply kY.1;simpa using hx0
      unfold Instr.next;have a8:(!(⟨seen⟩:Array Nat).isEmpty&& !(⟨es'⟩:Array MapEntry).isEmpty&&(⟨es'⟩:Array MapEntry).all fun e=>decide (e.born≥a3))=false:=by
       rw [←a4];simp
      simp only [hg,b2,aU,Result.andThen,a8,hA,eH,gX];have b6:(#[x].filter fun x=>decide (x.born<a2))=#[x]:=by simp [b5]
      have b7:(#[x].filter fun x=>decide (x.born≥a2))=#[]:=by simp;omega
      have b4:x.born=e.born:=hxe.2.2;simp only [b6,b7];simp [Question.forced,b0,b4]
     ·simp only [R,Rl];exact⟨_,rfl,_,_,rfl,rfl,_,_,rfl,hxe.1,_,_,rfl,hxe.2.1,rfl⟩
   ·cases hn
  ·cases hn
 ·cases hn
end
section
variable {P:Program} {m:Mp} {w:Wo}
def SY:∀(els:List (List V)) {bs:List Nat} {us:Lv},uX els=some bs→Rl m els.flatten us→us=bs.map (fun n:Nat=>Value.int .u8 (n:Int))∧(∀n∈bs,n<256)∧bs.length=els.length
 | [],bs,us,hb,hr=>by
  simp only [uX,cJ] at hb;subst hb;simp only [List.flatten_nil,Rl] at hr;subst hr;simp
 | el::els,bs,us,hb,hr=>by
  unfold uX at hb;split at hb
  ·rename_i e;cases e
  ·rename_i n r e;cases e;cases hn:Nat.ble n 255 with
   |false=>rw [hn] at hb;cases hb
   | true=>
    rw [hn] at hb;simp only [cS] at hb;cases hr2:uX els with
    |none=>rw [hr2] at hb;cases hb
    |some l=>
     rw [hr2] at hb;cases hb;simp only [jT,mW,kX,Rl] at hr;obtain⟨u,us',rfl,hu,hrest⟩:=hr;simp only [R] at hu;subst hu;obtain⟨g1,g2,g3⟩:=SY els hr2 hrest;have:=cQ hn;refine⟨by simp [g1],?_,by simp [g3]⟩;intro x hx;rcases cM.1 hx with rfl|hx
     ·omega
     ·exact g2 x hx
  ·cases hb
end
section
variable {P:Program} {m:Mp} {w:Wo}
def Hl {h:H} (k:HR m h w) {sz:Nat} {x v z:V} {zc:List V} {ux:Value} {ts:Array TypeId} {t ty el:TypeId} (h0:ts[0]?=some t) (hu:P.underlying t=some (.slice el))
  (hz:fY P el=some z) (hc:dV z=some zc) (a1:zc.length=sz+1) (hx:R m x ux) (ha:GW h (sz+1) zc x= .ok v h'):
  ∃u w' m',(Builtin.clear_ ts ty #[ux]).run P w= .ok u w'∧Fr m h w m' h' w'∧R m' v u:=by
 obtain⟨uz,hzr,rfl,_⟩:=lW (w:=w) hz;obtain⟨a2,h1,h2,h3⟩:=qW (m:=m) hc;have a4:uz.cells.size=sz+1:=by rw [h1];show a2.length=_;rw [h2.length,a1]
 unfold GW at ha;split at ha
 ·rename_i b o len zz;split at ha
  ·rename_i a5 els f a6 hb;cases hcd:(Nat.beq a5 (sz+1)&&(Nat.beq zz (sz+1)&&Nat.beq (Nat.mod o (sz+1)) 0)) with
   |false=>rw [hcd] at ha;cases ha
   |true=>
   rw [hcd] at ha;simp only [cS] at ha;simp only [aN] at hcd;have e1:=aT hcd.1;subst e1;have e2:=aT hcd.2.1;subst e2;have e3:o%(sz+1)=0:=aT hcd.2.2;have hq:o/(sz+1)*(sz+1)=o:=by have:=lS o (sz+1);rw [cP,e3] at this;simpa using this
   simp only [R] at hx;obtain⟨l,cap,hl,rfl,hlc,hlim⟩:=hx;split at ha
   ·rename_i els' a3;cases ha;obtain⟨w',r1,r2⟩:=Ac (P:=P) (q:=o/(sz+1)) k hb hl (h2.rep len) (zM h3 len) (by
     intro e0 he;rw [wE] at he;rw [(DE.1 he).2,a1]) a3
    rw [hq] at r1;have a0:(Builtin.zeroCells uz.cells len).toList=(List.replicate len a2).flatten:=by
     rw [Builtin.zeroCells,yY uz.cells len (by omega),h1]
    refine⟨.tuple #[],w',m,?_,r2,by simp [R,Rl,cN]⟩;cases len with
    |zero=>
     simp only [JB,List.flatten_nil,storeCells,cC] at r1;cases r1;simp [Builtin.clear_,h0,dQ hu]
    |succ n=>
     simp [Builtin.clear_,h0,dQ hu,hzr,a0,r1]
   ·cases ha
  ·cases ha
 ·cases ha;simp only [R] at hx;subst hx;exact⟨.tuple #[],w,m,by simp [Builtin.clear_,h0,dQ hu],Fr.refl k,by simp [R,Rl,cN]⟩
 ·cases ha;simp only [R] at hx;obtain⟨a,cap,rfl⟩:=hx;exact⟨.tuple #[],w,m,by simp [Builtin.clear_,h0,dQ hu],Fr.refl k,by simp [R,Rl,cN]⟩
 ·cases ha
end
section
variable {P:Program} {m:Mp} {w:Wo}
def Ep {a:Addr} (h:w.heap[a.block]?=some (.cells C t fz)) (hn:n≠0):
  ∃fz',w.freeze a n={ w with heap:=w.heap.setIfInBounds a.block (.cells C t fz') }:=by
 obtain⟨lo,hi⟩:=fz;refine⟨if lo==hi then(a.off,a.off+n) else(min lo a.off,max hi (a.off+n)),?_⟩;unfold World.freeze;rw [if_neg hn];congr 1;apply yX;intro j;rw [mY,lV];have b0:=(aG.1 h).1
 by_cases e:a.block=j
 ·subst e;rw [h];simp [b0]
 ·simp [e]
def Fr.updCellsR {h:H} (k:HR m h w) {b f:Id} {sz:Nat} {els els':List (List V)} {ro ro':Rw} {l:Loc} {o':Obj}
  (hb:aB b h.mem=some (.cells sz els f ro)) (c8:ro≠ .fz) (hl:m b=some l)
  (d2:w'={ w with heap:=w.heap.setIfInBounds l.blk o' })
  (c7:w'.heap[l.blk]?=some o'→ObjAt m w' l (.cells sz els' f ro')):
  Fr m h w m (eO (gT h f b) b (.cells sz els' f ro')) w':=by
 rw [rQ,xF];have hk:∀x ox,aB x (iD (kC b (aP f h.fams)) h.mem)=some ox→aB x h.mem=some ox∧(x∈aP f h.fams→x=b):=by
  intro x ox hx;rw [lJ] at hx;split at hx
  ·cases hx
  ·rename_i hn;refine⟨hx,fun hm=>?_⟩
   by_cases e:x=b
   ·exact e
   ·exact absurd ((qB b _ x).2 ⟨hm,e⟩) hn
 refine Fr.upd k hb hl (by simpa [jJ] using c8) (fun x ox hx=>(hk x ox hx).1) ?_ ?_ ?_ ?_ (fun sz1 els1 f1 a8 e=>by cases e;exact⟨b,_,_,_,hb⟩) ?_ d2 c7
 ·intro x ox lx a4 hx c5 c3;obtain⟨a2,hm⟩:=hk x ox hx;have hs:=k.sep x b ox _ lx l a2 hb c5 hl a4 c3;cases ox with
  |cells sz1 els1 f1 a8=>
   have hf:f1=f:=hs;subst hf;exact a4 (hm (k.fam x b _ _ _ _ _ _ _ a2 hb a4))
  |_=>exact hs
 ·intro x y sz1 els1 f1 a8 sz2 els2 b8 hx hy a4;have a0:x=b∧f1=f∨x≠b∧aB x h.mem=some (.cells sz1 els1 f1 a8)∧(x∈aP f h.fams→x=b):=by
   by_cases e:x=b
   ·subst e;rw [gK] at hx;cases hx;exact .inl ⟨rfl,rfl⟩
   ·rw [eX e] at hx;exact .inr ⟨e,hk x _ hx⟩
  have b7:y=b∧f1=f∨y≠b∧aB y h.mem=some (.cells sz2 els2 f1 b8)∧(y∈aP f h.fams→y=b):=by
   by_cases e:y=b
   ·subst e;rw [gK] at hy;cases hy;exact .inl ⟨rfl,rfl⟩
   ·rw [eX e] at hy;exact .inr ⟨e,hk y _ hy⟩
  by_cases hf:f1=f
  ·subst hf;rcases a0 with⟨rfl,_⟩|⟨hn1,a2,hm1⟩
   ·rcases b7 with⟨rfl,_⟩|⟨hn2,a7,hm2⟩
    ·exact absurd rfl a4
    ·exact absurd (hm2 (k.fam y x _ _ _ _ _ _ _ a7 hb hn2)) hn2
   ·exact absurd (hm1 (k.fam x b _ _ _ _ _ _ _ a2 hb hn1)) hn1
  ·have a2:aB x h.mem=some (.cells sz1 els1 f1 a8):=by
    rcases a0 with⟨_,e⟩|⟨_,a2,_⟩
    ·exact absurd e hf
    ·exact a2
   have a7:aB y h.mem=some (.cells sz2 els2 f1 b8):=by
    rcases b7 with⟨_,e⟩|⟨_,a7,_⟩
    ·exact absurd e hf
    ·exact a7
   have:=k.fam x y _ _ _ _ _ _ _ a2 a7 a4;show x∈aP f1 _;split
   ·exact this
   ·rw [jQ hf];exact this
 ·intro f1;show(aP f1 _).Pairwise _;split
  ·exact k.ord f1
  ·by_cases e:f1=f
   ·subst e;rw [pD];exact .nil
   ·rw [jQ e];exact k.ord f1
 ·intro sz1 els1 f1 a8 e;cases e;exact k.famlt _ _ _ _ _ hb
 ·intro f1 x hx;have a0:x∈aP f1 (if aP f h.fams= [] then h.fams else gV f [] h.fams):=hx;split at a0
  ·exact k.flt f1 x a0
  ·by_cases e:f1=f
   ·subst e;rw [pD] at a0;cases a0
   ·rw [jQ e] at a0;exact k.flt f1 x a0
def WZ {h:H} (k:HR m h w) {t t2 el ty:TypeId} {ts:List TypeId} {x v:V} {ux:Value} {n:Nat} (hu:P.underlying t=some (.pointer el)) (hs:bJ P el=some 1) (hx:R m x ux)
  (hv:DL el h x n= .ok v h'):∃u w' m',(Builtin.unsafeString_ ⟨t::t2::ts⟩ ty #[ux,.int .i64 (n:Int)]).run P w= .ok u w'∧Fr m h w m' h' w'∧R m' v u:=by
 have b1:IntKind.i64.max=9223372036854775807:=rfl;have d5:(⟨t::t2::ts⟩:Array TypeId)[0]?=some t:=by simp
 unfold DL at hv;cases n with
 | zero=>
  simp only at hv;have hp:∃p,ux= .pointer p:=by
   split at hv
   ·simp only [R] at hx;exact⟨_,hx⟩
   ·simp only [R] at hx;obtain⟨l,_,hx⟩:=hx;exact⟨_,hx⟩
   ·cases hv
  have d1:v= .s 0 0∧h'=h:=by
   split at hv
   ·cases hv;exact⟨rfl,rfl⟩
   ·cases hv;exact⟨rfl,rfl⟩
   ·cases hv
  obtain⟨p,rfl⟩:=hp;obtain⟨rfl,rfl⟩:=d1;refine⟨.string .empty,w,m,?_,Fr.refl k,?_⟩
  ·cases p with
   |none=>
    rfl
   |some a=>
    rfl
  ·have:=R_strOf m ByteArray.empty;simpa [eK,wB,mJ] using this
 | succ n=>
  simp only at hv;obtain⟨b,o,e0,hv1⟩:=CP hv;clear hv;have hv:=hv1;clear hv1;subst e0;simp only [R] at hx;obtain⟨l,hl,rfl⟩:=hx;split at hv
  ·rename_i sz els f ro hb;split at hv
   case h_2=>cases hv
   rename_i d4 b5;cases hcd:(Nat.beq sz 1&&(Nat.beq d4 el&&Nat.ble n 1000000)) with
   |false=>rw [hcd] at hv;cases hv
   | true=>
    rw [hcd] at hv;simp only [cS] at hv;simp only [aN] at hcd;have e1:=aT hcd.1;subst e1;have e2:=aT hcd.2.1;subst e2;have e3:=cQ hcd.2.2;split at hv
    ·rename_i L hL;split at hv
     ·rename_i bs c2;cases hv;obtain⟨l2,hl2,C,tC,fz,hc⟩:=k.obj _ _ hb;rw [hl] at hl2;cases hl2;have ht:=hc.typ _ b5;subst ht;rw [CD] at hL;obtain⟨g1,g2⟩:=vZ _ _ _ hL;have b3:o+(n+1)≤els.length:=by rw [cW] at g1;omega
      obtain⟨us,s1,s2,s3,s4,s5,s6⟩:=GO (o:=o) (len:=n+1) hc (IV _) (by rw [IX];exact g1);rw [IX,←g2] at s4;obtain⟨q1,q2,q3⟩:=SY L c2 s4;have b6:us.length=n+1:=by rw [s3];omega
      have c1:bs.length=n+1:=by rw [q1] at b6;simpa using b6
      have a5:∀j y,(bs.map UInt8.ofNat)[j]?=some y→w.cell? ((⟨l.blk,l.base+o,none⟩:Addr).add j)=some (.int .u8 y.toNat):=by
       intro j y hy;rw [nY,uW hc.at_];have d3:us[j]?=some (.int .u8 (y.toNat:Int)):=by
        rw [q1];rw [gO] at hy ⊢;cases hbj:bs[j]? with
        |none=>rw [hbj] at hy;cases hy
        |some x=>
         rw [hbj] at hy;simp only [rD,cJ] at hy ⊢;subst hy;have b0:=q2 x (aV hbj);simp [rF b0]
       exact s6 j _ d3
      have a1:=Lib.run_loadBytes (P:=P) w (bs.map UInt8.ofNat) ⟨l.blk,l.base+o,none⟩ .empty a5;rw [jE,c1] at a1;have b4:=hc.room;have c4:=hc.len;have d6:=flat_len hc.each;have a6:=PH (P:=P) (cells:=C.size) (off:=l.base+o) (n:=n+1) (SQ hs) Nat.one_pos (IV _) (by omega);have c9:=DV hc.at_;obtain⟨fz',hfz⟩:=Ep (w:=w) (a:=⟨l.blk,l.base+o,none⟩) (n:=n+1) hc.at_ (by omega);have b2:¬((n:Int)+1<0):=by omega
      have a9:¬((9223372036854775807:Int)<(n:Int)+1):=by omega
      have c6:¬((n:Int)+1=0):=by omega
      have d0:((n:Int)+1).toNat=n+1:=by omega
      refine⟨.string ⟨ByteArray.empty.data++(bs.map UInt8.ofNat).toArray⟩,w.freeze ⟨l.blk,l.base+o,none⟩ (n+1),m,?_,?_,?_⟩
      ·have a3:∃s1 s2 s3,Builtin.unsafeString_ ⟨t::t2::ts⟩ ty #[.pointer (some ⟨l.blk,l.base+o,none⟩),.int .i64 ((n+1:Nat):Int)]=
        (do
         let n←asInt (.int .i64 ((n+1:Nat):Int))
         if n<0 then runtimePanic (.error s1)
         if n>IntKind.i64.max then unsupported (.unsafePointer s2)
         if n=0 then pure (.string .empty)
         else if←variablesAt ⟨l.blk,l.base+o,none⟩ (←elemOf t) n.toNat then do
          let s←loadBytes ⟨l.blk,l.base+o,none⟩ .empty n.toNat
          freeze ⟨l.blk,l.base+o,none⟩ n.toNat
          pure (.string s)
         else unsupported (.unsafePointer s3)):=⟨_,_,_,rfl⟩
       obtain⟨s1,s2,s3,a3⟩:=a3;rw [a3];simp [asInt,asIntOf,b1,b2,a9,c6,d0,variablesAt,elemOf,dQ hu,c9,a6,a1]
      ·rw [hfz];refine Fr.updCellsR k hb (fun e=>by subst e;cases b5) hl rfl ?_;intro b9;exact⟨C,_,fz',⟨b9,hc.room,hc.len,hc.each,hc.val,(fun hx=>Bool.noConfusion hx),(fun hx=>Bool.noConfusion hx),(fun ty e=>aK e),hc.al⟩⟩
      ·have hR:=R_strOf m (⟨ByteArray.empty.data++(bs.map UInt8.ofNat).toArray⟩:ByteArray);have c0:eK (⟨ByteArray.empty.data++(bs.map UInt8.ofNat).toArray⟩:ByteArray)=bs:=by
        simp only [eK];have:(ByteArray.empty.data++(bs.map UInt8.ofNat).toArray).toList=bs.map UInt8.ofNat:=by simp
        rw [this,List.map_map];have hid:∀x∈bs,(UInt8.toNat∘UInt8.ofNat) x=x:=fun x hx=>by
         have:=q2 x hx;simp [rF this]
        rw [Kt hid];simp
       rw [c0] at hR;exact hR
     ·cases hv
    ·cases hv
  ·cases hv
end
end
end Go.Ev
