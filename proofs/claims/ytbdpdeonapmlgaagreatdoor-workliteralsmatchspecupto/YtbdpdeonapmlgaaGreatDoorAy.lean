/- Lemmas for the text Card; no condition. -/
import Derived.Test.YtbdpdeonapmlgaaGreatDoorZ
import GoSem.Step
set_option linter.all false
namespace Go.Ev
noncomputable section
inductive D8 where
  |d0|d1|d2|d3|d4|d5|d6|d7
structure N8 (α:Type) where
  a0:α
  a1:α
  a2:α
  a3:α
  a4:α
  a5:α
  a6:α
  a7:α
structure Id where
  a:D8
  b:D8
  c:D8
  d:D8
  e:D8
inductive V where
  |top
  |b (x:Bool)
  |i (k:IntKind) (n:Int)
  |s (len b4:Nat)
  |pn
  |p (b:Id) (o:Nat)
  |sn
  |sl (b:Id) (o len sz:Nat)
  |se
  |mn
  |mp (b:Id)
  |fn (f:Fn) (first b3:List V)
  |nf
  |ni
  |agg (l:List V)
  |tup (l:List V)
structure Ent where
  key:V
  val:V
  born:Nat
inductive Rw where
  |rw (ty:Nat)
  |fz
  |fr (ty:Nat)
inductive O where
  |cells (sz:Nat) (els:List (List V)) (fam:Id) (ro:Rw)
  |map (es:List Ent) (a8:Nat)
  |miter (m:Id) (a9:Nat) (seen:List Nat) (b0:Nat)
def N8.all {α:Type} (x:α):N8 α:=⟨x,x,x,x,x,x,x,x⟩
abbrev E1:=N8 V
abbrev E2:=N8 E1
abbrev Env:=N8 E2
abbrev M1:=N8 (Option O)
abbrev M2:=N8 M1
abbrev M3:=N8 M2
abbrev M4:=N8 M3
abbrev Mem:=N8 M4
abbrev F1:=N8 (List Id)
abbrev F2:=N8 F1
abbrev F3:=N8 F2
abbrev F4:=N8 F3
abbrev Fam:=N8 F4
structure H where
  mem:Mem
  fams:Fam
  next:Id
inductive VH where
  |bad
  |ok (v:V) (h:H)
inductive Rs where
  |bad
  |ok (e:Env) (h:H)
inductive CR where
  |bad
  |nrm (e:Env) (h:H)
  |ext (id:Nat) (e:Env) (h:H)
  |ret (e:Env) (h:H)
abbrev bP:=Nat→List V→H→VH
def dg:Nat→D8
  |0=>.d0|1=>.d1|2=>.d2|3=>.d3|4=>.d4|5=>.d5|6=>.d6|_=>.d7
def fW {α:Type} (d:D8):N8 α→α:=
  D8.rec (motive:=fun _=>N8 α→α) N8.a0 N8.a1 N8.a2 N8.a3 N8.a4 N8.a5 N8.a6 N8.a7 d
def iL {α:Type} (d:D8):(α→α)→N8 α→N8 α:=
  D8.rec (motive:=fun _=>(α→α)→N8 α→N8 α)
    (fun k n=>N8.rec (motive:=fun _=>N8 α) (fun a b c d e f g h=>N8.mk (k a) b c d e f g h) n)
    (fun k n=>N8.rec (motive:=fun _=>N8 α) (fun a b c d e f g h=>N8.mk a (k b) c d e f g h) n)
    (fun k n=>N8.rec (motive:=fun _=>N8 α) (fun a b c d e f g h=>N8.mk a b (k c) d e f g h) n)
    (fun k n=>N8.rec (motive:=fun _=>N8 α) (fun a b c d e f g h=>N8.mk a b c (k d) e f g h) n)
    (fun k n=>N8.rec (motive:=fun _=>N8 α) (fun a b c d e f g h=>N8.mk a b c d (k e) f g h) n)
    (fun k n=>N8.rec (motive:=fun _=>N8 α) (fun a b c d e f g h=>N8.mk a b c d e (k f) g h) n)
    (fun k n=>N8.rec (motive:=fun _=>N8 α) (fun a b c d e f g h=>N8.mk a b c d e f (k g) h) n)
    (fun k n=>N8.rec (motive:=fun _=>N8 α) (fun a b c d e f g h=>N8.mk a b c d e f g (k h)) n) d
def cI:V:=.tup []
def Env.new:Env:=N8.all (N8.all (N8.all cI))
def bN (t:Nat) (e:Env):V:=fW (dg (t%8)) (fW (dg (t/8%8)) (fW (dg (t/64)) e))
def gU (t:Nat) (v:V) (e:Env):Env:=iL (dg (t/64)) (iL (dg (t/8%8)) (iL (dg (t%8)) (fun _=>v))) e
def aB (i:Id) (m:Mem):Option O:=
  Id.rec (motive:=fun _=>Mem→Option O) (fun a b c d e m=>fW e (fW d (fW c (fW b (fW a m))))) i m
def dC (i:Id) (x:Option O) (m:Mem):Mem:=
  Id.rec (motive:=fun _=>Option O→Mem→Mem) (fun a b c d e x m=>iL a (iL b (iL c (iL d (iL e (fun _=>x))))) m) i x m
def aQ (i:Id) (m:Fam):List Id:=
  Id.rec (motive:=fun _=>Fam→List Id) (fun a b c d e m=>fW e (fW d (fW c (fW b (fW a m))))) i m
def fY (i:Id) (x:List Id) (m:Fam):Fam:=
  Id.rec (motive:=fun _=>List Id→Fam→Fam) (fun a b c d e x m=>iL a (iL b (iL c (iL d (iL e (fun _=>x))))) m) i x m
def Mem.new:Mem:=N8.all (N8.all (N8.all (N8.all (N8.all none))))
def Fam.new:Fam:=N8.all (N8.all (N8.all (N8.all (N8.all []))))
def D8.nextd:D8→Bool × D8
  | .d0=>(false,.d1)| .d1=>(false,.d2)| .d2=>(false,.d3)| .d3=>(false,.d4)| .d4=>(false,.d5)| .d5=>(false,.d6)| .d6=>(false,.d7)| .d7=>(true,.d0)
def Id.succ:Id→Option Id
  | ⟨a,b,c,d,e⟩=>match e.nextd with
    |(false,e')=>some ⟨a,b,c,d,e'⟩
    | (true,e')=>match d.nextd with
      |(false,d')=>some ⟨a,b,c,d',e'⟩
      | (true,d')=>match c.nextd with
        |(false,c')=>some ⟨a,b,c',d',e'⟩
        | (true,c')=>match b.nextd with
          |(false,b')=>some ⟨a,b',c',d',e'⟩
          | (true,b')=>match a.nextd with
            |(false,a')=>some ⟨a',b',c',d',e'⟩
            |(true,_)=>none
def D8.toNat:D8→Nat
  | .d0=>0| .d1=>1| .d2=>2| .d3=>3| .d4=>4| .d5=>5| .d6=>6| .d7=>7
def Id.toNat:Id→Nat
  |⟨a,b,c,d,e⟩=>(((a.toNat*8+b.toNat)*8+c.toNat)*8+d.toNat)*8+e.toNat
def D8.beq (x y:D8):Bool:=Nat.beq x.toNat y.toNat
def Id.beq:Id→Id→Bool
  |⟨a,b,c,d,e⟩,⟨a',b',c',d',e'⟩=>D8.beq e e'&&(D8.beq d d'&&(D8.beq c c'&&(D8.beq b b'&&D8.beq a a')))
def mH (n:Nat):Id:=⟨dg (n/4096%8),dg (n/512%8),dg (n/64%8),dg (n/8%8),dg (n%8)⟩
def qY {α:Type} (v:V):(Bool→α)→α→α:=
  V.rec (motive_1:=fun _=>(Bool→α)→α→α) (motive_2:=fun _=>Unit) (fun _ d=>d) (fun x0 k _=>k x0) (fun _ _ _ d=>d) (fun _ _ _ d=>d) (fun _ d=>d) (fun _ _ _ d=>d) (fun _ d=>d) (fun _ _ _ _ _ d=>d) (fun _ d=>d) (fun _ d=>d) (fun _ _ d=>d) (fun _ _ _ _ _ _ d=>d) (fun _ d=>d) (fun _ d=>d) (fun _ _ _ d=>d) (fun _ _ _ d=>d) () (fun _ _ _ _=>()) v
def fZ {α:Type} (v:V):(IntKind→Int→α)→α→α:=
  V.rec (motive_1:=fun _=>(IntKind→Int→α)→α→α) (motive_2:=fun _=>Unit) (fun _ d=>d) (fun _ _ d=>d) (fun x0 x1 k _=>k x0 x1) (fun _ _ _ d=>d) (fun _ d=>d) (fun _ _ _ d=>d) (fun _ d=>d) (fun _ _ _ _ _ d=>d) (fun _ d=>d) (fun _ d=>d) (fun _ _ d=>d) (fun _ _ _ _ _ _ d=>d) (fun _ d=>d) (fun _ d=>d) (fun _ _ _ d=>d) (fun _ _ _ d=>d) () (fun _ _ _ _=>()) v
def qW {α:Type} (v:V):(Nat→Nat→α)→α→α:=
  V.rec (motive_1:=fun _=>(Nat→Nat→α)→α→α) (motive_2:=fun _=>Unit) (fun _ d=>d) (fun _ _ d=>d) (fun _ _ _ d=>d) (fun x0 x1 k _=>k x0 x1) (fun _ d=>d) (fun _ _ _ d=>d) (fun _ d=>d) (fun _ _ _ _ _ d=>d) (fun _ d=>d) (fun _ d=>d) (fun _ _ d=>d) (fun _ _ _ _ _ _ d=>d) (fun _ d=>d) (fun _ d=>d) (fun _ _ _ d=>d) (fun _ _ _ d=>d) () (fun _ _ _ _=>()) v
def gP {α:Type} (v:V):(Id→Nat→α)→α→α:=
  V.rec (motive_1:=fun _=>(Id→Nat→α)→α→α) (motive_2:=fun _=>Unit) (fun _ d=>d) (fun _ _ d=>d) (fun _ _ _ d=>d) (fun _ _ _ d=>d) (fun _ d=>d) (fun x0 x1 k _=>k x0 x1) (fun _ d=>d) (fun _ _ _ _ _ d=>d) (fun _ d=>d) (fun _ d=>d) (fun _ _ d=>d) (fun _ _ _ _ _ _ d=>d) (fun _ d=>d) (fun _ d=>d) (fun _ _ _ d=>d) (fun _ _ _ d=>d) () (fun _ _ _ _=>()) v
def tG {α:Type} (v:V):(Id→Nat→Nat→Nat→α)→α→α:=
  V.rec (motive_1:=fun _=>(Id→Nat→Nat→Nat→α)→α→α) (motive_2:=fun _=>Unit) (fun _ d=>d) (fun _ _ d=>d) (fun _ _ _ d=>d) (fun _ _ _ d=>d) (fun _ d=>d) (fun _ _ _ d=>d) (fun _ d=>d) (fun x0 x1 x2 x3 k _=>k x0 x1 x2 x3) (fun _ d=>d) (fun _ d=>d) (fun _ _ d=>d) (fun _ _ _ _ _ _ d=>d) (fun _ d=>d) (fun _ d=>d) (fun _ _ _ d=>d) (fun _ _ _ d=>d) () (fun _ _ _ _=>()) v
def GC {α:Type} (v:V):((List V)→α)→α→α:=
  V.rec (motive_1:=fun _=>((List V)→α)→α→α) (motive_2:=fun _=>Unit) (fun _ d=>d) (fun _ _ d=>d) (fun _ _ _ d=>d) (fun _ _ _ d=>d) (fun _ d=>d) (fun _ _ _ d=>d) (fun _ d=>d) (fun _ _ _ _ _ d=>d) (fun _ d=>d) (fun _ d=>d) (fun _ _ d=>d) (fun _ _ _ _ _ _ d=>d) (fun _ d=>d) (fun _ d=>d) (fun x0 _ k _=>k x0) (fun _ _ _ d=>d) () (fun _ _ _ _=>()) v
def FV {α:Type} (v:V):((List V)→α)→α→α:=
  V.rec (motive_1:=fun _=>((List V)→α)→α→α) (motive_2:=fun _=>Unit) (fun _ d=>d) (fun _ _ d=>d) (fun _ _ _ d=>d) (fun _ _ _ d=>d) (fun _ d=>d) (fun _ _ _ d=>d) (fun _ d=>d) (fun _ _ _ _ _ d=>d) (fun _ d=>d) (fun _ d=>d) (fun _ _ d=>d) (fun _ _ _ _ _ _ d=>d) (fun _ d=>d) (fun _ d=>d) (fun _ _ _ d=>d) (fun x0 _ k _=>k x0) () (fun _ _ _ _=>()) v
def oA {α:Type} (v:V):(Id→α)→α→α:=
  V.rec (motive_1:=fun _=>(Id→α)→α→α) (motive_2:=fun _=>Unit) (fun _ d=>d) (fun _ _ d=>d) (fun _ _ _ d=>d) (fun _ _ _ d=>d) (fun _ d=>d) (fun _ _ _ d=>d) (fun _ d=>d) (fun _ _ _ _ _ d=>d) (fun _ d=>d) (fun _ d=>d) (fun x0 k _=>k x0) (fun _ _ _ _ _ _ d=>d) (fun _ d=>d) (fun _ d=>d) (fun _ _ _ d=>d) (fun _ _ _ d=>d) () (fun _ _ _ _=>()) v
def GA {α:Type} (v:V):(Fn→(List V)→(List V)→α)→α→α:=
  V.rec (motive_1:=fun _=>(Fn→(List V)→(List V)→α)→α→α) (motive_2:=fun _=>Unit) (fun _ d=>d) (fun _ _ d=>d) (fun _ _ _ d=>d) (fun _ _ _ d=>d) (fun _ d=>d) (fun _ _ _ d=>d) (fun _ d=>d) (fun _ _ _ _ _ d=>d) (fun _ d=>d) (fun _ d=>d) (fun _ _ d=>d) (fun x0 x1 x2 _ _ k _=>k x0 x1 x2) (fun _ d=>d) (fun _ d=>d) (fun _ _ _ d=>d) (fun _ _ _ d=>d) () (fun _ _ _ _=>()) v
def wG {α:Type} (v:V):α→α→α:=
  V.rec (motive_1:=fun _=>α→α→α) (motive_2:=fun _=>Unit) (fun _ d=>d) (fun _ _ d=>d) (fun _ _ _ d=>d) (fun _ _ _ d=>d) (fun _ d=>d) (fun _ _ _ d=>d) (fun k _=>k) (fun _ _ _ _ _ d=>d) (fun _ d=>d) (fun _ d=>d) (fun _ _ d=>d) (fun _ _ _ _ _ _ d=>d) (fun _ d=>d) (fun _ d=>d) (fun _ _ _ d=>d) (fun _ _ _ d=>d) () (fun _ _ _ _=>()) v
def AQ {α:Type} (v:V):α→α→α:=
  V.rec (motive_1:=fun _=>α→α→α) (motive_2:=fun _=>Unit) (fun _ d=>d) (fun _ _ d=>d) (fun _ _ _ d=>d) (fun _ _ _ d=>d) (fun _ d=>d) (fun _ _ _ d=>d) (fun _ d=>d) (fun _ _ _ _ _ d=>d) (fun k _=>k) (fun _ d=>d) (fun _ _ d=>d) (fun _ _ _ _ _ _ d=>d) (fun _ d=>d) (fun _ d=>d) (fun _ _ _ d=>d) (fun _ _ _ d=>d) () (fun _ _ _ _=>()) v
def AS {α:Type} (v:V):α→α→α:=
  V.rec (motive_1:=fun _=>α→α→α) (motive_2:=fun _=>Unit) (fun _ d=>d) (fun _ _ d=>d) (fun _ _ _ d=>d) (fun _ _ _ d=>d) (fun _ d=>d) (fun _ _ _ d=>d) (fun _ d=>d) (fun _ _ _ _ _ d=>d) (fun _ d=>d) (fun k _=>k) (fun _ _ d=>d) (fun _ _ _ _ _ _ d=>d) (fun _ d=>d) (fun _ d=>d) (fun _ _ _ d=>d) (fun _ _ _ d=>d) () (fun _ _ _ _=>()) v
def dK {α:Type} (b:Bool):α→α→α:=Bool.rec (motive:=fun _=>α→α→α) (fun _ y=>y) (fun x _=>x) b
def Rw.isW:Rw→Bool
  | .rw _=>true
  |_=>false
def Rw.tyOf:Rw→Option Nat
  | .rw t=>some t
  | .fr t=>some t
  | .fz=>none
def kO (l:List V):Nat→Option V:=
  List.rec (motive:=fun _=>Nat→Option V) (fun _=>none) (fun a _ ih i=>Nat.rec (motive:=fun _=>Option V) (some a) (fun j _=>ih j) i) l
def lM (l:List (List V)):Nat→Option (List V):=
  List.rec (motive:=fun _=>Nat→Option (List V)) (fun _=>none) (fun a _ ih i=>Nat.rec (motive:=fun _=>Option (List V)) (some a) (fun j _=>ih j) i) l
def nD (l:List (List V)):Nat→List V→List (List V):=
  List.rec (motive:=fun _=>Nat→List V→List (List V)) (fun _ _=>[]) (fun a r ih i x=>Nat.rec (motive:=fun _=>List (List V)) (x::r) (fun j _=>a::ih j x) i) l
def iJ (n:Nat):List V→Option (List V):=
  Nat.rec (motive:=fun _=>List V→Option (List V)) (fun _=>some [])
    (fun _ ih l=>List.rec (motive:=fun _=>Option (List V)) none (fun a r _=>Option.rec (motive:=fun _=>Option (List V)) none (fun x=>some (a::x)) (ih r)) l) n
def dM (n:Nat):List V→List V:=
  Nat.rec (motive:=fun _=>List V→List V) (fun l=>l) (fun _ ih l=>List.rec (motive:=fun _=>List V) [] (fun _ r _=>ih r) l) n
def oM (n:Nat):List (List V)→Option (List (List V)):=
  Nat.rec (motive:=fun _=>List (List V)→Option (List (List V))) (fun _=>some [])
    (fun _ ih l=>List.rec (motive:=fun _=>Option (List (List V))) none (fun a r _=>Option.rec (motive:=fun _=>Option (List (List V))) none (fun x=>some (a::x)) (ih r)) l) n
def vQ (n:Nat):List (List V)→List (List V):=
  Nat.rec (motive:=fun _=>List (List V)→List (List V)) (fun l=>l) (fun _ ih l=>List.rec (motive:=fun _=>List (List V)) [] (fun _ r _=>ih r) l) n
def over {α:Type}:List α→List α→Option (List α)
  |l,[]=>some l
  | [],_::_=>none
  |_::l,x::xs=>match over l xs with|some r=>some (x::r)|none=>none
def gE {α:Type}:Nat→List α→List α→Option (List α)
  |0,l,xs=>over l xs
  |_+1,[],_=>none
  |n+1,a::l,xs=>match gE n l xs with|some r=>some (a::r)|none=>none
def appV (a:List V) (b:List V):List V:=List.rec (motive:=fun _=>List V) b (fun x _ ih=>x::ih) a
def appL (a:List (List V)) (b:List (List V)):List (List V):=List.rec (motive:=fun _=>List (List V)) b (fun x _ ih=>x::ih) a
def nP (a:List (List V)):Nat:=List.rec (motive:=fun _=>Nat) 0 (fun _ _ ih=>Nat.succ ih) a
def iY {α:Type} (x:α):Nat→List α
  |0=>[]
  |n+1=>x::iY x n
def cW:Nat→Nat→List Nat
  |0,_=>[]
  |n+1,c=>c%256::cW n (c/256)
def lQ:List Nat→Nat
  | []=>0
  |b::l=>b+256*lQ l
def uC (l:List Nat):V:=.s l.length (lQ l)
def ltB:List Nat→List Nat→Bool
  |_,[]=>false
  | [],_::_=>true
  |a::x,b::y=>bif Nat.blt a b then true else bif Nat.beq a b then ltB x y else false
def sEq (l c l' c':Nat):Bool:=Nat.beq l l'&&Nat.beq c c'
def xI:Value→Bool
  | .agg _=>false
  | .tuple _=>false
  |_=>true
mutual
def cst:Value→V
  | .bool x=>.b x
  | .int k n=>.i k n
  | .string s=>uC (s.data.toList.map UInt8.toNat)
  | .pointer none=>.pn
  | .slice none 0 0=>.sn
  | .map none=>.mn
  | .nilFunc=>.nf
  | .nilIface=>.ni
  | .agg ⟨l⟩=>bif l.all xI then .agg (sU l) else .top
  | .tuple ⟨l⟩=>.tup (sU l)
  |_=>.top
def sU:List Value→List V
  | []=>[]
  |v::l=>cst v::sU l
end
structure Rd where
  run:Env→V
structure Rds where
  run:Env→List V
def aF:Operand→Rd
  | .tmp t=>⟨bN t⟩
  | .const v=>⟨fun _=>cst v⟩
  | .global g=>⟨fun _=>.p (mH g) 0⟩
  | .func f=>⟨fun _=>.fn (.func f) [] []⟩
def nH:List Operand→Rds
  | []=>⟨fun _=>[]⟩
  |x::l=>⟨fun e=>(aF x).run e::(nH l).run e⟩
def rdO (ob:O):Nat→Nat→Option (List V):=
  O.rec (motive:=fun _=>Nat→Nat→Option (List V))
    (fun sz els _ _ o k=>Option.rec (motive:=fun _=>Option (List V)) none
      (fun el=>Bool.rec (motive:=fun _=>Option (List V)) (iJ k (dM (Nat.mod o sz) el)) (some el) (Nat.beq (Nat.mod o sz) 0&&Nat.beq k sz))
      (lM els (Nat.div o sz)))
    (fun _ _ _ _=>none) (fun _ _ _ _ _ _=>none) ob
def rd1O (ob:O):Nat→Option V:=
  O.rec (motive:=fun _=>Nat→Option V)
    (fun sz els _ _ o=>Option.rec (motive:=fun _=>Option V) none (fun el=>kO el (Nat.mod o sz)) (lM els (Nat.div o sz)))
    (fun _ _ _=>none) (fun _ _ _ _ _=>none) ob
def rd (h:H) (b:Id) (o k:Nat):Option (List V):=
  Option.rec (motive:=fun _=>Option (List V)) none (fun ob=>rdO ob o k) (aB b h.mem)
def rd1 (h:H) (b:Id) (o:Nat):Option V:=
  Option.rec (motive:=fun _=>Option V) none (fun ob=>rd1O ob o) (aB b h.mem)
def jA (b:Id):List Id→List Id
  | []=>[]
  |x::l=>bif Id.beq x b then jA b l else x::jA b l
def gG:List Id→Mem→Mem
  | [],m=>m
  |b::l,m=>gG l (dC b none m)
def fX (h:H) (f b:Id):H:=
  List.rec (motive:=fun _=>H) h (fun x l _=>H.rec (motive:=fun _=>H) (fun mem fams next=>H.mk (gG (jA b (x::l)) mem) (fY f [] fams) next) h) (aQ f h.fams)
def eD (h:H) (b:Id) (ob:O):H:=
  H.rec (motive:=fun _=>H) (fun mem fams next=>H.mk (dC b (some ob) mem) fams next) h
def wrO (h:H) (b:Id) (o:Nat) (xs:List V) (k:Nat) (ob:O):VH:=
  O.rec (motive:=fun _=>VH)
    (fun sz els f ro=>Rw.rec (motive:=fun _=>VH)
      (fun ty=>Option.rec (motive:=fun _=>VH) .bad
        (fun el=>Option.rec (motive:=fun _=>VH) .bad
          (fun b5=>.ok cI (eD (fX h f b) b (.cells sz (nD els (Nat.div o sz) b5) f (.rw ty))))
          (Bool.rec (motive:=fun _=>Option (List V)) (gE (Nat.mod o sz) el xs) (some xs) (Nat.beq (Nat.mod o sz) 0&&Nat.beq k sz)))
        (lM els (Nat.div o sz))) .bad (fun _=>.bad) ro)
    (fun _ _=>.bad) (fun _ _ _ _=>.bad) ob
def wr (h:H) (b:Id) (o:Nat) (xs:List V) (k:Nat):VH:=
  Option.rec (motive:=fun _=>VH) .bad (fun ob=>wrO h b o xs k ob) (aB b h.mem)
def qH (h:H) (ob:Id→O) (v:Id→V):VH:=
  H.rec (motive:=fun _=>VH) (fun mem fams next=>Option.rec (motive:=fun _=>VH) .bad (fun nx=>.ok (v next) (H.mk (dC next (some (ob next)) mem) fams nx)) (Id.succ next)) h
def lN (ty:Nat) (h:H) (sz:Nat) (els:List (List V)) (v:Id→V):VH:=qH h (fun i=>.cells sz els i (.rw ty)) v
variable (P:Program)
def bH (t:TypeId):Option Nat:=match P.underlying t,P.info? t with|some _,some i=>some i.size|_,_=>none
def eK (t:TypeId):Bool:=match P.underlying t with|some (.struct _)|some (.array _ _)=>true|_=>false
def fJ (t:TypeId):Option V:=match (P.info? t).bind (·.zero) with|some z=>some (cst z)|none=>none
def cellsOf (v:V):List V:=
  V.rec (motive_1:=fun _=>List V) (motive_2:=fun _=>Unit) [.top] (fun x=>[.b x]) (fun k n=>[.i k n]) (fun l c=>[.s l c]) [.pn] (fun b o=>[.p b o]) [.sn] (fun b o l z=>[.sl b o l z]) [.se] [.mn] (fun b=>[.mp b]) (fun f a b _ _=>[.fn f a b]) [.nf] [.ni] (fun l _=>l) (fun l _=>[.tup l]) () (fun _ _ _ _=>()) v
def dE (v:V):Option (List V):=
  V.rec (motive_1:=fun _=>Option (List V)) (motive_2:=fun _=>Unit) none (fun x=>some [.b x]) (fun k n=>some [.i k n]) (fun l c=>some [.s l c]) (some [.pn]) (fun b o=>some [.p b o]) (some [.sn]) (fun b o l z=>some [.sl b o l z]) (some [.se]) (some [.mn]) (fun b=>some [.mp b]) (fun f a b _ _=>some [.fn f a b]) (some [.nf]) (some [.ni]) (fun l _=>some l) (fun _ _=>none) () (fun _ _ _ _=>()) v
def dP (a:List V):Nat:=List.rec (motive:=fun _=>Nat) 0 (fun _ _ ih=>Nat.succ ih) a
def thr:IntKind→Nat
  | .i8=>127| .i16=>32767| .i32=>2147483647| .i64=>9223372036854775807| .u8=>255| .u16=>65535| .u32=>4294967295| .u64=>18446744073709551615
def wY (k:IntKind) (n:Int):Int:=
  Int.rec (motive:=fun _=>Int) (fun m=>Bool.rec (motive:=fun _=>Int) (k.wrap (.ofNat m)) (.ofNat m) (Nat.ble m (thr k))) (fun m=>k.wrap (.negSucc m)) n
def kEq (j k:IntKind):Bool:=
  IntKind.rec (motive:=fun _=>IntKind→Bool)
    (fun k=>IntKind.rec (motive:=fun _=>Bool) true false false false false false false false k)
    (fun k=>IntKind.rec (motive:=fun _=>Bool) false true false false false false false false k)
    (fun k=>IntKind.rec (motive:=fun _=>Bool) false false true false false false false false k)
    (fun k=>IntKind.rec (motive:=fun _=>Bool) false false false true false false false false k)
    (fun k=>IntKind.rec (motive:=fun _=>Bool) false false false false true false false false k)
    (fun k=>IntKind.rec (motive:=fun _=>Bool) false false false false false true false false k)
    (fun k=>IntKind.rec (motive:=fun _=>Bool) false false false false false false true false k)
    (fun k=>IntKind.rec (motive:=fun _=>Bool) false false false false false false false true k) j k
def iLt (a b:Int):Bool:=
  Int.rec (motive:=fun _=>Int→Bool)
    (fun x b=>Int.rec (motive:=fun _=>Bool) (fun y=>Nat.ble (Nat.succ x) y) (fun _=>false) b)
    (fun x b=>Int.rec (motive:=fun _=>Bool) (fun _=>true) (fun y=>Nat.ble (Nat.succ y) x) b) a b
def iEq (a b:Int):Bool:=
  Int.rec (motive:=fun _=>Int→Bool)
    (fun x b=>Int.rec (motive:=fun _=>Bool) (fun y=>Nat.beq x y) (fun _=>false) b)
    (fun x b=>Int.rec (motive:=fun _=>Bool) (fun _=>false) (fun y=>Nat.beq x y) b) a b
def iAdd (a b:Int):Int:=
  Int.rec (motive:=fun _=>Int→Int)
    (fun x b=>Int.rec (motive:=fun _=>Int) (fun y=>.ofNat (Nat.add x y)) (fun y=>Int.add (.ofNat x) (.negSucc y)) b)
    (fun x b=>Int.add (.negSucc x) b) a b
def iSub (a b:Int):Int:=
  Int.rec (motive:=fun _=>Int→Int)
    (fun x b=>Int.rec (motive:=fun _=>Int) (fun y=>Bool.rec (motive:=fun _=>Int) (Int.sub (.ofNat x) (.ofNat y)) (.ofNat (Nat.sub x y)) (Nat.ble y x)) (fun y=>Int.sub (.ofNat x) (.negSucc y)) b)
    (fun x b=>Int.sub (.negSucc x) b) a b
structure IOp where
  run:IntKind→Int→Int→Option V
def zI:BinOp→IOp
  | .add=>⟨fun k x y=>some (.i k (wY k (iAdd x y)))⟩
  | .sub=>⟨fun k x y=>some (.i k (wY k (iSub x y)))⟩
  | .and=>⟨fun k x y=>some (.i k (k.wrap (BitVec.ofInt k.bits x&&&BitVec.ofInt k.bits y).toNat))⟩
  | .or=>⟨fun k x y=>some (.i k (k.wrap (BitVec.ofInt k.bits x|||BitVec.ofInt k.bits y).toNat))⟩
  | .eql=>⟨fun _ x y=>some (.b (iEq x y))⟩
  | .neq=>⟨fun _ x y=>some (.b (!iEq x y))⟩
  | .lss=>⟨fun _ x y=>some (.b (iLt x y))⟩
  | .leq=>⟨fun _ x y=>some (.b (!iLt y x))⟩
  | .gtr=>⟨fun _ x y=>some (.b (iLt y x))⟩
  | .geq=>⟨fun _ x y=>some (.b (!iLt x y))⟩
  |_=>⟨fun _ _ _=>none⟩
def xG (op:BinOp) (k:IntKind) (x y:Int):Option V:=
  bif iLt y 0 then none else
  match op with
  | .shl=>some (.i k (k.wrap (x*2^(min y.toNat k.bits))))
  | .shr=>some (.i k (x.fdiv (2^(min y.toNat k.bits))))
  |_=>none
structure StrOp where
  run:Nat→Nat→Nat→Nat→Option V
def BW:BinOp→StrOp
  | .add=>⟨fun l c l' c'=>bif Nat.ble (l+l') 1000000000 then some (.s (l+l') (c+c'<<<(8*l))) else none⟩
  | .eql=>⟨fun l c l' c'=>some (.b (sEq l c l' c'))⟩
  | .neq=>⟨fun l c l' c'=>some (.b (!sEq l c l' c'))⟩
  |_=>⟨fun _ _ _ _=>none⟩
structure EqT where
  run:H→V→V→Option Bool
def sO (h:H) (b:Id):Option Id:=match aB b h.mem with|some (.cells sz _ f (.rw _))=>bif Nat.beq sz 1 then none else some f|_=>none
def nG (agg:Bool) (n:Nat) (l:List V):Option V:=bif agg then(match iJ n l with|some x=>some (.agg x)|none=>none) else kO l 0
def tF:EqT:=⟨fun _ _ _=>none⟩
def sQ (q:TypeId→EqT):List Field→EqT
  | []=>⟨fun _ x y=>match x,y with| .agg _,.agg _=>some true|_,_=>none⟩
  | f ::fs=>if f.name= "_" then tF else
    match bH P f.type with
    |none=>tF
    | some n=>⟨fun h x y=>match x,y with
      | .agg xs,.agg ys=>(match nG (eK P f.type) n (dM f.offset xs),nG (eK P f.type) n (dM f.offset ys) with
        | some a,some b=>(match (q f.type).run h a b with
          |some true=>(sQ q fs).run h x y
          |some false=>some false
          |none=>none)
        |_,_=>none)
      |_,_=>none⟩
def eqAs (q:EqT) (agg:Bool) (n:Nat):Nat→List V→List V→H→Option Bool
  |0,_,_,_=>some true
  | k +1,xs,ys,h=>match nG agg n xs,nG agg n ys with
    | some a,some b=>(match q.run h a b with
      |some true=>eqAs q agg n k (dM n xs) (dM n ys) h
      |some false=>some false
      |none=>none)
    |_,_=>none
def eqT:Nat→TypeId→EqT
  |0,_=>tF
  | d + 1,t=>match P.underlying t with
    |some .bool=>⟨fun _ x y=>match x,y with| .b a,.b b=>some (a==b)|_,_=>none⟩
    |some (.int _)=>⟨fun _ x y=>match x,y with| .i k a,.i k' b=>bif kEq k k' then some (iEq a b) else none|_,_=>none⟩
    |some .string=>⟨fun _ x y=>match x,y with| .s l c,.s l' c'=>some (sEq l c l' c')|_,_=>none⟩
    | some (.pointer e)=>(match bH P e with
      | some (_+1)=>⟨fun h x y=>match x,y with
        | .pn,.pn=>some true
        | .pn,.p _ _=>some false
        | .p _ _,.pn=>some false
        | .p b o,.p b' o'=>bif Id.beq b b' then some (Nat.beq o o') else
            (match sO h b,sO h b' with
            |some f,some f'=>bif Id.beq f f' then none else some false
            |_,_=>none)
        |_,_=>none⟩
      |_=>⟨fun _ x y=>match x,y with| .pn,.pn=>some true| .pn,.p _ _=>some false| .p _ _,.pn=>some false|_,_=>none⟩)
    |some (.struct fs)=>bif P.stoodInHeld t then tF else sQ P (eqT d) fs.toList
    | some (.array len el)=>(match bH P el with
      | some n=>⟨fun h x y=>match x,y with
        | .agg xs,.agg ys=>eqAs (eqT d el) (eK P el) n len xs ys h
        |_,_=>none⟩
      |none=>tF)
    |some (.slice _)=>⟨fun _ x y=>match x,y with| .sn,.sn=>some true| .sn,.sl ..=>some false| .sl ..,.sn=>some false| .se,.sn=>some false| .sn,.se=>some false|_,_=>none⟩
    |_=>tF
structure CkT where
  run:V→Bool
def tE:CkT:=⟨fun _=>false⟩
def sV (q:TypeId→CkT):List Field→CkT
  | []=>⟨fun v=>match v with| .agg _=>true|_=>false⟩
  | f ::fs=>if f.name= "_" then tE else
    match bH P f.type with
    |none=>tE
    | some n=>⟨fun v=>match v with
      | .agg l=>(match nG (eK P f.type) n (dM f.offset l) with
        |some a=>(q f.type).run a&&(sV q fs).run v
        |none=>false)
      |_=>false⟩
def ckAs (q:CkT) (agg:Bool) (n:Nat):Nat→List V→Bool
  |0,_=>true
  | k+1,l=>match nG agg n l with
    |some a=>q.run a&&ckAs q agg n k (dM n l)
    |none=>false
def ckT:Nat→TypeId→CkT
  |0,_=>tE
  | d +1,t=>match P.underlying t with
    |some (.interface _)=>tE
    |some (.struct fs)=>sV P (ckT d) fs.toList
    | some (.array len el)=>(match bH P el with
      |some n=>⟨fun v=>match v with| .agg l=>ckAs (ckT d el) (eK P el) n len l|_=>false⟩
      |none=>tE)
    |some _=>⟨fun _=>true⟩
    |none=>tE
structure LOp where
  run:Env→H→Option V
structure HOp where
  run:bP→Env→H→VH
def mG:Operand→Bool| .const _=>true|_=>false
def notO:Option Bool→Option V|some r=>some (.b (!r))|none=>none
def yesO:Option Bool→Option V|some r=>some (.b r)|none=>none
def okEq:V→Bool
  | .top=>false
  | .i _ _=>false
  | .s _ _=>false
  | .ni=>false
  |_=>true
def sP (t:TypeId) (h:H) (x y:V):Option Bool:=bif okEq x then(eqT P 20 t).run h x y else none
def zY (t:TypeId) (c:Bool) (h:H) (x y:V):Option Bool:=
  match x,y with
  | .ni,.ni=>bif c then some true else none
  |_,_=>none
def dT:LOp:=⟨fun _ _=>none⟩
def binC (op:BinOp) (t:TypeId) (x y:Operand):LOp:=
  match P.underlying t with
  | some (.int _)=>(match op with
    | .shl| .shr=>⟨fun e _=>fZ ((aF x).run e) (fun k a=>fZ ((aF y).run e) (fun _ b=>xG op k a b) none) none⟩
    |_=>⟨fun e _=>fZ ((aF x).run e) (fun k a=>fZ ((aF y).run e) (fun k' b=>dK (kEq k k') ((zI op).run k a b) none) none) none⟩)
  |some .string=>⟨fun e _=>qW ((aF x).run e) (fun l c=>qW ((aF y).run e) (fun l' c'=>(BW op).run l c l' c') none) none⟩
  | some (.interface _)=>(match op with
    | .eql=>⟨fun e h=>yesO (zY t (mG x||mG y) h ((aF x).run e) ((aF y).run e))⟩
    | .neq=>⟨fun e h=>notO (zY t (mG x||mG y) h ((aF x).run e) ((aF y).run e))⟩
    |_=>dT)
  | _=>bif P.eqGuardType P.depth t then dT else(match op with
    | .eql=>⟨fun e h=>yesO (sP P t h ((aF x).run e) ((aF y).run e))⟩
    | .neq=>⟨fun e h=>notO (sP P t h ((aF x).run e) ((aF y).run e))⟩
    |_=>dT)
def unC (op:UnOp) (x:Operand):LOp:=
  match op with
  | .not=>⟨fun e _=>qY ((aF x).run e) (fun b=>some (.b (!b))) none⟩
  |_=>dT
def qF:List Field→Nat→Option Field
  | [],_=>none
  |a::_,0=>some a
  |_::l,n+1=>qF l n
def asN (v:V) (k:Nat→Option V):Option V:=fZ v (fun _ n=>Int.rec (motive:=fun _=>Option V) k (fun _=>none) n) none
def bnd (x:Option Operand) (d:Nat) (e:Env) (k:Nat→Option V):Option V:=
  match x with
  |none=>k d
  |some x=>asN ((aF x).run e) k
def UP (lo hi:Option Operand) (e:Env) (len c:Nat):Option V:=
  bnd hi len e fun h=>bnd lo 0 e fun l=>dK (Nat.ble l h&&Nat.ble h len) (some (.s (h-l) ((c>>>(8*l))%2^(8*(h-l))))) none
def IP (sz:Nat) (lo hi:Option Operand) (e:Env) (b:Id) (o len z:Nat):Option V:=
  bnd hi len e fun h=>bnd lo 0 e fun l=>dK (Nat.ble l h&&Nat.ble h len)
    (dK (Nat.beq l h&& !Nat.beq l 0) (some .se) (some (.sl b (Nat.add o (Nat.mul l sz)) (Nat.sub h l) z))) none
def IQ (r:V) (lo hi:Option Operand) (e:Env):Option V:=
  bnd hi 0 e fun h=>bnd lo 0 e fun l=>dK (Nat.beq h 0&&Nat.beq l 0) (some r) none
def BX (t:TypeId) (x:Operand) (lo hi:Option Operand):LOp:=
  match P.underlying t with
  |some .string=>⟨fun e _=>qW ((aF x).run e) (UP lo hi e) none⟩
  | some (.slice el)=>(match bH P el with
    |some (sz+1)=>⟨fun e _=>tG ((aF x).run e) (fun b o len z=>dK (Nat.beq z (sz+1)) (IP (sz+1) lo hi e b o len z) none) (wG ((aF x).run e) (IQ .sn lo hi e) (AQ ((aF x).run e) (IQ .se lo hi e) none))⟩
    |_=>dT)
  |some (.array n el)=>dT
  |_=>dT
def ZX (x ix:Operand) (sz:Nat):LOp:=
  ⟨fun e _=>tG ((aF x).run e) (fun b o len _=>asN ((aF ix).run e) (fun n=>dK (Nat.ble (Nat.succ n) len) (some (.p b (Nat.add o (Nat.mul n sz)))) none)) none⟩
def ZW (x ix:Operand) (len sz:Nat):LOp:=
  ⟨fun e _=>gP ((aF x).run e) (fun b o=>asN ((aF ix).run e) (fun n=>dK (Nat.ble (Nat.succ n) len) (some (.p b (Nat.add o (Nat.mul n sz)))) none)) none⟩
def lT (x:Option (List V)):Option V:=Option.rec (motive:=fun _=>Option V) none (fun l=>some (.agg l)) x
def kL (agg:Bool) (off n:Nat) (l:List V):Option V:=dK agg (lT (iJ n (dM off l))) (kO l off)
def gY (b1:Nat→Option (Nat × Nat)):List V→List (Nat × V)→Option (List V)
  |cs,[]=>some cs
  | cs,(i,v)::r=>match b1 i with
    |none=>none
    | some (off,sz)=>match dE v with
      |none=>none
      |some c=>bif Nat.beq (dP c) sz then(match gE off cs c with|some cs'=>gY b1 cs' r|none=>none) else none
structure Prs where
  run:Env→List (Nat × V)
def kM:List (Nat × Operand)→Prs
  | []=>⟨fun _=>[]⟩
  |(i,x)::l=>⟨fun e=>(i,(aF x).run e)::(kM l).run e⟩
def qA:List Field→Option (List (Nat × Nat))
  | []=>some []
  |f::fs=>match bH P f.type,qA fs with|some n,some l=>some ((f.offset,n)::l)|_,_=>none
def nthP:List (Nat × Nat)→Nat→Option (Nat × Nat)
  | [],_=>none
  |a::_,0=>some a
  |_::l,n+1=>nthP l n
def FM (t:TypeId) (ps:List (Nat × Operand)):LOp:=
  match fJ P t,P.underlying t with
  | some z,some (.struct fs)=>(match dE z with
    | some zc=>(match qA P fs.toList with
      |some pl=>⟨fun e _=>lT (gY (nthP pl) zc ((kM ps).run e))⟩
      |none=>dT)
    |none=>dT)
  | some z,some (.array _ el)=>(match dE z with
    | some zc=>(match bH P el with
      |some n=>⟨fun e _=>lT (gY (fun i=>some (i*n,n)) zc ((kM ps).run e))⟩
      |none=>dT)
    |none=>dT)
  |_,_=>dT
mutual
def V.beq:V→V→Bool
  | .top,.top=>true
  | .b x,.b y=>x==y
  | .i k n,.i k' n'=>(match k,k' with| .i8,.i8| .i16,.i16| .i32,.i32| .i64,.i64| .u8,.u8| .u16,.u16| .u32,.u32| .u64,.u64=>true|_,_=>false)&&(match n,n' with| .ofNat x,.ofNat y=>Nat.beq x y| .negSucc x,.negSucc y=>Nat.beq x y|_,_=>false)
  | .s l c,.s l' c'=>sEq l c l' c'
  | .pn,.pn=>true
  | .p b o,.p b' o'=>Id.beq b b'&&Nat.beq o o'
  | .sn,.sn=>true
  | .sl b o l z,.sl b' o' l' z'=>Id.beq b b'&&(Nat.beq o o'&&(Nat.beq l l'&&Nat.beq z z'))
  | .se,.se=>true
  | .mn,.mn=>true
  | .mp b,.mp b'=>Id.beq b b'
  | .fn (.func f) a b,.fn (.func f') a' b'=>Nat.beq f f'&&(iE a a'&&iE b b')
  | .nf,.nf=>true
  | .ni,.ni=>true
  | .agg l,.agg l'=>iE l l'
  | .tup l,.tup l'=>iE l l'
  |_,_=>false
def iE:List V→List V→Bool
  | [],[]=>true
  |a::l,b::r=>V.beq a b&&iE l r
  |_,_=>false
end
def lO:V→Bool
  | .b _=>true
  | .i _ _=>true
  | .s _ _=>true
  | .pn=>true
  | .p _ _=>true
  | .ni=>true
  |_=>false
def pA:V→Bool
  | .agg l=>l.all lO
  |v=>lO v
def zU (q:EqT) (h:H) (k:V):List Ent→Nat→Option (Option (Nat × Ent))
  | [],_=>some none
  | e::es,i=>match q.run h k e.key with
    |some true=>some (some (i,e))
    |some false=>zU q h k es (i+1)
    |none=>none
def pD (kt:TypeId) (h:H) (k:V) (es:List Ent):Option (Option (Nat × Ent)):=
  bif (ckT P 20 kt).run k then zU (eqT P 20 kt) h k es 0 else none
def gN (h:H) (b:Id):Option (List Ent × Nat):=match aB b h.mem with|some (.map es c)=>some (es,c)|_=>none
def yV (kt:TypeId) (z:V) (ok:Bool) (h:H) (k:V) (es:List Ent):Option V:=
  match pD P kt h k es with
  |some (some (_,e))=>some (if ok then .tup [e.val,.b true] else e.val)
  |some none=>some (if ok then .tup [z,.b false] else z)
  |none=>none
def lookC (t:TypeId) (x k:Operand) (ok:Bool):LOp:=
  match P.underlying t with
  | some (.map kt et)=>(match fJ P et with
    |some z=>⟨fun e h=>oA ((aF x).run e) (fun b=>match gN h b with|some (es,_)=>yV P kt z ok h ((aF k).run e) es|none=>none)
        (AS ((aF x).run e) (yV P kt z ok h ((aF k).run e) []) none)⟩
    |none=>dT)
  |_=>dT
def lenC (t:TypeId) (x:Operand):LOp:=
  match P.underlying t with
  |some .string=>⟨fun e _=>qW ((aF x).run e) (fun l _=>some (.i .i64 (.ofNat l))) none⟩
  |some (.slice _)=>⟨fun e _=>tG ((aF x).run e) (fun _ _ n _=>some (.i .i64 (.ofNat n))) (wG ((aF x).run e) (some (.i .i64 0)) (AQ ((aF x).run e) (some (.i .i64 0)) none))⟩
  |some (.map _ _)=>⟨fun e h=>oA ((aF x).run e) (fun b=>match gN h b with|some (es,_)=>some (.i .i64 (.ofNat es.length))|none=>none) (AS ((aF x).run e) (some (.i .i64 0)) none)⟩
  |_=>dT
def qK (f:V→V→Option V):V→List V→Option V
  |a,[]=>some a
  |a,x::l=>match f a x with|some b=>qK f b l|none=>none
def max2 (x y:V):Option V:=fZ x (fun k a=>fZ y (fun k' b=>dK (kEq k k') (some (.i k (bif iLt a b then b else a))) none) none) none
def min2 (x y:V):Option V:=fZ x (fun k a=>fZ y (fun k' b=>dK (kEq k k') (some (.i k (bif iLt b a then b else a))) none) none) none
def vO (n:Nat):List Ent→Option Ent
  | []=>none
  |e::l=>bif Nat.beq e.born n then some e else vO n l
def oZ:List Nat→Option Nat
  | []=>none
  | [a]=>some a
  |_::l=>oZ l
def ER (h:H) (b:Id):Option V:=
  match aB b h.mem with
  | some (.miter m _ seen b0)=>(match oZ seen,gN h m with
    |some st,some (es,a8)=>bif Nat.beq a8 b0 then(match vO st es with|some en=>some (.tup [en.key,en.val])|none=>none) else none
    |_,_=>none)
  |_=>none
def callL (c:Call):LOp:=
  match c.callee,c.args.toList,c.argTypes.toList with
  | .builtin .len,[x],t::_=>lenC P t x
  | .builtin .unsafeSliceData,[x],_=>⟨fun e _=>tG ((aF x).run e) (fun b o len _=>dK (Nat.ble 1 len) (some (.p b o)) none) (wG ((aF x).run e) (some .pn) none)⟩
  | .builtin .max,x::l,_=>⟨fun e _=>qK max2 ((aF x).run e) ((nH l).run e)⟩
  | .builtin .min,x::l,_=>⟨fun e _=>qK min2 ((aF x).run e) ((nH l).run e)⟩
  |_,_,_=>dT
def nO:Op→LOp
  | .move x=>⟨fun e _=>some ((aF x).run e)⟩
  | .assign x=>⟨fun e _=>some ((aF x).run e)⟩
  | .pick c a b=>⟨fun e _=>qY ((aF c).run e) (fun t=>dK t (some ((aF a).run e)) (some ((aF b).run e))) none⟩
  | .nilCheck x=>⟨fun e _=>gP ((aF x).run e) (fun b o=>some (.p b o)) (match (aF x).run e with| .fn (.func f) a b=>some (.fn (.func f) a b)| .mp b=>some (.mp b)| .mn=>some .mn|_=>none)⟩
  | .binOp op t x y _=>binC P op t x y
  | .unOp op _ x=>unC op x
  | .fieldAddr t x i=>(match P.underlying t with
    | some (.struct fs)=>(match qF fs.toList i with
      | some f=>(match bH P f.type with
        |some (_+1)=>⟨fun e _=>gP ((aF x).run e) (fun b o=>some (.p b (Nat.add o f.offset))) none⟩
        |_=>dT)
      |none=>dT)
    |_=>dT)
  | .field t x i=>(match P.underlying t with
    | some (.struct fs)=>(match qF fs.toList i with
      | some f=>(match bH P f.type with
        |some n=>⟨fun e _=>GC ((aF x).run e) (kL (eK P f.type) f.offset n) none⟩
        |none=>dT)
      |none=>dT)
    |_=>dT)
  | .indexAddr t x ix=>(match P.underlying t with
    |some (.slice el)=>(match bH P el with|some (sz+1)=>ZX x ix (sz+1)|_=>dT)
    |some (.array len el)=>(match bH P el with|some (sz+1)=>ZW x ix len (sz+1)|_=>dT)
    |_=>dT)
  | .index t x ix=>(match P.underlying t with
    |some .string=>⟨fun e _=>qW ((aF x).run e) (fun len c=>asN ((aF ix).run e) (fun n=>dK (Nat.ble (Nat.succ n) len) (some (.i .u8 (.ofNat ((c>>>(8*n))%256)))) none)) none⟩
    |_=>dT)
  | .extract x i=>⟨fun e _=>FV ((aF x).run e) (fun l=>kO l i) none⟩
  | .slice t x lo hi none=>BX P t x lo hi
  | .build t ps=>FM P t ps.toList
  | .load t x=>(match eK P t,bH P t with
    |true,some n=>⟨fun e h=>gP ((aF x).run e) (fun b o=>lT (rd h b o n)) none⟩
    |false,some _=>⟨fun e h=>gP ((aF x).run e) (fun b o=>rd1 h b o) none⟩
    |_,_=>dT)
  | .lookup t x k ok=>lookC P t x k ok
  | .convert s d x=>(match P.underlying s,P.underlying d with
    |some _,some (.int k)=>⟨fun e _=>fZ ((aF x).run e) (fun _ n=>some (.i k (wY k n))) none⟩
    | some (.pointer t),some .unsafePointer=>(match bH P t with
      |some (_+1)=>⟨fun e h=>gP ((aF x).run e) (fun b o=>Option.rec (motive:=fun _=>Option V) none (fun _=>some (.p b o)) (rd1 h b o)) none⟩
      |_=>dT)
    | some .unsafePointer,some (.pointer u)=>(match bH P u with
      |some (sz+1)=>⟨fun e h=>gP ((aF x).run e) (fun b o=>match aB b h.mem with
          |some (.cells szb els _ (.rw ty))=>dK (Nat.beq szb (sz+1)&&(Nat.beq ty u&&(Nat.beq (Nat.mod o szb) 0&&Nat.ble (Nat.succ (Nat.div o szb)) (nP els)))) (some (.p b o)) none
          |_=>none) none⟩
      |_=>dT)
    |_,_=>dT)
  | .entry x=>⟨fun e h=>gP ((aF x).run e) (fun b o=>dK (Nat.beq o 0) (ER h b) none) none⟩
  | .makeFunc fn a b=>⟨fun e _=>some (.fn fn ((nH a.toList).run e) ((nH b.toList).run e))⟩
  | .call c=>callL P c
  |_=>dT
def mQ:List Nat→List (List V)
  | []=>[]
  |b::l=>[.i .u8 b]::mQ l
def mO (sz:Nat):Nat→List V→List (List V)
  |0,_=>[]
  |n+1,l=>(iJ sz l).getD []::mO sz n (dM sz l)
def vP (h:H) (sz:Nat) (x:V):Option (List (List V)):=
  match x with
  | .sn=>some []
  | .se=>some []
  | .sl b o len _=>(match aB b h.mem with
    |some (.cells sz' els _ _)=>bif Nat.beq sz sz'&&Nat.beq (Nat.mod o sz) 0 then oM len (vQ (Nat.div o sz) els) else none
    |_=>none)
  | .s l c=>bif Nat.beq sz 1 then some (mQ (cW l c)) else none
  |_=>none
def kJ (b:Id):List Id→List Id × List Id
  | []=>([],[])
  |x::l=>bif Id.beq x b then([],l) else match kJ b l with|(p,q)=>(x::p,q)
def grown (ty:Nat) (sz:Nat) (b f:Id) (len:Nat) (old new:List (List V)) (h:H):VH:=
  H.rec (motive:=fun _=>VH) (fun mem fams next=>Option.rec (motive:=fun _=>VH) .bad
    (fun nx=>match kJ b (aQ f fams) with
        |(dead,rest)=>.ok (.sl next 0 (Nat.add len (nP new)) sz) (H.mk (dC next (some (.cells sz (appL old new) f (.rw ty))) (gG dead mem)) (fY f (next::b::rest) fams) nx))
      (Id.succ next)) h
def GE (ty:Nat) (h:H) (sz:Nat) (x:V) (new:List (List V)):VH:=
  match new with
  | []=>(match x with| .sn=>.ok x h| .se=>.ok x h| .sl ..=>.ok x h|_=>.bad)
  | _ ::_=>bif Nat.ble (nP new) 1000000 then match x with
    | .sn=>lN ty h sz new (fun i=>.sl i 0 (nP new) sz)
    | .sl b o len z=>(match aB b h.mem with
      |some (.cells szb els f (.rw tyb))=>bif Nat.beq szb sz&&(Nat.beq z sz&&(Nat.beq (Nat.mod o sz) 0&&(Nat.ble len 1000000&&Nat.beq tyb ty))) then
          (match oM len (vQ (Nat.div o sz) els) with
           |none=>.bad
           |some old=>bif Nat.beq (Nat.add (Nat.div o sz) len) (nP els) then grown ty sz b f len old new h
               else(match oM (Nat.add (Nat.div o sz) len) els with
                 |some cut=>grown ty sz b f len old new (eD (fX h f b) b (.cells szb cut f (.rw ty)))
                 |none=>.bad))
          else .bad
      |_=>.bad)
    |_=>.bad
    else .bad
def sZ:List (List V)→Option (List Nat)
  | []=>some []
  | [.i .u8 (.ofNat n)]::r=>bif Nat.ble n 255 then match sZ r with|some l=>some (n::l)|none=>none else none
  |_=>none
def oN:List Ent→Nat→Ent→List Ent
  | [],_,_=>[]
  |_::l,0,x=>x::l
  |a::l,n+1,x=>a::oN l n x
def yS (kt:TypeId) (h:H) (b:Id) (k v:V):VH:=
  match gN h b with
  | some (es,a8)=>(match pD P kt h k es with
    |some (some (i,e))=>bif pA k&&V.beq k e.key then .ok cI (eD h b (.map (oN es i ⟨k,v,e.born⟩) a8)) else .bad
    |some none=>.ok cI (eD h b (.map (es++ [⟨k,v,a8⟩]) (a8+1)))
    |none=>.bad)
  |none=>.bad
def DP (kt:TypeId) (z:V) (h:H) (b:Id) (k:V):VH:=
  match gN h b with
  | some (es,a8)=>(match pD P kt h k es with
    |some (some (i,e))=>bif pA k&&V.beq k e.key then .ok (.tup [e.val,.i .i64 (.ofNat e.born)]) (eD h b (.map (oN es i ⟨k,e.val,e.born⟩) a8)) else .bad
    |some none=>.ok (.tup [z,.i .i64 (.ofNat a8)]) (eD h b (.map (es++ [⟨k,z,a8⟩]) (a8+1)))
    |none=>.bad)
  |none=>.bad
def vZ (n:Nat):List Ent→Nat→Option (Nat × Ent)
  | [],_=>none
  |e::l,i=>bif Nat.beq e.born n then some (i,e) else vZ n l (i+1)
def ES (h:H) (b:Id) (n:Nat) (v:V):VH:=
  match gN h b with
  | some (es,a8)=>(match vZ n es 0 with
    |some (i,e)=>.ok cI (eD h b (.map (oN es i ⟨e.key,v,e.born⟩) a8))
    |none=>.bad)
  |none=>.bad
def lY (seen:List Nat) (es:List Ent):List Ent:=es.filter fun e=>!seen.any (Nat.beq e.born)
def DI (h:H) (b:Id):VH:=
  match aB b h.mem with
  | some (.miter m a9 seen b0)=>(match gN h m with
    |some (es,a8)=>bif !seen.isEmpty&& !es.isEmpty&&es.all (fun e=>Nat.ble b0 e.born) then .bad else
        (match lY seen es with
         | []=>.ok (.tup [.b false]) h
         | [e]=>bif Nat.ble (Nat.succ e.born) a9 then .ok (.tup [.b true,e.key,e.val]) (eD h b (.miter m a9 (seen++ [e.born]) a8)) else .bad
         |_=>.bad)
    |none=>.bad)
  |_=>.bad
def eF:HOp:=⟨fun _ _ _=>.bad⟩
def EZ (h:H) (sz:Nat) (z:List V) (x:V):VH:=
  match x with
  | .sl b o len zz=>(match aB b h.mem with
    |some (.cells szb els f (.rw ty))=>bif Nat.beq szb sz&&(Nat.beq zz sz&&Nat.beq (Nat.mod o sz) 0) then
        (match gE (Nat.div o sz) els (iY z len) with
         |some els'=>.ok cI (eD (fX h f b) b (.cells szb els' f (.rw ty)))
         |none=>.bad) else .bad
    |_=>.bad)
  | .sn=>.ok cI h
  | .se=>.ok cI h
  |_=>.bad
def vhO (h:H) (x:Option V):VH:=match x with|some v=>.ok v h|none=>.bad
def appC (t t2:TypeId) (x y:Operand):HOp:=
  match P.underlying t,P.underlying t2 with
  |some (.slice _),some (.int _)=>eF
  |some (.slice el),some _=>(match bH P el,fJ P el with
      | some (sz+1),some z=>(match dE z,P.info? el with
        |some zc,some inf=>bif Nat.ble inf.bytes 1000000&&Nat.beq (dP zc) (sz+1) then
            ⟨fun _ e h=>match vP h (sz+1) ((aF y).run e) with
              |some new=>GE el h (sz+1) ((aF x).run e) new
              |none=>.bad⟩ else eF
        |_,_=>eF)
      |_,_=>eF)
  |_,_=>eF
def OZ (t:TypeId) (x:Operand):HOp:=
  match P.underlying t with
  |some (.slice el)=>(match bH P el,fJ P el with
      | some (sz+1),some z=>(match dE z with
        |some zc=>bif Nat.beq (dP zc) (sz+1) then⟨fun _ e h=>EZ h (sz+1) zc ((aF x).run e)⟩ else eF
        |none=>eF)
      |_,_=>eF)
  |_=>eF
def BN (el:Nat) (h:H) (x:V) (n:Nat):VH:=
  match n with
  |0=>(match x with| .pn=>.ok (.s 0 0) h| .p _ _=>.ok (.s 0 0) h|_=>.bad)
  | n + 1=>gP x (fun b o=>match aB b h.mem with
    | some (.cells sz els f ro)=>(match ro.tyOf with
      | some ty=>bif Nat.beq sz 1&&(Nat.beq ty el&&Nat.ble n 1000000) then
        (match oM (n+1) (vQ o els) with
         | some l=>(match sZ l with
           |some bs=>.ok (uC bs) (eD (fX h f b) b (.cells sz els f (.fr ty)))
           |none=>.bad)
         |none=>.bad) else .bad
      |none=>.bad)
    |_=>.bad) .bad
def ustrC (t:TypeId) (x n:Operand):HOp:=
  match P.underlying t with
  | some (.pointer el)=>(match bH P el with
    |some 1=>⟨fun _ e h=>match (aF n).run e with| .i .i64 (.ofNat n)=>BN el h ((aF x).run e) n|_=>.bad⟩
    |_=>eF)
  |_=>eF
def FI (c:Call):HOp:=
  match c.callee,c.args.toList,c.argTypes.toList with
  | .value f,as,_=>⟨fun call e h=>GA ((aF f).run e) (fun g first cap=>match g with
      | .func n=>call n (appV first (appV ((nH as).run e) cap)) h
      |_=>.bad) .bad⟩
  | .builtin .append,[x,y],t::t2::_=>appC P t t2 x y
  | .builtin .clear,[x],t::_=>OZ P t x
  | .builtin .unsafeString,[x,n],t::_::_=>ustrC P t x n
  |_,_,_=>eF
def pB:Op→HOp
  | .alloc t=>(match fJ P t with
    | some z=>(match dE z with
      |some c=>⟨fun _ _ h=>lN t h (dP c) [c] (fun i=>.p i 0)⟩
      |none=>eF)
    |none=>eF)
  | .box t x=>⟨fun _ e h=>Option.rec (motive:=fun _=>VH) .bad (fun c=>lN t h (dP c) [c] (fun i=>.p i 0)) (dE ((aF x).run e))⟩
  | .buildSlice t len ps=>(match P.underlying t with
    | some (.slice el)=>(match bH P el,fJ P el with
      | some (sz+1),some z=>(match dE z with
        |some zc=>bif Nat.ble (len*(sz+1)) 16777216&&Nat.beq (dP zc) (sz+1) then
            ⟨fun _ e h=>match gY (fun i=>some (i*(sz+1),sz+1)) ((iY zc len).flatten) ((kM ps.toList).run e) with
              |some cs=>lN el h (sz+1) (mO (sz+1) len cs) (fun i=>.sl i 0 len (sz+1))
              |none=>.bad⟩ else eF
        |none=>eF)
      |_,_=>eF)
    |_=>eF)
  | .makeSlice t l c=>(match P.underlying t with
    | some (.slice el)=>(match bH P el,fJ P el with
      | some (sz+1),some z=>(match dE z,P.info? el with
        |some zc,some inf=>bif Nat.ble inf.bytes 1000000&&Nat.beq (dP zc) (sz+1) then
            ⟨fun _ e h=>fZ ((aF l).run e) (fun _ n=>fZ ((aF c).run e) (fun _ m=>match n,m with
              | .ofNat n,.ofNat m=>bif Nat.ble n m&&Nat.ble m 100000 then lN el h (sz+1) (iY zc m) (fun i=>.sl i 0 n (sz+1)) else .bad
              |_,_=>.bad) .bad) .bad⟩ else eF
        |_,_=>eF)
      |_,_=>eF)
    |_=>eF)
  | .makeMap _ none=>⟨fun _ _ h=>qH h (fun _=>.map [] 0) (fun i=>.mp i)⟩
  | .mapUpdate t m k v=>(match P.underlying t with
    |some (.map kt _)=>⟨fun _ e h=>oA ((aF m).run e) (fun b=>yS P kt h b ((aF k).run e) ((aF v).run e)) .bad⟩
    |_=>eF)
  | .insert t m k v=>(match P.underlying t with
    |some (.map kt _)=>⟨fun _ e h=>oA ((aF m).run e) (fun b=>yS P kt h b ((aF k).run e) ((aF v).run e)) .bad⟩
    |_=>eF)
  | .mapEntry t m k=>(match P.underlying t with
    | some (.map kt et)=>(match fJ P et with
      |some z=>⟨fun _ e h=>oA ((aF m).run e) (fun b=>DP P kt z h b ((aF k).run e)) .bad⟩
      |none=>eF)
    |_=>eF)
  | .entryStore _ m s v=>⟨fun _ e h=>oA ((aF m).run e) (fun b=>fZ ((aF s).run e) (fun _ n=>match n with| .ofNat n=>ES h b n ((aF v).run e)|_=>.bad) .bad) .bad⟩
  | .store t a x=>(match bH P t with
    |some n=>⟨fun _ e h=>gP ((aF a).run e) (fun b o=>Option.rec (motive:=fun _=>VH) .bad (fun c=>dK (Nat.beq (dP c) n) (wr h b o c n) .bad) (dE ((aF x).run e))) .bad⟩
    |none=>eF)
  | .range t x=>(match P.underlying t with
    |some (.map _ _)=>⟨fun _ e h=>oA ((aF x).run e) (fun b=>match gN h b with
        |some (_,a8)=>qH h (fun _=>.miter b a8 [] a8) (fun i=>.p i 0)
        |none=>.bad) .bad⟩
    |_=>eF)
  | .next x false=>⟨fun _ e h=>gP ((aF x).run e) (fun b o=>dK (Nat.beq o 0) (DI h b) .bad) .bad⟩
  | .call c=>FI P c
  |_=>eF
def isHeavy:Op→Bool
  | .alloc _| .box .. | .buildSlice .. | .makeSlice .. | .makeMap .. | .mapUpdate .. | .insert .. | .store .. | .range .. | .next .. | .mapEntry .. | .entryStore ..=>true
  | .call { callee:=.builtin .len,.. }| .call { callee:=.builtin .max,.. }| .call { callee:=.builtin .min,.. }| .call { callee:=.builtin .unsafeSliceData,.. }=>false
  | .call _=>true
  |_=>false
structure SOp where
  run:bP→Env→H→Rs
structure COd where
  run:bP→Env→H→CR
def doH (call:bP) (e:Env) (dst:Nat) (r:VH):Rs:=VH.rec (motive:=fun _=>Rs) .bad (fun v h=>.ok (gU dst v e) h) r
def doH0 (e:Env) (r:VH):Rs:=VH.rec (motive:=fun _=>Rs) .bad (fun _ h=>.ok e h) r
def doL (e:Env) (h:H) (dst:Nat) (r:Option V):Rs:=Option.rec (motive:=fun _=>Rs) .bad (fun v=>.ok (gU dst v e) h) r
def doL0 (e:Env) (h:H) (r:Option V):Rs:=Option.rec (motive:=fun _=>Rs) .bad (fun _=>.ok e h) r
def fG:Nat:=511
def AM (o:Oper):SOp:=
  match o.op with
  | .defer { callee:=.value f,args:=⟨[]⟩,.. }=>(match o.dst with
    |some _=>⟨fun _ _ _=>.bad⟩
    | none=>⟨fun _ e h=>match (aF f).run e,bN fG e with
      | .fn g a b,.tup l=>.ok (gU fG (.tup (.fn g a b::l)) e) h
      |_,_=>.bad⟩)
  | _=>match isHeavy o.op,o.dst with
    |true,some d=>⟨fun call e h=>doH call e d ((pB P o.op).run call e h)⟩
    |true,none=>⟨fun call e h=>doH0 e ((pB P o.op).run call e h)⟩
    |false,some d=>⟨fun _ e h=>doL e h d ((nO P o.op).run e h)⟩
    |false,none=>⟨fun _ e h=>doL0 e h ((nO P o.op).run e h)⟩
def jS:List Oper→Nat→Option Oper
  | [],_=>none
  |a::_,0=>some a
  |_::l,n+1=>jS l n
def xF (d:Option Nat) (e:Env):Env:=match d with|some d=>gU d cI e|none=>e
def ML (v:V) (x:Rs):Rs:=match v with| .tup []=>x|_=>.bad
def qC (ops:List Oper) (o:Oper):SOp:=
  match o.guard with
  |none=>AM P o
  | some (j,want)=>match (jS ops j).bind (·.dst) with
    |none=>⟨fun _ e h=>.ok (xF o.dst e) h⟩
    |some g=>⟨fun call e h=>qY (bN g e) (fun b=>dK (b==want) ((AM P o).run call e h) (.ok (xF o.dst e) h)) (ML (bN g e) (.ok (xF o.dst e) h))⟩
def kK (ops:List Oper):List Oper→SOp
  | []=>⟨fun _ e h=>.ok e h⟩
  |o::l=>⟨fun call e h=>Rs.rec (motive:=fun _=>Rs) .bad (fun e h=>(kK ops l).run call e h) ((qC P ops o).run call e h)⟩
def gO (e:Edge):Bool:=match e.ground with| .textOnly _| .gcOnly _=>false|_=>true
def natAt:List Nat→Nat→Nat
  | [],_=>0
  |a::_,0=>a
  |_::l,n+1=>natAt l n
def nM (b2:List Nat):List Edge→Nat
  | []=>0
  |e::l=>bif gO e then(1<<<e.on)|||(natAt b2 e.on|||nM b2 l) else nM b2 l
def aH (b2:List Nat):List Oper→List Nat
  | []=>b2
  |o::l=>aH (b2++ [nM b2 o.after.toList]) l
def isNew:Op→Bool
  | .alloc _| .box .. | .buildSlice .. | .makeSlice .. | .makeMap ..=>true
  |_=>false
def iU:Nat→List Oper→List (Nat × Oper)
  |_,[]=>[]
  |i,o::l=>(i,o)::iU (i+1) l
def fS {α:Type} (p:α→Bool):List α→List α
  | []=>[]
  |a::l=>bif p a then a::fS p l else fS p l
def nK (n:Nat):List Nat→Bool
  | []=>false
  |a::l=>bif Nat.beq a n then true else nK n l
def yT (body:Env→H→CR) (n:Nat):Env→H→CR:=
  Nat.rec (motive:=fun _=>Env→H→CR) (fun _ _=>.bad)
    (fun _ ih e h=>CR.rec (motive:=fun _=>CR) .bad (fun e h=>ih e h) (fun i e h=>.ext i e h) (fun e h=>.ret e h) (body e h)) n
def lL (i:Nat):List V→Env→Env
  | [],e=>e
  |v::l,e=>lL (i+1) l (gU i v e)
structure ROp where
  run:Env→H→Option V
structure ROps where
  run:Env→H→Option (List V)
def pZ:ResultVar→ROp
  | .tmp t=>⟨fun e _=>some (bN t e)⟩
  | .cell a t=>match eK P t,bH P t with
    |true,some n=>⟨fun e h=>gP (bN a e) (fun b o=>lT (rd h b o n)) none⟩
    |false,some _=>⟨fun e h=>gP (bN a e) (fun b o=>rd1 h b o) none⟩
    |_,_=>⟨fun _ _=>none⟩
def iX:List ResultVar→ROps
  | []=>⟨fun _ _=>some []⟩
  |r::l=>⟨fun e h=>match (pZ P r).run e h,(iX l).run e h with|some v,some vs=>some (v::vs)|_,_=>none⟩
def oO (rs:List ResultVar):ROp:=
  match rs with
  | [r]=>pZ P r
  |rs=>⟨fun e h=>match (iX P rs).run e h with|some vs=>some (.tup vs)|none=>none⟩
structure FOp where
  run:bP→List V→H→VH
def mR:FOp:=⟨fun _ _ _=>.bad⟩
def H0 (n:Nat):H:=⟨Mem.new,Fam.new,mH n⟩
def VH.isTrue:VH→Bool| .ok (.b true) _=>true|_=>false
end
end Go.Ev
