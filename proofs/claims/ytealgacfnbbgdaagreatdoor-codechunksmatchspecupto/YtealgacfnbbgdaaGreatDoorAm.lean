/- Lemmas; no condition. -/
import Derived.Test.YtealgacfnbbgdaaGreatDoorAj
import Derived.Test.YtealgacfnbbgdaaGreatDoorAl
import Derived.LaidByTextLater
import Derived.Shelf.Lays
set_option linter.all false
set_option maxRecDepth 100000
namespace Go.Proofs.YtealgacfnbbgdaaGreatDoor
open Go.Ev
noncomputable section
variable {laid:List (String × DataW Unit)} {ss:List (List UInt8)} {f:FuncId} {d:DataW Unit} {w W:Wo} {n:String} {e t:TypeId} {m:Mp} {b fm:Ev.Id} {a0 B c l:Nat}
def spZ:List V:=[.i .u8 (.ofNat 0)]
def spO:List V:=[.i .u8 (.ofNat 1)]
def aF:List V:=[.s 2 11578,.i .i64 (.ofNat 1200),.i .i64 (.ofNat 1)]
def aG:List V:=[.s 3 4074797,.i .i64 (.ofNat 1200),.i .i64 (.ofNat 1)]
def aH:List V:=[.s 2 11578,.i .i64 (.ofNat 1200),.i .i64 (.ofNat 5)]
def aI:List V:=[.s 2 11583,.i .i64 (.ofNat 1200),.i .i64 (.ofNat 5)]
def aJ:List V:=[.s 7 27981941201336676,.i .i64 (.ofNat 1150),.i .i64 (.ofNat 5)]
def aL:List V:=[.s 5 435610083700,.i .i64 (.ofNat 1150),.i .i64 (.ofNat 5)]
def aM:List V:=[.s 14 2239892019062521052805406558613097,.i .i64 (.ofNat 1150),.i .i64 (.ofNat 5)]
def aN:List V:=[.s 14 2057743977047782653436861915358573,.i .i64 (.ofNat 1150),.i .i64 (.ofNat 5)]
def aP:List V:=[.s 1 124,.i .i64 (.ofNat 1105),.i .i64 (.ofNat 2)]
def aS:List V:=[.s 1 59,.i .i64 (.ofNat 1100),.i .i64 (.ofNat 2)]
def aU:List V:=[.s 2 15917,.i .i64 (.ofNat 1050),.i .i64 (.ofNat 2)]
def aW:List V:=[.s 3 4074794,.i .i64 (.ofNat 1050),.i .i64 (.ofNat 2)]
def aX:List V:=[.s 2 11100,.i .i64 (.ofNat 900),.i .i64 (.ofNat 4)]
def aY:List V:=[.s 1 61,.i .i64 (.ofNat 700),.i .i64 (.ofNat 1)]
def bF:List V:=[.s 2 15708,.i .i64 (.ofNat 700),.i .i64 (.ofNat 1)]
def bH:List V:=[.s 2 15677,.i .i64 (.ofNat 700),.i .i64 (.ofNat 1)]
def bI:List V:=[.s 3 4013404,.i .i64 (.ofNat 700),.i .i64 (.ofNat 1)]
def bJ:List V:=[.s 2 15424,.i .i64 (.ofNat 700),.i .i64 (.ofNat 1)]
def bM:List V:=[.s 2 15936,.i .i64 (.ofNat 700),.i .i64 (.ofNat 1)]
def bN:List V:=[.s 3 3947840,.i .i64 (.ofNat 700),.i .i64 (.ofNat 1)]
def bQ:List V:=[.s 3 4013632,.i .i64 (.ofNat 700),.i .i64 (.ofNat 1)]
def bU:List V:=[.s 3 3026493,.i .i64 (.ofNat 700),.i .i64 (.ofNat 1)]
def bW:List V:=[.s 2 29545,.i .i64 (.ofNat 700),.i .i64 (.ofNat 1)]
def cC:List V:=[.s 3 4012605,.i .i64 (.ofNat 700),.i .i64 (.ofNat 1)]
def cD:List V:=[.s 3 4021309,.i .i64 (.ofNat 700),.i .i64 (.ofNat 1)]
def cG:List V:=[.s 1 60,.i .i64 (.ofNat 700),.i .i64 (.ofNat 1)]
def cL:List V:=[.s 1 62,.i .i64 (.ofNat 700),.i .i64 (.ofNat 1)]
def cO:List V:=[.s 2 15421,.i .i64 (.ofNat 700),.i .i64 (.ofNat 1)]
def cT:List V:=[.s 2 15678,.i .i64 (.ofNat 700),.i .i64 (.ofNat 1)]
def cW:List V:=[.s 2 15651,.i .i64 (.ofNat 700),.i .i64 (.ofNat 1)]
def cZ:List V:=[.s 3 4021283,.i .i64 (.ofNat 700),.i .i64 (.ofNat 1)]
def dJ:List V:=[.s 2 15395,.i .i64 (.ofNat 700),.i .i64 (.ofNat 1)]
def dR:List V:=[.s 2 15907,.i .i64 (.ofNat 700),.i .i64 (.ofNat 1)]
def dY:List V:=[.s 3 3947811,.i .i64 (.ofNat 700),.i .i64 (.ofNat 1)]
def eJ:List V:=[.s 3 4013603,.i .i64 (.ofNat 700),.i .i64 (.ofNat 1)]
def eP:List V:=[.s 2 28265,.i .i64 (.ofNat 700),.i .i64 (.ofNat 1)]
def eT:List V:=[.s 1 58,.i .i64 (.ofNat 600),.i .i64 (.ofNat 2)]
def fC:List V:=[.s 1 43,.i .i64 (.ofNat 500),.i .i64 (.ofNat 3)]
def fE:List V:=[.s 1 45,.i .i64 (.ofNat 500),.i .i64 (.ofNat 3)]
def fK:List V:=[.s 2 23599,.i .i64 (.ofNat 500),.i .i64 (.ofNat 3)]
def fS:List V:=[.s 2 12124,.i .i64 (.ofNat 500),.i .i64 (.ofNat 3)]
def fX:List V:=[.s 3 7499640,.i .i64 (.ofNat 500),.i .i64 (.ofNat 3)]
def gH:List V:=[.s 2 11822,.i .i64 (.ofNat 450),.i .i64 (.ofNat 1)]
def gV:List V:=[.s 1 42,.i .i64 (.ofNat 400),.i .i64 (.ofNat 3)]
def iH:List V:=[.s 1 47,.i .i64 (.ofNat 400),.i .i64 (.ofNat 3)]
def iR:List V:=[.s 2 12079,.i .i64 (.ofNat 400),.i .i64 (.ofNat 3)]
def jG:List V:=[.s 3 7169394,.i .i64 (.ofNat 400),.i .i64 (.ofNat 3)]
def jZ:List V:=[.s 3 6582125,.i .i64 (.ofNat 400),.i .i64 (.ofNat 3)]
def kP:List V:=[.s 3 7760228,.i .i64 (.ofNat 400),.i .i64 (.ofNat 3)]
def lN:List V:=[.s 2 15420,.i .i64 (.ofNat 400),.i .i64 (.ofNat 3)]
def nD:List V:=[.s 2 15934,.i .i64 (.ofNat 400),.i .i64 (.ofNat 3)]
def oX:List V:=[.s 2 10794,.i .i64 (.ofNat 200),.i .i64 (.ofNat 1)]
def qQ:List V:=[.s 1 94,.i .i64 (.ofNat 200),.i .i64 (.ofNat 2)]
def tX:List V:=[.s 1 45,.i .i64 (.ofNat 200),.i .i64 (.ofNat 4)]
def xG:List V:=[.s 1 43,.i .i64 (.ofNat 200),.i .i64 (.ofNat 4)]
def DP:List V:=[.s 1 92,.i .i64 (.ofNat 200),.i .i64 (.ofNat 4)]
def pQ:List (List V):=[spZ,spZ,spZ,spZ,spZ,spZ,spZ,spZ,spZ,spO,spO,spO,spO,spO,spZ,spZ,spZ,spZ,spZ,spZ,spZ,spZ,spZ,spZ,spZ,spZ,spZ,spZ,spZ,spZ,spZ,spZ,spO,spZ,spZ,spZ,spZ,spZ,spZ,spZ,spZ,spZ,spZ,spZ,spZ,spZ,spZ,spZ,spZ,spZ,spZ,spZ,spZ,spZ,spZ,spZ,spZ,spZ,spZ,spZ,spZ,spZ,spZ,spZ,spZ,spZ,spZ,spZ,spZ,spZ,spZ,spZ,spZ,spZ,spZ,spZ,spZ,spZ,spZ,spZ,spZ,spZ,spZ,spZ,spZ,spZ,spZ,spZ,spZ,spZ,spZ,spZ,spZ,spZ,spZ,spZ,spZ,spZ,spZ,spZ,spZ,spZ,spZ,spZ,spZ,spZ,spZ,spZ,spZ,spZ,spZ,spZ,spZ,spZ,spZ,spZ,spZ,spZ,spZ,spZ,spZ,spZ,spZ,spZ,spZ,spZ,spZ,spZ,spZ,spZ,spZ,spZ,spZ,spZ,spZ,spZ,spZ,spZ,spZ,spZ,spZ,spZ,spZ,spZ,spZ,spZ,spZ,spZ,spZ,spZ,spZ,spZ,spZ,spZ,spZ,spZ,spZ,spZ,spZ,spZ,spZ,spZ,spZ,spZ,spZ,spZ,spZ,spZ,spZ,spZ,spZ,spZ,spZ,spZ,spZ,spZ,spZ,spZ,spZ,spZ,spZ,spZ,spZ,spZ,spZ,spZ,spZ,spZ,spZ,spZ,spZ,spZ,spZ,spZ,spZ,spZ,spZ,spZ,spZ,spZ,spZ,spZ,spZ,spZ,spZ,spZ,spZ,spZ,spZ,spZ,spZ,spZ,spZ,spZ,spZ,spZ,spZ,spZ,spZ,spZ,spZ,spZ,spZ,spZ,spZ,spZ,spZ,spZ,spZ,spZ,spZ,spZ,spZ,spZ,spZ,spZ,spZ,spZ,spZ,spZ,spZ,spZ,spZ,spZ,spZ,spZ,spZ,spZ,spZ,spZ,spZ,spZ,spZ,spZ,spZ,spZ]
def sysF:FOp:=⟨fun _ args h=>match args with| [.s l c,.i .i64 (.ofNat n)]=>bif (Nat.beq l 1&&(Nat.beq c 112&&Nat.beq n 2))||(Nat.beq l 1&&(Nat.beq c 113&&Nat.beq n 1)) then(match aB (fY 2) h.mem with|some (.cells sz els _ _)=>bif Nat.beq sz 1&&rH els pQ then .ok (.tup [.s 0 0,.b false]) h else .bad|_=>.bad) else .bad|_=>.bad⟩
def sp0 (f:Nat):Option FOp:=bif Nat.beq f 348 then some cmpF else bif Nat.beq f 374 then some BE else bif Nat.beq f 352 then some AG else bif Nat.beq f 207 then some sysF else none
def cP:dQ:=uR Tryz.prog sp0 5000 300
def oV:List (List V):=[[.s 32 52640374707520947340142004992979617705667005587735983439709912255726714363937],[.s 243 624868766964528609815472573391722979963633364518532507621534199778321382148505785982852262472798513715478845088011303865398087921227707521119477785088323083213414180154457546530965604000309697521542329348944223337166030257619028959408923602296030806562780668093714835693713414670559421985248606521464366268938831297241229118000863089133915898770232954655047506790752628831027494225780569937687937916722873996383793531956094537539467304204542084275412744258508281313024612150190033633491983601842127411989773478985843478269880790990210491270432271579524938122290525128117811723579318646],[.s 357 24233773780257404046700360956271340360636494022152004325362947367789915849098505462102663015728079997468043555536162756272507463718827757065870164488521825547238681536042517547580435735470690315921345415628023738959346159379908343585489478613107207373937764907608284765051705800063814586308259163947190848381562272447747319441447961510128845105868588049539577561154470672445724533307726718169661648076678943585042452756764439499568633421732165577833059730610839010891001100864073464252220857953495946398198162202606848011813740429214577358182089625720662265756256434443645198314525334126557373668284389878376022222887900315166971877933359200017991979369909944444942544864025555054509909235568666917566506810360172152559448746453204376388059367875103067799394496254618801074738316723524245877997848889963327343321136997447696793528920052832400854990532067532861],[.s 98 46274969367564505113335134635395149202129128411873333409399890702328690882354320571980533651618650167384839571805923057722782199708175757528061202210655097154431845732864308809396516538052627576426977380071503599479995618608687918968675],[.s 13 9225882877211107632348116710771]]
def H1 (n:Nat):H:=⟨fU (fY 1) (some (.cells 1 oV (fY 1) .fz)) (fU (fY 2) (some (.cells 1 pQ (fY 2) .fz)) Mem.new),Fam.new,fY n⟩
def IX:xB Tryz.prog=true:=by kernel_rfl
def JR:Tryz.prog.follows .mixedOrders=true:=by kernel_rfl
def KR:Tryz.prog.globals.size≤14:=cY (by kernel_rfl)
def AL:2<Tryz.prog.globals.size:=cY (by kernel_rfl)
def sR {α:Type} {b:Bool} {x y:Option α} {z:α} (h:(bif b then x else y)=some z):(b=true∧x=some z)∨(b=false∧y=some z):=by
 cases b with
 |true=>exact .inl ⟨rfl,h⟩
 |false=>exact .inr ⟨rfl,h⟩
def Jc:Tryz.f348.name≠ "runtime.NumGoroutine" :=by
 have h:(Tryz.f348.name== "runtime.NumGoroutine")=false:=by kernel_rfl
 simpa using h
def Ja:Tryz.f374.name≠ "runtime.NumGoroutine" :=by
 have h:(Tryz.f374.name== "runtime.NumGoroutine")=false:=by kernel_rfl
 simpa using h
def Jb:Tryz.f352.name≠ "runtime.NumGoroutine" :=by
 have h:(Tryz.f352.name== "runtime.NumGoroutine")=false:=by kernel_rfl
 simpa using h
def Oh (h:f=348) {vs:List V} {us:Lv} {m:Mp} {h0 h':H} {w:Wo} {v:V} {call:dQ} (hr:HR m h0 w) (hR:Rl m vs us) (hv:cmpF.run call vs h0= .ok v h'):dO Tryz.prog ((callFunc f ⟨us⟩).run Tryz.prog w) m h0 w v h':=by
 subst h;exact Og (fn:=Tryz.f348) Tryz.func348 rfl Jc (by kernel_rfl) (by kernel_rfl) hr hR hv
def WI (h:f=374) {vs:List V} {us:Lv} {m:Mp} {h0 h':H} {w:Wo} {v:V} {call:dQ} (hr:HR m h0 w) (hR:Rl m vs us) (hv:BE.run call vs h0= .ok v h'):dO Tryz.prog ((callFunc f ⟨us⟩).run Tryz.prog w) m h0 w v h':=by
 subst h;exact Ns (fn:=Tryz.f374) Tryz.func374 rfl Ja (by kernel_rfl) (by kernel_rfl) hr hR hv
def UI (h:f=352) {vs:List V} {us:Lv} {m:Mp} {h0 h':H} {w:Wo} {v:V} {call:dQ} (hr:HR m h0 w) (hR:Rl m vs us) (hv:AG.run call vs h0= .ok v h'):dO Tryz.prog ((callFunc f ⟨us⟩).run Tryz.prog w) m h0 w v h':=by
 subst h;exact Kk (fn:=Tryz.f352) Tryz.func352 rfl Jb (by kernel_rfl) (by kernel_rfl) hr hR hv
def PE:pQ=(List.range 256).map fun b=>[V.i .u8 (bif spB b then .ofNat 1 else .ofNat 0)]:=by kernel_rfl
def HZ:∀(l:List Nat) (g:Nat→V),(l.map fun b=>[g b]).flatten=l.map g
 | [],_=>rfl
 |a::l,g=>by simp [HZ l g]
def Do {h:H} {ro:Rw} (hr:HR m h w) (hg:Gl Tryz.prog m) (hb:aB (fY 2) h.mem=some (.cells 1 pQ fm ro)):eQ w:=by
 obtain⟨l,hl,ho⟩:=hr.obj _ _ hb;obtain⟨lim,hl2⟩:=hg 2 AL;rw [hl2] at hl;obtain rfl:=bP hl;obtain⟨C,t,fz,hC⟩:=ho;intro b hb;have hf:pQ.flatten[b]?=some (V.i .u8 (bif spB b then .ofNat 1 else .ofNat 0)):=by
  rw [PE,HZ (List.range 256) (fun b=>V.i .u8 (bif spB b then .ofNat 1 else .ofNat 0)),jO,uX hb];rfl
 obtain⟨u,hu,hR,_⟩:=hC.val b _ hf;simp only [R] at hR;have h1:=uQ (l:=⟨2,0,lim⟩) hC.at_ b;have h2:w.cell? ⟨2,b,none⟩=C[b]?:=h1;rw [h2];rw [show(⟨2,0,lim⟩:Ev.Loc).base+b=b from dH b] at hu;rw [hu,hR];cases spB b<;>rfl
def Ic {u:Value} (hl:l=1) (hc:c<256) (h:R m (.s l c) u):u= .string ⟨#[c.toUInt8]⟩:=by
 subst hl;rw [iI] at h;obtain⟨s,rfl,hs,_⟩:=h;have h1:bytesOf 1 c= [c]:=by
  simp only [bytesOf]
  first|rfl|(simp;omega)
 rw [h1] at hs;obtain⟨⟨l⟩⟩:=s;cases l with
 |nil=>cases hs
 | cons x l=>
  cases l with
  |cons y l=>cases hs
  |nil=>
   have:x.toNat=c:=by simpa [eU] using hs
   subst this;simp
def iC (w:Wo):Prop:=∀i,i<5→∃(l c:Nat) (s:ByteArray),oV[i]?=some [V.s l c]∧c<256^l∧w.cell? ⟨1,i,none⟩=some (.string s)∧s.data.toList.map UInt8.toNat=bytesOf l c
def limOf (b:Nat):Nat:=if b=1 then 5 else if b=2 then 256 else 0
def m0 (n:Nat):Mp:=fun b=>if b.toNat<n then some ⟨b.toNat,0,limOf b.toNat⟩ else none
def YB {n:Nat} {Q:Nat→Value→Prop} (hn:0<n) (h:∀i,i<n→∃v,w.cell? ⟨B,i,none⟩=some v∧Q i v):
  ∃C t fz,w.heap[B]?=some (.cells C t fz)∧n≤C.size∧∀i,i<n→∃v,C[i]?=some v∧Q i v:=by
 obtain⟨v0,h0,_⟩:=h 0 hn;have key:∃C t fz,w.heap[B]?=some (.cells C t fz):=by
  unfold World.cell? at h0;split at h0
  ·rename_i c t fz hb;exact⟨c,t,fz,hb⟩
  ·cases h0
 obtain⟨C,t,fz,hb⟩:=key;have h2:∀i,i<n→∃v,C[i]?=some v∧Q i v:=by
  intro i hi;obtain⟨v,h1,h2⟩:=h i hi;have:w.cell? ⟨B,i,none⟩=C[i]?:=uQ (l:=⟨B,0,0⟩) hb i;exact⟨v,by rw [←this];exact h1,h2⟩
 refine⟨C,t,fz,hb,?_,h2⟩;obtain⟨v,h1,_⟩:=h2 (n-1) (by omega);have:=(cV.1 h1).1;omega
def RN:oV.flatten.length=5:=by kernel_rfl
def IZ:(oV.all fun el=>Nat.beq el.length 1)=true:=by kernel_rfl
def EY {els:List (List V)} (h:(els.all fun el=>Nat.beq el.length 1)=true):∀el∈els,el.length=1:=fun el a4=>bG (kV.1 h el a4)
def PD:pQ.flatten.length=256:=by kernel_rfl
def Dr:(pQ.all fun el=>Nat.beq el.length 1)=true:=by kernel_rfl
def KY:∀{els:List (List V)} (_:∀el∈els,el.length=1) {i:Nat} {x:V},els[i]?=some [x]→els.flatten[i]?=some x
 | [],_,i,x,h=>by simp at h
 | a::l,ha,i,x,h=>by
  have h1:=ha a (by simp)
  match a,h1 with
  | [y],_=>
   cases i with
   |zero=>simp at h;simp [h]
   |succ i=>
    simp at h;have:=KY (fun el a4=>ha el (by simp [a4])) h;simpa using this
def mem1 {ob:O} (h:aB b (H1 14).mem=some ob):(b=fY 1∧ob= .cells 1 oV (fY 1) .fz)∨(b=fY 2∧ob= .cells 1 pQ (fY 2) .fz):=by
 have h':aB b (fU (fY 1) (some (.cells 1 oV (fY 1) .fz)) (fU (fY 2) (some (.cells 1 pQ (fY 2) .fz)) Mem.new))=some ob:=h
 by_cases e:b=fY 1
 ·subst e;rw [iA] at h';exact .inl ⟨rfl,(bP h').symm⟩
 ·rw [gN e] at h'
  by_cases e3:b=fY 2
  ·subst e3;rw [iA] at h';exact .inr ⟨rfl,(bP h').symm⟩
  ·rw [gN e3,SR] at h';cases h'
def id1:(fY 1).toNat=1:=vU (by decide)
def id2:(fY 2).toNat=2:=vU (by decide)
def hr0 {n:Nat} (hn:n≤14) (h3:2<n) (hw:n≤w.heap.size) (hN:iC w) (hS:eQ w):HR (m0 n) (H1 14) w:=by
 have hm:∀b l,m0 n b=some l→b.toNat<n∧l.blk=b.toNat:=by
  intro b l h;unfold m0 at h;split at h
  ·rename_i b1;cases h;exact⟨b1,rfl⟩
  ·cases h
 have m1:m0 n (fY 1)=some ⟨1,0,5⟩:=by
  unfold m0;rw [id1,if_pos (by omega)];rfl
 have m3:m0 n (fY 2)=some ⟨2,0,256⟩:=by
  unfold m0;rw [id2,if_pos (by omega)];rfl
 have a2:fY 1≠fY 2:=fun e=>by have:=cI Ev.Id.toNat e;rw [id1,id2] at this;omega
 have a0:∀f,bR f (H1 14).fams= []:=fun f=>KZ f
 refine⟨?_,?_,?_,?_,?_,?_,?_,?_⟩
 ·intro b ob h;rcases mem1 h with⟨rfl,rfl⟩|⟨rfl,rfl⟩
  ·refine⟨_,m1,?_⟩;obtain⟨C,t,fz,hb,hs,hC⟩:=YB (w:=w) (B:=1) (n:=5) (Q:=fun i v=>∃l c s,oV[i]?=some [V.s l c]∧c<256^l∧v= .string s∧s.data.toList.map UInt8.toNat=bytesOf l c) (by decide) (fun i hi=>by
    obtain⟨l,c,s,h1,h2,h3,h4⟩:=hN i hi;exact⟨_,h3,l,c,s,h1,h2,rfl,h4⟩)
   refine⟨C,t,fz,hb,by show 0+5≤C.size;omega,by rw [RN];exact aA _,EY IZ,?_,fun h=>(by cases h),fun h=>(by cases h),fun ty e=>(by cases e),BY _⟩;intro i v hv;have hi:i<5:=by have:=(aZ.1 hv).1;rw [RN] at this;exact this
   obtain⟨u,hu,l,c,s,h1,h2,rfl,h4⟩:=hC i hi;rw [KY (EY IZ) h1] at hv;obtain rfl:=bP hv;exact⟨_,by show C[0+i]?=_;rw [dH];exact hu,by rw [iI];exact⟨s,rfl,h4,h2⟩,by simp [fI]⟩
  ·refine⟨_,m3,?_⟩;obtain⟨C,t,fz,hb,hs,hC⟩:=YB (w:=w) (B:=2) (n:=256) (Q:=fun b v=>v= .int .u8 (if spB b then 1 else 0)) (by decide) (fun i hi=>⟨_,hS i hi,rfl⟩);refine⟨C,t,fz,hb,by show 0+256≤C.size;omega,by rw [PD];exact aA _,EY Dr,?_,fun h=>(by cases h),fun h=>(by cases h),fun ty e=>(by cases e),BY _⟩;intro i v hv;have hi:i<256:=by have:=(aZ.1 hv).1;rw [PD] at this;exact this
   obtain⟨u,hu,rfl⟩:=hC i hi;have hf:pQ.flatten[i]?=some (V.i .u8 (bif spB i then .ofNat 1 else .ofNat 0)):=by
    rw [PE,HZ (List.range 256) (fun b=>V.i .u8 (bif spB b then .ofNat 1 else .ofNat 0)),jO,uX hi];rfl
   rw [hf] at hv;obtain rfl:=bP hv;refine⟨_,by show C[0+i]?=_;rw [dH];exact hu,?_,by simp [fI]⟩;simp only [R];cases spB i<;>rfl
 ·intro b l h;obtain⟨h1,_⟩:=hm b l h;show b.toNat<(fY 14).toNat;rw [vU (by decide)];omega
 ·intro b b' ob b4 l l' hb a7 hl b0 a3 a9;have e1:=(hm b l hl).2;have e2:=(hm b' l' b0).2;exact absurd (Ev.Id.toNat_inj (by rw [←e1,←e2];exact a9)) a3
 ·intro b b' sz els f ro b5 els' ro' hb a7 a3;rcases mem1 hb with⟨rfl,e⟩|⟨rfl,e⟩<;>rcases mem1 a7 with⟨rfl,e'⟩|⟨rfl,e'⟩
  ·exact absurd rfl a3
  ·injection e with _ _ e1 _;injection e' with _ _ e2 _;exact absurd (e1.symm.trans e2) a2
  ·injection e with _ _ e1 _;injection e' with _ _ e2 _;exact absurd (e2.symm.trans e1) a2
  ·exact absurd rfl a3
 ·intro f;rw [a0];exact List.Pairwise.nil
 ·intro b l h;obtain⟨h1,h2⟩:=hm b l h;omega
 ·intro b sz els f ro hb;have a6:(H1 14).next.toNat=14:=vU (by decide);rw [a6];rcases mem1 hb with⟨rfl,e⟩|⟨rfl,e⟩
  ·injection e with _ _ e1 _;rw [e1,id1];decide
  ·injection e with _ _ e1 _;rw [e1,id2];decide
 ·intro f x hx;rw [a0] at hx;cases hx
def gl0:Gl Tryz.prog (m0 Tryz.prog.globals.size):=by
 intro g hg;refine⟨limOf g,?_⟩;have a6:=KR;unfold m0;rw [vU (by omega),if_pos hg]
def Cf {r:VH} (h:VH.isTrue r=true):∃h',r= .ok (.b true) h':=by
 cases r with
 |bad=>cases h
 | ok v h'=>
  cases v with
  |b x=>cases x with
   |true=>exact⟨h',rfl⟩
   |false=>cases h
  |_=>cases h
def sS {a b:Nat} (h:Nat.beq a b=true):a=b:=bG h
def LD {sp:Nat→Option FOp} (b3:SpecOK Tryz.prog sp) {f:FuncId} {vs:List V} {us:Lv} {v:V} {h':H} (hf:∀args w,(callFunc f args).run Tryz.prog w= .ok (.enter f args) w) (w:Wo)
  (hw:Tryz.prog.globals.size≤w.heap.size) (hN:iC w) (hS:eQ w) (hR:Rl (m0 Tryz.prog.globals.size) vs us) (a5:uR Tryz.prog sp 5000 300 f vs (H1 14)= .ok v h'):
  Cz f ⟨us⟩ w fun e w'=>∃u m',e= .returned u∧R m' v u∧HR m' h' w'∧RowKit.Below w.heap.size w w':=by
 have b2:∀B,¬Wb (m0 Tryz.prog.globals.size) (H1 14) B:=by
  rintro B ⟨b,ob,l,h,_,_,hwr⟩;rcases mem1 h with⟨_,rfl⟩|⟨_,rfl⟩<;>exact hwr rfl
 rcases FN IX JR b3 300 f vs us (m0 Tryz.prog.globals.size) (H1 14) w v h' (hr0 KR AL hw hN hS) gl0 hR a5 with⟨u,w',m',h1,_⟩|⟨f,us,h1,h2⟩
 ·rw [hf] at h1;rcases h1 with h1|⟨h1,_⟩<;>cases h1
 ·rw [hf] at h1;cases h1;refine h2.mono ?_;rintro e w' ⟨u,m',rfl,hF,hR⟩;exact⟨u,m',rfl,hR,hF.hr,hF.os,hF.tape,hF.output,hF.size,fun k hk=>hF.keep k hk (b2 k)⟩
def spL0 (f:Nat):Option FOp:=bif Nat.beq f 374 then some BE else bif Nat.beq f 352 then some AG else none
def PG:SpecOK Tryz.prog spL0:=by
 intro f op a1 call a8 vs us m h w v h' hr hg hR hv;unfold spL0 at a1;rcases sR a1 with⟨e,h1⟩|⟨_,a1⟩
 ·obtain rfl:=bP h1;exact WI (sS e) hr hR hv
 rcases sR a1 with⟨e,h1⟩|⟨_,a1⟩
 ·obtain rfl:=bP h1;exact UI (sS e) hr hR hv
 ·cases a1
def KE {P:Program} {W:Wo}:∀{laid:List (String × DataW Unit)} {ps:List MemPlace},DataW.LaidVars P W laid ps→∀n d,(n,d)∈laid→
  ∃g t cs a0 p,P.globalNamed n=some g∧(P.globals[g]?).map (·.type)=some t∧W.var? P n=some cs∧DataW.trod (fun _=>()) P W 0 (fun _=>true) false a0 t cs.toList=some (d,p)
 | [],_,_,n,d,h=>by simp at h
 |(n0,d0)::r,ps,hl,n,d,h=>by
  obtain⟨g,t,cs,a0,p,q,h1,h2,h3,h4,h5,_⟩:=hl;rcases cN.1 h with e|h
  ·cases e;exact⟨g,t,cs,a0,p,h1,h2,h3,h4⟩
  ·exact KE h5 n d h
def Ot {H:Type} {a6:TypeId × Value→H} {P:Program} {base:Nat} {sp:Nat→Bool} {a3:Bool} {n:Nat} {cs:Lv} {p:List MemPlace}
  (ht:P.underlying t=some (.array n e)) (he:P.underlying e=some .string) (a1:P.cellsOf e=1) (a2:P.cellsOf t=n)
  (h:DataW.trod a6 P w base sp a3 a0 t cs=some (.agg (ss.map fun s=>.lit (Lit.string s)),p)):∀(i:Nat) (s:List UInt8),ss[i]?=some s→∃b:ByteArray,cs[i]?=some (Value.string b)∧b.data.toList=s:=by
 cases a0 with
 |zero=>simp [DataW.trod] at h
 | succ a0=>
  simp only [DataW.trod,ht,a1,a2,tF] at h;split at h
  ·rename_i hl;obtain⟨xs,hm,hx⟩:=wJ.1 h;have a5:xs.map (·.1)=ss.map fun s=>(DataW.lit (Lit.string s):DataW H):=by
    have:=cI Prod.fst hx;simpa using this
   have a7:xs.length=n:=by simpa using Lib.mapM_length hm
   have a8:ss.length=n:=by
    have:=cI List.length a5;simp at this;omega
   intro i s hs;have hi:i<n:=by have:=(aZ.1 hs).1;omega
   obtain⟨b,hb,hf⟩:=Lib.mapM_at hm i i (by simp [hi]);obtain⟨z,hc,rfl,_⟩:=DataW.trod_string he hf;have h1:cs[i]?=some (.string z):=by
    have:=cI (·[0]?) hc;simpa [yT,mC] using this
   have h2:(xs.map (·.1))[i]?=some (DataW.lit (.string z.data.toList):DataW H):=by simp [hb]
   rw [a5] at h2;simp only [jO,hs,rP,dW,DataW.lit.injEq,Lit.string.injEq] at h2;exact⟨z,h1,h2.symm⟩
  ·cases h
def MC:List V→List UInt8→Bool
 | [V.s l c],s=>Nat.blt c (256^l)&&(s.map UInt8.toNat==bytesOf l c)
 |_,_=>false
def BF:List (List V)→List (List UInt8)→Bool
 | [],[]=>true
 |a::els,s::ss=>MC a s&&BF els ss
 |_,_=>false
def Oo {a:List V} {s:List UInt8} (h:MC a s=true):∃l c,a= [V.s l c]∧c<256^l∧s.map UInt8.toNat=bytesOf l c:=by
 unfold MC at h;split at h
 ·rename_i l c;rw [aR,tE] at h;exact⟨l,c,rfl,cY h.1,h.2⟩
 ·cases h
def XF:∀{els:List (List V)} {ss:List (List UInt8)},BF els ss=true→∀i,i<ss.length→∃l c s,els[i]?=some [V.s l c]∧c<256^l∧ss[i]?=some s∧s.map UInt8.toNat=bytesOf l c
 |els,[],_,i,hi=>absurd hi (rR i)
 | [],s::ss,h,i,hi=>by cases h
 | a::els,s::ss,h,i,hi=>by
  rw [BF,aR] at h;cases i with
  |zero=>
   obtain⟨l,c,h1,h2,h3⟩:=Oo h.1;exact⟨l,c,s,by rw [h1];rfl,h2,rfl,h3⟩
  |succ i=>
   obtain⟨l,c,s',h1,h2,h3,h4⟩:=XF h.2 i (by simpa using hi);exact⟨l,c,s',by simpa using h1,h2,by simpa using h3,h4⟩
def Ix (h:laidMet Tryz.prog laid W) (hm:(n,d)∈laid)
  (hg:Tryz.prog.globalNamed n=some 1) (a4:(Tryz.prog.globals[1]?).map (·.type)=some t) (ht:Tryz.prog.underlying t=some (.array 5 e)) (he:Tryz.prog.underlying e=some .string) (a1:Tryz.prog.cellsOf e=1) (a2:Tryz.prog.cellsOf t=5)
  (hd:d= .agg (ss.map fun s=>.lit (Lit.string s))) (hl:ss.length=5) (hc:BF oV ss=true):iC W:=by
 obtain⟨ps,hv,_⟩:=h;obtain⟨g',t',cs,a0,p,hg',ht',hvar,htr⟩:=KE hv n d hm;obtain rfl:=bP (hg.symm.trans hg');obtain rfl:=bP (a4.symm.trans ht');subst hd;have hs:=Ot ht he a1 a2 htr;intro i hi;obtain⟨l,c,s,h1,h2,h3,h4⟩:=XF hc i (by omega);obtain⟨b,h5,rfl⟩:=hs i s h3;refine⟨l,c,b,h1,h2,?_,h4⟩;rw [World.var?_cell hg hvar i];simpa using h5
def Ds (h:laidMet Tryz.prog laid W) (hm:(n,d)∈laid)
  (hg:Tryz.prog.globalNamed n=some 2) (a4:(Tryz.prog.globals[2]?).map (·.type)=some t) (ht:Tryz.prog.underlying t=some (.array 256 e)) (he:Tryz.prog.underlying e=some (.int .u8)) (a1:Tryz.prog.cellsOf e=1) (a2:Tryz.prog.cellsOf t=256)
  (hd:d=Lib.tabData .u8 ((List.range 256).map fun b=>if spB b then 1 else 0)):eQ W:=by
 obtain⟨ps,hv,_⟩:=h;obtain⟨g',t',cs,a0,p,hg',ht',hvar,htr⟩:=KE hv n d hm;obtain rfl:=bP (hg.symm.trans hg');obtain rfl:=bP (a4.symm.trans ht');subst hd;have hs:=Lib.cells_of_tab ht he a1 a2 htr;intro b hb;rw [World.var?_cell hg hvar b];have:cs.toList[b]?=some (.int .u8 (if spB b then 1 else 0)):=by
  rw [hs,jO,jO,uX hb];rfl
 simpa using this
end
end Go.Proofs.YtealgacfnbbgdaaGreatDoor
namespace Go.Proofs
open Go.Shelf
def Tryz.lays105_ren:Go.Shelf.Ren:=⟨fun|105=>210|212=>285|99=>286|165=>287|166=>288|170=>289|169=>290|263=>328|264=>329|206=>330|240=>331|241=>332|276=>371|277=>372|n=>n,fun|9=>9|3=>3|4=>4|20=>20|0=>0|46=>156|109=>368|5=>5|72=>372|76=>376|51=>83|146=>411|53=>185|148=>413|70=>370|37=>84|75=>375|127=>415|164=>451|80=>379|n=>n,fun|n=>n⟩
def Tryz.lays105:Go.Proofs.Lays.n105 Tryz.prog Tryz.lays105_ren:={
 mixed:=by kernel_rfl
 f99:=Tryz.func286.trans (cI some (by kernel_rfl))
 f105:=Tryz.func210.trans (cI some (by kernel_rfl))
 f165:=Tryz.func287.trans (cI some (by kernel_rfl))
 f166:=Tryz.func288.trans (cI some (by kernel_rfl))
 f169:=Tryz.func290.trans (cI some (by kernel_rfl))
 f170:=Tryz.func289.trans (cI some (by kernel_rfl))
 f206:=Tryz.func330.trans (cI some (by kernel_rfl))
 f212:=Tryz.func285.trans (cI some (by kernel_rfl))
 f240:=Tryz.func331.trans (cI some (by kernel_rfl))
 f241:=Tryz.func332.trans (cI some (by kernel_rfl))
 f263:=Tryz.func328.trans (cI some (by kernel_rfl))
 f264:=Tryz.func329.trans (cI some (by kernel_rfl))
 f276:=Tryz.func371.trans (cI some (by kernel_rfl))
 f277:=Tryz.func372.trans (cI some (by kernel_rfl))
 t0:=Tryz.underlying0
 a0:=Tryz.isAgg0
 z0:=Tryz.sizeOf0
 v0:=Tryz.zeroValue0
 t3:=Tryz.underlying3
 a3:=Tryz.isAgg3
 z3:=Tryz.sizeOf3
 v3:=Tryz.zeroValue3
 t4:=Tryz.underlying4
 a4:=Tryz.isAgg4
 z4:=Tryz.sizeOf4
 v4:=Tryz.zeroValue4
 t5:=Tryz.underlying5
 a5:=Tryz.isAgg5
 z5:=Tryz.sizeOf5
 v5:=Tryz.zeroValue5
 t9:=Tryz.underlying9
 a9:=Tryz.isAgg9
 z9:=Tryz.sizeOf9
 v9:=Tryz.zeroValue9
 t20:=Tryz.underlying20
 a20:=Tryz.isAgg20
 z20:=Tryz.sizeOf20
 v20:=Tryz.zeroValue20
 t37:=Tryz.underlying84
 a37:=Tryz.isAgg84
 z37:=Tryz.sizeOf84
 v37:=Tryz.zeroValue84
 t46:=Tryz.underlying156
 a46:=Tryz.isAgg156
 z46:=Tryz.sizeOf156
 v46:=Tryz.zeroValue156
 t51:=Tryz.underlying83
 a51:=Tryz.isAgg83
 z51:=Tryz.sizeOf83
 v51:=Tryz.zeroValue83
 t53:=Tryz.underlying185
 a53:=Tryz.isAgg185
 z53:=Tryz.sizeOf185
 v53:=Tryz.zeroValue185
 t70:=Tryz.underlying370
 a70:=Tryz.isAgg370
 z70:=Tryz.sizeOf370
 v70:=Tryz.zeroValue370
 t72:=Tryz.underlying372
 a72:=Tryz.isAgg372
 z72:=Tryz.sizeOf372
 v72:=Tryz.zeroValue372
 t75:=Tryz.underlying375
 a75:=Tryz.isAgg375
 z75:=Tryz.sizeOf375
 v75:=Tryz.zeroValue375
 t76:=Tryz.underlying376
 a76:=Tryz.isAgg376
 z76:=Tryz.sizeOf376
 v76:=Tryz.zeroValue376
 t109:=Tryz.underlying368
 a109:=Tryz.isAgg368
 z109:=Tryz.sizeOf368
 v109:=Tryz.zeroValue368
 t127:=Tryz.underlying415
 a127:=Tryz.isAgg415
 z127:=Tryz.sizeOf415
 v127:=Tryz.zeroValue415
 t146:=Tryz.underlying411
 a146:=Tryz.isAgg411
 z146:=Tryz.sizeOf411
 v146:=Tryz.zeroValue411
 t148:=Tryz.underlying413
 a148:=Tryz.isAgg413
 z148:=Tryz.sizeOf413
 v148:=Tryz.zeroValue413
 t164:=Tryz.underlying451
 a164:=Tryz.isAgg451
 z164:=Tryz.sizeOf451
 v164:=Tryz.zeroValue451 }
def Tryz.lays171_ren:Go.Shelf.Ren:=⟨fun|171=>325|243=>368|246=>381|283=>383|284=>384|285=>385|286=>386|129=>143|317=>387|318=>388|319=>389|320=>390|337=>391|338=>392|n=>n,fun|3=>3|9=>9|2=>2|4=>4|171=>460|0=>0|53=>185|37=>84|5=>5|173=>462|212=>465|51=>83|20=>20|213=>466|46=>156|232=>467|233=>468|n=>n,fun|17=>7|18=>8|19=>9|n=>n⟩
def Tryz.lays171:Go.Proofs.Lays.n171 Tryz.prog Tryz.lays171_ren:={
 mixed:=by kernel_rfl
 f129:=Tryz.func143.trans (cI some (by kernel_rfl))
 f171:=Tryz.func325.trans (cI some (by kernel_rfl))
 f243:=Tryz.func368.trans (cI some (by kernel_rfl))
 f246:=Tryz.func381.trans (cI some (by kernel_rfl))
 f283:=Tryz.func383.trans (cI some (by kernel_rfl))
 f284:=Tryz.func384.trans (cI some (by kernel_rfl))
 f285:=Tryz.func385.trans (cI some (by kernel_rfl))
 f286:=Tryz.func386.trans (cI some (by kernel_rfl))
 f317:=Tryz.func387.trans (cI some (by kernel_rfl))
 f318:=Tryz.func388.trans (cI some (by kernel_rfl))
 f319:=Tryz.func389.trans (cI some (by kernel_rfl))
 f320:=Tryz.func390.trans (cI some (by kernel_rfl))
 f337:=Tryz.func391.trans (cI some (by kernel_rfl))
 f338:=Tryz.func392.trans (cI some (by kernel_rfl))
 t0:=Tryz.underlying0
 a0:=Tryz.isAgg0
 z0:=Tryz.sizeOf0
 v0:=Tryz.zeroValue0
 t2:=Tryz.underlying2
 a2:=Tryz.isAgg2
 z2:=Tryz.sizeOf2
 v2:=Tryz.zeroValue2
 t3:=Tryz.underlying3
 a3:=Tryz.isAgg3
 z3:=Tryz.sizeOf3
 v3:=Tryz.zeroValue3
 t4:=Tryz.underlying4
 a4:=Tryz.isAgg4
 z4:=Tryz.sizeOf4
 v4:=Tryz.zeroValue4
 t5:=Tryz.underlying5
 a5:=Tryz.isAgg5
 z5:=Tryz.sizeOf5
 v5:=Tryz.zeroValue5
 t9:=Tryz.underlying9
 a9:=Tryz.isAgg9
 z9:=Tryz.sizeOf9
 v9:=Tryz.zeroValue9
 t20:=Tryz.underlying20
 a20:=Tryz.isAgg20
 z20:=Tryz.sizeOf20
 v20:=Tryz.zeroValue20
 t37:=Tryz.underlying84
 a37:=Tryz.isAgg84
 z37:=Tryz.sizeOf84
 v37:=Tryz.zeroValue84
 t46:=Tryz.underlying156
 a46:=Tryz.isAgg156
 z46:=Tryz.sizeOf156
 v46:=Tryz.zeroValue156
 t51:=Tryz.underlying83
 a51:=Tryz.isAgg83
 z51:=Tryz.sizeOf83
 v51:=Tryz.zeroValue83
 t53:=Tryz.underlying185
 a53:=Tryz.isAgg185
 z53:=Tryz.sizeOf185
 v53:=Tryz.zeroValue185
 t171:=Tryz.underlying460
 a171:=Tryz.isAgg460
 z171:=Tryz.sizeOf460
 v171:=Tryz.zeroValue460
 t173:=Tryz.underlying462
 a173:=Tryz.isAgg462
 z173:=Tryz.sizeOf462
 v173:=Tryz.zeroValue462
 t212:=Tryz.underlying465
 a212:=Tryz.isAgg465
 z212:=Tryz.sizeOf465
 v212:=Tryz.zeroValue465
 t213:=Tryz.underlying466
 a213:=Tryz.isAgg466
 z213:=Tryz.sizeOf466
 t232:=Tryz.underlying467
 a232:=Tryz.isAgg467
 z232:=Tryz.sizeOf467
 v232:=Tryz.zeroValue467
 t233:=Tryz.underlying468
 a233:=Tryz.isAgg468
 z233:=Tryz.sizeOf468
 v233:=Tryz.zeroValue468
 g17:=by kernel_rfl
 g18:=by kernel_rfl
 g19:=by kernel_rfl }
def Tryz.lays189_ren:Go.Shelf.Ren:=⟨fun|189=>52|125=>85|257=>84|128=>142|129=>143|294=>133|295=>134|296=>135|297=>136|298=>137|299=>138|216=>139|300=>140|301=>141|328=>213|329=>214|330=>215|331=>216|332=>217|215=>218|343=>293|n=>n,fun|28=>40|3=>3|46=>156|0=>0|51=>83|53=>185|4=>4|183=>235|182=>234|131=>148|5=>5|9=>9|218=>315|222=>319|228=>382|229=>383|n=>n,fun|n=>n⟩
def Tryz.lays189:Go.Proofs.Lays.n189 Tryz.prog Tryz.lays189_ren:={
 mixed:=by kernel_rfl
 f125:=Tryz.func85.trans (cI some (by kernel_rfl))
 f128:=Tryz.func142.trans (cI some (by kernel_rfl))
 f129:=Tryz.func143.trans (cI some (by kernel_rfl))
 f189:=Tryz.func52.trans (cI some (by kernel_rfl))
 f215:=Tryz.func218.trans (cI some (by kernel_rfl))
 f216:=Tryz.func139.trans (cI some (by kernel_rfl))
 f257:=Tryz.func84.trans (cI some (by kernel_rfl))
 f294:=Tryz.func133.trans (cI some (by kernel_rfl))
 f295:=Tryz.func134.trans (cI some (by kernel_rfl))
 f296:=Tryz.func135.trans (cI some (by kernel_rfl))
 f297:=Tryz.func136.trans (cI some (by kernel_rfl))
 f298:=Tryz.func137.trans (cI some (by kernel_rfl))
 f299:=Tryz.func138.trans (cI some (by kernel_rfl))
 f300:=Tryz.func140.trans (cI some (by kernel_rfl))
 f301:=Tryz.func141.trans (cI some (by kernel_rfl))
 f328:=Tryz.func213.trans (cI some (by kernel_rfl))
 f329:=Tryz.func214.trans (cI some (by kernel_rfl))
 f330:=Tryz.func215.trans (cI some (by kernel_rfl))
 f331:=Tryz.func216.trans (cI some (by kernel_rfl))
 f332:=Tryz.func217.trans (cI some (by kernel_rfl))
 f343:=Tryz.func293.trans (cI some (by kernel_rfl))
 t0:=Tryz.underlying0
 a0:=Tryz.isAgg0
 z0:=Tryz.sizeOf0
 v0:=Tryz.zeroValue0
 t3:=Tryz.underlying3
 a3:=Tryz.isAgg3
 z3:=Tryz.sizeOf3
 v3:=Tryz.zeroValue3
 t4:=Tryz.underlying4
 a4:=Tryz.isAgg4
 z4:=Tryz.sizeOf4
 v4:=Tryz.zeroValue4
 t5:=Tryz.underlying5
 a5:=Tryz.isAgg5
 z5:=Tryz.sizeOf5
 v5:=Tryz.zeroValue5
 t9:=Tryz.underlying9
 a9:=Tryz.isAgg9
 z9:=Tryz.sizeOf9
 v9:=Tryz.zeroValue9
 t28:=Tryz.underlying40
 a28:=Tryz.isAgg40
 z28:=Tryz.sizeOf40
 v28:=Tryz.zeroValue40
 t46:=Tryz.underlying156
 a46:=Tryz.isAgg156
 z46:=Tryz.sizeOf156
 v46:=Tryz.zeroValue156
 t51:=Tryz.underlying83
 a51:=Tryz.isAgg83
 z51:=Tryz.sizeOf83
 v51:=Tryz.zeroValue83
 t53:=Tryz.underlying185
 a53:=Tryz.isAgg185
 z53:=Tryz.sizeOf185
 v53:=Tryz.zeroValue185
 t131:=Tryz.underlying148
 a131:=Tryz.isAgg148
 z131:=Tryz.sizeOf148
 v131:=Tryz.zeroValue148
 t182:=Tryz.underlying234
 a182:=Tryz.isAgg234
 z182:=Tryz.sizeOf234
 v182:=Tryz.zeroValue234
 t183:=Tryz.underlying235
 a183:=Tryz.isAgg235
 z183:=Tryz.sizeOf235
 v183:=Tryz.zeroValue235
 t218:=Tryz.underlying315
 a218:=Tryz.isAgg315
 z218:=Tryz.sizeOf315
 v218:=Tryz.zeroValue315
 t222:=Tryz.underlying319
 a222:=Tryz.isAgg319
 z222:=Tryz.sizeOf319
 v222:=Tryz.zeroValue319
 t228:=Tryz.underlying382
 a228:=Tryz.isAgg382
 z228:=Tryz.sizeOf382
 v228:=Tryz.zeroValue382
 t229:=Tryz.underlying383
 a229:=Tryz.isAgg383
 z229:=Tryz.sizeOf383
 v229:=Tryz.zeroValue383 }
end Go.Proofs
namespace Go.Proofs.YtealgacfnbbgdaaGreatDoor
open Go.RowKit Go.Big
def plN:Nat→List Nat
 |0=>[110,108,32,33,32,116,114,117,101,32,102,97,105,108,32,102,97,108,115,101,32,104,97,108,116,32,114,101,112,101,97,116]
 |n=>match oV[n]? with
  |some [.s l c]=>Go.Ev.bytesOf l c
  |_=>[]
def pnS (n:Nat):ByteArray:=⟨((plN n).map Nat.toUInt8).toArray⟩
def cnS:Nat→ByteArray
 |0=>⟨#[114,101,112,101,97,116,32,104,97,108,116]⟩
 |1=>⟨#[116,104,114,111,119,32,111,110,99,101,32,105,103,110,111,114,101,32,114,101,116,114,97,99,116,32,97,108,108,95,100,105,102,102,101,114,101,110,116,32,108,97,98,101,108,32,123,125,32,101,110,116,97,105,108,101,100]⟩
 |2=>⟨#[102,111,114,97,108,108,32,99,108,97,117,115,101,32,112,104,114,97,115,101,32,102,114,101,101,122,101,32,58,32,105,110,32,35,61,32,35,92,61,32,35,60,32,35,62,32,35,61,60,32,35,62,61,32,105,110,102,32,115,117,112]⟩
 |3=>⟨#[99,97,116,99,104,32,102,105,110,100,97,108,108,32,98,97,103,111,102,32,115,101,116,111,102,32,98,101,116,119,101,101,110,32,99,117,114,114,101,110,116,95,111,112,32,112,104,114,97,115,101,32,101,108,101,109,101,110,116]⟩
 |_=>⟨#[]⟩
def Iz (n:Nat) (w:Wo):Cz 281 #[.int .i64 n] w fun e w'=>e= .returned (.string (pnS n))∧w'=w:=by
 rcases n with _|_|_|_|_|n
 ·show Cz 281 #[.int .i64 0] w _;go_enter Tryz.func281,Tryz.ntmps281;go_wp2
  go_ret
  exact⟨by kernel_rfl,rfl⟩
 ·show Cz 281 #[.int .i64 1] w _;go_enter Tryz.func281,Tryz.ntmps281;go_wp2
  go_ret
  exact⟨by kernel_rfl,rfl⟩
 ·show Cz 281 #[.int .i64 2] w _;go_enter Tryz.func281,Tryz.ntmps281;go_wp2
  go_ret
  exact⟨by kernel_rfl,rfl⟩
 ·show Cz 281 #[.int .i64 3] w _;go_enter Tryz.func281,Tryz.ntmps281;go_wp2
  go_ret
  exact⟨by kernel_rfl,rfl⟩
 ·show Cz 281 #[.int .i64 4] w _;go_enter Tryz.func281,Tryz.ntmps281;go_wp2
  go_ret
  exact⟨by kernel_rfl,rfl⟩
 ·have h:∀k:Int,k<5→¬(((n+5:Nat):Int)=k):=by omega
  have h0:=h 0 (by decide);have h1:=h 1 (by decide);have h2:=h 2 (by decide);have h3:=h 3 (by decide);have h4:=h 4 (by decide);generalize ((n+5:Nat):Int)=z at*;go_enter Tryz.func281,Tryz.ntmps281;go_wp2
  go_ret
  exact⟨rfl,rfl⟩
def Oe (n:Nat) (w:Wo):Cz 209 #[.int .i64 n] w fun e w'=>e= .returned (.string (cnS n))∧w'=w:=by
 rcases n with _|_|_|_|n
 ·show Cz 209 #[.int .i64 0] w _;go_enter Tryz.func209,Tryz.ntmps209;go_wp2
  go_ret
  exact⟨by kernel_rfl,rfl⟩
 ·show Cz 209 #[.int .i64 1] w _;go_enter Tryz.func209,Tryz.ntmps209;go_wp2
  go_ret
  exact⟨by kernel_rfl,rfl⟩
 ·show Cz 209 #[.int .i64 2] w _;go_enter Tryz.func209,Tryz.ntmps209;go_wp2
  go_ret
  exact⟨by kernel_rfl,rfl⟩
 ·show Cz 209 #[.int .i64 3] w _;go_enter Tryz.func209,Tryz.ntmps209;go_wp2
  go_ret
  exact⟨by kernel_rfl,rfl⟩
 ·have h:∀k:Int,k<4→¬(((n+4:Nat):Int)=k):=by omega
  have h0:=h 0 (by decide);have h1:=h 1 (by decide);have h2:=h 2 (by decide);have h3:=h 3 (by decide);generalize ((n+4:Nat):Int)=z at*;go_enter Tryz.func209,Tryz.ntmps209;go_wp2
  go_ret
  exact⟨rfl,rfl⟩
