/-
  The card of WorkModesMatchSpec, second form, is proved: for every argument of the tied card within the bound that the row names, the law returns true and the arguments read as before. Conditions: those of the given row and card (the listed variables as the text lays them).
-/
import Derived.Test.YtbdpdeonapmlgaaGreatDoorBc
import Derived.Test.YtbdpdeonapmlgaaGreatDoorBd
import Derived.Test.YtbdpdeonapmlgaaGreatDoorBe
import Derived.Test.YtbdpdeonapmlgaaGreatDoorBf
import Derived.Test.YtbdpdeonapmlgaaGreatDoorBg
import Derived.Test.YtbdpdeonapmlgaaGreatDoorBh
import Derived.Test.YtbdpdeonapmlgaaGreatDoorBi
import Derived.Test.YtbdpdeonapmlgaaGreatDoorBj
import Derived.Test.YtbdpdeonapmlgaaGreatDoorBk
import Derived.Test.YtbdpdeonapmlgaaGreatDoorBl
import Derived.Test.YtbdpdeonapmlgaaGreatDoorBm
import Derived.Test.YtbdpdeonapmlgaaGreatDoorCards
import Derived.Test.YtbdpdeonapmlgaaGreatDoorTie
import Derived.Deep.DeepHandedRow
import Derived.SevenTiedAt
import Derived.Lay
set_option linter.all false
set_option maxRecDepth 100000
namespace Go.Proofs.YtbdpdeonapmlgaaGreatDoor
open Go.Ev
variable {f:FuncId}
def AD:oV Tryz.prog=true:=by kernel_rfl
def AY:Tryz.prog.follows .mixedOrders=true:=by kernel_rfl
def HL:Tryz.prog.globals.size≤14:=cN (by kernel_rfl)
def vD {α:Type} {b:Bool} {x y:Option α} {z:α} (h:(bif b then x else y)=some z):(b=true∧x=some z)∨(b=false∧y=some z):=by
 cases b with
 |true=>exact .inl ⟨rfl,h⟩
 |false=>exact .inr ⟨rfl,h⟩
def Cj:Tryz.f320.name≠ "runtime.NumGoroutine" :=by
 have h:(Tryz.f320.name== "runtime.NumGoroutine")=false:=by kernel_rfl
 simpa using h
def Ci:Tryz.f361.name≠ "runtime.NumGoroutine" :=by
 have h:(Tryz.f361.name== "runtime.NumGoroutine")=false:=by kernel_rfl
 simpa using h
def Hx (h:f=320) {vs:List V} {us:Lv} {m:Mp} {h0 h':H} {w:Wo} {v:V} {call:bS} (hr:HR m h0 w) (hR:Rl m vs us) (hv:cmpF.run call vs h0= .ok v h'):cM Tryz.prog ((callFunc f ⟨us⟩).run Tryz.prog w) m h0 w v h':=by
 subst h;exact Hw (fn:=Tryz.f320) Tryz.func320 rfl Cj (by kernel_rfl) (by kernel_rfl) hr hR hv
def YU (h:f=361) {vs:List V} {us:Lv} {m:Mp} {h0 h':H} {w:Wo} {v:V} {call:bS} (hr:HR m h0 w) (hR:Rl m vs us) (hv:zO.run call vs h0= .ok v h'):cM Tryz.prog ((callFunc f ⟨us⟩).run Tryz.prog w) m h0 w v h':=by
 subst h;exact YT (fn:=Tryz.f361) Tryz.func361 rfl Ci (by kernel_rfl) (by kernel_rfl) hr hR hv
def YO (h:f=347) {vs:List V} {us:Lv} {m:Mp} {h0 h':H} {w:Wo} {v:V} {call:bS} (hr:HR m h0 w) (hR:Rl m vs us) (hv:(seqG 327 3).run call vs h0= .ok v h'):cM Tryz.prog ((callFunc f ⟨us⟩).run Tryz.prog w) m h0 w v h':=by
 subst h;exact YN Tryz.seqDoes hr hR hv
def OH {P:Program} {lf fuel:Nat} {g f:Nat} (h:f=g) {call:bS} (hp:oV P=true) (a0:fH P call) (a2:P.follows .mixedOrders=true) {m:Mp} {w:Wo}
  {vs:List V} {us:Lv} {h0 h':H} {v:V} (hr:HR m h0 w) (hg:Gl P m) (hR:Rl m vs us) (hv:(ndF P lf fuel g).run call vs h0= .ok v h'):
  cM P ((callFunc f ⟨us⟩).run P w) m h0 w v h':=by
 subst h;exact Ce hp a0 a2 hr hg hR hv
def vF {a b:Nat} (h:Nat.beq a b=true):a=b:=bE h
def LR:SpecOK Tryz.prog sp0:=by
 intro f op a1 call a0 vs us m h w v h' hr hg hR hv;unfold sp0 at a1;rcases vD a1 with⟨e,h1⟩|⟨_,a1⟩
 ·obtain rfl:=aL h1;exact Hx (vF e) hr hR hv
 rcases vD a1 with⟨e,h1⟩|⟨_,a1⟩
 ·obtain rfl:=aL h1;exact YU (vF e) hr hR hv
 rcases vD a1 with⟨e,h1⟩|⟨_,a1⟩
 ·obtain rfl:=aL h1;exact YO (vF e) hr hR hv
 rcases vD a1 with⟨e,h1⟩|⟨_,a1⟩
 ·exact OH (lf:=100) (fuel:=10000) (g:=50) (vF e) AD a0 AY hr hg hR (by rw [aL h1];exact hv)
 rcases vD a1 with⟨e,h1⟩|⟨_,a1⟩
 ·exact OH (lf:=100) (fuel:=10000) (g:=297) (vF e) AD a0 AY hr hg hR (by rw [aL h1];exact hv)
 ·cases a1
def Iq:fH Tryz.prog mW:=IM AD AY LR 300
def facts:∀mm∈mUs,lT mW 14 10000 252 mm=true:=by
 intro mm hm;simp only [mUs,cD,List.not_mem_nil,or_false] at hm;rcases hm with rfl|rfl|rfl|rfl|rfl|rfl|rfl|rfl|rfl
 ·exact fU0
 ·exact fU1
 ·exact fU2
 ·exact fU3
 ·exact fU4
 ·exact fU5
 ·exact fU6
 ·exact fU7
 ·exact fU8
def IW {call:bS} {vs:List V} {h h':H} {v:V} (hv:oI.run call vs h= .ok v h'):False:=by
 simp only [oI] at hv;cases hv
def Cu (e:f=252) {vs:List V} {us:Lv} {m:Mp} {h h':H} {w:Wo} {v:V} {call:bS} (hr:HR m h w) (hg:Gl Tryz.prog m) (hR:Rl m vs us) (hv:(GM 10000 14 mUs oI).run call vs h= .ok v h'):cM Tryz.prog ((callFunc f ⟨us⟩).run Tryz.prog w) m h w v h':=by
 subst e;simp only [GM] at hv;cases hn:Nat.ble 14 h.next.toNat with
 |false=>rw [hn] at hv;exact absurd hv IW
 | true=>
  rw [hn] at hv;simp only [cQ,OK] at hv;split at hv
  ·exact absurd hv IW
  ·rename_i a o olds a3;split at hv
   ·exact absurd hv IW
   ·rename_i mm hf;obtain⟨h1,rfl,rfl⟩:=QX hf;exact Cv (facts mm h1) Iq HL (by decide) hr hg hR (cN hn) a3 hv
def sp1_ok:SpecOK Tryz.prog sp1:=by
 intro f op a1 call a0 vs us m h w v h' hr hg hR hv;unfold sp1 at a1;rcases vD a1 with⟨e,h1⟩|⟨_,a1⟩
 ·obtain rfl:=aL h1;exact Cu (vF e) hr hg hR hv
 ·exact LR f op a1 call a0 vs us m h w v h' hr hg hR hv
def Ip:fH Tryz.prog (yC Tryz.prog sp1 5000 300):=IM AD AY sp1_ok 300
def m0 (n:Nat):Mp:=fun b=>if b.toNat<n then some ⟨b.toNat,0,0⟩ else none
def hr0 {n:Nat} {w:Wo} (hn:n≤14) (hw:n≤w.heap.size):HR (m0 n) (H0 14) w:=by
 have hm:∀b l,m0 n b=some l→b.toNat<n∧l.blk=b.toNat:=by
  intro b l h;unfold m0 at h;split at h
  ·rename_i a1;cases h;exact⟨a1,rfl⟩
  ·cases h
 have a0:∀b ob,aB b (H0 14).mem=some ob→False:=fun b ob h=>by
  have:aB b Mem.new=some ob:=h;rw [AZ] at this;cases this
 refine⟨fun b ob h=>(a0 b ob h).elim,?_,fun b _ ob _ _ _ h=>(a0 b ob h).elim,fun b _ _ _ _ _ _ _ _ h=>(a0 b _ h).elim,?_,?_,fun b _ _ _ _ h=>(a0 b _ h).elim,?_⟩
 ·intro b l h;obtain⟨h1,_⟩:=hm b l h;show b.toNat<(nY 14).toNat;rw [CB (by decide)];omega
 ·intro f;show List.Pairwise _ (aU f Fam.new);rw [CO];exact List.Pairwise.nil
 ·intro b l h;obtain⟨h1,h2⟩:=hm b l h;omega
 ·intro f x hx;have:x∈aU f Fam.new:=hx;rw [CO] at this;cases this
def gl0:Gl Tryz.prog (m0 Tryz.prog.globals.size):=by
 intro g hg;refine⟨0,?_⟩;have a3:=HL;unfold m0;rw [CB (by omega),if_pos hg]
def XK {r:VH} (h:VH.isTrue r=true):∃h',r= .ok (.b true) h':=by
 cases r with
 |bad=>cases h
 | ok v h'=>
  cases v with
  |b x=>cases x with
   |true=>exact⟨h',rfl⟩
   |false=>cases h
  |_=>cases h
def e5:∀args w,(callFunc 10 args).run Tryz.prog w= .ok (.enter 10 args) w:=enters_of Tryz.func10 (by kernel_rfl) rfl
def Kk (w:Wo) (hw:Tryz.prog.globals.size≤w.heap.size):Calls Tryz.prog 10 #[] w fun e w'=>e= .returned (.bool true)∧RowKit.Below w.heap.size w w':=by
 obtain⟨h',hrun⟩:=XK run;have a2:∀B,¬Wb (m0 Tryz.prog.globals.size) (H0 14) B:=by
  rintro B ⟨b,ob,l,h,_⟩;have:aB b Mem.new=some ob:=h;rw [AZ] at this;cases this
 rcases Ip 10 [] [] (m0 Tryz.prog.globals.size) (H0 14) w (.b true) h' (hr0 HL hw) gl0 (by simp [Rl]) hrun with⟨u,w',m',h1,_⟩|⟨f,us,h1,h2⟩
 ·rw [e5] at h1;rcases h1 with h1|⟨h1,_⟩<;>cases h1
 ·rw [e5] at h1;cases h1;refine h2.mono ?_;rintro e w' ⟨u,m',rfl,hF,hR⟩;rw [R_b hR];exact⟨rfl,hF.os,hF.tape,hF.output,hF.size,fun k hk=>hF.keep k hk (a2 k)⟩
end Go.Proofs.YtbdpdeonapmlgaaGreatDoor
namespace Go.Proofs.YtbdpdeonapmlgaaGreatDoor
open Go.ChangeShapes Go.WideShapes Go.ChangeAt Go.RowKit
def own:ownKnob Tryz.prog.godebug=none:=by kernel_rfl
def MN:laidOutB Tryz.prog=true:=RC
def QG:Tryz.prog.globals.size=4:=by kernel_rfl
def block3:(((begin Tryz.prog (fun _ _=>0) default).world.heap[3]?).bind Obj.row?).isSome=true:=by kernel_rfl
def Fc {W:World} (h:W.ShapedOpen Tryz.prog):Tryz.prog.globals.size≤W.heap.size:=by
 obtain⟨⟨zero,t⟩,hx⟩:=Kw.1 block3;obtain⟨cs,h1,_⟩:=h.1 3 zero t (by rw [QG];omega) hx;have:=(aM.1 h1).1;rw [QG];omega
def contract (H:Type) (a2:TypeId × Value→H) (W:World) (base:Nat) (args:Array Value) (ds gs:List (DataW H)) (a0:List MemPlace)
  (a1:∀(j:Nat) t v,Tryz.f3.params[j]?=some t→args[j]?=some v→Value.okWide Tryz.prog W .any base t v)
  (hW:DataW.Whole a2 Tryz.prog Tryz.f3.params.toList Rows.workModesMatchSpecSpec.vars false W args.toList ds gs a0) (hk:Rows.uptoSmall H (ds++gs)=true) (hS:W.ShapedOpen Tryz.prog):
  Calls Tryz.prog 3 args W fun e W'=>∃v,e= .returned v∧Rows.workModesMatchSpecSpec.post a2 Tryz.prog Tryz.f3 false true false false W args v W':=by
 have a3:=hW;obtain⟨p,q,hA0,hV,rfl,hfz,hnd⟩:=hW;have hA:DataW.TrodAll a2 Tryz.prog W 0 (fun _=>true) true Tryz.f3.params.toList args.toList ds p:=hA0;rw [Tryz.params3] at hA a1;obtain⟨v0,v1,d0,d1,p0,p1,rfl,rfl,rfl,h0,h1⟩:=trodAll_two hA;obtain⟨rfl,rfl⟩:=trodVars_none hV;have a4:Rows.uptoBulkAll ([d0,d1]++ [])≤1048576:=pV hk;simp only [mC] at a4 a3;obtain⟨P,a,c,rfl,_,hP⟩:=Ia (a1 0 22 v0 rfl rfl) h0 (aE (mX (by simp)) a4);obtain⟨Ms,b,d,rfl,hcap,hMs⟩:=Cm (a1 1 23 v1 rfl rfl) h1 (aE (mX (by simp)) a4);have a5:∀x∈p0++p1,x.block<W.heap.size:=fun x hx=>by simpa using a3.lt x hx
 have hG:=Fc hS;refine(Dn P Ms W.heap.size a b c d W hP hMs hcap (aA _) fun w' hb=>Kk w' (aE hG hb.size)).mono ?_;rintro e W' ⟨rfl,hb⟩;have r0:=Below.trod MN (by kernel_rfl) (pV (by kernel_rfl)) h0 hb fun x hx=>a5 x (by simp [hx])
 have r1:=Below.trod MN (by kernel_rfl) (pV (by kernel_rfl)) h1 hb fun x hx=>a5 x (by simp [hx])
 exact⟨_,rfl,[d0,d1],[],_,[],_,[],a3,trodAll_cons_mk (shut_bool Tryz.underlying4 _) trodAll_mk0,trodAll_mk2 r0 r1,rfl,hb.frame _,fun h=>by cases h⟩
end Go.Proofs.YtbdpdeonapmlgaaGreatDoor
namespace Go.Proofs.YtbdpdeonapmlgaaGreatDoor
def Fa {P:Program} (h:P.funcs.any Func.goes=false) (f:FuncId):P.goes f=false:=by
 unfold Program.goes;rw [h,Bool.and_false,KG,Bool.eq_false_iff];intro hc;have hn:∀(i:Nat) (fn:Func),P.funcs[i]?=some fn→fn.goes=false:=by
  intro i fn hi;rw [Array.any_eq_false] at h;obtain⟨a0,rfl⟩:=aM.1 hi;simpa using h i a0
 simp only [rT,Option.any_eq_true] at hc;obtain⟨g,_,fn,h1,h2⟩:=hc;rw [hn g fn h1] at h2;cases h2
def noGo:Tryz.pinned.checked.prog.funcs.any Func.goes=false:=by kernel_rfl
def HQ:Tryz.pinned.checked.prog.funcNamed Rows.workModesMatchSpecUptoRow.func=some 3:=by kernel_rfl
def Fy:Rows.workModesMatchSpecUptoRow.start= .entering:=rfl
def Fb {P:Program} {fn:String} {f:FuncId} (h:P.funcNamed fn=some f) (hn:P.funcs.any Func.goes=false):P.goesAt .entering fn=false:=by
 unfold Program.goesAt Program.goesFrom;rw [h,Option.any_some,Fa hn,nM]
def Ge:false=Rows.workModesMatchSpecUptoRow.goesBy Tryz.pinned.checked.prog:=by
 unfold OpenClaim.goesBy;rw [Fy];exact(Fb HQ noGo).symm
def Gd:Tryz.pinned.checked.prog.stopsHeard=true:=by kernel_rfl
def Gf:Tryz.pinned.checked.prog.mayEnter=true:=by kernel_rfl
def closed:joinedFacts Tryz.pinned.checked.prog 3 Tryz.f3 (Rows.OpenSpec.upto Rows.workModesMatchSpecSpec).bare Rows.workModesMatchSpecUptoRow=true:=by
 unfold joinedFacts;rw [Gc,Fx,Fz,Ga,RC,Gb,Gd,Gf]
 kernel_rfl
end Go.Proofs.YtbdpdeonapmlgaaGreatDoor
namespace Go.Proofs.YtbdpdeonapmlgaaGreatDoor
open Go.ChangeShapes Go.WideShapes Go.ChangeAt Go.RowKit
noncomputable def xK (os:Os):World:=World.laidAll Tryz.prog os Rows.workModesMatchSpecUptoRow.laid
def rV:Array Value:=#[.slice none 0 0,.slice none 0 0]
def Dp (os:Os):laidMet Tryz.prog Rows.workModesMatchSpecUptoRow.laid ((xK os).forCall (fun _ _=>0) ⟨#[],rV,[]⟩).memory:=
 laidMet_laidAll _ (by kernel_rfl) (by kernel_rfl)
def Do (os:Os):((xK os).forCall (fun _ _=>0) ⟨#[],rV,[]⟩).Shaped Tryz.prog:=
 World.shaped_of_ZipB (by kernel_rfl) (by kernel_rfl)
def UE (os:Os):Input.okWideB Tryz.checked.prog ((xK os).forCall (fun _ _=>0) ⟨#[],rV,[]⟩) 3 ⟨#[],rV,[]⟩=true:=by kernel_rfl
def reads (os:Os) {H:Type} (a2:TypeId × Value→H):∃a1,DataW.whole a2 Tryz.prog ((xK os).forCall (fun _ _=>0) ⟨#[],rV,[]⟩).memory Tryz.f3.params.toList Rows.workModesMatchSpecSpec.vars false rV.toList 8=some ([.nil,.nil],[],a1):=
 ⟨[],by kernel_rfl⟩
def Dr {W:World} (h:laidMet Tryz.prog Rows.workModesMatchSpecUptoRow.laid W):laidMetH Tryz.prog Rows.workModesMatchSpecUptoRow.laid W:=by
 rw [MakeChecks.laidMetH_plain _ _ _ (by kernel_rfl)];exact h
def Dj (os:Os) (a0:os.Started) (H:Type) (a2:TypeId × Value→H) (F:Stop.Interp):
  ReturnsInHanded {} Tryz.checked os 3 .any ((Rows.OpenSpec.upto Rows.workModesMatchSpecSpec).preRow a2 Tryz.prog Tryz.f3 Rows.workModesMatchSpecUptoRow.domain false Rows.workModesMatchSpecUptoRow.laid) (((Rows.OpenSpec.upto Rows.workModesMatchSpecSpec).at F).post a2 Tryz.prog Tryz.f3 false true false false):=by
 obtain⟨a1,hx⟩:=reads os a2;refine returnsInHanded_of_row (C:=Tryz.checked) (s:=Rows.OpenSpec.upto Rows.workModesMatchSpecSpec) own a0 (by kernel_rfl) Tryz.func3
  ⟨xK os,fun _ _=>0,⟨#[],rV,[]⟩,World.laidAll_os _ _ _,Do os,(Me (base:=0) (UE os)).1,(Me (UE os)).2,
   OpenSpec.preRow_of_cond 8 hx (by kernel_rfl) (fun k hk=>by cases hk;kernel_rfl) (by kernel_rfl) (Dr (Dp os)),by
   simp only [Assume.holds];exact⟨by simp,by simp,fun _=>Modest.zero,by simp,by simp⟩⟩ ?_
 intro W base args ds gs a3 a5 hW _ a4 _ hL hS _;exact contract H a2 W base args ds gs a3 a5 hW (a4 _ rfl) hS
def saidUpto:Rows.WorkModesMatchSpecUptoSaid:=
 OpenClaim.holds_of_cond 3 Tryz.f3 rfl rfl rfl rfl rfl rfl rfl ⟨rfl,rfl,rfl,rfl,rfl⟩ rfl rfl rfl rfl rfl HQ Tryz.func3 closed
  (pV (by kernel_rfl)) (by unfold Func.isWrapper;first|(rw [if_pos (by decide+kernel)];kernel_rfl)|(rw [if_neg (by decide+kernel)];exact⟨rfl,rfl⟩))
  (fun os a0 H a2 _ F=>by rw [OpenClaim.pre_eq_preRow];exact Dj os a0 H a2 F)
def plain (f:FuncId) (fn:Func) (hf:Tryz.pinned.checked.prog.funcNamed Rows.workModesMatchSpecUptoRow.func=some f) (a6:Tryz.pinned.checked.prog.funcs[f]?=some fn):
  true=Tryz.pinned.checked.prog.looks []∧∀(j:Nat) t,fn.params[j]?=some t→Tryz.pinned.checked.prog.wantsStandIn t=false:=by
 obtain rfl:f=3:=aL (HQ.symm.trans hf)|>.symm;obtain rfl:fn=Tryz.f3:=(aL (Tryz.func3.symm.trans a6)).symm;refine⟨by kernel_rfl,fun j t ht=>?_⟩;rw [Tryz.params3] at ht;have hm:t=22∨t=23:=by simpa using Array.mem_of_getElem? ht
 rcases hm with rfl|rfl
 ·exact(show Tryz.prog.wantsStandIn 22=false by kernel_rfl)
 ·exact(show Tryz.prog.wantsStandIn 23=false by kernel_rfl)
theorem cardUpto:Rows.WorkModesMatchSpecUptoCardSaid:=
 Claim7.holds_tied_plain_at .later [] _ _ _ _ saidUpto (fun _ h=>by cases h) (by kernel_rfl) (fun _ h=>by cases h) workModesMatchSpecUpto_row_tie rfl ⟨rfl,rfl⟩ (by kernel_rfl) rfl plain Ge
