/-
  The card of WorkScheduledIsRight, second form, is proved: for every argument of the tied card within the bound that the row names, the law returns true and the arguments read as before. Conditions: those of the given row and card (the listed variables as the text lays them).
-/
import Derived.Test.YtbdpdeonapmlgaaGreatDoorAz
import Derived.Test.YtbdpdeonapmlgaaGreatDoorBa
import Derived.Test.YtbdpdeonapmlgaaGreatDoorBb
import Derived.Test.YtbdpdeonapmlgaaGreatDoorBc
import Derived.Test.YtbdpdeonapmlgaaGreatDoorBd
import Derived.Test.YtbdpdeonapmlgaaGreatDoorBe
import Derived.Test.YtbdpdeonapmlgaaGreatDoorBf
import Derived.Test.YtbdpdeonapmlgaaGreatDoorBg
import Derived.Test.YtbdpdeonapmlgaaGreatDoorBh
import Derived.Test.YtbdpdeonapmlgaaGreatDoorBi
import Derived.Test.YtbdpdeonapmlgaaGreatDoorBj
import Derived.Test.YtbdpdeonapmlgaaGreatDoorCards
import Derived.Test.YtbdpdeonapmlgaaGreatDoorTie
import Derived.Deep.DeepHandedRow
import Derived.SevenTiedAt
import Derived.Lay
set_option linter.all false
set_option maxRecDepth 100000
namespace Go.Proofs.YtbdpdeonapmlgaaGreatDoor
open Go.Ev
variable {f:FuncId}
def zU:oM Tryz.prog=true:=by kernel_rfl
def AI:Tryz.prog.follows .mixedOrders=true:=by kernel_rfl
def GB:Tryz.prog.globals.size≤14:=cQ (by kernel_rfl)
def uY {α:Type} {b:Bool} {x y:Option α} {z:α} (h:(bif b then x else y)=some z):(b=true∧x=some z)∨(b=false∧y=some z):=by
 cases b with
 |true=>exact .inl ⟨rfl,h⟩
 |false=>exact .inr ⟨rfl,h⟩
def Br:Tryz.f320.name≠ "runtime.NumGoroutine" :=by
 have h:(Tryz.f320.name== "runtime.NumGoroutine")=false:=by kernel_rfl
 simpa using h
def Bq:Tryz.f361.name≠ "runtime.NumGoroutine" :=by
 have h:(Tryz.f361.name== "runtime.NumGoroutine")=false:=by kernel_rfl
 simpa using h
def Hg (h:f=320) {vs:List V} {us:Lv} {m:Mp} {h0 h':H} {w:Wo} {v:V} {call:bR} (hr:HR m h0 w) (hR:Rl m vs us) (hv:cmpF.run call vs h0= .ok v h'):cO Tryz.prog ((callFunc f ⟨us⟩).run Tryz.prog w) m h0 w v h':=by
 subst h;exact Hf (fn:=Tryz.f320) Tryz.func320 rfl Br (by kernel_rfl) (by kernel_rfl) hr hR hv
def YV (h:f=361) {vs:List V} {us:Lv} {m:Mp} {h0 h':H} {w:Wo} {v:V} {call:bR} (hr:HR m h0 w) (hR:Rl m vs us) (hv:zH.run call vs h0= .ok v h'):cO Tryz.prog ((callFunc f ⟨us⟩).run Tryz.prog w) m h0 w v h':=by
 subst h;exact YU (fn:=Tryz.f361) Tryz.func361 rfl Bq (by kernel_rfl) (by kernel_rfl) hr hR hv
def YN (h:f=347) {vs:List V} {us:Lv} {m:Mp} {h0 h':H} {w:Wo} {v:V} {call:bR} (hr:HR m h0 w) (hR:Rl m vs us) (hv:(seqG 327 3).run call vs h0= .ok v h'):cO Tryz.prog ((callFunc f ⟨us⟩).run Tryz.prog w) m h0 w v h':=by
 subst h;exact YM Tryz.seqDoes hr hR hv
def OH {P:Program} {lf fuel:Nat} {g f:Nat} (h:f=g) {call:bR} (hp:oM P=true) (a0:eY P call) (a2:P.follows .mixedOrders=true) {m:Mp} {w:Wo}
  {vs:List V} {us:Lv} {h0 h':H} {v:V} (hr:HR m h0 w) (hg:Gl P m) (hR:Rl m vs us) (hv:(ndF P lf fuel g).run call vs h0= .ok v h'):
  cO P ((callFunc f ⟨us⟩).run P w) m h0 w v h':=by
 subst h;exact Bm hp a0 a2 hr hg hR hv
def vB {a b:Nat} (h:Nat.beq a b=true):a=b:=aT h
def KT:SpecOK Tryz.prog sp0:=by
 intro f op a1 call a0 vs us m h w v h' hr hg hR hv;unfold sp0 at a1;rcases uY a1 with⟨e,h1⟩|⟨_,a1⟩
 ·obtain rfl:=aK h1;exact Hg (vB e) hr hR hv
 rcases uY a1 with⟨e,h1⟩|⟨_,a1⟩
 ·obtain rfl:=aK h1;exact YV (vB e) hr hR hv
 rcases uY a1 with⟨e,h1⟩|⟨_,a1⟩
 ·obtain rfl:=aK h1;exact YN (vB e) hr hR hv
 rcases uY a1 with⟨e,h1⟩|⟨_,a1⟩
 ·exact OH (lf:=100) (fuel:=10000) (g:=50) (vB e) zU a0 AI hr hg hR (by rw [aK h1];exact hv)
 rcases uY a1 with⟨e,h1⟩|⟨_,a1⟩
 ·exact OH (lf:=100) (fuel:=10000) (g:=297) (vB e) zU a0 AI hr hg hR (by rw [aK h1];exact hv)
 ·cases a1
def Hz:eY Tryz.prog mL:=HG zU AI KT 300
def facts:∀mm∈mUs,lK mL 14 10000 252 mm=true:=by
 intro mm hm;simp only [mUs,cM,List.not_mem_nil,or_false] at hm;rcases hm with rfl|rfl|rfl|rfl|rfl|rfl|rfl|rfl|rfl
 ·exact fU0
 ·exact fU1
 ·exact fU2
 ·exact fU3
 ·exact fU4
 ·exact fU5
 ·exact fU6
 ·exact fU7
 ·exact fU8
def HU {call:bR} {vs:List V} {h h':H} {v:V} (hv:nV.run call vs h= .ok v h'):False:=by
 simp only [nV] at hv;cases hv
def Cb (e:f=252) {vs:List V} {us:Lv} {m:Mp} {h h':H} {w:Wo} {v:V} {call:bR} (hr:HR m h w) (hg:Gl Tryz.prog m) (hR:Rl m vs us) (hv:(EY 10000 14 mUs nV).run call vs h= .ok v h'):cO Tryz.prog ((callFunc f ⟨us⟩).run Tryz.prog w) m h w v h':=by
 subst e;simp only [EY] at hv;cases hn:Nat.ble 14 h.next.toNat with
 |false=>rw [hn] at hv;exact absurd hv HU
 | true=>
  rw [hn] at hv;simp only [cS,OL] at hv;split at hv
  ·exact absurd hv HU
  ·rename_i a o olds a3;split at hv
   ·exact absurd hv HU
   ·rename_i mm hf;obtain⟨h1,rfl,rfl⟩:=QZ hf;exact Cc (facts mm h1) Hz GB (by decide) hr hg hR (cQ hn) a3 hv
def sp1_ok:SpecOK Tryz.prog sp1:=by
 intro f op a1 call a0 vs us m h w v h' hr hg hR hv;unfold sp1 at a1;rcases uY a1 with⟨e,h1⟩|⟨_,a1⟩
 ·obtain rfl:=aK h1;exact Cb (vB e) hr hg hR hv
 ·exact KT f op a1 call a0 vs us m h w v h' hr hg hR hv
def Hy:eY Tryz.prog (xU Tryz.prog sp1 5000 300):=HG zU AI sp1_ok 300
def m0 (n:Nat):Mp:=fun b=>if b.toNat<n then some ⟨b.toNat,0,0⟩ else none
def hr0 {n:Nat} {w:Wo} (hn:n≤14) (hw:n≤w.heap.size):HR (m0 n) (H0 14) w:=by
 have hm:∀b l,m0 n b=some l→b.toNat<n∧l.blk=b.toNat:=by
  intro b l h;unfold m0 at h;split at h
  ·rename_i a1;cases h;exact⟨a1,rfl⟩
  ·cases h
 have a0:∀b ob,aB b (H0 14).mem=some ob→False:=fun b ob h=>by
  have:aB b Mem.new=some ob:=h;rw [AJ] at this;cases this
 refine⟨fun b ob h=>(a0 b ob h).elim,?_,fun b _ ob _ _ _ h=>(a0 b ob h).elim,fun b _ _ _ _ _ _ _ _ h=>(a0 b _ h).elim,?_,?_,fun b _ _ _ _ h=>(a0 b _ h).elim,?_⟩
 ·intro b l h;obtain⟨h1,_⟩:=hm b l h;show b.toNat<(nM 14).toNat;rw [BK (by decide)];omega
 ·intro f;show List.Pairwise _ (aP f Fam.new);rw [BX];exact List.Pairwise.nil
 ·intro b l h;obtain⟨h1,h2⟩:=hm b l h;omega
 ·intro f x hx;have:x∈aP f Fam.new:=hx;rw [BX] at this;cases this
def gl0:Gl Tryz.prog (m0 Tryz.prog.globals.size):=by
 intro g hg;refine⟨0,?_⟩;have a3:=GB;unfold m0;rw [BK (by omega),if_pos hg]
def XF {r:VH} (h:VH.isTrue r=true):∃h',r= .ok (.b true) h':=by
 cases r with
 |bad=>cases h
 | ok v h'=>
  cases v with
  |b x=>cases x with
   |true=>exact⟨h',rfl⟩
   |false=>cases h
  |_=>cases h
def e5:∀args w,(callFunc 10 args).run Tryz.prog w= .ok (.enter 10 args) w:=enters_of Tryz.func10 (by kernel_rfl) rfl
def Jo (w:Wo) (hw:Tryz.prog.globals.size≤w.heap.size):Calls Tryz.prog 10 #[] w fun e w'=>e= .returned (.bool true)∧RowKit.Below w.heap.size w w':=by
 obtain⟨h',hrun⟩:=XF run;have a2:∀B,¬Wb (m0 Tryz.prog.globals.size) (H0 14) B:=by
  rintro B ⟨b,ob,l,h,_⟩;have:aB b Mem.new=some ob:=h;rw [AJ] at this;cases this
 rcases Hy 10 [] [] (m0 Tryz.prog.globals.size) (H0 14) w (.b true) h' (hr0 GB hw) gl0 (by simp [Rl]) hrun with⟨u,w',m',h1,_⟩|⟨f,us,h1,h2⟩
 ·rw [e5] at h1;rcases h1 with h1|⟨h1,_⟩<;>cases h1
 ·rw [e5] at h1;cases h1;refine h2.mono ?_;rintro e w' ⟨u,m',rfl,hF,hR⟩;rw [R_b hR];exact⟨rfl,hF.os,hF.tape,hF.output,hF.size,fun k hk=>hF.keep k hk (a2 k)⟩
end Go.Proofs.YtbdpdeonapmlgaaGreatDoor
namespace Go.Proofs.YtbdpdeonapmlgaaGreatDoor
open Go.ChangeShapes Go.WideShapes Go.ChangeAt Go.RowKit
def own:ownKnob Tryz.prog.godebug=none:=by kernel_rfl
def zL:laidOutB Tryz.prog=true:=RE
def QK:Tryz.prog.globals.size=4:=by kernel_rfl
def block3:(((begin Tryz.prog (fun _ _=>0) default).world.heap[3]?).bind Obj.row?).isSome=true:=by kernel_rfl
def Ej {W:World} (h:W.ShapedOpen Tryz.prog):Tryz.prog.globals.size≤W.heap.size:=by
 obtain⟨⟨zero,t⟩,hx⟩:=Kb.1 block3;obtain⟨cs,h1,_⟩:=h.1 3 zero t (by rw [QK];omega) hx;have:=(aG.1 h1).1;rw [QK];omega
def XG {H:Type} {a2:TypeId × Value→H} {P:Program} {w:World} {base:Nat} {sp:Nat→Bool} {a0:Bool} {t0 t1 t2 t3:TypeId} {args:Array Value} {ds:List (DataW H)} {ps:List MemPlace} (h:DataW.TrodAll a2 P w base sp a0 [t0,t1,t2,t3] args.toList ds ps):
  ∃v0 v1 v2 v3 d0 d1 d2 d3 p0 p1 p2 p3,args=#[v0,v1,v2,v3]∧ds= [d0,d1,d2,d3]∧ps=p0++(p1++(p2++p3))∧DataW.Trod a2 P w base sp a0 t0 v0 d0 p0∧DataW.Trod a2 P w base sp a0 t1 v1 d1 p1∧DataW.Trod a2 P w base sp a0 t2 v2 d2 p2∧DataW.Trod a2 P w base sp a0 t3 v3 d3 p3:=by
 obtain⟨v0,vs0,d0,ds0,p0,q0,e0,rfl,rfl,h0,h⟩:=trodAll_cons h;obtain⟨v1,vs1,d1,ds1,p1,q1,rfl,rfl,rfl,h1,h⟩:=trodAll_cons h;obtain⟨v2,vs2,d2,ds2,p2,q2,rfl,rfl,rfl,h2,h⟩:=trodAll_cons h;obtain⟨v3,vs3,d3,ds3,p3,q3,rfl,rfl,rfl,h3,h⟩:=trodAll_cons h;obtain⟨rfl,rfl,rfl⟩:=trodAll_nil h;exact⟨v0,v1,v2,v3,d0,d1,d2,d3,p0,p1,p2,p3,by cases args;simp_all,rfl,by simp,h0,h1,h2,h3⟩
def contract (H:Type) (a2:TypeId × Value→H) (W:World) (base:Nat) (args:Array Value) (ds gs:List (DataW H)) (a3:List MemPlace)
  (a1:∀(j:Nat) t v,Tryz.f7.params[j]?=some t→args[j]?=some v→Value.okWide Tryz.prog W .any base t v)
  (hW:DataW.Whole a2 Tryz.prog Tryz.f7.params.toList Rows.workScheduledIsRightSpec.vars false W args.toList ds gs a3) (hk:Rows.uptoSmall H (ds++gs)=true) (hS:W.ShapedOpen Tryz.prog):
  Calls Tryz.prog 7 args W fun e W'=>∃v,e= .returned v∧Rows.workScheduledIsRightSpec.post a2 Tryz.prog Tryz.f7 false true false false W args v W':=by
 have a5:=hW;obtain⟨p,q,hA0,hV,rfl,hfz,hnd⟩:=hW;have hA:DataW.TrodAll a2 Tryz.prog W 0 (fun _=>true) true Tryz.f7.params.toList args.toList ds p:=hA0;rw [Tryz.params7] at hA a1;obtain⟨v0,v1,v2,v3,d0,d1,d2,d3,p0,p1,p2,p3,rfl,rfl,rfl,h0,h1,h2,h3⟩:=XG hA;obtain⟨rfl,rfl⟩:=trodVars_none hV;have a6:Rows.uptoBulkAll ([d0,d1,d2,d3]++ [])≤1048576:=rA hk;simp only [pS] at a6 a5;obtain⟨P,a,c,rfl,hcp,hP⟩:=Hm (a1 0 22 v0 rfl rfl) h0 (aD (mM (by simp)) a6);obtain⟨Ms,b,d,rfl,hcap,hMs⟩:=Bt (a1 1 23 v1 rfl rfl) h1 (aD (mM (by simp)) a6);obtain⟨ci,rfl⟩:=okWide_int Tryz.underlying3 (a1 2 3 v2 rfl rfl);obtain⟨mi,rfl⟩:=okWide_int Tryz.underlying3 (a1 3 3 v3 rfl rfl);have a4:∀x∈p0++(p1++(p2++p3)),x.block<W.heap.size:=fun x hx=>by simpa using a5.lt x hx
 have hG:=Ej hS;refine(Cv P Ms ci mi W.heap.size a b c d W hP hMs hcp hcap (aA _) fun w' hb=>Jo w' (aD hG hb.size)).mono ?_;rintro e W' ⟨rfl,hb⟩;have r0:=Below.trod zL (by kernel_rfl) (rA (by kernel_rfl)) h0 hb fun x hx=>a4 x (by simp [hx])
 have r1:=Below.trod zL (by kernel_rfl) (rA (by kernel_rfl)) h1 hb fun x hx=>a4 x (by simp [hx])
 have r2:=Below.trod zL (by kernel_rfl) (rA (by kernel_rfl)) h2 hb fun x hx=>a4 x (by simp [hx])
 have r3:=Below.trod zL (by kernel_rfl) (rA (by kernel_rfl)) h3 hb fun x hx=>a4 x (by simp [hx])
 exact⟨_,rfl,[d0,d1,d2,d3],[],_,[],_,[],a5,CV (shut_bool Tryz.underlying4 _) trodAll_mk0,CV r0 (CV r1 (CV r2 (CV r3 trodAll_mk0))),rfl,hb.frame _,fun h=>by cases h⟩
end Go.Proofs.YtbdpdeonapmlgaaGreatDoor
namespace Go.Proofs.YtbdpdeonapmlgaaGreatDoor
def Eh {P:Program} (h:P.funcs.any Func.goes=false) (f:FuncId):P.goes f=false:=by
 unfold Program.goes;rw [h,Bool.and_false,Bool.or_false,Bool.eq_false_iff];intro hc;have hn:∀(i:Nat) (fn:Func),P.funcs[i]?=some fn→fn.goes=false:=by
  intro i fn hi;rw [Array.any_eq_false] at h;obtain⟨a0,rfl⟩:=aG.1 hi;simpa using h i a0
 simp only [List.any_eq_true,Option.any_eq_true] at hc;obtain⟨g,_,fn,h1,h2⟩:=hc;rw [hn g fn h1] at h2;cases h2
def noGo:Tryz.pinned.checked.prog.funcs.any Func.goes=false:=by kernel_rfl
def GH:Tryz.pinned.checked.prog.funcNamed Rows.workScheduledIsRightUptoRow.func=some 7:=by kernel_rfl
def Fc:Rows.workScheduledIsRightUptoRow.start= .entering:=rfl
def Ei {P:Program} {fn:String} {f:FuncId} (h:P.funcNamed fn=some f) (hn:P.funcs.any Func.goes=false):P.goesAt .entering fn=false:=by
 unfold Program.goesAt Program.goesFrom;rw [h,Option.any_some,Eh hn,oI]
def Fi:false=Rows.workScheduledIsRightUptoRow.goesBy Tryz.pinned.checked.prog:=by
 unfold OpenClaim.goesBy;rw [Fc];exact(Ei GH noGo).symm
def Fh:Tryz.pinned.checked.prog.stopsHeard=true:=by kernel_rfl
def Fj:Tryz.pinned.checked.prog.mayEnter=true:=by kernel_rfl
def closed:joinedFacts Tryz.pinned.checked.prog 7 Tryz.f7 (Rows.OpenSpec.upto Rows.workScheduledIsRightSpec).bare Rows.workScheduledIsRightUptoRow=true:=by
 unfold joinedFacts;rw [Fg,Fb,Fd,Fe,RE,Ff,Fh,Fj]
 kernel_rfl
end Go.Proofs.YtbdpdeonapmlgaaGreatDoor
namespace Go.Proofs.YtbdpdeonapmlgaaGreatDoor
open Go.ChangeShapes Go.WideShapes Go.ChangeAt Go.RowKit
noncomputable def xH (os:Os):World:=World.laidAll Tryz.prog os Rows.workScheduledIsRightUptoRow.laid
def rM:Array Value:=#[.slice none 0 0,.slice none 0 0,.int .i64 0,.int .i64 0]
def Cy (os:Os):laidMet Tryz.prog Rows.workScheduledIsRightUptoRow.laid ((xH os).forCall (fun _ _=>0) ⟨#[],rM,[]⟩).memory:=
 laidMet_laidAll _ (by kernel_rfl) (by kernel_rfl)
def Cw (os:Os):((xH os).forCall (fun _ _=>0) ⟨#[],rM,[]⟩).Shaped Tryz.prog:=
 World.shaped_of_ZipB (by kernel_rfl) (by kernel_rfl)
def UL (os:Os):Input.okWideB Tryz.checked.prog ((xH os).forCall (fun _ _=>0) ⟨#[],rM,[]⟩) 7 ⟨#[],rM,[]⟩=true:=by kernel_rfl
def reads (os:Os) {H:Type} (a2:TypeId × Value→H):∃a1,DataW.whole a2 Tryz.prog ((xH os).forCall (fun _ _=>0) ⟨#[],rM,[]⟩).memory Tryz.f7.params.toList Rows.workScheduledIsRightSpec.vars false rM.toList 8=some ([.nil,.nil,.lit (.int .i64 0),.lit (.int .i64 0)],[],a1):=
 ⟨[],by kernel_rfl⟩
def Da {W:World} (h:laidMet Tryz.prog Rows.workScheduledIsRightUptoRow.laid W):laidMetH Tryz.prog Rows.workScheduledIsRightUptoRow.laid W:=by
 rw [MakeChecks.laidMetH_plain _ _ _ (by kernel_rfl)];exact h
def Cs (os:Os) (a0:os.Started) (H:Type) (a2:TypeId × Value→H) (F:Stop.Interp):
  ReturnsInHanded {} Tryz.checked os 7 .any ((Rows.OpenSpec.upto Rows.workScheduledIsRightSpec).preRow a2 Tryz.prog Tryz.f7 Rows.workScheduledIsRightUptoRow.domain false Rows.workScheduledIsRightUptoRow.laid) (((Rows.OpenSpec.upto Rows.workScheduledIsRightSpec).at F).post a2 Tryz.prog Tryz.f7 false true false false):=by
 obtain⟨a1,hx⟩:=reads os a2;refine returnsInHanded_of_row (C:=Tryz.checked) (s:=Rows.OpenSpec.upto Rows.workScheduledIsRightSpec) own a0 (by kernel_rfl) Tryz.func7
  ⟨xH os,fun _ _=>0,⟨#[],rM,[]⟩,World.laidAll_os _ _ _,Cw os,(Le (base:=0) (UL os)).1,(Le (UL os)).2,
   OpenSpec.preRow_of_cond 8 hx (by kernel_rfl) (fun k hk=>by cases hk;kernel_rfl) (by kernel_rfl) (Da (Cy os)),by
   simp only [Assume.holds];exact⟨by simp,by simp,fun _=>Modest.zero,by simp,by simp⟩⟩ ?_
 intro W base args ds gs a3 a5 hW _ a4 _ hL hS _;exact contract H a2 W base args ds gs a3 a5 hW (a4 _ rfl) hS
def saidUpto:Rows.WorkScheduledIsRightUptoSaid:=
 OpenClaim.holds_of_cond 7 Tryz.f7 rfl rfl rfl rfl rfl rfl rfl ⟨rfl,rfl,rfl,rfl,rfl⟩ rfl rfl rfl rfl rfl GH Tryz.func7 closed
  (rA (by kernel_rfl)) (by unfold Func.isWrapper;first|(rw [if_pos (by decide+kernel)];kernel_rfl)|(rw [if_neg (by decide+kernel)];exact⟨rfl,rfl⟩))
  (fun os a0 H a2 _ F=>by rw [OpenClaim.pre_eq_preRow];exact Cs os a0 H a2 F)
def plain (f:FuncId) (fn:Func) (hf:Tryz.pinned.checked.prog.funcNamed Rows.workScheduledIsRightUptoRow.func=some f) (a6:Tryz.pinned.checked.prog.funcs[f]?=some fn):
  true=Tryz.pinned.checked.prog.looks []∧∀(j:Nat) t,fn.params[j]?=some t→Tryz.pinned.checked.prog.wantsStandIn t=false:=by
 obtain rfl:f=7:=aK (GH.symm.trans hf)|>.symm;obtain rfl:fn=Tryz.f7:=(aK (Tryz.func7.symm.trans a6)).symm;refine⟨by kernel_rfl,fun j t ht=>?_⟩;rw [Tryz.params7] at ht;have hm:t=22∨t=23∨t=3:=by simpa using Array.mem_of_getElem? ht
 rcases hm with rfl|rfl|rfl
 ·exact(show Tryz.prog.wantsStandIn 22=false by kernel_rfl)
 ·exact(show Tryz.prog.wantsStandIn 23=false by kernel_rfl)
 ·exact(show Tryz.prog.wantsStandIn 3=false by kernel_rfl)
theorem cardUpto:Rows.WorkScheduledIsRightUptoCardSaid:=
 Claim7.holds_tied_plain_at .later [] _ _ _ _ saidUpto (fun _ h=>by cases h) (by kernel_rfl) (fun _ h=>by cases h) workScheduledIsRightUpto_row_tie rfl ⟨rfl,rfl⟩ (by kernel_rfl) rfl plain Fi
