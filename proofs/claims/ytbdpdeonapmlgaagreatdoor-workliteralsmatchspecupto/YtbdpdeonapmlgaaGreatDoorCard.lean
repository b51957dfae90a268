/-
  The card of WorkLiteralsMatchSpec, second form, is proved: for every argument of the tied card within the bound that the row names, the law returns true and the arguments read as before. Conditions: those of the given row and card (the listed variables as the text lays them).
-/
import Derived.Test.YtbdpdeonapmlgaaGreatDoorBs
import Derived.Test.YtbdpdeonapmlgaaGreatDoorBt
import Derived.Test.YtbdpdeonapmlgaaGreatDoorBu
import Derived.Test.YtbdpdeonapmlgaaGreatDoorBv
import Derived.Test.YtbdpdeonapmlgaaGreatDoorBw
import Derived.Test.YtbdpdeonapmlgaaGreatDoorBx
import Derived.Test.YtbdpdeonapmlgaaGreatDoorCards
import Derived.Test.YtbdpdeonapmlgaaGreatDoorTie
import Derived.Deep.DeepHandedRow
import Derived.SevenTiedAt
import Derived.Lay
set_option linter.all false
set_option maxRecDepth 100000
namespace Go.Proofs.YtbdpdeonapmlgaaGreatDoor
open Go.Ev
def m0 (n:Nat):Mp:=fun b=>if b.toNat<n then some ⟨b.toNat,0,0⟩ else none
theorem hr0 {n:Nat} {w:World} (hn:n≤14) (hw:n≤w.heap.size):HR (m0 n) (H0 14) w:=by
 have hm:∀b l,m0 n b=some l→b.toNat<n∧l.blk=b.toNat:=by
  intro b l h;unfold m0 at h;split at h
  ·rename_i a1;cases h;exact⟨a1,rfl⟩
  ·cases h
 have a0:∀b ob,aB b (H0 14).mem=some ob→False:=fun b ob h=>by
  have:aB b Mem.new=some ob:=h;rw [yN] at this;cases this
 refine⟨fun b ob h=>(a0 b ob h).elim,?_,fun b _ ob _ _ _ h=>(a0 b ob h).elim,fun b _ _ _ _ _ _ _ _ h=>(a0 b _ h).elim,?_,?_,fun b _ _ _ _ h=>(a0 b _ h).elim,?_⟩
 ·intro b l h;obtain⟨h1,_⟩:=hm b l h;show b.toNat<(mH 14).toNat;rw [zL (by decide)];omega
 ·intro f;show List.Pairwise _ (aQ f Fam.new);rw [zW];exact List.Pairwise.nil
 ·intro b l h;obtain⟨h1,h2⟩:=hm b l h;omega
 ·intro f x hx;have:x∈aQ f Fam.new:=hx;rw [zW] at this;cases this
theorem gl0:Gl Tryz.prog (m0 Tryz.prog.globals.size):=by
 intro g hg;refine⟨0,?_⟩;have a3:=EG;unfold m0;rw [zL (by omega),if_pos hg]
theorem TV {r:VH} (h:VH.isTrue r=true):∃h',r= .ok (.b true) h':=by
 cases r with
 |bad=>cases h
 | ok v h'=>
  cases v with
  |b x=>cases x with
   |true=>exact⟨h',rfl⟩
   |false=>cases h
  |_=>cases h
theorem e5:∀args w,(callFunc 10 args).run Tryz.prog w= .ok (.enter 10 args) w:=enters_of Tryz.func10 (by kernel_rfl) rfl
theorem Fm (w:World) (hw:Tryz.prog.globals.size≤w.heap.size):Calls Tryz.prog 10 #[] w fun e w'=>e= .returned (.bool true)∧RowKit.Below w.heap.size w w':=by
 obtain⟨h',hrun⟩:=TV run;have a2:∀B,¬Wb (m0 Tryz.prog.globals.size) (H0 14) B:=by
  rintro B ⟨b,ob,l,h,_⟩;have:aB b Mem.new=some ob:=h;rw [yN] at this;cases this
 rcases Dx 10 [] [] (m0 Tryz.prog.globals.size) (H0 14) w (.b true) h' (hr0 EG hw) gl0 (by simp [Rl]) hrun with⟨u,w',m',h1,_⟩|⟨f,us,h1,h2⟩
 ·rw [e5] at h1;rcases h1 with h1|⟨h1,_⟩<;>cases h1
 ·rw [e5] at h1;cases h1;refine h2.mono ?_;rintro e w' ⟨u,m',rfl,hF,hR⟩;rw [R_b hR];exact⟨rfl,hF.os,hF.tape,hF.output,hF.size,fun k hk=>hF.keep k hk (a2 k)⟩
end Go.Proofs.YtbdpdeonapmlgaaGreatDoor
namespace Go.Proofs.YtbdpdeonapmlgaaGreatDoor
open Go.ChangeShapes Go.WideShapes Go.ChangeAt Go.RowKit
theorem own:ownKnob Tryz.prog.godebug=none:=by kernel_rfl
theorem VT:laidOutB Tryz.prog=true:=NU
theorem MY:Tryz.prog.globals.size=4:=by kernel_rfl
theorem block3:(((begin Tryz.prog (fun _ _=>0) default).world.heap[3]?).bind Obj.row?).isSome=true:=by kernel_rfl
theorem Ap {W:World} (h:W.ShapedOpen Tryz.prog):Tryz.prog.globals.size≤W.heap.size:=by
 obtain⟨⟨zero,t⟩,hx⟩:=Option.isSome_iff_exists.1 block3;obtain⟨cs,h1,_⟩:=h.1 3 zero t (by rw [MY];omega) hx;have:=(Array.getElem?_eq_some_iff.1 h1).1;rw [MY];omega
theorem contract (H:Type) (a2:TypeId × Value→H) (W:World) (base:Nat) (args:Array Value) (ds gs:List (DataW H)) (a0:List MemPlace)
  (a1:∀(j:Nat) t v,Tryz.f5.params[j]?=some t→args[j]?=some v→Value.okWide Tryz.prog W .any base t v)
  (hW:DataW.Whole a2 Tryz.prog Tryz.f5.params.toList Rows.workLiteralsMatchSpecSpec.vars false W args.toList ds gs a0) (hk:Rows.uptoSmall H (ds++gs)=true) (hS:W.ShapedOpen Tryz.prog):
  Calls Tryz.prog 5 args W fun e W'=>∃v,e= .returned v∧Rows.workLiteralsMatchSpecSpec.post a2 Tryz.prog Tryz.f5 false true false false W args v W':=by
 have a3:=hW;obtain⟨p,q,hA0,hV,rfl,hfz,hnd⟩:=hW;have hA:DataW.TrodAll a2 Tryz.prog W 0 (fun _=>true) true Tryz.f5.params.toList args.toList ds p:=hA0;rw [Tryz.params5] at hA a1;obtain⟨v0,d0,rfl,rfl,h0⟩:=trodAll_one hA;obtain⟨rfl,rfl⟩:=trodVars_none hV;have a4:Rows.uptoBulkAll ([d0]++ [])≤1048576:=of_decide_eq_true hk;simp only [tU] at a4 a3;obtain⟨C,vs,rfl,hC⟩:=Do (a1 0 50 v0 rfl rfl) h0 (aE (pK (by simp)) a4);have a5:∀x∈p,x.block<W.heap.size:=fun x hx=>by simpa using a3.lt x hx
 have hG:=Ap hS;refine(ZG C W.heap.size W vs hC (aA _) fun w' hb=>Fm w' (aE hG hb.size)).mono ?_;rintro e W' ⟨rfl,hb⟩;have r0:=Below.trod VT (by kernel_rfl) (of_decide_eq_true (by kernel_rfl)) h0 hb fun x hx=>a5 x (by simp [hx])
 exact⟨_,rfl,[d0],[],_,[],_,[],a3,trodAll_cons_mk (shut_bool Tryz.underlying4 _) trodAll_mk0,trodAll_mk1 r0,rfl,hb.frame _,fun h=>by cases h⟩
end Go.Proofs.YtbdpdeonapmlgaaGreatDoor
namespace Go.Proofs.YtbdpdeonapmlgaaGreatDoor
theorem An {P:Program} (h:P.funcs.any Func.goes=false) (f:FuncId):P.goes f=false:=by
 unfold Program.goes;rw [h,Bool.and_false,HF,Bool.eq_false_iff];intro hc;have hn:∀(i:Nat) (fn:Func),P.funcs[i]?=some fn→fn.goes=false:=by
  intro i fn hi;rw [Array.any_eq_false] at h;obtain⟨a0,rfl⟩:=Array.getElem?_eq_some_iff.1 hi;simpa using h i a0
 simp only [SQ,Option.any_eq_true] at hc;obtain⟨g,_,fn,h1,h2⟩:=hc;rw [hn g fn h1] at h2;cases h2
theorem noGo:Tryz.pinned.checked.prog.funcs.any Func.goes=false:=by kernel_rfl
theorem EM:Tryz.pinned.checked.prog.funcNamed Rows.workLiteralsMatchSpecUptoRow.func=some 5:=by kernel_rfl
theorem Bj:Rows.workLiteralsMatchSpecUptoRow.start= .entering:=rfl
theorem Ao {P:Program} {fn:String} {f:FuncId} (h:P.funcNamed fn=some f) (hn:P.funcs.any Func.goes=false):P.goesAt .entering fn=false:=by
 unfold Program.goesAt Program.goesFrom;rw [h,Option.any_some,An hn,nA]
theorem Bp:false=Rows.workLiteralsMatchSpecUptoRow.goesBy Tryz.pinned.checked.prog:=by
 unfold OpenClaim.goesBy;rw [Bj];exact(Ao EM noGo).symm
theorem Bo:Tryz.pinned.checked.prog.stopsHeard=true:=by kernel_rfl
theorem Bq:Tryz.pinned.checked.prog.mayEnter=true:=by kernel_rfl
theorem closed:joinedFacts Tryz.pinned.checked.prog 5 Tryz.f5 (Rows.OpenSpec.upto Rows.workLiteralsMatchSpecSpec).bare Rows.workLiteralsMatchSpecUptoRow=true:=by
 unfold joinedFacts;rw [Bn,Bi,Bk,Bl,NU,Bm,Bo,Bq]
 kernel_rfl
end Go.Proofs.YtbdpdeonapmlgaaGreatDoor
namespace Go.Proofs.YtbdpdeonapmlgaaGreatDoor
open Go.ChangeShapes Go.WideShapes Go.ChangeAt Go.RowKit
noncomputable def vF (os:Os):World:=World.laidAll Tryz.prog os Rows.workLiteralsMatchSpecUptoRow.laid
def TH:Value:=.agg #[.int .i64 0,.int .i64 0,.string ⟨#[]⟩,.bool false,.slice none 0 0,.slice none 0 0,.slice none 0 0,.int .i64 0,.int .i64 0,.string ⟨#[]⟩,.bool false,.slice none 0 0,.slice none 0 0,.slice none 0 0,.int .i64 0]
def pU:Array Value:=#[TH]
theorem ZI (os:Os):laidMet Tryz.prog Rows.workLiteralsMatchSpecUptoRow.laid ((vF os).forCall (fun _ _=>0) ⟨#[],pU,[]⟩).memory:=
 laidMet_laidAll _ (by kernel_rfl) (by kernel_rfl)
theorem ZH (os:Os):((vF os).forCall (fun _ _=>0) ⟨#[],pU,[]⟩).Shaped Tryz.prog:=
 World.shaped_of_ZipB (by kernel_rfl) (by kernel_rfl)
theorem QS (os:Os):Input.okWideB Tryz.checked.prog ((vF os).forCall (fun _ _=>0) ⟨#[],pU,[]⟩) 5 ⟨#[],pU,[]⟩=true:=by kernel_rfl
theorem reads (os:Os) {H:Type} (a2:TypeId × Value→H):∃a1,DataW.whole a2 Tryz.prog ((vF os).forCall (fun _ _=>0) ⟨#[],pU,[]⟩).memory Tryz.f5.params.toList Rows.workLiteralsMatchSpecSpec.vars false pU.toList 8=some ([.agg [.agg [.lit (.int .i64 0),.lit (.int .i64 0),.lit (.string []),.agg [.lit (.bool false),.nil,.nil],.nil],.agg [.lit (.int .i64 0),.lit (.int .i64 0),.lit (.string []),.agg [.lit (.bool false),.nil,.nil],.nil],.lit (.int .i64 0)]],[],a1):=
 ⟨[],by kernel_rfl⟩
theorem ZJ {W:World} (h:laidMet Tryz.prog Rows.workLiteralsMatchSpecUptoRow.laid W):laidMetH Tryz.prog Rows.workLiteralsMatchSpecUptoRow.laid W:=by
 rw [MakeChecks.laidMetH_plain _ _ _ (by kernel_rfl)];exact h
theorem ZD (os:Os) (a0:os.Started) (H:Type) (a2:TypeId × Value→H) (F:Stop.Interp):
  ReturnsInHanded {} Tryz.checked os 5 .any ((Rows.OpenSpec.upto Rows.workLiteralsMatchSpecSpec).preRow a2 Tryz.prog Tryz.f5 Rows.workLiteralsMatchSpecUptoRow.domain false Rows.workLiteralsMatchSpecUptoRow.laid) (((Rows.OpenSpec.upto Rows.workLiteralsMatchSpecSpec).at F).post a2 Tryz.prog Tryz.f5 false true false false):=by
 obtain⟨a1,hx⟩:=reads os a2;refine returnsInHanded_of_row (C:=Tryz.checked) (s:=Rows.OpenSpec.upto Rows.workLiteralsMatchSpecSpec) own a0 (by kernel_rfl) Tryz.func5
  ⟨vF os,fun _ _=>0,⟨#[],pU,[]⟩,World.laidAll_os _ _ _,ZH os,(He (base:=0) (QS os)).1,(He (QS os)).2,
   OpenSpec.preRow_of_cond 8 hx (by kernel_rfl) (fun k hk=>by cases hk;kernel_rfl) (by kernel_rfl) (ZJ (ZI os)),by
   simp only [Assume.holds];exact⟨by simp,by simp,fun _=>Modest.zero,by simp,by simp⟩⟩ ?_
 intro W base args ds gs a3 a5 hW _ a4 _ hL hS _;exact contract H a2 W base args ds gs a3 a5 hW (a4 _ rfl) hS
theorem saidUpto:Rows.WorkLiteralsMatchSpecUptoSaid:=
 OpenClaim.holds_of_cond 5 Tryz.f5 rfl rfl rfl rfl rfl rfl rfl ⟨rfl,rfl,rfl,rfl,rfl⟩ rfl rfl rfl rfl rfl EM Tryz.func5 closed
  (of_decide_eq_true (by kernel_rfl)) (by unfold Func.isWrapper;first|(rw [if_pos (by decide+kernel)];kernel_rfl)|(rw [if_neg (by decide+kernel)];exact⟨rfl,rfl⟩))
  (fun os a0 H a2 _ F=>by rw [OpenClaim.pre_eq_preRow];exact ZD os a0 H a2 F)
theorem plain (f:FuncId) (fn:Func) (hf:Tryz.pinned.checked.prog.funcNamed Rows.workLiteralsMatchSpecUptoRow.func=some f) (a6:Tryz.pinned.checked.prog.funcs[f]?=some fn):
  true=Tryz.pinned.checked.prog.looks []∧∀(j:Nat) t,fn.params[j]?=some t→Tryz.pinned.checked.prog.wantsStandIn t=false:=by
 obtain rfl:f=5:=aJ (EM.symm.trans hf)|>.symm;obtain rfl:fn=Tryz.f5:=(aJ (Tryz.func5.symm.trans a6)).symm;refine⟨by kernel_rfl,fun j t ht=>?_⟩;rw [Tryz.params5] at ht;have hm:t=50:=by simpa using Array.mem_of_getElem? ht
 subst hm;exact(show Tryz.prog.wantsStandIn 50=false by kernel_rfl)
theorem cardUpto:Rows.WorkLiteralsMatchSpecUptoCardSaid:=
 Claim7.holds_tied_plain_at .later [] _ _ _ _ saidUpto (fun _ h=>by cases h) (by kernel_rfl) (fun _ h=>by cases h) workLiteralsMatchSpecUpto_row_tie rfl ⟨rfl,rfl⟩ (by kernel_rfl) rfl plain Bp
end Go.Proofs.YtbdpdeonapmlgaaGreatDoor
