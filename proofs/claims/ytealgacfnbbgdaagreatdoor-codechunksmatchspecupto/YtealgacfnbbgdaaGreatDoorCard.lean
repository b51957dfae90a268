/-
  The card of CodeChunksMatchSpec, second form, is proved: for every argument of the tied card within the bound that the row names, the law returns true and the arguments read as before. Conditions: those of the given row and card (the listed variables as the text lays them).
-/
import Derived.Test.YtealgacfnbbgdaaGreatDoorBa
import Derived.Test.YtealgacfnbbgdaaGreatDoorBi
import Derived.Test.YtealgacfnbbgdaaGreatDoorBj
import Derived.Test.YtealgacfnbbgdaaGreatDoorBk
import Derived.Test.YtealgacfnbbgdaaGreatDoorBl
import Derived.Test.YtealgacfnbbgdaaGreatDoorBm
import Derived.Test.YtealgacfnbbgdaaGreatDoorBn
import Derived.Test.YtealgacfnbbgdaaGreatDoorCards
import Derived.Test.YtealgacfnbbgdaaGreatDoorTie
import Derived.Deep.DeepHandedRow
import Derived.SevenTiedAt
import Derived.Lay
set_option linter.all false
set_option maxRecDepth 100000
namespace Go.Proofs.YtealgacfnbbgdaaGreatDoor
open Go.ChangeShapes Go.WideShapes Go.ChangeAt Go.RowKit
variable {W:World}
def own:ownKnob Tryz.prog.godebug=none:=by kernel_rfl
def Fe:laidOutB Tryz.prog=true:=VS
def KS:Tryz.prog.globals.size=11:=by kernel_rfl
def Pp:(((begin Tryz.prog (fun _ _=>0) default).world.heap[10]?).bind Obj.row?).isSome=true:=by kernel_rfl
def Lh (h:W.ShapedOpen Tryz.prog):Tryz.prog.globals.size≤W.heap.size:=by
 obtain⟨⟨zero,t⟩,hx⟩:=Qp.1 Pp;obtain⟨cs,h1,_⟩:=h.1 10 zero t (by rw [KS];omega) hx;have:=(cV.1 h1).1;rw [KS];omega
def strsOf:DataW Unit→List (List UInt8)
 | .agg l=>l.map fun d=>match d with
  | .lit (.string s)=>s
  |_=>[]
 |_=>[]
def JB:List (List UInt8):=strsOf Rows.laid_fetterlock_fetterlockref4_plain
def Hd:(Rows.laid_fetterlock_fetterlockref4_plain:DataW Unit)= .agg (JB.map fun s=>.lit (Lit.string s)):=by kernel_rfl
def Dq:(Rows.laid_strings_asciiSpace:DataW Unit)=Lib.tabData .u8 ((List.range 256).map fun b=>if spB b then 1 else 0):=by kernel_rfl
def He:BF oV JB=true:=by kernel_rfl
def nmAt (k:Nat):String:=(Rows.codeChunksMatchSpecUptoRow.laid.map (·.1)).getD k ""
def SV {k:Nat} {d:DataW Unit} (h:Rows.codeChunksMatchSpecUptoRow.laid[k]?=some (nmAt k,d)):(nmAt k,d)∈Rows.codeChunksMatchSpecUptoRow.laid:=bV h
def Iy (h:laidMet Tryz.prog Rows.codeChunksMatchSpecUptoRow.laid W):iC W:=
 Ix (n:=nmAt 7) (d:=Rows.laid_fetterlock_fetterlockref4_plain) (t:=313) (e:=9) (ss:=JB) h (SV rfl) (by kernel_rfl) (by kernel_rfl) (by kernel_rfl) (by kernel_rfl) (by kernel_rfl) (by kernel_rfl) Hd (by kernel_rfl) He
def Dp (h:laidMet Tryz.prog Rows.codeChunksMatchSpecUptoRow.laid W):eQ W:=
 Ds (n:=nmAt 5) (d:=Rows.laid_strings_asciiSpace) (t:=364) (e:=5) h (SV rfl) (by kernel_rfl) (by kernel_rfl) (by kernel_rfl) (by kernel_rfl) (by kernel_rfl) (by kernel_rfl) Dq
def contract (H:Type) (a2:TypeId × Value→H) (W:World) (base:Nat) (args:Array Value) (ds gs:List (DataW H)) (a0:List MemPlace)
  (a1:∀(j:Nat) t v,Tryz.f3.params[j]?=some t→args[j]?=some v→Value.okWide Tryz.prog W .any base t v)
  (hW:DataW.Whole a2 Tryz.prog Tryz.f3.params.toList Rows.codeChunksMatchSpecSpec.vars false W args.toList ds gs a0) (hk:Rows.uptoSmall H (ds++gs)=true) (hL:laidMet Tryz.prog Rows.codeChunksMatchSpecUptoRow.laid W) (hS:W.ShapedOpen Tryz.prog):
  Calls Tryz.prog 3 args W fun e W'=>∃v,e= .returned v∧Rows.codeChunksMatchSpecSpec.post a2 Tryz.prog Tryz.f3 false true false false W args v W':=by
 have a4:=hW;obtain⟨p,q,hA0,hV,rfl,hfz,hnd⟩:=hW;have hA:DataW.TrodAll a2 Tryz.prog W 0 (fun _=>true) true Tryz.f3.params.toList args.toList ds p:=hA0;rw [Tryz.params3] at hA a1;obtain⟨v0,d0,rfl,rfl,h0⟩:=trodAll_one hA;obtain⟨rfl,rfl⟩:=trodVars_none hV;have a5:Rows.uptoBulkAll ([d0]++ [])≤1048576:=NH hk;simp only [yU] at a5 a4;obtain⟨C,vs,rfl,hC⟩:=Ok (a1 0 29 v0 rfl rfl) h0 (aE (uT (by simp)) a5);have a6:∀x∈p,x.block<W.heap.size:=fun x hx=>by simpa using a4.lt x hx
 have hG:=Lh hS;have hN:=Iy hL;have a3:=Dp hL;have h3:2<W.heap.size:=by rw [KS] at hG;omega
 refine(Js biF C W.heap.size W vs hC (aA _) (biOk_p W h3 a3) (biOk_r W hG hN a3) fun w' hb=>Nx w' (aE hG hb.size) (hN.below hb hG) (qK a3 hb hG)).mono ?_;rintro e W' ⟨rfl,hb⟩;have r0:=Below.trod Fe (by kernel_rfl) (NH (by kernel_rfl)) h0 hb fun x hx=>a6 x (by simp [hx])
 exact⟨_,rfl,[d0],[],_,[],_,[],a4,trodAll_cons_mk (shut_bool Tryz.underlying4 _) trodAll_mk0,trodAll_mk1 r0,rfl,hb.frame _,fun h=>by cases h⟩
end Go.Proofs.YtealgacfnbbgdaaGreatDoor
namespace Go.Proofs.YtealgacfnbbgdaaGreatDoor
def Le {P:Program} (h:P.funcs.any Func.goes=false) (f:FuncId):P.goes f=false:=by
 unfold Program.goes;rw [h,Bool.and_false,HD,yW];intro hc;have hn:∀(i:Nat) (fn:Func),P.funcs[i]?=some fn→fn.goes=false:=by
  intro i fn hi;rw [Array.any_eq_false] at h;obtain⟨a0,rfl⟩:=cV.1 hi;simpa using h i a0
 simp only [rT,Option.any_eq_true] at hc;obtain⟨g,_,fn,h1,h2⟩:=hc;rw [hn g fn h1] at h2;cases h2
def noGo:Tryz.pinned.checked.prog.funcs.any Func.goes=false:=by kernel_rfl
def LB:Tryz.pinned.checked.prog.funcNamed Rows.codeChunksMatchSpecUptoRow.func=some 3:=by kernel_rfl
def Mf:Rows.codeChunksMatchSpecUptoRow.start= .entering:=rfl
def Lf {P:Program} {fn:String} {f:FuncId} (h:P.funcNamed fn=some f) (hn:P.funcs.any Func.goes=false):P.goesAt .entering fn=false:=by
 unfold Program.goesAt Program.goesFrom;rw [h,Option.any_some,Le hn,rV]
def Ml:false=Rows.codeChunksMatchSpecUptoRow.goesBy Tryz.pinned.checked.prog:=by
 unfold OpenClaim.goesBy;rw [Mf];exact(Lf LB noGo).symm
def Mk:Tryz.pinned.checked.prog.stopsHeard=true:=by kernel_rfl
def Mm:Tryz.pinned.checked.prog.mayEnter=true:=by kernel_rfl
def closed:joinedFacts Tryz.pinned.checked.prog 3 Tryz.f3 (Rows.OpenSpec.upto Rows.codeChunksMatchSpecSpec).bare Rows.codeChunksMatchSpecUptoRow=true:=by
 unfold joinedFacts;rw [Mj,Me,Mg,Mh,VS,Mi,Mk,Mm]
 kernel_rfl
end Go.Proofs.YtealgacfnbbgdaaGreatDoor
namespace Go.Proofs.YtealgacfnbbgdaaGreatDoor
open Go.ChangeShapes Go.WideShapes Go.ChangeAt Go.RowKit
noncomputable def zZ (os:Os):World:=World.laidAll Tryz.prog os Rows.codeChunksMatchSpecUptoRow.laid
def Bn:Value:=.agg #[.int .i64 0,.int .i64 0,.string ⟨#[]⟩,.bool false,.slice none 0 0,.slice none 0 0,.slice none 0 0,.int .i64 0,.int .i64 0,.string ⟨#[]⟩,.bool false,.slice none 0 0,.slice none 0 0,.slice none 0 0,.int .i64 0]
def vB:Array Value:=#[Bn]
def Jv (os:Os):laidMet Tryz.prog Rows.codeChunksMatchSpecUptoRow.laid ((zZ os).forCall (fun _ _=>0) ⟨#[],vB,[]⟩).memory:=
 laidMet_laidAll _ (by kernel_rfl) (by kernel_rfl)
def Jt (os:Os):((zZ os).forCall (fun _ _=>0) ⟨#[],vB,[]⟩).Shaped Tryz.prog:=
 World.shaped_of_ZipB (by kernel_rfl) (by kernel_rfl)
def YY (os:Os):Input.okWideB Tryz.checked.prog ((zZ os).forCall (fun _ _=>0) ⟨#[],vB,[]⟩) 3 ⟨#[],vB,[]⟩=true:=by kernel_rfl
def reads (os:Os) {H:Type} (a2:TypeId × Value→H):∃a1,DataW.whole a2 Tryz.prog ((zZ os).forCall (fun _ _=>0) ⟨#[],vB,[]⟩).memory Tryz.f3.params.toList Rows.codeChunksMatchSpecSpec.vars false vB.toList 8=some ([.agg [.agg [.lit (.int .i64 0),.lit (.int .i64 0),.lit (.string []),.agg [.lit (.bool false),.nil,.nil],.nil],.agg [.lit (.int .i64 0),.lit (.int .i64 0),.lit (.string []),.agg [.lit (.bool false),.nil,.nil],.nil],.lit (.int .i64 0)]],[],a1):=
 ⟨[],by kernel_rfl⟩
def Ju {W:World} (h:laidMetH Tryz.prog Rows.codeChunksMatchSpecUptoRow.laid W):laidMet Tryz.prog Rows.codeChunksMatchSpecUptoRow.laid W:=by
 rw [Rb _ _ _ (by kernel_rfl)] at h;exact h
def Jw {W:World} (h:laidMet Tryz.prog Rows.codeChunksMatchSpecUptoRow.laid W):laidMetH Tryz.prog Rows.codeChunksMatchSpecUptoRow.laid W:=by
 rw [Rb _ _ _ (by kernel_rfl)];exact h
def Jo (os:Os) (a0:os.Started) (H:Type) (a2:TypeId × Value→H) (F:Stop.Interp):
  ReturnsInHanded {} Tryz.checked os 3 .any ((Rows.OpenSpec.upto Rows.codeChunksMatchSpecSpec).preRow a2 Tryz.prog Tryz.f3 Rows.codeChunksMatchSpecUptoRow.domain false Rows.codeChunksMatchSpecUptoRow.laid) (((Rows.OpenSpec.upto Rows.codeChunksMatchSpecSpec).at F).post a2 Tryz.prog Tryz.f3 false true false false):=by
 obtain⟨a1,hx⟩:=reads os a2;refine returnsInHanded_of_row (C:=Tryz.checked) (s:=Rows.OpenSpec.upto Rows.codeChunksMatchSpecSpec) own a0 (by kernel_rfl) Tryz.func3
  ⟨zZ os,fun _ _=>0,⟨#[],vB,[]⟩,World.laidAll_os _ _ _,Jt os,(Sc (base:=0) (YY os)).1,(Sc (YY os)).2,
   OpenSpec.preRow_of_cond 8 hx (by kernel_rfl) (fun k hk=>by cases hk;kernel_rfl) (by kernel_rfl) (Jw (Jv os)),by
   simp only [Assume.holds];exact⟨by simp,by simp,fun _=>Modest.zero,by simp,by simp⟩⟩ ?_
 intro W base args ds gs a3 a5 hW _ a4 _ hL hS _;exact contract H a2 W base args ds gs a3 a5 hW (a4 _ rfl) (Ju hL) hS
def saidUpto:Rows.CodeChunksMatchSpecUptoSaid:=
 OpenClaim.holds_of_cond 3 Tryz.f3 rfl rfl rfl rfl rfl rfl rfl ⟨rfl,rfl,rfl,rfl,rfl⟩ rfl rfl rfl rfl rfl LB Tryz.func3 closed
  (NH (by kernel_rfl)) (by unfold Func.isWrapper;first|(rw [if_pos (by decide+kernel)];kernel_rfl)|(rw [if_neg (by decide+kernel)];exact⟨rfl,rfl⟩))
  (fun os a0 H a2 _ F=>by rw [OpenClaim.pre_eq_preRow];exact Jo os a0 H a2 F)
def plain (f:FuncId) (fn:Func) (hf:Tryz.pinned.checked.prog.funcNamed Rows.codeChunksMatchSpecUptoRow.func=some f) (a6:Tryz.pinned.checked.prog.funcs[f]?=some fn):
  false=Tryz.pinned.checked.prog.looks []∧∀(j:Nat) t,fn.params[j]?=some t→Tryz.pinned.checked.prog.wantsStandIn t=false:=by
 obtain rfl:f=3:=bP (LB.symm.trans hf)|>.symm;obtain rfl:fn=Tryz.f3:=(bP (Tryz.func3.symm.trans a6)).symm;refine⟨by kernel_rfl,fun j t ht=>?_⟩;rw [Tryz.params3] at ht;have hm:t=29:=by simpa using Array.mem_of_getElem? ht
 subst hm;exact(show Tryz.prog.wantsStandIn 29=false by kernel_rfl)
theorem cardUpto:Rows.CodeChunksMatchSpecUptoCardSaid:=
 Claim7.holds_tied_plain_at .later [] _ _ _ _ saidUpto (fun _ h=>by cases h) (by kernel_rfl) (fun _ h=>by cases h) codeChunksMatchSpecUpto_row_tie rfl ⟨rfl,rfl⟩ (by kernel_rfl) rfl plain Ml
