/-
  The card of WorkGeneralizationIsLeast, second form, is proved: for all three terms that together hold at most 1048576 values and letters, Generalize returns a least general generalization: the call returns true and the arguments read as before. Conditions: those of the given row and card (the three listed variables as the text lays them).
-/
import Derived.Test.YtaloeffmigffaaaGreatDoorOpens
import Derived.Test.YtaloeffmigffaaaGreatDoorFactF
import Derived.Lay
set_option linter.all false
set_option linter.unusedVariables false
set_option linter.unusedSimpArgs false
section
namespace Go.Proofs.YtaloeffmigffaaaGreatDoor
open Go.ChangeShapes Go.WideShapes Go.ChangeAt Go.RowKit
noncomputable def laidWorld (os:Os):World:=World.laidAll Tryz.prog os Rows.workGeneralizationIsLeastUptoRow.laid
def wterm:Value:=.agg #[.int .i64 0,.int .i64 0,.string ⟨#[]⟩,.bool false,.slice none 0 0,.slice none 0 0,.slice none 0 0]
def wargs:Array Value:=#[wterm,wterm,wterm]
set_option maxRecDepth 100000 in
theorem laid_met (os:Os):laidMet Tryz.prog Rows.workGeneralizationIsLeastUptoRow.laid ((laidWorld os).forCall (fun _ _=>0) ⟨#[],wargs,[]⟩).memory:=
  laidMet_laidAll _ (by kernel_rfl) (by kernel_rfl)
set_option maxRecDepth 100000 in
theorem laid_shaped (os:Os):((laidWorld os).forCall (fun _ _=>0) ⟨#[],wargs,[]⟩).Shaped Tryz.prog:=
  World.shaped_of_ZipB (by kernel_rfl) (by kernel_rfl)
set_option maxRecDepth 100000 in
theorem args_ok (os:Os):Input.okWideB Tryz.checked.prog ((laidWorld os).forCall (fun _ _=>0) ⟨#[],wargs,[]⟩) 3 ⟨#[],wargs,[]⟩ = true:=by kernel_rfl
set_option maxRecDepth 100000 in
theorem reads (os:Os) {H:Type} (enc:TypeId × Value → H):∃ places,DataW.whole enc Tryz.prog ((laidWorld os).forCall (fun _ _=>0) ⟨#[],wargs,[]⟩).memory Tryz.f3.params.toList Rows.workGeneralizationIsLeastSpec.vars false wargs.toList 8 = some ([.agg [.lit (.int .i64 0),.lit (.int .i64 0),.lit (.string []),.agg [.lit (.bool false),.nil,.nil],.nil],.agg [.lit (.int .i64 0),.lit (.int .i64 0),.lit (.string []),.agg [.lit (.bool false),.nil,.nil],.nil],.agg [.lit (.int .i64 0),.lit (.int .i64 0),.lit (.string []),.agg [.lit (.bool false),.nil,.nil],.nil]],[],places):=
  ⟨[],by kernel_rfl⟩
theorem laid_plain {W:World} (h:laidMetH Tryz.prog Rows.workGeneralizationIsLeastUptoRow.laid W):laidMet Tryz.prog Rows.workGeneralizationIsLeastUptoRow.laid W:=by
  rw [MakeChecks.laidMetH_plain _ _ _ (by kernel_rfl)] at h
  exact h
theorem laid_handed {W:World} (h:laidMet Tryz.prog Rows.workGeneralizationIsLeastUptoRow.laid W):laidMetH Tryz.prog Rows.workGeneralizationIsLeastUptoRow.laid W:=by
  rw [MakeChecks.laidMetH_plain _ _ _ (by kernel_rfl)]
  exact h
set_option maxRecDepth 100000 in
theorem liftedUpto (os:Os) (started:os.Started) (H:Type) (enc:TypeId × Value → H) (F:Stop.Interp) :
    ReturnsInHanded {} Tryz.checked os 3 .any ((Rows.OpenSpec.upto Rows.workGeneralizationIsLeastSpec).preRow enc Tryz.prog Tryz.f3 Rows.workGeneralizationIsLeastUptoRow.domain false Rows.workGeneralizationIsLeastUptoRow.laid) (((Rows.OpenSpec.upto Rows.workGeneralizationIsLeastSpec).at F).post enc Tryz.prog Tryz.f3 false true false false):=by
  obtain ⟨places,hx⟩:=reads os enc
  refine returnsInHanded_of_row (C:=Tryz.checked) (s:=Rows.OpenSpec.upto Rows.workGeneralizationIsLeastSpec) own started (by kernel_rfl) Tryz.func3
    ⟨laidWorld os,fun _ _=>0,⟨#[],wargs,[]⟩,World.laidAll_os _ _ _,laid_shaped os,(Input.okWide_of_okWideB (base:=0) (args_ok os)).1,(Input.okWide_of_okWideB (args_ok os)).2,
      OpenSpec.preRow_of_cond 8 hx (by kernel_rfl) (fun k hk=>by cases hk;kernel_rfl) (by kernel_rfl) (laid_handed (laid_met os)),by
      simp only [Assume.holds]
      exact ⟨by simp,by simp,fun _=>Modest.zero,by simp,by simp⟩⟩ ?_
  intro W base args ds gs before hval hW _ hcond _ hL hS _
  exact contract H enc W base args ds gs before hval hW (hcond _ rfl) hS
theorem saidUpto:Rows.WorkGeneralizationIsLeastUptoSaid:=
  OpenClaim.holds_of_cond 3 Tryz.f3 rfl rfl rfl rfl rfl rfl rfl ⟨rfl,rfl,rfl,rfl,rfl⟩ rfl rfl rfl rfl rfl factFunc Tryz.func3 closed
    (of_decide_eq_true (by kernel_rfl)) (by unfold Func.isWrapper;first | (rw [if_pos (by decide +kernel)];kernel_rfl) | (rw [if_neg (by decide +kernel)];exact ⟨rfl,rfl⟩))
    (fun os started H enc _ F=>by rw [OpenClaim.pre_eq_preRow];exact liftedUpto os started H enc F)
theorem plain (f:FuncId) (fn:Func) (hf:Tryz.pinned.checked.prog.funcNamed Rows.workGeneralizationIsLeastUptoRow.func = some f) (hfn:Tryz.pinned.checked.prog.funcs[f]? = some fn) :
    true = Tryz.pinned.checked.prog.looks [] ∧ ∀ (j:Nat) t,fn.params[j]? = some t → Tryz.pinned.checked.prog.wantsStandIn t = false:=by
  obtain rfl:f = 3:=Option.some.inj (factFunc.symm.trans hf) |>.symm
  obtain rfl:fn = Tryz.f3:=(Option.some.inj (Tryz.func3.symm.trans hfn)).symm
  refine ⟨by kernel_rfl,fun j t ht=>?_⟩
  rw [Tryz.params3] at ht
  have hm:t = 27:=by simpa using Array.mem_of_getElem? ht
  subst hm
  exact (show Tryz.prog.wantsStandIn 27 = false by kernel_rfl)
theorem cardUpto:Rows.WorkGeneralizationIsLeastUptoCardSaid:=
  Claim7.holds_tied_plain_at .later [] _ _ _ _ saidUpto (fun _ h=>by cases h) (by kernel_rfl) (fun _ h=>by cases h) workGeneralizationIsLeastUpto_row_tie rfl ⟨rfl,rfl⟩ (by kernel_rfl) rfl plain factGoes
end Go.Proofs.YtaloeffmigffaaaGreatDoor
end
