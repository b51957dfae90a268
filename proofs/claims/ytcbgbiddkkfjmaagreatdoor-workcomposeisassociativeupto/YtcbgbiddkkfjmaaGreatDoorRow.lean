/-
  A part of the proof of the card of WorkComposeIsAssociative (second form): lemmas that the text Card uses. No condition of its own.
-/
import Derived.Test.YtcbgbiddkkfjmaaGreatDoorOpens
import Derived.Test.YtcbgbiddkkfjmaaGreatDoorFactE
import Derived.Test.YtcbgbiddkkfjmaaGreatDoorCards
import Derived.Test.YtcbgbiddkkfjmaaGreatDoorTie
import Derived.WalkKit
import Derived.Deep.DeepHandedRow
import Derived.Lib.LaidTab
set_option linter.all false
set_option linter.unusedVariables false
set_option linter.unusedSimpArgs false
section
namespace Go.Proofs.YtcbgbiddkkfjmaaGreatDoor
open Go.ChangeShapes Go.WideShapes Go.ChangeAt Go.RowKit
theorem own : ownKnob Tryz.prog.godebug = none := by kernel_rfl
theorem rowLaid : laidOutB Tryz.prog = true := factLaid
theorem globals4 : Tryz.prog.globals.size = 4 := by kernel_rfl
theorem block3 : (((begin Tryz.prog (fun _ _ => 0) default).world.heap[3]?).bind Obj.row?).isSome = true := by kernel_rfl
theorem globals_there {W : World} (h : W.ShapedOpen Tryz.prog) : Tryz.prog.globals.size ≤ W.heap.size := by
  obtain ⟨⟨zero, t⟩, hx⟩ := Option.isSome_iff_exists.1 block3
  obtain ⟨cs, h1, _⟩ := h.1 3 zero t (by rw [globals4]; omega) hx
  have := (Array.getElem?_eq_some_iff.1 h1).1
  rw [globals4]; omega
set_option maxRecDepth 100000 in
/-- WHAT THE WALK GIVES, FOR EVERY ARGUMENT OF THE ROW -/
theorem contract (H : Type) (enc : TypeId × Value → H) (W : World) (base : Nat) (args : Array Value) (ds gs : List (DataW H)) (before : List MemPlace)
    (hval : ∀ (j : Nat) t v, Tryz.f3.params[j]? = some t → args[j]? = some v → Value.okWide Tryz.prog W .any base t v)
    (hW : DataW.Whole enc Tryz.prog Tryz.f3.params.toList Rows.workComposeIsAssociativeSpec.vars false W args.toList ds gs before) (hk : Rows.uptoSmall H (ds ++ gs) = true) (hS : W.ShapedOpen Tryz.prog) :
    Calls Tryz.prog 3 args W fun e W' => ∃ v, e = .returned v ∧ Rows.workComposeIsAssociativeSpec.post enc Tryz.prog Tryz.f3 false true false false W args v W' := by
  have hW' := hW
  obtain ⟨p, q, hA0, hV, rfl, hfz, hnd⟩ := hW
  have hA : DataW.TrodAll enc Tryz.prog W 0 (fun _ => true) true Tryz.f3.params.toList args.toList ds p := hA0
  rw [Tryz.params3] at hA hval
  obtain ⟨v0, v1, v2, d0, d1, d2, p0, p1, p2, rfl, rfl, rfl, h0, h1, h2⟩ := trodAll_three hA
  obtain ⟨rfl, rfl⟩ := trodVars_none hV
  have hbd : Rows.uptoBulkAll ([d0, d1, d2] ++ []) ≤ 1048576 := of_decide_eq_true hk
  simp only [List.append_nil] at hbd hW'
  have hbe : ∀ d, d ∈ [d0, d1, d2] → Rows.uptoBulk d ≤ 1048576 := fun d hd => Nat.le_trans (bulk_part hd) hbd
  obtain ⟨fx, tx, ax, lx, cx, X, rfl, hlx, hsx, hX⟩ := graph_open (hval 0 24 v0 rfl rfl) h0 (hbe d0 (by simp))
  obtain ⟨fy, ty, ay, ly, cy, Y, rfl, hly, hsy, hY⟩ := graph_open (hval 1 24 v1 rfl rfl) h1 (hbe d1 (by simp))
  obtain ⟨fz, tz, az, lz, cz, Z, rfl, hlz, hsz, hZ⟩ := graph_open (hval 2 24 v2 rfl rfl) h2 (hbe d2 (by simp))
  have hlt : ∀ x ∈ p0 ++ p1 ++ p2, x.block < W.heap.size := fun x hx => by simpa using hW'.lt x hx
  refine (law_calls fx tx fy ty fz tz ax ay az cx cy cz lx ly lz W.heap.size X Y Z hlx hly hlz hsx hsy hsz W (Nat.le_refl _) (globals_there hS) hX hY hZ).mono ?_
  rintro e W' ⟨rfl, hb⟩
  have r0 := Below.trod rowLaid (by kernel_rfl) (of_decide_eq_true (by kernel_rfl)) h0 hb fun x hx => hlt x (by simp [hx])
  have r1 := Below.trod rowLaid (by kernel_rfl) (of_decide_eq_true (by kernel_rfl)) h1 hb fun x hx => hlt x (by simp [hx])
  have r2 := Below.trod rowLaid (by kernel_rfl) (of_decide_eq_true (by kernel_rfl)) h2 hb fun x hx => hlt x (by simp [hx])
  exact ⟨_, rfl, [d0, d1, d2], [], _, [], _, [], hW', trodAll_cons_mk (shut_bool Tryz.underlying4 _) trodAll_mk0, trodAll_mk3 r0 r1 r2, rfl, hb.frame _, fun h => by cases h⟩
end Go.Proofs.YtcbgbiddkkfjmaaGreatDoor
end
