/-
  A part of the proof of the card of WorkGeneralizationIsLeast (second form): lemmas that the text Card uses. No condition of its own.
-/
import Derived.Test.YtaloeffmigffaaaGreatDoorSeq
import Derived.Test.YtaloeffmigffaaaGreatDoorMemoA
import Derived.Test.YtaloeffmigffaaaGreatDoorMemoB
import Derived.Test.YtaloeffmigffaaaGreatDoorMemoC
import Derived.Test.YtaloeffmigffaaaGreatDoorMemoD
import Derived.Test.YtaloeffmigffaaaGreatDoorRun
import Derived.Test.YtaloeffmigffaaaGreatDoorEv08
set_option linter.all false
set_option linter.unusedVariables false
set_option linter.unusedSimpArgs false
section
open Go Go.Ev
namespace Go.Proofs.YtaloeffmigffaaaGreatDoor
theorem progIsOk:progOk Tryz.prog = true:=by kernel_rfl
theorem mixes:Tryz.prog.follows .mixedOrders = true:=by kernel_rfl
theorem globals14:Tryz.prog.globals.size ≤ 14:=Nat.le_of_ble_eq_true (by kernel_rfl)
theorem bif_some {α:Type} {b:Bool} {x y:Option α} {z:α} (h:(bif b then x else y) = some z):(b = true ∧ x = some z) ∨ (b = false ∧ y = some z):=by
  cases b with
  | true=>exact .inl ⟨rfl,h⟩
  | false=>exact .inr ⟨rfl,h⟩
theorem name223 : Tryz.f223.name ≠ "runtime.NumGoroutine" := by
  have h : (Tryz.f223.name == "runtime.NumGoroutine") = false := by kernel_rfl
  simpa using h
theorem name273 : Tryz.f273.name ≠ "runtime.NumGoroutine" := by
  have h : (Tryz.f273.name == "runtime.NumGoroutine") = false := by kernel_rfl
  simpa using h
theorem cmpF_one {f:FuncId} (h:f = 223) {vs:List V} {us:List Value} {m:Mp} {h0 h':H} {w:World} {v:V} {call:CallT} (hr:HR m h0 w) (hR:Rl m vs us) (hv:cmpF.run call vs h0 = .ok v h'):HvOk Tryz.prog ((callFunc f ⟨us⟩).run Tryz.prog w) m h0 w v h':=by
  subst h
  exact cmpF_sound (fn:=Tryz.f223) Tryz.func223 rfl name223 (by kernel_rfl) (by kernel_rfl) hr hR hv
theorem sameF_one {f:FuncId} (h:f = 273) {vs:List V} {us:List Value} {m:Mp} {h0 h':H} {w:World} {v:V} {call:CallT} (hr:HR m h0 w) (hR:Rl m vs us) (hv:sameF.run call vs h0 = .ok v h'):HvOk Tryz.prog ((callFunc f ⟨us⟩).run Tryz.prog w) m h0 w v h':=by
  subst h
  exact sameF_sound (fn:=Tryz.f273) Tryz.func273 rfl name273 (by kernel_rfl) (by kernel_rfl) hr hR hv
theorem seqG_one {f:FuncId} (h:f = 298) {vs:List V} {us:List Value} {m:Mp} {h0 h':H} {w:World} {v:V} {call:CallT} (hr:HR m h0 w) (hR:Rl m vs us) (hv:(seqG 276 3).run call vs h0 = .ok v h'):HvOk Tryz.prog ((callFunc f ⟨us⟩).run Tryz.prog w) m h0 w v h':=by
  subst h
  exact seqG_sound Tryz.seqDoes hr hR hv
theorem ndF_one {P:Program} {lf fuel:Nat} {g f:Nat} (h:f = g) {call:CallT} (hp:progOk P = true) (hcall:CallOK P call) (hmix:P.follows .mixedOrders = true) {m:Mp} {w:World}
    {vs:List V} {us:List Value} {h0 h':H} {v:V} (hr:HR m h0 w) (hg:Gl P m) (hR:Rl m vs us) (hv:(ndF P lf fuel g).run call vs h0 = .ok v h') :
    HvOk P ((callFunc f ⟨us⟩).run P w) m h0 w v h':=by
  subst h
  exact ndF_sound hp hcall hmix hr hg hR hv
theorem beqN {a b:Nat} (h:Nat.beq a b = true):a = b:=Nat.eq_of_beq_eq_true h
theorem sp0_ok:SpecOK Tryz.prog sp0:=by
  intro f op hop call hcall vs us m h w v h' hr hg hR hv
  unfold sp0 at hop
  rcases bif_some hop with ⟨e,h1⟩ | ⟨_,hop⟩
  · obtain rfl:=Option.some.inj h1;exact cmpF_one (beqN e) hr hR hv
  rcases bif_some hop with ⟨e,h1⟩ | ⟨_,hop⟩
  · obtain rfl:=Option.some.inj h1;exact sameF_one (beqN e) hr hR hv
  rcases bif_some hop with ⟨e,h1⟩ | ⟨_,hop⟩
  · obtain rfl:=Option.some.inj h1;exact seqG_one (beqN e) hr hR hv
  rcases bif_some hop with ⟨e,h1⟩ | ⟨_,hop⟩
  · exact ndF_one (lf:=100) (fuel:=10000) (g:=36) (beqN e) progIsOk hcall mixes hr hg hR (by rw [Option.some.inj h1];exact hv)
  rcases bif_some hop with ⟨e,h1⟩ | ⟨_,hop⟩
  · exact ndF_one (lf:=100) (fuel:=10000) (g:=240) (beqN e) progIsOk hcall mixes hr hg hR (by rw [Option.some.inj h1];exact hv)
  · cases hop
theorem call0_ok:CallOK Tryz.prog call0:=callE_sound progIsOk mixes sp0_ok 300
theorem facts:∀ mm ∈ mUs,memoFact call0 14 10000 189 mm = true:=by
  intro mm hm
  simp only [mUs,List.mem_cons,List.not_mem_nil,or_false] at hm
  rcases hm with rfl | rfl | rfl | rfl | rfl | rfl | rfl | rfl | rfl
  · exact fU0
  · exact fU1
  · exact fU2
  · exact fU3
  · exact fU4
  · exact fU5
  · exact fU6
  · exact fU7
  · exact fU8
theorem badF_no {call:CallT} {vs:List V} {h h':H} {v:V} (hv:badF.run call vs h = .ok v h'):False:=by
  simp only [badF] at hv;cases hv
theorem memos_one {f:FuncId} (e:f = 189) {vs:List V} {us:List Value} {m:Mp} {h h':H} {w:World} {v:V} {call:CallT} (hr:HR m h w) (hg:Gl Tryz.prog m) (hR:Rl m vs us) (hv:(memosG 10000 14 mUs badF).run call vs h = .ok v h'):HvOk Tryz.prog ((callFunc f ⟨us⟩).run Tryz.prog w) m h w v h':=by
  subst e
  simp only [memosG] at hv
  cases hn:Nat.ble 14 h.next.toNat with
  | false=>rw [hn] at hv;exact absurd hv badF_no
  | true=>
    rw [hn] at hv
    simp only [cond_true,memosF] at hv
    split at hv
    · exact absurd hv badF_no
    · rename_i a o olds hin
      split at hv
      · exact absurd hv badF_no
      · rename_i mm hf
        obtain ⟨h1,rfl,rfl⟩:=findM_mem hf
        exact memo_sound (facts mm h1) call0_ok globals14 (by decide) hr hg hR (Nat.le_of_ble_eq_true hn) hin hv
theorem sp1_ok:SpecOK Tryz.prog sp1:=by
  intro f op hop call hcall vs us m h w v h' hr hg hR hv
  unfold sp1 at hop
  rcases bif_some hop with ⟨e,h1⟩ | ⟨_,hop⟩
  · obtain rfl:=Option.some.inj h1;exact memos_one (beqN e) hr hg hR hv
  · exact sp0_ok f op hop call hcall vs us m h w v h' hr hg hR hv
theorem call1_ok:CallOK Tryz.prog (callE Tryz.prog sp1 5000 300):=callE_sound progIsOk mixes sp1_ok 300
end Go.Proofs.YtaloeffmigffaaaGreatDoor
end
section
open Go Go.Ev
namespace Go.Proofs.YtaloeffmigffaaaGreatDoor
def m0 (n:Nat):Mp:=fun b=>if b.toNat < n then some ⟨b.toNat,0,0⟩ else none
theorem hr0 {n:Nat} {w:World} (hn:n ≤ 14) (hw:n ≤ w.heap.size):HR (m0 n) (H0 14) w:=by
  have hm:∀ b l,m0 n b = some l → b.toNat < n ∧ l.blk = b.toNat:=by
    intro b l h
    unfold m0 at h
    split at h
    · rename_i hlt;cases h;exact ⟨hlt,rfl⟩
    · cases h
  have hnone:∀ b ob,mget b (H0 14).mem = some ob → False:=fun b ob h=>by
    have:mget b Mem.new = some ob:=h
    rw [mget_new] at this;cases this
  refine ⟨fun b ob h=>(hnone b ob h).elim,?_,fun b _ ob _ _ _ h=>(hnone b ob h).elim,fun b _ _ _ _ _ _ _ _ h=>(hnone b _ h).elim,?_,?_,fun b _ _ _ _ h=>(hnone b _ h).elim,?_⟩
  · intro b l h
    obtain ⟨h1,_⟩:=hm b l h
    show b.toNat < (idOf 14).toNat
    rw [idOf_toNat (by decide)];omega
  · intro f
    show List.Pairwise _ (fget f Fam.new)
    rw [fget_new];exact List.Pairwise.nil
  · intro b l h
    obtain ⟨h1,h2⟩:=hm b l h
    omega
  · intro f x hx
    have:x ∈ fget f Fam.new:=hx
    rw [fget_new] at this;cases this
theorem gl0:Gl Tryz.prog (m0 Tryz.prog.globals.size):=by
  intro g hg
  refine ⟨0,?_⟩
  have h14:=globals14
  unfold m0
  rw [idOf_toNat (by omega),if_pos hg]
theorem true_of {r:VH} (h:VH.isTrue r = true):∃ h',r = .ok (.b true) h':=by
  cases r with
  | bad=>cases h
  | ok v h'=>
    cases v with
    | b x=>cases x with
      | true=>exact ⟨h',rfl⟩
      | false=>cases h
    | _=>cases h
theorem e5:∀ args w,(callFunc 5 args).run Tryz.prog w = .ok (.enter 5 args) w:=enters_of Tryz.func5 (by kernel_rfl) rfl
theorem appends_calls (w:World) (hw:Tryz.prog.globals.size ≤ w.heap.size):Calls Tryz.prog 5 #[] w fun e w'=>e = .returned (.bool true) ∧ RowKit.Below w.heap.size w w':=by
  obtain ⟨h',hrun⟩:=true_of run
  have hno:∀ B,¬ Wb (m0 Tryz.prog.globals.size) (H0 14) B:=by
    rintro B ⟨b,ob,l,h,_⟩
    have:mget b Mem.new = some ob:=h
    rw [mget_new] at this;cases this
  rcases call1_ok 5 [] [] (m0 Tryz.prog.globals.size) (H0 14) w (.b true) h' (hr0 globals14 hw) gl0 (by simp [Rl]) hrun with ⟨u,w',m',h1,_⟩ | ⟨f,us,h1,h2⟩
  · rw [e5] at h1
    rcases h1 with h1 | ⟨h1,_⟩ <;> cases h1
  · rw [e5] at h1
    cases h1
    refine h2.mono ?_
    rintro e w' ⟨u,m',rfl,hF,hR⟩
    rw [R_b hR]
    exact ⟨rfl,hF.os,hF.tape,hF.output,hF.size,fun k hk=>hF.keep k hk (hno k)⟩
end Go.Proofs.YtaloeffmigffaaaGreatDoor
end
