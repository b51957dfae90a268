/-
  A part of the proof of the card of WorkbenchClausesInOrder (second form): lemmas that the text Card uses. No condition of its own.
-/
import Derived.Test.YtihaajnknnapmaaGreatDoorSysT
import Derived.Test.YtihaajnknnapmaaGreatDoorSeq
import Derived.Test.YtihaajnknnapmaaGreatDoorRun
import Derived.Test.YtihaajnknnapmaaGreatDoorEv10
import Derived.Lib.LaidTab
import Derived.LaidByTextLater
set_option linter.all false
set_option linter.unusedVariables false
set_option linter.unusedSimpArgs false
section
open Go Go.Ev
namespace Go.Proofs.YtihaajnknnapmaaGreatDoor
theorem progIsOk : progOk Tryz.prog = true := by kernel_rfl
theorem mixes : Tryz.prog.follows .mixedOrders = true := by kernel_rfl
theorem globals14 : Tryz.prog.globals.size ≤ 14 := Nat.le_of_ble_eq_true (by kernel_rfl)
theorem globals2 : 2 < Tryz.prog.globals.size := Nat.le_of_ble_eq_true (by kernel_rfl)
theorem bif_some {α : Type} {b : Bool} {x y : Option α} {z : α} (h : (bif b then x else y) = some z) : (b = true ∧ x = some z) ∨ (b = false ∧ y = some z) := by
  cases b with
  | true => exact .inl ⟨rfl, h⟩
  | false => exact .inr ⟨rfl, h⟩
theorem name334 : Tryz.f334.name ≠ "runtime.NumGoroutine" := by
  have h : (Tryz.f334.name == "runtime.NumGoroutine") = false := by kernel_rfl
  simpa using h
theorem name393 : Tryz.f393.name ≠ "runtime.NumGoroutine" := by
  have h : (Tryz.f393.name == "runtime.NumGoroutine") = false := by kernel_rfl
  simpa using h
theorem name339 : Tryz.f339.name ≠ "runtime.NumGoroutine" := by
  have h : (Tryz.f339.name == "runtime.NumGoroutine") = false := by kernel_rfl
  simpa using h
theorem cmpF_one {f : FuncId} (h : f = 334) {vs : List V} {us : List Value} {m : Mp} {h0 h' : H} {w : World} {v : V} {call : CallT} (hr : HR m h0 w) (hR : Rl m vs us) (hv : cmpF.run call vs h0 = .ok v h') : HvOk Tryz.prog ((callFunc f ⟨us⟩).run Tryz.prog w) m h0 w v h' := by
  subst h
  exact cmpF_sound (fn := Tryz.f334) Tryz.func334 rfl name334 (by kernel_rfl) (by kernel_rfl) hr hR hv
theorem countF_one {f : FuncId} (h : f = 393) {vs : List V} {us : List Value} {m : Mp} {h0 h' : H} {w : World} {v : V} {call : CallT} (hr : HR m h0 w) (hR : Rl m vs us) (hv : countF.run call vs h0 = .ok v h') : HvOk Tryz.prog ((callFunc f ⟨us⟩).run Tryz.prog w) m h0 w v h' := by
  subst h
  exact countF_sound (fn := Tryz.f393) Tryz.func393 rfl name393 (by kernel_rfl) (by kernel_rfl) hr hR hv
theorem indexByteF_one {f : FuncId} (h : f = 339) {vs : List V} {us : List Value} {m : Mp} {h0 h' : H} {w : World} {v : V} {call : CallT} (hr : HR m h0 w) (hR : Rl m vs us) (hv : indexByteF.run call vs h0 = .ok v h') : HvOk Tryz.prog ((callFunc f ⟨us⟩).run Tryz.prog w) m h0 w v h' := by
  subst h
  exact indexByteF_sound (fn := Tryz.f339) Tryz.func339 rfl name339 (by kernel_rfl) (by kernel_rfl) hr hR hv
/-! System -/
theorem spaceEls_eq : spaceEls = (List.range 256).map fun b => [V.i .u8 (bif spB b then .ofNat 1 else .ofNat 0)] := by kernel_rfl
theorem spaceEls_flat : ∀ (l : List Nat) (g : Nat → V), (l.map fun b => [g b]).flatten = l.map g
  | [], _ => rfl
  | a :: l, g => by simp [spaceEls_flat l g]
theorem space_of {m : Mp} {h : H} {w : World} {fm : Ev.Id} {ro : Rw} (hr : HR m h w) (hg : Gl Tryz.prog m) (hb : mget (idOf 2) h.mem = some (.cells 1 spaceEls fm ro)) : SpaceAt w := by
  obtain ⟨l, hl, ho⟩ := hr.obj _ _ hb
  obtain ⟨lim, hl2⟩ := hg 2 globals2
  rw [hl2] at hl
  obtain rfl := Option.some.inj hl
  obtain ⟨C, t, fz, hC⟩ := ho
  intro b hb
  have hf : spaceEls.flatten[b]? = some (V.i .u8 (bif spB b then .ofNat 1 else .ofNat 0)) := by
    rw [spaceEls_eq, spaceEls_flat (List.range 256) (fun b => V.i .u8 (bif spB b then .ofNat 1 else .ofNat 0)), List.getElem?_map, List.getElem?_range hb]; rfl
  obtain ⟨u, hu, hR, _⟩ := hC.val b _ hf
  simp only [R] at hR
  have h1 := cell_of (l := ⟨2, 0, lim⟩) hC.at_ b
  have h2 : w.cell? ⟨2, b, none⟩ = C[b]? := h1
  rw [h2]
  rw [show (⟨2, 0, lim⟩ : Ev.Loc).base + b = b from Nat.zero_add b] at hu
  rw [hu, hR]
  cases spB b <;> rfl
theorem e170 : ∀ args w, (callFunc 170 args).run Tryz.prog w = .ok (.enter 170 args) w := enters_of Tryz.func170 (by kernel_rfl) rfl
theorem one_byte {m : Mp} {l c : Nat} {u : Value} (hl : l = 1) (hc : c < 256) (h : R m (.s l c) u) : u = .string ⟨#[c.toUInt8]⟩ := by
  subst hl
  rw [R_str] at h
  obtain ⟨s, rfl, hs, _⟩ := h
  have h1 : bytesOf 1 c = [c] := by
    simp only [bytesOf]
    first | rfl | (simp; omega)
  rw [h1] at hs
  obtain ⟨⟨l⟩⟩ := s
  cases l with
  | nil => cases hs
  | cons x l =>
    cases l with
    | cons y l => cases hs
    | nil =>
      have : x.toNat = c := by simpa [bytesIn] using hs
      subst this
      simp
theorem sys_at {m : Mp} {h : H} {w : World} {c : Nat} {k : Nat} (hr : HR m h w) (hg : Gl Tryz.prog m) (hsp : SpaceAt w) {us : List Value} (hc : c < 256) (hR : Rl m [.s 1 c, .i .i64 (.ofNat k)] us)
    (d244 : ∀ w, Calls Tryz.prog 244 #[.string ⟨#[c.toUInt8]⟩, .int .i64 k] w fun e w' => e = .returned (.tuple #[.string ⟨#[]⟩, .bool false]) ∧ w' = w)
    (d246 : ∀ w, Calls Tryz.prog 246 #[.int .i64 k] w fun e w' => ∃ s, e = .returned (.string s) ∧ Good s c.toUInt8 ∧ w' = w) :
    HvOk Tryz.prog ((callFunc 170 ⟨us⟩).run Tryz.prog w) m h w (.tup [.s 0 0, .b false]) h := by
  simp only [Rl] at hR
  obtain ⟨u, us1, rfl, hu, u2, us2, rfl, hu2, rfl⟩ := hR
  obtain rfl := one_byte rfl hc hu
  simp only [R] at hu2
  subst hu2
  obtain ⟨lim, hl⟩ := hg 2 globals2
  have h3 : 2 < w.heap.size := hr.lt _ _ hl
  refine .inr ⟨170, _, e170 _ w, (callsIn_wide.1 (system_in c.toUInt8 k w h3 hsp d244 d246)).mono ?_⟩
  rintro e w' ⟨rfl, hB⟩
  refine ⟨_, m, rfl, Fr.later hr hB.size hB.block hB.os hB.tape hB.output, ?_⟩
  simp only [R]
  refine ⟨[.string ⟨#[]⟩, .bool false], rfl, ?_⟩
  simp only [Rl]
  exact ⟨_, _, rfl, by rw [R_str]; exact ⟨_, rfl, rfl, by decide⟩, _, _, rfl, by simp [R], rfl⟩
theorem sysT_at {m : Mp} {h : H} {w : World} (hr : HR m h w) (hg : Gl Tryz.prog m) (hsp : SpaceAt w) {us : List Value} (hR : Rl m [.s 4 1702195828, .i .i64 (.ofNat 0)] us) :
    HvOk Tryz.prog ((callFunc 170 ⟨us⟩).run Tryz.prog w) m h w (.tup [.s 0 0, .b true]) h := by
  simp only [Rl] at hR
  obtain ⟨u, us1, rfl, hu, u2, us2, rfl, hu2, rfl⟩ := hR
  obtain rfl : u = .string tru := by
    rw [R_str] at hu
    obtain ⟨s, rfl, hs, _⟩ := hu
    have h1 : bytesOf 4 1702195828 = [116, 114, 117, 101] := by decide
    rw [h1] at hs
    obtain ⟨⟨l⟩⟩ := s
    have h2 : l = [116, 114, 117, 101] := by
      have h3 : l.map UInt8.toNat = [116, 114, 117, 101] := hs
      have h4 : l.map UInt8.toNat = ([116, 114, 117, 101] : List UInt8).map UInt8.toNat := h3
      exact (List.map_inj_right (fun a b h => UInt8.toNat_inj.1 h)).1 h4
    rw [h2]; rfl
  simp only [R] at hu2
  subst hu2
  obtain ⟨lim, hl⟩ := hg 2 globals2
  have h3 : 2 < w.heap.size := hr.lt _ _ hl
  refine .inr ⟨170, _, e170 _ w, (callsIn_wide.1 (systemT_in w h3 hsp)).mono ?_⟩
  rintro e w' ⟨rfl, hB⟩
  refine ⟨_, m, rfl, Fr.later hr hB.size hB.block hB.os hB.tape hB.output, ?_⟩
  simp only [R]
  refine ⟨[.string ⟨#[]⟩, .bool true], rfl, ?_⟩
  simp only [Rl]
  exact ⟨_, _, rfl, by rw [R_str]; exact ⟨_, rfl, rfl, by decide⟩, _, _, rfl, by simp [R], rfl⟩
theorem space_got {m : Mp} {h0 h' : H} {w : World} {v : V} {b : Bool} (hr : HR m h0 w) (hg : Gl Tryz.prog m) (hv : (match mget (idOf 2) h0.mem with
        | some (.cells sz els _ _) => bif Nat.beq sz 1 && beqLL els spaceEls then (VH.ok (.tup [.s 0 0, .b b]) h0) else .bad
        | _ => .bad) = .ok v h') : SpaceAt w ∧ v = .tup [.s 0 0, .b b] ∧ h' = h0 := by
  split at hv
  · rename_i sz els fm ro hb
    cases hz : Nat.beq sz 1 && beqLL els spaceEls with
    | false => rw [hz] at hv; cases hv
    | true =>
      rw [hz] at hv
      simp only [cond_true, VH.ok.injEq] at hv
      obtain ⟨rfl, rfl⟩ := hv
      rw [Bool.and_eq_true] at hz
      obtain rfl := Nat.eq_of_beq_eq_true hz.1
      obtain rfl := beqLL_eq hz.2
      exact ⟨space_of hr hg hb, rfl, rfl⟩
  · cases hv
theorem sysF_one {f : FuncId} (hf : f = 170) {vs : List V} {us : List Value} {m : Mp} {h0 h' : H} {w : World} {v : V} {call : CallT} (hr : HR m h0 w) (hg : Gl Tryz.prog m) (hR : Rl m vs us) (hv : sysF.run call vs h0 = .ok v h') : HvOk Tryz.prog ((callFunc f ⟨us⟩).run Tryz.prog w) m h0 w v h' := by
  subst hf
  simp only [sysF] at hv
  split at hv
  · rename_i l c n
    cases hq : (Nat.beq l 1 && (Nat.beq c 112 && Nat.beq n 1)) || (Nat.beq l 1 && (Nat.beq c 113 && Nat.beq n 1)) with
    | true =>
      rw [hq] at hv
      simp only [cond_true] at hv
      obtain ⟨hsp, rfl, rfl⟩ := space_got hr hg hv
      rw [Bool.or_eq_true, Bool.and_eq_true, Bool.and_eq_true, Bool.and_eq_true, Bool.and_eq_true] at hq
      rcases hq with ⟨e1, e2, e3⟩ | ⟨e1, e2, e3⟩
      · obtain rfl := Nat.eq_of_beq_eq_true e1; obtain rfl := Nat.eq_of_beq_eq_true e2; obtain rfl := Nat.eq_of_beq_eq_true e3
        exact sys_at hr hg hsp (by decide) hR special_p names_p
      · obtain rfl := Nat.eq_of_beq_eq_true e1; obtain rfl := Nat.eq_of_beq_eq_true e2; obtain rfl := Nat.eq_of_beq_eq_true e3
        exact sys_at hr hg hsp (by decide) hR special_q names_q
    | false =>
      rw [hq] at hv
      simp only [cond_false] at hv
      cases hq2 : Nat.beq l 4 && (Nat.beq c 1702195828 && Nat.beq n 0) with
      | false => rw [hq2] at hv; cases hv
      | true =>
        rw [hq2] at hv
        simp only [cond_true] at hv
        obtain ⟨hsp, rfl, rfl⟩ := space_got hr hg hv
        rw [Bool.and_eq_true, Bool.and_eq_true] at hq2
        obtain ⟨e1, e2, e3⟩ := hq2
        obtain rfl := Nat.eq_of_beq_eq_true e1; obtain rfl := Nat.eq_of_beq_eq_true e2; obtain rfl := Nat.eq_of_beq_eq_true e3
        exact sysT_at hr hg hsp hR
  · cases hv
theorem name367 : Tryz.f367.name ≠ "runtime.NumGoroutine" := by
  have h : (Tryz.f367.name == "runtime.NumGoroutine") = false := by kernel_rfl
  simpa using h
theorem sameF_one {f : FuncId} (h : f = 367) {vs : List V} {us : List Value} {m : Mp} {h0 h' : H} {w : World} {v : V} {call : CallT} (hr : HR m h0 w) (hR : Rl m vs us) (hv : sameF.run call vs h0 = .ok v h') : HvOk Tryz.prog ((callFunc f ⟨us⟩).run Tryz.prog w) m h0 w v h' := by
  subst h
  exact sameF_sound (fn := Tryz.f367) Tryz.func367 rfl name367 (by kernel_rfl) (by kernel_rfl) hr hR hv
theorem seqG_one {f : FuncId} (h : f = 383) {vs : List V} {us : List Value} {m : Mp} {h0 h' : H} {w : World} {v : V} {call : CallT} (hr : HR m h0 w) (hR : Rl m vs us) (hv : (seqG 356 3).run call vs h0 = .ok v h') : HvOk Tryz.prog ((callFunc f ⟨us⟩).run Tryz.prog w) m h0 w v h' := by
  subst h
  exact seqG_sound Tryz.seqDoes hr hR hv
theorem beqN {a b : Nat} (h : Nat.beq a b = true) : a = b := Nat.eq_of_beq_eq_true h
theorem sp0_ok : SpecOK Tryz.prog sp0 := by
  intro f op hop call hcall vs us m h w v h' hr hg hR hv
  unfold sp0 at hop
  rcases bif_some hop with ⟨e, h1⟩ | ⟨_, hop⟩
  · obtain rfl := Option.some.inj h1; exact cmpF_one (beqN e) hr hR hv
  rcases bif_some hop with ⟨e, h1⟩ | ⟨_, hop⟩
  · obtain rfl := Option.some.inj h1; exact countF_one (beqN e) hr hR hv
  rcases bif_some hop with ⟨e, h1⟩ | ⟨_, hop⟩
  · obtain rfl := Option.some.inj h1; exact indexByteF_one (beqN e) hr hR hv
  rcases bif_some hop with ⟨e, h1⟩ | ⟨_, hop⟩
  · obtain rfl := Option.some.inj h1; exact sysF_one (beqN e) hr hg hR hv
  rcases bif_some hop with ⟨e, h1⟩ | ⟨_, hop⟩
  · obtain rfl := Option.some.inj h1; exact sameF_one (beqN e) hr hR hv
  rcases bif_some hop with ⟨e, h1⟩ | ⟨_, hop⟩
  · obtain rfl := Option.some.inj h1; exact seqG_one (beqN e) hr hR hv
  · cases hop
theorem call0_ok : CallOK Tryz.prog call0 := callE_sound progIsOk mixes sp0_ok 300
theorem facts : ∀ mm ∈ mUs, memoFact call0 14 10000 47 mm = true := by
  intro mm hm
  simp only [mUs, List.mem_cons, List.not_mem_nil, or_false] at hm
  rcases hm with rfl | rfl | rfl | rfl | rfl | rfl | rfl | rfl | rfl | rfl | rfl | rfl | rfl | rfl | rfl | rfl | rfl | rfl | rfl | rfl | rfl | rfl | rfl | rfl | rfl | rfl | rfl | rfl | rfl | rfl | rfl | rfl | rfl | rfl | rfl | rfl | rfl | rfl | rfl | rfl | rfl | rfl | rfl | rfl | rfl | rfl | rfl | rfl | rfl | rfl | rfl | rfl | rfl | rfl | rfl | rfl
  · exact fU0
  · exact fU1
  · exact fU2
  · exact fU3
  · exact fU4
  · exact fU5
  · exact fU6
  · exact fU7
  · exact fU8
  · exact fU9
  · exact fU10
  · exact fU11
  · exact fU12
  · exact fU13
  · exact fU14
  · exact fU15
  · exact fU16
  · exact fU17
  · exact fU18
  · exact fU19
  · exact fU20
  · exact fU21
  · exact fU22
  · exact fU23
  · exact fU24
  · exact fU25
  · exact fU26
  · exact fU27
  · exact fU28
  · exact fU29
  · exact fU30
  · exact fU31
  · exact fU32
  · exact fU33
  · exact fU34
  · exact fU35
  · exact fU36
  · exact fU37
  · exact fU38
  · exact fU39
  · exact fU40
  · exact fU41
  · exact fU42
  · exact fU43
  · exact fU44
  · exact fU45
  · exact fU46
  · exact fU47
  · exact fU48
  · exact fU49
  · exact fU50
  · exact fU51
  · exact fU52
  · exact fU53
  · exact fU54
  · exact fU55
theorem badF_no {call : CallT} {vs : List V} {h h' : H} {v : V} (hv : badF.run call vs h = .ok v h') : False := by
  simp only [badF] at hv; cases hv
theorem memos_one {g : Nat} {l : List Memo} {callM : CallT} (hfacts : ∀ mm ∈ l, memoFact callM 14 10000 g mm = true) (hcall : CallOK Tryz.prog callM) {f : FuncId} (e : f = g) {vs : List V} {us : List Value} {m : Mp} {h h' : H} {w : World} {v : V} {call : CallT} (hr : HR m h w) (hg : Gl Tryz.prog m) (hR : Rl m vs us) (hv : (memosG 10000 14 l badF).run call vs h = .ok v h') : HvOk Tryz.prog ((callFunc f ⟨us⟩).run Tryz.prog w) m h w v h' := by
  subst e
  simp only [memosG] at hv
  cases hn : Nat.ble 14 h.next.toNat with
  | false => rw [hn] at hv; exact absurd hv badF_no
  | true =>
    rw [hn] at hv
    simp only [cond_true, memosF] at hv
    split at hv
    · exact absurd hv badF_no
    · rename_i a o olds hin
      split at hv
      · exact absurd hv badF_no
      · rename_i mm hf
        obtain ⟨h1, rfl, rfl⟩ := findM_mem hf
        exact memo_sound (hfacts mm h1) hcall globals14 (by decide) hr hg hR (Nat.le_of_ble_eq_true hn) hin hv
theorem sp1_ok : SpecOK Tryz.prog sp1 := by
  intro f op hop call hcall vs us m h w v h' hr hg hR hv
  unfold sp1 at hop
  rcases bif_some hop with ⟨e, h1⟩ | ⟨_, hop⟩
  · obtain rfl := Option.some.inj h1; exact memos_one facts call0_ok (beqN e) hr hg hR hv
  · exact sp0_ok f op hop call hcall vs us m h w v h' hr hg hR hv
theorem call1_ok : CallOK Tryz.prog call1 := callE_sound progIsOk mixes sp1_ok 300
theorem one_mem {P : Memo → Prop} {x : Memo} (h : P x) : ∀ mm ∈ [x], P mm := fun mm hm => by obtain rfl := List.mem_singleton.1 hm; exact h
theorem two_mem {P : Memo → Prop} {x y : Memo} (h : P x) (h' : P y) : ∀ mm ∈ [x, y], P mm := fun mm hm => by
  rcases List.mem_cons.1 hm with rfl | hm
  · exact h
  · obtain rfl := List.mem_singleton.1 hm; exact h'
theorem spA_ok : SpecOK Tryz.prog spA := by
  intro f op hop call hcall vs us m h w v h' hr hg hR hv
  unfold spA at hop
  rcases bif_some hop with ⟨e, h1⟩ | ⟨_, hop⟩
  · obtain rfl := Option.some.inj h1; exact memos_one (one_mem (P := fun mm => memoFact call0 14 10000 28 mm = true) fOps) call0_ok (beqN e) hr hg hR hv
  · exact sp0_ok f op hop call hcall vs us m h w v h' hr hg hR hv
theorem callA_ok : CallOK Tryz.prog callA := callE_sound progIsOk mixes spA_ok 300
theorem sp3_ok : SpecOK Tryz.prog sp3 := by
  intro f op hop call hcall vs us m h w v h' hr hg hR hv
  unfold sp3 at hop
  rcases bif_some hop with ⟨e, h1⟩ | ⟨_, hop⟩
  · obtain rfl := Option.some.inj h1; exact memos_one (one_mem (P := fun mm => memoFact call1 14 10000 22 mm = true) fDef) call1_ok (beqN e) hr hg hR hv
  rcases bif_some hop with ⟨e, h1⟩ | ⟨_, hop⟩
  · obtain rfl := Option.some.inj h1; exact memos_one (one_mem (P := fun mm => memoFact callA 14 10000 21 mm = true) fRead) callA_ok (beqN e) hr hg hR hv
  rcases bif_some hop with ⟨e, h1⟩ | ⟨_, hop⟩
  · obtain rfl := Option.some.inj h1; exact memos_one (one_mem (P := fun mm => memoFact callA 14 10000 13 mm = true) fQuery) callA_ok (beqN e) hr hg hR hv
  rcases bif_some hop with ⟨e, h1⟩ | ⟨_, hop⟩
  · obtain rfl := Option.some.inj h1; exact memos_one (two_mem (P := fun mm => memoFact call0 14 10000 69 mm = true) fChk fChk0) call0_ok (beqN e) hr hg hR hv
  · exact sp0_ok f op hop call hcall vs us m h w v h' hr hg hR hv
theorem call3_ok : CallOK Tryz.prog (callE Tryz.prog sp3 5000 300) := callE_sound progIsOk mixes sp3_ok 300
end Go.Proofs.YtihaajnknnapmaaGreatDoor
end
section
open Go Go.Ev
namespace Go.Proofs.YtihaajnknnapmaaGreatDoor
/-- the reference's table of names lies in block 1: five texts -/
def NamesAt (w : World) : Prop := ∀ i, i < 5 → ∃ (l c : Nat) (s : ByteArray), plainEls[i]? = some [V.s l c] ∧ c < 256 ^ l ∧ w.cell? ⟨1, i, none⟩ = some (.string s) ∧ s.data.toList.map UInt8.toNat = bytesOf l c
def limOf (b : Nat) : Nat := if b = 1 then 5 else if b = 2 then 256 else 0
/-- the ghost map at the start: the variables' blocks -/
def m0 (n : Nat) : Mp := fun b => if b.toNat < n then some ⟨b.toNat, 0, limOf b.toNat⟩ else none
theorem blockAt {w : World} {B n : Nat} {Q : Nat → Value → Prop} (hn : 0 < n) (h : ∀ i, i < n → ∃ v, w.cell? ⟨B, i, none⟩ = some v ∧ Q i v) :
    ∃ C t fz, w.heap[B]? = some (.cells C t fz) ∧ n ≤ C.size ∧ ∀ i, i < n → ∃ v, C[i]? = some v ∧ Q i v := by
  obtain ⟨v0, h0, _⟩ := h 0 hn
  have key : ∃ C t fz, w.heap[B]? = some (.cells C t fz) := by
    unfold World.cell? at h0
    split at h0
    · rename_i c t fz hb; exact ⟨c, t, fz, hb⟩
    · cases h0
  obtain ⟨C, t, fz, hb⟩ := key
  have h2 : ∀ i, i < n → ∃ v, C[i]? = some v ∧ Q i v := by
    intro i hi
    obtain ⟨v, h1, h2⟩ := h i hi
    have : w.cell? ⟨B, i, none⟩ = C[i]? := cell_of (l := ⟨B, 0, 0⟩) hb i
    exact ⟨v, by rw [← this]; exact h1, h2⟩
  refine ⟨C, t, fz, hb, ?_, h2⟩
  obtain ⟨v, h1, _⟩ := h2 (n - 1) (by omega)
  have := (Array.getElem?_eq_some_iff.1 h1).1
  omega
theorem plain_len : plainEls.flatten.length = 5 := by kernel_rfl
theorem plain_each : (plainEls.all fun el => Nat.beq el.length 1) = true := by kernel_rfl
theorem each_of {els : List (List V)} (h : (els.all fun el => Nat.beq el.length 1) = true) : ∀ el ∈ els, el.length = 1 := fun el hel => Nat.eq_of_beq_eq_true (List.all_eq_true.1 h el hel)
theorem space_len : spaceEls.flatten.length = 256 := by kernel_rfl
theorem space_each : (spaceEls.all fun el => Nat.beq el.length 1) = true := by kernel_rfl
theorem flat_one : ∀ {els : List (List V)} (_ : ∀ el ∈ els, el.length = 1) {i : Nat} {x : V}, els[i]? = some [x] → els.flatten[i]? = some x
  | [], _, i, x, h => by simp at h
  | a :: l, ha, i, x, h => by
    have h1 := ha a (by simp)
    match a, h1 with
    | [y], _ =>
      cases i with
      | zero => simp at h; simp [h]
      | succ i =>
        simp at h
        have := flat_one (fun el hel => ha el (by simp [hel])) h
        simpa using this
theorem mem1 {b : Ev.Id} {ob : O} (h : mget b (H1 14).mem = some ob) : (b = idOf 1 ∧ ob = .cells 1 plainEls (idOf 1) .fz) ∨ (b = idOf 2 ∧ ob = .cells 1 spaceEls (idOf 2) .fz) := by
  have h' : mget b (mput (idOf 1) (some (.cells 1 plainEls (idOf 1) .fz)) (mput (idOf 2) (some (.cells 1 spaceEls (idOf 2) .fz)) Mem.new)) = some ob := h
  by_cases e : b = idOf 1
  · subst e; rw [mget_mput] at h'; exact .inl ⟨rfl, (Option.some.inj h').symm⟩
  · rw [mget_mput_ne e] at h'
    by_cases e3 : b = idOf 2
    · subst e3; rw [mget_mput] at h'; exact .inr ⟨rfl, (Option.some.inj h').symm⟩
    · rw [mget_mput_ne e3, mget_new] at h'; cases h'
theorem id1 : (idOf 1).toNat = 1 := idOf_toNat (by decide)
theorem id2 : (idOf 2).toNat = 2 := idOf_toNat (by decide)
theorem hr0 {n : Nat} {w : World} (hn : n ≤ 14) (h3 : 2 < n) (hw : n ≤ w.heap.size) (hN : NamesAt w) (hS : SpaceAt w) : HR (m0 n) (H1 14) w := by
  have hm : ∀ b l, m0 n b = some l → b.toNat < n ∧ l.blk = b.toNat := by
    intro b l h
    unfold m0 at h
    split at h
    · rename_i hlt; cases h; exact ⟨hlt, rfl⟩
    · cases h
  have m1 : m0 n (idOf 1) = some ⟨1, 0, 5⟩ := by
    unfold m0; rw [id1, if_pos (by omega)]; rfl
  have m2 : m0 n (idOf 2) = some ⟨2, 0, 256⟩ := by
    unfold m0; rw [id2, if_pos (by omega)]; rfl
  have ne12 : idOf 1 ≠ idOf 2 := fun e => by have := congrArg Ev.Id.toNat e; rw [id1, id2] at this; omega
  have nofam : ∀ f, fget f (H1 14).fams = [] := fun f => fget_new f
  refine ⟨?_, ?_, ?_, ?_, ?_, ?_, ?_, ?_⟩
  · intro b ob h
    rcases mem1 h with ⟨rfl, rfl⟩ | ⟨rfl, rfl⟩
    · refine ⟨_, m1, ?_⟩
      obtain ⟨C, t, fz, hb, hs, hC⟩ := blockAt (w := w) (B := 1) (n := 5) (Q := fun i v => ∃ l c s, plainEls[i]? = some [V.s l c] ∧ c < 256 ^ l ∧ v = .string s ∧ s.data.toList.map UInt8.toNat = bytesOf l c) (by decide) (fun i hi => by
        obtain ⟨l, c, s, h1, h2, h3, h4⟩ := hN i hi
        exact ⟨_, h3, l, c, s, h1, h2, rfl, h4⟩)
      refine ⟨C, t, fz, hb, by show 0 + 5 ≤ C.size; omega, by rw [plain_len]; exact Nat.le_refl _, each_of plain_each, ?_, fun h => (by cases h), fun h => (by cases h), fun ty e => (by cases e), Nat.zero_mod _⟩
      intro i v hv
      have hi : i < 5 := by have := (List.getElem?_eq_some_iff.1 hv).1; rw [plain_len] at this; exact this
      obtain ⟨u, hu, l, c, s, h1, h2, rfl, h4⟩ := hC i hi
      rw [flat_one (each_of plain_each) h1] at hv
      obtain rfl := Option.some.inj hv
      exact ⟨_, by show C[0 + i]? = _; rw [Nat.zero_add]; exact hu, by rw [R_str]; exact ⟨s, rfl, h4, h2⟩, by simp [scalar]⟩
    · refine ⟨_, m2, ?_⟩
      obtain ⟨C, t, fz, hb, hs, hC⟩ := blockAt (w := w) (B := 2) (n := 256) (Q := fun b v => v = .int .u8 (if spB b then 1 else 0)) (by decide) (fun i hi => ⟨_, hS i hi, rfl⟩)
      refine ⟨C, t, fz, hb, by show 0 + 256 ≤ C.size; omega, by rw [space_len]; exact Nat.le_refl _, each_of space_each, ?_, fun h => (by cases h), fun h => (by cases h), fun ty e => (by cases e), Nat.zero_mod _⟩
      intro i v hv
      have hi : i < 256 := by have := (List.getElem?_eq_some_iff.1 hv).1; rw [space_len] at this; exact this
      obtain ⟨u, hu, rfl⟩ := hC i hi
      have hf : spaceEls.flatten[i]? = some (V.i .u8 (bif spB i then .ofNat 1 else .ofNat 0)) := by
        rw [spaceEls_eq, spaceEls_flat (List.range 256) (fun b => V.i .u8 (bif spB b then .ofNat 1 else .ofNat 0)), List.getElem?_map, List.getElem?_range hi]; rfl
      rw [hf] at hv
      obtain rfl := Option.some.inj hv
      refine ⟨_, by show C[0 + i]? = _; rw [Nat.zero_add]; exact hu, ?_, by simp [scalar]⟩
      simp only [R]
      cases spB i <;> rfl
  · intro b l h
    obtain ⟨h1, _⟩ := hm b l h
    show b.toNat < (idOf 14).toNat
    rw [idOf_toNat (by decide)]; omega
  · intro b b' ob ob' l l' hb hb' hl hl' hne heq
    have e1 := (hm b l hl).2
    have e2 := (hm b' l' hl').2
    exact absurd (Ev.Id.toNat_inj (by rw [← e1, ← e2]; exact heq)) hne
  · intro b b' sz els f ro sz' els' ro' hb hb' hne
    rcases mem1 hb with ⟨rfl, e⟩ | ⟨rfl, e⟩ <;> rcases mem1 hb' with ⟨rfl, e'⟩ | ⟨rfl, e'⟩
    · exact absurd rfl hne
    · injection e with _ _ e1 _; injection e' with _ _ e2 _; exact absurd (e1.symm.trans e2) ne12
    · injection e with _ _ e1 _; injection e' with _ _ e2 _; exact absurd (e2.symm.trans e1) ne12
    · exact absurd rfl hne
  · intro f
    rw [nofam]; exact List.Pairwise.nil
  · intro b l h
    obtain ⟨h1, h2⟩ := hm b l h
    omega
  · intro b sz els f ro hb
    have h14 : (H1 14).next.toNat = 14 := idOf_toNat (by decide)
    rw [h14]
    rcases mem1 hb with ⟨rfl, e⟩ | ⟨rfl, e⟩
    · injection e with _ _ e1 _; rw [e1, id1]; decide
    · injection e with _ _ e1 _; rw [e1, id2]; decide
  · intro f x hx
    rw [nofam] at hx; cases hx
theorem gl0 : Gl Tryz.prog (m0 Tryz.prog.globals.size) := by
  intro g hg
  refine ⟨limOf g, ?_⟩
  have h14 := globals14
  unfold m0
  rw [idOf_toNat (by omega), if_pos hg]
theorem true_of {r : VH} (h : VH.isTrue r = true) : ∃ h', r = .ok (.b true) h' := by
  cases r with
  | bad => cases h
  | ok v h' =>
    cases v with
    | b x => cases x with
      | true => exact ⟨h', rfl⟩
      | false => cases h
    | _ => cases h
theorem e7 : ∀ args w, (callFunc 7 args).run Tryz.prog w = .ok (.enter 7 args) w := enters_of Tryz.func7 (by kernel_rfl) rfl
/-- THE CLOSED CHECK: divided() hands back true, in every world with the variables' blocks and the two tables; nothing that lay is turned. -/
theorem divided_calls (w : World) (hw : Tryz.prog.globals.size ≤ w.heap.size) (hN : NamesAt w) (hS : SpaceAt w) : Calls Tryz.prog 7 #[] w fun e w' => e = .returned (.bool true) ∧ RowKit.Below w.heap.size w w' := by
  obtain ⟨h', hrun⟩ := true_of run
  have hno : ∀ B, ¬ Wb (m0 Tryz.prog.globals.size) (H1 14) B := by
    rintro B ⟨b, ob, l, h, _, _, hwr⟩
    rcases mem1 h with ⟨_, rfl⟩ | ⟨_, rfl⟩ <;> exact hwr rfl
  rcases call3_ok 7 [] [] (m0 Tryz.prog.globals.size) (H1 14) w (.b true) h' (hr0 globals14 globals2 hw hN hS) gl0 (by simp [Rl]) hrun with ⟨u, w', m', h1, _⟩ | ⟨f, us, h1, h2⟩
  · rw [e7] at h1
    rcases h1 with h1 | ⟨h1, _⟩ <;> cases h1
  · rw [e7] at h1
    cases h1
    refine h2.mono ?_
    rintro e w' ⟨u, m', rfl, hF, hR⟩
    rw [R_b hR]
    exact ⟨rfl, hF.os, hF.tape, hF.output, hF.size, fun k hk => hF.keep k hk (hno k)⟩
end Go.Proofs.YtihaajnknnapmaaGreatDoor
end
section
namespace Go.Proofs.YtihaajnknnapmaaGreatDoor
open Go.Ev
/-! what the laid variables hold -/
theorem laid_mem {P : Program} {W : World} : ∀ {laid : List (String × DataW Unit)} {ps : List MemPlace}, DataW.LaidVars P W laid ps → ∀ n d, (n, d) ∈ laid →
    ∃ g t cs fuel p, P.globalNamed n = some g ∧ (P.globals[g]?).map (·.type) = some t ∧ W.var? P n = some cs ∧ DataW.trod (fun _ => ()) P W 0 (fun _ => true) false fuel t cs.toList = some (d, p)
  | [], _, _, n, d, h => by simp at h
  | (n0, d0) :: r, ps, hl, n, d, h => by
    obtain ⟨g, t, cs, fuel, p, q, h1, h2, h3, h4, h5, _⟩ := hl
    rcases List.mem_cons.1 h with e | h
    · cases e; exact ⟨g, t, cs, fuel, p, h1, h2, h3, h4⟩
    · exact laid_mem h5 n d h
/-- an array of texts, read -/
theorem cells_of_strs {H : Type} {enc : TypeId × Value → H} {P : Program} {w : World} {base : Nat} {sp : Nat → Bool} {held : Bool} {fuel : Nat} {t e : TypeId} {n : Nat} {cs : List Value} {ss : List (List UInt8)} {p : List MemPlace}
    (ht : P.underlying t = some (.array n e)) (he : P.underlying e = some .string) (hce : P.cellsOf e = 1) (hct : P.cellsOf t = n)
    (h : DataW.trod enc P w base sp held fuel t cs = some (.agg (ss.map fun s => .lit (Lit.string s)), p)) : ∀ (i : Nat) (s : List UInt8), ss[i]? = some s → ∃ b : ByteArray, cs[i]? = some (Value.string b) ∧ b.data.toList = s := by
  cases fuel with
  | zero => simp [DataW.trod] at h
  | succ fuel =>
    simp only [DataW.trod, ht, hce, hct, Nat.mul_one] at h
    split at h
    · rename_i hl
      obtain ⟨xs, hm, hx⟩ := Option.map_eq_some_iff.1 h
      have hxs : xs.map (·.1) = ss.map fun s => (DataW.lit (Lit.string s) : DataW H) := by
        have := congrArg Prod.fst hx
        simpa using this
      have hxl : xs.length = n := by simpa using Lib.mapM_length hm
      have hzl : ss.length = n := by
        have := congrArg List.length hxs
        simp at this
        omega
      intro i s hs
      have hi : i < n := by have := (List.getElem?_eq_some_iff.1 hs).1; omega
      obtain ⟨b, hb, hf⟩ := Lib.mapM_at hm i i (by simp [hi])
      obtain ⟨z, hc, rfl, _⟩ := DataW.trod_string he hf
      have h1 : cs[i]? = some (.string z) := by
        have := congrArg (·[0]?) hc
        simpa [List.getElem?_take, List.getElem?_drop] using this
      have h2 : (xs.map (·.1))[i]? = some (DataW.lit (.string z.data.toList) : DataW H) := by simp [hb]
      rw [hxs] at h2
      simp only [List.getElem?_map, hs, Option.map_some, Option.some.injEq, DataW.lit.injEq, Lit.string.injEq] at h2
      exact ⟨z, h1, h2.symm⟩
    · cases h
def chkOne : List V → List UInt8 → Bool
  | [V.s l c], s => Nat.blt c (256 ^ l) && (s.map UInt8.toNat == bytesOf l c)
  | _, _ => false
def chkNames : List (List V) → List (List UInt8) → Bool
  | [], [] => true
  | a :: els, s :: ss => chkOne a s && chkNames els ss
  | _, _ => false
theorem chk_one {a : List V} {s : List UInt8} (h : chkOne a s = true) : ∃ l c, a = [V.s l c] ∧ c < 256 ^ l ∧ s.map UInt8.toNat = bytesOf l c := by
  unfold chkOne at h
  split at h
  · rename_i l c
    rw [Bool.and_eq_true, beq_iff_eq] at h
    exact ⟨l, c, rfl, Nat.le_of_ble_eq_true h.1, h.2⟩
  · cases h
theorem chk_at : ∀ {els : List (List V)} {ss : List (List UInt8)}, chkNames els ss = true → ∀ i, i < ss.length → ∃ l c s, els[i]? = some [V.s l c] ∧ c < 256 ^ l ∧ ss[i]? = some s ∧ s.map UInt8.toNat = bytesOf l c
  | els, [], _, i, hi => absurd hi (Nat.not_lt_zero i)
  | [], s :: ss, h, i, hi => by cases h
  | a :: els, s :: ss, h, i, hi => by
    rw [chkNames, Bool.and_eq_true] at h
    cases i with
    | zero =>
      obtain ⟨l, c, h1, h2, h3⟩ := chk_one h.1
      exact ⟨l, c, s, by rw [h1]; rfl, h2, rfl, h3⟩
    | succ i =>
      obtain ⟨l, c, s', h1, h2, h3, h4⟩ := chk_at h.2 i (by simpa using hi)
      exact ⟨l, c, s', by simpa using h1, h2, by simpa using h3, h4⟩
theorem names_of {W : World} {laid : List (String × DataW Unit)} {n : String} {d : DataW Unit} {t e : TypeId} {ss : List (List UInt8)} (h : laidMet Tryz.prog laid W) (hm : (n, d) ∈ laid)
    (hg : Tryz.prog.globalNamed n = some 1) (hty : (Tryz.prog.globals[1]?).map (·.type) = some t) (ht : Tryz.prog.underlying t = some (.array 5 e)) (he : Tryz.prog.underlying e = some .string) (hce : Tryz.prog.cellsOf e = 1) (hct : Tryz.prog.cellsOf t = 5)
    (hd : d = .agg (ss.map fun s => .lit (Lit.string s))) (hl : ss.length = 5) (hc : chkNames plainEls ss = true) : NamesAt W := by
  obtain ⟨ps, hv, _⟩ := h
  obtain ⟨g', t', cs, fuel, p, hg', ht', hvar, htr⟩ := laid_mem hv n d hm
  obtain rfl := Option.some.inj (hg.symm.trans hg')
  obtain rfl := Option.some.inj (hty.symm.trans ht')
  subst hd
  have hs := cells_of_strs ht he hce hct htr
  intro i hi
  obtain ⟨l, c, s, h1, h2, h3, h4⟩ := chk_at hc i (by omega)
  obtain ⟨b, h5, rfl⟩ := hs i s h3
  refine ⟨l, c, b, h1, h2, ?_, h4⟩
  rw [World.var?_cell hg hvar i]
  simpa using h5
theorem space_at {W : World} {laid : List (String × DataW Unit)} {n : String} {d : DataW Unit} {t e : TypeId} (h : laidMet Tryz.prog laid W) (hm : (n, d) ∈ laid)
    (hg : Tryz.prog.globalNamed n = some 2) (hty : (Tryz.prog.globals[2]?).map (·.type) = some t) (ht : Tryz.prog.underlying t = some (.array 256 e)) (he : Tryz.prog.underlying e = some (.int .u8)) (hce : Tryz.prog.cellsOf e = 1) (hct : Tryz.prog.cellsOf t = 256)
    (hd : d = Lib.tabData .u8 ((List.range 256).map fun b => if spB b then 1 else 0)) : SpaceAt W := by
  obtain ⟨ps, hv, _⟩ := h
  obtain ⟨g', t', cs, fuel, p, hg', ht', hvar, htr⟩ := laid_mem hv n d hm
  obtain rfl := Option.some.inj (hg.symm.trans hg')
  obtain rfl := Option.some.inj (hty.symm.trans ht')
  subst hd
  have hs := Lib.cells_of_tab ht he hce hct htr
  intro b hb
  rw [World.var?_cell hg hvar b]
  have : cs.toList[b]? = some (.int .u8 (if spB b then 1 else 0)) := by
    rw [hs, List.getElem?_map, List.getElem?_map, List.getElem?_range hb]
    rfl
  simpa using this
end Go.Proofs.YtihaajnknnapmaaGreatDoor
end
