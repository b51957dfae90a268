/-
  A part of the proof of the card of WorkGeneralizationIsLeast (second form): lemmas that the text Card uses. No condition of its own.
-/
import Derived.Test.YtaloeffmigffaaaGreatDoorEv00
import Derived.Calls
import Derived.Orders
import Derived.LoopN
import Derived.Below
import Derived.Laws.Tables
import Derived.Laws.Cells
import Derived.Laws.Unary
import Derived.Laws.Strings
import Derived.Laws.Strings2
import Derived.Laws.Concat
set_option linter.all false
set_option linter.unusedVariables false
set_option linter.unusedSimpArgs false
section
namespace Go.Ev
open Go
instance:DecidableEq D8:=fun a b=>by
  cases a <;> cases b <;> first | exact .isTrue rfl | exact .isFalse (fun h=>by cases h)
theorem smE1 (d:D8) (k) (n):selE1 d (modE1 d k n) = k (selE1 d n):=by cases d <;> cases n <;> rfl
theorem snE1 {d d':D8} (h:d ≠ d') (k) (n):selE1 d (modE1 d' k n) = selE1 d n:=by cases d <;> cases d' <;> cases n <;> first | rfl | exact absurd rfl h
theorem smE2 (d:D8) (k) (n):selE2 d (modE2 d k n) = k (selE2 d n):=by cases d <;> cases n <;> rfl
theorem snE2 {d d':D8} (h:d ≠ d') (k) (n):selE2 d (modE2 d' k n) = selE2 d n:=by cases d <;> cases d' <;> cases n <;> first | rfl | exact absurd rfl h
theorem smE3 (d:D8) (k) (n):selE3 d (modE3 d k n) = k (selE3 d n):=by cases d <;> cases n <;> rfl
theorem snE3 {d d':D8} (h:d ≠ d') (k) (n):selE3 d (modE3 d' k n) = selE3 d n:=by cases d <;> cases d' <;> cases n <;> first | rfl | exact absurd rfl h
theorem smM1 (d:D8) (k) (n):selM1 d (modM1 d k n) = k (selM1 d n):=by cases d <;> cases n <;> rfl
theorem snM1 {d d':D8} (h:d ≠ d') (k) (n):selM1 d (modM1 d' k n) = selM1 d n:=by cases d <;> cases d' <;> cases n <;> first | rfl | exact absurd rfl h
theorem smM2 (d:D8) (k) (n):selM2 d (modM2 d k n) = k (selM2 d n):=by cases d <;> cases n <;> rfl
theorem snM2 {d d':D8} (h:d ≠ d') (k) (n):selM2 d (modM2 d' k n) = selM2 d n:=by cases d <;> cases d' <;> cases n <;> first | rfl | exact absurd rfl h
theorem smM3 (d:D8) (k) (n):selM3 d (modM3 d k n) = k (selM3 d n):=by cases d <;> cases n <;> rfl
theorem snM3 {d d':D8} (h:d ≠ d') (k) (n):selM3 d (modM3 d' k n) = selM3 d n:=by cases d <;> cases d' <;> cases n <;> first | rfl | exact absurd rfl h
theorem smM4 (d:D8) (k) (n):selM4 d (modM4 d k n) = k (selM4 d n):=by cases d <;> cases n <;> rfl
theorem snM4 {d d':D8} (h:d ≠ d') (k) (n):selM4 d (modM4 d' k n) = selM4 d n:=by cases d <;> cases d' <;> cases n <;> first | rfl | exact absurd rfl h
theorem smM5 (d:D8) (k) (n):selM5 d (modM5 d k n) = k (selM5 d n):=by cases d <;> cases n <;> rfl
theorem snM5 {d d':D8} (h:d ≠ d') (k) (n):selM5 d (modM5 d' k n) = selM5 d n:=by cases d <;> cases d' <;> cases n <;> first | rfl | exact absurd rfl h
theorem smF1 (d:D8) (k) (n):selF1 d (modF1 d k n) = k (selF1 d n):=by cases d <;> cases n <;> rfl
theorem snF1 {d d':D8} (h:d ≠ d') (k) (n):selF1 d (modF1 d' k n) = selF1 d n:=by cases d <;> cases d' <;> cases n <;> first | rfl | exact absurd rfl h
theorem smF2 (d:D8) (k) (n):selF2 d (modF2 d k n) = k (selF2 d n):=by cases d <;> cases n <;> rfl
theorem snF2 {d d':D8} (h:d ≠ d') (k) (n):selF2 d (modF2 d' k n) = selF2 d n:=by cases d <;> cases d' <;> cases n <;> first | rfl | exact absurd rfl h
theorem smF3 (d:D8) (k) (n):selF3 d (modF3 d k n) = k (selF3 d n):=by cases d <;> cases n <;> rfl
theorem snF3 {d d':D8} (h:d ≠ d') (k) (n):selF3 d (modF3 d' k n) = selF3 d n:=by cases d <;> cases d' <;> cases n <;> first | rfl | exact absurd rfl h
theorem smF4 (d:D8) (k) (n):selF4 d (modF4 d k n) = k (selF4 d n):=by cases d <;> cases n <;> rfl
theorem snF4 {d d':D8} (h:d ≠ d') (k) (n):selF4 d (modF4 d' k n) = selF4 d n:=by cases d <;> cases d' <;> cases n <;> first | rfl | exact absurd rfl h
theorem smF5 (d:D8) (k) (n):selF5 d (modF5 d k n) = k (selF5 d n):=by cases d <;> cases n <;> rfl
theorem snF5 {d d':D8} (h:d ≠ d') (k) (n):selF5 d (modF5 d' k n) = selF5 d n:=by cases d <;> cases d' <;> cases n <;> first | rfl | exact absurd rfl h
theorem dg_inj:∀ x,x < 8 → ∀ y,y < 8 → dg x = dg y → x = y:=by decide
theorem eget_eset (t:Nat) (v:V) (e:Env):eget t (eset t v e) = v:=by
  simp [eget,eset,smE3,smE2,smE1]
theorem eget_eset_ne {t t':Nat} (ht:t < 512) (ht':t' < 512) (h:t ≠ t') (v:V) (e:Env):eget t (eset t' v e) = eget t e:=by
  unfold eget eset
  by_cases h1:dg (t / 64) = dg (t' / 64)
  · rw [h1,smE3]
    by_cases h2:dg (t / 8 % 8) = dg (t' / 8 % 8)
    · rw [h2,smE2]
      have h3:dg (t % 8) ≠ dg (t' % 8):=fun h3=>h (by
        have a:=dg_inj _ (by omega) _ (by omega) h1
        have b:=dg_inj _ (by omega) _ (by omega) h2
        have c:=dg_inj _ (by omega) _ (by omega) h3
        omega)
      rw [snE1 h3]
    · rw [snE2 h2]
  · rw [snE3 h1]
theorem mget_mput (i:Id) (x:Option O) (m:Mem):mget i (mput i x m) = x:=by
  cases i;simp [mget,mput,smM5,smM4,smM3,smM2,smM1]
theorem mget_mput_ne {i j:Id} (h:i ≠ j) (x:Option O) (m:Mem):mget i (mput j x m) = mget i m:=by
  obtain ⟨a,b,c,d,e⟩:=i
  obtain ⟨a',b',c',d',e'⟩:=j
  simp only [mget,mput]
  by_cases ha:a = a'
  · subst ha;rw [smM5]
    by_cases hb:b = b'
    · subst hb;rw [smM4]
      by_cases hc:c = c'
      · subst hc;rw [smM3]
        by_cases hd:d = d'
        · subst hd;rw [smM2]
          by_cases he:e = e'
          · subst he;exact absurd rfl h
          · rw [snM1 he]
        · rw [snM2 hd]
      · rw [snM3 hc]
    · rw [snM4 hb]
  · rw [snM5 ha]
theorem fget_fput (i:Id) (x:List Id) (m:Fam):fget i (fput i x m) = x:=by
  cases i;simp [fget,fput,smF5,smF4,smF3,smF2,smF1]
theorem fget_fput_ne {i j:Id} (h:i ≠ j) (x:List Id) (m:Fam):fget i (fput j x m) = fget i m:=by
  obtain ⟨a,b,c,d,e⟩:=i
  obtain ⟨a',b',c',d',e'⟩:=j
  simp only [fget,fput]
  by_cases ha:a = a'
  · subst ha;rw [smF5]
    by_cases hb:b = b'
    · subst hb;rw [smF4]
      by_cases hc:c = c'
      · subst hc;rw [smF3]
        by_cases hd:d = d'
        · subst hd;rw [smF2]
          by_cases he:e = e'
          · subst he;exact absurd rfl h
          · rw [snF1 he]
        · rw [snF2 hd]
      · rw [snF3 hc]
    · rw [snF4 hb]
  · rw [snF5 ha]
theorem D8.toNat_lt (d:D8):d.toNat < 8:=by cases d <;> decide
theorem D8.toNat_inj {a b:D8} (h:a.toNat = b.toNat):a = b:=by cases a <;> cases b <;> first | rfl | (simp [D8.toNat] at h)
theorem D8.beq_iff {a b:D8}:D8.beq a b = true ↔ a = b:=by
  constructor
  · intro h;exact D8.toNat_inj (Nat.eq_of_beq_eq_true h)
  · rintro rfl;exact Nat.beq_refl _
theorem Id.beq_iff {i j:Id}:Id.beq i j = true ↔ i = j:=by
  obtain ⟨a,b,c,d,e⟩:=i
  obtain ⟨a',b',c',d',e'⟩:=j
  simp only [Id.beq,Bool.and_eq_true,D8.beq_iff,Id.mk.injEq]
  constructor
  · rintro ⟨h1,h2,h3,h4,h5⟩;exact ⟨h5,h4,h3,h2,h1⟩
  · rintro ⟨h1,h2,h3,h4,h5⟩;exact ⟨h5,h4,h3,h2,h1⟩
theorem D8.nextd_false {d d':D8} (h:d.nextd = (false,d')):d'.toNat = d.toNat + 1:=by cases d <;> simp [D8.nextd] at h <;> subst h <;> rfl
theorem D8.nextd_true {d d':D8} (h:d.nextd = (true,d')):d.toNat = 7 ∧ d'.toNat = 0:=by cases d <;> simp [D8.nextd] at h;subst h;exact ⟨rfl,rfl⟩
theorem Id.succ_toNat {i j:Id} (h:i.succ = some j):j.toNat = i.toNat + 1:=by
  obtain ⟨a,b,c,d,e⟩:=i
  simp only [Id.succ] at h
  repeat' split at h
  all_goals first
    | (cases h;done)
    | skip
  all_goals
    obtain rfl:=Option.some.inj h
    simp only [Id.toNat]
  · have:=D8.nextd_false (by assumption);omega
  · have h1:=D8.nextd_true (d:=e) (by assumption);have:=D8.nextd_false (d:=d) (by assumption);omega
  · have h1:=D8.nextd_true (d:=e) (by assumption);have h2:=D8.nextd_true (d:=d) (by assumption);have:=D8.nextd_false (d:=c) (by assumption);omega
  · have h1:=D8.nextd_true (d:=e) (by assumption);have h2:=D8.nextd_true (d:=d) (by assumption);have h3:=D8.nextd_true (d:=c) (by assumption);have:=D8.nextd_false (d:=b) (by assumption);omega
  · have h1:=D8.nextd_true (d:=e) (by assumption);have h2:=D8.nextd_true (d:=d) (by assumption);have h3:=D8.nextd_true (d:=c) (by assumption);have h4:=D8.nextd_true (d:=b) (by assumption);have:=D8.nextd_false (d:=a) (by assumption);omega
end Go.Ev
end
section
namespace Go.Ev
open Go
structure Loc where
  blk:Nat
  base:Nat
  lim:Nat
abbrev Mp:=Id → Option Loc
def Mp.le (m m':Mp):Prop:=∀ i l,m i = some l → m' i = some l
theorem Mp.le_refl (m:Mp):m.le m:=fun _ _ h=>h
theorem Mp.le_trans {a b c:Mp} (h:a.le b) (k:b.le c):a.le c:=fun i l x=>k i l (h i l x)
def scalar:Value → Prop
  | .agg _=>False
  | .tuple _=>False
  | _=>True
mutual
def R (m:Mp):V → Value → Prop
  | .top,_=>True
  | .b x,u=>u = .bool x
  | .i k n,u=>u = .int k n
  | .s len code,u=>∃ s:ByteArray,u = .string s ∧ s.data.toList.map UInt8.toNat = bytesOf len code ∧ code < 256 ^ len
  | .pn,u=>u = .pointer none
  | .p b o,u=>∃ l,m b = some l ∧ u = .pointer (some ⟨l.blk,l.base + o,none⟩)
  | .sn,u=>u = .slice none 0 0
  | .sl b o len sz,u=>∃ l cap,m b = some l ∧ u = .slice (some ⟨l.blk,l.base + o,none⟩) len cap ∧ len ≤ cap ∧ o + cap * sz ≤ l.lim
  | .se,u=>∃ a cap,u = .slice (some a) 0 cap
  | .mn,u=>u = .map none
  | .mp b,u=>∃ l,m b = some l ∧ u = .map (some l.blk)
  | .fn f a c,u=>∃ a' c',u = .func f ⟨a'⟩ ⟨c'⟩ ∧ Rl m a a' ∧ Rl m c c'
  | .nf,u=>u = .nilFunc
  | .ifc t v,u=>∃ v',u = .iface t v' ∧ R m v v'
  | .ni,u=>u = .nilIface
  | .agg l,u=>∃ l',u = .agg ⟨l'⟩ ∧ Rl m l l' ∧ ∀ x ∈ l',scalar x
  | .tup l,u=>∃ l',u = .tuple ⟨l'⟩ ∧ Rl m l l'
def Rl (m:Mp):List V → List Value → Prop
  | [],l=>l = []
  | v :: vs,l=>∃ u us,l = u :: us ∧ R m v u ∧ Rl m vs us
end
mutual
theorem R.mono {m m':Mp} (h:m.le m'):∀ {v:V} {u:Value},R m v u → R m' v u
  | .top,_,_=>by simp [R]
  | .b x,_,k=>by simpa [R] using k
  | .i _ _,_,k=>by simpa [R] using k
  | .s _ _,_,k=>by simpa [R] using k
  | .pn,_,k=>by simpa [R] using k
  | .p b o,_,k=>by
    simp only [R] at k ⊢;obtain ⟨l,hl,hu⟩:=k;exact ⟨l,h _ _ hl,hu⟩
  | .sn,_,k=>by simpa [R] using k
  | .sl b o len sz,_,k=>by
    simp only [R] at k ⊢;obtain ⟨l,cap,hl,hu⟩:=k;exact ⟨l,cap,h _ _ hl,hu⟩
  | .se,_,k=>by simpa [R] using k
  | .mn,_,k=>by simpa [R] using k
  | .mp b,_,k=>by
    simp only [R] at k ⊢;obtain ⟨l,hl,hu⟩:=k;exact ⟨l,h _ _ hl,hu⟩
  | .fn f a c,_,k=>by
    simp only [R] at k ⊢;obtain ⟨a',c',hu,ha,hc⟩:=k;exact ⟨a',c',hu,Rl.mono h ha,Rl.mono h hc⟩
  | .nf,_,k=>by simpa [R] using k
  | .ifc t v,_,k=>by
    simp only [R] at k ⊢;obtain ⟨v',hu,hv⟩:=k;exact ⟨v',hu,R.mono h hv⟩
  | .ni,_,k=>by simpa [R] using k
  | .agg l,_,k=>by
    simp only [R] at k ⊢;obtain ⟨l',hu,hl,hs⟩:=k;exact ⟨l',hu,Rl.mono h hl,hs⟩
  | .tup l,_,k=>by
    simp only [R] at k ⊢;obtain ⟨l',hu,hl⟩:=k;exact ⟨l',hu,Rl.mono h hl⟩
theorem Rl.mono {m m':Mp} (h:m.le m'):∀ {l:List V} {us:List Value},Rl m l us → Rl m' l us
  | [],_,k=>by simpa [Rl] using k
  | v :: l,_,k=>by
    simp only [Rl] at k ⊢;obtain ⟨u,us,rfl,hv,hl⟩:=k;exact ⟨u,us,rfl,R.mono h hv,Rl.mono h hl⟩
end
theorem Rl.length {m:Mp}:∀ {l:List V} {us:List Value},Rl m l us → us.length = l.length
  | [],_,k=>by simp only [Rl] at k;subst k;rfl
  | v :: l,_,k=>by simp only [Rl] at k;obtain ⟨u,us,rfl,_,hl⟩:=k;simp [Rl.length hl]
theorem Rl.get {m:Mp}:∀ {l:List V} {us:List Value},Rl m l us → ∀ {i:Nat} {v:V},l[i]? = some v → ∃ u,us[i]? = some u ∧ R m v u
  | [],_,_,i,v,h=>by simp at h
  | w :: l,_,k,i,v,h=>by
    simp only [Rl] at k;obtain ⟨u,us,rfl,hv,hl⟩:=k
    cases i with
    | zero=>simp at h;subst h;exact ⟨u,rfl,hv⟩
    | succ i=>simp at h ⊢;exact Rl.get hl h
theorem Rl.mk {m:Mp}:∀ {l:List V} {us:List Value},us.length = l.length → (∀ (i:Nat) v u,l[i]? = some v → us[i]? = some u → R m v u) → Rl m l us
  | [],us,hl,_=>by simp only [Rl];exact List.eq_nil_of_length_eq_zero (by simpa using hl)
  | v :: l,[],hl,_=>by simp at hl
  | v :: l,u :: us,hl,h=>by
    simp only [Rl];exact ⟨u,us,rfl,h 0 v u rfl rfl,Rl.mk (by simpa using hl) (fun i v u a b=>h (i + 1) v u (by simpa using a) (by simpa using b))⟩
theorem Rl.append {m:Mp}:∀ {l l':List V} {us us':List Value},Rl m l us → Rl m l' us' → Rl m (l ++ l') (us ++ us')
  | [],_,_,_,k,k'=>by simp only [Rl] at k;subst k;simpa using k'
  | v :: l,_,_,_,k,k'=>by
    simp only [Rl] at k;obtain ⟨u,us,rfl,hv,hl⟩:=k
    simp only [List.cons_append,Rl];exact ⟨u,_,rfl,hv,Rl.append hl k'⟩
theorem Rl.take {m:Mp} {l:List V} {us:List Value} (h:Rl m l us) (n:Nat):Rl m (l.take n) (us.take n):=
  Rl.mk (by simp [h.length]) (fun i v u a b=>by
    rw [List.getElem?_take] at a b
    split at a
    · rename_i hlt;rw [if_pos hlt] at b
      obtain ⟨u',hu',hr⟩:=h.get a
      rw [hu'] at b;cases b;exact hr
    · cases a)
theorem Rl.drop {m:Mp} {l:List V} {us:List Value} (h:Rl m l us) (n:Nat):Rl m (l.drop n) (us.drop n):=
  Rl.mk (by simp [h.length]) (fun i v u a b=>by
    rw [List.getElem?_drop] at a b
    obtain ⟨u',hu',hr⟩:=h.get a
    rw [hu'] at b;cases b;exact hr)
theorem cellsQ_spec {m:Mp} {v:V} {u:Value} {l:List V} (h:R m v u) (hc:cellsQ v = some l) :
    ∃ l',u.cells = ⟨l'⟩ ∧ Rl m l l' ∧ ∀ x ∈ l',scalar x:=by
  cases v <;> simp only [cellsQ,Option.some.injEq,reduceCtorEq] at hc
  case agg l0=>
    subst hc;simp only [R] at h;obtain ⟨l',rfl,hl,hs⟩:=h;exact ⟨l',rfl,hl,hs⟩
  all_goals
    subst hc
    have hsc:scalar u:=by
      simp only [R] at h
      first
        | (subst h;trivial)
        | (obtain ⟨_,rfl,_⟩:=h;trivial)
        | (obtain ⟨_,_,rfl⟩:=h;trivial)
        | (obtain ⟨_,_,_,rfl,_⟩:=h;trivial)
        | (obtain ⟨_,_,rfl,_⟩:=h;trivial)
    have hu:u.cells = ⟨[u]⟩:=by cases u <;> first | rfl | exact hsc.elim
    exact ⟨[u],hu,by simp only [Rl];exact ⟨u,[],rfl,h,rfl⟩,by simpa using hsc⟩
end Go.Ev
end
section
namespace Go.Ev
open Go
instance:DecidableEq Id:=fun i j=>if h:Id.beq i j = true then .isTrue (Id.beq_iff.1 h) else .isFalse (fun e=>h (Id.beq_iff.2 e))
def bytesIn (s:ByteArray):List Nat:=s.data.toList.map UInt8.toNat
def EntR (m:Mp) (e:Ent) (x:MapEntry):Prop:=R m e.key x.key ∧ R m e.val x.val ∧ x.born = e.born
def EntsR (m:Mp):List Ent → List MapEntry → Prop
  | [],l=>l = []
  | e :: es,l=>∃ x xs,l = x :: xs ∧ EntR m e x ∧ EntsR m es xs
theorem EntR.mono {m m':Mp} (h:m.le m') {e:Ent} {x:MapEntry} (k:EntR m e x):EntR m' e x:=⟨k.1.mono h,k.2.1.mono h,k.2.2⟩
theorem EntsR.mono {m m':Mp} (h:m.le m'):∀ {es:List Ent} {xs:List MapEntry},EntsR m es xs → EntsR m' es xs
  | [],_,k=>k
  | e :: es,_,k=>by obtain ⟨x,xs,rfl,hx,hxs⟩:=k;exact ⟨x,xs,rfl,hx.mono h,EntsR.mono h hxs⟩
structure CellsAt (m:Mp) (w:World) (l:Loc) (sz:Nat) (els:List (List V)) (ro:Rw) (C:Array Value) (t:TypeId) (fz:Nat × Nat):Prop where
  at_:w.heap[l.blk]? = some (.cells C t fz)
  room:l.base + l.lim ≤ C.size
  len:els.flatten.length ≤ l.lim
  each:∀ el ∈ els,el.length = sz
  val:∀ (i:Nat) v,els.flatten[i]? = some v → ∃ u,C[l.base + i]? = some u ∧ R m v u ∧ scalar u
  free:ro.isW = true → ∀ i,i < l.lim → ¬ (fz.1 ≤ l.base + i ∧ l.base + i < fz.2)
  plain:ro.isW = true → sz ≠ 1 → fz.1 = fz.2
  typ:∀ ty,ro.tyOf = some ty → t = ty
  al:l.base % sz = 0
def ObjAt (m:Mp) (w:World) (l:Loc):O → Prop
  | .cells sz els _ ro=>∃ C t fz,CellsAt m w l sz els ro C t fz
  | .map es clock=>∃ es',w.heap[l.blk]? = some (.map ⟨es'⟩ clock) ∧ EntsR m es es'
  | .siter len code pos=>l.base = 0 ∧ ∃ s,w.heap[l.blk]? = some (.stringIter s pos) ∧ bytesIn s = bytesOf len code ∧ code < 256 ^ len
  | .miter mi since seen last=>l.base = 0 ∧ ∃ lm,m mi = some lm ∧ w.heap[l.blk]? = some (.mapIter (some lm.blk) since ⟨seen⟩ last)
def writable:O → Prop
  | .cells _ _ _ ro=>ro ≠ .fz
  | _=>True
def sameFam:O → O → Prop
  | .cells _ _ f _,.cells _ _ f' _=>f = f'
  | _,_=>False
def EndLe (m:Mp) (mem:Mem) (x y:Id):Prop:=
  ∀ sz els f ro sz' els' f' ro' l l',mget x mem = some (.cells sz els f ro) → mget y mem = some (.cells sz' els' f' ro') → m x = some l → m y = some l' →
    l.blk = l'.blk → l'.base + els'.flatten.length ≤ l.base + els.flatten.length
structure HR (m:Mp) (h:H) (w:World):Prop where
  obj:∀ b ob,mget b h.mem = some ob → ∃ l,m b = some l ∧ ObjAt m w l ob
  dom:∀ b l,m b = some l → b.toNat < h.next.toNat
  sep:∀ b b' ob ob' l l',mget b h.mem = some ob → mget b' h.mem = some ob' → m b = some l → m b' = some l' → b ≠ b' → l.blk = l'.blk → sameFam ob ob'
  fam:∀ b b' sz els f ro sz' els' ro',mget b h.mem = some (.cells sz els f ro) → mget b' h.mem = some (.cells sz' els' f ro') → b ≠ b' → b ∈ fget f h.fams
  ord:∀ f,(fget f h.fams).Pairwise (EndLe m h.mem)
  lt:∀ b l,m b = some l → l.blk < w.heap.size
  famlt:∀ b sz els f ro,mget b h.mem = some (.cells sz els f ro) → f.toNat < h.next.toNat
  flt:∀ f x,x ∈ fget f h.fams → x.toNat < h.next.toNat
def Wb (m:Mp) (h:H) (B:Nat):Prop:=∃ b ob l,mget b h.mem = some ob ∧ m b = some l ∧ l.blk = B ∧ writable ob
structure Fr (m:Mp) (h:H) (w:World) (m':Mp) (h':H) (w':World):Prop where
  le:m.le m'
  hr:HR m' h' w'
  size:w.heap.size ≤ w'.heap.size
  keep:∀ B,B < w.heap.size → ¬ Wb m h B → w'.heap[B]? = w.heap[B]?
  os:w'.os = w.os
  tape:w'.tape = w.tape
  output:w'.output = w.output
  back:∀ b ob l,mget b h'.mem = some ob → m' b = some l →
    w.heap.size ≤ l.blk ∨ ∃ b0 ob0 l0,mget b0 h.mem = some ob0 ∧ m b0 = some l0 ∧ l0.blk = l.blk ∧ (writable ob → writable ob0)
  old:∀ b l,m' b = some l → b.toNat < h.next.toNat → m b = some l
  nxt:h.next.toNat ≤ h'.next.toNat
  famold:∀ b sz els f ro,mget b h'.mem = some (.cells sz els f ro) → h.next.toNat ≤ f.toNat ∨ ∃ b0 sz0 els0 ro0,mget b0 h.mem = some (.cells sz0 els0 f ro0)
theorem Fr.refl {m:Mp} {h:H} {w:World} (k:HR m h w):Fr m h w m h w:=
  ⟨m.le_refl,k,Nat.le_refl _,fun _ _ _=>rfl,rfl,rfl,rfl,fun b ob l hb hl=>.inr ⟨b,ob,l,hb,hl,rfl,id⟩,fun _ _ h _=>h,Nat.le_refl _,fun b sz els f ro hb=>.inr ⟨b,sz,els,ro,hb⟩⟩
theorem Fr.trans {m m1 m2:Mp} {h h1 h2:H} {w w1 w2:World} (a:Fr m h w m1 h1 w1) (b:Fr m1 h1 w1 m2 h2 w2):Fr m h w m2 h2 w2 where
  le:=Mp.le_trans a.le b.le
  hr:=b.hr
  size:=Nat.le_trans a.size b.size
  keep:=fun B hB hn=>(b.keep B (Nat.lt_of_lt_of_le hB a.size) (by
    rintro ⟨x,ob,l,hx,hl,rfl,hw⟩
    rcases a.back x ob l hx hl with h' | ⟨b0,ob0,l0,h0,hl0,he,hw0⟩
    · omega
    · exact hn ⟨b0,ob0,l0,h0,hl0,he,hw0 hw⟩)).trans (a.keep B hB hn)
  os:=b.os.trans a.os
  tape:=b.tape.trans a.tape
  output:=b.output.trans a.output
  back:=fun x ob l hx hl=>by
    rcases b.back x ob l hx hl with h' | ⟨b0,ob0,l0,h0,hl0,he,hw0⟩
    · exact .inl (Nat.le_trans a.size h')
    · rcases a.back b0 ob0 l0 h0 hl0 with h' | ⟨b1,ob1,l1,h1,hl1,he1,hw1⟩
      · exact .inl (he ▸ h')
      · exact .inr ⟨b1,ob1,l1,h1,hl1,he1.trans he,fun x=>hw1 (hw0 x)⟩
  old:=fun x l hx hlt=>a.old x l (b.old x l hx (Nat.lt_of_lt_of_le hlt a.nxt)) hlt
  nxt:=Nat.le_trans a.nxt b.nxt
  famold:=fun x sz els f ro hx=>by
    rcases b.famold x sz els f ro hx with h' | ⟨b0,sz0,els0,ro0,h0⟩
    · exact .inl (Nat.le_trans a.nxt h')
    · exact a.famold _ _ _ _ _ h0
theorem HR.drawn {m:Mp} {h:H} {w:World} (k:HR m h w) (n:Nat):HR m h { w with drawn:=n }:=
  ⟨fun b ob hb=>by
    obtain ⟨l,hl,ho⟩:=k.obj b ob hb
    refine ⟨l,hl,?_⟩
    cases ob with
    | cells sz els f ro=>obtain ⟨C,t,fz,hc⟩:=ho;exact ⟨C,t,fz,⟨hc.at_,hc.room,hc.len,hc.each,hc.val,hc.free,hc.plain,hc.typ,hc.al⟩⟩
    | map es clock=>exact ho
    | siter len code pos=>exact ho
    | miter mi since seen last=>exact ho,k.dom,k.sep,k.fam,k.ord,k.lt,k.famlt,k.flt⟩
theorem Fr.drawn {m:Mp} {h:H} {w:World} (k:HR m h w) (n:Nat):Fr m h w m h { w with drawn:=n }:=
  ⟨m.le_refl,k.drawn n,Nat.le_refl _,fun _ _ _=>rfl,rfl,rfl,rfl,fun b ob l hb hl=>.inr ⟨b,ob,l,hb,hl,rfl,id⟩,fun _ _ h _=>h,Nat.le_refl _,fun b sz els f ro hb=>.inr ⟨b,sz,els,ro,hb⟩⟩
theorem ObjAt.keep {m m':Mp} {w w':World} {l:Loc} {ob:O} (h:ObjAt m w l ob) (hm:m.le m') (hb:w'.heap[l.blk]? = w.heap[l.blk]?):ObjAt m' w' l ob:=by
  cases ob with
  | cells sz els f ro=>
    obtain ⟨C,t,fz,hc⟩:=h
    exact ⟨C,t,fz,⟨hb.trans hc.at_,hc.room,hc.len,hc.each,fun i v hv=>by obtain ⟨u,h1,h2,h3⟩:=hc.val i v hv;exact ⟨u,h1,h2.mono hm,h3⟩,hc.free,hc.plain,hc.typ,hc.al⟩⟩
  | map es clock=>obtain ⟨es',h1,h2⟩:=h;exact ⟨es',hb.trans h1,h2.mono hm⟩
  | siter len code pos=>obtain ⟨h0,s,h1,h2⟩:=h;exact ⟨h0,s,hb.trans h1,h2⟩
  | miter mi since seen last=>obtain ⟨h0,lm,h1,h2⟩:=h;exact ⟨h0,lm,hm _ _ h1,hb.trans h2⟩
theorem heap_push_old {w:World} (o:Obj) {B:Nat} (h:B < w.heap.size):(w.heap.push o)[B]? = w.heap[B]?:=by
  simp [Array.getElem?_push,Nat.ne_of_lt h]
theorem Fr.new {m:Mp} {h:H} {w:World} (k:HR m h w) {nx:Id} (hn:h.next.succ = some nx) (o:Obj) (ob:O) (l:Loc) (hl:l.blk = w.heap.size)
    (hf:∀ sz els f ro,ob = .cells sz els f ro → f = h.next) (hw:writable ob)
    (hob:∀ m':Mp,m.le m' → ∀ w':World,w'.heap[w.heap.size]? = some o → ObjAt m' w' l ob) :
    Fr m h w (fun b=>if b = h.next then some l else m b) ⟨mput h.next (some ob) h.mem,h.fams,nx⟩ { w with heap:=w.heap.push o }:=by
  have hno:m h.next = none:=by
    cases e:m h.next with
    | none=>rfl
    | some l'=>exact absurd (k.dom _ _ e) (Nat.lt_irrefl _)
  have hle:m.le (fun b=>if b = h.next then some l else m b):=by
    intro b l' hb
    have:b ≠ h.next:=fun e=>by rw [e,hno] at hb;cases hb
    simp [this,hb]
  have hmem:∀ b ob',mget b (mput h.next (some ob) h.mem) = some ob' → (b = h.next ∧ ob' = ob) ∨ (b ≠ h.next ∧ mget b h.mem = some ob'):=by
    intro b ob' hb
    by_cases e:b = h.next
    · subst e;rw [mget_mput] at hb;exact .inl ⟨rfl,(Option.some.inj hb).symm⟩
    · rw [mget_mput_ne e] at hb;exact .inr ⟨e,hb⟩
  have hnx:=Id.succ_toNat hn
  refine ⟨hle,⟨?_,?_,?_,?_,?_,?_,?_,fun f x hx=>by have:=k.flt f x hx;show x.toNat < nx.toNat;omega⟩,by simp,?_,rfl,rfl,rfl,?_,?_,by show h.next.toNat ≤ nx.toNat;omega,fun b sz els f ro hb=>by
    rcases hmem b _ hb with ⟨rfl,e⟩ | ⟨_,hb1⟩
    · exact .inl (by rw [hf _ _ _ _ e.symm];exact Nat.le_refl _)
    · exact .inr ⟨b,sz,els,ro,hb1⟩⟩
  · intro b ob' hb
    rcases hmem b ob' hb with ⟨rfl,rfl⟩ | ⟨hne,hb⟩
    · exact ⟨l,by simp,hob _ hle _ (by simp)⟩
    · obtain ⟨l',hl',ho⟩:=k.obj b ob' hb
      exact ⟨l',by simp [hne,hl'],ho.keep hle (heap_push_old o (k.lt _ _ hl'))⟩
  · intro b l' hb
    show b.toNat < nx.toNat
    by_cases e:b = h.next
    · subst e;omega
    · simp [e] at hb;have:=k.dom _ _ hb;omega
  · intro b b' ob1 ob2 l1 l2 hb hb' hl1 hl2 hne heq
    rcases hmem b ob1 hb with ⟨rfl,rfl⟩ | ⟨hn1,hb1⟩ <;> rcases hmem b' ob2 hb' with ⟨rfl,rfl⟩ | ⟨hn2,hb2⟩
    · exact absurd rfl hne
    · simp at hl1;simp [hn2] at hl2;have:=k.lt _ _ hl2;subst hl1;omega
    · simp at hl2;simp [hn1] at hl1;have:=k.lt _ _ hl1;subst hl2;omega
    · simp [hn1] at hl1;simp [hn2] at hl2
      exact k.sep b b' ob1 ob2 l1 l2 hb1 hb2 hl1 hl2 hne heq
  · intro b b' sz els f ro sz' els' ro' hb hb' hne
    rcases hmem b _ hb with ⟨rfl,e1⟩ | ⟨hn1,hb1⟩ <;> rcases hmem b' _ hb' with ⟨rfl,e2⟩ | ⟨hn2,hb2⟩
    · exact absurd rfl hne
    · have:=hf _ _ _ _ e1.symm;have:=k.famlt _ _ _ _ _ hb2;subst f;omega
    · have:=hf _ _ _ _ e2.symm;have:=k.famlt _ _ _ _ _ hb1;subst f;omega
    · exact k.fam b b' _ _ _ _ _ _ _ hb1 hb2 hne
  · intro f
    refine (k.ord f).imp ?_
    intro x y hxy sz els f1 ro sz' els' f2 ro' l1 l2 hx hy hl1 hl2 heq
    rcases hmem x _ hx with ⟨rfl,e1⟩ | ⟨hn1,hb1⟩ <;> rcases hmem y _ hy with ⟨rfl,e2⟩ | ⟨hn2,hb2⟩
    · rw [hl1] at hl2;cases hl2;rw [← e1] at e2;cases e2;exact Nat.le_refl _
    · simp at hl1;simp [hn2] at hl2;have:=k.lt _ _ hl2;subst hl1;omega
    · simp at hl2;simp [hn1] at hl1;have:=k.lt _ _ hl1;subst hl2;omega
    · simp [hn1] at hl1;simp [hn2] at hl2
      exact hxy _ _ _ _ _ _ _ _ _ _ hb1 hb2 hl1 hl2 heq
  · intro b l' hb
    by_cases e:b = h.next
    · subst e;simp at hb;subst hb;simp [hl]
    · simp [e] at hb;have:=k.lt _ _ hb;simp;omega
  · intro b sz els f ro hb
    show f.toNat < nx.toNat
    rcases hmem b _ hb with ⟨rfl,e1⟩ | ⟨hn1,hb1⟩
    · have:=hf _ _ _ _ e1.symm;subst this;omega
    · have:=k.famlt _ _ _ _ _ hb1;omega
  · intro B hB _;exact heap_push_old o hB
  · intro b ob' l' hb hl'
    rcases hmem b ob' hb with ⟨rfl,rfl⟩ | ⟨hne,hb⟩
    · simp at hl';subst hl';exact .inl (by omega)
    · simp [hne] at hl';exact .inr ⟨b,ob',l',hb,hl',rfl,id⟩
  · intro b l' hb hlt
    have:b ≠ h.next:=fun e=>by subst e;omega
    simpa [this] using hb
theorem Fr.upd {m:Mp} {h:H} {w w':World} (k:HR m h w) {b:Id} {ob ob':O} {l:Loc} {mem':Mem} {fams':Fam} {o':Obj}
    (hb:mget b h.mem = some ob) (hl:m b = some l) (hw:writable ob)
    (sub:∀ x ox,mget x mem' = some ox → mget x h.mem = some ox)
    (excl:∀ x ox lx,x ≠ b → mget x mem' = some ox → m x = some lx → lx.blk ≠ l.blk)
    (hfam:∀ x y sz els f ro sz' els' ro',mget x (mput b (some ob') mem') = some (.cells sz els f ro) → mget y (mput b (some ob') mem') = some (.cells sz' els' f ro') → x ≠ y → x ∈ fget f fams')
    (hord:∀ f,(fget f fams').Pairwise (EndLe m h.mem))
    (hfl:∀ sz els f ro,ob' = .cells sz els f ro → f.toNat < h.next.toNat)
    (hfo:∀ sz els f ro,ob' = .cells sz els f ro → ∃ b0 sz0 els0 ro0,mget b0 h.mem = some (.cells sz0 els0 f ro0))
    (hflt:∀ f x,x ∈ fget f fams' → x.toNat < h.next.toNat)
    (hw':w' = { w with heap:=w.heap.setIfInBounds l.blk o' })
    (hob:w'.heap[l.blk]? = some o' → ObjAt m w' l ob') :
    Fr m h w m ⟨mput b (some ob') mem',fams',h.next⟩ w':=by
  have hlt:=k.lt _ _ hl
  have hat:w'.heap[l.blk]? = some o':=by rw [hw'];simp [hlt]
  have hoth:∀ B,B ≠ l.blk → w'.heap[B]? = w.heap[B]?:=by
    intro B hB;rw [hw'];simp [Array.getElem?_setIfInBounds,Ne.symm hB]
  have hmem:∀ x ox,mget x (mput b (some ob') mem') = some ox → (x = b ∧ ox = ob') ∨ (x ≠ b ∧ mget x mem' = some ox):=by
    intro x ox hx
    by_cases e:x = b
    · subst e;rw [mget_mput] at hx;exact .inl ⟨rfl,(Option.some.inj hx).symm⟩
    · rw [mget_mput_ne e] at hx;exact .inr ⟨e,hx⟩
  have hsz:w'.heap.size = w.heap.size:=by rw [hw'];simp
  refine ⟨m.le_refl,⟨?_,k.dom,?_,hfam,?_,?_,?_,hflt⟩,by omega,?_,by rw [hw'],by rw [hw'],by rw [hw'],?_,fun _ _ h _=>h,Nat.le_refl _,fun x sz els f ro hx=>by
    rcases hmem x _ hx with ⟨rfl,e⟩ | ⟨_,hx1⟩
    · exact .inr (hfo _ _ _ _ e.symm)
    · exact .inr ⟨x,sz,els,ro,sub _ _ hx1⟩⟩
  · intro x ox hx
    rcases hmem x ox hx with ⟨rfl,rfl⟩ | ⟨hne,hx⟩
    · exact ⟨l,hl,hob hat⟩
    · obtain ⟨lx,hlx,ho⟩:=k.obj x ox (sub _ _ hx)
      exact ⟨lx,hlx,ho.keep m.le_refl (hoth _ (excl x ox lx hne hx hlx))⟩
  · intro x y ox oy lx ly hx hy hlx hly hne heq
    rcases hmem x ox hx with ⟨rfl,rfl⟩ | ⟨hn1,hx1⟩ <;> rcases hmem y oy hy with ⟨rfl,rfl⟩ | ⟨hn2,hy1⟩
    · exact absurd rfl hne
    · rw [hl] at hlx;cases hlx;exact absurd heq.symm (excl y oy ly hn2 hy1 hly)
    · rw [hl] at hly;cases hly;exact absurd heq (excl x ox lx hn1 hx1 hlx)
    · exact k.sep x y ox oy lx ly (sub _ _ hx1) (sub _ _ hy1) hlx hly hne heq
  · intro f
    refine (hord f).imp ?_
    intro x y hxy sz els f1 ro sz' els' f2 ro' l1 l2 hx hy hl1 hl2 heq
    rcases hmem x _ hx with ⟨rfl,e1⟩ | ⟨hn1,hx1⟩ <;> rcases hmem y _ hy with ⟨rfl,e2⟩ | ⟨hn2,hy1⟩
    · rw [hl1] at hl2;cases hl2;rw [← e1] at e2;cases e2;exact Nat.le_refl _
    · rw [hl] at hl1;cases hl1;exact absurd heq.symm (excl y _ l2 hn2 hy1 hl2)
    · rw [hl] at hl2;cases hl2;exact absurd heq (excl x _ l1 hn1 hx1 hl1)
    · exact hxy _ _ _ _ _ _ _ _ _ _ (sub _ _ hx1) (sub _ _ hy1) hl1 hl2 heq
  · intro x lx hx;rw [hsz];exact k.lt _ _ hx
  · intro x sz els f ro hx
    show f.toNat < h.next.toNat
    rcases hmem x _ hx with ⟨rfl,e1⟩ | ⟨hn1,hx⟩
    · exact hfl _ _ _ _ e1.symm
    · exact k.famlt _ _ _ _ _ (sub _ _ hx)
  · intro B hB hn
    refine hoth B ?_
    rintro rfl
    exact hn ⟨b,ob,l,hb,hl,rfl,hw⟩
  · intro x ox lx hx hlx
    rcases hmem x ox hx with ⟨rfl,rfl⟩ | ⟨hne,hx⟩
    · rw [hl] at hlx;cases hlx;exact .inr ⟨x,ob,l,hb,hl,rfl,fun _=>hw⟩
    · exact .inr ⟨x,ox,lx,sub _ _ hx,hlx,rfl,id⟩
theorem mget_killM:∀ (l:List Id) (m:Mem) (x:Id),mget x (killM l m) = if x ∈ l then none else mget x m
  | [],m,x=>by simp [killM]
  | b :: l,m,x=>by
    rw [killM,mget_killM l]
    by_cases h:x ∈ l
    · simp [h]
    · by_cases e:x = b
      · subst e;simp [h,mget_mput]
      · simp [h,e,mget_mput_ne e]
theorem others_mem (b:Id):∀ (l:List Id) (x:Id),x ∈ others b l ↔ x ∈ l ∧ x ≠ b
  | [],x=>by simp [others]
  | y :: l,x=>by
    rw [others]
    by_cases e:Id.beq y b = true
    · have e':=Id.beq_iff.1 e;subst e'
      simp only [e,cond_true,others_mem y l x,List.mem_cons]
      constructor
      · rintro ⟨h1,h2⟩;exact ⟨.inr h1,h2⟩
      · rintro ⟨h1 | h1,h2⟩
        · exact absurd h1 h2
        · exact ⟨h1,h2⟩
    · have e':y ≠ b:=fun h=>e (Id.beq_iff.2 h)
      have e2:Id.beq y b = false:=by simpa using e
      simp only [e2,cond_false,List.mem_cons,others_mem b l x]
      constructor
      · rintro (rfl | ⟨h1,h2⟩)
        · exact ⟨.inl rfl,e'⟩
        · exact ⟨.inr h1,h2⟩
      · rintro ⟨h1 | h1,h2⟩
        · exact .inl h1
        · exact .inr ⟨h1,h2⟩
theorem loneH_eq (h:H) (f b:Id):loneH h f b = ⟨killM (others b (fget f h.fams)) h.mem,if fget f h.fams = [] then h.fams else fput f [] h.fams,h.next⟩:=by
  obtain ⟨mem,fams,next⟩:=h
  unfold loneH
  cases e:fget f fams with
  | nil=>simp [e,others,killM]
  | cons x l=>simp [e]
theorem setO_eq (h:H) (b:Id) (ob:O):setO h b ob = ⟨mput b (some ob) h.mem,h.fams,h.next⟩:=by cases h;rfl
theorem Fr.updCells {m:Mp} {h:H} {w w':World} (k:HR m h w) {b f:Id} {sz ty:Nat} {els els':List (List V)} {ro':Rw} {l:Loc} {o':Obj}
    (hb:mget b h.mem = some (.cells sz els f (.rw ty))) (hl:m b = some l)
    (hw':w' = { w with heap:=w.heap.setIfInBounds l.blk o' })
    (hob:w'.heap[l.blk]? = some o' → ObjAt m w' l (.cells sz els' f ro')) :
    Fr m h w m (setO (loneH h f b) b (.cells sz els' f ro')) w':=by
  rw [setO_eq,loneH_eq]
  have hk:∀ x ox,mget x (killM (others b (fget f h.fams)) h.mem) = some ox → mget x h.mem = some ox ∧ (x ∈ fget f h.fams → x = b):=by
    intro x ox hx
    rw [mget_killM] at hx
    split at hx
    · cases hx
    · rename_i hn
      refine ⟨hx,fun hm=>?_⟩
      by_cases e:x = b
      · exact e
      · exact absurd ((others_mem b _ x).2 ⟨hm,e⟩) hn
  refine Fr.upd k hb hl (by simp [writable]) (fun x ox hx=>(hk x ox hx).1) ?_ ?_ ?_ ?_ (fun sz1 els1 f1 ro1 e=>by cases e;exact ⟨b,_,_,_,hb⟩) ?_ hw' hob
  · intro x ox lx hne hx hlx heq
    obtain ⟨hx1,hm⟩:=hk x ox hx
    have hs:=k.sep x b ox _ lx l hx1 hb hlx hl hne heq
    cases ox with
    | cells sz1 els1 f1 ro1=>
      have hf:f1 = f:=hs
      subst hf
      exact hne (hm (k.fam x b _ _ _ _ _ _ _ hx1 hb hne))
    | _=>exact hs
  · intro x y sz1 els1 f1 ro1 sz2 els2 ro2 hx hy hne
    have hx':x = b ∧ f1 = f ∨ x ≠ b ∧ mget x h.mem = some (.cells sz1 els1 f1 ro1) ∧ (x ∈ fget f h.fams → x = b):=by
      by_cases e:x = b
      · subst e;rw [mget_mput] at hx;cases hx;exact .inl ⟨rfl,rfl⟩
      · rw [mget_mput_ne e] at hx;exact .inr ⟨e,hk x _ hx⟩
    have hy':y = b ∧ f1 = f ∨ y ≠ b ∧ mget y h.mem = some (.cells sz2 els2 f1 ro2) ∧ (y ∈ fget f h.fams → y = b):=by
      by_cases e:y = b
      · subst e;rw [mget_mput] at hy;cases hy;exact .inl ⟨rfl,rfl⟩
      · rw [mget_mput_ne e] at hy;exact .inr ⟨e,hk y _ hy⟩
    by_cases hf:f1 = f
    · subst hf
      rcases hx' with ⟨rfl,_⟩ | ⟨hn1,hx1,hm1⟩
      · rcases hy' with ⟨rfl,_⟩ | ⟨hn2,hy1,hm2⟩
        · exact absurd rfl hne
        · exact absurd (hm2 (k.fam y x _ _ _ _ _ _ _ hy1 hb hn2)) hn2
      · exact absurd (hm1 (k.fam x b _ _ _ _ _ _ _ hx1 hb hn1)) hn1
    · have hx1:mget x h.mem = some (.cells sz1 els1 f1 ro1):=by
        rcases hx' with ⟨_,e⟩ | ⟨_,hx1,_⟩
        · exact absurd e hf
        · exact hx1
      have hy1:mget y h.mem = some (.cells sz2 els2 f1 ro2):=by
        rcases hy' with ⟨_,e⟩ | ⟨_,hy1,_⟩
        · exact absurd e hf
        · exact hy1
      have:=k.fam x y _ _ _ _ _ _ _ hx1 hy1 hne
      show x ∈ fget f1 _
      split
      · exact this
      · rw [fget_fput_ne hf];exact this
  · intro f1
    show (fget f1 _).Pairwise _
    split
    · exact k.ord f1
    · by_cases e:f1 = f
      · subst e;rw [fget_fput];exact .nil
      · rw [fget_fput_ne e];exact k.ord f1
  · intro sz1 els1 f1 ro1 e;cases e;exact k.famlt _ _ _ _ _ hb
  · intro f1 x hx
    have hx':x ∈ fget f1 (if fget f h.fams = [] then h.fams else fput f [] h.fams):=hx
    split at hx'
    · exact k.flt f1 x hx'
    · by_cases e:f1 = f
      · subst e;rw [fget_fput] at hx';cases hx'
      · rw [fget_fput_ne e] at hx';exact k.flt f1 x hx'
theorem Fr.updObj {m:Mp} {h:H} {w w':World} (k:HR m h w) {b:Id} {ob ob':O} {l:Loc} {o':Obj}
    (hb:mget b h.mem = some ob) (hl:m b = some l) (hn:∀ sz els f ro,ob ≠ .cells sz els f ro) (hn':∀ sz els f ro,ob' ≠ .cells sz els f ro)
    (hw':w' = { w with heap:=w.heap.setIfInBounds l.blk o' }) (hob:w'.heap[l.blk]? = some o' → ObjAt m w' l ob') :
    Fr m h w m (setO h b ob') w':=by
  rw [setO_eq]
  refine Fr.upd k hb hl ?_ (fun _ _ h=>h) ?_ ?_ k.ord (fun sz els f ro e=>absurd e (hn' _ _ _ _)) (fun sz els f ro e=>absurd e (hn' _ _ _ _)) k.flt hw' hob
  · cases ob <;> first | trivial | exact absurd rfl (hn _ _ _ _)
  · intro x ox lx hne hx hlx heq
    have hs:=k.sep x b ox _ lx l hx hb hlx hl hne heq
    cases ob with
    | cells sz els f ro=>exact hn _ _ _ _ rfl
    | _=>cases ox <;> exact hs
  · intro x y sz1 els1 f1 ro1 sz2 els2 ro2 hx hy hne
    have hx1:mget x h.mem = some (.cells sz1 els1 f1 ro1):=by
      by_cases e:x = b
      · subst e;rw [mget_mput] at hx;cases hx;exact absurd rfl (hn' _ _ _ _)
      · rwa [mget_mput_ne e] at hx
    have hy1:mget y h.mem = some (.cells sz2 els2 f1 ro2):=by
      by_cases e:y = b
      · subst e;rw [mget_mput] at hy;cases hy;exact absurd rfl (hn' _ _ _ _)
      · rwa [mget_mput_ne e] at hy
    exact k.fam x y _ _ _ _ _ _ _ hx1 hy1 hne
end Go.Ev
end
section
namespace Go.Ev
open Go
theorem as_b_O_of {v:V} {k} {d} {r} (h:as_b_O v k d = r):(∃ x0,v = .b x0 ∧ k x0 = r) ∨ ((∀ x0,v ≠ .b x0) ∧ d = r):=by
  cases v <;> first | exact .inl ⟨_,rfl,h⟩ | exact .inr ⟨by intros;simp,h⟩
theorem as_b_O_some {v:V} {k} {r:V} (h:as_b_O v k none = some r):∃ x0,v = .b x0 ∧ k x0 = some r:=by
  rcases as_b_O_of h with h | ⟨_,h⟩
  · exact h
  · cases h
theorem as_b_C_of {v:V} {k} {d} {r} (h:as_b_C v k d = r):(∃ x0,v = .b x0 ∧ k x0 = r) ∨ ((∀ x0,v ≠ .b x0) ∧ d = r):=by
  cases v <;> first | exact .inl ⟨_,rfl,h⟩ | exact .inr ⟨by intros;simp,h⟩
theorem as_b_R_of {v:V} {k} {d} {r} (h:as_b_R v k d = r):(∃ x0,v = .b x0 ∧ k x0 = r) ∨ ((∀ x0,v ≠ .b x0) ∧ d = r):=by
  cases v <;> first | exact .inl ⟨_,rfl,h⟩ | exact .inr ⟨by intros;simp,h⟩
theorem as_i_O_of {v:V} {k} {d} {r} (h:as_i_O v k d = r):(∃ x0 x1,v = .i x0 x1 ∧ k x0 x1 = r) ∨ ((∀ x0 x1,v ≠ .i x0 x1) ∧ d = r):=by
  cases v <;> first | exact .inl ⟨_,_,rfl,h⟩ | exact .inr ⟨by intros;simp,h⟩
theorem as_i_O_some {v:V} {k} {r:V} (h:as_i_O v k none = some r):∃ x0 x1,v = .i x0 x1 ∧ k x0 x1 = some r:=by
  rcases as_i_O_of h with h | ⟨_,h⟩
  · exact h
  · cases h
theorem as_i_H_of {v:V} {k} {d} {r} (h:as_i_H v k d = r):(∃ x0 x1,v = .i x0 x1 ∧ k x0 x1 = r) ∨ ((∀ x0 x1,v ≠ .i x0 x1) ∧ d = r):=by
  cases v <;> first | exact .inl ⟨_,_,rfl,h⟩ | exact .inr ⟨by intros;simp,h⟩
theorem as_i_H_ok {v:V} {k} {r:V} {hh:H} (h:as_i_H v k .bad = .ok r hh):∃ x0 x1,v = .i x0 x1 ∧ k x0 x1 = .ok r hh:=by
  rcases as_i_H_of h with h | ⟨_,h⟩
  · exact h
  · cases h
theorem as_s_O_of {v:V} {k} {d} {r} (h:as_s_O v k d = r):(∃ x0 x1,v = .s x0 x1 ∧ k x0 x1 = r) ∨ ((∀ x0 x1,v ≠ .s x0 x1) ∧ d = r):=by
  cases v <;> first | exact .inl ⟨_,_,rfl,h⟩ | exact .inr ⟨by intros;simp,h⟩
theorem as_s_O_some {v:V} {k} {r:V} (h:as_s_O v k none = some r):∃ x0 x1,v = .s x0 x1 ∧ k x0 x1 = some r:=by
  rcases as_s_O_of h with h | ⟨_,h⟩
  · exact h
  · cases h
theorem as_s_H_of {v:V} {k} {d} {r} (h:as_s_H v k d = r):(∃ x0 x1,v = .s x0 x1 ∧ k x0 x1 = r) ∨ ((∀ x0 x1,v ≠ .s x0 x1) ∧ d = r):=by
  cases v <;> first | exact .inl ⟨_,_,rfl,h⟩ | exact .inr ⟨by intros;simp,h⟩
theorem as_s_H_ok {v:V} {k} {r:V} {hh:H} (h:as_s_H v k .bad = .ok r hh):∃ x0 x1,v = .s x0 x1 ∧ k x0 x1 = .ok r hh:=by
  rcases as_s_H_of h with h | ⟨_,h⟩
  · exact h
  · cases h
theorem as_p_O_of {v:V} {k} {d} {r} (h:as_p_O v k d = r):(∃ x0 x1,v = .p x0 x1 ∧ k x0 x1 = r) ∨ ((∀ x0 x1,v ≠ .p x0 x1) ∧ d = r):=by
  cases v <;> first | exact .inl ⟨_,_,rfl,h⟩ | exact .inr ⟨by intros;simp,h⟩
theorem as_p_O_some {v:V} {k} {r:V} (h:as_p_O v k none = some r):∃ x0 x1,v = .p x0 x1 ∧ k x0 x1 = some r:=by
  rcases as_p_O_of h with h | ⟨_,h⟩
  · exact h
  · cases h
theorem as_p_H_of {v:V} {k} {d} {r} (h:as_p_H v k d = r):(∃ x0 x1,v = .p x0 x1 ∧ k x0 x1 = r) ∨ ((∀ x0 x1,v ≠ .p x0 x1) ∧ d = r):=by
  cases v <;> first | exact .inl ⟨_,_,rfl,h⟩ | exact .inr ⟨by intros;simp,h⟩
theorem as_p_H_ok {v:V} {k} {r:V} {hh:H} (h:as_p_H v k .bad = .ok r hh):∃ x0 x1,v = .p x0 x1 ∧ k x0 x1 = .ok r hh:=by
  rcases as_p_H_of h with h | ⟨_,h⟩
  · exact h
  · cases h
theorem as_sl_O_of {v:V} {k} {d} {r} (h:as_sl_O v k d = r):(∃ x0 x1 x2 x3,v = .sl x0 x1 x2 x3 ∧ k x0 x1 x2 x3 = r) ∨ ((∀ x0 x1 x2 x3,v ≠ .sl x0 x1 x2 x3) ∧ d = r):=by
  cases v <;> first | exact .inl ⟨_,_,_,_,rfl,h⟩ | exact .inr ⟨by intros;simp,h⟩
theorem as_sl_O_some {v:V} {k} {r:V} (h:as_sl_O v k none = some r):∃ x0 x1 x2 x3,v = .sl x0 x1 x2 x3 ∧ k x0 x1 x2 x3 = some r:=by
  rcases as_sl_O_of h with h | ⟨_,h⟩
  · exact h
  · cases h
theorem as_agg_O_of {v:V} {k} {d} {r} (h:as_agg_O v k d = r):(∃ x0,v = .agg x0 ∧ k x0 = r) ∨ ((∀ x0,v ≠ .agg x0) ∧ d = r):=by
  cases v <;> first | exact .inl ⟨_,rfl,h⟩ | exact .inr ⟨by intros;simp,h⟩
theorem as_agg_O_some {v:V} {k} {r:V} (h:as_agg_O v k none = some r):∃ x0,v = .agg x0 ∧ k x0 = some r:=by
  rcases as_agg_O_of h with h | ⟨_,h⟩
  · exact h
  · cases h
theorem as_tup_O_of {v:V} {k} {d} {r} (h:as_tup_O v k d = r):(∃ x0,v = .tup x0 ∧ k x0 = r) ∨ ((∀ x0,v ≠ .tup x0) ∧ d = r):=by
  cases v <;> first | exact .inl ⟨_,rfl,h⟩ | exact .inr ⟨by intros;simp,h⟩
theorem as_tup_O_some {v:V} {k} {r:V} (h:as_tup_O v k none = some r):∃ x0,v = .tup x0 ∧ k x0 = some r:=by
  rcases as_tup_O_of h with h | ⟨_,h⟩
  · exact h
  · cases h
theorem as_mp_O_of {v:V} {k} {d} {r} (h:as_mp_O v k d = r):(∃ x0,v = .mp x0 ∧ k x0 = r) ∨ ((∀ x0,v ≠ .mp x0) ∧ d = r):=by
  cases v <;> first | exact .inl ⟨_,rfl,h⟩ | exact .inr ⟨by intros;simp,h⟩
theorem as_mp_H_of {v:V} {k} {d} {r} (h:as_mp_H v k d = r):(∃ x0,v = .mp x0 ∧ k x0 = r) ∨ ((∀ x0,v ≠ .mp x0) ∧ d = r):=by
  cases v <;> first | exact .inl ⟨_,rfl,h⟩ | exact .inr ⟨by intros;simp,h⟩
theorem as_mp_H_ok {v:V} {k} {r:V} {hh:H} (h:as_mp_H v k .bad = .ok r hh):∃ x0,v = .mp x0 ∧ k x0 = .ok r hh:=by
  rcases as_mp_H_of h with h | ⟨_,h⟩
  · exact h
  · cases h
theorem as_fn_H_of {v:V} {k} {d} {r} (h:as_fn_H v k d = r):(∃ x0 x1 x2,v = .fn x0 x1 x2 ∧ k x0 x1 x2 = r) ∨ ((∀ x0 x1 x2,v ≠ .fn x0 x1 x2) ∧ d = r):=by
  cases v <;> first | exact .inl ⟨_,_,_,rfl,h⟩ | exact .inr ⟨by intros;simp,h⟩
theorem as_fn_H_ok {v:V} {k} {r:V} {hh:H} (h:as_fn_H v k .bad = .ok r hh):∃ x0 x1 x2,v = .fn x0 x1 x2 ∧ k x0 x1 x2 = .ok r hh:=by
  rcases as_fn_H_of h with h | ⟨_,h⟩
  · exact h
  · cases h
theorem as_sn_O_of {v:V} {k} {d} {r} (h:as_sn_O v k d = r):(v = .sn ∧ k = r) ∨ ((v ≠ .sn) ∧ d = r):=by
  cases v <;> first | exact .inl ⟨rfl,h⟩ | exact .inr ⟨by simp,h⟩
theorem as_sn_O_some {v:V} {k} {r:V} (h:as_sn_O v k none = some r):v = .sn ∧ k = some r:=by
  rcases as_sn_O_of h with h | ⟨_,h⟩
  · exact h
  · cases h
theorem as_se_O_of {v:V} {k} {d} {r} (h:as_se_O v k d = r):(v = .se ∧ k = r) ∨ ((v ≠ .se) ∧ d = r):=by
  cases v <;> first | exact .inl ⟨rfl,h⟩ | exact .inr ⟨by simp,h⟩
theorem as_se_O_some {v:V} {k} {r:V} (h:as_se_O v k none = some r):v = .se ∧ k = some r:=by
  rcases as_se_O_of h with h | ⟨_,h⟩
  · exact h
  · cases h
theorem as_mn_O_of {v:V} {k} {d} {r} (h:as_mn_O v k d = r):(v = .mn ∧ k = r) ∨ ((v ≠ .mn) ∧ d = r):=by
  cases v <;> first | exact .inl ⟨rfl,h⟩ | exact .inr ⟨by simp,h⟩
theorem as_mn_O_some {v:V} {k} {r:V} (h:as_mn_O v k none = some r):v = .mn ∧ k = some r:=by
  rcases as_mn_O_of h with h | ⟨_,h⟩
  · exact h
  · cases h
theorem iteO_of {b:Bool} {x y r:Option V} (h:iteO b x y = r):(b = true ∧ x = r) ∨ (b = false ∧ y = r):=by
  cases b
  · exact .inr ⟨rfl,h⟩
  · exact .inl ⟨rfl,h⟩
theorem iteO_some {b:Bool} {x:Option V} {r:V} (h:iteO b x none = some r):b = true ∧ x = some r:=by
  rcases iteO_of h with h | ⟨_,h⟩
  · exact h
  · cases h
theorem iteH_of {b:Bool} {x y r:VH} (h:iteH b x y = r):(b = true ∧ x = r) ∨ (b = false ∧ y = r):=by
  cases b
  · exact .inr ⟨rfl,h⟩
  · exact .inl ⟨rfl,h⟩
theorem iteH_ok {b:Bool} {x:VH} {r:V} {hh:H} (h:iteH b x .bad = .ok r hh):b = true ∧ x = .ok r hh:=by
  rcases iteH_of h with h | ⟨_,h⟩
  · exact h
  · cases h
theorem iteR_of {b:Bool} {x y r:Rs} (h:iteR b x y = r):(b = true ∧ x = r) ∨ (b = false ∧ y = r):=by
  cases b
  · exact .inr ⟨rfl,h⟩
  · exact .inl ⟨rfl,h⟩
theorem iteC_of {b:Bool} {x y r:CR} (h:iteC b x y = r):(b = true ∧ x = r) ∨ (b = false ∧ y = r):=by
  cases b
  · exact .inr ⟨rfl,h⟩
  · exact .inl ⟨rfl,h⟩
theorem bytesOf_length:∀ (n c:Nat),(bytesOf n c).length = n
  | 0,_=>rfl
  | n + 1,c=>by simp [bytesOf,bytesOf_length n]
theorem bytesOf_codeOf:∀ (l:List Nat),(∀ b ∈ l,b < 256) → bytesOf l.length (codeOf l) = l
  | [],_=>rfl
  | b :: l,h=>by
    have hb:=h b (by simp)
    have e1:(b + 256 * codeOf l) % 256 = b:=by omega
    have e2:(b + 256 * codeOf l) / 256 = codeOf l:=by omega
    simp only [List.length_cons,bytesOf,codeOf,e1,e2,bytesOf_codeOf l (fun x hx=>h x (by simp [hx]))]
theorem codeOf_lt:∀ (l:List Nat),(∀ b ∈ l,b < 256) → codeOf l < 256 ^ l.length
  | [],_=>by simp [codeOf]
  | b :: l,h=>by
    have hb:=h b (by simp)
    have:=codeOf_lt l (fun x hx=>h x (by simp [hx]))
    simp only [codeOf,List.length_cons,Nat.pow_succ]
    omega
theorem bytesOf_inj:∀ (n c c':Nat),c < 256 ^ n → c' < 256 ^ n → bytesOf n c = bytesOf n c' → c = c'
  | 0,c,c',h,h',_=>by simp at h h';omega
  | n + 1,c,c',h,h',e=>by
    simp only [bytesOf,List.cons.injEq] at e
    have:=bytesOf_inj n (c / 256) (c' / 256) (by rw [Nat.pow_succ] at h;omega) (by rw [Nat.pow_succ] at h';omega) e.2
    omega
theorem bytesIn_lt (s:ByteArray):∀ b ∈ bytesIn s,b < 256:=by
  intro b hb
  simp only [bytesIn,List.mem_map] at hb
  obtain ⟨x,_,rfl⟩:=hb
  exact x.toNat_lt
theorem bytesIn_inj {s t:ByteArray} (h:bytesIn s = bytesIn t):s = t:=by
  have:s.data.toList = t.data.toList:=by
    have hi:∀ (l r:List UInt8),l.map UInt8.toNat = r.map UInt8.toNat → l = r:=by
      intro l
      induction l with
      | nil=>intro r h;cases r with | nil=>rfl | cons _ _=>simp at h
      | cons a l ih=>
        intro r h
        cases r with
        | nil=>simp at h
        | cons b r=>
          simp only [List.map_cons,List.cons.injEq] at h
          rw [UInt8.toNat_inj.1 h.1,ih r h.2]
    exact hi _ _ h
  cases s;cases t;congr 1;exact Array.toList_inj.1 this
theorem R_str {m:Mp} {l c:Nat} {u:Value}:R m (.s l c) u ↔ ∃ s,u = .string s ∧ bytesIn s = bytesOf l c ∧ c < 256 ^ l:=by
  simp only [R,bytesIn]
theorem R_strOf (m:Mp) (s:ByteArray):R m (strOf (bytesIn s)) (.string s):=by
  rw [strOf,R_str]
  exact ⟨s,rfl,(bytesOf_codeOf _ (bytesIn_lt s)).symm,codeOf_lt _ (bytesIn_lt s)⟩
theorem bytesIn_size (s:ByteArray):(bytesIn s).length = s.size:=by
  rw [bytesIn,List.length_map,Array.length_toList];rfl
theorem str_size {s:ByteArray} {l c:Nat} (h:bytesIn s = bytesOf l c):s.size = l:=by
  rw [← bytesIn_size,h,bytesOf_length]
theorem scalarB_iff {v:Value}:scalarB v = true ↔ scalar v:=by cases v <;> simp [scalarB,scalar]
mutual
theorem cst_sound (m:Mp):∀ v:Value,R m (cst v) v
  | .bool x=>by simp [cst,R]
  | .int k n=>by simp [cst,R]
  | .float ..=>by simp [cst,R]
  | .complex ..=>by simp [cst,R]
  | .string s=>by rw [cst];exact R_strOf m s
  | .pointer none=>by simp [cst,R]
  | .pointer (some _)=>by simp [cst,R]
  | .slice none 0 0=>by simp [cst,R]
  | .slice none (_ + 1) _=>by simp [cst,R]
  | .slice none 0 (_ + 1)=>by simp [cst,R]
  | .slice (some _) _ _=>by simp [cst,R]
  | .map none=>by simp [cst,R]
  | .map (some _)=>by simp [cst,R]
  | .chan _=>by simp [cst,R]
  | .func ..=>by simp [cst,R]
  | .nilFunc=>by simp [cst,R]
  | .iface ..=>by simp [cst,R]
  | .nilIface=>by simp [cst,R]
  | .agg ⟨l⟩=>by
    rw [cst]
    cases e:l.all scalarB with
    | true=>
      simp only [cond_true,R]
      refine ⟨l,rfl,csts_sound m l,fun x hx=>scalarB_iff.1 (List.all_eq_true.1 e x hx)⟩
    | false=>simp [R]
  | .tuple ⟨l⟩=>by
    rw [cst];simp only [R];exact ⟨l,rfl,csts_sound m l⟩
theorem csts_sound (m:Mp):∀ l:List Value,Rl m (csts l) l
  | []=>by simp [csts,Rl]
  | v :: l=>by simp only [csts,Rl];exact ⟨v,l,rfl,cst_sound m v,csts_sound m l⟩
end
def DfrR (m:Mp):List V → List Deferred → Prop
  | [],ds=>ds = []
  | .fn g a c :: l,ds=>∃ a' c' r,ds = { target:=.fn g ⟨c'⟩,args:=⟨a'⟩ } :: r ∧ Rl m a a' ∧ Rl m c c' ∧ DfrR m l r
  | _ :: _,_=>False
theorem DfrR.mono {m m':Mp} (h:m.le m'):∀ {l:List V} {ds:List Deferred},DfrR m l ds → DfrR m' l ds
  | [],_,k=>k
  | .fn g a c :: l,_,k=>by obtain ⟨a',c',r,rfl,ha,hc,hr⟩:=k;exact ⟨a',c',r,rfl,ha.mono h,hc.mono h,hr.mono h⟩
  | .top :: _,_,k=>k.elim
  | .b _ :: _,_,k=>k.elim
  | .i _ _ :: _,_,k=>k.elim
  | .s _ _ :: _,_,k=>k.elim
  | .pn :: _,_,k=>k.elim
  | .p _ _ :: _,_,k=>k.elim
  | .sn :: _,_,k=>k.elim
  | .sl _ _ _ _ :: _,_,k=>k.elim
  | .se :: _,_,k=>k.elim
  | .mn :: _,_,k=>k.elim
  | .mp _ :: _,_,k=>k.elim
  | .nf :: _,_,k=>k.elim
  | .ifc _ _ :: _,_,k=>k.elim
  | .ni :: _,_,k=>k.elim
  | .agg _ :: _,_,k=>k.elim
  | .tup _ :: _,_,k=>k.elim
structure EnvR (m:Mp) (n:Nat) (e:Env) (a:Act):Prop where
  size:a.tmps.size = n
  le:n ≤ 511
  val:∀ t,t < n → R m (eget t e) (a.tmps.getD t undef)
  dfr:∃ l,eget defSlot e = .tup l ∧ DfrR m l a.defers
theorem EnvR.mono {m m':Mp} (h:m.le m') {n:Nat} {e:Env} {a:Act} (k:EnvR m n e a):EnvR m' n e a:=
  ⟨k.size,k.le,fun t ht=>(k.val t ht).mono h,by obtain ⟨l,h1,h2⟩:=k.dfr;exact ⟨l,h1,h2.mono h⟩⟩
theorem EnvR.set {m:Mp} {n:Nat} {e:Env} {a:Act} (k:EnvR m n e a) {d:Nat} (hd:d < n) {v:V} {u:Value} (h:R m v u):EnvR m n (eset d v e) (a.put (some d) u):=by
  have hle:=k.le
  refine ⟨by simp [Act.put,k.size],k.le,fun t ht=>?_,?_⟩
  · by_cases e':t = d
    · subst e'
      rw [eget_eset]
      simp [Act.put,Array.getD_eq_getD_getElem?,k.size,ht,h]
    · rw [eget_eset_ne (by omega) (by omega) e']
      have:=k.val t ht
      simpa [Act.put,Array.getD_eq_getD_getElem?,Array.getElem?_setIfInBounds,Ne.symm e'] using this
  · obtain ⟨l,h1,h2⟩:=k.dfr
    refine ⟨l,?_,h2⟩
    rw [eget_eset_ne (by decide) (by omega) (by show 511 ≠ d;omega)];exact h1
def Gl (P:Program) (m:Mp):Prop:=∀ g,g < P.globals.size → ∃ lim,m (idOf g) = some ⟨g,0,lim⟩
theorem Gl.mono {P:Program} {m m':Mp} (h:m.le m') (k:Gl P m):Gl P m':=fun g hg=>by obtain ⟨lim,hl⟩:=k g hg;exact ⟨lim,h _ _ hl⟩
def opOk (P:Program) (n:Nat):Operand → Bool
  | .tmp t=>decide (t < n)
  | .global g=>decide (g < P.globals.size)
  | _=>true
theorem opnd_sound {P:Program} {m:Mp} {n:Nat} {e:Env} {a:Act} (k:EnvR m n e a) (hg:Gl P m) {x:Operand} (hx:opOk P n x = true):R m ((opnd x).run e) (a.eval x):=by
  cases x with
  | tmp t=>exact k.val t (by simpa [opOk] using hx)
  | const v=>exact cst_sound m v
  | global g=>
    obtain ⟨lim,hl⟩:=hg g (by simpa [opOk] using hx)
    simp only [opnd,Act.eval,R]
    exact ⟨_,hl,rfl⟩
  | func f=>simp only [opnd,Act.eval,R];exact ⟨[],[],rfl,by simp [Rl],by simp [Rl]⟩
theorem opnds_sound {P:Program} {m:Mp} {n:Nat} {e:Env} {a:Act} (k:EnvR m n e a) (hg:Gl P m):∀ {xs:List Operand},xs.all (opOk P n) = true → Rl m ((opnds xs).run e) (xs.map a.eval)
  | [],_=>by simp [opnds,Rl]
  | x :: xs,h=>by
    simp only [List.all_cons,Bool.and_eq_true] at h
    simp only [opnds,List.map_cons,Rl]
    exact ⟨_,_,rfl,opnd_sound k hg h.1,opnds_sound k hg h.2⟩
end Go.Ev
end
section
namespace Go.Ev
open Go
variable {P:Program} {m:Mp} {w:World}
theorem addr_add (b o n:Nat):(⟨b,o,none⟩:Addr).add n = ⟨b,o + n,none⟩:=by
  unfold Addr.add;split
  · rename_i h;subst h;simp
  · rfl
theorem run_und {t:TypeId} {d:TypeDesc} (h:P.underlying t = some d):(underlying t).run P w = .ok d w:=by simp [underlying,h]
theorem sizeT_info {t:TypeId} {n:Nat} (h:sizeT P t = some n):∃ i,P.info? t = some i ∧ i.size = n:=by
  unfold sizeT at h
  split at h
  · rename_i i _ hi;cases h;exact ⟨i,hi,rfl⟩
  · cases h
theorem sizeT_und {t:TypeId} {n:Nat} (h:sizeT P t = some n):∃ d,P.underlying t = some d:=by
  unfold sizeT at h
  split at h
  · rename_i d _ _ hd _;exact ⟨_,hd⟩
  · cases h
theorem sizeT_run {t:TypeId} {n:Nat} (h:sizeT P t = some n):(sizeOf t).run P w = .ok n w:=by
  obtain ⟨i,hi,rfl⟩:=sizeT_info h
  simp [sizeOf,typeInfo,hi]
theorem isAgg_run {t:TypeId} {d:TypeDesc} (h:P.underlying t = some d):(isAgg t).run P w = .ok (isAggT P t) w:=by
  simp only [isAgg,Sem.run_bind,run_und h,Result.andThen_ok,isAggT,h]
  cases d <;> rfl
theorem zeroT_run {t:TypeId} {z:V} (h:zeroT P t = some z):∃ u,(zeroValue t).run P w = .ok u w ∧ z = cst u ∧ ∃ i,P.info? t = some i ∧ i.zero = some u:=by
  unfold zeroT at h
  cases hi:P.info? t with
  | none=>simp [hi] at h
  | some i=>
    cases hz:i.zero with
    | none=>simp [hi,hz] at h
    | some u=>
      simp [hi,hz] at h
      exact ⟨u,by simp [zeroValue,typeInfo,hi,hz],h.symm,i,rfl,hz⟩
theorem cell_of {l:Loc} {C:Array Value} {t:TypeId} {fz:Nat × Nat} (h:w.heap[l.blk]? = some (.cells C t fz)) (o:Nat):w.cell? ⟨l.blk,o,none⟩ = C[o]?:=by
  simp [World.cell?,h]
theorem nthV_eq (l:List V) (i:Nat):nthV l i = l[i]?:=by
  induction l generalizing i with
  | nil=>rfl
  | cons a l ih=>cases i with
    | zero=>rfl
    | succ i=>simpa [nthV] using ih i
theorem nthL_eq (l:List (List V)) (i:Nat):nthL l i = l[i]?:=by
  induction l generalizing i with
  | nil=>rfl
  | cons a l ih=>cases i with
    | zero=>rfl
    | succ i=>simpa [nthL] using ih i
theorem takeV_eq:∀ (n:Nat) (l r:List V),takeV n l = some r → n ≤ l.length ∧ r = l.take n
  | 0,l,r,h=>by
    have:[] = r:=Option.some.inj h
    subst this;simp
  | n + 1,[],r,h=>by cases h
  | n + 1,a :: l,r,h=>by
    have:takeV (n + 1) (a :: l) = Option.rec (motive:=fun _=>Option (List V)) none (fun x=>some (a :: x)) (takeV n l):=rfl
    rw [this] at h
    cases e:takeV n l with
    | none=>rw [e] at h;cases h
    | some x=>
      rw [e] at h;cases h
      obtain ⟨h1,rfl⟩:=takeV_eq n l x e
      exact ⟨by simp;omega,by simp⟩
theorem dropV_eq:∀ (n:Nat) (l:List V),dropV n l = l.drop n
  | 0,l=>rfl
  | n + 1,[]=>rfl
  | n + 1,a :: l=>by
    have:dropV (n + 1) (a :: l) = dropV n l:=rfl
    rw [this,dropV_eq n l];rfl
theorem lenV1_eq (l:List V):lenV1 l = l.length:=by
  induction l with
  | nil=>rfl
  | cons a l ih=>show Nat.succ (lenV1 l) = _;rw [ih];rfl
theorem lenL_eq (l:List (List V)):lenL l = l.length:=by
  induction l with
  | nil=>rfl
  | cons a l ih=>show Nat.succ (lenL l) = _;rw [ih];rfl
theorem appV_eq (a b:List V):appV a b = a ++ b:=by
  induction a with
  | nil=>rfl
  | cons x a ih=>show x :: appV a b = _;rw [ih];rfl
theorem appL_eq (a b:List (List V)):appL a b = a ++ b:=by
  induction a with
  | nil=>rfl
  | cons x a ih=>show x :: appL a b = _;rw [ih];rfl
theorem flat_get {sz:Nat}:∀ {els:List (List V)} (h:∀ el ∈ els,el.length = sz) {q:Nat} {el:List V},els[q]? = some el → ∀ (i:Nat),i < sz → els.flatten[q * sz + i]? = el[i]?
  | [],_,q,el,hq,i,hi=>by simp at hq
  | x :: els,h,0,el,hq,i,hi=>by
    simp at hq;subst hq
    have:=h x (by simp)
    simp [List.getElem?_append,this,hi]
  | x :: els,h,q + 1,el,hq,i,hi=>by
    simp at hq
    have hx:=h x (by simp)
    have:=flat_get (fun el he=>h el (by simp [he])) hq i hi
    simp only [List.flatten_cons]
    rw [List.getElem?_append_right (by rw [hx,Nat.succ_mul];omega),hx,← this]
    congr 1
    rw [Nat.succ_mul];omega
theorem flat_len {sz:Nat}:∀ {els:List (List V)},(∀ el ∈ els,el.length = sz) → els.flatten.length = els.length * sz
  | [],_=>by simp
  | x :: els,h=>by
    have:=flat_len (els:=els) (fun el he=>h el (by simp [he]))
    simp only [List.flatten_cons,List.length_append,h x (by simp),this,List.length_cons,Nat.succ_mul];omega
theorem rd_spec {h:H} (k:HR m h w) {b:Id} {o n:Nat} {xs:List V} (hr:rd h b o n = some xs) :
    ∃ l us,m b = some l ∧ xs.length = n ∧ Rl m xs us ∧ (∀ x ∈ us,scalar x) ∧ ∀ (j:Nat) v,us[j]? = some v → w.cell? ⟨l.blk,l.base + o + j,none⟩ = some v:=by
  unfold rd at hr
  cases hb:mget b h.mem with
  | none=>rw [hb] at hr;cases hr
  | some ob=>
    rw [hb] at hr
    cases ob with
    | map _ _=>cases hr
    | siter _ _ _=>cases hr
    | miter _ _ _ _=>cases hr
    | cells sz els f ro=>
      obtain ⟨l,hl,C,t,fz,hc⟩:=k.obj _ _ hb
      have hr':(Option.rec (motive:=fun _=>Option (List V)) none (fun el=>Bool.rec (motive:=fun _=>Option (List V)) (takeV n (dropV (Nat.mod o sz) el)) (some el) (Nat.beq (Nat.mod o sz) 0 && Nat.beq n sz)) (nthL els (Nat.div o sz)):Option (List V)) = some xs:=hr
      rw [nthL_eq] at hr'
      cases he:els[Nat.div o sz]? with
      | none=>rw [he] at hr';cases hr'
      | some el=>
        rw [he] at hr'
        have hlen:=hc.each el (List.mem_of_getElem? he)
        have hx:(∀ j,j < n → o % sz + j < sz) ∧ n ≤ (el.drop (o % sz)).length ∧ xs = (el.drop (o % sz)).take n:=by
          cases ht:(Nat.beq (Nat.mod o sz) 0 && Nat.beq n sz) with
          | false=>
            have hr2:takeV n (dropV (Nat.mod o sz) el) = some xs:=by simpa [ht] using hr'
            rw [dropV_eq] at hr2
            obtain ⟨h1,rfl⟩:=takeV_eq _ _ _ hr2
            refine ⟨fun j hj=>?_,h1,rfl⟩
            have h1':n ≤ (el.drop (o % sz)).length:=h1
            rw [List.length_drop,hlen] at h1'
            omega
          | true=>
            have hr2:el = xs:=by simpa [ht] using hr'
            simp only [Bool.and_eq_true] at ht
            have h1:o % sz = 0:=Nat.eq_of_beq_eq_true ht.1
            have h2:n = sz:=Nat.eq_of_beq_eq_true ht.2
            subst hr2;subst h2
            rw [h1];exact ⟨fun j hj=>by omega,by simp [hlen],by rw [List.drop_zero,List.take_of_length_le (by omega)]⟩
        obtain ⟨hn,hn2,rfl⟩:=hx
        have hxl:((el.drop (o % sz)).take n).length = n:=by rw [List.length_take];omega
        have hcell:∀ j,j < n → ∃ v u,((el.drop (o % sz)).take n)[j]? = some v ∧ C[l.base + o + j]? = some u ∧ R m v u ∧ scalar u:=by
          intro j hj
          have hjs:o % sz + j < sz:=hn j hj
          have hv:∃ v,el[o % sz + j]? = some v:=⟨el[o % sz + j]'(by omega),List.getElem?_eq_getElem (by omega)⟩
          obtain ⟨v,hv⟩:=hv
          have hf:=flat_get hc.each he (o % sz + j) hjs
          rw [hv] at hf
          obtain ⟨u,hu,hR,hs⟩:=hc.val _ _ hf
          have hi:Nat.div o sz * sz + (o % sz + j) = o + j:=by
            have:=Nat.div_add_mod o sz
            rw [Nat.mul_comm] at this
            show o / sz * sz + (o % sz + j) = o + j
            omega
          rw [hi] at hu
          refine ⟨v,u,?_,by rw [← hu];congr 1;omega,hR,hs⟩
          rw [List.getElem?_take_of_lt hj,List.getElem?_drop,hv]
        refine ⟨l,(List.range n).map (fun j=>(C[l.base + o + j]?).getD undef),hl,hxl,?_,?_,?_⟩
        · refine Rl.mk (by simp [hxl]) ?_
          intro j v u hv hu
          have hj:j < n:=by
            have:=(List.getElem?_eq_some_iff.1 hv).1;omega
          obtain ⟨v',u',hv',hu',hR,_⟩:=hcell j hj
          rw [hv] at hv';cases hv'
          simp only [List.getElem?_map,List.getElem?_range hj,Option.map_some,Option.some.injEq] at hu
          rw [hu'] at hu;subst hu;exact hR
        · intro x hx
          simp only [List.mem_map,List.mem_range] at hx
          obtain ⟨j,hj,rfl⟩:=hx
          obtain ⟨v',u',_,hu',_,hs⟩:=hcell j hj
          rw [hu'];exact hs
        · intro j v hv
          have hj:j < n:=by
            have:=(List.getElem?_eq_some_iff.1 hv).1;simpa using this
          obtain ⟨v',u',_,hu',_,_⟩:=hcell j hj
          simp only [List.getElem?_map,List.getElem?_range hj,Option.map_some,Option.some.injEq] at hv
          rw [hu'] at hv;simp at hv;subst hv
          rw [cell_of hc.at_,hu']
end Go.Ev
end
section
namespace Go.Ev
open Go
variable {P:Program} {m:Mp} {w:World}
theorem aggO_some {x:Option (List V)} {r:V} (h:aggO x = some r):∃ l,x = some l ∧ r = .agg l:=by
  cases x with
  | none=>cases h
  | some l=>cases h;exact ⟨l,rfl,rfl⟩
theorem asN_some {v:V} {k:Nat → Option V} {r:V} (h:asN v k = some r):∃ kk n,v = .i kk (.ofNat n) ∧ k n = some r:=by
  obtain ⟨kk,n,rfl,h⟩:=as_i_O_some h
  cases n with
  | ofNat n=>exact ⟨kk,n,rfl,h⟩
  | negSucc n=>cases h
theorem nthF_eq:∀ (l:List Field) (i:Nat),nthF l i = l[i]?
  | [],i=>by cases i <;> rfl
  | a :: l,0=>rfl
  | a :: l,i + 1=>by rw [nthF,nthF_eq l i];rfl
theorem R_agg_cells {l:List V} {u:Value} (h:R m (.agg l) u):∃ l',u = .agg ⟨l'⟩ ∧ Rl m l l' ∧ ∀ x ∈ l',scalar x:=by simpa only [R] using h
theorem part_sound {t:TypeId} {n off:Nat} {l:List V} {l':List Value} {v:V} {d:TypeDesc} (hu:P.underlying t = some d) (hn:sizeT P t = some n) (hl:Rl m l l') (hs:∀ x ∈ l',scalar x)
    (hv:partV (isAggT P t) off n l = some v):∃ u,(part t ⟨l'⟩ off).run P w = .ok u w ∧ R m v u:=by
  unfold partV at hv
  rcases iteO_of hv with ⟨ha,hv⟩ | ⟨ha,hv⟩
  · obtain ⟨x,hx,rfl⟩:=aggO_some hv
    rw [dropV_eq] at hx
    obtain ⟨hle,rfl⟩:=takeV_eq _ _ _ hx
    refine ⟨.agg ((⟨l'⟩:Array Value).extract off (off + n)),?_,?_⟩
    · simp only [part,Sem.run_bind,isAgg_run hu,Result.andThen_ok,ha,if_true,sizeT_run hn,Sem.run_pure]
    · simp only [R]
      refine ⟨(l'.drop off).take n,?_,(hl.drop off).take n,fun x hx=>hs x (List.mem_of_mem_drop (List.mem_of_mem_take hx))⟩
      congr 1
      apply Array.toList_inj.1
      simp [List.extract_eq_take_drop]
  · rw [nthV_eq] at hv
    obtain ⟨u,hu',hR⟩:=hl.get hv
    refine ⟨u,?_,hR⟩
    have:(⟨l'⟩:Array Value)[off]? = some u:=by simpa using hu'
    simp [part,isAgg_run hu,ha,this]
theorem load_sound {h:H} (k:HR m h w) {t:TypeId} {d:TypeDesc} {n:Nat} {x:V} {u:Value} {v:V} (hd:P.underlying t = some d) (hn:sizeT P t = some n) (hx:R m x u)
    (hv:as_p_O x (fun b o=>iteO (isAggT P t) (aggO (rd h b o n)) (rd1 h b o)) none = some v):∃ u',(Instr.loadAt t u).run P w = .ok u' w ∧ R m v u':=by
  obtain ⟨b,o,rfl,hv⟩:=as_p_O_some hv
  simp only [R] at hx
  obtain ⟨l,hl,rfl⟩:=hx
  rcases iteO_of hv with ⟨ha,hv⟩ | ⟨ha,hv⟩
  · obtain ⟨xs,hxs,rfl⟩:=aggO_some hv
    obtain ⟨l2,us,hl2,hlen,hR,hs,hc⟩:=rd_spec k hxs
    rw [hl] at hl2;cases hl2
    refine ⟨.agg ⟨us⟩,?_,by simp only [R];exact ⟨us,rfl,hR,hs⟩⟩
    have hrun:(loadCells ⟨l.blk,l.base + o,none⟩ n).run P w = .ok ⟨us⟩ w:=by
      have:=run_loadCells_list (P:=P) (w:=w) ⟨l.blk,l.base + o,none⟩ us (fun j v hv=>by rw [addr_add];exact hc j v hv)
      rw [← hlen,← hR.length];simpa using this
    simp [Instr.loadAt,Instr.sureAddr,loadVar,isAgg_run hd,ha,sizeT_run hn,hrun]
  · have hc:∃ u',w.cell? ⟨l.blk,l.base + o,none⟩ = some u' ∧ R m v u':=by
      unfold rd1 at hv
      cases hb:mget b h.mem with
      | none=>rw [hb] at hv;cases hv
      | some ob=>
        rw [hb] at hv
        cases ob with
        | map _ _=>cases hv
        | siter _ _ _=>cases hv
        | miter _ _ _ _=>cases hv
        | cells sz els f ro=>
          have hv1:(Option.rec (motive:=fun _=>Option V) none (fun el=>nthV el (Nat.mod o sz)) (nthL els (Nat.div o sz)):Option V) = some v:=hv
          rw [nthL_eq] at hv1
          cases he:els[Nat.div o sz]? with
          | none=>rw [he] at hv1;cases hv1
          | some el=>
            rw [he] at hv1
            have hv2:nthV el (o % sz) = some v:=hv1
            rw [nthV_eq] at hv2
            obtain ⟨l2,hl2,C,t2,fz,hcs⟩:=k.obj _ _ hb
            rw [hl] at hl2;cases hl2
            have hlt:=(List.getElem?_eq_some_iff.1 hv2).1
            have hlen:=hcs.each el (List.mem_of_getElem? he)
            have hf:=flat_get hcs.each he (o % sz) (by omega)
            rw [hv2] at hf
            obtain ⟨u',hu',hR,_⟩:=hcs.val _ _ hf
            have hi:Nat.div o sz * sz + o % sz = o:=by
              have:=Nat.div_add_mod o sz;rw [Nat.mul_comm] at this;exact this
            rw [hi] at hu'
            exact ⟨u',by rw [cell_of hcs.at_,hu'],hR⟩
    obtain ⟨u',hu',hR⟩:=hc
    exact ⟨u',by simp [Instr.loadAt,Instr.sureAddr,loadVar,isAgg_run hd,ha,hu'],hR⟩
theorem wrapF_eq (k:IntKind) (n:Int):wrapF k n = k.wrap n:=by
  cases n with
  | negSucc m=>rfl
  | ofNat m=>
    show (Bool.rec (motive:=fun _=>Int) (k.wrap (.ofNat m)) (.ofNat m) (Nat.ble m (thr k)):Int) = _
    cases e:Nat.ble m (thr k) with
    | false=>rfl
    | true=>
      have hm:=Nat.le_of_ble_eq_true e
      symm
      cases k <;> simp only [thr] at hm <;> simp only [IntKind.wrap,IntKind.bits,IntKind.signed] <;> simp <;> omega
theorem kEq_iff (j k:IntKind):kEq j k = true ↔ j = k:=by cases j <;> cases k <;> simp [kEq]
theorem iLt_iff (a b:Int):iLt a b = decide (a < b):=by
  cases a with
  | ofNat x=>cases b with
    | ofNat y=>
      show Nat.ble (Nat.succ x) y = _
      rw [Bool.eq_iff_iff];simp [Nat.ble_eq];omega
    | negSucc y=>show false = _;symm;simp;omega
  | negSucc x=>cases b with
    | ofNat y=>show true = _;symm;simp;omega
    | negSucc y=>
      show Nat.ble (Nat.succ y) x = _
      rw [Bool.eq_iff_iff];simp [Nat.ble_eq];omega
theorem iEq_iff (a b:Int):iEq a b = (a == b):=by
  cases a with
  | ofNat x=>cases b with
    | ofNat y=>show Nat.beq x y = _;rw [Bool.eq_iff_iff];simp [Nat.beq_eq];omega
    | negSucc y=>show false = _;symm;simp
  | negSucc x=>cases b with
    | ofNat y=>show false = _;symm;simp
    | negSucc y=>show Nat.beq x y = _;rw [Bool.eq_iff_iff];simp [Nat.beq_eq]
theorem iAdd_eq (a b:Int):iAdd a b = a + b:=by
  cases a with
  | ofNat x=>cases b with
    | ofNat y=>rfl
    | negSucc y=>rfl
  | negSucc x=>rfl
theorem iSub_eq (a b:Int):iSub a b = a - b:=by
  cases a with
  | ofNat x=>cases b with
    | ofNat y=>
      show (Bool.rec (motive:=fun _=>Int) (Int.sub (.ofNat x) (.ofNat y)) (.ofNat (Nat.sub x y)) (Nat.ble y x):Int) = _
      cases e:Nat.ble y x with
      | false=>rfl
      | true=>
        have:=Nat.le_of_ble_eq_true e
        show Int.ofNat (x - y) = Int.ofNat x - Int.ofNat y
        simp;omega
    | negSucc y=>rfl
  | negSucc x=>rfl
theorem intOp_sound {op:BinOp} {k:IntKind} {a b:Int} {v:V} (t:TypeId) (hsh:op ≠ .shl ∧ op ≠ .shr) (h:(intOp op).run k a b = some v) :
    ∃ u,(binOp op t (.int k a) (.int k b)).run P w = .ok u w ∧ R m v u:=by
  obtain ⟨h1,h2⟩:=hsh
  cases op <;> simp only [intOp] at h <;> first
    | exact absurd rfl h1
    | exact absurd rfl h2
    | skip
  case quo=>
    rcases iteO_of h with ⟨_,h⟩ | ⟨h0,h⟩
    · cases h
    · cases h
      rw [iEq_iff] at h0
      have:b ≠ 0:=by simpa using h0
      exact ⟨_,by simp [binOp,Op.intDiv,this];rfl,by simp [R,wrapF_eq]⟩
  case rem=>
    rcases iteO_of h with ⟨_,h⟩ | ⟨h0,h⟩
    · cases h
    · cases h
      rw [iEq_iff] at h0
      have:b ≠ 0:=by simpa using h0
      exact ⟨_,by simp [binOp,Op.intDiv,this];rfl,by simp [R]⟩
  all_goals
    cases h
    refine ⟨_,by simp only [binOp,ne_eq,not_true_eq_false,if_false,Op.intArith,Op.intBits,Op.intCmp,Sem.run_pure];rfl,?_⟩
    simp only [R,wrapF_eq,iAdd_eq,iSub_eq,iEq_iff,iLt_iff]
  all_goals first
    | rfl
    | (congr 1;rw [Bool.eq_iff_iff];simp;done)
    | (congr 1;rw [Bool.eq_iff_iff];simp;omega)
    | (simp;done)
end Go.Ev
end
section
namespace Go.Ev
open Go
variable {P:Program} {m:Mp} {w:World}
theorem map_toNat_inj:∀ (l r:List UInt8),l.map UInt8.toNat = r.map UInt8.toNat → l = r
  | [],r,h=>by cases r with | nil=>rfl | cons _ _=>simp at h
  | a :: l,[],h=>by simp at h
  | a :: l,b :: r,h=>by
    simp only [List.map_cons,List.cons.injEq] at h
    rw [UInt8.toNat_inj.1 h.1,map_toNat_inj l r h.2]
theorem sEq_sound {s t:ByteArray} {l c l' c':Nat} (h:bytesIn s = bytesOf l c) (hc:c < 256 ^ l) (h':bytesIn t = bytesOf l' c') (hc':c' < 256 ^ l'):sEq l c l' c' = (s.toList == t.toList):=by
  rw [ByteArray.toList_eq,ByteArray.toList_eq,Bool.eq_iff_iff]
  simp only [sEq,Bool.and_eq_true,Nat.beq_eq,beq_iff_eq]
  constructor
  · rintro ⟨rfl,rfl⟩
    exact map_toNat_inj _ _ (h.trans h'.symm)
  · intro e
    have hb:bytesIn s = bytesIn t:=by unfold bytesIn;rw [e]
    have hl:l = l':=by rw [← bytesOf_length l c,← h,hb,h',bytesOf_length]
    subst hl
    exact ⟨rfl,bytesOf_inj _ _ _ hc hc' (by rw [← h,hb,h'])⟩
theorem ltB_map:∀ (x y:List UInt8),ltB (x.map UInt8.toNat) (y.map UInt8.toNat) = Op.bytesLess x y
  | x,[]=>by cases x <;> rfl
  | [],_ :: _=>rfl
  | a :: x,b :: y=>by
    simp only [List.map_cons,ltB,Op.bytesLess,ltB_map x y]
    have e1:Nat.blt a.toNat b.toNat = decide (a < b):=by
      rw [Bool.eq_iff_iff];simp [Nat.blt,Nat.ble_eq,UInt8.lt_iff_toNat_lt];omega
    have e2:Nat.beq a.toNat b.toNat = (a == b):=by
      rw [Bool.eq_iff_iff];simp [Nat.beq_eq,UInt8.toNat_inj]
    rw [e1,e2]
    cases decide (a < b) <;> cases (a == b) <;> simp
theorem ltB_sound {s t:ByteArray} {l c l' c':Nat} (h:bytesIn s = bytesOf l c) (h':bytesIn t = bytesOf l' c'):ltB (bytesOf l c) (bytesOf l' c') = Op.bytesLess s.toList t.toList:=by
  rw [ByteArray.toList_eq,ByteArray.toList_eq,← h,← h'];exact ltB_map _ _
theorem bytesOf_append:∀ (l c l' c':Nat),c < 256 ^ l → bytesOf l c ++ bytesOf l' c' = bytesOf (l + l') (c + c' * 256 ^ l)
  | 0,c,l',c',h=>by simp at h;subst h;simp [bytesOf]
  | l + 1,c,l',c',h=>by
    have hlt:c / 256 < 256 ^ l:=by rw [Nat.pow_succ] at h;omega
    have e1:(c + c' * 256 ^ (l + 1)) % 256 = c % 256:=by
      rw [Nat.pow_succ,← Nat.mul_assoc,Nat.add_mul_mod_self_right]
    have e2:(c + c' * 256 ^ (l + 1)) / 256 = c / 256 + c' * 256 ^ l:=by
      rw [Nat.pow_succ,← Nat.mul_assoc,Nat.add_mul_div_right _ _ (by decide)]
    have e3:l + 1 + l' = (l + l') + 1:=by omega
    rw [e3]
    simp only [bytesOf,List.cons_append,e1,e2,bytesOf_append l (c / 256) l' c' hlt]
theorem code_append_lt {l c l' c':Nat} (h:c < 256 ^ l) (h':c' < 256 ^ l'):c + c' * 256 ^ l < 256 ^ (l + l'):=by
  have:(c' + 1) * 256 ^ l ≤ 256 ^ l' * 256 ^ l:=Nat.mul_le_mul_right _ h'
  rw [Nat.pow_add,Nat.mul_comm (256 ^ l)]
  rw [Nat.succ_mul] at this
  omega
theorem shl_256 (c l:Nat):c <<< (8 * l) = c * 256 ^ l:=by
  rw [Nat.shiftLeft_eq,Nat.pow_mul]
theorem shr_256 (c l:Nat):c >>> (8 * l) = c / 256 ^ l:=by
  rw [Nat.shiftRight_eq_div_pow,Nat.pow_mul]
theorem bytesOf_get:∀ (l c i:Nat),i < l → (bytesOf l c)[i]? = some (c / 256 ^ i % 256)
  | 0,c,i,h=>by omega
  | l + 1,c,0,h=>by simp [bytesOf]
  | l + 1,c,i + 1,h=>by
    simp only [bytesOf,List.getElem?_cons_succ]
    rw [bytesOf_get l (c / 256) i (by omega),Nat.div_div_eq_div_mul,Nat.pow_succ,Nat.mul_comm 256]
theorem bytesOf_drop:∀ (k l c:Nat),(bytesOf l c).drop k = bytesOf (l - k) (c / 256 ^ k)
  | 0,l,c=>by simp
  | k + 1,0,c=>by simp [bytesOf]
  | k + 1,l + 1,c=>by
    simp only [bytesOf,List.drop_succ_cons]
    rw [bytesOf_drop k l (c / 256),Nat.div_div_eq_div_mul,Nat.pow_succ,Nat.mul_comm 256]
    congr 1;omega
theorem bytesOf_take:∀ (k l c:Nat),k ≤ l → (bytesOf l c).take k = bytesOf k (c % 256 ^ k)
  | 0,l,c,h=>by simp [bytesOf]
  | k + 1,0,c,h=>by omega
  | k + 1,l + 1,c,h=>by
    have e1:c % 256 ^ (k + 1) % 256 = c % 256:=by
      rw [Nat.pow_succ,Nat.mul_comm];exact Nat.mod_mul_right_mod _ _ _
    have e2:c % 256 ^ (k + 1) / 256 = c / 256 % 256 ^ k:=by
      rw [Nat.pow_succ,Nat.mul_comm];exact Nat.mod_mul_right_div_self _ _ _
    simp only [bytesOf,List.take_succ_cons,e1,e2,bytesOf_take k l (c / 256) (by omega)]
theorem bytesIn_append (s t:ByteArray):bytesIn (s ++ t) = bytesIn s ++ bytesIn t:=by
  simp [bytesIn,ByteArray.data_append]
theorem bytesIn_extract (s:ByteArray) (i j:Nat):bytesIn (s.extract i j) = ((bytesIn s).drop i).take (j - i):=by
  obtain ⟨⟨l⟩⟩:=s
  have:=ByteArray.extract_mk l i j
  rw [show (ByteArray.mk ⟨l⟩).extract i j = (ByteArray.mk l.toArray).extract i j from rfl,this]
  simp [bytesIn,List.map_take,List.map_drop]
theorem strOp_sound {op:BinOp} {l c l' c':Nat} {x y:Value} {v:V} (t:TypeId) (hx:R m (.s l c) x) (hy:R m (.s l' c') y) (h:(strOp op).run l c l' c' = some v) :
    ∃ u,(binOp op t x y).run P w = .ok u w ∧ R m v u:=by
  rw [R_str] at hx hy
  obtain ⟨s,rfl,hs,hc⟩:=hx
  obtain ⟨s',rfl,hs',hc'⟩:=hy
  have he:=sEq_sound hs hc hs' hc'
  have hl:=ltB_sound hs hs'
  cases op <;> simp only [strOp] at h <;> (try (cases h;done))
  case add=>
    cases e:Nat.ble (l + l') 1000000000 with
    | false=>rw [e] at h;cases h
    | true=>
      rw [e] at h;cases h
      have hle:=Nat.le_of_ble_eq_true e
      have h1:=str_size hs;have h2:=str_size hs'
      refine ⟨.string (s ++ s'),by rw [binOp_string_add,run_string_add_sum];omega,?_⟩
      rw [R_str]
      refine ⟨s ++ s',rfl,?_,?_⟩
      · rw [bytesIn_append,hs,hs',bytesOf_append _ _ _ _ hc,shl_256]
      · rw [shl_256];exact code_append_lt hc hc'
  all_goals
    cases h
    refine ⟨_,by simp only [binOp,Op.stringOp,Sem.run_pure];rfl,?_⟩
    simp only [R,he,hl]
theorem index_str {s:ByteArray} {l c i:Nat} (h:bytesIn s = bytesOf l c) (hi:i < l):∃ b:UInt8,s[i]? = some b ∧ b.toNat = (c >>> (8 * i)) % 256:=by
  have hsz:=str_size h
  have hg:=bytesOf_get l c i hi
  rw [← h] at hg
  simp only [bytesIn,List.getElem?_map,Option.map_eq_some_iff] at hg
  obtain ⟨b,hb,hb2⟩:=hg
  refine ⟨b,?_,by rw [shr_256];exact hb2⟩
  rw [ByteArray.getElem?_lt' s i (by omega)]
  rw [← hb]
  have:i < s.data.toList.length:=by rw [Array.length_toList];exact (by rw [hsz];exact hi:i < s.size)
  rw [List.getElem?_eq_getElem this]
  rfl
theorem slice_str {s:ByteArray} {l c i j:Nat} (h:bytesIn s = bytesOf l c) (hij:i ≤ j) (hj:j ≤ l):R m (.s (j - i) ((c >>> (8 * i)) % 2 ^ (8 * (j - i)))) (.string (s.extract i j)):=by
  rw [R_str]
  refine ⟨_,rfl,?_,?_⟩
  · rw [bytesIn_extract,h,bytesOf_drop,bytesOf_take _ _ _ (by omega),shr_256,Nat.pow_mul]
  · rw [Nat.pow_mul];exact Nat.mod_lt _ (Nat.pow_pos (by decide))
end Go.Ev
end
