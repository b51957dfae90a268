/-
  A part of the proof of the card of WorkGeneralizationIsLeast (second form): lemmas that the text Card uses. No condition of its own.
-/
import Derived.Test.YtaloeffmigffaaaGreatDoorEv03
import Derived.Lib.ConvBytes
import Derived.Laws.BytesString
set_option linter.all false
set_option linter.unusedVariables false
set_option linter.unusedSimpArgs false
section
namespace Go.Ev
open Go
variable {P:Program} {m:Mp} {w:World}
theorem upTo_spec (b:Id):∀ (l:List Id),(∀ x ∈ (upTo b l).1,x ≠ b ∧ x ∈ l) ∧ (∀ x ∈ (upTo b l).2,x ∈ l) ∧ (∀ x ∈ l,x ≠ b → x ∈ (upTo b l).1 ∨ x ∈ (upTo b l).2) ∧ (b ∈ l → ∃ pre,l = pre ++ b :: (upTo b l).2) ∧ (b ∉ l → (upTo b l).2 = [])
  | []=>by simp [upTo]
  | x :: l=>by
    obtain ⟨h1,h2,h3,h4,h5⟩:=upTo_spec b l
    cases e:Id.beq x b with
    | true=>
      have:=Id.beq_iff.1 e;subst this
      simp only [upTo,e,cond_true]
      refine ⟨by simp,fun y hy=>by simp [hy],fun y hy hne=>?_,fun _=>⟨[],rfl⟩,fun h=>absurd (by simp) h⟩
      simp only [List.mem_cons] at hy
      rcases hy with rfl | hy
      · exact absurd rfl hne
      · exact .inr hy
    | false=>
      have hne:x ≠ b:=fun h=>by rw [Id.beq_iff.2 h] at e;cases e
      simp only [upTo,e,cond_false]
      refine ⟨?_,fun y hy=>by simp [h2 y hy],?_,?_,?_⟩
      · intro y hy
        simp only [List.mem_cons] at hy ⊢
        rcases hy with rfl | hy
        · exact ⟨hne,.inl rfl⟩
        · exact ⟨(h1 y hy).1,.inr (h1 y hy).2⟩
      · intro y hy hyb
        simp only [List.mem_cons] at hy ⊢
        rcases hy with rfl | hy
        · exact .inl (.inl rfl)
        · rcases h3 y hy hyb with h | h
          · exact .inl (.inr h)
          · exact .inr h
      · intro hb
        simp only [List.mem_cons] at hb
        rcases hb with rfl | hb
        · exact absurd rfl hne
        · obtain ⟨pre,hpre⟩:=h4 hb
          exact ⟨x :: pre,by simp [← hpre]⟩
      · intro hb
        exact h5 (fun h=>hb (by simp [h]))
theorem grown_fr {h h':H} (k:HR m h w) {b f:Id} {sz len q tg:Nat} {els old new:List (List V)} {l:Loc} {v:V} (hb:mget b h.mem = some (.cells sz els f (.rw tg))) (hl:m b = some l)
    (hq:q + len = els.length) (hold:old = els.drop q) (hg:grown tg sz b f len old new h = .ok v h') (hne:∀ el ∈ new,el.length = sz)
    {C':Array Value} {t:TypeId} {fz':Nat × Nat} {w':World} {l':Loc}
    (hw:(w' = { w with heap:=w.heap.setIfInBounds l.blk (.cells C' t fz') } ∧ l' = ⟨l.blk,l.base + q * sz,l.lim - q * sz⟩ ∧ (∃ C fz,w.heap[l.blk]? = some (.cells C t fz') ∧ CellsAt m w l sz els (.rw tg) C t fz ∧ fz = fz' ∧ C'.size = C.size ∧
        (∀ j,j < l.base + els.flatten.length → C'[j]? = C[j]?))) ∨
      (w' = { w with heap:=w.heap.push (.cells C' t fz') } ∧ l' = ⟨w.heap.size,0,C'.size⟩))
    (hat:∀ m2:Mp,m.le m2 → w'.heap[l'.blk]? = some (.cells C' t fz') → CellsAt m2 w' l' sz (old ++ new) (.rw tg) C' t fz') :
    ∃ m',Fr m h w m' h' w' ∧ m' h.next = some l' ∧ v = .sl h.next 0 (len + new.length) sz:=by
  obtain ⟨mem,fams,next⟩:=h
  unfold grown at hg
  simp only at hg
  cases hs:next.succ with
  | none=>rw [hs] at hg;cases hg
  | some nx=>
    rw [hs] at hg
    simp only at hg
    obtain ⟨u1,u2,u3,u4,u5⟩:=upTo_spec b (fget f fams)
    generalize hut:upTo b (fget f fams) = ut at hg u1 u2 u3 u4 u5
    obtain ⟨dead,rest⟩:=ut
    simp only at hg u1 u2 u3 u4 u5
    cases hg
    rw [appL_eq,lenL_eq]
    have hno:m next = none:=by
      cases e:m next with
      | none=>rfl
      | some l0=>exact absurd (k.dom _ _ e) (Nat.lt_irrefl _)
    have hle:m.le (fun x=>if x = next then some l' else m x):=by
      intro x lx hx
      have:x ≠ next:=fun e=>by rw [e,hno] at hx;cases hx
      simp [this,hx]
    have hnx:=Id.succ_toNat hs
    have hbn:b.toNat < next.toNat:=k.dom _ _ hl
    have hmem:∀ x ox,mget x (mput next (some (.cells sz (old ++ new) f (.rw tg))) (killM dead mem)) = some ox → (x = next ∧ ox = .cells sz (old ++ new) f (.rw tg)) ∨ (x ≠ next ∧ x ∉ dead ∧ mget x mem = some ox):=by
      intro x ox hx
      by_cases e:x = next
      · subst e;rw [mget_mput] at hx;exact .inl ⟨rfl,(Option.some.inj hx).symm⟩
      · rw [mget_mput_ne e,mget_killM] at hx
        split at hx
        · cases hx
        · exact .inr ⟨e,by assumption,hx⟩
    obtain ⟨lb,hlb,C0,t0,fz0,hcb⟩:=k.obj _ _ hb
    have hlb:lb = l:=by have:m b = some lb:=hlb;rw [hl] at this;cases this;rfl
    subst hlb
    have hblt:=k.lt _ _ hl
    have star:∀ y sz' els' f' ro' ly,y ∉ dead → mget y mem = some (.cells sz' els' f' ro') → m y = some ly → ly.blk = lb.blk → ly.base + els'.flatten.length ≤ lb.base + els.flatten.length:=by
      intro y sz' els' f' ro' ly hd hy hly heq
      by_cases e:y = b
      · subst e
        have h1:mget y mem = some (.cells sz els f (.rw tg)):=hb
        rw [h1] at hy;cases hy
        rw [hl] at hly;cases hly;exact Nat.le_refl _
      · have hf:f' = f:=k.sep y b _ _ ly lb hy hb hly hl e heq
        subst hf
        have hyf:y ∈ fget f' fams:=k.fam y b _ _ _ _ _ _ _ hy hb e
        have hyb:b ∈ fget f' fams:=k.fam b y _ _ _ _ _ _ _ hb hy (Ne.symm e)
        have hyr:y ∈ rest:=by
          rcases u3 y hyf e with h1 | h1
          · exact absurd h1 hd
          · exact h1
        obtain ⟨pre,hpre⟩:=u4 hyb
        have ho:=k.ord f'
        have ho':(pre ++ b :: rest).Pairwise (EndLe m mem):=by rw [← hpre];exact ho
        have:=(List.pairwise_append.1 ho').2.1
        have:=(List.pairwise_cons.1 this).1 y hyr
        exact this _ _ _ _ _ _ _ _ _ _ hb hy hl hly heq.symm
    have hend:∀ (hA:l'.blk = lb.blk),lb.base + els.flatten.length ≤ l'.base + (old ++ new).flatten.length:=by
      intro hA
      rcases hw with ⟨_,hl',_⟩ | ⟨_,hl'⟩
      · subst hl'
        have h1:=flat_len hcb.each
        have h2:(old ++ new).flatten.length = old.flatten.length + new.flatten.length:=by simp
        have h3:old.flatten.length = els.flatten.length - q * sz:=by
          rw [hold,flat_drop _ _ hcb.each,List.length_drop]
        have h4:q * sz ≤ els.flatten.length:=by rw [h1];exact Nat.mul_le_mul_right _ (by omega)
        show lb.base + els.flatten.length ≤ lb.base + q * sz + (old ++ new).flatten.length
        omega
      · subst hl'
        have:w.heap.size = lb.blk:=hA
        omega
    have hatw:w'.heap[l'.blk]? = some (.cells C' t fz'):=by
      rcases hw with ⟨rfl,rfl,_⟩ | ⟨rfl,rfl⟩
      · simp [hblt]
      · simp
    have hoth:∀ B,B < w.heap.size → B ≠ lb.blk → w'.heap[B]? = w.heap[B]?:=by
      intro B hB hne
      rcases hw with ⟨rfl,_,_⟩ | ⟨rfl,_⟩
      · simp [Array.getElem?_setIfInBounds,Ne.symm hne]
      · exact heap_push_old _ hB
    have hsize:w.heap.size ≤ w'.heap.size ∧ l'.blk < w'.heap.size:=by
      rcases hw with ⟨rfl,rfl,_⟩ | ⟨rfl,rfl⟩
      · simp [hblt]
      · simp
    have hblk:l'.blk = lb.blk ∨ l'.blk = w.heap.size:=by
      rcases hw with ⟨_,rfl,_⟩ | ⟨_,rfl⟩
      · exact .inl rfl
      · exact .inr rfl
    refine ⟨_,⟨hle,⟨?_,?_,?_,?_,?_,?_,?_,?_⟩,hsize.1,?_,?_,?_,?_,?_,?_,by show next.toNat ≤ nx.toNat;omega,fun x sz1 els1 f1 ro1 hx=>by
      rcases hmem x _ hx with ⟨rfl,e⟩ | ⟨_,_,hx1⟩
      · cases e;exact .inr ⟨b,_,_,_,hb⟩
      · exact .inr ⟨x,sz1,els1,ro1,hx1⟩⟩,by simp,rfl⟩
    ·
      intro x ox hx
      rcases hmem x ox hx with ⟨rfl,rfl⟩ | ⟨hne,hd,hx1⟩
      · exact ⟨l',by simp,C',t,fz',hat _ hle hatw⟩
      · clear hx
        have hx:=hx1
        obtain ⟨lx,hlx,ho⟩:=k.obj x ox hx
        refine ⟨lx,by simp [hne,hlx],?_⟩
        have hltx:=k.lt _ _ hlx
        by_cases hB:lx.blk = lb.blk
        ·
          rcases hw with ⟨hw1,hl1,C,fz,hC,hCA,hfz,hsz,hsame⟩ | ⟨hw1,hl1⟩
          · by_cases hxb:∃ sz' els' f' ro',ox = .cells sz' els' f' ro'
            · obtain ⟨sz',els',f',ro',rfl⟩:=hxb
              obtain ⟨Cx,tx,fzx,hcx⟩:=ho
              have hhx:=hcx.at_
              rw [hB,hC] at hhx
              have hC1:C = Cx ∧ t = tx ∧ fz' = fzx:=by
                injection hhx with e;injection e with e1 e2 e3
                exact ⟨e1,e2,e3⟩
              obtain ⟨hC1,hT1,hF1⟩:=hC1
              have hst:=star x _ _ _ _ lx hd hx hlx hB
              have hatx:w'.heap[lx.blk]? = some (.cells C' t fz'):=by rw [hB,← hatw,hl1]
              subst hC1
              subst hT1
              subst hF1
              refine ⟨C',t,fz',⟨hatx,by rw [hsz];exact hcx.room,hcx.len,hcx.each,?_,hcx.free,hcx.plain,hcx.typ,hcx.al⟩⟩
              intro i v hv
              obtain ⟨u,h1,h2,h3⟩:=hcx.val i v hv
              have hi:=(List.getElem?_eq_some_iff.1 hv).1
              exact ⟨u,by rw [hsame _ (by omega)];exact h1,h2.mono hle,h3⟩
            · exfalso
              by_cases e:x = b
              · subst e
                have h1:mget x mem = some (.cells sz els f (.rw tg)):=hb
                rw [h1] at hx;cases hx
                exact hxb ⟨_,_,_,_,rfl⟩
              · have:=k.sep x b ox _ lx lb hx hb hlx hl e hB
                cases ox with
                | cells sz' els' f' ro'=>exact hxb ⟨_,_,_,_,rfl⟩
                | map _ _=>exact this
                | siter _ _ _=>exact this
                | miter _ _ _ _=>exact this
          · subst hw1
            exact ho.keep hle (heap_push_old _ hltx)
        · exact ho.keep hle (hoth _ hltx hB)
    ·
      intro x lx hx
      show x.toNat < nx.toNat
      by_cases e:x = next
      · subst e;omega
      · simp [e] at hx;have:=k.dom _ _ hx;have h9:x.toNat < next.toNat:=this;omega
    ·
      intro x y ox oy lx ly hx hy hlx hly hne heq
      rcases hmem x ox hx with ⟨rfl,rfl⟩ | ⟨hn1,hd1,hx1⟩ <;> rcases hmem y oy hy with ⟨rfl,rfl⟩ | ⟨hn2,hd2,hy1⟩
      · exact absurd rfl hne
      · simp at hlx;simp [hn2] at hly;subst hlx
        have:=k.lt _ _ hly
        rcases hblk with hA | hA
        · by_cases e:y = b
          · subst e
            have h1:mget y mem = some (.cells sz els f (.rw tg)):=hb
            rw [h1] at hy1;cases hy1;exact rfl
          · have hs2:=k.sep y b oy _ ly lb hy1 hb hly hl e (by rw [← heq,hA])
            cases oy with
            | cells sz' els' f' ro'=>exact (show f' = f from hs2).symm
            | map _ _=>exact hs2
            | siter _ _ _=>exact hs2
            | miter _ _ _ _=>exact hs2
        · omega
      · simp at hly;simp [hn1] at hlx;subst hly
        have:=k.lt _ _ hlx
        rcases hblk with hA | hA
        · by_cases e:x = b
          · subst e
            have h1:mget x mem = some (.cells sz els f (.rw tg)):=hb
            rw [h1] at hx1;cases hx1;exact rfl
          · have hs2:=k.sep x b ox _ lx lb hx1 hb hlx hl e (by rw [heq,hA])
            cases ox with
            | cells sz' els' f' ro'=>exact (show f' = f from hs2)
            | map _ _=>exact hs2
            | siter _ _ _=>exact hs2
            | miter _ _ _ _=>exact hs2
        · omega
      · simp [hn1] at hlx;simp [hn2] at hly
        exact k.sep x y ox oy lx ly hx1 hy1 hlx hly hne heq
    ·
      intro x y sz1 els1 f1 ro1 sz2 els2 ro2 hx hy hne
      show x ∈ fget f1 (fput f (next :: b :: rest) fams)
      by_cases hf:f1 = f
      · subst hf
        rw [fget_fput]
        rcases hmem x _ hx with ⟨rfl,_⟩ | ⟨hn1,hd1,hx1⟩
        · simp
        · by_cases e:x = b
          · subst e;simp
          · have hxf:x ∈ fget f1 fams:=k.fam x b _ _ _ _ _ _ _ hx1 hb e
            rcases u3 x hxf e with h1 | h1
            · exact absurd h1 hd1
            · simp [h1]
      · rw [fget_fput_ne hf]
        rcases hmem x _ hx with ⟨rfl,e1⟩ | ⟨hn1,hd1,hx1⟩
        · cases e1;exact absurd rfl hf
        · rcases hmem y _ hy with ⟨rfl,e2⟩ | ⟨hn2,hd2,hy1⟩
          · cases e2;exact absurd rfl hf
          · exact k.fam x y _ _ _ _ _ _ _ hx1 hy1 hne
    ·
      intro f1
      show (fget f1 (fput f (next :: b :: rest) fams)).Pairwise _
      have trans:∀ x y,x ≠ next → y ≠ next → EndLe m mem x y → EndLe (fun x=>if x = next then some l' else m x) (mput next (some (.cells sz (old ++ new) f (.rw tg))) (killM dead mem)) x y:=by
        intro x y hxn hyn hxy sz1 els1 f1 ro1 sz2 els2 f2 ro2 l1 l2 hx hy hl1 hl2 heq
        rcases hmem x _ hx with ⟨e,_⟩ | ⟨_,_,hx1⟩
        · exact absurd e hxn
        · rcases hmem y _ hy with ⟨e,_⟩ | ⟨_,_,hy1⟩
          · exact absurd e hyn
          · simp [hxn] at hl1;simp [hyn] at hl2
            exact hxy _ _ _ _ _ _ _ _ _ _ hx1 hy1 hl1 hl2 heq
      have notnext:∀ f2 x,x ∈ fget f2 fams → x ≠ next:=fun f2 x hx e=>by
        have:=k.flt f2 x hx;subst e;exact absurd this (Nat.lt_irrefl _)
      have lift:∀ L:List Id,(∀ x ∈ L,x ≠ next) → L.Pairwise (EndLe m mem) → L.Pairwise (EndLe (fun x=>if x = next then some l' else m x) (mput next (some (.cells sz (old ++ new) f (.rw tg))) (killM dead mem))):=by
        intro L hL hp
        exact hp.imp_of_mem (fun hx hy h=>trans _ _ (hL _ hx) (hL _ hy) h)
      by_cases hf:f1 = f
      · subst hf
        rw [fget_fput]
        have hbr:(b :: rest).Pairwise (EndLe m mem):=by
          by_cases hbm:b ∈ fget f1 fams
          · obtain ⟨pre,hpre⟩:=u4 hbm
            have ho:=k.ord f1
            have ho':(pre ++ b :: rest).Pairwise (EndLe m mem):=by rw [← hpre];exact ho
            exact (List.pairwise_append.1 ho').2.1
          · rw [u5 hbm];simp
        have hbn':b ≠ next:=fun e=>by subst e;exact absurd hbn (Nat.lt_irrefl _)
        have hrn:∀ x ∈ b :: rest,x ≠ next:=by
          intro x hx
          simp only [List.mem_cons] at hx
          rcases hx with rfl | hx
          · exact hbn'
          · exact notnext f1 x (u2 x hx)
        refine List.pairwise_cons.2 ⟨?_,lift _ hrn hbr⟩
        intro y hy sz1 els1 f2 ro1 sz2 els2 f3 ro2 l1 l2 hx hy2 hl1 hl2 heq
        rcases hmem next _ hx with ⟨_,e1⟩ | ⟨hn,_,_⟩
        · cases e1
          have hyn:=hrn y hy
          rcases hmem y _ hy2 with ⟨e,_⟩ | ⟨_,hd,hy1⟩
          · exact absurd e hyn
          · simp at hl1;subst hl1
            simp [hyn] at hl2
            have hlt2:=k.lt _ _ hl2
            rcases hblk with hA | hA
            · have h1:=star y _ _ _ _ l2 hd hy1 hl2 (by rw [← heq,hA])
              have h2:=hend hA
              omega
            · omega
        · exact absurd rfl hn
      · rw [fget_fput_ne hf]
        exact lift _ (fun x hx=>notnext f1 x hx) (k.ord f1)
    ·
      intro x lx hx
      by_cases e:x = next
      · subst e;simp at hx;subst hx;exact hsize.2
      · simp [e] at hx;have:=k.lt _ _ hx;omega
    ·
      intro x sz1 els1 f1 ro1 hx
      show f1.toNat < nx.toNat
      have hfb:f.toNat < next.toNat:=k.famlt _ _ _ _ _ hb
      rcases hmem x _ hx with ⟨rfl,e1⟩ | ⟨_,_,hx1⟩
      · cases e1;omega
      · have:f1.toNat < next.toNat:=k.famlt _ _ _ _ _ hx1;omega
    ·
      intro f1 x hx
      show x.toNat < nx.toNat
      have hx':x ∈ fget f1 (fput f (next :: b :: rest) fams):=hx
      by_cases hf:f1 = f
      · subst hf
        rw [fget_fput] at hx'
        simp only [List.mem_cons] at hx'
        rcases hx' with rfl | rfl | hx'
        · omega
        · omega
        · have:x.toNat < next.toNat:=k.flt f1 x (u2 x hx');omega
      · rw [fget_fput_ne hf] at hx'
        have:x.toNat < next.toNat:=k.flt f1 x hx';omega
    ·
      intro B hB hn
      refine hoth B hB ?_
      rintro rfl
      exact hn ⟨b,_,lb,hb,hl,rfl,by simp [writable]⟩
    · rcases hw with ⟨rfl,_⟩ | ⟨rfl,_⟩ <;> rfl
    · rcases hw with ⟨rfl,_⟩ | ⟨rfl,_⟩ <;> rfl
    · rcases hw with ⟨rfl,_⟩ | ⟨rfl,_⟩ <;> rfl
    ·
      intro x ox lx hx hlx
      rcases hmem x ox hx with ⟨rfl,rfl⟩ | ⟨hne,hd,hx1⟩
      · simp at hlx;subst hlx
        rcases hblk with hA | hA
        · exact .inr ⟨b,_,lb,hb,hl,hA.symm,fun _=>by simp [writable]⟩
        · exact .inl (by omega)
      · simp [hne] at hlx
        exact .inr ⟨x,ox,lx,hx1,hlx,rfl,id⟩
    ·
      intro x lx hx hlt
      have:x ≠ next:=fun e=>by subst e;exact absurd hlt (Nat.lt_irrefl _)
      simpa [this] using hx
end Go.Ev
end
section
namespace Go.Ev
open Go
variable {P:Program} {m:Mp} {w:World}
theorem growBy_le {need:Nat}:∀ (r c:Nat),c ≤ 2 * need + 768 → Builtin.growBy need r c ≤ 2 * need + 768
  | 0,c,h=>h
  | r + 1,c,h=>by
    simp only [Builtin.growBy]
    split
    · exact h
    · exact growBy_le r _ (by omega)
theorem nextcap_le {need cap:Nat} (h:cap < need):Builtin.nextslicecap need cap ≤ 2 * need + 768:=by
  unfold Builtin.nextslicecap
  split
  · omega
  · split
    · omega
    · exact growBy_le _ _ (by omega)
theorem run_append_room {ts:Array TypeId} {t t2 ty el:TypeId} {u2:TypeDesc} {inf:TypeInfo} {x:Value} {base:Option Addr} {len cap n:Nat} {news:Array Value} (h0:ts[0]? = some t) (h1:ts[1]? = some t2)
    (hu:P.underlying t = some (.slice el)) (hu2:P.underlying t2 = some u2) (hni:∀ k,u2 ≠ .int k) (hi:P.info? el = some inf) (hlen:(Builtin.lenOf x).run P w = .ok n w)
    (hle:len + n ≤ cap) (hf:(Builtin.firstCells inf.size n x).run P w = .ok news w) :
    (Builtin.append_ ts ty #[.slice base len cap,x]).run P w = match (match base with | some a=>(storeCells (a.add (len * inf.size)) news.toList).run P w | none=>.ok () w:Result Unit) with
      | .ok _ w'=>.ok (.slice base (len + n) cap) w'
      | .halt h w'=>.halt h w':=by
  unfold Builtin.append_
  have hz:(match u2 with | .int _=>true | _=>false) = false:=by cases u2 <;> first | rfl | exact absurd rfl (hni _)
  cases base <;> simp [h0,h1,run_underlying hu,run_underlying hu2,sizeOf,typeInfo,hi,hz,hlen,hle,hf]
  cases (storeCells _ news.toList).run P w <;> rfl
theorem run_append_grow {ts:Array TypeId} {t t2 ty el:TypeId} {u2:TypeDesc} {inf:TypeInfo} {z x:Value} {base:Option Addr} {len cap n:Nat} {olds news:Array Value} (h0:ts[0]? = some t) (h1:ts[1]? = some t2)
    (hu:P.underlying t = some (.slice el)) (hu2:P.underlying t2 = some u2) (hni:∀ k,u2 ≠ .int k) (hi:P.info? el = some inf) (hz:inf.zero = some z) (hlen:(Builtin.lenOf x).run P w = .ok n w)
    (hle:cap < len + n) (hsm:len + n ≤ 2000000) (hby:inf.bytes ≤ 1000000)
    (hf0:(Builtin.firstCells inf.size len (.slice base len cap)).run P w.drew = .ok olds w.drew)
    (hf:(Builtin.firstCells inf.size n x).run P w.drew = .ok news w.drew) :
    ∃ nc,len + n ≤ nc ∧ (Builtin.append_ ts ty #[.slice base len cap,x]).run P w = .ok (.slice (some ⟨w.heap.size,0,none⟩) (len + n) nc)
      { w.drew with heap:=w.drew.heap.push (.cells (olds ++ news ++ Builtin.zeroCells z.cells (nc - (len + n))) el (0,0)) }:=by
  refine ⟨(Question.appendCap (len + n) cap el).cut (w.tape w.drawn (.appendCap (len + n) cap el)),by simp [Question.cut],?_⟩
  unfold Builtin.append_
  have hzr:(match u2 with | .int _=>true | _=>false) = false:=by cases u2 <;> first | rfl | exact absurd rfl (hni _)
  have h48:¬ (281474976710656 < Builtin.nextslicecap (len + n) cap * inf.bytes):=by
    have h2:=Nat.mul_le_mul (nextcap_le hle) hby
    omega
  have hi64:¬ (9223372036854775807 < ((len:Int) + (n:Int))):=by omega
  have hle':¬ (len + n ≤ cap):=by omega
  simp [h0,h1,run_underlying hu,run_underlying hu2,sizeOf,typeInfo,hi,hzr,hlen,hle',hf,hf0,h48,hi64,zeroValue,hz,newRow,askRoom,Question.forced]
  rfl
end Go.Ev
end
section
namespace Go.Ev
open Go
variable {P:Program} {m:Mp} {w:World}
structure ElsAt (P:Program) (m:Mp) (w:World) (S:Nat) (new:List (List V)) (uy:Value) (us:List Value):Prop where
  each:∀ el ∈ new,el.length = S
  len:us.length = new.length * S
  rel:Rl m new.flatten us
  sc:∀ y ∈ us,scalar y
  lenOf:(Builtin.lenOf uy).run P w = .ok new.length w
  first:(Builtin.firstCells S new.length uy).run P w = .ok ⟨us⟩ w
theorem elsAt {h:H} (k:HR m h w) {sz:Nat} {x:V} {u:Value} {els:List (List V)} (hx:R m x u) (he:elemsOf h (sz + 1) x = some els):∃ us,ElsAt P m w (sz + 1) els u us:=by
  obtain ⟨us,h1,h2,h3,h4,h5,h6⟩:=elems_sound (P:=P) k hx he
  refine ⟨us,h1,h2,h3,h4,h5,?_⟩
  rw [h6 _ (Nat.le_refl _),← h2,List.take_length]
structure AppTy (P:Program) (ts:Array TypeId) (S:Nat) (el:TypeId) (inf:TypeInfo) (z:Value):Prop where
  ty:∃ t t2 u2,ts[0]? = some t ∧ ts[1]? = some t2 ∧ P.underlying t = some (.slice el) ∧ P.underlying t2 = some u2 ∧ (∀ k,u2 ≠ .int k)
  info:P.info? el = some inf
  zero:inf.zero = some z
  size:inf.size = S
  zs:z.cells.size = S
  bytes:inf.bytes ≤ 1000000
theorem append_sl {h h':H} (k:HR m h w) {b f:Id} {S len q cap:Nat} {els old new:List (List V)} {l:Loc} {v:V} {ts:Array TypeId} {ty el:TypeId} {inf:TypeInfo} {z uy:Value} {us us2:List Value}
    (T:AppTy P ts S el inf z) (hS:0 < S) (hb:mget b h.mem = some (.cells S els f (.rw el))) (hl:m b = some l) (hq:q + len = els.length) (hold:old = els.drop q) (hg:grown el S b f len old new h = .ok v h')
    (hcap:len ≤ cap) (hlim:q * S + cap * S ≤ l.lim) (A:ElsAt P m w S new uy us) (B:ElsAt P m w.drew S new uy us2) (hsm:len + new.length ≤ 2000000) :
    ∃ u w' m',(Builtin.append_ ts ty #[.slice (some ⟨l.blk,l.base + q * S,none⟩) len cap,uy]).run P w = .ok u w' ∧ Fr m h w m' h' w' ∧ R m' v u:=by
  obtain ⟨⟨t,t2,u2,h0,h1,hu,hu2,hni⟩,hi,hz,hsize,hzs,hby⟩:=T
  obtain ⟨l2,hl2,C,tC,fz,hc⟩:=k.obj _ _ hb
  rw [hl] at hl2;cases hl2
  have hfl:=flat_len hc.each
  have hdl:(els.drop q).length = len:=by rw [List.length_drop];omega
  have heach0:∀ el ∈ els.drop q,el.length = S:=fun el hel=>hc.each el (List.mem_of_mem_drop hel)
  have hofl:old.flatten.length = len * S:=by rw [hold,flat_len heach0,hdl]
  have hnfl:=flat_len A.each
  have hofd:old.flatten = els.flatten.drop (q * S):=by rw [hold,flat_drop _ _ hc.each]
  have hEl:els.flatten.length = q * S + len * S:=by rw [hfl,← hq,Nat.add_mul]
  have hof:(old ++ new).flatten = old.flatten ++ new.flatten:=by simp
  have heach:∀ el ∈ old ++ new,el.length = S:=by
    intro e he
    rcases List.mem_append.1 he with h | h
    · exact heach0 e (hold ▸ h)
    · exact A.each e h
  by_cases hroom:len + new.length ≤ cap
  ·
    have hr:=run_append_room (P:=P) (w:=w) (ty:=ty) (base:=some ⟨l.blk,l.base + q * S,none⟩) h0 h1 hu hu2 hni hi A.lenOf hroom (by rw [hsize];exact A.first)
    have hmul:(len + new.length) * S ≤ cap * S:=Nat.mul_le_mul_right _ hroom
    rw [Nat.add_mul] at hmul
    have hroomC:=hc.room
    have hst:=run_storeCells (P:=P) (b:=l.blk) (off:=l.base + q * S + len * S) us 0 C w hc.at_ (by have:=A.len;omega) A.sc (by
      intro j hj hf
      have hj':j < new.length * S:=by rw [← A.len];exact hj
      have:=hc.free rfl (q * S + len * S + j) (by omega)
      exact this (by omega))
    simp only [hsize,addr_add] at hr
    rw [hst] at hr
    simp only [Nat.add_zero] at hr hst
    generalize hC':(⟨C.toList.take (l.base + q * S + len * S) ++ us ++ C.toList.drop (l.base + q * S + len * S + us.length)⟩:Array Value) = C' at hr
    have hCl:C.toList.length = C.size:=by simp
    have hsz:C'.size = C.size:=by
      rw [← hC']
      show (C.toList.take _ ++ us ++ C.toList.drop _).length = _
      have:=A.len
      rw [List.length_append,List.length_append,List.length_take,List.length_drop,hCl]
      omega
    have hlow:∀ j,j < l.base + q * S + len * S → C'[j]? = C[j]?:=by
      intro j hj
      rw [← hC',← Array.getElem?_toList,← Array.getElem?_toList]
      show (C.toList.take _ ++ us ++ C.toList.drop _)[j]? = _
      rw [List.append_assoc,List.getElem?_append_left (by rw [List.length_take];omega),List.getElem?_take_of_lt hj]
    have hnew:∀ j,j < us.length → C'[l.base + q * S + len * S + j]? = us[j]?:=by
      intro j hj
      have hlt:(C.toList.take (l.base + q * S + len * S)).length = l.base + q * S + len * S:=by rw [List.length_take];omega
      rw [← hC',← Array.getElem?_toList]
      show (C.toList.take _ ++ us ++ C.toList.drop _)[_]? = _
      rw [List.append_assoc,List.getElem?_append_right (by omega),hlt,List.getElem?_append_left (by omega)]
      congr 1;omega
    obtain ⟨m',hF,hm,rfl⟩:=grown_fr k hb hl hq hold hg A.each (C':=C') (t:=tC) (fz':=fz) (w':={ w with heap:=w.heap.setIfInBounds l.blk (.cells C' tC fz) }) (l':=⟨l.blk,l.base + q * S,l.lim - q * S⟩)
      (.inl ⟨rfl,rfl,C,fz,hc.at_,hc,rfl,hsz,fun j hj=>hlow j (by omega)⟩) (by
        intro m2 hm2 hat
        refine ⟨hat,?_,?_,heach,?_,?_,hc.plain,hc.typ,by have:=hc.al;show (l.base + q * S) % S = 0;rw [Nat.add_mul_mod_self_right];exact this⟩
        · show l.base + q * S + (l.lim - q * S) ≤ C'.size
          omega
        · show (old ++ new).flatten.length ≤ l.lim - q * S
          rw [hof,List.length_append,hofl,hnfl];omega
        · intro i x hx
          show ∃ u,C'[l.base + q * S + i]? = some u ∧ _
          rw [hof] at hx
          by_cases hi:i < len * S
          · rw [List.getElem?_append_left (by omega),hofd,List.getElem?_drop] at hx
            obtain ⟨u,g1,g2,g3⟩:=hc.val _ _ hx
            exact ⟨u,by rw [hlow _ (by omega),Nat.add_assoc];exact g1,g2.mono hm2,g3⟩
          · rw [List.getElem?_append_right (by omega),hofl] at hx
            obtain ⟨u,g1,g2⟩:=A.rel.get hx
            have hlt:=(List.getElem?_eq_some_iff.1 g1).1
            refine ⟨u,?_,g2.mono hm2,A.sc u (List.mem_of_getElem? g1)⟩
            rw [← g1,← hnew _ hlt];congr 1;omega
        · intro _ i hi hf
          have hi':i < l.lim - q * S:=hi
          exact hc.free rfl (q * S + i) (by omega) (by
            have hf':fz.1 ≤ l.base + q * S + i ∧ l.base + q * S + i < fz.2:=hf
            omega))
    refine ⟨_,_,m',hr,hF,?_⟩
    simp only [R]
    refine ⟨_,cap,hm,by simp,hroom,?_⟩
    show 0 + cap * S ≤ l.lim - q * S
    omega
  ·
    have hcd:CellsAt m w.drew l S els (.rw el) C tC fz:=⟨hc.at_,hc.room,hc.len,hc.each,hc.val,hc.free,hc.plain,hc.typ,hc.al⟩
    have hoS:q * S % S = 0:=Nat.mul_mod_left _ _
    have hdS:q * S / S = q:=Nat.mul_div_cancel _ hS
    obtain ⟨us0,e1,e2,e3,e4,e5,e6⟩:=els_spec (len:=len) hcd hoS (by rw [hdS,hdl];exact Nat.le_refl _)
    rw [hdS,List.take_of_length_le (by omega),← hold] at e4
    have hf0:(Builtin.firstCells inf.size len (.slice (some ⟨l.blk,l.base + q * S,none⟩) len cap)).run P w.drew = .ok ⟨us0⟩ w.drew:=by
      have hrun:=run_loadCells_list (P:=P) (w:=w.drew) ⟨l.blk,l.base + q * S,none⟩ us0 (fun j v hv=>by
        rw [addr_add,cell_of hcd.at_];exact e6 j v hv)
      rw [e3] at hrun
      simp only [Builtin.firstCells,hsize]
      simpa using hrun
    obtain ⟨nc,hnc,hr⟩:=run_append_grow (P:=P) (w:=w) (ty:=ty) h0 h1 hu hu2 hni hi hz A.lenOf (Nat.lt_of_not_le hroom) hsm hby hf0 (by rw [hsize];exact B.first)
    generalize hC':((⟨us0⟩:Array Value) ++ (⟨us2⟩:Array Value) ++ Builtin.zeroCells z.cells (nc - (len + new.length))) = C' at hr
    have hCl:C'.toList = us0 ++ us2 ++ (Builtin.zeroCells z.cells (nc - (len + new.length))).toList:=by rw [← hC'];simp
    have hzl:(Builtin.zeroCells z.cells (nc - (len + new.length))).size = (nc - (len + new.length)) * S:=by simp [Builtin.zeroCells,hzs]
    have hsz:C'.size = nc * S:=by
      rw [← hC',Array.size_append,Array.size_append,hzl]
      show us0.length + us2.length + _ = _
      rw [e3,B.len,← Nat.add_mul,← Nat.add_mul]
      congr 1;omega
    have kd:HR m h w.drew:=k.drawn _
    obtain ⟨m',hF,hm,rfl⟩:=grown_fr kd hb hl hq hold hg A.each (C':=C') (t:=el) (fz':=(0,0)) (w':={ w.drew with heap:=w.drew.heap.push (.cells C' el (0,0)) }) (l':=⟨w.drew.heap.size,0,C'.size⟩)
      (.inr ⟨rfl,rfl⟩) (by
        intro m2 hm2 hat
        refine ⟨hat,by simp,?_,heach,?_,fun _ i _ hf=>by simp at hf,fun _ _=>rfl,fun ty e=>by cases e;rfl,Nat.zero_mod _⟩
        · show (old ++ new).flatten.length ≤ C'.size
          rw [hof,List.length_append,hofl,hnfl,hsz,← Nat.add_mul]
          exact Nat.mul_le_mul_right _ hnc
        · intro i x hx
          rw [hof] at hx
          obtain ⟨u,g1,g2⟩:=(e4.append B.rel).get hx
          have hlt:=(List.getElem?_eq_some_iff.1 g1).1
          refine ⟨u,?_,g2.mono hm2,?_⟩
          · show C'[0 + i]? = some u
            rw [Nat.zero_add,← Array.getElem?_toList,hCl,List.getElem?_append_left hlt,g1]
          · rcases List.mem_append.1 (List.mem_of_getElem? g1) with g | g
            · exact e5 u g
            · exact B.sc u g)
    refine ⟨_,_,m',hr,(Fr.drawn k _).trans hF,?_⟩
    simp only [R]
    refine ⟨_,nc,hm,by simp,hnc,?_⟩
    show 0 + nc * S ≤ C'.size
    omega
theorem append_sound {h h':H} (k:HR m h w) {sz:Nat} {x y v:V} {ux uy:Value} {new:List (List V)} {ts:Array TypeId} {ty el:TypeId} {inf:TypeInfo} {z:Value}
    (T:AppTy P ts (sz + 1) el inf z) (hx:R m x ux) (hy:R m y uy) (he:elemsOf h (sz + 1) y = some new) (ha:appendV el h (sz + 1) x new = .ok v h') :
    ∃ u w' m',(Builtin.append_ ts ty #[ux,uy]).run P w = .ok u w' ∧ Fr m h w m' h' w' ∧ R m' v u:=by
  obtain ⟨us,A⟩:=elsAt (P:=P) k hy he
  obtain ⟨us2,B⟩:=elsAt (P:=P) (k.drawn (w.drawn + 1)) hy he
  have T':=T
  obtain ⟨⟨t,t2,u2,h0,h1,hu,hu2,hni⟩,hi,hz,hsize,hzs,hby⟩:=T'
  unfold appendV at ha
  split at ha
  ·
    have hus:us = []:=List.eq_nil_of_length_eq_zero (by rw [A.len];simp)
    subst hus
    have main:∀ base len cap,len ≤ cap → (Builtin.append_ ts ty #[.slice base len cap,uy]).run P w = .ok (.slice base len cap) w:=by
      intro base len cap hle
      have hr:=run_append_room (P:=P) (w:=w) (ty:=ty) (base:=base) (len:=len) (cap:=cap) h0 h1 hu hu2 hni hi A.lenOf (by simpa using hle) (by rw [hsize];exact A.first)
      rw [hr]
      cases base <;> simp [storeCells]
    split at ha
    · cases ha
      have hx':=hx
      simp only [R] at hx';subst hx'
      exact ⟨_,_,m,main none 0 0 (Nat.le_refl _),Fr.refl k,by simp [R]⟩
    · cases ha
      have hx':=hx
      simp only [R] at hx';obtain ⟨a,cap,rfl⟩:=hx'
      exact ⟨_,_,m,main _ 0 cap (Nat.zero_le _),Fr.refl k,hx⟩
    · cases ha
      have hx':=hx
      simp only [R] at hx';obtain ⟨l,cap,hl,rfl,hlc,hlim⟩:=hx'
      exact ⟨_,_,m,main _ _ cap hlc,Fr.refl k,hx⟩
    · cases ha
  · rename_i n0 nr
    cases hln:Nat.ble (lenL (n0 :: nr)) 1000000 with
    | false=>rw [hln] at ha;cases ha
    | true=>
    rw [hln] at ha
    simp only [cond_true] at ha
    have hsmn:(n0 :: nr).length ≤ 1000000:=by have:=Nat.le_of_ble_eq_true hln;rwa [lenL_eq] at this
    split at ha
    ·
      simp only [R] at hx;subst hx
      obtain ⟨nc,hnc,hr⟩:=run_append_grow (P:=P) (w:=w) (ty:=ty) (base:=none) (len:=0) (cap:=0) h0 h1 hu hu2 hni hi hz A.lenOf (by simp) (by omega) hby (olds:=#[]) (by simp [Builtin.firstCells]) (by rw [hsize];exact B.first)
      have kd:HR m h w.drew:=k.drawn _
      obtain ⟨m',hF,hm,rfl⟩:=newC_fr kd ha A.each B.rel B.sc (C:=(#[]:Array Value) ++ (⟨us2⟩:Array Value) ++ Builtin.zeroCells z.cells (nc - (0 + (n0 :: nr).length))) (extra:=(Builtin.zeroCells z.cells (nc - (0 + (n0 :: nr).length))).toList) (by simp) el (0,0) (.inl rfl)
      refine ⟨_,_,m',hr,(Fr.drawn k _).trans hF,?_⟩
      simp only [R,lenL_eq]
      refine ⟨_,nc,hm,by simp,by omega,?_⟩
      have hzl:(Builtin.zeroCells z.cells (nc - (0 + (n0 :: nr).length))).size = (nc - (0 + (n0 :: nr).length)) * (sz + 1):=by simp [Builtin.zeroCells,hzs]
      show 0 + nc * (sz + 1) ≤ (_ ++ _ ++ _:Array Value).size
      rw [Array.size_append,Array.size_append,hzl]
      show 0 + nc * (sz + 1) ≤ 0 + us2.length + _
      rw [B.len,Nat.zero_add,Nat.zero_add,← Nat.add_mul]
      exact Nat.mul_le_mul_right _ (by omega)
    · rename_i b o len z0
      split at ha
      · rename_i szb els f tyb hb
        cases hcd:(Nat.beq szb (sz + 1) && (Nat.beq z0 (sz + 1) && (Nat.beq (Nat.mod o (sz + 1)) 0 && (Nat.ble len 1000000 && Nat.beq tyb el)))) with
        | false=>rw [hcd] at ha;cases ha
        | true=>
        rw [hcd] at ha
        simp only [cond_true] at ha
        simp only [Bool.and_eq_true] at hcd
        have e1:=Nat.eq_of_beq_eq_true hcd.1;subst e1
        have e2:=Nat.eq_of_beq_eq_true hcd.2.1;subst e2
        have e3:o % (sz + 1) = 0:=Nat.eq_of_beq_eq_true hcd.2.2.1
        have e4:=Nat.le_of_ble_eq_true hcd.2.2.2.1
        have e5:=Nat.eq_of_beq_eq_true hcd.2.2.2.2;subst e5
        have hq:o / (sz + 1) * (sz + 1) = o:=by have:=Nat.div_add_mod o (sz + 1);rw [Nat.mul_comm,e3] at this;simpa using this
        simp only [R] at hx;obtain ⟨l,cap,hl,rfl,hlc,hlim⟩:=hx
        generalize hqq:o / (sz + 1) = q at *
        have hqq':Nat.div o (sz + 1) = q:=hqq
        rw [hqq'] at ha
        subst hq
        split at ha
        · cases ha
        · rename_i old hold
          rw [dropL_eq] at hold
          obtain ⟨g1,g2⟩:=takeL_eq _ _ _ hold
          cases hfull:Nat.beq (Nat.add q len) (lenL els) with
          | true=>
            rw [hfull] at ha
            simp only [cond_true] at ha
            have h9:q + len = els.length:=by have:=Nat.eq_of_beq_eq_true hfull;rwa [lenL_eq] at this
            have hold':old = els.drop q:=by rw [g2,List.take_of_length_le (by rw [List.length_drop];omega)]
            exact append_sl k T (Nat.succ_pos _) hb hl h9 hold' ha hlc (by omega) A B (by omega)
          | false=>
            rw [hfull] at ha
            simp only [cond_false] at ha
            split at ha
            · rename_i cut hcut
              obtain ⟨g3,g4⟩:=takeL_eq _ _ _ hcut
              have g3':q + len ≤ els.length:=g3
              have g4':cut = els.take (q + len):=g4
              obtain ⟨l2,hl2,C,tC,fz,hc⟩:=k.obj _ _ hb
              rw [hl] at hl2;cases hl2
              have hblt:=k.lt _ _ hl
              have hsame:w = { w with heap:=w.heap.setIfInBounds l.blk (.cells C tC fz) }:=by
                have hbe:=(Array.getElem?_eq_some_iff.1 hc.at_).2
                have:w.heap.setIfInBounds l.blk (.cells C tC fz) = w.heap:=by
                  apply Array.ext_getElem?
                  intro j
                  simp only [Array.getElem?_setIfInBounds]
                  by_cases e:l.blk = j
                  · subst e;simp [hblt,hbe]
                  · simp [e]
                rw [this]
              have hcutf:cut.flatten = els.flatten.take ((q + len) * (sz + 1)):=by rw [g4',flat_take _ _ hc.each]
              have F1:=Fr.updCells (els':=cut) (ro':=.rw tyb) k hb hl hsame (fun _=>⟨C,tC,fz,⟨hc.at_,hc.room,by rw [hcutf,List.length_take];have:=hc.len;omega,
                fun e he=>hc.each e (List.mem_of_mem_take (g4' ▸ he)),(fun i x hx=>by
                  rw [hcutf,List.getElem?_take] at hx
                  split at hx
                  · exact hc.val i x hx
                  · exact absurd hx (by simp)),hc.free,hc.plain,hc.typ,hc.al⟩⟩)
              have hb1:mget b (setO (loneH h f b) b (.cells (sz + 1) cut f (.rw tyb))).mem = some (.cells (sz + 1) cut f (.rw tyb)):=by rw [setO_eq];exact mget_mput _ _ _
              have hold':old = cut.drop q:=by rw [g2,g4',List.drop_take];congr 1;omega
              obtain ⟨u,w',m',r1,r2,r3⟩:=append_sl F1.hr T (ty:=ty) (Nat.succ_pos _) hb1 hl (by rw [g4',List.length_take];omega) hold' ha hlc (by omega) A B (by omega)
              exact ⟨u,w',m',r1,F1.trans r2,r3⟩
            · cases ha
      · cases ha
    · cases ha
end Go.Ev
end
section
namespace Go.Ev
open Go
variable {P:Program} {m:Mp} {w:World}
theorem over_fr {h:H} (k:HR m h w) {b f:Id} {sz o ty:Nat} {els els':List (List V)} {xs:List V} {xs':List Value} {l:Loc} {C:Array Value} {t:TypeId} {fz:Nat × Nat}
    (hb:mget b h.mem = some (.cells sz els f (.rw ty))) (hl:m b = some l) (hc:CellsAt m w l sz els (.rw ty) C t fz) (hx:Rl m xs xs') (hs:∀ x ∈ xs',scalar x)
    (hend:o + xs.length ≤ els.flatten.length) (hset:els'.flatten = els.flatten.take o ++ xs ++ els.flatten.drop (o + xs.length)) (heach:∀ e ∈ els',e.length = sz) :
    ∃ w',(storeCells ⟨l.blk,l.base + o,none⟩ xs').run P w = .ok () w' ∧ Fr m h w m (setO (loneH h f b) b (.cells sz els' f (.rw ty))) w':=by
  have hroom:=hc.room;have hlim:=hc.len
  have hxl:=hx.length
  have hrun:=run_storeCells (P:=P) (b:=l.blk) (off:=l.base + o) (t:=t) (fz:=fz) xs' 0 C w hc.at_ (by omega) hs (fun j hj=>by
    have:=hc.free rfl (o + j) (by omega)
    rw [show l.base + (o + j) = l.base + o + 0 + j by omega] at this;exact this)
  refine ⟨_,hrun,Fr.updCells k hb hl rfl ?_⟩
  intro hat
  refine ⟨_,t,fz,⟨hat,?_,?_,?_,?_,hc.free,hc.plain,hc.typ,hc.al⟩⟩
  · have:(⟨C.toList.take (l.base + o + 0) ++ xs' ++ C.toList.drop (l.base + o + 0 + xs'.length)⟩:Array Value).size = C.size:=by
      show (C.toList.take (l.base + o + 0) ++ xs' ++ C.toList.drop (l.base + o + 0 + xs'.length)).length = C.size
      simp only [List.length_append,List.length_take,List.length_drop,Array.length_toList];omega
    rw [this];exact hroom
  · rw [hset];simp only [List.length_append,List.length_take,List.length_drop,Array.length_toList];omega
  · exact heach
  · intro i x hxi
    rw [hset] at hxi
    have hCg:∀ j:Nat,(⟨C.toList.take (l.base + o + 0) ++ xs' ++ C.toList.drop (l.base + o + 0 + xs'.length)⟩:Array Value)[j]? =
        (C.toList.take (l.base + o) ++ xs' ++ C.toList.drop (l.base + o + xs'.length))[j]?:=by intro j;simp
    rw [hCg]
    by_cases c1:i < o
    · rw [List.append_assoc,List.getElem?_append_left (by simp only [List.length_append,List.length_take,List.length_drop,Array.length_toList];omega),List.getElem?_take_of_lt c1] at hxi
      obtain ⟨u,h1,h2,h3⟩:=hc.val i x hxi
      refine ⟨u,?_,h2,h3⟩
      rw [List.append_assoc,List.getElem?_append_left (by simp only [List.length_append,List.length_take,List.length_drop,Array.length_toList];omega),List.getElem?_take_of_lt (by omega)]
      simpa using h1
    · by_cases c2:i < o + xs.length
      · rw [List.append_assoc,List.getElem?_append_right (by simp only [List.length_append,List.length_take,List.length_drop,Array.length_toList];omega),List.getElem?_append_left (by simp only [List.length_append,List.length_take,List.length_drop,Array.length_toList];omega)] at hxi
        have e1:i - (els.flatten.take o).length = i - o:=by simp only [List.length_append,List.length_take,List.length_drop,Array.length_toList];omega
        rw [e1] at hxi
        obtain ⟨u,h1,h2⟩:=hx.get hxi
        refine ⟨u,?_,h2,hs u (List.mem_of_getElem? h1)⟩
        rw [List.append_assoc,List.getElem?_append_right (by simp only [List.length_append,List.length_take,List.length_drop,Array.length_toList];omega),List.getElem?_append_left (by simp only [List.length_append,List.length_take,List.length_drop,Array.length_toList];omega),← h1]
        congr 1;simp only [List.length_append,List.length_take,List.length_drop,Array.length_toList];omega
      · rw [List.getElem?_append_right (by simp only [List.length_append,List.length_take,List.length_drop,Array.length_toList];omega),List.getElem?_drop] at hxi
        have e1:o + xs.length + (i - (els.flatten.take o ++ xs).length) = i:=by simp only [List.length_append,List.length_take,List.length_drop,Array.length_toList];omega
        rw [e1] at hxi
        obtain ⟨u,h1,h2,h3⟩:=hc.val i x hxi
        refine ⟨u,?_,h2,h3⟩
        rw [List.getElem?_append_right (by simp only [List.length_append,List.length_take,List.length_drop,Array.length_toList];omega),List.getElem?_drop]
        have e2:l.base + o + xs'.length + (l.base + i - (C.toList.take (l.base + o) ++ xs').length) = l.base + i:=by simp only [List.length_append,List.length_take,List.length_drop,Array.length_toList];omega
        rw [e2];simpa using h1
theorem over_els {h:H} (k:HR m h w) {b f:Id} {sz q ty:Nat} {els els' xs:List (List V)} {us:List Value} {l:Loc} (hb:mget b h.mem = some (.cells sz els f (.rw ty))) (hl:m b = some l)
    (hx:Rl m xs.flatten us) (hs:∀ x ∈ us,scalar x) (he:∀ e ∈ xs,e.length = sz) (ho:overAt q els xs = some els') :
    ∃ w',(storeCells ⟨l.blk,l.base + q * sz,none⟩ us).run P w = .ok () w' ∧ Fr m h w m (setO (loneH h f b) b (.cells sz els' f (.rw ty))) w':=by
  obtain ⟨l2,hl2,C,t,fz,hc⟩:=k.obj _ _ hb
  rw [hl] at hl2;cases hl2
  obtain ⟨h1,rfl⟩:=overAt_spec _ _ _ ho
  have hfl:=flat_len hc.each
  have hxl:=flat_len he
  have hle:(q + xs.length) * sz ≤ els.length * sz:=Nat.mul_le_mul_right _ h1
  rw [Nat.add_mul] at hle
  refine over_fr k hb hl hc hx hs (by omega) ?_ ?_
  · rw [List.flatten_append,List.flatten_append,flat_take _ _ hc.each,flat_drop _ _ hc.each,hxl,Nat.add_mul]
  · intro e h
    rcases List.mem_append.1 h with h | h
    · rcases List.mem_append.1 h with h | h
      · exact hc.each e (List.mem_of_mem_take h)
      · exact he e h
    · exact hc.each e (List.mem_of_mem_drop h)
theorem copy_sound {h h':H} (k:HR m h w) {sz:Nat} {x y v:V} {ux uy:Value} {src:List (List V)} {ts:Array TypeId} {t ty el:TypeId} {inf:TypeInfo} (h0:ts[0]? = some t) (hu:P.underlying t = some (.slice el))
    (hi:P.info? el = some inf) (hsize:inf.size = sz + 1) (hx:R m x ux) (hy:R m y uy) (he:elemsOf h (sz + 1) y = some src) (ha:copyF h (sz + 1) x (some src) = .ok v h') :
    ∃ u w' m',(Builtin.copy_ ts ty #[ux,uy]).run P w = .ok u w' ∧ Fr m h w m' h' w' ∧ R m' v u:=by
  obtain ⟨us,g1,g2,g3,g4,g5,g6⟩:=elems_sound (P:=P) k hy he
  have main:∀ base len cap,(Builtin.copy_ ts ty #[.slice base len cap,uy]).run P w = match (match base with | some a=>(storeCells a (us.take (min src.length len * (sz + 1)))).run P w | none=>.ok () w:Result Unit) with
      | .ok _ w'=>.ok (.int .i64 ((min src.length len:Nat):Int)) w'
      | .halt h w'=>.halt h w':=by
    intro base len cap
    have hf:=g6 (min src.length len) (Nat.min_le_left _ _)
    have hf':(Builtin.firstCells (sz + 1) (src.length.min len) uy).run P w = .ok ⟨us.take (min src.length len * (sz + 1))⟩ w:=hf
    unfold Builtin.copy_
    cases base <;> simp [h0,run_underlying hu,sizeOf,typeInfo,hi,g5,hsize,hf',goInt]
    cases (storeCells _ _).run P w <;> rfl
  unfold copyF at ha
  simp only at ha
  split at ha
  · rename_i src' b o len z e0
    cases e0
    split at ha
    · rename_i szb els f tyb hb
      cases hcd:(Nat.beq szb (sz + 1) && (Nat.beq z (sz + 1) && Nat.beq (Nat.mod o (sz + 1)) 0)) with
      | false=>rw [hcd] at ha;cases ha
      | true=>
      rw [hcd] at ha
      simp only [cond_true] at ha
      simp only [Bool.and_eq_true] at hcd
      have e1:=Nat.eq_of_beq_eq_true hcd.1;subst e1
      have e2:=Nat.eq_of_beq_eq_true hcd.2.1;subst e2
      have e3:o % (sz + 1) = 0:=Nat.eq_of_beq_eq_true hcd.2.2
      have hq:o / (sz + 1) * (sz + 1) = o:=by have:=Nat.div_add_mod o (sz + 1);rw [Nat.mul_comm,e3] at this;simpa using this
      simp only [R] at hx;obtain ⟨l,cap,hl,rfl,hlc,hlim⟩:=hx
      split at ha
      · rename_i xs hxs
        obtain ⟨t1,t2⟩:=takeL_eq _ _ _ hxs
        rw [lenL_eq] at t1 t2
        split at ha
        · rename_i els' hov
          cases ha
          have hmin:min len src.length = min src.length len:=Nat.min_comm _ _
          have hxf:Rl m xs.flatten (us.take (min src.length len * (sz + 1))):=by
            rw [t2,flat_take _ _ g1,hmin];exact g3.take _
          obtain ⟨w',r1,r2⟩:=over_els (P:=P) (q:=o / (sz + 1)) k hb hl hxf (fun x hx=>g4 x (List.mem_of_mem_take hx)) (fun e he=>g1 e (List.mem_of_mem_take (t2 ▸ he))) hov
          rw [hq] at r1
          refine ⟨.int .i64 ((min src.length len:Nat):Int),w',m,?_,r2,?_⟩
          · rw [main];simp only [r1]
          · rw [lenL_eq,hmin];simp only [R];rfl
        · cases ha
      · cases ha
    · cases ha
  · rename_i e0
    cases e0
    cases ha
    simp only [R] at hx;subst hx
    refine ⟨_,w,m,main none 0 0,Fr.refl k,by simp [R]⟩
  · rename_i e0
    cases e0
    cases ha
    simp only [R] at hx;obtain ⟨a,cap,rfl⟩:=hx
    refine ⟨.int .i64 0,w,m,?_,Fr.refl k,by simp only [R]⟩
    rw [main];simp [storeCells]
  · cases ha
theorem makeMap_sound {h h':H} (k:HR m h w) {t:TypeId} {x:Option Value} {v:V} (hx:x = none ∨ (∃ kt et kk n,P.underlying t = some (.map kt et) ∧ x = some (.int kk n))) (hn:newO h (fun _=>.map [] 0) (fun i=>.mp i) = .ok v h') :
    ∃ u w' m',(Instr.makeMap t x).run P w = .ok u w' ∧ Fr m h w m' h' w' ∧ R m' v u:=by
  obtain ⟨nx,hnx,rfl,rfl⟩:=newO_ok hn
  refine ⟨.map (some w.heap.size),_,_,?_,Fr.new k hnx (.map #[] 0) (.map [] 0) ⟨w.heap.size,0,0⟩ rfl (fun _ _ _ _ e=>by cases e) trivial ?_,?_⟩
  · rcases hx with rfl | ⟨kt,et,kk,n,hu,rfl⟩
    · simp [Instr.makeMap]
    · simp [Instr.makeMap,run_underlying hu,asInt,asIntOf]
  · intro m' hm w' hw'
    exact ⟨[],hw',by simp [EntsR]⟩
  · simp [R]
end Go.Ev
end
section
namespace Go.Ev
open Go
variable {P:Program} {m:Mp} {w:World}
theorem rangeS_sound {h h':H} (k:HR m h w) {t:TypeId} {l c:Nat} {x v:V} {u:Value} (hu:P.underlying t = some .string) (hx:R m (.s l c) u) (hn:newO h (fun _=>.siter l c 0) (fun i=>.p i 0) = .ok v h') :
    ∃ u' w' m',(Instr.range t u).run P w = .ok u' w' ∧ Fr m h w m' h' w' ∧ R m' v u':=by
  obtain ⟨nx,hnx,rfl,rfl⟩:=newO_ok hn
  rw [R_str] at hx;obtain ⟨s,rfl,hb,hc⟩:=hx
  refine ⟨.pointer (some ⟨w.heap.size,0,none⟩),_,_,?_,Fr.new k hnx (.stringIter s 0) (.siter l c 0) ⟨w.heap.size,0,0⟩ rfl (fun _ _ _ _ e=>by cases e) trivial ?_,?_⟩
  · simp [Instr.range,run_underlying hu]
  · intro m' hm w' hw'
    exact ⟨rfl,s,hw',hb,hc⟩
  · simp [R]
theorem rangeM_sound {h h':H} (k:HR m h w) {t kt et:TypeId} {b:Id} {l:Loc} {es:List Ent} {clock:Nat} {v:V} (hu:P.underlying t = some (.map kt et)) (hl:m b = some l) (he:entsOf h b = some (es,clock))
    (hn:newO h (fun _=>.miter b clock [] clock) (fun i=>.p i 0) = .ok v h') :
    ∃ u' w' m',(Instr.range t (.map (some l.blk))).run P w = .ok u' w' ∧ Fr m h w m' h' w' ∧ R m' v u':=by
  obtain ⟨nx,hnx,rfl,rfl⟩:=newO_ok hn
  obtain ⟨l2,es',hb,hl2,hat,hes⟩:=entsOf_some k he
  rw [hl] at hl2;cases hl2
  have hg:(getObj l.blk).run P w = .ok (.map ⟨es'⟩ clock) w:=run_getObj' hat (fun _ _ _ e=>by cases e)
  refine ⟨.pointer (some ⟨w.heap.size,0,none⟩),_,_,?_,Fr.new k hnx (.mapIter (some l.blk) clock #[] clock) (.miter b clock [] clock) ⟨w.heap.size,0,0⟩ rfl (fun _ _ _ _ e=>by cases e) trivial ?_,?_⟩
  · simp [Instr.range,run_underlying hu,hg]
  · intro m' hm w' hw'
    exact ⟨rfl,l,hm _ _ hl,hw'⟩
  · simp [R]
theorem nextS_sound {h h':H} (k:HR m h w) {ty:TypeId} {b:Id} {l:Loc} {v:V} (hl:m b = some l) (hn:nextS h b = .ok v h') :
    ∃ u' w' m',(Instr.next (.pointer (some ⟨l.blk,l.base + 0,none⟩)) true ty).run P w = .ok u' w' ∧ Fr m h w m' h' w' ∧ R m' v u':=by
  unfold nextS at hn
  split at hn
  · rename_i n c pos hb
    obtain ⟨l1,hl1,h0,s,hit,hs,hc⟩:=k.obj _ _ hb
    rw [hl] at hl1;cases hl1
    have hg:(getObj l.blk).run P w = .ok (.stringIter s pos) w:=run_getObj' hit (fun _ _ _ e=>by cases e)
    have hsz:=str_size hs
    rw [h0]
    cases h1:Nat.ble (Nat.succ pos) n with
    | false=>
      rw [h1] at hn
      simp only [cond_false] at hn
      cases hn
      have hlt:¬ (pos < s.size):=by
        intro hh
        have:Nat.ble (Nat.succ pos) n = true:=Nat.ble_eq_true_of_le (by omega)
        rw [h1] at this;cases this
      exact ⟨.tuple #[.bool false],w,m,by simp [Instr.next,hg,hlt],Fr.refl k,by simp [R,Rl]⟩
    | true=>
      rw [h1] at hn
      simp only [cond_true] at hn
      have hlt:pos < n:=Nat.le_of_ble_eq_true h1
      cases h2:Nat.ble (Nat.succ ((c >>> (8 * pos)) % 256)) 128 with
      | false=>rw [h2] at hn;cases hn
      | true=>
        rw [h2] at hn
        simp only [cond_true] at hn
        cases hn
        have hsm:(c >>> (8 * pos)) % 256 < 128:=Nat.le_of_ble_eq_true h2
        obtain ⟨bb,hb1,hb2⟩:=index_str hs hlt
        have hget:(s.get! pos).toNat = (c >>> (8 * pos)) % 256:=by
          rw [← hb2]
          have hlt':pos < s.size:=by omega
          have e1:s[pos]? = some (s[pos]'hlt'):=by simp [hlt']
          rw [e1] at hb1
          have e2:s[pos]'hlt' = bb:=by simpa using hb1
          have e3:s.get! pos = s[pos]'hlt':=by
            obtain ⟨a⟩:=s
            show a[pos]! = _
            have hh:pos < a.size:=hlt'
            simp [hh];rfl
          rw [e3,e2]
        have hdec:Utf8.decode s pos = ((c >>> (8 * pos)) % 256,1):=by
          unfold Utf8.decode
          simp only [Nat.add_zero,hget]
          rw [if_pos hsm]
        have hset:∀ o',(setObj l.blk o').run P w = .ok () { w with heap:=w.heap.setIfInBounds l.blk o' }:=fun o'=>run_setObj hit (fun _ _ _ e=>by cases e)
        refine ⟨.tuple #[.bool true,.int .i64 (pos:Int),.int .i32 (((c >>> (8 * pos)) % 256:Nat):Int)],_,m,?_,
          Fr.updObj k hb hl (fun _ _ _ _ e=>by cases e) (fun _ _ _ _ e=>by cases e) (o':=.stringIter s (pos + 1)) rfl (fun hat=>⟨h0,s,hat,hs,hc⟩),?_⟩
        · have hlt':pos < s.size:=by omega
          simp [Instr.next,hg,hlt',hdec,hset,goInt]
        · simp [R,Rl]
  · cases hn
theorem EntsR.filter {p:Nat → Bool}:∀ {es:List Ent} {xs:List MapEntry},EntsR m es xs → EntsR m (es.filter fun e=>p e.born) (xs.filter fun e=>p e.born)
  | [],xs,h=>by simp only [EntsR] at h;subst h;simp [EntsR]
  | e :: es,xs,h=>by
    obtain ⟨x,xs,rfl,hx,hxs⟩:=h
    have hb:x.born = e.born:=hx.2.2
    simp only [List.filter_cons,hb]
    split
    · exact ⟨x,_,rfl,hx,EntsR.filter hxs⟩
    · exact EntsR.filter hxs
theorem EntsR.all {p:Nat → Bool}:∀ {es:List Ent} {xs:List MapEntry},EntsR m es xs → (xs.all fun e=>p e.born) = (es.all fun e=>p e.born)
  | [],xs,h=>by simp only [EntsR] at h;subst h;rfl
  | e :: es,xs,h=>by
    obtain ⟨x,xs,rfl,hx,hxs⟩:=h
    have hb:x.born = e.born:=hx.2.2
    simp only [List.all_cons,hb,EntsR.all hxs]
theorem EntsR.empty:∀ {es:List Ent} {xs:List MapEntry},EntsR m es xs → xs.isEmpty = es.isEmpty
  | [],xs,h=>by simp only [EntsR] at h;subst h;rfl
  | e :: es,xs,h=>by obtain ⟨x,xs,rfl,_,_⟩:=h;rfl
theorem nextM_sound {h h':H} (k:HR m h w) {ty:TypeId} {b:Id} {l:Loc} {v:V} (hl:m b = some l) (hn:nextM h b = .ok v h') :
    ∃ u' w' m',(Instr.next (.pointer (some ⟨l.blk,l.base + 0,none⟩)) false ty).run P w = .ok u' w' ∧ Fr m h w m' h' w' ∧ R m' v u':=by
  unfold nextM at hn
  split at hn
  · rename_i mi since seen last hb
    obtain ⟨l1,hl1,h0,lm,hlm,hit⟩:=k.obj _ _ hb
    rw [hl] at hl1;cases hl1
    have hg:(getObj l.blk).run P w = .ok (.mapIter (some lm.blk) since ⟨seen⟩ last) w:=run_getObj' hit (fun _ _ _ e=>by cases e)
    rw [h0]
    split at hn
    · rename_i es clock he
      obtain ⟨l2,es',hb2,hl2,hat,hes⟩:=entsOf_some k he
      have hl2':lm = l2:=by rw [hlm] at hl2;cases hl2;rfl
      subst hl2'
      have hg2:(getObj lm.blk).run P w = .ok (.map ⟨es'⟩ clock) w:=run_getObj' hat (fun _ _ _ e=>by cases e)
      cases hgone:(!seen.isEmpty && !es.isEmpty && es.all (fun e=>Nat.ble last e.born)) with
      | true=>rw [hgone] at hn;cases hn
      | false=>
      rw [hgone] at hn
      simp only [cond_false] at hn
      have hgone':(!seen.isEmpty && !es'.isEmpty && es'.all (fun e=>decide (e.born ≥ last))) = false:=by
        rw [hes.empty,← hgone]
        congr 1
        have:=hes.all (p:=fun n=>Nat.ble last n)
        rw [← this]
        congr 1
        funext e
        rw [Bool.eq_iff_iff];simp
      have hleft:=hes.filter (p:=fun n=>!seen.any (Nat.beq n))
      have hfl:(es'.filter fun e=>!seen.contains e.born) = (es'.filter fun e=>!seen.any (Nat.beq e.born)):=by
        congr 1
        funext e
        congr 1
        rw [Bool.eq_iff_iff];simp
      have hun:unseen seen es = es.filter fun e=>!seen.any (Nat.beq e.born):=rfl
      have hset:∀ o',(setObj l.blk o').run P w = .ok () { w with heap:=w.heap.setIfInBounds l.blk o' }:=fun o'=>run_setObj hit (fun _ _ _ e=>by cases e)
      split at hn
      · rename_i hnil
        cases hn
        rw [hun] at hnil
        rw [hnil] at hleft
        simp only [EntsR] at hleft
        rw [← hfl] at hleft
        refine ⟨.tuple #[.bool false],w,m,?_,Fr.refl k,by simp [R,Rl]⟩
        have hA:((⟨es'⟩:Array MapEntry).filter fun e=>!(⟨seen⟩:Array Nat).contains e.born) = #[]:=by
          apply Array.toList_inj.1
          simpa using hleft
        unfold Instr.next
        have hgA:(!(⟨seen⟩:Array Nat).isEmpty && !(⟨es'⟩:Array MapEntry).isEmpty && (⟨es'⟩:Array MapEntry).all fun e=>decide (e.born ≥ last)) = false:=by
          rw [← hgone'];simp
        simp only [hg,hg2,Sem.run_bind,Result.andThen,hgA,hA,Bool.false_eq_true,if_false]
        simp [Question.forced]
      · rename_i e hone
        rw [hun] at hone
        rw [hone] at hleft
        obtain ⟨x,xs0,hx0,hxe,hxn⟩:=hleft
        simp only [EntsR] at hxn;subst hxn
        rw [← hfl] at hx0
        cases hbo:Nat.ble (Nat.succ e.born) since with
        | false=>rw [hbo] at hn;cases hn
        | true=>
          rw [hbo] at hn
          simp only [cond_true] at hn
          cases hn
          have hbl:x.born < since:=by rw [hxe.2.2];exact Nat.le_of_ble_eq_true hbo
          refine ⟨.tuple #[.bool true,x.key,x.val],_,m,?_,Fr.updObj k hb hl (fun _ _ _ _ e=>by cases e) (fun _ _ _ _ e=>by cases e) (o':=.mapIter (some lm.blk) since ⟨seen ++ [e.born]⟩ clock) rfl (fun hat2=>⟨h0,lm,hlm,hat2⟩),?_⟩
          · have hA:((⟨es'⟩:Array MapEntry).filter fun e=>!(⟨seen⟩:Array Nat).contains e.born) = #[x]:=by
              apply Array.toList_inj.1
              simpa using hx0
            unfold Instr.next
            have hgA:(!(⟨seen⟩:Array Nat).isEmpty && !(⟨es'⟩:Array MapEntry).isEmpty && (⟨es'⟩:Array MapEntry).all fun e=>decide (e.born ≥ last)) = false:=by
              rw [← hgone'];simp
            simp only [hg,hg2,Sem.run_bind,Result.andThen,hgA,hA,Bool.false_eq_true,if_false]
            have hf1:(#[x].filter fun x=>decide (x.born < since)) = #[x]:=by simp [hbl]
            have hf2:(#[x].filter fun x=>decide (x.born ≥ since)) = #[]:=by simp;omega
            have hbe:x.born = e.born:=hxe.2.2
            simp only [hf1,hf2]
            simp [Question.forced,hset,hbe]
          · simp only [R,Rl]
            exact ⟨_,rfl,_,_,rfl,rfl,_,_,rfl,hxe.1,_,_,rfl,hxe.2.1,rfl⟩
      · cases hn
    · cases hn
  · cases hn
end Go.Ev
end
section
namespace Go.Ev
open Go
variable {P:Program} {m:Mp} {w:World}
theorem bytesWorld_eq (w:World) (e:TypeId) (s:ByteArray):Lib.bytesWorld w e s = { w.drew with heap:=w.drew.heap.push (.cells (Lib.bytesCells w e s) e ((Lib.bytesCells w e s).size,(Lib.bytesCells w e s).size + 1)) }:=by
  have hh:(Lib.bytesWorld w e s).heap = w.heap.push (.cells (Lib.bytesCells w e s) e ((Lib.bytesCells w e s).size,(Lib.bytesCells w e s).size + 1)):=by
    apply Array.ext_getElem?
    intro j
    rcases Nat.lt_trichotomy j w.heap.size with h | h | h
    · rw [Lib.bytesWorld_at_old _ _ _ _ h,heap_push_old _ h]
    · subst h;rw [Lib.bytesWorld_at_new];simp
    · rw [Array.getElem?_eq_none (by rw [Lib.bytesWorld_size];omega),Array.getElem?_eq_none (by rw [Array.size_push];omega)]
  have h2:Lib.bytesWorld w e s = { w.drew with heap:=(Lib.bytesWorld w e s).heap }:=rfl
  rw [h2,hh];rfl
theorem strBytes_sound {h h':H} (k:HR m h w) {s d el:TypeId} {l c:Nat} {v:V} {u:Value} (hs:P.underlying s = some .string) (hd:P.underlying d = some (.slice el)) (he:P.underlying el = some (.int .u8)) (hx:R m (.s l c) u)
    (hn:newC el h 1 (byteInts (bytesOf l c)) (fun i=>.sl i 0 l 1) = .ok v h') :
    ∃ u' w' m',(convert s d u).run P w = .ok u' w' ∧ Fr m h w m' h' w' ∧ R m' v u':=by
  rw [R_str] at hx;obtain ⟨b,rfl,hb,hc⟩:=hx
  have hsz:=str_size hb
  have kd:HR m h w.drew:=k.drawn _
  rw [← hb] at hn
  obtain ⟨h1,h2,h3⟩:=byteInts_spec (m:=m) b.data.toList
  have hge:=grownCap_ge w b.size 0 el
  have hCs:(Lib.bytesCells w el b).size = grownCap w b.size 0 el:=by
    have:b.data.size = b.size:=rfl
    simp [Lib.bytesCells];omega
  obtain ⟨m',hF,hm,rfl⟩:=newC_fr kd hn h2 h3 (by simp [scalar]) (C:=Lib.bytesCells w el b) (extra:=List.replicate (grownCap w b.size 0 el - b.size) (.int .u8 0)) (by simp [Lib.bytesCells]) el
    ((Lib.bytesCells w el b).size,(Lib.bytesCells w el b).size + 1) (.inr ⟨rfl,Nat.le_refl _⟩)
  refine ⟨_,_,m',Lib.run_convert_string_bytes w s d el b hs hd he,?_,?_⟩
  · rw [bytesWorld_eq];exact (Fr.drawn k _).trans hF
  · simp only [R]
    refine ⟨_,grownCap w b.size 0 el,hm,by simp [hsz],by omega,?_⟩
    show 0 + grownCap w b.size 0 el * 1 ≤ (Lib.bytesCells w el b).size
    omega
theorem bytesTo_spec:∀ (els:List (List V)) {bs:List Nat} {us:List Value},bytesTo els = some bs → Rl m els.flatten us → us = bs.map (fun n:Nat=>Value.int .u8 (n:Int)) ∧ (∀ n ∈ bs,n < 256) ∧ bs.length = els.length
  | [],bs,us,hb,hr=>by
    simp only [bytesTo,Option.some.injEq] at hb;subst hb
    simp only [List.flatten_nil,Rl] at hr;subst hr
    simp
  | el :: els,bs,us,hb,hr=>by
    unfold bytesTo at hb
    split at hb
    · rename_i e;cases e
    · rename_i n r e
      cases e
      cases hn:Nat.ble n 255 with
      | false=>rw [hn] at hb;cases hb
      | true=>
        rw [hn] at hb
        simp only [cond_true] at hb
        cases hr2:bytesTo els with
        | none=>rw [hr2] at hb;cases hb
        | some l=>
          rw [hr2] at hb;cases hb
          simp only [List.flatten_cons,List.cons_append,List.nil_append,Rl] at hr
          obtain ⟨u,us',rfl,hu,hrest⟩:=hr
          simp only [R] at hu;subst hu
          obtain ⟨g1,g2,g3⟩:=bytesTo_spec els hr2 hrest
          have:=Nat.le_of_ble_eq_true hn
          refine ⟨by simp [g1],?_,by simp [g3]⟩
          intro x hx
          rcases List.mem_cons.1 hx with rfl | hx
          · omega
          · exact g2 x hx
    · cases hb
theorem bytesIn_fold:∀ (bs:List Nat) (s:ByteArray),(∀ n ∈ bs,n < 256) → bytesIn ((bs.map Int.ofNat).foldl (fun r n=>r.push (UInt8.ofNat n.toNat)) s) = bytesIn s ++ bs
  | [],s,_=>by simp
  | n :: bs,s,h=>by
    rw [List.map_cons,List.foldl_cons,bytesIn_fold bs _ (fun x hx=>h x (by simp [hx]))]
    have hn:=h n (by simp)
    have:bytesIn (s.push (UInt8.ofNat (Int.ofNat n).toNat)) = bytesIn s ++ [n]:=by
      obtain ⟨⟨l⟩⟩:=s
      simp only [bytesIn,ByteArray.push]
      simp
      omega
    rw [this];simp
theorem toStr_sound {h h':H} (k:HR m h w) {s d el:TypeId} {x v:V} {u:Value} (hs:P.underlying s = some (.slice el)) (hd:P.underlying d = some .string) (he:P.underlying el = some (.int .u8)) (hx:R m x u)
    (hn:toStr h x = .ok v h'):∃ u' w' m',(convert s d u).run P w = .ok u' w' ∧ Fr m h w m' h' w' ∧ R m' v u':=by
  unfold toStr at hn
  split at hn
  · cases hn
  · rename_i hns
    split at hn
    · rename_i els hel
      split at hn
      · rename_i bs hbs
        cases hn
        obtain ⟨us,g1,g2,g3,g4,g5,g6⟩:=elems_sound (P:=P) (sz:=0) k hx hel
        obtain ⟨q1,q2,q3⟩:=bytesTo_spec els hbs g3
        have hf:=g6 els.length (Nat.le_refl _)
        have hsl:∃ a len cap,u = .slice a len cap:=by
          unfold elemsOf at hel
          split at hel
          · simp only [R] at hx;exact ⟨_,_,_,hx⟩
          · simp only [R] at hx;obtain ⟨a,cap,rfl⟩:=hx;exact ⟨_,_,_,rfl⟩
          · simp only [R] at hx;obtain ⟨l,cap,_,rfl,_⟩:=hx;exact ⟨_,_,_,rfl⟩
          · exact absurd rfl (hns _ _)
          · cases hel
        obtain ⟨a,len,cap,rfl⟩:=hsl
        have hlen:len = els.length:=by simp [Builtin.lenOf] at g5;exact g5
        rw [run_convert_bytes_string w s d el a len cap hs he hd]
        cases a with
        | none=>
          have hus:us = []:=by
            rw [List.take_of_length_le (by omega)] at hf
            simp only [Builtin.firstCells,Sem.run_pure] at hf
            injection hf with e1 e2
            have:=congrArg Array.toList e1
            exact this.symm
          have hb0:bs = []:=by rw [hus] at q1;cases bs with | nil=>rfl | cons _ _=>simp at q1
          subst hb0
          refine ⟨.string .empty,w,m,by simp [Conv.bytesToString],Fr.refl k,?_⟩
          have hR:=R_strOf m ByteArray.empty
          simpa [bytesIn] using hR
        | some a=>
          simp only [Builtin.firstCells] at hf
          have hld:(loadCells a len).run P w = .ok ((bs.map Int.ofNat).map (Value.int .u8)).toArray w:=by
            rw [hlen]
            have h8:els.length * (0 + 1) = els.length:=by omega
            rw [h8] at hf
            rw [hf,List.take_of_length_le (by omega),q1]
            simp
          refine ⟨_,w,m,run_bytesToString w a len cap _ hld,Fr.refl k,?_⟩
          have hb:=bytesIn_fold bs ByteArray.empty q2
          have hR:=R_strOf m ((bs.map Int.ofNat).foldl (fun r n=>r.push (UInt8.ofNat n.toNat)) ByteArray.empty)
          rw [hb] at hR
          simpa [bytesIn] using hR
      · cases hn
    · cases hn
end Go.Ev
end
section
namespace Go.Ev
open Go
variable {P:Program} {m:Mp} {w:World}
theorem clear_sound {h h':H} (k:HR m h w) {sz:Nat} {x v z:V} {zc:List V} {ux:Value} {ts:Array TypeId} {t ty el:TypeId} (h0:ts[0]? = some t) (hu:P.underlying t = some (.slice el))
    (hz:zeroT P el = some z) (hc:cellsQ z = some zc) (hzl:zc.length = sz + 1) (hx:R m x ux) (ha:clearF h (sz + 1) zc x = .ok v h') :
    ∃ u w' m',(Builtin.clear_ ts ty #[ux]).run P w = .ok u w' ∧ Fr m h w m' h' w' ∧ R m' v u:=by
  obtain ⟨uz,hzr,rfl,_⟩:=zeroT_run (w:=w) hz
  obtain ⟨zc',h1,h2,h3⟩:=cst_cells (m:=m) hc
  have hzl':uz.cells.size = sz + 1:=by rw [h1];show zc'.length = _;rw [h2.length,hzl]
  unfold clearF at ha
  split at ha
  · rename_i b o len zz
    split at ha
    · rename_i szb els f tyb hb
      cases hcd:(Nat.beq szb (sz + 1) && (Nat.beq zz (sz + 1) && Nat.beq (Nat.mod o (sz + 1)) 0)) with
      | false=>rw [hcd] at ha;cases ha
      | true=>
      rw [hcd] at ha
      simp only [cond_true] at ha
      simp only [Bool.and_eq_true] at hcd
      have e1:=Nat.eq_of_beq_eq_true hcd.1;subst e1
      have e2:=Nat.eq_of_beq_eq_true hcd.2.1;subst e2
      have e3:o % (sz + 1) = 0:=Nat.eq_of_beq_eq_true hcd.2.2
      have hq:o / (sz + 1) * (sz + 1) = o:=by have:=Nat.div_add_mod o (sz + 1);rw [Nat.mul_comm,e3] at this;simpa using this
      simp only [R] at hx;obtain ⟨l,cap,hl,rfl,hlc,hlim⟩:=hx
      split at ha
      · rename_i els' hov
        cases ha
        obtain ⟨w',r1,r2⟩:=over_els (P:=P) (q:=o / (sz + 1)) k hb hl (h2.rep len) (rep_scalar h3 len) (by
          intro e0 he;rw [repN_eq] at he;rw [(List.mem_replicate.1 he).2,hzl]) hov
        rw [hq] at r1
        have hzero:(Builtin.zeroCells uz.cells len).toList = (List.replicate len zc').flatten:=by
          rw [Builtin.zeroCells,zeros_eq uz.cells len (by omega),h1]
        refine ⟨.tuple #[],w',m,?_,r2,by simp [R,Rl,undefV]⟩
        cases len with
        | zero=>
          simp only [List.replicate_zero,List.flatten_nil,storeCells,Sem.run_pure] at r1
          cases r1
          simp [Builtin.clear_,h0,run_underlying hu]
        | succ n=>
          simp [Builtin.clear_,h0,run_underlying hu,hzr,hzero,r1]
      · cases ha
    · cases ha
  · cases ha
    simp only [R] at hx;subst hx
    exact ⟨.tuple #[],w,m,by simp [Builtin.clear_,h0,run_underlying hu],Fr.refl k,by simp [R,Rl,undefV]⟩
  · cases ha
    simp only [R] at hx;obtain ⟨a,cap,rfl⟩:=hx
    exact ⟨.tuple #[],w,m,by simp [Builtin.clear_,h0,run_underlying hu],Fr.refl k,by simp [R,Rl,undefV]⟩
  · cases ha
end Go.Ev
end
section
namespace Go.Ev
open Go
variable {P:Program} {m:Mp} {w:World}
theorem freeze_eq {a:Addr} {n:Nat} {C:Array Value} {t:TypeId} {fz:Nat × Nat} (h:w.heap[a.block]? = some (.cells C t fz)) (hn:n ≠ 0) :
    ∃ fz',w.freeze a n = { w with heap:=w.heap.setIfInBounds a.block (.cells C t fz') }:=by
  obtain ⟨lo,hi⟩:=fz
  refine ⟨if lo == hi then (a.off,a.off + n) else (min lo a.off,max hi (a.off + n)),?_⟩
  unfold World.freeze
  rw [if_neg hn]
  congr 1
  apply Array.ext_getElem?
  intro j
  rw [Array.getElem?_modify,Array.getElem?_setIfInBounds]
  have hlt:=(Array.getElem?_eq_some_iff.1 h).1
  by_cases e:a.block = j
  · subst e
    rw [h]
    simp [hlt]
  · simp [e]
theorem Fr.updCellsR {m:Mp} {h:H} {w w':World} (k:HR m h w) {b f:Id} {sz:Nat} {els els':List (List V)} {ro ro':Rw} {l:Loc} {o':Obj}
    (hb:mget b h.mem = some (.cells sz els f ro)) (hro:ro ≠ .fz) (hl:m b = some l)
    (hw':w' = { w with heap:=w.heap.setIfInBounds l.blk o' })
    (hob:w'.heap[l.blk]? = some o' → ObjAt m w' l (.cells sz els' f ro')) :
    Fr m h w m (setO (loneH h f b) b (.cells sz els' f ro')) w':=by
  rw [setO_eq,loneH_eq]
  have hk:∀ x ox,mget x (killM (others b (fget f h.fams)) h.mem) = some ox → mget x h.mem = some ox ∧ (x ∈ fget f h.fams → x = b):=by
    intro x ox hx
    rw [mget_killM] at hx
    split at hx
    · cases hx
    · rename_i hn
      refine ⟨hx,fun hm=>?_⟩
      by_cases e:x = b
      · exact e
      · exact absurd ((others_mem b _ x).2 ⟨hm,e⟩) hn
  refine Fr.upd k hb hl (by simpa [writable] using hro) (fun x ox hx=>(hk x ox hx).1) ?_ ?_ ?_ ?_ (fun sz1 els1 f1 ro1 e=>by cases e;exact ⟨b,_,_,_,hb⟩) ?_ hw' hob
  · intro x ox lx hne hx hlx heq
    obtain ⟨hx1,hm⟩:=hk x ox hx
    have hs:=k.sep x b ox _ lx l hx1 hb hlx hl hne heq
    cases ox with
    | cells sz1 els1 f1 ro1=>
      have hf:f1 = f:=hs
      subst hf
      exact hne (hm (k.fam x b _ _ _ _ _ _ _ hx1 hb hne))
    | _=>exact hs
  · intro x y sz1 els1 f1 ro1 sz2 els2 ro2 hx hy hne
    have hx':x = b ∧ f1 = f ∨ x ≠ b ∧ mget x h.mem = some (.cells sz1 els1 f1 ro1) ∧ (x ∈ fget f h.fams → x = b):=by
      by_cases e:x = b
      · subst e;rw [mget_mput] at hx;cases hx;exact .inl ⟨rfl,rfl⟩
      · rw [mget_mput_ne e] at hx;exact .inr ⟨e,hk x _ hx⟩
    have hy':y = b ∧ f1 = f ∨ y ≠ b ∧ mget y h.mem = some (.cells sz2 els2 f1 ro2) ∧ (y ∈ fget f h.fams → y = b):=by
      by_cases e:y = b
      · subst e;rw [mget_mput] at hy;cases hy;exact .inl ⟨rfl,rfl⟩
      · rw [mget_mput_ne e] at hy;exact .inr ⟨e,hk y _ hy⟩
    by_cases hf:f1 = f
    · subst hf
      rcases hx' with ⟨rfl,_⟩ | ⟨hn1,hx1,hm1⟩
      · rcases hy' with ⟨rfl,_⟩ | ⟨hn2,hy1,hm2⟩
        · exact absurd rfl hne
        · exact absurd (hm2 (k.fam y x _ _ _ _ _ _ _ hy1 hb hn2)) hn2
      · exact absurd (hm1 (k.fam x b _ _ _ _ _ _ _ hx1 hb hn1)) hn1
    · have hx1:mget x h.mem = some (.cells sz1 els1 f1 ro1):=by
        rcases hx' with ⟨_,e⟩ | ⟨_,hx1,_⟩
        · exact absurd e hf
        · exact hx1
      have hy1:mget y h.mem = some (.cells sz2 els2 f1 ro2):=by
        rcases hy' with ⟨_,e⟩ | ⟨_,hy1,_⟩
        · exact absurd e hf
        · exact hy1
      have:=k.fam x y _ _ _ _ _ _ _ hx1 hy1 hne
      show x ∈ fget f1 _
      split
      · exact this
      · rw [fget_fput_ne hf];exact this
  · intro f1
    show (fget f1 _).Pairwise _
    split
    · exact k.ord f1
    · by_cases e:f1 = f
      · subst e;rw [fget_fput];exact .nil
      · rw [fget_fput_ne e];exact k.ord f1
  · intro sz1 els1 f1 ro1 e;cases e;exact k.famlt _ _ _ _ _ hb
  · intro f1 x hx
    have hx':x ∈ fget f1 (if fget f h.fams = [] then h.fams else fput f [] h.fams):=hx
    split at hx'
    · exact k.flt f1 x hx'
    · by_cases e:f1 = f
      · subst e;rw [fget_fput] at hx';cases hx'
      · rw [fget_fput_ne e] at hx';exact k.flt f1 x hx'
theorem ustr_sound {h h':H} (k:HR m h w) {t t2 el ty:TypeId} {ts:List TypeId} {x v:V} {ux:Value} {n:Nat} (hu:P.underlying t = some (.pointer el)) (hs:sizeT P el = some 1) (hx:R m x ux)
    (hv:ustrF el h x n = .ok v h'):∃ u w' m',(Builtin.unsafeString_ ⟨t :: t2 :: ts⟩ ty #[ux,.int .i64 (n:Int)]).run P w = .ok u w' ∧ Fr m h w m' h' w' ∧ R m' v u:=by
  have hmax:IntKind.i64.max = 9223372036854775807:=rfl
  have h0t:(⟨t :: t2 :: ts⟩:Array TypeId)[0]? = some t:=by simp
  unfold ustrF at hv
  cases n with
  | zero=>
    simp only at hv
    have hp:∃ p,ux = .pointer p:=by
      split at hv
      · simp only [R] at hx;exact ⟨_,hx⟩
      · simp only [R] at hx;obtain ⟨l,_,hx⟩:=hx;exact ⟨_,hx⟩
      · cases hv
    have hv':v = .s 0 0 ∧ h' = h:=by
      split at hv
      · cases hv;exact ⟨rfl,rfl⟩
      · cases hv;exact ⟨rfl,rfl⟩
      · cases hv
    obtain ⟨p,rfl⟩:=hp
    obtain ⟨rfl,rfl⟩:=hv'
    refine ⟨.string .empty,w,m,?_,Fr.refl k,?_⟩
    · cases p with
      | none=>
        rfl
      | some a=>
        rfl
    · have:=R_strOf m ByteArray.empty
      simpa [bytesIn,strOf,codeOf] using this
  | succ n=>
    simp only at hv
    obtain ⟨b,o,e0,hv1⟩:=as_p_H_ok hv
    clear hv
    have hv:=hv1
    clear hv1
    subst e0
    simp only [R] at hx
    obtain ⟨l,hl,rfl⟩:=hx
    split at hv
    · rename_i sz els f ro hb
      split at hv
      case h_2=>cases hv
      rename_i tyb hty
      cases hcd:(Nat.beq sz 1 && (Nat.beq tyb el && Nat.ble n 1000000)) with
      | false=>rw [hcd] at hv;cases hv
      | true=>
        rw [hcd] at hv
        simp only [cond_true] at hv
        simp only [Bool.and_eq_true] at hcd
        have e1:=Nat.eq_of_beq_eq_true hcd.1;subst e1
        have e2:=Nat.eq_of_beq_eq_true hcd.2.1;subst e2
        have e3:=Nat.le_of_ble_eq_true hcd.2.2
        split at hv
        · rename_i L hL
          split at hv
          · rename_i bs hbs
            cases hv
            obtain ⟨l2,hl2,C,tC,fz,hc⟩:=k.obj _ _ hb
            rw [hl] at hl2;cases hl2
            have ht:=hc.typ _ hty
            subst ht
            rw [dropL_eq] at hL
            obtain ⟨g1,g2⟩:=takeL_eq _ _ _ hL
            have hlen0:o + (n + 1) ≤ els.length:=by rw [List.length_drop] at g1;omega
            obtain ⟨us,s1,s2,s3,s4,s5,s6⟩:=els_spec (o:=o) (len:=n + 1) hc (Nat.mod_one _) (by rw [Nat.div_one];exact g1)
            rw [Nat.div_one,← g2] at s4
            obtain ⟨q1,q2,q3⟩:=bytesTo_spec L hbs s4
            have hus:us.length = n + 1:=by rw [s3];omega
            have hbl:bs.length = n + 1:=by rw [q1] at hus;simpa using hus
            have hcell:∀ j y,(bs.map UInt8.ofNat)[j]? = some y → w.cell? ((⟨l.blk,l.base + o,none⟩:Addr).add j) = some (.int .u8 y.toNat):=by
              intro j y hy
              rw [addr_add,cell_of hc.at_]
              have hy2:us[j]? = some (.int .u8 (y.toNat:Int)):=by
                rw [q1]
                rw [List.getElem?_map] at hy ⊢
                cases hbj:bs[j]? with
                | none=>rw [hbj] at hy;cases hy
                | some x=>
                  rw [hbj] at hy
                  simp only [Option.map_some,Option.some.injEq] at hy ⊢
                  subst hy
                  have hlt:=q2 x (List.mem_of_getElem? hbj)
                  simp [Nat.mod_eq_of_lt hlt]
              exact s6 j _ hy2
            have hload:=Lib.run_loadBytes (P:=P) w (bs.map UInt8.ofNat) ⟨l.blk,l.base + o,none⟩ .empty hcell
            rw [List.length_map,hbl] at hload
            have hroom:=hc.room;have hlim:=hc.len
            have hfl:=flat_len hc.each
            have hlies:=liesAt_row (P:=P) (cells:=C.size) (off:=l.base + o) (n:=n + 1) (cellsOf_sizeT hs) Nat.one_pos (Nat.mod_one _) (by omega)
            have hsh:=shape_of hc.at_
            obtain ⟨fz',hfz⟩:=freeze_eq (w:=w) (a:=⟨l.blk,l.base + o,none⟩) (n:=n + 1) hc.at_ (by omega)
            have hneg:¬ ((n:Int) + 1 < 0):=by omega
            have hbig:¬ ((9223372036854775807:Int) < (n:Int) + 1):=by omega
            have hnz:¬ ((n:Int) + 1 = 0):=by omega
            have htn:((n:Int) + 1).toNat = n + 1:=by omega
            refine ⟨.string ⟨ByteArray.empty.data ++ (bs.map UInt8.ofNat).toArray⟩,w.freeze ⟨l.blk,l.base + o,none⟩ (n + 1),m,?_,?_,?_⟩
            · have hdef:∃ s1 s2 s3,Builtin.unsafeString_ ⟨t :: t2 :: ts⟩ ty #[.pointer (some ⟨l.blk,l.base + o,none⟩),.int .i64 ((n + 1:Nat):Int)] =
                (do
                  let n ← asInt (.int .i64 ((n + 1:Nat):Int))
                  if n < 0 then runtimePanic (.error s1)
                  if n > IntKind.i64.max then unsupported (.unsafePointer s2)
                  if n = 0 then pure (.string .empty)
                  else if ← variablesAt ⟨l.blk,l.base + o,none⟩ (← elemOf t) n.toNat then do
                    let s ← loadBytes ⟨l.blk,l.base + o,none⟩ .empty n.toNat
                    freeze ⟨l.blk,l.base + o,none⟩ n.toNat
                    pure (.string s)
                  else unsupported (.unsafePointer s3)):=⟨_,_,_,rfl⟩
              obtain ⟨s1,s2,s3,hdef⟩:=hdef
              rw [hdef]
              simp [asInt,asIntOf,hmax,hneg,hbig,hnz,htn,variablesAt,elemOf,run_underlying hu,hsh,hlies,hload]
            · rw [hfz]
              refine Fr.updCellsR k hb (fun e=>by subst e;cases hty) hl rfl ?_
              intro hat
              exact ⟨C,_,fz',⟨hat,hc.room,hc.len,hc.each,hc.val,(fun hx=>Bool.noConfusion hx),(fun hx=>Bool.noConfusion hx),(fun ty e=>Option.some.inj e),hc.al⟩⟩
            · have hR:=R_strOf m (⟨ByteArray.empty.data ++ (bs.map UInt8.ofNat).toArray⟩:ByteArray)
              have hbi:bytesIn (⟨ByteArray.empty.data ++ (bs.map UInt8.ofNat).toArray⟩:ByteArray) = bs:=by
                simp only [bytesIn]
                have:(ByteArray.empty.data ++ (bs.map UInt8.ofNat).toArray).toList = bs.map UInt8.ofNat:=by simp
                rw [this,List.map_map]
                have hid:∀ x ∈ bs,(UInt8.toNat ∘ UInt8.ofNat) x = x:=fun x hx=>by
                  have:=q2 x hx
                  simp [Nat.mod_eq_of_lt this]
                rw [List.map_congr_left hid];simp
              rw [hbi] at hR;exact hR
          · cases hv
        · cases hv
    · cases hv
end Go.Ev
end
