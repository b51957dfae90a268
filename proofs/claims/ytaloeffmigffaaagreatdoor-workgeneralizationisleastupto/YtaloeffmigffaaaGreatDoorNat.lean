/-
  A part of the proof of the card of WorkGeneralizationIsLeast (second form): lemmas that the text Card uses. No condition of its own.
-/
set_option linter.all false
set_option linter.unusedVariables false
set_option linter.unusedSimpArgs false
section
namespace Go.Big
def val (B:Nat):List Nat → Nat
  | []=>0
  | x :: xs=>x + B * val B xs
theorem val_append (B:Nat):∀ (a b:List Nat),val B (a ++ b) = val B a + B ^ a.length * val B b
  | [],b=>by simp [val]
  | x :: a,b=>by
    rw [List.cons_append,val,val_append B a b,val,List.length_cons,Nat.pow_succ,Nat.mul_add,Nat.mul_comm (B ^ a.length) B,Nat.mul_assoc]
    omega
theorem val_lt {B:Nat}:∀ {a:List Nat},(∀ x ∈ a,x < B) → val B a < B ^ a.length
  | [],_=>by simp [val]
  | x :: a,h=>by
    have h1:=h x (by simp)
    have h2:=val_lt (a:=a) fun y hy=>h y (by simp [hy])
    rw [val,List.length_cons,Nat.pow_succ,Nat.mul_comm]
    have h3:(val B a + 1) * B ≤ B ^ a.length * B:=Nat.mul_le_mul_right B h2
    rw [Nat.add_mul,Nat.one_mul] at h3
    omega
theorem val_zeros (B:Nat):∀ n:Nat,val B (List.replicate n 0) = 0
  | 0=>rfl
  | n + 1=>by rw [List.replicate_succ,val,val_zeros B n];simp
theorem val_snoc (B:Nat) (a:List Nat) (x:Nat):val B (a ++ [x]) = val B a + B ^ a.length * x:=by
  rw [val_append];simp [val]
theorem val_ge {B:Nat} {a:List Nat} {x:Nat} (hx:x ≠ 0):B ^ a.length ≤ val B (a ++ [x]):=by
  rw [val_snoc]
  have:B ^ a.length * 1 ≤ B ^ a.length * x:=Nat.mul_le_mul_left _ (by omega)
  omega
section
variable {B P Q v1 v2 V3 top u2 U3 q g r:Nat}
theorem guess_ge (hP:P = B * Q) (hu2:u2 < B) (hU3:U3 < Q) (hq:q * (v1 * P + v2 * Q + V3) ≤ top * P + u2 * Q + U3):q * v1 ≤ top:=by
  apply Classical.byContradiction
  intro hn
  have h1:(top + 1) * P ≤ q * v1 * P:=Nat.mul_le_mul_right P (by omega)
  have h2:q * (v1 * P + v2 * Q + V3) = q * v1 * P + q * (v2 * Q) + q * V3:=by
    rw [Nat.mul_add,Nat.mul_add,Nat.mul_assoc]
  have h3:(u2 + 1) * Q ≤ B * Q:=Nat.mul_le_mul_right Q hu2
  rw [Nat.add_mul,Nat.one_mul] at h1 h3
  omega
theorem guess_great (hP:P = B * Q) (hU3:U3 < Q) (hg:g * v1 + r = top) (ht:r * B + u2 < g * v2):top * P + u2 * Q + U3 < g * (v1 * P + v2 * Q + V3):=by
  have h1:g * (v1 * P + v2 * Q + V3) = g * v1 * P + g * v2 * Q + g * V3:=by
    rw [Nat.mul_add,Nat.mul_add,Nat.mul_assoc,Nat.mul_assoc]
  have h2:(r * B + u2 + 1) * Q ≤ g * v2 * Q:=Nat.mul_le_mul_right Q ht
  have h3:top * P = g * v1 * P + r * P:=by rw [← hg,Nat.add_mul]
  have h4:r * P = r * B * Q:=by rw [hP,Nat.mul_assoc]
  have h5:(r * B + u2 + 1) * Q = r * B * Q + u2 * Q + Q:=by rw [Nat.add_mul,Nat.add_mul,Nat.one_mul]
  omega
theorem guess_le (hP:P = B * Q) (hV3:V3 < Q) (hg:(g + 1) * v1 + r = top) (ht:(g + 1) * v2 ≤ r * B + u2) (hgv:g ≤ v1 * B + v2):g * (v1 * P + v2 * Q + V3) ≤ top * P + u2 * Q + U3:=by
  have h1:g * (v1 * P + v2 * Q + V3) = g * v1 * P + g * v2 * Q + g * V3:=by
    rw [Nat.mul_add,Nat.mul_add,Nat.mul_assoc,Nat.mul_assoc]
  have h2:(g + 1) * v2 * Q ≤ (r * B + u2) * Q:=Nat.mul_le_mul_right Q ht
  have h3:top * P = g * v1 * P + v1 * P + r * P:=by rw [← hg,Nat.add_mul,Nat.add_mul,Nat.one_mul,Nat.add_mul]
  have h4:r * P = r * B * Q:=by rw [hP,Nat.mul_assoc]
  have h5:(r * B + u2) * Q = r * B * Q + u2 * Q:=by rw [Nat.add_mul]
  have h6:(g + 1) * v2 * Q = g * v2 * Q + v2 * Q:=by rw [Nat.add_mul,Nat.one_mul,Nat.add_mul]
  have h7:g * V3 ≤ g * Q:=Nat.mul_le_mul_left g (by omega)
  have h8:g * Q ≤ (v1 * B + v2) * Q:=Nat.mul_le_mul_right Q hgv
  have h9:(v1 * B + v2) * Q = v1 * P + v2 * Q:=by rw [Nat.add_mul,hP,Nat.mul_assoc]
  omega
end
inductive MulSub (B g:Nat):List Nat → List Nat → List Nat → Nat → Nat → Prop
  | nil:MulSub B g [] [] [] 0 0
  | snoc {us vs ds:List Nat} {u v d c b b':Nat} (h:MulSub B g us vs ds c b) (hd:d < B) (hb':b' ≤ 1) (he:u + b' * B = d + (c + g * v) % B + b):MulSub B g (us ++ [u]) (vs ++ [v]) (ds ++ [d]) ((c + g * v) / B) b'
theorem MulSub.spec {B g:Nat} {us vs ds:List Nat} {c b:Nat} (h:MulSub B g us vs ds c b) :
    us.length = vs.length ∧ ds.length = vs.length ∧ b ≤ 1 ∧ (∀ d ∈ ds,d < B) ∧ val B us + B ^ vs.length * (c + b) = val B ds + g * val B vs:=by
  induction h with
  | nil=>simp [val]
  | @snoc us vs ds u v d c b b' h hd hb' he ih=>
    obtain ⟨h1,h2,h3,h4,h5⟩:=ih
    refine ⟨by simp [h1],by simp [h2],hb',fun x hx=>?_,?_⟩
    · rcases List.mem_append.1 hx with hx | hx
      · exact h4 x hx
      · simp at hx;omega
    · rw [val_snoc,val_snoc,val_snoc,h1,h2,List.length_append,List.length_singleton,Nat.pow_succ]
      generalize B ^ vs.length = W at *
      have e1:(c + g * v) % B + B * ((c + g * v) / B) = c + g * v:=Nat.mod_add_div _ _
      generalize (c + g * v) / B = k at *
      generalize (c + g * v) % B = m at *
      have e2:W * u + W * (b' * B) = W * d + W * m + W * b:=by rw [← Nat.mul_add,he,Nat.mul_add,Nat.mul_add]
      have e3:W * m + W * (B * k) = W * c + W * (g * v):=by rw [← Nat.mul_add,e1,Nat.mul_add]
      have e4:W * B * (k + b') = W * (B * k) + W * (b' * B):=by rw [Nat.mul_add,Nat.mul_assoc,Nat.mul_assoc,Nat.mul_comm B b']
      have e5:g * (val B vs + W * v) = g * val B vs + W * (g * v):=by rw [Nat.mul_add,Nat.mul_left_comm]
      have e6:W * (c + b) = W * c + W * b:=Nat.mul_add _ _ _
      rw [e4,e5]
      omega
end Go.Big
end
section
namespace Go.Big
inductive AddD (B:Nat):List Nat → List Nat → List Nat → Nat → Prop
  | nil:AddD B [] [] [] 0
  | snoc {us vs ds:List Nat} {u v d c c':Nat} (h:AddD B us vs ds c) (hd:d < B) (he:u + v + c = d + c' * B):AddD B (us ++ [u]) (vs ++ [v]) (ds ++ [d]) c'
theorem AddD.spec {B:Nat} {us vs ds:List Nat} {c:Nat} (h:AddD B us vs ds c) :
    us.length = vs.length ∧ ds.length = vs.length ∧ (∀ d ∈ ds,d < B) ∧ val B us + val B vs = val B ds + B ^ vs.length * c:=by
  induction h with
  | nil=>simp [val]
  | @snoc us vs ds u v d c c' h hd he ih=>
    obtain ⟨h1,h2,h4,h5⟩:=ih
    refine ⟨by simp [h1],by simp [h2],fun x hx=>?_,?_⟩
    · rcases List.mem_append.1 hx with hx | hx
      · exact h4 x hx
      · simp at hx;omega
    · rw [val_snoc,val_snoc,val_snoc,h1,h2,List.length_append,List.length_singleton,Nat.pow_succ]
      generalize B ^ vs.length = W at *
      have e2:W * u + W * v + W * c = W * d + W * (c' * B):=by rw [← Nat.mul_add,← Nat.mul_add,he,Nat.mul_add]
      have e4:W * B * c' = W * (c' * B):=by rw [Nat.mul_assoc,Nat.mul_comm B c']
      rw [e4]
      omega
structure Guess (V U g:Nat):Prop where
  ge:∀ q,q * V ≤ U → q ≤ g
  le:g = 0 ∨ (g - 1) * V ≤ U
theorem guess_right {B V U g n:Nat} {us vs ds:List Nat} {c b un:Nat} (hV:V = val B vs) (hn:n = vs.length) (hU:U = val B us + B ^ n * un) (hvs:∀ x ∈ vs,x < B) (hm:MulSub B g us vs ds c b) (hG:Guess V U g) (hpos:0 < V) (hcb:c + b ≤ un) :
    U = g * V + val B ds ∧ val B ds < V ∧ un = c + b:=by
  obtain ⟨h1,h2,h3,h4,h5⟩:=hm.spec
  subst hn
  have hVl:V < B ^ vs.length:=hV ▸ val_lt hvs
  obtain ⟨k,rfl⟩:∃ k,un = c + b + k:=⟨un - (c + b),by omega⟩
  have e1:B ^ vs.length * (c + b + k) = B ^ vs.length * (c + b) + B ^ vs.length * k:=Nat.mul_add _ _ _
  rw [← hV] at h5
  have e2:U = g * V + (val B ds + B ^ vs.length * k):=by omega
  have hlt:val B ds + B ^ vs.length * k < V:=by
    apply Classical.byContradiction
    intro hn
    have:=hG.ge (g + 1) (by rw [Nat.add_mul,Nat.one_mul];omega)
    omega
  have hk:k = 0:=by
    apply Classical.byContradiction
    intro h
    have:B ^ vs.length * 1 ≤ B ^ vs.length * k:=Nat.mul_le_mul_left _ (by omega)
    omega
  subst hk
  rw [Nat.mul_zero,Nat.add_zero] at e2 hlt
  exact ⟨e2,hlt,by omega⟩
theorem guess_back {B V U g n:Nat} {us vs ds es:List Nat} {c b un ca:Nat} (hB:0 < B) (hV:V = val B vs) (hn:n = vs.length) (hU:U = val B us + B ^ n * un) (hvs:∀ x ∈ vs,x < B) (hm:MulSub B g us vs ds c b) (hG:Guess V U g) (hpos:0 < V) (hcb:un < c + b) (ha:AddD B ds vs es ca) :
    0 < g ∧ U = (g - 1) * V + val B es ∧ val B es < V ∧ ca = 1 ∧ c + b = un + 1:=by
  obtain ⟨h1,h2,h3,h4,h5⟩:=hm.spec
  obtain ⟨a1,a2,a4,a5⟩:=ha.spec
  subst hn
  have hVl:V < B ^ vs.length:=hV ▸ val_lt hvs
  have hdl:val B ds < B ^ vs.length:=by have:=val_lt h4;rwa [h2] at this
  have hel:val B es < B ^ vs.length:=by have:=val_lt a4;rwa [a2] at this
  rw [← hV] at h5 a5
  obtain ⟨k,hk⟩:∃ k,c + b = un + 1 + k:=⟨c + b - (un + 1),by omega⟩
  have e1:B ^ vs.length * (c + b) = B ^ vs.length * un + B ^ vs.length + B ^ vs.length * k:=by rw [hk,Nat.mul_add,Nat.mul_add,Nat.mul_one]
  have e2:U + B ^ vs.length + B ^ vs.length * k = val B ds + g * V:=by omega
  have hg:0 < g:=by
    rcases Nat.eq_zero_or_pos g with h | h
    · subst h;rw [Nat.zero_mul] at e2;omega
    · exact h
  have hle:(g - 1) * V ≤ U:=hG.le.resolve_left (by omega)
  have e3:g * V = (g - 1) * V + V:=by
    have:g = g - 1 + 1:=by omega
    rw [this,Nat.add_mul,Nat.one_mul,Nat.add_sub_cancel]
  have hk0:k = 0:=by
    apply Classical.byContradiction
    intro h
    have:B ^ vs.length * 1 ≤ B ^ vs.length * k:=Nat.mul_le_mul_left _ (by omega)
    omega
  subst hk0
  rw [Nat.mul_zero,Nat.add_zero] at e2
  have hca:ca = 1:=by
    match ca,a5 with
    | 0,a5=>rw [Nat.mul_zero] at a5;omega
    | 1,_=>rfl
    | m + 2,a5=>
      have:B ^ vs.length * (m + 2) = B ^ vs.length * m + B ^ vs.length * 2:=Nat.mul_add _ _ _
      omega
  subst hca
  rw [Nat.mul_one] at a5
  have hlt:val B es < V:=by
    apply Classical.byContradiction
    intro hn
    have:=hG.ge g (by omega)
    have h9:g * V ≤ U:=by omega
    omega
  exact ⟨hg,by omega,hlt,rfl,by omega⟩
structure DivAt (B A V:Nat) (j n:Nat) (u qs:List Nat):Prop where
  len:u.length = j + n
  dig:∀ x ∈ u,x < B
  qdig:∀ x ∈ qs,x < B
  small:val B (u.drop j) < V
  sum:A = val B u + B ^ j * val B qs * V
theorem DivAt.done {B A V n:Nat} {u qs:List Nat} (h:DivAt B A V 0 n u qs):A = val B qs * V + val B u ∧ val B u < V:=by
  have h1:=h.sum
  have h2:=h.small
  rw [Nat.pow_zero,Nat.one_mul] at h1
  rw [List.drop_zero] at h2
  exact ⟨by omega,h2⟩
theorem DivAt.step {B A V j n q:Nat} {lo mid es qs:List Nat} (h:DivAt B A V (j + 1) n (lo ++ mid) qs) (hlo:lo.length = j) (hq:q < B) (hes:∀ x ∈ es,x < B) (hel:es.length = n) (he:val B mid = q * V + val B es) (hs:val B es < V) :
    DivAt B A V j n (lo ++ es) (q :: qs):=by
  refine ⟨by simp [hlo,hel],fun x hx=>?_,fun x hx=>?_,?_,?_⟩
  · rcases List.mem_append.1 hx with hx | hx
    · exact h.dig x (List.mem_append_left _ hx)
    · exact hes x hx
  · rcases List.mem_cons.1 hx with rfl | hx
    · exact hq
    · exact h.qdig x hx
  · rw [List.drop_append_of_le_length (by omega),← hlo,List.drop_length,List.nil_append];exact hs
  · have h1:=h.sum
    rw [val_append,hlo,he] at h1
    rw [val_append,hlo,val]
    have e1:B ^ j * (q * V + val B es) = B ^ j * (q * V) + B ^ j * val B es:=Nat.mul_add _ _ _
    have e2:B ^ j * (q + B * val B qs) * V = B ^ j * (q * V) + B ^ (j + 1) * val B qs * V:=by
      rw [Nat.mul_add,Nat.add_mul,Nat.mul_assoc,Nat.pow_succ,Nat.mul_assoc (B ^ j) B]
    rw [e2]
    omega
theorem DivAt.below {B A V j n:Nat} {lo mid qs:List Nat} (h:DivAt B A V (j + 1) n (lo ++ mid) qs) (hlo:lo.length = j):val B mid < B * V:=by
  have hs:=h.small
  have hl:=h.len
  rw [List.length_append] at hl
  rw [List.drop_append,hlo,List.drop_of_length_le (by omega),List.nil_append,show j + 1 - j = 1 by omega] at hs
  match mid,hs,h,hl with
  | [],hs,h,hl=>simp only [List.length_nil] at hl;omega
  | x :: m,hs,h,hl=>
    have hx:=h.dig x (by simp)
    simp only [List.drop_succ_cons,List.drop_zero] at hs
    rw [val]
    have:B * (val B m + 1) ≤ B * V:=Nat.mul_le_mul_left B hs
    rw [Nat.mul_add,Nat.mul_one] at this
    omega
end Go.Big
end
section
namespace Go.Big
section
variable {B P Q v1 v2 V3 top u2 U3 g r:Nat}
structure Gue (B P Q v1 v2 V3 top u2 U3 g r:Nat):Prop where
  sum:g * v1 + r = top
  ge:∀ q,q * (v1 * P + v2 * Q + V3) ≤ top * P + u2 * Q + U3 → q ≤ g
theorem Gue.start (hP:P = B * Q) (hv:0 < v1) (hu2:u2 < B) (hU3:U3 < Q):Gue B P Q v1 v2 V3 top u2 U3 (top / v1) (top % v1):=
  ⟨by rw [Nat.mul_comm];exact Nat.div_add_mod top v1,fun q hq=>(Nat.le_div_iff_mul_le hv).2 (guess_ge hP hu2 hU3 hq)⟩
theorem Gue.less (h:Gue B P Q v1 v2 V3 top u2 U3 g r) (hP:P = B * Q) (hU3:U3 < Q) (hlt:top * P + u2 * Q + U3 < B * (v1 * P + v2 * Q + V3)) (ht:B ≤ g ∨ r * B + u2 < g * v2) :
    0 < g ∧ Gue B P Q v1 v2 V3 top u2 U3 (g - 1) (r + v1):=by
  have hgr:top * P + u2 * Q + U3 < g * (v1 * P + v2 * Q + V3):=by
    rcases ht with ht | ht
    · exact Nat.lt_of_lt_of_le hlt (Nat.mul_le_mul_right _ ht)
    · exact guess_great hP hU3 h.sum ht
  have hg:0 < g:=by
    rcases Nat.eq_zero_or_pos g with h0 | h0
    · subst h0;rw [Nat.zero_mul] at hgr;omega
    · exact h0
  refine ⟨hg,?_,fun q hq=>?_⟩
  · have:=h.sum
    have e:g * v1 = (g - 1) * v1 + v1:=by
      have:g = g - 1 + 1:=by omega
      rw [this,Nat.add_mul,Nat.one_mul,Nat.add_sub_cancel]
    omega
  · have h1:=h.ge q hq
    have h2:q ≠ g:=fun e=>by subst e;omega
    omega
theorem top_lt (hP:P = B * Q) (hv2:v2 < B) (hV3:V3 < Q) (hlt:top * P + u2 * Q + U3 < B * (v1 * P + v2 * Q + V3)):top < B * (v1 + 1):=by
  apply Classical.byContradiction
  intro hn
  have h1:B * (v1 + 1) * P ≤ top * P:=Nat.mul_le_mul_right P (by omega)
  have h2:v1 * P + v2 * Q + V3 ≤ (v1 + 1) * P:=by
    have:(v2 + 1) * Q ≤ B * Q:=Nat.mul_le_mul_right Q hv2
    rw [Nat.add_mul,Nat.one_mul] at this
    rw [Nat.add_mul,Nat.one_mul]
    omega
  have h3:B * (v1 * P + v2 * Q + V3) ≤ B * ((v1 + 1) * P):=Nat.mul_le_mul_left B h2
  rw [← Nat.mul_assoc] at h3
  omega
theorem Gue.ends (h:Gue B P Q v1 v2 V3 top u2 U3 g r) (hP:P = B * Q) (hv:0 < v1) (hV3:V3 < Q) (hg:g < B) (ht:g * v2 ≤ r * B + u2):Guess (v1 * P + v2 * Q + V3) (top * P + u2 * Q + U3) g:=by
  refine ⟨h.ge,?_⟩
  rcases Nat.eq_zero_or_pos g with h0 | h0
  · exact .inl h0
  · right
    obtain ⟨k,rfl⟩:∃ k,g = k + 1:=⟨g - 1,by omega⟩
    rw [Nat.add_sub_cancel]
    refine guess_le hP hV3 h.sum ht ?_
    have:1 * B ≤ v1 * B:=Nat.mul_le_mul_right B hv
    omega
theorem Gue.breaks (h:Gue B P Q v1 v2 V3 top u2 U3 g r) (hP:P = B * Q) (hv:0 < v1) (hv2:v2 < B) (hV3:V3 < Q) (hlt:top * P + u2 * Q + U3 < B * (v1 * P + v2 * Q + V3)) (hr:B ≤ r):g < B ∧ Guess (v1 * P + v2 * Q + V3) (top * P + u2 * Q + U3) g:=by
  have ht:=top_lt hP hv2 hV3 hlt
  have hg:g < B:=by
    apply Classical.byContradiction
    intro hn
    have h1:B * v1 ≤ g * v1:=Nat.mul_le_mul_right v1 (by omega)
    have:=h.sum
    rw [Nat.mul_add,Nat.mul_one] at ht
    omega
  refine ⟨hg,h.ends hP hv hV3 hg ?_⟩
  have h1:g * v2 ≤ B * B:=Nat.mul_le_mul (by omega) (by omega)
  have h2:B * B ≤ r * B:=Nat.mul_le_mul_right B hr
  omega
end
theorem gcd_half_left {a b:Nat} (ha:a % 2 = 0) (hb:b % 2 = 1):Nat.gcd (a / 2) b = Nat.gcd a b:=by
  have e:a = 2 * (a / 2):=by omega
  have hc:Nat.gcd 2 b = 1:=by
    rw [Nat.gcd_rec,hb]
    rfl
  apply Nat.dvd_antisymm
  · refine Nat.dvd_gcd ?_ (Nat.gcd_dvd_right _ _)
    exact Nat.dvd_trans (Nat.gcd_dvd_left _ _) ⟨2,by omega⟩
  · refine Nat.dvd_gcd ?_ (Nat.gcd_dvd_right _ _)
    have h1:Nat.gcd a b ∣ 2 * (a / 2):=by rw [← e];exact Nat.gcd_dvd_left _ _
    have h2:Nat.Coprime (Nat.gcd a b) 2:=by
      show Nat.gcd (Nat.gcd a b) 2 = 1
      have h3:Nat.gcd (Nat.gcd a b) 2 ∣ Nat.gcd 2 b:=Nat.dvd_gcd (Nat.gcd_dvd_right _ _) (Nat.dvd_trans (Nat.gcd_dvd_left _ _) (Nat.gcd_dvd_right _ _))
      rw [hc] at h3
      exact Nat.dvd_one.1 h3
    exact h2.dvd_of_dvd_mul_left h1
theorem gcd_sub {a b:Nat} (h:b ≤ a):Nat.gcd (a - b) b = Nat.gcd a b:=by
  have e:a = (a - b) + b:=by omega
  conv=>rhs;rw [e]
  rw [Nat.gcd_add_self_left]
end Go.Big
end
section
namespace Go.Big
def dg (L:List Nat) (i:Nat):Nat:=L[i]?.getD 0
def valf (B:Nat) (f:Nat → Nat):Nat → Nat
  | 0=>0
  | n + 1=>valf B f n + B ^ n * f n
theorem dg_lt {B:Nat} {L:List Nat} (hB:0 < B) (h:∀ x ∈ L,x < B) (i:Nat):dg L i < B:=by
  unfold dg
  cases e:L[i]? with
  | none=>exact hB
  | some x=>exact h x (List.mem_of_getElem? e)
theorem dg_ge {L:List Nat} {i:Nat} (h:L.length ≤ i):dg L i = 0:=by
  unfold dg;rw [List.getElem?_eq_none h];rfl
theorem dg_some {L:List Nat} {i x:Nat} (h:L[i]? = some x):dg L i = x:=by unfold dg;rw [h];rfl
theorem dg_get {L:List Nat} {i:Nat} (h:i < L.length):L[i]? = some (dg L i):=by
  unfold dg;rw [List.getElem?_eq_getElem h];rfl
theorem dg_cons0 (x:Nat) (L:List Nat):dg (x :: L) 0 = x:=rfl
theorem dg_cons (x:Nat) (L:List Nat) (i:Nat):dg (x :: L) (i + 1) = dg L i:=by simp [dg]
theorem valf_congr {B n:Nat} {f g:Nat → Nat} (h:∀ i,i < n → f i = g i):valf B f n = valf B g n:=by
  induction n with
  | zero=>rfl
  | succ n ih=>rw [valf,valf,ih fun i hi=>h i (by omega),h n (by omega)]
theorem valf_succ' (B:Nat) (f:Nat → Nat):∀ n,valf B f (n + 1) = f 0 + B * valf B (fun i=>f (i + 1)) n
  | 0=>by simp [valf]
  | n + 1=>by
    rw [valf,valf_succ' B f n,valf,Nat.mul_add,Nat.pow_succ,Nat.mul_comm (B ^ n) B,Nat.mul_assoc]
    omega
theorem val_valf (B:Nat):∀ (L:List Nat) (n:Nat),L.length ≤ n → valf B (dg L) n = val B L
  | [],0,_=>rfl
  | [],n + 1,_=>by
    rw [valf,val_valf B [] n (Nat.zero_le _),dg_ge (Nat.zero_le _)];simp
  | x :: L,0,h=>by simp at h
  | x :: L,n + 1,h=>by
    rw [valf_succ',val,← val_valf B L n (by simpa using h)]
    congr 2
theorem valf_lt {B:Nat} {f:Nat → Nat} (h:∀ i,f i < B):∀ n,valf B f n < B ^ n
  | 0=>by simp [valf]
  | n + 1=>by
    have h1:=valf_lt h n
    have h2:B ^ n * (f n + 1) ≤ B ^ n * B:=Nat.mul_le_mul_left _ (h n)
    rw [Nat.mul_add,Nat.mul_one] at h2
    rw [valf,Nat.pow_succ]
    omega
theorem valf_top {B k:Nat} {f g:Nat → Nat} (hf:∀ i,f i < B) (h:f k < g k):valf B f (k + 1) < valf B g (k + 1):=by
  have h1:=valf_lt hf k
  have h2:B ^ k * (f k + 1) ≤ B ^ k * g k:=Nat.mul_le_mul_left _ h
  rw [Nat.mul_add,Nat.mul_one] at h2
  rw [valf,valf]
  omega
theorem valf_above {B k:Nat} {f g:Nat → Nat}:∀ (n:Nat),k ≤ n → (∀ i,k ≤ i → i < n → f i = g i) → ∃ c,valf B f n = valf B f k + c ∧ valf B g n = valf B g k + c
  | n,hk,h=>by
    rcases Nat.eq_or_lt_of_le hk with rfl | hlt
    · exact ⟨0,rfl,rfl⟩
    · obtain ⟨m,rfl⟩:∃ m,n = m + 1:=⟨n - 1,by omega⟩
      obtain ⟨c,h1,h2⟩:=valf_above (B:=B) m (by omega) fun i hi hm=>h i hi (by omega)
      have e:=h m (by omega) (by omega)
      exact ⟨c + B ^ m * g m,by rw [valf,h1,e];omega,by rw [valf,h2];omega⟩
theorem val_less {B k n:Nat} {A C:List Nat} (hB:0 < B) (hA:∀ x ∈ A,x < B) (hn1:A.length ≤ n) (hn2:C.length ≤ n) (hk:k < n) (hab:∀ i,k < i → i < n → dg A i = dg C i) (h:dg A k < dg C k):val B A < val B C:=by
  obtain ⟨c,h1,h2⟩:=valf_above (B:=B) n (show k + 1 ≤ n by omega) (fun i hi hm=>hab i (by omega) hm)
  have h3:=valf_top (dg_lt hB hA) h
  rw [val_valf B A n hn1] at h1
  rw [val_valf B C n hn2] at h2
  omega
theorem val_same {B n:Nat} {A C:List Nat} (hn1:A.length ≤ n) (hn2:C.length ≤ n) (h:∀ i,i < n → dg A i = dg C i):val B A = val B C:=by
  rw [← val_valf B A n hn1,← val_valf B C n hn2]
  exact valf_congr h
theorem valf_half {B H:Nat} {f o:Nat → Nat} (hB:B = 2 * H) (n:Nat) (ho:∀ i,i < n → o i = f i / 2 + (f (i + 1) % 2) * H):2 * valf B o n + f 0 % 2 = valf B f n + B ^ n * (f n % 2):=by
  induction n with
  | zero=>simp [valf]
  | succ n ih=>
    have h1:=ih fun i hi=>ho i (by omega)
    rw [valf,valf,ho n (by omega),Nat.pow_succ]
    generalize valf B o n = V at *
    generalize valf B f n = W at *
    generalize B ^ n = P at *
    have e1:P * (f n / 2 + f (n + 1) % 2 * H) = P * (f n / 2) + P * (f (n + 1) % 2 * H):=Nat.mul_add _ _ _
    have e2:P * B * (f (n + 1) % 2) = 2 * (P * (f (n + 1) % 2 * H)):=by
      rw [hB]
      simp only [Nat.mul_comm,Nat.mul_left_comm]
    have e3:P * f n = 2 * (P * (f n / 2)) + P * (f n % 2):=by
      have:f n = 2 * (f n / 2) + f n % 2:=(Nat.div_add_mod _ _).symm
      conv=>lhs;rw [this]
      rw [Nat.mul_add,Nat.mul_left_comm]
    rw [e1,e2,e3]
    omega
theorem val_half {B H:Nat} {A D:List Nat} (hB:B = 2 * H) (hl:D.length = A.length) (ho:∀ i,i < A.length → dg D i = dg A i / 2 + (dg A (i + 1) % 2) * H):val B D = val B A / 2 ∧ (A.length = 0 ∨ val B A % 2 = dg A 0 % 2):=by
  have h1:=valf_half hB A.length ho
  rw [dg_ge (Nat.le_refl A.length),val_valf B A _ (Nat.le_refl _),← hl,val_valf B D _ (Nat.le_refl _)] at h1
  constructor
  · omega
  · right;omega
theorem half_lt {B H x y:Nat} (hB:B = 2 * H) (hx:x < B):x / 2 + y % 2 * H < B:=by
  have:y % 2 = 0 ∨ y % 2 = 1:=by omega
  rcases this with e | e <;> rw [e] <;> omega
theorem val_odd {B H:Nat} (hB:B = 2 * H) (A:List Nat):val B A % 2 = dg A 0 % 2:=by
  cases A with
  | nil=>rfl
  | cons x L=>
    rw [val,dg_cons0,hB,Nat.mul_assoc]
    omega
structure Subs (B:Nat) (A C D:List Nat) (i b:Nat):Prop where
  len:D.length = i
  dig:∀ x ∈ D,x < B
  bor:b ≤ 1
  sum:val B D + valf B (dg C) i = valf B (dg A) i + B ^ i * b
theorem Subs.start (B:Nat) (A C:List Nat):Subs B A C [] 0 0:=⟨rfl,by simp,by omega,by simp [val,valf]⟩
theorem Subs.step {B:Nat} {A C D:List Nat} {i b d b':Nat} (h:Subs B A C D i b) (hd:d < B) (hb':b' ≤ 1) (he:dg A i + b' * B = d + dg C i + b):Subs B A C (D ++ [d]) (i + 1) b':=by
  refine ⟨by simp [h.len],fun x hx=>?_,hb',?_⟩
  · rcases List.mem_append.1 hx with hx | hx
    · exact h.dig x hx
    · simp at hx;omega
  · have h1:=h.sum
    rw [val_snoc,h.len,valf,valf,Nat.pow_succ]
    generalize B ^ i = P at *
    have e1:P * dg A i + P * (b' * B) = P * d + P * dg C i + P * b:=by rw [← Nat.mul_add,he,Nat.mul_add,Nat.mul_add]
    have e2:P * B * b' = P * (b' * B):=by rw [Nat.mul_assoc,Nat.mul_comm B b']
    rw [e2]
    omega
theorem Subs.done {B:Nat} {A C D:List Nat} {b:Nat} (h:Subs B A C D A.length b) (hC:C.length ≤ A.length) (hle:val B C ≤ val B A):val B D = val B A - val B C:=by
  have h1:=h.sum
  rw [val_valf B A _ (Nat.le_refl _),val_valf B C _ hC] at h1
  have h2:=val_lt h.dig
  rw [h.len] at h2
  have hb:=h.bor
  have:b = 0:=by
    apply Classical.byContradiction
    intro hn
    have e:b = 1:=by omega
    subst e
    rw [Nat.mul_one] at h1
    omega
  subst this
  rw [Nat.mul_zero] at h1
  omega
structure Shls (B r:Nat) (A D:List Nat) (i c:Nat):Prop where
  len:D.length = i
  dig:∀ x ∈ D,x < B
  car:c < 2 ^ r
  sum:val B D + B ^ i * c = valf B (dg A) i * 2 ^ r
theorem Shls.start (B r:Nat) (A:List Nat):Shls B r A [] 0 0:=⟨rfl,by simp,Nat.two_pow_pos r,by simp [val,valf]⟩
theorem Shls.step {B r:Nat} {A D:List Nat} {i c s:Nat} (hB:0 < B) (h:Shls B r A D i c) (ha:dg A i < B) (hs:s = dg A i * 2 ^ r + c):Shls B r A (D ++ [s % B]) (i + 1) (s / B):=by
  refine ⟨by simp [h.len],fun x hx=>?_,?_,?_⟩
  · rcases List.mem_append.1 hx with hx | hx
    · exact h.dig x hx
    · simp at hx;rw [hx];exact Nat.mod_lt _ hB
  · rw [Nat.div_lt_iff_lt_mul hB]
    have h1:(dg A i + 1) * 2 ^ r ≤ B * 2 ^ r:=Nat.mul_le_mul_right _ ha
    rw [Nat.add_mul,Nat.one_mul,Nat.mul_comm B] at h1
    have:=h.car
    omega
  · have h1:=h.sum
    rw [val_snoc,h.len,valf,Nat.add_mul,Nat.pow_succ,Nat.mul_assoc,← h1]
    have e:s % B + B * (s / B) = s:=Nat.mod_add_div _ _
    have e1:B ^ i * (s % B) + B ^ i * (B * (s / B)) = B ^ i * (dg A i * 2 ^ r) + B ^ i * c:=by
      rw [← Nat.mul_add,e,hs,Nat.mul_add]
    rw [Nat.mul_assoc (B ^ i) (dg A i)]
    omega
theorem Shls.done {B r:Nat} {A D:List Nat} {c:Nat} (h:Shls B r A D A.length c) (k:Nat) (hB:2 ^ r ≤ B):val B (List.replicate k 0 ++ D ++ [c]) = val B A * 2 ^ r * B ^ k ∧ ∀ x ∈ List.replicate k 0 ++ D ++ [c],x < B:=by
  have h1:=h.sum
  rw [val_valf B A _ (Nat.le_refl _)] at h1
  constructor
  · rw [List.append_assoc,val_append,val_zeros,val_snoc,h.len,h1,List.length_replicate,Nat.zero_add,Nat.mul_comm]
  · intro x hx
    have:=h.car
    have h0:=Nat.two_pow_pos r
    simp only [List.mem_append,List.mem_replicate,List.mem_singleton] at hx
    rcases hx with (⟨_,rfl⟩ | hx) | rfl
    · omega
    · exact h.dig x hx
    · omega
end Go.Big
end
