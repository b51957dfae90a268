/- Lemmas; no condition. -/
import Derived.Test.YtealgacfnbbgdaaGreatDoorAn
set_option linter.all false
set_option maxHeartbeats 4000000
set_option maxRecDepth 100000
namespace Go.Proofs.YtealgacfnbbgdaaGreatDoor
open Go.RowKit Go.Big
variable {l:List UInt8} {n:Nat}
def gdL:Nat→List (List UInt8)
 |0=>[[33],[116,114,117,101],[102,97,105,108],[102,97,108,115,101]]
 |1=>[[92,43]]
 |2=>[[44],[59],[45,62],[42,45,62]]
 |_=>[]
def piB (l:List UInt8) (n:Nat):Bool:=!(gdL n).contains l&&(lL l n&& !icB l n)
def RO (a b c d:Bool):a=true∨(a=false∧b=true)∨(a=false∧b=false∧c=true)∨(a=false∧b=false∧c=false∧d=true)∨(a=false∧b=false∧c=false∧d=false):=by
 cases a<;>cases b<;>cases c<;>cases d<;>simp
def piB_gd (h:(gdL n).contains l=true):piB l n=false:=by unfold piB;rw [h];rfl
def piB_no (h:(gdL n).contains l=false) {X Y:Bool} (hX:lL l n=X) (hY:icB l n=Y):piB l n=(X&& !Y):=by unfold piB;rw [h,hX,hY];rfl
def bi0_no (nm:ByteArray) (X Y:Bool) (w:Wo) (h:(gdL 0).contains nm.toList=false)
  (d1:∀w1,Bz w w1→Cz 126 #[.string nm,.int .i64 0] w1 fun e w'=>e= .returned (.bool X)∧Bz w1 w')
  (d2:∀w1,Bz w w1→Cz 127 #[.string nm,.int .i64 0] w1 fun e w'=>e= .returned (.bool Y)∧Bz w1 w'):
  Cz 79 #[.string nm,.int .i64 0] w fun e w'=>e= .returned (.bool (X&& !Y))∧Bz w w':=by
 simp only [gdL,aT,aQ,HE] at h;obtain⟨h0,h1,h2,h3,_⟩:=h;cases X<;>cases Y
 all_goals
  go_enter Tryz.func79,Tryz.ntmps79
  go_wp2_with first|(go_at_call 126;(with_reducible refine(d1 _ (aK _ _)).mono ?_);rintro e w2 ⟨rfl,a0⟩;have d3:=d2 w2 a0)|(go_at_call 127;(with_reducible refine d3.mono ?_);rintro e w3 ⟨rfl,hb3⟩)
  all_goals go_ret
  all_goals first|exact⟨rfl,aK _ _⟩|exact⟨rfl,a0⟩|exact⟨rfl,a0.trans (hb3.mono a0.size)⟩
def bi0_gd (nm:ByteArray) (w:Wo) (h:(gdL 0).contains nm.toList=true):
  Cz 79 #[.string nm,.int .i64 0] w fun e w'=>e= .returned (.bool false)∧Bz w w':=by
 simp only [gdL,aT,aQ,HD] at h;rcases RO (nm.toList== [33]) (nm.toList== [116,114,117,101]) (nm.toList== [102,97,105,108]) (nm.toList== [102,97,108,115,101]) with h1|⟨h1,h2⟩|⟨h1,h2,h3⟩|⟨h1,h2,h3,h4⟩|⟨h1,h2,h3,h4⟩
 iterate 4
  ·clear h;go_enter Tryz.func79,Tryz.ntmps79;go_wp2
   go_ret
   exact⟨rfl,aK _ _⟩
 ·rw [h1,h2,h3,h4] at h;cases h
def bi1_no (nm:ByteArray) (X Y:Bool) (w:Wo) (h:(gdL 1).contains nm.toList=false)
  (d1:∀w1,Bz w w1→Cz 126 #[.string nm,.int .i64 1] w1 fun e w'=>e= .returned (.bool X)∧Bz w1 w')
  (d2:∀w1,Bz w w1→Cz 127 #[.string nm,.int .i64 1] w1 fun e w'=>e= .returned (.bool Y)∧Bz w1 w'):
  Cz 79 #[.string nm,.int .i64 1] w fun e w'=>e= .returned (.bool (X&& !Y))∧Bz w w':=by
 simp only [gdL,aT,aQ,HE] at h;obtain⟨h0,_⟩:=h;cases X<;>cases Y
 all_goals
  go_enter Tryz.func79,Tryz.ntmps79
  go_wp2_with first|(go_at_call 126;(with_reducible refine(d1 _ (aK _ _)).mono ?_);rintro e w2 ⟨rfl,a0⟩;have d3:=d2 w2 a0)|(go_at_call 127;(with_reducible refine d3.mono ?_);rintro e w3 ⟨rfl,hb3⟩)
  all_goals go_ret
  all_goals first|exact⟨rfl,aK _ _⟩|exact⟨rfl,a0⟩|exact⟨rfl,a0.trans (hb3.mono a0.size)⟩
def bi1_gd (nm:ByteArray) (w:Wo) (h:(gdL 1).contains nm.toList=true):
  Cz 79 #[.string nm,.int .i64 1] w fun e w'=>e= .returned (.bool false)∧Bz w w':=by
 simp only [gdL,aT,aQ,HD] at h;go_enter Tryz.func79,Tryz.ntmps79;go_wp2
 go_ret
 exact⟨rfl,aK _ _⟩
def bi2_no (nm:ByteArray) (X Y:Bool) (w:Wo) (h:(gdL 2).contains nm.toList=false)
  (d1:∀w1,Bz w w1→Cz 126 #[.string nm,.int .i64 2] w1 fun e w'=>e= .returned (.bool X)∧Bz w1 w')
  (d2:∀w1,Bz w w1→Cz 127 #[.string nm,.int .i64 2] w1 fun e w'=>e= .returned (.bool Y)∧Bz w1 w'):
  Cz 79 #[.string nm,.int .i64 2] w fun e w'=>e= .returned (.bool (X&& !Y))∧Bz w w':=by
 simp only [gdL,aT,aQ,HE] at h;obtain⟨h0,h1,h2,h3,_⟩:=h;cases X<;>cases Y
 all_goals
  go_enter Tryz.func79,Tryz.ntmps79
  go_wp2_with first|(go_at_call 126;(with_reducible refine(d1 _ (aK _ _)).mono ?_);rintro e w2 ⟨rfl,a0⟩;have d3:=d2 w2 a0)|(go_at_call 127;(with_reducible refine d3.mono ?_);rintro e w3 ⟨rfl,hb3⟩)
  all_goals go_ret
  all_goals first|exact⟨rfl,aK _ _⟩|exact⟨rfl,a0⟩|exact⟨rfl,a0.trans (hb3.mono a0.size)⟩
def bi2_gd (nm:ByteArray) (w:Wo) (h:(gdL 2).contains nm.toList=true):
  Cz 79 #[.string nm,.int .i64 2] w fun e w'=>e= .returned (.bool false)∧Bz w w':=by
 simp only [gdL,aT,aQ,HD] at h;rcases RO (nm.toList== [44]) (nm.toList== [59]) (nm.toList== [45,62]) (nm.toList== [42,45,62]) with h1|⟨h1,h2⟩|⟨h1,h2,h3⟩|⟨h1,h2,h3,h4⟩|⟨h1,h2,h3,h4⟩
 iterate 4
  ·clear h;go_enter Tryz.func79,Tryz.ntmps79;go_wp2
   go_ret
   exact⟨rfl,aK _ _⟩
 ·rw [h1,h2,h3,h4] at h;cases h
def bi3_no (nm:ByteArray) (n:Int) (h0:¬n=0) (h1:¬n=1) (h2:¬n=2) (X Y:Bool) (w:Wo)
  (d1:∀w1,Bz w w1→Cz 126 #[.string nm,.int .i64 n] w1 fun e w'=>e= .returned (.bool X)∧Bz w1 w')
  (d2:∀w1,Bz w w1→Cz 127 #[.string nm,.int .i64 n] w1 fun e w'=>e= .returned (.bool Y)∧Bz w1 w'):
  Cz 79 #[.string nm,.int .i64 n] w fun e w'=>e= .returned (.bool (X&& !Y))∧Bz w w':=by
 cases X<;>cases Y
 all_goals
  go_enter Tryz.func79,Tryz.ntmps79
  go_wp2_with first|(go_at_call 126;(with_reducible refine(d1 _ (aK _ _)).mono ?_);rintro e w2 ⟨rfl,a0⟩;have d3:=d2 w2 a0)|(go_at_call 127;(with_reducible refine d3.mono ?_);rintro e w3 ⟨rfl,hb3⟩)
  all_goals go_ret
  all_goals first|exact⟨rfl,aK _ _⟩|exact⟨rfl,a0⟩|exact⟨rfl,a0.trans (hb3.mono a0.size)⟩
def bi_no (nm:ByteArray) (X Y:Bool) (w:Wo):∀n:Nat,(gdL n).contains nm.toList=false→((∀w1,Bz w w1→Cz 126 #[.string nm,.int .i64 n] w1 fun e w'=>e= .returned (.bool X)∧Bz w1 w'))→
  ((∀w1,Bz w w1→Cz 127 #[.string nm,.int .i64 n] w1 fun e w'=>e= .returned (.bool Y)∧Bz w1 w'))→
  Cz 79 #[.string nm,.int .i64 n] w fun e w'=>e= .returned (.bool (X&& !Y))∧Bz w w':=by
 intro n hg d1 d2
 by_cases e0:n=0
 ·have ez:(n:Int)=0:=by omega
  rw [ez] at d1 d2 ⊢;rw [e0] at hg;exact bi0_no nm X Y w hg d1 d2
 ·by_cases e1:n=1
  ·have ez:(n:Int)=1:=by omega
   rw [ez] at d1 d2 ⊢;rw [e1] at hg;exact bi1_no nm X Y w hg d1 d2
  ·by_cases e2:n=2
   ·have ez:(n:Int)=2:=by omega
    rw [ez] at d1 d2 ⊢;rw [e2] at hg;exact bi2_no nm X Y w hg d1 d2
   ·exact bi3_no nm n (by omega) (by omega) (by omega) X Y w d1 d2
def bi_gd (nm:ByteArray) (w:Wo):∀n:Nat,(gdL n).contains nm.toList=true→Cz 79 #[.string nm,.int .i64 n] w fun e w'=>e= .returned (.bool false)∧Bz w w'
 |0,hg=>bi0_gd nm w hg
 |1,hg=>bi1_gd nm w hg
 |2,hg=>bi2_gd nm w hg
 |n+3,hg=>absurd hg (by show¬(([]:List (List UInt8)).contains nm.toList=true);rw [aQ];exact Be)
def Kh (hR:gY) (hI:mM) (nm:ByteArray) (n:Nat) (w:Wo) (h3:2<w.heap.size) (a1:eQ w):
  Cz 79 #[.string nm,.int .i64 n] w fun e w'=>e= .returned (.bool (piB nm.toList n))∧Bz w w':=by
 have hs:∀w1,Bz w w1→eQ w1:=fun w1 hb b a0=>(hb.cell (p:=⟨2,b,none⟩) h3).trans (a1 b a0)
 cases hg:(gdL n).contains nm.toList
 ·rw [piB_no hg rfl rfl];exact bi_no nm _ _ w n hg (fun w1 hb=>Ke hR hI nm n w1 (eE h3 hb.size) (hs w1 hb)) (fun w1 hb=>Kp nm n w1 (eE h3 hb.size) (hs w1 hb))
 ·rw [piB_gd hg];exact bi_gd nm w n hg
end Go.Proofs.YtealgacfnbbgdaaGreatDoor
namespace Go.Proofs.YtealgacfnbbgdaaGreatDoor
open Go.Ev
noncomputable section
variable {X:List V} {l a:List UInt8} {m:Mp} {u x:Value}
def DI:VH→Option (List V)
 | .ok (.sl b o len sz) h=>match aB b h.mem with
  |some (.cells _ els _ _)=>bif Nat.ble (o+len*sz) els.flatten.length then some ((els.flatten.drop o).take (len*sz)) else none
  |_=>none
 |_=>none
def szOf:VH→Nat
 | .ok (.sl _ _ _ sz) _=>sz
 |_=>0
def QZ {r:VH} (h:DI r=some X):∃b o len sz h1 a0 els fm ro,r= .ok (.sl b o len sz) h1∧aB b h1.mem=some (.cells a0 els fm ro)∧o+len*sz≤els.flatten.length∧X=(els.flatten.drop o).take (len*sz):=by
 unfold DI at h;split at h
 ·rename_i b o len sz h1;split at h
  ·rename_i a0 els fm ro hm;cases hb:Nat.ble (o+len*sz) els.flatten.length with
   |false=>rw [hb] at h;cases h
   |true=>
    rw [hb] at h;exact⟨b,o,len,sz,h1,a0,els,fm,ro,rfl,hm,cY hb,(bP h).symm⟩
  ·cases h
 ·cases h
def QK {h:H} {w:Wo} {b:Ev.Id} {o len sz a0:Nat} {els:List (List V)} {fm:Ev.Id} {ro:Rw} (hr:HR m h w) (hR:R m (.sl b o len sz) u) (hm:aB b h.mem=some (.cells a0 els fm ro)):
  ∃B off cap,u= .slice (some ⟨B,off,none⟩) len cap∧∀(i:Nat) v,((els.flatten.drop o).take (len*sz))[i]?=some v→∃x,w.cell? ⟨B,off+i,none⟩=some x∧R m v x:=by
 simp only [R] at hR;obtain⟨l,cap,hl,rfl,_,_⟩:=hR;obtain⟨l2,hl2,ho⟩:=hr.obj _ _ hm;rw [hl] at hl2;obtain rfl:=bP hl2;obtain⟨C,t,fz,hC⟩:=ho;refine⟨l.blk,l.base+o,cap,rfl,fun i v hv=>?_⟩;have a1:els.flatten[o+i]?=some v:=by
  rw [yT] at hv;split at hv
  ·rw [mC] at hv;exact hv
  ·cases hv
 obtain⟨x,hx,hxR,_⟩:=hC.val _ _ a1;refine⟨x,?_,hxR⟩;have h1:=uQ (l:=l) hC.at_ (l.base+(o+i));have h2:w.cell? ⟨l.blk,l.base+o+i,none⟩=C[l.base+(o+i)]?:=by
  rw [pJ];exact h1
 rw [h2];exact hx
def strB:V→Option (List Nat)
 | .s l c=>some (bytesOf l c)
 |_=>none
def str_of {v:V} (h:strB v=some (l.map UInt8.toNat)) (hR:R m v x):∃s:ByteArray,x= .string s∧s.toList=l:=by
 cases v with
 |s n c=>
  rw [iI] at hR;obtain⟨s,rfl,hs,_⟩:=hR;refine⟨s,rfl,?_⟩;have e:bytesOf n c=l.map UInt8.toNat:=bP h;rw [e] at hs;have:s.data.toList=l:=(Rn (fun a b h=>yP.1 h)).1 hs;rw [mS];exact this
 |_=>cases h
def tR (r:VH):Option (List (List Nat)):=match DI r with
 |some X=>bif Nat.beq (szOf r) 1 then X.mapM strB else none
 |none=>none
def rfL:Nat→List (List UInt8)
 |0=>[[33],[116,114,117,101],[102,97,105,108],[102,97,108,115,101],[104,97,108,116],[110,108],[114,101,112,101,97,116]]
 |n=>flL n
def JC (n:Nat):V:=(oV.flatten)[n]?.getD (.b false)
def tM (n:Nat):VH:=uR Tryz.prog spL0 5000 300 211 [JC n,.s 1 32] (H1 14)
def split0:(tR (tM 0)==some ((rfL 0).map fun l=>l.map UInt8.toNat))=true:=by kernel_rfl
def split1:(tR (tM 1)==some ((rfL 1).map fun l=>l.map UInt8.toNat))=true:=by kernel_rfl
def split2:(tR (tM 2)==some ((rfL 2).map fun l=>l.map UInt8.toNat))=true:=by kernel_rfl
def split3:(tR (tM 3)==some ((rfL 3).map fun l=>l.map UInt8.toNat))=true:=by kernel_rfl
def split4:(tR (tM 4)==some ((rfL 4).map fun l=>l.map UInt8.toNat))=true:=by kernel_rfl
def iZ:List (List UInt8 × Nat):=[([99,97,108,108],1),([99,97,108,108],2),([99,97,108,108],3),([99,97,108,108],4),([99,97,108,108],5),([99,97,108,108],6),([99,97,108,108],7),([99,97,108,108],8),([114,101,112,101,97,116],0),([104,97,108,116],0),([116,104,114,111,119],1),([111,110,99,101],1),([105,103,110,111,114,101],1),([114,101,116,114,97,99,116],1),([97,108,108,95,100,105,102,102,101,114,101,110,116],1),([108,97,98,101,108],1),([123,125],1),([101,110,116,97,105,108,101,100],1),([102,111,114,97,108,108],2),([99,108,97,117,115,101],2),([112,104,114,97,115,101],2),([102,114,101,101,122,101],2),([58],2),([105,110],2),([35,61],2),([35,92,61],2),([35,60],2),([35,62],2),([35,61,60],2),([35,62,61],2),([105,110,102],2),([115,117,112],2),([99,97,116,99,104],3),([102,105,110,100,97,108,108],3),([98,97,103,111,102],3),([115,101,116,111,102],3),([98,101,116,119,101,101,110],3),([99,117,114,114,101,110,116,95,111,112],3),([112,104,114,97,115,101],3),([101,108,101,109,101,110,116],3)]
def ctlR:VH:=uR Tryz.prog spL0 5000 300 292 [] (H1 14)
def tU:List V→Option (List (List Nat × Int))
 | .s l c:: .i .i64 n::X=>(tU X).map fun r=>(bytesOf l c,n)::r
 | []=>some []
 |_=>none
def IS (r:VH):Option (List (List Nat × Int)):=match DI r with
 |some X=>bif Nat.beq (szOf r) 2 then tU X else none
 |none=>none
def Nn:(IS ctlR==some (iZ.map fun p=>(p.1.map UInt8.toNat,(p.2:Int))))=true:=by kernel_rfl
def XV {s:ByteArray} (h:s.toList=l):s=⟨⟨l⟩⟩:=by
 rw [mS] at h;obtain⟨⟨x⟩⟩:=s;obtain rfl:x=l:=h;rfl
def map_toNat_inj {b:List UInt8} (h:a.map UInt8.toNat=b.map UInt8.toNat):a=b:=(Rn (fun a b h=>yP.1 h)).1 h
def Dc:∀n,n<5→(tR (tM n)==some ((rfL n).map fun l=>l.map UInt8.toNat))=true
 |0,_=>split0
 |1,_=>split1
 |2,_=>split2
 |3,_=>split3
 |4,_=>split4
 |n+5,h=>absurd h (by omega)
def SY {α β:Type} {f:α→Option β}:∀{l:List α} {r:List β},l.mapM f=some r→r.length=l.length∧∀(i:Nat) b,r[i]?=some b→∃a,l[i]?=some a∧f a=some b
 | [],r,h=>by
  simp only [List.mapM_nil,Option.pure_def,dW] at h;subst h;exact⟨rfl,fun i b hb=>by simp at hb⟩
 |a::l,r,h=>by
  simp only [Ar,Option.bind_eq_bind,Option.pure_def,Option.bind_eq_some_iff,dW] at h;obtain⟨b,hb,r',hr,rfl⟩:=h;obtain⟨h1,h2⟩:=SY hr;refine⟨by simp [h1],fun i c hc=>?_⟩;cases i with
  |zero=>simp at hc;subst hc;exact⟨a,rfl,hb⟩
  |succ i=>simp at hc;obtain⟨a',h3,h4⟩:=h2 i c hc;exact⟨a',by simpa using h3,h4⟩
def zF (n:Nat) (hn:n<5) (w:Wo) (hw:Tryz.prog.globals.size≤w.heap.size) (hN:iC w) (hS:eQ w) (s:ByteArray) (hs:w.cell? ⟨1,n,none⟩=some (.string s)):
  Cz 211 #[.string s,.string ⟨#[32]⟩] w fun e w'=>∃B off cap,e= .returned (.slice (some ⟨B,off,none⟩) (rfL n).length cap)∧
   (∀(j:Nat) l,(rfL n)[j]?=some l→w'.cell? ⟨B,off+j,none⟩=some (.string ⟨⟨l⟩⟩))∧RowKit.Below w.heap.size w w':=by
 have hr:=Dc n hn;have a0:tR (tM n)=some ((rfL n).map fun l=>l.map UInt8.toNat):=by simpa using hr
 unfold tR at a0;split at a0
 case h_2=>cases a0
 case h_1 X hX=>
 cases h1:Nat.beq (szOf (tM n)) 1 with
 |false=>rw [h1] at a0;cases a0
 |true=>
 rw [h1] at a0;simp only [dG] at a0;obtain⟨b,o,len,sz,h2,sz',els,fm,ro,a2,hm,hlen,rfl⟩:=QZ hX;rw [a2] at h1;obtain rfl:sz=1:=bG h1;obtain⟨k1,k2⟩:=SY a0;rw [mB] at k1;have a1:(rfL n).length=len:=by
  rw [k1,bT,fD];omega
 obtain⟨l,c,s',e1,e2,e3,e4⟩:=hN n hn;rw [hs] at e3;obtain rfl:s=s':=by injection e3 with e3;injection e3
 have a5:=KY (els:=oV) (fun el a4=>EY IZ el a4) e1;have a3:Rl (m0 Tryz.prog.globals.size) [JC n,.s 1 32] [.string s,.string ⟨#[32]⟩]:=by
  simp only [Rl];refine⟨_,_,rfl,?_,_,_,rfl,?_,rfl⟩
  ·unfold JC;rw [a5];show R _ (V.s l c) _;rw [iI];exact⟨s,rfl,e4,e2⟩
  ·rw [iI];exact⟨_,rfl,rfl,by decide⟩
 refine(LD PG (enters_of Tryz.func211 (by kernel_rfl) rfl) w hw hN hS a3 a2).mono ?_;rintro e w' ⟨u,m',rfl,hRu,hHR,hB⟩;obtain⟨B,off,cap,rfl,hc⟩:=QK hHR hRu hm;refine⟨B,off,cap,by rw [a1],fun j q hj=>?_,hB⟩;have a6:((rfL n).map fun l=>l.map UInt8.toNat)[j]?=some (q.map UInt8.toNat):=by rw [jO,hj];rfl
 obtain⟨v,hv,hvs⟩:=k2 j _ a6;obtain⟨x,hx,hxR⟩:=hc j v hv;obtain⟨s2,rfl,hs2⟩:=str_of hvs hxR;rw [hx,XV hs2]
def jI (p:List UInt8 × Nat):Lv:=[.string ⟨⟨p.1⟩⟩,.int .i64 (p.2:Nat)]
def Hp {b:List Nat} {n:Int} {r:List (List Nat × Int)} (h:tU X=some ((b,n)::r)):∃l c X',X= .s l c:: .i .i64 n::X'∧bytesOf l c=b∧tU X'=some r:=by
 unfold tU at h;split at h
 ·rename_i l c k X';simp only [wJ,kM,BW] at h;obtain⟨r',hr,⟨e1,e2⟩,e3⟩:=h;subst e2;subst e3;exact⟨l,c,X',rfl,e1,hr⟩
 ·cases h
 ·cases h
def Hn (h:tU X=some []):X= []:=by
 unfold tU at h;split at h
 ·simp at h
 ·rfl
 ·cases h
def Ho:∀{L:List (List UInt8 × Nat)} {X:List V},tU X=some (L.map fun p=>(p.1.map UInt8.toNat,(p.2:Int)))→
  X.length=L.length*2∧∀(j:Nat) v x,X[j]?=some v→R m v x→(L.flatMap jI)[j]?=some x:=by
 intro L
 induction L with
 |nil=>intro X h;rw [Hn h];exact⟨rfl,fun j v x hj=>by simp at hj⟩
 | cons p L ih=>
  intro X h;obtain⟨l,c,X',rfl,e1,hr⟩:=Hp h;obtain⟨h1,h2⟩:=ih hr;refine⟨by simp [h1];omega,fun j v x hj hR=>?_⟩;rcases j with _|_|j
  ·obtain rfl:V.s l c=v:=by simpa using hj
   rw [iI] at hR;obtain⟨s,rfl,hs,_⟩:=hR;rw [e1] at hs;have:s.data.toList=p.1:=map_toNat_inj hs;have e5:s=⟨⟨p.1⟩⟩:=XV (by rw [mS];exact this);rw [e5];rfl
  ·obtain rfl:V.i .i64 ((p.2:Nat):Int)=v:=by simpa using hj
   simp only [R] at hR;subst hR;rfl
  ·have:=h2 j v x (by simpa using hj) hR;simpa [jI] using this
def Nq (w:Wo) (hw:Tryz.prog.globals.size≤w.heap.size) (hN:iC w) (hS:eQ w):
  Cz 292 #[] w fun e w'=>∃B off cap,e= .returned (.slice (some ⟨B,off,none⟩) iZ.length cap)∧
   (∀(j:Nat) u,(iZ.flatMap jI)[j]?=some u→w'.cell? ⟨B,off+j,none⟩=some u)∧RowKit.Below w.heap.size w w':=by
 have a0:IS ctlR=some (iZ.map fun p=>(p.1.map UInt8.toNat,(p.2:Int))):=by simpa using Nn
 unfold IS at a0;split at a0
 case h_2=>cases a0
 case h_1 X hX=>
 cases h1:Nat.beq (szOf ctlR) 2 with
 |false=>rw [h1] at a0;cases a0
 |true=>
 rw [h1] at a0;simp only [dG] at a0;obtain⟨b,o,len,sz,h2,sz',els,fm,ro,a2,hm,hlen,rfl⟩:=QZ hX;rw [a2] at h1;obtain rfl:sz=2:=bG h1;refine(LD (vs:=[]) (us:=[]) PG (enters_of Tryz.func292 (by kernel_rfl) rfl) w hw hN hS (by simp [Rl]) a2).mono ?_;rintro e w' ⟨u,m',rfl,hRu,hHR,hB⟩;obtain⟨B,off,cap,rfl,hc⟩:=QK hHR hRu hm;obtain⟨g1,g2⟩:=Ho (m:=m') a0;have a1:len=iZ.length:=by
  rw [bT,fD] at g1;omega
 refine⟨B,off,cap,by rw [a1],fun j q hj=>?_,hB⟩;have a7:j<iZ.length*2:=by
  have h4:(iZ.flatMap jI).length=iZ.length*2:=by kernel_rfl
  have:=(aZ.1 hj).1;omega
 obtain⟨v,hv⟩:∃v,((els.flatten.drop o).take (len*2))[j]?=some v:=⟨_,cE (by omega)⟩;obtain⟨x,hx,hxR⟩:=hc j v hv;have:=g2 j v x hv hxR;rw [hj] at this;rw [hx,this]
end
end Go.Proofs.YtealgacfnbbgdaaGreatDoor
namespace Go.Proofs.YtealgacfnbbgdaaGreatDoor
open Go.RowKit Go.Big Go.RowsK
variable {L:List (List UInt8 × Nat)} {l:List UInt8} {n j:Nat} {w w':Wo}
def iC.below (h:iC w) (hb:Bz w w') (hw:Tryz.prog.globals.size≤w.heap.size):iC w':=fun i hi=>by
 obtain⟨l,c,s,h1,h2,h3,h4⟩:=h i hi;exact⟨l,c,s,h1,h2,(hb.cell (p:=⟨1,i,none⟩) (eE (NP (show 1<2 from by decide) AL) hw)).trans h3,h4⟩
def qK (h:eQ w) (hb:Bz w w') (hw:Tryz.prog.globals.size≤w.heap.size):eQ w':=fun i hi=>(hb.cell (p:=⟨2,i,none⟩) (eE AL hw)).trans (h i hi)
def elL:List (List UInt8 × Nat):=[([44],2),([59],2),([45,62],2),([42,45,62],2),([92,43],1),([33],0),([116,114,117,101],0),([102,97,105,108],0),([102,97,108,115,101],0)]
def elB (L:List (List UInt8 × Nat)) (l:List UInt8) (n:Nat):Bool:=L.any fun p=>p.1==l&&p.2==n
def elInd:El Tryz.prog 100 117 2 24 (.agg #[.string ⟨#[]⟩,.int .i64 0]):=⟨Tryz.underlying100,by
 have h:(Tryz.prog.info? 117).map (fun i=>(i.zero,i.size,i.bytes))=some (some (.agg #[.string ⟨#[]⟩,.int .i64 0]),2,24):=by kernel_rfl
 obtain⟨i,h1,h2,h3,h4⟩:=pI h;exact⟨i,h1,h2,h3,h4⟩,rfl,by decide⟩
def UJ:∀(L:List (List UInt8 × Nat)) (j:Nat) (p:List UInt8 × Nat),L[j]?=some p→(L.flatMap jI)[j*2]?=some (.string ⟨⟨p.1⟩⟩)∧(L.flatMap jI)[j*2+1]?=some (.int .i64 (p.2:Nat))
 | [],j,p,h=>by simp at h
 |q::L,0,p,h=>by
  obtain rfl:q=p:=by simpa using h
  exact⟨rfl,rfl⟩
 |q::L,j+1,p,h=>by
  have:=UJ L j p (by simpa using h);rw [show(j+1)*2=j*2+2 by omega,show j*2+2+1=(j*2+1)+2 by omega];simpa [jI] using this
def anyAll {p:List UInt8 × Nat} (hp:L[j]?=some p) (h:(p.1==l&&p.2==n)=true):elB L l n=true:=rT.2 ⟨p,bV hp,h⟩
def anyNo (h:∀(i:Nat) p,i<L.length→L[i]?=some p→(p.1==l&&p.2==n)=false):elB L l n=false:=by
 rw [elB,yW];intro h2;obtain⟨p,hp,h3⟩:=rT.1 h2;obtain⟨i,hi⟩:=mQ.1 hp;rw [h i p (aZ.1 hi).1 hi] at h3;cases h3
def Hw (w:Wo):(w.alloc (.cells ⟨elL.flatMap jI⟩ 117)).ownsRow w.heap.size 117 2 (.slice (some ⟨w.heap.size,0,none⟩) 9 9) 9 (elL.flatMap jI):=
 ⟨rfl,.inr ⟨w.heap.size,9,_,rfl,aA _,GE w _,by decide,by decide,rfl,rfl⟩⟩
def toL (l:List UInt8):(ByteArray.mk ⟨l⟩).toList=l:=by rw [mS]
def Np:(iZ.flatMap jI).length=40*2:=by kernel_rfl
def No:∀u∈iZ.flatMap jI,u.oneCell'=true:=by
 intro u hu;obtain⟨p,_,h⟩:=List.mem_flatMap.1 hu;simp only [jI,cN,NW,BQ] at h;rcases h with rfl|rfl<;>rfl
def ctl_63:9+40≤maxLen:=by decide
def Nr:(9+40)*24≤140737488355328:=by decide
def Nm (w:Wo) (hw:Tryz.prog.globals.size≤w.heap.size) (hN:iC w) (hS:eQ w):
  Cz 292 #[] w fun e w'=>∃v,e= .returned v∧iT w' v 40 (iZ.flatMap jI)∧Bz w w':=(Nq w hw hN hS).mono (by
 rintro e w' ⟨B,off,cap,rfl,hc,hb⟩;exact⟨_,rfl,.inr ⟨⟨B,off,none⟩,cap,by rw [show iZ.length=40 by kernel_rfl],fun j u hj=>by rw [qH];exact hc j u hj⟩,hb⟩)
def Mw:(#[Value.string { data:=#[44] },Value.int IntKind.i64 2,Value.string { data:=#[59] },Value.int IntKind.i64 2,Value.string { data:=#[45,62] },Value.int IntKind.i64 2,Value.string { data:=#[42,45,62] },Value.int IntKind.i64 2,Value.string { data:=#[92,43] },Value.int IntKind.i64 1,Value.string { data:=#[33] },Value.int IntKind.i64 0,Value.string { data:=#[116,114,117,101] },Value.int IntKind.i64 0,Value.string { data:=#[102,97,105,108] },Value.int IntKind.i64 0,Value.string { data:=#[102,97,108,115,101] },Value.int IntKind.i64 0]:Array Value)=⟨elL.flatMap jI⟩:=by kernel_rfl
def ctl_at {W:Wo} {K:Ending→Wo→Prop} (h:W=w.alloc (.cells ⟨elL.flatMap jI⟩ 117)) (hw:Tryz.prog.globals.size≤w.heap.size) (hN:iC w) (hS:eQ w)
  (k:∀v w2,iT w2 v 40 (iZ.flatMap jI)→w2.ownsRow w.heap.size 117 2 (.slice (some ⟨w.heap.size,0,none⟩) 9 9) 9 (elL.flatMap jI)→Bz w w2→w.heap.size+1≤w2.heap.size→K (.returned v) w2):
  Cz 292 #[] W K:=by
 have a9:Bz w W:=by rw [h];exact(aK _ w).alloc (aA _) _
 have c4:W.heap.size=w.heap.size+1:=by rw [h];simp
 refine(Nm W (by omega) (hN.below a9 hw) (qK hS a9 hw)).mono ?_;rintro e w2 ⟨v,rfl,hc,a1⟩;exact k v w2 hc (jF (h▸Hw w) a1 (aA _)) (a9.trans (a1.mono (by omega))) (by have:=a1.size;omega)
def Mv (nm:ByteArray) (n:Nat) (w:Wo) (hw:Tryz.prog.globals.size≤w.heap.size) (hN:iC w) (hS:eQ w):
  Cz 212 #[.string nm,.int .i64 n] w fun e w'=>e= .returned (.bool (elB (elL++iZ) nm.toList n))∧Bz w w':=by
 have dC:=fun(W:Wo) (K:Ending→Wo→Prop) (h:W=w.alloc (.cells ⟨elL.flatMap jI⟩ 117))=>ctl_at (K:=K) h hw hN hS
 have dA:Aside _:=dC;obtain⟨RR,hRR⟩:∃r,elB (elL++iZ) nm.toList n=r:=⟨_,rfl⟩;have b3:=aside hRR;rw [hRR];clear dC hN hS hw hRR;go_enter Tryz.func212,Tryz.ntmps212
 go_wp2_with first
  |(go_at_call 292;refine dA.o _ _ (cI (fun c=>w.alloc (Obj.cells c 117)) Mw) ?_;intro U w2 hc a0 a1 b9;obtain⟨U0,hU0⟩:=enm (Value.slice (some ⟨w.heap.size,0,none⟩) 9 9);rw [hU0] at a0 ⊢;clear hU0)
  |(at_builtin;refine lJ elInd _ rfl _ _ rfl w.heap.size _ _ _ rfl a0 _ _ _ rfl hc Np No ctl_63 Nr (by omega) ?_;intro v5 w5 h5 b6 c0;obtain⟨a5,c5,rfl,a6⟩:=gZ h5)
 rcases a6 with a6|⟨g,rfl,hgb,hgl,a6⟩
 ·cases a6
 obtain⟨LL,hLL⟩:=enm (elL++iZ);have b7:LL.length=49:=by rw [←hLL];kernel_rfl
 have b5:elL.flatMap jI++iZ.flatMap jI=LL.flatMap jI:=by rw [←hLL,List.flatMap_append]
 have b4:Aside (elB LL nm.toList n=RR):=by show _=_;rw [←hLL];exact b3.o
 have a8:Aside (∀(j:Nat) u,(LL.flatMap jI)[j]?=some u→w5.cell? ⟨g,j,none⟩=some u):=by rw [←b5];exact a6
 have a3:Aside (Bz w w5):=a1.grown b6 a1.size (fun k e=>by have:=a0.lt k e;exact this.1);clear a6 b5 hLL b3 h5 b6 c0 a0 hc a1 b9 dA
 go_loopw [22] (fun iv wr=>∃i:Nat,iv= .int .i64 i∧i≤49∧(∀(k:Nat) p,k<i→LL[k]?=some p→(p.1==nm.toList&&p.2==n)=false)∧Bz w5 wr) (fun iv _=>49-(Go.RowKit.intOf iv).toNat)
 case atStart=>exact⟨0,rfl,by omega,fun k p h=>absurd h (rR k),aK _ _⟩
 case round=>
  obtain⟨i,rfl,hi,hno,hbw⟩:=hrel
  by_cases c2:i<49
  ·obtain⟨p,hp⟩:∃p,LL[i]?=some p:=⟨_,cE (by omega)⟩;have hx:=UJ LL i p hp;have x0:wr.cell? ⟨g,i*2,none⟩=some (.string ⟨⟨p.1⟩⟩):=(hbw.cell (p:=⟨g,i*2,none⟩) hgl).trans (a8.o _ _ hx.1);have x1:wr.cell? ⟨g,i*2+1,none⟩=some (.int .i64 (p.2:Nat)):=(hbw.cell (p:=⟨g,i*2+1,none⟩) hgl).trans (a8.o _ _ hx.2);have b8:(i:Int)<49:=by omega
   have c1:(0:Int)≤(i:Int):=by omega
   have tL:=toL p.1;obtain⟨s1,hs1⟩:=enm (ByteArray.mk ⟨p.1⟩);rw [hs1] at x0 tL;have a4:(p.1==nm.toList&&p.2==n)=((s1.toList==nm.toList)&&p.2==n):=by rw [tL]
   cases ha:(s1.toList==nm.toList)
   ·have a7:(p.1==nm.toList&&p.2==n)=false:=by rw [a4,ha];rfl
    have a2:Aside (∀(k:Nat) p,k<i+1→LL[k]?=some p→(p.1==nm.toList&&p.2==n)=false):=fun k q hk hq=>by
     by_cases b0:k<i
     ·exact hno k q b0 hq
     ·obtain rfl:k=i:=by omega
      rw [hp] at hq;obtain rfl:=bP hq;exact a7
    clear a4 a7 hno tL;go_wp2;exact⟨⟨i+1,by simp,by omega,a2.o,hbw.alloc (by exact hbw.size) _⟩,by simp [Go.RowKit.intOf];omega⟩
   ·by_cases c3:(p.2:Int)=(n:Int)
    ·have b2:RR=true:=by
      rw [←b4.o];exact anyAll hp (by rw [a4,ha];simp;omega)
     subst b2;clear a4 hno tL;go_wp2
     go_ret
     exact⟨rfl,a3.o.trans ((hbw.mono a3.o.size).alloc (a3.o.trans (hbw.mono a3.o.size)).size _)⟩
    ·have a7:(p.1==nm.toList&&p.2==n)=false:=by rw [a4,ha];simp;omega
     have a2:Aside (∀(k:Nat) p,k<i+1→LL[k]?=some p→(p.1==nm.toList&&p.2==n)=false):=fun k q hk hq=>by
      by_cases b0:k<i
      ·exact hno k q b0 hq
      ·obtain rfl:k=i:=by omega
       rw [hp] at hq;obtain rfl:=bP hq;exact a7
     clear a4 a7 hno tL;go_wp2;exact⟨⟨i+1,by simp,by omega,a2.o,hbw.alloc (by exact hbw.size) _⟩,by simp [Go.RowKit.intOf];omega⟩
  ·obtain rfl:i=49:=by omega
   have b1:RR=false:=by
    rw [←b4.o];exact anyNo fun k q hk hq=>hno k q (by omega) hq
   subst b1;clear hno;go_wp2
   go_ret
   exact⟨rfl,a3.o.trans (hbw.mono a3.o.size)⟩
end Go.Proofs.YtealgacfnbbgdaaGreatDoor
namespace Go.Proofs.YtealgacfnbbgdaaGreatDoor
open Go.RowKit Go.Big Go.RowsK Go.MapK
variable {M:List (ByteArray × Value)} {k k':ByteArray} {l:List UInt8} {n:Nat}
def XM (a b:ByteArray):(a==b)=decide (a=b):=by
 cases h:(a==b) with
 |true=>exact(mN ((MapKept.bytes_beq a b).1 h)).symm
 |false=>
  refine(kU fun e=>?_).symm;rw [(MapKept.bytes_beq a b).2 e] at h;cases h
def skv (x:ByteArray):Value:=.string x
def lM:KL Tryz.prog 9 skv where
 inj:=fun {a b} h=>by unfold skv at h;injection h
 find:=VL .string Tryz.underlying9 (fun a b=>by
  unfold skv Instr.sameNow;simp [XM])
 check:=fun em k w=>by
  have hu:(Go.underlying 9).run Tryz.prog w= .ok .string w:=iN Tryz.underlying9 w;unfold skv;rw [Instr.checkKey];simp only [cX,hu,Result.andThen];simp
 bits:=fun k=>by unfold skv;simp [Instr.sameBits,XM]
def lK:Tryz.prog.underlying 311=some (.map 9 9):=Tryz.underlying311
def zero9 (w:Wo):(zeroValue 9).run Tryz.prog w= .ok (.string ⟨#[]⟩) w:=Tryz.zeroValue9 w
def mpL:List (List UInt8 × Nat):=[([44],2),([59],2),([45,62],2),([42,45,62],2),([102,111,114,97,108,108],2),([92,43],1),([111,110,99,101],1),([105,103,110,111,114,101],1),([99,97,116,99,104],3),([102,105,110,100,97,108,108],3),([98,97,103,111,102],3),([115,101,116,111,102],3),([102,114,101,101,122,101],2),([112,104,114,97,115,101],2),([112,104,114,97,115,101],3)]
def gW (p:List UInt8 × Nat):ByteArray:=⟨⟨p.1++ [32,(48+p.2).toUInt8]⟩⟩
def mem_putM {v:Value} {L:List (List UInt8 × Nat)} (h:k∈M.map (·.1)↔∃p∈L,k=gW p) (p:List UInt8 × Nat) (hp:k'=gW p):k∈(jX k' v M).map (·.1)↔∃q∈p::L,k=gW q:=by
 rw [JU,h,hp];simp
def Bx:(gT k M).isSome=true↔k∈M.map (·.1):=by
 cases hv:gT k M with
 |none=>
  simp only [Option.isSome_none,fT,false_iff];intro h;obtain⟨p,hp,e⟩:=gF.1 h;exact HM.1 hv p hp e.symm
 |some v=>
  simp only [Option.isSome_some,true_iff];exact gF.2 ⟨_,CO hv,rfl⟩
def TZ {p:List UInt8 × Nat} (hn:n≤9) (hp:p.2≤9):gW (l,n)=gW p↔(p.1==l&&p.2==n)=true:=by
 obtain⟨l2,n2⟩:=p;simp only [aR,tE];constructor
 ·intro h;unfold gW at h;injection h with h
  injection h with h
  simp only at h hp;have h2:=List.append_inj' h rfl;refine⟨h2.1.symm,?_⟩;have h3:=h2.2;simp only [kM,FY,BS] at h3;have h4:=cI UInt8.toNat h3;simp only [Nat.toUInt8_eq,UInt8.toNat_ofNat'] at h4;omega
 ·rintro⟨rfl,rfl⟩;rfl
def DT:∀p∈mpL,p.2≤9:=by decide
def lookB (hk:k=gW (l,n)) (hn:n≤9) (h:k∈M.map (·.1)↔∃p∈mpL.reverse,k=gW p):(gT k M).isSome=elB mpL l n:=by
 rw [nQ,Bx,h,elB,rT];constructor
 ·rintro⟨p,hp,e⟩;have hm:=An.1 hp;rw [hk] at e;exact⟨p,hm,(TZ hn (DT p hm)).1 e⟩
 ·rintro⟨p,hp,e⟩;exact⟨p,An.2 hp,by rw [hk];exact(TZ hn (DT p hp)).2 e⟩
def cS (l:List UInt8) (n:Nat):Bool:=elB mpL l n||((l==callL&&(decide (1≤n)&&decide (n≤8)))||(decide (n<5)&&(rfL n).contains l))
def pP (w:Wo):∃W1 W2 W3 W4 W5 W6 W7 W8 W9 a6 a7 a8 a9 b0 b1 a0:Wo,
  W1=w.alloc (.map #[] 0)∧
  (Instr.mapUpdate 311 (.map (some w.heap.size)) (.string ⟨#[44,32,50]⟩) (.string ⟨#[48,48]⟩)).run Tryz.prog W1= .ok () W2∧
  (Instr.mapUpdate 311 (.map (some w.heap.size)) (.string ⟨#[59,32,50]⟩) (.string ⟨#[48,48]⟩)).run Tryz.prog W2= .ok () W3∧
  (Instr.mapUpdate 311 (.map (some w.heap.size)) (.string ⟨#[45,62,32,50]⟩) (.string ⟨#[48,48]⟩)).run Tryz.prog W3= .ok () W4∧
  (Instr.mapUpdate 311 (.map (some w.heap.size)) (.string ⟨#[42,45,62,32,50]⟩) (.string ⟨#[48,48]⟩)).run Tryz.prog W4= .ok () W5∧
  (Instr.mapUpdate 311 (.map (some w.heap.size)) (.string ⟨#[102,111,114,97,108,108,32,50]⟩) (.string ⟨#[48,48]⟩)).run Tryz.prog W5= .ok () W6∧
  (Instr.mapUpdate 311 (.map (some w.heap.size)) (.string ⟨#[92,43,32,49]⟩) (.string ⟨#[48]⟩)).run Tryz.prog W6= .ok () W7∧
  (Instr.mapUpdate 311 (.map (some w.heap.size)) (.string ⟨#[111,110,99,101,32,49]⟩) (.string ⟨#[48]⟩)).run Tryz.prog W7= .ok () W8∧
  (Instr.mapUpdate 311 (.map (some w.heap.size)) (.string ⟨#[105,103,110,111,114,101,32,49]⟩) (.string ⟨#[48]⟩)).run Tryz.prog W8= .ok () W9∧
  (Instr.mapUpdate 311 (.map (some w.heap.size)) (.string ⟨#[99,97,116,99,104,32,51]⟩) (.string ⟨#[48,63,48]⟩)).run Tryz.prog W9= .ok () a6∧
  (Instr.mapUpdate 311 (.map (some w.heap.size)) (.string ⟨#[102,105,110,100,97,108,108,32,51]⟩) (.string ⟨#[63,48,63]⟩)).run Tryz.prog a6= .ok () a7∧
  (Instr.mapUpdate 311 (.map (some w.heap.size)) (.string ⟨#[98,97,103,111,102,32,51]⟩) (.string ⟨#[63,94,63]⟩)).run Tryz.prog a7= .ok () a8∧
  (Instr.mapUpdate 311 (.map (some w.heap.size)) (.string ⟨#[115,101,116,111,102,32,51]⟩) (.string ⟨#[63,94,63]⟩)).run Tryz.prog a8= .ok () a9∧
  (Instr.mapUpdate 311 (.map (some w.heap.size)) (.string ⟨#[102,114,101,101,122,101,32,50]⟩) (.string ⟨#[63,48]⟩)).run Tryz.prog a9= .ok () b0∧
  (Instr.mapUpdate 311 (.map (some w.heap.size)) (.string ⟨#[112,104,114,97,115,101,32,50]⟩) (.string ⟨#[47,63]⟩)).run Tryz.prog b0= .ok () b1∧
  (Instr.mapUpdate 311 (.map (some w.heap.size)) (.string ⟨#[112,104,114,97,115,101,32,51]⟩) (.string ⟨#[47,63,63]⟩)).run Tryz.prog b1= .ok () a0∧
  Bz w a0∧∃M,gE skv a0 w.heap.size M∧∀k,k∈M.map (·.1)↔∃p∈mpL.reverse,k=gW p:=by
 have c9:gE skv (w.alloc (.map #[] 0)) w.heap.size []:=gE.new w 0;have b2:Bz w (w.alloc (.map #[] 0)):=(aK _ w).alloc (aA _) _;have d0:∀k:ByteArray,k∈([]:List (ByteArray × Value)).map (·.1)↔∃p∈([]:List (List UInt8 × Nat)),k=gW p:=fun k=>by simp
 obtain⟨W1,hW1⟩:=enm (w.alloc (.map #[] 0));rw [hW1] at c9 b2;obtain⟨W2,e1,hM1,hg1,hs1⟩:=kW lM lK c9 ⟨#[44,32,50]⟩ (.string ⟨#[48,48]⟩);have c0:=b2.grown hg1 b2.size (fun k e=>by cases e;exact aA _);have d1:=fun k=>mem_putM (v:=.string ⟨#[48,48]⟩) (d0 k) ([44],2) (show(⟨#[44,32,50]⟩:ByteArray)=gW ([44],2) from rfl)
 obtain⟨W3,e2,hM2,hg2,hs2⟩:=kW lM lK hM1 ⟨#[59,32,50]⟩ (.string ⟨#[48,48]⟩);have c1:=c0.grown hg2 c0.size (fun k e=>by cases e;exact aA _);have d2:=fun k=>mem_putM (v:=.string ⟨#[48,48]⟩) (d1 k) ([59],2) (show(⟨#[59,32,50]⟩:ByteArray)=gW ([59],2) from rfl)
 obtain⟨W4,e3,hM3,hg3,hs3⟩:=kW lM lK hM2 ⟨#[45,62,32,50]⟩ (.string ⟨#[48,48]⟩);have c2:=c1.grown hg3 c1.size (fun k e=>by cases e;exact aA _);have d3:=fun k=>mem_putM (v:=.string ⟨#[48,48]⟩) (d2 k) ([45,62],2) (show(⟨#[45,62,32,50]⟩:ByteArray)=gW ([45,62],2) from rfl)
 obtain⟨W5,e4,hM4,hg4,hs4⟩:=kW lM lK hM3 ⟨#[42,45,62,32,50]⟩ (.string ⟨#[48,48]⟩);have c3:=c2.grown hg4 c2.size (fun k e=>by cases e;exact aA _);have d4:=fun k=>mem_putM (v:=.string ⟨#[48,48]⟩) (d3 k) ([42,45,62],2) (show(⟨#[42,45,62,32,50]⟩:ByteArray)=gW ([42,45,62],2) from rfl)
 obtain⟨W6,e5,hM5,hg5,hs5⟩:=kW lM lK hM4 ⟨#[102,111,114,97,108,108,32,50]⟩ (.string ⟨#[48,48]⟩);have c4:=c3.grown hg5 c3.size (fun k e=>by cases e;exact aA _);have d5:=fun k=>mem_putM (v:=.string ⟨#[48,48]⟩) (d4 k) ([102,111,114,97,108,108],2) (show(⟨#[102,111,114,97,108,108,32,50]⟩:ByteArray)=gW ([102,111,114,97,108,108],2) from rfl)
 obtain⟨W7,e6,hM6,hg6,hs6⟩:=kW lM lK hM5 ⟨#[92,43,32,49]⟩ (.string ⟨#[48]⟩);have c5:=c4.grown hg6 c4.size (fun k e=>by cases e;exact aA _);have d6:=fun k=>mem_putM (v:=.string ⟨#[48]⟩) (d5 k) ([92,43],1) (show(⟨#[92,43,32,49]⟩:ByteArray)=gW ([92,43],1) from rfl)
 obtain⟨W8,e7,hM7,hg7,hs7⟩:=kW lM lK hM6 ⟨#[111,110,99,101,32,49]⟩ (.string ⟨#[48]⟩);have c6:=c5.grown hg7 c5.size (fun k e=>by cases e;exact aA _);have d7:=fun k=>mem_putM (v:=.string ⟨#[48]⟩) (d6 k) ([111,110,99,101],1) (show(⟨#[111,110,99,101,32,49]⟩:ByteArray)=gW ([111,110,99,101],1) from rfl)
 obtain⟨W9,e8,hM8,hg8,hs8⟩:=kW lM lK hM7 ⟨#[105,103,110,111,114,101,32,49]⟩ (.string ⟨#[48]⟩);have c7:=c6.grown hg8 c6.size (fun k e=>by cases e;exact aA _);have d8:=fun k=>mem_putM (v:=.string ⟨#[48]⟩) (d7 k) ([105,103,110,111,114,101],1) (show(⟨#[105,103,110,111,114,101,32,49]⟩:ByteArray)=gW ([105,103,110,111,114,101],1) from rfl)
 obtain⟨a6,e9,hM9,hg9,hs9⟩:=kW lM lK hM8 ⟨#[99,97,116,99,104,32,51]⟩ (.string ⟨#[48,63,48]⟩);have c8:=c7.grown hg9 c7.size (fun k e=>by cases e;exact aA _);have d9:=fun k=>mem_putM (v:=.string ⟨#[48,63,48]⟩) (d8 k) ([99,97,116,99,104],3) (show(⟨#[99,97,116,99,104,32,51]⟩:ByteArray)=gW ([99,97,116,99,104],3) from rfl)
 obtain⟨a7,e10,hM10,hg10,hs10⟩:=kW lM lK hM9 ⟨#[102,105,110,100,97,108,108,32,51]⟩ (.string ⟨#[63,48,63]⟩);have a1:=c8.grown hg10 c8.size (fun k e=>by cases e;exact aA _);have b4:=fun k=>mem_putM (v:=.string ⟨#[63,48,63]⟩) (d9 k) ([102,105,110,100,97,108,108],3) (show(⟨#[102,105,110,100,97,108,108,32,51]⟩:ByteArray)=gW ([102,105,110,100,97,108,108],3) from rfl)
 obtain⟨a8,e11,hM11,hg11,hs11⟩:=kW lM lK hM10 ⟨#[98,97,103,111,102,32,51]⟩ (.string ⟨#[63,94,63]⟩);have a2:=a1.grown hg11 a1.size (fun k e=>by cases e;exact aA _);have b5:=fun k=>mem_putM (v:=.string ⟨#[63,94,63]⟩) (b4 k) ([98,97,103,111,102],3) (show(⟨#[98,97,103,111,102,32,51]⟩:ByteArray)=gW ([98,97,103,111,102],3) from rfl)
 obtain⟨a9,e12,hM12,hg12,hs12⟩:=kW lM lK hM11 ⟨#[115,101,116,111,102,32,51]⟩ (.string ⟨#[63,94,63]⟩);have a3:=a2.grown hg12 a2.size (fun k e=>by cases e;exact aA _);have b6:=fun k=>mem_putM (v:=.string ⟨#[63,94,63]⟩) (b5 k) ([115,101,116,111,102],3) (show(⟨#[115,101,116,111,102,32,51]⟩:ByteArray)=gW ([115,101,116,111,102],3) from rfl)
 obtain⟨b0,e13,hM13,hg13,hs13⟩:=kW lM lK hM12 ⟨#[102,114,101,101,122,101,32,50]⟩ (.string ⟨#[63,48]⟩);have a4:=a3.grown hg13 a3.size (fun k e=>by cases e;exact aA _);have b7:=fun k=>mem_putM (v:=.string ⟨#[63,48]⟩) (b6 k) ([102,114,101,101,122,101],2) (show(⟨#[102,114,101,101,122,101,32,50]⟩:ByteArray)=gW ([102,114,101,101,122,101],2) from rfl)
 obtain⟨b1,e14,hM14,hg14,hs14⟩:=kW lM lK hM13 ⟨#[112,104,114,97,115,101,32,50]⟩ (.string ⟨#[47,63]⟩);have a5:=a4.grown hg14 a4.size (fun k e=>by cases e;exact aA _);have b8:=fun k=>mem_putM (v:=.string ⟨#[47,63]⟩) (b7 k) ([112,104,114,97,115,101],2) (show(⟨#[112,104,114,97,115,101,32,50]⟩:ByteArray)=gW ([112,104,114,97,115,101],2) from rfl)
 obtain⟨a0,e15,hM15,hg15,hs15⟩:=kW lM lK hM14 ⟨#[112,104,114,97,115,101,32,51]⟩ (.string ⟨#[47,63,63]⟩);have b3:=a5.grown hg15 a5.size (fun k e=>by cases e;exact aA _);have b9:=fun k=>mem_putM (v:=.string ⟨#[47,63,63]⟩) (b8 k) ([112,104,114,97,115,101],3) (show(⟨#[112,104,114,97,115,101,32,51]⟩:ByteArray)=gW ([112,104,114,97,115,101],3) from rfl)
 exact⟨W1,W2,W3,W4,W5,W6,W7,W8,W9,a6,a7,a8,a9,b0,b1,a0,hW1.symm,e1,e2,e3,e4,e5,e6,e7,e8,e9,e10,e11,e12,e13,e14,e15,b3,_,hM15,b9⟩
