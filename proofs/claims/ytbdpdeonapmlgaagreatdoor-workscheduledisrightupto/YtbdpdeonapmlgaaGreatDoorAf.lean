/- Lemmas; no condition. -/
import Derived.Test.YtbdpdeonapmlgaaGreatDoorAe
set_option linter.all false
set_option maxHeartbeats 4000000
set_option maxRecDepth 100000
namespace Go.Proofs.YtbdpdeonapmlgaaGreatDoor
open Go.RowKit Go.Big
noncomputable section
variable {nm b:ByteArray} {den num:List Nat} {len:Nat} {v:Int} {g nn:Bool}
def cZ (g:Bool) (l1 l2:Nat):Bool:=!g&&decide (l1+l2=0)
def eG (k v:Int) (sz:Nat) (g:Bool) (num den:List Nat) (len:Nat):Prop:=
 (k=1∧0≤v∧v≤1073741824∧sz=0∧cZ g num.length den.length=true∧len=0)∨
 (k=2∧v=0∧sz=0∧len=0∧iO g num den=0)∨
 (k=3∧v=0∧cZ g num.length den.length=true∧len=0)∨
 (k=4∧v=0∧cZ g num.length den.length=true∧len=0)∨
 (k=5∧v=0∧cZ g num.length den.length=true∧1≤len∧len≤32)
def oT (k:Int):Nat:=if k=4 then 4000 else if k=3∨k=5 then 255 else 0
open Classical in
def bH (k v:Int) (sz:Nat) (g:Bool) (num den:List Nat) (len:Nat):Int:=
 if eG k v sz g num den len then(if oT k<sz then 3 else 0) else 2
def eN:b.toList= []↔b.size=0:=by
 rw [pT];constructor
 ·intro h;have:b.data.toList.length=0:=by rw [h];rfl
  simpa using this
 ·intro h;exact gI (by simpa using h)
def re3a (hN:Aside (cZ g num.length den.length=nn)) (h1:v=0) (h2:nn=true) (h3:(!((len:Int)==0))=true):bH 3 v nm.size g num den len=2:=by
 refine if_neg ?_;have a0:=hN.o;unfold eG;simp only [a0]
 try simp only [eN] at*
 simp at*
 try omega
 try grind
def re3b (hN:Aside (cZ g num.length den.length=nn)) (h1:v=0) (h2:nn=true) (h3:(!((len:Int)==0))=false) (h4:(255:Int)<(nm.size:Int)):bH 3 v nm.size g num den len=3:=by
 have a0:=hN.o;unfold bH
 try simp only [eN] at*
 simp at*;rw [if_pos,if_pos]
 ·unfold oT;simp;omega
 ·unfold eG;simp only [a0];simp;try omega
  try grind
def re3c (hN:Aside (cZ g num.length den.length=nn)) (h1:v=0) (h2:nn=true) (h3:(!((len:Int)==0))=false) (h4:(nm.size:Int)≤255):bH 3 v nm.size g num den len=0:=by
 have a0:=hN.o;unfold bH
 try simp only [eN] at*
 simp at*;rw [if_pos,if_neg]
 ·unfold oT;simp;omega
 ·unfold eG;simp only [a0];simp;try omega
  try grind
def re3d (hN:Aside (cZ g num.length den.length=nn)) (h1:v=0) (h2:¬nn=true):bH 3 v nm.size g num den len=2:=by
 refine if_neg ?_;have a0:=hN.o;unfold eG;simp only [a0]
 try simp only [eN] at*
 simp at*
 try omega
 try grind
def re3e (hN:Aside (cZ g num.length den.length=nn)) (h1:¬v=0):bH 3 v nm.size g num den len=2:=by
 refine if_neg ?_;have a0:=hN.o;unfold eG;simp only [a0]
 try simp only [eN] at*
 simp at*
 try omega
 try grind
def re4a (hN:Aside (cZ g num.length den.length=nn)) (h1:v=0) (h2:nn=true) (h3:(!((len:Int)==0))=true):bH 4 v nm.size g num den len=2:=by
 refine if_neg ?_;have a0:=hN.o;unfold eG;simp only [a0]
 try simp only [eN] at*
 simp at*
 try omega
 try grind
def re4b (hN:Aside (cZ g num.length den.length=nn)) (h1:v=0) (h2:nn=true) (h3:(!((len:Int)==0))=false) (h4:(4000:Int)<(nm.size:Int)):bH 4 v nm.size g num den len=3:=by
 have a0:=hN.o;unfold bH
 try simp only [eN] at*
 simp at*;rw [if_pos,if_pos]
 ·unfold oT;simp;omega
 ·unfold eG;simp only [a0];simp;try omega
  try grind
def re4c (hN:Aside (cZ g num.length den.length=nn)) (h1:v=0) (h2:nn=true) (h3:(!((len:Int)==0))=false) (h4:(nm.size:Int)≤4000):bH 4 v nm.size g num den len=0:=by
 have a0:=hN.o;unfold bH
 try simp only [eN] at*
 simp at*;rw [if_pos,if_neg]
 ·unfold oT;simp;omega
 ·unfold eG;simp only [a0];simp;try omega
  try grind
def re4d (hN:Aside (cZ g num.length den.length=nn)) (h1:v=0) (h2:¬nn=true):bH 4 v nm.size g num den len=2:=by
 refine if_neg ?_;have a0:=hN.o;unfold eG;simp only [a0]
 try simp only [eN] at*
 simp at*
 try omega
 try grind
def re4e (hN:Aside (cZ g num.length den.length=nn)) (h1:¬v=0):bH 4 v nm.size g num den len=2:=by
 refine if_neg ?_;have a0:=hN.o;unfold eG;simp only [a0]
 try simp only [eN] at*
 simp at*
 try omega
 try grind
def re5a (hN:Aside (cZ g num.length den.length=nn)) (h1:v=0) (h2:nn=true) (h3:(1:Int)≤(len:Int)) (h4:(!decide ((len:Int)≤32))=true):bH 5 v nm.size g num den len=2:=by
 refine if_neg ?_;have a0:=hN.o;unfold eG;simp only [a0]
 try simp only [eN] at*
 simp at*
 try omega
 try grind
def re5b (hN:Aside (cZ g num.length den.length=nn)) (h1:v=0) (h2:nn=true) (h3:(1:Int)≤(len:Int)) (h4:(!decide ((len:Int)≤32))=false) (h5:(255:Int)<(nm.size:Int)):bH 5 v nm.size g num den len=3:=by
 have a0:=hN.o;unfold bH
 try simp only [eN] at*
 simp at*;rw [if_pos,if_pos]
 ·unfold oT;simp;omega
 ·unfold eG;simp only [a0];simp;try omega
  try grind
def re5c (hN:Aside (cZ g num.length den.length=nn)) (h1:v=0) (h2:nn=true) (h3:(1:Int)≤(len:Int)) (h4:(!decide ((len:Int)≤32))=false) (h5:(nm.size:Int)≤255):bH 5 v nm.size g num den len=0:=by
 have a0:=hN.o;unfold bH
 try simp only [eN] at*
 simp at*;rw [if_pos,if_neg]
 ·unfold oT;simp;omega
 ·unfold eG;simp only [a0];simp;try omega
  try grind
def re5d (hN:Aside (cZ g num.length den.length=nn)) (h1:v=0) (h2:nn=true) (h3:(len:Int)<1):bH 5 v nm.size g num den len=2:=by
 refine if_neg ?_;have a0:=hN.o;unfold eG;simp only [a0]
 try simp only [eN] at*
 simp at*
 try omega
 try grind
def re5e (hN:Aside (cZ g num.length den.length=nn)) (h1:v=0) (h2:¬nn=true):bH 5 v nm.size g num den len=2:=by
 refine if_neg ?_;have a0:=hN.o;unfold eG;simp only [a0]
 try simp only [eN] at*
 simp at*
 try omega
 try grind
def re5f (hN:Aside (cZ g num.length den.length=nn)) (h1:¬v=0):bH 5 v nm.size g num den len=2:=by
 refine if_neg ?_;have a0:=hN.o;unfold eG;simp only [a0]
 try simp only [eN] at*
 simp at*
 try omega
 try grind
def re1a (hN:Aside (cZ g num.length den.length=nn)) (h1:0≤v) (h2:v≤1073741824) (h3:nm.toList= []) (h4:nn=true) (h5:(!((len:Int)==0))=true):bH 1 v nm.size g num den len=2:=by
 refine if_neg ?_;have a0:=hN.o;unfold eG;simp only [a0]
 try simp only [eN] at*
 simp at*
 try omega
 try grind
def re1c (hN:Aside (cZ g num.length den.length=nn)) (h1:0≤v) (h2:v≤1073741824) (h3:nm.toList= []) (h4:nn=true) (h5:(!((len:Int)==0))=false) (h6:¬0<nm.size):bH 1 v nm.size g num den len=0:=by
 have a0:=hN.o;unfold bH
 try simp only [eN] at*
 simp at*;rw [if_pos,if_neg]
 ·unfold oT;simp;omega
 ·unfold eG;simp only [a0];simp;try omega
  try grind
def re1d (hN:Aside (cZ g num.length den.length=nn)) (h1:0≤v) (h2:v≤1073741824) (h3:nm.toList= []) (h4:¬nn=true):bH 1 v nm.size g num den len=2:=by
 refine if_neg ?_;have a0:=hN.o;unfold eG;simp only [a0]
 try simp only [eN] at*
 simp at*
 try omega
 try grind
def re1e (hN:Aside (cZ g num.length den.length=nn)) (h1:0≤v) (h2:v≤1073741824) (h3:¬nm.toList= []):bH 1 v nm.size g num den len=2:=by
 refine if_neg ?_;have a0:=hN.o;unfold eG;simp only [a0]
 try simp only [eN] at*
 simp at*
 try omega
 try grind
def re1f (hN:Aside (cZ g num.length den.length=nn)) (h1:1073741824<v):bH 1 v nm.size g num den len=2:=by
 refine if_neg ?_;have a0:=hN.o;unfold eG;simp only [a0]
 try simp only [eN] at*
 simp at*
 try omega
 try grind
def re1g (hN:Aside (cZ g num.length den.length=nn)) (h1:v<0):bH 1 v nm.size g num den len=2:=by
 refine if_neg ?_;have a0:=hN.o;unfold eG;simp only [a0]
 try simp only [eN] at*
 simp at*
 try omega
 try grind
def re2a (hN:Aside (cZ g num.length den.length=nn)) (h1:v=0) (h2:nm.toList= []) (h3:len=0) (h4:iO g num den=0):bH 2 v nm.size g num den len=0:=by
 have a0:=hN.o;unfold bH
 try simp only [eN] at*
 simp at*;rw [if_pos,if_neg]
 ·unfold oT;simp;omega
 ·unfold eG;simp only [a0];simp;try omega
  try grind
def re2b (hN:Aside (cZ g num.length den.length=nn)) (h1:¬iO g num den=0):bH 2 v nm.size g num den len=2:=by
 refine if_neg ?_;have a0:=hN.o;unfold eG;simp only [a0]
 try simp only [eN] at*
 simp at*
 try omega
 try grind
def re2c (hN:Aside (cZ g num.length den.length=nn)) (h1:¬len=0):bH 2 v nm.size g num den len=2:=by
 refine if_neg ?_;have a0:=hN.o;unfold eG;simp only [a0]
 try simp only [eN] at*
 simp at*
 try omega
 try grind
def re2d (hN:Aside (cZ g num.length den.length=nn)) (h1:¬nm.toList= []):bH 2 v nm.size g num den len=2:=by
 refine if_neg ?_;have a0:=hN.o;unfold eG;simp only [a0]
 try simp only [eN] at*
 simp at*
 try omega
 try grind
def re2e (hN:Aside (cZ g num.length den.length=nn)) (h1:¬v=0):bH 2 v nm.size g num den len=2:=by
 refine if_neg ?_;have a0:=hN.o;unfold eG;simp only [a0]
 try simp only [eN] at*
 simp at*
 try omega
 try grind
def Az (k v:Int) (nm:ByteArray) (g:Bool) (p1 p2 a:Option Addr) (l1 l2 len q1 q2 c n:Nat) (num den:List Nat) (a9:num.length=l1) (b0:den.length=l2) (b7:l1≤1048576) (b8:l2≤1048576) (hb:len≤1048576) (w:Wo) (hn:n≤w.heap.size) (h1:cR n w p1 num) (h2:cR n w p2 den):
  Cz 210 #[.agg (tA k v nm g p1 l1 q1 p2 l2 q2 a len c)] w fun e w'=>e= .returned (.int .i64 (bH k v nm.size g num den len))∧Bz w w':=by
 have a2:=fun w2 (a1:Bz w w2)=>Bo g p1 p2 l1 l2 q1 q2 n num den a9 b0 (by omega) (by omega) w2 (aD hn a1.size) (h1.below a1 hn) (h2.below a1 hn)
 obtain⟨nn,hnn⟩:=enm (cZ g l1 l2);have hN:Aside (cZ g num.length den.length=nn):=by rw [a9,b0];exact hnn
 go_enter Tryz.func210,Tryz.ntmps210
 go_upto_region 1 with fail
 go_cut [3] from 6 to 21 (fun s3 wx=>s3= .bool nn∧wx=w.alloc (bA k v nm g p1 l1 q1 p2 l2 q2 a len c))
 case first=>
  have c2:IntKind.i64.wrap ((l1:Int)+(l2:Int))=(l1:Int)+(l2:Int):=by rw [dX];omega
  cases g with
  |true=>
   obtain rfl:nn=false:=by rw [←hnn];rfl
   clear a2 hnn
   go_wp2_with fail
   go_meet
   exact⟨rfl,rfl⟩
  | false=>
   by_cases h0:l1+l2=0
   ·obtain rfl:nn=true:=by rw [←hnn];simp only [cZ,h0];rfl
    have hz:((l1:Int)+(l2:Int)==0)=true:=by simp;omega
    clear a2 hnn h0
    go_wp2_with fail
    go_meet
    exact⟨rfl,rfl⟩
   ·obtain rfl:nn=false:=by rw [←hnn];simp only [cZ,h0];rfl
    have hz:((l1:Int)+(l2:Int)==0)=false:=by simp;omega
    clear a2 hnn h0
    go_wp2_with fail
    go_meet
    exact⟨rfl,rfl⟩
 case rest=>
  obtain⟨rfl,rfl⟩:=hcut;clear hnn
  by_cases a3:k=1
  ·subst a3
   go_wp2_with fail
   all_goals go_ret
   all_goals first|(rw [re1a hN (by assumption) (by assumption) (by assumption) (by assumption) (by assumption)];exact⟨rfl,aC _ _⟩)|(rw [re1c hN (by assumption) (by assumption) (by assumption) (by assumption) (by assumption) (by assumption)];exact⟨rfl,aC _ _⟩)|(rw [re1d hN (by assumption) (by assumption) (by assumption) (by assumption)];exact⟨rfl,aC _ _⟩)|(rw [re1e hN (by assumption) (by assumption) (by assumption)];exact⟨rfl,aC _ _⟩)|(rw [re1f hN (by assumption)];exact⟨rfl,aC _ _⟩)|(rw [re1g hN (by assumption)];exact⟨rfl,aC _ _⟩)|(exfalso;have e1:=eN.1 (show nm.toList= [] from (by assumption));have e2:0<nm.size:=(by assumption);omega)
  have b1:(k==1)=false:=by simpa using a3
  by_cases a4:k=2
  ·subst a4
   by_cases hv:v=0
   ·subst hv
    by_cases a8:nm.toList= []
    ·by_cases hl:len=0
     ·subst hl
      by_cases hF:iO g num den=0
      ·have hr:Aside (bH 2 0 nm.size g num den 0=0):=re2a hN rfl a8 rfl hF;rw [hF] at a2;have c0:¬0<nm.size:=by rw [eN.1 a8];omega
       have hq:=aJ w (Obj.cells #[.int .i64 2,.int .i64 0,.string nm,.bool g,.slice p1 l1 q1,.slice p2 l2 q2,.slice a 0 c] 48);clear hF
       go_wp2_with first|(go_at_call 255;(with_reducible refine(a2 _ (aC w _)).mono ?_);rintro e w3 ⟨rfl,hb3⟩;have x2:=(bZ ((hb3.block w.heap.size (by simp)).trans hq)).2.2.1)
       go_ret
       rw [hr.o];exact⟨rfl,(aC _ _).trans (hb3.mono (by simp))⟩
      ·have hr:Aside (bH 2 0 nm.size g num den 0=2):=re2b hN hF;have b6:(iO g num den==0)=false:=by simpa using hF
       clear hF
       go_wp2_with first|(go_at_call 255;(with_reducible refine(a2 _ (aC w _)).mono ?_);rintro e w3 ⟨rfl,hb3⟩)
       go_ret
       rw [hr.o];exact⟨rfl,(aC _ _).trans (hb3.mono (by simp))⟩
     ·have hr:Aside (bH 2 0 nm.size g num den len=2):=re2c hN hl;have b9:((len:Int)==0)=false:=by simp;omega
      clear hl
      go_wp2_with fail
      go_ret
      rw [hr.o];exact⟨rfl,aC _ _⟩
    ·have hr:Aside (bH 2 0 nm.size g num den len=2):=re2d hN a8
     go_wp2_with fail
     go_ret
     rw [hr.o];exact⟨rfl,aC _ _⟩
   ·have hr:Aside (bH 2 v nm.size g num den len=2):=re2e hN hv;have c1:(v==0)=false:=by simpa using hv
    go_wp2_with fail
    go_ret
    rw [hr.o];exact⟨rfl,aC _ _⟩
  have b2:(k==2)=false:=by simpa using a4
  by_cases a5:k=3
  ·subst a5
   go_wp2_with fail
   all_goals go_ret
   all_goals first|(rw [re3a hN (by assumption) (by assumption) (by assumption)];exact⟨rfl,aC _ _⟩)|(rw [re3b hN (by assumption) (by assumption) (by assumption) (by assumption)];exact⟨rfl,aC _ _⟩)|(rw [re3c hN (by assumption) (by assumption) (by assumption) (by assumption)];exact⟨rfl,aC _ _⟩)|(rw [re3d hN (by assumption) (by assumption)];exact⟨rfl,aC _ _⟩)|(rw [re3e hN (by assumption)];exact⟨rfl,aC _ _⟩)|(rw [re3a (v:=0) hN rfl (by assumption) (by assumption)];exact⟨rfl,aC _ _⟩)|(rw [re3b (v:=0) hN rfl (by assumption) (by assumption) (by assumption)];exact⟨rfl,aC _ _⟩)|(rw [re3c (v:=0) hN rfl (by assumption) (by assumption) (by assumption)];exact⟨rfl,aC _ _⟩)|(rw [re3d (v:=0) hN rfl (by assumption)];exact⟨rfl,aC _ _⟩)
  have b3:(k==3)=false:=by simpa using a5
  by_cases a6:k=4
  ·subst a6
   go_wp2_with fail
   all_goals go_ret
   all_goals first|(rw [re4a hN (by assumption) (by assumption) (by assumption)];exact⟨rfl,aC _ _⟩)|(rw [re4b hN (by assumption) (by assumption) (by assumption) (by assumption)];exact⟨rfl,aC _ _⟩)|(rw [re4c hN (by assumption) (by assumption) (by assumption) (by assumption)];exact⟨rfl,aC _ _⟩)|(rw [re4d hN (by assumption) (by assumption)];exact⟨rfl,aC _ _⟩)|(rw [re4e hN (by assumption)];exact⟨rfl,aC _ _⟩)|(rw [re4a (v:=0) hN rfl (by assumption) (by assumption)];exact⟨rfl,aC _ _⟩)|(rw [re4b (v:=0) hN rfl (by assumption) (by assumption) (by assumption)];exact⟨rfl,aC _ _⟩)|(rw [re4c (v:=0) hN rfl (by assumption) (by assumption) (by assumption)];exact⟨rfl,aC _ _⟩)|(rw [re4d (v:=0) hN rfl (by assumption)];exact⟨rfl,aC _ _⟩)
  have b4:(k==4)=false:=by simpa using a6
  by_cases a7:k=5
  ·subst a7
   go_wp2_with fail
   all_goals go_ret
   all_goals first|(rw [re5a hN (by assumption) (by assumption) (by assumption) (by assumption)];exact⟨rfl,aC _ _⟩)|(rw [re5b hN (by assumption) (by assumption) (by assumption) (by assumption) (by assumption)];exact⟨rfl,aC _ _⟩)|(rw [re5c hN (by assumption) (by assumption) (by assumption) (by assumption) (by assumption)];exact⟨rfl,aC _ _⟩)|(rw [re5d hN (by assumption) (by assumption) (by assumption)];exact⟨rfl,aC _ _⟩)|(rw [re5e hN (by assumption) (by assumption)];exact⟨rfl,aC _ _⟩)|(rw [re5f hN (by assumption)];exact⟨rfl,aC _ _⟩)|(rw [re5a (v:=0) hN rfl (by assumption) (by assumption) (by assumption)];exact⟨rfl,aC _ _⟩)|(rw [re5b (v:=0) hN rfl (by assumption) (by assumption) (by assumption) (by assumption)];exact⟨rfl,aC _ _⟩)|(rw [re5c (v:=0) hN rfl (by assumption) (by assumption) (by assumption) (by assumption)];exact⟨rfl,aC _ _⟩)|(rw [re5d (v:=0) hN rfl (by assumption) (by assumption)];exact⟨rfl,aC _ _⟩)|(rw [re5e (v:=0) hN rfl (by assumption)];exact⟨rfl,aC _ _⟩)
  have b5:(k==5)=false:=by simpa using a7
  go_wp2_with fail
  go_ret
  rw [show bH k v nm.size g num den len=2 from if_neg (by rintro(h|h|h|h|h);exact a3 h.1;exact a4 h.1;exact a5 h.1;exact a6 h.1;exact a7 h.1)];exact⟨rfl,aC _ _⟩
mutual
def Tm.errE:Tm→Int
 | .mk k v nm g num den args=>if bH k v nm.size g num den args.length≠0 then bH k v nm.size g num den args.length else Tm.errL args
def Tm.errL:List Tm→Int
 | []=>0
 |T::r=>if Tm.errE T≠0 then Tm.errE T else Tm.errL r
end
def RI:∀{L:List Tm} {i:Nat} {T:Tm},L[i]?=some T→Tm.errL (L.take i)=0→Tm.errE T=0→Tm.errL (L.take (i+1))=0
 | [],_,_,h,_,_=>by simp at h
 |T0::r,0,T,h,_,h2=>by
  simp at h;subst h;simp [Tm.errL,h2]
 | T0::r,i+1,T,h,h1,h2=>by
  simp only [bL,Tm.errL] at h1 ⊢
  by_cases h0:T0.errE=0
  ·rw [if_neg (by simp [h0])] at h1 ⊢;exact RI (by simpa using h) h1 h2
  ·rw [if_pos h0] at h1;exact absurd h1 h0
def RJ:∀{L:List Tm} {i:Nat} {T:Tm},L[i]?=some T→Tm.errL (L.take i)=0→Tm.errE T≠0→Tm.errL L=Tm.errE T
 | [],_,_,h,_,_=>by simp at h
 |T0::r,0,T,h,_,h2=>by
  simp at h;subst h;simp [Tm.errL,h2]
 | T0::r,i+1,T,h,h1,h2=>by
  simp only [bL,Tm.errL] at h1 ⊢
  by_cases h0:T0.errE=0
  ·rw [if_neg (by simp [h0])] at h1 ⊢;exact RJ (by simpa using h) h1 h2
  ·rw [if_pos h0] at h1;exact absurd h1 h0
def NodesOk (T:Tm):Prop:=∀(n:Nat) (w:Wo) (vs:Lv),TmV n w T vs→n≤w.heap.size→
  Cz 153 #[.agg vs.toArray] w fun e w'=>e= .returned (.int .i64 T.errE)∧Bz w w'
def Ay (k v:Int) (nm:ByteArray) (g:Bool) (num den:List Nat) (args:List Tm) (ih:∀T'∈args,NodesOk T'):NodesOk (.mk k v nm g num den args):=by
 intro n w vs h hn;simp only [TmV] at h;obtain⟨s1,s2,a,c,rfl,⟨⟨p1,q1,rfl,hA⟩,⟨p2,q2,rfl,hC⟩⟩,h2,hbig,hbA,hbC⟩:=h;obtain⟨E,hE⟩:=enm (bH k v nm.size g num den args.length);obtain⟨F,hF⟩:=enm (Tm.errE (.mk k v nm g num den args));have a7:Aside (F=if E≠0 then E else Tm.errL args):=by
  show F=_;rw [←hF,←hE];simp only [Tm.errE]
 rw [hF];obtain⟨len,hl⟩:=enm args.length;obtain⟨l1,hl1⟩:=enm num.length;obtain⟨l2,hl2⟩:=enm den.length;rw [hl] at hbig hE ⊢;rw [hl1] at hbA ⊢;rw [hl2] at hbC ⊢;show Cz 153 #[.agg (tA k v nm g p1 l1 q1 p2 l2 q2 a len c)] w _;have a4:=aC w (bA k v nm g p1 l1 q1 p2 l2 q2 a len c);have hq:=aJ w (bA k v nm g p1 l1 q1 p2 l2 q2 a len c);have b1:=Az k v nm g p1 p2 a l1 l2 len q1 q2 c n num den hl1 hl2 hbA hbC hbig _ (aD hn a4.size) (hA.below a4 hn) (hC.below a4 hn);rw [hE] at b1;have Al:=aside hl;clear hE hl hl1 hl2 hA hC hF;go_enter Tryz.func153,Tryz.ntmps153
 go_upto_region 2 with first|(go_at_call 210;(with_reducible refine b1.mono ?_);rintro e w1 ⟨rfl,hb1⟩)
 have b2:=a4.trans (hb1.mono a4.size);have b9:=bZ ((hb1.block w.heap.size (by simp)).trans hq);obtain⟨y0,y1,y2,y3,y4,y5,y6⟩:=b9;clear b1 hq y0 y1 y2 y3 y4 y5
 by_cases a6:E=0
 ·subst a6;have b3:Aside (F=Tm.errL args):=by show F=_;rw [a7.o];simp
  clear a7
  go_wp2_with fail
  go_loopw [15] (fun c1 wr=>∃i:Nat,c1= .int .i64 i∧i≤len∧Aside (Tm.errL (args.take i)=0)∧Bz w wr) (fun s _=>len-(intOf s).toNat)
  case atStart=>exact⟨0,rfl,bX _,by simp [Tm.errL,Aside],b2⟩
  case round=>
   obtain⟨i,rfl,hi,hex,hB⟩:=hrel
   by_cases b0:i<len
   ·obtain⟨T',a2⟩:=egf Al.o b0;obtain⟨b,off,vs',rfl,hbn,hc,hv⟩:=h2.get a2;have b5:=hv;obtain⟨G,hG⟩:=enm T'.errE;have a9:Aside ((G=0→Tm.errL (args.take (i+1))=0)∧(G≠0→F=G)):=⟨fun h=>RI a2 hex.o (hG.trans h),fun h=>by rw [b3.o,RJ a2 hex.o (by rw [hG];exact h),hG]⟩;have a5:=aV a2;obtain⟨k',v',nm',g',num',den',a0⟩:=T';simp only [TmV] at hv;obtain⟨t1,t2,a',c',rfl,⟨⟨p1',q1',rfl,_⟩,⟨p2',q2',rfl,_⟩⟩,_⟩:=hv;have a1:∀p:Addr,p.block<n→wr.cell? p=w.cell? p:=fun p hp=>(hB.mono hn).cell hp
    rw [bT] at hc;have x0:=(a1 ⟨b,off+i*7+0,none⟩ hbn).trans (hc 0 _ rfl);have x1:=(a1 ⟨b,off+i*7+1,none⟩ hbn).trans (hc 1 _ rfl);have x2:=(a1 ⟨b,off+i*7+2,none⟩ hbn).trans (hc 2 _ rfl);have x3:=(a1 ⟨b,off+i*7+3,none⟩ hbn).trans (hc 3 _ rfl);have x4:=(a1 ⟨b,off+i*7+4,none⟩ hbn).trans (hc 4 _ rfl);have x5:=(a1 ⟨b,off+i*7+5,none⟩ hbn).trans (hc 5 _ rfl);have x6:=(a1 ⟨b,off+i*7+6,none⟩ hbn).trans (hc 6 _ rfl);rw [fG] at x0;obtain⟨c4,hi3,hw3⟩:=elt (i:=i) (n:=len) (by omega) (by omega);have a3:Bz w (wr.alloc (Obj.cells #[.int .i64 k',.int .i64 v',.string nm',.bool g',.slice p1' num'.length q1',.slice p2' den'.length q2',.slice a' a0.length c'] 48)):=hB.alloc hB.size _;have d1:=ih _ a5 n (wr.alloc (Obj.cells #[.int .i64 k',.int .i64 v',.string nm',.bool g',.slice p1' num'.length q1',.slice p2' den'.length q2',.slice a' a0.length c'] 48)) _ (TmV.below a3 hn _ _ b5) (aD hn a3.size);rw [hG] at d1;replace d1:Cz 153 #[.agg #[.int .i64 k',.int .i64 v',.string nm',.bool g',.slice p1' num'.length q1',.slice p2' den'.length q2',.slice a' a0.length c']] _ _:=d1;have b4:=aside b0;generalize a0.length=len',num'.length=ln1,den'.length=ln2 at*;clear h2 ih hc b5 a2 a1 hG a5 hex b0
    by_cases a8:G=0
    ·subst a8;have c0:Aside (Tm.errL (args.take (i+1))=0):=a9.o.1 rfl;clear a9
     go_wp2_with first|(go_at_call 153;(with_reducible refine d1.mono ?_);rintro e w3 ⟨rfl,hb3⟩)
     exact⟨⟨i+1,by simp,by have:=b4.o;omega,c0,a3.trans (hb3.mono a3.size)⟩,by have:=b4.o;simp [intOf];omega⟩
    ·have c3:(G==0)=false:=by simpa using a8
     have b7:Aside (F=G):=a9.o.2 a8;clear a8 a9
     go_wp2_with first|(go_at_call 153;(with_reducible refine d1.mono ?_);rintro e w3 ⟨rfl,hb3⟩)
     go_ret
     rw [b7.o];exact⟨rfl,a3.trans (hb3.mono a3.size)⟩
   ·obtain rfl:i=len:=by omega
    have b8:Aside (F=0):=by show F=0;rw [b3.o,←hex.o,←Al.o,vL]
    clear h2 ih hex
    go_wp2_with fail
    go_ret
    rw [b8.o];exact⟨rfl,hB⟩
 ·have c2:(E==0)=false:=by simpa using a6
  have b6:Aside (F=E):=by show F=E;rw [a7.o,if_pos a6]
  clear a6 a7
  go_wp2_with fail
  go_ret
  rw [b6.o];exact⟨rfl,b2⟩
def NW:∀T:Tm,NodesOk T
 | .mk k v nm g num den args=>Ay k v nm g num den args fun T' a2=>NW T'
termination_by T=>SizeOf.sizeOf T
decreasing_by
 simp_wf
 have:=yQ a2;omega
end
end Go.Proofs.YtbdpdeonapmlgaaGreatDoor
namespace Go.Proofs.YtbdpdeonapmlgaaGreatDoor
def xM {k v:Int} {nm:ByteArray} {g:Bool} {num den:List Nat} {args:List Tm} (h:Tm.errE (.mk k v nm g num den args)=0):bH k v nm.size g num den args.length=0∧Tm.errL args=0:=by
 simp only [Tm.errE] at h
 by_cases h0:bH k v nm.size g num den args.length=0
 ·rw [if_neg (by simp [h0])] at h;exact⟨h0,h⟩
 ·rw [if_pos h0] at h;exact absurd h h0
def uP {T:Tm} {r:List Tm} (h:Tm.errL (T::r)=0):T.errE=0∧Tm.errL r=0:=by
 simp only [Tm.errL] at h
 by_cases h0:T.errE=0
 ·rw [if_neg (by simp [h0])] at h;exact⟨h0,h⟩
 ·rw [if_pos h0] at h;exact absurd h h0
end Go.Proofs.YtbdpdeonapmlgaaGreatDoor
namespace Go.Proofs.YtbdpdeonapmlgaaGreatDoor
open Go.RowKit Go.Big
attribute [local go_sem] Heavy.uponW
def Fk {L:List Tm} {i:Nat} {T:Tm} (h:Tm.errL L=0) (hi:L[i]?=some T):T.errE=0:=by
 induction L generalizing i with
 |nil=>simp at hi
 |cons a r ih=>
  obtain⟨h1,h2⟩:=uP h;cases i with
  |zero=>simp at hi;subst hi;exact h1
  |succ j=>exact ih h2 (by simpa using hi)
end Go.Proofs.YtbdpdeonapmlgaaGreatDoor
namespace Go.Proofs.YtbdpdeonapmlgaaGreatDoor
open Go.RowKit Go.Big Go.RowsK
variable {nm:ByteArray} {v:Value} {n:Nat} {w:Wo} {g:Bool} {den num:List Nat} {k:Int} {vs xs:Lv}
def nK (k:Int) (nm:ByteArray):Bool:=k==3&&nm.toList== [116,114,117,101]
def pB (k:Int) (nm:ByteArray) (len:Nat):Bool:=k==5&&nm.toList== [44]&&((len:Int)==2)
mutual
def Tm.lits:Tm→List Tm
 | .mk k v nm g num den args=>if nK k nm=true then [] else if pB k nm args.length=true then Tm.litsL args else [.mk k v nm g num den args]
def Tm.litsL:List Tm→List Tm
 | []=>[]
 |T::r=>Tm.lits T++Tm.litsL r
end
mutual
def Tm.litsB:Tm→Bool
 | .mk k v nm g num den args=>if nK k nm=true then true else if pB k nm args.length=true then Tm.litsBL args else Tm.kd (.mk k v nm g num den args) !=0
def Tm.litsBL:List Tm→Bool
 | []=>true
 |T::r=>Tm.litsB T&&Tm.litsBL r
end
mutual
theorem uI:∀T:Tm,T.lits.length≤T.nodes
 | .mk k v nm g num den args=>by
  simp only [Tm.lits,Tm.nodes];split
  ·simp
  ·split
   ·have:=PA args;omega
   ·simp
theorem PA:∀L:List Tm,(Tm.litsL L).length≤Tm.nodesL L
 | []=>by simp [Tm.litsL]
 |T::r=>by
  simp only [Tm.litsL,Tm.nodesL,aI];have:=uI T;have:=PA r;omega
end
mutual
theorem AU:∀(T:Tm) (x:Tm),x∈T.lits→(T.errE=0→x.errE=0)∧x.nodes≤T.nodes
 | .mk k v nm g num den args,x,h=>by
  simp only [Tm.lits] at h;split at h
  ·cases h
  ·split at h
   ·obtain⟨h1,h2⟩:=FQ args x h;exact⟨fun he=>h1 (xM he).2,by simp only [Tm.nodes];omega⟩
   ·simp at h;subst h;exact⟨id,aA _⟩
theorem FQ:∀(L:List Tm) (x:Tm),x∈Tm.litsL L→(Tm.errL L=0→x.errE=0)∧x.nodes≤Tm.nodesL L
 | [],x,h=>by simp [Tm.litsL] at h
 | T::r,x,h=>by
  simp only [Tm.litsL,cG] at h;simp only [Tm.nodesL];rcases h with h|h
  ·obtain⟨h1,h2⟩:=AU T x h;exact⟨fun he=>h1 (uP he).1,by omega⟩
  ·obtain⟨h1,h2⟩:=FQ r x h;exact⟨fun he=>h1 (uP he).2,by omega⟩
end
def Io (l:List UInt8):0≤bkN l:=by
 unfold bkN;split
 ·decide
 ·split
  ·decide
  ·split
   ·decide
   ·split<;>decide
def De:∀T:Tm,0≤T.kd
 | .mk k v nm g num den args=>by
  simp only [Tm.kd];split
  ·decide
  ·split
   ·cases args with
    |nil=>decide
    |cons A r=>simp only [mE];split<;>decide
   ·split
    ·decide
    ·split
     ·exact Io _
     ·decide
def TsX (n:Nat) (w:Wo):List Tm→Lv→Prop
 | [],X=>X= []
 |T::r,X=>∃vs Y,X=vs++Y∧TmV n w T vs∧TsX n w r Y
def TmV.len {T:Tm} (h:TmV n w T vs):vs.length=7:=by
 obtain⟨k,v,nm,g,num,den,args⟩:=T;simp only [TmV] at h;obtain⟨s1,s2,a,c,rfl,_⟩:=h;rfl
def TmV.one {T:Tm} (h:TmV n w T vs):∀u∈vs,u.oneCell'=true:=by
 obtain⟨k,v,nm,g,num,den,args⟩:=T;simp only [TmV] at h;obtain⟨_,_,a,c,rfl,⟨⟨p1,q1,rfl,_⟩,⟨p2,q2,rfl,_⟩⟩,_⟩:=h;intro u hu;simp only [cM,List.not_mem_nil,or_false] at hu;rcases hu with rfl|rfl|rfl|rfl|rfl|rfl|rfl<;>rfl
def TsX.len {n:Nat} {w:Wo}:∀{L:List Tm} {X:Lv},TsX n w L X→X.length=L.length*7
 | [],X,h=>by simp only [TsX] at h;subst h;rfl
 |T::r,X,h=>by
  simp only [TsX] at h;obtain⟨vs,Y,rfl,h1,h2⟩:=h;rw [aI,h1.len,TsX.len h2,eW];omega
def TsX.one {n:Nat} {w:Wo}:∀{L:List Tm} {X:Lv},TsX n w L X→∀u∈X,u.oneCell'=true
 | [],X,h=>by simp only [TsX] at h;subst h;simp
 |T::r,X,h=>by
  simp only [TsX] at h;obtain⟨vs,Y,rfl,h1,h2⟩:=h;intro u hu;rcases cG.1 hu with hu|hu
  ·exact h1.one u hu
  ·exact TsX.one h2 u hu
def TsX.app {n:Nat} {w:Wo}:∀{L M:List Tm} {X Y:Lv},TsX n w L X→TsX n w M Y→TsX n w (L++M) (X++Y)
 | [],M,X,Y,h,h'=>by simp only [TsX] at h;subst h;exact h'
 |T::r,M,X,Y,h,h'=>by
  simp only [TsX] at h;obtain⟨vs,Z,rfl,h1,h2⟩:=h;exact⟨vs,Z++Y,by rw [fJ],h1,TsX.app h2 h'⟩
def TsX.below {n m:Nat} {w w':Wo} (hb:Below m w w') (hm:n≤m):∀{L:List Tm} {X:Lv},TsX n w L X→TsX n w' L X
 | [],X,h=>h
 |T::r,X,h=>by
  simp only [TsX] at h ⊢;obtain⟨vs,Y,e,h1,h2⟩:=h;exact⟨vs,Y,e,TmV.below hb hm _ _ h1,TsX.below hb hm h2⟩
def TsX.get {n:Nat} {w:Wo}:∀{L:List Tm} {X:Lv} {k:Nat} {T:Tm},TsX n w L X→L[k]?=some T→∃vs,TmV n w T vs∧∀(j:Nat) u,vs[j]?=some u→X[k*7+j]?=some u
 | [],_,_,_,_,hk=>by simp at hk
 |T0::r,X,0,T,h,hk=>by
  simp only [TsX] at h;obtain⟨vs,Y,rfl,h1,h2⟩:=h;simp at hk;subst hk;refine⟨vs,h1,fun j u hj=>?_⟩;rw [pM,bT,dW (aM.1 hj).1];exact hj
 |T0::r,X,k+1,T,h,hk=>by
  simp only [TsX] at h;obtain⟨vs,Y,rfl,h1,h2⟩:=h;obtain⟨us,h3,h4⟩:=TsX.get h2 (show r[k]?=some T by simpa using hk);refine⟨us,h3,fun j u hj=>?_⟩;have hl:=h1.len;rw [dK (by omega),hl,show(k+1)*7+j-7=k*7+j by omega];exact h4 j u hj
def qU:El Tryz.prog 46 48 7 112 zTm:=⟨Tryz.underlying46,by
  obtain⟨i0,h1,h2,h3,h4⟩:=mQ (show(Tryz.prog.info? 48).map (fun i=>(i.zero,i.size,i.bytes))=some (some zTm,7,112) by kernel_rfl);exact⟨i0,h1,h2,h3,h4⟩,rfl,by decide⟩
def OutT (n base:Nat) (w:Wo) (v:Value) (L:List Tm):Prop:=∃X,w.ownsRow base 48 7 v L.length X∧TsX n w L X
def OutT.below {base m:Nat} {w':Wo} {L:List Tm} (h:OutT n base w v L) (hb:Below m w w') (hn:n≤m) (hm:w.heap.size≤m):OutT n base w' v L:=by
 obtain⟨X,h1,h2⟩:=h;exact⟨X,gJ h1 hb hm,h2.below hb hn⟩
def OutT.nil (n base:Nat) (w:Wo):OutT n base w (.slice none 0 0) []:=⟨[],pL _ _ _ _,rfl⟩
def qA {base base':Nat} {e:TypeId} {size:Nat} (h:w.ownsRow base e size v n xs) (hb:base'≤base):w.ownsRow base' e size v n xs:=by
 obtain⟨h1,h2|⟨g,cap,cur,e1,h3,h4⟩⟩:=h
 ·exact⟨h1,.inl h2⟩
 ·exact⟨h1,.inr ⟨g,cap,cur,e1,by omega,h4⟩⟩
def OutT.base {base base':Nat} {L:List Tm} (h:OutT n base w v L) (hb:base'≤base):OutT n base' w v L:=by
 obtain⟨X,h1,h2⟩:=h;exact⟨X,qA h1 hb,h2⟩
section
attribute [local go_sem] Heavy.uponW
def LitsP (n:Nat) (w:Wo) (T:Tm) (e:Ending) (w':Wo):Prop:=∃v,e= .returned (.tuple #[v,.bool T.litsB])∧OutT n w.heap.size w' v T.lits∧Bz w w'
def LitsOk (F:Nat) (T:Tm):Prop:=∀(n:Nat) (w:Wo) (vs:Lv),T.errE=0→T.nodes≤10000→TmV n w T vs→n≤w.heap.size→Cz F #[.agg vs.toArray] w (LitsP n w T)
def Co {v:Int} {A B:Tm} (h1:nK k nm=false) (h2:pB k nm 2=true):
  Tm.lits (.mk k v nm g num den [A,B])=A.lits++B.lits∧Tm.litsB (.mk k v nm g num den [A,B])=(A.litsB&&B.litsB):=by
 constructor
 ·simp [Tm.lits,Tm.litsL,h1,h2]
 ·simp [Tm.litsB,Tm.litsBL,h1,h2]
def Cq {v:Int} {args:List Tm} (h1:nK k nm=false) (h2:pB k nm args.length=false):
  Tm.lits (.mk k v nm g num den args)= [.mk k v nm g num den args]∧Tm.litsB (.mk k v nm g num den args)=(Tm.kd (.mk k v nm g num den args) !=0):=by
 constructor
 ·simp [Tm.lits,h1,h2]
 ·simp [Tm.litsB,h1,h2]
def Cp {v:Int} {args:List Tm} (h1:nK k nm=true):
  Tm.lits (.mk k v nm g num den args)= []∧Tm.litsB (.mk k v nm g num den args)=true:=by
 constructor
 ·simp [Tm.lits,h1]
 ·simp [Tm.litsB,h1]
def ZV (k v:Int) (nm:ByteArray) (g:Bool) (num den:List Nat) (args:List Tm) (ih:∀T'∈args,LitsOk 59 T'):LitsOk 59 (.mk k v nm g num den args):=by
 intro n w vs hT hN h hn;have hk:=fun w2 (hb:Bz w w2)=>BB (.mk k v nm g num den args) n w2 vs (TmV.below hb hn _ _ h) (aD hn hb.size)
 have h0:=h;have d4:=(xM hT).2;obtain⟨Tt,hTt⟩:=enm (Tm.mk k v nm g num den args);have TA:=aside hTt;rw [hTt] at hk h0 hN ⊢;have f0:=aside hN;simp only [TmV] at h;obtain⟨_,_,a,c,rfl,⟨⟨p1,q1,rfl,_⟩,⟨p2,q2,rfl,_⟩⟩,hS,hbig,_⟩:=h;generalize num.length=n1,den.length=n2 at*;obtain⟨len,hl⟩:=enm args.length;rw [hl] at h0 hk ⊢;have Al:=aside2 hl d4;have c6:=aside hS;have c1:=aside ih;have hB:=aC w (bA k v nm g p1 n1 q1 p2 n2 q2 a len c);have hq:=aJ w (bA k v nm g p1 n1 q1 p2 n2 q2 a len c);have d9:(w.alloc (bA k v nm g p1 n1 q1 p2 n2 q2 a len c)).heap.size=w.heap.size+1:=by simp
 obtain⟨wb,hwb⟩:=enm (w.alloc (bA k v nm g p1 n1 q1 p2 n2 q2 a len c));rw [hwb] at hB hq d9;have fa:Aside (∀w2,Bz wb w2→_):=fun(w2:Wo) (hb:Bz wb w2)=>bZ ((hb.block w.heap.size (by omega)).trans hq)
 have c8:=aside hk;have e8:Aside (∀w2,Bz w w2→TmV n w2 Tt [.int .i64 k,.int .i64 v,.string nm,.bool g,.slice p1 n1 q1,.slice p2 n2 q2,.slice a len c]):=fun w2 hb=>TmV.below hb hn _ _ h0
 obtain⟨x0,x1,x2,x3,x4,x5,x6⟩:=fa.o wb (bD _ _);have a6:Aside (∀w2,_):=fun w2=>Dh k v nm ⟨#[116,114,117,101]⟩ g (.slice p1 n1 q1) (.slice p2 n2 q2) (.slice a len c) w2
 have a7:Aside (∀w2,_):=fun w2=>PW k v nm ⟨#[44]⟩ g (.slice p1 n1 q1) (.slice p2 n2 q2) a len c 2 w2
 rw [tl #[116,114,117,101]] at a6;rw [tl #[44]] at a7;obtain⟨it,hit⟩:∃b,nK k nm=b:=⟨_,rfl⟩;obtain⟨ia,hia⟩:∃b,pB k nm len=b:=⟨_,rfl⟩;have c3:=aside2 hit hia;replace a6:Aside (∀w2,Cz 127 #[.agg (tA k v nm g p1 n1 q1 p2 n2 q2 a len c),.string ⟨#[116,114,117,101]⟩] w2 fun e w'=>e= .returned (.bool it)∧Bz w2 w'):=by rw [←hit];exact a6
 replace a7:Aside (∀w2,Cz 128 #[.agg (tA k v nm g p1 n1 q1 p2 n2 q2 a len c),.string ⟨#[44]⟩,.int .i64 2] w2 fun e w'=>e= .returned (.bool ia)∧Bz w2 w'):=by rw [←hia];exact a7
 have e0:Bz wb wb:=bD _ _;have b0:Aside (it=false→ia=false→Tt.lits= [Tt]∧Tt.litsB=(Tt.kd !=0)):=by
  show _→_→_;intro a1 a2;have:=Cq (k:=k) (v:=v) (nm:=nm) (g:=g) (num:=num) (den:=den) (args:=args) (hit.trans a1) (by rw [hl];exact hia.trans a2);rw [TA.o] at this;exact this
 have b1:Aside (it=true→Tt.lits= []∧Tt.litsB=true):=by
  show _→_;intro a1;have:=Cp (k:=k) (v:=v) (nm:=nm) (g:=g) (num:=num) (den:=den) (args:=args) (hit.trans a1);rw [TA.o] at this;exact this
 clear hq d9 hl hS hit hia hk h0 d4 hT hTt hN ih;show Cz 59 #[.agg (tA k v nm g p1 n1 q1 p2 n2 q2 a len c)] w _;go_enter Tryz.func59,Tryz.ntmps59
 go_upto_region 1 with fail
 clear hwb
 go_wp2_with (go_at_call 127;with_reducible refine(a6.o _).mono ?_)
 rintro e w1 ⟨rfl,hb1⟩;have e1:Bz wb w1:=e0.trans (hb1.mono e0.size);clear x0 x1 x2 x3 x4 x5 x6 hb1;obtain⟨x0,x1,x2,x3,x4,x5,x6⟩:=fa.o w1 e1;cases it
 case true=>
  have hr:=b1.o rfl;have hP:Aside (LitsP n w Tt (.returned (.tuple #[.slice none 0 0,.bool true])) w1):=⟨_,by rw [hr.2],by rw [hr.1];exact OutT.nil _ _ _,hB.trans (e1.mono hB.size)⟩;clear hr b1 b0;go_wp2
  go_ret2
  exact hP.o
 go_wp2_with (go_at_call 128;with_reducible refine(a7.o _).mono ?_)
 rintro e w2 ⟨rfl,hb2⟩;have e2:Bz wb w2:=e1.trans (hb2.mono e1.size);clear x0 x1 x2 x3 x4 x5 x6 hb2;obtain⟨x0,x1,x2,x3,x4,x5,x6⟩:=fa.o w2 e2;cases ia
 case true=>
  obtain⟨rfl,hnc,rfl⟩:k=5∧(nm.toList== [44])=true∧len=2:=by
   have:=c3.o.2;unfold pB at this;simp at this;exact⟨this.1.1,by simpa using this.1.2,by omega⟩
  obtain⟨A,B,rfl⟩:∃A B,args= [A,B]:=by
   match args,Al.o.1 with
   | [A,B],_=>exact⟨A,B,rfl⟩
  obtain⟨c9,b2⟩:=Co (v:=v) (g:=g) (num:=num) (den:=den) (A:=A) (B:=B) c3.o.1 c3.o.2;rw [TA.o] at c9 b2;have d1:=(uP Al.o.2).1;have d2:=(uP (uP Al.o.2).2).1;have a8:A.nodes≤10000∧B.nodes≤10000∧A.lits.length+B.lits.length≤20000:=by
   have h1:=f0.o;rw [←TA.o] at h1;simp only [Tm.nodes,Tm.nodesL] at h1;have:=uI A;have:=uI B;omega
  have d3:=c6.o;simp only [bS] at d3;obtain⟨⟨b,off,va,rfl,hbn,hca,hva⟩,⟨b',off',vb,eb,_,hcb,hvb⟩,_⟩:=d3;obtain⟨rfl,rfl⟩:b=b'∧off=off':=by injection eb with eb;injection eb with e1 e2;exact⟨e1,e2⟩
  clear eb;have e6:=c1.o A (by simp);have e7:=c1.o B (by simp);have b6:Aside (∀w2,Bz wb w2→TmV n w2 A va):=fun w2 hb=>TmV.below (hB.trans (hb.mono hB.size)) hn _ _ hva
  have b7:Aside (∀w2,Bz wb w2→TmV n w2 B vb):=fun w2 hb=>TmV.below (hB.trans (hb.mono hB.size)) hn _ _ hvb
  have b9:n≤wb.heap.size:=aD hn hB.size;have a0:Aside (∀w2,Bz wb w2→Cz 59 #[.agg va.toArray] w2 (LitsP n w2 A)):=fun w2 hb=>e6 n w2 va d1 a8.1 (b6.o w2 hb) (aD b9 hb.size)
  have a3:Aside (∀w2,Bz wb w2→Cz 59 #[.agg vb.toArray] w2 (LitsP n w2 B)):=fun w2 hb=>e7 n w2 vb d2 a8.2.1 (b7.o w2 hb) (aD b9 hb.size)
  have b3:Aside (Tt.lits=A.lits++B.lits∧Tt.litsB=(A.litsB&&B.litsB)∧A.lits.length+B.lits.length≤20000):=⟨c9,b2,a8.2.2⟩;clear c9 b2 d1 d2 a8 e6 e7 b6 b7 c6 c1 c8 b1 b0;obtain⟨ka,va1,nma,ga,b8,dena,argsa⟩:=A;obtain⟨kb,vb1,nmb,gb,numb,denb,argsb⟩:=B;simp only [TmV] at hva hvb;obtain⟨_,_,aa,ca,rfl,⟨⟨r1,u1,rfl,_⟩,⟨r2,u2,rfl,_⟩⟩,_⟩:=hva;obtain⟨_,_,ab,cb,rfl,⟨⟨r3,u3,rfl,_⟩,⟨r4,u4,rfl,_⟩⟩,_⟩:=hvb;obtain⟨TAt,hTAt⟩:∃t,Tm.mk ka va1 nma ga b8 dena argsa=t:=⟨_,rfl⟩;obtain⟨TBt,hTBt⟩:∃t,Tm.mk kb vb1 nmb gb numb denb argsb=t:=⟨_,rfl⟩;rw [hTAt] at a0;rw [hTBt] at a3;rw [hTAt,hTBt] at b3;clear hTAt hTBt Al TA;generalize b8.length=ma1,dena.length=ma2,argsa.length=la,numb.length=mb1,denb.length=mb2,argsb.length=lb at*;have ya:Aside (∀w2,Bz wb w2→_):=fun(w2:Wo) (hb:Bz wb w2)=>kM (fun p hp=>((hB.trans (hb.mono hB.size)).mono hn).cell (hp▸hbn)) (by simpa using hca)
  have yb:Aside (∀w2,Bz wb w2→_):=fun(w2:Wo) (hb:Bz wb w2)=>kM (o:=off+7) (fun p hp=>((hB.trans (hb.mono hB.size)).mono hn).cell (hp▸hbn)) (by simpa using hcb)
  clear hca hcb;obtain⟨y0,y1,y2,y3,y4,y5,y6⟩:=ya.o w2 e2;replace a0:Aside (∀w2,Bz wb w2→Cz 59 #[.agg (tA ka va1 nma ga r1 ma1 u1 r2 ma2 u2 aa la ca)] w2 (LitsP n w2 TAt)):=a0;replace a3:Aside (∀w2,Bz wb w2→Cz 59 #[.agg (tA kb vb1 nmb gb r3 mb1 u3 r4 mb2 u4 ab lb cb)] w2 (LitsP n w2 TBt)):=a3
  go_wp2_with (go_at_call 59;with_reducible refine(a0.o _ e2).mono ?_)
  rintro e w3 ⟨v3,rfl,hO3,hb3⟩;have e3:Bz wb w3:=e2.trans (hb3.mono e2.size);have e9:=e2.size;clear x0 x1 x2 x3 x4 x5 x6 y0 y1 y2 y3 y4 y5 y6 a0 ya hb3;obtain⟨x0,x1,x2,x3,x4,x5,x6⟩:=fa.o w3 e3;obtain⟨y0,y1,y2,y3,y4,y5,y6⟩:=yb.o w3 e3
  go_wp2_with (go_at_call 59;with_reducible refine(a3.o _ e3).mono ?_)
  rintro e w4 ⟨v4,rfl,hO4,hb4⟩;have e4:Bz wb w4:=e3.trans (hb4.mono e3.size);have c2:=e3.size;have d0:n≤w3.heap.size:=aD b9 e3.size;have c4:=(hO3.below hb4 d0 (aA _)).base e9;have c5:=hO4.base c2;clear x0 x1 x2 x3 x4 x5 x6 y0 y1 y2 y3 y4 y5 y6 a3 yb hO3 hO4;obtain⟨X3,hX3,hT3⟩:=c4;obtain⟨X4,hX4,hT4⟩:=c5;have a9:TAt.lits.length+TBt.lits.length≤maxLen∧(TAt.lits.length+TBt.lits.length)*112≤140737488355328:=by
   have:=b3.o.2.2;unfold maxLen;omega
  have b5:=zD hX4;have d6:=hX4.1;have d8:=hT4.one;have c0:wb.heap.size≤w4.heap.size:=e4.size;have hP:Aside (∀v5 w5,w5.ownsRow wb.heap.size 48 7 v5 (TAt.lits.length+TBt.lits.length) (X3++X4)→w4.grownBy w5 v3.ownBlock→LitsP n w Tt (.returned (.tuple #[v5,.bool (TAt.litsB&&TBt.litsB)])) w5):=by
   show∀v5 w5,_;intro v5 w5 h1 h2;have d7:=hX3.lt;have b4:Bz wb w5:=e4.grown h2 c0 fun k hk=>(d7 k hk).1
   have f2:Below wb.heap.size w4 w5:=(bD _ _).grown h2 c0 fun k hk=>(d7 k hk).1
   refine⟨v5,by rw [b3.o.2.1],⟨X3++X4,?_,?_⟩,hB.trans (b4.mono hB.size)⟩
   ·rw [b3.o.1,aI];exact qA h1 hB.size
   ·rw [b3.o.1];exact(hT3.app hT4).below f2 b9
  clear hT3 hT4;cases hba:TAt.litsB
  ·rw [hba] at hP;clear hba b3
   go_wp2_with (at_builtin;refine jK qU _ rfl _ _ rfl wb.heap.size _ _ X3 rfl hX3 v4 _ X4 rfl b5 d6 d8 a9.1 a9.2 c0 ?_;intro v5 w5 h5 c7 _)
   go_ret2
   exact hP.o _ _ h5 c7
  ·rw [hba] at hP;clear hba b3
   go_wp2_with (at_builtin;refine jK qU _ rfl _ _ rfl wb.heap.size _ _ X3 rfl hX3 v4 _ X4 rfl b5 d6 d8 a9.1 a9.2 c0 ?_;intro v5 w5 h5 c7 _)
   go_ret2
   exact hP.o _ _ h5 c7
 have b2:=b0.o (by first|rfl|trivial) (by first|rfl|trivial);have f4:w.heap.size≤wb.heap.size:=hB.size;have hP:Aside (∀w5 w6:Wo,Bz wb w5→w5.heap[w6.heap.size]?=some (.cells (tA k v nm g p1 n1 q1 p2 n2 q2 a len c) 48)→wb.heap.size≤w6.heap.size→∀b:Bool,b=(Tt.kd !=0)→LitsP n w Tt (.returned (.tuple #[.slice (some ⟨w6.heap.size,0,none⟩) 1 1,.bool b])) w5):=by
  show∀w5 w6:Wo,_;intro w5 w6 h5 h6 h7 bb f3;refine⟨_,by rw [b2.2,f3],⟨[.int .i64 k,.int .i64 v,.string nm,.bool g,.slice p1 n1 q1,.slice p2 n2 q2,.slice a len c],?_,?_⟩,hB.trans (h5.mono hB.size)⟩
  ·rw [b2.1];exact⟨rfl,.inr ⟨_,_,_,rfl,by omega,h6,aA _,by unfold maxLen;omega,rfl,rfl⟩⟩
  ·rw [b2.1];exact⟨_,[],by simp,e8.o w5 (hB.trans (h5.mono hB.size)),rfl⟩
 have d5:=fun w2 (hb:Bz wb w2)=>c8.o w2 (hB.trans (hb.mono hB.size))
 have a4:Aside (∀w2,Bz wb w2→_):=d5;obtain⟨K,hK⟩:=enm Tt.kd;have f5:0≤K:=by rw [←hK];exact De Tt
 rw [hK] at a4 hP;clear d5 c8 b2 b0 b1 c6 c1 hK
 go_upto_region 7 with fail
 clear x0 x1 x2 x3 x4 x5 x6;have fd:Bz wb w2.drew:=e2.trans (dO _ _);refine hRp (Bz wb) 6 (Heavy.lights [0,2] (.two 1 3 (.one 3 (Heavy.lights [4,5] .done)) (.light 4 (.one 1 (.light 5 .done))))) (by kernel_rfl) (by kernel_rfl) fd ?_;simp only [Heavy.lights,bL,bY,aZ,bG]
 iterate 2 ((apply hLm;(exact rfl);(exact rfl);(intro a5 hw;have z0:=(fa.o a5 hw).1;have z1:=(fa.o a5 hw).2.1;have z2:=(fa.o a5 hw).2.2.1;have z3:=(fa.o a5 hw).2.2.2.1;have z4:=(fa.o a5 hw).2.2.2.2.1;have z5:=(fa.o a5 hw).2.2.2.2.2.1;have z6:=(fa.o a5 hw).2.2.2.2.2.2;go_simp;exact rfl);(go_simp;exact rfl)))
 (apply hTn;(exact rfl);(exact rfl);(exact rfl);(exact rfl))
 ·go_simp
  have g1:Bz wb ((w2.drew).alloc (.cells (tA k v nm g p1 n1 q1 p2 n2 q2 a len c) 48)):=fd.alloc fd.size _;have gq:=aJ (w2.drew) ((.cells (tA k v nm g p1 n1 q1 p2 n2 q2 a len c) 48):Obj);have gs:((w2.drew).alloc ((.cells (tA k v nm g p1 n1 q1 p2 n2 q2 a len c) 48):Obj)).heap.size=w2.drew.heap.size+1:=by simp
  refine⟨g1,?_⟩
  (refine hNa (by go_simp;exact rfl) ?_)
  (apply hOn;(exact rfl);(exact rfl));go_simp
  refine(a4.o _ g1).mono ?_;rintro e w5 ⟨rfl,b4⟩;have g5:=g1.trans (b4.mono g1.size);refine⟨_,rfl,g5,?_⟩
  (refine hNa (by go_simp;exact rfl) ?_)
  iterate 2 ((apply hLm;(exact rfl);(exact rfl);(intro a5 hw;go_simp;exact rfl);(go_simp;exact rfl)))
  apply hPe;show wpList _ _ _ _ _ _;have hQ:Aside (LitsP n w Tt _ _):=hP.o w5 (w2.drew) g5 ((b4.block _ (by rw [gs];omega)).trans gq) fd.size _ rfl;clear hP a4 gq gs b4;go_wp2
  go_ret2
  exact hQ.o
 ·go_simp
  refine(a4.o _ fd).mono ?_;rintro e w5 ⟨rfl,b4⟩;have g5:=fd.trans (b4.mono fd.size);refine⟨_,rfl,g5,?_⟩
  (refine hNa (by go_simp;exact rfl) ?_)
  (apply hLm;(exact rfl);(exact rfl);(intro a5 hw;go_simp;exact rfl);(go_simp;exact rfl))
  (apply hOn;(exact rfl);(exact rfl));go_simp
  have g6:Bz wb (w5.alloc (.cells (tA k v nm g p1 n1 q1 p2 n2 q2 a len c) 48)):=g5.alloc g5.size _;have gq:=aJ w5 ((.cells (tA k v nm g p1 n1 q1 p2 n2 q2 a len c) 48):Obj);refine⟨g6,?_⟩
  (refine hNa (by go_simp;exact rfl) ?_)
  (apply hLm;(exact rfl);(exact rfl);(intro a5 hw;go_simp;exact rfl);(go_simp;exact rfl))
  apply hPe;show wpList _ _ _ _ _ _;have hQ:Aside (LitsP n w Tt _ _):=hP.o _ w5 g6 gq g5.size _ rfl;clear hP a4 gq;go_wp2
  go_ret2
  exact hQ.o
def wP:∀T:Tm,LitsOk 59 T
 | .mk k v nm g num den args=>ZV k v nm g num den args fun T' f1=>wP T'
termination_by T=>SizeOf.sizeOf T
decreasing_by
 simp_wf
 have:=yQ f1;omega
end
section
attribute [local go_sem] Heavy.uponW
end
