/- Lemmas for the text Card; no condition. -/
import Derived.Test.YtbdpdeonapmlgaaGreatDoorAr
import Derived.Shelf.SlSortCmp.WholeK
import Derived.Shelf.SlSortCmp.NoneTotal
import Derived.Shelf.SlLaysF0
import Derived.Shelf.SlGeneric
import Derived.Shelf.SlSortCmp.Insertion
set_option linter.all false
set_option maxHeartbeats 8000000
set_option maxRecDepth 100000
namespace Go.Proofs.YtbdpdeonapmlgaaGreatDoor
open Go.RowKit Go.Big Go.RowsK Go.MapK
variable {M M0 M1 M2 M3:List (Ind × Value)} {L:List Ind} {v v0 u v5:Value} {P:List Cl} {w wx wr w2 w' a:World} {i b c base:Nat} {D D':Ind→List Ind} {C:Cl} {x y k:Ind}
section
attribute [local go_sem] Heavy.uponW
def nY (a0:List Ind) (x:Ind):List Ind:=if a0.getLast?=some x then a0 else a0++ [x]
def cpt (L:List Ind):List Ind:=L.foldl nY []
theorem Cq (L:List Ind) (x:Ind):cpt (L++ [x])=nY (cpt L) x:=by
 unfold cpt;rw [List.foldl_append];rfl
theorem OM (h:L[i]?=some x):cpt (L.take (i+1))=nY (cpt (L.take i)) x:=by
 rw [fT,h];exact Cq _ _
theorem Cr (h:L[i]?=some y):(cpt (L.take (i+1))).getLast?=some y:=by
 rw [OM h];unfold nY;split
 ·assumption
 ·simp
theorem AE (h:L[i]?=some y) (h1:L[i+1]?=some x):cpt (L.take (i+1+1))=if x=y then cpt (L.take (i+1)) else cpt (L.take (i+1))++ [x]:=by
 rw [OM h1];unfold nY;rw [Cr h]
 by_cases e:x=y
 ·subst e;simp
 ·have:¬y=x:=fun q=>e q.symm
  simp [e,this]
theorem ON (h:L.length<2):cpt L=L:=by
 match L,h with
 | [],_=>rfl
 | [a],_=>rfl
 |a::b::r,h=>simp at h;omega
theorem cpt_le (L:List Ind):(cpt L).length≤L.length:=by
 unfold cpt;have:∀(L a0:List Ind),(L.foldl nY a0).length≤a0.length+L.length:=by
  intro L
  induction L with
  |nil=>intro a0;simp
  |cons a r ih=>
   intro a0;have:=ih (nY a0 a);have h2:(nY a0 a).length≤a0.length+1:=by unfold nY;split<;>simp
   simp only [List.foldl_cons,fU];omega
 simpa using this L []
theorem vK {b c:World} {row:Option Nat} (h:a.grownBy b row) (k:b.grownBy c row):a.grownBy c row:=
 ⟨k.os.trans h.os,k.tape.trans h.tape,k.output.trans h.output,aE h.size k.size,fun j hj a2=>(k.block j (aZ hj h.size) a2).trans (h.block j hj a2)⟩
theorem EH (a:World) (row:Option Nat):a.grownBy a.drew row:=⟨rfl,rfl,rfl,aA _,fun _ _ _=>rfl⟩
theorem zQ (a:World) (row:Option Nat):a.grownBy a row:=⟨rfl,rfl,rfl,aA _,fun _ _ _=>rfl⟩
theorem aD.drew (h:aD base w v L):aD base w.drew v L:=h.below (dI w.heap.size w) (aA _)
theorem flat_take:∀(L:List Ind) (k:Nat),(L.take k).flatMap aP=(L.flatMap aP).take (k*2)
 | [],k=>by simp
 |a::r,0=>by simp
 |a::r,k+1=>by
  simp only [bB,oH,flat_take r k,aP];rw [show(k+1)*2=k*2+1+1 by omega];simp
theorem aD.clear {g n cap:Nat} (h:aD base w (.slice (Option.some ⟨g,0,none⟩) n cap) L) (hn:L.length=n) {k:Nat} (hk:k<n) (ty:TypeId) (a1:Nat):
  ∃w1,(Builtin.clear_ #[127] ty #[.slice (Option.some ⟨g,k*2,none⟩) (n-k) a1]).run Tryz.prog w= .ok (.tuple #[]) w1∧aD base w1 (.slice (Option.some ⟨g,0,none⟩) k cap) (L.take k)∧w.grownBy w1 (Option.some g)∧w1.heap.size=w.heap.size:=by
 unfold aD at h;rw [hn] at h;obtain⟨a6,⟨e,_⟩|⟨g',a1,cur,e,hb,hg,hnc,hm,hs,ht⟩⟩:=h
 ·cases e
 cases e;have a9:cur.toList.length=cap*2:=by rw [cV];exact hs
 obtain⟨Z,hZ⟩:∃Z,(Builtin.zeroCells pT.cells (n-k)).toList=Z:=⟨_,rfl⟩;have a8:Z.length=(n-k)*2:=by rw [←hZ];simp [Builtin.zeroCells,pT,Value.cells]
 have a7:∀v∈Z,v.oneCell'=true:=by
  intro v hv;rw [←hZ] at hv;simp only [Builtin.zeroCells,pT,Value.cells,Array.toList_map,dG] at hv;obtain⟨j,_,rfl⟩:=hv;have:j%2=0∨j%2=1:=by omega
  show(#[Value.string { data:=#[] },Value.int IntKind.i64 0][j%2]!).oneCell'=true;rcases this with e|e<;>rw [e]<;>rfl
 have a3:=AV (P:=Tryz.prog) g (k*2) 63 Z 0 cur w hg (by rw [a8];omega) a7;refine⟨w.setRow g (cur.toList.take (k*2+0)++Z++cur.toList.drop (k*2+0+Z.length)).toArray,?_,?_,⟨rfl,rfl,rfl,by simp [World.setRow],fun j hj a2=>wK _ _ _ _ fun(e:j=g)=>a2 (by rw [e])⟩,by simp [World.setRow]⟩
 ·obtain⟨m,hm⟩:∃m,n-k=m+1:=⟨n-k-1,by omega⟩;have hv:∀w,(zeroValue 63).run Tryz.prog w= .ok pT w:=fun w=>Tryz.zeroValue63 w
  rw [hm] at hZ ⊢;unfold Builtin.clear_;simp [dV Tryz.underlying127,hv,hZ];simp at a3;simp [a3]
 ·have a5:(cur.toList.take (k*2+0)++Z++cur.toList.drop (k*2+0+Z.length)).length=cap*2:=by simp;omega
  unfold aD;have a4:(L.take k).length=k:=by rw [aU,hn];omega
  rw [a4];refine⟨by rw [flat_len,a4],.inr ⟨g,cap,_,rfl,hb,tH _ _ _ _ _ _ hg,by omega,hm,by rw [tP];exact a5,?_⟩⟩;rw [eZ,GW (by simp;omega),fP,GV,Nat.min_self];have:=flat_take L k;rw [this,←ht,GV,kY (by omega)]
end
section
attribute [local go_sem] Heavy.uponW
def CpP (base:Nat) (w:World) (sv:Value) (L:List Ind) (e:Ending) (w':World):Prop:=
 ∃v,e= .returned v∧aD base w' v (cpt L)∧v.ownBlock=sv.ownBlock∧w.grownBy w' sv.ownBlock
theorem Cw (L:List Ind) (base:Nat) (w:World) (sv:Value) (hO:aD base w sv L) (b2:L.length≤1000000000):
  Calls Tryz.prog 189 #[sv] w (CpP base w sv L):=by
 by_cases hs:L.length<2
 case pos=>
  obtain⟨a,c,rfl,_⟩:=hO.read;have hR:Aside (CpP base w (.slice a L.length c) L (.returned (.slice a L.length c)) w):=⟨_,rfl,by rw [ON hs];exact hO,rfl,zQ _ _⟩;have c1:(L.length:Int)<2:=by omega
  generalize L.length=len at*;clear hO;go_enter Tryz.func189,Tryz.ntmps189;go_wp2
  go_ret
  exact hR.out
 obtain⟨g,c,rfl,hbg,hgl⟩:=hO.some (by intro e;subst e;simp at hs);obtain⟨len,hl⟩:∃len,L.length=len:=⟨_,rfl⟩;rw [hl] at hs b2 hO ⊢;have Al:=aside hl;have c1:¬(len:Int)<2:=by omega
 have b6:=aside hO;have d8:len≤c:=by
  obtain⟨_,⟨e,_⟩|⟨g',cap',cur,e,_,_,hnc,_⟩⟩:=hO
  ·cases e
  ·cases e;rw [←hl];exact hnc
 have c2:c≤maxLen:=by
  obtain⟨_,⟨e,_⟩|⟨g',cap',cur,e,_,_,hnc,hm,_⟩⟩:=hO
  ·cases e
  ·cases e;exact hm
 clear hO hl;go_enter Tryz.func189,Tryz.ntmps189;go_wp2
 go_loopw [3] (fun s wr=>∃i:Nat,s= .int .i64 ((i:Int)+1)∧i+1≤len∧cpt (L.take (i+1))=L.take (i+1)∧aD base wr (.slice (some ⟨g,0,none⟩) len c) L∧w.grownBy wr (some g)) (fun s _=>len-(intOf s).toNat)
 case atStart=>exact⟨0,by simp,by omega,by rw [ON (by rw [aU];omega)],b6.out,zQ _ _⟩
 case round=>
  obtain⟨wo,rfl⟩:∃wo,wo=wr:=⟨_,rfl⟩;obtain⟨i,rfl,hi,hcp,hP,hG⟩:=hrel
  by_cases d9:i+1<len
  case neg=>
   obtain rfl:len=i+1:=by omega
   have hR:Aside (CpP base w (.slice (some ⟨g,0,none⟩) (i+1) c) L (.returned (.slice (some ⟨g,0,none⟩) (i+1) c)) wo):=⟨_,rfl,by rw [eP (by rw [Al.out];exact aA _)] at hcp;rw [hcp];exact hP,rfl,hG⟩;have c3:((i+1:Nat):Int)=(i:Int)+1:=by omega
   clear hcp hP hG;go_wp2
   go_ret
   exact hR.out
  obtain⟨⟨y,q⟩,hI0⟩:∃I,L[i]?=some I:=⟨L[i]'(by rw [Al.out];omega),aL _⟩;obtain⟨⟨x,p⟩,hI1⟩:∃I,L[i+1]?=some I:=⟨L[i+1]'(by rw [Al.out];omega),aL _⟩;have a3:Aside (∀w2,Below wo.heap.size wo w2→w2.cell? ⟨g,(i+1)*2,none⟩=some (.string x)∧w2.cell? ⟨g,(i+1)*2+1,none⟩=some (.int .i64 p)):=fun w2 hb=>(hP.below hb (aA _)).cells hI1
  have a4:Aside (∀w2,Below wo.heap.size wo w2→w2.cell? ⟨g,i*2,none⟩=some (.string y)∧w2.cell? ⟨g,i*2+1,none⟩=some (.int .i64 q)):=fun w2 hb=>(hP.below hb (aA _)).cells hI0
  have a2:=aside5 hP hG hcp hI0 hI1;have c4:((i:Int)+1)<(len:Int):=by omega
  have c5:(0:Int)≤(i:Int)+1:=by omega
  have c6:(i:Int)<(len:Int):=by omega
  have c8:(0:Int)≤(i:Int):=by omega
  have c7:((i:Int)+1).toNat=i+1:=by omega
  have c9:((i:Int)+1)≤(len:Int):=by omega
  have e0:IntKind.i64.wrap (i:Int)=(i:Int):=by rw [aG];omega
  have e2:IntKind.i64.wrap ((i:Int)+1+1)=(i:Int)+1+1:=by rw [aG];omega
  have b1:=ieqA x y p q;have e7:=ieqG;obtain⟨D,hD⟩:∃D,decide ((x,p)=(y,q))=D:=⟨_,rfl⟩;rw [hD] at b1;have DA:=aside hD;clear hP hG hcp hI0 hI1 hD
  go_upto_region 6 with fail
  have a9:Below wo.heap.size wo wo.drew:=dI _ _;refine Heavy.region_plan (fun w'=>Below wo.heap.size wo w') 9 (Heavy.lights [0,1,2,3,4,5,6,7,8] .done) (by kernel_rfl) (by kernel_rfl) a9 ?_;simp only [Heavy.lights,bB,bJ,bF,bE]
  iterate 3 ((apply Heavy.light_n;(exact rfl);(exact rfl);(intro a0 hw;go_simp;exact rfl));(refine Heavy.norm_a (by go_simp;exact rfl) ?_))
  (apply Heavy.light_n;(exact rfl);(exact rfl);(intro a0 hw;have z0:=(a3.out a0 hw).1;have z1:=(a3.out a0 hw).2;go_simp;exact rfl));(refine Heavy.norm_a (by go_simp;exact rfl) ?_)
  iterate 4 ((apply Heavy.light_n;(exact rfl);(exact rfl);(intro a0 hw;go_simp;exact rfl));(refine Heavy.norm_a (by go_simp;exact rfl) ?_))
  (apply Heavy.light_n;(exact rfl);(exact rfl);(intro a0 hw;have z0:=(a4.out a0 hw).1;have z1:=(a4.out a0 hw).2;go_simp;exact rfl));(refine Heavy.norm_a (by go_simp;exact rfl) ?_)
  apply Heavy.plan_end;show wpList _ _ _ _ _ _;cases D
  case false=>
   have a5:Aside (cpt (L.take (i+1+1))=L.take (i+1+1)):=by
    show _=_;have e:=DA.out;rw [wL] at e;rw [AE a2.out.2.2.2.1 a2.out.2.2.2.2,if_neg e,a2.out.2.2.1,fT (i:=i+1),a2.out.2.2.2.2];rfl
   have b3:=a2.out.1.drew;have b0:=vK a2.out.2.1 (EH wo (some g));go_wp2;go_roundw
   case rel=>exact⟨i+1,by simp,by omega,a5.out,b3,b0⟩
   case measure=>simp [intOf];omega
  case true=>
   have a6:Aside (aD base wo.drew (.slice (some ⟨g,0,none⟩) len c) L∧L.take (i+1)=cpt (L.take (i+1+(0+1)))∧w.grownBy wo.drew (some g)):=⟨a2.out.1.drew,by
    have e:=DA.out;rw [eO] at e;rw [AE a2.out.2.2.2.1 a2.out.2.2.2.2,if_pos e,a2.out.2.2.1],vK a2.out.2.1 (EH wo (some g))⟩
   clear DA a4 a3;obtain⟨m,hm⟩:∃m,len-(i+1)=m:=⟨_,rfl⟩;have a7:=aside hm;go_wp2;clear hm b1
   go_loopw [3,5] (fun s3 s5 a0=>∃(j r:Nat) (S:List Ind),s3= .int .i64 (j:Int)∧s5= .int .i64 ((r:Int)+1)∧r+1≤m∧j≤i+1+r∧S.length=len∧aD base a0 (.slice (some ⟨g,0,none⟩) len c) S∧S.take j=cpt (L.take (i+1+(r+1)))∧(∀t,i+1+r≤t→S[t]?=L[t]?)∧w.grownBy a0 (some g)) (fun _ s _=>len-(intOf s).toNat)
   case atStart=>exact⟨i+1,0,L,by simp,by simp,by have:=a7.out;omega,by omega,Al.out,a6.out.1,a6.out.2.1,fun _ _=>rfl,a6.out.2.2⟩
   case round=>
    obtain⟨wp,rfl⟩:∃wp,wp=wr:=⟨_,rfl⟩;obtain⟨j,r,S,rfl,rfl,hr,hjr,hSl,hS,hSc,hSt,hGp⟩:=hrel
    by_cases b9:r+1<m
    case neg=>
     have hm:=a7.out;clear a7;obtain rfl:m=r+1:=by omega
     obtain⟨w9,hcl,hO9,hg9,_⟩:=hS.clear hSl (k:=j) (by omega) 0 (c-j);have hR:Aside (CpP base w (.slice (some ⟨g,0,none⟩) len c) L (.returned (.slice (some ⟨g,0,none⟩) j c)) w9):=⟨_,rfl,by
      have e1:i+1+(r+1)=len:=by omega
      rw [hSc,e1,eP (by rw [Al.out];exact aA _)] at hO9;exact hO9,rfl,vK hGp hg9⟩
     have d0:(j:Int)≤(len:Int):=by omega
     have b7:(j:Int)≤(c:Int):=by omega
     have b8:(0:Int)≤(j:Int):=by omega
     clear hS hSc hSt hGp hO9 hg9;go_wp2
     go_ret
     exact hR.out
    have c0:=a7.out;obtain⟨⟨y2,q2⟩,hI0⟩:∃I,L[i+1+r]?=some I:=⟨L[i+1+r]'(by rw [Al.out];omega),aL _⟩;obtain⟨⟨x2,p2⟩,hI1⟩:∃I,L[i+1+r+1]?=some I:=⟨L[i+1+r+1]'(by rw [Al.out];omega),aL _⟩;have a3:Aside (∀w2,Below wp.heap.size wp w2→w2.cell? ⟨g,(i+1)*2+(r+1)*2,none⟩=some (.string x2)∧w2.cell? ⟨g,(i+1)*2+(r+1)*2+1,none⟩=some (.int .i64 p2)):=fun w2 hb=>by
     have:=(hS.below hb (aA _)).cells ((hSt (i+1+r+1) (by omega)).trans hI1);rw [show(i+1+r+1)*2=(i+1)*2+(r+1)*2 by omega] at this;exact this
    have a4:Aside (∀w2,Below wp.heap.size wp w2→w2.cell? ⟨g,(i+1)*2+r*2,none⟩=some (.string y2)∧w2.cell? ⟨g,(i+1)*2+r*2+1,none⟩=some (.int .i64 q2)):=fun w2 hb=>by
     have:=(hS.below hb (aA _)).cells ((hSt (i+1+r) (by omega)).trans hI0);rw [show(i+1+r)*2=(i+1)*2+r*2 by omega] at this;exact this
    have a1:=aside7 hS hGp hSc hSt hSl hI0 hI1;have d1:((r:Int)+1)<(m:Int):=by omega
    have d2:(0:Int)≤(r:Int)+1:=by omega
    have d3:(r:Int)<(m:Int):=by omega
    have d5:(0:Int)≤(r:Int):=by omega
    have d4:((r:Int)+1).toNat=r+1:=by omega
    have e3:IntKind.i64.wrap (r:Int)=(r:Int):=by rw [aG];omega
    have e4:IntKind.i64.wrap ((r:Int)+1+1)=(r:Int)+1+1:=by rw [aG];omega
    have e6:IntKind.i64.wrap ((j:Int)+1)=(j:Int)+1:=by rw [aG];omega
    have d6:(j:Int)<(len:Int):=by omega
    have d7:(0:Int)≤(j:Int):=by omega
    have b4:j<len:=by omega
    have b1:=ieqA x2 y2 p2 q2;obtain⟨D,hD⟩:∃D,decide ((x2,p2)=(y2,q2))=D:=⟨_,rfl⟩;rw [hD] at b1;have DA:=aside hD;clear hS hGp hSc hSt hSl hI0 hI1 hD c0
    go_upto_region 11 with fail
    have a9:Below wp.heap.size wp wp.drew:=dI _ _;refine Heavy.region_plan (fun w'=>Below wp.heap.size wp w') 9 (Heavy.lights [0,1,2,3,4,5,6,7,8] .done) (by kernel_rfl) (by kernel_rfl) a9 ?_;simp only [Heavy.lights,bB,bJ,bF,bE]
    iterate 3 ((apply Heavy.light_n;(exact rfl);(exact rfl);(intro a0 hw;go_simp;exact rfl));(refine Heavy.norm_a (by go_simp;exact rfl) ?_))
    (apply Heavy.light_n;(exact rfl);(exact rfl);(intro a0 hw;have z0:=(a3.out a0 hw).1;have z1:=(a3.out a0 hw).2;go_simp;exact rfl));(refine Heavy.norm_a (by go_simp;exact rfl) ?_)
    iterate 4 ((apply Heavy.light_n;(exact rfl);(exact rfl);(intro a0 hw;go_simp;exact rfl));(refine Heavy.norm_a (by go_simp;exact rfl) ?_))
    (apply Heavy.light_n;(exact rfl);(exact rfl);(intro a0 hw;have z0:=(a4.out a0 hw).1;have z1:=(a4.out a0 hw).2;go_simp;exact rfl));(refine Heavy.norm_a (by go_simp;exact rfl) ?_)
    apply Heavy.plan_end;show wpList _ _ _ _ _ _;have b0:=vK a1.out.2.1 (EH wp (some g));have a8:=aside b0;clear b0;cases D
    case true=>
     have a5:Aside (S.take j=cpt (L.take (i+1+(r+1+1)))):=by
      show _=_;have e:=DA.out;rw [eO] at e;rw [show i+1+(r+1+1)=i+1+r+1+1 by omega,AE a1.out.2.2.2.2.2.1 a1.out.2.2.2.2.2.2,if_pos e,a1.out.2.2.1];rfl
     have b3:=a1.out.1.drew;go_wp2;go_roundw
     case rel=>exact⟨j,r+1,S,rfl,by simp,by omega,by omega,a1.out.2.2.2.2.1,b3,a5.out,fun t ht=>a1.out.2.2.2.1 t (by omega),a8.out⟩
     case measure=>
      have:=a7.out;simp [intOf];omega
    case false=>
     obtain⟨w9,hst1,hP9,hg9,_⟩:=a1.out.1.drew.store (i:=j) (J:=(x2,p2)) a1.out.2.2.2.2.1 b4;have a5:Aside (aD base w9 (.slice (some ⟨g,0,none⟩) len c) (S.set j (x2,p2))∧(S.set j (x2,p2)).take (j+1)=cpt (L.take (i+1+(r+1+1)))∧w.grownBy w9 (some g)):=by
      refine⟨hP9,?_,vK a8.out hg9⟩;have e:=DA.out;rw [wL] at e;rw [show i+1+(r+1+1)=i+1+r+1+1 by omega,AE a1.out.2.2.2.2.2.1 a1.out.2.2.2.2.2.2,if_neg e,fT,List.take_set_of_le (aA _),a1.out.2.2.1];rw [List.getElem?_set_self (by rw [a1.out.2.2.2.2.1];exact b4)];rfl
     obtain⟨z0,z1⟩:=a3.out wp.drew a9;clear hP9 hg9 DA a3 a4;have b5:=CD hst1;clear hst1;dsimp only at b5
     go_upto_region 12 with fail
     refine iP ?_
     iterate 7 (refine eV rfl fun K hK=>?_;go_simp;refine hK _ _ ?_;clear hK)
     refine lJ rfl 63 _ _ rfl (v:=.pointer (some ⟨g,j*2,none⟩)) (u:=.agg #[.string x2,.int .i64 p2]) rfl rfl b5 ?_;go_wp2;go_roundw
     case rel=>exact⟨j+1,r+1,_,by simp,by simp,by omega,by omega,by rw [BF];exact a1.out.2.2.2.2.1,a5.out.1,a5.out.2.1,fun t ht=>by rw [List.getElem?_set_ne (by omega)];exact a1.out.2.2.2.1 t (by omega),a5.out.2.2⟩
     case measure=>
      have:=a7.out;simp [intOf];omega
end
def OffG (v:Value) (M:List (Ind × Value)) (q:Nat):Prop:=v.ownBlock≠Option.some q∧∀k u,aN k M=Option.some u→u.ownBlock≠Option.some q
structure GK (b c:Nat) (wx:World) (v0:Value) (M0:List (Ind × Value)) (wr:World) (v:Value) (M:List (Ind × Value)):Prop where
 os:wr.os=wx.os
 tape:wr.tape=wx.tape
 output:wr.output=wx.output
 size:wx.heap.size≤wr.heap.size
 blk:∀g,g<wx.heap.size→g≠b→g≠c→OffG v0 M0 g→wr.heap[g]?=wx.heap[g]?
 off:∀g,g<wx.heap.size→OffG v0 M0 g→OffG v M g
theorem GK.refl (b c:Nat) (w:World) (v:Value) (M:List (Ind × Value)):GK b c w v M w v M:=⟨rfl,rfl,rfl,aA _,fun _ _ _ _ _=>rfl,fun _ _ h=>h⟩
theorem GK.trans {w1 w3:World} {v1 v2 v3:Value} (h:GK b c w1 v1 M1 w2 v2 M2) (k:GK b c w2 v2 M2 w3 v3 M3):GK b c w1 v1 M1 w3 v3 M3:=
 ⟨k.os.trans h.os,k.tape.trans h.tape,k.output.trans h.output,aE h.size k.size,fun g hg h1 h2 ho=>(k.blk g (aZ hg h.size) h1 h2 (h.off g hg ho)).trans (h.blk g hg h1 h2 ho),fun g hg ho=>k.off g (aZ hg h.size) (h.off g hg ho)⟩
theorem GK.below {m:Nat} (h:GK b c wx v0 M0 wr v M) (hb:Below m wr w') (hm:wr.heap.size≤m):GK b c wx v0 M0 w' v M:=
 ⟨hb.os.trans h.os,hb.tape.trans h.tape,hb.output.trans h.output,aE h.size hb.size,fun g hg h1 h2 ho=>(hb.block g (aZ hg (aE h.size hm))).trans (h.blk g hg h1 h2 ho),h.off⟩
theorem GK.cell (h:GK b c wx v0 M0 wr v M) (hg:wr.grownBy w' (Option.some c)):GK b c wx v0 M0 w' v M:=
 ⟨hg.os.trans h.os,hg.tape.trans h.tape,hg.output.trans h.output,aE h.size hg.size,fun g hl h1 h2 ho=>(hg.block g (aZ hl h.size) (fun e=>h2 (aJ e))).trans (h.blk g hl h1 h2 ho),h.off⟩
theorem GK.push {w5:World} {o:Obj} (h:GK b c wx v0 M0 w2 v M) (hg:(w2.alloc o).grownBy w5 v.ownBlock) (hv:v5.ownBlock=v.ownBlock∨v5.ownBlock=Option.some (w2.alloc o).heap.size):GK b c wx v0 M0 w5 v5 M:=by
 have hb:=aC w2 o;refine⟨hg.os.trans (hb.os.trans h.os),hg.tape.trans (hb.tape.trans h.tape),hg.output.trans (hb.output.trans h.output),aE h.size (aE hb.size hg.size),fun g hl h1 h2 ho=>?_,fun g hl ho=>⟨?_,(h.off g hl ho).2⟩⟩
 ·have a1:=aZ hl h.size;exact(hg.block g (aZ a1 hb.size) (fun e=>(h.off g hl ho).1 e.symm)).trans ((hb.block g a1).trans (h.blk g hl h1 h2 ho))
 ·rcases hv with e|e
  ·rw [e];exact(h.off g hl ho).1
  ·rw [e];intro e2;have e2:=aJ e2;have hs:=h.size;rw [cT] at e2;omega
theorem GK.pushAt {w6:World} (h:GK b c wx v0 M0 w2 v M) (a6:w6.os=w2.os) (a9:w6.tape=w2.tape) (a7:w6.output=w2.output) (a8:w2.heap.size≤w6.heap.size) (hu:(aN k M).getD (.slice none 0 0)=u)
  (hg:∀g,g<w2.heap.size→g≠b→u.ownBlock≠Option.some g→w6.heap[g]?=w2.heap[g]?) (hv:v5.ownBlock=u.ownBlock∨∃g,v5.ownBlock=Option.some g∧w2.heap.size≤g):GK b c wx v0 M0 w6 v (putM k v5 M):=by
 have a2:∀g,OffG v M g→u.ownBlock≠Option.some g:=fun g ho=>by
  cases hk:aN k M with
  |none=>rw [hk] at hu;simp at hu;subst hu;simp [Value.ownBlock]
  |some u'=>rw [hk] at hu;simp at hu;subst hu;exact ho.2 _ _ hk
 refine⟨a6.trans h.os,a9.trans h.tape,a7.trans h.output,aE h.size a8,fun g hl h1 h2 ho=>?_,fun g hl ho=>⟨(h.off g hl ho).1,fun k' u' a0=>?_⟩⟩
 ·exact(hg g (aZ hl h.size) h1 (a2 g (h.off g hl ho))).trans (h.blk g hl h1 h2 ho)
 ·by_cases e:k'=k
  ·subst e;rw [oL] at a0;injection a0 with a0;subst a0
   rcases hv with e|⟨g',e,hge⟩
   ·rw [e];exact a2 g (h.off g hl ho)
   ·rw [e];intro e2;have e2:=aJ e2;have:=h.size;omega
  ·rw [nC e] at a0;exact(h.off g hl ho).2 _ _ a0
theorem uR (g:Nat):OffG (.slice none 0 0) [] g:=⟨by simp [Value.ownBlock],fun k u h=>by simp [aN] at h⟩
theorem XN (h:GrI base w b v L M D) {q:Nat} (hq:w.heap.size≤q):OffG v M q:=
 ⟨fun e=>by have:=(bT h.row q e).2;omega,fun k u hk e=>by have:=(bT (h.val k u hk).1 q e).2;omega⟩
theorem GK.toBelow {B:Nat} (h:GK b c wx (.slice none 0 0) [] wr v M) (h1:B≤b) (h2:B≤c) (h3:B≤wx.heap.size):Below B wx wr:=
 ⟨h.os,h.tape,h.output,h.size,fun g hg=>h.blk g (by omega) (by omega) (by omega) (uR g)⟩
theorem GrI.congr (h:GrI base w b v L M D) (e:∀k,D k=D' k):GrI base w b v L M D':=by
 have:D=D':=funext e;exact this▸h
def eS (P:List Cl):List Ind:=P.flatMap fun C=>C.h.ind::C.atoms
theorem Ar (h:P[i]?=some C):eS (P.take (i+1))=eS (P.take i)++(C.h.ind::C.atoms):=by
 unfold eS;rw [fT,h];simp
theorem zS (hF:∀C∈P,C.flt=0):(eS P).length≤P.length*10001:=by
 induction P with
 |nil=>simp [eS]
 |cons C r ih=>
  have h1:=qV (hF C (by simp));have h2:C.atoms.length≤C.b.lits.length:=HB _ _;have h3:=ih fun D hD=>hF D (by simp [hD])
  simp only [eS,oH,aK,fU] at h3 ⊢;omega
theorem EV (hF:∀C∈P,C.flt=0) (k:Ind):(aR P k).length≤P.length*10000:=by
 induction P with
 |nil=>simp [aR]
 |cons C r ih=>
  have h1:=qV (hF C (by simp));have h2:C.atoms.length≤C.b.lits.length:=HB _ _;have h3:=ih fun D hD=>hF D (by simp [hD])
  have h4:(jW k C).length≤C.atoms.length:=by unfold jW;split<;>simp
  simp only [aR,oH,aK,fU] at h3 ⊢;omega
def gW (P:List Cl) (i:Nat) (h:Ind) (A:List Ind) (k:Ind):List Ind:=aR (P.take i) k++if h=k then A else []
theorem Ci (P:List Cl) (i:Nat) (h k:Ind):gW P i h [] k=aR (P.take i) k:=by simp [gW]
theorem Cj (h:P[i]?=some C) (k:Ind):gW P i C.h.ind C.atoms k=aR (P.take (i+1)) k:=by
 rw [OK h];rfl
theorem Ch (P:List Cl) (i:Nat) (h:Ind) (A:List Ind) (x:Ind) (k:Ind):(if k=h then gW P i h A h++ [x] else gW P i h A k)=gW P i h (A++ [x]) k:=by
 by_cases e:k=h
 ·subst e;simp [gW]
 ·have:¬h=k:=fun q=>e q.symm
  simp [gW,e,this]
theorem IM {x y:Value} (hc:w.heap[c]?=some (.cells #[x,y] 168 (0,0))) (h1:u.oneCell'=true) (a4:u.cells=#[u]):
  ∃w1,(Instr.storeAt 127 (.pointer (some ⟨c,0,none⟩)) u).run Tryz.prog w= .ok () w1∧w1.heap[c]?=some (.cells #[u,y] 168 (0,0))∧w.grownBy w1 (some c)∧w1.heap.size=w.heap.size:=by
 obtain⟨i0,hi,hz1⟩:∃i,Tryz.prog.info? 127=some i∧i.size=1:=by
  have h:=show(Tryz.prog.info? 127).map (fun i=>i.size)=some 1 by kernel_rfl
  rw [rD] at h;exact h
 have hs:∀W,(Go.sizeOf 127).run Tryz.prog W= .ok 1 W:=fun W=>by simp [Go.sizeOf,typeInfo,hi,hz1]
 have ha:(Instr.sureAddr (.pointer (some ⟨c,0,none⟩))).run Tryz.prog w= .ok ⟨c,0,none⟩ w:=rfl;have a3:=AV (P:=Tryz.prog) c 0 168 [u] 0 #[x,y] w hc (by simp) (by simpa using h1);refine⟨w.setRow c #[u,y],?_,tH _ _ _ _ _ _ hc,⟨rfl,rfl,rfl,by simp [World.setRow],fun j hj a5=>wK _ _ _ _ fun(e:j=c)=>a5 (by rw [e])⟩,by simp [World.setRow]⟩;unfold Instr.storeAt;simp at a3;simp [storeVar,ha,hs,a4,a3]
end Go.Proofs.YtbdpdeonapmlgaaGreatDoor
namespace Go.Proofs
open Go.Shelf
def Tryz.sortL_ren:Go.Shelf.Ren:=⟨fun|6=>187|15=>179|14=>245|28=>240|29=>241|20=>275|21=>276|22=>277|23=>278|24=>279|25=>280|26=>281|27=>282|46=>322|47=>271|48=>272|49=>323|50=>324|57=>346|n=>n,fun|22=>127|24=>63|25=>224|3=>3|39=>211|0=>0|53=>175|55=>263|4=>4|46=>256|45=>255|50=>151|5=>5|9=>9|66=>298|70=>302|76=>346|77=>68|n=>n,fun|n=>n⟩
theorem Tryz.sortL:Go.Proofs.SlLaysF0.n6 Tryz.prog Tryz.sortL_ren:={
 mixed:=by kernel_rfl
 f6:=⟨Tryz.f187.name,by decide,Tryz.func187.trans (congrArg some (by kernel_rfl))⟩
 f14:=⟨Tryz.f245.name,by decide,Tryz.func245.trans (congrArg some (by kernel_rfl))⟩
 f15:=Tryz.func179.trans (congrArg some (by kernel_rfl))
 f20:=⟨Tryz.f275.name,by decide,Tryz.func275.trans (congrArg some (by kernel_rfl))⟩
 f21:=⟨Tryz.f276.name,by decide,Tryz.func276.trans (congrArg some (by kernel_rfl))⟩
 f22:=⟨Tryz.f277.name,by decide,Tryz.func277.trans (congrArg some (by kernel_rfl))⟩
 f23:=⟨Tryz.f278.name,by decide,Tryz.func278.trans (congrArg some (by kernel_rfl))⟩
 f24:=⟨Tryz.f279.name,by decide,Tryz.func279.trans (congrArg some (by kernel_rfl))⟩
 f25:=⟨Tryz.f280.name,by decide,Tryz.func280.trans (congrArg some (by kernel_rfl))⟩
 f26:=⟨Tryz.f281.name,by decide,Tryz.func281.trans (congrArg some (by kernel_rfl))⟩
 f27:=⟨Tryz.f282.name,by decide,Tryz.func282.trans (congrArg some (by kernel_rfl))⟩
 f28:=Tryz.func240.trans (congrArg some (by kernel_rfl))
 f29:=Tryz.func241.trans (congrArg some (by kernel_rfl))
 f46:=⟨Tryz.f322.name,by decide,Tryz.func322.trans (congrArg some (by kernel_rfl))⟩
 f47:=Tryz.func271.trans (congrArg some (by kernel_rfl))
 f48:=Tryz.func272.trans (congrArg some (by kernel_rfl))
 f49:=⟨Tryz.f323.name,by decide,Tryz.func323.trans (congrArg some (by kernel_rfl))⟩
 f50:=⟨Tryz.f324.name,by decide,Tryz.func324.trans (congrArg some (by kernel_rfl))⟩
 f57:=⟨Tryz.f346.name,by decide,Tryz.func346.trans (congrArg some (by kernel_rfl))⟩
 t0:=Tryz.underlying0
 a0:=Tryz.isAgg0
 z0:=Tryz.sizeOf0
 v0:=Tryz.zeroValue0
 t3:=Tryz.underlying3
 a3:=Tryz.isAgg3
 z3:=Tryz.sizeOf3
 v3:=Tryz.zeroValue3
 t4:=Tryz.underlying4
 a4:=Tryz.isAgg4
 z4:=Tryz.sizeOf4
 v4:=Tryz.zeroValue4
 t5:=Tryz.underlying5
 a5:=Tryz.isAgg5
 z5:=Tryz.sizeOf5
 v5:=Tryz.zeroValue5
 t9:=Tryz.underlying9
 a9:=Tryz.isAgg9
 z9:=Tryz.sizeOf9
 v9:=Tryz.zeroValue9
 t22:=Tryz.underlying127
 a22:=Tryz.isAgg127
 z22:=Tryz.sizeOf127
 v22:=Tryz.zeroValue127
 t25:=Tryz.underlying224
 a25:=Tryz.isAgg224
 z25:=Tryz.sizeOf224
 v25:=Tryz.zeroValue224
 t39:=Tryz.underlying211
 a39:=Tryz.isAgg211
 z39:=Tryz.sizeOf211
 v39:=Tryz.zeroValue211
 t45:=Tryz.underlying255
 a45:=Tryz.isAgg255
 z45:=Tryz.sizeOf255
 v45:=Tryz.zeroValue255
 t46:=Tryz.underlying256
 a46:=Tryz.isAgg256
 z46:=Tryz.sizeOf256
 v46:=Tryz.zeroValue256
 t50:=Tryz.underlying151
 a50:=Tryz.isAgg151
 z50:=Tryz.sizeOf151
 v50:=Tryz.zeroValue151
 t53:=Tryz.underlying175
 a53:=Tryz.isAgg175
 z53:=Tryz.sizeOf175
 v53:=Tryz.zeroValue175
 t55:=Tryz.underlying263
 a55:=Tryz.isAgg263
 z55:=Tryz.sizeOf263
 v55:=Tryz.zeroValue263
 t66:=Tryz.underlying298
 a66:=Tryz.isAgg298
 z66:=Tryz.sizeOf298
 v66:=Tryz.zeroValue298
 t70:=Tryz.underlying302
 a70:=Tryz.isAgg302
 z70:=Tryz.sizeOf302
 v70:=Tryz.zeroValue302
 t76:=Tryz.underlying346
 a76:=Tryz.isAgg346
 z76:=Tryz.sizeOf346
 v76:=Tryz.zeroValue346
 t77:=Tryz.underlying68
 a77:=Tryz.isAgg68
 z77:=Tryz.sizeOf68
 v77:=Tryz.zeroValue68 }
end Go.Proofs
namespace Go.Proofs.YtbdpdeonapmlgaaGreatDoor
open Go.RowKit Go.Sort Go.RowsK
theorem LK (x y:Ind):ltOf nZ x y=true↔iN x y:=by
 unfold ltOf;rw [decide_eq_true_iff];exact Dg
theorem DQ (x y:Ind):ltOf nZ x y=false↔¬iN x y:=by
 rw [←LK];cases ltOf nZ x y<;>simp
theorem swoI:SWO (ltOf nZ) where
 irrefl x:=by rw [DQ];exact ZV x
 trans x y z h1 h2:=by rw [LK] at*;exact MQ h1 h2
 ntrans x y z h1 h2:=by
  rw [DQ] at*;intro h;rcases ZU x y with h3|h3|h3
  ·exact h1 h3
  ·subst h3;exact h2 h
  ·exact h2 (MQ h3 h)
theorem zJ (x:Ind):(aP x).length=2:=rfl
theorem NK:∀(X:List Ind) (j c:Nat) (x:Ind),X[j]?=some x→c<2→(X.flatMap aP)[j*2+c]?=(aP x)[c]?
 | [],j,c,x,h,_=>by simp at h
 |y::X,0,c,x,h,hc=>by
  obtain rfl:y=x:=by simpa using h
  rw [oH,rE,cG,eG (by rw [zJ];exact hc)]
 |y::X,j+1,c,x,h,hc=>by
  have ih:=NK X j c x (by simpa using h) hc;rw [oH,dO (by rw [zJ];omega),zJ,←ih];congr 1;omega
instance:Inhabited Ind:=⟨(⟨#[]⟩,0)⟩
theorem NJ (X:List Ind):flatK aP 2 X.toArray=(X.flatMap aP).toArray:=by
 refine ext_get! (by simp only [size_flatK,tP,flat_len]) fun t ht=>?_
 have a9:t<X.length*2:=by simpa using ht
 rw [get_flatK _ _ _ t (by simpa using a9)];have hj:t/2<X.length:=by omega
 have h:=NK X (t/2) (t%2) X[t/2] (aL hj) (by omega);rw [show t/2*2+t%2=t by omega] at h;have hl:t<(X.flatMap aP).length:=by rw [flat_len];exact a9
 rw [tI X.toArray (t/2) (by simpa using hj),tI (X.flatMap aP).toArray t (by simpa using hl)];rw [aL hl] at h;have hc:t%2<(aP (X[t/2])).length:=by rw [zJ];omega
 rw [aL hc] at h;simp only [List.getElem_toArray];rw [tI (aP (X[t/2])) (t%2) hc];exact(aJ h).symm
theorem Dd (blk off size:Nat) (w:World):CmpLays Tryz.prog 188 #[] aP 2 nZ blk off size w:=
 fun _ _ _ _ x y=>Df x.1 y.1 x.2 y.2 _
def SortJ (base:Nat) (w:World) (sv:Value) (L:List Ind) (e:Ending) (w':World):Prop:=
 e= .returned (.tuple #[])∧∃L',aD base w' sv L'∧L'.Perm L∧L'.Pairwise (fun a b=>¬iN b a)∧w.grownBy w' sv.ownBlock
theorem UL (p:Option Addr) (cap:Nat) (fv:Value) (w:World):Calls Tryz.prog 187 #[.slice p 0 cap,fv] w fun e w'=>e= .returned (.tuple #[])∧w'=w:=
 AnyF.slices_SortFunc_none Tryz.sortL p cap fv w
theorem UM (L:List Ind) (base:Nat) (w:World) (sv:Value) (hO:aD base w sv L) (b1:L.length≤1000000000):
  Calls Tryz.prog 187 #[sv,.func (.func 188) #[] #[]] w (SortJ base w sv L):=by
 by_cases hL:L= []
 ·subst hL;obtain⟨a,c,rfl,_⟩:=hO.read;refine(UL a c _ w).mono ?_;rintro e w' ⟨rfl,rfl⟩;exact⟨rfl,[],hO,List.Perm.refl _,by simp,zQ _ _⟩
 have b8:=hO;obtain⟨h1,⟨_,h0⟩|⟨g,cap,cur,rfl,hb,hg,hn,hm,hs,ht⟩⟩:=hO
 ·exact absurd (kZ.1 h0) hL
 have a7:g<w.heap.size:=(Array.getElem?_eq_some_iff.1 hg).1;have hH:HoldsK aP 2 w g 0 L.toArray:=by
  intro j hj;rw [NJ] at hj ⊢;have a6:j<L.length*2:=by rw [tP,flat_len] at hj;exact hj
  have a5:cur[j]?=some ((L.flatMap aP).toArray[j]!):=by
   rw [←gQ,←gC a6,ht,tI _ j hj];rw [aL (by simpa using hj)];simp
  constructor
  ·simpa [World.cell?,hg] using a5
  ·simp [World.frozen?,hg]
 have a1:=AnyQ.slices_SortFunc Tryz.sortL 2 Tryz.isAgg63 Tryz.sizeOf63 aP (fun _=>rfl) (fun x v hv=>by simp [aP] at hv;rcases hv with rfl|rfl<;>rfl) nZ swoI 188 #[] g 0 cap L.toArray w (enters_of Tryz.func188 (by kernel_rfl) rfl) (Dd g 0 _ w) hH a7 (by simp;omega);rw [tP] at a1;refine a1.mono ?_;rintro e w' ⟨rfl,d',n,os,hp,hso,rfl⟩;have a3:d'.size=L.length:=by have:=hp.1;simpa using this
 have k1:HoldsK aP 2 (putRowK aP 2 (Sort.ahead w n) g 0 d') g 0 d':=holdsK_putRowK _ _ _ _ _ L.toArray _ (holdsK_ahead _ _ w n _ _ _ hH) (by simpa using a3);have b0:g<(putRowK aP 2 (Sort.ahead w n) g 0 d').heap.size:=by unfold putRowK;rw [size_putRow];exact a7
 have k2:HoldsK aP 2 (sortWorldK aP 2 w g 0 n d' os) g 0 d':=holdsK_grow _ _ _ os _ _ _ b0 k1;have b3:w.grownBy (sortWorldK aP 2 w g 0 n d' os) (some g):=by
  refine⟨rfl,rfl,rfl,?_,fun k hk b7=>?_⟩
  ·unfold sortWorldK putRowK;rw [size_grow,size_putRow];show w.heap.size≤(Sort.ahead w n).heap.size+_;simp [Sort.ahead]
  ·unfold sortWorldK putRowK putRow mapBlock grow;show(Array.modify w.heap g _++os)[k]?=_;have b6:g≠k:=fun e=>b7 (by rw [e])
   rw [Hk,if_pos (by simpa using hk),lH,if_neg b6]
 obtain⟨a0,hg',hs'⟩:∃a0,(sortWorldK aP 2 w g 0 n d' os).heap[g]?=some (.cells a0 63 (0,0))∧a0.size=cur.size:=by
  refine⟨putCells id 0 (flatK aP 2 d') cur,?_,by simp [putCells]⟩;unfold sortWorldK putRowK putRow mapBlock grow;show(Array.modify w.heap g _++os)[g]?=_;rw [Hk,if_pos (by simpa using a7),lH,if_pos rfl,hg];rfl
 refine⟨rfl,d'.toList,?_,?_,?_,b3⟩
 ·have a4:d'.toList.length=L.length:=by simpa using a3
  unfold aD;rw [a4];refine⟨by rw [flat_len,a4],.inr ⟨g,cap,a0,rfl,hb,hg',hn,hm,by rw [hs',hs],?_⟩⟩;apply SL;intro t
  by_cases a8:t<L.length*2
  ·rw [gC a8];have b2:flatK aP 2 d'=(d'.toList.flatMap aP).toArray:=by
    have:=NJ d'.toList;simpa using this
   have hc:=(k2 t (by rw [size_flatK,a3];exact a8)).1;rw [b2] at hc;have a2:t<(d'.toList.flatMap aP).length:=by rw [flat_len,a4];exact a8
   rw [tI _ t (by simpa using a2)] at hc;rw [aL a2];simpa [World.cell?,hg'] using hc
  ·rw [rL (by rw [aU];omega),rL (by rw [flat_len,a4];omega)]
 ·have h3:=hp.2.2;rw [←a3,Hl] at h3;have e2:(L.toArray.extract 0 d'.size).toList=L:=by
   rw [a3,←tP,Hl]
  rw [e2] at h3;exact h3
 ·rw [Gr];intro i j hi hj b5;have a6:j<d'.size:=by simpa using hj
  have b4:i<d'.size:=by simpa using hi
  have:=hso i j (aT _) b5 (by omega);rw [tI d' j a6,tI d' i b4] at this;simpa using (DQ _ _).1 this
end Go.Proofs.YtbdpdeonapmlgaaGreatDoor
namespace Go.Proofs.YtbdpdeonapmlgaaGreatDoor
open Go.RowKit Go.Big Go.RowsK Go.MapK
variable {D D':Ind→List Ind} {M M0 M':List (Ind × Value)} {L L':List Ind} {v v0 u v3 v5 y:Value} {wx wr w w2 w3 wb W W1 w1:World} {base gc mb q st n:Nat} {x:ByteArray} {m:Int} {T:Tm} {k:Ind}
def GSt (base mb gc:Nat) (wx:World) (v0:Value) (M0:List (Ind × Value)) (wr:World) (v:Value) (L:List Ind) (M:List (Ind × Value)) (D:Ind→List Ind):Prop:=
 GrI base wr mb v L M D∧GK mb gc wx v0 M0 wr v M∧wr.heap[gc]?=some (.cells #[v,.map (some mb)] 168 (0,0))
theorem GSt.below {m:Nat} {w':World} (h:GSt base mb gc wx v0 M0 wr v L M D) (hb:Below m wr w') (hm:wr.heap.size≤m):GSt base mb gc wx v0 M0 w' v L M D:=
 ⟨h.1.below hb hm,h.2.1.below hb hm,(hb.block gc (aZ (Array.getElem?_eq_some_iff.1 h.2.2).1 hm)).trans h.2.2⟩
theorem GSt.start (a8:((w.alloc (.cells #[.slice none 0 0,.map none] 168)).alloc (.map #[] 0)).alloc (.cells #[.slice none 0 0,.map (some (w.heap.size+1))] 168)=w1) (P:List Cl):
  GSt (w.heap.size+1+1+1) (w.heap.size+1) (w.heap.size+1+1) w1 (.slice none 0 0) [] w1 (.slice none 0 0) (eS (P.take 0)) [] (aR (P.take 0))∧Below w.heap.size w w1∧w1.heap.size=w.heap.size+1+1+1:=by
 have hs:w1.heap.size=w.heap.size+1+1+1:=by rw [←a8];simp
 have b1:=aC w (.cells #[.slice none 0 0,.map none] 168);have b2:=aC (w.alloc (.cells #[.slice none 0 0,.map none] 168)) (.map #[] 0);have b3:=aC ((w.alloc (.cells #[.slice none 0 0,.map none] 168)).alloc (.map #[] 0)) (.cells #[.slice none 0 0,.map (some (w.heap.size+1))] 168);have hm:=aS.new (kv:=aO) (w.alloc (.cells #[.slice none 0 0,.map none] 168)) 0;have hc:=heap_alloc_new ((w.alloc (.cells #[.slice none 0 0,.map none] 168)).alloc (.map #[] 0)) (.cells #[.slice none 0 0,.map (some (w.heap.size+1))] 168);have hb:Below w.heap.size w w1:=by
  rw [←a8];have b6:=b1.trans (b2.mono b1.size);exact b6.trans (b3.mono b6.size)
 refine⟨⟨⟨by simp [eS];exact aD.nil _ _,?_,by simp [aN],fun k _=>by simp [aR],by simp [aN]⟩,GK.refl _ _ _ _ _,?_⟩,hb,hs⟩
 ·rw [←a8];have:=hm.of_block (b3.block _ (by simp));simpa using this
 ·rw [←a8];simpa using hc
theorem u166:Tryz.prog.underlying 166=some (.map 63 127):=Tryz.underlying166
theorem z127:∀w,(zeroValue 127).run Tryz.prog w= .ok (.slice none 0 0) w:=fun w=>Tryz.zeroValue127 w
theorem GSt.own (h:GSt base mb gc wx v0 M0 w2 v L M D) (o:Obj):(w2.alloc o).ownsRow base 63 2 v L.length (L.flatMap aP):=
 gS h.1.row (aC w2 o) (aA _)
theorem GSt.push {w5:World} (h:GSt base mb gc wx v0 M0 w2 v L M D) (a4:mb<base) (a2:gc<base) (a6:gc≠mb) (a0:base≤w2.heap.size)
  (h5:w5.ownsRow base 63 2 v5 (L.length+1) (L.flatMap aP++ [.string x,.int .i64 m])) (hg:(w2.alloc (.cells #[.string x,.int .i64 m] 63)).grownBy w5 v.ownBlock)
  (hv:v5.ownBlock=v.ownBlock∨v5.ownBlock=some (w2.alloc (.cells #[.string x,.int .i64 m] 63)).heap.size):
  ∃w6,(Instr.storeAt 127 (.pointer (some ⟨gc,0,none⟩)) v5).run Tryz.prog w5= .ok () w6∧GSt base mb gc wx v0 M0 w6 v5 (L++ [(x,m)]) M D∧w6.heap.size=w5.heap.size:=by
 obtain⟨h1,h2,h3⟩:=h;obtain⟨g1,g2⟩:=h1.push a4 a0 h5 hg hv;have b9:=(g2.block gc a2).trans h3;obtain⟨a5,c5,e5,_⟩:=g1.row.read;obtain⟨w6,hr,hc6,hg6,hs6⟩:=IM (u:=v5) b9 (by rw [e5];rfl) (by rw [e5];rfl);refine⟨w6,hr,⟨g1.keep (fun g c0 b4=>hg6.block g b4 (fun e=>by have:=aJ e;omega)) (hg6.block mb g1.map.lt (fun e=>a6 (aJ e).symm)),(h2.push hg hv).cell hg6,hc6⟩,hs6⟩
theorem GSt.entry (h:GSt base mb gc wx v0 M0 wb v L M D) (a4:mb<base) (k:Ind):
  ∃u st wc,(aN k M).getD (.slice none 0 0)=u∧(Instr.mapEntry 166 (.map (some mb)) (aO k)).run Tryz.prog wb= .ok (.tuple #[u,.int .i64 ((st:Nat):Int)]) wc∧wb.grownBy wc (some mb)∧wc.heap.size=wb.heap.size∧StampAt aO wc mb (nW k (.slice none 0 0) M) k st∧aD base wc u (D k):=by
 obtain⟨wc,st,hr,hS,hg,hs⟩:=YT jF u166 z127 h.1.map k;refine⟨_,st,wc,rfl,hr,hg,hs,hS,?_⟩;cases hk:aN k M with
 |none=>
  rw [h.1.non k hk];exact aD.nil _ _
 |some u=>
  have ho:=(h.1.val k u hk).1;exact fK ho fun g a7=>hg.block g (bT ho g a7).2 (fun e=>by have:=(bT ho g a7).1;have:=aJ e;omega)
theorem GSt.finish {wc wd:World} (h:GSt base mb gc wx v0 M0 wb v L M D) (a4:mb<base) (a2:gc<base) (a6:gc≠mb) (a0:base≤wb.heap.size)
  (hu:(aN k M).getD (.slice none 0 0)=u) (a9:wb.grownBy wc (some mb)) (c4:wc.heap.size=wb.heap.size) (b7:StampAt aO wc mb (nW k (.slice none 0 0) M) k st) (c3:aD base wc u (D k))
  (h5:wd.ownsRow base 63 2 v5 ((D k).length+1) ((D k).flatMap aP++ [.string x,.int .i64 m])) (hg:wc.grownBy wd u.ownBlock) (hv:v5.ownBlock=u.ownBlock∨v5.ownBlock=some wc.heap.size):
  ∃we,(Instr.entryStore 166 (.map (some mb)) (.int .i64 ((st:Nat):Int)) v5).run Tryz.prog wd= .ok () we∧GSt base mb gc wx v0 M0 we v L (putM k v5 M) (fun k'=>if k'=k then D k++ [(x,m)] else D k')∧wd.heap.size=we.heap.size:=by
 obtain⟨h1,h2,h3⟩:=h;have a1:∀g,g<base→some g≠u.ownBlock:=fun g a2 e=>by have:=(bT c3 g e.symm).1;omega
 have b5:=b7.of_block (hg.block mb b7.map.lt (a1 mb a4));obtain⟨we,hr,hM,hge,hse⟩:=Bw (P:=Tryz.prog) (mt:=166) b5 v5;rw [WS] at hM;have a3:∀g,g<wb.heap.size→g≠mb→u.ownBlock≠some g→wd.heap[g]?=wb.heap[g]?:=fun g q1 q2 q3=>
  (hg.block g (by omega) (fun e=>q3 e.symm)).trans (a9.block g q1 (fun e=>q2 (aJ e)))
 have c2:wb.heap.size≤wd.heap.size:=by have:=hg.size;omega
 have b8:v5.ownBlock=u.ownBlock∨∃g,v5.ownBlock=some g∧wb.heap.size≤g:=by
  rcases hv with e|e
  ·exact .inl e
  ·exact .inr ⟨_,e,by omega⟩
 have b0:∀g,g<wd.heap.size→g≠mb→we.heap[g]?=wd.heap[g]?:=fun g q1 q2=>hge.block g q1 (fun e=>q2 (aJ e))
 have g1:=h1.pushAt a4 a0 hu h5 a3 c2 b8 hM b0;have g2:GK mb gc wx v0 M0 we v (putM k v5 M):=h2.pushAt (hge.os.trans (hg.os.trans a9.os)) (hge.tape.trans (hg.tape.trans a9.tape)) (hge.output.trans (hg.output.trans a9.output)) (by omega) hu (fun g q1 q2 q3=>(b0 g (by omega) q2).trans (a3 g q1 q2 q3)) b8;have c1:gc<wb.heap.size:=(Array.getElem?_eq_some_iff.1 h3).1;refine⟨we,hr,⟨g1,g2,?_⟩,hse.symm⟩;exact(b0 gc (by omega) a6).trans ((a3 gc c1 a6 (fun e=>a1 gc a2 e.symm)).trans h3)
theorem GSt.re (h:GSt base mb gc wx v0 M0 wr v L M D):GSt base mb gc wr v M wr v L M D:=⟨h.1,GK.refl _ _ _ _ _,h.2.2⟩
theorem GSt.trans {wq:World} {v':Value} (h:GSt base mb gc wx v0 M0 wr v L M D) (k:GSt base mb gc wr v M wq v' L' M' D'):GSt base mb gc wx v0 M0 wq v' L' M' D':=⟨k.1,h.2.1.trans k.2.1,k.2.2⟩
theorem GSt.congr (h:GSt base mb gc wx v0 M0 wr v L M D) (e:∀k,D k=D' k):GSt base mb gc wx v0 M0 wr v L M D':=⟨h.1.congr e,h.2⟩
theorem GSt.off (h:GSt base mb gc wx v0 M0 wr v L M D) {q:Nat} (hq:wr.heap.size≤q):OffG v M q:=XN h.1 hq
theorem GSt.low (h:GSt base mb gc wx v0 M0 wr v L M D) {q:Nat} (hq:q<base):OffG v M q:=
 ⟨fun e=>by have:=(bT h.1.row q e).1;omega,fun k u hk e=>by have:=(bT (h.1.val k u hk).1 q e).1;omega⟩
theorem GSt.bel {B:Nat} (h:GSt base mb gc wx v0 M0 wr v L M D) (h0:∀q,q<B→OffG v0 M0 q) (h1:B≤mb) (h2:B≤gc) (h3:B≤wx.heap.size):Below B wx wr:=
 ⟨h.2.1.os,h.2.1.tape,h.2.1.output,h.2.1.size,fun g hg=>h.2.1.blk g (by omega) (by omega) (by omega) (h0 g hg)⟩
theorem GSt.same (h:GSt base mb gc wx v0 M0 wr v L M D) {q:Nat} {o:Obj} (hq:wx.heap[q]?=some o) (hm:q≠mb) (hg:q≠gc) (ho:OffG v0 M0 q):wr.heap[q]?=some o:=
 (h.2.1.blk q (Array.getElem?_eq_some_iff.1 hq).1 hm hg ho).trans hq
theorem OutT.read2 {L:List Tm} (h:OutT n base w v L):∃a c,v= .slice a L.length c∧∀(k:Nat) T,L[k]?=some T→∃g vs,a=some ⟨g,0,none⟩∧base≤g∧g<w.heap.size∧TmV n w T vs∧∀(j:Nat) u,vs[j]?=some u→w.cell? ⟨g,k*7+j,none⟩=some u:=by
 obtain⟨X,h1,h2⟩:=h;obtain⟨a,c,rfl,hr⟩:=mD h1;refine⟨a,c,rfl,fun k T hk=>?_⟩;rcases hr with h0|⟨g,e,hb,hg,hc⟩
 ·have:=(List.getElem?_eq_some_iff.1 hk).1;omega
 ·obtain⟨vs,h3,h4⟩:=h2.get hk;exact⟨g,vs,e,hb,hg,h3,fun j u hj=>hc _ _ (h4 j u hj)⟩
theorem Fa (h1:T.kd≠1) (h2:T.kd≠2):T.atomI=none:=by
 unfold Tm.atomI;rw [if_neg h1,if_neg h2]
theorem Eu {A:Tm} (h:T.kd=1∧A=T∨T.kd=2∧T.args= [A]):T.atomI=some A.ind:=by
 unfold Tm.atomI;rcases h with⟨h1,rfl⟩|⟨h1,h2⟩
 ·rw [if_pos h1]
 ·rw [if_neg (by rw [h1];decide),if_pos h1,h2];rfl
theorem Es {LT:List Tm} {k:Nat} (h:LT[k]?=some T):(LT.take (k+1)).filterMap Tm.atomI=(LT.take k).filterMap Tm.atomI++T.atomI.toList:=by
 rw [fT,h,Gx];cases hT:T.atomI<;>simp [hT]
theorem OffG.ent (h:OffG v M q) (hu:(aN k M).getD (.slice none 0 0)=u):u.ownBlock≠some q:=by
 cases hk:aN k M with
 |none=>rw [hk] at hu;simp at hu;subst hu;simp [Value.ownBlock]
 |some u'=>rw [hk] at hu;simp at hu;subst hu;exact h.2 _ _ hk
theorem yE (h:w2.heap[w.heap.size]?=(w.alloc (.cells #[.string x,.int .i64 m] 63)).heap[w.heap.size]?):SrcAt w2 (.slice (some ⟨w.heap.size,0,none⟩) 1 1) 1 [.string x,.int .i64 m]:=.inr ⟨_,_,rfl,fun j u hj=>by
 rw [jN,cG];have hq:=heap_alloc_new w (Obj.cells #[.string x,.int .i64 m] 63);simp only [World.cell?,h,hq];simpa using hj⟩
def C14 (a b c:Nat) (w w':World):Prop:=w'.heap[a]?=w.heap[a]?∧w'.heap[b]?=w.heap[b]?∧w'.heap[c]?=w.heap[c]?
theorem GSt.turn (h:GSt base mb gc wx v0 M0 w2 v L M D) (a4:mb<base) (a2:gc<base)
  (hO:aD base w3 v3 L') (hv:v3.ownBlock=v.ownBlock) (hg:w2.grownBy w3 v.ownBlock):GrI base w3 mb v3 L' M D∧GK mb gc wx v0 M0 w3 v3 M∧w3.heap[gc]?=some (.cells #[v,.map (some mb)] 168 (0,0)):=by
 obtain⟨h1,h2,h3⟩:=h;have a1:∀g,g<base→some g≠v.ownBlock:=fun g a2 e=>by have:=(bT h1.row g e.symm).1;omega
 refine⟨⟨hO,h1.map.of_block (hg.block mb h1.map.lt (a1 mb a4)),fun k u hk=>?_,h1.non,h1.sep⟩,⟨hg.os.trans h2.os,hg.tape.trans h2.tape,hg.output.trans h2.output,aE h2.size hg.size,fun g hl q1 q2 ho=>?_,fun g hl ho=>?_⟩,?_⟩
 ·obtain⟨q1,q2⟩:=h1.val k u hk;exact⟨fK q1 fun g a7=>hg.block g (bT q1 g a7).2 (fun e=>q2 g a7 e.symm),fun g e1 e2=>q2 g e1 (hv.symm.trans e2)⟩
 ·exact(hg.block g (aZ hl h2.size) (fun e=>(h2.off g hl ho).1 e.symm)).trans (h2.blk g hl q1 q2 ho)
 ·exact⟨by rw [hv];exact(h2.off g hl ho).1,(h2.off g hl ho).2⟩
 ·exact(hg.block gc (Array.getElem?_eq_some_iff.1 h3).1 (a1 gc a2)).trans h3
theorem GSt.setv (t1:GrI base w3 mb v3 L M D) (t2:GK mb gc wx v0 M0 w3 v3 M) (t3:w3.heap[gc]?=some (.cells #[v,.map (some mb)] 168 (0,0))) (a2:gc<base) (a6:gc≠mb):
  ∃w4,(Instr.storeAt 127 (.pointer (some ⟨gc,0,none⟩)) v3).run Tryz.prog w3= .ok () w4∧GSt base mb gc wx v0 M0 w4 v3 L M D∧w4.heap.size=w3.heap.size:=by
 obtain⟨a5,c5,e5,_⟩:=t1.row.read;obtain⟨w6,hr,hc6,hg6,hs6⟩:=IM (u:=v3) t3 (by rw [e5];rfl) (by rw [e5];rfl);exact⟨w6,hr,⟨t1.keep (fun g c0 b4=>hg6.block g b4 (fun e=>by have:=aJ e;omega)) (hg6.block mb t1.map.lt (fun e=>a6 (aJ e).symm)),t2.cell hg6,hc6⟩,hs6⟩
theorem VJ {A:Addr} {x:Value} (h:(storeCells A [x,y] 0).run Tryz.prog W= .ok () W1):(Instr.storeAt 168 (.pointer (some A)) (.agg #[x,y])).run Tryz.prog W= .ok () W1:=by
 have hs:∀w,(sizeOf 168).run Tryz.prog w= .ok 2 w:=fun w=>Tryz.sizeOf168 w
 have ha:(Instr.sureAddr (.pointer (some A))).run Tryz.prog W= .ok A W:=rfl;unfold Instr.storeAt;simp [storeVar,ha,hs,Value.cells,h]
def GraphP (w:World) (P:List Cl) (e:Ending) (w':World):Prop:=
 ∃(v:Value) (b:Nat) (L:List Ind) (M:List (Ind × Value)),e= .returned (.agg #[v,.map (some b)])∧aD w.heap.size w' v (cpt L)∧L.Perm (eS P)∧L.Pairwise (fun a b=>¬iN b a)∧aS aO w' b M∧w.heap.size≤b∧
  (∀k u,aN k M=some u→aD w.heap.size w' u (aR P k))∧(∀k,aN k M=none→aR P k= [])∧Below w.heap.size w w'
end Go.Proofs.YtbdpdeonapmlgaaGreatDoor
