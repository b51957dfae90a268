/- Lemmas for the text Card; no condition. -/
import Derived.Test.YtbdpdeonapmlgaaGreatDoorAl
set_option linter.all false
set_option maxHeartbeats 8000000
set_option maxRecDepth 100000
namespace Go.Proofs.YtbdpdeonapmlgaaGreatDoor
open Go.RowKit Go.Big Go.RowsK Go.MapK
section
attribute [local go_sem] Heavy.uponW
theorem aD.some {base:Nat} {w:World} {v:Value} {L:List Ind} (h:aD base w v L) (hL:L≠ []):∃g c,v= .slice (some ⟨g,0,none⟩) L.length c∧base≤g∧g<w.heap.size:=by
 obtain⟨d8,⟨e,h0⟩|⟨g,cap,cur,e,hb,hg,_⟩⟩:=h
 ·exact absurd (lB h0) hL
 ·exact⟨g,cap,e,hb,(Array.getElem?_eq_some_iff.1 hg).1⟩
theorem aD.below {base m:Nat} {w w':World} {v:Value} {L:List Ind} (h:aD base w v L) (hb:Below m w w') (hm:w.heap.size≤m):aD base w' v L:=gS h hb hm
theorem aD.nil (base:Nat) (w:World):aD base w (.slice none 0 0) []:=oC _ _ _ _
def SortP (base:Nat) (w:World) (L:List Ind) (k:Ind) (e:Ending) (w':World):Prop:=
 ∃v' L',e= .returned v'∧aD base w' v' L'∧(L.Nodup→L'.Nodup)∧(∀x,x∈L'↔x∈L∨x=k)∧L'.length≤L.length+1∧Below w.heap.size w w'
theorem UK (L:List Ind) (x:ByteArray) (m:Int) (base:Nat) (w:World) (sv:Value) (hO:aD base w sv L) (e8:base≤w.heap.size) (c1:L.length≤1000000000):
  Calls Tryz.prog 147 #[sv,.agg #[.string x,.int .i64 m]] w (SortP base w L (x,m)):=by
 obtain⟨a,c,rfl,hV⟩:=hO.read;have b9:=aside hO;obtain⟨len,hl⟩:∃len,L.length=len:=⟨_,rfl⟩;rw [hl] at c1 b9 ⊢;have Al:=aside hl;have b0:=aC w (Obj.cells #[.string x,.int .i64 m] 63);have hq:=heap_alloc_new w (Obj.cells #[.string x,.int .i64 m] 63);obtain⟨wb,hwb⟩:∃wb,w.alloc (Obj.cells #[.string x,.int .i64 m] 63)=wb:=⟨_,rfl⟩;have e6:wb.heap.size=w.heap.size+1:=by rw [←hwb];simp
 rw [hwb] at b0 hq;have fa:Aside (∀w2,Below wb.heap.size wb w2→_):=fun(w2:World) (hb:Below wb.heap.size wb w2)=>eL ((hb.block w.heap.size (by omega)).trans hq)
 have b1:Aside (∀w2,Below wb.heap.size wb w2→Below w.heap.size w w2):=fun w2 hb=>b0.trans (hb.mono b0.size)
 have a8:Aside (base≤wb.heap.size):=by show _≤_;omega
 have x0:=(fa.out wb (aI _ _)).1;have x1:=(fa.out wb (aI _ _)).2;have d1:=EA L x m w.heap.size wb a len c hl (by omega) (hV.below b0 (aA _)) b0.size;obtain⟨F,hF⟩:∃F,gT (x,m) L=F:=⟨_,rfl⟩;rw [hF] at d1;have FA:=aside hF;clear hq e6 hl hF hV hO b0;go_enter Tryz.func147,Tryz.ntmps147
 go_upto_region 1 with fail
 clear hwb
 go_wp2_with (go_at_call 146;with_reducible refine d1.mono ?_)
 rintro e w2 ⟨rfl,hb2⟩;have e2:Below wb.heap.size wb w2:=hb2;clear d1 hb2 x0 x1;cases F
 case true=>
  have hP:Aside (SortP base w L (x,m) (.returned (.slice a len c)) w2):=⟨_,L,rfl,b9.out.below (b1.out w2 e2) (aA _),id,fun y=>by
   constructor
   ·exact .inl
   ·rintro(h|rfl)
    ·exact h
    ·exact mF.1 FA.out,by omega,b1.out w2 e2⟩
  go_wp2
  go_ret
  exact hP.out
 have d9:Aside ((x,m)∉L):=sE.1 FA.out;have x0:=(fa.out w2 e2).1;have x1:=(fa.out w2 e2).2
 go_upto_region 3 with fail
 have fd:Below wb.heap.size wb w2.drew:=e2.trans (dI _ _);have a5:Aside (∀w3,Below wb.heap.size wb w3→SrcAt w3 (.slice a len c) len (L.flatMap aP)):=fun w3 hb=>rS (show w3.ownsRow base 63 2 (.slice a len c) len (L.flatMap aP) by have:=b9.out.below (b1.out w3 hb) (aA _);unfold aD at this;rw [Al.out] at this;exact this)
 have b4:len+1≤maxLen∧(len+1)*24≤140737488355328:=by unfold maxLen;omega
 have a2:0+len≤maxLen∧(0+len)*24≤140737488355328:=by unfold maxLen;omega
 have c9:(L.flatMap aP).length=len*2:=by rw [flat_len,Al.out]
 have c8:=zT L;have a4:∀u∈([.string x,.int .i64 m]:List Value),u.oneCell'=true:=by simp [Value.oneCell']
 refine Heavy.region_plan (fun w'=>Below wb.heap.size wb w') 5 (Heavy.lights [0,2] (.two 1 3 (.one 3 (.one 4 .done)) (.one 1 (.one 4 .done)))) (by kernel_rfl) (by kernel_rfl) fd ?_;simp only [Heavy.lights,bB,bJ,bF,bE]
 (apply Heavy.light_n;(exact rfl);(exact rfl);(intro a0 hw;go_simp;exact rfl));(refine Heavy.norm_a (by go_simp;exact rfl) ?_)
 (apply Heavy.light_n;(exact rfl);(exact rfl);(intro a0 hw;have z0:=(fa.out a0 hw).1;have z1:=(fa.out a0 hw).2;go_simp;exact rfl));(refine Heavy.norm_a (by go_simp;exact rfl) ?_)
 apply Heavy.two_of
 case' h1=>
  refine Heavy.one_app jV rfl rfl _ _ rfl wb.heap.size (.slice none 0 0) 0 [] rfl (oC _ _ _ _) (.slice a len c) len _ rfl (a5.out _ fd) c9 c8 a2.1 a2.2 fd.size ?_;intro v5 w5 h5 a9 _;have g5:Below wb.heap.size wb w5:=fd.trans ⟨a9.os,a9.tape,a9.output,a9.size,fun k hk=>a9.block k (aZ hk fd.size) (by simp [Value.ownBlock])⟩;refine⟨g5,?_⟩
  (refine Heavy.norm_a (by go_simp;exact rfl) ?_)
  (apply Heavy.one_n;(exact rfl);(exact rfl));go_simp
  have g6:Below wb.heap.size wb (w5.alloc (.cells #[.string x,.int .i64 m] 63)):=g5.alloc g5.size _;have d6:=aC w5 ((.cells #[.string x,.int .i64 m] 63):Obj);have e3:=heap_alloc_new w5 ((.cells #[.string x,.int .i64 m] 63):Obj);refine⟨g6,?_⟩
  (refine Heavy.norm_a (by go_simp;exact rfl) ?_)
  have h6:(w5.alloc (.cells #[.string x,.int .i64 m] 63)).ownsRow wb.heap.size 63 2 v5 len (L.flatMap aP):=by
   have:=gS h5 d6 (aA _);simpa using this
  have c3:SrcAt (w5.alloc (.cells #[.string x,.int .i64 m] 63)) (.slice (some ⟨w5.heap.size,0,none⟩) 1 1) 1 [.string x,.int .i64 m]:=.inr ⟨_,_,rfl,fun j u hj=>by
   rw [jN,cG];simp only [World.cell?,e3];simpa using hj⟩
  refine Heavy.one_app jV rfl rfl _ _ rfl wb.heap.size v5 len _ rfl h6 (.slice (some ⟨w5.heap.size,0,none⟩) 1 1) 1 _ rfl c3 rfl a4 b4.1 b4.2 g6.size ?_;intro v7 w7 h7 b5 _;have g7:Below wb.heap.size wb w7:=g6.grown b5 g6.size fun k hk=>(h6.lt k hk).1
 case' h2=>
  (apply Heavy.one_n;(exact rfl);(exact rfl));go_simp
  have g5:Below wb.heap.size wb (w2.alloc (.cells #[.string x,.int .i64 m] 63)).drew:=(e2.alloc e2.size _).trans (dI _ _);have e1:(w2.alloc (.cells #[.string x,.int .i64 m] 63)).drew.heap[w2.heap.size]?=some (.cells #[.string x,.int .i64 m] 63):=heap_alloc_new w2 ((.cells #[.string x,.int .i64 m] 63):Obj);have e4:(w2.alloc (.cells #[.string x,.int .i64 m] 63)).drew.heap.size=w2.heap.size+1:=by show(w2.alloc (.cells #[.string x,.int .i64 m] 63)).heap.size=_;rw [cT]
  refine⟨g5,?_⟩
  (refine Heavy.norm_a (by go_simp;exact rfl) ?_)
  refine Heavy.one_app jV rfl rfl _ _ rfl wb.heap.size (.slice none 0 0) 0 [] rfl (oC _ _ _ _) (.slice a len c) len _ rfl (a5.out _ g5) c9 c8 a2.1 a2.2 g5.size ?_;intro v6 w6 d4 a7 _;have g6:Below wb.heap.size wb w6:=g5.trans ⟨a7.os,a7.tape,a7.output,a7.size,fun k hk=>a7.block k (aZ hk g5.size) (by simp [Value.ownBlock])⟩;refine⟨g6,?_⟩
  (refine Heavy.norm_a (by go_simp;exact rfl) ?_)
  have h6:w6.ownsRow wb.heap.size 63 2 v6 len (L.flatMap aP):=by simpa using d4
  have c3:SrcAt w6 (.slice (some ⟨w2.heap.size,0,none⟩) 1 1) 1 [.string x,.int .i64 m]:=.inr ⟨_,_,rfl,fun j u hj=>by
   rw [jN,cG];simp only [World.cell?,(a7.block w2.heap.size (by rw [e4];omega) (by simp [Value.ownBlock])).trans e1];simpa using hj⟩
  refine Heavy.one_app jV rfl rfl _ _ rfl wb.heap.size v6 len _ rfl h6 (.slice (some ⟨w2.heap.size,0,none⟩) 1 1) 1 _ rfl c3 rfl a4 b4.1 b4.2 g6.size ?_;intro v7 w7 h7 b5 _;have g7:Below wb.heap.size wb w7:=g6.grown b5 g6.size fun k hk=>(h6.lt k hk).1
 all_goals
  have b8:aD wb.heap.size w7 v7 (L++ [(x,m)]):=by
   unfold aD;rw [aK,BI,Al.out];simpa [aP] using h7
  have el:(L++ [(x,m)]).length=len+1:=by rw [aK,Al.out];rfl
  obtain⟨g,c7,hv7,hgb,_⟩:=b8.some (by simp);rw [el] at hv7;subst hv7;refine⟨g7,?_⟩
  (refine Heavy.norm_a (by go_simp;exact rfl) ?_)
  apply Heavy.plan_end;show wpList _ _ _ _ _ _;have d5:=aside b8;have c5:=aside el;have d7:=aside hgb;clear el b8 h7 h6 b5 hgb;have a3:Aside (∀(w8:World) (P:List Ind),aD wb.heap.size w8 (.slice (some ⟨g,0,none⟩) (len+1) c7) P→P.Perm (L++ [(x,m)])→Below wb.heap.size wb w8→SortP base w L (x,m) (.returned (.slice (some ⟨g,0,none⟩) (len+1) c7)) w8):=by
   show∀w8 P,_;intro w8 P q1 q2 q3;refine⟨_,P,rfl,iZ q1 a8.out,fun hn=>?_,fun y=>?_,(by rw [q2.length_eq,c5.out,Al.out];exact aA _),b1.out _ q3⟩
   ·rw [q2.nodup_iff,tR];exact⟨hn,by simp,fun a ha b hb e=>by simp at hb;subst hb;subst e;exact d9.out ha⟩
   ·rw [q2.mem_iff];simp
  have f6:IntKind.i64.wrap ((len:Int)+1-1)=(len:Int):=by rw [aG];omega
  go_wp2
  go_loopw [6] (fun s6 wr=>∃i:Nat,s6= .int .i64 i∧i≤len∧∃P,aD wb.heap.size wr (.slice (some ⟨g,0,none⟩) (len+1) c7) P∧P.Perm (L++ [(x,m)])∧Below wb.heap.size wb wr) (fun s _=>(intOf s).toNat)
  case atStart=>exact⟨len,by simp,aA _,_,d5.out,List.Perm.refl _,g7⟩
  case round=>
   obtain⟨wo,rfl⟩:∃wo,wo=wr:=⟨_,rfl⟩;obtain⟨i,rfl,hi,P,hP,hperm,hB⟩:=hrel;have b3:=hperm.length_eq;rw [c5.out] at b3;rcases rH i with rfl|e0
   ·have hR:=a3.out wo.drew P (hP.below (dI wo.heap.size wo) (aA _)) hperm (hB.trans (dI _ _));have c0:Aside _:=hR;clear hP hperm b3 hR
    go_upto_region 5 with fail
    have a6:Below wo.heap.size wo wo.drew:=dI _ _;refine Heavy.region_plan (fun w'=>Below wo.heap.size wo w') 13 (Heavy.lights [0,1,2,3,4,5,6,7,8,9,10,11] (.one 12 .done)) (by kernel_rfl) (by kernel_rfl) a6 ?_;simp only [Heavy.lights,bB,bJ,bF,bE]
    iterate 3 ((apply Heavy.light_n;(exact rfl);(exact rfl);(intro a0 hw;go_simp;exact rfl));(refine Heavy.norm_a (by go_simp;exact rfl) ?_))
    iterate 9 ((apply Heavy.light_skip;(exact rfl);(go_simp));(refine Heavy.norm_a (by go_simp;exact rfl) ?_))
    (refine Heavy.one_skip rfl (by go_simp) a6 ?_);(refine Heavy.norm_a (by go_simp;exact rfl) ?_)
    apply Heavy.plan_end;show wpList _ _ _ _ _ _;go_wp2
    go_ret
    exact c0.out
   ·obtain⟨j,rfl⟩:∃j,i=j+1:=⟨i-1,by omega⟩;obtain⟨⟨y1,m1⟩,hI1⟩:∃I,P[j+1]?=some I:=⟨P[j+1]'(by omega),aL _⟩;obtain⟨⟨y0,m0⟩,hI0⟩:∃I,P[j]?=some I:=⟨P[j]'(by omega),aL _⟩;have b7:Aside (∀w2,Below wo.heap.size wo w2→w2.cell? ⟨g,(j+1)*2,none⟩=some (.string y1)∧w2.cell? ⟨g,(j+1)*2+1,none⟩=some (.int .i64 m1)):=fun w2 hb=>(hP.below hb (aA _)).cells hI1
    have b6:Aside (∀w2,Below wo.heap.size wo w2→w2.cell? ⟨g,j*2,none⟩=some (.string y0)∧w2.cell? ⟨g,j*2+1,none⟩=some (.int .i64 m0)):=fun w2 hb=>(hP.below hb (aA _)).cells hI0
    have a1:=aside5 hP hperm b3 hI1 hI0;have c4:Aside (∀w2,_):=fun w2=>Eo y1 y0 m1 m0 w2
    have e9:((j:Int)+1)<(len:Int)+1:=by omega
    have f0:(0:Int)≤(j:Int)+1:=by omega
    have f1:(j:Int)<(len:Int)+1:=by omega
    have f2:(0:Int)<(j:Int)+1:=by omega
    have f3:((j:Int)+1).toNat=j+1:=by omega
    have f5:IntKind.i64.wrap (j:Int)=(j:Int):=by rw [aG];omega
    have f4:(0:Int)≤(j:Int):=by omega
    clear hP hperm b3 hI1 hI0
    go_upto_region 5 with fail
    have a6:Below wo.heap.size wo wo.drew:=dI _ _;refine Heavy.region_plan (fun w'=>Below wo.heap.size wo w') 13 (Heavy.lights [0,1,2,3,4,5,6,7,8,9,10,11] (.one 12 .done)) (by kernel_rfl) (by kernel_rfl) a6 ?_;simp only [Heavy.lights,bB,bJ,bF,bE]
    iterate 3 ((apply Heavy.light_n;(exact rfl);(exact rfl);(intro a0 hw;go_simp;exact rfl));(refine Heavy.norm_a (by go_simp;exact rfl) ?_))
    iterate 3 ((apply Heavy.light_step;(exact rfl);(go_simp);(intro a0 hw;go_simp;exact rfl));(refine Heavy.norm_a (by go_simp;exact rfl) ?_))
    (apply Heavy.light_step;(exact rfl);(go_simp);(intro a0 hw;have z0:=(b7.out a0 hw).1;have z1:=(b7.out a0 hw).2;go_simp;exact rfl));(refine Heavy.norm_a (by go_simp;exact rfl) ?_)
    iterate 4 ((apply Heavy.light_step;(exact rfl);(go_simp);(intro a0 hw;go_simp;exact rfl));(refine Heavy.norm_a (by go_simp;exact rfl) ?_))
    (apply Heavy.light_step;(exact rfl);(go_simp);(intro a0 hw;have z0:=(b6.out a0 hw).1;have z1:=(b6.out a0 hw).2;go_simp;exact rfl));(refine Heavy.norm_a (by go_simp;exact rfl) ?_)
    (apply Heavy.one_step;(exact rfl);(go_simp));go_simp
    refine(c4.out _).mono ?_;rintro e w8 ⟨⟨bb,rfl⟩,hb8⟩;have f8:Below wo.heap.size wo w8:=a6.trans (hb8.mono a6.size);refine⟨_,rfl,f8,?_⟩
    (refine Heavy.norm_a (by go_simp;exact rfl) ?_)
    apply Heavy.plan_end;show wpList _ _ _ _ _ _;cases bb
    ·have hR:=a3.out w8 P (a1.out.1.below f8 (aA _)) a1.out.2.1 (hB.trans (f8.mono hB.size));have c0:Aside _:=hR;clear hR a3;go_wp2
     go_ret
     exact c0.out
    ·have f9:Below wo.heap.size wo w8.drew:=f8.trans (dI _ _);have b2:=a1.out.1.below f9 (aA _);obtain⟨z2,z3⟩:=b2.cells a1.out.2.2.2.1;obtain⟨z0,z1⟩:=b2.cells a1.out.2.2.2.2;obtain⟨w9,hst1,hP9,hg9,hz9⟩:=b2.store (i:=j+1) (J:=(y0,m0)) a1.out.2.2.1 (by omega);obtain⟨e7,hst2,hP10,hg10,hz10⟩:=hP9.store (i:=j) (J:=(y1,m1)) (by rw [BF];exact a1.out.2.2.1) (by omega);have d0:((P.set (j+1) (y0,m0)).set j (y1,m1)).Perm (L++ [(x,m)]):=(UD a1.out.2.2.2.2 a1.out.2.2.2.1).trans a1.out.2.1;have c2:=d7.out;have c6:Below wb.heap.size wb e7:=((hB.trans (f9.mono hB.size)).grown hg9 (by have:=f9.size;have:=hB.size;omega) (fun k hk=>by cases hk;exact c2)).grown hg10 (by have:=f9.size;have:=hB.size;omega) (fun k hk=>by cases hk;exact c2);have hE:=aside3 hP10 d0 c6;have d2:=CD hst1;have d3:=CD hst2;clear b2 hst1 hP9 hg9 hz9 hst2 hP10 hg10 hz10 d0 c2 c6 a3 c4 b6 b7
     go_upto_region 7 with fail
     refine Heavy.region_switch (fun w'=>w'=w8.drew) (fun _=>True) 17 15 [.both 0,.both 1,.both 2,.both 3,.both 4,.both 5,.both 6,.both 7,.both 8,.pre 9,.both 10,.both 11,.both 12,.pre 13,.both 14,.sw,.both 16] (by kernel_rfl) (by kernel_rfl) rfl ?_;simp only [bB,bJ,bF,bE,gZ]
     iterate 15 ((first|(apply Heavy.pre_step;(exact rfl);(exact rfl);(intro a0 hw;subst hw;go_simp;exact rfl))|(apply Heavy.both_step;(exact rfl);(exact rfl);(intro a0;go_simp;exact rfl)));(refine norm_s (by go_simp;exact rfl) ?_))
     refine UE (.pointer (some ⟨g,(j+1)*2,none⟩)) (.agg #[.string y0,.int .i64 m0]) rfl rfl 63 _ _ rfl rfl rfl d2 trivial ?_;apply Heavy.both_step
     ·exact rfl
     ·exact rfl
     ·intro a0
      go_simp
      exact rfl
     apply Heavy.switch_end;show wpList _ _ _ _ _ _;refine lJ rfl 63 _ _ rfl (v:=.pointer (some ⟨g,j*2,none⟩)) (u:=.agg #[.string y1,.int .i64 m1]) rfl rfl d3 ?_;clear d2 d3 z0 z1 z2 z3;go_wp2;go_roundw
     case rel=>exact⟨j,by simp,by omega,_,hE.out⟩
     case measure=>simp [intOf]
end
theorem WW (C:Cl) (n:Nat) (w:World) (vs:List Value) (h:ClV n w C vs) (hn:n≤w.heap.size) (hN:C.h.nodes+C.b.nodes≤20000):
  Calls Tryz.prog 182 #[.agg vs.toArray] w fun e w'=>e= .returned (.bool C.numB)∧Below w.heap.size w w':=by
 obtain⟨vh,vb,rfl,h1,h2⟩:=h;obtain⟨th,tb,vars⟩:=C;dsimp only at h1 h2 hN ⊢;have c6:=aside h1;have c7:=aside h2;obtain⟨R,hR⟩:∃R,Tm.frL [th,tb] []=R:=⟨_,rfl⟩;have b2:Cl.num ⟨th,tb,vars⟩↔(∀(j:Nat) x,R[j]?=some x→x=j)∧(R.length:Int)=vars:=by rw [←hR];rfl
 have b6:Tm.free (.mk 5 0 ⟨#[120]⟩ false [] [] [th,tb])=R:=by rw [OR,hR]
 have d4:R.length≤20000:=by
  rw [←hR];have:=(qJ [th,tb] []).1;simp [Tm.nodesL] at this;omega
 have b7:Tm.nodes (.mk 5 0 ⟨#[120]⟩ false [] [] [th,tb])≤1000000:=by rw [OQ];omega
 obtain⟨NB,hNB⟩:∃b,Cl.numB ⟨th,tb,vars⟩=b:=⟨_,rfl⟩;have a8:Aside (NB=true↔(∀(j:Nat) x,R[j]?=some x→x=j)∧(R.length:Int)=vars):=by
  show _↔_;rw [←hNB,←b2];simp [Cl.numB]
 rw [hNB];have hV:Aside (∀w2 w3,Below w.heap.size w w2→Below w2.heap.size w2 w3→w3.heap[w2.heap.size]?=some (.cells (vh++vb).toArray 48)→TmV (w2.heap.size+1) w3 (.mk 5 0 ⟨#[120]⟩ false [] [] [th,tb]) [.int .i64 5,.int .i64 0,.string ⟨#[120]⟩,.bool false,.slice none 0 0,.slice none 0 0,.slice (some ⟨w2.heap.size,0,none⟩) 2 2]):=
  fun w2 w3 b5 a0 hq=>OS (aE hn b5.size) (TmV.below b5 hn _ _ c6.out) (TmV.below b5 hn _ _ c7.out) a0 hq
 obtain⟨TT,hTT⟩:∃t,Tm.mk 5 0 ⟨#[120]⟩ false [] [] [th,tb]=t:=⟨_,rfl⟩;rw [hTT] at b6 b7 hV;have dF:Aside (∀(n':Nat) (w2:World) (us:List Value),TmV n' w2 TT us→n'≤w2.heap.size→Calls Tryz.prog 132 #[.agg us.toArray] w2 (FreeP w2 R)):=fun n' w2 us hv d6=>by rw [←b6];exact WY TT n' w2 us hv d6 b7
 clear hTT b6 b7 hNB b2 hR c6 c7 hN;obtain⟨k1,v1,nm1,g1,c3,b3,a6⟩:=th;obtain⟨k2,v2,nm2,g2,c4,b4,a7⟩:=tb;simp only [TmV] at h1 h2;obtain⟨_,_,a1,c1,rfl,⟨⟨p1,q1,rfl,_⟩,⟨p2,q2,rfl,_⟩⟩,_⟩:=h1;obtain⟨_,_,a2,c2,rfl,⟨⟨p3,q3,rfl,_⟩,⟨p4,q4,rfl,_⟩⟩,_⟩:=h2;generalize a6.length=l1 at*;generalize c3.length=n1 at*;generalize b3.length=n2 at*;generalize a7.length=l2 at*;generalize c4.length=n3 at*;generalize b4.length=n4 at*;have b0:=aC w (Obj.cells #[.int .i64 k1,.int .i64 v1,.string nm1,.bool g1,.slice p1 n1 q1,.slice p2 n2 q2,.slice a1 l1 c1,.int .i64 k2,.int .i64 v2,.string nm2,.bool g2,.slice p3 n3 q3,.slice p4 n4 q4,.slice a2 l2 c2,.int .i64 vars] 50);have hq:=heap_alloc_new w (Obj.cells #[.int .i64 k1,.int .i64 v1,.string nm1,.bool g1,.slice p1 n1 q1,.slice p2 n2 q2,.slice a1 l1 c1,.int .i64 k2,.int .i64 v2,.string nm2,.bool g2,.slice p3 n3 q3,.slice p4 n4 q4,.slice a2 l2 c2,.int .i64 vars] 50);obtain⟨wb,hwb⟩:∃wb,w.alloc (Obj.cells #[.int .i64 k1,.int .i64 v1,.string nm1,.bool g1,.slice p1 n1 q1,.slice p2 n2 q2,.slice a1 l1 c1,.int .i64 k2,.int .i64 v2,.string nm2,.bool g2,.slice p3 n3 q3,.slice p4 n4 q4,.slice a2 l2 c2,.int .i64 vars] 50)=wb:=⟨_,rfl⟩;have d7:wb.heap.size=w.heap.size+1:=by rw [←hwb];simp
 rw [hwb] at b0 hq;obtain⟨x0,x1,x2,x3,x4,x5,x6,x7,x8,x9,x10,x11,x12,x13,c5⟩:=jX hq;have b1:=aC wb (Obj.cells #[.int .i64 k1,.int .i64 v1,.string nm1,.bool g1,.slice p1 n1 q1,.slice p2 n2 q2,.slice a1 l1 c1,.int .i64 k2,.int .i64 v2,.string nm2,.bool g2,.slice p3 n3 q3,.slice p4 n4 q4,.slice a2 l2 c2] 48);have d0:=heap_alloc_new wb (Obj.cells #[.int .i64 k1,.int .i64 v1,.string nm1,.bool g1,.slice p1 n1 q1,.slice p2 n2 q2,.slice a1 l1 c1,.int .i64 k2,.int .i64 v2,.string nm2,.bool g2,.slice p3 n3 q3,.slice p4 n4 q4,.slice a2 l2 c2] 48);have d2:Aside (∀w3,Below (wb.alloc (Obj.cells #[.int .i64 k1,.int .i64 v1,.string nm1,.bool g1,.slice p1 n1 q1,.slice p2 n2 q2,.slice a1 l1 c1,.int .i64 k2,.int .i64 v2,.string nm2,.bool g2,.slice p3 n3 q3,.slice p4 n4 q4,.slice a2 l2 c2] 48)).heap.size (wb.alloc (Obj.cells #[.int .i64 k1,.int .i64 v1,.string nm1,.bool g1,.slice p1 n1 q1,.slice p2 n2 q2,.slice a1 l1 c1,.int .i64 k2,.int .i64 v2,.string nm2,.bool g2,.slice p3 n3 q3,.slice p4 n4 q4,.slice a2 l2 c2] 48)) w3→TmV (wb.heap.size+1) w3 TT [.int .i64 5,.int .i64 0,.string ⟨#[120]⟩,.bool false,.slice none 0 0,.slice none 0 0,.slice (some ⟨wb.heap.size,0,none⟩) 2 2]):=fun w3 a0=>
  hV.out wb w3 b0 (b1.trans (a0.mono b1.size)) ((a0.block _ (by rw [cT];omega)).trans d0)
 have d3:Aside (∀w3,Below (wb.alloc (Obj.cells #[.int .i64 k1,.int .i64 v1,.string nm1,.bool g1,.slice p1 n1 q1,.slice p2 n2 q2,.slice a1 l1 c1,.int .i64 k2,.int .i64 v2,.string nm2,.bool g2,.slice p3 n3 q3,.slice p4 n4 q4,.slice a2 l2 c2] 48)).heap.size (wb.alloc (Obj.cells #[.int .i64 k1,.int .i64 v1,.string nm1,.bool g1,.slice p1 n1 q1,.slice p2 n2 q2,.slice a1 l1 c1,.int .i64 k2,.int .i64 v2,.string nm2,.bool g2,.slice p3 n3 q3,.slice p4 n4 q4,.slice a2 l2 c2] 48)) w3→w3.cell? ⟨w.heap.size,14,none⟩=some (.int .i64 vars)∧Below w.heap.size w w3):=fun w3 a0=>
  ⟨((b1.trans (a0.mono b1.size)).cell (p:=⟨w.heap.size,14,none⟩) (by show w.heap.size<_;omega)).trans c5,b0.trans ((b1.trans (a0.mono b1.size)).mono b0.size)⟩
 have b9:Aside ((wb.alloc (Obj.cells #[.int .i64 k1,.int .i64 v1,.string nm1,.bool g1,.slice p1 n1 q1,.slice p2 n2 q2,.slice a1 l1 c1,.int .i64 k2,.int .i64 v2,.string nm2,.bool g2,.slice p3 n3 q3,.slice p4 n4 q4,.slice a2 l2 c2] 48)).heap.size=wb.heap.size+1):=by show _=_;rw [cT]
 clear hq hV d0 b0 b1 d7;show Calls Tryz.prog 182 #[.agg #[.int .i64 k1,.int .i64 v1,.string nm1,.bool g1,.slice p1 n1 q1,.slice p2 n2 q2,.slice a1 l1 c1,.int .i64 k2,.int .i64 v2,.string nm2,.bool g2,.slice p3 n3 q3,.slice p4 n4 q4,.slice a2 l2 c2,.int .i64 vars]] w _;go_enter Tryz.func182,Tryz.ntmps182
 go_upto_region 1 with fail
 clear hwb
 go_wp2_with (go_at_call 137;with_reducible refine(TZ ⟨#[120]⟩ _ 2 2 (by decide) _).mono ?_)
 rintro e w3 ⟨rfl,a0⟩;have d1:=dF.out _ w3 _ (d2.out w3 a0) (by have:=a0.size;have:=b9.out;omega);replace d1:Calls Tryz.prog 132 #[.agg #[.int .i64 5,.int .i64 0,.string ⟨#[120]⟩,.bool false,.slice none 0 0,.slice none 0 0,.slice (some ⟨wb.heap.size,0,none⟩) 2 2]] w3 _:=d1;have a9:Aside (Below _ _ w3):=a0;clear a0 x0 x1 x2 x3 x4 x5 x6 x7 x8 x9 x10 x11 x12 x13 c5
 go_wp2_with (go_at_call 132;with_reducible refine d1.mono ?_)
 rintro e w4 ⟨v4,rfl,hO4,hb4⟩;have c0:=d3.out w4 (a9.out.trans (hb4.mono a9.out.size));obtain⟨pa,pc,rfl,hrd⟩:=mD hO4;obtain⟨len,hl⟩:∃len,R.length=len:=⟨_,rfl⟩;rw [hl] at hrd d4 ⊢;have Rl:=aside hl;have b8:Aside (∀(j:Nat) x,R[j]?=some x→∃g,pa=some ⟨g,0,none⟩∧w4.cell? ⟨g,j,none⟩=some (.int .i64 x)):=by
  show∀(j:Nat) x,_;intro j x hj;rcases hrd with h0|⟨g,e,_,_,hc⟩
  ·have:=(List.getElem?_eq_some_iff.1 hj).1;omega
  ·exact⟨g,e,hc j _ (by rw [jK,hj];rfl)⟩
 have c5:=c0.1;have c8:Aside (Below w.heap.size w w4):=c0.2;clear hO4 hrd hl hb4 d1 c0 dF d2 d3;go_wp2
 go_loop [15] (fun s=>∃i:Nat,s= .int .i64 i∧i≤len∧Aside (∀(j:Nat) x,j<i→R[j]?=some x→x=j)) (fun s=>len-(intOf s).toNat)
 case atStart=>exact⟨0,rfl,aT _,fun j x hj=>by omega⟩
 case round=>
  obtain⟨i,rfl,hi,hall⟩:=hrel
  by_cases d5:i<len
  ·obtain⟨x,hx⟩:∃x,R[i]?=some x:=⟨R[i]'(by rw [Rl.out];exact d5),aL _⟩;obtain⟨g,rfl,hc⟩:=b8.out i x hx;have d8:(i:Int)<(len:Int):=by omega
   have d9:(0:Int)≤(i:Int):=by omega
   have e0:IntKind.i64.wrap ((i:Int)+1)=(i:Int)+1:=by rw [aG];omega
   by_cases a4:x=i
   ·subst a4;have a3:Aside (∀(j:Nat) x,j<i+1→R[j]?=some x→x=j):=fun j x hj a5=>by
     rcases BB j i with h|h
     ·exact hall.out j x h a5
     ·obtain rfl:j=i:=by omega
      rw [hx] at a5;injection a5 with e;exact e.symm
    clear hall hx;go_wp2
    go_round
    case rel=>exact⟨i+1,by simp,by omega,a3⟩
    case measure=>simp [intOf];omega
   ·have e1:((i:Int)==x)=false:=by simpa using fun e=>a4 e.symm
    have e2:((i:Int) !=x)=true:=by simpa using fun e=>a4 e.symm
    have e3:(x==(i:Int))=false:=by simpa using a4
    have e4:(x !=(i:Int))=true:=by simpa using a4
    obtain rfl:NB=false:=by
     cases NB
     ·rfl
     ·exact absurd ((a8.out.1 rfl).1 i x hx) a4
    clear hall hx a4;go_wp2
    go_ret
    exact⟨rfl,c8.out⟩
  ·obtain rfl:i=len:=by omega
   have a3:Aside (∀(j:Nat) x,R[j]?=some x→x=j):=fun j x a5=>hall.out j x (by rw [←Rl.out];exact(List.getElem?_eq_some_iff.1 a5).1) a5
   clear hall;obtain⟨bb,hbb⟩:∃b,((i:Int)==vars)=b:=⟨_,rfl⟩;have c9:=aside hbb;obtain rfl:NB=bb:=by
    rw [iT,a8.out,←c9.out,Rl.out];simp only [rB];exact⟨fun h=>h.2,fun h=>⟨a3.out,h⟩⟩
   clear hbb;go_wp2
   go_ret
   exact⟨by first|rfl|(have:=c9.out;simp_all),c8.out⟩
theorem VX (C:Cl) (n:Nat) (w:World) (vs:List Value) (h:ClV n w C vs) (hn:n≤w.heap.size) (hN:C.h.nodes+C.b.nodes≤20000):
  Calls Tryz.prog 142 #[.agg vs.toArray] w fun e w'=>e= .returned (.bool C.numB)∧Below w.heap.size w w':=by
 obtain⟨vh,vb,rfl,h1,h2⟩:=h;obtain⟨th,tb,vars⟩:=C;dsimp only at h1 h2 hN ⊢;have c7:=aside h1;have c8:=aside h2;obtain⟨R,hR⟩:∃R,Tm.frL [th,tb] []=R:=⟨_,rfl⟩;have b2:Cl.num ⟨th,tb,vars⟩↔(∀(j:Nat) x,R[j]?=some x→x=j)∧(R.length:Int)=vars:=by rw [←hR];rfl
 have b7:Tm.free (.mk 5 0 ⟨#[99]⟩ false [] [] [th,tb])=R:=by rw [OR,hR]
 have d3:R.length≤20000:=by
  rw [←hR];have:=(qJ [th,tb] []).1;simp [Tm.nodesL] at this;omega
 have b8:Tm.nodes (.mk 5 0 ⟨#[99]⟩ false [] [] [th,tb])≤1000000:=by rw [OQ];omega
 obtain⟨NB,hNB⟩:∃b,Cl.numB ⟨th,tb,vars⟩=b:=⟨_,rfl⟩;have a3:Aside (NB=true↔(∀(j:Nat) x,R[j]?=some x→x=j)∧(R.length:Int)=vars):=by
  show _↔_;rw [←hNB,←b2];simp [Cl.numB]
 rw [hNB];have hV:Aside (∀w2 w3,Below w.heap.size w w2→Below w2.heap.size w2 w3→w3.heap[w2.heap.size]?=some (.cells (vh++vb).toArray 48)→TmV (w2.heap.size+1) w3 (.mk 5 0 ⟨#[99]⟩ false [] [] [th,tb]) [.int .i64 5,.int .i64 0,.string ⟨#[99]⟩,.bool false,.slice none 0 0,.slice none 0 0,.slice (some ⟨w2.heap.size,0,none⟩) 2 2]):=
  fun w2 w3 b6 a4 hq=>OS (aE hn b6.size) (TmV.below b6 hn _ _ c7.out) (TmV.below b6 hn _ _ c8.out) a4 hq
 obtain⟨TT,hTT⟩:∃t,Tm.mk 5 0 ⟨#[99]⟩ false [] [] [th,tb]=t:=⟨_,rfl⟩;rw [hTT] at b7 b8 hV;have dF:Aside (∀(n':Nat) (w2:World) (us:List Value),TmV n' w2 TT us→n'≤w2.heap.size→Calls Tryz.prog 102 #[.agg us.toArray] w2 (FreeP w2 R)):=fun n' w2 us hv d5=>by rw [←b7];exact WD TT n' w2 us hv d5 b8
 clear hTT b7 b8 hNB b2 hR c7 c8 hN;obtain⟨k1,v1,nm1,g1,c4,b3,a7⟩:=th;obtain⟨k2,v2,nm2,g2,c5,b4,a8⟩:=tb;simp only [TmV] at h1 h2;obtain⟨_,_,a1,c1,rfl,⟨⟨p1,q1,rfl,_⟩,⟨p2,q2,rfl,_⟩⟩,_⟩:=h1;obtain⟨_,_,a2,c2,rfl,⟨⟨p3,q3,rfl,_⟩,⟨p4,q4,rfl,_⟩⟩,_⟩:=h2;generalize a7.length=l1 at*;generalize c4.length=n1 at*;generalize b3.length=n2 at*;generalize a8.length=l2 at*;generalize c5.length=n3 at*;generalize b4.length=n4 at*;have b0:=aC w (Obj.cells #[.int .i64 k1,.int .i64 v1,.string nm1,.bool g1,.slice p1 n1 q1,.slice p2 n2 q2,.slice a1 l1 c1,.int .i64 k2,.int .i64 v2,.string nm2,.bool g2,.slice p3 n3 q3,.slice p4 n4 q4,.slice a2 l2 c2,.int .i64 vars] 50);have hq:=heap_alloc_new w (Obj.cells #[.int .i64 k1,.int .i64 v1,.string nm1,.bool g1,.slice p1 n1 q1,.slice p2 n2 q2,.slice a1 l1 c1,.int .i64 k2,.int .i64 v2,.string nm2,.bool g2,.slice p3 n3 q3,.slice p4 n4 q4,.slice a2 l2 c2,.int .i64 vars] 50);obtain⟨wb,hwb⟩:∃wb,w.alloc (Obj.cells #[.int .i64 k1,.int .i64 v1,.string nm1,.bool g1,.slice p1 n1 q1,.slice p2 n2 q2,.slice a1 l1 c1,.int .i64 k2,.int .i64 v2,.string nm2,.bool g2,.slice p3 n3 q3,.slice p4 n4 q4,.slice a2 l2 c2,.int .i64 vars] 50)=wb:=⟨_,rfl⟩;have d6:wb.heap.size=w.heap.size+1:=by rw [←hwb];simp
 rw [hwb] at b0 hq;obtain⟨x0,x1,x2,x3,x4,x5,x6,x7,x8,x9,x10,x11,x12,x13,c6⟩:=jX hq;have b1:=aC wb (Obj.cells #[.int .i64 k1,.int .i64 v1,.string nm1,.bool g1,.slice p1 n1 q1,.slice p2 n2 q2,.slice a1 l1 c1,.int .i64 k2,.int .i64 v2,.string nm2,.bool g2,.slice p3 n3 q3,.slice p4 n4 q4,.slice a2 l2 c2] 48);have c9:=heap_alloc_new wb (Obj.cells #[.int .i64 k1,.int .i64 v1,.string nm1,.bool g1,.slice p1 n1 q1,.slice p2 n2 q2,.slice a1 l1 c1,.int .i64 k2,.int .i64 v2,.string nm2,.bool g2,.slice p3 n3 q3,.slice p4 n4 q4,.slice a2 l2 c2] 48);have d0:Aside (∀w3,Below (wb.alloc (Obj.cells #[.int .i64 k1,.int .i64 v1,.string nm1,.bool g1,.slice p1 n1 q1,.slice p2 n2 q2,.slice a1 l1 c1,.int .i64 k2,.int .i64 v2,.string nm2,.bool g2,.slice p3 n3 q3,.slice p4 n4 q4,.slice a2 l2 c2] 48)).heap.size (wb.alloc (Obj.cells #[.int .i64 k1,.int .i64 v1,.string nm1,.bool g1,.slice p1 n1 q1,.slice p2 n2 q2,.slice a1 l1 c1,.int .i64 k2,.int .i64 v2,.string nm2,.bool g2,.slice p3 n3 q3,.slice p4 n4 q4,.slice a2 l2 c2] 48)) w3→TmV (wb.heap.size+1) w3 TT [.int .i64 5,.int .i64 0,.string ⟨#[99]⟩,.bool false,.slice none 0 0,.slice none 0 0,.slice (some ⟨wb.heap.size,0,none⟩) 2 2]):=fun w3 a4=>
  hV.out wb w3 b0 (b1.trans (a4.mono b1.size)) ((a4.block _ (by rw [cT];omega)).trans c9)
 have d2:Aside (∀w3,Below (wb.alloc (Obj.cells #[.int .i64 k1,.int .i64 v1,.string nm1,.bool g1,.slice p1 n1 q1,.slice p2 n2 q2,.slice a1 l1 c1,.int .i64 k2,.int .i64 v2,.string nm2,.bool g2,.slice p3 n3 q3,.slice p4 n4 q4,.slice a2 l2 c2] 48)).heap.size (wb.alloc (Obj.cells #[.int .i64 k1,.int .i64 v1,.string nm1,.bool g1,.slice p1 n1 q1,.slice p2 n2 q2,.slice a1 l1 c1,.int .i64 k2,.int .i64 v2,.string nm2,.bool g2,.slice p3 n3 q3,.slice p4 n4 q4,.slice a2 l2 c2] 48)) w3→w3.cell? ⟨w.heap.size,14,none⟩=some (.int .i64 vars)∧Below w.heap.size w w3):=fun w3 a4=>
  ⟨((b1.trans (a4.mono b1.size)).cell (p:=⟨w.heap.size,14,none⟩) (by show w.heap.size<_;omega)).trans c6,b0.trans ((b1.trans (a4.mono b1.size)).mono b0.size)⟩
 have c0:Aside ((wb.alloc (Obj.cells #[.int .i64 k1,.int .i64 v1,.string nm1,.bool g1,.slice p1 n1 q1,.slice p2 n2 q2,.slice a1 l1 c1,.int .i64 k2,.int .i64 v2,.string nm2,.bool g2,.slice p3 n3 q3,.slice p4 n4 q4,.slice a2 l2 c2] 48)).heap.size=wb.heap.size+1):=by show _=_;rw [cT]
 clear hq hV c9 b0 b1 d6;show Calls Tryz.prog 142 #[.agg #[.int .i64 k1,.int .i64 v1,.string nm1,.bool g1,.slice p1 n1 q1,.slice p2 n2 q2,.slice a1 l1 c1,.int .i64 k2,.int .i64 v2,.string nm2,.bool g2,.slice p3 n3 q3,.slice p4 n4 q4,.slice a2 l2 c2,.int .i64 vars]] w _;go_enter Tryz.func142,Tryz.ntmps142
 go_upto_region 1 with fail
 clear hwb;have d1:=dF.out _ _ _ (d0.out _ (aI _ _)) (by have:=c0.out;omega);replace d1:Calls Tryz.prog 102 #[.agg #[.int .i64 5,.int .i64 0,.string ⟨#[99]⟩,.bool false,.slice none 0 0,.slice none 0 0,.slice (some ⟨wb.heap.size,0,none⟩) 2 2]] _ _:=d1
 go_wp2_with (go_at_call 102;with_reducible refine d1.mono ?_)
 rintro e w4 ⟨v4,rfl,hO4,hb4⟩;have c3:=d2.out w4 hb4;clear x0 x1 x2 x3 x4 x5 x6 x7 x8 x9 x10 x11 x12 x13 c6;obtain⟨pa,pc,rfl,hrd⟩:=mD hO4;obtain⟨len,hl⟩:∃len,R.length=len:=⟨_,rfl⟩;rw [hl] at hrd d3 ⊢;have Rl:=aside hl;have b9:Aside (∀(j:Nat) x,R[j]?=some x→∃g,pa=some ⟨g,0,none⟩∧w4.cell? ⟨g,j,none⟩=some (.int .i64 x)):=by
  show∀(j:Nat) x,_;intro j x hj;rcases hrd with h0|⟨g,e,_,_,hc⟩
  ·have:=(List.getElem?_eq_some_iff.1 hj).1;omega
  ·exact⟨g,e,hc j _ (by rw [jK,hj];rfl)⟩
 have c6:=c3.1;have b5:Aside (Below w.heap.size w w4):=c3.2;clear hO4 hrd hl hb4 d1 c3 dF d0 d2
 by_cases a9:(len:Int)=vars
 ·subst a9;go_wp2
  go_loop [4] (fun s=>∃i:Nat,s= .int .i64 i∧i≤len∧Aside (∀(j:Nat) x,j<i→R[j]?=some x→x=j)) (fun s=>len-(intOf s).toNat)
  case atStart=>exact⟨0,rfl,aT _,fun j x hj=>by omega⟩
  case round=>
   obtain⟨i,rfl,hi,hall⟩:=hrel
   by_cases d4:i<len
   ·obtain⟨x,hx⟩:∃x,R[i]?=some x:=⟨R[i]'(by rw [Rl.out];exact d4),aL _⟩;obtain⟨g,rfl,hc⟩:=b9.out i x hx;have d7:(i:Int)<(len:Int):=by omega
    have d8:(0:Int)≤(i:Int):=by omega
    have d9:IntKind.i64.wrap ((i:Int)+1)=(i:Int)+1:=by rw [aG];omega
    by_cases a5:x=i
    ·subst a5;have a0:Aside (∀(j:Nat) x,j<i+1→R[j]?=some x→x=j):=fun j x hj a6=>by
      rcases BB j i with h|h
      ·exact hall.out j x h a6
      ·obtain rfl:j=i:=by omega
       rw [hx] at a6;injection a6 with e;exact e.symm
     clear hall hx;go_wp2
     go_round
     case rel=>exact⟨i+1,by simp,by omega,a0⟩
     case measure=>simp [intOf];omega
    ·have e1:((i:Int)==x)=false:=by simpa using fun e=>a5 e.symm
     have e2:((i:Int) !=x)=true:=by simpa using fun e=>a5 e.symm
     have e3:(x==(i:Int))=false:=by simpa using a5
     have e4:(x !=(i:Int))=true:=by simpa using a5
     obtain rfl:NB=false:=by
      cases NB
      ·rfl
      ·exact absurd ((a3.out.1 rfl).1 i x hx) a5
     clear hall hx a5;go_wp2
     go_ret
     exact⟨rfl,b5.out⟩
   ·obtain rfl:i=len:=by omega
    have a0:Aside (∀(j:Nat) x,R[j]?=some x→x=j):=fun j x a6=>hall.out j x (by rw [←Rl.out];exact(List.getElem?_eq_some_iff.1 a6).1) a6
    clear hall;obtain rfl:NB=true:=a3.out.2 ⟨a0.out,by rw [Rl.out]⟩;go_wp2
    go_ret
    exact⟨rfl,b5.out⟩
 ·have e1:((len:Int)==vars)=false:=by simpa using a9
  have e2:((len:Int) !=vars)=true:=by simpa using a9
  obtain rfl:NB=false:=by
   cases NB
   ·rfl
   ·exact absurd (by have:=(a3.out.1 rfl).2;rw [Rl.out] at this;exact this) a9
  clear a9;go_wp2
  go_ret
  exact⟨rfl,b5.out⟩
end Go.Proofs.YtbdpdeonapmlgaaGreatDoor
namespace Go.Proofs.YtbdpdeonapmlgaaGreatDoor
open Go.RowKit Go.Big
noncomputable def Tm.faultE (T:Tm):Int:=if 10000<T.nodes then 3 else T.errE
theorem Dr (T:Tm) (n:Nat) (w:World) (vs:List Value) (h:TmV n w T vs) (hn:n≤w.heap.size):
  Calls Tryz.prog 87 #[.agg vs.toArray] w fun e w'=>e= .returned (.int .i64 T.faultE)∧Below w.heap.size w w':=by
 have hs:=KC T n;have hd:=KY T n;obtain⟨F,hF⟩:∃F,T.errE=F:=⟨_,rfl⟩;have a2:Aside (T.faultE=if 10000<T.nodes then 3 else F):=by rw [←hF];rfl
 rw [hF] at hd;have h0:=h;obtain⟨k,v,nm,g,num,den,args⟩:=T;simp only [TmV] at h;obtain⟨s1,s2,a,c,rfl,⟨⟨p1,q1,rfl,_⟩,⟨p2,q2,rfl,_⟩⟩,_⟩:=h;obtain⟨N,hN⟩:∃N,Tm.nodes (.mk k v nm g num den args)=N:=⟨_,rfl⟩;obtain⟨E,hE⟩:∃E,Tm.faultE (.mk k v nm g num den args)=E:=⟨_,rfl⟩;rw [hE,hN] at a2;rw [hE];have hB:=aC w (Obj.cells #[.int .i64 k,.int .i64 v,.string nm,.bool g,.slice p1 num.length q1,.slice p2 den.length q2,.slice a args.length c] 48);have hq:=heap_alloc_new w (Obj.cells #[.int .i64 k,.int .i64 v,.string nm,.bool g,.slice p1 num.length q1,.slice p2 den.length q2,.slice a args.length c] 48);have d1:=hs (w.alloc (Obj.cells #[.int .i64 k,.int .i64 v,.string nm,.bool g,.slice p1 num.length q1,.slice p2 den.length q2,.slice a args.length c] 48)) _ 10000 (by omega) (TmV.below hB hn _ _ h0) (aE hn hB.size);have d2:∀w2,Below w.heap.size w w2→_:=fun w2 hb=>hd w2 _ (TmV.below hb hn _ _ h0) (aE hn hb.size)
 rw [hN] at d1;replace d1:Calls Tryz.prog 152 #[.agg #[.int .i64 k,.int .i64 v,.string nm,.bool g,.slice p1 num.length q1,.slice p2 den.length q2,.slice a args.length c],.int .i64 10000] _ _:=d1;replace d2:∀w2,Below w.heap.size w w2→Calls Tryz.prog 153 #[.agg #[.int .i64 k,.int .i64 v,.string nm,.bool g,.slice p1 num.length q1,.slice p2 den.length q2,.slice a args.length c]] w2 _:=d2;clear h0 hs hd hN hE hF;generalize args.length=l0 at*;generalize num.length=l1 at*;generalize den.length=l2 at*;show Calls Tryz.prog 87 #[.agg #[.int .i64 k,.int .i64 v,.string nm,.bool g,.slice p1 l1 q1,.slice p2 l2 q2,.slice a l0 c]] w _
 by_cases hb:10000<N
 ·have a1:Aside (E=3):=by show E=3;rw [a2.out,if_pos hb]
  go_enter Tryz.func87,Tryz.ntmps87
  go_wp2_with first|(go_at_call 152;(with_reducible refine d1.mono ?_);rintro e w3 ⟨r,rfl,hr,hb3⟩;obtain⟨r2,a3⟩:∃r2:Nat,r=r2∧(10000:Int)<(r2:Int):=⟨r,rfl,by omega⟩;obtain⟨rfl,hr3⟩:=a3;clear hr)
  go_ret
  rw [a1.out];exact⟨rfl,hB.trans (hb3.mono hB.size)⟩
 ·have a1:Aside (E=F):=by show E=F;rw [a2.out,if_neg hb]
  go_enter Tryz.func87,Tryz.ntmps87
  go_wp2_with first|(go_at_call 152;(with_reducible refine d1.mono ?_);rintro e w3 ⟨r,rfl,hr,hb3⟩;have a3:(r:Int)≤10000:=(by omega);have a0:=hB.trans (hb3.mono hB.size);obtain⟨y0,y1,y2,y3,y4,y5,y6⟩:=cY ((hb3.block w.heap.size (by simp)).trans hq);clear hr)|(go_at_call 153;(with_reducible refine(d2 _ a0).mono ?_);rintro e w4 ⟨rfl,hb4⟩)
  go_ret
  rw [a1.out];exact⟨rfl,a0.trans (hb4.mono a0.size)⟩
end Go.Proofs.YtbdpdeonapmlgaaGreatDoor
