/- Lemmas for the text Card; no condition. -/
import Derived.Test.YtbdpdeonapmlgaaGreatDoorAq
import Derived.Shelf.Small.Strs
set_option linter.all false
set_option maxHeartbeats 8000000
set_option maxRecDepth 100000
namespace Go.Proofs.YtbdpdeonapmlgaaGreatDoor
open Go.RowKit Go.Big Go.RowsK Go.MapK
section
attribute [local go_sem] Heavy.uponW
noncomputable def mI:List Cl→Int
 | []=>0
 |C::r=>if C.flt≠0 then C.flt else mI r
noncomputable def jQ (P:List Cl):Int:=if 300<P.length then 3 else mI P
theorem EK:∀{P:List Cl} {i:Nat} {C:Cl},P[i]?=some C→(∀D∈P.take i,D.flt=0)→C.flt≠0→mI P=C.flt
 | [],_,_,h,_,_=>by simp at h
 |D::r,0,C,h,_,hC=>by
  simp at h;subst h;rw [mI,if_pos hC]
 |D::r,i+1,C,h,hz,hC=>by
  have h0:D.flt=0:=hz D (by simp);rw [mI,if_neg (by simp [h0])];exact EK (by simpa using h) (fun E hE=>hz E (by simp [hE])) hC
theorem EJ:∀{P:List Cl},(∀D∈P,D.flt=0)→mI P=0
 | [],_=>rfl
 |D::r,h=>by
  rw [mI,if_neg (by simp [h D (by simp)])];exact EJ fun E hE=>h E (by simp [hE])
theorem WE (P:List Cl) (n:Nat) (w:World) (a:Option Addr) (len c:Nat) (hl:P.length=len) (h:ClsV n w P a) (hn:n≤w.heap.size):
  Calls Tryz.prog 28 #[.slice a len c,.slice none 0 0] w fun e w'=>e= .returned (.int .i64 (jQ P))∧Below w.heap.size w w':=by
 have Al:=aside hl;have hA:=aside2 h hn;obtain⟨FL,hFL⟩:∃f,jQ P=f:=⟨_,rfl⟩;rw [hFL];have FA:=aside hFL;clear hl h hn hFL
 by_cases b9:300<len
 case pos=>
  obtain rfl:FL=3:=by
   rw [←FA.out];unfold jQ;rw [if_pos (by rw [Al.out];exact b9)]
  have b2:(300:Int)<(len:Int):=by omega
  clear FA hA;go_enter Tryz.func28,Tryz.ntmps28;go_wp2
  go_ret
  exact⟨rfl,aI _ _⟩
 have b2:¬(300:Int)<(len:Int):=by omega
 have FB:Aside (mI P=FL):=by
  show _=_;rw [←FA.out];unfold jQ;rw [if_neg (by rw [Al.out];exact b9)]
 clear FA;go_enter Tryz.func28,Tryz.ntmps28;go_wp2
 go_loopw [5] (fun s wr=>∃i:Nat,s= .int .i64 i∧i≤len∧(∀C∈P.take i,C.flt=0)∧Below w.heap.size w wr) (fun s _=>len-(intOf s).toNat)
 case atStart=>exact⟨0,rfl,aT _,by simp,aI _ _⟩
 case round=>
  obtain⟨wo,rfl⟩:∃wo,wo=wr:=⟨_,rfl⟩;obtain⟨i,rfl,hi,hz,hB⟩:=hrel
  by_cases c9:i<len
  case pos=>
   obtain⟨C,hC⟩:∃C,P[i]?=some C:=⟨P[i]'(by rw [Al.out];exact c9),aL _⟩;obtain⟨g,off,vh,vb,rfl,hg,hc,hvh,hvb⟩:=hA.out.1.read hC;have a7:Aside (∀w2,Below w.heap.size w w2→Calls Tryz.prog 78 #[.agg (pI vh vb C.vars).toArray] w2 fun e w'=>e= .returned (.int .i64 C.flt)∧Below w2.heap.size w2 w'):=fun w2 hb=>WM C n w2 _ ⟨vh,vb,rfl,TmV.below hb hA.out.2 _ _ hvh,TmV.below hb hA.out.2 _ _ hvb⟩ (aE hA.out.2 hb.size)
   obtain⟨fl,hfl⟩:∃f,C.flt=f:=⟨_,rfl⟩;rw [hfl] at a7;have a0:=aside3 hz hC hfl;obtain⟨th,tb,vars⟩:=C;dsimp only at hc hvh hvb a7;obtain⟨k1,v1,nm1,g1,b5,b0,a5⟩:=th;obtain⟨k2,v2',nm2,g2,b6,b1,a6⟩:=tb;simp only [TmV] at hvh hvb;obtain⟨_,_,a1,c1,rfl,⟨⟨p1,q1,rfl,_⟩,⟨p2,q2,rfl,_⟩⟩,_⟩:=hvh;obtain⟨_,_,a2,c2,rfl,⟨⟨p3,q3,rfl,_⟩,⟨p4,q4,rfl,_⟩⟩,_⟩:=hvb;generalize a5.length=l1 at*;generalize b5.length=n1 at*;generalize b0.length=n2 at*;generalize a6.length=l2 at*;generalize b6.length=n3 at*;generalize b1.length=n4 at*;have c5:Aside (∀w2,Below w.heap.size w w2→_):=fun(w2:World) (hb:Below w.heap.size w w2)=>vN (hc.below hb (aZ hg hA.out.2))
   replace a7:Aside (∀w2,Below w.heap.size w w2→Calls Tryz.prog 78 #[.agg #[.int .i64 k1,.int .i64 v1,.string nm1,.bool g1,.slice p1 n1 q1,.slice p2 n2 q2,.slice a1 l1 c1,.int .i64 k2,.int .i64 v2',.string nm2,.bool g2,.slice p3 n3 q3,.slice p4 n4 q4,.slice a2 l2 c2,.int .i64 vars]] w2 fun e w'=>e= .returned (.int .i64 fl)∧Below w2.heap.size w2 w'):=a7;have c6:(i:Int)<(len:Int):=by omega
   have c7:(0:Int)≤(i:Int):=by omega
   have d1:IntKind.i64.wrap ((i:Int)+1)=(i:Int)+1:=by rw [aG];omega
   clear hc hC hA hz hfl;obtain⟨x0,x1,x2,x3,x4,x5,x6,x7,x8,x9,x10,x11,x12,x13,x14⟩:=c5.out wo hB
   go_wp2_with (go_at_call 78;with_reducible refine(a7.out _ hB).mono ?_)
   rintro e w1 ⟨rfl,hb⟩;have f1:Below w.heap.size w w1:=hB.trans (hb.mono hB.size);clear hb x0 x1 x2 x3 x4 x5 x6 x7 x8 x9 x10 x11 x12 x13 x14
   by_cases a9:fl=0
   case neg=>
    have d4:(fl !=0)=true:=by simpa using a9
    obtain rfl:FL=fl:=by
     rw [←FB.out,←a0.out.2.2];exact EK a0.out.2.1 a0.out.1 (by rw [a0.out.2.2];exact a9)
    clear a9;go_wp2
    go_ret
    exact⟨rfl,f1⟩
   subst a9;have d0:Aside (∀D∈P.take (i+1),D.flt=0):=by
    show∀D∈_,_;rw [fT,a0.out.2.1];intro D hD;rcases bX.1 hD with hD|hD
    ·exact a0.out.1 D hD
    ·simp at hD;subst hD;exact a0.out.2.2
   clear a0;go_wp2;go_roundw
   case rel=>exact⟨i+1,by simp,by omega,d0.out,f1⟩
   case measure=>simp [intOf];omega
  have c0:len=i:=by omega
  have a3:Aside (∀C∈P,C.flt=0):=by
   show∀C∈P,_;rw [←c0,←Al.out,gA] at hz;exact hz
  subst c0;have b7:Aside (Calls Tryz.prog 80 #[.slice a len c] wo (CompsP wo)):=Cv P n wo a len c Al.out (by omega) (hA.out.1.below hB hA.out.2) a3.out (aE hA.out.2 hB.size);obtain rfl:FL=0:=by rw [←FB.out];exact EJ a3.out
  clear hz hA a3 FB;go_wp2
  go_loopw [7] (fun s wr=>s= .int .i64 0∧wr=wo) (fun _ _=>0)
  case atStart=>exact⟨rfl,rfl⟩
  case round=>
   obtain⟨rfl,rfl⟩:=hrel;obtain⟨wq,hwq⟩:∃wq,wq=wr:=⟨_,rfl⟩
   go_wp2_with (go_at_call 80;with_reducible refine b7.out.mono ?_)
   rintro e w1 ⟨v9,X,LL,rfl,hR,hLl,hLb,hb⟩;have f1:Below w.heap.size w w1:=hB.trans (hb.mono hB.size);obtain⟨ac,cc,rfl,hrd⟩:=hR.read;have c3:Aside (∀(k:Nat) L,LL[k]?=some L→∃g ai ci,ac=some ⟨g,0,none⟩∧∀w2,Below w1.heap.size w1 w2→w2.cell? ⟨g,k,none⟩=some (.slice ai L.length ci)∧aD wq.heap.size w2 (.slice ai L.length ci) L):=by
    show∀(k:Nat) L,_;intro k L hk;obtain⟨g,ai,ci,h1,_,h2,h3,_,h4⟩:=hrd k L hk;rw [hwq];exact⟨g,ai,ci,h1,fun w2 b8=>⟨(b8.cell (p:=⟨g,k,none⟩) h2).trans h3,h4.below b8 (aA _)⟩⟩
   obtain⟨nc,hnc⟩:∃l,LL.length=l:=⟨_,rfl⟩;rw [hnc];have a8:=aside2 hnc hLb;have d7:nc≤900000300:=by omega
   clear hR hrd hLl hLb hb hnc b7;go_wp2
   go_loopw [10] (fun s wr=>∃i:Nat,s= .int .i64 i∧i≤nc∧Below w1.heap.size w1 wr) (fun s _=>nc-(intOf s).toNat)
   case atStart=>exact⟨0,rfl,aT _,aI _ _⟩
   case round=>
    obtain⟨w2,rfl⟩:∃w2,w2=wr:=⟨_,rfl⟩;obtain⟨i,rfl,hi,hBi⟩:=hrel
    by_cases b3:i<nc
    case neg=>
     obtain rfl:i=nc:=by omega
     go_wp2
     go_ret
     exact⟨rfl,f1.trans (hBi.mono f1.size)⟩
    obtain⟨L,hL⟩:∃L,LL[i]?=some L:=⟨LL[i]'(by rw [a8.out.1];exact b3),aL _⟩;have c4:=a8.out.2 L (aX hL);obtain⟨g9,ai,ci,rfl,hr9⟩:=c3.out i L hL;obtain⟨nl,hnl⟩:∃l,L.length=l:=⟨_,rfl⟩;rw [hnl] at hr9 c4;have a4:=aside hr9;have b4:=aside hnl;have c6:(i:Int)<(nc:Int):=by omega
    have c7:(0:Int)≤(i:Int):=by omega
    have d1:IntKind.i64.wrap ((i:Int)+1)=(i:Int)+1:=by rw [aG];omega
    clear hL hr9 hnl c3;go_wp2
    go_loopw [11,12] (fun d2 d3 wr=>∃j:Nat,d2= .bool false∧d3= .int .i64 j∧j≤nl∧Below w1.heap.size w1 wr) (fun _ s _=>nl-(intOf s).toNat)
    case atStart=>exact⟨0,rfl,rfl,aT _,hBi⟩
    case round=>
     obtain⟨w3,rfl⟩:∃w3,w3=wr:=⟨_,rfl⟩;obtain⟨j,rfl,rfl,hj,hBj⟩:=hrel;have y9:=(a4.out w3 hBj).1
     by_cases c8:j<nl
     case neg=>
      obtain rfl:j=nl:=by omega
      go_wp2;go_roundw
      case rel=>exact⟨i+1,by simp,by omega,hBj⟩
      case measure=>simp [intOf];omega
     obtain⟨⟨z,r⟩,hZ⟩:∃Z,L[j]?=some Z:=⟨L[j]'(by rw [b4.out];exact c8),aL _⟩;obtain⟨g8,c8',he,_,_⟩:=(a4.out w3 hBj).2.some (by intro e;subst e;simp at hZ);injection he with he1 he2 he3
     subst he1;obtain⟨z0,z1⟩:=(a4.out w3 hBj).2.cells hZ;dsimp only at z0 z1;have dm:Aside (Calls Tryz.prog 81 #[.slice none 0 0,.agg #[.string z,.int .i64 r]] w3 fun e w'=>e= .returned (.int .i64 0)∧Below w3.heap.size w3 w'):=YM z r w3;have d5:(j:Int)<(nl:Int):=by omega
     have d6:(0:Int)≤(j:Int):=by omega
     have d8:IntKind.i64.wrap ((j:Int)+1)=(j:Int)+1:=by rw [aG];omega
     clear hZ he2 he3
     go_wp2_with (go_at_call 81;with_reducible refine dm.out.mono ?_)
     rintro e w4 ⟨rfl,hb⟩;have f4:Below w1.heap.size w1 w4:=hBj.trans (hb.mono hBj.size);clear hb;go_wp2;go_roundw
     case rel=>exact⟨j+1,by simp,by simp,by omega,f4⟩
     case measure=>simp [intOf];omega
end
section
attribute [local go_sem] Heavy.uponW
theorem KE (C:Cl):jQ [C]=C.flt:=by
 unfold jQ;rw [if_neg (by simp)];simp only [mI];split
 ·rfl
 ·rename_i h;have:C.flt=0:=by simpa using h
  exact this.symm
theorem OX {n:Nat} {w w':World} {C:Cl} {vs:List Value} (h:ClV n w C vs) (hn:n≤w.heap.size) (hb:Below w.heap.size w w') (hq:w'.heap[w.heap.size]?=some (.cells vs.toArray 50)):ClsV (w.heap.size+1) w' [C] (some ⟨w.heap.size,0,none⟩):=fun k D hk=>by
 have b4:k=0:=by
  have:=(List.getElem?_eq_some_iff.1 hk).1;simp at this;exact this
 subst b4;simp at hk;subst hk;refine⟨_,0,vs,rfl,by omega,fun j u hj=>?_,?_⟩
 ·simp only [World.cell?,rE,fP,cG,hq];simpa using hj
 ·obtain⟨vh,vb,e,h1,h2⟩:=h;exact⟨vh,vb,e,TmV.up (by omega) _ _ (TmV.below hb hn _ _ h1),TmV.up (by omega) _ _ (TmV.below hb hn _ _ h2)⟩
theorem ZB (C:Cl) (n:Nat) (w:World) (vs:List Value) (h:ClV n w C vs) (hn:n≤w.heap.size):
  Calls Tryz.prog 19 #[.agg vs.toArray] w fun e w'=>e= .returned (.int .i64 C.flt)∧Below w.heap.size w w':=by
 have hC:=h;obtain⟨FL,hFL⟩:∃f,C.flt=f:=⟨_,rfl⟩;obtain⟨vh,vb,rfl,h1,h2⟩:=h;have a8:Aside (ClV n w C (pI vh vb C.vars)∧jQ [C]=FL):=⟨hC,(KE C).trans hFL⟩;rw [hFL];clear hC hFL;obtain⟨th,tb,vars⟩:=C;dsimp only at h1 h2 a8;obtain⟨k1,v1,nm1,g1,a6,a4,a0⟩:=th;obtain⟨k2,v2,nm2,g2,a7,a5,a3⟩:=tb;simp only [TmV] at h1 h2;obtain⟨_,_,a1,c1,rfl,⟨⟨p1,q1,rfl,_⟩,⟨p2,q2,rfl,_⟩⟩,_⟩:=h1;obtain⟨_,_,a2,c2,rfl,⟨⟨p3,q3,rfl,_⟩,⟨p4,q4,rfl,_⟩⟩,_⟩:=h2;obtain⟨Cc,hCc⟩:∃x,Cl.mk (.mk k1 v1 nm1 g1 a6 a4 a0) (.mk k2 v2 nm2 g2 a7 a5 a3) vars=x:=⟨_,rfl⟩;rw [hCc] at a8;clear hCc;generalize a0.length=l1 at*;generalize a6.length=n1 at*;generalize a4.length=n2 at*;generalize a3.length=l2 at*;generalize a7.length=n3 at*;generalize a5.length=n4 at*;have a9:=aside a8;clear a8;have b0:=aC w (Obj.cells #[.int .i64 k1,.int .i64 v1,.string nm1,.bool g1,.slice p1 n1 q1,.slice p2 n2 q2,.slice a1 l1 c1,.int .i64 k2,.int .i64 v2,.string nm2,.bool g2,.slice p3 n3 q3,.slice p4 n4 q4,.slice a2 l2 c2,.int .i64 vars] 50);have hq:=heap_alloc_new w (Obj.cells #[.int .i64 k1,.int .i64 v1,.string nm1,.bool g1,.slice p1 n1 q1,.slice p2 n2 q2,.slice a1 l1 c1,.int .i64 k2,.int .i64 v2,.string nm2,.bool g2,.slice p3 n3 q3,.slice p4 n4 q4,.slice a2 l2 c2,.int .i64 vars] 50);obtain⟨wb,hwb⟩:∃wb,w.alloc (Obj.cells #[.int .i64 k1,.int .i64 v1,.string nm1,.bool g1,.slice p1 n1 q1,.slice p2 n2 q2,.slice a1 l1 c1,.int .i64 k2,.int .i64 v2,.string nm2,.bool g2,.slice p3 n3 q3,.slice p4 n4 q4,.slice a2 l2 c2,.int .i64 vars] 50)=wb:=⟨_,rfl⟩;have b5:wb.heap.size=w.heap.size+1:=by rw [←hwb];simp
 rw [hwb] at b0 hq;obtain⟨x0,x1,x2,x3,x4,x5,x6,x7,x8,x9,x10,x11,x12,x13,x14⟩:=jX hq;have b1:=aC wb (Obj.cells #[.int .i64 k1,.int .i64 v1,.string nm1,.bool g1,.slice p1 n1 q1,.slice p2 n2 q2,.slice a1 l1 c1,.int .i64 k2,.int .i64 v2,.string nm2,.bool g2,.slice p3 n3 q3,.slice p4 n4 q4,.slice a2 l2 c2,.int .i64 vars] 50);have b3:=heap_alloc_new wb (Obj.cells #[.int .i64 k1,.int .i64 v1,.string nm1,.bool g1,.slice p1 n1 q1,.slice p2 n2 q2,.slice a1 l1 c1,.int .i64 k2,.int .i64 v2,.string nm2,.bool g2,.slice p3 n3 q3,.slice p4 n4 q4,.slice a2 l2 c2,.int .i64 vars] 50);have dF:Aside (Calls Tryz.prog 28 #[.slice (some ⟨wb.heap.size,0,none⟩) 1 1,.slice none 0 0] (wb.alloc (Obj.cells #[.int .i64 k1,.int .i64 v1,.string nm1,.bool g1,.slice p1 n1 q1,.slice p2 n2 q2,.slice a1 l1 c1,.int .i64 k2,.int .i64 v2,.string nm2,.bool g2,.slice p3 n3 q3,.slice p4 n4 q4,.slice a2 l2 c2,.int .i64 vars] 50)) fun e w'=>e= .returned (.int .i64 FL)∧Below w.heap.size w w'):=by
  have hv:ClV n wb Cc [.int .i64 k1,.int .i64 v1,.string nm1,.bool g1,.slice p1 n1 q1,.slice p2 n2 q2,.slice a1 l1 c1,.int .i64 k2,.int .i64 v2,.string nm2,.bool g2,.slice p3 n3 q3,.slice p4 n4 q4,.slice a2 l2 c2,.int .i64 vars]:=a9.out.1.below b0 hn;refine(WE [Cc] (wb.heap.size+1) _ _ 1 1 rfl (OX hv (aE hn b0.size) b1 b3) (by rw [cT];exact aA _)).mono ?_;rintro e w' ⟨rfl,hb⟩;refine⟨by rw [a9.out.2],?_⟩;have b2:=b0.trans (b1.mono b0.size);exact b2.trans (hb.mono b2.size)
 clear hq b5 b0 b1 b3 a9;show Calls Tryz.prog 19 #[.agg #[.int .i64 k1,.int .i64 v1,.string nm1,.bool g1,.slice p1 n1 q1,.slice p2 n2 q2,.slice a1 l1 c1,.int .i64 k2,.int .i64 v2,.string nm2,.bool g2,.slice p3 n3 q3,.slice p4 n4 q4,.slice a2 l2 c2,.int .i64 vars]] w _;go_enter Tryz.func19,Tryz.ntmps19
 go_upto_region 1 with fail
 clear hwb
 go_wp2_with (go_at_call 28;with_reducible refine dF.out.mono ?_;rintro e w2 ⟨rfl,hb⟩)
 go_ret
 exact⟨rfl,hb⟩
end
theorem CK {fn:Func} {p q:Tmp} (h:fn.results=#[.cell p 48,.tmp q]) (tmps:Array Value) (w:World) (g:Nat) (t:TypeId) (cs:Array Value) (fr:Nat × Nat) (v:Value)
  (hp:tmps.getD p undef= .pointer (some ⟨g,0,none⟩)) (hg:w.heap[g]?=some (.cells cs t fr)) (hl:cs.size=7) (hq:tmps.getD q undef=v):
  (results fn tmps).run Tryz.prog w= .ok (.tuple #[.agg cs,v]) w:=by
 have a1:tmps[p]?.getD undef= .pointer (some ⟨g,0,none⟩):=by simpa using hp
 have a2:tmps[q]?.getD undef=v:=by simpa using hq
 have hi:(Tryz.prog.info? 48).map (·.size)=some cs.size:=by rw [hl];kernel_rfl
 simp [results,h,a1,a2,asAddr,run_loadVar_row w g t 48 cs fr _ hg Tryz.underlying48 rfl hi]
theorem xD {w:World} {g:Nat} {t:TypeId} {cs:Array Value} {vs:List Value} (hg:w.heap[g]?=some (.cells cs t (0,0))) (hl:vs.length=cs.size) (h1:∀v∈vs,v.oneCell'=true):
  ∃w1,(storeCells ⟨g,0,none⟩ vs 0).run Tryz.prog w= .ok () w1∧w1.heap[g]?=some (.cells vs.toArray t (0,0))∧w.grownBy w1 (some g)∧w1.heap.size=w.heap.size:=by
 refine⟨_,run_storeCells_from (P:=Tryz.prog) g t vs 0 cs w hg (by simp;omega) h1,?_,⟨rfl,rfl,rfl,by simp [World.setRow],fun k hk a0=>wK _ _ _ _ fun e=>a0 (by rw [e])⟩,by simp [World.setRow]⟩;have:=tH w g cs vs.toArray t (0,0) hg;simpa using this
theorem xL {W W1:World} {A:Addr} {v0 v1 v2 v3 v4 v5 v6:Value} (h:(storeCells A [v0,v1,v2,v3,v4,v5,v6] 0).run Tryz.prog W= .ok () W1):(Instr.storeAt 48 (.pointer (some A)) (.agg #[v0,v1,v2,v3,v4,v5,v6])).run Tryz.prog W= .ok () W1:=by
 have hs:∀w,(sizeOf 48).run Tryz.prog w= .ok 7 w:=fun w=>Tryz.sizeOf48 w
 have ha:(Instr.sureAddr (.pointer (some A))).run Tryz.prog W= .ok A W:=rfl;unfold Instr.storeAt;simp [storeVar,ha,hs,Value.cells,h]
section
attribute [local go_sem] Heavy.uponW
def zTL:List Value:=[.int .i64 0,.int .i64 0,.string ⟨#[]⟩,.bool false,.slice none 0 0,.slice none 0 0,.slice none 0 0]
def AtomP (n:Nat) (w:World) (T:Tm) (e:Ending) (w':World):Prop:=
 ∃us b,e= .returned (.tuple #[.agg (us:List Value).toArray,.bool b])∧(b=false→T.kd≠1∧T.kd≠2∧us=zTL)∧(b=true→∃A,(T.kd=1∧A=T∨T.kd=2∧T.args= [A])∧TmV n w' A us)∧Below w.heap.size w w'
theorem Et (T:Tm) (n:Nat) (w:World) (vs:List Value) (h:TmV n w T vs) (hn:n≤w.heap.size):
  Calls Tryz.prog 186 #[.agg vs.toArray] w (AtomP n w T):=by
 have dk:Aside (∀w2,Below w.heap.size w w2→Calls Tryz.prog 64 #[.agg vs.toArray] w2 fun e w'=>e= .returned (.int .i64 T.kd)∧Below w2.heap.size w2 w'):=fun w2 hb=>MC T n w2 vs (TmV.below hb hn _ _ h) (aE hn hb.size)
 obtain⟨K,hK⟩:∃x,T.kd=x:=⟨_,rfl⟩;have a1:=aside hK;rw [hK] at dk;have hT:=h;have b5:=MI (T:=T);obtain⟨k,v,nm,g,num,den,args⟩:=T;simp only [TmV] at h;obtain⟨_,_,a,c,rfl,⟨⟨p1,q1,rfl,_⟩,⟨p2,q2,rfl,_⟩⟩,hS,_⟩:=h;have b2:Aside (cR n w args a 0∧(K=2→∃A,args= [A])):=⟨hS,fun e=>b5 (hK.trans e)⟩;have a3:Aside (TmV n w (Tm.mk k v nm g num den args) _):=hT;clear b5 hT;obtain⟨len,hl⟩:∃x,args.length=x:=⟨_,rfl⟩;have Al:=aside hl;rw [hl] at dk a3 ⊢;generalize num.length=n1 at*;generalize den.length=n2 at*;replace dk:Aside (∀w2,Below w.heap.size w w2→Calls Tryz.prog 64 #[.agg #[.int .i64 k,.int .i64 v,.string nm,.bool g,.slice p1 n1 q1,.slice p2 n2 q2,.slice a len c]] w2 fun e w'=>e= .returned (.int .i64 K)∧Below w2.heap.size w2 w'):=dk;replace a3:Aside (TmV n w (Tm.mk k v nm g num den args) [.int .i64 k,.int .i64 v,.string nm,.bool g,.slice p1 n1 q1,.slice p2 n2 q2,.slice a len c]):=a3;obtain⟨TT,hTT⟩:∃x,Tm.mk k v nm g num den args=x:=⟨_,rfl⟩;rw [hTT] at a3 a1 ⊢;have b9:Aside (TT.args=args):=by show _=_;rw [←hTT];rfl
 clear hS hK hl hTT;have b0:=aC w (Obj.cells #[.int .i64 k,.int .i64 v,.string nm,.bool g,.slice p1 n1 q1,.slice p2 n2 q2,.slice a len c] 48);have hq:=heap_alloc_new w (Obj.cells #[.int .i64 k,.int .i64 v,.string nm,.bool g,.slice p1 n1 q1,.slice p2 n2 q2,.slice a len c] 48);obtain⟨wb,hwb⟩:∃wb,w.alloc (Obj.cells #[.int .i64 k,.int .i64 v,.string nm,.bool g,.slice p1 n1 q1,.slice p2 n2 q2,.slice a len c] 48)=wb:=⟨_,rfl⟩;have b7:wb.heap.size=w.heap.size+1:=by rw [←hwb];simp
 rw [hwb] at b0 hq;show Calls Tryz.prog 186 #[.agg #[.int .i64 k,.int .i64 v,.string nm,.bool g,.slice p1 n1 q1,.slice p2 n2 q2,.slice a len c]] w _;go_enter Tryz.func186,Tryz.ntmps186
 go_upto_region 1 with fail
 have b1:=aC wb (Obj.cells #[.int .i64 0,.int .i64 0,.string ⟨#[]⟩,.bool false,.slice none 0 0,.slice none 0 0,.slice none 0 0] 48);have a8:=heap_alloc_new wb (Obj.cells #[.int .i64 0,.int .i64 0,.string ⟨#[]⟩,.bool false,.slice none 0 0,.slice none 0 0,.slice none 0 0] 48);obtain⟨wc,hwc⟩:∃wc,wb.alloc (Obj.cells #[.int .i64 0,.int .i64 0,.string ⟨#[]⟩,.bool false,.slice none 0 0,.slice none 0 0,.slice none 0 0] 48)=wc:=⟨_,rfl⟩;have c0:wc.heap.size=w.heap.size+2:=by rw [←hwc,cT];omega
 rw [hwc] at b1 a8 ⊢;have f1:Below w.heap.size w wc:=b0.trans (b1.mono b0.size);have fa:Aside (∀w2,Below wc.heap.size wc w2→_):=fun(w2:World) (hb:Below wc.heap.size wc w2)=>cY (((hb.block w.heap.size (by omega)).trans (b1.block w.heap.size (by omega))).trans hq)
 have fz:Aside (∀w2,Below wc.heap.size wc w2→w2.heap[w.heap.size+1]?=some (.cells #[.int .i64 0,.int .i64 0,.string ⟨#[]⟩,.bool false,.slice none 0 0,.slice none 0 0,.slice none 0 0] 48)):=fun(w2:World) (hb:Below wc.heap.size wc w2)=>(hb.block (w.heap.size+1) (by omega)).trans (by rw [←b7];exact a8)
 clear hwb hwc hq a8 b7;obtain⟨x0,x1,x2,x3,x4,x5,x6⟩:=fa.out wc (aI _ _)
 go_wp2_with (go_at_call 64;with_reducible refine(dk.out _ f1).mono ?_)
 rintro e w2 ⟨rfl,hb2⟩;clear x0 x1 x2 x3 x4 x5 x6;obtain⟨x0,x1,x2,x3,x4,x5,x6⟩:=fa.out w2 hb2;have z0:=fz.out w2 hb2
 by_cases h1:K=1
 case pos=>
  subst h1;obtain⟨w3,hst,hq3,hg3,hs3⟩:=xD (vs:=[.int .i64 k,.int .i64 v,.string nm,.bool g,.slice p1 n1 q1,.slice p2 n2 q2,.slice a len c]) z0 rfl (by simp [Value.oneCell']);have b3:Below w.heap.size w w3:=(f1.trans (hb2.mono f1.size)).grown hg3 (by have:=hb2.size;omega) (by intro k hk;injection hk with hk;omega);have hR:=aside2 hq3 b3;have a4:=xL hst;clear hst hq3 hg3 b3
  go_upto_region 3 with fail
  refine iP ?_
  iterate 1 (refine eV rfl fun K hK=>?_;go_simp;refine hK _ _ ?_;clear hK)
  refine lJ rfl 48 _ _ rfl (v:=.pointer (some ⟨w.heap.size+1,0,none⟩)) (u:=.agg #[.int .i64 k,.int .i64 v,.string nm,.bool g,.slice p1 n1 q1,.slice p2 n2 q2,.slice a len c]) rfl rfl a4 ?_;go_wp2;refine kW (CK rfl _ _ (w.heap.size+1) 48 _ _ _ rfl hR.out.1 rfl rfl) rfl ?_;exact⟨_,true,rfl,by simp,fun _=>⟨TT,.inl ⟨a1.out,rfl⟩,TmV.below hR.out.2 hn _ _ a3.out⟩,hR.out.2⟩
 by_cases h2:K=2
 case pos=>
  subst h2;obtain⟨A,hA⟩:=b2.out.2 rfl;have hS:=b2.out.1;have a7:=Al.out;have a6:=b9.out;rw [hA] at hS a7 a6;obtain rfl:len=1:=by rw [←a7];rfl
  simp only [cR] at hS;obtain⟨⟨b,off,us,rfl,hbn,hc,hv⟩,_⟩:=hS;have b8:=aside2 hv a6;have⟨k2,v2,nm2,g2,a9,a5,a0⟩:=A;simp only [TmV] at hv;obtain⟨_,_,a2,c2,rfl,⟨⟨p3,q3,rfl,_⟩,⟨p4,q4,rfl,_⟩⟩,_⟩:=hv;generalize a0.length=len2 at*;generalize a9.length=n3 at*;generalize a5.length=n4 at*;have b4:Below w.heap.size w w2:=f1.trans (hb2.mono f1.size);obtain⟨y0,y1,y2,y3,y4,y5,y6⟩:=jP (w2:=w2) (fun p hp=>(b4.mono hn).cell (hp▸hbn)) (by simpa using hc);clear hc a7 a6 hA b4;obtain⟨w3,hst,hq3,hg3,hs3⟩:=xD (vs:=[.int .i64 k2,.int .i64 v2,.string nm2,.bool g2,.slice p3 n3 q3,.slice p4 n4 q4,.slice a2 len2 c2]) z0 rfl (by simp [Value.oneCell']);have b3:Below w.heap.size w w3:=(f1.trans (hb2.mono f1.size)).grown hg3 (by have:=hb2.size;omega) (by intro k hk;injection hk with hk;omega);have hR:=aside2 hq3 b3;have a4:=xL hst;clear hst hq3 hg3 b3
  go_upto_region 5 with fail
  refine iP ?_
  iterate 4 (refine eV rfl fun K hK=>?_;go_simp;refine hK _ _ ?_;clear hK)
  refine lJ rfl 48 _ _ rfl (v:=.pointer (some ⟨w.heap.size+1,0,none⟩)) (u:=.agg #[.int .i64 k2,.int .i64 v2,.string nm2,.bool g2,.slice p3 n3 q3,.slice p4 n4 q4,.slice a2 len2 c2]) rfl rfl a4 ?_;go_wp2;refine kW (CK rfl _ _ (w.heap.size+1) 48 _ _ _ rfl hR.out.1 rfl rfl) rfl ?_;exact⟨_,true,rfl,by simp,fun _=>⟨_,.inr ⟨a1.out,b8.out.2⟩,TmV.below hR.out.2 hn _ _ b8.out.1⟩,hR.out.2⟩
 have c1:(K==1)=false:=by simpa using h1
 have c3:(K==2)=false:=by simpa using h2
 have b6:=aside2 h1 h2;clear h1 h2;obtain⟨w3,hst,hq3,hg3,hs3⟩:=xD (vs:=[.int .i64 0,.int .i64 0,.string ⟨#[]⟩,.bool false,.slice none 0 0,.slice none 0 0,.slice none 0 0]) z0 rfl (by simp [Value.oneCell']);have b3:Below w.heap.size w w3:=(f1.trans (hb2.mono f1.size)).grown hg3 (by have:=hb2.size;omega) (by intro k hk;injection hk with hk;omega);have hR:=aside2 hq3 b3;have a4:=xL hst;clear hst hq3 hg3 b3
 go_upto_region 6 with fail
 refine iP ?_
 iterate 1 (refine eV rfl fun K hK=>?_;go_simp;refine hK _ _ ?_;clear hK)
 refine lJ rfl 48 _ _ rfl (v:=.pointer (some ⟨w.heap.size+1,0,none⟩)) (u:=.agg #[.int .i64 0,.int .i64 0,.string ⟨#[]⟩,.bool false,.slice none 0 0,.slice none 0 0,.slice none 0 0]) rfl rfl a4 ?_;go_wp2;refine kW (CK rfl _ _ (w.heap.size+1) 48 _ _ _ rfl hR.out.1 rfl rfl) rfl ?_;exact⟨zTL,false,rfl,fun _=>⟨by rw [a1.out];exact b6.out.1,by rw [a1.out];exact b6.out.2,rfl⟩,by simp,hR.out.2⟩
end
end Go.Proofs.YtbdpdeonapmlgaaGreatDoor
namespace Go.MapK
open Go.RowKit
variable {w w':World} {b st j:Nat}
variable {κ:Type} [DecidableEq κ] {P:Program} {kt mt vt:TypeId} {kv:κ→Value}
def StampAt (kv:κ→Value) (w:World) (b:Nat) (M:List (κ × Value)) (k:κ) (st:Nat):Prop:=
 ∃es a0,w.heap[b]?=some (.map es a0)∧MapIs kv M es a0∧∃j e,bI k M=some j∧es[j]?=some e∧e.born=st
theorem StampAt.of_block {M:List (κ × Value)} {k:κ} (h:StampAt kv w b M k st) (e:w'.heap[b]?=w.heap[b]?):StampAt kv w' b M k st:=by
 obtain⟨es,c,h1,h2⟩:=h;exact⟨es,c,e.trans h1,h2⟩
theorem StampAt.map {M:List (κ × Value)} {k:κ} (h:StampAt kv w b M k st):aS kv w b M:=by
 obtain⟨es,c,h1,h2,_⟩:=h;exact⟨es,c,h1,h2⟩
def nW (k:κ) (z:Value) (M:List (κ × Value)):List (κ × Value):=if bI k M=none then M++ [(k,z)] else M
theorem MR {k:κ} {z:Value}:∀{M:List (κ × Value)},bI k M=none→bI k (M++ [(k,z)])=some M.length
 | [],_=>by simp [bI]
 | p::M,h=>by
  by_cases hk:k=p.1
  ·simp [bI,hk] at h
  ·have h1:bI k M=none:=by simpa [bI,hk] using h
   simp [bI,hk,MR h1]
theorem WS {k:κ} {z v:Value} {M:List (κ × Value)}:putM k v (nW k z M)=putM k v M:=by
 unfold nW;split
 ·rename_i h;rw [uM h]
  induction M with
  |nil=>simp [putM]
  | cons p M ih=>
   by_cases hk:k=p.1
   ·simp [bI,hk] at h
   ·have h1:bI k M=none:=by simpa [bI,hk] using h
    simp [putM,hk,ih h1]
 ·rfl
theorem YT (K:KL P kt kv) (hu:P.underlying mt=some (.map kt vt)) {z:Value} (hz:∀w,(zeroValue vt).run P w= .ok z w) {w:World} {b:Nat} {M:List (κ × Value)} (h:aS kv w b M) (k:κ):
  ∃w' st,(Instr.mapEntry mt (.map (some b)) (kv k)).run P w= .ok (.tuple #[(aN k M).getD z,.int .i64 (st:Nat)]) w'∧StampAt kv w' b (nW k z M) k st∧w.grownBy w' (some b)∧w'.heap.size=w.heap.size:=by
 obtain⟨es,a0,hb,hM⟩:=h;have b5:(Go.underlying mt).run P w= .ok (.map kt vt) w:=dV hu w;have a7:b<w.heap.size:=(Array.getElem?_eq_some_iff.1 hb).1;have a1:∀o,(setObj b o).run P w= .ok () { w with heap:=w.heap.setIfInBounds b o }:=fun o=>by simp [setObj,Sem.run,hb]
 have a4:∀o,({ w with heap:=w.heap.setIfInBounds b o }:World).heap[b]?=some o:=fun o=>by simp [a7]
 have a5:∀o,w.grownBy { w with heap:=w.heap.setIfInBounds b o } (some b):=fun o=>⟨rfl,rfl,rfl,by simp,fun k hk a9=>by
  have:b≠k:=fun e=>a9 (by rw [e])
  simp [lG,this]⟩
 have a6:∀o,({ w with heap:=w.heap.setIfInBounds b o }:World).heap.size=w.heap.size:=fun o=>by simp
 unfold Instr.mapEntry;simp only [aY,b5,Result.andThen,run_getMap hb,bZ,K.check,K.find k w M _ hM.rel];cases hi:bI k M with
 | none=>
  have hl:=hM.rel.length;rw [cV] at hl;have he:nW k z M=M++ [(k,z)]:=by unfold nW;rw [if_pos hi]
  refine⟨_,a0,?_,⟨_,_,a4 (.map (es.push { key:=kv k,val:=z,born:=a0 }) (a0+1)),?_,M.length,{ key:=kv k,val:=z,born:=a0 },?_,?_,rfl⟩,a5 _,a6 _⟩
  ·simp [a1,hz,sL.1 hi,goInt,Result.andThen]
  ·rw [he];refine⟨?_,?_,?_,?_⟩
   ·simpa using EsR.append a0 hM.rel
   ·rw [mZ,tR];refine⟨hM.nodup,by simp,?_⟩;intro a ha c hc e;obtain⟨p,hp,rfl⟩:=dG.1 ha;simp at hc;exact vG.1 hi p hp (by rw [e,hc])
   ·rw [HH,GZ];exact⟨hM.borns,by simp,fun x hx y hy=>by simp at hy;subst hy;exact hM.lt x hx⟩
   ·intro e he;rw [HH,bX] at he;rcases he with he|he
    ·have:=hM.lt e he;omega
    ·simp at he;subst he;show a0<a0+1;omega
  ·rw [he];exact MR hi
  ·rw [←hl];simp
 | some j=>
  obtain⟨v0,hv0⟩:=HZ hi;obtain⟨e0,he0,hk0⟩:=hM.rel.key hi;have a3:es[j]?=some e0:=by rw [←gQ];exact he0
  have b4:∀w,(Instr.keyThatStays (kv k) (kv k)).run P w= .ok (kv k) w:=fun w=>by
   unfold Instr.keyThatStays;rw [K.bits k];simp
  have a2:(es.modify j fun e=>{ e with key:=kv k })=es:=by
   apply rO;intro i;rw [lH];split
   ·rename_i e;subst e;rw [a3];simp [←hk0]
   ·rfl
  have he:nW k z M=M:=by unfold nW;rw [if_neg (by rw [hi];simp)]
  refine⟨_,e0.born,?_,⟨_,_,a4 (.map (es.modify j fun e=>{ e with key:=kv k }) a0),?_,j,e0,?_,?_,rfl⟩,a5 _,a6 _⟩
  ·simp [hv0,a3,hk0,b4,a1,goInt,Result.andThen]
  ·rw [he,a2];exact hM
  ·rw [he];exact hi
  ·rw [a2];exact a3
theorem Bf {es:Array MapEntry} {e:MapEntry} (hp:es.toList.Pairwise fun x y=>x.born<y.born) (he:es[j]?=some e):es.findIdx? (fun x=>(x.born:Int)==(e.born:Nat))=some j:=by
 have hj:j<es.size:=(Array.getElem?_eq_some_iff.1 he).1;have b1:es[j]=e:=(Array.getElem?_eq_some_iff.1 he).2;rw [Array.findIdx?_eq_some_iff_getElem];refine⟨hj,by simp [b1],fun i hi=>?_⟩;rw [Gr] at hp;have:=hp i j (by simp;omega) (by simpa using hj) hi;simp only [Array.getElem_toList,b1] at this;simp;omega
theorem Bw {M:List (κ × Value)} {k:κ} (h:StampAt kv w b M k st) (v:Value):
  ∃w',(Instr.entryStore mt (.map (some b)) (.int .i64 (st:Nat)) v).run P w= .ok () w'∧aS kv w' b (putM k v M)∧w.grownBy w' (some b)∧w'.heap.size=w.heap.size:=by
 obtain⟨es,a0,hb,hM,j,e,hi,he,rfl⟩:=h;have a7:b<w.heap.size:=(Array.getElem?_eq_some_iff.1 hb).1;have a1:∀o,(setObj b o).run P w= .ok () { w with heap:=w.heap.setIfInBounds b o }:=fun o=>by simp [setObj,Sem.run,hb]
 have a4:∀o,({ w with heap:=w.heap.setIfInBounds b o }:World).heap[b]?=some o:=fun o=>by simp [a7]
 have a5:∀o,w.grownBy { w with heap:=w.heap.setIfInBounds b o } (some b):=fun o=>⟨rfl,rfl,rfl,by simp,fun k hk a9=>by
  have:b≠k:=fun e=>a9 (by rw [e])
  simp [lG,this]⟩
 have a6:∀o,({ w with heap:=w.heap.setIfInBounds b o }:World).heap.size=w.heap.size:=fun o=>by simp
 obtain⟨e1,a3,hk1⟩:=hM.rel.key hi;have b3:e1=e:=by
  rw [←gQ,a3] at he;exact aJ he
 subst b3;have a8:es.modify j (fun x=>{ x with val:=v })=es.modify j fun x=>{ x with key:=kv k,val:=v }:=by
  apply rO;intro i;rw [lH,lH];split
  ·rename_i e;subst e;rw [he];simp [←hk1]
  ·rfl
 refine⟨_,?_,⟨_,_,a4 (.map (es.modify j fun x=>{ x with key:=kv k,val:=v }) a0),?_⟩,a5 _,a6 _⟩
 ·unfold Instr.entryStore;simp only [aY,Result.andThen,run_getMap hb,bZ,asInt,asIntOf,Bf hM.borns he,a8,a1]
 ·have b0:=DK (fun e=>{ e with key:=kv k,val:=v }) (fun _=>rfl) es.toList j;refine⟨?_,?_,?_,?_⟩
  ·simpa using EsR.put (v:=v) hM.rel hi
  ·rw [CT hi];exact hM.nodup
  ·have:=List.pairwise_map.2 hM.borns;rw [←b0] at this;simpa using List.pairwise_map.1 this
  ·intro e he;have b2:e∈es.toList.modify j (fun e=>{ e with key:=kv k,val:=v }):=by simpa using he
   have h1:e.born∈(es.toList.modify j (fun e=>{ e with key:=kv k,val:=v })).map (·.born):=dG.2 ⟨e,b2,rfl⟩;rw [b0] at h1;obtain⟨e',h2,h3⟩:=dG.1 h1;rw [←h3];exact hM.lt e' h2
end Go.MapK
namespace Go.Proofs.YtbdpdeonapmlgaaGreatDoor
open Go.RowKit Go.Big Go.RowsK Go.MapK
variable {M:List (Ind × Value)} {D:Ind→List Ind} {L:List Ind} {v u v5:Value} {x:ByteArray} {b base c:Nat} {m:Int} {w w' w2 w5:World}
theorem SepJ.symm (h:SepJ v u):SepJ u v:=fun g h1 h2=>h g h2 h1
theorem SepJ.nil (v:Value):SepJ v (.slice none 0 c):=fun g h=>by simp [Value.ownBlock] at h
structure GrI (base:Nat) (w:World) (b:Nat) (v:Value) (L:List Ind) (M:List (Ind × Value)) (D:Ind→List Ind):Prop where
 row:aD base w v L
 map:aS aO w b M
 val:∀k u,aN k M=some u→aD base w u (D k)∧SepJ v u
 non:∀k,aN k M=none→D k= []
 sep:∀k k' u u',k≠k'→aN k M=some u→aN k' M=some u'→SepJ u u'
theorem GrI.below {m:Nat} (h:GrI base w b v L M D) (hb:Below m w w') (hm:w.heap.size≤m):GrI base w' b v L M D where
 row:=h.row.below hb hm
 map:=h.map.of_block (hb.block b (aZ h.map.lt hm))
 val:=fun k u hk=>⟨(h.val k u hk).1.below hb hm,(h.val k u hk).2⟩
 non:=h.non
 sep:=h.sep
theorem GrI.keep (h:GrI base w b v L M D) (hk:∀g,base≤g→g<w.heap.size→w'.heap[g]?=w.heap[g]?) (a8:w'.heap[b]?=w.heap[b]?):GrI base w' b v L M D where
 row:=fK h.row fun g hg=>hk g (bT h.row g hg).1 (bT h.row g hg).2
 map:=h.map.of_block a8
 val:=fun k u hu=>⟨fK (h.val k u hu).1 fun g hg=>hk g (bT (h.val k u hu).1 g hg).1 (bT (h.val k u hu).1 g hg).2,(h.val k u hu).2⟩
 non:=h.non
 sep:=h.sep
theorem GrI.push (h:GrI base w2 b v L M D) (a7:b<base) (a2:base≤w2.heap.size)
  (h5:w5.ownsRow base 63 2 v5 (L.length+1) (L.flatMap aP++ [.string x,.int .i64 m]))
  (hg:(w2.alloc (.cells #[.string x,.int .i64 m] 63)).grownBy w5 v.ownBlock) (hv:v5.ownBlock=v.ownBlock∨v5.ownBlock=Option.some (w2.alloc (.cells #[.string x,.int .i64 m] 63)).heap.size):
  GrI base w5 b v5 (L++ [(x,m)]) M D∧Below base w2 w5:=by
 obtain⟨h1,h2,h3⟩:=h.row.push a2 h5 hg hv;exact⟨⟨h1,h.map.of_block (h2.block b a7),fun k u hk=>h3 _ _ _ (h.val k u hk).1 (h.val k u hk).2,h.non,h.sep⟩,h2⟩
theorem GrI.pushAt {w6:World} {k:Ind} (h:GrI base w2 b v L M D) (a7:b<base) (a2:base≤w2.heap.size)
  (hu:(aN k M).getD (.slice none 0 0)=u)
  (h5:w5.ownsRow base 63 2 v5 ((D k).length+1) ((D k).flatMap aP++ [.string x,.int .i64 m]))
  (hg:∀g,g<w2.heap.size→g≠b→u.ownBlock≠some g→w5.heap[g]?=w2.heap[g]?) (hs:w2.heap.size≤w5.heap.size) (hv:v5.ownBlock=u.ownBlock∨∃g,v5.ownBlock=Option.some g∧w2.heap.size≤g)
  (hm:aS aO w6 b (putM k v5 M)) (h6:∀g,g<w5.heap.size→g≠b→w6.heap[g]?=w5.heap[g]?):
  GrI base w6 b v L (putM k v5 M) (fun k'=>if k'=k then D k++ [(x,m)] else D k'):=by
 have a3:SepJ v u:=by
  cases hk:aN k M with
  |none=>rw [hk] at hu;simp at hu;subst hu;exact SepJ.nil v
  |some u'=>rw [hk] at hu;simp at hu;subst hu;exact(h.val k u' hk).2
 have a1:∀k' u',k'≠k→aN k' M=some u'→SepJ u' u:=fun k' u' a4 a0=>by
  cases hk:aN k M with
  |none=>rw [hk] at hu;simp at hu;subst hu;exact SepJ.nil u'
  |some u2=>rw [hk] at hu;simp at hu;subst hu;exact h.sep _ _ _ _ a4 a0 hk
 have kp:∀{L':List Ind} {x':Value},aD base w2 x' L'→SepJ x' u→aD base w6 x' L':=fun {L' x'} ho a6=>fK ho fun g a5=>by
  obtain⟨q1,q2⟩:=bT ho g a5;have a4:g≠b:=by omega
  rw [h6 g (aZ q2 hs) a4,hg g q2 a4 (fun e=>a6 g e a5)]
 have ks:∀{L':List Ind} {x':Value},aD base w2 x' L'→SepJ x' u→SepJ x' v5:=fun {L' x'} ho a6 g h1 h2=>by
  obtain⟨q1,q2⟩:=bT ho g h2;rcases hv with e|⟨g',e,hge⟩
  ·rw [e] at h1;exact a6 g h1 h2
  ·rw [e] at h1;injection h1 with h1;omega
 refine⟨kp h.row a3,hm,fun k' u' a0=>?_,fun k' a0=>?_,fun k1 k2 u1 u2 a4 h1 h2=>?_⟩
 ·by_cases e:k'=k
  ·subst e;rw [oL] at a0;injection a0 with a0;subst a0
   refine⟨?_,ks h.row a3⟩;simp only [if_true];have:aD base w5 v5 (D k'++ [(x,m)]):=by
    unfold aD;rw [aK,BI];simpa [aP] using h5
   exact fK this fun g a5=>by
    obtain⟨q1,q2⟩:=bT this g a5;exact h6 g q2 (by omega)
  ·rw [nC e] at a0;simp only [if_neg e];obtain⟨o1,o2⟩:=h.val _ _ a0;exact⟨kp o1 (a1 _ _ e a0),o2⟩
 ·by_cases e:k'=k
  ·subst e;rw [oL] at a0;cases a0
  ·rw [nC e] at a0;simp only [if_neg e];exact h.non _ a0
 ·by_cases e1:k1=k
  ·by_cases e2:k2=k
   ·exact absurd (e1.trans e2.symm) a4
   ·subst e1;rw [oL] at h1;injection h1 with h1;subst h1
    rw [nC e2] at h2;exact(ks (h.val _ _ h2).1 (a1 _ _ e2 h2)).symm
  ·rw [nC e1] at h1
   by_cases e2:k2=k
   ·subst e2;rw [oL] at h2;injection h2 with h2;subst h2
    exact ks (h.val _ _ h1).1 (a1 _ _ e1 h1)
   ·rw [nC e2] at h2;exact h.sep _ _ _ _ a4 h1 h2
end Go.Proofs.YtbdpdeonapmlgaaGreatDoor
namespace Go.Proofs
open Go.Shelf
def Tryz.lays106_ren:Go.Shelf.Ren:=⟨fun|106=>228|213=>268|265=>320|n=>n,fun|9=>9|3=>3|n=>n,fun|n=>n⟩
theorem Tryz.lays106:Go.Proofs.Lays.n106 Tryz.prog Tryz.lays106_ren:={
 mixed:=by kernel_rfl
 f106:=Tryz.func228.trans (congrArg some (by kernel_rfl))
 f213:=Tryz.func268.trans (congrArg some (by kernel_rfl))
 f265:=Tryz.func320.trans (congrArg some (by kernel_rfl))
 t3:=Tryz.underlying3
 a3:=Tryz.isAgg3
 z3:=Tryz.sizeOf3
 v3:=Tryz.zeroValue3
 t9:=Tryz.underlying9
 a9:=Tryz.isAgg9
 z9:=Tryz.sizeOf9
 v9:=Tryz.zeroValue9 }
open Go.RowKit in
theorem Tryz.strings_Compare (a b:ByteArray) (w:World):
  Calls Tryz.prog 228 #[.string a,.string b] w fun e w'=>e= .returned (.int .i64 (Lib.compareBytes a.data.toList b.data.toList))∧w'=w:=Any.strings_Compare Tryz.lays106 a b w
end Go.Proofs
namespace Go.Proofs.YtbdpdeonapmlgaaGreatDoor
open Go.RowKit Go.Sort
def mN (x y:Int):Int:=if x<y then-1 else if y<x then 1 else 0
theorem YI (x:Int) (w:World):Calls Tryz.prog 230 #[.int .i64 x] w fun e w'=>e= .returned (.bool false)∧w'=w:=by
 go_enter Tryz.func230,Tryz.ntmps230;go_wp2
 all_goals go_ret
 all_goals exact⟨by simp,rfl⟩
theorem De (x y:Int) (w:World):Calls Tryz.prog 174 #[.int .i64 x,.int .i64 y] w fun e w'=>e= .returned (.int .i64 (mN x y))∧w'=w:=by
 go_enter Tryz.func174,Tryz.ntmps174
 go_wp2_with (go_at_call 230;refine(YI _ _).mono ?_;rintro e w' ⟨rfl,rfl⟩)
 all_goals go_ret
 all_goals refine⟨?_,rfl⟩
 all_goals unfold mN
 all_goals(repeat' split)
 all_goals first|rfl|omega|skip
def orZ:List Int→Int
 | []=>0
 |z::r=>if z=0 then orZ r else z
theorem CX:∀(zs:List Int) (k:Nat),(∀j,j<k→zs[j]?.getD 0=0)→orZ zs=orZ (zs.drop k)
 |zs,0,_=>by simp
 | [],k+1,_=>by simp
 |z::r,k+1,h=>by
  have h0:z=0:=by simpa using h 0 (by omega)
  simp only [orZ,h0,if_true,bF];exact CX r k (fun j hj=>by have:=h (j+1) (by omega);simpa using this)
theorem orZ_at (zs:List Int) (k:Nat) (hk:k<zs.length) (h:∀j,j<k→zs[j]?.getD 0=0) (hz:zs[k]?.getD 0≠0):orZ zs=zs[k]?.getD 0:=by
 rw [CX zs k h,oI hk];have e:zs[k]?.getD 0=zs[k]:=by simp [hk]
 rw [e] at hz ⊢;simp [orZ,hz]
theorem XI (zs:List Int) (h:∀j,j<zs.length→zs[j]?.getD 0=0):orZ zs=0:=by
 rw [CX zs zs.length h];simp [orZ]
theorem XH (b cap:Nat) (zs:List Int) (w:World) (a0:zs.length≤1000) (hc:∀j,j<zs.length→w.cell? ⟨b,j,none⟩=some (.int .i64 (zs[j]?.getD 0))):
  Calls Tryz.prog 173 #[.slice (some ⟨b,0,none⟩) zs.length cap] w fun e w'=>e= .returned (.int .i64 (orZ zs))∧w'=w:=by
 generalize hL:zs.length=len at hc a0 ⊢;go_enter Tryz.func173,Tryz.ntmps173;go_wp2
 go_loopw [8] (fun i wr=>∃k:Nat,k≤len∧i= .int .i64 k∧wr=w∧∀j,j<k→zs[j]?.getD 0=0) (fun i _=>len-(intOf i).toNat)
 case atStart=>exact⟨0,aT _,rfl,rfl,fun j hj=>absurd hj (by omega)⟩
 case round=>
  obtain⟨k,hk,rfl,rfl,hz⟩:=hrel
  by_cases a4:k<len
  ·have a3:=hc k a4;generalize a2:zs[k]?.getD 0=z at a3;clear hc;go_wp2
   ·have a5:z≠0:=by simpa using (by assumption:(z !=0)=true)
    have a1:=orZ_at zs k (by omega) hz (by rw [a2];exact a5);refine kW (results_tmp rfl _ _ _) rfl ?_;exact⟨by rw [a1,a2];rfl,rfl⟩
   ·have h0:z=0:=by simpa using (by assumption:(z !=0)=false)
    go_roundw
    case rel=>exact⟨k+1,by omega,by simp,by trivial,fun j hj=>by
     rcases Nat.lt_succ_iff_lt_or_eq.1 hj with h|h
     ·exact hz j h
     ·rw [h,a2,h0]⟩
    case measure=>simp [intOf];omega
  ·obtain rfl:k=len:=by omega
   have a1:=XI zs (by rw [hL];exact hz);go_wp2
   go_ret
   exact⟨by rw [a1];rfl,rfl⟩
theorem XJ (b cap:Nat) (x y:Int) (w:World) (h0:w.cell? ⟨b,0,none⟩=some (.int .i64 x)) (h1:w.cell? ⟨b,1,none⟩=some (.int .i64 y)):
  Calls Tryz.prog 173 #[.slice (some ⟨b,0,none⟩) 2 cap] w fun e w'=>e= .returned (.int .i64 (orZ [x,y]))∧w'=w:=
 XH b cap [x,y] w (by simp) fun j hj=>by
  match j,hj with
  |0,_=>exact h0
  |1,_=>exact h1
  |n+2,hj=>exact absurd hj (by simp)
theorem Da {x y:Int} (h:x<y):mN x y= -1:=by simp [mN,h]
theorem Db {x y:Int} (h:y<x):mN x y=1:=by
 have:¬x<y:=by omega
 simp [mN,h,this]
theorem Dc {x y:Int} (h:x=y):mN x y=0:=by subst h;simp [mN]
def nZ (a b:ByteArray × Int):Int:=orZ [Lib.compareBytes a.1.data.toList b.1.data.toList,mN a.2 b.2]
theorem Df (x y:ByteArray) (m n:Int) (w:World):
  Calls Tryz.prog 188 #[.agg #[.string x,.int .i64 m],.agg #[.string y,.int .i64 n]] w fun e w'=>e= .returned (.int .i64 (nZ (x,m) (y,n)))∧∃q a6,w'=grow (w.drewN q) a6:=by
 go_enter Tryz.func188,Tryz.ntmps188;go_wp2;refine iG 10 (by kernel_rfl) (by kernel_rfl) ?_;simp only [bB,bJ,bF,bE,gZ]
 repeat (first|still_step|still_call (Tryz.strings_Compare _ _ _)|still_call (De _ _ _))
 refine iH ?_;show wpList _ _ _ _ _ _
 go_wp2_with (go_at_call 173;refine(XJ _ _ (Lib.compareBytes x.data.toList y.data.toList) (mN m n) _ (by go_simp) (by go_simp)).mono ?_;rintro e w' ⟨rfl,rfl⟩)
 go_ret
 exact⟨rfl,1,_,by rw [alloc_eq_grow,alloc_eq_grow,alloc_eq_grow,grow_grow,grow_grow];rfl⟩
theorem BP (a c:UInt8):a<c∨a=c∨c<a:=by
 rcases RR a.toNat c.toNat with h|h|h
 ·exact .inl h
 ·exact .inr (.inl (UInt8.toNat_inj.1 h))
 ·exact .inr (.inr h)
def bLt:List UInt8→List UInt8→Prop
 | [],[]=>False
 | [],_::_=>True
 |_::_,[]=>False
 |a::A,c::C=>a<c∨a=c∧bLt A C
theorem OW:∀{A C:List UInt8},Lib.compareBytes A C<0↔bLt A C
 | [],[]=>by simp [Lib.compareBytes,bLt]
 | [],c::C=>by simp [Lib.compareBytes,bLt]
 |a::A,[]=>by simp [Lib.compareBytes,bLt]
 | a::A,c::C=>by
  have ih:=OW (A:=A) (C:=C);unfold Lib.compareBytes bLt;rcases BP a c with h|h|h
  ·simp [h]
  ·subst h;simp [mW,ih]
  ·have h1:¬a<c:=fun h2=>mW _ (RH h h2)
   have h2:a≠c:=fun e=>by subst e;exact mW _ h
   simp [h,h1,h2]
theorem AG:∀{A C:List UInt8},Lib.compareBytes A C=0↔A=C
 | [],[]=>by simp [Lib.compareBytes]
 | [],c::C=>by simp [Lib.compareBytes]
 |a::A,[]=>by simp [Lib.compareBytes]
 | a::A,c::C=>by
  have ih:=AG (A:=A) (C:=C);unfold Lib.compareBytes;rcases BP a c with h|h|h
  ·have h2:a≠c:=fun e=>by subst e;exact mW _ h
   simp [h,h2]
  ·subst h;simp [mW,ih]
  ·have h1:¬a<c:=fun h2=>mW _ (RH h h2)
   have h2:a≠c:=fun e=>by subst e;exact mW _ h
   simp [h,h1,h2]
theorem wF:∀A:List UInt8,¬bLt A A
 | []=>by simp [bLt]
 |a::A=>by simp [bLt,mW,wF A]
theorem QN:∀{A B C:List UInt8},bLt A B→bLt B C→bLt A C
 | [],[],_,h,_=>by simp [bLt] at h
 | [],b::B,[],_,h=>by simp [bLt] at h
 | [],b::B,c::C,_,_=>by simp [bLt]
 |a::A,[],_,h,_=>by simp [bLt] at h
 |a::A,b::B,[],_,h=>by simp [bLt] at h
 | a::A,b::B,c::C,h1,h2=>by
  simp only [bLt] at*;rcases h1 with h1|⟨rfl,h1⟩
  ·rcases h2 with h2|⟨rfl,h2⟩
   ·exact .inl (RH h1 h2)
   ·exact .inl h1
  ·rcases h2 with h2|⟨rfl,h2⟩
   ·exact .inl h2
   ·exact .inr ⟨rfl,QN h1 h2⟩
theorem QM:∀(A C:List UInt8),bLt A C∨A=C∨bLt C A
 | [],[]=>by simp
 | [],c::C=>by simp [bLt]
 |a::A,[]=>by simp [bLt]
 | a::A,c::C=>by
  simp only [bLt];rcases BP a c with h|h|h
  ·exact .inl (.inl h)
  ·subst h;rcases QM A C with h|h|h
   ·exact .inl (.inr ⟨rfl,h⟩)
   ·exact .inr (.inl (by rw [h]))
   ·exact .inr (.inr (.inr ⟨rfl,h⟩))
  ·exact .inr (.inr (.inl h))
def iN (a b:ByteArray × Int):Prop:=bLt a.1.data.toList b.1.data.toList∨a.1=b.1∧a.2<b.2
theorem QL {a b:ByteArray} (h:a.data.toList=b.data.toList):a=b:=by
 cases a;cases b;congr 1;exact Array.toList_inj.1 h
theorem Dg {a b:ByteArray × Int}:nZ a b<0↔iN a b:=by
 unfold nZ iN
 by_cases h:Lib.compareBytes a.1.data.toList b.1.data.toList=0
 ·have e:=AG.1 h;have e2:=QL e;have:¬bLt a.1.data.toList b.1.data.toList:=by rw [e];exact wF _
  have hz:Lib.compareBytes b.1.data.toList b.1.data.toList=0:=AG.2 rfl;simp only [orZ,if_true,this,false_or,e2,true_and,hz];rcases Int.lt_trichotomy a.2 b.2 with h3|h3|h3
  ·rw [Da h3];simp [h3]
  ·rw [Dc h3];simp [h3,wF]
  ·rw [Db h3];simp [wF];omega
 ·have e:a.1≠b.1:=fun e=>h (by rw [e];exact AG.2 rfl)
  simp only [orZ,h,eY,e,false_and,GL];exact OW
theorem ZV (a:ByteArray × Int):¬iN a a:=by
 unfold iN;rintro(h|h)
 ·exact wF _ h
 ·omega
theorem MQ {a b c:ByteArray × Int} (h1:iN a b) (h2:iN b c):iN a c:=by
 unfold iN at*;rcases h1 with h1|⟨e1,h1⟩
 ·rcases h2 with h2|⟨e2,h2⟩
  ·exact .inl (QN h1 h2)
  ·rw [←e2];exact .inl h1
 ·rcases h2 with h2|⟨e2,h2⟩
  ·rw [e1];exact .inl h2
  ·exact .inr ⟨e1.trans e2,by omega⟩
theorem ZU (a b:ByteArray × Int):iN a b∨a=b∨iN b a:=by
 unfold iN;rcases QM a.1.data.toList b.1.data.toList with h|h|h
 ·exact .inl (.inl h)
 ·have e:=QL h;rcases Int.lt_trichotomy a.2 b.2 with h3|h3|h3
  ·exact .inl (.inr ⟨e,h3⟩)
  ·exact .inr (.inl (Prod.ext e h3))
  ·exact .inr (.inr (.inr ⟨e.symm,h3⟩))
 ·exact .inr (.inr (.inl h))
end Go.Proofs.YtbdpdeonapmlgaaGreatDoor
