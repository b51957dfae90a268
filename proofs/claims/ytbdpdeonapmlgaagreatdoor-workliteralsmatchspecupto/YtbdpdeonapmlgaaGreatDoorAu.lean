/- Lemmas for the text Card; no condition. -/
import Derived.Test.YtbdpdeonapmlgaaGreatDoorAt
set_option linter.all false
set_option maxHeartbeats 8000000
set_option maxRecDepth 100000
namespace Go.Proofs.YtbdpdeonapmlgaaGreatDoor
open Go.RowKit Go.Big Go.RowsK Go.MapK
variable {D R M Dk:List (Ind × Value)} {w w' a b c w2 w5:World} {LL LO:List (List Ind)} {X X0:List Value} {nc rb pb d m ba mo r:Nat} {p:Ind × Value} {v u va:Value}
section
attribute [local go_sem] Heavy.uponW
def FromP (w:World) (P:List Cl) (x:Ind) (e:Ending) (w':World):Prop:=
 ∃b D,e= .returned (.map (some b))∧aS aO w' b D∧(∀p∈D,p.2= .bool true)∧(∀y,y∈D.map (·.1)↔cQ P x y)∧w.heap.size≤b∧Below w.heap.size w w'
theorem elems (L:List Ind) (h:L≠ []):∃S y,L=S++ [y]:=⟨L.dropLast,L.getLast h,(Hc h).symm⟩
theorem As (P:List Cl) (hF:∀C∈P,C.flt=0) (hP:P.length≤300) (ba:Nat) (w:World) (av:Option Addr) (nv cv:Nat) (b:Nat) (M:List (Ind × Value)) (hG:GU ba w b M P) (x:ByteArray) (m:Int):
  Calls Tryz.prog 190 #[.agg #[.slice av nv cv,.map (some b)],.agg #[.string x,.int .i64 m]] w (FromP w P (x,m)):=by
 have a8:=aside2 hF hP;have d1:Aside (∀w2,Below w.heap.size w w2→GU ba w2 b M P):=fun w2 hb=>hG.below hb (aA _)
 clear hF hP hG;have e0:∀w:World,(Instr.makeMap 163 none).run Tryz.prog w= .ok (.map (some w.heap.size)) (w.alloc (.map #[] 0)):=fun w=>rfl
 go_enter Tryz.func190,Tryz.ntmps190
 go_upto_region 2 with fail
 obtain⟨w1,hw1⟩:∃w1,((w.alloc (.cells #[.slice av nv cv,.map (some b)] 168)).alloc (.cells #[.string x,.int .i64 m] 63)).alloc (.map #[] 0)=w1:=⟨_,rfl⟩;have b1:=aC w (.cells #[.slice av nv cv,.map (some b)] 168);have b2:=aC (w.alloc (.cells #[.slice av nv cv,.map (some b)] 168)) (.cells #[.string x,.int .i64 m] 63);have b3:=aC ((w.alloc (.cells #[.slice av nv cv,.map (some b)] 168)).alloc (.cells #[.string x,.int .i64 m] 63)) (.map #[] 0);have q1:=heap_alloc_new w (Obj.cells #[.slice av nv cv,.map (some b)] 168);have q2:=heap_alloc_new (w.alloc (.cells #[.slice av nv cv,.map (some b)] 168)) (Obj.cells #[.string x,.int .i64 m] 63);have c8:=aS.new (kv:=aO) ((w.alloc (.cells #[.slice av nv cv,.map (some b)] 168)).alloc (.cells #[.string x,.int .i64 m] 63)) 0;have a3:Aside (Below w.heap.size w w1∧w1.heap.size=w.heap.size+1+1+1∧w1.heap[w.heap.size]?=some (.cells #[.slice av nv cv,.map (some b)] 168)∧w1.heap[w.heap.size+1]?=some (.cells #[.string x,.int .i64 m] 63)∧aS aO w1 (w.heap.size+1+1) []):=by
  refine⟨?_,?_,?_,?_,?_⟩
  ·rw [←hw1];exact(b1.trans (b2.mono b1.size)).trans (b3.mono (b1.trans (b2.mono b1.size)).size)
  ·rw [←hw1];simp
  ·rw [←hw1];exact(b3.block _ (by simp;omega)).trans ((b2.block _ (by simp)).trans q1)
  ·rw [←hw1];rw [cT] at q2;exact(b3.block _ (by simp)).trans q2
  ·rw [←hw1];simp at c8;exact c8
 rw [hw1];clear hw1 e0 b1 b2 b3 q1 q2 c8;obtain⟨ob,hob⟩:∃z,w.heap.size+1+1=z:=⟨_,rfl⟩;rw [hob] at a3 ⊢;have a0:=aside hob;clear hob;have fk:Aside (∀w2,Below ob w1 w2→w2.cell? ⟨w.heap.size,0,none⟩=some (.slice av nv cv)∧w2.cell? ⟨w.heap.size,1,none⟩=some (.map (some b))):=fun w2 hb=>eL ((hb.block _ (by have:=a0.out;omega)).trans a3.out.2.2.1)
 obtain⟨x0,x1⟩:=fk.out w1 (aI _ _);obtain⟨x2,x3⟩:=eL a3.out.2.2.2.1;have a6:=d1.out w1 a3.out.1;have b4:=a6.look x m;have a7:=a6.row (x,m);obtain⟨u,hu⟩:∃u,(aN (x,m) M).getD (.slice none 0 0)=u:=⟨_,rfl⟩;rw [hu] at b4 a7;have c5:(aR P (x,m)).length≤3000000:=by have:=EV a8.out.1 (x,m);have:=a8.out.2;omega
 have d6:=Dm ba w1 u _ a7 c5;clear hu a6 a7 c5
 go_wp2_with (go_at_call 246;with_reducible refine d6.mono ?_)
 rintro e w2 ⟨v2,rfl,hO2,hb2⟩;clear x0 x1 x2 x3 b4 d6;have c2:Aside (aD (ob+1) w2 v2 (aR P (x,m))∧aS aO w2 ob []∧Below ob w1 w2):=⟨iZ hO2 (by have:=a3.out.2.1;have:=a0.out;omega),a3.out.2.2.2.2.of_block (hb2.block ob a3.out.2.2.2.2.lt),hb2.mono (by have:=a3.out.2.1;have:=a0.out;omega)⟩;clear hO2 hb2;go_wp2
 go_loopw [6] (fun s wr=>∃(v:Value) (S:List Ind) (D:List (Ind × Value)),s=v∧aD (ob+1) wr v S∧aS aO wr ob D∧FmS P (x,m) D S∧Below ob w1 wr) (fun s wr=>(3000001-oW wr ob)*3000001+lenOf s)
 case atStart=>exact⟨v2,_,[],rfl,c2.out.1,c2.out.2.1,FmS.start _ _,c2.out.2.2⟩
 case round=>
  clear c2;obtain⟨wo,rfl⟩:∃wo,wo=wr:=⟨_,rfl⟩;obtain⟨v,S,D,rfl,hO,hM,hS,hB⟩:=hrel;have b7:=hS.len hM.nodup a8.out.1 a8.out.2
  by_cases hE:S= []
  case pos=>
   subst hE;have hR:Aside (FromP w P (x,m) (.returned (.map (some ob))) wo):=⟨ob,D,rfl,hM,hS.tr,hS.done,by have:=a0.out;omega,a3.out.1.trans (hB.mono (by have:=a0.out;omega))⟩;obtain⟨a,c,rfl,_⟩:=hO.read;clear hO hM hS hB b7;go_wp2
   go_ret
   exact hR.out
  obtain⟨S1,⟨y,p⟩,rfl⟩:=elems S hE;obtain⟨n,hn⟩:∃n,S1.length=n:=⟨_,rfl⟩;have c0:(S1++ [(y,p)]).length=n+1:=by rw [aK,hn];rfl
  obtain⟨g,c,rfl,hgb,hgl⟩:=hO.some (by simp);rw [c0] at hO b7 ⊢;obtain⟨z0,z1⟩:=hO.cells (i:=n) (J:=(y,p)) (by rw [dO (by omega),hn];simp);have c4:=hO.cut c0 (k:=n) (by omega);rw [GW (by omega),eP (by omega)] at c4;have d7:n≤c:=by
   obtain⟨_,⟨e,_⟩|⟨g',cap',cur,e,_,_,d7,_⟩⟩:=hO
   ·injection e with e1;cases e1
   ·injection e with e1 e2 e3;rw [c0] at d7;omega
  have a2:Aside (aD (ob+1) wo (.slice (some ⟨g,0,none⟩) n c) S1∧aS aO wo ob D∧FmS P (x,m) D (S1++ [(y,p)])∧Below ob w1 wo∧D.length≤3000000∧S1.length=n):=⟨c4,hM,hS,hB,b7.2,hn⟩;have e6:=b7.1;have e8:(0:Int)<((n+1:Nat):Int):=by omega
  have e9:(0:Int)<(n:Int)+1:=by omega
  have f0:(0:Int)≤(n:Int):=by omega
  have f1:(n:Int)<(n:Int)+1:=by omega
  have f2:(n:Int)≤(n:Int)+1:=by omega
  have f3:(n:Int)≤(c:Int):=by omega
  have f4:IntKind.i64.wrap (n:Int)=(n:Int):=by rw [aG];omega
  dsimp only at z0 z1;clear hO c4 hM hS hB hE c0 b7 hn
  go_upto_region 6 with fail
  obtain⟨wa,hwa⟩:∃wa,wo.alloc (.cells #[.string y,.int .i64 p] 63)=wa:=⟨_,rfl⟩;have a9:=aC wo (.cells #[.string y,.int .i64 p] 63);have c1:=heap_alloc_new wo (Obj.cells #[.string y,.int .i64 p] 63);rw [hwa] at a9 c1 ⊢;clear hwa z0 z1;have c3:=a2.out.2.1.of_block (a9.block ob a2.out.2.1.lt);have d4:=a2.out.1.below a9 (aA _);have b0:ob<wo.heap.size:=a2.out.2.1.lt;have d0:Below ob w1 wa:=a2.out.2.2.2.1.trans (a9.mono (by omega));have a1:=aside5 d4 c3 d0 c1 b0;obtain⟨z0,z1⟩:=eL c1;have b4:=yW c3 a2.out.2.2.1.tr y p;obtain⟨F,hF⟩:∃F,gT (y,p) (D.map (·.1))=F:=⟨_,rfl⟩;rw [hF] at b4;have FA:=aside hF;clear c3 d4 b0 d0 c1 a9 hF;cases F
  case true=>
   have hN:Aside (FmS P (x,m) D S1∧oW wa ob=oW wo ob):=⟨a2.out.2.2.1.old (mF.1 FA.out),by rw [uZ a1.out.2.1,uZ a2.out.2.1]⟩;go_wp2;go_roundw
   case rel=>exact⟨_,S1,D,rfl,a1.out.1,a1.out.2.1,hN.out.1,a1.out.2.2.1⟩
   case measure=>rw [hN.out.2];simp [lenOf]
  have d8:=sE.1 FA.out;obtain⟨wb,c9,hMb,hgb2,hsb⟩:=rQ jF rR a1.out.2.1 (y,p) (.bool true);have e4:putM (y,p) (.bool true) D=D++ [((y,p),.bool true)]:=uM (by
   rw [vG];intro q hq e;exact d8 (dG.2 ⟨q,hq,e.symm⟩))
  rw [e4] at hMb;replace c9:(Instr.mapUpdate 163 (.map (some ob)) (.agg #[.string y,.int .i64 p]) (.bool true)).run Tryz.prog wa= .ok () wb:=c9;have b9:Below ob w1 wb:=a1.out.2.2.1.grown hgb2 (by have:=a1.out.2.2.1.size;have:=a3.out.2.1;have:=a0.out;omega) (fun k hk=>by have:=aJ hk;omega);have d5:aD (ob+1) wb (.slice (some ⟨g,0,none⟩) n c) S1:=fK a1.out.1 fun q hq=>hgb2.block q (bT a1.out.1 q hq).2 (fun e=>by have:=(bT a1.out.1 q hq).1;have:=aJ e;omega)
  have d9:=(hgb2.block wo.heap.size (Array.getElem?_eq_some_iff.1 a1.out.2.2.2.1).1 (fun e=>by have:=aJ e;have:=a1.out.2.2.2.2;omega)).trans a1.out.2.2.2.1;have a6:=d1.out wb (a3.out.1.trans (b9.mono (by have:=a0.out;omega)));have b5:=a6.look y p;have a7:=a6.row (y,p);obtain⟨u2,hu2⟩:∃u,(aN (y,p) M).getD (.slice none 0 0)=u:=⟨_,rfl⟩;rw [hu2] at b5 a7;have b6:ob<wb.heap.size:=hMb.lt;have a5:Aside (aD (ob+1) wb (.slice (some ⟨g,0,none⟩) n c) S1∧aS aO wb ob (D++ [((y,p),.bool true)])∧Below ob w1 wb∧ob+1≤wb.heap.size∧S1.length=n):=⟨d5,hMb,b9,b6,a2.out.2.2.2.2.2⟩;obtain⟨x0,x1⟩:=fk.out wb b9;clear hMb hgb2 hsb b9 d5 a6 hu2 d8 b6
  go_upto_region 8 with fail
  clear z0 z1 c9 b4;obtain⟨z0,z1⟩:=eL d9;have a4:wb.ownsRow (ob+1) 63 2 (.slice (some ⟨g,0,none⟩) n c) n (S1.flatMap aP):=by have:=a5.out.1;unfold aD at this;rw [a5.out.2.2.2.2] at this;exact this
  have c5:(aR P (y,p)).length≤3000000:=by have:=EV a8.out.1 (y,p);have:=a8.out.2;omega
  have b8:=rS a7;refine iP ?_
  iterate 5 (refine eV rfl fun K hK=>?_;go_simp;refine hK _ _ ?_;clear hK)
  refine gK jV _ rfl _ _ rfl (ob+1) (.slice (some ⟨g,0,none⟩) n c) n _ rfl a4 u2 _ _ rfl b8 (flat_len _) (zT _) (by unfold maxLen;omega) (by omega) a5.out.2.2.2.1 ?_;intro v5 w5 h5 c6 e7;have hN:Aside (aD (ob+1) w5 v5 (S1++aR P (y,p))∧aS aO w5 ob (D++ [((y,p),.bool true)])∧Below ob w1 w5∧lenOf v5=n+(aR P (y,p)).length∧oW w5 ob=oW wo ob+1∧oW wo ob=D.length):=by
   have c7:∀q,q<ob+1→some q≠(Value.slice (some ⟨g,0,none⟩) n c).ownBlock:=fun q hq e=>by
    have:=(a4.lt q e.symm).1;omega
   have d3:aD (ob+1) w5 v5 (S1++aR P (y,p)):=by
    unfold aD;rw [aK,BI,a5.out.2.2.2.2];exact h5
   have d2:=a5.out.2.1.of_block (c6.block ob a5.out.2.1.lt (c7 ob (by omega)));refine⟨d3,d2,a5.out.2.2.1.grown c6 (by have:=a5.out.2.2.2.1;omega) (fun k hk=>by
    have:=(a4.lt k hk).1;omega),?_,?_,uZ a2.out.2.1⟩
   ·obtain⟨a,c',e,_⟩:=d3.read;rw [e,aK,a5.out.2.2.2.2];rfl
   ·rw [uZ d2,uZ a2.out.2.1];simp
  clear h5 c6 e7 a4 b8 a7 z0 z1 x0 x1 b5 d9;go_wp2;go_roundw
  case rel=>exact⟨v5,_,_,rfl,hN.out.1,hN.out.2.1,a2.out.2.2.1.new,hN.out.2.2.1⟩
  case measure=>
   have q1:=hN.out.2.2.2.1;have q2:=hN.out.2.2.2.2.1;have q3:=hN.out.2.2.2.2.2;have q4:=a2.out.2.2.2.2.1;rw [q2,q1,q3];simp only [lenOf];omega
end
theorem u226:Tryz.prog.underlying 226=some (.map 63 163):=Tryz.underlying226
theorem u267:Tryz.prog.underlying 267=some (.map 63 3):=Tryz.underlying267
theorem z163:∀w,(zeroValue 163).run Tryz.prog w= .ok (.map none) w:=fun w=>Tryz.zeroValue163 w
theorem z3:∀w,(zeroValue 3).run Tryz.prog w= .ok (.int .i64 0) w:=fun w=>Tryz.zeroValue3 w
def jY (w:World) (pb nc:Nat):Prop:=∃a0:Array Value,w.heap[pb]?=some (.cells a0 4 (0,0))∧a0.size=nc∧∀(j:Nat),j<nc→∃b,a0[j]?=some (.bool b)
theorem jY.of_block (h:jY w pb nc) (e:w'.heap[pb]?=w.heap[pb]?):jY w' pb nc:=by
 obtain⟨a0,h1,h2⟩:=h;exact⟨a0,e.trans h1,h2⟩
theorem jY.lt (h:jY w pb nc):pb<w.heap.size:=by
 obtain⟨a0,h1,_⟩:=h;exact(Array.getElem?_eq_some_iff.1 h1).1
theorem jY.read (h:jY w pb nc) {j:Nat} (hj:j<nc):∃b,w.cell? ⟨pb,j,none⟩=some (.bool b):=by
 obtain⟨a0,h1,h2,h3⟩:=h;obtain⟨b,hb⟩:=h3 j hj;exact⟨b,by simpa [World.cell?,h1] using hb⟩
theorem jY.store (h:jY w pb nc) {j:Nat} (hj:j<nc):∃w1,(Instr.storeAt 4 (.pointer (some ⟨pb,j,none⟩)) (.bool true)).run Tryz.prog w= .ok () w1∧jY w1 pb nc∧w.grownBy w1 (some pb)∧w1.heap.size=w.heap.size:=by
 obtain⟨a0,h1,h2,h3⟩:=h;obtain⟨i0,hi,hz1⟩:∃i,Tryz.prog.info? 4=some i∧i.size=1:=by
  have h:=show(Tryz.prog.info? 4).map (fun i=>i.size)=some 1 by kernel_rfl
  rw [rD] at h;exact h
 have hs:∀W,(Go.sizeOf 4).run Tryz.prog W= .ok 1 W:=fun W=>by simp [Go.sizeOf,typeInfo,hi,hz1]
 have ha:(Instr.sureAddr (.pointer (some ⟨pb,j,none⟩))).run Tryz.prog w= .ok ⟨pb,j,none⟩ w:=rfl;have a5:=AV (P:=Tryz.prog) pb j 4 [.bool true] 0 a0 w h1 (by simp;omega) (by simp [Value.oneCell']);have a4:(a0.toList.take (j+0)++ [Value.bool true]++a0.toList.drop (j+0+ [Value.bool true].length))=a0.toList.set j (.bool true):=by
  rw [List.set_eq_take_append_cons_drop,if_pos (by simp;omega)];simp
 rw [a4] at a5;refine⟨_,?_,⟨_,tH _ _ _ (a0.toList.set j (.bool true)).toArray _ _ h1,by simp [h2],fun k hk=>?_⟩,⟨rfl,rfl,rfl,by simp [World.setRow],fun k hk a2=>wK _ _ _ _ fun(e:k=pb)=>a2 (by rw [e])⟩,by simp [World.setRow]⟩
 ·unfold Instr.storeAt;simp [storeVar,ha,hs,Value.cells,a5]
 ·rw [SJ,List.getElem?_set]
  by_cases e:j=k
  ·subst e;exact⟨true,by simp;omega⟩
  ·obtain⟨b,hb⟩:=h3 k hk;refine⟨b,?_⟩;rw [if_neg e];simpa using hb
theorem inf4:(Tryz.prog.info? 4).map (fun i=>(i.zero,i.size,i.bytes))=some (some (.bool false),1,1):=by kernel_rfl
theorem YO (len:Nat) (hb:len≤1000000000) (w:World):∃o,(Instr.makeSlice 87 (.int .i64 len) (.int .i64 len)).run Tryz.prog w= .ok (.slice (some ⟨w.heap.size,0,none⟩) len len) (w.alloc o)∧jY (w.alloc o) w.heap.size len:=by
 obtain⟨i0,hi,hz0,hz1,hz2⟩:=mV inf4;have:=run_make (P:=Tryz.prog) w 87 4 i0 (.bool false) Tryz.underlying87 hi hz0 .i64 .i64 len len (by omega) (SU _) (by rw [hz2];omega) (by omega);rw [hz1] at this;refine⟨_,by simpa using this,_,heap_alloc_new _ _,?_,fun j hj=>⟨false,?_⟩⟩
 ·simp [madeCells,Value.cells]
 ·simp [madeCells,Value.cells,hj,wR]
def NumsM (nc:Nat) (D:List (Ind × Value)):Prop:=∀p∈D,∃j:Nat,j<nc∧p.2= .int .i64 (j:Int)
theorem NumsM.look (h:NumsM nc D) (h0:0<nc) {w:World} {b:Nat} (hm:aS aO w b D) (x:ByteArray) (m:Int):∃j:Nat,j<nc∧(Instr.lookup 267 (.map (some b)) (.agg #[.string x,.int .i64 m]) false).run Tryz.prog w= .ok (.int .i64 (j:Int)) w:=by
 have hl:=sG jF u267 z3 hm (x,m);cases hk:aN (x,m) D with
 |none=>exact⟨0,h0,by rw [hk] at hl;exact hl⟩
 |some u=>
  obtain⟨j,hj,e⟩:=h _ (xB hk);refine⟨j,hj,?_⟩;rw [hk] at hl;simp only at e;subst e;exact hl
theorem NumsM.put (h:NumsM nc D) {j:Nat} (hj:j<nc) (k:Ind):NumsM nc (putM k (.int .i64 (j:Int)) D):=fun p hp=>by
 rcases yO hp with e|e
 ·exact⟨j,hj,by rw [e]⟩
 ·exact h p e
def sJ (w:World) (r:Nat):Nat:=match w.heap[r]? with
 |some (.mapIter _ _ seen _)=>seen.size
 |_=>0
theorem MK {b:Nat} (h:iF aO w r b M D):sJ w r=D.length:=by
 obtain⟨es,clock,seen,h1,h2,h3,ds,h4,h5,_⟩:=h;have e1:=h4.length;have e2:seen.toList.length=(ds.map (·.born)).length:=by rw [h5]
 rw [oG,cV] at e2;simp [sJ,h3];omega
structure OSt (w:World) (mo pb nc:Nat) (LL:List (List Ind)) (wr:World) (v:Value) (X:List Value) (LO:List (List Ind)) (D:List (Ind × Value)):Prop where
 bel:Below w.heap.size w wr
 map:aS aO wr mo D
 num:NumsM nc D
 put:jY wr pb nc
 out:wr.ownsRow (pb+1) 127 1 v LO.length X
 row:∀(k:Nat) L,LO[k]?=some L→∃u,X[k]?=some u∧∃ba,aD ba w u L
 sub:∀L∈LO,L∈LL
theorem OSt.below {wr:World} (h:OSt w mo pb nc LL wr v X LO D) (hb:Below m wr w') (hm:wr.heap.size≤m):OSt w mo pb nc LL w' v X LO D where
 bel:=h.bel.trans (hb.mono (aE h.bel.size hm))
 map:=h.map.of_block (hb.block mo (aZ h.map.lt hm))
 num:=h.num
 put:=h.put.of_block (hb.block pb (aZ h.put.lt hm))
 out:=gS h.out hb hm
 row:=h.row
 sub:=h.sub
theorem OSt.push {v5:Value} {L:List Ind} (h:OSt w mo pb nc LL w2 v X LO D) (b0:mo<pb) (hw:w.heap.size≤pb) (hL:L∈LL) (hu:aD ba w u L)
  (h5:w5.ownsRow (pb+1) 127 1 v5 (LO.length+1) (X++ [u])) (hg:(w2.alloc (.cells #[u] 127)).grownBy w5 v.ownBlock):OSt w mo pb nc LL w5 v5 (X++ [u]) (LO++ [L]) D:=by
 have hb:=aC w2 (.cells #[u] 127);have a3:∀q,q<pb+1→some q≠v.ownBlock:=fun q hq e=>by have:=(bT h.out q e.symm).1;omega
 have hk:∀q,q<pb+1→q<w2.heap.size→w5.heap[q]?=w2.heap[q]?:=fun q q1 q2=>(hg.block q (by rw [cT];omega) (a3 q q1)).trans (hb.block q q2)
 have a7:X.length=LO.length:=by have:=h.out.1;omega
 refine⟨⟨hg.os.trans h.bel.os,hg.tape.trans h.bel.tape,hg.output.trans h.bel.output,aE h.bel.size (aE hb.size hg.size),fun q hq=>(hk q (by omega) (aZ hq h.bel.size)).trans (h.bel.block q hq)⟩,h.map.of_block (hk mo (by omega) h.map.lt),h.num,h.put.of_block (hk pb (by omega) h.put.lt),?_,fun k L' a1=>?_,fun L' a6=>?_⟩
 ·rw [aK];exact h5
 ·by_cases a8:k<LO.length
  ·rw [eG a8] at a1;obtain⟨u',h1,h2⟩:=h.row k L' a1;exact⟨u',by rw [eG (by omega)];exact h1,h2⟩
  ·have a9:=(List.getElem?_eq_some_iff.1 a1).1;rw [aK,rI] at a9;obtain rfl:k=LO.length:=by omega
   rw [dO (aA _)] at a1;simp at a1;subst a1;exact⟨u,by rw [dO (by omega)];simp [a7],ba,hu⟩
 ·rcases bX.1 a6 with q|q
  ·exact h.sub L' q
  ·simp at q;subst q;exact hL
theorem OSt.mark (h:OSt w mo pb nc LL w2 v X LO D) (b0:mo<pb) (hw:w.heap.size≤pb) (hp:jY w5 pb nc) (hg:w2.grownBy w5 (some pb)):OSt w mo pb nc LL w5 v X LO D where
 bel:=h.bel.grown hg h.bel.size (fun k hk=>by have:=aJ hk;omega)
 map:=h.map.of_block (hg.block mo h.map.lt (fun e=>by have:=aJ e;omega))
 num:=h.num
 put:=hp
 out:=fK h.out fun q hq=>hg.block q (bT h.out q hq).2 (fun e=>by have:=(bT h.out q hq).1;have:=aJ e;omega)
 row:=h.row
 sub:=h.sub
theorem ZM {b:Nat} (h:iF aO w r b M D) (ty:TypeId):
  ((∀p∈M,p∈D)∧∃w',(Instr.next (.pointer (some ⟨r,0,none⟩)) false ty).run Tryz.prog w= .ok (.tuple #[.bool false]) w'∧Below w.heap.size w w')∨
  ∃p∈M,p.1∉D.map (·.1)∧∃w',(Instr.next (.pointer (some ⟨r,0,none⟩)) false ty).run Tryz.prog w= .ok (.tuple #[.bool true,aO p.1,p.2]) w'∧iF aO w' r b M (D++ [p])∧Below r w w'∧w'.heap.size=w.heap.size:=by
 rcases XZ jF h ty with⟨h1,w',h2,h3⟩|⟨p,hp,hn,w1,o,h3,h2,h4⟩
 ·refine .inl ⟨h1,w',h2,?_⟩;rcases h3 with rfl|rfl
  ·exact aI _ _
  ·exact dI _ _
 ·refine .inr ⟨p,hp,hn,_,h2,h4,?_,?_⟩
  ·have a2:∀k,k<r→(w1.heap.setIfInBounds r o)[k]?=w1.heap[k]?:=fun k hk=>pS (by omega)
   rcases h3 with rfl|rfl
   ·exact⟨rfl,rfl,rfl,by simp,fun k hk=>a2 k hk⟩
   ·exact⟨rfl,rfl,rfl,by simp,fun k hk=>(a2 k hk).trans rfl⟩
  ·rcases h3 with rfl|rfl<;>simp
theorem KX (h:(D.map (·.1)).Nodup) (hn:p.1∉D.map (·.1)):((D++ [p]).map (·.1)).Nodup:=by
 rw [mZ,tR];exact⟨h,by simp,fun a ha b hb e=>by simp at hb;subst hb;subst e;exact hn ha⟩
theorem XT (h:(D.map (·.1)).Nodup) (hs:∀q∈D,q∈M) (hp:p∈M) (hn:p.1∉D.map (·.1)):D.length<M.length:=by
 have h1:=KX h hn;have h2:=Go.Proofs.Plain.nodup_sub_len (m:=M.map (·.1)) h1 fun y hy=>by
  obtain⟨q,hq,e⟩:=dG.1 hy;subst e;rcases bX.1 hq with hq|hq
  ·exact dG.2 ⟨q,hs q hq,rfl⟩
  ·simp at hq;subst hq;exact dG.2 ⟨q,hp,rfl⟩
 rw [oG,oG,aK] at h2;simp at h2;omega
section
attribute [local go_sem] Heavy.uponW
def OrdP (w:World) (LL:List (List Ind)) (e:Ending) (w':World):Prop:=
 ∃v X LO,e= .returned v∧(∃base,w'.ownsRow base 127 1 v (LO:List (List Ind)).length X)∧(∀(k:Nat) L,LO[k]?=some L→∃u,X[k]?=some u∧∃ba,aD ba w' u L)∧(∀L∈LO,L∈LL)∧LO.length≤LL.length∧Below w.heap.size w w'
def OrdI (ba:Nat) (w:World) (va:Value) (X0:List Value) (LL:List (List Ind)) (rb:Nat) (R:List (Ind × Value)):Prop:=
 RowX ba w va X0 LL∧aS aO w rb R∧LL.length≤4000000∧∀L∈LL,L.length≤4000000∧∃z m r bk Dk,L=(z,m)::r∧aN (z,m) R=some (.map (some bk))∧aS aO w bk Dk
theorem OrdI.below (h:OrdI ba w va X0 LL rb R) (hb:Below m w w') (hm:w.heap.size≤m):OrdI ba w' va X0 LL rb R:=
 ⟨h.1.below hb hm,h.2.1.of_block (hb.block rb (aZ h.2.1.lt hm)),h.2.2.1,fun L hL=>by
  obtain⟨h1,z,m',r,bk,Dk,h2,h3,h4⟩:=h.2.2.2 L hL;exact⟨h1,z,m',r,bk,Dk,h2,h3,h4.of_block (hb.block bk (aZ h4.lt hm))⟩⟩
theorem XE (ba:Nat) (w:World) (va:Value) (X0:List Value) (LL:List (List Ind)) (rb:Nat) (R:List (Ind × Value)) (hI:OrdI ba w va X0 LL rb R):
  Calls Tryz.prog 191 #[va,.map (some rb)] w (OrdP w LL):=by
 obtain⟨a,c,rfl,_⟩:=hI.1.read;obtain⟨nc,hnc⟩:∃n,LL.length=n:=⟨_,rfl⟩;rw [hnc] at hI ⊢;have a2:Aside ((∀w2,Below w.heap.size w w2→OrdI ba w2 (.slice a nc c) X0 LL rb R)∧LL.length=nc∧nc≤4000000):=⟨fun w2 hb=>hI.below hb (aA _),hnc,by have:=hI.2.2.1;omega⟩;have f2:=a2.out.2.2;clear hI hnc;have g0:∀w:World,(Instr.makeMap 267 none).run Tryz.prog w= .ok (.map (some w.heap.size)) (w.alloc (.map #[] 0)):=fun w=>rfl
 go_enter Tryz.func191,Tryz.ntmps191
 go_upto_region 2 with fail
 obtain⟨w1,hw1⟩:∃w1,w.alloc (.map #[] 0)=w1:=⟨_,rfl⟩;have b1:=aC w (.map #[] 0);have c3:=aS.new (kv:=aO) w 0;rw [hw1] at b1 c3 ⊢;obtain⟨mo,hmo⟩:∃x,w.heap.size=x:=⟨_,rfl⟩;have d2:=aside hmo;rw [hmo] at c3 ⊢;have d4:=aside2 c3 b1;clear hw1 b1 c3 g0 hmo;go_wp2
 go_loopw [19] (fun s wr=>∃(i:Nat) (D:List (Ind × Value)),s= .int .i64 i∧i≤nc∧aS aO wr mo D∧NumsM nc D∧Below w.heap.size w wr) (fun s _=>nc-(intOf s).toNat)
 case atStart=>exact⟨0,[],rfl,aT _,d4.out.1,fun p hp=>by simp at hp,d4.out.2⟩
 case round=>
  clear d4;obtain⟨wo,rfl⟩:∃wo,wo=wr:=⟨_,rfl⟩;obtain⟨i,D,rfl,hi,hM,hN,hB⟩:=hrel
  by_cases e8:i<nc
  case neg=>
   obtain rfl:i=nc:=by omega
   obtain⟨o,hmkb,a5⟩:=YO i (by omega) wo;have bo:=aC wo o;have c4:mo<wo.heap.size:=hM.lt;obtain⟨wq,hwq⟩:∃wq,wo.alloc o=wq:=⟨_,rfl⟩;obtain⟨pb,hpb⟩:∃x,wo.heap.size=x:=⟨_,rfl⟩;have g5:wq.heap.size=pb+1:=by rw [←hwq,cT,hpb]
   rw [hwq] at hmkb a5 bo;rw [hpb] at hmkb a5 c4;have b6:Aside (OSt w mo pb i LL wq (.slice none 0 0) [] [] D∧mo<pb∧w.heap.size≤pb):=⟨⟨hB.trans (bo.mono hB.size),hM.of_block (bo.block mo hM.lt),hN,a5,oC _ _ _ _,by simp,by simp⟩,c4,by rw [←hpb];exact hB.size⟩;clear hM hN hB bo a5 c4 hwq hpb;go_wp2
   go_loopw [40,10] (fun h7 d5 wr=>∃(j:Nat) (v:Value) (X:List Value) (LO:List (List Ind)),h7= .int .i64 j∧v=d5∧j≤i∧OSt w mo pb i LL wr v X LO D∧LO.length≤j) (fun s _ _=>i-(intOf s).toNat)
   case atStart=>exact⟨0,_,[],[],rfl,rfl,aT _,b6.out.1,aA _⟩
   case round=>
    clear hmkb g5;obtain⟨wp,rfl⟩:∃wp,wp=wr:=⟨_,rfl⟩;obtain⟨j,v,X,LO,rfl,rfl,hj,hS,hl⟩:=hrel
    by_cases e7:j<i
    case neg=>
     obtain rfl:j=i:=by omega
     have hR:Aside (OrdP w LL (.returned v) wp):=by
      refine⟨v,X,LO,rfl,⟨_,hS.out⟩,fun k L hk=>?_,hS.sub,by have:=a2.out.2.1;omega,hS.bel⟩;obtain⟨u,h1,a8,h2⟩:=hS.row k L hk;exact⟨u,h1,a8,h2.below hS.bel (aA _)⟩
     clear hS hl;go_wp2
     go_ret
     exact hR.out
    have f4:(j:Int)<(i:Int):=by omega
    have f5:(0:Int)≤(j:Int):=by omega
    have g7:IntKind.i64.wrap ((j:Int)+1)=(j:Int)+1:=by rw [aG];omega
    have b2:=aside2 hS hl;clear hS hl;go_wp2
    go_loopw [44,10] (fun h8 d5 wr=>∃(k:Nat),h8= .int .i64 k∧v=d5∧k≤i∧OSt w mo pb i LL wr v X LO D) (fun s _ _=>i-(intOf s).toNat)
    case atStart=>exact⟨0,rfl,rfl,aT _,b2.out.1⟩
    case round=>
     obtain⟨wk,rfl⟩:∃wk,wk=wr:=⟨_,rfl⟩;obtain⟨k,rfl,rfl,hk,hS⟩:=hrel
     by_cases a9:k<i
     case neg=>
      obtain rfl:k=i:=by omega
      have hN:Aside (OSt w mo pb k LL wk v X LO D∧LO.length≤j+1):=⟨hS,by have:=b2.out.2;omega⟩;clear hS;go_wp2;go_roundw
      case rel=>exact⟨j+1,v,X,LO,by simp,rfl,by omega,hN.out.1,hN.out.2⟩
      case measure=>simp [intOf];omega
     obtain⟨L,hL⟩:∃L,LL[k]?=some L:=⟨LL[k]'(by rw [a2.out.2.1];exact a9),aL _⟩;have a0:=a2.out.1 wk hS.bel;obtain⟨d6,z,m,r,bk,Dk,hLe,hvk,hMk⟩:=a0.2.2.2 L (aX hL);obtain⟨a',c',e',hrd⟩:=a0.1.read;injection e' with e1 e2 e3
     subst e1;clear e2 e3;obtain⟨g,ai,ci,rfl,_,hgl,hcg,hcx,hO⟩:=hrd k L hL;obtain⟨li,hli⟩:∃n,L.length=n:=⟨_,rfl⟩;have i5:0<li:=by rw [←hli,hLe];simp
     rw [hli] at hcg hO hcx;obtain⟨g8,c8,he,_,_⟩:=hO.some (by rw [hLe];simp);rw [hli] at he;injection he with he1 he2 he3
     subst he1;subst he3;obtain⟨z0,z1⟩:=hO.cells (i:=0) (J:=(z,m)) (by rw [hLe];rfl);rw [rE] at z0 z1;dsimp only at z0 z1;have a9:=sG jF u226 z163 a0.2.1 (z,m);rw [hvk] at a9;replace a9:(Instr.lookup 226 (.map (some rb)) (.agg #[.string z,.int .i64 m]) false).run Tryz.prog wk= .ok (.map (some bk)) wk:=a9;obtain⟨o,hrg,hit⟩:=WQ rR hMk;have bo:=aC wk o;obtain⟨b0,hb0⟩:=hS.put.read (j:=k) (by omega);obtain⟨wv,hwv⟩:∃wv,wk.alloc o=wv:=⟨_,rfl⟩;obtain⟨rr,hrr⟩:∃x,wk.heap.size=x:=⟨_,rfl⟩;rw [hwv] at hrg hit bo;have e9:wv.heap.size=rr+1:=by rw [←hwv,cT,hrr]
     have a5:bk<rr:=by rw [←hrr];exact hMk.lt
     rw [hrr] at hrg hit bo;have a3:Aside (OSt w mo pb i LL wk v X LO D∧iF aO wv rr bk Dk []∧Below rr wk wv∧wk.heap.size=rr∧L∈LL∧L.length=li∧wv.heap.size=rr+1∧bk<rr):=⟨hS,hit,bo,hrr,aX hL,hli,e9,a5⟩;have f3:Aside (∃a8,aD a8 w (.slice (some ⟨g8,0,none⟩) li ci) L):=by
      have b8:=a2.out.1 w (aI _ _);obtain⟨u1,h1,h2⟩:=b8.1.2 k L hL;obtain⟨u2,h3,h4⟩:=a0.1.2 k L hL;obtain⟨g3,ai3,ci3,e3,_,_,_,h5,h6⟩:=hrd k L hL;rw [h1] at h5;have e5:=aJ h5;have e6:=aJ (hcx.symm.trans h1);exact⟨ba,e6▸h2⟩
     have i2:(k:Int)<(i:Int):=by omega
     have i3:(0:Int)≤(k:Int):=by omega
     have g9:IntKind.i64.wrap ((k:Int)+1)=(k:Int)+1:=by rw [aG];omega
     have i4:(0:Int)<(li:Int):=by omega
     clear hS hit bo hrr hL hli a0 hrd hO hMk hwv e9 a5 hvk hLe;go_wp2
     go_loopw [14] (fun h0 wr=>∃(bb:Bool) (DD:List (Ind × Value)),h0= .bool bb∧iF aO wr rr bk Dk DD∧(∀p∈DD,p∈Dk)∧(DD.map (·.1)).Nodup∧Below rr wk wr∧rr<wr.heap.size) (fun _ wr=>Dk.length-sJ wr rr)
     case atStart=>exact⟨_,[],rfl,a3.out.2.1,by simp,by simp,a3.out.2.2.1,by have:=a3.out.2.2.2.2.2.2.1;omega⟩
     case round=>
      clear hrg z0 z1 hb0 a9 hcg;obtain⟨wx,rfl⟩:∃wx,wx=wr:=⟨_,rfl⟩;obtain⟨bb,DD,rfl,hit,hsub,hnd,hbx,hrx⟩:=hrel;have c6:OSt w mo pb i LL wx v X LO D:=a3.out.1.below hbx (by have:=a3.out.2.2.2.1;omega);have c2:=MK hit;rcases ZM hit 0 with⟨c9,wn,a7,hbn⟩|⟨p,hp,hnin,wn,a7,hitn,hbn,hsn⟩
      ·have d7:=c6.below hbn (aA _);have a1:=aside d7;clear hit hsub hnd c9 c6 d7 c2;cases bb
       case false=>
        go_wp2;go_roundw
        case rel=>exact⟨k+1,by simp,rfl,by omega,a1.out⟩
        case measure=>simp [intOf];omega
       go_upto_region 24 with fail
       clear a7;have b5:=heap_alloc_new wn (Obj.cells #[.slice (some ⟨g8,0,none⟩) li ci] 127);have b4:(wn.alloc (Obj.cells #[.slice (some ⟨g8,0,none⟩) li ci] 127)).ownsRow (pb+1) 127 1 v LO.length X:=gS a1.out.out (aC _ _) (aA _);refine iP ?_
       iterate 3 (refine eV rfl fun K hK=>?_;go_simp;refine hK _ _ ?_;clear hK)
       refine gK AC _ rfl _ _ rfl (pb+1) v _ _ rfl b4 (.slice (some ⟨wn.heap.size,0,none⟩) 1 1) 1 [.slice (some ⟨g8,0,none⟩) li ci] rfl (.inr ⟨_,_,rfl,fun t u ht=>by rw [jN,cG];simp only [World.cell?,b5];simpa using ht⟩) rfl (by simp [Value.oneCell']) (by have:=b2.out.2;unfold maxLen;omega) (by have:=b2.out.2;omega) (by rw [cT];have:=a1.out.put.lt;omega) ?_;intro v5 w5 h5 e0 g6;have b8:=a2.out.1 w (aI _ _);obtain⟨h9,c'',e'',hrd''⟩:=b8.1.read;have b9:∃a8,aD a8 w (.slice (some ⟨g8,0,none⟩) li ci) L:=f3.out;obtain⟨a8,b9⟩:=b9;have h6:=a1.out.push b6.out.2.1 b6.out.2.2 a3.out.2.2.2.2.1 b9 h5 e0;have f1:=aside h6;obtain⟨w6,hr6,hbr6,hg6,_⟩:=h6.put.store (j:=k) (by omega);have d8:Aside (OSt w mo pb i LL w6 v5 (X++ [.slice (some ⟨g8,0,none⟩) li ci]) (LO++ [L]) D∧(LO++ [L]).length≤j+1):=⟨h6.mark b6.out.2.1 b6.out.2.2 hbr6 hg6,by have:=b2.out.2;simp;omega⟩;clear h5 e0 g6 h6 hbr6 hg6 b4 b5 b8 hrd'' e'' b9
       go_upto_region 25 with fail
       refine iP ?_
       iterate 3 (refine eV rfl fun K hK=>?_;go_simp;refine hK _ _ ?_;clear hK)
       refine lJ rfl 4 _ _ rfl (v:=.pointer (some ⟨pb,k,none⟩)) (u:=.bool true) rfl rfl hr6 ?_;clear hr6;go_wp2;go_roundw
       case rel=>exact⟨j+1,v5,_,_,by simp,rfl,by omega,d8.out.1,d8.out.2⟩
       case measure=>simp [intOf];omega
      ·obtain⟨⟨y,q⟩,pv⟩:=p;have d1:(Instr.entry (.pointer (some ⟨rr,0,none⟩))).run Tryz.prog wn= .ok (.tuple #[.agg #[.string y,.int .i64 q],pv]) wn:=Bv hitn;replace a7:(Instr.next (.pointer (some ⟨rr,0,none⟩)) false 0).run Tryz.prog wx= .ok (.tuple #[.bool true,.agg #[.string y,.int .i64 q],pv]) wn:=a7;have b3:=XT hnd hsub hp hnin;have d9:Below rr wk wn:=hbx.trans hbn;obtain⟨wz,hwz⟩:∃wz,wn.alloc (.cells #[.string y,.int .i64 q] 63)=wz:=⟨_,rfl⟩;have bz:=aC wn (Obj.cells #[.string y,.int .i64 q] 63);have d3:=heap_alloc_new wn (Obj.cells #[.string y,.int .i64 q] 63);rw [hwz] at bz d3;have d0:Below rr wk wz:=d9.trans (bz.mono (by omega));have c1:OSt w mo pb i LL wz v X LO D:=a3.out.1.below d0 (by have:=a3.out.2.2.2.1;omega);have a6:iF aO wz rr bk Dk (DD++ [((y,q),pv)]):=hitn.of_blocks (bz.block bk (by have:=hitn.map.lt;omega)) (bz.block rr (by omega));have hN:Aside (iF aO wz rr bk Dk (DD++ [((y,q),pv)])∧(∀p∈DD++ [((y,q),pv)],p∈Dk)∧((DD++ [((y,q),pv)]).map (·.1)).Nodup∧Below rr wk wz∧rr<wz.heap.size∧sJ wz rr=sJ wx rr+1∧sJ wx rr<Dk.length):=by
        refine⟨a6,fun p g1=>?_,KX hnd hnin,d0,by have:=bz.size;omega,?_,by rw [c2];exact b3⟩
        ·rcases bX.1 g1 with q1|q1
         ·exact hsub p q1
         ·simp at q1;subst q1;exact hp
        ·rw [MK a6,c2];simp
       obtain⟨jj,hjj,hlk7⟩:=c1.num.look (by omega) c1.map y q;obtain⟨b7,hb7⟩:=c1.put.read (j:=jj) hjj;obtain⟨x0,x1⟩:=eL d3;have f6:(jj:Int)<(i:Int):=by omega
       have f7:(0:Int)≤(jj:Int):=by omega
       clear hit hsub hnd c6 c2 hitn hbn hsn b3 d9 bz d3 d0 c1 a6 hp hnin hbx hrx;cases bb
       case false=>
        go_upto_region 22 with fail
        try rw [hwz]
        clear hwz a7 d1;go_wp2;go_roundw
        case rel=>exact⟨_,_,rfl,hN.out.1,hN.out.2.1,hN.out.2.2.1,hN.out.2.2.2.1,hN.out.2.2.2.2.1⟩
        case measure=>have q1:=hN.out.2.2.2.2.2.1;have q2:=hN.out.2.2.2.2.2.2;omega
       by_cases f8:jj=k
       case pos=>
        subst f8
        go_upto_region 22 with fail
        try rw [hwz]
        clear hwz a7 d1;go_wp2;go_roundw
        case rel=>exact⟨_,_,rfl,hN.out.1,hN.out.2.1,hN.out.2.2.1,hN.out.2.2.2.1,hN.out.2.2.2.2.1⟩
        case measure=>have q1:=hN.out.2.2.2.2.2.1;have q2:=hN.out.2.2.2.2.2.2;omega
       have f9:((jj:Int)==(k:Int))=false:=by simp;omega
       go_upto_region 22 with fail
       try rw [hwz]
       clear hwz a7 d1;go_wp2;go_roundw
       case rel=>exact⟨_,_,rfl,hN.out.1,hN.out.2.1,hN.out.2.2.1,hN.out.2.2.2.1,hN.out.2.2.2.2.1⟩
       case measure=>have q1:=hN.out.2.2.2.2.2.1;have q2:=hN.out.2.2.2.2.2.2;omega
  obtain⟨L,hL⟩:∃L,LL[i]?=some L:=⟨LL[i]'(by rw [a2.out.2.1];exact e8),aL _⟩;have a0:=a2.out.1 wo hB;have d6:=(a0.2.2.2 L (aX hL)).1;obtain⟨a',c',e',hrd⟩:=a0.1.read;injection e' with e1 e2 e3
  subst e1;clear e2 e3;obtain⟨g,ai,ci,rfl,_,hgl,hcg,_,hO⟩:=hrd i L hL;obtain⟨li,hli⟩:∃n,L.length=n:=⟨_,rfl⟩;rw [hli] at hcg hO;have a4:Aside (aD ba wo (.slice ai li ci) L∧L.length=li∧aS aO wo mo D∧NumsM nc D∧Below w.heap.size w wo∧li≤4000000):=⟨hO,hli,hM,hN,hB,by omega⟩;have i0:(i:Int)<(nc:Int):=by omega
  have i1:(0:Int)≤(i:Int):=by omega
  have g7:IntKind.i64.wrap ((i:Int)+1)=(i:Int)+1:=by rw [aG];omega
  clear hO hM hN hB hrd a0 d6 hli;go_wp2
  go_loopw [26] (fun s wr=>∃(j:Nat) (D:List (Ind × Value)),s= .int .i64 j∧j≤li∧aS aO wr mo D∧NumsM nc D∧Below w.heap.size w wr∧aD ba wr (.slice ai li ci) L) (fun s _=>li-(intOf s).toNat)
  case atStart=>exact⟨0,D,rfl,aT _,a4.out.2.2.1,a4.out.2.2.2.1,a4.out.2.2.2.2.1,a4.out.1⟩
  case round=>
   clear hcg;obtain⟨wp,rfl⟩:∃wp,wp=wr:=⟨_,rfl⟩;obtain⟨j,D2,rfl,hj,hM,hN,hB,hO⟩:=hrel
   by_cases e7:j<li
   case neg=>
    obtain rfl:j=li:=by omega
    clear hO;go_wp2;go_roundw
    case rel=>exact⟨i+1,D2,by simp,by omega,hM,hN,hB⟩
    case measure=>simp [intOf];omega
   obtain⟨⟨y,q⟩,hY⟩:∃Y,L[j]?=some Y:=⟨L[j]'(by rw [a4.out.2.1];exact e7),aL _⟩;obtain⟨g8,c8,he,_,_⟩:=hO.some (by intro e;subst e;simp at hY);rw [a4.out.2.1] at he;injection he with he1 he2 he3
   subst he1;subst he3;obtain⟨z0,z1⟩:=hO.cells hY;dsimp only at z0 z1;have f4:(j:Int)<(li:Int):=by omega
   have f5:(0:Int)≤(j:Int):=by omega
   have g9:IntKind.i64.wrap ((j:Int)+1)=(j:Int)+1:=by rw [aG];have:=a4.out.2.2.2.2.2;omega
   have bp:=aC wp (Obj.cells #[.string y,.int .i64 q] 63);have g4:=heap_alloc_new wp (Obj.cells #[.string y,.int .i64 q] 63);have c5:=hM.of_block (bp.block mo hM.lt);obtain⟨wu,f0,hMu,hgu,hsu⟩:=rQ jF u267 c5 (y,q) (.int .i64 (i:Int));replace f0:(Instr.mapUpdate 267 (.map (some mo)) (.agg #[.string y,.int .i64 q]) (.int .i64 (i:Int))).run Tryz.prog (wp.alloc (Obj.cells #[.string y,.int .i64 q] 63))= .ok () wu:=f0;have c4:mo<wp.heap.size:=hM.lt;have c0:Aside (aS aO wu mo (putM (y,q) (.int .i64 (i:Int)) D2)∧NumsM nc (putM (y,q) (.int .i64 (i:Int)) D2)∧Below w.heap.size w wu∧aD ba wu (.slice (some ⟨g8,0,none⟩) li ci) L):=by
    refine⟨hMu,hN.put e8 _,(hB.trans (bp.mono hB.size)).grown hgu (hB.trans (bp.mono hB.size)).size (fun k hk=>by have:=aJ hk;have:=d2.out;omega),?_⟩;have c7:=hO.below bp (aA _);exact fK c7 fun g hg=>hgu.block g (bT c7 g hg).2 (fun e=>by
     have e:=aJ e;subst e;simp only [Value.ownBlock,cB] at hg;subst hg;obtain⟨es,ck,hme,_⟩:=c5;obtain⟨_,⟨e2,_⟩|⟨g2,cap2,cur2,e2,_,hg2,_⟩⟩:=c7
     ·cases e2
     ·injection e2 with e3
      injection e3 with e3
      injection e3 with e4
      rw [←e4,hme] at hg2;cases hg2)
   clear bp c5 hMu hgu hsu hM hN hB hO
   go_upto_region 8 with fail
   obtain⟨x0,x1⟩:=eL g4;go_wp2;go_roundw
   case rel=>exact⟨j+1,_,by simp,by omega,c0.out.1,c0.out.2.1,c0.out.2.2.1,c0.out.2.2.2⟩
   case measure=>simp [intOf];omega
end
def RM (w:World) (rb:Nat) (R:List (Ind × Value)):Prop:=
 aS aO w rb R∧∀k u,aN k R=some u→∃bk Dk,u= .map (some bk)∧rb<bk∧aS aO w bk Dk∧∀p∈Dk,p.2= .bool true
theorem RM.below (h:RM w rb R) (hb:Below m w w') (hm:w.heap.size≤m):RM w' rb R:=
 ⟨h.1.of_block (hb.block rb (aZ h.1.lt hm)),fun k u hk=>by
  obtain⟨bk,Dk,h1,h2,h3,h4⟩:=h.2 k u hk;exact⟨bk,Dk,h1,h2,h3.of_block (hb.block bk (aZ h3.lt hm)),h4⟩⟩
theorem RM.put {bk:Nat} (h:RM w rb R) (hk:rb<bk) (hm:aS aO w bk Dk) (ht:∀p∈Dk,p.2= .bool true) (k:Ind):
  ∃w',(Instr.mapUpdate 226 (.map (some rb)) (aO k) (.map (some bk))).run Tryz.prog w= .ok () w'∧RM w' rb (putM k (.map (some bk)) R)∧w.grownBy w' (some rb)∧w'.heap.size=w.heap.size:=by
 obtain⟨w',hr,hM,hg,hs⟩:=rQ jF u226 h.1 k (.map (some bk));have keep:∀{b D},rb<b→aS aO w b D→aS aO w' b D:=fun {b D} hb hm=>hm.of_block (hg.block b hm.lt (fun e=>by have:=aJ e;omega))
 refine⟨w',hr,⟨hM,fun k' u a0=>?_⟩,hg,hs⟩
 by_cases e:k'=k
 ·subst e;rw [oL] at a0;injection a0 with a0;subst a0
  exact⟨bk,Dk,rfl,hk,keep hk hm,ht⟩
 ·rw [nC e] at a0;obtain⟨b2,D2,h1,h2,h3,h4⟩:=h.2 k' u a0;exact⟨b2,D2,h1,h2,keep h2 h3,h4⟩
def RV (w:World) (u:Value):Prop:=u= .map none∨∃bk Dk,u= .map (some bk)∧aS aO w bk Dk∧∀p∈Dk,p.2= .bool true
theorem RM.look (h:RM w rb R) (x:ByteArray) (m:Int):(Instr.lookup 226 (.map (some rb)) (.agg #[.string x,.int .i64 m]) false).run Tryz.prog w= .ok ((aN (x,m) R).getD (.map none)) w:=
 sG jF u226 z163 h.1 (x,m)
theorem RM.rv (h:RM w rb R) (k:Ind):RV w ((aN k R).getD (.map none)):=by
 cases hk:aN k R with
 |none=>exact .inl rfl
 |some u=>
  obtain⟨bk,Dk,h1,_,h3,h4⟩:=h.2 k u hk;exact .inr ⟨bk,Dk,h1,h3,h4⟩
theorem ZA (x:ByteArray) (m:Int) (w:World):(Instr.lookup 163 (.map none) (.agg #[.string x,.int .i64 m]) false).run Tryz.prog w= .ok (.bool false) w:=by
 have a2:(Go.underlying 163).run Tryz.prog w= .ok (.map 63 4) w:=dV rR w;have hc:=fun em w=>jF.check em (x,m) w
 simp only [aO] at hc;have hf:=jF.find (x,m) w [] [] trivial;simp only [aO] at hf;unfold Instr.lookup;simp [aY,a2,hc,hf,z4,bI,Result.andThen]
theorem RV.look (h:RV w u) (x:ByteArray) (m:Int):∃F:Bool,∀w2,Below w.heap.size w w2→(Instr.lookup 163 u (.agg #[.string x,.int .i64 m]) false).run Tryz.prog w2= .ok (.bool F) w2:=by
 rcases h with rfl|⟨bk,Dk,rfl,h1,h2⟩
 ·exact⟨false,fun w2 _=>ZA x m w2⟩
 ·exact⟨gT (x,m) (Dk.map (·.1)),fun w2 hb=>yW (h1.of_block (hb.block bk h1.lt)) h2 x m⟩
theorem RowX.keep {base:Nat} (h:RowX base w v X LL) (hg:w.grownBy w' (Option.some d)) (hd:d<base):RowX base w' v X LL:=
 ⟨fK h.1 fun q hq=>hg.block q (bT h.1 q hq).2 (fun e=>by have:=(bT h.1 q hq).1;have:=aJ e;omega),fun k L hk=>by
  obtain⟨u,h1,h2⟩:=h.2 k L hk;exact⟨u,h1,fK h2 fun q hq=>hg.block q (bT h2 q hq).2 (fun e=>by have:=(bT h2 q hq).1;have:=aJ e;omega)⟩⟩
theorem RM.keep (h:RM w rb R) (hg:w.grownBy w' (some d)) (hd:∀b D,aS aO w b D→b<d):RM w' rb R:=
 ⟨h.1.of_block (hg.block rb h.1.lt (fun e=>by have:=hd rb R h.1;have:=aJ e;omega)),fun k u hk=>by
  obtain⟨bk,Dk,h1,h2,h3,h4⟩:=h.2 k u hk;exact⟨bk,Dk,h1,h2,h3.of_block (hg.block bk h3.lt (fun e=>by have:=hd bk Dk h3;have:=aJ e;omega)),h4⟩⟩
theorem JW (h:∀p∈D,p.2= .bool true) (k:Ind):∀p∈putM k (.bool true) D,p.2= .bool true:=fun p hp=>by
 rcases yO hp with e|e
 ·rw [e]
 ·exact h p e
def PCompsP (w:World) (e:Ending) (w':World):Prop:=
 ∃v X LO,e= .returned v∧(∃base,w'.ownsRow base 127 1 v (LO:List (List Ind)).length X)∧(∀(k:Nat) L,LO[k]?=some L→∃u,X[k]?=some u∧∃ba,aD ba w' u L)∧LO.length≤4000000∧(∀L∈LO,L.length≤4000000)∧Below w.heap.size w w'
theorem zP {row:Option Nat} (h:a.grownBy b (some d)) (hg:b.grownBy c row) (hr:∀k,row=some k→a.heap.size≤k∨k=d):a.grownBy c (some d):=
 ⟨hg.os.trans h.os,hg.tape.trans h.tape,hg.output.trans h.output,aE h.size hg.size,fun k hk a1=>(hg.block k (aZ hk h.size) (fun e=>by
  rcases hr k e.symm with q|q
  ·omega
  ·exact a1 (by rw [q]))).trans (h.block k hk a1)⟩
theorem pC (h:a.grownBy b (some d)) (hb:Below m b c) (hm:b.heap.size≤m):a.grownBy c (some d):=
 ⟨hb.os.trans h.os,hb.tape.trans h.tape,hb.output.trans h.output,aE h.size hb.size,fun k hk a1=>(hb.block k (by have:=h.size;omega)).trans (h.block k hk a1)⟩
theorem Hm (h:a.grownBy b (some d)) (hm:m≤d) (hs:m≤a.heap.size):Below m a b:=
 ⟨h.os,h.tape,h.output,h.size,fun k hk=>h.block k (by omega) (fun e=>by have:=aJ e;omega)⟩
end Go.Proofs.YtbdpdeonapmlgaaGreatDoor
