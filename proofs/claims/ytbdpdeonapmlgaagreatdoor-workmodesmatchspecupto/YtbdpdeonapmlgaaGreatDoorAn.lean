/- Lemmas; no condition. -/
import Derived.Test.YtbdpdeonapmlgaaGreatDoorAm
set_option linter.all false
set_option maxHeartbeats 8000000
set_option maxRecDepth 100000
namespace Go.Proofs.YtbdpdeonapmlgaaGreatDoor
open Go.RowKit Go.Big Go.RowsK Go.MapK
variable {P:List Cl} {L L3 Ld L8 M Lo:List Ind} {LL:List (List Ind)} {v v5 v' v8 u:Value} {w w' w5 w2:Wo} {X:Lv} {k y z I:Ind} {i b m:Nat}
def Dir (P:List Cl) (a b:Ind):Prop:=b∈aV P a
def cV (P:List Cl) (a b:Ind):Prop:=Relation.TransGen (Dir P) a b
def tI (P:List Cl):List Ind:=P.flatMap Cl.atoms
def UL (hF:∀C∈P,C.flt=0):(tI P).length≤P.length*10000:=by
 induction P with
 |nil=>simp [tI]
 |cons C r ih=>
  have h1:=yI (hF C (by simp));have h2:C.atoms.length≤C.b.lits.length:=JZ _ _;have h3:=ih fun D hD=>hF D (by simp [hD])
  simp only [tI,oQ,aI,iE] at h3 ⊢;omega
def RU (h:y∈aV P k):y∈tI P:=by
 unfold aV at h;obtain⟨C,hC,h⟩:=vS.1 h;unfold lB at h;split at h
 ·exact vS.2 ⟨C,hC,h⟩
 ·cases h
def LA (h:cV P k y):y∈tI P:=by
 induction h with
 |single h=>exact RU h
 |tail _ h _=>exact RU h
def lenOf:Value→Nat
 | .slice _ n _=>n
 |_=>0
def UsI (base:Nat) (w:Wo) (v:Value) (P:List Cl) (k:Ind) (L:List Ind):Prop:=aD base w v L∧L.Nodup∧(∀y∈L,cV P k y)∧∀y∈aV P k,y∈L
def UsI.below {base:Nat} (h:UsI base w v P k L) (hb:Below m w w') (hm:w.heap.size≤m):UsI base w' v P k L:=⟨h.1.below hb hm,h.2⟩
def UsI.len {base:Nat} (h:UsI base w v P k L) (hF:∀C∈P,C.flt=0) (hP:P.length≤300):L.length≤3000000:=by
 have h1:=Go.Proofs.Plain.nodup_sub_len h.2.1 fun y hy=>LA (h.2.2.1 y hy)
 have h2:=UL hF;omega
def kP (P:List Cl) (L M:List Ind):Prop:=∀y∈M,∀z∈aV P y,z∈L
def UsI.done {base:Nat} (h:UsI base w v P k L) (hc:kP P L L):∀y,y∈L↔cV P k y:=fun y=>⟨h.2.2.1 y,fun hu=>by
 induction hu with
 |single h1=>exact h.2.2.2 _ h1
 |tail _ h1 ih=>exact hc _ ih _ h1⟩
def UsesP (w:Wo) (P:List Cl) (k:Ind) (e:Ending) (w':Wo):Prop:=
 ∃v L,e= .returned v∧aD w.heap.size w' v L∧L.Nodup∧(∀y,y∈L↔cV P k y)∧L.length≤3000000∧Bz w w'
def aD.some2 {base:Nat} (h:aD base w v L) (hL:L≠ []):∃g c,v= .slice (Option.some ⟨g,0,none⟩) L.length c∧base≤g∧g<w.heap.size∧IndsV w.heap.size w L (Option.some ⟨g,0,none⟩):=by
 obtain⟨g,c,e,h1,h2⟩:=h.some hL;obtain⟨a,c',e',h3⟩:=h.read;rw [e] at e';injection e' with e1 e2 e3
 exact⟨g,c,e,h1,h2,e1▸h3⟩
def SepJ (v v8:Value):Prop:=∀g,v8.ownBlock=some g→v.ownBlock≠some g
def SepJ.of {w8:Wo} (h:aD b w v L) (h8:aD w.heap.size w8 v8 L8):SepJ v v8:=fun g h1 h2=>by
 have:=(cB h8 g h1).1;have:=(cB h g h2).2;omega
def aD.push {base:Nat} {x:ByteArray} {m:Int} (h:aD base w2 v L) (a0:base≤w2.heap.size)
  (h5:w5.ownsRow base 63 2 v5 (L.length+1) (L.flatMap aT++ [.string x,.int .i64 m]))
  (hg:(w2.alloc (.cells #[.string x,.int .i64 m] 63)).grownBy w5 v.ownBlock) (hv:v5.ownBlock=v.ownBlock∨v5.ownBlock=Option.some (w2.alloc (.cells #[.string x,.int .i64 m] 63)).heap.size):
  aD base w5 v5 (L++ [(x,m)])∧Below base w2 w5∧(∀b8 v8 L8,aD b8 w2 v8 L8→SepJ v v8→aD b8 w5 v8 L8∧SepJ v5 v8):=by
 have hb:=aC w2 (.cells #[.string x,.int .i64 m] 63);refine⟨?_,?_,fun b8 v8 L8 h8 hs=>⟨gF (h8.below hb (aA _)) fun g a1=>hg.block g ?_ (fun e=>hs g a1 e.symm),fun g a1 e=>?_⟩⟩
 ·unfold aD;rw [aI,pZ];simpa [aT] using h5
 ·exact((hb.mono a0)).grown hg (aE a0 hb.size) fun k hk=>(cB h k hk).1
 ·have:=(cB h8 g a1).2;rw [cW];omega
 ·rcases hv with hv|hv
  ·exact hs g a1 (hv▸e)
  ·rw [hv] at e;have h1:=aL e;have:=(cB h8 g a1).2;rw [cW] at h1;omega
def UsI.push {base:Nat} (h:UsI base w v P k L) (h':aD base w' v' (L++ [z])) (hz:z∉L) (hy:y∈L) (hd:z∈aV P y):UsI base w' v' P k (L++ [z]):=by
 refine⟨h',?_,fun u hu=>?_,fun u hu=>oP _ (h.2.2.2 u hu)⟩
 ·rw [vR];exact⟨h.2.1,by simp,fun a ha b hb e=>by simp at hb;subst hb;subst e;exact hz ha⟩
 ·rcases bX.1 hu with hu|hu
  ·exact h.2.2.1 u hu
  ·simp at hu;subst hu;exact .tail (h.2.2.1 y hy) hd
def kP.push (h:kP P L (L.take i)) (hi:i≤L.length):kP P (L++ [z]) ((L++ [z]).take i):=by
 rw [JT hi];exact fun y hy u hu=>oP _ (h y hy u hu)
def kP.step (h:kP P L (L.take i)) (hy:L[i]?=some y) (hd:∀z∈aV P y,z∈L):kP P L (L.take (i+1)):=by
 rw [gK,hy];intro u hu;rcases bX.1 hu with hu|hu
 ·exact h u hu
 ·simp at hu;subst hu;exact hd
section
attribute [local go_sem] Heavy.uponW
def XE (P:List Cl) (x:ByteArray) (m:Int) (n:Nat) (w:Wo) (a:Option Addr) (len c:Nat) (hl:P.length=len) (c6:len≤300) (h:ClsV n w P a) (hF:∀C∈P,C.flt=0) (hn:n≤w.heap.size):
  Cz 145 #[.slice a len c,.agg #[.string x,.int .i64 m]] w (UsesP w P (x,m)):=by
 have Al:Aside (P.length≤300∧∀C∈P,C.flt=0):=⟨by omega,hF⟩;obtain⟨wb,hwb,b0,hq,hsz⟩:=ebx w (Obj.cells #[.string x,.int .i64 m] 63);have fa:Aside (∀w2,Bz wb w2→_):=fun(w2:Wo) (hb:Bz wb w2)=>eW ((hb.block w.heap.size (by omega)).trans hq)
 have d8:Aside (∀w2,Bz wb w2→Bz w w2):=fun w2 hb=>b0.trans (hb.mono b0.size)
 have dd:Aside (∀w2,Bz wb w2→∀(x':ByteArray) (m':Int),Cz 200 #[.slice a len c,.agg #[.string x',.int .i64 m']] w2 (DirP w2 P (x',m'))):=fun w2 hb x' m'=>RS P x' m' n w2 a len c hl c6 (h.below (b0.trans (hb.mono b0.size)) hn) hF (aE (aE hn b0.size) hb.size)
 have e7:Aside (w.heap.size≤wb.heap.size):=b0.size;clear hq hsz hl hF h b0;obtain⟨x0,x1⟩:=fa.o wb (aG _ _);go_enter Tryz.func145,Tryz.ntmps145
 go_upto_region 1 with fail
 clear hwb
 go_wp2_with (go_at_call 200;with_reducible refine(dd.o _ (aG _ _) x m).mono ?_)
 rintro e w1 ⟨v5,L5,rfl,hO,hN,hmem,hlen,hb1⟩;have d1:Aside (UsI wb.heap.size w1 v5 P (x,m) L5):=⟨hO,hN,fun y hy=>.single ((hmem y).1 hy),fun y hy=>(hmem y).2 hy⟩;have e1:Bz wb w1:=hb1;clear hO hN hmem hlen hb1 x0 x1;go_wp2
 go_loopw [5,6] (fun s5 s6 wr=>∃(L:List Ind) (v:Value) (nn:Int),v=s5∧s6= .int .i64 nn∧UsI wb.heap.size wr v P (x,m) L∧(nn= -1∨∃k:Nat,nn=k∧k≤L.length∧kP P L (L.take k))∧Bz wb wr) (fun s5 s6 _=>2*(3000000-lenOf s5)+if intOf s6=lenOf s5 then 0 else 1)
 case atStart=>exact⟨L5,v5,-1,rfl,rfl,d1.o,.inl rfl,e1⟩
 case round=>
  clear d1 e1;obtain⟨wo,rfl⟩:=enr wr;obtain⟨L,v,nn,rfl,rfl,hU,hnn,hB⟩:=hrel;obtain⟨a5,c5,rfl,_⟩:=hU.1.read;have e4:=hU.len Al.o.2 Al.o.1;obtain⟨n0,hn0⟩:=enm L.length;rw [hn0] at hU e4 ⊢;have a2:=aside hU;have a7:=aside hn0
  by_cases c1:nn=n0
  case pos=>
   subst c1;have a3:kP P L L:=by
    rcases hnn with h|⟨k,hk,hk2,h⟩
    ·omega
    ·have:k=L.length:=by omega
     rw [this,iP] at h;exact h
   have e8:Aside (∀y,y∈L↔cV P (x,m) y):=hU.done a3;clear hnn hU hn0 a3;go_wp2
   go_loopw [10,11] (fun f7 f8 wr=>∃(k:Nat) (u:Value),u=f7∧f8= .int .i64 k∧k≤n0∧bO wb.heap.size wr u (L.take k) k∧Bz wo wr) (fun _ s _=>n0-(intOf s).toNat)
   case atStart=>exact⟨0,_,rfl,rfl,aJ _,⟨[],aD.nil _ _,by simp,by simp,by simp⟩,aG _ _⟩
   case round=>
    obtain⟨wi,rfl⟩:=enr wr;obtain⟨k,u,rfl,rfl,hk,hD,hBi⟩:=hrel
    by_cases d4:k<n0
    case neg=>
     obtain rfl:k=n0:=by omega
     have hR:Aside (UsesP w P (x,m) (.returned u) wi):=by
      obtain⟨L',h1,h2,h3,h4⟩:=hD;refine⟨u,L',rfl,gM h1 e7.o,h2,fun y=>?_,by omega,d8.o _ (hB.trans (hBi.mono hB.size))⟩;rw [h3,←a7.o,iP];exact e8.o y
     clear hD;go_wp2
     go_ret
     exact hR.o
    obtain⟨⟨y,q⟩,hY⟩:∃Y,L[k]?=some Y:=⟨L[k]'(by rw [a7.o];exact d4),aZ _⟩;obtain⟨g,c',he,hg1,hg2⟩:=a2.o.1.some (by intro e;subst e;simp at hY);injection he with he1 he2 he3
    subst he1;obtain⟨y0,y1⟩:=(a2.o.below hBi (aA _)).1.cells hY;dsimp only at y0 y1;have d9:=aside hD;have a9:Aside (L.take (k+1)=L.take k++ [(y,q)]):=by show _=_;rw [gK,hY];rfl
    obtain⟨f0,f1,f6⟩:=elt (i:=k) (n:=n0) (by omega) (by omega);clear hD hY he2 he3
    go_wp2_with (go_at_call 147;with_reducible refine(bO.sorted d9.o (aE hB.size hBi.size) (by omega) y q).mono ?_)
    rintro e w4 ⟨u3,rfl,hE,hb⟩;have E4:=aside hE;have f4:Bz wo w4:=hBi.trans (hb.mono hBi.size);clear hE hb y0 y1;go_wp2;go_roundw
    case rel=>exact⟨k+1,u3,rfl,by simp,by omega,by rw [a9.o];exact E4.o,f4⟩
    case measure=>simp [intOf];omega
  have g1:(nn !=(n0:Int))=true:=by simpa using c1
  have b4:kP P L (L.take 0):=fun y hy=>by simp at hy
  have a0:=aside b4;have c9:=aside c1;clear hnn hU hn0 b4 c1;go_wp2
  go_loopw [5,7] (fun s5 s7 wr=>∃(i:Nat) (L':List Ind) (v:Value),v=s5∧s7= .int .i64 i∧i≤n0∧n0≤L'.length∧UsI wb.heap.size wr v P (x,m) L'∧kP P L' (L'.take i)∧Bz wb wr) (fun _ s _=>n0-(intOf s).toNat)
  case atStart=>exact⟨0,L,_,rfl,rfl,aJ _,nF a7.o.symm,a2.o,a0.o,hB⟩
  case round=>
   clear a2 a0 hB;obtain⟨wi,rfl⟩:=enr wr;obtain⟨i,L',v,rfl,rfl,hi,hL',hU,a3,hB⟩:=hrel
   by_cases d4:i<n0
   case neg=>
    obtain rfl:i=n0:=by omega
    have e6:=hU.len Al.o.2 Al.o.1;have a2:=aside hU;have a0:=aside a3;have f3:Aside (lenOf v=L'.length):=by
     obtain⟨a',c',rfl,_⟩:=hU.1.read;rfl
    clear hU a3;go_wp2;go_roundw
    case rel=>exact⟨L',v,i,rfl,rfl,a2.o,.inr ⟨i,rfl,hL',a0.o⟩,hB⟩
    case measure=>
     have h1:=f3.o;have h2:=c9.o;have h3:lenOf (.slice a5 i c5)=i:=rfl;simp only [intOf,h1,h3,h2,fN];split<;>omega
   obtain⟨⟨y,q⟩,hY⟩:∃Y,L'[i]?=some Y:=⟨L'[i]'(by omega),aZ _⟩;obtain⟨g,c',rfl,hg1,hg2⟩:=hU.1.some (by intro e;subst e;simp at hY);obtain⟨y0,y1⟩:=hU.1.cells hY;dsimp only at y0 y1;have a2:=aside hU;have a0:=aside a3;have d3:=aside hY;have f0:(i:Int)<(n0:Int):=by omega
   have f9:(i:Int)<(L'.length:Int):=by omega
   have f1:(0:Int)≤(i:Int):=by omega
   have f6:=ewr (i:=i) (by omega);clear hU a3 hY
   go_wp2_with (go_at_call 200;with_reducible refine(dd.o _ hB y q).mono ?_)
   rintro e w2 ⟨v8,L8,rfl,hO8,_,hm8,hl8,hb2⟩;have e2:Bz wb w2:=hB.trans (hb2.mono hB.size);have d2:Aside (UsI wb.heap.size w2 (.slice (some ⟨g,0,none⟩) L'.length c') P (x,m) L'):=a2.o.below hb2 (aA _);have a1:Aside (SepJ (.slice (some ⟨g,0,none⟩) L'.length c') v8):=SepJ.of a2.o.1 hO8;obtain⟨a8,c8,rfl,_⟩:=hO8.read;obtain⟨n8,hn8⟩:=enm L8.length;rw [hn8] at hO8 a1 hl8;rw [hn8];have b1:=aside hO8;have a4:=aside2 hm8 hn8;clear hO8 hm8 hn8 hb2 y0 y1 a2;go_wp2
   go_loopw [5,9] (fun s5 s9 wr=>∃(j:Nat) (M:List Ind) (v:Value),v=s5∧s9= .int .i64 j∧j≤n8∧n0≤M.length∧UsI wb.heap.size wr v P (x,m) M∧aD wi.heap.size wr (.slice a8 n8 c8) L8∧SepJ v (.slice a8 n8 c8)∧kP P M (M.take i)∧M[i]?=some (y,q)∧(∀z∈L8.take j,z∈M)∧Bz wb wr) (fun _ s _=>n8-(intOf s).toNat)
   case atStart=>exact⟨0,L',_,rfl,rfl,aJ _,hL',d2.o,b1.o,a1.o,a0.o,d3.o,by simp,e2⟩
   case round=>
    clear d2 b1 a1 a0 d3 e2 hB;obtain⟨wj,rfl⟩:=enr wr;obtain⟨j,M,v,rfl,rfl,hj,hM,hU,hO8,a1,a3,hY,hin,hB⟩:=hrel
    by_cases f5:j<n8
    case neg=>
     obtain rfl:j=n8:=by omega
     have b5:=a3.step hY fun z hz=>hin z (by rw [←a4.o.2,iP];exact(a4.o.1 z).2 hz)
     have a2:=aside hU;have a0:=aside b5;clear hU hO8 a1 a3 hY hin b5;go_wp2;go_roundw
     case rel=>exact⟨i+1,M,v,rfl,by simp,by omega,hM,a2.o,a0.o,hB⟩
     case measure=>simp [intOf];omega
    obtain⟨⟨z,r⟩,hZ⟩:∃Z,L8[j]?=some Z:=⟨L8[j]'(by rw [a4.o.2];exact f5),aZ _⟩;obtain⟨g5,c5',rfl,hg5,hg52,hV⟩:=hU.1.some2 (by intro e;subst e;simp at hY);obtain⟨g8,c8',he,hg8,hg82⟩:=hO8.some (by intro e;subst e;simp at hZ);injection he with he1 he2 he3
    subst he1;obtain⟨z0,z1⟩:=hO8.cells hZ;dsimp only at z0 z1;have e0:=hU.len Al.o.2 Al.o.1;obtain⟨ml,hml⟩:=enm M.length;have c2:=HF M z r wj.heap.size wj (some ⟨g5,0,none⟩) ml c5' hml (by omega) hV (aA _);rw [hml] at hU a1 hM e0;rw [hml];obtain⟨F,hF⟩:=enm (iW (z,r) M);rw [hF] at c2;have FA:=aside hF;have hA:Aside (UsI wb.heap.size wj (.slice (some ⟨g5,0,none⟩) ml c5') P (x,m) M∧aD wi.heap.size wj (.slice (some ⟨g8,0,none⟩) n8 c8) L8∧SepJ (.slice (some ⟨g5,0,none⟩) ml c5') (.slice (some ⟨g8,0,none⟩) n8 c8)∧kP P M (M.take i)∧M[i]?=some (y,q)∧(∀z∈L8.take j,z∈M)∧L8[j]?=some (z,r)∧M.length=ml∧M.length≤3000000):=⟨hU,hO8,a1,a3,hY,hin,hZ,hml,by omega⟩;obtain⟨g0,hj3,hw5⟩:=elt (i:=j) (n:=n8) (by omega) (by omega);have a9:Aside (L8.take (j+1)=L8.take j++ [(z,r)]):=by show _=_;rw [gK,hZ];rfl
    have e9:Aside ((z,r)∈aV P (y,q)):=(a4.o.1 _).1 (aP hZ);clear hU hO8 a1 a3 hY hin hZ hV hml hF he2 he3
    go_wp2_with (go_at_call 146;with_reducible refine c2.mono ?_)
    rintro e w3 ⟨rfl,hb3⟩;have e3:Bz wb w3:=hB.trans (hb3.mono hB.size);have b2:Aside (UsI wb.heap.size w3 (.slice (some ⟨g5,0,none⟩) ml c5') P (x,m) M):=hA.o.1.below hb3 (aA _);have c0:Aside (aD wi.heap.size w3 (.slice (some ⟨g8,0,none⟩) n8 c8) L8):=hA.o.2.1.below hb3 (aA _);obtain⟨y0,y1⟩:=c0.o.cells hA.o.2.2.2.2.2.2.1;dsimp only at y0 y1;clear c2 hb3 z0 z1;cases F
    case true=>
     have c7:Aside (∀u∈L8.take (j+1),u∈M):=by
      show∀u∈_,_;rw [a9.o];intro u hu;rcases bX.1 hu with hu|hu
      ·exact hA.o.2.2.2.2.2.1 u hu
      ·simp at hu;subst hu;exact nV.1 FA.o
     clear a9;go_wp2;go_roundw
     case rel=>exact⟨j+1,M,_,rfl,by simp,by omega,by rw [hA.o.2.2.2.2.2.2.2.1];exact hM,b2.o,c0.o,hA.o.2.2.1,hA.o.2.2.2.1,hA.o.2.2.2.2.1,c7.o,e3⟩
     case measure=>simp [intOf];omega
    have d5:Aside ((z,r)∉M):=uK.1 FA.o;have c3:=aC w3 (Obj.cells #[.string z,.int .i64 r] 63);have d6:=aK w3 (Obj.cells #[.string z,.int .i64 r] 63);have d0:(w3.alloc (Obj.cells #[.string z,.int .i64 r] 63)).ownsRow wb.heap.size 63 2 (.slice (some ⟨g5,0,none⟩) ml c5') ml (M.flatMap aT):=by
     have:=b2.o.1.below c3 (aA _);unfold aD at this;rw [hA.o.2.2.2.2.2.2.2.1] at this;exact this
    have b9:SrcAt (w3.alloc (Obj.cells #[.string z,.int .i64 r] 63)) (.slice (some ⟨w3.heap.size,0,none⟩) 1 1) 1 [.string z,.int .i64 r]:=.inr ⟨_,_,rfl,fun t u ht=>by
     rw [jX,bT];simp only [World.cell?,d6];simpa using ht⟩
    have b8:∀u∈([.string z,.int .i64 r]:Lv),u.oneCell'=true:=by simp [Value.oneCell']
    have c4:ml+1≤maxLen∧(ml+1)*24≤140737488355328:=by unfold maxLen;omega
    have b3:wb.heap.size≤(w3.alloc (Obj.cells #[.string z,.int .i64 r] 63)).heap.size:=aE e3.size c3.size;have b6:Aside (∀v5 w5,w5.ownsRow wb.heap.size 63 2 v5 (ml+1) (M.flatMap aT++ [.string z,.int .i64 r])→(w3.alloc (Obj.cells #[.string z,.int .i64 r] 63)).grownBy w5 (Value.ownBlock (.slice (some ⟨g5,0,none⟩) ml c5'))→(v5.ownBlock=Value.ownBlock (.slice (some ⟨g5,0,none⟩) ml c5')∨v5.ownBlock=some (w3.alloc (Obj.cells #[.string z,.int .i64 r] 63)).heap.size)→
      UsI wb.heap.size w5 v5 P (x,m) (M++ [(z,r)])∧aD wi.heap.size w5 (.slice (some ⟨g8,0,none⟩) n8 c8) L8∧SepJ v5 (.slice (some ⟨g8,0,none⟩) n8 c8)∧kP P (M++ [(z,r)]) ((M++ [(z,r)]).take i)∧(M++ [(z,r)])[i]?=some (y,q)∧(∀u∈L8.take (j+1),u∈M++ [(z,r)])∧n0≤(M++ [(z,r)]).length∧Bz wb w5):=by
     show∀v5 w5,_;intro v5 w5 h1 h2 h3;obtain⟨q1,q2,q3,q4,q5,q6,q7,q8,q9⟩:=hA.o;rw [←q8] at h1;obtain⟨p1,p2,p3⟩:=aD.push b2.o.1 e3.size h1 h2 h3;obtain⟨p4,p5⟩:=p3 _ _ _ c0.o q3;have f2:i<M.length:=(aO.1 q5).1;refine⟨b2.o.push p1 d5.o (aP q5) e9.o,p4,p5,q4.push (by omega),?_,?_,?_,e3.trans p2⟩
     ·rw [fF f2];exact q5
     ·rw [a9.o];intro u hu;rcases bX.1 hu with hu|hu
      ·exact oP _ (q6 u hu)
      ·exact VZ _ hu
     ·rw [aI,q8];omega
    clear a9 d5 b2 c0 hA d6 c3
    go_wp2_with (at_builtin;refine gE kZ _ rfl _ _ rfl wb.heap.size _ _ _ rfl d0 _ _ _ rfl b9 rfl b8 c4.1 c4.2 b3 ?_;intro v5 w5 h5 b7 d7)
    have a6:Aside _:=b6.o _ _ h5 b7 d7;clear b6 h5 b7 d7 d0 b9 b8 c4 b3 y0 y1;go_wp2;go_roundw
    case rel=>exact⟨j+1,_,_,rfl,by simp,by omega,a6.o.2.2.2.2.2.2.1,a6.o.1,a6.o.2.1,a6.o.2.2.1,a6.o.2.2.2.1,a6.o.2.2.2.2.1,a6.o.2.2.2.2.2.1,a6.o.2.2.2.2.2.2.2⟩
    case measure=>simp [intOf];omega
end
section
attribute [local go_sem] Heavy.uponW
def PredsP (w:Wo) (e:Ending) (w':Wo):Prop:=
 ∃v L,e= .returned v∧aD w.heap.size w' v L∧L.Nodup∧L.length≤900000300∧Bz w w'
def Am (P:List Cl) (n:Nat) (w:Wo) (a:Option Addr) (len c:Nat) (hl:P.length=len) (a6:len≤300) (h:ClsV n w P a) (hF:∀C∈P,C.flt=0) (hn:n≤w.heap.size):
  Cz 144 #[.slice a len c] w (PredsP w):=by
 have Al:=aside hl;have dd:Aside (∀w2,Bz w w2→∀(x':ByteArray) (m':Int),Cz 200 #[.slice a len c,.agg #[.string x',.int .i64 m']] w2 (DirP w2 P (x',m'))):=fun w2 hb x' m'=>RS P x' m' n w2 a len c hl a6 (h.below hb hn) hF (aE hn hb.size)
 have hA:=aside2 h hn;clear hl hF h hn;go_enter Tryz.func144,Tryz.ntmps144;go_wp2
 go_loopw [3,4] (fun s3 s4 wr=>∃(i:Nat) (v:Value) (S:List Ind),v=s3∧s4= .int .i64 i∧i≤len∧bO w.heap.size wr v S (i*3000001)∧Bz w wr) (fun _ s _=>len-(intOf s).toNat)
 case atStart=>exact⟨0,_,[],rfl,rfl,aJ _,⟨[],aD.nil _ _,by simp,by simp,by simp⟩,aG _ _⟩
 case round=>
  obtain⟨wo,rfl⟩:=enr wr;obtain⟨i,v,S,rfl,rfl,hi,hD,hB⟩:=hrel
  by_cases a9:i<len
  case neg=>
   obtain rfl:i=len:=by omega
   have hR:Aside (PredsP w (.returned v) wo):=by
    obtain⟨L,h1,h2,h3,h4⟩:=hD;exact⟨v,L,rfl,h1,h2,by omega,hB⟩
   clear hD;go_wp2
   go_ret
   exact hR.o
  obtain⟨C,hC⟩:=egf Al.o a9;obtain⟨g,off,vh,vb,rfl,hg,hc,hvh,hvb⟩:=hA.o.1.read hC;obtain⟨th,tb,vars⟩:=C;dsimp only at hc hvh hvb;obtain⟨k1,v1,nm1,g1,num1,den1,a4⟩:=th;obtain⟨k2,v2',nm2,g2,num2,den2,args2⟩:=tb;simp only [TmV] at hvh hvb;obtain⟨_,_,a1,c1,rfl,⟨⟨p1,q1,rfl,_⟩,⟨p2,q2,rfl,_⟩⟩,_⟩:=hvh;obtain⟨_,_,a2,c2,rfl,⟨⟨p3,q3,rfl,_⟩,⟨p4,q4,rfl,_⟩⟩,_⟩:=hvb;generalize a4.length=l1,num1.length=n1,den1.length=n2,args2.length=l2,num2.length=n3,den2.length=n4 at*;have a5:Aside (∀w2,Bz w w2→_):=fun(w2:Wo) (hb:Bz w w2)=>sR (hc.below hb (bG hg hA.o.2))
  obtain⟨b0,hi3,hw3⟩:=elt (i:=i) (n:=len) (by omega) (by omega);have dk:Aside (∀w2,Cz 39 #[.agg (tA k1 v1 nm1 g1 p1 n1 q1 p2 n2 q2 a1 l1 c1)] w2 fun e w'=>e= .returned (.agg #[.string nm1,.int .i64 l1])∧Bz w2 w'):=fun w2=>nW k1 v1 nm1 g1 _ _ _ _ _ w2
  have a3:=aside hD;clear hc hC hD hA;obtain⟨x0,x1,x2,x3,x4,x5,x6,x7,x8,x9,x10,x11,x12,x13,x14⟩:=a5.o wo hB
  go_wp2_with (go_at_call 39;with_reducible refine(dk.o _).mono ?_)
  rintro e w1 ⟨rfl,hb⟩;have f1:Bz w w1:=hB.trans (hb.mono hB.size);have D1:Aside (bO w.heap.size w1 v S (i*3000001)):=bO.below a3.o hb (aA _);clear hb x0 x1 x2 x3 x4 x5 x6 x7 x8 x9 x10 x11 x12 x13 x14 a3;obtain⟨x0,x1,x2,x3,x4,x5,x6,x7,x8,x9,x10,x11,x12,x13,x14⟩:=a5.o w1 f1
  go_wp2_with (go_at_call 147;with_reducible refine(bO.sorted D1.o f1.size (by omega) nm1 l1).mono ?_)
  rintro e w2 ⟨u,rfl,hE,hb⟩;have f2:Bz w w2:=f1.trans (hb.mono f1.size);have D2:Aside (∃S,bO w.heap.size w2 u S (i*3000001+1)):=⟨_,hE⟩;clear hb x0 x1 x2 x3 x4 x5 x6 x7 x8 x9 x10 x11 x12 x13 x14 D1 hE;obtain⟨x0,x1,x2,x3,x4,x5,x6,x7,x8,x9,x10,x11,x12,x13,x14⟩:=a5.o w2 f2
  go_wp2_with (go_at_call 39;with_reducible refine(dk.o _).mono ?_)
  rintro e w3 ⟨rfl,hb⟩;have f3:Bz w w3:=f2.trans (hb.mono f2.size);have D3:Aside (∃S,bO w.heap.size w3 u S (i*3000001+1)):=D2.o.elim fun S hS=>⟨S,bO.below hS hb (aA _)⟩
  clear hb x0 x1 x2 x3 x4 x5 x6 x7 x8 x9 x10 x11 x12 x13 x14 D2
  go_wp2_with (go_at_call 200;with_reducible refine(dd.o _ f3 nm1 l1).mono ?_)
  rintro e w4 ⟨v8,L8,rfl,hO8,_,hm8,hl8,hb⟩;have f4:Bz w w4:=f3.trans (hb.mono f3.size);have D4:Aside (∃S,bO w.heap.size w4 u S (i*3000001+1)):=D3.o.elim fun S hS=>⟨S,bO.below hS hb (aA _)⟩
  obtain⟨a8,c8,rfl,_⟩:=hO8.read;obtain⟨n8,hn8⟩:=enm L8.length;rw [hn8] at hO8 hl8;rw [hn8];have a0:=aside2 hO8 hn8;clear hO8 hm8 hn8 hb D3 dk a5;go_wp2
  go_loopw [3,6] (fun s3 s6 wr=>∃(j:Nat) (v:Value) (S:List Ind),v=s3∧s6= .int .i64 j∧j≤n8∧bO w.heap.size wr v S (i*3000001+1+j)∧Bz w4 wr) (fun _ s _=>n8-(intOf s).toNat)
  case atStart=>
   obtain⟨S,hS⟩:=D4.o;exact⟨0,_,S,rfl,rfl,aJ _,hS,aG _ _⟩
  case round=>
   clear D4;obtain⟨wj,rfl⟩:=enr wr;obtain⟨j,v',S',rfl,rfl,hj,hD,hBj⟩:=hrel
   by_cases a7:j<n8
   case neg=>
    obtain rfl:j=n8:=by omega
    have a3:Aside (bO w.heap.size wj v' S' ((i+1)*3000001)):=bO.mono hD rfl (by omega);clear hD;go_wp2;go_roundw
    case rel=>exact⟨i+1,v',S',rfl,by simp,by omega,a3.o,f4.trans (hBj.mono f4.size)⟩
    case measure=>simp [intOf];omega
   obtain⟨⟨z,r⟩,hZ⟩:∃Z,L8[j]?=some Z:=⟨L8[j]'(by rw [a0.o.2];exact a7),aZ _⟩;obtain⟨g8,c8',he,_,_⟩:=a0.o.1.some (by intro e;subst e;simp at hZ);injection he with he1 he2 he3
   subst he1;obtain⟨z0,z1⟩:=(a0.o.1.below hBj (aA _)).cells hZ;dsimp only at z0 z1;have a3:=aside hD;obtain⟨b1,hj3,hw5⟩:=elt (i:=j) (n:=n8) (by omega) (by omega);clear hD hZ he2 he3
   go_wp2_with (go_at_call 147;with_reducible refine(bO.sorted a3.o (aE f4.size hBj.size) (by omega) z r).mono ?_)
   rintro e w5 ⟨u3,rfl,hE,hb⟩;have E5:=aside hE;have f5:Bz w4 w5:=hBj.trans (hb.mono hBj.size);clear hE hb z0 z1;go_wp2;go_roundw
   case rel=>exact⟨j+1,u3,_,rfl,by simp,by omega,bO.mono E5.o rfl (by omega),f5⟩
   case measure=>simp [intOf];omega
end
def CW:El Tryz.prog 125 127 1 24 (.slice none 0 0):=⟨Tryz.underlying125,by
  obtain⟨i0,h1,h2,h3,h4⟩:=lZ (show(Tryz.prog.info? 127).map (fun i=>(i.zero,i.size,i.bytes))=some (some (.slice none 0 0),1,24) by kernel_rfl);exact⟨i0,h1,h2,h3,h4⟩,rfl,by decide⟩
def RowX (base:Nat) (w:Wo) (v:Value) (X:Lv) (LL:List (List Ind)):Prop:=
 w.ownsRow base 127 1 v LL.length X∧∀(k:Nat) L,LL[k]?=some L→∃u,X[k]?=some u∧aD base w u L
def RowX.nil (base:Nat) (w:Wo):RowX base w (.slice none 0 0) [] []:=⟨nD _ _ _ _,fun k L h=>by simp at h⟩
def RowX.below {base:Nat} (h:RowX base w v X LL) (hb:Below m w w') (hm:w.heap.size≤m):RowX base w' v X LL:=
 ⟨eT h.1 hb hm,fun k L hk=>by obtain⟨u,h1,h2⟩:=h.2 k L hk;exact⟨u,h1,h2.below hb hm⟩⟩
def RowX.base {base:Nat} (h:RowX base w v X LL) (hb:b≤base):RowX b w v X LL:=
 ⟨gM h.1 hb,fun k L hk=>by obtain⟨u,h1,h2⟩:=h.2 k L hk;exact⟨u,h1,gM h2 hb⟩⟩
def RowX.len {base:Nat} (h:RowX base w v X LL):X.length=LL.length:=by
 have:=h.1.1;omega
def RowX.read {base:Nat} (h:RowX base w v X LL):∃a c,v= .slice a LL.length c∧∀(k:Nat) L,LL[k]?=some L→∃g ai ci,a=some ⟨g,0,none⟩∧base≤g∧g<w.heap.size∧w.cell? ⟨g,k,none⟩=some (.slice ai L.length ci)∧X[k]?=some (.slice ai L.length ci)∧aD base w (.slice ai L.length ci) L:=by
 obtain⟨a,c,rfl,hr⟩:=gL h.1;refine⟨a,c,rfl,fun k L hk=>?_⟩;rcases hr with h0|⟨g,e,hb,hg,hc⟩
 ·have:=(aO.1 hk).1;omega
 ·obtain⟨u,h1,h2⟩:=h.2 k L hk;obtain⟨ai,ci,rfl,_⟩:=h2.read;exact⟨g,ai,ci,e,hb,hg,hc _ _ h1,h1,h2⟩
def MD {b' s s' n n':Nat} {t t':TypeId} {X':Lv} (h:w.ownsRow b t s v n X) (h':w.ownsRow b' t' s' v' n' X') (ht:t≠t') (g:Nat) (hg:v.ownBlock=some g):v'.ownBlock≠some g:=by
 intro e;obtain⟨_,⟨rfl,_⟩|⟨g1,cap,cur,rfl,_,h1,_⟩⟩:=h
 ·cases hg
 ·obtain⟨_,⟨rfl,_⟩|⟨g2,cap',cur',rfl,_,h2,_⟩⟩:=h'
  ·cases e
  ·simp only [Value.ownBlock,cI] at hg e;subst hg;subst e;rw [h1] at h2;have:=aL h2;injection this with _ e2
   exact ht e2
def aD.append {base:Nat} (h:aD base w v L) (a1:base≤w.heap.size)
  (h5:w5.ownsRow base 63 2 v5 (L.length+M.length) (L.flatMap aT++M.flatMap aT)) (hg:w.grownBy w5 v.ownBlock) (hv:v5.ownBlock=v.ownBlock∨v5.ownBlock=Option.some w.heap.size):
  aD base w5 v5 (L++M)∧Below base w w5∧(∀b8 v8 L8,aD b8 w v8 L8→SepJ v v8→aD b8 w5 v8 L8∧SepJ v5 v8)∧∀b X LL v',RowX b w v' X LL→(∀u∈X,SepJ v u)→RowX b w5 v' X LL∧∀u∈X,SepJ v5 u:=by
 have a0:∀b8 v8 L8,aD b8 w v8 L8→SepJ v v8→aD b8 w5 v8 L8∧SepJ v5 v8:=fun b8 v8 L8 h8 hs=>⟨gF h8 fun g a2=>hg.block g (cB h8 g a2).2 (fun e=>hs g a2 e.symm),fun g a2 e=>by
  rcases hv with hv|hv
  ·exact hs g a2 (hv▸e)
  ·rw [hv] at e;have h1:=aL e;have:=(cB h8 g a2).2;omega⟩
 refine⟨?_,(aG _ _).grown hg a1 fun k hk=>(cB h k hk).1,a0,fun b X LL v' hR hs=>⟨⟨gF hR.1 fun g a2=>hg.block g (cB hR.1 g a2).2 fun e=>MD hR.1 h (by decide) g a2 e.symm,fun k L' hk=>?_⟩,fun u hu=>?_⟩⟩
 ·unfold aD;rw [aI,pZ];exact h5
 ·obtain⟨u,h1,h2⟩:=hR.2 k L' hk;exact⟨u,h1,(a0 _ _ _ h2 (hs u (aP h1))).1⟩
 ·obtain⟨k,hk⟩:=nI.1 hu;have a4:k<LL.length:=by rw [←hR.len];exact(aO.1 hk).1
  obtain⟨u',h1,h2⟩:=hR.2 k _ (aZ a4);rw [hk] at h1;cases h1;exact(a0 _ _ _ h2 (hs u hu)).2
def RowX.push {base:Nat} (h:RowX base w2 v X LL) (a1:base≤w2.heap.size) (hu:aD base w2 u L)
  (h5:w5.ownsRow base 127 1 v5 (LL.length+1) (X++ [u])) (hg:(w2.alloc (.cells #[u] 127)).grownBy w5 v.ownBlock):
  RowX base w5 v5 (X++ [u]) (LL++ [L])∧Below base w2 w5∧∀b8 v8 L8,aD b8 w2 v8 L8→aD b8 w5 v8 L8:=by
 have hb:=aC w2 (.cells #[u] 127);have a0:∀b8 v8 L8,aD b8 w2 v8 L8→aD b8 w5 v8 L8:=fun b8 v8 L8 h8=>gF (h8.below hb (aA _)) fun g a2=>hg.block g (by
  have:=(cB h8 g a2).2;rw [cW];omega) (fun e=>MD h.1 h8 (by decide) g e.symm a2)
 refine⟨⟨by rw [aI];exact h5,fun k L' hk=>?_⟩,(hb.mono a1).grown hg (aE a1 hb.size) fun k hk=>(cB h.1 k hk).1,a0⟩;have hl:=h.len
 by_cases a4:k<LL.length
 ·rw [fF a4] at hk;obtain⟨u',h1,h2⟩:=h.2 k L' hk;exact⟨u',by rw [fF (by omega)];exact h1,a0 _ _ _ h2⟩
 ·have a6:=(aO.1 hk).1;rw [aI,tS] at a6;obtain rfl:k=LL.length:=by omega
  rw [eO (aA _)] at hk;simp at hk;subst hk;exact⟨u,by rw [eO (by omega)];simp [hl],a0 _ _ _ hu⟩
open Classical in
noncomputable def fT (P:List Cl) (I:Ind) (L:List Ind):List Ind:=L.filter fun z=>decide (cV P I z∧cV P z I)
def Cw:z∈fT P I L↔z∈L∧cV P I z∧cV P z I:=by simp [fT]
def Ck {k:Nat} (h:L[k]?=some z):((cV P I z∧cV P z I)→fT P I (L.take (k+1))=fT P I (L.take k)++ [z])∧(¬(cV P I z∧cV P z I)→fT P I (L.take (k+1))=fT P I (L.take k)):=by
 unfold fT;rw [gK,h,List.filter_append];constructor
 ·intro hu;simp [hu]
 ·intro hu;simp only [UW,List.filter_cons];rw [if_neg (by simpa using hu)];simp
def DoneI (P:List Cl) (L3 Ld:List Ind):Prop:=Ld.Nodup∧(∀y∈Ld,y∈L3)∧∀y∈Ld,∀z∈L3,cV P y z→cV P z y→z∈Ld
def cV.trans {a b c:Ind} (h:cV P a b) (h':cV P b c):cV P a c:=Relation.TransGen.trans h h'
def DoneI.part (h:DoneI P L3 Ld) (hI:I∈L3) (a5:I∉Ld) (hn:Lo.Nodup) (hm:∀y,y∈Lo↔y∈I::fT P I L3):DoneI P L3 (Ld++Lo):=by
 have a3:∀y,y∈Lo↔y=I∨(y∈L3∧cV P I y∧cV P y I):=fun y=>by rw [hm,cD,Cw]
 refine⟨?_,fun y hy=>?_,fun y hy z hz h1 h2=>?_⟩
 ·rw [vR];refine⟨h.1,hn,fun a ha b hb e=>?_⟩;subst e;rcases(a3 a).1 hb with rfl|⟨_,h1,h2⟩
  ·exact a5 ha
  ·exact a5 (h.2.2 a ha I hI h2 h1)
 ·rcases bX.1 hy with hy|hy
  ·exact h.2.1 y hy
  ·rcases(a3 y).1 hy with rfl|⟨h1,_⟩
   ·exact hI
   ·exact h1
 ·rcases bX.1 hy with hy|hy
  ·exact oP _ (h.2.2 y hy z hz h1 h2)
  ·refine VZ _ ((a3 z).2 (.inr ?_));rcases(a3 y).1 hy with rfl|⟨_,h3,h4⟩
   ·exact⟨hz,h1,h2⟩
   ·exact⟨hz,h3.trans h1,h2.trans h4⟩
def ZY (hn:L3.Nodup) (hl:Ld.length<L3.length):∃(t:Nat) (I:Ind),L3[t]?=some I∧I∉Ld∧∀k∈L3,cV P I k→cV P k I∨k∈Ld:=by
 haveI:∀x y,Decidable (cV P x y):=fun x y=>Classical.propDecidable _
 obtain⟨I,h1,h2,h3⟩:=Go.Proofs.Plain.exists_ready L3 Ld (cV P) (fun i k x=>cV.trans) (Go.Proofs.Plain.exists_left hn hl);obtain⟨t,ht⟩:=nI.1 h1;exact⟨t,I,ht,h2,h3⟩
def CompsP (w:Wo) (e:Ending) (w':Wo):Prop:=
 ∃v X LL,e= .returned v∧RowX w.heap.size w' v X LL∧LL.length≤900000300∧(∀L∈LL,L.length≤900000300)∧Bz w w'
