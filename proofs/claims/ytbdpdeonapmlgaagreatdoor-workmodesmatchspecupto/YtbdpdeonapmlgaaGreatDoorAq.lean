/- Lemmas; no condition. -/
import Derived.Test.YtbdpdeonapmlgaaGreatDoorAp
import Derived.Shelf.SlSortCmp.WholeK
import Derived.Shelf.SlSortCmp.NoneTotal
import Derived.Shelf.SlLaysF0
import Derived.Shelf.SlGeneric
import Derived.Shelf.SlSortCmp.Insertion
set_option linter.all false
namespace Go.Proofs.YtbdpdeonapmlgaaGreatDoor
open Go.RowKit Go.Big Go.RowsK Go.MapK
variable {M M0 M1 M2 M3:List (Ind × Value)} {P:List Cl} {v v0 u v5 x y:Value} {D D':Ind→List Ind} {b c i base:Nat} {L:List Ind} {w wx w2 w' wr:Wo} {C:Cl}
def OffG (v:Value) (M:List (Ind × Value)) (q:Nat):Prop:=v.ownBlock≠Option.some q∧∀k u,aQ k M=Option.some u→u.ownBlock≠Option.some q
structure GK (b c:Nat) (wx:Wo) (v0:Value) (M0:List (Ind × Value)) (wr:Wo) (v:Value) (M:List (Ind × Value)):Prop where
 os:wr.os=wx.os
 tape:wr.tape=wx.tape
 output:wr.output=wx.output
 size:wx.heap.size≤wr.heap.size
 blk:∀g,g<wx.heap.size→g≠b→g≠c→OffG v0 M0 g→wr.heap[g]?=wx.heap[g]?
 off:∀g,g<wx.heap.size→OffG v0 M0 g→OffG v M g
def GK.refl (b c:Nat) (w:Wo) (v:Value) (M:List (Ind × Value)):GK b c w v M w v M:=⟨rfl,rfl,rfl,aA _,fun _ _ _ _ _=>rfl,fun _ _ h=>h⟩
def GK.trans {w1 w3:Wo} {v1 v2 v3:Value} (h:GK b c w1 v1 M1 w2 v2 M2) (k:GK b c w2 v2 M2 w3 v3 M3):GK b c w1 v1 M1 w3 v3 M3:=
 ⟨k.os.trans h.os,k.tape.trans h.tape,k.output.trans h.output,aE h.size k.size,fun g hg h1 h2 ho=>(k.blk g (bG hg h.size) h1 h2 (h.off g hg ho)).trans (h.blk g hg h1 h2 ho),fun g hg ho=>k.off g (bG hg h.size) (h.off g hg ho)⟩
def GK.below {m:Nat} (h:GK b c wx v0 M0 wr v M) (hb:Below m wr w') (hm:wr.heap.size≤m):GK b c wx v0 M0 w' v M:=
 ⟨hb.os.trans h.os,hb.tape.trans h.tape,hb.output.trans h.output,aE h.size hb.size,fun g hg h1 h2 ho=>(hb.block g (bG hg (aE h.size hm))).trans (h.blk g hg h1 h2 ho),h.off⟩
def GK.cell (h:GK b c wx v0 M0 wr v M) (hg:wr.grownBy w' (Option.some c)):GK b c wx v0 M0 w' v M:=
 ⟨hg.os.trans h.os,hg.tape.trans h.tape,hg.output.trans h.output,aE h.size hg.size,fun g hl h1 h2 ho=>(hg.block g (bG hl h.size) (fun e=>h2 (aL e))).trans (h.blk g hl h1 h2 ho),h.off⟩
def GK.push {w5:Wo} {o:Obj} (h:GK b c wx v0 M0 w2 v M) (hg:(w2.alloc o).grownBy w5 v.ownBlock) (hv:v5.ownBlock=v.ownBlock∨v5.ownBlock=Option.some (w2.alloc o).heap.size):GK b c wx v0 M0 w5 v5 M:=by
 have hb:=aC w2 o;refine⟨hg.os.trans (hb.os.trans h.os),hg.tape.trans (hb.tape.trans h.tape),hg.output.trans (hb.output.trans h.output),aE h.size (aE hb.size hg.size),fun g hl h1 h2 ho=>?_,fun g hl ho=>⟨?_,(h.off g hl ho).2⟩⟩
 ·have a1:=bG hl h.size;exact(hg.block g (bG a1 hb.size) (fun e=>(h.off g hl ho).1 e.symm)).trans ((hb.block g a1).trans (h.blk g hl h1 h2 ho))
 ·rcases hv with e|e
  ·rw [e];exact(h.off g hl ho).1
  ·rw [e];intro e2;have e2:=aL e2;have hs:=h.size;rw [cW] at e2;omega
def GK.pushAt {w6:Wo} {k:Ind} (h:GK b c wx v0 M0 w2 v M) (a6:w6.os=w2.os) (a9:w6.tape=w2.tape) (a7:w6.output=w2.output) (a8:w2.heap.size≤w6.heap.size) (hu:(aQ k M).getD (.slice none 0 0)=u)
  (hg:∀g,g<w2.heap.size→g≠b→u.ownBlock≠Option.some g→w6.heap[g]?=w2.heap[g]?) (hv:v5.ownBlock=u.ownBlock∨∃g,v5.ownBlock=Option.some g∧w2.heap.size≤g):GK b c wx v0 M0 w6 v (putM k v5 M):=by
 have a2:∀g,OffG v M g→u.ownBlock≠Option.some g:=fun g ho=>by
  cases hk:aQ k M with
  |none=>rw [hk] at hu;simp at hu;subst hu;simp [Value.ownBlock]
  |some u'=>rw [hk] at hu;simp at hu;subst hu;exact ho.2 _ _ hk
 refine⟨a6.trans h.os,a9.trans h.tape,a7.trans h.output,aE h.size a8,fun g hl h1 h2 ho=>?_,fun g hl ho=>⟨(h.off g hl ho).1,fun k' u' a0=>?_⟩⟩
 ·exact(hg g (bG hl h.size) h1 (a2 g (h.off g hl ho))).trans (h.blk g hl h1 h2 ho)
 ·by_cases e:k'=k
  ·subst e;rw [qC] at a0;injection a0 with a0;subst a0
   rcases hv with e|⟨g',e,hge⟩
   ·rw [e];exact a2 g (h.off g hl ho)
   ·rw [e];intro e2;have e2:=aL e2;have:=h.size;omega
  ·rw [oT e] at a0;exact(h.off g hl ho).2 _ _ a0
def AO (g:Nat):OffG (.slice none 0 0) [] g:=⟨by simp [Value.ownBlock],fun k u h=>by simp [aQ] at h⟩
def Bg (h:GrI base w b v L M D) {q:Nat} (hq:w.heap.size≤q):OffG v M q:=
 ⟨fun e=>by have:=(cB h.row q e).2;omega,fun k u hk e=>by have:=(cB (h.val k u hk).1 q e).2;omega⟩
def GrI.congr (h:GrI base w b v L M D) (e:∀k,D k=D' k):GrI base w b v L M D':=by
 have:D=D':=funext e;exact this▸h
def fL (P:List Cl):List Ind:=P.flatMap fun C=>C.h.ind::C.atoms
def Ff (h:P[i]?=some C):fL (P.take (i+1))=fL (P.take i)++(C.h.ind::C.atoms):=by
 unfold fL;rw [gK,h];simp
def CJ (hF:∀C∈P,C.flt=0):(fL P).length≤P.length*10001:=by
 induction P with
 |nil=>simp [fL]
 |cons C r ih=>
  have h1:=yI (hF C (by simp));have h2:C.atoms.length≤C.b.lits.length:=JZ _ _;have h3:=ih fun D hD=>hF D (by simp [hD])
  simp only [fL,oQ,aI,iE] at h3 ⊢;omega
def IA (hF:∀C∈P,C.flt=0) (k:Ind):(aV P k).length≤P.length*10000:=by
 induction P with
 |nil=>simp [aV]
 |cons C r ih=>
  have h1:=yI (hF C (by simp));have h2:C.atoms.length≤C.b.lits.length:=JZ _ _;have h3:=ih fun D hD=>hF D (by simp [hD])
  have h4:(lB k C).length≤C.atoms.length:=by unfold lB;split<;>simp
  simp only [aV,oQ,aI,iE] at h3 ⊢;omega
def iZ (P:List Cl) (i:Nat) (h:Ind) (A:List Ind) (k:Ind):List Ind:=aV (P.take i) k++if h=k then A else []
def Gz (P:List Cl) (i:Nat) (h k:Ind):iZ P i h [] k=aV (P.take i) k:=by simp [iZ]
def Ha (h:P[i]?=some C) (k:Ind):iZ P i C.h.ind C.atoms k=aV (P.take (i+1)) k:=by
 rw [RT h];rfl
def Gy (P:List Cl) (i:Nat) (h:Ind) (A:List Ind) (x:Ind) (k:Ind):(if k=h then iZ P i h A h++ [x] else iZ P i h A k)=iZ P i h (A++ [x]) k:=by
 by_cases e:k=h
 ·subst e;simp [iZ]
 ·have:¬h=k:=fun q=>e q.symm
  simp [iZ,e,this]
def LP (hc:w.heap[c]?=some (.cells #[x,y] 168 (0,0))) (h1:u.oneCell'=true) (a4:u.cells=#[u]):
  ∃w1,(Instr.storeAt 127 (.pointer (some ⟨c,0,none⟩)) u).run Tryz.prog w= .ok () w1∧w1.heap[c]?=some (.cells #[u,y] 168 (0,0))∧w.grownBy w1 (some c)∧w1.heap.size=w.heap.size:=by
 obtain⟨i0,hi,hz1⟩:∃i,Tryz.prog.info? 127=some i∧i.size=1:=by
  have h:=show(Tryz.prog.info? 127).map (fun i=>i.size)=some 1 by kernel_rfl
  rw [rL] at h;exact h
 have hs:∀W,(Go.sizeOf 127).run Tryz.prog W= .ok 1 W:=fun W=>by simp [Go.sizeOf,typeInfo,hi,hz1]
 have ha:(Instr.sureAddr (.pointer (some ⟨c,0,none⟩))).run Tryz.prog w= .ok ⟨c,0,none⟩ w:=rfl;have a3:=DO (P:=Tryz.prog) c 0 168 [u] 0 #[x,y] w hc (by simp) (by simpa using h1);refine⟨w.setRow c #[u,y],?_,vJ _ _ _ _ _ _ hc,⟨rfl,rfl,rfl,by simp [World.setRow],fun j hj a5=>yO _ _ _ _ fun(e:j=c)=>a5 (by rw [e])⟩,by simp [World.setRow]⟩;unfold Instr.storeAt;simp at a3;simp [storeVar,ha,hs,a4,a3]
end Go.Proofs.YtbdpdeonapmlgaaGreatDoor
namespace Go.Proofs
open Go.Shelf
def Tryz.sortL_ren:Go.Shelf.Ren:=⟨fun|6=>187|15=>179|14=>245|28=>240|29=>241|20=>275|21=>276|22=>277|23=>278|24=>279|25=>280|26=>281|27=>282|46=>322|47=>271|48=>272|49=>323|50=>324|57=>346|n=>n,fun|22=>127|24=>63|25=>224|3=>3|39=>211|0=>0|53=>175|55=>263|4=>4|46=>256|45=>255|50=>151|5=>5|9=>9|66=>298|70=>302|76=>346|77=>68|n=>n,fun|n=>n⟩
def Tryz.sortL:Go.Proofs.SlLaysF0.n6 Tryz.prog Tryz.sortL_ren:={
 mixed:=by kernel_rfl
 f6:=⟨Tryz.f187.name,by decide,Tryz.func187.trans (eY some (by kernel_rfl))⟩
 f14:=⟨Tryz.f245.name,by decide,Tryz.func245.trans (eY some (by kernel_rfl))⟩
 f15:=Tryz.func179.trans (eY some (by kernel_rfl))
 f20:=⟨Tryz.f275.name,by decide,Tryz.func275.trans (eY some (by kernel_rfl))⟩
 f21:=⟨Tryz.f276.name,by decide,Tryz.func276.trans (eY some (by kernel_rfl))⟩
 f22:=⟨Tryz.f277.name,by decide,Tryz.func277.trans (eY some (by kernel_rfl))⟩
 f23:=⟨Tryz.f278.name,by decide,Tryz.func278.trans (eY some (by kernel_rfl))⟩
 f24:=⟨Tryz.f279.name,by decide,Tryz.func279.trans (eY some (by kernel_rfl))⟩
 f25:=⟨Tryz.f280.name,by decide,Tryz.func280.trans (eY some (by kernel_rfl))⟩
 f26:=⟨Tryz.f281.name,by decide,Tryz.func281.trans (eY some (by kernel_rfl))⟩
 f27:=⟨Tryz.f282.name,by decide,Tryz.func282.trans (eY some (by kernel_rfl))⟩
 f28:=Tryz.func240.trans (eY some (by kernel_rfl))
 f29:=Tryz.func241.trans (eY some (by kernel_rfl))
 f46:=⟨Tryz.f322.name,by decide,Tryz.func322.trans (eY some (by kernel_rfl))⟩
 f47:=Tryz.func271.trans (eY some (by kernel_rfl))
 f48:=Tryz.func272.trans (eY some (by kernel_rfl))
 f49:=⟨Tryz.f323.name,by decide,Tryz.func323.trans (eY some (by kernel_rfl))⟩
 f50:=⟨Tryz.f324.name,by decide,Tryz.func324.trans (eY some (by kernel_rfl))⟩
 f57:=⟨Tryz.f346.name,by decide,Tryz.func346.trans (eY some (by kernel_rfl))⟩
 t0:=Tryz.underlying0
 a0:=Tryz.isAgg0
 z0:=Tryz.sizeOf0
 v0:=Tryz.zeroValue0
 t3:=Tryz.underlying3
 a3:=Tryz.isAgg3
 z3:=Tryz.sizeOf3
 v3:=Tryz.zeroValue3
 t4:=Tryz.underlying4
 a4:=Tryz.isAgg4
 z4:=Tryz.sizeOf4
 v4:=Tryz.zeroValue4
 t5:=Tryz.underlying5
 a5:=Tryz.isAgg5
 z5:=Tryz.sizeOf5
 v5:=Tryz.zeroValue5
 t9:=Tryz.underlying9
 a9:=Tryz.isAgg9
 z9:=Tryz.sizeOf9
 v9:=Tryz.zeroValue9
 t22:=Tryz.underlying127
 a22:=Tryz.isAgg127
 z22:=Tryz.sizeOf127
 v22:=Tryz.zeroValue127
 t25:=Tryz.underlying224
 a25:=Tryz.isAgg224
 z25:=Tryz.sizeOf224
 v25:=Tryz.zeroValue224
 t39:=Tryz.underlying211
 a39:=Tryz.isAgg211
 z39:=Tryz.sizeOf211
 v39:=Tryz.zeroValue211
 t45:=Tryz.underlying255
 a45:=Tryz.isAgg255
 z45:=Tryz.sizeOf255
 v45:=Tryz.zeroValue255
 t46:=Tryz.underlying256
 a46:=Tryz.isAgg256
 z46:=Tryz.sizeOf256
 v46:=Tryz.zeroValue256
 t50:=Tryz.underlying151
 a50:=Tryz.isAgg151
 z50:=Tryz.sizeOf151
 v50:=Tryz.zeroValue151
 t53:=Tryz.underlying175
 a53:=Tryz.isAgg175
 z53:=Tryz.sizeOf175
 v53:=Tryz.zeroValue175
 t55:=Tryz.underlying263
 a55:=Tryz.isAgg263
 z55:=Tryz.sizeOf263
 v55:=Tryz.zeroValue263
 t66:=Tryz.underlying298
 a66:=Tryz.isAgg298
 z66:=Tryz.sizeOf298
 v66:=Tryz.zeroValue298
 t70:=Tryz.underlying302
 a70:=Tryz.isAgg302
 z70:=Tryz.sizeOf302
 v70:=Tryz.zeroValue302
 t76:=Tryz.underlying346
 a76:=Tryz.isAgg346
 z76:=Tryz.sizeOf346
 v76:=Tryz.zeroValue346
 t77:=Tryz.underlying68
 a77:=Tryz.isAgg68
 z77:=Tryz.sizeOf68
 v77:=Tryz.zeroValue68 }
end Go.Proofs
namespace Go.Proofs.YtbdpdeonapmlgaaGreatDoor
open Go.RowKit Go.Sort Go.RowsK
def OQ (x y:Ind):ltOf pQ x y=true↔jQ x y:=by
 unfold ltOf;rw [rG];exact Hv
def GT (x y:Ind):ltOf pQ x y=false↔¬jQ x y:=by
 rw [←OQ];cases ltOf pQ x y<;>simp
def swoI:SWO (ltOf pQ) where
 irrefl x:=by rw [GT];exact Eh x
 trans x y z h1 h2:=by rw [OQ] at*;exact PX h1 h2
 ntrans x y z h1 h2:=by
  rw [GT] at*;intro h;rcases Eg x y with h3|h3|h3
  ·exact h1 h3
  ·subst h3;exact h2 h
  ·exact h2 (PX h3 h)
def BZ (x:Ind):(aT x).length=2:=rfl
def QT:∀(X:List Ind) (j c:Nat) (x:Ind),X[j]?=some x→c<2→(X.flatMap aT)[j*2+c]?=(aT x)[c]?
 | [],j,c,x,h,_=>by simp at h
 |y::X,0,c,x,h,hc=>by
  obtain rfl:y=x:=by simpa using h
  rw [oQ,tM,bT,fF (by rw [BZ];exact hc)]
 |y::X,j+1,c,x,h,hc=>by
  have ih:=QT X j c x (by simpa using h) hc;rw [oQ,eO (by rw [BZ];omega),BZ,←ih];congr 1;omega
instance:Inhabited Ind:=⟨(⟨#[]⟩,0)⟩
def QS (X:List Ind):flatK aT 2 X.toArray=(X.flatMap aT).toArray:=by
 refine ext_get! (by simp only [size_flatK,vP,flat_len]) fun t ht=>?_
 have a9:t<X.length*2:=by simpa using ht
 rw [get_flatK _ _ _ t (by simpa using a9)];have hj:t/2<X.length:=by omega
 have h:=QT X (t/2) (t%2) X[t/2] (aZ hj) (by omega);rw [show t/2*2+t%2=t by omega] at h;have hl:t<(X.flatMap aT).length:=by rw [flat_len];exact a9
 rw [vK X.toArray (t/2) (by simpa using hj),vK (X.flatMap aT).toArray t (by simpa using hl)];rw [aZ hl] at h;have hc:t%2<(aT (X[t/2])).length:=by rw [BZ];omega
 rw [aZ hc] at h;simp only [List.getElem_toArray];rw [vK (aT (X[t/2])) (t%2) hc];exact(aL h).symm
def Hs (blk off size:Nat) (w:Wo):CmpLays Tryz.prog 188 #[] aT 2 pQ blk off size w:=
 fun _ _ _ _ x y=>Hu x.1 y.1 x.2 y.2 _
def SortJ (base:Nat) (w:Wo) (sv:Value) (L:List Ind) (e:Ending) (w':Wo):Prop:=
 e= .returned (.tuple #[])∧∃L',aD base w' sv L'∧L'.Perm L∧L'.Pairwise (fun a b=>¬jQ b a)∧w.grownBy w' sv.ownBlock
def YA (p:Option Addr) (cap:Nat) (fv:Value) (w:Wo):Cz 187 #[.slice p 0 cap,fv] w fun e w'=>e= .returned (.tuple #[])∧w'=w:=
 AnyF.slices_SortFunc_none Tryz.sortL p cap fv w
def YB (L:List Ind) (base:Nat) (w:Wo) (sv:Value) (hO:aD base w sv L) (b1:L.length≤1000000000):
  Cz 187 #[sv,.func (.func 188) #[] #[]] w (SortJ base w sv L):=by
 by_cases hL:L= []
 ·subst hL;obtain⟨a,c,rfl,_⟩:=hO.read;refine(YA a c _ w).mono ?_;rintro e w' ⟨rfl,rfl⟩;exact⟨rfl,[],hO,List.Perm.refl _,by simp,CH _ _⟩
 have b8:=hO;obtain⟨h1,⟨_,h0⟩|⟨g,cap,cur,rfl,hb,hg,hn,hm,hs,ht⟩⟩:=hO
 ·exact absurd (rR.1 h0) hL
 have a7:g<w.heap.size:=(aM.1 hg).1;have hH:HoldsK aT 2 w g 0 L.toArray:=by
  intro j hj;rw [QS] at hj ⊢;have a6:j<L.length*2:=by rw [vP,flat_len] at hj;exact hj
  have a5:cur[j]?=some ((L.flatMap aT).toArray[j]!):=by
   rw [←iT,←iQ a6,ht,vK _ j hj];rw [aZ (by simpa using hj)];simp
  constructor
  ·simpa [World.cell?,hg] using a5
  ·simp [World.frozen?,hg]
 have a1:=AnyQ.slices_SortFunc Tryz.sortL 2 Tryz.isAgg63 Tryz.sizeOf63 aT (fun _=>rfl) (fun x v hv=>by simp [aT] at hv;rcases hv with rfl|rfl<;>rfl) pQ swoI 188 #[] g 0 cap L.toArray w (enters_of Tryz.func188 (by kernel_rfl) rfl) (Hs g 0 _ w) hH a7 (by simp;omega);rw [vP] at a1;refine a1.mono ?_;rintro e w' ⟨rfl,d',n,os,hp,hso,rfl⟩;have a3:d'.size=L.length:=by have:=hp.1;simpa using this
 have k1:HoldsK aT 2 (putRowK aT 2 (Sort.ahead w n) g 0 d') g 0 d':=holdsK_putRowK _ _ _ _ _ L.toArray _ (holdsK_ahead _ _ w n _ _ _ hH) (by simpa using a3);have b0:g<(putRowK aT 2 (Sort.ahead w n) g 0 d').heap.size:=by unfold putRowK;rw [size_putRow];exact a7
 have k2:HoldsK aT 2 (sortWorldK aT 2 w g 0 n d' os) g 0 d':=holdsK_grow _ _ _ os _ _ _ b0 k1;have b3:w.grownBy (sortWorldK aT 2 w g 0 n d' os) (some g):=by
  refine⟨rfl,rfl,rfl,?_,fun k hk b7=>?_⟩
  ·unfold sortWorldK putRowK;rw [size_grow,size_putRow];show w.heap.size≤(Sort.ahead w n).heap.size+_;simp [Sort.ahead]
  ·unfold sortWorldK putRowK putRow mapBlock grow;show(Array.modify w.heap g _++os)[k]?=_;have b6:g≠k:=fun e=>b7 (by rw [e])
   rw [Mm,if_pos (by simpa using hk),oR,if_neg b6]
 obtain⟨a0,hg',hs'⟩:∃a0,(sortWorldK aT 2 w g 0 n d' os).heap[g]?=some (.cells a0 63 (0,0))∧a0.size=cur.size:=by
  refine⟨putCells id 0 (flatK aT 2 d') cur,?_,by simp [putCells]⟩;unfold sortWorldK putRowK putRow mapBlock grow;show(Array.modify w.heap g _++os)[g]?=_;rw [Mm,if_pos (by simpa using a7),oR,if_pos rfl,hg];rfl
 refine⟨rfl,d'.toList,?_,?_,?_,b3⟩
 ·have a4:d'.toList.length=L.length:=by simpa using a3
  unfold aD;rw [a4];refine⟨by rw [flat_len,a4],.inr ⟨g,cap,a0,rfl,hb,hg',hn,hm,by rw [hs',hs],?_⟩⟩;apply zA;intro t
  by_cases a8:t<L.length*2
  ·rw [iQ a8];have b2:flatK aT 2 d'=(d'.toList.flatMap aT).toArray:=by
    have:=QS d'.toList;simpa using this
   have hc:=(k2 t (by rw [size_flatK,a3];exact a8)).1;rw [b2] at hc;have a2:t<(d'.toList.flatMap aT).length:=by rw [flat_len,a4];exact a8
   rw [vK _ t (by simpa using a2)] at hc;rw [aZ a2];simpa [World.cell?,hg'] using hc
  ·rw [nK (by rw [bJ];omega),nK (by rw [flat_len,a4];omega)]
 ·have h3:=hp.2.2;rw [←a3,Mn] at h3;have e2:(L.toArray.extract 0 d'.size).toList=L:=by
   rw [a3,←vP,Mn]
  rw [e2] at h3;exact h3
 ·rw [Lr];intro i j hi hj b5;have a6:j<d'.size:=by simpa using hj
  have b4:i<d'.size:=by simpa using hi
  have:=hso i j (aJ _) b5 (by omega);rw [vK d' j a6,vK d' i b4] at this;simpa using (GT _ _).1 this
end Go.Proofs.YtbdpdeonapmlgaaGreatDoor
namespace Go.Proofs.YtbdpdeonapmlgaaGreatDoor
open Go.RowKit Go.Big Go.RowsK Go.MapK
variable {D D':Ind→List Ind} {M M0 M':List (Ind × Value)} {L L':List Ind} {v v0 u v3 v5 y:Value} {base gc mb q st n:Nat} {wx wr w w2 w3 wb:Wo} {x:ByteArray} {m:Int} {T:Tm} {k:Ind}
def GSt (base mb gc:Nat) (wx:Wo) (v0:Value) (M0:List (Ind × Value)) (wr:Wo) (v:Value) (L:List Ind) (M:List (Ind × Value)) (D:Ind→List Ind):Prop:=
 GrI base wr mb v L M D∧GK mb gc wx v0 M0 wr v M∧wr.heap[gc]?=some (.cells #[v,.map (some mb)] 168 (0,0))
def GSt.below {m:Nat} {w':Wo} (h:GSt base mb gc wx v0 M0 wr v L M D) (hb:Below m wr w') (hm:wr.heap.size≤m):GSt base mb gc wx v0 M0 w' v L M D:=
 ⟨h.1.below hb hm,h.2.1.below hb hm,(hb.block gc (bG (aM.1 h.2.2).1 hm)).trans h.2.2⟩
def GSt.start {w1:Wo} (a8:((w.alloc (.cells #[.slice none 0 0,.map none] 168)).alloc (.map #[] 0)).alloc (.cells #[.slice none 0 0,.map (some (w.heap.size+1))] 168)=w1) (P:List Cl):
  GSt (w.heap.size+1+1+1) (w.heap.size+1) (w.heap.size+1+1) w1 (.slice none 0 0) [] w1 (.slice none 0 0) (fL (P.take 0)) [] (aV (P.take 0))∧Bz w w1∧w1.heap.size=w.heap.size+1+1+1:=by
 have hs:w1.heap.size=w.heap.size+1+1+1:=by rw [←a8];simp
 have b1:=aC w (.cells #[.slice none 0 0,.map none] 168);have b2:=aC (w.alloc (.cells #[.slice none 0 0,.map none] 168)) (.map #[] 0);have b3:=aC ((w.alloc (.cells #[.slice none 0 0,.map none] 168)).alloc (.map #[] 0)) (.cells #[.slice none 0 0,.map (some (w.heap.size+1))] 168);have hm:=aY.new (kv:=aS) (w.alloc (.cells #[.slice none 0 0,.map none] 168)) 0;have hc:=aK ((w.alloc (.cells #[.slice none 0 0,.map none] 168)).alloc (.map #[] 0)) (.cells #[.slice none 0 0,.map (some (w.heap.size+1))] 168);have hb:Bz w w1:=by
  rw [←a8];have b6:=b1.trans (b2.mono b1.size);exact b6.trans (b3.mono b6.size)
 refine⟨⟨⟨by simp [fL];exact aD.nil _ _,?_,by simp [aQ],fun k _=>by simp [aV],by simp [aQ]⟩,GK.refl _ _ _ _ _,?_⟩,hb,hs⟩
 ·rw [←a8];have:=hm.of_block (b3.block _ (by simp));simpa using this
 ·rw [←a8];simpa using hc
def u166:Tryz.prog.underlying 166=some (.map 63 127):=Tryz.underlying166
def z127:∀w,(zeroValue 127).run Tryz.prog w= .ok (.slice none 0 0) w:=fun w=>Tryz.zeroValue127 w
def GSt.own (h:GSt base mb gc wx v0 M0 w2 v L M D) (o:Obj):(w2.alloc o).ownsRow base 63 2 v L.length (L.flatMap aT):=
 eT h.1.row (aC w2 o) (aA _)
def GSt.push {w5:Wo} (h:GSt base mb gc wx v0 M0 w2 v L M D) (a4:mb<base) (a2:gc<base) (a6:gc≠mb) (a0:base≤w2.heap.size)
  (h5:w5.ownsRow base 63 2 v5 (L.length+1) (L.flatMap aT++ [.string x,.int .i64 m])) (hg:(w2.alloc (.cells #[.string x,.int .i64 m] 63)).grownBy w5 v.ownBlock)
  (hv:v5.ownBlock=v.ownBlock∨v5.ownBlock=some (w2.alloc (.cells #[.string x,.int .i64 m] 63)).heap.size):
  ∃w6,(Instr.storeAt 127 (.pointer (some ⟨gc,0,none⟩)) v5).run Tryz.prog w5= .ok () w6∧GSt base mb gc wx v0 M0 w6 v5 (L++ [(x,m)]) M D∧w6.heap.size=w5.heap.size:=by
 obtain⟨h1,h2,h3⟩:=h;obtain⟨g1,g2⟩:=h1.push a4 a0 h5 hg hv;have b9:=(g2.block gc a2).trans h3;obtain⟨a5,c5,e5,_⟩:=g1.row.read;obtain⟨w6,hr,hc6,hg6,hs6⟩:=LP (u:=v5) b9 (by rw [e5];rfl) (by rw [e5];rfl);refine⟨w6,hr,⟨g1.keep (fun g c0 b4=>hg6.block g b4 (fun e=>by have:=aL e;omega)) (hg6.block mb g1.map.lt (fun e=>a6 (aL e).symm)),(h2.push hg hv).cell hg6,hc6⟩,hs6⟩
def GSt.entry (h:GSt base mb gc wx v0 M0 wb v L M D) (a4:mb<base) (k:Ind):
  ∃u st wc,(aQ k M).getD (.slice none 0 0)=u∧(Instr.mapEntry 166 (.map (some mb)) (aS k)).run Tryz.prog wb= .ok (.tuple #[u,.int .i64 ((st:Nat):Int)]) wc∧wb.grownBy wc (some mb)∧wc.heap.size=wb.heap.size∧StampAt aS wc mb (pO k (.slice none 0 0) M) k st∧aD base wc u (D k):=by
 obtain⟨wc,st,hr,hS,hg,hs⟩:=Da kM u166 z127 h.1.map k;refine⟨_,st,wc,rfl,hr,hg,hs,hS,?_⟩;cases hk:aQ k M with
 |none=>
  rw [h.1.non k hk];exact aD.nil _ _
 |some u=>
  have ho:=(h.1.val k u hk).1;exact gF ho fun g a7=>hg.block g (cB ho g a7).2 (fun e=>by have:=(cB ho g a7).1;have:=aL e;omega)
def GSt.finish {wc wd:Wo} (h:GSt base mb gc wx v0 M0 wb v L M D) (a4:mb<base) (a2:gc<base) (a6:gc≠mb) (a0:base≤wb.heap.size)
  (hu:(aQ k M).getD (.slice none 0 0)=u) (a9:wb.grownBy wc (some mb)) (c4:wc.heap.size=wb.heap.size) (b7:StampAt aS wc mb (pO k (.slice none 0 0) M) k st) (c3:aD base wc u (D k))
  (h5:wd.ownsRow base 63 2 v5 ((D k).length+1) ((D k).flatMap aT++ [.string x,.int .i64 m])) (hg:wc.grownBy wd u.ownBlock) (hv:v5.ownBlock=u.ownBlock∨v5.ownBlock=some wc.heap.size):
  ∃we,(Instr.entryStore 166 (.map (some mb)) (.int .i64 ((st:Nat):Int)) v5).run Tryz.prog wd= .ok () we∧GSt base mb gc wx v0 M0 we v L (putM k v5 M) (fun k'=>if k'=k then D k++ [(x,m)] else D k')∧wd.heap.size=we.heap.size:=by
 obtain⟨h1,h2,h3⟩:=h;have a1:∀g,g<base→some g≠u.ownBlock:=fun g a2 e=>by have:=(cB c3 g e.symm).1;omega
 have b5:=b7.of_block (hg.block mb b7.map.lt (a1 mb a4));obtain⟨we,hr,hM,hge,hse⟩:=Gn (P:=Tryz.prog) (mt:=166) b5 v5;rw [Ah] at hM;have a3:∀g,g<wb.heap.size→g≠mb→u.ownBlock≠some g→wd.heap[g]?=wb.heap[g]?:=fun g q1 q2 q3=>
  (hg.block g (by omega) (fun e=>q3 e.symm)).trans (a9.block g q1 (fun e=>q2 (aL e)))
 have c2:wb.heap.size≤wd.heap.size:=by have:=hg.size;omega
 have b8:v5.ownBlock=u.ownBlock∨∃g,v5.ownBlock=some g∧wb.heap.size≤g:=by
  rcases hv with e|e
  ·exact .inl e
  ·exact .inr ⟨_,e,by omega⟩
 have b0:∀g,g<wd.heap.size→g≠mb→we.heap[g]?=wd.heap[g]?:=fun g q1 q2=>hge.block g q1 (fun e=>q2 (aL e))
 have g1:=h1.pushAt a4 a0 hu h5 a3 c2 b8 hM b0;have g2:GK mb gc wx v0 M0 we v (putM k v5 M):=h2.pushAt (hge.os.trans (hg.os.trans a9.os)) (hge.tape.trans (hg.tape.trans a9.tape)) (hge.output.trans (hg.output.trans a9.output)) (by omega) hu (fun g q1 q2 q3=>(b0 g (by omega) q2).trans (a3 g q1 q2 q3)) b8;have c1:gc<wb.heap.size:=(aM.1 h3).1;refine⟨we,hr,⟨g1,g2,?_⟩,hse.symm⟩;exact(b0 gc (by omega) a6).trans ((a3 gc c1 a6 (fun e=>a1 gc a2 e.symm)).trans h3)
def GSt.re (h:GSt base mb gc wx v0 M0 wr v L M D):GSt base mb gc wr v M wr v L M D:=⟨h.1,GK.refl _ _ _ _ _,h.2.2⟩
def GSt.trans {wq:Wo} {v':Value} (h:GSt base mb gc wx v0 M0 wr v L M D) (k:GSt base mb gc wr v M wq v' L' M' D'):GSt base mb gc wx v0 M0 wq v' L' M' D':=⟨k.1,h.2.1.trans k.2.1,k.2.2⟩
def GSt.congr (h:GSt base mb gc wx v0 M0 wr v L M D) (e:∀k,D k=D' k):GSt base mb gc wx v0 M0 wr v L M D':=⟨h.1.congr e,h.2⟩
def GSt.off (h:GSt base mb gc wx v0 M0 wr v L M D) {q:Nat} (hq:wr.heap.size≤q):OffG v M q:=Bg h.1 hq
def GSt.low (h:GSt base mb gc wx v0 M0 wr v L M D) {q:Nat} (hq:q<base):OffG v M q:=
 ⟨fun e=>by have:=(cB h.1.row q e).1;omega,fun k u hk e=>by have:=(cB (h.1.val k u hk).1 q e).1;omega⟩
def GSt.bel {B:Nat} (h:GSt base mb gc wx v0 M0 wr v L M D) (h0:∀q,q<B→OffG v0 M0 q) (h1:B≤mb) (h2:B≤gc) (h3:B≤wx.heap.size):Below B wx wr:=
 ⟨h.2.1.os,h.2.1.tape,h.2.1.output,h.2.1.size,fun g hg=>h.2.1.blk g (by omega) (by omega) (by omega) (h0 g hg)⟩
def GSt.same (h:GSt base mb gc wx v0 M0 wr v L M D) {q:Nat} {o:Obj} (hq:wx.heap[q]?=some o) (hm:q≠mb) (hg:q≠gc) (ho:OffG v0 M0 q):wr.heap[q]?=some o:=
 (h.2.1.blk q (aM.1 hq).1 hm hg ho).trans hq
def OutT.read2 {L:List Tm} (h:OutT n base w v L):∃a c,v= .slice a L.length c∧∀(k:Nat) T,L[k]?=some T→∃g vs,a=some ⟨g,0,none⟩∧base≤g∧g<w.heap.size∧TmV n w T vs∧∀(j:Nat) u,vs[j]?=some u→w.cell? ⟨g,k*7+j,none⟩=some u:=by
 obtain⟨X,h1,h2⟩:=h;obtain⟨a,c,rfl,hr⟩:=gL h1;refine⟨a,c,rfl,fun k T hk=>?_⟩;rcases hr with h0|⟨g,e,hb,hg,hc⟩
 ·have:=(aO.1 hk).1;omega
 ·obtain⟨vs,h3,h4⟩:=h2.get hk;exact⟨g,vs,e,hb,hg,h3,fun j u hj=>hc _ _ (h4 j u hj)⟩
def Ju (h1:T.kd≠1) (h2:T.kd≠2):T.atomI=none:=by
 unfold Tm.atomI;rw [if_neg h1,if_neg h2]
def Jp {A:Tm} (h:T.kd=1∧A=T∨T.kd=2∧T.args= [A]):T.atomI=some A.ind:=by
 unfold Tm.atomI;rcases h with⟨h1,rfl⟩|⟨h1,h2⟩
 ·rw [if_pos h1]
 ·rw [if_neg (by rw [h1];decide),if_pos h1,h2];rfl
def Jn {LT:List Tm} {k:Nat} (h:LT[k]?=some T):(LT.take (k+1)).filterMap Tm.atomI=(LT.take k).filterMap Tm.atomI++T.atomI.toList:=by
 rw [gK,h,Ly];cases hT:T.atomI<;>simp [hT]
def OffG.ent (h:OffG v M q) (hu:(aQ k M).getD (.slice none 0 0)=u):u.ownBlock≠some q:=by
 cases hk:aQ k M with
 |none=>rw [hk] at hu;simp at hu;subst hu;simp [Value.ownBlock]
 |some u'=>rw [hk] at hu;simp at hu;subst hu;exact h.2 _ _ hk
def AM (h:w2.heap[w.heap.size]?=(w.alloc (.cells #[.string x,.int .i64 m] 63)).heap[w.heap.size]?):SrcAt w2 (.slice (some ⟨w.heap.size,0,none⟩) 1 1) 1 [.string x,.int .i64 m]:=.inr ⟨_,_,rfl,fun j u hj=>by
 rw [jX,bT];have hq:=aK w (Obj.cells #[.string x,.int .i64 m] 63);simp only [World.cell?,h,hq];simpa using hj⟩
def C14 (a b c:Nat) (w w':Wo):Prop:=w'.heap[a]?=w.heap[a]?∧w'.heap[b]?=w.heap[b]?∧w'.heap[c]?=w.heap[c]?
def GSt.turn (h:GSt base mb gc wx v0 M0 w2 v L M D) (a4:mb<base) (a2:gc<base)
  (hO:aD base w3 v3 L') (hv:v3.ownBlock=v.ownBlock) (hg:w2.grownBy w3 v.ownBlock):GrI base w3 mb v3 L' M D∧GK mb gc wx v0 M0 w3 v3 M∧w3.heap[gc]?=some (.cells #[v,.map (some mb)] 168 (0,0)):=by
 obtain⟨h1,h2,h3⟩:=h;have a1:∀g,g<base→some g≠v.ownBlock:=fun g a2 e=>by have:=(cB h1.row g e.symm).1;omega
 refine⟨⟨hO,h1.map.of_block (hg.block mb h1.map.lt (a1 mb a4)),fun k u hk=>?_,h1.non,h1.sep⟩,⟨hg.os.trans h2.os,hg.tape.trans h2.tape,hg.output.trans h2.output,aE h2.size hg.size,fun g hl q1 q2 ho=>?_,fun g hl ho=>?_⟩,?_⟩
 ·obtain⟨q1,q2⟩:=h1.val k u hk;exact⟨gF q1 fun g a7=>hg.block g (cB q1 g a7).2 (fun e=>q2 g a7 e.symm),fun g e1 e2=>q2 g e1 (hv.symm.trans e2)⟩
 ·exact(hg.block g (bG hl h2.size) (fun e=>(h2.off g hl ho).1 e.symm)).trans (h2.blk g hl q1 q2 ho)
 ·exact⟨by rw [hv];exact(h2.off g hl ho).1,(h2.off g hl ho).2⟩
 ·exact(hg.block gc (aM.1 h3).1 (a1 gc a2)).trans h3
def GSt.setv (t1:GrI base w3 mb v3 L M D) (t2:GK mb gc wx v0 M0 w3 v3 M) (t3:w3.heap[gc]?=some (.cells #[v,.map (some mb)] 168 (0,0))) (a2:gc<base) (a6:gc≠mb):
  ∃w4,(Instr.storeAt 127 (.pointer (some ⟨gc,0,none⟩)) v3).run Tryz.prog w3= .ok () w4∧GSt base mb gc wx v0 M0 w4 v3 L M D∧w4.heap.size=w3.heap.size:=by
 obtain⟨a5,c5,e5,_⟩:=t1.row.read;obtain⟨w6,hr,hc6,hg6,hs6⟩:=LP (u:=v3) t3 (by rw [e5];rfl) (by rw [e5];rfl);exact⟨w6,hr,⟨t1.keep (fun g c0 b4=>hg6.block g b4 (fun e=>by have:=aL e;omega)) (hg6.block mb t1.map.lt (fun e=>a6 (aL e).symm)),t2.cell hg6,hc6⟩,hs6⟩
def YW {W W1:Wo} {A:Addr} {x:Value} (h:(storeCells A [x,y] 0).run Tryz.prog W= .ok () W1):(Instr.storeAt 168 (.pointer (some A)) (.agg #[x,y])).run Tryz.prog W= .ok () W1:=by
 have hs:∀w,(sizeOf 168).run Tryz.prog w= .ok 2 w:=fun w=>Tryz.sizeOf168 w
 have ha:(Instr.sureAddr (.pointer (some A))).run Tryz.prog W= .ok A W:=rfl;unfold Instr.storeAt;simp [storeVar,ha,hs,Value.cells,h]
def GraphP (w:Wo) (P:List Cl) (e:Ending) (w':Wo):Prop:=
 ∃(v:Value) (b:Nat) (L:List Ind) (M:List (Ind × Value)),e= .returned (.agg #[v,.map (some b)])∧aD w.heap.size w' v (cpt L)∧L.Perm (fL P)∧L.Pairwise (fun a b=>¬jQ b a)∧aY aS w' b M∧w.heap.size≤b∧
  (∀k u,aQ k M=some u→aD w.heap.size w' u (aV P k))∧(∀k,aQ k M=none→aV P k= [])∧Bz w w'
