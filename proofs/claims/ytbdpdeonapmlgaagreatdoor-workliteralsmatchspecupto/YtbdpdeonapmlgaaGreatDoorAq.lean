/- Lemmas for the text Card; no condition. -/
import Derived.Test.YtbdpdeonapmlgaaGreatDoorAp
set_option linter.all false
set_option maxHeartbeats 16000000
set_option maxRecDepth 100000
namespace Go.Proofs.YtbdpdeonapmlgaaGreatDoor
open Go.RowKit Go.Big Go.RowsK Go.MapK
section
attribute [local go_sem] Heavy.uponW
theorem zK {base m:Nat} {w:World} {a:Option Addr} {n c:Nat} {L:List Ind} (h:aD base w (.slice a n c) L) (hb:L.length≤900000300) (hm:w.heap.size≤m) (x:ByteArray) (q:Int) {F:Bool} (hF:gT (x,q) L=F):∀w2,Below m w w2→Calls Tryz.prog 146 #[.slice a n c,.agg #[.string x,.int .i64 q]] w2 fun e w'=>e= .returned (.bool F)∧Below w2.heap.size w2 w':=fun w2 c7=>by
 obtain⟨a',c',he,hV⟩:=(h.below c7 hm).read;injection he with e1 e2 e3
 subst e1;subst e3;rw [←hF,e2];exact EA L x q w2.heap.size w2 a L.length c rfl (by omega) hV (aA _)
def Rdy (P:List Cl) (L3 Ld:List Ind) (I:Ind):Prop:=∀k∈L3,cQ P I k→cQ P k I∨k∈Ld
theorem Cv (P:List Cl) (n:Nat) (w:World) (a:Option Addr) (len c:Nat) (hl:P.length=len) (c9:len≤300) (h:ClsV n w P a) (hF:∀C∈P,C.flt=0) (hn:n≤w.heap.size):
  Calls Tryz.prog 80 #[.slice a len c] w (CompsP w):=by
 have dp:Aside (Calls Tryz.prog 144 #[.slice a len c] w (PredsP w)):=WV P n w a len c hl c9 h hF hn;have du:Aside (∀w2,Below w.heap.size w w2→∀(x':ByteArray) (m':Int),Calls Tryz.prog 145 #[.slice a len c,.agg #[.string x',.int .i64 m']] w2 (UsesP w2 P (x',m'))):=fun w2 hb x' m'=>TQ P x' m' n w2 a len c hl c9 (h.below hb hn) hF (aE hn hb.size)
 clear hl hF h hn;go_enter Tryz.func80,Tryz.ntmps80
 go_wp2_with (go_at_call 144;with_reducible refine dp.out.mono ?_)
 rintro e w1 ⟨v3,L3,rfl,hO3,hN3,hl3,hb1⟩;have f1:Below w.heap.size w w1:=hb1;obtain⟨a3,c3,rfl,_⟩:=hO3.read;obtain⟨np,hnp⟩:∃np,L3.length=np:=⟨_,rfl⟩;rw [hnp] at hO3 hl3;rw [hnp];have e4:=aside3 hO3 hN3 hnp;have h0:Aside (∀(k:Nat) y q,L3[k]?=some (y,q)→∃g3,a3=some ⟨g3,0,none⟩∧∀m w2,w1.heap.size≤m→Below m w1 w2→w2.cell? ⟨g3,k*2,none⟩=some (.string y)∧w2.cell? ⟨g3,k*2+1,none⟩=some (.int .i64 q)):=by
  show∀(k:Nat) y q,_;intro k y q hk;obtain⟨g3,c',he,_,_⟩:=hO3.some (by intro e;subst e;simp at hk);injection he with he1 he2 he3
  subst he1;exact⟨g3,rfl,fun m w2 hm hb=>(hO3.below hb hm).cells hk⟩
 clear dp hO3 hN3 hnp hb1;go_wp2
 go_loopw [4,5] (fun s4 s5 wr=>∃(k:Nat) (v:Value) (X:List Value) (LL:List (List Ind)),v=s4∧s5= .int .i64 k∧k≤np∧RowX w1.heap.size wr v X LL∧LL.length=k∧(∀(j:Nat) I,L3[j]?=some I→j<k→∃L,LL[j]?=some L∧(∀y,y∈L↔cQ P I y)∧L.length≤3000000)∧Below w1.heap.size w1 wr) (fun _ s _=>np-(intOf s).toNat)
 case atStart=>exact⟨0,_,[],[],rfl,rfl,aT _,RowX.nil _ _,rfl,fun j I _ hj=>absurd hj (GO _),aI _ _⟩
 case round=>
  obtain⟨wo,rfl⟩:∃wo,wo=wr:=⟨_,rfl⟩;obtain⟨k,v,X,LL,rfl,rfl,hk,hR,hLL,hU,hB⟩:=hrel
  by_cases g7:k<np
  case neg=>
   obtain rfl:np=k:=by omega
   obtain⟨a4,c4,rfl,hrd⟩:=hR.read;rw [hLL] at hR;rw [hLL];have g5:Aside (∀(j:Nat) y q,L3[j]?=some (y,q)→∃L g4 ai ci,(∀z,z∈L↔cQ P (y,q) z)∧L.length≤3000000∧a4=some ⟨g4,0,none⟩∧∀m w2,wo.heap.size≤m→Below m wo w2→w2.cell? ⟨g4,j,none⟩=some (.slice ai L.length ci)∧aD w1.heap.size w2 (.slice ai L.length ci) L):=by
    show∀(j:Nat) y q,_;intro j y q hj;obtain⟨L,h1,h2,h3⟩:=hU j (y,q) hj (by rw [←e4.out.2.2];exact(List.getElem?_eq_some_iff.1 hj).1);obtain⟨g4,ai,ci,h4,_,h5,h6,_,h7⟩:=hrd j L h1;exact⟨L,g4,ai,ci,h2,h3,h4,fun m w2 hm hb=>⟨(hb.cell (p:=⟨g4,j,none⟩) (by show g4<m;omega)).trans h6,h7.below hb hm⟩⟩
   have h9:Aside (∀(k:Nat) y q,L3[k]?=some (y,q)→∃g3,a3=some ⟨g3,0,none⟩∧∀m w2,wo.heap.size≤m→Below m wo w2→w2.cell? ⟨g3,k*2,none⟩=some (.string y)∧w2.cell? ⟨g3,k*2+1,none⟩=some (.int .i64 q)):=by
    show∀(k:Nat) y q,_;intro k y q hk;obtain⟨g3,h1,h2⟩:=h0.out k y q hk;exact⟨g3,h1,fun m w2 hm hb=>h2 w1.heap.size w2 (aA _) (hB.trans (hb.mono (aE hB.size hm)))⟩
   have fo:Below w.heap.size w wo:=f1.trans (hB.mono f1.size);have b5:Aside (L3.Nodup∧L3.length=np):=e4.out.2;clear hR hLL hU hrd e4 h0 du hB f1;go_wp2
   go_loopw [6,7] (fun s6 s7 wr=>∃(vc:Value) (X:List Value) (LC:List (List Ind)) (vd:Value) (Ld:List Ind),vc=s6∧vd=s7∧RowX wo.heap.size wr vc X LC∧aD wo.heap.size wr vd Ld∧(∀u∈X,SepJ vd u)∧DoneI P L3 Ld∧LC.length≤Ld.length∧(∀L∈LC,L.length≤900000300)∧Below wo.heap.size wo wr) (fun _ s7 _=>np-lenOf s7)
   case atStart=>exact⟨_,[],[],_,[],rfl,rfl,RowX.nil _ _,aD.nil _ _,by simp,⟨by simp,by simp,by simp⟩,aA _,by simp,aI _ _⟩
   case round=>
    obtain⟨w2,rfl⟩:∃w2,w2=wr:=⟨_,rfl⟩;obtain⟨vc,X,LC,vd,Ld,rfl,rfl,hC,hD,hS,hI,hcl,hcb,hB⟩:=hrel;obtain⟨ac,cc,rfl,_⟩:=hC.read;obtain⟨ad,cd,rfl,_⟩:=hD.read;have i1:Ld.length≤np:=by
     rw [←b5.out.2];exact Go.Proofs.Plain.nodup_sub_len hI.1 hI.2.1
    obtain⟨nc,hnc⟩:∃l,LC.length=l:=⟨_,rfl⟩;obtain⟨nd,hnd⟩:∃l,Ld.length=l:=⟨_,rfl⟩;rw [hnc] at hC;rw [hnd] at hD hS;rw [hnc,hnd];have i3:=aside hC;have e6:=aside hD;have b8:=aside6 hnd hnc hI hcl hcb hS;have j4:nd≤np:=by omega
    have j3:nc≤nd:=by omega
    by_cases g7:nd<np
    case neg=>
     have hR:Aside (CompsP w (.returned (.slice ac nc cc)) w2):=⟨_,X,LC,rfl,hC.base fo.size,by omega,hcb,fo.trans (hB.mono fo.size)⟩;clear hC hD hS hI hcl hcb i1 hnc hnd;go_wp2
     go_ret
     exact hR.out
    obtain⟨t,I,ht,hIno,hIr⟩:=WJ (P:=P) (Ld:=Ld) b5.out.1 (by rw [hnd,b5.out.2];exact g7);have l4:t<np:=by rw [←b5.out.2];exact(List.getElem?_eq_some_iff.1 ht).1
    have f0:=aside3 ht hIno hIr;have j2:(nd:Int)<(np:Int):=by omega
    clear hC hD hS hI hcl hcb i1 hnc hnd ht hIno hIr;go_wp2
    go_loopw [6,7,8] (fun s6 s7 s8 wr=>∃i:Nat,s6= .slice ac nc cc∧s7= .slice ad nd cd∧s8= .int .i64 i∧i≤t∧Below w2.heap.size w2 wr) (fun _ _ s _=>np-(intOf s).toNat)
    case atStart=>exact⟨0,rfl,rfl,rfl,aT _,aI _ _⟩
    case round=>
     obtain⟨wi,rfl⟩:∃wi,wi=wr:=⟨_,rfl⟩;obtain⟨i,rfl,rfl,rfl,hi,hBi⟩:=hrel;obtain⟨⟨y,q⟩,hY⟩:∃Y,L3[i]?=some Y:=⟨L3[i]'(by rw [b5.out.2];omega),aL _⟩;obtain⟨g3,rfl,_⟩:=h9.out i y q hY;obtain⟨Li,g4,ai,ci,hmi,hli,rfl,hr4⟩:=g5.out i y q hY;have b6:Below wo.heap.size wo wi:=hB.trans (hBi.mono hB.size);have f4:Aside (∀(k:Nat) y q,L3[k]?=some (y,q)→∀w',Below wi.heap.size wi w'→w'.cell? ⟨g3,k*2,none⟩=some (.string y)∧w'.cell? ⟨g3,k*2+1,none⟩=some (.int .i64 q)):=by
      show∀(k:Nat) y q,_;intro k y q hk w' hb;obtain⟨g',e,h⟩:=h9.out k y q hk;injection e with e;injection e with e
      subst e;exact h _ w' (aA _) (b6.trans (hb.mono b6.size))
     have l0:Aside (∀(j:Nat) y q,L3[j]?=some (y,q)→∃L ai ci,(∀z,z∈L↔cQ P (y,q) z)∧L.length≤3000000∧∀w',Below wi.heap.size wi w'→w'.cell? ⟨g4,j,none⟩=some (.slice ai L.length ci)∧aD w1.heap.size w' (.slice ai L.length ci) L):=by
      show∀(k:Nat) y q,_;intro k y q hk;obtain⟨L,g',ai',ci',e1,e2,e,h⟩:=g5.out k y q hk;injection e with e;injection e with e
      subst e;exact⟨L,ai',ci',e1,e2,fun w' hb=>h _ w' (aA _) (b6.trans (hb.mono b6.size))⟩
     obtain⟨li,hli2⟩:∃l,Li.length=l:=⟨_,rfl⟩;rw [hli2] at hr4;have d9:Aside (∀w',Below wi.heap.size wi w'→w'.cell? ⟨g4,i,none⟩=some (.slice ai li ci)∧aD w1.heap.size w' (.slice ai li ci) Li):=fun w' hb=>hr4 _ w' (aA _) (b6.trans (hb.mono b6.size))
     have d6:=aside2 hmi hli2;have j0:li≤3000000:=by omega
     have c6:=aside hY;obtain⟨F,hF⟩:∃F,gT (y,q) Ld=F:=⟨_,rfl⟩;have FA:=aside hF;have d1:=zK (e6.out.below hBi (aA _)) (by rw [b8.out.1];omega) (aA _) y q hF;have i7:(i:Int)<(np:Int):=by omega
     have i8:(0:Int)≤(i:Int):=by omega
     have k6:IntKind.i64.wrap ((i:Int)+1)=(i:Int)+1:=by rw [aG];omega
     obtain⟨y0,y1⟩:=f4.out i y q hY wi (aI _ _);clear hY hmi hli hr4 hli2 hF h9 g5 b6
     go_wp2_with (go_at_call 146;with_reducible refine(d1 _ (aI _ _)).mono ?_)
     rintro e w3 ⟨rfl,hb3⟩;have f3:Below wi.heap.size wi w3:=hb3;clear d1 hb3 y0 y1;cases F
     case true=>
      have j5:i≠t:=by
       intro e;subst e;have:=f0.out.1;rw [c6.out] at this;cases this;exact f0.out.2.1 (mF.1 FA.out)
      go_wp2;go_roundw
      case rel=>exact⟨i+1,rfl,rfl,by simp,by omega,hBi.trans (f3.mono hBi.size)⟩
      case measure=>simp [intOf];omega
     have j6:Aside ((y,q)∉Ld):=sE.1 FA.out;obtain⟨y0,y1⟩:=f4.out i y q c6.out w3 f3;have a8:=aC w3 (Obj.cells #[.string y,.int .i64 q] 63);have b3:=heap_alloc_new w3 (Obj.cells #[.string y,.int .i64 q] 63);have b7:Aside (bM w3.heap.size (w3.alloc (Obj.cells #[.string y,.int .i64 q] 63)) (.slice (some ⟨w3.heap.size,0,none⟩) 1 1) ((y,q)::fE P (y,q) (L3.take 0)) (0+1)∧Below w3.heap.size w3 (w3.alloc (Obj.cells #[.string y,.int .i64 q] 63))):=⟨⟨[(y,q)],⟨rfl,.inr ⟨_,_,_,rfl,aA _,b3,aA _,by unfold maxLen;omega,rfl,rfl⟩⟩,by simp,by simp [fE],by simp⟩,a8⟩;clear a8 b3 FA;go_wp2
     go_loopw [9,10,11] (fun s9 k8 k9 wr=>∃(k:Nat) (v:Value) (b:Bool),v=s9∧k8= .bool b∧k9= .int .i64 k∧k≤np∧bM w3.heap.size wr v ((y,q)::fE P (y,q) (L3.take k)) (k+1)∧(Rdy P L3 Ld (y,q)→b=true)∧Below w3.heap.size w3 wr) (fun _ _ s _=>np-(intOf s).toNat)
     case atStart=>exact⟨0,_,true,rfl,rfl,rfl,aT _,b7.out.1,fun _=>rfl,b7.out.2⟩
     case round=>
      clear b7 y0 y1;obtain⟨wk,rfl⟩:∃wk,wk=wr:=⟨_,rfl⟩;obtain⟨k,v,b,rfl,rfl,rfl,hk,hE,hRb,hBk⟩:=hrel
      by_cases j1:k<np
      case neg=>
       obtain rfl:np=k:=by omega
       obtain⟨Lo,o1,o2,o3,o4⟩:=hE;rw [←b5.out.2,gA] at o3;have a9:Below wi.heap.size wi wk:=f3.trans (hBk.mono f3.size);cases b
       case false=>
        have j5:i≠t:=by
         intro e;subst e;have:=f0.out.1;rw [c6.out] at this;cases this;exact absurd (hRb f0.out.2.2) (by simp)
        clear o1 o2 o3 o4 hRb;go_wp2;go_roundw
        case rel=>exact⟨i+1,rfl,rfl,by simp,by omega,hBi.trans (a9.mono hBi.size)⟩
        case measure=>simp [intOf];omega
       clear hRb;obtain⟨ao,co,rfl,_⟩:=o1.read;obtain⟨no,hno2⟩:∃l,Lo.length=l:=⟨_,rfl⟩;rw [hno2] at o1;rw [hno2];obtain⟨c0,hncl,hIi,hcl,hcb,hSp⟩:=b8.out;have a1:=hIi.part (aX c6.out) j6.out o2 o3;have d8:Ld.length+Lo.length≤np:=by
        have:=Go.Proofs.Plain.nodup_sub_len a1.1 a1.2.1;rw [aK,b5.out.2] at this;exact this
       have f8:0<Lo.length:=Gt ((o3 (y,q)).2 (by simp));have f5:Below w2.heap.size w2 wk:=hBi.trans (a9.mono hBi.size);have f6:Below wo.heap.size wo wk:=hB.trans (f5.mono hB.size);have b4:SepJ (.slice ad nd cd) (.slice ao no co):=SepJ.of (e6.out.below (hBi.trans (f3.mono hBi.size)) (aA _)) o1;have f7:RowX wo.heap.size wk (.slice ac nc cc) X LC:=i3.out.below f5 (aA _);have i0:aD wo.heap.size wk (.slice ad nd cd) Ld:=e6.out.below f5 (aA _);have g9:wo.heap.size≤w3.heap.size:=aE (hB.trans (hBi.mono hB.size)).size f3.size;have a8:=aC wk (Obj.cells #[.slice ao no co] 127);have b3:=heap_alloc_new wk (Obj.cells #[.slice ao no co] 127);have c5:(wk.alloc (Obj.cells #[.slice ao no co] 127)).ownsRow wo.heap.size 127 1 (.slice ac nc cc) nc X:=by
        have:=(f7.below a8 (aA _)).1;rw [hncl] at this;exact this
       have a6:SrcAt (wk.alloc (Obj.cells #[.slice ao no co] 127)) (.slice (some ⟨wk.heap.size,0,none⟩) 1 1) 1 [.slice ao no co]:=.inr ⟨_,_,rfl,fun t u ht=>by
        rw [jN,cG];simp only [World.cell?,b3];simpa using ht⟩
       have a5:∀u∈([.slice ao no co]:List Value),u.oneCell'=true:=by simp [Value.oneCell']
       have b9:nc+1≤maxLen∧(nc+1)*24≤140737488355328:=by unfold maxLen;omega
       have a2:wo.heap.size≤(wk.alloc (Obj.cells #[.slice ao no co] 127)).heap.size:=aE f6.size a8.size;have b1:Aside (∀v6 w6,w6.ownsRow wo.heap.size 127 1 v6 (nc+1) (X++ [.slice ao no co])→(wk.alloc (Obj.cells #[.slice ao no co] 127)).grownBy w6 (Value.ownBlock (.slice ac nc cc))→
         RowX wo.heap.size w6 v6 (X++ [.slice ao no co]) (LC++ [Lo])∧aD wo.heap.size w6 (.slice ad nd cd) Ld∧aD w3.heap.size w6 (.slice ao no co) Lo∧(∀u∈X++ [.slice ao no co],SepJ (.slice ad nd cd) u)∧Below wo.heap.size wo w6):=by
        show∀v6 w6,_;intro v6 w6 h1 h2;obtain⟨p1,p2,p3⟩:=RowX.push f7 f6.size (show aD wo.heap.size wk (.slice ao no co) Lo from iZ o1 g9) (by rw [hncl];exact h1) h2;refine⟨p1,p3 _ _ _ i0,p3 _ _ _ o1,fun u hu=>?_,f6.trans p2⟩;rcases bX.1 hu with hu|hu
        ·exact hSp u hu
        ·simp at hu;subst hu;exact b4
       have b2:Aside (∀v6 w6 v7 w7,RowX wo.heap.size w6 v6 (X++ [.slice ao no co]) (LC++ [Lo])→aD wo.heap.size w6 (.slice ad nd cd) Ld→aD w3.heap.size w6 (.slice ao no co) Lo→(∀u∈X++ [.slice ao no co],SepJ (.slice ad nd cd) u)→Below wo.heap.size wo w6→
         w7.ownsRow wo.heap.size 63 2 v7 (nd+no) (Ld.flatMap aP++Lo.flatMap aP)→w6.grownBy w7 (Value.ownBlock (.slice ad nd cd))→(v7.ownBlock=Value.ownBlock (.slice ad nd cd)∨v7.ownBlock=some w6.heap.size)→
         RowX wo.heap.size w7 v6 (X++ [.slice ao no co]) (LC++ [Lo])∧aD wo.heap.size w7 v7 (Ld++Lo)∧(∀u∈X++ [.slice ao no co],SepJ v7 u)∧DoneI P L3 (Ld++Lo)∧(LC++ [Lo]).length≤(Ld++Lo).length∧(∀L∈LC++ [Lo],L.length≤900000300)∧Below wo.heap.size wo w7∧nd<lenOf v7):=by
        show∀v6 w6 v7 w7,_;intro v6 w6 v7 w7 h1 h2 h3 h4 h5 h6 h7 h8;obtain⟨p1,p2,p3,p4⟩:=aD.append (M:=Lo) h2 h5.size (by rw [c0,hno2];exact h6) h7 h8;obtain⟨p5,p6⟩:=p4 _ _ _ _ h1 h4;refine⟨p5,p1,p6,a1,?_,fun L hL=>?_,h5.trans p2,?_⟩
        ·rw [aK,aK,rI];omega
        ·rcases bX.1 hL with hL|hL
         ·exact hcb L hL
         ·simp at hL;subst hL;omega
        ·obtain⟨a',c',rfl,_⟩:=p1.read;show nd<(Ld++Lo).length;rw [aK];omega
       have j7:Aside (∀w6,aD w3.heap.size w6 (.slice ao no co) Lo→SrcAt w6 (.slice ao no co) no (Lo.flatMap aP)):=fun w6 h=>rS (show w6.ownsRow w3.heap.size 63 2 (.slice ao no co) no (Lo.flatMap aP) by unfold aD at h;rw [hno2] at h;exact h)
       have i6:Aside (∀w6,aD wo.heap.size w6 (.slice ad nd cd) Ld→w6.ownsRow wo.heap.size 63 2 (.slice ad nd cd) nd (Ld.flatMap aP)):=fun w6 h=>by unfold aD at h;rw [c0] at h;exact h
       have c8:nd+no≤maxLen∧(nd+no)*24≤140737488355328:=by unfold maxLen;omega
       have d7:=zT Lo;have g6:(Lo.flatMap aP).length=no*2:=by rw [flat_len,hno2]
       clear o1 o2 o3 o4 hno2 a1 d8 f8 b4 f7 i0 a8 b3 c0 hncl hIi hcl hcb hSp
       go_upto_region 26 with(at_builtin;refine gK AC _ rfl _ _ rfl wo.heap.size _ _ _ rfl c5 _ _ _ rfl a6 rfl a5 b9.1 b9.2 a2 ?_;intro v6 w6 h6 d4 j9)
       obtain⟨k1,k2,k3,k4,k5⟩:=b1.out _ _ h6 d4;have g0:=i6.out _ k2;have a7:=j7.out _ k3;have d0:=k5.size;have kA:Aside _:=And.intro k1 (And.intro k2 (And.intro k3 (And.intro k4 k5)));clear b1 h6 d4 j9 c5 a6 a5 b9 a2 k1 k2 k3 k4 k5;obtain⟨vo,c2⟩:∃x,Value.slice ao no co=x:=⟨_,rfl⟩;obtain⟨ve,hve⟩:∃x,Value.slice ad nd cd=x:=⟨_,rfl⟩;have k0:=aside2 c2 hve;rw [c2] at a7;rw [hve] at g0;rw [c2,hve];clear c2 hve
       go_wp2_with (at_builtin;refine gK jV _ rfl _ _ rfl wo.heap.size _ _ _ rfl g0 _ _ _ rfl a7 g6 d7 c8.1 c8.2 d0 ?_;intro v7 w7 h7 d5 i2)
       obtain⟨c2,hve⟩:=k0.out;subst c2;subst hve;have b0:Aside _:=b2.out _ _ _ _ kA.out.1 kA.out.2.1 kA.out.2.2.1 kA.out.2.2.2.1 kA.out.2.2.2.2 h7 d5 i2;clear b2 h7 d5 i2 g0 a7 kA d0;go_wp2;go_roundw
       case rel=>exact⟨_,_,_,_,_,rfl,rfl,b0.out.1,b0.out.2.1,b0.out.2.2.1,b0.out.2.2.2.1,b0.out.2.2.2.2.1,b0.out.2.2.2.2.2.1,b0.out.2.2.2.2.2.2.1⟩
       case measure=>
        have h1:=b0.out.2.2.2.2.2.2.2;have h2:lenOf (.slice ad nd cd)=nd:=rfl;rw [h2];omega
      obtain⟨⟨z,r⟩,hZ⟩:∃Z,L3[k]?=some Z:=⟨L3[k]'(by rw [b5.out.2];exact j1),aL _⟩;obtain⟨Lk,ak,ck,hmk,hlkk,hr4k⟩:=l0.out k z r hZ;obtain⟨lk,hlk2⟩:∃l,Lk.length=l:=⟨_,rfl⟩;rw [hlk2] at hr4k;obtain⟨A,hA⟩:∃A,gT (z,r) Li=A:=⟨_,rfl⟩;obtain⟨B,hBB⟩:∃B,gT (y,q) Lk=B:=⟨_,rfl⟩;obtain⟨D,hDD⟩:∃D,gT (z,r) Ld=D:=⟨_,rfl⟩;have a9:Below wi.heap.size wi wk:=f3.trans (hBk.mono f3.size);have cA:Aside (∀w',Below wk.heap.size wk w'→w'.cell? ⟨g3,i*2,none⟩=some (.string y)∧w'.cell? ⟨g3,i*2+1,none⟩=some (.int .i64 q)∧w'.cell? ⟨g3,k*2,none⟩=some (.string z)∧w'.cell? ⟨g3,k*2+1,none⟩=some (.int .i64 r)∧w'.cell? ⟨g4,i,none⟩=some (.slice ai li ci)∧w'.cell? ⟨g4,k,none⟩=some (.slice ak lk ck)):=fun w' hb=>by
       have e9:Below wi.heap.size wi w':=a9.trans (hb.mono a9.size);have h1:=f4.out i y q c6.out w' e9;have h2:=f4.out k z r hZ w' e9;exact⟨h1.1,h1.2,h2.1,h2.2,(d9.out w' e9).1,(hr4k w' e9).1⟩
      have dA:Aside (∀w',Below wk.heap.size wk w'→Calls Tryz.prog 146 #[.slice ai li ci,.agg #[.string z,.int .i64 r]] w' fun e e0=>e= .returned (.bool A)∧Below w'.heap.size w' e0):=zK (d9.out wk a9).2 (by rw [d6.out.2];omega) (aA _) z r hA;have dB:Aside (∀w',Below wk.heap.size wk w'→Calls Tryz.prog 146 #[.slice ak lk ck,.agg #[.string y,.int .i64 q]] w' fun e e0=>e= .returned (.bool B)∧Below w'.heap.size w' e0):=zK (hr4k wk a9).2 (by omega) (aA _) y q hBB;have dD:Aside (∀w',Below wk.heap.size wk w'→Calls Tryz.prog 146 #[.slice ad nd cd,.agg #[.string z,.int .i64 r]] w' fun e e0=>e= .returned (.bool D)∧Below w'.heap.size w' e0):=zK (e6.out.below (hBi.trans (a9.mono hBi.size)) (aA _)) (by rw [b8.out.1];omega) (aA _) z r hDD;have sA:Aside ((A=true↔cQ P (y,q) (z,r))∧(B=true↔cQ P (z,r) (y,q))∧(D=true↔(z,r)∈Ld)):=⟨by rw [←hA,mF,d6.out.1],by rw [←hBB,mF,hmk],by rw [←hDD,mF]⟩;have e7:=aside hE;have g2:=aside hRb;have g8:Aside (((cQ P (y,q) (z,r)∧cQ P (z,r) (y,q))→fE P (y,q) (L3.take (k+1))=fE P (y,q) (L3.take k)++ [(z,r)])∧(¬(cQ P (y,q) (z,r)∧cQ P (z,r) (y,q))→fE P (y,q) (L3.take (k+1))=fE P (y,q) (L3.take k))):=YL hZ;have k7:Aside ((z,r)∈L3):=aX hZ;have l2:(k:Int)<(np:Int):=by omega
      have l3:(0:Int)≤(k:Int):=by omega
      have l5:IntKind.i64.wrap ((k:Int)+1)=(k:Int)+1:=by rw [aG];omega
      clear hE hRb hZ hmk hlkk hr4k hlk2 hA hBB hDD a9
      go_upto_region 19 with fail
      have fd:Below wk.heap.size wk wk.drew:=dI _ _;cases A
      case false=>
       have c1:Aside (fE P (y,q) (L3.take (k+1))=fE P (y,q) (L3.take k)):=g8.out.2 (fun h=>by simpa using sA.out.1.2 h.1);refine Heavy.region_plan (fun w'=>Below wk.heap.size wk w') 20 (Heavy.lights [0,1,2,3,4,5,6,7] (.one 8 (Heavy.lights [9,10,11,12,13,14,15,16,17] (.one 18 (Heavy.lights [19] .done))))) (by kernel_rfl) (by kernel_rfl) fd ?_;simp only [Heavy.lights,bB,bJ,bF,bE]
       iterate 3 ((apply Heavy.light_n;(exact rfl);(exact rfl);(intro a0 hw;go_simp;exact rfl));(refine Heavy.norm_a (by go_simp;exact rfl) ?_))
       (apply Heavy.light_n;(exact rfl);(exact rfl);(intro a0 hw;have zz:=cA.out a0 hw;obtain⟨z0,z1,z2,z3,z4,z5⟩:=zz;go_simp;exact rfl));(refine Heavy.norm_a (by go_simp;exact rfl) ?_)
       iterate 3 ((apply Heavy.light_n;(exact rfl);(exact rfl);(intro a0 hw;go_simp;exact rfl));(refine Heavy.norm_a (by go_simp;exact rfl) ?_))
       (apply Heavy.light_n;(exact rfl);(exact rfl);(intro a0 hw;have zz:=cA.out a0 hw;obtain⟨z0,z1,z2,z3,z4,z5⟩:=zz;go_simp;exact rfl));(refine Heavy.norm_a (by go_simp;exact rfl) ?_)
       (apply Heavy.one_n;(exact rfl);(exact rfl));go_simp
       refine(dA.out _ fd).mono ?_;rintro e wA ⟨rfl,hbA⟩;have fA:Below wk.heap.size wk wA:=fd.trans (hbA.mono fd.size);refine⟨_,rfl,fA,?_⟩
       (refine Heavy.norm_a (by go_simp;exact rfl) ?_)
       clear hbA
       (apply Heavy.light_n;(exact rfl);(exact rfl);(intro a0 hw;go_simp;exact rfl));(refine Heavy.norm_a (by go_simp;exact rfl) ?_)
       iterate 8 ((apply Heavy.light_skip;(exact rfl);(go_simp));(refine Heavy.norm_a (by go_simp;exact rfl) ?_))
       (refine Heavy.one_skip rfl (by go_simp) fA ?_);(refine Heavy.norm_a (by go_simp;exact rfl) ?_)
       (apply Heavy.light_n;(exact rfl);(exact rfl);(intro a0 hw;go_simp;exact rfl));(refine Heavy.norm_a (by go_simp;exact rfl) ?_)
       apply Heavy.plan_end;show wpList _ _ _ _ _ _
       go_upto_region 22 with fail
       have fe:Below wk.heap.size wk wA.drew:=fA.trans (dI _ _);refine Heavy.region_plan (fun w'=>Below wk.heap.size wk w') 17 (Heavy.lights [0,1,2,3,4,5,6,7] (.one 8 (Heavy.lights [9,10,11,12,13,14] (.one 15 (Heavy.lights [16] .done))))) (by kernel_rfl) (by kernel_rfl) fe ?_;simp only [Heavy.lights,bB,bJ,bF,bE]
       iterate 3 ((apply Heavy.light_n;(exact rfl);(exact rfl);(intro a0 hw;go_simp;exact rfl));(refine Heavy.norm_a (by go_simp;exact rfl) ?_))
       (apply Heavy.light_n;(exact rfl);(exact rfl);(intro a0 hw;have zz:=cA.out a0 hw;obtain⟨z0,z1,z2,z3,z4,z5⟩:=zz;go_simp;exact rfl));(refine Heavy.norm_a (by go_simp;exact rfl) ?_)
       iterate 3 ((apply Heavy.light_n;(exact rfl);(exact rfl);(intro a0 hw;go_simp;exact rfl));(refine Heavy.norm_a (by go_simp;exact rfl) ?_))
       (apply Heavy.light_n;(exact rfl);(exact rfl);(intro a0 hw;have zz:=cA.out a0 hw;obtain⟨z0,z1,z2,z3,z4,z5⟩:=zz;go_simp;exact rfl));(refine Heavy.norm_a (by go_simp;exact rfl) ?_)
       (apply Heavy.one_n;(exact rfl);(exact rfl));go_simp
       refine(dA.out _ fe).mono ?_;rintro e wC ⟨rfl,hbC⟩;have fC:Below wk.heap.size wk wC:=fe.trans (hbC.mono fe.size);refine⟨_,rfl,fC,?_⟩
       (refine Heavy.norm_a (by go_simp;exact rfl) ?_)
       clear hbC
       (apply Heavy.light_n;(exact rfl);(exact rfl);(intro a0 hw;go_simp;exact rfl));(refine Heavy.norm_a (by go_simp;exact rfl) ?_)
       iterate 5 ((apply Heavy.light_skip;(exact rfl);(go_simp));(refine Heavy.norm_a (by go_simp;exact rfl) ?_))
       (refine Heavy.one_skip rfl (by go_simp) fC ?_);(refine Heavy.norm_a (by go_simp;exact rfl) ?_)
       (apply Heavy.light_skip;(exact rfl);(go_simp));(refine Heavy.norm_a (by go_simp;exact rfl) ?_)
       apply Heavy.plan_end;show wpList _ _ _ _ _ _;go_wp2;go_roundw
       case rel=>exact⟨k+1,v,b,rfl,rfl,by simp,by omega,bM.mono (bM.below e7.out fC (aA _)) (by rw [c1.out]) (by omega),g2.out,hBk.trans (fC.mono hBk.size)⟩
       case measure=>simp [intOf];omega
      cases B
      case true=>
       have c1:Aside (fE P (y,q) (L3.take (k+1))=fE P (y,q) (L3.take k)++ [(z,r)]):=g8.out.1 ⟨sA.out.1.1 rfl,sA.out.2.1.1 rfl⟩;refine Heavy.region_plan (fun w'=>Below wk.heap.size wk w') 20 (Heavy.lights [0,1,2,3,4,5,6,7] (.one 8 (Heavy.lights [9,10,11,12,13,14,15,16,17] (.one 18 (Heavy.lights [19] .done))))) (by kernel_rfl) (by kernel_rfl) fd ?_;simp only [Heavy.lights,bB,bJ,bF,bE]
       iterate 3 ((apply Heavy.light_n;(exact rfl);(exact rfl);(intro a0 hw;go_simp;exact rfl));(refine Heavy.norm_a (by go_simp;exact rfl) ?_))
       (apply Heavy.light_n;(exact rfl);(exact rfl);(intro a0 hw;have zz:=cA.out a0 hw;obtain⟨z0,z1,z2,z3,z4,z5⟩:=zz;go_simp;exact rfl));(refine Heavy.norm_a (by go_simp;exact rfl) ?_)
       iterate 3 ((apply Heavy.light_n;(exact rfl);(exact rfl);(intro a0 hw;go_simp;exact rfl));(refine Heavy.norm_a (by go_simp;exact rfl) ?_))
       (apply Heavy.light_n;(exact rfl);(exact rfl);(intro a0 hw;have zz:=cA.out a0 hw;obtain⟨z0,z1,z2,z3,z4,z5⟩:=zz;go_simp;exact rfl));(refine Heavy.norm_a (by go_simp;exact rfl) ?_)
       (apply Heavy.one_n;(exact rfl);(exact rfl));go_simp
       refine(dA.out _ fd).mono ?_;rintro e wA ⟨rfl,hbA⟩;have fA:Below wk.heap.size wk wA:=fd.trans (hbA.mono fd.size);refine⟨_,rfl,fA,?_⟩
       (refine Heavy.norm_a (by go_simp;exact rfl) ?_)
       clear hbA
       (apply Heavy.light_n;(exact rfl);(exact rfl);(intro a0 hw;go_simp;exact rfl));(refine Heavy.norm_a (by go_simp;exact rfl) ?_)
       iterate 3 ((apply Heavy.light_step;(exact rfl);(go_simp);(intro a0 hw;go_simp;exact rfl));(refine Heavy.norm_a (by go_simp;exact rfl) ?_))
       (apply Heavy.light_step;(exact rfl);(go_simp);(intro a0 hw;have zz:=cA.out a0 hw;obtain⟨z0,z1,z2,z3,z4,z5⟩:=zz;go_simp;exact rfl));(refine Heavy.norm_a (by go_simp;exact rfl) ?_)
       iterate 3 ((apply Heavy.light_step;(exact rfl);(go_simp);(intro a0 hw;go_simp;exact rfl));(refine Heavy.norm_a (by go_simp;exact rfl) ?_))
       (apply Heavy.light_step;(exact rfl);(go_simp);(intro a0 hw;have zz:=cA.out a0 hw;obtain⟨z0,z1,z2,z3,z4,z5⟩:=zz;go_simp;exact rfl));(refine Heavy.norm_a (by go_simp;exact rfl) ?_)
       (apply Heavy.one_step;(exact rfl);(go_simp));go_simp
       refine(dB.out _ fA).mono ?_;rintro e wB ⟨rfl,hbB⟩;have fB:Below wk.heap.size wk wB:=fA.trans (hbB.mono fA.size);refine⟨_,rfl,fB,?_⟩
       (refine Heavy.norm_a (by go_simp;exact rfl) ?_)
       clear hbB
       (apply Heavy.light_n;(exact rfl);(exact rfl);(intro a0 hw;go_simp;exact rfl));(refine Heavy.norm_a (by go_simp;exact rfl) ?_)
       apply Heavy.plan_end;show wpList _ _ _ _ _ _;obtain⟨z0,z1,z2,z3,z4,z5⟩:=cA.out wB fB;obtain⟨S0,hS0⟩:∃S,(y,q)::fE P (y,q) (L3.take k)=S:=⟨_,rfl⟩;have i5:Aside ((y,q)::fE P (y,q) (L3.take (k+1))=S0++ [(z,r)]):=by
        show _=_;rw [c1.out,←hS0];rfl
       have EB:Aside (bM w3.heap.size wB v S0 (k+1)):=by
        have:=bM.below e7.out fB (aA _);rw [hS0] at this;exact this
       clear hS0
       go_wp2_with (go_at_call 147;with_reducible refine(bM.sorted EB.out (aE hBk.size fB.size) (by omega) z r).mono ?_;rintro e w9 ⟨u3,rfl,hE,hb9⟩)
       have E9:=aside hE;have f9:Below w3.heap.size w3 w9:=hBk.trans ((fB.trans (hb9.mono fB.size)).mono hBk.size);clear hE hb9 EB z0 z1 z2 z3 z4 z5
       try go_wp2
       go_roundw
       case rel=>exact⟨k+1,u3,b,rfl,rfl,by simp,by omega,bM.mono E9.out i5.out.symm (by omega),g2.out,f9⟩
       case measure=>simp [intOf];omega
      have c1:Aside (fE P (y,q) (L3.take (k+1))=fE P (y,q) (L3.take k)):=g8.out.2 (fun h=>by simpa using sA.out.2.1.2 h.2);cases D
      case false=>
       have i4:Aside (Rdy P L3 Ld (y,q)→False):=fun h=>by
        rcases h (z,r) k7.out (sA.out.1.1 rfl) with h1|h1
        ·simpa using sA.out.2.1.2 h1
        ·simpa using sA.out.2.2.2 h1
       refine Heavy.region_plan (fun w'=>Below wk.heap.size wk w') 20 (Heavy.lights [0,1,2,3,4,5,6,7] (.one 8 (Heavy.lights [9,10,11,12,13,14,15,16,17] (.one 18 (Heavy.lights [19] .done))))) (by kernel_rfl) (by kernel_rfl) fd ?_;simp only [Heavy.lights,bB,bJ,bF,bE]
       iterate 3 ((apply Heavy.light_n;(exact rfl);(exact rfl);(intro a0 hw;go_simp;exact rfl));(refine Heavy.norm_a (by go_simp;exact rfl) ?_))
       (apply Heavy.light_n;(exact rfl);(exact rfl);(intro a0 hw;have zz:=cA.out a0 hw;obtain⟨z0,z1,z2,z3,z4,z5⟩:=zz;go_simp;exact rfl));(refine Heavy.norm_a (by go_simp;exact rfl) ?_)
       iterate 3 ((apply Heavy.light_n;(exact rfl);(exact rfl);(intro a0 hw;go_simp;exact rfl));(refine Heavy.norm_a (by go_simp;exact rfl) ?_))
       (apply Heavy.light_n;(exact rfl);(exact rfl);(intro a0 hw;have zz:=cA.out a0 hw;obtain⟨z0,z1,z2,z3,z4,z5⟩:=zz;go_simp;exact rfl));(refine Heavy.norm_a (by go_simp;exact rfl) ?_)
       (apply Heavy.one_n;(exact rfl);(exact rfl));go_simp
       refine(dA.out _ fd).mono ?_;rintro e wA ⟨rfl,hbA⟩;have fA:Below wk.heap.size wk wA:=fd.trans (hbA.mono fd.size);refine⟨_,rfl,fA,?_⟩
       (refine Heavy.norm_a (by go_simp;exact rfl) ?_)
       clear hbA
       (apply Heavy.light_n;(exact rfl);(exact rfl);(intro a0 hw;go_simp;exact rfl));(refine Heavy.norm_a (by go_simp;exact rfl) ?_)
       iterate 3 ((apply Heavy.light_step;(exact rfl);(go_simp);(intro a0 hw;go_simp;exact rfl));(refine Heavy.norm_a (by go_simp;exact rfl) ?_))
       (apply Heavy.light_step;(exact rfl);(go_simp);(intro a0 hw;have zz:=cA.out a0 hw;obtain⟨z0,z1,z2,z3,z4,z5⟩:=zz;go_simp;exact rfl));(refine Heavy.norm_a (by go_simp;exact rfl) ?_)
       iterate 3 ((apply Heavy.light_step;(exact rfl);(go_simp);(intro a0 hw;go_simp;exact rfl));(refine Heavy.norm_a (by go_simp;exact rfl) ?_))
       (apply Heavy.light_step;(exact rfl);(go_simp);(intro a0 hw;have zz:=cA.out a0 hw;obtain⟨z0,z1,z2,z3,z4,z5⟩:=zz;go_simp;exact rfl));(refine Heavy.norm_a (by go_simp;exact rfl) ?_)
       (apply Heavy.one_step;(exact rfl);(go_simp));go_simp
       refine(dB.out _ fA).mono ?_;rintro e wB ⟨rfl,hbB⟩;have fB:Below wk.heap.size wk wB:=fA.trans (hbB.mono fA.size);refine⟨_,rfl,fB,?_⟩
       (refine Heavy.norm_a (by go_simp;exact rfl) ?_)
       clear hbB
       (apply Heavy.light_n;(exact rfl);(exact rfl);(intro a0 hw;go_simp;exact rfl));(refine Heavy.norm_a (by go_simp;exact rfl) ?_)
       apply Heavy.plan_end;show wpList _ _ _ _ _ _
       go_upto_region 22 with fail
       have fe:Below wk.heap.size wk wB.drew:=fB.trans (dI _ _);refine Heavy.region_plan (fun w'=>Below wk.heap.size wk w') 17 (Heavy.lights [0,1,2,3,4,5,6,7] (.one 8 (Heavy.lights [9,10,11,12,13,14] (.one 15 (Heavy.lights [16] .done))))) (by kernel_rfl) (by kernel_rfl) fe ?_;simp only [Heavy.lights,bB,bJ,bF,bE]
       iterate 3 ((apply Heavy.light_n;(exact rfl);(exact rfl);(intro a0 hw;go_simp;exact rfl));(refine Heavy.norm_a (by go_simp;exact rfl) ?_))
       (apply Heavy.light_n;(exact rfl);(exact rfl);(intro a0 hw;have zz:=cA.out a0 hw;obtain⟨z0,z1,z2,z3,z4,z5⟩:=zz;go_simp;exact rfl));(refine Heavy.norm_a (by go_simp;exact rfl) ?_)
       iterate 3 ((apply Heavy.light_n;(exact rfl);(exact rfl);(intro a0 hw;go_simp;exact rfl));(refine Heavy.norm_a (by go_simp;exact rfl) ?_))
       (apply Heavy.light_n;(exact rfl);(exact rfl);(intro a0 hw;have zz:=cA.out a0 hw;obtain⟨z0,z1,z2,z3,z4,z5⟩:=zz;go_simp;exact rfl));(refine Heavy.norm_a (by go_simp;exact rfl) ?_)
       (apply Heavy.one_n;(exact rfl);(exact rfl));go_simp
       refine(dA.out _ fe).mono ?_;rintro e wC ⟨rfl,hbC⟩;have fC:Below wk.heap.size wk wC:=fe.trans (hbC.mono fe.size);refine⟨_,rfl,fC,?_⟩
       (refine Heavy.norm_a (by go_simp;exact rfl) ?_)
       clear hbC
       (apply Heavy.light_n;(exact rfl);(exact rfl);(intro a0 hw;go_simp;exact rfl));(refine Heavy.norm_a (by go_simp;exact rfl) ?_)
       iterate 4 ((apply Heavy.light_step;(exact rfl);(go_simp);(intro a0 hw;go_simp;exact rfl));(refine Heavy.norm_a (by go_simp;exact rfl) ?_))
       (apply Heavy.light_step;(exact rfl);(go_simp);(intro a0 hw;have zz:=cA.out a0 hw;obtain⟨z0,z1,z2,z3,z4,z5⟩:=zz;go_simp;exact rfl));(refine Heavy.norm_a (by go_simp;exact rfl) ?_)
       (apply Heavy.one_step;(exact rfl);(go_simp));go_simp
       refine(dD.out _ fC).mono ?_;rintro e wD ⟨rfl,hbD⟩;have fD:Below wk.heap.size wk wD:=fC.trans (hbD.mono fC.size);refine⟨_,rfl,fD,?_⟩
       (refine Heavy.norm_a (by go_simp;exact rfl) ?_)
       clear hbD
       (apply Heavy.light_step;(exact rfl);(go_simp);(intro a0 hw;go_simp;exact rfl));(refine Heavy.norm_a (by go_simp;exact rfl) ?_)
       apply Heavy.plan_end;show wpList _ _ _ _ _ _;go_wp2;go_roundw
       case rel=>exact⟨k+1,v,false,rfl,rfl,by simp,by omega,bM.mono (bM.below e7.out fD (aA _)) (by rw [c1.out]) (by omega),fun h=>(i4.out h).elim,hBk.trans (fD.mono hBk.size)⟩
       case measure=>simp [intOf];omega
      refine Heavy.region_plan (fun w'=>Below wk.heap.size wk w') 20 (Heavy.lights [0,1,2,3,4,5,6,7] (.one 8 (Heavy.lights [9,10,11,12,13,14,15,16,17] (.one 18 (Heavy.lights [19] .done))))) (by kernel_rfl) (by kernel_rfl) fd ?_;simp only [Heavy.lights,bB,bJ,bF,bE]
      iterate 3 ((apply Heavy.light_n;(exact rfl);(exact rfl);(intro a0 hw;go_simp;exact rfl));(refine Heavy.norm_a (by go_simp;exact rfl) ?_))
      (apply Heavy.light_n;(exact rfl);(exact rfl);(intro a0 hw;have zz:=cA.out a0 hw;obtain⟨z0,z1,z2,z3,z4,z5⟩:=zz;go_simp;exact rfl));(refine Heavy.norm_a (by go_simp;exact rfl) ?_)
      iterate 3 ((apply Heavy.light_n;(exact rfl);(exact rfl);(intro a0 hw;go_simp;exact rfl));(refine Heavy.norm_a (by go_simp;exact rfl) ?_))
      (apply Heavy.light_n;(exact rfl);(exact rfl);(intro a0 hw;have zz:=cA.out a0 hw;obtain⟨z0,z1,z2,z3,z4,z5⟩:=zz;go_simp;exact rfl));(refine Heavy.norm_a (by go_simp;exact rfl) ?_)
      (apply Heavy.one_n;(exact rfl);(exact rfl));go_simp
      refine(dA.out _ fd).mono ?_;rintro e wA ⟨rfl,hbA⟩;have fA:Below wk.heap.size wk wA:=fd.trans (hbA.mono fd.size);refine⟨_,rfl,fA,?_⟩
      (refine Heavy.norm_a (by go_simp;exact rfl) ?_)
      clear hbA
      (apply Heavy.light_n;(exact rfl);(exact rfl);(intro a0 hw;go_simp;exact rfl));(refine Heavy.norm_a (by go_simp;exact rfl) ?_)
      iterate 3 ((apply Heavy.light_step;(exact rfl);(go_simp);(intro a0 hw;go_simp;exact rfl));(refine Heavy.norm_a (by go_simp;exact rfl) ?_))
      (apply Heavy.light_step;(exact rfl);(go_simp);(intro a0 hw;have zz:=cA.out a0 hw;obtain⟨z0,z1,z2,z3,z4,z5⟩:=zz;go_simp;exact rfl));(refine Heavy.norm_a (by go_simp;exact rfl) ?_)
      iterate 3 ((apply Heavy.light_step;(exact rfl);(go_simp);(intro a0 hw;go_simp;exact rfl));(refine Heavy.norm_a (by go_simp;exact rfl) ?_))
      (apply Heavy.light_step;(exact rfl);(go_simp);(intro a0 hw;have zz:=cA.out a0 hw;obtain⟨z0,z1,z2,z3,z4,z5⟩:=zz;go_simp;exact rfl));(refine Heavy.norm_a (by go_simp;exact rfl) ?_)
      (apply Heavy.one_step;(exact rfl);(go_simp));go_simp
      refine(dB.out _ fA).mono ?_;rintro e wB ⟨rfl,hbB⟩;have fB:Below wk.heap.size wk wB:=fA.trans (hbB.mono fA.size);refine⟨_,rfl,fB,?_⟩
      (refine Heavy.norm_a (by go_simp;exact rfl) ?_)
      clear hbB
      (apply Heavy.light_n;(exact rfl);(exact rfl);(intro a0 hw;go_simp;exact rfl));(refine Heavy.norm_a (by go_simp;exact rfl) ?_)
      apply Heavy.plan_end;show wpList _ _ _ _ _ _
      go_upto_region 22 with fail
      have fe:Below wk.heap.size wk wB.drew:=fB.trans (dI _ _);refine Heavy.region_plan (fun w'=>Below wk.heap.size wk w') 17 (Heavy.lights [0,1,2,3,4,5,6,7] (.one 8 (Heavy.lights [9,10,11,12,13,14] (.one 15 (Heavy.lights [16] .done))))) (by kernel_rfl) (by kernel_rfl) fe ?_;simp only [Heavy.lights,bB,bJ,bF,bE]
      iterate 3 ((apply Heavy.light_n;(exact rfl);(exact rfl);(intro a0 hw;go_simp;exact rfl));(refine Heavy.norm_a (by go_simp;exact rfl) ?_))
      (apply Heavy.light_n;(exact rfl);(exact rfl);(intro a0 hw;have zz:=cA.out a0 hw;obtain⟨z0,z1,z2,z3,z4,z5⟩:=zz;go_simp;exact rfl));(refine Heavy.norm_a (by go_simp;exact rfl) ?_)
      iterate 3 ((apply Heavy.light_n;(exact rfl);(exact rfl);(intro a0 hw;go_simp;exact rfl));(refine Heavy.norm_a (by go_simp;exact rfl) ?_))
      (apply Heavy.light_n;(exact rfl);(exact rfl);(intro a0 hw;have zz:=cA.out a0 hw;obtain⟨z0,z1,z2,z3,z4,z5⟩:=zz;go_simp;exact rfl));(refine Heavy.norm_a (by go_simp;exact rfl) ?_)
      (apply Heavy.one_n;(exact rfl);(exact rfl));go_simp
      refine(dA.out _ fe).mono ?_;rintro e wC ⟨rfl,hbC⟩;have fC:Below wk.heap.size wk wC:=fe.trans (hbC.mono fe.size);refine⟨_,rfl,fC,?_⟩
      (refine Heavy.norm_a (by go_simp;exact rfl) ?_)
      clear hbC
      (apply Heavy.light_n;(exact rfl);(exact rfl);(intro a0 hw;go_simp;exact rfl));(refine Heavy.norm_a (by go_simp;exact rfl) ?_)
      iterate 4 ((apply Heavy.light_step;(exact rfl);(go_simp);(intro a0 hw;go_simp;exact rfl));(refine Heavy.norm_a (by go_simp;exact rfl) ?_))
      (apply Heavy.light_step;(exact rfl);(go_simp);(intro a0 hw;have zz:=cA.out a0 hw;obtain⟨z0,z1,z2,z3,z4,z5⟩:=zz;go_simp;exact rfl));(refine Heavy.norm_a (by go_simp;exact rfl) ?_)
      (apply Heavy.one_step;(exact rfl);(go_simp));go_simp
      refine(dD.out _ fC).mono ?_;rintro e wD ⟨rfl,hbD⟩;have fD:Below wk.heap.size wk wD:=fC.trans (hbD.mono fC.size);refine⟨_,rfl,fD,?_⟩
      (refine Heavy.norm_a (by go_simp;exact rfl) ?_)
      clear hbD
      (apply Heavy.light_step;(exact rfl);(go_simp);(intro a0 hw;go_simp;exact rfl));(refine Heavy.norm_a (by go_simp;exact rfl) ?_)
      apply Heavy.plan_end;show wpList _ _ _ _ _ _;go_wp2;go_roundw
      case rel=>exact⟨k+1,v,b,rfl,rfl,by simp,by omega,bM.mono (bM.below e7.out fD (aA _)) (by rw [c1.out]) (by omega),g2.out,hBk.trans (fD.mono hBk.size)⟩
      case measure=>simp [intOf];omega
  obtain⟨⟨y,q⟩,hY⟩:∃Y,L3[k]?=some Y:=⟨L3[k]'(by rw [e4.out.2.2];exact g7),aL _⟩;obtain⟨g3,rfl,hp3⟩:=h0.out k y q hY;obtain⟨y0,y1⟩:=hp3 _ wo (aA _) hB;obtain⟨a4,c4,rfl,_⟩:=hR.read;rw [hLL] at hR;rw [hLL];have hA:=aside4 hR hLL hU hY;have fo:Below w.heap.size w wo:=f1.trans (hB.mono f1.size);have i7:(k:Int)<(np:Int):=by omega
  have i8:(0:Int)≤(k:Int):=by omega
  have k6:IntKind.i64.wrap ((k:Int)+1)=(k:Int)+1:=by rw [aG];omega
  clear hR hLL hU hY hp3
  go_wp2_with (go_at_call 145;with_reducible refine(du.out _ fo y q).mono ?_)
  rintro e w2 ⟨u,Lu,rfl,hOu,_,hmu,hlu,c7⟩;have f2:Below w1.heap.size w1 w2:=hB.trans (c7.mono hB.size);have g1:=hA.out.1.below c7 (aA _);obtain⟨au,cu,rfl,_⟩:=hOu.read;obtain⟨nu,hnu⟩:∃nu,Lu.length=nu:=⟨_,rfl⟩;rw [hnu] at hOu hlu;rw [hnu];have a8:=aC w2 (Obj.cells #[.slice au nu cu] 127);have b3:=heap_alloc_new w2 (Obj.cells #[.slice au nu cu] 127);have c5:(w2.alloc (Obj.cells #[.slice au nu cu] 127)).ownsRow w1.heap.size 127 1 (.slice a4 k c4) k X:=by
   have:=(g1.below a8 (aA _)).1;rw [hA.out.2.1] at this;exact this
  have a6:SrcAt (w2.alloc (Obj.cells #[.slice au nu cu] 127)) (.slice (some ⟨w2.heap.size,0,none⟩) 1 1) 1 [.slice au nu cu]:=.inr ⟨_,_,rfl,fun t u ht=>by
   rw [jN,cG];simp only [World.cell?,b3];simpa using ht⟩
  have a5:∀u∈([.slice au nu cu]:List Value),u.oneCell'=true:=by simp [Value.oneCell']
  have b9:k+1≤maxLen∧(k+1)*24≤140737488355328:=by unfold maxLen;omega
  have a2:w1.heap.size≤(w2.alloc (Obj.cells #[.slice au nu cu] 127)).heap.size:=aE f2.size a8.size;have d2:Aside (∀v5 w5,w5.ownsRow w1.heap.size 127 1 v5 (k+1) (X++ [.slice au nu cu])→(w2.alloc (Obj.cells #[.slice au nu cu] 127)).grownBy w5 (Value.ownBlock (.slice a4 k c4))→
    RowX w1.heap.size w5 v5 (X++ [.slice au nu cu]) (LL++ [Lu])∧(LL++ [Lu]).length=k+1∧(∀(j:Nat) I,L3[j]?=some I→j<k+1→∃L,(LL++ [Lu])[j]?=some L∧(∀y,y∈L↔cQ P I y)∧L.length≤3000000)∧Below w1.heap.size w1 w5):=by
   show∀v5 w5,_;intro v5 w5 h1 h2;obtain⟨q1,q2,q3,q4⟩:=hA.out;obtain⟨p1,p2,p3⟩:=RowX.push g1 f2.size (show aD w1.heap.size w2 (.slice au nu cu) Lu from iZ hOu hB.size) (by rw [q2];exact h1) h2;refine⟨p1,by rw [aK,q2];rfl,fun j I hj l1=>?_,f2.trans p2⟩
   by_cases i9:j<k
   ·obtain⟨L,e1,e2⟩:=q3 j I hj i9;exact⟨L,by rw [eG (by omega)];exact e1,e2⟩
   ·obtain rfl:j=k:=by omega
    rw [q4] at hj;cases hj;exact⟨Lu,by rw [dO (by omega)];simp [q2],hmu,by rw [hnu];exact hlu⟩
  clear hA g1 hOu hmu hnu c7 a8 b3 y0 y1
  go_wp2_with (at_builtin;refine gK AC _ rfl _ _ rfl w1.heap.size _ _ _ rfl c5 _ _ _ rfl a6 rfl a5 b9.1 b9.2 a2 ?_;intro v5 w5 h5 d3 j8)
  have e8:Aside _:=d2.out _ _ h5 d3;clear d2 h5 d3 j8 c5 a6 a5 b9 a2;go_wp2;go_roundw
  case rel=>exact⟨k+1,_,_,_,rfl,by simp,by omega,e8.out.1,e8.out.2.1,e8.out.2.2.1,e8.out.2.2.2⟩
  case measure=>simp [intOf];omega
end
section
attribute [local go_sem] Heavy.uponW
theorem YM (x:ByteArray) (m:Int) (w:World):
  Calls Tryz.prog 81 #[.slice none 0 0,.agg #[.string x,.int .i64 m]] w fun e w'=>e= .returned (.int .i64 0)∧Below w.heap.size w w':=by
 have b0:=aC w (Obj.cells #[.string x,.int .i64 m] 63);have bA:=aside b0;obtain⟨wb,hwb⟩:∃wb,w.alloc (Obj.cells #[.string x,.int .i64 m] 63)=wb:=⟨_,rfl⟩;rw [hwb] at bA;clear b0;go_enter Tryz.func81,Tryz.ntmps81
 go_upto_region 1 with fail
 clear hwb;go_wp2
 go_loopw [5] (fun s wr=>s= .int .i64 0∧wr=wb) (fun _ _=>0)
 case atStart=>exact⟨rfl,rfl⟩
 case round=>
  obtain⟨rfl,rfl⟩:=hrel;go_wp2
  go_ret
  exact⟨rfl,bA.out⟩
end
end Go.Proofs.YtbdpdeonapmlgaaGreatDoor
