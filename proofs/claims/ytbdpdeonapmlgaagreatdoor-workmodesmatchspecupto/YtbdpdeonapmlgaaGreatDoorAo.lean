/- Lemmas; no condition. -/
import Derived.Test.YtbdpdeonapmlgaaGreatDoorAn
set_option linter.all false
set_option maxHeartbeats 16000000
set_option maxRecDepth 100000
namespace Go.Proofs.YtbdpdeonapmlgaaGreatDoor
open Go.RowKit Go.Big Go.RowsK Go.MapK
section
attribute [local go_sem] Heavy.uponW
def CA {base m:Nat} {w:Wo} {a:Option Addr} {n c:Nat} {L:List Ind} (h:aD base w (.slice a n c) L) (hb:L.length≤900000300) (hm:w.heap.size≤m) (x:ByteArray) (q:Int) {F:Bool} (hF:iW (x,q) L=F):∀w2,Below m w w2→Cz 146 #[.slice a n c,.agg #[.string x,.int .i64 q]] w2 fun e w'=>e= .returned (.bool F)∧Bz w2 w':=fun w2 c7=>by
 obtain⟨a',c',he,hV⟩:=(h.below c7 hm).read;injection he with e1 e2 e3
 subst e1;subst e3;rw [←hF,e2];exact HF L x q w2.heap.size w2 a L.length c rfl (by omega) hV (aA _)
def Rdy (P:List Cl) (L3 Ld:List Ind) (I:Ind):Prop:=∀k∈L3,cV P I k→cV P k I∨k∈Ld
def Hl (P:List Cl) (n:Nat) (w:Wo) (a:Option Addr) (len c:Nat) (hl:P.length=len) (c9:len≤300) (h:ClsV n w P a) (hF:∀C∈P,C.flt=0) (hn:n≤w.heap.size):
  Cz 80 #[.slice a len c] w (CompsP w):=by
 have dp:Aside (Cz 144 #[.slice a len c] w (PredsP w)):=Am P n w a len c hl c9 h hF hn;have du:Aside (∀w2,Bz w w2→∀(x':ByteArray) (m':Int),Cz 145 #[.slice a len c,.agg #[.string x',.int .i64 m']] w2 (UsesP w2 P (x',m'))):=fun w2 hb x' m'=>XE P x' m' n w2 a len c hl c9 (h.below hb hn) hF (aE hn hb.size)
 clear hl hF h hn;go_enter Tryz.func80,Tryz.ntmps80
 go_wp2_with (go_at_call 144;with_reducible refine dp.o.mono ?_)
 rintro e w1 ⟨v3,L3,rfl,hO3,hN3,hl3,hb1⟩;have f1:Bz w w1:=hb1;obtain⟨a3,c3,rfl,_⟩:=hO3.read;obtain⟨np,hnp⟩:=enm L3.length;rw [hnp] at hO3 hl3;rw [hnp];have e4:=aside3 hO3 hN3 hnp;have h0:Aside (∀(k:Nat) y q,L3[k]?=some (y,q)→∃g3,a3=some ⟨g3,0,none⟩∧∀m w2,w1.heap.size≤m→Below m w1 w2→w2.cell? ⟨g3,k*2,none⟩=some (.string y)∧w2.cell? ⟨g3,k*2+1,none⟩=some (.int .i64 q)):=by
  show∀(k:Nat) y q,_;intro k y q hk;obtain⟨g3,c',he,_,_⟩:=hO3.some (by intro e;subst e;simp at hk);injection he with he1 he2 he3
  subst he1;exact⟨g3,rfl,fun m w2 hm hb=>(hO3.below hb hm).cells hk⟩
 clear dp hO3 hN3 hnp hb1;go_wp2
 go_loopw [4,5] (fun s4 s5 wr=>∃(k:Nat) (v:Value) (X:Lv) (LL:List (List Ind)),v=s4∧s5= .int .i64 k∧k≤np∧RowX w1.heap.size wr v X LL∧LL.length=k∧(∀(j:Nat) I,L3[j]?=some I→j<k→∃L,LL[j]?=some L∧(∀y,y∈L↔cV P I y)∧L.length≤3000000)∧Bz w1 wr) (fun _ s _=>np-(intOf s).toNat)
 case atStart=>exact⟨0,_,[],[],rfl,rfl,aJ _,RowX.nil _ _,rfl,fun j I _ hj=>absurd hj (VB _),aG _ _⟩
 case round=>
  obtain⟨wo,rfl⟩:=enr wr;obtain⟨k,v,X,LL,rfl,rfl,hk,hR,hLL,hU,hB⟩:=hrel
  by_cases g7:k<np
  case neg=>
   obtain rfl:np=k:=by omega
   obtain⟨a4,c4,rfl,hrd⟩:=hR.read;rw [hLL] at hR;rw [hLL];have g5:Aside (∀(j:Nat) y q,L3[j]?=some (y,q)→∃L g4 ai ci,(∀z,z∈L↔cV P (y,q) z)∧L.length≤3000000∧a4=some ⟨g4,0,none⟩∧∀m w2,wo.heap.size≤m→Below m wo w2→w2.cell? ⟨g4,j,none⟩=some (.slice ai L.length ci)∧aD w1.heap.size w2 (.slice ai L.length ci) L):=by
    show∀(j:Nat) y q,_;intro j y q hj;obtain⟨L,h1,h2,h3⟩:=hU j (y,q) hj (by rw [←e4.o.2.2];exact(aO.1 hj).1);obtain⟨g4,ai,ci,h4,_,h5,h6,_,h7⟩:=hrd j L h1;exact⟨L,g4,ai,ci,h2,h3,h4,fun m w2 hm hb=>⟨(hb.cell (p:=⟨g4,j,none⟩) (by show g4<m;omega)).trans h6,h7.below hb hm⟩⟩
   have h9:Aside (∀(k:Nat) y q,L3[k]?=some (y,q)→∃g3,a3=some ⟨g3,0,none⟩∧∀m w2,wo.heap.size≤m→Below m wo w2→w2.cell? ⟨g3,k*2,none⟩=some (.string y)∧w2.cell? ⟨g3,k*2+1,none⟩=some (.int .i64 q)):=by
    show∀(k:Nat) y q,_;intro k y q hk;obtain⟨g3,h1,h2⟩:=h0.o k y q hk;exact⟨g3,h1,fun m w2 hm hb=>h2 w1.heap.size w2 (aA _) (hB.trans (hb.mono (aE hB.size hm)))⟩
   have fo:Bz w wo:=f1.trans (hB.mono f1.size);have b5:Aside (L3.Nodup∧L3.length=np):=e4.o.2;clear hR hLL hU hrd e4 h0 du hB f1;go_wp2
   go_loopw [6,7] (fun s6 s7 wr=>∃(vc:Value) (X:Lv) (LC:List (List Ind)) (vd:Value) (Ld:List Ind),vc=s6∧vd=s7∧RowX wo.heap.size wr vc X LC∧aD wo.heap.size wr vd Ld∧(∀u∈X,SepJ vd u)∧DoneI P L3 Ld∧LC.length≤Ld.length∧(∀L∈LC,L.length≤900000300)∧Bz wo wr) (fun _ s7 _=>np-lenOf s7)
   case atStart=>exact⟨_,[],[],_,[],rfl,rfl,RowX.nil _ _,aD.nil _ _,by simp,⟨by simp,by simp,by simp⟩,aA _,by simp,aG _ _⟩
   case round=>
    obtain⟨w2,rfl⟩:=enr wr;obtain⟨vc,X,LC,vd,Ld,rfl,rfl,hC,hD,hS,hI,hcl,hcb,hB⟩:=hrel;obtain⟨ac,cc,rfl,_⟩:=hC.read;obtain⟨ad,cd,rfl,_⟩:=hD.read;have i1:Ld.length≤np:=by
     rw [←b5.o.2];exact Go.Proofs.Plain.nodup_sub_len hI.1 hI.2.1
    obtain⟨nc,hnc⟩:∃l,LC.length=l:=⟨_,rfl⟩;obtain⟨nd,hnd⟩:∃l,Ld.length=l:=⟨_,rfl⟩;rw [hnc] at hC;rw [hnd] at hD hS;rw [hnc,hnd];have i3:=aside hC;have e6:=aside hD;have b8:=aside6 hnd hnc hI hcl hcb hS;have j3:nd≤np:=by omega
    have j2:nc≤nd:=by omega
    by_cases g7:nd<np
    case neg=>
     have hR:Aside (CompsP w (.returned (.slice ac nc cc)) w2):=⟨_,X,LC,rfl,hC.base fo.size,by omega,hcb,fo.trans (hB.mono fo.size)⟩;clear hC hD hS hI hcl hcb i1 hnc hnd;go_wp2
     go_ret
     exact hR.o
    obtain⟨t,I,ht,hIno,hIr⟩:=ZY (P:=P) (Ld:=Ld) b5.o.1 (by rw [hnd,b5.o.2];exact g7);have l1:t<np:=by rw [←b5.o.2];exact(aO.1 ht).1
    have f0:=aside3 ht hIno hIr;have j1:(nd:Int)<(np:Int):=by omega
    clear hC hD hS hI hcl hcb i1 hnc hnd ht hIno hIr;go_wp2
    go_loopw [6,7,8] (fun s6 s7 s8 wr=>∃i:Nat,s6= .slice ac nc cc∧s7= .slice ad nd cd∧s8= .int .i64 i∧i≤t∧Bz w2 wr) (fun _ _ s _=>np-(intOf s).toNat)
    case atStart=>exact⟨0,rfl,rfl,rfl,aJ _,aG _ _⟩
    case round=>
     obtain⟨wi,rfl⟩:=enr wr;obtain⟨i,rfl,rfl,rfl,hi,hBi⟩:=hrel;obtain⟨⟨y,q⟩,hY⟩:∃Y,L3[i]?=some Y:=⟨L3[i]'(by rw [b5.o.2];omega),aZ _⟩;obtain⟨g3,rfl,_⟩:=h9.o i y q hY;obtain⟨Li,g4,ai,ci,hmi,hli,rfl,hr4⟩:=g5.o i y q hY;have b6:Bz wo wi:=hB.trans (hBi.mono hB.size);have f4:Aside (∀(k:Nat) y q,L3[k]?=some (y,q)→∀w',Bz wi w'→w'.cell? ⟨g3,k*2,none⟩=some (.string y)∧w'.cell? ⟨g3,k*2+1,none⟩=some (.int .i64 q)):=by
      show∀(k:Nat) y q,_;intro k y q hk w' hb;obtain⟨g',e,h⟩:=h9.o k y q hk;injection e with e;injection e with e
      subst e;exact h _ w' (aA _) (b6.trans (hb.mono b6.size))
     have k8:Aside (∀(j:Nat) y q,L3[j]?=some (y,q)→∃L ai ci,(∀z,z∈L↔cV P (y,q) z)∧L.length≤3000000∧∀w',Bz wi w'→w'.cell? ⟨g4,j,none⟩=some (.slice ai L.length ci)∧aD w1.heap.size w' (.slice ai L.length ci) L):=by
      show∀(k:Nat) y q,_;intro k y q hk;obtain⟨L,g',ai',ci',e1,e2,e,h⟩:=g5.o k y q hk;injection e with e;injection e with e
      subst e;exact⟨L,ai',ci',e1,e2,fun w' hb=>h _ w' (aA _) (b6.trans (hb.mono b6.size))⟩
     obtain⟨li,hli2⟩:∃l,Li.length=l:=⟨_,rfl⟩;rw [hli2] at hr4;have d9:Aside (∀w',Bz wi w'→w'.cell? ⟨g4,i,none⟩=some (.slice ai li ci)∧aD w1.heap.size w' (.slice ai li ci) Li):=fun w' hb=>hr4 _ w' (aA _) (b6.trans (hb.mono b6.size))
     have d6:=aside2 hmi hli2;have i9:li≤3000000:=by omega
     have c6:=aside hY;obtain⟨F,hF⟩:=enm (iW (y,q) Ld);have FA:=aside hF;have d1:=CA (e6.o.below hBi (aA _)) (by rw [b8.o.1];omega) (aA _) y q hF;obtain⟨i7,hi3,hw3⟩:=elt (i:=i) (n:=np) (by omega) (by omega);obtain⟨y0,y1⟩:=f4.o i y q hY wi (aG _ _);clear hY hmi hli hr4 hli2 hF h9 g5 b6
     go_wp2_with (go_at_call 146;with_reducible refine(d1 _ (aG _ _)).mono ?_)
     rintro e w3 ⟨rfl,hb3⟩;have f3:Bz wi w3:=hb3;clear d1 hb3 y0 y1;cases F
     case true=>
      have j4:i≠t:=by
       intro e;subst e;have:=f0.o.1;rw [c6.o] at this;cases this;exact f0.o.2.1 (nV.1 FA.o)
      go_wp2;go_roundw
      case rel=>exact⟨i+1,rfl,rfl,by simp,by omega,hBi.trans (f3.mono hBi.size)⟩
      case measure=>simp [intOf];omega
     have j5:Aside ((y,q)∉Ld):=uK.1 FA.o;obtain⟨y0,y1⟩:=f4.o i y q c6.o w3 f3;have a8:=aC w3 (Obj.cells #[.string y,.int .i64 q] 63);have b3:=aK w3 (Obj.cells #[.string y,.int .i64 q] 63);have b7:Aside (bO w3.heap.size (w3.alloc (Obj.cells #[.string y,.int .i64 q] 63)) (.slice (some ⟨w3.heap.size,0,none⟩) 1 1) ((y,q)::fT P (y,q) (L3.take 0)) (0+1)∧Bz w3 (w3.alloc (Obj.cells #[.string y,.int .i64 q] 63))):=⟨⟨[(y,q)],⟨rfl,.inr ⟨_,_,_,rfl,aA _,b3,aA _,by unfold maxLen;omega,rfl,rfl⟩⟩,by simp,by simp [fT],by simp⟩,a8⟩;clear a8 b3 FA;go_wp2
     go_loopw [9,10,11] (fun s9 k6 k7 wr=>∃(k:Nat) (v:Value) (b:Bool),v=s9∧k6= .bool b∧k7= .int .i64 k∧k≤np∧bO w3.heap.size wr v ((y,q)::fT P (y,q) (L3.take k)) (k+1)∧(Rdy P L3 Ld (y,q)→b=true)∧Bz w3 wr) (fun _ _ s _=>np-(intOf s).toNat)
     case atStart=>exact⟨0,_,true,rfl,rfl,rfl,aJ _,b7.o.1,fun _=>rfl,b7.o.2⟩
     case round=>
      clear b7 y0 y1;obtain⟨wk,rfl⟩:=enr wr;obtain⟨k,v,b,rfl,rfl,rfl,hk,hE,hRb,hBk⟩:=hrel
      by_cases j0:k<np
      case neg=>
       obtain rfl:np=k:=by omega
       obtain⟨Lo,o1,o2,o3,o4⟩:=hE;rw [←b5.o.2,iP] at o3;have a9:Bz wi wk:=f3.trans (hBk.mono f3.size);cases b
       case false=>
        have j4:i≠t:=by
         intro e;subst e;have:=f0.o.1;rw [c6.o] at this;cases this;exact absurd (hRb f0.o.2.2) (by simp)
        clear o1 o2 o3 o4 hRb;go_wp2;go_roundw
        case rel=>exact⟨i+1,rfl,rfl,by simp,by omega,hBi.trans (a9.mono hBi.size)⟩
        case measure=>simp [intOf];omega
       clear hRb;obtain⟨ao,co,rfl,_⟩:=o1.read;obtain⟨no,hno2⟩:∃l,Lo.length=l:=⟨_,rfl⟩;rw [hno2] at o1;rw [hno2];obtain⟨c0,hncl,hIi,hcl,hcb,hSp⟩:=b8.o;have a1:=hIi.part (aP c6.o) j5.o o2 o3;have d8:Ld.length+Lo.length≤np:=by
        have:=Go.Proofs.Plain.nodup_sub_len a1.1 a1.2.1;rw [aI,b5.o.2] at this;exact this
       have f8:0<Lo.length:=Lt ((o3 (y,q)).2 (by simp));have f5:Bz w2 wk:=hBi.trans (a9.mono hBi.size);have f6:Bz wo wk:=hB.trans (f5.mono hB.size);have b4:SepJ (.slice ad nd cd) (.slice ao no co):=SepJ.of (e6.o.below (hBi.trans (f3.mono hBi.size)) (aA _)) o1;have f7:RowX wo.heap.size wk (.slice ac nc cc) X LC:=i3.o.below f5 (aA _);have i0:aD wo.heap.size wk (.slice ad nd cd) Ld:=e6.o.below f5 (aA _);have g9:wo.heap.size≤w3.heap.size:=aE (hB.trans (hBi.mono hB.size)).size f3.size;have a8:=aC wk (Obj.cells #[.slice ao no co] 127);have b3:=aK wk (Obj.cells #[.slice ao no co] 127);have c5:(wk.alloc (Obj.cells #[.slice ao no co] 127)).ownsRow wo.heap.size 127 1 (.slice ac nc cc) nc X:=by
        have:=(f7.below a8 (aA _)).1;rw [hncl] at this;exact this
       have a6:SrcAt (wk.alloc (Obj.cells #[.slice ao no co] 127)) (.slice (some ⟨wk.heap.size,0,none⟩) 1 1) 1 [.slice ao no co]:=.inr ⟨_,_,rfl,fun t u ht=>by
        rw [jX,bT];simp only [World.cell?,b3];simpa using ht⟩
       have a5:∀u∈([.slice ao no co]:Lv),u.oneCell'=true:=by simp [Value.oneCell']
       have b9:nc+1≤maxLen∧(nc+1)*24≤140737488355328:=by unfold maxLen;omega
       have a2:wo.heap.size≤(wk.alloc (Obj.cells #[.slice ao no co] 127)).heap.size:=aE f6.size a8.size;have b1:Aside (∀v6 w6,w6.ownsRow wo.heap.size 127 1 v6 (nc+1) (X++ [.slice ao no co])→(wk.alloc (Obj.cells #[.slice ao no co] 127)).grownBy w6 (Value.ownBlock (.slice ac nc cc))→
         RowX wo.heap.size w6 v6 (X++ [.slice ao no co]) (LC++ [Lo])∧aD wo.heap.size w6 (.slice ad nd cd) Ld∧aD w3.heap.size w6 (.slice ao no co) Lo∧(∀u∈X++ [.slice ao no co],SepJ (.slice ad nd cd) u)∧Bz wo w6):=by
        show∀v6 w6,_;intro v6 w6 h1 h2;obtain⟨p1,p2,p3⟩:=RowX.push f7 f6.size (show aD wo.heap.size wk (.slice ao no co) Lo from gM o1 g9) (by rw [hncl];exact h1) h2;refine⟨p1,p3 _ _ _ i0,p3 _ _ _ o1,fun u hu=>?_,f6.trans p2⟩;rcases bX.1 hu with hu|hu
        ·exact hSp u hu
        ·simp at hu;subst hu;exact b4
       have b2:Aside (∀v6 w6 v7 w7,RowX wo.heap.size w6 v6 (X++ [.slice ao no co]) (LC++ [Lo])→aD wo.heap.size w6 (.slice ad nd cd) Ld→aD w3.heap.size w6 (.slice ao no co) Lo→(∀u∈X++ [.slice ao no co],SepJ (.slice ad nd cd) u)→Bz wo w6→
         w7.ownsRow wo.heap.size 63 2 v7 (nd+no) (Ld.flatMap aT++Lo.flatMap aT)→w6.grownBy w7 (Value.ownBlock (.slice ad nd cd))→(v7.ownBlock=Value.ownBlock (.slice ad nd cd)∨v7.ownBlock=some w6.heap.size)→
         RowX wo.heap.size w7 v6 (X++ [.slice ao no co]) (LC++ [Lo])∧aD wo.heap.size w7 v7 (Ld++Lo)∧(∀u∈X++ [.slice ao no co],SepJ v7 u)∧DoneI P L3 (Ld++Lo)∧(LC++ [Lo]).length≤(Ld++Lo).length∧(∀L∈LC++ [Lo],L.length≤900000300)∧Bz wo w7∧nd<lenOf v7):=by
        show∀v6 w6 v7 w7,_;intro v6 w6 v7 w7 h1 h2 h3 h4 h5 h6 h7 h8;obtain⟨p1,p2,p3,p4⟩:=aD.append (M:=Lo) h2 h5.size (by rw [c0,hno2];exact h6) h7 h8;obtain⟨p5,p6⟩:=p4 _ _ _ _ h1 h4;refine⟨p5,p1,p6,a1,?_,fun L hL=>?_,h5.trans p2,?_⟩
        ·rw [aI,aI,tS];omega
        ·rcases bX.1 hL with hL|hL
         ·exact hcb L hL
         ·simp at hL;subst hL;omega
        ·obtain⟨a',c',rfl,_⟩:=p1.read;show nd<(Ld++Lo).length;rw [aI];omega
       have j6:Aside (∀w6,aD w3.heap.size w6 (.slice ao no co) Lo→SrcAt w6 (.slice ao no co) no (Lo.flatMap aT)):=fun w6 h=>rZ (show w6.ownsRow w3.heap.size 63 2 (.slice ao no co) no (Lo.flatMap aT) by unfold aD at h;rw [hno2] at h;exact h)
       have i6:Aside (∀w6,aD wo.heap.size w6 (.slice ad nd cd) Ld→w6.ownsRow wo.heap.size 63 2 (.slice ad nd cd) nd (Ld.flatMap aT)):=fun w6 h=>by unfold aD at h;rw [c0] at h;exact h
       have c8:nd+no≤maxLen∧(nd+no)*24≤140737488355328:=by unfold maxLen;omega
       have d7:=CL Lo;have g6:(Lo.flatMap aT).length=no*2:=by rw [flat_len,hno2]
       clear o1 o2 o3 o4 hno2 a1 d8 f8 b4 f7 i0 a8 b3 c0 hncl hIi hcl hcb hSp
       go_upto_region 26 with(at_builtin;refine gE CW _ rfl _ _ rfl wo.heap.size _ _ _ rfl c5 _ _ _ rfl a6 rfl a5 b9.1 b9.2 a2 ?_;intro v6 w6 h6 d4 j8)
       obtain⟨k1,k2,k3,k4,k5⟩:=b1.o _ _ h6 d4;have g0:=i6.o _ k2;have a7:=j6.o _ k3;have d0:=k5.size;have kA:Aside _:=And.intro k1 (And.intro k2 (And.intro k3 (And.intro k4 k5)));clear b1 h6 d4 j8 c5 a6 a5 b9 a2 k1 k2 k3 k4 k5;obtain⟨vo,c2⟩:∃x,Value.slice ao no co=x:=⟨_,rfl⟩;obtain⟨ve,hve⟩:∃x,Value.slice ad nd cd=x:=⟨_,rfl⟩;have j9:=aside2 c2 hve;rw [c2] at a7;rw [hve] at g0;rw [c2,hve];clear c2 hve
       go_wp2_with (at_builtin;refine gE kZ _ rfl _ _ rfl wo.heap.size _ _ _ rfl g0 _ _ _ rfl a7 g6 d7 c8.1 c8.2 d0 ?_;intro v7 w7 h7 d5 i2)
       obtain⟨c2,hve⟩:=j9.o;subst c2;subst hve;have b0:Aside _:=b2.o _ _ _ _ kA.o.1 kA.o.2.1 kA.o.2.2.1 kA.o.2.2.2.1 kA.o.2.2.2.2 h7 d5 i2;clear b2 h7 d5 i2 g0 a7 kA d0;go_wp2;go_roundw
       case rel=>exact⟨_,_,_,_,_,rfl,rfl,b0.o.1,b0.o.2.1,b0.o.2.2.1,b0.o.2.2.2.1,b0.o.2.2.2.2.1,b0.o.2.2.2.2.2.1,b0.o.2.2.2.2.2.2.1⟩
       case measure=>
        have h1:=b0.o.2.2.2.2.2.2.2;have h2:lenOf (.slice ad nd cd)=nd:=rfl;rw [h2];omega
      obtain⟨⟨z,r⟩,hZ⟩:∃Z,L3[k]?=some Z:=⟨L3[k]'(by rw [b5.o.2];exact j0),aZ _⟩;obtain⟨Lk,ak,ck,hmk,hlkk,hr4k⟩:=k8.o k z r hZ;obtain⟨lk,hlk2⟩:∃l,Lk.length=l:=⟨_,rfl⟩;rw [hlk2] at hr4k;obtain⟨A,hA⟩:=enm (iW (z,r) Li);obtain⟨B,hBB⟩:=enm (iW (y,q) Lk);obtain⟨D,hDD⟩:=enm (iW (z,r) Ld);have a9:Bz wi wk:=f3.trans (hBk.mono f3.size);have cA:Aside (∀w',Bz wk w'→w'.cell? ⟨g3,i*2,none⟩=some (.string y)∧w'.cell? ⟨g3,i*2+1,none⟩=some (.int .i64 q)∧w'.cell? ⟨g3,k*2,none⟩=some (.string z)∧w'.cell? ⟨g3,k*2+1,none⟩=some (.int .i64 r)∧w'.cell? ⟨g4,i,none⟩=some (.slice ai li ci)∧w'.cell? ⟨g4,k,none⟩=some (.slice ak lk ck)):=fun w' hb=>by
       have e9:Bz wi w':=a9.trans (hb.mono a9.size);have h1:=f4.o i y q c6.o w' e9;have h2:=f4.o k z r hZ w' e9;exact⟨h1.1,h1.2,h2.1,h2.2,(d9.o w' e9).1,(hr4k w' e9).1⟩
      have dA:Aside (∀w',Bz wk w'→Cz 146 #[.slice ai li ci,.agg #[.string z,.int .i64 r]] w' fun e e0=>e= .returned (.bool A)∧Bz w' e0):=CA (d9.o wk a9).2 (by rw [d6.o.2];omega) (aA _) z r hA;have dB:Aside (∀w',Bz wk w'→Cz 146 #[.slice ak lk ck,.agg #[.string y,.int .i64 q]] w' fun e e0=>e= .returned (.bool B)∧Bz w' e0):=CA (hr4k wk a9).2 (by omega) (aA _) y q hBB;have dD:Aside (∀w',Bz wk w'→Cz 146 #[.slice ad nd cd,.agg #[.string z,.int .i64 r]] w' fun e e0=>e= .returned (.bool D)∧Bz w' e0):=CA (e6.o.below (hBi.trans (a9.mono hBi.size)) (aA _)) (by rw [b8.o.1];omega) (aA _) z r hDD;have sA:Aside ((A=true↔cV P (y,q) (z,r))∧(B=true↔cV P (z,r) (y,q))∧(D=true↔(z,r)∈Ld)):=⟨by rw [←hA,nV,d6.o.1],by rw [←hBB,nV,hmk],by rw [←hDD,nV]⟩;have e7:=aside hE;have g2:=aside hRb;have g8:Aside (((cV P (y,q) (z,r)∧cV P (z,r) (y,q))→fT P (y,q) (L3.take (k+1))=fT P (y,q) (L3.take k)++ [(z,r)])∧(¬(cV P (y,q) (z,r)∧cV P (z,r) (y,q))→fT P (y,q) (L3.take (k+1))=fT P (y,q) (L3.take k))):=Ck hZ;have k0:Aside ((z,r)∈L3):=aP hZ;obtain⟨l0,hk3,hw7⟩:=elt (i:=k) (n:=np) (by omega) (by omega);clear hE hRb hZ hmk hlkk hr4k hlk2 hA hBB hDD a9
      go_upto_region 19 with fail
      have fd:Bz wk wk.drew:=cU _ _;cases A
      case false=>
       have c1:Aside (fT P (y,q) (L3.take (k+1))=fT P (y,q) (L3.take k)):=g8.o.2 (fun h=>by simpa using sA.o.1.2 h.1);refine hRp (Bz wk) 20 (Heavy.lights [0,1,2,3,4,5,6,7] (.one 8 (Heavy.lights [9,10,11,12,13,14,15,16,17] (.one 18 (Heavy.lights [19] .done))))) (by kernel_rfl) (by kernel_rfl) fd ?_;simp only [Heavy.lights,aX,bI,aW,bD]
       iterate 3 ((apply hLm;(exact rfl);(exact rfl);(intro a0 hw;go_simp;exact rfl);(go_simp;exact rfl)))
       (apply hLm;(exact rfl);(exact rfl);(intro a0 hw;have zz:=cA.o a0 hw;obtain⟨z0,z1,z2,z3,z4,z5⟩:=zz;go_simp;exact rfl);(go_simp;exact rfl))
       iterate 3 ((apply hLm;(exact rfl);(exact rfl);(intro a0 hw;go_simp;exact rfl);(go_simp;exact rfl)))
       (apply hLm;(exact rfl);(exact rfl);(intro a0 hw;have zz:=cA.o a0 hw;obtain⟨z0,z1,z2,z3,z4,z5⟩:=zz;go_simp;exact rfl);(go_simp;exact rfl))
       (apply hOn;(exact rfl);(exact rfl));go_simp
       refine(dA.o _ fd).mono ?_;rintro e wA ⟨rfl,hbA⟩;have fA:Bz wk wA:=fd.trans (hbA.mono fd.size);refine⟨_,rfl,fA,?_⟩
       (refine hNa (by go_simp;exact rfl) ?_)
       clear hbA
       (apply hLm;(exact rfl);(exact rfl);(intro a0 hw;go_simp;exact rfl);(go_simp;exact rfl))
       iterate 8 ((apply hLk;(exact rfl);(go_simp));(refine hNa (by go_simp;exact rfl) ?_))
       (refine Heavy.one_skip rfl (by go_simp) fA ?_);(refine hNa (by go_simp;exact rfl) ?_)
       (apply hLm;(exact rfl);(exact rfl);(intro a0 hw;go_simp;exact rfl);(go_simp;exact rfl))
       apply hPe;show wpList _ _ _ _ _ _
       go_upto_region 22 with fail
       have fe:Bz wk wA.drew:=fA.trans (cU _ _);refine hRp (Bz wk) 17 (Heavy.lights [0,1,2,3,4,5,6,7] (.one 8 (Heavy.lights [9,10,11,12,13,14] (.one 15 (Heavy.lights [16] .done))))) (by kernel_rfl) (by kernel_rfl) fe ?_;simp only [Heavy.lights,aX,bI,aW,bD]
       iterate 3 ((apply hLm;(exact rfl);(exact rfl);(intro a0 hw;go_simp;exact rfl);(go_simp;exact rfl)))
       (apply hLm;(exact rfl);(exact rfl);(intro a0 hw;have zz:=cA.o a0 hw;obtain⟨z0,z1,z2,z3,z4,z5⟩:=zz;go_simp;exact rfl);(go_simp;exact rfl))
       iterate 3 ((apply hLm;(exact rfl);(exact rfl);(intro a0 hw;go_simp;exact rfl);(go_simp;exact rfl)))
       (apply hLm;(exact rfl);(exact rfl);(intro a0 hw;have zz:=cA.o a0 hw;obtain⟨z0,z1,z2,z3,z4,z5⟩:=zz;go_simp;exact rfl);(go_simp;exact rfl))
       (apply hOn;(exact rfl);(exact rfl));go_simp
       refine(dA.o _ fe).mono ?_;rintro e wC ⟨rfl,hbC⟩;have fC:Bz wk wC:=fe.trans (hbC.mono fe.size);refine⟨_,rfl,fC,?_⟩
       (refine hNa (by go_simp;exact rfl) ?_)
       clear hbC
       (apply hLm;(exact rfl);(exact rfl);(intro a0 hw;go_simp;exact rfl);(go_simp;exact rfl))
       iterate 5 ((apply hLk;(exact rfl);(go_simp));(refine hNa (by go_simp;exact rfl) ?_))
       (refine Heavy.one_skip rfl (by go_simp) fC ?_);(refine hNa (by go_simp;exact rfl) ?_)
       (apply hLk;(exact rfl);(go_simp));(refine hNa (by go_simp;exact rfl) ?_)
       apply hPe;show wpList _ _ _ _ _ _;go_wp2;go_roundw
       case rel=>exact⟨k+1,v,b,rfl,rfl,by simp,by omega,bO.mono (bO.below e7.o fC (aA _)) (by rw [c1.o]) (by omega),g2.o,hBk.trans (fC.mono hBk.size)⟩
       case measure=>simp [intOf];omega
      cases B
      case true=>
       have c1:Aside (fT P (y,q) (L3.take (k+1))=fT P (y,q) (L3.take k)++ [(z,r)]):=g8.o.1 ⟨sA.o.1.1 rfl,sA.o.2.1.1 rfl⟩;refine hRp (Bz wk) 20 (Heavy.lights [0,1,2,3,4,5,6,7] (.one 8 (Heavy.lights [9,10,11,12,13,14,15,16,17] (.one 18 (Heavy.lights [19] .done))))) (by kernel_rfl) (by kernel_rfl) fd ?_;simp only [Heavy.lights,aX,bI,aW,bD]
       iterate 3 ((apply hLm;(exact rfl);(exact rfl);(intro a0 hw;go_simp;exact rfl);(go_simp;exact rfl)))
       (apply hLm;(exact rfl);(exact rfl);(intro a0 hw;have zz:=cA.o a0 hw;obtain⟨z0,z1,z2,z3,z4,z5⟩:=zz;go_simp;exact rfl);(go_simp;exact rfl))
       iterate 3 ((apply hLm;(exact rfl);(exact rfl);(intro a0 hw;go_simp;exact rfl);(go_simp;exact rfl)))
       (apply hLm;(exact rfl);(exact rfl);(intro a0 hw;have zz:=cA.o a0 hw;obtain⟨z0,z1,z2,z3,z4,z5⟩:=zz;go_simp;exact rfl);(go_simp;exact rfl))
       (apply hOn;(exact rfl);(exact rfl));go_simp
       refine(dA.o _ fd).mono ?_;rintro e wA ⟨rfl,hbA⟩;have fA:Bz wk wA:=fd.trans (hbA.mono fd.size);refine⟨_,rfl,fA,?_⟩
       (refine hNa (by go_simp;exact rfl) ?_)
       clear hbA
       (apply hLm;(exact rfl);(exact rfl);(intro a0 hw;go_simp;exact rfl);(go_simp;exact rfl))
       iterate 3 ((apply hLs;(exact rfl);(go_simp);(intro a0 hw;go_simp;exact rfl));(refine hNa (by go_simp;exact rfl) ?_))
       (apply hLs;(exact rfl);(go_simp);(intro a0 hw;have zz:=cA.o a0 hw;obtain⟨z0,z1,z2,z3,z4,z5⟩:=zz;go_simp;exact rfl));(refine hNa (by go_simp;exact rfl) ?_)
       iterate 3 ((apply hLs;(exact rfl);(go_simp);(intro a0 hw;go_simp;exact rfl));(refine hNa (by go_simp;exact rfl) ?_))
       (apply hLs;(exact rfl);(go_simp);(intro a0 hw;have zz:=cA.o a0 hw;obtain⟨z0,z1,z2,z3,z4,z5⟩:=zz;go_simp;exact rfl));(refine hNa (by go_simp;exact rfl) ?_)
       (apply Heavy.one_step;(exact rfl);(go_simp));go_simp
       refine(dB.o _ fA).mono ?_;rintro e wB ⟨rfl,hbB⟩;have fB:Bz wk wB:=fA.trans (hbB.mono fA.size);refine⟨_,rfl,fB,?_⟩
       (refine hNa (by go_simp;exact rfl) ?_)
       clear hbB
       (apply hLm;(exact rfl);(exact rfl);(intro a0 hw;go_simp;exact rfl);(go_simp;exact rfl))
       apply hPe;show wpList _ _ _ _ _ _;obtain⟨z0,z1,z2,z3,z4,z5⟩:=cA.o wB fB;obtain⟨S0,hS0⟩:∃S,(y,q)::fT P (y,q) (L3.take k)=S:=⟨_,rfl⟩;have i5:Aside ((y,q)::fT P (y,q) (L3.take (k+1))=S0++ [(z,r)]):=by
        show _=_;rw [c1.o,←hS0];rfl
       have EB:Aside (bO w3.heap.size wB v S0 (k+1)):=by
        have:=bO.below e7.o fB (aA _);rw [hS0] at this;exact this
       clear hS0
       go_wp2_with (go_at_call 147;with_reducible refine(bO.sorted EB.o (aE hBk.size fB.size) (by omega) z r).mono ?_;rintro e w9 ⟨u3,rfl,hE,hb9⟩)
       have E9:=aside hE;have f9:Bz w3 w9:=hBk.trans ((fB.trans (hb9.mono fB.size)).mono hBk.size);clear hE hb9 EB z0 z1 z2 z3 z4 z5
       try go_wp2
       go_roundw
       case rel=>exact⟨k+1,u3,b,rfl,rfl,by simp,by omega,bO.mono E9.o i5.o.symm (by omega),g2.o,f9⟩
       case measure=>simp [intOf];omega
      have c1:Aside (fT P (y,q) (L3.take (k+1))=fT P (y,q) (L3.take k)):=g8.o.2 (fun h=>by simpa using sA.o.2.1.2 h.2);cases D
      case false=>
       have i4:Aside (Rdy P L3 Ld (y,q)→False):=fun h=>by
        rcases h (z,r) k0.o (sA.o.1.1 rfl) with h1|h1
        ·simpa using sA.o.2.1.2 h1
        ·simpa using sA.o.2.2.2 h1
       refine hRp (Bz wk) 20 (Heavy.lights [0,1,2,3,4,5,6,7] (.one 8 (Heavy.lights [9,10,11,12,13,14,15,16,17] (.one 18 (Heavy.lights [19] .done))))) (by kernel_rfl) (by kernel_rfl) fd ?_;simp only [Heavy.lights,aX,bI,aW,bD]
       iterate 3 ((apply hLm;(exact rfl);(exact rfl);(intro a0 hw;go_simp;exact rfl);(go_simp;exact rfl)))
       (apply hLm;(exact rfl);(exact rfl);(intro a0 hw;have zz:=cA.o a0 hw;obtain⟨z0,z1,z2,z3,z4,z5⟩:=zz;go_simp;exact rfl);(go_simp;exact rfl))
       iterate 3 ((apply hLm;(exact rfl);(exact rfl);(intro a0 hw;go_simp;exact rfl);(go_simp;exact rfl)))
       (apply hLm;(exact rfl);(exact rfl);(intro a0 hw;have zz:=cA.o a0 hw;obtain⟨z0,z1,z2,z3,z4,z5⟩:=zz;go_simp;exact rfl);(go_simp;exact rfl))
       (apply hOn;(exact rfl);(exact rfl));go_simp
       refine(dA.o _ fd).mono ?_;rintro e wA ⟨rfl,hbA⟩;have fA:Bz wk wA:=fd.trans (hbA.mono fd.size);refine⟨_,rfl,fA,?_⟩
       (refine hNa (by go_simp;exact rfl) ?_)
       clear hbA
       (apply hLm;(exact rfl);(exact rfl);(intro a0 hw;go_simp;exact rfl);(go_simp;exact rfl))
       iterate 3 ((apply hLs;(exact rfl);(go_simp);(intro a0 hw;go_simp;exact rfl));(refine hNa (by go_simp;exact rfl) ?_))
       (apply hLs;(exact rfl);(go_simp);(intro a0 hw;have zz:=cA.o a0 hw;obtain⟨z0,z1,z2,z3,z4,z5⟩:=zz;go_simp;exact rfl));(refine hNa (by go_simp;exact rfl) ?_)
       iterate 3 ((apply hLs;(exact rfl);(go_simp);(intro a0 hw;go_simp;exact rfl));(refine hNa (by go_simp;exact rfl) ?_))
       (apply hLs;(exact rfl);(go_simp);(intro a0 hw;have zz:=cA.o a0 hw;obtain⟨z0,z1,z2,z3,z4,z5⟩:=zz;go_simp;exact rfl));(refine hNa (by go_simp;exact rfl) ?_)
       (apply Heavy.one_step;(exact rfl);(go_simp));go_simp
       refine(dB.o _ fA).mono ?_;rintro e wB ⟨rfl,hbB⟩;have fB:Bz wk wB:=fA.trans (hbB.mono fA.size);refine⟨_,rfl,fB,?_⟩
       (refine hNa (by go_simp;exact rfl) ?_)
       clear hbB
       (apply hLm;(exact rfl);(exact rfl);(intro a0 hw;go_simp;exact rfl);(go_simp;exact rfl))
       apply hPe;show wpList _ _ _ _ _ _
       go_upto_region 22 with fail
       have fe:Bz wk wB.drew:=fB.trans (cU _ _);refine hRp (Bz wk) 17 (Heavy.lights [0,1,2,3,4,5,6,7] (.one 8 (Heavy.lights [9,10,11,12,13,14] (.one 15 (Heavy.lights [16] .done))))) (by kernel_rfl) (by kernel_rfl) fe ?_;simp only [Heavy.lights,aX,bI,aW,bD]
       iterate 3 ((apply hLm;(exact rfl);(exact rfl);(intro a0 hw;go_simp;exact rfl);(go_simp;exact rfl)))
       (apply hLm;(exact rfl);(exact rfl);(intro a0 hw;have zz:=cA.o a0 hw;obtain⟨z0,z1,z2,z3,z4,z5⟩:=zz;go_simp;exact rfl);(go_simp;exact rfl))
       iterate 3 ((apply hLm;(exact rfl);(exact rfl);(intro a0 hw;go_simp;exact rfl);(go_simp;exact rfl)))
       (apply hLm;(exact rfl);(exact rfl);(intro a0 hw;have zz:=cA.o a0 hw;obtain⟨z0,z1,z2,z3,z4,z5⟩:=zz;go_simp;exact rfl);(go_simp;exact rfl))
       (apply hOn;(exact rfl);(exact rfl));go_simp
       refine(dA.o _ fe).mono ?_;rintro e wC ⟨rfl,hbC⟩;have fC:Bz wk wC:=fe.trans (hbC.mono fe.size);refine⟨_,rfl,fC,?_⟩
       (refine hNa (by go_simp;exact rfl) ?_)
       clear hbC
       (apply hLm;(exact rfl);(exact rfl);(intro a0 hw;go_simp;exact rfl);(go_simp;exact rfl))
       iterate 4 ((apply hLs;(exact rfl);(go_simp);(intro a0 hw;go_simp;exact rfl));(refine hNa (by go_simp;exact rfl) ?_))
       (apply hLs;(exact rfl);(go_simp);(intro a0 hw;have zz:=cA.o a0 hw;obtain⟨z0,z1,z2,z3,z4,z5⟩:=zz;go_simp;exact rfl));(refine hNa (by go_simp;exact rfl) ?_)
       (apply Heavy.one_step;(exact rfl);(go_simp));go_simp
       refine(dD.o _ fC).mono ?_;rintro e wD ⟨rfl,hbD⟩;have fD:Bz wk wD:=fC.trans (hbD.mono fC.size);refine⟨_,rfl,fD,?_⟩
       (refine hNa (by go_simp;exact rfl) ?_)
       clear hbD
       (apply hLs;(exact rfl);(go_simp);(intro a0 hw;go_simp;exact rfl));(refine hNa (by go_simp;exact rfl) ?_)
       apply hPe;show wpList _ _ _ _ _ _;go_wp2;go_roundw
       case rel=>exact⟨k+1,v,false,rfl,rfl,by simp,by omega,bO.mono (bO.below e7.o fD (aA _)) (by rw [c1.o]) (by omega),fun h=>(i4.o h).elim,hBk.trans (fD.mono hBk.size)⟩
       case measure=>simp [intOf];omega
      refine hRp (Bz wk) 20 (Heavy.lights [0,1,2,3,4,5,6,7] (.one 8 (Heavy.lights [9,10,11,12,13,14,15,16,17] (.one 18 (Heavy.lights [19] .done))))) (by kernel_rfl) (by kernel_rfl) fd ?_;simp only [Heavy.lights,aX,bI,aW,bD]
      iterate 3 ((apply hLm;(exact rfl);(exact rfl);(intro a0 hw;go_simp;exact rfl);(go_simp;exact rfl)))
      (apply hLm;(exact rfl);(exact rfl);(intro a0 hw;have zz:=cA.o a0 hw;obtain⟨z0,z1,z2,z3,z4,z5⟩:=zz;go_simp;exact rfl);(go_simp;exact rfl))
      iterate 3 ((apply hLm;(exact rfl);(exact rfl);(intro a0 hw;go_simp;exact rfl);(go_simp;exact rfl)))
      (apply hLm;(exact rfl);(exact rfl);(intro a0 hw;have zz:=cA.o a0 hw;obtain⟨z0,z1,z2,z3,z4,z5⟩:=zz;go_simp;exact rfl);(go_simp;exact rfl))
      (apply hOn;(exact rfl);(exact rfl));go_simp
      refine(dA.o _ fd).mono ?_;rintro e wA ⟨rfl,hbA⟩;have fA:Bz wk wA:=fd.trans (hbA.mono fd.size);refine⟨_,rfl,fA,?_⟩
      (refine hNa (by go_simp;exact rfl) ?_)
      clear hbA
      (apply hLm;(exact rfl);(exact rfl);(intro a0 hw;go_simp;exact rfl);(go_simp;exact rfl))
      iterate 3 ((apply hLs;(exact rfl);(go_simp);(intro a0 hw;go_simp;exact rfl));(refine hNa (by go_simp;exact rfl) ?_))
      (apply hLs;(exact rfl);(go_simp);(intro a0 hw;have zz:=cA.o a0 hw;obtain⟨z0,z1,z2,z3,z4,z5⟩:=zz;go_simp;exact rfl));(refine hNa (by go_simp;exact rfl) ?_)
      iterate 3 ((apply hLs;(exact rfl);(go_simp);(intro a0 hw;go_simp;exact rfl));(refine hNa (by go_simp;exact rfl) ?_))
      (apply hLs;(exact rfl);(go_simp);(intro a0 hw;have zz:=cA.o a0 hw;obtain⟨z0,z1,z2,z3,z4,z5⟩:=zz;go_simp;exact rfl));(refine hNa (by go_simp;exact rfl) ?_)
      (apply Heavy.one_step;(exact rfl);(go_simp));go_simp
      refine(dB.o _ fA).mono ?_;rintro e wB ⟨rfl,hbB⟩;have fB:Bz wk wB:=fA.trans (hbB.mono fA.size);refine⟨_,rfl,fB,?_⟩
      (refine hNa (by go_simp;exact rfl) ?_)
      clear hbB
      (apply hLm;(exact rfl);(exact rfl);(intro a0 hw;go_simp;exact rfl);(go_simp;exact rfl))
      apply hPe;show wpList _ _ _ _ _ _
      go_upto_region 22 with fail
      have fe:Bz wk wB.drew:=fB.trans (cU _ _);refine hRp (Bz wk) 17 (Heavy.lights [0,1,2,3,4,5,6,7] (.one 8 (Heavy.lights [9,10,11,12,13,14] (.one 15 (Heavy.lights [16] .done))))) (by kernel_rfl) (by kernel_rfl) fe ?_;simp only [Heavy.lights,aX,bI,aW,bD]
      iterate 3 ((apply hLm;(exact rfl);(exact rfl);(intro a0 hw;go_simp;exact rfl);(go_simp;exact rfl)))
      (apply hLm;(exact rfl);(exact rfl);(intro a0 hw;have zz:=cA.o a0 hw;obtain⟨z0,z1,z2,z3,z4,z5⟩:=zz;go_simp;exact rfl);(go_simp;exact rfl))
      iterate 3 ((apply hLm;(exact rfl);(exact rfl);(intro a0 hw;go_simp;exact rfl);(go_simp;exact rfl)))
      (apply hLm;(exact rfl);(exact rfl);(intro a0 hw;have zz:=cA.o a0 hw;obtain⟨z0,z1,z2,z3,z4,z5⟩:=zz;go_simp;exact rfl);(go_simp;exact rfl))
      (apply hOn;(exact rfl);(exact rfl));go_simp
      refine(dA.o _ fe).mono ?_;rintro e wC ⟨rfl,hbC⟩;have fC:Bz wk wC:=fe.trans (hbC.mono fe.size);refine⟨_,rfl,fC,?_⟩
      (refine hNa (by go_simp;exact rfl) ?_)
      clear hbC
      (apply hLm;(exact rfl);(exact rfl);(intro a0 hw;go_simp;exact rfl);(go_simp;exact rfl))
      iterate 4 ((apply hLs;(exact rfl);(go_simp);(intro a0 hw;go_simp;exact rfl));(refine hNa (by go_simp;exact rfl) ?_))
      (apply hLs;(exact rfl);(go_simp);(intro a0 hw;have zz:=cA.o a0 hw;obtain⟨z0,z1,z2,z3,z4,z5⟩:=zz;go_simp;exact rfl));(refine hNa (by go_simp;exact rfl) ?_)
      (apply Heavy.one_step;(exact rfl);(go_simp));go_simp
      refine(dD.o _ fC).mono ?_;rintro e wD ⟨rfl,hbD⟩;have fD:Bz wk wD:=fC.trans (hbD.mono fC.size);refine⟨_,rfl,fD,?_⟩
      (refine hNa (by go_simp;exact rfl) ?_)
      clear hbD
      (apply hLs;(exact rfl);(go_simp);(intro a0 hw;go_simp;exact rfl));(refine hNa (by go_simp;exact rfl) ?_)
      apply hPe;show wpList _ _ _ _ _ _;go_wp2;go_roundw
      case rel=>exact⟨k+1,v,b,rfl,rfl,by simp,by omega,bO.mono (bO.below e7.o fD (aA _)) (by rw [c1.o]) (by omega),g2.o,hBk.trans (fD.mono hBk.size)⟩
      case measure=>simp [intOf];omega
  obtain⟨⟨y,q⟩,hY⟩:∃Y,L3[k]?=some Y:=⟨L3[k]'(by rw [e4.o.2.2];exact g7),aZ _⟩;obtain⟨g3,rfl,hp3⟩:=h0.o k y q hY;obtain⟨y0,y1⟩:=hp3 _ wo (aA _) hB;obtain⟨a4,c4,rfl,_⟩:=hR.read;rw [hLL] at hR;rw [hLL];have hA:=aside4 hR hLL hU hY;have fo:Bz w wo:=f1.trans (hB.mono f1.size);obtain⟨i7,hi3,hw3⟩:=elt (i:=k) (n:=np) (by omega) (by omega);clear hR hLL hU hY hp3
  go_wp2_with (go_at_call 145;with_reducible refine(du.o _ fo y q).mono ?_)
  rintro e w2 ⟨u,Lu,rfl,hOu,_,hmu,hlu,c7⟩;have f2:Bz w1 w2:=hB.trans (c7.mono hB.size);have g1:=hA.o.1.below c7 (aA _);obtain⟨au,cu,rfl,_⟩:=hOu.read;obtain⟨nu,hnu⟩:=enm Lu.length;rw [hnu] at hOu hlu;rw [hnu];have a8:=aC w2 (Obj.cells #[.slice au nu cu] 127);have b3:=aK w2 (Obj.cells #[.slice au nu cu] 127);have c5:(w2.alloc (Obj.cells #[.slice au nu cu] 127)).ownsRow w1.heap.size 127 1 (.slice a4 k c4) k X:=by
   have:=(g1.below a8 (aA _)).1;rw [hA.o.2.1] at this;exact this
  have a6:SrcAt (w2.alloc (Obj.cells #[.slice au nu cu] 127)) (.slice (some ⟨w2.heap.size,0,none⟩) 1 1) 1 [.slice au nu cu]:=.inr ⟨_,_,rfl,fun t u ht=>by
   rw [jX,bT];simp only [World.cell?,b3];simpa using ht⟩
  have a5:∀u∈([.slice au nu cu]:Lv),u.oneCell'=true:=by simp [Value.oneCell']
  have b9:k+1≤maxLen∧(k+1)*24≤140737488355328:=by unfold maxLen;omega
  have a2:w1.heap.size≤(w2.alloc (Obj.cells #[.slice au nu cu] 127)).heap.size:=aE f2.size a8.size;have d2:Aside (∀v5 w5,w5.ownsRow w1.heap.size 127 1 v5 (k+1) (X++ [.slice au nu cu])→(w2.alloc (Obj.cells #[.slice au nu cu] 127)).grownBy w5 (Value.ownBlock (.slice a4 k c4))→
    RowX w1.heap.size w5 v5 (X++ [.slice au nu cu]) (LL++ [Lu])∧(LL++ [Lu]).length=k+1∧(∀(j:Nat) I,L3[j]?=some I→j<k+1→∃L,(LL++ [Lu])[j]?=some L∧(∀y,y∈L↔cV P I y)∧L.length≤3000000)∧Bz w1 w5):=by
   show∀v5 w5,_;intro v5 w5 h1 h2;obtain⟨q1,q2,q3,q4⟩:=hA.o;obtain⟨p1,p2,p3⟩:=RowX.push g1 f2.size (show aD w1.heap.size w2 (.slice au nu cu) Lu from gM hOu hB.size) (by rw [q2];exact h1) h2;refine⟨p1,by rw [aI,q2];rfl,fun j I hj k9=>?_,f2.trans p2⟩
   by_cases i8:j<k
   ·obtain⟨L,e1,e2⟩:=q3 j I hj i8;exact⟨L,by rw [fF (by omega)];exact e1,e2⟩
   ·obtain rfl:j=k:=by omega
    rw [q4] at hj;cases hj;exact⟨Lu,by rw [eO (by omega)];simp [q2],hmu,by rw [hnu];exact hlu⟩
  clear hA g1 hOu hmu hnu c7 a8 b3 y0 y1
  go_wp2_with (at_builtin;refine gE CW _ rfl _ _ rfl w1.heap.size _ _ _ rfl c5 _ _ _ rfl a6 rfl a5 b9.1 b9.2 a2 ?_;intro v5 w5 h5 d3 j7)
  have e8:Aside _:=d2.o _ _ h5 d3;clear d2 h5 d3 j7 c5 a6 a5 b9 a2;go_wp2;go_roundw
  case rel=>exact⟨k+1,_,_,_,rfl,by simp,by omega,e8.o.1,e8.o.2.1,e8.o.2.2.1,e8.o.2.2.2⟩
  case measure=>simp [intOf];omega
end
section
attribute [local go_sem] Heavy.uponW
def Co (x:ByteArray) (m:Int) (w:Wo):
  Cz 81 #[.slice none 0 0,.agg #[.string x,.int .i64 m]] w fun e w'=>e= .returned (.int .i64 0)∧Bz w w':=by
 have b0:=aC w (Obj.cells #[.string x,.int .i64 m] 63);have bA:=aside b0;obtain⟨wb,hwb⟩:=enm (w.alloc (Obj.cells #[.string x,.int .i64 m] 63));rw [hwb] at bA;clear b0;go_enter Tryz.func81,Tryz.ntmps81
 go_upto_region 1 with fail
 clear hwb;go_wp2
 go_loopw [5] (fun s wr=>s= .int .i64 0∧wr=wb) (fun _ _=>0)
 case atStart=>exact⟨rfl,rfl⟩
 case round=>
  obtain⟨rfl,rfl⟩:=hrel;go_wp2
  go_ret
  exact⟨rfl,bA.o⟩
end
section
attribute [local go_sem] Heavy.uponW
noncomputable def nZ:List Cl→Int
 | []=>0
 |C::r=>if C.flt≠0 then C.flt else nZ r
noncomputable def kG (P:List Cl):Int:=if 300<P.length then 3 else nZ P
def CK:∀{P:List Cl} {i:Nat} {C:Cl},P[i]?=some C→(∀D∈P.take i,D.flt=0)→C.flt≠0→nZ P=C.flt
 | [],_,_,h,_,_=>by simp at h
 |D::r,0,C,h,_,hC=>by
  simp at h;subst h;rw [nZ,if_pos hC]
 |D::r,i+1,C,h,hz,hC=>by
  have h0:D.flt=0:=hz D (by simp);rw [nZ,if_neg (by simp [h0])];exact CK (by simpa using h) (fun E hE=>hz E (by simp [hE])) hC
def HO:∀{P:List Cl},(∀D∈P,D.flt=0)→nZ P=0
 | [],_=>rfl
 |D::r,h=>by
  rw [nZ,if_neg (by simp [h D (by simp)])];exact HO fun E hE=>h E (by simp [hE])
def ZT (P:List Cl) (n:Nat) (w:Wo) (a:Option Addr) (len c:Nat) (hl:P.length=len) (h:ClsV n w P a) (hn:n≤w.heap.size):
  Cz 28 #[.slice a len c,.slice none 0 0] w fun e w'=>e= .returned (.int .i64 (kG P))∧Bz w w':=by
 have Al:=aside hl;have hA:=aside2 h hn;obtain⟨FL,hFL⟩:∃f,kG P=f:=⟨_,rfl⟩;rw [hFL];have FA:=aside hFL;clear hl h hn hFL
 by_cases b4:300<len
 case pos=>
  obtain rfl:FL=3:=by
   rw [←FA.o];unfold kG;rw [if_pos (by rw [Al.o];exact b4)]
  have a9:(300:Int)<(len:Int):=by omega
  clear FA hA;go_enter Tryz.func28,Tryz.ntmps28;go_wp2
  go_ret
  exact⟨rfl,aG _ _⟩
 have a9:¬(300:Int)<(len:Int):=by omega
 have FB:Aside (nZ P=FL):=by
  show _=_;rw [←FA.o];unfold kG;rw [if_neg (by rw [Al.o];exact b4)]
 clear FA;go_enter Tryz.func28,Tryz.ntmps28;go_wp2
 go_loopw [5] (fun s wr=>∃i:Nat,s= .int .i64 i∧i≤len∧(∀C∈P.take i,C.flt=0)∧Bz w wr) (fun s _=>len-(intOf s).toNat)
 case atStart=>exact⟨0,rfl,aJ _,by simp,aG _ _⟩
 case round=>
  obtain⟨wo,rfl⟩:=enr wr;obtain⟨i,rfl,hi,hz,hB⟩:=hrel
  by_cases c0:i<len
  case pos=>
   obtain⟨C,hC⟩:=egf Al.o c0;obtain⟨g,off,vh,vb,rfl,hg,hc,hvh,hvb⟩:=hA.o.1.read hC;have a6:Aside (∀w2,Bz w w2→Cz 78 #[.agg (lY vh vb C.vars).toArray] w2 fun e w'=>e= .returned (.int .i64 C.flt)∧Bz w2 w'):=fun w2 hb=>Ac C n w2 _ ⟨vh,vb,rfl,TmV.below hb hA.o.2 _ _ hvh,TmV.below hb hA.o.2 _ _ hvb⟩ (aE hA.o.2 hb.size)
   obtain⟨fl,hfl⟩:∃f,C.flt=f:=⟨_,rfl⟩;rw [hfl] at a6;have a0:=aside3 hz hC hfl;obtain⟨th,tb,vars⟩:=C;dsimp only at hc hvh hvb a6;obtain⟨k1,v1,nm1,g1,num1,den1,a5⟩:=th;obtain⟨k2,v2',nm2,g2,num2,den2,args2⟩:=tb;simp only [TmV] at hvh hvb;obtain⟨_,_,a1,c1,rfl,⟨⟨p1,q1,rfl,_⟩,⟨p2,q2,rfl,_⟩⟩,_⟩:=hvh;obtain⟨_,_,a2,c2,rfl,⟨⟨p3,q3,rfl,_⟩,⟨p4,q4,rfl,_⟩⟩,_⟩:=hvb;generalize a5.length=l1,num1.length=n1,den1.length=n2,args2.length=l2,num2.length=n3,den2.length=n4 at*;have b7:Aside (∀w2,Bz w w2→_):=fun(w2:Wo) (hb:Bz w w2)=>sR (hc.below hb (bG hg hA.o.2))
   replace a6:Aside (∀w2,Bz w w2→Cz 78 #[.agg (tC k1 v1 nm1 g1 p1 n1 q1 p2 n2 q2 a1 l1 c1 k2 v2' nm2 g2 p3 n3 q3 p4 n4 q4 a2 l2 c2 vars)] w2 fun e w'=>e= .returned (.int .i64 fl)∧Bz w2 w'):=a6;obtain⟨b8,hi3,hw3⟩:=elt (i:=i) (n:=len) (by omega) (by omega);clear hc hC hA hz hfl;obtain⟨x0,x1,x2,x3,x4,x5,x6,x7,x8,x9,x10,x11,x12,x13,x14⟩:=b7.o wo hB
   go_wp2_with (go_at_call 78;with_reducible refine(a6.o _ hB).mono ?_)
   rintro e w1 ⟨rfl,hb⟩;have f1:Bz w w1:=hB.trans (hb.mono hB.size);clear hb x0 x1 x2 x3 x4 x5 x6 x7 x8 x9 x10 x11 x12 x13 x14
   by_cases a8:fl=0
   case neg=>
    have c6:(fl !=0)=true:=by simpa using a8
    obtain rfl:FL=fl:=by
     rw [←FB.o,←a0.o.2.2];exact CK a0.o.2.1 a0.o.1 (by rw [a0.o.2.2];exact a8)
    clear a8;go_wp2
    go_ret
    exact⟨rfl,f1⟩
   subst a8;have c3:Aside (∀D∈P.take (i+1),D.flt=0):=by
    show∀D∈_,_;rw [gK,a0.o.2.1];intro D hD;rcases bX.1 hD with hD|hD
    ·exact a0.o.1 D hD
    ·simp at hD;subst hD;exact a0.o.2.2
   clear a0;go_wp2;go_roundw
   case rel=>exact⟨i+1,by simp,by omega,c3.o,f1⟩
   case measure=>simp [intOf];omega
  have b5:len=i:=by omega
  have a3:Aside (∀C∈P,C.flt=0):=by
   show∀C∈P,_;rw [←b5,←Al.o,iP] at hz;exact hz
  subst b5;have b2:Aside (Cz 80 #[.slice a len c] wo (CompsP wo)):=Hl P n wo a len c Al.o (by omega) (hA.o.1.below hB hA.o.2) a3.o (aE hA.o.2 hB.size);obtain rfl:FL=0:=by rw [←FB.o];exact HO a3.o
  clear hz hA a3 FB;go_wp2
  go_loopw [7] (fun s wr=>s= .int .i64 0∧wr=wo) (fun _ _=>0)
  case atStart=>exact⟨rfl,rfl⟩
  case round=>
   obtain⟨rfl,rfl⟩:=hrel;obtain⟨wq,hwq⟩:∃wq,wq=wr:=⟨_,rfl⟩
   go_wp2_with (go_at_call 80;with_reducible refine b2.o.mono ?_)
   rintro e w1 ⟨v9,X,LL,rfl,hR,hLl,hLb,hb⟩;have f1:Bz w w1:=hB.trans (hb.mono hB.size);obtain⟨ac,cc,rfl,hrd⟩:=hR.read;have b6:Aside (∀(k:Nat) L,LL[k]?=some L→∃g ai ci,ac=some ⟨g,0,none⟩∧∀w2,Bz w1 w2→w2.cell? ⟨g,k,none⟩=some (.slice ai L.length ci)∧aD wq.heap.size w2 (.slice ai L.length ci) L):=by
    show∀(k:Nat) L,_;intro k L hk;obtain⟨g,ai,ci,h1,_,h2,h3,_,h4⟩:=hrd k L hk;rw [hwq];exact⟨g,ai,ci,h1,fun w2 b3=>⟨(b3.cell (p:=⟨g,k,none⟩) h2).trans h3,h4.below b3 (aA _)⟩⟩
   obtain⟨nc,hnc⟩:∃l,LL.length=l:=⟨_,rfl⟩;rw [hnc];have a7:=aside2 hnc hLb;have c8:nc≤900000300:=by omega
   clear hR hrd hLl hLb hb hnc b2;go_wp2
   go_loopw [10] (fun s wr=>∃i:Nat,s= .int .i64 i∧i≤nc∧Bz w1 wr) (fun s _=>nc-(intOf s).toNat)
   case atStart=>exact⟨0,rfl,aJ _,aG _ _⟩
   case round=>
    obtain⟨w2,rfl⟩:=enr wr;obtain⟨i,rfl,hi,hBi⟩:=hrel
    by_cases b0:i<nc
    case neg=>
     obtain rfl:i=nc:=by omega
     go_wp2
     go_ret
     exact⟨rfl,f1.trans (hBi.mono f1.size)⟩
    obtain⟨L,hL⟩:=egf a7.o.1 b0;have hLn:=a7.o.2 L (aP hL);obtain⟨g9,ai,ci,rfl,hr9⟩:=b6.o i L hL;obtain⟨nl,hnl⟩:∃l,L.length=l:=⟨_,rfl⟩;rw [hnl] at hr9 hLn;have a4:=aside hr9;have b1:=aside hnl;obtain⟨b8,hi3,hw3⟩:=elt (i:=i) (n:=nc) (by omega) (by omega);clear hL hr9 hnl b6;go_wp2
    go_loopw [11,12] (fun c4 c5 wr=>∃j:Nat,c4= .bool false∧c5= .int .i64 j∧j≤nl∧Bz w1 wr) (fun _ s _=>nl-(intOf s).toNat)
    case atStart=>exact⟨0,rfl,rfl,aJ _,hBi⟩
    case round=>
     obtain⟨w3,rfl⟩:=enr wr;obtain⟨j,rfl,rfl,hj,hBj⟩:=hrel;have y9:=(a4.o w3 hBj).1
     by_cases b9:j<nl
     case neg=>
      obtain rfl:j=nl:=by omega
      go_wp2;go_roundw
      case rel=>exact⟨i+1,by simp,by omega,hBj⟩
      case measure=>simp [intOf];omega
     obtain⟨⟨z,r⟩,hZ⟩:∃Z,L[j]?=some Z:=⟨L[j]'(by rw [b1.o];exact b9),aZ _⟩;obtain⟨g8,c8',he,_,_⟩:=(a4.o w3 hBj).2.some (by intro e;subst e;simp at hZ);injection he with he1 he2 he3
     subst he1;obtain⟨z0,z1⟩:=(a4.o w3 hBj).2.cells hZ;dsimp only at z0 z1;have dm:Aside (Cz 81 #[.slice none 0 0,.agg #[.string z,.int .i64 r]] w3 fun e w'=>e= .returned (.int .i64 0)∧Bz w3 w'):=Co z r w3;obtain⟨c7,hj3,hw5⟩:=elt (i:=j) (n:=nl) (by omega) (by omega);clear hZ he2 he3
     go_wp2_with (go_at_call 81;with_reducible refine dm.o.mono ?_)
     rintro e w4 ⟨rfl,hb⟩;have f4:Bz w1 w4:=hBj.trans (hb.mono hBj.size);clear hb;go_wp2;go_roundw
     case rel=>exact⟨j+1,by simp,by simp,by omega,f4⟩
     case measure=>simp [intOf];omega
end
section
attribute [local go_sem] Heavy.uponW
end
def FI {fn:Func} {p q:Tmp} (h:fn.results=#[.cell p 48,.tmp q]) (tmps:Array Value) (w:Wo) (g:Nat) (t:TypeId) (cs:Array Value) (fr:Nat × Nat) (v:Value)
  (hp:tmps.getD p undef= .pointer (some ⟨g,0,none⟩)) (hg:w.heap[g]?=some (.cells cs t fr)) (hl:cs.size=7) (hq:tmps.getD q undef=v):
  (results fn tmps).run Tryz.prog w= .ok (.tuple #[.agg cs,v]) w:=by
 have a1:tmps[p]?.getD undef= .pointer (some ⟨g,0,none⟩):=by simpa using hp
 have a2:tmps[q]?.getD undef=v:=by simpa using hq
 have hi:(Tryz.prog.info? 48).map (·.size)=some cs.size:=by rw [hl];kernel_rfl
 simp [results,h,a1,a2,asAddr,run_loadVar_row w g t 48 cs fr _ hg Tryz.underlying48 rfl hi]
def zJ {w:Wo} {g:Nat} {t:TypeId} {cs:Array Value} {vs:Lv} (hg:w.heap[g]?=some (.cells cs t (0,0))) (hl:vs.length=cs.size) (h1:∀v∈vs,v.oneCell'=true):
  ∃w1,(storeCells ⟨g,0,none⟩ vs 0).run Tryz.prog w= .ok () w1∧w1.heap[g]?=some (.cells vs.toArray t (0,0))∧w.grownBy w1 (some g)∧w1.heap.size=w.heap.size:=by
 refine⟨_,run_storeCells_from (P:=Tryz.prog) g t vs 0 cs w hg (by simp;omega) h1,?_,⟨rfl,rfl,rfl,by simp [World.setRow],fun k hk a0=>yO _ _ _ _ fun e=>a0 (by rw [e])⟩,by simp [World.setRow]⟩;have:=vJ w g cs vs.toArray t (0,0) hg;simpa using this
def EW {W W1:Wo} {A:Addr} {v0 v1 v2 v3 v4 v5 v6:Value} (h:(storeCells A [v0,v1,v2,v3,v4,v5,v6] 0).run Tryz.prog W= .ok () W1):(Instr.storeAt 48 (.pointer (some A)) (.agg #[v0,v1,v2,v3,v4,v5,v6])).run Tryz.prog W= .ok () W1:=by
 have hs:∀w,(sizeOf 48).run Tryz.prog w= .ok 7 w:=fun w=>Tryz.sizeOf48 w
 have ha:(Instr.sureAddr (.pointer (some A))).run Tryz.prog W= .ok A W:=rfl;unfold Instr.storeAt;simp [storeVar,ha,hs,Value.cells,h]
