/- Lemmas; no condition. -/
import Derived.Test.YtealgacfnbbgdaaGreatDoorAs
set_option linter.all false
set_option maxHeartbeats 4000000
set_option maxRecDepth 100000
namespace Go.Proofs.YtealgacfnbbgdaaGreatDoor
open Go.RowKit Go.Big Go.RowsK Go.MapK
variable {S S':Nat→Prop} {v v5:Value} {base i n g c l:Nat} {w w2 w5:Wo}
section
attribute [local go_sem] Heavy.uponW
def Tm.argsOf:Tm→List Tm
 | .mk _ _ _ _ _ _ args=>args
def HeadP (w:Wo) (L:List Tm) (e:Ending) (w':Wo):Prop:=∃v,e= .returned v∧OutK w.heap.size w' v L∧Bz w w'
def TmV.argsV {T:Tm} {x0 x1 x2 x3 x4 x5:Value} {a:Option Addr} (h:TmV n w T [x0,x1,x2,x3,x4,x5,.slice a l c]):l=T.argsOf.length∧eV n w T.argsOf a 0∧l≤1048576:=by
 obtain⟨k,v,nm,g,num,den,args⟩:=T;simp only [TmV] at h;obtain⟨_,_,_,_,e,_,h1,h2,_⟩:=h;injection e with _ e;injection e with _ e;injection e with _ e;injection e with _ e;injection e with _ e;injection e with _ e;injection e with e _
 injection e with e1 e2 e3
 subst e1 e2 e3;exact⟨rfl,h1,h2⟩
def OutK.push {L:List Tm} {T:Tm} {X kc:Lv} (hT:KeyX L X) (hk:KeyC T kc) (h5:w5.ownsRow base 35 6 v5 (L.length+1) (X++kc)):OutK base w5 v5 (L++ [T]):=by
 refine⟨X++kc,by rw [aV];exact h5,KeyX.app hT ?_⟩;simp only [KeyX];exact⟨kc,[],by simp,hk,rfl⟩
def SE {vs:Lv} {t:TypeId} (h:w2.heap[g]?=some (.cells vs.toArray t)):iT w2 (.slice (some ⟨g,0,none⟩) 1 1) 1 vs:=.inr ⟨_,_,rfl,fun j u hj=>by
 rw [qH,dH];simp only [World.cell?,h];simpa using hj⟩
def Hg (T:Tm) (n:Nat) (w:Wo) (vs:Lv) (h:TmV n w T vs) (hn:n≤w.heap.size):Cz 14 #[.agg vs.toArray] w (HeadP w T.argsOf):=by
 obtain⟨k,v,nm,g,p1,n1,q1,p2,n2,q2,a,len,c,rfl⟩:=TmV.seven h;obtain⟨hl,hT,hbig⟩:=h.argsV;obtain⟨args,hargs⟩:∃l,T.argsOf=l:=⟨_,rfl⟩;rw [hargs] at hl hT ⊢;have Al:Aside (args.length=len∧n≤w.heap.size):=⟨hl.symm,hn⟩;have b7:=aside hT;obtain⟨wb,hwb,b0,hq,_⟩:=ebx w (Obj.cells (tA k v nm g p1 n1 q1 p2 n2 q2 a len c) 27);have b6:=aside b0;obtain⟨x0,x1,x2,x3,x4,x5,x6⟩:=dZ hq;clear h hl hT hargs b0 hq hn;go_enter Tryz.func14,Tryz.ntmps14
 go_upto_region 3 with fail
 clear hwb x0 x1 x2 x3 x4 x5 x6
 go_loopw [3,9] (fun s1 c1 wr=>∃(i:Nat) (v2:Value),v2=s1∧c1= .int .i64 i∧i≤len∧OutK w.heap.size wr v2 (args.take i)∧Bz w wr) (fun _ s _=>len-(RowKit.intOf s).toNat)
 case atStart=>exact⟨0,_,rfl,rfl,cJ _,OutK.nil _ _,b6.o⟩
 case round=>
  obtain⟨wo,rfl⟩:=enr wr;obtain⟨i,v2,rfl,rfl,hi,hOi,hBi⟩:=hrel
  by_cases b8:i<len
  case neg=>
   obtain rfl:i=len:=by omega
   have hP:Aside (HeadP w args (.returned v2) wo):=⟨v2,rfl,by rw [←Al.o.1,kD] at hOi;exact hOi,hBi⟩;clear hOi hBi;go_wp2
   go_ret
   exact hP.o
  obtain⟨T',hT'⟩:=egf Al.o.1 b8;obtain⟨b,off,vs',rfl,hbn,hc,hv⟩:=b7.o.get hT';rw [dH] at hc;have c0:=aside hv;have b4:Aside (args.take (i+1)=args.take i++ [T']):=by show _=_;rw [mA,hT'];rfl
  have a3:Aside ((args.take i).length≤1048576):=by show _≤_;rw [bT];omega
  obtain⟨Li,hLi⟩:∃x,args.take i=x:=⟨_,rfl⟩;rw [hLi] at hOi b4 a3;obtain⟨k',v',nm',g',r1,m1',u1,r2,m2',u2,a',l',c',rfl⟩:=TmV.seven hv;obtain⟨m0,m1,m2,m3,m4,m5,m6⟩:=seven (w:=w) (w2:=wo) (fun p hp=>hBi.cell (hp▸(eE hbn Al.o.2))) hc;have d0:=aC wo (Obj.cells (tA k' v' nm' g' r1 m1' u1 r2 m2' u2 a' l' c') 27);have a0:=hBi.trans (d0.mono hBi.size);have a1:=hOi.below d0 (aA _);have a5:=bY wo (Obj.cells (tA k' v' nm' g' r1 m1' u1 r2 m2' u2 a' l' c') 27);obtain⟨w4,hw4⟩:∃x,wo.alloc (Obj.cells (tA k' v' nm' g' r1 m1' u1 r2 m2' u2 a' l' c') 27)=x:=⟨_,rfl⟩;rw [hw4] at a0 a1 a5;have a6:=aside2 a1 a0;have d2:=Hf T' n w4 _ (TmV.below a0 Al.o.2 _ _ c0.o) (aE Al.o.2 a0.size);replace d2:Cz 37 #[.agg (tA k' v' nm' g' r1 m1' u1 r2 m2' u2 a' l' c')] w4 _:=d2;obtain⟨c2,hi3,hw3⟩:=elt (i:=i) (n:=len) (by omega) (by omega);clear hLi hc hT' hOi hBi hv a1 a0 d0
  go_upto_region 5 with fail
  clear hw4 m0 m1 m2 m3 m4 m5 m6;obtain⟨m0,m1,m2,m3,m4,m5,m6⟩:=dZ a5;clear a5;refine rM ?_
  iterate 2 (refine iD rfl fun K hK=>?_;go_simp;refine hK _ _ ?_;clear hK)
  refine iD rfl fun KK b1=>?_
  go_simp
  refine d2.mono ?_;rintro e w6 ⟨kc,rfl,hkc,hb6⟩;refine b1 _ _ ?_;clear b1 d2 m0 m1 m2 m3 m4 m5 m6;have b3:=aside hkc;obtain⟨kg,ka,kb',kc',kd,ke,kf,rfl⟩:=hkc;have a8:Aside (Bz w w6):=a6.o.2.trans (hb6.mono a6.o.2.size);have O6:=a6.o.1.below hb6 (aA _);have bx:=aC w6 (Obj.cells #[.int .i64 (dT T').1,.bool kg,.slice ka kb' kc',.slice kd ke kf,.string (dT T').2.1,.int .i64 (dT T').2.2] 35);have b5:=bY w6 (Obj.cells #[.int .i64 (dT T').1,.bool kg,.slice ka kb' kc',.slice kd ke kf,.string (dT T').2.1,.int .i64 (dT T').2.2] 35);obtain⟨X4,hX4,hT4⟩:=O6.below bx (aA _);have bX:Aside (Bz w (w6.alloc (Obj.cells #[.int .i64 (dT T').1,.bool kg,.slice ka kb' kc',.slice kd ke kf,.string (dT T').2.1,.int .i64 (dT T').2.2] 35))):=a8.o.trans (bx.mono a8.o.size);have a7:Aside (iT (w6.alloc (Obj.cells #[.int .i64 (dT T').1,.bool kg,.slice ka kb' kc',.slice kd ke kf,.string (dT T').2.1,.int .i64 (dT T').2.2] 35)) (.slice (some ⟨w6.heap.size,0,none⟩) 1 1) 1 [.int .i64 (dT T').1,.bool kg,.slice ka kb' kc',.slice kd ke kf,.string (dT T').2.1,.int .i64 (dT T').2.2]):=SE b5;have a2:=aside2 hX4 hT4;have a9:Aside (Li.length+1≤maxLen∧(Li.length+1)*88≤140737488355328):=⟨by have:=a3.o;unfold maxLen;omega,by have:=a3.o;omega⟩;have bz:Aside (w.heap.size≤(w6.alloc (Obj.cells #[.int .i64 (dT T').1,.bool kg,.slice ka kb' kc',.slice kd ke kf,.string (dT T').2.1,.int .i64 (dT T').2.2] 35)).heap.size):=bX.o.size;clear hX4 hT4 O6 bx b5 hb6
  iterate 1 (refine iD rfl fun K hK=>?_;go_simp;refine hK _ _ ?_;clear hK)
  refine lJ elKey _ rfl _ _ rfl w.heap.size v2 Li.length X4 rfl a2.o.1 (.slice (some ⟨w6.heap.size,0,none⟩) 1 1) 1 [.int .i64 (dT T').1,.bool kg,.slice ka kb' kc',.slice kd ke kf,.string (dT T').2.1,.int .i64 (dT T').2.2] rfl a7.o rfl b3.o.one a9.o.1 a9.o.2 bz.o ?_;intro v7 w7 h7 b2 b9;have R7:Aside (OutK w.heap.size w7 v7 (args.take (i+1))∧Bz w w7):=by
   have a4:=a2.o.1.lt;refine⟨?_,bX.o.grown b2 bX.o.size fun k hk=>(a4 k hk).1⟩;rw [b4.o];exact OutK.push a2.o.2 b3.o h7
  clear h7 b2 b9
  iterate 1 (refine iD rfl fun K hK=>?_;go_simp;refine hK _ _ ?_;clear hK)
  go_wp2;go_roundw
  case rel=>exact⟨i+1,_,rfl,by simp,by omega,R7.o⟩
  case measure=>simp [RowKit.intOf];omega
end
section
attribute [local go_sem] Heavy.uponW
def KHP (w:Wo) (C:Cl) (F:Int) (e:Ending) (w':Wo):Prop:=Bz w w'∧∃v,e= .returned (.tuple #[v,.int .i64 F])∧(F≠0→v= .slice none 0 0)∧(F=0→OutK w.heap.size w' v C.h.argsOf)
def Hs (C:Cl) (n:Nat) (w:Wo) (vs:Lv) (h:ClV n w C vs) (hn:n≤w.heap.size):Cz 4 #[.agg vs.toArray] w (KHP w C (dK C)):=by
 have dc:=fun w2 (hb:Bz w w2)=>MD C n w2 vs (h.below hb hn) (aE hn hb.size)
 obtain⟨vh,vb,rfl,hH,hB⟩:=h;have TA:=aside2 hH hn;obtain⟨kx,vx,nmx,gx,px,nx,qx,rx,mx,ux,ax,lx,cx,rfl⟩:=TmV.seven hH;obtain⟨ky,vy,nmy,gy,py,ny,qy,ry,my,uy,ay,ly,cy,rfl⟩:=TmV.seven hB;obtain⟨vars,hvars⟩:∃v,C.vars=v:=⟨_,rfl⟩;rw [hvars] at dc ⊢;obtain⟨F,hF⟩:∃f,dK C=f:=⟨_,rfl⟩;rw [hF] at dc ⊢;have b0:=aC w (Obj.cells (tC kx vx nmx gx px nx qx rx mx ux ax lx cx ky vy nmy gy py ny qy ry my uy ay ly cy vars) 29);have hq:=bY w (Obj.cells (tC kx vx nmx gx px nx qx rx mx ux ax lx cx ky vy nmy gy py ny qy ry my uy ay ly cy vars) 29);obtain⟨wa,hwa⟩:∃x,w.alloc (Obj.cells (tC kx vx nmx gx px nx qx rx mx ux ax lx cx ky vy nmy gy py ny qy ry my uy ay ly cy vars) 29)=x:=⟨_,rfl⟩;have a2:wa.heap.size=w.heap.size+1:=by rw [←hwa];simp
 rw [hwa] at b0 hq;have a1:=aside b0;have fa:Aside (∀w2,Bz wa w2→_):=fun(w2:Wo) (hb:Bz wa w2)=>jK ((hb.block w.heap.size (by omega)).trans hq)
 have d1:=dc wa b0;replace d1:Cz 13 #[.agg (tC kx vx nmx gx px nx qx rx mx ux ax lx cx ky vy nmy gy py ny qy ry my uy ay ly cy vars)] wa _:=d1;have d2:Aside (∀w2,Bz w w2→Cz 14 #[.agg (tA kx vx nmx gx px nx qx rx mx ux ax lx cx)] w2 (HeadP w2 C.h.argsOf)):=fun w2 hb=>Hg C.h n w2 _ (TmV.below hb TA.o.2 _ _ TA.o.1) (aE TA.o.2 hb.size)
 obtain⟨x0,x1,x2,x3,x4,x5,x6,x7,x8,x9,x10,x11,x12,x13,x14⟩:=jK hq;clear hH hB hvars hF b0 hq dc hn;show Cz 4 #[.agg (tC kx vx nmx gx px nx qx rx mx ux ax lx cx ky vy nmy gy py ny qy ry my uy ay ly cy vars)] w _;go_enter Tryz.func4,Tryz.ntmps4
 by_cases a0:F=0
 case neg=>
  have e1:(F==0)=false:=by simpa using a0
  have e2:(F !=0)=true:=by simpa using a0
  have FA:=aside a0;clear a0
  go_wp2_with (go_at_call 13;(with_reducible refine d1.mono ?_);rintro e w2 ⟨rfl,hb2⟩)
  go_ret2
  exact⟨a1.o.trans (hb2.mono a1.o.size),_,rfl,fun _=>rfl,fun h=>absurd h FA.o⟩
 subst a0
 go_upto_region 4 with(go_at_call 13;(with_reducible refine d1.mono ?_);rintro e w2 ⟨rfl,hb2⟩)
 clear hwa a2 x0 x1 x2 x3 x4 x5 x6 x7 x8 x9 x10 x11 x12 x13 x14;obtain⟨x0,x1,x2,x3,x4,x5,x6,x7,x8,x9,x10,x11,x12,x13,x14⟩:=fa.o w2 hb2;have b2:=a1.o.trans (hb2.mono a1.o.size);have d3:=d2.o w2 b2
 go_wp2_with (go_at_call 14;(with_reducible refine d3.mono ?_);rintro e w3 ⟨v3,rfl,hO3,hb3⟩)
 go_ret2
 refine⟨b2.trans (hb3.mono b2.size),v3,rfl,fun h=>absurd rfl h,fun _=>?_⟩;obtain⟨X,h1,h2⟩:=hO3;exact⟨X,nW h1 b2.size,h2⟩
end
section
attribute [local go_sem] Heavy.uponW
def Gw (C:Cl) (n:Nat) (w:Wo) (vs:Lv) (h:ClV n w C vs) (hn:n≤w.heap.size):Cz 5 #[.agg vs.toArray] w (KHP w C (dK C)):=by
 have dc:=fun w2 (hb:Bz w w2)=>IU C n w2 vs (h.below hb hn) (aE hn hb.size)
 obtain⟨vh,vb,rfl,hH,hB⟩:=h;have TA:=aside2 hH hn;obtain⟨kx,vx,nmx,gx,px,nx,qx,rx,mx,ux,ax,lx,cx,rfl⟩:=TmV.seven hH;obtain⟨ky,vy,nmy,gy,py,ny,qy,ry,my,uy,ay,ly,cy,rfl⟩:=TmV.seven hB;obtain⟨vars,hvars⟩:∃v,C.vars=v:=⟨_,rfl⟩;rw [hvars] at dc ⊢;obtain⟨F,hF⟩:∃f,dK C=f:=⟨_,rfl⟩;rw [hF] at dc ⊢;have b0:=aC w (Obj.cells (tC kx vx nmx gx px nx qx rx mx ux ax lx cx ky vy nmy gy py ny qy ry my uy ay ly cy vars) 29);have hq:=bY w (Obj.cells (tC kx vx nmx gx px nx qx rx mx ux ax lx cx ky vy nmy gy py ny qy ry my uy ay ly cy vars) 29);obtain⟨wa,hwa⟩:∃x,w.alloc (Obj.cells (tC kx vx nmx gx px nx qx rx mx ux ax lx cx ky vy nmy gy py ny qy ry my uy ay ly cy vars) 29)=x:=⟨_,rfl⟩;have c1:wa.heap.size=w.heap.size+1:=by rw [←hwa];simp
 rw [hwa] at b0 hq;have a2:=aside b0;have fa:Aside (∀w2,Bz wa w2→_):=fun(w2:Wo) (hb:Bz wa w2)=>jK ((hb.block w.heap.size (by omega)).trans hq)
 have d1:=dc wa b0;replace d1:Cz 15 #[.agg (tC kx vx nmx gx px nx qx rx mx ux ax lx cx ky vy nmy gy py ny qy ry my uy ay ly cy vars)] wa _:=d1;obtain⟨hl,hT,hbig⟩:=TA.o.1.argsV;obtain⟨args,hargs⟩:∃l,C.h.argsOf=l:=⟨_,rfl⟩;have AA:=aside hargs;rw [hargs] at hl hT;have Al:Aside (args.length=lx∧n≤w.heap.size):=⟨hl.symm,hn⟩;have b9:=aside hT;clear hl hT hargs;obtain⟨x0,x1,x2,x3,x4,x5,x6,x7,x8,x9,x10,x11,x12,x13,x14⟩:=jK hq;clear hH hB hvars hF b0 hq dc hn;show Cz 5 #[.agg (tC kx vx nmx gx px nx qx rx mx ux ax lx cx ky vy nmy gy py ny qy ry my uy ay ly cy vars)] w _;go_enter Tryz.func5,Tryz.ntmps5
 by_cases a1:F=0
 case neg=>
  have e1:(F==0)=false:=by simpa using a1
  have e2:(F !=0)=true:=by simpa using a1
  have FA:=aside a1;clear a1
  go_wp2_with (go_at_call 15;(with_reducible refine d1.mono ?_);rintro e w2 ⟨rfl,hb2⟩)
  go_ret2
  exact⟨a2.o.trans (hb2.mono a2.o.size),_,rfl,fun _=>rfl,fun h=>absurd h FA.o⟩
 subst a1
 go_upto_region 4 with(go_at_call 15;(with_reducible refine d1.mono ?_);rintro e w2 ⟨rfl,hb2⟩)
 clear hwa c1 x0 x1 x2 x3 x4 x5 x6 x7 x8 x9 x10 x11 x12 x13 x14;obtain⟨x0,x1,x2,x3,x4,x5,x6,x7,x8,x9,x10,x11,x12,x13,x14⟩:=fa.o w2 hb2;have b8:Aside (Bz w w2):=a2.o.trans (hb2.mono a2.o.size);clear hb2
 go_upto_region 6 with fail
 clear x0 x1 x2 x3 x4 x5 x6 x7 x8 x9 x10 x11 x12 x13 x14
 go_loopw [5,17] (fun s1 c4 wr=>∃(i:Nat) (v2:Value),v2=s1∧c4= .int .i64 i∧i≤lx∧OutK w.heap.size wr v2 (args.take i)∧Bz w wr) (fun _ s _=>lx-(RowKit.intOf s).toNat)
 case atStart=>exact⟨0,_,rfl,rfl,cJ _,OutK.nil _ _,b8.o⟩
 case round=>
  obtain⟨wo,rfl⟩:=enr wr;obtain⟨i,v2,rfl,rfl,hi,hOi,hBi⟩:=hrel
  by_cases c0:i<lx
  case neg=>
   obtain rfl:i=lx:=by omega
   have hP:Aside (KHP w C 0 (.returned (.tuple #[v2,.int .i64 0])) wo):=⟨hBi,v2,rfl,fun h=>absurd rfl h,fun _=>by rw [AA.o];rw [←Al.o.1,kD] at hOi;exact hOi⟩;clear hOi hBi;go_wp2
   go_ret2
   exact hP.o
  obtain⟨T',hT'⟩:=egf Al.o.1 c0;obtain⟨b,off,vs',rfl,hbn,hc,hv⟩:=b9.o.get hT';rw [dH] at hc;have c3:=aside hv;have b6:Aside (args.take (i+1)=args.take i++ [T']):=by show _=_;rw [mA,hT'];rfl
  have a5:Aside ((args.take i).length≤1048576):=by show _≤_;rw [bT];omega
  obtain⟨Li,hLi⟩:∃x,args.take i=x:=⟨_,rfl⟩;rw [hLi] at hOi b6 a5;obtain⟨k',v',nm',g',r1,m1',u1,r2,m2',u2,a',l',c',rfl⟩:=TmV.seven hv;obtain⟨m0,m1,m2,m3,m4,m5,m6⟩:=seven (w:=w) (w2:=wo) (fun p hp=>hBi.cell (hp▸(eE hbn Al.o.2))) hc;have d0:=aC wo (Obj.cells (tA k' v' nm' g' r1 m1' u1 r2 m2' u2 a' l' c') 27);have a0:=hBi.trans (d0.mono hBi.size);have a3:=hOi.below d0 (aA _);have a7:=bY wo (Obj.cells (tA k' v' nm' g' r1 m1' u1 r2 m2' u2 a' l' c') 27);obtain⟨w4,hw4⟩:∃x,wo.alloc (Obj.cells (tA k' v' nm' g' r1 m1' u1 r2 m2' u2 a' l' c') 27)=x:=⟨_,rfl⟩;rw [hw4] at a0 a3 a7;have a8:=aside2 a3 a0;have d2:=Fu T' n w4 _ (TmV.below a0 Al.o.2 _ _ c3.o) (aE Al.o.2 a0.size);replace d2:Cz 16 #[.agg (tA k' v' nm' g' r1 m1' u1 r2 m2' u2 a' l' c')] w4 _:=d2;obtain⟨c5,hi3,hw3⟩:=elt (i:=i) (n:=lx) (by omega) (by omega);clear hLi hc hT' hOi hBi hv a3 a0 d0
  go_upto_region 8 with fail
  clear hw4 m0 m1 m2 m3 m4 m5 m6;obtain⟨m0,m1,m2,m3,m4,m5,m6⟩:=dZ a7;clear a7;refine rM ?_
  iterate 2 (refine iD rfl fun K hK=>?_;go_simp;refine hK _ _ ?_;clear hK)
  refine iD rfl fun KK b3=>?_
  go_simp
  refine d2.mono ?_;rintro e w6 ⟨kc,rfl,hkc,hb6⟩;refine b3 _ _ ?_;clear b3 d2 m0 m1 m2 m3 m4 m5 m6;have b5:=aside hkc;obtain⟨kg,ka,kb',kc',kd,ke,kf,rfl⟩:=hkc;have b1:Aside (Bz w w6):=a8.o.2.trans (hb6.mono a8.o.2.size);have O6:=a8.o.1.below hb6 (aA _);have bx:=aC w6 (Obj.cells #[.int .i64 (dT T').1,.bool kg,.slice ka kb' kc',.slice kd ke kf,.string (dT T').2.1,.int .i64 (dT T').2.2] 35);have b7:=bY w6 (Obj.cells #[.int .i64 (dT T').1,.bool kg,.slice ka kb' kc',.slice kd ke kf,.string (dT T').2.1,.int .i64 (dT T').2.2] 35);obtain⟨X4,hX4,hT4⟩:=O6.below bx (aA _);have bX:Aside (Bz w (w6.alloc (Obj.cells #[.int .i64 (dT T').1,.bool kg,.slice ka kb' kc',.slice kd ke kf,.string (dT T').2.1,.int .i64 (dT T').2.2] 35))):=b1.o.trans (bx.mono b1.o.size);have a9:Aside (iT (w6.alloc (Obj.cells #[.int .i64 (dT T').1,.bool kg,.slice ka kb' kc',.slice kd ke kf,.string (dT T').2.1,.int .i64 (dT T').2.2] 35)) (.slice (some ⟨w6.heap.size,0,none⟩) 1 1) 1 [.int .i64 (dT T').1,.bool kg,.slice ka kb' kc',.slice kd ke kf,.string (dT T').2.1,.int .i64 (dT T').2.2]):=SE b7;have a4:=aside2 hX4 hT4;have b2:Aside (Li.length+1≤maxLen∧(Li.length+1)*88≤140737488355328):=⟨by have:=a5.o;unfold maxLen;omega,by have:=a5.o;omega⟩;have bz:Aside (w.heap.size≤(w6.alloc (Obj.cells #[.int .i64 (dT T').1,.bool kg,.slice ka kb' kc',.slice kd ke kf,.string (dT T').2.1,.int .i64 (dT T').2.2] 35)).heap.size):=bX.o.size;clear hX4 hT4 O6 bx b7 hb6
  iterate 1 (refine iD rfl fun K hK=>?_;go_simp;refine hK _ _ ?_;clear hK)
  refine lJ elKey _ rfl _ _ rfl w.heap.size v2 Li.length X4 rfl a4.o.1 (.slice (some ⟨w6.heap.size,0,none⟩) 1 1) 1 [.int .i64 (dT T').1,.bool kg,.slice ka kb' kc',.slice kd ke kf,.string (dT T').2.1,.int .i64 (dT T').2.2] rfl a9.o rfl b5.o.one b2.o.1 b2.o.2 bz.o ?_;intro v7 w7 h7 b4 c2;have R7:Aside (OutK w.heap.size w7 v7 (args.take (i+1))∧Bz w w7):=by
   have a6:=a4.o.1.lt;refine⟨?_,bX.o.grown b4 bX.o.size fun k hk=>(a6 k hk).1⟩;rw [b6.o];exact OutK.push a4.o.2 b5.o h7
  clear h7 b4 c2
  iterate 1 (refine iD rfl fun K hK=>?_;go_simp;refine hK _ _ ?_;clear hK)
  go_wp2;go_roundw
  case rel=>exact⟨i+1,_,rfl,by simp,by omega,R7.o⟩
  case measure=>simp [RowKit.intOf];omega
end
section
attribute [local go_sem] Heavy.uponW
def uO (k:Int) (l:List UInt8) (n:Nat):Bool:=k==5&&l== [44]&&((n:Int)==2)
mutual
def Tm.pl:Tm→Bool
 | .mk k v nm g num den args=>if uO k nm.toList args.length then Tm.plL args else !jS k nm.toList args.length
def Tm.plL:List Tm→Bool
 | []=>true
 |T::r=>Tm.pl T&&Tm.plL r
end
def PlOk (F:Nat) (T:Tm):Prop:=∀(n:Nat) (w:Wo) (vs:Lv),TmV n w T vs→n≤w.heap.size→Cz F #[.agg vs.toArray] w fun e w'=>e= .returned (.bool T.pl)∧Bz w w'
def Hc (k v:Int) (nm:ByteArray) (g:Bool) (num den:List Nat) (args:List Tm) (ih:∀T'∈args,PlOk 17 T'):PlOk 17 (.mk k v nm g num den args):=by
 intro n w vs h a5;have a2:=aside ih;simp only [TmV] at h;obtain⟨_,_,a,c,rfl,⟨⟨p1,q1,rfl,_⟩,⟨p2,q2,rfl,_⟩⟩,hT,hbig,_⟩:=h;generalize b4:num.length=n1 at*;generalize b5:den.length=n2 at*;obtain⟨R,hR⟩:∃r,Tm.pl (.mk k v nm g num den args)=r:=⟨_,rfl⟩;have RA:Aside ((if uO k nm.toList args.length then Tm.plL args else !jS k nm.toList args.length)=R):=by show _=_;rw [←hR];simp only [Tm.pl]
 rw [hR];obtain⟨len,hl⟩:=enm args.length;rw [hl] at hbig RA ⊢;have Al:=aside hl;have b1:=aside hT;obtain⟨wb,hwb,b0,hq,hsz⟩:=ebx w (Obj.cells (tA k v nm g p1 n1 q1 p2 n2 q2 a len c) 27);have fa:Aside (∀w2,Bz wb w2→_):=fun(w2:Wo) (hb:Bz wb w2)=>dZ ((hb.block w.heap.size (by omega)).trans hq)
 have a0:=aside2 b0 a5;obtain⟨X,hX⟩:∃b,jS k nm.toList len=b:=⟨_,rfl⟩;have dc:Aside (∀w2,Cz 43 #[.agg (tA k v nm g p1 n1 q1 p2 n2 q2 a len c)] w2 fun e w'=>e= .returned (.bool X)∧Bz w2 w'):=fun w2=>by rw [←hX];exact WJ k v nm g _ _ a len c w2
 rw [hX] at RA;obtain⟨Y,hY⟩:∃b,uO k nm.toList len=b:=⟨_,rfl⟩;have YA:=aside hY;rw [hY] at RA;have dq:Aside (∀w2,Cz 42 #[.agg (tA k v nm g p1 n1 q1 p2 n2 q2 a len c),.string ⟨#[44]⟩,.int .i64 2] w2 fun e w'=>e= .returned (.bool Y)∧Bz w2 w'):=fun w2=>by
  have:=Kg k v nm ⟨#[44]⟩ g (.slice p1 n1 q1) (.slice p2 n2 q2) a len c 2 w2;rw [tl #[44]] at this;have e:(k==5&&nm.toList==#[44].toList&&((len:Int)==2))=Y:=hY;rw [e] at this;exact this
 obtain⟨x0,x1,x2,x3,x4,x5,x6⟩:=fa.o wb (aK _ _);clear hT hl hX b4 b5 ih b0 hq a5 hR hY;show Cz 17 #[.agg (tA k v nm g p1 n1 q1 p2 n2 q2 a len c)] w _;go_enter Tryz.func17,Tryz.ntmps17
 go_upto_region 1 with fail
 clear hwb hsz;cases Y
 case false=>
  have a6:Aside (R= !X):=RA.o.symm
  go_upto_region 3 with(go_at_call 42;(with_reducible refine(dq.o _).mono ?_);rintro e w2 ⟨rfl,hb2⟩)
  have b2:=a0.o.1.trans (hb2.mono a0.o.1.size);clear x0 x1 x2 x3 x4 x5 x6;obtain⟨x0,x1,x2,x3,x4,x5,x6⟩:=fa.o w2 hb2;have a1:=aside b2;clear b2 hb2
  go_wp2_with (go_at_call 43;(with_reducible refine(dc.o _).mono ?_);rintro e w3 ⟨rfl,hb3⟩)
  go_ret
  exact⟨by rw [a6.o];rfl,a1.o.trans (hb3.mono a1.o.size)⟩
 obtain⟨rfl,hnc,rfl⟩:k=5∧(nm.toList== [44])=true∧len=2:=by
  have:=YA.o;unfold uO at this;simp at this;exact⟨this.1.1,by simpa using this.1.2,by omega⟩
 obtain⟨A,B,rfl⟩:∃A B,args= [A,B]:=by
  match args,Al.o with
  | [A,B],_=>exact⟨A,B,rfl⟩
 have RB:Aside ((A.pl&&B.pl)=R):=by
  show _=_;have:=RA.o;simpa [Tm.plL] using this
 have a3:=b1.o;simp only [eV] at a3;obtain⟨⟨b,off,va,rfl,hbn,hca,hva⟩,⟨b',off',vb,eb,_,hcb,hvb⟩,_⟩:=a3;obtain⟨rfl,rfl⟩:b=b'∧off=off':=by injection eb with eb;injection eb with e1 e2;exact⟨e1,e2⟩
 clear eb;have dA:Aside (∀w2,Bz w w2→Cz 17 #[.agg va.toArray] w2 fun e w'=>e= .returned (.bool A.pl)∧Bz w2 w'):=fun w2 hb=>a2.o A (by simp) n w2 va (TmV.below hb a0.o.2 _ _ hva) (aE a0.o.2 hb.size)
 have dB:Aside (∀w2,Bz w w2→Cz 17 #[.agg vb.toArray] w2 fun e w'=>e= .returned (.bool B.pl)∧Bz w2 w'):=fun w2 hb=>a2.o B (by simp) n w2 vb (TmV.below hb a0.o.2 _ _ hvb) (aE a0.o.2 hb.size)
 obtain⟨ra,hra⟩:∃x,A.pl=x:=⟨_,rfl⟩;obtain⟨rb,hrb⟩:∃x,B.pl=x:=⟨_,rfl⟩;rw [hra] at dA;rw [hrb] at dB;rw [hra,hrb] at RB;clear hra hrb;obtain⟨kx,vx,nmx,gx,px,nx,qx,rx,mx,ux,ax,lx,cx,rfl⟩:=TmV.seven hva;obtain⟨ky,vy,nmy,gy,py,ny,qy,ry,my,uy,ay,ly,cy,rfl⟩:=TmV.seven hvb;have ya:Aside (∀w2,Bz w w2→_):=fun(w2:Wo) (hb:Bz w w2)=>qL (fun p hp=>(hb.mono a0.o.2).cell (hp▸hbn)) (by simpa using hca)
 have yb:Aside (∀w2,Bz w w2→_):=fun(w2:Wo) (hb:Bz w w2)=>qL (o:=off+7) (fun p hp=>(hb.mono a0.o.2).cell (hp▸hbn)) (by simpa using hcb)
 clear hca hcb hva hvb hbn a2
 go_upto_region 2 with(go_at_call 42;(with_reducible refine(dq.o _).mono ?_);rintro e w2 ⟨rfl,hb2⟩)
 clear x0 x1 x2 x3 x4 x5 x6;obtain⟨x0,x1,x2,x3,x4,x5,x6⟩:=fa.o w2 hb2;have a4:=aside hb2;have b2:=a0.o.1.trans (hb2.mono a0.o.1.size);have a1:=aside b2;obtain⟨y0,y1,y2,y3,y4,y5,y6⟩:=ya.o w2 b2;have d3:=dA.o w2 b2;clear b2;cases ra
 case false=>
  have a8:Aside (R=false):=RB.o.symm
  go_wp2_with (go_at_call 17;(with_reducible refine d3.mono ?_);rintro e w3 ⟨rfl,hb3⟩)
  go_ret
  exact⟨by rw [a8.o];rfl,a1.o.trans (hb3.mono a1.o.size)⟩
 have a7:Aside (R=rb):=RB.o.symm;clear RB
 go_wp2_with (first
  |(go_at_call 17;(with_reducible refine d3.mono ?_);rintro e w3 ⟨rfl,hb3⟩;have b3:=a1.o.trans (hb3.mono a1.o.size);obtain⟨z0,z1,z2,z3,z4,z5,z6⟩:=fa.o w3 (a4.o.trans (hb3.mono a4.o.size));obtain⟨t0,t1,t2,t3,t4,t5,t6⟩:=yb.o w3 b3;have d4:=dB.o w3 b3)
  |(go_at_call 17;(with_reducible refine d4.mono ?_);rintro e w4 ⟨rfl,hb4⟩))
 go_ret
 exact⟨by rw [a7.o];rfl,b3.trans (hb4.mono b3.size)⟩
def IY:∀T:Tm,PlOk 17 T
 | .mk k v nm g num den args=>Hc k v nm g num den args fun T' a9=>IY T'
termination_by T=>SizeOf.sizeOf T
decreasing_by
 simp_wf
 have:=pK a9;omega
def Ey (k v:Int) (nm:ByteArray) (g:Bool) (num den:List Nat) (args:List Tm) (ih:∀T'∈args,PlOk 20 T'):PlOk 20 (.mk k v nm g num den args):=by
 intro n w vs h a5;have a2:=aside ih;simp only [TmV] at h;obtain⟨_,_,a,c,rfl,⟨⟨p1,q1,rfl,_⟩,⟨p2,q2,rfl,_⟩⟩,hT,hbig,_⟩:=h;generalize b4:num.length=n1 at*;generalize b5:den.length=n2 at*;obtain⟨R,hR⟩:∃r,Tm.pl (.mk k v nm g num den args)=r:=⟨_,rfl⟩;have RA:Aside ((if uO k nm.toList args.length then Tm.plL args else !jS k nm.toList args.length)=R):=by show _=_;rw [←hR];simp only [Tm.pl]
 rw [hR];obtain⟨len,hl⟩:=enm args.length;rw [hl] at hbig RA ⊢;have Al:=aside hl;have b1:=aside hT;obtain⟨wb,hwb,b0,hq,hsz⟩:=ebx w (Obj.cells (tA k v nm g p1 n1 q1 p2 n2 q2 a len c) 27);have fa:Aside (∀w2,Bz wb w2→_):=fun(w2:Wo) (hb:Bz wb w2)=>dZ ((hb.block w.heap.size (by omega)).trans hq)
 have a0:=aside2 b0 a5;obtain⟨X,hX⟩:∃b,jS k nm.toList len=b:=⟨_,rfl⟩;have dc:Aside (∀w2,Cz 47 #[.agg (tA k v nm g p1 n1 q1 p2 n2 q2 a len c)] w2 fun e w'=>e= .returned (.bool X)∧Bz w2 w'):=fun w2=>by rw [←hX];exact IT k v nm g _ _ a len c w2
 rw [hX] at RA;obtain⟨Y,hY⟩:∃b,uO k nm.toList len=b:=⟨_,rfl⟩;have YA:=aside hY;rw [hY] at RA;obtain⟨x0,x1,x2,x3,x4,x5,x6⟩:=fa.o wb (aK _ _);clear hT hl hX b4 b5 ih b0 hq a5 hR hY;show Cz 20 #[.agg (tA k v nm g p1 n1 q1 p2 n2 q2 a len c)] w _;go_enter Tryz.func20,Tryz.ntmps20
 go_upto_region 1 with fail
 clear hwb hsz;cases Y
 case false=>
  have a6:Aside (R= !X):=RA.o.symm;have b6:(k==5)=false∨(k=5∧(nm.toList== [44])=false)∨(k=5∧(nm.toList== [44])=true∧((len:Int)==2)=false):=by
    have h:=YA.o;unfold uO at h
    by_cases h5:k=5
    ·subst h5;cases hn:(nm.toList== [44])
     ·exact .inr (.inl ⟨rfl,rfl⟩)
     ·rw [hn] at h;exact .inr (.inr ⟨rfl,rfl,by simpa using h⟩)
    ·exact .inl (by simpa using h5)
  rcases b6 with hc|⟨rfl,hc⟩|⟨rfl,hc,hc2⟩
  iterate 3
   ·
    go_wp2_with (go_at_call 47;(with_reducible refine(dc.o _).mono ?_);rintro e w3 ⟨rfl,hb3⟩)
    go_ret
    exact⟨by rw [a6.o];rfl,a0.o.1.trans (hb3.mono a0.o.1.size)⟩
 obtain⟨rfl,hnc,rfl⟩:k=5∧(nm.toList== [44])=true∧len=2:=by
  have:=YA.o;unfold uO at this;simp at this;exact⟨this.1.1,by simpa using this.1.2,by omega⟩
 obtain⟨A,B,rfl⟩:∃A B,args= [A,B]:=by
  match args,Al.o with
  | [A,B],_=>exact⟨A,B,rfl⟩
 have RB:Aside ((A.pl&&B.pl)=R):=by
  show _=_;have:=RA.o;simpa [Tm.plL] using this
 have a3:=b1.o;simp only [eV] at a3;obtain⟨⟨b,off,va,rfl,hbn,hca,hva⟩,⟨b',off',vb,eb,_,hcb,hvb⟩,_⟩:=a3;obtain⟨rfl,rfl⟩:b=b'∧off=off':=by injection eb with eb;injection eb with e1 e2;exact⟨e1,e2⟩
 clear eb;have dA:Aside (∀w2,Bz w w2→Cz 20 #[.agg va.toArray] w2 fun e w'=>e= .returned (.bool A.pl)∧Bz w2 w'):=fun w2 hb=>a2.o A (by simp) n w2 va (TmV.below hb a0.o.2 _ _ hva) (aE a0.o.2 hb.size)
 have dB:Aside (∀w2,Bz w w2→Cz 20 #[.agg vb.toArray] w2 fun e w'=>e= .returned (.bool B.pl)∧Bz w2 w'):=fun w2 hb=>a2.o B (by simp) n w2 vb (TmV.below hb a0.o.2 _ _ hvb) (aE a0.o.2 hb.size)
 obtain⟨ra,hra⟩:∃x,A.pl=x:=⟨_,rfl⟩;obtain⟨rb,hrb⟩:∃x,B.pl=x:=⟨_,rfl⟩;rw [hra] at dA;rw [hrb] at dB;rw [hra,hrb] at RB;clear hra hrb;obtain⟨kx,vx,nmx,gx,px,nx,qx,rx,mx,ux,ax,lx,cx,rfl⟩:=TmV.seven hva;obtain⟨ky,vy,nmy,gy,py,ny,qy,ry,my,uy,ay,ly,cy,rfl⟩:=TmV.seven hvb;have ya:Aside (∀w2,Bz w w2→_):=fun(w2:Wo) (hb:Bz w w2)=>qL (fun p hp=>(hb.mono a0.o.2).cell (hp▸hbn)) (by simpa using hca)
 have yb:Aside (∀w2,Bz w w2→_):=fun(w2:Wo) (hb:Bz w w2)=>qL (o:=off+7) (fun p hp=>(hb.mono a0.o.2).cell (hp▸hbn)) (by simpa using hcb)
 clear hca hcb hva hvb hbn a2
 go_upto_region 2 with fail
 have b2:=a0.o.1;have a1:=aside b2;obtain⟨y0,y1,y2,y3,y4,y5,y6⟩:=ya.o wb b2;have d3:=dA.o wb b2;clear b2;cases ra
 case false=>
  have a8:Aside (R=false):=RB.o.symm
  go_wp2_with (go_at_call 20;(with_reducible refine d3.mono ?_);rintro e w3 ⟨rfl,hb3⟩)
  go_ret
  exact⟨by rw [a8.o];rfl,a1.o.trans (hb3.mono a1.o.size)⟩
 have a7:Aside (R=rb):=RB.o.symm;clear RB
 go_wp2_with (first
  |(go_at_call 20;(with_reducible refine d3.mono ?_);rintro e w3 ⟨rfl,hb3⟩;have b3:=a1.o.trans (hb3.mono a1.o.size);obtain⟨z0,z1,z2,z3,z4,z5,z6⟩:=fa.o w3 (hb3);obtain⟨t0,t1,t2,t3,t4,t5,t6⟩:=yb.o w3 b3;have d4:=dB.o w3 b3)
  |(go_at_call 20;(with_reducible refine d4.mono ?_);rintro e w4 ⟨rfl,hb4⟩))
 go_ret
 exact⟨by rw [a7.o];rfl,b3.trans (hb4.mono b3.size)⟩
def IH:∀T:Tm,PlOk 20 T
 | .mk k v nm g num den args=>Ey k v nm g num den args fun T' a9=>IH T'
termination_by T=>SizeOf.sizeOf T
decreasing_by
 simp_wf
 have:=pK a9;omega
end
section
attribute [local go_sem] Heavy.uponW
def BiOk (F:Nat) (bi:ByteArray→Int→Bool) (w0:Wo):Prop:=∀(w:Wo) (nm:ByteArray) (n:Nat),Bz w0 w→nm.size≤1048576→Cz F #[.string nm,.int .i64 n] w fun e w'=>e= .returned (.bool (bi nm n))∧Bz w w'
def Tm.nsz:Tm→Nat
 | .mk _ _ nm _ _ _ _=>nm.size
def vK (l:List UInt8):Bool:=l== [116,114,117,101]||l== [102,97,105,108]||l== [102,97,108,115,101]||l== [33]
def uS (bi:ByteArray→Int→Bool) (k:Int) (nm:ByteArray) (n:Nat):Bool:=!(k==3&&vK nm.toList)&&(k==1|| !bi nm n)
def Tm.cal (bi:ByteArray→Int→Bool):Tm→Bool
 | .mk k _ nm _ _ _ args=>uS bi k nm args.length
def RQ (l:List UInt8):(l== [116,114,117,101])=true∨((l== [116,114,117,101])=false∧(l== [102,97,105,108])=true)∨((l== [116,114,117,101])=false∧(l== [102,97,105,108])=false∧(l== [102,97,108,115,101])=true)∨((l== [116,114,117,101])=false∧(l== [102,97,105,108])=false∧(l== [102,97,108,115,101])=false∧(l== [33])=true)∨((l== [116,114,117,101])=false∧(l== [102,97,105,108])=false∧(l== [102,97,108,115,101])=false∧(l== [33])=false):=by
 cases (l== [116,114,117,101])<;>cases (l== [102,97,105,108])<;>cases (l== [102,97,108,115,101])<;>cases (l== [33])<;>simp
def Hk (bi:ByteArray→Int→Bool) (k v:Int) (nm:ByteArray) (g:Bool) (p1 p2 a:Option Addr) (n1 q1 n2 q2 len c:Nat) (w:Wo) (hb:BiOk 79 bi w) (hz:nm.size≤1048576):
  Cz 45 #[.agg (tA k v nm g p1 n1 q1 p2 n2 q2 a len c)] w fun e w'=>e= .returned (.bool (uS bi k nm len))∧Bz w w':=by
 have b0:=aC w (Obj.cells (tA k v nm g p1 n1 q1 p2 n2 q2 a len c) 27);have d1:=hb (w.alloc (Obj.cells (tA k v nm g p1 n1 q1 p2 n2 q2 a len c) 27)) nm len b0 hz;have hq:=bY w (Obj.cells (tA k v nm g p1 n1 q1 p2 n2 q2 a len c) 27);have fa:Aside (∀w2,Bz (w.alloc (Obj.cells (tA k v nm g p1 n1 q1 p2 n2 q2 a len c) 27)) w2→_):=fun(w2:Wo) (hb:Bz (w.alloc (Obj.cells (tA k v nm g p1 n1 q1 p2 n2 q2 a len c) 27)) w2)=>dZ ((hb.block w.heap.size (by rw [eX];omega)).trans hq)
 clear hq;obtain⟨R,hR⟩:∃r,uS bi k nm len=r:=⟨_,rfl⟩;obtain⟨X,hX⟩:∃r,bi nm len=r:=⟨_,rfl⟩;have RA:Aside ((!(k==3&&vK nm.toList)&&(k==1|| !X))=R):=by show _=_;rw [←hR,←hX];rfl
 rw [hR];rw [hX] at d1;have a0:=aside b0;clear hR hX hb b0 hz
 by_cases h3:k=3
 ·subst h3;rcases RQ nm.toList with h1|⟨h1,h2⟩|⟨h1,h2,h3⟩|⟨h1,h2,h3,h4⟩|⟨h1,h2,h3,h4⟩
  iterate 4
   ·
    obtain rfl:R=false:=by
      have:=RA.o;simp only [vK] at this
      simp_all
    go_enter Tryz.func45,Tryz.ntmps45;go_wp2
    go_ret
    exact⟨rfl,a0.o⟩
  obtain rfl:R= !X:=by
    have:=RA.o;rw [vK,h1,h2,h3,h4] at this;simpa using this.symm
  cases X
  iterate 2
   ·
    go_enter Tryz.func45,Tryz.ntmps45
    go_wp2_with (go_at_call 79;(with_reducible refine d1.mono ?_);rintro e w2 ⟨rfl,hb2⟩;obtain⟨y0,y1,y2,y3,y4,y5,y6⟩:=fa.o w2 hb2)
    go_ret
    exact⟨rfl,a0.o.trans (hb2.mono a0.o.size)⟩
 ·have e3:(k==3)=false:=by simpa using h3
  by_cases h1:k=1
  · subst h1;obtain rfl:R=true:=RA.o.symm.trans (by simp);go_enter Tryz.func45,Tryz.ntmps45;cases X
    iterate 2
     ·
      go_wp2_with (go_at_call 79;(with_reducible refine d1.mono ?_);rintro e w2 ⟨rfl,hb2⟩;obtain⟨y0,y1,y2,y3,y4,y5,y6⟩:=fa.o w2 hb2)
      go_ret
      exact⟨by simp_all,a0.o.trans (hb2.mono a0.o.size)⟩
  · have e1:(k==1)=false:=by simpa using h1
    obtain rfl:R= !X:=by
      have:=RA.o;rw [e3,e1] at this;simpa using this.symm
    cases X
    iterate 2
     ·
      go_enter Tryz.func45,Tryz.ntmps45
      go_wp2_with (go_at_call 79;(with_reducible refine d1.mono ?_);rintro e w2 ⟨rfl,hb2⟩;obtain⟨y0,y1,y2,y3,y4,y5,y6⟩:=fa.o w2 hb2)
      go_ret
      exact⟨by simp_all,a0.o.trans (hb2.mono a0.o.size)⟩
def Gm (bi:ByteArray→Int→Bool) (k v:Int) (nm:ByteArray) (g:Bool) (p1 p2 a:Option Addr) (n1 q1 n2 q2 len c:Nat) (w:Wo) (hb:BiOk 80 bi w) (hz:nm.size≤1048576):
  Cz 49 #[.agg (tA k v nm g p1 n1 q1 p2 n2 q2 a len c)] w fun e w'=>e= .returned (.bool (uS bi k nm len))∧Bz w w':=by
 have b0:=aC w (Obj.cells (tA k v nm g p1 n1 q1 p2 n2 q2 a len c) 27);have d1:=hb (w.alloc (Obj.cells (tA k v nm g p1 n1 q1 p2 n2 q2 a len c) 27)) nm len b0 hz;obtain⟨R,hR⟩:∃r,uS bi k nm len=r:=⟨_,rfl⟩;obtain⟨X,hX⟩:∃r,bi nm len=r:=⟨_,rfl⟩;have RA:Aside ((!(k==3&&vK nm.toList)&&(k==1|| !X))=R):=by show _=_;rw [←hR,←hX];rfl
 rw [hR];rw [hX] at d1;have a0:=aside b0;clear hR hX hb b0 hz
 by_cases h3:k=3
 ·subst h3;rcases RQ nm.toList with h1|⟨h1,h2⟩|⟨h1,h2,h3⟩|⟨h1,h2,h3,h4⟩|⟨h1,h2,h3,h4⟩
  iterate 4
   ·
    obtain rfl:R=false:=by
      have:=RA.o;simp only [vK] at this
      simp_all
    go_enter Tryz.func49,Tryz.ntmps49;go_wp2
    go_ret
    exact⟨rfl,a0.o⟩
  obtain rfl:R= !X:=by
    have:=RA.o;rw [vK,h1,h2,h3,h4] at this;simpa using this.symm
  cases X
  iterate 2
   ·
    go_enter Tryz.func49,Tryz.ntmps49
    go_wp2_with (go_at_call 80;(with_reducible refine d1.mono ?_);rintro e w2 ⟨rfl,hb2⟩)
    go_ret
    exact⟨rfl,a0.o.trans (hb2.mono a0.o.size)⟩
 ·have e3:(k==3)=false:=by simpa using h3
  by_cases h1:k=1
  · subst h1;obtain rfl:R=true:=RA.o.symm.trans (by simp);go_enter Tryz.func49,Tryz.ntmps49;go_wp2
    go_ret
    exact⟨rfl,a0.o⟩
  · have e1:(k==1)=false:=by simpa using h1
    obtain rfl:R= !X:=by
      have:=RA.o;rw [e3,e1] at this;simpa using this.symm
    cases X
    iterate 2
     ·
      go_enter Tryz.func49,Tryz.ntmps49
      go_wp2_with (go_at_call 80;(with_reducible refine d1.mono ?_);rintro e w2 ⟨rfl,hb2⟩)
      go_ret
      exact⟨by simp_all,a0.o.trans (hb2.mono a0.o.size)⟩
end
variable {L:List Tm} {T:Tm}
section
attribute [local go_sem] Heavy.uponW
mutual
theorem TmV.toS {n:Nat} {w:Wo}:∀(T:Tm) (vs:Lv),TmV n w T vs→TmS (fun b=>b<n) w T vs
 | .mk k v nm g num den args,vs,h=>by
  simp only [TmV] at h;simp only [TmS];obtain⟨_,_,a,c,e,⟨⟨a1,c1,e1,h1⟩,⟨a2,c2,e2,h2⟩⟩,h3,h4⟩:=h;subst e1;subst e2;exact⟨a1,c1,a2,c2,a,c,e,h1,h2,eV.toS args a 0 h3,h4⟩
theorem eV.toS {n:Nat} {w:Wo}:∀(L:List Tm) (a:Option Addr) (i:Nat),eV n w L a i→eW (fun b=>b<n) w L a i
 | [],_,_,_=>by simp only [eW]
 |T::r,a,i,h=>by
  simp only [eV] at h;simp only [eW];obtain⟨⟨b,off,vs,e,hb,hc,hv⟩,hr⟩:=h;exact⟨⟨b,off,vs,e,hb,hc,TmV.toS T vs hv⟩,eV.toS r a (i+1) hr⟩
end
def dN (S:Nat→Prop) (base:Nat) (w:Wo) (v:Value) (L:List Tm):Prop:=
 ∃X,w.ownsRow base 27 7 v L.length X∧∀(k:Nat) T,L[k]?=some T→∃vs,vs.length=7∧(∀(m:Nat) u,vs[m]?=some u→X[k*7+m]?=some u)∧TmS S w T vs
def dN.keep {w':Wo} (h:dN S base w v L) (hk:eB S w w') (hb:∀g,v.ownBlock=some g→w'.heap[g]?=w.heap[g]?):dN S base w' v L:=by
 obtain⟨X,h1,h2⟩:=h;refine⟨X,tV h1 hb,fun k T hT=>?_⟩;obtain⟨vs,e,h3,h4⟩:=h2 k T hT;exact⟨vs,e,h3,TmS.keep hk _ _ h4⟩
def dN.mono (h:dN S base w v L) (hS:∀b,S b→S' b):dN S' base w v L:=by
 obtain⟨X,h1,h2⟩:=h;refine⟨X,h1,fun k T hT=>?_⟩;obtain⟨vs,e,h3,h4⟩:=h2 k T hT;exact⟨vs,e,h3,TmS.mono hS _ _ h4⟩
def dN.lt (h:dN S base w v L):∀g,v.ownBlock=some g→base≤g∧g<w.heap.size:=by
 obtain⟨X,h1,_⟩:=h;exact fun k hk=>lX h1 k hk
def dN.ofOut (h:OutT n base w v L):dN (fun b=>b<n) base w v L:=by
 obtain⟨X,h1,h2⟩:=h;refine⟨X,h1,fun k T hT=>?_⟩;obtain⟨vs,hv,hx⟩:=h2.get hT;exact⟨vs,hv.len,hx,TmV.toS _ _ hv⟩
def dN.form (h:dN S base w v L):∃a c,v= .slice a L.length c:=by
 obtain⟨X,h1,_⟩:=h;obtain⟨a,c,e,_⟩:=gZ h1;exact⟨a,c,e⟩
def dN.at (h:dN S base w v L) (hT:L[i]?=some T):
  ∃g c C vs,v= .slice (some ⟨g,0,none⟩) L.length c∧base≤g∧g<w.heap.size∧w.heap[g]?=some (.cells C 27 (0,0))∧i*7+7≤C.size∧TmS S w T vs∧∀(m:Nat) u,vs[m]?=some u→w.cell? ⟨g,i*7+m,none⟩=some u:=by
 obtain⟨X,h1,h2⟩:=h;obtain⟨vs,e,h3,h4⟩:=h2 i T hT;have h0:=h1;have hi:=(aZ.1 hT).1;obtain⟨hl,⟨rfl,hz⟩|⟨g,cap,cur,rfl,hb,hg,hnc,hm,hs,ht⟩⟩:=h1
 ·omega
 ·refine⟨g,cap,cur,vs,rfl,hb,(cV.1 hg).1,hg,?_,h4,fun m u hm=>?_⟩
  ·rw [hs];have:(i+1)*7≤cap*7:=fP 7 (by omega);omega
  ·have:=h0.cells (g:=g) rfl _ u (h3 m u hm);rw [qH,dH] at this;exact this
def dN.put {w4:Wo} {C C':Array Value} {us:Lv} (h:dN S base w (.slice (some ⟨g,0,none⟩) L.length c) L) (hT:L[i]?=some T)
  (hC:w.heap[g]?=some (.cells C 27 (0,0))) (a3:w4.heap[g]?=some (.cells C' 27 (0,0))) (hz:C'.size=C.size) (ho:∀j,j<i*7∨i*7+7≤j→C'[j]?=C[j]?) (hi:∀(m:Nat) u,us[m]?=some u→C'[i*7+m]?=some u)
  (a9:us.length=7) (hk:eB S w w4) (hS:∀b,S b→S' b) (ht:TmS S' w4 T us):dN S' base w4 (.slice (some ⟨g,0,none⟩) L.length c) L:=by
 obtain⟨X,h1,h2⟩:=h;have b1:=(aZ.1 hT).1;obtain⟨hl,⟨e,_⟩|⟨g',cap,cur,e,hb,hg,hnc,hm,hs,hX⟩⟩:=h1
 ·exact absurd e (by simp)
 ·injection e with e1 _ e2
  injection e1 with e1
  injection e1 with e1 _
  subst e1;subst e2;rw [hC] at hg;injection hg with hg
  injection hg with hg _
  subst hg;have a4:∀k,k<L.length→(k+1)*7≤L.length*7:=fun k hk=>fP 7 hk
  have b0:L.length*7≤C.size:=by rw [hs];exact fP 7 hnc
  have a8:C'.toList.length=C.size:=by rw [eZ,hz]
  refine⟨C'.toList.take (L.length*7),⟨by rw [bT,a8];omega,.inr ⟨g,c,C',rfl,hb,a3,hnc,hm,by rw [hz,hs],rfl⟩⟩,fun k T' a0=>?_⟩;have a6:=(aZ.1 a0).1;have h7:=a4 k a6
  by_cases a5:k=i
  ·subst a5;rw [hT] at a0;injection a0 with a0
   subst a0;refine⟨us,a9,fun m u hm=>?_,ht⟩;have a7:=(aZ.1 hm).1;rw [jN (by omega),kE];exact hi m u hm
  ·obtain⟨vs,e,h3,h4⟩:=h2 k T' a0;refine⟨vs,e,fun m u hm=>?_,TmS.mono hS _ _ (TmS.keep hk _ _ h4)⟩;have a7:=(aZ.1 hm).1;have h5:=h3 m u hm;rw [←hX,jN (by omega),kE] at h5;rw [jN (by omega),kE,ho _ (by omega)];exact h5
end
section
attribute [local go_sem] Heavy.uponW
def Hh (T:Tm) (n:Nat) (w:Wo) (vs:Lv) (h:TmV n w T vs) (hn:n≤w.heap.size) (hN:T.nodes≤1000000):
  Cz 44 #[.agg vs.toArray] w fun e w'=>∃v,e= .returned v∧dN (fun b=>(b<n∨w.heap.size≤b)∧v.ownBlock≠some b∧b<w'.heap.size) w.heap.size w' v T.gls∧Bz w w':=by
 obtain⟨k,v,nm,g,p1,n1,q1,p2,n2,q2,a,len,c,rfl⟩:=TmV.seven h;obtain⟨wb,hwb,b0,hq,_⟩:=ebx w (Obj.cells (tA k v nm g p1 n1 q1 p2 n2 q2 a len c) 27);have a1:=aside b0;have b4:Aside (n≤w.heap.size∧n≤wb.heap.size):=⟨hn,aE hn b0.size⟩;have a8:n≤wb.heap.size:=aE hn b0.size;have d1:Cz 78 #[.agg (tA k v nm g p1 n1 q1 p2 n2 q2 a len c),.slice none 0 0] wb (GlsP n wb.heap.size wb (.slice none 0 0) ([]++T.gls)):=
  KO T n wb.heap.size wb _ (.slice none 0 0) [] (TmV.below b0 hn _ _ h) a8 (aA _) (OutT.nil _ _ _) (by simpa using hN)
 rw [lG] at d1;obtain⟨x0,x1,x2,x3,x4,x5,x6⟩:=dZ hq;obtain⟨R,hR⟩:=enm T.gls;have b2:R.length≤1000000:=by rw [←hR];exact aE (uJ T) hN
 rw [hR] at d1 ⊢;obtain⟨lr,hlr⟩:∃l,R.length=l:=⟨_,rfl⟩;have Rl:=aside hlr;have b9:lr≤1000000:=by omega
 clear h hR b0 hq hN hlr b2;go_enter Tryz.func44,Tryz.ntmps44
 go_upto_region 1 with fail
 clear hwb
 go_upto_region 2 with(go_at_call 78;(with_reducible refine d1.mono ?_);rintro e w2 ⟨v2,rfl,hO2,hK2,_⟩)
 have a6:Aside (Bz w w2∧wb.heap.size≤w2.heap.size):=⟨a1.o.trans (hK2.below a1.o.size (fun k hk=>by simp [Value.ownBlock] at hk)),hK2.size⟩;have r2:=dN.ofOut hO2;obtain⟨a2,c2,rfl⟩:=r2.form;have a9:Aside (dN (fun b=>(b<n∨w.heap.size≤b)∧(Value.slice a2 R.length c2).ownBlock≠some b∧b<w2.heap.size) w.heap.size w2 (.slice a2 R.length c2) R):=by
  show dN _ _ _ _ _;obtain⟨X,h1,h2⟩:=r2.mono (S':=fun b=>(b<n∨w.heap.size≤b)∧(Value.slice a2 R.length c2).ownBlock≠some b∧b<w2.heap.size) fun b hb=>⟨.inl hb,fun e=>by have:=(r2.lt b e).1;have:=b4.o;omega,by have:=a6.o.2;omega⟩
  exact⟨X,nW h1 a1.o.size,h2⟩
 rw [Rl.o] at a9 ⊢;clear hO2 hK2 d1 x0 x1 x2 x3 x4 x5 x6 a8 r2
 go_upto_region 3 with fail
 go_loopw [9] (fun s wr=>∃i:Nat,s= .int .i64 i∧i≤lr∧Bz w wr∧dN (fun b=>(b<n∨w.heap.size≤b)∧(Value.slice a2 lr c2).ownBlock≠some b∧b<wr.heap.size) w.heap.size wr (.slice a2 lr c2) R) (fun s _=>lr-(RowKit.intOf s).toNat)
 case atStart=>exact⟨0,rfl,cJ _,a6.o.1,a9.o⟩
 case round=>
  obtain⟨wo,rfl⟩:=enr wr;obtain⟨i,rfl,hi,hB,hrow⟩:=hrel
  by_cases b3:i<lr
  case neg=>
   obtain rfl:i=lr:=by omega
   have R5:Aside _:=hrow;have b5:Aside _:=hB;clear hrow hB;go_wp2
   go_ret
   exact⟨_,rfl,R5.o,b5.o⟩
  obtain⟨T',hT'⟩:=egf Rl.o b3;have b7:=aside hrow;obtain⟨G,c',C,vs,e,hbG,hGw,hC,hC7,hv,hc⟩:=hrow.at hT';injection e with e1 e3 e2
  subst e1;clear e3 e2;have a5:TmV wo.heap.size wo T' vs:=TmS.toV (fun b hb=>hb.2.2) _ _ hv;obtain⟨k',v',nm',g',r1,m1',u1,r2,m2',u2,a',l',c',rfl⟩:=TmV.seven a5;have x0:=hc 0 _ rfl;have x1:=hc 1 _ rfl;have x2:=hc 2 _ rfl;have x3:=hc 3 _ rfl;have x4:=hc 4 _ rfl;have x5:=hc 5 _ rfl;have x6:=hc 6 _ rfl;rw [gQ] at x0;obtain⟨b8,hi3,hw3⟩:=elt (i:=i) (n:=lr) (by omega) (by omega);have d2:=LY T' wo.heap.size wo _ a5 (aA _);replace d2:Cz 19 #[.agg (tA k' v' nm' g' r1 m1' u1 r2 m2' u2 a' l' c')] _ _:=d2;have CA:=aside4 hC hC7 hbG hGw;have a4:=aside hB;have d3:=d2.mono (R':=fun e w'=>∃k3 v3 a0 g3 p3 n3 q3 r3 m3 u3 a3 l3 c3 z0 z1 z2 z3 z4 z5 z6,e= .returned (.agg (tA k3 v3 a0 g3 p3 n3 q3 r3 m3 u3 a3 l3 c3))∧Aside (TmS (jM wo.heap.size w'.heap.size) w' T' [.int .i64 k3,.int .i64 v3,.string a0,.bool g3,.slice p3 n3 q3,.slice r3 m3 u3,.slice a3 l3 c3])∧Aside (Bz wo w')∧w'.heap[G]?=some (.cells C 27 (0,0))∧
    (w'.cell? ⟨G,i*7,none⟩=some z0∧w'.cell? ⟨G,i*7+1,none⟩=some z1∧w'.cell? ⟨G,i*7+2,none⟩=some z2∧w'.cell? ⟨G,i*7+3,none⟩=some z3∧w'.cell? ⟨G,i*7+4,none⟩=some z4∧w'.cell? ⟨G,i*7+5,none⟩=some z5∧w'.cell? ⟨G,i*7+6,none⟩=some z6)) (fun e w' ⟨us,e1,ht,hb⟩=>by
   obtain⟨k3,v3,a0,g3,p3,n3,q3,r3,m3,u3,a3,l3,c3,rfl⟩:=TmV.seven (TmS.toV (n:=w'.heap.size) (fun b hb=>hb.2) _ _ ht);have a7:w'.heap[G]?=some (.cells C 27 (0,0)):=(hb.block G CA.o.2.2.2).trans CA.o.1;have at_:∀m,m<7→∃r,w'.cell? ⟨G,i*7+m,none⟩=some r:=fun m hm=>⟨C[i*7+m]'(by have:=CA.o.2.1;omega),by simp [World.cell?,a7,show i*7+m<C.size by have:=CA.o.2.1;omega]⟩
   obtain⟨z0,e0⟩:=at_ 0 (by omega)
   obtain⟨z1,e1'⟩:=at_ 1 (by omega)
   obtain⟨z2,e2'⟩:=at_ 2 (by omega)
   obtain⟨z3,e3⟩:=at_ 3 (by omega)
   obtain⟨z4,e4⟩:=at_ 4 (by omega)
   obtain⟨z5,e5⟩:=at_ 5 (by omega)
   obtain⟨z6,e6⟩:=at_ 6 (by omega)
   exact⟨_,_,_,_,_,_,_,_,_,_,_,_,_,z0,z1,z2,z3,z4,z5,z6,e1,ht,hb,a7,e0,e1',e2',e3,e4,e5,e6⟩)
  have TA:=aside hT';clear hT' hrow hC hC7 hbG hGw hv hc a5 d2 hB
  go_wp2_with (go_at_call 19;with_reducible refine d3.mono ?_;rintro e w3 ⟨k3,v3,a0,g3,p3,n3,q3,r3,m3,u3,a3,l3,c3,z0,z1,z2,z3,z4,z5,z6,rfl,hts,hb3,hL3,f0,f1,f2,f3,f4,f5,f6⟩;have zz:=qW hL3)
  obtain⟨C',g1,g2,g3,g4,g5,g6⟩:=CY (o:=i*7) (v0:=.int .i64 k3) (v1:=.int .i64 v3) (v2:=.string a0) (v3:=.bool g3) (v4:=.slice p3 n3 q3) (v5:=.slice r3 m3 u3) (v6:=.slice a3 l3 c3) hL3 CA.o.2.1;go_roundw
  case rel=>
   refine⟨i+1,by simp,by omega,a4.o.trans ((hb3.o.mono a4.o.size).trans (g6.mono CA.o.2.2.1)),?_⟩;have b6:=b7.o.keep (w':=w3) (eB.of_below hb3.o fun b hb=>hb.2.2) fun G' b1=>by
    have:G=G':=by simpa [Value.ownBlock] using b1
    subst this;exact hL3.trans CA.o.1.symm
   have hs:=g6.size;have c0:=hb3.o.size;have e0:=Rl.o;subst e0;refine b6.put TA.o hL3 g1 g2 g3 g4 rfl (fun b hb=>g5 b fun e=>hb.2.1 (by rw [e];rfl)) (fun b hb=>⟨hb.1,hb.2.1,by have:=hb.2.2;omega⟩) ?_;refine TmS.mono (fun b hb=>⟨.inr (aE a4.o.size hb.1),fun e=>?_,eE hb.2 hs⟩) _ _ (TmS.keep (fun b hb=>g5 b fun e=>?_) _ _ hts.o)
   ·subst e;have:=hb.1;have:=CA.o.2.2.2;omega
   ·have:G=b:=by simpa [Value.ownBlock] using e
    have:=hb.1;have:=CA.o.2.2.2;omega
  case measure=>simp [RowKit.intOf];omega
end
