/- Lemmas; no condition. -/
import Derived.Test.YtealgacfnbbgdaaGreatDoorAk
import Derived.Lib.ConvBytes
import Derived.Laws.BytesString
import Derived.Defers
import Derived.Recover
import Derived.Maps.RangeRun
import Derived.Lib.Bytealg
import Derived.Laws.AppendOwn
set_option linter.all false
namespace Go.Ev
noncomputable section
variable {ops:List Oper} {n i s lf g sz T j:Nat} {a:Act} {e e':Env} {h h' h0:H} {bef l tl rest:List Nat} {o:Oper} {call:dQ} {t el:TypeId} {f:FuncId} {p:Nat × Oper→Bool} {v z:V} {u:Value} {fn:Func} {r:Result Next} {d:Option Nat} {m m' m0 mp m1:Mp} {w' w w0:Wo} {c args xs zc:List V} {x y ms nw:List Id} {b k:Id}
section
variable {P:Program} {m:Mp} {w:Wo}
def Hx (k:HR m h w) {b f:Id} {sz o ty:Nat} {els els':List (List V)} {xs:List V} {xs':Lv} {l:Loc} {C:Array Value} {t:TypeId} {fz:Nat × Nat}
  (hb:aB b h.mem=some (.cells sz els f (.rw ty))) (hl:m b=some l) (hc:CellsAt m w l sz els (.rw ty) C t fz) (hx:Rl m xs xs') (hs:∀x∈xs',fI x)
  (b3:o+xs.length≤els.flatten.length) (a5:els'.flatten=els.flatten.take o++xs++els.flatten.drop (o+xs.length)) (a2:∀e∈els',e.length=sz):
  ∃w',(storeCells ⟨l.blk,l.base+o,none⟩ xs').run P w= .ok () w'∧Fr m h w m (fR (iS h f b) b (.cells sz els' f (.rw ty))) w':=by
 have a4:=hc.room;have a7:=hc.len;have a9:=hx.length;have a8:=DB (P:=P) (b:=l.blk) (off:=l.base+o) (t:=t) (fz:=fz) xs' 0 C w hc.at_ (by omega) hs (fun j hj=>by
  have:=hc.free rfl (o+j) (by omega);rw [show l.base+(o+j)=l.base+o+0+j by omega] at this;exact this)
 refine⟨_,a8,Fr.updCells k hb hl rfl ?_⟩;intro b2;refine⟨_,t,fz,⟨b2,?_,?_,?_,?_,hc.free,hc.plain,hc.typ,hc.al⟩⟩
 ·have:(⟨C.toList.take (l.base+o+0)++xs'++C.toList.drop (l.base+o+0+xs'.length)⟩:Array Value).size=C.size:=by
   show(C.toList.take (l.base+o+0)++xs'++C.toList.drop (l.base+o+0+xs'.length)).length=C.size;simp only [aV,bT,fD,eZ];omega
  rw [this];exact a4
 ·rw [a5];simp only [aV,bT,fD,eZ];omega
 ·exact a2
 ·intro i x a0;rw [a5] at a0;have b1:∀j:Nat,(⟨C.toList.take (l.base+o+0)++xs'++C.toList.drop (l.base+o+0+xs'.length)⟩:Array Value)[j]?=
    (C.toList.take (l.base+o)++xs'++C.toList.drop (l.base+o+xs'.length))[j]?:=by intro j;simp
  rw [b1]
  by_cases c1:i<o
  ·rw [iP,gM (by simp only [aV,bT,fD,eZ];omega),jN c1] at a0;obtain⟨u,h1,h2,h3⟩:=hc.val i x a0;refine⟨u,?_,h2,h3⟩;rw [iP,gM (by simp only [aV,bT,fD,eZ];omega),jN (by omega)];simpa using h1
  ·by_cases c2:i<o+xs.length
   ·rw [iP,iE (by simp only [aV,bT,fD,eZ];omega),gM (by simp only [aV,bT,fD,eZ];omega)] at a0;have e1:i-(els.flatten.take o).length=i-o:=by simp only [aV,bT,fD,eZ];omega
    rw [e1] at a0;obtain⟨u,h1,h2⟩:=hx.get a0;refine⟨u,?_,h2,hs u (bV h1)⟩;rw [iP,iE (by simp only [aV,bT,fD,eZ];omega),gM (by simp only [aV,bT,fD,eZ];omega),←h1];congr 1;simp only [aV,bT,fD,eZ];omega
   ·rw [iE (by simp only [aV,bT,fD,eZ];omega),mC] at a0;have e1:o+xs.length+(i-(els.flatten.take o++xs).length)=i:=by simp only [aV,bT,fD,eZ];omega
    rw [e1] at a0;obtain⟨u,h1,h2,h3⟩:=hc.val i x a0;refine⟨u,?_,h2,h3⟩;rw [iE (by simp only [aV,bT,fD,eZ];omega),mC];have e2:l.base+o+xs'.length+(l.base+i-(C.toList.take (l.base+o)++xs').length)=l.base+i:=by simp only [aV,bT,fD,eZ];omega
    rw [e2];simpa using h1
def RY (k:HR m h w) {b f:Id} {sz q ty:Nat} {els els' xs:List (List V)} {us:Lv} {l:Loc} (hb:aB b h.mem=some (.cells sz els f (.rw ty))) (hl:m b=some l)
  (hx:Rl m xs.flatten us) (hs:∀x∈us,fI x) (he:∀e∈xs,e.length=sz) (ho:jY q els xs=some els'):
  ∃w',(storeCells ⟨l.blk,l.base+q*sz,none⟩ us).run P w= .ok () w'∧Fr m h w m (fR (iS h f b) b (.cells sz els' f (.rw ty))) w':=by
 obtain⟨l2,hl2,C,t,fz,hc⟩:=k.obj _ _ hb;rw [hl] at hl2;cases hl2;obtain⟨h1,rfl⟩:=xE _ _ _ ho;have c4:=pF hc.each;have a9:=pF he;have b5:(q+xs.length)*sz≤els.length*sz:=fP _ h1;rw [eO] at b5;refine Hx k hb hl hc hx hs (by omega) ?_ ?_
 ·rw [Rt,Rt,AS _ _ hc.each,AT _ _ hc.each,a9,eO]
 ·intro e h;rcases eY.1 h with h|h
  ·rcases eY.1 h with h|h
   ·exact hc.each e (lH h)
   ·exact he e h
  ·exact hc.each e (CI h)
def Nt (k:HR m h w) {sz:Nat} {x y v:V} {ux uy:Value} {src:List (List V)} {ts:Array TypeId} {t ty el:TypeId} {b0:TypeInfo} (h0:ts[0]?=some t) (hu:P.underlying t=some (.slice el))
  (hi:P.info? el=some b0) (a6:b0.size=sz+1) (hx:R m x ux) (hy:R m y uy) (he:rC h (sz+1) y=some src) (ha:FH h (sz+1) x (some src)= .ok v h'):
  ∃u w' m',(Builtin.copy_ ts ty #[ux,uy]).run P w= .ok u w'∧Fr m h w m' h' w'∧R m' v u:=by
 obtain⟨us,g1,g2,g3,g4,g5,g6⟩:=LN (P:=P) k hy he;have a1:∀base len cap,(Builtin.copy_ ts ty #[.slice base len cap,uy]).run P w=match (match base with|some a=>(storeCells a (us.take (min src.length len*(sz+1)))).run P w|none=>.ok () w:Result Unit) with
   | .ok _ w'=>.ok (.int .i64 ((min src.length len:Nat):Int)) w'
   | .halt h w'=>.halt h w':=by
  intro base len cap;have hf:=g6 (min src.length len) (Nat.min_le_left _ _);have b4:(Builtin.firstCells (sz+1) (src.length.min len) uy).run P w= .ok ⟨us.take (min src.length len*(sz+1))⟩ w:=hf;unfold Builtin.copy_;cases base<;>simp [h0,iN hu,sizeOf,typeInfo,hi,g5,a6,b4,goInt];cases (storeCells _ _).run P w<;>rfl
 unfold FH at ha;simp only at ha;split at ha
 ·rename_i c0 b o len z e0;cases e0;split at ha
  ·rename_i c3 els f c5 hb;cases hcd:(Nat.beq c3 (sz+1)&&(Nat.beq z (sz+1)&&Nat.beq (Nat.mod o (sz+1)) 0)) with
   |false=>rw [hcd] at ha;cases ha
   |true=>
   rw [hcd] at ha;simp only [dG] at ha;simp only [aR] at hcd;have e1:=bG hcd.1;subst e1;have e2:=bG hcd.2.1;subst e2;have e3:o%(sz+1)=0:=bG hcd.2.2;have hq:o/(sz+1)*(sz+1)=o:=by have:=lZ o (sz+1);rw [dM,e3] at this;simpa using this
   simp only [R] at hx;obtain⟨l,cap,hl,rfl,hlc,a7⟩:=hx;split at ha
   ·rename_i xs b9;obtain⟨t1,t2⟩:=wW _ _ _ b9;rw [uE] at t1 t2;split at ha
    ·rename_i els' b6;cases ha;have a3:min len src.length=min src.length len:=Nat.min_comm _ _;have b8:Rl m xs.flatten (us.take (min src.length len*(sz+1))):=by
      rw [t2,AS _ _ g1,a3];exact g3.take _
     obtain⟨w',r1,r2⟩:=RY (P:=P) (q:=o/(sz+1)) k hb hl b8 (fun x hx=>g4 x (lH hx)) (fun e he=>g1 e (lH (t2▸he))) b6;rw [hq] at r1;refine⟨.int .i64 ((min src.length len:Nat):Int),w',m,?_,r2,?_⟩
     ·rw [a1];simp only [r1]
     ·rw [uE,a3];simp only [R];rfl
    ·cases ha
   ·cases ha
  ·cases ha
 ·rename_i e0;cases e0;cases ha;simp only [R] at hx;subst hx;refine⟨_,w,m,a1 none 0 0,Fr.refl k,by simp [R]⟩
 ·rename_i e0;cases e0;cases ha;simp only [R] at hx;obtain⟨a,cap,rfl⟩:=hx;refine⟨.int .i64 0,w,m,?_,Fr.refl k,by simp only [R]⟩;rw [a1];simp [storeCells]
 ·cases ha
def SZ (k:HR m h w) {t:TypeId} {x:Option Value} {v:V} (hx:x=none∨(∃kt et kk n,P.underlying t=some (.map kt et)∧x=some (.int kk n))) (hn:qT h (fun _=>.map [] 0) (fun i=>.mp i)= .ok v h'):
  ∃u w' m',(Instr.makeMap t x).run P w= .ok u w'∧Fr m h w m' h' w'∧R m' v u:=by
 obtain⟨nx,hnx,rfl,rfl⟩:=DS hn;refine⟨.map (some w.heap.size),_,_,?_,Fr.new k hnx (.map #[] 0) (.map [] 0) ⟨w.heap.size,0,0⟩ rfl (fun _ _ _ _ e=>by cases e) trivial ?_,?_⟩
 ·rcases hx with rfl|⟨kt,et,kk,n,hu,rfl⟩
  ·simp [Instr.makeMap]
  ·simp [Instr.makeMap,iN hu,asInt,asIntOf]
 ·intro m' hm w' b7;exact⟨[],b7,by simp [cR]⟩
 ·simp [R]
end
section
variable {P:Program} {m:Mp} {w:Wo}
def Gt (k:HR m h w) {t:TypeId} {l c:Nat} {x v:V} {u:Value} (hu:P.underlying t=some .string) (hx:R m (.s l c) u) (hn:qT h (fun _=>.siter l c 0) (fun i=>.p i 0)= .ok v h'):
  ∃u' w' m',(Instr.range t u).run P w= .ok u' w'∧Fr m h w m' h' w'∧R m' v u':=by
 obtain⟨nx,hnx,rfl,rfl⟩:=DS hn;rw [iI] at hx;obtain⟨s,rfl,hb,hc⟩:=hx;refine⟨.pointer (some ⟨w.heap.size,0,none⟩),_,_,?_,Fr.new k hnx (.stringIter s 0) (.siter l c 0) ⟨w.heap.size,0,0⟩ rfl (fun _ _ _ _ e=>by cases e) trivial ?_,?_⟩
 ·simp [Instr.range,iN hu]
 ·intro m' hm w' b4;exact⟨rfl,s,b4,hb,hc⟩
 ·simp [R]
def Gu (k:HR m h w) {t kt et:TypeId} {b:Id} {l:Loc} {es:List Ent} {a0:Nat} {v:V} (hu:P.underlying t=some (.map kt et)) (hl:m b=some l) (he:kH h b=some (es,a0))
  (hn:qT h (fun _=>.miter b a0 [] a0) (fun i=>.p i 0)= .ok v h'):
  ∃u' w' m',(Instr.range t (.map (some l.blk))).run P w= .ok u' w'∧Fr m h w m' h' w'∧R m' v u':=by
 obtain⟨nx,hnx,rfl,rfl⟩:=DS hn;obtain⟨l2,es',hb,hl2,a5,hes⟩:=sP k he;rw [hl] at hl2;cases hl2;have hg:(getObj l.blk).run P w= .ok (.map ⟨es'⟩ a0) w:=zG a5 (fun _ _ _ e=>by cases e);refine⟨.pointer (some ⟨w.heap.size,0,none⟩),_,_,?_,Fr.new k hnx (.mapIter (some l.blk) a0 #[] a0) (.miter b a0 [] a0) ⟨w.heap.size,0,0⟩ rfl (fun _ _ _ _ e=>by cases e) trivial ?_,?_⟩
 ·simp [Instr.range,iN hu,hg]
 ·intro m' hm w' b4;exact⟨rfl,l,hm _ _ hl,b4⟩
 ·simp [R]
def Ir (k:HR m h w) {ty:TypeId} {b:Id} {l:Loc} {v:V} (hl:m b=some l) (hn:JP h b= .ok v h'):
  ∃u' w' m',(Instr.next (.pointer (some ⟨l.blk,l.base+0,none⟩)) true ty).run P w= .ok u' w'∧Fr m h w m' h' w'∧R m' v u':=by
 unfold JP at hn;split at hn
 ·rename_i n c pos hb;obtain⟨l1,hl1,h0,s,hit,hs,hc⟩:=k.obj _ _ hb;rw [hl] at hl1;cases hl1;have hg:(getObj l.blk).run P w= .ok (.stringIter s pos) w:=zG hit (fun _ _ _ e=>by cases e);have c3:=tJ hs;rw [h0];cases h1:Nat.ble (Nat.succ pos) n with
  | false=>
   rw [h1] at hn;simp only [mO] at hn;cases hn;have b3:¬(pos<s.size):=by
    intro hh;have:Nat.ble (Nat.succ pos) n=true:=Qv (by omega);rw [h1] at this;cases this
   exact⟨.tuple #[.bool false],w,m,by simp [Instr.next,hg,b3],Fr.refl k,by simp [R,Rl]⟩
  | true=>
   rw [h1] at hn;simp only [dG] at hn;have b3:pos<n:=cY h1;cases h2:Nat.ble (Nat.succ ((c>>>(8*pos))%256)) 128 with
   |false=>rw [h2] at hn;cases hn
   | true=>
    rw [h2] at hn;simp only [dG] at hn;cases hn;have c2:(c>>>(8*pos))%256<128:=cY h2;obtain⟨bb,hb1,hb2⟩:=UG hs b3;have b1:(s.get! pos).toNat=(c>>>(8*pos))%256:=by
     rw [←hb2];have hlt':pos<s.size:=by omega
     have e1:s[pos]?=some (s[pos]'hlt'):=by simp [hlt']
     rw [e1] at hb1;have e2:s[pos]'hlt'=bb:=by simpa using hb1
     have e3:s.get! pos=s[pos]'hlt':=by
      obtain⟨a⟩:=s;show(a[pos]!)=_;have hh:pos<a.size:=hlt';simp [hh];rfl
     rw [e3,e2]
    have a9:Utf8.decode s pos=((c>>>(8*pos))%256,1):=by
     unfold Utf8.decode;simp only [gQ,b1];rw [if_pos c2]
    have a4:∀o',(setObj l.blk o').run P w= .ok () { w with heap:=w.heap.setIfInBounds l.blk o' }:=fun o'=>sB hit (fun _ _ _ e=>by cases e)
    refine⟨.tuple #[.bool true,.int .i64 (pos:Int),.int .i32 (((c>>>(8*pos))%256:Nat):Int)],_,m,?_,
     Fr.updObj k hb hl (fun _ _ _ _ e=>by cases e) (fun _ _ _ _ e=>by cases e) (o':=.stringIter s (pos+1)) rfl (fun a5=>⟨h0,s,a5,hs,hc⟩),?_⟩
    ·have hlt':pos<s.size:=by omega
     simp [Instr.next,hg,hlt',a9,a4,goInt]
    ·simp [R,Rl]
 ·cases hn
def cR.filter {p:Nat→Bool}:∀{es:List Ent} {xs:List MapEntry},cR m es xs→cR m (es.filter fun e=>p e.born) (xs.filter fun e=>p e.born)
 | [],xs,h=>by simp only [cR] at h;subst h;simp [cR]
 |e::es,xs,h=>by
  obtain⟨x,xs,rfl,hx,hxs⟩:=h;have hb:x.born=e.born:=hx.2.2;simp only [List.filter_cons,hb];split
  ·exact⟨x,_,rfl,hx,cR.filter hxs⟩
  ·exact cR.filter hxs
def cR.all {p:Nat→Bool}:∀{es:List Ent} {xs:List MapEntry},cR m es xs→(xs.all fun e=>p e.born)=(es.all fun e=>p e.born)
 | [],xs,h=>by simp only [cR] at h;subst h;rfl
 |e::es,xs,h=>by
  obtain⟨x,xs,rfl,hx,hxs⟩:=h;have hb:x.born=e.born:=hx.2.2;simp only [rU,hb,cR.all hxs]
def cR.empty:∀{es:List Ent} {xs:List MapEntry},cR m es xs→xs.isEmpty=es.isEmpty
 | [],xs,h=>by simp only [cR] at h;subst h;rfl
 |e::es,xs,h=>by obtain⟨x,xs,rfl,_,_⟩:=h;rfl
def Is (k:HR m h w) {ty:TypeId} {b:Id} {l:Loc} {v:V} (hl:m b=some l) (hn:JQ h b= .ok v h'):
  ∃u' w' m',(Instr.next (.pointer (some ⟨l.blk,l.base+0,none⟩)) false ty).run P w= .ok u' w'∧Fr m h w m' h' w'∧R m' v u':=by
 unfold JQ at hn;split at hn
 ·rename_i mi a2 seen last hb;obtain⟨l1,hl1,h0,lm,hlm,hit⟩:=k.obj _ _ hb;rw [hl] at hl1;cases hl1;have hg:(getObj l.blk).run P w= .ok (.mapIter (some lm.blk) a2 ⟨seen⟩ last) w:=zG hit (fun _ _ _ e=>by cases e);rw [h0];split at hn
  ·rename_i es a0 he;obtain⟨l2,es',hb2,hl2,a5,hes⟩:=sP k he;have b2:lm=l2:=by rw [hlm] at hl2;cases hl2;rfl
   subst b2;have b6:(getObj lm.blk).run P w= .ok (.map ⟨es'⟩ a0) w:=zG a5 (fun _ _ _ e=>by cases e);cases hgone:(!seen.isEmpty&& !es.isEmpty&&es.all (fun e=>Nat.ble last e.born)) with
   |true=>rw [hgone] at hn;cases hn
   |false=>
   rw [hgone] at hn;simp only [mO] at hn;have a3:(!seen.isEmpty&& !es'.isEmpty&&es'.all (fun e=>decide (e.born≥last)))=false:=by
    rw [hes.empty,←hgone];congr 1;have:=hes.all (p:=fun n=>Nat.ble last n);rw [←this];congr 1;funext e;rw [nQ];simp
   have a1:=hes.filter (p:=fun n=>!seen.any (Nat.beq n));have b5:(es'.filter fun e=>!seen.contains e.born)=(es'.filter fun e=>!seen.any (Nat.beq e.born)):=by
    congr 1;funext e;congr 1;rw [nQ];simp
   have b7:OR seen es=es.filter fun e=>!seen.any (Nat.beq e.born):=rfl
   have a4:∀o',(setObj l.blk o').run P w= .ok () { w with heap:=w.heap.setIfInBounds l.blk o' }:=fun o'=>sB hit (fun _ _ _ e=>by cases e)
   split at hn
   ·rename_i a6;cases hn;rw [b7] at a6;rw [a6] at a1;simp only [cR] at a1;rw [←b5] at a1;refine⟨.tuple #[.bool false],w,m,?_,Fr.refl k,by simp [R,Rl]⟩;have hA:((⟨es'⟩:Array MapEntry).filter fun e=>!(⟨seen⟩:Array Nat).contains e.born)=#[]:=by
     apply mT.1;simpa using a1
    unfold Instr.next;have b0:(!(⟨seen⟩:Array Nat).isEmpty&& !(⟨es'⟩:Array MapEntry).isEmpty&&(⟨es'⟩:Array MapEntry).all fun e=>decide (e.born≥last))=false:=by
     rw [←a3];simp
    simp only [hg,b6,cX,Result.andThen,b0,hA,fT,kK];simp [Question.forced]
   ·rename_i e a7;rw [b7] at a7;rw [a7] at a1;obtain⟨x,xs0,hx0,hxe,hxn⟩:=a1;simp only [cR] at hxn;subst hxn;rw [←b5] at hx0;cases hbo:Nat.ble (Nat.succ e.born) a2 with
    |false=>rw [hbo] at hn;cases hn
    | true=>
     rw [hbo] at hn;simp only [dG] at hn;cases hn;have b9:x.born<a2:=by rw [hxe.2.2];exact cY hbo
     refine⟨.tuple #[.bool true,x.key,x.val],_,m,?_,Fr.updObj k hb hl (fun _ _ _ _ e=>by cases e) (fun _ _ _ _ e=>by cases e) (o':=.mapIter (some lm.blk) a2 ⟨seen++ [e.born]⟩ a0) rfl (fun a8=>⟨h0,lm,hlm,a8⟩),?_⟩
     ·have hA:((⟨es'⟩:Array MapEntry).filter fun e=>!(⟨seen⟩:Array Nat).contains e.born)=#[x]:=by
       apply mT.1;simpa using hx0
      unfold Instr.next;have b0:(!(⟨seen⟩:Array Nat).isEmpty&& !(⟨es'⟩:Array MapEntry).isEmpty&&(⟨es'⟩:Array MapEntry).all fun e=>decide (e.born≥last))=false:=by
       rw [←a3];simp
      simp only [hg,b6,cX,Result.andThen,b0,hA,fT,kK];have c0:(#[x].filter fun x=>decide (x.born<a2))=#[x]:=by simp [b9]
      have c1:(#[x].filter fun x=>decide (x.born≥a2))=#[]:=by simp;omega
      have b8:x.born=e.born:=hxe.2.2;simp only [c0,c1];simp [Question.forced,a4,b8]
     ·simp only [R,Rl];exact⟨_,rfl,_,_,rfl,rfl,_,_,rfl,hxe.1,_,_,rfl,hxe.2.1,rfl⟩
   ·cases hn
  ·cases hn
 ·cases hn
end
section
variable {P:Program} {m:Mp} {w:Wo}
def BH (w:Wo) (e:TypeId) (s:ByteArray):Lib.bytesWorld w e s={ w.drew with heap:=w.drew.heap.push (.cells (Lib.bytesCells w e s) e ((Lib.bytesCells w e s).size,(Lib.bytesCells w e s).size+1)) }:=by
 have hh:(Lib.bytesWorld w e s).heap=w.heap.push (.cells (Lib.bytesCells w e s) e ((Lib.bytesCells w e s).size,(Lib.bytesCells w e s).size+1)):=by
  apply wS;intro j;rcases ZZ j w.heap.size with h|h|h
  ·rw [Lib.bytesWorld_at_old _ _ _ _ h,AH _ h]
  ·subst h;rw [Lib.bytesWorld_at_new];simp
  ·rw [Sh (by rw [Lib.bytesWorld_size];omega),Sh (by rw [Array.size_push];omega)]
 have h2:Lib.bytesWorld w e s={ w.drew with heap:=(Lib.bytesWorld w e s).heap }:=rfl;rw [h2,hh];rfl
def Cu (k:HR m h w) {s d el:TypeId} {l c:Nat} {v:V} {u:Value} (hs:P.underlying s=some .string) (hd:P.underlying d=some (.slice el)) (he:P.underlying el=some (.int .u8)) (hx:R m (.s l c) u)
  (hn:oY el h 1 (nJ (bytesOf l c)) (fun i=>.sl i 0 l 1)= .ok v h'):
  ∃u' w' m',(convert s d u).run P w= .ok u' w'∧Fr m h w m' h' w'∧R m' v u':=by
 rw [iI] at hx;obtain⟨b,rfl,hb,hc⟩:=hx;have a7:=tJ hb;have kd:HR m h w.drew:=k.drawn _;rw [←hb] at hn;obtain⟨h1,h2,h3⟩:=FP (m:=m) b.data.toList;have b0:=grownCap_ge w b.size 0 el;have a9:(Lib.bytesCells w el b).size=grownCap w b.size 0 el:=by
  have:b.data.size=b.size:=rfl;simp [Lib.bytesCells];omega
 obtain⟨m',hF,hm,rfl⟩:=xM kd hn h2 h3 (by simp [fI]) (C:=Lib.bytesCells w el b) (extra:=List.replicate (grownCap w b.size 0 el-b.size) (.int .u8 0)) (by simp [Lib.bytesCells]) el
  ((Lib.bytesCells w el b).size,(Lib.bytesCells w el b).size+1) (.inr ⟨rfl,aA _⟩)
 refine⟨_,_,m',Sa w s d el b hs hd he,?_,?_⟩
 ·rw [BH];exact(Fr.drawn k _).trans hF
 ·simp only [R];refine⟨_,grownCap w b.size 0 el,hm,by simp [a7],by omega,?_⟩;show 0+grownCap w b.size 0 el*1≤(Lib.bytesCells w el b).size;omega
def MK:∀(els:List (List V)) {bs:List Nat} {us:Lv},wB els=some bs→Rl m els.flatten us→us=bs.map (fun n:Nat=>Value.int .u8 (n:Int))∧(∀n∈bs,n<256)∧bs.length=els.length
 | [],bs,us,hb,hr=>by
  simp only [wB,dW] at hb;subst hb;simp only [List.flatten_nil,Rl] at hr;subst hr;simp
 | el::els,bs,us,hb,hr=>by
  unfold wB at hb;split at hb
  ·rename_i e;cases e
  ·rename_i n r e;cases e;cases hn:Nat.ble n 255 with
   |false=>rw [hn] at hb;cases hb
   | true=>
    rw [hn] at hb;simp only [dG] at hb;cases hr2:wB els with
    |none=>rw [hr2] at hb;cases hb
    |some l=>
     rw [hr2] at hb;cases hb;simp only [mD,mF,lG,Rl] at hr;obtain⟨u,us',rfl,hu,hrest⟩:=hr;simp only [R] at hu;subst hu;obtain⟨g1,g2,g3⟩:=MK els hr2 hrest;have:=cY hn;refine⟨by simp [g1],?_,by simp [g3]⟩;intro x hx;rcases cN.1 hx with rfl|hx
     ·omega
     ·exact g2 x hx
  ·cases hb
def XU:∀(bs:List Nat) (s:ByteArray),(∀n∈bs,n<256)→eU ((bs.map Int.ofNat).foldl (fun r n=>r.push (UInt8.ofNat n.toNat)) s)=eU s++bs
 | [],s,_=>by simp
 | n::bs,s,h=>by
  rw [kL,wP,XU bs _ (fun x hx=>h x (by simp [hx]))];have hn:=h n (by simp);have:eU (s.push (UInt8.ofNat (Int.ofNat n).toNat))=eU s++ [n]:=by
   obtain⟨⟨l⟩⟩:=s;simp only [eU,ByteArray.push];simp;omega
  rw [this];simp
def Ci (k:HR m h w) {s d el:TypeId} {x v:V} {u:Value} (hs:P.underlying s=some (.slice el)) (hd:P.underlying d=some .string) (he:P.underlying el=some (.int .u8)) (hx:R m x u)
  (hn:HQ h x= .ok v h'):∃u' w' m',(convert s d u).run P w= .ok u' w'∧Fr m h w m' h' w'∧R m' v u':=by
 unfold HQ at hn;split at hn
 ·cases hn
 ·rename_i a5;split at hn
  ·rename_i els a0;split at hn
   ·rename_i bs a3;cases hn;obtain⟨us,g1,g2,g3,g4,g5,g6⟩:=LN (P:=P) (sz:=0) k hx a0;obtain⟨q1,q2,q3⟩:=MK els a3 g3;have hf:=g6 els.length (aA _);have a6:∃a len cap,u= .slice a len cap:=by
     unfold rC at a0;split at a0
     ·simp only [R] at hx;exact⟨_,_,_,hx⟩
     ·simp only [R] at hx;obtain⟨a,cap,rfl⟩:=hx;exact⟨_,_,_,rfl⟩
     ·simp only [R] at hx;obtain⟨l,cap,_,rfl,_⟩:=hx;exact⟨_,_,_,rfl⟩
     ·exact absurd rfl (a5 _ _)
     ·cases a0
    obtain⟨a,len,cap,rfl⟩:=a6;have a1:len=els.length:=by simp [Builtin.lenOf] at g5;exact g5
    rw [run_convert_bytes_string w s d el a len cap hs he hd];cases a with
    | none=>
     have a8:us= []:=by
      rw [iW (by omega)] at hf;simp only [Builtin.firstCells,dV] at hf;injection hf with e1 e2
      have:=cI Array.toList e1;exact this.symm
     have a2:bs= []:=by rw [a8] at q1;cases bs with|nil=>rfl|cons _ _=>simp at q1
     subst a2;refine⟨.string .empty,w,m,by simp [Conv.bytesToString],Fr.refl k,?_⟩;have hR:=R_strOf m ByteArray.empty;simpa [eU] using hR
    | some a=>
     simp only [Builtin.firstCells] at hf;have a4:(loadCells a len).run P w= .ok ((bs.map Int.ofNat).map (Value.int .u8)).toArray w:=by
      rw [a1];have h8:els.length*(0+1)=els.length:=by omega
      rw [h8] at hf;rw [hf,iW (by omega),q1];simp
     refine⟨_,w,m,run_bytesToString w a len cap _ a4,Fr.refl k,?_⟩;have hb:=XU bs ByteArray.empty q2;have hR:=R_strOf m ((bs.map Int.ofNat).foldl (fun r n=>r.push (UInt8.ofNat n.toNat)) ByteArray.empty);rw [hb] at hR;simpa [eU] using hR
   ·cases hn
  ·cases hn
end
section
variable {P:Program} {m:Mp} {w:Wo}
def Oj (k:HR m h w) {sz:Nat} {x v z:V} {zc:List V} {ux:Value} {ts:Array TypeId} {t ty el:TypeId} (h0:ts[0]?=some t) (hu:P.underlying t=some (.slice el))
  (hz:iF P el=some z) (hc:fM z=some zc) (a1:zc.length=sz+1) (hx:R m x ux) (ha:LZ h (sz+1) zc x= .ok v h'):
  ∃u w' m',(Builtin.clear_ ts ty #[ux]).run P w= .ok u w'∧Fr m h w m' h' w'∧R m' v u:=by
 obtain⟨uz,hzr,rfl,_⟩:=mV (w:=w) hz;obtain⟨a2,h1,h2,h3⟩:=sQ (m:=m) hc;have a4:uz.cells.size=sz+1:=by rw [h1];show a2.length=_;rw [h2.length,a1]
 unfold LZ at ha;split at ha
 ·rename_i b o len zz;split at ha
  ·rename_i a5 els f a6 hb;cases hcd:(Nat.beq a5 (sz+1)&&(Nat.beq zz (sz+1)&&Nat.beq (Nat.mod o (sz+1)) 0)) with
   |false=>rw [hcd] at ha;cases ha
   |true=>
   rw [hcd] at ha;simp only [dG] at ha;simp only [aR] at hcd;have e1:=bG hcd.1;subst e1;have e2:=bG hcd.2.1;subst e2;have e3:o%(sz+1)=0:=bG hcd.2.2;have hq:o/(sz+1)*(sz+1)=o:=by have:=lZ o (sz+1);rw [dM,e3] at this;simpa using this
   simp only [R] at hx;obtain⟨l,cap,hl,rfl,hlc,hlim⟩:=hx;split at ha
   ·rename_i els' a3;cases ha;obtain⟨w',r1,r2⟩:=RY (P:=P) (q:=o/(sz+1)) k hb hl (h2.rep len) (zL h3 len) (by
     intro e0 he;rw [wZ] at he;rw [(yS.1 he).2,a1]) a3
    rw [hq] at r1;have a0:(Builtin.zeroCells uz.cells len).toList=(List.replicate len a2).flatten:=by
     rw [Builtin.zeroCells,yY uz.cells len (by omega),h1]
    refine⟨.tuple #[],w',m,?_,r2,by simp [R,Rl,dU]⟩;cases len with
    |zero=>
     simp only [NU,List.flatten_nil,storeCells,dV] at r1;cases r1;simp [Builtin.clear_,h0,iN hu]
    |succ n=>
     simp [Builtin.clear_,h0,iN hu,hzr,a0,r1]
   ·cases ha
  ·cases ha
 ·cases ha;simp only [R] at hx;subst hx;exact⟨.tuple #[],w,m,by simp [Builtin.clear_,h0,iN hu],Fr.refl k,by simp [R,Rl,dU]⟩
 ·cases ha;simp only [R] at hx;obtain⟨a,cap,rfl⟩:=hx;exact⟨.tuple #[],w,m,by simp [Builtin.clear_,h0,iN hu],Fr.refl k,by simp [R,Rl,dU]⟩
 ·cases ha
end
section
variable {P:Program} {m:Mp} {w:Wo}
def Lo {a:Addr} {C:Array Value} {fz:Nat × Nat} (h:w.heap[a.block]?=some (.cells C t fz)) (hn:n≠0):
  ∃fz',w.freeze a n={ w with heap:=w.heap.setIfInBounds a.block (.cells C t fz') }:=by
 obtain⟨lo,hi⟩:=fz;refine⟨if lo==hi then(a.off,a.off+n) else(min lo a.off,max hi (a.off+n)),?_⟩;unfold World.freeze;rw [if_neg hn];congr 1;apply wS;intro j;rw [rW,qG];have b0:=(cV.1 h).1
 by_cases e:a.block=j
 ·subst e;rw [h];simp [b0]
 ·simp [e]
def Fr.updCellsR (k:HR m h w) {b f:Id} {sz:Nat} {els els':List (List V)} {ro ro':Rw} {l:Loc} {o':Obj}
  (hb:aB b h.mem=some (.cells sz els f ro)) (c9:ro≠ .fz) (hl:m b=some l)
  (d3:w'={ w with heap:=w.heap.setIfInBounds l.blk o' })
  (c8:w'.heap[l.blk]?=some o'→ObjAt m w' l (.cells sz els' f ro')):
  Fr m h w m (fR (iS h f b) b (.cells sz els' f ro')) w':=by
 rw [oQ,xO];have hk:∀x ox,aB x (kF (mH b (bR f h.fams)) h.mem)=some ox→aB x h.mem=some ox∧(x∈bR f h.fams→x=b):=by
  intro x ox hx;rw [oC] at hx;split at hx
  ·cases hx
  ·rename_i hn;refine⟨hx,fun hm=>?_⟩
   by_cases e:x=b
   ·exact e
   ·exact absurd ((tW b _ x).2 ⟨hm,e⟩) hn
 refine Fr.upd k hb hl (by simpa [oN] using c9) (fun x ox hx=>(hk x ox hx).1) ?_ ?_ ?_ ?_ (fun sz1 els1 f1 a8 e=>by cases e;exact⟨b,_,_,_,hb⟩) ?_ d3 c8
 ·intro x ox lx a4 hx c6 c3;obtain⟨a2,hm⟩:=hk x ox hx;have hs:=k.sep x b ox _ lx l a2 hb c6 hl a4 c3;cases ox with
  |cells sz1 els1 f1 a8=>
   have hf:f1=f:=hs;subst hf;exact a4 (hm (k.fam x b _ _ _ _ _ _ _ a2 hb a4))
  |_=>exact hs
 ·intro x y sz1 els1 f1 a8 sz2 els2 b8 hx hy a4;have a0:x=b∧f1=f∨x≠b∧aB x h.mem=some (.cells sz1 els1 f1 a8)∧(x∈bR f h.fams→x=b):=by
   by_cases e:x=b
   ·subst e;rw [iA] at hx;cases hx;exact .inl ⟨rfl,rfl⟩
   ·rw [gN e] at hx;exact .inr ⟨e,hk x _ hx⟩
  have b7:y=b∧f1=f∨y≠b∧aB y h.mem=some (.cells sz2 els2 f1 b8)∧(y∈bR f h.fams→y=b):=by
   by_cases e:y=b
   ·subst e;rw [iA] at hy;cases hy;exact .inl ⟨rfl,rfl⟩
   ·rw [gN e] at hy;exact .inr ⟨e,hk y _ hy⟩
  by_cases hf:f1=f
  ·subst hf;rcases a0 with⟨rfl,_⟩|⟨hn1,a2,hm1⟩
   ·rcases b7 with⟨rfl,_⟩|⟨hn2,a7,hm2⟩
    ·exact absurd rfl a4
    ·exact absurd (hm2 (k.fam y x _ _ _ _ _ _ _ a7 hb hn2)) hn2
   ·exact absurd (hm1 (k.fam x b _ _ _ _ _ _ _ a2 hb hn1)) hn1
  ·have a2:aB x h.mem=some (.cells sz1 els1 f1 a8):=by
    rcases a0 with⟨_,e⟩|⟨_,a2,_⟩
    ·exact absurd e hf
    ·exact a2
   have a7:aB y h.mem=some (.cells sz2 els2 f1 b8):=by
    rcases b7 with⟨_,e⟩|⟨_,a7,_⟩
    ·exact absurd e hf
    ·exact a7
   have:=k.fam x y _ _ _ _ _ _ _ a2 a7 a4;show x∈bR f1 _;split
   ·exact this
   ·rw [mL hf];exact this
 ·intro f1;show(bR f1 _).Pairwise _;split
  ·exact k.ord f1
  ·by_cases e:f1=f
   ·subst e;rw [qZ];exact .nil
   ·rw [mL e];exact k.ord f1
 ·intro sz1 els1 f1 a8 e;cases e;exact k.famlt _ _ _ _ _ hb
 ·intro f1 x hx;have a0:x∈bR f1 (if bR f h.fams= [] then h.fams else jR f [] h.fams):=hx;split at a0
  ·exact k.flt f1 x a0
  ·by_cases e:f1=f
   ·subst e;rw [qZ] at a0;cases a0
   ·rw [mL e] at a0;exact k.flt f1 x a0
def By (k:HR m h w) {t t2 el ty:TypeId} {ts:List TypeId} {x v:V} {ux:Value} {n:Nat} (hu:P.underlying t=some (.pointer el)) (hs:cF P el=some 1) (hx:R m x ux)
  (hv:HN el h x n= .ok v h'):∃u w' m',(Builtin.unsafeString_ ⟨t::t2::ts⟩ ty #[ux,.int .i64 (n:Int)]).run P w= .ok u w'∧Fr m h w m' h' w'∧R m' v u:=by
 have b1:IntKind.i64.max=9223372036854775807:=rfl;have d6:(⟨t::t2::ts⟩:Array TypeId)[0]?=some t:=by simp
 unfold HN at hv;cases n with
 | zero=>
  simp only at hv;have hp:∃p,ux= .pointer p:=by
   split at hv
   ·simp only [R] at hx;exact⟨_,hx⟩
   ·simp only [R] at hx;obtain⟨l,_,hx⟩:=hx;exact⟨_,hx⟩
   ·cases hv
  have d2:v= .s 0 0∧h'=h:=by
   split at hv
   ·cases hv;exact⟨rfl,rfl⟩
   ·cases hv;exact⟨rfl,rfl⟩
   ·cases hv
  obtain⟨p,rfl⟩:=hp;obtain⟨rfl,rfl⟩:=d2;refine⟨.string .empty,w,m,?_,Fr.refl k,?_⟩
  ·cases p with
   |none=>
    rfl
   |some a=>
    rfl
  ·have:=R_strOf m ByteArray.empty;simpa [eU,wX,pW] using this
 | succ n=>
  simp only at hv;obtain⟨b,o,e0,hv1⟩:=BO hv;clear hv;have hv:=hv1;clear hv1;subst e0;simp only [R] at hx;obtain⟨l,hl,rfl⟩:=hx;split at hv
  ·rename_i sz els f ro hb;split at hv
   case h_2=>cases hv
   rename_i d5 b5;cases hcd:(Nat.beq sz 1&&(Nat.beq d5 el&&Nat.ble n 1000000)) with
   |false=>rw [hcd] at hv;cases hv
   | true=>
    rw [hcd] at hv;simp only [dG] at hv;simp only [aR] at hcd;have e1:=bG hcd.1;subst e1;have e2:=bG hcd.2.1;subst e2;have e3:=cY hcd.2.2;split at hv
    ·rename_i L hL;split at hv
     ·rename_i bs c2;cases hv;obtain⟨l2,hl2,C,tC,fz,hc⟩:=k.obj _ _ hb;rw [hl] at hl2;cases hl2;have ht:=hc.typ _ b5;subst ht;rw [EZ] at hL;obtain⟨g1,g2⟩:=wW _ _ _ hL;have b3:o+(n+1)≤els.length:=by rw [fD] at g1;omega
      obtain⟨us,s1,s2,s3,s4,s5,s6⟩:=LM (o:=o) (len:=n+1) hc (CE _) (by rw [NT];exact g1);rw [NT,←g2] at s4;obtain⟨q1,q2,q3⟩:=MK L c2 s4;have b6:us.length=n+1:=by rw [s3];omega
      have c1:bs.length=n+1:=by rw [q1] at b6;simpa using b6
      have a5:∀j y,(bs.map UInt8.ofNat)[j]?=some y→w.cell? ((⟨l.blk,l.base+o,none⟩:Addr).add j)=some (.int .u8 y.toNat):=by
       intro j y hy;rw [rK,uQ hc.at_];have d4:us[j]?=some (.int .u8 (y.toNat:Int)):=by
        rw [q1];rw [jO] at hy ⊢;cases hbj:bs[j]? with
        |none=>rw [hbj] at hy;cases hy
        |some x=>
         rw [hbj] at hy;simp only [rP,dW] at hy ⊢;subst hy;have b0:=q2 x (bV hbj);simp [tH b0]
       exact s6 j _ d4
      have a1:=Lib.run_loadBytes (P:=P) w (bs.map UInt8.ofNat) ⟨l.blk,l.base+o,none⟩ .empty a5;rw [mB,c1] at a1;have b4:=hc.room;have c5:=hc.len;have d7:=pF hc.each;have a6:=TO (P:=P) (cells:=C.size) (off:=l.base+o) (n:=n+1) (FL hs) Nat.one_pos (CE _) (by omega);have d0:=CX hc.at_;obtain⟨fz',hfz⟩:=Lo (w:=w) (a:=⟨l.blk,l.base+o,none⟩) (n:=n+1) hc.at_ (by omega);have b2:¬((n:Int)+1<0):=by omega
      have a9:¬((9223372036854775807:Int)<(n:Int)+1):=by omega
      have c7:¬((n:Int)+1=0):=by omega
      have d1:((n:Int)+1).toNat=n+1:=by omega
      refine⟨.string ⟨ByteArray.empty.data++(bs.map UInt8.ofNat).toArray⟩,w.freeze ⟨l.blk,l.base+o,none⟩ (n+1),m,?_,?_,?_⟩
      ·have a3:∃s1 s2 s3,Builtin.unsafeString_ ⟨t::t2::ts⟩ ty #[.pointer (some ⟨l.blk,l.base+o,none⟩),.int .i64 ((n+1:Nat):Int)]=
        (do
         let n←asInt (.int .i64 ((n+1:Nat):Int))
         if n<0 then runtimePanic (.error s1)
         if n>IntKind.i64.max then unsupported (.unsafePointer s2)
         if n=0 then pure (.string .empty)
         else if←variablesAt ⟨l.blk,l.base+o,none⟩ (←elemOf t) n.toNat then do
          let s←loadBytes ⟨l.blk,l.base+o,none⟩ .empty n.toNat
          freeze ⟨l.blk,l.base+o,none⟩ n.toNat
          pure (.string s)
         else unsupported (.unsafePointer s3)):=⟨_,_,_,rfl⟩
       obtain⟨s1,s2,s3,a3⟩:=a3;rw [a3];simp [asInt,asIntOf,b1,b2,a9,c7,d1,variablesAt,elemOf,iN hu,d0,a6,a1]
      ·rw [hfz];refine Fr.updCellsR k hb (fun e=>by subst e;cases b5) hl rfl ?_;intro b9;exact⟨C,_,fz',⟨b9,hc.room,hc.len,hc.each,hc.val,(fun hx=>Bool.noConfusion hx),(fun hx=>Bool.noConfusion hx),(fun ty e=>bP e),hc.al⟩⟩
      ·have hR:=R_strOf m (⟨ByteArray.empty.data++(bs.map UInt8.ofNat).toArray⟩:ByteArray);have c0:eU (⟨ByteArray.empty.data++(bs.map UInt8.ofNat).toArray⟩:ByteArray)=bs:=by
        simp only [eU];have:(ByteArray.empty.data++(bs.map UInt8.ofNat).toArray).toList=bs.map UInt8.ofNat:=by simp
        rw [this,Ap];have c4:∀x∈bs,(UInt8.toNat∘UInt8.ofNat) x=x:=fun x hx=>by
         have:=q2 x hx;simp [tH this]
        rw [Aq c4];simp
       rw [c0] at hR;exact hR
     ·cases hv
    ·cases hv
  ·cases hv
end
section
variable {P:Program} {m:Mp} {w:Wo}
def jT (P:Program) (call:dQ):Prop:=
 ∀(f:FuncId) (vs:List V) (us:Lv) (m:Mp) (h:H) (w:Wo) (v:V) (h':H),HR m h w→Gl P m→Rl m vs us→call f vs h= .ok v h'→dO P ((callFunc f ⟨us⟩).run P w) m h w v h'
def dO.val {s:Sem Value} (hs:∃u w' m',s.run P w= .ok u w'∧Fr m h w m' h' w'∧R m' v u):dO P ((do pure (Next.value (←s)):Sem Next).run P w) m h w v h':=by
 obtain⟨u,w',m',h1,h2,h3⟩:=hs;exact .inl ⟨u,w',m',.inl (by simp [h1]),h2,h3⟩
def dO.unit {s:Sem Unit} (hs:∃w' m',s.run P w= .ok () w'∧Fr m h w m' h' w'∧R m' v undef):dO P ((do s;pure Next.skip:Sem Next).run P w) m h w v h':=by
 obtain⟨w',m',h1,h2,h3⟩:=hs;exact .inl ⟨undef,w',m',.inr ⟨by simp [h1],rfl⟩,h2,h3⟩
def Pb (a3:jT P call) (k:dE m n e a) (hg:Gl P m) {h h':H} (hr:HR m h w) {c:Call} {ty:TypeId}
  (a0:(Op.call c).operands.toList.all (dX P n)=true) {v:V} (hv:(MI P c).run call e h= .ok v h'):
  dO P ((do let d←resolve a.eval c ty;invoke d.target d.args:Sem Next).run P w) m h w v h':=by
 obtain⟨callee,args,argTypes⟩:=c;obtain⟨args⟩:=args;obtain⟨argTypes⟩:=argTypes;unfold MI at hv;simp only [Op.operands] at a0;cases callee with
 | value f=>
  simp [Call.operands] at a0;have hF:=eI k hg a0.1;obtain⟨g,A,B,e1,hv⟩:=Qa hv;rw [e1] at hF;simp only [R] at hF;obtain⟨a',c',hu,hA,hB⟩:=hF;split at hv
  ·rename_i a8;have a5:=xF k hg (xs:=args) (by simpa using a0.2);rw [ZC,ZC] at hv;have:=a3 a8 _ _ m h w v h' hr hg (hA.append (a5.append hB)) hv;simpa [resolve,hu,Deferred.ofValue,invoke] using this
  ·cases hv
 |invoke r nm=>cases hv
 | builtin b=>
  simp [Call.operands] at a0;simp only at hv;split at hv
  ·rename_i e0;cases e0
  ·rename_i x y t t2 ts e0;cases e0;simp at a0;have hX:=eI k hg a0.1;have hY:=eI k hg a0.2;unfold appC at hv;split at hv
   ·cases hv
   ·rename_i el u2 b0 hu a2;split at hv
    ·rename_i sz z hs hz;split at hv
     ·rename_i zc a4 hc hi;cases hcd:(Nat.ble a4.bytes 1000000&&Nat.beq (fW zc) (sz+1)) with
      |false=>rw [hcd] at hv;cases hv
      | true=>
       rw [hcd] at hv;simp only [dG] at hv;simp only [aR] at hcd;split at hv
       ·rename_i new he;obtain⟨uz,hzr,rfl,i2,hi2,hzi⟩:=mV (w:=w) hz;rw [hi] at hi2;cases hi2;obtain⟨b2,h1,h2,h3⟩:=sQ (m:=m) hc;obtain⟨i3,hi3,hsz⟩:=rZ hs;rw [hi] at hi3;cases hi3;have b1:uz.cells.size=sz+1:=by
         rw [h1];show b2.length=_;rw [h2.length,←nI];exact bG hcd.2
        have T:AppTy P ⟨t::t2::ts⟩ (sz+1) el a4 uz:=⟨⟨t,t2,u2,by simp,by simp,hu,a2,b0⟩,hi,hzi,hsz,b1,cY hcd.1⟩;have:=dO.val (Qe (ty:=ty) hr T hX hY he hv);simpa [resolve,invoke,builtin] using this
       ·cases hv
     ·cases hv
    ·cases hv
   ·cases hv
  ·rename_i x y t ts e0;cases e0;simp at a0;have hX:=eI k hg a0.1;have hY:=eI k hg a0.2;unfold copyC at hv;split at hv
   ·rename_i el hu;split at hv
    ·rename_i sz hs;obtain⟨a4,hi,hsz⟩:=rZ hs;cases he:rC h (sz+1) ((aD y).run e) with
     |none=>
      simp only [he] at hv;unfold FH at hv;cases hv
     |some src=>
      simp only [he] at hv;have:=dO.val (Nt (P:=P) (ts:=⟨t::ts⟩) (ty:=ty) hr (by simp) hu hi hsz hX hY he hv);simpa [resolve,invoke,builtin] using this
    ·cases hv
   ·cases hv
  ·rename_i x t ts e0;cases e0;simp at a0;have hX:=eI k hg a0;unfold WW at hv;split at hv
   ·rename_i el hu;split at hv
    ·rename_i sz z hs hz;split at hv
     ·rename_i zc hc;cases hcd:(Nat.beq (fW zc) (sz+1)) with
      |false=>rw [hcd] at hv;cases hv
      |true=>
       rw [hcd] at hv;simp only [dG] at hv;have:=dO.val (Oj (P:=P) (ts:=⟨t::ts⟩) (ty:=ty) hr (by simp) hu hz hc (by rw [←nI];exact bG hcd) hX hv);simpa [resolve,invoke,builtin] using this
     ·cases hv
    ·cases hv
   ·cases hv
  ·rename_i x kk t ts e0;cases e0;simp at a0;have hX:=eI k hg a0.1;have hY:=eI k hg a0.2;unfold delC at hv;split at hv
   ·rename_i kt et hu;obtain⟨b,e1,hv⟩:=yM hv;rw [e1] at hX;simp only [R] at hX;obtain⟨l,hl,a2⟩:=hX;obtain⟨rfl,w',r1,r2⟩:=Ji (P:=P) (ts:=ts) (ty:=ty) hr hu hl hY hv;have:=dO.val (P:=P) ⟨_,w',m,r1,r2,show R m dU (.tuple #[]) by simp [R,Rl,dU]⟩;simpa [resolve,invoke,builtin,a2] using this
   ·cases hv
  ·rename_i x nn t t2 ts e0;cases e0;simp at a0;have hX:=eI k hg a0.1;have hN:=eI k hg a0.2;unfold ustrC at hv;split at hv
   ·rename_i el hu;split at hv
    ·rename_i hs;simp only at hv;split at hv
     ·rename_i N e1;rw [e1] at hN;simp only [R] at hN;have:=dO.val (P:=P) (By (P:=P) (ty:=ty) (t2:=t2) (ts:=ts) hr hu hs hX hv);have hm:(⟨[x,nn]⟩:Array Operand).map a.eval=#[a.eval x,.int .i64 (Int.ofNat N)]:=by simp [hN]
      simpa [resolve,invoke,builtin,hN] using this
     ·cases hv
    ·cases hv
   ·cases hv
  ·cases hv
def KN (a3:jT P call) (k:dE m n e a) (hg:Gl P m) {h h':H} (hr:HR m h w) {o:Oper} (a0:o.op.operands.toList.all (dX P n)=true) {v:V}
  (hv:(uI P o.op).run call e h= .ok v h'):dO P ((execOp a.eval o).run P w) m h w v h':=by
 obtain⟨dst,op,type,pos,after,guard⟩:=o;simp only at a0 hv;have a1:∀{x:Operand},dX P n x=true→R m ((aD x).run e) (a.eval x):=fun hx=>eI k hg hx
 cases op<;>simp only [uI] at hv<;>(try (cases hv;done))
 case call c=>exact Pb a3 k hg hr a0 hv
 case alloc t=>
  split at hv
  ·rename_i z hz;split at hv
   ·rename_i c hc;exact dO.val (Qg hr hz hc hv)
   ·cases hv
  ·cases hv
 case box t x=>
  have hX:=a1 (show dX P n x=true by simpa [Op.operands] using a0);cases hc:fM ((aD x).run e) with
  |none=>simp only [hc] at hv;cases hv
  |some c=>
   simp only [hc] at hv;exact dO.val (Pm hr hX hc hv)
 case makeMap t r=>
  cases r with
  |none=>exact dO.val (SZ hr (.inl rfl) hv)
  | some x=>
   have hX:=a1 (show dX P n x=true by simpa [Op.operands] using a0);simp only at hv;split at hv
   ·rename_i kt et hu;obtain⟨kk,nn,e1,hv⟩:=FV hv;rw [e1] at hX;simp only [R] at hX;exact dO.val (SZ hr (.inr ⟨kt,et,kk,nn,hu,by rw [rP,hX]⟩) hv)
   ·cases hv
 case range t x=>
  have hX:=a1 (show dX P n x=true by simpa [Op.operands] using a0);split at hv
  ·rename_i hu;obtain⟨l,c,e1,hv⟩:=YS hv;rw [e1] at hX;exact dO.val (Gt (x:=.sn) hr hu hX hv)
  ·rename_i kt et hu;obtain⟨b,e1,hv⟩:=yM hv;rw [e1] at hX;simp only [R] at hX;obtain⟨l,hl,a2⟩:=hX;split at hv
   ·rename_i es a7 he;have:=dO.val (P:=P) (Gu hr hu hl he hv);simpa [execOp,a2] using this
   ·cases hv
  ·cases hv
 case next x isS=>
  have hX:=a1 (show dX P n x=true by simpa [Op.operands] using a0);cases isS with
  | true=>
   obtain⟨b,o,e1,hv⟩:=BO hv;rw [e1] at hX;obtain⟨l,hl,hu⟩:=R_p hX;cases ho:Nat.beq o 0 with
   |false=>rw [ho] at hv;cases hv
   |true=>
    rw [ho] at hv;have:=bG ho;subst this;have:=dO.val (P:=P) (Ir (ty:=type) hr hl hv);simpa [execOp,hu] using this
  | false=>
   obtain⟨b,o,e1,hv⟩:=BO hv;rw [e1] at hX;obtain⟨l,hl,hu⟩:=R_p hX;cases ho:Nat.beq o 0 with
   |false=>rw [ho] at hv;cases hv
   |true=>
    rw [ho] at hv;have:=bG ho;subst this;have:=dO.val (P:=P) (Is (ty:=type) hr hl hv);simpa [execOp,hu] using this
 case convert s d x=>
  have hX:=a1 (show dX P n x=true by simpa [Op.operands] using a0);split at hv
  ·rename_i el hs hd;split at hv
   ·rename_i he;obtain⟨l,c,e1,hv⟩:=YS hv;rw [e1] at hX;exact dO.val (Cu hr hs hd he hX hv)
   ·cases hv
  ·rename_i el hs hd;split at hv
   ·rename_i he;exact dO.val (Ci hr hs hd he hX hv)
   ·cases hv
  ·cases hv
 case mapUpdate t mm kx vx=>
  simp [Op.operands] at a0;have hM:=a1 a0.1;have hK:=a1 a0.2.1;have hV:=a1 a0.2.2;split at hv
  ·rename_i kt et hu;obtain⟨b,e1,hv⟩:=yM hv;rw [e1] at hM;simp only [R] at hM;obtain⟨l,hl,a2⟩:=hM;obtain⟨rfl,w',r1,r2⟩:=SX hr hu hl hK hV hv;have:=dO.unit (P:=P) ⟨w',m,r1,r2,show R m dU undef by simp [R,Rl,dU,undef]⟩;simpa [execOp,a2] using this
  ·cases hv
 case insert t mm kx vx=>
  simp [Op.operands] at a0;have hM:=a1 a0.1;have hK:=a1 a0.2.1;have hV:=a1 a0.2.2;split at hv
  ·rename_i kt et hu;obtain⟨b,e1,hv⟩:=yM hv;rw [e1] at hM;simp only [R] at hM;obtain⟨l,hl,a2⟩:=hM;obtain⟨rfl,w',r1,r2⟩:=SX hr hu hl hK hV hv;have:=dO.unit (P:=P) ⟨w',m,r1,r2,show R m dU undef by simp [R,Rl,dU,undef]⟩;simpa [execOp,a2] using this
  ·cases hv
 case mapEntry t mm kx=>
  simp [Op.operands] at a0;have hM:=a1 a0.1;have hK:=a1 a0.2;split at hv
  ·rename_i kt et hu;split at hv
   ·rename_i z hz;obtain⟨b,e1,hv⟩:=yM hv;rw [e1] at hM;simp only [R] at hM;obtain⟨l,hl,a2⟩:=hM;obtain⟨u,w',r1,r2,r3⟩:=Jh hr hu hz hl hK hv;have:=dO.val (P:=P) ⟨u,w',m,r1,r2,r3⟩;simpa [execOp,a2] using this
   ·cases hv
  ·cases hv
 case entryStore t mm sx vx=>
  simp [Op.operands] at a0;have hM:=a1 a0.1;have hK:=a1 a0.2.1;have hV:=a1 a0.2.2;obtain⟨b,e1,hv⟩:=yM hv;rw [e1] at hM;simp only [R] at hM;obtain⟨l,hl,a2⟩:=hM;obtain⟨kk,nn,e2,hv⟩:=FV hv;rw [e2] at hK;simp only [R] at hK;split at hv
  ·rename_i nn;obtain⟨rfl,w',r1,r2⟩:=Mt (P:=P) (t:=t) (kk:=kk) hr hl hV hv;have:=dO.unit (P:=P) ⟨w',m,r1,r2,show R m dU undef by simp [R,Rl,dU,undef]⟩;simpa [execOp,a2,hK] using this
  ·cases hv
 case buildSlice t len ps=>
  split at hv
  ·rename_i el hu;split at hv
   ·rename_i sz z hs hz;split at hv
    ·rename_i zc hc;cases hcd:(Nat.ble (len*(sz+1)) 16777216&&Nat.beq (fW zc) (sz+1)) with
     |false=>rw [hcd] at hv;cases hv
     | true=>
      rw [hcd] at hv;simp only [dG] at hv;simp only [aR] at hcd;split at hv
      ·rename_i cs hb;exact dO.val (Pj k hg hr hu (by simpa [Op.operands] using a0) hs hz hc (cY hcd.1) (by rw [←nI];exact bG hcd.2) hb hv)
      ·cases hv
    ·cases hv
   ·cases hv
  ·cases hv
 case makeSlice t lx cx=>
  simp [Op.operands] at a0;have hL:=a1 a0.1;have hC:=a1 a0.2;split at hv
  ·rename_i el hu;split at hv
   ·rename_i sz z hs hz;split at hv
    ·rename_i zc a4 hc hi;cases hcd:(Nat.ble a4.bytes 1000000&&Nat.beq (fW zc) (sz+1)) with
     |false=>rw [hcd] at hv;cases hv
     | true=>
      rw [hcd] at hv;simp only [dG] at hv;simp only [aR] at hcd;obtain⟨k1,n1,e1,hv1⟩:=FV hv;clear hv;obtain⟨k2,n2,e2,hv⟩:=FV hv1;clear hv1;rw [e1] at hL;rw [e2] at hC;simp only [R] at hL hC;split at hv
      ·rename_i N M;cases hcd2:(Nat.ble N M&&Nat.ble M 100000) with
       |false=>rw [hcd2] at hv;cases hv
       |true=>
        rw [hcd2] at hv;simp only [dG] at hv;simp only [aR] at hcd2;have:=dO.val (P:=P) (Jj (k1:=k1) (k2:=k2) hr hu hs hz hc hi (cY hcd.1) (by rw [←nI];exact bG hcd.2) (cY hcd2.1) (cY hcd2.2) hv);simpa [execOp,hL,hC] using this
      ·cases hv
    ·cases hv
   ·cases hv
  ·cases hv
 case store t ax vx=>
  simp [Op.operands] at a0;have hA:=a1 a0.1;have hV:=a1 a0.2;split at hv
  ·rename_i nn hs;obtain⟨b,o,e1,hv⟩:=BO hv;rw [e1] at hA;obtain⟨l,hl,hu⟩:=R_p hA;cases hc:fM ((aD vx).run e) with
   |none=>simp only [hc] at hv;cases hv
   | some c=>
    simp only [hc] at hv;cases hn:Nat.beq (fW c) nn with
    |false=>rw [hn] at hv;cases hv
    | true=>
     rw [hn] at hv;have a6:c.length=nn:=by rw [←nI];exact bG hn
     obtain⟨c',h1,h2,h3⟩:=BG hV hc;obtain⟨a4,hi,hsz⟩:=rZ hs;obtain⟨rfl,w',r1,r2⟩:=Bj (P:=P) hr hl a6 h2 h3 hv;have a9:c'.length=nn:=by rw [h2.length,a6]
     have:=dO.unit (P:=P) (s:=Instr.storeAt t (a.eval ax) (a.eval vx)) ⟨w',m,by
      simp [Instr.storeAt,hu,Instr.sureAddr,storeVar,sizeOf,typeInfo,hi,hsz,h1,a9,r1],r2,show R m dU undef by simp [R,Rl,dU,undef]⟩
     simpa [execOp] using this
  ·cases hv
end
section
variable {P:Program} {m:Mp} {w:Wo}
def KM {n:Nat} {e:Env} (hv:dO P r m h w v h') {next:Act→Wo→Prop} {Q:Exit→Act→Wo→Prop}
  (hn:∀u m' w',Fr m h w m' h' w'→R m' v u→next (a.put o.dst u) w'):o.upon P a next Q r:=by
 rcases hv with⟨u,w',m',h1|⟨h1,h2⟩,hF,hR⟩|⟨f,us,h1,hC⟩
 ·rw [h1,GF];exact hn u m' w' hF hR
 ·rw [h1,Oper.upon_skip,←h2];exact hn u m' w' hF hR
 ·rw [h1,Oper.upon_enter];refine Calls.mono hC ?_;rintro x w' ⟨u,m',rfl,hF,hR⟩;exact hn u m' w' hF hR
def vW (n:Nat):Option Tmp→Bool
 |none=>true
 |some d=>Nat.ble (Nat.succ d) n
def YP (a1:jT P call) (k:dE m n e a) (hg:Gl P m) {h h':H} (hr:HR m h w) {o:Oper} (a0:o.op.operands.toList.all (dX P n)=true) (hd:vW n o.dst=true)
  (hv:(FR P o).run call e h= .ok e' h') {next:Act→Wo→Prop} {Q:Exit→Act→Wo→Prop}
  (hn:∀m' a' w',Fr m h w m' h' w'→dE m' n e' a'→next a' w'):o.wp P a w next Q:=by
 unfold Oper.wp;unfold FR at hv;split at hv
 ·rename_i f ts a2;rw [a2] at a0;simp [Op.operands,Call.operands] at a0;have hF:=eI k hg a0;obtain⟨L,hL,hDf⟩:=k.dfr;cases hD:o.dst with
  |some d=>rw [hD] at hv;cases hv
  |none=>
  rw [hD] at hv;simp only [hL] at hv;split at hv
  ·rename_i g A B l e1 e2;cases hv;cases e2;rw [e1] at hF;simp only [R] at hF;obtain⟨a',c',hu,hA,hB⟩:=hF;have a3:(execOp a.eval o).run P w= .ok (.defer { target:=.fn g ⟨c'⟩,args:=⟨a'⟩ }) w:=by
    simp [execOp,a2,resolve,hu,Deferred.ofValue]
   rw [a3,Oper.upon_defer,hD];refine hn m _ w (Fr.refl hr) ⟨k.size,k.le,fun t ht=>?_,_,by rw [xX],?_⟩
   ·have a4:=k.le;rw [uL (by omega) (by unfold iY;omega) (by unfold iY;omega)];exact k.val t ht
   ·exact⟨a',c',_,rfl,hA,hB,hDf⟩
  ·cases hv
 ·cases hH:isHeavy P o.op<;>cases hD:o.dst<;>rw [hH,hD] at hv<;>simp only at hv
  ·cases hl:(sO P o.op).run e h with
   |none=>rw [hl] at hv;cases hv
   |some v=>
    rw [hl] at hv;cases hv;obtain⟨u,h1,h2⟩:=EA k hg hr a0 hl;rw [h1,GF,hD];exact hn m a w (Fr.refl hr) k
  ·rename_i d;cases hl:(sO P o.op).run e h with
   |none=>rw [hl] at hv;cases hv
   |some v=>
    rw [hl] at hv;cases hv;obtain⟨u,h1,h2⟩:=EA k hg hr a0 hl;rw [h1,GF,hD];rw [hD] at hd;exact hn m _ w (Fr.refl hr) (k.set (cY hd) h2)
  ·cases hl:(uI P o.op).run call e h with
   |bad=>rw [hl] at hv;cases hv
   |ok v hx=>
    rw [hl] at hv;cases hv;refine KM (n:=n) (e:=e) (KN a1 k hg hr a0 hl) ?_;intro u m' w' hF hR;rw [hD];exact hn m' a w' hF (k.mono hF.le)
  ·rename_i d;cases hl:(uI P o.op).run call e h with
   |bad=>rw [hl] at hv;cases hv
   |ok v hx=>
    rw [hl] at hv;cases hv;refine KM (n:=n) (e:=e) (KN a1 k hg hr a0 hl) ?_;intro u m' w' hF hR;rw [hD];rw [hD] at hd;exact hn m' _ w' hF ((k.mono hF.le).set (cY hd) hR)
end
section
variable (P:Program)
structure NV where
 ob:Id→O
 v:Id→V
structure NOp where
 run:Env→Option NV
def nK:NOp:=⟨fun _=>none⟩
def nZ (ty:Nat) (sz:Nat) (els:List (List V)) (vf:Id→V):NV:=⟨fun i=>.cells sz els i (.rw ty),vf⟩
def tZ:Op→NOp
 | .alloc t=>(match iF P t with
  |some z=>(match fM z with
   |some c=>⟨fun _=>some (nZ t (fW c) [c] (fun i=>.p i 0))⟩
   |none=>nK)
  |none=>nK)
 | .box t x=>⟨fun e=>match fM ((aD x).run e) with|some c=>some (nZ t (fW c) [c] (fun i=>.p i 0))|none=>none⟩
 | .buildSlice t len ps=>(match P.underlying t with
  | some (.slice el)=>(match cF P el,iF P el with
   |some (sz+1),some z=>(match fM z with
    | some zc=>bif Nat.ble (len*(sz+1)) 16777216&&Nat.beq (fW zc) (sz+1) then
      ⟨fun e=>match lF (fun i=>some (i*(sz+1),sz+1)) ((kY zc len).flatten) ((oW ps.toList).run e) with
        |some cs=>some (nZ el (sz+1) (rF (sz+1) len cs) (fun i=>.sl i 0 len (sz+1)))
        |none=>none⟩ else nK
    |none=>nK)
   |_,_=>nK)
  |_=>nK)
 | .makeSlice t l c=>(match P.underlying t with
  | some (.slice el)=>(match cF P el,iF P el with
   |some (sz+1),some z=>(match fM z,P.info? el with
    | some zc,some inf=>bif Nat.ble inf.bytes 1000000&&Nat.beq (fW zc) (sz+1) then
      ⟨fun e=>match (aD l).run e,(aD c).run e with
        | .i _ (.ofNat n),.i _ (.ofNat m)=>bif Nat.ble n m&&Nat.ble m 100000 then some (nZ el (sz+1) (kY zc m) (fun i=>.sl i 0 n (sz+1))) else none
        |_,_=>none⟩ else nK
    |_,_=>nK)
   |_,_=>nK)
  |_=>nK)
 | .makeMap _ none=>⟨fun _=>some ⟨fun _=>.map [] 0,fun i=>.mp i⟩⟩
 | .makeMap t (some x)=>(match P.underlying t with
  |some (.map _ _)=>⟨fun e=>match (aD x).run e with| .i _ _=>some ⟨fun _=>.map [] 0,fun i=>.mp i⟩|_=>none⟩
  |_=>nK)
 | .convert s d x=>(match P.underlying s,P.underlying d with
  |some .string,some (.slice el)=>(match P.underlying el with
   |some (.int .u8)=>⟨fun e=>match (aD x).run e with| .s l c=>some (nZ el 1 (nJ (bytesOf l c)) (fun i=>.sl i 0 l 1))|_=>none⟩
   |_=>nK)
  |_,_=>nK)
 |_=>nK
def HP:Env:=N8.all (N8.all (N8.all .top))
def eG (e:Env):List Nat→Env
 | []=>lS iY (dD iY e) HP
 |t::l=>lS t (dD t e) (eG e l)
def OV (l:List Operand):List Nat:=l.filterMap (fun| .tmp t=>some t|_=>none)
def gDst (ops:List Oper) (o:Oper):Option Nat:=match o.guard with|some (g,_)=>(nY ops g).bind (·.dst)|none=>none
def eN (ops:List Oper) (o:Oper):List Nat:=OV o.op.operands.toList++(gDst ops o).toList
def gdC (ops:List Oper) (o:Oper) (e:Env):Option Bool:=
 match o.guard with
 |none=>some true
 | some (j,want)=>match (nY ops j).bind (·.dst) with
  |none=>none
  |some g=>match dD g e with
   | .b b=>some (b==want)
   | .tup []=>some false
   |_=>none
def uD (ops:List Oper) (o:Oper) (e:Env) (h:H):Option V:=
 match gdC ops o e with
 |some true=>(sO P o.op).run e h
 |some false=>some dU
 |none=>none
def hvC (op:Op) (call:dQ) (e:Env) (h:H):VH:=
 bif isHeavy P op then(uI P op).run call e h else vhO h ((sO P op).run e h)
inductive Kn where
 |light|new|heavy
def Kn.isHeavy:Kn→Bool| .heavy=>true|_=>false
def dstIs (d:Nat) (o:Oper):Bool:=match o.dst with|some d'=>Nat.beq d' d|none=>false
def CS (ops:List Oper) (d:Nat) (o:Oper):Bool:=sL d (eN ops o)||dstIs d o
def xP (ops:List Oper) (bef:List Nat) (i:Nat) (o:Oper):Bool:=
 match o.dst with
 |none=>false
 |some d=>sL d (eN ops o)||(mU 0 ops).any (fun x=>!Nat.beq x.1 i&&(CS ops d x.2&& !Nat.testBit (natAt bef x.1) i))
def jH (ops:List Oper) (bef:List Nat) (i:Nat) (o:Oper):Kn:=
 bif xP ops bef i o then .heavy else bif isNew P o.op then .new else bif isHeavy P o.op then .heavy else .light
structure PN where
 idx:Nat
 id:Id
 ob:O
structure PC where
 idx:Nat
 chk:H→Bool
def KJ:Id:=⟨.d7,.d7,.d7,.d7,.d7⟩
def hq (h:H):H:=⟨h.mem,h.fams,KJ⟩
def fV (p:Nat→Bool):List PN→Mem→Mem
 | [],m=>m
 |x::l,m=>bif p x.idx then fU x.id (some x.ob) (fV p l m) else fV p l m
def gO (p:Nat→Bool) (pn:List PN) (h:H):H:=⟨fV p pn h.mem,h.fams,h.next⟩
def jV (d:Option Nat) (v:V) (e:Env):Env:=match d with|some d=>lS d v e|none=>e
def eqO (v:V) (x:Option V):Bool:=match x with|some v'=>V.beq v v'|none=>false
def xC (h:H):List PC→Bool
 | []=>true
 |c::l=>c.chk h&&xC h l
structure DOp2 where
 run:dQ→Env→H→List PN→List PC→Rs
def mK:DOp2:=⟨fun _ e h pn _=>.ok e (gO (fun _=>true) pn h)⟩
def iB (base:DOp2) (ops:List Oper) (bef:List Nat):List Nat→DOp2
 | []=>base
 | s ::l=>match nY ops s with
  |none=>⟨fun _ _ _ _ _=>.bad⟩
  | some o=>match jH P ops bef s o with
   | .light=>⟨fun call e h pn pc=>match uD P ops o (eG e (eN ops o)) (hq h) with
     |none=>.bad
     |some v=>(iB base ops bef l).run call (jV o.dst v e) h pn (⟨s,fun h'=>eqO v (uD P ops o (eG e (eN ops o)) h')⟩::pc)⟩
   | .new=>⟨fun call e h pn pc=>match gdC ops o (eG e (eN ops o)) with
     | some true=>(match (tZ P o.op).run (eG e (eN ops o)),Id.succ h.next with
       |some nv,some nx=>(iB base ops bef l).run call (jV o.dst (nv.v h.next) e) ⟨h.mem,h.fams,nx⟩ (⟨s,h.next,nv.ob h.next⟩::pn) pc
       |_,_=>.bad)
     |some false=>(iB base ops bef l).run call (jV o.dst dU e) h pn pc
     |none=>.bad⟩
   | .heavy=>⟨fun call e h pn pc=>match gdC ops o (eG e (eN ops o)) with
     | some true=>(match hvC P o.op call (eG e (eN ops o)) (gO (Nat.testBit (natAt bef s)) pn h) with
       | .ok v h'=>bif xC (hq h') (jQ (fun c=>!Nat.testBit (natAt bef s) c.idx) pc) then
         (iB base ops bef l).run call (jV o.dst v e) h' (jQ (fun x=>!Nat.testBit (natAt bef s) x.idx) pn) (jQ (fun c=>!Nat.testBit (natAt bef s) c.idx) pc) else .bad
       | .bad=>.bad)
     |some false=>(iB base ops bef l).run call (jV o.dst dU e) h pn pc
     |none=>.bad⟩
def QD (bef:List Nat):List Nat→List Nat→List Nat
 | [],rest=>rest
 |h::hs,rest=>jQ (fun x=>!Nat.testBit (natAt bef x) h&&(!Nat.beq x h&& !sL x hs)) rest++h::QD bef hs (jQ (fun x=>Nat.testBit (natAt bef x) h||sL x hs) rest)
def qO (ops:List Oper) (bef:List Nat) (tl:List Nat) (T:Nat):List Nat→Bool
 | []=>(mU 0 ops).all (fun x=>Nat.testBit T x.1||sL x.1 tl)
 |s::l=>!Nat.testBit T s&&(Nat.beq (natAt bef s&&&T) (natAt bef s)&&((nY ops s).isSome&&qO ops bef tl (T|||2^s) l))
def pX (ops:List Oper) (bef:List Nat) (tl:List Nat):List Nat→Bool
 | []=>true
 |s::l=>(match nY ops s with|some o=>!(jH P ops bef s o).isHeavy||(l.all (fun x=>Nat.testBit (natAt bef x) s)&&tl.all (fun x=>Nat.testBit (natAt bef x) s))|none=>false)&&pX ops bef tl l
def oD (ops:List Oper) (s:Nat):Bool:=
 match nY ops s with
 |some o=>(match o.op,o.dst,o.guard with| .store ..,none,none=>true|_,_,_=>false)
 |none=>false
def storeAt (ops:List Oper) (s:Nat) (e:Env):Option Id:=
 match nY ops s with
 |some o=>(match o.op with| .store _ x _=>(match (aD x).run (eG e (eN ops o)) with| .p b _=>some b|_=>none)|_=>none)
 |none=>none
def uB (b:Id):List Id→Bool
 | []=>false
 |a::l=>bif Id.beq a b then true else uB b l
def JG (ops:List Oper) (s1 s2:Nat) (e:Env) (h:H) (pn:List PN):Bool:=
 match pn,storeAt ops s1 e,storeAt ops s2 e with
 | [],some b1,some b2=>(match aB b1 h.mem,aB b2 h.mem with
  |some (.cells _ _ f1 _),some (.cells _ _ f2 _)=>!Id.beq f1 f2&&(!Id.beq b1 b2&&(!uB b2 (bR f1 h.fams)&& !uB b1 (bR f2 h.fams)))
  |_,_=>false)
 |_,_,_=>false
def rH:List (List V)→List (List V)→Bool
 | [],[]=>true
 |a::l,b::r=>lU a b&&rH l r
 |_,_=>false
def IF (ops:List Oper) (s1 s2:Nat) (e:Env) (h1 h2:H) (pn:List PN):Bool:=
 match pn,storeAt ops s1 e,storeAt ops s2 e with
 | [],some b1,some b2=>Id.beq b1 b2&&(match aB b1 h1.mem,aB b1 h2.mem with
  |some (.cells _ els1 _ _),some (.cells _ els2 _ _)=>rH els1 els2
  |_,_=>false)
 |_,_,_=>false
def JH (ops:List Oper) (bef:List Nat) (s1 s2:Nat):DOp2:=
 ⟨fun call e h pn pc=>match (iB P mK ops bef [s1,s2]).run call e h pn pc,(iB P mK ops bef [s2,s1]).run call e h pn pc with
  | .ok e1 h1,.ok _ h2=>bif JG ops s1 s2 e h pn then .ok e1 h1 else bif IF ops s1 s2 e h1 h2 pn then .ok e1 h1 else .bad
  |_,_=>.bad⟩
def wI (ops:List Oper):Bool:=(mU 0 ops).all (fun x=>x.2.after.toList.all (fun e=>!kS e||Nat.ble (Nat.succ e.on) x.1))
def qP (ops:List Oper) (bef:List Nat):Bool:=
 (mU 0 ops).all (fun x=>match x.2.dst with
  |none=>true
  |some d=>(mU 0 ops).all (fun y=>Nat.beq y.1 x.1||(!CS ops d y.2||(Nat.testBit (natAt bef y.1) x.1||Nat.testBit (natAt bef x.1) y.1))))
def Ld (ops:List Oper) (bef:List Nat):Bool:=
 (mU 0 ops).all (fun x=>match x.2.guard with|none=>true|some (g,_)=>Nat.testBit (natAt bef x.1) g)
def HU (ops:List Oper) (bef:List Nat):List Nat→List Nat × List Nat
 | []=>([],[])
 | [a,b]=>bif oD ops a&&(oD ops b&& !Nat.testBit (natAt bef b) a) then([],[a,b]) else([a,b],[])
 |a::l=>match HU ops bef l with|(p,t)=>(a::p,t)
def BM (ops:List Oper) (bef:List Nat):List Nat→DOp2
 | [a,b]=>JH P ops bef a b
 |_=>mK
def vD (ops:List Oper) (bef:List Nat):List Nat→Bool
 | []=>true
 | [a,b]=>oD ops a&&(oD ops b&& !Nat.beq a b)
 |_=>false
def mJ:List Nat→Nat
 | []=>0
 |a::l=>2^a|||mJ l
def zE (ops:List Oper) (bef:List Nat) (T:Nat):List Nat→Bool
 | [a,b]=>qO ops bef [] T [a,b]&&qO ops bef [] T [b,a]
 |_=>true
def regE (ops:List Oper):SOp:=
 match aO [] ops with
 | bef=>match QD bef ((jQ (fun x=>(jH P ops bef x.1 x.2).isHeavy) (mU 0 ops)).map (·.1)) ((mU 0 ops).map (·.1)) with
  | pl0=>match HU ops bef pl0 with
   |(pl,tl)=>bif wI ops&&(qP ops bef&&(Ld ops bef&&(qO ops bef tl 0 pl&&(pX P ops bef tl pl&&(vD ops bef tl&&zE ops bef (mJ pl) tl))))) then
    ⟨fun call e h=>(iB P (BM P ops bef tl) ops bef pl).run call e h [] []⟩
   else⟨fun _ _ _=>.bad⟩
end
section
variable {P:Program} {m:Mp} {w:Wo}
def NewOk (P:Program) (s:Sem Value) (m:Mp) (w:Wo) (nv:NV):Prop:=
 ∃u o l w',s.run P w= .ok u w'∧w'.heap=w.heap.push o∧w'.os=w.os∧w'.tape=w.tape∧w'.output=w.output∧l.blk=w.heap.size∧
  (∀i,oN (nv.ob i))∧(∀i sz els f ro,nv.ob i= .cells sz els f ro→f=i)∧
  (∀i (m':Mp),m.le m'→∀w2:Wo,w2.heap[w.heap.size]?=some o→ObjAt m' w2 l (nv.ob i))∧(∀i (m':Mp),m' i=some l→R m' (nv.v i) u)
def zT {els:List (List V)} (he:∀el∈els,el.length=sz)
  {us:Lv} (hR:Rl m els.flatten us) (hs:∀x∈us,fI x) {C:Array Value} {extra:Lv} (hC:C.toList=us++extra) (t:TypeId) (fz:Nat × Nat)
  (b3:fz.1=fz.2∨(sz=1∧C.size≤fz.1)) (vf:Id→V) {s:Sem Value} {u:Value} {w':Wo} (b0:s.run P w= .ok u w') (hw:w'.heap=w.heap.push (.cells C t fz)) (h1:w'.os=w.os) (h2:w'.tape=w.tape) (h3:w'.output=w.output)
  (hv:∀i (m':Mp),m' i=some ⟨w.heap.size,0,C.size⟩→R m' (vf i) u):NewOk P s m w (nZ t sz els vf):=by
 have a4:C.size=us.length+extra.length:=by rw [←eZ,hC];simp
 refine⟨u,.cells C t fz,⟨w.heap.size,0,C.size⟩,w',b0,hw,h1,h2,h3,rfl,fun _=>by simp [oN,nZ],fun i _ _ _ _ e=>by cases e;rfl,?_,hv⟩;intro i m' hm w' b2;refine⟨C,t,fz,⟨b2,by simp,?_,he,?_,?_,?_,fun ty e=>by cases e;rfl,BY _⟩⟩
 ·show els.flatten.length≤C.size;rw [←hR.length];omega
 ·intro i x hx;obtain⟨u,hu,hRu⟩:=hR.get hx;have hi:=(aZ.1 hu).1;refine⟨u,?_,hRu.mono hm,hs u (bV hu)⟩;show C[0+i]?=some u;rw [dH,←kE,hC,gM hi,hu]
 ·intro _ i hi;show¬(fz.1≤0+i∧0+i<fz.2);have b4:i<C.size:=hi;rcases b3 with h1|⟨_,h2⟩<;>omega
 ·intro _ hz;rcases b3 with h1|⟨h1,_⟩
  ·exact h1
  ·exact absurd h1 hz
def Qh (hz:iF P t=some z) (hc:fM z=some c):NewOk P (Instr.alloc t true (.tuple #[])) m w (nZ t (fW c) [c] (fun i=>.p i 0)):=by
 obtain⟨uz,hzr,rfl,_⟩:=mV (w:=w) hz;obtain⟨c',h1,h2,h3⟩:=sQ (m:=m) hc;exact zT (by simp [nI]) (us:=c') (by simpa using h2) h3 (C:=uz.cells) (extra:=[]) (by rw [h1];simp) t (0,0) (.inl rfl) _
  (u:=.pointer (some ⟨w.heap.size,0,none⟩)) (w':={ w with heap:=w.heap.push (.cells uz.cells t (0,0)) }) (by simp [Instr.alloc,hzr,newVar,newRow]) rfl rfl rfl rfl (fun i m' hm=>by simp only [R];exact⟨_,hm,rfl⟩)
def Pn {x:V} (hx:R m x u) (hc:fM x=some c):NewOk P (Instr.box t u) m w (nZ t (fW c) [c] (fun i=>.p i 0)):=by
 obtain⟨c',h1,h2,h3⟩:=BG hx hc;exact zT (by simp [nI]) (us:=c') (by simpa using h2) h3 (C:=u.cells) (extra:=[]) (by rw [h1];simp) t (0,0) (.inl rfl) _
  (u:=.pointer (some ⟨w.heap.size,0,none⟩)) (w':={ w with heap:=w.heap.push (.cells u.cells t (0,0)) }) (by simp [Instr.box,newVar,newRow]) rfl rfl rfl rfl (fun i m' hm=>by simp only [R];exact⟨_,hm,rfl⟩)
def TB {x:Option Value} (hx:x=none∨(∃kt et kk n,P.underlying t=some (.map kt et)∧x=some (.int kk n))):NewOk P (Instr.makeMap t x) m w ⟨fun _=>.map [] 0,fun i=>.mp i⟩:=by
 refine⟨.map (some w.heap.size),.map #[] 0,⟨w.heap.size,0,0⟩,{ w with heap:=w.heap.push (.map #[] 0) },?_,rfl,rfl,rfl,rfl,rfl,fun _=>trivial,?_,?_,?_⟩
 rotate_left
 ·intro i sz els f ro e;simp at e
 ·intro i m' hm w' b2;exact⟨[],b2,by simp [cR]⟩
 ·intro i m' hm;simp only [R];exact⟨_,hm,rfl⟩
 rcases hx with rfl|⟨kt,et,kk,n,hu,rfl⟩
 ·simp [Instr.makeMap]
 ·simp [Instr.makeMap,iN hu,asInt,asIntOf]
def Pk (ke:dE m n e a) (hg:Gl P m) {t el:TypeId} {len sz:Nat} {z:V} {zc:List V} {ps:Array (Nat × Operand)} (hu:P.underlying t=some (.slice el))
  (hx:(ps.toList.map (·.2)).all (dX P n)=true) (hs:cF P el=some (sz+1)) (hz:iF P el=some z) (hc:fM z=some zc) (c6:len*(sz+1)≤16777216) (a6:zc.length=sz+1) {cs:List V}
  (hb:lF (fun i=>some (i*(sz+1),sz+1)) ((kY zc len).flatten) ((oW ps.toList).run e)=some cs):
  NewOk P (Instr.buildSlice t len (ps.map fun(i,x)=>(i,a.eval x))) m w (nZ el (sz+1) (rF (sz+1) len cs) (fun i=>.sl i 0 len (sz+1))):=by
 obtain⟨p1,p2⟩:=DO ke hg hx;have b9:(ps.map fun(i,x)=>(i,a.eval x)).toList=ps.toList.map fun x=>(x.1,a.eval x.2):=by simp
 obtain⟨uz,hzr,rfl,_⟩:=mV (w:=w) hz;obtain⟨a1,h1,h2,h3⟩:=sQ (m:=m) hc;have a5:uz.cells.size=sz+1:=by rw [h1];show a1.length=_;rw [h2.length,a6]
 obtain⟨r',hr1,hr2,hr3⟩:=EU _ _ p1 p2 (h2.rep len) (zL h3 len) hb;have a2:((Array.range (len*(sz+1))).map (uz.cells[· %uz.cells.size]!))=⟨(List.replicate len a1).flatten⟩:=by
  apply mT.1;rw [←a5,yY uz.cells len (by omega),h1]
 have a4:cs.length=len*(sz+1):=by
  have hl:∀(ps:List (Nat × V)) (c r:List V),lF (fun i=>some (i*(sz+1),sz+1)) c ps=some r→r.length=c.length:=by
   intro ps
   induction ps with
   |nil=>intro c r h;have:c=r:=bP (by simpa [lF] using h);rw [this]
   | cons p ps ih=>
    intro c r h;obtain⟨i,x⟩:=p;unfold lF at h;simp only at h;cases hq:fM x with
    |none=>rw [hq] at h;cases h
    | some c0=>
     rw [hq] at h;simp only at h;cases hb:Nat.beq (fW c0) (sz+1) with
     |false=>rw [hb] at h;cases h
     | true=>
      rw [hb] at h;simp only [dG] at h;cases ho:jY (i*(sz+1)) c c0 with
      |none=>rw [ho] at h;cases h
      |some c2=>
       rw [ho] at h;obtain⟨h5,h6⟩:=xE _ _ _ ho;rw [ih _ _ h,h6];simp only [aV,bT,fD];omega
  have:=hl _ _ _ hb;rw [this,wZ];have:∀k,((List.replicate k zc).flatten).length=k*(sz+1):=by
   intro k;induction k with
   |zero=>simp
   |succ k ih=>rw [pL,mD,aV,ih,a6,kC];omega
  exact this len
 obtain⟨c1,c2,c3⟩:=MA len cs a4;refine zT c2 (us:=r') (by rw [c1];exact hr2) hr3 (C:=⟨r'⟩) (extra:=[]) (by simp) el (0,0) (.inl rfl) _ (u:=.slice (some ⟨w.heap.size,0,none⟩) len len) (w':={ w with heap:=w.heap.push (.cells ⟨r'⟩ el (0,0)) }) ?_ rfl rfl rfl rfl ?_
 ·have b5:¬(len*(sz+1)>2^24):=by omega
  rw [←b9] at hr1
  by_cases h0:len*(sz+1)=0
  ·have b8:len=0:=by
    rcases Nat.mul_eq_zero.1 h0 with h|h
    ·exact h
    ·omega
   subst b8;simp only [Instr.buildSlice,cX,bK hu,eD,jU hs,BV,if_neg b5,if_pos h0,dV];have e0:((Array.range (0*(sz+1))).map fun x=>(#[]:Array Value)[x%(#[]:Array Value).size]!)=(⟨(List.replicate 0 a1).flatten⟩:Array Value):=by simp
   simp only [e0,hr1,cX,newRow,ND,eD,dV]
  ·simp only [Instr.buildSlice,cX,bK hu,eD,jU hs,BV,if_neg b5,if_neg h0,dV,hzr,a2,hr1,newRow,ND]
 ·intro i m' hm;simp only [R];refine⟨_,len,hm,by simp,aA _,?_⟩;show 0+len*(sz+1)≤r'.length;rw [hr2.length];omega
def Jk {N M:Nat} {k1 k2:IntKind} {a3:TypeInfo} (hu:P.underlying t=some (.slice el)) (hs:cF P el=some (sz+1))
  (hz:iF P el=some z) (hc:fM z=some zc) (hi:P.info? el=some a3) (b7:a3.bytes≤1000000) (a6:zc.length=sz+1) (b6:N≤M) (hM:M≤100000):
  NewOk P (Instr.makeSlice t (.int k1 (N:Int)) (.int k2 (M:Int))) m w (nZ el (sz+1) (kY zc M) (fun i=>.sl i 0 N (sz+1))):=by
 obtain⟨uz,hzr,rfl,_⟩:=mV (w:=w) hz;obtain⟨a1,h1,h2,h3⟩:=sQ (m:=m) hc;have a5:uz.cells.size=sz+1:=by rw [h1];show a1.length=_;rw [h2.length,a6]
 have a2:((Array.range (M*(sz+1))).map (uz.cells[· %uz.cells.size]!))=⟨(List.replicate M a1).flatten⟩:=by
  apply mT.1;rw [←a5,yY uz.cells M (by omega),h1]
 have a7:∀e0∈kY zc M,e0.length=sz+1:=by
  intro e0 he;rw [wZ] at he;rw [(yS.1 he).2,a6]
 have a4:((List.replicate M a1).flatten).length=M*(sz+1):=by
  have:∀k,((List.replicate k a1).flatten).length=k*(sz+1):=by
   intro k;induction k with
   |zero=>simp
   |succ k ih=>rw [pL,mD,aV,ih,h2.length,a6,kC];omega
  exact this M
 refine zT a7 (us:=(List.replicate M a1).flatten) (h2.rep M) (zL h3 M) (C:=⟨(List.replicate M a1).flatten⟩) (extra:=[]) (by simp) el (0,0) (.inl rfl) _ (u:=.slice (some ⟨w.heap.size,0,none⟩) N M) (w':={ w with heap:=w.heap.push (.cells ⟨(List.replicate M a1).flatten⟩ el (0,0)) }) ?_ rfl rfl rfl rfl ?_
 ·have a8:(a3.bytes:Int)*(M:Int)≤281474976710656:=by
   have h9:a3.bytes*M≤1000000*100000:=tG b7 hM;have h8:((a3.bytes*M:Nat):Int)≤281474976710656:=by omega
   simpa using h8
  obtain⟨i2,hi2,hzi⟩:∃i,P.info? el=some i∧i.zero=some uz:=by
   obtain⟨u2,hu2,_,i,b4,hz'⟩:=mV (w:=w) hz;rw [hzr] at hu2;cases hu2;exact⟨i,b4,hz'⟩
  rw [hi] at hi2;cases hi2;have b1:a3.size=sz+1:=by
   obtain⟨i3,hi3,h4⟩:=rZ hs;rw [hi] at hi3;cases hi3;exact h4
  have:=GC (P:=P) w t el a3 uz hu hi hzi k1 k2 (N:Int) (M:Int) (by omega) (by omega) a8 (by omega);rw [this,b1];simp only [CL,madeCells];rw [a2];rfl
 ·intro i m' hm;simp only [R];refine⟨_,M,hm,by simp,b6,?_⟩;show 0+M*(sz+1)≤((List.replicate M a1).flatten).length;omega
def Cv {s d:TypeId} {l c:Nat} (hs:P.underlying s=some .string) (hd:P.underlying d=some (.slice el)) (he:P.underlying el=some (.int .u8)) (hx:R m (.s l c) u):
  NewOk P (convert s d u) m w (nZ el 1 (nJ (bytesOf l c)) (fun i=>.sl i 0 l 1)):=by
 rw [iI] at hx;obtain⟨b,rfl,hb,hc⟩:=hx;have b1:=tJ hb;rw [←hb];obtain⟨h1,h2,h3⟩:=FP (m:=m) b.data.toList;have c5:=grownCap_ge w b.size 0 el;have c4:(Lib.bytesCells w el b).size=grownCap w b.size 0 el:=by
  have:b.data.size=b.size:=rfl;simp [Lib.bytesCells];omega
 refine zT h2 h3 (by simp [fI]) (C:=Lib.bytesCells w el b) (extra:=List.replicate (grownCap w b.size 0 el-b.size) (.int .u8 0)) (by simp [Lib.bytesCells]) el
  ((Lib.bytesCells w el b).size,(Lib.bytesCells w el b).size+1) (.inr ⟨rfl,aA _⟩) _ (Sa w s d el b hs hd he) ?_ ?_ ?_ ?_ ?_
 ·rw [BH];rfl
 ·rw [BH];rfl
 ·rw [BH];rfl
 ·rw [BH];rfl
 ·intro i m' hm;simp only [R];refine⟨_,grownCap w b.size 0 el,hm,by simp [b1],by omega,?_⟩;show 0+grownCap w b.size 0 el*1≤(Lib.bytesCells w el b).size;omega
def It (k:dE m n e a) (hg:Gl P m) {o:Oper} (a0:o.op.operands.toList.all (dX P n)=true) {nv:NV}
  (hv:(tZ P o.op).run e=some nv):∃s:Sem Value,execOp a.eval o=(do pure (Next.value (←s)):Sem Next)∧NewOk P s m w nv:=by
 obtain⟨dst,op,type,pos,after,guard⟩:=o;simp only at a0 hv;have a9:∀{x:Operand},dX P n x=true→R m ((aD x).run e) (a.eval x):=fun hx=>eI k hg hx
 cases op<;>simp only [tZ] at hv<;>(try (cases hv;done))
 case alloc t=>
  split at hv
  ·rename_i z hz;split at hv
   ·rename_i c hc;cases hv;exact⟨_,rfl,Qh hz hc⟩
   ·cases hv
  ·cases hv
 case box t x=>
  have hX:=a9 (show dX P n x=true by simpa [Op.operands] using a0);cases hc:fM ((aD x).run e) with
  |none=>simp only [hc] at hv;cases hv
  |some c=>
   simp only [hc] at hv;cases hv;exact⟨_,rfl,Pn hX hc⟩
 case makeMap t r=>
  cases r with
  |none=>cases hv;exact⟨_,rfl,TB (.inl rfl)⟩
  | some x=>
   have hX:=a9 (show dX P n x=true by simpa [Op.operands] using a0);simp only at hv;split at hv
   ·rename_i kt et hu;simp only at hv;split at hv
    ·rename_i kk nn e1;cases hv;rw [e1] at hX;simp only [R] at hX;exact⟨_,rfl,TB (.inr ⟨kt,et,kk,nn,hu,by rw [rP,hX]⟩)⟩
    ·cases hv
   ·cases hv
 case convert s d x=>
  have hX:=a9 (show dX P n x=true by simpa [Op.operands] using a0);split at hv
  ·rename_i el hs hd;split at hv
   ·rename_i he;simp only at hv;split at hv
    ·rename_i l c e1;cases hv;rw [e1] at hX;exact⟨_,rfl,Cv hs hd he hX⟩
    ·cases hv
   ·cases hv
  ·cases hv
 case buildSlice t len ps=>
  split at hv
  ·rename_i el hu;split at hv
   ·rename_i sz z hs hz;split at hv
    ·rename_i zc hc;cases hcd:(Nat.ble (len*(sz+1)) 16777216&&Nat.beq (fW zc) (sz+1)) with
     |false=>rw [hcd] at hv;cases hv
     | true=>
      rw [hcd] at hv;simp only [dG] at hv;simp only [aR] at hcd;split at hv
      ·rename_i cs hb;cases hv;exact⟨_,rfl,Pk k hg hu (by simpa [Op.operands] using a0) hs hz hc (cY hcd.1) (by rw [←nI];exact bG hcd.2) hb⟩
      ·cases hv
    ·cases hv
   ·cases hv
  ·cases hv
 case makeSlice t lx cx=>
  simp [Op.operands] at a0;have hL:=a9 a0.1;have hC:=a9 a0.2;split at hv
  ·rename_i el hu;split at hv
   ·rename_i sz z hs hz;split at hv
    ·rename_i zc a3 hc hi;cases hcd:(Nat.ble a3.bytes 1000000&&Nat.beq (fW zc) (sz+1)) with
     |false=>rw [hcd] at hv;cases hv
     | true=>
      rw [hcd] at hv;simp only [dG] at hv;simp only [aR] at hcd;split at hv
      ·rename_i k1 N k2 M e1 e2;rw [e1] at hL;rw [e2] at hC;simp only [R] at hL hC;cases hcd2:(Nat.ble N M&&Nat.ble M 100000) with
       |false=>rw [hcd2] at hv;cases hv
       |true=>
        rw [hcd2] at hv;simp only [dG] at hv;simp only [aR] at hcd2;cases hv;refine⟨Instr.makeSlice t (.int k1 (N:Int)) (.int k2 (M:Int)),by simp only [execOp,hL,hC];rfl,Jk (k1:=k1) (k2:=k2) hu hs hz hc hi (cY hcd.1) (by rw [←nI];exact bG hcd.2) (cY hcd2.1) (cY hcd2.2)⟩
      ·cases hv
    ·cases hv
   ·cases hv
  ·cases hv
end
section
variable {P:Program} {m:Mp} {w:Wo}
def nX:∀(l:List Oper) (i:Nat),nY l i=l[i]?
 | [],_=>by simp [nY]
 |a::_,0=>by simp [nY]
 |_::l,i+1=>by simp [nY,nX l i]
def SC (P:Program) (n:Nat) (o:Oper):Bool:=o.op.operands.toList.all (dX P n)&&vW n o.dst
def jE (P:Program) (n:Nat) (ops:Array Oper):Bool:=ops.toList.all (SC P n)
def mY {ops:Array Oper} (h:jE P n ops=true) {i:Nat} {o:Oper} (ho:ops[i]?=some o):o.op.operands.toList.all (dX P n)=true∧vW n o.dst=true:=by
 have hm:o∈ops.toList:=by
  rw [←kE] at ho;exact bV ho
 have:=(kV.1 h) o hm;simpa [SC] using this
def jJ (h:vW n d=true) {x:Nat} (hx:d=some x):x<n:=by
 subst hx;exact cY h
def Bi {ops:Array Oper} (hg:(ops[j]?).bind (·.dst)=some g) (a6:g<a.tmps.size):
  yielded ops a.tmps j=match a.tmps.getD g undef with| .bool b=>some b|_=>none:=by
 simp only [yielded,hg,rX,a6,getElem?_pos,ZR,BX];cases a.tmps[g]<;>rfl
def ID (k:dE m n e a) {d:Option Nat} (hd:vW n d=true):dE m n (CV d e) (a.put d undef):=by
 cases d with
 |none=>exact k
 |some d=>exact k.set (jJ hd rfl) (show R m dU undef by simp [R,Rl,dU,undef])
def UN {ops:Array Oper} (a3:jE P n ops=true) {j:Nat} (hj:(ops[j]?).bind (·.dst)=some g) (hs:a.tmps.size=n) (hR:R m (dD g e) (a.tmps.getD g undef)) (a4:Bool):
  (∀b,dD g e= .b b→(yielded ops a.tmps j==some a4)=(b==a4))∧(dD g e= .tup []→(yielded ops a.tmps j==some a4)=false):=by
 have a6:g<n:=by
  cases ho:ops[j]? with
  |none=>rw [ho] at hj;cases hj
  |some oj=>rw [ho] at hj;exact jJ (mY a3 ho).2 (by simpa using hj)
 rw [Bi hj (by omega)];constructor
 ·intro b hb;rw [hb] at hR;simp only [R] at hR;rw [hR];cases b<;>cases a4<;>rfl
 ·intro hb;rw [hb] at hR;simp only [R,Rl] at hR;obtain⟨l,h1,rfl⟩:=hR;rw [h1];rfl
def SD (a0:jT P call) (k:dE m n e a) (hg:Gl P m) {h h':H} (hr:HR m h w) {ops:Array Oper} (a3:jE P n ops=true) {i:Nat} {o:Oper} (hi:ops[i]?=some o)
  (hv:(zQ P ops.toList o).run call e h= .ok e' h') {K:Act→Wo→Prop} {Q:Exit→Act→Wo→Prop}
  (hn:∀m' a' w',Fr m h w m' h' w'→dE m' n e' a'→K a' w'):wpOp P ops Q i K a w:=by
 obtain⟨a5,hd⟩:=mY a3 hi;unfold wpOp;simp only [hi];unfold zQ at hv;cases hgd:o.guard with
 |none=>
  rw [hgd] at hv;simp only at hv;rw [if_pos (by simp [Region.wanted,hgd])];exact .inl (YP a0 k hg hr a5 hd hv hn)
 | some jw=>
  obtain⟨j,a4⟩:=jw;rw [hgd] at hv;simp only [nX,kE] at hv;cases hj:(ops[j]?).bind (·.dst) with
  |none=>
   rw [hj] at hv;simp only at hv;cases hv;have:Region.wanted o (yielded ops a.tmps)=false:=by simp [Region.wanted,hgd,yielded,hj]
   rw [if_neg (by simp [this])];exact hn m _ w (Fr.refl hr) (ID k hd)
  | some g=>
   rw [hj] at hv;simp only at hv;have a6:g<n:=by
    cases ho:ops[j]? with
    |none=>rw [ho] at hj;cases hj
    |some oj=>rw [ho] at hj;exact jJ (mY a3 ho).2 (by simpa using hj)
   obtain⟨g1,g2⟩:=UN a3 hj k.size (k.val g a6) a4;have a9:Region.wanted o (yielded ops a.tmps)=(yielded ops a.tmps j==some a4):=by simp [Region.wanted,hgd]
   rcases MY hv with⟨b,hb,hv⟩|⟨hb,hv⟩
   ·have:=g1 b hb;rcases pV hv with⟨a8,hv⟩|⟨a8,hv⟩
    ·rw [if_pos (by rw [a9,this,a8])];exact .inl (YP a0 k hg hr a5 hd hv hn)
    ·rw [if_neg (by rw [a9,this,a8];simp)];cases hv;exact hn m _ w (Fr.refl hr) (ID k hd)
   ·unfold UD at hv;split at hv
    ·rename_i hu;cases hv;rw [if_neg (by rw [a9,g2 hu];simp)];exact hn m _ w (Fr.refl hr) (ID k hd)
    ·cases hv
def QB {n:Nat} {call:dQ} (a0:jT P call) {ops:Array Oper} (a3:jE P n ops=true) {Q:Exit→Act→Wo→Prop}:
  ∀(l:List Oper) (i:Nat) (m:Mp) (e e':Env) (a:Act) (h h':H) (w:Wo),ops.toList.drop i=l→dE m n e a→Gl P m→HR m h w→(oR P ops.toList l).run call e h= .ok e' h'→
   (∀m' a' w',Fr m h w m' h' w'→dE m' n e' a'→Q .normal a' w')→wpOps P ops Q (List.range' i l.length) a w
 | [],i,m,e,e',a,h,h',w,hl,k,hg,hr,hv,hn=>by
  simp only [oR] at hv;cases hv;exact hn m a w (Fr.refl hr) k
 | o::l,i,m,e,e',a,h,h',w,hl,k,hg,hr,hv,hn=>by
  have hi:ops[i]?=some o:=by
   have:(ops.toList.drop i)[0]?=some o:=by rw [hl];rfl
   rw [mC] at this;simpa using this
  have b3:ops.toList.drop (i+1)=l:=by
   have:(ops.toList.drop i).drop 1=l:=by rw [hl];rfl
   rw [HA] at this;exact this
  simp only [jD,CH];rw [wpOps_cons];simp only [oR] at hv;cases h1:(zQ P ops.toList o).run call e h with
  |bad=>rw [h1] at hv;cases hv
  |ok e1 h1'=>
   rw [h1] at hv;refine SD a0 k hg hr a3 hi h1 ?_;intro m1 a1 w1 a7 b0;exact QB a0 a3 l (i+1) m1 e1 e' a1 h1' h' w1 b3 b0 (hg.mono a7.le) a7.hr hv (fun m2 a2 w2 b2 b1=>hn m2 a2 w2 (a7.trans b2) b1)
def Gf (a0:jT P call) {ops:Array Oper} (a3:jE P n ops=true) {Q:Exit→Act→Wo→Prop} {e e':Env} {a:Act} {h h':H} {id:Nat}
  (k:dE m n e a) (hg:Gl P m) (hr:HR m h w) (hv:(oR P ops.toList ops.toList).run call e h= .ok e' h')
  (hn:∀m' a' w',Fr m h w m' h' w'→dE m' n e' a'→Q .normal a' w'):(Code.region id ops false).wp P Q a w:=by
 refine wp_region ?_;have:=QB a0 a3 ops.toList 0 m e e' a h h' w (by simp) k hg hr hv hn;rw [Rj];simpa using this
end
section
variable {P:Program} {m:Mp} {w:Wo}
mutual
theorem beq_eq:∀{x y:V},V.beq x y=true→x=y
 | .top,y,h=>by cases y<;>simp only [V.beq,fT] at h;rfl
 | .b x,y,h=>by
  cases y<;>simp only [V.beq,fT] at h;simp at h;rw [h]
 | .i k n,y,h=>by
  cases y<;>simp only [V.beq,fT] at h;rename_i k' n';simp only [aR] at h;obtain⟨h1,h2⟩:=h;have hk:k=k':=by cases k<;>cases k'<;>first|rfl|(simp at h1)
  subst hk;cases n<;>cases n'<;>simp only [fT] at h2
  ·rw [bG h2]
  ·rw [bG h2]
 | .s l c,y,h=>by
  cases y<;>simp only [V.beq,fT] at h;simp only [sEq,aR] at h;rw [bG h.1,bG h.2]
 | .pn,y,h=>by cases y<;>simp only [V.beq,fT] at h;rfl
 | .p b o,y,h=>by
  cases y<;>simp only [V.beq,fT] at h;simp only [aR] at h;rw [Id.beq_iff.1 h.1,bG h.2]
 | .sn,y,h=>by cases y<;>simp only [V.beq,fT] at h;rfl
 | .sl b o l z,y,h=>by
  cases y<;>simp only [V.beq,fT] at h;simp only [aR] at h;rw [Id.beq_iff.1 h.1,bG h.2.1,bG h.2.2.1,bG h.2.2.2]
 | .se,y,h=>by cases y<;>simp only [V.beq,fT] at h;rfl
 | .mn,y,h=>by cases y<;>simp only [V.beq,fT] at h;rfl
 | .mp b,y,h=>by
  cases y<;>simp only [V.beq,fT] at h;rw [Id.beq_iff.1 h]
 | .fn f a b,y,h=>by
  cases y with
  | fn f' a' b'=>
   cases f with
   | func n=>
    cases f' with
    |func n'=>
     simp only [V.beq,aR] at h;rw [bG h.1,wD h.2.1,wD h.2.2]
    |_=>simp [V.beq] at h
   |_=>simp [V.beq] at h
  |_=>simp [V.beq] at h
 | .nf,y,h=>by cases y<;>simp only [V.beq,fT] at h;rfl
 | .ifc t v,y,h=>by
  cases y<;>simp only [V.beq,fT] at h;simp only [aR] at h;rw [bG h.1,beq_eq h.2]
 | .ni,y,h=>by cases y<;>simp only [V.beq,fT] at h;rfl
 | .agg l,y,h=>by
  cases y<;>simp only [V.beq,fT] at h;rw [wD h]
 | .tup l,y,h=>by
  cases y<;>simp only [V.beq,fT] at h;rw [wD h]
theorem wD:∀{l r:List V},lU l r=true→l=r
 | [],r,h=>by cases r<;>simp only [lU,fT] at h;rfl
 | a::l,r,h=>by
  cases r with
  |nil=>simp [lU] at h
  |cons b r=>
   simp only [lU,aR] at h;rw [beq_eq h.1,wD h.2]
end
def HR.sub (k:HR m h w) {mem':Mem} {nx:Id} (hs:∀x ox,aB x mem'=some ox→aB x h.mem=some ox) (hn:h.next.toNat≤nx.toNat):HR m ⟨mem',h.fams,nx⟩ w where
 obj:=fun b ob hb=>k.obj b ob (hs _ _ hb)
 dom:=fun b l hb=>eE (k.dom b l hb) hn
 sep:=fun b b' ob a9 l l' h1 h2=>k.sep b b' ob a9 l l' (hs _ _ h1) (hs _ _ h2)
 fam:=fun b b' sz els f ro b1 els' ro' h1 h2=>k.fam b b' sz els f ro b1 els' ro' (hs _ _ h1) (hs _ _ h2)
 ord:=fun f=>(k.ord f).imp (fun c0=>fun sz els f ro b1 els' f' ro' l l' h1 h2=>c0 sz els f ro b1 els' f' ro' l l' (hs _ _ h1) (hs _ _ h2))
 lt:=k.lt
 famlt:=fun b sz els f ro hb=>eE (k.famlt b sz els f ro (hs _ _ hb)) hn
 flt:=fun f x hx=>eE (k.flt f x hx) hn
def Fr.bump (k:Fr m0 h0 w0 m h w) {nx:Id} (hn:h.next.toNat≤nx.toNat):Fr m0 h0 w0 m ⟨h.mem,h.fams,nx⟩ w:=
 ⟨k.le,k.hr.sub (fun _ _ h=>h) hn,k.size,k.keep,k.os,k.tape,k.output,k.back,k.old,aE k.nxt hn,k.famold⟩
def Priv (h:H) (x:Id):Prop:=∀y ox oy,y≠x→aB x h.mem=some ox→aB y h.mem=some oy→¬QE oy ox
def Priv.sep {x y:Id} {ox oy:O} {lx ly:Loc} (k:HR m h w) (hp:Priv h x) (hx:aB x h.mem=some ox) (hy:aB y h.mem=some oy) (a0:m x=some lx) (a5:m y=some ly) (a3:y≠x):lx.blk≠ly.blk:=
 fun e=>hp y ox oy a3 hx hy (k.sep y x oy ox ly lx hy hx a5 a0 a3 e.symm)
def Fr.addNew (k:Fr m0 h0 w0 m h w) {i:Id} (hi:m i=none) (d3:h0.next.toNat≤i.toNat) (c9:i.toNat<h.next.toNat) {o:Obj} {ob:O} {l:Loc} (hl:l.blk=w.heap.size)
  (hf:∀sz els f ro,ob= .cells sz els f ro→f=i) (c8:∀b sz els f ro,aB b h.mem=some (.cells sz els f ro)→f≠i) {w':Wo} (hw:w'.heap=w.heap.push o) (h1:w'.os=w.os) (h2:w'.tape=w.tape) (h3:w'.output=w.output)
  (b8:∀m':Mp,m.le m'→∀w2:Wo,w2.heap[w.heap.size]?=some o→ObjAt m' w2 l ob) {mem':Mem} (d4:aB i mem'=some ob) (d5:∀b,b≠i→aB b mem'=aB b h.mem):
  Fr m0 h0 w0 (fun b=>if b=i then some l else m b) ⟨mem',h.fams,h.next⟩ w'∧m.le (fun b=>if b=i then some l else m b):=by
 have kr:=k.hr;have c2:m.le (fun b=>if b=i then some l else m b):=by
  intro b l' hb;have:b≠i:=fun e=>by rw [e,hi] at hb;cases hb
  simp [this,hb]
 have a4:∀b a9,aB b mem'=some a9→(b=i∧a9=ob)∨(b≠i∧aB b h.mem=some a9):=by
  intro b a9 hb
  by_cases e:b=i
  ·subst e;rw [d4] at hb;exact .inl ⟨rfl,(bP hb).symm⟩
  ·rw [d5 b e] at hb;exact .inr ⟨e,hb⟩
 have d9:w'.heap.size=w.heap.size+1:=by rw [hw];simp
 have b9:∀B,B<w.heap.size→w'.heap[B]?=w.heap[B]?:=fun B hB=>by rw [hw];simp [lI,ZW hB]
 refine⟨⟨Mp.le_trans k.le c2,⟨?_,?_,?_,?_,?_,?_,?_,kr.flt⟩,by have:=k.size;omega,?_,h1.trans k.os,h2.trans k.tape,h3.trans k.output,?_,?_,k.nxt,?_⟩,c2⟩
 ·intro b a9 hb;rcases a4 b a9 hb with⟨rfl,rfl⟩|⟨a3,hb⟩
  ·exact⟨l,by simp,b8 _ c2 _ (by rw [hw];simp)⟩
  ·obtain⟨l',b2,ho⟩:=kr.obj b a9 hb;exact⟨l',by simp [a3,b2],ho.keep c2 (b9 _ (kr.lt _ _ b2))⟩
 ·intro b l' hb
  by_cases e:b=i
  ·subst e;exact c9
  ·simp [e] at hb;exact kr.dom _ _ hb
 ·intro b b' d0 d1 l1 l2 hb c5 a7 a6 a3 a8;rcases a4 b d0 hb with⟨rfl,rfl⟩|⟨hn1,hb1⟩<;>rcases a4 b' d1 c5 with⟨rfl,rfl⟩|⟨hn2,hb2⟩
  ·exact absurd rfl a3
  ·simp at a7;simp [hn2] at a6;have:=kr.lt _ _ a6;subst a7;omega
  ·simp at a6;simp [hn1] at a7;have:=kr.lt _ _ a7;subst a6;omega
  ·simp [hn1] at a7;simp [hn2] at a6;exact kr.sep b b' d0 d1 l1 l2 hb1 hb2 a7 a6 a3 a8
 ·intro b b' sz els f ro b1 els' ro' hb c5 a3;rcases a4 b _ hb with⟨rfl,e1⟩|⟨hn1,hb1⟩<;>rcases a4 b' _ c5 with⟨rfl,e2⟩|⟨hn2,hb2⟩
  ·exact absurd rfl a3
  ·exact absurd (hf _ _ _ _ e1.symm) (c8 _ _ _ _ _ hb2)
  ·exact absurd (hf _ _ _ _ e2.symm) (c8 _ _ _ _ _ hb1)
  ·exact kr.fam b b' _ _ _ _ _ _ _ hb1 hb2 a3
 ·intro f;refine(kr.ord f).imp ?_;intro x y c0 sz els f1 ro b1 els' f2 ro' l1 l2 hx hy a7 a6 a8;rcases a4 x _ hx with⟨rfl,e1⟩|⟨hn1,hb1⟩<;>rcases a4 y _ hy with⟨rfl,e2⟩|⟨hn2,hb2⟩
  ·rw [a7] at a6;cases a6;rw [←e1] at e2;cases e2;exact aA _
  ·simp at a7;simp [hn2] at a6;have:=kr.lt _ _ a6;subst a7;omega
  ·simp at a6;simp [hn1] at a7;have:=kr.lt _ _ a7;subst a6;omega
  ·simp [hn1] at a7;simp [hn2] at a6;exact c0 _ _ _ _ _ _ _ _ _ _ hb1 hb2 a7 a6 a8
 ·intro b l' hb
  by_cases e:b=i
  ·subst e;simp at hb;subst hb;omega
  ·simp [e] at hb;have:=kr.lt _ _ hb;omega
 ·intro b sz els f ro hb;rcases a4 b _ hb with⟨rfl,e1⟩|⟨hn1,hb1⟩
  ·have:=hf _ _ _ _ e1.symm;subst this;exact c9
  ·exact kr.famlt _ _ _ _ _ hb1
 ·intro B hB hn;rw [b9 B (eE hB k.size)];exact k.keep B hB hn
 ·intro b a9 l' hb b2;rcases a4 b a9 hb with⟨rfl,rfl⟩|⟨a3,hb⟩
  ·simp at b2;subst b2;have:=k.size;exact .inl (by omega)
  ·simp [a3] at b2;exact k.back b a9 l' hb b2
 ·intro b l' hb c6;have:b≠i:=fun e=>by subst e;omega
  simp [this] at hb;exact k.old b l' hb c6
 ·intro b sz els f ro hb;rcases a4 b _ hb with⟨rfl,e1⟩|⟨hn1,hb1⟩
  ·have:=hf _ _ _ _ e1.symm;subst this;exact .inl d3
  ·exact k.famold _ _ _ _ _ hb1
def Fr.merge {H1:H} (k:HR m H1 w) {memb:Mem} (hs:∀x ox,aB x memb=some ox→aB x H1.mem=some ox)
  {X:Id→Prop} (d8:∀x ox,aB x H1.mem=some ox→X x∨aB x memb=some ox) (c4:∀x,X x→aB x memb=none∧∃ox,aB x H1.mem=some ox) (c1:∀x,X x→Priv H1 x)
  {h':H} (kf:Fr m ⟨memb,H1.fams,H1.next⟩ w m' h' w') {mem2:Mem} (h2:∀x ox,aB x mem2=some ox↔(¬X x∧aB x h'.mem=some ox)∨(X x∧aB x H1.mem=some ox)):
  Fr m H1 w m' ⟨mem2,h'.fams,h'.next⟩ w':=by
 have kr:=kf.hr;have hm:∀x ox,X x→aB x H1.mem=some ox→∃l,m x=some l∧m' x=some l∧ObjAt m w l ox:=by
  intro x ox hx ho;obtain⟨l,hl,b8⟩:=k.obj x ox ho;exact⟨l,hl,kf.le _ _ hl,b8⟩
 have b5:∀x ox lx y oy ly,X x→aB x H1.mem=some ox→m x=some lx→aB y memb=some oy→m y=some ly→lx.blk≠ly.blk:=by
  intro x ox lx y oy ly hx ho a0 hy a5;have a3:y≠x:=fun e=>by subst e;rw [(c4 y hx).1] at hy;cases hy
  exact(c1 x hx).sep k ho (hs _ _ hy) a0 a5 a3
 have b4:∀x ox lx y oy ly,X x→aB x H1.mem=some ox→m x=some lx→aB y h'.mem=some oy→m' y=some ly→lx.blk≠ly.blk:=by
  intro x ox lx y oy ly hx ho a0 hy a5 e;rcases kf.back y oy ly hy a5 with h1|⟨b0,ob0,l0,h0,hl0,he,_⟩
  ·have:=k.lt _ _ a0;omega
  ·exact b5 x ox lx b0 ob0 l0 hx ho a0 h0 hl0 (by rw [he,e])
 have d2:∀x,X x→∃ox,aB x H1.mem=some ox:=fun x hx=>(c4 x hx).2
 have b7:∀x ox lx,X x→aB x H1.mem=some ox→m x=some lx→w'.heap[lx.blk]?=w.heap[lx.blk]?:=by
  intro x ox lx hx ho a0;refine kf.keep _ (k.lt _ _ a0) ?_;rintro⟨b0,ob0,l0,h0,hl0,he,_⟩;exact b5 x ox lx b0 ob0 l0 hx ho a0 h0 hl0 he.symm
 have c7:∀x ox lx y oy ly,X x→aB x H1.mem=some ox→m x=some lx→X y→aB y H1.mem=some oy→m y=some ly→y≠x→lx.blk≠ly.blk:=
  fun x ox lx y oy ly hx ho a0 hy d6 a5 a3=>(c1 x hx).sep k ho d6 a0 a5 a3
 have b3:∀x l,m' x=some l→X x→m x=some l:=fun x l hl hx=>by
  obtain⟨ox,ho⟩:=d2 x hx;obtain⟨l1,a1,a2,_⟩:=hm x ox hx ho;rw [a2] at hl;cases hl;exact a1
 refine⟨kf.le,⟨?_,kr.dom,?_,?_,?_,kr.lt,?_,kr.flt⟩,kf.size,?_,kf.os,kf.tape,kf.output,?_,kf.old,kf.nxt,?_⟩
 ·intro x ox hx;rcases(h2 x ox).1 hx with⟨_,hx⟩|⟨hX,hx⟩
  ·exact kr.obj x ox hx
  ·obtain⟨l,hl,b2,b8⟩:=hm x ox hX hx;exact⟨l,b2,b8.keep kf.le (b7 x ox l hX hx hl)⟩
 ·intro x y ox oy lx ly hx hy a0 a5 a3 a8;rcases(h2 x ox).1 hx with⟨_,hx⟩|⟨hX,hx⟩<;>rcases(h2 y oy).1 hy with⟨_,hy⟩|⟨hY,hy⟩
  ·exact kr.sep x y ox oy lx ly hx hy a0 a5 a3 a8
  ·exact absurd a8.symm (b4 y oy ly x ox lx hY hy (b3 _ _ a5 hY) hx a0)
  ·exact absurd a8 (b4 x ox lx y oy ly hX hx (b3 _ _ a0 hX) hy a5)
  ·exact absurd a8 (c7 x ox lx y oy ly hX hx (b3 _ _ a0 hX) hY hy (b3 _ _ a5 hY) (fO a3))
 ·intro x y sz els f ro b1 els' ro' hx hy a3;have b6:∀x sz els f ro y b1 els' ro',X x→aB x H1.mem=some (.cells sz els f ro)→¬X y→aB y h'.mem=some (.cells b1 els' f ro')→False:=by
   intro x sz els f ro y b1 els' ro' hX hx hY hy;rcases kf.famold _ _ _ _ _ hy with h1|⟨b0,sz0,els0,ro0,h0⟩
   ·have:=k.famlt _ _ _ _ _ hx;have d7:H1.next.toNat≤f.toNat:=h1;omega
   ·have c3:aB b0 memb=some (.cells sz0 els0 f ro0):=h0;have a3:b0≠x:=fun e=>by subst e;rw [(c4 b0 hX).1] at c3;cases c3
    exact c1 x hX b0 _ _ a3 hx (hs _ _ c3) rfl
  rcases(h2 x _).1 hx with⟨hX,hx⟩|⟨hX,hx⟩<;>rcases(h2 y _).1 hy with⟨hY,hy⟩|⟨hY,hy⟩
  ·exact kr.fam x y _ _ _ _ _ _ _ hx hy a3
  ·exact(b6 y _ _ _ _ x _ _ _ hY hy hX hx).elim
  ·exact(b6 x _ _ _ _ y _ _ _ hX hx hY hy).elim
  ·exact(c1 x hX y _ _ (fO a3) hx hy rfl).elim
 ·intro f;refine(kr.ord f).imp ?_;intro x y c0 sz els f1 ro b1 els' f2 ro' lx ly hx hy a0 a5 a8;rcases(h2 x _).1 hx with⟨hX,hx⟩|⟨hX,hx⟩<;>rcases(h2 y _).1 hy with⟨hY,hy⟩|⟨hY,hy⟩
  ·exact c0 _ _ _ _ _ _ _ _ _ _ hx hy a0 a5 a8
  ·exact absurd a8.symm (b4 y _ ly x _ lx hY hy (b3 _ _ a5 hY) hx a0)
  ·exact absurd a8 (b4 x _ lx y _ ly hX hx (b3 _ _ a0 hX) hy a5)
  ·by_cases e:y=x
   ·subst e;rw [hx] at hy;cases hy;rw [a0] at a5;cases a5;exact aA _
   ·exact absurd a8 (c7 x _ lx y _ ly hX hx (b3 _ _ a0 hX) hY hy (b3 _ _ a5 hY) e)
 ·intro x sz els f ro hx;rcases(h2 x _).1 hx with⟨_,hx⟩|⟨hX,hx⟩
  ·exact kr.famlt _ _ _ _ _ hx
  ·exact eE (k.famlt _ _ _ _ _ hx) kf.nxt
 ·intro B hB hn;refine kf.keep B hB ?_;rintro⟨b0,ob0,l0,h0,hl0,he,hw0⟩;exact hn ⟨b0,ob0,l0,hs _ _ h0,hl0,he,hw0⟩
 ·intro x ox lx hx a0;rcases(h2 x ox).1 hx with⟨_,hx⟩|⟨hX,hx⟩
  ·rcases kf.back x ox lx hx a0 with h1|⟨b0,ob0,l0,h0,hl0,he,hw0⟩
   ·exact .inl h1
   ·exact .inr ⟨b0,ob0,l0,hs _ _ h0,hl0,he,hw0⟩
  ·exact .inr ⟨x,ox,lx,hx,b3 _ _ a0 hX,rfl,id⟩
 ·intro x sz els f ro hx;rcases(h2 x _).1 hx with⟨_,hx⟩|⟨hX,hx⟩
  ·rcases kf.famold _ _ _ _ _ hx with h1|⟨b0,sz0,els0,ro0,h0⟩
   ·exact .inl h1
   ·exact .inr ⟨b0,sz0,els0,ro0,hs _ _ h0⟩
  ·exact .inr ⟨x,sz,els,ro,hx⟩
end
section
variable {P:Program} {m:Mp} {w:Wo}
def zU:∀(l:List Nat) (i:Nat),natAt l i=(l[i]?).getD 0
 | [],_=>by simp [natAt]
 |a::_,0=>by simp [natAt]
 |_::l,i+1=>by simp [natAt,zU l i]
def HJ:∀(l:List Oper) (k:Nat) (x:Nat × Oper),x∈mU k l↔∃i,l[i]?=some x.2∧x.1=k+i
 | [],k,x=>by simp [mU]
 | o::l,k,x=>by
  simp only [mU,cN,HJ l (k+1) x];constructor
  ·rintro(rfl|⟨i,h1,h2⟩)
   ·exact⟨0,rfl,rfl⟩
   ·exact⟨i+1,by simpa using h1,by omega⟩
  ·rintro⟨i,h1,h2⟩;cases i with
   |zero=>left;obtain⟨x1,x2⟩:=x;simp at h1 h2;simp [h1,h2]
   |succ i=>right;exact⟨i,by simpa using h1,by omega⟩
def wT {l:List Oper} (h:(mU 0 l).all p=true) {i:Nat} {o:Oper} (ho:l[i]?=some o):p (i,o)=true:=
 (kV.1 h) (i,o) ((HJ l 0 (i,o)).2 ⟨i,ho,by simp⟩)
def Bh {l:List Oper} (h:(mU 0 l).any p=false) {i:Nat} {o:Oper} (ho:l[i]?=some o):p (i,o)=false:=by
 have:=List.any_eq_false.1 h (i,o) ((HJ l 0 (i,o)).2 ⟨i,ho,by simp⟩);simpa using this
def DU (n:Nat):∀l:List Nat,sL n l=true↔n∈l
 | []=>by simp [sL]
 | a::l=>by
  rw [sL];cases h:Nat.beq a n with
  |true=>have:=bG h;simp [this]
  |false=>
   have:a≠n:=Qr h;simp [DU n l,fO this]
def pU {α:Type} (p:α→Bool):∀(l:List α) (x:α),x∈jQ p l↔x∈l∧p x=true
 | [],x=>by simp [jQ]
 | a::l,x=>by
  rw [jQ];cases h:p a with
  | true=>
   simp only [dG,cN,pU p l x];constructor
   ·rintro(rfl|⟨h1,h2⟩)
    ·exact⟨.inl rfl,h⟩
    ·exact⟨.inr h1,h2⟩
   ·rintro⟨rfl|h1,h2⟩
    ·exact .inl rfl
    ·exact .inr ⟨h1,h2⟩
  | false=>
   simp only [mO,cN,pU p l x];constructor
   ·rintro⟨h1,h2⟩;exact⟨.inr h1,h2⟩
   ·rintro⟨rfl|h1,h2⟩
    ·rw [h] at h2;cases h2
    ·exact⟨h1,h2⟩
def EF {α:Type} {r:α→α→Prop} (p:α→Bool):∀{l:List α},l.Pairwise r→(jQ p l).Pairwise r
 | [],_=>by simp [jQ]
 | a::l,h=>by
  rw [jQ];have h1:=wM.1 h;cases hp:p a with
  |true=>
   simp only [dG];exact wM.2 ⟨fun y hy=>h1.1 y ((pU p l y).1 hy).1,EF p h1.2⟩
  |false=>simp only [mO];exact EF p h1.2
def JW (a0:List Nat) (j:Nat):∀l:List Edge,Nat.testBit (sN a0 l) j=true↔∃e∈l,kS e=true∧(j=e.on∨Nat.testBit (natAt a0 e.on) j=true)
 | []=>by simp [sN]
 | e ::l=>by
  rw [sN];cases h:kS e with
  | true=>
   simp only [dG,Nat.testBit_or,kN,JW a0 j l,cN,Nat.one_shiftLeft,Qq,iO];constructor
   ·rintro(h1|h1|⟨e',h1,h2⟩)
    ·exact⟨e,.inl rfl,h,.inl h1.symm⟩
    ·exact⟨e,.inl rfl,h,.inr h1⟩
    ·exact⟨e',.inr h1,h2⟩
   ·rintro⟨e',rfl|h1,h2,h3⟩
    ·rcases h3 with h3|h3
     ·exact .inl h3.symm
     ·exact .inr (.inl h3)
    ·exact .inr (.inr ⟨e',h1,h2,h3⟩)
  | false=>
   simp only [mO,JW a0 j l,cN];constructor
   ·rintro⟨e',h1,h2⟩;exact⟨e',.inr h1,h2⟩
   ·rintro⟨e',rfl|h1,h2,h3⟩
    ·rw [h] at h2;cases h2
    ·exact⟨e',h1,h2,h3⟩
def YO:∀(l:List Oper) (a0:List Nat),(∃s,aO a0 l=a0++s)∧
  ∀i o,l[i]?=some o→natAt (aO a0 l) (a0.length+i)=sN ((aO a0 l).take (a0.length+i)) o.after.toList
 | [],a0=>⟨⟨[],by simp [aO]⟩,fun i o h=>by simp at h⟩
 | o::l,a0=>by
  obtain⟨⟨s,hs⟩,ih⟩:=YO l (a0++ [sN a0 o.after.toList]);refine⟨⟨sN a0 o.after.toList::s,by rw [aO,hs];simp⟩,?_⟩;intro i o' h;rw [aO];cases i with
  |zero=>
   simp at h;subst h;rw [hs,zU];simp
  |succ i=>
   have:=ih i o' (by simpa using h);simp only [aV,oJ] at this;rw [show a0.length+(i+1)=a0.length+1+i by omega];exact this
def YN (a2:wI ops=true) {i:Nat} {o:Oper} (ho:ops[i]?=some o) (j:Nat):
  Nat.testBit (natAt (aO [] ops) i) j=true↔∃e∈o.after.toList,kS e=true∧(j=e.on∨Nat.testBit (natAt (aO [] ops) e.on) j=true):=by
 have h:=(YO ops []).2 i o ho;simp only [pN,dH] at h;rw [h,JW];have hk:=kV.1 (wT a2 ho);have key:∀e∈o.after.toList,kS e=true→natAt ((aO [] ops).take i) e.on=natAt (aO [] ops) e.on:=by
  intro e he hb;have:=hk e he;simp only [hb,wQ,rV] at this;have a4:e.on<i:=cY this;rw [zU,zU,yT,if_pos a4]
 constructor
 ·rintro⟨e,h1,h2,h3⟩;exact⟨e,h1,h2,by rwa [key e h1 h2] at h3⟩
 ·rintro⟨e,h1,h2,h3⟩;exact⟨e,h1,h2,by rwa [key e h1 h2]⟩
def Pt (h:ops[i]?=none):natAt (aO [] ops) i=0:=by
 have hl:∀(l:List Oper) (a0:List Nat),(aO a0 l).length=a0.length+l.length:=by
  intro l
  induction l with
  |nil=>intro a0;simp [aO]
  |cons o l ih=>intro a0;rw [aO,ih];simp;omega
 rw [zU,wO]
 ·rfl
 ·rw [hl];simpa using h
def Pu (a2:wI ops=true) {S:Nat→Prop} (hS:∀i o,ops[i]?=some o→S i→∀e∈o.after.toList,kS e=true→S e.on):
  ∀(i j:Nat),S i→Nat.testBit (natAt (aO [] ops) i) j=true→S j:=by
 intro i
 induction i using Nat.strongRecOn with
 | _ i ih=>
  intro j hi hb;cases ho:ops[i]? with
  |none=>rw [Pt ho] at hb;simp at hb
  |some o=>
   obtain⟨e,he,hbe,hj⟩:=(YN a2 ho j).1 hb;have hk:=kV.1 (wT a2 ho) e he;simp only [hbe,wQ,rV] at hk;have a4:e.on<i:=cY hk;have a5:=hS i o ho hi e he hbe;rcases hj with rfl|hj
   ·exact a5
   ·exact ih e.on a4 j a5 hj
def MR (a2:wI ops=true) {S:Nat→Prop} (hS:∀i o,ops[i]?=some o→S i→∀e∈o.after.toList,kS e=true→S e.on) {i:Nat} {o:Oper} (ho:ops[i]?=some o)
  (hr:∀e∈o.after.toList,kS e=true→S e.on) {j:Nat} (hb:Nat.testBit (natAt (aO [] ops) i) j=true):S j:=by
 obtain⟨e,he,hbe,hj⟩:=(YN a2 ho j).1 hb;rcases hj with rfl|hj
 ·exact hr e he hbe
 ·exact Pu a2 hS e.on j (hr e he hbe) hj
def sM (p:Nat→Bool) (i:Id) (mem:Mem):∀pn:List PN,(∀x∈pn,p x.idx=true→x.id≠i)→aB i (fV p pn mem)=aB i mem
 | [],_=>rfl
 | x::l,h=>by
  rw [fV];have ih:=sM p i mem l (fun y hy=>h y (by simp [hy]));cases hp:p x.idx with
  |true=>
   simp only [dG];rw [gN (fO (h x (by simp) hp))];exact ih
  |false=>simpa using ih
def pC (p:Nat→Bool) (mem:Mem):∀pn:List PN,pn.Pairwise (fun x y=>x.id≠y.id)→∀x∈pn,p x.idx=true→aB x.id (fV p pn mem)=some x.ob
 | [],_,x,hx,_=>by simp at hx
 | y::l,hd,x,hx,hp=>by
  have h1:=wM.1 hd;rw [fV];rcases cN.1 hx with rfl|hx
  ·rw [hp];simp [iA]
  ·have ih:=pC p mem l h1.2 x hx hp;have a7:x.id≠y.id:=fO (h1.1 x hx);cases hpy:p y.idx with
   |true=>simp only [dG];rw [gN a7];exact ih
   |false=>simpa using ih
def JV {p q:Nat→Bool} (mem:Mem):∀pn:List PN,(∀x∈pn,p x.idx=q x.idx)→fV p pn mem=fV q pn mem
 | [],_=>rfl
 |x::l,h=>by
  rw [fV,fV,h x (by simp),JV mem l (fun y hy=>h y (by simp [hy]))]
def xN (p:Nat→Bool) (mem:Mem) (pn:List PN) (hd:pn.Pairwise (fun x y=>x.id≠y.id)) (i:Id) (ob:O) (h:aB i (fV p pn mem)=some ob):
  (∃x∈pn,p x.idx=true∧x.id=i∧x.ob=ob)∨((∀x∈pn,p x.idx=true→x.id≠i)∧aB i mem=some ob):=by
 by_cases hx:∃x∈pn,p x.idx=true∧x.id=i
 ·obtain⟨x,h1,h2,rfl⟩:=hx;rw [pC p mem pn hd x h1 h2] at h;exact .inl ⟨x,h1,h2,rfl,bP h⟩
 ·have a3:∀x∈pn,p x.idx=true→x.id≠i:=fun x h1 h2 h3=>hx ⟨x,h1,h2,h3⟩
  rw [sM p i mem pn a3] at h;exact .inr ⟨a3,h⟩
def Mx (t:Nat):dD t HP= .top:=by
 unfold dD HP N8.all;cases dg (t/64)<;>cases dg (t/8%8)<;>cases dg (t%8)<;>rfl
def WE (e:Env):∀l:List Nat,(∀t∈l,t<511)→dD iY (eG e l)=dD iY e
 | [],_=>by rw [eG,xX]
 |t::l,h=>by
  have ht:=h t (by simp);rw [eG,uL (by decide) (by omega) (by show 511≠t;omega)];exact WE e l (fun x hx=>h x (by simp [hx]))
def WF (e:Env) (t:Nat) (ht:t<511):∀l:List Nat,(∀t∈l,t<511)→dD t (eG e l)=if t∈l then dD t e else .top
 | [],_=>by
  rw [eG,uL (by omega) (by decide) (by show t≠511;omega)];simp [Mx]
 | x::l,h=>by
  have hx:=h x (by simp);rw [eG]
  by_cases e1:t=x
  ·subst e1;rw [xX];simp
  ·rw [uL (by omega) (by omega) e1,WF e t ht l (fun y hy=>h y (by simp [hy]))];simp [e1]
def EX {e e':Env} (hd:dD iY e=dD iY e'):∀l:List Nat,(∀t∈l,dD t e=dD t e')→eG e l=eG e' l
 | [],_=>by rw [eG,eG,hd]
 |t::l,h=>by rw [eG,eG,h t (by simp),EX hd l (fun x hx=>h x (by simp [hx]))]
def envM_R (hs:a.tmps.size=n) (hn:n≤511) (hd:∃l,dD iY e= .tup l∧DfrR m l a.defers) (l:List Nat) (hl:∀t∈l,t<n) (hR:∀t∈l,R m (dD t e) (a.tmps.getD t undef)):dE m n (eG e l) a:=by
 refine⟨hs,hn,fun t ht=>?_,?_⟩
 ·rw [WF e t (by omega) l (fun x hx=>by have:=hl x hx;omega)];split
  ·rename_i h;exact hR t h
  ·simp [R]
 ·rw [WE e l (fun x hx=>by have:=hl x hx;omega)];exact hd
def zY {ops:Array Oper} (a1:jE P n ops=true) {i:Nat} {o:Oper} (ho:ops[i]?=some o):∀t∈eN ops.toList o,t<n:=by
 intro t ht;obtain⟨h1,h2⟩:=mY a1 ho;simp only [eN,eY] at ht;rcases ht with ht|ht
 ·simp only [OV,List.mem_filterMap] at ht;obtain⟨x,hx,hxt⟩:=ht;have:=(kV.1 h1) x hx;cases x with
  |tmp t'=>simp at hxt;subst hxt;simpa [dX] using this
  |_=>simp at hxt
 ·simp only [gDst] at ht;cases hg:o.guard with
  |none=>rw [hg] at ht;simp at ht
  | some jw=>
   obtain⟨j,want⟩:=jw;rw [hg] at ht;simp only [nX,kE,Option.mem_toList] at ht;cases hj:ops[j]? with
   |none=>rw [hj] at ht;simp at ht
   |some oj=>
    rw [hj] at ht;exact jJ (mY a1 hj).2 (by simpa using ht)
def EQ {ops:Array Oper} (a1:jE P n ops=true) (k:dE m n e a) {o:Oper} {b:Bool} (h:gdC ops.toList o e=some b):Region.wanted o (yielded ops a.tmps)=b:=by
 unfold gdC at h;cases hgd:o.guard with
 |none=>rw [hgd] at h;simp at h;subst h;simp [Region.wanted,hgd]
 | some jw=>
  obtain⟨j,want⟩:=jw;rw [hgd] at h;simp only [nX,kE] at h;cases hj:(ops[j]?).bind (·.dst) with
  |none=>rw [hj] at h;cases h
  | some g=>
   rw [hj] at h;simp only at h;have a4:g<n:=by
    cases ho:ops[j]? with
    |none=>rw [ho] at hj;cases hj
    |some oj=>rw [ho] at hj;exact jJ (mY a1 ho).2 (by simpa using hj)
   obtain⟨g1,g2⟩:=UN a1 hj k.size (k.val g a4) want;have a6:Region.wanted o (yielded ops a.tmps)=(yielded ops a.tmps j==some want):=by simp [Region.wanted,hgd]
   split at h
   ·rename_i b' hb;rw [a6,g1 b' hb];exact bP h
   ·rename_i hb;rw [a6,g2 hb];exact bP h
   ·cases h
end
section
variable {P:Program} {m:Mp} {w:Wo}
def Sb (listed:Array Bool) (j:Nat):Bool:=listed.getD j false
def Sb_set {listed:Array Bool} (hi:i<listed.size) (j:Nat):Sb (listed.setIfInBounds i true) j=(decide (j=i)||Sb listed j):=by
 unfold Sb
 by_cases e:j=i
 ·subst e;simp [hi]
 ·simp [rX,qG,fO e,e]
def YF (e:Edge):Region.binds .any e=kS e:=by
 unfold Region.binds kS;cases e.ground<;>rfl
def OT {d:Nat}:CS ops d o=true↔d∈eN ops o∨o.dst=some d:=by
 unfold CS dstIs;rw [kN,DU];cases h:o.dst with
 |none=>simp
 | some d'=>
  simp only [dW];constructor
  ·rintro(h1|h1)
   ·exact .inl h1
   ·exact .inr (bG h1)
  ·rintro(h1|h1)
   ·exact .inl h1
   ·exact .inr (by subst h1;exact Ai _)
def ED (h:xP ops bef i o=false) {d:Nat} (hd:o.dst=some d):
  d∉eN ops o∧∀j oj,ops[j]?=some oj→j≠i→(d∈eN ops oj∨oj.dst=some d)→Nat.testBit (natAt bef j) i=true:=by
 unfold xP at h;rw [hd] at h;simp only [HE] at h;refine⟨fun hm=>by rw [(DU _ _).2 hm] at h;exact absurd h.1 (by simp),?_⟩;intro j oj hj a6 ht;have:=Bh h.2 hj;simp only [OT.2 ht,Bool.true_and,Se,Bool.not_eq_false'] at this;rcases this with h1|h1
 ·exact absurd (bG h1) a6
 ·exact h1
def EE (h:jH P ops bef i o≠ .heavy):xP ops bef i o=false:=by
 unfold jH at h;cases hl:xP ops bef i o with
 |false=>rfl
 |true=>rw [hl] at h;exact absurd rfl h
def Hy (h:qP ops bef=true) {i:Nat} {o:Oper} (ho:ops[i]?=some o) {d:Nat} (hd:o.dst=some d) {j:Nat} {oj:Oper} (hj:ops[j]?=some oj) (a6:j≠i)
  (ht:d∈eN ops oj∨oj.dst=some d):Nat.testBit (natAt bef j) i=true∨Nat.testBit (natAt bef i) j=true:=by
 have:=wT h ho;simp only [hd] at this;have:=wT this hj;simp only [OT.2 ht,wQ,rV,kN] at this;rcases this with h1|h1
 ·exact absurd (bG h1) a6
 ·exact h1
def pG {t:Nat} (ht:t<512) {d:Option Nat} (hd:∀x,d=some x→x<512) (v:V) (e:Env):dD t (jV d v e)=if d=some t then v else dD t e:=by
 cases d with
 |none=>simp [jV]
 |some x=>
  simp only [jV,dW]
  by_cases e1:x=t
  ·subst e1;rw [xX];simp
  ·rw [uL ht (hd x rfl) (fO e1)];simp [e1]
def jL (T s j:Nat):Nat.testBit (T|||2^s) j=(decide (j=s)||Nat.testBit T j):=by
 rw [Nat.testBit_or,Qq]
 by_cases e:s=j
 ·subst e;simp
 ·simp [e,fO e]
def sD (h:qO ops bef tl T (s::l)=true):
  Nat.testBit T s=false∧(∀x,Nat.testBit (natAt bef s) x=true→Nat.testBit T x=true)∧(∃o,ops[s]?=some o)∧qO ops bef tl (T|||2^s) l=true:=by
 rw [qO] at h;simp only [aR,yV,nX] at h;obtain⟨h1,h2,h3,h4⟩:=h;refine⟨h1,?_,Qp.1 h3,h4⟩;intro x hx;have:=bG h2;rw [←this,Nat.testBit_and] at hx;simp only [aR] at hx;exact hx.2
def ME (h:pX P ops bef tl (s::l)=true):
  (∀o,ops[s]?=some o→jH P ops bef s o= .heavy→(∀x∈l,Nat.testBit (natAt bef x) s=true)∧∀x∈tl,Nat.testBit (natAt bef x) s=true)∧pX P ops bef tl l=true:=by
 rw [pX] at h;simp only [aR,nX] at h;refine⟨?_,h.2⟩;intro o ho hk;have h1:=h.1;rw [ho] at h1;simp only [hk,Kn.isHeavy,wQ,rV,aR,kV] at h1;exact h1
def DN {ops:List Oper} {bef tl:List Nat}:∀(l:List Nat) (T:Nat),qO ops bef tl T l=true→∀i o,ops[i]?=some o→Nat.testBit T i=false→i∈l∨i∈tl
 | [],T,h,i,o,ho,hT=>by
  rw [qO] at h;have:=wT h ho;simp only [hT,rV,DU] at this;exact .inr this
 | s::l,T,h,i,o,ho,hT=>by
  by_cases e:i=s
  ·simp [e]
  ·obtain⟨_,_,_,h4⟩:=sD h;rcases DN l _ h4 i o ho (by rw [jL];simp [e,hT]) with h1|h1
   ·exact .inl (mR _ h1)
   ·exact .inr h1
def RV {h:H}:∀{l:List PC},xC h l=true→∀c∈l,c.chk h=true
 | [],_,c,hc=>by simp at hc
 |x::l,hl,c,hc=>by
  simp only [xC,aR] at hl;rcases cN.1 hc with rfl|hc
  ·exact hl.1
  ·exact RV hl.2 c hc
def pw_ne {α:Type} {r:α→α→Prop} (hs:∀x y,r x y→r y x):∀{l:List α},l.Pairwise r→∀x∈l,∀y∈l,x≠y→r x y
 | [],_,x,hx,_,_,_=>by simp at hx
 |a::l,h,x,hx,y,hy,a6=>by
  have h1:=wM.1 h;rcases cN.1 hx with ex|c7<;>rcases cN.1 hy with ey|c8
  ·exact absurd (ex.trans ey.symm) a6
  ·rw [ex];exact h1.1 y c8
  ·rw [ey];exact hs _ _ (h1.1 x c7)
  ·exact pw_ne hs h1.2 x c7 y c8 a6
def PendOk (P:Program) (ops:List Oper) (e:Env) (h:H) (pn:List PN) (pc:List PC) (i:Nat) (o:Oper):Kn→Prop
 | .light=>(∀x∈pn,x.idx≠i)∧∃v,(∀d,o.dst=some d→dD d e=v)∧uD P ops o (eG e (eN ops o)) (hq h)=some v∧
   ∃c∈pc,c.idx=i∧c.chk=fun h'=>eqO v (uD P ops o (eG e (eN ops o)) h')
 | .new=>(gdC ops o (eG e (eN ops o))=some true∧∃x∈pn,x.idx=i∧∃nv,(tZ P o.op).run (eG e (eN ops o))=some nv∧x.ob=nv.ob x.id∧∀d,o.dst=some d→dD d e=nv.v x.id)∨
   ((∀x∈pn,x.idx≠i)∧gdC ops o (eG e (eN ops o))=some false∧∀d,o.dst=some d→dD d e=dU)
 | .heavy=>False
def PendOk.mono {pn d0:List PN} {pc c9:List PC}:∀{kn:Kn},PendOk P ops e h pn pc i o kn→eG e' (eN ops o)=eG e (eN ops o)→(∀d,o.dst=some d→dD d e'=dD d e)→
  (∀x,x.idx=i→(x∈pn↔x∈d0))→(∀c∈pc,c.idx=i→c∈c9)→
  (∀(q:H→Option V) v,(∃c∈pc,c.idx=i∧c.chk=fun h'=>eqO v (q h'))→q (hq h)=some v→q (hq h')=some v)→PendOk P ops e' h' d0 c9 i o kn
 | .light,k,he,hd,hpn,hpc,hh=>by
  obtain⟨k0,v,k1,k2,c,k3,k4,k5⟩:=k;refine⟨fun x hx b1=>k0 x ((hpn x b1).2 hx) b1,v,fun d b2=>by rw [hd d b2];exact k1 d b2,?_,c,hpc c k3 k4,k4,by rw [he];exact k5⟩;rw [he];exact hh (fun h'=>uD P ops o (eG e (eN ops o)) h') v ⟨c,k3,k4,k5⟩ k2
 | .new,k,he,hd,hpn,hpc,hh=>by
  rcases k with⟨k1,x,k2,k3,nv,k4,k5,k6⟩|⟨k0,k1,k2⟩
  ·exact .inl ⟨by rw [he];exact k1,x,(hpn x k3).1 k2,k3,nv,by rw [he];exact k4,k5,fun d b2=>by rw [hd d b2];exact k6 d b2⟩
  ·exact .inr ⟨fun x hx b1=>k0 x ((hpn x b1).2 hx) b1,by rw [he];exact k1,fun d b2=>by rw [hd d b2];exact k2 d b2⟩
 | .heavy,k,_,_,_,_,_=>k.elim
structure Core (P:Program) (n:Nat) (ops:Array Oper) (m0:Mp) (h0:H) (w0:Wo) (listed:Array Bool) (T:Nat) (e:Env) (h:H) (pn:List PN) (pc:List PC) (m:Mp) (a:Act) (w:Wo):Prop where
 lsz:listed.size=ops.size
 down:∀i o,ops.toList[i]?=some o→Sb listed i=true→∀x∈o.after.toList,kS x=true→Sb listed x.on=true
 sT:∀j,Sb listed j=true→Nat.testBit T j=true
 tT:∀j,Nat.testBit T j=true→∀x,Nat.testBit (natAt (aO [] ops.toList) j) x=true→Nat.testBit T x=true
 pend:∀j o,ops.toList[j]?=some o→Nat.testBit T j=true→Sb listed j=false→PendOk P ops.toList e h pn pc j o (jH P ops.toList (aO [] ops.toList) j o)
 size:a.tmps.size=n
 le:n≤511
 dfr:∃l,dD iY e= .tup l∧DfrR m l a.defers
 env:∀t,t<n→(∃i o,Nat.testBit T i=true∧Sb listed i=false∧ops.toList[i]?=some o∧o.dst=some t)∨R m (dD t e) (a.tmps.getD t undef)
 fr:Fr m0 h0 w0 m (gO (Sb listed) pn h) w
 gl:Gl P m
 pnd:pn.Pairwise (fun x y=>x.id≠y.id∧x.idx≠y.idx)
 pn1:∀x∈pn,Nat.testBit T x.idx=true∧(∃o,ops.toList[x.idx]?=some o)∧h0.next.toNat≤x.id.toNat∧x.id.toNat<h.next.toNat∧aB x.id h.mem=none
 pn2:∀x∈pn,(∀b sz els f ro,aB b h.mem=some (.cells sz els f ro)→f≠x.id)∧(∀sz els f ro,x.ob= .cells sz els f ro→f=x.id)∧(Sb listed x.idx=false→m x.id=none)
structure Inv (P:Program) (n:Nat) (ops:Array Oper) (base:DOp2) (tl:List Nat) (call:dQ) (e':Env) (h':H) (m0:Mp) (h0:H) (w0:Wo) (listed:Array Bool) (T:Nat) (l:List Nat) (e:Env) (h:H) (pn:List PN) (pc:List PC) (m:Mp) (a:Act) (w:Wo):Prop
  extends Core P n ops m0 h0 w0 listed T e h pn pc m a w where
 plan:qO ops.toList (aO [] ops.toList) tl T l=true
 run:(iB P base ops.toList (aO [] ops.toList) l).run call e h pn pc= .ok e' h'
section
variable {n:Nat} {ops:Array Oper} {base:DOp2} {tl:List Nat} {call:dQ} {e':Env} {h':H} {m0:Mp} {h0:H} {w0:Wo} {listed:Array Bool} {T:Nat} {l:List Nat} {e:Env} {h:H} {pn:List PN} {pc:List PC} {a:Act}
def Core.pid (k:Core P n ops m0 h0 w0 listed T e h pn pc m a w):pn.Pairwise (fun x y=>x.id≠y.id):=k.pnd.imp (fun h=>h.1)
def Core.inj (k:Core P n ops m0 h0 w0 listed T e h pn pc m a w) {x y:PN} (hx:x∈pn) (hy:y∈pn) (a6:x≠y):x.id≠y.id∧x.idx≠y.idx:=
 pw_ne (fun _ _ h=>⟨fO h.1,fO h.2⟩) k.pnd x hx y hy a6
def FX (a7:qP ops.toList (aO [] ops.toList)=true) (a1:jE P n ops=true) {s:Nat} (k:Inv P n ops base tl call e' h' m0 h0 w0 listed T (s::l) e h pn pc m a w) {o:Oper} (ho:ops.toList[s]?=some o)
  (hS:∀x,Nat.testBit (natAt (aO [] ops.toList) s) x=true→jH P ops.toList (aO [] ops.toList) s o= .heavy→Sb listed x=true) (v:V):
  ∀j oj,ops.toList[j]?=some oj→Nat.testBit T j=true→Sb listed j=false→(∀t,t∈eN ops.toList oj∨oj.dst=some t→o.dst≠some t):=by
 intro j oj hj hT c2 t ht hd;obtain⟨a8,hbT,_,_⟩:=sD k.plan;have a6:j≠s:=fun e=>by subst e;rw [hT] at a8;cases a8
 have c4:¬Nat.testBit (natAt (aO [] ops.toList) j) s=true:=fun hb=>by
  have:=k.tT j hT s hb;rw [this] at a8;cases a8
 by_cases hk:jH P ops.toList (aO [] ops.toList) s o= .heavy
 ·rcases Hy a7 ho hd hj a6 ht with h1|h1
  ·exact c4 h1
  ·rw [hS j h1 hk] at c2;cases c2
 ·exact c4 ((ED (EE hk) hd).2 j oj hj a6 ht)
def EW {oj:Oper} {i:Nat} (b4:n≤511) (a1:jE P n ops=true) (a3:vW n o.dst=true) {j:Nat} (hj:ops.toList[j]?=some oj) (a6:∀t,t∈eN ops.toList oj∨oj.dst=some t→o.dst≠some t):
  eG (jV o.dst v e) (eN ops.toList oj)=eG e (eN ops.toList oj)∧∀d,oj.dst=some d→dD d (jV o.dst v e)=dD d e:=by
 have c3:ops[j]?=some oj:=by simpa using hj
 have a4:∀x:Nat,o.dst=some x→x<512:=fun x hx=>by have:=jJ a3 hx;omega
 constructor
 ·refine EX ?_ _ ?_
  ·rw [pG (by decide) a4];have:o.dst≠some iY:=fun hx=>by have:=jJ a3 hx;simp [iY] at this;omega
   simp [this]
  ·intro t ht;have:=zY a1 c3 t ht;rw [pG (by omega) a4];simp [a6 t (.inl ht)]
 ·intro d hd;have:=jJ (mY a1 c3).2 hd;rw [pG (by omega) a4];simp [a6 d (.inr hd)]
def xY (b4:n≤511) (a3:vW n o.dst=true):dD iY (jV o.dst v e)=dD iY e:=by
 have a4:∀x:Nat,o.dst=some x→x<512:=fun x hx=>by have:=jJ a3 hx;omega
 rw [pG (by decide) a4];have:o.dst≠some iY:=fun hx=>by have:=jJ a3 hx;simp [iY] at this;omega
 simp [this]
def Qj (a7:qP ops.toList (aO [] ops.toList)=true) (a1:jE P n ops=true) {s:Nat} (k:Inv P n ops base tl call e' h' m0 h0 w0 listed T (s::l) e h pn pc m a w) {o:Oper} (ho:ops.toList[s]?=some o)
  (hk:jH P ops.toList (aO [] ops.toList) s o= .light):∃e1 d3,Inv P n ops base tl call e' h' m0 h0 w0 listed (T|||2^s) l e1 h pn d3 m a w:=by
 have a0:=k.run;rw [iB] at a0;simp only [nX,ho,hk] at a0;have b7:ops[s]?=some o:=by simpa using ho
 obtain⟨c1,a3⟩:=mY a1 b7;obtain⟨a8,hbT,_,hpl⟩:=sD k.plan;have b9:Sb listed s=false:=by
  cases hx:Sb listed s with
  |false=>rfl
  |true=>rw [k.sT s hx] at a8;cases a8
 cases hv:uD P ops.toList o (eG e (eN ops.toList o)) (hq h) with
 |none=>rw [hv] at a0;cases a0
 | some v=>
  rw [hv] at a0;simp only at a0;have a5:=FX a7 a1 k ho (fun x _ hh=>by rw [hk] at hh;cases hh) v;have a9:=EE (P:=P) (ops:=ops.toList) (bef:=aO [] ops.toList) (i:=s) (o:=o) (by rw [hk];simp);have b0:∀t,t∈eN ops.toList o→o.dst≠some t:=fun t ht hd=>(ED a9 hd).1 ht
  have a2:eG (jV o.dst v e) (eN ops.toList o)=eG e (eN ops.toList o):=by
   refine EX (xY k.le a3) _ ?_;intro t ht;have:=zY a1 b7 t ht;have b4:=k.le;rw [pG (by omega) (fun x hx=>by have:=jJ a3 hx;omega)];simp [b0 t ht]
  refine⟨jV o.dst v e,⟨s,fun h'=>eqO v (uD P ops.toList o (eG e (eN ops.toList o)) h')⟩::pc,⟨⟨k.lsz,k.down,fun j hj=>by rw [jL];simp [k.sT j hj],?_,?_,k.size,k.le,?_,?_,k.fr,k.gl,k.pnd,?_,k.pn2⟩,hpl,a0⟩⟩
  ·intro j hj x hx;rw [jL] at hj ⊢;simp only [kN,iO] at hj ⊢;rcases hj with rfl|hj
   ·exact .inr (hbT x hx)
   ·exact .inr (k.tT j hj x hx)
  ·intro j oj hj hT hS;rw [jL] at hT;simp only [kN,iO] at hT
   by_cases e1:j=s
   ·subst e1;rw [ho] at hj;cases hj;rw [hk];refine⟨fun x hx b1=>?_,v,fun d hd=>?_,?_,_,oI,rfl,?_⟩
    ·have:=(k.pn1 x hx).1;rw [b1,a8] at this;cases this
    ·have:=jJ a3 hd;have b4:=k.le;rw [pG (by omega) (fun x hx=>by have:=jJ a3 hx;omega)];simp [hd]
    ·rw [a2];exact hv
    ·rw [a2]
   ·have hT:Nat.testBit T j=true:=hT.resolve_left e1;obtain⟨q1,q2⟩:=EW (v:=v) (e:=e) (i:=s) k.le a1 a3 hj (a5 j oj hj hT hS);exact(k.pend j oj hj hT hS).mono q1 q2 (fun x _=>Iff.rfl) (fun c hc _=>mR _ hc) (fun q v _ hq=>hq)
  ·rw [xY k.le a3];exact k.dfr
  ·intro t ht
   by_cases e1:o.dst=some t
   ·exact .inl ⟨s,o,by rw [jL];simp,b9,ho,e1⟩
   ·have b4:=k.le;rw [pG (by omega) (fun x hx=>by have:=jJ a3 hx;omega)];rw [if_neg e1];rcases k.env t ht with⟨i,oi,h1,h2,h3,h4⟩|h1
    ·exact .inl ⟨i,oi,by rw [jL];simp [h1],h2,h3,h4⟩
    ·exact .inr h1
  ·intro x hx;obtain⟨h1,h2⟩:=k.pn1 x hx;exact⟨by rw [jL];simp [h1],h2⟩
def Qi (a7:qP ops.toList (aO [] ops.toList)=true) (a1:jE P n ops=true) {s:Nat} (k:Inv P n ops base tl call e' h' m0 h0 w0 listed T (s::l) e h pn pc m a w) {o:Oper} (ho:ops.toList[s]?=some o)
  (hk:jH P ops.toList (aO [] ops.toList) s o= .new) (d1:∀nv,(tZ P o.op).run (eG e (eN ops.toList o))=some nv→∀i sz els f ro,nv.ob i= .cells sz els f ro→f=i):
  ∃e1 h1 pn1,Inv P n ops base tl call e' h' m0 h0 w0 listed (T|||2^s) l e1 h1 pn1 pc m a w:=by
 have a0:=k.run;rw [iB] at a0;simp only [nX,ho,hk] at a0;have b7:ops[s]?=some o:=by simpa using ho
 obtain⟨c1,a3⟩:=mY a1 b7;obtain⟨a8,hbT,_,hpl⟩:=sD k.plan;have b4:=k.le;have b9:Sb listed s=false:=by
  cases hx:Sb listed s with
  |false=>rfl
  |true=>rw [k.sT s hx] at a8;cases a8
 have a9:=EE (P:=P) (ops:=ops.toList) (bef:=aO [] ops.toList) (i:=s) (o:=o) (by rw [hk];simp);have b0:∀t,t∈eN ops.toList o→o.dst≠some t:=fun t ht hd=>(ED a9 hd).1 ht
 have a2:∀v,eG (jV o.dst v e) (eN ops.toList o)=eG e (eN ops.toList o):=fun v=>by
  refine EX (xY k.le a3) _ ?_;intro t ht;have:=zY a1 b7 t ht;rw [pG (by omega) (fun x hx=>by have:=jJ a3 hx;omega)];simp [b0 t ht]
 have c6:∀j,Nat.testBit (T|||2^s) j=true→∀x,Nat.testBit (natAt (aO [] ops.toList) j) x=true→Nat.testBit (T|||2^s) x=true:=by
  intro j hj x hx;rw [jL] at hj ⊢;simp only [kN,iO] at hj ⊢;rcases hj with rfl|hj
  ·exact .inr (hbT x hx)
  ·exact .inr (k.tT j hj x hx)
 have b3:∀v t,t<n→(∃i o,Nat.testBit (T|||2^s) i=true∧Sb listed i=false∧ops.toList[i]?=some o∧o.dst=some t)∨R m (dD t (jV o.dst v e)) (a.tmps.getD t undef):=by
  intro v t ht
  by_cases e1:o.dst=some t
  ·exact .inl ⟨s,o,by rw [jL];simp,b9,ho,e1⟩
  ·rw [pG (by omega) (fun x hx=>by have:=jJ a3 hx;omega)];rw [if_neg e1];rcases k.env t ht with⟨i,oi,h1,h2,h3,h4⟩|h1
   ·exact .inl ⟨i,oi,by rw [jL];simp [h1],h2,h3,h4⟩
   ·exact .inr h1
 have b6:∀x∈pn,x.idx≠s:=fun x hx b1=>by have:=(k.pn1 x hx).1;rw [b1,a8] at this;cases this
 cases hgd:gdC ops.toList o (eG e (eN ops.toList o)) with
 |none=>rw [hgd] at a0;cases a0
 | some b=>
  rw [hgd] at a0;cases b with
  | false=>
   simp only at a0;have a5:=FX a7 a1 k ho (fun x _ hh=>by rw [hk] at hh;cases hh) dU;refine⟨jV o.dst dU e,h,pn,⟨⟨k.lsz,k.down,fun j hj=>by rw [jL];simp [k.sT j hj],c6,?_,k.size,k.le,by rw [xY k.le a3];exact k.dfr,b3 _,k.fr,k.gl,k.pnd,?_,k.pn2⟩,hpl,a0⟩⟩
   ·intro j oj hj hT hS;rw [jL] at hT;simp only [kN,iO] at hT
    by_cases e1:j=s
    ·subst e1;rw [ho] at hj;cases hj;rw [hk];refine .inr ⟨b6,by rw [a2];exact hgd,fun d hd=>?_⟩;have:=jJ a3 hd;rw [pG (by omega) (fun x hx=>by have:=jJ a3 hx;omega)];simp [hd]
    ·have hT:Nat.testBit T j=true:=hT.resolve_left e1;obtain⟨q1,q2⟩:=EW (v:=dU) (e:=e) (i:=s) k.le a1 a3 hj (a5 j oj hj hT hS);exact(k.pend j oj hj hT hS).mono q1 q2 (fun x _=>Iff.rfl) (fun c hc _=>hc) (fun q v _ hq=>hq)
   ·intro x hx;obtain⟨h1,h2⟩:=k.pn1 x hx;exact⟨by rw [jL];simp [h1],h2⟩
  | true=>
   simp only at a0;cases hnw:(tZ P o.op).run (eG e (eN ops.toList o)) with
   |none=>rw [hnw] at a0;cases a0
   | some nv=>
    cases hnx:h.next.succ with
    |none=>rw [hnw,hnx] at a0;cases a0
    | some nx=>
     rw [hnw,hnx] at a0;simp only at a0;have d2:=Id.succ_toNat hnx;have a5:=FX a7 a1 k ho (fun x _ hh=>by rw [hk] at hh;cases hh) (nv.v h.next);have c0:gO (Sb listed) (⟨s,h.next,nv.ob h.next⟩::pn) ⟨h.mem,h.fams,nx⟩=⟨(gO (Sb listed) pn h).mem,(gO (Sb listed) pn h).fams,nx⟩:=by
      simp [gO,fV,b9]
     have c5:m h.next=none:=by
      cases hx:m h.next with
      |none=>rfl
      |some lx=>exact absurd (k.fr.hr.dom _ _ hx) (uW _)
     have b8:∀b ob,aB b h.mem=some ob→aB b (fV (Sb listed) pn h.mem)=some ob:=by
      intro b ob hb;rw [sM]
      ·exact hb
      ·intro x hx _ e1;have:=(k.pn1 x hx).2.2.2.2;rw [e1,hb] at this;cases this
     have b5:aB h.next h.mem=none:=by
      cases hx:aB h.next h.mem with
      |none=>rfl
      |some ob=>
       obtain⟨l,hl,_⟩:=k.fr.hr.obj _ _ (b8 _ _ hx);rw [c5] at hl;cases hl
     refine⟨jV o.dst (nv.v h.next) e,⟨h.mem,h.fams,nx⟩,⟨s,h.next,nv.ob h.next⟩::pn,⟨⟨k.lsz,k.down,fun j hj=>by rw [jL];simp [k.sT j hj],c6,?_,k.size,k.le,by rw [xY k.le a3];exact k.dfr,b3 _,?_,k.gl,?_,?_,?_⟩,hpl,a0⟩⟩
     ·intro j oj hj hT hS;rw [jL] at hT;simp only [kN,iO] at hT
      by_cases e1:j=s
      ·subst e1;rw [ho] at hj;cases hj;rw [hk];refine .inl ⟨by rw [a2];exact hgd,_,oI,rfl,nv,by rw [a2];exact hnw,rfl,fun d hd=>?_⟩;have:=jJ a3 hd;rw [pG (by omega) (fun x hx=>by have:=jJ a3 hx;omega)];simp [hd]
      ·have hT:Nat.testBit T j=true:=hT.resolve_left e1;obtain⟨q1,q2⟩:=EW (v:=nv.v h.next) (e:=e) (i:=s) k.le a1 a3 hj (a5 j oj hj hT hS);refine(k.pend j oj hj hT hS).mono q1 q2 (fun x hx=>?_) (fun c hc _=>hc) (fun q v _ hq=>hq);constructor
       ·exact fun h=>mR _ h
       ·intro h;rcases cN.1 h with rfl|h
        ·exact absurd hx.symm e1
        ·exact h
     ·rw [c0];exact k.fr.bump (by show h.next.toNat≤nx.toNat;omega)
     ·refine wM.2 ⟨fun y hy=>⟨?_,?_⟩,k.pnd⟩
      ·intro e1;have h3:=(k.pn1 y hy).2.2.2.1;have e2:h.next=y.id:=e1;rw [←e2] at h3;exact absurd h3 (uW _)
      ·exact fO (b6 y hy)
     ·intro x hx;rcases cN.1 hx with rfl|hx
      ·refine⟨by rw [jL];simp,⟨o,ho⟩,?_,?_,b5⟩
       ·have:=k.fr.nxt;have h2:(gO (Sb listed) pn h).next=h.next:=rfl;rw [h2] at this;exact this
       ·show h.next.toNat<nx.toNat;omega
      ·obtain⟨h1,h2,h3,h4,h5⟩:=k.pn1 x hx;exact⟨by rw [jL];simp [h1],h2,h3,by show x.id.toNat<nx.toNat;omega,h5⟩
     ·intro x hx;rcases cN.1 hx with rfl|hx
      ·refine⟨?_,fun sz els f ro e1=>d1 nv hnw _ _ _ _ _ e1,fun _=>c5⟩;intro b sz els f ro hb e1;have:=k.fr.hr.famlt _ _ _ _ _ (b8 _ _ hb);have h2:(gO (Sb listed) pn h).next=h.next:=rfl;rw [h2] at this;have e2:f=h.next:=e1;rw [e2] at this;exact absurd this (uW _)
      ·exact k.pn2 x hx
end
end
section
variable {P:Program} {m:Mp} {w:Wo}
def Iu {op:Op} {nv:NV} (hv:(tZ P op).run e=some nv):∀i sz els f ro,nv.ob i= .cells sz els f ro→f=i:=by
 have key:∀ty s els vf,∀i b4 els' f ro,(nZ ty s els vf).ob i= .cells b4 els' f ro→f=i:=by
  intro ty s els vf i b4 els' f ro h;cases h;rfl
 cases op<;>simp only [tZ] at hv<;>(try (cases hv;done))
 case alloc t=>
  split at hv
  ·split at hv
   ·cases hv;exact key _ _ _ _
   ·cases hv
  ·cases hv
 case box t x=>
  split at hv
  ·cases hv;exact key _ _ _ _
  ·cases hv
 case makeMap t r=>
  cases r with
  |none=>cases hv;intro i sz els f ro h;cases h
  | some x=>
   simp only at hv;split at hv
   ·simp only at hv;split at hv
    ·cases hv;intro i sz els f ro h;cases h
    ·cases hv
   ·cases hv
 case convert s d x=>
  split at hv
  ·split at hv
   ·simp only at hv;split at hv
    ·cases hv;exact key _ _ _ _
    ·cases hv
   ·cases hv
  ·cases hv
 case buildSlice t len ps=>
  split at hv
  ·rename_i el hu;split at hv
   ·rename_i sz z hs hz;split at hv
    ·rename_i zc hc;cases hcd:(Nat.ble (len*(sz+1)) 16777216&&Nat.beq (fW zc) (sz+1)) with
     |false=>rw [hcd] at hv;cases hv
     |true=>
      rw [hcd] at hv;simp only [dG] at hv;split at hv
      ·cases hv;exact key _ _ _ _
      ·cases hv
    ·cases hv
   ·cases hv
  ·cases hv
 case makeSlice t lx cx=>
  split at hv
  ·rename_i el hu;split at hv
   ·rename_i sz z hs hz;split at hv
    ·rename_i zc c7 hc hi;cases hcd:(Nat.ble c7.bytes 1000000&&Nat.beq (fW zc) (sz+1)) with
     |false=>rw [hcd] at hv;cases hv
     | true=>
      rw [hcd] at hv;simp only [dG] at hv;split at hv
      ·rename_i k1 N k2 M e1 e2;cases hcd2:(Nat.ble N M&&Nat.ble M 100000) with
       |false=>rw [hcd2] at hv;cases hv
       |true=>
        rw [hcd2] at hv;simp only [dG] at hv;cases hv;exact key _ _ _ _
      ·cases hv
    ·cases hv
   ·cases hv
  ·cases hv
def Ku (b2:jT P call) (k:dE m n e a) (hg:Gl P m) {h h':H} (hr:HR m h w) {o:Oper} (a1:o.op.operands.toList.all (dX P n)=true) {v:V}
  (hv:hvC P o.op call e h= .ok v h'):dO P ((execOp a.eval o).run P w) m h w v h':=by
 unfold hvC at hv;cases hh:isHeavy P o.op with
 |true=>rw [hh] at hv;exact KN b2 k hg hr a1 hv
 | false=>
  rw [hh] at hv;simp only [mO] at hv;cases hl:(sO P o.op).run e h with
  |none=>rw [hl] at hv;cases hv
  |some v'=>
   rw [hl] at hv;cases hv;obtain⟨u,h1,h2⟩:=EA k hg hr a1 hl;exact .inl ⟨u,w,m,.inl h1,Fr.refl hr,h2⟩
def RE (a:Act) (d:Option Nat) (u:Value):(a.put d u).tmps.size=a.tmps.size:=by cases d<;>simp [Act.put]
def RG (a:Act) (d:Option Nat) (u:Value):(a.put d u).defers=a.defers:=by cases d<;>rfl
def RF {t:Nat} (ht:t<a.tmps.size):(a.put d u).tmps.getD t undef=if d=some t then u else a.tmps.getD t undef:=by
 cases d with
 |none=>simp [Act.put]
 |some x=>
  by_cases e:x=t
  ·subst e;simp [Act.put,rX,ht]
  ·simp [Act.put,rX,qG,e]
section
variable {n:Nat} {ops:Array Oper} {m0:Mp} {h0:H} {w0:Wo} {listed:Array Bool} {T:Nat} {l:List Nat} {e:Env} {h:H} {pn:List PN} {pc:List PC} {a:Act}
def Core.sub (k:Core P n ops m0 h0 w0 listed T e h pn pc m a w):∀b ob,aB b h.mem=some ob→aB b (fV (Sb listed) pn h.mem)=some ob:=by
 intro b ob hb;rw [sM]
 ·exact hb
 ·intro x hx _ e1;have:=(k.pn1 x hx).2.2.2.2;rw [e1,hb] at this;cases this
def Core.hrq (k:Core P n ops m0 h0 w0 listed T e h pn pc m a w):HR m (hq h) w:=by
 have:h.next.toNat≤KJ.toNat:=by
  have c3:KJ.toNat=32767:=rfl;rw [c3];obtain⟨a,b,c,d,e⟩:=h.next;have h1:=D8.toNat_lt a;have h2:=D8.toNat_lt b;have h3:=D8.toNat_lt c;have h4:=D8.toNat_lt d;have h5:=D8.toNat_lt e;simp only [Id.toNat];omega
 exact k.fr.hr.sub (mem':=h.mem) k.sub this
def Core.looksR (a0:jE P n ops=true) (k:Core P n ops m0 h0 w0 listed T e h pn pc m a w) {i:Nat} {o:Oper} (ho:ops.toList[i]?=some o)
  (b0:∀x,Nat.testBit (natAt (aO [] ops.toList) i) x=true→Sb listed x=true):dE m n (eG e (eN ops.toList o)) a:=by
 have a4:ops[i]?=some o:=by simpa using ho
 refine envM_R k.size k.le k.dfr _ (zY a0 a4) ?_;intro t ht;rcases k.env t (zY a0 a4 t ht) with⟨x,ox,hT,hS,hx,hd⟩|h1
 ·exfalso;have hp:=k.pend x ox hx hT hS;have c4:jH P ops.toList (aO [] ops.toList) x ox≠ .heavy:=fun hh=>by rw [hh] at hp;exact hp
  obtain⟨l1,l2⟩:=ED (EE c4) hd
  by_cases e1:i=x
  ·subst e1;rw [ho] at hx;cases hx;exact l1 ht
  ·have:=b0 x (l2 i o ho e1 (.inl ht));rw [this] at hS;cases hS
 ·exact h1
def EK (k:Core P n ops m0 h0 w0 listed T e h pn pc m a w) {i:Nat} {o:Oper} (ho:ops.toList[i]?=some o) (hT:Nat.testBit T i=true)
  (a6:∀x∈o.after.toList,kS x=true→Sb listed x.on=true) {m':Mp} {w':Wo} {u:Value} (hm:m.le m') (b8:Fr m0 h0 w0 m' (gO (Sb (listed.setIfInBounds i true)) pn h) w')
  (hu:∀d,o.dst=some d→R m' (dD d e) u) (c5:∀x∈pn,Sb (listed.setIfInBounds i true) x.idx=false→m' x.id=none):
  Core P n ops m0 h0 w0 (listed.setIfInBounds i true) T e h pn pc m' (a.put o.dst u) w':=by
 have a3:i<listed.size:=by
  rw [k.lsz];have:i<ops.toList.length:=(aZ.1 ho).1;simpa using this
 have a2:=Sb_set (listed:=listed) a3;have a5:∀j,Sb listed j=true→Sb (listed.setIfInBounds i true) j=true:=fun j hj=>by rw [a2];simp [hj]
 have b1:∀j,Sb (listed.setIfInBounds i true) j=false→j≠i∧Sb listed j=false:=fun j hj=>by
  rw [a2] at hj;simpa using hj
 refine⟨by simp [k.lsz],?_,?_,k.tT,?_,by rw [RE];exact k.size,k.le,?_,?_,b8,k.gl.mono hm,k.pnd,k.pn1,?_⟩
 ·intro j oj hj hS x hx hb;rw [a2] at hS;simp only [kN,iO] at hS;rcases hS with rfl|hS
  ·rw [ho] at hj;cases hj;exact a5 _ (a6 x hx hb)
  ·exact a5 _ (k.down j oj hj hS x hx hb)
 ·intro j hj;rw [a2] at hj;simp only [kN,iO] at hj;rcases hj with rfl|hj
  ·exact hT
  ·exact k.sT j hj
 ·intro j oj hj b5 hS;exact k.pend j oj hj b5 (b1 j hS).2
 ·rw [RG];obtain⟨L,h1,h2⟩:=k.dfr;exact⟨L,h1,h2.mono hm⟩
 ·intro t ht;rw [RF (by rw [k.size];exact ht)]
  by_cases e1:o.dst=some t
  ·rw [if_pos e1];exact .inr (hu t e1)
  ·rw [if_neg e1];rcases k.env t ht with⟨x,ox,h1,h2,h3,h4⟩|h1
   ·refine .inl ⟨x,ox,h1,?_,h3,h4⟩;rw [a2];have:x≠i:=fun e2=>by subst e2;rw [ho] at h3;cases h3;exact e1 h4
    simp [this,h2]
   ·exact .inr (h1.mono hm)
 ·intro x hx;obtain⟨p1,p2,p3⟩:=k.pn2 x hx;exact⟨p1,p2,c5 x hx⟩
def DW (k:Core P n ops m0 h0 w0 listed T e h pn pc m a w) {i:Nat} (hi:i<listed.size) (a9:∀x∈pn,x.idx≠i):gO (Sb (listed.setIfInBounds i true)) pn h=gO (Sb listed) pn h:=by
 unfold gO;rw [JV h.mem pn (fun x hx=>by rw [Sb_set hi,kU (a9 x hx),rV])]
def Db (a0:jE P n ops=true) (k:Core P n ops m0 h0 w0 listed T e h pn pc m a w) {i:Nat} {o:Oper} (ho:ops.toList[i]?=some o) (hT:Nat.testBit T i=true) (hS:Sb listed i=false)
  (a6:∀x∈o.after.toList,kS x=true→Sb listed x.on=true) (b0:∀x,Nat.testBit (natAt (aO [] ops.toList) i) x=true→Sb listed x=true)
  (hk:jH P ops.toList (aO [] ops.toList) i o= .light) {K:Act→Wo→Prop} {Q:Exit→Act→Wo→Prop}
  (hn:∀m' a' w',Core P n ops m0 h0 w0 (listed.setIfInBounds i true) T e h pn pc m' a' w'→K a' w'):wpOp P ops Q i K a w:=by
 have a4:ops[i]?=some o:=by simpa using ho
 have a3:i<listed.size:=by rw [k.lsz];exact(cV.1 a4).1
 obtain⟨a1,hdo⟩:=mY a0 a4;have hE:=k.looksR a0 ho b0;have hp:=k.pend i o ho hT hS;rw [hk] at hp;obtain⟨a9,v,hv1,hv2,_⟩:=hp;unfold uD at hv2;unfold wpOp;simp only [a4];cases a7:gdC ops.toList o (eG e (eN ops.toList o)) with
 |none=>rw [a7] at hv2;cases hv2
 | some b=>
  rw [a7] at hv2;have hw:=EQ a0 hE a7;cases b with
  |true=>
   simp only at hv2;rw [if_pos hw];obtain⟨u,h1,h2⟩:=EA hE k.gl k.hrq a1 hv2;refine .inl ?_;unfold Oper.wp;rw [h1,GF];refine hn m _ w (EK k ho hT a6 (Mp.le_refl m) ?_ (fun d hd=>by rw [hv1 d hd];exact h2) (fun x hx hs=>(k.pn2 x hx).2.2 ?_))
   ·rw [DW k a3 a9];exact k.fr
   ·rw [Sb_set a3] at hs;simp at hs;exact hs.2
  |false=>
   simp only at hv2;cases hv2;rw [if_neg (by rw [hw];simp)];refine hn m _ w (EK k ho hT a6 (Mp.le_refl m) ?_ (fun d hd=>by rw [hv1 d hd];simp [R,Rl,dU,undef]) (fun x hx hs=>(k.pn2 x hx).2.2 ?_))
   ·rw [DW k a3 a9];exact k.fr
   ·rw [Sb_set a3] at hs;simp at hs;exact hs.2
def Da (a0:jE P n ops=true) (k:Core P n ops m0 h0 w0 listed T e h pn pc m a w) {i:Nat} {o:Oper} (ho:ops.toList[i]?=some o) (hT:Nat.testBit T i=true) (hS:Sb listed i=false)
  (a6:∀x∈o.after.toList,kS x=true→Sb listed x.on=true) (b0:∀x,Nat.testBit (natAt (aO [] ops.toList) i) x=true→Sb listed x=true)
  (hk:jH P ops.toList (aO [] ops.toList) i o= .new) {K:Act→Wo→Prop} {Q:Exit→Act→Wo→Prop}
  (hn:∀m' a' w',Core P n ops m0 h0 w0 (listed.setIfInBounds i true) T e h pn pc m' a' w'→K a' w'):wpOp P ops Q i K a w:=by
 have a4:ops[i]?=some o:=by simpa using ho
 have a3:i<listed.size:=by rw [k.lsz];exact(cV.1 a4).1
 obtain⟨a1,hdo⟩:=mY a0 a4;have hE:=k.looksR a0 ho b0;have hp:=k.pend i o ho hT hS;rw [hk] at hp;unfold wpOp;simp only [a4];have a2:=Sb_set (listed:=listed) a3;rcases hp with⟨a7,x,hx,hxi,nv,hnw,hob,hdst⟩|⟨a9,a7,hdst⟩
 ·rw [if_pos (EQ a0 hE a7)];obtain⟨s,hs,u,ob,lc,w',hrun,hheap,hos,htape,hout,hblk,hwr,hfam,hobj,hval⟩:=It (w:=w) hE k.gl a1 hnw;refine .inl ?_;unfold Oper.wp;have b6:(execOp a.eval o).run P w= .ok (.value u) w':=by rw [hs];simp [hrun]
  rw [b6,GF];have c2:m x.id=none:=(k.pn2 x hx).2.2 (by rw [hxi];exact hS);obtain⟨q1,q2,q3,q4,q5⟩:=k.pn1 x hx;obtain⟨r1,r2,r3⟩:=k.pn2 x hx;have b7:∀b sz els f ro,aB b (fV (Sb listed) pn h.mem)=some (.cells sz els f ro)→f≠x.id:=by
   intro b sz els f ro hb;rcases xN _ _ _ k.pid _ _ hb with⟨y,hy,a8,hyb,hyo⟩|⟨_,hb⟩
   ·have b3:y≠x:=fun e1=>by subst e1;rw [hxi,hS] at a8;cases a8
    have:=(k.pn2 y hy).2.1 _ _ _ _ hyo;rw [this];exact(k.inj hy hx b3).1
   ·exact r1 _ _ _ _ _ hb
  have c0:aB x.id (fV (Sb (listed.setIfInBounds i true)) pn h.mem)=some (nv.ob x.id):=by
   rw [←hob];exact pC _ _ _ k.pid x hx (by rw [a2];simp [hxi])
  have c1:∀b,b≠x.id→aB b (fV (Sb (listed.setIfInBounds i true)) pn h.mem)=aB b (fV (Sb listed) pn h.mem):=by
   intro b hb
   by_cases hy:∃y∈pn,Sb listed y.idx=true∧y.id=b
   ·obtain⟨y,h1,h2,rfl⟩:=hy;rw [pC _ _ _ k.pid y h1 h2,pC _ _ _ k.pid y h1 (by rw [a2];simp [h2])]
   ·rw [sM,sM]
    ·intro y h1 h2 h3;exact hy ⟨y,h1,h2,h3⟩
    ·intro y h1 h2 h3;rw [a2] at h2;simp only [kN,iO] at h2;rcases h2 with h2|h2
     ·by_cases e1:y=x
      ·subst e1;exact hb h3.symm
      ·exact(k.inj h1 hx e1).2 (h2.trans hxi.symm)
     ·exact hy ⟨y,h1,h2,h3⟩
  obtain⟨hF,hle⟩:=Fr.addNew k.fr c2 q3 q4 hblk (fun sz els f ro e1=>hfam x.id sz els f ro e1) b7 hheap hos htape hout (fun m' b9 w2 c6=>hobj x.id m' b9 w2 c6) c0 c1;refine hn _ _ w' (EK k ho hT a6 hle hF (fun d hd=>by rw [hdst d hd];exact hval x.id _ (by simp)) ?_);intro y hy a8;rw [a2] at a8;simp at a8;have b3:y≠x:=fun e1=>by subst e1;exact a8.1 hxi
  have:=(k.inj hy hx b3).1;simp [this];exact(k.pn2 y hy).2.2 a8.2
 ·rw [if_neg (by rw [EQ a0 hE a7];simp)];refine hn m _ w (EK k ho hT a6 (Mp.le_refl m) ?_ (fun d hd=>by rw [hdst d hd];simp [R,Rl,dU,undef]) (fun x hx hs=>(k.pn2 x hx).2.2 ?_))
  ·rw [DW k a3 a9];exact k.fr
  ·rw [Sb_set a3] at hs;simp at hs;exact hs.2
end
end
section
variable {P:Program} {m:Mp} {w:Wo}
section
variable {n:Nat} {ops:Array Oper} {base:DOp2} {tl:List Nat} {call:dQ} {e':Env} {h':H} {m0:Mp} {h0:H} {w0:Wo} {listed:Array Bool} {T:Nat} {l:List Nat} {e:Env} {h:H} {pn:List PN} {pc:List PC} {a:Act}
def UF (a2:qP ops.toList (aO [] ops.toList)=true) (a1:jE P n ops=true) {s:Nat} (k:Inv P n ops base tl call e' h' m0 h0 w0 listed T (s::l) e h pn pc m a w) {o:Oper} (ho:ops.toList[s]?=some o)
  (c5:∀x∈o.after.toList,kS x=true→Sb listed x.on=true) (b6:∀x,Nat.testBit (natAt (aO [] ops.toList) s) x=true→Sb listed x=true)
  {m':Mp} {w':Wo} {u:Value} {v:V} {h1:H} {pn1:List PN} {b5:List PC} (hm:m.le m') (hR:R m' v u)
  (a0:(iB P base ops.toList (aO [] ops.toList) l).run call (jV o.dst v e) h1 pn1 b5= .ok e' h')
  (e3:Fr m0 h0 w0 m' (gO (Sb (listed.setIfInBounds s true)) pn1 h1) w')
  (f0:∀x,Nat.testBit (natAt (aO [] ops.toList) s) x.idx=false→(x∈pn↔x∈pn1)) (e8:∀c∈pc,Nat.testBit (natAt (aO [] ops.toList) s) c.idx=false→c∈b5)
  (hh:∀c∈pc,Nat.testBit (natAt (aO [] ops.toList) s) c.idx=false→∀(q:H→Option V) v,(c.chk=fun h'=>eqO v (q h'))→q (hq h)=some v→q (hq h1)=some v)
  (e9:pn1.Pairwise (fun x y=>x.id≠y.id∧x.idx≠y.idx)) (b9:∀x∈pn1,x∈pn) (e5:h.next.toNat≤h1.next.toNat)
  (e6:∀x∈pn1,aB x.id h1.mem=none) (e7:∀x∈pn1,(∀b sz els f ro,aB b h1.mem=some (.cells sz els f ro)→f≠x.id)∧(Sb listed x.idx=false→m' x.id=none)):
  Inv P n ops base tl call e' h' m0 h0 w0 (listed.setIfInBounds s true) (T|||2^s) l (jV o.dst v e) h1 pn1 b5 m' (a.put o.dst u) w':=by
 have c1:ops[s]?=some o:=by simpa using ho
 have c6:s<listed.size:=by rw [k.lsz];exact(cV.1 c1).1
 obtain⟨c4,hdo⟩:=mY a1 c1;obtain⟨c7,hbT,_,hpl⟩:=sD k.plan;have f3:=k.le;have a4:=Sb_set (listed:=listed) c6;have a8:∀j,Sb listed j=true→Sb (listed.setIfInBounds s true) j=true:=fun j hj=>by rw [a4];simp [hj]
 have a7:∀j,Sb (listed.setIfInBounds s true) j=false→j≠s∧Sb listed j=false:=fun j hj=>by
  rw [a4] at hj;simpa using hj
 have c3:=FX a2 a1 k ho (fun x hx _=>b6 x hx) v;refine⟨⟨by simp [k.lsz],?_,?_,?_,?_,by rw [RE];exact k.size,k.le,?_,?_,e3,k.gl.mono hm,e9,?_,?_⟩,hpl,a0⟩
 ·intro j oj hj hS x hx hb;rw [a4] at hS;simp only [kN,iO] at hS;rcases hS with rfl|hS
  ·rw [ho] at hj;cases hj;exact a8 _ (c5 x hx hb)
  ·exact a8 _ (k.down j oj hj hS x hx hb)
 ·intro j hj;rw [a4] at hj;rw [jL];simp only [kN,iO] at hj ⊢;rcases hj with rfl|hj
  ·exact .inl rfl
  ·exact .inr (k.sT j hj)
 ·intro j hj x hx;rw [jL] at hj ⊢;simp only [kN,iO] at hj ⊢;rcases hj with rfl|hj
  ·exact .inr (hbT x hx)
  ·exact .inr (k.tT j hj x hx)
 ·intro j oj hj b7 hS;obtain⟨a5,hSj⟩:=a7 j hS;rw [jL] at b7;simp only [kN,iO] at b7;have b7:Nat.testBit T j=true:=b7.resolve_left a5;have d0:Nat.testBit (natAt (aO [] ops.toList) s) j=false:=by
   cases hb:Nat.testBit (natAt (aO [] ops.toList) s) j with
   |false=>rfl
   |true=>rw [b6 j hb] at hSj;cases hSj
  obtain⟨q1,q2⟩:=EW (v:=v) (e:=e) (i:=s) k.le a1 hdo hj (c3 j oj hj b7 hSj);refine(k.pend j oj hj b7 hSj).mono q1 q2 (fun x hx=>f0 x (by rw [hx];exact d0)) (fun c hc c8=>e8 c hc (by rw [c8];exact d0)) ?_;rintro q v1 ⟨c,hc,c8,hck⟩ d1;exact hh c hc (by rw [c8];exact d0) q v1 hck d1
 ·rw [xY k.le hdo,RG];obtain⟨L,h1,h2⟩:=k.dfr;exact⟨L,h1,h2.mono hm⟩
 ·intro t ht;rw [RF (by rw [k.size];exact ht),pG (by omega) (fun x hx=>by have:=jJ hdo hx;omega)]
  by_cases e1:o.dst=some t
  ·rw [if_pos e1,if_pos e1];exact .inr hR
  ·rw [if_neg e1,if_neg e1];rcases k.env t ht with⟨x,ox,g1,g2,g3,g4⟩|g1
   ·refine .inl ⟨x,ox,by rw [jL];simp [g1],?_,g3,g4⟩;rw [a4];have:x≠s:=fun e2=>by subst e2;rw [g1] at c7;cases c7
    simp [this,g2]
   ·exact .inr (g1.mono hm)
 ·intro x hx;obtain⟨g1,g2,g3,g4,g5⟩:=k.pn1 x (b9 x hx);exact⟨by rw [jL];simp [g1],g2,g3,eE g4 e5,e6 x hx⟩
 ·intro x hx;obtain⟨g1,g2⟩:=e7 x hx;exact⟨g1,(k.pn2 x (b9 x hx)).2.1,fun hS=>g2 (a7 _ hS).2⟩
def PA (c2:jT P call) (a2:qP ops.toList (aO [] ops.toList)=true) (a1:jE P n ops=true) {s:Nat} (k:Inv P n ops base tl call e' h' m0 h0 w0 listed T (s::l) e h pn pc m a w) {o:Oper} (ho:ops.toList[s]?=some o)
  (c5:∀x∈o.after.toList,kS x=true→Sb listed x.on=true) (b6:∀x,Nat.testBit (natAt (aO [] ops.toList) s) x=true→Sb listed x=true)
  (hk:jH P ops.toList (aO [] ops.toList) s o= .heavy) {K:Act→Wo→Prop} {Q:Exit→Act→Wo→Prop}
  (hn:∀e1 h1 pn1 b5 m' a' w',Inv P n ops base tl call e' h' m0 h0 w0 (listed.setIfInBounds s true) (T|||2^s) l e1 h1 pn1 b5 m' a' w'→K a' w'):wpOp P ops Q s K a w:=by
 have c1:ops[s]?=some o:=by simpa using ho
 have c6:s<listed.size:=by rw [k.lsz];exact(cV.1 c1).1
 obtain⟨c4,hdo⟩:=mY a1 c1;obtain⟨c7,hbT,_,hpl⟩:=sD k.plan;have hE:=k.looksR a1 ho b6;have a4:=Sb_set (listed:=listed) c6;have a0:=k.run;rw [iB] at a0;simp only [nX,ho,hk] at a0;have a6:∀x∈pn,x.idx≠s:=fun x hx f2=>by have:=(k.pn1 x hx).1;rw [f2,c7] at this;cases this
 unfold wpOp;simp only [c1];cases hgd:gdC ops.toList o (eG e (eN ops.toList o)) with
 |none=>rw [hgd] at a0;cases a0
 | some b=>
  rw [hgd] at a0;have hw:=EQ a1 hE hgd;cases b with
  | false=>
   simp only at a0;rw [if_neg (by rw [hw];simp)];refine hn _ _ _ _ m _ w (UF a2 a1 k ho c5 b6 (Mp.le_refl m) (show R m dU undef by simp [R,Rl,dU,undef]) a0 ?_ (fun _ _=>Iff.rfl) (fun _ hc _=>hc) (fun _ _ _ _ _ _ hq=>hq) k.pnd (fun _ hx=>hx) (aA _)
    (fun x hx=>(k.pn1 x hx).2.2.2.2) (fun x hx=>⟨(k.pn2 x hx).1,(k.pn2 x hx).2.2⟩))
   rw [DW k.toCore c6 a6];exact k.fr
  | true=>
   simp only at a0;rw [if_pos hw];refine .inl ?_;cases hv:hvC P o.op call (eG e (eN ops.toList o)) (gO (Nat.testBit (natAt (aO [] ops.toList) s)) pn h) with
   |bad=>rw [hv] at a0;cases a0
   | ok v h1=>
    rw [hv] at a0;simp only at a0;cases hck:xC (hq h1) (jQ (fun c=>!Nat.testBit (natAt (aO [] ops.toList) s) c.idx) pc) with
    |false=>rw [hck] at a0;cases a0
    | true=>
     rw [hck] at a0;simp only [dG] at a0;have hs:∀x ox,aB x (fV (Nat.testBit (natAt (aO [] ops.toList) s)) pn h.mem)=some ox→aB x (fV (Sb listed) pn h.mem)=some ox:=by
      intro x ox hx;rcases xN _ _ _ k.pid _ _ hx with⟨y,g1,g2,g3,g4⟩|⟨_,g1⟩
      ·rw [←g3,pC _ _ _ k.pid y g1 (b6 _ g2),g4]
      ·exact k.sub _ _ g1
     have f1:HR m (gO (Nat.testBit (natAt (aO [] ops.toList) s)) pn h) w:=k.fr.hr.sub (mem':=fV (Nat.testBit (natAt (aO [] ops.toList) s)) pn h.mem) hs (aA _);have d9:=Ku c2 hE k.gl f1 c4 hv;refine KM (n:=n) (e:=e) d9 ?_;intro u m' w' hF hR;have d2:∀x,(∃y∈pn,Sb listed y.idx=true∧Nat.testBit (natAt (aO [] ops.toList) s) y.idx=false∧y.id=x)→aB x (fV (Nat.testBit (natAt (aO [] ops.toList) s)) pn h.mem)=none∧∃ox,aB x (fV (Sb listed) pn h.mem)=some ox:=by
      rintro x ⟨y,g1,g2,g3,rfl⟩;refine⟨?_,y.ob,pC _ _ _ k.pid y g1 g2⟩;rw [sM]
      ·exact(k.pn1 y g1).2.2.2.2
      ·intro z z1 z2 z3;have a5:z≠y:=fun e1=>by subst e1;rw [g3] at z2;cases z2
       exact(k.inj z1 g1 a5).1 z3
     have d3:∀x,(∃y∈pn,Sb listed y.idx=true∧Nat.testBit (natAt (aO [] ops.toList) s) y.idx=false∧y.id=x)→Priv (gO (Sb listed) pn h) x:=by
      rintro x ⟨y,g1,g2,g3,rfl⟩ z ox oz a5 hox hoz hsf;have e1:ox=y.ob:=by
       have h9:aB y.id (fV (Sb listed) pn h.mem)=some ox:=hox;rw [pC _ _ _ k.pid y g1 g2] at h9;exact(bP h9).symm
      subst e1;have h9:aB z (fV (Sb listed) pn h.mem)=some oz:=hoz;cases hyo:y.ob with
      | cells sz els f ro=>
       have hf:=(k.pn2 y g1).2.1 _ _ _ _ hyo;rw [hyo] at hsf;cases oz with
       | cells sz' els' f' ro'=>
        have d4:f'=f:=hsf;rcases xN _ _ _ k.pid _ _ h9 with⟨y2,b1,b2,b3,b4⟩|⟨_,b1⟩
        ·have:=(k.pn2 y2 b1).2.1 _ _ _ _ b4;apply a5;rw [←b3,←this,d4,hf]
        ·exact(k.pn2 y g1).1 _ _ _ _ _ b1 (d4.trans hf)
       |_=>exact hsf
      |_=>rw [hyo] at hsf;cases oz<;>exact hsf
     have d7:Fr m ⟨fV (Nat.testBit (natAt (aO [] ops.toList) s)) pn h.mem,(gO (Sb listed) pn h).fams,(gO (Sb listed) pn h).next⟩ w m' h1 w':=hF;have a9:(jQ (fun x:PN=>!Nat.testBit (natAt (aO [] ops.toList) s) x.idx) pn).Pairwise (fun x y=>x.id≠y.id):=EF _ k.pid;have hX:∀x,(∃y∈pn,Sb listed y.idx=true∧Nat.testBit (natAt (aO [] ops.toList) s) y.idx=false∧y.id=x)↔∃y∈jQ (fun x:PN=>!Nat.testBit (natAt (aO [] ops.toList) s) x.idx) pn,Sb (listed.setIfInBounds s true) y.idx=true∧y.id=x:=by
      intro x;constructor
      ·rintro⟨y,g1,g2,g3,g4⟩;exact⟨y,(pU _ _ _).2 ⟨g1,by simp [g3]⟩,by rw [a4];simp [g2],g4⟩
      ·rintro⟨y,g1,g2,g3⟩;obtain⟨g4,g5⟩:=(pU _ _ _).1 g1;rw [a4,kU (a6 y g4),rV] at g2;exact⟨y,g4,g2,by simpa using g5,g3⟩
     have d8:=Fr.merge (m':=m') (w':=w') (H1:=gO (Sb listed) pn h) k.fr.hr (memb:=fV (Nat.testBit (natAt (aO [] ops.toList) s)) pn h.mem) hs
      (X:=fun x=>∃y∈pn,Sb listed y.idx=true∧Nat.testBit (natAt (aO [] ops.toList) s) y.idx=false∧y.id=x)
      (by
       intro x ox hx;rcases xN _ _ _ k.pid _ _ hx with⟨y,g1,g2,g3,g4⟩|⟨_,g1⟩
       ·cases hb:Nat.testBit (natAt (aO [] ops.toList) s) y.idx with
        |false=>exact .inl ⟨y,g1,g2,hb,g3⟩
        |true=>exact .inr (by rw [←g3,pC _ _ _ k.pid y g1 hb,g4])
       ·refine .inr ?_;rw [sM]
        ·exact g1
        ·intro z z1 z2 z3;have:=(k.pn1 z z1).2.2.2.2;rw [z3,g1] at this;cases this)
      d2 d3 d7 (mem2:=fV (Sb (listed.setIfInBounds s true)) (jQ (fun x:PN=>!Nat.testBit (natAt (aO [] ops.toList) s) x.idx) pn) h1.mem)
      (by
       intro x ox;constructor
       ·intro hx;rcases xN _ _ _ a9 _ _ hx with⟨y,g1,g2,g3,g4⟩|⟨g0,g1⟩
        ·have b8:=(hX x).2 ⟨y,g1,g2,g3⟩;refine .inr ⟨b8,?_⟩;obtain⟨g5,g6⟩:=(pU _ _ _).1 g1;rw [a4,kU (a6 y g5),rV] at g2;show aB x (fV (Sb listed) pn h.mem)=some ox;rw [←g3,pC _ _ _ k.pid y g5 g2,g4]
        ·refine .inl ⟨?_,g1⟩;intro b8;obtain⟨y,b1,b2,b3⟩:=(hX x).1 b8;exact g0 y b1 b2 b3
       ·rintro(⟨g1,g2⟩|⟨g1,g2⟩)
        ·rw [sM]
         ·exact g2
         ·intro y b1 b2 b3;exact g1 ((hX x).2 ⟨y,b1,b2,b3⟩)
        ·obtain⟨y,b1,b2,b3⟩:=(hX x).1 g1;rw [←b3,pC _ _ _ a9 y b1 b2];obtain⟨g5,g6⟩:=(pU _ _ _).1 b1;rw [a4,kU (a6 y g5),rV] at b2;have h9:aB x (fV (Sb listed) pn h.mem)=some ox:=g2;rw [←b3,pC _ _ _ k.pid y g5 b2] at h9;exact h9)
     have b9:∀x∈jQ (fun x:PN=>!Nat.testBit (natAt (aO [] ops.toList) s) x.idx) pn,x∈pn∧Nat.testBit (natAt (aO [] ops.toList) s) x.idx=false:=fun x hx=>by
      obtain⟨g5,g6⟩:=(pU _ _ _).1 hx;exact⟨g5,by simpa using g6⟩
     refine hn _ _ _ _ m' _ w' (UF a2 a1 k ho c5 b6 hF.le hR a0 (k.fr.trans d8) ?_ ?_ ?_ (EF _ k.pnd) (fun x hx=>(b9 x hx).1) hF.nxt ?_ ?_)
     ·intro x hx;rw [pU];simp [hx]
     ·intro c hc c9;rw [pU];simp [hc,c9]
     ·intro c hc c9 q v1 d1 f4;have:=RV hck c (by rw [pU];simp [hc,c9]);rw [d1] at this;simp only [eqO] at this;cases hx:q (hq h1) with
      |none=>rw [hx] at this;cases this
      |some v2=>rw [hx] at this;rw [beq_eq this]
     ·intro x hx;obtain⟨g1,g2⟩:=b9 x hx;cases hxo:aB x.id h1.mem with
      |none=>rfl
      | some ob=>
       exfalso;obtain⟨lx,hlx,_⟩:=hF.hr.obj _ _ hxo;have c0:=hF.old _ _ hlx (k.pn1 x g1).2.2.2.1;have e0:Sb listed x.idx=true:=by
        cases hs:Sb listed x.idx with
        |true=>rfl
        |false=>rw [(k.pn2 x g1).2.2 hs] at c0;cases c0
       have b8:∃y∈pn,Sb listed y.idx=true∧Nat.testBit (natAt (aO [] ops.toList) s) y.idx=false∧y.id=x.id:=⟨x,g1,e0,g2,rfl⟩;obtain⟨nb,ox,hox⟩:=d2 _ b8;rcases hF.back _ _ _ hxo hlx with h1|⟨b0,ob0,l0,hb0,hl0,he,_⟩
       ·have:=k.fr.hr.lt _ _ c0;omega
       ·have a3:aB b0 (fV (Nat.testBit (natAt (aO [] ops.toList) s)) pn h.mem)=some ob0:=hb0;have a5:b0≠x.id:=fun e1=>by rw [e1,nb] at a3;cases a3
        exact(d3 _ b8).sep k.fr.hr hox (hs _ _ a3) c0 hl0 a5 he.symm
     ·intro x hx;obtain⟨g1,g2⟩:=b9 x hx;refine⟨?_,?_⟩
      ·intro b sz els f ro hb e1;rcases hF.famold _ _ _ _ _ hb with h1|⟨b0,sz0,els0,ro0,hb0⟩
       ·have:=(k.pn1 x g1).2.2.2.1;have d6:h.next.toNat≤f.toNat:=h1;rw [e1] at d6;omega
       ·have a3:aB b0 (fV (Nat.testBit (natAt (aO [] ops.toList) s)) pn h.mem)=some (.cells sz0 els0 f ro0):=hb0;rcases xN _ _ _ k.pid _ _ a3 with⟨y,y1,y2,y3,y4⟩|⟨_,y1⟩
        ·have hf:=(k.pn2 y y1).2.1 _ _ _ _ y4;have a5:y≠x:=fun e2=>by subst e2;rw [g2] at y2;cases y2
         exact(k.inj y1 g1 a5).1 (by rw [←hf,e1])
        ·exact(k.pn2 x g1).1 _ _ _ _ _ y1 e1
      ·intro hS;cases c0:m' x.id with
       |none=>rfl
       |some lx=>
        have:=hF.old _ _ c0 (k.pn1 x g1).2.2.2.1;rw [(k.pn2 x g1).2.2 hS] at this;cases this
def NB (a2:qP ops.toList (aO [] ops.toList)=true) (a1:jE P n ops=true):∀(l:List Nat) (T:Nat) (e:Env) (h:H) (pn:List PN) (pc:List PC),Inv P n ops base tl call e' h' m0 h0 w0 listed T l e h pn pc m a w→pX P ops.toList (aO [] ops.toList) tl l=true→
  ∃T1 l1 e1 h1 pn1 b5,Inv P n ops base tl call e' h' m0 h0 w0 listed T1 l1 e1 h1 pn1 b5 m a w∧pX P ops.toList (aO [] ops.toList) tl l1=true∧T|||mJ l=T1|||mJ l1∧(l1= []∨∃s l2 o,l1=s::l2∧ops.toList[s]?=some o∧jH P ops.toList (aO [] ops.toList) s o= .heavy)
 | [],T,e,h,pn,pc,k,hc=>⟨T,[],e,h,pn,pc,k,hc,rfl,.inl rfl⟩
 | s::l,T,e,h,pn,pc,k,hc=>by
  have d5:T|||mJ (s::l)=(T|||2^s)|||mJ l:=by rw [mJ,Nat.or_assoc]
  obtain⟨_,_,⟨o,ho⟩,_⟩:=sD k.plan;cases hk:jH P ops.toList (aO [] ops.toList) s o with
  |light=>
   obtain⟨e1,b5,k1⟩:=Qj a2 a1 k ho hk;rw [d5];exact NB a2 a1 l _ _ _ _ _ k1 (ME hc).2
  |new=>
   obtain⟨e1,h1,pn1,k1⟩:=Qi a2 a1 k ho hk (fun nv e4=>Iu e4);rw [d5];exact NB a2 a1 l _ _ _ _ _ k1 (ME hc).2
  |heavy=>exact⟨T,s::l,e,h,pn,pc,k,hc,rfl,.inr ⟨s,l,o,rfl,ho,hk⟩⟩
end
end
section
variable {P:Program} {m:Mp} {w:Wo}
def rB {α:Type} {n n':N8 α} (h:∀d,jW d n=jW d n'):n=n':=by
 cases n;cases n';congr 1<;>first|exact h .d0|exact h .d1|exact h .d2|exact h .d3|exact h .d4|exact h .d5|exact h .d6|exact h .d7
def SU {x y:Mem} (h:∀i,aB i x=aB i y):x=y:=
 rB fun a=>rB fun b=>rB fun c=>rB fun d=>rB fun e=>h ⟨a,b,c,d,e⟩
def Mb {x y:Fam} (h:∀i,bR i x=bR i y):x=y:=
 rB fun a=>rB fun b=>rB fun c=>rB fun d=>rB fun e=>h ⟨a,b,c,d,e⟩
def wU {o k:Nat} (hw:wr h b o xs k= .ok v h'):∃sz els f els' ty,aB b h.mem=some (.cells sz els f (.rw ty))∧
  (∀h2:H,aB b h2.mem=aB b h.mem→wr h2 b o xs k= .ok dU (fR (iS h2 f b) b (.cells sz els' f (.rw ty)))):=by
 unfold wr at hw;cases hm:aB b h.mem with
 |none=>rw [hm] at hw;cases hw
 | some ob=>
  rw [hm] at hw;cases ob with
  | cells sz els f ro=>
   simp only [wrO] at hw;cases ro with
   |fz=>cases hw
   |fr _=>cases hw
   | rw ty=>
    simp only at hw;cases he:qS els (Nat.div o sz) with
    |none=>rw [he] at hw;cases hw
    | some el=>
     rw [he] at hw;simp only at hw;generalize hx:(Bool.rec (motive:=fun _=>Option (List V)) (jY (Nat.mod o sz) el xs) (some xs) (Nat.beq (Nat.mod o sz) 0&&Nat.beq k sz):Option (List V))=x at hw;cases x with
     |none=>cases hw
     |some el'=>
      refine⟨sz,els,f,sA els (Nat.div o sz) el',ty,rfl,?_⟩;intro h2 b9;unfold wr;rw [b9];simp only [wrO,he,hx]
  |_=>cases hw
def KG (h:oD ops s=true):∃o t x y,ops[s]?=some o∧o.op= .store t x y∧o.dst=none∧o.guard=none:=by
 unfold oD at h;rw [nX] at h;cases ho:ops[s]? with
 |none=>rw [ho] at h;cases h
 | some o=>
  rw [ho] at h;simp only at h;split at h
  ·rename_i t x y h1 h2 h3;exact⟨o,t,x,y,rfl,h1,h2,h3⟩
  ·cases h
def UE {x y:Operand} (h1:o.op= .store t x y) (h2:o.dst=none):jH P ops bef s o= .heavy:=by
 simp [jH,xP,h1,h2,isNew,isHeavy]
def Cy {x y:Operand} (hv:hvC P (.store t x y) call e h= .ok v h'):
  ∃b o c nn,(aD x).run e= .p b o∧wr h b o c nn= .ok v h'∧∀h2,hvC P (.store t x y) call e h2=wr h2 b o c nn:=by
 have hH:isHeavy P (.store t x y)=true:=rfl;unfold hvC at hv ⊢;simp only [hH,dG,uI] at hv ⊢;cases hs:cF P t with
 |none=>rw [hs] at hv;cases hv
 | some nn=>
  simp only [hs] at hv ⊢;obtain⟨b,o,e1,hv⟩:=BO hv;cases hc:fM ((aD y).run e) with
  |none=>simp only [hc] at hv;cases hv
  | some c=>
   simp only [hc] at hv ⊢;cases hn:Nat.beq (fW c) nn with
   |false=>rw [hn] at hv;cases hv
   |true=>
    rw [hn] at hv;refine⟨b,o,c,nn,e1,hv,fun h2=>?_⟩;rw [e1];rfl
def StoreIs (P:Program) (ops:List Oper) (s:Nat) (e:Env) (call:dQ) (b:Id) (o:Nat) (c:List V) (nn:Nat):Prop:=
 storeAt ops s e=some b∧∀base bef l h e' h' pc,(iB P base ops bef (s::l)).run call e h [] pc= .ok e' h'→∃v h1 c8,wr h b o c nn= .ok v h1∧(iB P base ops bef l).run call e h1 [] c8= .ok e' h'
def FD {base:DOp2} {pc:List PC} (c7:oD ops s=true)
  (hv:(iB P base ops bef (s::l)).run call e h [] pc= .ok e' h'):∃b o c nn,StoreIs P ops s e call b o c nn:=by
 obtain⟨op,t,x,y,ho,h1,h2,h3⟩:=KG c7;have key:∀base bef l a4 e2 b5 a7,(iB P base ops bef (s::l)).run call e a4 [] a7= .ok e2 b5→∃v h4 b6,hvC P (.store t x y) call (eG e (eN ops op)) a4= .ok v h4∧(iB P base ops bef l).run call e h4 [] b6= .ok e2 b5:=by
  intro base bef l a4 e2 b5 a7 hr;have c4:=UE (P:=P) (ops:=ops) (bef:=bef) (s:=s) h1 h2;rw [iB] at hr;simp only [nX,ho,c4] at hr;have c3:gdC ops op (eG e (eN ops op))=some true:=by simp [gdC,h3]
  rw [c3] at hr;simp only at hr;have c5:gO (Nat.testBit (natAt bef s)) [] a4=a4:=by cases a4;rfl
  rw [c5,h1] at hr;cases hc:hvC P (.store t x y) call (eG e (eN ops op)) a4 with
  |bad=>rw [hc] at hr;cases hr
  | ok v h4=>
   rw [hc] at hr;simp only at hr;cases hck:xC (hq h4) (jQ (fun c=>!Nat.testBit (natAt bef s) c.idx) a7) with
   |false=>rw [hck] at hr;cases hr
   |true=>
    rw [hck] at hr;simp only [dG,h2,jV,jQ] at hr;exact⟨v,h4,_,rfl,hr⟩
 obtain⟨v,h4,b6,a1,a2⟩:=key _ _ _ _ _ _ _ hv;obtain⟨b,o,c,nn,b1,b2,b3⟩:=Cy a1;refine⟨b,o,c,nn,?_,?_⟩
 ·unfold storeAt;rw [nX,ho];simp only [h1,b1]
 ·intro base bef l a4 e2 b5 a7 hr;obtain⟨v',h4',pc3',c1,c2⟩:=key _ _ _ _ _ _ _ hr;exact⟨v',h4',pc3',by rw [←b3];exact c1,c2⟩
def DV (b:Id):∀l:List Id,uB b l=true↔b∈l
 | []=>by simp [uB]
 | a::l=>by
  rw [uB];cases h:Id.beq a b with
  |true=>have:=Id.beq_iff.1 h;simp [this]
  |false=>
   have:a≠b:=fun e=>by rw [Id.beq_iff.2 e] at h;cases h
   simp [DV b l,fO this]
def Bk {b1 b2 f1 f2:Id} {sz1 sz2:Nat} {els1 els2:List (List V)} {X1 X2:O} (hb:b1≠b2) (hf:f1≠f2) (b7:b2∉bR f1 h.fams) (b8:b1∉bR f2 h.fams):
  fR (iS (fR (iS h f1 b1) b1 X1) f2 b2) b2 X2=fR (iS (fR (iS h f2 b2) b2 X2) f1 b1) b1 X1:=by
 obtain⟨mem,fams,next⟩:=h;simp only [oQ,xO] at*;have g2:bR f2 (if bR f1 fams= [] then fams else jR f1 [] fams)=bR f2 fams:=by
  split
  ·rfl
  ·rw [mL (fO hf)]
 have g1:bR f1 (if bR f2 fams= [] then fams else jR f2 [] fams)=bR f1 fams:=by
  split
  ·rfl
  ·rw [mL hf]
 rw [g1,g2];have e1:(fU b2 (some X2) (kF (mH b2 (bR f2 fams)) (fU b1 (some X1) (kF (mH b1 (bR f1 fams)) mem))))=(fU b1 (some X1) (kF (mH b1 (bR f1 fams)) (fU b2 (some X2) (kF (mH b2 (bR f2 fams)) mem)))):=by
  refine SU fun x=>?_
  by_cases x1:x=b1
  ·subst x1;rw [iA,gN hb,oC,iA];simp [tW,b8]
  ·by_cases x2:x=b2
   ·subst x2;rw [iA,gN x1,oC,iA];simp [tW,b7]
   ·rw [gN x2,oC,gN x1,oC,gN x1,oC,gN x2,oC];split<;>split<;>rfl
 have e2:(if bR f2 fams= [] then(if bR f1 fams= [] then fams else jR f1 [] fams) else jR f2 [] (if bR f1 fams= [] then fams else jR f1 [] fams))=(if bR f1 fams= [] then(if bR f2 fams= [] then fams else jR f2 [] fams) else jR f1 [] (if bR f2 fams= [] then fams else jR f2 [] fams)):=by
  refine Mb fun x=>?_
  by_cases x1:x=f1
  ·subst x1;split<;>split<;>simp [qZ,mL hf, *]
  ·by_cases x2:x=f2
   ·subst x2;split<;>split<;>simp [qZ,mL x1, *]
   ·split<;>split<;>simp [mL x1,mL x2, *]
 rw [e1,e2]
def BK:∀{a b:List (List V)},rH a b=true→a=b
 | [],[],_=>rfl
 | [],_::_,h=>by simp [rH] at h
 |_::_,[],h=>by simp [rH] at h
 |a::l,b::r,h=>by
  simp only [rH,aR] at h;rw [wD h.1,BK h.2]
def OF {f:Id} {X Y:O}:
  fR (iS (fR (iS h f b) b X) f b) b Y=fR (iS h f b) b Y:=by
 obtain⟨mem,fams,next⟩:=h;simp only [oQ,xO];have g1:bR f (if bR f fams= [] then fams else jR f [] fams)= []:=by
  split
  ·assumption
  ·rw [qZ]
 rw [g1];congr 1
 ·refine SU fun x=>?_
  by_cases x1:x=b
  ·subst x1;rw [iA,iA]
  ·rw [gN x1,gN x1,oC,gN x1];simp [mH]
def Hq {s1 s2:Nat} {pn:List PN} {pc:List PC} (i1:oD ops s1=true) (i2:oD ops s2=true)
  (hv:(JH P ops bef s1 s2).run call e h pn pc= .ok e' h'):(iB P mK ops bef [s1,s2]).run call e h pn pc= .ok e' h'∧(iB P mK ops bef [s2,s1]).run call e h pn pc= .ok e' h':=by
 unfold JH at hv;simp only at hv;split at hv
 ·rename_i e1 h1 e2 h2 a8 a9;cases hp:JG ops s1 s2 e h pn with
  | false=>
   rw [hp] at hv;simp only [mO] at hv;cases hq:IF ops s1 s2 e h1 h2 pn with
   |false=>rw [hq] at hv;cases hv
   | true=>
    rw [hq] at hv;simp only [dG] at hv;cases hv;refine⟨a8,?_⟩;rw [a9];unfold IF at hq;split at hq
    ·rename_i b1 b2 q1 q2;simp only [aR] at hq;obtain⟨c6,hq2⟩:=hq;have hb:=Id.beq_iff.1 c6;subst hb;obtain⟨c1,o1,xs1,n1,a1,A1⟩:=FD i1 a8;obtain⟨c2,o2,xs2,n2,a2,A2⟩:=FD i2 a9;rw [q1] at a1;cases a1;rw [q2] at a2;cases a2;obtain⟨v1,k1,pc1,w1,r1⟩:=A1 _ _ _ _ _ _ _ a8;obtain⟨v2,k2,a7,w2,r2⟩:=A2 _ _ _ _ _ _ _ a9;obtain⟨c9,k12,pc12,w12,r12'⟩:=A2 _ _ _ _ _ _ _ r1;obtain⟨d8,k21,pc21,w21,r21'⟩:=A1 _ _ _ _ _ _ _ r2;have a5:gO (fun _=>true) [] k12=k12:=by cases k12;rfl
     have a6:gO (fun _=>true) [] k21=k21:=by cases k21;rfl
     simp only [iB,mK,a5] at r12';simp only [iB,mK,a6] at r21';injection r12' with x1 x2
     injection r21' with x3 x4
     rw [←x2,←x4] at hq2;rw [←x1,←x2,←x3,←x4];obtain⟨sz1,els1,f1,el1,ty1,g1,G1⟩:=wU w1;obtain⟨sz2,els2,f2,el2,ty2,g2,G2⟩:=wU w2;rw [g1] at g2;cases g2;have y1:=G1 h rfl;have y2:=G2 h rfl;rw [w1] at y1;rw [w2] at y2;injection y1 with _ y1
     injection y2 with _ y2
     have m1:aB b1 k1.mem=some (.cells sz1 el1 f1 (.rw ty1)):=by
      rw [y1,oQ];exact iA _ _ _
     have m2:aB b1 k2.mem=some (.cells sz1 el2 f1 (.rw ty1)):=by
      rw [y2,oQ];exact iA _ _ _
     obtain⟨d9,els3,f3,el3,ty3,g3,G3⟩:=wU w12;obtain⟨e0,els4,f4,el4,ty4,g4,G4⟩:=wU w21;rw [m1] at g3;cases g3;rw [m2] at g4;cases g4;have a0:=G3 k1 rfl;have a3:=G4 k2 rfl;rw [w12] at a0;rw [w21] at a3;injection a0 with _ a0
     injection a3 with _ a3
     have p1:aB b1 k12.mem=some (.cells sz1 el3 f1 (.rw ty1)):=by
      rw [a0,oQ];exact iA _ _ _
     have p2:aB b1 k21.mem=some (.cells sz1 el4 f1 (.rw ty1)):=by
      rw [a3,oQ];exact iA _ _ _
     rw [p1,p2] at hq2;simp only at hq2;have c0:=BK hq2;rw [a0,a3,y1,y2,c0,OF,OF]
    ·cases hq
  | true=>
   rw [hp] at hv;simp only [dG] at hv;cases hv;refine⟨a8,?_⟩;rw [a9];unfold JG at hp;split at hp
   ·rename_i b1 b2 q1 q2;obtain⟨c1,o1,xs1,n1,a1,A1⟩:=FD i1 a8;obtain⟨c2,o2,xs2,n2,a2,A2⟩:=FD i2 a9;rw [q1] at a1;cases a1;rw [q2] at a2;cases a2;obtain⟨v1,k1,pc1,w1,r1⟩:=A1 _ _ _ _ _ _ _ a8;obtain⟨v2,k2,a7,w2,r2⟩:=A2 _ _ _ _ _ _ _ a9;obtain⟨c9,k12,pc12,w12,r12'⟩:=A2 _ _ _ _ _ _ _ r1;obtain⟨d8,k21,pc21,w21,r21'⟩:=A1 _ _ _ _ _ _ _ r2;have a5:gO (fun _=>true) [] k12=k12:=by cases k12;rfl
    have a6:gO (fun _=>true) [] k21=k21:=by cases k21;rfl
    simp only [iB,mK,a5] at r12';simp only [iB,mK,a6] at r21';injection r12' with x1 x2
    injection r21' with x3 x4
    rw [←x1,←x2,←x3,←x4];obtain⟨sz1,els1,f1,el1,ty1,g1,G1⟩:=wU w1;obtain⟨sz2,els2,f2,el2,ty2,g2,G2⟩:=wU w2;rw [g1,g2] at hp;simp only [aR,yV] at hp;obtain⟨p1,p2,p3,p4⟩:=hp;have hf:f1≠f2:=fun e1=>by rw [Id.beq_iff.2 e1] at p1;cases p1
    have hb:b1≠b2:=fun e1=>by rw [Id.beq_iff.2 e1] at p2;cases p2
    have b0:b2∉bR f1 h.fams:=fun hx=>by rw [(DV _ _).2 hx] at p3;cases p3
    have b4:b1∉bR f2 h.fams:=fun hx=>by rw [(DV _ _).2 hx] at p4;cases p4
    have y1:=G1 h rfl;have y2:=G2 h rfl;rw [w1] at y1;rw [w2] at y2;injection y1 with _ y1
    injection y2 with _ y2
    have m1:aB b2 k1.mem=aB b2 h.mem:=by
     rw [y1,oQ,xO];show aB b2 (fU b1 _ (kF _ _))=_;rw [gN (fO hb),oC];simp [tW,b0]
    have m2:aB b1 k2.mem=aB b1 h.mem:=by
     rw [y2,oQ,xO];show aB b1 (fU b2 _ (kF _ _))=_;rw [gN hb,oC];simp [tW,b4]
    have a0:=G2 k1 m1;have a3:=G1 k2 m2;rw [w12] at a0;rw [w21] at a3;injection a0 with _ a0
    injection a3 with _ a3
    rw [a0,a3,y1,y2];congr 1;exact(Bk (sz1:=0) (sz2:=0) (els1:=[]) (els2:=[]) hb hf b0 b4).symm
   ·cases hp
 ·cases hv
end
section
variable {P:Program} {n:Nat} {ops:Array Oper} {call:dQ} {e':Env} {h':H} {m0:Mp} {h0:H} {w0:Wo}
def QY (b0:wI ops.toList=true) {listed:Array Bool} (c0:listed.size=ops.size) (h:Region.ready .any ops listed= []):∀i,i<ops.size→Sb listed i=true:=by
 intro i
 induction i using Nat.strongRecOn with
 | _ i ih=>
  intro hi;cases hS:Sb listed i with
  |true=>rfl
  | false=>
   exfalso;have ho:ops[i]?=some ops[i]:=by simp [hi]
   have b9:ops.toList[i]?=some ops[i]:=by simpa using ho
   have:i∈Region.ready .any ops listed:=by
    refine sW.2 ⟨?_,ops[i],ho,?_⟩
    ·unfold Sb at hS;have:i<listed.size:=by omega
     simp [Array.getD,this] at hS ⊢;exact hS
    ·intro x hx hb;rw [YF] at hb;have hk:=kV.1 (wT b0 b9) x (by simpa using hx);simp only [hb,wQ,rV] at hk;have b5:x.on<i:=cY hk;exact ih x.on b5 (by omega)
   rw [h] at this;cases this
def KI (ho:ops.toList[s]?=some o):s<ops.size:=by
 have:s<ops.toList.length:=(aZ.1 ho).1;simpa using this
def StA (P:Program) (n:Nat) (ops:Array Oper) (call:dQ) (e':Env) (h':H) (m0:Mp) (h0:H) (w0:Wo) (listed:Array Bool) (m:Mp) (a:Act) (w:Wo):Prop:=
 ∃tl M T l e h pn pc,vD ops.toList (aO [] ops.toList) tl=true∧zE ops.toList (aO [] ops.toList) M tl=true∧
  Inv P n ops (BM P ops.toList (aO [] ops.toList) tl) tl call e' h' m0 h0 w0 listed T l e h pn pc m a w∧pX P ops.toList (aO [] ops.toList) tl l=true∧T|||mJ l=M
def StB (P:Program) (n:Nat) (ops:Array Oper) (call:dQ) (e':Env) (h':H) (m0:Mp) (h0:H) (w0:Wo) (listed:Array Bool) (m:Mp) (a:Act) (w:Wo):Prop:=
 ∃s1 s2 T e h pn pc,oD ops.toList s1=true∧oD ops.toList s2=true∧
  Inv P n ops mK [] call e' h' m0 h0 w0 listed T [s1,s2] e h pn pc m a w∧Inv P n ops mK [] call e' h' m0 h0 w0 listed T [s2,s1] e h pn pc m a w
def StA.norm (a2:qP ops.toList (aO [] ops.toList)=true) (a0:jE P n ops=true) {listed:Array Bool} {m:Mp} {a:Act} {w:Wo} (k:StA P n ops call e' h' m0 h0 w0 listed m a w):
  (∃T e h pn pc,Inv P n ops mK [] call e' h' m0 h0 w0 listed T [] e h pn pc m a w)∨
  (∃tl M T s l o e h pn pc,vD ops.toList (aO [] ops.toList) tl=true∧zE ops.toList (aO [] ops.toList) M tl=true∧ops.toList[s]?=some o∧jH P ops.toList (aO [] ops.toList) s o= .heavy∧
   Inv P n ops (BM P ops.toList (aO [] ops.toList) tl) tl call e' h' m0 h0 w0 listed T (s::l) e h pn pc m a w∧pX P ops.toList (aO [] ops.toList) tl (s::l)=true∧T|||mJ (s::l)=M)∨
  StB P n ops call e' h' m0 h0 w0 listed m a w:=by
 obtain⟨tl,M,T,l,e,h,pn,pc,k1,k2,k3,k4,k5⟩:=k;obtain⟨T1,l1,e1,h1,pn1,b6,q1,q2,q3,q4⟩:=NB a2 a0 l T e h pn pc k3 k4;rcases q4 with rfl|⟨s,l2,o,rfl,ho,hk⟩
 ·match tl,k1,k2,q1,q2 with
  | [],_,_,q1,_=>exact .inl ⟨T1,e1,h1,pn1,b6,q1⟩
  | [s1,s2],k1,k2,q1,_=>
   refine .inr (.inr ?_);simp only [vD,aR] at k1;simp only [zE,aR] at k2;have hT:T1=M:=by rw [←k5,q3];simp [mJ]
   subst hT;have a6:=q1.run;simp only [iB,BM] at a6;obtain⟨r1,r2⟩:=Hq k1.1 k1.2.1 a6;exact⟨s1,s2,T1,e1,h1,pn1,b6,k1.1,k1.2.1,⟨q1.toCore,k2.1,r1⟩,⟨q1.toCore,k2.2,r2⟩⟩
  | [_],k1,_,_,_=>simp [vD] at k1
  |_::_::_::_,k1,_,_,_=>simp [vD] at k1
 ·exact .inr (.inl ⟨tl,M,T1,s,l2,o,e1,h1,pn1,b6,k1,k2,ho,hk,q1,q2,by rw [←q3];exact k5⟩)
def Mz (a4:jT P call) (b0:wI ops.toList=true) (a2:qP ops.toList (aO [] ops.toList)=true) (a0:jE P n ops=true) {Q:Exit→Act→Wo→Prop}
  (hn:∀m' a' w',Fr m0 h0 w0 m' h' w'→dE m' n e' a'→Q .normal a' w'):
  ∀(a1:Nat) (listed:Array Bool) (m:Mp) (a:Act) (w:Wo),
   StA P n ops call e' h' m0 h0 w0 listed m a w∨StB P n ops call e' h' m0 h0 w0 listed m a w→listed.toList.countP (fun b=>!b)≤a1→wpAny P .any ops Q a1 listed a w:=by
 have b2:∀(listed:Array Bool) (m:Mp) (a:Act) (w:Wo),StA P n ops call e' h' m0 h0 w0 listed m a w∨StB P n ops call e' h' m0 h0 w0 listed m a w→
  (∃T e h pn pc,Inv P n ops mK [] call e' h' m0 h0 w0 listed T [] e h pn pc m a w)∨
  (∃tl M T s l o e h pn pc,vD ops.toList (aO [] ops.toList) tl=true∧zE ops.toList (aO [] ops.toList) M tl=true∧ops.toList[s]?=some o∧jH P ops.toList (aO [] ops.toList) s o= .heavy∧
   Inv P n ops (BM P ops.toList (aO [] ops.toList) tl) tl call e' h' m0 h0 w0 listed T (s::l) e h pn pc m a w∧pX P ops.toList (aO [] ops.toList) tl (s::l)=true∧T|||mJ (s::l)=M)∨
  StB P n ops call e' h' m0 h0 w0 listed m a w:=by
  rintro listed m a w (k|k)
  ·exact k.norm a2 a0
  ·exact .inr (.inr k)
 have a7:∀(base:DOp2) (tl:List Nat) (listed:Array Bool) (T s:Nat) (l:List Nat) (e:Env) (h:H) (pn:List PN) (pc:List PC) (m:Mp) (a:Act) (w:Wo),
   Inv P n ops base tl call e' h' m0 h0 w0 listed T (s::l) e h pn pc m a w→Region.ready .any ops listed= []→False:=by
  intro base tl listed T s l e h pn pc m a w k hr;have a8:=QY b0 k.lsz hr;obtain⟨b8,_,⟨o,ho⟩,_⟩:=sD k.plan;rw [k.sT s (a8 s (KI ho))] at b8;cases b8
 have fin:∀(listed:Array Bool) (m:Mp) (a:Act) (w:Wo),StA P n ops call e' h' m0 h0 w0 listed m a w∨StB P n ops call e' h' m0 h0 w0 listed m a w→Region.ready .any ops listed= []→Q .normal a w:=by
  intro listed m a w k hr;rcases b2 listed m a w k with⟨T,e,h,pn,pc,k⟩|⟨tl,M,T,s,l,o,e,h,pn,pc,_,_,_,_,k,_⟩|⟨s1,s2,T,e,h,pn,pc,_,_,k,_⟩
  ·have a8:=QY b0 k.lsz hr;have a6:=k.run;simp only [iB,mK] at a6;have c2:gO (fun _=>true) pn h=gO (Sb listed) pn h:=by
    unfold gO;rw [JV h.mem pn (fun x hx=>?_)];obtain⟨_,⟨o,ho⟩,_⟩:=k.pn1 x hx;rw [a8 _ (KI ho)]
   simp only [c2] at a6;have hh:e=e'∧gO (Sb listed) pn h=h':=by
    injection a6 with h1 h2;exact⟨h1,h2⟩
   obtain⟨rfl,rfl⟩:=hh;refine hn m a w k.fr ⟨k.size,k.le,fun t ht=>?_,k.dfr⟩;rcases k.env t ht with⟨x,ox,_,hS,hx,_⟩|h1
   ·rw [a8 x (KI hx)] at hS;cases hS
   ·exact h1
  ·exact(a7 _ _ _ _ _ _ _ _ _ _ _ _ _ k hr).elim
  ·exact(a7 _ _ _ _ _ _ _ _ _ _ _ _ _ k hr).elim
 have b7:∀(listed:Array Bool) (m:Mp) (a:Act) (w:Wo),StA P n ops call e' h' m0 h0 w0 listed m a w∨StB P n ops call e' h' m0 h0 w0 listed m a w→listed.size=ops.size:=by
  rintro listed m a w (⟨tl,M,T,l,e,h,pn,pc,_,_,k,_⟩|⟨s1,s2,T,e,h,pn,pc,_,_,k,_⟩)<;>exact k.lsz
 intro a1
 induction a1 with
 | zero=>
  intro listed m a w k hc;have c0:=b7 _ _ _ _ k;have hr:Region.ready .any ops listed= []:=by
   cases hx:Region.ready .any ops listed with
   |nil=>rfl
   |cons i r=>
    exfalso;have hi:i∈Region.ready .any ops listed:=by rw [hx];simp
    obtain⟨h1,o,ho,_⟩:=sW.1 hi;have b5:i<listed.size:=by rw [c0];exact(cV.1 ho).1
    have hm:listed[i]=false:=by simpa [Array.getD,b5] using h1
    have:0<listed.toList.countP (fun b=>!b):=Rz.2 ⟨false,by rw [←hm];simp,rfl⟩;omega
  exact⟨hr,fin _ _ _ _ k hr⟩
 | succ a1 ih=>
  intro listed m a w k0 hc;have c0:=b7 _ _ _ _ k0;refine⟨fin _ _ _ _ k0,?_⟩;intro i hi;obtain⟨h1,o,b9,hready⟩:=sW.1 hi;have ho:ops.toList[i]?=some o:=by simpa using b9
  have b5:i<listed.size:=by rw [c0];exact(cV.1 b9).1
  have hm:listed[i]=false:=by simpa [Array.getD,b5] using h1
  have hS:Sb listed i=false:=by simp [Sb,b5,hm]
  have b4:∀x∈o.after.toList,kS x=true→Sb listed x.on=true:=fun x hx hb=>hready x (by simpa using hx) (by rw [YF];exact hb)
  have a9:(listed.setIfInBounds i true).toList.countP (fun b=>!b)≤a1:=by
   rw [HG];have c1:i<listed.toList.length:=by simpa using b5
   rw [List.countP_set c1];have:(listed.toList[i])=false:=by simpa using hm
   rw [this];simp only [Bd,wQ,if_true,fT,kK];have c5:0<listed.toList.countP (fun b=>!b):=Rz.2 ⟨false,by rw [←hm];simp,rfl⟩;omega
  have a3:∀(T:Nat) (e:Env) (h:H) (pn:List PN) (pc:List PC),Core P n ops m0 h0 w0 listed T e h pn pc m a w→Nat.testBit T i=true→
    (∀m' a' w',Core P n ops m0 h0 w0 (listed.setIfInBounds i true) T e h pn pc m' a' w'→StA P n ops call e' h' m0 h0 w0 (listed.setIfInBounds i true) m' a' w'∨StB P n ops call e' h' m0 h0 w0 (listed.setIfInBounds i true) m' a' w')→
    wpOp P ops Q i (wpAny P .any ops Q a1 (listed.setIfInBounds i true)) a w:=by
   intro T e h pn pc k hT b1;have b3:∀x,Nat.testBit (natAt (aO [] ops.toList) i) x=true→Sb listed x=true:=fun x hx=>MR b0 (S:=fun j=>Sb listed j=true) k.down ho b4 hx
   have hp:=k.pend i o ho hT hS;cases hk:jH P ops.toList (aO [] ops.toList) i o with
   |light=>exact Db a0 k ho hT hS b4 b3 hk (fun m' a' w' k'=>ih _ _ _ _ (b1 m' a' w' k') a9)
   |new=>exact Da a0 k ho hT hS b4 b3 hk (fun m' a' w' k'=>ih _ _ _ _ (b1 m' a' w' k') a9)
   |heavy=>rw [hk] at hp;exact hp.elim
  rcases b2 listed m a w k0 with⟨T,e,h,pn,pc,k⟩|⟨tl,M,T,s,l,os,e,h,pn,pc,t1,t2,hos,hk,k,hch,hM⟩|⟨s1,s2,T,e,h,pn,pc,i1,i2,k12,k21⟩
  ·cases hT:Nat.testBit T i with
   |true=>exact a3 T e h pn pc k.toCore hT (fun m' a' w' k'=>.inl ⟨[],T|||mJ [],T,[],e,h,pn,pc,rfl,rfl,⟨k',k.plan,k.run⟩,rfl,rfl⟩)
   |false=>
    rcases DN [] T k.plan i o ho hT with h1|h1<;>cases h1
  ·have b3:∀x,Nat.testBit (natAt (aO [] ops.toList) i) x=true→Sb listed x=true:=fun x hx=>MR b0 (S:=fun j=>Sb listed j=true) k.down ho b4 hx
   cases hT:Nat.testBit T i with
   |true=>exact a3 T e h pn pc k.toCore hT (fun m' a' w' k'=>.inl ⟨tl,M,T,s::l,e,h,pn,pc,t1,t2,⟨k',k.plan,k.run⟩,hch,hM⟩)
   | false=>
    obtain⟨b8,_,_,_⟩:=sD k.plan;obtain⟨hw,hch'⟩:=ME hch;obtain⟨w1,w2⟩:=hw os hos hk;have bad:Nat.testBit (natAt (aO [] ops.toList) i) s=true→False:=fun hb=>by
     have:=k.sT s (b3 s hb);rw [this] at b8;cases b8
    rcases DN (s::l) T k.plan i o ho hT with a5|a5
    ·rcases cN.1 a5 with e1|a5
     ·subst e1;rw [ho] at hos;cases hos;exact PA a4 a2 a0 k ho b4 b3 hk (fun e1 h1 pn1 b6 m' a' w' k'=>ih _ _ _ _ (.inl ⟨tl,M,_,l,e1,h1,pn1,b6,t1,t2,k',hch',by rw [←hM,mJ,Nat.or_assoc]⟩) a9)
     ·exact(bad (w1 i a5)).elim
    ·exact(bad (w2 i a5)).elim
  ·have b3:∀x,Nat.testBit (natAt (aO [] ops.toList) i) x=true→Sb listed x=true:=fun x hx=>MR b0 (S:=fun j=>Sb listed j=true) k12.down ho b4 hx
   have one:∀(x y:Nat),oD ops.toList x=true→oD ops.toList y=true→Inv P n ops mK [] call e' h' m0 h0 w0 listed T [x,y] e h pn pc m a w→i=x→
     wpOp P ops Q i (wpAny P .any ops Q a1 (listed.setIfInBounds i true)) a w:=by
    intro x y ix iy k e1;subst e1;obtain⟨ox,t,p,q,g1,g2,g3,_⟩:=KG ix;rw [ho] at g1;cases g1;refine PA a4 a2 a0 k ho b4 b3 (UE g2 g3) (fun e1 h1 pn1 b6 m' a' w' k'=>ih _ _ _ _ (.inl ⟨[],(T|||2^i)|||mJ [y],_,[y],e1,h1,pn1,b6,rfl,rfl,k',?_,rfl⟩) a9);obtain⟨oy,_,_,_,gy,_⟩:=KG iy;simp [pX,nX,gy]
   cases hT:Nat.testBit T i with
   |true=>exact a3 T e h pn pc k12.toCore hT (fun m' a' w' k'=>.inr ⟨s1,s2,T,e,h,pn,pc,i1,i2,⟨k',k12.plan,k12.run⟩,⟨k',k21.plan,k21.run⟩⟩)
   | false=>
    rcases DN [s1,s2] T k12.plan i o ho hT with a5|a5
    ·rcases cN.1 a5 with e1|a5
     ·exact one s1 s2 i1 i2 k12 e1
     ·rcases cN.1 a5 with e1|a5
      ·exact one s2 s1 i2 i1 k21 e1
      ·cases a5
    ·cases a5
def Gg (c3:P.follows .mixedOrders=true) (a4:jT P call) (a0:jE P n ops=true) {Q:Exit→Act→Wo→Prop} {id:Nat}
  (k:dE m n e a) (hg:Gl P m) (hr:HR m h w) (hv:(regE P ops.toList).run call e h= .ok e' h')
  (hn:∀m' a' w',Fr m h w m' h' w'→dE m' n e' a'→Q .normal a' w'):(Code.region id ops true).wp P Q a w:=by
 unfold regE at hv;simp only at hv;generalize c6:HU ops.toList (aO [] ops.toList) _=pt at hv;obtain⟨pl,tl⟩:=pt;simp only at hv;generalize hc:(wI ops.toList&&_)=c at hv;cases c with
 |false=>cases hv
 | true=>
  simp only [dG] at hv;simp only [aR] at hc;obtain⟨b0,a2,_,hplan,hch,htl,htp⟩:=hc;refine ZG c3 ?_;have c4:∀j,Sb (Array.replicate ops.size false) j=false:=by
   intro j;unfold Sb
   by_cases hj:j<ops.size
   ·simp [Array.getD,hj]
   ·simp [Array.getD,hj]
  refine Mz (m0:=m) (h0:=h) (w0:=w) a4 b0 a2 a0 hn ops.size _ m a _ (.inl ⟨tl,mJ pl,0,pl,e,h,[],[],htl,htp,⟨?_,hplan,hv⟩,hch,by simp⟩) ?_
  ·refine⟨by simp,?_,?_,?_,?_,k.size,k.le,k.dfr,fun t ht=>.inr (k.val t ht),?_,hg,.nil,?_,?_⟩
   ·intro i o _ hS;rw [c4] at hS;cases hS
   ·intro j hS;rw [c4] at hS;cases hS
   ·intro j hT;simp at hT
   ·intro j o _ hT;simp at hT
   ·exact Fr.drawn hr _
   ·intro x hx;cases hx
   ·intro x hx;cases hx
  ·refine aE List.countP_le_length ?_;simp
end
section
variable (P:Program)
def gP (lf:Nat):Code→COd
 | .skip=>⟨fun _ e h=>.nrm e h⟩
 | .label _=>⟨fun _ e h=>.nrm e h⟩
 | .ret=>⟨fun _ e h=>.ret e h⟩
 | .exit id=>⟨fun _ e h=>.ext id e h⟩
 | .seq a b=>⟨fun call e h=>CR.rec (motive:=fun _=>CR) .bad (fun e h=>(gP lf b).run call e h) (fun i e h=>.ext i e h) (fun e h=>.ret e h) ((gP lf a).run call e h)⟩
 | .cond c a b=>⟨fun call e h=>wH ((aD c).run e) (fun t=>fL t ((gP lf a).run call e h) ((gP lf b).run call e h)) .bad⟩
 | .block id b=>⟨fun call e h=>CR.rec (motive:=fun _=>CR) .bad (fun e h=>.nrm e h) (fun j e h=>fL (Nat.beq j id) (.nrm e h) (.ext j e h)) (fun e h=>.ret e h) ((gP lf b).run call e h)⟩
 | .loop b=>⟨fun call e h=>DY ((gP lf b).run call) lf e h⟩
 | .region _ ops false=>⟨fun call e h=>Rs.rec (motive:=fun _=>CR) .bad (fun e h=>.nrm e h) ((oR P ops.toList ops.toList).run call e h)⟩
 | .region _ ops true=>⟨fun call e h=>Rs.rec (motive:=fun _=>CR) .bad (fun e h=>.nrm e h) ((regE P ops.toList).run call e h)⟩
 |_=>⟨fun _ _ _=>.bad⟩
def EH (o:Oper):Option Nat:=
 match o.op,o.dst,o.guard with
 | .call ⟨.builtin .recover,⟨[]⟩,_⟩,some d,none=>some d
 |_,_,_=>none
def rD (lf:Nat):Code→COd
 | .seq a b=>⟨fun call e h=>CR.rec (motive:=fun _=>CR) .bad (fun e h=>(gP P lf b).run call e h) (fun i e h=>.ext i e h) (fun e h=>.ret e h) ((rD lf a).run call e h)⟩
 | .region id ⟨o::l⟩ false=>(match EH o with
  |some d=>⟨fun call e h=>Rs.rec (motive:=fun _=>CR) .bad (fun e h=>.nrm e h) ((oR P (o::l) l).run call (lS d .ni e) h)⟩
  |none=>gP P lf (.region id ⟨o::l⟩ false))
 |c=>gP P lf c
def EC (rs:List ResultVar) (e:Env) (h:H):VH:=
 match dD iY e with
 | .tup []=>vhO h ((tQ P rs).run e h)
 |_=>.bad
def defF (lf f:Nat):FOp:=
 match P.funcs[f]? with
 |none=>rI
 |some fn=>match fn.body with
  |none=>rI
  | some c=>⟨fun call args h=>fL (Nat.ble (fW args) fn.ntmps)
    (CR.rec (motive:=fun _=>VH) .bad (fun e h=>EC P fn.results.toList e h) (fun _ _ _=>.bad) (fun e h=>EC P fn.results.toList e h) ((rD P lf c).run call (sC 0 args Env.new) h)) .bad⟩
def iK (lf:Nat) (call:dQ):List V→H→Option H
 | [],h=>some h
 | .fn (.func n) first cap::l,h=>match (defF P lf n).run call (first++cap) h with| .ok _ h'=>iK lf call l h'| .bad=>none
 |_,_=>none
def EB (lf:Nat) (rs:List ResultVar) (call:dQ) (e:Env) (h:H):VH:=
 match dD iY e with
 | .tup []=>vhO h ((tQ P rs).run e h)
 | .tup l=>(match iK P lf call l h with|some h'=>vhO h' ((tQ P rs).run e h')|none=>.bad)
 |_=>.bad
def MP (lf:Nat) (fn:Func) (c:Code):FOp:=
 ⟨fun call args h=>fL (Nat.ble (fW args) fn.ntmps)
  (CR.rec (motive:=fun _=>VH) .bad (fun e h=>EB P lf fn.results.toList call e h) (fun _ _ _=>.bad) (fun e h=>EB P lf fn.results.toList call e h) ((gP P lf c).run call (sC 0 args Env.new) h)) .bad⟩
def KT (sp:Nat→Option FOp) (lf:Nat) (f:Nat):FOp:=
 match sp f with
 |some op=>op
 | none=>match P.funcs[f]? with
  |none=>rI
  |some fn=>match fn.body with
   |none=>rI
   |some c=>MP P lf fn c
def uR (sp:Nat→Option FOp) (lf:Nat) (n:Nat):dQ:=
 Nat.rec (motive:=fun _=>dQ) (fun _ _ _=>.bad) (fun _ ih f args h=>(KT P sp lf f).run ih args h) n
def lE (n:Nat):Code→Bool
 | .seq a b=>lE n a&&lE n b
 | .cond c a b=>dX P n c&&(lE n a&&lE n b)
 | .block _ b=>lE n b
 | .loop b=>lE n b
 | .region _ ops _=>jE P n ops
 |_=>true
def zK (n:Nat):ResultVar→Bool
 | .tmp t=>Nat.ble (Nat.succ t) n
 | .cell t _=>Nat.ble (Nat.succ t) n
def VB (fn:Func):Bool:=
 match fn.body with
 |none=>true
 |some c=>Nat.ble fn.ntmps 511&&(lE P fn.ntmps c&&(fn.results.toList.all (zK fn.ntmps)&& !(fn.name== "runtime.NumGoroutine")))
def xB:Bool:=P.funcs.toList.all (VB P)
end
section
variable {P:Program} {m:Mp} {w:Wo}
def CQ (m:Mp) (h:H) (w:Wo) (n:Nat) (Q:Exit→Act→Wo→Prop):CR→Prop
 | .bad=>False
 | .nrm e' h'=>∀m' a' w',Fr m h w m' h' w'→dE m' n e' a'→Q .normal a' w'
 | .ext i e' h'=>∀m' a' w',Fr m h w m' h' w'→dE m' n e' a'→Q (.exit i) a' w'
 | .ret e' h'=>∀m' a' w',Fr m h w m' h' w'→dE m' n e' a'→Q .ret a' w'
def CQ.of_fr {Q:Exit→Act→Wo→Prop} (hF:Fr m h w m' h' w'):∀{r:CR},CQ m h w n Q r→CQ m' h' w' n Q r
 | .bad,k=>k
 | .nrm _ _,k=>fun m2 a2 w2 h2=>k m2 a2 w2 (hF.trans h2)
 | .ext _ _ _,k=>fun m2 a2 w2 h2=>k m2 a2 w2 (hF.trans h2)
 | .ret _ _,k=>fun m2 a2 w2 h2=>k m2 a2 w2 (hF.trans h2)
def FI (a0:jT P call) (a4:P.follows .mixedOrders=true):∀(c:Code),lE P n c=true→
  ∀(m:Mp) (e:Env) (a:Act) (h:H) (w:Wo) (Q:Exit→Act→Wo→Prop),dE m n e a→Gl P m→HR m h w→CQ m h w n Q ((gP P lf c).run call e h)→c.wp P Q a w:=by
 intro c
 induction c with
 |skip=>intro hc m e a h w Q k hg hr hq;exact wp_skip (hq m a w (Fr.refl hr) k)
 |label l=>intro hc m e a h w Q k hg hr hq;exact wp_label (hq m a w (Fr.refl hr) k)
 |ret=>intro hc m e a h w Q k hg hr hq;exact wp_ret (hq m a w (Fr.refl hr) k)
 |exit id=>intro hc m e a h w Q k hg hr hq;exact wp_exit (hq m a w (Fr.refl hr) k)
 | seq x y ihx ihy=>
  intro hc m e a h w Q k hg hr hq;simp only [lE,aR] at hc;refine wp_seq (ihx hc.1 m e a h w _ k hg hr ?_);simp only [gP] at hq;cases hx:(gP P lf x).run call e h with
  |bad=>rw [hx] at hq;exact hq.elim
  |nrm e1 h1=>
   rw [hx] at hq;intro m' a' w' hF hE;exact ihy hc.2 m' e1 a' h1 w' Q hE (hg.mono hF.le) hF.hr (hq.of_fr hF)
  |ext i e1 h1=>rw [hx] at hq;exact hq
  |ret e1 h1=>rw [hx] at hq;exact hq
 | cond c x y ihx ihy=>
  intro hc m e a h w Q k hg hr hq;simp only [lE,aR] at hc;simp only [gP] at hq;have hC:=eI k hg hc.1;generalize a1:wH ((aD c).run e) (fun t=>fL t ((gP P lf x).run call e h) ((gP P lf y).run call e h)) .bad=r at hq;rcases MY a1 with⟨b,hb,hv⟩|⟨hb,hv⟩
  ·rw [hb] at hC;simp only [R] at hC;refine wp_cond hC ?_;rcases pV hv with⟨a3,hv2⟩|⟨a3,hv2⟩
   ·rw [a3];exact ihx hc.2.1 m e a h w Q k hg hr (by rw [hv2];exact hq)
   ·rw [a3];exact ihy hc.2.2 m e a h w Q k hg hr (by rw [hv2];exact hq)
  ·rw [←hv] at hq;exact hq.elim
 | block id x ih=>
  intro hc m e a h w Q k hg hr hq;simp only [lE] at hc;simp only [gP] at hq;refine wp_block (ih hc m e a h w _ k hg hr ?_);cases hx:(gP P lf x).run call e h with
  |bad=>rw [hx] at hq;exact hq.elim
  |nrm e1 h1=>rw [hx] at hq;exact hq
  |ret e1 h1=>rw [hx] at hq;exact hq
  | ext j e1 h1=>
   rw [hx] at hq;simp only at hq;intro m' a' w' hF hE;show(if j=id then Q .normal a' w' else Q (.exit j) a' w');generalize a1:fL (Nat.beq j id) (CR.nrm e1 h1) (CR.ext j e1 h1)=r at hq;rcases pV a1 with⟨hj,hv⟩|⟨hj,hv⟩
   ·rw [if_pos (bG hj)];rw [←hv] at hq;exact hq m' a' w' hF hE
   ·rw [if_neg (Qr hj)];rw [←hv] at hq;exact hq m' a' w' hF hE
 | loop x ih=>
  intro hc m e a h w Q k hg hr hq;simp only [lE] at hc;simp only [gP] at hq;refine wp_loop_rounds lf ?_;have key:∀(N:Nat) (m:Mp) (e:Env) (a:Act) (h:H) (w:Wo),dE m n e a→Gl P m→HR m h w→CQ m h w n Q (DY ((gP P lf x).run call) N e h)→Code.rounds P x Q N a w:=by
   intro N
   induction N with
   |zero=>intro m e a h w k hg hr hq;exact hq.elim
   | succ N ihN=>
    intro m e a h w k hg hr hq;rw [rounds_succ];refine ih hc m e a h w _ k hg hr ?_;have hl:DY ((gP P lf x).run call) (N+1) e h=CR.rec (motive:=fun _=>CR) .bad (fun e h=>DY ((gP P lf x).run call) N e h) (fun i e h=>.ext i e h) (fun e h=>.ret e h) ((gP P lf x).run call e h):=rfl;rw [hl] at hq;cases hx:(gP P lf x).run call e h with
    |bad=>rw [hx] at hq;exact hq.elim
    |nrm e1 h1=>
     rw [hx] at hq;intro m' a' w' hF hE;exact ihN m' e1 a' h1 w' hE (hg.mono hF.le) hF.hr (hq.of_fr hF)
    |ext i e1 h1=>rw [hx] at hq;exact hq
    |ret e1 h1=>rw [hx] at hq;exact hq
  exact key lf m e a h w k hg hr hq
 | region id ops d=>
  intro hc m e a h w Q k hg hr hq;simp only [lE] at hc;cases d with
  |false=>
   simp only [gP] at hq;cases hx:(oR P ops.toList ops.toList).run call e h with
   |bad=>rw [hx] at hq;exact hq.elim
   |ok e1 h1=>rw [hx] at hq;exact Gf a0 hc k hg hr hx hq
  |true=>
   simp only [gP] at hq;cases hx:(regE P ops.toList).run call e h with
   |bad=>rw [hx] at hq;exact hq.elim
   |ok e1 h1=>rw [hx] at hq;exact Gg a4 a0 hc k hg hr hx hq
 |_=>intro hc m e a h w Q k hg hr hq;simp only [gP] at hq;exact hq.elim
end
section
variable {P:Program} {m:Mp} {w:Wo}
def WD (t:Nat):dD t Env.new=dU:=by
 unfold dD Env.new N8.all;cases dg (t/64)<;>cases dg (t/8%8)<;>cases dg (t%8)<;>rfl
def LO:∀(l:List V) (i:Nat) (e:Env) (t:Nat),i+l.length≤511→t<512→dD t (sC i l e)=if i≤t∧t<i+l.length then(l[t-i]?).getD .top else dD t e
 | [],i,e,t,_,_=>by
  have:¬(i≤t∧t<i+0):=by omega
  simp [sC];omega
 | v::l,i,e,t,hl,ht=>by
  simp only [jD] at hl;rw [sC,LO l (i+1) _ t (by omega) ht]
  by_cases h1:i+1≤t∧t<i+1+l.length
  ·rw [if_pos h1,if_pos (by simp;omega)];have:t-i=(t-(i+1))+1:=by omega
   rw [this];simp
  ·rw [if_neg h1]
   by_cases h2:t=i
   ·subst h2;rw [xX,if_pos (by simp)];simp
   ·rw [uL ht (by omega) h2,if_neg (by simp;omega)]
def YZ {us:Lv} (hR:Rl m args us) (hl:args.length≤n) (hn:n≤511):
  dE m n (sC 0 args Env.new) { tmps:=(⟨us⟩:Array Value)++Array.replicate (n-us.length) undef,defers:=[] }:=by
 have a3:=hR.length;refine⟨by simp;omega,hn,?_,?_⟩
 ·intro t ht;rw [LO args 0 _ t (by omega) (by omega)]
  by_cases h1:t<args.length
  ·rw [if_pos (by omega)];obtain⟨v,hv⟩:∃v,args[t]?=some v:=⟨args[t],by simp [h1]⟩;obtain⟨u,hu,hRu⟩:=hR.get hv;have:((⟨us⟩:Array Value)++Array.replicate (n-us.length) undef).getD t undef=u:=by
    rw [rX,Array.getElem?_append_left (by show t<us.length;omega)];have h9:(⟨us⟩:Array Value)[t]?=some u:=by simpa using hu
    rw [h9];rfl
   simp only [GG,hv,BX];show R m v (((⟨us⟩:Array Value)++Array.replicate (n-us.length) undef).getD t undef);rw [this];exact hRu
  ·rw [if_neg (by omega),WD];have:((⟨us⟩:Array Value)++Array.replicate (n-us.length) undef).getD t undef=undef:=by
    rw [rX,Array.getElem?_append_right (by show us.length≤t;omega)];have:t-us.length<n-us.length:=by omega
    show((Array.replicate (n-us.length) undef)[t-us.length]?).getD undef=undef;simp [this]
   show R m dU (((⟨us⟩:Array Value)++Array.replicate (n-us.length) undef).getD t undef);rw [this];simp [R,Rl,dU,undef]
 ·refine⟨[],?_,rfl⟩;rw [LO args 0 _ iY (by omega) (by decide),if_neg (by simp [iY];omega),WD];rfl
def Ge (k:dE m n e a) {h:H} (hr:HR m h w) {r:ResultVar} (a0:zK n r=true) {v:V} (hv:(vH P r).run e h=some v):
  ∃u,((match r with| .tmp t=>pure (a.tmps.getD t undef)| .cell x t=>do loadVar t (←asAddr (a.tmps.getD x undef)):Sem Value)).run P w= .ok u w∧R m v u:=by
 cases r with
 |tmp t=>
  simp only [vH] at hv;cases hv;exact⟨a.tmps.getD t undef,by simp,k.val t (cY a0)⟩
 | cell x t=>
  have hx:=k.val x (cY a0);simp only [vH] at hv;have hd:∃d,P.underlying t=some d:=by
   cases hu:P.underlying t with
   |some d=>exact⟨d,rfl⟩
   |none=>simp [cF,gX,hu] at hv
  obtain⟨d,hd⟩:=hd;have key:∀nn,cF P t=some nn→kJ (dD x e) (fun b o=>fL (gX P t) (qB (rd h b o nn)) (rd1 h b o)) none=some v→
    ∃u,(do loadVar t (←asAddr (a.tmps.getD x undef)):Sem Value).run P w= .ok u w∧R m v u:=by
   intro nn hs hv;obtain⟨u',h1,h2⟩:=TL hr hd hs hx hv;refine⟨u',?_,h2⟩;obtain⟨b,o,e1,_⟩:=wG hv;rw [e1] at hx;obtain⟨l,hl,hu⟩:=R_p hx;rw [hu] at h1 ⊢;simpa [Instr.loadAt,Instr.sureAddr,asAddr] using h1
  cases ha:gX P t with
  | true=>
   cases hs:cF P t with
   |none=>rw [ha,hs] at hv;cases hv
   |some nn=>
    rw [ha,hs] at hv;exact key nn hs (by rw [ha];exact hv)
  | false=>
   cases hs:cF P t with
   |none=>rw [ha,hs] at hv;cases hv
   |some nn=>
    rw [ha,hs] at hv;exact key nn hs (by rw [ha];exact hv)
def QP {n:Nat} {e:Env} {a:Act} (k:dE m n e a) {h:H} (hr:HR m h w):∀(rs:List ResultVar),rs.all (zK n)=true→∀vs,(mX P rs).run e h=some vs→
  ∃us,(rs.mapM (fun r=>(match r with| .tmp t=>pure (a.tmps.getD t undef)| .cell x t=>do loadVar t (←asAddr (a.tmps.getD x undef)):Sem Value))).run P w= .ok us w∧Rl m vs us
 | [],_,vs,hv=>by
  simp only [mX] at hv;cases hv;exact⟨[],by simp,by simp [Rl]⟩
 | r::rs,a0,vs,hv=>by
  simp only [rU,aR] at a0;simp only [mX] at hv;cases h1:(vH P r).run e h with
  |none=>rw [h1] at hv;cases hv
  | some v=>
   cases h2:(mX P rs).run e h with
   |none=>rw [h1,h2] at hv;cases hv
   |some vs'=>
    rw [h1,h2] at hv;cases hv;obtain⟨u,a1,a2⟩:=Ge k hr a0.1 h1;obtain⟨us,b1,b2⟩:=QP k hr rs a0.2 vs' h2;refine⟨u::us,?_,by simp only [Rl];exact⟨u,us,rfl,a2,b2⟩⟩;rw [Ar,cX,a1,eD,cX,b1,eD,dV]
def QO (k:dE m n e a) {h:H} (hr:HR m h w) {fn:Func} (a0:fn.results.toList.all (zK n)=true) {v:V} (hv:(tQ P fn.results.toList).run e h=some v):
  ∃u,(results fn a.tmps).run P w= .ok u w∧R m v u:=by
 have hm:∃vs,(mX P fn.results.toList).run e h=some vs∧((vs= [v]∧fn.results.toList.length=1)∨(v= .tup vs∧fn.results.toList.length≠1)):=by
  generalize fn.results.toList=rs at hv
  match rs,hv with
  | [r],hv=>
   refine⟨[v],?_,.inl ⟨rfl,rfl⟩⟩;simp only [tQ] at hv;simp only [mX];rw [hv]
  | [],hv=>
   simp only [tQ,mX] at hv;cases hv;exact⟨[],rfl,.inr ⟨rfl,by simp⟩⟩
  | r1::r2::l,hv=>
   simp only [tQ] at hv;cases h1:(mX P (r1::r2::l)).run e h with
   |none=>rw [h1] at hv;cases hv
   |some vs=>
    rw [h1] at hv;cases hv;exact⟨vs,rfl,.inr ⟨rfl,by simp⟩⟩
 obtain⟨vs,h1,h2⟩:=hm;obtain⟨us,b1,b2⟩:=QP k hr _ a0 vs h1;have a3:us.length=fn.results.toList.length:=by
  have hv:∀(rs:List ResultVar) vs,(mX P rs).run e h=some vs→vs.length=rs.length:=by
   intro rs
   induction rs with
   |nil=>intro vs hv;simp only [mX] at hv;cases hv;rfl
   | cons r rs ih=>
    intro vs hv;simp only [mX] at hv;cases h1:(vH P r).run e h with
    |none=>rw [h1] at hv;cases hv
    |some v=>
     cases h2:(mX P rs).run e h with
     |none=>rw [h1,h2] at hv;cases hv
     |some vs'=>rw [h1,h2] at hv;cases hv;simp [ih vs' h2]
  rw [b2.length,hv _ _ h1]
 have a5:((fn.results.mapM (fun r=>(match r with| .tmp t=>pure (a.tmps.getD t undef)| .cell x t=>do loadVar t (←asAddr (a.tmps.getD x undef)):Sem Value)))).run P w= .ok ⟨us⟩ w:=by
  have he:fn.results=fn.results.toList.toArray:=by simp
  rw [he,List.mapM_toArray,map_eq_pure_bind,cX,b1,eD,dV]
 have a4:(results fn a.tmps).run P w= .ok (if h:(⟨us⟩:Array Value).size=1 then(⟨us⟩:Array Value)[0] else .tuple ⟨us⟩) w:=by
  unfold results;rw [cX];show(Result.andThen ((fn.results.mapM (fun r=>(match r with| .tmp t=>pure (a.tmps.getD t undef)| .cell x t=>do loadVar t (←asAddr (a.tmps.getD x undef)):Sem Value))).run P w) _)=_;rw [a5,eD,dV]
 refine⟨_,a4,?_⟩;rcases h2 with⟨rfl,h3⟩|⟨rfl,h3⟩
 ·simp only [Rl] at b2;obtain⟨u,us',rfl,hR,rfl⟩:=b2;exact hR
 ·have:¬(⟨us⟩:Array Value).size=1:=by show¬us.length=1;rw [a3];exact h3
  rw [dif_neg this];simp only [R];exact⟨us,rfl,b2⟩
end
section
variable {P:Program} {m:Mp} {w:Wo}
def Bm {ops:Array Oper} {Q:Exit→Act→List Frame→Wo→Prop} {cs:List Frame} (a8:∀a w,¬Q .outgrown a cs w)
  (h:wpOp P ops (fun e a w=>Q e a cs w) i (fun a' w'=>wpOpsS P ops Q rest a' cs w') a w):wpOpsS P ops Q (i::rest) a cs w:=by
 unfold wpOp at h;simp only [wpOpsS];cases ho:ops[i]? with
 |none=>rw [ho] at h;exact h
 | some o=>
  rw [ho] at h;simp only at h ⊢;split at h
  ·rename_i hw;rw [if_pos hw];rcases h with h|⟨_,a0,w0,hl⟩
   ·unfold Oper.wp at h;generalize (execOp a.eval o).run P w=r at h ⊢;cases r with
    |ok n w'=>cases n<;>first|exact h|(simp [Oper.upon] at h)
    |halt x w'=>exact h
   ·exact absurd hl (a8 a0 w0)
  ·rename_i hw;rw [if_neg hw];exact h
def QA {n:Nat} {call:dQ} (a3:jT P call) {ops:Array Oper} (b4:jE P n ops=true) {Q:Exit→Act→List Frame→Wo→Prop} {cs:List Frame} (a8:∀a w,¬Q .outgrown a cs w):
  ∀(l:List Oper) (i:Nat) (m:Mp) (e e':Env) (a:Act) (h h':H) (w:Wo),ops.toList.drop i=l→dE m n e a→Gl P m→HR m h w→(oR P ops.toList l).run call e h= .ok e' h'→
   (∀m' a' w',Fr m h w m' h' w'→dE m' n e' a'→Q .normal a' cs w')→wpOpsS P ops Q (List.range' i l.length) a cs w
 | [],i,m,e,e',a,h,h',w,hl,k,hg,hr,hv,hn=>by
  simp only [oR] at hv;cases hv;exact hn m a w (Fr.refl hr) k
 | o::l,i,m,e,e',a,h,h',w,hl,k,hg,hr,hv,hn=>by
  have hi:ops[i]?=some o:=by
   have:(ops.toList.drop i)[0]?=some o:=by rw [hl];rfl
   rw [mC] at this;simpa using this
  have c2:ops.toList.drop (i+1)=l:=by
   have:(ops.toList.drop i).drop 1=l:=by rw [hl];rfl
   rw [HA] at this;exact this
  simp only [jD,CH];refine Bm a8 ?_;simp only [oR] at hv;cases h1:(zQ P ops.toList o).run call e h with
  |bad=>rw [h1] at hv;cases hv
  |ok e1 a7=>
   rw [h1] at hv;refine SD a3 k hg hr b4 hi h1 ?_;intro m1 a1 w1 b6 b9;exact QA a3 b4 a8 l (i+1) m1 e1 e' a1 a7 h' w1 c2 b9 (hg.mono b6.le) b6.hr hv (fun m2 a2 w2 a9 c0=>hn m2 a2 w2 (b6.trans a9) c0)
def Kf {d:Nat} (h:EH o=some d):o.dst=some d∧o.guard=none∧∀a:Act,∀w,(execOp a.eval o).run P w= .ok .recover w:=by
 unfold EH at h;split at h
 ·rename_i ts d' h1 h2 h3;cases h;refine⟨h2,h3,fun a w=>?_⟩;simp [execOp,h1,resolve,invoke,builtin]
 ·cases h
def Nl (a3:jT P call) (a4:P.follows .mixedOrders=true) {c₀:Frame} {b1:List Frame} (a5:c₀.mode= .returning):∀(c:Code),lE P n c=true→
  ∀(m:Mp) (e:Env) (a:Act) (h:H) (w:Wo) (Q:Exit→Act→List Frame→Wo→Prop),(∀a w,¬Q .outgrown a (c₀::b1) w)→dE m n e a→Gl P m→HR m h w→
   CQ m h w n (fun e a w=>Q e a (c₀::b1) w) ((rD P lf c).run call e h)→c.wpS P Q a (c₀::b1) w:=by
 intro c
 induction c with
 | seq x y ihx ihy=>
  intro hc m e a h w Q a8 k hg hr hq;simp only [lE,aR] at hc;refine wpS_seq (ihx hc.1 m e a h w _ (fun a w=>a8 a w) k hg hr ?_);simp only [rD] at hq;cases hx:(rD P lf x).run call e h with
  |bad=>rw [hx] at hq;exact hq.elim
  |nrm e1 h1=>
   rw [hx] at hq;intro m' a' w' hF hE;exact wpS_of_wp (FI a3 a4 y hc.2 m' e1 a' h1 w' _ hE (hg.mono hF.le) hF.hr (hq.of_fr hF))
  |ext i e1 h1=>rw [hx] at hq;exact hq
  |ret e1 h1=>rw [hx] at hq;exact hq
 | region id ops d=>
  intro hc m e a h w Q a8 k hg hr hq;have other:CQ m h w n (fun e a w=>Q e a (c₀::b1) w) ((gP P lf (.region id ops d)).run call e h)→(Code.region id ops d).wpS P Q a (c₀::b1) w:=
   fun hq=>wpS_of_wp (FI a3 a4 _ hc m e a h w _ k hg hr hq)
  cases d with
  |true=>exact other (by simpa only [rD] using hq)
  | false=>
   obtain⟨l⟩:=ops;cases l with
   |nil=>exact other (by simpa only [rD] using hq)
   | cons o l=>
    simp only [rD] at hq;cases hrec:EH o with
    |none=>rw [hrec] at hq;exact other hq
    | some d=>
     rw [hrec] at hq;simp only at hq;obtain⟨r1,r2,r3⟩:=Kf (P:=P) hrec;simp only [lE] at hc;cases hx:(oR P (o::l) l).run call (lS d .ni e) h with
     |bad=>rw [hx] at hq;exact hq.elim
     | ok e1 h1=>
      rw [hx] at hq;refine wpS_region ?_;have c4:List.range (⟨o::l⟩:Array Oper).size=0::List.range' 1 l.length:=by
       show List.range (l.length+1)=_;rw [Rj,CH]
      rw [c4];have h0:(⟨o::l⟩:Array Oper)[0]?=some o:=by simp
      have hd:=jJ (mY hc h0).2 r1;simp only [wpOpsS,h0];rw [if_pos (by simp [Region.wanted,r2]),r3 a w];simp only [recoverD,a5,r1];refine QA a3 hc a8 l 1 m _ e1 _ h h1 w (by simp) (k.set hd (show R m .ni .nilIface by simp [R])) hg hr hx hq
 |_=>intro hc m e a h w Q a8 k hg hr hq;exact wpS_of_wp (FI a3 a4 _ hc m e a h w _ k hg hr (by simpa only [rD] using hq))
def IW (hp:xB P=true) {f:FuncId} {fn:Func} {c:Code} (hf:P.funcs[f]?=some fn) (hb:fn.body=some c):
  fn.ntmps≤511∧lE P fn.ntmps c=true∧fn.results.toList.all (zK fn.ntmps)=true∧(fn.name== "runtime.NumGoroutine")=false:=by
 have hm:fn∈P.funcs.toList:=by
  rw [←kE] at hf;exact bV hf
 have:=(kV.1 hp) fn hm;simp only [VB,hb,aR,yV] at this;exact⟨cY this.1,this.2.1,this.2.2.1,this.2.2.2⟩
def XJ (hp:xB P=true) {f:FuncId} {fn:Func} {c:Code} (hf:P.funcs[f]?=some fn) (hb:fn.body=some c) (args:Array Value) (w:Wo):(callFunc f args).run P w= .ok (.enter f args) w:=by
 obtain⟨_,_,_,h4⟩:=IW hp hf hb
 have h5:fn.name≠ "runtime.NumGoroutine" :=by simpa using h4
 simp [callFunc,hf,h5,hb]
def TP {lf:Nat} {call:dQ} (hp:xB P=true) (a3:jT P call) (a4:P.follows .mixedOrders=true) {fn:Func} {tmps:Array Value} {Rr:Ending→Wo→Prop} {h2:H}:
  ∀(l:List V) (ds:List Deferred) (m:Mp) (h:H) (w:Wo),DfrR m l ds→HR m h w→Gl P m→iK P lf call l h=some h2→
   (∀m' w',Fr m h w m' h2 w'→∃v,(results fn tmps).run P w'= .ok v w'∧Rr (.returned v) w')→(∀w,¬Rr .outgrown w)→Leaves P fn tmps Rr ds .returning w
 | [],ds,m,h,w,hd,hr,hg,hv,hfin,hRo=>by
  simp only [DfrR] at hd;subst hd;simp only [iK] at hv;cases hv;exact hfin m w (Fr.refl hr)
 | .fn (.func f) first cap::l,ds,m,h,w,hd,hr,hg,hv,hfin,hRo=>by
  simp only [DfrR] at hd;obtain⟨a',c',r,rfl,hA,hC,hD⟩:=hd;simp only [iK] at hv;cases hx:(defF P lf f).run call (first++cap) h with
  |bad=>rw [hx] at hv;cases hv
  | ok v h1=>
   rw [hx] at hv;simp only at hv;unfold defF at hx;cases hf:P.funcs[f]? with
   |none=>rw [hf] at hx;cases hx
   | some fd=>
    rw [hf] at hx;simp only at hx;cases hb:fd.body with
    |none=>rw [hb] at hx;cases hx
    | some c=>
     rw [hb] at hx;simp only at hx;obtain⟨b3,hx⟩:=UC hx;obtain⟨p1,p2,p3,p4⟩:=IW hp hf hb;have b0:(first++cap).length≤fd.ntmps:=by rw [nI] at b3;exact cY b3
     refine leaves_cons (by simp) (f:=f) (args:=⟨a'++c'⟩) (by simp only [invoke];rw [XJ hp hf hb];simp) ?_;refine callsD_of_wpS hf hb ?_;intro c₀ cs a5;have hE:=YZ (hA.append hC) b0 p1;have c1:({ c₀ with mode:=.returning }:Frame)=c₀:=by rw [←a5]
     refine Nl (lf:=lf) a3 a4 a5 c p2 m _ _ h w _ ?_ hE hg hr ?_
     ·rintro a w ⟨u',hu⟩;exact hRo w hu
     ·have key:∀e1 a7,EC P fd.results.toList e1 a7= .ok v h1→∀m' a' w',Fr m h w m' a7 w'→dE m' fd.ntmps e1 a'→
        a'.defers= []∧∃u',(c₀::cs)={ c₀ with mode:=u' }::cs∧∃v,(results fd a'.tmps).run P w'= .ok v w'∧Leaves P fn tmps Rr r (settle u') w':=by
       intro e1 a7 hl m' a' w' hF b2;unfold EC at hl;split at hl
       ·rename_i a6;obtain⟨L,hL,hDf⟩:=b2.dfr;rw [a6] at hL;cases hL;simp only [DfrR] at hDf;unfold vhO at hl;split at hl
        ·rename_i v' b7;cases hl;obtain⟨u,hu,_⟩:=QO b2 hF.hr p3 b7;refine⟨hDf,.returning,by rw [c1],u,hu,?_⟩;exact TP hp a3 a4 l r m' _ w' (hD.mono hF.le) hF.hr (hg.mono hF.le) hv (fun m2 w2 a9=>hfin m2 w2 (hF.trans a9)) hRo
        ·cases hl
       ·cases hl
      cases hc:(rD P lf c).run call (sC 0 (first++cap) Env.new) h with
      |bad=>rw [hc] at hx;cases hx
      |nrm e1 a7=>rw [hc] at hx;exact key e1 a7 hx
      |ext i e1 a7=>rw [hc] at hx;cases hx
      |ret e1 a7=>rw [hc] at hx;exact key e1 a7 hx
 | .fn (.method _) _ _::_,ds,m,h,w,hd,hr,hg,hv,hfin,hRo=>by simp [iK] at hv
 | .fn (.methodOf _ _) _ _::_,ds,m,h,w,hd,hr,hg,hv,hfin,hRo=>by simp [iK] at hv
 | .fn (.via _ _ _ _) _ _::_,ds,m,h,w,hd,hr,hg,hv,hfin,hRo=>by simp [iK] at hv
 | .fn (.yield _) _ _::_,ds,m,h,w,hd,hr,hg,hv,hfin,hRo=>by simp [iK] at hv
 | .top::_,ds,m,h,w,hd,hr,hg,hv,hfin,hRo=>by simp [iK] at hv
 | .b _::_,ds,m,h,w,hd,hr,hg,hv,hfin,hRo=>by simp [iK] at hv
 | .i _ _::_,ds,m,h,w,hd,hr,hg,hv,hfin,hRo=>by simp [iK] at hv
 | .s _ _::_,ds,m,h,w,hd,hr,hg,hv,hfin,hRo=>by simp [iK] at hv
 | .pn::_,ds,m,h,w,hd,hr,hg,hv,hfin,hRo=>by simp [iK] at hv
 | .p _ _::_,ds,m,h,w,hd,hr,hg,hv,hfin,hRo=>by simp [iK] at hv
 | .sn::_,ds,m,h,w,hd,hr,hg,hv,hfin,hRo=>by simp [iK] at hv
 | .sl _ _ _ _::_,ds,m,h,w,hd,hr,hg,hv,hfin,hRo=>by simp [iK] at hv
 | .se::_,ds,m,h,w,hd,hr,hg,hv,hfin,hRo=>by simp [iK] at hv
 | .mn::_,ds,m,h,w,hd,hr,hg,hv,hfin,hRo=>by simp [iK] at hv
 | .mp _::_,ds,m,h,w,hd,hr,hg,hv,hfin,hRo=>by simp [iK] at hv
 | .nf::_,ds,m,h,w,hd,hr,hg,hv,hfin,hRo=>by simp [iK] at hv
 | .ifc _ _::_,ds,m,h,w,hd,hr,hg,hv,hfin,hRo=>by simp [iK] at hv
 | .ni::_,ds,m,h,w,hd,hr,hg,hv,hfin,hRo=>by simp [iK] at hv
 | .agg _::_,ds,m,h,w,hd,hr,hg,hv,hfin,hRo=>by simp [iK] at hv
 | .tup _::_,ds,m,h,w,hd,hr,hg,hv,hfin,hRo=>by simp [iK] at hv
def SpecOK (P:Program) (sp:Nat→Option FOp):Prop:=
 ∀(f:FuncId) (op:FOp),sp f=some op→∀(call:dQ),jT P call→∀(vs:List V) (us:Lv) (m:Mp) (h:H) (w:Wo) (v:V) (h':H),HR m h w→Gl P m→Rl m vs us→op.run call vs h= .ok v h'→dO P ((callFunc f ⟨us⟩).run P w) m h w v h'
def Po (hp:xB P=true) (a3:jT P call) (a4:P.follows .mixedOrders=true) {f:FuncId} {fn:Func} {c:Code} (hf:P.funcs[f]?=some fn) (hb:fn.body=some c)
  {vs:List V} {us:Lv} {h h':H} {v:V} (hr:HR m h w) (hg:Gl P m) (hR:Rl m vs us) (hv:(MP P lf fn c).run call vs h= .ok v h'):
  Calls P f ⟨us⟩ w (fun e w'=>∃u m',e= .returned u∧Fr m h w m' h' w'∧R m' v u):=by
 obtain⟨p1,p2,p3,p4⟩:=IW hp hf hb;unfold MP at hv;obtain⟨b3,hv⟩:=UC hv;have b0:vs.length≤fn.ntmps:=by rw [nI] at b3;exact cY b3
 have hE:=YZ hR b0 p1;refine calls_of_wp_defers hf hb ?_;refine FI (lf:=lf) a3 a4 c p2 m _ _ h w _ hE hg hr ?_;have key:∀e1 h1,EB P lf fn.results.toList call e1 h1= .ok v h'→∀m' a' w',Fr m h w m' h1 w'→dE m' fn.ntmps e1 a'→
   Leaves P fn a'.tmps (fun e w'=>∃u m',e= .returned u∧Fr m h w m' h' w'∧R m' v u) a'.defers .returning w':=by
  intro e1 h1 hl m' a' w' hF b2;obtain⟨L,hL,hDf⟩:=b2.dfr;have fin:∀h2,vhO h2 ((tQ P fn.results.toList).run e1 h2)= .ok v h'→∀m2 w2,Fr m' h1 w' m2 h2 w2→∃u,(results fn a'.tmps).run P w2= .ok u w2∧∃u' m',Ending.returned u= .returned u'∧Fr m h w m' h' w2∧R m' v u':=by
   intro h2 b5 m2 w2 a9;unfold vhO at b5;split at b5
   ·rename_i v' b7;cases b5;obtain⟨u,hu,hRu⟩:=QO (b2.mono a9.le) a9.hr p3 b7;exact⟨u,hu,u,m2,rfl,hF.trans a9,hRu⟩
   ·cases b5
  unfold EB at hl;split at hl
  ·rename_i a6;rw [a6] at hL;cases hL;simp only [DfrR] at hDf;rw [hDf];exact fin h1 hl m' w' (Fr.refl hF.hr)
  ·rename_i l c5 a6;rw [a6] at hL;cases hL;split at hl
   ·rename_i h2 c3;exact TP hp a3 a4 _ a'.defers m' h1 w' hDf hF.hr (hg.mono hF.le) c3 (fin h2 hl) (by rintro w ⟨u,m',hu,_⟩;cases hu)
   ·cases hl
  ·cases hl
 cases hc:(gP P lf c).run call (sC 0 vs Env.new) h with
 |bad=>rw [hc] at hv;cases hv
 |nrm e1 h1=>rw [hc] at hv;exact key e1 h1 hv
 |ext i e1 h1=>rw [hc] at hv;cases hv
 |ret e1 h1=>rw [hc] at hv;exact key e1 h1 hv
def FN {sp:Nat→Option FOp} {lf:Nat} (hp:xB P=true) (a4:P.follows .mixedOrders=true) (b8:SpecOK P sp):∀n,jT P (uR P sp lf n)
 |0=>by intro f vs us m h w v h' hr hg hR hv;cases hv
 | n +1=>by
  intro f vs us m h w v h' hr hg hR hv;have a3:=FN (lf:=lf) hp a4 b8 n;have hv:(KT P sp lf f).run (uR P sp lf n) vs h= .ok v h':=hv;unfold KT at hv;cases hs:sp f with
  |some op=>rw [hs] at hv;exact b8 f op hs _ a3 vs us m h w v h' hr hg hR hv
  | none=>
   rw [hs] at hv;simp only at hv;cases hf:P.funcs[f]? with
   |none=>rw [hf] at hv;cases hv
   | some fn=>
    rw [hf] at hv;simp only at hv;cases hb:fn.body with
    |none=>rw [hb] at hv;cases hv
    |some c=>
     rw [hb] at hv;simp only at hv;exact .inr ⟨f,⟨us⟩,XJ hp hf hb _ _,Po hp a3 a4 hf hb hr hg hR hv⟩
end
section
structure NS where
 run:dQ→Env→H→List Rs
structure NCd where
 run:dQ→Env→H→List CR
variable (P:Program)
end
section
variable {P:Program} {m:Mp} {w:Wo}
end
section
def nH (b:Id):List (Id × Id)→Option Id
 | []=>none
 |(a,c)::l=>bif Id.beq a b then some c else nH b l
def rho (lim:Nat) (pr:List (Id × Id)) (b:Id):Option Id:=bif Nat.ble (Nat.succ b.toNat) lim then some b else nH b pr
mutual
def dI (ρ:Id→Option Id):V→Option V
 | .sl b o l z=>(match ρ b with|some c=>some (.sl c o l z)|none=>none)
 | .agg l=>(match eR ρ l with|some l'=>some (.agg l')|none=>none)
 | .tup l=>(match eR ρ l with|some l'=>some (.tup l')|none=>none)
 | .b x=>some (.b x)
 | .i k n=>some (.i k n)
 | .s l c=>some (.s l c)
 | .pn=>some .pn
 | .sn=>some .sn
 | .se=>some .se
 | .mn=>some .mn
 | .nf=>some .nf
 | .ni=>some .ni
 | .top=>none
 | .p _ _=>none
 | .mp _=>none
 | .fn _ _ _=>none
 | .ifc _ _=>none
def eR (ρ:Id→Option Id):List V→Option (List V)
 | []=>some []
 |v::l=>(match dI ρ v,eR ρ l with|some v',some l'=>some (v'::l')|_,_=>none)
end
def iL (ρ:Id→Option Id):List (List V)→Option (List (List V))
 | []=>some []
 |v::l=>(match eR ρ v,iL ρ l with|some v',some l'=>some (v'::l')|_,_=>none)
def lO:Nat→Id→Option (List Id × Id)
 |0,i=>some ([],i)
 |n+1,i=>(match i.succ with
  |some j=>(match lO n j with|some (l,k)=>some (i::l,k)|none=>none)
  |none=>none)
def rE (hp:H) (lim:Nat):Nat→List V→List Id→List Id
 |0,_,acc=>acc
 |_+1,[],acc=>acc
 | n+1,v::l,acc=>match v with
  | .agg l0=>rE hp lim n (l0++l) acc
  | .tup l0=>rE hp lim n (l0++l) acc
  | .sl b _ _ _=>bif Nat.ble (Nat.succ b.toNat) lim||uB b acc then rE hp lim n l acc else(match aB b hp.mem with
   |some (.cells _ els _ _)=>rE hp lim n (els.flatten++l) (acc++ [b])
   |_=>rE hp lim n l acc)
  |_=>rE hp lim n l acc
def nF:List Id→Bool
 | []=>true
 |a::l=>!uB a l&&nF l
abbrev Ob:=Nat × Nat × List (List V)
def pS (hp:H) (ρ:Id→Option Id):List Id→Option (List Id × List Ob)
 | []=>some ([],[])
 | b::l=>(match aB b hp.mem with
  |some (.cells sz els f (.rw ty))=>(match iL ρ els,pS hp ρ l with
   |some els',some (fs,obs)=>some (f::fs,(sz,ty,els')::obs)
   |_,_=>none)
  |_=>none)
def yF (lim a0:Nat) (nw:List Id) (hp:H) (v:V):Option (V × List Ob):=
 match rE hp lim a0 [v] [] with
 | olds=>bif Nat.beq (lenL' olds) (lenL' nw)&&nF olds then
   (match dI (rho lim (olds.zip nw)) v,pS hp (rho lim (olds.zip nw)) olds with
    |some v',some (fs,obs)=>bif nF fs then some (v',obs) else none
    |_,_=>none)
   else none
where lenL' (l:List Id):Nat:=l.length
def yH:List Ob→List Ob→Bool
 | [],[]=>true
 |(n,t,a)::l,(n',t',b)::r=>Nat.beq n n'&&(Nat.beq t t'&&(rH a b&&yH l r))
 |_,_=>false
def LI (x y:V × List Ob):Bool:=V.beq x.1 y.1&&yH x.2 y.2
def nB:List Id→List Ob→Mem→Mem
 |b::nw,(sz,ty,els)::obs,M=>fU b (some (.cells sz els b (.rw ty))) (nB nw obs M)
 |_,_,M=>M
variable (P:Program)
end
section
variable {P:Program} {m:Mp} {w:Wo}
def SubOf (h:H) (M:Mem) (ms:List Id):Prop:=∀b ob,aB b M=some ob→
 (∃sz els f ro,ob= .cells sz els f .fz∧aB b h.mem=some (.cells sz els f ro))∨(∃es c,ob= .map es c∧aB b h.mem=some (.map es c)∧b∈ms)
def QC {α:Type} (d:D8) (x:α):jW d (N8.all x)=x:=by cases d<;>rfl
def SR (b:Id):aB b Mem.new=none:=by
 obtain⟨a,b,c,d,e⟩:=b;simp [aB,Mem.new,QC]
def SubOf.put {M:Mem} (k:SubOf h M ms) {b:Id} {sz:Nat} {els:List (List V)} {f:Id} {ro:Rw} (hb:aB b h.mem=some (.cells sz els f ro)):SubOf h (fU b (some (.cells sz els f .fz)) M) ms:=by
 intro b1 ob h1
 by_cases e:b1=b
 ·subst e;rw [iA] at h1;cases h1;exact .inl ⟨_,_,_,_,rfl,hb⟩
 ·rw [gN e] at h1;exact k b1 ob h1
mutual
theorem IM {ρ:Id→Option Id} {mp mc:Mp} (hρ:∀b c l,ρ b=some c→mp b=some l→mc c=some l):∀{v v':V} {u:Value},dI ρ v=some v'→R mp v u→R mc v' u
 | .top,_,_,h,_=>by simp [dI] at h
 | .b x,_,_,h,k=>by simp only [dI,dW] at h;subst h;simpa [R] using k
 | .i _ _,_,_,h,k=>by simp only [dI,dW] at h;subst h;simpa [R] using k
 | .s _ _,_,_,h,k=>by simp only [dI,dW] at h;subst h;simpa [R] using k
 | .pn,_,_,h,k=>by simp only [dI,dW] at h;subst h;simpa [R] using k
 | .p _ _,_,_,h,_=>by simp [dI] at h
 | .sn,_,_,h,k=>by simp only [dI,dW] at h;subst h;simpa [R] using k
 | .sl b o len sz,_,_,h,k=>by
  simp only [dI] at h;cases hb:ρ b with
  |none=>rw [hb] at h;cases h
  |some c=>
   rw [hb] at h;cases h;simp only [R] at k ⊢;obtain⟨l,cap,hl,hu⟩:=k;exact⟨l,cap,hρ _ _ _ hb hl,hu⟩
 | .se,_,_,h,k=>by simp only [dI,dW] at h;subst h;simpa [R] using k
 | .mn,_,_,h,k=>by simp only [dI,dW] at h;subst h;simpa [R] using k
 | .mp _,_,_,h,_=>by simp [dI] at h
 | .fn _ _ _,_,_,h,_=>by simp [dI] at h
 | .nf,_,_,h,k=>by simp only [dI,dW] at h;subst h;simpa [R] using k
 | .ifc _ _,_,_,h,_=>by simp [dI] at h
 | .ni,_,_,h,k=>by simp only [dI,dW] at h;subst h;simpa [R] using k
 | .agg l,_,_,h,k=>by
  simp only [dI] at h;cases hl:eR ρ l with
  |none=>rw [hl] at h;cases h
  |some l'=>
   rw [hl] at h;cases h;simp only [R] at k ⊢;obtain⟨us,hu,hR,hs⟩:=k;exact⟨us,hu,DH hρ hl hR,hs⟩
 | .tup l,_,_,h,k=>by
  simp only [dI] at h;cases hl:eR ρ l with
  |none=>rw [hl] at h;cases h
  |some l'=>
   rw [hl] at h;cases h;simp only [R] at k ⊢;obtain⟨us,hu,hR⟩:=k;exact⟨us,hu,DH hρ hl hR⟩
theorem DH {ρ:Id→Option Id} {mp mc:Mp} (hρ:∀b c l,ρ b=some c→mp b=some l→mc c=some l):∀{l l':List V} {us:Lv},eR ρ l=some l'→Rl mp l us→Rl mc l' us
 | [],_,_,h,k=>by simp only [eR,dW] at h;subst h;simpa [Rl] using k
 | v::l,_,_,h,k=>by
  simp only [eR] at h;cases hv:dI ρ v with
  |none=>rw [hv] at h;cases h
  | some v'=>
   cases hl:eR ρ l with
   |none=>rw [hv,hl] at h;cases h
   |some l'=>
    rw [hv,hl] at h;cases h;simp only [Rl] at k ⊢;obtain⟨u,us,rfl,h1,h2⟩:=k;exact⟨u,us,rfl,IM hρ hv h1,DH hρ hl h2⟩
end
def IP {ρ:Id→Option Id}:∀{l l':List V},eR ρ l=some l'→l'.length=l.length
 | [],_,h=>by simp only [eR,dW] at h;subst h;rfl
 | v::l,_,h=>by
  simp only [eR] at h;cases hv:dI ρ v with
  |none=>rw [hv] at h;cases h
  |some v'=>
   cases hl:eR ρ l with
   |none=>rw [hv,hl] at h;cases h
   |some l'=>rw [hv,hl] at h;cases h;simp [IP hl]
def QT {ρ:Id→Option Id}:∀{a a' b b':List V},eR ρ a=some a'→eR ρ b=some b'→eR ρ (a++b)=some (a'++b')
 | [],_,_,_,h,k=>by simp only [eR,dW] at h;subst h;simpa using k
 | v::l,_,_,_,h,k=>by
  simp only [eR] at h;cases hv:dI ρ v with
  |none=>rw [hv] at h;cases h
  |some v'=>
   cases hl:eR ρ l with
   |none=>rw [hv,hl] at h;cases h
   |some l'=>rw [hv,hl] at h;cases h;simp only [mF,eR,hv,QT hl k]
def QU {ρ:Id→Option Id}:∀{l l':List (List V)},iL ρ l=some l'→eR ρ l.flatten=some l'.flatten
 | [],_,h=>by simp only [iL,dW] at h;subst h;rfl
 | v::l,_,h=>by
  simp only [iL] at h;cases hv:eR ρ v with
  |none=>rw [hv] at h;cases h
  |some v'=>
   cases hl:iL ρ l with
   |none=>rw [hv,hl] at h;cases h
   |some l'=>rw [hv,hl] at h;cases h;simp only [mD];exact QT hv (QU hl)
def QV {ρ:Id→Option Id} {n:Nat}:∀{l l':List (List V)},iL ρ l=some l'→(∀el∈l,el.length=n)→∀el∈l',el.length=n
 | [],_,h,_=>by simp only [iL,dW] at h;subst h;intro el b0;cases b0
 | v::l,_,h,k=>by
  simp only [iL] at h;cases hv:eR ρ v with
  |none=>rw [hv] at h;cases h
  | some v'=>
   cases hl:iL ρ l with
   |none=>rw [hv,hl] at h;cases h
   |some l'=>
    rw [hv,hl] at h;cases h;intro el b0;rcases cN.1 b0 with rfl|b0
    ·rw [IP hv];exact k v oI
    ·exact QV hl (fun el h1=>k el (mR _ h1)) el b0
def QS {ρ:Id→Option Id}:∀{l l':List V},eR ρ l=some l'→∀{i:Nat} {v':V},l'[i]?=some v'→∃v,l[i]?=some v∧dI ρ v=some v'
 | [],_,h,i,v',k=>by simp only [eR,dW] at h;subst h;simp at k
 | v::l,_,h,i,v',k=>by
  simp only [eR] at h;cases hv:dI ρ v with
  |none=>rw [hv] at h;cases h
  | some v1=>
   cases hl:eR ρ l with
   |none=>rw [hv,hl] at h;cases h
   |some l1=>
    rw [hv,hl] at h;cases h;cases i with
    |zero=>simp at k;subst k;exact⟨v,rfl,hv⟩
    |succ i=>simp at k;obtain⟨x,h1,h2⟩:=QS hl k;exact⟨x,by simpa using h1,h2⟩
def CellsAt.ren {ρ:Id→Option Id} {mc:Mp} (hρ:∀b c l,ρ b=some c→mp b=some l→mc c=some l) {l:Loc} {sz:Nat} {els els':List (List V)} {ro:Rw} {C:Array Value} {t:TypeId} {fz:Nat × Nat}
  (hr:iL ρ els=some els') (hc:CellsAt mp w l sz els ro C t fz):CellsAt mc w l sz els' ro C t fz:=by
 have hf:=QU hr;refine⟨hc.at_,hc.room,by rw [IP hf];exact hc.len,QV hr hc.each,?_,hc.free,hc.plain,hc.typ,hc.al⟩;intro i v' b3;obtain⟨v,h1,h2⟩:=QS hf b3;obtain⟨u,h3,h4,h5⟩:=hc.val i v h1;exact⟨u,h3,IM hρ h2 h4,h5⟩
def xL:∀{n:Nat} {i:Id} {l:List Id} {k:Id},lO n i=some (l,k)→l.length=n∧k.toNat=i.toNat+n∧∀(j:Nat) b,l[j]?=some b→b.toNat=i.toNat+j
 |0,i,l,k,h=>by simp only [lO,dW,BW] at h;obtain⟨rfl,rfl⟩:=h;exact⟨rfl,rfl,fun j b hb=>by simp at hb⟩
 | n+1,i,l,k,h=>by
  simp only [lO] at h;cases hs:i.succ with
  |none=>rw [hs] at h;cases h
  | some j=>
   rw [hs] at h;simp only at h;cases hn:lO n j with
   |none=>rw [hn] at h;cases h
   |some x=>
    obtain⟨l1,k1⟩:=x;rw [hn] at h;cases h;obtain⟨h1,h2,h3⟩:=xL hn;have:=Id.succ_toNat hs;refine⟨by simp [h1],by omega,?_⟩;intro q b hb;cases q with
    |zero=>simp at hb;subst hb;rfl
    |succ q=>simp at hb;have:=h3 q b hb;omega
def DR {i:Id} {l:List Id} (h:lO n i=some (l,k)) {j j':Nat} {b:Id} (h1:l[j]?=some b) (h2:l[j']?=some b):j=j':=by
 obtain⟨_,_,h3⟩:=xL h;have:=h3 _ _ h1;have:=h3 _ _ h2;omega
def TK {b c:Id}:∀{l:List (Id × Id)},nH b l=some c→(b,c)∈l
 | [],h=>by simp [nH] at h
 |(a,d)::l,h=>by
  simp only [nH] at h;cases hb:Id.beq a b with
  |true=>rw [hb] at h;simp only [dG,dW] at h;subst h;rw [Id.beq_iff.1 hb];exact oI
  |false=>rw [hb] at h;exact mR _ (TK h)
def uC {c:Id} (h:nH b (x.zip y)=some c):∃j:Nat,x[j]?=some b∧y[j]?=some c:=by
 obtain⟨j,hj⟩:=mQ.1 (TK h);refine⟨j,?_⟩;rw [List.getElem?_zip_eq_some] at hj;exact hj
def KA:∀{j:Nat} {b c:Id},(∀(j j':Nat) (b:Id),x[j]?=some b→x[j']?=some b→j=j')→x[j]?=some b→y[j]?=some c→nH b (x.zip y)=some c:=by
 induction x generalizing y with
 |nil=>intro j b c _ h _;simp at h
 | cons a x ih=>
  intro j b c hn h k;cases y with
  |nil=>simp at k
  | cons d y=>
   simp only [Rc,nH];cases j with
   |zero=>simp at h k;subst h;subst k;rw [Id.beq_iff.2 rfl];rfl
   | succ j=>
    simp at h k;have b2:Id.beq a b=false:=by
     cases e:Id.beq a b with
     |false=>rfl
     |true=>
      have:=Id.beq_iff.1 e;subst this;have:=hn 0 (j+1) a (by simp) (by simpa using h);omega
    rw [b2];exact ih (fun j j' b h1 h2=>by have:=hn (j+1) (j'+1) b (by simpa using h1) (by simpa using h2);omega) h k
def TJ (h:b∉x):nH b (x.zip y)=none:=by
 cases e:nH b (x.zip y) with
 |none=>rfl
 |some c=>obtain⟨j,h1,_⟩:=uC e;exact absurd (bV h1) h
def zS:∀{l:List Id},nF l=true→∀(j j':Nat) (b:Id),l[j]?=some b→l[j']?=some b→j=j'
 | [],_,j,j',b,h,_=>by simp at h
 | a::l,hn,j,j',b,h,k=>by
  simp only [nF,aR,yV] at hn;have hm:∀q,l[q]?=some a→False:=fun q hq=>by rw [(DV a l).2 (bV hq)] at hn;cases hn.1
  cases j with
  |zero=>
   cases j' with
   |zero=>rfl
   |succ j'=>simp at h k;subst h;exact(hm _ k).elim
  |succ j=>
   cases j' with
   |zero=>simp at h k;subst k;exact(hm _ h).elim
   |succ j'=>simp at h k;rw [zS hn.2 j j' b h k]
def RH:∀{nw:List Id} {a0:List Ob} {M:Mem} {b:Id} {ob:O},aB b (nB nw a0 M)=some ob→
  (aB b M=some ob)∨∃(j sz ty:Nat) (els:List (List V)),nw[j]?=some b∧a0[j]?=some (sz,ty,els)∧ob= .cells sz els b (.rw ty)
 | [],a0,M,b,ob,h=>by simp only [nB] at h;exact .inl h
 |a::nw,[],M,b,ob,h=>by simp only [nB] at h;exact .inl h
 | a::nw,(sz,ty,els)::a0,M,b,ob,h=>by
  simp only [nB] at h
  by_cases e:b=a
  ·subst e;rw [iA] at h;cases h;exact .inr ⟨0,sz,ty,els,rfl,rfl,rfl⟩
  ·rw [gN e] at h;rcases RH h with h1|⟨j,sz,ty,els,h1,h2,h3⟩
   ·exact .inl h1
   ·exact .inr ⟨j+1,sz,ty,els,by simpa using h1,by simpa using h2,h3⟩
def IV:∀{nw:List Id} {a0:List Ob} {M:Mem} {b:Id},b∉nw→aB b (nB nw a0 M)=aB b M
 | [],a0,M,b,h=>by simp [nB]
 |a::nw,[],M,b,h=>by simp [nB]
 |a::nw,(sz,ty,els)::a0,M,b,h=>by
  simp only [nB];rw [gN (fun e=>h (by rw [e];exact oI)),IV (fun e=>h (mR _ e))]
def IN {hp:H} {ρ:Id→Option Id}:∀{l fs:List Id} {a0:List Ob},pS hp ρ l=some (fs,a0)→fs.length=l.length∧a0.length=l.length∧
  ∀(j:Nat) b,l[j]?=some b→∃sz els f ty els',aB b hp.mem=some (.cells sz els f (.rw ty))∧iL ρ els=some els'∧fs[j]?=some f∧a0[j]?=some (sz,ty,els')
 | [],_,_,h=>by simp only [pS,dW,BW] at h;obtain⟨rfl,rfl⟩:=h;exact⟨rfl,rfl,fun j b hb=>by simp at hb⟩
 | a::l,_,_,h=>by
  simp only [pS] at h;split at h
  ·rename_i sz els f ty hb;split at h
   ·rename_i els' fs a0 h1 h2;cases h;obtain⟨k1,k2,k3⟩:=IN h2;refine⟨by simp [k1],by simp [k2],?_⟩;intro j b hj;cases j with
    |zero=>simp at hj;subst hj;exact⟨sz,els,f,ty,els',hb,h1,rfl,rfl⟩
    |succ j=>simp at hj;obtain⟨a1,a2,a3,a4,a5,a6,a7,a8,a9⟩:=k3 j b hj;exact⟨a1,a2,a3,a4,a5,a6,a7,by simpa using a8,by simpa using a9⟩
   ·cases h
  ·cases h
end
section
variable {P:Program}
def lP (nw olds:List Id) (mp m:Mp):Mp:=fun i=>match nH i (nw.zip olds) with|some b=>mp b|none=>m i
def Oz {c0:H} (k:HR m h w) (c1:HR mp c0 w') (b2:w.heap.size≤w'.heap.size)
  (a8:∀B,B<w.heap.size→¬Wb m h B→w'.heap[B]?=w.heap[B]?) (d7:w'.os=w.os) (d9:w'.tape=w.tape) (d8:w'.output=w.output)
  {n:Nat} {nw:List Id} {nx:Id} {olds fs:List Id} {b3:List Ob} {ρ:Id→Option Id} (c3:lO n h.next=some (nw,nx)) (a9:olds.length=nw.length)
  (d6:∀(j j':Nat) (b:Id),olds[j]?=some b→olds[j']?=some b→j=j') (b8:pS c0 ρ olds=some (fs,b3)) (d4:nF fs=true)
  (hρ:∀b c l,ρ b=some c→mp b=some l→lP nw olds mp m c=some l)
  (a7:∀(j:Nat) b l,olds[j]?=some b→mp b=some l→w.heap.size≤l.blk)
  (b9:∀b ob l,aB b h.mem=some ob→m b=some l→ObjAt (lP nw olds mp m) w' l ob):
  Fr m h w (lP nw olds mp m) ⟨nB nw b3 h.mem,h.fams,nx⟩ w':=by
 obtain⟨i1,i2,i3⟩:=xL c3;have inj:=fun {j j':Nat} {b:Id}=>DR (j:=j) (j':=j') (b:=b) c3
 obtain⟨r1,r2,r3⟩:=IN b8;have a6:∀b,b∈nw→h.next.toNat≤b.toNat:=by
  intro b hb;obtain⟨j,hj⟩:=mQ.1 hb;have:=i3 j b hj;omega
 have c7:∀b,b∈nw→b.toNat<nx.toNat:=by
  intro b hb;obtain⟨j,hj⟩:=mQ.1 hb;have:=i3 j b hj;have:=(aZ.1 hj).1;omega
 have F0:∀i,i∉nw→lP nw olds mp m i=m i:=by
  intro i hi;unfold lP;rw [TJ hi]
 have F1:∀i,i.toNat<h.next.toNat→lP nw olds mp m i=m i:=fun i hi=>F0 i (fun hm=>by have:=a6 i hm;omega)
 have F2:∀(j:Nat) c b,nw[j]?=some c→olds[j]?=some b→lP nw olds mp m c=mp b:=by
  intro j c b h1 h2;unfold lP;rw [KA (fun j j' b a1 a2=>inj a1 a2) h1 h2]
 have F3:∀i l,lP nw olds mp m i=some l→(i∉nw∧m i=some l)∨∃(j:Nat) (b:Id),nw[j]?=some i∧olds[j]?=some b∧mp b=some l:=by
  intro i l hi
  by_cases hm:i∈nw
  ·obtain⟨j,hj⟩:=mQ.1 hm;have b6:j<olds.length:=by rw [a9];exact(aZ.1 hj).1
   have hb:=cE b6;exact .inr ⟨j,_,hj,hb,by rw [←F2 j i _ hj hb];exact hi⟩
  ·rw [F0 i hm] at hi;exact .inl ⟨hm,hi⟩
 have d5:m.le (lP nw olds mp m):=fun b l hb=>by rw [F1 b (k.dom b l hb)];exact hb
 have G:∀b ob,aB b (nB nw b3 h.mem)=some ob→(aB b h.mem=some ob∧b∉nw∧b.toNat<h.next.toNat)∨
   ∃(j sz ty:Nat) (els a0:List (List V)) (b0 f0:Id),nw[j]?=some b∧olds[j]?=some b0∧ob= .cells sz els b (.rw ty)∧aB b0 c0.mem=some (.cells sz a0 f0 (.rw ty))∧iL ρ a0=some els∧fs[j]?=some f0:=by
  intro b ob hb;rcases RH hb with h1|⟨j,sz,ty,els,h1,h2,h3⟩
  ·obtain⟨l,hl,_⟩:=k.obj b ob h1;have:=k.dom b l hl;exact .inl ⟨h1,fun hm=>by have:=a6 b hm;omega,this⟩
  ·have b6:j<olds.length:=by rw [a9];exact(aZ.1 h1).1
   have c2:=cE b6;obtain⟨sz1,els1,f1,ty1,els1',a1,a2,a3,a4⟩:=r3 j _ c2;rw [h2] at a4;cases a4;exact .inr ⟨j,sz,ty,els,els1,_,f1,h1,c2,h3,a1,a2,a3⟩
 have d1:∀b ob l,aB b h.mem=some ob→b∉nw→lP nw olds mp m b=some l→m b=some l:=fun b ob l _ hn hl=>by rw [F0 b hn] at hl;exact hl
 refine⟨d5,⟨?_,?_,?_,?_,?_,?_,?_,?_⟩,b2,a8,d7,d9,d8,?_,?_,?_,?_⟩
 ·intro b ob hb;rcases G b ob hb with⟨h1,h2,h3⟩|⟨j,sz,ty,els,a0,b0,f0,h1,h2,h3,h4,h5,h6⟩
  ·obtain⟨l,hl,_⟩:=k.obj b ob h1;exact⟨l,by rw [F0 b h2];exact hl,b9 b ob l h1 hl⟩
  ·obtain⟨l,hl,C,t,fz,hc⟩:=c1.obj b0 _ h4;subst h3;exact⟨l,by rw [F2 j b b0 h1 h2];exact hl,C,t,fz,hc.ren hρ h5⟩
 ·intro b l hb;show b.toNat<nx.toNat;rcases F3 b l hb with⟨_,h2⟩|⟨j,b0,h1,_,_⟩
  ·have:=k.dom b l h2;omega
  ·exact c7 b (bV h1)
 ·intro b b' ob d0 l l' hb b5 hl a5 b1 b4;rcases G b ob hb with⟨h1,h2,h3⟩|⟨j,sz,ty,els,a0,b0,f0,h1,h2,h3,h4,h5,h6⟩<;>
  rcases G b' d0 b5 with⟨g1,g2,g3⟩|⟨j',d2,ty',els',els0',b0',f0',g1,g2,g3,g4,g5,g6⟩
  ·rw [F0 b h2] at hl;rw [F0 b' g2] at a5;exact k.sep b b' ob d0 l l' h1 g1 hl a5 b1 b4
  ·rw [F0 b h2] at hl;rw [F2 j' b' b0' g1 g2] at a5;have:=k.lt b l hl;have:=a7 j' b0' l' g2 a5;omega
  ·rw [F2 j b b0 h1 h2] at hl;rw [F0 b' g2] at a5;have:=k.lt b' l' a5;have:=a7 j b0 l h2 hl;omega
  ·rw [F2 j b b0 h1 h2] at hl;rw [F2 j' b' b0' g1 g2] at a5;have c4:j≠j':=fun e=>by subst e;rw [h1] at g1;cases g1;exact b1 rfl
   have d3:b0≠b0':=fun e=>by subst e;exact c4 (d6 j j' b0 h2 g2)
   have hs:=c1.sep b0 b0' _ _ l l' h4 g4 hl a5 d3 b4;have hs:f0=f0':=hs;subst hs;exact(c4 (zS d4 j j' f0 h6 g6)).elim
 ·intro b b' sz els f ro d2 els' ro' hb b5 b1;rcases G b _ hb with⟨h1,h2,h3⟩|⟨j,sz1,ty,els1,a0,b0,f0,h1,h2,h3,h4,h5,h6⟩<;>
  rcases G b' _ b5 with⟨g1,g2,g3⟩|⟨j',sz1',ty',els1',els0',b0',f0',g1,g2,g3,g4,g5,g6⟩
  ·exact k.fam b b' _ _ _ _ _ _ _ h1 g1 b1
  ·cases g3;have:=k.famlt b _ _ _ _ h1;have:=a6 b' (bV g1);omega
  ·cases h3;have:=k.famlt b' _ _ _ _ g1;have:=a6 b (bV h1);omega
  ·cases h3;cases g3;exact(b1 rfl).elim
 ·intro f;refine List.Pairwise.imp_of_mem ?_ (k.ord f);intro x y hx hy e0 sz els f1 ro d2 els' f2 ro' l1 l2 h1 h2 c5 c6 b4;have lx:=k.flt f x hx;have ly:=k.flt f y hy;have c8:x∉nw:=fun hm=>by have:=a6 x hm;omega
  have c9:y∉nw:=fun hm=>by have:=a6 y hm;omega
  rw [show aB x (nB nw b3 h.mem)=aB x h.mem from IV c8] at h1;rw [show aB y (nB nw b3 h.mem)=aB y h.mem from IV c9] at h2;rw [F0 x c8] at c5;rw [F0 y c9] at c6;exact e0 _ _ _ _ _ _ _ _ _ _ h1 h2 c5 c6 b4
 ·intro b l hb;rcases F3 b l hb with⟨_,h2⟩|⟨j,b0,h1,h2,h3⟩
  ·have:=k.lt b l h2;omega
  ·exact c1.lt b0 l h3
 ·intro b sz els f ro hb;show f.toNat<nx.toNat;rcases G b _ hb with⟨h1,h2,h3⟩|⟨j,sz1,ty,els1,a0,b0,f0,h1,h2,h3,h4,h5,h6⟩
  ·have:=k.famlt b _ _ _ _ h1;omega
  ·cases h3;exact c7 b (bV h1)
 ·intro f x hx;show x.toNat<nx.toNat;have:=k.flt f x hx;omega
 ·intro b ob l hb hl;rcases G b ob hb with⟨h1,h2,h3⟩|⟨j,sz1,ty,els1,a0,b0,f0,h1,h2,h3,h4,h5,h6⟩
  ·rw [F0 b h2] at hl;exact .inr ⟨b,ob,l,h1,hl,rfl,id⟩
  ·rw [F2 j b b0 h1 h2] at hl;exact .inl (a7 j b0 l h2 hl)
 ·intro b l hb b7;rw [F1 b b7] at hb;exact hb
 ·show h.next.toNat≤nx.toNat;omega
 ·intro b sz els f ro hb;rcases G b _ hb with⟨h1,h2,h3⟩|⟨j,sz1,ty,els1,a0,b0,f0,h1,h2,h3,h4,h5,h6⟩
  ·exact .inr ⟨b,sz,els,ro,h1⟩
  ·cases h3;exact .inl (a6 b (bV h1))
end
section
variable {P:Program} {m:Mp} {w:Wo}
def YK:∀{a b:List Ob},yH a b=true→a=b
 | [],[],_=>rfl
 | [],_::_,h=>by simp [yH] at h
 |_::_,[],h=>by simp [yH] at h
 |(n,t,x)::l,(n',t',y)::r,h=>by
  simp only [yH,aR] at h;rw [bG h.1,bG h.2.1,BK h.2.2.1,YK h.2.2.2]
def Mq {x y:V × List Ob} (h:LI x y=true):x=y:=by
 obtain⟨a,b⟩:=x;obtain⟨c,d⟩:=y;simp only [LI,aR] at h;rw [beq_eq h.1,YK h.2]
def Oy {lim a0:Nat} {hp:H} {vc:V} {a1:List Ob} (h:yF lim a0 nw hp v=some (vc,a1)):
  ∃olds fs,olds.length=nw.length∧nF olds=true∧dI (rho lim (olds.zip nw)) v=some vc∧pS hp (rho lim (olds.zip nw)) olds=some (fs,a1)∧nF fs=true:=by
 unfold yF at h;simp only at h;generalize rE hp lim a0 [v] []=olds at h;cases hb:(Nat.beq (yF.lenL' olds) (yF.lenL' nw)&&nF olds) with
 |false=>rw [hb] at h;cases h
 | true=>
  rw [hb] at h;simp only [dG] at h;rw [aR] at hb;split at h
  ·rename_i v' fs a2 h1 h2;cases hf:nF fs with
   |false=>rw [hf] at h;cases h
   |true=>
    rw [hf] at h;cases h;exact⟨olds,fs,bG hb.1,hb.2,h1,h2,hf⟩
  ·cases h
end
abbrev Ib:=Nat × List (List V)
def zN (h:H) (ρ:Id→Option Id):List Id→Option (List Id × List Ib)
 | []=>some ([],[])
 | b::l=>(match aB b h.mem with
  |some (.cells sz els f _)=>(match iL ρ els,zN h ρ l with
   |some els',some (fs,o)=>some (f::fs,(sz,els')::o)
   |_,_=>none)
  |_=>none)
def wE:List Ib→List Ib→Bool
 | [],[]=>true
 |(n,a)::l,(n',b)::r=>Nat.beq n n'&&(rH a b&&wE l r)
 |_,_=>false
def MH (a0 base:Nat) (args:List V) (h:H):Option (List V × List Ib × List Id):=
 match rE h 0 a0 args [] with
 |olds=>match lO olds.length (fY base) with
  | some (nw,_)=>bif nF olds then
    (match eR (rho 0 (olds.zip nw)) args,zN h (rho 0 (olds.zip nw)) olds with
    |some a,some (fs,o)=>bif nF fs then some (a,o,olds) else none
    |_,_=>none) else none
  |none=>none
def qN:List Id→List Ib→Mem→Mem
 |b::nw,(sz,els)::o,M=>fU b (some (.cells sz els b .fz)) (qN nw o M)
 |_,_,M=>M
structure cB where
 args:List V
 ins:List Ib
 res:V
 outs:List Ob
def cH (call:dQ) (base a0 f:Nat) (mm:cB):Bool:=
 match lO mm.ins.length (fY base) with
 | some (nw,nx)=>(match lO mm.outs.length nx with
  |some (nwR,_)=>(match call f mm.args ⟨qN nw mm.ins Mem.new,Fam.new,nx⟩ with
   | .ok v h'=>(match yF nx.toNat a0 nwR h' v with|some c=>LI c (mm.res,mm.outs)|none=>false)
   | .bad=>false)
  |none=>false)
 |none=>false
def rho2 (p q:List (Id × Id)) (c:Id):Option Id:=match nH c p with|some b=>some b|none=>nH c q
def zM (ρ:Id→Option Id):List Ob→Option (List Ob)
 | []=>some []
 |(sz,ty,els)::l=>(match iL ρ els,zM ρ l with
  |some e,some r=>some ((sz,ty,e)::r)
  |_,_=>none)
def JT (base:Nat) (mm:cB) (olds:List Id) (h:H):VH:=
 match lO olds.length (fY base),lO mm.outs.length h.next with
 | some (nwT,nx0),some (nw2,nx)=>(match lO mm.outs.length nx0 with
  |some (nwR,_)=>(match dI (rho2 (nwT.zip olds) (nwR.zip nw2)) mm.res,zM (rho2 (nwT.zip olds) (nwR.zip nw2)) mm.outs with
   |some v,some obs=>.ok v ⟨nB nw2 obs h.mem,h.fams,nx⟩
   |_,_=>.bad)
  |none=>.bad)
 |_,_=>.bad
def AU (a:List V) (o:List Ib):List cB→Option cB
 | []=>none
 |mm::l=>bif lU a mm.args&&wE o mm.ins then some mm else AU a o l
def SS (a0 base:Nat) (l:List cB) (a1:FOp):FOp:=⟨fun call args h=>
 match MH a0 base args h with
 |none=>a1.run call args h
 |some (a,o,olds)=>match AU a o l with
  |none=>a1.run call args h
  |some mm=>JT base mm olds h⟩
section
variable {P:Program} {m:Mp} {w:Wo}
def AZ:∀x,x<8→(dg x).toNat=x:=by decide
def vU (h:n<32768):(fY n).toNat=n:=by
 have h1:=AZ (n/4096%8) (by omega);have h2:=AZ (n/512%8) (by omega);have h3:=AZ (n/64%8) (by omega);have h4:=AZ (n/8%8) (by omega);have h5:=AZ (n%8) (by omega);simp only [fY,Id.toNat,h1,h2,h3,h4,h5];omega
def KZ (b:Id):bR b Fam.new= []:=by
 obtain⟨a,b,c,d,e⟩:=b;simp [bR,Fam.new,QC]
def YL:∀{a b:List Ib},wE a b=true→a=b
 | [],[],_=>rfl
 | [],_::_,h=>by simp [wE] at h
 |_::_,[],h=>by simp [wE] at h
 |(n,x)::l,(n',y)::r,h=>by
  simp only [wE,aR] at h;rw [bG h.1,BK h.2.1,YL h.2.2]
def QX {h:H} {ρ:Id→Option Id}:∀{l fs:List Id} {o:List Ib},zN h ρ l=some (fs,o)→fs.length=l.length∧o.length=l.length∧
  ∀(j:Nat) b,l[j]?=some b→∃sz els f ro els',aB b h.mem=some (.cells sz els f ro)∧iL ρ els=some els'∧fs[j]?=some f∧o[j]?=some (sz,els')
 | [],_,_,h=>by simp only [zN,dW,BW] at h;obtain⟨rfl,rfl⟩:=h;exact⟨rfl,rfl,fun j b hb=>by simp at hb⟩
 | a::l,_,_,h=>by
  simp only [zN] at h;split at h
  ·rename_i sz els f ro hb;split at h
   ·rename_i els' fs o h1 h2;cases h;obtain⟨k1,k2,k3⟩:=QX h2;refine⟨by simp [k1],by simp [k2],?_⟩;intro j b hj;cases j with
    |zero=>simp at hj;subst hj;exact⟨sz,els,f,ro,els',hb,h1,rfl,rfl⟩
    |succ j=>simp at hj;obtain⟨a1,a2,a3,a4,a5,a6,a7,a8,a9⟩:=k3 j b hj;exact⟨a1,a2,a3,a4,a5,a6,a7,by simpa using a8,by simpa using a9⟩
   ·cases h
  ·cases h
def RJ:∀{nw:List Id} {o:List Ib} {M:Mem} {b:Id} {ob:O},aB b (qN nw o M)=some ob→
  (aB b M=some ob)∨∃(j sz:Nat) (els:List (List V)),nw[j]?=some b∧o[j]?=some (sz,els)∧ob= .cells sz els b .fz
 | [],o,M,b,ob,h=>by simp only [qN] at h;exact .inl h
 |a::nw,[],M,b,ob,h=>by simp only [qN] at h;exact .inl h
 | a::nw,(sz,els)::o,M,b,ob,h=>by
  simp only [qN] at h
  by_cases e:b=a
  ·subst e;rw [iA] at h;cases h;exact .inr ⟨0,sz,els,rfl,rfl,rfl⟩
  ·rw [gN e] at h;rcases RJ h with h1|⟨j,sz,els,h1,h2,h3⟩
   ·exact .inl h1
   ·exact .inr ⟨j+1,sz,els,by simpa using h1,by simpa using h2,h3⟩
def vE (ρ σ:Id→Option Id) (b:Id):Option Id:=(ρ b).bind σ
mutual
theorem QQ {ρ σ:Id→Option Id}:∀{v v1 v2:V},dI ρ v=some v1→dI σ v1=some v2→dI (vE ρ σ) v=some v2
 | .top,_,_,h,_=>by simp [dI] at h
 | .b x,_,_,h,k=>by simp only [dI,dW] at h;subst h;exact k
 | .i _ _,_,_,h,k=>by simp only [dI,dW] at h;subst h;exact k
 | .s _ _,_,_,h,k=>by simp only [dI,dW] at h;subst h;exact k
 | .pn,_,_,h,k=>by simp only [dI,dW] at h;subst h;exact k
 | .p _ _,_,_,h,_=>by simp [dI] at h
 | .sn,_,_,h,k=>by simp only [dI,dW] at h;subst h;exact k
 | .sl b o len sz,_,_,h,k=>by
  simp only [dI] at h;cases hb:ρ b with
  |none=>rw [hb] at h;cases h
  |some c=>
   rw [hb] at h;cases h;simp only [dI] at k ⊢;simp only [vE,hb,ZR];exact k
 | .se,_,_,h,k=>by simp only [dI,dW] at h;subst h;exact k
 | .mn,_,_,h,k=>by simp only [dI,dW] at h;subst h;exact k
 | .mp _,_,_,h,_=>by simp [dI] at h
 | .fn _ _ _,_,_,h,_=>by simp [dI] at h
 | .nf,_,_,h,k=>by simp only [dI,dW] at h;subst h;exact k
 | .ifc _ _,_,_,h,_=>by simp [dI] at h
 | .ni,_,_,h,k=>by simp only [dI,dW] at h;subst h;exact k
 | .agg l,_,_,h,k=>by
  simp only [dI] at h;cases hl:eR ρ l with
  |none=>rw [hl] at h;cases h
  |some l'=>
   rw [hl] at h;cases h;simp only [dI] at k ⊢;cases hk:eR σ l' with
   |none=>rw [hk] at k;cases k
   |some l2=>rw [hk] at k;rw [DG hl hk];exact k
 | .tup l,_,_,h,k=>by
  simp only [dI] at h;cases hl:eR ρ l with
  |none=>rw [hl] at h;cases h
  |some l'=>
   rw [hl] at h;cases h;simp only [dI] at k ⊢;cases hk:eR σ l' with
   |none=>rw [hk] at k;cases k
   |some l2=>rw [hk] at k;rw [DG hl hk];exact k
theorem DG {ρ σ:Id→Option Id}:∀{l l1 l2:List V},eR ρ l=some l1→eR σ l1=some l2→eR (vE ρ σ) l=some l2
 | [],_,_,h,k=>by simp only [eR,dW] at h;subst h;exact k
 | v ::l,_,_,h,k=>by
  simp only [eR] at h;cases hv:dI ρ v with
  |none=>rw [hv] at h;cases h
  | some v1=>
   cases hl:eR ρ l with
   |none=>rw [hv,hl] at h;cases h
   | some l1=>
    rw [hv,hl] at h;cases h;simp only [eR] at k ⊢;cases kv:dI σ v1 with
    |none=>rw [kv] at k;cases k
    |some v2=>
     cases kl:eR σ l1 with
     |none=>rw [kv,kl] at k;cases k
     |some l2=>rw [kv,kl] at k;cases k;rw [QQ hv kv,DG hl kl]
end
def QW {ρ σ:Id→Option Id}:∀{l l1 l2:List (List V)},iL ρ l=some l1→iL σ l1=some l2→iL (vE ρ σ) l=some l2
 | [],_,_,h,k=>by simp only [iL,dW] at h;subst h;exact k
 | v ::l,_,_,h,k=>by
  simp only [iL] at h;cases hv:eR ρ v with
  |none=>rw [hv] at h;cases h
  | some v1=>
   cases hl:iL ρ l with
   |none=>rw [hv,hl] at h;cases h
   | some l1=>
    rw [hv,hl] at h;cases h;simp only [iL] at k ⊢;cases kv:eR σ v1 with
    |none=>rw [kv] at k;cases k
    |some v2=>
     cases kl:iL σ l1 with
     |none=>rw [kv,kl] at k;cases k
     |some l2=>rw [kv,kl] at k;cases k;rw [DG hv kv,QW hl kl]
def QR {hp:H} {ρ σ:Id→Option Id}:∀{l fs:List Id} {d7 b9:List Ob},pS hp ρ l=some (fs,d7)→zM σ d7=some b9→pS hp (vE ρ σ) l=some (fs,b9)
 | [],_,_,_,h,k=>by simp only [pS,dW,BW] at h;obtain⟨rfl,rfl⟩:=h;simp only [zM,dW] at k;subst k;rfl
 | a ::l,_,_,_,h,k=>by
  simp only [pS] at h ⊢;split at h
  ·rename_i sz els f ty hb;split at h
   ·rename_i els' fs d7 h1 h2;cases h;simp only [zM] at k;split at k
    ·rename_i e r k1 k2;cases k;rw [QW h1 k1,QR h2 k2]
    ·cases k
   ·cases h
  ·cases h
def dO.tr {h1 d1:H} {v1:V} (hk:dO P r m1 h1 w v1 d1)
  (t:∀u m' w',Fr m1 h1 w m' d1 w'→R m' v1 u→∃m2,Fr m h w m2 h' w'∧R m2 v u) (f9:∀m' w',Fr m1 h1 w m' d1 w'→R m' v1 undef→True:=fun _ _ _ _=>trivial):dO P r m h w v h':=by
 rcases hk with⟨u,w',m',hr,hF,hR⟩|⟨f,us,hr,hC⟩
 ·obtain⟨m2,h2,h3⟩:=t u m' w' hF hR;exact .inl ⟨u,w',m2,hr,h2,h3⟩
 ·refine .inr ⟨f,us,hr,Calls.mono hC ?_⟩;rintro e w' ⟨u,m',rfl,hF,hR⟩;obtain⟨m2,h2,h3⟩:=t u m' w' hF hR;exact⟨u,m2,rfl,h2,h3⟩
def pB (base:Nat) (b2 olds:List Id) (m:Mp):Mp:=fun i=>bif Nat.ble (Nat.succ i.toNat) base then m i else match nH i (b2.zip olds) with|some b=>m b|none=>none
def Je {base c2 b8:Nat} {mm:cB} (a0:cH call base c2 f mm=true) (c3:jT P call) (d9:P.globals.size≤base) (d3:base<32768)
  {vs:List V} {us:Lv} {h h':H} {v:V} {olds:List Id} (hr:HR m h w) (hg:Gl P m) (hR:Rl m vs us) (f8:base≤h.next.toNat)
  (b3:MH b8 base vs h=some (mm.args,mm.ins,olds)) (hv:JT base mm olds h= .ok v h'):dO P ((callFunc f ⟨us⟩).run P w) m h w v h':=by
 unfold MH at b3;simp only at b3;generalize rE h 0 b8 vs []=O at b3;cases hid:lO O.length (fY base) with
 |none=>rw [hid] at b3;cases b3
 |some nn=>
 obtain⟨b2,nx0⟩:=nn;rw [hid] at b3;simp only at b3;cases hnd:nF O with
 |false=>rw [hnd] at b3;cases b3
 |true=>
 rw [hnd] at b3;simp only [dG] at b3;split at b3
 case h_2=>cases b3
 rename_i a fs o f2 f3;cases hfs:nF fs with
 |false=>rw [hfs] at b3;cases b3
 |true=>
 rw [hfs] at b3;simp only [dG,dW,BW] at b3;obtain⟨rfl,rfl,rfl⟩:=b3;obtain⟨i1,i2,i3⟩:=xL hid;rw [vU d3] at i2 i3;obtain⟨r1,r2,r3⟩:=QX f3;have b7:∀b,b∈b2→base≤b.toNat∧b.toNat<nx0.toNat:=by
  intro b hb;obtain⟨j,hj⟩:=mQ.1 hb;have:=i3 j b hj;have:=(aZ.1 hj).1;omega
 have T1:∀i,i.toNat<base→pB base b2 O m i=m i:=by
  intro i hi;unfold pB;rw [show Nat.ble (Nat.succ i.toNat) base=true from Qv hi];rfl
 have T2:∀(j:Nat) c b,b2[j]?=some c→O[j]?=some b→pB base b2 O m c=m b:=by
  intro j c b h1 h2;have:=(b7 c (bV h1)).1;unfold pB;rw [show Nat.ble (Nat.succ c.toNat) base=false by cases e:Nat.ble (Nat.succ c.toNat) base with|false=>rfl|true=>have:=cY e;omega];simp only [mO];rw [KA (fun j j' b a1 a2=>DR hid a1 a2) h1 h2]
 have T3:∀i l,pB base b2 O m i=some l→(i.toNat<base∧m i=some l)∨∃(j:Nat) (b:Id),b2[j]?=some i∧O[j]?=some b∧m b=some l:=by
  intro i l hi;unfold pB at hi;cases hb:Nat.ble (Nat.succ i.toNat) base with
  |true=>rw [hb] at hi;exact .inl ⟨cY hb,hi⟩
  | false=>
   rw [hb] at hi;simp only [mO] at hi;split at hi
   ·rename_i b c6;obtain⟨j,h1,h2⟩:=uC c6;exact .inr ⟨j,b,h1,h2,hi⟩
   ·cases hi
 have hρT:∀b c l,rho 0 (O.zip b2) b=some c→m b=some l→pB base b2 O m c=some l:=by
  intro b c l h1 h2;unfold rho at h1;rw [show Nat.ble (Nat.succ b.toNat) 0=false from rfl] at h1;obtain⟨j,h3,h4⟩:=uC h1;rw [T2 j c b h4 h3];exact h2
 have e0:Rl (pB base b2 O m) mm.args us:=DH hρT f2 hR;have e6:Gl P (pB base b2 O m):=by
  intro g d5;obtain⟨lim,hl⟩:=hg g d5;exact⟨lim,by rw [T1 _ (by rw [vU (by omega)];omega)];exact hl⟩
 have b4:∀b ob,aB b (qN b2 mm.ins Mem.new)=some ob→∃(j sz:Nat) (els b6:List (List V)) (b0 f0:Id) (ro:Rw),b2[j]?=some b∧O[j]?=some b0∧ob= .cells sz els b .fz∧aB b0 h.mem=some (.cells sz b6 f0 ro)∧iL (rho 0 (O.zip b2)) b6=some els∧fs[j]?=some f0:=by
  intro b ob hb;rcases RJ hb with h1|⟨j,sz,els,h1,h2,h3⟩
  ·rw [SR] at h1;cases h1
  ·have e7:j<O.length:=by rw [←i1];exact(aZ.1 h1).1
   have d8:=cE e7;obtain⟨sz1,els1,f1,ro1,els1',a1,a2,a3,a4⟩:=r3 j _ d8;rw [h2] at a4;cases a4;exact⟨j,sz,els,els1,_,f1,ro1,h1,d8,h3,a1,a2,a3⟩
 have e9:HR (pB base b2 O m) ⟨qN b2 mm.ins Mem.new,Fam.new,nx0⟩ w:=by
  refine⟨?_,?_,?_,?_,?_,?_,?_,?_⟩
  ·intro b ob hb;obtain⟨j,sz,els,b6,b0,f0,ro,h1,h2,rfl,h4,h5,h6⟩:=b4 b ob hb;obtain⟨l,hl,C,t,fz,hc⟩:=hr.obj b0 _ h4;have c0:=hc.ren hρT h5;exact⟨l,by rw [T2 j b b0 h1 h2];exact hl,C,t,fz,⟨c0.at_,c0.room,c0.len,c0.each,c0.val,(fun e=>by cases e),(fun e=>by cases e),(fun ty e=>by cases e),c0.al⟩⟩
  ·intro b l hb;show b.toNat<nx0.toNat;rcases T3 b l hb with⟨h1,_⟩|⟨j,b0,h1,_,_⟩
   ·omega
   ·exact(b7 b (bV h1)).2
  ·intro b b' ob f5 l l' hb d2 hl c5 d6 e5;obtain⟨j,sz,els,b6,b0,f0,ro,h1,h2,rfl,h4,h5,h6⟩:=b4 b ob hb;obtain⟨j',f6,els',els0',b0',f0',ro',g1,g2,rfl,g4,g5,g6⟩:=b4 b' f5 d2;rw [T2 j b b0 h1 h2] at hl;rw [T2 j' b' b0' g1 g2] at c5;have d0:j≠j':=fun e=>by subst e;rw [h1] at g1;cases g1;exact d6 rfl
   have e4:b0≠b0':=fun e=>by subst e;exact d0 (zS hnd j j' b0 h2 g2)
   have hs:f0=f0':=hr.sep b0 b0' _ _ l l' h4 g4 hl c5 e4 e5;subst hs;exact(d0 (zS hfs j j' f0 h6 g6)).elim
  ·intro b b' sz els f ro f6 els' ro' hb d2 d6;obtain⟨j,_,_,_,b0,f0,_,h1,h2,h3,_⟩:=b4 b _ hb;obtain⟨j',_,_,_,b0',f0',_,g1,g2,g3,_⟩:=b4 b' _ d2;cases h3;cases g3;exact(d6 rfl).elim
  ·intro f;show List.Pairwise _ (bR f Fam.new);rw [KZ];exact List.Pairwise.nil
  ·intro b l hb;rcases T3 b l hb with⟨_,h1⟩|⟨j,b0,_,_,h1⟩
   ·exact hr.lt b l h1
   ·exact hr.lt b0 l h1
  ·intro b sz els f ro hb;obtain⟨j,_,_,_,b0,f0,_,h1,h2,h3,_⟩:=b4 b _ hb;cases h3;exact(b7 b (bV h1)).2
  ·intro f x hx;have hx:x∈bR f Fam.new:=hx;rw [KZ] at hx;cases hx
 unfold cH at a0;rw [show mm.ins.length=O.length from r2,hid] at a0;simp only at a0;cases hidR:lO mm.outs.length nx0 with
 |none=>rw [hidR] at a0;cases a0
 |some nn=>
 obtain⟨c9,nxR⟩:=nn;rw [hidR] at a0;simp only at a0;cases hcl:call f mm.args ⟨qN b2 mm.ins Mem.new,Fam.new,nx0⟩ with
 |bad=>rw [hcl] at a0;cases a0
 |ok vT hpp=>
 rw [hcl] at a0;simp only at a0;cases hcan:yF nx0.toNat c2 c9 hpp vT with
 |none=>rw [hcan] at a0;cases a0
 |some cn=>
 rw [hcan] at a0;simp only at a0;have:=Mq a0;subst this;have hH:=c3 f mm.args us (pB base b2 O m) _ w vT hpp e9 e6 e0 hcl;unfold JT at hv;rw [hid] at hv;cases hid2:lO mm.outs.length h.next with
 |none=>rw [hid2] at hv;cases hv
 |some nn=>
 obtain⟨c8,nx⟩:=nn;rw [hid2] at hv;simp only [hidR] at hv;split at hv
 case h_2=>cases hv
 rename_i v2 b9 f4 e8;cases hv;refine hH.tr ?_;intro u mp w' hF hRp;obtain⟨b5,fs2,hlen2,hnd2,hrv2,hro2,hfs2⟩:=Oy hcan;obtain⟨j1,j2,j3⟩:=xL hidR;obtain⟨q1,q2,q3⟩:=xL hid2;obtain⟨e1,e2,e3⟩:=IN hro2;have c4:∀b,b∈c9→nx0.toNat≤b.toNat:=by
  intro b hb;obtain⟨j,hj⟩:=mQ.1 hb;have:=j3 j b hj;omega
 have d4:∀b,b∈c8→h.next.toNat≤b.toNat:=by
  intro b hb;obtain⟨j,hj⟩:=mQ.1 hb;have:=q3 j b hj;omega
 have C1:∀i l,m i=some l→lP c8 b5 mp m i=some l:=by
  intro i l hi;have:=hr.dom i l hi;unfold lP;rw [TJ (fun hm=>by have:=d4 i hm;omega)];exact hi
 have c7:∀B,¬Wb (pB base b2 O m) ⟨qN b2 mm.ins Mem.new,Fam.new,nx0⟩ B:=by
  rintro B ⟨b1,ob1,l1,h1,h2,h3,h4⟩;obtain⟨j,_,_,_,b0,f0,_,_,_,rfl,_⟩:=b4 b1 ob1 h1;exact h4 rfl
 have hρF:∀b c l,vE (rho nx0.toNat (b5.zip c9)) (rho2 (b2.zip O) (c9.zip c8)) b=some c→mp b=some l→lP c8 b5 mp m c=some l:=by
  intro b c l h1 h2;unfold vE at h1;cases hc1:rho nx0.toNat (b5.zip c9) b with
  |none=>rw [hc1] at h1;cases h1
  | some c1=>
   rw [hc1] at h1;simp only [ZR] at h1;unfold rho at hc1;unfold rho2 at h1;cases hb:Nat.ble (Nat.succ b.toNat) nx0.toNat with
   | true=>
    rw [hb] at hc1;simp only [dG,dW] at hc1;subst hc1;have d5:b.toNat<nx0.toNat:=cY hb;split at h1
    ·rename_i b0 c6;cases h1;obtain⟨j,g1,g2⟩:=uC c6;have:=hF.old b l h2 d5;rw [T2 j b c g1 g2] at this;exact C1 c l this
    ·obtain⟨j,g1,g2⟩:=uC h1;have:=c4 b (bV g1);omega
   | false=>
    rw [hb] at hc1;obtain⟨j,g1,g2⟩:=uC hc1;have f7:=c4 c1 (bV g2);split at h1
    ·rename_i b0 c6;obtain⟨j',g3,_⟩:=uC c6;have:=(b7 c1 (bV g3)).2;omega
    ·obtain⟨j',g3,g4⟩:=uC h1;have d0:j=j':=DR hidR g2 g3;subst d0;unfold lP;rw [KA (fun j j' b a1 a2=>DR hid2 a1 a2) g4 g1];exact h2
 refine⟨lP c8 b5 mp m,Oz hr hF.hr hF.size (fun B hB _=>hF.keep B hB (c7 B)) hF.os hF.tape hF.output hid2 (by rw [hlen2,j1,q1]) (zS hnd2) (QR hro2 e8) hfs2 hρF ?_ ?_,IM hρF (QQ hrv2 f4) hRp⟩
 ·intro j b l h1 h2;obtain⟨sz,els,f1,ty,els',a1,_⟩:=e3 j b h1;rcases hF.back b _ l a1 h2 with h3|⟨b0,ob0,l0,h3,h4,h5,h6⟩
  ·exact h3
  ·obtain⟨_,_,_,_,_,_,_,_,_,rfl,_⟩:=b4 b0 ob0 h3;exact absurd rfl (h6 (by intro e;cases e))
 ·intro b ob l hb hl;obtain⟨l',c5,ho⟩:=hr.obj b ob hb;rw [hl] at c5;cases c5;exact ho.keep (fun i li hi=>C1 i li hi) (hF.keep l.blk (hr.lt b l hl) (c7 _))
def VO {a:List V} {o:List Ib}:∀{l:List cB} {mm:cB},AU a o l=some mm→mm∈l∧a=mm.args∧o=mm.ins
 | [],_,h=>by simp [AU] at h
 | x::l,mm,h=>by
  simp only [AU] at h;cases hb:(lU a x.args&&wE o x.ins) with
  |true=>
   rw [hb] at h;cases h;rw [aR] at hb;exact⟨oI,wD hb.1,YL hb.2⟩
  |false=>
   rw [hb] at h;obtain⟨h1,h2⟩:=VO h;exact⟨mR _ h1,h2⟩
end
def cmpF:FOp:=⟨fun _ args h=>match args with
 | [.s l c,.s l' c']=>.ok (.i .i64 (bif sEq l c l' c' then 0 else bif ltB (bytesOf l c) (bytesOf l' c') then-1 else 1)) h
 |_=>.bad⟩
section
variable {P:Program} {m:Mp} {w:Wo}
def LC {e:Array Value→Sem Value} (hf:P.funcs[f]?=some fn) (hb:fn.body=none) (hn:fn.name≠ "runtime.NumGoroutine") (h1:Extern.findNext fn=none) (h2:Extern.find fn=some e) (args:Array Value):
  (callFunc f args).run P w=((do pure (Next.value (←e args))):Sem Next).run P w:=by
 simp [callFunc,hf,hn,hb,h1,h2,mark,Sem.run]
def Jq (a b:UInt8) (x y:List UInt8):Op.bytesLess (a::x) (b::y)=(decide (a<b)||(a==b&&Op.bytesLess x y)):=by
 simp [Op.bytesLess]
def WM:∀(x y:List UInt8),Lib.compareBytes x y=if x=y then 0 else if Op.bytesLess x y then-1 else 1
 | [],[]=>by simp [Lib.compareBytes]
 | [],_::_=>by simp [Lib.compareBytes,Op.bytesLess]
 |_::_,[]=>by simp [Lib.compareBytes,Op.bytesLess]
 | a ::x,b::y=>by
  rw [Jq];simp only [Lib.compareBytes]
  by_cases h1:a<b
  ·have a0:a≠b:=fun e=>by subst e;exact absurd h1 (by simp [UInt8.lt_irrefl])
   simp [h1,a0]
  ·by_cases h2:b<a
   ·have a0:a≠b:=fun e=>by subst e;exact h1 h2
    simp [h1,h2,a0]
   ·have he:a=b:=by
     apply yP.1;simp only [Qn] at h1 h2;omega
    subst he;simp [h1,WM x y]
end
section
variable {P:Program} {m:Mp} {w:Wo}
def dO.pureV {s:Sem Value} (hr:HR m h w) (hs:s.run P w= .ok u w) (hR:R m v u):
  dO P ((do pure (Next.value (←s)):Sem Next).run P w) m h w v h:=
 dO.val ⟨u,w,m,hs,Fr.refl hr,hR⟩
def Og (hf:P.funcs[f]?=some fn) (hb:fn.body=none) (hn:fn.name≠ "runtime.NumGoroutine") (h1:Extern.findNext fn=none) (h2:Extern.find fn=some Extern.BytealgCompare.compare)
  {call:dQ} {vs:List V} {us:Lv} {h h':H} {v:V} (hr:HR m h w) (hR:Rl m vs us) (hv:cmpF.run call vs h= .ok v h'):dO P ((callFunc f ⟨us⟩).run P w) m h w v h':=by
 simp only [cmpF] at hv;split at hv
 ·rename_i l c l' c';cases hv;obtain⟨x,us,rfl,hx,hR⟩:∃x a0,us=x::a0∧R m (.s l c) x∧Rl m [.s l' c'] a0:=by
   cases us with|nil=>simp [Rl] at hR|cons x us=>simp only [Rl,kM] at hR ⊢;obtain⟨u,a0,⟨e1,e2⟩,h1,h2⟩:=hR;subst e1 e2;exact⟨_,_,⟨rfl,rfl⟩,h1,h2⟩
  obtain⟨y,us,rfl,hy,hR⟩:∃x a0,us=x::a0∧R m (.s l' c') x∧Rl m [] a0:=by
   cases us with|nil=>simp [Rl] at hR|cons x us=>simp only [Rl,kM] at hR ⊢;obtain⟨u,a0,⟨e1,e2⟩,h1,h2⟩:=hR;subst e1 e2;exact⟨_,_,⟨rfl,rfl⟩,h1,h2⟩
  obtain rfl:us= []:=by cases us with|nil=>rfl|cons x us=>simp [Rl] at hR
  rw [iI] at hx hy;obtain⟨s,rfl,hs,hc⟩:=hx;obtain⟨t,rfl,ht,hc'⟩:=hy;rw [LC hf hb hn h1 h2];refine dO.pureV hr (Lib.run_compareString s t w) ?_;rw [WM,IG hs hc ht hc',TE hs ht,mS,mS]
  by_cases e:s.data.toList=t.data.toList
  ·simp [e,R]
  ·have e':(s.data.toList==t.data.toList)=false:=by simpa using e
   rw [e',if_neg e];cases hB:Op.bytesLess s.data.toList t.data.toList<;>simp [R]
 ·cases hv
end
section
variable {P:Program} {m:Mp} {w:Wo}
def Fr.later (k:HR m h w) (a1:w.heap.size≤w'.heap.size)
  (a0:∀B,B<w.heap.size→w'.heap[B]?=w.heap[B]?) (a2:w'.os=w.os) (a4:w'.tape=w.tape) (a3:w'.output=w.output):Fr m h w m h w':=by
 refine⟨fun _ _ e=>e,⟨?_,k.dom,k.sep,k.fam,k.ord,fun b l hb=>eE (k.lt b l hb) a1,k.famlt,k.flt⟩,a1,fun B hB _=>a0 B hB,a2,a4,a3,?_,fun b l hb _=>hb,aA _,?_⟩
 ·intro b ob hb;obtain⟨l,hl,ho⟩:=k.obj b ob hb;exact⟨l,hl,ho.keep (fun _ _ e=>e) (a0 _ (k.lt _ _ hl))⟩
 ·intro b ob l hb hl;exact .inr ⟨b,ob,l,hb,hl,rfl,id⟩
 ·intro b sz els f ro hb;exact .inr ⟨b,sz,els,ro,hb⟩
end
section
variable {P:Program} {m:Mp} {w:Wo}
end
section
variable {P:Program} {m:Mp} {w:Wo}
def BD (n:Nat):List Nat→Nat
 | []=>0
 |x::l=>bif Nat.beq x n then Nat.succ (BD n l) else BD n l
def AE (n:Nat):List Nat→Option Nat
 | []=>none
 |x::l=>bif Nat.beq x n then some 0 else(match AE n l with|some k=>some (Nat.succ k)|none=>none)
def BE:FOp:=⟨fun _ args h=>match args with
 | [.s l c,.i .u8 (.ofNat n)]=>bif Nat.ble n 255 then .ok (.i .i64 (.ofNat (BD n (bytesOf l c)))) h else .bad
 |_=>.bad⟩
def AG:FOp:=⟨fun _ args h=>match args with
 | [.s l c,.i .u8 (.ofNat n)]=>bif Nat.ble n 255 then .ok (.i .i64 (match AE n (bytesOf l c) with|some k=>.ofNat k|none=>.negSucc 0)) h else .bad
 |_=>.bad⟩
def YH (b:UInt8) {n:Nat} (hn:n≤255):Nat.beq b.toNat n=(b==n.toUInt8):=by
 by_cases e:b.toNat=n
 ·have:b=n.toUInt8:=by apply yP.1;simp [e];omega
  rw [this];simp only [beq_self_eq_true];rw [←this,e];exact Ai n
 ·have h1:Nat.beq b.toNat n=false:=by
   cases h:Nat.beq b.toNat n with
   |false=>rfl
   |true=>exact absurd (bG h) e
  rw [h1];symm;have:b≠n.toUInt8:=fun h=>e (by rw [h];simp;omega)
  simpa using this
def WH {n:Nat} (hn:n≤255):∀(l:List UInt8),BD n (l.map UInt8.toNat)=Lib.countByte l n.toUInt8
 | []=>rfl
 |b::l=>by
  have ih:=WH hn l;unfold Lib.countByte at ih ⊢;simp only [kL,BD,YH b hn,List.count_cons,ih];cases h:(b==n.toUInt8)<;>simp
def UH {n:Nat} (hn:n≤255):∀(l:List UInt8),(match AE n (l.map UInt8.toNat) with|some k=>Int.ofNat k|none=>Int.negSucc 0)=Lib.indexByte l n.toUInt8
 | []=>rfl
 | b::l=>by
  have ih:=UH hn l;simp only [kL,AE,YH b hn,Lib.indexByte,←ih];cases h:(b==n.toUInt8) with
  |true=>simp
  |false=>
   cases h2:AE n (l.map UInt8.toNat) with
   |none=>simp
   |some k=>simp
def argSB {vs:Lv} {l c:Nat} {z:Int} (hR:Rl m [.s l c,.i .u8 z] vs):∃s:ByteArray,vs= [.string s,.int .u8 z]∧s.data.toList.map UInt8.toNat=bytesOf l c:=by
 obtain⟨x,us,rfl,hx,hR⟩:∃x a0,vs=x::a0∧R m (.s l c) x∧Rl m [.i .u8 z] a0:=by
  cases vs with|nil=>simp [Rl] at hR|cons x us=>simp only [Rl,kM] at hR ⊢;obtain⟨u,a0,⟨e1,e2⟩,h1,h2⟩:=hR;subst e1 e2;exact⟨_,_,⟨rfl,rfl⟩,h1,h2⟩
 obtain⟨y,us,rfl,hy,hR⟩:∃x a0,us=x::a0∧R m (.i .u8 z) x∧Rl m [] a0:=by
  cases us with|nil=>simp [Rl] at hR|cons x us=>simp only [Rl,kM] at hR ⊢;obtain⟨u,a0,⟨e1,e2⟩,h1,h2⟩:=hR;subst e1 e2;exact⟨_,_,⟨rfl,rfl⟩,h1,h2⟩
 obtain rfl:us= []:=by cases us with|nil=>rfl|cons x us=>simp [Rl] at hR
 rw [iI] at hx;obtain⟨s,rfl,hs,hc⟩:=hx;simp only [R] at hy;exact⟨s,by rw [hy],hs⟩
def Ns (hf:P.funcs[f]?=some fn) (hb:fn.body=none) (hn:fn.name≠ "runtime.NumGoroutine") (h1:Extern.findNext fn=none) (h2:Extern.find fn=some Extern.BytealgCount.count)
  {call:dQ} {vs:List V} {us:Lv} {h h':H} {v:V} (hr:HR m h w) (hR:Rl m vs us) (hv:BE.run call vs h= .ok v h'):dO P ((callFunc f ⟨us⟩).run P w) m h w v h':=by
 simp only [BE] at hv;split at hv
 ·rename_i l c n;cases hle:Nat.ble n 255 with
  |false=>rw [hle] at hv;cases hv
  |true=>
   rw [hle] at hv;cases hv;have a1:=cY hle;obtain⟨s,rfl,hs⟩:=argSB hR;rw [LC hf hb hn h1 h2];refine dO.pureV hr (Lib.run_countString s _ w) ?_;rw [←hs,WH a1];simp only [R];rfl
 ·cases hv
def Kk (hf:P.funcs[f]?=some fn) (hb:fn.body=none) (hn:fn.name≠ "runtime.NumGoroutine") (h1:Extern.findNext fn=none) (h2:Extern.find fn=some Extern.BytealgIndexByte.indexByte)
  {call:dQ} {vs:List V} {us:Lv} {h h':H} {v:V} (hr:HR m h w) (hR:Rl m vs us) (hv:AG.run call vs h= .ok v h'):dO P ((callFunc f ⟨us⟩).run P w) m h w v h':=by
 simp only [AG] at hv;split at hv
 ·rename_i l c n;cases hle:Nat.ble n 255 with
  |false=>rw [hle] at hv;cases hv
  |true=>
   rw [hle] at hv;cases hv;have a1:=cY hle;obtain⟨s,rfl,hs⟩:=argSB hR;rw [LC hf hb hn h1 h2];refine dO.pureV hr (Lib.run_indexByteString s _ w) ?_;have:=UH a1 s.data.toList;rw [hs] at this;rw [this];simp only [R];rfl
 ·cases hv
end
end
end Go.Ev
