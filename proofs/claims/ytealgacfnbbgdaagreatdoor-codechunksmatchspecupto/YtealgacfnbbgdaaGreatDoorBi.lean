/- Lemmas; no condition. -/
import Derived.Test.YtealgacfnbbgdaaGreatDoorAw
import Derived.Test.YtealgacfnbbgdaaGreatDoorBh
set_option linter.all false
namespace Go.Proofs.YtealgacfnbbgdaaGreatDoor
open Go.Ev
def e207:∀args w,(callFunc 207 args).run Tryz.prog w= .ok (.enter 207 args) w:=enters_of Tryz.func207 (by kernel_rfl) rfl
def OY {m:Mp} {h:H} {w:Wo} {c:Nat} {k:Nat} (hr:HR m h w) (hg:Gl Tryz.prog m) (a4:eQ w) {us:Lv} (hc:c<256) (hR:Rl m [.s 1 c,.i .i64 (.ofNat k)] us)
  (a6:lL [c.toUInt8] k=false):dO Tryz.prog ((callFunc 207 ⟨us⟩).run Tryz.prog w) m h w (.tup [.s 0 0,.b false]) h:=by
 simp only [Rl] at hR;obtain⟨u,us1,rfl,hu,u2,us2,rfl,hu2,rfl⟩:=hR;obtain rfl:=Ic rfl hc hu;simp only [R] at hu2;subst hu2;obtain⟨lim,hl⟩:=hg 2 AL;have h3:2<w.heap.size:=hr.lt _ _ hl;refine .inr ⟨207,_,e207 _ w,(OX IL UB ⟨#[c.toUInt8]⟩ k w h3 a4).mono ?_⟩;rintro e w' ⟨s,rfl,hs,hB⟩;have e1:(ByteArray.mk #[c.toUInt8]).toList= [c.toUInt8]:=by rw [mS]
 rw [e1] at hs ⊢;rw [hs a6,a6];refine⟨_,m,rfl,Fr.later hr hB.size hB.block hB.os hB.tape hB.output,?_⟩;simp only [R];refine⟨[.string ⟨#[]⟩,.bool false],rfl,?_⟩;simp only [Rl];exact⟨_,_,rfl,by rw [iI];exact⟨_,rfl,rfl,by decide⟩,_,_,rfl,by simp [R],rfl⟩
def Cp {f:FuncId} (hf:f=207) {vs:List V} {us:Lv} {m:Mp} {h0 h':H} {w:Wo} {v:V} {call:dQ} (hr:HR m h0 w) (hg:Gl Tryz.prog m) (hR:Rl m vs us) (hv:sysF.run call vs h0= .ok v h'):dO Tryz.prog ((callFunc f ⟨us⟩).run Tryz.prog w) m h0 w v h':=by
 subst hf;simp only [sysF] at hv;split at hv
 ·rename_i l c n;cases hq:(Nat.beq l 1&&(Nat.beq c 112&&Nat.beq n 2))||(Nat.beq l 1&&(Nat.beq c 113&&Nat.beq n 1)) with
  |false=>rw [hq] at hv;cases hv
  | true=>
   rw [hq] at hv;simp only [dG] at hv;split at hv
   ·rename_i sz els fm ro hb;cases hz:Nat.beq sz 1&&rH els pQ with
    |false=>rw [hz] at hv;cases hv
    | true=>
     rw [hz] at hv;simp only [dG,VH.ok.injEq] at hv;obtain⟨rfl,rfl⟩:=hv;rw [aR] at hz;obtain rfl:=bG hz.1;obtain rfl:=BK hz.2;have a4:=Do hr hg hb;rw [kN,aR,aR,aR,aR] at hq;rcases hq with⟨e1,e2,e3⟩|⟨e1,e2,e3⟩
     ·obtain rfl:=bG e1;obtain rfl:=bG e2;obtain rfl:=bG e3;exact OY hr hg a4 (by decide) hR (by kernel_rfl)
     ·obtain rfl:=bG e1;obtain rfl:=bG e2;obtain rfl:=bG e3;exact OY hr hg a4 (by decide) hR (by kernel_rfl)
   ·cases hv
 ·cases hv
def IB:SpecOK Tryz.prog sp0:=by
 intro f op a0 call a1 vs us m h w v h' hr hg hR hv;unfold sp0 at a0;rcases sR a0 with⟨e,h1⟩|⟨_,a0⟩
 ·obtain rfl:=bP h1;exact Oh (sS e) hr hR hv
 rcases sR a0 with⟨e,h1⟩|⟨_,a0⟩
 ·obtain rfl:=bP h1;exact WI (sS e) hr hR hv
 rcases sR a0 with⟨e,h1⟩|⟨_,a0⟩
 ·obtain rfl:=bP h1;exact UI (sS e) hr hR hv
 rcases sR a0 with⟨e,h1⟩|⟨_,a0⟩
 ·obtain rfl:=bP h1;exact Cp (sS e) hr hg hR hv
 ·cases a0
def XK:jT Tryz.prog cP:=FN IX JR IB 300
def facts:∀mm∈mUs,cH cP 14 10000 90 mm=true:=by
 intro mm hm;simp only [mUs,cN,NW,BQ] at hm;rcases hm with rfl|rfl|rfl|rfl|rfl|rfl|rfl|rfl|rfl|rfl|rfl|rfl|rfl|rfl|rfl|rfl|rfl|rfl|rfl|rfl|rfl|rfl|rfl|rfl|rfl|rfl|rfl|rfl|rfl|rfl|rfl|rfl|rfl|rfl|rfl|rfl|rfl|rfl|rfl|rfl|rfl|rfl|rfl|rfl|rfl|rfl|rfl|rfl|rfl|rfl|rfl|rfl|rfl|rfl|rfl|rfl
 ·exact fU0
 ·exact fU1
 ·exact fU2
 ·exact fU3
 ·exact fU4
 ·exact fU5
 ·exact fU6
 ·exact fU7
 ·exact fU8
 ·exact fU9
 ·exact fU10
 ·exact fU11
 ·exact fU12
 ·exact fU13
 ·exact fU14
 ·exact fU15
 ·exact fU16
 ·exact fU17
 ·exact fU18
 ·exact fU19
 ·exact fU20
 ·exact fU21
 ·exact fU22
 ·exact fU23
 ·exact fU24
 ·exact fU25
 ·exact fU26
 ·exact fU27
 ·exact fU28
 ·exact fU29
 ·exact fU30
 ·exact fU31
 ·exact fU32
 ·exact fU33
 ·exact fU34
 ·exact fU35
 ·exact fU36
 ·exact fU37
 ·exact fU38
 ·exact fU39
 ·exact fU40
 ·exact fU41
 ·exact fU42
 ·exact fU43
 ·exact fU44
 ·exact fU45
 ·exact fU46
 ·exact fU47
 ·exact fU48
 ·exact fU49
 ·exact fU50
 ·exact fU51
 ·exact fU52
 ·exact fU53
 ·exact fU54
 ·exact fU55
def MS {call:dQ} {vs:List V} {h h':H} {v:V} (hv:rI.run call vs h= .ok v h'):False:=by
 simp only [rI] at hv;cases hv
def JS {g:Nat} {l:List cB} {a2:dQ} (a3:∀mm∈l,cH a2 14 10000 g mm=true) (a1:jT Tryz.prog a2) {f:FuncId} (e:f=g) {vs:List V} {us:Lv} {m:Mp} {h h':H} {w:Wo} {v:V} {call:dQ} (hr:HR m h w) (hg:Gl Tryz.prog m) (hR:Rl m vs us) (hv:(zW 10000 14 l rI).run call vs h= .ok v h'):dO Tryz.prog ((callFunc f ⟨us⟩).run Tryz.prog w) m h w v h':=by
 subst e;simp only [zW] at hv;cases hn:Nat.ble 14 h.next.toNat with
 |false=>rw [hn] at hv;exact absurd hv MS
 | true=>
  rw [hn] at hv;simp only [dG,SS] at hv;split at hv
  ·exact absurd hv MS
  ·rename_i a o olds a7;split at hv
   ·exact absurd hv MS
   ·rename_i mm hf;obtain⟨h1,rfl,rfl⟩:=VO hf;exact Je (a3 mm h1) a1 KR (by decide) hr hg hR (cY hn) a7 hv
def sp1_ok:SpecOK Tryz.prog sp1:=by
 intro f op a0 call a1 vs us m h w v h' hr hg hR hv;unfold sp1 at a0;rcases sR a0 with⟨e,h1⟩|⟨_,a0⟩
 ·obtain rfl:=bP h1;exact JS facts XK (sS e) hr hg hR hv
 ·exact IB f op a0 call a1 vs us m h w v h' hr hg hR hv
def Pc:jT Tryz.prog MJ:=FN IX JR sp1_ok 300
def Mc:∀mm∈ [mDef],cH MJ 14 10000 58 mm=true:=fun mm hm=>by
 obtain rfl:=mP.1 hm;exact fDef
def factsC:∀mm∈ [mChk],cH cP 14 10000 86 mm=true:=fun mm hm=>by
 obtain rfl:=mP.1 hm;exact fChk
def spR_ok:SpecOK Tryz.prog spR:=by
 intro f op a0 call a1 vs us m h w v h' hr hg hR hv;unfold spR at a0;rcases sR a0 with⟨e,h1⟩|⟨_,a0⟩
 ·obtain rfl:=bP h1;exact JS factsC XK (sS e) hr hg hR hv
 ·exact IB f op a0 call a1 vs us m h w v h' hr hg hR hv
def callR_ok:jT Tryz.prog callR:=FN IX JR spR_ok 300
def Md:∀mm∈ [JZ],cH callR 14 10000 57 mm=true:=fun mm hm=>by
 obtain rfl:=mP.1 hm;exact fRead
def sp2_ok:SpecOK Tryz.prog sp2:=by
 intro f op a0 call a1 vs us m h w v h' hr hg hR hv;unfold sp2 at a0;rcases sR a0 with⟨e,h1⟩|⟨_,a0⟩
 ·obtain rfl:=bP h1;exact JS Mc Pc (sS e) hr hg hR hv
 rcases sR a0 with⟨e,h1⟩|⟨_,a0⟩
 ·obtain rfl:=bP h1;exact JS Md callR_ok (sS e) hr hg hR hv
 ·exact IB f op a0 call a1 vs us m h w v h' hr hg hR hv
def Nx (w:Wo) (hw:Tryz.prog.globals.size≤w.heap.size) (hN:iC w) (hS:eQ w):Cz 12 #[] w fun e w'=>e= .returned (.bool true)∧RowKit.Below w.heap.size w w':=by
 obtain⟨h',a5⟩:=Cf run;refine(LD (vs:=[]) (us:=[]) sp2_ok (enters_of Tryz.func12 (by kernel_rfl) rfl) w hw hN hS (by simp [Rl]) a5).mono ?_;rintro e w' ⟨u,m',rfl,hR,_,hB⟩;rw [R_b hR];exact⟨rfl,hB⟩
