/-
  Lemmas. Conditions: each one's own.
-/
import Derived.Test.YtlmdfmnbcndhoaaGreatDoorRt17
open Go.RowKit
set_option maxHeartbeats 6400000
set_option maxRecDepth 100000
open Option renaming none->U,some->Z
open Go.Value renaming bool->G,int->D,slice->H
open Go renaming World->ZY
open Go.Proofs.Tryz renaming prog->ZX
open Bool renaming false->E,true->Q
open Go.IntKind renaming i64->J
open Go.RowKit renaming Below->ZZ
open Go.RowKit.Below renaming refl->M
open Nat renaming le_refl->O
namespace Go.Proofs.YtlmdfmnbcndhoaaGreatDoor
def zIM (p:Nat):Array Value:=#[.func (.func 175) #[.pointer (Z ⟨p,0,U⟩)] #[],.func (.func 176) #[.pointer (Z ⟨p,0,U⟩)] #[],.func (.func 177) #[.pointer (Z ⟨p,0,U⟩)] #[],.func (.func 178) #[.pointer (Z ⟨p,0,U⟩)] #[],.func (.func 179) #[.pointer (Z ⟨p,0,U⟩)] #[]]
theorem zWY:(Tryz.prog.info? 26).map (fun i=>(i.zero,i.size,i.bytes))=Z (Z .nilFunc,1,8):=by kernel_rfl
theorem buildV (p:Nat) (w:ZY):(Instr.buildSlice 215 5 #[(0,.func (.func 175) #[.pointer (Z ⟨p,0,U⟩)] #[]),(1,.func (.func 176) #[.pointer (Z ⟨p,0,U⟩)] #[]),(2,.func (.func 177) #[.pointer (Z ⟨p,0,U⟩)] #[]),(3,.func (.func 178) #[.pointer (Z ⟨p,0,U⟩)] #[]),(4,.func (.func 179) #[.pointer (Z ⟨p,0,U⟩)] #[])]).run ZX w=.ok (H (Z ⟨w.heap.size,0,U⟩) 5 5) (w.alloc (.cells (zIM p) 26)):=by
 obtain ⟨i0,hi,cD,bu,cM⟩:=info_parts zWY;refine run_buildSlice w _ _ 5 _ _ i0 _ Tryz.underlying215 hi cD (by rw [bu];omega) (by rw [bu];omega) ?_;rw [bu]
 kernel_rfl
def VS (w:ZY) (p k:Nat) (A:Option Addr) (n c:Nat) (L:List Lt) (v2 v3 v4 v5 v6:Value) (i:Nat) (wr:ZY):Prop :=
 (i=0/\Dia wr p (k:Int) A n c v2 v3 v4 v5 v6)∨(i=1/\zAE (k:Int) L=Q/\Dia wr p (k:Int) A n c v2 v3 v4 v5 v6) ∨
 (i=2/\zAE (k:Int) L=Q/\(isP (la L 0)&&decide (pN L n % 2=0))=Q/\Dia wr p (k:Int) A n c v2 v3 v4 v5 v6) ∨
 (i=3/\zAE (k:Int) L=Q/\(isP (la L 0)&&decide (pN L n % 2=0))=Q/\zCw L=Q/\∃base g2 g3 g4 g6 s P C,w.heap.size<=base/\DiaR wr base p k A n c L v5 g2 g3 g4 g6 s P C) ∨
 (i=4/\zAE (k:Int) L=Q/\(isP (la L 0)&&decide (pN L n % 2=0))=Q/\zCw L=Q/\zBK L=Q/\∃base b g2 g3 g4 g6 s P C ids,w.heap.size<=base/\DiaF wr base p k A n c L b g2 g3 g4 g6 s P C ids) ∨
 (i=5/\zBf (k:Int) L=Q/\∃base b g2 g3 g4 g6 s P C ids,w.heap.size<=base/\DiaF wr base p k A n c L b g2 g3 g4 g6 s P C ids)
def zKU (w:ZY) (p k:Nat) (A:Option Addr) (n c:Nat) (L:List Lt) (v2 v3 v4 v5 v6:Value) (e:Ending) (w':ZY):Prop :=
 e=.returned (G (decide (n=0)||zBf (k:Int) L))/\w.grownBy w' (Z p)/\(n=0->Dia w' p (k:Int) A n c v2 v3 v4 v5 v6) /\
 (0 < n->zBf (k:Int) L=Q->∃base b g2 g3 g4 g6 s P C ids,w.heap.size<=base/\DiaF w' base p k A n c L b g2 g3 g4 g6 s P C ids)
theorem zFB {K:Int} {L:List Lt} {n:Nat} (hL:L.length=n) (h:zAE K L=E∨(isP (la L 0)&&decide (pN L n % 2=0))=E∨zCw L=E∨zBK L=E∨zLn L=E):zBf K L=E:=by
 unfold zBf;rw [<-zDo,hL];rcases h with h | h | h | h | h<;>rw [h]<;>simp
theorem zQr {K:Int} {L:List Lt} {n:Nat} (hL:L.length=n) (h1:zAE K L=Q) (h2:(isP (la L 0)&&decide (pN L n % 2=0))=Q) (h3:zCw L=Q) (h4:zBK L=Q) (h5:zLn L=Q):zBf K L=Q:=by
 unfold zBf;rw [<-zDo,hL,h1,h2,h3,h4,h5];rfl
theorem DiaR.grown {w w':ZY} {base p k:Nat} {A:Option Addr} {n c:Nat} {L:List Lt} {v5 v5':Value} {g2 g3 g4 g6:Nat} {s:List Bool} {P C:List Int} (h:DiaR w base p k A n c L v5 g2 g3 g4 g6 s P C) (hb:p < base) (hg:w.grownBy w' (Z p))
  (hd:Dia w' p (k:Int) A n c (H (Z ⟨g2,0,U⟩) n n) (.slice (Z ⟨g3,0,U⟩) (axL L).length (axL L).length) (H (Z ⟨g4,0,U⟩) n n) v5' (H (Z ⟨g6,0,U⟩) (k+1) (k+1))):DiaR w' base p k A n c L v5' g2 g3 g4 g6 s P C :=
 ⟨hd,h.down.kept hg (by have:=h.down.base;simp;omega),h.axis.kept hg (by have:=h.axis.base;simp;omega),h.place.kept hg (by have:=h.place.base;simp;omega),h.count.kept hg (by have:=h.count.base;simp;omega),h.downs,h.places,h.counts,h.ndown⟩
theorem zKV (p k:Nat) (A:Option Addr) (n c:Nat) (L:List Lt) (v2 v3 v4 v5 v6:Value) (w:ZY) (hA:Lets w A n L) (hn:n<=400) (kU:k<=40)
  (iF:0 < n->∀a,A=Z a->p≠a.block) (hd:Dia w p (k:Int) A n c v2 v3 v4 v5 v6) :
  Calls ZX 142 #[.pointer (Z ⟨p,0,U⟩)] w (zKU w p k A n c L v2 v3 v4 v5 v6):=by
 have cH:=hA.len;have tw:=qH cH;have c1:=hd.c1;have hplt:=hd.lt;rcases Nat.eq_zero_or_pos n with h0 | h0
 ·subst h0;clear cH;go_enter Tryz.func142,Tryz.ntmps142;go_wp2_with fail
  go_ret;exact ⟨rfl,World.grownBy.refl _ _,fun _=>hd,fun h=>by omega⟩
 ·have nM:((n:Int)==0)=E:=by simp;omega
  have iF:=iF h0;have hdn:decide (n=0)=E:=by simp;omega
  have FI:Blk (w.alloc (.cells (zIM p) 26)) w.heap.size 26 (zIM p):=Blk.new _ _ _;have FD:=hd.alloc (.cells (zIM p) 26);have tj:w.grownBy (w.alloc (.cells (zIM p) 26)) (Z p):=World.grownBy_alloc _ _ _;clear cH;unfold zKU;rw [hdn,Bool.false_or];go_enter Tryz.func142,Tryz.ntmps142;go_wp2_with fail
  go_loopw [4,24] (fun _ v24 wr=>∃i:Nat,i<=5/\v24=D J i/\VS w p k A n c L v2 v3 v4 v5 v6 i wr/\w.grownBy wr (Z p)/\Blk wr w.heap.size 26 (zIM p)) (fun _ v24 _=>5-(intOf v24).toNat)
  case atStart=>exact ⟨0,by omega,rfl,.inl ⟨rfl,FD⟩,tj,FI⟩
  case round =>
   obtain ⟨i,hi,rfl,hV,hg,hB⟩:=hrel;clear FI FD tj hd c1;have ft:=hA.growG hg (fun a ha e=>iF a ha (by injection e));have hsz:=hg.size;obtain ⟨e0,e1,e2,e3,e4⟩:=cQ5 hB;rcases hV with ⟨rfl,hD⟩ | ⟨rfl,t1,hD⟩ | ⟨rfl,t1,t2,hD⟩ | ⟨rfl,t1,t2,t3,base,g2,g3,g4,g6,s,P,C,hbase,hR⟩ | ⟨rfl,t1,t2,t3,t4,base,b,g2,g3,g4,g6,s,P,C,ids,hbase,hF⟩ | ⟨rfl,tv,base,b,g2,g3,g4,g6,s,P,C,ids,hbase,hF⟩
   ·clear e1 e2 e3 e4
    cases hx:zAE (k:Int) L with
    | true =>
     have HX:=qH hx;go_wp2_with fail
     refine (zHL p (k:Int) A n c L _ _ _ _ _ _ ft hD).mono ?_;rintro e w1 ⟨rfl,ay⟩;have wI:=hD.next ay;have iT:=hB.below ay hB.lt;have dX:=zAq hg ay hg.size;rw [hx];clear hx hD hB hg;go_wp2_with fail
     go_roundw
     case rel=>exact ⟨1,by omega,by go_num,.inr (.inl ⟨rfl,HX.out,wI⟩),dX,iT⟩
     case measure=>simp [intOf]
    | false =>
     have HX:=qH (zFB tw.out (.inl hx));go_wp2_with fail
     refine (zHL p (k:Int) A n c L _ _ _ _ _ _ ft hD).mono ?_;rintro e w1 ⟨rfl,ay⟩;have dX:=zAq hg ay hg.size;rw [hx];clear hx hD hB hg;go_wp2_with fail
     go_ret;exact ⟨zAm HX.out.symm,dX,fun h=>by omega,fun _ h=>by rw [HX.out] at h;cases h⟩
   ·clear e0 e2 e3 e4;have T1:=qH t1;clear t1
    cases hx:(isP (la L 0)&&decide (pN L n % 2=0)) with
    | true =>
     have HX:=qH hx;go_wp2_with fail
     refine (zIK p (k:Int) A n c L _ _ _ _ _ _ ft h0 hD).mono ?_;rintro e w1 ⟨rfl,ay⟩;have wI:=hD.next ay;have iT:=hB.below ay hB.lt;have dX:=zAq hg ay hg.size;rw [hx];clear hx hD hB hg;go_wp2_with fail
     go_roundw
     case rel=>exact ⟨2,by omega,by go_num,.inr (.inr (.inl ⟨rfl,T1.out,HX.out,wI⟩)),dX,iT⟩
     case measure=>simp [intOf]
    | false =>
     have HX:=qH (zFB (K:=(k:Int)) tw.out (.inr (.inl hx)));go_wp2_with fail
     refine (zIK p (k:Int) A n c L _ _ _ _ _ _ ft h0 hD).mono ?_;rintro e w1 ⟨rfl,ay⟩;have dX:=zAq hg ay hg.size;rw [hx];clear hx hD hB hg;go_wp2_with fail
     go_ret;exact ⟨zAm HX.out.symm,dX,fun h=>by omega,fun _ h=>by rw [HX.out] at h;cases h⟩
   ·clear e0 e1 e3 e4;have T1:=qH t1;have T2:=qH t2;clear t1 t2
    cases hx:zCw L with
    | true =>
     have HX:=qH hx;go_wp2_with fail
     refine (zKT p k A n c L _ _ _ _ _ _ ft hn kU T1.out iF hD).mono ?_;rintro e w1 ⟨rfl,dX,hr⟩;have iT:=hB.grown dX (by simp;omega);have dr:=zAb hg dX;obtain ⟨g2,g3,g4,g6,s,P,C,hR⟩:=hr hx;rw [hx];clear hx hD hB hg hr;go_wp2_with fail
     go_roundw
     case rel=>exact ⟨3,by omega,by go_num,.inr (.inr (.inr (.inl ⟨rfl,T1.out,T2.out,HX.out,_,g2,g3,g4,g6,s,P,C,hsz,hR⟩))),dr,iT⟩
     case measure=>simp [intOf]
    | false =>
     have HX:=qH (zFB (K:=(k:Int)) tw.out (.inr (.inr (.inl hx))));go_wp2_with fail
     refine (zKT p k A n c L _ _ _ _ _ _ ft hn kU T1.out iF hD).mono ?_;rintro e w1 ⟨rfl,dX,hr⟩;have dr:=zAb hg dX;rw [hx];clear hx hD hB hg hr;go_wp2_with fail
     go_ret;exact ⟨zAm HX.out.symm,dr,fun h=>by omega,fun _ h=>by rw [HX.out] at h;cases h⟩
   ·clear e0 e1 e2 e4;have T1:=qH t1;have T2:=qH t2;have T3:=qH t3;clear t1 t2 t3;have hD:=hR.dia
    cases hx:zBK L with
    | true =>
     have HX:=qH hx;go_wp2_with fail
     refine (zFA p (k:Int) A n c L _ _ _ _ _ _ ft hn iF hD).mono ?_;rintro e w1 ⟨rfl,dX,hr⟩;have iT:=hB.grown dX (by simp;omega);have dr:=zAb hg dX;obtain ⟨b,ids,hbb,wI,E8⟩:=hr hx;have fL:=hR.grown (by omega) dX wI;have vm:=ft.growG dX (fun a ha e=>iF a ha (by injection e));have jP:DiaF w1 base p k A n c L b g2 g3 g4 g6 s P C ids:=⟨fL,E8,vm,zFe (by rw [tw.out];exact h0) (by have:=T2.out;simp at this;exact this.1) (by have:=T2.out;simp at this;rw [tw.out];exact this.2) T1.out T3.out HX.out,hn⟩;rw [hx];clear hx hD hB hg hr wI E8 fL vm hR;go_wp2_with fail
     go_roundw
     case rel=>exact ⟨4,by omega,by go_num,.inr (.inr (.inr (.inr (.inl ⟨rfl,T1.out,T2.out,T3.out,HX.out,base,b,g2,g3,g4,g6,s,P,C,ids,hbase,jP⟩)))),dr,iT⟩
     case measure=>simp [intOf]
    | false =>
     have HX:=qH (zFB (K:=(k:Int)) tw.out (.inr (.inr (.inr (.inl hx)))));go_wp2_with fail
     refine (zFA p (k:Int) A n c L _ _ _ _ _ _ ft hn iF hD).mono ?_;rintro e w1 ⟨rfl,dX,hr⟩;have dr:=zAb hg dX;rw [hx];clear hx hD hB hg hr hR;go_wp2_with fail
     go_ret;exact ⟨zAm HX.out.symm,dr,fun h=>by omega,fun _ h=>by rw [HX.out] at h;cases h⟩
   ·clear e0 e1 e2 e3;have T1:=qH t1;have T2:=qH t2;have T3:=qH t3;have T4:=qH t4;clear t1 t2 t3 t4
    cases hx:zLn L with
    | true =>
     have HX:=qH (zQr tw.out T1.out T2.out T3.out T4.out hx);go_wp2_with fail
     refine (zNb base p k A n c L b g2 g3 g4 g6 s P C ids _ hF).mono ?_;rintro e w1 ⟨rfl,ay⟩;have jP:=hF.next ay;have iT:=hB.below ay hB.lt;have dX:=zAq hg ay hg.size;rw [hx];clear hx hB hg hF;go_wp2_with fail
     go_roundw
     case rel=>exact ⟨5,by omega,by go_num,.inr (.inr (.inr (.inr (.inr ⟨rfl,HX.out,base,b,g2,g3,g4,g6,s,P,C,ids,hbase,jP⟩)))),dX,iT⟩
     case measure=>simp [intOf]
    | false =>
     have HX:=qH (zFB (K:=(k:Int)) tw.out (.inr (.inr (.inr (.inr hx)))));go_wp2_with fail
     refine (zNb base p k A n c L b g2 g3 g4 g6 s P C ids _ hF).mono ?_;rintro e w1 ⟨rfl,ay⟩;have dX:=zAq hg ay hg.size;rw [hx];clear hx hB hg hF;go_wp2_with fail
     go_ret;exact ⟨zAm HX.out.symm,dX,fun h=>by omega,fun _ h=>by rw [HX.out] at h;cases h⟩
   ·have TV:=qH tv;clear tv e0 e1 e2 e3 e4;go_wp2_with fail
    go_ret;exact ⟨zAm TV.out.symm,hg,fun h=>by omega,fun _ _=>⟨base,b,g2,g3,g4,g6,s,P,C,ids,hbase,hF⟩⟩
def zWZ (w:ZY) (K:Int) (A:Option Addr) (n c:Nat) (L:List Lt) (p:Nat) (w':ZY):Prop :=
 ∃k:Nat,K=(k:Int)/\k<=40/\n<=400/\w.heap.size<=p /\
  ((n=0/\Dia w' p K A n c (H U 0 0) (H U 0 0) (H U 0 0) (.map U) (H U 0 0))∨(0 < n/\∃base b g2 g3 g4 g6 s P C ids,w.heap.size<=base/\DiaF w' base p k A n c L b g2 g3 g4 g6 s P C ids))
def zSu (w:ZY) (K:Int) (A:Option Addr) (n c:Nat) (L:List Lt) (e:Ending) (w':ZY):Prop :=
 ∃v,e=.returned (.tuple #[v,D J (zBr K L)])/\ZZ w.heap.size w w'/\(zBr K L=0->∃p,v=.pointer (Z ⟨p,0,U⟩)/\zWZ w K A n c L p w')
theorem zXa {K:Int} {L:List Lt} (h:400 < L.length∨200 < cN L L.length):zBr K L=7:=by unfold zBr;rw [qP h]
theorem zYm {K:Int} {L:List Lt} (h:¬(400 < L.length∨200 < cN L L.length)) (h2:K < 0∨40 < K):zBr K L=2:=by unfold zBr;rw [qN h,qP h2]
theorem zYn {K:Int} {L:List Lt} {n:Nat} (hL:L.length=n) (h:¬(400 < L.length∨200 < cN L L.length)) (h2:¬(K < 0∨40 < K)):zBr K L=if (decide (n=0)||zBf K L)=Q then 0 else 3:=by
 unfold zBr;rw [qN h,qN h2];subst hL;by_cases h3:L.length=0
 ·rw [qP h3,qP (by simp [h3])]
 ·rw [qN h3]
  cases zBf K L<;>simp [h3]
theorem zQs (K:Int) (A:Option Addr) (n c:Nat) (L:List Lt) (w:ZY) (hA:Lets w A n L) :
  Calls ZX 95 #[.agg #[D J K,H A n c]] w (zSu w K A n c L):=by
 have hle:=hA.le;have cH:L.length=n:=hA.len;have hbx:=Boxed.refl w K A n c;by_cases h400:400 < n
 ·have hf:=qH (zXa (K:=K) (L:=L) (.inl (by omega)));have q:(400:Int) < (n:Int):=by omega
  clear cH;go_enter Tryz.func95,Tryz.ntmps95;go_wp2_with fail
  go_ret2;exact ⟨.pointer U,by rw [hf.out];rfl,hbx.below,fun h=>by rw [hf.out] at h;cases h⟩
 ·have q:decide ((400:Int) < (n:Int))=E:=by simp;omega
  by_cases h200:200 < cN L n
  ·have hf:=qH (zXa (K:=K) (L:=L) (.inr (by rw [cH];exact h200)));have q2:(200:Int) < (cN L n:Int):=by omega
   clear cH;go_enter Tryz.func95,Tryz.ntmps95;go_wp2_with fail
   refine (zBB K A n c L _ (hA.below hbx.below)).mono ?_;rintro e w1 ⟨rfl,ay⟩;have ai:=hbx.more ay;go_wp2_with fail
   go_ret2;exact ⟨.pointer U,by rw [hf.out];rfl,ai.below,fun h=>by rw [hf.out] at h;cases h⟩
  ·have q2:decide ((200:Int) < (cN L n:Int))=E:=by simp;omega
   have hno:¬(400 < L.length∨200 < cN L L.length):=by rw [cH];omega
   by_cases hK:K < 0∨40 < K
   ·have hf:=qH (zYm (K:=K) (L:=L) hno hK);have hall:K < 0∨(decide (K < 0)=E/\40 < K):=by simp;omega
    clear hK cH hno;rcases hall with k1 | ⟨k1,k2⟩
    all_goals
     go_enter Tryz.func95,Tryz.ntmps95;go_wp2_with fail
     refine (zBB K A n c L _ (hA.below hbx.below)).mono ?_;rintro e w1 ⟨rfl,ay⟩;have ai:=hbx.more ay;have x0:=ai.c0;have x1:=ai.c1;go_wp2_with fail
     go_ret2;exact ⟨.pointer U,by rw [hf.out];rfl,ai.below,fun h=>by rw [hf.out] at h;cases h⟩
   ·have k1:decide (K < 0)=E:=by simp;omega
    have k2:decide (40 < K)=E:=by simp;omega
    have hf:=zYn cH hno hK;obtain ⟨k,rfl⟩:∃k:Nat,K=(k:Int):=⟨K.toNat,by omega⟩
    have kU:k<=40:=by omega
    clear hno hK cH
    cases hv:(decide (n=0)||zBf (k:Int) L) with
    | true =>
     rw [hv,qP rfl] at hf;have HF:=qH hf;have HV:=qH hv;clear hf hv;go_enter Tryz.func95,Tryz.ntmps95;go_wp2_with fail
     refine (zBB (k:Int) A n c L _ (hA.below hbx.below)).mono ?_;rintro e w1 ⟨rfl,ay⟩;have ai:=hbx.more ay;have x0:=ai.c0;have x1:=ai.c1;have vw:=hA.below ai.below;have nz:=ai.size;have iF:0 < n->∀a,A=Z a->w1.heap.size≠a.block:=fun hn a ha=>by
      obtain ⟨g,o,e,hg,_⟩:=vw.2.2.2 hn;rw [ha] at e;injection e with e
      subst e;simp;omega
     have jV:=qH iF;clear iF;go_wp2_with fail
     refine (zKV w1.heap.size k A n c L (H U 0 0) (H U 0 0) (H U 0 0) (.map U) (H U 0 0) _ (vw.alloc _) (by omega) kU jV.out (Blk.new w1 _ _)).mono ?_;rintro e w2 ⟨rfl,dr,hz,pl⟩;have h5:ZZ w1.heap.size w1 w2:=((M _ _).alloc (O _) _).trans (zBM dr (O _) (by simp));have h6:=zAa ai.below h5 (by omega);rw [HV.out];have HZ:=qH hz;have G2:=qH pl;clear x0 x1 ai ay hbx dr hz pl vw h5;go_wp2_with fail
     go_ret2;refine ⟨.pointer (Z ⟨w1.heap.size,0,U⟩),by rw [HF.out];rfl,h6,fun _=>⟨w1.heap.size,rfl,k,rfl,kU,by omega,by omega,?_⟩⟩;rcases Nat.eq_zero_or_pos n with h0 | h0
     ·exact .inl ⟨h0,HZ.out h0⟩
     ·have hv:=HV.out;rw [show decide (n=0)=E by simp;omega,Bool.false_or] at hv;obtain ⟨base,b,g2,g3,g4,g6,s,P,C,ids,hbase,hF⟩:=G2.out h0 hv;have hsz:(w1.alloc (.cells #[D J (k:Int),H A n c,H U 0 0,H U 0 0,H U 0 0,.map U,H U 0 0] 148)).heap.size=w1.heap.size+1:=by simp
      exact .inr ⟨h0,base,b,g2,g3,g4,g6,s,P,C,ids,by omega,hF⟩
    | false =>
     rw [hv] at hf;have HF:=qH (show zBr (k:Int) L=3 from hf);have HV:=qH hv;clear hf hv;go_enter Tryz.func95,Tryz.ntmps95;go_wp2_with fail
     refine (zBB (k:Int) A n c L _ (hA.below hbx.below)).mono ?_;rintro e w1 ⟨rfl,ay⟩;have ai:=hbx.more ay;have x0:=ai.c0;have x1:=ai.c1;have vw:=hA.below ai.below;have nz:=ai.size;have iF:0 < n->∀a,A=Z a->w1.heap.size≠a.block:=fun hn a ha=>by
      obtain ⟨g,o,e,hg,_⟩:=vw.2.2.2 hn;rw [ha] at e;injection e with e
      subst e;simp;omega
     have jV:=qH iF;clear iF;go_wp2_with fail
     refine (zKV w1.heap.size k A n c L (H U 0 0) (H U 0 0) (H U 0 0) (.map U) (H U 0 0) _ (vw.alloc _) (by omega) kU jV.out (Blk.new w1 _ _)).mono ?_;rintro e w2 ⟨rfl,dr,hz,pl⟩;have h5:ZZ w1.heap.size w1 w2:=((M _ _).alloc (O _) _).trans (zBM dr (O _) (by simp));have h6:=zAa ai.below h5 (by omega);rw [HV.out];have HZ:=qH hz;have G2:=qH pl;clear x0 x1 ai ay hbx dr hz pl vw h5;go_wp2_with fail
     go_ret2;exact ⟨.pointer U,by rw [HF.out];rfl,h6,fun h=>by rw [HF.out] at h;cases h⟩
theorem zOi (K:Int) (A:Option Addr) (n c:Nat) (L:List Lt) (w:ZY) (hA:Lets w A n L) :
  Calls ZX 122 #[.agg #[D J K,H A n c]] w fun e w'=>e=.returned (D J (zBr K L))/\ZZ w.heap.size w w':=by
 have hbx:=Boxed.refl w K A n c;have x0:=hbx.c0;have x1:=hbx.c1;go_enter Tryz.func122,Tryz.ntmps122;go_wp2_with fail
 refine (zQs K A n c L _ (hA.below hbx.below)).mono ?_;rintro e w1 ⟨v,rfl,ay,_⟩;have ai:=hbx.more ay;clear x0 x1 hbx ay;go_wp2_with fail
 go_ret;exact ⟨rfl,ai.below⟩
theorem zXY {L:List Lt} {i:Nat} (hp:isP (la L i)=Q):dwn L (i+1) = !dwn L i:=by
 have h:pN L (i+1)=pN L i+1:=zAY hp;unfold dwn;rw [h,Bool.eq_iff_iff];simp;omega
theorem zYo {L:List Lt} {i:Nat} (hp:isP (la L i)=E):dwn L (i+1)=dwn L i:=by
 have h:pN L (i+1)=pN L i:=zAG hp;unfold dwn;rw [h]
section
variable {K:Int} {L:List Lt}
section
variable {X:Nat->Nat}
end
end
def nxL (L:List Lt) (i:Nat):Lt:=la L ((i+1) % L.length)
def neB (L:List Lt) (i:Nat):Bool:=isP (nxL L i)&&((nxL L i).gate-(la L i).gate==1||(la L i).gate-(nxL L i).gate==1)
def poB (L:List Lt) (i:Nat):Bool:=!(isP (la L i)&&dwn L i)||neB L i
def zEA (L:List Lt):Bool:=zGC (poB L) L.length
theorem zMc (l:Lt) (w:ZY):Calls ZX 168 #[.agg #[D J l.kind,D J l.gate,D J l.rank,D J l.id,D J l.sign,G l.over]] w fun e w'=>e=.returned (G (isP l))/\ZZ w.heap.size w w':=by
 have hb:=(M w.heap.size w).alloc (O _) (.cells #[D J l.kind,D J l.gate,D J l.rank,D J l.id,D J l.sign,G l.over] 76);have HR:=qH (show isP l=(l.kind==1) from rfl);rw [HR.out];go_enter Tryz.func168,Tryz.ntmps168;go_wp2_with fail
 go_ret;exact ⟨rfl,hb⟩
theorem zKW {l:Lt} {b:Bool} (h:isP l=b) (w:ZY):Calls ZX 168 #[.agg #[D J l.kind,D J l.gate,D J l.rank,D J l.id,D J l.sign,G l.over]] w fun e w'=>e=.returned (G b)/\ZZ w.heap.size w w':=by
 subst h;exact zMc l w
theorem zOj (K:Int) (A:Option Addr) (n c:Nat) (L:List Lt) (w:ZY) (hA:Lets w A n L) (hn:n<=400) (hg:∀i,i < n->isP (la L i)=Q->0<=(la L i).gate/\(la L i).gate<=40) :
  Calls ZX 130 #[.agg #[D J K,H A n c]] w fun e w'=>e=.returned (G (zEA L))/\ZZ w.heap.size w w':=by
 have cH:L.length=n:=hA.len;have ah:=(M w.heap.size w).alloc (O _) (.cells #[D J K,H A n c] 55);have hk0:Blk (w.alloc (.cells #[D J K,H A n c] 55)) w.heap.size 55 #[D J K,H A n c]:=Blk.new _ _ _;have o9:(w.alloc (.cells #[D J K,H A n c] 55)).cell? ⟨w.heap.size,1,U⟩=Z (H A n c):=(hk0.cell 1).trans rfl;have HN:=qH cH;have HG:=qH hg;clear cH hg;go_enter Tryz.func130,Tryz.ntmps130;go_wp2_with fail
 generalize w.alloc (.cells #[D J K,H A n c] 55)=Y at ah hk0 o9 ⊢;go_loopw [3,10] (fun v3 lU wr=>∃(i:Nat) (X:ZY),X=wr/\i<=n/\lU=D J i/\v3=G (!dwn L i)/\ZZ Y.heap.size Y X/\Hid (∀j,j < i->poB L j=Q)) (fun _ lU _=>n-(intOf lU).toNat)
 case atStart=>exact ⟨0,_,rfl,by omega,rfl,rfl,M _ _,qH (fun j hj=>by omega)⟩
 case round =>
  obtain ⟨i,X,hX,hi,rfl,rfl,hb,HS⟩:=hrel;subst hX;have lc:=(hA.below ah).below hb;by_cases hlt:i < n
  ·have j0:(0:Int)<=(i:Int):=by omega
   have j1:(i:Int) < (n:Int):=by omega
   obtain ⟨g,o,rfl,hgl,hat,hok⟩:=lc.at_ hlt;have x0:=hat.kind;have x1:=hat.gate;have x2:=hat.rank;have x3:=hat.id;have x4:=hat.sign;have x5:=hat.over;obtain ⟨b,hbp⟩:∃b,isP (la L i)=b:=⟨_,rfl⟩
   have vT:=qH (fun wx=>zKW hbp wx);have bD:=(M X.heap.size X).alloc (O _) (.cells #[D J (la L i).kind,D J (la L i).gate,D J (la L i).rank,D J (la L i).id,D J (la L i).sign,G (la L i).over] 76);have AA:Blk (X.alloc (.cells #[D J (la L i).kind,D J (la L i).gate,D J (la L i).rank,D J (la L i).id,D J (la L i).sign,G (la L i).over] 76)) X.heap.size 76 #[D J (la L i).kind,D J (la L i).gate,D J (la L i).rank,D J (la L i).id,D J (la L i).sign,G (la L i).over]:=Blk.new _ _ _;have uV:=zAa hb bD hb.size;go_wp2_with fail
   clear x0 x1 x2 x3 x4 x5;generalize X.alloc (.cells #[D J (la L i).kind,D J (la L i).gate,D J (la L i).rank,D J (la L i).id,D J (la L i).sign,G (la L i).over] 76)=X2 at bD AA uV ⊢;refine (vT.out X2).mono ?_;rintro e X3 ⟨rfl,al⟩;have nH:=zAa uV al uV.size;have pY:=AA.below al AA.lt;generalize X.heap.size=b5 at pY ⊢;clear bD AA uV al hat;have HBP:=qH hbp
   cases b with
   | false =>
    have hd1:dwn L (i+1)=dwn L i:=zYo hbp
    have ie:=qH (show ∀j,j < i+1->poB L j=Q from fun j hj=>by
     rcases Nat.decEq j i with e | e
     ·exact HS.out j (by omega)
     ·rw [e];unfold poB;rw [hbp];rfl)
    have HD:=qH hd1;clear hbp hd1 hok pY lc hb;go_wp2_with fail
    go_roundw
    case rel=>exact ⟨i+1,_,rfl,by omega,by go_num,by rw [HD.out],nH,ie⟩
    case measure=>simp [intOf];omega
   | true =>
    have hd1:dwn L (i+1) = !dwn L i:=zXY hbp;have HD:=qH hd1;have hgi:=HG.out i hlt hbp;obtain ⟨t,ht⟩:∃t,t=(i+1) % n:=⟨_,rfl⟩
    have htn:t < n:=by rw [ht];exact Nat.mod_lt _ (by omega)
    obtain ⟨g',o',he,hgl',hat',hok'⟩:=lc.at_ htn;injection he with he
    injection he with he1 he2
    subst he1;subst he2;have gQ:=qH (show nxL L i=la L t by unfold nxL;rw [HN.out,<-ht]);have hgt:=HG.out t htn;have cu:=hk0.below nH hk0.lt;have vx:=(hA.below ah).below nH;have c3:X3.cell? ⟨w.heap.size,1,U⟩=Z (H (Z ⟨g,o,U⟩) n c):=(cu.cell 1).trans rfl;obtain ⟨y0,y1,y2,y3,y4,y5⟩:=(vx.also htn).1;have q3:((i:Int)+1) % (n:Int)=(t:Int):=by rw [ht];simp
    have jo:((i:Int)+1).tmod (n:Int)=(t:Int):=by rw [Int.tmod_eq_emod_of_nonneg (by omega)];exact q3
    have jn:IntKind.i64.wrap ((i:Int)+1)=(i:Int)+1:=IntWalk.i64_in _ (by omega);have jm:IntKind.i64.wrap (t:Int)=(t:Int):=IntWalk.i64_in _ (by omega);have EH:¬n=0:=by omega
    have q4:(0:Int)<=(t:Int):=by omega
    have q5:(t:Int) < (n:Int):=by omega
    have bN:=(M X3.heap.size X3).alloc (O _) (.cells #[D J (la L t).kind,D J (la L t).gate,D J (la L t).rank,D J (la L t).id,D J (la L t).sign,G (la L t).over] 76);have kN:Blk (X3.alloc (.cells #[D J (la L t).kind,D J (la L t).gate,D J (la L t).rank,D J (la L t).id,D J (la L t).sign,G (la L t).over] 76)) X3.heap.size 76 #[D J (la L t).kind,D J (la L t).gate,D J (la L t).rank,D J (la L t).id,D J (la L t).sign,G (la L t).over]:=Blk.new _ _ _;have lN:=pY.below bN pY.lt;have qz:=zAa nH bN nH.size;obtain ⟨d,hd⟩:∃d,dwn L i=d:=⟨_,rfl⟩
    rw [hd] at hd1 HD ⊢;have uc:=qH hd;have bZ:=(M X3.heap.size X3).alloc (O _) (.cells #[D J 0,D J 0,D J 0,D J 0,D J 0,G E] 76);have c3z:(X3.alloc (.cells #[D J 0,D J 0,D J 0,D J 0,D J 0,G E] 76)).cell? ⟨w.heap.size,1,U⟩=Z (H (Z ⟨g,o,U⟩) n c):=((cu.below bZ cu.lt).cell 1).trans rfl;obtain ⟨z0,z1,z2,z3,z4,z5⟩:=((vx.below bZ).also htn).1;clear ht hbp hd1 hok lc hb hd bZ;go_upto_region 7 with fail
    go_region
    clear c3 c3z y0 y1 y2 y3 y4 y5 z0 z1 z2 z3 z4 z5 q3 jo jn jm EH q4 q5 cu vx pY bN;generalize X3.alloc (.cells #[D J (la L t).kind,D J (la L t).gate,D J (la L t).rank,D J (la L t).id,D J (la L t).sign,G (la L t).over] 76)=X4 at kN lN qz ⊢;generalize X3.heap.size=b6 at kN ⊢;have kN:=kN.drew;have lN:=lN.drew;have qz:=qz.drew;generalize X4.drew=X5 at kN lN qz ⊢;obtain ⟨f0,f1,f2,f3,f4,f5⟩:=cQ6 kN
    cases d with
    | false =>
     have hp1:poB L i=Q:=by unfold poB;rw [uc.out,Bool.and_false];rfl
     have ie:=qH (show ∀j,j < i+1->poB L j=Q from fun j hj=>by
      rcases Nat.decEq j i with e | e
      ·exact HS.out j (by omega)
      ·rw [e];exact hp1)
     clear hp1 HS;go_wp2_with fail
     go_roundw
     case rel=>exact ⟨i+1,_,rfl,by omega,by go_num,by rw [HD.out];rfl,qz,ie⟩
     case measure=>simp [intOf];omega
    | true =>
     obtain ⟨p,hp⟩:∃p,isP (la L t)=p:=⟨_,rfl⟩
     have vS:=qH (fun wx=>zKW hp wx);have hpe:poB L i=(p&&((la L t).gate-(la L i).gate==1||(la L i).gate-(la L t).gate==1)):=by
      unfold poB neB;rw [uc.out,HBP.out,gQ.out,hp];rfl
     have DH:=qH hpe;have HP:=qH hp;clear hpe hp
     cases p with
     | false =>
      have HF:=qH (show zEA L=E from zEX (by rw [HN.out];exact hlt) (by rw [DH.out];rfl));clear HS;go_wp2_with fail
      refine (vS.out X5).mono ?_;rintro e X6 ⟨rfl,aM⟩;have hbw:=zAa ah (zAa qz aM qz.size) ah.size;clear f0 f1 f2 f3 f4 f5 aM;go_wp2_with fail
      go_ret;exact ⟨by rw [HF.out];rfl,hbw⟩
     | true =>
      have Ch:=hgt HP.out;obtain ⟨x,hx⟩:∃x,(la L i).gate=x:=⟨_,rfl⟩
      obtain ⟨y,hy⟩:∃y,(la L t).gate=y:=⟨_,rfl⟩
      have Do:=qH (show poB L i=(y-x==1||x-y==1) by rw [DH.out,hx,hy];rfl);rw [hx] at hgi lN;rw [hy] at Ch f1 kN;clear hgt DH;have AT:∀q,q=(y-x==1||x-y==1)->q=E->Hid (zEA L=E):=fun q h1 h2=>qH (zEX (by rw [HN.out];exact hlt) (by rw [Do.out,<-h1,h2]))
      have G5:=qH AT
      have ie:=qH (show ∀q,q=(y-x==1||x-y==1)->q=Q->∀j,j < i+1->poB L j=Q from fun q h1 h2 j hj=>by
       rcases Nat.decEq j i with e | e
       ·exact HS.out j (by omega)
       ·rw [e,Do.out,<-h1,h2])
      have vR:=qH (vS.out X5);rw [hy] at vR;clear AT HS hx hy Do vS;go_wp2_with fail
      refine vR.out.mono ?_;rintro e X6 ⟨rfl,aM⟩;have Cp:=zAa qz aM qz.size;have hbw:=zAa ah Cp ah.size;have k6:=kN.below aM kN.lt;have l6:=lN.below aM lN.lt;clear f0 f1 f2 f3 f4 f5 aM kN lN vR;have f1:X6.cell? ⟨b6,1,U⟩=Z (D J y):=(k6.cell 1).trans rfl;have g1:X6.cell? ⟨b5,1,U⟩=Z (D J x):=(l6.cell 1).trans rfl;have w1:wrap64 (y-x)=y-x:=by unfold wrap64;omega
      have w2:wrap64 (x-y)=x-y:=by unfold wrap64;omega
      have w3:IntKind.i64.wrap (y-x)=y-x:=IntWalk.i64_in _ (by omega);have w4:IntKind.i64.wrap (x-y)=x-y:=IntWalk.i64_in _ (by omega);clear k6 l6;by_cases c1:y-x=1
      ·have d1:(y-x != 1)=E:=by simpa using c1
       have DC:=qH (ie.out Q (by simp [c1]) rfl);clear c1 ie;go_wp2_with fail
       go_roundw
       case rel=>exact ⟨i+1,_,rfl,by omega,by go_num,by rw [HD.out];rfl,Cp,DC⟩
       case measure=>simp [intOf];omega
      ·have d1:(y-x != 1)=Q:=by simpa using c1
       by_cases c2:x-y=1
       ·have d2:(x-y != 1)=E:=by simpa using c2
        have DC:=qH (ie.out Q (by simp [c2]) rfl);clear c1 c2 ie;go_wp2_with fail
        go_roundw
        case rel=>exact ⟨i+1,_,rfl,by omega,by go_num,by rw [HD.out];rfl,Cp,DC⟩
        case measure=>simp [intOf];omega
       ·have d2:(x-y != 1)=Q:=by simpa using c2
        have HF:=G5.out E (by simp [c1,c2]) rfl;clear c1 c2 ie G5;go_wp2_with fail
        go_ret;exact ⟨by rw [HF.out];rfl,hbw⟩
  ·have j1:¬(i:Int) < (n:Int):=by omega
   have hr:=qH (show zEA L=Q by
    unfold zEA
    rw [HN.out]
    exact zAL.2 (fun j hj=>HS.out j (by omega)))
   have hbw:=zAa ah hb ah.size;clear hlt HS lc hb;go_wp2_with fail
   go_ret;exact ⟨by rw [hr.out];rfl,hbw⟩
structure Tame (K:Int) (L:List Lt):Prop where
 lo:0<=K
 hi:K<=40
 len:L.length<=400
 pass:∀i,i < L.length->isP (la L i)=Q->0<=(la L i).gate/\(la L i).gate<=K/\1<=(la L i).rank/\(la L i).rank<=400
 kinds:∀i,i < L.length->isP (la L i)=Q∨isC (la L i)=Q
 sign:∀i,i < L.length->isC (la L i)=Q->(la L i).sign=1∨(la L i).sign = -1
theorem zHN {K:Int} {L:List Lt} (h:zBr K L=0):0<=K/\K<=40/\L.length<=400/\(L.length=0∨zBf K L=Q):=by
 unfold zBr at h;by_cases h1:400 < L.length∨200 < cN L L.length
 ·rw [qP h1] at h;cases h
 ·rw [qN h1] at h;by_cases h2:K < 0∨40 < K
  ·rw [qP h2] at h;cases h
  ·rw [qN h2] at h;by_cases h3:L.length=0
   ·exact ⟨by omega,by omega,by omega,.inl h3⟩
   ·rw [qN h3] at h
    cases hv:zBf K L with
    | true=>exact ⟨by omega,by omega,by omega,.inr rfl⟩
    | false=>rw [hv] at h;cases h
theorem zFC {K:Int} {L:List Lt} (h:zBr K L=0):Tame K L:=by
 obtain ⟨h1,h2,h3,h4⟩:=zHN h;rcases h4 with h4 | h4
 ·exact ⟨h1,h2,h3,fun i hi=>by omega,fun i hi=>by omega,fun i hi=>by omega⟩
 ·rcases Nat.eq_zero_or_pos L.length with h0 | h0
  ·exact ⟨h1,h2,h3,fun i hi=>by omega,fun i hi=>by omega,fun i hi=>by omega⟩
  ·have g:=zFf h0 h4;refine ⟨h1,h2,h3,fun i hi hp=>?_,g.kinds,fun i hi hc=>?_⟩
   ·have a1:=g.gates i hi hp;have a2:=g.rank hp;have a3:gN L (la L i).gate L.length<=L.length:=zCS _ _;omega
   ·unfold zBf at h4;rw [<-zDo] at h4;simp only [Bool.and_eq_true] at h4;have h5:=h4.1.2.1.1;unfold zAE at h5;have h6:=zAL.1 h5 i hi;have k2:(la L i).kind=2:=by unfold isC at hc;simpa using hc
    unfold lpB at h6;rw [qN (by omega),qP k2] at h6;simp only [decide_eq_true_eq] at h6;exact h6.2.2
def zCH (F:List Fg) (re lo K:Int) (L:List Lt):Bool:=frB F re lo&&(zBr K L==0)&&(K==(F.length:Int))&&zEA L
def zDh (F:List Fg) (re lo K:Int) (L:List Lt):Int:=if frB F re lo=E then 2 else if zBr K L≠0 then zBr K L else if zCH F re lo K L then 0 else 2
theorem zNc {K ZQ:Int} {A:Option Addr} {n c:Nat} {L:List Lt} (h:zBr K L=ZQ) (w:ZY) (hA:Lets w A n L):Calls ZX 122 #[.agg #[D J K,H A n c]] w fun e w'=>e=.returned (D J ZQ)/\ZZ w.heap.size w w':=by
 subst h;exact zOi K A n c L w hA
theorem zSv {K:Int} {A:Option Addr} {n c:Nat} {L:List Lt} {b:Bool} (h:zEA L=b) (w:ZY) (hA:Lets w A n L) (h0:zBr K L=0):Calls ZX 130 #[.agg #[D J K,H A n c]] w fun e w'=>e=.returned (G b)/\ZZ w.heap.size w w':=by
 have ht:=zFC h0;have hl:=hA.len;subst h;exact zOj K A n c L w hA (by have:=ht.len;omega) (fun i hi hp=>by have:=ht.pass i (by omega) hp;have:=ht.hi;omega)
theorem zOk (A:Option Addr) (n c:Nat) (F:List Fg) (re lo K:Int) (B:Option Addr) (m d:Nat) (L:List Lt) (w:ZY) (hA:Fgs w A n F) (hc:n<=c) (hB:Lets w B m L) :
  Calls ZX 83 #[frV A n c re lo,.agg #[D J K,H B m d]] w fun e w'=>e=.returned (G (zCH F re lo K L))/\ZZ w.heap.size w w':=by
 have ah:ZZ w.heap.size w ((w.alloc (.cells #[H A n c,D J re,D J lo] 24)).alloc (.cells #[D J K,H B m d] 55)):=((M _ _).alloc (O _) _).alloc (by simp) _;have hk0:Blk ((w.alloc (.cells #[H A n c,D J re,D J lo] 24)).alloc (.cells #[D J K,H B m d] 55)) w.heap.size 24 #[H A n c,D J re,D J lo]:=(Blk.new w _ _).alloc _;have aq:Blk ((w.alloc (.cells #[H A n c,D J re,D J lo] 24)).alloc (.cells #[D J K,H B m d] 55)) (w.heap.size+1) 55 #[D J K,H B m d]:=heap_alloc2_new w _ _;have AS:=hA.len;obtain ⟨v,hv⟩:∃v,frB F re lo=v:=⟨_,rfl⟩
 have HV:=qH (fun wx (hx:Fgs wx A n F)=>zFc hv A n c wx hx hc);have HR:=qH (show zCH F re lo K L=(v&&(zBr K L==0)&&(K==(n:Int))&&zEA L) by unfold zCH;rw [hv,AS]);rw [HR.out];clear hv AS
 cases v with
 | false =>
  go_enter Tryz.func83,Tryz.ntmps83;go_wp2_with fail
  generalize ((w.alloc (.cells #[H A n c,D J re,D J lo] 24)).alloc (.cells #[D J K,H B m d] 55))=Y at ah hk0 aq ⊢;refine (HV.out _ (hA.below ah)).mono ?_;rintro e Y2 ⟨rfl,ai⟩;have al:=zAa ah ai ah.size;clear ai hk0 aq;go_wp2_with fail
  go_ret;exact ⟨rfl,al⟩
 | true =>
  obtain ⟨ZQ,hE⟩:∃ZQ,zBr K L=ZQ:=⟨_,rfl⟩
  have HC:=qH (fun wx (hx:Lets wx B m L)=>zNc (c:=d) hE wx hx);rw [hE];have HE:=qH hE;clear hE HR;by_cases h0:ZQ=0
  ·subst h0;by_cases hK:K=(n:Int)
   ·have q1:(K==(n:Int))=Q:=by simpa using hK
    obtain ⟨p,hp⟩:∃p,zEA L=p:=⟨_,rfl⟩
    have HP:=qH (fun wx (hx:Lets wx B m L)=>zSv (c:=d) hp wx hx HE.out);rw [hp];clear hp hK;go_enter Tryz.func83,Tryz.ntmps83;go_wp2_with fail
    generalize ((w.alloc (.cells #[H A n c,D J re,D J lo] 24)).alloc (.cells #[D J K,H B m d] 55))=Y at ah hk0 aq ⊢;refine (HV.out _ (hA.below ah)).mono ?_;rintro e Y2 ⟨rfl,ai⟩;have al:=zAa ah ai ah.size;have k2:=hk0.below ai hk0.lt;have k3:=aq.below ai aq.lt;clear ai hk0 aq;obtain ⟨c0,c1⟩:=cQ2 k3;go_wp2_with fail
    refine (HC.out _ (hB.below al)).mono ?_;rintro e Y3 ⟨rfl,bh⟩;have az:=zAa al bh al.size;have k4:=k2.below bh k2.lt;have k5:=k3.below bh k3.lt;clear bh k2 k3 c0 c1 al;obtain ⟨c0,c1⟩:=cQ2 k5;have c2:Y3.cell? ⟨w.heap.size,0,U⟩=Z (H A n c):=(k4.cell 0).trans rfl;go_wp2_with fail
    refine (HP.out _ (hB.below az)).mono ?_;rintro e Y4 ⟨rfl,aM⟩;have cV:=zAa az aM az.size;clear az aM k4 k5 c0 c1 c2;go_wp2_with fail
    go_ret;exact ⟨by rw [q1];simp,cV⟩
   ·have q1:(K==(n:Int))=E:=by simpa using hK
    clear hK;go_enter Tryz.func83,Tryz.ntmps83;go_wp2_with fail
    generalize ((w.alloc (.cells #[H A n c,D J re,D J lo] 24)).alloc (.cells #[D J K,H B m d] 55))=Y at ah hk0 aq ⊢;refine (HV.out _ (hA.below ah)).mono ?_;rintro e Y2 ⟨rfl,ai⟩;have al:=zAa ah ai ah.size;have k2:=hk0.below ai hk0.lt;have k3:=aq.below ai aq.lt;clear ai hk0 aq;obtain ⟨c0,c1⟩:=cQ2 k3;go_wp2_with fail
    refine (HC.out _ (hB.below al)).mono ?_;rintro e Y3 ⟨rfl,bh⟩;have az:=zAa al bh al.size;have k4:=k2.below bh k2.lt;have k5:=k3.below bh k3.lt;clear bh k2 k3 c0 c1 al;have c0:Y3.cell? ⟨w.heap.size+1,0,U⟩=Z (D J K):=(k5.cell 0).trans rfl;have c2:Y3.cell? ⟨w.heap.size,0,U⟩=Z (H A n c):=(k4.cell 0).trans rfl;go_wp2_with fail
    go_ret;exact ⟨by rw [q1];simp,az⟩
  ·have q1:(ZQ==0)=E:=by simpa using h0
   clear h0;go_enter Tryz.func83,Tryz.ntmps83;go_wp2_with fail
   generalize ((w.alloc (.cells #[H A n c,D J re,D J lo] 24)).alloc (.cells #[D J K,H B m d] 55))=Y at ah hk0 aq ⊢;refine (HV.out _ (hA.below ah)).mono ?_;rintro e Y2 ⟨rfl,ai⟩;have al:=zAa ah ai ah.size;have k3:=aq.below ai aq.lt;clear ai hk0 aq;obtain ⟨c0,c1⟩:=cQ2 k3;go_wp2_with fail
   refine (HC.out _ (hB.below al)).mono ?_;rintro e Y3 ⟨rfl,bh⟩;have az:=zAa al bh al.size;clear bh k3 c0 c1 al;go_wp2_with fail
   go_ret;exact ⟨by rw [q1];simp,az⟩
theorem zGw {A:Option Addr} {n c:Nat} {F:List Fg} {re lo K:Int} {B:Option Addr} {m d:Nat} {L:List Lt} {b:Bool} (h:zCH F re lo K L=b) (w:ZY) (hA:Fgs w A n F) (hc:n<=c) (hB:Lets w B m L) :
  Calls ZX 83 #[frV A n c re lo,.agg #[D J K,H B m d]] w fun e w'=>e=.returned (G b)/\ZZ w.heap.size w w':=by
 subst h;exact zOk A n c F re lo K B m d L w hA hc hB
theorem zMd (A:Option Addr) (n c:Nat) (F:List Fg) (re lo K:Int) (B:Option Addr) (m d:Nat) (L:List Lt) (w:ZY) (hA:Fgs w A n F) (hc:n<=c) (hB:Lets w B m L) :
  Calls ZX 74 #[frV A n c re lo,.agg #[D J K,H B m d]] w fun e w'=>e=.returned (D J (zDh F re lo K L))/\ZZ w.heap.size w w':=by
 have ah:ZZ w.heap.size w ((w.alloc (.cells #[H A n c,D J re,D J lo] 24)).alloc (.cells #[D J K,H B m d] 55)):=((M _ _).alloc (O _) _).alloc (by simp) _;have hk0:Blk ((w.alloc (.cells #[H A n c,D J re,D J lo] 24)).alloc (.cells #[D J K,H B m d] 55)) w.heap.size 24 #[H A n c,D J re,D J lo]:=(Blk.new w _ _).alloc _;have aq:Blk ((w.alloc (.cells #[H A n c,D J re,D J lo] 24)).alloc (.cells #[D J K,H B m d] 55)) (w.heap.size+1) 55 #[D J K,H B m d]:=heap_alloc2_new w _ _;obtain ⟨v,hv⟩:∃v,frB F re lo=v:=⟨_,rfl⟩
 obtain ⟨ZQ,hE⟩:∃ZQ,zBr K L=ZQ:=⟨_,rfl⟩
 obtain ⟨p,hp⟩:∃p,zCH F re lo K L=p:=⟨_,rfl⟩
 have HV:=qH (fun wx (hx:Fgs wx A n F)=>zFc hv A n c wx hx hc);have HC:=qH (fun wx (hx:Lets wx B m L)=>zNc (c:=d) hE wx hx);have HP:=qH (fun wx (hx:Fgs wx A n F) (hy:Lets wx B m L)=>zGw (d:=d) hp wx hx hc hy);have HR:=qH (show zDh F re lo K L=if v=E then 2 else if ZQ≠0 then ZQ else if p then 0 else 2 by unfold zDh;rw [hv,hE,hp]);clear hv hE hp;go_enter Tryz.func74,Tryz.ntmps74;go_wp2_with fail
 generalize ((w.alloc (.cells #[H A n c,D J re,D J lo] 24)).alloc (.cells #[D J K,H B m d] 55))=Y at ah hk0 aq ⊢;refine (HV.out _ (hA.below ah)).mono ?_;rintro e Y2 ⟨rfl,ai⟩;have al:=zAa ah ai ah.size;have k2:=hk0.below ai hk0.lt;have k3:=aq.below ai aq.lt;clear ai hk0 aq ah
 cases v with
 | false =>
  have lz:=qH (HR.out.trans (qP rfl));clear HR;go_wp2_with fail
  go_ret;exact ⟨zGD lz.out.symm,al⟩
 | true =>
  obtain ⟨c0,c1⟩:=cQ2 k3;go_wp2_with fail
  refine (HC.out _ (hB.below al)).mono ?_;rintro e Y3 ⟨rfl,bh⟩;have az:=zAa al bh al.size;have k4:=k2.below bh k2.lt;have k5:=k3.below bh k3.lt;clear bh k2 k3 c0 c1 al;by_cases h0:ZQ=0
  ·subst h0;obtain ⟨c0,c1⟩:=cQ2 k5;obtain ⟨c2,c3,c4⟩:=cQ3 k4;go_wp2_with fail
   refine (HP.out _ (hA.below az) (hB.below az)).mono ?_;rintro e Y4 ⟨rfl,aM⟩;have cV:=zAa az aM az.size;clear az aM k4 k5 c0 c1 c2 c3 c4
   cases p with
   | false =>
    have lz:=qH (show zDh F re lo K L=2 by rw [HR.out];simp);clear HR;go_wp2_with fail
    go_ret;exact ⟨zGD lz.out.symm,cV⟩
   | true =>
    have lz:=qH (show zDh F re lo K L=0 by rw [HR.out];simp);clear HR;go_wp2_with fail
    go_ret;exact ⟨zGD lz.out.symm,cV⟩
  ·have q1:(ZQ != 0)=Q:=by simpa using h0
   have lz:=qH (show zDh F re lo K L=ZQ by rw [HR.out,qN (by simp),qP h0]);clear h0 HR;go_wp2_with fail
   go_ret;exact ⟨zGD lz.out.symm,az⟩
theorem zHO {F:List Fg} {re lo K:Int} {L:List Lt} (h:zDh F re lo K L=0):zCH F re lo K L=Q/\frOk F re lo/\zBr K L=0/\K=(F.length:Int)/\zEA L=Q:=by
 have hp:zCH F re lo K L=Q:=by
  unfold zDh at h;split at h
  ·omega
  ·split at h
   ·rename_i h1 h2;exact absurd h h2
   ·split at h
    ·rename_i h3;exact h3
    ·omega
 have hq:=hp;unfold zCH at hq;simp only [Bool.and_eq_true,beq_iff_eq] at hq;exact ⟨hp,zCQ.1 hq.1.1.1,hq.1.1.2,hq.1.2,hq.2⟩
structure Bi where
 f:Int
 n:Int
 b:Bool
instance : DecidableEq Bi := fun x y =>
 if h:x.f=y.f/\x.n=y.n/\x.b=y.b then .isTrue (by cases x;cases y;simp at h;simp [h])
 else .isFalse (fun e=>h (by subst e;simp))
def bi0:Bi:=⟨0,0,E⟩
def ba (l:List Bi) (i:Nat):Bi:=(l[i]?).getD bi0
theorem zNd {l:List Bi} {i:Nat} (h:i < l.length):l[i]? = Z (ba l i):=by unfold ba;rw [List.getElem?_eq_getElem h];rfl
theorem zYp {l:List Bi} {i:Nat} {x:Bi} (h:l[i]? = Z x):ba l i=x:=by unfold ba;rw [h];rfl
def zGV (x:List UInt8):List UInt8×List UInt8×Bool:=Lib.cut x.dropLast [46]
def zBT (x:List UInt8) (c:UInt8):Bool:=decide (x.getLast? = Z c)
noncomputable def zNe (L:List Fg) (x:List UInt8):Bi :=
 if (zGV x).2.2 then ⟨if zDA L (zGV x).1=0 then -1 else (zDA L (zGV x).1:Int),(zAs (zGV x).2.1).1,zBT x 62⟩
 else ⟨0,(zAs x.dropLast).1,zBT x 111⟩
noncomputable def zOl (x:List UInt8):Bool :=
 if (zGV x).2.2 then (zKE (zGV x).1||!(zBT x 62||zBT x 60))||!(zAs (zGV x).2.1).2
 else !(zBT x 111||zBT x 117)||!(zAs x.dropLast).2
def zTR (x:List UInt8):Bool:=!(zGV x).2.2
noncomputable def zVt (L:List Fg) (x:List UInt8):Bool:=(zGV x).2.2&&zEH L (zGV x).1
def zSw (T:List (List UInt8)):Bool:=match T with
 | []=>E
 | x :: _=>zTR x
noncomputable def zEQ (T:List (List UInt8)):Bool:=T.any zOl||zSw T
noncomputable def zGe (L:List Fg) (T:List (List UInt8)):Bool:=T.any (zVt L)
theorem zOm (T:List (List UInt8)) (x:List UInt8):zEQ (T++[x])=(zEQ T||(zOl x||(T.isEmpty&&zTR x))):=by
 unfold zEQ
 cases T with
 | nil=>simp [zSw]
 | cons y T =>
  simp only [List.cons_append,List.any_cons,List.any_append,List.any_nil,zSw,List.isEmpty_cons,Bool.false_and,Bool.or_false]
  cases zOl y<;>cases T.any zOl<;>cases zOl x<;>cases zTR y<;>rfl
theorem zOn (L:List Fg) (T:List (List UInt8)) (x:List UInt8):zGe L (T++[x])=(zGe L T||zVt L x):=by simp [zGe]
def zGx (b:Bi):Bi:=if 0 < b.f then ⟨b.f,b.n,E⟩ else b
def zNf (l:List Bi) (f:Int):Nat:=l.countP fun b=>decide (0 < b.f)&&b.f==f
def zGf (l:List Bi):Nat:=l.countP fun b=>!decide (0 < b.f)
def zCI (k:Nat) (l:List Bi):List Int:=(List.range (k+2)).map fun f:Nat=>((zNf l (f:Int):Nat):Int)
def zJJ (l:List Bi) (b:Bi):Bool:=(decide (0 < b.f)&&decide ((zNf l b.f:Int) < b.n))||(b.f==0&&(decide (((zGf l / 2:Nat):Int) < b.n)||zGf l % 2 != 0))
def zGg (l:List Bi):Bool:=decide ((l.map zGx).Nodup)&&l.all fun b=>!zJJ l b
def ia (ZN:List Int) (i:Int):Int:=(ZN[i.toNat]?).getD 0
def zMe (ZN:List Int) (b:Bi):List Lt :=
 if b.f=0 then [⟨2,0,0,b.n,0,b.b⟩]
 else if b.b then [⟨1,b.f-1,ia ZN (b.f-1)+b.n,0,0,E⟩,⟨1,b.f,ia ZN b.f-b.n+1,0,0,E⟩]
 else [⟨1,b.f,ia ZN b.f-b.n+1,0,0,E⟩,⟨1,b.f-1,ia ZN (b.f-1)+b.n,0,0,E⟩]
def zAU (ZN:List Int) (l:List Bi):List Lt:=l.flatMap (zMe ZN)
theorem zQt (ZN:List Int) (b:Bi):(zMe ZN b).length<=2:=by
 unfold zMe;split
 ·simp
 ·split<;>simp
theorem zOo (ZN:List Int) (l:List Bi):(zAU ZN l).length<=2*l.length:=by
 unfold zAU
 induction l with
 | nil=>simp
 | cons b l ih=>rw [List.flatMap_cons,List.length_append,List.length_cons];have:=zQt ZN b;omega
theorem zMf (l:List Bi) (f:Int):zNf l f<=l.length:=List.countP_le_length
theorem zMg (l:List Bi):zGf l<=l.length:=List.countP_le_length
theorem zGh (k:Nat) (l:List Bi) {f:Nat} (h:f < k+2):(zCI k l)[f]? = Z ((zNf l (f:Int):Nat):Int):=by
 unfold zCI;rw [List.getElem?_map,List.getElem?_range h];rfl
theorem zGW (k:Nat) (l:List Bi):(zCI k l).length=k+2:=by simp [zCI]
theorem zVu {l:List Bi} {b:Bi} {f:Int} (h:0 < b.f) (e:b.f=f):zNf (l++[b]) f=zNf l f+1:=by
 unfold zNf;rw [List.countP_append,List.countP_singleton,qP (by simp [e];omega)]
theorem zTS {l:List Bi} {b:Bi} {f:Int} (h:¬(0 < b.f/\b.f=f)):zNf (l++[b]) f=zNf l f:=by
 unfold zNf;rw [List.countP_append,List.countP_singleton,qN (by simpa using h),Nat.add_zero]
theorem zVv {l:List Bi} {b:Bi} (h:¬0 < b.f):zGf (l++[b])=zGf l+1:=by
 unfold zGf;rw [List.countP_append,List.countP_singleton,qP (by simpa using h)]
theorem zXb {l:List Bi} {b:Bi} (h:0 < b.f):zGf (l++[b])=zGf l:=by
 unfold zGf;rw [List.countP_append,List.countP_singleton,qN (by simp [h]),Nat.add_zero]
theorem zSx (k:Nat) (l:List Bi) {b:Bi} {f:Nat} (h0:0 < b.f) (e:b.f=(f:Int)):(zCI k l).set f ((zNf l (f:Int):Int)+1)=zCI k (l++[b]):=by
 apply List.ext_getElem?;intro i;rw [List.getElem?_set];by_cases hi:i < k+2
 ·rw [zGh k _ hi];by_cases hf:f=i
  ·subst hf;rw [qP rfl,zGW,qP hi,zGh k _ hi,zVu h0 e];rfl
  ·rw [qN hf,zGh k _ hi,zTS (fun h=>hf (by omega))]
 ·rw [List.getElem?_eq_none (by rw [zGW];omega),List.getElem?_eq_none (by rw [zGW];omega),zGW];split
  ·rename_i h1;rw [h1,qN hi]
  ·rfl
theorem zQu (k:Nat) (l:List Bi) {b:Bi} (h0:¬0 < b.f):zCI k (l++[b])=zCI k l:=by
 unfold zCI;exact List.map_congr_left fun f _=>by rw [zTS (fun h=>h0 h.1)]
def sgI (cr nu:Nat) (l:Lt):Int:=if (nu >>> (cr-l.id.toNat)) % 2=1 then 1 else -1
def sgL (cr nu:Nat) (l:Lt):Lt:=if isC l then { l with sign:=sgI cr nu l } else l
def zCR (cr nu:Nat) (L:List Lt):List Lt:=L.map (sgL cr nu)
def zXc (L:List Lt) (i:Nat):Int:=if (la L i).gate<=(la L (i+1)).gate then (la L (i+1)).gate else (la L i).gate
def lpC (L:List Lt) (g:Int) (m:Nat):Nat:=zAe (fun i=>(isP (la L i)&&dwn L i)&&zXc L i==g) m
def zBQ (K:Nat) (L:List Lt) (m:Nat):List Int:=(List.range (K+2)).map fun g:Nat=>((lpC L (g:Int) m:Nat):Int)
theorem zFD (K:Nat) (L:List Lt) (m:Nat) {g:Nat} (h:g < K+2):(zBQ K L m)[g]? = Z ((lpC L (g:Int) m:Nat):Int):=by
 unfold zBQ;rw [List.getElem?_map,List.getElem?_range h];rfl
theorem zFE (K:Nat) (L:List Lt) (m:Nat):(zBQ K L m).length=K+2:=by simp [zBQ]
theorem zQv (L:List Lt) (g:Int) (m:Nat):lpC L g m<=m:=zCS _ _
theorem zQw (K:Nat) (L:List Lt) {m g:Nat} (h:(isP (la L m)&&dwn L m)=Q) (e:zXc L m=(g:Int)):(zBQ K L m).set g ((lpC L (g:Int) m:Int)+1)=zBQ K L (m+1):=by
 apply List.ext_getElem?;intro i;rw [List.getElem?_set];by_cases hi:i < K+2
 ·rw [zFD K L _ hi];by_cases hf:g=i
  ·subst hf;rw [qP rfl,zFE,qP hi,zFD K L _ hi,show lpC L (g:Int) (m+1)=lpC L (g:Int) m+1 from zAY (by rw [h,e];simp)];rfl
  ·rw [qN hf,zFD K L _ hi,show lpC L (i:Int) (m+1)=lpC L (i:Int) m from zAG (by rw [h,e];simp;omega)]
 ·rw [List.getElem?_eq_none (by rw [zFE];omega),List.getElem?_eq_none (by rw [zFE];omega),zFE];split
  ·rename_i h1;rw [h1,qN hi]
  ·rfl
theorem zIN (K:Nat) (L:List Lt) {m:Nat} (h:(isP (la L m)&&dwn L m)=E):zBQ K L (m+1)=zBQ K L m:=by
 unfold zBQ;exact List.map_congr_left fun g _=>by rw [show lpC L (g:Int) (m+1)=lpC L (g:Int) m from zAG (by rw [h];rfl)]
theorem zOp (K:Nat) (L:List Lt):zBQ K L 0=List.replicate (K+2) 0:=by
 unfold zBQ;rw [List.eq_replicate_iff]
 exact ⟨by simp,fun b hb=>by
  obtain ⟨g,_,rfl⟩:=List.mem_map.1 hb
  simp [lpC,zAe]⟩
theorem zSy (k:Nat):zCI k []=List.replicate (k+2) 0:=by
 unfold zCI;rw [List.eq_replicate_iff]
 exact ⟨by simp,fun b hb=>by
  obtain ⟨g,_,rfl⟩:=List.mem_map.1 hb
  simp [zNf]⟩
def zBR (L:List Lt) (i:Nat):Lt:=if (la L (i+1)).gate < (la L i).gate then la L (i+1) else la L i
def zTT (L:List Lt) (i:Nat):UInt8:=if (la L (i+1)).gate < (la L i).gate then 60 else 62
def zYq (l:Lt):List UInt8:=Lib.itoa l.id++[if l.over then 111 else 117]
def zNg (F:List Fg) (L:List Lt) (i:Nat):List UInt8:=nmF F ((zBR L i).gate+1)++[46]++Lib.itoa ((zBR L i).rank-(lpC L (zBR L i).gate L.length:Int))++[zTT L i]
def zIf (F:List Fg) (L:List Lt) (i:Nat):List (List UInt8) :=
 if isC (la L i) then [zYq (la L i)] else if dwn L i then [zNg F L i] else []
def zGi (F:List Fg) (L:List Lt) (m:Nat):List (List UInt8):=(List.range m).flatMap (zIf F L)
theorem zEr (F:List Fg) (L:List Lt) (m:Nat):zGi F L (m+1)=zGi F L m++zIf F L m:=by simp [zGi,List.range_succ]
def zJK:List UInt8:=[98,97,114,101]
def zTU (F:List Fg) (L:List Lt):List UInt8:=if L.length=0 then zJK else Lib.join (zGi F L L.length) [32]
def Arcs (L:List Lt):Prop:=∀i,i < L.length->isP (la L i)=Q->dwn L i=Q->i+1 < L.length/\isP (la L (i+1))=Q
section
variable {K:Int} {L:List Lt} {a:Nat}
theorem zVw {v:Nat} (h:isP (la L v)=Q) (hc:isC (la L v)=Q):False:=by rw [zOV h] at hc;cases hc
theorem zVx {v:Nat} (h:isC (la L v)=Q):isP (la L v)=E:=by
 cases hq:isP (la L v) with
 | false=>rfl
 | true=>exact (zVw hq h).elim
variable {X:Nat->Nat}
end
section
variable {K:Int} {L:List Lt}
end
structure Lps (K:Nat) (L:List Lt):Prop where
 len:L.length<=400
 k40:K<=40
 gate:∀i,i < L.length->isP (la L i)=Q->0<=(la L i).gate/\(la L i).gate<=K
 arcs:Arcs L
def zIO (w:ZY) (K:Nat) (L:List Lt) (e:Ending) (w':ZY):Prop :=
 ∃g,e=.returned (H (Z ⟨g,0,U⟩) (K+2) (K+2))/\OwnI w' w.heap.size g (K+2) (zBQ K L L.length)/\ZZ w.heap.size w w'
theorem zMh {v:Nat} (h:v<=100000):IntKind.i64.wrap ((v:Int)+1)=(v:Int)+1:=IntWalk.i64_in _ (by omega)
theorem zMi (K:Nat) (A:Option Addr) (n c:Nat) (L:List Lt) (w:ZY) (hA:Lets w A n L) (hL:Lps K L) :
  Calls ZX 123 #[.agg #[D J (K:Int),H A n c]] w (zIO w K L):=by
 have cH:L.length=n:=hA.len;have hn:n<=400:=by have:=hL.len;omega
 have hK4:=hL.k40;have ah:=(M w.heap.size w).alloc (O _) (.cells #[D J (K:Int),H A n c] 55);have hk0:Blk (w.alloc (.cells #[D J (K:Int),H A n c] 55)) w.heap.size 55 #[D J (K:Int),H A n c]:=Blk.new _ _ _;have c0:(w.alloc (.cells #[D J (K:Int),H A n c] 55)).cell? ⟨w.heap.size,0,U⟩=Z (D J (K:Int)):=(hk0.cell 0).trans rfl;have HN:=qH cH;have HL:=qH hL;have HA:=qH hA;have hlw:w.heap.size < (w.alloc (.cells #[D J (K:Int),H A n c] 55)).heap.size:=hk0.lt;have w1:wrap64 ((K:Int)+2)=((K+2:Nat):Int):=by unfold wrap64;omega
 clear cH hL hA;go_enter Tryz.func123,Tryz.ntmps123;go_upto_region 1 with fail
 generalize w.alloc (.cells #[D J (K:Int),H A n c] 55)=Y at ah hk0 c0 hlw ⊢;go_upto_region 2 with (refine zIs rfl _ _ rfl (K+2) _ rfl rfl (by first | rfl | exact w1 | (simp;done) | omega) (by omega) (base:=Y.heap.size) (O _) ?_;intro Y2 il ai nz)
 have nJ:OwnI Y2 Y.heap.size Y.heap.size (K+2) (zBQ K L 0):=by rw [zOp];exact il
 have hk2:=hk0.below ai hlw;have hby:=zAa ah ai ah.size;have c1:Y2.cell? ⟨w.heap.size,1,U⟩=Z (H A n c):=(hk2.cell 1).trans rfl;have hwy:w.heap.size < Y.heap.size:=hlw;clear il nz c0 hk0 hlw ai;generalize Y.heap.size=g at nJ hwy ⊢;have hgl:g < Y2.heap.size:=nJ.lt;have ai:ZZ g Y2 Y2:=M _ _;go_wp2_with fail
 clear c1;go_loopw [4,14] (fun v4 v14 wv=>∃(i:Nat) (X:ZY),X=wv/\i<=n/\v14=D J i/\v4=G (!dwn L i)/\OwnI X g g (K+2) (zBQ K L i)/\ZZ g Y2 X) (fun _ v14 _=>n-(intOf v14).toNat)
 case atStart=>exact ⟨0,_,rfl,by omega,rfl,rfl,nJ,ai⟩
 case round =>
  obtain ⟨i,X,hX,hi,rfl,rfl,hO,hb⟩:=hrel;subst hX;clear nJ;have hkx:=hk2.below hb hwy;have fM:Lets X A n L:=HA.out.below ((hby.trans (hb.mono (by omega))));have E6:g < X.heap.size:=hO.lt;by_cases hlt:i < n
  ·have j0:(0:Int)<=(i:Int):=by omega
   have j1:(i:Int) < (n:Int):=by omega
   obtain ⟨ga,o,rfl,hgl,hat,hok⟩:=fM.at_ hlt;obtain ⟨x0,x1,x2,x3,x4,x5⟩:=hat;have hbl:=(M X.heap.size X).alloc (O _) (.cells #[D J (la L i).kind,D J (la L i).gate,D J (la L i).rank,D J (la L i).id,D J (la L i).sign,G (la L i).over] 76);have pY:Blk (X.alloc (.cells #[D J (la L i).kind,D J (la L i).gate,D J (la L i).rank,D J (la L i).id,D J (la L i).sign,G (la L i).over] 76)) X.heap.size 76 #[D J (la L i).kind,D J (la L i).gate,D J (la L i).rank,D J (la L i).id,D J (la L i).sign,G (la L i).over]:=Blk.new _ _ _;have nI:=hO.below hbl E6;have aq:=hkx.below hbl hkx.lt;have ka:=fM.below hbl;have ay:=hb.trans (hbl.mono (Nat.le_of_lt E6));obtain ⟨d,hd⟩:∃d,dwn L i=d:=⟨_,rfl⟩
   rw [hd];by_cases hk:(la L i).kind=1
   ·have q1:((la L i).kind != 1)=E:=by simpa using hk
    have hp:=zKh hk;have hdn:dwn L (i+1) = !d:=by rw [zXY hp,hd]
    have rh:=qH hdn
    cases d with
    | false =>
     have HS:=qH (show zBQ K L (i+1)=zBQ K L i from zIN K L (by rw [hd,Bool.and_false]));clear hO hkx fM aq ka pY hbl hk hp hd hdn;go_wp2_with fail
     go_roundw
     case rel=>exact ⟨i+1,_,rfl,by omega,by go_num,by rw [rh.out];rfl,by rw [HS.out];exact nI,ay⟩
     case measure=>simp [intOf];omega
    | true =>
     have hil:i < L.length:=by rw [HN.out];exact hlt
     obtain ⟨cY,iK⟩:=HL.out.arcs i hil hp hd;have hi1:i+1 < n:=by rw [<-HN.out];exact cY
     have tj:=HL.out.gate i hil hp;have dX:=HL.out.gate (i+1) cY iK;obtain ⟨gx,hgx⟩:∃m:Nat,(la L i).gate=(m:Int):=⟨(la L i).gate.toNat,by omega⟩
     obtain ⟨gy,hgy⟩:∃m:Nat,(la L (i+1)).gate=(m:Int):=⟨(la L (i+1)).gate.toNat,by omega⟩
     obtain ⟨m,hm,cE,ux⟩:∃m:Nat,max (gx:Int) (gy:Int)=(m:Int)/\m < K+2/\zXc L i=(m:Int):=by
      by_cases h:gx<=gy
      ·exact ⟨gy,by omega,by omega,by unfold zXc;rw [hgx,hgy,qP (by omega)]⟩
      ·exact ⟨gx,by omega,by omega,by unfold zXc;rw [hgx,hgy,qN (by omega)]⟩
     have Fl:(isP (la L i)&&dwn L i)=Q:=by rw [hp,hd];rfl
     have c6:(X.alloc (.cells #[D J (la L i).kind,D J (la L i).gate,D J (la L i).rank,D J (la L i).id,D J (la L i).sign,G (la L i).over] 76)).cell? ⟨X.heap.size,1,U⟩=Z (D J (gx:Int)):=by rw [<-hgx];exact (pY.cell 1).trans rfl
     have c1:(X.alloc (.cells #[D J (la L i).kind,D J (la L i).gate,D J (la L i).rank,D J (la L i).id,D J (la L i).sign,G (la L i).over] 76)).cell? ⟨w.heap.size,1,U⟩=Z (H (Z ⟨ga,o,U⟩) n c):=(aq.cell 1).trans rfl;have y1:(X.alloc (.cells #[D J (la L i).kind,D J (la L i).gate,D J (la L i).rank,D J (la L i).id,D J (la L i).sign,G (la L i).over] 76)).cell? ⟨ga,o+(i+1)*6+1,U⟩=Z (D J (gy:Int)):=by rw [<-hgy];exact (ka.also hi1).1.gate
     have e1:=nI.cell (zFD K L i cE);have z1:=nI.frozen m;have b1:=zQv L (m:Int) i;have r1:=nI.stored m ((lpC L (m:Int) i:Int)+1);rw [zQw K L Fl ux] at r1;obtain ⟨v1,pV⟩:∃v,lpC L (m:Int) i=v:=⟨_,rfl⟩
     rw [pV] at e1 b1 r1;have s1:=ay.setCell (p:=⟨g,m,U⟩) (O _) (D J ((v1:Int)+1));have p1:(0:Int)<=(i:Int)+1:=by omega
     have p2:(i:Int)+1 < (n:Int):=by omega
     have p3:IntKind.i64.wrap ((i:Int)+1)=(i:Int)+1:=zMh (by omega);have p4:(0:Int)<=(m:Int):=by omega
     have p7:(m:Int) < (K:Int)+2:=by omega
     have w7:IntKind.i64.wrap ((v1:Int)+1)=(v1:Int)+1:=zMh (by omega);have R1:=qH r1.drew;have S1:=qH s1.drew;clear hO hkx fM aq ka hk hp hd hdn hgx hgy pV r1 s1 tj dX pY hbl nI ay iK Fl ux;go_upto_region 9 with fail
     clear x0 x1 x2 x3 x4 x5;generalize X.alloc (.cells #[D J (la L i).kind,D J (la L i).gate,D J (la L i).rank,D J (la L i).id,D J (la L i).sign,G (la L i).over] 76)=X6 at c6 c1 y1 e1 z1 R1 S1 ⊢;generalize X.heap.size=b6 at c6 ⊢;go_region
     go_wp2_with fail
     go_roundw
     case rel=>exact ⟨i+1,_,rfl,by omega,by go_num,by rw [rh.out];rfl,R1.out,S1.out⟩
     case measure=>simp [intOf];omega
   ·have q1:((la L i).kind != 1)=Q:=by simpa using hk
    have hp:=zLo hk;have HS:=qH (show zBQ K L (i+1)=zBQ K L i from zIN K L (by rw [hp,Bool.false_and]));have rh:=qH (show dwn L (i+1)=d by rw [zYo hp,hd]);clear hO hkx fM aq ka pY hbl hk hp hd;go_wp2_with fail
    go_roundw
    case rel=>exact ⟨i+1,_,rfl,by omega,by go_num,by rw [rh.out],by rw [HS.out];exact nI,ay⟩
    case measure=>simp [intOf];omega
  ·have j1:¬(i:Int) < (n:Int):=by omega
   have hin:i=n:=by omega
   have hOe:OwnI X w.heap.size g (K+2) (zBQ K L L.length):=by rw [HN.out,<-hin];exact ⟨hO.blk,by omega,hO.len⟩
   have hbw:=hby.trans (hb.mono (by omega));clear hin hlt hO hkx fM hb;go_wp2_with fail
   go_ret;exact ⟨g,rfl,hOe,hbw⟩
