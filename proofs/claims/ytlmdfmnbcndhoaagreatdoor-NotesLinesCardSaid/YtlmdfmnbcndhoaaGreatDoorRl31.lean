/-
  Lemmas, part 31. Conditions: each theorem's own.
-/
import Derived.Test.YtlmdfmnbcndhoaaGreatDoorRl30
import Derived.Test.YtlmdfmnbcndhoaaGreatDoorRl11
import Derived.Test.YtlmdfmnbcndhoaaGreatDoorRl26
namespace Go.Proofs.YtlmdfmnbcndhoaaGreatDoor
open Go.RowKit
def zIm (p:Nat):Array Value:=#[.func (.func 175) #[.pointer (some ⟨p,0,none⟩)] #[],.func (.func 176) #[.pointer (some ⟨p,0,none⟩)] #[],.func (.func 177) #[.pointer (some ⟨p,0,none⟩)] #[],.func (.func 178) #[.pointer (some ⟨p,0,none⟩)] #[],.func (.func 179) #[.pointer (some ⟨p,0,none⟩)] #[]]
theorem zWa:(Tryz.prog.info? 26).map (fun i=>(i.zero,i.size,i.bytes))=some (some .nilFunc,1,8):=by kernel_rfl
theorem buildV (p:Nat) (w:World):(Instr.buildSlice 215 5 #[(0,.func (.func 175) #[.pointer (some ⟨p,0,none⟩)] #[]),(1,.func (.func 176) #[.pointer (some ⟨p,0,none⟩)] #[]),(2,.func (.func 177) #[.pointer (some ⟨p,0,none⟩)] #[]),(3,.func (.func 178) #[.pointer (some ⟨p,0,none⟩)] #[]),(4,.func (.func 179) #[.pointer (some ⟨p,0,none⟩)] #[])]).run Tryz.prog w=.ok (.slice (some ⟨w.heap.size,0,none⟩) 5 5) (w.alloc (.cells (zIm p) 26)):=by
 obtain ⟨i0,hi,ci,be,cH⟩:=info_parts zWa;refine run_buildSlice w _ _ 5 _ _ i0 _ Tryz.underlying215 hi ci (by rw [be];omega) (by rw [be];omega) ?_;rw [be]
 kernel_rfl
def VS (w:World) (p k:Nat) (A:Option Addr) (n c:Nat) (L:List Lt) (v2 v3 v4 v5 v6:Value) (i:Nat) (wr:World):Prop :=
 (i=0∧Dia wr p (k:Int) A n c v2 v3 v4 v5 v6)∨(i=1∧zAC (k:Int) L=true∧Dia wr p (k:Int) A n c v2 v3 v4 v5 v6) ∨
 (i=2∧zAC (k:Int) L=true∧(isP (la L 0)&&decide (pN L n % 2=0))=true∧Dia wr p (k:Int) A n c v2 v3 v4 v5 v6) ∨
 (i=3∧zAC (k:Int) L=true∧(isP (la L 0)&&decide (pN L n % 2=0))=true∧zCi L=true∧∃base g2 g3 g4 g6 s P C,w.heap.size≤base∧DiaR wr base p k A n c L v5 g2 g3 g4 g6 s P C) ∨
 (i=4∧zAC (k:Int) L=true∧(isP (la L 0)&&decide (pN L n % 2=0))=true∧zCi L=true∧zBz L=true∧∃base b g2 g3 g4 g6 s P C ids,w.heap.size≤base∧DiaF wr base p k A n c L b g2 g3 g4 g6 s P C ids) ∨
 (i=5∧zBa (k:Int) L=true∧∃base b g2 g3 g4 g6 s P C ids,w.heap.size≤base∧DiaF wr base p k A n c L b g2 g3 g4 g6 s P C ids)
def zKx (w:World) (p k:Nat) (A:Option Addr) (n c:Nat) (L:List Lt) (v2 v3 v4 v5 v6:Value) (e:Ending) (w':World):Prop :=
 e=.returned (.bool (decide (n=0)||zBa (k:Int) L))∧w.grownBy w' (some p)∧(n=0→Dia w' p (k:Int) A n c v2 v3 v4 v5 v6) ∧
 (0 < n→zBa (k:Int) L=true→∃base b g2 g3 g4 g6 s P C ids,w.heap.size≤base∧DiaF w' base p k A n c L b g2 g3 g4 g6 s P C ids)
theorem zFe {K:Int} {L:List Lt} {n:Nat} (hL:L.length=n) (h:zAC K L=false∨(isP (la L 0)&&decide (pN L n % 2=0))=false∨zCi L=false∨zBz L=false∨zKW L=false):zBa K L=false:=by
 unfold zBa;rw [←zDa,hL];rcases h with h | h | h | h | h<;>rw [h]<;>simp
theorem zPM {K:Int} {L:List Lt} {n:Nat} (hL:L.length=n) (h1:zAC K L=true) (h2:(isP (la L 0)&&decide (pN L n % 2=0))=true) (h3:zCi L=true) (h4:zBz L=true) (h5:zKW L=true):zBa K L=true:=by
 unfold zBa;rw [←zDa,hL,h1,h2,h3,h4,h5];rfl
theorem DiaR.grown {w w':World} {base p k:Nat} {A:Option Addr} {n c:Nat} {L:List Lt} {v5 v5':Value} {g2 g3 g4 g6:Nat} {s:List Bool} {P C:List Int} (h:DiaR w base p k A n c L v5 g2 g3 g4 g6 s P C) (hb:p < base) (hg:w.grownBy w' (some p))
  (hd:Dia w' p (k:Int) A n c (.slice (some ⟨g2,0,none⟩) n n) (.slice (some ⟨g3,0,none⟩) (axL L).length (axL L).length) (.slice (some ⟨g4,0,none⟩) n n) v5' (.slice (some ⟨g6,0,none⟩) (k+1) (k+1))):DiaR w' base p k A n c L v5' g2 g3 g4 g6 s P C :=
 ⟨hd,h.down.kept hg (by have:=h.down.base;simp;omega),h.axis.kept hg (by have:=h.axis.base;simp;omega),h.place.kept hg (by have:=h.place.base;simp;omega),h.count.kept hg (by have:=h.count.base;simp;omega),h.downs,h.places,h.counts,h.ndown⟩
set_option maxRecDepth 100000 in
set_option maxHeartbeats 6400000 in
theorem zKy (p k:Nat) (A:Option Addr) (n c:Nat) (L:List Lt) (v2 v3 v4 v5 v6:Value) (w:World) (hA:Lets w A n L) (hn:n≤400) (ky:k≤40)
  (ik:0 < n→∀a,A=some a→p≠a.block) (hd:Dia w p (k:Int) A n c v2 v3 v4 v5 v6) :
  Calls Tryz.prog 142 #[.pointer (some ⟨p,0,none⟩)] w (zKx w p k A n c L v2 v3 v4 v5 v6):=by
 have cq:=hA.len;have sN:=qH cq;have c1:=hd.c1;have hplt:=hd.lt;rcases Nat.eq_zero_or_pos n with h0 | h0
 ·subst h0;clear cq;go_enter Tryz.func142,Tryz.ntmps142;go_wp2_with fail
  go_ret;exact ⟨rfl,World.grownBy.refl _ _,fun _=>hd,fun h=>by omega⟩
 ·have Aq:((n:Int)==0)=false:=by simp;omega
  have ik:=ik h0;have hdn:decide (n=0)=false:=by simp;omega
  have FA:Blk (w.alloc (.cells (zIm p) 26)) w.heap.size 26 (zIm p):=Blk.new _ _ _;have Fv:=hd.alloc (.cells (zIm p) 26);have sG:w.grownBy (w.alloc (.cells (zIm p) 26)) (some p):=World.grownBy_alloc _ _ _;clear cq;unfold zKx;rw [hdn,Bool.false_or];go_enter Tryz.func142,Tryz.ntmps142;go_wp2_with fail
  go_loopw [4,24] (fun _ v24 wr=>∃i:Nat,i≤5∧v24=.int .i64 i∧VS w p k A n c L v2 v3 v4 v5 v6 i wr∧w.grownBy wr (some p)∧Blk wr w.heap.size 26 (zIm p)) (fun _ v24 _=>5-(intOf v24).toNat)
  case atStart=>exact ⟨0,by omega,rfl,.inl ⟨rfl,Fv⟩,sG,FA⟩
  case round =>
   obtain ⟨i,hi,rfl,hV,hg,hB⟩:=hrel;clear FA Fv sG hd c1;have fe:=hA.growG hg (fun a ha e=>ik a ha (by injection e));have hsz:=hg.size;obtain ⟨e0,e1,e2,e3,e4⟩:=cQ5 hB;rcases hV with ⟨rfl,hD⟩ | ⟨rfl,t1,hD⟩ | ⟨rfl,t1,t2,hD⟩ | ⟨rfl,t1,t2,t3,base,g2,g3,g4,g6,s,P,C,hbase,hR⟩ | ⟨rfl,t1,t2,t3,t4,base,b,g2,g3,g4,g6,s,P,C,ids,hbase,hF⟩ | ⟨rfl,tv,base,b,g2,g3,g4,g6,s,P,C,ids,hbase,hF⟩
   ·clear e1 e2 e3 e4
    cases hx:zAC (k:Int) L with
    | true =>
     have HX:=qH hx;go_wp2_with fail
     refine (zHv p (k:Int) A n c L _ _ _ _ _ _ fe hD).mono ?_;rintro e w1 ⟨rfl,ay⟩;have vT:=hD.next ay;have iv:=hB.below ay hB.lt;have et:=zAo hg ay hg.size;rw [hx];clear hx hD hB hg;go_wp2_with fail
     go_roundw
     case rel=>exact ⟨1,by omega,by go_num,.inr (.inl ⟨rfl,HX.out,vT⟩),et,iv⟩
     case measure=>simp [intOf]
    | false =>
     have HX:=qH (zFe sN.out (.inl hx));go_wp2_with fail
     refine (zHv p (k:Int) A n c L _ _ _ _ _ _ fe hD).mono ?_;rintro e w1 ⟨rfl,ay⟩;have et:=zAo hg ay hg.size;rw [hx];clear hx hD hB hg;go_wp2_with fail
     go_ret;exact ⟨zAk HX.out.symm,et,fun h=>by omega,fun _ h=>by rw [HX.out] at h;cases h⟩
   ·clear e0 e2 e3 e4;have T1:=qH t1;clear t1
    cases hx:(isP (la L 0)&&decide (pN L n % 2=0)) with
    | true =>
     have HX:=qH hx;go_wp2_with fail
     refine (zIk p (k:Int) A n c L _ _ _ _ _ _ fe h0 hD).mono ?_;rintro e w1 ⟨rfl,ay⟩;have vT:=hD.next ay;have iv:=hB.below ay hB.lt;have et:=zAo hg ay hg.size;rw [hx];clear hx hD hB hg;go_wp2_with fail
     go_roundw
     case rel=>exact ⟨2,by omega,by go_num,.inr (.inr (.inl ⟨rfl,T1.out,HX.out,vT⟩)),et,iv⟩
     case measure=>simp [intOf]
    | false =>
     have HX:=qH (zFe (K:=(k:Int)) sN.out (.inr (.inl hx)));go_wp2_with fail
     refine (zIk p (k:Int) A n c L _ _ _ _ _ _ fe h0 hD).mono ?_;rintro e w1 ⟨rfl,ay⟩;have et:=zAo hg ay hg.size;rw [hx];clear hx hD hB hg;go_wp2_with fail
     go_ret;exact ⟨zAk HX.out.symm,et,fun h=>by omega,fun _ h=>by rw [HX.out] at h;cases h⟩
   ·clear e0 e1 e3 e4;have T1:=qH t1;have T2:=qH t2;clear t1 t2
    cases hx:zCi L with
    | true =>
     have HX:=qH hx;go_wp2_with fail
     refine (zKw p k A n c L _ _ _ _ _ _ fe hn ky T1.out ik hD).mono ?_;rintro e w1 ⟨rfl,et,hr⟩;have iv:=hB.grown et (by simp;omega);have eh:=zAb hg et;obtain ⟨g2,g3,g4,g6,s,P,C,hR⟩:=hr hx;rw [hx];clear hx hD hB hg hr;go_wp2_with fail
     go_roundw
     case rel=>exact ⟨3,by omega,by go_num,.inr (.inr (.inr (.inl ⟨rfl,T1.out,T2.out,HX.out,_,g2,g3,g4,g6,s,P,C,hsz,hR⟩))),eh,iv⟩
     case measure=>simp [intOf]
    | false =>
     have HX:=qH (zFe (K:=(k:Int)) sN.out (.inr (.inr (.inl hx))));go_wp2_with fail
     refine (zKw p k A n c L _ _ _ _ _ _ fe hn ky T1.out ik hD).mono ?_;rintro e w1 ⟨rfl,et,hr⟩;have eh:=zAb hg et;rw [hx];clear hx hD hB hg hr;go_wp2_with fail
     go_ret;exact ⟨zAk HX.out.symm,eh,fun h=>by omega,fun _ h=>by rw [HX.out] at h;cases h⟩
   ·clear e0 e1 e2 e4;have T1:=qH t1;have T2:=qH t2;have T3:=qH t3;clear t1 t2 t3;have hD:=hR.dia
    cases hx:zBz L with
    | true =>
     have HX:=qH hx;go_wp2_with fail
     refine (zFd p (k:Int) A n c L _ _ _ _ _ _ fe hn ik hD).mono ?_;rintro e w1 ⟨rfl,et,hr⟩;have iv:=hB.grown et (by simp;omega);have eh:=zAb hg et;obtain ⟨b,ids,hbb,vT,ET⟩:=hr hx;have fG:=hR.grown (by omega) et vT;have uL:=fe.growG et (fun a ha e=>ik a ha (by injection e));have nL:DiaF w1 base p k A n c L b g2 g3 g4 g6 s P C ids:=⟨fG,ET,uL,zED (by rw [sN.out];exact h0) (by have:=T2.out;simp at this;exact this.1) (by have:=T2.out;simp at this;rw [sN.out];exact this.2) T1.out T3.out HX.out,hn⟩;rw [hx];clear hx hD hB hg hr vT ET fG uL hR;go_wp2_with fail
     go_roundw
     case rel=>exact ⟨4,by omega,by go_num,.inr (.inr (.inr (.inr (.inl ⟨rfl,T1.out,T2.out,T3.out,HX.out,base,b,g2,g3,g4,g6,s,P,C,ids,hbase,nL⟩)))),eh,iv⟩
     case measure=>simp [intOf]
    | false =>
     have HX:=qH (zFe (K:=(k:Int)) sN.out (.inr (.inr (.inr (.inl hx)))));go_wp2_with fail
     refine (zFd p (k:Int) A n c L _ _ _ _ _ _ fe hn ik hD).mono ?_;rintro e w1 ⟨rfl,et,hr⟩;have eh:=zAb hg et;rw [hx];clear hx hD hB hg hr hR;go_wp2_with fail
     go_ret;exact ⟨zAk HX.out.symm,eh,fun h=>by omega,fun _ h=>by rw [HX.out] at h;cases h⟩
   ·clear e0 e1 e2 e3;have T1:=qH t1;have T2:=qH t2;have T3:=qH t3;have T4:=qH t4;clear t1 t2 t3 t4
    cases hx:zKW L with
    | true =>
     have HX:=qH (zPM sN.out T1.out T2.out T3.out T4.out hx);go_wp2_with fail
     refine (zMK base p k A n c L b g2 g3 g4 g6 s P C ids _ hF).mono ?_;rintro e w1 ⟨rfl,ay⟩;have nL:=hF.next ay;have iv:=hB.below ay hB.lt;have et:=zAo hg ay hg.size;rw [hx];clear hx hB hg hF;go_wp2_with fail
     go_roundw
     case rel=>exact ⟨5,by omega,by go_num,.inr (.inr (.inr (.inr (.inr ⟨rfl,HX.out,base,b,g2,g3,g4,g6,s,P,C,ids,hbase,nL⟩)))),et,iv⟩
     case measure=>simp [intOf]
    | false =>
     have HX:=qH (zFe (K:=(k:Int)) sN.out (.inr (.inr (.inr (.inr hx)))));go_wp2_with fail
     refine (zMK base p k A n c L b g2 g3 g4 g6 s P C ids _ hF).mono ?_;rintro e w1 ⟨rfl,ay⟩;have et:=zAo hg ay hg.size;rw [hx];clear hx hB hg hF;go_wp2_with fail
     go_ret;exact ⟨zAk HX.out.symm,et,fun h=>by omega,fun _ h=>by rw [HX.out] at h;cases h⟩
   ·have TV:=qH tv;clear tv e0 e1 e2 e3 e4;go_wp2_with fail
    go_ret;exact ⟨zAk TV.out.symm,hg,fun h=>by omega,fun _ _=>⟨base,b,g2,g3,g4,g6,s,P,C,ids,hbase,hF⟩⟩
end Go.Proofs.YtlmdfmnbcndhoaaGreatDoor
namespace Go.Proofs.YtlmdfmnbcndhoaaGreatDoor
open Go.RowKit
def zWb (w:World) (K:Int) (A:Option Addr) (n c:Nat) (L:List Lt) (p:Nat) (w':World):Prop :=
 ∃k:Nat,K=(k:Int)∧k≤40∧n≤400∧w.heap.size≤p ∧
  ((n=0∧Dia w' p K A n c (.slice none 0 0) (.slice none 0 0) (.slice none 0 0) (.map none) (.slice none 0 0))∨(0 < n∧∃base b g2 g3 g4 g6 s P C ids,w.heap.size≤base∧DiaF w' base p k A n c L b g2 g3 g4 g6 s P C ids))
def zRN (w:World) (K:Int) (A:Option Addr) (n c:Nat) (L:List Lt) (e:Ending) (w':World):Prop :=
 ∃v,e=.returned (.tuple #[v,.int .i64 (zBl K L)])∧Below w.heap.size w w'∧(zBl K L=0→∃p,v=.pointer (some ⟨p,0,none⟩)∧zWb w K A n c L p w')
theorem zWc {K:Int} {L:List Lt} (h:400 < L.length∨200 < cN L L.length):zBl K L=7:=by unfold zBl;rw [if_pos h]
theorem zXj {K:Int} {L:List Lt} (h:¬(400 < L.length∨200 < cN L L.length)) (h2:K < 0∨40 < K):zBl K L=2:=by unfold zBl;rw [if_neg h,if_pos h2]
theorem zXk {K:Int} {L:List Lt} {n:Nat} (hL:L.length=n) (h:¬(400 < L.length∨200 < cN L L.length)) (h2:¬(K < 0∨40 < K)):zBl K L=if (decide (n=0)||zBa K L)=true then 0 else 3:=by
 unfold zBl;rw [if_neg h,if_neg h2];subst hL;by_cases h3:L.length=0
 ·rw [if_pos h3,if_pos (by simp [h3])]
 ·rw [if_neg h3]
  cases zBa K L<;>simp [h3]
set_option maxRecDepth 100000 in
set_option maxHeartbeats 6400000 in
theorem zPN (K:Int) (A:Option Addr) (n c:Nat) (L:List Lt) (w:World) (hA:Lets w A n L) :
  Calls Tryz.prog 95 #[.agg #[.int .i64 K,.slice A n c]] w (zRN w K A n c L):=by
 have hle:=hA.le;have cq:L.length=n:=hA.len;have hbx:=Boxed.refl w K A n c;by_cases h400:400 < n
 ·have hf:=qH (zWc (K:=K) (L:=L) (.inl (by omega)));have q:(400:Int) < (n:Int):=by omega
  clear cq;go_enter Tryz.func95,Tryz.ntmps95;go_wp2_with fail
  go_ret2;exact ⟨.pointer none,by rw [hf.out];rfl,hbx.below,fun h=>by rw [hf.out] at h;cases h⟩
 ·have q:decide ((400:Int) < (n:Int))=false:=by simp;omega
  by_cases h200:200 < cN L n
  ·have hf:=qH (zWc (K:=K) (L:=L) (.inr (by rw [cq];exact h200)));have q2:(200:Int) < (cN L n:Int):=by omega
   clear cq;go_enter Tryz.func95,Tryz.ntmps95;go_wp2_with fail
   refine (zBs K A n c L _ (hA.below hbx.below)).mono ?_;rintro e w1 ⟨rfl,ay⟩;have ai:=hbx.more ay;go_wp2_with fail
   go_ret2;exact ⟨.pointer none,by rw [hf.out];rfl,ai.below,fun h=>by rw [hf.out] at h;cases h⟩
  ·have q2:decide ((200:Int) < (cN L n:Int))=false:=by simp;omega
   have hno:¬(400 < L.length∨200 < cN L L.length):=by rw [cq];omega
   by_cases hK:K < 0∨40 < K
   ·have hf:=qH (zXj (K:=K) (L:=L) hno hK);have hall:K < 0∨(decide (K < 0)=false∧40 < K):=by simp;omega
    clear hK cq hno;rcases hall with k1 | ⟨k1,k2⟩
    all_goals
     go_enter Tryz.func95,Tryz.ntmps95;go_wp2_with fail
     refine (zBs K A n c L _ (hA.below hbx.below)).mono ?_;rintro e w1 ⟨rfl,ay⟩;have ai:=hbx.more ay;have x0:=ai.c0;have x1:=ai.c1;go_wp2_with fail
     go_ret2;exact ⟨.pointer none,by rw [hf.out];rfl,ai.below,fun h=>by rw [hf.out] at h;cases h⟩
   ·have k1:decide (K < 0)=false:=by simp;omega
    have k2:decide (40 < K)=false:=by simp;omega
    have hf:=zXk cq hno hK;obtain ⟨k,rfl⟩:∃k:Nat,K=(k:Int):=⟨K.toNat,by omega⟩
    have ky:k≤40:=by omega
    clear hno hK cq
    cases hv:(decide (n=0)||zBa (k:Int) L) with
    | true =>
     rw [hv,if_pos rfl] at hf;have HF:=qH hf;have HV:=qH hv;clear hf hv;go_enter Tryz.func95,Tryz.ntmps95;go_wp2_with fail
     refine (zBs (k:Int) A n c L _ (hA.below hbx.below)).mono ?_;rintro e w1 ⟨rfl,ay⟩;have ai:=hbx.more ay;have x0:=ai.c0;have x1:=ai.c1;have uT:=hA.below ai.below;have mY:=ai.size;have ik:0 < n→∀a,A=some a→w1.heap.size≠a.block:=fun hn a ha=>by
      obtain ⟨g,o,e,hg,_⟩:=uT.2.2.2 hn;rw [ha] at e;injection e with e
      subst e;simp;omega
     have jy:=qH ik;clear ik;go_wp2_with fail
     refine (zKy w1.heap.size k A n c L (.slice none 0 0) (.slice none 0 0) (.slice none 0 0) (.map none) (.slice none 0 0) _ (uT.alloc _) (by omega) ky jy.out (Blk.new w1 _ _)).mono ?_;rintro e w2 ⟨rfl,eh,hz,nK⟩;have h5:Below w1.heap.size w1 w2:=((Below.refl _ _).alloc (Nat.le_refl _) _).trans (zBB eh (Nat.le_refl _) (by simp));have h6:=zAa ai.below h5 (by omega);rw [HV.out];have HZ:=qH hz;have tq:=qH nK;clear x0 x1 ai ay hbx eh hz nK uT h5;go_wp2_with fail
     go_ret2;refine ⟨.pointer (some ⟨w1.heap.size,0,none⟩),by rw [HF.out];rfl,h6,fun _=>⟨w1.heap.size,rfl,k,rfl,ky,by omega,by omega,?_⟩⟩;rcases Nat.eq_zero_or_pos n with h0 | h0
     ·exact .inl ⟨h0,HZ.out h0⟩
     ·have hv:=HV.out;rw [show decide (n=0)=false by simp;omega,Bool.false_or] at hv;obtain ⟨base,b,g2,g3,g4,g6,s,P,C,ids,hbase,hF⟩:=tq.out h0 hv;have hsz:(w1.alloc (.cells #[.int .i64 (k:Int),.slice A n c,.slice none 0 0,.slice none 0 0,.slice none 0 0,.map none,.slice none 0 0] 148)).heap.size=w1.heap.size+1:=by simp
      exact .inr ⟨h0,base,b,g2,g3,g4,g6,s,P,C,ids,by omega,hF⟩
    | false =>
     rw [hv] at hf;have HF:=qH (show zBl (k:Int) L=3 from hf);have HV:=qH hv;clear hf hv;go_enter Tryz.func95,Tryz.ntmps95;go_wp2_with fail
     refine (zBs (k:Int) A n c L _ (hA.below hbx.below)).mono ?_;rintro e w1 ⟨rfl,ay⟩;have ai:=hbx.more ay;have x0:=ai.c0;have x1:=ai.c1;have uT:=hA.below ai.below;have mY:=ai.size;have ik:0 < n→∀a,A=some a→w1.heap.size≠a.block:=fun hn a ha=>by
      obtain ⟨g,o,e,hg,_⟩:=uT.2.2.2 hn;rw [ha] at e;injection e with e
      subst e;simp;omega
     have jy:=qH ik;clear ik;go_wp2_with fail
     refine (zKy w1.heap.size k A n c L (.slice none 0 0) (.slice none 0 0) (.slice none 0 0) (.map none) (.slice none 0 0) _ (uT.alloc _) (by omega) ky jy.out (Blk.new w1 _ _)).mono ?_;rintro e w2 ⟨rfl,eh,hz,nK⟩;have h5:Below w1.heap.size w1 w2:=((Below.refl _ _).alloc (Nat.le_refl _) _).trans (zBB eh (Nat.le_refl _) (by simp));have h6:=zAa ai.below h5 (by omega);rw [HV.out];have HZ:=qH hz;have tq:=qH nK;clear x0 x1 ai ay hbx eh hz nK uT h5;go_wp2_with fail
     go_ret2;exact ⟨.pointer none,by rw [HF.out];rfl,h6,fun h=>by rw [HF.out] at h;cases h⟩
set_option maxHeartbeats 800000 in
theorem zNM (K:Int) (A:Option Addr) (n c:Nat) (L:List Lt) (w:World) (hA:Lets w A n L) :
  Calls Tryz.prog 122 #[.agg #[.int .i64 K,.slice A n c]] w fun e w'=>e=.returned (.int .i64 (zBl K L))∧Below w.heap.size w w':=by
 have hbx:=Boxed.refl w K A n c;have x0:=hbx.c0;have x1:=hbx.c1;go_enter Tryz.func122,Tryz.ntmps122;go_wp2_with fail
 refine (zPN K A n c L _ (hA.below hbx.below)).mono ?_;rintro e w1 ⟨v,rfl,ay,_⟩;have ai:=hbx.more ay;clear x0 x1 hbx ay;go_wp2_with fail
 go_ret;exact ⟨rfl,ai.below⟩
end Go.Proofs.YtlmdfmnbcndhoaaGreatDoor
namespace Go.Proofs.YtlmdfmnbcndhoaaGreatDoor
theorem zWS {L:List Lt} {i:Nat} (hp:isP (la L i)=true):dwn L (i+1) = !dwn L i:=by
 have h:pN L (i+1)=pN L i+1:=zAW hp;unfold dwn;rw [h,Bool.eq_iff_iff];simp;omega
theorem zXl {L:List Lt} {i:Nat} (hp:isP (la L i)=false):dwn L (i+1)=dwn L i:=by
 have h:pN L (i+1)=pN L i:=zAE hp;unfold dwn;rw [h]
section
variable {K:Int} {L:List Lt}
section
variable {X:Nat→Nat}
end
end
end Go.Proofs.YtlmdfmnbcndhoaaGreatDoor
namespace Go.Proofs.YtlmdfmnbcndhoaaGreatDoor
open Go.RowKit
def nxL (L:List Lt) (i:Nat):Lt:=la L ((i+1) % L.length)
def neB (L:List Lt) (i:Nat):Bool:=isP (nxL L i)&&((nxL L i).gate-(la L i).gate==1||(la L i).gate-(nxL L i).gate==1)
def poB (L:List Lt) (i:Nat):Bool:=!(isP (la L i)&&dwn L i)||neB L i
def zEe (L:List Lt):Bool:=zGm (poB L) L.length
theorem zLJ (l:Lt) (w:World):Calls Tryz.prog 168 #[.agg #[.int .i64 l.kind,.int .i64 l.gate,.int .i64 l.rank,.int .i64 l.id,.int .i64 l.sign,.bool l.over]] w fun e w'=>e=.returned (.bool (isP l))∧Below w.heap.size w w':=by
 have hb:=(Below.refl w.heap.size w).alloc (Nat.le_refl _) (.cells #[.int .i64 l.kind,.int .i64 l.gate,.int .i64 l.rank,.int .i64 l.id,.int .i64 l.sign,.bool l.over] 76);have HR:=qH (show isP l=(l.kind==1) from rfl);rw [HR.out];go_enter Tryz.func168,Tryz.ntmps168;go_wp2_with fail
 go_ret;exact ⟨rfl,hb⟩
theorem zKz {l:Lt} {b:Bool} (h:isP l=b) (w:World):Calls Tryz.prog 168 #[.agg #[.int .i64 l.kind,.int .i64 l.gate,.int .i64 l.rank,.int .i64 l.id,.int .i64 l.sign,.bool l.over]] w fun e w'=>e=.returned (.bool b)∧Below w.heap.size w w':=by
 subst h;exact zLJ l w
set_option maxHeartbeats 6400000 in
set_option maxRecDepth 100000 in
theorem zNN (K:Int) (A:Option Addr) (n c:Nat) (L:List Lt) (w:World) (hA:Lets w A n L) (hn:n≤400) (hg:∀i,i < n→isP (la L i)=true→0≤(la L i).gate∧(la L i).gate≤40) :
  Calls Tryz.prog 130 #[.agg #[.int .i64 K,.slice A n c]] w fun e w'=>e=.returned (.bool (zEe L))∧Below w.heap.size w w':=by
 have cq:L.length=n:=hA.len;have ah:=(Below.refl w.heap.size w).alloc (Nat.le_refl _) (.cells #[.int .i64 K,.slice A n c] 55);have hk0:Blk (w.alloc (.cells #[.int .i64 K,.slice A n c] 55)) w.heap.size 55 #[.int .i64 K,.slice A n c]:=Blk.new _ _ _;have oK:(w.alloc (.cells #[.int .i64 K,.slice A n c] 55)).cell? ⟨w.heap.size,1,none⟩=some (.slice A n c):=(hk0.cell 1).trans rfl;have HN:=qH cq;have HG:=qH hg;clear cq hg;go_enter Tryz.func130,Tryz.ntmps130;go_wp2_with fail
 generalize w.alloc (.cells #[.int .i64 K,.slice A n c] 55)=Y at ah hk0 oK ⊢;go_loopw [3,10] (fun v3 mR wr=>∃(i:Nat) (X:World),X=wr∧i≤n∧mR=.int .i64 i∧v3=.bool (!dwn L i)∧Below Y.heap.size Y X∧Hid (∀j,j < i→poB L j=true)) (fun _ mR _=>n-(intOf mR).toNat)
 case atStart=>exact ⟨0,_,rfl,by omega,rfl,rfl,Below.refl _ _,qH (fun j hj=>by omega)⟩
 case round =>
  obtain ⟨i,X,hX,hi,rfl,rfl,hb,HS⟩:=hrel;subst hX;have kD:=(hA.below ah).below hb;by_cases hlt:i < n
  ·have j0:(0:Int)≤(i:Int):=by omega
   have j1:(i:Int) < (n:Int):=by omega
   obtain ⟨g,o,rfl,hgl,hat,hok⟩:=kD.at_ hlt;have x0:=hat.kind;have x1:=hat.gate;have x2:=hat.rank;have x3:=hat.id;have x4:=hat.sign;have x5:=hat.over;obtain ⟨b,hbp⟩:∃b,isP (la L i)=b:=⟨_,rfl⟩
   have vx:=qH (fun wx=>zKz hbp wx);have bh:=(Below.refl X.heap.size X).alloc (Nat.le_refl _) (.cells #[.int .i64 (la L i).kind,.int .i64 (la L i).gate,.int .i64 (la L i).rank,.int .i64 (la L i).id,.int .i64 (la L i).sign,.bool (la L i).over] 76);have zW:Blk (X.alloc (.cells #[.int .i64 (la L i).kind,.int .i64 (la L i).gate,.int .i64 (la L i).rank,.int .i64 (la L i).id,.int .i64 (la L i).sign,.bool (la L i).over] 76)) X.heap.size 76 #[.int .i64 (la L i).kind,.int .i64 (la L i).gate,.int .i64 (la L i).rank,.int .i64 (la L i).id,.int .i64 (la L i).sign,.bool (la L i).over]:=Blk.new _ _ _;have uv:=zAa hb bh hb.size;go_wp2_with fail
   clear x0 x1 x2 x3 x4 x5;generalize X.alloc (.cells #[.int .i64 (la L i).kind,.int .i64 (la L i).gate,.int .i64 (la L i).rank,.int .i64 (la L i).id,.int .i64 (la L i).sign,.bool (la L i).over] 76)=X2 at bh zW uv ⊢;refine (vx.out X2).mono ?_;rintro e X3 ⟨rfl,al⟩;have nd:=zAa uv al uv.size;have py:=zW.below al zW.lt;generalize X.heap.size=b5 at py ⊢;clear bh zW uv al hat;have HBP:=qH hbp
   cases b with
   | false =>
    have hd1:dwn L (i+1)=dwn L i:=zXl hbp
    have fM:=qH (show ∀j,j < i+1→poB L j=true from fun j hj=>by
     rcases Nat.decEq j i with e | e
     ·exact HS.out j (by omega)
     ·rw [e];unfold poB;rw [hbp];rfl)
    have HD:=qH hd1;clear hbp hd1 hok py kD hb;go_wp2_with fail
    go_roundw
    case rel=>exact ⟨i+1,_,rfl,by omega,by go_num,by rw [HD.out],nd,fM⟩
    case measure=>simp [intOf];omega
   | true =>
    have hd1:dwn L (i+1) = !dwn L i:=zWS hbp;have HD:=qH hd1;have hgi:=HG.out i hlt hbp;obtain ⟨t,ht⟩:∃t,t=(i+1) % n:=⟨_,rfl⟩
    have htn:t < n:=by rw [ht];exact Nat.mod_lt _ (by omega)
    obtain ⟨g',o',he,hgl',hat',hok'⟩:=kD.at_ htn;injection he with he
    injection he with he1 he2
    subst he1;subst he2;have iB:=qH (show nxL L i=la L t by unfold nxL;rw [HN.out,←ht]);have hgt:=HG.out t htn;have cc:=hk0.below nd hk0.lt;have uU:=(hA.below ah).below nd;have c3:X3.cell? ⟨w.heap.size,1,none⟩=some (.slice (some ⟨g,o,none⟩) n c):=(cc.cell 1).trans rfl;obtain ⟨y0,y1,y2,y3,y4,y5⟩:=(uU.also htn).1;have q3:((i:Int)+1) % (n:Int)=(t:Int):=by rw [ht];simp
    have iR:((i:Int)+1).tmod (n:Int)=(t:Int):=by rw [Int.tmod_eq_emod_of_nonneg (by omega)];exact q3
    have iQ:IntKind.i64.wrap ((i:Int)+1)=(i:Int)+1:=IntWalk.i64_in _ (by omega);have iP:IntKind.i64.wrap (t:Int)=(t:Int):=IntWalk.i64_in _ (by omega);have Er:¬n=0:=by omega
    have q4:(0:Int)≤(t:Int):=by omega
    have q5:(t:Int) < (n:Int):=by omega
    have bN:=(Below.refl X3.heap.size X3).alloc (Nat.le_refl _) (.cells #[.int .i64 (la L t).kind,.int .i64 (la L t).gate,.int .i64 (la L t).rank,.int .i64 (la L t).id,.int .i64 (la L t).sign,.bool (la L t).over] 76);have kN:Blk (X3.alloc (.cells #[.int .i64 (la L t).kind,.int .i64 (la L t).gate,.int .i64 (la L t).rank,.int .i64 (la L t).id,.int .i64 (la L t).sign,.bool (la L t).over] 76)) X3.heap.size 76 #[.int .i64 (la L t).kind,.int .i64 (la L t).gate,.int .i64 (la L t).rank,.int .i64 (la L t).id,.int .i64 (la L t).sign,.bool (la L t).over]:=Blk.new _ _ _;have lN:=py.below bN py.lt;have pY:=zAa nd bN nd.size;obtain ⟨d,hd⟩:∃d,dwn L i=d:=⟨_,rfl⟩
    rw [hd] at hd1 HD ⊢;have tr:=qH hd;have bZ:=(Below.refl X3.heap.size X3).alloc (Nat.le_refl _) (.cells #[.int .i64 0,.int .i64 0,.int .i64 0,.int .i64 0,.int .i64 0,.bool false] 76);have c3z:(X3.alloc (.cells #[.int .i64 0,.int .i64 0,.int .i64 0,.int .i64 0,.int .i64 0,.bool false] 76)).cell? ⟨w.heap.size,1,none⟩=some (.slice (some ⟨g,o,none⟩) n c):=((cc.below bZ cc.lt).cell 1).trans rfl;obtain ⟨z0,z1,z2,z3,z4,z5⟩:=((uU.below bZ).also htn).1;clear ht hbp hd1 hok kD hb hd bZ;go_upto_region 7 with fail
    go_region
    clear c3 c3z y0 y1 y2 y3 y4 y5 z0 z1 z2 z3 z4 z5 q3 iR iQ iP Er q4 q5 cc uU py bN;generalize X3.alloc (.cells #[.int .i64 (la L t).kind,.int .i64 (la L t).gate,.int .i64 (la L t).rank,.int .i64 (la L t).id,.int .i64 (la L t).sign,.bool (la L t).over] 76)=X4 at kN lN pY ⊢;generalize X3.heap.size=b6 at kN ⊢;have kN:=kN.drew;have lN:=lN.drew;have pY:=pY.drew;generalize X4.drew=X5 at kN lN pY ⊢;obtain ⟨f0,f1,f2,f3,f4,f5⟩:=cQ6 kN
    cases d with
    | false =>
     have pu:poB L i=true:=by unfold poB;rw [tr.out,Bool.and_false];rfl
     have fM:=qH (show ∀j,j < i+1→poB L j=true from fun j hj=>by
      rcases Nat.decEq j i with e | e
      ·exact HS.out j (by omega)
      ·rw [e];exact pu)
     clear pu HS;go_wp2_with fail
     go_roundw
     case rel=>exact ⟨i+1,_,rfl,by omega,by go_num,by rw [HD.out];rfl,pY,fM⟩
     case measure=>simp [intOf];omega
    | true =>
     obtain ⟨p,hp⟩:∃p,isP (la L t)=p:=⟨_,rfl⟩
     have vw:=qH (fun wx=>zKz hp wx);have hpe:poB L i=(p&&((la L t).gate-(la L i).gate==1||(la L i).gate-(la L t).gate==1)):=by
      unfold poB neB;rw [tr.out,HBP.out,iB.out,hp];rfl
     have Dt:=qH hpe;have HP:=qH hp;clear hpe hp
     cases p with
     | false =>
      have HF:=qH (show zEe L=false from zEw (by rw [HN.out];exact hlt) (by rw [Dt.out];rfl));clear HS;go_wp2_with fail
      refine (vw.out X5).mono ?_;rintro e X6 ⟨rfl,aH⟩;have hbw:=zAa ah (zAa pY aH pY.size) ah.size;clear f0 f1 f2 f3 f4 f5 aH;go_wp2_with fail
      go_ret;exact ⟨by rw [HF.out];rfl,hbw⟩
     | true =>
      have BP:=hgt HP.out;obtain ⟨x,hx⟩:∃x,(la L i).gate=x:=⟨_,rfl⟩
      obtain ⟨y,hy⟩:∃y,(la L t).gate=y:=⟨_,rfl⟩
      have Dd:=qH (show poB L i=(y-x==1||x-y==1) by rw [Dt.out,hx,hy];rfl);rw [hx] at hgi lN;rw [hy] at BP f1 kN;clear hgt Dt;have yf:∀q,q=(y-x==1||x-y==1)→q=false→Hid (zEe L=false):=fun q h1 h2=>qH (zEw (by rw [HN.out];exact hlt) (by rw [Dd.out,←h1,h2]))
      have vz:=qH yf
      have fM:=qH (show ∀q,q=(y-x==1||x-y==1)→q=true→∀j,j < i+1→poB L j=true from fun q h1 h2 j hj=>by
       rcases Nat.decEq j i with e | e
       ·exact HS.out j (by omega)
       ·rw [e,Dd.out,←h1,h2])
      have vv:=qH (vw.out X5);rw [hy] at vv;clear yf HS hx hy Dd vw;go_wp2_with fail
      refine vv.out.mono ?_;rintro e X6 ⟨rfl,aH⟩;have B6:=zAa pY aH pY.size;have hbw:=zAa ah B6 ah.size;have k6:=kN.below aH kN.lt;have l6:=lN.below aH lN.lt;clear f0 f1 f2 f3 f4 f5 aH kN lN vv;have f1:X6.cell? ⟨b6,1,none⟩=some (.int .i64 y):=(k6.cell 1).trans rfl;have g1:X6.cell? ⟨b5,1,none⟩=some (.int .i64 x):=(l6.cell 1).trans rfl;have w1:wrap64 (y-x)=y-x:=by unfold wrap64;omega
      have w2:wrap64 (x-y)=x-y:=by unfold wrap64;omega
      have w3:IntKind.i64.wrap (y-x)=y-x:=IntWalk.i64_in _ (by omega);have w4:IntKind.i64.wrap (x-y)=x-y:=IntWalk.i64_in _ (by omega);clear k6 l6;by_cases c1:y-x=1
      ·have d1:(y-x != 1)=false:=by simpa using c1
       have Do:=qH (fM.out true (by simp [c1]) rfl);clear c1 fM;go_wp2_with fail
       go_roundw
       case rel=>exact ⟨i+1,_,rfl,by omega,by go_num,by rw [HD.out];rfl,B6,Do⟩
       case measure=>simp [intOf];omega
      ·have d1:(y-x != 1)=true:=by simpa using c1
       by_cases c2:x-y=1
       ·have d2:(x-y != 1)=false:=by simpa using c2
        have Do:=qH (fM.out true (by simp [c2]) rfl);clear c1 c2 fM;go_wp2_with fail
        go_roundw
        case rel=>exact ⟨i+1,_,rfl,by omega,by go_num,by rw [HD.out];rfl,B6,Do⟩
        case measure=>simp [intOf];omega
       ·have d2:(x-y != 1)=true:=by simpa using c2
        have HF:=vz.out false (by simp [c1,c2]) rfl;clear c1 c2 fM vz;go_wp2_with fail
        go_ret;exact ⟨by rw [HF.out];rfl,hbw⟩
  ·have j1:¬(i:Int) < (n:Int):=by omega
   have hr:=qH (show zEe L=true by
    unfold zEe
    rw [HN.out]
    exact zAI.2 (fun j hj=>HS.out j (by omega)))
   have hbw:=zAa ah hb ah.size;clear hlt HS kD hb;go_wp2_with fail
   go_ret;exact ⟨by rw [hr.out];rfl,hbw⟩
end Go.Proofs.YtlmdfmnbcndhoaaGreatDoor
namespace Go.Proofs.YtlmdfmnbcndhoaaGreatDoor
structure Tame (K:Int) (L:List Lt):Prop where
 lo:0≤K
 hi:K≤40
 len:L.length≤400
 pass:∀i,i < L.length→isP (la L i)=true→0≤(la L i).gate∧(la L i).gate≤K∧1≤(la L i).rank∧(la L i).rank≤400
 kinds:∀i,i < L.length→isP (la L i)=true∨isC (la L i)=true
 sign:∀i,i < L.length→isC (la L i)=true→(la L i).sign=1∨(la L i).sign = -1
theorem zHx {K:Int} {L:List Lt} (h:zBl K L=0):0≤K∧K≤40∧L.length≤400∧(L.length=0∨zBa K L=true):=by
 unfold zBl at h;by_cases h1:400 < L.length∨200 < cN L L.length
 ·rw [if_pos h1] at h;cases h
 ·rw [if_neg h1] at h;by_cases h2:K < 0∨40 < K
  ·rw [if_pos h2] at h;cases h
  ·rw [if_neg h2] at h;by_cases h3:L.length=0
   ·exact ⟨by omega,by omega,by omega,.inl h3⟩
   ·rw [if_neg h3] at h
    cases hv:zBa K L with
    | true=>exact ⟨by omega,by omega,by omega,.inr rfl⟩
    | false=>rw [hv] at h;cases h
theorem zFf {K:Int} {L:List Lt} (h:zBl K L=0):Tame K L:=by
 obtain ⟨h1,h2,h3,h4⟩:=zHx h;rcases h4 with h4 | h4
 ·exact ⟨h1,h2,h3,fun i hi=>by omega,fun i hi=>by omega,fun i hi=>by omega⟩
 ·rcases Nat.eq_zero_or_pos L.length with h0 | h0
  ·exact ⟨h1,h2,h3,fun i hi=>by omega,fun i hi=>by omega,fun i hi=>by omega⟩
  ·have g:=zEE h0 h4;refine ⟨h1,h2,h3,fun i hi hp=>?_,g.kinds,fun i hi hc=>?_⟩
   ·have a1:=g.gates i hi hp;have a2:=g.rank hp;have a3:gN L (la L i).gate L.length≤L.length:=zCF _ _;omega
   ·unfold zBa at h4;rw [←zDa] at h4;simp only [Bool.and_eq_true] at h4;have h5:=h4.1.2.1.1;unfold zAC at h5;have h6:=zAI.1 h5 i hi;have k2:(la L i).kind=2:=by unfold isC at hc;simpa using hc
    unfold lpB at h6;rw [if_neg (by omega),if_pos k2] at h6;simp only [decide_eq_true_eq] at h6;exact h6.2.2
end Go.Proofs.YtlmdfmnbcndhoaaGreatDoor
