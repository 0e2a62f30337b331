/-
  Lemmas, part 30. Conditions: each theorem's own.
-/
import Derived.Test.YtlmdfmnbcndhoaaGreatDoorRi29
import Derived.Test.YtlmdfmnbcndhoaaGreatDoorRi10
import Derived.Test.YtlmdfmnbcndhoaaGreatDoorRi24
namespace Go.Proofs.YtlmdfmnbcndhoaaGreatDoor
open Go.RowKit
def zIb (p:Nat):Array Value:=#[.func (.func 175) #[.pointer (some ⟨p,0,none⟩)] #[],.func (.func 176) #[.pointer (some ⟨p,0,none⟩)] #[],.func (.func 177) #[.pointer (some ⟨p,0,none⟩)] #[],.func (.func 178) #[.pointer (some ⟨p,0,none⟩)] #[],.func (.func 179) #[.pointer (some ⟨p,0,none⟩)] #[]]
theorem zVq:(Tryz.prog.info? 26).map (fun i=>(i.zero,i.size,i.bytes))=some (some .nilFunc,1,8):=by kernel_rfl
theorem buildV (p:Nat) (w:World):(Instr.buildSlice 215 5 #[(0,.func (.func 175) #[.pointer (some ⟨p,0,none⟩)] #[]),(1,.func (.func 176) #[.pointer (some ⟨p,0,none⟩)] #[]),(2,.func (.func 177) #[.pointer (some ⟨p,0,none⟩)] #[]),(3,.func (.func 178) #[.pointer (some ⟨p,0,none⟩)] #[]),(4,.func (.func 179) #[.pointer (some ⟨p,0,none⟩)] #[])]).run Tryz.prog w=.ok (.slice (some ⟨w.heap.size,0,none⟩) 5 5) (w.alloc (.cells (zIb p) 26)):=by
 obtain ⟨i0,hi,hz0,hz1,hz2⟩:=info_parts zVq;refine run_buildSlice w _ _ 5 _ _ i0 _ Tryz.underlying215 hi hz0 (by rw [hz1];omega) (by rw [hz1];omega) ?_;rw [hz1]
 kernel_rfl
def VS (w:World) (p k:Nat) (A:Option Addr) (n c:Nat) (L:List Lt) (v2 v3 v4 v5 v6:Value) (i:Nat) (wr:World):Prop :=
 (i=0∧Dia wr p (k:Int) A n c v2 v3 v4 v5 v6)∨(i=1∧zAz (k:Int) L=true∧Dia wr p (k:Int) A n c v2 v3 v4 v5 v6) ∨
 (i=2∧zAz (k:Int) L=true∧(isP (la L 0)&&decide (pN L n % 2=0))=true∧Dia wr p (k:Int) A n c v2 v3 v4 v5 v6) ∨
 (i=3∧zAz (k:Int) L=true∧(isP (la L 0)&&decide (pN L n % 2=0))=true∧zCg L=true∧∃base g2 g3 g4 g6 s P C,w.heap.size≤base∧DiaR wr base p k A n c L v5 g2 g3 g4 g6 s P C) ∨
 (i=4∧zAz (k:Int) L=true∧(isP (la L 0)&&decide (pN L n % 2=0))=true∧zCg L=true∧zBA L=true∧∃base b g2 g3 g4 g6 s P C ids,w.heap.size≤base∧DiaF wr base p k A n c L b g2 g3 g4 g6 s P C ids) ∨
 (i=5∧zBa (k:Int) L=true∧∃base b g2 g3 g4 g6 s P C ids,w.heap.size≤base∧DiaF wr base p k A n c L b g2 g3 g4 g6 s P C ids)
def zKf (w:World) (p k:Nat) (A:Option Addr) (n c:Nat) (L:List Lt) (v2 v3 v4 v5 v6:Value) (e:Ending) (w':World):Prop :=
 e=.returned (.bool (decide (n=0)||zBa (k:Int) L))∧w.grownBy w' (some p)∧(n=0→Dia w' p (k:Int) A n c v2 v3 v4 v5 v6) ∧
 (0 < n→zBa (k:Int) L=true→∃base b g2 g3 g4 g6 s P C ids,w.heap.size≤base∧DiaF w' base p k A n c L b g2 g3 g4 g6 s P C ids)
theorem zEY {K:Int} {L:List Lt} {n:Nat} (hL:L.length=n) (h:zAz K L=false∨(isP (la L 0)&&decide (pN L n % 2=0))=false∨zCg L=false∨zBA L=false∨zKz L=false):zBa K L=false:=by
 unfold zBa;rw [←zCW,hL];rcases h with h | h | h | h | h<;>rw [h]<;>simp
theorem zPi {K:Int} {L:List Lt} {n:Nat} (hL:L.length=n) (h1:zAz K L=true) (h2:(isP (la L 0)&&decide (pN L n % 2=0))=true) (h3:zCg L=true) (h4:zBA L=true) (h5:zKz L=true):zBa K L=true:=by
 unfold zBa;rw [←zCW,hL,h1,h2,h3,h4,h5];rfl
theorem DiaR.grown {w w':World} {base p k:Nat} {A:Option Addr} {n c:Nat} {L:List Lt} {v5 v5':Value} {g2 g3 g4 g6:Nat} {s:List Bool} {P C:List Int} (h:DiaR w base p k A n c L v5 g2 g3 g4 g6 s P C) (hb:p < base) (hg:w.grownBy w' (some p))
  (hd:Dia w' p (k:Int) A n c (.slice (some ⟨g2,0,none⟩) n n) (.slice (some ⟨g3,0,none⟩) (axL L).length (axL L).length) (.slice (some ⟨g4,0,none⟩) n n) v5' (.slice (some ⟨g6,0,none⟩) (k+1) (k+1))):DiaR w' base p k A n c L v5' g2 g3 g4 g6 s P C :=
 ⟨hd,h.down.kept hg (by have:=h.down.base;simp;omega),h.axis.kept hg (by have:=h.axis.base;simp;omega),h.place.kept hg (by have:=h.place.base;simp;omega),h.count.kept hg (by have:=h.count.base;simp;omega),h.downs,h.places,h.counts,h.ndown⟩
set_option maxRecDepth 100000 in
set_option maxHeartbeats 6400000 in
theorem zKg (p k:Nat) (A:Option Addr) (n c:Nat) (L:List Lt) (v2 v3 v4 v5 v6:Value) (w:World) (hA:Lets w A n L) (hn:n≤400) (hk40:k≤40)
  (hpA:0 < n→∀a,A=some a→p≠a.block) (hd:Dia w p (k:Int) A n c v2 v3 v4 v5 v6) :
  Calls Tryz.prog 142 #[.pointer (some ⟨p,0,none⟩)] w (zKf w p k A n c L v2 v3 v4 v5 v6):=by
 have hLn:=hA.len;have hHL:=qH hLn;have c1:=hd.c1;have hplt:=hd.lt;rcases Nat.eq_zero_or_pos n with h0 | h0
 ·subst h0;clear hLn;go_enter Tryz.func142,Tryz.ntmps142;go_wp2_with fail
  go_ret;exact ⟨rfl,World.grownBy.refl _ _,fun _=>hd,fun h=>by omega⟩
 ·have h00:((n:Int)==0)=false:=by simp;omega
  have hpA:=hpA h0;have hdn:decide (n=0)=false:=by simp;omega
  have hB0:Blk (w.alloc (.cells (zIb p) 26)) w.heap.size 26 (zIb p):=Blk.new _ _ _;have hD0:=hd.alloc (.cells (zIb p) 26);have hg0:w.grownBy (w.alloc (.cells (zIb p) 26)) (some p):=World.grownBy_alloc _ _ _;clear hLn;unfold zKf;rw [hdn,Bool.false_or];go_enter Tryz.func142,Tryz.ntmps142;go_wp2_with fail
  go_loopw [4,24] (fun _ v24 wr=>∃i:Nat,i≤5∧v24=.int .i64 i∧VS w p k A n c L v2 v3 v4 v5 v6 i wr∧w.grownBy wr (some p)∧Blk wr w.heap.size 26 (zIb p)) (fun _ v24 _=>5-(intOf v24).toNat)
  case atStart=>exact ⟨0,by omega,rfl,.inl ⟨rfl,hD0⟩,hg0,hB0⟩
  case round =>
   obtain ⟨i,hi,rfl,hV,hg,hB⟩:=hrel;clear hB0 hD0 hg0 hd c1;have hAr:=hA.growG hg (fun a ha e=>hpA a ha (by injection e));have hsz:=hg.size;obtain ⟨e0,e1,e2,e3,e4⟩:=cQ5 hB;rcases hV with ⟨rfl,hD⟩ | ⟨rfl,t1,hD⟩ | ⟨rfl,t1,t2,hD⟩ | ⟨rfl,t1,t2,t3,base,g2,g3,g4,g6,s,P,C,hbase,hR⟩ | ⟨rfl,t1,t2,t3,t4,base,b,g2,g3,g4,g6,s,P,C,ids,hbase,hF⟩ | ⟨rfl,tv,base,b,g2,g3,g4,g6,s,P,C,ids,hbase,hF⟩
   ·clear e1 e2 e3 e4
    cases hx:zAz (k:Int) L with
    | true =>
     have HX:=qH hx;go_wp2_with fail
     refine (zHi p (k:Int) A n c L _ _ _ _ _ _ hAr hD).mono ?_;rintro e w1 ⟨rfl,hb1⟩;have hD1:=hD.next hb1;have hB1:=hB.below hb1 hB.lt;have hg1:=zAn hg hb1 hg.size;rw [hx];clear hx hD hB hg;go_wp2_with fail
     go_roundw
     case rel=>exact ⟨1,by omega,by go_num,.inr (.inl ⟨rfl,HX.out,hD1⟩),hg1,hB1⟩
     case measure=>simp [intOf]
    | false =>
     have HX:=qH (zEY hHL.out (.inl hx));go_wp2_with fail
     refine (zHi p (k:Int) A n c L _ _ _ _ _ _ hAr hD).mono ?_;rintro e w1 ⟨rfl,hb1⟩;have hg1:=zAn hg hb1 hg.size;rw [hx];clear hx hD hB hg;go_wp2_with fail
     go_ret;exact ⟨zAl HX.out.symm,hg1,fun h=>by omega,fun _ h=>by rw [HX.out] at h;cases h⟩
   ·clear e0 e2 e3 e4;have T1:=qH t1;clear t1
    cases hx:(isP (la L 0)&&decide (pN L n % 2=0)) with
    | true =>
     have HX:=qH hx;go_wp2_with fail
     refine (zHZ p (k:Int) A n c L _ _ _ _ _ _ hAr h0 hD).mono ?_;rintro e w1 ⟨rfl,hb1⟩;have hD1:=hD.next hb1;have hB1:=hB.below hb1 hB.lt;have hg1:=zAn hg hb1 hg.size;rw [hx];clear hx hD hB hg;go_wp2_with fail
     go_roundw
     case rel=>exact ⟨2,by omega,by go_num,.inr (.inr (.inl ⟨rfl,T1.out,HX.out,hD1⟩)),hg1,hB1⟩
     case measure=>simp [intOf]
    | false =>
     have HX:=qH (zEY (K:=(k:Int)) hHL.out (.inr (.inl hx)));go_wp2_with fail
     refine (zHZ p (k:Int) A n c L _ _ _ _ _ _ hAr h0 hD).mono ?_;rintro e w1 ⟨rfl,hb1⟩;have hg1:=zAn hg hb1 hg.size;rw [hx];clear hx hD hB hg;go_wp2_with fail
     go_ret;exact ⟨zAl HX.out.symm,hg1,fun h=>by omega,fun _ h=>by rw [HX.out] at h;cases h⟩
   ·clear e0 e1 e3 e4;have T1:=qH t1;have T2:=qH t2;clear t1 t2
    cases hx:zCg L with
    | true =>
     have HX:=qH hx;go_wp2_with fail
     refine (zKe p k A n c L _ _ _ _ _ _ hAr hn hk40 T1.out hpA hD).mono ?_;rintro e w1 ⟨rfl,hg1,hr⟩;have hB1:=hB.grown hg1 (by simp;omega);have hg2:=zAb hg hg1;obtain ⟨g2,g3,g4,g6,s,P,C,hR⟩:=hr hx;rw [hx];clear hx hD hB hg hr;go_wp2_with fail
     go_roundw
     case rel=>exact ⟨3,by omega,by go_num,.inr (.inr (.inr (.inl ⟨rfl,T1.out,T2.out,HX.out,_,g2,g3,g4,g6,s,P,C,hsz,hR⟩))),hg2,hB1⟩
     case measure=>simp [intOf]
    | false =>
     have HX:=qH (zEY (K:=(k:Int)) hHL.out (.inr (.inr (.inl hx))));go_wp2_with fail
     refine (zKe p k A n c L _ _ _ _ _ _ hAr hn hk40 T1.out hpA hD).mono ?_;rintro e w1 ⟨rfl,hg1,hr⟩;have hg2:=zAb hg hg1;rw [hx];clear hx hD hB hg hr;go_wp2_with fail
     go_ret;exact ⟨zAl HX.out.symm,hg2,fun h=>by omega,fun _ h=>by rw [HX.out] at h;cases h⟩
   ·clear e0 e1 e2 e4;have T1:=qH t1;have T2:=qH t2;have T3:=qH t3;clear t1 t2 t3;have hD:=hR.dia
    cases hx:zBA L with
    | true =>
     have HX:=qH hx;go_wp2_with fail
     refine (zEX p (k:Int) A n c L _ _ _ _ _ _ hAr hn hpA hD).mono ?_;rintro e w1 ⟨rfl,hg1,hr⟩;have hB1:=hB.grown hg1 (by simp;omega);have hg2:=zAb hg hg1;obtain ⟨b,ids,hbb,hD1,hV1⟩:=hr hx;have hR1:=hR.grown (by omega) hg1 hD1;have hL1:=hAr.growG hg1 (fun a ha e=>hpA a ha (by injection e));have hF1:DiaF w1 base p k A n c L b g2 g3 g4 g6 s P C ids:=⟨hR1,hV1,hL1,zEz (by rw [hHL.out];exact h0) (by have:=T2.out;simp at this;exact this.1) (by have:=T2.out;simp at this;rw [hHL.out];exact this.2) T1.out T3.out HX.out,hn⟩;rw [hx];clear hx hD hB hg hr hD1 hV1 hR1 hL1 hR;go_wp2_with fail
     go_roundw
     case rel=>exact ⟨4,by omega,by go_num,.inr (.inr (.inr (.inr (.inl ⟨rfl,T1.out,T2.out,T3.out,HX.out,base,b,g2,g3,g4,g6,s,P,C,ids,hbase,hF1⟩)))),hg2,hB1⟩
     case measure=>simp [intOf]
    | false =>
     have HX:=qH (zEY (K:=(k:Int)) hHL.out (.inr (.inr (.inr (.inl hx)))));go_wp2_with fail
     refine (zEX p (k:Int) A n c L _ _ _ _ _ _ hAr hn hpA hD).mono ?_;rintro e w1 ⟨rfl,hg1,hr⟩;have hg2:=zAb hg hg1;rw [hx];clear hx hD hB hg hr hR;go_wp2_with fail
     go_ret;exact ⟨zAl HX.out.symm,hg2,fun h=>by omega,fun _ h=>by rw [HX.out] at h;cases h⟩
   ·clear e0 e1 e2 e3;have T1:=qH t1;have T2:=qH t2;have T3:=qH t3;have T4:=qH t4;clear t1 t2 t3 t4
    cases hx:zKz L with
    | true =>
     have HX:=qH (zPi hHL.out T1.out T2.out T3.out T4.out hx);go_wp2_with fail
     refine (zMf base p k A n c L b g2 g3 g4 g6 s P C ids _ hF).mono ?_;rintro e w1 ⟨rfl,hb1⟩;have hF1:=hF.next hb1;have hB1:=hB.below hb1 hB.lt;have hg1:=zAn hg hb1 hg.size;rw [hx];clear hx hB hg hF;go_wp2_with fail
     go_roundw
     case rel=>exact ⟨5,by omega,by go_num,.inr (.inr (.inr (.inr (.inr ⟨rfl,HX.out,base,b,g2,g3,g4,g6,s,P,C,ids,hbase,hF1⟩)))),hg1,hB1⟩
     case measure=>simp [intOf]
    | false =>
     have HX:=qH (zEY (K:=(k:Int)) hHL.out (.inr (.inr (.inr (.inr hx)))));go_wp2_with fail
     refine (zMf base p k A n c L b g2 g3 g4 g6 s P C ids _ hF).mono ?_;rintro e w1 ⟨rfl,hb1⟩;have hg1:=zAn hg hb1 hg.size;rw [hx];clear hx hB hg hF;go_wp2_with fail
     go_ret;exact ⟨zAl HX.out.symm,hg1,fun h=>by omega,fun _ h=>by rw [HX.out] at h;cases h⟩
   ·have TV:=qH tv;clear tv e0 e1 e2 e3 e4;go_wp2_with fail
    go_ret;exact ⟨zAl TV.out.symm,hg,fun h=>by omega,fun _ _=>⟨base,b,g2,g3,g4,g6,s,P,C,ids,hbase,hF⟩⟩
end Go.Proofs.YtlmdfmnbcndhoaaGreatDoor
namespace Go.Proofs.YtlmdfmnbcndhoaaGreatDoor
open Go.RowKit
def zVr (w:World) (K:Int) (A:Option Addr) (n c:Nat) (L:List Lt) (p:Nat) (w':World):Prop :=
 ∃k:Nat,K=(k:Int)∧k≤40∧n≤400∧w.heap.size≤p ∧
  ((n=0∧Dia w' p K A n c (.slice none 0 0) (.slice none 0 0) (.slice none 0 0) (.map none) (.slice none 0 0))∨(0 < n∧∃base b g2 g3 g4 g6 s P C ids,w.heap.size≤base∧DiaF w' base p k A n c L b g2 g3 g4 g6 s P C ids))
def zRk (w:World) (K:Int) (A:Option Addr) (n c:Nat) (L:List Lt) (e:Ending) (w':World):Prop :=
 ∃v,e=.returned (.tuple #[v,.int .i64 (zBk K L)])∧Below w.heap.size w w'∧(zBk K L=0→∃p,v=.pointer (some ⟨p,0,none⟩)∧zVr w K A n c L p w')
theorem zVs {K:Int} {L:List Lt} (h:400 < L.length∨200 < cN L L.length):zBk K L=7:=by unfold zBk;rw [if_pos h]
theorem zWs {K:Int} {L:List Lt} (h:¬(400 < L.length∨200 < cN L L.length)) (h2:K < 0∨40 < K):zBk K L=2:=by unfold zBk;rw [if_neg h,if_pos h2]
theorem zWt {K:Int} {L:List Lt} {n:Nat} (hL:L.length=n) (h:¬(400 < L.length∨200 < cN L L.length)) (h2:¬(K < 0∨40 < K)):zBk K L=if (decide (n=0)||zBa K L)=true then 0 else 3:=by
 unfold zBk;rw [if_neg h,if_neg h2];subst hL;by_cases h3:L.length=0
 ·rw [if_pos h3,if_pos (by simp [h3])]
 ·rw [if_neg h3]
  cases zBa K L<;>simp [h3]
set_option maxRecDepth 100000 in
set_option maxHeartbeats 6400000 in
theorem zPj (K:Int) (A:Option Addr) (n c:Nat) (L:List Lt) (w:World) (hA:Lets w A n L) :
  Calls Tryz.prog 95 #[.agg #[.int .i64 K,.slice A n c]] w (zRk w K A n c L):=by
 have hle:=hA.le;have hLn:L.length=n:=hA.len;have hbx:=Boxed.refl w K A n c;by_cases h400:400 < n
 ·have hf:=qH (zVs (K:=K) (L:=L) (.inl (by omega)));have q:(400:Int) < (n:Int):=by omega
  clear hLn;go_enter Tryz.func95,Tryz.ntmps95;go_wp2_with fail
  go_ret2;exact ⟨.pointer none,by rw [hf.out];rfl,hbx.below,fun h=>by rw [hf.out] at h;cases h⟩
 ·have q:decide ((400:Int) < (n:Int))=false:=by simp;omega
  by_cases h200:200 < cN L n
  ·have hf:=qH (zVs (K:=K) (L:=L) (.inr (by rw [hLn];exact h200)));have q2:(200:Int) < (cN L n:Int):=by omega
   clear hLn;go_enter Tryz.func95,Tryz.ntmps95;go_wp2_with fail
   refine (zBr K A n c L _ (hA.below hbx.below)).mono ?_;rintro e w1 ⟨rfl,hb1⟩;have hb2:=hbx.more hb1;go_wp2_with fail
   go_ret2;exact ⟨.pointer none,by rw [hf.out];rfl,hb2.below,fun h=>by rw [hf.out] at h;cases h⟩
  ·have q2:decide ((200:Int) < (cN L n:Int))=false:=by simp;omega
   have hno:¬(400 < L.length∨200 < cN L L.length):=by rw [hLn];omega
   by_cases hK:K < 0∨40 < K
   ·have hf:=qH (zWs (K:=K) (L:=L) hno hK);have hall:K < 0∨(decide (K < 0)=false∧40 < K):=by simp;omega
    clear hK hLn hno;rcases hall with k1 | ⟨k1,k2⟩
    all_goals
     go_enter Tryz.func95,Tryz.ntmps95;go_wp2_with fail
     refine (zBr K A n c L _ (hA.below hbx.below)).mono ?_;rintro e w1 ⟨rfl,hb1⟩;have hb2:=hbx.more hb1;have x0:=hb2.c0;have x1:=hb2.c1;go_wp2_with fail
     go_ret2;exact ⟨.pointer none,by rw [hf.out];rfl,hb2.below,fun h=>by rw [hf.out] at h;cases h⟩
   ·have k1:decide (K < 0)=false:=by simp;omega
    have k2:decide (40 < K)=false:=by simp;omega
    have hf:=zWt hLn hno hK;obtain ⟨k,rfl⟩:∃k:Nat,K=(k:Int):=⟨K.toNat,by omega⟩
    have hk40:k≤40:=by omega
    clear hno hK hLn
    cases hv:(decide (n=0)||zBa (k:Int) L) with
    | true =>
     rw [hv,if_pos rfl] at hf;have HF:=qH hf;have HV:=qH hv;clear hf hv;go_enter Tryz.func95,Tryz.ntmps95;go_wp2_with fail
     refine (zBr (k:Int) A n c L _ (hA.below hbx.below)).mono ?_;rintro e w1 ⟨rfl,hb1⟩;have hb2:=hbx.more hb1;have x0:=hb2.c0;have x1:=hb2.c1;have hAw:=hA.below hb2.below;have hs2:=hb2.size;have hpA:0 < n→∀a,A=some a→w1.heap.size≠a.block:=fun hn a ha=>by
      obtain ⟨g,o,e,hg,_⟩:=hAw.2.2.2 hn;rw [ha] at e;injection e with e
      subst e;simp;omega
     have HPA:=qH hpA;clear hpA;go_wp2_with fail
     refine (zKg w1.heap.size k A n c L (.slice none 0 0) (.slice none 0 0) (.slice none 0 0) (.map none) (.slice none 0 0) _ (hAw.alloc _) (by omega) hk40 HPA.out (Blk.new w1 _ _)).mono ?_;rintro e w2 ⟨rfl,hg2,hz,hF2⟩;have h5:Below w1.heap.size w1 w2:=((Below.refl _ _).alloc (Nat.le_refl _) _).trans (zBC hg2 (Nat.le_refl _) (by simp));have h6:=zAa hb2.below h5 (by omega);rw [HV.out];have HZ:=qH hz;have HF2:=qH hF2;clear x0 x1 hb2 hb1 hbx hg2 hz hF2 hAw h5;go_wp2_with fail
     go_ret2;refine ⟨.pointer (some ⟨w1.heap.size,0,none⟩),by rw [HF.out];rfl,h6,fun _=>⟨w1.heap.size,rfl,k,rfl,hk40,by omega,by omega,?_⟩⟩;rcases Nat.eq_zero_or_pos n with h0 | h0
     ·exact .inl ⟨h0,HZ.out h0⟩
     ·have hv:=HV.out;rw [show decide (n=0)=false by simp;omega,Bool.false_or] at hv;obtain ⟨base,b,g2,g3,g4,g6,s,P,C,ids,hbase,hF⟩:=HF2.out h0 hv;have hsz:(w1.alloc (.cells #[.int .i64 (k:Int),.slice A n c,.slice none 0 0,.slice none 0 0,.slice none 0 0,.map none,.slice none 0 0] 148)).heap.size=w1.heap.size+1:=by simp
      exact .inr ⟨h0,base,b,g2,g3,g4,g6,s,P,C,ids,by omega,hF⟩
    | false =>
     rw [hv] at hf;have HF:=qH (show zBk (k:Int) L=3 from hf);have HV:=qH hv;clear hf hv;go_enter Tryz.func95,Tryz.ntmps95;go_wp2_with fail
     refine (zBr (k:Int) A n c L _ (hA.below hbx.below)).mono ?_;rintro e w1 ⟨rfl,hb1⟩;have hb2:=hbx.more hb1;have x0:=hb2.c0;have x1:=hb2.c1;have hAw:=hA.below hb2.below;have hs2:=hb2.size;have hpA:0 < n→∀a,A=some a→w1.heap.size≠a.block:=fun hn a ha=>by
      obtain ⟨g,o,e,hg,_⟩:=hAw.2.2.2 hn;rw [ha] at e;injection e with e
      subst e;simp;omega
     have HPA:=qH hpA;clear hpA;go_wp2_with fail
     refine (zKg w1.heap.size k A n c L (.slice none 0 0) (.slice none 0 0) (.slice none 0 0) (.map none) (.slice none 0 0) _ (hAw.alloc _) (by omega) hk40 HPA.out (Blk.new w1 _ _)).mono ?_;rintro e w2 ⟨rfl,hg2,hz,hF2⟩;have h5:Below w1.heap.size w1 w2:=((Below.refl _ _).alloc (Nat.le_refl _) _).trans (zBC hg2 (Nat.le_refl _) (by simp));have h6:=zAa hb2.below h5 (by omega);rw [HV.out];have HZ:=qH hz;have HF2:=qH hF2;clear x0 x1 hb2 hb1 hbx hg2 hz hF2 hAw h5;go_wp2_with fail
     go_ret2;exact ⟨.pointer none,by rw [HF.out];rfl,h6,fun h=>by rw [HF.out] at h;cases h⟩
set_option maxHeartbeats 800000 in
theorem zNk (K:Int) (A:Option Addr) (n c:Nat) (L:List Lt) (w:World) (hA:Lets w A n L) :
  Calls Tryz.prog 122 #[.agg #[.int .i64 K,.slice A n c]] w fun e w'=>e=.returned (.int .i64 (zBk K L))∧Below w.heap.size w w':=by
 have hbx:=Boxed.refl w K A n c;have x0:=hbx.c0;have x1:=hbx.c1;go_enter Tryz.func122,Tryz.ntmps122;go_wp2_with fail
 refine (zPj K A n c L _ (hA.below hbx.below)).mono ?_;rintro e w1 ⟨v,rfl,hb1,_⟩;have hb2:=hbx.more hb1;clear x0 x1 hbx hb1;go_wp2_with fail
 go_ret;exact ⟨rfl,hb2.below⟩
end Go.Proofs.YtlmdfmnbcndhoaaGreatDoor
namespace Go.Proofs.YtlmdfmnbcndhoaaGreatDoor
theorem zWb {L:List Lt} {i:Nat} (hp:isP (la L i)=true):dwn L (i+1) = !dwn L i:=by
 have h:pN L (i+1)=pN L i+1:=zAR hp;unfold dwn;rw [h,Bool.eq_iff_iff];simp;omega
theorem zWu {L:List Lt} {i:Nat} (hp:isP (la L i)=false):dwn L (i+1)=dwn L i:=by
 have h:pN L (i+1)=pN L i:=zAB hp;unfold dwn;rw [h]
section
variable {K:Int} {L:List Lt}
section
variable {X:Nat→Nat}
end
end
end Go.Proofs.YtlmdfmnbcndhoaaGreatDoor
namespace Go.Proofs.YtlmdfmnbcndhoaaGreatDoor
open Go.RowKit
def nxL (L:List Lt) (i:Nat):Lt:=la L ((i+1) % L.length)
def neB (L:List Lt) (i:Nat):Bool:=isP (nxL L i)&&((nxL L i).gate-(la L i).gate==1||(la L i).gate-(nxL L i).gate==1)
def poB (L:List Lt) (i:Nat):Bool:=!(isP (la L i)&&dwn L i)||neB L i
def zDZ (L:List Lt):Bool:=zFX (poB L) L.length
theorem zLl (l:Lt) (w:World):Calls Tryz.prog 168 #[.agg #[.int .i64 l.kind,.int .i64 l.gate,.int .i64 l.rank,.int .i64 l.id,.int .i64 l.sign,.bool l.over]] w fun e w'=>e=.returned (.bool (isP l))∧Below w.heap.size w w':=by
 have hb:=(Below.refl w.heap.size w).alloc (Nat.le_refl _) (.cells #[.int .i64 l.kind,.int .i64 l.gate,.int .i64 l.rank,.int .i64 l.id,.int .i64 l.sign,.bool l.over] 76);have HR:=qH (show isP l=(l.kind==1) from rfl);rw [HR.out];go_enter Tryz.func168,Tryz.ntmps168;go_wp2_with fail
 go_ret;exact ⟨rfl,hb⟩
theorem zKh {l:Lt} {b:Bool} (h:isP l=b) (w:World):Calls Tryz.prog 168 #[.agg #[.int .i64 l.kind,.int .i64 l.gate,.int .i64 l.rank,.int .i64 l.id,.int .i64 l.sign,.bool l.over]] w fun e w'=>e=.returned (.bool b)∧Below w.heap.size w w':=by
 subst h;exact zLl l w
set_option maxHeartbeats 6400000 in
set_option maxRecDepth 100000 in
theorem zNl (K:Int) (A:Option Addr) (n c:Nat) (L:List Lt) (w:World) (hA:Lets w A n L) (hn:n≤400) (hg:∀i,i < n→isP (la L i)=true→0≤(la L i).gate∧(la L i).gate≤40) :
  Calls Tryz.prog 130 #[.agg #[.int .i64 K,.slice A n c]] w fun e w'=>e=.returned (.bool (zDZ L))∧Below w.heap.size w w':=by
 have hLn:L.length=n:=hA.len;have hb0:=(Below.refl w.heap.size w).alloc (Nat.le_refl _) (.cells #[.int .i64 K,.slice A n c] 55);have hk0:Blk (w.alloc (.cells #[.int .i64 K,.slice A n c] 55)) w.heap.size 55 #[.int .i64 K,.slice A n c]:=Blk.new _ _ _;have hc1:(w.alloc (.cells #[.int .i64 K,.slice A n c] 55)).cell? ⟨w.heap.size,1,none⟩=some (.slice A n c):=(hk0.cell 1).trans rfl;have HN:=qH hLn;have HG:=qH hg;clear hLn hg;go_enter Tryz.func130,Tryz.ntmps130;go_wp2_with fail
 generalize w.alloc (.cells #[.int .i64 K,.slice A n c] 55)=Y at hb0 hk0 hc1 ⊢;go_loopw [3,10] (fun v3 v10 wr=>∃(i:Nat) (X:World),X=wr∧i≤n∧v10=.int .i64 i∧v3=.bool (!dwn L i)∧Below Y.heap.size Y X∧Hid (∀j,j < i→poB L j=true)) (fun _ v10 _=>n-(intOf v10).toNat)
 case atStart=>exact ⟨0,_,rfl,by omega,rfl,rfl,Below.refl _ _,qH (fun j hj=>by omega)⟩
 case round =>
  obtain ⟨i,X,hX,hi,rfl,rfl,hb,HS⟩:=hrel;subst hX;have hA2:=(hA.below hb0).below hb;by_cases hlt:i < n
  ·have j0:(0:Int)≤(i:Int):=by omega
   have j1:(i:Int) < (n:Int):=by omega
   obtain ⟨g,o,rfl,hgl,hat,hok⟩:=hA2.at_ hlt;have x0:=hat.kind;have x1:=hat.gate;have x2:=hat.rank;have x3:=hat.id;have x4:=hat.sign;have x5:=hat.over;obtain ⟨b,hbp⟩:∃b,isP (la L i)=b:=⟨_,rfl⟩
   have HIP:=qH (fun wx=>zKh hbp wx);have hbX:=(Below.refl X.heap.size X).alloc (Nat.le_refl _) (.cells #[.int .i64 (la L i).kind,.int .i64 (la L i).gate,.int .i64 (la L i).rank,.int .i64 (la L i).id,.int .i64 (la L i).sign,.bool (la L i).over] 76);have hl5:Blk (X.alloc (.cells #[.int .i64 (la L i).kind,.int .i64 (la L i).gate,.int .i64 (la L i).rank,.int .i64 (la L i).id,.int .i64 (la L i).sign,.bool (la L i).over] 76)) X.heap.size 76 #[.int .i64 (la L i).kind,.int .i64 (la L i).gate,.int .i64 (la L i).rank,.int .i64 (la L i).id,.int .i64 (la L i).sign,.bool (la L i).over]:=Blk.new _ _ _;have hbY:=zAa hb hbX hb.size;go_wp2_with fail
   clear x0 x1 x2 x3 x4 x5;generalize X.alloc (.cells #[.int .i64 (la L i).kind,.int .i64 (la L i).gate,.int .i64 (la L i).rank,.int .i64 (la L i).id,.int .i64 (la L i).sign,.bool (la L i).over] 76)=X2 at hbX hl5 hbY ⊢;refine (HIP.out X2).mono ?_;rintro e X3 ⟨rfl,hb3⟩;have hbZ:=zAa hbY hb3 hbY.size;have hl6:=hl5.below hb3 hl5.lt;generalize X.heap.size=b5 at hl6 ⊢;clear hbX hl5 hbY hb3 hat;have HBP:=qH hbp
   cases b with
   | false =>
    have hd1:dwn L (i+1)=dwn L i:=zWu hbp
    have HS2:=qH (show ∀j,j < i+1→poB L j=true from fun j hj=>by
     rcases Nat.decEq j i with e | e
     ·exact HS.out j (by omega)
     ·rw [e];unfold poB;rw [hbp];rfl)
    have HD:=qH hd1;clear hbp hd1 hok hl6 hA2 hb;go_wp2_with fail
    go_roundw
    case rel=>exact ⟨i+1,_,rfl,by omega,by go_num,by rw [HD.out],hbZ,HS2⟩
    case measure=>simp [intOf];omega
   | true =>
    have hd1:dwn L (i+1) = !dwn L i:=zWb hbp;have HD:=qH hd1;have hgi:=HG.out i hlt hbp;obtain ⟨t,ht⟩:∃t,t=(i+1) % n:=⟨_,rfl⟩
    have htn:t < n:=by rw [ht];exact Nat.mod_lt _ (by omega)
    obtain ⟨g',o',he,hgl',hat',hok'⟩:=hA2.at_ htn;injection he with he
    injection he with he1 he2
    subst he1;subst he2;have HNX:=qH (show nxL L i=la L t by unfold nxL;rw [HN.out,←ht]);have hgt:=HG.out t htn;have hk3:=hk0.below hbZ hk0.lt;have hA3:=(hA.below hb0).below hbZ;have c3:X3.cell? ⟨w.heap.size,1,none⟩=some (.slice (some ⟨g,o,none⟩) n c):=(hk3.cell 1).trans rfl;obtain ⟨y0,y1,y2,y3,y4,y5⟩:=(hA3.also htn).1;have q3:((i:Int)+1) % (n:Int)=(t:Int):=by rw [ht];simp
    have q11:((i:Int)+1).tmod (n:Int)=(t:Int):=by rw [Int.tmod_eq_emod_of_nonneg (by omega)];exact q3
    have q16:IntKind.i64.wrap ((i:Int)+1)=(i:Int)+1:=IntWalk.i64_in _ (by omega);have q17:IntKind.i64.wrap (t:Int)=(t:Int):=IntWalk.i64_in _ (by omega);have q20:¬n=0:=by omega
    have q4:(0:Int)≤(t:Int):=by omega
    have q5:(t:Int) < (n:Int):=by omega
    have bN:=(Below.refl X3.heap.size X3).alloc (Nat.le_refl _) (.cells #[.int .i64 (la L t).kind,.int .i64 (la L t).gate,.int .i64 (la L t).rank,.int .i64 (la L t).id,.int .i64 (la L t).sign,.bool (la L t).over] 76);have kN:Blk (X3.alloc (.cells #[.int .i64 (la L t).kind,.int .i64 (la L t).gate,.int .i64 (la L t).rank,.int .i64 (la L t).id,.int .i64 (la L t).sign,.bool (la L t).over] 76)) X3.heap.size 76 #[.int .i64 (la L t).kind,.int .i64 (la L t).gate,.int .i64 (la L t).rank,.int .i64 (la L t).id,.int .i64 (la L t).sign,.bool (la L t).over]:=Blk.new _ _ _;have lN:=hl6.below bN hl6.lt;have hbN:=zAa hbZ bN hbZ.size;obtain ⟨d,hd⟩:∃d,dwn L i=d:=⟨_,rfl⟩
    rw [hd] at hd1 HD ⊢;have HDD:=qH hd;have bZ:=(Below.refl X3.heap.size X3).alloc (Nat.le_refl _) (.cells #[.int .i64 0,.int .i64 0,.int .i64 0,.int .i64 0,.int .i64 0,.bool false] 76);have c3z:(X3.alloc (.cells #[.int .i64 0,.int .i64 0,.int .i64 0,.int .i64 0,.int .i64 0,.bool false] 76)).cell? ⟨w.heap.size,1,none⟩=some (.slice (some ⟨g,o,none⟩) n c):=((hk3.below bZ hk3.lt).cell 1).trans rfl;obtain ⟨z0,z1,z2,z3,z4,z5⟩:=((hA3.below bZ).also htn).1;clear ht hbp hd1 hok hA2 hb hd bZ;go_upto_region 7 with fail
    go_region
    clear c3 c3z y0 y1 y2 y3 y4 y5 z0 z1 z2 z3 z4 z5 q3 q11 q16 q17 q20 q4 q5 hk3 hA3 hl6 bN;generalize X3.alloc (.cells #[.int .i64 (la L t).kind,.int .i64 (la L t).gate,.int .i64 (la L t).rank,.int .i64 (la L t).id,.int .i64 (la L t).sign,.bool (la L t).over] 76)=X4 at kN lN hbN ⊢;generalize X3.heap.size=b6 at kN ⊢;have kN:=kN.drew;have lN:=lN.drew;have hbN:=hbN.drew;generalize X4.drew=X5 at kN lN hbN ⊢;obtain ⟨f0,f1,f2,f3,f4,f5⟩:=cQ6 kN
    cases d with
    | false =>
     have hp1:poB L i=true:=by unfold poB;rw [HDD.out,Bool.and_false];rfl
     have HS2:=qH (show ∀j,j < i+1→poB L j=true from fun j hj=>by
      rcases Nat.decEq j i with e | e
      ·exact HS.out j (by omega)
      ·rw [e];exact hp1)
     clear hp1 HS;go_wp2_with fail
     go_roundw
     case rel=>exact ⟨i+1,_,rfl,by omega,by go_num,by rw [HD.out];rfl,hbN,HS2⟩
     case measure=>simp [intOf];omega
    | true =>
     obtain ⟨p,hp⟩:∃p,isP (la L t)=p:=⟨_,rfl⟩
     have HIP2:=qH (fun wx=>zKh hp wx);have hpe:poB L i=(p&&((la L t).gate-(la L i).gate==1||(la L i).gate-(la L t).gate==1)):=by
      unfold poB neB;rw [HDD.out,HBP.out,HNX.out,hp];rfl
     have HPE:=qH hpe;have HP:=qH hp;clear hpe hp
     cases p with
     | false =>
      have HF:=qH (show zDZ L=false from zEs (by rw [HN.out];exact hlt) (by rw [HPE.out];rfl));clear HS;go_wp2_with fail
      refine (HIP2.out X5).mono ?_;rintro e X6 ⟨rfl,hb6⟩;have hbw:=zAa hb0 (zAa hbN hb6 hbN.size) hb0.size;clear f0 f1 f2 f3 f4 f5 hb6;go_wp2_with fail
      go_ret;exact ⟨by rw [HF.out];rfl,hbw⟩
     | true =>
      have hgt2:=hgt HP.out;obtain ⟨x,hx⟩:∃x,(la L i).gate=x:=⟨_,rfl⟩
      obtain ⟨y,hy⟩:∃y,(la L t).gate=y:=⟨_,rfl⟩
      have HXY:=qH (show poB L i=(y-x==1||x-y==1) by rw [HPE.out,hx,hy];rfl);rw [hx] at hgi lN;rw [hy] at hgt2 f1 kN;clear hgt HPE;have hE1:∀q,q=(y-x==1||x-y==1)→q=false→Hid (zDZ L=false):=fun q h1 h2=>qH (zEs (by rw [HN.out];exact hlt) (by rw [HXY.out,←h1,h2]))
      have HE1:=qH hE1
      have HS2:=qH (show ∀q,q=(y-x==1||x-y==1)→q=true→∀j,j < i+1→poB L j=true from fun q h1 h2 j hj=>by
       rcases Nat.decEq j i with e | e
       ·exact HS.out j (by omega)
       ·rw [e,HXY.out,←h1,h2])
      have HIP3:=qH (HIP2.out X5);rw [hy] at HIP3;clear hE1 HS hx hy HXY HIP2;go_wp2_with fail
      refine HIP3.out.mono ?_;rintro e X6 ⟨rfl,hb6⟩;have hbM:=zAa hbN hb6 hbN.size;have hbw:=zAa hb0 hbM hb0.size;have k6:=kN.below hb6 kN.lt;have l6:=lN.below hb6 lN.lt;clear f0 f1 f2 f3 f4 f5 hb6 kN lN HIP3;have f1:X6.cell? ⟨b6,1,none⟩=some (.int .i64 y):=(k6.cell 1).trans rfl;have g1:X6.cell? ⟨b5,1,none⟩=some (.int .i64 x):=(l6.cell 1).trans rfl;have w1:wrap64 (y-x)=y-x:=by unfold wrap64;omega
      have w2:wrap64 (x-y)=x-y:=by unfold wrap64;omega
      have w3:IntKind.i64.wrap (y-x)=y-x:=IntWalk.i64_in _ (by omega);have w4:IntKind.i64.wrap (x-y)=x-y:=IntWalk.i64_in _ (by omega);clear k6 l6;by_cases c1:y-x=1
      ·have d1:(y-x != 1)=false:=by simpa using c1
       have HS3:=qH (HS2.out true (by simp [c1]) rfl);clear c1 HS2;go_wp2_with fail
       go_roundw
       case rel=>exact ⟨i+1,_,rfl,by omega,by go_num,by rw [HD.out];rfl,hbM,HS3⟩
       case measure=>simp [intOf];omega
      ·have d1:(y-x != 1)=true:=by simpa using c1
       by_cases c2:x-y=1
       ·have d2:(x-y != 1)=false:=by simpa using c2
        have HS3:=qH (HS2.out true (by simp [c2]) rfl);clear c1 c2 HS2;go_wp2_with fail
        go_roundw
        case rel=>exact ⟨i+1,_,rfl,by omega,by go_num,by rw [HD.out];rfl,hbM,HS3⟩
        case measure=>simp [intOf];omega
       ·have d2:(x-y != 1)=true:=by simpa using c2
        have HF:=HE1.out false (by simp [c1,c2]) rfl;clear c1 c2 HS2 HE1;go_wp2_with fail
        go_ret;exact ⟨by rw [HF.out];rfl,hbw⟩
  ·have j1:¬(i:Int) < (n:Int):=by omega
   have hr:=qH (show zDZ L=true by
    unfold zDZ
    rw [HN.out]
    exact zAE.2 (fun j hj=>HS.out j (by omega)))
   have hbw:=zAa hb0 hb hb0.size;clear hlt HS hA2 hb;go_wp2_with fail
   go_ret;exact ⟨by rw [hr.out];rfl,hbw⟩
end Go.Proofs.YtlmdfmnbcndhoaaGreatDoor
namespace Go.Proofs.YtlmdfmnbcndhoaaGreatDoor
structure Tame (K:Int) (L:List Lt):Prop where
 lo:0≤K
 hi:K≤40
 len:L.length≤400
 pass:∀i,i < L.length→isP (la L i)=true→0≤(la L i).gate∧(la L i).gate≤K∧1≤(la L i).rank∧(la L i).rank≤400
 kinds:∀i,i < L.length→isP (la L i)=true∨isC (la L i)=true
 sign:∀i,i < L.length→isC (la L i)=true→(la L i).sign=1∨(la L i).sign = -1
theorem zHk {K:Int} {L:List Lt} (h:zBk K L=0):0≤K∧K≤40∧L.length≤400∧(L.length=0∨zBa K L=true):=by
 unfold zBk at h;by_cases h1:400 < L.length∨200 < cN L L.length
 ·rw [if_pos h1] at h;cases h
 ·rw [if_neg h1] at h;by_cases h2:K < 0∨40 < K
  ·rw [if_pos h2] at h;cases h
  ·rw [if_neg h2] at h;by_cases h3:L.length=0
   ·exact ⟨by omega,by omega,by omega,.inl h3⟩
   ·rw [if_neg h3] at h
    cases hv:zBa K L with
    | true=>exact ⟨by omega,by omega,by omega,.inr rfl⟩
    | false=>rw [hv] at h;cases h
theorem zEZ {K:Int} {L:List Lt} (h:zBk K L=0):Tame K L:=by
 obtain ⟨h1,h2,h3,h4⟩:=zHk h;rcases h4 with h4 | h4
 ·exact ⟨h1,h2,h3,fun i hi=>by omega,fun i hi=>by omega,fun i hi=>by omega⟩
 ·rcases Nat.eq_zero_or_pos L.length with h0 | h0
  ·exact ⟨h1,h2,h3,fun i hi=>by omega,fun i hi=>by omega,fun i hi=>by omega⟩
  ·have g:=zEA h0 h4;refine ⟨h1,h2,h3,fun i hi hp=>?_,g.kinds,fun i hi hc=>?_⟩
   ·have a1:=g.gates i hi hp;have a2:=g.rank hp;have a3:gN L (la L i).gate L.length≤L.length:=zCC _ _;omega
   ·unfold zBa at h4;rw [←zCW] at h4;simp only [Bool.and_eq_true] at h4;have h5:=h4.1.2.1.1;unfold zAz at h5;have h6:=zAE.1 h5 i hi;have k2:(la L i).kind=2:=by unfold isC at hc;simpa using hc
    unfold lpB at h6;rw [if_neg (by omega),if_pos k2] at h6;simp only [decide_eq_true_eq] at h6;exact h6.2.2
end Go.Proofs.YtlmdfmnbcndhoaaGreatDoor
