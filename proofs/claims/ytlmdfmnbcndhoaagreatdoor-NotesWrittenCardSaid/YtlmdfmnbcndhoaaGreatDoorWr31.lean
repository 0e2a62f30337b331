/-
  Contracts: the program's valid, read, Check. Conditions: the letters read.
  Contracts: the program's read, Check. Conditions: the letters read.
-/
import Derived.Test.YtlmdfmnbcndhoaaGreatDoorWr30
import Derived.Test.YtlmdfmnbcndhoaaGreatDoorWr11
namespace Go.Proofs.YtlmdfmnbcndhoaaGreatDoor
open Go.RowKit
def vcells (p:Nat):Array Value:=#[.func (.func 175) #[.pointer (some ⟨p,0,none⟩)] #[],.func (.func 176) #[.pointer (some ⟨p,0,none⟩)] #[],.func (.func 177) #[.pointer (some ⟨p,0,none⟩)] #[],.func (.func 178) #[.pointer (some ⟨p,0,none⟩)] #[],.func (.func 179) #[.pointer (some ⟨p,0,none⟩)] #[]]
theorem fnInfo:(Tryz.prog.info? 26).map (fun i=>(i.zero,i.size,i.bytes))=some (some .nilFunc,1,8):=by kernel_rfl
theorem buildV (p:Nat) (w:World):(Instr.buildSlice 215 5 #[(0,.func (.func 175) #[.pointer (some ⟨p,0,none⟩)] #[]),(1,.func (.func 176) #[.pointer (some ⟨p,0,none⟩)] #[]),(2,.func (.func 177) #[.pointer (some ⟨p,0,none⟩)] #[]),(3,.func (.func 178) #[.pointer (some ⟨p,0,none⟩)] #[]),(4,.func (.func 179) #[.pointer (some ⟨p,0,none⟩)] #[])]).run Tryz.prog w=.ok (.slice (some ⟨w.heap.size,0,none⟩) 5 5) (w.alloc (.cells (vcells p) 26)):=by
 obtain ⟨i0,hi,hz0,hz1,hz2⟩:=info_parts fnInfo
 refine run_buildSlice w _ _ 5 _ _ i0 _ Tryz.underlying215 hi hz0 (by rw [hz1];omega) (by rw [hz1];omega) ?_
 rw [hz1]
 kernel_rfl
/-- What stands behind i tests. -/
def VS (w:World) (p k:Nat) (A:Option Addr) (n c:Nat) (L:List Lt) (v2 v3 v4 v5 v6:Value) (i:Nat) (wr:World):Prop :=
 (i=0∧Dia wr p (k:Int) A n c v2 v3 v4 v5 v6)∨(i=1∧zAx (k:Int) L=true∧Dia wr p (k:Int) A n c v2 v3 v4 v5 v6) ∨
 (i=2∧zAx (k:Int) L=true∧(isP (la L 0)&&decide (pN L n % 2=0))=true∧Dia wr p (k:Int) A n c v2 v3 v4 v5 v6) ∨
 (i=3∧zAx (k:Int) L=true∧(isP (la L 0)&&decide (pN L n % 2=0))=true∧zCq L=true∧∃base g2 g3 g4 g6 s P C,w.heap.size≤base∧DiaR wr base p k A n c L v5 g2 g3 g4 g6 s P C) ∨
 (i=4∧zAx (k:Int) L=true∧(isP (la L 0)&&decide (pN L n % 2=0))=true∧zCq L=true∧zBB L=true∧∃base b g2 g3 g4 g6 s P C ids,w.heap.size≤base∧DiaF wr base p k A n c L b g2 g3 g4 g6 s P C ids) ∨
 (i=5∧zAo (k:Int) L=true∧∃base b g2 g3 g4 g6 s P C ids,w.heap.size≤base∧DiaF wr base p k A n c L b g2 g3 g4 g6 s P C ids)
def ValidPost (w:World) (p k:Nat) (A:Option Addr) (n c:Nat) (L:List Lt) (v2 v3 v4 v5 v6:Value) (e:Ending) (w':World):Prop :=
 e=.returned (.bool (decide (n=0)||zAo (k:Int) L))∧w.grownBy w' (some p)∧(n=0→Dia w' p (k:Int) A n c v2 v3 v4 v5 v6) ∧
 (0 < n→zAo (k:Int) L=true→∃base b g2 g3 g4 g6 s P C ids,w.heap.size≤base∧DiaF w' base p k A n c L b g2 g3 g4 g6 s P C ids)
theorem zFg {K:Int} {L:List Lt} {n:Nat} (hL:L.length=n) (h:zAx K L=false∨(isP (la L 0)&&decide (pN L n % 2=0))=false∨zCq L=false∨zBB L=false∨zFq L=false):zAo K L=false:=by
 unfold zAo
 rw [←zBX,hL]
 rcases h with h | h | h | h | h<;>rw [h]<;>simp
theorem valid_yes {K:Int} {L:List Lt} {n:Nat} (hL:L.length=n) (h1:zAx K L=true) (h2:(isP (la L 0)&&decide (pN L n % 2=0))=true) (h3:zCq L=true) (h4:zBB L=true) (h5:zFq L=true):zAo K L=true:=by
 unfold zAo
 rw [←zBX,hL,h1,h2,h3,h4,h5]
 rfl
theorem DiaR.grown {w w':World} {base p k:Nat} {A:Option Addr} {n c:Nat} {L:List Lt} {v5 v5':Value} {g2 g3 g4 g6:Nat} {s:List Bool} {P C:List Int} (h:DiaR w base p k A n c L v5 g2 g3 g4 g6 s P C) (hb:p < base) (hg:w.grownBy w' (some p))
  (hd:Dia w' p (k:Int) A n c (.slice (some ⟨g2,0,none⟩) n n) (.slice (some ⟨g3,0,none⟩) (axL L).length (axL L).length) (.slice (some ⟨g4,0,none⟩) n n) v5' (.slice (some ⟨g6,0,none⟩) (k+1) (k+1))):DiaR w' base p k A n c L v5' g2 g3 g4 g6 s P C :=
 ⟨hd,h.down.kept hg (by have:=h.down.base;simp;omega),h.axis.kept hg (by have:=h.axis.base;simp;omega),h.place.kept hg (by have:=h.place.base;simp;omega),h.count.kept hg (by have:=h.count.base;simp;omega),h.downs,h.places,h.counts,h.ndown⟩
set_option maxRecDepth 100000 in
set_option maxHeartbeats 6400000 in
theorem dia_valid (p k:Nat) (A:Option Addr) (n c:Nat) (L:List Lt) (v2 v3 v4 v5 v6:Value) (w:World) (hA:Lets w A n L) (hn:n≤400) (hk40:k≤40)
  (hpA:0 < n→∀a,A=some a→p≠a.block) (hd:Dia w p (k:Int) A n c v2 v3 v4 v5 v6) :
  Calls Tryz.prog 142 #[.pointer (some ⟨p,0,none⟩)] w (ValidPost w p k A n c L v2 v3 v4 v5 v6):=by
 have hLn:=hA.len
 have hHL:=Lib.hid hLn
 have c1:=hd.c1
 have hplt:=hd.lt
 rcases Nat.eq_zero_or_pos n with h0 | h0
 ·subst h0
  clear hLn
  go_enter Tryz.func142,Tryz.ntmps142
  go_wp2_with fail
  go_ret
  exact ⟨rfl,World.grownBy.refl _ _,fun _=>hd,fun h=>by omega⟩
 ·have h00:((n:Int)==0)=false:=by simp;omega
  have hpA:=hpA h0
  have hdn:decide (n=0)=false:=by simp;omega
  have hbv:=buildV p
  have hB0:Blk (w.alloc (.cells (vcells p) 26)) w.heap.size 26 (vcells p):=Blk.new _ _ _
  have hD0:=hd.alloc (.cells (vcells p) 26)
  have hg0:w.grownBy (w.alloc (.cells (vcells p) 26)) (some p):=World.grownBy_alloc _ _ _
  clear hLn
  unfold ValidPost
  rw [hdn,Bool.false_or]
  go_enter Tryz.func142,Tryz.ntmps142
  go_wp2_with fail
  go_loopw [4,24] (fun _ v24 wr=>∃i:Nat,i≤5∧v24=.int .i64 i∧VS w p k A n c L v2 v3 v4 v5 v6 i wr∧w.grownBy wr (some p)∧Blk wr w.heap.size 26 (vcells p)) (fun _ v24 _=>5-(intOf v24).toNat)
  case atStart=>exact ⟨0,by omega,rfl,.inl ⟨rfl,hD0⟩,hg0,hB0⟩
  case round =>
   obtain ⟨i,hi,rfl,hV,hg,hB⟩:=hrel
   clear hB0 hD0 hg0 hbv hd c1
   have hAr:=hA.growG hg (fun a ha e=>hpA a ha (by injection e))
   have hsz:=hg.size
   have e0:wr.cell? ⟨w.heap.size,0,none⟩=some (.func (.func 175) #[.pointer (some ⟨p,0,none⟩)] #[]):=(hB.cell 0).trans rfl
   have e1:wr.cell? ⟨w.heap.size,1,none⟩=some (.func (.func 176) #[.pointer (some ⟨p,0,none⟩)] #[]):=(hB.cell 1).trans rfl
   have e2:wr.cell? ⟨w.heap.size,2,none⟩=some (.func (.func 177) #[.pointer (some ⟨p,0,none⟩)] #[]):=(hB.cell 2).trans rfl
   have e3:wr.cell? ⟨w.heap.size,3,none⟩=some (.func (.func 178) #[.pointer (some ⟨p,0,none⟩)] #[]):=(hB.cell 3).trans rfl
   have e4:wr.cell? ⟨w.heap.size,4,none⟩=some (.func (.func 179) #[.pointer (some ⟨p,0,none⟩)] #[]):=(hB.cell 4).trans rfl
   rcases hV with ⟨rfl,hD⟩ | ⟨rfl,t1,hD⟩ | ⟨rfl,t1,t2,hD⟩ | ⟨rfl,t1,t2,t3,base,g2,g3,g4,g6,s,P,C,hbase,hR⟩ | ⟨rfl,t1,t2,t3,t4,base,b,g2,g3,g4,g6,s,P,C,ids,hbase,hF⟩ | ⟨rfl,tv,base,b,g2,g3,g4,g6,s,P,C,ids,hbase,hF⟩
   ·clear e1 e2 e3 e4
    cases hx:zAx (k:Int) L with
    | true =>
     have HX:=Lib.hid hx
     go_wp2_with fail
     refine (zHe p (k:Int) A n c L _ _ _ _ _ _ hAr hD).mono ?_
     rintro e w1 ⟨rfl,hb1⟩
     have hD1:=hD.next hb1
     have hB1:=hB.below hb1 hB.lt
     have hg1:=zAl hg hb1 hg.size
     rw [hx]
     clear hx hD hB hg
     go_wp2_with fail
     go_roundw
     case rel=>exact ⟨1,by omega,by go_num,.inr (.inl ⟨rfl,HX.out,hD1⟩),hg1,hB1⟩
     case measure=>simp [intOf]
    | false =>
     have HX:=Lib.hid (zFg hHL.out (.inl hx))
     go_wp2_with fail
     refine (zHe p (k:Int) A n c L _ _ _ _ _ _ hAr hD).mono ?_
     rintro e w1 ⟨rfl,hb1⟩
     have hg1:=zAl hg hb1 hg.size
     rw [hx]
     clear hx hD hB hg
     go_wp2_with fail
     go_ret
     exact ⟨zAg HX.out.symm,hg1,fun h=>by omega,fun _ h=>by rw [HX.out] at h;cases h⟩
   ·clear e0 e2 e3 e4
    have T1:=Lib.hid t1
    clear t1
    cases hx:(isP (la L 0)&&decide (pN L n % 2=0)) with
    | true =>
     have HX:=Lib.hid hx
     go_wp2_with fail
     refine (dia_begins p (k:Int) A n c L _ _ _ _ _ _ hAr h0 hD).mono ?_
     rintro e w1 ⟨rfl,hb1⟩
     have hD1:=hD.next hb1
     have hB1:=hB.below hb1 hB.lt
     have hg1:=zAl hg hb1 hg.size
     rw [hx]
     clear hx hD hB hg
     go_wp2_with fail
     go_roundw
     case rel=>exact ⟨2,by omega,by go_num,.inr (.inr (.inl ⟨rfl,T1.out,HX.out,hD1⟩)),hg1,hB1⟩
     case measure=>simp [intOf]
    | false =>
     have HX:=Lib.hid (zFg (K:=(k:Int)) hHL.out (.inr (.inl hx)))
     go_wp2_with fail
     refine (dia_begins p (k:Int) A n c L _ _ _ _ _ _ hAr h0 hD).mono ?_
     rintro e w1 ⟨rfl,hb1⟩
     have hg1:=zAl hg hb1 hg.size
     rw [hx]
     clear hx hD hB hg
     go_wp2_with fail
     go_ret
     exact ⟨zAg HX.out.symm,hg1,fun h=>by omega,fun _ h=>by rw [HX.out] at h;cases h⟩
   ·clear e0 e1 e3 e4
    have T1:=Lib.hid t1
    have T2:=Lib.hid t2
    clear t1 t2
    cases hx:zCq L with
    | true =>
     have HX:=Lib.hid hx
     go_wp2_with fail
     refine (dia_ranks p k A n c L _ _ _ _ _ _ hAr hn hk40 T1.out hpA hD).mono ?_
     rintro e w1 ⟨rfl,hg1,hr⟩
     have hB1:=hB.grown hg1 (by simp;omega)
     have hg2:=zAb hg hg1
     obtain ⟨g2,g3,g4,g6,s,P,C,hR⟩:=hr hx
     rw [hx]
     clear hx hD hB hg hr
     go_wp2_with fail
     go_roundw
     case rel=>exact ⟨3,by omega,by go_num,.inr (.inr (.inr (.inl ⟨rfl,T1.out,T2.out,HX.out,_,g2,g3,g4,g6,s,P,C,hsz,hR⟩))),hg2,hB1⟩
     case measure=>simp [intOf]
    | false =>
     have HX:=Lib.hid (zFg (K:=(k:Int)) hHL.out (.inr (.inr (.inl hx))))
     go_wp2_with fail
     refine (dia_ranks p k A n c L _ _ _ _ _ _ hAr hn hk40 T1.out hpA hD).mono ?_
     rintro e w1 ⟨rfl,hg1,hr⟩
     have hg2:=zAb hg hg1
     rw [hx]
     clear hx hD hB hg hr
     go_wp2_with fail
     go_ret
     exact ⟨zAg HX.out.symm,hg2,fun h=>by omega,fun _ h=>by rw [HX.out] at h;cases h⟩
   ·clear e0 e1 e2 e4
    have T1:=Lib.hid t1
    have T2:=Lib.hid t2
    have T3:=Lib.hid t3
    clear t1 t2 t3
    have hD:=hR.dia
    cases hx:zBB L with
    | true =>
     have HX:=Lib.hid hx
     go_wp2_with fail
     refine (zFf p (k:Int) A n c L _ _ _ _ _ _ hAr hn hpA hD).mono ?_
     rintro e w1 ⟨rfl,hg1,hr⟩
     have hB1:=hB.grown hg1 (by simp;omega)
     have hg2:=zAb hg hg1
     obtain ⟨b,ids,hbb,hD1,hV1⟩:=hr hx
     have hR1:=hR.grown (by omega) hg1 hD1
     have hL1:=hAr.growG hg1 (fun a ha e=>hpA a ha (by injection e))
     have hF1:DiaF w1 base p k A n c L b g2 g3 g4 g6 s P C ids:=⟨hR1,hV1,hL1,zDf (by rw [hHL.out];exact h0) (by have:=T2.out;simp at this;exact this.1) (by have:=T2.out;simp at this;rw [hHL.out];exact this.2) T1.out T3.out HX.out,hn⟩
     rw [hx]
     clear hx hD hB hg hr hD1 hV1 hR1 hL1 hR
     go_wp2_with fail
     go_roundw
     case rel=>exact ⟨4,by omega,by go_num,.inr (.inr (.inr (.inr (.inl ⟨rfl,T1.out,T2.out,T3.out,HX.out,base,b,g2,g3,g4,g6,s,P,C,ids,hbase,hF1⟩)))),hg2,hB1⟩
     case measure=>simp [intOf]
    | false =>
     have HX:=Lib.hid (zFg (K:=(k:Int)) hHL.out (.inr (.inr (.inr (.inl hx)))))
     go_wp2_with fail
     refine (zFf p (k:Int) A n c L _ _ _ _ _ _ hAr hn hpA hD).mono ?_
     rintro e w1 ⟨rfl,hg1,hr⟩
     have hg2:=zAb hg hg1
     rw [hx]
     clear hx hD hB hg hr hR
     go_wp2_with fail
     go_ret
     exact ⟨zAg HX.out.symm,hg2,fun h=>by omega,fun _ h=>by rw [HX.out] at h;cases h⟩
   ·clear e0 e1 e2 e3
    have T1:=Lib.hid t1
    have T2:=Lib.hid t2
    have T3:=Lib.hid t3
    have T4:=Lib.hid t4
    clear t1 t2 t3 t4
    cases hx:zFq L with
    | true =>
     have HX:=Lib.hid (valid_yes hHL.out T1.out T2.out T3.out T4.out hx)
     go_wp2_with fail
     refine (dia_flat base p k A n c L b g2 g3 g4 g6 s P C ids _ hF).mono ?_
     rintro e w1 ⟨rfl,hb1⟩
     have hF1:=hF.next hb1
     have hB1:=hB.below hb1 hB.lt
     have hg1:=zAl hg hb1 hg.size
     rw [hx]
     clear hx hB hg hF
     go_wp2_with fail
     go_roundw
     case rel=>exact ⟨5,by omega,by go_num,.inr (.inr (.inr (.inr (.inr ⟨rfl,HX.out,base,b,g2,g3,g4,g6,s,P,C,ids,hbase,hF1⟩)))),hg1,hB1⟩
     case measure=>simp [intOf]
    | false =>
     have HX:=Lib.hid (zFg (K:=(k:Int)) hHL.out (.inr (.inr (.inr (.inr hx)))))
     go_wp2_with fail
     refine (dia_flat base p k A n c L b g2 g3 g4 g6 s P C ids _ hF).mono ?_
     rintro e w1 ⟨rfl,hb1⟩
     have hg1:=zAl hg hb1 hg.size
     rw [hx]
     clear hx hB hg hF
     go_wp2_with fail
     go_ret
     exact ⟨zAg HX.out.symm,hg1,fun h=>by omega,fun _ h=>by rw [HX.out] at h;cases h⟩
   ·have TV:=Lib.hid tv
    clear tv e0 e1 e2 e3 e4
    go_wp2_with fail
    go_ret
    exact ⟨zAg TV.out.symm,hg,fun h=>by omega,fun _ _=>⟨base,b,g2,g3,g4,g6,s,P,C,ids,hbase,hF⟩⟩
end Go.Proofs.YtlmdfmnbcndhoaaGreatDoor
namespace Go.Proofs.YtlmdfmnbcndhoaaGreatDoor
open Go.RowKit
/-- What read leaves where the code is valid. -/
def ReadOk (w:World) (K:Int) (A:Option Addr) (n c:Nat) (L:List Lt) (p:Nat) (w':World):Prop :=
 ∃k:Nat,K=(k:Int)∧k≤40∧n≤400∧w.heap.size≤p ∧
  ((n=0∧Dia w' p K A n c (.slice none 0 0) (.slice none 0 0) (.slice none 0 0) (.map none) (.slice none 0 0))∨(0 < n∧∃base b g2 g3 g4 g6 s P C ids,w.heap.size≤base∧DiaF w' base p k A n c L b g2 g3 g4 g6 s P C ids))
def ReadPost (w:World) (K:Int) (A:Option Addr) (n c:Nat) (L:List Lt) (e:Ending) (w':World):Prop :=
 ∃v,e=.returned (.tuple #[v,.int .i64 (zAp K L)])∧Below w.heap.size w w'∧(zAp K L=0→∃p,v=.pointer (some ⟨p,0,none⟩)∧ReadOk w K A n c L p w')
theorem chk_7 {K:Int} {L:List Lt} (h:400 < L.length∨200 < cN L L.length):zAp K L=7:=by unfold zAp;rw [if_pos h]
theorem chk_2 {K:Int} {L:List Lt} (h:¬(400 < L.length∨200 < cN L L.length)) (h2:K < 0∨40 < K):zAp K L=2:=by unfold zAp;rw [if_neg h,if_pos h2]
theorem chk_v {K:Int} {L:List Lt} {n:Nat} (hL:L.length=n) (h:¬(400 < L.length∨200 < cN L L.length)) (h2:¬(K < 0∨40 < K)):zAp K L=if (decide (n=0)||zAo K L)=true then 0 else 3:=by
 unfold zAp
 rw [if_neg h,if_neg h2]
 subst hL
 by_cases h3:L.length=0
 ·rw [if_pos h3,if_pos (by simp [h3])]
 ·rw [if_neg h3]
  cases zAo K L<;>simp [h3]
set_option maxRecDepth 100000 in
set_option maxHeartbeats 6400000 in
theorem zHg (K:Int) (A:Option Addr) (n c:Nat) (L:List Lt) (w:World) (hA:Lets w A n L) :
  Calls Tryz.prog 95 #[.agg #[.int .i64 K,.slice A n c]] w (ReadPost w K A n c L):=by
 have hle:=hA.le
 have hLn:L.length=n:=hA.len
 have hbx:=Boxed.refl w K A n c
 have hcn:=cN_le L n
 have hbd:=build_dia K A n c
 by_cases h400:400 < n
 ·have hf:=Lib.hid (chk_7 (K:=K) (L:=L) (.inl (by omega)))
  have q:(400:Int) < (n:Int):=by omega
  clear hLn
  go_enter Tryz.func95,Tryz.ntmps95
  go_wp2_with fail
  go_ret2
  exact ⟨.pointer none,by rw [hf.out];rfl,hbx.below,fun h=>by rw [hf.out] at h;cases h⟩
 ·have q:decide ((400:Int) < (n:Int))=false:=by simp;omega
  by_cases h200:200 < cN L n
  ·have hf:=Lib.hid (chk_7 (K:=K) (L:=L) (.inr (by rw [hLn];exact h200)))
   have q2:(200:Int) < (cN L n:Int):=by omega
   clear hLn
   go_enter Tryz.func95,Tryz.ntmps95
   go_wp2_with fail
   refine (zBh K A n c L _ (hA.below hbx.below)).mono ?_
   rintro e w1 ⟨rfl,hb1⟩
   have hb2:=hbx.more hb1
   go_wp2_with fail
   go_ret2
   exact ⟨.pointer none,by rw [hf.out];rfl,hb2.below,fun h=>by rw [hf.out] at h;cases h⟩
  ·have q2:decide ((200:Int) < (cN L n:Int))=false:=by simp;omega
   have hno:¬(400 < L.length∨200 < cN L L.length):=by rw [hLn];omega
   by_cases hK:K < 0∨40 < K
   ·have hf:=Lib.hid (chk_2 (K:=K) (L:=L) hno hK)
    have hall:K < 0∨(decide (K < 0)=false∧40 < K):=by simp;omega
    clear hK hLn hno
    rcases hall with k1 | ⟨k1,k2⟩
    all_goals
     go_enter Tryz.func95,Tryz.ntmps95
     go_wp2_with fail
     refine (zBh K A n c L _ (hA.below hbx.below)).mono ?_
     rintro e w1 ⟨rfl,hb1⟩
     have hb2:=hbx.more hb1
     have x0:=hb2.c0
     have x1:=hb2.c1
     go_wp2_with fail
     go_ret2
     exact ⟨.pointer none,by rw [hf.out];rfl,hb2.below,fun h=>by rw [hf.out] at h;cases h⟩
   ·have k1:decide (K < 0)=false:=by simp;omega
    have k2:decide (40 < K)=false:=by simp;omega
    have hf:=chk_v hLn hno hK
    obtain ⟨k,rfl⟩:∃k:Nat,K=(k:Int):=⟨K.toNat,by omega⟩
    have hk40:k≤40:=by omega
    have hHL:=Lib.hid hLn
    have HK:Hid (¬(k:Int) < 0):=Lib.hid (by omega)
    clear hno hK hLn
    cases hv:(decide (n=0)||zAo (k:Int) L) with
    | true =>
     rw [hv,if_pos rfl] at hf
     have HF:=Lib.hid hf
     have HV:=Lib.hid hv
     clear hf hv
     go_enter Tryz.func95,Tryz.ntmps95
     go_wp2_with fail
     refine (zBh (k:Int) A n c L _ (hA.below hbx.below)).mono ?_
     rintro e w1 ⟨rfl,hb1⟩
     have hb2:=hbx.more hb1
     have x0:=hb2.c0
     have x1:=hb2.c1
     have hAw:=hA.below hb2.below
     have hs2:=hb2.size
     have hpA:0 < n→∀a,A=some a→w1.heap.size≠a.block:=fun hn a ha=>by
      obtain ⟨g,o,e,hg,_⟩:=hAw.2.2.2 hn
      rw [ha] at e
      injection e with e
      subst e
      simp
      omega
     have HPA:=Lib.hid hpA
     clear hpA
     go_wp2_with fail
     refine (dia_valid w1.heap.size k A n c L (.slice none 0 0) (.slice none 0 0) (.slice none 0 0) (.map none) (.slice none 0 0) _ (hAw.alloc _) (by omega) hk40 HPA.out (Blk.new w1 _ _)).mono ?_
     rintro e w2 ⟨rfl,hg2,hz,hF2⟩
     have h5:Below w1.heap.size w1 w2:=((Below.refl _ _).alloc (Nat.le_refl _) _).trans (zBL hg2 (Nat.le_refl _) (by simp))
     have h6:=zAa hb2.below h5 (by omega)
     rw [HV.out]
     have HZ:=Lib.hid hz
     have HF2:=Lib.hid hF2
     clear x0 x1 hb2 hb1 hbx hg2 hz hF2 hAw h5
     go_wp2_with fail
     go_ret2
     refine ⟨.pointer (some ⟨w1.heap.size,0,none⟩),by rw [HF.out];rfl,h6,fun _=>⟨w1.heap.size,rfl,k,rfl,hk40,by omega,by omega,?_⟩⟩
     rcases Nat.eq_zero_or_pos n with h0 | h0
     ·exact .inl ⟨h0,HZ.out h0⟩
     ·have hv:=HV.out
      rw [show decide (n=0)=false by simp;omega,Bool.false_or] at hv
      obtain ⟨base,b,g2,g3,g4,g6,s,P,C,ids,hbase,hF⟩:=HF2.out h0 hv
      have hsz:(w1.alloc (.cells #[.int .i64 (k:Int),.slice A n c,.slice none 0 0,.slice none 0 0,.slice none 0 0,.map none,.slice none 0 0] 148)).heap.size=w1.heap.size+1:=by simp
      exact .inr ⟨h0,base,b,g2,g3,g4,g6,s,P,C,ids,by omega,hF⟩
    | false =>
     rw [hv] at hf
     have HF:=Lib.hid (show zAp (k:Int) L=3 from hf)
     have HV:=Lib.hid hv
     clear hf hv
     go_enter Tryz.func95,Tryz.ntmps95
     go_wp2_with fail
     refine (zBh (k:Int) A n c L _ (hA.below hbx.below)).mono ?_
     rintro e w1 ⟨rfl,hb1⟩
     have hb2:=hbx.more hb1
     have x0:=hb2.c0
     have x1:=hb2.c1
     have hAw:=hA.below hb2.below
     have hs2:=hb2.size
     have hpA:0 < n→∀a,A=some a→w1.heap.size≠a.block:=fun hn a ha=>by
      obtain ⟨g,o,e,hg,_⟩:=hAw.2.2.2 hn
      rw [ha] at e
      injection e with e
      subst e
      simp
      omega
     have HPA:=Lib.hid hpA
     clear hpA
     go_wp2_with fail
     refine (dia_valid w1.heap.size k A n c L (.slice none 0 0) (.slice none 0 0) (.slice none 0 0) (.map none) (.slice none 0 0) _ (hAw.alloc _) (by omega) hk40 HPA.out (Blk.new w1 _ _)).mono ?_
     rintro e w2 ⟨rfl,hg2,hz,hF2⟩
     have h5:Below w1.heap.size w1 w2:=((Below.refl _ _).alloc (Nat.le_refl _) _).trans (zBL hg2 (Nat.le_refl _) (by simp))
     have h6:=zAa hb2.below h5 (by omega)
     rw [HV.out]
     have HZ:=Lib.hid hz
     have HF2:=Lib.hid hF2
     clear x0 x1 hb2 hb1 hbx hg2 hz hF2 hAw h5
     go_wp2_with fail
     go_ret2
     exact ⟨.pointer none,by rw [HF.out];rfl,h6,fun h=>by rw [HF.out] at h;cases h⟩
set_option maxHeartbeats 800000 in
/-- The program's Check. -/
theorem code_Check (K:Int) (A:Option Addr) (n c:Nat) (L:List Lt) (w:World) (hA:Lets w A n L) :
  Calls Tryz.prog 122 #[.agg #[.int .i64 K,.slice A n c]] w fun e w'=>e=.returned (.int .i64 (zAp K L))∧Below w.heap.size w w':=by
 have hbx:=Boxed.refl w K A n c
 have x0:=hbx.c0
 have x1:=hbx.c1
 go_enter Tryz.func122,Tryz.ntmps122
 go_wp2_with fail
 refine (zHg K A n c L _ (hA.below hbx.below)).mono ?_
 rintro e w1 ⟨v,rfl,hb1,_⟩
 have hb2:=hbx.more hb1
 clear x0 x1 hbx hb1
 go_wp2_with fail
 go_ret
 exact ⟨rfl,hb2.below⟩
end Go.Proofs.YtlmdfmnbcndhoaaGreatDoor
