/-
  Plain: the sequence of a posed code is read back: its items, the code without signs, the codes with this sequence. No program.
  Plain: the sequence of a posed code as a string is read back; all codes of it differ in signs alone; the code is among them. No program.
  Plain: what reading the sequence of a posed code gives. No program.
  Contract: the program's Signless. Conditions: the frame and the code's letters read.
  NotesBack returns true. Conditions: the frame and the operations read; the library's tables stand.
  NotesOpen returns true. Conditions: the frame and the code's letters read; the library's tables stand.
-/
import Derived.Test.YtlmdfmnbcndhoaaGreatDoorWr42
import Derived.Test.YtlmdfmnbcndhoaaGreatDoorWr36
import Derived.Test.YtlmdfmnbcndhoaaGreatDoorWr39
import Derived.Test.YtlmdfmnbcndhoaaGreatDoorWr35
import Derived.Test.YtlmdfmnbcndhoaaGreatDoorWr02
import Derived.Test.YtlmdfmnbcndhoaaGreatDoorWr25
import Derived.Test.YtlmdfmnbcndhoaaGreatDoorWr40
import Derived.Test.YtlmdfmnbcndhoaaGreatDoorWr11
import Derived.Deep.DeepCutAuto
namespace Go.Proofs.YtlmdfmnbcndhoaaGreatDoor
open Go.RowKit
/-- A letter without its sign. -/
def unS (l:Lt):Lt:={ l with sign:=0 }
def biA (L:List Lt) (i:Nat):List Bi :=
 if isC (la L i) then [⟨0,(la L i).id,(la L i).over⟩] else if dwn L i then [⟨(la L (liN L i)).gate+1,(nuN L i:Int),!decide ((la L (i+1)).gate < (la L i).gate)⟩] else []
def biT (L:List Lt) (m:Nat):List Bi:=(List.range m).flatMap (biA L)
def itA (F:List Fg) (L:List Lt) (i:Nat):List It :=
 if isC (la L i) then [⟨none,(la L i).id,(la L i).over⟩] else if dwn L i then [⟨some (fa F (la L (liN L i)).gate.toNat),(nuN L i:Int),!decide ((la L (i+1)).gate < (la L i).gate)⟩] else []
def itT (F:List Fg) (L:List Lt) (m:Nat):List It:=(List.range m).flatMap (itA F L)
theorem biT_succ (L:List Lt) (m:Nat):biT L (m+1)=biT L m++biA L m:=by simp [biT,List.range_succ]
section
variable {K:Int} {L:List Lt} {F:List Fg} {re lo:Int}
theorem PosP.kind (p:PosP K L) {i:Nat} (hi:i < L.length):(isC (la L i)=true∧isP (la L i)=false)∨(isC (la L i)=false∧dnB L i=true)∨(isC (la L i)=false∧isP (la L i)=true∧dwn L i=false):=by
 rcases p.good.kinds i hi with h | h
 ·have hc:=zBc h
  cases hd:dwn L i with
  | true=>exact .inr (.inl ⟨hc,zCd.2 ⟨h,hd⟩⟩)
  | false=>exact .inr (.inr ⟨hc,h,rfl⟩)
 ·exact .inl ⟨h,not_isP h⟩
theorem biA_c {i:Nat} (h:isC (la L i)=true):biA L i=[⟨0,(la L i).id,(la L i).over⟩]:=by unfold biA;rw [if_pos h]
theorem biA_d {i:Nat} (h:dnB L i=true):biA L i=[⟨(la L (liN L i)).gate+1,(nuN L i:Int),!decide ((la L (i+1)).gate < (la L i).gate)⟩]:=by
 obtain ⟨h1,h2⟩:=zCd.1 h
 unfold biA;rw [if_neg (by rw [zBc h1];simp),if_pos h2]
theorem biA_n {i:Nat} (h1:isC (la L i)=false) (h2:dwn L i=false):biA L i=[]:=by unfold biA;rw [if_neg (by rw [h1];simp),if_neg (by rw [h2];simp)]
theorem bi_count (q:Bi→Bool) (m:Nat):(biT L m).countP q=zAc (fun i=>(biA L i).any q) m:=by
 induction m with
 | zero=>rfl
 | succ m ih =>
  rw [biT_succ,List.countP_append,ih]
  have h1:(biA L m).countP q=if (biA L m).any q then 1 else 0:=by
   unfold biA
   split
   ·simp [List.countP_cons]
   split
   ·simp [List.countP_cons]
   ·rfl
  rw [h1]
  cases h:(biA L m).any q with
  | true=>rw [zAj h];rfl
  | false=>rw [zAi h];rfl
theorem PosP.gate0 (p:PosP K L) {i:Nat} (h:dnB L i=true):0≤(la L (liN L i)).gate∧(la L (liN L i)).gate+1≤K:=by
 obtain ⟨g1,g2,g3⟩:=p.gates h
 have:=p.good.gates _ (zAH g2) g2
 have:=p.good.gates _ (zAH g3) g3
 omega
theorem PosP.visN (p:PosP K L):visN (biT L L.length)=cN L L.length:=by
 unfold Go.Proofs.YtlmdfmnbcndhoaaGreatDoor.visN cN
 rw [bi_count]
 refine zAW fun i hi=>?_
 rcases p.kind hi with ⟨h1,_⟩ | ⟨h1,h2⟩ | ⟨h1,_,h3⟩
 ·rw [biA_c h1,h1];rfl
 ·have:=p.gate0 h2
  rw [biA_d h2,h1];simp;omega
 ·rw [biA_n h1 h3,h1];rfl
theorem PosP.cntF (p:PosP K L) (g:Int):cntF (biT L L.length) g=lpC L g L.length:=by
 unfold Go.Proofs.YtlmdfmnbcndhoaaGreatDoor.cntF
 rw [bi_count,lpC_is]
 refine zAW fun i hi=>?_
 rcases p.kind hi with ⟨h1,h2⟩ | ⟨h1,h2⟩ | ⟨h1,h2,h3⟩
 ·rw [biA_c h1];simp [dnB,h2]
 ·have:=p.gate0 h2
  rw [biA_d h2,h2,(p.gates h2).1]
  simp only [List.any_cons,List.any_nil,Bool.or_false,Bool.true_and]
  rw [show decide (0 < (la L (liN L i)).gate+1)=true by simp;omega,Bool.true_and]
 ·rw [biA_n h1 h3];simp [dnB,h3]
theorem PosP.many (p:PosP K L) {k:Nat} {g:Int} (h0:0≤g) (hk:g < (k:Int)+2):ia (zBH k (biT L L.length)) g=(lpC L g L.length:Int):=by
 unfold ia
 rw [zEA k _ (f:=g.toNat) (by omega),Option.getD_some,show ((g.toNat:Nat):Int)=g by omega,p.cntF]
theorem unS_pass {l:Lt} (h:lpB K l=true) (hp:isP l=true):unS l=⟨1,l.gate,l.rank,0,0,false⟩∧l.sign=0:=by
 unfold isP at hp
 have hk:l.kind=1:=by simpa using hp
 unfold lpB at h
 rw [if_pos hk] at h
 have:=of_decide_eq_true h
 obtain ⟨kind,gate,rank,id,sign,over⟩:=l
 simp only at this hk
 obtain ⟨_,_,rfl,rfl,rfl⟩:=this
 subst hk
 exact ⟨rfl,rfl⟩
theorem unS_cross {l:Lt} (h:lpB K l=true) (hc:isC l=true):unS l=⟨2,0,0,l.id,0,l.over⟩∧(l.sign=1∨l.sign = -1):=by
 unfold isC at hc
 have hk:l.kind=2:=by simpa using hc
 unfold lpB at h
 rw [if_neg (by omega),if_pos hk] at h
 have:=of_decide_eq_true h
 obtain ⟨kind,gate,rank,id,sign,over⟩:=l
 simp only at this hk
 obtain ⟨rfl,rfl,hs⟩:=this
 subst hk
 exact ⟨rfl,hs⟩
theorem PosP.bits_d (p:PosP K L) (hl:∀i,i < L.length→lpB K (la L i)=true) {k:Nat} (hk:K=(k:Int)) {i:Nat} (h:dnB L i=true) :
  (biA L i).flatMap (zGb (zBH k (biT L L.length)))=[unS (la L i),unS (la L (i+1))]:=by
 obtain ⟨g1,g2,g3⟩:=p.gates h
 have g0:=p.gate0 h
 have hl1:=(unS_pass (hl _ (zAH g2)) g2).1
 have hl2:=(unS_pass (hl _ (zAH g3)) g3).1
 have r1:=p.left_rank h
 have r2:=p.right_rank h
 have m1:=p.many (k:=k) (g:=(la L (liN L i)).gate) (by omega) (by omega)
 have m2:=p.many (k:=k) (g:=(la L (riN L i)).gate) (by omega) (by omega)
 rw [biA_d h]
 simp only [List.flatMap_cons,List.flatMap_nil,List.append_nil]
 unfold zGb
 simp only
 rw [if_neg (by omega),show (la L (liN L i)).gate+1-1=(la L (liN L i)).gate by omega,m1,←g1,m2,←r1,←r2,←hl1,←hl2]
 unfold liN riN
 by_cases hg:(la L (i+1)).gate < (la L i).gate
 ·simp [hg]
 ·simp [hg]
theorem PosP.bits_c (_p:PosP K L) (hl:∀i,i < L.length→lpB K (la L i)=true) (M:List Int) {i:Nat} (hi:i < L.length) (h:isC (la L i)=true):(biA L i).flatMap (zGb M)=[unS (la L i)]:=by
 rw [biA_c h,(unS_cross (hl i hi) h).1]
 simp [zGb]
theorem take_laK {i:Nat} (hi:i < L.length):L.take (i+1)=L.take i++[la L i]:=by
 rw [List.take_add_one,show L[i]? = some (la L i) by unfold la;rw [List.getElem?_eq_getElem hi];rfl];rfl
theorem PosP.build_to (p:PosP K L) (hl:∀i,i < L.length→lpB K (la L i)=true) {k:Nat} (hk:K=(k:Int)):∀m,m≤L.length →
  zAI (zBH k (biT L L.length)) (biT L m)=(L.take (if dwn L m then m else m+1)).map unS
 | 0,_=>by
  have h0:dwn L 0=true:=by unfold dwn pN zAc;rfl
  rw [if_pos h0];rfl
 | m+1,hm=>by
  have ih:=p.build_to hl hk m (by omega)
  have hs:zAI (zBH k (biT L L.length)) (biT L (m+1))=zAI (zBH k (biT L L.length)) (biT L m)++(biA L m).flatMap (zGb (zBH k (biT L L.length))):=by
   unfold zAI;rw [biT_succ,List.flatMap_append]
  rw [hs,ih]
  have hi:m < L.length:=by omega
  rcases p.kind hi with ⟨h1,h2⟩ | ⟨h1,h2⟩ | ⟨h1,h2,h3⟩
  ·rw [dwnC h2,p.bits_c hl _ hi h1]
   have hd:dwn L m=true:=by
    cases hd:dwn L m with
    | true=>rfl
    | false =>
     cases m with
     | zero=>have h0:dwn L 0=true:=by unfold dwn pN zAc;rfl
             rw [h0] at hd;cases hd
     | succ m =>
      obtain ⟨h4,h5⟩:=p.good.below p.arcs m (by omega) hd
      have:=(p.up (zCd.2 ⟨h4,h5⟩)).2.1
      rw [h2] at this;cases this
   rw [hd,if_pos rfl,if_pos rfl,take_laK hi]
   simp
  ·obtain ⟨d1,d2⟩:=zCd.1 h2
   obtain ⟨u1,u2,u3⟩:=p.up h2
   rw [d2,u3,if_pos rfl,if_neg (by simp),p.bits_d hl hk h2,take_laK u1,take_laK hi]
   simp
  ·rw [biA_n h1 h3,h3,dwnP h2,h3,if_neg (by simp)]
   simp
/-- The code without signs is built anew from its items. -/
theorem PosP.build (p:PosP K L) (hl:∀i,i < L.length→lpB K (la L i)=true) {k:Nat} (hk:K=(k:Int)):zAI (zBH k (biT L L.length)) (biT L L.length)=L.map unS:=by
 rw [p.build_to hl hk _ (Nat.le_refl _),if_pos (by unfold dwn;rw [p.good.even];rfl),List.take_length]
theorem mem_biA {i:Nat} {x:Bi} (h:x∈biA L i):(isC (la L i)=true∧x=⟨0,(la L i).id,(la L i).over⟩)∨(isC (la L i)=false∧dwn L i=true∧x=⟨(la L (liN L i)).gate+1,(nuN L i:Int),!decide ((la L (i+1)).gate < (la L i).gate)⟩):=by
 unfold biA at h
 split at h
 ·rename_i e;exact .inl ⟨e,by simpa using h⟩
 rename_i e0
 split at h
 ·rename_i e;exact .inr ⟨by simpa using e0,e,by simpa using h⟩
 ·simp at h
theorem PosP.mem_biA (p:PosP K L) {i:Nat} (hi:i < L.length) {x:Bi} (h:x∈biA L i):(isC (la L i)=true∧x=⟨0,(la L i).id,(la L i).over⟩)∨(dnB L i=true∧x=⟨(la L (liN L i)).gate+1,(nuN L i:Int),!decide ((la L (i+1)).gate < (la L i).gate)⟩):=by
 rcases Go.Proofs.YtlmdfmnbcndhoaaGreatDoor.mem_biA h with h1 | ⟨h1,h2,h3⟩
 ·exact .inl h1
 ·rcases p.kind hi with ⟨k1,_⟩ | ⟨_,k2⟩ | ⟨_,_,k3⟩
  ·rw [h1] at k1;cases k1
  ·exact .inr ⟨k2,h3⟩
  ·rw [h2] at k3;cases k3
theorem PosP.keys (p:PosP K L):((biT L L.length).map bkey).Nodup:=by
 unfold biT
 rw [List.map_flatMap]
 unfold List.Nodup
 rw [List.pairwise_flatMap]
 constructor
 ·intro i _
  unfold biA
  split
  ·simp
  split
  ·simp
  ·simp
 ·refine List.Pairwise.imp_of_mem ?_ List.pairwise_lt_range
  intro a b ha hb hab x hx y hy
  have ha:=List.mem_range.1 ha
  have hb:=List.mem_range.1 hb
  obtain ⟨x0,hx0,rfl⟩:=List.mem_map.1 hx
  obtain ⟨y0,hy0,rfl⟩:=List.mem_map.1 hy
  intro e
  rcases p.mem_biA ha hx0 with ⟨h1,rfl⟩ | ⟨h1,rfl⟩<;>rcases p.mem_biA hb hy0 with ⟨k1,rfl⟩ | ⟨k1,rfl⟩
  ·simp only [bkey,if_neg (show ¬(0:Int) < 0 by omega)] at e
   injection e with e1 e2 e3
   exact (zCB p.good.cross ha hb h1 k1 e2 (by omega)).1 e3
  ·have:=p.gate0 k1
   simp only [bkey,if_neg (show ¬(0:Int) < 0 by omega)] at e
   rw [if_pos (by omega)] at e
   injection e with e1 e2 e3
   omega
  ·have:=p.gate0 h1
   simp only [bkey,if_neg (show ¬(0:Int) < 0 by omega)] at e
   rw [if_pos (by omega)] at e
   injection e with e1 e2 e3
   omega
  ·have g1:=p.gate0 h1
   have g2:=p.gate0 k1
   simp only [bkey] at e
   rw [if_pos (by omega),if_pos (by omega)] at e
   injection e with e1 e2 e3
   have hd:liN L a≠liN L b:=fun e=>absurd (p.li_inj h1 k1 _ _ (.inl rfl) (.inl rfl) e) (by omega)
   have hg:(la L (liN L a)).gate=(la L (liN L b)).gate:=by omega
   refine p.rank_ne (p.gates h1).2.1 (p.gates k1).2.1 hd hg ?_
   rw [p.left_rank h1,p.left_rank k1,hg,e2]
theorem mem_biT {m:Nat} {x:Bi} (h:x∈biT L m):∃i,i < m∧x∈biA L i:=by
 obtain ⟨i,hi,hx⟩:=List.mem_flatMap.1 h
 exact ⟨i,List.mem_range.1 hi,hx⟩
theorem PosP.comp (p:PosP K L):zEz (biT L L.length)=true:=by
 refine comp_yes p.keys fun j hj=>?_
 have hm:ba (biT L L.length) j∈biT L L.length:=List.mem_of_getElem? (ba_get hj)
 obtain ⟨i,hi,hx⟩:=mem_biT hm
 unfold zHx
 rw [p.visN,p.cntF]
 rcases p.mem_biA hi hx with ⟨h1,e⟩ | ⟨h1,e⟩
 ·rw [e]
  have h2:=(zBg.1 (p.good.cross i hi) h1).1
  have h3:=p.good.ceven
  simp
  omega
 ·rw [e]
  have h2:=p.nu h1
  have h3:=p.gate0 h1
  rw [←(p.gates h1).1]
  have h4:=(p.gates h1).1
  simp
  omega
end
end Go.Proofs.YtlmdfmnbcndhoaaGreatDoor
namespace Go.Proofs.YtlmdfmnbcndhoaaGreatDoor
open Go.RowKit
section
variable {K:Int} {L:List Lt} {F:List Fg} {re lo:Int}
theorem mem_itT {m:Nat} {x:It} (h:x∈itT F L m):∃i,i < m∧x∈itA F L i:=by
 obtain ⟨i,hi,hx⟩:=List.mem_flatMap.1 h
 exact ⟨i,List.mem_range.1 hi,hx⟩
theorem itA_c {i:Nat} (h:isC (la L i)=true):itA F L i=[⟨none,(la L i).id,(la L i).over⟩]:=by unfold itA;rw [if_pos h]
theorem itA_d {i:Nat} (h:dnB L i=true):itA F L i=[⟨some (fa F (la L (liN L i)).gate.toNat),(nuN L i:Int),!decide ((la L (i+1)).gate < (la L i).gate)⟩]:=by
 obtain ⟨h1,h2⟩:=zCd.1 h
 unfold itA;rw [if_neg (by rw [zBc h1];simp),if_pos h2]
theorem itA_n {i:Nat} (h1:isC (la L i)=false) (h2:dwn L i=false):itA F L i=[]:=by unfold itA;rw [if_neg (by rw [h1];simp),if_neg (by rw [h2];simp)]
theorem PosP.seq_items (p:PosP K L) {i:Nat} (hi:i < L.length):zCH F L i=(itA F L i).map itW:=by
 unfold zCH
 rcases p.kind hi with ⟨h1,h2⟩ | ⟨h1,h2⟩ | ⟨h1,h2,h3⟩
 ·rw [if_pos h1,itA_c h1]
  rfl
 ·have g0:=p.gate0 h2
  rw [if_neg (by rw [h1];simp),if_pos (zCd.1 h2).2,itA_d h2]
  simp only [List.map_cons,List.map_nil]
  have h3:=p.left_rank h2
  unfold zHk itW nmF arrB
  rw [left_is,h3]
  simp only
  rw [show ((lpC L (la L (liN L i)).gate L.length:Int)+(nuN L i:Int)-(lpC L (la L (liN L i)).gate L.length:Int))=(nuN L i:Int) by omega,show ((la L (liN L i)).gate+1-1).toNat=(la L (liN L i)).gate.toNat by omega]
  by_cases hg:(la L (i+1)).gate < (la L i).gate<;>simp [hg]
 ·rw [if_neg (by rw [h1];simp),if_neg (by rw [h3];simp),itA_n h1 h3];rfl
theorem PosP.seq_map (p:PosP K L):zDS F L L.length=(itT F L L.length).map itW:=by
 unfold zDS itT
 rw [List.map_flatMap]
 have:∀m,m≤L.length→(List.range m).flatMap (zCH F L)=(List.range m).flatMap (fun i=>(itA F L i).map itW):=by
  intro m
  induction m with
  | zero=>intro _;rfl
  | succ m ih =>
   intro hm
   rw [List.range_succ,List.flatMap_append,List.flatMap_append,ih (by omega)]
   simp only [List.flatMap_cons,List.flatMap_nil,List.append_nil]
   rw [p.seq_items (by omega)]
 exact this _ (Nat.le_refl _)
theorem PosP.ids (p:PosP K L) {i:Nat} (hi:i < L.length) (h:isC (la L i)=true):1≤(la L i).id∧(la L i).id≤((cN L L.length / 2:Nat):Int):=(zBg.1 (p.good.cross i hi) h).1
theorem PosP.nu_le (p:PosP K L) {i:Nat} (h:dnB L i=true):nuN L i≤L.length:=Nat.le_trans (p.nu h).2 (lpC_le _ _ _)
theorem PosP.it_ok (p:PosP K L) (hf:frOk F re lo) (hK:K=(F.length:Int)) (hn:L.length≤400) {t:It} (ht:t∈itT F L L.length):okI t∧goneI F t=false:=by
 obtain ⟨i,hi,hx⟩:=mem_itT ht
 rcases p.kind hi with ⟨h1,h2⟩ | ⟨h1,h2⟩ | ⟨h1,h2,h3⟩
 ·rw [itA_c h1] at hx
  obtain rfl:=List.mem_singleton.1 hx
  have:=p.ids hi h1
  have:=cN_le L L.length
  exact ⟨⟨by simp,by simp only;omega,by simp only;omega⟩,rfl⟩
 ·rw [itA_d h2] at hx
  obtain rfl:=List.mem_singleton.1 hx
  have g0:=p.gate0 h2
  have h4:=p.nu h2
  have h5:=p.nu_le h2
  refine ⟨⟨fun f hf2=>?_,by simp only;omega,by simp only;omega⟩,?_⟩
  ·simp only [Option.some.injEq] at hf2
   subst hf2
   exact hf.there (by omega)
  ·unfold goneI gone
   simp only
   have:=hf.idx (f:=(la L (liN L i)).gate+1) (by omega) (by omega)
   rw [show ((la L (liN L i)).gate+1-1).toNat=(la L (liN L i)).gate.toNat by omega] at this
   rw [this]
   simp;omega
 ·rw [itA_n h1 h3] at hx;simp at hx
theorem PosP.it_bi (p:PosP K L) (hf:frOk F re lo) (hK:K=(F.length:Int)):(itT F L L.length).map (btI F)=biT L L.length:=by
 unfold itT biT
 rw [List.map_flatMap]
 have:∀m,m≤L.length→(List.range m).flatMap (fun i=>(itA F L i).map (btI F))=(List.range m).flatMap (biA L):=by
  intro m
  induction m with
  | zero=>intro _;rfl
  | succ m ih =>
   intro hm
   rw [List.range_succ,List.flatMap_append,List.flatMap_append,ih (by omega)]
   simp only [List.flatMap_cons,List.flatMap_nil,List.append_nil]
   congr 1
   rcases p.kind (i:=m) (by omega) with ⟨h1,h2⟩ | ⟨h1,h2⟩ | ⟨h1,h2,h3⟩
   ·rw [itA_c h1,biA_c h1];rfl
   ·rw [itA_d h2,biA_d h2]
    have g0:=p.gate0 h2
    have:=hf.idx (f:=(la L (liN L m)).gate+1) (by omega) (by omega)
    rw [show ((la L (liN L m)).gate+1-1).toNat=(la L (liN L m)).gate.toNat by omega] at this
    simp only [List.map_cons,List.map_nil,btI]
    rw [this,if_neg (by omega),show ((((la L (liN L m)).gate+1).toNat:Nat):Int)=(la L (liN L m)).gate+1 by omega]
   ·rw [itA_n h1 h3,biA_n h1 h3];rfl
 exact this _ (Nat.le_refl _)
theorem PosP.it_first (p:PosP K L):∃t T,itT F L L.length=t :: T∧t.fg.isNone=false:=by
 obtain ⟨n,hn⟩:∃n,L.length=n+1:=⟨L.length-1,by have:=p.good.pos;omega⟩
 have h0:dnB L 0=true:=zCd.2 ⟨p.good.first,by unfold dwn pN zAc;rfl⟩
 refine ⟨⟨some (fa F (la L (liN L 0)).gate.toNat),(nuN L 0:Int),!decide ((la L (0+1)).gate < (la L 0).gate)⟩,(List.range' 1 n).flatMap (itA F L),?_,rfl⟩
 unfold itT
 rw [hn,List.range_eq_range',List.range'_succ,List.flatMap_cons,itA_d h0]
 rfl
theorem name_short {f:Fg} (h:zAw f=true):(zAn f).length≤3:=by
 obtain ⟨h1,h2,h3,h4⟩:=zAQ.1 h
 unfold zAn
 rw [zBC (x:=f.d) h3 (by omega),zBC (x:=f.p) (by omega) (by omega)]
 split<;>simp
theorem itoa_short {n:Int} (h0:0≤n) (h1:n≤400):(Lib.itoa n).length≤3:=by
 unfold Lib.itoa
 rw [if_neg (by omega)]
 exact dec_len 2 (by omega)
theorem PosP.len (p:PosP K L) (hf:frOk F re lo) (hK:K=(F.length:Int)) (hn:L.length≤400):(seqF F L).length≤4000:=by
 unfold seqF
 rw [if_neg (by have:=p.good.pos;omega),p.seq_map]
 have hl:∀x∈(itT F L L.length).map itW,x.length≤8:=fun x hx=>by
  obtain ⟨t,ht,rfl⟩:=List.mem_map.1 hx
  obtain ⟨i,hi,hm⟩:=mem_itT ht
  rcases p.kind hi with ⟨h1,h2⟩ | ⟨h1,h2⟩ | ⟨h1,h2,h3⟩
  ·rw [itA_c h1] at hm
   obtain rfl:=List.mem_singleton.1 hm
   have h3:=p.ids hi h1
   have h4:=cN_le L L.length
   have:=itoa_short (n:=(la L i).id) (by omega) (by omega)
   simp only [itW,List.length_append,List.length_singleton]
   omega
  ·rw [itA_d h2] at hm
   obtain rfl:=List.mem_singleton.1 hm
   have g0:=p.gate0 h2
   have h3:=p.nu_le h2
   have h4:=itoa_short (n:=(nuN L i:Int)) (by omega) (by omega)
   have h5:=name_short (hf.there (i:=(la L (liN L i)).gate.toNat) (by omega))
   simp only [itW,List.length_append,List.length_cons,List.length_nil]
   omega
  ·rw [itA_n h1 h3] at hm;simp at hm
 have h1:=join_len [32] (by simp) hl
 have h2:((itT F L L.length).map itW).length≤L.length:=by
  rw [List.length_map]
  unfold itT
  have:∀m,((List.range m).flatMap (itA F L)).length≤m:=by
   intro m
   induction m with
   | zero=>simp
   | succ m ih =>
    rw [List.range_succ,List.flatMap_append,List.length_append]
    have:(itA F L m).length≤1:=by unfold itA;split;· simp
                                  split;· simp
                                  ·simp
    simp only [List.flatMap_cons,List.flatMap_nil,List.append_nil]
    omega
  exact this _
 have h3:((itT F L L.length).map itW).length*(8+1)≤400*9:=Nat.mul_le_mul (by omega) (by omega)
 omega
theorem PosP.split (p:PosP K L):splt 32 (seqF F L)=(itT F L L.length).map itW:=by
 obtain ⟨t,T,h1,_⟩:=p.it_first (F:=F)
 unfold seqF
 rw [if_neg (by have:=p.good.pos;omega),p.seq_map]
 exact splt_items (by rw [h1];simp)
theorem PosP.items (p:PosP K L) (hf:frOk F re lo) (hK:K=(F.length:Int)) (hn:L.length≤400) :
  zDT F (seqF F L)=biT L L.length∧zEi (splt 32 (seqF F L))=false∧zFh F (splt 32 (seqF F L))=false:=by
 obtain ⟨h1,h2,h3⟩:=bits_at F (T:=itT F L L.length) (fun t ht=>(p.it_ok hf hK hn ht).1)
 rw [p.split]
 refine ⟨?_,?_,?_⟩
 ·unfold zDT
  rw [p.split,h1,p.it_bi hf hK]
 ·rw [h3]
  obtain ⟨t,T,h4,h5⟩:=p.it_first (F:=F)
  rw [h4]
  exact h5
 ·rw [h2,List.any_eq_false]
  intro t ht
  rw [(p.it_ok hf hK hn ht).2];simp
theorem PosP.not_bare (p:PosP K L):seqF F L≠zEB:=fun e=>by
 have h:=p.split (F:=F)
 rw [e] at h
 have h1:splt 32 zEB=[zEB]:=zEQ (by decide)
 rw [h1] at h
 obtain ⟨t,T,h4,h5⟩:=p.it_first (F:=F)
 rw [h4,List.map_cons] at h
 injection h with h _
 obtain ⟨fg,n,b⟩:=t
 cases fg with
 | none=>cases h5
 | some f =>
  have:=congrArg List.getLast? h
  simp only [itW] at this
  rw [List.getLast?_concat] at this
  cases b<;>simp [zEB] at this
/-- What is read: the code's letters without signs, its crossings. -/
theorem PosP.read (p:PosP K L) (hf:frOk F re lo) (hK:K=(F.length:Int)) (hn:L.length≤400) (hl:∀i,i < L.length→lpB K (la L i)=true) :
  zBw F (seqF F L)=L.map unS∧crS F (seqF F L)=cN L L.length / 2∧zEz (zDT F (seqF F L))=true:=by
 obtain ⟨h1,_,_⟩:=p.items hf hK hn
 unfold zBw crS
 rw [h1,p.build hl hK,p.visN,p.comp]
 exact ⟨rfl,rfl,rfl⟩
theorem sgL_un {cr nu:Nat} {l:Lt} (h:lpB K l=true) (hk:isP l=true∨isC l=true):sgL cr nu (unS l)=sgL cr nu l:=by
 rcases hk with hk | hk
 ·obtain ⟨h1,h2⟩:=unS_pass h hk
  have:unS l=l:=by cases l;simp only [unS] at *;simp_all
  rw [this]
 ·unfold sgL
  rw [if_pos hk,if_pos (show isC (unS l)=true from hk)]
  rfl
theorem signed_un {cr nu:Nat} (hl:∀i,i < L.length→lpB K (la L i)=true) (hk:∀i,i < L.length→isP (la L i)=true∨isC (la L i)=true):zAT cr nu (L.map unS)=zAT cr nu L:=by
 unfold zAT
 rw [List.map_map]
 refine List.map_congr_left fun l hm=>?_
 obtain ⟨i,hi,he⟩:=List.getElem_of_mem hm
 have e:la L i=l:=by unfold la;rw [List.getElem?_eq_getElem hi];simpa using he
 subst e
 exact sgL_un (hl i hi) (hk i hi)
theorem un_signed (cr nu:Nat) (_hl:∀i,i < L.length→lpB K (la L i)=true):(zAT cr nu L).map unS=L.map unS:=by
 unfold zAT
 rw [List.map_map]
 refine List.map_congr_left fun l _=>?_
 unfold sgL
 simp only [Function.comp]
 split<;>rfl
theorem zFV {i:Nat}:la (L.map unS) i=unS (la L i):=by
 rcases Nat.lt_or_ge i L.length with h | h
 ·exact la_map h
 ·unfold la;rw [List.getElem?_eq_none (by simpa using h),List.getElem?_eq_none h];rfl
/-- The sequence does not say the signs. -/
theorem seq_un (F:List Fg) (L:List Lt):seqF F (L.map unS)=seqF F L:=by
 have e1:∀i,(la (L.map unS) i).gate=(la L i).gate:=fun i=>by rw [zFV];rfl
 have e2:∀i,(la (L.map unS) i).rank=(la L i).rank:=fun i=>by rw [zFV];rfl
 have e3:∀i,(la (L.map unS) i).id=(la L i).id:=fun i=>by rw [zFV];rfl
 have e4:∀i,(la (L.map unS) i).over=(la L i).over:=fun i=>by rw [zFV];rfl
 have e5:∀i,isP (la (L.map unS) i)=isP (la L i):=fun i=>by rw [zFV];rfl
 have e6:∀i,isC (la (L.map unS) i)=isC (la L i):=fun i=>by rw [zFV];rfl
 have e7:∀i,dwn (L.map unS) i=dwn L i:=fun i=>by unfold dwn pN;rw [zAW fun i _=>e5 i]
 have e8:∀g m,lpC (L.map unS) g m=lpC L g m:=fun g m=>by
  unfold lpC
  refine zAW fun i _=>?_
  unfold maxG
  rw [e5,e7,e1,e1]
 have e9:∀i,zBf (L.map unS) i=unS (zBf L i):=fun i=>by
  unfold zBf
  rw [e1,e1]
  split<;>rw [zFV]
 have e10:∀i,zCH F (L.map unS) i=zCH F L i:=fun i=>by
  unfold zCH visW zHk arrB
  rw [e6,e7,e3,e4,e9,e1,e1,e8,List.length_map]
  rfl
 unfold seqF zDS
 rw [List.length_map,show zCH F (L.map unS)=zCH F L from funext e10]
theorem seq_signed (F:List Fg) {cr nu:Nat} (hl:∀i,i < L.length→lpB K (la L i)=true):seqF F (zAT cr nu L)=seqF F L:=by
 rw [←seq_un F (zAT cr nu L),un_signed cr nu hl,seq_un]
/-- Some number's bits say any signs. -/
theorem bits_say (s:Nat→Bool):∀cr:Nat,∃nu,nu < 2 ^ cr∧∀d,1≤d→d≤cr→((nu >>> (cr-d)) % 2=1↔s d=true)
 | 0=>⟨0,by simp,fun d h1 h2=>by omega⟩
 | cr+1=>by
  obtain ⟨nu,h1,h2⟩:=bits_say s cr
  refine ⟨2*nu+(if s (cr+1) then 1 else 0),?_,fun d h3 h4=>?_⟩
  ·rw [Nat.pow_succ];split<;>omega
  ·by_cases hd:d=cr+1
   ·subst hd
    rw [Nat.sub_self,Nat.shiftRight_zero]
    cases hs:s (cr+1) with
    | true=>simp<;>omega
    | false=>simp
   ·have h5:=h2 d h3 (by omega)
    rw [show cr+1-d=(cr-d)+1 by omega,Nat.add_comm (cr-d) 1,Nat.shiftRight_add,show (2*nu+(if s (cr+1) then 1 else 0)) >>> 1=(2*nu+(if s (cr+1) then 1 else 0)) / 2 from rfl]
    rw [show (2*nu+(if s (cr+1) then 1 else 0)) / 2=nu by split<;>omega]
    exact h5
/-- The code is one of those with its signs laid. -/
theorem PosP.signs (p:PosP K L) (hl:∀i,i < L.length→lpB K (la L i)=true):∃nu,nu < 2 ^ (cN L L.length / 2)∧zAT (cN L L.length / 2) nu L=L:=by
 obtain ⟨nu,h1,h2⟩:=bits_say (fun d=>(List.range L.length).any fun i=>isC (la L i)&&((la L i).id==(d:Int)&&(la L i).sign==1)) (cN L L.length / 2)
 refine ⟨nu,h1,?_⟩
 have:∀l∈L,sgL (cN L L.length / 2) nu l=id l:=fun l hm=>by
  obtain ⟨i,hi,he⟩:=List.getElem_of_mem hm
  have e:la L i=l:=by unfold la;rw [List.getElem?_eq_getElem hi];simpa using he
  subst e
  unfold sgL
  split
  ·rename_i hc
   have hid:=p.ids hi hc
   have hs:=(unS_cross (hl i hi) hc).2
   have h3:=h2 (la L i).id.toNat (by omega) (by omega)
   have e:sgI (cN L L.length / 2) nu (la L i)=(la L i).sign:=by
    unfold sgI
    by_cases h1:(la L i).sign=1
    ·rw [if_pos (h3.2 (List.any_eq_true.2 ⟨i,List.mem_range.2 hi,by simp [hc,h1];omega⟩)),h1]
    ·rw [if_neg,hs.resolve_left h1]
     intro h4
     have h5:=h3.1 h4
     obtain ⟨j,hj,h6⟩:=List.any_eq_true.1 h5
     simp only [Bool.and_eq_true,beq_iff_eq] at h6
     obtain ⟨hcj,hij,hsj⟩:=h6
     by_cases hij2:i=j
     ·subst hij2;exact h1 hsj
     ·have:=(zCB p.good.cross hi (List.mem_range.1 hj) hc hcj (by omega) hij2).2
      rw [hsj] at this;exact h1 this
   rw [e]
   rfl
  ·rfl
 unfold zAT
 rw [List.map_congr_left this,List.map_id]
end
end Go.Proofs.YtlmdfmnbcndhoaaGreatDoor
namespace Go.Proofs.YtlmdfmnbcndhoaaGreatDoor
open Go.RowKit
section
variable {K:Int} {L:List Lt} {F:List Fg} {re lo:Int}
theorem posP_of (h:zAU F re lo K L=true) (h0:0 < L.length):PosP K L∧frOk F re lo∧K=(F.length:Int)∧L.length≤400∧(∀i,i < L.length→lpB K (la L i)=true):=by
 unfold zAU at h
 simp only [Bool.and_eq_true,beq_iff_eq] at h
 obtain ⟨⟨⟨h1,h2⟩,h3⟩,h4⟩:=h
 have ht:=zCh h2
 obtain ⟨c1,c2,c3,c4⟩:=zDm h2
 have hv:zAo K L=true:=by rcases c4 with h | h;· omega
                          ·exact h
 have g:=zCf h0 hv
 have hpo:∀i,i < L.length→poB L i=true:=zAk.1 h4
 have key:∀i,i < L.length→isP (la L i)=true→dwn L i=true→i+1 < L.length∧isP (la L (i+1))=true∧((la L (i+1)).gate-(la L i).gate=1∨(la L i).gate-(la L (i+1)).gate=1):=by
  intro i hi hp hd
  have hlt:i+1 < L.length:=by
   rcases Nat.lt_or_ge (i+1) L.length with h | h
   ·exact h
   ·have e:i+1=L.length:=by omega
    have hd2:dwn L (i+1)=false:=by rw [dwnP hp,hd];rfl
    rw [e] at hd2
    unfold dwn at hd2
    have:=g.even
    simp [this] at hd2
  have:=hpo i hi
  unfold poB neB nxL at this
  rw [hp,hd,Nat.mod_eq_of_lt hlt] at this
  simp only [Bool.and_self,Bool.not_true,Bool.false_or,Bool.and_eq_true,Bool.or_eq_true,beq_iff_eq] at this
  exact ⟨hlt,this.1,this.2⟩
 have hfl:zFq L=true:=by
  unfold zAo at hv
  simp only [Bool.and_eq_true] at hv
  exact hv.2
 have hll:∀i,i < L.length→lpB K (la L i)=true:=by
  unfold zAo at hv
  simp only [Bool.and_eq_true] at hv
  have h5:=hv.1.2
  rw [←zBX] at h5
  simp only [Bool.and_eq_true] at h5
  exact fun i hi=>zAk.1 h5.1.1 i hi
 refine ⟨⟨g,hfl,fun i hi hp hd=>⟨(key i hi hp hd).1,(key i hi hp hd).2.1⟩,fun i hd=>?_⟩,zCo.1 h1,h3,ht.len,hll⟩
 obtain ⟨d1,d2⟩:=zCd.1 hd
 exact (key i (zAH d1) d1 d2).2.2
theorem zEe:zBP F re lo K L=0↔zAU F re lo K L=true:=by
 refine ⟨fun h=>(zBz h).1,fun h=>?_⟩
 have h':=h
 unfold zAU at h
 simp only [Bool.and_eq_true,beq_iff_eq] at h
 unfold zBP
 rw [if_neg (by rw [h.1.1.1];simp),if_neg (by rw [h.1.1.2];simp),if_pos h']
theorem codes_un {cr m:Nat} (hl:∀i,i < L.length→lpB K (la L i)=true) (hk:∀i,i < L.length→isP (la L i)=true∨isC (la L i)=true):zAu F re lo cr (L.map unS) m=zAu F re lo cr L m:=by
 unfold zAu
 simp only [signed_un hl hk]
theorem mem_codes {cr m:Nat} {M:List Lt} (h:M∈zAu F re lo cr L m):zAU F re lo (F.length:Int) M=true∧∃nu,nu < m∧M=zAT cr nu L:=by
 unfold zAu at h
 obtain ⟨h1,h2⟩:=List.mem_filter.1 h
 obtain ⟨nu,h3,rfl⟩:=List.mem_map.1 h1
 exact ⟨h2,nu,List.mem_range.1 h3,rfl⟩
/-- What reading the sequence of a posed code gives. -/
theorem rq_posed (h:zAU F re lo K L=true) (h0:0 < L.length) :
  (12 < cN L L.length / 2→rqR F re lo (seqF F L)=([],7)) ∧
  (cN L L.length / 2≤12→rqR F re lo (seqF F L)=(zAu F re lo (cN L L.length / 2) L (2 ^ (cN L L.length / 2)),0)∧L∈zAu F re lo (cN L L.length / 2) L (2 ^ (cN L L.length / 2))):=by
 obtain ⟨p,hf,hK,hn,hl⟩:=posP_of h h0
 obtain ⟨r1,r2,r3⟩:=p.read hf hK hn hl
 obtain ⟨_,i2,i3⟩:=p.items hf hK hn
 have hb:zAD F re lo (seqF F L)=0:=by
  have:=p.len hf hK hn
  unfold zAD
  rw [if_pos (zCo.2 hf),if_neg (by omega)]
 have hlen:(L.map unS).length=L.length:=by simp
 constructor
 ·intro hc
  unfold rqR
  rw [if_neg (by rw [hb];simp),if_neg p.not_bare,if_neg (by rw [i2];simp),if_neg (by rw [i3];simp),if_neg (by rw [r3];simp),if_pos (by rw [r2];exact .inl hc)]
 ·intro hc
  have hm:L∈zAu F re lo (cN L L.length / 2) L (2 ^ (cN L L.length / 2)):=by
   obtain ⟨nu,h1,h2⟩:=p.signs hl
   unfold zAu
   refine List.mem_filter.2 ⟨List.mem_map.2 ⟨nu,List.mem_range.2 h1,h2⟩,?_⟩
   rw [←hK];exact h
  refine ⟨?_,hm⟩
  unfold rqR
  rw [if_neg (by rw [hb];simp),if_neg p.not_bare,if_neg (by rw [i2];simp),if_neg (by rw [i3];simp),if_neg (by rw [r3];simp),if_neg (by rw [r2,r1,hlen];omega),r1,r2,codes_un hl p.good.kinds,
   if_neg (by intro e;rw [e] at hm;simp at hm)]
/-- The codes of a sequence differ in signs alone. -/
theorem codes_same {cr m:Nat} (hl:∀i,i < L.length→lpB K (la L i)=true) {M:List Lt} (h:M∈zAu F re lo cr L m):M.map unS=L.map unS∧seqF F M=seqF F L:=by
 obtain ⟨_,nu,_,rfl⟩:=mem_codes h
 exact ⟨un_signed cr nu hl,seq_signed F hl⟩
end
theorem bare_rq {F:List Fg} {re lo:Int} (h:frB F re lo=true):rqR F re lo zEB=([[]],0):=by
 unfold rqR
 rw [if_neg,if_pos rfl]
 unfold zAD
 rw [if_pos h,if_neg (by decide)]
 simp
end Go.Proofs.YtlmdfmnbcndhoaaGreatDoor
namespace Go.Proofs.YtlmdfmnbcndhoaaGreatDoor
open Go.RowKit
def slE (F:List Fg) (re lo K:Int) (L:List Lt):Int:=if zBP F re lo K L≠0 then zBP F re lo K L else if 12 < cN L L.length / 2 then 7 else 0
def slN (F:List Fg) (re lo K:Int) (L:List Lt):Nat:=if slE F re lo K L≠0 then 0 else if L.length=0 then 1 else (zAu F re lo (cN L L.length / 2) L (2 ^ (cN L L.length / 2))).length
theorem zFW {K:Int} {A:Option Addr} {n c:Nat} {L:List Lt} {x:Nat} (h:cN L n / 2=x) (w:World) (hA:Lets w A n L) :
  Calls Tryz.prog 43 #[.agg #[.int .i64 K,.slice A n c]] w fun e w'=>e=.returned (.int .i64 (x:Int))∧Below w.heap.size w w':=by
 subst h;exact zHs K A n c L w hA
end Go.Proofs.YtlmdfmnbcndhoaaGreatDoor
namespace Go.Proofs.YtlmdfmnbcndhoaaGreatDoor
open Go.RowKit
theorem zFl {n:Nat} {b:Bool} (h:decide (n≤60)=b) (A:Option Addr) (c:Nat) (re lo:Int) (w:World) :
  Calls Tryz.prog 15 #[frV A n c re lo] w fun e w'=>e=.returned (.bool b)∧Below w.heap.size w w':=by
 subst h;exact law_short A n c re lo w
end Go.Proofs.YtlmdfmnbcndhoaaGreatDoor
namespace Go.Proofs.YtlmdfmnbcndhoaaGreatDoor
open Go.RowKit
/-- What reading the sequence of a posed code with few crossings gives. -/
theorem open_facts {F:List Fg} {re lo K:Int} {L:List Lt} (h:zAU F re lo K L=true) (hc:cN L L.length / 2≤12) :
  ∃Cs,rqR F re lo (seqF F L)=(Cs,0)∧slN F re lo K L=Cs.length∧slE F re lo K L=0∧K=(F.length:Int)∧Cs.length≤4096 ∧
   (∀M∈Cs,zAU F re lo (F.length:Int) M=true∧seqF F M=seqF F L∧M.map unS=L.map unS)∧L∈Cs∧(0 < cN L L.length / 2∨Cs.length=1):=by
 have he:=zEe.2 h
 have hK:=(zBz he).2.2.2.1
 have hse:slE F re lo K L=0:=by unfold slE;rw [if_neg (by rw [he];simp),if_neg (by omega)]
 by_cases h0:L.length=0
 ·obtain rfl:L=[]:=List.length_eq_zero_iff.1 h0
  have hfr:=zCo.2 (zBz he).2.1
  refine ⟨[[]],?_,?_,hse,hK,by simp,fun M hM=>?_,by simp,.inr rfl⟩
  ·rw [show seqF F []=zEB from rfl];exact bare_rq hfr
  ·unfold slN;rw [hse,if_neg (by simp)];rfl
  ·obtain rfl:=List.mem_singleton.1 hM
   rw [←hK]
   exact ⟨h,rfl,rfl⟩
 ·obtain ⟨r1,r2⟩:=(rq_posed h (by omega)).2 hc
  obtain ⟨pp,hf,_,hn,hl⟩:=posP_of h (by omega)
  have hlen:=codesTo_len F re lo (cN L L.length / 2) L (2 ^ (cN L L.length / 2))
  have h2:2 ^ (cN L L.length / 2)≤2 ^ 12:=Nat.pow_le_pow_right (by omega) hc
  refine ⟨_,r1,?_,hse,hK,by omega,fun M hM=>⟨(mem_codes hM).1,(codes_same hl hM).2,(codes_same hl hM).1⟩,r2,?_⟩
  ·unfold slN;rw [hse,if_neg (by simp),if_neg h0]
  ·rcases Nat.eq_zero_or_pos (cN L L.length / 2) with hz | hz
   ·right
    rw [hz] at r2 hlen ⊢
    have:0 < (zAu F re lo 0 L (2 ^ 0)).length:=List.length_pos_of_mem r2
    simp only [Nat.pow_zero] at hlen this ⊢
    omega
   ·exact .inl hz
theorem nseq_is {A:Option Addr} {n c:Nat} {F:List Fg} {re lo K:Int} {B:Option Addr} {m d:Nat} {L:List Lt} {E:Int} {S:List UInt8} (hE:zBP F re lo K L=E) (hS:sqS F re lo K L=S) (w:World) (hA:Fgs w A n F) (hc:n≤c) (hB:Lets w B m L) (ht:Tabs w) :
  Calls Tryz.prog 33 #[frV A n c re lo,.agg #[.int .i64 K,.slice B m d]] w fun e w'=>e=.returned (.tuple #[.string (bA S),.int .i64 E])∧Below w.heap.size w w':=by
 subst hE;subst hS;exact zEn A n c F re lo K B m d L w hA hc hB ht
theorem nrseq_is {A:Option Addr} {n c:Nat} {F:List Fg} {re lo:Int} {S:List UInt8} {Cs:List (List Lt)} {E:Int} (h:rqR F re lo S=(Cs,E)) (w:World) (hA:Fgs w A n F) (hc:n≤c) (ht:Tabs w) :
  Calls Tryz.prog 37 #[frV A n c re lo,.string (bA S)] w (RqErr w (n:Int) Cs E):=by
 have:=zCF ⟨A,n,c,F,re,lo⟩ S w hA hc ht
 simp only at this
 rw [h] at this
 exact this
/-- A code of the list. -/
theorem code_at {w:World} {base:Nat} {K:Int} {B:Option Addr} {m d:Nat} {Es:List Ce} {i:Nat} {e:Ce} (h:CodesOwn w base K B m d Es) (hi:Es[i]? = some e) :
  ∃g o,B=some ⟨g,o,none⟩∧g < w.heap.size∧w.cell? ⟨g,o+i*2,none⟩=some (.int .i64 K)∧w.cell? ⟨g,o+i*2+1,none⟩=some (.slice e.A e.n e.c)∧Lets w e.A e.n e.L:=by
 have hlt:i < m:=by rw [←h.len];exact (List.getElem?_eq_some_iff.1 hi).1
 obtain ⟨g,o,rfl,_,hg⟩:=h.row.form (by omega)
 have q0:=h.row.cell (j:=i*2+0) (by rw [zFu (encC K) 2 (fun _=>rfl) Es i 0 e hi (by omega)];rfl)
 have q1:=h.row.cell (j:=i*2+1) (by rw [zFu (encC K) 2 (fun _=>rfl) Es i 1 e hi (by omega)];rfl)
 exact ⟨g,o,rfl,hg,q0,q1,(h.ok e (List.mem_of_getElem? hi)).1⟩
end Go.Proofs.YtlmdfmnbcndhoaaGreatDoor
