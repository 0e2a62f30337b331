/-
  Lemmas, part 28. Conditions: each theorem's own.
-/
import Derived.Test.YtlmdfmnbcndhoaaGreatDoorRc03
import Derived.Maps.OwnOps
import Derived.DeepKeys4
import Derived.Test.YtlmdfmnbcndhoaaGreatDoorRc12
import Derived.Maps.OwnSet
open Option renaming none→U,some→Z
open Bool renaming false→E,true→Q
open Go.Value renaming bool→G,int→D
open Go.IntKind renaming i64→J
namespace Go.Proofs.YtlmdfmnbcndhoaaGreatDoor
open Go.RowKit
open Go.Maps (Keyed)
def KMap (w:World) (P:Program) (k:TypeId) (b:Nat) (kv:List (Value×Value)):Prop :=
 ∃es clock,w.heap[b]? = Z (.map es clock)∧es.toList.map (fun e=>(e.key,e.val))=kv∧∀p∈kv,∃l,keyOf P k p.1=Z l
section
variable {P:Program} {w w':World} {k:TypeId} {b:Nat} {kv:List (Value×Value)}
theorem KMap.made (w:World) (P:Program) (k:TypeId):KMap (w.alloc (.map #[] 0)) P k w.heap.size [] :=
 ⟨#[],0,(MapKept.heap_alloc w _).1,rfl,by simp⟩
theorem KMap.lt (h:KMap w P k b kv):b < w.heap.size:=by
 obtain ⟨es,clock,hb,_⟩:=h;exact (Array.getElem?_eq_some_iff.1 hb).1
theorem KMap.below {B:Nat} (h:KMap w P k b kv) (hb:Below B w w') (hB:b < B):KMap w' P k b kv:=by
 obtain ⟨es,clock,hh,r⟩:=h;exact ⟨es,clock,(hb.block b hB).trans hh,r⟩
theorem KMap.alloc (h:KMap w P k b kv) (o:Obj):KMap (w.alloc o) P k b kv:=h.below ((Below.refl _ _).alloc (Nat.le_refl _) o) h.lt
theorem KMap.setCell (h:KMap w P k b kv) {p:Addr} (hp:b≠p.block) (u:Value):KMap (w.setCell p u) P k b kv:=by
 obtain ⟨es,clock,hh,r⟩:=h;exact ⟨es,clock,(Below.heap_setCell w p u b hp).trans hh,r⟩
theorem KMap.find (K:Keyed P k) {es:Array MapEntry} (he:es.toList.map (fun e=>(e.key,e.val))=kv) (hk:∀p∈kv,∃l,keyOf P k p.1=Z l) {key:Value} {l:Lit} (hkey:keyOf P k key=Z l) (w:World) :
  ((Instr.findKey k key es.toList).run P w=.ok U w∧∀p∈kv,p.1≠key)∨∃(j:Nat) (v:Value),(Instr.findKey k key es.toList).run P w=.ok (Z (j,v)) w∧kv[j]? = Z (key,v):=by
 have hes:∀e∈es.toList,∃l,keyOf P k e.key=Z l:=fun e hm=>hk (e.key,e.val) (by rw [←he];exact List.mem_map.2 ⟨e,hm,rfl⟩)
 rcases K.find w hkey es.toList hes with ⟨h1,h2⟩ | ⟨j,e,h1,h2,h3⟩
 ·refine .inl ⟨h1,fun p hp=>?_⟩;rw [←he] at hp;obtain ⟨e,hm,rfl⟩:=List.mem_map.1 hp;exact h2 e hm
 ·refine .inr ⟨j,e.val,h1,?_⟩;rw [←he,List.getElem?_map,h2,←h3];rfl
theorem KMap.look (h:KMap w P k b kv) (K:Keyed P k) {t e:TypeId} (ht:P.underlying t=Z (.map k e)) {z:Value} (hz:(zeroValue e).run P w=.ok z w) {key:Value} {l:Lit} (hkey:keyOf P k key=Z l) :
  ((Instr.lookup t (.map (Z b)) key E).run P w=.ok z w∧∀p∈kv,p.1≠key)∨∃(j:Nat) (v:Value),(Instr.lookup t (.map (Z b)) key E).run P w=.ok v w∧kv[j]? = Z (key,v):=by
 obtain ⟨es,clock,hb,he,hk⟩:=h;rcases KMap.find K he hk hkey w with ⟨h1,h2⟩ | ⟨j,v,h1,h2⟩
 ·exact .inl ⟨by simp [Instr.lookup,run_underlying ht,MapKept.run_getObj_map hb,Result.andThen,K.check w _ hkey,h1,hz],h2⟩
 ·exact .inr ⟨j,v,by simp [Instr.lookup,run_underlying ht,MapKept.run_getObj_map hb,Result.andThen,K.check w _ hkey,h1],h2⟩
theorem KMap.push (h:KMap w P k b kv) (K:Keyed P k) {t e:TypeId} (ht:P.underlying t=Z (.map k e)) {key val:Value} {l:Lit} (hkey:keyOf P k key=Z l) (hnew:∀p∈kv,p.1≠key) :
  ∃w',(Instr.mapUpdate t (.map (Z b)) key val).run P w=.ok () w'∧KMap w' P k b (kv++[(key,val)])∧w.grownBy w' (Z b):=by
 obtain ⟨es,clock,hb,he,hk⟩:=h;rcases KMap.find K he hk hkey w with ⟨h1,_⟩ | ⟨j,v,_,h2⟩
 ·refine ⟨ChangeMaps.setBlock w b (.map (es.push { key,val,born:=clock }) (clock+1)),by simp [Instr.mapUpdate,run_underlying ht,MapKept.run_getObj_map hb,K.check w _ hkey,h1,MapKept.run_setObj_map _ hb,Result.andThen,ChangeMaps.setBlock],?_,?_⟩
  ·refine ⟨_,_,ChangeMaps.heap_setBlock_same hb _,by simp [←he],fun p hp=>?_⟩;rcases List.mem_append.1 hp with hp | hp
   ·exact hk p hp
   ·simp at hp;subst hp;exact ⟨l,hkey⟩
  ·exact ⟨rfl,rfl,rfl,by simp [ChangeMaps.setBlock],fun i _ hi=>ChangeMaps.heap_setBlock_other hb _ (fun e=>hi (by rw [e]))⟩
 ·exact absurd rfl (hnew _ (List.mem_of_getElem? h2))
theorem KMap.put (h:KMap w P k b kv) (K:Keyed P k) {t e:TypeId} (ht:P.underlying t=Z (.map k e)) {key val v:Value} {l:Lit} {j:Nat} (hkey:keyOf P k key=Z l) (hj:kv[j]? = Z (key,v)) (hone:∀i u,kv[i]? = Z (key,u)→i=j) :
  ∃w',(Instr.mapUpdate t (.map (Z b)) key val).run P w=.ok () w'∧KMap w' P k b (kv.set j (key,val))∧w.grownBy w' (Z b):=by
 obtain ⟨es,clock,hb,he,hk⟩:=h;rcases KMap.find K he hk hkey w with ⟨_,h2⟩ | ⟨j',v',h1,h2⟩
 ·exact absurd rfl (h2 _ (List.mem_of_getElem? hj))
 ·obtain rfl:=hone j' v' h2;have hes:∃x,es[j']? = Z x∧x.key=key:=by
   rw [←he,List.getElem?_map] at h2;obtain ⟨x,hx,hxe⟩:=Option.map_eq_some_iff.1 h2;exact ⟨x,by simpa using hx,congrArg (·.1) hxe⟩
  obtain ⟨x,hx,hxk⟩:=hes;refine ⟨ChangeMaps.setBlock w b (.map (es.modify j' fun e=>{ e with key:=key,val:=val }) clock),by simp [Instr.mapUpdate,run_underlying ht,MapKept.run_getObj_map hb,K.check w _ hkey,h1,hx,hxk,K.stays w hkey,MapKept.run_setObj_map _ hb,Result.andThen,ChangeMaps.setBlock],?_,?_⟩
  ·refine ⟨_,_,ChangeMaps.heap_setBlock_same hb _,?_,fun p hp=>?_⟩
   ·rw [←he];apply List.ext_getElem?;intro i;simp only [Array.toList_modify,List.getElem?_map,List.getElem?_set,List.getElem?_modify];by_cases e:j'=i
    ·subst e;have hlt:j' < es.size:=(Array.getElem?_eq_some_iff.1 hx).1;simp [hlt]
    ·simp [e]
   ·rcases List.mem_or_eq_of_mem_set hp with hp | hp
    ·exact hk p hp
    ·subst hp;exact ⟨l,hkey⟩
  ·exact ⟨rfl,rfl,rfl,by simp [ChangeMaps.setBlock],fun i _ hi=>ChangeMaps.heap_setBlock_other hb _ (fun e=>hi (by rw [e]))⟩
end
theorem zGV:Keyed Tryz.prog 3:=Go.Maps.int_keyed Tryz.underlying3
theorem zUS:laidOutB Tryz.prog=Q:=by kernel_rfl
theorem zSj (w:World):(zeroValue 4).run Tryz.prog w=.ok (G E) w:=by kernel_rfl
end Go.Proofs.YtlmdfmnbcndhoaaGreatDoor
namespace Go.Proofs.YtlmdfmnbcndhoaaGreatDoor
def zFz (L:List Lt) (d:Int) (o:Bool) (j:Nat):Bool:=isC (la L j)&&(la L j).id==d&&(la L j).over==o
def zAt (L:List Lt) (d:Int) (o:Bool):Nat→Int
 | 0=>-1
 | i+1=>if zFz L d o i then (i:Int) else zAt L d o i
theorem zBG {L:List Lt} {d:Int} {o:Bool} {j:Nat}:zFz L d o j=Q↔isC (la L j)=Q∧(la L j).id=d∧(la L j).over=o:=by
 unfold zFz;simp [and_assoc]
theorem zCi (L:List Lt) (d:Int) (o:Bool) (i:Nat):-1≤zAt L d o i∧zAt L d o i < i:=by
 induction i with
 | zero=>exact ⟨by simp [zAt],by simp [zAt]⟩
 | succ i ih=>unfold zAt;split<;>omega
theorem zEr {L:List Lt} {d:Int} {o:Bool} {i:Nat}:zAt L d o i < 0↔∀j,j < i→zFz L d o j=E:=by
 induction i with
 | zero=>simp [zAt]
 | succ i ih =>
  unfold zAt
  cases h:zFz L d o i with
  | true =>
   rw [if_pos rfl];exact ⟨fun hh=>by omega,fun hh=>by have:=hh i (by omega);rw [h] at this;cases this⟩
  | false =>
   simp only [Bool.false_eq_true,if_false];rw [ih];constructor
   ·intro hh j hj;rcases Nat.decEq j i with e | e
    ·exact hh j (by omega)
    ·subst e;exact h
   ·intro hh j hj;exact hh j (by omega)
theorem zFA {L:List Lt} {d:Int} {o:Bool} {i:Nat} (h:0≤zAt L d o i):∃j:Nat,zAt L d o i=(j:Int)∧j < i∧zFz L d o j=Q:=by
 induction i with
 | zero=>simp [zAt] at h
 | succ i ih =>
  unfold zAt at h ⊢
  cases hv:zFz L d o i with
  | true=>rw [if_pos rfl];exact ⟨i,rfl,by omega,hv⟩
  | false =>
   rw [hv] at h;simp only [Bool.false_eq_true,if_false] at h ⊢;obtain ⟨j,h1,h2,h3⟩:=ih h;exact ⟨j,h1,by omega,h3⟩
theorem zBN {L:List Lt} {d:Int} {o:Bool} {i:Nat} (h:zFz L d o i=E):zAt L d o (i+1)=zAt L d o i:=by
 conv=>lhs;unfold zAt
 rw [if_neg (by rw [h];simp)]
theorem zFB {L:List Lt} {d:Int} {o:Bool} {i:Nat} (h:zFz L d o i=Q):zAt L d o (i+1)=i:=by
 conv=>lhs;unfold zAt
 rw [if_pos h]
def crT (L:List Lt) (i:Nat):Prop :=
 zAt L (la L i).id (la L i).over i < 0∧(0≤zAt L (la L i).id (!(la L i).over) i→(la L (zAt L (la L i).id (!(la L i).over) i).toNat).sign=(la L i).sign)
theorem zUT {L:List Lt} {i:Nat} (hall:∀j,j < i→crB L j=Q) (hc:isC (la L i)=Q) (hb:1≤(la L i).id∧(la L i).id≤((cN L L.length / 2:Nat):Int)):crB L i=Q↔crT L i:=by
 constructor
 ·intro h;have h2:=(zBA.1 h hc).2;refine ⟨zEr.2 fun j hj=>?_,fun hp=>?_⟩
  ·cases hv:zFz L (la L i).id (la L i).over j with
   | false=>rfl
   | true =>
    obtain ⟨v1,v2,v3⟩:=zBG.1 hv;exact absurd v3 (h2 j hj v1 v2).1
  ·obtain ⟨j,e,hj,hv⟩:=zFA hp;obtain ⟨v1,v2,v3⟩:=zBG.1 hv;rw [e,Int.toNat_natCast];exact (h2 j hj v1 v2).2
 ·rintro ⟨t1,t2⟩;refine zBA.2 fun _=>⟨hb,fun j hj hcj hid=>?_⟩
  have hov:(la L j).over≠(la L i).over:=fun e=>by
   have:=zEr.1 t1 j hj;rw [zBG.2 ⟨hcj,hid,e⟩] at this
   cases this
  refine ⟨hov,?_⟩;have sQ:(la L j).over = !(la L i).over:=by revert hov;cases (la L j).over<;>cases (la L i).over<;>simp
  have hvj:zFz L (la L i).id (!(la L i).over) j=Q:=zBG.2 ⟨hcj,hid,sQ⟩;have hpos:0≤zAt L (la L i).id (!(la L i).over) i:=by
   rcases (show _ < (0:Int)∨(0:Int)≤_ from Int.lt_or_le (zAt L (la L i).id (!(la L i).over) i) 0) with h | h
   ·have:=zEr.1 h j hj;rw [hvj] at this;cases this
   ·exact h
  obtain ⟨j',e,Bo,hv'⟩:=zFA hpos;have hs:=t2 hpos;rw [e,Int.toNat_natCast] at hs;obtain ⟨v1,v2,v3⟩:=zBG.1 hv';have:j'=j:=by
   rcases Nat.lt_trichotomy j' j with hl | he | hl
   ·exact absurd (v3.trans sQ.symm) ((zBA.1 (hall j hj) hcj).2 j' hl v1 (v2.trans hid.symm)).1
   ·exact he
   ·exact absurd (sQ.trans v3.symm) ((zBA.1 (hall j' Bo) v1).2 j hl hcj (hid.trans v2.symm)).1
  rw [←this];exact hs
theorem zJF {L:List Lt} {d:Int} {i:Nat}:(0≤zAt L d E i∨0≤zAt L d Q i)↔0 < tN L d i:=by
 constructor
 ·rintro (h | h)
  all_goals
   obtain ⟨j,_,hj,hv⟩:=zFA h;obtain ⟨v1,v2,_⟩:=zBG.1 hv;exact zKd hj (by simp [v1,v2])
 ·intro h;obtain ⟨j,hj,hp⟩:=zTT h;simp at hp;rcases (show _ < (0:Int)∨(0:Int)≤_ from Int.lt_or_le (zAt L d E i) 0) with h1 | h1
  ·rcases (show _ < (0:Int)∨(0:Int)≤_ from Int.lt_or_le (zAt L d Q i) 0) with h2 | h2
   ·have a:=zEr.1 h1 j hj;have b:=zEr.1 h2 j hj;unfold zFz at a b;rw [hp.1,hp.2] at a b
    revert a b
    cases (la L j).over<;>simp
   ·exact .inr h2
  ·exact .inl h1
theorem zTy {L:List Lt} {i:Nat}:nwB L i=Q↔isC (la L i)=Q∧tN L (la L i).id i=0:=by
 unfold nwB;rw [Bool.and_eq_true,zAF];refine and_congr_right fun _=>?_
 constructor
 ·intro h;exact zIS fun m hm=>by have:=h m hm;simpa only [Bool.not_eq_true'] using this
 ·intro h j hj
  cases hq:(isC (la L j)&&(la L j).id==(la L i).id) with
  | false=>rfl
  | true=>have:=zKd (p:=fun m=>isC (la L m)&&(la L m).id==(la L i).id) hj hq;unfold tN at h;omega
section
variable {K:Int} {L:List Lt}
theorem Good.last (g:Good K L) {i:Nat} (hc:isC (la L i)=Q):zAt L (la L i).id (!(la L i).over) L.length=(zGA L i:Nat):=by
 obtain ⟨h1,h2,h3,h4,h5,h6⟩:=g.other hc;have hlt:=zEC h2;have hv:zFz L (la L i).id (!(la L i).over) (zGA L i)=Q:=zBG.2 ⟨h2,h3,by revert h4;cases (la L (zGA L i)).over<;>cases (la L i).over<;>simp⟩;have hpos:0≤zAt L (la L i).id (!(la L i).over) L.length:=by
  rcases (show _ < (0:Int)∨(0:Int)≤_ from Int.lt_or_le (zAt L (la L i).id (!(la L i).over) L.length) 0) with h | h
  ·have:=zEr.1 h _ hlt;rw [hv] at this;cases this
  ·exact h
 obtain ⟨j,e,hj,hvj⟩:=zFA hpos;obtain ⟨v1,v2,v3⟩:=zBG.1 hvj;rw [e,h6 j v1 v2 (fun e=>by subst e;revert v3;cases (la L j).over<;>simp)]
end
end Go.Proofs.YtlmdfmnbcndhoaaGreatDoor
namespace Go.Proofs.YtlmdfmnbcndhoaaGreatDoor
open Go.RowKit
open Go.Maps (Keyed)
section
variable {P:Program} {w w':World} {k:TypeId} {b:Nat} {kv:List (Value×Value)}
theorem KMap.lookOk (h:KMap w P k b kv) (K:Keyed P k) {t e:TypeId} (ht:P.underlying t=Z (.map k e)) {z:Value} (hz:∀w,(zeroValue e).run P w=.ok z w) {key:Value} {l:Lit} (hkey:keyOf P k key=Z l) :
  ((Instr.lookup t (.map (Z b)) key Q).run P w=.ok (.tuple #[z,G E]) w∧∀p∈kv,p.1≠key)∨∃(j:Nat) (v:Value),(Instr.lookup t (.map (Z b)) key Q).run P w=.ok (.tuple #[v,G Q]) w∧kv[j]? = Z (key,v):=by
 obtain ⟨es,clock,hb,he,hk⟩:=h;rcases KMap.find K he hk hkey w with ⟨h1,h2⟩ | ⟨j,v,h1,h2⟩
 ·exact .inl ⟨by simp [Instr.lookup,run_underlying ht,MapKept.run_getObj_map hb,Result.andThen,K.check w _ hkey,h1,hz],h2⟩
 ·exact .inr ⟨j,v,by simp [Instr.lookup,run_underlying ht,MapKept.run_getObj_map hb,Result.andThen,K.check w _ hkey,h1],h2⟩
end
def ent (L:List Lt) (i:Nat) (d:Int):Value×Value:=(D J d,.agg #[D J (zAt L d E i),D J (zAt L d Q i)])
structure Vis (w:World) (b:Nat) (L:List Lt) (i:Nat) (ids:List Int):Prop where
 map:KMap w Tryz.prog 3 b (ids.map (ent L i))
 nodup:ids.Nodup
 mem:∀d,d∈ids↔0 < tN L d i
 len:ids.length=dN L i
theorem zMP (w:World):(zeroValue 226).run Tryz.prog w=.ok (.agg #[D J 0,D J 0]) w:=by kernel_rfl
theorem zPU (x:Int) (hx:I64 x):∃l,keyOf Tryz.prog 3 (D J x)=Z l:=⟨_,Go.Maps.keyOf_int_mk Tryz.underlying3 (Go.WalkArith.wf_i64 hx)⟩
section
variable {w w':World} {b i:Nat} {L:List Lt} {ids:List Int}
theorem Vis.look (h:Vis w b L i ids) {d:Int} (hd:I64 d) :
  ((Instr.lookup 146 (.map (Z b)) (D J d) Q).run Tryz.prog w=.ok (.tuple #[.agg #[D J 0,D J 0],G E]) w∧tN L d i=0) ∨
  ((Instr.lookup 146 (.map (Z b)) (D J d) Q).run Tryz.prog w=.ok (.tuple #[.agg #[D J (zAt L d E i),D J (zAt L d Q i)],G Q]) w∧0 < tN L d i):=by
 obtain ⟨l,hl⟩:=zPU d hd;rcases h.map.lookOk zGV Tryz.underlying146 zMP hl with ⟨h1,h2⟩ | ⟨j,v,h1,h2⟩
 ·refine .inl ⟨h1,?_⟩;rcases Nat.eq_zero_or_pos (tN L d i) with h0 | h0
  ·exact h0
  ·exact absurd rfl (h2 (ent L i d) (List.mem_map.2 ⟨d,(h.mem d).2 h0,rfl⟩))
 ·rw [List.getElem?_map] at h2;obtain ⟨d',rJ,he⟩:=Option.map_eq_some_iff.1 h2;simp only [ent,Prod.mk.injEq,Value.int.injEq,true_and] at he;obtain ⟨rfl,rfl⟩:=he;exact .inr ⟨h1,(h.mem d').1 (List.mem_of_getElem? rJ)⟩
theorem Vis.lookNo (h:Vis w b L i ids) {d:Int} (hd:I64 d) (ht:tN L d i=0):(Instr.lookup 146 (.map (Z b)) (D J d) Q).run Tryz.prog w=.ok (.tuple #[.agg #[D J 0,D J 0],G E]) w:=by
 rcases h.look hd with ⟨h1,_⟩ | ⟨_,h2⟩
 ·exact h1
 ·omega
theorem Vis.lookYes (h:Vis w b L i ids) {d:Int} (hd:I64 d) (ht:0 < tN L d i):(Instr.lookup 146 (.map (Z b)) (D J d) Q).run Tryz.prog w=.ok (.tuple #[.agg #[D J (zAt L d E i),D J (zAt L d Q i)],G Q]) w:=by
 rcases h.look hd with ⟨_,h2⟩ | ⟨h1,_⟩
 ·omega
 ·exact h1
theorem zLX (L:List Lt) (d:Int) (i:Nat):tN L d (i+1)=tN L d i+(if (isC (la L i)&&(la L i).id==d)=Q then 1 else 0):=rfl
theorem Vis.skip (h:Vis w b L i ids) (hc:isC (la L i)=E):Vis w b L (i+1) ids:=by
 have hv:∀d o,zFz L d o i=E:=fun d o=>by unfold zFz;rw [hc];rfl
 refine ⟨?_,h.nodup,fun d=>?_,?_⟩
 ·have:ids.map (ent L (i+1))=ids.map (ent L i):=List.map_congr_left fun d _=>by unfold ent;rw [zBN (hv d E),zBN (hv d Q)]
  rw [this];exact h.map
 ·rw [h.mem d,zLX,hc];simp
 ·rw [h.len];unfold dN;rw [zAp (by unfold nwB;rw [hc];rfl)]
theorem Vis.store (h:Vis w b L i ids) (hc:isC (la L i)=Q) (hd:I64 (la L i).id) :
  ∃w' ids',(Instr.mapUpdate 146 (.map (Z b)) (D J (la L i).id) (.agg #[D J (zAt L (la L i).id E (i+1)),D J (zAt L (la L i).id Q (i+1))])).run Tryz.prog w=.ok () w'∧Vis w' b L (i+1) ids'∧w.grownBy w' (Z b):=by
 obtain ⟨l,hl⟩:=zPU _ hd;have hoth:∀d,d≠(la L i).id→ent L (i+1) d=ent L i d:=fun d hne=>by
  have hv:∀o,zFz L d o i=E:=fun o=>by unfold zFz;simp;intro _ e;exact absurd e.symm hne
  unfold ent;rw [zBN (hv E),zBN (hv Q)]
 by_cases hm:(la L i).id∈ids
 ·obtain ⟨j,hj,hje⟩:=List.getElem_of_mem hm;have EH:(ids.map (ent L i))[j]? = Z (ent L i (la L i).id):=by rw [List.getElem?_map,List.getElem?_eq_getElem hj,hje];rfl
  have huniq:∀t u,(ids.map (ent L i))[t]? = Z (D J (la L i).id,u)→t=j:=fun t u ht=>by
   rw [List.getElem?_map] at ht;obtain ⟨d',rJ,he⟩:=Option.map_eq_some_iff.1 ht;simp only [ent,Prod.mk.injEq,Value.int.injEq,true_and] at he;have e1:=he.1;subst e1;exact (List.getElem?_inj (List.getElem?_eq_some_iff.1 rJ).1 h.nodup).1 (rJ.trans (by rw [List.getElem?_eq_getElem hj,hje]))
  obtain ⟨w',h1,h2,h3⟩:=h.map.put zGV Tryz.underlying146 (val:=.agg #[D J (zAt L (la L i).id E (i+1)),D J (zAt L (la L i).id Q (i+1))]) hl EH huniq;refine ⟨w',ids,h1,⟨?_,h.nodup,fun d=>?_,?_⟩,h3⟩
  ·have:(ids.map (ent L i)).set j (D J (la L i).id,.agg #[D J (zAt L (la L i).id E (i+1)),D J (zAt L (la L i).id Q (i+1))])=ids.map (ent L (i+1)):=by
    apply List.ext_getElem?;intro t;rw [List.getElem?_set,List.getElem?_map,List.getElem?_map];by_cases e:j=t
    ·subst e;rw [if_pos rfl,if_pos (by simpa using hj),List.getElem?_eq_getElem hj,hje];rfl
    ·rw [if_neg e]
     cases ht:ids[t]? with
     | none=>rfl
     | some d =>
      simp only [Option.map_some]
      rw [hoth d (fun ed=>e (by
       subst ed
       exact (List.getElem?_inj hj h.nodup).1 (by rw [List.getElem?_eq_getElem hj,hje,ht]))) ]
   rw [←this];exact h2
  ·rw [h.mem d,zLX];by_cases e:(la L i).id=d
   ·have:=(h.mem d).1 (by rw [←e];exact hm);omega
   ·rw [if_neg (by simp [e])];omega
  ·rw [h.len];unfold dN;rw [zAp]
   cases hq:nwB L i with
   | false=>rfl
   | true =>
    have:=(zTy.1 hq).2;have:=(h.mem _).1 hm;omega
 ·have hnew:∀p∈ids.map (ent L i),p.1≠D J (la L i).id:=fun p hp e=>by
   obtain ⟨d,rJ,rfl⟩:=List.mem_map.1 hp;simp only [ent,Value.int.injEq,true_and] at e;subst e;exact hm rJ
  obtain ⟨w',h1,h2,h3⟩:=h.map.push zGV Tryz.underlying146 (val:=.agg #[D J (zAt L (la L i).id E (i+1)),D J (zAt L (la L i).id Q (i+1))]) hl hnew;refine ⟨w',ids++[(la L i).id],h1,⟨?_,?_,fun d=>?_,?_⟩,h3⟩
  ·have:ids.map (ent L i)++[(D J (la L i).id,.agg #[D J (zAt L (la L i).id E (i+1)),D J (zAt L (la L i).id Q (i+1))])]=(ids++[(la L i).id]).map (ent L (i+1)):=by
    rw [List.map_append];refine congr (congrArg _ (List.map_congr_left fun d rJ=>?_)) rfl;rw [hoth d (fun e=>by subst e;exact hm rJ)]
   rw [←this];exact h2
  ·rw [List.nodup_append];exact ⟨h.nodup,by simp,fun a ha b' tE e=>by simp at tE;subst tE;subst e;exact hm ha⟩
  ·rw [List.mem_append,h.mem d,zLX,List.mem_singleton];by_cases e:(la L i).id=d
   ·rw [if_pos (by simp [hc,e])];constructor
    ·intro _;omega
    ·intro _;exact .inr e.symm
   ·rw [if_neg (by simp [e])];constructor
    ·rintro (h | h)
     ·omega
     ·exact absurd h.symm e
    ·intro h;exact .inl (by omega)
  ·rw [List.length_append,h.len];unfold dN
   rw [zAA (zTy.2 ⟨hc,by
    rcases Nat.eq_zero_or_pos (tN L (la L i).id i) with h0 | h0
    ·exact h0
    ·exact absurd ((h.mem _).2 h0) hm⟩)]
   rfl
theorem Vis.made (w:World) (L:List Lt):Vis (w.alloc (.map #[] 0)) w.heap.size L 0 [] :=
 ⟨KMap.made w _ _,by simp,fun d=>by simp [tN,zAf],rfl⟩
theorem Vis.lt (h:Vis w b L i ids):b < w.heap.size:=h.map.lt
theorem Vis.alloc (h:Vis w b L i ids) (o:Obj):Vis (w.alloc o) b L i ids:=⟨h.map.alloc o,h.nodup,h.mem,h.len⟩
theorem Vis.drew (h:Vis w b L i ids):Vis w.drew b L i ids:=⟨h.map,h.nodup,h.mem,h.len⟩
theorem Vis.setCell (h:Vis w b L i ids) {p:Addr} (hp:b≠p.block) (u:Value):Vis (w.setCell p u) b L i ids:=⟨h.map.setCell hp u,h.nodup,h.mem,h.len⟩
theorem Vis.next (h:Vis w b L i ids) (hb:Below w.heap.size w w'):Vis w' b L i ids:=⟨h.map.below hb h.lt,h.nodup,h.mem,h.len⟩
theorem Vis.run_len (h:Vis w b L i ids) (ty:TypeId):(Builtin.len_ #[146] ty #[.map (Z b)]).run Tryz.prog w=.ok (D J ids.length) w:=by
 obtain ⟨es,clock,hb,he,_⟩:=h.map;have hl:es.size=ids.length:=by
  have:=congrArg List.length he;simpa using this
 simp [Builtin.len_,MapKept.run_getObj_map hb,hl,goInt]
theorem zIj {ops:Array Oper} {rest:List Oper} {o:Oper} {a:Act} {ZS:Exit→Act→World→Prop} (hg:o.guard=U) (m:Operand) (hop:o.op=Op.call { callee:=Callee.builtin Builtin.len,args:=#[m],argTypes:=#[146] })
  (hm:a.eval m=.map (Z b)) (h:Vis w b L i ids) (hK:wpList Tryz.prog ops ZS rest (a.put o.dst (D J ids.length)) w):wpList Tryz.prog ops ZS (o :: rest) a w:=by
 refine wpList_plain hg fun K' hK'=>?_
 unfold Oper.wp;simp [execOp,hop,resolve,invoke,builtin,hm,h.run_len,Result.andThen];exact hK' _ _ hK
end
end Go.Proofs.YtlmdfmnbcndhoaaGreatDoor
