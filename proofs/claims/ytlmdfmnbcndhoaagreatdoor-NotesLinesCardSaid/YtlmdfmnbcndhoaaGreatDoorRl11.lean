/-
  Lemmas, part 11. Conditions: each theorem's own.
-/
import Derived.Test.YtlmdfmnbcndhoaaGreatDoorRl10
import Derived.Test.YtlmdfmnbcndhoaaGreatDoorRl02
import Derived.Great.BuildSlice
import Derived.Laws.StructEq
import Derived.Laws.ResultCell
namespace Go.Proofs.YtlmdfmnbcndhoaaGreatDoor
structure Good (K:Int) (L:List Lt):Prop where
 pos:0 < L.length
 first:isP (la L 0)=true
 even:pN L L.length % 2=0
 gates:∀i,i < L.length→isP (la L i)=true→0≤(la L i).gate∧(la L i).gate≤K
 ranks:∀i,i < L.length→rkB L i=true
 cross:∀i,i < L.length→crB L i=true
 ceven:cN L L.length % 2=0
 kinds:∀i,i < L.length→isP (la L i)=true∨isC (la L i)=true
theorem zED {K:Int} {L:List Lt} (hp:0 < L.length) (h1:isP (la L 0)=true) (h2:pN L L.length % 2=0) (h3:zAC K L=true) (h4:zCi L=true) (h5:zBz L=true):Good K L:=by
 unfold zAC at h3;unfold zCi at h4;unfold zBz at h5;simp only [Bool.and_eq_true,decide_eq_true_eq,zAI] at h3 h4 h5;refine ⟨hp,h1,h2,fun i hi hp=>?_,h4,h5.2,h5.1,fun i hi=>?_⟩
 ·have:=h3 i hi;unfold lpB at this;unfold isP at hp;rw [if_pos (by simpa using hp)] at this;simp only [decide_eq_true_eq] at this;exact ⟨this.1,this.2.1⟩
 ·have:=h3 i hi;unfold lpB at this;unfold isP isC;by_cases e1:(la L i).kind=1
  ·left;simp [e1]
  ·by_cases e2:(la L i).kind=2
   ·right;simp [e2]
   ·rw [if_neg e1,if_neg e2] at this;cases this
theorem zEE {K:Int} {L:List Lt} (hp:0 < L.length) (h:zBa K L=true):Good K L:=by
 unfold zBa at h;rw [←zDa] at h;simp only [Bool.and_eq_true,decide_eq_true_eq] at h;exact zED hp h.1.1.1 h.1.1.2 h.1.2.1.1 h.1.2.1.2 h.1.2.2
section
variable {K:Int} {L:List Lt}
theorem zVE {i:Nat} (h:L.length≤i):la L i=dl:=by unfold la;rw [List.getElem?_eq_none h];rfl
theorem zKe {i:Nat} (h:isP (la L i)=true):i < L.length:=by
 rcases Nat.lt_or_ge i L.length with hl | hl
 ·exact hl
 ·rw [zVE hl] at h;cases h
theorem zEF {i:Nat} (h:isC (la L i)=true):i < L.length:=by
 rcases Nat.lt_or_ge i L.length with hl | hl
 ·exact hl
 ·rw [zVE hl] at h;cases h
theorem Good.nodup (g:Good K L):(axL L).Nodup:=zIK g.ranks
theorem Good.at_ (g:Good K L) {i:Nat} (hp:isP (la L i)=true):(axL L)[atN L i]? = some i:=zVC (fun i hi hp=>(g.gates i hi hp).1) g.ranks (zKe hp) hp
theorem Good.idx (g:Good K L) {i:Nat} (hp:isP (la L i)=true):zVt (axL L) i=atN L i:=zLo g.nodup (g.at_ hp)
theorem Good.at_lt (g:Good K L) {i:Nat} (hp:isP (la L i)=true):atN L i < (axL L).length:=(List.getElem?_eq_some_iff.1 (g.at_ hp)).1
theorem zGS {j:Nat} (hj:j < (axL L).length):isP (la L (xat (axL L) j))=true∧xat (axL L) j < L.length:=by
 have h:(axL L)[j]? = some (axL L)[j]:=List.getElem?_eq_getElem hj;have hm:=(zIJ L (axL L)[j] L.length).1 (List.getElem_mem hj);unfold xat;rw [h];exact ⟨hm.2,hm.1⟩
theorem Good.m_pos (g:Good K L):0 < (axL L).length:=by
 have:=g.at_lt g.first;omega
theorem Good.other (g:Good K L) {i:Nat} (hc:isC (la L i)=true) :
  zJD L i≠i∧isC (la L (zJD L i))=true∧(la L (zJD L i)).id=(la L i).id∧(la L (zJD L i)).over≠(la L i).over∧(la L (zJD L i)).sign=(la L i).sign∧(∀j,isC (la L j)=true→(la L j).id=(la L i).id→j≠i→j=zJD L i):=by
 have hi:=zEF hc;have hb:=(zBm.1 (g.cross i hi) hc).1;have ht:=zOS (d:=((la L i).id-1).toNat) g.ceven g.cross (by omega);rw [show ((((la L i).id-1).toNat+1:Nat):Int)=(la L i).id by omega] at ht;have hex:∃j,j < L.length∧j≠i∧isC (la L j)=true∧(la L j).id=(la L i).id:=by
  rcases Classical.em (∃j,j < L.length∧j≠i∧isC (la L j)=true∧(la L j).id=(la L i).id) with h | h
  ·exact h
  ·have:tN L (la L i).id L.length=1:=zHU hi (by simp [hc]) (fun m hm hp=>by
    simp at hp
    rcases Nat.decEq m i with e | e
    ·exact absurd ⟨m,hm,e,hp.1,hp.2⟩ h
    ·exact e)
   omega
 have hall:∀j k,isC (la L j)=true→(la L j).id=(la L i).id→j≠i→isC (la L k)=true→(la L k).id=(la L i).id→k≠i→j=k:=by
  intro j k hj hji hjn hk hki hkn;rcases Nat.decEq j k with e | e
  ·have a1:=(zDP g.cross (zEF hj) (zEF hk) hj hk (hji.trans hki.symm) e).1;have a2:=(zDP g.cross (zEF hj) hi hj hc hji hjn).1;have a3:=(zDP g.cross (zEF hk) hi hk hc hki hkn).1
   revert a1 a2 a3
   cases (la L j).over<;>cases (la L k).over<;>cases (la L i).over<;>simp
  ·exact e
 have hf:zJD L i≠i∧isC (la L (zJD L i))=true∧(la L (zJD L i)).id=(la L i).id:=by
  unfold zJD
  cases hq:(List.range L.length).find? (fun j=>j != i&&isC (la L j)&&(la L j).id==(la L i).id) with
  | none =>
   rw [List.find?_eq_none] at hq;obtain ⟨j,hj,h1,h2,h3⟩:=hex;exact absurd (by simp [h1,h2,h3]) (hq j (List.mem_range.2 hj))
  | some j =>
   have:=List.find?_some hq;simp at this;exact ⟨this.1.1,this.1.2,this.2⟩
 have ho:=zDP g.cross (zEF hf.2.1) hi hf.2.1 hc hf.2.2 hf.1;exact ⟨hf.1,hf.2.1,hf.2.2,ho.1,ho.2,fun j hj hji hjn=>hall j _ hj hji hjn hf.2.1 hf.2.2 hf.1⟩
theorem zKf {n i:Nat} {b:Bool} (hi:i < n):zCj n i b < 2*n:=by
 unfold zCj;split
 ·omega
 ·have:=Nat.mod_lt (i+n-1) (show 0 < n by omega);omega
theorem zIL {n d:Nat} (h:d < 2*n):zBK n d < n:=by
 unfold zBK;split
 ·exact Nat.mod_lt _ (by omega)
 ·omega
theorem zOU {d:Nat} (hd:2*L.length≤d) (hm:0 < (axL L).length) (hN:d < zCz L) :
  ∃v b,zBT L (axL L) d=zCj L.length v b∧isP (la L v)=true∧v < L.length∧((d % 2=0∧v=xat (axL L) (((d-2*L.length) / 2+1) % (axL L).length)∧b = !dwn L v)∨(d % 2=1∧v=xat (axL L) ((d-2*L.length) / 2)∧b=dwn L v)):=by
 unfold zBT;unfold zCz at hN;rw [if_pos hd];by_cases h0:d % 2=0
 ·rw [if_pos h0];have hj:=zGS (L:=L) (j:=((d-2*L.length) / 2+1) % (axL L).length) (Nat.mod_lt _ hm);exact ⟨_,_,rfl,hj.1,hj.2,.inl ⟨h0,rfl,rfl⟩⟩
 ·rw [if_neg h0];have hj:=zGS (L:=L) (j:=(d-2*L.length) / 2) (by omega);exact ⟨_,_,rfl,hj.1,hj.2,.inr ⟨by omega,rfl,rfl⟩⟩
theorem Good.left_cross (_g:Good K L) {d:Nat} (hd:d < 2*L.length) (hc:isC (la L (zBK L.length d))=true) :
  zBT L (axL L) d=zCj L.length (zJD L (zBK L.length d)) ((d % 2==0)==((la L (zBK L.length d)).over==((la L (zBK L.length d)).sign==1))):=by
 unfold zBT;rw [if_neg (by omega),if_pos hc]
theorem Good.left_pass (g:Good K L) {d:Nat} (hd:d < 2*L.length) (hp:isP (la L (zBK L.length d))=true) :
  zBT L (axL L) d=if dwn L (zBK L.length d)==(d % 2==0) then 2*L.length+2*atN L (zBK L.length d) else 2*L.length+2*((atN L (zBK L.length d)+(axL L).length-1) % (axL L).length)+1:=by
 unfold zBT;rw [if_neg (by omega),if_neg (by rw [zOw hp];simp),g.idx hp]
theorem Good.into (g:Good K L) {d:Nat} (hd:d < zCz L):zBT L (axL L) d < zCz L:=by
 rcases Nat.lt_or_ge d (2*L.length) with hl | hl
 ·rcases g.kinds _ (zIL hl) with hp | hc
  ·have ha:=g.at_lt hp;rw [g.left_pass hl hp];unfold zCz;split
   ·omega
   ·have:=Nat.mod_lt (atN L (zBK L.length d)+(axL L).length-1) g.m_pos;omega
  ·rw [g.left_cross hl hc];have:=zKf (b:=(d % 2==0)==((la L (zBK L.length d)).over==((la L (zBK L.length d)).sign==1))) (zEF (g.other hc).2.1);unfold zCz;omega
 ·obtain ⟨v,b,h1,_,h3,_⟩:=zOU hl g.m_pos hd;rw [h1];have:=zKf (b:=b) h3;unfold zCz;omega
end
end Go.Proofs.YtlmdfmnbcndhoaaGreatDoor
namespace Go.Proofs.YtlmdfmnbcndhoaaGreatDoor
structure Plc where
 gate:Int
 left:Int
instance : DecidableEq Plc := fun a b =>
 if h:a.gate=b.gate∧a.left=b.left then .isTrue (by cases a;cases b;simp at h;simp [h])
 else .isFalse (fun e=>h (by subst e;simp))
structure Fc where
 above:Bool
 darts:List Int
 places:List Plc
 fingers:List Int
 outer:Bool
instance : DecidableEq Fc := fun a b =>
 if h:a.above=b.above∧a.darts=b.darts∧a.places=b.places∧a.fingers=b.fingers∧a.outer=b.outer then .isTrue (by cases a;cases b;simp at h;simp [h])
 else .isFalse (fun e=>h (by subst e;simp))
section
variable {K:Int} {L:List Lt}
theorem zGs (L:List Lt) {a b:Nat} (h:a < b):fsN L a+gN L (a:Int) L.length≤fsN L b:=by
 obtain ⟨k,rfl⟩:∃k,b=a+1+k:=⟨b-a-1,by omega⟩
 unfold fsN
 induction k with
 | zero=>exact Nat.le_refl _
 | succ k ih=>exact Nat.le_trans (ih (by omega)) (Nat.le_add_right _ _)
theorem Good.rank (g:Good K L) {i:Nat} (hp:isP (la L i)=true):1≤(la L i).rank∧(la L i).rank≤(gN L (la L i).gate L.length:Int):=(zBM.1 (g.ranks i (zKe hp)) hp).1
end
end Go.Proofs.YtlmdfmnbcndhoaaGreatDoor
namespace Go.Proofs.YtlmdfmnbcndhoaaGreatDoor
open Go.RowKit
theorem zCc {α β:Type} (f:α→List β) (k:Nat) (hk:∀a,(f a).length=k):∀L:List α,(L.flatMap f).length=L.length*k
 | []=>by simp
 | a :: L=>by rw [List.flatMap_cons,List.length_append,hk,zCc f k hk L,List.length_cons,Nat.add_mul,Nat.one_mul,Nat.add_comm]
theorem zFy {α β:Type} (f:α→List β) (k:Nat) (hk:∀a,(f a).length=k):∀(L:List α) (j i:Nat) (x:α),L[j]? = some x→i < k→(L.flatMap f)[j*k+i]? = (f x)[i]?
 | [],j,_,_,h,_=>by simp at h
 | a :: L,0,i,x,h,hi=>by
  simp only [List.getElem?_cons_zero,Option.some.injEq] at h;subst h;rw [List.flatMap_cons,Nat.zero_mul,Nat.zero_add,List.getElem?_append_left (by rw [hk];exact hi)]
 | a :: L,j+1,i,x,h,hi=>by
  rw [List.getElem?_cons_succ] at h;rw [List.flatMap_cons,List.getElem?_append_right (by rw [hk,Nat.add_mul,Nat.one_mul];omega),hk,show (j+1)*k+i-k=j*k+i by rw [Nat.add_mul,Nat.one_mul];omega];exact zFy f k hk L j i x h hi
theorem zMu {α β:Type} (f:α→List β) (k:Nat) (hk:∀a,(f a).length=k):∀(L:List α) (j i:Nat) (x x':α) (u:β),L[j]? = some x→i < k→f x'=(f x).set i u→(L.flatMap f).set (j*k+i) u=(L.set j x').flatMap f
 | [],j,_,_,_,_,h,_,_=>by simp at h
 | a :: L,0,i,x,x',u,h,hi,he=>by
  simp only [List.getElem?_cons_zero,Option.some.injEq] at h;subst h;rw [List.flatMap_cons,Nat.zero_mul,Nat.zero_add,List.set_append_left _ _ (by rw [hk];exact hi),List.set_cons_zero,List.flatMap_cons,he]
 | a :: L,j+1,i,x,x',u,h,hi,he=>by
  rw [List.getElem?_cons_succ] at h;rw [List.flatMap_cons,List.set_append_right _ _ (by rw [hk,Nat.add_mul,Nat.one_mul];omega),hk,show (j+1)*k+i-k=j*k+i by rw [Nat.add_mul,Nat.one_mul];omega,zMu f k hk L j i x x' u h hi he,List.set_cons_succ,List.flatMap_cons]
theorem zIM {α β:Type} (f:α→List β) (k:Nat) (hk:∀a,(f a).length=k) {L:List α} {j i:Nat} {x x':α} {u:β} (h:L[j]? = some x) (hi:i < k) (he:f x'=(f x).set i u) {q:Nat} (hq:q=j*k+i):(L.flatMap f).set q u=(L.set j x').flatMap f:=by
 subst hq;exact zMu f k hk L j i x x' u h hi he
theorem Row.put {w:World} {base size:Nat} {g off n c:Nat} {xs:List Value} (h:Row w base size (some ⟨g,off,none⟩) n c xs) {q:Nat} (hq:q < n*size) (u:Value):Row (w.setCell ⟨g,off+q,none⟩ u) base size (some ⟨g,off,none⟩) n c (xs.set q u):=by
 obtain ⟨h1,h2,h3,h4,h5⟩:=h.at_ _ rfl;simp only [] at h4 h5;refine ⟨by simpa using h.len,h.cap,h.nil,fun ad ha=>?_⟩;injection ha with ha
 subst ha;refine ⟨rfl,h2,by simpa [World.setCell] using h3,fun j v hv=>?_,fun j hj=>?_⟩
 ·by_cases e:q=j
  ·subst e;rw [List.getElem?_set_self (by rw [h.len];exact hq)] at hv;injection hv with hv
   subst hv;have hc:=(h5 q (by have:=h.cap;exact Nat.lt_of_lt_of_le hq (Nat.mul_le_mul_right _ this))).1;obtain ⟨v0,Bz⟩:=Option.isSome_iff_exists.1 hc;exact World.cell?_setCell_same _ _ _ Bz
  ·rw [List.getElem?_set_ne e] at hv;rw [World.cell?_setCell_other _ _ _ _ (by intro he;injection he with _ he;simp at he;omega)];exact h4 j v hv
 ·obtain ⟨k1,k2⟩:=h5 j hj;refine ⟨?_,?_⟩
  ·by_cases e:q=j
   ·subst e;obtain ⟨v0,Bz⟩:=Option.isSome_iff_exists.1 k1;rw [World.cell?_setCell_same _ _ _ Bz];rfl
   ·rw [World.cell?_setCell_other _ _ _ _ (by intro he;injection he with _ he;simp at he;omega)];exact k1
  ·rw [World.frozen?_setCell];exact k2
def ltC (l:Lt):List Value:=[.int .i64 l.kind,.int .i64 l.gate,.int .i64 l.rank,.int .i64 l.id,.int .i64 l.sign,.bool l.over]
theorem zDt (l:Lt):(ltC l).length=6:=rfl
structure OwnL (w:World) (base:Nat) (A:Option Addr) (n c:Nat) (L:List Lt):Prop where
 row:Row w base 6 A n c (L.flatMap ltC)
 fits:∀x∈L,LtOk x
 le:n≤2932031007402
section
variable {w w':World} {base:Nat} {A:Option Addr} {n c:Nat} {L:List Lt}
theorem OwnL.len (h:OwnL w base A n c L):L.length=n:=by
 have:=h.row.len;rw [zCc ltC 6 zDt] at this;omega
theorem OwnL.lets (h:OwnL w base A n c L):Lets w A n L:=by
 refine ⟨h.len,h.le,h.fits,fun hn=>?_⟩;obtain ⟨g,off,rfl,_,hlt⟩:=h.row.form hn;refine ⟨g,off,rfl,hlt,fun j x hx=>?_⟩;have key:∀i u,i < 6→(ltC x)[i]? = some u→w.cell? ⟨g,off+(j*6+i),none⟩=some u:=fun i u hi hu=>h.row.cell (by rw [zFy ltC 6 zDt L j i x hx hi];exact hu)
 exact ⟨key 0 _ (by omega) rfl,key 1 _ (by omega) rfl,key 2 _ (by omega) rfl,key 3 _ (by omega) rfl,key 4 _ (by omega) rfl,key 5 _ (by omega) rfl⟩
theorem OwnL.next (h:OwnL w base A n c L) (hb:Below w.heap.size w w'):OwnL w' base A n c L:=⟨h.row.below hb,h.fits,h.le⟩
theorem OwnL.alloc (h:OwnL w base A n c L) (o:Obj):OwnL (w.alloc o) base A n c L:=⟨h.row.alloc o,h.fits,h.le⟩
theorem OwnL.nil (w:World) (base:Nat):OwnL w base none 0 0 []:=⟨Row.none_ _ _ _,by simp,by omega⟩
theorem OwnL.put {g off:Nat} (h:OwnL w base (some ⟨g,off,none⟩) n c L) {j i q:Nat} {x x':Lt} {u:Value} (hx:L[j]? = some x) (hi:i < 6) (he:ltC x'=(ltC x).set i u) (hok:LtOk x') (hq:q=j*6+i) :
  OwnL (w.setCell ⟨g,off+q,none⟩ u) base (some ⟨g,off,none⟩) n c (L.set j x'):=by
 have hj:j < n:=by rw [←h.len];exact (List.getElem?_eq_some_iff.1 hx).1
 refine ⟨?_,fun y hy=>?_,h.le⟩
 ·rw [←zIM ltC 6 zDt hx hi he hq];exact h.row.put (by omega) u
 ·rcases List.mem_or_eq_of_mem_set hy with hy | rfl
  ·exact h.fits y hy
  ·exact hok
end
theorem OwnL.block {w:World} {base g:Nat} {L:List Lt} (h:Blk w g 76 (L.flatMap ltC).toArray) (hb:base≤g) (hf:∀x∈L,LtOk x) (hle:L.length≤2932031007402):OwnL w base (some ⟨g,0,none⟩) L.length L.length L:=by
 refine ⟨⟨zCc ltC 6 zDt L,Nat.le_refl _,fun e=>(by cases e),fun ad ha=>?_⟩,hf,hle⟩;injection ha with ha
 subst ha;have hc:∀j,w.cell? ⟨g,0+j,none⟩=(L.flatMap ltC)[j]?:=fun j=>by rw [Nat.zero_add,h.cell,List.getElem?_toArray]
 refine ⟨rfl,hb,h.lt,fun j u hu=>by rw [hc,hu],fun j hj=>⟨?_,?_⟩⟩
 ·rw [hc,List.getElem?_eq_getElem (by rw [zCc ltC 6 zDt];exact hj)];rfl
 ·exact h.frozen _
section
variable {w w':World} {base:Nat} {A:Option Addr} {n c:Nat} {Q:List Plc}
end
theorem zAu {P:Program} {fn:Func} {p:Tmp} {ty:TypeId} {R:Ending→World→Prop} {a:Act} {w:World} {g:Nat} {t:TypeId} {cs:Array Value} {fr:Nat×Nat} {d:TypeDesc} (h:fn.results=#[.cell p ty])
  (hp:a.tmps.getD p undef=.pointer (some ⟨g,0,none⟩)) (hg:w.heap[g]? = some (.cells cs t fr)) (hu:P.underlying ty=some d) (hd:(match d with | .struct _ | .array _ _=>true | _=>false)=true) (hi:(P.info? ty).map (·.size)=some cs.size)
  (hdf:a.defers=[]) (hR:R (.returned (.agg cs)) w):bodyPost P fn R .ret a w:=bodyPost_ret (results_cell_row h a.tmps w g t cs fr d hp hg hu hd hi) hdf hR
theorem zAD {P:Program} {fn:Func} {p u:Tmp} {ty:TypeId} {R:Ending→World→Prop} {a:Act} {w:World} {g:Nat} {t:TypeId} {cs:Array Value} {fr:Nat×Nat} {d:TypeDesc} {v:Value} (h:fn.results=#[.cell p ty,.tmp u])
  (hp:a.tmps.getD p undef=.pointer (some ⟨g,0,none⟩)) (hv:a.tmps.getD u undef=v) (hg:w.heap[g]? = some (.cells cs t fr)) (hu:P.underlying ty=some d) (hd:(match d with | .struct _ | .array _ _=>true | _=>false)=true) (hi:(P.info? ty).map (·.size)=some cs.size)
  (hdf:a.defers=[]) (hR:R (.returned (.tuple #[.agg cs,v])) w):bodyPost P fn R .ret a w:=by
 refine bodyPost_ret ?_ hdf hR;rw [results_cell_tmp h,hp,hv];simp [asAddr,run_loadVar_row w g t ty cs fr d hg hu hd hi,Result.andThen]
theorem zTR (K:Int) (w:World):(Instr.build 55 #[(0,.int .i64 K)]).run Tryz.prog w=.ok (.agg #[.int .i64 K,.slice none 0 0]) w:=run_build w _ _ _ (by kernel_rfl)
theorem zTS (K:Int) (A:Option Addr) (n c:Nat) (w:World):(Instr.build 55 #[(0,.int .i64 K),(1,.slice A n c)]).run Tryz.prog w=.ok (.agg #[.int .i64 K,.slice A n c]) w:=run_build w _ _ _ (by kernel_rfl)
theorem zVF (K:Int) (A:Option Addr) (n c:Nat) (w:World):(Instr.build 148 #[(0,.agg #[.int .i64 K,.slice A n c])]).run Tryz.prog w=.ok (.agg #[.int .i64 K,.slice A n c,.slice none 0 0,.slice none 0 0,.slice none 0 0,.map none,.slice none 0 0]) w:=run_build w _ _ _ (by kernel_rfl)
theorem zMv:(Tryz.prog.info? 76).map (fun i=>(i.zero,i.size,i.bytes))=some (some (.agg #[.int .i64 0,.int .i64 0,.int .i64 0,.int .i64 0,.int .i64 0,.bool false]),6,48):=by kernel_rfl
theorem zOV (a b:Lt) (w:World):(Instr.buildSlice 53 2 #[(0,ltV a),(1,ltV b)]).run Tryz.prog w=.ok (.slice (some ⟨w.heap.size,0,none⟩) 2 2) (w.alloc (.cells ([a,b].flatMap ltC).toArray 76)):=by
 obtain ⟨i0,hi,ci,be,cH⟩:=info_parts zMv;refine run_buildSlice w _ _ 2 _ _ i0 _ Tryz.underlying53 hi ci (by rw [be];omega) (by rw [be];omega) ?_;rw [be]
 kernel_rfl
end Go.Proofs.YtlmdfmnbcndhoaaGreatDoor
namespace Go.Proofs.YtlmdfmnbcndhoaaGreatDoor
open Go.RowKit
theorem zCg {x:Int} (h0:0≤x) (h1:x < 10):Lib.itoa x=[UInt8.ofNat (48+x.toNat)]:=by
 obtain ⟨k,rfl⟩:=Int.eq_ofNat_of_zero_le h0;unfold Lib.itoa;rw [if_neg (by omega)];simp only [Int.toNat_natCast];exact zFv (by omega)
theorem zIN {a b:Nat} (ha:a < 256) (hb:b < 256) (h:UInt8.ofNat a=UInt8.ofNat b):a=b:=by
 have:=congrArg UInt8.toNat h;simp only [UInt8.toNat_ofNat'] at this;omega
theorem zOW {x y:Fg} (hx:zAl x=true) (hy:zAl y=true) (h:zAi x=zAi y):x=y:=by
 obtain ⟨a1,a2,a3,a4⟩:=zAt.1 hx;obtain ⟨b1,b2,b3,b4⟩:=zAt.1 hy;obtain ⟨p,r,d⟩:=x;obtain ⟨p',r',d'⟩:=y;simp only at a1 a2 a3 a4 b1 b2 b3 b4;unfold zAi at h;simp only at h;rw [zCg a3 (by omega),zCg b3 (by omega),zCg (x:=p) (by omega) (by omega),zCg (x:=p') (by omega) (by omega)] at h;have hd:∀a b:Int,0≤a→a≤9→0≤b→b≤9→UInt8.ofNat (48+a.toNat)=UInt8.ofNat (48+b.toNat)→a=b:=fun a b h1 h2 h3 h4 e=>by
  have:=zIN (by omega) (by omega) e;omega
 by_cases e1:p=1
 ·by_cases e2:p'=1
  ·rw [if_pos e1,if_pos e2] at h;simp only [List.nil_append,List.cons.injEq,and_true] at h;obtain ⟨h1,h2⟩:=h;have hr:r=r':=by cases r<;>cases r'<;>first | rfl | (exfalso;simp at h1)
   rw [e1,e2,hr,hd d d' a3 (by omega) b3 (by omega) h2]
  ·rw [if_pos e1,if_neg e2] at h;have:=congrArg List.length h;simp at this
 ·by_cases e2:p'=1
  ·rw [if_neg e1,if_pos e2] at h;have:=congrArg List.length h;simp at this
  ·rw [if_neg e1,if_neg e2] at h;simp only [List.cons_append,List.nil_append,List.cons.injEq,and_true] at h;obtain ⟨h0,h1,h2⟩:=h;have hr:r=r':=by cases r<;>cases r'<;>first | rfl | (exfalso;simp at h1)
   rw [hd p p' (by omega) (by omega) (by omega) (by omega) h0,hr,hd d d' a3 (by omega) b3 (by omega) h2]
open Classical in
noncomputable def zGb (S:List UInt8):Option Fg:=if h:∃f,zAl f=true∧zAi f=S then some h.choose else none
theorem zCm {S:List UInt8} {f:Fg} (h1:zAl f=true) (h2:zAi f=S):zGb S=some f:=by
 have h:∃f,zAl f=true∧zAi f=S:=⟨f,h1,h2⟩
 unfold zGb;rw [dif_pos h]
 congr 1
 exact zOW h.choose_spec.1 h1 (h.choose_spec.2.trans h2.symm)
theorem zKg {S:List UInt8} (h:∀f,zAl f=true→zAi f≠S):zGb S=none:=by
 unfold zGb;rw [dif_neg (fun ⟨f,h1,h2⟩=>h f h1 h2)]
theorem zLq {S:List UInt8} {f:Fg} (h:zGb S=some f):zAl f=true∧zAi f=S:=by
 unfold zGb at h;split at h
 ·rename_i hh;injection h with h
  subst h;exact hh.choose_spec
 ·cases h
end Go.Proofs.YtlmdfmnbcndhoaaGreatDoor
namespace Go.Proofs.YtlmdfmnbcndhoaaGreatDoor
open Go.RowKit
theorem Blk.store3 {w:World} {g:Nat} {t:TypeId} {v0 v1 v2:Value} (h:Blk w g t #[v0,v1,v2]) (u0 u1 u2:Value) :
  Blk (((w.setCell ⟨g,0,none⟩ u0).setCell ⟨g,1,none⟩ u1).setCell ⟨g,2,none⟩ u2) g t #[u0,u1,u2]:=((h.set_ 0 _).set_ 1 _).set_ 2 _
theorem zBW {a w:World} {g B:Nat} (h:Below B a w) (hB:B≤g) (u0 u1 u2:Value) :
  Below B a (((w.setCell ⟨g,0,none⟩ u0).setCell ⟨g,1,none⟩ u1).setCell ⟨g,2,none⟩ u2) :=
 ((h.setCell (p:=⟨g,0,none⟩) hB _).setCell (p:=⟨g,1,none⟩) hB _).setCell (p:=⟨g,2,none⟩) hB _
theorem zTT {x:Fg} {S:List UInt8} (h:zAi x=S) (hx:zAl x=true) (w:World):Calls Tryz.prog 154 #[fgV x] w fun e w'=>e=.returned (.string (bA S))∧Below w.heap.size w w':=by
 subst h;exact zJS x hx w
theorem zWM (p:Int) (r:Bool) (d:Int) (w:World):(Instr.build 90 #[(0,.int .i64 p),(1,.bool r),(2,.int .i64 d)]).run Tryz.prog w=.ok (fgV ⟨p,r,d⟩) w:=run_build w _ _ _ (by kernel_rfl)
theorem zOX (w:World):(Instr.build 90 #[]).run Tryz.prog w=.ok (.agg #[.int .i64 0,.bool false,.int .i64 0]) w:=run_build w _ _ _ (by kernel_rfl)
def parV (o:Option Fg):Value:=match o with | some f=>.tuple #[fgV f,.int .i64 0] | none=>.tuple #[fgV df,.int .i64 6]
set_option maxHeartbeats 6400000 in
set_option maxRecDepth 100000 in
theorem zEd (S:List UInt8) (w:World) :
  Calls Tryz.prog 166 #[.string (bA S)] w fun e w'=>e=.returned (parV (zGb S))∧Below w.heap.size w w':=by
 have ah:Below w.heap.size w (w.alloc (.cells #[.int .i64 0,.bool false,.int .i64 0] 90)):=(Below.refl _ _).alloc (Nat.le_refl _) _;have hk0:Blk (w.alloc (.cells #[.int .i64 0,.bool false,.int .i64 0] 90)) w.heap.size 90 #[.int .i64 0,.bool false,.int .i64 0]:=Blk.new _ _ _;go_enter Tryz.func166,Tryz.ntmps166;go_wp2_with fail
 generalize w.alloc (.cells #[.int .i64 0,.bool false,.int .i64 0] 90)=W at ah hk0 ⊢;go_loopw [4] (fun v wr=>∃p:Nat,1≤p∧p≤10∧v=.int .i64 p∧Below W.heap.size W wr∧Hid (∀f,zAl f=true→f.p < (p:Int)→zAi f≠S)) (fun v _=>10-(intOf v).toNat)
 case atStart=>exact ⟨1,by omega,by omega,rfl,Below.refl _ _,qH (fun f hf h=>by have:=zAt.1 hf;omega)⟩
 case round =>
  obtain ⟨p,pu,hp,rfl,hbr,HP⟩:=hrel;by_cases hlt:p < 10
  ·have i1:(p:Int)≤9:=by omega
   go_wp2_with fail
   go_loopw [5] (fun v w1=>∃d:Nat,d≤7∧v=.int .i64 d∧Below W.heap.size W w1∧Hid (∀f,zAl f=true→(f.p < (p:Int)∨f.p=(p:Int)∧f.d < (d:Int))→zAi f≠S)) (fun v _=>7-(intOf v).toNat)
   case atStart=>exact ⟨0,by omega,rfl,hbr,qH (fun f hf h=>by rcases h with h | h;exact HP.out f hf h;have:=zAt.1 hf;omega)⟩
   case round =>
    clear hbr;obtain ⟨d,hd,rfl,hbr,HD⟩:=hrel;by_cases hdl:d < 7
    ·have i2:(d:Int)≤6:=by omega
     go_wp2_with fail
     have ai:Below W.heap.size W (wr.alloc (.cells #[.bool false,.bool true] 4)):=hbr.alloc hbr.size _;have hbb:Blk (wr.alloc (.cells #[.bool false,.bool true] 4)) wr.heap.size 4 #[.bool false,.bool true]:=Blk.new _ _ _;generalize wr.alloc (.cells #[.bool false,.bool true] 4)=X at ai hbb ⊢;generalize wr.heap.size=gb at hbb ⊢;go_loopw [19] (fun v w3=>∃k:Nat,k≤2∧v=.int .i64 k∧Below X.heap.size X w3∧Hid (∀f,zAl f=true→(f.p < (p:Int)∨f.p=(p:Int)∧(f.d < (d:Int)∨f.d=(d:Int)∧(f.r=false∧1≤k∨f.r=true∧2≤k)))→zAi f≠S)) (fun v _=>2-(intOf v).toNat)
     case atStart=>exact ⟨0,by omega,rfl,Below.refl _ _,qH (fun f hf h=>HD.out f hf (by rcases h with h | ⟨h,h2 | ⟨_,h3⟩⟩;exact .inl h;exact .inr ⟨h,h2⟩;omega))⟩
     case round =>
      clear hbr;obtain ⟨k,hk,rfl,hbr,HK⟩:=hrel;have hbbr:=hbb.below hbr hbb.lt;have al:=zAa ai hbr ai.size;by_cases hkl:k < 2
      ·obtain ⟨r,hr⟩:∃r:Bool,(k=0∧r=false∨k=1∧r=true):=by
        rcases (show k=0∨k=1 by omega) with h | h
        ·exact ⟨false,.inl ⟨h,rfl⟩⟩
        ·exact ⟨true,.inr ⟨h,rfl⟩⟩
       have hcell:wr.cell? ⟨gb,k,none⟩=some (.bool r):=by
        rcases hr with ⟨rfl,rfl⟩ | ⟨rfl,rfl⟩
        ·exact (hbbr.cell 0).trans rfl
        ·exact (hbbr.cell 1).trans rfl
       have hth:zAl ⟨(p:Int),r,(d:Int)⟩=true:=zAt.2 ⟨by simp only;omega,by simp only;omega,by simp only;omega,by simp only;omega⟩;have j0:(0:Int)≤(k:Int):=by omega
       have j1:(k:Int) < 2:=by omega
       have HR:=qH hr;have vZ:=qH hth;obtain ⟨NX,Cu⟩:∃T,zAi ⟨(p:Int),r,(d:Int)⟩=T:=⟨_,rfl⟩
       have HN:=qH (fun w=>zTT Cu hth w);have iB:=qH Cu;have aw:Below W.heap.size W (wr.alloc (.cells #[.int .i64 (p:Int),.bool r,.int .i64 (d:Int)] 90)):=al.alloc al.size _;have uA:Below X.heap.size X (wr.alloc (.cells #[.int .i64 (p:Int),.bool r,.int .i64 (d:Int)] 90)):=hbr.alloc hbr.size _;have fO:Blk (wr.alloc (.cells #[.int .i64 (p:Int),.bool r,.int .i64 (d:Int)] 90)) wr.heap.size 90 #[.int .i64 (p:Int),.bool r,.int .i64 (d:Int)]:=Blk.new _ _ _;clear hr hth Cu;by_cases hq:NX=S
       ·have hres:=qH (show zGb S=some ⟨(p:Int),r,(d:Int)⟩ from zCm vZ.out (iB.out.trans hq));have n0:((bA NX).toList==(bA S).toList)=true:=by rw [zBC];simpa using hq
        clear hq;go_wp2_with fail
        refine (HN.out _).mono ?_;rintro e w6 ⟨rfl,aH⟩;have mw:=fO.below aH fO.lt;have cI:=zAa aw aH aw.size;have cR:=hk0.below cI hk0.lt;obtain ⟨c0,c1,c2⟩:=cQ3 mw;obtain ⟨d0,d1,d2⟩:=cQ3 cR;have z0:=cR.frozen 0;have z1:=cR.frozen 1;have z2:=cR.frozen 2;have hS:=cR.store3 (.int .i64 (p:Int)) (.bool r) (.int .i64 (d:Int));have gA:=zBW (zAa ah cI ah.size) (Nat.le_refl w.heap.size) (.int .i64 (p:Int)) (.bool r) (.int .i64 (d:Int));clear mw cR hcell aH uA fO hbb hbbr;go_wp2_with fail
        (try simp only [Exit.inBlock,Exit.then])
        exact zAD rfl rfl rfl hS Tryz.underlying90 rfl (by kernel_rfl) rfl ⟨by rw [hres.out];rfl,gA⟩
       ·have tl:=qH (show ∀f,zAl f=true→(f.p < (p:Int)∨f.p=(p:Int)∧(f.d < (d:Int)∨f.d=(d:Int)∧(f.r=false∧1≤k+1∨f.r=true∧2≤k+1)))→zAi f≠S from fun f hf h=>by
         by_cases h5:f.p < (p:Int)∨f.p=(p:Int)∧(f.d < (d:Int)∨f.d=(d:Int)∧(f.r=false∧1≤k∨f.r=true∧2≤k))
         ·exact HK.out f hf h5
         ·have hfe:f=⟨(p:Int),r,(d:Int)⟩:=by
           obtain ⟨fp,frr,fd⟩:=f
           simp only at h h5
           rcases h with h | ⟨h1,h | ⟨h2,h3⟩⟩
           ·exact absurd (.inl h) h5
           ·exact absurd (.inr ⟨h1,.inl h⟩) h5
           ·rcases HR.out with ⟨k0,r0⟩ | ⟨k0,r0⟩
            ·rcases h3 with ⟨h3,_⟩ | ⟨_,h4⟩
             ·rw [h1,h2,h3,r0]
             ·omega
            ·rcases h3 with ⟨h3,h4⟩ | ⟨h3,h4⟩
             ·exact absurd (.inr ⟨h1,.inr ⟨h2,.inl ⟨h3,by omega⟩⟩⟩) h5
             ·rw [h1,h2,h3,r0]
          rw [hfe,iB.out];exact hq)
        have n0:((bA NX).toList==(bA S).toList)=false:=by rw [zBC];simpa using hq
        clear hq HK;go_wp2_with fail
        refine (HN.out _).mono ?_;rintro e w6 ⟨rfl,aH⟩;have cI:=zAa uA aH uA.size;clear hcell fO hbbr aw;go_wp2_with fail
        go_roundw
        case rel=>exact ⟨k+1,by omega,by go_num,cI,tl⟩
        case measure=>simp [intOf];omega
      ·have j1:¬(k:Int) < 2:=by omega
       have DJ:=qH (show ∀f,zAl f=true→(f.p < (p:Int)∨f.p=(p:Int)∧f.d < ((d+1:Nat):Int))→zAi f≠S from fun f hf h=>HK.out f hf (by
        rcases h with h | ⟨h1,h2⟩
        ·exact .inl h
        ·refine .inr ⟨h1,?_⟩
         by_cases h3:f.d < (d:Int)
         ·exact .inl h3
         ·refine .inr ⟨by omega,?_⟩
          cases e:f.r with
          | false=>exact .inl ⟨rfl,by omega⟩
          | true=>exact .inr ⟨rfl,by omega⟩))
       clear HK HD hbb hbbr;go_wp2_with fail
       go_roundw
       case rel=>exact ⟨d+1,by omega,by go_num,al,DJ⟩
       case measure=>simp [intOf];omega
    ·have i2:¬(d:Int)≤6:=by omega
     have Du:=qH (show ∀f,zAl f=true→f.p < ((p+1:Nat):Int)→zAi f≠S from fun f hf h=>HD.out f hf (by
      have:=zAt.1 hf
      by_cases h1:f.p < (p:Int)
      ·exact .inl h1
      ·exact .inr ⟨by omega,by omega⟩))
     clear HD HP;go_wp2_with fail
     go_roundw
     case rel=>exact ⟨p+1,by omega,by omega,by go_num,hbr,Du⟩
     case measure=>simp [intOf];omega
  ·have i1:¬(p:Int)≤9:=by omega
   have hres:=qH (show zGb S=none from zKg fun f hf=>HP.out f hf (by have:=zAt.1 hf;omega));have cR:=hk0.below hbr hk0.lt;obtain ⟨d0,d1,d2⟩:=cQ3 cR;have z0:=cR.frozen 0;have z1:=cR.frozen 1;have z2:=cR.frozen 2;have hS:=cR.store3 (.int .i64 0) (.bool false) (.int .i64 0);have gA:=zBW (zAa ah hbr ah.size) (Nat.le_refl w.heap.size) (.int .i64 0) (.bool false) (.int .i64 0);clear HP cR;go_wp2_with fail
   (try simp only [Exit.inBlock,Exit.then])
   exact zAD rfl rfl rfl hS Tryz.underlying90 rfl (by kernel_rfl) rfl ⟨by rw [hres.out];rfl,gA⟩
end Go.Proofs.YtlmdfmnbcndhoaaGreatDoor
namespace Go.Proofs.YtlmdfmnbcndhoaaGreatDoor
open Go.RowKit
def Txts (w:World) (A:Option Addr) (n:Nat) (T:List (List UInt8)):Prop:=Els 1 (fun S=>[zDo S]) w A n T
def xa (T:List (List UInt8)) (i:Nat):List UInt8:=(T[i]?).getD []
abbrev rdC (A:Option Addr) (n c:Nat) (re lo:Int) (B:Option Addr) (m d:Nat) (bad lost:Bool):Array Value:=#[.slice A n c,.int .i64 re,.int .i64 lo,.slice B m d,.bool bad,.bool lost]
structure Rd (w:World) (rb:Nat) (A:Option Addr) (n c:Nat) (re lo:Int) (T:List (List UInt8)) (bad lost:Bool):Prop where
 ex:∃B m d,Blk w rb 123 (rdC A n c re lo B m d bad lost)∧Txts w B m T∧m≤d∧∀k,blk B=some k→k < rb
theorem Txts.from1 {w:World} {g o n:Nat} {x:List UInt8} {T:List (List UInt8)} (h:Txts w (some ⟨g,o,none⟩) (n+1) (x :: T)):Txts w (some ⟨g,o+1,none⟩) n T:=by
 refine ⟨by have:=h.len;simpa using this,by have:=h.le;omega,fun h0=>?_⟩;obtain ⟨g',o',e,hb,hc⟩:=h.2.2 (by omega);injection e with e
 injection e with e1 e2
 subst e1;subst e2
 exact ⟨g,o+1,rfl,hb,fun j y hy q v hv=>by
  have:=hc (j+1) y (by simpa using hy) q v hv
  rwa [show o+(j+1)*1+q=o+1+j*1+q by omega] at this⟩
theorem Txts.keepBlk {w w':World} {g o n:Nat} {T:List (List UInt8)} {rb:Nat} (h:Txts w (some ⟨g,o,none⟩) n T) (hg:w.grownBy w' (some rb)) (hne:g≠rb):Txts w' (some ⟨g,o,none⟩) n T:=by
 refine ⟨h.len,h.le,fun h0=>?_⟩;obtain ⟨g',o',e,hb,hc⟩:=h.2.2 h0;injection e with e
 injection e with e1 e2
 subst e1;subst e2
 refine ⟨g,o,rfl,Nat.lt_of_lt_of_le hb hg.size,fun j x hx q v hv=>?_⟩;rw [World.cell?_of_block (w:=w) (w':=w') (hg.block g hb (fun e=>hne (by injection e)))];exact hc j x hx q v hv
set_option maxHeartbeats 1600000 in
theorem zGT (rb:Nat) (A:Option Addr) (n c:Nat) (re lo:Int) (T:List (List UInt8)) (bad lost:Bool) (w:World) (h:Rd w rb A n c re lo T bad lost) :
  Calls Tryz.prog 146 #[.pointer (some ⟨rb,0,none⟩)] w fun e w'=>e=.returned (.string (bA (xa T 0)))∧Rd w' rb A n c re lo T.tail (bad||T.isEmpty) lost∧w.grownBy w' (some rb):=by
 obtain ⟨B,m,d,hk,hT,hmd,hne⟩:=h.ex;have hle:=hT.le;have c0:w.cell? ⟨rb,3,none⟩=some (.slice B m d):=(hk.cell 3).trans rfl;have z3:=hk.frozen 3;have z4:=hk.frozen 4
 cases T with
 | nil =>
  obtain rfl:0=m:=hT.len;have h4:w.cell? ⟨rb,4,none⟩=some (.bool bad):=(hk.cell 4).trans rfl;have hS:=hk.set_ 4 (.bool true);have hg:w.grownBy (w.setCell ⟨rb,4,none⟩ (.bool true)) (some rb):=⟨rfl,rfl,rfl,by simp [World.setCell],fun k _ hne=>Below.heap_setCell _ _ _ _ (fun e=>hne (by rw [e]))⟩;have HS:=qH hS;have HG:=qH hg;clear hS hg;go_enter Tryz.func146,Tryz.ntmps146;go_wp2_with fail
  go_ret;refine ⟨rfl,⟨B,0,d,?_,Els.nil _ _,by omega,hne⟩,HG.out⟩;have:=HS.out;simpa using this
 | cons x T =>
  have hlen:T.length+1=m:=hT.len;obtain ⟨g,o,CL,hgl,hcl⟩:=hT.2.2 (by omega);subst CL;have hx:w.cell? ⟨g,o,none⟩=some (.string (bA x)):=hcl 0 x rfl 0 _ rfl;obtain ⟨k,aq⟩:∃k,k=T.length:=⟨_,rfl⟩
  obtain rfl:m=k+1:=by omega
  have gn:=Txts.from1 hT;have hgrow:∀u,w.grownBy (w.setCell ⟨rb,3,none⟩ u) (some rb):=fun u=>⟨rfl,rfl,rfl,by simp [World.setCell],fun k _ hne=>Below.heap_setCell _ _ _ _ (fun e=>hne (by rw [e]))⟩
  have HG:=qH hgrow;have hgr:g < rb:=hne g rfl;have uH:∀u,Txts (w.setCell ⟨rb,3,none⟩ u) (some ⟨g,o+1,none⟩) k T:=fun u=>gn.keepBlk (hgrow u) (Nat.ne_of_lt hgr)
  have pH:=qH uH;have HS:=qH (fun u=>hk.set_ 3 u);by_cases hd1:d=1
  ·subst hd1;obtain rfl:k=0:=by omega
   obtain rfl:T=[]:=List.length_eq_zero_iff.1 aq.symm;clear aq hlen hcl hgrow uH hT gn;go_enter Tryz.func146,Tryz.ntmps146;go_wp2_with fail
   go_ret;exact ⟨rfl,⟨_,_,_,by simpa using HS.out _,Els.nil _ _,Nat.le_refl _,fun k hk=>by cases hk;exact hgr⟩,HG.out _⟩
  ·have sH:1 < d:=by omega
   clear aq hlen hcl hgrow uH hT gn;go_enter Tryz.func146,Tryz.ntmps146;go_wp2_with fail
   go_ret;exact ⟨rfl,⟨_,_,_,by simpa using HS.out _,pH.out _,by omega,fun k hk=>by cases hk;exact hgr⟩,HG.out _⟩
theorem zBj (w:World) (row:Option Nat):w.grownBy w row:=⟨rfl,rfl,rfl,Nat.le_refl _,fun _ _ _=>rfl⟩
def isB (T:List (List UInt8)) (S:List UInt8):Bool:=decide (T.head? = some S)
def isT (T:List (List UInt8)) (S:List UInt8):List (List UInt8):=if T.head? = some S then T.tail else T
theorem zIO (x:List UInt8) (T:List (List UInt8)):isB (x :: T) x=true:=by simp [isB]
theorem zFz (x:List UInt8) (T:List (List UInt8)):isT (x :: T) x=T:=by simp [isT]
theorem zSR {x S:List UInt8} (T:List (List UInt8)) (h:x≠S):isB (x :: T) S=false:=by simp [isB,h]
theorem zVG {x S:List UInt8} (T:List (List UInt8)) (h:x≠S):isT (x :: T) S=x :: T:=by simp [isT,h]
set_option maxHeartbeats 1600000 in
theorem zOY (rb:Nat) (A:Option Addr) (n c:Nat) (re lo:Int) (T:List (List UInt8)) (bad lost:Bool) (S:List UInt8) (w:World) (h:Rd w rb A n c re lo T bad lost) :
  Calls Tryz.prog 148 #[.pointer (some ⟨rb,0,none⟩),.string (bA S)] w fun e w'=>e=.returned (.bool (isB T S))∧Rd w' rb A n c re lo (isT T S) bad lost∧w.grownBy w' (some rb):=by
 obtain ⟨B,m,d,hk,hT,hmd,hne⟩:=h.ex;have hle:=hT.le;have c0:w.cell? ⟨rb,3,none⟩=some (.slice B m d):=(hk.cell 3).trans rfl;have z3:=hk.frozen 3;have HH:=qH h;clear h
 cases T with
 | nil =>
  obtain rfl:0=m:=hT.len;clear hk hT hne;go_enter Tryz.func148,Tryz.ntmps148;go_wp2_with fail
  go_ret;exact ⟨rfl,HH.out,zBj _ _⟩
 | cons x T =>
  have hlen:T.length+1=m:=hT.len;obtain ⟨g,o,CL,hgl,hcl⟩:=hT.2.2 (by omega);subst CL;have hx:w.cell? ⟨g,o,none⟩=some (.string (bA x)):=hcl 0 x rfl 0 _ rfl;obtain ⟨k,aq⟩:∃k,k=T.length:=⟨_,rfl⟩
  obtain rfl:m=k+1:=by omega
  have gn:=Txts.from1 hT;by_cases hq:x=S
  ·have n0:((bA x).toList==(bA S).toList)=true:=by rw [zBC];simpa using hq
   have hgrow:∀u,w.grownBy (w.setCell ⟨rb,3,none⟩ u) (some rb):=fun u=>⟨rfl,rfl,rfl,by simp [World.setCell],fun k _ hne=>Below.heap_setCell _ _ _ _ (fun e=>hne (by rw [e]))⟩
   have HG:=qH hgrow;have hgr:g < rb:=hne g rfl;have uH:∀u,Txts (w.setCell ⟨rb,3,none⟩ u) (some ⟨g,o+1,none⟩) k T:=fun u=>gn.keepBlk (hgrow u) (Nat.ne_of_lt hgr)
   have pH:=qH uH;have HS:=qH (fun u=>hk.set_ 3 u);have HE:=qH (show isB (x :: T) S=true∧isT (x :: T) S=T by rw [←hq];exact ⟨zIO _ _,zFz _ _⟩);clear hq HH;by_cases hd1:d=1
   ·subst hd1;obtain rfl:k=0:=by omega
    obtain rfl:T=[]:=List.length_eq_zero_iff.1 aq.symm;clear aq hlen hcl hgrow uH hT gn;go_enter Tryz.func148,Tryz.ntmps148;go_wp2_with fail
    go_ret;exact ⟨zBU HE.out.1.symm,by rw [HE.out.2];exact ⟨_,_,_,by simpa using HS.out _,Els.nil _ _,Nat.le_refl _,fun k hk=>by cases hk;exact hgr⟩,HG.out _⟩
   ·have sH:1 < d:=by omega
    clear aq hlen hcl hgrow uH hT gn;go_enter Tryz.func148,Tryz.ntmps148;go_wp2_with fail
    go_ret;exact ⟨zBU HE.out.1.symm,by rw [HE.out.2];exact ⟨_,_,_,by simpa using HS.out _,pH.out _,by omega,fun k hk=>by cases hk;exact hgr⟩,HG.out _⟩
  ·have n0:((bA x).toList==(bA S).toList)=false:=by rw [zBC];simpa using hq
   have HE:=qH (show isB (x :: T) S=false∧isT (x :: T) S=x :: T from ⟨zSR _ hq,zVG _ hq⟩);clear hq hk hT gn hcl hlen aq hne;go_enter Tryz.func148,Tryz.ntmps148;go_wp2_with fail
   go_ret;exact ⟨zBU HE.out.1.symm,by rw [HE.out.2];exact HH.out,zBj _ _⟩
end Go.Proofs.YtlmdfmnbcndhoaaGreatDoor
