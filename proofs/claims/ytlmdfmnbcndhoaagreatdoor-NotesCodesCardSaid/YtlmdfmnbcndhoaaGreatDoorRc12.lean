/-
  Lemmas, part 12. Conditions: each theorem's own.
-/
import Derived.Test.YtlmdfmnbcndhoaaGreatDoorRc11
import Derived.Test.YtlmdfmnbcndhoaaGreatDoorRc03
import Derived.Great.BuildSlice
import Derived.Laws.StructEq
import Derived.Laws.ResultCell
open Bool renaming false→E,true→Q
open Option renaming none→U,some→Z
open Go.Value renaming bool→G,int→D,slice→H,string→W
open Go.IntKind renaming i64→J
namespace Go.Proofs.YtlmdfmnbcndhoaaGreatDoor
structure Good (K:Int) (L:List Lt):Prop where
 pos:0 < L.length
 first:isP (la L 0)=Q
 even:pN L L.length % 2=0
 gates:∀i,i < L.length→isP (la L i)=Q→0≤(la L i).gate∧(la L i).gate≤K
 ranks:∀i,i < L.length→rkB L i=Q
 cross:∀i,i < L.length→crB L i=Q
 ceven:cN L L.length % 2=0
 kinds:∀i,i < L.length→isP (la L i)=Q∨isC (la L i)=Q
theorem zDu {K:Int} {L:List Lt} (hp:0 < L.length) (h1:isP (la L 0)=Q) (h2:pN L L.length % 2=0) (h3:zAB K L=Q) (h4:zCy L=Q) (h5:zBR L=Q):Good K L:=by
 unfold zAB at h3;unfold zCy at h4;unfold zBR at h5;simp only [Bool.and_eq_true,decide_eq_true_eq,zAF] at h3 h4 h5;refine ⟨hp,h1,h2,fun i hi hp=>?_,h4,h5.2,h5.1,fun i hi=>?_⟩
 ·have:=h3 i hi;unfold lpB at this;unfold isP at hp;rw [if_pos (by simpa using hp)] at this;simp only [decide_eq_true_eq] at this;exact ⟨this.1,this.2.1⟩
 ·have:=h3 i hi;unfold lpB at this;unfold isP isC;by_cases e1:(la L i).kind=1
  ·left;simp [e1]
  ·by_cases e2:(la L i).kind=2
   ·right;simp [e2]
   ·rw [if_neg e1,if_neg e2] at this;cases this
theorem zFk {K:Int} {L:List Lt} (hp:0 < L.length) (h:zBd K L=Q):Good K L:=by
 unfold zBd at h;rw [←zCC] at h;simp only [Bool.and_eq_true,decide_eq_true_eq] at h;exact zDu hp h.1.1.1 h.1.1.2 h.1.2.1.1 h.1.2.1.2 h.1.2.2
section
variable {K:Int} {L:List Lt}
theorem zVY {i:Nat} (h:L.length≤i):la L i=dl:=by unfold la;rw [List.getElem?_eq_none h];rfl
theorem zKw {i:Nat} (h:isP (la L i)=Q):i < L.length:=by
 rcases Nat.lt_or_ge i L.length with hl | hl
 ·exact hl
 ·rw [zVY hl] at h;cases h
theorem zEC {i:Nat} (h:isC (la L i)=Q):i < L.length:=by
 rcases Nat.lt_or_ge i L.length with hl | hl
 ·exact hl
 ·rw [zVY hl] at h;cases h
theorem Good.nodup (g:Good K L):(axL L).Nodup:=zJj g.ranks
theorem Good.at_ (g:Good K L) {i:Nat} (hp:isP (la L i)=Q):(axL L)[atN L i]? = Z i:=zVX (fun i hi hp=>(g.gates i hi hp).1) g.ranks (zKw hp) hp
theorem Good.idx (g:Good K L) {i:Nat} (hp:isP (la L i)=Q):zTW (axL L) i=atN L i:=zLI g.nodup (g.at_ hp)
theorem Good.at_lt (g:Good K L) {i:Nat} (hp:isP (la L i)=Q):atN L i < (axL L).length:=(List.getElem?_eq_some_iff.1 (g.at_ hp)).1
theorem zEK {j:Nat} (hj:j < (axL L).length):isP (la L (xat (axL L) j))=Q∧xat (axL L) j < L.length:=by
 have h:(axL L)[j]? = Z (axL L)[j]:=List.getElem?_eq_getElem hj;have hm:=(zFi L (axL L)[j] L.length).1 (List.getElem_mem hj);unfold xat;rw [h];exact ⟨hm.2,hm.1⟩
theorem Good.m_pos (g:Good K L):0 < (axL L).length:=by
 have:=g.at_lt g.first;omega
theorem Good.other (g:Good K L) {i:Nat} (hc:isC (la L i)=Q) :
  zGA L i≠i∧isC (la L (zGA L i))=Q∧(la L (zGA L i)).id=(la L i).id∧(la L (zGA L i)).over≠(la L i).over∧(la L (zGA L i)).sign=(la L i).sign∧(∀j,isC (la L j)=Q→(la L j).id=(la L i).id→j≠i→j=zGA L i):=by
 have hi:=zEC hc;have hb:=(zBA.1 (g.cross i hi) hc).1;have ht:=zPk (d:=((la L i).id-1).toNat) g.ceven g.cross (by omega);rw [show ((((la L i).id-1).toNat+1:Nat):Int)=(la L i).id by omega] at ht;have hex:∃j,j < L.length∧j≠i∧isC (la L j)=Q∧(la L j).id=(la L i).id:=by
  rcases Classical.em (∃j,j < L.length∧j≠i∧isC (la L j)=Q∧(la L j).id=(la L i).id) with h | h
  ·exact h
  ·have:tN L (la L i).id L.length=1:=zIt hi (by simp [hc]) (fun m hm hp=>by
    simp at hp
    rcases Nat.decEq m i with e | e
    ·exact absurd ⟨m,hm,e,hp.1,hp.2⟩ h
    ·exact e)
   omega
 have hall:∀j k,isC (la L j)=Q→(la L j).id=(la L i).id→j≠i→isC (la L k)=Q→(la L k).id=(la L i).id→k≠i→j=k:=by
  intro j k hj hji hjn hk hki hkn;rcases Nat.decEq j k with e | e
  ·have a1:=(zEi g.cross (zEC hj) (zEC hk) hj hk (hji.trans hki.symm) e).1;have a2:=(zEi g.cross (zEC hj) hi hj hc hji hjn).1;have a3:=(zEi g.cross (zEC hk) hi hk hc hki hkn).1
   revert a1 a2 a3
   cases (la L j).over<;>cases (la L k).over<;>cases (la L i).over<;>simp
  ·exact e
 have hf:zGA L i≠i∧isC (la L (zGA L i))=Q∧(la L (zGA L i)).id=(la L i).id:=by
  unfold zGA
  cases hq:(List.range L.length).find? (fun j=>j != i&&isC (la L j)&&(la L j).id==(la L i).id) with
  | none =>
   rw [List.find?_eq_none] at hq;obtain ⟨j,hj,h1,h2,h3⟩:=hex;exact absurd (by simp [h1,h2,h3]) (hq j (List.mem_range.2 hj))
  | some j =>
   have:=List.find?_some hq;simp at this;exact ⟨this.1.1,this.1.2,this.2⟩
 have ho:=zEi g.cross (zEC hf.2.1) hi hf.2.1 hc hf.2.2 hf.1;exact ⟨hf.1,hf.2.1,hf.2.2,ho.1,ho.2,fun j hj hji hjn=>hall j _ hj hji hjn hf.2.1 hf.2.2 hf.1⟩
theorem zKx {n i:Nat} {b:Bool} (hi:i < n):zBx n i b < 2*n:=by
 unfold zBx;split
 ·omega
 ·have:=Nat.mod_lt (i+n-1) (show 0 < n by omega);omega
theorem zGL {n d:Nat} (h:d < 2*n):zBC n d < n:=by
 unfold zBC;split
 ·exact Nat.mod_lt _ (by omega)
 ·omega
theorem zPn {d:Nat} (hd:2*L.length≤d) (hm:0 < (axL L).length) (hN:d < zBS L) :
  ∃v b,zAG L (axL L) d=zBx L.length v b∧isP (la L v)=Q∧v < L.length∧((d % 2=0∧v=xat (axL L) (((d-2*L.length) / 2+1) % (axL L).length)∧b = !dwn L v)∨(d % 2=1∧v=xat (axL L) ((d-2*L.length) / 2)∧b=dwn L v)):=by
 unfold zAG;unfold zBS at hN;rw [if_pos hd];by_cases h0:d % 2=0
 ·rw [if_pos h0];have hj:=zEK (L:=L) (j:=((d-2*L.length) / 2+1) % (axL L).length) (Nat.mod_lt _ hm);exact ⟨_,_,rfl,hj.1,hj.2,.inl ⟨h0,rfl,rfl⟩⟩
 ·rw [if_neg h0];have hj:=zEK (L:=L) (j:=(d-2*L.length) / 2) (by omega);exact ⟨_,_,rfl,hj.1,hj.2,.inr ⟨by omega,rfl,rfl⟩⟩
theorem Good.left_cross (_g:Good K L) {d:Nat} (hd:d < 2*L.length) (hc:isC (la L (zBC L.length d))=Q) :
  zAG L (axL L) d=zBx L.length (zGA L (zBC L.length d)) ((d % 2==0)==((la L (zBC L.length d)).over==((la L (zBC L.length d)).sign==1))):=by
 unfold zAG;rw [if_neg (by omega),if_pos hc]
theorem Good.left_pass (g:Good K L) {d:Nat} (hd:d < 2*L.length) (hp:isP (la L (zBC L.length d))=Q) :
  zAG L (axL L) d=if dwn L (zBC L.length d)==(d % 2==0) then 2*L.length+2*atN L (zBC L.length d) else 2*L.length+2*((atN L (zBC L.length d)+(axL L).length-1) % (axL L).length)+1:=by
 unfold zAG;rw [if_neg (by omega),if_neg (by rw [zOH hp];simp),g.idx hp]
theorem Good.into (g:Good K L) {d:Nat} (hd:d < zBS L):zAG L (axL L) d < zBS L:=by
 rcases Nat.lt_or_ge d (2*L.length) with hl | hl
 ·rcases g.kinds _ (zGL hl) with hp | hc
  ·have ha:=g.at_lt hp;rw [g.left_pass hl hp];unfold zBS;split
   ·omega
   ·have:=Nat.mod_lt (atN L (zBC L.length d)+(axL L).length-1) g.m_pos;omega
  ·rw [g.left_cross hl hc];have:=zKx (b:=(d % 2==0)==((la L (zBC L.length d)).over==((la L (zBC L.length d)).sign==1))) (zEC (g.other hc).2.1);unfold zBS;omega
 ·obtain ⟨v,b,h1,_,h3,_⟩:=zPn hl g.m_pos hd;rw [h1];have:=zKx (b:=b) h3;unfold zBS;omega
end
end Go.Proofs.YtlmdfmnbcndhoaaGreatDoor
namespace Go.Proofs.YtlmdfmnbcndhoaaGreatDoor
structure Plc where
 gate:Int
 left:Int
instance : DecidableEq Plc := fun a b =>
 if h:a.gate=b.gate∧a.left=b.left then .isTrue (by cases a;cases b;simp at h;simp [h])
 else .isFalse (fun e=>h (by subst e;simp))
structure Fc where
 above:Bool
 darts:List Int
 places:List Plc
 fingers:List Int
 outer:Bool
instance : DecidableEq Fc := fun a b =>
 if h:a.above=b.above∧a.darts=b.darts∧a.places=b.places∧a.fingers=b.fingers∧a.outer=b.outer then .isTrue (by cases a;cases b;simp at h;simp [h])
 else .isFalse (fun e=>h (by subst e;simp))
section
variable {K:Int} {L:List Lt}
theorem zGM (L:List Lt) {a b:Nat} (h:a < b):fsN L a+gN L (a:Int) L.length≤fsN L b:=by
 obtain ⟨k,rfl⟩:∃k,b=a+1+k:=⟨b-a-1,by omega⟩
 unfold fsN
 induction k with
 | zero=>exact Nat.le_refl _
 | succ k ih=>exact Nat.le_trans (ih (by omega)) (Nat.le_add_right _ _)
theorem Good.rank (g:Good K L) {i:Nat} (hp:isP (la L i)=Q):1≤(la L i).rank∧(la L i).rank≤(gN L (la L i).gate L.length:Int):=(zCf.1 (g.ranks i (zKw hp)) hp).1
end
end Go.Proofs.YtlmdfmnbcndhoaaGreatDoor
namespace Go.Proofs.YtlmdfmnbcndhoaaGreatDoor
open Go.RowKit
theorem zDv {α β:Type} (f:α→List β) (k:Nat) (hk:∀a,(f a).length=k):∀L:List α,(L.flatMap f).length=L.length*k
 | []=>by simp
 | a :: L=>by rw [List.flatMap_cons,List.length_append,hk,zDv f k hk L,List.length_cons,Nat.add_mul,Nat.one_mul,Nat.add_comm]
theorem zEL {α β:Type} (f:α→List β) (k:Nat) (hk:∀a,(f a).length=k):∀(L:List α) (j i:Nat) (x:α),L[j]? = Z x→i < k→(L.flatMap f)[j*k+i]? = (f x)[i]?
 | [],j,_,_,h,_=>by simp at h
 | a :: L,0,i,x,h,hi=>by
  simp only [List.getElem?_cons_zero,Option.some.injEq] at h;subst h;rw [List.flatMap_cons,Nat.zero_mul,Nat.zero_add,List.getElem?_append_left (by rw [hk];exact hi)]
 | a :: L,j+1,i,x,h,hi=>by
  rw [List.getElem?_cons_succ] at h;rw [List.flatMap_cons,List.getElem?_append_right (by rw [hk,Nat.add_mul,Nat.one_mul];omega),hk,show (j+1)*k+i-k=j*k+i by rw [Nat.add_mul,Nat.one_mul];omega];exact zEL f k hk L j i x h hi
theorem zMB {α β:Type} (f:α→List β) (k:Nat) (hk:∀a,(f a).length=k):∀(L:List α) (j i:Nat) (x x':α) (u:β),L[j]? = Z x→i < k→f x'=(f x).set i u→(L.flatMap f).set (j*k+i) u=(L.set j x').flatMap f
 | [],j,_,_,_,_,h,_,_=>by simp at h
 | a :: L,0,i,x,x',u,h,hi,he=>by
  simp only [List.getElem?_cons_zero,Option.some.injEq] at h;subst h;rw [List.flatMap_cons,Nat.zero_mul,Nat.zero_add,List.set_append_left _ _ (by rw [hk];exact hi),List.set_cons_zero,List.flatMap_cons,he]
 | a :: L,j+1,i,x,x',u,h,hi,he=>by
  rw [List.getElem?_cons_succ] at h;rw [List.flatMap_cons,List.set_append_right _ _ (by rw [hk,Nat.add_mul,Nat.one_mul];omega),hk,show (j+1)*k+i-k=j*k+i by rw [Nat.add_mul,Nat.one_mul];omega,zMB f k hk L j i x x' u h hi he,List.set_cons_succ,List.flatMap_cons]
theorem zJl {α β:Type} (f:α→List β) (k:Nat) (hk:∀a,(f a).length=k) {L:List α} {j i:Nat} {x x':α} {u:β} (h:L[j]? = Z x) (hi:i < k) (he:f x'=(f x).set i u) {q:Nat} (hq:q=j*k+i):(L.flatMap f).set q u=(L.set j x').flatMap f:=by
 subst hq;exact zMB f k hk L j i x x' u h hi he
theorem Row.put {w:World} {base size:Nat} {g off n c:Nat} {xs:List Value} (h:Row w base size (Z ⟨g,off,U⟩) n c xs) {q:Nat} (hq:q < n*size) (u:Value):Row (w.setCell ⟨g,off+q,U⟩ u) base size (Z ⟨g,off,U⟩) n c (xs.set q u):=by
 obtain ⟨h1,h2,h3,h4,h5⟩:=h.at_ _ rfl;simp only [] at h4 h5;refine ⟨by simpa using h.len,h.cap,h.nil,fun ad ha=>?_⟩;injection ha with ha
 subst ha;refine ⟨rfl,h2,by simpa [World.setCell] using h3,fun j v hv=>?_,fun j hj=>?_⟩
 ·by_cases e:q=j
  ·subst e;rw [List.getElem?_set_self (by rw [h.len];exact hq)] at hv;injection hv with hv
   subst hv;have hc:=(h5 q (by have:=h.cap;exact Nat.lt_of_lt_of_le hq (Nat.mul_le_mul_right _ this))).1;obtain ⟨v0,vO⟩:=Option.isSome_iff_exists.1 hc;exact World.cell?_setCell_same _ _ _ vO
  ·rw [List.getElem?_set_ne e] at hv;rw [World.cell?_setCell_other _ _ _ _ (by intro he;injection he with _ he;simp at he;omega)];exact h4 j v hv
 ·obtain ⟨k1,k2⟩:=h5 j hj;refine ⟨?_,?_⟩
  ·by_cases e:q=j
   ·subst e;obtain ⟨v0,vO⟩:=Option.isSome_iff_exists.1 k1;rw [World.cell?_setCell_same _ _ _ vO];rfl
   ·rw [World.cell?_setCell_other _ _ _ _ (by intro he;injection he with _ he;simp at he;omega)];exact k1
  ·rw [World.frozen?_setCell];exact k2
def ltC (l:Lt):List Value:=[D J l.kind,D J l.gate,D J l.rank,D J l.id,D J l.sign,G l.over]
theorem zDR (l:Lt):(ltC l).length=6:=rfl
structure OwnL (w:World) (base:Nat) (A:Option Addr) (n c:Nat) (L:List Lt):Prop where
 row:Row w base 6 A n c (L.flatMap ltC)
 fits:∀x∈L,LtOk x
 le:n≤2932031007402
section
variable {w w':World} {base:Nat} {A:Option Addr} {n c:Nat} {L:List Lt}
theorem OwnL.len (h:OwnL w base A n c L):L.length=n:=by
 have:=h.row.len;rw [zDv ltC 6 zDR] at this;omega
theorem OwnL.lets (h:OwnL w base A n c L):Lets w A n L:=by
 refine ⟨h.len,h.le,h.fits,fun hn=>?_⟩;obtain ⟨g,off,rfl,_,hlt⟩:=h.row.form hn;refine ⟨g,off,rfl,hlt,fun j x hx=>?_⟩;have key:∀i u,i < 6→(ltC x)[i]? = Z u→w.cell? ⟨g,off+(j*6+i),U⟩=Z u:=fun i u hi hu=>h.row.cell (by rw [zEL ltC 6 zDR L j i x hx hi];exact hu)
 exact ⟨key 0 _ (by omega) rfl,key 1 _ (by omega) rfl,key 2 _ (by omega) rfl,key 3 _ (by omega) rfl,key 4 _ (by omega) rfl,key 5 _ (by omega) rfl⟩
theorem OwnL.next (h:OwnL w base A n c L) (hb:Below w.heap.size w w'):OwnL w' base A n c L:=⟨h.row.below hb,h.fits,h.le⟩
theorem OwnL.alloc (h:OwnL w base A n c L) (o:Obj):OwnL (w.alloc o) base A n c L:=⟨h.row.alloc o,h.fits,h.le⟩
theorem OwnL.nil (w:World) (base:Nat):OwnL w base U 0 0 []:=⟨Row.none_ _ _ _,by simp,by omega⟩
theorem OwnL.put {g off:Nat} (h:OwnL w base (Z ⟨g,off,U⟩) n c L) {j i q:Nat} {x x':Lt} {u:Value} (hx:L[j]? = Z x) (hi:i < 6) (he:ltC x'=(ltC x).set i u) (hok:LtOk x') (hq:q=j*6+i) :
  OwnL (w.setCell ⟨g,off+q,U⟩ u) base (Z ⟨g,off,U⟩) n c (L.set j x'):=by
 have hj:j < n:=by rw [←h.len];exact (List.getElem?_eq_some_iff.1 hx).1
 refine ⟨?_,fun y hy=>?_,h.le⟩
 ·rw [←zJl ltC 6 zDR hx hi he hq];exact h.row.put (by omega) u
 ·rcases List.mem_or_eq_of_mem_set hy with hy | rfl
  ·exact h.fits y hy
  ·exact hok
end
theorem OwnL.block {w:World} {base g:Nat} {L:List Lt} (h:Blk w g 76 (L.flatMap ltC).toArray) (hb:base≤g) (hf:∀x∈L,LtOk x) (hle:L.length≤2932031007402):OwnL w base (Z ⟨g,0,U⟩) L.length L.length L:=by
 refine ⟨⟨zDv ltC 6 zDR L,Nat.le_refl _,fun e=>(by cases e),fun ad ha=>?_⟩,hf,hle⟩;injection ha with ha
 subst ha;have hc:∀j,w.cell? ⟨g,0+j,U⟩=(L.flatMap ltC)[j]?:=fun j=>by rw [Nat.zero_add,h.cell,List.getElem?_toArray]
 refine ⟨rfl,hb,h.lt,fun j u hu=>by rw [hc,hu],fun j hj=>⟨?_,?_⟩⟩
 ·rw [hc,List.getElem?_eq_getElem (by rw [zDv ltC 6 zDR];exact hj)];rfl
 ·exact h.frozen _
section
variable {w w':World} {base:Nat} {A:Option Addr} {n c:Nat} {ZS:List Plc}
end
theorem zAn {P:Program} {fn:Func} {p:Tmp} {ty:TypeId} {R:Ending→World→Prop} {a:Act} {w:World} {g:Nat} {t:TypeId} {cs:Array Value} {fr:Nat×Nat} {d:TypeDesc} (h:fn.results=#[.cell p ty])
  (hp:a.tmps.getD p undef=.pointer (Z ⟨g,0,U⟩)) (hg:w.heap[g]? = Z (.cells cs t fr)) (hu:P.underlying ty=Z d) (hd:(match d with | .struct _ | .array _ _=>Q | _=>E)=Q) (hi:(P.info? ty).map (·.size)=Z cs.size)
  (hdf:a.defers=[]) (hR:R (.returned (.agg cs)) w):bodyPost P fn R .ret a w:=bodyPost_ret (results_cell_row h a.tmps w g t cs fr d hp hg hu hd hi) hdf hR
theorem zBo {P:Program} {fn:Func} {p u:Tmp} {ty:TypeId} {R:Ending→World→Prop} {a:Act} {w:World} {g:Nat} {t:TypeId} {cs:Array Value} {fr:Nat×Nat} {d:TypeDesc} {v:Value} (h:fn.results=#[.cell p ty,.tmp u])
  (hp:a.tmps.getD p undef=.pointer (Z ⟨g,0,U⟩)) (hv:a.tmps.getD u undef=v) (hg:w.heap[g]? = Z (.cells cs t fr)) (hu:P.underlying ty=Z d) (hd:(match d with | .struct _ | .array _ _=>Q | _=>E)=Q) (hi:(P.info? ty).map (·.size)=Z cs.size)
  (hdf:a.defers=[]) (hR:R (.returned (.tuple #[.agg cs,v])) w):bodyPost P fn R .ret a w:=by
 refine bodyPost_ret ?_ hdf hR;rw [results_cell_tmp h,hp,hv];simp [asAddr,run_loadVar_row w g t ty cs fr d hg hu hd hi,Result.andThen]
theorem zHp (K:Int) (w:World):(Instr.build 55 #[(0,D J K)]).run Tryz.prog w=.ok (.agg #[D J K,H U 0 0]) w:=run_build w _ _ _ (by kernel_rfl)
theorem zUn (K:Int) (A:Option Addr) (n c:Nat) (w:World):(Instr.build 55 #[(0,D J K),(1,H A n c)]).run Tryz.prog w=.ok (.agg #[D J K,H A n c]) w:=run_build w _ _ _ (by kernel_rfl)
theorem zVZ (K:Int) (A:Option Addr) (n c:Nat) (w:World):(Instr.build 148 #[(0,.agg #[D J K,H A n c])]).run Tryz.prog w=.ok (.agg #[D J K,H A n c,H U 0 0,H U 0 0,H U 0 0,.map U,H U 0 0]) w:=run_build w _ _ _ (by kernel_rfl)
theorem zMC:(Tryz.prog.info? 76).map (fun i=>(i.zero,i.size,i.bytes))=Z (Z (.agg #[D J 0,D J 0,D J 0,D J 0,D J 0,G E]),6,48):=by kernel_rfl
theorem zJm (a b:Lt) (w:World):(Instr.buildSlice 53 2 #[(0,ltV a),(1,ltV b)]).run Tryz.prog w=.ok (H (Z ⟨w.heap.size,0,U⟩) 2 2) (w.alloc (.cells ([a,b].flatMap ltC).toArray 76)):=by
 obtain ⟨i0,hi,aT,az,bt⟩:=info_parts zMC;refine run_buildSlice w _ _ 2 _ _ i0 _ Tryz.underlying53 hi aT (by rw [az];omega) (by rw [az];omega) ?_;rw [az]
 kernel_rfl
end Go.Proofs.YtlmdfmnbcndhoaaGreatDoor
namespace Go.Proofs.YtlmdfmnbcndhoaaGreatDoor
open Go.RowKit
theorem zCu {x:Int} (h0:0≤x) (h1:x < 10):Lib.itoa x=[UInt8.ofNat (48+x.toNat)]:=by
 obtain ⟨k,rfl⟩:=Int.eq_ofNat_of_zero_le h0;unfold Lib.itoa;rw [if_neg (by omega)];simp only [Int.toNat_natCast];exact zFS (by omega)
theorem zJn {a b:Nat} (ha:a < 256) (hb:b < 256) (h:UInt8.ofNat a=UInt8.ofNat b):a=b:=by
 have:=congrArg UInt8.toNat h;simp only [UInt8.toNat_ofNat'] at this;omega
theorem zPo {x y:Fg} (hx:zAo x=Q) (hy:zAo y=Q) (h:zAl x=zAl y):x=y:=by
 obtain ⟨a1,a2,a3,a4⟩:=zAs.1 hx;obtain ⟨b1,b2,b3,b4⟩:=zAs.1 hy;obtain ⟨p,r,d⟩:=x;obtain ⟨p',r',d'⟩:=y;simp only at a1 a2 a3 a4 b1 b2 b3 b4;unfold zAl at h;simp only at h;rw [zCu a3 (by omega),zCu b3 (by omega),zCu (x:=p) (by omega) (by omega),zCu (x:=p') (by omega) (by omega)] at h;have hd:∀a b:Int,0≤a→a≤9→0≤b→b≤9→UInt8.ofNat (48+a.toNat)=UInt8.ofNat (48+b.toNat)→a=b:=fun a b h1 h2 h3 h4 e=>by
  have:=zJn (by omega) (by omega) e;omega
 by_cases e1:p=1
 ·by_cases e2:p'=1
  ·rw [if_pos e1,if_pos e2] at h;simp only [List.nil_append,List.cons.injEq,and_true] at h;obtain ⟨h1,h2⟩:=h;have hr:r=r':=by cases r<;>cases r'<;>first | rfl | (exfalso;simp at h1)
   rw [e1,e2,hr,hd d d' a3 (by omega) b3 (by omega) h2]
  ·rw [if_pos e1,if_neg e2] at h;have:=congrArg List.length h;simp at this
 ·by_cases e2:p'=1
  ·rw [if_neg e1,if_pos e2] at h;have:=congrArg List.length h;simp at this
  ·rw [if_neg e1,if_neg e2] at h;simp only [List.cons_append,List.nil_append,List.cons.injEq,and_true] at h;obtain ⟨h0,h1,h2⟩:=h;have hr:r=r':=by cases r<;>cases r'<;>first | rfl | (exfalso;simp at h1)
   rw [hd p p' (by omega) (by omega) (by omega) (by omega) h0,hr,hd d d' a3 (by omega) b3 (by omega) h2]
open Classical in
noncomputable def zGu (S:List UInt8):Option Fg:=if h:∃f,zAo f=Q∧zAl f=S then Z h.choose else U
theorem zCD {S:List UInt8} {f:Fg} (h1:zAo f=Q) (h2:zAl f=S):zGu S=Z f:=by
 have h:∃f,zAo f=Q∧zAl f=S:=⟨f,h1,h2⟩
 unfold zGu;rw [dif_pos h]
 congr 1
 exact zPo h.choose_spec.1 h1 (h.choose_spec.2.trans h2.symm)
theorem zKy {S:List UInt8} (h:∀f,zAo f=Q→zAl f≠S):zGu S=U:=by
 unfold zGu;rw [dif_neg (fun ⟨f,h1,h2⟩=>h f h1 h2)]
theorem zHq {S:List UInt8} {f:Fg} (h:zGu S=Z f):zAo f=Q∧zAl f=S:=by
 unfold zGu at h;split at h
 ·rename_i hh;injection h with h
  subst h;exact hh.choose_spec
 ·cases h
end Go.Proofs.YtlmdfmnbcndhoaaGreatDoor
namespace Go.Proofs.YtlmdfmnbcndhoaaGreatDoor
open Go.RowKit
theorem Blk.store3 {w:World} {g:Nat} {t:TypeId} {v0 v1 v2:Value} (h:Blk w g t #[v0,v1,v2]) (u0 u1 u2:Value) :
  Blk (((w.setCell ⟨g,0,U⟩ u0).setCell ⟨g,1,U⟩ u1).setCell ⟨g,2,U⟩ u2) g t #[u0,u1,u2]:=((h.set_ 0 _).set_ 1 _).set_ 2 _
theorem zCl {a w:World} {g B:Nat} (h:Below B a w) (hB:B≤g) (u0 u1 u2:Value) :
  Below B a (((w.setCell ⟨g,0,U⟩ u0).setCell ⟨g,1,U⟩ u1).setCell ⟨g,2,U⟩ u2) :=
 ((h.setCell (p:=⟨g,0,U⟩) hB _).setCell (p:=⟨g,1,U⟩) hB _).setCell (p:=⟨g,2,U⟩) hB _
theorem zUo {x:Fg} {S:List UInt8} (h:zAl x=S) (hx:zAo x=Q) (w:World):Calls Tryz.prog 154 #[fgV x] w fun e w'=>e=.returned (W (bA S))∧Below w.heap.size w w':=by
 subst h;exact zKk x hx w
theorem zXf (p:Int) (r:Bool) (d:Int) (w:World):(Instr.build 90 #[(0,D J p),(1,G r),(2,D J d)]).run Tryz.prog w=.ok (fgV ⟨p,r,d⟩) w:=run_build w _ _ _ (by kernel_rfl)
theorem zPp (w:World):(Instr.build 90 #[]).run Tryz.prog w=.ok (.agg #[D J 0,G E,D J 0]) w:=run_build w _ _ _ (by kernel_rfl)
def parV (o:Option Fg):Value:=match o with | some f=>.tuple #[fgV f,D J 0] | none=>.tuple #[fgV df,D J 6]
set_option maxHeartbeats 6400000 in
set_option maxRecDepth 100000 in
theorem zED (S:List UInt8) (w:World) :
  Calls Tryz.prog 166 #[W (bA S)] w fun e w'=>e=.returned (parV (zGu S))∧Below w.heap.size w w':=by
 have aa:Below w.heap.size w (w.alloc (.cells #[D J 0,G E,D J 0] 90)):=(Below.refl _ _).alloc (Nat.le_refl _) _;have hk0:Blk (w.alloc (.cells #[D J 0,G E,D J 0] 90)) w.heap.size 90 #[D J 0,G E,D J 0]:=Blk.new _ _ _;go_enter Tryz.func166,Tryz.ntmps166;go_wp2_with fail
 generalize w.alloc (.cells #[D J 0,G E,D J 0] 90)=ZR at aa hk0 ⊢;go_loopw [4] (fun v wr=>∃p:Nat,1≤p∧p≤10∧v=D J p∧Below ZR.heap.size ZR wr∧Hid (∀f,zAo f=Q→f.p < (p:Int)→zAl f≠S)) (fun v _=>10-(intOf v).toNat)
 case atStart=>exact ⟨1,by omega,by omega,rfl,Below.refl _ _,qH (fun f hf h=>by have:=zAs.1 hf;omega)⟩
 case round =>
  obtain ⟨p,gB,hp,rfl,hbr,HP⟩:=hrel;by_cases hlt:p < 10
  ·have i1:(p:Int)≤9:=by omega
   go_wp2_with fail
   go_loopw [5] (fun v w1=>∃d:Nat,d≤7∧v=D J d∧Below ZR.heap.size ZR w1∧Hid (∀f,zAo f=Q→(f.p < (p:Int)∨f.p=(p:Int)∧f.d < (d:Int))→zAl f≠S)) (fun v _=>7-(intOf v).toNat)
   case atStart=>exact ⟨0,by omega,rfl,hbr,qH (fun f hf h=>by rcases h with h | h;exact HP.out f hf h;have:=zAs.1 hf;omega)⟩
   case round =>
    clear hbr;obtain ⟨d,hd,rfl,hbr,HD⟩:=hrel;by_cases hdl:d < 7
    ·have i2:(d:Int)≤6:=by omega
     go_wp2_with fail
     have ab:Below ZR.heap.size ZR (wr.alloc (.cells #[G E,G Q] 4)):=hbr.alloc hbr.size _;have hbb:Blk (wr.alloc (.cells #[G E,G Q] 4)) wr.heap.size 4 #[G E,G Q]:=Blk.new _ _ _;generalize wr.alloc (.cells #[G E,G Q] 4)=X at ab hbb ⊢;generalize wr.heap.size=gb at hbb ⊢;go_loopw [19] (fun v w3=>∃k:Nat,k≤2∧v=D J k∧Below X.heap.size X w3∧Hid (∀f,zAo f=Q→(f.p < (p:Int)∨f.p=(p:Int)∧(f.d < (d:Int)∨f.d=(d:Int)∧(f.r=E∧1≤k∨f.r=Q∧2≤k)))→zAl f≠S)) (fun v _=>2-(intOf v).toNat)
     case atStart=>exact ⟨0,by omega,rfl,Below.refl _ _,qH (fun f hf h=>HD.out f hf (by rcases h with h | ⟨h,h2 | ⟨_,h3⟩⟩;exact .inl h;exact .inr ⟨h,h2⟩;omega))⟩
     case round =>
      clear hbr;obtain ⟨k,hk,rfl,hbr,HK⟩:=hrel;have hbbr:=hbb.below hbr hbb.lt;have ac:=zAa ab hbr ab.size;by_cases hkl:k < 2
      ·obtain ⟨r,hr⟩:∃r:Bool,(k=0∧r=E∨k=1∧r=Q):=by
        rcases (show k=0∨k=1 by omega) with h | h
        ·exact ⟨E,.inl ⟨h,rfl⟩⟩
        ·exact ⟨Q,.inr ⟨h,rfl⟩⟩
       have hcell:wr.cell? ⟨gb,k,U⟩=Z (G r):=by
        rcases hr with ⟨rfl,rfl⟩ | ⟨rfl,rfl⟩
        ·exact (hbbr.cell 0).trans rfl
        ·exact (hbbr.cell 1).trans rfl
       have hth:zAo ⟨(p:Int),r,(d:Int)⟩=Q:=zAs.2 ⟨by simp only;omega,by simp only;omega,by simp only;omega,by simp only;omega⟩;have j0:(0:Int)≤(k:Int):=by omega
       have j1:(k:Int) < 2:=by omega
       have HR:=qH hr;have uZ:=qH hth;obtain ⟨NX,B9⟩:∃T,zAl ⟨(p:Int),r,(d:Int)⟩=T:=⟨_,rfl⟩
       have HN:=qH (fun w=>zUo B9 hth w);have iy:=qH B9;have ai:Below ZR.heap.size ZR (wr.alloc (.cells #[D J (p:Int),G r,D J (d:Int)] 90)):=ac.alloc ac.size _;have tC:Below X.heap.size X (wr.alloc (.cells #[D J (p:Int),G r,D J (d:Int)] 90)):=hbr.alloc hbr.size _;have eB:Blk (wr.alloc (.cells #[D J (p:Int),G r,D J (d:Int)] 90)) wr.heap.size 90 #[D J (p:Int),G r,D J (d:Int)]:=Blk.new _ _ _;clear hr hth B9;by_cases hq:NX=S
       ·have hres:=qH (show zGu S=Z ⟨(p:Int),r,(d:Int)⟩ from zCD uZ.out (iy.out.trans hq));have n0:((bA NX).toList==(bA S).toList)=Q:=by rw [zCj];simpa using hq
        clear hq;go_wp2_with fail
        refine (HN.out _).mono ?_;rintro e w6 ⟨rfl,ao⟩;have lv:=eB.below ao eB.lt;have bE:=zAa ai ao ai.size;have b8:=hk0.below bE hk0.lt;obtain ⟨c0,c1,c2⟩:=cQ3 lv;obtain ⟨d0,d1,d2⟩:=cQ3 b8;have z0:=b8.frozen 0;have z1:=b8.frozen 1;have z2:=b8.frozen 2;have hS:=b8.store3 (D J (p:Int)) (G r) (D J (d:Int));have dT:=zCl (zAa aa bE aa.size) (Nat.le_refl w.heap.size) (D J (p:Int)) (G r) (D J (d:Int));clear lv b8 hcell ao tC eB hbb hbbr;go_wp2_with fail
        (try simp only [Exit.inBlock,Exit.then])
        exact zBo rfl rfl rfl hS Tryz.underlying90 rfl (by kernel_rfl) rfl ⟨by rw [hres.out];rfl,dT⟩
       ·have oc:=qH (show ∀f,zAo f=Q→(f.p < (p:Int)∨f.p=(p:Int)∧(f.d < (d:Int)∨f.d=(d:Int)∧(f.r=E∧1≤k+1∨f.r=Q∧2≤k+1)))→zAl f≠S from fun f hf h=>by
         by_cases h5:f.p < (p:Int)∨f.p=(p:Int)∧(f.d < (d:Int)∨f.d=(d:Int)∧(f.r=E∧1≤k∨f.r=Q∧2≤k))
         ·exact HK.out f hf h5
         ·have hfe:f=⟨(p:Int),r,(d:Int)⟩:=by
           obtain ⟨fp,frr,fd⟩:=f
           simp only at h h5
           rcases h with h | ⟨h1,h | ⟨h2,h3⟩⟩
           ·exact absurd (.inl h) h5
           ·exact absurd (.inr ⟨h1,.inl h⟩) h5
           ·rcases HR.out with ⟨k0,r0⟩ | ⟨k0,r0⟩
            ·rcases h3 with ⟨h3,_⟩ | ⟨_,h4⟩
             ·rw [h1,h2,h3,r0]
             ·omega
            ·rcases h3 with ⟨h3,h4⟩ | ⟨h3,h4⟩
             ·exact absurd (.inr ⟨h1,.inr ⟨h2,.inl ⟨h3,by omega⟩⟩⟩) h5
             ·rw [h1,h2,h3,r0]
          rw [hfe,iy.out];exact hq)
        have n0:((bA NX).toList==(bA S).toList)=E:=by rw [zCj];simpa using hq
        clear hq HK;go_wp2_with fail
        refine (HN.out _).mono ?_;rintro e w6 ⟨rfl,ao⟩;have bE:=zAa tC ao tC.size;clear hcell eB hbbr ai;go_wp2_with fail
        go_roundw
        case rel=>exact ⟨k+1,by omega,by go_num,bE,oc⟩
        case measure=>simp [intOf];omega
      ·have j1:¬(k:Int) < 2:=by omega
       have DF:=qH (show ∀f,zAo f=Q→(f.p < (p:Int)∨f.p=(p:Int)∧f.d < ((d+1:Nat):Int))→zAl f≠S from fun f hf h=>HK.out f hf (by
        rcases h with h | ⟨h1,h2⟩
        ·exact .inl h
        ·refine .inr ⟨h1,?_⟩
         by_cases h3:f.d < (d:Int)
         ·exact .inl h3
         ·refine .inr ⟨by omega,?_⟩
          cases e:f.r with
          | false=>exact .inl ⟨rfl,by omega⟩
          | true=>exact .inr ⟨rfl,by omega⟩))
       clear HK HD hbb hbbr;go_wp2_with fail
       go_roundw
       case rel=>exact ⟨d+1,by omega,by go_num,ac,DF⟩
       case measure=>simp [intOf];omega
    ·have i2:¬(d:Int)≤6:=by omega
     have Dc:=qH (show ∀f,zAo f=Q→f.p < ((p+1:Nat):Int)→zAl f≠S from fun f hf h=>HD.out f hf (by
      have:=zAs.1 hf
      by_cases h1:f.p < (p:Int)
      ·exact .inl h1
      ·exact .inr ⟨by omega,by omega⟩))
     clear HD HP;go_wp2_with fail
     go_roundw
     case rel=>exact ⟨p+1,by omega,by omega,by go_num,hbr,Dc⟩
     case measure=>simp [intOf];omega
  ·have i1:¬(p:Int)≤9:=by omega
   have hres:=qH (show zGu S=U from zKy fun f hf=>HP.out f hf (by have:=zAs.1 hf;omega));have b8:=hk0.below hbr hk0.lt;obtain ⟨d0,d1,d2⟩:=cQ3 b8;have z0:=b8.frozen 0;have z1:=b8.frozen 1;have z2:=b8.frozen 2;have hS:=b8.store3 (D J 0) (G E) (D J 0);have dT:=zCl (zAa aa hbr aa.size) (Nat.le_refl w.heap.size) (D J 0) (G E) (D J 0);clear HP b8;go_wp2_with fail
   (try simp only [Exit.inBlock,Exit.then])
   exact zBo rfl rfl rfl hS Tryz.underlying90 rfl (by kernel_rfl) rfl ⟨by rw [hres.out];rfl,dT⟩
end Go.Proofs.YtlmdfmnbcndhoaaGreatDoor
namespace Go.Proofs.YtlmdfmnbcndhoaaGreatDoor
open Go.RowKit
def Txts (w:World) (A:Option Addr) (n:Nat) (T:List (List UInt8)):Prop:=Els 1 (fun S=>[zLi S]) w A n T
def xa (T:List (List UInt8)) (i:Nat):List UInt8:=(T[i]?).getD []
abbrev rdC (A:Option Addr) (n c:Nat) (re lo:Int) (B:Option Addr) (m d:Nat) (bad lost:Bool):Array Value:=#[H A n c,D J re,D J lo,H B m d,G bad,G lost]
structure Rd (w:World) (rb:Nat) (A:Option Addr) (n c:Nat) (re lo:Int) (T:List (List UInt8)) (bad lost:Bool):Prop where
 ex:∃B m d,Blk w rb 123 (rdC A n c re lo B m d bad lost)∧Txts w B m T∧m≤d∧∀k,blk B=Z k→k < rb
theorem Txts.from1 {w:World} {g o n:Nat} {x:List UInt8} {T:List (List UInt8)} (h:Txts w (Z ⟨g,o,U⟩) (n+1) (x :: T)):Txts w (Z ⟨g,o+1,U⟩) n T:=by
 refine ⟨by have:=h.len;simpa using this,by have:=h.le;omega,fun h0=>?_⟩;obtain ⟨g',o',e,hb,hc⟩:=h.2.2 (by omega);injection e with e
 injection e with e1 e2
 subst e1;subst e2
 exact ⟨g,o+1,rfl,hb,fun j y hy q v hv=>by
  have:=hc (j+1) y (by simpa using hy) q v hv
  rwa [show o+(j+1)*1+q=o+1+j*1+q by omega] at this⟩
theorem Txts.keepBlk {w w':World} {g o n:Nat} {T:List (List UInt8)} {rb:Nat} (h:Txts w (Z ⟨g,o,U⟩) n T) (hg:w.grownBy w' (Z rb)) (hne:g≠rb):Txts w' (Z ⟨g,o,U⟩) n T:=by
 refine ⟨h.len,h.le,fun h0=>?_⟩;obtain ⟨g',o',e,hb,hc⟩:=h.2.2 h0;injection e with e
 injection e with e1 e2
 subst e1;subst e2
 refine ⟨g,o,rfl,Nat.lt_of_lt_of_le hb hg.size,fun j x hx q v hv=>?_⟩;rw [World.cell?_of_block (w:=w) (w':=w') (hg.block g hb (fun e=>hne (by injection e)))];exact hc j x hx q v hv
set_option maxHeartbeats 1600000 in
theorem zHr (rb:Nat) (A:Option Addr) (n c:Nat) (re lo:Int) (T:List (List UInt8)) (bad lost:Bool) (w:World) (h:Rd w rb A n c re lo T bad lost) :
  Calls Tryz.prog 146 #[.pointer (Z ⟨rb,0,U⟩)] w fun e w'=>e=.returned (W (bA (xa T 0)))∧Rd w' rb A n c re lo T.tail (bad||T.isEmpty) lost∧w.grownBy w' (Z rb):=by
 obtain ⟨B,m,d,hk,hT,hmd,hne⟩:=h.ex;have hle:=hT.le;have c0:w.cell? ⟨rb,3,U⟩=Z (H B m d):=(hk.cell 3).trans rfl;have z3:=hk.frozen 3;have z4:=hk.frozen 4
 cases T with
 | nil =>
  obtain rfl:0=m:=hT.len;have h4:w.cell? ⟨rb,4,U⟩=Z (G bad):=(hk.cell 4).trans rfl;have hS:=hk.set_ 4 (G Q);have hg:w.grownBy (w.setCell ⟨rb,4,U⟩ (G Q)) (Z rb):=⟨rfl,rfl,rfl,by simp [World.setCell],fun k _ hne=>Below.heap_setCell _ _ _ _ (fun e=>hne (by rw [e]))⟩;have HS:=qH hS;have HG:=qH hg;clear hS hg;go_enter Tryz.func146,Tryz.ntmps146;go_wp2_with fail
  go_ret;refine ⟨rfl,⟨B,0,d,?_,Els.nil _ _,by omega,hne⟩,HG.out⟩;have:=HS.out;simpa using this
 | cons x T =>
  have hlen:T.length+1=m:=hT.len;obtain ⟨g,o,Cp,hgl,hcl⟩:=hT.2.2 (by omega);subst Cp;have hx:w.cell? ⟨g,o,U⟩=Z (W (bA x)):=hcl 0 x rfl 0 _ rfl;obtain ⟨k,ag⟩:∃k,k=T.length:=⟨_,rfl⟩
  obtain rfl:m=k+1:=by omega
  have gE:=Txts.from1 hT;have hgrow:∀u,w.grownBy (w.setCell ⟨rb,3,U⟩ u) (Z rb):=fun u=>⟨rfl,rfl,rfl,by simp [World.setCell],fun k _ hne=>Below.heap_setCell _ _ _ _ (fun e=>hne (by rw [e]))⟩
  have HG:=qH hgrow;have hgr:g < rb:=hne g rfl;have tI:∀u,Txts (w.setCell ⟨rb,3,U⟩ u) (Z ⟨g,o+1,U⟩) k T:=fun u=>gE.keepBlk (hgrow u) (Nat.ne_of_lt hgr)
  have cw:=qH tI;have HS:=qH (fun u=>hk.set_ 3 u);by_cases hd1:d=1
  ·subst hd1;obtain rfl:k=0:=by omega
   obtain rfl:T=[]:=List.length_eq_zero_iff.1 ag.symm;clear ag hlen hcl hgrow tI hT gE;go_enter Tryz.func146,Tryz.ntmps146;go_wp2_with fail
   go_ret;exact ⟨rfl,⟨_,_,_,by simpa using HS.out _,Els.nil _ _,Nat.le_refl _,fun k hk=>by cases hk;exact hgr⟩,HG.out _⟩
  ·have rI:1 < d:=by omega
   clear ag hlen hcl hgrow tI hT gE;go_enter Tryz.func146,Tryz.ntmps146;go_wp2_with fail
   go_ret;exact ⟨rfl,⟨_,_,_,by simpa using HS.out _,cw.out _,by omega,fun k hk=>by cases hk;exact hgr⟩,HG.out _⟩
theorem zBu (w:World) (row:Option Nat):w.grownBy w row:=⟨rfl,rfl,rfl,Nat.le_refl _,fun _ _ _=>rfl⟩
def isB (T:List (List UInt8)) (S:List UInt8):Bool:=decide (T.head? = Z S)
def isT (T:List (List UInt8)) (S:List UInt8):List (List UInt8):=if T.head? = Z S then T.tail else T
theorem zJo (x:List UInt8) (T:List (List UInt8)):isB (x :: T) x=Q:=by simp [isB]
theorem zFU (x:List UInt8) (T:List (List UInt8)):isT (x :: T) x=T:=by simp [isT]
theorem zTq {x S:List UInt8} (T:List (List UInt8)) (h:x≠S):isB (x :: T) S=E:=by simp [isB,h]
theorem zWa {x S:List UInt8} (T:List (List UInt8)) (h:x≠S):isT (x :: T) S=x :: T:=by simp [isT,h]
set_option maxHeartbeats 1600000 in
theorem zPq (rb:Nat) (A:Option Addr) (n c:Nat) (re lo:Int) (T:List (List UInt8)) (bad lost:Bool) (S:List UInt8) (w:World) (h:Rd w rb A n c re lo T bad lost) :
  Calls Tryz.prog 148 #[.pointer (Z ⟨rb,0,U⟩),W (bA S)] w fun e w'=>e=.returned (G (isB T S))∧Rd w' rb A n c re lo (isT T S) bad lost∧w.grownBy w' (Z rb):=by
 obtain ⟨B,m,d,hk,hT,hmd,hne⟩:=h.ex;have hle:=hT.le;have c0:w.cell? ⟨rb,3,U⟩=Z (H B m d):=(hk.cell 3).trans rfl;have z3:=hk.frozen 3;have HH:=qH h;clear h
 cases T with
 | nil =>
  obtain rfl:0=m:=hT.len;clear hk hT hne;go_enter Tryz.func148,Tryz.ntmps148;go_wp2_with fail
  go_ret;exact ⟨rfl,HH.out,zBu _ _⟩
 | cons x T =>
  have hlen:T.length+1=m:=hT.len;obtain ⟨g,o,Cp,hgl,hcl⟩:=hT.2.2 (by omega);subst Cp;have hx:w.cell? ⟨g,o,U⟩=Z (W (bA x)):=hcl 0 x rfl 0 _ rfl;obtain ⟨k,ag⟩:∃k,k=T.length:=⟨_,rfl⟩
  obtain rfl:m=k+1:=by omega
  have gE:=Txts.from1 hT;by_cases hq:x=S
  ·have n0:((bA x).toList==(bA S).toList)=Q:=by rw [zCj];simpa using hq
   have hgrow:∀u,w.grownBy (w.setCell ⟨rb,3,U⟩ u) (Z rb):=fun u=>⟨rfl,rfl,rfl,by simp [World.setCell],fun k _ hne=>Below.heap_setCell _ _ _ _ (fun e=>hne (by rw [e]))⟩
   have HG:=qH hgrow;have hgr:g < rb:=hne g rfl;have tI:∀u,Txts (w.setCell ⟨rb,3,U⟩ u) (Z ⟨g,o+1,U⟩) k T:=fun u=>gE.keepBlk (hgrow u) (Nat.ne_of_lt hgr)
   have cw:=qH tI;have HS:=qH (fun u=>hk.set_ 3 u);have HE:=qH (show isB (x :: T) S=Q∧isT (x :: T) S=T by rw [←hq];exact ⟨zJo _ _,zFU _ _⟩);clear hq HH;by_cases hd1:d=1
   ·subst hd1;obtain rfl:k=0:=by omega
    obtain rfl:T=[]:=List.length_eq_zero_iff.1 ag.symm;clear ag hlen hcl hgrow tI hT gE;go_enter Tryz.func148,Tryz.ntmps148;go_wp2_with fail
    go_ret;exact ⟨zDL HE.out.1.symm,by rw [HE.out.2];exact ⟨_,_,_,by simpa using HS.out _,Els.nil _ _,Nat.le_refl _,fun k hk=>by cases hk;exact hgr⟩,HG.out _⟩
   ·have rI:1 < d:=by omega
    clear ag hlen hcl hgrow tI hT gE;go_enter Tryz.func148,Tryz.ntmps148;go_wp2_with fail
    go_ret;exact ⟨zDL HE.out.1.symm,by rw [HE.out.2];exact ⟨_,_,_,by simpa using HS.out _,cw.out _,by omega,fun k hk=>by cases hk;exact hgr⟩,HG.out _⟩
  ·have n0:((bA x).toList==(bA S).toList)=E:=by rw [zCj];simpa using hq
   have HE:=qH (show isB (x :: T) S=E∧isT (x :: T) S=x :: T from ⟨zTq _ hq,zWa _ hq⟩);clear hq hk hT gE hcl hlen ag hne;go_enter Tryz.func148,Tryz.ntmps148;go_wp2_with fail
   go_ret;exact ⟨zDL HE.out.1.symm,by rw [HE.out.2];exact HH.out,zBu _ _⟩
end Go.Proofs.YtlmdfmnbcndhoaaGreatDoor
