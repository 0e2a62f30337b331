/-
  Lemmas, part 42. Conditions: each theorem's own.
-/
import Derived.Test.YtlmdfmnbcndhoaaGreatDoorRq41
import Derived.Test.YtlmdfmnbcndhoaaGreatDoorRq40
import Derived.Test.YtlmdfmnbcndhoaaGreatDoorRq11
import Derived.Test.YtlmdfmnbcndhoaaGreatDoorRq39
import Derived.Test.YtlmdfmnbcndhoaaGreatDoorRq25
import Derived.Test.YtlmdfmnbcndhoaaGreatDoorRq26
import Derived.Test.YtlmdfmnbcndhoaaGreatDoorRq04
import Derived.Test.YtlmdfmnbcndhoaaGreatDoorRq35
import Derived.Test.YtlmdfmnbcndhoaaGreatDoorRq13
import Derived.Deep.DeepCutAuto
import Derived.Test.YtlmdfmnbcndhoaaGreatDoorRq02
import Derived.Test.YtlmdfmnbcndhoaaGreatDoorRq34
import Derived.Test.YtlmdfmnbcndhoaaGreatDoorRq33
import Derived.Test.YtlmdfmnbcndhoaaGreatDoorRq06
import Derived.Deep.RegionHeld3
import Derived.Deep.RegionLaw
import Derived.BigRegion
import Derived.Test.YtlmdfmnbcndhoaaGreatDoorRq05
import Derived.Test.YtlmdfmnbcndhoaaGreatDoorRq03
import Derived.Test.YtlmdfmnbcndhoaaGreatDoorRq01
open Go.Value renaming bool→G,int→D,slice→H,string→W
open Bool renaming false→E,true→Q
open Option renaming none→U,some→Z
open Go.IntKind renaming i64→J
namespace Go.Proofs.YtlmdfmnbcndhoaaGreatDoor
open Go.RowKit
theorem zFO {n:Nat} {b:Bool} (h:decide (n≤60)=b) (A:Option Addr) (c:Nat) (re lo:Int) (w:World) :
  Calls Tryz.prog 15 #[frV A n c re lo] w fun e w'=>e=.returned (G b)∧Below w.heap.size w w':=by
 subst h;exact zQR A n c re lo w
end Go.Proofs.YtlmdfmnbcndhoaaGreatDoor
namespace Go.Proofs.YtlmdfmnbcndhoaaGreatDoor
open Go.RowKit
theorem zVp (S:List UInt8):((bA S).toList==(bA S).toList)=Q:=beq_self_eq_true _
end Go.Proofs.YtlmdfmnbcndhoaaGreatDoor
namespace Go.Proofs.YtlmdfmnbcndhoaaGreatDoor
open Go.RowKit
theorem zOE (sep y:List UInt8):∀xs:List (List UInt8),Lib.join (xs++[y]) sep=if xs=[] then y else Lib.join xs sep++sep++y
 | []=>by simp [Lib.join_one]
 | x :: xs=>by
  rw [List.cons_append,Lib.join_cons,Lib.join_cons,if_neg (by simp)];simp [Lib.joinTail]
end Go.Proofs.YtlmdfmnbcndhoaaGreatDoor
namespace Go.Proofs.YtlmdfmnbcndhoaaGreatDoor
open Go.RowKit
def rkN (L:List Lt) (i:Nat):Int:=(la L (liN L i)).rank
def na (P:List Nat) (k:Nat):Nat:=(P[k]?).getD 0
theorem zNz {P:List Nat} {k:Nat} (h:k < P.length):P[k]? = Z (na P k):=by unfold na;rw [List.getElem?_eq_getElem h];rfl
def zJW (L:List Lt) (i:Nat):List Nat→List Nat
 | []=>[i]
 | a :: P=>if rkN L a < rkN L i then a :: zJW L i P else i :: a :: P
def zIl (L:List Lt) (g:Int) (m:Nat):Bool:=dnB L m&&(la L (riN L m)).gate==g
def zBh (L:List Lt) (g:Int):Nat→List Nat
 | 0=>[]
 | m+1=>if zIl L g m then zJW L m (zBh L g m) else zBh L g m
theorem zTH {L:List Lt} {i:Nat}:∀{P:List Nat} {k:Nat},k≤P.length→(∀j,j < k→rkN L (na P j) < rkN L i)→(k < P.length→¬rkN L (na P k) < rkN L i)→zJW L i P=P.take k++i :: P.drop k
 | [],k,hk,_,_=>by
  have:k=0:=by simpa using hk
  subst this;rfl
 | a :: P,0,_,_,h2=>by
  have:¬rkN L a < rkN L i:=h2 (by simp);rw [zJW,if_neg this];rfl
 | a :: P,k+1,hk,h1,h2=>by
  have:rkN L a < rkN L i:=h1 0 (by omega);rw [zJW,if_pos this,zTH (P:=P) (k:=k) (by simpa using hk) (fun j hj=>h1 (j+1) (by omega)) (fun h=>h2 (by simpa using h))];rfl
theorem zMv {L:List Lt} {i x:Nat}:∀{P:List Nat},x∈zJW L i P↔x=i∨x∈P
 | []=>by simp [zJW]
 | a :: P=>by
  unfold zJW;split
  ·rw [List.mem_cons,zMv,List.mem_cons];constructor
   ·rintro (h | h | h)
    ·exact .inr (.inl h)
    ·exact .inl h
    ·exact .inr (.inr h)
   ·rintro (h | h | h)
    ·exact .inr (.inl h)
    ·exact .inl h
    ·exact .inr (.inr h)
  ·rw [List.mem_cons]
theorem zMw {L:List Lt} {i:Nat}:∀{P:List Nat},(zJW L i P).length=P.length+1
 | []=>rfl
 | a :: P=>by
  unfold zJW;split
  ·rw [List.length_cons,zMw,List.length_cons]
  ·rfl
theorem zLb {L:List Lt} {i:Nat} (q:Nat→Bool):∀{P:List Nat},(zJW L i P).countP q=P.countP q+if q i then 1 else 0
 | []=>by unfold zJW;rw [List.countP_cons,List.countP_nil]
 | a :: P=>by
  unfold zJW;split
  ·rw [List.countP_cons,zLb q,List.countP_cons];omega
  ·rw [List.countP_cons]
theorem zNA {L:List Lt} {i:Nat}:∀{P:List Nat},P.Pairwise (fun a b=>rkN L a < rkN L b)→(∀a∈P,rkN L a≠rkN L i)→(zJW L i P).Pairwise (fun a b=>rkN L a < rkN L b)
 | [],_,_=>by simp [zJW]
 | a :: P,h,hne=>by
  obtain ⟨h1,h2⟩:=List.pairwise_cons.1 h;have ha:=hne a (List.mem_cons_self ..);unfold zJW;split
  ·rename_i hlt;refine List.pairwise_cons.2 ⟨fun b hb=>?_,zNA h2 fun b hb=>hne b (List.mem_cons_of_mem _ hb)⟩;rcases zMv.1 hb with rfl | hb
   ·exact hlt
   ·exact h1 b hb
  ·rename_i hlt;refine List.pairwise_cons.2 ⟨fun b hb=>?_,h⟩;rcases List.mem_cons.1 hb with rfl | hb
   ·omega
   ·have:=h1 b hb;omega
theorem zDz {L:List Lt} {g:Int} {x:Nat}:∀{m:Nat},x∈zBh L g m↔x < m∧zIl L g x=Q
 | 0=>by simp [zBh]
 | m+1=>by
  unfold zBh;split
  ·rename_i h;rw [zMv,zDz];constructor
   ·rintro (rfl | ⟨h1,h2⟩)
    ·exact ⟨by omega,h⟩
    ·exact ⟨by omega,h2⟩
   ·rintro ⟨h1,h2⟩;by_cases e:x=m
    ·exact .inl e
    ·exact .inr ⟨by omega,h2⟩
  ·rename_i h;rw [zDz];constructor
   ·rintro ⟨h1,h2⟩;exact ⟨by omega,h2⟩
   ·rintro ⟨h1,h2⟩;have:x≠m:=fun e=>h (by rw [←e];exact h2)
    exact ⟨by omega,h2⟩
theorem zMx {L:List Lt} {g:Int}:∀m:Nat,(zBh L g m).length≤m
 | 0=>by simp [zBh]
 | m+1=>by
  have ih:=zMx (L:=L) (g:=g) m;unfold zBh;split
  ·rw [zMw];omega
  ·omega
theorem zLc {L:List Lt} {g:Int} (q:Nat→Bool):∀m:Nat,(zBh L g m).countP q=zAc (fun a=>zIl L g a&&q a) m
 | 0=>rfl
 | m+1=>by
  have ih:=zLc (L:=L) (g:=g) q m;have hb:zAc (fun a=>zIl L g a&&q a) (m+1)=zAc (fun a=>zIl L g a&&q a) m+(if (zIl L g m&&q m) then 1 else 0):=by
   cases hr:(zIl L g m&&q m) with
   | true=>rw [zAm hr];rfl
   | false=>rw [zAi hr];rfl
  unfold zBh;rw [hb]
  cases h:zIl L g m with
  | true=>rw [if_pos rfl,zLb,ih,Bool.true_and]
  | false=>rw [if_neg (by simp),ih];rfl
section
variable {K:Int} {L:List Lt} {F:List Fg} {re lo:Int}
theorem zDA {g:Int} {a:Nat}:zIl L g a=Q↔dnB L a=Q∧(la L (riN L a)).gate=g:=by unfold zIl;rw [Bool.and_eq_true,beq_iff_eq]
theorem PosP.rk_ne (p:PosP K L) {g:Int} {a b:Nat} (ha:zIl L g a=Q) (hb:zIl L g b=Q) (hab:a≠b):rkN L a≠rkN L b:=by
 obtain ⟨a1,a2⟩:=zDA.1 ha;obtain ⟨b1,b2⟩:=zDA.1 hb;obtain ⟨g1,g2,g3⟩:=p.gates a1;obtain ⟨k1,k2,k3⟩:=p.gates b1;exact p.rank_ne g2 k2 (fun e=>hab (p.li_inj a1 b1 _ _ (.inl rfl) (.inl rfl) e)) (by omega)
theorem PosP.own_sort (p:PosP K L) (g:Int):∀m:Nat,(zBh L g m).Pairwise (fun a b=>rkN L a < rkN L b)
 | 0=>by simp [zBh]
 | m+1=>by
  unfold zBh;split
  ·rename_i h;exact zNA (p.own_sort g m) fun a ha=>by
    obtain ⟨h1,h2⟩:=zDz.1 ha;exact p.rk_ne h2 h (by omega)
  ·exact p.own_sort g m
theorem zIU:∀{P:List Nat} {k i:Nat},P.Pairwise (fun a b=>rkN L a < rkN L b)→P[k]? = Z i→P.countP (fun a=>decide (rkN L a≤rkN L i))=k+1
 | [],k,i,_,h=>by simp at h
 | a :: P,0,i,h,h0=>by
  obtain ⟨h1,h2⟩:=List.pairwise_cons.1 h;simp only [List.getElem?_cons_zero,Option.some.injEq] at h0;subst h0;rw [List.countP_cons,if_pos (by simp)];have:P.countP (fun b=>decide (rkN L b≤rkN L a))=0:=by
   rw [List.countP_eq_zero];intro b hb;have:=h1 b hb;simp;omega
  omega
 | a :: P,k+1,i,h,h0=>by
  obtain ⟨h1,h2⟩:=List.pairwise_cons.1 h;simp only [List.getElem?_cons_succ] at h0;have:=h1 i (List.mem_of_getElem? h0);rw [List.countP_cons,if_pos (by simp;omega),zIU h2 h0]
theorem PosP.own_nu (p:PosP K L) {g:Int} {k i:Nat} (h:(zBh L g L.length)[k]? = Z i):nuN L i=k+1:=by
 have hm:=zDz.1 (List.mem_of_getElem? h);obtain ⟨h1,h2⟩:=zDA.1 hm.2;rw [←zIU (p.own_sort g L.length) h,zLc];unfold nuN;refine zCf fun a _=>?_
 unfold zIl rkN;rw [h2,Bool.and_assoc]
structure Lq where
 f:Int
 nu:Int
 l:Int
 r:Int
def lqZ:Lq:=⟨0,0,0,0⟩
def zEi (L:List Lt) (f:Int) (nu:Int) (i:Nat):Lq:=⟨f,nu,(liN L i:Int),(riN L i:Int)⟩
def zFa (L:List Lt) (f:Int) (P:List Nat) (i:Nat):List Lq:=(List.range P.length).map fun k:Nat=>zEi L f (if k < i then (k:Int)+1 else 0) (na P k)
def zOP (L:List Lt) (f:Int) (P:List Nat):List Lq:=(List.range P.length).map fun k:Nat=>zEi L f ((k:Int)+1) (na P k)
def zFd (L:List Lt) (m:Nat):List Lq:=(List.range m).flatMap fun g:Nat=>zOP L ((g:Int)+1) (zBh L ((g:Int)+1) L.length)
theorem zLd (L:List Lt) (m:Nat):zFd L (m+1)=zFd L m++zOP L ((m:Int)+1) (zBh L ((m:Int)+1) L.length):=by simp [zFd,List.range_succ]
theorem zOF (L:List Lt) (f:Int) (P:List Nat):zFa L f P 0=P.map (zEi L f 0):=by
 unfold zFa;refine List.ext_getElem? fun k=>?_
 rw [List.getElem?_map,List.getElem?_map];by_cases h:k < P.length
 ·rw [List.getElem?_range h,zNz h];rfl
 ·rw [List.getElem?_eq_none (by simpa using h),List.getElem?_eq_none (by simpa using h)];rfl
theorem zHn (L:List Lt) (f:Int) {P:List Nat} {i k:Nat} (h:k < P.length):(zFa L f P i)[k]? = Z (zEi L f (if k < i then (k:Int)+1 else 0) (na P k)):=by
 unfold zFa;rw [List.getElem?_map,List.getElem?_range h];rfl
theorem zQV (L:List Lt) (f:Int) {P:List Nat} {i:Nat} (h:i < P.length):(zFa L f P i).set i (zEi L f ((i:Int)+1) (na P i))=zFa L f P (i+1):=by
 refine List.ext_getElem? fun k=>?_
 rw [List.getElem?_set];have hl:(zFa L f P i).length=P.length:=by simp [zFa]
 by_cases hk:k < P.length
 ·rw [zHn L f hk,zHn L f hk];by_cases e:i=k
  ·subst e;rw [if_pos rfl,if_pos (by omega),if_pos (by omega)]
  ·rw [if_neg e];by_cases h2:k < i
   ·rw [if_pos h2,if_pos (by omega)]
   ·rw [if_neg h2,if_neg (by omega)]
 ·rw [if_neg (by omega),List.getElem?_eq_none (by omega),List.getElem?_eq_none (by simp [zFa];omega)]
theorem zQW (L:List Lt) (f:Int) {P:List Nat} {i:Nat} (h:i < P.length):(zOP L f P).take (i+1)=(zOP L f P).take i++[zEi L f ((i:Int)+1) (na P i)]:=by
 rw [List.take_add_one]
 congr 1
 unfold zOP;rw [List.getElem?_map,List.getElem?_range h];rfl
theorem zJX (L:List Lt) (f:Int) (P:List Nat):(zOP L f P).length=P.length:=by simp [zOP]
def zKd (n:Nat) (x:Lq):Int:=if n=2 then 0 else if (x.l+1) % (n:Int)=x.r then x.l else x.r
def zTI (F:List Fg) (x:Lq) (i:Nat):List UInt8:=nmF F x.f++[46]++Lib.itoa x.nu++[if x.l=(i:Int) then 62 else 60]
def zGU (F:List Fg) (n i:Nat) (b:List UInt8) (P:List Lq):List UInt8:=P.foldl (fun t x=>if zKd n x=(i:Int) then zTI F x i else t) b
theorem zQX (F:List Fg) (n i:Nat) (b:List UInt8) (P:List Lq) (x:Lq):zGU F n i b (P++[x])=if zKd n x=(i:Int) then zTI F x i else zGU F n i b P:=by
 unfold zGU;rw [List.foldl_append];rfl
theorem PosP.fst (p:PosP K L) {f nu:Int} {i:Nat} (h:dnB L i=Q):zKd L.length (zEi L f nu i)=(i:Int):=by
 have hu:=(p.up h).1;unfold zKd zEi;simp only;by_cases h2:L.length=2
 ·rw [if_pos h2];omega
 ·rw [if_neg h2];unfold liN riN;split
  ·rw [if_neg];intro e;by_cases h3:i+2 < L.length
   ·rw [Int.emod_eq_of_lt (by omega) (by omega)] at e;omega
   ·rw [show (((i+1:Nat):Int)+1)=(L.length:Int) by omega,Int.emod_self] at e;omega
  ·rw [if_pos];rw [Int.emod_eq_of_lt (by omega) (by omega)];omega
theorem zNB {n i:Nat} {b:List UInt8}:∀{P:List Lq},(∀x∈P,zKd n x≠(i:Int))→zGU F n i b P=b
 | [],_=>rfl
 | x :: P,h=>by
  have h1:=h x (List.mem_cons_self ..);unfold zGU;rw [List.foldl_cons,if_neg h1];exact zNB fun y hy=>h y (List.mem_cons_of_mem _ hy)
theorem zVq {n i:Nat} {b T:List UInt8}:∀{P:List Lq},(∃x∈P,zKd n x=(i:Int))→(∀x∈P,zKd n x=(i:Int)→zTI F x i=T)→zGU F n i b P=T:=by
 intro P
 induction P generalizing b with
 | nil=>rintro ⟨x,hx,_⟩;simp at hx
 | cons x P ih =>
  rintro ⟨y,hy,he⟩ h;by_cases hp:∃x∈P,zKd n x=(i:Int)
  ·unfold zGU;rw [List.foldl_cons];exact ih hp fun z hz=>h z (List.mem_cons_of_mem _ hz)
  ·have hx:zKd n x=(i:Int):=by
    rcases List.mem_cons.1 hy with rfl | hy
    ·exact he
    ·exact absurd ⟨y,hy,he⟩ hp
   unfold zGU;rw [List.foldl_cons,if_pos hx,h x (List.mem_cons_self ..) hx];exact zNB fun z hz e=>hp ⟨z,hz,e⟩
theorem zQY {m:Nat} {x:Lq} (h:x∈zFd L m):∃(g k i:Nat),g < m∧(zBh L ((g:Int)+1) L.length)[k]? = Z i∧x=zEi L ((g:Int)+1) ((k:Int)+1) i:=by
 unfold zFd at h;obtain ⟨g,hg,hx⟩:=List.mem_flatMap.1 h;unfold zOP at hx;obtain ⟨k,hk,rfl⟩:=List.mem_map.1 hx;exact ⟨g,k,_,List.mem_range.1 hg,zNz (List.mem_range.1 hk),rfl⟩
theorem zWX {m g k i:Nat} (hg:g < m) (h:(zBh L ((g:Int)+1) L.length)[k]? = Z i):zEi L ((g:Int)+1) ((k:Int)+1) i∈zFd L m:=by
 refine List.mem_flatMap.2 ⟨g,List.mem_range.2 hg,List.mem_map.2 ⟨k,List.mem_range.2 (List.getElem?_eq_some_iff.1 h).1,?_⟩⟩;unfold na;rw [h];rfl
def zMy (L:List Lt) (i:Nat):List UInt8:=if isC (la L i) then zUP (la L i) else []
theorem PosP.item (p:PosP K L) {m:Nat} (hK:K=(m:Int)) {i:Nat} (hi:i < L.length) :
  zGx F L i=if zGU F L.length i (zMy L i) (zFd L m)=[] then [] else [zGU F L.length i (zMy L i) (zFd L m)]:=by
 have hno:∀(a:Nat),(∃x∈zFd L m,zKd L.length x=(a:Int))→dnB L a=Q:=by
  rintro a ⟨x,hx,he⟩;obtain ⟨g,k,j,hg,hj,rfl⟩:=zQY hx;obtain ⟨h1,h2⟩:=zDA.1 (zDz.1 (List.mem_of_getElem? hj)).2;rw [p.fst h1] at he;have:j=a:=by omega
  rw [←this];exact h1
 rcases p.kind hi with ⟨h1,h2⟩ | ⟨h1,h2⟩ | ⟨h1,h2,h3⟩
 ·have hd:¬dnB L i=Q:=fun e=>by have:=(zCP.1 e).1;rw [h2] at this;cases this
  have e:zGU F L.length i (zMy L i) (zFd L m)=zUP (la L i):=by
   rw [zNB fun x hx e=>hd (hno i ⟨x,hx,e⟩)];unfold zMy;rw [if_pos h1]
  rw [e,p.seq_items hi,zWJ h1,if_neg (by unfold zUP;simp)];rfl
 ·obtain ⟨g1,g2⟩:=p.gate0 h2;obtain ⟨q1,q2,q3⟩:=p.gates h2;obtain ⟨g,hg⟩:∃g:Nat,(la L (liN L i)).gate=(g:Int):=⟨(la L (liN L i)).gate.toNat,by omega⟩
  have hmem:i∈zBh L ((g:Int)+1) L.length:=zDz.2 ⟨hi,zDA.2 ⟨h2,by omega⟩⟩;obtain ⟨k,hk⟩:=List.getElem?_of_mem hmem;have hnu:=p.own_nu hk;have e:zGU F L.length i (zMy L i) (zFd L m)=zTI F (zEi L ((g:Int)+1) ((k:Int)+1) i) i:=by
   refine zVq ⟨_,zWX (by omega) hk,p.fst h2⟩ fun x hx he=>?_
   obtain ⟨g',k',j,hg',hj,rfl⟩:=zQY hx;obtain ⟨d1,d2⟩:=zDA.1 (zDz.1 (List.mem_of_getElem? hj)).2;rw [p.fst d1] at he;obtain rfl:j=i:=by omega
   have e1:(g':Int)=(g:Int):=by omega
   have e2:=p.own_nu hj;have e3:k'=k:=by omega
   rw [e1,e3]
  have ht:zTI F (zEi L ((g:Int)+1) ((k:Int)+1) i) i=itW ⟨Z (fa F (la L (liN L i)).gate.toNat),(nuN L i:Int),!decide ((la L (i+1)).gate < (la L i).gate)⟩:=by
   unfold zTI zEi itW nmF;simp only;rw [hnu,hg,show ((g:Int)+1-1).toNat=(g:Int).toNat by congr 1;omega,show (((k+1:Nat)):Int)=(k:Int)+1 by omega];have hl:((liN L i:Int)=(i:Int))↔¬(la L (i+1)).gate < (la L i).gate:=by unfold liN;split<;>rename_i h<;>simp [h]<;>omega
   by_cases hh:(la L (i+1)).gate < (la L i).gate
   ·rw [if_neg (fun e=>hl.1 e hh)];simp [hh]
   ·rw [if_pos (hl.2 hh)];simp [hh]
  rw [e,ht,p.seq_items hi,zVg h2,if_neg (by unfold itW;simp)];rfl
 ·have hd:¬dnB L i=Q:=fun e=>by have:=(zCP.1 e).2;rw [h3] at this;cases this
  have e:zGU F L.length i (zMy L i) (zFd L m)=[]:=by
   rw [zNB fun x hx e=>hd (hno i ⟨x,hx,e⟩)];unfold zMy;rw [if_neg (by rw [h1];simp)]
  rw [e,p.seq_items hi,zWK h1 h3,if_pos rfl];rfl
def zMz (F:List Fg) (L:List Lt) (m:Nat):List UInt8:=Lib.join (zDH F L m) [32]
theorem PosP.seq_pos (p:PosP K L) {m:Nat} (h:0 < m) (hm:m≤L.length):zDH F L m≠[]:=by
 have h0:dnB L 0=Q:=zCP.2 ⟨p.good.first,by unfold dwn pN zAc;rfl⟩;intro e;have:∀x,x ∉ zDH F L m:=fun x hx=>by rw [e] at hx;simp at hx
 have hs:=p.seq_items (F:=F) (i:=0) (by omega);rw [zVg h0] at hs;refine this (itW ⟨Z (fa F (la L (liN L 0)).gate.toNat),(nuN L 0:Int),!decide ((la L (0+1)).gate < (la L 0).gate)⟩) (List.mem_flatMap.2 ⟨0,List.mem_range.2 h,?_⟩);rw [hs];exact List.mem_cons_self ..
theorem PosP.out_succ (p:PosP K L) {m:Nat} (hK:K=(m:Int)) {i:Nat} (hi:i < L.length) :
  zMz F L (i+1)=if zGU F L.length i (zMy L i) (zFd L m)=[] then zMz F L i else zMz F L i++(if 0 < i then [32] else [])++zGU F L.length i (zMy L i) (zFd L m):=by
 unfold zMz;rw [zDj,p.item hK hi];by_cases h:zGU F L.length i (zMy L i) (zFd L m)=[]
 ·rw [if_pos h,if_pos h,List.append_nil]
 ·rw [if_neg h,if_neg h,zOE];by_cases h0:0 < i
  ·rw [if_neg (p.seq_pos h0 (by omega)),if_pos h0]
  ·have:i=0:=by omega
   subst this;rw [if_pos (by rfl)];simp [zDH,Lib.join_nil]
end
end Go.Proofs.YtlmdfmnbcndhoaaGreatDoor
namespace Go.Proofs.YtlmdfmnbcndhoaaGreatDoor
open Go.RowKit
theorem zEj {B:Nat} {a b:World} {o:Obj} (hB:B≤b.heap.size) (h:Below B a b):Below B a (b.alloc o):=h.alloc hB o
theorem zQZ {A:Option Addr} {n c:Nat} {F:List Fg} {re lo K:Int} {B:Option Addr} {m d:Nat} {L:List Lt} {ZT:Int} {S:List UInt8} (hE:zBr F re lo K L=ZT) (hS:sqS F re lo K L=S) (w:World) (hA:Fgs w A n F) (hc:n≤c) (hB:Lets w B m L) (ht:Tabs w) :
  Calls Tryz.prog 33 #[frV A n c re lo,.agg #[D J K,H B m d]] w fun e w'=>e=.returned (.tuple #[W (bA S),D J ZT])∧Below w.heap.size w w':=by
 subst hE;subst hS;exact zEF A n c F re lo K B m d L w hA hc hB ht
end Go.Proofs.YtlmdfmnbcndhoaaGreatDoor
namespace Go.Proofs.YtlmdfmnbcndhoaaGreatDoor
def lsB (a b:Lt):Bool :=
 if a.kind≠b.kind then decide (a.kind < b.kind) else if a.gate≠b.gate then decide (a.gate < b.gate) else if a.rank≠b.rank then decide (a.rank < b.rank)
 else if a.id≠b.id then decide (a.id < b.id) else if a.over≠b.over then b.over else decide (a.sign < b.sign)
def bfB:List Lt→List Lt→Bool
 | a :: A,b :: B=>if a=b then bfB A B else lsB a b
 | _,_=>E
def pick (best:List Lt) (y:List Lt):List Lt:=if bfB y best then y else best
end Go.Proofs.YtlmdfmnbcndhoaaGreatDoor
namespace Go.Proofs.YtlmdfmnbcndhoaaGreatDoor
open Go.RowKit
theorem zBl (b o f:Nat) (h:f < 6) (w:World):(Instr.fieldAt 76 (.pointer (Z ⟨b,o,U⟩)) f).run Tryz.prog w=.ok (.pointer (Z ⟨b,o+f,U⟩)) w:=by
 rcases (show f=0∨f=1∨f=2∨f=3∨f=4∨f=5 by omega) with rfl | rfl | rfl | rfl | rfl | rfl<;>go_simp
theorem zRa (b o f:Nat) (h:f < 2) (w:World):(Instr.fieldAt 55 (.pointer (Z ⟨b,o,U⟩)) f).run Tryz.prog w=.ok (.pointer (Z ⟨b,o+f,U⟩)) w:=by
 rcases (show f=0∨f=1 by omega) with rfl | rfl<;>go_simp
theorem zBg {p:Addr} {v:Int} {w:World} (h:w.cell? p=Z (D J v)):(Instr.loadAt 3 (.pointer (Z p))).run Tryz.prog w=.ok (D J v) w:=by go_simp
theorem zFb {p:Addr} {v:Int} {w:World} (h:w.cell? p=Z (D J v)):(Instr.loadAt 74 (.pointer (Z p))).run Tryz.prog w=.ok (D J v) w:=by go_simp
theorem zIj {p:Addr} {v:Bool} {w:World} (h:w.cell? p=Z (G v)):(Instr.loadAt 4 (.pointer (Z p))).run Tryz.prog w=.ok (G v) w:=by go_simp
theorem zJY {b o:Nat} {K:Int} {A:Option Addr} {n c:Nat} {w:World} (h0:w.cell? ⟨b,o,U⟩=Z (D J K)) (h1:w.cell? ⟨b,o+1,U⟩=Z (H A n c)):(Instr.loadAt 55 (.pointer (Z ⟨b,o,U⟩))).run Tryz.prog w=.ok (.agg #[D J K,H A n c]) w:=by go_simp
section
variable {x y:Operand} {w:World} {X Y:Int} {b:Bool} {t:TypeId}
theorem zEG (h:(X != Y)=b):(do eqGuard .neq 3 x y (D J X) (D J Y);binOp .neq 3 (D J X) (D J Y):Sem Value).run Tryz.prog w=.ok (G b) w:=by subst h;go_simp
theorem zIV (h:(X==Y)=b):(do eqGuard .eql 3 x y (D J X) (D J Y);binOp .eql 3 (D J X) (D J Y):Sem Value).run Tryz.prog w=.ok (G b) w:=by subst h;go_simp
theorem zMA (h:(X==Y)=b):(do eqGuard .eql 74 x y (D J X) (D J Y);binOp .eql 74 (D J X) (D J Y):Sem Value).run Tryz.prog w=.ok (G b) w:=by subst h;go_simp
theorem zRb {X Y:Bool} (h:(X != Y)=b):(do eqGuard .neq 4 x y (G X) (G Y);binOp .neq 4 (G X) (G Y):Sem Value).run Tryz.prog w=.ok (G b) w:=by subst h;go_simp;cases X<;>cases Y<;>rfl
theorem zRc (h:decide (X < Y)=b):(do eqGuard .lss 3 x y (D J X) (D J Y);binOp .lss 3 (D J X) (D J Y):Sem Value).run Tryz.prog w=.ok (G b) w:=by subst h;go_simp
theorem zRd (h:decide (Y < X)=b):(do eqGuard .gtr 3 x y (D J X) (D J Y);binOp .gtr 3 (D J X) (D J Y):Sem Value).run Tryz.prog w=.ok (G b) w:=by subst h;go_simp
theorem zVr (n:Nat) (h:n≤1000000):(do eqGuard .quo 3 x y (D J (n:Int)) (D J 2);binOp .quo 3 (D J (n:Int)) (D J 2):Sem Value).run Tryz.prog w=.ok (D J ((n / 2:Nat):Int)) w:=by
 have v2:IntKind.i64.wrap ((n:Int) / 2)=(n:Int) / 2:=IntWalk.i64_in _ (by omega);go_simp
end
theorem zXW (vs:Array Value) (w:World):(callFunc 169 vs).run Tryz.prog w=.ok (.enter 169 vs) w:=by go_simp
theorem zRe (vs:Array Value) (w:World):(callFunc 132 vs).run Tryz.prog w=.ok (.enter 132 vs) w:=by go_simp
theorem zSY (vs:Array Value) (w:World):(callFunc 170 vs).run Tryz.prog w=.ok (.enter 170 vs) w:=by go_simp
end Go.Proofs.YtlmdfmnbcndhoaaGreatDoor
