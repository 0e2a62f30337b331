/-
  Lemmas for NotesLong, part 41: contracts and plain facts. Conditions: those that each theorem names.
-/
import Derived.Test.YtlmdfmnbcndhoaaGreatDoorLg33
import Derived.Test.YtlmdfmnbcndhoaaGreatDoorLg12
import Derived.Test.YtlmdfmnbcndhoaaGreatDoorLg35
import Derived.Test.YtlmdfmnbcndhoaaGreatDoorLg38
namespace Go.Proofs.YtlmdfmnbcndhoaaGreatDoor
open Go.RowKit
theorem zQp {p q p' q':Nat→Bool}:∀{n:Nat},(∀i,i < n→(p i=p' i∧q i=q' i)∨(p i=q' i∧q i=p' i))→zAc p n+zAc q n=zAc p' n+zAc q' n
 | 0,_=>rfl
 | n+1,h=>by
  have ih:=zQp (n:=n) (fun i hi=>h i (by omega));have hb:∀(r:Nat→Bool),zAc r (n+1)=zAc r n+(if r n then 1 else 0):=fun r=>by
   cases hr:r n with
   | true=>rw [zAm hr];rfl
   | false=>rw [zAi hr];rfl
  rw [hb p,hb q,hb p',hb q'];rcases h n (by omega) with ⟨e1,e2⟩ | ⟨e1,e2⟩<;>rw [e1,e2]<;>omega
def dnB (L:List Lt) (i:Nat):Bool:=isP (la L i)&&dwn L i
def liN (L:List Lt) (i:Nat):Nat:=if (la L (i+1)).gate < (la L i).gate then i+1 else i
def riN (L:List Lt) (i:Nat):Nat:=if (la L (i+1)).gate < (la L i).gate then i else i+1
structure PosP (K:Int) (L:List Lt):Prop where
 good:Good K L
 flat:zFX L=true
 arcs:zVM L
 near:∀i,dnB L i=true→(la L (i+1)).gate-(la L i).gate=1∨(la L i).gate-(la L (i+1)).gate=1
section
variable {K:Int} {L:List Lt}
theorem zCo {i:Nat}:dnB L i=true↔isP (la L i)=true∧dwn L i=true:=by unfold dnB;rw [Bool.and_eq_true]
theorem PosP.up (p:PosP K L) {i:Nat} (h:dnB L i=true):i+1 < L.length∧isP (la L (i+1))=true∧dwn L (i+1)=false:=by
 obtain ⟨h1,h2⟩:=zCo.1 h;obtain ⟨h3,h4⟩:=p.arcs i (zBi h1) h1 h2;exact ⟨h3,h4,by rw [zOt h1,h2];rfl⟩
theorem PosP.up_iff (p:PosP K L) {i:Nat} (hi:i+1 < L.length):(isP (la L (i+1))&&!dwn L (i+1))=dnB L i:=by
 cases h:dnB L i with
 | true=>obtain ⟨_,h2,h3⟩:=p.up h;rw [h2,h3];rfl
 | false =>
  cases h2:isP (la L (i+1)) with
  | false=>rfl
  | true =>
   cases h3:dwn L (i+1) with
   | true=>rfl
   | false =>
    obtain ⟨h4,h5⟩:=p.good.below p.arcs i (by omega) h3;rw [zCo.2 ⟨h4,h5⟩] at h;cases h
theorem PosP.ups (p:PosP K L) (q:Nat→Bool):∀m,m+1≤L.length→zAc (fun j=>(isP (la L j)&&!dwn L j)&&q j) (m+1)=zAc (fun i=>dnB L i&&q (i+1)) m
 | 0,_=>by
  have h0:dwn L 0=true:=by unfold dwn pN zAc;rfl
  exact zAi (by rw [h0];simp)
 | m+1,hm=>by
  have ih:=p.ups q m (by omega);have he:=p.up_iff (i:=m) (by omega);have hb:∀(r:Nat→Bool) (n:Nat),zAc r (n+1)=zAc r n+(if r n then 1 else 0):=fun r n=>by
   cases hr:r n with
   | true=>rw [zAm hr];rfl
   | false=>rw [zAi hr];rfl
  rw [hb _ (m+1),ih,hb _ m,he]
theorem PosP.ends (p:PosP K L) (q:Nat→Bool):zAc (fun j=>isP (la L j)&&q j) L.length=zAc (fun i=>dnB L i&&q (liN L i)) L.length+zAc (fun i=>dnB L i&&q (riN L i)) L.length:=by
 have hpos:0 < L.length:=p.good.pos;obtain ⟨n,hn⟩:∃n,L.length=n+1:=⟨L.length-1,by omega⟩
 have h1:zAc (fun j=>isP (la L j)&&q j) L.length=zAc (fun j=>dnB L j&&q j) L.length+zAc (fun j=>(isP (la L j)&&!dwn L j)&&q j) L.length:=by
  refine zHg (fun j _=>?_) (fun j _ h=>?_)
  ·unfold dnB
   cases isP (la L j)<;>cases dwn L j<;>cases q j<;>rfl
  ·unfold dnB at h
   revert h
   cases isP (la L j)<;>cases dwn L j<;>cases q j<;>simp
 have h2:zAc (fun j=>(isP (la L j)&&!dwn L j)&&q j) L.length=zAc (fun i=>dnB L i&&q (i+1)) L.length:=by
  have hl:(dnB L n&&q (n+1))=false:=by
   cases h:dnB L n with
   | false=>rfl
   | true=>have:=(p.up h).1;omega
  rw [hn,p.ups q n (by omega),zAi (p:=fun i=>dnB L i&&q (i+1)) hl]
 rw [h1,h2];refine zQp fun i _=>?_
 unfold liN riN;split
 ·right;exact ⟨rfl,rfl⟩
 ·left;exact ⟨rfl,rfl⟩
theorem zUv (i:Nat):zBL L i=la L (liN L i):=by unfold zBL liN;split<;>rfl
theorem zUw (i:Nat):zUh L i=(la L (riN L i)).gate:=by
 unfold zUh riN;by_cases h:(la L (i+1)).gate < (la L i).gate
 ·rw [if_pos h,if_neg (by omega)]
 ·rw [if_neg h,if_pos (by omega)]
theorem PosP.gates (p:PosP K L) {i:Nat} (h:dnB L i=true):(la L (riN L i)).gate=(la L (liN L i)).gate+1∧isP (la L (liN L i))=true∧isP (la L (riN L i))=true:=by
 have h1:=p.near i h;have h2:=(p.up h).2.1;have h3:=(zCo.1 h).1;unfold liN riN;split
 ·exact ⟨by omega,h2,h3⟩
 ·exact ⟨by omega,h3,h2⟩
theorem PosP.li_inj (p:PosP K L) {a b:Nat} (ha:dnB L a=true) (hb:dnB L b=true) (x y:Nat) (hx:x=liN L a∨x=riN L a) (hy:y=liN L b∨y=riN L b) (e:x=y):a=b:=by
 have h1:=(p.up ha).2.2;have h2:=(p.up hb).2.2;have h3:=(zCo.1 ha).2;have h4:=(zCo.1 hb).2;have hxa:x=a∨x=a+1:=by
  unfold liN riN at hx;split at hx<;>rcases hx with h | h<;>simp [h]
 have hyb:y=b∨y=b+1:=by
  unfold liN riN at hy;split at hy<;>rcases hy with h | h<;>simp [h]
 subst e;rcases hxa with rfl | rfl<;>rcases hyb with h | h
 ·exact h
 ·rw [h,h2] at h3;cases h3
 ·rw [←h,h1] at h4;cases h4
 ·omega
theorem PosP.before (p:PosP K L) {x y:Nat} (hx:isP (la L x)=true) (hy:isP (la L y)=true) (h:(la L x).gate < (la L y).gate∨(la L x).gate=(la L y).gate∧(la L x).rank < (la L y).rank):atN L x < atN L y:=by
 have g:=p.good;have hg:∀i,i < L.length→isP (la L i)=true→0≤(la L i).gate:=fun i hi hp=>(g.gates i hi hp).1
 rw [←zGd hg g.ranks (zBi hx) hx,←zGd hg g.ranks (zBi hy) hy]
 have:=zOw (p:=fun j=>isP (la L j)&&zEJ (la L j) (la L x)) (q:=fun j=>isP (la L j)&&zEJ (la L j) (la L y)) (n:=L.length) (i:=x) (fun m _ hm=>by
  simp only [Bool.and_eq_true,zCO] at hm ⊢
  exact ⟨hm.1,by omega⟩) (zBi hx) (by simp only [Bool.and_eq_true,zCO];exact ⟨hx,h⟩) (by
  cases hh:(isP (la L x)&&zEJ (la L x) (la L x)) with
  | false=>rfl
  | true=>simp only [Bool.and_eq_true,zCO] at hh;omega)
 omega
theorem PosP.rank_ne (p:PosP K L) {x y:Nat} (hx:isP (la L x)=true) (hy:isP (la L y)=true) (hne:x≠y) (hg:(la L x).gate=(la L y).gate):(la L x).rank≠(la L y).rank:=by
 rcases Nat.lt_or_ge x y with h | h
 ·exact (zBq.1 (p.good.ranks y (zBi hy)) hy).2 x h hx hg
 ·exact fun e=>(zBq.1 (p.good.ranks x (zBi hx)) hx).2 y (by omega) hy hg.symm e.symm
theorem PosP.cross (p:PosP K L) {a b:Nat} (ha:dnB L a=true) (hb:dnB L b=true) (hab:a≠b):¬(atN L (liN L a) < atN L (liN L b)∧atN L (liN L b) < atN L (riN L a)∧atN L (riN L a) < atN L (riN L b)):=by
 obtain ⟨a1,a2⟩:=zCo.1 ha;obtain ⟨b1,b2⟩:=zCo.1 hb;refine p.good.arcs p.flat p.arcs a1 a2 b1 b2 hab ?_ ?_
 ·unfold liN riN;split
  ·right;exact ⟨rfl,rfl⟩
  ·left;exact ⟨rfl,rfl⟩
 ·unfold liN riN;split
  ·right;exact ⟨rfl,rfl⟩
  ·left;exact ⟨rfl,rfl⟩
theorem PosP.beside (p:PosP K L) {a b:Nat} (ha:dnB L a=true) (hb:dnB L b=true) (h:(la L (riN L a)).gate=(la L (liN L b)).gate):(la L (riN L a)).rank < (la L (liN L b)).rank:=by
 obtain ⟨g1,g2,g3⟩:=p.gates ha;obtain ⟨k1,k2,k3⟩:=p.gates hb;have hne:a≠b:=fun e=>by subst e;omega
 have hd:riN L a≠liN L b:=fun e=>hne (p.li_inj ha hb _ _ (.inr rfl) (.inl rfl) e)
 have hr:=p.rank_ne g3 k2 hd h;rcases Int.lt_or_gt_of_ne hr with h1 | h1
 ·exact h1
 ·exact absurd ⟨p.before g2 k2 (by omega),p.before k2 g3 (by omega),p.before g3 k3 (by omega)⟩ (p.cross ha hb hne)
theorem PosP.nested (p:PosP K L) {a b:Nat} (ha:dnB L a=true) (hb:dnB L b=true) (h:(la L (riN L a)).gate=(la L (riN L b)).gate) (hlt:(la L (liN L a)).rank < (la L (liN L b)).rank):(la L (riN L b)).rank < (la L (riN L a)).rank:=by
 obtain ⟨g1,g2,g3⟩:=p.gates ha;obtain ⟨k1,k2,k3⟩:=p.gates hb;have hne:a≠b:=fun e=>by subst e;omega
 have hd:riN L a≠riN L b:=fun e=>hne (p.li_inj ha hb _ _ (.inr rfl) (.inr rfl) e)
 have hr:=p.rank_ne g3 k3 hd h;rcases Int.lt_or_gt_of_ne hr with h1 | h1
 ·exact absurd ⟨p.before g2 k2 (by omega),p.before k2 g3 (by omega),p.before g3 k3 (by omega)⟩ (p.cross ha hb hne)
 ·exact h1
theorem PosP.nested_iff (p:PosP K L) {a b:Nat} (ha:dnB L a=true) (hb:dnB L b=true) (h:(la L (riN L a)).gate=(la L (riN L b)).gate):(la L (riN L b)).rank≤(la L (riN L a)).rank↔(la L (liN L a)).rank≤(la L (liN L b)).rank:=by
 obtain ⟨g1,g2,g3⟩:=p.gates ha;obtain ⟨k1,k2,k3⟩:=p.gates hb;by_cases hab:a=b
 ·subst hab;omega
 ·have hd:liN L a≠liN L b:=fun e=>hab (p.li_inj ha hb _ _ (.inl rfl) (.inl rfl) e)
  have hr:=p.rank_ne g2 k2 hd (by omega);rcases Int.lt_or_gt_of_ne hr with h1 | h1
  ·have:=p.nested ha hb h h1;omega
  ·have:=p.nested hb ha h.symm h1;omega
theorem PosP.rank_count (p:PosP K L) {x:Nat} (hx:isP (la L x)=true):(la L x).rank=(zAc (fun j=>isP (la L j)&&((la L j).gate==(la L x).gate&&decide ((la L j).rank≤(la L x).rank))) L.length:Int):=by
 have g:=p.good;have hr:=zBq.1 (g.ranks x (zBi hx)) hx;have hb:∀m,m < L.length→(isP (la L m)&&(la L m).gate==(la L x).gate)=true→1≤(la L m).rank∧(la L m).rank≤(zAc (fun m=>isP (la L m)&&(la L m).gate==(la L x).gate) L.length:Int):=fun m hm hp=>by
  simp only [Bool.and_eq_true,beq_iff_eq] at hp;have:=(zBq.1 (g.ranks m hm) hp.1).1;rw [hp.2] at this;exact this
 have hd:∀i j,i < L.length→j < L.length→(isP (la L i)&&(la L i).gate==(la L x).gate)=true→(isP (la L j)&&(la L j).gate==(la L x).gate)=true→(la L i).rank=(la L j).rank→i=j:=fun i j hi hj hp hq e=>by
  simp only [Bool.and_eq_true,beq_iff_eq] at hp hq;by_cases h:i=j
  ·exact h
  ·exact absurd e (p.rank_ne hp.1 hq.1 h (hp.2.trans hq.2.symm))
 have hlow:=zSF hb hd (la L x).rank.toNat (by have:=hr.1;unfold gN at this;omega);rw [zBT (q:=fun m=>(isP (la L m)&&(la L m).gate==(la L x).gate)&&decide ((la L m).rank≤(((la L x).rank.toNat:Nat):Int)))]
 ·rw [hlow];have:=hr.1;omega
 ·intro m _;rw [Bool.and_assoc]
  congr 2
  have:=hr.1;rw [show (((la L x).rank.toNat:Nat):Int)=(la L x).rank by omega]
def nuN (L:List Lt) (i:Nat):Nat:=zAc (fun a=>dnB L a&&((la L (riN L a)).gate==(la L (riN L i)).gate&&decide ((la L (liN L a)).rank≤(la L (liN L i)).rank))) L.length
theorem zNi (g:Int):lpC L g L.length=zAc (fun a=>dnB L a&&(la L (riN L a)).gate==g) L.length:=by
 unfold lpC;refine zBT fun a _=>?_
 rw [zUw];rfl
theorem PosP.left_rank (p:PosP K L) {i:Nat} (h:dnB L i=true):(la L (liN L i)).rank=(lpC L (la L (liN L i)).gate L.length:Int)+(nuN L i:Int):=by
 obtain ⟨g1,g2,g3⟩:=p.gates h;rw [p.rank_count g2,p.ends];have e1:zAc (fun a=>dnB L a&&((la L (liN L a)).gate==(la L (liN L i)).gate&&decide ((la L (liN L a)).rank≤(la L (liN L i)).rank))) L.length=nuN L i:=by
  unfold nuN;refine zBT fun a _=>?_
  cases ha:dnB L a with
  | false=>rfl
  | true =>
   have:=(p.gates ha).1;have e:((la L (liN L a)).gate==(la L (liN L i)).gate)=((la L (riN L a)).gate==(la L (riN L i)).gate):=by rw [this,g1,Bool.eq_iff_iff];simp
   rw [e]
 have e2:zAc (fun a=>dnB L a&&((la L (riN L a)).gate==(la L (liN L i)).gate&&decide ((la L (riN L a)).rank≤(la L (liN L i)).rank))) L.length=lpC L (la L (liN L i)).gate L.length:=by
  rw [zNi];refine zBT fun a _=>?_
  cases ha:dnB L a with
  | false=>rfl
  | true =>
   cases he:((la L (riN L a)).gate==(la L (liN L i)).gate) with
   | false=>rfl
   | true =>
    have:=p.beside ha h (by simpa using he);simp;omega
 rw [e1,e2];omega
theorem PosP.right_rank (p:PosP K L) {i:Nat} (h:dnB L i=true):(la L (riN L i)).rank=(lpC L (la L (riN L i)).gate L.length:Int)-(nuN L i:Int)+1:=by
 obtain ⟨g1,g2,g3⟩:=p.gates h;have e1:zAc (fun a=>dnB L a&&((la L (liN L a)).gate==(la L (riN L i)).gate&&decide ((la L (liN L a)).rank≤(la L (riN L i)).rank))) L.length=0:=by
  refine zHe fun a _=>?_
  cases ha:dnB L a with
  | false=>rfl
  | true =>
   cases he:((la L (liN L a)).gate==(la L (riN L i)).gate) with
   | false=>rfl
   | true =>
    have he:(la L (liN L a)).gate=(la L (riN L i)).gate:=by simpa using he
    have:=p.beside h ha he.symm;simp;omega
 have e2:lpC L (la L (riN L i)).gate L.length+1=zAc (fun a=>dnB L a&&((la L (riN L a)).gate==(la L (riN L i)).gate&&decide ((la L (riN L a)).rank≤(la L (riN L i)).rank))) L.length+nuN L i:=by
  have s1:lpC L (la L (riN L i)).gate L.length=zAc (fun a=>dnB L a&&((la L (riN L a)).gate==(la L (riN L i)).gate&&decide ((la L (riN L a)).rank≤(la L (riN L i)).rank))) L.length+zAc (fun a=>(dnB L a&&((la L (riN L a)).gate==(la L (riN L i)).gate&&decide ((la L (liN L a)).rank≤(la L (liN L i)).rank)))&&a != i) L.length:=by
   rw [zNi];refine zHg (fun a _=>?_) (fun a _ hh=>?_)
   ·cases ha:dnB L a with
    | false=>rfl
    | true =>
     cases he:((la L (riN L a)).gate==(la L (riN L i)).gate) with
     | false=>rfl
     | true =>
      have he:(la L (riN L a)).gate=(la L (riN L i)).gate:=by simpa using he
      have k:=p.nested_iff h ha he.symm;by_cases hai:a=i
      ·subst hai;simp
      ·by_cases hr:(la L (riN L a)).rank≤(la L (riN L i)).rank
       ·simp [hr]
       ·have:¬(la L (liN L i)).rank≤(la L (liN L a)).rank:=fun e=>hr (k.2 e)
        simp [hai];omega
   ·simp only [Bool.and_eq_true,beq_iff_eq,decide_eq_true_eq,bne_iff_ne] at hh;obtain ⟨⟨ha,he,hr⟩,⟨_,_,hl⟩,hai⟩:=hh;have k:=(p.nested_iff h ha he.symm).1 hr;obtain ⟨a1,a2,a3⟩:=p.gates ha;have hd:liN L a≠liN L i:=fun e=>hai (p.li_inj ha h _ _ (.inl rfl) (.inl rfl) e)
    exact p.rank_ne a2 g2 hd (by omega) (by omega)
  have s2:nuN L i=zAc (fun a=>(dnB L a&&((la L (riN L a)).gate==(la L (riN L i)).gate&&decide ((la L (liN L a)).rank≤(la L (liN L i)).rank)))&&a != i) L.length+zAc (fun a=>a==i) L.length:=by
   unfold nuN;refine zHg (fun a _=>?_) (fun a _ hh=>?_)
   ·by_cases hai:a=i
    ·subst hai;simp [h]
    ·have e:(a != i)=true:=by simpa using hai
     have e2:(a==i)=false:=by simpa using hai
     rw [e,e2];simp
   ·simp at hh;exact hh.1.2 hh.2
  have s3:zAc (fun a=>a==i) L.length=1:=zHf (i:=i) (zBi (zCo.1 h).1) (by simp) (fun m _ e=>by simpa using e);omega
 rw [p.rank_count g3,p.ends,e1];omega
theorem PosP.nu (_:PosP K L) {i:Nat} (h:dnB L i=true):1≤nuN L i∧nuN L i≤lpC L (la L (riN L i)).gate L.length:=by
 refine ⟨zIv (i:=i) (zBi (zCo.1 h).1) (by simp [h]),?_⟩;unfold nuN;rw [zNi];refine zMo fun a _ ha=>?_
 simp only [Bool.and_eq_true] at ha ⊢;exact ⟨ha.1,ha.2.1⟩
end
def unS (l:Lt):Lt:={ l with sign:=0 }
def biA (L:List Lt) (i:Nat):List Bi :=
 if isC (la L i) then [⟨0,(la L i).id,(la L i).over⟩] else if dwn L i then [⟨(la L (liN L i)).gate+1,(nuN L i:Int),!decide ((la L (i+1)).gate < (la L i).gate)⟩] else []
def biT (L:List Lt) (m:Nat):List Bi:=(List.range m).flatMap (biA L)
def itA (F:List Fg) (L:List Lt) (i:Nat):List It :=
 if isC (la L i) then [⟨none,(la L i).id,(la L i).over⟩] else if dwn L i then [⟨some (fa F (la L (liN L i)).gate.toNat),(nuN L i:Int),!decide ((la L (i+1)).gate < (la L i).gate)⟩] else []
def itT (F:List Fg) (L:List Lt) (m:Nat):List It:=(List.range m).flatMap (itA F L)
theorem zNj (L:List Lt) (m:Nat):biT L (m+1)=biT L m++biA L m:=by simp [biT,List.range_succ]
section
variable {K:Int} {L:List Lt} {F:List Fg} {re lo:Int}
theorem PosP.kind (p:PosP K L) {i:Nat} (hi:i < L.length):(isC (la L i)=true∧isP (la L i)=false)∨(isC (la L i)=false∧dnB L i=true)∨(isC (la L i)=false∧isP (la L i)=true∧dwn L i=false):=by
 rcases p.good.kinds i hi with h | h
 ·have hc:=zCq h
  cases hd:dwn L i with
  | true=>exact .inr (.inl ⟨hc,zCo.2 ⟨h,hd⟩⟩)
  | false=>exact .inr (.inr ⟨hc,h,rfl⟩)
 ·exact .inl ⟨h,zLW h⟩
theorem zSo {i:Nat} (h:isC (la L i)=true):biA L i=[⟨0,(la L i).id,(la L i).over⟩]:=by unfold biA;rw [if_pos h]
theorem zSp {i:Nat} (h:dnB L i=true):biA L i=[⟨(la L (liN L i)).gate+1,(nuN L i:Int),!decide ((la L (i+1)).gate < (la L i).gate)⟩]:=by
 obtain ⟨h1,h2⟩:=zCo.1 h;unfold biA;rw [if_neg (by rw [zCq h1];simp),if_pos h2]
theorem zSq {i:Nat} (h1:isC (la L i)=false) (h2:dwn L i=false):biA L i=[]:=by unfold biA;rw [if_neg (by rw [h1];simp),if_neg (by rw [h2];simp)]
theorem zNk (q:Bi→Bool) (m:Nat):(biT L m).countP q=zAc (fun i=>(biA L i).any q) m:=by
 induction m with
 | zero=>rfl
 | succ m ih =>
  rw [zNj,List.countP_append,ih];have h1:(biA L m).countP q=if (biA L m).any q then 1 else 0:=by
   unfold biA;split
   ·simp [List.countP_cons]
   split
   ·simp [List.countP_cons]
   ·rfl
  rw [h1]
  cases h:(biA L m).any q with
  | true=>rw [zAm h];rfl
  | false=>rw [zAi h];rfl
theorem PosP.gate0 (p:PosP K L) {i:Nat} (h:dnB L i=true):0≤(la L (liN L i)).gate∧(la L (liN L i)).gate+1≤K:=by
 obtain ⟨g1,g2,g3⟩:=p.gates h;have:=p.good.gates _ (zBi g2) g2;have:=p.good.gates _ (zBi g3) g3;omega
theorem PosP.visN (p:PosP K L):visN (biT L L.length)=cN L L.length:=by
 unfold Go.Proofs.YtlmdfmnbcndhoaaGreatDoor.visN cN;rw [zNk];refine zBT fun i hi=>?_
 rcases p.kind hi with ⟨h1,_⟩ | ⟨h1,h2⟩ | ⟨h1,_,h3⟩
 ·rw [zSo h1,h1];rfl
 ·have:=p.gate0 h2;rw [zSp h2,h1];simp;omega
 ·rw [zSq h1 h3,h1];rfl
theorem PosP.cntF (p:PosP K L) (g:Int):cntF (biT L L.length) g=lpC L g L.length:=by
 unfold Go.Proofs.YtlmdfmnbcndhoaaGreatDoor.cntF;rw [zNk,zNi];refine zBT fun i hi=>?_
 rcases p.kind hi with ⟨h1,h2⟩ | ⟨h1,h2⟩ | ⟨h1,h2,h3⟩
 ·rw [zSo h1];simp [dnB,h2]
 ·have:=p.gate0 h2;rw [zSp h2,h2,(p.gates h2).1];simp only [List.any_cons,List.any_nil,Bool.or_false,Bool.true_and];rw [show decide (0 < (la L (liN L i)).gate+1)=true by simp;omega,Bool.true_and]
 ·rw [zSq h1 h3];simp [dnB,h3]
theorem PosP.many (p:PosP K L) {k:Nat} {g:Int} (h0:0≤g) (hk:g < (k:Int)+2):ia (zBS k (biT L L.length)) g=(lpC L g L.length:Int):=by
 unfold ia;rw [zFa k _ (f:=g.toNat) (by omega),Option.getD_some,show ((g.toNat:Nat):Int)=g by omega,p.cntF]
theorem zJR {l:Lt} (h:lpB K l=true) (hp:isP l=true):unS l=⟨1,l.gate,l.rank,0,0,false⟩∧l.sign=0:=by
 unfold isP at hp;have hk:l.kind=1:=by simpa using hp
 unfold lpB at h;rw [if_pos hk] at h;have:=of_decide_eq_true h;obtain ⟨kind,gate,rank,id,sign,over⟩:=l;simp only at this hk;obtain ⟨_,_,rfl,rfl,rfl⟩:=this;subst hk;exact ⟨rfl,rfl⟩
theorem zKT {l:Lt} (h:lpB K l=true) (hc:isC l=true):unS l=⟨2,0,0,l.id,0,l.over⟩∧(l.sign=1∨l.sign = -1):=by
 unfold isC at hc;have hk:l.kind=2:=by simpa using hc
 unfold lpB at h;rw [if_neg (by omega),if_pos hk] at h;have:=of_decide_eq_true h;obtain ⟨kind,gate,rank,id,sign,over⟩:=l;simp only at this hk;obtain ⟨rfl,rfl,hs⟩:=this;subst hk;exact ⟨rfl,hs⟩
theorem PosP.bits_d (p:PosP K L) (hl:∀i,i < L.length→lpB K (la L i)=true) {k:Nat} (hk:K=(k:Int)) {i:Nat} (h:dnB L i=true) :
  (biA L i).flatMap (zGK (zBS k (biT L L.length)))=[unS (la L i),unS (la L (i+1))]:=by
 obtain ⟨g1,g2,g3⟩:=p.gates h;have g0:=p.gate0 h;have hl1:=(zJR (hl _ (zBi g2)) g2).1;have hl2:=(zJR (hl _ (zBi g3)) g3).1;have r1:=p.left_rank h;have r2:=p.right_rank h;have m1:=p.many (k:=k) (g:=(la L (liN L i)).gate) (by omega) (by omega);have m2:=p.many (k:=k) (g:=(la L (riN L i)).gate) (by omega) (by omega);rw [zSp h];simp only [List.flatMap_cons,List.flatMap_nil,List.append_nil];unfold zGK;simp only;rw [if_neg (by omega),show (la L (liN L i)).gate+1-1=(la L (liN L i)).gate by omega,m1,←g1,m2,←r1,←r2,←hl1,←hl2];unfold liN riN;by_cases hg:(la L (i+1)).gate < (la L i).gate
 ·simp [hg]
 ·simp [hg]
theorem PosP.bits_c (_p:PosP K L) (hl:∀i,i < L.length→lpB K (la L i)=true) (M:List Int) {i:Nat} (hi:i < L.length) (h:isC (la L i)=true):(biA L i).flatMap (zGK M)=[unS (la L i)]:=by
 rw [zSo h,(zKT (hl i hi) h).1];simp [zGK]
theorem zJS {i:Nat} (hi:i < L.length):L.take (i+1)=L.take i++[la L i]:=by
 rw [List.take_add_one,show L[i]? = some (la L i) by unfold la;rw [List.getElem?_eq_getElem hi];rfl];rfl
theorem PosP.build_to (p:PosP K L) (hl:∀i,i < L.length→lpB K (la L i)=true) {k:Nat} (hk:K=(k:Int)):∀m,m≤L.length →
  zAO (zBS k (biT L L.length)) (biT L m)=(L.take (if dwn L m then m else m+1)).map unS
 | 0,_=>by
  have h0:dwn L 0=true:=by unfold dwn pN zAc;rfl
  rw [if_pos h0];rfl
 | m+1,hm=>by
  have ih:=p.build_to hl hk m (by omega);have hs:zAO (zBS k (biT L L.length)) (biT L (m+1))=zAO (zBS k (biT L L.length)) (biT L m)++(biA L m).flatMap (zGK (zBS k (biT L L.length))):=by
   unfold zAO;rw [zNj,List.flatMap_append]
  rw [hs,ih];have hi:m < L.length:=by omega
  rcases p.kind hi with ⟨h1,h2⟩ | ⟨h1,h2⟩ | ⟨h1,h2,h3⟩
  ·rw [zUK h2,p.bits_c hl _ hi h1];have hd:dwn L m=true:=by
    cases hd:dwn L m with
    | true=>rfl
    | false =>
     cases m with
     | zero=>have h0:dwn L 0=true:=by unfold dwn pN zAc;rfl
             rw [h0] at hd;cases hd
     | succ m =>
      obtain ⟨h4,h5⟩:=p.good.below p.arcs m (by omega) hd;have:=(p.up (zCo.2 ⟨h4,h5⟩)).2.1;rw [h2] at this;cases this
   rw [hd,if_pos rfl,if_pos rfl,zJS hi];simp
  ·obtain ⟨d1,d2⟩:=zCo.1 h2;obtain ⟨u1,u2,u3⟩:=p.up h2;rw [d2,u3,if_pos rfl,if_neg (by simp),p.bits_d hl hk h2,zJS u1,zJS hi];simp
  ·rw [zSq h1 h3,h3,zOt h2,h3,if_neg (by simp)];simp
theorem PosP.build (p:PosP K L) (hl:∀i,i < L.length→lpB K (la L i)=true) {k:Nat} (hk:K=(k:Int)):zAO (zBS k (biT L L.length)) (biT L L.length)=L.map unS:=by
 rw [p.build_to hl hk _ (Nat.le_refl _),if_pos (by unfold dwn;rw [p.good.even];rfl),List.take_length]
theorem mem_biA {i:Nat} {x:Bi} (h:x∈biA L i):(isC (la L i)=true∧x=⟨0,(la L i).id,(la L i).over⟩)∨(isC (la L i)=false∧dwn L i=true∧x=⟨(la L (liN L i)).gate+1,(nuN L i:Int),!decide ((la L (i+1)).gate < (la L i).gate)⟩):=by
 unfold biA at h;split at h
 ·rename_i e;exact .inl ⟨e,by simpa using h⟩
 rename_i e0;split at h
 ·rename_i e;exact .inr ⟨by simpa using e0,e,by simpa using h⟩
 ·simp at h
theorem PosP.mem_biA (p:PosP K L) {i:Nat} (hi:i < L.length) {x:Bi} (h:x∈biA L i):(isC (la L i)=true∧x=⟨0,(la L i).id,(la L i).over⟩)∨(dnB L i=true∧x=⟨(la L (liN L i)).gate+1,(nuN L i:Int),!decide ((la L (i+1)).gate < (la L i).gate)⟩):=by
 rcases Go.Proofs.YtlmdfmnbcndhoaaGreatDoor.mem_biA h with h1 | ⟨h1,h2,h3⟩
 ·exact .inl h1
 ·rcases p.kind hi with ⟨k1,_⟩ | ⟨_,k2⟩ | ⟨_,_,k3⟩
  ·rw [h1] at k1;cases k1
  ·exact .inr ⟨k2,h3⟩
  ·rw [h2] at k3;cases k3
theorem PosP.keys (p:PosP K L):((biT L L.length).map zEY).Nodup:=by
 unfold biT;rw [List.map_flatMap];unfold List.Nodup;rw [List.pairwise_flatMap];constructor
 ·intro i _;unfold biA;split
  ·simp
  split
  ·simp
  ·simp
 ·refine List.Pairwise.imp_of_mem ?_ List.pairwise_lt_range;intro a b ha hb hab x hx y hy;have ha:=List.mem_range.1 ha;have hb:=List.mem_range.1 hb;obtain ⟨x0,hx0,rfl⟩:=List.mem_map.1 hx;obtain ⟨y0,hy0,rfl⟩:=List.mem_map.1 hy;intro e;rcases p.mem_biA ha hx0 with ⟨h1,rfl⟩ | ⟨h1,rfl⟩<;>rcases p.mem_biA hb hy0 with ⟨k1,rfl⟩ | ⟨k1,rfl⟩
  ·simp only [zEY,if_neg (show ¬(0:Int) < 0 by omega)] at e;injection e with e1 e2 e3
   exact (zCN p.good.cross ha hb h1 k1 e2 (by omega)).1 e3
  ·have:=p.gate0 k1;simp only [zEY,if_neg (show ¬(0:Int) < 0 by omega)] at e;rw [if_pos (by omega)] at e;injection e with e1 e2 e3
   omega
  ·have:=p.gate0 h1;simp only [zEY,if_neg (show ¬(0:Int) < 0 by omega)] at e;rw [if_pos (by omega)] at e;injection e with e1 e2 e3
   omega
  ·have g1:=p.gate0 h1;have g2:=p.gate0 k1;simp only [zEY] at e;rw [if_pos (by omega),if_pos (by omega)] at e;injection e with e1 e2 e3
   have hd:liN L a≠liN L b:=fun e=>absurd (p.li_inj h1 k1 _ _ (.inl rfl) (.inl rfl) e) (by omega)
   have hg:(la L (liN L a)).gate=(la L (liN L b)).gate:=by omega
   refine p.rank_ne (p.gates h1).2.1 (p.gates k1).2.1 hd hg ?_;rw [p.left_rank h1,p.left_rank k1,hg,e2]
theorem zUx {m:Nat} {x:Bi} (h:x∈biT L m):∃i,i < m∧x∈biA L i:=by
 obtain ⟨i,hi,hx⟩:=List.mem_flatMap.1 h;exact ⟨i,List.mem_range.1 hi,hx⟩
theorem PosP.comp (p:PosP K L):zEZ (biT L L.length)=true:=by
 refine zNa p.keys fun j hj=>?_
 have hm:ba (biT L L.length) j∈biT L L.length:=List.mem_of_getElem? (zKJ hj);obtain ⟨i,hi,hx⟩:=zUx hm;unfold zIq;rw [p.visN,p.cntF];rcases p.mem_biA hi hx with ⟨h1,e⟩ | ⟨h1,e⟩
 ·rw [e];have h2:=(zBn.1 (p.good.cross i hi) h1).1;have h3:=p.good.ceven;simp;omega
 ·rw [e];have h2:=p.nu h1;have h3:=p.gate0 h1;rw [←(p.gates h1).1];have h4:=(p.gates h1).1;simp;omega
end
section
variable {K:Int} {L:List Lt} {F:List Fg} {re lo:Int}
theorem zQq {m:Nat} {x:It} (h:x∈itT F L m):∃i,i < m∧x∈itA F L i:=by
 obtain ⟨i,hi,hx⟩:=List.mem_flatMap.1 h;exact ⟨i,List.mem_range.1 hi,hx⟩
theorem zSr {i:Nat} (h:isC (la L i)=true):itA F L i=[⟨none,(la L i).id,(la L i).over⟩]:=by unfold itA;rw [if_pos h]
theorem zQr {i:Nat} (h:dnB L i=true):itA F L i=[⟨some (fa F (la L (liN L i)).gate.toNat),(nuN L i:Int),!decide ((la L (i+1)).gate < (la L i).gate)⟩]:=by
 obtain ⟨h1,h2⟩:=zCo.1 h;unfold itA;rw [if_neg (by rw [zCq h1];simp),if_pos h2]
theorem zSs {i:Nat} (h1:isC (la L i)=false) (h2:dwn L i=false):itA F L i=[]:=by unfold itA;rw [if_neg (by rw [h1];simp),if_neg (by rw [h2];simp)]
theorem PosP.seq_items (p:PosP K L) {i:Nat} (hi:i < L.length):zGs F L i=(itA F L i).map itW:=by
 unfold zGs;rcases p.kind hi with ⟨h1,h2⟩ | ⟨h1,h2⟩ | ⟨h1,h2,h3⟩
 ·rw [if_pos h1,zSr h1];rfl
 ·have g0:=p.gate0 h2;rw [if_neg (by rw [h1];simp),if_pos (zCo.1 h2).2,zQr h2];simp only [List.map_cons,List.map_nil];have h3:=p.left_rank h2;unfold zKK itW nmF zRN;rw [zUv,h3];simp only;rw [show ((lpC L (la L (liN L i)).gate L.length:Int)+(nuN L i:Int)-(lpC L (la L (liN L i)).gate L.length:Int))=(nuN L i:Int) by omega,show ((la L (liN L i)).gate+1-1).toNat=(la L (liN L i)).gate.toNat by omega];by_cases hg:(la L (i+1)).gate < (la L i).gate<;>simp [hg]
 ·rw [if_neg (by rw [h1];simp),if_neg (by rw [h3];simp),zSs h1 h3];rfl
theorem PosP.seq_map (p:PosP K L):zFb F L L.length=(itT F L L.length).map itW:=by
 unfold zFb itT;rw [List.map_flatMap];have:∀m,m≤L.length→(List.range m).flatMap (zGs F L)=(List.range m).flatMap (fun i=>(itA F L i).map itW):=by
  intro m
  induction m with
  | zero=>intro _;rfl
  | succ m ih =>
   intro hm;rw [List.range_succ,List.flatMap_append,List.flatMap_append,ih (by omega)];simp only [List.flatMap_cons,List.flatMap_nil,List.append_nil];rw [p.seq_items (by omega)]
 exact this _ (Nat.le_refl _)
theorem PosP.ids (p:PosP K L) {i:Nat} (hi:i < L.length) (h:isC (la L i)=true):1≤(la L i).id∧(la L i).id≤((cN L L.length / 2:Nat):Int):=(zBn.1 (p.good.cross i hi) h).1
theorem PosP.nu_le (p:PosP K L) {i:Nat} (h:dnB L i=true):nuN L i≤L.length:=Nat.le_trans (p.nu h).2 (zMU _ _ _)
theorem PosP.it_ok (p:PosP K L) (hf:frOk F re lo) (hK:K=(F.length:Int)) (hn:L.length≤400) {t:It} (ht:t∈itT F L L.length):okI t∧zKN F t=false:=by
 obtain ⟨i,hi,hx⟩:=zQq ht;rcases p.kind hi with ⟨h1,h2⟩ | ⟨h1,h2⟩ | ⟨h1,h2,h3⟩
 ·rw [zSr h1] at hx;obtain rfl:=List.mem_singleton.1 hx;have:=p.ids hi h1;have:=zHi L L.length;exact ⟨⟨by simp,by simp only;omega,by simp only;omega⟩,rfl⟩
 ·rw [zQr h2] at hx;obtain rfl:=List.mem_singleton.1 hx;have g0:=p.gate0 h2;have h4:=p.nu h2;have h5:=p.nu_le h2;refine ⟨⟨fun f hf2=>?_,by simp only;omega,by simp only;omega⟩,?_⟩
  ·simp only [Option.some.injEq] at hf2;subst hf2;exact hf.there (by omega)
  ·unfold zKN zBA;simp only;have:=hf.idx (f:=(la L (liN L i)).gate+1) (by omega) (by omega);rw [show ((la L (liN L i)).gate+1-1).toNat=(la L (liN L i)).gate.toNat by omega] at this;rw [this];simp;omega
 ·rw [zSs h1 h3] at hx;simp at hx
theorem PosP.it_bi (p:PosP K L) (hf:frOk F re lo) (hK:K=(F.length:Int)):(itT F L L.length).map (btI F)=biT L L.length:=by
 unfold itT biT;rw [List.map_flatMap];have:∀m,m≤L.length→(List.range m).flatMap (fun i=>(itA F L i).map (btI F))=(List.range m).flatMap (biA L):=by
  intro m
  induction m with
  | zero=>intro _;rfl
  | succ m ih =>
   intro hm;rw [List.range_succ,List.flatMap_append,List.flatMap_append,ih (by omega)];simp only [List.flatMap_cons,List.flatMap_nil,List.append_nil]
   congr 1
   rcases p.kind (i:=m) (by omega) with ⟨h1,h2⟩ | ⟨h1,h2⟩ | ⟨h1,h2,h3⟩
   ·rw [zSr h1,zSo h1];rfl
   ·rw [zQr h2,zSp h2];have g0:=p.gate0 h2;have:=hf.idx (f:=(la L (liN L m)).gate+1) (by omega) (by omega);rw [show ((la L (liN L m)).gate+1-1).toNat=(la L (liN L m)).gate.toNat by omega] at this;simp only [List.map_cons,List.map_nil,btI];rw [this,if_neg (by omega),show ((((la L (liN L m)).gate+1).toNat:Nat):Int)=(la L (liN L m)).gate+1 by omega]
   ·rw [zSs h1 h3,zSq h1 h3];rfl
 exact this _ (Nat.le_refl _)
theorem PosP.it_first (p:PosP K L):∃t T,itT F L L.length=t :: T∧t.fg.isNone=false:=by
 obtain ⟨n,hn⟩:∃n,L.length=n+1:=⟨L.length-1,by have:=p.good.pos;omega⟩
 have h0:dnB L 0=true:=zCo.2 ⟨p.good.first,by unfold dwn pN zAc;rfl⟩;refine ⟨⟨some (fa F (la L (liN L 0)).gate.toNat),(nuN L 0:Int),!decide ((la L (0+1)).gate < (la L 0).gate)⟩,(List.range' 1 n).flatMap (itA F L),?_,rfl⟩;unfold itT;rw [hn,List.range_eq_range',List.range'_succ,List.flatMap_cons,zQr h0];rfl
theorem zOi {f:Fg} (h:zAx f=true):(zAq f).length≤3:=by
 obtain ⟨h1,h2,h3,h4⟩:=zAP.1 h;unfold zAq;rw [zBN (x:=f.d) h3 (by omega),zBN (x:=f.p) (by omega) (by omega)];split<;>simp
theorem zIR {n:Int} (h0:0≤n) (h1:n≤400):(Lib.itoa n).length≤3:=by
 unfold Lib.itoa;rw [if_neg (by omega)];exact zLF 2 (by omega)
theorem PosP.len (p:PosP K L) (hf:frOk F re lo) (hK:K=(F.length:Int)) (hn:L.length≤400):(zGL F L).length≤4000:=by
 unfold zGL;rw [if_neg (by have:=p.good.pos;omega),p.seq_map];have hl:∀x∈(itT F L L.length).map itW,x.length≤8:=fun x hx=>by
  obtain ⟨t,ht,rfl⟩:=List.mem_map.1 hx;obtain ⟨i,hi,hm⟩:=zQq ht;rcases p.kind hi with ⟨h1,h2⟩ | ⟨h1,h2⟩ | ⟨h1,h2,h3⟩
  ·rw [zSr h1] at hm;obtain rfl:=List.mem_singleton.1 hm;have h3:=p.ids hi h1;have h4:=zHi L L.length;have:=zIR (n:=(la L i).id) (by omega) (by omega);simp only [itW,List.length_append,List.length_singleton];omega
  ·rw [zQr h2] at hm;obtain rfl:=List.mem_singleton.1 hm;have g0:=p.gate0 h2;have h3:=p.nu_le h2;have h4:=zIR (n:=(nuN L i:Int)) (by omega) (by omega);have h5:=zOi (hf.there (i:=(la L (liN L i)).gate.toNat) (by omega));simp only [itW,List.length_append,List.length_cons,List.length_nil];omega
  ·rw [zSs h1 h3] at hm;simp at hm
 have h1:=zJg [32] (by simp) hl;have h2:((itT F L L.length).map itW).length≤L.length:=by
  rw [List.length_map];unfold itT;have:∀m,((List.range m).flatMap (itA F L)).length≤m:=by
   intro m
   induction m with
   | zero=>simp
   | succ m ih =>
    rw [List.range_succ,List.flatMap_append,List.length_append]
    have:(itA F L m).length≤1:=by unfold itA;split;· simp
                                  split;· simp
                                  ·simp
    simp only [List.flatMap_cons,List.flatMap_nil,List.append_nil];omega
  exact this _
 have h3:((itT F L L.length).map itW).length*(8+1)≤400*9:=Nat.mul_le_mul (by omega) (by omega);omega
theorem PosP.split (p:PosP K L):zBo 32 (zGL F L)=(itT F L L.length).map itW:=by
 obtain ⟨t,T,h1,_⟩:=p.it_first (F:=F);unfold zGL;rw [if_neg (by have:=p.good.pos;omega),p.seq_map];exact zIP (by rw [h1];simp)
theorem PosP.items (p:PosP K L) (hf:frOk F re lo) (hK:K=(F.length:Int)) (hn:L.length≤400) :
  zEg F (zGL F L)=biT L L.length∧zEA (zBo 32 (zGL F L))=false∧zFJ F (zBo 32 (zGL F L))=false:=by
 obtain ⟨h1,h2,h3⟩:=zMc F (T:=itT F L L.length) (fun t ht=>(p.it_ok hf hK hn ht).1);rw [p.split];refine ⟨?_,?_,?_⟩
 ·unfold zEg;rw [p.split,h1,p.it_bi hf hK]
 ·rw [h3];obtain ⟨t,T,h4,h5⟩:=p.it_first (F:=F);rw [h4];exact h5
 ·rw [h2,List.any_eq_false];intro t ht;rw [(p.it_ok hf hK hn ht).2];simp
theorem PosP.not_bare (p:PosP K L):zGL F L≠zGt:=fun e=>by
 have h:=p.split (F:=F);rw [e] at h;have h1:zBo 32 zGt=[zGt]:=zFr (by decide);rw [h1] at h;obtain ⟨t,T,h4,h5⟩:=p.it_first (F:=F);rw [h4,List.map_cons] at h;injection h with h _
 obtain ⟨fg,n,b⟩:=t
 cases fg with
 | none=>cases h5
 | some f =>
  have:=congrArg List.getLast? h;simp only [itW] at this;rw [List.getLast?_concat] at this
  cases b<;>simp [zGt] at this
theorem PosP.read (p:PosP K L) (hf:frOk F re lo) (hK:K=(F.length:Int)) (hn:L.length≤400) (hl:∀i,i < L.length→lpB K (la L i)=true) :
  zBI F (zGL F L)=L.map unS∧crS F (zGL F L)=cN L L.length / 2∧zEZ (zEg F (zGL F L))=true:=by
 obtain ⟨h1,_,_⟩:=p.items hf hK hn;unfold zBI crS;rw [h1,p.build hl hK,p.visN,p.comp];exact ⟨rfl,rfl,rfl⟩
theorem zVE {cr nu:Nat} {l:Lt} (h:lpB K l=true) (hk:isP l=true∨isC l=true):sgL cr nu (unS l)=sgL cr nu l:=by
 rcases hk with hk | hk
 ·obtain ⟨h1,h2⟩:=zJR h hk;have:unS l=l:=by cases l;simp only [unS] at *;simp_all
  rw [this]
 ·unfold sgL;rw [if_pos hk,if_pos (show isC (unS l)=true from hk)];rfl
theorem zQs {cr nu:Nat} (hl:∀i,i < L.length→lpB K (la L i)=true) (hk:∀i,i < L.length→isP (la L i)=true∨isC (la L i)=true):zBt cr nu (L.map unS)=zBt cr nu L:=by
 unfold zBt;rw [List.map_map];refine List.map_congr_left fun l hm=>?_
 obtain ⟨i,hi,he⟩:=List.getElem_of_mem hm;have e:la L i=l:=by unfold la;rw [List.getElem?_eq_getElem hi];simpa using he
 subst e;exact zVE (hl i hi) (hk i hi)
theorem zNl (s:Nat→Bool):∀cr:Nat,∃nu,nu < 2 ^ cr∧∀d,1≤d→d≤cr→((nu >>> (cr-d)) % 2=1↔s d=true)
 | 0=>⟨0,by simp,fun d h1 h2=>by omega⟩
 | cr+1=>by
  obtain ⟨nu,h1,h2⟩:=zNl s cr;refine ⟨2*nu+(if s (cr+1) then 1 else 0),?_,fun d h3 h4=>?_⟩
  ·rw [Nat.pow_succ];split<;>omega
  ·by_cases hd:d=cr+1
   ·subst hd;rw [Nat.sub_self,Nat.shiftRight_zero]
    cases hs:s (cr+1) with
    | true=>simp<;>omega
    | false=>simp
   ·have h5:=h2 d h3 (by omega);rw [show cr+1-d=(cr-d)+1 by omega,Nat.add_comm (cr-d) 1,Nat.shiftRight_add,show (2*nu+(if s (cr+1) then 1 else 0)) >>> 1=(2*nu+(if s (cr+1) then 1 else 0)) / 2 from rfl];rw [show (2*nu+(if s (cr+1) then 1 else 0)) / 2=nu by split<;>omega];exact h5
theorem PosP.signs (p:PosP K L) (hl:∀i,i < L.length→lpB K (la L i)=true):∃nu,nu < 2 ^ (cN L L.length / 2)∧zBt (cN L L.length / 2) nu L=L:=by
 obtain ⟨nu,h1,h2⟩:=zNl (fun d=>(List.range L.length).any fun i=>isC (la L i)&&((la L i).id==(d:Int)&&(la L i).sign==1)) (cN L L.length / 2);refine ⟨nu,h1,?_⟩;have:∀l∈L,sgL (cN L L.length / 2) nu l=id l:=fun l hm=>by
  obtain ⟨i,hi,he⟩:=List.getElem_of_mem hm;have e:la L i=l:=by unfold la;rw [List.getElem?_eq_getElem hi];simpa using he
  subst e;unfold sgL;split
  ·rename_i hc;have hid:=p.ids hi hc;have hs:=(zKT (hl i hi) hc).2;have h3:=h2 (la L i).id.toNat (by omega) (by omega);have e:sgI (cN L L.length / 2) nu (la L i)=(la L i).sign:=by
    unfold sgI;by_cases h1:(la L i).sign=1
    ·rw [if_pos (h3.2 (List.any_eq_true.2 ⟨i,List.mem_range.2 hi,by simp [hc,h1];omega⟩)),h1]
    ·rw [if_neg,hs.resolve_left h1];intro h4;have h5:=h3.1 h4;obtain ⟨j,hj,h6⟩:=List.any_eq_true.1 h5;simp only [Bool.and_eq_true,beq_iff_eq] at h6;obtain ⟨hcj,hij,hsj⟩:=h6;by_cases hij2:i=j
     ·subst hij2;exact h1 hsj
     ·have:=(zCN p.good.cross hi (List.mem_range.1 hj) hc hcj (by omega) hij2).2;rw [hsj] at this;exact h1 this
   rw [e];rfl
  ·rfl
 unfold zBt;rw [List.map_congr_left this,List.map_id]
end
end Go.Proofs.YtlmdfmnbcndhoaaGreatDoor
