/-
  Lemmas, part 15. Conditions: each theorem's own.
-/
import Derived.Test.YtlmdfmnbcndhoaaGreatDoorRl14
import Derived.Laws.RangeAny
namespace Go.Proofs.YtlmdfmnbcndhoaaGreatDoor
open Go.RowKit
def nfN (far:Bool):List UInt8:=if far then [102] else [110]
def brN (x:Nst):List UInt8:=zAi x.f++nfN x.far
def zQN (x:Nst×Bool):List UInt8:=brN x.1++zAO x.2
def zIZ (P:List (Nst×Bool)) (x:Nst):List UInt8:=(if P=[] then [] else Lib.join (P.map zQN) [44]++[60])++brN x
def frI (n:Nop):List UInt8:=match n.fr with | some x=>brN x | none=>[]
def zSW (n:Nop):List UInt8 :=
 if n.kind=4 then zAO n.over
 else if n.kind=3 then (if n.path=[] then [] else Lib.join (n.path.map zQN) [44]++[60])++frI n
 else if n.kind=5 then frI n++zAO n.over
 else if n.kind=6∨n.kind=7 then frN n++zAO n.over
 else []
def zHf (n:Nop):List UInt8:=zAi n.f++zID n.kind++zSW n
def zXd (x:Nst):Prop:=x.f.p=1∧x.l=0∧x.pc=0
def zXe (n:Nop):Prop:=n.f.p=1∧(∀x,n.fr=some x→zXd x)∧∀y∈n.path,zXd y.1
def simN (x:Nst):Prop:=zAl x.f=true∧zXd x
theorem simN.ok {x:Nst} (h:simN x):zBX x:=⟨h.1,by rw [h.2.2.1];omega,by rw [h.2.2.1];omega,by rw [h.2.2.2];omega,by rw [h.2.2.2];omega⟩
theorem simN.is {x:Nst} (h:simN x):x=⟨x.f,0,x.far,0⟩:=by
 obtain ⟨f,l,far,pc⟩:=x;have h1:=h.2.2.1;have h2:=h.2.2.2;simp only at h1 h2;subst h1;subst h2;rfl
theorem zRp {f:Fg} (hf:zAl f=true) (h1:f.p=1):zAi f=[(if f.r then 82 else 76),UInt8.ofNat (48+f.d.toNat)]:=by
 obtain ⟨a1,a2,a3,a4⟩:=zAt.1 hf;unfold zAi;rw [if_pos h1,zCg a3 (by omega)];rfl
theorem zLw {f:Fg} (hf:zAl f=true) (h1:f.p=1) (r:List UInt8):zFt (zAi f++r)=some (f,r):=by
 have h2:=zRp hf h1;have hp:=zCm hf h2;rw [h2];simp only [List.cons_append,List.nil_append,zFt,hp,if_pos h1]
theorem zMB {S r:List UInt8} {f:Fg} (h:zFt S=some (f,r)):zAl f=true∧f.p=1∧S=zAi f++r:=by
 match S,h with
 | [],h=>simp [zFt] at h
 | [x],h=>simp [zFt] at h
 | x :: y :: q,h =>
  simp only [zFt] at h
  cases hp:zGb [x,y] with
  | none=>rw [hp] at h;simp at h
  | some g =>
   rw [hp] at h;simp only at h;split at h
   ·rename_i h1;simp only [Option.some.injEq,Prod.mk.injEq] at h;obtain ⟨rfl,rfl⟩:=h;obtain ⟨k1,k2⟩:=zLq hp;exact ⟨k1,h1,by rw [k2];rfl⟩
   ·cases h
noncomputable def zAV (S:List UInt8):Option (Fg×Bool×List UInt8) :=
 match zFt S with
 | some (f,x :: r)=>if x=110 then some (f,false,r) else if x=102 then some (f,true,r) else none
 | _=>none
theorem zEQ {x:Nst} (h:simN x) (r:List UInt8):zAV (brN x++r)=some (x.f,x.far,r):=by
 unfold zAV brN;rw [List.append_assoc,zLw h.1 h.2.1]
 cases x.far<;>rfl
theorem zGv {S r:List UInt8} {f:Fg} {far:Bool} (h:zAV S=some (f,far,r)):simN ⟨f,0,far,0⟩∧S=brN ⟨f,0,far,0⟩++r:=by
 unfold zAV at h;split at h
 ·rename_i g x q hc;obtain ⟨k1,k2,k3⟩:=zMB hc;split at h
  ·rename_i hx;simp only [Option.some.injEq,Prod.mk.injEq] at h;obtain ⟨rfl,rfl,rfl⟩:=h;exact ⟨⟨k1,k2,rfl,rfl⟩,by rw [k3,hx];simp [brN,nfN]⟩
  ·split at h
   ·rename_i hx;simp only [Option.some.injEq,Prod.mk.injEq] at h;obtain ⟨rfl,rfl,rfl⟩:=h;exact ⟨⟨k1,k2,rfl,rfl⟩,by rw [k3,hx];simp [brN,nfN]⟩
   ·cases h
 ·cases h
def zCy:List UInt8→Option (Bool×List UInt8)
 | []=>none
 | x :: r=>if x=111 then some (true,r) else if x=117 then some (false,r) else none
theorem zHg (b:Bool) (r:List UInt8):zCy (zAO b++r)=some (b,r):=by cases b<;>rfl
theorem zHh {S r:List UInt8} {b:Bool} (h:zCy S=some (b,r)):S=zAO b++r:=by
 match S,h with
 | x :: S,h =>
  rw [zCy] at h;by_cases h1:x=111
  ·rw [if_pos h1] at h;simp only [Option.some.injEq,Prod.mk.injEq] at h;obtain ⟨rfl,rfl⟩:=h;rw [h1];rfl
  ·rw [if_neg h1] at h;by_cases h2:x=117
   ·rw [if_pos h2] at h;simp only [Option.some.injEq,Prod.mk.injEq] at h;obtain ⟨rfl,rfl⟩:=h;rw [h2];rfl
   ·rw [if_neg h2] at h;cases h
noncomputable def zFD:Nat→List (Nst×Bool)→List UInt8→Option (List (Nst×Bool)×Nst)
 | 0,_,_=>none
 | n+1,P,s =>
  match zAV s with
  | none=>none
  | some (f,far,s1) =>
   if s1=[]∧P=[] then some ([],⟨f,0,far,0⟩)
   else match zCy s1 with
    | none=>none
    | some (_,[])=>none
    | some (o,c :: s2) =>
     if c=44 then zFD n (P++[(⟨f,0,far,0⟩,o)]) s2
     else if c=60 then match zAV s2 with
      | some (g,cQ,[])=>some (P++[(⟨f,0,far,0⟩,o)],⟨g,0,cQ,0⟩)
      | _=>none
     else none
theorem zJa (x y:Nst×Bool) (R:List (Nst×Bool)):Lib.join ((x :: y :: R).map zQN) [44]=zQN x++[44]++Lib.join ((y :: R).map zQN) [44]:=by
 simp only [List.map_cons];exact zIP _ _ _ _
theorem zMC:∀(n:Nat) {P Q:List (Nst×Bool)} {x:Nst} {s:List UInt8},zFD n P s=some (Q,x) →
  ∃R,Q=P++R∧(R≠[]∨P=[])∧(∀y∈R,simN y.1)∧simN x∧s=zIZ R x
 | 0,P,Q,x,s,h=>by simp [zFD] at h
 | n+1,P,Q,x,s,h=>by
  rw [zFD] at h;split at h
  ·cases h
  ·rename_i f far s1 hs;obtain ⟨a1,a2⟩:=zGv hs;split at h
   ·rename_i hc;obtain ⟨rfl,rfl⟩:=hc;simp only [Option.some.injEq,Prod.mk.injEq] at h;obtain ⟨rfl,rfl⟩:=h;exact ⟨[],rfl,.inr rfl,by simp,a1,by rw [a2];simp [zIZ]⟩
   ·split at h
    ·cases h
    ·cases h
    ·rename_i o c s2 hf;have b:=zHh hf;split at h
     ·rename_i h44;obtain ⟨R,r1,r2,r3,r4,r5⟩:=zMC n h;have hR:R≠[]:=by
       rcases r2 with r2 | r2
       ·exact r2
       ·simp at r2
      obtain ⟨y,R,rfl⟩:∃y R',R=y :: R':=by
       cases R with
       | nil=>exact absurd rfl hR
       | cons y R=>exact ⟨y,R,rfl⟩
      refine ⟨(⟨f,0,far,0⟩,o) :: y :: R,by rw [r1];simp,.inl (by simp),fun z hz=>?_,r4,?_⟩
      ·rcases List.mem_cons.1 hz with rfl | hz
       ·exact a1
       ·exact r3 z hz
      ·rw [a2,b,h44,r5];unfold zIZ;rw [if_neg (by simp),if_neg (by simp),zJa];simp [zQN]
     ·split at h
      ·rename_i h60;split at h
       ·rename_i g cQ mY;obtain ⟨c1,c2⟩:=zGv mY;simp only [Option.some.injEq,Prod.mk.injEq] at h;obtain ⟨rfl,rfl⟩:=h;refine ⟨[(⟨f,0,far,0⟩,o)],rfl,.inl (by simp),fun z hz=>?_,c1,?_⟩
        ·simp only [List.mem_singleton] at hz;subst hz;exact a1
        ·rw [a2,b,h60,c2];unfold zIZ;rw [if_neg (by simp)];simp only [List.map_cons,List.map_nil,Lib.join_one];simp [zQN]
       ·cases h
      ·cases h
theorem zMD {x:Nst} (hx:simN x):∀(n:Nat) (P R:List (Nst×Bool)),R.length < n→(R≠[]∨P=[])→(∀y∈R,simN y.1)→zFD n P (zIZ R x)=some (P++R,x)
 | 0,P,R,h,_,_=>absurd h (by omega)
 | n+1,P,[],_,h2,_=>by
  have hP:P=[]:=by
   rcases h2 with h | h
   ·exact absurd rfl h
   ·exact h
  subst hP;have hs:=zEQ hx [];rw [List.append_nil] at hs;rw [zFD,show zIZ [] x=brN x from by simp [zIZ],hs];simp only [and_self,if_true];rw [←hx.is];rfl
 | n+1,P,[y],_,_,h3=>by
  have hy:=h3 y (List.mem_cons_self ..);have e:zIZ [y] x=brN y.1++(zAO y.2++60 :: brN x):=by
   unfold zIZ;rw [if_neg (by simp)];simp only [List.map_cons,List.map_nil,Lib.join_one];simp [zQN]
  have hs:=zEQ hx [];rw [List.append_nil] at hs;rw [zFD,e,zEQ hy];simp only;rw [if_neg (by cases y.2<;>simp [zAO]),zHg];simp only [show ((60:UInt8)=44)=False from by simp,if_false,if_true,hs];rw [←hx.is,←hy.is]
 | n+1,P,y :: z :: R,h1,_,h3=>by
  have hy:=h3 y (List.mem_cons_self ..);have e:zIZ (y :: z :: R) x=brN y.1++(zAO y.2++44 :: zIZ (z :: R) x):=by
   unfold zIZ;rw [if_neg (by simp),if_neg (by simp),zJa];simp [zQN]
  rw [zFD,e,zEQ hy];simp only;rw [if_neg (by cases y.2<;>simp [zAO]),zHg];simp only [if_true];rw [←hy.is,zMD hx n (P++[(y.1,y.2)]) (z :: R) (by simp at h1 ⊢;omega) (.inl (by simp)) (fun w hw=>h3 w (List.mem_cons_of_mem _ hw))];simp
def zAH (b:UInt8):Int:=if b=45 then 1 else if b=94 then 2 else if b=60 then 3 else if b=126 then 4 else if b=61 then 5 else if b=42 then 6 else if b=37 then 7 else if b=33 then 8 else 0
noncomputable def zRq (f:Fg) (s:List UInt8):Option Nop:=match zCy s with
 | some (o,[])=>some ⟨4,f,none,[],o⟩
 | _=>none
noncomputable def zUd (f:Fg) (s:List UInt8):Option Nop:=match zFD (s.length+1) [] s with
 | some (P,x)=>some ⟨3,f,some x,P,false⟩
 | none=>none
noncomputable def zRr (f:Fg) (s:List UInt8):Option Nop:=match zAV s with
 | some (g,far,s1)=>match zCy s1 with
  | some (o,[])=>some ⟨5,f,some ⟨g,0,far,0⟩,[],o⟩
  | _=>none
 | none=>none
noncomputable def zRs (k:Int) (f:Fg) (s:List UInt8):Option Nop:=match zFt s with
 | some (g,s1)=>match zCy s1 with
  | some (o,[])=>some ⟨k,f,some ⟨g,0,false,0⟩,[],o⟩
  | _=>none
 | none=>none
noncomputable def zAG (S:List UInt8):Option Nop :=
 match zFt S with
 | some (f,b :: s) =>
  if zAH b=4 then zRq f s
  else if zAH b=3 then zUd f s
  else if zAH b=5 then zRr f s
  else if zAH b=6∨zAH b=7 then zRs (zAH b) f s
  else if zAH b=0 then none
  else if s=[] then some ⟨zAH b,f,none,[],false⟩ else none
 | _=>none
theorem zDy {b:UInt8} (h:zAH b≠0):1≤zAH b∧zAH b≤8∧zID (zAH b)=[b]:=by
 unfold zAH at h ⊢
 repeat (split;· rename_i e;subst e;exact ⟨by omega,by omega,rfl⟩)
 exact absurd (by repeat (rw [if_neg (by assumption)])) h
theorem zUe {k:Int} (h1:1≤k) (h8:k≤8):∃b,zID k=[b]∧zAH b=k:=by
 have hk:k=1∨k=2∨k=3∨k=4∨k=5∨k=6∨k=7∨k=8:=by omega
 rcases hk with rfl | rfl | rfl | rfl | rfl | rfl | rfl | rfl<;>exact ⟨_,rfl,rfl⟩
theorem zFE {S:List UInt8} {n:Nop} (h:zAG S=some n):okN n∧zXe n∧S=zHf n:=by
 unfold zAG at h;split at h
 ·rename_i f b s hc;obtain ⟨k1,k2,k3⟩:=zMB hc;by_cases e4:zAH b=4
  ·rw [if_pos e4] at h;have hb:=(zDy (b:=b) (by omega)).2.2;unfold zRq at h;split at h
   ·rename_i o ho;simp only [Option.some.injEq] at h;subst h;refine ⟨⟨k1,.inr (.inl ⟨rfl,rfl,rfl⟩)⟩,⟨k2,by simp,by simp⟩,?_⟩;rw [k3,zHh ho,zHf,zSW];simp only [if_true];rw [e4] at hb;rw [hb];simp
   ·cases h
  rw [if_neg e4] at h;by_cases e3:zAH b=3
  ·rw [if_pos e3] at h;have hb:=(zDy (b:=b) (by omega)).2.2;unfold zUd at h;split at h
   ·rename_i P x hp;simp only [Option.some.injEq] at h;subst h;obtain ⟨R,r1,r2,r3,r4,r5⟩:=zMC _ hp;rw [List.nil_append] at r1;subst r1;refine ⟨⟨k1,.inr (.inr (.inl ⟨rfl,⟨x,rfl,r4.ok⟩,fun y hy=>(r3 y hy).ok,rfl⟩))⟩,⟨k2,fun y hy=>by injection hy with hy;subst hy;exact r4.2,fun y hy=>(r3 y hy).2⟩,?_⟩;rw [k3,r5,zHf,zSW];simp only [if_true,show ¬((3:Int)=4) from by omega,if_false,frI];rw [e3] at hb;rw [hb];simp [zIZ]
   ·cases h
  rw [if_neg e3] at h;by_cases e5:zAH b=5
  ·rw [if_pos e5] at h;have hb:=(zDy (b:=b) (by omega)).2.2;unfold zRr at h;split at h
   ·rename_i g far s1 hs;obtain ⟨c1,c2⟩:=zGv hs;split at h
    ·rename_i o ho;simp only [Option.some.injEq] at h;subst h;refine ⟨⟨k1,.inr (.inr (.inr (.inl ⟨rfl,⟨_,rfl,c1.ok⟩,rfl⟩)))⟩,⟨k2,fun y hy=>by injection hy with hy;subst hy;exact c1.2,by simp⟩,?_⟩;rw [k3,c2,zHh ho,zHf,zSW];simp only [if_true,show ¬((5:Int)=4) from by omega,show ¬((5:Int)=3) from by omega,if_false,frI];rw [e5] at hb;rw [hb];simp
    ·cases h
   ·cases h
  rw [if_neg e5] at h;by_cases e6:zAH b=6∨zAH b=7
  ·rw [if_pos e6] at h;have hb:=(zDy (b:=b) (by omega)).2.2;unfold zRs at h;split at h
   ·rename_i g s1 hs;obtain ⟨c0,c1,c2⟩:=zMB hs;split at h
    ·rename_i o ho;simp only [Option.some.injEq] at h;subst h;refine ⟨⟨k1,.inr (.inr (.inr (.inr ⟨e6,⟨_,rfl,c0⟩,rfl⟩)))⟩,⟨k2,fun y hy=>by injection hy with hy;subst hy;exact ⟨c1,rfl,rfl⟩,by simp⟩,?_⟩;rw [k3,c2,zHh ho,zHf,zSW];simp only [if_neg e4,if_neg e3,if_neg e5,if_pos e6,frN];rw [hb];simp
    ·cases h
   ·cases h
  rw [if_neg e6] at h;by_cases e0:zAH b=0
  ·rw [if_pos e0] at h;cases h
  rw [if_neg e0] at h;obtain ⟨u1,u2,hb⟩:=zDy (b:=b) e0;split at h
  ·rename_i hs;simp only [Option.some.injEq] at h;subst h;refine ⟨⟨k1,.inl ⟨by simp only;omega,rfl,rfl,rfl⟩⟩,⟨k2,by simp,by simp⟩,?_⟩;rw [k3,hs,zHf,zSW];simp only [if_neg e4,if_neg e3,if_neg e5,if_neg e6];rw [hb];simp
  ·cases h
 ·cases h
theorem zPn {P:List (Nst×Bool)} (x:Nst):P.length≤(zIZ P x).length:=by
 induction P with
 | nil=>simp
 | cons y P ih =>
  cases P with
  | nil=>unfold zIZ;rw [if_neg (by simp)];simp;omega
  | cons z P =>
   unfold zIZ at ih ⊢;rw [if_neg (by simp)] at ih ⊢;rw [zJa];simp only [List.length_append,List.length_cons,List.length_nil] at ih ⊢;omega
theorem zUf {n:Nop} (h:okN n) (hc:zXe n):zAG (zHf n)=some n:=by
 obtain ⟨hf,hk⟩:=h;obtain ⟨c1,c2,c3⟩:=hc;obtain ⟨k,f,fr,path,over⟩:=n;unfold zGX at hk;simp only at hf hk c1 c2 c3;have gH:1≤k∧k≤8:=by
  rcases hk with ⟨h,_⟩ | ⟨h,_⟩ | ⟨h,_⟩ | ⟨h,_⟩ | ⟨h,_⟩<;>omega
 obtain ⟨b,ay,ai⟩:=zUe gH.1 gH.2;unfold zAG zHf;simp only;rw [ay,List.append_assoc,List.singleton_append,zLw hf c1];simp only;rw [ai];unfold zSW;simp only;rcases hk with ⟨e,rfl,rfl,rfl⟩ | ⟨rfl,rfl,rfl⟩ | ⟨rfl,⟨x,rfl,hx⟩,hp,rfl⟩ | ⟨rfl,⟨x,rfl,hx⟩,rfl⟩ | ⟨e,⟨g,rfl,hg⟩,rfl⟩
 ·have n4:¬k=4:=by omega
  have n3:¬k=3:=by omega
  have n5:¬k=5:=by omega
  have n6:¬(k=6∨k=7):=by omega
  have n0:¬k=0:=by omega
  simp only [if_neg n4,if_neg n3,if_neg n5,if_neg n6,if_neg n0,if_true]
 ·have hfl:=zHg over [];rw [List.append_nil] at hfl;simp only [if_true,zRq];rw [hfl]
 ·have oE:simN x:=⟨hx.1,c2 x rfl⟩;have hp2:=zMD oE ((zIZ path x).length+1) [] path (by have:=zPn (P:=path) x;omega) (.inr rfl) (fun y hy=>⟨(hp y hy).1,c3 y hy⟩);simp only [show ¬((3:Int)=4) from by omega,if_false,if_true,frI];rw [show (if path=[] then [] else Lib.join (path.map zQN) [44]++[60])++brN x=zIZ path x from rfl];unfold zUd;rw [hp2];rfl
 ·have oE:simN x:=⟨hx.1,c2 x rfl⟩;have hfl:=zHg over [];rw [List.append_nil] at hfl;simp only [show ¬((5:Int)=4) from by omega,show ¬((5:Int)=3) from by omega,if_false,if_true,frI];unfold zRr;rw [zEQ oE];simp only;rw [hfl];simp only;rw [←oE.is]
 ·have n4:¬k=4:=by omega
  have n3:¬k=3:=by omega
  have n5:¬k=5:=by omega
  have hfl:=zHg over [];rw [List.append_nil] at hfl;simp only [if_neg n4,if_neg n3,if_neg n5,if_pos e,frN];unfold zRs;rw [zLw hg (c2 _ rfl).1];simp only;rw [hfl]
def zJF (L:List Fg) (s:Sg):Nst:=⟨fa L (s.f-1).toNat,s.l,s.far,s.pc⟩
def zOp (L:List Fg) (x:Sp):Nst×Bool:=(zJF L x.s,x.over)
def nOf (L:List Fg) (o:Og):Nop:=⟨o.kind,fa L (o.f-1).toNat,if o.fr.f=0 then none else some (zJF L o.fr),o.path.map (zOp L),o.over⟩
section
variable {L:List Fg} {re lo:Int}
def GoodL (L:List Fg):Prop:=∀i,i < L.length→zCV L i=true
theorem GoodL.idx (h:GoodL L) {f:Int} (h1:1≤f) (h2:f≤(L.length:Int)):zAK L (fa L (f-1).toNat)=f.toNat:=by
 have hi:(f-1).toNat < L.length:=by omega
 have:=h _ hi;unfold zCV at this;simp only [Bool.and_eq_true,decide_eq_true_eq] at this;rw [(zJI hi).1 this.2];omega
theorem GoodL.has (h:GoodL L) {f:Int} (h1:1≤f) (h2:f≤(L.length:Int)):zAl (fa L (f-1).toNat)=true:=by
 have:=h (f-1).toNat (by omega);unfold zCV at this;simp only [Bool.and_eq_true] at this;exact this.1
theorem zHi {f:Fg} (h:zAK L f≠0):fa L ((zAK L f:Int)-1).toNat=f:=by
 obtain ⟨i,hi⟩:∃i,zAK L f=i+1:=⟨zAK L f-1,by omega⟩
 have h2:=(zIt hi).1;rw [show ((zAK L f:Int)-1).toNat=i by omega];exact zWU h2
theorem zIg (h:GoodL L) {s:Sg} (hs:zAm L.length s=true):zBX (zJF L s)∧sOf L (zJF L s)=s∧zAX L (zJF L s).f=false:=by
 obtain ⟨h1,h2,h3,h4,h5,h6⟩:=zAj.1 hs;have hx:=h.idx h1 h2;refine ⟨⟨h.has h1 h2,h3,h4,h5,h6⟩,?_,?_⟩
 ·unfold sOf zJF;simp only;rw [hx];obtain ⟨f,l,far,pc⟩:=s;simp only at h1 ⊢;rw [show ((f.toNat:Nat):Int)=f by omega]
 ·unfold zAX zJF;simp only;rw [hx];simp;omega
theorem zEm {k:Nat} {o:Og} (h:zAg k o=true) :
  1≤o.f∧o.f≤(k:Int)∧(∀x∈o.path,zAm k x.s=true) ∧
  ((o.kind=1∨o.kind=2∨o.kind=8)∧o.fr=s0∧o.path=[]∧o.over=false
   ∨ o.kind=4∧o.fr=s0∧o.path=[]
   ∨ o.kind=3∧zAm k o.fr=true∧o.over=false
   ∨ o.kind=5∧zAm k o.fr=true∧o.path=[]
   ∨ (o.kind=6∨o.kind=7)∧zAm k o.fr=true∧o.fr=⟨o.fr.f,0,false,0⟩∧o.path=[]):=by
 have hk:=zBc h;unfold zAg at h;simp only [Bool.and_eq_true,decide_eq_true_eq,Bool.or_eq_true] at h;obtain ⟨⟨⟨⟨h1,h2⟩,h3⟩,_⟩,h5⟩:=h;refine ⟨h1,h2,hk.2.2.2.2.1,?_⟩;unfold zBi at h5;by_cases e1:o.kind=1∨o.kind=2∨o.kind=8
 ·rw [if_pos e1] at h5;simp only [Bool.and_eq_true,Bool.not_eq_true'] at h5;exact .inl ⟨e1,zCC.1 h5.2,h3.resolve_left (by omega),h5.1⟩
 rw [if_neg e1] at h5;by_cases e4:o.kind=4
 ·rw [if_pos e4] at h5;exact .inr (.inl ⟨e4,zCC.1 h5,h3.resolve_left (by omega)⟩)
 rw [if_neg e4] at h5;by_cases e3:o.kind=3
 ·rw [if_pos e3] at h5;simp only [Bool.and_eq_true,Bool.not_eq_true'] at h5;exact .inr (.inr (.inl ⟨e3,h5.2,h5.1⟩))
 rw [if_neg e3] at h5;by_cases e5:o.kind=5
 ·rw [if_pos e5] at h5;exact .inr (.inr (.inr (.inl ⟨e5,h5,h3.resolve_left (by omega)⟩)))
 rw [if_neg e5] at h5;by_cases e6:o.kind=6∨o.kind=7
 ·rw [if_pos e6] at h5;simp only [Bool.and_eq_true] at h5;exact .inr (.inr (.inr (.inr ⟨e6,h5.1,zCC.1 h5.2,h3.resolve_left (by omega)⟩)))
 ·rw [if_neg e6] at h5;cases h5
theorem zER {k:Nat} {o:Og} (h1:1≤o.f) (h2:o.f≤(k:Int)) (hp:∀x∈o.path,zAm k x.s=true)
  (h:(o.kind=1∨o.kind=2∨o.kind=8)∧o.fr=s0∧o.path=[]∧o.over=false
   ∨ o.kind=4∧o.fr=s0∧o.path=[]
   ∨ o.kind=3∧zAm k o.fr=true∧o.over=false
   ∨ o.kind=5∧zAm k o.fr=true∧o.path=[]
   ∨ (o.kind=6∨o.kind=7)∧zAm k o.fr=true∧o.fr=⟨o.fr.f,0,false,0⟩∧o.path=[]):zAg k o=true:=by
 have h3:o.kind=3∨o.path=[]:=by
  rcases h with h | h | h | h | h
  ·exact .inr h.2.2.1
  ·exact .inr h.2.2
  ·exact .inl h.1
  ·exact .inr h.2.2
  ·exact .inr h.2.2.2
 have hr:zBi k o=true:=by
  unfold zBi;rcases h with ⟨e,h,_,h'⟩ | ⟨e,h,_⟩ | ⟨e,h,h'⟩ | ⟨e,h,_⟩ | ⟨e,h,h',_⟩
  ·rw [if_pos e,h,h'];rfl
  ·rw [if_neg (by omega),if_pos e,h];rfl
  ·rw [if_neg (by omega),if_neg (by omega),if_pos e,h,h'];rfl
  ·rw [if_neg (by omega),if_neg (by omega),if_neg (by omega),if_pos e,h]
  ·rw [if_neg (by omega),if_neg (by omega),if_neg (by omega),if_neg (by omega),if_pos e,h,←h',zCC.2 rfl];rfl
 unfold zAg;rw [hr];simp only [Bool.and_eq_true,decide_eq_true_eq,Bool.or_eq_true,List.all_eq_true,and_true];exact ⟨⟨⟨h1,h2⟩,h3⟩,hp⟩
theorem zXf (h:GoodL L) {o:Og} (ho:zAg L.length o=true):okN (nOf L o)∧oOf L (nOf L o)=o∧zAB L (nOf L o)=false:=by
 obtain ⟨h1,h2,hp,hc⟩:=zEm ho;have hx:=h.idx h1 h2;have hpm:(o.path.map (zOp L)).map (pOf L)=o.path:=by
  rw [List.map_map]
  conv=>rhs;rw [←List.map_id o.path]
  refine List.map_congr_left fun x hx=>?_
  simp only [Function.comp,zOp,pOf,id];rw [(zIg h (hp x hx)).2.1]
 have hpl:zAU L (o.path.map (zOp L))=false:=by
  unfold zAU;rw [List.any_eq_false];intro y hy;obtain ⟨x,hx,rfl⟩:=List.mem_map.1 hy;rw [show (zOp L x).1.f=(zJF L x.s).f from rfl,(zIg h (hp x hx)).2.2];simp
 have hpo:∀y∈o.path.map (zOp L),zBX y.1:=fun y hy=>by
  obtain ⟨x,hx,rfl⟩:=List.mem_map.1 hy;exact (zIg h (hp x hx)).1
 have hg:zAX L (fa L (o.f-1).toNat)=false:=by unfold zAX;rw [hx];simp;omega
 obtain ⟨kind,f,fr,path,over⟩:=o;simp only at h1 h2 hp hc hx hpm hpl hpo hg;have hfi:((f.toNat:Nat):Int)=f:=by omega
 unfold okN zGX nOf oOf zAB;simp only;rw [hx,hfi,hpm,hpl,hg];rcases hc with ⟨e,rfl,rfl,rfl⟩ | ⟨e,rfl,rfl⟩ | ⟨e,hn,rfl⟩ | ⟨e,hn,rfl⟩ | ⟨e,hn,h',rfl⟩
 ·simp only [s0,if_true];exact ⟨⟨h.has h1 h2,.inl ⟨e,(by first | rfl | trivial),(by first | rfl | trivial),(by first | rfl | trivial)⟩⟩,(by first | rfl | trivial),(by first | rfl | trivial)⟩
 ·simp only [s0,if_true];exact ⟨⟨h.has h1 h2,.inr (.inl ⟨e,(by first | rfl | trivial),(by first | rfl | trivial)⟩)⟩,(by first | rfl | trivial),(by first | rfl | trivial)⟩
 ·have n0:¬fr.f=0:=by have:=(zAj.1 hn).1;omega
  obtain ⟨a1,a2,a3⟩:=zIg h hn;simp only [if_neg n0,Option.map_some,Option.getD_some,a2,a3];exact ⟨⟨h.has h1 h2,.inr (.inr (.inl ⟨e,⟨_,rfl,a1⟩,hpo,(by first | rfl | trivial)⟩))⟩,(by first | rfl | trivial),(by first | rfl | trivial)⟩
 ·have n0:¬fr.f=0:=by have:=(zAj.1 hn).1;omega
  obtain ⟨a1,a2,a3⟩:=zIg h hn;simp only [if_neg n0,Option.map_some,Option.getD_some,a2,a3];exact ⟨⟨h.has h1 h2,.inr (.inr (.inr (.inl ⟨e,⟨_,rfl,a1⟩,(by first | rfl | trivial)⟩)))⟩,(by first | rfl | trivial),(by first | rfl | trivial)⟩
 ·have n0:¬fr.f=0:=by have:=(zAj.1 hn).1;omega
  obtain ⟨a1,a2,a3⟩:=zIg h hn;simp only [if_neg n0,Option.map_some,Option.getD_some,a2,a3];refine ⟨⟨h.has h1 h2,.inr (.inr (.inr (.inr ⟨e,⟨(zJF L fr).f,?_,a1.1⟩,(by first | rfl | trivial)⟩)))⟩,(by first | rfl | trivial),(by first | rfl | trivial)⟩;unfold zJF;rw [h']
theorem zVI {x:Nst} (h:zBX x) (hg:zAX L x.f=false):zAm L.length (sOf L x)=true∧zJF L (sOf L x)=x∧¬(sOf L x).f=0:=by
 have h0:zAK L x.f≠0:=by simpa [zAX] using hg
 have hl:=zDp (f:=x.f) (L:=L);refine ⟨zAj.2 ⟨by simp only [sOf];omega,by simp only [sOf];omega,h.2.1,h.2.2.1,h.2.2.2.1,h.2.2.2.2⟩,?_,by simp only [sOf];omega⟩;unfold zJF sOf;simp only;rw [zHi h0]
theorem zXg {n:Nop} (h:okN n) (hl:zAB L n=false):zAg L.length (oOf L n)=true∧nOf L (oOf L n)=n:=by
 obtain ⟨h1,h2⟩:=h;unfold zAB at hl;simp only [Bool.or_eq_false_iff] at hl;obtain ⟨⟨l1,l2⟩,l3⟩:=hl;have h0:zAK L n.f≠0:=by simpa [zAX] using l1
 have hle:=zDp (f:=n.f) (L:=L);have hpath:∀y∈n.path,zAX L y.1.f=false:=fun y hy=>by
  have:=(List.any_eq_false.1 l2) y hy;simpa using this
 obtain ⟨kind,f,fr,path,over⟩:=n;unfold zGX at h2;simp only at h1 h2 l1 l3 h0 hle hpath;have hpm:(∀y∈path,zBX y.1)→(path.map (pOf L)).map (zOp L)=path:=fun hp=>by
  rw [List.map_map]
  conv=>rhs;rw [←List.map_id path]
  refine List.map_congr_left fun x hx=>?_
  simp only [Function.comp,zOp,pOf,id];rw [(zVI (hp x hx) (hpath x hx)).2.1]
 have hpn:(∀y∈path,zBX y.1)→∀x∈path.map (pOf L),zAm L.length x.s=true:=fun hp x hx=>by
  obtain ⟨y,hy,rfl⟩:=List.mem_map.1 hx;exact (zVI (hp y hy) (hpath y hy)).1
 rcases h2 with ⟨e,rfl,rfl,rfl⟩ | ⟨e,rfl,rfl⟩ | ⟨e,⟨x,rfl,hx⟩,hp,rfl⟩ | ⟨e,⟨x,rfl,hx⟩,rfl⟩ | ⟨e,⟨g,rfl,hx⟩,rfl⟩
 ·refine ⟨zER (by simp only [oOf];omega) (by simp only [oOf];omega) (by simp [oOf]) (.inl ⟨e,rfl,rfl,rfl⟩),?_⟩;unfold nOf oOf;simp only [zHi h0];rfl
 ·refine ⟨zER (by simp only [oOf];omega) (by simp only [oOf];omega) (by simp [oOf]) (.inr (.inl ⟨e,rfl,rfl⟩)),?_⟩;unfold nOf oOf;simp only [zHi h0];rfl
 ·obtain ⟨a1,a2,a3⟩:=zVI hx l3;refine ⟨zER (by simp only [oOf];omega) (by simp only [oOf];omega) (hpn hp) (.inr (.inr (.inl ⟨e,a1,rfl⟩))),?_⟩;unfold nOf oOf;simp only [zHi h0,Option.map_some,Option.getD_some,if_neg a3,a2,hpm hp]
 ·obtain ⟨a1,a2,a3⟩:=zVI hx l3;refine ⟨zER (by simp only [oOf];omega) (by simp only [oOf];omega) (by simp [oOf]) (.inr (.inr (.inr (.inl ⟨e,a1,rfl⟩)))),?_⟩;unfold nOf oOf;simp only [zHi h0,Option.map_some,Option.getD_some,if_neg a3,a2];rfl
 ·have hxo:zBX ⟨g,0,false,0⟩:=⟨hx,by simp,by simp,by simp,by simp⟩;obtain ⟨a1,a2,a3⟩:=zVI (L:=L) hxo l3;refine ⟨zER (by simp only [oOf];omega) (by simp only [oOf];omega) (by simp [oOf]) (.inr (.inr (.inr (.inr ⟨e,a1,rfl,rfl⟩)))),?_⟩;unfold nOf oOf;simp only [zHi h0,Option.map_some,Option.getD_some,if_neg a3,a2];rfl
theorem zJb (s:Sg):jt (plT (zJF L s))=32 :: zAJ L s:=by
 unfold plT zAJ zEL zJF nmF;by_cases h1:s.l=0<;>by_cases h2:s.pc=0<;>simp [h1,h2,jt]
theorem zUg (P:List Sp):jt ((P.map (zOp L)).flatMap stW)=zDr L P:=by
 unfold zDr
 induction P with
 | nil=>rfl
 | cons x P ih =>
  rw [List.map_cons,List.flatMap_cons,zPd,ih,List.flatMap_cons]
  congr 1
  unfold stW;rw [zFB,zSS (zTW _)];rw [show (zOp L x).1=zJF L x.s from rfl,zJb,show (zOp L x).2=x.over from rfl];unfold zLh;simp
theorem zKj {o:Og} (ho:zAg L.length o=true):zCb (nOf L o)=zBb L o:=by
 obtain ⟨h1,h2,hp,hc⟩:=zEm ho;obtain ⟨kind,f,fr,path,over⟩:=o;simp only at h1 h2 hp hc;unfold zCb zRk zBb;rw [zTV,zFB];simp only [nOf];rw [show nmF L f=zAi (fa L (f-1).toNat) from rfl];have ht:jt (tlW ⟨kind,fa L (f-1).toNat,if fr.f=0 then none else some (zJF L fr),path.map (zOp L),over⟩)=zCw L ⟨kind,f,fr,path,over⟩:=by
  unfold tlW zCw;simp only;by_cases e4:kind=4
  ·rw [if_pos e4,if_pos e4];simp [jt]
  rw [if_neg e4,if_neg e4];by_cases e3:kind=3
  ·have hn:zAm L.length fr=true:=by
    rcases hc with hc | hc | hc | hc | hc<;>first | (exfalso;omega) | exact hc.2.1
   have n0:¬fr.f=0:=by have:=(zAj.1 hn).1;omega
   rw [if_pos e3,if_pos e3,if_neg n0,zPd,zUg,zFB];simp only [frT];rw [zJb];simp
  rw [if_neg e3,if_neg e3];by_cases e5:kind=5
  ·have hn:zAm L.length fr=true:=by
    rcases hc with hc | hc | hc | hc | hc<;>first | (exfalso;omega) | exact hc.2.1
   have n0:¬fr.f=0:=by have:=(zAj.1 hn).1;omega
   rw [if_pos e5,if_pos e5,if_neg n0,zFB,zPd];simp only [frT];rw [zJb];simp [jt]
  rw [if_neg e5,if_neg e5];by_cases e6:kind=6
  ·have hn:zAm L.length fr=true:=by
    rcases hc with hc | hc | hc | hc | hc<;>first | (exfalso;omega) | exact hc.2.1
   have n0:¬fr.f=0:=by have:=(zAj.1 hn).1;omega
   rw [if_pos e6,if_pos e6,if_neg n0];simp [frN,jt,zJF,nmF]
  rw [if_neg e6,if_neg e6];by_cases e7:kind=7
  ·have hn:zAm L.length fr=true:=by
    rcases hc with hc | hc | hc | hc | hc<;>first | (exfalso;omega) | exact hc.2.1
   have n0:¬fr.f=0:=by have:=(zAj.1 hn).1;omega
   rw [if_pos e7,if_pos e7,if_neg n0];simp [frN,jt,zJF,nmF]
  rw [if_neg e7,if_neg e7];rfl
 rw [ht];simp
end
theorem zDc {S:List UInt8} (h:¬(S≠[]∧S.length≤9∧S.head?≠some 48∧S.all zJE=true)):zAq S=(0,false):=by unfold zAq;rw [if_neg h]
theorem zME {S:List UInt8} {pos:Nat} {b:UInt8} (h:S[pos]? = some b):zGp 0 (S.take (pos+1))=10*zGp 0 (S.take pos)+(b.toNat-48):=by
 rw [List.take_add_one,h];exact zGu _ _ _
theorem zSX:∀(S:List UInt8),(∀b∈S,zJE b=true)→zGp 0 S < 10 ^ S.length:=by
 intro S;generalize hn:S.length=n
 induction n generalizing S with
 | zero=>intro _;rw [List.length_eq_zero_iff.1 hn];simp [zGp]
 | succ n ih =>
  intro h;have h0:S≠[]:=fun e=>by rw [e] at hn;simp at hn
  obtain ⟨I,b,rfl⟩:∃I b,S=I++[b]:=⟨S.dropLast,S.getLast h0,(List.dropLast_concat_getLast h0).symm⟩
  have:=ih I (by simpa using hn) (fun x hx=>h x (List.mem_append_left _ hx));have hb:=zEO (h b (by simp));rw [zGu,Nat.pow_succ];omega
theorem zPo {S:List UInt8} {pos:Nat} (h:pos < S.length) (hs:pos < (bA S).size):∃b,S[pos]? = some b∧(bA S)[pos]'hs=b:=by
 refine ⟨S[pos],List.getElem?_eq_getElem h,?_⟩;simp only [bA,ByteArray.getElem_eq_getElem_data];rfl
theorem zLx {a b:Int} {p q:Bool} (h:(a,p)=(b,q)):Ending.returned (.tuple #[.int .i64 a,.bool p])=.returned (.tuple #[.int .i64 b,.bool q]):=by
 injection h with h1 h2
 rw [h1,h2]
set_option maxHeartbeats 3200000 in
theorem zHj (S:List UInt8) (w:World) :
  Calls Tryz.prog 129 #[.string (bA S)] w fun e w'=>e=.returned (.tuple #[.int .i64 (zAq S).1,.bool (zAq S).2])∧Below w.heap.size w w':=by
 have n0:=zAn S [];have hs:=zCD S;obtain ⟨v,ok,HC⟩:∃v ok,Hid (zAq S=(v,ok)):=⟨_,_,qH rfl⟩
 rw [show (zAq S).1=v from by rw [HC.out],show (zAq S).2=ok from by rw [HC.out]];obtain ⟨nS,eN⟩:∃n,S.length=n:=⟨_,rfl⟩
 rw [eN] at hs;by_cases h0:S=[]
 ·have hr:=qH (show zAq S=(0,false) from zDc fun h=>h.1 h0);rw [show (S==([]:List UInt8))=true from by rw [h0];rfl] at n0;clear h0 eN;go_enter Tryz.func129,Tryz.ntmps129;go_wp2_with fail
  go_ret2;exact ⟨zLx (hr.out.symm.trans HC.out),Below.refl _ _⟩
 rw [show (S==([]:List UInt8))=false from by simpa using h0] at n0;by_cases hl:9 < nS
 ·have hr:=qH (show zAq S=(0,false) from zDc fun h=>by omega);have i0:(9:Int) < (nS:Int):=by omega
  clear h0 eN hl;go_enter Tryz.func129,Tryz.ntmps129;go_wp2_with fail
  go_ret2;exact ⟨zLx (hr.out.symm.trans HC.out),Below.refl _ _⟩
 have i0:¬(9:Int) < (nS:Int):=by omega
 obtain ⟨x,r,hx⟩:∃x r,S=x :: r:=by
  cases S with
  | nil=>exact absurd rfl h0
  | cons x r=>exact ⟨x,r,rfl⟩
 have s1:=zCJ x r;rw [←hx] at s1;by_cases h48:x=48
 ·have hr:=qH (show zAq S=(0,false) from zDc fun h=>h.2.2.1 (by rw [hx,h48];rfl));rw [show ((x.toNat:Nat):Int)=48 from by rw [h48];rfl] at s1;clear h0 eN hl h48 hx;go_enter Tryz.func129,Tryz.ntmps129;go_wp2_with fail
  go_ret2;exact ⟨zLx (hr.out.symm.trans HC.out),Below.refl _ _⟩
 have k1:((x.toNat:Int)==48)=false:=by
  simp only [beq_eq_false_iff_ne,ne_eq];intro e;exact h48 (UInt8.toNat.inj (show x.toNat=48 by omega))
 have HS:=qH (show S≠[]∧S.length≤9∧S.head?≠some 48 from ⟨h0,by omega,by rw [hx];simpa using h48⟩);have HN:=qH eN;have EJ:nS≤9:=by omega
 clear h0 eN hl h48 hx;go_enter Tryz.func129,Tryz.ntmps129;go_wp2_with fail
 go_loopw [4] (fun v wr=>∃(pos V:Nat),wr=w.iter (bA S) pos∧v=.int .i64 V∧pos≤nS∧Hid (V=zGp 0 (S.take pos))∧Hid (∀b∈S.take pos,zJE b=true)) (fun _ wr=>nS-wr.iterPos w.heap.size)
 case atStart=>exact ⟨0,0,rfl,rfl,by omega,qH rfl,qH (by simp)⟩
 case round =>
  obtain ⟨pos,V,rfl,rfl,hpos,HV,HD⟩:=hrel;by_cases hp:pos < nS
  ·have hps:pos < (bA S).size:=by rw [hs];exact hp
   obtain ⟨b,ay,ai⟩:=zPo (S:=S) (pos:=pos) (by rw [HN.out];exact hp) hps;by_cases ha:b.toNat < 128
   ·have hnx:∀ty,(Instr.next (.pointer (some ⟨w.heap.size,0,none⟩)) true ty).run Tryz.prog (w.iter (bA S) pos)=.ok (.tuple #[.bool true,.int .i64 pos,.int .i32 b.toNat]) (w.iter (bA S) (pos+1)):=fun ty=>by
     rw [run_next_ascii w (bA S) pos ty hps (by rw [ai];exact ha),ai]
    by_cases hd:zJE b=true
    ·obtain ⟨d1,d2⟩:=zEO hd;obtain ⟨B,hB⟩:∃B:Nat,b.toNat=B:=⟨_,rfl⟩
     rw [hB] at hnx d1 d2;have j1:¬((B:Int) < 48):=by omega
     have j2:¬((57:Int) < (B:Int)):=by omega
     have hV:V < 1000000000:=by
      have:=zSX _ HD.out;rw [←HV.out] at this;have h3:(S.take pos).length≤9:=by rw [List.length_take];omega
      have:=Nat.pow_le_pow_right (n:=10) (by omega) h3;omega
     have HB:=qH (show zGp 0 (S.take (pos+1))=10*V+(B-48)∧∀y∈S.take (pos+1),zJE y=true by
      rw [zME ay,HV.out,hB]
      refine ⟨rfl,fun y hy=>?_⟩
      rw [List.take_add_one,ay] at hy
      rcases List.mem_append.1 hy with hy | hy
      ·exact HD.out y hy
      ·simp at hy;rw [hy];exact hd)
     clear hd ha ay ai hB hps HV HD;go_wp2_with fail
     go_roundw
     case rel=>exact ⟨pos+1,10*V+(B-48),rfl,by congr 1;simp;omega,by omega,qH HB.out.1.symm,qH HB.out.2⟩
     case measure=>simp;omega
    ·have hr:=qH (show zAq S=(0,false) from zDc fun h=>hd ((List.all_eq_true.1 h.2.2.2) b (List.mem_of_getElem? ay)));have hbel:=qH (show Below w.heap.size w (w.iter (bA S) (pos+1)) from (Below.refl _ _).alloc (Nat.le_refl _) _);obtain ⟨B,hB⟩:∃B:Nat,b.toNat=B:=⟨_,rfl⟩
     rw [hB] at hnx;by_cases hlt:(B:Int) < 48
     ·clear hd ha ay ai hB hps HV HD;go_wp2_with fail
      go_ret2;exact ⟨zLx (hr.out.symm.trans HC.out),hbel.out⟩
     ·have hgt:(57:Int) < (B:Int):=by
       have:¬(48≤b.toNat∧b.toNat≤57):=fun e=>hd (by simp [zJE,e])
       omega
      clear hd ha ay ai hB hps HV HD;go_wp2_with fail
      go_ret2;exact ⟨zLx (hr.out.symm.trans HC.out),hbel.out⟩
   ·obtain ⟨R,q,hnx,hR⟩:∃(R q:Nat),(∀ty,(Instr.next (.pointer (some ⟨w.heap.size,0,none⟩)) true ty).run Tryz.prog (w.iter (bA S) pos)=.ok (.tuple #[.bool true,.int .i64 pos,.int .i32 R]) (w.iter (bA S) q))∧128≤R :=
     ⟨_,_,fun ty=>run_next_any w (bA S) pos ty hps,(decode_high (bA S) pos hps (by rw [ai];omega)).1⟩
    have hr:=qH (show zAq S=(0,false) from zDc fun h=>by
     have:=zEO ((List.all_eq_true.1 h.2.2.2) b (List.mem_of_getElem? ay))
     omega)
    have hbel:=qH (show Below w.heap.size w (w.iter (bA S) q) from (Below.refl _ _).alloc (Nat.le_refl _) _);have j1:¬((R:Int) < 48):=by omega
    have j2:(57:Int) < (R:Int):=by omega
    clear ha ay ai hps HV HD;go_wp2_with fail
    go_ret2;exact ⟨zLx (hr.out.symm.trans HC.out),hbel.out⟩
  ·have hpe:pos=nS:=by omega
   subst hpe;have hnx:∀ty,(Instr.next (.pointer (some ⟨w.heap.size,0,none⟩)) true ty).run Tryz.prog (w.iter (bA S) pos)=_:=fun ty=>run_next_end w (bA S) pos ty (by rw [hs];omega)
   have hr:=qH (show zAq S=((V:Int),true) by
    have h1:S.take pos=S:=by rw [←HN.out,List.take_length]
    have h2:=HD.out
    have h3:=HV.out
    rw [h1] at h2 h3
    unfold zAq
    rw [if_pos ⟨HS.out.1,HS.out.2.1,HS.out.2.2,List.all_eq_true.2 h2⟩,h3])
   have hbel:=qH (show Below w.heap.size w (w.iter (bA S) pos) from (Below.refl _ _).alloc (Nat.le_refl _) _);clear HV HD HN HS;go_wp2_with fail
   go_ret2;exact ⟨zLx (hr.out.symm.trans HC.out),hbel.out⟩
end Go.Proofs.YtlmdfmnbcndhoaaGreatDoor
