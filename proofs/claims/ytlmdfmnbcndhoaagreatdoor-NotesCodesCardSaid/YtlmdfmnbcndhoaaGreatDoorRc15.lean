/-
  Lemmas, part 15. Conditions: each theorem's own.
-/
import Derived.Test.YtlmdfmnbcndhoaaGreatDoorRc14
import Derived.Laws.RangeAny
open Option renaming none→U,some→Z
open Bool renaming false→E,true→Q
open Go.Value renaming bool→G,int→D,string→W
open Go.IntKind renaming i64→J
namespace Go.Proofs.YtlmdfmnbcndhoaaGreatDoor
open Go.RowKit
def nfN (far:Bool):List UInt8:=if far then [102] else [110]
def brN (x:Nst):List UInt8:=zAl x.f++nfN x.far
def zRr (x:Nst×Bool):List UInt8:=brN x.1++zAX x.2
def zJz (P:List (Nst×Bool)) (x:Nst):List UInt8:=(if P=[] then [] else Lib.join (P.map zRr) [44]++[60])++brN x
def frI (n:Nop):List UInt8:=match n.fr with | some x=>brN x | none=>[]
def zTu (n:Nop):List UInt8 :=
 if n.kind=4 then zAX n.over
 else if n.kind=3 then (if n.path=[] then [] else Lib.join (n.path.map zRr) [44]++[60])++frI n
 else if n.kind=5 then frI n++zAX n.over
 else if n.kind=6∨n.kind=7 then frN n++zAX n.over
 else []
def zHC (n:Nop):List UInt8:=zAl n.f++zJd n.kind++zTu n
def zXB (x:Nst):Prop:=x.f.p=1∧x.l=0∧x.pc=0
def zXC (n:Nop):Prop:=n.f.p=1∧(∀x,n.fr=Z x→zXB x)∧∀y∈n.path,zXB y.1
def simN (x:Nst):Prop:=zAo x.f=Q∧zXB x
theorem simN.ok {x:Nst} (h:simN x):zCV x:=⟨h.1,by rw [h.2.2.1];omega,by rw [h.2.2.1];omega,by rw [h.2.2.2];omega,by rw [h.2.2.2];omega⟩
theorem simN.is {x:Nst} (h:simN x):x=⟨x.f,0,x.far,0⟩:=by
 obtain ⟨f,l,far,pc⟩:=x;have h1:=h.2.2.1;have h2:=h.2.2.2;simp only at h1 h2;subst h1;subst h2;rfl
theorem zRQ {f:Fg} (hf:zAo f=Q) (h1:f.p=1):zAl f=[(if f.r then 82 else 76),UInt8.ofNat (48+f.d.toNat)]:=by
 obtain ⟨a1,a2,a3,a4⟩:=zAs.1 hf;unfold zAl;rw [if_pos h1,zCu a3 (by omega)];rfl
theorem zLN {f:Fg} (hf:zAo f=Q) (h1:f.p=1) (r:List UInt8):zFL (zAl f++r)=Z (f,r):=by
 have h2:=zRQ hf h1;have hp:=zCD hf h2;rw [h2];simp only [List.cons_append,List.nil_append,zFL,hp,if_pos h1]
theorem zMH {S r:List UInt8} {f:Fg} (h:zFL S=Z (f,r)):zAo f=Q∧f.p=1∧S=zAl f++r:=by
 match S,h with
 | [],h=>simp [zFL] at h
 | [x],h=>simp [zFL] at h
 | x :: y :: q,h =>
  simp only [zFL] at h
  cases hp:zGu [x,y] with
  | none=>rw [hp] at h;simp at h
  | some g =>
   rw [hp] at h;simp only at h;split at h
   ·rename_i h1;simp only [Option.some.injEq,Prod.mk.injEq] at h;obtain ⟨rfl,rfl⟩:=h;obtain ⟨k1,k2⟩:=zHq hp;exact ⟨k1,h1,by rw [k2];rfl⟩
   ·cases h
noncomputable def zBj (S:List UInt8):Option (Fg×Bool×List UInt8) :=
 match zFL S with
 | some (f,x :: r)=>if x=110 then Z (f,E,r) else if x=102 then Z (f,Q,r) else U
 | _=>U
theorem zFr {x:Nst} (h:simN x) (r:List UInt8):zBj (brN x++r)=Z (x.f,x.far,r):=by
 unfold zBj brN;rw [List.append_assoc,zLN h.1 h.2.1]
 cases x.far<;>rfl
theorem zGR {S r:List UInt8} {f:Fg} {far:Bool} (h:zBj S=Z (f,far,r)):simN ⟨f,0,far,0⟩∧S=brN ⟨f,0,far,0⟩++r:=by
 unfold zBj at h;split at h
 ·rename_i g x q hc;obtain ⟨k1,k2,k3⟩:=zMH hc;split at h
  ·rename_i hx;simp only [Option.some.injEq,Prod.mk.injEq] at h;obtain ⟨rfl,rfl,rfl⟩:=h;exact ⟨⟨k1,k2,rfl,rfl⟩,by rw [k3,hx];simp [brN,nfN]⟩
  ·split at h
   ·rename_i hx;simp only [Option.some.injEq,Prod.mk.injEq] at h;obtain ⟨rfl,rfl,rfl⟩:=h;exact ⟨⟨k1,k2,rfl,rfl⟩,by rw [k3,hx];simp [brN,nfN]⟩
   ·cases h
 ·cases h
def zCP:List UInt8→Option (Bool×List UInt8)
 | []=>U
 | x :: r=>if x=111 then Z (Q,r) else if x=117 then Z (E,r) else U
theorem zHD (b:Bool) (r:List UInt8):zCP (zAX b++r)=Z (b,r):=by cases b<;>rfl
theorem zHE {S r:List UInt8} {b:Bool} (h:zCP S=Z (b,r)):S=zAX b++r:=by
 match S,h with
 | x :: S,h =>
  rw [zCP] at h;by_cases h1:x=111
  ·rw [if_pos h1] at h;simp only [Option.some.injEq,Prod.mk.injEq] at h;obtain ⟨rfl,rfl⟩:=h;rw [h1];rfl
  ·rw [if_neg h1] at h;by_cases h2:x=117
   ·rw [if_pos h2] at h;simp only [Option.some.injEq,Prod.mk.injEq] at h;obtain ⟨rfl,rfl⟩:=h;rw [h2];rfl
   ·rw [if_neg h2] at h;cases h
noncomputable def zFW:Nat→List (Nst×Bool)→List UInt8→Option (List (Nst×Bool)×Nst)
 | 0,_,_=>U
 | n+1,P,s =>
  match zBj s with
  | none=>U
  | some (f,far,s1) =>
   if s1=[]∧P=[] then Z ([],⟨f,0,far,0⟩)
   else match zCP s1 with
    | none=>U
    | some (_,[])=>U
    | some (o,c :: s2) =>
     if c=44 then zFW n (P++[(⟨f,0,far,0⟩,o)]) s2
     else if c=60 then match zBj s2 with
      | some (g,bX,[])=>Z (P++[(⟨f,0,far,0⟩,o)],⟨g,0,bX,0⟩)
      | _=>U
     else U
theorem zJA (x y:Nst×Bool) (R:List (Nst×Bool)):Lib.join ((x :: y :: R).map zRr) [44]=zRr x++[44]++Lib.join ((y :: R).map zRr) [44]:=by
 simp only [List.map_cons];exact zGO _ _ _ _
theorem zMI:∀(n:Nat) {P ZS:List (Nst×Bool)} {x:Nst} {s:List UInt8},zFW n P s=Z (ZS,x) →
  ∃R,ZS=P++R∧(R≠[]∨P=[])∧(∀y∈R,simN y.1)∧simN x∧s=zJz R x
 | 0,P,ZS,x,s,h=>by simp [zFW] at h
 | n+1,P,ZS,x,s,h=>by
  rw [zFW] at h;split at h
  ·cases h
  ·rename_i f far s1 hs;obtain ⟨a1,a2⟩:=zGR hs;split at h
   ·rename_i hc;obtain ⟨rfl,rfl⟩:=hc;simp only [Option.some.injEq,Prod.mk.injEq] at h;obtain ⟨rfl,rfl⟩:=h;exact ⟨[],rfl,.inr rfl,by simp,a1,by rw [a2];simp [zJz]⟩
   ·split at h
    ·cases h
    ·cases h
    ·rename_i o c s2 hf;have b:=zHE hf;split at h
     ·rename_i h44;obtain ⟨R,r1,r2,r3,r4,r5⟩:=zMI n h;have hR:R≠[]:=by
       rcases r2 with r2 | r2
       ·exact r2
       ·simp at r2
      obtain ⟨y,R,rfl⟩:∃y R',R=y :: R':=by
       cases R with
       | nil=>exact absurd rfl hR
       | cons y R=>exact ⟨y,R,rfl⟩
      refine ⟨(⟨f,0,far,0⟩,o) :: y :: R,by rw [r1];simp,.inl (by simp),fun z hz=>?_,r4,?_⟩
      ·rcases List.mem_cons.1 hz with rfl | hz
       ·exact a1
       ·exact r3 z hz
      ·rw [a2,b,h44,r5];unfold zJz;rw [if_neg (by simp),if_neg (by simp),zJA];simp [zRr]
     ·split at h
      ·rename_i h60;split at h
       ·rename_i g bX fZ;obtain ⟨c1,c2⟩:=zGR fZ;simp only [Option.some.injEq,Prod.mk.injEq] at h;obtain ⟨rfl,rfl⟩:=h;refine ⟨[(⟨f,0,far,0⟩,o)],rfl,.inl (by simp),fun z hz=>?_,c1,?_⟩
        ·simp only [List.mem_singleton] at hz;subst hz;exact a1
        ·rw [a2,b,h60,c2];unfold zJz;rw [if_neg (by simp)];simp only [List.map_cons,List.map_nil,Lib.join_one];simp [zRr]
       ·cases h
      ·cases h
theorem zMJ {x:Nst} (hx:simN x):∀(n:Nat) (P R:List (Nst×Bool)),R.length < n→(R≠[]∨P=[])→(∀y∈R,simN y.1)→zFW n P (zJz R x)=Z (P++R,x)
 | 0,P,R,h,_,_=>absurd h (by omega)
 | n+1,P,[],_,h2,_=>by
  have hP:P=[]:=by
   rcases h2 with h | h
   ·exact absurd rfl h
   ·exact h
  subst hP;have hs:=zFr hx [];rw [List.append_nil] at hs;rw [zFW,show zJz [] x=brN x from by simp [zJz],hs];simp only [and_self,if_true];rw [←hx.is];rfl
 | n+1,P,[y],_,_,h3=>by
  have hy:=h3 y (List.mem_cons_self ..);have e:zJz [y] x=brN y.1++(zAX y.2++60 :: brN x):=by
   unfold zJz;rw [if_neg (by simp)];simp only [List.map_cons,List.map_nil,Lib.join_one];simp [zRr]
  have hs:=zFr hx [];rw [List.append_nil] at hs;rw [zFW,e,zFr hy];simp only;rw [if_neg (by cases y.2<;>simp [zAX]),zHD];simp only [show ((60:UInt8)=44)=False from by simp,if_false,if_true,hs];rw [←hx.is,←hy.is]
 | n+1,P,y :: z :: R,h1,_,h3=>by
  have hy:=h3 y (List.mem_cons_self ..);have e:zJz (y :: z :: R) x=brN y.1++(zAX y.2++44 :: zJz (z :: R) x):=by
   unfold zJz;rw [if_neg (by simp),if_neg (by simp),zJA];simp [zRr]
  rw [zFW,e,zFr hy];simp only;rw [if_neg (by cases y.2<;>simp [zAX]),zHD];simp only [if_true];rw [←hy.is,zMJ hx n (P++[(y.1,y.2)]) (z :: R) (by simp at h1 ⊢;omega) (.inl (by simp)) (fun w hw=>h3 w (List.mem_cons_of_mem _ hw))];simp
def zAL (b:UInt8):Int:=if b=45 then 1 else if b=94 then 2 else if b=60 then 3 else if b=126 then 4 else if b=61 then 5 else if b=42 then 6 else if b=37 then 7 else if b=33 then 8 else 0
noncomputable def zRR (f:Fg) (s:List UInt8):Option Nop:=match zCP s with
 | some (o,[])=>Z ⟨4,f,U,[],o⟩
 | _=>U
noncomputable def zUx (f:Fg) (s:List UInt8):Option Nop:=match zFW (s.length+1) [] s with
 | some (P,x)=>Z ⟨3,f,Z x,P,E⟩
 | none=>U
noncomputable def zRS (f:Fg) (s:List UInt8):Option Nop:=match zBj s with
 | some (g,far,s1)=>match zCP s1 with
  | some (o,[])=>Z ⟨5,f,Z ⟨g,0,far,0⟩,[],o⟩
  | _=>U
 | none=>U
noncomputable def zRT (k:Int) (f:Fg) (s:List UInt8):Option Nop:=match zFL s with
 | some (g,s1)=>match zCP s1 with
  | some (o,[])=>Z ⟨k,f,Z ⟨g,0,E,0⟩,[],o⟩
  | _=>U
 | none=>U
noncomputable def zAJ (S:List UInt8):Option Nop :=
 match zFL S with
 | some (f,b :: s) =>
  if zAL b=4 then zRR f s
  else if zAL b=3 then zUx f s
  else if zAL b=5 then zRS f s
  else if zAL b=6∨zAL b=7 then zRT (zAL b) f s
  else if zAL b=0 then U
  else if s=[] then Z ⟨zAL b,f,U,[],E⟩ else U
 | _=>U
theorem zDX {b:UInt8} (h:zAL b≠0):1≤zAL b∧zAL b≤8∧zJd (zAL b)=[b]:=by
 unfold zAL at h ⊢
 repeat (split;· rename_i e;subst e;exact ⟨by omega,by omega,rfl⟩)
 exact absurd (by repeat (rw [if_neg (by assumption)])) h
theorem zUy {k:Int} (h1:1≤k) (h8:k≤8):∃b,zJd k=[b]∧zAL b=k:=by
 have hk:k=1∨k=2∨k=3∨k=4∨k=5∨k=6∨k=7∨k=8:=by omega
 rcases hk with rfl | rfl | rfl | rfl | rfl | rfl | rfl | rfl<;>exact ⟨_,rfl,rfl⟩
theorem zFX {S:List UInt8} {n:Nop} (h:zAJ S=Z n):okN n∧zXC n∧S=zHC n:=by
 unfold zAJ at h;split at h
 ·rename_i f b s hc;obtain ⟨k1,k2,k3⟩:=zMH hc;by_cases e4:zAL b=4
  ·rw [if_pos e4] at h;have hb:=(zDX (b:=b) (by omega)).2.2;unfold zRR at h;split at h
   ·rename_i o ho;simp only [Option.some.injEq] at h;subst h;refine ⟨⟨k1,.inr (.inl ⟨rfl,rfl,rfl⟩)⟩,⟨k2,by simp,by simp⟩,?_⟩;rw [k3,zHE ho,zHC,zTu];simp only [if_true];rw [e4] at hb;rw [hb];simp
   ·cases h
  rw [if_neg e4] at h;by_cases e3:zAL b=3
  ·rw [if_pos e3] at h;have hb:=(zDX (b:=b) (by omega)).2.2;unfold zUx at h;split at h
   ·rename_i P x hp;simp only [Option.some.injEq] at h;subst h;obtain ⟨R,r1,r2,r3,r4,r5⟩:=zMI _ hp;rw [List.nil_append] at r1;subst r1;refine ⟨⟨k1,.inr (.inr (.inl ⟨rfl,⟨x,rfl,r4.ok⟩,fun y hy=>(r3 y hy).ok,rfl⟩))⟩,⟨k2,fun y hy=>by injection hy with hy;subst hy;exact r4.2,fun y hy=>(r3 y hy).2⟩,?_⟩;rw [k3,r5,zHC,zTu];simp only [if_true,show ¬((3:Int)=4) from by omega,if_false,frI];rw [e3] at hb;rw [hb];simp [zJz]
   ·cases h
  rw [if_neg e3] at h;by_cases e5:zAL b=5
  ·rw [if_pos e5] at h;have hb:=(zDX (b:=b) (by omega)).2.2;unfold zRS at h;split at h
   ·rename_i g far s1 hs;obtain ⟨c1,c2⟩:=zGR hs;split at h
    ·rename_i o ho;simp only [Option.some.injEq] at h;subst h;refine ⟨⟨k1,.inr (.inr (.inr (.inl ⟨rfl,⟨_,rfl,c1.ok⟩,rfl⟩)))⟩,⟨k2,fun y hy=>by injection hy with hy;subst hy;exact c1.2,by simp⟩,?_⟩;rw [k3,c2,zHE ho,zHC,zTu];simp only [if_true,show ¬((5:Int)=4) from by omega,show ¬((5:Int)=3) from by omega,if_false,frI];rw [e5] at hb;rw [hb];simp
    ·cases h
   ·cases h
  rw [if_neg e5] at h;by_cases e6:zAL b=6∨zAL b=7
  ·rw [if_pos e6] at h;have hb:=(zDX (b:=b) (by omega)).2.2;unfold zRT at h;split at h
   ·rename_i g s1 hs;obtain ⟨c0,c1,c2⟩:=zMH hs;split at h
    ·rename_i o ho;simp only [Option.some.injEq] at h;subst h;refine ⟨⟨k1,.inr (.inr (.inr (.inr ⟨e6,⟨_,rfl,c0⟩,rfl⟩)))⟩,⟨k2,fun y hy=>by injection hy with hy;subst hy;exact ⟨c1,rfl,rfl⟩,by simp⟩,?_⟩;rw [k3,c2,zHE ho,zHC,zTu];simp only [if_neg e4,if_neg e3,if_neg e5,if_pos e6,frN];rw [hb];simp
    ·cases h
   ·cases h
  rw [if_neg e6] at h;by_cases e0:zAL b=0
  ·rw [if_pos e0] at h;cases h
  rw [if_neg e0] at h;obtain ⟨u1,u2,hb⟩:=zDX (b:=b) e0;split at h
  ·rename_i hs;simp only [Option.some.injEq] at h;subst h;refine ⟨⟨k1,.inl ⟨by simp only;omega,rfl,rfl,rfl⟩⟩,⟨k2,by simp,by simp⟩,?_⟩;rw [k3,hs,zHC,zTu];simp only [if_neg e4,if_neg e3,if_neg e5,if_neg e6];rw [hb];simp
  ·cases h
 ·cases h
theorem zPE {P:List (Nst×Bool)} (x:Nst):P.length≤(zJz P x).length:=by
 induction P with
 | nil=>simp
 | cons y P ih =>
  cases P with
  | nil=>unfold zJz;rw [if_neg (by simp)];simp;omega
  | cons z P =>
   unfold zJz at ih ⊢;rw [if_neg (by simp)] at ih ⊢;rw [zJA];simp only [List.length_append,List.length_cons,List.length_nil] at ih ⊢;omega
theorem zUz {n:Nop} (h:okN n) (hc:zXC n):zAJ (zHC n)=Z n:=by
 obtain ⟨hf,hk⟩:=h;obtain ⟨c1,c2,c3⟩:=hc;obtain ⟨k,f,fr,path,over⟩:=n;unfold zKA at hk;simp only at hf hk c1 c2 c3;have fB:1≤k∧k≤8:=by
  rcases hk with ⟨h,_⟩ | ⟨h,_⟩ | ⟨h,_⟩ | ⟨h,_⟩ | ⟨h,_⟩<;>omega
 obtain ⟨b,ah,ab⟩:=zUy fB.1 fB.2;unfold zAJ zHC;simp only;rw [ah,List.append_assoc,List.singleton_append,zLN hf c1];simp only;rw [ab];unfold zTu;simp only;rcases hk with ⟨e,rfl,rfl,rfl⟩ | ⟨rfl,rfl,rfl⟩ | ⟨rfl,⟨x,rfl,hx⟩,hp,rfl⟩ | ⟨rfl,⟨x,rfl,hx⟩,rfl⟩ | ⟨e,⟨g,rfl,hg⟩,rfl⟩
 ·have n4:¬k=4:=by omega
  have n3:¬k=3:=by omega
  have n5:¬k=5:=by omega
  have n6:¬(k=6∨k=7):=by omega
  have n0:¬k=0:=by omega
  simp only [if_neg n4,if_neg n3,if_neg n5,if_neg n6,if_neg n0,if_true]
 ·have hfl:=zHD over [];rw [List.append_nil] at hfl;simp only [if_true,zRR];rw [hfl]
 ·have jp:simN x:=⟨hx.1,c2 x rfl⟩;have hp2:=zMJ jp ((zJz path x).length+1) [] path (by have:=zPE (P:=path) x;omega) (.inr rfl) (fun y hy=>⟨(hp y hy).1,c3 y hy⟩);simp only [show ¬((3:Int)=4) from by omega,if_false,if_true,frI];rw [show (if path=[] then [] else Lib.join (path.map zRr) [44]++[60])++brN x=zJz path x from rfl];unfold zUx;rw [hp2];rfl
 ·have jp:simN x:=⟨hx.1,c2 x rfl⟩;have hfl:=zHD over [];rw [List.append_nil] at hfl;simp only [show ¬((5:Int)=4) from by omega,show ¬((5:Int)=3) from by omega,if_false,if_true,frI];unfold zRS;rw [zFr jp];simp only;rw [hfl];simp only;rw [←jp.is]
 ·have n4:¬k=4:=by omega
  have n3:¬k=3:=by omega
  have n5:¬k=5:=by omega
  have hfl:=zHD over [];rw [List.append_nil] at hfl;simp only [if_neg n4,if_neg n3,if_neg n5,if_pos e,frN];unfold zRT;rw [zLN hg (c2 _ rfl).1];simp only;rw [hfl]
def zXg (L:List Fg) (s:Sg):Nst:=⟨fa L (s.f-1).toNat,s.l,s.far,s.pc⟩
def zXD (L:List Fg) (x:Sp):Nst×Bool:=(zXg L x.s,x.over)
def nOf (L:List Fg) (o:Og):Nop:=⟨o.kind,fa L (o.f-1).toNat,if o.fr.f=0 then U else Z (zXg L o.fr),o.path.map (zXD L),o.over⟩
section
variable {L:List Fg} {re lo:Int}
theorem zID {f:Fg} (h:zAM L f≠0):fa L ((zAM L f:Int)-1).toNat=f:=by
 obtain ⟨i,hi⟩:∃i,zAM L f=i+1:=⟨zAM L f-1,by omega⟩
 have h2:=(zHe hi).1;rw [show ((zAM L f:Int)-1).toNat=i by omega];exact zXo h2
theorem zFs {k:Nat} {o:Og} (h1:1≤o.f) (h2:o.f≤(k:Int)) (hp:∀x∈o.path,zAR k x.s=Q)
  (h:(o.kind=1∨o.kind=2∨o.kind=8)∧o.fr=s0∧o.path=[]∧o.over=E
   ∨ o.kind=4∧o.fr=s0∧o.path=[]
   ∨ o.kind=3∧zAR k o.fr=Q∧o.over=E
   ∨ o.kind=5∧zAR k o.fr=Q∧o.path=[]
   ∨ (o.kind=6∨o.kind=7)∧zAR k o.fr=Q∧o.fr=⟨o.fr.f,0,E,0⟩∧o.path=[]):zAq k o=Q:=by
 have h3:o.kind=3∨o.path=[]:=by
  rcases h with h | h | h | h | h
  ·exact .inr h.2.2.1
  ·exact .inr h.2.2
  ·exact .inl h.1
  ·exact .inr h.2.2
  ·exact .inr h.2.2.2
 have hr:zDN k o=Q:=by
  unfold zDN;rcases h with ⟨e,h,_,h'⟩ | ⟨e,h,_⟩ | ⟨e,h,h'⟩ | ⟨e,h,_⟩ | ⟨e,h,h',_⟩
  ·rw [if_pos e,h,h'];rfl
  ·rw [if_neg (by omega),if_pos e,h];rfl
  ·rw [if_neg (by omega),if_neg (by omega),if_pos e,h,h'];rfl
  ·rw [if_neg (by omega),if_neg (by omega),if_neg (by omega),if_pos e,h]
  ·rw [if_neg (by omega),if_neg (by omega),if_neg (by omega),if_neg (by omega),if_pos e,h,←h',zLx.2 rfl];rfl
 unfold zAq;rw [hr];simp only [Bool.and_eq_true,decide_eq_true_eq,Bool.or_eq_true,List.all_eq_true,and_true];exact ⟨⟨⟨h1,h2⟩,h3⟩,hp⟩
theorem zWe {x:Nst} (h:zCV x) (hg:zBE L x.f=E):zAR L.length (sOf L x)=Q∧zXg L (sOf L x)=x∧¬(sOf L x).f=0:=by
 have h0:zAM L x.f≠0:=by simpa [zBE] using hg
 have hl:=zDo (f:=x.f) (L:=L);refine ⟨zAC.2 ⟨by simp only [sOf];omega,by simp only [sOf];omega,h.2.1,h.2.2.1,h.2.2.2.1,h.2.2.2.2⟩,?_,by simp only [sOf];omega⟩;unfold zXg sOf;simp only;rw [zID h0]
theorem o_ok {n:Nop} (h:okN n) (hl:zAE L n=E):zAq L.length (oOf L n)=Q∧nOf L (oOf L n)=n:=by
 obtain ⟨h1,h2⟩:=h;unfold zAE at hl;simp only [Bool.or_eq_false_iff] at hl;obtain ⟨⟨l1,l2⟩,l3⟩:=hl;have h0:zAM L n.f≠0:=by simpa [zBE] using l1
 have hle:=zDo (f:=n.f) (L:=L);have hpath:∀y∈n.path,zBE L y.1.f=E:=fun y hy=>by
  have:=(List.any_eq_false.1 l2) y hy;simpa using this
 obtain ⟨kind,f,fr,path,over⟩:=n;unfold zKA at h2;simp only at h1 h2 l1 l3 h0 hle hpath;have hpm:(∀y∈path,zCV y.1)→(path.map (pOf L)).map (zXD L)=path:=fun hp=>by
  rw [List.map_map]
  conv=>rhs;rw [←List.map_id path]
  refine List.map_congr_left fun x hx=>?_
  simp only [Function.comp,zXD,pOf,id];rw [(zWe (hp x hx) (hpath x hx)).2.1]
 have hpn:(∀y∈path,zCV y.1)→∀x∈path.map (pOf L),zAR L.length x.s=Q:=fun hp x hx=>by
  obtain ⟨y,hy,rfl⟩:=List.mem_map.1 hx;exact (zWe (hp y hy) (hpath y hy)).1
 rcases h2 with ⟨e,rfl,rfl,rfl⟩ | ⟨e,rfl,rfl⟩ | ⟨e,⟨x,rfl,hx⟩,hp,rfl⟩ | ⟨e,⟨x,rfl,hx⟩,rfl⟩ | ⟨e,⟨g,rfl,hx⟩,rfl⟩
 ·refine ⟨zFs (by simp only [oOf];omega) (by simp only [oOf];omega) (by simp [oOf]) (.inl ⟨e,rfl,rfl,rfl⟩),?_⟩;unfold nOf oOf;simp only [zID h0];rfl
 ·refine ⟨zFs (by simp only [oOf];omega) (by simp only [oOf];omega) (by simp [oOf]) (.inr (.inl ⟨e,rfl,rfl⟩)),?_⟩;unfold nOf oOf;simp only [zID h0];rfl
 ·obtain ⟨a1,a2,a3⟩:=zWe hx l3;refine ⟨zFs (by simp only [oOf];omega) (by simp only [oOf];omega) (hpn hp) (.inr (.inr (.inl ⟨e,a1,rfl⟩))),?_⟩;unfold nOf oOf;simp only [zID h0,Option.map_some,Option.getD_some,if_neg a3,a2,hpm hp]
 ·obtain ⟨a1,a2,a3⟩:=zWe hx l3;refine ⟨zFs (by simp only [oOf];omega) (by simp only [oOf];omega) (by simp [oOf]) (.inr (.inr (.inr (.inl ⟨e,a1,rfl⟩)))),?_⟩;unfold nOf oOf;simp only [zID h0,Option.map_some,Option.getD_some,if_neg a3,a2];rfl
 ·have hxo:zCV ⟨g,0,E,0⟩:=⟨hx,by simp,by simp,by simp,by simp⟩;obtain ⟨a1,a2,a3⟩:=zWe (L:=L) hxo l3;refine ⟨zFs (by simp only [oOf];omega) (by simp only [oOf];omega) (by simp [oOf]) (.inr (.inr (.inr (.inr ⟨e,a1,rfl,rfl⟩)))),?_⟩;unfold nOf oOf;simp only [zID h0,Option.map_some,Option.getD_some,if_neg a3,a2];rfl
end
theorem zEo {S:List UInt8} (h:¬(S≠[]∧S.length≤9∧S.head?≠Z 48∧S.all zKB=Q)):zAr S=(0,E):=by unfold zAr;rw [if_neg h]
theorem zMK {S:List UInt8} {pos:Nat} {b:UInt8} (h:S[pos]? = Z b):zGG 0 (S.take (pos+1))=10*zGG 0 (S.take pos)+(b.toNat-48):=by
 rw [List.take_add_one,h];exact zGQ _ _ _
theorem zTv:∀(S:List UInt8),(∀b∈S,zKB b=Q)→zGG 0 S < 10 ^ S.length:=by
 intro S;generalize hn:S.length=n
 induction n generalizing S with
 | zero=>intro _;rw [List.length_eq_zero_iff.1 hn];simp [zGG]
 | succ n ih =>
  intro h;have h0:S≠[]:=fun e=>by rw [e] at hn;simp at hn
  obtain ⟨I,b,rfl⟩:∃I b,S=I++[b]:=⟨S.dropLast,S.getLast h0,(List.dropLast_concat_getLast h0).symm⟩
  have:=ih I (by simpa using hn) (fun x hx=>h x (List.mem_append_left _ hx));have hb:=zFp (h b (by simp));rw [zGQ,Nat.pow_succ];omega
theorem zPF {S:List UInt8} {pos:Nat} (h:pos < S.length) (hs:pos < (bA S).size):∃b,S[pos]? = Z b∧(bA S)[pos]'hs=b:=by
 refine ⟨S[pos],List.getElem?_eq_getElem h,?_⟩;simp only [bA,ByteArray.getElem_eq_getElem_data];rfl
theorem zLO {a b:Int} {p q:Bool} (h:(a,p)=(b,q)):Ending.returned (.tuple #[D J a,G p])=.returned (.tuple #[D J b,G q]):=by
 injection h with h1 h2
 rw [h1,h2]
set_option maxHeartbeats 3200000 in
theorem zHF (S:List UInt8) (w:World) :
  Calls Tryz.prog 129 #[W (bA S)] w fun e w'=>e=.returned (.tuple #[D J (zAr S).1,G (zAr S).2])∧Below w.heap.size w w':=by
 have n0:=zAH S [];have hs:=zCU S;obtain ⟨v,ok,HC⟩:∃v ok,Hid (zAr S=(v,ok)):=⟨_,_,qH rfl⟩
 rw [show (zAr S).1=v from by rw [HC.out],show (zAr S).2=ok from by rw [HC.out]];obtain ⟨nS,dz⟩:∃n,S.length=n:=⟨_,rfl⟩
 rw [dz] at hs;by_cases h0:S=[]
 ·have hr:=qH (show zAr S=(0,E) from zEo fun h=>h.1 h0);rw [show (S==([]:List UInt8))=Q from by rw [h0];rfl] at n0;clear h0 dz;go_enter Tryz.func129,Tryz.ntmps129;go_wp2_with fail
  go_ret2;exact ⟨zLO (hr.out.symm.trans HC.out),Below.refl _ _⟩
 rw [show (S==([]:List UInt8))=E from by simpa using h0] at n0;by_cases hl:9 < nS
 ·have hr:=qH (show zAr S=(0,E) from zEo fun h=>by omega);have i0:(9:Int) < (nS:Int):=by omega
  clear h0 dz hl;go_enter Tryz.func129,Tryz.ntmps129;go_wp2_with fail
  go_ret2;exact ⟨zLO (hr.out.symm.trans HC.out),Below.refl _ _⟩
 have i0:¬(9:Int) < (nS:Int):=by omega
 obtain ⟨x,r,hx⟩:∃x r,S=x :: r:=by
  cases S with
  | nil=>exact absurd rfl h0
  | cons x r=>exact ⟨x,r,rfl⟩
 have s1:=zDc x r;rw [←hx] at s1;by_cases h48:x=48
 ·have hr:=qH (show zAr S=(0,E) from zEo fun h=>h.2.2.1 (by rw [hx,h48];rfl));rw [show ((x.toNat:Nat):Int)=48 from by rw [h48];rfl] at s1;clear h0 dz hl h48 hx;go_enter Tryz.func129,Tryz.ntmps129;go_wp2_with fail
  go_ret2;exact ⟨zLO (hr.out.symm.trans HC.out),Below.refl _ _⟩
 have k1:((x.toNat:Int)==48)=E:=by
  simp only [beq_eq_false_iff_ne,ne_eq];intro e;exact h48 (UInt8.toNat.inj (show x.toNat=48 by omega))
 have HS:=qH (show S≠[]∧S.length≤9∧S.head?≠Z 48 from ⟨h0,by omega,by rw [hx];simpa using h48⟩);have HN:=qH dz;have EF:nS≤9:=by omega
 clear h0 dz hl h48 hx;go_enter Tryz.func129,Tryz.ntmps129;go_wp2_with fail
 go_loopw [4] (fun v wr=>∃(pos V:Nat),wr=w.iter (bA S) pos∧v=D J V∧pos≤nS∧Hid (V=zGG 0 (S.take pos))∧Hid (∀b∈S.take pos,zKB b=Q)) (fun _ wr=>nS-wr.iterPos w.heap.size)
 case atStart=>exact ⟨0,0,rfl,rfl,by omega,qH rfl,qH (by simp)⟩
 case round =>
  obtain ⟨pos,V,rfl,rfl,hpos,HV,HD⟩:=hrel;by_cases hp:pos < nS
  ·have hps:pos < (bA S).size:=by rw [hs];exact hp
   obtain ⟨b,ah,ab⟩:=zPF (S:=S) (pos:=pos) (by rw [HN.out];exact hp) hps;by_cases ha:b.toNat < 128
   ·have hnx:∀ty,(Instr.next (.pointer (Z ⟨w.heap.size,0,U⟩)) Q ty).run Tryz.prog (w.iter (bA S) pos)=.ok (.tuple #[G Q,D J pos,D .i32 b.toNat]) (w.iter (bA S) (pos+1)):=fun ty=>by
     rw [run_next_ascii w (bA S) pos ty hps (by rw [ab];exact ha),ab]
    by_cases hd:zKB b=Q
    ·obtain ⟨d1,d2⟩:=zFp hd;obtain ⟨B,hB⟩:∃B:Nat,b.toNat=B:=⟨_,rfl⟩
     rw [hB] at hnx d1 d2;have j1:¬((B:Int) < 48):=by omega
     have j2:¬((57:Int) < (B:Int)):=by omega
     have hV:V < 1000000000:=by
      have:=zTv _ HD.out;rw [←HV.out] at this;have h3:(S.take pos).length≤9:=by rw [List.length_take];omega
      have:=Nat.pow_le_pow_right (n:=10) (by omega) h3;omega
     have HB:=qH (show zGG 0 (S.take (pos+1))=10*V+(B-48)∧∀y∈S.take (pos+1),zKB y=Q by
      rw [zMK ah,HV.out,hB]
      refine ⟨rfl,fun y hy=>?_⟩
      rw [List.take_add_one,ah] at hy
      rcases List.mem_append.1 hy with hy | hy
      ·exact HD.out y hy
      ·simp at hy;rw [hy];exact hd)
     clear hd ha ah ab hB hps HV HD;go_wp2_with fail
     go_roundw
     case rel=>exact ⟨pos+1,10*V+(B-48),rfl,by congr 1;simp;omega,by omega,qH HB.out.1.symm,qH HB.out.2⟩
     case measure=>simp;omega
    ·have hr:=qH (show zAr S=(0,E) from zEo fun h=>hd ((List.all_eq_true.1 h.2.2.2) b (List.mem_of_getElem? ah)));have hbel:=qH (show Below w.heap.size w (w.iter (bA S) (pos+1)) from (Below.refl _ _).alloc (Nat.le_refl _) _);obtain ⟨B,hB⟩:∃B:Nat,b.toNat=B:=⟨_,rfl⟩
     rw [hB] at hnx;by_cases hlt:(B:Int) < 48
     ·clear hd ha ah ab hB hps HV HD;go_wp2_with fail
      go_ret2;exact ⟨zLO (hr.out.symm.trans HC.out),hbel.out⟩
     ·have hgt:(57:Int) < (B:Int):=by
       have:¬(48≤b.toNat∧b.toNat≤57):=fun e=>hd (by simp [zKB,e])
       omega
      clear hd ha ah ab hB hps HV HD;go_wp2_with fail
      go_ret2;exact ⟨zLO (hr.out.symm.trans HC.out),hbel.out⟩
   ·obtain ⟨R,q,hnx,hR⟩:∃(R q:Nat),(∀ty,(Instr.next (.pointer (Z ⟨w.heap.size,0,U⟩)) Q ty).run Tryz.prog (w.iter (bA S) pos)=.ok (.tuple #[G Q,D J pos,D .i32 R]) (w.iter (bA S) q))∧128≤R :=
     ⟨_,_,fun ty=>run_next_any w (bA S) pos ty hps,(decode_high (bA S) pos hps (by rw [ab];omega)).1⟩
    have hr:=qH (show zAr S=(0,E) from zEo fun h=>by
     have:=zFp ((List.all_eq_true.1 h.2.2.2) b (List.mem_of_getElem? ah))
     omega)
    have hbel:=qH (show Below w.heap.size w (w.iter (bA S) q) from (Below.refl _ _).alloc (Nat.le_refl _) _);have j1:¬((R:Int) < 48):=by omega
    have j2:(57:Int) < (R:Int):=by omega
    clear ha ah ab hps HV HD;go_wp2_with fail
    go_ret2;exact ⟨zLO (hr.out.symm.trans HC.out),hbel.out⟩
  ·have hpe:pos=nS:=by omega
   subst hpe;have hnx:∀ty,(Instr.next (.pointer (Z ⟨w.heap.size,0,U⟩)) Q ty).run Tryz.prog (w.iter (bA S) pos)=_:=fun ty=>run_next_end w (bA S) pos ty (by rw [hs];omega)
   have hr:=qH (show zAr S=((V:Int),Q) by
    have h1:S.take pos=S:=by rw [←HN.out,List.take_length]
    have h2:=HD.out
    have h3:=HV.out
    rw [h1] at h2 h3
    unfold zAr
    rw [if_pos ⟨HS.out.1,HS.out.2.1,HS.out.2.2,List.all_eq_true.2 h2⟩,h3])
   have hbel:=qH (show Below w.heap.size w (w.iter (bA S) pos) from (Below.refl _ _).alloc (Nat.le_refl _) _);clear HV HD HN HS;go_wp2_with fail
   go_ret2;exact ⟨zLO (hr.out.symm.trans HC.out),hbel.out⟩
structure Fm where
 A:Option Addr
 n:Nat
 c:Nat
 L:List Fg
 re:Int
 lo:Int
structure RX (w:World) (rb:Nat) (F:Fm) (s:RS):Prop where
 rd:Rd w rb F.A F.n F.c F.re F.lo s.T s.bad s.lost
 fr:Fgs w F.A F.n F.L
 ne:0 < F.n→∀k,blk F.A=Z k→k < rb
section
variable {w w':World} {rb:Nat} {F:Fm} {s:RS}
theorem RX.lt (h:RX w rb F s):rb < w.heap.size:=by
 obtain ⟨B,m,d,hk,_⟩:=h.rd.ex;exact hk.lt
theorem Els.overBlk {α:Type} {sz:Nat} {enc:α→List Value} {A:Option Addr} {n:Nat} {L:List α} {B:Nat} (h:Els sz enc w A n L) (hb:Below B w w') (hn:0 < n→∀k,blk A=Z k→k < B) (hs:w.heap.size≤w'.heap.size):Els sz enc w' A n L:=by
 refine ⟨h.len,h.le,fun h0=>?_⟩;obtain ⟨g,o,e,hg,hc⟩:=h.2.2 h0;subst e;have hgB:g < B:=hn h0 g rfl;refine ⟨g,o,rfl,Nat.lt_of_lt_of_le hg hs,fun j x hx q v hv=>?_⟩;rw [World.cell?_of_block (w:=w) (w':=w') (hb.block g hgB)];exact hc j x hx q v hv
theorem RX.over (h:RX w rb F s) (hb:Below (rb+1) w w'):RX w' rb F s:=by
 obtain ⟨B,m,d,hk,hT,hmd,hne⟩:=h.rd.ex;exact ⟨⟨B,m,d,hk.below hb (Nat.lt_succ_self _),Els.overBlk hT hb (fun _ k hk=>Nat.lt_succ_of_lt (hne k hk)) hb.size,hmd,hne⟩,⟨Els.overBlk h.fr.1 hb (fun h0 k hk=>Nat.lt_succ_of_lt (h.ne h0 k hk)) hb.size,h.fr.2⟩,h.ne⟩
theorem RX.below (h:RX w rb F s) (hb:Below w.heap.size w w'):RX w' rb F s:=⟨h.rd.below hb,h.fr.below hb,h.ne⟩
theorem RX.bad4 (h:RX w rb F s):w.cell? ⟨rb,4,U⟩=Z (G s.bad)∧w.frozen? ⟨rb,4,U⟩=E:=by
 obtain ⟨B,m,d,hk,_⟩:=h.rd.ex;exact ⟨(hk.cell 4).trans rfl,hk.frozen 4⟩
theorem RX.lost5 (h:RX w rb F s):w.cell? ⟨rb,5,U⟩=Z (G s.lost):=by
 obtain ⟨B,m,d,hk,_⟩:=h.rd.ex;exact (hk.cell 5).trans rfl
theorem RX.marked (h:RX w rb F s) (q b:Bool) (hb:b=(s.bad||q)):RX (w.setCell ⟨rb,4,U⟩ (G b)) rb F (s.mark q)∧w.grownBy (w.setCell ⟨rb,4,U⟩ (G b)) (Z rb):=by
 obtain ⟨B,m,d,hk,hT,hmd,hne⟩:=h.rd.ex;refine ⟨⟨⟨B,m,d,?_,Txts.keepAny hT (zBp _ _) hne,hmd,hne⟩,h.fr.keepR (zBp _ _) h.ne,h.ne⟩,zBp _ _⟩;have:=hk.set_ 4 (G b);rw [hb] at this;unfold RS.mark;simpa [hb] using this
theorem zCG (h:RX w rb F s):Calls Tryz.prog 146 #[.pointer (Z ⟨rb,0,U⟩)] w fun e w'=>e=.returned (W (bA (xa s.T 0)))∧RX w' rb F s.next∧w.grownBy w' (Z rb) :=
 (zHr rb _ _ _ _ _ _ _ _ w h.rd).mono fun _ _ ⟨h1,h2,h3⟩=>⟨h1,⟨h2,h.fr.keepR h3 h.ne,h.ne⟩,h3⟩
theorem zNK (h:RX w rb F s) (ZR:List UInt8):Calls Tryz.prog 148 #[.pointer (Z ⟨rb,0,U⟩),W (bA ZR)] w fun e w'=>e=.returned (G (isB s.T ZR))∧RX w' rb F (s.is ZR)∧w.grownBy w' (Z rb) :=
 (zPq rb _ _ _ _ _ _ _ _ ZR w h.rd).mono fun _ _ ⟨h1,h2,h3⟩=>⟨h1,⟨h2,h.fr.keepR h3 h.ne,h.ne⟩,h3⟩
theorem zCH (h:RX w rb F s) (S:List UInt8):Calls Tryz.prog 128 #[.pointer (Z ⟨rb,0,U⟩),W (bA S)] w fun e w'=>e=.returned (D J (zDE F.L S:Int))∧RX w' rb F (s.fing F.L S)∧w.grownBy w' (Z rb) :=
 (zFl rb _ _ _ F.L _ _ _ _ _ S w h.rd h.fr).mono fun _ _ ⟨h1,h2,h3⟩=>⟨h1,⟨h2,h.fr.keepR h3 h.ne,h.ne⟩,h3⟩
theorem zHG (h:RX w rb F s):Calls Tryz.prog 147 #[.pointer (Z ⟨rb,0,U⟩)] w fun e w'=>e=.returned (G (ovT (xa s.T 0)))∧RX w' rb F s.over∧w.grownBy w' (Z rb) :=
 (zLJ rb _ _ _ _ _ _ _ _ w h.rd).mono fun _ _ ⟨h1,h2,h3⟩=>⟨h1,⟨h2,h.fr.keepR h3 h.ne,h.ne⟩,h3⟩
end
theorem zIE {s:RS} {ZR:List UInt8} (h:isB s.T ZR=E):s.is ZR=s:=by
 obtain ⟨T,bad,lost⟩:=s;unfold RS.is isT;simp only;rw [if_neg (by simpa [isB] using h)]
set_option maxHeartbeats 3200000 in
theorem zFt (rb:Nat) (F:Fm) (s:RS) (ZR:List UInt8) (w:World) (h:RX w rb F s) :
  Calls Tryz.prog 182 #[.pointer (Z ⟨rb,0,U⟩),W (bA ZR)] w fun e w'=>e=.returned (D J (zEW ZR s).1)∧RX w' rb F (zEW ZR s).2∧w.grownBy w' (Z rb):=by
 have H1:=zNK h ZR
 cases hq:isB s.T ZR with
 | false =>
  have hr:zEW ZR s=(0,s):=by unfold zEW;rw [hq];rfl
  rw [hq,zIE hq] at H1;have H1:=qH H1;rw [hr];clear hq h hr;go_enter Tryz.func182,Tryz.ntmps182;go_wp2_with fail
  refine H1.out.mono ?_;rintro e w1 ⟨rfl,h1,g1⟩;go_wp2_with fail
  go_ret;exact ⟨rfl,h1,g1⟩
 | true =>
  obtain ⟨s1,e1⟩:∃s1,s.is ZR=s1:=⟨_,rfl⟩
  obtain ⟨S,eS⟩:∃S,xa s1.T 0=S:=⟨_,rfl⟩
  obtain ⟨b,eb⟩:∃b,s1.next.bad=b:=⟨_,rfl⟩
  obtain ⟨ok,eo⟩:∃b,(zAr S).2=b:=⟨_,rfl⟩
  obtain ⟨v,ev⟩:∃b,(zAr S).1=b:=⟨_,rfl⟩
  have hr:zEW ZR s=(v,s1.next.mark (!ok)):=by
   unfold zEW;rw [hq,←ev,←eo,←eS,←e1];rfl
  rw [hq,e1] at H1;have H1:=qH H1;have H2:=qH (fun wx (hx:RX wx rb F s1)=>(zCG hx).mono fun e w' (hh:_∧_∧_)=>(show e=.returned (W (bA S))∧RX w' rb F s1.next∧wx.grownBy w' (Z rb) by rw [←eS];exact hh));have H3:=qH (fun wx=>(zHF S wx).mono fun e w' (hh:_∧_)=>(show e=.returned (.tuple #[D J v,G ok])∧Below wx.heap.size wx w' by rw [←ev,←eo];exact hh))
  have HM:=qH (fun wx (hx:RX wx rb F s1.next)=>(show wx.cell? ⟨rb,4,U⟩=Z (G b)∧wx.frozen? ⟨rb,4,U⟩=E∧∀q,q=(b||!ok)→RX (wx.setCell ⟨rb,4,U⟩ (G q)) rb F (s1.next.mark (!ok))∧wx.grownBy (wx.setCell ⟨rb,4,U⟩ (G q)) (Z rb) from
   ⟨by rw [←eb];exact hx.bad4.1,hx.bad4.2,fun q hq=>hx.marked (!ok) q (by rw [eb];exact hq)⟩))
  rw [hr];clear hq h hr e1 eS eb eo ev;go_enter Tryz.func182,Tryz.ntmps182;go_wp2_with fail
  refine H1.out.mono ?_;rintro e w1 ⟨rfl,h1,g1⟩;go_wp2_with fail
  refine (H2.out w1 h1).mono ?_;rintro e w2 ⟨rfl,h2,g2⟩;go_wp2_with fail
  refine (H3.out w2).mono ?_;rintro e w3 ⟨rfl,b3⟩;obtain ⟨c4,z4,hm⟩:=HM.out w3 (h2.below b3);have HF:=qH (fun q hq=>(show RX (w3.setCell ⟨rb,4,U⟩ (G q)) rb F (s1.next.mark (!ok))∧w.grownBy (w3.setCell ⟨rb,4,U⟩ (G q)) (Z rb) from ⟨(hm q hq).1,zAb (zAb g1 g2) (zDb b3 (hm q hq).2)⟩));clear h1 g1 h2 g2 b3 hm H1 H2 H3 HM
  cases b<;>cases ok
  all_goals
   go_wp2_with fail
   go_ret;exact ⟨rfl,HF.out _ rfl⟩
end Go.Proofs.YtlmdfmnbcndhoaaGreatDoor
