/-
  Lemmas, part 18. Conditions: each theorem's own.
-/
import Derived.Test.YtlmdfmnbcndhoaaGreatDoorRq16
import Derived.Test.YtlmdfmnbcndhoaaGreatDoorRq17
open Go.Value renaming bool→G,int→D,string→W
open Go.IntKind renaming i64→J
open Option renaming none→U,some→Z
open Bool renaming false→E,true→Q
namespace Go.Proofs.YtlmdfmnbcndhoaaGreatDoor
open Go.RowKit
def nfN (far:Bool):List UInt8:=if far then [102] else [110]
def brN (x:Nst):List UInt8:=zAq x.f++nfN x.far
def zRu (x:Nst×Bool):List UInt8:=brN x.1++zAX x.2
def zJE (P:List (Nst×Bool)) (x:Nst):List UInt8:=(if P=[] then [] else Lib.join (P.map zRu) [44]++[60])++brN x
def frI (n:Nop):List UInt8:=match n.fr with | some x=>brN x | none=>[]
def zTr (n:Nop):List UInt8 :=
 if n.kind=4 then zAX n.over
 else if n.kind=3 then (if n.path=[] then [] else Lib.join (n.path.map zRu) [44]++[60])++frI n
 else if n.kind=5 then frI n++zAX n.over
 else if n.kind=6∨n.kind=7 then frN n++zAX n.over
 else []
def zHT (n:Nop):List UInt8:=zAq n.f++zJm n.kind++zTr n
def zXC (x:Nst):Prop:=x.f.p=1∧x.l=0∧x.pc=0
def zXD (n:Nop):Prop:=n.f.p=1∧(∀x,n.fr=Z x→zXC x)∧∀y∈n.path,zXC y.1
def simN (x:Nst):Prop:=zAx x.f=Q∧zXC x
theorem simN.ok {x:Nst} (h:simN x):zCR x:=⟨h.1,by rw [h.2.2.1];omega,by rw [h.2.2.1];omega,by rw [h.2.2.2];omega,by rw [h.2.2.2];omega⟩
theorem simN.is {x:Nst} (h:simN x):x=⟨x.f,0,x.far,0⟩:=by
 obtain ⟨f,l,far,pc⟩:=x;have h1:=h.2.2.1;have h2:=h.2.2.2;simp only at h1 h2;subst h1;subst h2;rfl
theorem zRS {f:Fg} (hf:zAx f=Q) (h1:f.p=1):zAq f=[(if f.r then 82 else 76),UInt8.ofNat (48+f.d.toNat)]:=by
 obtain ⟨a1,a2,a3,a4⟩:=zAP.1 hf;unfold zAq;rw [if_pos h1,zCt a3 (by omega)];rfl
theorem zLV {f:Fg} (hf:zAx f=Q) (h1:f.p=1) (r:List UInt8):zFV (zAq f++r)=Z (f,r):=by
 have h2:=zRS hf h1;have hp:=zFp hf h2;rw [h2];simp only [List.cons_append,List.nil_append,zFV,hp,if_pos h1]
theorem zNc {S r:List UInt8} {f:Fg} (h:zFV S=Z (f,r)):zAx f=Q∧f.p=1∧S=zAq f++r:=by
 match S,h with
 | [],h=>simp [zFV] at h
 | [x],h=>simp [zFV] at h
 | x :: y :: q,h =>
  simp only [zFV] at h
  cases hp:zIH [x,y] with
  | none=>rw [hp] at h;simp at h
  | some g =>
   rw [hp] at h;simp only at h;split at h
   ·rename_i h1;simp only [Option.some.injEq,Prod.mk.injEq] at h;obtain ⟨rfl,rfl⟩:=h;obtain ⟨k1,k2⟩:=zLP hp;exact ⟨k1,h1,by rw [k2];rfl⟩
   ·cases h
noncomputable def zBj (S:List UInt8):Option (Fg×Bool×List UInt8) :=
 match zFV S with
 | some (f,x :: r)=>if x=110 then Z (f,E,r) else if x=102 then Z (f,Q,r) else U
 | _=>U
theorem zFx {x:Nst} (h:simN x) (r:List UInt8):zBj (brN x++r)=Z (x.f,x.far,r):=by
 unfold zBj brN;rw [List.append_assoc,zLV h.1 h.2.1]
 cases x.far<;>rfl
theorem zHf {S r:List UInt8} {f:Fg} {far:Bool} (h:zBj S=Z (f,far,r)):simN ⟨f,0,far,0⟩∧S=brN ⟨f,0,far,0⟩++r:=by
 unfold zBj at h;split at h
 ·rename_i g x q hc;obtain ⟨k1,k2,k3⟩:=zNc hc;split at h
  ·rename_i hx;simp only [Option.some.injEq,Prod.mk.injEq] at h;obtain ⟨rfl,rfl,rfl⟩:=h;exact ⟨⟨k1,k2,rfl,rfl⟩,by rw [k3,hx];simp [brN,nfN]⟩
  ·split at h
   ·rename_i hx;simp only [Option.some.injEq,Prod.mk.injEq] at h;obtain ⟨rfl,rfl,rfl⟩:=h;exact ⟨⟨k1,k2,rfl,rfl⟩,by rw [k3,hx];simp [brN,nfN]⟩
   ·cases h
 ·cases h
def zCK:List UInt8→Option (Bool×List UInt8)
 | []=>U
 | x :: r=>if x=111 then Z (Q,r) else if x=117 then Z (E,r) else U
theorem zHU (b:Bool) (r:List UInt8):zCK (zAX b++r)=Z (b,r):=by cases b<;>rfl
theorem zHV {S r:List UInt8} {b:Bool} (h:zCK S=Z (b,r)):S=zAX b++r:=by
 match S,h with
 | x :: S,h =>
  rw [zCK] at h;by_cases h1:x=111
  ·rw [if_pos h1] at h;simp only [Option.some.injEq,Prod.mk.injEq] at h;obtain ⟨rfl,rfl⟩:=h;rw [h1];rfl
  ·rw [if_neg h1] at h;by_cases h2:x=117
   ·rw [if_pos h2] at h;simp only [Option.some.injEq,Prod.mk.injEq] at h;obtain ⟨rfl,rfl⟩:=h;rw [h2];rfl
   ·rw [if_neg h2] at h;cases h
noncomputable def zGj:Nat→List (Nst×Bool)→List UInt8→Option (List (Nst×Bool)×Nst)
 | 0,_,_=>U
 | n+1,P,s =>
  match zBj s with
  | none=>U
  | some (f,far,s1) =>
   if s1=[]∧P=[] then Z ([],⟨f,0,far,0⟩)
   else match zCK s1 with
    | none=>U
    | some (_,[])=>U
    | some (o,c :: s2) =>
     if c=44 then zGj n (P++[(⟨f,0,far,0⟩,o)]) s2
     else if c=60 then match zBj s2 with
      | some (g,bI,[])=>Z (P++[(⟨f,0,far,0⟩,o)],⟨g,0,bI,0⟩)
      | _=>U
     else U
theorem zJF (x y:Nst×Bool) (R:List (Nst×Bool)):Lib.join ((x :: y :: R).map zRu) [44]=zRu x++[44]++Lib.join ((y :: R).map zRu) [44]:=by
 simp only [List.map_cons];exact zJt _ _ _ _
theorem zNd:∀(n:Nat) {P ZS:List (Nst×Bool)} {x:Nst} {s:List UInt8},zGj n P s=Z (ZS,x) →
  ∃R,ZS=P++R∧(R≠[]∨P=[])∧(∀y∈R,simN y.1)∧simN x∧s=zJE R x
 | 0,P,ZS,x,s,h=>by simp [zGj] at h
 | n+1,P,ZS,x,s,h=>by
  rw [zGj] at h;split at h
  ·cases h
  ·rename_i f far s1 hs;obtain ⟨a1,a2⟩:=zHf hs;split at h
   ·rename_i hc;obtain ⟨rfl,rfl⟩:=hc;simp only [Option.some.injEq,Prod.mk.injEq] at h;obtain ⟨rfl,rfl⟩:=h;exact ⟨[],rfl,.inr rfl,by simp,a1,by rw [a2];simp [zJE]⟩
   ·split at h
    ·cases h
    ·cases h
    ·rename_i o c s2 hf;have b:=zHV hf;split at h
     ·rename_i h44;obtain ⟨R,r1,r2,r3,r4,r5⟩:=zNd n h;have hR:R≠[]:=by
       rcases r2 with r2 | r2
       ·exact r2
       ·simp at r2
      obtain ⟨y,R,rfl⟩:∃y R',R=y :: R':=by
       cases R with
       | nil=>exact absurd rfl hR
       | cons y R=>exact ⟨y,R,rfl⟩
      refine ⟨(⟨f,0,far,0⟩,o) :: y :: R,by rw [r1];simp,.inl (by simp),fun z hz=>?_,r4,?_⟩
      ·rcases List.mem_cons.1 hz with rfl | hz
       ·exact a1
       ·exact r3 z hz
      ·rw [a2,b,h44,r5];unfold zJE;rw [if_neg (by simp),if_neg (by simp),zJF];simp [zRu]
     ·split at h
      ·rename_i h60;split at h
       ·rename_i g bI iY;obtain ⟨c1,c2⟩:=zHf iY;simp only [Option.some.injEq,Prod.mk.injEq] at h;obtain ⟨rfl,rfl⟩:=h;refine ⟨[(⟨f,0,far,0⟩,o)],rfl,.inl (by simp),fun z hz=>?_,c1,?_⟩
        ·simp only [List.mem_singleton] at hz;subst hz;exact a1
        ·rw [a2,b,h60,c2];unfold zJE;rw [if_neg (by simp)];simp only [List.map_cons,List.map_nil,Lib.join_one];simp [zRu]
       ·cases h
      ·cases h
theorem zNe {x:Nst} (hx:simN x):∀(n:Nat) (P R:List (Nst×Bool)),R.length < n→(R≠[]∨P=[])→(∀y∈R,simN y.1)→zGj n P (zJE R x)=Z (P++R,x)
 | 0,P,R,h,_,_=>absurd h (by omega)
 | n+1,P,[],_,h2,_=>by
  have hP:P=[]:=by
   rcases h2 with h | h
   ·exact absurd rfl h
   ·exact h
  subst hP;have hs:=zFx hx [];rw [List.append_nil] at hs;rw [zGj,show zJE [] x=brN x from by simp [zJE],hs];simp only [and_self,if_true];rw [←hx.is];rfl
 | n+1,P,[y],_,_,h3=>by
  have hy:=h3 y (List.mem_cons_self ..);have e:zJE [y] x=brN y.1++(zAX y.2++60 :: brN x):=by
   unfold zJE;rw [if_neg (by simp)];simp only [List.map_cons,List.map_nil,Lib.join_one];simp [zRu]
  have hs:=zFx hx [];rw [List.append_nil] at hs;rw [zGj,e,zFx hy];simp only;rw [if_neg (by cases y.2<;>simp [zAX]),zHU];simp only [show ((60:UInt8)=44)=False from by simp,if_false,if_true,hs];rw [←hx.is,←hy.is]
 | n+1,P,y :: z :: R,h1,_,h3=>by
  have hy:=h3 y (List.mem_cons_self ..);have e:zJE (y :: z :: R) x=brN y.1++(zAX y.2++44 :: zJE (z :: R) x):=by
   unfold zJE;rw [if_neg (by simp),if_neg (by simp),zJF];simp [zRu]
  rw [zGj,e,zFx hy];simp only;rw [if_neg (by cases y.2<;>simp [zAX]),zHU];simp only [if_true];rw [←hy.is,zNe hx n (P++[(y.1,y.2)]) (z :: R) (by simp at h1 ⊢;omega) (.inl (by simp)) (fun w hw=>h3 w (List.mem_cons_of_mem _ hw))];simp
def zAK (b:UInt8):Int:=if b=45 then 1 else if b=94 then 2 else if b=60 then 3 else if b=126 then 4 else if b=61 then 5 else if b=42 then 6 else if b=37 then 7 else if b=33 then 8 else 0
noncomputable def zRT (f:Fg) (s:List UInt8):Option Nop:=match zCK s with
 | some (o,[])=>Z ⟨4,f,U,[],o⟩
 | _=>U
noncomputable def zUu (f:Fg) (s:List UInt8):Option Nop:=match zGj (s.length+1) [] s with
 | some (P,x)=>Z ⟨3,f,Z x,P,E⟩
 | none=>U
noncomputable def zRU (f:Fg) (s:List UInt8):Option Nop:=match zBj s with
 | some (g,far,s1)=>match zCK s1 with
  | some (o,[])=>Z ⟨5,f,Z ⟨g,0,far,0⟩,[],o⟩
  | _=>U
 | none=>U
noncomputable def zRV (k:Int) (f:Fg) (s:List UInt8):Option Nop:=match zFV s with
 | some (g,s1)=>match zCK s1 with
  | some (o,[])=>Z ⟨k,f,Z ⟨g,0,E,0⟩,[],o⟩
  | _=>U
 | none=>U
noncomputable def zAJ (S:List UInt8):Option Nop :=
 match zFV S with
 | some (f,b :: s) =>
  if zAK b=4 then zRT f s
  else if zAK b=3 then zUu f s
  else if zAK b=5 then zRU f s
  else if zAK b=6∨zAK b=7 then zRV (zAK b) f s
  else if zAK b=0 then U
  else if s=[] then Z ⟨zAK b,f,U,[],E⟩ else U
 | _=>U
theorem zEd {b:UInt8} (h:zAK b≠0):1≤zAK b∧zAK b≤8∧zJm (zAK b)=[b]:=by
 unfold zAK at h ⊢
 repeat (split;· rename_i e;subst e;exact ⟨by omega,by omega,rfl⟩)
 exact absurd (by repeat (rw [if_neg (by assumption)])) h
theorem zUv {k:Int} (h1:1≤k) (h8:k≤8):∃b,zJm k=[b]∧zAK b=k:=by
 have hk:k=1∨k=2∨k=3∨k=4∨k=5∨k=6∨k=7∨k=8:=by omega
 rcases hk with rfl | rfl | rfl | rfl | rfl | rfl | rfl | rfl<;>exact ⟨_,rfl,rfl⟩
theorem zGk {S:List UInt8} {n:Nop} (h:zAJ S=Z n):okN n∧zXD n∧S=zHT n:=by
 unfold zAJ at h;split at h
 ·rename_i f b s hc;obtain ⟨k1,k2,k3⟩:=zNc hc;by_cases e4:zAK b=4
  ·rw [if_pos e4] at h;have hb:=(zEd (b:=b) (by omega)).2.2;unfold zRT at h;split at h
   ·rename_i o ho;simp only [Option.some.injEq] at h;subst h;refine ⟨⟨k1,.inr (.inl ⟨rfl,rfl,rfl⟩)⟩,⟨k2,by simp,by simp⟩,?_⟩;rw [k3,zHV ho,zHT,zTr];simp only [if_true];rw [e4] at hb;rw [hb];simp
   ·cases h
  rw [if_neg e4] at h;by_cases e3:zAK b=3
  ·rw [if_pos e3] at h;have hb:=(zEd (b:=b) (by omega)).2.2;unfold zUu at h;split at h
   ·rename_i P x hp;simp only [Option.some.injEq] at h;subst h;obtain ⟨R,r1,r2,r3,r4,r5⟩:=zNd _ hp;rw [List.nil_append] at r1;subst r1;refine ⟨⟨k1,.inr (.inr (.inl ⟨rfl,⟨x,rfl,r4.ok⟩,fun y hy=>(r3 y hy).ok,rfl⟩))⟩,⟨k2,fun y hy=>by injection hy with hy;subst hy;exact r4.2,fun y hy=>(r3 y hy).2⟩,?_⟩;rw [k3,r5,zHT,zTr];simp only [if_true,show ¬((3:Int)=4) from by omega,if_false,frI];rw [e3] at hb;rw [hb];simp [zJE]
   ·cases h
  rw [if_neg e3] at h;by_cases e5:zAK b=5
  ·rw [if_pos e5] at h;have hb:=(zEd (b:=b) (by omega)).2.2;unfold zRU at h;split at h
   ·rename_i g far s1 hs;obtain ⟨c1,c2⟩:=zHf hs;split at h
    ·rename_i o ho;simp only [Option.some.injEq] at h;subst h;refine ⟨⟨k1,.inr (.inr (.inr (.inl ⟨rfl,⟨_,rfl,c1.ok⟩,rfl⟩)))⟩,⟨k2,fun y hy=>by injection hy with hy;subst hy;exact c1.2,by simp⟩,?_⟩;rw [k3,c2,zHV ho,zHT,zTr];simp only [if_true,show ¬((5:Int)=4) from by omega,show ¬((5:Int)=3) from by omega,if_false,frI];rw [e5] at hb;rw [hb];simp
    ·cases h
   ·cases h
  rw [if_neg e5] at h;by_cases e6:zAK b=6∨zAK b=7
  ·rw [if_pos e6] at h;have hb:=(zEd (b:=b) (by omega)).2.2;unfold zRV at h;split at h
   ·rename_i g s1 hs;obtain ⟨c0,c1,c2⟩:=zNc hs;split at h
    ·rename_i o ho;simp only [Option.some.injEq] at h;subst h;refine ⟨⟨k1,.inr (.inr (.inr (.inr ⟨e6,⟨_,rfl,c0⟩,rfl⟩)))⟩,⟨k2,fun y hy=>by injection hy with hy;subst hy;exact ⟨c1,rfl,rfl⟩,by simp⟩,?_⟩;rw [k3,c2,zHV ho,zHT,zTr];simp only [if_neg e4,if_neg e3,if_neg e5,if_pos e6,frN];rw [hb];simp
    ·cases h
   ·cases h
  rw [if_neg e6] at h;by_cases e0:zAK b=0
  ·rw [if_pos e0] at h;cases h
  rw [if_neg e0] at h;obtain ⟨u1,u2,hb⟩:=zEd (b:=b) e0;split at h
  ·rename_i hs;simp only [Option.some.injEq] at h;subst h;refine ⟨⟨k1,.inl ⟨by simp only;omega,rfl,rfl,rfl⟩⟩,⟨k2,by simp,by simp⟩,?_⟩;rw [k3,hs,zHT,zTr];simp only [if_neg e4,if_neg e3,if_neg e5,if_neg e6];rw [hb];simp
  ·cases h
 ·cases h
theorem zQb {P:List (Nst×Bool)} (x:Nst):P.length≤(zJE P x).length:=by
 induction P with
 | nil=>simp
 | cons y P ih =>
  cases P with
  | nil=>unfold zJE;rw [if_neg (by simp)];simp;omega
  | cons z P =>
   unfold zJE at ih ⊢;rw [if_neg (by simp)] at ih ⊢;rw [zJF];simp only [List.length_append,List.length_cons,List.length_nil] at ih ⊢;omega
theorem zUw {n:Nop} (h:okN n) (hc:zXD n):zAJ (zHT n)=Z n:=by
 obtain ⟨hf,hk⟩:=h;obtain ⟨c1,c2,c3⟩:=hc;obtain ⟨k,f,fr,path,over⟩:=n;unfold zKF at hk;simp only at hf hk c1 c2 c3;have eW:1≤k∧k≤8:=by
  rcases hk with ⟨h,_⟩ | ⟨h,_⟩ | ⟨h,_⟩ | ⟨h,_⟩ | ⟨h,_⟩<;>omega
 obtain ⟨b,aj,ab⟩:=zUv eW.1 eW.2;unfold zAJ zHT;simp only;rw [aj,List.append_assoc,List.singleton_append,zLV hf c1];simp only;rw [ab];unfold zTr;simp only;rcases hk with ⟨e,rfl,rfl,rfl⟩ | ⟨rfl,rfl,rfl⟩ | ⟨rfl,⟨x,rfl,hx⟩,hp,rfl⟩ | ⟨rfl,⟨x,rfl,hx⟩,rfl⟩ | ⟨e,⟨g,rfl,hg⟩,rfl⟩
 ·have n4:¬k=4:=by omega
  have n3:¬k=3:=by omega
  have n5:¬k=5:=by omega
  have n6:¬(k=6∨k=7):=by omega
  have n0:¬k=0:=by omega
  simp only [if_neg n4,if_neg n3,if_neg n5,if_neg n6,if_neg n0,if_true]
 ·have hfl:=zHU over [];rw [List.append_nil] at hfl;simp only [if_true,zRT];rw [hfl]
 ·have iX:simN x:=⟨hx.1,c2 x rfl⟩;have hp2:=zNe iX ((zJE path x).length+1) [] path (by have:=zQb (P:=path) x;omega) (.inr rfl) (fun y hy=>⟨(hp y hy).1,c3 y hy⟩);simp only [show ¬((3:Int)=4) from by omega,if_false,if_true,frI];rw [show (if path=[] then [] else Lib.join (path.map zRu) [44]++[60])++brN x=zJE path x from rfl];unfold zUu;rw [hp2];rfl
 ·have iX:simN x:=⟨hx.1,c2 x rfl⟩;have hfl:=zHU over [];rw [List.append_nil] at hfl;simp only [show ¬((5:Int)=4) from by omega,show ¬((5:Int)=3) from by omega,if_false,if_true,frI];unfold zRU;rw [zFx iX];simp only;rw [hfl];simp only;rw [←iX.is]
 ·have n4:¬k=4:=by omega
  have n3:¬k=3:=by omega
  have n5:¬k=5:=by omega
  have hfl:=zHU over [];rw [List.append_nil] at hfl;simp only [if_neg n4,if_neg n3,if_neg n5,if_pos e,frN];unfold zRV;rw [zLV hg (c2 _ rfl).1];simp only;rw [hfl]
theorem zGl {fn:Func} {p u v:Tmp} {ty:TypeId} (h:fn.results=#[.cell p ty,.tmp u,.tmp v]) (tmps:Array Value) (P:Program) (w:World) :
  (results fn tmps).run P w =
   ((asAddr (tmps.getD p undef)).run P w).andThen fun a w₁=>((loadVar ty a).run P w₁).andThen fun x w₂=>.ok (.tuple #[x,tmps.getD u undef,tmps.getD v undef]) w₂:=by
 simp only [results,h];simp [Sem.run_bind,Result.andThen]
theorem zDg {P:Program} {fn:Func} {p u u2:Tmp} {ty:TypeId} {R:Ending→World→Prop} {a:Act} {w:World} {g:Nat} {t:TypeId} {cs:Array Value} {fr:Nat×Nat} {d:TypeDesc} {v v2:Value} (h:fn.results=#[.cell p ty,.tmp u,.tmp u2])
  (hp:a.tmps.getD p undef=.pointer (Z ⟨g,0,U⟩)) (hv:a.tmps.getD u undef=v) (tj:a.tmps.getD u2 undef=v2) (hg:w.heap[g]? = Z (.cells cs t fr)) (hu:P.underlying ty=Z d) (hd:(match d with | .struct _ | .array _ _=>Q | _=>E)=Q) (hi:(P.info? ty).map (·.size)=Z cs.size)
  (hdf:a.defers=[]) (hR:R (.returned (.tuple #[.agg cs,v,v2])) w):bodyPost P fn R .ret a w:=by
 refine bodyPost_ret ?_ hdf hR;rw [zGl h,hp,hv,tj];simp [asAddr,run_loadVar_row w g t ty cs fr d hg hu hd hi,Result.andThen]
def zEr (w0:World) (rb:Nat) (F:Fm) (s:RS) (S:List UInt8) (e:Ending) (w':World):Prop :=
 (match zFV S with
  | some (f,r)=>e=.returned (.tuple #[D J (zBa F.L f:Int),W (bA r),G Q])∧RX w' rb F ⟨s.T,s.bad,s.lost||zBF F.L f⟩
  | none=>e=.returned (.tuple #[D J 0,W (bA S),G E])∧RX w' rb F s)∧w0.grownBy w' (Z rb)
theorem zNf {w:World} {rb:Nat} {F:Fm} {s:RS} (h:RX w rb F s) (S:List UInt8):Calls Tryz.prog 160 #[.pointer (Z ⟨rb,0,U⟩),W (bA S)] w (zEr w rb F s S):=by
 refine (zOb rb F.A F.n F.c F.L F.re F.lo s.T s.bad s.lost S w h.rd h.fr h.ne).mono ?_;rintro e w' ⟨h1,h2⟩;unfold zEr;refine ⟨?_,h2⟩
 cases hc:zFV S with
 | none =>
  rw [hc] at h1;exact ⟨h1.1,⟨h1.2,h.fr.keepR h2 h.ne,h.ne⟩⟩
 | some p =>
  rw [hc] at h1;exact ⟨h1.1,⟨h1.2,h.fr.keepR h2 h.ne,h.ne⟩⟩
theorem zHg {w0:World} {rb:Nat} {F:Fm} {s:RS} {S r:List UInt8} {f:Fg} {e:Ending} {w':World} (h:zEr w0 rb F s S e w') (hc:zFV S=Z (f,r)) :
  e=.returned (.tuple #[D J (zBa F.L f:Int),W (bA r),G Q])∧RX w' rb F ⟨s.T,s.bad,s.lost||zBF F.L f⟩∧w0.grownBy w' (Z rb):=by
 unfold zEr at h;rw [hc] at h;exact ⟨h.1.1,h.1.2,h.2⟩
theorem zHh {w0:World} {rb:Nat} {F:Fm} {s:RS} {S:List UInt8} {e:Ending} {w':World} (h:zEr w0 rb F s S e w') (hc:zFV S=U) :
  e=.returned (.tuple #[D J 0,W (bA S),G E])∧RX w' rb F s∧w0.grownBy w' (Z rb):=by
 unfold zEr at h;rw [hc] at h;exact ⟨h.1.1,h.1.2,h.2⟩
def zBy (w0:World) (rb:Nat) (F:Fm) (s:RS) (S:List UInt8) (e:Ending) (w':World):Prop :=
 (match zBj S with
  | some (f,far,r)=>e=.returned (.tuple #[.agg #[D J (zBa F.L f:Int),D J 0,G far,D J 0],W (bA r),G Q])∧RX w' rb F ⟨s.T,s.bad,s.lost||zBF F.L f⟩
  | none=>e=.returned (.tuple #[.agg #[D J 0,D J 0,G E,D J 0],W (bA S),G E])∧∃l,RX w' rb F ⟨s.T,s.bad,l⟩)∧w0.grownBy w' (Z rb)
theorem zGm {w0:World} {rb:Nat} {F:Fm} {s:RS} {S r:List UInt8} {f:Fg} {far:Bool} {e:Ending} {w':World} (h:zBy w0 rb F s S e w') (hc:zBj S=Z (f,far,r)) :
  e=.returned (.tuple #[.agg #[D J (zBa F.L f:Int),D J 0,G far,D J 0],W (bA r),G Q])∧RX w' rb F ⟨s.T,s.bad,s.lost||zBF F.L f⟩∧w0.grownBy w' (Z rb):=by
 unfold zBy at h;rw [hc] at h;exact ⟨h.1.1,h.1.2,h.2⟩
theorem zGn {w0:World} {rb:Nat} {F:Fm} {s:RS} {S:List UInt8} {e:Ending} {w':World} (h:zBy w0 rb F s S e w') (hc:zBj S=U) :
  e=.returned (.tuple #[.agg #[D J 0,D J 0,G E,D J 0],W (bA S),G E])∧(∃l,RX w' rb F ⟨s.T,s.bad,l⟩)∧w0.grownBy w' (Z rb):=by
 unfold zBy at h;rw [hc] at h;exact ⟨h.1.1,h.1.2,h.2⟩
theorem zWl (f:Int) (far:Bool) (w:World):(Instr.build 29 #[(0,D J f),(2,G far)]).run Tryz.prog w=.ok (.agg #[D J f,D J 0,G far,D J 0]) w:=run_build w _ _ _ (by kernel_rfl)
set_option maxHeartbeats 6400000 in
theorem zEe (rb:Nat) (F:Fm) (s:RS) (S:List UInt8) (w:World) (h:RX w rb F s) :
  Calls Tryz.prog 162 #[.pointer (Z ⟨rb,0,U⟩),W (bA S)] w (zBy w rb F s S):=by
 have hlt:=h.lt;have b1:Below w.heap.size w (w.alloc (.cells #[D J 0,D J 0,G E,D J 0] 29)):=(Below.refl _ _).alloc (Nat.le_refl _) _;have k1:Blk (w.alloc (.cells #[D J 0,D J 0,G E,D J 0] 29)) w.heap.size 29 #[D J 0,D J 0,G E,D J 0]:=Blk.new _ _ _;have h1:=h.below b1;have g1:w.grownBy (w.alloc (.cells #[D J 0,D J 0,G E,D J 0] 29)) (Z rb):=zAt b1;have dY:=qH (fun wx (hx:RX wx rb F s)=>zNf hx S)
 have nb:=qH (fun (hn:zBj S=U) (e:Ending) (wx:World) (he:e=.returned (.tuple #[.agg #[D J 0,D J 0,G E,D J 0],W (bA S),G E])) (hx:∃l,RX wx rb F ⟨s.T,s.bad,l⟩) (hg:w.grownBy wx (Z rb)) =>
  (show zBy w rb F s S e wx by unfold zBy;rw [hn];exact ⟨⟨he,hx⟩,hg⟩))
 have m9:=qH (fun (f:Fg) (far:Bool) (r:List UInt8) (hn:zBj S=Z (f,far,r)) (e:Ending) (wx:World) (he:e=.returned (.tuple #[.agg #[D J (zBa F.L f:Int),D J 0,G far,D J 0],W (bA r),G Q])) (hx:RX wx rb F ⟨s.T,s.bad,s.lost||zBF F.L f⟩) (hg:w.grownBy wx (Z rb)) =>
  (show zBy w rb F s S e wx by unfold zBy;rw [hn];exact ⟨⟨he,hx⟩,hg⟩))
 clear h b1;go_enter Tryz.func162,Tryz.ntmps162;go_wp2_with fail
 generalize w.alloc (.cells #[D J 0,D J 0,G E,D J 0] 29)=X1 at k1 h1 g1 ⊢;refine (dY.out X1 h1).mono ?_;intro e X2 hc
 have key:∀(sx:RS) (wx:World),RX wx rb F sx→X1.grownBy wx (Z rb)→∃(v:Unit),(wx.cell? ⟨w.heap.size,0,U⟩=Z (D J 0)∧wx.frozen? ⟨w.heap.size,0,U⟩=E∧wx.cell? ⟨w.heap.size,1,U⟩=Z (D J 0)∧wx.frozen? ⟨w.heap.size,1,U⟩=E∧wx.cell? ⟨w.heap.size,2,U⟩=Z (G E)∧wx.frozen? ⟨w.heap.size,2,U⟩=E∧wx.cell? ⟨w.heap.size,3,U⟩=Z (D J 0)∧wx.frozen? ⟨w.heap.size,3,U⟩=E) ∧
   Hid (∀(u0 u1 u2 u3:Value),Blk ((((wx.setCell ⟨w.heap.size,0,U⟩ u0).setCell ⟨w.heap.size,1,U⟩ u1).setCell ⟨w.heap.size,2,U⟩ u2).setCell ⟨w.heap.size,3,U⟩ u3) w.heap.size 29 #[u0,u1,u2,u3] ∧
    RX ((((wx.setCell ⟨w.heap.size,0,U⟩ u0).setCell ⟨w.heap.size,1,U⟩ u1).setCell ⟨w.heap.size,2,U⟩ u2).setCell ⟨w.heap.size,3,U⟩ u3) rb F sx ∧
    w.grownBy ((((wx.setCell ⟨w.heap.size,0,U⟩ u0).setCell ⟨w.heap.size,1,U⟩ u1).setCell ⟨w.heap.size,2,U⟩ u2).setCell ⟨w.heap.size,3,U⟩ u3) (Z rb)):=fun sx wx hx hg=>by
  have kx:=k1.grownO hg hlt;refine ⟨(),⟨(kx.cell 0).trans rfl,kx.frozen 0,(kx.cell 1).trans rfl,kx.frozen 1,(kx.cell 2).trans rfl,kx.frozen 2,(kx.cell 3).trans rfl,kx.frozen 3⟩,qH fun u0 u1 u2 u3=>⟨kx.store4 u0 u1 u2 u3,hx.over (zCl (Below.refl (rb+1) wx) (show rb+1≤w.heap.size from hlt) u0 u1 u2 u3),zAd (zAb g1 hg) (zCl (Below.refl w.heap.size wx) (Nat.le_refl w.heap.size) u0 u1 u2 u3)⟩⟩
 have sQ:=qH key;clear key k1 h1 g1 dY
 cases hcf:zFV S with
 | none =>
  obtain ⟨rfl,hx,hg⟩:=zHh hc hcf;have HN:=qH (show zBj S=U by unfold zBj;rw [hcf]);obtain ⟨_,⟨c0,z0,c1,z1,c2,z2,c3,z3⟩,HK⟩:=sQ.out s X2 hx hg;clear hc hcf hx hg sQ m9;go_wp2_with fail
  exact zDg rfl rfl rfl rfl (HK.out _ _ _ _).1 Tryz.underlying29 rfl (by kernel_rfl) rfl (nb.out HN.out _ _ rfl ⟨_,(HK.out _ _ _ _).2.1⟩ (HK.out _ _ _ _).2.2)
 | some p =>
  obtain ⟨f,r⟩:=p;obtain ⟨rfl,hx,hg⟩:=zHg hc hcf;obtain ⟨_,⟨c0,z0,c1,z1,c2,z2,c3,z3⟩,HK⟩:=sQ.out _ X2 hx hg;obtain ⟨ix,hix⟩:∃x,zBa F.L f=x:=⟨_,rfl⟩
  rw [hix];have kX:=qH hix;have n0:=zAL r [];clear hc hx hg sQ hix
  cases r with
  | nil =>
   rw [show (([]:List UInt8)==[])=Q from rfl] at n0;have HN:=qH (show zBj S=U by unfold zBj;rw [hcf]);clear hcf m9;go_wp2_with fail
   exact zDg rfl rfl rfl rfl (HK.out _ _ _ _).1 Tryz.underlying29 rfl (by kernel_rfl) rfl (nb.out HN.out _ _ rfl ⟨_,(HK.out _ _ _ _).2.1⟩ (HK.out _ _ _ _).2.2)
  | cons x r =>
   rw [show (x :: r==([]:List UInt8))=E from rfl] at n0;have t1:=zDU x r;have t2:=zGZ x r;by_cases h1:x=110
   ·have HS:=qH (show zBj S=Z (f,E,r) by unfold zBj;rw [hcf];simp only;rw [if_pos h1]);subst h1;rw [show (((110:UInt8).toNat:Nat):Int)=110 from rfl] at t1;clear hcf nb;go_wp2_with fail
    go_region
    go_wp2_with fail
    exact zDg rfl rfl rfl rfl (HK.out _ _ _ _).1.drew Tryz.underlying29 rfl (by kernel_rfl) rfl (m9.out f E r HS.out _ _ (by first | (rw [kX.out];done) | (rw [kX.out];rfl)) ((HK.out _ _ _ _).2.1.below (Below.refl _ _).drew) (zBS (HK.out _ _ _ _).2.2))
   ·by_cases h2:x=102
    ·have HS:=qH (show zBj S=Z (f,Q,r) by unfold zBj;rw [hcf];simp only;rw [if_neg h1,if_pos h2]);subst h2;rw [show (((102:UInt8).toNat:Nat):Int)=102 from rfl] at t1;clear hcf nb h1;go_wp2_with fail
     go_region
     go_wp2_with fail
     exact zDg rfl rfl rfl rfl (HK.out _ _ _ _).1.drew Tryz.underlying29 rfl (by kernel_rfl) rfl (m9.out f Q r HS.out _ _ (by first | (rw [kX.out];done) | (rw [kX.out];rfl)) ((HK.out _ _ _ _).2.1.below (Below.refl _ _).drew) (zBS (HK.out _ _ _ _).2.2))
    ·have k1:((x.toNat:Int) != 110)=Q:=by
      simp only [bne_iff_ne,ne_eq];intro e;exact h1 (UInt8.toNat.inj (show x.toNat=110 by omega))
     have k2:((x.toNat:Int) != 102)=Q:=by
      simp only [bne_iff_ne,ne_eq];intro e;exact h2 (UInt8.toNat.inj (show x.toNat=102 by omega))
     have HN:=qH (show zBj S=U by unfold zBj;rw [hcf];simp only;rw [if_neg h1,if_neg h2]);clear hcf m9 h1 h2;go_wp2_with fail
     exact zDg rfl rfl rfl rfl (HK.out _ _ _ _).1 Tryz.underlying29 rfl (by kernel_rfl) rfl (nb.out HN.out _ _ rfl ⟨_,(HK.out _ _ _ _).2.1⟩ (HK.out _ _ _ _).2.2)
end Go.Proofs.YtlmdfmnbcndhoaaGreatDoor
