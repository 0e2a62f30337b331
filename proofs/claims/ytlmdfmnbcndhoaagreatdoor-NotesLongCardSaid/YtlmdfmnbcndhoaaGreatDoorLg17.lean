/-
  Lemmas for NotesLong, part 17: contracts and plain facts. Conditions: those that each theorem names.
-/
import Derived.Test.YtlmdfmnbcndhoaaGreatDoorLg15
import Derived.Test.YtlmdfmnbcndhoaaGreatDoorLg16
namespace Go.Proofs.YtlmdfmnbcndhoaaGreatDoor
open Go.RowKit
def nfN (far:Bool):List UInt8:=if far then [102] else [110]
def brN (x:Nst):List UInt8:=zAq x.f++nfN x.far
def zQO (x:Nst×Bool):List UInt8:=brN x.1++zAY x.2
def zJB (P:List (Nst×Bool)) (x:Nst):List UInt8:=(if P=[] then [] else Lib.join (P.map zQO) [44]++[60])++brN x
def frI (n:Nop):List UInt8:=match n.fr with | some x=>brN x | none=>[]
def zSL (n:Nop):List UInt8 :=
 if n.kind=4 then zAY n.over
 else if n.kind=3 then (if n.path=[] then [] else Lib.join (n.path.map zQO) [44]++[60])++frI n
 else if n.kind=5 then frI n++zAY n.over
 else if n.kind=6∨n.kind=7 then frN n++zAY n.over
 else []
def zHI (n:Nop):List UInt8:=zAq n.f++zJe n.kind++zSL n
def zWa (x:Nst):Prop:=x.f.p=1∧x.l=0∧x.pc=0
def zWb (n:Nop):Prop:=n.f.p=1∧(∀x,n.fr=some x→zWa x)∧∀y∈n.path,zWa y.1
def simN (x:Nst):Prop:=zAx x.f=true∧zWa x
theorem simN.ok {x:Nst} (h:simN x):zCT x:=⟨h.1,by rw [h.2.2.1];omega,by rw [h.2.2.1];omega,by rw [h.2.2.2];omega,by rw [h.2.2.2];omega⟩
theorem simN.is {x:Nst} (h:simN x):x=⟨x.f,0,x.far,0⟩:=by
 obtain ⟨f,l,far,pc⟩:=x;have h1:=h.2.2.1;have h2:=h.2.2.2;simp only at h1 h2;subst h1;subst h2;rfl
theorem zRl {f:Fg} (hf:zAx f=true) (h1:f.p=1):zAq f=[(if f.r then 82 else 76),UInt8.ofNat (48+f.d.toNat)]:=by
 obtain ⟨a1,a2,a3,a4⟩:=zAP.1 hf;unfold zAq;rw [if_pos h1,zBN a3 (by omega)];rfl
theorem zLH {f:Fg} (hf:zAx f=true) (h1:f.p=1) (r:List UInt8):zFT (zAq f++r)=some (f,r):=by
 have h2:=zRl hf h1;have hp:=zFo hf h2;rw [h2];simp only [List.cons_append,List.nil_append,zFT,hp,if_pos h1]
theorem zMH {S r:List UInt8} {f:Fg} (h:zFT S=some (f,r)):zAx f=true∧f.p=1∧S=zAq f++r:=by
 match S,h with
 | [],h=>simp [zFT] at h
 | [x],h=>simp [zFT] at h
 | x :: y :: q,h =>
  simp only [zFT] at h
  cases hp:zIE [x,y] with
  | none=>rw [hp] at h;simp at h
  | some g =>
   rw [hp] at h;simp only at h;split at h
   ·rename_i h1;simp only [Option.some.injEq,Prod.mk.injEq] at h;obtain ⟨rfl,rfl⟩:=h;obtain ⟨k1,k2⟩:=zLA hp;exact ⟨k1,h1,by rw [k2];rfl⟩
   ·cases h
noncomputable def zBj (S:List UInt8):Option (Fg×Bool×List UInt8) :=
 match zFT S with
 | some (f,x :: r)=>if x=110 then some (f,false,r) else if x=102 then some (f,true,r) else none
 | _=>none
theorem zFx {x:Nst} (h:simN x) (r:List UInt8):zBj (brN x++r)=some (x.f,x.far,r):=by
 unfold zBj brN;rw [List.append_assoc,zLH h.1 h.2.1]
 cases x.far<;>rfl
theorem zGU {S r:List UInt8} {f:Fg} {far:Bool} (h:zBj S=some (f,far,r)):simN ⟨f,0,far,0⟩∧S=brN ⟨f,0,far,0⟩++r:=by
 unfold zBj at h;split at h
 ·rename_i g x q hc;obtain ⟨k1,k2,k3⟩:=zMH hc;split at h
  ·rename_i hx;simp only [Option.some.injEq,Prod.mk.injEq] at h;obtain ⟨rfl,rfl,rfl⟩:=h;exact ⟨⟨k1,k2,rfl,rfl⟩,by rw [k3,hx];simp [brN,nfN]⟩
  ·split at h
   ·rename_i hx;simp only [Option.some.injEq,Prod.mk.injEq] at h;obtain ⟨rfl,rfl,rfl⟩:=h;exact ⟨⟨k1,k2,rfl,rfl⟩,by rw [k3,hx];simp [brN,nfN]⟩
   ·cases h
 ·cases h
def zCL:List UInt8→Option (Bool×List UInt8)
 | []=>none
 | x :: r=>if x=111 then some (true,r) else if x=117 then some (false,r) else none
theorem zHJ (b:Bool) (r:List UInt8):zCL (zAY b++r)=some (b,r):=by cases b<;>rfl
theorem zHK {S r:List UInt8} {b:Bool} (h:zCL S=some (b,r)):S=zAY b++r:=by
 match S,h with
 | x :: S,h =>
  rw [zCL] at h;by_cases h1:x=111
  ·rw [if_pos h1] at h;simp only [Option.some.injEq,Prod.mk.injEq] at h;obtain ⟨rfl,rfl⟩:=h;rw [h1];rfl
  ·rw [if_neg h1] at h;by_cases h2:x=117
   ·rw [if_pos h2] at h;simp only [Option.some.injEq,Prod.mk.injEq] at h;obtain ⟨rfl,rfl⟩:=h;rw [h2];rfl
   ·rw [if_neg h2] at h;cases h
noncomputable def zGh:Nat→List (Nst×Bool)→List UInt8→Option (List (Nst×Bool)×Nst)
 | 0,_,_=>none
 | n+1,P,s =>
  match zBj s with
  | none=>none
  | some (f,far,s1) =>
   if s1=[]∧P=[] then some ([],⟨f,0,far,0⟩)
   else match zCL s1 with
    | none=>none
    | some (_,[])=>none
    | some (o,c :: s2) =>
     if c=44 then zGh n (P++[(⟨f,0,far,0⟩,o)]) s2
     else if c=60 then match zBj s2 with
      | some (g,far2,[])=>some (P++[(⟨f,0,far,0⟩,o)],⟨g,0,far2,0⟩)
      | _=>none
     else none
theorem zJC (x y:Nst×Bool) (R:List (Nst×Bool)):Lib.join ((x :: y :: R).map zQO) [44]=zQO x++[44]++Lib.join ((y :: R).map zQO) [44]:=by
 simp only [List.map_cons];exact zJq _ _ _ _
theorem zMI:∀(n:Nat) {P Q:List (Nst×Bool)} {x:Nst} {s:List UInt8},zGh n P s=some (Q,x) →
  ∃R,Q=P++R∧(R≠[]∨P=[])∧(∀y∈R,simN y.1)∧simN x∧s=zJB R x
 | 0,P,Q,x,s,h=>by simp [zGh] at h
 | n+1,P,Q,x,s,h=>by
  rw [zGh] at h;split at h
  ·cases h
  ·rename_i f far s1 hs;obtain ⟨a1,a2⟩:=zGU hs;split at h
   ·rename_i hc;obtain ⟨rfl,rfl⟩:=hc;simp only [Option.some.injEq,Prod.mk.injEq] at h;obtain ⟨rfl,rfl⟩:=h;exact ⟨[],rfl,.inr rfl,by simp,a1,by rw [a2];simp [zJB]⟩
   ·split at h
    ·cases h
    ·cases h
    ·rename_i o c s2 hf;have b:=zHK hf;split at h
     ·rename_i h44;obtain ⟨R,r1,r2,r3,r4,r5⟩:=zMI n h;have hR:R≠[]:=by
       rcases r2 with r2 | r2
       ·exact r2
       ·simp at r2
      obtain ⟨y,R,rfl⟩:∃y R',R=y :: R':=by
       cases R with
       | nil=>exact absurd rfl hR
       | cons y R=>exact ⟨y,R,rfl⟩
      refine ⟨(⟨f,0,far,0⟩,o) :: y :: R,by rw [r1];simp,.inl (by simp),fun z hz=>?_,r4,?_⟩
      ·rcases List.mem_cons.1 hz with rfl | hz
       ·exact a1
       ·exact r3 z hz
      ·rw [a2,b,h44,r5];unfold zJB;rw [if_neg (by simp),if_neg (by simp),zJC];simp [zQO]
     ·split at h
      ·rename_i h60;split at h
       ·rename_i g far2 hs2;obtain ⟨c1,c2⟩:=zGU hs2;simp only [Option.some.injEq,Prod.mk.injEq] at h;obtain ⟨rfl,rfl⟩:=h;refine ⟨[(⟨f,0,far,0⟩,o)],rfl,.inl (by simp),fun z hz=>?_,c1,?_⟩
        ·simp only [List.mem_singleton] at hz;subst hz;exact a1
        ·rw [a2,b,h60,c2];unfold zJB;rw [if_neg (by simp)];simp only [List.map_cons,List.map_nil,Lib.join_one];simp [zQO]
       ·cases h
      ·cases h
theorem zMJ {x:Nst} (hx:simN x):∀(n:Nat) (P R:List (Nst×Bool)),R.length < n→(R≠[]∨P=[])→(∀y∈R,simN y.1)→zGh n P (zJB R x)=some (P++R,x)
 | 0,P,R,h,_,_=>absurd h (by omega)
 | n+1,P,[],_,h2,_=>by
  have hP:P=[]:=by
   rcases h2 with h | h
   ·exact absurd rfl h
   ·exact h
  subst hP;have hs:=zFx hx [];rw [List.append_nil] at hs;rw [zGh,show zJB [] x=brN x from by simp [zJB],hs];simp only [and_self,if_true];rw [←hx.is];rfl
 | n+1,P,[y],_,_,h3=>by
  have hy:=h3 y (List.mem_cons_self ..);have e:zJB [y] x=brN y.1++(zAY y.2++60 :: brN x):=by
   unfold zJB;rw [if_neg (by simp)];simp only [List.map_cons,List.map_nil,Lib.join_one];simp [zQO]
  have hs:=zFx hx [];rw [List.append_nil] at hs;rw [zGh,e,zFx hy];simp only;rw [if_neg (by cases y.2<;>simp [zAY]),zHJ];simp only [show ((60:UInt8)=44)=False from by simp,if_false,if_true,hs];rw [←hx.is,←hy.is]
 | n+1,P,y :: z :: R,h1,_,h3=>by
  have hy:=h3 y (List.mem_cons_self ..);have e:zJB (y :: z :: R) x=brN y.1++(zAY y.2++44 :: zJB (z :: R) x):=by
   unfold zJB;rw [if_neg (by simp),if_neg (by simp),zJC];simp [zQO]
  rw [zGh,e,zFx hy];simp only;rw [if_neg (by cases y.2<;>simp [zAY]),zHJ];simp only [if_true];rw [←hy.is,zMJ hx n (P++[(y.1,y.2)]) (z :: R) (by simp at h1 ⊢;omega) (.inl (by simp)) (fun w hw=>h3 w (List.mem_cons_of_mem _ hw))];simp
def zAI (b:UInt8):Int:=if b=45 then 1 else if b=94 then 2 else if b=60 then 3 else if b=126 then 4 else if b=61 then 5 else if b=42 then 6 else if b=37 then 7 else if b=33 then 8 else 0
noncomputable def zRm (f:Fg) (s:List UInt8):Option Nop:=match zCL s with
 | some (o,[])=>some ⟨4,f,none,[],o⟩
 | _=>none
noncomputable def zTG (f:Fg) (s:List UInt8):Option Nop:=match zGh (s.length+1) [] s with
 | some (P,x)=>some ⟨3,f,some x,P,false⟩
 | none=>none
noncomputable def zRn (f:Fg) (s:List UInt8):Option Nop:=match zBj s with
 | some (g,far,s1)=>match zCL s1 with
  | some (o,[])=>some ⟨5,f,some ⟨g,0,far,0⟩,[],o⟩
  | _=>none
 | none=>none
noncomputable def zRo (k:Int) (f:Fg) (s:List UInt8):Option Nop:=match zFT s with
 | some (g,s1)=>match zCL s1 with
  | some (o,[])=>some ⟨k,f,some ⟨g,0,false,0⟩,[],o⟩
  | _=>none
 | none=>none
noncomputable def zAH (S:List UInt8):Option Nop :=
 match zFT S with
 | some (f,b :: s) =>
  if zAI b=4 then zRm f s
  else if zAI b=3 then zTG f s
  else if zAI b=5 then zRn f s
  else if zAI b=6∨zAI b=7 then zRo (zAI b) f s
  else if zAI b=0 then none
  else if s=[] then some ⟨zAI b,f,none,[],false⟩ else none
 | _=>none
theorem zEa {b:UInt8} (h:zAI b≠0):1≤zAI b∧zAI b≤8∧zJe (zAI b)=[b]:=by
 unfold zAI at h ⊢
 repeat (split;· rename_i e;subst e;exact ⟨by omega,by omega,rfl⟩)
 exact absurd (by repeat (rw [if_neg (by assumption)])) h
theorem zTH {k:Int} (h1:1≤k) (h8:k≤8):∃b,zJe k=[b]∧zAI b=k:=by
 have hk:k=1∨k=2∨k=3∨k=4∨k=5∨k=6∨k=7∨k=8:=by omega
 rcases hk with rfl | rfl | rfl | rfl | rfl | rfl | rfl | rfl<;>exact ⟨_,rfl,rfl⟩
theorem zGi {S:List UInt8} {n:Nop} (h:zAH S=some n):okN n∧zWb n∧S=zHI n:=by
 unfold zAH at h;split at h
 ·rename_i f b s hc;obtain ⟨k1,k2,k3⟩:=zMH hc;by_cases e4:zAI b=4
  ·rw [if_pos e4] at h;have hb:=(zEa (b:=b) (by omega)).2.2;unfold zRm at h;split at h
   ·rename_i o ho;simp only [Option.some.injEq] at h;subst h;refine ⟨⟨k1,.inr (.inl ⟨rfl,rfl,rfl⟩)⟩,⟨k2,by simp,by simp⟩,?_⟩;rw [k3,zHK ho,zHI,zSL];simp only [if_true];rw [e4] at hb;rw [hb];simp
   ·cases h
  rw [if_neg e4] at h;by_cases e3:zAI b=3
  ·rw [if_pos e3] at h;have hb:=(zEa (b:=b) (by omega)).2.2;unfold zTG at h;split at h
   ·rename_i P x hp;simp only [Option.some.injEq] at h;subst h;obtain ⟨R,r1,r2,r3,r4,r5⟩:=zMI _ hp;rw [List.nil_append] at r1;subst r1;refine ⟨⟨k1,.inr (.inr (.inl ⟨rfl,⟨x,rfl,r4.ok⟩,fun y hy=>(r3 y hy).ok,rfl⟩))⟩,⟨k2,fun y hy=>by injection hy with hy;subst hy;exact r4.2,fun y hy=>(r3 y hy).2⟩,?_⟩;rw [k3,r5,zHI,zSL];simp only [if_true,show ¬((3:Int)=4) from by omega,if_false,frI];rw [e3] at hb;rw [hb];simp [zJB]
   ·cases h
  rw [if_neg e3] at h;by_cases e5:zAI b=5
  ·rw [if_pos e5] at h;have hb:=(zEa (b:=b) (by omega)).2.2;unfold zRn at h;split at h
   ·rename_i g far s1 hs;obtain ⟨c1,c2⟩:=zGU hs;split at h
    ·rename_i o ho;simp only [Option.some.injEq] at h;subst h;refine ⟨⟨k1,.inr (.inr (.inr (.inl ⟨rfl,⟨_,rfl,c1.ok⟩,rfl⟩)))⟩,⟨k2,fun y hy=>by injection hy with hy;subst hy;exact c1.2,by simp⟩,?_⟩;rw [k3,c2,zHK ho,zHI,zSL];simp only [if_true,show ¬((5:Int)=4) from by omega,show ¬((5:Int)=3) from by omega,if_false,frI];rw [e5] at hb;rw [hb];simp
    ·cases h
   ·cases h
  rw [if_neg e5] at h;by_cases e6:zAI b=6∨zAI b=7
  ·rw [if_pos e6] at h;have hb:=(zEa (b:=b) (by omega)).2.2;unfold zRo at h;split at h
   ·rename_i g s1 hs;obtain ⟨c0,c1,c2⟩:=zMH hs;split at h
    ·rename_i o ho;simp only [Option.some.injEq] at h;subst h;refine ⟨⟨k1,.inr (.inr (.inr (.inr ⟨e6,⟨_,rfl,c0⟩,rfl⟩)))⟩,⟨k2,fun y hy=>by injection hy with hy;subst hy;exact ⟨c1,rfl,rfl⟩,by simp⟩,?_⟩;rw [k3,c2,zHK ho,zHI,zSL];simp only [if_neg e4,if_neg e3,if_neg e5,if_pos e6,frN];rw [hb];simp
    ·cases h
   ·cases h
  rw [if_neg e6] at h;by_cases e0:zAI b=0
  ·rw [if_pos e0] at h;cases h
  rw [if_neg e0] at h;obtain ⟨u1,u2,hb⟩:=zEa (b:=b) e0;split at h
  ·rename_i hs;simp only [Option.some.injEq] at h;subst h;refine ⟨⟨k1,.inl ⟨by simp only;omega,rfl,rfl,rfl⟩⟩,⟨k2,by simp,by simp⟩,?_⟩;rw [k3,hs,zHI,zSL];simp only [if_neg e4,if_neg e3,if_neg e5,if_neg e6];rw [hb];simp
  ·cases h
 ·cases h
theorem zPw {P:List (Nst×Bool)} (x:Nst):P.length≤(zJB P x).length:=by
 induction P with
 | nil=>simp
 | cons y P ih =>
  cases P with
  | nil=>unfold zJB;rw [if_neg (by simp)];simp;omega
  | cons z P =>
   unfold zJB at ih ⊢;rw [if_neg (by simp)] at ih ⊢;rw [zJC];simp only [List.length_append,List.length_cons,List.length_nil] at ih ⊢;omega
theorem zTI {n:Nop} (h:okN n) (hc:zWb n):zAH (zHI n)=some n:=by
 obtain ⟨hf,hk⟩:=h;obtain ⟨c1,c2,c3⟩:=hc;obtain ⟨k,f,fr,path,over⟩:=n;unfold zKu at hk;simp only at hf hk c1 c2 c3;have hk18:1≤k∧k≤8:=by
  rcases hk with ⟨h,_⟩ | ⟨h,_⟩ | ⟨h,_⟩ | ⟨h,_⟩ | ⟨h,_⟩<;>omega
 obtain ⟨b,hb1,hb2⟩:=zTH hk18.1 hk18.2;unfold zAH zHI;simp only;rw [hb1,List.append_assoc,List.singleton_append,zLH hf c1];simp only;rw [hb2];unfold zSL;simp only;rcases hk with ⟨e,rfl,rfl,rfl⟩ | ⟨rfl,rfl,rfl⟩ | ⟨rfl,⟨x,rfl,hx⟩,hp,rfl⟩ | ⟨rfl,⟨x,rfl,hx⟩,rfl⟩ | ⟨e,⟨g,rfl,hg⟩,rfl⟩
 ·have n4:¬k=4:=by omega
  have n3:¬k=3:=by omega
  have n5:¬k=5:=by omega
  have n6:¬(k=6∨k=7):=by omega
  have n0:¬k=0:=by omega
  simp only [if_neg n4,if_neg n3,if_neg n5,if_neg n6,if_neg n0,if_true]
 ·have hfl:=zHJ over [];rw [List.append_nil] at hfl;simp only [if_true,zRm];rw [hfl]
 ·have hx2:simN x:=⟨hx.1,c2 x rfl⟩;have hp2:=zMJ hx2 ((zJB path x).length+1) [] path (by have:=zPw (P:=path) x;omega) (.inr rfl) (fun y hy=>⟨(hp y hy).1,c3 y hy⟩);simp only [show ¬((3:Int)=4) from by omega,if_false,if_true,frI];rw [show (if path=[] then [] else Lib.join (path.map zQO) [44]++[60])++brN x=zJB path x from rfl];unfold zTG;rw [hp2];rfl
 ·have hx2:simN x:=⟨hx.1,c2 x rfl⟩;have hfl:=zHJ over [];rw [List.append_nil] at hfl;simp only [show ¬((5:Int)=4) from by omega,show ¬((5:Int)=3) from by omega,if_false,if_true,frI];unfold zRn;rw [zFx hx2];simp only;rw [hfl];simp only;rw [←hx2.is]
 ·have n4:¬k=4:=by omega
  have n3:¬k=3:=by omega
  have n5:¬k=5:=by omega
  have hfl:=zHJ over [];rw [List.append_nil] at hfl;simp only [if_neg n4,if_neg n3,if_neg n5,if_pos e,frN];unfold zRo;rw [zLH hg (c2 _ rfl).1];simp only;rw [hfl]
theorem zGj {fn:Func} {p u v:Tmp} {ty:TypeId} (h:fn.results=#[.cell p ty,.tmp u,.tmp v]) (tmps:Array Value) (P:Program) (w:World) :
  (results fn tmps).run P w =
   ((asAddr (tmps.getD p undef)).run P w).andThen fun a w₁=>((loadVar ty a).run P w₁).andThen fun x w₂=>.ok (.tuple #[x,tmps.getD u undef,tmps.getD v undef]) w₂:=by
 simp only [results,h];simp [Sem.run_bind,Result.andThen]
theorem zDh {P:Program} {fn:Func} {p u u2:Tmp} {ty:TypeId} {R:Ending→World→Prop} {a:Act} {w:World} {g:Nat} {t:TypeId} {cs:Array Value} {fr:Nat×Nat} {d:TypeDesc} {v v2:Value} (h:fn.results=#[.cell p ty,.tmp u,.tmp u2])
  (hp:a.tmps.getD p undef=.pointer (some ⟨g,0,none⟩)) (hv:a.tmps.getD u undef=v) (hv2:a.tmps.getD u2 undef=v2) (hg:w.heap[g]? = some (.cells cs t fr)) (hu:P.underlying ty=some d) (hd:(match d with | .struct _ | .array _ _=>true | _=>false)=true) (hi:(P.info? ty).map (·.size)=some cs.size)
  (hdf:a.defers=[]) (hR:R (.returned (.tuple #[.agg cs,v,v2])) w):bodyPost P fn R .ret a w:=by
 refine bodyPost_ret ?_ hdf hR;rw [zGj h,hp,hv,hv2];simp [asAddr,run_loadVar_row w g t ty cs fr d hg hu hd hi,Result.andThen]
def zEp (w0:World) (rb:Nat) (F:Fm) (s:RS) (S:List UInt8) (e:Ending) (w':World):Prop :=
 (match zFT S with
  | some (f,r)=>e=.returned (.tuple #[.int .i64 (zBb F.L f:Int),.string (bA r),.bool true])∧RX w' rb F ⟨s.T,s.bad,s.lost||zBA F.L f⟩
  | none=>e=.returned (.tuple #[.int .i64 0,.string (bA S),.bool false])∧RX w' rb F s)∧w0.grownBy w' (some rb)
theorem zMK {w:World} {rb:Nat} {F:Fm} {s:RS} (h:RX w rb F s) (S:List UInt8):Calls Tryz.prog 160 #[.pointer (some ⟨rb,0,none⟩),.string (bA S)] w (zEp w rb F s S):=by
 refine (zNI rb F.A F.n F.c F.L F.re F.lo s.T s.bad s.lost S w h.rd h.fr h.ne).mono ?_;rintro e w' ⟨h1,h2⟩;unfold zEp;refine ⟨?_,h2⟩
 cases hc:zFT S with
 | none =>
  rw [hc] at h1;exact ⟨h1.1,⟨h1.2,h.fr.keepR h2 h.ne,h.ne⟩⟩
 | some p =>
  rw [hc] at h1;exact ⟨h1.1,⟨h1.2,h.fr.keepR h2 h.ne,h.ne⟩⟩
theorem zGV {w0:World} {rb:Nat} {F:Fm} {s:RS} {S r:List UInt8} {f:Fg} {e:Ending} {w':World} (h:zEp w0 rb F s S e w') (hc:zFT S=some (f,r)) :
  e=.returned (.tuple #[.int .i64 (zBb F.L f:Int),.string (bA r),.bool true])∧RX w' rb F ⟨s.T,s.bad,s.lost||zBA F.L f⟩∧w0.grownBy w' (some rb):=by
 unfold zEp at h;rw [hc] at h;exact ⟨h.1.1,h.1.2,h.2⟩
theorem zGW {w0:World} {rb:Nat} {F:Fm} {s:RS} {S:List UInt8} {e:Ending} {w':World} (h:zEp w0 rb F s S e w') (hc:zFT S=none) :
  e=.returned (.tuple #[.int .i64 0,.string (bA S),.bool false])∧RX w' rb F s∧w0.grownBy w' (some rb):=by
 unfold zEp at h;rw [hc] at h;exact ⟨h.1.1,h.1.2,h.2⟩
def zBy (w0:World) (rb:Nat) (F:Fm) (s:RS) (S:List UInt8) (e:Ending) (w':World):Prop :=
 (match zBj S with
  | some (f,far,r)=>e=.returned (.tuple #[.agg #[.int .i64 (zBb F.L f:Int),.int .i64 0,.bool far,.int .i64 0],.string (bA r),.bool true])∧RX w' rb F ⟨s.T,s.bad,s.lost||zBA F.L f⟩
  | none=>e=.returned (.tuple #[.agg #[.int .i64 0,.int .i64 0,.bool false,.int .i64 0],.string (bA S),.bool false])∧∃l,RX w' rb F ⟨s.T,s.bad,l⟩)∧w0.grownBy w' (some rb)
theorem zGk {w0:World} {rb:Nat} {F:Fm} {s:RS} {S r:List UInt8} {f:Fg} {far:Bool} {e:Ending} {w':World} (h:zBy w0 rb F s S e w') (hc:zBj S=some (f,far,r)) :
  e=.returned (.tuple #[.agg #[.int .i64 (zBb F.L f:Int),.int .i64 0,.bool far,.int .i64 0],.string (bA r),.bool true])∧RX w' rb F ⟨s.T,s.bad,s.lost||zBA F.L f⟩∧w0.grownBy w' (some rb):=by
 unfold zBy at h;rw [hc] at h;exact ⟨h.1.1,h.1.2,h.2⟩
theorem zGl {w0:World} {rb:Nat} {F:Fm} {s:RS} {S:List UInt8} {e:Ending} {w':World} (h:zBy w0 rb F s S e w') (hc:zBj S=none) :
  e=.returned (.tuple #[.agg #[.int .i64 0,.int .i64 0,.bool false,.int .i64 0],.string (bA S),.bool false])∧(∃l,RX w' rb F ⟨s.T,s.bad,l⟩)∧w0.grownBy w' (some rb):=by
 unfold zBy at h;rw [hc] at h;exact ⟨h.1.1,h.1.2,h.2⟩
set_option maxHeartbeats 6400000 in
theorem zEb (rb:Nat) (F:Fm) (s:RS) (S:List UInt8) (w:World) (h:RX w rb F s) :
  Calls Tryz.prog 162 #[.pointer (some ⟨rb,0,none⟩),.string (bA S)] w (zBy w rb F s S):=by
 have hlt:=h.lt;have b1:Below w.heap.size w (w.alloc (.cells #[.int .i64 0,.int .i64 0,.bool false,.int .i64 0] 29)):=(Below.refl _ _).alloc (Nat.le_refl _) _;have k1:Blk (w.alloc (.cells #[.int .i64 0,.int .i64 0,.bool false,.int .i64 0] 29)) w.heap.size 29 #[.int .i64 0,.int .i64 0,.bool false,.int .i64 0]:=Blk.new _ _ _;have h1:=h.below b1;have g1:w.grownBy (w.alloc (.cells #[.int .i64 0,.int .i64 0,.bool false,.int .i64 0] 29)) (some rb):=zAw b1;have HCU:=Lib.hid (fun wx (hx:RX wx rb F s)=>zMK hx S)
 have NONE:=Lib.hid (fun (hn:zBj S=none) (e:Ending) (wx:World) (he:e=.returned (.tuple #[.agg #[.int .i64 0,.int .i64 0,.bool false,.int .i64 0],.string (bA S),.bool false])) (hx:∃l,RX wx rb F ⟨s.T,s.bad,l⟩) (hg:w.grownBy wx (some rb)) =>
  (show zBy w rb F s S e wx by unfold zBy;rw [hn];exact ⟨⟨he,hx⟩,hg⟩))
 have SOME:=Lib.hid (fun (f:Fg) (far:Bool) (r:List UInt8) (hn:zBj S=some (f,far,r)) (e:Ending) (wx:World) (he:e=.returned (.tuple #[.agg #[.int .i64 (zBb F.L f:Int),.int .i64 0,.bool far,.int .i64 0],.string (bA r),.bool true])) (hx:RX wx rb F ⟨s.T,s.bad,s.lost||zBA F.L f⟩) (hg:w.grownBy wx (some rb)) =>
  (show zBy w rb F s S e wx by unfold zBy;rw [hn];exact ⟨⟨he,hx⟩,hg⟩))
 clear h b1;go_enter Tryz.func162,Tryz.ntmps162;go_wp2_with fail
 generalize w.alloc (.cells #[.int .i64 0,.int .i64 0,.bool false,.int .i64 0] 29)=X1 at k1 h1 g1 ⊢;refine (HCU.out X1 h1).mono ?_;intro e X2 hc
 have key:∀(sx:RS) (wx:World),RX wx rb F sx→X1.grownBy wx (some rb)→∃(v:Unit),(wx.cell? ⟨w.heap.size,0,none⟩=some (.int .i64 0)∧wx.frozen? ⟨w.heap.size,0,none⟩=false∧wx.cell? ⟨w.heap.size,1,none⟩=some (.int .i64 0)∧wx.frozen? ⟨w.heap.size,1,none⟩=false∧wx.cell? ⟨w.heap.size,2,none⟩=some (.bool false)∧wx.frozen? ⟨w.heap.size,2,none⟩=false∧wx.cell? ⟨w.heap.size,3,none⟩=some (.int .i64 0)∧wx.frozen? ⟨w.heap.size,3,none⟩=false) ∧
   Hid (∀(u0 u1 u2 u3:Value),Blk ((((wx.setCell ⟨w.heap.size,0,none⟩ u0).setCell ⟨w.heap.size,1,none⟩ u1).setCell ⟨w.heap.size,2,none⟩ u2).setCell ⟨w.heap.size,3,none⟩ u3) w.heap.size 29 #[u0,u1,u2,u3] ∧
    RX ((((wx.setCell ⟨w.heap.size,0,none⟩ u0).setCell ⟨w.heap.size,1,none⟩ u1).setCell ⟨w.heap.size,2,none⟩ u2).setCell ⟨w.heap.size,3,none⟩ u3) rb F sx ∧
    w.grownBy ((((wx.setCell ⟨w.heap.size,0,none⟩ u0).setCell ⟨w.heap.size,1,none⟩ u1).setCell ⟨w.heap.size,2,none⟩ u2).setCell ⟨w.heap.size,3,none⟩ u3) (some rb)):=fun sx wx hx hg=>by
  have kx:=k1.grownO hg hlt;refine ⟨(),⟨(kx.cell 0).trans rfl,kx.frozen 0,(kx.cell 1).trans rfl,kx.frozen 1,(kx.cell 2).trans rfl,kx.frozen 2,(kx.cell 3).trans rfl,kx.frozen 3⟩,Lib.hid fun u0 u1 u2 u3=>⟨kx.store4 u0 u1 u2 u3,hx.over (zCm (Below.refl (rb+1) wx) (show rb+1≤w.heap.size from hlt) u0 u1 u2 u3),zAd (zAb g1 hg) (zCm (Below.refl w.heap.size wx) (Nat.le_refl w.heap.size) u0 u1 u2 u3)⟩⟩
 have KEY:=Lib.hid key;clear key k1 h1 g1 HCU
 cases hcf:zFT S with
 | none =>
  obtain ⟨rfl,hx,hg⟩:=zGW hc hcf;have HN:=Lib.hid (show zBj S=none by unfold zBj;rw [hcf]);obtain ⟨_,⟨c0,z0,c1,z1,c2,z2,c3,z3⟩,HK⟩:=KEY.out s X2 hx hg;clear hc hcf hx hg KEY SOME;go_wp2_with fail
  exact zDh rfl rfl rfl rfl (HK.out _ _ _ _).1 Tryz.underlying29 rfl (by kernel_rfl) rfl (NONE.out HN.out _ _ rfl ⟨_,(HK.out _ _ _ _).2.1⟩ (HK.out _ _ _ _).2.2)
 | some p =>
  obtain ⟨f,r⟩:=p;obtain ⟨rfl,hx,hg⟩:=zGV hc hcf;obtain ⟨_,⟨c0,z0,c1,z1,c2,z2,c3,z3⟩,HK⟩:=KEY.out _ X2 hx hg;obtain ⟨ix,hix⟩:∃x,zBb F.L f=x:=⟨_,rfl⟩
  rw [hix];have HIX:=Lib.hid hix;have n0:=zAJ r [];clear hc hx hg KEY hix
  cases r with
  | nil =>
   rw [show (([]:List UInt8)==[])=true from rfl] at n0;have HN:=Lib.hid (show zBj S=none by unfold zBj;rw [hcf]);clear hcf SOME;go_wp2_with fail
   exact zDh rfl rfl rfl rfl (HK.out _ _ _ _).1 Tryz.underlying29 rfl (by kernel_rfl) rfl (NONE.out HN.out _ _ rfl ⟨_,(HK.out _ _ _ _).2.1⟩ (HK.out _ _ _ _).2.2)
  | cons x r =>
   rw [show (x :: r==([]:List UInt8))=false from rfl] at n0;have t1:=zDR x r;have t2:=zGP x r;by_cases h1:x=110
   ·have HS:=Lib.hid (show zBj S=some (f,false,r) by unfold zBj;rw [hcf];simp only;rw [if_pos h1]);subst h1;rw [show (((110:UInt8).toNat:Nat):Int)=110 from rfl] at t1;clear hcf NONE;go_wp2_with fail
    go_region
    go_wp2_with fail
    exact zDh rfl rfl rfl rfl (HK.out _ _ _ _).1.drew Tryz.underlying29 rfl (by kernel_rfl) rfl (SOME.out f false r HS.out _ _ (by first | (rw [HIX.out];done) | (rw [HIX.out];rfl)) ((HK.out _ _ _ _).2.1.below (Below.refl _ _).drew) (zBU (HK.out _ _ _ _).2.2))
   ·by_cases h2:x=102
    ·have HS:=Lib.hid (show zBj S=some (f,true,r) by unfold zBj;rw [hcf];simp only;rw [if_neg h1,if_pos h2]);subst h2;rw [show (((102:UInt8).toNat:Nat):Int)=102 from rfl] at t1;clear hcf NONE h1;go_wp2_with fail
     go_region
     go_wp2_with fail
     exact zDh rfl rfl rfl rfl (HK.out _ _ _ _).1.drew Tryz.underlying29 rfl (by kernel_rfl) rfl (SOME.out f true r HS.out _ _ (by first | (rw [HIX.out];done) | (rw [HIX.out];rfl)) ((HK.out _ _ _ _).2.1.below (Below.refl _ _).drew) (zBU (HK.out _ _ _ _).2.2))
    ·have k1:((x.toNat:Int) != 110)=true:=by
      simp only [bne_iff_ne,ne_eq];intro e;exact h1 (UInt8.toNat.inj (show x.toNat=110 by omega))
     have k2:((x.toNat:Int) != 102)=true:=by
      simp only [bne_iff_ne,ne_eq];intro e;exact h2 (UInt8.toNat.inj (show x.toNat=102 by omega))
     have HN:=Lib.hid (show zBj S=none by unfold zBj;rw [hcf];simp only;rw [if_neg h1,if_neg h2]);clear hcf SOME h1 h2;go_wp2_with fail
     exact zDh rfl rfl rfl rfl (HK.out _ _ _ _).1 Tryz.underlying29 rfl (by kernel_rfl) rfl (NONE.out HN.out _ _ rfl ⟨_,(HK.out _ _ _ _).2.1⟩ (HK.out _ _ _ _).2.2)
end Go.Proofs.YtlmdfmnbcndhoaaGreatDoor
