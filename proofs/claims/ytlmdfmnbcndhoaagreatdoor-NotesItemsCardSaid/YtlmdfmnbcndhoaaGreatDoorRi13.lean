/-
  Lemmas, part 13. Conditions: each theorem's own.
-/
import Derived.Test.YtlmdfmnbcndhoaaGreatDoorRi12
import Derived.Laws.RangeAny
namespace Go.Proofs.YtlmdfmnbcndhoaaGreatDoor
open Go.RowKit
def nfN (far:Bool):List UInt8:=if far then [102] else [110]
def brN (x:Nst):List UInt8:=zAk x.f++nfN x.far
def zDT (x:Nst×Bool):List UInt8:=brN x.1++zAo x.2
def zHr (P:List (Nst×Bool)) (x:Nst):List UInt8:=(if P=[] then [] else Lib.join (P.map zDT) [44]++[60])++brN x
def frI (n:Nop):List UInt8:=match n.fr with | some x=>brN x | none=>[]
def zOG (n:Nop):List UInt8 :=
 if n.kind=4 then zAo n.over
 else if n.kind=3 then (if n.path=[] then [] else Lib.join (n.path.map zDT) [44]++[60])++frI n
 else if n.kind=5 then frI n++zAo n.over
 else if n.kind=6∨n.kind=7 then frN n++zAo n.over
 else []
def zDU (n:Nop):List UInt8:=zAk n.f++zCE n.kind++zOG n
def zWn (x:Nst):Prop:=x.f.p=1∧x.l=0∧x.pc=0
def zUE (n:Nop):Prop:=n.f.p=1∧(∀x,n.fr=some x→zWn x)∧∀y∈n.path,zWn y.1
def simN (x:Nst):Prop:=zAm x.f=true∧zWn x
theorem simN.ok {x:Nst} (h:simN x):zCp x:=⟨h.1,by rw [h.2.2.1];omega,by rw [h.2.2.1];omega,by rw [h.2.2.2];omega,by rw [h.2.2.2];omega⟩
theorem simN.is {x:Nst} (h:simN x):x=⟨x.f,0,x.far,0⟩:=by
 obtain ⟨f,l,far,pc⟩:=x;have h1:=h.2.2.1;have h2:=h.2.2.2;simp only at h1 h2;subst h1;subst h2;rfl
theorem zIN {f:Fg} (hf:zAm f=true) (h1:f.p=1):zAk f=[(if f.r then 82 else 76),UInt8.ofNat (48+f.d.toNat)]:=by
 obtain ⟨a1,a2,a3,a4⟩:=zAp.1 hf;unfold zAk;rw [if_pos h1,zCc a3 (by omega)];rfl
theorem zKY {f:Fg} (hf:zAm f=true) (h1:f.p=1) (r:List UInt8):zFk (zAk f++r)=some (f,r):=by
 have h2:=zIN hf h1;have hp:=zCn hf h2;rw [h2];simp only [List.cons_append,List.nil_append,zFk,hp,if_pos h1]
theorem zLV {S r:List UInt8} {f:Fg} (h:zFk S=some (f,r)):zAm f=true∧f.p=1∧S=zAk f++r:=by
 match S,h with
 | [],h=>simp [zFk] at h
 | [x],h=>simp [zFk] at h
 | x :: y :: q,h =>
  simp only [zFk] at h
  cases hp:zFP [x,y] with
  | none=>rw [hp] at h;simp at h
  | some g =>
   rw [hp] at h;simp only at h;split at h
   ·rename_i h1;simp only [Option.some.injEq,Prod.mk.injEq] at h;obtain ⟨rfl,rfl⟩:=h;obtain ⟨k1,k2⟩:=zKS hp;exact ⟨k1,h1,by rw [k2];rfl⟩
   ·cases h
noncomputable def zAQ (S:List UInt8):Option (Fg×Bool×List UInt8) :=
 match zFk S with
 | some (f,x :: r)=>if x=110 then some (f,false,r) else if x=102 then some (f,true,r) else none
 | _=>none
theorem zEJ {x:Nst} (h:simN x) (r:List UInt8):zAQ (brN x++r)=some (x.f,x.far,r):=by
 unfold zAQ brN;rw [List.append_assoc,zKY h.1 h.2.1]
 cases x.far<;>rfl
theorem zGi {S r:List UInt8} {f:Fg} {far:Bool} (h:zAQ S=some (f,far,r)):simN ⟨f,0,far,0⟩∧S=brN ⟨f,0,far,0⟩++r:=by
 unfold zAQ at h;split at h
 ·rename_i g x q hc;obtain ⟨k1,k2,k3⟩:=zLV hc;split at h
  ·rename_i hx;simp only [Option.some.injEq,Prod.mk.injEq] at h;obtain ⟨rfl,rfl,rfl⟩:=h;exact ⟨⟨k1,k2,rfl,rfl⟩,by rw [k3,hx];simp [brN,nfN]⟩
  ·split at h
   ·rename_i hx;simp only [Option.some.injEq,Prod.mk.injEq] at h;obtain ⟨rfl,rfl,rfl⟩:=h;exact ⟨⟨k1,k2,rfl,rfl⟩,by rw [k3,hx];simp [brN,nfN]⟩
   ·cases h
 ·cases h
def zCx:List UInt8→Option (Bool×List UInt8)
 | []=>none
 | x :: r=>if x=111 then some (true,r) else if x=117 then some (false,r) else none
theorem zGQ (b:Bool) (r:List UInt8):zCx (zAo b++r)=some (b,r):=by cases b<;>rfl
theorem zGR {S r:List UInt8} {b:Bool} (h:zCx S=some (b,r)):S=zAo b++r:=by
 match S,h with
 | x :: S,h =>
  rw [zCx] at h;by_cases h1:x=111
  ·rw [if_pos h1] at h;simp only [Option.some.injEq,Prod.mk.injEq] at h;obtain ⟨rfl,rfl⟩:=h;rw [h1];rfl
  ·rw [if_neg h1] at h;by_cases h2:x=117
   ·rw [if_pos h2] at h;simp only [Option.some.injEq,Prod.mk.injEq] at h;obtain ⟨rfl,rfl⟩:=h;rw [h2];rfl
   ·rw [if_neg h2] at h;cases h
noncomputable def zFs:Nat→List (Nst×Bool)→List UInt8→Option (List (Nst×Bool)×Nst)
 | 0,_,_=>none
 | n+1,P,s =>
  match zAQ s with
  | none=>none
  | some (f,far,s1) =>
   if s1=[]∧P=[] then some ([],⟨f,0,far,0⟩)
   else match zCx s1 with
    | none=>none
    | some (_,[])=>none
    | some (o,c :: s2) =>
     if c=44 then zFs n (P++[(⟨f,0,far,0⟩,o)]) s2
     else if c=60 then match zAQ s2 with
      | some (g,far2,[])=>some (P++[(⟨f,0,far,0⟩,o)],⟨g,0,far2,0⟩)
      | _=>none
     else none
theorem zIO (x y:Nst×Bool) (R:List (Nst×Bool)):Lib.join ((x :: y :: R).map zDT) [44]=zDT x++[44]++Lib.join ((y :: R).map zDT) [44]:=by
 simp only [List.map_cons];exact zGe _ _ _ _
theorem zLW:∀(n:Nat) {P Q:List (Nst×Bool)} {x:Nst} {s:List UInt8},zFs n P s=some (Q,x) →
  ∃R,Q=P++R∧(R≠[]∨P=[])∧(∀y∈R,simN y.1)∧simN x∧s=zHr R x
 | 0,P,Q,x,s,h=>by simp [zFs] at h
 | n+1,P,Q,x,s,h=>by
  rw [zFs] at h;split at h
  ·cases h
  ·rename_i f far s1 hs;obtain ⟨a1,a2⟩:=zGi hs;split at h
   ·rename_i hc;obtain ⟨rfl,rfl⟩:=hc;simp only [Option.some.injEq,Prod.mk.injEq] at h;obtain ⟨rfl,rfl⟩:=h;exact ⟨[],rfl,.inr rfl,by simp,a1,by rw [a2];simp [zHr]⟩
   ·split at h
    ·cases h
    ·cases h
    ·rename_i o c s2 hf;have b:=zGR hf;split at h
     ·rename_i h44;obtain ⟨R,r1,r2,r3,r4,r5⟩:=zLW n h;have hR:R≠[]:=by
       rcases r2 with r2 | r2
       ·exact r2
       ·simp at r2
      obtain ⟨y,R,rfl⟩:∃y R',R=y :: R':=by
       cases R with
       | nil=>exact absurd rfl hR
       | cons y R=>exact ⟨y,R,rfl⟩
      refine ⟨(⟨f,0,far,0⟩,o) :: y :: R,by rw [r1];simp,.inl (by simp),fun z hz=>?_,r4,?_⟩
      ·rcases List.mem_cons.1 hz with rfl | hz
       ·exact a1
       ·exact r3 z hz
      ·rw [a2,b,h44,r5];unfold zHr;rw [if_neg (by simp),if_neg (by simp),zIO];simp [zDT]
     ·split at h
      ·rename_i h60;split at h
       ·rename_i g far2 hs2;obtain ⟨c1,c2⟩:=zGi hs2;simp only [Option.some.injEq,Prod.mk.injEq] at h;obtain ⟨rfl,rfl⟩:=h;refine ⟨[(⟨f,0,far,0⟩,o)],rfl,.inl (by simp),fun z hz=>?_,c1,?_⟩
        ·simp only [List.mem_singleton] at hz;subst hz;exact a1
        ·rw [a2,b,h60,c2];unfold zHr;rw [if_neg (by simp)];simp only [List.map_cons,List.map_nil,Lib.join_one];simp [zDT]
       ·cases h
      ·cases h
theorem zLX {x:Nst} (hx:simN x):∀(n:Nat) (P R:List (Nst×Bool)),R.length < n→(R≠[]∨P=[])→(∀y∈R,simN y.1)→zFs n P (zHr R x)=some (P++R,x)
 | 0,P,R,h,_,_=>absurd h (by omega)
 | n+1,P,[],_,h2,_=>by
  have hP:P=[]:=by
   rcases h2 with h | h
   ·exact absurd rfl h
   ·exact h
  subst hP;have hs:=zEJ hx [];rw [List.append_nil] at hs;rw [zFs,show zHr [] x=brN x from by simp [zHr],hs];simp only [and_self,if_true];rw [←hx.is];rfl
 | n+1,P,[y],_,_,h3=>by
  have hy:=h3 y (List.mem_cons_self ..);have e:zHr [y] x=brN y.1++(zAo y.2++60 :: brN x):=by
   unfold zHr;rw [if_neg (by simp)];simp only [List.map_cons,List.map_nil,Lib.join_one];simp [zDT]
  have hs:=zEJ hx [];rw [List.append_nil] at hs;rw [zFs,e,zEJ hy];simp only;rw [if_neg (by cases y.2<;>simp [zAo]),zGQ];simp only [show ((60:UInt8)=44)=False from by simp,if_false,if_true,hs];rw [←hx.is,←hy.is]
 | n+1,P,y :: z :: R,h1,_,h3=>by
  have hy:=h3 y (List.mem_cons_self ..);have e:zHr (y :: z :: R) x=brN y.1++(zAo y.2++44 :: zHr (z :: R) x):=by
   unfold zHr;rw [if_neg (by simp),if_neg (by simp),zIO];simp [zDT]
  rw [zFs,e,zEJ hy];simp only;rw [if_neg (by cases y.2<;>simp [zAo]),zGQ];simp only [if_true];rw [←hy.is,zLX hx n (P++[(y.1,y.2)]) (z :: R) (by simp at h1 ⊢;omega) (.inl (by simp)) (fun w hw=>h3 w (List.mem_cons_of_mem _ hw))];simp
def zAD (b:UInt8):Int:=if b=45 then 1 else if b=94 then 2 else if b=60 then 3 else if b=126 then 4 else if b=61 then 5 else if b=42 then 6 else if b=37 then 7 else if b=33 then 8 else 0
noncomputable def zQO (f:Fg) (s:List UInt8):Option Nop:=match zCx s with
 | some (o,[])=>some ⟨4,f,none,[],o⟩
 | _=>none
noncomputable def zTt (f:Fg) (s:List UInt8):Option Nop:=match zFs (s.length+1) [] s with
 | some (P,x)=>some ⟨3,f,some x,P,false⟩
 | none=>none
noncomputable def zQP (f:Fg) (s:List UInt8):Option Nop:=match zAQ s with
 | some (g,far,s1)=>match zCx s1 with
  | some (o,[])=>some ⟨5,f,some ⟨g,0,far,0⟩,[],o⟩
  | _=>none
 | none=>none
noncomputable def zQQ (k:Int) (f:Fg) (s:List UInt8):Option Nop:=match zFk s with
 | some (g,s1)=>match zCx s1 with
  | some (o,[])=>some ⟨k,f,some ⟨g,0,false,0⟩,[],o⟩
  | _=>none
 | none=>none
noncomputable def zAy (S:List UInt8):Option Nop :=
 match zFk S with
 | some (f,b :: s) =>
  if zAD b=4 then zQO f s
  else if zAD b=3 then zTt f s
  else if zAD b=5 then zQP f s
  else if zAD b=6∨zAD b=7 then zQQ (zAD b) f s
  else if zAD b=0 then none
  else if s=[] then some ⟨zAD b,f,none,[],false⟩ else none
 | _=>none
theorem zDw {b:UInt8} (h:zAD b≠0):1≤zAD b∧zAD b≤8∧zCE (zAD b)=[b]:=by
 unfold zAD at h ⊢
 repeat (split;· rename_i e;subst e;exact ⟨by omega,by omega,rfl⟩)
 exact absurd (by repeat (rw [if_neg (by assumption)])) h
theorem zTu {k:Int} (h1:1≤k) (h8:k≤8):∃b,zCE k=[b]∧zAD b=k:=by
 have hk:k=1∨k=2∨k=3∨k=4∨k=5∨k=6∨k=7∨k=8:=by omega
 rcases hk with rfl | rfl | rfl | rfl | rfl | rfl | rfl | rfl<;>exact ⟨_,rfl,rfl⟩
theorem zCL {S:List UInt8} {n:Nop} (h:zAy S=some n):okN n∧zUE n∧S=zDU n:=by
 unfold zAy at h;split at h
 ·rename_i f b s hc;obtain ⟨k1,k2,k3⟩:=zLV hc;by_cases e4:zAD b=4
  ·rw [if_pos e4] at h;have hb:=(zDw (b:=b) (by omega)).2.2;unfold zQO at h;split at h
   ·rename_i o ho;simp only [Option.some.injEq] at h;subst h;refine ⟨⟨k1,.inr (.inl ⟨rfl,rfl,rfl⟩)⟩,⟨k2,by simp,by simp⟩,?_⟩;rw [k3,zGR ho,zDU,zOG];simp only [if_true];rw [e4] at hb;rw [hb];simp
   ·cases h
  rw [if_neg e4] at h;by_cases e3:zAD b=3
  ·rw [if_pos e3] at h;have hb:=(zDw (b:=b) (by omega)).2.2;unfold zTt at h;split at h
   ·rename_i P x hp;simp only [Option.some.injEq] at h;subst h;obtain ⟨R,r1,r2,r3,r4,r5⟩:=zLW _ hp;rw [List.nil_append] at r1;subst r1;refine ⟨⟨k1,.inr (.inr (.inl ⟨rfl,⟨x,rfl,r4.ok⟩,fun y hy=>(r3 y hy).ok,rfl⟩))⟩,⟨k2,fun y hy=>by injection hy with hy;subst hy;exact r4.2,fun y hy=>(r3 y hy).2⟩,?_⟩;rw [k3,r5,zDU,zOG];simp only [if_true,show ¬((3:Int)=4) from by omega,if_false,frI];rw [e3] at hb;rw [hb];simp [zHr]
   ·cases h
  rw [if_neg e3] at h;by_cases e5:zAD b=5
  ·rw [if_pos e5] at h;have hb:=(zDw (b:=b) (by omega)).2.2;unfold zQP at h;split at h
   ·rename_i g far s1 hs;obtain ⟨c1,c2⟩:=zGi hs;split at h
    ·rename_i o ho;simp only [Option.some.injEq] at h;subst h;refine ⟨⟨k1,.inr (.inr (.inr (.inl ⟨rfl,⟨_,rfl,c1.ok⟩,rfl⟩)))⟩,⟨k2,fun y hy=>by injection hy with hy;subst hy;exact c1.2,by simp⟩,?_⟩;rw [k3,c2,zGR ho,zDU,zOG];simp only [if_true,show ¬((5:Int)=4) from by omega,show ¬((5:Int)=3) from by omega,if_false,frI];rw [e5] at hb;rw [hb];simp
    ·cases h
   ·cases h
  rw [if_neg e5] at h;by_cases e6:zAD b=6∨zAD b=7
  ·rw [if_pos e6] at h;have hb:=(zDw (b:=b) (by omega)).2.2;unfold zQQ at h;split at h
   ·rename_i g s1 hs;obtain ⟨c0,c1,c2⟩:=zLV hs;split at h
    ·rename_i o ho;simp only [Option.some.injEq] at h;subst h;refine ⟨⟨k1,.inr (.inr (.inr (.inr ⟨e6,⟨_,rfl,c0⟩,rfl⟩)))⟩,⟨k2,fun y hy=>by injection hy with hy;subst hy;exact ⟨c1,rfl,rfl⟩,by simp⟩,?_⟩;rw [k3,c2,zGR ho,zDU,zOG];simp only [if_neg e4,if_neg e3,if_neg e5,if_pos e6,frN];rw [hb];simp
    ·cases h
   ·cases h
  rw [if_neg e6] at h;by_cases e0:zAD b=0
  ·rw [if_pos e0] at h;cases h
  rw [if_neg e0] at h;obtain ⟨u1,u2,hb⟩:=zDw (b:=b) e0;split at h
  ·rename_i hs;simp only [Option.some.injEq] at h;subst h;refine ⟨⟨k1,.inl ⟨by simp only;omega,rfl,rfl,rfl⟩⟩,⟨k2,by simp,by simp⟩,?_⟩;rw [k3,hs,zDU,zOG];simp only [if_neg e4,if_neg e3,if_neg e5,if_neg e6];rw [hb];simp
  ·cases h
 ·cases h
theorem zOH {P:List (Nst×Bool)} (x:Nst):P.length≤(zHr P x).length:=by
 induction P with
 | nil=>simp
 | cons y P ih =>
  cases P with
  | nil=>unfold zHr;rw [if_neg (by simp)];simp;omega
  | cons z P =>
   unfold zHr at ih ⊢;rw [if_neg (by simp)] at ih ⊢;rw [zIO];simp only [List.length_append,List.length_cons,List.length_nil] at ih ⊢;omega
theorem zOI {n:Nop} (h:okN n) (hc:zUE n):zAy (zDU n)=some n:=by
 obtain ⟨hf,hk⟩:=h;obtain ⟨c1,c2,c3⟩:=hc;obtain ⟨k,f,fr,path,over⟩:=n;unfold zGJ at hk;simp only at hf hk c1 c2 c3;have hk18:1≤k∧k≤8:=by
  rcases hk with ⟨h,_⟩ | ⟨h,_⟩ | ⟨h,_⟩ | ⟨h,_⟩ | ⟨h,_⟩<;>omega
 obtain ⟨b,hb1,hb2⟩:=zTu hk18.1 hk18.2;unfold zAy zDU;simp only;rw [hb1,List.append_assoc,List.singleton_append,zKY hf c1];simp only;rw [hb2];unfold zOG;simp only;rcases hk with ⟨e,rfl,rfl,rfl⟩ | ⟨rfl,rfl,rfl⟩ | ⟨rfl,⟨x,rfl,hx⟩,hp,rfl⟩ | ⟨rfl,⟨x,rfl,hx⟩,rfl⟩ | ⟨e,⟨g,rfl,hg⟩,rfl⟩
 ·have n4:¬k=4:=by omega
  have n3:¬k=3:=by omega
  have n5:¬k=5:=by omega
  have n6:¬(k=6∨k=7):=by omega
  have n0:¬k=0:=by omega
  simp only [if_neg n4,if_neg n3,if_neg n5,if_neg n6,if_neg n0,if_true]
 ·have hfl:=zGQ over [];rw [List.append_nil] at hfl;simp only [if_true,zQO];rw [hfl]
 ·have hx2:simN x:=⟨hx.1,c2 x rfl⟩;have hp2:=zLX hx2 ((zHr path x).length+1) [] path (by have:=zOH (P:=path) x;omega) (.inr rfl) (fun y hy=>⟨(hp y hy).1,c3 y hy⟩);simp only [show ¬((3:Int)=4) from by omega,if_false,if_true,frI];rw [show (if path=[] then [] else Lib.join (path.map zDT) [44]++[60])++brN x=zHr path x from rfl];unfold zTt;rw [hp2];rfl
 ·have hx2:simN x:=⟨hx.1,c2 x rfl⟩;have hfl:=zGQ over [];rw [List.append_nil] at hfl;simp only [show ¬((5:Int)=4) from by omega,show ¬((5:Int)=3) from by omega,if_false,if_true,frI];unfold zQP;rw [zEJ hx2];simp only;rw [hfl];simp only;rw [←hx2.is]
 ·have n4:¬k=4:=by omega
  have n3:¬k=3:=by omega
  have n5:¬k=5:=by omega
  have hfl:=zGQ over [];rw [List.append_nil] at hfl;simp only [if_neg n4,if_neg n3,if_neg n5,if_pos e,frN];unfold zQQ;rw [zKY hg (c2 _ rfl).1];simp only;rw [hfl]
def zKw (L:List Fg) (s:Sg):Nst:=⟨fa L (s.f-1).toNat,s.l,s.far,s.pc⟩
def zKx (L:List Fg) (x:Sp):Nst×Bool:=(zKw L x.s,x.over)
def nOf (L:List Fg) (o:Og):Nop:=⟨o.kind,fa L (o.f-1).toNat,if o.fr.f=0 then none else some (zKw L o.fr),o.path.map (zKx L),o.over⟩
section
variable {L:List Fg} {re lo:Int}
def GoodL (L:List Fg):Prop:=∀i,i < L.length→zCQ L i=true
theorem GoodL.idx (h:GoodL L) {f:Int} (h1:1≤f) (h2:f≤(L.length:Int)):zAG L (fa L (f-1).toNat)=f.toNat:=by
 have hi:(f-1).toNat < L.length:=by omega
 have:=h _ hi;unfold zCQ at this;simp only [Bool.and_eq_true,decide_eq_true_eq] at this;rw [(zJo hi).1 this.2];omega
theorem GoodL.has (h:GoodL L) {f:Int} (h1:1≤f) (h2:f≤(L.length:Int)):zAm (fa L (f-1).toNat)=true:=by
 have:=h (f-1).toNat (by omega);unfold zCQ at this;simp only [Bool.and_eq_true] at this;exact this.1
theorem zGS {f:Fg} (h:zAG L f≠0):fa L ((zAG L f:Int)-1).toNat=f:=by
 obtain ⟨i,hi⟩:∃i,zAG L f=i+1:=⟨zAG L f-1,by omega⟩
 have h2:=(zIh hi).1;rw [show ((zAG L f:Int)-1).toNat=i by omega];exact zWe h2
theorem zHU (h:GoodL L) {s:Sg} (hs:zAq L.length s=true):zCp (zKw L s)∧sOf L (zKw L s)=s∧zAW L (zKw L s).f=false:=by
 obtain ⟨h1,h2,h3,h4,h5,h6⟩:=zAj.1 hs;have hx:=h.idx h1 h2;refine ⟨⟨h.has h1 h2,h3,h4,h5,h6⟩,?_,?_⟩
 ·unfold sOf zKw;simp only;rw [hx];obtain ⟨f,l,far,pc⟩:=s;simp only at h1 ⊢;rw [show ((f.toNat:Nat):Int)=f by omega]
 ·unfold zAW zKw;simp only;rw [hx];simp;omega
theorem zDa {k:Nat} {o:Og} (h:zAh k o=true) :
  1≤o.f∧o.f≤(k:Int)∧(∀x∈o.path,zAq k x.s=true) ∧
  ((o.kind=1∨o.kind=2∨o.kind=8)∧o.fr=s0∧o.path=[]∧o.over=false
   ∨ o.kind=4∧o.fr=s0∧o.path=[]
   ∨ o.kind=3∧zAq k o.fr=true∧o.over=false
   ∨ o.kind=5∧zAq k o.fr=true∧o.path=[]
   ∨ (o.kind=6∨o.kind=7)∧zAq k o.fr=true∧o.fr=⟨o.fr.f,0,false,0⟩∧o.path=[]):=by
 have hk:=zAS h;unfold zAh at h;simp only [Bool.and_eq_true,decide_eq_true_eq,Bool.or_eq_true] at h;obtain ⟨⟨⟨⟨h1,h2⟩,h3⟩,_⟩,h5⟩:=h;refine ⟨h1,h2,hk.2.2.2.2.1,?_⟩;unfold zBh at h5;by_cases e1:o.kind=1∨o.kind=2∨o.kind=8
 ·rw [if_pos e1] at h5;simp only [Bool.and_eq_true,Bool.not_eq_true'] at h5;exact .inl ⟨e1,zCA.1 h5.2,h3.resolve_left (by omega),h5.1⟩
 rw [if_neg e1] at h5;by_cases e4:o.kind=4
 ·rw [if_pos e4] at h5;exact .inr (.inl ⟨e4,zCA.1 h5,h3.resolve_left (by omega)⟩)
 rw [if_neg e4] at h5;by_cases e3:o.kind=3
 ·rw [if_pos e3] at h5;simp only [Bool.and_eq_true,Bool.not_eq_true'] at h5;exact .inr (.inr (.inl ⟨e3,h5.2,h5.1⟩))
 rw [if_neg e3] at h5;by_cases e5:o.kind=5
 ·rw [if_pos e5] at h5;exact .inr (.inr (.inr (.inl ⟨e5,h5,h3.resolve_left (by omega)⟩)))
 rw [if_neg e5] at h5;by_cases e6:o.kind=6∨o.kind=7
 ·rw [if_pos e6] at h5;simp only [Bool.and_eq_true] at h5;exact .inr (.inr (.inr (.inr ⟨e6,h5.1,zCA.1 h5.2,h3.resolve_left (by omega)⟩)))
 ·rw [if_neg e6] at h5;cases h5
theorem zEK {k:Nat} {o:Og} (h1:1≤o.f) (h2:o.f≤(k:Int)) (hp:∀x∈o.path,zAq k x.s=true)
  (h:(o.kind=1∨o.kind=2∨o.kind=8)∧o.fr=s0∧o.path=[]∧o.over=false
   ∨ o.kind=4∧o.fr=s0∧o.path=[]
   ∨ o.kind=3∧zAq k o.fr=true∧o.over=false
   ∨ o.kind=5∧zAq k o.fr=true∧o.path=[]
   ∨ (o.kind=6∨o.kind=7)∧zAq k o.fr=true∧o.fr=⟨o.fr.f,0,false,0⟩∧o.path=[]):zAh k o=true:=by
 have h3:o.kind=3∨o.path=[]:=by
  rcases h with h | h | h | h | h
  ·exact .inr h.2.2.1
  ·exact .inr h.2.2
  ·exact .inl h.1
  ·exact .inr h.2.2
  ·exact .inr h.2.2.2
 have hr:zBh k o=true:=by
  unfold zBh;rcases h with ⟨e,h,_,h'⟩ | ⟨e,h,_⟩ | ⟨e,h,h'⟩ | ⟨e,h,_⟩ | ⟨e,h,h',_⟩
  ·rw [if_pos e,h,h'];rfl
  ·rw [if_neg (by omega),if_pos e,h];rfl
  ·rw [if_neg (by omega),if_neg (by omega),if_pos e,h,h'];rfl
  ·rw [if_neg (by omega),if_neg (by omega),if_neg (by omega),if_pos e,h]
  ·rw [if_neg (by omega),if_neg (by omega),if_neg (by omega),if_neg (by omega),if_pos e,h,←h',zCA.2 rfl];rfl
 unfold zAh;rw [hr];simp only [Bool.and_eq_true,decide_eq_true_eq,Bool.or_eq_true,List.all_eq_true,and_true];exact ⟨⟨⟨h1,h2⟩,h3⟩,hp⟩
theorem zWo (h:GoodL L) {o:Og} (ho:zAh L.length o=true):okN (nOf L o)∧oOf L (nOf L o)=o∧zAx L (nOf L o)=false:=by
 obtain ⟨h1,h2,hp,hc⟩:=zDa ho;have hx:=h.idx h1 h2;have hpm:(o.path.map (zKx L)).map (pOf L)=o.path:=by
  rw [List.map_map]
  conv=>rhs;rw [←List.map_id o.path]
  refine List.map_congr_left fun x hx=>?_
  simp only [Function.comp,zKx,pOf,id];rw [(zHU h (hp x hx)).2.1]
 have hpl:zAO L (o.path.map (zKx L))=false:=by
  unfold zAO;rw [List.any_eq_false];intro y hy;obtain ⟨x,hx,rfl⟩:=List.mem_map.1 hy;rw [show (zKx L x).1.f=(zKw L x.s).f from rfl,(zHU h (hp x hx)).2.2];simp
 have hpo:∀y∈o.path.map (zKx L),zCp y.1:=fun y hy=>by
  obtain ⟨x,hx,rfl⟩:=List.mem_map.1 hy;exact (zHU h (hp x hx)).1
 have hg:zAW L (fa L (o.f-1).toNat)=false:=by unfold zAW;rw [hx];simp;omega
 obtain ⟨kind,f,fr,path,over⟩:=o;simp only at h1 h2 hp hc hx hpm hpl hpo hg;have hfi:((f.toNat:Nat):Int)=f:=by omega
 unfold okN zGJ nOf oOf zAx;simp only;rw [hx,hfi,hpm,hpl,hg];rcases hc with ⟨e,rfl,rfl,rfl⟩ | ⟨e,rfl,rfl⟩ | ⟨e,hn,rfl⟩ | ⟨e,hn,rfl⟩ | ⟨e,hn,h',rfl⟩
 ·simp only [s0,if_true];exact ⟨⟨h.has h1 h2,.inl ⟨e,(by first | rfl | trivial),(by first | rfl | trivial),(by first | rfl | trivial)⟩⟩,(by first | rfl | trivial),(by first | rfl | trivial)⟩
 ·simp only [s0,if_true];exact ⟨⟨h.has h1 h2,.inr (.inl ⟨e,(by first | rfl | trivial),(by first | rfl | trivial)⟩)⟩,(by first | rfl | trivial),(by first | rfl | trivial)⟩
 ·have n0:¬fr.f=0:=by have:=(zAj.1 hn).1;omega
  obtain ⟨a1,a2,a3⟩:=zHU h hn;simp only [if_neg n0,Option.map_some,Option.getD_some,a2,a3];exact ⟨⟨h.has h1 h2,.inr (.inr (.inl ⟨e,⟨_,rfl,a1⟩,hpo,(by first | rfl | trivial)⟩))⟩,(by first | rfl | trivial),(by first | rfl | trivial)⟩
 ·have n0:¬fr.f=0:=by have:=(zAj.1 hn).1;omega
  obtain ⟨a1,a2,a3⟩:=zHU h hn;simp only [if_neg n0,Option.map_some,Option.getD_some,a2,a3];exact ⟨⟨h.has h1 h2,.inr (.inr (.inr (.inl ⟨e,⟨_,rfl,a1⟩,(by first | rfl | trivial)⟩)))⟩,(by first | rfl | trivial),(by first | rfl | trivial)⟩
 ·have n0:¬fr.f=0:=by have:=(zAj.1 hn).1;omega
  obtain ⟨a1,a2,a3⟩:=zHU h hn;simp only [if_neg n0,Option.map_some,Option.getD_some,a2,a3];refine ⟨⟨h.has h1 h2,.inr (.inr (.inr (.inr ⟨e,⟨(zKw L fr).f,?_,a1.1⟩,(by first | rfl | trivial)⟩)))⟩,(by first | rfl | trivial),(by first | rfl | trivial)⟩;unfold zKw;rw [h']
theorem zUZ {x:Nst} (h:zCp x) (hg:zAW L x.f=false):zAq L.length (sOf L x)=true∧zKw L (sOf L x)=x∧¬(sOf L x).f=0:=by
 have h0:zAG L x.f≠0:=by simpa [zAW] using hg
 have hl:=zDk (f:=x.f) (L:=L);refine ⟨zAj.2 ⟨by simp only [sOf];omega,by simp only [sOf];omega,h.2.1,h.2.2.1,h.2.2.2.1,h.2.2.2.2⟩,?_,by simp only [sOf];omega⟩;unfold zKw sOf;simp only;rw [zGS h0]
theorem zWp {n:Nop} (h:okN n) (hl:zAx L n=false):zAh L.length (oOf L n)=true∧nOf L (oOf L n)=n:=by
 obtain ⟨h1,h2⟩:=h;unfold zAx at hl;simp only [Bool.or_eq_false_iff] at hl;obtain ⟨⟨l1,l2⟩,l3⟩:=hl;have h0:zAG L n.f≠0:=by simpa [zAW] using l1
 have hle:=zDk (f:=n.f) (L:=L);have hpath:∀y∈n.path,zAW L y.1.f=false:=fun y hy=>by
  have:=(List.any_eq_false.1 l2) y hy;simpa using this
 obtain ⟨kind,f,fr,path,over⟩:=n;unfold zGJ at h2;simp only at h1 h2 l1 l3 h0 hle hpath;have hpm:(∀y∈path,zCp y.1)→(path.map (pOf L)).map (zKx L)=path:=fun hp=>by
  rw [List.map_map]
  conv=>rhs;rw [←List.map_id path]
  refine List.map_congr_left fun x hx=>?_
  simp only [Function.comp,zKx,pOf,id];rw [(zUZ (hp x hx) (hpath x hx)).2.1]
 have hpn:(∀y∈path,zCp y.1)→∀x∈path.map (pOf L),zAq L.length x.s=true:=fun hp x hx=>by
  obtain ⟨y,hy,rfl⟩:=List.mem_map.1 hx;exact (zUZ (hp y hy) (hpath y hy)).1
 rcases h2 with ⟨e,rfl,rfl,rfl⟩ | ⟨e,rfl,rfl⟩ | ⟨e,⟨x,rfl,hx⟩,hp,rfl⟩ | ⟨e,⟨x,rfl,hx⟩,rfl⟩ | ⟨e,⟨g,rfl,hx⟩,rfl⟩
 ·refine ⟨zEK (by simp only [oOf];omega) (by simp only [oOf];omega) (by simp [oOf]) (.inl ⟨e,rfl,rfl,rfl⟩),?_⟩;unfold nOf oOf;simp only [zGS h0];rfl
 ·refine ⟨zEK (by simp only [oOf];omega) (by simp only [oOf];omega) (by simp [oOf]) (.inr (.inl ⟨e,rfl,rfl⟩)),?_⟩;unfold nOf oOf;simp only [zGS h0];rfl
 ·obtain ⟨a1,a2,a3⟩:=zUZ hx l3;refine ⟨zEK (by simp only [oOf];omega) (by simp only [oOf];omega) (hpn hp) (.inr (.inr (.inl ⟨e,a1,rfl⟩))),?_⟩;unfold nOf oOf;simp only [zGS h0,Option.map_some,Option.getD_some,if_neg a3,a2,hpm hp]
 ·obtain ⟨a1,a2,a3⟩:=zUZ hx l3;refine ⟨zEK (by simp only [oOf];omega) (by simp only [oOf];omega) (by simp [oOf]) (.inr (.inr (.inr (.inl ⟨e,a1,rfl⟩)))),?_⟩;unfold nOf oOf;simp only [zGS h0,Option.map_some,Option.getD_some,if_neg a3,a2];rfl
 ·have hxo:zCp ⟨g,0,false,0⟩:=⟨hx,by simp,by simp,by simp,by simp⟩;obtain ⟨a1,a2,a3⟩:=zUZ (L:=L) hxo l3;refine ⟨zEK (by simp only [oOf];omega) (by simp only [oOf];omega) (by simp [oOf]) (.inr (.inr (.inr (.inr ⟨e,a1,rfl,rfl⟩)))),?_⟩;unfold nOf oOf;simp only [zGS h0,Option.map_some,Option.getD_some,if_neg a3,a2];rfl
theorem zHV:∀(P:List Sp) (i:Nat),i≤P.length→zBt L P i=Lib.join (((P.take i).map (zKx L)).map zDT) [44]
 | P,0,_=>by simp [zBt,Lib.join_nil]
 | P,i+1,hi=>by
  have hlt:i < P.length:=by omega
  rw [zBt,zHV P i (by omega),List.take_add_one,zBS hlt];simp only [Option.toList_some,List.map_append,List.map_cons,List.map_nil];have hst:zFO L (pa P i)=zDT (zKx L (pa P i)):=by
   unfold zFO zDT zBb brN zKx zKw nmF nfN;rfl
  rw [hst];by_cases h0:i=0
  ·subst h0;simp [Lib.join_nil,Lib.join_one]
  ·rw [if_pos (by omega)];have hne:((P.take i).map (zKx L)).map zDT≠[]:=by
    intro e;have:=congrArg List.length e;simp only [List.length_map,List.length_take,List.length_nil] at this;omega
   generalize ((P.take i).map (zKx L)).map zDT=T at hne ⊢
   cases T with
   | nil=>exact absurd rfl hne
   | cons x T =>
    rw [List.cons_append,Lib.join_cons,Lib.join_cons];simp [Lib.joinTail]
theorem zJR {o:Og} (ho:zAh L.length o=true):zDU (nOf L o)=zBc L o:=by
 obtain ⟨h1,h2,hp,hc⟩:=zDa ho;obtain ⟨kind,f,fr,path,over⟩:=o;simp only at h1 h2 hp hc;unfold zDU zBc zOG zBm;simp only [nOf];rw [show nmF L f=zAk (fa L (f-1).toNat) from rfl];have hsh:¬fr.f=0→frI ⟨kind,fa L (f-1).toNat,if fr.f=0 then none else some (zKw L fr),path.map (zKx L),over⟩=zBb L fr:=fun n0=>by
  rw [if_neg n0];rfl
 have hfn:¬fr.f=0→frN ⟨kind,fa L (f-1).toNat,if fr.f=0 then none else some (zKw L fr),path.map (zKx L),over⟩=nmF L fr.f:=fun n0=>by
  rw [if_neg n0];rfl
 have hn0:(kind=3∨kind=5∨kind=6∨kind=7)→¬fr.f=0:=fun e=>by
  have hn:zAq L.length fr=true:=by
   rcases hc with hc | hc | hc | hc | hc<;>first | (exfalso;omega) | exact hc.2.1
  have:=(zAj.1 hn).1;omega
 congr 1
 by_cases e4:kind=4
 ·rw [if_pos e4,if_pos e4]
 rw [if_neg e4,if_neg e4];by_cases e3:kind=3
 ·rw [if_pos e3,if_pos e3,hsh (hn0 (by omega)),zHV path path.length (Nat.le_refl _),List.take_length];by_cases hP:path=[]
  ·subst hP;simp [Lib.join_nil]
  ·rw [if_neg (by simpa using hP),if_neg hP]
 rw [if_neg e3,if_neg e3];by_cases e5:kind=5
 ·rw [if_pos e5,if_pos e5,hsh (hn0 (by omega))]
 rw [if_neg e5,if_neg e5];by_cases e6:kind=6∨kind=7
 ·rw [if_pos e6,if_pos e6,hfn (hn0 (by omega))]
 rw [if_neg e6,if_neg e6]
theorem zLY {o:Og} (ho:zAh L.length o=true):zCl L o=true↔zUE (nOf L o):=by
 obtain ⟨h1,h2,hp,hc⟩:=zDa ho;have hfr:0≤o.fr.f:=(zCV ho).1;unfold zCl zUE nOf zAU;simp only [Bool.and_eq_true,Bool.or_eq_true,decide_eq_true_eq,List.all_eq_true];constructor
 ·rintro ⟨⟨a,b⟩,c⟩;refine ⟨a,fun x hx=>?_,fun y hy=>?_⟩
  ·split at hx
   ·cases hx
   ·injection hx with hx
    subst hx;have:=b.resolve_left (by omega);exact ⟨this.1.1,this.1.2,this.2⟩
  ·obtain ⟨x,hx,rfl⟩:=List.mem_map.1 hy;have:=c x hx;exact ⟨this.1.1,this.1.2,this.2⟩
 ·rintro ⟨a,b,c⟩;refine ⟨⟨a,?_⟩,fun x hx=>?_⟩
  ·by_cases h0:o.fr.f=0
   ·exact .inl (by omega)
   ·have:=b (zKw L o.fr) (by rw [if_neg h0]);exact .inr ⟨⟨this.1,this.2.1⟩,this.2.2⟩
  ·have:=c (zKx L x) (List.mem_map.2 ⟨x,hx,rfl⟩);exact ⟨⟨this.1,this.2.1⟩,this.2.2⟩
end
theorem zEL {S:List UInt8} (h:¬(S≠[]∧S.length≤9∧S.head?≠some 48∧S.all zKX=true)):zAu S=(0,false):=by unfold zAu;rw [if_neg h]
theorem zQR {S:List UInt8} {pos:Nat} {b:UInt8} (h:S[pos]? = some b):zGM 0 (S.take (pos+1))=10*zGM 0 (S.take pos)+(b.toNat-48):=by
 rw [List.take_add_one,h];exact zGg _ _ _
theorem zVa:∀(S:List UInt8),(∀b∈S,zKX b=true)→zGM 0 S < 10 ^ S.length:=by
 intro S;generalize hn:S.length=n
 induction n generalizing S with
 | zero=>intro _;rw [List.length_eq_zero_iff.1 hn];simp [zGM]
 | succ n ih =>
  intro h;have h0:S≠[]:=fun e=>by rw [e] at hn;simp at hn
  obtain ⟨I,b,rfl⟩:∃I b,S=I++[b]:=⟨S.dropLast,S.getLast h0,(List.dropLast_concat_getLast h0).symm⟩
  have:=ih I (by simpa using hn) (fun x hx=>h x (List.mem_append_left _ hx));have hb:=zGh (h b (by simp));rw [zGg,Nat.pow_succ];omega
theorem zOJ {S:List UInt8} {pos:Nat} (h:pos < S.length) (hs:pos < (bA S).size):∃b,S[pos]? = some b∧(bA S)[pos]'hs=b:=by
 refine ⟨S[pos],List.getElem?_eq_getElem h,?_⟩;simp only [bA,ByteArray.getElem_eq_getElem_data];rfl
theorem zKZ {a b:Int} {p q:Bool} (h:(a,p)=(b,q)):Ending.returned (.tuple #[.int .i64 a,.bool p])=.returned (.tuple #[.int .i64 b,.bool q]):=by
 injection h with h1 h2
 rw [h1,h2]
set_option maxHeartbeats 3200000 in
theorem zGT (S:List UInt8) (w:World) :
  Calls Tryz.prog 129 #[.string (bA S)] w fun e w'=>e=.returned (.tuple #[.int .i64 (zAu S).1,.bool (zAu S).2])∧Below w.heap.size w w':=by
 have n0:=zAF S [];have hs:=zCo S;obtain ⟨v,ok,HC⟩:∃v ok,Hid (zAu S=(v,ok)):=⟨_,_,qH rfl⟩
 rw [show (zAu S).1=v from by rw [HC.out],show (zAu S).2=ok from by rw [HC.out]];obtain ⟨nS,hnS⟩:∃n,S.length=n:=⟨_,rfl⟩
 rw [hnS] at hs;by_cases h0:S=[]
 ·have hr:=qH (show zAu S=(0,false) from zEL fun h=>h.1 h0);rw [show (S==([]:List UInt8))=true from by rw [h0];rfl] at n0;clear h0 hnS;go_enter Tryz.func129,Tryz.ntmps129;go_wp2_with fail
  go_ret2;exact ⟨zKZ (hr.out.symm.trans HC.out),Below.refl _ _⟩
 rw [show (S==([]:List UInt8))=false from by simpa using h0] at n0;by_cases hl:9 < nS
 ·have hr:=qH (show zAu S=(0,false) from zEL fun h=>by omega);have i0:(9:Int) < (nS:Int):=by omega
  clear h0 hnS hl;go_enter Tryz.func129,Tryz.ntmps129;go_wp2_with fail
  go_ret2;exact ⟨zKZ (hr.out.symm.trans HC.out),Below.refl _ _⟩
 have i0:¬(9:Int) < (nS:Int):=by omega
 obtain ⟨x,r,hx⟩:∃x r,S=x :: r:=by
  cases S with
  | nil=>exact absurd rfl h0
  | cons x r=>exact ⟨x,r,rfl⟩
 have s1:=zDq x r;rw [←hx] at s1;by_cases h48:x=48
 ·have hr:=qH (show zAu S=(0,false) from zEL fun h=>h.2.2.1 (by rw [hx,h48];rfl));rw [show ((x.toNat:Nat):Int)=48 from by rw [h48];rfl] at s1;clear h0 hnS hl h48 hx;go_enter Tryz.func129,Tryz.ntmps129;go_wp2_with fail
  go_ret2;exact ⟨zKZ (hr.out.symm.trans HC.out),Below.refl _ _⟩
 have k1:((x.toNat:Int)==48)=false:=by
  simp only [beq_eq_false_iff_ne,ne_eq];intro e;exact h48 (UInt8.toNat.inj (show x.toNat=48 by omega))
 have HS:=qH (show S≠[]∧S.length≤9∧S.head?≠some 48 from ⟨h0,by omega,by rw [hx];simpa using h48⟩);have HN:=qH hnS;have hn9:nS≤9:=by omega
 clear h0 hnS hl h48 hx;go_enter Tryz.func129,Tryz.ntmps129;go_wp2_with fail
 go_loopw [4] (fun v wr=>∃(pos V:Nat),wr=w.iter (bA S) pos∧v=.int .i64 V∧pos≤nS∧Hid (V=zGM 0 (S.take pos))∧Hid (∀b∈S.take pos,zKX b=true)) (fun _ wr=>nS-wr.iterPos w.heap.size)
 case atStart=>exact ⟨0,0,rfl,rfl,by omega,qH rfl,qH (by simp)⟩
 case round =>
  obtain ⟨pos,V,rfl,rfl,hpos,HV,HD⟩:=hrel;by_cases hp:pos < nS
  ·have hps:pos < (bA S).size:=by rw [hs];exact hp
   obtain ⟨b,hb1,hb2⟩:=zOJ (S:=S) (pos:=pos) (by rw [HN.out];exact hp) hps;by_cases ha:b.toNat < 128
   ·have hnx:∀ty,(Instr.next (.pointer (some ⟨w.heap.size,0,none⟩)) true ty).run Tryz.prog (w.iter (bA S) pos)=.ok (.tuple #[.bool true,.int .i64 pos,.int .i32 b.toNat]) (w.iter (bA S) (pos+1)):=fun ty=>by
     rw [run_next_ascii w (bA S) pos ty hps (by rw [hb2];exact ha),hb2]
    by_cases hd:zKX b=true
    ·obtain ⟨d1,d2⟩:=zGh hd;obtain ⟨B,hB⟩:∃B:Nat,b.toNat=B:=⟨_,rfl⟩
     rw [hB] at hnx d1 d2;have j1:¬((B:Int) < 48):=by omega
     have j2:¬((57:Int) < (B:Int)):=by omega
     have hV:V < 1000000000:=by
      have:=zVa _ HD.out;rw [←HV.out] at this;have h3:(S.take pos).length≤9:=by rw [List.length_take];omega
      have:=Nat.pow_le_pow_right (n:=10) (by omega) h3;omega
     have HB:=qH (show zGM 0 (S.take (pos+1))=10*V+(B-48)∧∀y∈S.take (pos+1),zKX y=true by
      rw [zQR hb1,HV.out,hB]
      refine ⟨rfl,fun y hy=>?_⟩
      rw [List.take_add_one,hb1] at hy
      rcases List.mem_append.1 hy with hy | hy
      ·exact HD.out y hy
      ·simp at hy;rw [hy];exact hd)
     clear hd ha hb1 hb2 hB hps HV HD;go_wp2_with fail
     go_roundw
     case rel=>exact ⟨pos+1,10*V+(B-48),rfl,by congr 1;simp;omega,by omega,qH HB.out.1.symm,qH HB.out.2⟩
     case measure=>simp;omega
    ·have hr:=qH (show zAu S=(0,false) from zEL fun h=>hd ((List.all_eq_true.1 h.2.2.2) b (List.mem_of_getElem? hb1)));have hbel:=qH (show Below w.heap.size w (w.iter (bA S) (pos+1)) from (Below.refl _ _).alloc (Nat.le_refl _) _);obtain ⟨B,hB⟩:∃B:Nat,b.toNat=B:=⟨_,rfl⟩
     rw [hB] at hnx;by_cases hlt:(B:Int) < 48
     ·clear hd ha hb1 hb2 hB hps HV HD;go_wp2_with fail
      go_ret2;exact ⟨zKZ (hr.out.symm.trans HC.out),hbel.out⟩
     ·have hgt:(57:Int) < (B:Int):=by
       have:¬(48≤b.toNat∧b.toNat≤57):=fun e=>hd (by simp [zKX,e])
       omega
      clear hd ha hb1 hb2 hB hps HV HD;go_wp2_with fail
      go_ret2;exact ⟨zKZ (hr.out.symm.trans HC.out),hbel.out⟩
   ·obtain ⟨R,q,hnx,hR⟩:∃(R q:Nat),(∀ty,(Instr.next (.pointer (some ⟨w.heap.size,0,none⟩)) true ty).run Tryz.prog (w.iter (bA S) pos)=.ok (.tuple #[.bool true,.int .i64 pos,.int .i32 R]) (w.iter (bA S) q))∧128≤R :=
     ⟨_,_,fun ty=>run_next_any w (bA S) pos ty hps,(decode_high (bA S) pos hps (by rw [hb2];omega)).1⟩
    have hr:=qH (show zAu S=(0,false) from zEL fun h=>by
     have:=zGh ((List.all_eq_true.1 h.2.2.2) b (List.mem_of_getElem? hb1))
     omega)
    have hbel:=qH (show Below w.heap.size w (w.iter (bA S) q) from (Below.refl _ _).alloc (Nat.le_refl _) _);have j1:¬((R:Int) < 48):=by omega
    have j2:(57:Int) < (R:Int):=by omega
    clear ha hb1 hb2 hps HV HD;go_wp2_with fail
    go_ret2;exact ⟨zKZ (hr.out.symm.trans HC.out),hbel.out⟩
  ·have hpe:pos=nS:=by omega
   subst hpe;have hnx:∀ty,(Instr.next (.pointer (some ⟨w.heap.size,0,none⟩)) true ty).run Tryz.prog (w.iter (bA S) pos)=_:=fun ty=>run_next_end w (bA S) pos ty (by rw [hs];omega)
   have hr:=qH (show zAu S=((V:Int),true) by
    have h1:S.take pos=S:=by rw [←HN.out,List.take_length]
    have h2:=HD.out
    have h3:=HV.out
    rw [h1] at h2 h3
    unfold zAu
    rw [if_pos ⟨HS.out.1,HS.out.2.1,HS.out.2.2,List.all_eq_true.2 h2⟩,h3])
   have hbel:=qH (show Below w.heap.size w (w.iter (bA S) pos) from (Below.refl _ _).alloc (Nat.le_refl _) _);clear HV HD HN HS;go_wp2_with fail
   go_ret2;exact ⟨zKZ (hr.out.symm.trans HC.out),hbel.out⟩
end Go.Proofs.YtlmdfmnbcndhoaaGreatDoor
