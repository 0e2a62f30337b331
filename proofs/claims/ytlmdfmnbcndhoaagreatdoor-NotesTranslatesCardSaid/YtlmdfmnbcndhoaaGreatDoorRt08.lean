/-
  Lemmas. Conditions: each one's own.
-/
import Derived.Test.YtlmdfmnbcndhoaaGreatDoorRt07
import Derived.Laws.RangeAny
import Derived.Deep.DeepCutAuto
open Go.RowKit
set_option maxHeartbeats 6400000
open Option renaming none->U,some->Z
open Bool renaming false->E,true->Q
open Nat renaming le_refl->O
open Go.Value renaming bool->G,int->D,string->W
open Go.IntKind renaming i64->J
open Go renaming World->ZY
open Go.RowKit renaming Below->ZZ
open Go.Proofs.Tryz renaming prog->ZX
open Go.RowKit.Below renaming refl->M
namespace Go.Proofs.YtlmdfmnbcndhoaaGreatDoor
def nfN (far:Bool):List UInt8:=if far then [102] else [110]
def brN (x:Nst):List UInt8:=zAj x.f++nfN x.far
def zEu (x:Nst×Bool):List UInt8:=brN x.1++zAt x.2
def zHW (P:List (Nst×Bool)) (x:Nst):List UInt8:=(if P=[] then [] else Lib.join (P.map zEu) [44]++[60])++brN x
def frI (n:Nop):List UInt8:=match n.fr with | some x=>brN x | none=>[]
def zPK (n:Nop):List UInt8 :=
 if n.kind=4 then zAt n.over
 else if n.kind=3 then (if n.path=[] then [] else Lib.join (n.path.map zEu) [44]++[60])++frI n
 else if n.kind=5 then frI n++zAt n.over
 else if n.kind=6∨n.kind=7 then frN n++zAt n.over
 else []
def zEv (n:Nop):List UInt8:=zAj n.f++zCU n.kind++zPK n
def zYi (x:Nst):Prop:=x.f.p=1/\x.l=0/\x.pc=0
def zWk (n:Nop):Prop:=n.f.p=1/\(∀x,n.fr=Z x->zYi x)/\∀y∈n.path,zYi y.1
def simN (x:Nst):Prop:=zAn x.f=Q/\zYi x
theorem simN.ok {x:Nst} (h:simN x):zCh x:=⟨h.1,by rw [h.2.2.1];omega,by rw [h.2.2.1];omega,by rw [h.2.2.2];omega,by rw [h.2.2.2];omega⟩
theorem simN.is {x:Nst} (h:simN x):x=⟨x.f,0,x.far,0⟩:=by
 obtain ⟨f,l,far,pc⟩:=x;have h1:=h.2.2.1;have h2:=h.2.2.2;simp only at h1 h2;subst h1;subst h2;rfl
theorem zJv {f:Fg} (hf:zAn f=Q) (h1:f.p=1):zAj f=[(if f.r then 82 else 76),UInt8.ofNat (48+f.d.toNat)]:=by
 obtain ⟨a1,a2,a3,a4⟩:=zAv.1 hf;unfold zAj;rw [qP h1,zCs a3 (by omega)];rfl
theorem zLO {f:Fg} (hf:zAn f=Q) (h1:f.p=1) (r:List UInt8):zFL (zAj f++r)=Z (f,r):=by
 have h2:=zJv hf h1;have hp:=zCA hf h2;rw [h2];simp only [List.cons_append,List.nil_append,zFL,hp,qP h1]
theorem zMP {S r:List UInt8} {f:Fg} (h:zFL S=Z (f,r)):zAn f=Q/\f.p=1/\S=zAj f++r:=by
 match S,h with
 | [],h=>simp [zFL] at h
 | [x],h=>simp [zFL] at h
 | x :: y :: q,h =>
  simp only [zFL] at h
  cases hp:zGs [x,y] with
  | none=>rw [hp] at h;simp at h
  | some g =>
   rw [hp] at h;simp only at h;split at h
   ·rename_i h1;simp only [Option.some.injEq,Prod.mk.injEq] at h;obtain ⟨rfl,rfl⟩:=h;obtain ⟨k1,k2⟩:=zLI hp;exact ⟨k1,h1,by rw [k2];rfl⟩
   ·cases h
noncomputable def zAX (S:List UInt8):Option (Fg×Bool×List UInt8) :=
 match zFL S with
 | some (f,x :: r)=>if x=110 then Z (f,E,r) else if x=102 then Z (f,Q,r) else U
 | _=>U
theorem zFo {x:Nst} (h:simN x) (r:List UInt8):zAX (brN x++r)=Z (x.f,x.far,r):=by
 unfold zAX brN;rw [List.append_assoc,zLO h.1 h.2.1]
 cases x.far<;>rfl
theorem zGN {S r:List UInt8} {f:Fg} {far:Bool} (h:zAX S=Z (f,far,r)):simN ⟨f,0,far,0⟩/\S=brN ⟨f,0,far,0⟩++r:=by
 unfold zAX at h;split at h
 ·rename_i g x q hc;obtain ⟨k1,k2,k3⟩:=zMP hc;split at h
  ·rename_i hx;simp only [Option.some.injEq,Prod.mk.injEq] at h;obtain ⟨rfl,rfl,rfl⟩:=h;exact ⟨⟨k1,k2,rfl,rfl⟩,by rw [k3,hx];simp [brN,nfN]⟩
  ·split at h
   ·rename_i hx;simp only [Option.some.injEq,Prod.mk.injEq] at h;obtain ⟨rfl,rfl,rfl⟩:=h;exact ⟨⟨k1,k2,rfl,rfl⟩,by rw [k3,hx];simp [brN,nfN]⟩
   ·cases h
 ·cases h
def zCN:List UInt8->Option (Bool×List UInt8)
 | []=>U
 | x :: r=>if x=111 then Z (Q,r) else if x=117 then Z (E,r) else U
theorem zHu (b:Bool) (r:List UInt8):zCN (zAt b++r)=Z (b,r):=by cases b<;>rfl
theorem zHv {S r:List UInt8} {b:Bool} (h:zCN S=Z (b,r)):S=zAt b++r:=by
 match S,h with
 | x :: S,h =>
  rw [zCN] at h;by_cases h1:x=111
  ·rw [qP h1] at h;simp only [Option.some.injEq,Prod.mk.injEq] at h;obtain ⟨rfl,rfl⟩:=h;rw [h1];rfl
  ·rw [qN h1] at h;by_cases h2:x=117
   ·rw [qP h2] at h;simp only [Option.some.injEq,Prod.mk.injEq] at h;obtain ⟨rfl,rfl⟩:=h;rw [h2];rfl
   ·rw [qN h2] at h;cases h
noncomputable def zFV:Nat->List (Nst×Bool)->List UInt8->Option (List (Nst×Bool)×Nst)
 | 0,_,_=>U
 | n+1,P,s =>
  match zAX s with
  | none=>U
  | some (f,far,s1) =>
   if s1=[]/\P=[] then Z ([],⟨f,0,far,0⟩)
   else match zCN s1 with
    | none=>U
    | some (_,[])=>U
    | some (o,c :: s2) =>
     if c=44 then zFV n (P++[(⟨f,0,far,0⟩,o)]) s2
     else if c=60 then match zAX s2 with
      | some (g,dc,[])=>Z (P++[(⟨f,0,far,0⟩,o)],⟨g,0,dc,0⟩)
      | _=>U
     else U
theorem zJw (x y:Nst×Bool) (R:List (Nst×Bool)):Lib.join ((x :: y :: R).map zEu) [44]=zEu x++[44]++Lib.join ((y :: R).map zEu) [44]:=by
 simp only [List.map_cons];exact zGL _ _ _ _
theorem zMQ:∀(n:Nat) {P ZP:List (Nst×Bool)} {x:Nst} {s:List UInt8},zFV n P s=Z (ZP,x) ->
  ∃R,ZP=P++R/\(R≠[]∨P=[])/\(∀y∈R,simN y.1)/\simN x/\s=zHW R x
 | 0,P,ZP,x,s,h=>by simp [zFV] at h
 | n+1,P,ZP,x,s,h=>by
  rw [zFV] at h;split at h
  ·cases h
  ·rename_i f far s1 hs;obtain ⟨a1,a2⟩:=zGN hs;split at h
   ·rename_i hc;obtain ⟨rfl,rfl⟩:=hc;simp only [Option.some.injEq,Prod.mk.injEq] at h;obtain ⟨rfl,rfl⟩:=h;exact ⟨[],rfl,.inr rfl,by simp,a1,by rw [a2];simp [zHW]⟩
   ·split at h
    ·cases h
    ·cases h
    ·rename_i o c s2 hf;have b:=zHv hf;split at h
     ·rename_i h44;obtain ⟨R,r1,r2,r3,r4,r5⟩:=zMQ n h;have hR:R≠[]:=by
       rcases r2 with r2 | r2
       ·exact r2
       ·simp at r2
      obtain ⟨y,R,rfl⟩:∃y R',R=y :: R':=by
       cases R with
       | nil=>exact absurd rfl hR
       | cons y R=>exact ⟨y,R,rfl⟩
      refine ⟨(⟨f,0,far,0⟩,o) :: y :: R,by rw [r1];simp,.inl (by simp),fun z hz=>?_,r4,?_⟩
      ·rcases List.mem_cons.1 hz with rfl | hz
       ·exact a1
       ·exact r3 z hz
      ·rw [a2,b,h44,r5];unfold zHW;rw [qN (by simp),qN (by simp),zJw];simp [zEu]
     ·split at h
      ·rename_i h60;split at h
       ·rename_i g dc nz;obtain ⟨c1,c2⟩:=zGN nz;simp only [Option.some.injEq,Prod.mk.injEq] at h;obtain ⟨rfl,rfl⟩:=h;refine ⟨[(⟨f,0,far,0⟩,o)],rfl,.inl (by simp),fun z hz=>?_,c1,?_⟩
        ·simp only [List.mem_singleton] at hz;subst hz;exact a1
        ·rw [a2,b,h60,c2];unfold zHW;rw [qN (by simp)];simp only [List.map_cons,List.map_nil,Lib.join_one];simp [zEu]
       ·cases h
      ·cases h
theorem zMR {x:Nst} (hx:simN x):∀(n:Nat) (P R:List (Nst×Bool)),R.length < n->(R≠[]∨P=[])->(∀y∈R,simN y.1)->zFV n P (zHW R x)=Z (P++R,x)
 | 0,P,R,h,_,_=>absurd h (by omega)
 | n+1,P,[],_,h2,_=>by
  have hP:P=[]:=by
   rcases h2 with h | h
   ·exact absurd rfl h
   ·exact h
  subst hP;have hs:=zFo hx [];rw [List.append_nil] at hs;rw [zFV,show zHW [] x=brN x from by simp [zHW],hs];simp only [and_self,if_true];rw [<-hx.is];rfl
 | n+1,P,[y],_,_,h3=>by
  have hy:=h3 y (List.mem_cons_self ..);have e:zHW [y] x=brN y.1++(zAt y.2++60 :: brN x):=by
   unfold zHW;rw [qN (by simp)];simp only [List.map_cons,List.map_nil,Lib.join_one];simp [zEu]
  have hs:=zFo hx [];rw [List.append_nil] at hs;rw [zFV,e,zFo hy];simp only;rw [qN (by cases y.2<;>simp [zAt]),zHu];simp only [show ((60:UInt8)=44)=False from by simp,if_false,if_true,hs];rw [<-hx.is,<-hy.is]
 | n+1,P,y :: z :: R,h1,_,h3=>by
  have hy:=h3 y (List.mem_cons_self ..);have e:zHW (y :: z :: R) x=brN y.1++(zAt y.2++44 :: zHW (z :: R) x):=by
   unfold zHW;rw [qN (by simp),qN (by simp),zJw];simp [zEu]
  rw [zFV,e,zFo hy];simp only;rw [qN (by cases y.2<;>simp [zAt]),zHu];simp only [if_true];rw [<-hy.is,zMR hx n (P++[(y.1,y.2)]) (z :: R) (by simp at h1 ⊢;omega) (.inl (by simp)) (fun w hw=>h3 w (List.mem_cons_of_mem _ hw))];simp
def zAK (b:UInt8):Int:=if b=45 then 1 else if b=94 then 2 else if b=60 then 3 else if b=126 then 4 else if b=61 then 5 else if b=42 then 6 else if b=37 then 7 else if b=33 then 8 else 0
noncomputable def zRY (f:Fg) (s:List UInt8):Option Nop:=match zCN s with
 | some (o,[])=>Z ⟨4,f,U,[],o⟩
 | _=>U
noncomputable def zUU (f:Fg) (s:List UInt8):Option Nop:=match zFV (s.length+1) [] s with
 | some (P,x)=>Z ⟨3,f,Z x,P,E⟩
 | none=>U
noncomputable def zRZ (f:Fg) (s:List UInt8):Option Nop:=match zAX s with
 | some (g,far,s1)=>match zCN s1 with
  | some (o,[])=>Z ⟨5,f,Z ⟨g,0,far,0⟩,[],o⟩
  | _=>U
 | none=>U
noncomputable def zSa (k:Int) (f:Fg) (s:List UInt8):Option Nop:=match zFL s with
 | some (g,s1)=>match zCN s1 with
  | some (o,[])=>Z ⟨k,f,Z ⟨g,0,E,0⟩,[],o⟩
  | _=>U
 | none=>U
noncomputable def zAD (S:List UInt8):Option Nop :=
 match zFL S with
 | some (f,b :: s) =>
  if zAK b=4 then zRY f s
  else if zAK b=3 then zUU f s
  else if zAK b=5 then zRZ f s
  else if zAK b=6∨zAK b=7 then zSa (zAK b) f s
  else if zAK b=0 then U
  else if s=[] then Z ⟨zAK b,f,U,[],E⟩ else U
 | _=>U
theorem zDP {b:UInt8} (h:zAK b≠0):1<=zAK b/\zAK b<=8/\zCU (zAK b)=[b]:=by
 unfold zAK at h ⊢
 repeat (split;· rename_i e;subst e;exact ⟨by omega,by omega,rfl⟩)
 exact absurd (by repeat (rw [qN (by assumption)])) h
theorem zUV {k:Int} (h1:1<=k) (h8:k<=8):∃b,zCU k=[b]/\zAK b=k:=by
 have hk:k=1∨k=2∨k=3∨k=4∨k=5∨k=6∨k=7∨k=8:=by omega
 rcases hk with rfl | rfl | rfl | rfl | rfl | rfl | rfl | rfl<;>exact ⟨_,rfl,rfl⟩
theorem zCu {S:List UInt8} {n:Nop} (h:zAD S=Z n):okN n/\zWk n/\S=zEv n:=by
 unfold zAD at h;split at h
 ·rename_i f b s hc;obtain ⟨k1,k2,k3⟩:=zMP hc;by_cases e4:zAK b=4
  ·rw [qP e4] at h;have hb:=(zDP (b:=b) (by omega)).2.2;unfold zRY at h;split at h
   ·rename_i o ho;simp only [Option.some.injEq] at h;subst h;refine ⟨⟨k1,.inr (.inl ⟨rfl,rfl,rfl⟩)⟩,⟨k2,by simp,by simp⟩,?_⟩;rw [k3,zHv ho,zEv,zPK];simp only [if_true];rw [e4] at hb;rw [hb];simp
   ·cases h
  rw [qN e4] at h;by_cases e3:zAK b=3
  ·rw [qP e3] at h;have hb:=(zDP (b:=b) (by omega)).2.2;unfold zUU at h;split at h
   ·rename_i P x hp;simp only [Option.some.injEq] at h;subst h;obtain ⟨R,r1,r2,r3,r4,r5⟩:=zMQ _ hp;rw [List.nil_append] at r1;subst r1;refine ⟨⟨k1,.inr (.inr (.inl ⟨rfl,⟨x,rfl,r4.ok⟩,fun y hy=>(r3 y hy).ok,rfl⟩))⟩,⟨k2,fun y hy=>by injection hy with hy;subst hy;exact r4.2,fun y hy=>(r3 y hy).2⟩,?_⟩;rw [k3,r5,zEv,zPK];simp only [if_true,show ¬((3:Int)=4) from by omega,if_false,frI];rw [e3] at hb;rw [hb];simp [zHW]
   ·cases h
  rw [qN e3] at h;by_cases e5:zAK b=5
  ·rw [qP e5] at h;have hb:=(zDP (b:=b) (by omega)).2.2;unfold zRZ at h;split at h
   ·rename_i g far s1 hs;obtain ⟨c1,c2⟩:=zGN hs;split at h
    ·rename_i o ho;simp only [Option.some.injEq] at h;subst h;refine ⟨⟨k1,.inr (.inr (.inr (.inl ⟨rfl,⟨_,rfl,c1.ok⟩,rfl⟩)))⟩,⟨k2,fun y hy=>by injection hy with hy;subst hy;exact c1.2,by simp⟩,?_⟩;rw [k3,c2,zHv ho,zEv,zPK];simp only [if_true,show ¬((5:Int)=4) from by omega,show ¬((5:Int)=3) from by omega,if_false,frI];rw [e5] at hb;rw [hb];simp
    ·cases h
   ·cases h
  rw [qN e5] at h;by_cases e6:zAK b=6∨zAK b=7
  ·rw [qP e6] at h;have hb:=(zDP (b:=b) (by omega)).2.2;unfold zSa at h;split at h
   ·rename_i g s1 hs;obtain ⟨c0,c1,c2⟩:=zMP hs;split at h
    ·rename_i o ho;simp only [Option.some.injEq] at h;subst h;refine ⟨⟨k1,.inr (.inr (.inr (.inr ⟨e6,⟨_,rfl,c0⟩,rfl⟩)))⟩,⟨k2,fun y hy=>by injection hy with hy;subst hy;exact ⟨c1,rfl,rfl⟩,by simp⟩,?_⟩;rw [k3,c2,zHv ho,zEv,zPK];simp only [qN e4,qN e3,qN e5,qP e6,frN];rw [hb];simp
    ·cases h
   ·cases h
  rw [qN e6] at h;by_cases e0:zAK b=0
  ·rw [qP e0] at h;cases h
  rw [qN e0] at h;obtain ⟨u1,u2,hb⟩:=zDP (b:=b) e0;split at h
  ·rename_i hs;simp only [Option.some.injEq] at h;subst h;refine ⟨⟨k1,.inl ⟨by simp only;omega,rfl,rfl,rfl⟩⟩,⟨k2,by simp,by simp⟩,?_⟩;rw [k3,hs,zEv,zPK];simp only [qN e4,qN e3,qN e5,qN e6];rw [hb];simp
  ·cases h
 ·cases h
theorem zPL {P:List (Nst×Bool)} (x:Nst):P.length<=(zHW P x).length:=by
 induction P with
 | nil=>simp
 | cons y P ih =>
  cases P with
  | nil=>unfold zHW;rw [qN (by simp)];simp;omega
  | cons z P =>
   unfold zHW at ih ⊢;rw [qN (by simp)] at ih ⊢;rw [zJw];simp only [List.length_append,List.length_cons,List.length_nil] at ih ⊢;omega
theorem zPM {n:Nop} (h:okN n) (hc:zWk n):zAD (zEv n)=Z n:=by
 obtain ⟨hf,hk⟩:=h;obtain ⟨c1,c2,c3⟩:=hc;obtain ⟨k,f,fr,path,over⟩:=n;unfold zGt at hk;simp only at hf hk c1 c2 c3;have gW:1<=k/\k<=8:=by
  rcases hk with ⟨h,_⟩ | ⟨h,_⟩ | ⟨h,_⟩ | ⟨h,_⟩ | ⟨h,_⟩<;>omega
 obtain ⟨b,ay,ai⟩:=zUV gW.1 gW.2;unfold zAD zEv;simp only;rw [ay,List.append_assoc,List.singleton_append,zLO hf c1];simp only;rw [ai];unfold zPK;simp only;rcases hk with ⟨e,rfl,rfl,rfl⟩ | ⟨rfl,rfl,rfl⟩ | ⟨rfl,⟨x,rfl,hx⟩,hp,rfl⟩ | ⟨rfl,⟨x,rfl,hx⟩,rfl⟩ | ⟨e,⟨g,rfl,hg⟩,rfl⟩
 ·have n4:¬k=4:=by omega
  have n3:¬k=3:=by omega
  have n5:¬k=5:=by omega
  have n6:¬(k=6∨k=7):=by omega
  have n0:¬k=0:=by omega
  simp only [qN n4,qN n3,qN n5,qN n6,qN n0,if_true]
 ·have hfl:=zHu over [];rw [List.append_nil] at hfl;simp only [if_true,zRY];rw [hfl]
 ·have oX:simN x:=⟨hx.1,c2 x rfl⟩;have hp2:=zMR oX ((zHW path x).length+1) [] path (by have:=zPL (P:=path) x;omega) (.inr rfl) (fun y hy=>⟨(hp y hy).1,c3 y hy⟩);simp only [show ¬((3:Int)=4) from by omega,if_false,if_true,frI];rw [show (if path=[] then [] else Lib.join (path.map zEu) [44]++[60])++brN x=zHW path x from rfl];unfold zUU;rw [hp2];rfl
 ·have oX:simN x:=⟨hx.1,c2 x rfl⟩;have hfl:=zHu over [];rw [List.append_nil] at hfl;simp only [show ¬((5:Int)=4) from by omega,show ¬((5:Int)=3) from by omega,if_false,if_true,frI];unfold zRZ;rw [zFo oX];simp only;rw [hfl];simp only;rw [<-oX.is]
 ·have n4:¬k=4:=by omega
  have n3:¬k=3:=by omega
  have n5:¬k=5:=by omega
  have hfl:=zHu over [];rw [List.append_nil] at hfl;simp only [qN n4,qN n3,qN n5,qP e,frN];unfold zSa;rw [zLO hg (c2 _ rfl).1];simp only;rw [hfl]
def zHX (L:List Fg) (s:Sg):Nst:=⟨fa L (s.f-1).toNat,s.l,s.far,s.pc⟩
def zIC (L:List Fg) (x:Sp):Nst×Bool:=(zHX L x.s,x.over)
def nOf (L:List Fg) (o:Og):Nop:=⟨o.kind,fa L (o.f-1).toNat,if o.fr.f=0 then U else Z (zHX L o.fr),o.path.map (zIC L),o.over⟩
section
variable {L:List Fg} {re lo:Int}
def GoodL (L:List Fg):Prop:=∀i,i < L.length->zDj L i=Q
theorem GoodL.idx (h:GoodL L) {f:Int} (h1:1<=f) (h2:f<=(L.length:Int)):zAN L (fa L (f-1).toNat)=f.toNat:=by
 have hi:(f-1).toNat < L.length:=by omega
 have:=h _ hi;unfold zDj at this;simp only [Bool.and_eq_true,decide_eq_true_eq] at this;rw [(zKd hi).1 this.2];omega
theorem GoodL.has (h:GoodL L) {f:Int} (h1:1<=f) (h2:f<=(L.length:Int)):zAn (fa L (f-1).toNat)=Q:=by
 have:=h (f-1).toNat (by omega);unfold zDj at this;simp only [Bool.and_eq_true] at this;exact this.1
theorem zHw {f:Fg} (h:zAN L f≠0):fa L ((zAN L f:Int)-1).toNat=f:=by
 obtain ⟨i,hi⟩:∃i,zAN L f=i+1:=⟨zAN L f-1,by omega⟩
 have h2:=(zIR hi).1;rw [show ((zAN L f:Int)-1).toNat=i by omega];exact zYa h2
theorem zID (h:GoodL L) {s:Sg} (hs:zAo L.length s=Q):zCh (zHX L s)/\sOf L (zHX L s)=s/\zBc L (zHX L s).f=E:=by
 obtain ⟨h1,h2,h3,h4,h5,h6⟩:=zAh.1 hs;have hx:=h.idx h1 h2;refine ⟨⟨h.has h1 h2,h3,h4,h5,h6⟩,?_,?_⟩
 ·unfold sOf zHX;simp only;rw [hx];obtain ⟨f,l,far,pc⟩:=s;simp only at h1 ⊢;rw [show ((f.toNat:Nat):Int)=f by omega]
 ·unfold zBc zHX;simp only;rw [hx];simp;omega
theorem zCD {k:Nat} {o:Og} (h:zAf k o=Q) :
  1<=o.f/\o.f<=(k:Int)/\(∀x∈o.path,zAo k x.s=Q) /\
  ((o.kind=1∨o.kind=2∨o.kind=8)/\o.fr=s0/\o.path=[]/\o.over=E
   ∨ o.kind=4/\o.fr=s0/\o.path=[]
   ∨ o.kind=3/\zAo k o.fr=Q/\o.over=E
   ∨ o.kind=5/\zAo k o.fr=Q/\o.path=[]
   ∨ (o.kind=6∨o.kind=7)/\zAo k o.fr=Q/\o.fr=⟨o.fr.f,0,E,0⟩/\o.path=[]):=by
 have hk:=zAS h;unfold zAf at h;simp only [Bool.and_eq_true,decide_eq_true_eq,Bool.or_eq_true] at h;obtain ⟨⟨⟨⟨h1,h2⟩,h3⟩,_⟩,h5⟩:=h;refine ⟨h1,h2,hk.2.2.2.2.1,?_⟩;unfold zBn at h5;by_cases e1:o.kind=1∨o.kind=2∨o.kind=8
 ·rw [qP e1] at h5;simp only [Bool.and_eq_true,Bool.not_eq_true'] at h5;exact .inl ⟨e1,zED.1 h5.2,h3.resolve_left (by omega),h5.1⟩
 rw [qN e1] at h5;by_cases e4:o.kind=4
 ·rw [qP e4] at h5;exact .inr (.inl ⟨e4,zED.1 h5,h3.resolve_left (by omega)⟩)
 rw [qN e4] at h5;by_cases e3:o.kind=3
 ·rw [qP e3] at h5;simp only [Bool.and_eq_true,Bool.not_eq_true'] at h5;exact .inr (.inr (.inl ⟨e3,h5.2,h5.1⟩))
 rw [qN e3] at h5;by_cases e5:o.kind=5
 ·rw [qP e5] at h5;exact .inr (.inr (.inr (.inl ⟨e5,h5,h3.resolve_left (by omega)⟩)))
 rw [qN e5] at h5;by_cases e6:o.kind=6∨o.kind=7
 ·rw [qP e6] at h5;simp only [Bool.and_eq_true] at h5;exact .inr (.inr (.inr (.inr ⟨e6,h5.1,zED.1 h5.2,h3.resolve_left (by omega)⟩)))
 ·rw [qN e6] at h5;cases h5
theorem zFp {k:Nat} {o:Og} (h1:1<=o.f) (h2:o.f<=(k:Int)) (hp:∀x∈o.path,zAo k x.s=Q)
  (h:(o.kind=1∨o.kind=2∨o.kind=8)/\o.fr=s0/\o.path=[]/\o.over=E
   ∨ o.kind=4/\o.fr=s0/\o.path=[]
   ∨ o.kind=3/\zAo k o.fr=Q/\o.over=E
   ∨ o.kind=5/\zAo k o.fr=Q/\o.path=[]
   ∨ (o.kind=6∨o.kind=7)/\zAo k o.fr=Q/\o.fr=⟨o.fr.f,0,E,0⟩/\o.path=[]):zAf k o=Q:=by
 have h3:o.kind=3∨o.path=[]:=by
  rcases h with h | h | h | h | h
  ·exact .inr h.2.2.1
  ·exact .inr h.2.2
  ·exact .inl h.1
  ·exact .inr h.2.2
  ·exact .inr h.2.2.2
 have hr:zBn k o=Q:=by
  unfold zBn;rcases h with ⟨e,h,_,h'⟩ | ⟨e,h,_⟩ | ⟨e,h,h'⟩ | ⟨e,h,_⟩ | ⟨e,h,h',_⟩
  ·rw [qP e,h,h'];rfl
  ·rw [qN (by omega),qP e,h];rfl
  ·rw [qN (by omega),qN (by omega),qP e,h,h'];rfl
  ·rw [qN (by omega),qN (by omega),qN (by omega),qP e,h]
  ·rw [qN (by omega),qN (by omega),qN (by omega),qN (by omega),qP e,h,<-h',zED.2 rfl];rfl
 unfold zAf;rw [hr];simp only [Bool.and_eq_true,decide_eq_true_eq,Bool.or_eq_true,List.all_eq_true,and_true];exact ⟨⟨⟨h1,h2⟩,h3⟩,hp⟩
theorem zWE (h:GoodL L) {o:Og} (ho:zAf L.length o=Q):okN (nOf L o)/\oOf L (nOf L o)=o/\zAy L (nOf L o)=E:=by
 obtain ⟨h1,h2,hp,hc⟩:=zCD ho;have hx:=h.idx h1 h2;have hpm:(o.path.map (zIC L)).map (pOf L)=o.path:=by
  rw [List.map_map]
  conv=>rhs;rw [<-List.map_id o.path]
  refine List.map_congr_left fun x hx=>?_
  simp only [Function.comp,zIC,pOf,id];rw [(zID h (hp x hx)).2.1]
 have hpl:zAV L (o.path.map (zIC L))=E:=by
  unfold zAV;rw [List.any_eq_false];intro y hy;obtain ⟨x,hx,rfl⟩:=List.mem_map.1 hy;rw [show (zIC L x).1.f=(zHX L x.s).f from rfl,(zID h (hp x hx)).2.2];simp
 have hpo:∀y∈o.path.map (zIC L),zCh y.1:=fun y hy=>by
  obtain ⟨x,hx,rfl⟩:=List.mem_map.1 hy;exact (zID h (hp x hx)).1
 have hg:zBc L (fa L (o.f-1).toNat)=E:=by unfold zBc;rw [hx];simp;omega
 obtain ⟨kind,f,fr,path,over⟩:=o;simp only at h1 h2 hp hc hx hpm hpl hpo hg;have hfi:((f.toNat:Nat):Int)=f:=by omega
 unfold okN zGt nOf oOf zAy;simp only;rw [hx,hfi,hpm,hpl,hg];rcases hc with ⟨e,rfl,rfl,rfl⟩ | ⟨e,rfl,rfl⟩ | ⟨e,hn,rfl⟩ | ⟨e,hn,rfl⟩ | ⟨e,hn,h',rfl⟩
 ·simp only [s0,if_true];exact ⟨⟨h.has h1 h2,.inl ⟨e,(by first | rfl | trivial),(by first | rfl | trivial),(by first | rfl | trivial)⟩⟩,(by first | rfl | trivial),(by first | rfl | trivial)⟩
 ·simp only [s0,if_true];exact ⟨⟨h.has h1 h2,.inr (.inl ⟨e,(by first | rfl | trivial),(by first | rfl | trivial)⟩)⟩,(by first | rfl | trivial),(by first | rfl | trivial)⟩
 ·have n0:¬fr.f=0:=by have:=(zAh.1 hn).1;omega
  obtain ⟨a1,a2,a3⟩:=zID h hn;simp only [qN n0,Option.map_some,Option.getD_some,a2,a3];exact ⟨⟨h.has h1 h2,.inr (.inr (.inl ⟨e,⟨_,rfl,a1⟩,hpo,(by first | rfl | trivial)⟩))⟩,(by first | rfl | trivial),(by first | rfl | trivial)⟩
 ·have n0:¬fr.f=0:=by have:=(zAh.1 hn).1;omega
  obtain ⟨a1,a2,a3⟩:=zID h hn;simp only [qN n0,Option.map_some,Option.getD_some,a2,a3];exact ⟨⟨h.has h1 h2,.inr (.inr (.inr (.inl ⟨e,⟨_,rfl,a1⟩,(by first | rfl | trivial)⟩)))⟩,(by first | rfl | trivial),(by first | rfl | trivial)⟩
 ·have n0:¬fr.f=0:=by have:=(zAh.1 hn).1;omega
  obtain ⟨a1,a2,a3⟩:=zID h hn;simp only [qN n0,Option.map_some,Option.getD_some,a2,a3];refine ⟨⟨h.has h1 h2,.inr (.inr (.inr (.inr ⟨e,⟨(zHX L fr).f,?_,a1.1⟩,(by first | rfl | trivial)⟩)))⟩,(by first | rfl | trivial),(by first | rfl | trivial)⟩;unfold zHX;rw [h']
theorem zWF {x:Nst} (h:zCh x) (hg:zBc L x.f=E):zAo L.length (sOf L x)=Q/\zHX L (sOf L x)=x/\¬(sOf L x).f=0:=by
 have h0:zAN L x.f≠0:=by simpa [zBc] using hg
 have hl:=zDF (f:=x.f) (L:=L);refine ⟨zAh.2 ⟨by simp only [sOf];omega,by simp only [sOf];omega,h.2.1,h.2.2.1,h.2.2.2.1,h.2.2.2.2⟩,?_,by simp only [sOf];omega⟩;unfold zHX sOf;simp only;rw [zHw h0]
theorem zXT {n:Nop} (h:okN n) (hl:zAy L n=E):zAf L.length (oOf L n)=Q/\nOf L (oOf L n)=n:=by
 obtain ⟨h1,h2⟩:=h;unfold zAy at hl;simp only [Bool.or_eq_false_iff] at hl;obtain ⟨⟨l1,l2⟩,l3⟩:=hl;have h0:zAN L n.f≠0:=by simpa [zBc] using l1
 have hle:=zDF (f:=n.f) (L:=L);have hpath:∀y∈n.path,zBc L y.1.f=E:=fun y hy=>by
  have:=(List.any_eq_false.1 l2) y hy;simpa using this
 obtain ⟨kind,f,fr,path,over⟩:=n;unfold zGt at h2;simp only at h1 h2 l1 l3 h0 hle hpath;have hpm:(∀y∈path,zCh y.1)->(path.map (pOf L)).map (zIC L)=path:=fun hp=>by
  rw [List.map_map]
  conv=>rhs;rw [<-List.map_id path]
  refine List.map_congr_left fun x hx=>?_
  simp only [Function.comp,zIC,pOf,id];rw [(zWF (hp x hx) (hpath x hx)).2.1]
 have hpn:(∀y∈path,zCh y.1)->∀x∈path.map (pOf L),zAo L.length x.s=Q:=fun hp x hx=>by
  obtain ⟨y,hy,rfl⟩:=List.mem_map.1 hx;exact (zWF (hp y hy) (hpath y hy)).1
 rcases h2 with ⟨e,rfl,rfl,rfl⟩ | ⟨e,rfl,rfl⟩ | ⟨e,⟨x,rfl,hx⟩,hp,rfl⟩ | ⟨e,⟨x,rfl,hx⟩,rfl⟩ | ⟨e,⟨g,rfl,hx⟩,rfl⟩
 ·refine ⟨zFp (by simp only [oOf];omega) (by simp only [oOf];omega) (by simp [oOf]) (.inl ⟨e,rfl,rfl,rfl⟩),?_⟩;unfold nOf oOf;simp only [zHw h0];rfl
 ·refine ⟨zFp (by simp only [oOf];omega) (by simp only [oOf];omega) (by simp [oOf]) (.inr (.inl ⟨e,rfl,rfl⟩)),?_⟩;unfold nOf oOf;simp only [zHw h0];rfl
 ·obtain ⟨a1,a2,a3⟩:=zWF hx l3;refine ⟨zFp (by simp only [oOf];omega) (by simp only [oOf];omega) (hpn hp) (.inr (.inr (.inl ⟨e,a1,rfl⟩))),?_⟩;unfold nOf oOf;simp only [zHw h0,Option.map_some,Option.getD_some,qN a3,a2,hpm hp]
 ·obtain ⟨a1,a2,a3⟩:=zWF hx l3;refine ⟨zFp (by simp only [oOf];omega) (by simp only [oOf];omega) (by simp [oOf]) (.inr (.inr (.inr (.inl ⟨e,a1,rfl⟩)))),?_⟩;unfold nOf oOf;simp only [zHw h0,Option.map_some,Option.getD_some,qN a3,a2];rfl
 ·have hxo:zCh ⟨g,0,E,0⟩:=⟨hx,by simp,by simp,by simp,by simp⟩;obtain ⟨a1,a2,a3⟩:=zWF (L:=L) hxo l3;refine ⟨zFp (by simp only [oOf];omega) (by simp only [oOf];omega) (by simp [oOf]) (.inr (.inr (.inr (.inr ⟨e,a1,rfl,rfl⟩)))),?_⟩;unfold nOf oOf;simp only [zHw h0,Option.map_some,Option.getD_some,qN a3,a2];rfl
theorem zJx (s:Sg):jt (plT (zHX L s))=32 :: zAM L s:=by
 unfold plT zAM zFj zHX nmF;by_cases h1:s.l=0<;>by_cases h2:s.pc=0<;>simp [h1,h2,jt]
theorem zUW (P:List Sp):jt ((P.map (zIC L)).flatMap stW)=zDH L P:=by
 unfold zDH
 induction P with
 | nil=>rfl
 | cons x P ih =>
  rw [List.map_cons,List.flatMap_cons,zPA,ih,List.flatMap_cons]
  congr 1
  unfold stW;rw [zFT,zTH (zUN _)];rw [show (zIC L x).1=zHX L x.s from rfl,zJx,show (zIC L x).2=x.over from rfl];unfold zLy;simp
theorem zKG {o:Og} (ho:zAf L.length o=Q):zBY (nOf L o)=zBg L o:=by
 obtain ⟨h1,h2,hp,hc⟩:=zCD ho;obtain ⟨kind,f,fr,path,over⟩:=o;simp only at h1 h2 hp hc;unfold zBY zRT zBg;rw [zUM,zFT];simp only [nOf];rw [show nmF L f=zAj (fa L (f-1).toNat) from rfl];have ht:jt (tlW ⟨kind,fa L (f-1).toNat,if fr.f=0 then U else Z (zHX L fr),path.map (zIC L),over⟩)=zCL L ⟨kind,f,fr,path,over⟩:=by
  unfold tlW zCL;simp only;by_cases e4:kind=4
  ·rw [qP e4,qP e4];simp [jt]
  rw [qN e4,qN e4];by_cases e3:kind=3
  ·have hn:zAo L.length fr=Q:=by
    rcases hc with hc | hc | hc | hc | hc<;>first | (exfalso;omega) | exact hc.2.1
   have n0:¬fr.f=0:=by have:=(zAh.1 hn).1;omega
   rw [qP e3,qP e3,qN n0,zPA,zUW,zFT];simp only [frT];rw [zJx];simp
  rw [qN e3,qN e3];by_cases e5:kind=5
  ·have hn:zAo L.length fr=Q:=by
    rcases hc with hc | hc | hc | hc | hc<;>first | (exfalso;omega) | exact hc.2.1
   have n0:¬fr.f=0:=by have:=(zAh.1 hn).1;omega
   rw [qP e5,qP e5,qN n0,zFT,zPA];simp only [frT];rw [zJx];simp [jt]
  rw [qN e5,qN e5];by_cases e6:kind=6
  ·have hn:zAo L.length fr=Q:=by
    rcases hc with hc | hc | hc | hc | hc<;>first | (exfalso;omega) | exact hc.2.1
   have n0:¬fr.f=0:=by have:=(zAh.1 hn).1;omega
   rw [qP e6,qP e6,qN n0];simp [frN,jt,zHX,nmF]
  rw [qN e6,qN e6];by_cases e7:kind=7
  ·have hn:zAo L.length fr=Q:=by
    rcases hc with hc | hc | hc | hc | hc<;>first | (exfalso;omega) | exact hc.2.1
   have n0:¬fr.f=0:=by have:=(zAh.1 hn).1;omega
   rw [qP e7,qP e7,qN n0];simp [frN,jt,zHX,nmF]
  rw [qN e7,qN e7];rfl
 rw [ht];simp
theorem zIE:∀(P:List Sp) (i:Nat),i<=P.length->zBD L P i=Lib.join (((P.take i).map (zIC L)).map zEu) [44]
 | P,0,_=>by simp [zBD,Lib.join_nil]
 | P,i+1,hi=>by
  have hlt:i < P.length:=by omega
  rw [zBD,zIE P i (by omega),List.take_add_one,zCm hlt];simp only [Option.toList_some,List.map_append,List.map_cons,List.map_nil];have hst:zGr L (pa P i)=zEu (zIC L (pa P i)):=by
   unfold zGr zEu zBh brN zIC zHX nmF nfN;rfl
  rw [hst];by_cases h0:i=0
  ·subst h0;simp [Lib.join_nil,Lib.join_one]
  ·rw [qP (by omega)];have hne:((P.take i).map (zIC L)).map zEu≠[]:=by
    intro e;have:=congrArg List.length e;simp only [List.length_map,List.length_take,List.length_nil] at this;omega
   generalize ((P.take i).map (zIC L)).map zEu=T at hne ⊢
   cases T with
   | nil=>exact absurd rfl hne
   | cons x T =>
    rw [List.cons_append,Lib.join_cons,Lib.join_cons];simp [Lib.joinTail]
theorem zKH {o:Og} (ho:zAf L.length o=Q):zEv (nOf L o)=zAZ L o:=by
 obtain ⟨h1,h2,hp,hc⟩:=zCD ho;obtain ⟨kind,f,fr,path,over⟩:=o;simp only at h1 h2 hp hc;unfold zEv zAZ zPK zBu;simp only [nOf];rw [show nmF L f=zAj (fa L (f-1).toNat) from rfl];have hsh:¬fr.f=0->frI ⟨kind,fa L (f-1).toNat,if fr.f=0 then U else Z (zHX L fr),path.map (zIC L),over⟩=zBh L fr:=fun n0=>by
  rw [qN n0];rfl
 have hfn:¬fr.f=0->frN ⟨kind,fa L (f-1).toNat,if fr.f=0 then U else Z (zHX L fr),path.map (zIC L),over⟩=nmF L fr.f:=fun n0=>by
  rw [qN n0];rfl
 have qr:(kind=3∨kind=5∨kind=6∨kind=7)->¬fr.f=0:=fun e=>by
  have hn:zAo L.length fr=Q:=by
   rcases hc with hc | hc | hc | hc | hc<;>first | (exfalso;omega) | exact hc.2.1
  have:=(zAh.1 hn).1;omega
 congr 1
 by_cases e4:kind=4
 ·rw [qP e4,qP e4]
 rw [qN e4,qN e4];by_cases e3:kind=3
 ·rw [qP e3,qP e3,hsh (qr (by omega)),zIE path path.length (O _),List.take_length];by_cases hP:path=[]
  ·subst hP;simp [Lib.join_nil]
  ·rw [qN (by simpa using hP),qN hP]
 rw [qN e3,qN e3];by_cases e5:kind=5
 ·rw [qP e5,qP e5,hsh (qr (by omega))]
 rw [qN e5,qN e5];by_cases e6:kind=6∨kind=7
 ·rw [qP e6,qP e6,hfn (qr (by omega))]
 rw [qN e6,qN e6]
theorem zMS {o:Og} (ho:zAf L.length o=Q):zBN L o=Q↔zWk (nOf L o):=by
 obtain ⟨h1,h2,hp,hc⟩:=zCD ho;have hfr:0<=o.fr.f:=(zDn ho).1;unfold zBN zWk nOf zBb;simp only [Bool.and_eq_true,Bool.or_eq_true,decide_eq_true_eq,List.all_eq_true];constructor
 ·rintro ⟨⟨a,b⟩,c⟩;refine ⟨a,fun x hx=>?_,fun y hy=>?_⟩
  ·split at hx
   ·cases hx
   ·injection hx with hx
    subst hx;have:=b.resolve_left (by omega);exact ⟨this.1.1,this.1.2,this.2⟩
  ·obtain ⟨x,hx,rfl⟩:=List.mem_map.1 hy;have:=c x hx;exact ⟨this.1.1,this.1.2,this.2⟩
 ·rintro ⟨a,b,c⟩;refine ⟨⟨a,?_⟩,fun x hx=>?_⟩
  ·by_cases h0:o.fr.f=0
   ·exact .inl (by omega)
   ·have:=b (zHX L o.fr) (by rw [qN h0]);exact .inr ⟨⟨this.1,this.2.1⟩,this.2.2⟩
  ·have:=c (zIC L x) (List.mem_map.2 ⟨x,hx,rfl⟩);exact ⟨⟨this.1,this.2.1⟩,this.2.2⟩
end
theorem zDr {S:List UInt8} (h:¬(S≠[]/\S.length<=9/\S.head?≠Z 48/\S.all zHZ=Q)):zAs S=(0,E):=by unfold zAs;rw [qN h]
theorem zMT {S:List UInt8} {pos:Nat} {b:UInt8} (h:S[pos]? = Z b):zGG 0 (S.take (pos+1))=10*zGG 0 (S.take pos)+(b.toNat-48):=by
 rw [List.take_add_one,h];exact zGM _ _ _
theorem zTL:∀(S:List UInt8),(∀b∈S,zHZ b=Q)->zGG 0 S < 10 ^ S.length:=by
 intro S;generalize hn:S.length=n
 induction n generalizing S with
 | zero=>intro _;rw [List.length_eq_zero_iff.1 hn];simp [zGG]
 | succ n ih =>
  intro h;have h0:S≠[]:=fun e=>by rw [e] at hn;simp at hn
  obtain ⟨I,b,rfl⟩:∃I b,S=I++[b]:=⟨S.dropLast,S.getLast h0,(List.dropLast_concat_getLast h0).symm⟩
  have:=ih I (by simpa using hn) (fun x hx=>h x (List.mem_append_left _ hx));have hb:=zFm (h b (by simp));rw [zGM,Nat.pow_succ];omega
theorem zPN {S:List UInt8} {pos:Nat} (h:pos < S.length) (hs:pos < (bA S).size):∃b,S[pos]? = Z b/\(bA S)[pos]'hs=b:=by
 refine ⟨S[pos],List.getElem?_eq_getElem h,?_⟩;simp only [bA,ByteArray.getElem_eq_getElem_data];rfl
theorem zLP {a b:Int} {p q:Bool} (h:(a,p)=(b,q)):Ending.returned (.tuple #[D J a,G p])=.returned (.tuple #[D J b,G q]):=by
 injection h with h1 h2
 rw [h1,h2]
theorem zHx (S:List UInt8) (w:ZY) :
  Calls ZX 129 #[W (bA S)] w fun e w'=>e=.returned (.tuple #[D J (zAs S).1,G (zAs S).2])/\ZZ w.heap.size w w':=by
 have n0:=zAp S [];have hs:=zBz S;obtain ⟨v,ok,HC⟩:∃v ok,Hid (zAs S=(v,ok)):=⟨_,_,qH rfl⟩
 rw [show (zAs S).1=v from by rw [HC.out],show (zAs S).2=ok from by rw [HC.out]];obtain ⟨nS,dm⟩:∃n,S.length=n:=⟨_,rfl⟩
 rw [dm] at hs;by_cases h0:S=[]
 ·have hr:=qH (show zAs S=(0,E) from zDr fun h=>h.1 h0);rw [show (S==([]:List UInt8))=Q from by rw [h0];rfl] at n0;clear h0 dm;go_enter Tryz.func129,Tryz.ntmps129;go_wp2_with fail
  go_ret2;exact ⟨zLP (hr.out.symm.trans HC.out),M _ _⟩
 rw [show (S==([]:List UInt8))=E from by simpa using h0] at n0;by_cases hl:9 < nS
 ·have hr:=qH (show zAs S=(0,E) from zDr fun h=>by omega);have i0:(9:Int) < (nS:Int):=by omega
  clear h0 dm hl;go_enter Tryz.func129,Tryz.ntmps129;go_wp2_with fail
  go_ret2;exact ⟨zLP (hr.out.symm.trans HC.out),M _ _⟩
 have i0:¬(9:Int) < (nS:Int):=by omega
 obtain ⟨x,r,hx⟩:∃x r,S=x :: r:=by
  cases S with
  | nil=>exact absurd rfl h0
  | cons x r=>exact ⟨x,r,rfl⟩
 have s1:=zCX x r;rw [<-hx] at s1;by_cases h48:x=48
 ·have hr:=qH (show zAs S=(0,E) from zDr fun h=>h.2.2.1 (by rw [hx,h48];rfl));rw [show ((x.toNat:Nat):Int)=48 from by rw [h48];rfl] at s1;clear h0 dm hl h48 hx;go_enter Tryz.func129,Tryz.ntmps129;go_wp2_with fail
  go_ret2;exact ⟨zLP (hr.out.symm.trans HC.out),M _ _⟩
 have k1:((x.toNat:Int)==48)=E:=by
  simp only [beq_eq_false_iff_ne,ne_eq];intro e;exact h48 (UInt8.toNat.inj (show x.toNat=48 by omega))
 have HS:=qH (show S≠[]/\S.length<=9/\S.head?≠Z 48 from ⟨h0,by omega,by rw [hx];simpa using h48⟩);have HN:=qH dm;have Ca:nS<=9:=by omega
 clear h0 dm hl h48 hx;go_enter Tryz.func129,Tryz.ntmps129;go_wp2_with fail
 go_loopw [4] (fun v wr=>∃(pos V:Nat),wr=w.iter (bA S) pos/\v=D J V/\pos<=nS/\Hid (V=zGG 0 (S.take pos))/\Hid (∀b∈S.take pos,zHZ b=Q)) (fun _ wr=>nS-wr.iterPos w.heap.size)
 case atStart=>exact ⟨0,0,rfl,rfl,by omega,qH rfl,qH (by simp)⟩
 case round =>
  obtain ⟨pos,V,rfl,rfl,hpos,HV,HD⟩:=hrel;by_cases hp:pos < nS
  ·have hps:pos < (bA S).size:=by rw [hs];exact hp
   obtain ⟨b,ay,ai⟩:=zPN (S:=S) (pos:=pos) (by rw [HN.out];exact hp) hps;by_cases ha:b.toNat < 128
   ·have hnx:∀ty,(Instr.next (.pointer (Z ⟨w.heap.size,0,U⟩)) Q ty).run ZX (w.iter (bA S) pos)=.ok (.tuple #[G Q,D J pos,D .i32 b.toNat]) (w.iter (bA S) (pos+1)):=fun ty=>by
     rw [run_next_ascii w (bA S) pos ty hps (by rw [ai];exact ha),ai]
    by_cases hd:zHZ b=Q
    ·obtain ⟨d1,d2⟩:=zFm hd;obtain ⟨B,hB⟩:∃B:Nat,b.toNat=B:=⟨_,rfl⟩
     rw [hB] at hnx d1 d2;have j1:¬((B:Int) < 48):=by omega
     have j2:¬((57:Int) < (B:Int)):=by omega
     have hV:V < 1000000000:=by
      have:=zTL _ HD.out;rw [<-HV.out] at this;have h3:(S.take pos).length<=9:=by rw [List.length_take];omega
      have:=Nat.pow_le_pow_right (n:=10) (by omega) h3;omega
     have HB:=qH (show zGG 0 (S.take (pos+1))=10*V+(B-48)/\∀y∈S.take (pos+1),zHZ y=Q by
      rw [zMT ay,HV.out,hB]
      refine ⟨rfl,fun y hy=>?_⟩
      rw [List.take_add_one,ay] at hy
      rcases List.mem_append.1 hy with hy | hy
      ·exact HD.out y hy
      ·simp at hy;rw [hy];exact hd)
     clear hd ha ay ai hB hps HV HD;go_wp2_with fail
     go_roundw
     case rel=>exact ⟨pos+1,10*V+(B-48),rfl,by congr 1;simp;omega,by omega,qH HB.out.1.symm,qH HB.out.2⟩
     case measure=>simp;omega
    ·have hr:=qH (show zAs S=(0,E) from zDr fun h=>hd ((List.all_eq_true.1 h.2.2.2) b (List.mem_of_getElem? ay)));have hbel:=qH (show ZZ w.heap.size w (w.iter (bA S) (pos+1)) from (M _ _).alloc (O _) _);obtain ⟨B,hB⟩:∃B:Nat,b.toNat=B:=⟨_,rfl⟩
     rw [hB] at hnx;by_cases hlt:(B:Int) < 48
     ·clear hd ha ay ai hB hps HV HD;go_wp2_with fail
      go_ret2;exact ⟨zLP (hr.out.symm.trans HC.out),hbel.out⟩
     ·have hgt:(57:Int) < (B:Int):=by
       have:¬(48<=b.toNat/\b.toNat<=57):=fun e=>hd (by simp [zHZ,e])
       omega
      clear hd ha ay ai hB hps HV HD;go_wp2_with fail
      go_ret2;exact ⟨zLP (hr.out.symm.trans HC.out),hbel.out⟩
   ·obtain ⟨R,q,hnx,hR⟩:∃(R q:Nat),(∀ty,(Instr.next (.pointer (Z ⟨w.heap.size,0,U⟩)) Q ty).run ZX (w.iter (bA S) pos)=.ok (.tuple #[G Q,D J pos,D .i32 R]) (w.iter (bA S) q))/\128<=R :=
     ⟨_,_,fun ty=>run_next_any w (bA S) pos ty hps,(decode_high (bA S) pos hps (by rw [ai];omega)).1⟩
    have hr:=qH (show zAs S=(0,E) from zDr fun h=>by
     have:=zFm ((List.all_eq_true.1 h.2.2.2) b (List.mem_of_getElem? ay))
     omega)
    have hbel:=qH (show ZZ w.heap.size w (w.iter (bA S) q) from (M _ _).alloc (O _) _);have j1:¬((R:Int) < 48):=by omega
    have j2:(57:Int) < (R:Int):=by omega
    clear ha ay ai hps HV HD;go_wp2_with fail
    go_ret2;exact ⟨zLP (hr.out.symm.trans HC.out),hbel.out⟩
  ·have hpe:pos=nS:=by omega
   subst hpe;have hnx:∀ty,(Instr.next (.pointer (Z ⟨w.heap.size,0,U⟩)) Q ty).run ZX (w.iter (bA S) pos)=_:=fun ty=>run_next_end w (bA S) pos ty (by rw [hs];omega)
   have hr:=qH (show zAs S=((V:Int),Q) by
    have h1:S.take pos=S:=by rw [<-HN.out,List.take_length]
    have h2:=HD.out
    have h3:=HV.out
    rw [h1] at h2 h3
    unfold zAs
    rw [qP ⟨HS.out.1,HS.out.2.1,HS.out.2.2,List.all_eq_true.2 h2⟩,h3])
   have hbel:=qH (show ZZ w.heap.size w (w.iter (bA S) pos) from (M _ _).alloc (O _) _);clear HV HD HN HS;go_wp2_with fail
   go_ret2;exact ⟨zLP (hr.out.symm.trans HC.out),hbel.out⟩
structure Fm where
 A:Option Addr
 n:Nat
 c:Nat
 L:List Fg
 re:Int
 lo:Int
structure RX (w:ZY) (rb:Nat) (F:Fm) (s:RS):Prop where
 rd:Rd w rb F.A F.n F.c F.re F.lo s.T s.bad s.lost
 fr:Fgs w F.A F.n F.L
 ne:0 < F.n->∀k,blk F.A=Z k->k < rb
section
variable {w w':ZY} {rb:Nat} {F:Fm} {s:RS}
theorem RX.lt (h:RX w rb F s):rb < w.heap.size:=by
 obtain ⟨B,m,d,hk,_⟩:=h.rd.ex;exact hk.lt
theorem Els.overBlk {α:Type} {sz:Nat} {enc:α->List Value} {A:Option Addr} {n:Nat} {L:List α} {B:Nat} (h:Els sz enc w A n L) (hb:ZZ B w w') (hn:0 < n->∀k,blk A=Z k->k < B) (hs:w.heap.size<=w'.heap.size):Els sz enc w' A n L:=by
 refine ⟨h.len,h.le,fun h0=>?_⟩;obtain ⟨g,o,e,hg,hc⟩:=h.2.2 h0;subst e;have hgB:g < B:=hn h0 g rfl;refine ⟨g,o,rfl,Nat.lt_of_lt_of_le hg hs,fun j x hx q v hv=>?_⟩;rw [World.cell?_of_block (w:=w) (w':=w') (hb.block g hgB)];exact hc j x hx q v hv
theorem RX.over (h:RX w rb F s) (hb:ZZ (rb+1) w w'):RX w' rb F s:=by
 obtain ⟨B,m,d,hk,hT,hmd,hne⟩:=h.rd.ex;exact ⟨⟨B,m,d,hk.below hb (Nat.lt_succ_self _),Els.overBlk hT hb (fun _ k hk=>Nat.lt_succ_of_lt (hne k hk)) hb.size,hmd,hne⟩,⟨Els.overBlk h.fr.1 hb (fun h0 k hk=>Nat.lt_succ_of_lt (h.ne h0 k hk)) hb.size,h.fr.2⟩,h.ne⟩
theorem RX.below (h:RX w rb F s) (hb:ZZ w.heap.size w w'):RX w' rb F s:=⟨h.rd.below hb,h.fr.below hb,h.ne⟩
theorem RX.bad4 (h:RX w rb F s):w.cell? ⟨rb,4,U⟩=Z (G s.bad)/\w.frozen? ⟨rb,4,U⟩=E:=by
 obtain ⟨B,m,d,hk,_⟩:=h.rd.ex;exact ⟨(hk.cell 4).trans rfl,hk.frozen 4⟩
theorem RX.lost5 (h:RX w rb F s):w.cell? ⟨rb,5,U⟩=Z (G s.lost):=by
 obtain ⟨B,m,d,hk,_⟩:=h.rd.ex;exact (hk.cell 5).trans rfl
theorem RX.marked (h:RX w rb F s) (q b:Bool) (hb:b=(s.bad||q)):RX (w.setCell ⟨rb,4,U⟩ (G b)) rb F (s.mark q)/\w.grownBy (w.setCell ⟨rb,4,U⟩ (G b)) (Z rb):=by
 obtain ⟨B,m,d,hk,hT,hmd,hne⟩:=h.rd.ex;refine ⟨⟨⟨B,m,d,?_,Txts.keepAny hT (zBv _ _) hne,hmd,hne⟩,h.fr.keepR (zBv _ _) h.ne,h.ne⟩,zBv _ _⟩;have:=hk.set_ 4 (G b);rw [hb] at this;unfold RS.mark;simpa [hb] using this
theorem zCE (h:RX w rb F s):Calls ZX 146 #[.pointer (Z ⟨rb,0,U⟩)] w fun e w'=>e=.returned (W (bA (xa s.T 0)))/\RX w' rb F s.next/\w.grownBy w' (Z rb) :=
 (zHj rb _ _ _ _ _ _ _ _ w h.rd).mono fun _ _ ⟨h1,h2,h3⟩=>⟨h1,⟨h2,h.fr.keepR h3 h.ne,h.ne⟩,h3⟩
theorem zNU (h:RX w rb F s) (ZO:List UInt8):Calls ZX 148 #[.pointer (Z ⟨rb,0,U⟩),W (bA ZO)] w fun e w'=>e=.returned (G (isB s.T ZO))/\RX w' rb F (s.is ZO)/\w.grownBy w' (Z rb) :=
 (zPv rb _ _ _ _ _ _ _ _ ZO w h.rd).mono fun _ _ ⟨h1,h2,h3⟩=>⟨h1,⟨h2,h.fr.keepR h3 h.ne,h.ne⟩,h3⟩
theorem zCF (h:RX w rb F s) (S:List UInt8):Calls ZX 128 #[.pointer (Z ⟨rb,0,U⟩),W (bA S)] w fun e w'=>e=.returned (D J (zDA F.L S:Int))/\RX w' rb F (s.fing F.L S)/\w.grownBy w' (Z rb) :=
 (zFh rb _ _ _ F.L _ _ _ _ _ S w h.rd h.fr).mono fun _ _ ⟨h1,h2,h3⟩=>⟨h1,⟨h2,h.fr.keepR h3 h.ne,h.ne⟩,h3⟩
theorem zHy (h:RX w rb F s):Calls ZX 147 #[.pointer (Z ⟨rb,0,U⟩)] w fun e w'=>e=.returned (G (ovT (xa s.T 0)))/\RX w' rb F s.over/\w.grownBy w' (Z rb) :=
 (zLJ rb _ _ _ _ _ _ _ _ w h.rd).mono fun _ _ ⟨h1,h2,h3⟩=>⟨h1,⟨h2,h.fr.keepR h3 h.ne,h.ne⟩,h3⟩
end
theorem zIF {s:RS} {ZO:List UInt8} (h:isB s.T ZO=E):s.is ZO=s:=by
 obtain ⟨T,bad,lost⟩:=s;unfold RS.is isT;simp only;rw [qN (by simpa [isB] using h)]
theorem zFq (rb:Nat) (F:Fm) (s:RS) (ZO:List UInt8) (w:ZY) (h:RX w rb F s) :
  Calls ZX 182 #[.pointer (Z ⟨rb,0,U⟩),W (bA ZO)] w fun e w'=>e=.returned (D J (zEU ZO s).1)/\RX w' rb F (zEU ZO s).2/\w.grownBy w' (Z rb):=by
 have H1:=zNU h ZO
 cases hq:isB s.T ZO with
 | false =>
  have hr:zEU ZO s=(0,s):=by unfold zEU;rw [hq];rfl
  rw [hq,zIF hq] at H1;have H1:=qH H1;rw [hr];clear hq h hr;go_enter Tryz.func182,Tryz.ntmps182;go_wp2_with fail
  refine H1.out.mono ?_;rintro e w1 ⟨rfl,h1,g1⟩;go_wp2_with fail
  go_ret;exact ⟨rfl,h1,g1⟩
 | true =>
  obtain ⟨s1,e1⟩:∃s1,s.is ZO=s1:=⟨_,rfl⟩
  obtain ⟨S,eS⟩:∃S,xa s1.T 0=S:=⟨_,rfl⟩
  obtain ⟨b,eb⟩:∃b,s1.next.bad=b:=⟨_,rfl⟩
  obtain ⟨ok,eo⟩:∃b,(zAs S).2=b:=⟨_,rfl⟩
  obtain ⟨v,ev⟩:∃b,(zAs S).1=b:=⟨_,rfl⟩
  have hr:zEU ZO s=(v,s1.next.mark (!ok)):=by
   unfold zEU;rw [hq,<-ev,<-eo,<-eS,<-e1];rfl
  rw [hq,e1] at H1;have H1:=qH H1;have H2:=qH (fun wx (hx:RX wx rb F s1)=>(zCE hx).mono fun e w' (hh:_/\_/\_)=>(show e=.returned (W (bA S))/\RX w' rb F s1.next/\wx.grownBy w' (Z rb) by rw [<-eS];exact hh));have H3:=qH (fun wx=>(zHx S wx).mono fun e w' (hh:_/\_)=>(show e=.returned (.tuple #[D J v,G ok])/\ZZ wx.heap.size wx w' by rw [<-ev,<-eo];exact hh))
  have HM:=qH (fun wx (hx:RX wx rb F s1.next)=>(show wx.cell? ⟨rb,4,U⟩=Z (G b)/\wx.frozen? ⟨rb,4,U⟩=E/\∀q,q=(b||!ok)->RX (wx.setCell ⟨rb,4,U⟩ (G q)) rb F (s1.next.mark (!ok))/\wx.grownBy (wx.setCell ⟨rb,4,U⟩ (G q)) (Z rb) from
   ⟨by rw [<-eb];exact hx.bad4.1,hx.bad4.2,fun q hq=>hx.marked (!ok) q (by rw [eb];exact hq)⟩))
  rw [hr];clear hq h hr e1 eS eb eo ev;go_enter Tryz.func182,Tryz.ntmps182;go_wp2_with fail
  refine H1.out.mono ?_;rintro e w1 ⟨rfl,h1,g1⟩;go_wp2_with fail
  refine (H2.out w1 h1).mono ?_;rintro e w2 ⟨rfl,h2,g2⟩;go_wp2_with fail
  refine (H3.out w2).mono ?_;rintro e w3 ⟨rfl,b3⟩;obtain ⟨c4,z4,hm⟩:=HM.out w3 (h2.below b3);have HF:=qH (fun q hq=>(show RX (w3.setCell ⟨rb,4,U⟩ (G q)) rb F (s1.next.mark (!ok))/\w.grownBy (w3.setCell ⟨rb,4,U⟩ (G q)) (Z rb) from ⟨(hm q hq).1,zAb (zAb g1 g2) (zCW b3 (hm q hq).2)⟩));clear h1 g1 h2 g2 b3 hm H1 H2 H3 HM
  cases b<;>cases ok
  all_goals
   go_wp2_with fail
   go_ret;exact ⟨rfl,HF.out _ rfl⟩
theorem Blk.store4 {w:ZY} {g:Nat} {t:TypeId} {v0 v1 v2 v3:Value} (h:Blk w g t #[v0,v1,v2,v3]) (u0 u1 u2 u3:Value) :
  Blk ((((w.setCell ⟨g,0,U⟩ u0).setCell ⟨g,1,U⟩ u1).setCell ⟨g,2,U⟩ u2).setCell ⟨g,3,U⟩ u3) g t #[u0,u1,u2,u3]:=(((h.set_ 0 _).set_ 1 _).set_ 2 _).set_ 3 _
theorem zCi {a w:ZY} {g B:Nat} (h:ZZ B a w) (hB:B<=g) (u0 u1 u2 u3:Value) :
  ZZ B a ((((w.setCell ⟨g,0,U⟩ u0).setCell ⟨g,1,U⟩ u1).setCell ⟨g,2,U⟩ u2).setCell ⟨g,3,U⟩ u3) :=
 (((h.setCell (p:=⟨g,0,U⟩) hB _).setCell (p:=⟨g,1,U⟩) hB _).setCell (p:=⟨g,2,U⟩) hB _).setCell (p:=⟨g,3,U⟩) hB _
theorem zPO (f:Int) (w:ZY):(Instr.build 29 #[(0,D J f)]).run ZX w=.ok (.agg #[D J f,D J 0,G E,D J 0]) w:=run_build w _ _ _ (by kernel_rfl)
theorem zPP (w:ZY):(Instr.build 29 #[]).run ZX w=.ok (.agg #[D J 0,D J 0,G E,D J 0]) w:=run_build w _ _ _ (by kernel_rfl)
theorem Blk.grownO {w w':ZY} {g rb:Nat} {t:TypeId} {cs:Array Value} (h:Blk w g t cs) (hg:w.grownBy w' (Z rb)) (hne:rb < g):Blk w' g t cs:=h.grown hg (fun e=>by injection e with e;omega)
theorem zAd {w0 w w':ZY} {rb:Nat} (h:w0.grownBy w (Z rb)) (hb:ZZ w0.heap.size w w'):w0.grownBy w' (Z rb) :=
 ⟨hb.os.trans h.os,hb.tape.trans h.tape,hb.output.trans h.output,Nat.le_trans h.size hb.size,fun k hk hne=>(hb.block k hk).trans (h.block k hk hne)⟩
theorem zPQ (S:List UInt8):((bA S).toList==[110,101,97,114])=neT S:=by rw [zAr];rfl
theorem zSb (S:List UInt8):((bA S).toList==[102,97,114])=faT S:=by rw [zAr];rfl
theorem zDQ (rb:Nat) (F:Fm) (s:RS) (w:ZY) (h:RX w rb F s) :
  Calls ZX 149 #[.pointer (Z ⟨rb,0,U⟩)] w fun e w'=>e=.returned (sgV (zAQ F.L s).1)/\RX w' rb F (zAQ F.L s).2/\w.grownBy w' (Z rb):=by
 obtain ⟨S0,gO⟩:∃S,xa s.T 0=S:=⟨_,rfl⟩
 obtain ⟨s1,e1⟩:∃x,s.next=x:=⟨_,rfl⟩
 obtain ⟨s2,e2⟩:∃x,s1.fing F.L S0=x:=⟨_,rfl⟩
 obtain ⟨S1,lj⟩:∃S,xa s2.T 0=S:=⟨_,rfl⟩
 obtain ⟨s3,e3⟩:∃x,s2.next=x:=⟨_,rfl⟩
 obtain ⟨b,eb⟩:∃b,s3.bad=b:=⟨_,rfl⟩
 obtain ⟨ne,en⟩:∃b,neT S1=b:=⟨_,rfl⟩
 obtain ⟨fa,ef⟩:∃b,faT S1=b:=⟨_,rfl⟩
 obtain ⟨s4,e4⟩:∃x,s3.mark (!(ne||fa))=x:=⟨_,rfl⟩
 obtain ⟨lo,elo⟩:∃x,(zEU zBX s4).1=x:=⟨_,rfl⟩
 obtain ⟨s5,e5⟩:∃x,(zEU zBX s4).2=x:=⟨_,rfl⟩
 obtain ⟨pc,epc⟩:∃x,(zEU zBd s5).1=x:=⟨_,rfl⟩
 obtain ⟨s6,e6⟩:∃x,(zEU zBd s5).2=x:=⟨_,rfl⟩
 obtain ⟨f,efi⟩:∃x,zDA F.L S0=x:=⟨_,rfl⟩
 have cF:xa s.T.tail 0=S1:=by rw [<-lj,<-e2,<-e1];rfl
 have hr:zAQ F.L s=(⟨f,lo,fa,pc⟩,s6):=by
  have hp:zDB F.L s=s4:=by
   unfold zDB;rw [gO,e1,e2,e3,cF,en,ef,e4]
  unfold zAQ;rw [hp,e5,e6,elo,epc,cF,ef,gO,efi]
 have H1:=qH (fun wx (hx:RX wx rb F s)=>zCE hx);have n1:=zPQ S1;have n2:=zSb S1;rw [en] at n1;rw [ef] at n2;have H2:=qH (fun wx (hx:RX wx rb F s1)=>zCF hx S0);have H3:=qH (fun wx (hx:RX wx rb F s2)=>zCE hx);have H4:=qH (fun wx (hx:RX wx rb F s4)=>zFq rb F s4 zBX wx hx);have H5:=qH (fun wx (hx:RX wx rb F s5)=>zFq rb F s5 zBd wx hx)
 have HM:=qH (fun wx (hx:RX wx rb F s3)=>(show wx.cell? ⟨rb,4,U⟩=Z (G b)/\wx.frozen? ⟨rb,4,U⟩=E/\∀q,q=(b||!(ne||fa))->RX (wx.setCell ⟨rb,4,U⟩ (G q)) rb F s4/\wx.grownBy (wx.setCell ⟨rb,4,U⟩ (G q)) (Z rb) from
  ⟨by rw [<-eb];exact hx.bad4.1,hx.bad4.2,fun q hq=>by rw [<-e4];exact hx.marked (!(ne||fa)) q (by rw [eb];exact hq)⟩))
 simp only [gO,e1] at H1;simp only [efi,e2] at H2;simp only [lj,e3] at H3;simp only [elo,e5] at H4;simp only [epc,e6] at H5;rw [hr];have hlt:=h.lt;have b1:ZZ w.heap.size w (w.alloc (.cells #[D J 0,D J 0,G E,D J 0] 29)):=(M _ _).alloc (O _) _;have k1:Blk (w.alloc (.cells #[D J 0,D J 0,G E,D J 0] 29)) w.heap.size 29 #[D J 0,D J 0,G E,D J 0]:=Blk.new _ _ _;have h1:=h.below b1;have g1:w.grownBy (w.alloc (.cells #[D J 0,D J 0,G E,D J 0] 29)) (Z rb):=zAA b1;clear gO e1 e2 lj e3 eb en ef e4 elo e5 epc e6 efi cF hr h b1;go_enter Tryz.func149,Tryz.ntmps149;go_wp2_with fail
 generalize w.alloc (.cells #[D J 0,D J 0,G E,D J 0] 29)=X1 at k1 h1 g1 ⊢;refine (H1.out X1 h1).mono ?_;rintro e X2 ⟨rfl,h2,q2⟩;have k2:=k1.grownO q2 hlt;have g2:=zAb g1 q2;clear h1 k1 g1 q2 H1;go_wp2_with fail
 refine (H2.out X2 h2).mono ?_;rintro e X3 ⟨rfl,h3,q3⟩;have k3:=k2.grownO q3 hlt;have g3:=zAb g2 q3;clear h2 k2 g2 q3 H2;have b4:ZZ X3.heap.size X3 (X3.alloc (.cells #[D J (f:Int),D J 0,G E,D J 0] 29)):=(M _ _).alloc (O _) _;have k4:=k3.below b4 k3.lt;have l4:Blk (X3.alloc (.cells #[D J (f:Int),D J 0,G E,D J 0] 29)) X3.heap.size 29 #[D J (f:Int),D J 0,G E,D J 0]:=Blk.new _ _ _;have h4:=h3.below b4;have g4:=zAb g3 (zAA (row:=Z rb) b4);have jG:=h3.lt;have qi:=k3.lt;clear h3 k3 g3 b4;go_wp2_with fail
 generalize X3.alloc (.cells #[D J (f:Int),D J 0,G E,D J 0] 29)=X4 at k4 l4 h4 g4 ⊢;generalize X3.heap.size=r1 at l4 jG qi ⊢;refine (H3.out X4 h4).mono ?_;rintro e X5 ⟨rfl,h5,q5⟩;have k5:=k4.grownO q5 hlt;have l5:=l4.grownO q5 jG;have g5:=zAb g4 q5;obtain ⟨c4,z4,hm⟩:=HM.out X5 h5
 have vG:=qH (fun (q:Bool) hq=>(show RX (X5.setCell ⟨rb,4,U⟩ (G q)) rb F s4/\Blk (X5.setCell ⟨rb,4,U⟩ (G q)) w.heap.size 29 #[D J 0,D J 0,G E,D J 0]/\Blk (X5.setCell ⟨rb,4,U⟩ (G q)) r1 29 #[D J (f:Int),D J 0,G E,D J 0]/\w.grownBy (X5.setCell ⟨rb,4,U⟩ (G q)) (Z rb) from
  ⟨(hm q hq).1,k5.grownO (hm q hq).2 hlt,l5.grownO (hm q hq).2 jG,zAb g5 (hm q hq).2⟩))
 clear h4 k4 l4 g4 q5 H3 HM h5 k5 l5 g5 hm;go_upto_region 3 with fail
 go_cut [24] (fun _ wv=>∃wz:ZY,wz=wv/\RX wz rb F s4/\Blk wz w.heap.size 29 #[D J 0,D J 0,G E,D J 0]/\Blk wz r1 29 #[D J (f:Int),D J 0,G E,D J 0]/\w.grownBy wz (Z rb))
 case first =>
  cases b<;>cases ne<;>cases fa
  all_goals
   go_wp2_with fail
   go_meet
   case rel=>exact ⟨_,rfl,vG.out _ rfl⟩
 case rest =>
  obtain ⟨wz,rfl,h6,k6,l6,g6⟩:=hcut;clear vG c4 z4 n1;have z6:=l6.frozen 2;have d6:(wz.cell? ⟨r1,2,U⟩)=Z (G E):=(l6.cell 2).trans rfl;have l7:Blk (wz.setCell ⟨r1,2,U⟩ (G fa)) r1 29 #[D J (f:Int),D J 0,G fa,D J 0]:=l6.set_ 2 _;have b7:ZZ (rb+1) wz (wz.setCell ⟨r1,2,U⟩ (G fa)):=(M _ _).setCell (p:=⟨r1,2,U⟩) jG _;have Gr:ZZ w.heap.size wz (wz.setCell ⟨r1,2,U⟩ (G fa)):=(M _ _).setCell (p:=⟨r1,2,U⟩) (Nat.le_of_lt qi) _;have k7:=k6.far (p:=⟨r1,2,U⟩) (by simp only;omega) (G fa);have h7:=h6.over b7;have g7:=zAd g6 Gr;clear k6 l6 g6 h6 b7 Gr;go_wp2_with fail
  generalize wz.setCell ⟨r1,2,U⟩ (G fa)=X7 at k7 l7 h7 g7 ⊢;refine (H4.out X7 h7).mono ?_;rintro e X8 ⟨rfl,h8,q8⟩;have k8:=k7.grownO q8 hlt;have l8:=l7.grownO q8 jG;have g8:=zAb g7 q8;clear k7 l7 h7 g7 q8 z6 d6;have z8:=l8.frozen 1;have d8:(X8.cell? ⟨r1,1,U⟩)=Z (D J 0):=(l8.cell 1).trans rfl;have l9:Blk (X8.setCell ⟨r1,1,U⟩ (D J lo)) r1 29 #[D J (f:Int),D J lo,G fa,D J 0]:=l8.set_ 1 _;have b9:ZZ (rb+1) X8 (X8.setCell ⟨r1,1,U⟩ (D J lo)):=(M _ _).setCell (p:=⟨r1,1,U⟩) jG _;have Gq:ZZ w.heap.size X8 (X8.setCell ⟨r1,1,U⟩ (D J lo)):=(M _ _).setCell (p:=⟨r1,1,U⟩) (Nat.le_of_lt qi) _;have k9:=k8.far (p:=⟨r1,1,U⟩) (by simp only;omega) (D J lo);have h9:=h8.over b9;have g9:=zAd g8 Gq;clear k8 l8 g8 h8 b9 Gq;go_wp2_with fail
  generalize X8.setCell ⟨r1,1,U⟩ (D J lo)=X9 at k9 l9 h9 g9 ⊢;refine (H5.out X9 h9).mono ?_;rintro e lr ⟨rfl,h10,vZ⟩;have EQ:=k9.grownO vZ hlt;have As:=l9.grownO vZ jG;have FW:=zAb g9 vZ;clear k9 l9 h9 g9 vZ z8 d8;have z10:=As.frozen 3;have d10:(lr.cell? ⟨r1,3,U⟩)=Z (D J 0):=(As.cell 3).trans rfl;have xH:Blk (lr.setCell ⟨r1,3,U⟩ (D J pc)) r1 29 #[D J (f:Int),D J lo,G fa,D J pc]:=As.set_ 3 _;have Gs:ZZ (rb+1) lr (lr.setCell ⟨r1,3,U⟩ (D J pc)):=(M _ _).setCell (p:=⟨r1,3,U⟩) jG _;have zn:ZZ w.heap.size lr (lr.setCell ⟨r1,3,U⟩ (D J pc)):=(M _ _).setCell (p:=⟨r1,3,U⟩) (Nat.le_of_lt qi) _;have pU:=EQ.far (p:=⟨r1,3,U⟩) (by simp only;omega) (D J pc);have pt:=h10.over Gs;have px:=zAd FW zn;clear EQ As FW h10 Gs zn;have e0:((lr.setCell ⟨r1,3,U⟩ (D J pc)).cell? ⟨r1,0,U⟩)=Z (D J (f:Int)):=(xH.cell 0).trans rfl;have e1:((lr.setCell ⟨r1,3,U⟩ (D J pc)).cell? ⟨r1,1,U⟩)=Z (D J lo):=(xH.cell 1).trans rfl;have e2:((lr.setCell ⟨r1,3,U⟩ (D J pc)).cell? ⟨r1,2,U⟩)=Z (G fa):=(xH.cell 2).trans rfl;have e3:((lr.setCell ⟨r1,3,U⟩ (D J pc)).cell? ⟨r1,3,U⟩)=Z (D J pc):=(xH.cell 3).trans rfl;have f0:((lr.setCell ⟨r1,3,U⟩ (D J pc)).cell? ⟨w.heap.size,0,U⟩)=Z (D J 0):=(pU.cell 0).trans rfl;have f1:((lr.setCell ⟨r1,3,U⟩ (D J pc)).cell? ⟨w.heap.size,1,U⟩)=Z (D J 0):=(pU.cell 1).trans rfl;have f2:((lr.setCell ⟨r1,3,U⟩ (D J pc)).cell? ⟨w.heap.size,2,U⟩)=Z (G E):=(pU.cell 2).trans rfl;have f3:((lr.setCell ⟨r1,3,U⟩ (D J pc)).cell? ⟨w.heap.size,3,U⟩)=Z (D J 0):=(pU.cell 3).trans rfl;have y0:=pU.frozen 0;have y1:=pU.frozen 1;have y2:=pU.frozen 2;have y3:=pU.frozen 3;go_wp2_with fail
  generalize lr.setCell ⟨r1,3,U⟩ (D J pc)=zq at pU xH pt px e0 e1 e2 e3 f0 f1 f2 f3 y0 y1 y2 y3 ⊢;have hS:=pU.store4 (D J (f:Int)) (D J lo) (G fa) (D J pc);have bS:=zCi (M (rb+1) zq) (show rb+1<=w.heap.size from hlt) (D J (f:Int)) (D J lo) (G fa) (D J pc);have lq:=zCi (M w.heap.size zq) (O w.heap.size) (D J (f:Int)) (D J lo) (G fa) (D J pc);have hX:=pt.over bS;have gX:=zAd px lq;go_wp2_with fail
  exact zAi rfl rfl hS Tryz.underlying29 rfl (by kernel_rfl) rfl ⟨rfl,hX,gX⟩
