/-
  Lemmas, part 21. Conditions: each theorem's own.
-/
import Derived.Test.YtlmdfmnbcndhoaaGreatDoorRl15
import Derived.Test.YtlmdfmnbcndhoaaGreatDoorRl20
import Derived.Test.YtlmdfmnbcndhoaaGreatDoorRl16
import Derived.Test.YtlmdfmnbcndhoaaGreatDoorRl17
namespace Go.Proofs.YtlmdfmnbcndhoaaGreatDoor
open Go.RowKit
def AL:List Fg:=(List.range 9).flatMap fun p:Nat=>(List.range 7).flatMap fun d:Nat=>[⟨(p:Int)+1,false,(d:Int)⟩,⟨(p:Int)+1,true,(d:Int)⟩]
theorem zKo:AL.length=126:=by decide +kernel
theorem zPx:GoodL AL:=by
 have h:(List.range 126).all (zCV AL)=true:=by decide +kernel
 intro i hi;rw [zKo] at hi;exact List.all_eq_true.1 h i (List.mem_range.2 hi)
theorem zVN {f:Fg} (h:zAl f=true):f∈AL:=by
 obtain ⟨h1,h2,h3,h4⟩:=zAt.1 h;obtain ⟨p,r,d⟩:=f;simp only at h1 h2 h3 h4;unfold AL;refine List.mem_flatMap.2 ⟨(p-1).toNat,List.mem_range.2 (by omega),List.mem_flatMap.2 ⟨d.toNat,List.mem_range.2 (by omega),?_⟩⟩;rw [show (((p-1).toNat:Nat):Int)+1=p by omega,show ((d.toNat:Nat):Int)=d by omega]
 cases r<;>simp
theorem zPy {f:Fg} (h:zAl f=true):zAK AL f≠0:=fun e=>by
 obtain ⟨j,hj⟩:=List.getElem?_of_mem (zVN h);exact zJH e j hj
theorem zLE {f:Fg} (h:zAl f=true):zAX AL f=false:=by unfold zAX;simpa using zPy h
theorem okN.all {n:Nop} (h:okN n):zAl n.f=true∧(∀y∈n.path,zAl y.1.f=true)∧∀x,n.fr=some x→zAl x.f=true:=by
 refine ⟨h.1,?_,?_⟩
 ·intro y hy;rcases h.2 with ⟨_,_,h,_⟩ | ⟨_,_,h⟩ | ⟨_,_,h,_⟩ | ⟨_,_,h⟩ | ⟨_,_,h⟩
  ·rw [h] at hy;simp at hy
  ·rw [h] at hy;simp at hy
  ·exact (h y hy).1
  ·rw [h] at hy;simp at hy
  ·rw [h] at hy;simp at hy
 ·intro x hx;rcases h.2 with ⟨_,h,_⟩ | ⟨_,h,_⟩ | ⟨_,⟨y,h,hy⟩,_⟩ | ⟨_,⟨y,h,hy⟩,_⟩ | ⟨_,⟨g,h,hg⟩,_⟩
  ·rw [h] at hx;cases hx
  ·rw [h] at hx;cases hx
  ·rw [h] at hx;injection hx with hx;rw [←hx];exact hy.1
  ·rw [h] at hx;injection hx with hx;rw [←hx];exact hy.1
  ·rw [h] at hx;injection hx with hx;rw [←hx];exact hg
theorem zUk {n:Nop} (h:okN n):zAB AL n=false:=by
 obtain ⟨h1,h2,h3⟩:=h.all;unfold zAB;have hp:zAU AL n.path=false:=by
  unfold zAU;rw [List.any_eq_false];intro y hy;rw [zLE (h2 y hy)];simp
 rw [zLE h1,hp]
 cases hf:n.fr with
 | none=>rfl
 | some x=>simp only [zLE (h3 x hf)];rfl
noncomputable abbrev fnA (S:List UInt8):Nat:=zDj AL S
def zJf (S:List UInt8):Int:=(zAq S).1
def loF (T:List (List UInt8)):Int×Nat:=if 4≤T.length∧xa T 2=zBO then (zJf (xa T 3),4) else (0,2)
def piF (T:List (List UInt8)) (n:Nat):Int×Nat:=if n+2≤T.length∧xa T n=zAY then (zJf (xa T (n+1)),n+2) else (0,n)
noncomputable def zGd (T:List (List UInt8)):Sg×Nat :=
 if T.length < 2∨(xa T 1≠zRj∧xa T 1≠zWN) then (s0,0)
 else (⟨fnA (xa T 0),(loF T).1,faT (xa T 1),(piF T (loF T).2).1⟩,(piF T (loF T).2).2)
def zEu:List (List UInt8)→List (List UInt8)
 | []=>[]
 | w :: r=>if w.getLast? = some 44 then [w.dropLast] else w :: zEu r
noncomputable def zGw:Nat→List Sp→List (List UInt8)→Option (List Sp×Sg)
 | 0,_,_=>none
 | n+1,P,T=>if T=[] then some (P,s0) else if xa T 0=zAx then some (P,(zGd T.tail).1)
  else if (zGd (zEu T.tail)).2=0 then none
  else zGw n (P++[⟨(zGd (zEu T.tail)).1,ovT (xa T 0)⟩]) (T.drop ((zGd (zEu T.tail)).2+1))
noncomputable def zOq (f:Int) (T:List (List UInt8)):Og:=match zGw (T.length+1) [] T with | some (P,s)=>⟨3,f,s,P,false⟩ | none=>o0
noncomputable def zJg (T:List (List UInt8)):Og :=
 if T.length < 2 then o0
 else if xa T 0=zAs 1 then ⟨1,fnA (xa T 1),s0,[],false⟩
 else if xa T 0=zAs 2 then ⟨2,fnA (xa T 1),s0,[],false⟩
 else if xa T 0=zAs 8 then ⟨8,fnA (xa T 1),s0,[],false⟩
 else if xa T 0=zAs 4 then ⟨4,fnA (xa T 1),s0,[],ovT (xa T (T.length-1))⟩
 else if xa T 0=zAs 5 then ⟨5,fnA (xa T 1),if 3 < T.length then (zGd (T.drop 3)).1 else s0,[],ovT (xa T (T.length-1))⟩
 else if xa T 0=zAs 6 then ⟨6,fnA (xa T 1),⟨if 3 < T.length then fnA (xa T 3) else 0,0,false,0⟩,[],ovT (xa T (T.length-1))⟩
 else if xa T 0=zAs 7 then ⟨7,fnA (xa T 1),⟨if 3 < T.length then fnA (xa T 3) else 0,0,false,0⟩,[],ovT (xa T (T.length-1))⟩
 else if xa T 0=zAs 3 then zOq (fnA (xa T 1)) (T.drop 2)
 else ⟨0,fnA (xa T 1),s0,[],ovT (xa T (T.length-1))⟩
noncomputable def zKU (S:List UInt8):Og:=zJg (zAR 32 S)
theorem zLF {f:Fg} (h:zAl f=true):fnA (zAi f)=zAK AL f:=by unfold fnA zDj;rw [zCm h rfl]
theorem zGx {n:Int} (h0:n≠0) (h1:0≤n) (h2:n≤999999999):zJf (Lib.itoa n)=n:=by unfold zJf;rw [zFC (by omega) h2]
theorem zPz {x:Nst} (h:zBX x) (R:List (List UInt8)) (hR:R.length≤1):zGd (plT x++R)=(sOf AL x,(plT x).length):=by
 obtain ⟨h1,h2,h3,h4,h5⟩:=h;obtain ⟨f,l,far,pc⟩:=x;simp only at h1 h2 h3 h4 h5;have hR4:¬(4≤R.length+2):=by omega
 have hl0:zBO≠zAY:=by decide
 have vH:zAY≠zBO:=by decide
 have hs:zBx far=zRj∨zBx far=zWN:=by cases far<;>simp [zBx]
 have hf:faT (zBx far)=far:=(zHc far).1;have hn:=zLF h1;unfold zGd loF piF plT sOf;by_cases e1:l=0<;>by_cases e2:pc=0
 ·subst e1;subst e2
  have q1:¬(R.length+1+1 < 2):=by omega
  have q2:¬(4≤R.length+1+1):=by omega
  have q3:¬(2+2≤R.length+1+1):=by omega
  simp only [zEL,if_true,List.append_nil,List.cons_append,List.nil_append,List.length_cons,List.length_nil,xa,List.getElem?_cons_zero,List.getElem?_cons_succ,Option.getD_some,q1,q2,false_or,false_and,if_false,hf,hn];rcases hs with e | e<;>simp [e]
 ·subst e1;have hi:=zGx e2 h4 h5;have q1:¬(R.length+1+1+1+1 < 2):=by omega
  have q2:4≤R.length+1+1+1+1:=by omega
  have q3:2+2≤R.length+1+1+1+1:=by omega
  simp only [zEL,if_true,if_neg e2,List.append_nil,List.cons_append,List.nil_append,List.length_cons,List.length_nil,xa,List.getElem?_cons_zero,List.getElem?_cons_succ,Option.getD_some,q1,q2,false_or,true_and,vH,if_false,hf,hn,hi];rcases hs with e | e<;>simp [e]
 ·subst e2;have hi:=zGx e1 h2 h3;have q1:¬(R.length+1+1+1+1 < 2):=by omega
  have q2:4≤R.length+1+1+1+1:=by omega
  have q3:¬(4+2≤R.length+1+1+1+1):=by omega
  simp only [zEL,if_true,if_neg e1,List.append_nil,List.cons_append,List.nil_append,List.length_cons,List.length_nil,xa,List.getElem?_cons_zero,List.getElem?_cons_succ,Option.getD_some,q1,q2,q3,false_or,true_and,false_and,if_false,hf,hn,hi];rcases hs with e | e<;>simp [e]
 ·have hi:=zGx e1 h2 h3;have hj:=zGx e2 h4 h5;have q1:¬(R.length+1+1+1+1+1+1 < 2):=by omega
  have q2:4≤R.length+1+1+1+1+1+1:=by omega
  have q3:4+2≤R.length+1+1+1+1+1+1:=by omega
  simp only [zEL,if_true,if_neg e1,if_neg e2,List.cons_append,List.nil_append,List.length_cons,List.length_nil,xa,List.getElem?_cons_zero,List.getElem?_cons_succ,Option.getD_some,q1,q2,q3,false_or,true_and,hf,hn,hi,hj];rcases hs with e | e<;>simp [e]
theorem zPA:∀{A:List (List UInt8)} (R:List (List UInt8)),fineT A→A≠[]→zEu (tag A++R)=A
 | [],_,_,h=>absurd rfl h
 | [x],R,_,_=>by simp [tag,zEu]
 | x :: y :: r,R,h,_=>by
  have h2:fineT (y :: r):=fun S hS=>h S (List.mem_cons_of_mem _ hS)
  have hx:x.getLast?≠some 44:=fun e=>(h x (List.mem_cons_self ..)).no44 (List.mem_of_getLast? e)
  rw [tag,List.cons_append,zEu,if_neg hx,zPA R h2 (by simp)]
theorem zPB:∀A:List (List UInt8),(tag A).length=A.length
 | []=>rfl
 | [x]=>rfl
 | x :: y :: r=>by rw [tag,List.length_cons,zPB (y :: r)];rfl
theorem zVO (x:Nst):(plT x).length≠0:=by simp [plT]
theorem zSZ {x:Nst} (hx:zBX x):∀(Q:List (Nst×Bool)) (n:Nat) (P:List Sp),Q.length < n→(∀y∈Q,zBX y.1) →
  zGw n P (Q.flatMap stW++zAx :: plT x)=some (P++Q.map (pOf AL),sOf AL x)
 | _,0,_,h,_=>absurd h (by omega)
 | [],n+1,P,_,_=>by
  have:=zPz hx [] (by simp);rw [List.append_nil] at this;rw [zGw,if_neg (by simp),if_pos (by rfl)];simp [this]
 | y :: Q,n+1,P,hn,hQ=>by
  have hy:=hQ y (List.mem_cons_self ..);have h1:=zPz hy [] (by simp);rw [List.append_nil] at h1;have hT:(y :: Q).flatMap stW++zAx :: plT x=zAw y.2 :: (tag (plT y.1)++(Q.flatMap stW++zAx :: plT x)):=by simp [stW]
  have hu:=zPA (Q.flatMap stW++zAx :: plT x) (zGZ y.1) (zTW y.1);have h0:xa (zAw y.2 :: (tag (plT y.1)++(Q.flatMap stW++zAx :: plT x))) 0=zAw y.2:=rfl;have hof:zAw y.2≠zAx:=by cases y.2<;>decide
  have hd:(zAw y.2 :: (tag (plT y.1)++(Q.flatMap stW++zAx :: plT x))).drop ((plT y.1).length+1)=Q.flatMap stW++zAx :: plT x:=by
   rw [List.drop_succ_cons,←zPB,List.drop_left]
  rw [hT,zGw,if_neg (by simp),h0,if_neg hof,List.tail_cons,hu,h1];simp only;rw [if_neg (zVO y.1),hd,(zLv y.2).1,zSZ hx Q n _ (by simp at hn;omega) (fun z hz=>hQ z (List.mem_cons_of_mem _ hz))];simp [pOf]
theorem zRy {a b:Int} (ha:1≤a) (ha8:a≤8) (hb:1≤b) (cm:b≤8) (h:zAs a=zAs b):a=b:=by
 have h1:=zCo ha ha8;rw [h,zCo hb cm] at h1;exact h1.symm
theorem zUl (Q:List (Nst×Bool)):Q.length≤(Q.flatMap stW).length:=by
 induction Q with
 | nil=>simp
 | cons x Q ih =>
  have:1≤(stW x).length:=by simp [stW]
  rw [List.flatMap_cons,List.length_append,List.length_cons];omega
theorem zTa {n:Nop} (h:okN n):zKU (zCb n)=oOf AL n:=by
 have hs:zAR 32 (zCb n)=zRk n:=by
  unfold zCb;exact zEJ (by simp [zRk]) (zMz n)
 obtain ⟨hf,hk⟩:=h;have hfn:=zLF hf;unfold zKU;rw [hs];obtain ⟨k,f,fr,path,over⟩:=n;unfold zGX at hk;simp only at hf hk hfn;have ho:=(zLv over).1;have sD:∀R,xa (zAs k :: zAi f :: R) 0=zAs k:=fun _=>rfl
 have gG:∀R,xa (zAs k :: zAi f :: R) 1=zAi f:=fun _=>rfl
 have hl2:∀R,¬(zAs k :: zAi f :: R).length < 2:=fun R=>by simp
 have hv:∀{a:Int},1≤a→a≤8→1≤k→k≤8→a≠k→zAs k≠zAs a:=fun h1 h2 h3 h4 h5 e=>h5 (zRy h1 h2 h3 h4 e.symm)
 unfold zJg zRk tlW;simp only;rcases hk with ⟨e,h1,h2,h3⟩ | ⟨e,h1,h2⟩ | ⟨e,⟨x,hx,hxo⟩,hp,h3⟩ | ⟨e,⟨x,hx,hxo⟩,hp⟩ | ⟨e,⟨g,hx,hg⟩,hp⟩
 ·subst h1;subst h2;subst h3
  rcases e with rfl | rfl | rfl<;>simp only [if_neg (show ¬(1:Int)=4 by omega),if_neg (show ¬(1:Int)=3 by omega),if_neg (show ¬(1:Int)=5 by omega),if_neg (show ¬(1:Int)=6 by omega),if_neg (show ¬(1:Int)=7 by omega),
   if_neg (show ¬(2:Int)=4 by omega),if_neg (show ¬(2:Int)=3 by omega),if_neg (show ¬(2:Int)=5 by omega),if_neg (show ¬(2:Int)=6 by omega),if_neg (show ¬(2:Int)=7 by omega),
   if_neg (show ¬(8:Int)=4 by omega),if_neg (show ¬(8:Int)=3 by omega),if_neg (show ¬(8:Int)=5 by omega),if_neg (show ¬(8:Int)=6 by omega),if_neg (show ¬(8:Int)=7 by omega)]
  ·rw [if_neg (hl2 _),sD,if_pos rfl,gG,hfn];rfl
  ·rw [if_neg (hl2 _),sD,if_neg (hv (by omega) (by omega) (by omega) (by omega) (by omega)),if_pos rfl,gG,hfn];rfl
  ·rw [if_neg (hl2 _),sD,if_neg (hv (by omega) (by omega) (by omega) (by omega) (by omega)),if_neg (hv (by omega) (by omega) (by omega) (by omega) (by omega)),if_pos rfl,gG,hfn];rfl
 ·subst e;subst h1;subst h2
  rw [if_neg (hl2 _),sD,if_neg (hv (by omega) (by omega) (by omega) (by omega) (by omega)),if_neg (hv (by omega) (by omega) (by omega) (by omega) (by omega)),if_neg (hv (by omega) (by omega) (by omega) (by omega) (by omega)),if_pos rfl,gG,hfn];simp only [if_true];rw [show xa [zAs 4,zAi f,zAw over] ([zAs 4,zAi f,zAw over].length-1)=zAw over from rfl,ho];rfl
 ·subst e;subst h3;subst hx
  rw [if_neg (hl2 _),sD,if_neg (hv (by omega) (by omega) (by omega) (by omega) (by omega)),if_neg (hv (by omega) (by omega) (by omega) (by omega) (by omega)),if_neg (hv (by omega) (by omega) (by omega) (by omega) (by omega)),if_neg (hv (by omega) (by omega) (by omega) (by omega) (by omega)),if_neg (hv (by omega) (by omega) (by omega) (by omega) (by omega)),if_neg (hv (by omega) (by omega) (by omega) (by omega) (by omega)),if_neg (hv (by omega) (by omega) (by omega) (by omega) (by omega)),if_pos rfl,gG,hfn];simp only [if_neg (show ¬(3:Int)=4 by omega),if_true,List.drop_succ_cons,List.drop_zero,frT];unfold zOq;rw [zSZ hxo path _ [] (by have:=zUl path;simp only [List.length_append,List.length_cons];omega) hp];rfl
 ·subst e;subst hp;subst hx
  rw [if_neg (hl2 _),sD,if_neg (hv (by omega) (by omega) (by omega) (by omega) (by omega)),if_neg (hv (by omega) (by omega) (by omega) (by omega) (by omega)),if_neg (hv (by omega) (by omega) (by omega) (by omega) (by omega)),if_neg (hv (by omega) (by omega) (by omega) (by omega) (by omega)),if_pos rfl,gG,hfn];simp only [if_neg (show ¬(5:Int)=4 by omega),if_neg (show ¬(5:Int)=3 by omega),if_true,frT];have hl:xa (zAs 5 :: zAi f :: zAx :: (plT x++[zAw over])) ((zAs 5 :: zAi f :: zAx :: (plT x++[zAw over])).length-1)=zAw over:=by
   simp only [xa,List.length_cons,List.length_append,List.length_nil];rw [show (plT x).length+(0+1)+1+1+1-1=(plT x).length+3 by omega];simp
  rw [hl,ho,if_pos (by simp [plT]),show (zAs 5 :: zAi f :: zAx :: (plT x++[zAw over])).drop 3=plT x++[zAw over] from rfl,zPz hxo _ (by simp)];rfl
 ·subst hp;subst hx
  have hgn:=zLF hg;rcases e with rfl | rfl
  ·rw [if_neg (hl2 _),sD,if_neg (hv (by omega) (by omega) (by omega) (by omega) (by omega)),if_neg (hv (by omega) (by omega) (by omega) (by omega) (by omega)),if_neg (hv (by omega) (by omega) (by omega) (by omega) (by omega)),if_neg (hv (by omega) (by omega) (by omega) (by omega) (by omega)),if_neg (hv (by omega) (by omega) (by omega) (by omega) (by omega)),if_pos rfl,gG,hfn];simp only [if_neg (show ¬(6:Int)=4 by omega),if_neg (show ¬(6:Int)=3 by omega),if_neg (show ¬(6:Int)=5 by omega),if_true,frN];rw [show xa [zAs 6,zAi f,zAx,zAi g,zAw over] ([zAs 6,zAi f,zAx,zAi g,zAw over].length-1)=zAw over from rfl,ho,if_pos (by simp),show xa [zAs 6,zAi f,zAx,zAi g,zAw over] 3=zAi g from rfl,hgn];rfl
  ·rw [if_neg (hl2 _),sD,if_neg (hv (by omega) (by omega) (by omega) (by omega) (by omega)),if_neg (hv (by omega) (by omega) (by omega) (by omega) (by omega)),if_neg (hv (by omega) (by omega) (by omega) (by omega) (by omega)),if_neg (hv (by omega) (by omega) (by omega) (by omega) (by omega)),if_neg (hv (by omega) (by omega) (by omega) (by omega) (by omega)),if_neg (hv (by omega) (by omega) (by omega) (by omega) (by omega)),if_pos rfl,gG,hfn];simp only [if_neg (show ¬(7:Int)=4 by omega),if_neg (show ¬(7:Int)=3 by omega),if_neg (show ¬(7:Int)=5 by omega),if_neg (show ¬(7:Int)=6 by omega),if_true,frN];rw [show xa [zAs 7,zAi f,zDm,zAi g,zAw over] ([zAs 7,zAi f,zDm,zAi g,zAw over].length-1)=zAw over from rfl,ho,if_pos (by simp),show xa [zAs 7,zAi f,zDm,zAi g,zAw over] 3=zAi g from rfl,hgn];rfl
def plA (L:List Fg) (f:Int):Int:=(zAK L (fa AL (f-1).toNat):Int)
def zVP (L:List Fg) (s:Sg):Sg:=⟨plA L s.f,s.l,s.far,s.pc⟩
def zOr (L:List Fg) (x:Sp):Sp:=⟨zVP L x.s,x.over⟩
def zTb (L:List Fg) (o:Og):Og:=⟨o.kind,plA L o.f,if 0 < o.fr.f then zVP L o.fr else o.fr,o.path.map (zOr L),o.over⟩
def zRz (L:List Fg) (o:Og):Bool:=decide (0 < plA L o.f)&&(decide (¬0 < o.fr.f)||decide (0 < plA L o.fr.f))&&o.path.all fun x=>decide (0 < plA L x.s.f)
theorem zPC (L:List Fg) {f:Fg} (h:zAl f=true):plA L (zAK AL f:Int)=(zAK L f:Int):=by unfold plA;rw [zHi (zPy h)]
theorem zVQ (L:List Fg) {n:Nop} (h:okN n):zTb L (oOf AL n)=oOf L n∧zRz L (oOf AL n) = !zAB L n:=by
 obtain ⟨h1,h2,h3⟩:=h.all;have hpos:∀{f:Fg},decide (0 < (zAK L f:Int)) = !zAX L f:=fun {f}=>by
  unfold zAX;by_cases e:zAK L f=0
  ·rw [e];rfl
  ·rw [decide_eq_true (by omega:0 < (zAK L f:Int)),decide_eq_false e];rfl
 have hpm:((n.path.map (pOf AL)).map (zOr L))=n.path.map (pOf L):=by
  rw [List.map_map];refine List.map_congr_left fun x hx=>?_
  simp only [Function.comp,pOf,zOr,zVP,sOf,zPC L (h2 x hx)]
 have hpa:((n.path.map (pOf AL)).all fun x=>decide (0 < plA L x.s.f)) = !zAU L n.path:=by
  have key:∀Q:List (Nst×Bool),(∀y∈Q,zAl y.1.f=true)→((Q.map (pOf AL)).all fun x=>decide (0 < plA L x.s.f)) = !zAU L Q:=by
   intro Q
   induction Q with
   | nil=>intro _;rfl
   | cons y Q ih =>
    intro hQ;have h1:plA L (pOf AL y).s.f=(zAK L y.1.f:Int):=zPC L (hQ y (List.mem_cons_self ..));rw [List.map_cons,List.all_cons,ih (fun z hz=>hQ z (List.mem_cons_of_mem _ hz)),h1,hpos];unfold zAU;rw [List.any_cons,Bool.not_or]
  exact key _ h2
 have hf:=zPC L h1;obtain ⟨k,f,fr,path,over⟩:=n;simp only at hf hpm hpa h3;unfold zTb zRz oOf zAB;simp only [hf,hpm,hpa]
 cases fr with
 | none =>
  simp only [Option.map_none,Option.getD_none];refine ⟨by simp [s0],?_⟩;have hq:decide (¬0 < s0.f)=true:=by decide
  rw [hq,hpos]
  cases zAX L f<;>cases zAU L path<;>rfl
 | some x =>
  have hx:=h3 x rfl;have h0:=zPy hx;simp only [Option.map_some,Option.getD_some];have hlt:0 < (sOf AL x).f:=by simp only [sOf];omega
  refine ⟨by rw [if_pos hlt];simp [zVP,sOf,zPC L hx],?_⟩;have hq:decide (¬0 < (sOf AL x).f)=false:=decide_eq_false (fun e=>e hlt);have hr:decide (0 < plA L (sOf AL x).f) = !zAX L x.f:=by
   have e:plA L (sOf AL x).f=(zAK L x.f:Int):=zPC L hx;rw [e];exact hpos
  rw [hq,hr,hpos]
  cases zAX L f<;>cases zAU L path<;>cases zAX L x.f<;>rfl
noncomputable def okB (S:List UInt8):Bool:=zAg 126 (zKU S)&&decide (zBb AL (zKU S)=S)
theorem zVR {n:Nop} (h:okN n):okB (zCb n)=true:=by
 have hl:=zUk h;obtain ⟨h1,h2⟩:=zXg (L:=AL) h hl;unfold okB;rw [zTa h,←zKj h1,h2];rw [zKo] at h1;rw [h1];simp
theorem zVS {S:List UInt8} (h:okB S=true):∃n,okN n∧S=zCb n:=by
 unfold okB at h;simp only [Bool.and_eq_true,decide_eq_true_eq] at h;have h1:zAg AL.length (zKU S)=true:=by rw [zKo];exact h.1
 exact ⟨nOf AL (zKU S),(zXf zPx h1).1,by rw [zKj h1];exact h.2.symm⟩
theorem zUm (L:List Fg) {S:List UInt8} (h:okB S=false):zDe L S=6∧zEt L S=o0 :=
 zKn L fun n h1 h2=>by subst h2;rw [zVR h1] at h;cases h
theorem zRA (L:List Fg) {S:List UInt8} (h:okB S=true):zDe L S=(if zRz L (zKU S) then 0 else 8)∧zEt L S=(if zRz L (zKU S) then zTb L (zKU S) else o0):=by
 obtain ⟨n,h1,rfl⟩:=zVS h;obtain ⟨a,b⟩:=zEW L h1;obtain ⟨c,d⟩:=zVQ L h1;rw [zTa h1,a,b,c,d]
 cases zAB L n<;>exact ⟨rfl,rfl⟩
theorem zFH {fn:Func} {p u v:Tmp} {ty:TypeId} (h:fn.results=#[.cell p ty,.tmp u,.tmp v]) (tmps:Array Value) (P:Program) (w:World) :
  (results fn tmps).run P w =
   ((asAddr (tmps.getD p undef)).run P w).andThen fun a w₁=>((loadVar ty a).run P w₁).andThen fun x w₂=>.ok (.tuple #[x,tmps.getD u undef,tmps.getD v undef]) w₂:=by
 simp only [results,h];simp [Sem.run_bind,Result.andThen]
theorem zCR {P:Program} {fn:Func} {p u u2:Tmp} {ty:TypeId} {R:Ending→World→Prop} {a:Act} {w:World} {g:Nat} {t:TypeId} {cs:Array Value} {fr:Nat×Nat} {d:TypeDesc} {v v2:Value} (h:fn.results=#[.cell p ty,.tmp u,.tmp u2])
  (hp:a.tmps.getD p undef=.pointer (some ⟨g,0,none⟩)) (hv:a.tmps.getD u undef=v) (vF:a.tmps.getD u2 undef=v2) (hg:w.heap[g]? = some (.cells cs t fr)) (hu:P.underlying ty=some d) (hd:(match d with | .struct _ | .array _ _=>true | _=>false)=true) (hi:(P.info? ty).map (·.size)=some cs.size)
  (hdf:a.defers=[]) (hR:R (.returned (.tuple #[.agg cs,v,v2])) w):bodyPost P fn R .ret a w:=by
 refine bodyPost_ret ?_ hdf hR;rw [zFH h,hp,hv,vF];simp [asAddr,run_loadVar_row w g t ty cs fr d hg hu hd hi,Result.andThen]
def zDT (w0:World) (rb:Nat) (F:Fm) (s:RS) (S:List UInt8) (e:Ending) (w':World):Prop :=
 (match zFt S with
  | some (f,r)=>e=.returned (.tuple #[.int .i64 (zAK F.L f:Int),.string (bA r),.bool true])∧RX w' rb F ⟨s.T,s.bad,s.lost||zAX F.L f⟩
  | none=>e=.returned (.tuple #[.int .i64 0,.string (bA S),.bool false])∧RX w' rb F s)∧w0.grownBy w' (some rb)
theorem zMF {w:World} {rb:Nat} {F:Fm} {s:RS} (h:RX w rb F s) (S:List UInt8):Calls Tryz.prog 160 #[.pointer (some ⟨rb,0,none⟩),.string (bA S)] w (zDT w rb F s S):=by
 refine (zNx rb F.A F.n F.c F.L F.re F.lo s.T s.bad s.lost S w h.rd h.fr h.ne).mono ?_;rintro e w' ⟨h1,h2⟩;unfold zDT;refine ⟨?_,h2⟩
 cases hc:zFt S with
 | none =>
  rw [hc] at h1;exact ⟨h1.1,⟨h1.2,h.fr.keepR h2 h.ne,h.ne⟩⟩
 | some p =>
  rw [hc] at h1;exact ⟨h1.1,⟨h1.2,h.fr.keepR h2 h.ne,h.ne⟩⟩
theorem zGy {w0:World} {rb:Nat} {F:Fm} {s:RS} {S r:List UInt8} {f:Fg} {e:Ending} {w':World} (h:zDT w0 rb F s S e w') (hc:zFt S=some (f,r)) :
  e=.returned (.tuple #[.int .i64 (zAK F.L f:Int),.string (bA r),.bool true])∧RX w' rb F ⟨s.T,s.bad,s.lost||zAX F.L f⟩∧w0.grownBy w' (some rb):=by
 unfold zDT at h;rw [hc] at h;exact ⟨h.1.1,h.1.2,h.2⟩
theorem zGz {w0:World} {rb:Nat} {F:Fm} {s:RS} {S:List UInt8} {e:Ending} {w':World} (h:zDT w0 rb F s S e w') (hc:zFt S=none) :
  e=.returned (.tuple #[.int .i64 0,.string (bA S),.bool false])∧RX w' rb F s∧w0.grownBy w' (some rb):=by
 unfold zDT at h;rw [hc] at h;exact ⟨h.1.1,h.1.2,h.2⟩
def zBk (w0:World) (rb:Nat) (F:Fm) (s:RS) (S:List UInt8) (e:Ending) (w':World):Prop :=
 (match zAV S with
  | some (f,far,r)=>e=.returned (.tuple #[.agg #[.int .i64 (zAK F.L f:Int),.int .i64 0,.bool far,.int .i64 0],.string (bA r),.bool true])∧RX w' rb F ⟨s.T,s.bad,s.lost||zAX F.L f⟩
  | none=>e=.returned (.tuple #[.agg #[.int .i64 0,.int .i64 0,.bool false,.int .i64 0],.string (bA S),.bool false])∧∃l,RX w' rb F ⟨s.T,s.bad,l⟩)∧w0.grownBy w' (some rb)
theorem zFI {w0:World} {rb:Nat} {F:Fm} {s:RS} {S r:List UInt8} {f:Fg} {far:Bool} {e:Ending} {w':World} (h:zBk w0 rb F s S e w') (hc:zAV S=some (f,far,r)) :
  e=.returned (.tuple #[.agg #[.int .i64 (zAK F.L f:Int),.int .i64 0,.bool far,.int .i64 0],.string (bA r),.bool true])∧RX w' rb F ⟨s.T,s.bad,s.lost||zAX F.L f⟩∧w0.grownBy w' (some rb):=by
 unfold zBk at h;rw [hc] at h;exact ⟨h.1.1,h.1.2,h.2⟩
theorem zFJ {w0:World} {rb:Nat} {F:Fm} {s:RS} {S:List UInt8} {e:Ending} {w':World} (h:zBk w0 rb F s S e w') (hc:zAV S=none) :
  e=.returned (.tuple #[.agg #[.int .i64 0,.int .i64 0,.bool false,.int .i64 0],.string (bA S),.bool false])∧(∃l,RX w' rb F ⟨s.T,s.bad,l⟩)∧w0.grownBy w' (some rb):=by
 unfold zBk at h;rw [hc] at h;exact ⟨h.1.1,h.1.2,h.2⟩
theorem zVT (f:Int) (far:Bool) (w:World):(Instr.build 29 #[(0,.int .i64 f),(2,.bool far)]).run Tryz.prog w=.ok (.agg #[.int .i64 f,.int .i64 0,.bool far,.int .i64 0]) w:=run_build w _ _ _ (by kernel_rfl)
set_option maxHeartbeats 6400000 in
theorem zDE (rb:Nat) (F:Fm) (s:RS) (S:List UInt8) (w:World) (h:RX w rb F s) :
  Calls Tryz.prog 162 #[.pointer (some ⟨rb,0,none⟩),.string (bA S)] w (zBk w rb F s S):=by
 have hlt:=h.lt;have b1:Below w.heap.size w (w.alloc (.cells #[.int .i64 0,.int .i64 0,.bool false,.int .i64 0] 29)):=(Below.refl _ _).alloc (Nat.le_refl _) _;have k1:Blk (w.alloc (.cells #[.int .i64 0,.int .i64 0,.bool false,.int .i64 0] 29)) w.heap.size 29 #[.int .i64 0,.int .i64 0,.bool false,.int .i64 0]:=Blk.new _ _ _;have h1:=h.below b1;have g1:w.grownBy (w.alloc (.cells #[.int .i64 0,.int .i64 0,.bool false,.int .i64 0] 29)) (some rb):=zAz b1;have fP:=qH (fun wx (hx:RX wx rb F s)=>zMF hx S)
 have pg:=qH (fun (hn:zAV S=none) (e:Ending) (wx:World) (he:e=.returned (.tuple #[.agg #[.int .i64 0,.int .i64 0,.bool false,.int .i64 0],.string (bA S),.bool false])) (hx:∃l,RX wx rb F ⟨s.T,s.bad,l⟩) (hg:w.grownBy wx (some rb)) =>
  (show zBk w rb F s S e wx by unfold zBk;rw [hn];exact ⟨⟨he,hx⟩,hg⟩))
 have pe:=qH (fun (f:Fg) (far:Bool) (r:List UInt8) (hn:zAV S=some (f,far,r)) (e:Ending) (wx:World) (he:e=.returned (.tuple #[.agg #[.int .i64 (zAK F.L f:Int),.int .i64 0,.bool far,.int .i64 0],.string (bA r),.bool true])) (hx:RX wx rb F ⟨s.T,s.bad,s.lost||zAX F.L f⟩) (hg:w.grownBy wx (some rb)) =>
  (show zBk w rb F s S e wx by unfold zBk;rw [hn];exact ⟨⟨he,hx⟩,hg⟩))
 clear h b1;go_enter Tryz.func162,Tryz.ntmps162;go_wp2_with fail
 generalize w.alloc (.cells #[.int .i64 0,.int .i64 0,.bool false,.int .i64 0] 29)=X1 at k1 h1 g1 ⊢;refine (fP.out X1 h1).mono ?_;intro e X2 hc
 have key:∀(sx:RS) (wx:World),RX wx rb F sx→X1.grownBy wx (some rb)→∃(v:Unit),(wx.cell? ⟨w.heap.size,0,none⟩=some (.int .i64 0)∧wx.frozen? ⟨w.heap.size,0,none⟩=false∧wx.cell? ⟨w.heap.size,1,none⟩=some (.int .i64 0)∧wx.frozen? ⟨w.heap.size,1,none⟩=false∧wx.cell? ⟨w.heap.size,2,none⟩=some (.bool false)∧wx.frozen? ⟨w.heap.size,2,none⟩=false∧wx.cell? ⟨w.heap.size,3,none⟩=some (.int .i64 0)∧wx.frozen? ⟨w.heap.size,3,none⟩=false) ∧
   Hid (∀(u0 u1 u2 u3:Value),Blk ((((wx.setCell ⟨w.heap.size,0,none⟩ u0).setCell ⟨w.heap.size,1,none⟩ u1).setCell ⟨w.heap.size,2,none⟩ u2).setCell ⟨w.heap.size,3,none⟩ u3) w.heap.size 29 #[u0,u1,u2,u3] ∧
    RX ((((wx.setCell ⟨w.heap.size,0,none⟩ u0).setCell ⟨w.heap.size,1,none⟩ u1).setCell ⟨w.heap.size,2,none⟩ u2).setCell ⟨w.heap.size,3,none⟩ u3) rb F sx ∧
    w.grownBy ((((wx.setCell ⟨w.heap.size,0,none⟩ u0).setCell ⟨w.heap.size,1,none⟩ u1).setCell ⟨w.heap.size,2,none⟩ u2).setCell ⟨w.heap.size,3,none⟩ u3) (some rb)):=fun sx wx hx hg=>by
  have kx:=k1.grownO hg hlt;refine ⟨(),⟨(kx.cell 0).trans rfl,kx.frozen 0,(kx.cell 1).trans rfl,kx.frozen 1,(kx.cell 2).trans rfl,kx.frozen 2,(kx.cell 3).trans rfl,kx.frozen 3⟩,qH fun u0 u1 u2 u3=>⟨kx.store4 u0 u1 u2 u3,hx.over (zBY (Below.refl (rb+1) wx) (show rb+1≤w.heap.size from hlt) u0 u1 u2 u3),zAc (zAb g1 hg) (zBY (Below.refl w.heap.size wx) (Nat.le_refl w.heap.size) u0 u1 u2 u3)⟩⟩
 have vg:=qH key;clear key k1 h1 g1 fP
 cases hcf:zFt S with
 | none =>
  obtain ⟨rfl,hx,hg⟩:=zGz hc hcf;have HN:=qH (show zAV S=none by unfold zAV;rw [hcf]);obtain ⟨_,⟨c0,z0,c1,z1,c2,z2,c3,z3⟩,HK⟩:=vg.out s X2 hx hg;clear hc hcf hx hg vg pe;go_wp2_with fail
  exact zCR rfl rfl rfl rfl (HK.out _ _ _ _).1 Tryz.underlying29 rfl (by kernel_rfl) rfl (pg.out HN.out _ _ rfl ⟨_,(HK.out _ _ _ _).2.1⟩ (HK.out _ _ _ _).2.2)
 | some p =>
  obtain ⟨f,r⟩:=p;obtain ⟨rfl,hx,hg⟩:=zGy hc hcf;obtain ⟨_,⟨c0,z0,c1,z1,c2,z2,c3,z3⟩,HK⟩:=vg.out _ X2 hx hg;obtain ⟨ix,hix⟩:∃x,zAK F.L f=x:=⟨_,rfl⟩
  rw [hix];have qw:=qH hix;have n0:=zAn r [];clear hc hx hg vg hix
  cases r with
  | nil =>
   rw [show (([]:List UInt8)==[])=true from rfl] at n0;have HN:=qH (show zAV S=none by unfold zAV;rw [hcf]);clear hcf pe;go_wp2_with fail
   exact zCR rfl rfl rfl rfl (HK.out _ _ _ _).1 Tryz.underlying29 rfl (by kernel_rfl) rfl (pg.out HN.out _ _ rfl ⟨_,(HK.out _ _ _ _).2.1⟩ (HK.out _ _ _ _).2.2)
  | cons x r =>
   rw [show (x :: r==([]:List UInt8))=false from rfl] at n0;have t1:=zCJ x r;have t2:=zGt x r;by_cases h1:x=110
   ·have HS:=qH (show zAV S=some (f,false,r) by unfold zAV;rw [hcf];simp only;rw [if_pos h1]);subst h1;rw [show (((110:UInt8).toNat:Nat):Int)=110 from rfl] at t1;clear hcf pg;go_wp2_with fail
    go_region
    go_wp2_with fail
    exact zCR rfl rfl rfl rfl (HK.out _ _ _ _).1.drew Tryz.underlying29 rfl (by kernel_rfl) rfl (pe.out f false r HS.out _ _ (by first | (rw [qw.out];done) | (rw [qw.out];rfl)) ((HK.out _ _ _ _).2.1.below (Below.refl _ _).drew) (zBA (HK.out _ _ _ _).2.2))
   ·by_cases h2:x=102
    ·have HS:=qH (show zAV S=some (f,true,r) by unfold zAV;rw [hcf];simp only;rw [if_neg h1,if_pos h2]);subst h2;rw [show (((102:UInt8).toNat:Nat):Int)=102 from rfl] at t1;clear hcf pg h1;go_wp2_with fail
     go_region
     go_wp2_with fail
     exact zCR rfl rfl rfl rfl (HK.out _ _ _ _).1.drew Tryz.underlying29 rfl (by kernel_rfl) rfl (pe.out f true r HS.out _ _ (by first | (rw [qw.out];done) | (rw [qw.out];rfl)) ((HK.out _ _ _ _).2.1.below (Below.refl _ _).drew) (zBA (HK.out _ _ _ _).2.2))
    ·have k1:((x.toNat:Int) != 110)=true:=by
      simp only [bne_iff_ne,ne_eq];intro e;exact h1 (UInt8.toNat.inj (show x.toNat=110 by omega))
     have k2:((x.toNat:Int) != 102)=true:=by
      simp only [bne_iff_ne,ne_eq];intro e;exact h2 (UInt8.toNat.inj (show x.toNat=102 by omega))
     have HN:=qH (show zAV S=none by unfold zAV;rw [hcf];simp only;rw [if_neg h1,if_neg h2]);clear hcf pe h1 h2;go_wp2_with fail
     exact zCR rfl rfl rfl rfl (HK.out _ _ _ _).1 Tryz.underlying29 rfl (by kernel_rfl) rfl (pg.out HN.out _ _ rfl ⟨_,(HK.out _ _ _ _).2.1⟩ (HK.out _ _ _ _).2.2)
def zop:Og:=⟨0,0,s0,[],false⟩
def zBZ (w0:World) (rb:Nat) (F:Fm) (s:RS) (S:List UInt8) (e:Ending) (w':World):Prop :=
 (∃n,zAG S=some n∧∃B m d,e=.returned (opV (oOf F.L n) B m d)∧Row w' w0.heap.size 5 B m d ((oOf F.L n).path.flatMap zCa)∧m=(oOf F.L n).path.length∧RX w' rb F ⟨s.T,s.bad,s.lost||zAB F.L n⟩∧w0.grownBy w' (some rb))
 ∨ (zAG S=none∧e=.returned (opV zop none 0 0)∧(∃l,RX w' rb F ⟨s.T,true,l⟩)∧w0.grownBy w' (some rb))
abbrev opT:TypeId:=32
abbrev zC:Array Value:=#[.int .i64 0,.int .i64 0,.int .i64 0,.int .i64 0,.bool false,.int .i64 0,.slice none 0 0,.bool false]
def zPD (f:Fg) (P:Option (List (Nst×Bool)×Nst)):Option Nop:=match P with | some (Q,x)=>some ⟨3,f,some x,Q,false⟩ | none=>none
def zDF (n:Nop) (P:Option (Bool×List UInt8)):Option Nop:=match P with | some (b,[])=>some ⟨n.kind,n.f,n.fr,n.path,b⟩ | _=>none
def zRB (n:Nop) (r:List UInt8):Option Nop:=if r=[] then some n else none
def Sc0 (w:World) (rb a0:Nat) (F:Fm) (s:RS) (S:List UInt8) (X:World):Prop :=
 (∃lo,RX X rb F ⟨s.T,s.bad,lo⟩)∧Blk X a0 opT zC∧w.grownBy X (some rb)∧zAG S=none
def Sc1 (w:World) (rb a0 a1:Nat) (F:Fm) (s:RS) (S:List UInt8) (X:World) (r:List UInt8) (n:Nop) (k f ff:Int) (far:Bool):Prop :=
 RX X rb F ⟨s.T,s.bad,s.lost||zAB F.L n⟩∧Blk X a0 opT zC∧Blk X a1 opT #[.int .i64 k,.int .i64 f,.int .i64 ff,.int .i64 0,.bool far,.int .i64 0,.slice none 0 0,.bool false]∧w.grownBy X (some rb) ∧
  zAG S=zDF n (zCy r)∧n.path=[]∧∀b,oOf F.L ⟨n.kind,n.f,n.fr,n.path,b⟩=⟨k,f,⟨ff,0,far,0⟩,[],b⟩
def Sc2 (w:World) (rb a0 a1 a2:Nat) (F:Fm) (s:RS) (S:List UInt8) (X:World) (r:List UInt8) (f:Fg) (fi:Int) (P:List (Nst×Bool)) (Ps:List Sp) (B:Option Addr) (m d N:Nat) (x0 x1 x3:Int) (x2:Bool):Prop :=
 RX X rb F ⟨s.T,s.bad,s.lost||zAX F.L f||zAU F.L P⟩∧Blk X a0 opT zC∧Blk X a1 opT #[.int .i64 3,.int .i64 fi,.int .i64 0,.int .i64 0,.bool false,.int .i64 0,.slice B m d,.bool false] ∧
  Blk X a2 29 #[.int .i64 x0,.int .i64 x1,.bool x2,.int .i64 x3]∧w.grownBy X (some rb)∧Row X (a2+1) 5 B m d (Ps.flatMap zCa)∧m=Ps.length∧Ps=P.map (pOf F.L)∧fi=(zAK F.L f:Int) ∧
  m+r.length≤S.length∧r.length < N∧zAG S=zPD f (zFD N P r)
def Sc3 (w:World) (rb a0 a1:Nat) (F:Fm) (s:RS) (S:List UInt8) (X:World) (r:List UInt8) (n:Nop) (k f ff:Int) (far over:Bool) (path:List Sp) (B:Option Addr) (m d:Nat):Prop :=
 RX X rb F ⟨s.T,s.bad,s.lost||zAB F.L n⟩∧Blk X a0 opT zC∧Blk X a1 opT #[.int .i64 k,.int .i64 f,.int .i64 ff,.int .i64 0,.bool far,.int .i64 0,.slice B m d,.bool over]∧w.grownBy X (some rb) ∧
  Row X (a1+1) 5 B m d (path.flatMap zCa)∧m=path.length∧oOf F.L n=⟨k,f,⟨ff,0,far,0⟩,path,over⟩∧zAG S=zRB n r
def zCr (w:World) (rb a0 a1 a2:Nat) (F:Fm) (s:RS) (S:List UInt8) (l q:Nat) (X:World) (r:List UInt8):Prop :=
 (l=0∧q=1∧Sc0 w rb a0 F s S X)
 ∨ (l=1∧q=3∧∃n k f ff far,Sc1 w rb a0 a1 F s S X r n k f ff far)
 ∨ (l=2∧q=10+r.length∧∃f fi P Ps B m d N x0 x1 x3 x2,Sc2 w rb a0 a1 a2 F s S X r f fi P Ps B m d N x0 x1 x3 x2)
 ∨ (l=3∧q=2∧∃n k f ff far over path B m d,Sc3 w rb a0 a1 F s S X r n k f ff far over path B m d)
abbrev zKp (rb a0 a1 a2:Nat) (a:Act) (r:List UInt8):Prop :=
 a.tmps.size=136∧a.tmps.getD 0 undef=.pointer (some ⟨rb,0,none⟩)∧a.tmps.getD 1 undef=.string (bA r)∧a.tmps.getD 4 undef=.pointer (some ⟨a0,0,none⟩)∧a.tmps.getD 5 undef=.pointer (some ⟨a1,0,none⟩)∧a.tmps.getD 7 undef=.pointer (some ⟨a2,0,none⟩)∧a.defers=[]
theorem zEX (S:List UInt8):zGo S=match zCy S with | some (b,r)=>(b,r,true) | none=>(false,S,false):=by
 cases S with
 | nil=>rfl
 | cons x r =>
  by_cases h1:x=111
  ·simp [zGo,zCy,h1]
  ·by_cases h2:x=117
   ·simp [zGo,zCy,h2]
   ·simp [zGo,zCy,h1,h2]
theorem zRC (b:UInt8):Lib.indexByte [32,45,94,60,126,61,42,37,33] b=if b=32 then 0 else if zAH b=0 then -1 else zAH b:=by
 by_cases h0:b=32
 ·subst h0;decide
 rw [if_neg h0];by_cases h:zAH b=0
 ·rw [if_pos h];refine zOE fun hm=>?_
  simp only [List.mem_cons,List.not_mem_nil,or_false] at hm;rcases hm with rfl | rfl | rfl | rfl | rfl | rfl | rfl | rfl | rfl
  ·exact h0 rfl
  all_goals exact absurd h (by decide)
 ·rw [if_neg h];have hb:=(zDy h).2.2;obtain ⟨h1,h8,_⟩:=zDy h;have hk:zAH b=1∨zAH b=2∨zAH b=3∨zAH b=4∨zAH b=5∨zAH b=6∨zAH b=7∨zAH b=8:=by omega
  rcases hk with e | e | e | e | e | e | e | e<;>rw [e] at hb ⊢<;>(have hbb:_=b:=List.head_eq_of_cons_eq hb;rw [←hbb];decide)
theorem zJh (b:UInt8) (w:World):Calls Tryz.prog 161 #[.string ⟨#[32,45,94,60,126,61,42,37,33]⟩,.int .u8 b.toNat] w fun e w'=>e=.returned (.int .i64 (if b=32 then 0 else if zAH b=0 then -1 else zAH b))∧w'=w:=by
 refine (Tryz.strings_IndexByte ⟨#[32,45,94,60,126,61,42,37,33]⟩ b.toNat w).mono ?_;rintro e w' ⟨rfl,rfl⟩;refine ⟨?_,rfl⟩;rw [←zRC]
 congr 3
 simp
theorem zLG (S:List UInt8):zAG S=match zFt S with
 | some (f,b :: r)=>if zAH b=0 then none
  else if zAH b=4 then zDF ⟨4,f,none,[],false⟩ (zCy r)
  else if zAH b=3 then zPD f (zFD (r.length+1) [] r)
  else if zAH b=5 then (match zAV r with | some (g,far,r2)=>zDF ⟨5,f,some ⟨g,0,far,0⟩,[],false⟩ (zCy r2) | none=>none)
  else if zAH b=6∨zAH b=7 then (match zFt r with | some (g,r2)=>zDF ⟨zAH b,f,some ⟨g,0,false,0⟩,[],false⟩ (zCy r2) | none=>none)
  else zRB ⟨zAH b,f,none,[],false⟩ r
 | _=>none:=by
 unfold zAG
 cases zFt S with
 | none=>rfl
 | some p =>
  obtain ⟨f,q⟩:=p
  cases q with
  | nil=>rfl
  | cons b r =>
   simp only;by_cases e0:zAH b=0
   ·rw [if_neg (by omega),if_neg (by omega),if_neg (by omega),if_neg (by omega),if_pos e0,if_pos e0]
   rw [if_neg e0,if_neg e0];by_cases e4:zAH b=4
   ·rw [if_pos e4,if_pos e4];unfold zRq zDF;split<;>simp_all
   rw [if_neg e4,if_neg e4];by_cases e3:zAH b=3
   ·rw [if_pos e3,if_pos e3];rfl
   rw [if_neg e3,if_neg e3];by_cases e5:zAH b=5
   ·rw [if_pos e5,if_pos e5];unfold zRr zDF;split
    ·rename_i g far r2 h;rw [h];split<;>simp_all
    ·rename_i h;rw [h]
   rw [if_neg e5,if_neg e5];by_cases e6:zAH b=6∨zAH b=7
   ·rw [if_pos e6,if_pos e6];unfold zRs zDF;split
    ·rename_i g r2 h;rw [h];split<;>simp_all
    ·rename_i h;rw [h]
   rw [if_neg e6,if_neg e6];rfl
end Go.Proofs.YtlmdfmnbcndhoaaGreatDoor
