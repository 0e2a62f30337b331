/-
  Lemmas for NotesReads, part 21: contracts and plain facts. Conditions: those that each theorem names.
-/
import Derived.Test.YtlmdfmnbcndhoaaGreatDoorRd15
import Derived.Test.YtlmdfmnbcndhoaaGreatDoorRd20
import Derived.Test.YtlmdfmnbcndhoaaGreatDoorRd16
import Derived.Test.YtlmdfmnbcndhoaaGreatDoorRd17
namespace Go.Proofs.YtlmdfmnbcndhoaaGreatDoor
open Go.RowKit
def AL:List Fg:=(List.range 9).flatMap fun p:Nat=>(List.range 7).flatMap fun d:Nat=>[⟨(p:Int)+1,false,(d:Int)⟩,⟨(p:Int)+1,true,(d:Int)⟩]
theorem zJW:AL.length=126:=by decide +kernel
theorem zOU:GoodL AL:=by
 have h:(List.range 126).all (zCR AL)=true:=by decide +kernel
 intro i hi;rw [zJW] at hi;exact List.all_eq_true.1 h i (List.mem_range.2 hi)
theorem zVd {f:Fg} (h:zAm f=true):f∈AL:=by
 obtain ⟨h1,h2,h3,h4⟩:=zAt.1 h;obtain ⟨p,r,d⟩:=f;simp only at h1 h2 h3 h4;unfold AL;refine List.mem_flatMap.2 ⟨(p-1).toNat,List.mem_range.2 (by omega),List.mem_flatMap.2 ⟨d.toNat,List.mem_range.2 (by omega),?_⟩⟩;rw [show (((p-1).toNat:Nat):Int)+1=p by omega,show ((d.toNat:Nat):Int)=d by omega]
 cases r<;>simp
theorem zOV {f:Fg} (h:zAm f=true):zAJ AL f≠0:=fun e=>by
 obtain ⟨j,hj⟩:=List.getElem?_of_mem (zVd h);exact zJp e j hj
theorem zLj {f:Fg} (h:zAm f=true):zAW AL f=false:=by unfold zAW;simpa using zOV h
theorem okN.all {n:Nop} (h:okN n):zAm n.f=true∧(∀y∈n.path,zAm y.1.f=true)∧∀x,n.fr=some x→zAm x.f=true:=by
 refine ⟨h.1,?_,?_⟩
 ·intro y hy;rcases h.2 with ⟨_,_,h,_⟩ | ⟨_,_,h⟩ | ⟨_,_,h,_⟩ | ⟨_,_,h⟩ | ⟨_,_,h⟩
  ·rw [h] at hy;simp at hy
  ·rw [h] at hy;simp at hy
  ·exact (h y hy).1
  ·rw [h] at hy;simp at hy
  ·rw [h] at hy;simp at hy
 ·intro x hx;rcases h.2 with ⟨_,h,_⟩ | ⟨_,h,_⟩ | ⟨_,⟨y,h,hy⟩,_⟩ | ⟨_,⟨y,h,hy⟩,_⟩ | ⟨_,⟨g,h,hg⟩,_⟩
  ·rw [h] at hx;cases hx
  ·rw [h] at hx;cases hx
  ·rw [h] at hx;injection hx with hx;rw [←hx];exact hy.1
  ·rw [h] at hx;injection hx with hx;rw [←hx];exact hy.1
  ·rw [h] at hx;injection hx with hx;rw [←hx];exact hg
theorem zTC {n:Nop} (h:okN n):zAz AL n=false:=by
 obtain ⟨h1,h2,h3⟩:=h.all;unfold zAz;have hp:zAR AL n.path=false:=by
  unfold zAR;rw [List.any_eq_false];intro y hy;rw [zLj (h2 y hy)];simp
 rw [zLj h1,hp]
 cases hf:n.fr with
 | none=>rfl
 | some x=>simp only [zLj (h3 x hf)];rfl
noncomputable abbrev fnA (S:List UInt8):Nat:=zDh AL S
def zIQ (S:List UInt8):Int:=(zAr S).1
def loF (T:List (List UInt8)):Int×Nat:=if 4≤T.length∧xa T 2=zBM then (zIQ (xa T 3),4) else (0,2)
def piF (T:List (List UInt8)) (n:Nat):Int×Nat:=if n+2≤T.length∧xa T n=zAX then (zIQ (xa T (n+1)),n+2) else (0,n)
noncomputable def zFT (T:List (List UInt8)):Sg×Nat :=
 if T.length < 2∨(xa T 1≠zQD∧xa T 1≠zWb) then (s0,0)
 else (⟨fnA (xa T 0),(loF T).1,faT (xa T 1),(piF T (loF T).2).1⟩,(piF T (loF T).2).2)
def zEq:List (List UInt8)→List (List UInt8)
 | []=>[]
 | w :: r=>if w.getLast? = some 44 then [w.dropLast] else w :: zEq r
noncomputable def zGo:Nat→List Sp→List (List UInt8)→Option (List Sp×Sg)
 | 0,_,_=>none
 | n+1,P,T=>if T=[] then some (P,s0) else if xa T 0=zAw then some (P,(zFT T.tail).1)
  else if (zFT (zEq T.tail)).2=0 then none
  else zGo n (P++[⟨(zFT (zEq T.tail)).1,ovT (xa T 0)⟩]) (T.drop ((zFT (zEq T.tail)).2+1))
noncomputable def zNM (f:Int) (T:List (List UInt8)):Og:=match zGo (T.length+1) [] T with | some (P,s)=>⟨3,f,s,P,false⟩ | none=>o0
noncomputable def zIR (T:List (List UInt8)):Og :=
 if T.length < 2 then o0
 else if xa T 0=zAs 1 then ⟨1,fnA (xa T 1),s0,[],false⟩
 else if xa T 0=zAs 2 then ⟨2,fnA (xa T 1),s0,[],false⟩
 else if xa T 0=zAs 8 then ⟨8,fnA (xa T 1),s0,[],false⟩
 else if xa T 0=zAs 4 then ⟨4,fnA (xa T 1),s0,[],ovT (xa T (T.length-1))⟩
 else if xa T 0=zAs 5 then ⟨5,fnA (xa T 1),if 3 < T.length then (zFT (T.drop 3)).1 else s0,[],ovT (xa T (T.length-1))⟩
 else if xa T 0=zAs 6 then ⟨6,fnA (xa T 1),⟨if 3 < T.length then fnA (xa T 3) else 0,0,false,0⟩,[],ovT (xa T (T.length-1))⟩
 else if xa T 0=zAs 7 then ⟨7,fnA (xa T 1),⟨if 3 < T.length then fnA (xa T 3) else 0,0,false,0⟩,[],ovT (xa T (T.length-1))⟩
 else if xa T 0=zAs 3 then zNM (fnA (xa T 1)) (T.drop 2)
 else ⟨0,fnA (xa T 1),s0,[],ovT (xa T (T.length-1))⟩
noncomputable def zKy (S:List UInt8):Og:=zIR (zAV 32 S)
theorem zLk {f:Fg} (h:zAm f=true):fnA (zAh f)=zAJ AL f:=by unfold fnA zDh;rw [zCk h rfl]
theorem zGp {n:Int} (h0:n≠0) (h1:0≤n) (h2:n≤999999999):zIQ (Lib.itoa n)=n:=by unfold zIQ;rw [zFr (by omega) h2]
theorem zOW {x:Nst} (h:zBV x) (R:List (List UInt8)) (hR:R.length≤1):zFT (plT x++R)=(sOf AL x,(plT x).length):=by
 obtain ⟨h1,h2,h3,h4,h5⟩:=h;obtain ⟨f,l,far,pc⟩:=x;simp only at h1 h2 h3 h4 h5;have hR4:¬(4≤R.length+2):=by omega
 have hl0:zBM≠zAX:=by decide
 have hp0:zAX≠zBM:=by decide
 have hs:zBu far=zQD∨zBu far=zWb:=by cases far<;>simp [zBu]
 have hf:faT (zBu far)=far:=(zGU far).1;have hn:=zLk h1;unfold zFT loF piF plT sOf;by_cases e1:l=0<;>by_cases e2:pc=0
 ·subst e1;subst e2
  have q1:¬(R.length+1+1 < 2):=by omega
  have q2:¬(4≤R.length+1+1):=by omega
  have q3:¬(2+2≤R.length+1+1):=by omega
  simp only [zEG,if_true,List.append_nil,List.cons_append,List.nil_append,List.length_cons,List.length_nil,xa,List.getElem?_cons_zero,List.getElem?_cons_succ,Option.getD_some,q1,q2,false_or,false_and,if_false,hf,hn];rcases hs with e | e<;>simp [e]
 ·subst e1;have hi:=zGp e2 h4 h5;have q1:¬(R.length+1+1+1+1 < 2):=by omega
  have q2:4≤R.length+1+1+1+1:=by omega
  have q3:2+2≤R.length+1+1+1+1:=by omega
  simp only [zEG,if_true,if_neg e2,List.append_nil,List.cons_append,List.nil_append,List.length_cons,List.length_nil,xa,List.getElem?_cons_zero,List.getElem?_cons_succ,Option.getD_some,q1,q2,false_or,true_and,hp0,if_false,hf,hn,hi];rcases hs with e | e<;>simp [e]
 ·subst e2;have hi:=zGp e1 h2 h3;have q1:¬(R.length+1+1+1+1 < 2):=by omega
  have q2:4≤R.length+1+1+1+1:=by omega
  have q3:¬(4+2≤R.length+1+1+1+1):=by omega
  simp only [zEG,if_true,if_neg e1,List.append_nil,List.cons_append,List.nil_append,List.length_cons,List.length_nil,xa,List.getElem?_cons_zero,List.getElem?_cons_succ,Option.getD_some,q1,q2,q3,false_or,true_and,false_and,if_false,hf,hn,hi];rcases hs with e | e<;>simp [e]
 ·have hi:=zGp e1 h2 h3;have hj:=zGp e2 h4 h5;have q1:¬(R.length+1+1+1+1+1+1 < 2):=by omega
  have q2:4≤R.length+1+1+1+1+1+1:=by omega
  have q3:4+2≤R.length+1+1+1+1+1+1:=by omega
  simp only [zEG,if_true,if_neg e1,if_neg e2,List.cons_append,List.nil_append,List.length_cons,List.length_nil,xa,List.getElem?_cons_zero,List.getElem?_cons_succ,Option.getD_some,q1,q2,q3,false_or,true_and,hf,hn,hi,hj];rcases hs with e | e<;>simp [e]
theorem zOX:∀{A:List (List UInt8)} (R:List (List UInt8)),fineT A→A≠[]→zEq (tag A++R)=A
 | [],_,_,h=>absurd rfl h
 | [x],R,_,_=>by simp [tag,zEq]
 | x :: y :: r,R,h,_=>by
  have h2:fineT (y :: r):=fun S hS=>h S (List.mem_cons_of_mem _ hS)
  have hx:x.getLast?≠some 44:=fun e=>(h x (List.mem_cons_self ..)).no44 (List.mem_of_getLast? e)
  rw [tag,List.cons_append,zEq,if_neg hx,zOX R h2 (by simp)]
theorem zOY:∀A:List (List UInt8),(tag A).length=A.length
 | []=>rfl
 | [x]=>rfl
 | x :: y :: r=>by rw [tag,List.length_cons,zOY (y :: r)];rfl
theorem zVe (x:Nst):(plT x).length≠0:=by simp [plT]
theorem zSq {x:Nst} (hx:zBV x):∀(Q:List (Nst×Bool)) (n:Nat) (P:List Sp),Q.length < n→(∀y∈Q,zBV y.1) →
  zGo n P (Q.flatMap stW++zAw :: plT x)=some (P++Q.map (pOf AL),sOf AL x)
 | _,0,_,h,_=>absurd h (by omega)
 | [],n+1,P,_,_=>by
  have:=zOW hx [] (by simp);rw [List.append_nil] at this;rw [zGo,if_neg (by simp),if_pos (by rfl)];simp [this]
 | y :: Q,n+1,P,hn,hQ=>by
  have hy:=hQ y (List.mem_cons_self ..);have h1:=zOW hy [] (by simp);rw [List.append_nil] at h1;have hT:(y :: Q).flatMap stW++zAw :: plT x=zAv y.2 :: (tag (plT y.1)++(Q.flatMap stW++zAw :: plT x)):=by simp [stW]
  have hu:=zOX (Q.flatMap stW++zAw :: plT x) (zGR y.1) (zTp y.1);have h0:xa (zAv y.2 :: (tag (plT y.1)++(Q.flatMap stW++zAw :: plT x))) 0=zAv y.2:=rfl;have hof:zAv y.2≠zAw:=by cases y.2<;>decide
  have hd:(zAv y.2 :: (tag (plT y.1)++(Q.flatMap stW++zAw :: plT x))).drop ((plT y.1).length+1)=Q.flatMap stW++zAw :: plT x:=by
   rw [List.drop_succ_cons,←zOY,List.drop_left]
  rw [hT,zGo,if_neg (by simp),h0,if_neg hof,List.tail_cons,hu,h1];simp only;rw [if_neg (zVe y.1),hd,(zLa y.2).1,zSq hx Q n _ (by simp at hn;omega) (fun z hz=>hQ z (List.mem_cons_of_mem _ hz))];simp [pOf]
theorem zQS {a b:Int} (ha:1≤a) (ha8:a≤8) (hb:1≤b) (hb8:b≤8) (h:zAs a=zAs b):a=b:=by
 have h1:=zCm ha ha8;rw [h,zCm hb hb8] at h1;exact h1.symm
theorem zTD (Q:List (Nst×Bool)):Q.length≤(Q.flatMap stW).length:=by
 induction Q with
 | nil=>simp
 | cons x Q ih =>
  have:1≤(stW x).length:=by simp [stW]
  rw [List.flatMap_cons,List.length_append,List.length_cons];omega
theorem zSr {n:Nop} (h:okN n):zKy (zBY n)=oOf AL n:=by
 have hs:zAV 32 (zBY n)=zQE n:=by
  unfold zBY;exact zEF (by simp [zQE]) (zLY n)
 obtain ⟨hf,hk⟩:=h;have hfn:=zLk hf;unfold zKy;rw [hs];obtain ⟨k,f,fr,path,over⟩:=n;unfold zGP at hk;simp only at hf hk hfn;have ho:=(zLa over).1;have hx0:∀R,xa (zAs k :: zAh f :: R) 0=zAs k:=fun _=>rfl
 have hx1:∀R,xa (zAs k :: zAh f :: R) 1=zAh f:=fun _=>rfl
 have hl2:∀R,¬(zAs k :: zAh f :: R).length < 2:=fun R=>by simp
 have hv:∀{a:Int},1≤a→a≤8→1≤k→k≤8→a≠k→zAs k≠zAs a:=fun h1 h2 h3 h4 h5 e=>h5 (zQS h1 h2 h3 h4 e.symm)
 unfold zIR zQE tlW;simp only;rcases hk with ⟨e,h1,h2,h3⟩ | ⟨e,h1,h2⟩ | ⟨e,⟨x,hx,hxo⟩,hp,h3⟩ | ⟨e,⟨x,hx,hxo⟩,hp⟩ | ⟨e,⟨g,hx,hg⟩,hp⟩
 ·subst h1;subst h2;subst h3
  rcases e with rfl | rfl | rfl<;>simp only [if_neg (show ¬(1:Int)=4 by omega),if_neg (show ¬(1:Int)=3 by omega),if_neg (show ¬(1:Int)=5 by omega),if_neg (show ¬(1:Int)=6 by omega),if_neg (show ¬(1:Int)=7 by omega),
   if_neg (show ¬(2:Int)=4 by omega),if_neg (show ¬(2:Int)=3 by omega),if_neg (show ¬(2:Int)=5 by omega),if_neg (show ¬(2:Int)=6 by omega),if_neg (show ¬(2:Int)=7 by omega),
   if_neg (show ¬(8:Int)=4 by omega),if_neg (show ¬(8:Int)=3 by omega),if_neg (show ¬(8:Int)=5 by omega),if_neg (show ¬(8:Int)=6 by omega),if_neg (show ¬(8:Int)=7 by omega)]
  ·rw [if_neg (hl2 _),hx0,if_pos rfl,hx1,hfn];rfl
  ·rw [if_neg (hl2 _),hx0,if_neg (hv (by omega) (by omega) (by omega) (by omega) (by omega)),if_pos rfl,hx1,hfn];rfl
  ·rw [if_neg (hl2 _),hx0,if_neg (hv (by omega) (by omega) (by omega) (by omega) (by omega)),if_neg (hv (by omega) (by omega) (by omega) (by omega) (by omega)),if_pos rfl,hx1,hfn];rfl
 ·subst e;subst h1;subst h2
  rw [if_neg (hl2 _),hx0,if_neg (hv (by omega) (by omega) (by omega) (by omega) (by omega)),if_neg (hv (by omega) (by omega) (by omega) (by omega) (by omega)),if_neg (hv (by omega) (by omega) (by omega) (by omega) (by omega)),if_pos rfl,hx1,hfn];simp only [if_true];rw [show xa [zAs 4,zAh f,zAv over] ([zAs 4,zAh f,zAv over].length-1)=zAv over from rfl,ho];rfl
 ·subst e;subst h3;subst hx
  rw [if_neg (hl2 _),hx0,if_neg (hv (by omega) (by omega) (by omega) (by omega) (by omega)),if_neg (hv (by omega) (by omega) (by omega) (by omega) (by omega)),if_neg (hv (by omega) (by omega) (by omega) (by omega) (by omega)),if_neg (hv (by omega) (by omega) (by omega) (by omega) (by omega)),if_neg (hv (by omega) (by omega) (by omega) (by omega) (by omega)),if_neg (hv (by omega) (by omega) (by omega) (by omega) (by omega)),if_neg (hv (by omega) (by omega) (by omega) (by omega) (by omega)),if_pos rfl,hx1,hfn];simp only [if_neg (show ¬(3:Int)=4 by omega),if_true,List.drop_succ_cons,List.drop_zero,frT];unfold zNM;rw [zSq hxo path _ [] (by have:=zTD path;simp only [List.length_append,List.length_cons];omega) hp];rfl
 ·subst e;subst hp;subst hx
  rw [if_neg (hl2 _),hx0,if_neg (hv (by omega) (by omega) (by omega) (by omega) (by omega)),if_neg (hv (by omega) (by omega) (by omega) (by omega) (by omega)),if_neg (hv (by omega) (by omega) (by omega) (by omega) (by omega)),if_neg (hv (by omega) (by omega) (by omega) (by omega) (by omega)),if_pos rfl,hx1,hfn];simp only [if_neg (show ¬(5:Int)=4 by omega),if_neg (show ¬(5:Int)=3 by omega),if_true,frT];have hl:xa (zAs 5 :: zAh f :: zAw :: (plT x++[zAv over])) ((zAs 5 :: zAh f :: zAw :: (plT x++[zAv over])).length-1)=zAv over:=by
   simp only [xa,List.length_cons,List.length_append,List.length_nil];rw [show (plT x).length+(0+1)+1+1+1-1=(plT x).length+3 by omega];simp
  rw [hl,ho,if_pos (by simp [plT]),show (zAs 5 :: zAh f :: zAw :: (plT x++[zAv over])).drop 3=plT x++[zAv over] from rfl,zOW hxo _ (by simp)];rfl
 ·subst hp;subst hx
  have hgn:=zLk hg;rcases e with rfl | rfl
  ·rw [if_neg (hl2 _),hx0,if_neg (hv (by omega) (by omega) (by omega) (by omega) (by omega)),if_neg (hv (by omega) (by omega) (by omega) (by omega) (by omega)),if_neg (hv (by omega) (by omega) (by omega) (by omega) (by omega)),if_neg (hv (by omega) (by omega) (by omega) (by omega) (by omega)),if_neg (hv (by omega) (by omega) (by omega) (by omega) (by omega)),if_pos rfl,hx1,hfn];simp only [if_neg (show ¬(6:Int)=4 by omega),if_neg (show ¬(6:Int)=3 by omega),if_neg (show ¬(6:Int)=5 by omega),if_true,frN];rw [show xa [zAs 6,zAh f,zAw,zAh g,zAv over] ([zAs 6,zAh f,zAw,zAh g,zAv over].length-1)=zAv over from rfl,ho,if_pos (by simp),show xa [zAs 6,zAh f,zAw,zAh g,zAv over] 3=zAh g from rfl,hgn];rfl
  ·rw [if_neg (hl2 _),hx0,if_neg (hv (by omega) (by omega) (by omega) (by omega) (by omega)),if_neg (hv (by omega) (by omega) (by omega) (by omega) (by omega)),if_neg (hv (by omega) (by omega) (by omega) (by omega) (by omega)),if_neg (hv (by omega) (by omega) (by omega) (by omega) (by omega)),if_neg (hv (by omega) (by omega) (by omega) (by omega) (by omega)),if_neg (hv (by omega) (by omega) (by omega) (by omega) (by omega)),if_pos rfl,hx1,hfn];simp only [if_neg (show ¬(7:Int)=4 by omega),if_neg (show ¬(7:Int)=3 by omega),if_neg (show ¬(7:Int)=5 by omega),if_neg (show ¬(7:Int)=6 by omega),if_true,frN];rw [show xa [zAs 7,zAh f,zDk,zAh g,zAv over] ([zAs 7,zAh f,zDk,zAh g,zAv over].length-1)=zAv over from rfl,ho,if_pos (by simp),show xa [zAs 7,zAh f,zDk,zAh g,zAv over] 3=zAh g from rfl,hgn];rfl
def plA (L:List Fg) (f:Int):Int:=(zAJ L (fa AL (f-1).toNat):Int)
def zVf (L:List Fg) (s:Sg):Sg:=⟨plA L s.f,s.l,s.far,s.pc⟩
def zNN (L:List Fg) (x:Sp):Sp:=⟨zVf L x.s,x.over⟩
def zSs (L:List Fg) (o:Og):Og:=⟨o.kind,plA L o.f,if 0 < o.fr.f then zVf L o.fr else o.fr,o.path.map (zNN L),o.over⟩
def zQT (L:List Fg) (o:Og):Bool:=decide (0 < plA L o.f)&&(decide (¬0 < o.fr.f)||decide (0 < plA L o.fr.f))&&o.path.all fun x=>decide (0 < plA L x.s.f)
theorem zOZ (L:List Fg) {f:Fg} (h:zAm f=true):plA L (zAJ AL f:Int)=(zAJ L f:Int):=by unfold plA;rw [zHa (zOV h)]
theorem zVg (L:List Fg) {n:Nop} (h:okN n):zSs L (oOf AL n)=oOf L n∧zQT L (oOf AL n) = !zAz L n:=by
 obtain ⟨h1,h2,h3⟩:=h.all;have hpos:∀{f:Fg},decide (0 < (zAJ L f:Int)) = !zAW L f:=fun {f}=>by
  unfold zAW;by_cases e:zAJ L f=0
  ·rw [e];rfl
  ·rw [decide_eq_true (by omega:0 < (zAJ L f:Int)),decide_eq_false e];rfl
 have hpm:((n.path.map (pOf AL)).map (zNN L))=n.path.map (pOf L):=by
  rw [List.map_map];refine List.map_congr_left fun x hx=>?_
  simp only [Function.comp,pOf,zNN,zVf,sOf,zOZ L (h2 x hx)]
 have hpa:((n.path.map (pOf AL)).all fun x=>decide (0 < plA L x.s.f)) = !zAR L n.path:=by
  have key:∀Q:List (Nst×Bool),(∀y∈Q,zAm y.1.f=true)→((Q.map (pOf AL)).all fun x=>decide (0 < plA L x.s.f)) = !zAR L Q:=by
   intro Q
   induction Q with
   | nil=>intro _;rfl
   | cons y Q ih =>
    intro hQ;have h1:plA L (pOf AL y).s.f=(zAJ L y.1.f:Int):=zOZ L (hQ y (List.mem_cons_self ..));rw [List.map_cons,List.all_cons,ih (fun z hz=>hQ z (List.mem_cons_of_mem _ hz)),h1,hpos];unfold zAR;rw [List.any_cons,Bool.not_or]
  exact key _ h2
 have hf:=zOZ L h1;obtain ⟨k,f,fr,path,over⟩:=n;simp only at hf hpm hpa h3;unfold zSs zQT oOf zAz;simp only [hf,hpm,hpa]
 cases fr with
 | none =>
  simp only [Option.map_none,Option.getD_none];refine ⟨by simp [s0],?_⟩;have hq:decide (¬0 < s0.f)=true:=by decide
  rw [hq,hpos]
  cases zAW L f<;>cases zAR L path<;>rfl
 | some x =>
  have hx:=h3 x rfl;have h0:=zOV hx;simp only [Option.map_some,Option.getD_some];have hlt:0 < (sOf AL x).f:=by simp only [sOf];omega
  refine ⟨by rw [if_pos hlt];simp [zVf,sOf,zOZ L hx],?_⟩;have hq:decide (¬0 < (sOf AL x).f)=false:=decide_eq_false (fun e=>e hlt);have hr:decide (0 < plA L (sOf AL x).f) = !zAW L x.f:=by
   have e:plA L (sOf AL x).f=(zAJ L x.f:Int):=zOZ L hx;rw [e];exact hpos
  rw [hq,hr,hpos]
  cases zAW L f<;>cases zAR L path<;>cases zAW L x.f<;>rfl
noncomputable def okB (S:List UInt8):Bool:=zAi 126 (zKy S)&&decide (zBk AL (zKy S)=S)
theorem zVh {n:Nop} (h:okN n):okB (zBY n)=true:=by
 have hl:=zTC h;obtain ⟨h1,h2⟩:=zWt (L:=AL) h hl;unfold okB;rw [zSr h,←zJR h1,h2];rw [zJW] at h1;rw [h1];simp
theorem zVi {S:List UInt8} (h:okB S=true):∃n,okN n∧S=zBY n:=by
 unfold okB at h;simp only [Bool.and_eq_true,decide_eq_true_eq] at h;have h1:zAi AL.length (zKy S)=true:=by rw [zJW];exact h.1
 exact ⟨nOf AL (zKy S),(zWs zOU h1).1,by rw [zJR h1];exact h.2.symm⟩
theorem zTE (L:List Fg) {S:List UInt8} (h:okB S=false):zDP L S=6∧zFS L S=o0 :=
 zJV L fun n h1 h2=>by subst h2;rw [zVh h1] at h;cases h
theorem zQU (L:List Fg) {S:List UInt8} (h:okB S=true):zDP L S=(if zQT L (zKy S) then 0 else 8)∧zFS L S=(if zQT L (zKy S) then zSs L (zKy S) else o0):=by
 obtain ⟨n,h1,rfl⟩:=zVi h;obtain ⟨a,b⟩:=zEQ L h1;obtain ⟨c,d⟩:=zVg L h1;rw [zSr h1,a,b,c,d]
 cases zAz L n<;>exact ⟨rfl,rfl⟩
theorem zFx {fn:Func} {p u v:Tmp} {ty:TypeId} (h:fn.results=#[.cell p ty,.tmp u,.tmp v]) (tmps:Array Value) (P:Program) (w:World) :
  (results fn tmps).run P w =
   ((asAddr (tmps.getD p undef)).run P w).andThen fun a w₁=>((loadVar ty a).run P w₁).andThen fun x w₂=>.ok (.tuple #[x,tmps.getD u undef,tmps.getD v undef]) w₂:=by
 simp only [results,h];simp [Sem.run_bind,Result.andThen]
theorem zCN {P:Program} {fn:Func} {p u u2:Tmp} {ty:TypeId} {R:Ending→World→Prop} {a:Act} {w:World} {g:Nat} {t:TypeId} {cs:Array Value} {fr:Nat×Nat} {d:TypeDesc} {v v2:Value} (h:fn.results=#[.cell p ty,.tmp u,.tmp u2])
  (hp:a.tmps.getD p undef=.pointer (some ⟨g,0,none⟩)) (hv:a.tmps.getD u undef=v) (hv2:a.tmps.getD u2 undef=v2) (hg:w.heap[g]? = some (.cells cs t fr)) (hu:P.underlying ty=some d) (hd:(match d with | .struct _ | .array _ _=>true | _=>false)=true) (hi:(P.info? ty).map (·.size)=some cs.size)
  (hdf:a.defers=[]) (hR:R (.returned (.tuple #[.agg cs,v,v2])) w):bodyPost P fn R .ret a w:=by
 refine bodyPost_ret ?_ hdf hR;rw [zFx h,hp,hv,hv2];simp [asAddr,run_loadVar_row w g t ty cs fr d hg hu hd hi,Result.andThen]
def zDQ (w0:World) (rb:Nat) (F:Fm) (s:RS) (S:List UInt8) (e:Ending) (w':World):Prop :=
 (match zFj S with
  | some (f,r)=>e=.returned (.tuple #[.int .i64 (zAJ F.L f:Int),.string (bA r),.bool true])∧RX w' rb F ⟨s.T,s.bad,s.lost||zAW F.L f⟩
  | none=>e=.returned (.tuple #[.int .i64 0,.string (bA S),.bool false])∧RX w' rb F s)∧w0.grownBy w' (some rb)
theorem zMe {w:World} {rb:Nat} {F:Fm} {s:RS} (h:RX w rb F s) (S:List UInt8):Calls Tryz.prog 160 #[.pointer (some ⟨rb,0,none⟩),.string (bA S)] w (zDQ w rb F s S):=by
 refine (zMV rb F.A F.n F.c F.L F.re F.lo s.T s.bad s.lost S w h.rd h.fr h.ne).mono ?_;rintro e w' ⟨h1,h2⟩;unfold zDQ;refine ⟨?_,h2⟩
 cases hc:zFj S with
 | none =>
  rw [hc] at h1;exact ⟨h1.1,⟨h1.2,h.fr.keepR h2 h.ne,h.ne⟩⟩
 | some p =>
  rw [hc] at h1;exact ⟨h1.1,⟨h1.2,h.fr.keepR h2 h.ne,h.ne⟩⟩
theorem zGq {w0:World} {rb:Nat} {F:Fm} {s:RS} {S r:List UInt8} {f:Fg} {e:Ending} {w':World} (h:zDQ w0 rb F s S e w') (hc:zFj S=some (f,r)) :
  e=.returned (.tuple #[.int .i64 (zAJ F.L f:Int),.string (bA r),.bool true])∧RX w' rb F ⟨s.T,s.bad,s.lost||zAW F.L f⟩∧w0.grownBy w' (some rb):=by
 unfold zDQ at h;rw [hc] at h;exact ⟨h.1.1,h.1.2,h.2⟩
theorem zGr {w0:World} {rb:Nat} {F:Fm} {s:RS} {S:List UInt8} {e:Ending} {w':World} (h:zDQ w0 rb F s S e w') (hc:zFj S=none) :
  e=.returned (.tuple #[.int .i64 0,.string (bA S),.bool false])∧RX w' rb F s∧w0.grownBy w' (some rb):=by
 unfold zDQ at h;rw [hc] at h;exact ⟨h.1.1,h.1.2,h.2⟩
def zBi (w0:World) (rb:Nat) (F:Fm) (s:RS) (S:List UInt8) (e:Ending) (w':World):Prop :=
 (match zAT S with
  | some (f,far,r)=>e=.returned (.tuple #[.agg #[.int .i64 (zAJ F.L f:Int),.int .i64 0,.bool far,.int .i64 0],.string (bA r),.bool true])∧RX w' rb F ⟨s.T,s.bad,s.lost||zAW F.L f⟩
  | none=>e=.returned (.tuple #[.agg #[.int .i64 0,.int .i64 0,.bool false,.int .i64 0],.string (bA S),.bool false])∧∃l,RX w' rb F ⟨s.T,s.bad,l⟩)∧w0.grownBy w' (some rb)
theorem zFy {w0:World} {rb:Nat} {F:Fm} {s:RS} {S r:List UInt8} {f:Fg} {far:Bool} {e:Ending} {w':World} (h:zBi w0 rb F s S e w') (hc:zAT S=some (f,far,r)) :
  e=.returned (.tuple #[.agg #[.int .i64 (zAJ F.L f:Int),.int .i64 0,.bool far,.int .i64 0],.string (bA r),.bool true])∧RX w' rb F ⟨s.T,s.bad,s.lost||zAW F.L f⟩∧w0.grownBy w' (some rb):=by
 unfold zBi at h;rw [hc] at h;exact ⟨h.1.1,h.1.2,h.2⟩
theorem zFz {w0:World} {rb:Nat} {F:Fm} {s:RS} {S:List UInt8} {e:Ending} {w':World} (h:zBi w0 rb F s S e w') (hc:zAT S=none) :
  e=.returned (.tuple #[.agg #[.int .i64 0,.int .i64 0,.bool false,.int .i64 0],.string (bA S),.bool false])∧(∃l,RX w' rb F ⟨s.T,s.bad,l⟩)∧w0.grownBy w' (some rb):=by
 unfold zBi at h;rw [hc] at h;exact ⟨h.1.1,h.1.2,h.2⟩
theorem zVj (f:Int) (far:Bool) (w:World):(Instr.build 29 #[(0,.int .i64 f),(2,.bool far)]).run Tryz.prog w=.ok (.agg #[.int .i64 f,.int .i64 0,.bool far,.int .i64 0]) w:=run_build w _ _ _ (by kernel_rfl)
set_option maxHeartbeats 6400000 in
theorem zDD (rb:Nat) (F:Fm) (s:RS) (S:List UInt8) (w:World) (h:RX w rb F s) :
  Calls Tryz.prog 162 #[.pointer (some ⟨rb,0,none⟩),.string (bA S)] w (zBi w rb F s S):=by
 have hlt:=h.lt;have b1:Below w.heap.size w (w.alloc (.cells #[.int .i64 0,.int .i64 0,.bool false,.int .i64 0] 29)):=(Below.refl _ _).alloc (Nat.le_refl _) _;have k1:Blk (w.alloc (.cells #[.int .i64 0,.int .i64 0,.bool false,.int .i64 0] 29)) w.heap.size 29 #[.int .i64 0,.int .i64 0,.bool false,.int .i64 0]:=Blk.new _ _ _;have h1:=h.below b1;have g1:w.grownBy (w.alloc (.cells #[.int .i64 0,.int .i64 0,.bool false,.int .i64 0] 29)) (some rb):=zAx b1;have HCU:=qH (fun wx (hx:RX wx rb F s)=>zMe hx S)
 have NONE:=qH (fun (hn:zAT S=none) (e:Ending) (wx:World) (he:e=.returned (.tuple #[.agg #[.int .i64 0,.int .i64 0,.bool false,.int .i64 0],.string (bA S),.bool false])) (hx:∃l,RX wx rb F ⟨s.T,s.bad,l⟩) (hg:w.grownBy wx (some rb)) =>
  (show zBi w rb F s S e wx by unfold zBi;rw [hn];exact ⟨⟨he,hx⟩,hg⟩))
 have SOME:=qH (fun (f:Fg) (far:Bool) (r:List UInt8) (hn:zAT S=some (f,far,r)) (e:Ending) (wx:World) (he:e=.returned (.tuple #[.agg #[.int .i64 (zAJ F.L f:Int),.int .i64 0,.bool far,.int .i64 0],.string (bA r),.bool true])) (hx:RX wx rb F ⟨s.T,s.bad,s.lost||zAW F.L f⟩) (hg:w.grownBy wx (some rb)) =>
  (show zBi w rb F s S e wx by unfold zBi;rw [hn];exact ⟨⟨he,hx⟩,hg⟩))
 clear h b1;go_enter Tryz.func162,Tryz.ntmps162;go_wp2_with fail
 generalize w.alloc (.cells #[.int .i64 0,.int .i64 0,.bool false,.int .i64 0] 29)=X1 at k1 h1 g1 ⊢;refine (HCU.out X1 h1).mono ?_;intro e X2 hc
 have key:∀(sx:RS) (wx:World),RX wx rb F sx→X1.grownBy wx (some rb)→∃(v:Unit),(wx.cell? ⟨w.heap.size,0,none⟩=some (.int .i64 0)∧wx.frozen? ⟨w.heap.size,0,none⟩=false∧wx.cell? ⟨w.heap.size,1,none⟩=some (.int .i64 0)∧wx.frozen? ⟨w.heap.size,1,none⟩=false∧wx.cell? ⟨w.heap.size,2,none⟩=some (.bool false)∧wx.frozen? ⟨w.heap.size,2,none⟩=false∧wx.cell? ⟨w.heap.size,3,none⟩=some (.int .i64 0)∧wx.frozen? ⟨w.heap.size,3,none⟩=false) ∧
   Hid (∀(u0 u1 u2 u3:Value),Blk ((((wx.setCell ⟨w.heap.size,0,none⟩ u0).setCell ⟨w.heap.size,1,none⟩ u1).setCell ⟨w.heap.size,2,none⟩ u2).setCell ⟨w.heap.size,3,none⟩ u3) w.heap.size 29 #[u0,u1,u2,u3] ∧
    RX ((((wx.setCell ⟨w.heap.size,0,none⟩ u0).setCell ⟨w.heap.size,1,none⟩ u1).setCell ⟨w.heap.size,2,none⟩ u2).setCell ⟨w.heap.size,3,none⟩ u3) rb F sx ∧
    w.grownBy ((((wx.setCell ⟨w.heap.size,0,none⟩ u0).setCell ⟨w.heap.size,1,none⟩ u1).setCell ⟨w.heap.size,2,none⟩ u2).setCell ⟨w.heap.size,3,none⟩ u3) (some rb)):=fun sx wx hx hg=>by
  have kx:=k1.grownO hg hlt;refine ⟨(),⟨(kx.cell 0).trans rfl,kx.frozen 0,(kx.cell 1).trans rfl,kx.frozen 1,(kx.cell 2).trans rfl,kx.frozen 2,(kx.cell 3).trans rfl,kx.frozen 3⟩,qH fun u0 u1 u2 u3=>⟨kx.store4 u0 u1 u2 u3,hx.over (zBW (Below.refl (rb+1) wx) (show rb+1≤w.heap.size from hlt) u0 u1 u2 u3),zAd (zAb g1 hg) (zBW (Below.refl w.heap.size wx) (Nat.le_refl w.heap.size) u0 u1 u2 u3)⟩⟩
 have KEY:=qH key;clear key k1 h1 g1 HCU
 cases hcf:zFj S with
 | none =>
  obtain ⟨rfl,hx,hg⟩:=zGr hc hcf;have HN:=qH (show zAT S=none by unfold zAT;rw [hcf]);obtain ⟨_,⟨c0,z0,c1,z1,c2,z2,c3,z3⟩,HK⟩:=KEY.out s X2 hx hg;clear hc hcf hx hg KEY SOME;go_wp2_with fail
  exact zCN rfl rfl rfl rfl (HK.out _ _ _ _).1 Tryz.underlying29 rfl (by kernel_rfl) rfl (NONE.out HN.out _ _ rfl ⟨_,(HK.out _ _ _ _).2.1⟩ (HK.out _ _ _ _).2.2)
 | some p =>
  obtain ⟨f,r⟩:=p;obtain ⟨rfl,hx,hg⟩:=zGq hc hcf;obtain ⟨_,⟨c0,z0,c1,z1,c2,z2,c3,z3⟩,HK⟩:=KEY.out _ X2 hx hg;obtain ⟨ix,hix⟩:∃x,zAJ F.L f=x:=⟨_,rfl⟩
  rw [hix];have HIX:=qH hix;have n0:=zAo r [];clear hc hx hg KEY hix
  cases r with
  | nil =>
   rw [show (([]:List UInt8)==[])=true from rfl] at n0;have HN:=qH (show zAT S=none by unfold zAT;rw [hcf]);clear hcf SOME;go_wp2_with fail
   exact zCN rfl rfl rfl rfl (HK.out _ _ _ _).1 Tryz.underlying29 rfl (by kernel_rfl) rfl (NONE.out HN.out _ _ rfl ⟨_,(HK.out _ _ _ _).2.1⟩ (HK.out _ _ _ _).2.2)
  | cons x r =>
   rw [show (x :: r==([]:List UInt8))=false from rfl] at n0;have t1:=zCE x r;have t2:=zGk x r;by_cases h1:x=110
   ·have HS:=qH (show zAT S=some (f,false,r) by unfold zAT;rw [hcf];simp only;rw [if_pos h1]);subst h1;rw [show (((110:UInt8).toNat:Nat):Int)=110 from rfl] at t1;clear hcf NONE;go_wp2_with fail
    go_region
    go_wp2_with fail
    exact zCN rfl rfl rfl rfl (HK.out _ _ _ _).1.drew Tryz.underlying29 rfl (by kernel_rfl) rfl (SOME.out f false r HS.out _ _ (by first | (rw [HIX.out];done) | (rw [HIX.out];rfl)) ((HK.out _ _ _ _).2.1.below (Below.refl _ _).drew) (zBx (HK.out _ _ _ _).2.2))
   ·by_cases h2:x=102
    ·have HS:=qH (show zAT S=some (f,true,r) by unfold zAT;rw [hcf];simp only;rw [if_neg h1,if_pos h2]);subst h2;rw [show (((102:UInt8).toNat:Nat):Int)=102 from rfl] at t1;clear hcf NONE h1;go_wp2_with fail
     go_region
     go_wp2_with fail
     exact zCN rfl rfl rfl rfl (HK.out _ _ _ _).1.drew Tryz.underlying29 rfl (by kernel_rfl) rfl (SOME.out f true r HS.out _ _ (by first | (rw [HIX.out];done) | (rw [HIX.out];rfl)) ((HK.out _ _ _ _).2.1.below (Below.refl _ _).drew) (zBx (HK.out _ _ _ _).2.2))
    ·have k1:((x.toNat:Int) != 110)=true:=by
      simp only [bne_iff_ne,ne_eq];intro e;exact h1 (UInt8.toNat.inj (show x.toNat=110 by omega))
     have k2:((x.toNat:Int) != 102)=true:=by
      simp only [bne_iff_ne,ne_eq];intro e;exact h2 (UInt8.toNat.inj (show x.toNat=102 by omega))
     have HN:=qH (show zAT S=none by unfold zAT;rw [hcf];simp only;rw [if_neg h1,if_neg h2]);clear hcf SOME h1 h2;go_wp2_with fail
     exact zCN rfl rfl rfl rfl (HK.out _ _ _ _).1 Tryz.underlying29 rfl (by kernel_rfl) rfl (NONE.out HN.out _ _ rfl ⟨_,(HK.out _ _ _ _).2.1⟩ (HK.out _ _ _ _).2.2)
def zop:Og:=⟨0,0,s0,[],false⟩
def zBX (w0:World) (rb:Nat) (F:Fm) (s:RS) (S:List UInt8) (e:Ending) (w':World):Prop :=
 (∃n,zAF S=some n∧∃B m d,e=.returned (opV (oOf F.L n) B m d)∧Row w' w0.heap.size 5 B m d ((oOf F.L n).path.flatMap zBZ)∧m=(oOf F.L n).path.length∧RX w' rb F ⟨s.T,s.bad,s.lost||zAz F.L n⟩∧w0.grownBy w' (some rb))
 ∨ (zAF S=none∧e=.returned (opV zop none 0 0)∧(∃l,RX w' rb F ⟨s.T,true,l⟩)∧w0.grownBy w' (some rb))
abbrev opT:TypeId:=32
abbrev zC:Array Value:=#[.int .i64 0,.int .i64 0,.int .i64 0,.int .i64 0,.bool false,.int .i64 0,.slice none 0 0,.bool false]
def zPa (f:Fg) (P:Option (List (Nst×Bool)×Nst)):Option Nop:=match P with | some (Q,x)=>some ⟨3,f,some x,Q,false⟩ | none=>none
def zDE (n:Nop) (P:Option (Bool×List UInt8)):Option Nop:=match P with | some (b,[])=>some ⟨n.kind,n.f,n.fr,n.path,b⟩ | _=>none
def zQV (n:Nop) (r:List UInt8):Option Nop:=if r=[] then some n else none
def Sc0 (w:World) (rb a0:Nat) (F:Fm) (s:RS) (S:List UInt8) (X:World):Prop :=
 (∃lo,RX X rb F ⟨s.T,s.bad,lo⟩)∧Blk X a0 opT zC∧w.grownBy X (some rb)∧zAF S=none
def Sc1 (w:World) (rb a0 a1:Nat) (F:Fm) (s:RS) (S:List UInt8) (X:World) (r:List UInt8) (n:Nop) (k f ff:Int) (far:Bool):Prop :=
 RX X rb F ⟨s.T,s.bad,s.lost||zAz F.L n⟩∧Blk X a0 opT zC∧Blk X a1 opT #[.int .i64 k,.int .i64 f,.int .i64 ff,.int .i64 0,.bool far,.int .i64 0,.slice none 0 0,.bool false]∧w.grownBy X (some rb) ∧
  zAF S=zDE n (zCv r)∧n.path=[]∧∀b,oOf F.L ⟨n.kind,n.f,n.fr,n.path,b⟩=⟨k,f,⟨ff,0,far,0⟩,[],b⟩
def Sc2 (w:World) (rb a0 a1 a2:Nat) (F:Fm) (s:RS) (S:List UInt8) (X:World) (r:List UInt8) (f:Fg) (fi:Int) (P:List (Nst×Bool)) (Ps:List Sp) (B:Option Addr) (m d N:Nat) (x0 x1 x3:Int) (x2:Bool):Prop :=
 RX X rb F ⟨s.T,s.bad,s.lost||zAW F.L f||zAR F.L P⟩∧Blk X a0 opT zC∧Blk X a1 opT #[.int .i64 3,.int .i64 fi,.int .i64 0,.int .i64 0,.bool false,.int .i64 0,.slice B m d,.bool false] ∧
  Blk X a2 29 #[.int .i64 x0,.int .i64 x1,.bool x2,.int .i64 x3]∧w.grownBy X (some rb)∧Row X (a2+1) 5 B m d (Ps.flatMap zBZ)∧m=Ps.length∧Ps=P.map (pOf F.L)∧fi=(zAJ F.L f:Int) ∧
  m+r.length≤S.length∧r.length < N∧zAF S=zPa f (zFs N P r)
def Sc3 (w:World) (rb a0 a1:Nat) (F:Fm) (s:RS) (S:List UInt8) (X:World) (r:List UInt8) (n:Nop) (k f ff:Int) (far over:Bool) (path:List Sp) (B:Option Addr) (m d:Nat):Prop :=
 RX X rb F ⟨s.T,s.bad,s.lost||zAz F.L n⟩∧Blk X a0 opT zC∧Blk X a1 opT #[.int .i64 k,.int .i64 f,.int .i64 ff,.int .i64 0,.bool far,.int .i64 0,.slice B m d,.bool over]∧w.grownBy X (some rb) ∧
  Row X (a1+1) 5 B m d (path.flatMap zBZ)∧m=path.length∧oOf F.L n=⟨k,f,⟨ff,0,far,0⟩,path,over⟩∧zAF S=zQV n r
def zCp (w:World) (rb a0 a1 a2:Nat) (F:Fm) (s:RS) (S:List UInt8) (l q:Nat) (X:World) (r:List UInt8):Prop :=
 (l=0∧q=1∧Sc0 w rb a0 F s S X)
 ∨ (l=1∧q=3∧∃n k f ff far,Sc1 w rb a0 a1 F s S X r n k f ff far)
 ∨ (l=2∧q=10+r.length∧∃f fi P Ps B m d N x0 x1 x3 x2,Sc2 w rb a0 a1 a2 F s S X r f fi P Ps B m d N x0 x1 x3 x2)
 ∨ (l=3∧q=2∧∃n k f ff far over path B m d,Sc3 w rb a0 a1 F s S X r n k f ff far over path B m d)
abbrev zJX (rb a0 a1 a2:Nat) (a:Act) (r:List UInt8):Prop :=
 a.tmps.size=136∧a.tmps.getD 0 undef=.pointer (some ⟨rb,0,none⟩)∧a.tmps.getD 1 undef=.string (bA r)∧a.tmps.getD 4 undef=.pointer (some ⟨a0,0,none⟩)∧a.tmps.getD 5 undef=.pointer (some ⟨a1,0,none⟩)∧a.tmps.getD 7 undef=.pointer (some ⟨a2,0,none⟩)∧a.defers=[]
theorem zER (S:List UInt8):zGf S=match zCv S with | some (b,r)=>(b,r,true) | none=>(false,S,false):=by
 cases S with
 | nil=>rfl
 | cons x r =>
  by_cases h1:x=111
  ·simp [zGf,zCv,h1]
  ·by_cases h2:x=117
   ·simp [zGf,zCv,h2]
   ·simp [zGf,zCv,h1,h2]
theorem zQW (b:UInt8):Lib.indexByte [32,45,94,60,126,61,42,37,33] b=if b=32 then 0 else if zAG b=0 then -1 else zAG b:=by
 by_cases h0:b=32
 ·subst h0;decide
 rw [if_neg h0];by_cases h:zAG b=0
 ·rw [if_pos h];refine zOa fun hm=>?_
  simp only [List.mem_cons,List.not_mem_nil,or_false] at hm;rcases hm with rfl | rfl | rfl | rfl | rfl | rfl | rfl | rfl | rfl
  ·exact h0 rfl
  all_goals exact absurd h (by decide)
 ·rw [if_neg h];have hb:=(zDx h).2.2;obtain ⟨h1,h8,_⟩:=zDx h;have hk:zAG b=1∨zAG b=2∨zAG b=3∨zAG b=4∨zAG b=5∨zAG b=6∨zAG b=7∨zAG b=8:=by omega
  rcases hk with e | e | e | e | e | e | e | e<;>rw [e] at hb ⊢<;>(have hbb:_=b:=List.head_eq_of_cons_eq hb;rw [←hbb];decide)
theorem zIS (b:UInt8) (w:World):Calls Tryz.prog 161 #[.string ⟨#[32,45,94,60,126,61,42,37,33]⟩,.int .u8 b.toNat] w fun e w'=>e=.returned (.int .i64 (if b=32 then 0 else if zAG b=0 then -1 else zAG b))∧w'=w:=by
 refine (Tryz.strings_IndexByte ⟨#[32,45,94,60,126,61,42,37,33]⟩ b.toNat w).mono ?_;rintro e w' ⟨rfl,rfl⟩;refine ⟨?_,rfl⟩;rw [←zQW]
 congr 3
 simp
theorem zLl (S:List UInt8):zAF S=match zFj S with
 | some (f,b :: r)=>if zAG b=0 then none
  else if zAG b=4 then zDE ⟨4,f,none,[],false⟩ (zCv r)
  else if zAG b=3 then zPa f (zFs (r.length+1) [] r)
  else if zAG b=5 then (match zAT r with | some (g,far,r2)=>zDE ⟨5,f,some ⟨g,0,far,0⟩,[],false⟩ (zCv r2) | none=>none)
  else if zAG b=6∨zAG b=7 then (match zFj r with | some (g,r2)=>zDE ⟨zAG b,f,some ⟨g,0,false,0⟩,[],false⟩ (zCv r2) | none=>none)
  else zQV ⟨zAG b,f,none,[],false⟩ r
 | _=>none:=by
 unfold zAF
 cases zFj S with
 | none=>rfl
 | some p =>
  obtain ⟨f,q⟩:=p
  cases q with
  | nil=>rfl
  | cons b r =>
   simp only;by_cases e0:zAG b=0
   ·rw [if_neg (by omega),if_neg (by omega),if_neg (by omega),if_neg (by omega),if_pos e0,if_pos e0]
   rw [if_neg e0,if_neg e0];by_cases e4:zAG b=4
   ·rw [if_pos e4,if_pos e4];unfold zQK zDE;split<;>simp_all
   rw [if_neg e4,if_neg e4];by_cases e3:zAG b=3
   ·rw [if_pos e3,if_pos e3];rfl
   rw [if_neg e3,if_neg e3];by_cases e5:zAG b=5
   ·rw [if_pos e5,if_pos e5];unfold zQL zDE;split
    ·rename_i g far r2 h;rw [h];split<;>simp_all
    ·rename_i h;rw [h]
   rw [if_neg e5,if_neg e5];by_cases e6:zAG b=6∨zAG b=7
   ·rw [if_pos e6,if_pos e6];unfold zQM zDE;split
    ·rename_i g r2 h;rw [h];split<;>simp_all
    ·rename_i h;rw [h]
   rw [if_neg e6,if_neg e6];rfl
end Go.Proofs.YtlmdfmnbcndhoaaGreatDoor
