/-
  Lemmas, part 15. Conditions: each theorem's own.
-/
import Derived.Test.YtlmdfmnbcndhoaaGreatDoorRq14
open Option renaming none→U,some→Z
open Bool renaming false→E,true→Q
namespace Go.Proofs.YtlmdfmnbcndhoaaGreatDoor
open Go.RowKit
def zAY (S:List UInt8):List (List UInt8):=if S.getLast? = Z 44 then [S.dropLast,[44]] else [S]
def zBE (S:List UInt8):List (List UInt8):=(zBx 32 S).flatMap zAY
theorem zDc {S:List UInt8} (h:(44:UInt8) ∉ S):zAY S=[S]:=by
 unfold zAY;rw [if_neg (fun e=>h (List.mem_of_getLast? e))]
theorem zII (S:List UInt8):zAY (S++[44])=[S,[44]]:=by simp [zAY]
theorem zBq (S:List UInt8):(zAY S=[S]∧S.getLast?≠Z 44)∨∃C,S=C++[44]∧zAY S=[C,[44]]:=by
 by_cases h:S.getLast? = Z 44
 ·obtain ⟨C,rfl⟩:=List.getLast?_eq_some_iff.1 h;exact .inr ⟨C,rfl,zII C⟩
 ·exact .inl ⟨by simp [zAY,h],h⟩
def zCJ:Bool→List (List UInt8)→Bool
 | _,[]=>Q
 | b,x :: r=>if x=[44] then b&&zCJ E r else zCJ Q r
theorem zPN (b:Bool) (x:List UInt8) (R:List (List UInt8)):zCJ b (x :: [44] :: [44] :: R)=E:=by
 by_cases h:x=[44]
 ·simp [zCJ,h]
 ·simp [zCJ,h]
theorem zPO:∀{ws R:List (List UInt8)},ws.flatMap zAY=[44] :: R→∃ZS,R=[44] :: ZS
 | [],R,h=>by simp at h
 | w :: ws,R,h=>by
  rw [List.flatMap_cons] at h;rcases zBq w with ⟨e,hl⟩ | ⟨C,rfl,e⟩
  ·rw [e] at h;simp only [List.cons_append,List.nil_append,List.cons.injEq] at h;exact absurd (by rw [h.1];rfl) hl
  ·rw [e] at h;simp only [List.cons_append,List.nil_append,List.cons.injEq] at h;exact ⟨_,h.2.symm⟩
theorem zPP {w:List UInt8} (h:w.getLast?≠Z 44):w≠[44]:=fun e=>h (by rw [e];rfl)
theorem zPQ:∀{us:List (List UInt8)},zCJ Q (us.flatMap zAY)=Q→zCJ E (us.flatMap zAY)=Q
 | [],_=>rfl
 | u :: us,h=>by
  rw [List.flatMap_cons] at h ⊢;rcases zBq u with ⟨e,hl⟩ | ⟨C,rfl,e⟩
  ·rw [e] at h ⊢;simp only [List.cons_append,List.nil_append,zCJ,if_neg (zPP hl)] at h ⊢;exact h
  ·rw [e] at h ⊢;simp only [List.cons_append,List.nil_append] at h ⊢;by_cases hC:C=[44]
   ·subst hC;simp [zCJ] at h
   ·simp only [zCJ,if_neg hC] at h ⊢;exact h
theorem zHJ:∀{ws us:List (List UInt8)},ws.flatMap zAY=us.flatMap zAY→zCJ E (us.flatMap zAY)=Q→ws=us
 | [],[],_,_=>rfl
 | [],u :: us,h,_=>by
  rw [List.flatMap_cons] at h;rcases zBq u with ⟨e,_⟩ | ⟨C,_,e⟩<;>rw [e] at h<;>simp at h
 | w :: ws,[],h,_=>by
  rw [List.flatMap_cons] at h;rcases zBq w with ⟨e,_⟩ | ⟨C,_,e⟩<;>rw [e] at h<;>simp at h
 | w :: ws,u :: us,h,hc=>by
  rw [List.flatMap_cons,List.flatMap_cons] at h;rw [List.flatMap_cons] at hc;rcases zBq w with ⟨e1,l1⟩ | ⟨C,rfl,e1⟩<;>rcases zBq u with ⟨e2,l2⟩ | ⟨ZZ,rfl,e2⟩<;>rw [e2] at hc<;>rw [e1,e2] at h<;>simp only [List.cons_append,List.nil_append,List.cons.injEq] at h hc
  ·obtain ⟨rfl,h⟩:=h;simp only [zCJ,if_neg (zPP l1)] at hc;rw [zHJ h (zPQ hc)]
  ·obtain ⟨_,h⟩:=h;obtain ⟨ZS,hQ⟩:=zPO h;rw [hQ,zPN] at hc
   cases hc
  ·obtain ⟨_,h⟩:=h;obtain ⟨ZS,hQ⟩:=zPO h.symm;rw [←h,hQ,zPN] at hc
   cases hc
  ·obtain ⟨rfl,_,h⟩:=h;by_cases hC:C=[44]
   ·subst hC;simp [zCJ] at hc
   ·simp only [zCJ,if_neg hC] at hc;rw [zHJ h (by simpa using hc)]
def fineW (S:List UInt8):Prop:=∀b∈S,b≠32∧b≠44∧b≠10
def fineT (T:List (List UInt8)):Prop:=∀S∈T,fineW S
theorem fineW.no44 {S:List UInt8} (h:fineW S):(44:UInt8) ∉ S:=fun e=>(h _ e).2.1 rfl
theorem fineW.no32 {S:List UInt8} (h:fineW S):(32:UInt8) ∉ S:=fun e=>(h _ e).1 rfl
theorem fineW.ne {S:List UInt8} (h:fineW S):S≠[44]:=fun e=>h.no44 (by rw [e];simp)
theorem fineT.app {A B:List (List UInt8)} (h:fineT A) (k:fineT B):fineT (A++B):=fun S hS=>by
 rcases List.mem_append.1 hS with e | e
 ·exact h S e
 ·exact k S e
theorem fineT.cons {S:List UInt8} {B:List (List UInt8)} (h:fineW S) (k:fineT B):fineT (S :: B):=fun x hx=>by
 rcases List.mem_cons.1 hx with rfl | e
 ·exact h
 ·exact k x e
theorem fineT.nil:fineT []:=fun S h=>by simp at h
theorem zHK {A:List (List UInt8)} (R:List (List UInt8)) (h:fineT A) (hA:A≠[]) (b:Bool):zCJ b (A++R)=zCJ Q R:=by
 induction A generalizing b with
 | nil=>exact absurd rfl hA
 | cons x A ih =>
  have hx:=(h x (List.mem_cons_self ..)).ne;rw [List.cons_append,zCJ,if_neg hx]
  cases A with
  | nil=>rfl
  | cons y A=>exact ih (fun S hS=>h S (List.mem_cons_of_mem _ hS)) (by simp) Q
def tag:List (List UInt8)→List (List UInt8)
 | []=>[]
 | [x]=>[x++[44]]
 | x :: y :: r=>x :: tag (y :: r)
theorem zMY:∀{A:List (List UInt8)},fineT A→A≠[]→(tag A).flatMap zAY=A++[[44]]
 | [],_,h=>absurd rfl h
 | [x],_,_=>by simp [tag,zII]
 | x :: y :: r,h,_=>by
  have h2:fineT (y :: r):=fun S hS=>h S (List.mem_cons_of_mem _ hS)
  rw [tag,List.flatMap_cons,zMY h2 (by simp),zDc (h x (List.mem_cons_self ..)).no44];rfl
theorem zMZ:∀{A:List (List UInt8)},fineT A→∀p∈tag A,(32:UInt8) ∉ p
 | [],_,p,hp=>by simp [tag] at hp
 | [x],h,p,hp=>by
  simp only [tag,List.mem_singleton] at hp;subst hp;intro e;rcases List.mem_append.1 e with e | e
  ·exact (h x (List.mem_cons_self ..)).no32 e
  ·simp at e
 | x :: y :: r,h,p,hp=>by
  rw [tag] at hp;rcases List.mem_cons.1 hp with rfl | e
  ·exact (h p (List.mem_cons_self ..)).no32
  ·exact zMZ (A:=y :: r) (fun S hS=>h S (List.mem_cons_of_mem _ hS)) p e
structure Nst where
 f:Fg
 l:Int
 far:Bool
 pc:Int
structure Nop where
 kind:Int
 f:Fg
 fr:Option Nst
 path:List (Nst×Bool)
 over:Bool
def zCR (x:Nst):Prop:=zAx x.f=Q∧0≤x.l∧x.l≤999999999∧0≤x.pc∧x.pc≤999999999
def zKF (n:Nop):Prop :=
 (n.kind=1∨n.kind=2∨n.kind=8)∧n.fr=U∧n.path=[]∧n.over=E
 ∨ n.kind=4∧n.fr=U∧n.path=[]
 ∨ n.kind=3∧(∃x,n.fr=Z x∧zCR x)∧(∀y∈n.path,zCR y.1)∧n.over=E
 ∨ n.kind=5∧(∃x,n.fr=Z x∧zCR x)∧n.path=[]
 ∨ (n.kind=6∨n.kind=7)∧(∃f,n.fr=Z ⟨f,0,E,0⟩∧zAx f=Q)∧n.path=[]
def okN (n:Nop):Prop:=zAx n.f=Q∧zKF n
def sOf (L:List Fg) (x:Nst):Sg:=⟨zBa L x.f,x.l,x.far,x.pc⟩
def pOf (L:List Fg) (x:Nst×Bool):Sp:=⟨sOf L x.1,x.2⟩
def oOf (L:List Fg) (n:Nop):Og:=⟨n.kind,zBa L n.f,(n.fr.map (sOf L)).getD s0,n.path.map (pOf L),n.over⟩
def zBF (L:List Fg) (f:Fg):Bool:=decide (zBa L f=0)
def zBK (L:List Fg) (P:List (Nst×Bool)):Bool:=P.any fun x=>zBF L x.1.f
def zAG (L:List Fg) (n:Nop):Bool:=zBF L n.f||zBK L n.path||(match n.fr with | some x=>zBF L x.f | none=>E)
abbrev zAT:List UInt8:=[102,114,111,109]
abbrev zER:List UInt8:=[119,105,116,104]
abbrev zDd:List UInt8:=[108,111,111,112]
abbrev zCa:List UInt8:=[112,105,101,99,101]
abbrev zWc:List UInt8:=[110,101,97,114]
abbrev farW:List UInt8:=[102,97,114]
def zHc (ZR:List UInt8) (n:Int):List (List UInt8):=if n=0 then [] else [ZR,Lib.itoa n]
def plT (x:Nst):List (List UInt8):=[zAq x.f,zCB x.far]++zHc zDd x.l++zHc zCa x.pc
def stT (x:Nst×Bool):List (List UInt8):=zBd x.2 :: (plT x.1++[[44]])
def stW (x:Nst×Bool):List (List UInt8):=zBd x.2 :: tag (plT x.1)
def frT (n:Nop):List (List UInt8):=match n.fr with | some x=>plT x | none=>[]
def frN (n:Nop):List UInt8:=match n.fr with | some x=>zAq x.f | none=>[]
def tlT (n:Nop):List (List UInt8) :=
 if n.kind=4 then [zBd n.over]
 else if n.kind=3 then n.path.flatMap stT++zAT :: frT n
 else if n.kind=5 then zAT :: (frT n++[zBd n.over])
 else if n.kind=6 then [zAT,frN n,zBd n.over]
 else if n.kind=7 then [zER,frN n,zBd n.over]
 else []
def tlW (n:Nop):List (List UInt8) :=
 if n.kind=4 then [zBd n.over]
 else if n.kind=3 then n.path.flatMap stW++zAT :: frT n
 else if n.kind=5 then zAT :: (frT n++[zBd n.over])
 else if n.kind=6 then [zAT,frN n,zBd n.over]
 else if n.kind=7 then [zER,frN n,zBd n.over]
 else []
def zJu (n:Nop):List (List UInt8):=zBk n.kind :: zAq n.f :: tlT n
def zWd (n:Nop):List (List UInt8):=zBk n.kind :: zAq n.f :: tlW n
def zDG (n:Nop):List UInt8:=Lib.join (zWd n) [32]
theorem zCp {S:List UInt8} (h:(S.all fun b=>b != 32&&b != 44&&b != 10)=Q):fineW S:=fun b hb=>by
 have:=(List.all_eq_true.1 h) b hb;simpa [and_assoc] using this
theorem zDe (b:Bool):fineW (zBd b):=by cases b<;>exact zCp (by decide)
theorem zPR (b:Bool):fineW (zCB b):=by cases b<;>exact zCp (by decide)
theorem zFs (n:Int):fineW (Lib.itoa n):=fun b hb=>by
 have:=zMP b hb;refine ⟨?_,?_,?_⟩<;>(rintro rfl;simp at this)
theorem zDf (f:Fg):fineW (zAq f):=fun b hb=>by
 unfold zAq at hb;rcases List.mem_append.1 hb with h | h
 ·split at h
  ·simp at h
  ·exact zFs _ b h
 ·rcases List.mem_cons.1 h with h | h
  ·subst h;split<;>decide
  ·exact zFs _ b h
theorem zHL (k:Int):fineW (zBk k):=by
 unfold zBk
 repeat (split;· exact zCp (by decide))
 exact zCp (by decide)
theorem zNa {ZR:List UInt8} (h:fineW ZR) (n:Int):fineT (zHc ZR n):=by
 unfold zHc;split
 ·exact .nil
 ·exact .cons h (.cons (zFs n) .nil)
theorem zJv (x:Nst):fineT (plT x) :=
 ((fineT.cons (zDf _) (.cons (zPR _) .nil)).app (zNa (zCp (by decide)) _)).app (zNa (zCp (by decide)) _)
theorem zXz (x:Nst):plT x≠[]:=by simp [plT]
theorem zLT (n:Nop):fineT (frT n):=by
 unfold frT;split
 ·exact zJv _
 ·exact .nil
theorem zJw (n:Nop):fineW (frN n):=by
 unfold frN;split
 ·exact zDf _
 ·exact zCp (by decide)
theorem zRL (x:Nst×Bool):(stW x).flatMap zAY=stT x:=by
 rw [stW,List.flatMap_cons,zMY (zJv _) (zXz _),zDc (zDe _).no44];rfl
theorem zDV {A:List (List UInt8)} (h:fineT A):A.flatMap zAY=A:=by
 induction A with
 | nil=>rfl
 | cons x A ih =>
  rw [List.flatMap_cons,ih (fun S hS=>h S (List.mem_cons_of_mem _ hS)),zDc (h x (List.mem_cons_self ..)).no44];rfl
theorem zPS (P:List (Nst×Bool)):(P.flatMap stW).flatMap zAY=P.flatMap stT:=by
 induction P with
 | nil=>rfl
 | cons x P ih=>rw [List.flatMap_cons,List.flatMap_append,ih,zRL,List.flatMap_cons]
theorem zBU:fineW zAT:=zCp (by decide)
theorem zHM:fineW zER:=zCp (by decide)
theorem zUm (n:Nop):(tlW n).flatMap zAY=tlT n:=by
 have hf:=zLT n;have hn:=zJw n;have ho:=zDe n.over;unfold tlW tlT;split
 ·exact zDV (.cons ho .nil)
 split
 ·rw [List.flatMap_append,zPS,zDV (.cons zBU hf)]
 split
 ·exact zDV (.cons zBU (hf.app (.cons ho .nil)))
 split
 ·exact zDV (.cons zBU (.cons hn (.cons ho .nil)))
 split
 ·exact zDV (.cons zHM (.cons hn (.cons ho .nil)))
 ·rfl
theorem zJx (n:Nop):(zWd n).flatMap zAY=zJu n:=by
 rw [zWd,List.flatMap_cons,List.flatMap_cons,zUm,zDc (zHL _).no44,zDc (zDf _).no44];rfl
theorem zPT (P:List (Nst×Bool)) (b:Bool) (R:List (List UInt8)) (h:∀b,zCJ b R=Q):zCJ b (P.flatMap stT++R)=Q:=by
 induction P generalizing b with
 | nil=>exact h b
 | cons x P ih =>
  have e:(x :: P).flatMap stT++R=(zBd x.2 :: plT x.1)++([44] :: (P.flatMap stT++R)):=by simp [stT]
  rw [e,zHK _ (.cons (zDe _) (zJv _)) (by simp),zCJ,if_pos rfl,ih];rfl
theorem zFt {A:List (List UInt8)} (h:fineT A) (hA:A≠[]) (b:Bool):zCJ b A=Q:=by
 have:=zHK [] h hA b;rw [List.append_nil] at this;rw [this];rfl
theorem zRM (n:Nop):zCJ E (zJu n)=Q:=by
 have hf:=zLT n;have hn:=zJw n;have ho:=zDe n.over;have h2:fineT [zBk n.kind,zAq n.f]:=.cons (zHL _) (.cons (zDf _) .nil);rw [zJu,show zBk n.kind :: zAq n.f :: tlT n=[zBk n.kind,zAq n.f]++tlT n from rfl,zHK _ h2 (by simp)];unfold tlT;split
 ·exact zFt (.cons ho .nil) (by simp) _
 split
 ·exact zPT _ _ _ fun b=>zFt (.cons zBU hf) (by simp) b
 split
 ·exact zFt (.cons zBU (hf.app (.cons ho .nil))) (by simp) _
 split
 ·exact zFt (.cons zBU (.cons hn (.cons ho .nil))) (by simp) _
 split
 ·exact zFt (.cons zHM (.cons hn (.cons ho .nil))) (by simp) _
 ·rfl
theorem zPU (P:List (Nst×Bool)):∀p∈P.flatMap stW,(32:UInt8) ∉ p:=fun p hp=>by
 obtain ⟨x,_,h⟩:=List.mem_flatMap.1 hp;rcases List.mem_cons.1 h with rfl | h
 ·exact (zDe _).no32
 ·exact zMZ (zJv _) p h
theorem zDW {A:List (List UInt8)} (h:fineT A):∀p∈A,(32:UInt8) ∉ p:=fun p hp=>(h p hp).no32
theorem zRN (n:Nop):∀p∈zWd n,(32:UInt8) ∉ p:=by
 have hf:=zLT n;have hn:=zJw n;have ho:=zDe n.over;have ht:∀p∈tlW n,(32:UInt8) ∉ p:=by
  unfold tlW;split
  ·exact zDW (.cons ho .nil)
  split
  ·intro p hp;rcases List.mem_append.1 hp with h | h
   ·exact zPU _ p h
   ·exact zDW (.cons zBU hf) p h
  split
  ·exact zDW (.cons zBU (hf.app (.cons ho .nil)))
  split
  ·exact zDW (.cons zBU (.cons hn (.cons ho .nil)))
  split
  ·exact zDW (.cons zHM (.cons hn (.cons ho .nil)))
  ·intro p hp;simp at hp
 intro p hp;rcases List.mem_cons.1 hp with rfl | hp
 ·exact (zHL _).no32
 ·rcases List.mem_cons.1 hp with rfl | hp
  ·exact (zDf _).no32
  ·exact ht p hp
theorem zEq (n:Nop):zBE (zDG n)=zJu n:=by
 unfold zBE zDG;rw [zHH (by simp [zWd]) (zRN n),zJx]
theorem zJy {S:List UInt8} {n:Nop} (h:zBE S=zJu n):S=zDG n:=by
 unfold zBE at h;rw [←zJx] at h;have:=zHJ h (by rw [zJx];exact zRM n);unfold zDG;rw [←this,zKE]
end Go.Proofs.YtlmdfmnbcndhoaaGreatDoor
