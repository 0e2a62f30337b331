/-
  Lemmas for NotesLong, part 14: contracts and plain facts. Conditions: those that each theorem names.
-/
import Derived.Test.YtlmdfmnbcndhoaaGreatDoorLg13
namespace Go.Proofs.YtlmdfmnbcndhoaaGreatDoor
open Go.RowKit
def zAZ (S:List UInt8):List (List UInt8):=if S.getLast? = some 44 then [S.dropLast,[44]] else [S]
def zBD (S:List UInt8):List (List UInt8):=(zBo 32 S).flatMap zAZ
theorem zDd {S:List UInt8} (h:(44:UInt8) ∉ S):zAZ S=[S]:=by
 unfold zAZ;rw [if_neg (fun e=>h (List.mem_of_getLast? e))]
theorem zIF (S:List UInt8):zAZ (S++[44])=[S,[44]]:=by simp [zAZ]
theorem zBr (S:List UInt8):(zAZ S=[S]∧S.getLast?≠some 44)∨∃C,S=C++[44]∧zAZ S=[C,[44]]:=by
 by_cases h:S.getLast? = some 44
 ·obtain ⟨C,rfl⟩:=List.getLast?_eq_some_iff.1 h;exact .inr ⟨C,rfl,zIF C⟩
 ·exact .inl ⟨by simp [zAZ,h],h⟩
def zCK:Bool→List (List UInt8)→Bool
 | _,[]=>true
 | b,x :: r=>if x=[44] then b&&zCK false r else zCK true r
theorem zPj (b:Bool) (x:List UInt8) (R:List (List UInt8)):zCK b (x :: [44] :: [44] :: R)=false:=by
 by_cases h:x=[44]
 ·simp [zCK,h]
 ·simp [zCK,h]
theorem zPk:∀{ws R:List (List UInt8)},ws.flatMap zAZ=[44] :: R→∃Q,R=[44] :: Q
 | [],R,h=>by simp at h
 | w :: ws,R,h=>by
  rw [List.flatMap_cons] at h;rcases zBr w with ⟨e,hl⟩ | ⟨C,rfl,e⟩
  ·rw [e] at h;simp only [List.cons_append,List.nil_append,List.cons.injEq] at h;exact absurd (by rw [h.1];rfl) hl
  ·rw [e] at h;simp only [List.cons_append,List.nil_append,List.cons.injEq] at h;exact ⟨_,h.2.symm⟩
theorem zPl {w:List UInt8} (h:w.getLast?≠some 44):w≠[44]:=fun e=>h (by rw [e];rfl)
theorem zPm:∀{us:List (List UInt8)},zCK true (us.flatMap zAZ)=true→zCK false (us.flatMap zAZ)=true
 | [],_=>rfl
 | u :: us,h=>by
  rw [List.flatMap_cons] at h ⊢;rcases zBr u with ⟨e,hl⟩ | ⟨C,rfl,e⟩
  ·rw [e] at h ⊢;simp only [List.cons_append,List.nil_append,zCK,if_neg (zPl hl)] at h ⊢;exact h
  ·rw [e] at h ⊢;simp only [List.cons_append,List.nil_append] at h ⊢;by_cases hC:C=[44]
   ·subst hC;simp [zCK] at h
   ·simp only [zCK,if_neg hC] at h ⊢;exact h
theorem zHy:∀{ws us:List (List UInt8)},ws.flatMap zAZ=us.flatMap zAZ→zCK false (us.flatMap zAZ)=true→ws=us
 | [],[],_,_=>rfl
 | [],u :: us,h,_=>by
  rw [List.flatMap_cons] at h;rcases zBr u with ⟨e,_⟩ | ⟨C,_,e⟩<;>rw [e] at h<;>simp at h
 | w :: ws,[],h,_=>by
  rw [List.flatMap_cons] at h;rcases zBr w with ⟨e,_⟩ | ⟨C,_,e⟩<;>rw [e] at h<;>simp at h
 | w :: ws,u :: us,h,hc=>by
  rw [List.flatMap_cons,List.flatMap_cons] at h;rw [List.flatMap_cons] at hc;rcases zBr w with ⟨e1,l1⟩ | ⟨C,rfl,e1⟩<;>rcases zBr u with ⟨e2,l2⟩ | ⟨D,rfl,e2⟩<;>rw [e2] at hc<;>rw [e1,e2] at h<;>simp only [List.cons_append,List.nil_append,List.cons.injEq] at h hc
  ·obtain ⟨rfl,h⟩:=h;simp only [zCK,if_neg (zPl l1)] at hc;rw [zHy h (zPm hc)]
  ·obtain ⟨_,h⟩:=h;obtain ⟨Q,hQ⟩:=zPk h;rw [hQ,zPj] at hc
   cases hc
  ·obtain ⟨_,h⟩:=h;obtain ⟨Q,hQ⟩:=zPk h.symm;rw [←h,hQ,zPj] at hc
   cases hc
  ·obtain ⟨rfl,_,h⟩:=h;by_cases hC:C=[44]
   ·subst hC;simp [zCK] at hc
   ·simp only [zCK,if_neg hC] at hc;rw [zHy h (by simpa using hc)]
def fineW (S:List UInt8):Prop:=∀b∈S,b≠32∧b≠44∧b≠10
def fineT (T:List (List UInt8)):Prop:=∀S∈T,fineW S
theorem fineW.no44 {S:List UInt8} (h:fineW S):(44:UInt8) ∉ S:=fun e=>(h _ e).2.1 rfl
theorem fineW.no32 {S:List UInt8} (h:fineW S):(32:UInt8) ∉ S:=fun e=>(h _ e).1 rfl
theorem fineW.ne {S:List UInt8} (h:fineW S):S≠[44]:=fun e=>h.no44 (by rw [e];simp)
theorem fineT.app {A B:List (List UInt8)} (h:fineT A) (k:fineT B):fineT (A++B):=fun S hS=>by
 rcases List.mem_append.1 hS with e | e
 ·exact h S e
 ·exact k S e
theorem fineT.cons {S:List UInt8} {B:List (List UInt8)} (h:fineW S) (k:fineT B):fineT (S :: B):=fun x hx=>by
 rcases List.mem_cons.1 hx with rfl | e
 ·exact h
 ·exact k x e
theorem fineT.nil:fineT []:=fun S h=>by simp at h
theorem zHz {A:List (List UInt8)} (R:List (List UInt8)) (h:fineT A) (hA:A≠[]) (b:Bool):zCK b (A++R)=zCK true R:=by
 induction A generalizing b with
 | nil=>exact absurd rfl hA
 | cons x A ih =>
  have hx:=(h x (List.mem_cons_self ..)).ne;rw [List.cons_append,zCK,if_neg hx]
  cases A with
  | nil=>rfl
  | cons y A=>exact ih (fun S hS=>h S (List.mem_cons_of_mem _ hS)) (by simp) true
def tag:List (List UInt8)→List (List UInt8)
 | []=>[]
 | [x]=>[x++[44]]
 | x :: y :: r=>x :: tag (y :: r)
theorem zMD:∀{A:List (List UInt8)},fineT A→A≠[]→(tag A).flatMap zAZ=A++[[44]]
 | [],_,h=>absurd rfl h
 | [x],_,_=>by simp [tag,zIF]
 | x :: y :: r,h,_=>by
  have h2:fineT (y :: r):=fun S hS=>h S (List.mem_cons_of_mem _ hS)
  rw [tag,List.flatMap_cons,zMD h2 (by simp),zDd (h x (List.mem_cons_self ..)).no44];rfl
theorem zME:∀{A:List (List UInt8)},fineT A→∀p∈tag A,(32:UInt8) ∉ p
 | [],_,p,hp=>by simp [tag] at hp
 | [x],h,p,hp=>by
  simp only [tag,List.mem_singleton] at hp;subst hp;intro e;rcases List.mem_append.1 e with e | e
  ·exact (h x (List.mem_cons_self ..)).no32 e
  ·simp at e
 | x :: y :: r,h,p,hp=>by
  rw [tag] at hp;rcases List.mem_cons.1 hp with rfl | e
  ·exact (h p (List.mem_cons_self ..)).no32
  ·exact zME (A:=y :: r) (fun S hS=>h S (List.mem_cons_of_mem _ hS)) p e
structure Nst where
 f:Fg
 l:Int
 far:Bool
 pc:Int
structure Nop where
 kind:Int
 f:Fg
 fr:Option Nst
 path:List (Nst×Bool)
 over:Bool
def zCT (x:Nst):Prop:=zAx x.f=true∧0≤x.l∧x.l≤999999999∧0≤x.pc∧x.pc≤999999999
def zKu (n:Nop):Prop :=
 (n.kind=1∨n.kind=2∨n.kind=8)∧n.fr=none∧n.path=[]∧n.over=false
 ∨ n.kind=4∧n.fr=none∧n.path=[]
 ∨ n.kind=3∧(∃x,n.fr=some x∧zCT x)∧(∀y∈n.path,zCT y.1)∧n.over=false
 ∨ n.kind=5∧(∃x,n.fr=some x∧zCT x)∧n.path=[]
 ∨ (n.kind=6∨n.kind=7)∧(∃f,n.fr=some ⟨f,0,false,0⟩∧zAx f=true)∧n.path=[]
def okN (n:Nop):Prop:=zAx n.f=true∧zKu n
def sOf (L:List Fg) (x:Nst):Sg:=⟨zBb L x.f,x.l,x.far,x.pc⟩
def pOf (L:List Fg) (x:Nst×Bool):Sp:=⟨sOf L x.1,x.2⟩
def oOf (L:List Fg) (n:Nop):Og:=⟨n.kind,zBb L n.f,(n.fr.map (sOf L)).getD s0,n.path.map (pOf L),n.over⟩
def zBA (L:List Fg) (f:Fg):Bool:=decide (zBb L f=0)
def zBK (L:List Fg) (P:List (Nst×Bool)):Bool:=P.any fun x=>zBA L x.1.f
def zAF (L:List Fg) (n:Nop):Bool:=zBA L n.f||zBK L n.path||(match n.fr with | some x=>zBA L x.f | none=>false)
abbrev zAU:List UInt8:=[102,114,111,109]
abbrev zEP:List UInt8:=[119,105,116,104]
abbrev zDe:List UInt8:=[108,111,111,112]
abbrev zCd:List UInt8:=[112,105,101,99,101]
abbrev zUZ:List UInt8:=[110,101,97,114]
abbrev farW:List UInt8:=[102,97,114]
def zGR (W:List UInt8) (n:Int):List (List UInt8):=if n=0 then [] else [W,Lib.itoa n]
def plT (x:Nst):List (List UInt8):=[zAq x.f,zCD x.far]++zGR zDe x.l++zGR zCd x.pc
def stT (x:Nst×Bool):List (List UInt8):=zBe x.2 :: (plT x.1++[[44]])
def stW (x:Nst×Bool):List (List UInt8):=zBe x.2 :: tag (plT x.1)
def frT (n:Nop):List (List UInt8):=match n.fr with | some x=>plT x | none=>[]
def frN (n:Nop):List UInt8:=match n.fr with | some x=>zAq x.f | none=>[]
def tlT (n:Nop):List (List UInt8) :=
 if n.kind=4 then [zBe n.over]
 else if n.kind=3 then n.path.flatMap stT++zAU :: frT n
 else if n.kind=5 then zAU :: (frT n++[zBe n.over])
 else if n.kind=6 then [zAU,frN n,zBe n.over]
 else if n.kind=7 then [zEP,frN n,zBe n.over]
 else []
def tlW (n:Nop):List (List UInt8) :=
 if n.kind=4 then [zBe n.over]
 else if n.kind=3 then n.path.flatMap stW++zAU :: frT n
 else if n.kind=5 then zAU :: (frT n++[zBe n.over])
 else if n.kind=6 then [zAU,frN n,zBe n.over]
 else if n.kind=7 then [zEP,frN n,zBe n.over]
 else []
def zJr (n:Nop):List (List UInt8):=zBk n.kind :: zAq n.f :: tlT n
def zVa (n:Nop):List (List UInt8):=zBk n.kind :: zAq n.f :: tlW n
def zDE (n:Nop):List UInt8:=Lib.join (zVa n) [32]
theorem zCt {S:List UInt8} (h:(S.all fun b=>b != 32&&b != 44&&b != 10)=true):fineW S:=fun b hb=>by
 have:=(List.all_eq_true.1 h) b hb;simpa [and_assoc] using this
theorem zDf (b:Bool):fineW (zBe b):=by cases b<;>exact zCt (by decide)
theorem zPn (b:Bool):fineW (zCD b):=by cases b<;>exact zCt (by decide)
theorem zFs (n:Int):fineW (Lib.itoa n):=fun b hb=>by
 have:=zMs b hb;refine ⟨?_,?_,?_⟩<;>(rintro rfl;simp at this)
theorem zDg (f:Fg):fineW (zAq f):=fun b hb=>by
 unfold zAq at hb;rcases List.mem_append.1 hb with h | h
 ·split at h
  ·simp at h
  ·exact zFs _ b h
 ·rcases List.mem_cons.1 h with h | h
  ·subst h;split<;>decide
  ·exact zFs _ b h
theorem zHA (k:Int):fineW (zBk k):=by
 unfold zBk
 repeat (split;· exact zCt (by decide))
 exact zCt (by decide)
theorem zMF {W:List UInt8} (h:fineW W) (n:Int):fineT (zGR W n):=by
 unfold zGR;split
 ·exact .nil
 ·exact .cons h (.cons (zFs n) .nil)
theorem zJs (x:Nst):fineT (plT x) :=
 ((fineT.cons (zDg _) (.cons (zPn _) .nil)).app (zMF (zCt (by decide)) _)).app (zMF (zCt (by decide)) _)
theorem zVX (x:Nst):plT x≠[]:=by simp [plT]
theorem zLE (n:Nop):fineT (frT n):=by
 unfold frT;split
 ·exact zJs _
 ·exact .nil
theorem zJt (n:Nop):fineW (frN n):=by
 unfold frN;split
 ·exact zDg _
 ·exact zCt (by decide)
theorem zRe (x:Nst×Bool):(stW x).flatMap zAZ=stT x:=by
 rw [stW,List.flatMap_cons,zMD (zJs _) (zVX _),zDd (zDf _).no44];rfl
theorem zDS {A:List (List UInt8)} (h:fineT A):A.flatMap zAZ=A:=by
 induction A with
 | nil=>rfl
 | cons x A ih =>
  rw [List.flatMap_cons,ih (fun S hS=>h S (List.mem_cons_of_mem _ hS)),zDd (h x (List.mem_cons_self ..)).no44];rfl
theorem zPo (P:List (Nst×Bool)):(P.flatMap stW).flatMap zAZ=P.flatMap stT:=by
 induction P with
 | nil=>rfl
 | cons x P ih=>rw [List.flatMap_cons,List.flatMap_append,ih,zRe,List.flatMap_cons]
theorem zBX:fineW zAU:=zCt (by decide)
theorem zHB:fineW zEP:=zCt (by decide)
theorem zTy (n:Nop):(tlW n).flatMap zAZ=tlT n:=by
 have hf:=zLE n;have hn:=zJt n;have ho:=zDf n.over;unfold tlW tlT;split
 ·exact zDS (.cons ho .nil)
 split
 ·rw [List.flatMap_append,zPo,zDS (.cons zBX hf)]
 split
 ·exact zDS (.cons zBX (hf.app (.cons ho .nil)))
 split
 ·exact zDS (.cons zBX (.cons hn (.cons ho .nil)))
 split
 ·exact zDS (.cons zHB (.cons hn (.cons ho .nil)))
 ·rfl
theorem zJu (n:Nop):(zVa n).flatMap zAZ=zJr n:=by
 rw [zVa,List.flatMap_cons,List.flatMap_cons,zTy,zDd (zHA _).no44,zDd (zDg _).no44];rfl
theorem zPp (P:List (Nst×Bool)) (b:Bool) (R:List (List UInt8)) (h:∀b,zCK b R=true):zCK b (P.flatMap stT++R)=true:=by
 induction P generalizing b with
 | nil=>exact h b
 | cons x P ih =>
  have e:(x :: P).flatMap stT++R=(zBe x.2 :: plT x.1)++([44] :: (P.flatMap stT++R)):=by simp [stT]
  rw [e,zHz _ (.cons (zDf _) (zJs _)) (by simp),zCK,if_pos rfl,ih];rfl
theorem zFt {A:List (List UInt8)} (h:fineT A) (hA:A≠[]) (b:Bool):zCK b A=true:=by
 have:=zHz [] h hA b;rw [List.append_nil] at this;rw [this];rfl
theorem zRf (n:Nop):zCK false (zJr n)=true:=by
 have hf:=zLE n;have hn:=zJt n;have ho:=zDf n.over;have h2:fineT [zBk n.kind,zAq n.f]:=.cons (zHA _) (.cons (zDg _) .nil);rw [zJr,show zBk n.kind :: zAq n.f :: tlT n=[zBk n.kind,zAq n.f]++tlT n from rfl,zHz _ h2 (by simp)];unfold tlT;split
 ·exact zFt (.cons ho .nil) (by simp) _
 split
 ·exact zPp _ _ _ fun b=>zFt (.cons zBX hf) (by simp) b
 split
 ·exact zFt (.cons zBX (hf.app (.cons ho .nil))) (by simp) _
 split
 ·exact zFt (.cons zBX (.cons hn (.cons ho .nil))) (by simp) _
 split
 ·exact zFt (.cons zHB (.cons hn (.cons ho .nil))) (by simp) _
 ·rfl
theorem zPq (P:List (Nst×Bool)):∀p∈P.flatMap stW,(32:UInt8) ∉ p:=fun p hp=>by
 obtain ⟨x,_,h⟩:=List.mem_flatMap.1 hp;rcases List.mem_cons.1 h with rfl | h
 ·exact (zDf _).no32
 ·exact zME (zJs _) p h
theorem zDT {A:List (List UInt8)} (h:fineT A):∀p∈A,(32:UInt8) ∉ p:=fun p hp=>(h p hp).no32
theorem zRg (n:Nop):∀p∈zVa n,(32:UInt8) ∉ p:=by
 have hf:=zLE n;have hn:=zJt n;have ho:=zDf n.over;have ht:∀p∈tlW n,(32:UInt8) ∉ p:=by
  unfold tlW;split
  ·exact zDT (.cons ho .nil)
  split
  ·intro p hp;rcases List.mem_append.1 hp with h | h
   ·exact zPq _ p h
   ·exact zDT (.cons zBX hf) p h
  split
  ·exact zDT (.cons zBX (hf.app (.cons ho .nil)))
  split
  ·exact zDT (.cons zBX (.cons hn (.cons ho .nil)))
  split
  ·exact zDT (.cons zHB (.cons hn (.cons ho .nil)))
  ·intro p hp;simp at hp
 intro p hp;rcases List.mem_cons.1 hp with rfl | hp
 ·exact (zHA _).no32
 ·rcases List.mem_cons.1 hp with rfl | hp
  ·exact (zDg _).no32
  ·exact ht p hp
theorem zEo (n:Nop):zBD (zDE n)=zJr n:=by
 unfold zBD zDE;rw [zHw (by simp [zVa]) (zRg n),zJu]
theorem zJv {S:List UInt8} {n:Nop} (h:zBD S=zJr n):S=zDE n:=by
 unfold zBD at h;rw [←zJu] at h;have:=zHy h (by rw [zJu];exact zRf n);unfold zDE;rw [←this,zKt]
end Go.Proofs.YtlmdfmnbcndhoaaGreatDoor
