/-
  Lemmas for NotesReads, part 13: contracts and plain facts. Conditions: those that each theorem names.
-/
import Derived.Test.YtlmdfmnbcndhoaaGreatDoorRd12
namespace Go.Proofs.YtlmdfmnbcndhoaaGreatDoor
open Go.RowKit
def zAO (S:List UInt8):List (List UInt8):=if S.getLast? = some 44 then [S.dropLast,[44]] else [S]
def zBn (S:List UInt8):List (List UInt8):=(zAV 32 S).flatMap zAO
theorem zCH {S:List UInt8} (h:(44:UInt8) ∉ S):zAO S=[S]:=by
 unfold zAO;rw [if_neg (fun e=>h (List.mem_of_getLast? e))]
theorem zHS (S:List UInt8):zAO (S++[44])=[S,[44]]:=by simp [zAO]
theorem zBb (S:List UInt8):(zAO S=[S]∧S.getLast?≠some 44)∨∃C,S=C++[44]∧zAO S=[C,[44]]:=by
 by_cases h:S.getLast? = some 44
 ·obtain ⟨C,rfl⟩:=List.getLast?_eq_some_iff.1 h;exact .inr ⟨C,rfl,zHS C⟩
 ·exact .inl ⟨by simp [zAO,h],h⟩
def zCu:Bool→List (List UInt8)→Bool
 | _,[]=>true
 | b,x :: r=>if x=[44] then b&&zCu false r else zCu true r
theorem zOw (b:Bool) (x:List UInt8) (R:List (List UInt8)):zCu b (x :: [44] :: [44] :: R)=false:=by
 by_cases h:x=[44]
 ·simp [zCu,h]
 ·simp [zCu,h]
theorem zOx:∀{ws R:List (List UInt8)},ws.flatMap zAO=[44] :: R→∃Q,R=[44] :: Q
 | [],R,h=>by simp at h
 | w :: ws,R,h=>by
  rw [List.flatMap_cons] at h;rcases zBb w with ⟨e,hl⟩ | ⟨C,rfl,e⟩
  ·rw [e] at h;simp only [List.cons_append,List.nil_append,List.cons.injEq] at h;exact absurd (by rw [h.1];rfl) hl
  ·rw [e] at h;simp only [List.cons_append,List.nil_append,List.cons.injEq] at h;exact ⟨_,h.2.symm⟩
theorem zOy {w:List UInt8} (h:w.getLast?≠some 44):w≠[44]:=fun e=>h (by rw [e];rfl)
theorem zOz:∀{us:List (List UInt8)},zCu true (us.flatMap zAO)=true→zCu false (us.flatMap zAO)=true
 | [],_=>rfl
 | u :: us,h=>by
  rw [List.flatMap_cons] at h ⊢;rcases zBb u with ⟨e,hl⟩ | ⟨C,rfl,e⟩
  ·rw [e] at h ⊢;simp only [List.cons_append,List.nil_append,zCu,if_neg (zOy hl)] at h ⊢;exact h
  ·rw [e] at h ⊢;simp only [List.cons_append,List.nil_append] at h ⊢;by_cases hC:C=[44]
   ·subst hC;simp [zCu] at h
   ·simp only [zCu,if_neg hC] at h ⊢;exact h
theorem zGN:∀{ws us:List (List UInt8)},ws.flatMap zAO=us.flatMap zAO→zCu false (us.flatMap zAO)=true→ws=us
 | [],[],_,_=>rfl
 | [],u :: us,h,_=>by
  rw [List.flatMap_cons] at h;rcases zBb u with ⟨e,_⟩ | ⟨C,_,e⟩<;>rw [e] at h<;>simp at h
 | w :: ws,[],h,_=>by
  rw [List.flatMap_cons] at h;rcases zBb w with ⟨e,_⟩ | ⟨C,_,e⟩<;>rw [e] at h<;>simp at h
 | w :: ws,u :: us,h,hc=>by
  rw [List.flatMap_cons,List.flatMap_cons] at h;rw [List.flatMap_cons] at hc;rcases zBb w with ⟨e1,l1⟩ | ⟨C,rfl,e1⟩<;>rcases zBb u with ⟨e2,l2⟩ | ⟨D,rfl,e2⟩<;>rw [e2] at hc<;>rw [e1,e2] at h<;>simp only [List.cons_append,List.nil_append,List.cons.injEq] at h hc
  ·obtain ⟨rfl,h⟩:=h;simp only [zCu,if_neg (zOy l1)] at hc;rw [zGN h (zOz hc)]
  ·obtain ⟨_,h⟩:=h;obtain ⟨Q,hQ⟩:=zOx h;rw [hQ,zOw] at hc
   cases hc
  ·obtain ⟨_,h⟩:=h;obtain ⟨Q,hQ⟩:=zOx h.symm;rw [←h,hQ,zOw] at hc
   cases hc
  ·obtain ⟨rfl,_,h⟩:=h;by_cases hC:C=[44]
   ·subst hC;simp [zCu] at hc
   ·simp only [zCu,if_neg hC] at hc;rw [zGN h (by simpa using hc)]
def fineW (S:List UInt8):Prop:=∀b∈S,b≠32∧b≠44∧b≠10
def fineT (T:List (List UInt8)):Prop:=∀S∈T,fineW S
theorem fineW.no44 {S:List UInt8} (h:fineW S):(44:UInt8) ∉ S:=fun e=>(h _ e).2.1 rfl
theorem fineW.no32 {S:List UInt8} (h:fineW S):(32:UInt8) ∉ S:=fun e=>(h _ e).1 rfl
theorem fineW.ne {S:List UInt8} (h:fineW S):S≠[44]:=fun e=>h.no44 (by rw [e];simp)
theorem fineT.app {A B:List (List UInt8)} (h:fineT A) (k:fineT B):fineT (A++B):=fun S hS=>by
 rcases List.mem_append.1 hS with e | e
 ·exact h S e
 ·exact k S e
theorem fineT.cons {S:List UInt8} {B:List (List UInt8)} (h:fineW S) (k:fineT B):fineT (S :: B):=fun x hx=>by
 rcases List.mem_cons.1 hx with rfl | e
 ·exact h
 ·exact k x e
theorem fineT.nil:fineT []:=fun S h=>by simp at h
theorem zGO {A:List (List UInt8)} (R:List (List UInt8)) (h:fineT A) (hA:A≠[]) (b:Bool):zCu b (A++R)=zCu true R:=by
 induction A generalizing b with
 | nil=>exact absurd rfl hA
 | cons x A ih =>
  have hx:=(h x (List.mem_cons_self ..)).ne;rw [List.cons_append,zCu,if_neg hx]
  cases A with
  | nil=>rfl
  | cons y A=>exact ih (fun S hS=>h S (List.mem_cons_of_mem _ hS)) (by simp) true
def tag:List (List UInt8)→List (List UInt8)
 | []=>[]
 | [x]=>[x++[44]]
 | x :: y :: r=>x :: tag (y :: r)
theorem zLV:∀{A:List (List UInt8)},fineT A→A≠[]→(tag A).flatMap zAO=A++[[44]]
 | [],_,h=>absurd rfl h
 | [x],_,_=>by simp [tag,zHS]
 | x :: y :: r,h,_=>by
  have h2:fineT (y :: r):=fun S hS=>h S (List.mem_cons_of_mem _ hS)
  rw [tag,List.flatMap_cons,zLV h2 (by simp),zCH (h x (List.mem_cons_self ..)).no44];rfl
def jt (A:List (List UInt8)):List UInt8:=A.flatMap (fun w=>32 :: w)
theorem zOA (A B:List (List UInt8)):jt (A++B)=jt A++jt B:=by simp [jt]
theorem zFq (x:List UInt8) (B:List (List UInt8)):jt (x :: B)=32 :: x++jt B:=by simp [jt]
theorem zSj:∀{A:List (List UInt8)},A≠[]→jt (tag A)=jt A++[44]
 | [],h=>absurd rfl h
 | [x],_=>by simp [tag,jt]
 | x :: y :: r,_=>by
  rw [tag,zFq,zSj (by simp),zFq x];simp
theorem zLW:∀{A:List (List UInt8)},fineT A→∀p∈tag A,(32:UInt8) ∉ p
 | [],_,p,hp=>by simp [tag] at hp
 | [x],h,p,hp=>by
  simp only [tag,List.mem_singleton] at hp;subst hp;intro e;rcases List.mem_append.1 e with e | e
  ·exact (h x (List.mem_cons_self ..)).no32 e
  ·simp at e
 | x :: y :: r,h,p,hp=>by
  rw [tag] at hp;rcases List.mem_cons.1 hp with rfl | e
  ·exact (h p (List.mem_cons_self ..)).no32
  ·exact zLW (A:=y :: r) (fun S hS=>h S (List.mem_cons_of_mem _ hS)) p e
theorem zTo (x:List UInt8) (r:List (List UInt8)):Lib.join (x :: r) [32]=x++jt r:=by
 rw [Lib.join_cons];unfold Lib.joinTail jt;rw [List.flatMap_def];rfl
structure Nst where
 f:Fg
 l:Int
 far:Bool
 pc:Int
structure Nop where
 kind:Int
 f:Fg
 fr:Option Nst
 path:List (Nst×Bool)
 over:Bool
def zBV (x:Nst):Prop:=zAm x.f=true∧0≤x.l∧x.l≤999999999∧0≤x.pc∧x.pc≤999999999
def zGP (n:Nop):Prop :=
 (n.kind=1∨n.kind=2∨n.kind=8)∧n.fr=none∧n.path=[]∧n.over=false
 ∨ n.kind=4∧n.fr=none∧n.path=[]
 ∨ n.kind=3∧(∃x,n.fr=some x∧zBV x)∧(∀y∈n.path,zBV y.1)∧n.over=false
 ∨ n.kind=5∧(∃x,n.fr=some x∧zBV x)∧n.path=[]
 ∨ (n.kind=6∨n.kind=7)∧(∃f,n.fr=some ⟨f,0,false,0⟩∧zAm f=true)∧n.path=[]
def okN (n:Nop):Prop:=zAm n.f=true∧zGP n
def sOf (L:List Fg) (x:Nst):Sg:=⟨zAJ L x.f,x.l,x.far,x.pc⟩
def pOf (L:List Fg) (x:Nst×Bool):Sp:=⟨sOf L x.1,x.2⟩
def oOf (L:List Fg) (n:Nop):Og:=⟨n.kind,zAJ L n.f,(n.fr.map (sOf L)).getD s0,n.path.map (pOf L),n.over⟩
def zAW (L:List Fg) (f:Fg):Bool:=decide (zAJ L f=0)
def zAR (L:List Fg) (P:List (Nst×Bool)):Bool:=P.any fun x=>zAW L x.1.f
def zAz (L:List Fg) (n:Nop):Bool:=zAW L n.f||zAR L n.path||(match n.fr with | some x=>zAW L x.f | none=>false)
abbrev zAw:List UInt8:=[102,114,111,109]
abbrev zDk:List UInt8:=[119,105,116,104]
abbrev zBM:List UInt8:=[108,111,111,112]
abbrev zAX:List UInt8:=[112,105,101,99,101]
abbrev zQD:List UInt8:=[110,101,97,114]
abbrev zWb:List UInt8:=[102,97,114]
def zEG (W:List UInt8) (n:Int):List (List UInt8):=if n=0 then [] else [W,Lib.itoa n]
def plT (x:Nst):List (List UInt8):=[zAh x.f,zBu x.far]++zEG zBM x.l++zEG zAX x.pc
def stT (x:Nst×Bool):List (List UInt8):=zAv x.2 :: (plT x.1++[[44]])
def stW (x:Nst×Bool):List (List UInt8):=zAv x.2 :: tag (plT x.1)
def frT (n:Nop):List (List UInt8):=match n.fr with | some x=>plT x | none=>[]
def frN (n:Nop):List UInt8:=match n.fr with | some x=>zAh x.f | none=>[]
def tlT (n:Nop):List (List UInt8) :=
 if n.kind=4 then [zAv n.over]
 else if n.kind=3 then n.path.flatMap stT++zAw :: frT n
 else if n.kind=5 then zAw :: (frT n++[zAv n.over])
 else if n.kind=6 then [zAw,frN n,zAv n.over]
 else if n.kind=7 then [zDk,frN n,zAv n.over]
 else []
def tlW (n:Nop):List (List UInt8) :=
 if n.kind=4 then [zAv n.over]
 else if n.kind=3 then n.path.flatMap stW++zAw :: frT n
 else if n.kind=5 then zAw :: (frT n++[zAv n.over])
 else if n.kind=6 then [zAw,frN n,zAv n.over]
 else if n.kind=7 then [zDk,frN n,zAv n.over]
 else []
def zIB (n:Nop):List (List UInt8):=zAs n.kind :: zAh n.f :: tlT n
def zQE (n:Nop):List (List UInt8):=zAs n.kind :: zAh n.f :: tlW n
def zBY (n:Nop):List UInt8:=Lib.join (zQE n) [32]
theorem zCb {S:List UInt8} (h:(S.all fun b=>b != 32&&b != 44&&b != 10)=true):fineW S:=fun b hb=>by
 have:=(List.all_eq_true.1 h) b hb;simpa [and_assoc] using this
theorem zCI (b:Bool):fineW (zAv b):=by cases b<;>exact zCb (by decide)
theorem zOB (b:Bool):fineW (zBu b):=by cases b<;>exact zCb (by decide)
theorem zEH (n:Int):fineW (Lib.itoa n):=fun b hb=>by
 have:=zLL b hb;refine ⟨?_,?_,?_⟩<;>(rintro rfl;simp at this)
theorem zCJ (f:Fg):fineW (zAh f):=fun b hb=>by
 unfold zAh at hb;rcases List.mem_append.1 hb with h | h
 ·split at h
  ·simp at h
  ·exact zEH _ b h
 ·rcases List.mem_cons.1 h with h | h
  ·subst h;split<;>decide
  ·exact zEH _ b h
theorem zGQ (k:Int):fineW (zAs k):=by
 unfold zAs
 repeat (split;· exact zCb (by decide))
 exact zCb (by decide)
theorem zLX {W:List UInt8} (h:fineW W) (n:Int):fineT (zEG W n):=by
 unfold zEG;split
 ·exact .nil
 ·exact .cons h (.cons (zEH n) .nil)
theorem zGR (x:Nst):fineT (plT x) :=
 ((fineT.cons (zCJ _) (.cons (zOB _) .nil)).app (zLX (zCb (by decide)) _)).app (zLX (zCb (by decide)) _)
theorem zTp (x:Nst):plT x≠[]:=by simp [plT]
theorem zKZ (n:Nop):fineT (frT n):=by
 unfold frT;split
 ·exact zGR _
 ·exact .nil
theorem zIC (n:Nop):fineW (frN n):=by
 unfold frN;split
 ·exact zCJ _
 ·exact zCb (by decide)
theorem zQF (x:Nst×Bool):(stW x).flatMap zAO=stT x:=by
 rw [stW,List.flatMap_cons,zLV (zGR _) (zTp _),zCH (zCI _).no44];rfl
theorem zDt {A:List (List UInt8)} (h:fineT A):A.flatMap zAO=A:=by
 induction A with
 | nil=>rfl
 | cons x A ih =>
  rw [List.flatMap_cons,ih (fun S hS=>h S (List.mem_cons_of_mem _ hS)),zCH (h x (List.mem_cons_self ..)).no44];rfl
theorem zOC (P:List (Nst×Bool)):(P.flatMap stW).flatMap zAO=P.flatMap stT:=by
 induction P with
 | nil=>rfl
 | cons x P ih=>rw [List.flatMap_cons,List.flatMap_append,ih,zQF,List.flatMap_cons]
theorem zBA:fineW zAw:=zCb (by decide)
theorem zGS:fineW zDk:=zCb (by decide)
theorem zTq (n:Nop):(tlW n).flatMap zAO=tlT n:=by
 have hf:=zKZ n;have hn:=zIC n;have ho:=zCI n.over;unfold tlW tlT;split
 ·exact zDt (.cons ho .nil)
 split
 ·rw [List.flatMap_append,zOC,zDt (.cons zBA hf)]
 split
 ·exact zDt (.cons zBA (hf.app (.cons ho .nil)))
 split
 ·exact zDt (.cons zBA (.cons hn (.cons ho .nil)))
 split
 ·exact zDt (.cons zGS (.cons hn (.cons ho .nil)))
 ·rfl
theorem zID (n:Nop):(zQE n).flatMap zAO=zIB n:=by
 rw [zQE,List.flatMap_cons,List.flatMap_cons,zTq,zCH (zGQ _).no44,zCH (zCJ _).no44];rfl
theorem zOD (P:List (Nst×Bool)) (b:Bool) (R:List (List UInt8)) (h:∀b,zCu b R=true):zCu b (P.flatMap stT++R)=true:=by
 induction P generalizing b with
 | nil=>exact h b
 | cons x P ih =>
  have e:(x :: P).flatMap stT++R=(zAv x.2 :: plT x.1)++([44] :: (P.flatMap stT++R)):=by simp [stT]
  rw [e,zGO _ (.cons (zCI _) (zGR _)) (by simp),zCu,if_pos rfl,ih];rfl
theorem zEI {A:List (List UInt8)} (h:fineT A) (hA:A≠[]) (b:Bool):zCu b A=true:=by
 have:=zGO [] h hA b;rw [List.append_nil] at this;rw [this];rfl
theorem zQG (n:Nop):zCu false (zIB n)=true:=by
 have hf:=zKZ n;have hn:=zIC n;have ho:=zCI n.over;have h2:fineT [zAs n.kind,zAh n.f]:=.cons (zGQ _) (.cons (zCJ _) .nil);rw [zIB,show zAs n.kind :: zAh n.f :: tlT n=[zAs n.kind,zAh n.f]++tlT n from rfl,zGO _ h2 (by simp)];unfold tlT;split
 ·exact zEI (.cons ho .nil) (by simp) _
 split
 ·exact zOD _ _ _ fun b=>zEI (.cons zBA hf) (by simp) b
 split
 ·exact zEI (.cons zBA (hf.app (.cons ho .nil))) (by simp) _
 split
 ·exact zEI (.cons zBA (.cons hn (.cons ho .nil))) (by simp) _
 split
 ·exact zEI (.cons zGS (.cons hn (.cons ho .nil))) (by simp) _
 ·rfl
theorem zOE (P:List (Nst×Bool)):∀p∈P.flatMap stW,(32:UInt8) ∉ p:=fun p hp=>by
 obtain ⟨x,_,h⟩:=List.mem_flatMap.1 hp;rcases List.mem_cons.1 h with rfl | h
 ·exact (zCI _).no32
 ·exact zLW (zGR _) p h
theorem zDu {A:List (List UInt8)} (h:fineT A):∀p∈A,(32:UInt8) ∉ p:=fun p hp=>(h p hp).no32
theorem zLY (n:Nop):∀p∈zQE n,(32:UInt8) ∉ p:=by
 have hf:=zKZ n;have hn:=zIC n;have ho:=zCI n.over;have ht:∀p∈tlW n,(32:UInt8) ∉ p:=by
  unfold tlW;split
  ·exact zDu (.cons ho .nil)
  split
  ·intro p hp;rcases List.mem_append.1 hp with h | h
   ·exact zOE _ p h
   ·exact zDu (.cons zBA hf) p h
  split
  ·exact zDu (.cons zBA (hf.app (.cons ho .nil)))
  split
  ·exact zDu (.cons zBA (.cons hn (.cons ho .nil)))
  split
  ·exact zDu (.cons zGS (.cons hn (.cons ho .nil)))
  ·intro p hp;simp at hp
 intro p hp;rcases List.mem_cons.1 hp with rfl | hp
 ·exact (zGQ _).no32
 ·rcases List.mem_cons.1 hp with rfl | hp
  ·exact (zCJ _).no32
  ·exact ht p hp
theorem zDN (n:Nop):zBn (zBY n)=zIB n:=by
 unfold zBn zBY;rw [zEF (by simp [zQE]) (zLY n),zID]
theorem zIE {S:List UInt8} {n:Nop} (h:zBn S=zIB n):S=zBY n:=by
 unfold zBn at h;rw [←zID] at h;have:=zGN h (by rw [zID];exact zQG n);unfold zBY;rw [←this,zJQ]
end Go.Proofs.YtlmdfmnbcndhoaaGreatDoor
