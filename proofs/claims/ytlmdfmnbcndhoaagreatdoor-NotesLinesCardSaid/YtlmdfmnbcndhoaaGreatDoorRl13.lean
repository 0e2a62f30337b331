/-
  Lemmas, part 13. Conditions: each theorem's own.
-/
import Derived.Test.YtlmdfmnbcndhoaaGreatDoorRl12
namespace Go.Proofs.YtlmdfmnbcndhoaaGreatDoor
open Go.RowKit
def zAP (S:List UInt8):List (List UInt8):=if S.getLast? = some 44 then [S.dropLast,[44]] else [S]
def zBp (S:List UInt8):List (List UInt8):=(zAR 32 S).flatMap zAP
theorem zCM {S:List UInt8} (h:(44:UInt8) ∉ S):zAP S=[S]:=by
 unfold zAP;rw [if_neg (fun e=>h (List.mem_of_getLast? e))]
theorem zIf (S:List UInt8):zAP (S++[44])=[S,[44]]:=by simp [zAP]
theorem zBd (S:List UInt8):(zAP S=[S]∧S.getLast?≠some 44)∨∃C,S=C++[44]∧zAP S=[C,[44]]:=by
 by_cases h:S.getLast? = some 44
 ·obtain ⟨C,rfl⟩:=List.getLast?_eq_some_iff.1 h;exact .inr ⟨C,rfl,zIf C⟩
 ·exact .inl ⟨by simp [zAP,h],h⟩
def zCx:Bool→List (List UInt8)→Bool
 | _,[]=>true
 | b,x :: r=>if x=[44] then b&&zCx false r else zCx true r
theorem zOZ (b:Bool) (x:List UInt8) (R:List (List UInt8)):zCx b (x :: [44] :: [44] :: R)=false:=by
 by_cases h:x=[44]
 ·simp [zCx,h]
 ·simp [zCx,h]
theorem zPa:∀{ws R:List (List UInt8)},ws.flatMap zAP=[44] :: R→∃Q,R=[44] :: Q
 | [],R,h=>by simp at h
 | w :: ws,R,h=>by
  rw [List.flatMap_cons] at h;rcases zBd w with ⟨e,hl⟩ | ⟨C,rfl,e⟩
  ·rw [e] at h;simp only [List.cons_append,List.nil_append,List.cons.injEq] at h;exact absurd (by rw [h.1];rfl) hl
  ·rw [e] at h;simp only [List.cons_append,List.nil_append,List.cons.injEq] at h;exact ⟨_,h.2.symm⟩
theorem zPb {w:List UInt8} (h:w.getLast?≠some 44):w≠[44]:=fun e=>h (by rw [e];rfl)
theorem zPc:∀{us:List (List UInt8)},zCx true (us.flatMap zAP)=true→zCx false (us.flatMap zAP)=true
 | [],_=>rfl
 | u :: us,h=>by
  rw [List.flatMap_cons] at h ⊢;rcases zBd u with ⟨e,hl⟩ | ⟨C,rfl,e⟩
  ·rw [e] at h ⊢;simp only [List.cons_append,List.nil_append,zCx,if_neg (zPb hl)] at h ⊢;exact h
  ·rw [e] at h ⊢;simp only [List.cons_append,List.nil_append] at h ⊢;by_cases hC:C=[44]
   ·subst hC;simp [zCx] at h
   ·simp only [zCx,if_neg hC] at h ⊢;exact h
theorem zGV:∀{ws us:List (List UInt8)},ws.flatMap zAP=us.flatMap zAP→zCx false (us.flatMap zAP)=true→ws=us
 | [],[],_,_=>rfl
 | [],u :: us,h,_=>by
  rw [List.flatMap_cons] at h;rcases zBd u with ⟨e,_⟩ | ⟨C,_,e⟩<;>rw [e] at h<;>simp at h
 | w :: ws,[],h,_=>by
  rw [List.flatMap_cons] at h;rcases zBd w with ⟨e,_⟩ | ⟨C,_,e⟩<;>rw [e] at h<;>simp at h
 | w :: ws,u :: us,h,hc=>by
  rw [List.flatMap_cons,List.flatMap_cons] at h;rw [List.flatMap_cons] at hc;rcases zBd w with ⟨e1,l1⟩ | ⟨C,rfl,e1⟩<;>rcases zBd u with ⟨e2,l2⟩ | ⟨D,rfl,e2⟩<;>rw [e2] at hc<;>rw [e1,e2] at h<;>simp only [List.cons_append,List.nil_append,List.cons.injEq] at h hc
  ·obtain ⟨rfl,h⟩:=h;simp only [zCx,if_neg (zPb l1)] at hc;rw [zGV h (zPc hc)]
  ·obtain ⟨_,h⟩:=h;obtain ⟨Q,hQ⟩:=zPa h;rw [hQ,zOZ] at hc
   cases hc
  ·obtain ⟨_,h⟩:=h;obtain ⟨Q,hQ⟩:=zPa h.symm;rw [←h,hQ,zOZ] at hc
   cases hc
  ·obtain ⟨rfl,_,h⟩:=h;by_cases hC:C=[44]
   ·subst hC;simp [zCx] at hc
   ·simp only [zCx,if_neg hC] at hc;rw [zGV h (by simpa using hc)]
def fineW (S:List UInt8):Prop:=∀b∈S,b≠32∧b≠44∧b≠10
def fineT (T:List (List UInt8)):Prop:=∀S∈T,fineW S
theorem fineW.no44 {S:List UInt8} (h:fineW S):(44:UInt8) ∉ S:=fun e=>(h _ e).2.1 rfl
theorem fineW.no32 {S:List UInt8} (h:fineW S):(32:UInt8) ∉ S:=fun e=>(h _ e).1 rfl
theorem fineW.ne {S:List UInt8} (h:fineW S):S≠[44]:=fun e=>h.no44 (by rw [e];simp)
theorem fineT.app {A B:List (List UInt8)} (h:fineT A) (k:fineT B):fineT (A++B):=fun S hS=>by
 rcases List.mem_append.1 hS with e | e
 ·exact h S e
 ·exact k S e
theorem fineT.cons {S:List UInt8} {B:List (List UInt8)} (h:fineW S) (k:fineT B):fineT (S :: B):=fun x hx=>by
 rcases List.mem_cons.1 hx with rfl | e
 ·exact h
 ·exact k x e
theorem fineT.nil:fineT []:=fun S h=>by simp at h
theorem zGW {A:List (List UInt8)} (R:List (List UInt8)) (h:fineT A) (hA:A≠[]) (b:Bool):zCx b (A++R)=zCx true R:=by
 induction A generalizing b with
 | nil=>exact absurd rfl hA
 | cons x A ih =>
  have hx:=(h x (List.mem_cons_self ..)).ne;rw [List.cons_append,zCx,if_neg hx]
  cases A with
  | nil=>rfl
  | cons y A=>exact ih (fun S hS=>h S (List.mem_cons_of_mem _ hS)) (by simp) true
def tag:List (List UInt8)→List (List UInt8)
 | []=>[]
 | [x]=>[x++[44]]
 | x :: y :: r=>x :: tag (y :: r)
theorem zMw:∀{A:List (List UInt8)},fineT A→A≠[]→(tag A).flatMap zAP=A++[[44]]
 | [],_,h=>absurd rfl h
 | [x],_,_=>by simp [tag,zIf]
 | x :: y :: r,h,_=>by
  have h2:fineT (y :: r):=fun S hS=>h S (List.mem_cons_of_mem _ hS)
  rw [tag,List.flatMap_cons,zMw h2 (by simp),zCM (h x (List.mem_cons_self ..)).no44];rfl
def jt (A:List (List UInt8)):List UInt8:=A.flatMap (fun w=>32 :: w)
theorem zPd (A B:List (List UInt8)):jt (A++B)=jt A++jt B:=by simp [jt]
theorem zFB (x:List UInt8) (B:List (List UInt8)):jt (x :: B)=32 :: x++jt B:=by simp [jt]
theorem zSS:∀{A:List (List UInt8)},A≠[]→jt (tag A)=jt A++[44]
 | [],h=>absurd rfl h
 | [x],_=>by simp [tag,jt]
 | x :: y :: r,_=>by
  rw [tag,zFB,zSS (by simp),zFB x];simp
theorem zMx:∀{A:List (List UInt8)},fineT A→∀p∈tag A,(32:UInt8) ∉ p
 | [],_,p,hp=>by simp [tag] at hp
 | [x],h,p,hp=>by
  simp only [tag,List.mem_singleton] at hp;subst hp;intro e;rcases List.mem_append.1 e with e | e
  ·exact (h x (List.mem_cons_self ..)).no32 e
  ·simp at e
 | x :: y :: r,h,p,hp=>by
  rw [tag] at hp;rcases List.mem_cons.1 hp with rfl | e
  ·exact (h p (List.mem_cons_self ..)).no32
  ·exact zMx (A:=y :: r) (fun S hS=>h S (List.mem_cons_of_mem _ hS)) p e
theorem zTV (x:List UInt8) (r:List (List UInt8)):Lib.join (x :: r) [32]=x++jt r:=by
 rw [Lib.join_cons];unfold Lib.joinTail jt;rw [List.flatMap_def];rfl
structure Nst where
 f:Fg
 l:Int
 far:Bool
 pc:Int
structure Nop where
 kind:Int
 f:Fg
 fr:Option Nst
 path:List (Nst×Bool)
 over:Bool
def zBX (x:Nst):Prop:=zAl x.f=true∧0≤x.l∧x.l≤999999999∧0≤x.pc∧x.pc≤999999999
def zGX (n:Nop):Prop :=
 (n.kind=1∨n.kind=2∨n.kind=8)∧n.fr=none∧n.path=[]∧n.over=false
 ∨ n.kind=4∧n.fr=none∧n.path=[]
 ∨ n.kind=3∧(∃x,n.fr=some x∧zBX x)∧(∀y∈n.path,zBX y.1)∧n.over=false
 ∨ n.kind=5∧(∃x,n.fr=some x∧zBX x)∧n.path=[]
 ∨ (n.kind=6∨n.kind=7)∧(∃f,n.fr=some ⟨f,0,false,0⟩∧zAl f=true)∧n.path=[]
def okN (n:Nop):Prop:=zAl n.f=true∧zGX n
def sOf (L:List Fg) (x:Nst):Sg:=⟨zAK L x.f,x.l,x.far,x.pc⟩
def pOf (L:List Fg) (x:Nst×Bool):Sp:=⟨sOf L x.1,x.2⟩
def oOf (L:List Fg) (n:Nop):Og:=⟨n.kind,zAK L n.f,(n.fr.map (sOf L)).getD s0,n.path.map (pOf L),n.over⟩
def zAX (L:List Fg) (f:Fg):Bool:=decide (zAK L f=0)
def zAU (L:List Fg) (P:List (Nst×Bool)):Bool:=P.any fun x=>zAX L x.1.f
def zAB (L:List Fg) (n:Nop):Bool:=zAX L n.f||zAU L n.path||(match n.fr with | some x=>zAX L x.f | none=>false)
abbrev zAx:List UInt8:=[102,114,111,109]
abbrev zDm:List UInt8:=[119,105,116,104]
abbrev zBO:List UInt8:=[108,111,111,112]
abbrev zAY:List UInt8:=[112,105,101,99,101]
abbrev zRj:List UInt8:=[110,101,97,114]
abbrev zWN:List UInt8:=[102,97,114]
def zEL (W:List UInt8) (n:Int):List (List UInt8):=if n=0 then [] else [W,Lib.itoa n]
def plT (x:Nst):List (List UInt8):=[zAi x.f,zBx x.far]++zEL zBO x.l++zEL zAY x.pc
def stT (x:Nst×Bool):List (List UInt8):=zAw x.2 :: (plT x.1++[[44]])
def stW (x:Nst×Bool):List (List UInt8):=zAw x.2 :: tag (plT x.1)
def frT (n:Nop):List (List UInt8):=match n.fr with | some x=>plT x | none=>[]
def frN (n:Nop):List UInt8:=match n.fr with | some x=>zAi x.f | none=>[]
def tlT (n:Nop):List (List UInt8) :=
 if n.kind=4 then [zAw n.over]
 else if n.kind=3 then n.path.flatMap stT++zAx :: frT n
 else if n.kind=5 then zAx :: (frT n++[zAw n.over])
 else if n.kind=6 then [zAx,frN n,zAw n.over]
 else if n.kind=7 then [zDm,frN n,zAw n.over]
 else []
def tlW (n:Nop):List (List UInt8) :=
 if n.kind=4 then [zAw n.over]
 else if n.kind=3 then n.path.flatMap stW++zAx :: frT n
 else if n.kind=5 then zAx :: (frT n++[zAw n.over])
 else if n.kind=6 then [zAx,frN n,zAw n.over]
 else if n.kind=7 then [zDm,frN n,zAw n.over]
 else []
def zIQ (n:Nop):List (List UInt8):=zAs n.kind :: zAi n.f :: tlT n
def zRk (n:Nop):List (List UInt8):=zAs n.kind :: zAi n.f :: tlW n
def zCb (n:Nop):List UInt8:=Lib.join (zRk n) [32]
theorem zCd {S:List UInt8} (h:(S.all fun b=>b != 32&&b != 44&&b != 10)=true):fineW S:=fun b hb=>by
 have:=(List.all_eq_true.1 h) b hb;simpa [and_assoc] using this
theorem zCN (b:Bool):fineW (zAw b):=by cases b<;>exact zCd (by decide)
theorem zPe (b:Bool):fineW (zBx b):=by cases b<;>exact zCd (by decide)
theorem zEM (n:Int):fineW (Lib.itoa n):=fun b hb=>by
 have:=zMm b hb;refine ⟨?_,?_,?_⟩<;>(rintro rfl;simp at this)
theorem zCO (f:Fg):fineW (zAi f):=fun b hb=>by
 unfold zAi at hb;rcases List.mem_append.1 hb with h | h
 ·split at h
  ·simp at h
  ·exact zEM _ b h
 ·rcases List.mem_cons.1 h with h | h
  ·subst h;split<;>decide
  ·exact zEM _ b h
theorem zGY (k:Int):fineW (zAs k):=by
 unfold zAs
 repeat (split;· exact zCd (by decide))
 exact zCd (by decide)
theorem zMy {W:List UInt8} (h:fineW W) (n:Int):fineT (zEL W n):=by
 unfold zEL;split
 ·exact .nil
 ·exact .cons h (.cons (zEM n) .nil)
theorem zGZ (x:Nst):fineT (plT x) :=
 ((fineT.cons (zCO _) (.cons (zPe _) .nil)).app (zMy (zCd (by decide)) _)).app (zMy (zCd (by decide)) _)
theorem zTW (x:Nst):plT x≠[]:=by simp [plT]
theorem zLu (n:Nop):fineT (frT n):=by
 unfold frT;split
 ·exact zGZ _
 ·exact .nil
theorem zIR (n:Nop):fineW (frN n):=by
 unfold frN;split
 ·exact zCO _
 ·exact zCd (by decide)
theorem zRl (x:Nst×Bool):(stW x).flatMap zAP=stT x:=by
 rw [stW,List.flatMap_cons,zMw (zGZ _) (zTW _),zCM (zCN _).no44];rfl
theorem zDu {A:List (List UInt8)} (h:fineT A):A.flatMap zAP=A:=by
 induction A with
 | nil=>rfl
 | cons x A ih =>
  rw [List.flatMap_cons,ih (fun S hS=>h S (List.mem_cons_of_mem _ hS)),zCM (h x (List.mem_cons_self ..)).no44];rfl
theorem zPf (P:List (Nst×Bool)):(P.flatMap stW).flatMap zAP=P.flatMap stT:=by
 induction P with
 | nil=>rfl
 | cons x P ih=>rw [List.flatMap_cons,List.flatMap_append,ih,zRl,List.flatMap_cons]
theorem zBE:fineW zAx:=zCd (by decide)
theorem zHa:fineW zDm:=zCd (by decide)
theorem zTX (n:Nop):(tlW n).flatMap zAP=tlT n:=by
 have hf:=zLu n;have hn:=zIR n;have ho:=zCN n.over;unfold tlW tlT;split
 ·exact zDu (.cons ho .nil)
 split
 ·rw [List.flatMap_append,zPf,zDu (.cons zBE hf)]
 split
 ·exact zDu (.cons zBE (hf.app (.cons ho .nil)))
 split
 ·exact zDu (.cons zBE (.cons hn (.cons ho .nil)))
 split
 ·exact zDu (.cons zHa (.cons hn (.cons ho .nil)))
 ·rfl
theorem zIS (n:Nop):(zRk n).flatMap zAP=zIQ n:=by
 rw [zRk,List.flatMap_cons,List.flatMap_cons,zTX,zCM (zGY _).no44,zCM (zCO _).no44];rfl
theorem zPg (P:List (Nst×Bool)) (b:Bool) (R:List (List UInt8)) (h:∀b,zCx b R=true):zCx b (P.flatMap stT++R)=true:=by
 induction P generalizing b with
 | nil=>exact h b
 | cons x P ih =>
  have e:(x :: P).flatMap stT++R=(zAw x.2 :: plT x.1)++([44] :: (P.flatMap stT++R)):=by simp [stT]
  rw [e,zGW _ (.cons (zCN _) (zGZ _)) (by simp),zCx,if_pos rfl,ih];rfl
theorem zEN {A:List (List UInt8)} (h:fineT A) (hA:A≠[]) (b:Bool):zCx b A=true:=by
 have:=zGW [] h hA b;rw [List.append_nil] at this;rw [this];rfl
theorem zRm (n:Nop):zCx false (zIQ n)=true:=by
 have hf:=zLu n;have hn:=zIR n;have ho:=zCN n.over;have h2:fineT [zAs n.kind,zAi n.f]:=.cons (zGY _) (.cons (zCO _) .nil);rw [zIQ,show zAs n.kind :: zAi n.f :: tlT n=[zAs n.kind,zAi n.f]++tlT n from rfl,zGW _ h2 (by simp)];unfold tlT;split
 ·exact zEN (.cons ho .nil) (by simp) _
 split
 ·exact zPg _ _ _ fun b=>zEN (.cons zBE hf) (by simp) b
 split
 ·exact zEN (.cons zBE (hf.app (.cons ho .nil))) (by simp) _
 split
 ·exact zEN (.cons zBE (.cons hn (.cons ho .nil))) (by simp) _
 split
 ·exact zEN (.cons zHa (.cons hn (.cons ho .nil))) (by simp) _
 ·rfl
theorem zPh (P:List (Nst×Bool)):∀p∈P.flatMap stW,(32:UInt8) ∉ p:=fun p hp=>by
 obtain ⟨x,_,h⟩:=List.mem_flatMap.1 hp;rcases List.mem_cons.1 h with rfl | h
 ·exact (zCN _).no32
 ·exact zMx (zGZ _) p h
theorem zDv {A:List (List UInt8)} (h:fineT A):∀p∈A,(32:UInt8) ∉ p:=fun p hp=>(h p hp).no32
theorem zMz (n:Nop):∀p∈zRk n,(32:UInt8) ∉ p:=by
 have hf:=zLu n;have hn:=zIR n;have ho:=zCN n.over;have ht:∀p∈tlW n,(32:UInt8) ∉ p:=by
  unfold tlW;split
  ·exact zDv (.cons ho .nil)
  split
  ·intro p hp;rcases List.mem_append.1 hp with h | h
   ·exact zPh _ p h
   ·exact zDv (.cons zBE hf) p h
  split
  ·exact zDv (.cons zBE (hf.app (.cons ho .nil)))
  split
  ·exact zDv (.cons zBE (.cons hn (.cons ho .nil)))
  split
  ·exact zDv (.cons zHa (.cons hn (.cons ho .nil)))
  ·intro p hp;simp at hp
 intro p hp;rcases List.mem_cons.1 hp with rfl | hp
 ·exact (zGY _).no32
 ·rcases List.mem_cons.1 hp with rfl | hp
  ·exact (zCO _).no32
  ·exact ht p hp
theorem zDR (n:Nop):zBp (zCb n)=zIQ n:=by
 unfold zBp zCb;rw [zEJ (by simp [zRk]) (zMz n),zIS]
theorem zIT {S:List UInt8} {n:Nop} (h:zBp S=zIQ n):S=zCb n:=by
 unfold zBp at h;rw [←zIS] at h;have:=zGV h (by rw [zIS];exact zRm n);unfold zCb;rw [←this,zKi]
end Go.Proofs.YtlmdfmnbcndhoaaGreatDoor
