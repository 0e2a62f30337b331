/-
  Lemmas, part 14. Conditions: each theorem's own.
-/
import Derived.Test.YtlmdfmnbcndhoaaGreatDoorRl13
namespace Go.Proofs.YtlmdfmnbcndhoaaGreatDoor
open Go.RowKit
def zJE (b:UInt8):Bool:=decide (48≤b.toNat)&&decide (b.toNat≤57)
def zGp (a:Nat) (S:List UInt8):Nat:=S.foldl (fun a b=>10*a+(b.toNat-48)) a
def zAq (S:List UInt8):Int×Bool:=if S≠[]∧S.length≤9∧S.head?≠some 48∧S.all zJE=true then ((zGp 0 S:Nat),true) else (0,false)
theorem zGu (a:Nat) (S:List UInt8) (b:UInt8):zGp a (S++[b])=10*zGp a S+(b.toNat-48):=by simp [zGp,List.foldl_append]
theorem zEO {b:UInt8} (h:zJE b=true):48≤b.toNat∧b.toNat≤57:=by simpa [zJE] using h
theorem zPi {b:UInt8} {d:Nat} (h:b.toNat=48+d):UInt8.ofNat (48+d)=b:=by rw [←h];exact UInt8.ofNat_toNat
theorem zPj:∀(n:Nat) {S:List UInt8},S.length=n→S≠[]→S.head?≠some 48→S.all zJE=true→Lib.decDigits (zGp 0 S)=S∧1≤zGp 0 S∧zGp 0 S < 10 ^ n
 | 0,S,hn,h0,_,_=>absurd (List.length_eq_zero_iff.1 hn) h0
 | n+1,S,hn,h0,h1,h2=>by
  obtain ⟨I,b,rfl⟩:∃I b,S=I++[b]:=⟨S.dropLast,S.getLast h0,(List.dropLast_concat_getLast h0).symm⟩
  rw [List.all_append,Bool.and_eq_true] at h2;have hb:=zEO (by simpa using h2.2);rw [zGu];by_cases hI:I=[]
  ·subst hI
   have ah:b.toNat≠48:=fun e=>h1 (by
    have:b=48:=UInt8.toNat.inj e
    rw [this];rfl)
   have xB:n=0:=by simpa using hn.symm
   subst xB;refine ⟨?_,?_,?_⟩
   ·rw [show 10*zGp 0 []+(b.toNat-48)=b.toNat-48 from by simp [zGp],Lib.decDigits_one (by omega),zPi (b:=b) (by omega)];rfl
   ·simp [zGp];omega
   ·simp [zGp];omega
  ·have hnI:I.length=n:=by simpa using hn
   obtain ⟨k1,k2,k3⟩:=zPj n hnI hI (by cases I with | nil=>exact absurd rfl hI | cons x I=>simpa using h1) h2.1;refine ⟨?_,by omega,?_⟩
   ·rw [Lib.decDigits,dif_neg (by omega),show (10*zGp 0 I+(b.toNat-48)) / 10=zGp 0 I by omega,k1,show (10*zGp 0 I+(b.toNat-48)) % 10=b.toNat-48 by omega,zPi (b:=b) (by omega)]
   ·rw [Nat.pow_succ];omega
theorem zCn {S:List UInt8} {n:Int} (h:zAq S=(n,true)):S=Lib.itoa n∧1≤n∧n≤999999999:=by
 unfold zAq at h;split at h
 ·rename_i hc;obtain ⟨h1,h2,h3,h4⟩:=hc;obtain ⟨k1,k2,k3⟩:=zPj S.length rfl h1 h3 h4;have hn:((zGp 0 S:Nat):Int)=n:=congrArg Prod.fst h;have hp:10 ^ S.length≤10 ^ 9:=Nat.pow_le_pow_right (by omega) h2;refine ⟨?_,by omega,by omega⟩;rw [←hn];unfold Lib.itoa;rw [if_neg (by omega),Int.toNat_natCast,k1]
 ·have:=congrArg Prod.snd h;simp at this
theorem zPk:∀(k:Nat) {u:Nat},u < 10 ^ (k+1)→(Lib.decDigits u).length≤k+1
 | 0,u,h=>by rw [Lib.decDigits_one (by omega)];simp
 | k+1,u,h=>by
  rw [Lib.decDigits];split
  ·simp
  ·have:=zPk k (u:=u / 10) (by rw [Nat.pow_succ] at h;omega);simp;omega
theorem zRn {u:Nat} (h:1≤u):(Lib.decDigits u).head?≠some 48:=by
 induction u using Nat.strongRecOn with
 | _ u ih =>
  rw [Lib.decDigits];split
  ·rename_i h1;intro e;have:=zIN (a:=48+u) (b:=48) (by omega) (by omega) (by simpa using e);omega
  ·rename_i h1;have:=ih (u / 10) (by omega) (by omega);rw [List.head?_append]
   cases hd:(Lib.decDigits (u / 10)).head? with
   | none=>exact absurd (List.head?_eq_none_iff.1 hd) (zFY _)
   | some x=>rw [hd] at this;simpa using this
theorem zTY (u:Nat):zGp 0 (Lib.decDigits u)=u:=by
 induction u using Nat.strongRecOn with
 | _ u ih =>
  rw [Lib.decDigits];split
  ·rename_i h;simp only [zGp,List.foldl];rw [zEz h];omega
  ·rename_i h;rw [zGu,ih (u / 10) (by omega),zEz (by omega)];omega
theorem zFC {n:Int} (h1:1≤n) (h2:n≤999999999):zAq (Lib.itoa n)=(n,true):=by
 obtain ⟨u,rfl⟩:=Int.eq_ofNat_of_zero_le (by omega:0≤n);have hi:Lib.itoa (u:Int)=Lib.decDigits u:=by unfold Lib.itoa;rw [if_neg (by omega)];simp
 have ha:(Lib.decDigits u).all zJE=true:=by
  rw [List.all_eq_true];intro b hb;have:=zCX u b hb;simp [zJE,this]
 unfold zAq;rw [hi,if_pos ⟨zFY u,zPk 8 (by omega),zRn (by omega),ha⟩,zTY]
structure RS where
 T:List (List UInt8)
 bad:Bool
 lost:Bool
def RS.next (s:RS):RS:=⟨s.T.tail,s.bad||s.T.isEmpty,s.lost⟩
def RS.is (s:RS) (W:List UInt8):RS:=⟨isT s.T W,s.bad,s.lost⟩
noncomputable def RS.fing (s:RS) (L:List Fg) (S:List UInt8):RS:=⟨s.T,s.bad||zKh S,s.lost||zEk L S⟩
def RS.mark (s:RS) (b:Bool):RS:=⟨s.T,s.bad||b,s.lost⟩
def RS.over (s:RS):RS:=s.next.mark (!(ovT (xa s.T 0)||unT (xa s.T 0)))
def RS.must (s:RS) (W:List UInt8):RS:=if s.bad then s else (s.is W).mark (!isB s.T W)
def zEs (W:List UInt8) (s:RS):Int×RS :=
 if isB s.T W then ((zAq (xa (isT s.T W) 0)).1,(s.is W).next.mark (!(zAq (xa (isT s.T W) 0)).2)) else (0,s)
def neT (S:List UInt8):Bool:=S==zRj
def faT (S:List UInt8):Bool:=S==zWN
noncomputable def zDk (L:List Fg) (s:RS):RS:=((s.next.fing L (xa s.T 0)).next).mark (!(neT (xa s.T.tail 0)||faT (xa s.T.tail 0)))
noncomputable def zAN (L:List Fg) (s:RS):Sg×RS :=
 (⟨zDj L (xa s.T 0),(zEs zBO (zDk L s)).1,faT (xa s.T.tail 0),(zEs zAY (zEs zBO (zDk L s)).2).1⟩,(zEs zAY (zEs zBO (zDk L s)).2).2)
noncomputable def zKT (L:List Fg) (s:RS):Sp×RS:=(⟨(zAN L s.over).1,ovT (xa s.T 0)⟩,(zAN L s.over).2.must [44])
noncomputable def zDw (L:List Fg):Nat→RS→List Sp→(List Sp×Sg)×RS
 | 0,s,P=>((P,s0),s)
 | n+1,s,P =>
  if isB s.T zAx then ((P,(zAN L (s.is zAx)).1),(zAN L (s.is zAx)).2)
  else if (zKT L s).2.bad then ((P++[(zKT L s).1],s0),(zKT L s).2) else zDw L n (zKT L s).2 (P++[(zKT L s).1])
def zBy (v:List UInt8):Int :=
 if v=zAs 1 then 1 else if v=zAs 2 then 2 else if v=zAs 3 then 3 else if v=zAs 4 then 4 else if v=zAs 5 then 5 else if v=zAs 6 then 6 else if v=zAs 7 then 7 else if v=zAs 8 then 8 else 0
noncomputable def zEP (L:List Fg) (s:RS):RS:=((s.next.mark (decide (zBy (xa s.T 0)=0))).next).fing L (xa s.T.tail 0)
noncomputable def zBF (L:List Fg) (k f:Int) (s:RS):Og×RS :=
 if k=4 then (⟨k,f,s0,[],ovT (xa s.T 0)⟩,s.over)
 else if k=3 then (⟨k,f,(zDw L (s.T.length+1) s []).1.2,(zDw L (s.T.length+1) s []).1.1,false⟩,(zDw L (s.T.length+1) s []).2)
 else if k=5 then (⟨k,f,(zAN L (s.must zAx)).1,[],ovT (xa (zAN L (s.must zAx)).2.T 0)⟩,(zAN L (s.must zAx)).2.over)
 else if k=6 then (⟨k,f,⟨zDj L (xa (s.must zAx).T 0),0,false,0⟩,[],ovT (xa (s.must zAx).T.tail 0)⟩,((s.must zAx).next.fing L (xa (s.must zAx).T 0)).over)
 else if k=7 then (⟨k,f,⟨zDj L (xa (s.must zDm).T 0),0,false,0⟩,[],ovT (xa (s.must zDm).T.tail 0)⟩,((s.must zDm).next.fing L (xa (s.must zDm).T 0)).over)
 else (⟨k,f,s0,[],false⟩,s)
noncomputable def opR (L:List Fg) (s:RS):Og×RS:=zBF L (zBy (xa s.T 0)) (zDj L (xa s.T.tail 0)) (zEP L s)
theorem zDx {s:RS} (h:s.next.bad=false):s.bad=false∧∃x T,s.T=x :: T∧xa s.T 0=x∧s.next=⟨T,false,s.lost⟩:=by
 obtain ⟨T,bad,lost⟩:=s
 cases T with
 | nil=>simp [RS.next] at h
 | cons x T =>
  have hb:bad=false:=by simpa [RS.next] using h
  exact ⟨hb,x,T,rfl,rfl,by simp [RS.next,hb]⟩
theorem zIU {s:RS} {L:List Fg} {S:List UInt8} (h:(s.fing L S).bad=false) :
  s.bad=false∧∃f,zAl f=true∧zAi f=S∧zDj L S=zAK L f∧s.fing L S=⟨s.T,false,s.lost||zAX L f⟩:=by
 unfold RS.fing zKh zEk at h ⊢;simp only [Bool.or_eq_false_iff] at h
 cases hp:zGb S with
 | none=>rw [hp] at h;simp at h
 | some f =>
  rw [hp] at h;obtain ⟨k1,k2⟩:=zLq hp;refine ⟨h.1,f,k1,k2,by unfold zDj;rw [hp],?_⟩;simp only [h.1];rfl
theorem zEl (L:List Fg) {f:Fg} (hf:zAl f=true) (T:List (List UInt8)) (lost:Bool):(RS.mk T false lost).fing L (zAi f)=⟨T,false,lost||zAX L f⟩∧zDj L (zAi f)=zAK L f:=by
 have hp:=zCm hf rfl;unfold RS.fing zKh zEk zDj;rw [hp];exact ⟨rfl,rfl⟩
theorem zHb {s:RS} {b:Bool} (h:(s.mark b).bad=false):s.bad=false∧b=false∧s.mark b=s:=by
 obtain ⟨T,bad,lost⟩:=s;unfold RS.mark at h ⊢;simp only [Bool.or_eq_false_iff] at h;obtain ⟨rfl,rfl⟩:=h;exact ⟨rfl,rfl,rfl⟩
theorem zXb (S:List UInt8) (h:(!(ovT S||unT S))=false):S=zAw (ovT S):=by
 simp only [Bool.not_eq_false',Bool.or_eq_true] at h;rcases h with h | h
 ·rw [h];exact (show S=[111,118,101,114] by simpa [ovT] using h)
 ·have h2:S=[117,110,100,101,114]:=by simpa [unT] using h
  subst h2;rfl
theorem zLv (b:Bool):ovT (zAw b)=b∧(!(ovT (zAw b)||unT (zAw b)))=false:=by cases b<;>decide
theorem zTZ (S:List UInt8) (h:(!(neT S||faT S))=false):S=zBx (faT S):=by
 simp only [Bool.not_eq_false',Bool.or_eq_true] at h;rcases h with h | h
 ·have h2:S=zRj:=by simpa [neT] using h
  subst h2;rfl
 ·rw [h];exact (show S=zWN by simpa [faT] using h)
theorem zHc (b:Bool):faT (zBx b)=b∧(!(neT (zBx b)||faT (zBx b)))=false:=by cases b<;>decide
theorem zHd {s:RS} (h:s.over.bad=false):s.bad=false∧∃T,s.T=zAw (ovT (xa s.T 0)) :: T∧s.over=⟨T,false,s.lost⟩:=by
 unfold RS.over at h ⊢;obtain ⟨h1,h2,h3⟩:=zHb h;obtain ⟨k1,x,T,k2,k3,k4⟩:=zDx h1;rw [h3,k4];exact ⟨k1,T,by rw [←zXb _ h2,k3,k2],rfl⟩
theorem zDb (b:Bool) (T:List (List UInt8)) (lost:Bool):(RS.mk (zAw b :: T) false lost).over=⟨T,false,lost⟩∧ovT (xa (zAw b :: T) 0)=b:=by
 have:=zLv b;unfold RS.over RS.next RS.mark;simp only [show xa (zAw b :: T) 0=zAw b from rfl,this.2,List.tail_cons,List.isEmpty_cons,Bool.or_false];exact ⟨trivial,this.1⟩
theorem zUa {T:List (List UInt8)} {W:List UInt8} (h:isB T W=true):T=W :: isT T W:=by
 cases T with
 | nil=>simp [isB] at h
 | cons x T =>
  have:x=W:=by simpa [isB] using h
  subst this;rw [zFz]
theorem zIV {s:RS} {W:List UInt8} (h:(s.must W).bad=false):s.bad=false∧∃T,s.T=W :: T∧s.must W=⟨T,false,s.lost⟩:=by
 unfold RS.must at h ⊢
 cases hb:s.bad with
 | true=>rw [if_pos hb,hb] at h;cases h
 | false =>
  rw [if_neg (by rw [hb];simp)] at h;obtain ⟨_,h2,h3⟩:=zHb h;have hi:isB s.T W=true:=by simpa using h2
  refine ⟨rfl,isT s.T W,zUa hi,?_⟩;rw [if_neg (by simp),h3];unfold RS.is;rw [hb]
theorem zIW (W:List UInt8) (T:List (List UInt8)) (lost:Bool):(RS.mk (W :: T) false lost).must W=⟨T,false,lost⟩:=by
 unfold RS.must RS.mark RS.is;simp only [zIO,zFz];rfl
theorem zST {W:List UInt8} {s:RS} (h:(zEs W s).2.bad=false):s.bad=false∧(zEs W s).2.lost=s.lost∧0≤(zEs W s).1∧(zEs W s).1≤999999999∧s.T=zEL W (zEs W s).1++(zEs W s).2.T:=by
 unfold zEs at h ⊢
 cases hb:isB s.T W with
 | false =>
  rw [hb] at h;simp only [Bool.false_eq_true,if_false] at h ⊢;exact ⟨h,trivial,by omega,by omega,by simp [zEL]⟩
 | true =>
  rw [hb] at h;simp only [if_true] at h ⊢;obtain ⟨h1,h2,h3⟩:=zHb h;obtain ⟨k1,x,T,k2,k3,k4⟩:=zDx h1;rw [h3,k4];have hT:isT s.T W=x :: T:=k2;have hxa:xa (isT s.T W) 0=x:=by rw [hT];rfl
  rw [hxa] at h2 ⊢
  obtain ⟨c1,c2,c3⟩:=zCn (S:=x) (n:=(zAq x).1) (by
   have:(zAq x).2=true:=by simpa using h2
   rw [←this])
  refine ⟨k1,rfl,by omega,by omega,?_⟩;have:=zUa hb;rw [hT] at this;rw [this,zEL,if_neg (by omega),←c1];rfl
theorem zSU (W:List UInt8) {n:Int} (h0:0≤n) (h1:n≤999999999) (T:List (List UInt8)) (lost:Bool) (hT:T.head?≠some W):zEs W (RS.mk (zEL W n++T) false lost)=(n,⟨T,false,lost⟩):=by
 unfold zEs zEL;by_cases e:n=0
 ·subst e;have:isB T W=false:=by simp [isB,hT]
  simp [this]
 ·rw [if_neg e];have hc:=zFC (n:=n) (by omega) h1;simp only [List.cons_append,List.nil_append,zIO,zFz,if_true];rw [show xa (Lib.itoa n :: T) 0=Lib.itoa n from rfl,hc];unfold RS.mark RS.next RS.is;simp [zFz]
theorem zIX {L:List Fg} {s:RS} (h:(zAN L s).2.bad=false) :
  s.bad=false∧∃x:Nst,zBX x∧s.T=plT x++(zAN L s).2.T∧(zAN L s).1=sOf L x∧(zAN L s).2.lost=(s.lost||zAX L x.f):=by
 unfold zAN at h ⊢;simp only at h ⊢;obtain ⟨a1,a2,a3,a4,a5⟩:=zST h;obtain ⟨b1,b2,b3,b4,b5⟩:=zST a1;generalize (zEs zAY (zEs zBO (zDk L s)).2).1=pc at a3 a4 a5 ⊢;generalize (zEs zAY (zEs zBO (zDk L s)).2).2=s6 at a2 a5 ⊢;generalize (zEs zBO (zDk L s)).1=lo at b3 b4 b5 ⊢;generalize (zEs zBO (zDk L s)).2=s5 at a2 a5 b2 b5;unfold zDk at b1 b2 b5;obtain ⟨c1,c2,c3⟩:=zHb b1;rw [c3] at b2 b5;obtain ⟨d1,y,T2,d2,d3,d4⟩:=zDx c1;rw [d4] at b2 b5;obtain ⟨e1,f,e2,e3,e4,e5⟩:=zIU d1;rw [e5] at d2 b2;simp only at d2 b2 b5;obtain ⟨f1,x,T1,f2,f3,f4⟩:=zDx e1;rw [f4] at d2 b2;simp only at d2 b2;have hx:xa s.T.tail 0=y:=by rw [f2,List.tail_cons,d2];rfl
 have hs:=zTZ _ c2;refine ⟨f1,⟨f,lo,faT (xa s.T.tail 0),pc⟩,⟨e2,b3,b4,a3,a4⟩,?_,?_,?_⟩
 ·have hside:zBx (faT (xa s.T.tail 0))=y:=by rw [←hs,hx]
  unfold plT;simp only;rw [hside,e3,f3,f2,d2,b5,a5];simp
 ·unfold sOf;simp only [e4]
 ·rw [a2,b2]
theorem zIY (L:List Fg) {x:Nst} (h:zBX x) (T:List (List UInt8)) (lost:Bool) (h1:T.head?≠some zBO) (h2:T.head?≠some zAY) :
  zAN L (RS.mk (plT x++T) false lost)=(sOf L x,⟨T,false,lost||zAX L x.f⟩):=by
 obtain ⟨k1,k2,k3,k4,k5⟩:=h;obtain ⟨p1,p2⟩:=zEl L k1 (zBx x.far :: (zEL zBO x.l++(zEL zAY x.pc++T))) lost;have hS:zDk L (RS.mk (plT x++T) false lost)=⟨zEL zBO x.l++(zEL zAY x.pc++T),false,lost||zAX L x.f⟩:=by
  unfold zDk plT;simp only [List.cons_append,List.nil_append,List.append_assoc,RS.next,List.tail_cons,List.isEmpty_cons,Bool.or_false];rw [show xa (zAi x.f :: zBx x.far :: (zEL zBO x.l++(zEL zAY x.pc++T))) 0=zAi x.f from rfl,p1];rw [show xa (zBx x.far :: (zEL zBO x.l++(zEL zAY x.pc++T))) 0=zBx x.far from rfl,(zHc x.far).2];simp [RS.mark]
 have hh:(zEL zAY x.pc++T).head?≠some zBO:=by
  unfold zEL;split
  ·exact h1
  ·simp
 have n1:=zSU zBO k2 k3 (zEL zAY x.pc++T) (lost||zAX L x.f) hh;have n2:=zSU zAY k4 k5 T (lost||zAX L x.f) h2;unfold zAN;rw [hS,n1];simp only;rw [n2];simp only [plT,List.cons_append,List.nil_append,List.append_assoc,List.tail_cons];rw [show xa (zAi x.f :: zBx x.far :: (zEL zBO x.l++(zEL zAY x.pc++T))) 0=zAi x.f from rfl,p2];rw [show xa (zBx x.far :: (zEL zBO x.l++(zEL zAY x.pc++T))) 0=zBx x.far from rfl,(zHc x.far).1];rfl
theorem zSV {L:List Fg} {s:RS} (h:(zKT L s).2.bad=false) :
  s.bad=false∧∃x:Nst×Bool,zBX x.1∧s.T=stT x++(zKT L s).2.T∧(zKT L s).1=pOf L x∧(zKT L s).2.lost=(s.lost||zAX L x.1.f):=by
 unfold zKT at h ⊢;simp only at h ⊢;obtain ⟨a1,T,a2,a3⟩:=zIV h;obtain ⟨b1,x,b2,b3,b4,b5⟩:=zIX a1;obtain ⟨c1,T1,c2,c3⟩:=zHd b1;have b3':T1=plT x++(zAN L s.over).2.T:=by rw [←b3,c3]
 have b5':(zAN L s.over).2.lost=(s.lost||zAX L x.f):=by rw [b5,c3]
 refine ⟨c1,(x,ovT (xa s.T 0)),b2,?_,?_,?_⟩
 ·rw [a3,stT,List.cons_append,List.append_assoc,List.singleton_append,←a2,←b3'];exact c2
 ·rw [b4];rfl
 ·rw [a3,b5']
theorem zVH (L:List Fg) {x:Nst×Bool} (h:zBX x.1) (T:List (List UInt8)) (lost:Bool) :
  zKT L (RS.mk (stT x++T) false lost)=(pOf L x,⟨T,false,lost||zAX L x.1.f⟩):=by
 obtain ⟨p1,p2⟩:=zDb x.2 (plT x.1++([44] :: T)) lost;have hT:stT x++T=zAw x.2 :: (plT x.1++([44] :: T)):=by simp [stT]
 have q:=zIY L h ([44] :: T) lost (by simp) (by simp);unfold zKT;rw [hT,p1,q];simp only;rw [zIW,p2];rfl
theorem zPl (L:List Fg):∀(n:Nat) {s:RS} {P:List Sp},s.T.length < n→(zDw L n s P).2.bad=false →
  s.bad=false∧∃(Q:List (Nst×Bool)) (x:Nst),(∀y∈Q,zBX y.1)∧zBX x∧s.T=Q.flatMap stT++zAx :: plT x++(zDw L n s P).2.T ∧
   (zDw L n s P).1=(P++Q.map (pOf L),sOf L x)∧(zDw L n s P).2.lost=(s.lost||zAU L Q||zAX L x.f)
 | 0,s,P,hn,_=>absurd hn (by omega)
 | n+1,s,P,hn,h=>by
  rw [zDw] at h ⊢
  cases hb:isB s.T zAx with
  | true =>
   rw [hb] at h;simp only [if_true] at h ⊢;obtain ⟨a1,x,a2,a3,a4,a5⟩:=zIX h;refine ⟨a1,[],x,by simp,a2,?_,by rw [a4];simp,by rw [a5];simp [zAU,RS.is]⟩;have h1:=zUa hb;rw [h1,show isT s.T zAx=plT x++(zAN L (s.is zAx)).2.T from a3];simp
  | false =>
   rw [hb] at h;simp only [Bool.false_eq_true,if_false] at h ⊢
   cases hs:(zKT L s).2.bad with
   | true =>
    rw [hs] at h;simp only [if_true] at h;rw [hs] at h;cases h
   | false =>
    rw [hs] at h;simp only [Bool.false_eq_true,if_false] at h ⊢;obtain ⟨a1,x,a2,a3,a4,a5⟩:=zSV hs;have hl:(zKT L s).2.T.length < n:=by
     have:=congrArg List.length a3;simp [stT] at this;omega
    obtain ⟨b1,Q,y,b2,b3,b4,b5,b6⟩:=zPl L n hl h;refine ⟨a1,x :: Q,y,fun z hz=>?_,b3,?_,?_,?_⟩
    ·rcases List.mem_cons.1 hz with rfl | hz
     ·exact a2
     ·exact b2 z hz
    ·rw [a3,b4];simp
    ·rw [b5,a4];simp
    ·rw [b6,a5];simp only [zAU,List.any_cons,Bool.or_assoc]
theorem zPm (L:List Fg) {x:Nst} (hx:zBX x):∀(n:Nat) (Q:List (Nst×Bool)) (P:List Sp) (lost:Bool),(∀y∈Q,zBX y.1)→Q.length < n →
  zDw L n (RS.mk (Q.flatMap stT++zAx :: plT x) false lost) P=((P++Q.map (pOf L),sOf L x),⟨[],false,lost||zAU L Q||zAX L x.f⟩)
 | 0,Q,P,lost,_,hn=>absurd hn (by omega)
 | n+1,[],P,lost,_,_=>by
  rw [zDw];have q:=zIY L hx [] lost (by simp) (by simp);rw [List.append_nil] at q;simp only [List.flatMap_nil,List.nil_append,zIO,if_true,RS.is,zFz];rw [q];simp [zAU]
 | n+1,y :: Q,P,lost,h,hn=>by
  rw [zDw,List.flatMap_cons,List.append_assoc];have hy:=h y (List.mem_cons_self ..);have q:=zVH L hy (Q.flatMap stT++zAx :: plT x) lost;have hb:isB (stT y++(Q.flatMap stT++zAx :: plT x)) zAx=false:=by
   rw [stT,List.cons_append];exact zSR _ (by cases y.2<;>decide)
  simp only [hb,Bool.false_eq_true,if_false];rw [q];simp only [Bool.false_eq_true,if_false];rw [zPm L hx n Q _ _ (fun z hz=>h z (List.mem_cons_of_mem _ hz)) (by simpa using hn)];simp [zAU,Bool.or_assoc]
theorem zCo {k:Int} (h1:1≤k) (h8:k≤8):zBy (zAs k)=k:=by
 have hk:k=1∨k=2∨k=3∨k=4∨k=5∨k=6∨k=7∨k=8:=by omega
 rcases hk with rfl | rfl | rfl | rfl | rfl | rfl | rfl | rfl<;>decide
theorem zHe {v:List UInt8} (h:zBy v≠0):1≤zBy v∧zBy v≤8∧v=zAs (zBy v):=by
 unfold zBy at h ⊢
 repeat (split;· rename_i e;exact ⟨by omega,by omega,e⟩)
 exact absurd (by repeat (rw [if_neg (by assumption)])) h
theorem zUb {L:List Fg} {s:RS} (h:(zEP L s).bad=false) :
  s.bad=false∧1≤zBy (xa s.T 0)∧zBy (xa s.T 0)≤8∧∃f,zAl f=true∧zDj L (xa s.T.tail 0)=zAK L f∧s.T=zAs (zBy (xa s.T 0)) :: zAi f :: (zEP L s).T∧(zEP L s).lost=(s.lost||zAX L f):=by
 unfold zEP at h ⊢;obtain ⟨a1,f,a2,a3,a4,a5⟩:=zIU h;rw [a5];obtain ⟨b1,y,T2,b2,b3,b4⟩:=zDx a1;obtain ⟨c1,c2,c3⟩:=zHb b1;rw [c3] at b2 b3 b4;obtain ⟨d1,x,T1,d2,d3,d4⟩:=zDx c1;rw [d4] at b2 b3 b4;simp only at b2 b4;have hk:zBy (xa s.T 0)≠0:=by simpa using c2
 obtain ⟨k1,k2,k3⟩:=zHe hk;refine ⟨d1,k1,k2,f,a2,a4,?_,?_⟩
 ·have hT:(s.next.mark (decide (zBy (xa s.T 0)=0))).next.T=T2:=by rw [c3,d4,b4]
  show s.T=zAs (zBy (xa s.T 0)) :: zAi f :: (s.next.mark (decide (zBy (xa s.T 0)=0))).next.T;rw [hT,←k3,a3,d3,d2,List.tail_cons,b2];rfl
 ·simp only;rw [c3,d4,b4]
theorem zUc (L:List Fg) {k:Int} {f:Fg} (h1:1≤k) (h8:k≤8) (hf:zAl f=true) (T:List (List UInt8)) (lost:Bool):zEP L (RS.mk (zAs k :: zAi f :: T) false lost)=⟨T,false,lost||zAX L f⟩:=by
 unfold zEP;simp only [List.tail_cons];rw [show xa (zAs k :: zAi f :: T) 0=zAs k from rfl,zCo h1 h8,show decide (k=0)=false from by simp;omega];simp only [RS.next,RS.mark,List.tail_cons,List.isEmpty_cons,Bool.or_false];rw [show xa (zAi f :: T) 0=zAi f from rfl,(zEl L hf T lost).1]
theorem zRo {L:List Fg} {T:List (List UInt8)} (h:(opR L ⟨T,false,false⟩).2.bad=false) (he:(opR L ⟨T,false,false⟩).2.T=[]) :
  ∃n,okN n∧T=zIQ n∧(opR L ⟨T,false,false⟩).1=oOf L n∧(opR L ⟨T,false,false⟩).2.lost=zAB L n:=by
 unfold opR at h he ⊢;obtain ⟨k,hk⟩:∃k,zBy (xa T 0)=k:=⟨_,rfl⟩
 obtain ⟨s,hs⟩:∃s,zEP L ⟨T,false,false⟩=s:=⟨_,rfl⟩
 have key:s.bad=false→1≤k∧k≤8∧∃f,zAl f=true∧zDj L (xa T.tail 0)=zAK L f∧T=zAs k :: zAi f :: s.T∧s.lost=zAX L f:=fun hb=>by
  rw [←hs] at hb;obtain ⟨_,a1,a2,f,a3,a4,a5,a6⟩:=zUb hb;rw [hk] at a1 a2 a5;rw [hs] at a5 a6;exact ⟨a1,a2,f,a3,a4,a5,by simpa using a6⟩
 simp only [hk,hs] at h he ⊢;unfold zBF at h he ⊢;by_cases k4:k=4
 ·rw [if_pos k4] at h he ⊢;obtain ⟨b1,T1,b2,b3⟩:=zHd h;obtain ⟨_,_,f,a3,a4,a5,a6⟩:=key b1;rw [b3] at he;simp only at he;subst he;refine ⟨⟨k,f,none,[],ovT (xa s.T 0)⟩,⟨a3,.inr (.inl ⟨k4,rfl,rfl⟩)⟩,?_,?_,?_⟩
  ·rw [a5,zIQ,tlT];simp only;rw [if_pos k4,←b2]
  ·rw [a4];rfl
  ·rw [b3];simp [zAB,zAU,a6]
 rw [if_neg k4] at h he ⊢;by_cases k3:k=3
 ·rw [if_pos k3] at h he ⊢;simp only at h he ⊢;obtain ⟨b1,Q,x,b2,b3,b4,b5,b6⟩:=zPl L _ (Nat.lt_succ_self _) h;obtain ⟨_,_,f,a3,a4,a5,a6⟩:=key b1;rw [he,List.append_nil] at b4;refine ⟨⟨k,f,some x,Q,false⟩,⟨a3,.inr (.inr (.inl ⟨k3,⟨x,rfl,b3⟩,b2,rfl⟩))⟩,?_,?_,?_⟩
  ·rw [a5,zIQ,tlT];simp only;rw [if_neg k4,if_pos k3,b4];rfl
  ·rw [a4,b5];simp [oOf]
  ·rw [b6,a6];simp [zAB]
 rw [if_neg k3] at h he ⊢;by_cases k5:k=5
 ·rw [if_pos k5] at h he ⊢;simp only at h he ⊢;obtain ⟨c1,T1,c2,c3⟩:=zHd h;obtain ⟨d1,x,d2,d3,d4,d5⟩:=zIX c1;obtain ⟨b1,T0,e2,e3⟩:=zIV d1;obtain ⟨_,_,f,a3,a4,a5,a6⟩:=key b1;rw [c3] at he;simp only at he;subst he;have FW:T0=plT x++(zAN L (s.must zAx)).2.T:=by rw [←d3,e3]
  have d5':(zAN L (s.must zAx)).2.lost=(s.lost||zAX L x.f):=by rw [d5,e3]
  generalize (zAN L (s.must zAx)).2.T=T9 at c2 FW ⊢;refine ⟨⟨k,f,some x,[],ovT (xa T9 0)⟩,⟨a3,.inr (.inr (.inr (.inl ⟨k5,⟨x,rfl,d2⟩,rfl⟩)))⟩,?_,?_,?_⟩
  ·rw [a5,zIQ,tlT];simp only;rw [if_neg k4,if_neg k3,if_pos k5,e2,FW,←c2];simp [frT]
  ·rw [a4,d4];rfl
  ·rw [c3];simp only;rw [d5',a6];simp [zAB,zAU]
 rw [if_neg k5] at h he ⊢;by_cases k6:k=6
 ·rw [if_pos k6] at h he ⊢;simp only at h he ⊢;obtain ⟨c1,T1,c2,c3⟩:=zHd h;obtain ⟨d1,g,d2,d3,d4,d5⟩:=zIU c1;obtain ⟨e1,y,T2,f2,f3,f4⟩:=zDx d1;obtain ⟨b1,T0,e2,e3⟩:=zIV e1;obtain ⟨_,_,f,a3,a4,a5,a6⟩:=key b1;rw [c3] at he;simp only at he;subst he;rw [d5,f4] at c2;simp only at c2;rw [e3] at f2;simp only at f2;have hov:xa (s.must zAx).T.tail 0=xa T2 0:=by rw [e3];simp only;rw [f2,List.tail_cons]
  obtain ⟨ov,oI⟩:∃b,ovT (xa T2 0)=b:=⟨_,rfl⟩
  rw [oI] at c2;refine ⟨⟨k,f,some ⟨g,0,false,0⟩,[],ov⟩,⟨a3,.inr (.inr (.inr (.inr ⟨.inl k6,⟨g,rfl,d2⟩,rfl⟩)))⟩,?_,?_,?_⟩
  ·rw [a5,zIQ,tlT];simp only;rw [if_neg k4,if_neg k3,if_neg k5,if_pos k6,e2,f2,c2];simp only [frN];rw [d3,f3]
  ·rw [a4,d4,hov,oI];rfl
  ·rw [c3,d5];simp only;rw [f4,e3];simp only;rw [a6];simp [zAB,zAU]
 rw [if_neg k6] at h he ⊢;by_cases k7:k=7
 ·rw [if_pos k7] at h he ⊢;simp only at h he ⊢;obtain ⟨c1,T1,c2,c3⟩:=zHd h;obtain ⟨d1,g,d2,d3,d4,d5⟩:=zIU c1;obtain ⟨e1,y,T2,f2,f3,f4⟩:=zDx d1;obtain ⟨b1,T0,e2,e3⟩:=zIV e1;obtain ⟨_,_,f,a3,a4,a5,a6⟩:=key b1;rw [c3] at he;simp only at he;subst he;rw [d5,f4] at c2;simp only at c2;rw [e3] at f2;simp only at f2;have hov:xa (s.must zDm).T.tail 0=xa T2 0:=by rw [e3];simp only;rw [f2,List.tail_cons]
  obtain ⟨ov,oI⟩:∃b,ovT (xa T2 0)=b:=⟨_,rfl⟩
  rw [oI] at c2;refine ⟨⟨k,f,some ⟨g,0,false,0⟩,[],ov⟩,⟨a3,.inr (.inr (.inr (.inr ⟨.inr k7,⟨g,rfl,d2⟩,rfl⟩)))⟩,?_,?_,?_⟩
  ·rw [a5,zIQ,tlT];simp only;rw [if_neg k4,if_neg k3,if_neg k5,if_neg k6,if_pos k7,e2,f2,c2];simp only [frN];rw [d3,f3]
  ·rw [a4,d4,hov,oI];rfl
  ·rw [c3,d5];simp only;rw [f4,e3];simp only;rw [a6];simp [zAB,zAU]
 rw [if_neg k7] at h he ⊢;simp only at h he ⊢;obtain ⟨a1,a2,f,a3,a4,a5,a6⟩:=key h;refine ⟨⟨k,f,none,[],false⟩,⟨a3,.inl ⟨by simp only;omega,rfl,rfl,rfl⟩⟩,?_,?_,?_⟩
 ·rw [a5,zIQ,tlT,he];simp only;rw [if_neg k4,if_neg k3,if_neg k5,if_neg k6,if_neg k7]
 ·rw [a4];rfl
 ·rw [a6];simp [zAB,zAU]
theorem zMA (Q:List (Nst×Bool)):Q.length≤(Q.flatMap stT).length:=by
 induction Q with
 | nil=>simp
 | cons x Q ih =>
  have:1≤(stT x).length:=by simp [stT]
  rw [List.flatMap_cons,List.length_append,List.length_cons];omega
theorem zXc (L:List Fg) {n:Nop} (h:okN n):opR L ⟨zIQ n,false,false⟩=(oOf L n,⟨[],false,zAB L n⟩):=by
 obtain ⟨hf,hk⟩:=h;obtain ⟨k,f,fr,path,over⟩:=n;unfold zGX at hk;simp only at hf hk;have gH:1≤k∧k≤8:=by
  rcases hk with ⟨h,_⟩ | ⟨h,_⟩ | ⟨h,_⟩ | ⟨h,_⟩ | ⟨h,_⟩<;>omega
 have hh:=zUc L gH.1 gH.2 hf (tlT ⟨k,f,fr,path,over⟩) false;have hkv:=zCo gH.1 gH.2;unfold opR;rw [show zIQ ⟨k,f,fr,path,over⟩=zAs k :: zAi f :: tlT ⟨k,f,fr,path,over⟩ from rfl,hh];simp only [List.tail_cons];rw [show xa (zAs k :: zAi f :: tlT ⟨k,f,fr,path,over⟩) 0=zAs k from rfl,hkv];rw [show xa (zAi f :: tlT ⟨k,f,fr,path,over⟩) 0=zAi f from rfl,(zEl L hf [] false).2];simp only [Bool.false_or];unfold zBF tlT;simp only;rcases hk with ⟨e,rfl,rfl,rfl⟩ | ⟨rfl,rfl,rfl⟩ | ⟨rfl,⟨x,rfl,hx⟩,hp,rfl⟩ | ⟨rfl,⟨x,rfl,hx⟩,rfl⟩ | ⟨e,⟨g,rfl,hg⟩,rfl⟩
 ·have n4:¬k=4:=by omega
  have n3:¬k=3:=by omega
  have n5:¬k=5:=by omega
  have n6:¬k=6:=by omega
  have n7:¬k=7:=by omega
  simp only [if_neg n4,if_neg n3,if_neg n5,if_neg n6,if_neg n7];simp [oOf,zAB,zAU]
 ·simp only [if_true];rw [(zDb over [] (zAX L f)).1,(zDb over [] (zAX L f)).2];simp [oOf,zAB,zAU]
 ·simp only [show ¬((3:Int)=4) from by omega,if_false,if_true,frT];rw [zPm L hx _ path [] (zAX L f) hp (by have:=zMA path;rw [List.length_append];omega)];simp [oOf,zAB]
 ·simp only [show ¬((5:Int)=4) from by omega,show ¬((5:Int)=3) from by omega,if_false,if_true,frT];rw [zIW,zIY L hx [zAw over] (zAX L f) (by cases over<;>decide) (by cases over<;>decide)];simp only;rw [(zDb over [] (zAX L f||zAX L x.f)).1,(zDb over [] (zAX L f)).2];simp [oOf,zAB,zAU]
 ·rcases e with rfl | rfl
  ·simp only [show ¬((6:Int)=4) from by omega,show ¬((6:Int)=3) from by omega,show ¬((6:Int)=5) from by omega,if_false,if_true,frN];rw [zIW];simp only [RS.next,List.tail_cons,List.isEmpty_cons,Bool.or_false];rw [show xa [zAi g,zAw over] 0=zAi g from rfl,(zEl L hg [zAw over] (zAX L f)).1,(zEl L hg [] false).2,(zDb over [] _).1,(zDb over [] (zAX L f)).2];simp [oOf,zAB,zAU,sOf]
  ·simp only [show ¬((7:Int)=4) from by omega,show ¬((7:Int)=3) from by omega,show ¬((7:Int)=5) from by omega,show ¬((7:Int)=6) from by omega,if_false,if_true,frN];rw [zIW];simp only [RS.next,List.tail_cons,List.isEmpty_cons,Bool.or_false];rw [show xa [zAi g,zAw over] 0=zAi g from rfl,(zEl L hg [zAw over] (zAX L f)).1,(zEl L hg [] false).2,(zDb over [] _).1,(zDb over [] (zAX L f)).2];simp [oOf,zAB,zAU,sOf]
end Go.Proofs.YtlmdfmnbcndhoaaGreatDoor
