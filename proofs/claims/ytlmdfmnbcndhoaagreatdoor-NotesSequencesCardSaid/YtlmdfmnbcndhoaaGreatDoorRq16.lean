/-
  Lemmas, part 16. Conditions: each theorem's own.
-/
import Derived.Test.YtlmdfmnbcndhoaaGreatDoorRq15
import Derived.Laws.RangeAny
open Go.Value renaming bool→G,int→D,string→W
open Go.IntKind renaming i64→J
open Option renaming none→U,some→Z
open Bool renaming false→E,true→Q
namespace Go.Proofs.YtlmdfmnbcndhoaaGreatDoor
open Go.RowKit
def zOO (b:UInt8):Bool:=decide (48≤b.toNat)&&decide (b.toNat≤57)
def zHN (a:Nat) (S:List UInt8):Nat:=S.foldl (fun a b=>10*a+(b.toNat-48)) a
def zAu (S:List UInt8):Int×Bool:=if S≠[]∧S.length≤9∧S.head?≠Z 48∧S.all zOO=Q then ((zHN 0 S:Nat),Q) else (0,E)
theorem zHd (a:Nat) (S:List UInt8) (b:UInt8):zHN a (S++[b])=10*zHN a S+(b.toNat-48):=by simp [zHN,List.foldl_append]
theorem zHe {b:UInt8} (h:zOO b=Q):48≤b.toNat∧b.toNat≤57:=by simpa [zOO] using h
theorem zPV {b:UInt8} {d:Nat} (h:b.toNat=48+d):UInt8.ofNat (48+d)=b:=by rw [←h];exact UInt8.ofNat_toNat
theorem zPW:∀(n:Nat) {S:List UInt8},S.length=n→S≠[]→S.head?≠Z 48→S.all zOO=Q→Lib.decDigits (zHN 0 S)=S∧1≤zHN 0 S∧zHN 0 S < 10 ^ n
 | 0,S,hn,h0,_,_=>absurd (List.length_eq_zero_iff.1 hn) h0
 | n+1,S,hn,h0,h1,h2=>by
  obtain ⟨I,b,rfl⟩:∃I b,S=I++[b]:=⟨S.dropLast,S.getLast h0,(List.dropLast_concat_getLast h0).symm⟩
  rw [List.all_append,Bool.and_eq_true] at h2;have hb:=zHe (by simpa using h2.2);rw [zHd];by_cases hI:I=[]
  ·subst hI
   have aa:b.toNat≠48:=fun e=>h1 (by
    have:b=48:=UInt8.toNat.inj e
    rw [this];rfl)
   have vb:n=0:=by simpa using hn.symm
   subst vb;refine ⟨?_,?_,?_⟩
   ·rw [show 10*zHN 0 []+(b.toNat-48)=b.toNat-48 from by simp [zHN],Lib.decDigits_one (by omega),zPV (b:=b) (by omega)];rfl
   ·simp [zHN];omega
   ·simp [zHN];omega
  ·have hnI:I.length=n:=by simpa using hn
   obtain ⟨k1,k2,k3⟩:=zPW n hnI hI (by cases I with | nil=>exact absurd rfl hI | cons x I=>simpa using h1) h2.1;refine ⟨?_,by omega,?_⟩
   ·rw [Lib.decDigits,dif_neg (by omega),show (10*zHN 0 I+(b.toNat-48)) / 10=zHN 0 I by omega,k1,show (10*zHN 0 I+(b.toNat-48)) % 10=b.toNat-48 by omega,zPV (b:=b) (by omega)]
   ·rw [Nat.pow_succ];omega
theorem zDt {S:List UInt8} {n:Int} (h:zAu S=(n,Q)):S=Lib.itoa n∧1≤n∧n≤999999999:=by
 unfold zAu at h;split at h
 ·rename_i hc;obtain ⟨h1,h2,h3,h4⟩:=hc;obtain ⟨k1,k2,k3⟩:=zPW S.length rfl h1 h3 h4;have hn:((zHN 0 S:Nat):Int)=n:=congrArg Prod.fst h;have hp:10 ^ S.length≤10 ^ 9:=Nat.pow_le_pow_right (by omega) h2;refine ⟨?_,by omega,by omega⟩;rw [←hn];unfold Lib.itoa;rw [if_neg (by omega),Int.toNat_natCast,k1]
 ·have:=congrArg Prod.snd h;simp at this
theorem zPX:∀(k:Nat) {u:Nat},u < 10 ^ (k+1)→(Lib.decDigits u).length≤k+1
 | 0,u,h=>by rw [Lib.decDigits_one (by omega)];simp
 | k+1,u,h=>by
  rw [Lib.decDigits];split
  ·simp
  ·have:=zPX k (u:=u / 10) (by rw [Nat.pow_succ] at h;omega);simp;omega
theorem zRO {u:Nat} (h:1≤u):(Lib.decDigits u).head?≠Z 48:=by
 induction u using Nat.strongRecOn with
 | _ u ih =>
  rw [Lib.decDigits];split
  ·rename_i h1;intro e;have:=zJq (a:=48+u) (b:=48) (by omega) (by omega) (by simpa using e);omega
  ·rename_i h1;have:=ih (u / 10) (by omega) (by omega);rw [List.head?_append]
   cases hd:(Lib.decDigits (u / 10)).head? with
   | none=>exact absurd (List.head?_eq_none_iff.1 hd) (zGF _)
   | some x=>rw [hd] at this;simpa using this
theorem zUn (u:Nat):zHN 0 (Lib.decDigits u)=u:=by
 induction u using Nat.strongRecOn with
 | _ u ih =>
  rw [Lib.decDigits];split
  ·rename_i h;simp only [zHN,List.foldl];rw [zFl h];omega
  ·rename_i h;rw [zHd,ih (u / 10) (by omega),zFl (by omega)];omega
theorem zIJ {n:Int} (h1:1≤n) (h2:n≤999999999):zAu (Lib.itoa n)=(n,Q):=by
 obtain ⟨u,rfl⟩:=Int.eq_ofNat_of_zero_le (by omega:0≤n);have hi:Lib.itoa (u:Int)=Lib.decDigits u:=by unfold Lib.itoa;rw [if_neg (by omega)];simp
 have ha:(Lib.decDigits u).all zOO=Q:=by
  rw [List.all_eq_true];intro b hb;have:=zDp u b hb;simp [zOO,this]
 unfold zAu;rw [hi,if_pos ⟨zGF u,zPX 8 (by omega),zRO (by omega),ha⟩,zUn]
structure RS where
 T:List (List UInt8)
 bad:Bool
 lost:Bool
def RS.next (s:RS):RS:=⟨s.T.tail,s.bad||s.T.isEmpty,s.lost⟩
def RS.is (s:RS) (ZR:List UInt8):RS:=⟨isT s.T ZR,s.bad,s.lost⟩
noncomputable def RS.fing (s:RS) (L:List Fg) (S:List UInt8):RS:=⟨s.T,s.bad||zKD S,s.lost||zEQ L S⟩
def RS.mark (s:RS) (b:Bool):RS:=⟨s.T,s.bad||b,s.lost⟩
def RS.over (s:RS):RS:=s.next.mark (!(ovT (xa s.T 0)||unT (xa s.T 0)))
def RS.must (s:RS) (ZR:List UInt8):RS:=if s.bad then s else (s.is ZR).mark (!isB s.T ZR)
def zFc (ZR:List UInt8) (s:RS):Int×RS :=
 if isB s.T ZR then ((zAu (xa (isT s.T ZR) 0)).1,(s.is ZR).next.mark (!(zAu (xa (isT s.T ZR) 0)).2)) else (0,s)
def neT (S:List UInt8):Bool:=S==zWc
def faT (S:List UInt8):Bool:=S==farW
noncomputable def zDE (L:List Fg) (s:RS):RS:=((s.next.fing L (xa s.T 0)).next).mark (!(neT (xa s.T.tail 0)||faT (xa s.T.tail 0)))
noncomputable def zAV (L:List Fg) (s:RS):Sg×RS :=
 (⟨zEy L (xa s.T 0),(zFc zDd (zDE L s)).1,faT (xa s.T.tail 0),(zFc zCa (zFc zDd (zDE L s)).2).1⟩,(zFc zCa (zFc zDd (zDE L s)).2).2)
noncomputable def zLn (L:List Fg) (s:RS):Sp×RS:=(⟨(zAV L s.over).1,ovT (xa s.T 0)⟩,(zAV L s.over).2.must [44])
noncomputable def zDX (L:List Fg):Nat→RS→List Sp→(List Sp×Sg)×RS
 | 0,s,P=>((P,s0),s)
 | n+1,s,P =>
  if isB s.T zAT then ((P,(zAV L (s.is zAT)).1),(zAV L (s.is zAT)).2)
  else if (zLn L s).2.bad then ((P++[(zLn L s).1],s0),(zLn L s).2) else zDX L n (zLn L s).2 (P++[(zLn L s).1])
def zBQ (v:List UInt8):Int :=
 if v=zBk 1 then 1 else if v=zBk 2 then 2 else if v=zBk 3 then 3 else if v=zBk 4 then 4 else if v=zBk 5 then 5 else if v=zBk 6 then 6 else if v=zBk 7 then 7 else if v=zBk 8 then 8 else 0
noncomputable def zFu (L:List Fg) (s:RS):RS:=((s.next.mark (decide (zBQ (xa s.T 0)=0))).next).fing L (xa s.T.tail 0)
noncomputable def zBV (L:List Fg) (k f:Int) (s:RS):Og×RS :=
 if k=4 then (⟨k,f,s0,[],ovT (xa s.T 0)⟩,s.over)
 else if k=3 then (⟨k,f,(zDX L (s.T.length+1) s []).1.2,(zDX L (s.T.length+1) s []).1.1,E⟩,(zDX L (s.T.length+1) s []).2)
 else if k=5 then (⟨k,f,(zAV L (s.must zAT)).1,[],ovT (xa (zAV L (s.must zAT)).2.T 0)⟩,(zAV L (s.must zAT)).2.over)
 else if k=6 then (⟨k,f,⟨zEy L (xa (s.must zAT).T 0),0,E,0⟩,[],ovT (xa (s.must zAT).T.tail 0)⟩,((s.must zAT).next.fing L (xa (s.must zAT).T 0)).over)
 else if k=7 then (⟨k,f,⟨zEy L (xa (s.must zER).T 0),0,E,0⟩,[],ovT (xa (s.must zER).T.tail 0)⟩,((s.must zER).next.fing L (xa (s.must zER).T 0)).over)
 else (⟨k,f,s0,[],E⟩,s)
noncomputable def opR (L:List Fg) (s:RS):Og×RS:=zBV L (zBQ (xa s.T 0)) (zEy L (xa s.T.tail 0)) (zFu L s)
theorem zDY {s:RS} (h:s.next.bad=E):s.bad=E∧∃x T,s.T=x :: T∧xa s.T 0=x∧s.next=⟨T,E,s.lost⟩:=by
 obtain ⟨T,bad,lost⟩:=s
 cases T with
 | nil=>simp [RS.next] at h
 | cons x T =>
  have hb:bad=E:=by simpa [RS.next] using h
  exact ⟨hb,x,T,rfl,rfl,by simp [RS.next,hb]⟩
theorem zJz {s:RS} {L:List Fg} {S:List UInt8} (h:(s.fing L S).bad=E) :
  s.bad=E∧∃f,zAx f=Q∧zAq f=S∧zEy L S=zBa L f∧s.fing L S=⟨s.T,E,s.lost||zBF L f⟩:=by
 unfold RS.fing zKD zEQ at h ⊢;simp only [Bool.or_eq_false_iff] at h
 cases hp:zIH S with
 | none=>rw [hp] at h;simp at h
 | some f =>
  rw [hp] at h;obtain ⟨k1,k2⟩:=zLP hp;refine ⟨h.1,f,k1,k2,by unfold zEy;rw [hp],?_⟩;simp only [h.1];rfl
theorem zES (L:List Fg) {f:Fg} (hf:zAx f=Q) (T:List (List UInt8)) (lost:Bool):(RS.mk T E lost).fing L (zAq f)=⟨T,E,lost||zBF L f⟩∧zEy L (zAq f)=zBa L f:=by
 have hp:=zFp hf rfl;unfold RS.fing zKD zEQ zEy;rw [hp];exact ⟨rfl,rfl⟩
theorem zHO {s:RS} {b:Bool} (h:(s.mark b).bad=E):s.bad=E∧b=E∧s.mark b=s:=by
 obtain ⟨T,bad,lost⟩:=s;unfold RS.mark at h ⊢;simp only [Bool.or_eq_false_iff] at h;obtain ⟨rfl,rfl⟩:=h;exact ⟨rfl,rfl,rfl⟩
theorem zXA (S:List UInt8) (h:(!(ovT S||unT S))=E):S=zBd (ovT S):=by
 simp only [Bool.not_eq_false',Bool.or_eq_true] at h;rcases h with h | h
 ·rw [h];exact (show S=[111,118,101,114] by simpa [ovT] using h)
 ·have h2:S=[117,110,100,101,114]:=by simpa [unT] using h
  subst h2;rfl
theorem zUo (b:Bool):ovT (zBd b)=b∧(!(ovT (zBd b)||unT (zBd b)))=E:=by cases b<;>decide
theorem zUp (S:List UInt8) (h:(!(neT S||faT S))=E):S=zCB (faT S):=by
 simp only [Bool.not_eq_false',Bool.or_eq_true] at h;rcases h with h | h
 ·have h2:S=zWc:=by simpa [neT] using h
  subst h2;rfl
 ·rw [h];exact (show S=farW by simpa [faT] using h)
theorem zKG (b:Bool):faT (zCB b)=b∧(!(neT (zCB b)||faT (zCB b)))=E:=by cases b<;>decide
theorem zHP {s:RS} (h:s.over.bad=E):s.bad=E∧∃T,s.T=zBd (ovT (xa s.T 0)) :: T∧s.over=⟨T,E,s.lost⟩:=by
 unfold RS.over at h ⊢;obtain ⟨h1,h2,h3⟩:=zHO h;obtain ⟨k1,x,T,k2,k3,k4⟩:=zDY h1;rw [h3,k4];exact ⟨k1,T,by rw [←zXA _ h2,k3,k2],rfl⟩
theorem zDu (b:Bool) (T:List (List UInt8)) (lost:Bool):(RS.mk (zBd b :: T) E lost).over=⟨T,E,lost⟩∧ovT (xa (zBd b :: T) 0)=b:=by
 have:=zUo b;unfold RS.over RS.next RS.mark;simp only [show xa (zBd b :: T) 0=zBd b from rfl,this.2,List.tail_cons,List.isEmpty_cons,Bool.or_false];exact ⟨trivial,this.1⟩
theorem zUq {T:List (List UInt8)} {ZR:List UInt8} (h:isB T ZR=Q):T=ZR :: isT T ZR:=by
 cases T with
 | nil=>simp [isB] at h
 | cons x T =>
  have:x=ZR:=by simpa [isB] using h
  subst this;rw [zGh]
theorem zJA {s:RS} {ZR:List UInt8} (h:(s.must ZR).bad=E):s.bad=E∧∃T,s.T=ZR :: T∧s.must ZR=⟨T,E,s.lost⟩:=by
 unfold RS.must at h ⊢
 cases hb:s.bad with
 | true=>rw [if_pos hb,hb] at h;cases h
 | false =>
  rw [if_neg (by rw [hb];simp)] at h;obtain ⟨_,h2,h3⟩:=zHO h;have hi:isB s.T ZR=Q:=by simpa using h2
  refine ⟨rfl,isT s.T ZR,zUq hi,?_⟩;rw [if_neg (by simp),h3];unfold RS.is;rw [hb]
theorem zJB (ZR:List UInt8) (T:List (List UInt8)) (lost:Bool):(RS.mk (ZR :: T) E lost).must ZR=⟨T,E,lost⟩:=by
 unfold RS.must RS.mark RS.is;simp only [zJr,zGh];rfl
theorem zTo {ZR:List UInt8} {s:RS} (h:(zFc ZR s).2.bad=E):s.bad=E∧(zFc ZR s).2.lost=s.lost∧0≤(zFc ZR s).1∧(zFc ZR s).1≤999999999∧s.T=zHc ZR (zFc ZR s).1++(zFc ZR s).2.T:=by
 unfold zFc at h ⊢
 cases hb:isB s.T ZR with
 | false =>
  rw [hb] at h;simp only [Bool.false_eq_true,if_false] at h ⊢;exact ⟨h,trivial,by omega,by omega,by simp [zHc]⟩
 | true =>
  rw [hb] at h;simp only [if_true] at h ⊢;obtain ⟨h1,h2,h3⟩:=zHO h;obtain ⟨k1,x,T,k2,k3,k4⟩:=zDY h1;rw [h3,k4];have hT:isT s.T ZR=x :: T:=k2;have hxa:xa (isT s.T ZR) 0=x:=by rw [hT];rfl
  rw [hxa] at h2 ⊢
  obtain ⟨c1,c2,c3⟩:=zDt (S:=x) (n:=(zAu x).1) (by
   have:(zAu x).2=Q:=by simpa using h2
   rw [←this])
  refine ⟨k1,rfl,by omega,by omega,?_⟩;have:=zUq hb;rw [hT] at this;rw [this,zHc,if_neg (by omega),←c1];rfl
theorem zTp (ZR:List UInt8) {n:Int} (h0:0≤n) (h1:n≤999999999) (T:List (List UInt8)) (lost:Bool) (hT:T.head?≠Z ZR):zFc ZR (RS.mk (zHc ZR n++T) E lost)=(n,⟨T,E,lost⟩):=by
 unfold zFc zHc;by_cases e:n=0
 ·subst e;have:isB T ZR=E:=by simp [isB,hT]
  simp [this]
 ·rw [if_neg e];have hc:=zIJ (n:=n) (by omega) h1;simp only [List.cons_append,List.nil_append,zJr,zGh,if_true];rw [show xa (Lib.itoa n :: T) 0=Lib.itoa n from rfl,hc];unfold RS.mark RS.next RS.is;simp [zGh]
theorem zJC {L:List Fg} {s:RS} (h:(zAV L s).2.bad=E) :
  s.bad=E∧∃x:Nst,zCR x∧s.T=plT x++(zAV L s).2.T∧(zAV L s).1=sOf L x∧(zAV L s).2.lost=(s.lost||zBF L x.f):=by
 unfold zAV at h ⊢;simp only at h ⊢;obtain ⟨a1,a2,a3,a4,a5⟩:=zTo h;obtain ⟨b1,b2,b3,b4,b5⟩:=zTo a1;generalize (zFc zCa (zFc zDd (zDE L s)).2).1=pc at a3 a4 a5 ⊢;generalize (zFc zCa (zFc zDd (zDE L s)).2).2=s6 at a2 a5 ⊢;generalize (zFc zDd (zDE L s)).1=lo at b3 b4 b5 ⊢;generalize (zFc zDd (zDE L s)).2=s5 at a2 a5 b2 b5;unfold zDE at b1 b2 b5;obtain ⟨c1,c2,c3⟩:=zHO b1;rw [c3] at b2 b5;obtain ⟨d1,y,T2,d2,d3,d4⟩:=zDY c1;rw [d4] at b2 b5;obtain ⟨e1,f,e2,e3,e4,e5⟩:=zJz d1;rw [e5] at d2 b2;simp only at d2 b2 b5;obtain ⟨f1,x,T1,f2,f3,f4⟩:=zDY e1;rw [f4] at d2 b2;simp only at d2 b2;have hx:xa s.T.tail 0=y:=by rw [f2,List.tail_cons,d2];rfl
 have hs:=zUp _ c2;refine ⟨f1,⟨f,lo,faT (xa s.T.tail 0),pc⟩,⟨e2,b3,b4,a3,a4⟩,?_,?_,?_⟩
 ·have hside:zCB (faT (xa s.T.tail 0))=y:=by rw [←hs,hx]
  unfold plT;simp only;rw [hside,e3,f3,f2,d2,b5,a5];simp
 ·unfold sOf;simp only [e4]
 ·rw [a2,b2]
theorem zJD (L:List Fg) {x:Nst} (h:zCR x) (T:List (List UInt8)) (lost:Bool) (h1:T.head?≠Z zDd) (h2:T.head?≠Z zCa) :
  zAV L (RS.mk (plT x++T) E lost)=(sOf L x,⟨T,E,lost||zBF L x.f⟩):=by
 obtain ⟨k1,k2,k3,k4,k5⟩:=h;obtain ⟨p1,p2⟩:=zES L k1 (zCB x.far :: (zHc zDd x.l++(zHc zCa x.pc++T))) lost;have hS:zDE L (RS.mk (plT x++T) E lost)=⟨zHc zDd x.l++(zHc zCa x.pc++T),E,lost||zBF L x.f⟩:=by
  unfold zDE plT;simp only [List.cons_append,List.nil_append,List.append_assoc,RS.next,List.tail_cons,List.isEmpty_cons,Bool.or_false];rw [show xa (zAq x.f :: zCB x.far :: (zHc zDd x.l++(zHc zCa x.pc++T))) 0=zAq x.f from rfl,p1];rw [show xa (zCB x.far :: (zHc zDd x.l++(zHc zCa x.pc++T))) 0=zCB x.far from rfl,(zKG x.far).2];simp [RS.mark]
 have hh:(zHc zCa x.pc++T).head?≠Z zDd:=by
  unfold zHc;split
  ·exact h1
  ·simp
 have n1:=zTp zDd k2 k3 (zHc zCa x.pc++T) (lost||zBF L x.f) hh;have n2:=zTp zCa k4 k5 T (lost||zBF L x.f) h2;unfold zAV;rw [hS,n1];simp only;rw [n2];simp only [plT,List.cons_append,List.nil_append,List.append_assoc,List.tail_cons];rw [show xa (zAq x.f :: zCB x.far :: (zHc zDd x.l++(zHc zCa x.pc++T))) 0=zAq x.f from rfl,p2];rw [show xa (zCB x.far :: (zHc zDd x.l++(zHc zCa x.pc++T))) 0=zCB x.far from rfl,(zKG x.far).1];rfl
theorem zTq {L:List Fg} {s:RS} (h:(zLn L s).2.bad=E) :
  s.bad=E∧∃x:Nst×Bool,zCR x.1∧s.T=stT x++(zLn L s).2.T∧(zLn L s).1=pOf L x∧(zLn L s).2.lost=(s.lost||zBF L x.1.f):=by
 unfold zLn at h ⊢;simp only at h ⊢;obtain ⟨a1,T,a2,a3⟩:=zJA h;obtain ⟨b1,x,b2,b3,b4,b5⟩:=zJC a1;obtain ⟨c1,T1,c2,c3⟩:=zHP b1;have b3':T1=plT x++(zAV L s.over).2.T:=by rw [←b3,c3]
 have b5':(zAV L s.over).2.lost=(s.lost||zBF L x.f):=by rw [b5,c3]
 refine ⟨c1,(x,ovT (xa s.T 0)),b2,?_,?_,?_⟩
 ·rw [a3,stT,List.cons_append,List.append_assoc,List.singleton_append,←a2,←b3'];exact c2
 ·rw [b4];rfl
 ·rw [a3,b5']
theorem zWe (L:List Fg) {x:Nst×Bool} (h:zCR x.1) (T:List (List UInt8)) (lost:Bool) :
  zLn L (RS.mk (stT x++T) E lost)=(pOf L x,⟨T,E,lost||zBF L x.1.f⟩):=by
 obtain ⟨p1,p2⟩:=zDu x.2 (plT x.1++([44] :: T)) lost;have hT:stT x++T=zBd x.2 :: (plT x.1++([44] :: T)):=by simp [stT]
 have q:=zJD L h ([44] :: T) lost (by simp) (by simp);unfold zLn;rw [hT,p1,q];simp only;rw [zJB,p2];rfl
theorem zPY (L:List Fg):∀(n:Nat) {s:RS} {P:List Sp},s.T.length < n→(zDX L n s P).2.bad=E →
  s.bad=E∧∃(ZS:List (Nst×Bool)) (x:Nst),(∀y∈ZS,zCR y.1)∧zCR x∧s.T=ZS.flatMap stT++zAT :: plT x++(zDX L n s P).2.T ∧
   (zDX L n s P).1=(P++ZS.map (pOf L),sOf L x)∧(zDX L n s P).2.lost=(s.lost||zBK L ZS||zBF L x.f)
 | 0,s,P,hn,_=>absurd hn (by omega)
 | n+1,s,P,hn,h=>by
  rw [zDX] at h ⊢
  cases hb:isB s.T zAT with
  | true =>
   rw [hb] at h;simp only [if_true] at h ⊢;obtain ⟨a1,x,a2,a3,a4,a5⟩:=zJC h;refine ⟨a1,[],x,by simp,a2,?_,by rw [a4];simp,by rw [a5];simp [zBK,RS.is]⟩;have h1:=zUq hb;rw [h1,show isT s.T zAT=plT x++(zAV L (s.is zAT)).2.T from a3];simp
  | false =>
   rw [hb] at h;simp only [Bool.false_eq_true,if_false] at h ⊢
   cases hs:(zLn L s).2.bad with
   | true =>
    rw [hs] at h;simp only [if_true] at h;rw [hs] at h;cases h
   | false =>
    rw [hs] at h;simp only [Bool.false_eq_true,if_false] at h ⊢;obtain ⟨a1,x,a2,a3,a4,a5⟩:=zTq hs;have hl:(zLn L s).2.T.length < n:=by
     have:=congrArg List.length a3;simp [stT] at this;omega
    obtain ⟨b1,ZS,y,b2,b3,b4,b5,b6⟩:=zPY L n hl h;refine ⟨a1,x :: ZS,y,fun z hz=>?_,b3,?_,?_,?_⟩
    ·rcases List.mem_cons.1 hz with rfl | hz
     ·exact a2
     ·exact b2 z hz
    ·rw [a3,b4];simp
    ·rw [b5,a4];simp
    ·rw [b6,a5];simp only [zBK,List.any_cons,Bool.or_assoc]
theorem zPZ (L:List Fg) {x:Nst} (hx:zCR x):∀(n:Nat) (ZS:List (Nst×Bool)) (P:List Sp) (lost:Bool),(∀y∈ZS,zCR y.1)→ZS.length < n →
  zDX L n (RS.mk (ZS.flatMap stT++zAT :: plT x) E lost) P=((P++ZS.map (pOf L),sOf L x),⟨[],E,lost||zBK L ZS||zBF L x.f⟩)
 | 0,ZS,P,lost,_,hn=>absurd hn (by omega)
 | n+1,[],P,lost,_,_=>by
  rw [zDX];have q:=zJD L hx [] lost (by simp) (by simp);rw [List.append_nil] at q;simp only [List.flatMap_nil,List.nil_append,zJr,if_true,RS.is,zGh];rw [q];simp [zBK]
 | n+1,y :: ZS,P,lost,h,hn=>by
  rw [zDX,List.flatMap_cons,List.append_assoc];have hy:=h y (List.mem_cons_self ..);have q:=zWe L hy (ZS.flatMap stT++zAT :: plT x) lost;have hb:isB (stT y++(ZS.flatMap stT++zAT :: plT x)) zAT=E:=by
   rw [stT,List.cons_append];exact zTn _ (by cases y.2<;>decide)
  simp only [hb,Bool.false_eq_true,if_false];rw [q];simp only [Bool.false_eq_true,if_false];rw [zPZ L hx n ZS _ _ (fun z hz=>h z (List.mem_cons_of_mem _ hz)) (by simpa using hn)];simp [zBK,Bool.or_assoc]
theorem zDZ {k:Int} (h1:1≤k) (h8:k≤8):zBQ (zBk k)=k:=by
 have hk:k=1∨k=2∨k=3∨k=4∨k=5∨k=6∨k=7∨k=8:=by omega
 rcases hk with rfl | rfl | rfl | rfl | rfl | rfl | rfl | rfl<;>decide
theorem zHQ {v:List UInt8} (h:zBQ v≠0):1≤zBQ v∧zBQ v≤8∧v=zBk (zBQ v):=by
 unfold zBQ at h ⊢
 repeat (split;· rename_i e;exact ⟨by omega,by omega,e⟩)
 exact absurd (by repeat (rw [if_neg (by assumption)])) h
theorem zUr {L:List Fg} {s:RS} (h:(zFu L s).bad=E) :
  s.bad=E∧1≤zBQ (xa s.T 0)∧zBQ (xa s.T 0)≤8∧∃f,zAx f=Q∧zEy L (xa s.T.tail 0)=zBa L f∧s.T=zBk (zBQ (xa s.T 0)) :: zAq f :: (zFu L s).T∧(zFu L s).lost=(s.lost||zBF L f):=by
 unfold zFu at h ⊢;obtain ⟨a1,f,a2,a3,a4,a5⟩:=zJz h;rw [a5];obtain ⟨b1,y,T2,b2,b3,b4⟩:=zDY a1;obtain ⟨c1,c2,c3⟩:=zHO b1;rw [c3] at b2 b3 b4;obtain ⟨d1,x,T1,d2,d3,d4⟩:=zDY c1;rw [d4] at b2 b3 b4;simp only at b2 b4;have hk:zBQ (xa s.T 0)≠0:=by simpa using c2
 obtain ⟨k1,k2,k3⟩:=zHQ hk;refine ⟨d1,k1,k2,f,a2,a4,?_,?_⟩
 ·have hT:(s.next.mark (decide (zBQ (xa s.T 0)=0))).next.T=T2:=by rw [c3,d4,b4]
  show s.T=zBk (zBQ (xa s.T 0)) :: zAq f :: (s.next.mark (decide (zBQ (xa s.T 0)=0))).next.T;rw [hT,←k3,a3,d3,d2,List.tail_cons,b2];rfl
 ·simp only;rw [c3,d4,b4]
theorem zUs (L:List Fg) {k:Int} {f:Fg} (h1:1≤k) (h8:k≤8) (hf:zAx f=Q) (T:List (List UInt8)) (lost:Bool):zFu L (RS.mk (zBk k :: zAq f :: T) E lost)=⟨T,E,lost||zBF L f⟩:=by
 unfold zFu;simp only [List.tail_cons];rw [show xa (zBk k :: zAq f :: T) 0=zBk k from rfl,zDZ h1 h8,show decide (k=0)=E from by simp;omega];simp only [RS.next,RS.mark,List.tail_cons,List.isEmpty_cons,Bool.or_false];rw [show xa (zAq f :: T) 0=zAq f from rfl,(zES L hf T lost).1]
theorem zRP {L:List Fg} {T:List (List UInt8)} (h:(opR L ⟨T,E,E⟩).2.bad=E) (he:(opR L ⟨T,E,E⟩).2.T=[]) :
  ∃n,okN n∧T=zJu n∧(opR L ⟨T,E,E⟩).1=oOf L n∧(opR L ⟨T,E,E⟩).2.lost=zAG L n:=by
 unfold opR at h he ⊢;obtain ⟨k,hk⟩:∃k,zBQ (xa T 0)=k:=⟨_,rfl⟩
 obtain ⟨s,hs⟩:∃s,zFu L ⟨T,E,E⟩=s:=⟨_,rfl⟩
 have key:s.bad=E→1≤k∧k≤8∧∃f,zAx f=Q∧zEy L (xa T.tail 0)=zBa L f∧T=zBk k :: zAq f :: s.T∧s.lost=zBF L f:=fun hb=>by
  rw [←hs] at hb;obtain ⟨_,a1,a2,f,a3,a4,a5,a6⟩:=zUr hb;rw [hk] at a1 a2 a5;rw [hs] at a5 a6;exact ⟨a1,a2,f,a3,a4,a5,by simpa using a6⟩
 simp only [hk,hs] at h he ⊢;unfold zBV at h he ⊢;by_cases k4:k=4
 ·rw [if_pos k4] at h he ⊢;obtain ⟨b1,T1,b2,b3⟩:=zHP h;obtain ⟨_,_,f,a3,a4,a5,a6⟩:=key b1;rw [b3] at he;simp only at he;subst he;refine ⟨⟨k,f,U,[],ovT (xa s.T 0)⟩,⟨a3,.inr (.inl ⟨k4,rfl,rfl⟩)⟩,?_,?_,?_⟩
  ·rw [a5,zJu,tlT];simp only;rw [if_pos k4,←b2]
  ·rw [a4];rfl
  ·rw [b3];simp [zAG,zBK,a6]
 rw [if_neg k4] at h he ⊢;by_cases k3:k=3
 ·rw [if_pos k3] at h he ⊢;simp only at h he ⊢;obtain ⟨b1,ZS,x,b2,b3,b4,b5,b6⟩:=zPY L _ (Nat.lt_succ_self _) h;obtain ⟨_,_,f,a3,a4,a5,a6⟩:=key b1;rw [he,List.append_nil] at b4;refine ⟨⟨k,f,Z x,ZS,E⟩,⟨a3,.inr (.inr (.inl ⟨k3,⟨x,rfl,b3⟩,b2,rfl⟩))⟩,?_,?_,?_⟩
  ·rw [a5,zJu,tlT];simp only;rw [if_neg k4,if_pos k3,b4];rfl
  ·rw [a4,b5];simp [oOf]
  ·rw [b6,a6];simp [zAG]
 rw [if_neg k3] at h he ⊢;by_cases k5:k=5
 ·rw [if_pos k5] at h he ⊢;simp only at h he ⊢;obtain ⟨c1,T1,c2,c3⟩:=zHP h;obtain ⟨d1,x,d2,d3,d4,d5⟩:=zJC c1;obtain ⟨b1,T0,e2,e3⟩:=zJA d1;obtain ⟨_,_,f,a3,a4,a5,a6⟩:=key b1;rw [c3] at he;simp only at he;subst he;have Et:T0=plT x++(zAV L (s.must zAT)).2.T:=by rw [←d3,e3]
  have d5':(zAV L (s.must zAT)).2.lost=(s.lost||zBF L x.f):=by rw [d5,e3]
  generalize (zAV L (s.must zAT)).2.T=T9 at c2 Et ⊢;refine ⟨⟨k,f,Z x,[],ovT (xa T9 0)⟩,⟨a3,.inr (.inr (.inr (.inl ⟨k5,⟨x,rfl,d2⟩,rfl⟩)))⟩,?_,?_,?_⟩
  ·rw [a5,zJu,tlT];simp only;rw [if_neg k4,if_neg k3,if_pos k5,e2,Et,←c2];simp [frT]
  ·rw [a4,d4];rfl
  ·rw [c3];simp only;rw [d5',a6];simp [zAG,zBK]
 rw [if_neg k5] at h he ⊢;by_cases k6:k=6
 ·rw [if_pos k6] at h he ⊢;simp only at h he ⊢;obtain ⟨c1,T1,c2,c3⟩:=zHP h;obtain ⟨d1,g,d2,d3,d4,d5⟩:=zJz c1;obtain ⟨e1,y,T2,f2,f3,f4⟩:=zDY d1;obtain ⟨b1,T0,e2,e3⟩:=zJA e1;obtain ⟨_,_,f,a3,a4,a5,a6⟩:=key b1;rw [c3] at he;simp only at he;subst he;rw [d5,f4] at c2;simp only at c2;rw [e3] at f2;simp only at f2;have hov:xa (s.must zAT).T.tail 0=xa T2 0:=by rw [e3];simp only;rw [f2,List.tail_cons]
  obtain ⟨ov,mF⟩:∃b,ovT (xa T2 0)=b:=⟨_,rfl⟩
  rw [mF] at c2;refine ⟨⟨k,f,Z ⟨g,0,E,0⟩,[],ov⟩,⟨a3,.inr (.inr (.inr (.inr ⟨.inl k6,⟨g,rfl,d2⟩,rfl⟩)))⟩,?_,?_,?_⟩
  ·rw [a5,zJu,tlT];simp only;rw [if_neg k4,if_neg k3,if_neg k5,if_pos k6,e2,f2,c2];simp only [frN];rw [d3,f3]
  ·rw [a4,d4,hov,mF];rfl
  ·rw [c3,d5];simp only;rw [f4,e3];simp only;rw [a6];simp [zAG,zBK]
 rw [if_neg k6] at h he ⊢;by_cases k7:k=7
 ·rw [if_pos k7] at h he ⊢;simp only at h he ⊢;obtain ⟨c1,T1,c2,c3⟩:=zHP h;obtain ⟨d1,g,d2,d3,d4,d5⟩:=zJz c1;obtain ⟨e1,y,T2,f2,f3,f4⟩:=zDY d1;obtain ⟨b1,T0,e2,e3⟩:=zJA e1;obtain ⟨_,_,f,a3,a4,a5,a6⟩:=key b1;rw [c3] at he;simp only at he;subst he;rw [d5,f4] at c2;simp only at c2;rw [e3] at f2;simp only at f2;have hov:xa (s.must zER).T.tail 0=xa T2 0:=by rw [e3];simp only;rw [f2,List.tail_cons]
  obtain ⟨ov,mF⟩:∃b,ovT (xa T2 0)=b:=⟨_,rfl⟩
  rw [mF] at c2;refine ⟨⟨k,f,Z ⟨g,0,E,0⟩,[],ov⟩,⟨a3,.inr (.inr (.inr (.inr ⟨.inr k7,⟨g,rfl,d2⟩,rfl⟩)))⟩,?_,?_,?_⟩
  ·rw [a5,zJu,tlT];simp only;rw [if_neg k4,if_neg k3,if_neg k5,if_neg k6,if_pos k7,e2,f2,c2];simp only [frN];rw [d3,f3]
  ·rw [a4,d4,hov,mF];rfl
  ·rw [c3,d5];simp only;rw [f4,e3];simp only;rw [a6];simp [zAG,zBK]
 rw [if_neg k7] at h he ⊢;simp only at h he ⊢;obtain ⟨a1,a2,f,a3,a4,a5,a6⟩:=key h;refine ⟨⟨k,f,U,[],E⟩,⟨a3,.inl ⟨by simp only;omega,rfl,rfl,rfl⟩⟩,?_,?_,?_⟩
 ·rw [a5,zJu,tlT,he];simp only;rw [if_neg k4,if_neg k3,if_neg k5,if_neg k6,if_neg k7]
 ·rw [a4];rfl
 ·rw [a6];simp [zAG,zBK]
theorem zNb (ZS:List (Nst×Bool)):ZS.length≤(ZS.flatMap stT).length:=by
 induction ZS with
 | nil=>simp
 | cons x ZS ih =>
  have:1≤(stT x).length:=by simp [stT]
  rw [List.flatMap_cons,List.length_append,List.length_cons];omega
theorem zXB (L:List Fg) {n:Nop} (h:okN n):opR L ⟨zJu n,E,E⟩=(oOf L n,⟨[],E,zAG L n⟩):=by
 obtain ⟨hf,hk⟩:=h;obtain ⟨k,f,fr,path,over⟩:=n;unfold zKF at hk;simp only at hf hk;have eW:1≤k∧k≤8:=by
  rcases hk with ⟨h,_⟩ | ⟨h,_⟩ | ⟨h,_⟩ | ⟨h,_⟩ | ⟨h,_⟩<;>omega
 have hh:=zUs L eW.1 eW.2 hf (tlT ⟨k,f,fr,path,over⟩) E;have hkv:=zDZ eW.1 eW.2;unfold opR;rw [show zJu ⟨k,f,fr,path,over⟩=zBk k :: zAq f :: tlT ⟨k,f,fr,path,over⟩ from rfl,hh];simp only [List.tail_cons];rw [show xa (zBk k :: zAq f :: tlT ⟨k,f,fr,path,over⟩) 0=zBk k from rfl,hkv];rw [show xa (zAq f :: tlT ⟨k,f,fr,path,over⟩) 0=zAq f from rfl,(zES L hf [] E).2];simp only [Bool.false_or];unfold zBV tlT;simp only;rcases hk with ⟨e,rfl,rfl,rfl⟩ | ⟨rfl,rfl,rfl⟩ | ⟨rfl,⟨x,rfl,hx⟩,hp,rfl⟩ | ⟨rfl,⟨x,rfl,hx⟩,rfl⟩ | ⟨e,⟨g,rfl,hg⟩,rfl⟩
 ·have n4:¬k=4:=by omega
  have n3:¬k=3:=by omega
  have n5:¬k=5:=by omega
  have n6:¬k=6:=by omega
  have n7:¬k=7:=by omega
  simp only [if_neg n4,if_neg n3,if_neg n5,if_neg n6,if_neg n7];simp [oOf,zAG,zBK]
 ·simp only [if_true];rw [(zDu over [] (zBF L f)).1,(zDu over [] (zBF L f)).2];simp [oOf,zAG,zBK]
 ·simp only [show ¬((3:Int)=4) from by omega,if_false,if_true,frT];rw [zPZ L hx _ path [] (zBF L f) hp (by have:=zNb path;rw [List.length_append];omega)];simp [oOf,zAG]
 ·simp only [show ¬((5:Int)=4) from by omega,show ¬((5:Int)=3) from by omega,if_false,if_true,frT];rw [zJB,zJD L hx [zBd over] (zBF L f) (by cases over<;>decide) (by cases over<;>decide)];simp only;rw [(zDu over [] (zBF L f||zBF L x.f)).1,(zDu over [] (zBF L f)).2];simp [oOf,zAG,zBK]
 ·rcases e with rfl | rfl
  ·simp only [show ¬((6:Int)=4) from by omega,show ¬((6:Int)=3) from by omega,show ¬((6:Int)=5) from by omega,if_false,if_true,frN];rw [zJB];simp only [RS.next,List.tail_cons,List.isEmpty_cons,Bool.or_false];rw [show xa [zAq g,zBd over] 0=zAq g from rfl,(zES L hg [zBd over] (zBF L f)).1,(zES L hg [] E).2,(zDu over [] _).1,(zDu over [] (zBF L f)).2];simp [oOf,zAG,zBK,sOf]
  ·simp only [show ¬((7:Int)=4) from by omega,show ¬((7:Int)=3) from by omega,show ¬((7:Int)=5) from by omega,show ¬((7:Int)=6) from by omega,if_false,if_true,frN];rw [zJB];simp only [RS.next,List.tail_cons,List.isEmpty_cons,Bool.or_false];rw [show xa [zAq g,zBd over] 0=zAq g from rfl,(zES L hg [zBd over] (zBF L f)).1,(zES L hg [] E).2,(zDu over [] _).1,(zDu over [] (zBF L f)).2];simp [oOf,zAG,zBK,sOf]
theorem zFv {S:List UInt8} (h:¬(S≠[]∧S.length≤9∧S.head?≠Z 48∧S.all zOO=Q)):zAu S=(0,E):=by unfold zAu;rw [if_neg h]
theorem zRQ {S:List UInt8} {pos:Nat} {b:UInt8} (h:S[pos]? = Z b):zHN 0 (S.take (pos+1))=10*zHN 0 (S.take pos)+(b.toNat-48):=by
 rw [List.take_add_one,h];exact zHd _ _ _
theorem zWf:∀(S:List UInt8),(∀b∈S,zOO b=Q)→zHN 0 S < 10 ^ S.length:=by
 intro S;generalize hn:S.length=n
 induction n generalizing S with
 | zero=>intro _;rw [List.length_eq_zero_iff.1 hn];simp [zHN]
 | succ n ih =>
  intro h;have h0:S≠[]:=fun e=>by rw [e] at hn;simp at hn
  obtain ⟨I,b,rfl⟩:∃I b,S=I++[b]:=⟨S.dropLast,S.getLast h0,(List.dropLast_concat_getLast h0).symm⟩
  have:=ih I (by simpa using hn) (fun x hx=>h x (List.mem_append_left _ hx));have hb:=zHe (h b (by simp));rw [zHd,Nat.pow_succ];omega
theorem zUt {S:List UInt8} {pos:Nat} (h:pos < S.length) (hs:pos < (bA S).size):∃b,S[pos]? = Z b∧(bA S)[pos]'hs=b:=by
 refine ⟨S[pos],List.getElem?_eq_getElem h,?_⟩;simp only [bA,ByteArray.getElem_eq_getElem_data];rfl
theorem zLU {a b:Int} {p q:Bool} (h:(a,p)=(b,q)):Ending.returned (.tuple #[D J a,G p])=.returned (.tuple #[D J b,G q]):=by
 injection h with h1 h2
 rw [h1,h2]
set_option maxHeartbeats 3200000 in
theorem zHR (S:List UInt8) (w:World) :
  Calls Tryz.prog 129 #[W (bA S)] w fun e w'=>e=.returned (.tuple #[D J (zAu S).1,G (zAu S).2])∧Below w.heap.size w w':=by
 have n0:=zAL S [];have hs:=zJs S;obtain ⟨v,ok,HC⟩:∃v ok,Hid (zAu S=(v,ok)):=⟨_,_,qH rfl⟩
 rw [show (zAu S).1=v from by rw [HC.out],show (zAu S).2=ok from by rw [HC.out]];obtain ⟨nS,tp⟩:∃n,S.length=n:=⟨_,rfl⟩
 rw [tp] at hs;by_cases h0:S=[]
 ·have hr:=qH (show zAu S=(0,E) from zFv fun h=>h.1 h0);rw [show (S==([]:List UInt8))=Q from by rw [h0];rfl] at n0;clear h0 tp;go_enter Tryz.func129,Tryz.ntmps129;go_wp2_with fail
  go_ret2;exact ⟨zLU (hr.out.symm.trans HC.out),Below.refl _ _⟩
 rw [show (S==([]:List UInt8))=E from by simpa using h0] at n0;by_cases hl:9 < nS
 ·have hr:=qH (show zAu S=(0,E) from zFv fun h=>by omega);have i0:(9:Int) < (nS:Int):=by omega
  clear h0 tp hl;go_enter Tryz.func129,Tryz.ntmps129;go_wp2_with fail
  go_ret2;exact ⟨zLU (hr.out.symm.trans HC.out),Below.refl _ _⟩
 have i0:¬(9:Int) < (nS:Int):=by omega
 obtain ⟨x,r,hx⟩:∃x r,S=x :: r:=by
  cases S with
  | nil=>exact absurd rfl h0
  | cons x r=>exact ⟨x,r,rfl⟩
 have s1:=zDU x r;rw [←hx] at s1;by_cases h48:x=48
 ·have hr:=qH (show zAu S=(0,E) from zFv fun h=>h.2.2.1 (by rw [hx,h48];rfl));rw [show ((x.toNat:Nat):Int)=48 from by rw [h48];rfl] at s1;clear h0 tp hl h48 hx;go_enter Tryz.func129,Tryz.ntmps129;go_wp2_with fail
  go_ret2;exact ⟨zLU (hr.out.symm.trans HC.out),Below.refl _ _⟩
 have k1:((x.toNat:Int)==48)=E:=by
  simp only [beq_eq_false_iff_ne,ne_eq];intro e;exact h48 (UInt8.toNat.inj (show x.toNat=48 by omega))
 have HS:=qH (show S≠[]∧S.length≤9∧S.head?≠Z 48 from ⟨h0,by omega,by rw [hx];simpa using h48⟩);have HN:=qH tp;have hn9:nS≤9:=by omega
 clear h0 tp hl h48 hx;go_enter Tryz.func129,Tryz.ntmps129;go_wp2_with fail
 go_loopw [4] (fun v wr=>∃(pos V:Nat),wr=w.iter (bA S) pos∧v=D J V∧pos≤nS∧Hid (V=zHN 0 (S.take pos))∧Hid (∀b∈S.take pos,zOO b=Q)) (fun _ wr=>nS-wr.iterPos w.heap.size)
 case atStart=>exact ⟨0,0,rfl,rfl,by omega,qH rfl,qH (by simp)⟩
 case round =>
  obtain ⟨pos,V,rfl,rfl,hpos,HV,HD⟩:=hrel;by_cases hp:pos < nS
  ·have hps:pos < (bA S).size:=by rw [hs];exact hp
   obtain ⟨b,aj,ab⟩:=zUt (S:=S) (pos:=pos) (by rw [HN.out];exact hp) hps;by_cases ha:b.toNat < 128
   ·have hnx:∀ty,(Instr.next (.pointer (Z ⟨w.heap.size,0,U⟩)) Q ty).run Tryz.prog (w.iter (bA S) pos)=.ok (.tuple #[G Q,D J pos,D .i32 b.toNat]) (w.iter (bA S) (pos+1)):=fun ty=>by
     rw [run_next_ascii w (bA S) pos ty hps (by rw [ab];exact ha),ab]
    by_cases hd:zOO b=Q
    ·obtain ⟨d1,d2⟩:=zHe hd;obtain ⟨B,hB⟩:∃B:Nat,b.toNat=B:=⟨_,rfl⟩
     rw [hB] at hnx d1 d2;have j1:¬((B:Int) < 48):=by omega
     have j2:¬((57:Int) < (B:Int)):=by omega
     have hV:V < 1000000000:=by
      have:=zWf _ HD.out;rw [←HV.out] at this;have h3:(S.take pos).length≤9:=by rw [List.length_take];omega
      have:=Nat.pow_le_pow_right (n:=10) (by omega) h3;omega
     have HB:=qH (show zHN 0 (S.take (pos+1))=10*V+(B-48)∧∀y∈S.take (pos+1),zOO y=Q by
      rw [zRQ aj,HV.out,hB]
      refine ⟨rfl,fun y hy=>?_⟩
      rw [List.take_add_one,aj] at hy
      rcases List.mem_append.1 hy with hy | hy
      ·exact HD.out y hy
      ·simp at hy;rw [hy];exact hd)
     clear hd ha aj ab hB hps HV HD;go_wp2_with fail
     go_roundw
     case rel=>exact ⟨pos+1,10*V+(B-48),rfl,by congr 1;simp;omega,by omega,qH HB.out.1.symm,qH HB.out.2⟩
     case measure=>simp;omega
    ·have hr:=qH (show zAu S=(0,E) from zFv fun h=>hd ((List.all_eq_true.1 h.2.2.2) b (List.mem_of_getElem? aj)));have hbel:=qH (show Below w.heap.size w (w.iter (bA S) (pos+1)) from (Below.refl _ _).alloc (Nat.le_refl _) _);obtain ⟨B,hB⟩:∃B:Nat,b.toNat=B:=⟨_,rfl⟩
     rw [hB] at hnx;by_cases hlt:(B:Int) < 48
     ·clear hd ha aj ab hB hps HV HD;go_wp2_with fail
      go_ret2;exact ⟨zLU (hr.out.symm.trans HC.out),hbel.out⟩
     ·have hgt:(57:Int) < (B:Int):=by
       have:¬(48≤b.toNat∧b.toNat≤57):=fun e=>hd (by simp [zOO,e])
       omega
      clear hd ha aj ab hB hps HV HD;go_wp2_with fail
      go_ret2;exact ⟨zLU (hr.out.symm.trans HC.out),hbel.out⟩
   ·obtain ⟨R,q,hnx,hR⟩:∃(R q:Nat),(∀ty,(Instr.next (.pointer (Z ⟨w.heap.size,0,U⟩)) Q ty).run Tryz.prog (w.iter (bA S) pos)=.ok (.tuple #[G Q,D J pos,D .i32 R]) (w.iter (bA S) q))∧128≤R :=
     ⟨_,_,fun ty=>run_next_any w (bA S) pos ty hps,(decode_high (bA S) pos hps (by rw [ab];omega)).1⟩
    have hr:=qH (show zAu S=(0,E) from zFv fun h=>by
     have:=zHe ((List.all_eq_true.1 h.2.2.2) b (List.mem_of_getElem? aj))
     omega)
    have hbel:=qH (show Below w.heap.size w (w.iter (bA S) q) from (Below.refl _ _).alloc (Nat.le_refl _) _);have j1:¬((R:Int) < 48):=by omega
    have j2:(57:Int) < (R:Int):=by omega
    clear ha aj ab hps HV HD;go_wp2_with fail
    go_ret2;exact ⟨zLU (hr.out.symm.trans HC.out),hbel.out⟩
  ·have hpe:pos=nS:=by omega
   subst hpe;have hnx:∀ty,(Instr.next (.pointer (Z ⟨w.heap.size,0,U⟩)) Q ty).run Tryz.prog (w.iter (bA S) pos)=_:=fun ty=>run_next_end w (bA S) pos ty (by rw [hs];omega)
   have hr:=qH (show zAu S=((V:Int),Q) by
    have h1:S.take pos=S:=by rw [←HN.out,List.take_length]
    have h2:=HD.out
    have h3:=HV.out
    rw [h1] at h2 h3
    unfold zAu
    rw [if_pos ⟨HS.out.1,HS.out.2.1,HS.out.2.2,List.all_eq_true.2 h2⟩,h3])
   have hbel:=qH (show Below w.heap.size w (w.iter (bA S) pos) from (Below.refl _ _).alloc (Nat.le_refl _) _);clear HV HD HN HS;go_wp2_with fail
   go_ret2;exact ⟨zLU (hr.out.symm.trans HC.out),hbel.out⟩
end Go.Proofs.YtlmdfmnbcndhoaaGreatDoor
