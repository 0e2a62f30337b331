/-
  Lemmas, part 14. Conditions: each theorem's own.
-/
import Derived.Test.YtlmdfmnbcndhoaaGreatDoorRc13
open Option renaming none→U,some→Z
open Bool renaming false→E,true→Q
namespace Go.Proofs.YtlmdfmnbcndhoaaGreatDoor
open Go.RowKit
def zKB (b:UInt8):Bool:=decide (48≤b.toNat)&&decide (b.toNat≤57)
def zGG (a:Nat) (S:List UInt8):Nat:=S.foldl (fun a b=>10*a+(b.toNat-48)) a
def zAr (S:List UInt8):Int×Bool:=if S≠[]∧S.length≤9∧S.head?≠Z 48∧S.all zKB=Q then ((zGG 0 S:Nat),Q) else (0,E)
theorem zGQ (a:Nat) (S:List UInt8) (b:UInt8):zGG a (S++[b])=10*zGG a S+(b.toNat-48):=by simp [zGG,List.foldl_append]
theorem zFp {b:UInt8} (h:zKB b=Q):48≤b.toNat∧b.toNat≤57:=by simpa [zKB] using h
theorem zPz {b:UInt8} {d:Nat} (h:b.toNat=48+d):UInt8.ofNat (48+d)=b:=by rw [←h];exact UInt8.ofNat_toNat
theorem zPA:∀(n:Nat) {S:List UInt8},S.length=n→S≠[]→S.head?≠Z 48→S.all zKB=Q→Lib.decDigits (zGG 0 S)=S∧1≤zGG 0 S∧zGG 0 S < 10 ^ n
 | 0,S,hn,h0,_,_=>absurd (List.length_eq_zero_iff.1 hn) h0
 | n+1,S,hn,h0,h1,h2=>by
  obtain ⟨I,b,rfl⟩:∃I b,S=I++[b]:=⟨S.dropLast,S.getLast h0,(List.dropLast_concat_getLast h0).symm⟩
  rw [List.all_append,Bool.and_eq_true] at h2;have hb:=zFp (by simpa using h2.2);rw [zGQ];by_cases hI:I=[]
  ·subst hI
   have aa:b.toNat≠48:=fun e=>h1 (by
    have:b=48:=UInt8.toNat.inj e
    rw [this];rfl)
   have wj:n=0:=by simpa using hn.symm
   subst wj;refine ⟨?_,?_,?_⟩
   ·rw [show 10*zGG 0 []+(b.toNat-48)=b.toNat-48 from by simp [zGG],Lib.decDigits_one (by omega),zPz (b:=b) (by omega)];rfl
   ·simp [zGG];omega
   ·simp [zGG];omega
  ·have hnI:I.length=n:=by simpa using hn
   obtain ⟨k1,k2,k3⟩:=zPA n hnI hI (by cases I with | nil=>exact absurd rfl hI | cons x I=>simpa using h1) h2.1;refine ⟨?_,by omega,?_⟩
   ·rw [Lib.decDigits,dif_neg (by omega),show (10*zGG 0 I+(b.toNat-48)) / 10=zGG 0 I by omega,k1,show (10*zGG 0 I+(b.toNat-48)) % 10=b.toNat-48 by omega,zPz (b:=b) (by omega)]
   ·rw [Nat.pow_succ];omega
theorem zCF {S:List UInt8} {n:Int} (h:zAr S=(n,Q)):S=Lib.itoa n∧1≤n∧n≤999999999:=by
 unfold zAr at h;split at h
 ·rename_i hc;obtain ⟨h1,h2,h3,h4⟩:=hc;obtain ⟨k1,k2,k3⟩:=zPA S.length rfl h1 h3 h4;have hn:((zGG 0 S:Nat):Int)=n:=congrArg Prod.fst h;have hp:10 ^ S.length≤10 ^ 9:=Nat.pow_le_pow_right (by omega) h2;refine ⟨?_,by omega,by omega⟩;rw [←hn];unfold Lib.itoa;rw [if_neg (by omega),Int.toNat_natCast,k1]
 ·have:=congrArg Prod.snd h;simp at this
theorem zPB:∀(k:Nat) {u:Nat},u < 10 ^ (k+1)→(Lib.decDigits u).length≤k+1
 | 0,u,h=>by rw [Lib.decDigits_one (by omega)];simp
 | k+1,u,h=>by
  rw [Lib.decDigits];split
  ·simp
  ·have:=zPB k (u:=u / 10) (by rw [Nat.pow_succ] at h;omega);simp;omega
theorem zRO {u:Nat} (h:1≤u):(Lib.decDigits u).head?≠Z 48:=by
 induction u using Nat.strongRecOn with
 | _ u ih =>
  rw [Lib.decDigits];split
  ·rename_i h1;intro e;have:=zJn (a:=48+u) (b:=48) (by omega) (by omega) (by simpa using e);omega
  ·rename_i h1;have:=ih (u / 10) (by omega) (by omega);rw [List.head?_append]
   cases hd:(Lib.decDigits (u / 10)).head? with
   | none=>exact absurd (List.head?_eq_none_iff.1 hd) (zGs _)
   | some x=>rw [hd] at this;simpa using this
theorem zUr (u:Nat):zGG 0 (Lib.decDigits u)=u:=by
 induction u using Nat.strongRecOn with
 | _ u ih =>
  rw [Lib.decDigits];split
  ·rename_i h;simp only [zGG,List.foldl];rw [zFf h];omega
  ·rename_i h;rw [zGQ,ih (u / 10) (by omega),zFf (by omega)];omega
theorem zEn {n:Int} (h1:1≤n) (h2:n≤999999999):zAr (Lib.itoa n)=(n,Q):=by
 obtain ⟨u,rfl⟩:=Int.eq_ofNat_of_zero_le (by omega:0≤n);have hi:Lib.itoa (u:Int)=Lib.decDigits u:=by unfold Lib.itoa;rw [if_neg (by omega)];simp
 have ha:(Lib.decDigits u).all zKB=Q:=by
  rw [List.all_eq_true];intro b hb;have:=zDr u b hb;simp [zKB,this]
 unfold zAr;rw [hi,if_pos ⟨zGs u,zPB 8 (by omega),zRO (by omega),ha⟩,zUr]
structure RS where
 T:List (List UInt8)
 bad:Bool
 lost:Bool
def RS.next (s:RS):RS:=⟨s.T.tail,s.bad||s.T.isEmpty,s.lost⟩
def RS.is (s:RS) (ZR:List UInt8):RS:=⟨isT s.T ZR,s.bad,s.lost⟩
noncomputable def RS.fing (s:RS) (L:List Fg) (S:List UInt8):RS:=⟨s.T,s.bad||zKz S,s.lost||zEM L S⟩
def RS.mark (s:RS) (b:Bool):RS:=⟨s.T,s.bad||b,s.lost⟩
def RS.over (s:RS):RS:=s.next.mark (!(ovT (xa s.T 0)||unT (xa s.T 0)))
def RS.must (s:RS) (ZR:List UInt8):RS:=if s.bad then s else (s.is ZR).mark (!isB s.T ZR)
def zEW (ZR:List UInt8) (s:RS):Int×RS :=
 if isB s.T ZR then ((zAr (xa (isT s.T ZR) 0)).1,(s.is ZR).next.mark (!(zAr (xa (isT s.T ZR) 0)).2)) else (0,s)
def neT (S:List UInt8):Bool:=S==zWb
def faT (S:List UInt8):Bool:=S==farW
noncomputable def zDF (L:List Fg) (s:RS):RS:=((s.next.fing L (xa s.T 0)).next).mark (!(neT (xa s.T.tail 0)||faT (xa s.T.tail 0)))
noncomputable def zAW (L:List Fg) (s:RS):Sg×RS :=
 (⟨zDE L (xa s.T 0),(zEW zDe (zDF L s)).1,faT (xa s.T.tail 0),(zEW zCb (zEW zDe (zDF L s)).2).1⟩,(zEW zCb (zEW zDe (zDF L s)).2).2)
noncomputable def zLj (L:List Fg) (s:RS):Sp×RS:=(⟨(zAW L s.over).1,ovT (xa s.T 0)⟩,(zAW L s.over).2.must [44])
noncomputable def zDU (L:List Fg):Nat→RS→List Sp→(List Sp×Sg)×RS
 | 0,s,P=>((P,s0),s)
 | n+1,s,P =>
  if isB s.T zAU then ((P,(zAW L (s.is zAU)).1),(zAW L (s.is zAU)).2)
  else if (zLj L s).2.bad then ((P++[(zLj L s).1],s0),(zLj L s).2) else zDU L n (zLj L s).2 (P++[(zLj L s).1])
def zBP (v:List UInt8):Int :=
 if v=zBk 1 then 1 else if v=zBk 2 then 2 else if v=zBk 3 then 3 else if v=zBk 4 then 4 else if v=zBk 5 then 5 else if v=zBk 6 then 6 else if v=zBk 7 then 7 else if v=zBk 8 then 8 else 0
noncomputable def zFq (L:List Fg) (s:RS):RS:=((s.next.mark (decide (zBP (xa s.T 0)=0))).next).fing L (xa s.T.tail 0)
noncomputable def zBW (L:List Fg) (k f:Int) (s:RS):Og×RS :=
 if k=4 then (⟨k,f,s0,[],ovT (xa s.T 0)⟩,s.over)
 else if k=3 then (⟨k,f,(zDU L (s.T.length+1) s []).1.2,(zDU L (s.T.length+1) s []).1.1,E⟩,(zDU L (s.T.length+1) s []).2)
 else if k=5 then (⟨k,f,(zAW L (s.must zAU)).1,[],ovT (xa (zAW L (s.must zAU)).2.T 0)⟩,(zAW L (s.must zAU)).2.over)
 else if k=6 then (⟨k,f,⟨zDE L (xa (s.must zAU).T 0),0,E,0⟩,[],ovT (xa (s.must zAU).T.tail 0)⟩,((s.must zAU).next.fing L (xa (s.must zAU).T 0)).over)
 else if k=7 then (⟨k,f,⟨zDE L (xa (s.must zEN).T 0),0,E,0⟩,[],ovT (xa (s.must zEN).T.tail 0)⟩,((s.must zEN).next.fing L (xa (s.must zEN).T 0)).over)
 else (⟨k,f,s0,[],E⟩,s)
noncomputable def opR (L:List Fg) (s:RS):Og×RS:=zBW L (zBP (xa s.T 0)) (zDE L (xa s.T.tail 0)) (zFq L s)
theorem zDV {s:RS} (h:s.next.bad=E):s.bad=E∧∃x T,s.T=x :: T∧xa s.T 0=x∧s.next=⟨T,E,s.lost⟩:=by
 obtain ⟨T,bad,lost⟩:=s
 cases T with
 | nil=>simp [RS.next] at h
 | cons x T =>
  have hb:bad=E:=by simpa [RS.next] using h
  exact ⟨hb,x,T,rfl,rfl,by simp [RS.next,hb]⟩
theorem zJu {s:RS} {L:List Fg} {S:List UInt8} (h:(s.fing L S).bad=E) :
  s.bad=E∧∃f,zAo f=Q∧zAl f=S∧zDE L S=zAM L f∧s.fing L S=⟨s.T,E,s.lost||zBE L f⟩:=by
 unfold RS.fing zKz zEM at h ⊢;simp only [Bool.or_eq_false_iff] at h
 cases hp:zGu S with
 | none=>rw [hp] at h;simp at h
 | some f =>
  rw [hp] at h;obtain ⟨k1,k2⟩:=zHq hp;refine ⟨h.1,f,k1,k2,by unfold zDE;rw [hp],?_⟩;simp only [h.1];rfl
theorem zEO (L:List Fg) {f:Fg} (hf:zAo f=Q) (T:List (List UInt8)) (lost:Bool):(RS.mk T E lost).fing L (zAl f)=⟨T,E,lost||zBE L f⟩∧zDE L (zAl f)=zAM L f:=by
 have hp:=zCD hf rfl;unfold RS.fing zKz zEM zDE;rw [hp];exact ⟨rfl,rfl⟩
theorem zHz {s:RS} {b:Bool} (h:(s.mark b).bad=E):s.bad=E∧b=E∧s.mark b=s:=by
 obtain ⟨T,bad,lost⟩:=s;unfold RS.mark at h ⊢;simp only [Bool.or_eq_false_iff] at h;obtain ⟨rfl,rfl⟩:=h;exact ⟨rfl,rfl,rfl⟩
theorem zXz (S:List UInt8) (h:(!(ovT S||unT S))=E):S=zBf (ovT S):=by
 simp only [Bool.not_eq_false',Bool.or_eq_true] at h;rcases h with h | h
 ·rw [h];exact (show S=[111,118,101,114] by simpa [ovT] using h)
 ·have h2:S=[117,110,100,101,114]:=by simpa [unT] using h
  subst h2;rfl
theorem zUs (b:Bool):ovT (zBf b)=b∧(!(ovT (zBf b)||unT (zBf b)))=E:=by cases b<;>decide
theorem zUt (S:List UInt8) (h:(!(neT S||faT S))=E):S=zCA (faT S):=by
 simp only [Bool.not_eq_false',Bool.or_eq_true] at h;rcases h with h | h
 ·have h2:S=zWb:=by simpa [neT] using h
  subst h2;rfl
 ·rw [h];exact (show S=farW by simpa [faT] using h)
theorem zKC (b:Bool):faT (zCA b)=b∧(!(neT (zCA b)||faT (zCA b)))=E:=by cases b<;>decide
theorem zHA {s:RS} (h:s.over.bad=E):s.bad=E∧∃T,s.T=zBf (ovT (xa s.T 0)) :: T∧s.over=⟨T,E,s.lost⟩:=by
 unfold RS.over at h ⊢;obtain ⟨h1,h2,h3⟩:=zHz h;obtain ⟨k1,x,T,k2,k3,k4⟩:=zDV h1;rw [h3,k4];exact ⟨k1,T,by rw [←zXz _ h2,k3,k2],rfl⟩
theorem zDw (b:Bool) (T:List (List UInt8)) (lost:Bool):(RS.mk (zBf b :: T) E lost).over=⟨T,E,lost⟩∧ovT (xa (zBf b :: T) 0)=b:=by
 have:=zUs b;unfold RS.over RS.next RS.mark;simp only [show xa (zBf b :: T) 0=zBf b from rfl,this.2,List.tail_cons,List.isEmpty_cons,Bool.or_false];exact ⟨trivial,this.1⟩
theorem zUu {T:List (List UInt8)} {ZR:List UInt8} (h:isB T ZR=Q):T=ZR :: isT T ZR:=by
 cases T with
 | nil=>simp [isB] at h
 | cons x T =>
  have:x=ZR:=by simpa [isB] using h
  subst this;rw [zFU]
theorem zJv {s:RS} {ZR:List UInt8} (h:(s.must ZR).bad=E):s.bad=E∧∃T,s.T=ZR :: T∧s.must ZR=⟨T,E,s.lost⟩:=by
 unfold RS.must at h ⊢
 cases hb:s.bad with
 | true=>rw [if_pos hb,hb] at h;cases h
 | false =>
  rw [if_neg (by rw [hb];simp)] at h;obtain ⟨_,h2,h3⟩:=zHz h;have hi:isB s.T ZR=Q:=by simpa using h2
  refine ⟨rfl,isT s.T ZR,zUu hi,?_⟩;rw [if_neg (by simp),h3];unfold RS.is;rw [hb]
theorem zJw (ZR:List UInt8) (T:List (List UInt8)) (lost:Bool):(RS.mk (ZR :: T) E lost).must ZR=⟨T,E,lost⟩:=by
 unfold RS.must RS.mark RS.is;simp only [zJo,zFU];rfl
theorem zTr {ZR:List UInt8} {s:RS} (h:(zEW ZR s).2.bad=E):s.bad=E∧(zEW ZR s).2.lost=s.lost∧0≤(zEW ZR s).1∧(zEW ZR s).1≤999999999∧s.T=zGP ZR (zEW ZR s).1++(zEW ZR s).2.T:=by
 unfold zEW at h ⊢
 cases hb:isB s.T ZR with
 | false =>
  rw [hb] at h;simp only [Bool.false_eq_true,if_false] at h ⊢;exact ⟨h,trivial,by omega,by omega,by simp [zGP]⟩
 | true =>
  rw [hb] at h;simp only [if_true] at h ⊢;obtain ⟨h1,h2,h3⟩:=zHz h;obtain ⟨k1,x,T,k2,k3,k4⟩:=zDV h1;rw [h3,k4];have hT:isT s.T ZR=x :: T:=k2;have hxa:xa (isT s.T ZR) 0=x:=by rw [hT];rfl
  rw [hxa] at h2 ⊢
  obtain ⟨c1,c2,c3⟩:=zCF (S:=x) (n:=(zAr x).1) (by
   have:(zAr x).2=Q:=by simpa using h2
   rw [←this])
  refine ⟨k1,rfl,by omega,by omega,?_⟩;have:=zUu hb;rw [hT] at this;rw [this,zGP,if_neg (by omega),←c1];rfl
theorem zTs (ZR:List UInt8) {n:Int} (h0:0≤n) (h1:n≤999999999) (T:List (List UInt8)) (lost:Bool) (hT:T.head?≠Z ZR):zEW ZR (RS.mk (zGP ZR n++T) E lost)=(n,⟨T,E,lost⟩):=by
 unfold zEW zGP;by_cases e:n=0
 ·subst e;have:isB T ZR=E:=by simp [isB,hT]
  simp [this]
 ·rw [if_neg e];have hc:=zEn (n:=n) (by omega) h1;simp only [List.cons_append,List.nil_append,zJo,zFU,if_true];rw [show xa (Lib.itoa n :: T) 0=Lib.itoa n from rfl,hc];unfold RS.mark RS.next RS.is;simp [zFU]
theorem zJx {L:List Fg} {s:RS} (h:(zAW L s).2.bad=E) :
  s.bad=E∧∃x:Nst,zCV x∧s.T=plT x++(zAW L s).2.T∧(zAW L s).1=sOf L x∧(zAW L s).2.lost=(s.lost||zBE L x.f):=by
 unfold zAW at h ⊢;simp only at h ⊢;obtain ⟨a1,a2,a3,a4,a5⟩:=zTr h;obtain ⟨b1,b2,b3,b4,b5⟩:=zTr a1;generalize (zEW zCb (zEW zDe (zDF L s)).2).1=pc at a3 a4 a5 ⊢;generalize (zEW zCb (zEW zDe (zDF L s)).2).2=s6 at a2 a5 ⊢;generalize (zEW zDe (zDF L s)).1=lo at b3 b4 b5 ⊢;generalize (zEW zDe (zDF L s)).2=s5 at a2 a5 b2 b5;unfold zDF at b1 b2 b5;obtain ⟨c1,c2,c3⟩:=zHz b1;rw [c3] at b2 b5;obtain ⟨d1,y,T2,d2,d3,d4⟩:=zDV c1;rw [d4] at b2 b5;obtain ⟨e1,f,e2,e3,e4,e5⟩:=zJu d1;rw [e5] at d2 b2;simp only at d2 b2 b5;obtain ⟨f1,x,T1,f2,f3,f4⟩:=zDV e1;rw [f4] at d2 b2;simp only at d2 b2;have hx:xa s.T.tail 0=y:=by rw [f2,List.tail_cons,d2];rfl
 have hs:=zUt _ c2;refine ⟨f1,⟨f,lo,faT (xa s.T.tail 0),pc⟩,⟨e2,b3,b4,a3,a4⟩,?_,?_,?_⟩
 ·have hside:zCA (faT (xa s.T.tail 0))=y:=by rw [←hs,hx]
  unfold plT;simp only;rw [hside,e3,f3,f2,d2,b5,a5];simp
 ·unfold sOf;simp only [e4]
 ·rw [a2,b2]
theorem zJy (L:List Fg) {x:Nst} (h:zCV x) (T:List (List UInt8)) (lost:Bool) (h1:T.head?≠Z zDe) (h2:T.head?≠Z zCb) :
  zAW L (RS.mk (plT x++T) E lost)=(sOf L x,⟨T,E,lost||zBE L x.f⟩):=by
 obtain ⟨k1,k2,k3,k4,k5⟩:=h;obtain ⟨p1,p2⟩:=zEO L k1 (zCA x.far :: (zGP zDe x.l++(zGP zCb x.pc++T))) lost;have hS:zDF L (RS.mk (plT x++T) E lost)=⟨zGP zDe x.l++(zGP zCb x.pc++T),E,lost||zBE L x.f⟩:=by
  unfold zDF plT;simp only [List.cons_append,List.nil_append,List.append_assoc,RS.next,List.tail_cons,List.isEmpty_cons,Bool.or_false];rw [show xa (zAl x.f :: zCA x.far :: (zGP zDe x.l++(zGP zCb x.pc++T))) 0=zAl x.f from rfl,p1];rw [show xa (zCA x.far :: (zGP zDe x.l++(zGP zCb x.pc++T))) 0=zCA x.far from rfl,(zKC x.far).2];simp [RS.mark]
 have hh:(zGP zCb x.pc++T).head?≠Z zDe:=by
  unfold zGP;split
  ·exact h1
  ·simp
 have n1:=zTs zDe k2 k3 (zGP zCb x.pc++T) (lost||zBE L x.f) hh;have n2:=zTs zCb k4 k5 T (lost||zBE L x.f) h2;unfold zAW;rw [hS,n1];simp only;rw [n2];simp only [plT,List.cons_append,List.nil_append,List.append_assoc,List.tail_cons];rw [show xa (zAl x.f :: zCA x.far :: (zGP zDe x.l++(zGP zCb x.pc++T))) 0=zAl x.f from rfl,p2];rw [show xa (zCA x.far :: (zGP zDe x.l++(zGP zCb x.pc++T))) 0=zCA x.far from rfl,(zKC x.far).1];rfl
theorem zTt {L:List Fg} {s:RS} (h:(zLj L s).2.bad=E) :
  s.bad=E∧∃x:Nst×Bool,zCV x.1∧s.T=stT x++(zLj L s).2.T∧(zLj L s).1=pOf L x∧(zLj L s).2.lost=(s.lost||zBE L x.1.f):=by
 unfold zLj at h ⊢;simp only at h ⊢;obtain ⟨a1,T,a2,a3⟩:=zJv h;obtain ⟨b1,x,b2,b3,b4,b5⟩:=zJx a1;obtain ⟨c1,T1,c2,c3⟩:=zHA b1;have b3':T1=plT x++(zAW L s.over).2.T:=by rw [←b3,c3]
 have b5':(zAW L s.over).2.lost=(s.lost||zBE L x.f):=by rw [b5,c3]
 refine ⟨c1,(x,ovT (xa s.T 0)),b2,?_,?_,?_⟩
 ·rw [a3,stT,List.cons_append,List.append_assoc,List.singleton_append,←a2,←b3'];exact c2
 ·rw [b4];rfl
 ·rw [a3,b5']
theorem zWd (L:List Fg) {x:Nst×Bool} (h:zCV x.1) (T:List (List UInt8)) (lost:Bool) :
  zLj L (RS.mk (stT x++T) E lost)=(pOf L x,⟨T,E,lost||zBE L x.1.f⟩):=by
 obtain ⟨p1,p2⟩:=zDw x.2 (plT x.1++([44] :: T)) lost;have hT:stT x++T=zBf x.2 :: (plT x.1++([44] :: T)):=by simp [stT]
 have q:=zJy L h ([44] :: T) lost (by simp) (by simp);unfold zLj;rw [hT,p1,q];simp only;rw [zJw,p2];rfl
theorem zPC (L:List Fg):∀(n:Nat) {s:RS} {P:List Sp},s.T.length < n→(zDU L n s P).2.bad=E →
  s.bad=E∧∃(ZS:List (Nst×Bool)) (x:Nst),(∀y∈ZS,zCV y.1)∧zCV x∧s.T=ZS.flatMap stT++zAU :: plT x++(zDU L n s P).2.T ∧
   (zDU L n s P).1=(P++ZS.map (pOf L),sOf L x)∧(zDU L n s P).2.lost=(s.lost||zBI L ZS||zBE L x.f)
 | 0,s,P,hn,_=>absurd hn (by omega)
 | n+1,s,P,hn,h=>by
  rw [zDU] at h ⊢
  cases hb:isB s.T zAU with
  | true =>
   rw [hb] at h;simp only [if_true] at h ⊢;obtain ⟨a1,x,a2,a3,a4,a5⟩:=zJx h;refine ⟨a1,[],x,by simp,a2,?_,by rw [a4];simp,by rw [a5];simp [zBI,RS.is]⟩;have h1:=zUu hb;rw [h1,show isT s.T zAU=plT x++(zAW L (s.is zAU)).2.T from a3];simp
  | false =>
   rw [hb] at h;simp only [Bool.false_eq_true,if_false] at h ⊢
   cases hs:(zLj L s).2.bad with
   | true =>
    rw [hs] at h;simp only [if_true] at h;rw [hs] at h;cases h
   | false =>
    rw [hs] at h;simp only [Bool.false_eq_true,if_false] at h ⊢;obtain ⟨a1,x,a2,a3,a4,a5⟩:=zTt hs;have hl:(zLj L s).2.T.length < n:=by
     have:=congrArg List.length a3;simp [stT] at this;omega
    obtain ⟨b1,ZS,y,b2,b3,b4,b5,b6⟩:=zPC L n hl h;refine ⟨a1,x :: ZS,y,fun z hz=>?_,b3,?_,?_,?_⟩
    ·rcases List.mem_cons.1 hz with rfl | hz
     ·exact a2
     ·exact b2 z hz
    ·rw [a3,b4];simp
    ·rw [b5,a4];simp
    ·rw [b6,a5];simp only [zBI,List.any_cons,Bool.or_assoc]
theorem zPD (L:List Fg) {x:Nst} (hx:zCV x):∀(n:Nat) (ZS:List (Nst×Bool)) (P:List Sp) (lost:Bool),(∀y∈ZS,zCV y.1)→ZS.length < n →
  zDU L n (RS.mk (ZS.flatMap stT++zAU :: plT x) E lost) P=((P++ZS.map (pOf L),sOf L x),⟨[],E,lost||zBI L ZS||zBE L x.f⟩)
 | 0,ZS,P,lost,_,hn=>absurd hn (by omega)
 | n+1,[],P,lost,_,_=>by
  rw [zDU];have q:=zJy L hx [] lost (by simp) (by simp);rw [List.append_nil] at q;simp only [List.flatMap_nil,List.nil_append,zJo,if_true,RS.is,zFU];rw [q];simp [zBI]
 | n+1,y :: ZS,P,lost,h,hn=>by
  rw [zDU,List.flatMap_cons,List.append_assoc];have hy:=h y (List.mem_cons_self ..);have q:=zWd L hy (ZS.flatMap stT++zAU :: plT x) lost;have hb:isB (stT y++(ZS.flatMap stT++zAU :: plT x)) zAU=E:=by
   rw [stT,List.cons_append];exact zTq _ (by cases y.2<;>decide)
  simp only [hb,Bool.false_eq_true,if_false];rw [q];simp only [Bool.false_eq_true,if_false];rw [zPD L hx n ZS _ _ (fun z hz=>h z (List.mem_cons_of_mem _ hz)) (by simpa using hn)];simp [zBI,Bool.or_assoc]
theorem zDW {k:Int} (h1:1≤k) (h8:k≤8):zBP (zBk k)=k:=by
 have hk:k=1∨k=2∨k=3∨k=4∨k=5∨k=6∨k=7∨k=8:=by omega
 rcases hk with rfl | rfl | rfl | rfl | rfl | rfl | rfl | rfl<;>decide
theorem zHB {v:List UInt8} (h:zBP v≠0):1≤zBP v∧zBP v≤8∧v=zBk (zBP v):=by
 unfold zBP at h ⊢
 repeat (split;· rename_i e;exact ⟨by omega,by omega,e⟩)
 exact absurd (by repeat (rw [if_neg (by assumption)])) h
theorem zUv {L:List Fg} {s:RS} (h:(zFq L s).bad=E) :
  s.bad=E∧1≤zBP (xa s.T 0)∧zBP (xa s.T 0)≤8∧∃f,zAo f=Q∧zDE L (xa s.T.tail 0)=zAM L f∧s.T=zBk (zBP (xa s.T 0)) :: zAl f :: (zFq L s).T∧(zFq L s).lost=(s.lost||zBE L f):=by
 unfold zFq at h ⊢;obtain ⟨a1,f,a2,a3,a4,a5⟩:=zJu h;rw [a5];obtain ⟨b1,y,T2,b2,b3,b4⟩:=zDV a1;obtain ⟨c1,c2,c3⟩:=zHz b1;rw [c3] at b2 b3 b4;obtain ⟨d1,x,T1,d2,d3,d4⟩:=zDV c1;rw [d4] at b2 b3 b4;simp only at b2 b4;have hk:zBP (xa s.T 0)≠0:=by simpa using c2
 obtain ⟨k1,k2,k3⟩:=zHB hk;refine ⟨d1,k1,k2,f,a2,a4,?_,?_⟩
 ·have hT:(s.next.mark (decide (zBP (xa s.T 0)=0))).next.T=T2:=by rw [c3,d4,b4]
  show s.T=zBk (zBP (xa s.T 0)) :: zAl f :: (s.next.mark (decide (zBP (xa s.T 0)=0))).next.T;rw [hT,←k3,a3,d3,d2,List.tail_cons,b2];rfl
 ·simp only;rw [c3,d4,b4]
theorem zUw (L:List Fg) {k:Int} {f:Fg} (h1:1≤k) (h8:k≤8) (hf:zAo f=Q) (T:List (List UInt8)) (lost:Bool):zFq L (RS.mk (zBk k :: zAl f :: T) E lost)=⟨T,E,lost||zBE L f⟩:=by
 unfold zFq;simp only [List.tail_cons];rw [show xa (zBk k :: zAl f :: T) 0=zBk k from rfl,zDW h1 h8,show decide (k=0)=E from by simp;omega];simp only [RS.next,RS.mark,List.tail_cons,List.isEmpty_cons,Bool.or_false];rw [show xa (zAl f :: T) 0=zAl f from rfl,(zEO L hf T lost).1]
theorem zRP {L:List Fg} {T:List (List UInt8)} (h:(opR L ⟨T,E,E⟩).2.bad=E) (he:(opR L ⟨T,E,E⟩).2.T=[]) :
  ∃n,okN n∧T=zJp n∧(opR L ⟨T,E,E⟩).1=oOf L n∧(opR L ⟨T,E,E⟩).2.lost=zAE L n:=by
 unfold opR at h he ⊢;obtain ⟨k,hk⟩:∃k,zBP (xa T 0)=k:=⟨_,rfl⟩
 obtain ⟨s,hs⟩:∃s,zFq L ⟨T,E,E⟩=s:=⟨_,rfl⟩
 have key:s.bad=E→1≤k∧k≤8∧∃f,zAo f=Q∧zDE L (xa T.tail 0)=zAM L f∧T=zBk k :: zAl f :: s.T∧s.lost=zBE L f:=fun hb=>by
  rw [←hs] at hb;obtain ⟨_,a1,a2,f,a3,a4,a5,a6⟩:=zUv hb;rw [hk] at a1 a2 a5;rw [hs] at a5 a6;exact ⟨a1,a2,f,a3,a4,a5,by simpa using a6⟩
 simp only [hk,hs] at h he ⊢;unfold zBW at h he ⊢;by_cases k4:k=4
 ·rw [if_pos k4] at h he ⊢;obtain ⟨b1,T1,b2,b3⟩:=zHA h;obtain ⟨_,_,f,a3,a4,a5,a6⟩:=key b1;rw [b3] at he;simp only at he;subst he;refine ⟨⟨k,f,U,[],ovT (xa s.T 0)⟩,⟨a3,.inr (.inl ⟨k4,rfl,rfl⟩)⟩,?_,?_,?_⟩
  ·rw [a5,zJp,tlT];simp only;rw [if_pos k4,←b2]
  ·rw [a4];rfl
  ·rw [b3];simp [zAE,zBI,a6]
 rw [if_neg k4] at h he ⊢;by_cases k3:k=3
 ·rw [if_pos k3] at h he ⊢;simp only at h he ⊢;obtain ⟨b1,ZS,x,b2,b3,b4,b5,b6⟩:=zPC L _ (Nat.lt_succ_self _) h;obtain ⟨_,_,f,a3,a4,a5,a6⟩:=key b1;rw [he,List.append_nil] at b4;refine ⟨⟨k,f,Z x,ZS,E⟩,⟨a3,.inr (.inr (.inl ⟨k3,⟨x,rfl,b3⟩,b2,rfl⟩))⟩,?_,?_,?_⟩
  ·rw [a5,zJp,tlT];simp only;rw [if_neg k4,if_pos k3,b4];rfl
  ·rw [a4,b5];simp [oOf]
  ·rw [b6,a6];simp [zAE]
 rw [if_neg k3] at h he ⊢;by_cases k5:k=5
 ·rw [if_pos k5] at h he ⊢;simp only at h he ⊢;obtain ⟨c1,T1,c2,c3⟩:=zHA h;obtain ⟨d1,x,d2,d3,d4,d5⟩:=zJx c1;obtain ⟨b1,T0,e2,e3⟩:=zJv d1;obtain ⟨_,_,f,a3,a4,a5,a6⟩:=key b1;rw [c3] at he;simp only at he;subst he;have FK:T0=plT x++(zAW L (s.must zAU)).2.T:=by rw [←d3,e3]
  have d5':(zAW L (s.must zAU)).2.lost=(s.lost||zBE L x.f):=by rw [d5,e3]
  generalize (zAW L (s.must zAU)).2.T=T9 at c2 FK ⊢;refine ⟨⟨k,f,Z x,[],ovT (xa T9 0)⟩,⟨a3,.inr (.inr (.inr (.inl ⟨k5,⟨x,rfl,d2⟩,rfl⟩)))⟩,?_,?_,?_⟩
  ·rw [a5,zJp,tlT];simp only;rw [if_neg k4,if_neg k3,if_pos k5,e2,FK,←c2];simp [frT]
  ·rw [a4,d4];rfl
  ·rw [c3];simp only;rw [d5',a6];simp [zAE,zBI]
 rw [if_neg k5] at h he ⊢;by_cases k6:k=6
 ·rw [if_pos k6] at h he ⊢;simp only at h he ⊢;obtain ⟨c1,T1,c2,c3⟩:=zHA h;obtain ⟨d1,g,d2,d3,d4,d5⟩:=zJu c1;obtain ⟨e1,y,T2,f2,f3,f4⟩:=zDV d1;obtain ⟨b1,T0,e2,e3⟩:=zJv e1;obtain ⟨_,_,f,a3,a4,a5,a6⟩:=key b1;rw [c3] at he;simp only at he;subst he;rw [d5,f4] at c2;simp only at c2;rw [e3] at f2;simp only at f2;have hov:xa (s.must zAU).T.tail 0=xa T2 0:=by rw [e3];simp only;rw [f2,List.tail_cons]
  obtain ⟨ov,dv⟩:∃b,ovT (xa T2 0)=b:=⟨_,rfl⟩
  rw [dv] at c2;refine ⟨⟨k,f,Z ⟨g,0,E,0⟩,[],ov⟩,⟨a3,.inr (.inr (.inr (.inr ⟨.inl k6,⟨g,rfl,d2⟩,rfl⟩)))⟩,?_,?_,?_⟩
  ·rw [a5,zJp,tlT];simp only;rw [if_neg k4,if_neg k3,if_neg k5,if_pos k6,e2,f2,c2];simp only [frN];rw [d3,f3]
  ·rw [a4,d4,hov,dv];rfl
  ·rw [c3,d5];simp only;rw [f4,e3];simp only;rw [a6];simp [zAE,zBI]
 rw [if_neg k6] at h he ⊢;by_cases k7:k=7
 ·rw [if_pos k7] at h he ⊢;simp only at h he ⊢;obtain ⟨c1,T1,c2,c3⟩:=zHA h;obtain ⟨d1,g,d2,d3,d4,d5⟩:=zJu c1;obtain ⟨e1,y,T2,f2,f3,f4⟩:=zDV d1;obtain ⟨b1,T0,e2,e3⟩:=zJv e1;obtain ⟨_,_,f,a3,a4,a5,a6⟩:=key b1;rw [c3] at he;simp only at he;subst he;rw [d5,f4] at c2;simp only at c2;rw [e3] at f2;simp only at f2;have hov:xa (s.must zEN).T.tail 0=xa T2 0:=by rw [e3];simp only;rw [f2,List.tail_cons]
  obtain ⟨ov,dv⟩:∃b,ovT (xa T2 0)=b:=⟨_,rfl⟩
  rw [dv] at c2;refine ⟨⟨k,f,Z ⟨g,0,E,0⟩,[],ov⟩,⟨a3,.inr (.inr (.inr (.inr ⟨.inr k7,⟨g,rfl,d2⟩,rfl⟩)))⟩,?_,?_,?_⟩
  ·rw [a5,zJp,tlT];simp only;rw [if_neg k4,if_neg k3,if_neg k5,if_neg k6,if_pos k7,e2,f2,c2];simp only [frN];rw [d3,f3]
  ·rw [a4,d4,hov,dv];rfl
  ·rw [c3,d5];simp only;rw [f4,e3];simp only;rw [a6];simp [zAE,zBI]
 rw [if_neg k7] at h he ⊢;simp only at h he ⊢;obtain ⟨a1,a2,f,a3,a4,a5,a6⟩:=key h;refine ⟨⟨k,f,U,[],E⟩,⟨a3,.inl ⟨by simp only;omega,rfl,rfl,rfl⟩⟩,?_,?_,?_⟩
 ·rw [a5,zJp,tlT,he];simp only;rw [if_neg k4,if_neg k3,if_neg k5,if_neg k6,if_neg k7]
 ·rw [a4];rfl
 ·rw [a6];simp [zAE,zBI]
theorem zMG (ZS:List (Nst×Bool)):ZS.length≤(ZS.flatMap stT).length:=by
 induction ZS with
 | nil=>simp
 | cons x ZS ih =>
  have:1≤(stT x).length:=by simp [stT]
  rw [List.flatMap_cons,List.length_append,List.length_cons];omega
theorem zXA (L:List Fg) {n:Nop} (h:okN n):opR L ⟨zJp n,E,E⟩=(oOf L n,⟨[],E,zAE L n⟩):=by
 obtain ⟨hf,hk⟩:=h;obtain ⟨k,f,fr,path,over⟩:=n;unfold zKA at hk;simp only at hf hk;have fB:1≤k∧k≤8:=by
  rcases hk with ⟨h,_⟩ | ⟨h,_⟩ | ⟨h,_⟩ | ⟨h,_⟩ | ⟨h,_⟩<;>omega
 have hh:=zUw L fB.1 fB.2 hf (tlT ⟨k,f,fr,path,over⟩) E;have hkv:=zDW fB.1 fB.2;unfold opR;rw [show zJp ⟨k,f,fr,path,over⟩=zBk k :: zAl f :: tlT ⟨k,f,fr,path,over⟩ from rfl,hh];simp only [List.tail_cons];rw [show xa (zBk k :: zAl f :: tlT ⟨k,f,fr,path,over⟩) 0=zBk k from rfl,hkv];rw [show xa (zAl f :: tlT ⟨k,f,fr,path,over⟩) 0=zAl f from rfl,(zEO L hf [] E).2];simp only [Bool.false_or];unfold zBW tlT;simp only;rcases hk with ⟨e,rfl,rfl,rfl⟩ | ⟨rfl,rfl,rfl⟩ | ⟨rfl,⟨x,rfl,hx⟩,hp,rfl⟩ | ⟨rfl,⟨x,rfl,hx⟩,rfl⟩ | ⟨e,⟨g,rfl,hg⟩,rfl⟩
 ·have n4:¬k=4:=by omega
  have n3:¬k=3:=by omega
  have n5:¬k=5:=by omega
  have n6:¬k=6:=by omega
  have n7:¬k=7:=by omega
  simp only [if_neg n4,if_neg n3,if_neg n5,if_neg n6,if_neg n7];simp [oOf,zAE,zBI]
 ·simp only [if_true];rw [(zDw over [] (zBE L f)).1,(zDw over [] (zBE L f)).2];simp [oOf,zAE,zBI]
 ·simp only [show ¬((3:Int)=4) from by omega,if_false,if_true,frT];rw [zPD L hx _ path [] (zBE L f) hp (by have:=zMG path;rw [List.length_append];omega)];simp [oOf,zAE]
 ·simp only [show ¬((5:Int)=4) from by omega,show ¬((5:Int)=3) from by omega,if_false,if_true,frT];rw [zJw,zJy L hx [zBf over] (zBE L f) (by cases over<;>decide) (by cases over<;>decide)];simp only;rw [(zDw over [] (zBE L f||zBE L x.f)).1,(zDw over [] (zBE L f)).2];simp [oOf,zAE,zBI]
 ·rcases e with rfl | rfl
  ·simp only [show ¬((6:Int)=4) from by omega,show ¬((6:Int)=3) from by omega,show ¬((6:Int)=5) from by omega,if_false,if_true,frN];rw [zJw];simp only [RS.next,List.tail_cons,List.isEmpty_cons,Bool.or_false];rw [show xa [zAl g,zBf over] 0=zAl g from rfl,(zEO L hg [zBf over] (zBE L f)).1,(zEO L hg [] E).2,(zDw over [] _).1,(zDw over [] (zBE L f)).2];simp [oOf,zAE,zBI,sOf]
  ·simp only [show ¬((7:Int)=4) from by omega,show ¬((7:Int)=3) from by omega,show ¬((7:Int)=5) from by omega,show ¬((7:Int)=6) from by omega,if_false,if_true,frN];rw [zJw];simp only [RS.next,List.tail_cons,List.isEmpty_cons,Bool.or_false];rw [show xa [zAl g,zBf over] 0=zAl g from rfl,(zEO L hg [zBf over] (zBE L f)).1,(zEO L hg [] E).2,(zDw over [] _).1,(zDw over [] (zBE L f)).2];simp [oOf,zAE,zBI,sOf]
end Go.Proofs.YtlmdfmnbcndhoaaGreatDoor
