/-
  Lemmas for NotesLong, part 15: contracts and plain facts. Conditions: those that each theorem names.
-/
import Derived.Test.YtlmdfmnbcndhoaaGreatDoorLg14
import Derived.Laws.RangeAny
namespace Go.Proofs.YtlmdfmnbcndhoaaGreatDoor
open Go.RowKit
def zOs (b:UInt8):Bool:=decide (48≤b.toNat)&&decide (b.toNat≤57)
def zHC (a:Nat) (S:List UInt8):Nat:=S.foldl (fun a b=>10*a+(b.toNat-48)) a
def zAs (S:List UInt8):Int×Bool:=if S≠[]∧S.length≤9∧S.head?≠some 48∧S.all zOs=true then ((zHC 0 S:Nat),true) else (0,false)
theorem zGS (a:Nat) (S:List UInt8) (b:UInt8):zHC a (S++[b])=10*zHC a S+(b.toNat-48):=by simp [zHC,List.foldl_append]
theorem zGT {b:UInt8} (h:zOs b=true):48≤b.toNat∧b.toNat≤57:=by simpa [zOs] using h
theorem zPr {b:UInt8} {d:Nat} (h:b.toNat=48+d):UInt8.ofNat (48+d)=b:=by rw [←h];exact UInt8.ofNat_toNat
theorem zPs:∀(n:Nat) {S:List UInt8},S.length=n→S≠[]→S.head?≠some 48→S.all zOs=true→Lib.decDigits (zHC 0 S)=S∧1≤zHC 0 S∧zHC 0 S < 10 ^ n
 | 0,S,hn,h0,_,_=>absurd (List.length_eq_zero_iff.1 hn) h0
 | n+1,S,hn,h0,h1,h2=>by
  obtain ⟨I,b,rfl⟩:∃I b,S=I++[b]:=⟨S.dropLast,S.getLast h0,(List.dropLast_concat_getLast h0).symm⟩
  rw [List.all_append,Bool.and_eq_true] at h2;have hb:=zGT (by simpa using h2.2);rw [zGS];by_cases hI:I=[]
  ·subst hI
   have hb0:b.toNat≠48:=fun e=>h1 (by
    have:b=48:=UInt8.toNat.inj e
    rw [this];rfl)
   have hn0:n=0:=by simpa using hn.symm
   subst hn0;refine ⟨?_,?_,?_⟩
   ·rw [show 10*zHC 0 []+(b.toNat-48)=b.toNat-48 from by simp [zHC],Lib.decDigits_one (by omega),zPr (b:=b) (by omega)];rfl
   ·simp [zHC];omega
   ·simp [zHC];omega
  ·have hnI:I.length=n:=by simpa using hn
   obtain ⟨k1,k2,k3⟩:=zPs n hnI hI (by cases I with | nil=>exact absurd rfl hI | cons x I=>simpa using h1) h2.1;refine ⟨?_,by omega,?_⟩
   ·rw [Lib.decDigits,dif_neg (by omega),show (10*zHC 0 I+(b.toNat-48)) / 10=zHC 0 I by omega,k1,show (10*zHC 0 I+(b.toNat-48)) % 10=b.toNat-48 by omega,zPr (b:=b) (by omega)]
   ·rw [Nat.pow_succ];omega
theorem zDt {S:List UInt8} {n:Int} (h:zAs S=(n,true)):S=Lib.itoa n∧1≤n∧n≤999999999:=by
 unfold zAs at h;split at h
 ·rename_i hc;obtain ⟨h1,h2,h3,h4⟩:=hc;obtain ⟨k1,k2,k3⟩:=zPs S.length rfl h1 h3 h4;have hn:((zHC 0 S:Nat):Int)=n:=congrArg Prod.fst h;have hp:10 ^ S.length≤10 ^ 9:=Nat.pow_le_pow_right (by omega) h2;refine ⟨?_,by omega,by omega⟩;rw [←hn];unfold Lib.itoa;rw [if_neg (by omega),Int.toNat_natCast,k1]
 ·have:=congrArg Prod.snd h;simp at this
theorem zLF:∀(k:Nat) {u:Nat},u < 10 ^ (k+1)→(Lib.decDigits u).length≤k+1
 | 0,u,h=>by rw [Lib.decDigits_one (by omega)];simp
 | k+1,u,h=>by
  rw [Lib.decDigits];split
  ·simp
  ·have:=zLF k (u:=u / 10) (by rw [Nat.pow_succ] at h;omega);simp;omega
theorem zRh {u:Nat} (h:1≤u):(Lib.decDigits u).head?≠some 48:=by
 induction u using Nat.strongRecOn with
 | _ u ih =>
  rw [Lib.decDigits];split
  ·rename_i h1;intro e;have:=zJn (a:=48+u) (b:=48) (by omega) (by omega) (by simpa using e);omega
  ·rename_i h1;have:=ih (u / 10) (by omega) (by omega);rw [List.head?_append]
   cases hd:(Lib.decDigits (u / 10)).head? with
   | none=>exact absurd (List.head?_eq_none_iff.1 hd) (zGy _)
   | some x=>rw [hd] at this;simpa using this
theorem zTz (u:Nat):zHC 0 (Lib.decDigits u)=u:=by
 induction u using Nat.strongRecOn with
 | _ u ih =>
  rw [Lib.decDigits];split
  ·rename_i h;simp only [zHC,List.foldl];rw [zFj h];omega
  ·rename_i h;rw [zGS,ih (u / 10) (by omega),zFj (by omega)];omega
theorem zIG {n:Int} (h1:1≤n) (h2:n≤999999999):zAs (Lib.itoa n)=(n,true):=by
 obtain ⟨u,rfl⟩:=Int.eq_ofNat_of_zero_le (by omega:0≤n);have hi:Lib.itoa (u:Int)=Lib.decDigits u:=by unfold Lib.itoa;rw [if_neg (by omega)];simp
 have ha:(Lib.decDigits u).all zOs=true:=by
  rw [List.all_eq_true];intro b hb;have:=zDn u b hb;simp [zOs,this]
 unfold zAs;rw [hi,if_pos ⟨zGy u,zLF 8 (by omega),zRh (by omega),ha⟩,zTz]
structure RS where
 T:List (List UInt8)
 bad:Bool
 lost:Bool
def RS.next (s:RS):RS:=⟨s.T.tail,s.bad||s.T.isEmpty,s.lost⟩
def RS.is (s:RS) (W:List UInt8):RS:=⟨isT s.T W,s.bad,s.lost⟩
noncomputable def RS.fing (s:RS) (L:List Fg) (S:List UInt8):RS:=⟨s.T,s.bad||zKs S,s.lost||zEO L S⟩
def RS.mark (s:RS) (b:Bool):RS:=⟨s.T,s.bad||b,s.lost⟩
def RS.over (s:RS):RS:=s.next.mark (!(ovT (xa s.T 0)||unT (xa s.T 0)))
def RS.must (s:RS) (W:List UInt8):RS:=if s.bad then s else (s.is W).mark (!isB s.T W)
def zFd (W:List UInt8) (s:RS):Int×RS :=
 if isB s.T W then ((zAs (xa (isT s.T W) 0)).1,(s.is W).next.mark (!(zAs (xa (isT s.T W) 0)).2)) else (0,s)
def neT (S:List UInt8):Bool:=S==zUZ
def faT (S:List UInt8):Bool:=S==farW
noncomputable def zDC (L:List Fg) (s:RS):RS:=((s.next.fing L (xa s.T 0)).next).mark (!(neT (xa s.T.tail 0)||faT (xa s.T.tail 0)))
noncomputable def zAW (L:List Fg) (s:RS):Sg×RS :=
 (⟨zEx L (xa s.T 0),(zFd zDe (zDC L s)).1,faT (xa s.T.tail 0),(zFd zCd (zFd zDe (zDC L s)).2).1⟩,(zFd zCd (zFd zDe (zDC L s)).2).2)
noncomputable def zKY (L:List Fg) (s:RS):Sp×RS:=(⟨(zAW L s.over).1,ovT (xa s.T 0)⟩,(zAW L s.over).2.must [44])
noncomputable def zDU (L:List Fg):Nat→RS→List Sp→(List Sp×Sg)×RS
 | 0,s,P=>((P,s0),s)
 | n+1,s,P =>
  if isB s.T zAU then ((P,(zAW L (s.is zAU)).1),(zAW L (s.is zAU)).2)
  else if (zKY L s).2.bad then ((P++[(zKY L s).1],s0),(zKY L s).2) else zDU L n (zKY L s).2 (P++[(zKY L s).1])
def zBR (v:List UInt8):Int :=
 if v=zBk 1 then 1 else if v=zBk 2 then 2 else if v=zBk 3 then 3 else if v=zBk 4 then 4 else if v=zBk 5 then 5 else if v=zBk 6 then 6 else if v=zBk 7 then 7 else if v=zBk 8 then 8 else 0
noncomputable def zFu (L:List Fg) (s:RS):RS:=((s.next.mark (decide (zBR (xa s.T 0)=0))).next).fing L (xa s.T.tail 0)
noncomputable def zBY (L:List Fg) (k f:Int) (s:RS):Og×RS :=
 if k=4 then (⟨k,f,s0,[],ovT (xa s.T 0)⟩,s.over)
 else if k=3 then (⟨k,f,(zDU L (s.T.length+1) s []).1.2,(zDU L (s.T.length+1) s []).1.1,false⟩,(zDU L (s.T.length+1) s []).2)
 else if k=5 then (⟨k,f,(zAW L (s.must zAU)).1,[],ovT (xa (zAW L (s.must zAU)).2.T 0)⟩,(zAW L (s.must zAU)).2.over)
 else if k=6 then (⟨k,f,⟨zEx L (xa (s.must zAU).T 0),0,false,0⟩,[],ovT (xa (s.must zAU).T.tail 0)⟩,((s.must zAU).next.fing L (xa (s.must zAU).T 0)).over)
 else if k=7 then (⟨k,f,⟨zEx L (xa (s.must zEP).T 0),0,false,0⟩,[],ovT (xa (s.must zEP).T.tail 0)⟩,((s.must zEP).next.fing L (xa (s.must zEP).T 0)).over)
 else (⟨k,f,s0,[],false⟩,s)
noncomputable def opR (L:List Fg) (s:RS):Og×RS:=zBY L (zBR (xa s.T 0)) (zEx L (xa s.T.tail 0)) (zFu L s)
theorem zDV {s:RS} (h:s.next.bad=false):s.bad=false∧∃x T,s.T=x :: T∧xa s.T 0=x∧s.next=⟨T,false,s.lost⟩:=by
 obtain ⟨T,bad,lost⟩:=s
 cases T with
 | nil=>simp [RS.next] at h
 | cons x T =>
  have hb:bad=false:=by simpa [RS.next] using h
  exact ⟨hb,x,T,rfl,rfl,by simp [RS.next,hb]⟩
theorem zJw {s:RS} {L:List Fg} {S:List UInt8} (h:(s.fing L S).bad=false) :
  s.bad=false∧∃f,zAx f=true∧zAq f=S∧zEx L S=zBb L f∧s.fing L S=⟨s.T,false,s.lost||zBA L f⟩:=by
 unfold RS.fing zKs zEO at h ⊢;simp only [Bool.or_eq_false_iff] at h
 cases hp:zIE S with
 | none=>rw [hp] at h;simp at h
 | some f =>
  rw [hp] at h;obtain ⟨k1,k2⟩:=zLA hp;refine ⟨h.1,f,k1,k2,by unfold zEx;rw [hp],?_⟩;simp only [h.1];rfl
theorem zEQ (L:List Fg) {f:Fg} (hf:zAx f=true) (T:List (List UInt8)) (lost:Bool):(RS.mk T false lost).fing L (zAq f)=⟨T,false,lost||zBA L f⟩∧zEx L (zAq f)=zBb L f:=by
 have hp:=zFo hf rfl;unfold RS.fing zKs zEO zEx;rw [hp];exact ⟨rfl,rfl⟩
theorem zHD {s:RS} {b:Bool} (h:(s.mark b).bad=false):s.bad=false∧b=false∧s.mark b=s:=by
 obtain ⟨T,bad,lost⟩:=s;unfold RS.mark at h ⊢;simp only [Bool.or_eq_false_iff] at h;obtain ⟨rfl,rfl⟩:=h;exact ⟨rfl,rfl,rfl⟩
theorem zVY (S:List UInt8) (h:(!(ovT S||unT S))=false):S=zBe (ovT S):=by
 simp only [Bool.not_eq_false',Bool.or_eq_true] at h;rcases h with h | h
 ·rw [h];exact (show S=[111,118,101,114] by simpa [ovT] using h)
 ·have h2:S=[117,110,100,101,114]:=by simpa [unT] using h
  subst h2;rfl
theorem zTA (b:Bool):ovT (zBe b)=b∧(!(ovT (zBe b)||unT (zBe b)))=false:=by cases b<;>decide
theorem zTB (S:List UInt8) (h:(!(neT S||faT S))=false):S=zCD (faT S):=by
 simp only [Bool.not_eq_false',Bool.or_eq_true] at h;rcases h with h | h
 ·have h2:S=zUZ:=by simpa [neT] using h
  subst h2;rfl
 ·rw [h];exact (show S=farW by simpa [faT] using h)
theorem zKv (b:Bool):faT (zCD b)=b∧(!(neT (zCD b)||faT (zCD b)))=false:=by cases b<;>decide
theorem zHE {s:RS} (h:s.over.bad=false):s.bad=false∧∃T,s.T=zBe (ovT (xa s.T 0)) :: T∧s.over=⟨T,false,s.lost⟩:=by
 unfold RS.over at h ⊢;obtain ⟨h1,h2,h3⟩:=zHD h;obtain ⟨k1,x,T,k2,k3,k4⟩:=zDV h1;rw [h3,k4];exact ⟨k1,T,by rw [←zVY _ h2,k3,k2],rfl⟩
theorem zDu (b:Bool) (T:List (List UInt8)) (lost:Bool):(RS.mk (zBe b :: T) false lost).over=⟨T,false,lost⟩∧ovT (xa (zBe b :: T) 0)=b:=by
 have:=zTA b;unfold RS.over RS.next RS.mark;simp only [show xa (zBe b :: T) 0=zBe b from rfl,this.2,List.tail_cons,List.isEmpty_cons,Bool.or_false];exact ⟨trivial,this.1⟩
theorem zTC {T:List (List UInt8)} {W:List UInt8} (h:isB T W=true):T=W :: isT T W:=by
 cases T with
 | nil=>simp [isB] at h
 | cons x T =>
  have:x=W:=by simpa [isB] using h
  subst this;rw [zGf]
theorem zJx {s:RS} {W:List UInt8} (h:(s.must W).bad=false):s.bad=false∧∃T,s.T=W :: T∧s.must W=⟨T,false,s.lost⟩:=by
 unfold RS.must at h ⊢
 cases hb:s.bad with
 | true=>rw [if_pos hb,hb] at h;cases h
 | false =>
  rw [if_neg (by rw [hb];simp)] at h;obtain ⟨_,h2,h3⟩:=zHD h;have hi:isB s.T W=true:=by simpa using h2
  refine ⟨rfl,isT s.T W,zTC hi,?_⟩;rw [if_neg (by simp),h3];unfold RS.is;rw [hb]
theorem zJy (W:List UInt8) (T:List (List UInt8)) (lost:Bool):(RS.mk (W :: T) false lost).must W=⟨T,false,lost⟩:=by
 unfold RS.must RS.mark RS.is;simp only [zJo,zGf];rfl
theorem zSI {W:List UInt8} {s:RS} (h:(zFd W s).2.bad=false):s.bad=false∧(zFd W s).2.lost=s.lost∧0≤(zFd W s).1∧(zFd W s).1≤999999999∧s.T=zGR W (zFd W s).1++(zFd W s).2.T:=by
 unfold zFd at h ⊢
 cases hb:isB s.T W with
 | false =>
  rw [hb] at h;simp only [Bool.false_eq_true,if_false] at h ⊢;exact ⟨h,trivial,by omega,by omega,by simp [zGR]⟩
 | true =>
  rw [hb] at h;simp only [if_true] at h ⊢;obtain ⟨h1,h2,h3⟩:=zHD h;obtain ⟨k1,x,T,k2,k3,k4⟩:=zDV h1;rw [h3,k4];have hT:isT s.T W=x :: T:=k2;have hxa:xa (isT s.T W) 0=x:=by rw [hT];rfl
  rw [hxa] at h2 ⊢
  obtain ⟨c1,c2,c3⟩:=zDt (S:=x) (n:=(zAs x).1) (by
   have:(zAs x).2=true:=by simpa using h2
   rw [←this])
  refine ⟨k1,rfl,by omega,by omega,?_⟩;have:=zTC hb;rw [hT] at this;rw [this,zGR,if_neg (by omega),←c1];rfl
theorem zSJ (W:List UInt8) {n:Int} (h0:0≤n) (h1:n≤999999999) (T:List (List UInt8)) (lost:Bool) (hT:T.head?≠some W):zFd W (RS.mk (zGR W n++T) false lost)=(n,⟨T,false,lost⟩):=by
 unfold zFd zGR;by_cases e:n=0
 ·subst e;have:isB T W=false:=by simp [isB,hT]
  simp [this]
 ·rw [if_neg e];have hc:=zIG (n:=n) (by omega) h1;simp only [List.cons_append,List.nil_append,zJo,zGf,if_true];rw [show xa (Lib.itoa n :: T) 0=Lib.itoa n from rfl,hc];unfold RS.mark RS.next RS.is;simp [zGf]
theorem zJz {L:List Fg} {s:RS} (h:(zAW L s).2.bad=false) :
  s.bad=false∧∃x:Nst,zCT x∧s.T=plT x++(zAW L s).2.T∧(zAW L s).1=sOf L x∧(zAW L s).2.lost=(s.lost||zBA L x.f):=by
 unfold zAW at h ⊢;simp only at h ⊢;obtain ⟨a1,a2,a3,a4,a5⟩:=zSI h;obtain ⟨b1,b2,b3,b4,b5⟩:=zSI a1;generalize (zFd zCd (zFd zDe (zDC L s)).2).1=pc at a3 a4 a5 ⊢;generalize (zFd zCd (zFd zDe (zDC L s)).2).2=s6 at a2 a5 ⊢;generalize (zFd zDe (zDC L s)).1=lo at b3 b4 b5 ⊢;generalize (zFd zDe (zDC L s)).2=s5 at a2 a5 b2 b5;unfold zDC at b1 b2 b5;obtain ⟨c1,c2,c3⟩:=zHD b1;rw [c3] at b2 b5;obtain ⟨d1,y,T2,d2,d3,d4⟩:=zDV c1;rw [d4] at b2 b5;obtain ⟨e1,f,e2,e3,e4,e5⟩:=zJw d1;rw [e5] at d2 b2;simp only at d2 b2 b5;obtain ⟨f1,x,T1,f2,f3,f4⟩:=zDV e1;rw [f4] at d2 b2;simp only at d2 b2;have hx:xa s.T.tail 0=y:=by rw [f2,List.tail_cons,d2];rfl
 have hs:=zTB _ c2;refine ⟨f1,⟨f,lo,faT (xa s.T.tail 0),pc⟩,⟨e2,b3,b4,a3,a4⟩,?_,?_,?_⟩
 ·have hside:zCD (faT (xa s.T.tail 0))=y:=by rw [←hs,hx]
  unfold plT;simp only;rw [hside,e3,f3,f2,d2,b5,a5];simp
 ·unfold sOf;simp only [e4]
 ·rw [a2,b2]
theorem zJA (L:List Fg) {x:Nst} (h:zCT x) (T:List (List UInt8)) (lost:Bool) (h1:T.head?≠some zDe) (h2:T.head?≠some zCd) :
  zAW L (RS.mk (plT x++T) false lost)=(sOf L x,⟨T,false,lost||zBA L x.f⟩):=by
 obtain ⟨k1,k2,k3,k4,k5⟩:=h;obtain ⟨p1,p2⟩:=zEQ L k1 (zCD x.far :: (zGR zDe x.l++(zGR zCd x.pc++T))) lost;have hS:zDC L (RS.mk (plT x++T) false lost)=⟨zGR zDe x.l++(zGR zCd x.pc++T),false,lost||zBA L x.f⟩:=by
  unfold zDC plT;simp only [List.cons_append,List.nil_append,List.append_assoc,RS.next,List.tail_cons,List.isEmpty_cons,Bool.or_false];rw [show xa (zAq x.f :: zCD x.far :: (zGR zDe x.l++(zGR zCd x.pc++T))) 0=zAq x.f from rfl,p1];rw [show xa (zCD x.far :: (zGR zDe x.l++(zGR zCd x.pc++T))) 0=zCD x.far from rfl,(zKv x.far).2];simp [RS.mark]
 have hh:(zGR zCd x.pc++T).head?≠some zDe:=by
  unfold zGR;split
  ·exact h1
  ·simp
 have n1:=zSJ zDe k2 k3 (zGR zCd x.pc++T) (lost||zBA L x.f) hh;have n2:=zSJ zCd k4 k5 T (lost||zBA L x.f) h2;unfold zAW;rw [hS,n1];simp only;rw [n2];simp only [plT,List.cons_append,List.nil_append,List.append_assoc,List.tail_cons];rw [show xa (zAq x.f :: zCD x.far :: (zGR zDe x.l++(zGR zCd x.pc++T))) 0=zAq x.f from rfl,p2];rw [show xa (zCD x.far :: (zGR zDe x.l++(zGR zCd x.pc++T))) 0=zCD x.far from rfl,(zKv x.far).1];rfl
theorem zSK {L:List Fg} {s:RS} (h:(zKY L s).2.bad=false) :
  s.bad=false∧∃x:Nst×Bool,zCT x.1∧s.T=stT x++(zKY L s).2.T∧(zKY L s).1=pOf L x∧(zKY L s).2.lost=(s.lost||zBA L x.1.f):=by
 unfold zKY at h ⊢;simp only at h ⊢;obtain ⟨a1,T,a2,a3⟩:=zJx h;obtain ⟨b1,x,b2,b3,b4,b5⟩:=zJz a1;obtain ⟨c1,T1,c2,c3⟩:=zHE b1;have b3':T1=plT x++(zAW L s.over).2.T:=by rw [←b3,c3]
 have b5':(zAW L s.over).2.lost=(s.lost||zBA L x.f):=by rw [b5,c3]
 refine ⟨c1,(x,ovT (xa s.T 0)),b2,?_,?_,?_⟩
 ·rw [a3,stT,List.cons_append,List.append_assoc,List.singleton_append,←a2,←b3'];exact c2
 ·rw [b4];rfl
 ·rw [a3,b5']
theorem zVb (L:List Fg) {x:Nst×Bool} (h:zCT x.1) (T:List (List UInt8)) (lost:Bool) :
  zKY L (RS.mk (stT x++T) false lost)=(pOf L x,⟨T,false,lost||zBA L x.1.f⟩):=by
 obtain ⟨p1,p2⟩:=zDu x.2 (plT x.1++([44] :: T)) lost;have hT:stT x++T=zBe x.2 :: (plT x.1++([44] :: T)):=by simp [stT]
 have q:=zJA L h ([44] :: T) lost (by simp) (by simp);unfold zKY;rw [hT,p1,q];simp only;rw [zJy,p2];rfl
theorem zPt (L:List Fg):∀(n:Nat) {s:RS} {P:List Sp},s.T.length < n→(zDU L n s P).2.bad=false →
  s.bad=false∧∃(Q:List (Nst×Bool)) (x:Nst),(∀y∈Q,zCT y.1)∧zCT x∧s.T=Q.flatMap stT++zAU :: plT x++(zDU L n s P).2.T ∧
   (zDU L n s P).1=(P++Q.map (pOf L),sOf L x)∧(zDU L n s P).2.lost=(s.lost||zBK L Q||zBA L x.f)
 | 0,s,P,hn,_=>absurd hn (by omega)
 | n+1,s,P,hn,h=>by
  rw [zDU] at h ⊢
  cases hb:isB s.T zAU with
  | true =>
   rw [hb] at h;simp only [if_true] at h ⊢;obtain ⟨a1,x,a2,a3,a4,a5⟩:=zJz h;refine ⟨a1,[],x,by simp,a2,?_,by rw [a4];simp,by rw [a5];simp [zBK,RS.is]⟩;have h1:=zTC hb;rw [h1,show isT s.T zAU=plT x++(zAW L (s.is zAU)).2.T from a3];simp
  | false =>
   rw [hb] at h;simp only [Bool.false_eq_true,if_false] at h ⊢
   cases hs:(zKY L s).2.bad with
   | true =>
    rw [hs] at h;simp only [if_true] at h;rw [hs] at h;cases h
   | false =>
    rw [hs] at h;simp only [Bool.false_eq_true,if_false] at h ⊢;obtain ⟨a1,x,a2,a3,a4,a5⟩:=zSK hs;have hl:(zKY L s).2.T.length < n:=by
     have:=congrArg List.length a3;simp [stT] at this;omega
    obtain ⟨b1,Q,y,b2,b3,b4,b5,b6⟩:=zPt L n hl h;refine ⟨a1,x :: Q,y,fun z hz=>?_,b3,?_,?_,?_⟩
    ·rcases List.mem_cons.1 hz with rfl | hz
     ·exact a2
     ·exact b2 z hz
    ·rw [a3,b4];simp
    ·rw [b5,a4];simp
    ·rw [b6,a5];simp only [zBK,List.any_cons,Bool.or_assoc]
theorem zPu (L:List Fg) {x:Nst} (hx:zCT x):∀(n:Nat) (Q:List (Nst×Bool)) (P:List Sp) (lost:Bool),(∀y∈Q,zCT y.1)→Q.length < n →
  zDU L n (RS.mk (Q.flatMap stT++zAU :: plT x) false lost) P=((P++Q.map (pOf L),sOf L x),⟨[],false,lost||zBK L Q||zBA L x.f⟩)
 | 0,Q,P,lost,_,hn=>absurd hn (by omega)
 | n+1,[],P,lost,_,_=>by
  rw [zDU];have q:=zJA L hx [] lost (by simp) (by simp);rw [List.append_nil] at q;simp only [List.flatMap_nil,List.nil_append,zJo,if_true,RS.is,zGf];rw [q];simp [zBK]
 | n+1,y :: Q,P,lost,h,hn=>by
  rw [zDU,List.flatMap_cons,List.append_assoc];have hy:=h y (List.mem_cons_self ..);have q:=zVb L hy (Q.flatMap stT++zAU :: plT x) lost;have hb:isB (stT y++(Q.flatMap stT++zAU :: plT x)) zAU=false:=by
   rw [stT,List.cons_append];exact zSH _ (by cases y.2<;>decide)
  simp only [hb,Bool.false_eq_true,if_false];rw [q];simp only [Bool.false_eq_true,if_false];rw [zPu L hx n Q _ _ (fun z hz=>h z (List.mem_cons_of_mem _ hz)) (by simpa using hn)];simp [zBK,Bool.or_assoc]
theorem zDW {k:Int} (h1:1≤k) (h8:k≤8):zBR (zBk k)=k:=by
 have hk:k=1∨k=2∨k=3∨k=4∨k=5∨k=6∨k=7∨k=8:=by omega
 rcases hk with rfl | rfl | rfl | rfl | rfl | rfl | rfl | rfl<;>decide
theorem zHF {v:List UInt8} (h:zBR v≠0):1≤zBR v∧zBR v≤8∧v=zBk (zBR v):=by
 unfold zBR at h ⊢
 repeat (split;· rename_i e;exact ⟨by omega,by omega,e⟩)
 exact absurd (by repeat (rw [if_neg (by assumption)])) h
theorem zTD {L:List Fg} {s:RS} (h:(zFu L s).bad=false) :
  s.bad=false∧1≤zBR (xa s.T 0)∧zBR (xa s.T 0)≤8∧∃f,zAx f=true∧zEx L (xa s.T.tail 0)=zBb L f∧s.T=zBk (zBR (xa s.T 0)) :: zAq f :: (zFu L s).T∧(zFu L s).lost=(s.lost||zBA L f):=by
 unfold zFu at h ⊢;obtain ⟨a1,f,a2,a3,a4,a5⟩:=zJw h;rw [a5];obtain ⟨b1,y,T2,b2,b3,b4⟩:=zDV a1;obtain ⟨c1,c2,c3⟩:=zHD b1;rw [c3] at b2 b3 b4;obtain ⟨d1,x,T1,d2,d3,d4⟩:=zDV c1;rw [d4] at b2 b3 b4;simp only at b2 b4;have hk:zBR (xa s.T 0)≠0:=by simpa using c2
 obtain ⟨k1,k2,k3⟩:=zHF hk;refine ⟨d1,k1,k2,f,a2,a4,?_,?_⟩
 ·have hT:(s.next.mark (decide (zBR (xa s.T 0)=0))).next.T=T2:=by rw [c3,d4,b4]
  show s.T=zBk (zBR (xa s.T 0)) :: zAq f :: (s.next.mark (decide (zBR (xa s.T 0)=0))).next.T;rw [hT,←k3,a3,d3,d2,List.tail_cons,b2];rfl
 ·simp only;rw [c3,d4,b4]
theorem zTE (L:List Fg) {k:Int} {f:Fg} (h1:1≤k) (h8:k≤8) (hf:zAx f=true) (T:List (List UInt8)) (lost:Bool):zFu L (RS.mk (zBk k :: zAq f :: T) false lost)=⟨T,false,lost||zBA L f⟩:=by
 unfold zFu;simp only [List.tail_cons];rw [show xa (zBk k :: zAq f :: T) 0=zBk k from rfl,zDW h1 h8,show decide (k=0)=false from by simp;omega];simp only [RS.next,RS.mark,List.tail_cons,List.isEmpty_cons,Bool.or_false];rw [show xa (zAq f :: T) 0=zAq f from rfl,(zEQ L hf T lost).1]
theorem zRi {L:List Fg} {T:List (List UInt8)} (h:(opR L ⟨T,false,false⟩).2.bad=false) (he:(opR L ⟨T,false,false⟩).2.T=[]) :
  ∃n,okN n∧T=zJr n∧(opR L ⟨T,false,false⟩).1=oOf L n∧(opR L ⟨T,false,false⟩).2.lost=zAF L n:=by
 unfold opR at h he ⊢;obtain ⟨k,hk⟩:∃k,zBR (xa T 0)=k:=⟨_,rfl⟩
 obtain ⟨s,hs⟩:∃s,zFu L ⟨T,false,false⟩=s:=⟨_,rfl⟩
 have key:s.bad=false→1≤k∧k≤8∧∃f,zAx f=true∧zEx L (xa T.tail 0)=zBb L f∧T=zBk k :: zAq f :: s.T∧s.lost=zBA L f:=fun hb=>by
  rw [←hs] at hb;obtain ⟨_,a1,a2,f,a3,a4,a5,a6⟩:=zTD hb;rw [hk] at a1 a2 a5;rw [hs] at a5 a6;exact ⟨a1,a2,f,a3,a4,a5,by simpa using a6⟩
 simp only [hk,hs] at h he ⊢;unfold zBY at h he ⊢;by_cases k4:k=4
 ·rw [if_pos k4] at h he ⊢;obtain ⟨b1,T1,b2,b3⟩:=zHE h;obtain ⟨_,_,f,a3,a4,a5,a6⟩:=key b1;rw [b3] at he;simp only at he;subst he;refine ⟨⟨k,f,none,[],ovT (xa s.T 0)⟩,⟨a3,.inr (.inl ⟨k4,rfl,rfl⟩)⟩,?_,?_,?_⟩
  ·rw [a5,zJr,tlT];simp only;rw [if_pos k4,←b2]
  ·rw [a4];rfl
  ·rw [b3];simp [zAF,zBK,a6]
 rw [if_neg k4] at h he ⊢;by_cases k3:k=3
 ·rw [if_pos k3] at h he ⊢;simp only at h he ⊢;obtain ⟨b1,Q,x,b2,b3,b4,b5,b6⟩:=zPt L _ (Nat.lt_succ_self _) h;obtain ⟨_,_,f,a3,a4,a5,a6⟩:=key b1;rw [he,List.append_nil] at b4;refine ⟨⟨k,f,some x,Q,false⟩,⟨a3,.inr (.inr (.inl ⟨k3,⟨x,rfl,b3⟩,b2,rfl⟩))⟩,?_,?_,?_⟩
  ·rw [a5,zJr,tlT];simp only;rw [if_neg k4,if_pos k3,b4];rfl
  ·rw [a4,b5];simp [oOf]
  ·rw [b6,a6];simp [zAF]
 rw [if_neg k3] at h he ⊢;by_cases k5:k=5
 ·rw [if_pos k5] at h he ⊢;simp only at h he ⊢;obtain ⟨c1,T1,c2,c3⟩:=zHE h;obtain ⟨d1,x,d2,d3,d4,d5⟩:=zJz c1;obtain ⟨b1,T0,e2,e3⟩:=zJx d1;obtain ⟨_,_,f,a3,a4,a5,a6⟩:=key b1;rw [c3] at he;simp only at he;subst he;have d3':T0=plT x++(zAW L (s.must zAU)).2.T:=by rw [←d3,e3]
  have d5':(zAW L (s.must zAU)).2.lost=(s.lost||zBA L x.f):=by rw [d5,e3]
  generalize (zAW L (s.must zAU)).2.T=T9 at c2 d3' ⊢;refine ⟨⟨k,f,some x,[],ovT (xa T9 0)⟩,⟨a3,.inr (.inr (.inr (.inl ⟨k5,⟨x,rfl,d2⟩,rfl⟩)))⟩,?_,?_,?_⟩
  ·rw [a5,zJr,tlT];simp only;rw [if_neg k4,if_neg k3,if_pos k5,e2,d3',←c2];simp [frT]
  ·rw [a4,d4];rfl
  ·rw [c3];simp only;rw [d5',a6];simp [zAF,zBK]
 rw [if_neg k5] at h he ⊢;by_cases k6:k=6
 ·rw [if_pos k6] at h he ⊢;simp only at h he ⊢;obtain ⟨c1,T1,c2,c3⟩:=zHE h;obtain ⟨d1,g,d2,d3,d4,d5⟩:=zJw c1;obtain ⟨e1,y,T2,f2,f3,f4⟩:=zDV d1;obtain ⟨b1,T0,e2,e3⟩:=zJx e1;obtain ⟨_,_,f,a3,a4,a5,a6⟩:=key b1;rw [c3] at he;simp only at he;subst he;rw [d5,f4] at c2;simp only at c2;rw [e3] at f2;simp only at f2;have hov:xa (s.must zAU).T.tail 0=xa T2 0:=by rw [e3];simp only;rw [f2,List.tail_cons]
  obtain ⟨ov,hov2⟩:∃b,ovT (xa T2 0)=b:=⟨_,rfl⟩
  rw [hov2] at c2;refine ⟨⟨k,f,some ⟨g,0,false,0⟩,[],ov⟩,⟨a3,.inr (.inr (.inr (.inr ⟨.inl k6,⟨g,rfl,d2⟩,rfl⟩)))⟩,?_,?_,?_⟩
  ·rw [a5,zJr,tlT];simp only;rw [if_neg k4,if_neg k3,if_neg k5,if_pos k6,e2,f2,c2];simp only [frN];rw [d3,f3]
  ·rw [a4,d4,hov,hov2];rfl
  ·rw [c3,d5];simp only;rw [f4,e3];simp only;rw [a6];simp [zAF,zBK]
 rw [if_neg k6] at h he ⊢;by_cases k7:k=7
 ·rw [if_pos k7] at h he ⊢;simp only at h he ⊢;obtain ⟨c1,T1,c2,c3⟩:=zHE h;obtain ⟨d1,g,d2,d3,d4,d5⟩:=zJw c1;obtain ⟨e1,y,T2,f2,f3,f4⟩:=zDV d1;obtain ⟨b1,T0,e2,e3⟩:=zJx e1;obtain ⟨_,_,f,a3,a4,a5,a6⟩:=key b1;rw [c3] at he;simp only at he;subst he;rw [d5,f4] at c2;simp only at c2;rw [e3] at f2;simp only at f2;have hov:xa (s.must zEP).T.tail 0=xa T2 0:=by rw [e3];simp only;rw [f2,List.tail_cons]
  obtain ⟨ov,hov2⟩:∃b,ovT (xa T2 0)=b:=⟨_,rfl⟩
  rw [hov2] at c2;refine ⟨⟨k,f,some ⟨g,0,false,0⟩,[],ov⟩,⟨a3,.inr (.inr (.inr (.inr ⟨.inr k7,⟨g,rfl,d2⟩,rfl⟩)))⟩,?_,?_,?_⟩
  ·rw [a5,zJr,tlT];simp only;rw [if_neg k4,if_neg k3,if_neg k5,if_neg k6,if_pos k7,e2,f2,c2];simp only [frN];rw [d3,f3]
  ·rw [a4,d4,hov,hov2];rfl
  ·rw [c3,d5];simp only;rw [f4,e3];simp only;rw [a6];simp [zAF,zBK]
 rw [if_neg k7] at h he ⊢;simp only at h he ⊢;obtain ⟨a1,a2,f,a3,a4,a5,a6⟩:=key h;refine ⟨⟨k,f,none,[],false⟩,⟨a3,.inl ⟨by simp only;omega,rfl,rfl,rfl⟩⟩,?_,?_,?_⟩
 ·rw [a5,zJr,tlT,he];simp only;rw [if_neg k4,if_neg k3,if_neg k5,if_neg k6,if_neg k7]
 ·rw [a4];rfl
 ·rw [a6];simp [zAF,zBK]
theorem zMG (Q:List (Nst×Bool)):Q.length≤(Q.flatMap stT).length:=by
 induction Q with
 | nil=>simp
 | cons x Q ih =>
  have:1≤(stT x).length:=by simp [stT]
  rw [List.flatMap_cons,List.length_append,List.length_cons];omega
theorem zVZ (L:List Fg) {n:Nop} (h:okN n):opR L ⟨zJr n,false,false⟩=(oOf L n,⟨[],false,zAF L n⟩):=by
 obtain ⟨hf,hk⟩:=h;obtain ⟨k,f,fr,path,over⟩:=n;unfold zKu at hk;simp only at hf hk;have hk18:1≤k∧k≤8:=by
  rcases hk with ⟨h,_⟩ | ⟨h,_⟩ | ⟨h,_⟩ | ⟨h,_⟩ | ⟨h,_⟩<;>omega
 have hh:=zTE L hk18.1 hk18.2 hf (tlT ⟨k,f,fr,path,over⟩) false;have hkv:=zDW hk18.1 hk18.2;unfold opR;rw [show zJr ⟨k,f,fr,path,over⟩=zBk k :: zAq f :: tlT ⟨k,f,fr,path,over⟩ from rfl,hh];simp only [List.tail_cons];rw [show xa (zBk k :: zAq f :: tlT ⟨k,f,fr,path,over⟩) 0=zBk k from rfl,hkv];rw [show xa (zAq f :: tlT ⟨k,f,fr,path,over⟩) 0=zAq f from rfl,(zEQ L hf [] false).2];simp only [Bool.false_or];unfold zBY tlT;simp only;rcases hk with ⟨e,rfl,rfl,rfl⟩ | ⟨rfl,rfl,rfl⟩ | ⟨rfl,⟨x,rfl,hx⟩,hp,rfl⟩ | ⟨rfl,⟨x,rfl,hx⟩,rfl⟩ | ⟨e,⟨g,rfl,hg⟩,rfl⟩
 ·have n4:¬k=4:=by omega
  have n3:¬k=3:=by omega
  have n5:¬k=5:=by omega
  have n6:¬k=6:=by omega
  have n7:¬k=7:=by omega
  simp only [if_neg n4,if_neg n3,if_neg n5,if_neg n6,if_neg n7];simp [oOf,zAF,zBK]
 ·simp only [if_true];rw [(zDu over [] (zBA L f)).1,(zDu over [] (zBA L f)).2];simp [oOf,zAF,zBK]
 ·simp only [show ¬((3:Int)=4) from by omega,if_false,if_true,frT];rw [zPu L hx _ path [] (zBA L f) hp (by have:=zMG path;rw [List.length_append];omega)];simp [oOf,zAF]
 ·simp only [show ¬((5:Int)=4) from by omega,show ¬((5:Int)=3) from by omega,if_false,if_true,frT];rw [zJy,zJA L hx [zBe over] (zBA L f) (by cases over<;>decide) (by cases over<;>decide)];simp only;rw [(zDu over [] (zBA L f||zBA L x.f)).1,(zDu over [] (zBA L f)).2];simp [oOf,zAF,zBK]
 ·rcases e with rfl | rfl
  ·simp only [show ¬((6:Int)=4) from by omega,show ¬((6:Int)=3) from by omega,show ¬((6:Int)=5) from by omega,if_false,if_true,frN];rw [zJy];simp only [RS.next,List.tail_cons,List.isEmpty_cons,Bool.or_false];rw [show xa [zAq g,zBe over] 0=zAq g from rfl,(zEQ L hg [zBe over] (zBA L f)).1,(zEQ L hg [] false).2,(zDu over [] _).1,(zDu over [] (zBA L f)).2];simp [oOf,zAF,zBK,sOf]
  ·simp only [show ¬((7:Int)=4) from by omega,show ¬((7:Int)=3) from by omega,show ¬((7:Int)=5) from by omega,show ¬((7:Int)=6) from by omega,if_false,if_true,frN];rw [zJy];simp only [RS.next,List.tail_cons,List.isEmpty_cons,Bool.or_false];rw [show xa [zAq g,zBe over] 0=zAq g from rfl,(zEQ L hg [zBe over] (zBA L f)).1,(zEQ L hg [] false).2,(zDu over [] _).1,(zDu over [] (zBA L f)).2];simp [oOf,zAF,zBK,sOf]
theorem zFv {S:List UInt8} (h:¬(S≠[]∧S.length≤9∧S.head?≠some 48∧S.all zOs=true)):zAs S=(0,false):=by unfold zAs;rw [if_neg h]
theorem zRj {S:List UInt8} {pos:Nat} {b:UInt8} (h:S[pos]? = some b):zHC 0 (S.take (pos+1))=10*zHC 0 (S.take pos)+(b.toNat-48):=by
 rw [List.take_add_one,h];exact zGS _ _ _
theorem zVc:∀(S:List UInt8),(∀b∈S,zOs b=true)→zHC 0 S < 10 ^ S.length:=by
 intro S;generalize hn:S.length=n
 induction n generalizing S with
 | zero=>intro _;rw [List.length_eq_zero_iff.1 hn];simp [zHC]
 | succ n ih =>
  intro h;have h0:S≠[]:=fun e=>by rw [e] at hn;simp at hn
  obtain ⟨I,b,rfl⟩:∃I b,S=I++[b]:=⟨S.dropLast,S.getLast h0,(List.dropLast_concat_getLast h0).symm⟩
  have:=ih I (by simpa using hn) (fun x hx=>h x (List.mem_append_left _ hx));have hb:=zGT (h b (by simp));rw [zGS,Nat.pow_succ];omega
theorem zTF {S:List UInt8} {pos:Nat} (h:pos < S.length) (hs:pos < (bA S).size):∃b,S[pos]? = some b∧(bA S)[pos]'hs=b:=by
 refine ⟨S[pos],List.getElem?_eq_getElem h,?_⟩;simp only [bA,ByteArray.getElem_eq_getElem_data];rfl
theorem zLG {a b:Int} {p q:Bool} (h:(a,p)=(b,q)):Ending.returned (.tuple #[.int .i64 a,.bool p])=.returned (.tuple #[.int .i64 b,.bool q]):=by
 injection h with h1 h2
 rw [h1,h2]
set_option maxHeartbeats 3200000 in
theorem zHG (S:List UInt8) (w:World) :
  Calls Tryz.prog 129 #[.string (bA S)] w fun e w'=>e=.returned (.tuple #[.int .i64 (zAs S).1,.bool (zAs S).2])∧Below w.heap.size w w':=by
 have n0:=zAJ S [];have hs:=zJp S;obtain ⟨v,ok,HC⟩:∃v ok,Hid (zAs S=(v,ok)):=⟨_,_,Lib.hid rfl⟩
 rw [show (zAs S).1=v from by rw [HC.out],show (zAs S).2=ok from by rw [HC.out]];obtain ⟨nS,hnS⟩:∃n,S.length=n:=⟨_,rfl⟩
 rw [hnS] at hs;by_cases h0:S=[]
 ·have hr:=Lib.hid (show zAs S=(0,false) from zFv fun h=>h.1 h0);rw [show (S==([]:List UInt8))=true from by rw [h0];rfl] at n0;clear h0 hnS;go_enter Tryz.func129,Tryz.ntmps129;go_wp2_with fail
  go_ret2;exact ⟨zLG (hr.out.symm.trans HC.out),Below.refl _ _⟩
 rw [show (S==([]:List UInt8))=false from by simpa using h0] at n0;by_cases hl:9 < nS
 ·have hr:=Lib.hid (show zAs S=(0,false) from zFv fun h=>by omega);have i0:(9:Int) < (nS:Int):=by omega
  clear h0 hnS hl;go_enter Tryz.func129,Tryz.ntmps129;go_wp2_with fail
  go_ret2;exact ⟨zLG (hr.out.symm.trans HC.out),Below.refl _ _⟩
 have i0:¬(9:Int) < (nS:Int):=by omega
 obtain ⟨x,r,hx⟩:∃x r,S=x :: r:=by
  cases S with
  | nil=>exact absurd rfl h0
  | cons x r=>exact ⟨x,r,rfl⟩
 have s1:=zDR x r;rw [←hx] at s1;by_cases h48:x=48
 ·have hr:=Lib.hid (show zAs S=(0,false) from zFv fun h=>h.2.2.1 (by rw [hx,h48];rfl));rw [show ((x.toNat:Nat):Int)=48 from by rw [h48];rfl] at s1;clear h0 hnS hl h48 hx;go_enter Tryz.func129,Tryz.ntmps129;go_wp2_with fail
  go_ret2;exact ⟨zLG (hr.out.symm.trans HC.out),Below.refl _ _⟩
 have k1:((x.toNat:Int)==48)=false:=by
  simp only [beq_eq_false_iff_ne,ne_eq];intro e;exact h48 (UInt8.toNat.inj (show x.toNat=48 by omega))
 have HS:=Lib.hid (show S≠[]∧S.length≤9∧S.head?≠some 48 from ⟨h0,by omega,by rw [hx];simpa using h48⟩);have HN:=Lib.hid hnS;have hn9:nS≤9:=by omega
 clear h0 hnS hl h48 hx;go_enter Tryz.func129,Tryz.ntmps129;go_wp2_with fail
 go_loopw [4] (fun v wr=>∃(pos V:Nat),wr=w.iter (bA S) pos∧v=.int .i64 V∧pos≤nS∧Hid (V=zHC 0 (S.take pos))∧Hid (∀b∈S.take pos,zOs b=true)) (fun _ wr=>nS-wr.iterPos w.heap.size)
 case atStart=>exact ⟨0,0,rfl,rfl,by omega,Lib.hid rfl,Lib.hid (by simp)⟩
 case round =>
  obtain ⟨pos,V,rfl,rfl,hpos,HV,HD⟩:=hrel;by_cases hp:pos < nS
  ·have hps:pos < (bA S).size:=by rw [hs];exact hp
   obtain ⟨b,hb1,hb2⟩:=zTF (S:=S) (pos:=pos) (by rw [HN.out];exact hp) hps;by_cases ha:b.toNat < 128
   ·have hnx:∀ty,(Instr.next (.pointer (some ⟨w.heap.size,0,none⟩)) true ty).run Tryz.prog (w.iter (bA S) pos)=.ok (.tuple #[.bool true,.int .i64 pos,.int .i32 b.toNat]) (w.iter (bA S) (pos+1)):=fun ty=>by
     rw [run_next_ascii w (bA S) pos ty hps (by rw [hb2];exact ha),hb2]
    by_cases hd:zOs b=true
    ·obtain ⟨d1,d2⟩:=zGT hd;obtain ⟨B,hB⟩:∃B:Nat,b.toNat=B:=⟨_,rfl⟩
     rw [hB] at hnx d1 d2;have j1:¬((B:Int) < 48):=by omega
     have j2:¬((57:Int) < (B:Int)):=by omega
     have hV:V < 1000000000:=by
      have:=zVc _ HD.out;rw [←HV.out] at this;have h3:(S.take pos).length≤9:=by rw [List.length_take];omega
      have:=Nat.pow_le_pow_right (n:=10) (by omega) h3;omega
     have HB:=Lib.hid (show zHC 0 (S.take (pos+1))=10*V+(B-48)∧∀y∈S.take (pos+1),zOs y=true by
      rw [zRj hb1,HV.out,hB]
      refine ⟨rfl,fun y hy=>?_⟩
      rw [List.take_add_one,hb1] at hy
      rcases List.mem_append.1 hy with hy | hy
      ·exact HD.out y hy
      ·simp at hy;rw [hy];exact hd)
     clear hd ha hb1 hb2 hB hps HV HD;go_wp2_with fail
     go_roundw
     case rel=>exact ⟨pos+1,10*V+(B-48),rfl,by congr 1;simp;omega,by omega,Lib.hid HB.out.1.symm,Lib.hid HB.out.2⟩
     case measure=>simp;omega
    ·have hr:=Lib.hid (show zAs S=(0,false) from zFv fun h=>hd ((List.all_eq_true.1 h.2.2.2) b (List.mem_of_getElem? hb1)));have hbel:=Lib.hid (show Below w.heap.size w (w.iter (bA S) (pos+1)) from (Below.refl _ _).alloc (Nat.le_refl _) _);obtain ⟨B,hB⟩:∃B:Nat,b.toNat=B:=⟨_,rfl⟩
     rw [hB] at hnx;by_cases hlt:(B:Int) < 48
     ·clear hd ha hb1 hb2 hB hps HV HD;go_wp2_with fail
      go_ret2;exact ⟨zLG (hr.out.symm.trans HC.out),hbel.out⟩
     ·have hgt:(57:Int) < (B:Int):=by
       have:¬(48≤b.toNat∧b.toNat≤57):=fun e=>hd (by simp [zOs,e])
       omega
      clear hd ha hb1 hb2 hB hps HV HD;go_wp2_with fail
      go_ret2;exact ⟨zLG (hr.out.symm.trans HC.out),hbel.out⟩
   ·obtain ⟨R,q,hnx,hR⟩:∃(R q:Nat),(∀ty,(Instr.next (.pointer (some ⟨w.heap.size,0,none⟩)) true ty).run Tryz.prog (w.iter (bA S) pos)=.ok (.tuple #[.bool true,.int .i64 pos,.int .i32 R]) (w.iter (bA S) q))∧128≤R :=
     ⟨_,_,fun ty=>run_next_any w (bA S) pos ty hps,(decode_high (bA S) pos hps (by rw [hb2];omega)).1⟩
    have hr:=Lib.hid (show zAs S=(0,false) from zFv fun h=>by
     have:=zGT ((List.all_eq_true.1 h.2.2.2) b (List.mem_of_getElem? hb1))
     omega)
    have hbel:=Lib.hid (show Below w.heap.size w (w.iter (bA S) q) from (Below.refl _ _).alloc (Nat.le_refl _) _);have j1:¬((R:Int) < 48):=by omega
    have j2:(57:Int) < (R:Int):=by omega
    clear ha hb1 hb2 hps HV HD;go_wp2_with fail
    go_ret2;exact ⟨zLG (hr.out.symm.trans HC.out),hbel.out⟩
  ·have hpe:pos=nS:=by omega
   subst hpe;have hnx:∀ty,(Instr.next (.pointer (some ⟨w.heap.size,0,none⟩)) true ty).run Tryz.prog (w.iter (bA S) pos)=_:=fun ty=>run_next_end w (bA S) pos ty (by rw [hs];omega)
   have hr:=Lib.hid (show zAs S=((V:Int),true) by
    have h1:S.take pos=S:=by rw [←HN.out,List.take_length]
    have h2:=HD.out
    have h3:=HV.out
    rw [h1] at h2 h3
    unfold zAs
    rw [if_pos ⟨HS.out.1,HS.out.2.1,HS.out.2.2,List.all_eq_true.2 h2⟩,h3])
   have hbel:=Lib.hid (show Below w.heap.size w (w.iter (bA S) pos) from (Below.refl _ _).alloc (Nat.le_refl _) _);clear HV HD HN HS;go_wp2_with fail
   go_ret2;exact ⟨zLG (hr.out.symm.trans HC.out),hbel.out⟩
end Go.Proofs.YtlmdfmnbcndhoaaGreatDoor
