/-
  Lemmas, part 12. Conditions: each theorem's own.
-/
import Derived.Test.YtlmdfmnbcndhoaaGreatDoorRi11
namespace Go.Proofs.YtlmdfmnbcndhoaaGreatDoor
open Go.RowKit
def zKX (b:UInt8):Bool:=decide (48≤b.toNat)&&decide (b.toNat≤57)
def zGM (a:Nat) (S:List UInt8):Nat:=S.foldl (fun a b=>10*a+(b.toNat-48)) a
def zAu (S:List UInt8):Int×Bool:=if S≠[]∧S.length≤9∧S.head?≠some 48∧S.all zKX=true then ((zGM 0 S:Nat),true) else (0,false)
theorem zGg (a:Nat) (S:List UInt8) (b:UInt8):zGM a (S++[b])=10*zGM a S+(b.toNat-48):=by simp [zGM,List.foldl_append]
theorem zGh {b:UInt8} (h:zKX b=true):48≤b.toNat∧b.toNat≤57:=by simpa [zKX] using h
theorem zOB {b:UInt8} {d:Nat} (h:b.toNat=48+d):UInt8.ofNat (48+d)=b:=by rw [←h];exact UInt8.ofNat_toNat
theorem zOC:∀(n:Nat) {S:List UInt8},S.length=n→S≠[]→S.head?≠some 48→S.all zKX=true→Lib.decDigits (zGM 0 S)=S∧1≤zGM 0 S∧zGM 0 S < 10 ^ n
 | 0,S,hn,h0,_,_=>absurd (List.length_eq_zero_iff.1 hn) h0
 | n+1,S,hn,h0,h1,h2=>by
  obtain ⟨I,b,rfl⟩:∃I b,S=I++[b]:=⟨S.dropLast,S.getLast h0,(List.dropLast_concat_getLast h0).symm⟩
  rw [List.all_append,Bool.and_eq_true] at h2;have hb:=zGh (by simpa using h2.2);rw [zGg];by_cases hI:I=[]
  ·subst hI
   have hb0:b.toNat≠48:=fun e=>h1 (by
    have:b=48:=UInt8.toNat.inj e
    rw [this];rfl)
   have hn0:n=0:=by simpa using hn.symm
   subst hn0;refine ⟨?_,?_,?_⟩
   ·rw [show 10*zGM 0 []+(b.toNat-48)=b.toNat-48 from by simp [zGM],Lib.decDigits_one (by omega),zOB (b:=b) (by omega)];rfl
   ·simp [zGM];omega
   ·simp [zGM];omega
  ·have hnI:I.length=n:=by simpa using hn
   obtain ⟨k1,k2,k3⟩:=zOC n hnI hI (by cases I with | nil=>exact absurd rfl hI | cons x I=>simpa using h1) h2.1;refine ⟨?_,by omega,?_⟩
   ·rw [Lib.decDigits,dif_neg (by omega),show (10*zGM 0 I+(b.toNat-48)) / 10=zGM 0 I by omega,k1,show (10*zGM 0 I+(b.toNat-48)) % 10=b.toNat-48 by omega,zOB (b:=b) (by omega)]
   ·rw [Nat.pow_succ];omega
theorem zCY {S:List UInt8} {n:Int} (h:zAu S=(n,true)):S=Lib.itoa n∧1≤n∧n≤999999999:=by
 unfold zAu at h;split at h
 ·rename_i hc;obtain ⟨h1,h2,h3,h4⟩:=hc;obtain ⟨k1,k2,k3⟩:=zOC S.length rfl h1 h3 h4;have hn:((zGM 0 S:Nat):Int)=n:=congrArg Prod.fst h;have hp:10 ^ S.length≤10 ^ 9:=Nat.pow_le_pow_right (by omega) h2;refine ⟨?_,by omega,by omega⟩;rw [←hn];unfold Lib.itoa;rw [if_neg (by omega),Int.toNat_natCast,k1]
 ·have:=congrArg Prod.snd h;simp at this
theorem zOD:∀(k:Nat) {u:Nat},u < 10 ^ (k+1)→(Lib.decDigits u).length≤k+1
 | 0,u,h=>by rw [Lib.decDigits_one (by omega)];simp
 | k+1,u,h=>by
  rw [Lib.decDigits];split
  ·simp
  ·have:=zOD k (u:=u / 10) (by rw [Nat.pow_succ] at h;omega);simp;omega
theorem zQM {u:Nat} (h:1≤u):(Lib.decDigits u).head?≠some 48:=by
 induction u using Nat.strongRecOn with
 | _ u ih =>
  rw [Lib.decDigits];split
  ·rename_i h1;intro e;have:=zIB (a:=48+u) (b:=48) (by omega) (by omega) (by simpa using e);omega
  ·rename_i h1;have:=ih (u / 10) (by omega) (by omega);rw [List.head?_append]
   cases hd:(Lib.decDigits (u / 10)).head? with
   | none=>exact absurd (List.head?_eq_none_iff.1 hd) (zFM _)
   | some x=>rw [hd] at this;simpa using this
theorem zTn (u:Nat):zGM 0 (Lib.decDigits u)=u:=by
 induction u using Nat.strongRecOn with
 | _ u ih =>
  rw [Lib.decDigits];split
  ·rename_i h;simp only [zGM,List.foldl];rw [zEv h];omega
  ·rename_i h;rw [zGg,ih (u / 10) (by omega),zEv (by omega)];omega
theorem zHT {n:Int} (h1:1≤n) (h2:n≤999999999):zAu (Lib.itoa n)=(n,true):=by
 obtain ⟨u,rfl⟩:=Int.eq_ofNat_of_zero_le (by omega:0≤n);have hi:Lib.itoa (u:Int)=Lib.decDigits u:=by unfold Lib.itoa;rw [if_neg (by omega)];simp
 have ha:(Lib.decDigits u).all zKX=true:=by
  rw [List.all_eq_true];intro b hb;have:=zCT u b hb;simp [zKX,this]
 unfold zAu;rw [hi,if_pos ⟨zFM u,zOD 8 (by omega),zQM (by omega),ha⟩,zTn]
structure RS where
 T:List (List UInt8)
 bad:Bool
 lost:Bool
def RS.next (s:RS):RS:=⟨s.T.tail,s.bad||s.T.isEmpty,s.lost⟩
def RS.is (s:RS) (W:List UInt8):RS:=⟨isT s.T W,s.bad,s.lost⟩
noncomputable def RS.fing (s:RS) (L:List Fg) (S:List UInt8):RS:=⟨s.T,s.bad||zJO S,s.lost||zEh L S⟩
def RS.mark (s:RS) (b:Bool):RS:=⟨s.T,s.bad||b,s.lost⟩
def RS.over (s:RS):RS:=s.next.mark (!(ovT (xa s.T 0)||unT (xa s.T 0)))
def RS.must (s:RS) (W:List UInt8):RS:=if s.bad then s else (s.is W).mark (!isB s.T W)
def zEq (W:List UInt8) (s:RS):Int×RS :=
 if isB s.T W then ((zAu (xa (isT s.T W) 0)).1,(s.is W).next.mark (!(zAu (xa (isT s.T W) 0)).2)) else (0,s)
def neT (S:List UInt8):Bool:=S==zUW
def faT (S:List UInt8):Bool:=S==farW
noncomputable def zDh (L:List Fg) (s:RS):RS:=((s.next.fing L (xa s.T 0)).next).mark (!(neT (xa s.T.tail 0)||faT (xa s.T.tail 0)))
noncomputable def zAJ (L:List Fg) (s:RS):Sg×RS :=
 (⟨zDg L (xa s.T 0),(zEq zCI (zDh L s)).1,faT (xa s.T.tail 0),(zEq zBK (zEq zCI (zDh L s)).2).1⟩,(zEq zBK (zEq zCI (zDh L s)).2).2)
noncomputable def zKv (L:List Fg) (s:RS):Sp×RS:=(⟨(zAJ L s.over).1,ovT (xa s.T 0)⟩,(zAJ L s.over).2.must [44])
noncomputable def zDt (L:List Fg):Nat→RS→List Sp→(List Sp×Sg)×RS
 | 0,s,P=>((P,s0),s)
 | n+1,s,P =>
  if isB s.T zAI then ((P,(zAJ L (s.is zAI)).1),(zAJ L (s.is zAI)).2)
  else if (zKv L s).2.bad then ((P++[(zKv L s).1],s0),(zKv L s).2) else zDt L n (zKv L s).2 (P++[(zKv L s).1])
def zBx (v:List UInt8):Int :=
 if v=zAT 1 then 1 else if v=zAT 2 then 2 else if v=zAT 3 then 3 else if v=zAT 4 then 4 else if v=zAT 5 then 5 else if v=zAT 6 then 6 else if v=zAT 7 then 7 else if v=zAT 8 then 8 else 0
noncomputable def zEI (L:List Fg) (s:RS):RS:=((s.next.mark (decide (zBx (xa s.T 0)=0))).next).fing L (xa s.T.tail 0)
noncomputable def zBF (L:List Fg) (k f:Int) (s:RS):Og×RS :=
 if k=4 then (⟨k,f,s0,[],ovT (xa s.T 0)⟩,s.over)
 else if k=3 then (⟨k,f,(zDt L (s.T.length+1) s []).1.2,(zDt L (s.T.length+1) s []).1.1,false⟩,(zDt L (s.T.length+1) s []).2)
 else if k=5 then (⟨k,f,(zAJ L (s.must zAI)).1,[],ovT (xa (zAJ L (s.must zAI)).2.T 0)⟩,(zAJ L (s.must zAI)).2.over)
 else if k=6 then (⟨k,f,⟨zDg L (xa (s.must zAI).T 0),0,false,0⟩,[],ovT (xa (s.must zAI).T.tail 0)⟩,((s.must zAI).next.fing L (xa (s.must zAI).T 0)).over)
 else if k=7 then (⟨k,f,⟨zDg L (xa (s.must zEi).T 0),0,false,0⟩,[],ovT (xa (s.must zEi).T.tail 0)⟩,((s.must zEi).next.fing L (xa (s.must zEi).T 0)).over)
 else (⟨k,f,s0,[],false⟩,s)
noncomputable def opR (L:List Fg) (s:RS):Og×RS:=zBF L (zBx (xa s.T 0)) (zDg L (xa s.T.tail 0)) (zEI L s)
theorem zDu {s:RS} (h:s.next.bad=false):s.bad=false∧∃x T,s.T=x :: T∧xa s.T 0=x∧s.next=⟨T,false,s.lost⟩:=by
 obtain ⟨T,bad,lost⟩:=s
 cases T with
 | nil=>simp [RS.next] at h
 | cons x T =>
  have hb:bad=false:=by simpa [RS.next] using h
  exact ⟨hb,x,T,rfl,rfl,by simp [RS.next,hb]⟩
theorem zII {s:RS} {L:List Fg} {S:List UInt8} (h:(s.fing L S).bad=false) :
  s.bad=false∧∃f,zAm f=true∧zAk f=S∧zDg L S=zAG L f∧s.fing L S=⟨s.T,false,s.lost||zAW L f⟩:=by
 unfold RS.fing zJO zEh at h ⊢;simp only [Bool.or_eq_false_iff] at h
 cases hp:zFP S with
 | none=>rw [hp] at h;simp at h
 | some f =>
  rw [hp] at h;obtain ⟨k1,k2⟩:=zKS hp;refine ⟨h.1,f,k1,k2,by unfold zDg;rw [hp],?_⟩;simp only [h.1];rfl
theorem zEj (L:List Fg) {f:Fg} (hf:zAm f=true) (T:List (List UInt8)) (lost:Bool):(RS.mk T false lost).fing L (zAk f)=⟨T,false,lost||zAW L f⟩∧zDg L (zAk f)=zAG L f:=by
 have hp:=zCn hf rfl;unfold RS.fing zJO zEh zDg;rw [hp];exact ⟨rfl,rfl⟩
theorem zGN {s:RS} {b:Bool} (h:(s.mark b).bad=false):s.bad=false∧b=false∧s.mark b=s:=by
 obtain ⟨T,bad,lost⟩:=s;unfold RS.mark at h ⊢;simp only [Bool.or_eq_false_iff] at h;obtain ⟨rfl,rfl⟩:=h;exact ⟨rfl,rfl,rfl⟩
theorem zWl (S:List UInt8) (h:(!(ovT S||unT S))=false):S=zAL (ovT S):=by
 simp only [Bool.not_eq_false',Bool.or_eq_true] at h;rcases h with h | h
 ·rw [h];exact (show S=[111,118,101,114] by simpa [ovT] using h)
 ·have h2:S=[117,110,100,101,114]:=by simpa [unT] using h
  subst h2;rfl
theorem zTo (b:Bool):ovT (zAL b)=b∧(!(ovT (zAL b)||unT (zAL b)))=false:=by cases b<;>decide
theorem zTp (S:List UInt8) (h:(!(neT S||faT S))=false):S=zCk (faT S):=by
 simp only [Bool.not_eq_false',Bool.or_eq_true] at h;rcases h with h | h
 ·have h2:S=zUW:=by simpa [neT] using h
  subst h2;rfl
 ·rw [h];exact (show S=farW by simpa [faT] using h)
theorem zJQ (b:Bool):faT (zCk b)=b∧(!(neT (zCk b)||faT (zCk b)))=false:=by cases b<;>decide
theorem zGO {s:RS} (h:s.over.bad=false):s.bad=false∧∃T,s.T=zAL (ovT (xa s.T 0)) :: T∧s.over=⟨T,false,s.lost⟩:=by
 unfold RS.over at h ⊢;obtain ⟨h1,h2,h3⟩:=zGN h;obtain ⟨k1,x,T,k2,k3,k4⟩:=zDu h1;rw [h3,k4];exact ⟨k1,T,by rw [←zWl _ h2,k3,k2],rfl⟩
theorem zCZ (b:Bool) (T:List (List UInt8)) (lost:Bool):(RS.mk (zAL b :: T) false lost).over=⟨T,false,lost⟩∧ovT (xa (zAL b :: T) 0)=b:=by
 have:=zTo b;unfold RS.over RS.next RS.mark;simp only [show xa (zAL b :: T) 0=zAL b from rfl,this.2,List.tail_cons,List.isEmpty_cons,Bool.or_false];exact ⟨trivial,this.1⟩
theorem zTq {T:List (List UInt8)} {W:List UInt8} (h:isB T W=true):T=W :: isT T W:=by
 cases T with
 | nil=>simp [isB] at h
 | cons x T =>
  have:x=W:=by simpa [isB] using h
  subst this;rw [zFq]
theorem zIJ {s:RS} {W:List UInt8} (h:(s.must W).bad=false):s.bad=false∧∃T,s.T=W :: T∧s.must W=⟨T,false,s.lost⟩:=by
 unfold RS.must at h ⊢
 cases hb:s.bad with
 | true=>rw [if_pos hb,hb] at h;cases h
 | false =>
  rw [if_neg (by rw [hb];simp)] at h;obtain ⟨_,h2,h3⟩:=zGN h;have hi:isB s.T W=true:=by simpa using h2
  refine ⟨rfl,isT s.T W,zTq hi,?_⟩;rw [if_neg (by simp),h3];unfold RS.is;rw [hb]
theorem zIK (W:List UInt8) (T:List (List UInt8)) (lost:Bool):(RS.mk (W :: T) false lost).must W=⟨T,false,lost⟩:=by
 unfold RS.must RS.mark RS.is;simp only [zIC,zFq];rfl
theorem zSl {W:List UInt8} {s:RS} (h:(zEq W s).2.bad=false):s.bad=false∧(zEq W s).2.lost=s.lost∧0≤(zEq W s).1∧(zEq W s).1≤999999999∧s.T=zGf W (zEq W s).1++(zEq W s).2.T:=by
 unfold zEq at h ⊢
 cases hb:isB s.T W with
 | false =>
  rw [hb] at h;simp only [Bool.false_eq_true,if_false] at h ⊢;exact ⟨h,trivial,by omega,by omega,by simp [zGf]⟩
 | true =>
  rw [hb] at h;simp only [if_true] at h ⊢;obtain ⟨h1,h2,h3⟩:=zGN h;obtain ⟨k1,x,T,k2,k3,k4⟩:=zDu h1;rw [h3,k4];have hT:isT s.T W=x :: T:=k2;have hxa:xa (isT s.T W) 0=x:=by rw [hT];rfl
  rw [hxa] at h2 ⊢
  obtain ⟨c1,c2,c3⟩:=zCY (S:=x) (n:=(zAu x).1) (by
   have:(zAu x).2=true:=by simpa using h2
   rw [←this])
  refine ⟨k1,rfl,by omega,by omega,?_⟩;have:=zTq hb;rw [hT] at this;rw [this,zGf,if_neg (by omega),←c1];rfl
theorem zSm (W:List UInt8) {n:Int} (h0:0≤n) (h1:n≤999999999) (T:List (List UInt8)) (lost:Bool) (hT:T.head?≠some W):zEq W (RS.mk (zGf W n++T) false lost)=(n,⟨T,false,lost⟩):=by
 unfold zEq zGf;by_cases e:n=0
 ·subst e;have:isB T W=false:=by simp [isB,hT]
  simp [this]
 ·rw [if_neg e];have hc:=zHT (n:=n) (by omega) h1;simp only [List.cons_append,List.nil_append,zIC,zFq,if_true];rw [show xa (Lib.itoa n :: T) 0=Lib.itoa n from rfl,hc];unfold RS.mark RS.next RS.is;simp [zFq]
theorem zIL {L:List Fg} {s:RS} (h:(zAJ L s).2.bad=false) :
  s.bad=false∧∃x:Nst,zCp x∧s.T=plT x++(zAJ L s).2.T∧(zAJ L s).1=sOf L x∧(zAJ L s).2.lost=(s.lost||zAW L x.f):=by
 unfold zAJ at h ⊢;simp only at h ⊢;obtain ⟨a1,a2,a3,a4,a5⟩:=zSl h;obtain ⟨b1,b2,b3,b4,b5⟩:=zSl a1;generalize (zEq zBK (zEq zCI (zDh L s)).2).1=pc at a3 a4 a5 ⊢;generalize (zEq zBK (zEq zCI (zDh L s)).2).2=s6 at a2 a5 ⊢;generalize (zEq zCI (zDh L s)).1=lo at b3 b4 b5 ⊢;generalize (zEq zCI (zDh L s)).2=s5 at a2 a5 b2 b5;unfold zDh at b1 b2 b5;obtain ⟨c1,c2,c3⟩:=zGN b1;rw [c3] at b2 b5;obtain ⟨d1,y,T2,d2,d3,d4⟩:=zDu c1;rw [d4] at b2 b5;obtain ⟨e1,f,e2,e3,e4,e5⟩:=zII d1;rw [e5] at d2 b2;simp only at d2 b2 b5;obtain ⟨f1,x,T1,f2,f3,f4⟩:=zDu e1;rw [f4] at d2 b2;simp only at d2 b2;have hx:xa s.T.tail 0=y:=by rw [f2,List.tail_cons,d2];rfl
 have hs:=zTp _ c2;refine ⟨f1,⟨f,lo,faT (xa s.T.tail 0),pc⟩,⟨e2,b3,b4,a3,a4⟩,?_,?_,?_⟩
 ·have hside:zCk (faT (xa s.T.tail 0))=y:=by rw [←hs,hx]
  unfold plT;simp only;rw [hside,e3,f3,f2,d2,b5,a5];simp
 ·unfold sOf;simp only [e4]
 ·rw [a2,b2]
theorem zIM (L:List Fg) {x:Nst} (h:zCp x) (T:List (List UInt8)) (lost:Bool) (h1:T.head?≠some zCI) (h2:T.head?≠some zBK) :
  zAJ L (RS.mk (plT x++T) false lost)=(sOf L x,⟨T,false,lost||zAW L x.f⟩):=by
 obtain ⟨k1,k2,k3,k4,k5⟩:=h;obtain ⟨p1,p2⟩:=zEj L k1 (zCk x.far :: (zGf zCI x.l++(zGf zBK x.pc++T))) lost;have hS:zDh L (RS.mk (plT x++T) false lost)=⟨zGf zCI x.l++(zGf zBK x.pc++T),false,lost||zAW L x.f⟩:=by
  unfold zDh plT;simp only [List.cons_append,List.nil_append,List.append_assoc,RS.next,List.tail_cons,List.isEmpty_cons,Bool.or_false];rw [show xa (zAk x.f :: zCk x.far :: (zGf zCI x.l++(zGf zBK x.pc++T))) 0=zAk x.f from rfl,p1];rw [show xa (zCk x.far :: (zGf zCI x.l++(zGf zBK x.pc++T))) 0=zCk x.far from rfl,(zJQ x.far).2];simp [RS.mark]
 have hh:(zGf zBK x.pc++T).head?≠some zCI:=by
  unfold zGf;split
  ·exact h1
  ·simp
 have n1:=zSm zCI k2 k3 (zGf zBK x.pc++T) (lost||zAW L x.f) hh;have n2:=zSm zBK k4 k5 T (lost||zAW L x.f) h2;unfold zAJ;rw [hS,n1];simp only;rw [n2];simp only [plT,List.cons_append,List.nil_append,List.append_assoc,List.tail_cons];rw [show xa (zAk x.f :: zCk x.far :: (zGf zCI x.l++(zGf zBK x.pc++T))) 0=zAk x.f from rfl,p2];rw [show xa (zCk x.far :: (zGf zCI x.l++(zGf zBK x.pc++T))) 0=zCk x.far from rfl,(zJQ x.far).1];rfl
theorem zSn {L:List Fg} {s:RS} (h:(zKv L s).2.bad=false) :
  s.bad=false∧∃x:Nst×Bool,zCp x.1∧s.T=stT x++(zKv L s).2.T∧(zKv L s).1=pOf L x∧(zKv L s).2.lost=(s.lost||zAW L x.1.f):=by
 unfold zKv at h ⊢;simp only at h ⊢;obtain ⟨a1,T,a2,a3⟩:=zIJ h;obtain ⟨b1,x,b2,b3,b4,b5⟩:=zIL a1;obtain ⟨c1,T1,c2,c3⟩:=zGO b1;have b3':T1=plT x++(zAJ L s.over).2.T:=by rw [←b3,c3]
 have b5':(zAJ L s.over).2.lost=(s.lost||zAW L x.f):=by rw [b5,c3]
 refine ⟨c1,(x,ovT (xa s.T 0)),b2,?_,?_,?_⟩
 ·rw [a3,stT,List.cons_append,List.append_assoc,List.singleton_append,←a2,←b3'];exact c2
 ·rw [b4];rfl
 ·rw [a3,b5']
theorem zUY (L:List Fg) {x:Nst×Bool} (h:zCp x.1) (T:List (List UInt8)) (lost:Bool) :
  zKv L (RS.mk (stT x++T) false lost)=(pOf L x,⟨T,false,lost||zAW L x.1.f⟩):=by
 obtain ⟨p1,p2⟩:=zCZ x.2 (plT x.1++([44] :: T)) lost;have hT:stT x++T=zAL x.2 :: (plT x.1++([44] :: T)):=by simp [stT]
 have q:=zIM L h ([44] :: T) lost (by simp) (by simp);unfold zKv;rw [hT,p1,q];simp only;rw [zIK,p2];rfl
theorem zOE (L:List Fg):∀(n:Nat) {s:RS} {P:List Sp},s.T.length < n→(zDt L n s P).2.bad=false →
  s.bad=false∧∃(Q:List (Nst×Bool)) (x:Nst),(∀y∈Q,zCp y.1)∧zCp x∧s.T=Q.flatMap stT++zAI :: plT x++(zDt L n s P).2.T ∧
   (zDt L n s P).1=(P++Q.map (pOf L),sOf L x)∧(zDt L n s P).2.lost=(s.lost||zAO L Q||zAW L x.f)
 | 0,s,P,hn,_=>absurd hn (by omega)
 | n+1,s,P,hn,h=>by
  rw [zDt] at h ⊢
  cases hb:isB s.T zAI with
  | true =>
   rw [hb] at h;simp only [if_true] at h ⊢;obtain ⟨a1,x,a2,a3,a4,a5⟩:=zIL h;refine ⟨a1,[],x,by simp,a2,?_,by rw [a4];simp,by rw [a5];simp [zAO,RS.is]⟩;have h1:=zTq hb;rw [h1,show isT s.T zAI=plT x++(zAJ L (s.is zAI)).2.T from a3];simp
  | false =>
   rw [hb] at h;simp only [Bool.false_eq_true,if_false] at h ⊢
   cases hs:(zKv L s).2.bad with
   | true =>
    rw [hs] at h;simp only [if_true] at h;rw [hs] at h;cases h
   | false =>
    rw [hs] at h;simp only [Bool.false_eq_true,if_false] at h ⊢;obtain ⟨a1,x,a2,a3,a4,a5⟩:=zSn hs;have hl:(zKv L s).2.T.length < n:=by
     have:=congrArg List.length a3;simp [stT] at this;omega
    obtain ⟨b1,Q,y,b2,b3,b4,b5,b6⟩:=zOE L n hl h;refine ⟨a1,x :: Q,y,fun z hz=>?_,b3,?_,?_,?_⟩
    ·rcases List.mem_cons.1 hz with rfl | hz
     ·exact a2
     ·exact b2 z hz
    ·rw [a3,b4];simp
    ·rw [b5,a4];simp
    ·rw [b6,a5];simp only [zAO,List.any_cons,Bool.or_assoc]
theorem zOF (L:List Fg) {x:Nst} (hx:zCp x):∀(n:Nat) (Q:List (Nst×Bool)) (P:List Sp) (lost:Bool),(∀y∈Q,zCp y.1)→Q.length < n →
  zDt L n (RS.mk (Q.flatMap stT++zAI :: plT x) false lost) P=((P++Q.map (pOf L),sOf L x),⟨[],false,lost||zAO L Q||zAW L x.f⟩)
 | 0,Q,P,lost,_,hn=>absurd hn (by omega)
 | n+1,[],P,lost,_,_=>by
  rw [zDt];have q:=zIM L hx [] lost (by simp) (by simp);rw [List.append_nil] at q;simp only [List.flatMap_nil,List.nil_append,zIC,if_true,RS.is,zFq];rw [q];simp [zAO]
 | n+1,y :: Q,P,lost,h,hn=>by
  rw [zDt,List.flatMap_cons,List.append_assoc];have hy:=h y (List.mem_cons_self ..);have q:=zUY L hy (Q.flatMap stT++zAI :: plT x) lost;have hb:isB (stT y++(Q.flatMap stT++zAI :: plT x)) zAI=false:=by
   rw [stT,List.cons_append];exact zSk _ (by cases y.2<;>decide)
  simp only [hb,Bool.false_eq_true,if_false];rw [q];simp only [Bool.false_eq_true,if_false];rw [zOF L hx n Q _ _ (fun z hz=>h z (List.mem_cons_of_mem _ hz)) (by simpa using hn)];simp [zAO,Bool.or_assoc]
theorem zDv {k:Int} (h1:1≤k) (h8:k≤8):zBx (zAT k)=k:=by
 have hk:k=1∨k=2∨k=3∨k=4∨k=5∨k=6∨k=7∨k=8:=by omega
 rcases hk with rfl | rfl | rfl | rfl | rfl | rfl | rfl | rfl<;>decide
theorem zGP {v:List UInt8} (h:zBx v≠0):1≤zBx v∧zBx v≤8∧v=zAT (zBx v):=by
 unfold zBx at h ⊢
 repeat (split;· rename_i e;exact ⟨by omega,by omega,e⟩)
 exact absurd (by repeat (rw [if_neg (by assumption)])) h
theorem zTr {L:List Fg} {s:RS} (h:(zEI L s).bad=false) :
  s.bad=false∧1≤zBx (xa s.T 0)∧zBx (xa s.T 0)≤8∧∃f,zAm f=true∧zDg L (xa s.T.tail 0)=zAG L f∧s.T=zAT (zBx (xa s.T 0)) :: zAk f :: (zEI L s).T∧(zEI L s).lost=(s.lost||zAW L f):=by
 unfold zEI at h ⊢;obtain ⟨a1,f,a2,a3,a4,a5⟩:=zII h;rw [a5];obtain ⟨b1,y,T2,b2,b3,b4⟩:=zDu a1;obtain ⟨c1,c2,c3⟩:=zGN b1;rw [c3] at b2 b3 b4;obtain ⟨d1,x,T1,d2,d3,d4⟩:=zDu c1;rw [d4] at b2 b3 b4;simp only at b2 b4;have hk:zBx (xa s.T 0)≠0:=by simpa using c2
 obtain ⟨k1,k2,k3⟩:=zGP hk;refine ⟨d1,k1,k2,f,a2,a4,?_,?_⟩
 ·have hT:(s.next.mark (decide (zBx (xa s.T 0)=0))).next.T=T2:=by rw [c3,d4,b4]
  show s.T=zAT (zBx (xa s.T 0)) :: zAk f :: (s.next.mark (decide (zBx (xa s.T 0)=0))).next.T;rw [hT,←k3,a3,d3,d2,List.tail_cons,b2];rfl
 ·simp only;rw [c3,d4,b4]
theorem zTs (L:List Fg) {k:Int} {f:Fg} (h1:1≤k) (h8:k≤8) (hf:zAm f=true) (T:List (List UInt8)) (lost:Bool):zEI L (RS.mk (zAT k :: zAk f :: T) false lost)=⟨T,false,lost||zAW L f⟩:=by
 unfold zEI;simp only [List.tail_cons];rw [show xa (zAT k :: zAk f :: T) 0=zAT k from rfl,zDv h1 h8,show decide (k=0)=false from by simp;omega];simp only [RS.next,RS.mark,List.tail_cons,List.isEmpty_cons,Bool.or_false];rw [show xa (zAk f :: T) 0=zAk f from rfl,(zEj L hf T lost).1]
theorem zQN {L:List Fg} {T:List (List UInt8)} (h:(opR L ⟨T,false,false⟩).2.bad=false) (he:(opR L ⟨T,false,false⟩).2.T=[]) :
  ∃n,okN n∧T=zID n∧(opR L ⟨T,false,false⟩).1=oOf L n∧(opR L ⟨T,false,false⟩).2.lost=zAx L n:=by
 unfold opR at h he ⊢;obtain ⟨k,hk⟩:∃k,zBx (xa T 0)=k:=⟨_,rfl⟩
 obtain ⟨s,hs⟩:∃s,zEI L ⟨T,false,false⟩=s:=⟨_,rfl⟩
 have key:s.bad=false→1≤k∧k≤8∧∃f,zAm f=true∧zDg L (xa T.tail 0)=zAG L f∧T=zAT k :: zAk f :: s.T∧s.lost=zAW L f:=fun hb=>by
  rw [←hs] at hb;obtain ⟨_,a1,a2,f,a3,a4,a5,a6⟩:=zTr hb;rw [hk] at a1 a2 a5;rw [hs] at a5 a6;exact ⟨a1,a2,f,a3,a4,a5,by simpa using a6⟩
 simp only [hk,hs] at h he ⊢;unfold zBF at h he ⊢;by_cases k4:k=4
 ·rw [if_pos k4] at h he ⊢;obtain ⟨b1,T1,b2,b3⟩:=zGO h;obtain ⟨_,_,f,a3,a4,a5,a6⟩:=key b1;rw [b3] at he;simp only at he;subst he;refine ⟨⟨k,f,none,[],ovT (xa s.T 0)⟩,⟨a3,.inr (.inl ⟨k4,rfl,rfl⟩)⟩,?_,?_,?_⟩
  ·rw [a5,zID,tlT];simp only;rw [if_pos k4,←b2]
  ·rw [a4];rfl
  ·rw [b3];simp [zAx,zAO,a6]
 rw [if_neg k4] at h he ⊢;by_cases k3:k=3
 ·rw [if_pos k3] at h he ⊢;simp only at h he ⊢;obtain ⟨b1,Q,x,b2,b3,b4,b5,b6⟩:=zOE L _ (Nat.lt_succ_self _) h;obtain ⟨_,_,f,a3,a4,a5,a6⟩:=key b1;rw [he,List.append_nil] at b4;refine ⟨⟨k,f,some x,Q,false⟩,⟨a3,.inr (.inr (.inl ⟨k3,⟨x,rfl,b3⟩,b2,rfl⟩))⟩,?_,?_,?_⟩
  ·rw [a5,zID,tlT];simp only;rw [if_neg k4,if_pos k3,b4];rfl
  ·rw [a4,b5];simp [oOf]
  ·rw [b6,a6];simp [zAx]
 rw [if_neg k3] at h he ⊢;by_cases k5:k=5
 ·rw [if_pos k5] at h he ⊢;simp only at h he ⊢;obtain ⟨c1,T1,c2,c3⟩:=zGO h;obtain ⟨d1,x,d2,d3,d4,d5⟩:=zIL c1;obtain ⟨b1,T0,e2,e3⟩:=zIJ d1;obtain ⟨_,_,f,a3,a4,a5,a6⟩:=key b1;rw [c3] at he;simp only at he;subst he;have d3':T0=plT x++(zAJ L (s.must zAI)).2.T:=by rw [←d3,e3]
  have d5':(zAJ L (s.must zAI)).2.lost=(s.lost||zAW L x.f):=by rw [d5,e3]
  generalize (zAJ L (s.must zAI)).2.T=T9 at c2 d3' ⊢;refine ⟨⟨k,f,some x,[],ovT (xa T9 0)⟩,⟨a3,.inr (.inr (.inr (.inl ⟨k5,⟨x,rfl,d2⟩,rfl⟩)))⟩,?_,?_,?_⟩
  ·rw [a5,zID,tlT];simp only;rw [if_neg k4,if_neg k3,if_pos k5,e2,d3',←c2];simp [frT]
  ·rw [a4,d4];rfl
  ·rw [c3];simp only;rw [d5',a6];simp [zAx,zAO]
 rw [if_neg k5] at h he ⊢;by_cases k6:k=6
 ·rw [if_pos k6] at h he ⊢;simp only at h he ⊢;obtain ⟨c1,T1,c2,c3⟩:=zGO h;obtain ⟨d1,g,d2,d3,d4,d5⟩:=zII c1;obtain ⟨e1,y,T2,f2,f3,f4⟩:=zDu d1;obtain ⟨b1,T0,e2,e3⟩:=zIJ e1;obtain ⟨_,_,f,a3,a4,a5,a6⟩:=key b1;rw [c3] at he;simp only at he;subst he;rw [d5,f4] at c2;simp only at c2;rw [e3] at f2;simp only at f2;have hov:xa (s.must zAI).T.tail 0=xa T2 0:=by rw [e3];simp only;rw [f2,List.tail_cons]
  obtain ⟨ov,hov2⟩:∃b,ovT (xa T2 0)=b:=⟨_,rfl⟩
  rw [hov2] at c2;refine ⟨⟨k,f,some ⟨g,0,false,0⟩,[],ov⟩,⟨a3,.inr (.inr (.inr (.inr ⟨.inl k6,⟨g,rfl,d2⟩,rfl⟩)))⟩,?_,?_,?_⟩
  ·rw [a5,zID,tlT];simp only;rw [if_neg k4,if_neg k3,if_neg k5,if_pos k6,e2,f2,c2];simp only [frN];rw [d3,f3]
  ·rw [a4,d4,hov,hov2];rfl
  ·rw [c3,d5];simp only;rw [f4,e3];simp only;rw [a6];simp [zAx,zAO]
 rw [if_neg k6] at h he ⊢;by_cases k7:k=7
 ·rw [if_pos k7] at h he ⊢;simp only at h he ⊢;obtain ⟨c1,T1,c2,c3⟩:=zGO h;obtain ⟨d1,g,d2,d3,d4,d5⟩:=zII c1;obtain ⟨e1,y,T2,f2,f3,f4⟩:=zDu d1;obtain ⟨b1,T0,e2,e3⟩:=zIJ e1;obtain ⟨_,_,f,a3,a4,a5,a6⟩:=key b1;rw [c3] at he;simp only at he;subst he;rw [d5,f4] at c2;simp only at c2;rw [e3] at f2;simp only at f2;have hov:xa (s.must zEi).T.tail 0=xa T2 0:=by rw [e3];simp only;rw [f2,List.tail_cons]
  obtain ⟨ov,hov2⟩:∃b,ovT (xa T2 0)=b:=⟨_,rfl⟩
  rw [hov2] at c2;refine ⟨⟨k,f,some ⟨g,0,false,0⟩,[],ov⟩,⟨a3,.inr (.inr (.inr (.inr ⟨.inr k7,⟨g,rfl,d2⟩,rfl⟩)))⟩,?_,?_,?_⟩
  ·rw [a5,zID,tlT];simp only;rw [if_neg k4,if_neg k3,if_neg k5,if_neg k6,if_pos k7,e2,f2,c2];simp only [frN];rw [d3,f3]
  ·rw [a4,d4,hov,hov2];rfl
  ·rw [c3,d5];simp only;rw [f4,e3];simp only;rw [a6];simp [zAx,zAO]
 rw [if_neg k7] at h he ⊢;simp only at h he ⊢;obtain ⟨a1,a2,f,a3,a4,a5,a6⟩:=key h;refine ⟨⟨k,f,none,[],false⟩,⟨a3,.inl ⟨by simp only;omega,rfl,rfl,rfl⟩⟩,?_,?_,?_⟩
 ·rw [a5,zID,tlT,he];simp only;rw [if_neg k4,if_neg k3,if_neg k5,if_neg k6,if_neg k7]
 ·rw [a4];rfl
 ·rw [a6];simp [zAx,zAO]
theorem zLU (Q:List (Nst×Bool)):Q.length≤(Q.flatMap stT).length:=by
 induction Q with
 | nil=>simp
 | cons x Q ih =>
  have:1≤(stT x).length:=by simp [stT]
  rw [List.flatMap_cons,List.length_append,List.length_cons];omega
theorem zWm (L:List Fg) {n:Nop} (h:okN n):opR L ⟨zID n,false,false⟩=(oOf L n,⟨[],false,zAx L n⟩):=by
 obtain ⟨hf,hk⟩:=h;obtain ⟨k,f,fr,path,over⟩:=n;unfold zGJ at hk;simp only at hf hk;have hk18:1≤k∧k≤8:=by
  rcases hk with ⟨h,_⟩ | ⟨h,_⟩ | ⟨h,_⟩ | ⟨h,_⟩ | ⟨h,_⟩<;>omega
 have hh:=zTs L hk18.1 hk18.2 hf (tlT ⟨k,f,fr,path,over⟩) false;have hkv:=zDv hk18.1 hk18.2;unfold opR;rw [show zID ⟨k,f,fr,path,over⟩=zAT k :: zAk f :: tlT ⟨k,f,fr,path,over⟩ from rfl,hh];simp only [List.tail_cons];rw [show xa (zAT k :: zAk f :: tlT ⟨k,f,fr,path,over⟩) 0=zAT k from rfl,hkv];rw [show xa (zAk f :: tlT ⟨k,f,fr,path,over⟩) 0=zAk f from rfl,(zEj L hf [] false).2];simp only [Bool.false_or];unfold zBF tlT;simp only;rcases hk with ⟨e,rfl,rfl,rfl⟩ | ⟨rfl,rfl,rfl⟩ | ⟨rfl,⟨x,rfl,hx⟩,hp,rfl⟩ | ⟨rfl,⟨x,rfl,hx⟩,rfl⟩ | ⟨e,⟨g,rfl,hg⟩,rfl⟩
 ·have n4:¬k=4:=by omega
  have n3:¬k=3:=by omega
  have n5:¬k=5:=by omega
  have n6:¬k=6:=by omega
  have n7:¬k=7:=by omega
  simp only [if_neg n4,if_neg n3,if_neg n5,if_neg n6,if_neg n7];simp [oOf,zAx,zAO]
 ·simp only [if_true];rw [(zCZ over [] (zAW L f)).1,(zCZ over [] (zAW L f)).2];simp [oOf,zAx,zAO]
 ·simp only [show ¬((3:Int)=4) from by omega,if_false,if_true,frT];rw [zOF L hx _ path [] (zAW L f) hp (by have:=zLU path;rw [List.length_append];omega)];simp [oOf,zAx]
 ·simp only [show ¬((5:Int)=4) from by omega,show ¬((5:Int)=3) from by omega,if_false,if_true,frT];rw [zIK,zIM L hx [zAL over] (zAW L f) (by cases over<;>decide) (by cases over<;>decide)];simp only;rw [(zCZ over [] (zAW L f||zAW L x.f)).1,(zCZ over [] (zAW L f)).2];simp [oOf,zAx,zAO]
 ·rcases e with rfl | rfl
  ·simp only [show ¬((6:Int)=4) from by omega,show ¬((6:Int)=3) from by omega,show ¬((6:Int)=5) from by omega,if_false,if_true,frN];rw [zIK];simp only [RS.next,List.tail_cons,List.isEmpty_cons,Bool.or_false];rw [show xa [zAk g,zAL over] 0=zAk g from rfl,(zEj L hg [zAL over] (zAW L f)).1,(zEj L hg [] false).2,(zCZ over [] _).1,(zCZ over [] (zAW L f)).2];simp [oOf,zAx,zAO,sOf]
  ·simp only [show ¬((7:Int)=4) from by omega,show ¬((7:Int)=3) from by omega,show ¬((7:Int)=5) from by omega,show ¬((7:Int)=6) from by omega,if_false,if_true,frN];rw [zIK];simp only [RS.next,List.tail_cons,List.isEmpty_cons,Bool.or_false];rw [show xa [zAk g,zAL over] 0=zAk g from rfl,(zEj L hg [zAL over] (zAW L f)).1,(zEj L hg [] false).2,(zCZ over [] _).1,(zCZ over [] (zAW L f)).2];simp [oOf,zAx,zAO,sOf]
end Go.Proofs.YtlmdfmnbcndhoaaGreatDoor
