/-
  Lemmas, part 2. Conditions: each theorem's own.
-/
import Derived.Test.YtlmdfmnbcndhoaaGreatDoorRq01
open Option renaming some→Z
open Bool renaming false→E,true→Q
namespace Go.Proofs.YtlmdfmnbcndhoaaGreatDoor
structure Good (K:Int) (L:List Lt):Prop where
 pos:0 < L.length
 first:isP (la L 0)=Q
 even:pN L L.length % 2=0
 gates:∀i,i < L.length→isP (la L i)=Q→0≤(la L i).gate∧(la L i).gate≤K
 ranks:∀i,i < L.length→rkB L i=Q
 cross:∀i,i < L.length→crB L i=Q
 ceven:cN L L.length % 2=0
 kinds:∀i,i < L.length→isP (la L i)=Q∨isC (la L i)=Q
theorem zDn {K:Int} {L:List Lt} (hp:0 < L.length) (h1:isP (la L 0)=Q) (h2:pN L L.length % 2=0) (h3:zAB K L=Q) (h4:zCx L=Q) (h5:zBM L=Q):Good K L:=by
 unfold zAB at h3;unfold zCx at h4;unfold zBM at h5;simp only [Bool.and_eq_true,decide_eq_true_eq,zAv] at h3 h4 h5;refine ⟨hp,h1,h2,fun i hi hp=>?_,h4,h5.2,h5.1,fun i hi=>?_⟩
 ·have:=h3 i hi;unfold lpB at this;unfold isP at hp;rw [if_pos (by simpa using hp)] at this;simp only [decide_eq_true_eq] at this;exact ⟨this.1,this.2.1⟩
 ·have:=h3 i hi;unfold lpB at this;unfold isP isC;by_cases e1:(la L i).kind=1
  ·left;simp [e1]
  ·by_cases e2:(la L i).kind=2
   ·right;simp [e2]
   ·rw [if_neg e1,if_neg e2] at this;cases this
theorem zDo {K:Int} {L:List Lt} (hp:0 < L.length) (h:zAQ K L=Q):Good K L:=by
 unfold zAQ at h;rw [←zCb] at h;simp only [Bool.and_eq_true,decide_eq_true_eq] at h;exact zDn hp h.1.1.1 h.1.1.2 h.1.2.1.1 h.1.2.1.2 h.1.2.2
section
variable {K:Int} {L:List Lt}
theorem zTR {i:Nat} (h:L.length≤i):la L i=dl:=by unfold la;rw [List.getElem?_eq_none h];rfl
theorem zBA {i:Nat} (h:isP (la L i)=Q):i < L.length:=by
 rcases Nat.lt_or_ge i L.length with hl | hl
 ·exact hl
 ·rw [zTR hl] at h;cases h
theorem zBB {i:Nat} (h:isC (la L i)=Q):i < L.length:=by
 rcases Nat.lt_or_ge i L.length with hl | hl
 ·exact hl
 ·rw [zTR hl] at h;cases h
theorem Good.nodup (g:Good K L):(axL L).Nodup:=zJb g.ranks
theorem Good.at_ (g:Good K L) {i:Nat} (hp:isP (la L i)=Q):(axL L)[atN L i]? = Z i:=zVN (fun i hi hp=>(g.gates i hi hp).1) g.ranks (zBA hp) hp
theorem Good.idx (g:Good K L) {i:Nat} (hp:isP (la L i)=Q):zTP (axL L) i=atN L i:=zHq g.nodup (g.at_ hp)
theorem Good.at_lt (g:Good K L) {i:Nat} (hp:isP (la L i)=Q):atN L i < (axL L).length:=(List.getElem?_eq_some_iff.1 (g.at_ hp)).1
theorem zBR {j:Nat} (hj:j < (axL L).length):isP (la L (xat (axL L) j))=Q∧xat (axL L) j < L.length:=by
 have h:(axL L)[j]? = Z (axL L)[j]:=List.getElem?_eq_getElem hj;have hm:=(zFe L (axL L)[j] L.length).1 (List.getElem_mem hj);unfold xat;rw [h];exact ⟨hm.2,hm.1⟩
theorem Good.at_xat (g:Good K L) {j:Nat} (hj:j < (axL L).length):atN L (xat (axL L) j)=j:=by
 have h:=(zBR hj).1;have h1:=g.at_ h;have h2:(axL L)[j]? = Z (xat (axL L) j):=by unfold xat;rw [List.getElem?_eq_getElem hj];rfl
 have e1:=zHq g.nodup h1;rw [zHq g.nodup h2] at e1;exact e1.symm
theorem Good.m_pos (g:Good K L):0 < (axL L).length:=by
 have:=g.at_lt g.first;omega
theorem Good.other (g:Good K L) {i:Nat} (hc:isC (la L i)=Q) :
  zCn L i≠i∧isC (la L (zCn L i))=Q∧(la L (zCn L i)).id=(la L i).id∧(la L (zCn L i)).over≠(la L i).over∧(la L (zCn L i)).sign=(la L i).sign∧(∀j,isC (la L j)=Q→(la L j).id=(la L i).id→j≠i→j=zCn L i):=by
 have hi:=zBB hc;have hb:=(zBn.1 (g.cross i hi) hc).1;have ht:=zOY (d:=((la L i).id-1).toNat) g.ceven g.cross (by omega);rw [show ((((la L i).id-1).toNat+1:Nat):Int)=(la L i).id by omega] at ht;have hex:∃j,j < L.length∧j≠i∧isC (la L j)=Q∧(la L j).id=(la L i).id:=by
  rcases Classical.em (∃j,j < L.length∧j≠i∧isC (la L j)=Q∧(la L j).id=(la L i).id) with h | h
  ·exact h
  ·have:tN L (la L i).id L.length=1:=zIy hi (by simp [hc]) (fun m hm hp=>by
    simp at hp
    rcases Nat.decEq m i with e | e
    ·exact absurd ⟨m,hm,e,hp.1,hp.2⟩ h
    ·exact e)
   omega
 have hall:∀j k,isC (la L j)=Q→(la L j).id=(la L i).id→j≠i→isC (la L k)=Q→(la L k).id=(la L i).id→k≠i→j=k:=by
  intro j k hj hji hjn hk hki hkn;rcases Nat.decEq j k with e | e
  ·have a1:=(zEn g.cross (zBB hj) (zBB hk) hj hk (hji.trans hki.symm) e).1;have a2:=(zEn g.cross (zBB hj) hi hj hc hji hjn).1;have a3:=(zEn g.cross (zBB hk) hi hk hc hki hkn).1
   revert a1 a2 a3
   cases (la L j).over<;>cases (la L k).over<;>cases (la L i).over<;>simp
  ·exact e
 have hf:zCn L i≠i∧isC (la L (zCn L i))=Q∧(la L (zCn L i)).id=(la L i).id:=by
  unfold zCn
  cases hq:(List.range L.length).find? (fun j=>j != i&&isC (la L j)&&(la L j).id==(la L i).id) with
  | none =>
   rw [List.find?_eq_none] at hq;obtain ⟨j,hj,h1,h2,h3⟩:=hex;exact absurd (by simp [h1,h2,h3]) (hq j (List.mem_range.2 hj))
  | some j =>
   have:=List.find?_some hq;simp at this;exact ⟨this.1.1,this.1.2,this.2⟩
 have ho:=zEn g.cross (zBB hf.2.1) hi hf.2.1 hc hf.2.2 hf.1;exact ⟨hf.1,hf.2.1,hf.2.2,ho.1,ho.2,fun j hj hji hjn=>hall j _ hj hji hjn hf.2.1 hf.2.2 hf.1⟩
theorem Good.oth_oth (g:Good K L) {i:Nat} (hc:isC (la L i)=Q):zCn L (zCn L i)=i:=by
 obtain ⟨h1,h2,h3,_,_,_⟩:=g.other hc;obtain ⟨_,_,_,_,_,h6⟩:=g.other h2;exact (h6 i hc h3.symm (fun e=>h1 e.symm)).symm
theorem zDJ {n i:Nat} {b:Bool} (hi:i < n):zAN n i b < 2*n:=by
 unfold zAN;split
 ·omega
 ·have:=Nat.mod_lt (i+n-1) (show 0 < n by omega);omega
theorem zCU {n i j:Nat} {b c:Bool} (hi:i < n) (hj:j < n) (h:zAN n i b=zAN n j c):i=j∧b=c:=by
 unfold zAN at h;have e:∀x,x < n→(x=0∧(x+n-1) % n=n-1)∨(0 < x∧(x+n-1) % n=x-1):=by
  intro x hx;rcases Nat.eq_zero_or_pos x with h0 | h0
  ·left;subst h0;exact ⟨rfl,by rw [Nat.zero_add,Nat.mod_eq_of_lt (by omega)]⟩
  ·right;refine ⟨h0,?_⟩;rw [show x+n-1=(x-1)+n by omega,Nat.add_mod_right,Nat.mod_eq_of_lt (by omega)]
 have e1:=e i hi;have e2:=e j hj
 cases b<;>cases c<;>simp at h ⊢<;>omega
theorem zCM {n d:Nat} (h:d < 2*n):zAE n d < n:=by
 unfold zAE;split
 ·exact Nat.mod_lt _ (by omega)
 ·omega
theorem zHs {n d e:Nat} (hd:d < 2*n) (he:e < 2*n) (hp:d % 2=e % 2) (h:zAE n d=zAE n e):d=e:=by
 unfold zAE at h;by_cases h0:d % 2=0
 ·rw [if_pos h0,if_pos (by omega)] at h;have m:∀x,x < n→(x+1=n∧(x+1) % n=0)∨(x+1 < n∧(x+1) % n=x+1):=by
   intro x hx;rcases Nat.lt_or_ge (x+1) n with hl | hl
   ·exact .inr ⟨hl,Nat.mod_eq_of_lt hl⟩
   ·left;have:x+1=n:=by omega
    exact ⟨this,by rw [this,Nat.mod_self]⟩
  have m1:=m (d / 2) (by omega);have m2:=m (e / 2) (by omega);omega
 ·rw [if_neg h0,if_neg (by omega)] at h;omega
theorem zKj {m i j:Nat} (hi:i < m) (hj:j < m) (h:(i+1) % m=(j+1) % m):i=j:=by
 have:=zHs (n:=m) (d:=2*i) (e:=2*j) (by omega) (by omega) (by omega) (by
  unfold zAE
  rw [if_pos (by omega),if_pos (by omega),show 2*i / 2=i by omega,show 2*j / 2=j by omega];exact h)
 omega
theorem zDK {d:Nat} (hd:2*L.length≤d) (hm:0 < (axL L).length) (hN:d < zAw L) :
  ∃v b,zAz L (axL L) d=zAN L.length v b∧isP (la L v)=Q∧v < L.length∧((d % 2=0∧v=xat (axL L) (((d-2*L.length) / 2+1) % (axL L).length)∧b = !dwn L v)∨(d % 2=1∧v=xat (axL L) ((d-2*L.length) / 2)∧b=dwn L v)):=by
 unfold zAz;unfold zAw at hN;rw [if_pos hd];by_cases h0:d % 2=0
 ·rw [if_pos h0];have hj:=zBR (L:=L) (j:=((d-2*L.length) / 2+1) % (axL L).length) (Nat.mod_lt _ hm);exact ⟨_,_,rfl,hj.1,hj.2,.inl ⟨h0,rfl,rfl⟩⟩
 ·rw [if_neg h0];have hj:=zBR (L:=L) (j:=(d-2*L.length) / 2) (by omega);exact ⟨_,_,rfl,hj.1,hj.2,.inr ⟨by omega,rfl,rfl⟩⟩
theorem Good.left_cross (_g:Good K L) {d:Nat} (hd:d < 2*L.length) (hc:isC (la L (zAE L.length d))=Q) :
  zAz L (axL L) d=zAN L.length (zCn L (zAE L.length d)) ((d % 2==0)==((la L (zAE L.length d)).over==((la L (zAE L.length d)).sign==1))):=by
 unfold zAz;rw [if_neg (by omega),if_pos hc]
theorem Good.left_pass (g:Good K L) {d:Nat} (hd:d < 2*L.length) (hp:isP (la L (zAE L.length d))=Q) :
  zAz L (axL L) d=if dwn L (zAE L.length d)==(d % 2==0) then 2*L.length+2*atN L (zAE L.length d) else 2*L.length+2*((atN L (zAE L.length d)+(axL L).length-1) % (axL L).length)+1:=by
 unfold zAz;rw [if_neg (by omega),if_neg (by rw [zCw hp];simp),g.idx hp]
theorem Good.into (g:Good K L) {d:Nat} (hd:d < zAw L):zAz L (axL L) d < zAw L:=by
 rcases Nat.lt_or_ge d (2*L.length) with hl | hl
 ·rcases g.kinds _ (zCM hl) with hp | hc
  ·have ha:=g.at_lt hp;rw [g.left_pass hl hp];unfold zAw;split
   ·omega
   ·have:=Nat.mod_lt (atN L (zAE L.length d)+(axL L).length-1) g.m_pos;omega
  ·rw [g.left_cross hl hc];have:=zDJ (b:=(d % 2==0)==((la L (zAE L.length d)).over==((la L (zAE L.length d)).sign==1))) (zBB (g.other hc).2.1);unfold zAw;omega
 ·obtain ⟨v,b,h1,_,h3,_⟩:=zDK hl g.m_pos hd;rw [h1];have:=zDJ (b:=b) h3;unfold zAw;omega
theorem Good.xat_inj (g:Good K L) {i j:Nat} (hi:i < (axL L).length) (hj:j < (axL L).length) (h:xat (axL L) i=xat (axL L) j):i=j:=by
 have:=g.at_xat hi;rw [h,g.at_xat hj] at this;exact this.symm
theorem Good.inj (g:Good K L) (x y:Nat) (hx:x < zAw L) (hy:y < zAw L) (h:zAz L (axL L) x=zAz L (axL L) y):x=y:=by
 have hm:=g.m_pos;rcases Nat.lt_or_ge x (2*L.length) with hlx | hlx<;>rcases Nat.lt_or_ge y (2*L.length) with hly | hly
 ·have p1:∀z,z < 2*L.length→isP (la L (zAE L.length z))=Q→2*L.length≤zAz L (axL L) z:=by
   intro z hz hp;rw [g.left_pass hz hp];split<;>omega
  have p2:∀z,z < 2*L.length→isC (la L (zAE L.length z))=Q→zAz L (axL L) z < 2*L.length:=by
   intro z hz hc;rw [g.left_cross hz hc];exact zDJ (zBB (g.other hc).2.1)
  rcases g.kinds _ (zCM hlx) with hpx | hcx<;>rcases g.kinds _ (zCM hly) with hpy | hcy
  ·rw [g.left_pass hlx hpx,g.left_pass hly hpy] at h;have hax:=g.at_lt hpx;have hay:=g.at_lt hpy;have cl:∀a b,a < (axL L).length→b < (axL L).length→(a+(axL L).length-1) % (axL L).length=(b+(axL L).length-1) % (axL L).length→a=b:=by
    intro a b ha hb e;have:=zCU (b:=E) (c:=E) ha hb (by unfold zAN;simp [e]);exact this.1
   have key:zAE L.length x=zAE L.length y∧(dwn L (zAE L.length x)==(x % 2==0))=(dwn L (zAE L.length y)==(y % 2==0)):=by
    cases hbx:(dwn L (zAE L.length x)==(x % 2==0))<;>cases hby:(dwn L (zAE L.length y)==(y % 2==0))<;>rw [hbx,hby] at h<;>simp at h
    ·have h':atN L (zAE L.length x)=atN L (zAE L.length y):=cl _ _ hax hay (by omega);have e1:=g.at_ hpx;rw [h',g.at_ hpy] at e1;exact ⟨(Option.some.inj e1).symm,rfl⟩
    ·omega
    ·omega
    ·have h':atN L (zAE L.length x)=atN L (zAE L.length y):=by omega
     have e1:=g.at_ hpx;rw [h',g.at_ hpy] at e1;exact ⟨(Option.some.inj e1).symm,rfl⟩
   refine zHs hlx hly ?_ key.1;have k2:=key.2;rw [key.1] at k2;rcases Nat.mod_two_eq_zero_or_one x with a | a<;>rcases Nat.mod_two_eq_zero_or_one y with b | b<;>rw [a,b] at k2<;>cases hq:dwn L (zAE L.length y)<;>rw [hq] at k2<;>simp at k2<;>omega
  ·have:=p1 x hlx hpx;have:=p2 y hly hcy;omega
  ·have:=p2 x hlx hcx;have:=p1 y hly hpy;omega
  ·rw [g.left_cross hlx hcx,g.left_cross hly hcy] at h;obtain ⟨h1,h2⟩:=zCU (zBB (g.other hcx).2.1) (zBB (g.other hcy).2.1) h;have hh:zAE L.length x=zAE L.length y:=by
    have:=g.oth_oth hcx;rw [h1,g.oth_oth hcy] at this;exact this.symm
   refine zHs hlx hly ?_ hh;rw [hh] at h2;rcases Nat.mod_two_eq_zero_or_one x with a | a<;>rcases Nat.mod_two_eq_zero_or_one y with b | b<;>rw [a,b] at h2<;>revert h2<;>generalize ((la L (zAE L.length y)).over==((la L (zAE L.length y)).sign==1))=q<;>cases q<;>simp<;>omega
 ·obtain ⟨v,b,h1,h2,h3,_⟩:=zDK hly hm hy;rcases g.kinds _ (zCM hlx) with hpx | hcx
  ·rw [h1,g.left_pass hlx hpx] at h;have:=zDJ (b:=b) h3;split at h<;>omega
  ·rw [h1,g.left_cross hlx hcx] at h;have rX:=(g.other hcx).2.1;have:=(zCU (zBB rX) h3 h).1;rw [this,zCw h2] at rX
   cases rX
 ·obtain ⟨v,b,h1,h2,h3,_⟩:=zDK hlx hm hx;rcases g.kinds _ (zCM hly) with hpy | hcy
  ·rw [h1,g.left_pass hly hpy] at h;have:=zDJ (b:=b) h3;split at h<;>omega
  ·rw [h1,g.left_cross hly hcy] at h;have rX:=(g.other hcy).2.1;have:=(zCU h3 (zBB rX) h).1;rw [←this,zCw h2] at rX
   cases rX
 ·obtain ⟨v,b,h1,h2,h3,h4⟩:=zDK hlx hm hx;obtain ⟨v',b',A9,Ef,h3',h4'⟩:=zDK hly hm hy;rw [h1,A9] at h;obtain ⟨rfl,rfl⟩:=zCU h3 h3' h;unfold zAw at hx hy;rcases h4 with ⟨a1,a2,a3⟩ | ⟨a1,a2,a3⟩<;>rcases h4' with ⟨c1,c2,c3⟩ | ⟨c1,c2,c3⟩
  ·have:=g.xat_inj (Nat.mod_lt _ hm) (Nat.mod_lt _ hm) (a2.symm.trans c2);have:=zKj (by omega) (by omega) this;omega
  ·rw [a3] at c3;cases dwn L v<;>simp at c3
  ·rw [a3] at c3;cases dwn L v<;>simp at c3
  ·have:=g.xat_inj (by omega) (by omega) (a2.symm.trans c2);omega
end
end Go.Proofs.YtlmdfmnbcndhoaaGreatDoor
namespace Go.Proofs.YtlmdfmnbcndhoaaGreatDoor
structure Plc where
 gate:Int
 left:Int
instance : DecidableEq Plc := fun a b =>
 if h:a.gate=b.gate∧a.left=b.left then .isTrue (by cases a;cases b;simp at h;simp [h])
 else .isFalse (fun e=>h (by subst e;simp))
structure Fc where
 above:Bool
 darts:List Int
 places:List Plc
 fingers:List Int
 outer:Bool
instance : DecidableEq Fc := fun a b =>
 if h:a.above=b.above∧a.darts=b.darts∧a.places=b.places∧a.fingers=b.fingers∧a.outer=b.outer then .isTrue (by cases a;cases b;simp at h;simp [h])
 else .isFalse (fun e=>h (by subst e;simp))
section
variable {K:Int} {L:List Lt}
theorem zGW (L:List Lt) {a b:Nat} (h:a < b):fsN L a+gN L (a:Int) L.length≤fsN L b:=by
 obtain ⟨k,rfl⟩:∃k,b=a+1+k:=⟨b-a-1,by omega⟩
 unfold fsN
 induction k with
 | zero=>exact Nat.le_refl _
 | succ k ih=>exact Nat.le_trans (ih (by omega)) (Nat.le_add_right _ _)
theorem Good.rank (g:Good K L) {i:Nat} (hp:isP (la L i)=Q):1≤(la L i).rank∧(la L i).rank≤(gN L (la L i).gate L.length:Int):=(zBo.1 (g.ranks i (zBA hp)) hp).1
end
end Go.Proofs.YtlmdfmnbcndhoaaGreatDoor
namespace Go.Proofs.YtlmdfmnbcndhoaaGreatDoor
theorem zMH {f:Nat→Nat} {d:Nat}:∀{P:List Nat} {x y:Nat},zGB f d P x→y∈P→f y=x∨f y∈P
 | [],_,_,_,h=>by cases h
 | p :: P,x,y,hp,h=>by
  rcases List.mem_cons.1 h with rfl | h
  ·exact .inl hp.1.symm
  ·rcases zMH hp.2 h with e | e
   ·right;rw [e];simp
   ·right;simp [e]
theorem zMI {f:Nat→Nat} {d:Nat}:∀{P:List Nat} {x:Nat},zGB f d P x→P≠[]→d∈P
 | [],_,_,h=>absurd rfl h
 | [p],_,hp,_=>by have:p=d:=hp.2;simp [this]
 | p :: q :: P,_,hp,_=>by have:=zMI (P:=q :: P) hp.2 (by simp);exact List.mem_cons_of_mem _ this
theorem zPc {f:Nat→Nat} {d N:Nat} (inj:∀x y,x < N→y < N→f x=f y→x=y) (into:∀x,x < N→f x < N) {s0:List Bool} (hback:zVJ f N s0) (hd0:sat s0 d=E) {s:List Bool} {P:List Nat} {x:Nat}
  (hs:∀y,y < N→(sat s y=Q↔sat s0 y=Q∨y∈P)) (hp:zGB f d P x) (hn:P.Nodup) (hP:∀y∈P,y < N∧sat s0 y=E) (hx:x < N) (hsx:sat s x=Q):x=d∧P≠[]∧zVJ f N s:=by
 have zo:sat s0 x=E:=by
  cases hq:sat s0 x with
  | false=>rfl
  | true =>
   cases P with
   | nil=>rw [show x=d from hp] at hq;rw [hd0] at hq;cases hq
   | cons p P =>
    have:=hback p (hP p (by simp)).1 (by rw [←hp.1];exact hq);rw [(hP p (by simp)).2] at this;cases this
 have ti:x∈P:=by
  rcases (hs x hx).1 hsx with h | h
  ·rw [zo] at h;cases h
  ·exact h
 have hxd:x=d:=by
  rcases Nat.decEq x d with e | e
  ·cases P with
   | nil=>cases ti
   | cons p P =>
    obtain ⟨t,ht,he⟩:=zFZ inj (P:=P) (ZS:=[]) (p:=p) (q:=x) hp hn (fun y hy=>(hP y hy).1) x ti e;have:p=t:=inj p t (hP p (by simp)).1 (hP t (by simp [ht])).1 (by rw [←hp.1,←he]);subst this;exact absurd ht (List.nodup_cons.1 hn).1
  ·exact e
 refine ⟨hxd,(fun e=>by rw [e] at ti;cases ti),fun y hy hfy=>?_⟩;rcases (hs (f y) (into y hy)).1 hfy with h | h
 ·exact (hs y hy).2 (.inl (hback y hy h))
 ·cases P with
  | nil=>cases h
  | cons p P =>
   rcases Nat.decEq (f y) d with e | e
   ·obtain ⟨t,ht,he⟩:=zFZ inj (P:=P) (ZS:=[]) (p:=p) (q:=x) hp hn (fun y hy=>(hP y hy).1) (f y) h e;have:y=t:=inj y t hy (hP t (by simp [ht])).1 he;subst this;exact (hs y hy).2 (.inr (by simp [ht]))
   ·have:y=p:=inj y p hy (hP p (by simp)).1 (by rw [e,←hp.1,hxd]);subst this;exact (hs y hy).2 (.inr (by simp))
theorem zRA {f:Nat→Nat} {d N:Nat} (inj:∀x y,x < N→y < N→f x=f y→x=y) (into:∀x,x < N→f x < N) {s0:List Bool} (hback:zVJ f N s0) (hd0:sat s0 d=E) :
  ∀(k:Nat) (s:List Bool) (P:List Nat) (x:Nat),s.length=N→(∀y,y < N→(sat s y=Q↔sat s0 y=Q∨y∈P))→zGB f d P x→P.Nodup→(∀y∈P,y < N∧sat s0 y=E)→unN s≤k→x < N →
   (zAW f k s x).2.length=N∧zVJ f N (zAW f k s x).2∧(∀y,y < N→(sat (zAW f k s x).2 y=Q↔sat s0 y=Q∨y∈P.reverse++(zAW f k s x).1))∧(P.reverse++(zAW f k s x).1).Nodup ∧
   (∀y∈P.reverse++(zAW f k s x).1,y < N∧sat s0 y=E∧f y∈P.reverse++(zAW f k s x).1)∧(sat s x=E→x∈(zAW f k s x).1):=by
 have stop:∀(s:List Bool) (P:List Nat) (x:Nat),s.length=N→(∀y,y < N→(sat s y=Q↔sat s0 y=Q∨y∈P))→zGB f d P x→P.Nodup→(∀y∈P,y < N∧sat s0 y=E)→x < N→sat s x=Q →
   s.length=N∧zVJ f N s∧(∀y,y < N→(sat s y=Q↔sat s0 y=Q∨y∈P.reverse++[]))∧(P.reverse++[]).Nodup∧(∀y∈P.reverse++[],y < N∧sat s0 y=E∧f y∈P.reverse++[])∧(sat s x=E→x∈([]:List Nat)):=by
  intro s P x hl hs hp hn hP hx hsx;obtain ⟨hxd,hne,hB⟩:=zPc inj into hback hd0 hs hp hn hP hx hsx;subst hxd;refine ⟨hl,hB,fun y hy=>by rw [List.append_nil,List.mem_reverse];exact hs y hy,by rw [List.append_nil];exact List.pairwise_reverse.2 (hn.imp fun h=>Ne.symm h),fun y hy=>?_,fun h=>by rw [hsx] at h;cases h⟩;rw [List.append_nil,List.mem_reverse] at hy;refine ⟨(hP y hy).1,(hP y hy).2,?_⟩;rw [List.append_nil,List.mem_reverse];rcases zMH hp hy with e | e
  ·rw [e];exact zMI hp hne
  ·exact e
 intro k
 induction k with
 | zero =>
  intro s P x hl hs hp hn hP hk hx;have hsx:sat s x=Q:=by
   cases hq:sat s x with
   | true=>rfl
   | false=>have:=zLq hq;omega
  exact stop s P x hl hs hp hn hP hx hsx
 | succ k ih =>
  intro s P x hl hs hp hn hP hk hx
  cases hsx:sat s x with
  | true =>
   have:=stop s P x hl hs hp hn hP hx hsx;unfold zAW;rw [if_pos hsx];rw [hsx] at this;exact this
  | false =>
   have hun:=zHr hsx;have zo:sat s0 x=E:=by
    cases hq:sat s0 x with
    | false=>rfl
    | true=>rw [(hs x hx).2 (.inl hq)] at hsx;cases hsx
   have ti:x ∉ P:=fun hm=>by rw [(hs x hx).2 (.inr hm)] at hsx;cases hsx
   have hs':∀y,y < N→(sat (s.set x Q) y=Q↔sat s0 y=Q∨y∈x :: P):=by
    intro y hy;rw [zPa,Bool.or_eq_true,hs y hy,List.mem_cons];simp only [decide_eq_true_eq];constructor
    ·rintro ((h | h) | h)
     ·exact .inl h
     ·exact .inr (.inr h)
     ·exact .inr (.inl h.symm)
    ·rintro (h | h | h)
     ·exact .inl (.inl h)
     ·exact .inr h.symm
     ·exact .inl (.inr h)
   have hP':∀y∈x :: P,y < N∧sat s0 y=E:=by
    intro y hy;rcases List.mem_cons.1 hy with rfl | hy
    ·exact ⟨hx,zo⟩
    ·exact hP y hy
   have r:=ih (s.set x Q) (x :: P) (f x) (by simpa using hl) hs' ⟨rfl,hp⟩ (List.nodup_cons.2 ⟨ti,hn⟩) hP' (by omega) (into x hx);rw [List.reverse_cons,List.append_assoc] at r;unfold zAW;rw [if_neg (by rw [hsx];simp)];exact ⟨r.1,r.2.1,r.2.2.1,r.2.2.2.1,r.2.2.2.2.1,fun _=>by simp⟩
theorem zEK {f:Nat→Nat} {N:Nat} (inj:∀x y,x < N→y < N→f x=f y→x=y) (into:∀x,x < N→f x < N):∀(ds:List Nat) (s:List Bool),s.length=N→zVJ f N s→(∀d∈ds,d < N) →
  (∀ZR∈zAO f ds s,ZR≠[]∧ZR.Nodup∧∀y∈ZR,y < N∧sat s y=E∧f y∈ZR)∧(∀d∈ds,sat s d=Q∨∃ZR∈zAO f ds s,d∈ZR)∧(zAO f ds s).Pairwise (fun A B=>∀y,y∈A→y ∉ B)
 | [],_,_,_,_=>⟨fun ZR h=>(by cases h),fun d h=>(by cases h),List.Pairwise.nil⟩
 | d :: ds,s,hl,hB,hds=>by
  unfold zAO
  cases hsd:sat s d with
  | true =>
   rw [if_pos rfl];obtain ⟨h1,h2,h3⟩:=zEK inj into ds s hl hB (fun x hx=>hds x (by simp [hx]));refine ⟨h1,fun x hx=>?_,h3⟩;rcases List.mem_cons.1 hx with rfl | hx
   ·exact .inl hsd
   ·exact h2 x hx
  | false =>
   rw [if_neg (by simp)];obtain ⟨r1,r2,r3,r4,r5,r6⟩:=zRA inj into hB hsd s.length s [] d hl (fun y _=>by simp) rfl (by simp) (by simp) (zPb s) (hds d (by simp));rw [List.reverse_nil,List.nil_append] at r3 r4 r5;obtain ⟨h1,h2,h3⟩:=zEK inj into ds _ r1 r2 (fun x hx=>hds x (by simp [hx]));have Ai:=r6 hsd;generalize (zAW f s.length s d).1=ZR at *;generalize (zAW f s.length s d).2=s' at *;refine ⟨fun V hV=>?_,fun x hx=>?_,?_⟩
   ·rcases List.mem_cons.1 hV with rfl | hV
    ·exact ⟨fun e=>(by rw [e] at Ai;cases Ai),r4,r5⟩
    ·obtain ⟨a,b,c⟩:=h1 V hV;refine ⟨a,b,fun y hy=>⟨(c y hy).1,?_,(c y hy).2.2⟩⟩
     cases hq:sat s y with
     | false=>rfl
     | true =>
      have:=(r3 y (c y hy).1).2 (.inl hq);rw [(c y hy).2.1] at this;cases this
   ·rcases List.mem_cons.1 hx with rfl | hx
    ·exact .inr ⟨ZR,by simp,Ai⟩
    ·rcases h2 x hx with h | ⟨V,hV,qA⟩
     ·rcases (r3 x (hds x (by simp [hx]))).1 h with h | h
      ·exact .inl h
      ·exact .inr ⟨ZR,by simp,h⟩
     ·exact .inr ⟨V,by simp [hV],qA⟩
   ·refine List.pairwise_cons.2 ⟨fun V hV y hy hyV=>?_,h3⟩;have:=(r3 y (r5 y hy).1).2 (.inr hy);rw [((h1 V hV).2.2 y hyV).2.1] at this;cases this
theorem zPd {f:Nat→Nat} {N:Nat} (inj:∀x y,x < N→y < N→f x=f y→x=y) (into:∀x,x < N→f x < N) {Ws:List (List Nat)} (hW:Ws=zAO f (List.range N) (List.replicate N E)) :
  ∃lab:Nat→Nat,(∀x,x < N→∃ZR,Ws[lab x]? = Z ZR∧x∈ZR)∧(∀(x k:Nat) (ZR:List Nat),x < N→Ws[k]? = Z ZR→x∈ZR→lab x=k)∧(∀x,x < N→lab (f x)=lab x)∧∀k,k < Ws.length→∃x,x < N∧lab x=k:=by
 obtain ⟨h1,h2,h3⟩:=zEK inj into (List.range N) (List.replicate N E) (by simp) (by
  intro y hy hf
  have:=into y hy
  simp [sat,this] at hf) (by simp)
 rw [←hW] at h1 h2 h3;have hex:∀x,x < N→∃(k:Nat) (ZR:List Nat),Ws[k]? = Z ZR∧x∈ZR:=by
  intro x hx;rcases h2 x (by simpa using hx) with h | ⟨ZR,hWm,hxW⟩
  ·simp [sat,hx] at h
  ·obtain ⟨k,hk,e⟩:=List.getElem_of_mem hWm;exact ⟨k,ZR,by rw [List.getElem?_eq_getElem hk,e],hxW⟩
 have huniq:∀(x j k:Nat) (V ZR:List Nat),Ws[j]? = Z V→x∈V→Ws[k]? = Z ZR→x∈ZR→j=k:=by
  intro x j k V ZR hj qA hk hxW;obtain ⟨tt,ej⟩:=List.getElem?_eq_some_iff.1 hj;obtain ⟨eD,ek⟩:=List.getElem?_eq_some_iff.1 hk;rcases Nat.lt_trichotomy j k with h | h | h
  ·have:=List.pairwise_iff_getElem.1 h3 j k tt eD h x (by rw [ej];exact qA);rw [ek] at this;exact absurd hxW this
  ·exact h
  ·have:=List.pairwise_iff_getElem.1 h3 k j eD tt h x (by rw [ek];exact hxW);rw [ej] at this;exact absurd qA this
 let lab:Nat→Nat:=fun x=>if h:x < N then Classical.choose (hex x h) else 0
 have hlab:∀x,x < N→∃ZR,Ws[lab x]? = Z ZR∧x∈ZR:=by
  intro x hx;have:lab x=Classical.choose (hex x hx):=dif_pos hx;rw [this];exact Classical.choose_spec (hex x hx)
 have eB:∀(x k:Nat) (ZR:List Nat),x < N→Ws[k]? = Z ZR→x∈ZR→lab x=k:=by
  intro x k ZR hx hk hxW;obtain ⟨V,hV,qA⟩:=hlab x hx;exact huniq x _ _ V ZR hV qA hk hxW
 refine ⟨lab,hlab,eB,fun x hx=>?_,fun k hk=>?_⟩
 ·obtain ⟨V,hV,qA⟩:=hlab x hx;exact eB (f x) _ V (into x hx) hV ((h1 V (List.mem_of_getElem? hV)).2.2 x qA).2.2
 ·obtain ⟨hne,_,hall⟩:=h1 Ws[k] (List.getElem_mem hk);obtain ⟨y,hy⟩:=List.exists_mem_of_ne_nil _ hne;exact ⟨y,(hall y hy).1,eB y k _ (hall y hy).1 (List.getElem?_eq_getElem hk) hy⟩
theorem zMJ {p q:Nat→Bool} {z:Nat}:∀{n:Nat},(∀m,m < n→p m=Q→m≠z→q m=Q)→zAc p n≤zAc q n+1
 | 0,_=>by simp [zAc]
 | n+1,h=>by
  have ih:=zMJ (n:=n) (fun m hm=>h m (by omega))
  cases hp:p n with
  | false =>
   rw [zAi hp];have:=zVM q (m:=n) (n:=n+1) (by omega);omega
  | true =>
   rw [zAm hp];by_cases e:n=z
   ·have:=zOQ (p:=p) (q:=q) (n:=n) (fun m hm hpm=>h m (by omega) hpm (by omega));have:=zVM q (m:=n) (n:=n+1) (by omega);omega
   ·rw [zAm (h n (by omega) hp e)];omega
theorem ties (ZR:Nat) (a b:Nat→Nat) (kept:Nat→Bool):∀n,∃c:Nat→Nat,(∀k,c (c k)=c k)∧(∀e,e < n→kept e=Q→c (a e)=c (b e))∧ZR≤zAc (fun k=>c k==k) ZR+zAc kept n:=by
 intro n
 induction n with
 | zero =>
  refine ⟨id,fun _=>rfl,fun e h=>by omega,?_⟩;have:∀m,zAc (fun k=>id k==k) m=m:=by
   intro m
   induction m with
   | zero=>rfl
   | succ m ih=>rw [zAm (by simp),ih]
  rw [this];omega
 | succ n ih =>
  obtain ⟨c,h1,h2,h3⟩:=ih
  cases hk:kept n with
  | false =>
   refine ⟨c,h1,fun e he hke=>?_,by rw [zAi hk];exact h3⟩;rcases Nat.decEq e n with h | h
   ·exact h2 e (by omega) hke
   ·subst h;rw [hk] at hke;cases hke
  | true =>
   by_cases hab:c (a n)=c (b n)
   ·refine ⟨c,h1,fun e he hke=>?_,by rw [zAm hk];omega⟩;rcases Nat.decEq e n with h | h
    ·exact h2 e (by omega) hke
    ·subst h;exact hab
   ·refine ⟨fun k=>if c k=c (b n) then c (a n) else c k,fun k=>?_,fun e he hke=>?_,?_⟩
    ·by_cases e:c k=c (b n)
     ·simp only [e,if_true,h1,if_neg hab]
     ·simp only [e,if_false,h1]
    ·rcases Nat.decEq e n with h | h
     ·simp only [h2 e (by omega) hke]
     ·subst h;simp only [if_true,if_neg hab]
    ·rw [zAm hk]
     have:=zMJ (p:=fun k=>c k==k) (q:=fun k=>(if c k=c (b n) then c (a n) else c k)==k) (z:=c (b n)) (n:=ZR) (fun m _ hp hz=>by
      simp only [beq_iff_eq] at hp ⊢
      rw [if_neg (by rw [hp];exact hz),hp])
     simp only [] at this ⊢;omega
def zBY (n v:Nat):Nat:=(v+n-1) % n
theorem zCN {n v:Nat} (h:v < n):zBY n v < n:=Nat.mod_lt _ (by omega)
theorem zCy {n v:Nat} (h:v < n) (h0:0 < v):zBY n v=v-1:=by
 unfold zBY;rw [show v+n-1=(v-1)+n by omega,Nat.add_mod_right,Nat.mod_eq_of_lt (by omega)]
theorem zBC {n v:Nat} (h:v < n):zAE n (2*zBY n v)=v:=by
 unfold zAE;rw [if_pos (by omega),show 2*zBY n v / 2=zBY n v by omega];rcases Nat.eq_zero_or_pos v with h0 | h0
 ·subst h0;unfold zBY;rw [Nat.zero_add,Nat.mod_eq_of_lt (show n-1 < n by omega),show n-1+1=n by omega,Nat.mod_self]
 ·rw [zCy h h0,show v-1+1=v by omega,Nat.mod_eq_of_lt h]
theorem zCg {n v:Nat}:zAE n (2*v+1)=v:=by unfold zAE;rw [if_neg (by omega)];omega
theorem zHt (n v:Nat):zAN n v E=2*zBY n v+1:=by unfold zAN zBY;simp
theorem zHu (n v:Nat):zAN n v Q=2*v:=by unfold zAN;simp
theorem zPe {L:List Lt} {i:Nat} (hp:isP (la L i)=Q):dwn L (i+1) = !dwn L i:=by
 have h:pN L (i+1)=pN L i+1:=zAm hp;unfold dwn;rw [h,Bool.eq_iff_iff];simp;omega
theorem zVO {L:List Lt} {i:Nat} (hp:isP (la L i)=E):dwn L (i+1)=dwn L i:=by
 have h:pN L (i+1)=pN L i:=zAi hp;unfold dwn;rw [h]
theorem zLr {L:List Lt} {K:Int} (g:Good K L):pN L L.length+cN L L.length=L.length:=by
 have h:=zKf (p:=fun i=>isP (la L i)) (q:=fun i=>isC (la L i)) (r:=fun _=>Q) (n:=L.length) (fun m hm=>by
  rcases g.kinds m hm with h | h<;>simp [h]) (fun m hm=>by
  rintro ⟨h1,h2⟩
  rw [zCw h1] at h2;cases h2)
 have h2:∀m,zAc (fun _=>Q) m=m:=by
  intro m
  induction m with
  | zero=>rfl
  | succ m ih=>rw [zAm rfl,ih]
 rw [h2] at h;exact h.symm
section
variable {K:Int} {L:List Lt}
structure Col (L:List Lt) (X:Nat→Nat):Prop where
 step:∀d,d < zAw L→X (zAz L (axL L) d)=X d
theorem Good.cr_col (g:Good K L) {X:Nat→Nat} (hX:Col L X) {i:Nat} (hc:isC (la L i)=Q) :
  let s:=((la L i).over==((la L i).sign==1))
  X (2*zBY L.length i)=X (zAN L.length (zCn L i) s)∧X (2*i+1)=X (zAN L.length (zCn L i) (!s)):=by
 have hi:=zBB hc;have hp:=zCN hi;have hd1:2*zBY L.length i < 2*L.length:=by omega
 have ip:2*i+1 < 2*L.length:=by omega
 have e1:=g.left_cross hd1 (by rw [zBC hi];exact hc);have e2:=g.left_cross ip (by rw [zCg];exact hc);rw [zBC hi] at e1;rw [zCg] at e2;have k1:=hX.step _ (show 2*zBY L.length i < zAw L by unfold zAw;omega);have k2:=hX.step _ (show 2*i+1 < zAw L by unfold zAw;omega);rw [e1] at k1;rw [e2] at k2;have t1:(2*zBY L.length i % 2==0)=Q:=by simp
 have t2:((2*i+1) % 2==0)=E:=by simp
 rw [t1] at k1;rw [t2] at k2;refine ⟨?_,?_⟩
 ·rw [←k1];congr 2;simp
 ·rw [←k2];congr 2;simp
theorem Good.pos_of_cross (g:Good K L) {i:Nat} (hc:isC (la L i)=Q):0 < i:=by
 rcases Nat.eq_zero_or_pos i with h | h
 ·subst h;rw [zCw g.first] at hc;cases hc
 ·exact h
theorem Good.four (g:Good K L) {X:Nat→Nat} (hX:Col L X) {i:Nat} (hc:isC (la L i)=Q) :
  (X (2*(i-1))=X (2*zCn L i)∧X (2*i+1)=X (2*(zCn L i-1)+1)∧X (2*(zCn L i-1))=X (2*(i-1)+1)∧X (2*zCn L i+1)=X (2*i)) ∨
  (X (2*(i-1))=X (2*(zCn L i-1)+1)∧X (2*i+1)=X (2*zCn L i)∧X (2*(zCn L i-1))=X (2*i)∧X (2*zCn L i+1)=X (2*(i-1)+1)):=by
 obtain ⟨h1,h2,h3,h4,h5,_⟩:=g.other hc;have a:=g.cr_col hX hc;have b:=g.cr_col hX h2;rw [g.oth_oth hc] at b;have p1:=zCy (zBB hc) (g.pos_of_cross hc);have p2:=zCy (zBB h2) (g.pos_of_cross h2);have hs:((la L (zCn L i)).over==((la L (zCn L i)).sign==1)) = !((la L i).over==((la L i).sign==1)):=by
  rw [h5]
  revert h4
  cases (la L (zCn L i)).over<;>cases (la L i).over<;>cases ((la L i).sign==1)<;>simp
 simp only [hs] at b
 cases hq:((la L i).over==((la L i).sign==1)) with
 | true =>
  simp only [hq,Bool.not_true,Bool.not_false,zHt,zHu,p1,p2] at a b;exact .inl ⟨a.1,a.2,b.1,b.2⟩
 | false =>
  simp only [hq,Bool.not_true,Bool.not_false,zHt,zHu,p1,p2] at a b;exact .inr ⟨a.1,a.2,b.1,b.2⟩
def upE (L:List Lt) (v:Nat):Nat:=if dwn L v then zBY L.length v else v
def loE (L:List Lt) (v:Nat):Nat:=if dwn L v then v else zBY L.length v
section
variable {X:Nat→Nat}
theorem Good.p1 (g:Good K L) (hX:Col L X) (hf:∀e,e < L.length→X (2*e)=X (2*e+1)) {v:Nat} (hp:isP (la L v)=Q):X (2*L.length+2*atN L v)=X (2*upE L v):=by
 have hv:=zBA hp;have hpv:=zCN hv
 cases hd:dwn L v with
 | true =>
  have e:=g.left_pass (d:=2*zBY L.length v) (by omega) (by rw [zBC hv];exact hp);rw [zBC hv,hd,if_pos (by simp)] at e;have:=hX.step (2*zBY L.length v) (by unfold zAw;omega);rw [e] at this;rw [this];unfold upE;rw [hd,if_pos rfl]
 | false =>
  have e:=g.left_pass (d:=2*v+1) (by omega) (by rw [zCg];exact hp);rw [zCg,hd,if_pos (by simp)] at e;have:=hX.step (2*v+1) (by unfold zAw;omega);rw [e] at this;rw [this,←hf v hv];unfold upE;rw [hd];simp
theorem Good.p2 (g:Good K L) (hX:Col L X) (hf:∀e,e < L.length→X (2*e)=X (2*e+1)) {v:Nat} (hp:isP (la L v)=Q):X (2*L.length+2*((atN L v+(axL L).length-1) % (axL L).length)+1)=X (2*loE L v):=by
 have hv:=zBA hp;have hpv:=zCN hv
 cases hd:dwn L v with
 | true =>
  have e:=g.left_pass (d:=2*v+1) (by omega) (by rw [zCg];exact hp);rw [zCg,hd,if_neg (by simp)] at e;have:=hX.step (2*v+1) (by unfold zAw;omega);rw [e] at this;rw [this,←hf v hv];unfold loE;rw [hd];simp
 | false =>
  have e:=g.left_pass (d:=2*zBY L.length v) (by omega) (by rw [zBC hv];exact hp);rw [zBC hv,hd,if_neg (by simp)] at e;have:=hX.step (2*zBY L.length v) (by unfold zAw;omega);rw [e] at this;rw [this];unfold loE;rw [hd];simp
theorem Good.p3 (_g:Good K L) (hX:Col L X) (hf:∀e,e < L.length→X (2*e)=X (2*e+1)) {j:Nat} (hj:j < (axL L).length):X (2*L.length+2*j)=X (2*upE L (xat (axL L) ((j+1) % (axL L).length))):=by
 have ht:=zBR (L:=L) (j:=(j+1) % (axL L).length) (Nat.mod_lt _ (by omega));have hs:=hX.step (2*L.length+2*j) (by unfold zAw;omega);rw [←hs];unfold zAz;rw [if_pos (by omega),if_pos (by omega),show (2*L.length+2*j-2*L.length) / 2=j by omega];generalize xat (axL L) ((j+1) % (axL L).length)=v at ht ⊢;unfold upE
 cases hd:dwn L v with
 | true =>
  rw [if_pos rfl,Bool.not_true,zHt,←hf _ (zCN ht.2)]
 | false =>
  rw [Bool.not_false,zHu];simp
theorem Good.p4 (_g:Good K L) (hX:Col L X) (hf:∀e,e < L.length→X (2*e)=X (2*e+1)) {j:Nat} (hj:j < (axL L).length):X (2*L.length+2*j+1)=X (2*loE L (xat (axL L) j)):=by
 have ht:=zBR (L:=L) (j:=j) hj;have hs:=hX.step (2*L.length+2*j+1) (by unfold zAw;omega);rw [←hs];unfold zAz;rw [if_pos (by omega),if_neg (by omega),show (2*L.length+2*j+1-2*L.length) / 2=j by omega];generalize xat (axL L) j=v at ht ⊢;unfold loE
 cases hd:dwn L v with
 | true=>rw [if_pos rfl,zHu]
 | false=>rw [zHt,←hf _ (zCN ht.2)];simp
theorem Good.xat_at (g:Good K L) {v:Nat} (hp:isP (la L v)=Q):xat (axL L) (atN L v)=v:=by unfold xat;rw [g.at_ hp];rfl
theorem Good.up_const (g:Good K L) (hX:Col L X) (hf:∀e,e < L.length→X (2*e)=X (2*e+1)):∀j,j < (axL L).length→X (2*upE L (xat (axL L) j))=X (2*upE L (xat (axL L) 0)):=by
 intro j
 induction j with
 | zero=>intro _;rfl
 | succ j ih =>
  intro hj;rw [←ih (by omega)];have h1:=g.p1 hX hf (zBR (L:=L) (j:=j) (by omega)).1;have h3:=g.p3 hX hf (j:=j) (by omega);rw [g.at_xat (by omega)] at h1;rw [Nat.mod_eq_of_lt hj] at h3;rw [←h1,←h3]
theorem Good.lo_const (g:Good K L) (hX:Col L X) (hf:∀e,e < L.length→X (2*e)=X (2*e+1)):∀j,j < (axL L).length→X (2*loE L (xat (axL L) j))=X (2*loE L (xat (axL L) 0)):=by
 intro j
 induction j with
 | zero=>intro _;rfl
 | succ j ih =>
  intro hj;rw [←ih (by omega)];have h1:=g.p2 hX hf (zBR (L:=L) (j:=j+1) hj).1;have h3:=g.p4 hX hf (j:=j) (by omega);rw [g.at_xat hj,show j+1+(axL L).length-1=j+(axL L).length by omega,Nat.add_mod_right,Nat.mod_eq_of_lt (show j < (axL L).length by omega)] at h1;rw [←h1,←h3]
theorem Good.edges (g:Good K L) (hX:Col L X) (hf:∀e,e < L.length→X (2*e)=X (2*e+1)):∀e,e < L.length→X (2*e)=if dwn L (e+1) then X (2*upE L (xat (axL L) 0)) else X (2*loE L (xat (axL L) 0)):=by
 have hu:∀v,isP (la L v)=Q→X (2*upE L v)=X (2*upE L (xat (axL L) 0)):=fun v hv=>by
  have:=g.up_const hX hf (atN L v) (g.at_lt hv)
  rwa [g.xat_at hv] at this
 have hl:∀v,isP (la L v)=Q→X (2*loE L v)=X (2*loE L (xat (axL L) 0)):=fun v hv=>by
  have:=g.lo_const hX hf (atN L v) (g.at_lt hv)
  rwa [g.xat_at hv] at this
 have pass:∀e,isP (la L e)=Q→X (2*e)=if dwn L (e+1) then X (2*upE L (xat (axL L) 0)) else X (2*loE L (xat (axL L) 0)):=by
  intro e he;rw [zPe he];have h1:=hu e he;have h2:=hl e he;unfold upE at h1;unfold loE at h2
  cases hd:dwn L e with
  | true =>
   rw [hd,if_pos rfl] at h2;rw [h2];rfl
  | false =>
   rw [hd] at h1;simp only [Bool.false_eq_true,if_false] at h1;rw [h1];rfl
 intro e
 induction e with
 | zero=>intro _;exact pass 0 g.first
 | succ e ih =>
  intro he;rcases g.kinds (e+1) he with hp | hc
  ·exact pass (e+1) hp
  ·have hnp:isP (la L (e+1))=E:=by
    cases hq:isP (la L (e+1)) with
    | false=>rfl
    | true=>rw [zCw hq] at hc;cases hc
   rw [zVO hnp,←ih (by omega)];have f:=g.four hX hc;have hj:=zBB (g.other hc).2.1;rw [show e+1-1=e by omega] at f;have f2:=hf (zCn L (e+1)) hj;have f3:=hf (zCn L (e+1)-1) (by omega);rcases f with ⟨a,b,c,d⟩ | ⟨a,b,c,d⟩
   ·rw [a,f2,d]
   ·rw [a,←f3,c]
end
end
end Go.Proofs.YtlmdfmnbcndhoaaGreatDoor
