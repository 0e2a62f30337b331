/-
  Plain: the step to the left is one to one on the darts of a valid code; the program's walk, which asks only the string's darts, and the document's are the same. No walk of the program.
  Plain: what a valid code's tests give: the axis, the other visit of a crossing; the step to the left is one to one. No walk of the program.
  Plain: the faces of a code; what the program makes of a piece of the axis, and what the document does. No walk of the program.
  Memory words: own slices of letters and of places; what struct literals build. No condition.
  Names of fingers are read back: plain. The program's ParseName.
-/
import Derived.Test.YtlmdfmnbcndhoaaGreatDoorWr10
import Derived.Test.YtlmdfmnbcndhoaaGreatDoorWr02
import Derived.Great.BuildSlice
import Derived.Laws.StructEq
import Derived.Laws.ResultCell
namespace Go.Proofs.YtlmdfmnbcndhoaaGreatDoor
theorem sat_set {s:List Bool} {x y:Nat}:sat (s.set x true) y=(sat s y||decide (x=y)):=by
 unfold sat
 rw [List.getElem?_set]
 by_cases h:x=y
 ·subst h
  by_cases hl:x < s.length
  ·simp [hl]
  ·simp [hl]
 ·simp [h]
/-- How many are not yet seen. -/
def unN (s:List Bool):Nat:=s.countP (fun b=>!b)
theorem unN_set:∀{s:List Bool} {x:Nat},sat s x=false→unN (s.set x true)+1=unN s
 | [],x,h=>by simp [sat] at h
 | b :: s,0,h=>by simp [sat] at h;subst h;simp [unN]
 | b :: s,x+1,h=>by
  have:=unN_set (s:=s) (x:=x) (by simpa [sat] using h)
  unfold unN at this ⊢
  simp only [List.set_cons_succ,List.countP_cons]
  omega
theorem unN_pos {s:List Bool} {x:Nat} (h:sat s x=false):0 < unN s:=by have:=unN_set h;omega
theorem unN_le (s:List Bool):unN s≤s.length:=List.countP_le_length
/-- P is a path that f makes from d; x is what comes next. -/
def zFP (f:Nat→Nat) (d:Nat):List Nat→Nat→Prop
 | [],x=>x=d
 | p :: P,x=>x=f p∧zFP f d P p
theorem path_mem {f:Nat→Nat} {d:Nat}:∀{P:List Nat} {x q:Nat},zFP f d P x→q∈P→q=d∨∃r,r∈P∧q=f r
 | [],_,_,_,h=>by cases h
 | p :: P,x,q,hp,hq=>by
  rcases List.mem_cons.1 hq with rfl | hq
  ·cases P with
   | nil=>exact .inl hp.2
   | cons r P=>exact .inr ⟨r,by simp,hp.2.1⟩
  ·rcases path_mem hp.2 hq with h | ⟨r,hr,h⟩
   ·exact .inl h
   ·exact .inr ⟨r,by simp [hr],h⟩
/-- Along a path without repetition only the last step leads out of what has been met, or to its beginning. -/
theorem zFt {f:Nat→Nat} {d N:Nat} (inj:∀x y,x < N→y < N→f x=f y→x=y) {p:Nat}:∀{P Q:List Nat} {q:Nat},zFP f d (Q++p :: P) q→(Q++p :: P).Nodup→(∀y∈Q++p :: P,y < N)→∀r,r∈p :: P→r≠d→∃t,t∈P∧r=f t
 | P,[],q,hp,hn,hN,r,hr,hd=>by
  rcases List.mem_cons.1 hr with rfl | hr'
  ·cases P with
   | nil=>exact absurd hp.2 hd
   | cons t P=>exact ⟨t,by simp,hp.2.1⟩
  ·rcases path_mem hp.2 hr' with h | ⟨t,ht,h⟩
   ·exact absurd h hd
   ·exact ⟨t,ht,h⟩
 | P,c :: Q,q,hp,hn,hN,r,hr,hd=>zFt inj (P:=P) (Q:=Q) hp.2 (List.nodup_cons.1 hn).2 (fun y hy=>hN y (by simp at hy ⊢;exact .inr hy)) r hr hd
/-- Of all darts: those from which the walk leads to a dart that has been seen have been seen. -/
def Back (f:Nat→Nat) (N:Nat) (s:List Bool):Prop:=∀y,y < N→sat s (f y)=true→sat s y=true
end Go.Proofs.YtlmdfmnbcndhoaaGreatDoor
namespace Go.Proofs.YtlmdfmnbcndhoaaGreatDoor
/-- What the walks need of a code: the letters are well formed, the first one is a pass. -/
structure Good (K:Int) (L:List Lt):Prop where
 pos:0 < L.length
 first:isP (la L 0)=true
 even:pN L L.length % 2=0
 gates:∀i,i < L.length→isP (la L i)=true→0≤(la L i).gate∧(la L i).gate≤K
 ranks:∀i,i < L.length→rkB L i=true
 cross:∀i,i < L.length→crB L i=true
 ceven:cN L L.length % 2=0
 kinds:∀i,i < L.length→isP (la L i)=true∨isC (la L i)=true
theorem zDf {K:Int} {L:List Lt} (hp:0 < L.length) (h1:isP (la L 0)=true) (h2:pN L L.length % 2=0) (h3:zAx K L=true) (h4:zCq L=true) (h5:zBB L=true):Good K L:=by
 unfold zAx at h3
 unfold zCq at h4
 unfold zBB at h5
 simp only [Bool.and_eq_true,decide_eq_true_eq,zAk] at h3 h4 h5
 refine ⟨hp,h1,h2,fun i hi hp=>?_,h4,h5.2,h5.1,fun i hi=>?_⟩
 ·have:=h3 i hi
  unfold lpB at this
  unfold isP at hp
  rw [if_pos (by simpa using hp)] at this
  simp only [decide_eq_true_eq] at this
  exact ⟨this.1,this.2.1⟩
 ·have:=h3 i hi
  unfold lpB at this
  unfold isP isC
  by_cases e1:(la L i).kind=1
  ·left;simp [e1]
  ·by_cases e2:(la L i).kind=2
   ·right;simp [e2]
   ·rw [if_neg e1,if_neg e2] at this;cases this
theorem zCf {K:Int} {L:List Lt} (hp:0 < L.length) (h:zAo K L=true):Good K L:=by
 unfold zAo at h
 rw [←zBX] at h
 simp only [Bool.and_eq_true,decide_eq_true_eq] at h
 exact zDf hp h.1.1.1 h.1.1.2 h.1.2.1.1 h.1.2.1.2 h.1.2.2
section
variable {K:Int} {L:List Lt}
theorem la_ge {i:Nat} (h:L.length≤i):la L i=dl:=by unfold la;rw [List.getElem?_eq_none h];rfl
theorem zAH {i:Nat} (h:isP (la L i)=true):i < L.length:=by
 rcases Nat.lt_or_ge i L.length with hl | hl
 ·exact hl
 ·rw [la_ge hl] at h;cases h
theorem zAR {i:Nat} (h:isC (la L i)=true):i < L.length:=by
 rcases Nat.lt_or_ge i L.length with hl | hl
 ·exact hl
 ·rw [la_ge hl] at h;cases h
theorem Good.nodup (g:Good K L):(axL L).Nodup:=ax_nodup g.ranks
theorem Good.at_ (g:Good K L) {i:Nat} (hp:isP (la L i)=true):(axL L)[atN L i]? = some i:=ax_at (fun i hi hp=>(g.gates i hi hp).1) g.ranks (zAH hp) hp
theorem Good.idx (g:Good K L) {i:Nat} (hp:isP (la L i)=true):idxN (axL L) i=atN L i:=zGz g.nodup (g.at_ hp)
theorem Good.at_lt (g:Good K L) {i:Nat} (hp:isP (la L i)=true):atN L i < (axL L).length:=(List.getElem?_eq_some_iff.1 (g.at_ hp)).1
theorem zBp {j:Nat} (hj:j < (axL L).length):isP (la L (xat (axL L) j))=true∧xat (axL L) j < L.length:=by
 have h:(axL L)[j]? = some (axL L)[j]:=List.getElem?_eq_getElem hj
 have hm:=(mem_axTo L (axL L)[j] L.length).1 (List.getElem_mem hj)
 unfold xat
 rw [h]
 exact ⟨hm.2,hm.1⟩
theorem Good.at_xat (g:Good K L) {j:Nat} (hj:j < (axL L).length):atN L (xat (axL L) j)=j:=by
 have h:=(zBp hj).1
 have h1:=g.at_ h
 have h2:(axL L)[j]? = some (xat (axL L) j):=by unfold xat;rw [List.getElem?_eq_getElem hj];rfl
 have e1:=zGz g.nodup h1
 rw [zGz g.nodup h2] at e1
 exact e1.symm
theorem Good.m_pos (g:Good K L):0 < (axL L).length:=by
 have:=g.at_lt g.first
 omega
/-- The other visit. -/
theorem Good.other (g:Good K L) {i:Nat} (hc:isC (la L i)=true) :
  othN L i≠i∧isC (la L (othN L i))=true∧(la L (othN L i)).id=(la L i).id∧(la L (othN L i)).over≠(la L i).over∧(la L (othN L i)).sign=(la L i).sign∧(∀j,isC (la L j)=true→(la L j).id=(la L i).id→j≠i→j=othN L i):=by
 have hi:=zAR hc
 have hb:=(zBg.1 (g.cross i hi) hc).1
 have ht:=tN_two (d:=((la L i).id-1).toNat) g.ceven g.cross (by omega)
 rw [show ((((la L i).id-1).toNat+1:Nat):Int)=(la L i).id by omega] at ht
 have hex:∃j,j < L.length∧j≠i∧isC (la L j)=true∧(la L j).id=(la L i).id:=by
  rcases Classical.em (∃j,j < L.length∧j≠i∧isC (la L j)=true∧(la L j).id=(la L i).id) with h | h
  ·exact h
  ·have:tN L (la L i).id L.length=1:=zEF hi (by simp [hc]) (fun m hm hp=>by
    simp at hp
    rcases Nat.decEq m i with e | e
    ·exact absurd ⟨m,hm,e,hp.1,hp.2⟩ h
    ·exact e)
   omega
 have hall:∀j k,isC (la L j)=true→(la L j).id=(la L i).id→j≠i→isC (la L k)=true→(la L k).id=(la L i).id→k≠i→j=k:=by
  intro j k hj hji hjn hk hki hkn
  rcases Nat.decEq j k with e | e
  ·have a1:=(zCB g.cross (zAR hj) (zAR hk) hj hk (hji.trans hki.symm) e).1
   have a2:=(zCB g.cross (zAR hj) hi hj hc hji hjn).1
   have a3:=(zCB g.cross (zAR hk) hi hk hc hki hkn).1
   revert a1 a2 a3
   cases (la L j).over<;>cases (la L k).over<;>cases (la L i).over<;>simp
  ·exact e
 have hf:othN L i≠i∧isC (la L (othN L i))=true∧(la L (othN L i)).id=(la L i).id:=by
  unfold othN
  cases hq:(List.range L.length).find? (fun j=>j != i&&isC (la L j)&&(la L j).id==(la L i).id) with
  | none =>
   rw [List.find?_eq_none] at hq
   obtain ⟨j,hj,h1,h2,h3⟩:=hex
   exact absurd (by simp [h1,h2,h3]) (hq j (List.mem_range.2 hj))
  | some j =>
   have:=List.find?_some hq
   simp at this
   exact ⟨this.1.1,this.1.2,this.2⟩
 have ho:=zCB g.cross (zAR hf.2.1) hi hf.2.1 hc hf.2.2 hf.1
 exact ⟨hf.1,hf.2.1,hf.2.2,ho.1,ho.2,fun j hj hji hjn=>hall j _ hj hji hjn hf.2.1 hf.2.2 hf.1⟩
theorem Good.oth_oth (g:Good K L) {i:Nat} (hc:isC (la L i)=true):othN L (othN L i)=i:=by
 obtain ⟨h1,h2,h3,_,_,_⟩:=g.other hc
 obtain ⟨_,_,_,_,_,h6⟩:=g.other h2
 exact (h6 i hc h3.symm (fun e=>h1 e.symm)).symm
/-- The ends of steps. -/
theorem zCO {n i:Nat} {b:Bool} (hi:i < n):zAC n i b < 2*n:=by
 unfold zAC
 split
 ·omega
 ·have:=Nat.mod_lt (i+n-1) (show 0 < n by omega)
  omega
theorem zCP {n i j:Nat} {b c:Bool} (hi:i < n) (hj:j < n) (h:zAC n i b=zAC n j c):i=j∧b=c:=by
 unfold zAC at h
 have e:∀x,x < n→(x=0∧(x+n-1) % n=n-1)∨(0 < x∧(x+n-1) % n=x-1):=by
  intro x hx
  rcases Nat.eq_zero_or_pos x with h0 | h0
  ·left;subst h0;exact ⟨rfl,by rw [Nat.zero_add,Nat.mod_eq_of_lt (by omega)]⟩
  ·right
   refine ⟨h0,?_⟩
   rw [show x+n-1=(x-1)+n by omega,Nat.add_mod_right,Nat.mod_eq_of_lt (by omega)]
 have e1:=e i hi
 have e2:=e j hj
 cases b<;>cases c<;>simp at h ⊢<;>omega
theorem zBu {n d:Nat} (h:d < 2*n):zAy n d < n:=by
 unfold zAy
 split
 ·exact Nat.mod_lt _ (by omega)
 ·omega
theorem zEM {n d e:Nat} (hd:d < 2*n) (he:e < 2*n) (hp:d % 2=e % 2) (h:zAy n d=zAy n e):d=e:=by
 unfold zAy at h
 by_cases h0:d % 2=0
 ·rw [if_pos h0,if_pos (by omega)] at h
  have m:∀x,x < n→(x+1=n∧(x+1) % n=0)∨(x+1 < n∧(x+1) % n=x+1):=by
   intro x hx
   rcases Nat.lt_or_ge (x+1) n with hl | hl
   ·exact .inr ⟨hl,Nat.mod_eq_of_lt hl⟩
   ·left;have:x+1=n:=by omega
    exact ⟨this,by rw [this,Nat.mod_self]⟩
  have m1:=m (d / 2) (by omega)
  have m2:=m (e / 2) (by omega)
  omega
 ·rw [if_neg h0,if_neg (by omega)] at h
  omega
theorem succ_mod_inj {m i j:Nat} (hi:i < m) (hj:j < m) (h:(i+1) % m=(j+1) % m):i=j:=by
 have:=zEM (n:=m) (d:=2*i) (e:=2*j) (by omega) (by omega) (by omega) (by
  unfold zAy
  rw [if_pos (by omega),if_pos (by omega),show 2*i / 2=i by omega,show 2*j / 2=j by omega];exact h)
 omega
/-- The step's three kinds. -/
theorem zDC {d:Nat} (hd:2*L.length≤d) (hm:0 < (axL L).length) (hN:d < zAq L) :
  ∃v b,zAV L (axL L) d=zAC L.length v b∧isP (la L v)=true∧v < L.length∧((d % 2=0∧v=xat (axL L) (((d-2*L.length) / 2+1) % (axL L).length)∧b = !dwn L v)∨(d % 2=1∧v=xat (axL L) ((d-2*L.length) / 2)∧b=dwn L v)):=by
 unfold zAV
 unfold zAq at hN
 rw [if_pos hd]
 by_cases h0:d % 2=0
 ·rw [if_pos h0]
  have hj:=zBp (L:=L) (j:=((d-2*L.length) / 2+1) % (axL L).length) (Nat.mod_lt _ hm)
  exact ⟨_,_,rfl,hj.1,hj.2,.inl ⟨h0,rfl,rfl⟩⟩
 ·rw [if_neg h0]
  have hj:=zBp (L:=L) (j:=(d-2*L.length) / 2) (by omega)
  exact ⟨_,_,rfl,hj.1,hj.2,.inr ⟨by omega,rfl,rfl⟩⟩
theorem Good.left_cross (_g:Good K L) {d:Nat} (hd:d < 2*L.length) (hc:isC (la L (zAy L.length d))=true) :
  zAV L (axL L) d=zAC L.length (othN L (zAy L.length d)) ((d % 2==0)==((la L (zAy L.length d)).over==((la L (zAy L.length d)).sign==1))):=by
 unfold zAV
 rw [if_neg (by omega),if_pos hc]
theorem Good.left_pass (g:Good K L) {d:Nat} (hd:d < 2*L.length) (hp:isP (la L (zAy L.length d))=true) :
  zAV L (axL L) d=if dwn L (zAy L.length d)==(d % 2==0) then 2*L.length+2*atN L (zAy L.length d) else 2*L.length+2*((atN L (zAy L.length d)+(axL L).length-1) % (axL L).length)+1:=by
 unfold zAV
 rw [if_neg (by omega),if_neg (by rw [zBc hp];simp),g.idx hp]
theorem Good.into (g:Good K L) {d:Nat} (hd:d < zAq L):zAV L (axL L) d < zAq L:=by
 rcases Nat.lt_or_ge d (2*L.length) with hl | hl
 ·rcases g.kinds _ (zBu hl) with hp | hc
  ·have ha:=g.at_lt hp
   rw [g.left_pass hl hp]
   unfold zAq
   split
   ·omega
   ·have:=Nat.mod_lt (atN L (zAy L.length d)+(axL L).length-1) g.m_pos
    omega
  ·rw [g.left_cross hl hc]
   have:=zCO (b:=(d % 2==0)==((la L (zAy L.length d)).over==((la L (zAy L.length d)).sign==1))) (zAR (g.other hc).2.1)
   unfold zAq
   omega
 ·obtain ⟨v,b,h1,_,h3,_⟩:=zDC hl g.m_pos hd
  rw [h1]
  have:=zCO (b:=b) h3
  unfold zAq
  omega
theorem Good.xat_inj (g:Good K L) {i j:Nat} (hi:i < (axL L).length) (hj:j < (axL L).length) (h:xat (axL L) i=xat (axL L) j):i=j:=by
 have:=g.at_xat hi
 rw [h,g.at_xat hj] at this
 exact this.symm
theorem Good.inj (g:Good K L) (x y:Nat) (hx:x < zAq L) (hy:y < zAq L) (h:zAV L (axL L) x=zAV L (axL L) y):x=y:=by
 have hm:=g.m_pos
 rcases Nat.lt_or_ge x (2*L.length) with hlx | hlx<;>rcases Nat.lt_or_ge y (2*L.length) with hly | hly
 ·have p1:∀z,z < 2*L.length→isP (la L (zAy L.length z))=true→2*L.length≤zAV L (axL L) z:=by
   intro z hz hp
   rw [g.left_pass hz hp]
   split<;>omega
  have p2:∀z,z < 2*L.length→isC (la L (zAy L.length z))=true→zAV L (axL L) z < 2*L.length:=by
   intro z hz hc
   rw [g.left_cross hz hc]
   exact zCO (zAR (g.other hc).2.1)
  rcases g.kinds _ (zBu hlx) with hpx | hcx<;>rcases g.kinds _ (zBu hly) with hpy | hcy
  ·rw [g.left_pass hlx hpx,g.left_pass hly hpy] at h
   have hax:=g.at_lt hpx
   have hay:=g.at_lt hpy
   have cl:∀a b,a < (axL L).length→b < (axL L).length→(a+(axL L).length-1) % (axL L).length=(b+(axL L).length-1) % (axL L).length→a=b:=by
    intro a b ha hb e
    have:=zCP (b:=false) (c:=false) ha hb (by unfold zAC;simp [e])
    exact this.1
   have key:zAy L.length x=zAy L.length y∧(dwn L (zAy L.length x)==(x % 2==0))=(dwn L (zAy L.length y)==(y % 2==0)):=by
    cases hbx:(dwn L (zAy L.length x)==(x % 2==0))<;>cases hby:(dwn L (zAy L.length y)==(y % 2==0))<;>rw [hbx,hby] at h<;>simp at h
    ·have h':atN L (zAy L.length x)=atN L (zAy L.length y):=cl _ _ hax hay (by omega)
     have e1:=g.at_ hpx
     rw [h',g.at_ hpy] at e1
     exact ⟨(Option.some.inj e1).symm,rfl⟩
    ·omega
    ·omega
    ·have h':atN L (zAy L.length x)=atN L (zAy L.length y):=by omega
     have e1:=g.at_ hpx
     rw [h',g.at_ hpy] at e1
     exact ⟨(Option.some.inj e1).symm,rfl⟩
   refine zEM hlx hly ?_ key.1
   have k2:=key.2
   rw [key.1] at k2
   rcases Nat.mod_two_eq_zero_or_one x with a | a<;>rcases Nat.mod_two_eq_zero_or_one y with b | b<;>rw [a,b] at k2<;>cases hq:dwn L (zAy L.length y)<;>rw [hq] at k2<;>simp at k2<;>omega
  ·have:=p1 x hlx hpx;have:=p2 y hly hcy;omega
  ·have:=p2 x hlx hcx;have:=p1 y hly hpy;omega
  ·rw [g.left_cross hlx hcx,g.left_cross hly hcy] at h
   obtain ⟨h1,h2⟩:=zCP (zAR (g.other hcx).2.1) (zAR (g.other hcy).2.1) h
   have hh:zAy L.length x=zAy L.length y:=by
    have:=g.oth_oth hcx
    rw [h1,g.oth_oth hcy] at this
    exact this.symm
   refine zEM hlx hly ?_ hh
   rw [hh] at h2
   rcases Nat.mod_two_eq_zero_or_one x with a | a<;>rcases Nat.mod_two_eq_zero_or_one y with b | b<;>rw [a,b] at h2<;>revert h2<;>generalize ((la L (zAy L.length y)).over==((la L (zAy L.length y)).sign==1))=q<;>cases q<;>simp<;>omega
 ·obtain ⟨v,b,h1,h2,h3,_⟩:=zDC hly hm hy
  rcases g.kinds _ (zBu hlx) with hpx | hcx
  ·rw [h1,g.left_pass hlx hpx] at h
   have:=zCO (b:=b) h3
   split at h<;>omega
  ·rw [h1,g.left_cross hlx hcx] at h
   have hc':=(g.other hcx).2.1
   have:=(zCP (zAR hc') h3 h).1
   rw [this,zBc h2] at hc'
   cases hc'
 ·obtain ⟨v,b,h1,h2,h3,_⟩:=zDC hlx hm hx
  rcases g.kinds _ (zBu hly) with hpy | hcy
  ·rw [h1,g.left_pass hly hpy] at h
   have:=zCO (b:=b) h3
   split at h<;>omega
  ·rw [h1,g.left_cross hly hcy] at h
   have hc':=(g.other hcy).2.1
   have:=(zCP h3 (zAR hc') h).1
   rw [←this,zBc h2] at hc'
   cases hc'
 ·obtain ⟨v,b,h1,h2,h3,h4⟩:=zDC hlx hm hx
  obtain ⟨v',b',h1',h2',h3',h4'⟩:=zDC hly hm hy
  rw [h1,h1'] at h
  obtain ⟨rfl,rfl⟩:=zCP h3 h3' h
  unfold zAq at hx hy
  rcases h4 with ⟨a1,a2,a3⟩ | ⟨a1,a2,a3⟩<;>rcases h4' with ⟨c1,c2,c3⟩ | ⟨c1,c2,c3⟩
  ·have:=g.xat_inj (Nat.mod_lt _ hm) (Nat.mod_lt _ hm) (a2.symm.trans c2)
   have:=succ_mod_inj (by omega) (by omega) this
   omega
  ·rw [a3] at c3;cases dwn L v<;>simp at c3
  ·rw [a3] at c3;cases dwn L v<;>simp at c3
  ·have:=g.xat_inj (by omega) (by omega) (a2.symm.trans c2)
   omega
end
end Go.Proofs.YtlmdfmnbcndhoaaGreatDoor
namespace Go.Proofs.YtlmdfmnbcndhoaaGreatDoor
structure Plc where
 gate:Int
 left:Int
instance:DecidableEq Plc:=fun a b =>
 if h:a.gate=b.gate∧a.left=b.left then .isTrue (by cases a;cases b;simp at h;simp [h])
 else .isFalse (fun e=>h (by subst e;simp))
structure Fc where
 above:Bool
 darts:List Int
 places:List Plc
 fingers:List Int
 outer:Bool
instance:DecidableEq Fc:=fun a b =>
 if h:a.above=b.above∧a.darts=b.darts∧a.places=b.places∧a.fingers=b.fingers∧a.outer=b.outer then .isTrue (by cases a;cases b;simp at h;simp [h])
 else .isFalse (fun e=>h (by subst e;simp))
section
variable {K:Int} {L:List Lt}
theorem zGd (L:List Lt) {a b:Nat} (h:a < b):fsN L a+gN L (a:Int) L.length≤fsN L b:=by
 obtain ⟨k,rfl⟩:∃k,b=a+1+k:=⟨b-a-1,by omega⟩
 unfold fsN
 induction k with
 | zero=>exact Nat.le_refl _
 | succ k ih=>exact Nat.le_trans (ih (by omega)) (Nat.le_add_right _ _)
theorem Good.rank (g:Good K L) {i:Nat} (hp:isP (la L i)=true):1≤(la L i).rank∧(la L i).rank≤(gN L (la L i).gate L.length:Int):=(zBi.1 (g.ranks i (zAH hp)) hp).1
end
end Go.Proofs.YtlmdfmnbcndhoaaGreatDoor
namespace Go.Proofs.YtlmdfmnbcndhoaaGreatDoor
open Go.RowKit
theorem zDg {α β:Type} (f:α→List β) (k:Nat) (hk:∀a,(f a).length=k):∀L:List α,(L.flatMap f).length=L.length*k
 | []=>by simp
 | a :: L=>by rw [List.flatMap_cons,List.length_append,hk,zDg f k hk L,List.length_cons,Nat.add_mul,Nat.one_mul,Nat.add_comm]
theorem zFu {α β:Type} (f:α→List β) (k:Nat) (hk:∀a,(f a).length=k):∀(L:List α) (j i:Nat) (x:α),L[j]? = some x→i < k→(L.flatMap f)[j*k+i]? = (f x)[i]?
 | [],j,_,_,h,_=>by simp at h
 | a :: L,0,i,x,h,hi=>by
  simp only [List.getElem?_cons_zero,Option.some.injEq] at h
  subst h
  rw [List.flatMap_cons,Nat.zero_mul,Nat.zero_add,List.getElem?_append_left (by rw [hk];exact hi)]
 | a :: L,j+1,i,x,h,hi=>by
  rw [List.getElem?_cons_succ] at h
  rw [List.flatMap_cons,List.getElem?_append_right (by rw [hk,Nat.add_mul,Nat.one_mul];omega),hk,show (j+1)*k+i-k=j*k+i by rw [Nat.add_mul,Nat.one_mul];omega]
  exact zFu f k hk L j i x h hi
theorem flat_set {α β:Type} (f:α→List β) (k:Nat) (hk:∀a,(f a).length=k):∀(L:List α) (j i:Nat) (x x':α) (u:β),L[j]? = some x→i < k→f x'=(f x).set i u→(L.flatMap f).set (j*k+i) u=(L.set j x').flatMap f
 | [],j,_,_,_,_,h,_,_=>by simp at h
 | a :: L,0,i,x,x',u,h,hi,he=>by
  simp only [List.getElem?_cons_zero,Option.some.injEq] at h
  subst h
  rw [List.flatMap_cons,Nat.zero_mul,Nat.zero_add,List.set_append_left _ _ (by rw [hk];exact hi),List.set_cons_zero,List.flatMap_cons,he]
 | a :: L,j+1,i,x,x',u,h,hi,he=>by
  rw [List.getElem?_cons_succ] at h
  rw [List.flatMap_cons,List.set_append_right _ _ (by rw [hk,Nat.add_mul,Nat.one_mul];omega),hk,show (j+1)*k+i-k=j*k+i by rw [Nat.add_mul,Nat.one_mul];omega,flat_set f k hk L j i x x' u h hi he,List.set_cons_succ,List.flatMap_cons]
theorem flat_set_same {α β:Type} (f:α→List β) (k:Nat) (hk:∀a,(f a).length=k) {L:List α} {j i:Nat} {x x':α} {u:β} (h:L[j]? = some x) (hi:i < k) (he:f x'=(f x).set i u) {q:Nat} (hq:q=j*k+i):(L.flatMap f).set q u=(L.set j x').flatMap f:=by
 subst hq
 exact flat_set f k hk L j i x x' u h hi he
/-- A store into a row. -/
theorem Row.put {w:World} {base size:Nat} {g off n c:Nat} {xs:List Value} (h:Row w base size (some ⟨g,off,none⟩) n c xs) {q:Nat} (hq:q < n*size) (u:Value):Row (w.setCell ⟨g,off+q,none⟩ u) base size (some ⟨g,off,none⟩) n c (xs.set q u):=by
 obtain ⟨h1,h2,h3,h4,h5⟩:=h.at_ _ rfl
 simp only [] at h4 h5
 refine ⟨by simpa using h.len,h.cap,h.nil,fun ad ha=>?_⟩
 injection ha with ha
 subst ha
 refine ⟨rfl,h2,by simpa [World.setCell] using h3,fun j v hv=>?_,fun j hj=>?_⟩
 ·by_cases e:q=j
  ·subst e
   rw [List.getElem?_set_self (by rw [h.len];exact hq)] at hv
   injection hv with hv
   subst hv
   have hc:=(h5 q (by have:=h.cap;exact Nat.lt_of_lt_of_le hq (Nat.mul_le_mul_right _ this))).1
   obtain ⟨v0,hv0⟩:=Option.isSome_iff_exists.1 hc
   exact World.cell?_setCell_same _ _ _ hv0
  ·rw [List.getElem?_set_ne e] at hv
   rw [World.cell?_setCell_other _ _ _ _ (by intro he;injection he with _ he;simp at he;omega)]
   exact h4 j v hv
 ·obtain ⟨k1,k2⟩:=h5 j hj
  refine ⟨?_,?_⟩
  ·by_cases e:q=j
   ·subst e
    obtain ⟨v0,hv0⟩:=Option.isSome_iff_exists.1 k1
    rw [World.cell?_setCell_same _ _ _ hv0];rfl
   ·rw [World.cell?_setCell_other _ _ _ _ (by intro he;injection he with _ he;simp at he;omega)];exact k1
  ·rw [World.frozen?_setCell];exact k2
def ltC (l:Lt):List Value:=[.int .i64 l.kind,.int .i64 l.gate,.int .i64 l.rank,.int .i64 l.id,.int .i64 l.sign,.bool l.over]
theorem zDD (l:Lt):(ltC l).length=6:=rfl
/-- A slice of letters of the call's own. -/
structure OwnL (w:World) (base:Nat) (A:Option Addr) (n c:Nat) (L:List Lt):Prop where
 row:Row w base 6 A n c (L.flatMap ltC)
 fits:∀x∈L,LtOk x
 le:n≤2932031007402
section
variable {w w':World} {base:Nat} {A:Option Addr} {n c:Nat} {L:List Lt}
theorem OwnL.len (h:OwnL w base A n c L):L.length=n:=by
 have:=h.row.len
 rw [zDg ltC 6 zDD] at this
 omega
theorem OwnL.lets (h:OwnL w base A n c L):Lets w A n L:=by
 refine ⟨h.len,h.le,h.fits,fun hn=>?_⟩
 obtain ⟨g,off,rfl,_,hlt⟩:=h.row.form hn
 refine ⟨g,off,rfl,hlt,fun j x hx=>?_⟩
 have key:∀i u,i < 6→(ltC x)[i]? = some u→w.cell? ⟨g,off+(j*6+i),none⟩=some u:=fun i u hi hu=>h.row.cell (by rw [zFu ltC 6 zDD L j i x hx hi];exact hu)
 exact ⟨key 0 _ (by omega) rfl,key 1 _ (by omega) rfl,key 2 _ (by omega) rfl,key 3 _ (by omega) rfl,key 4 _ (by omega) rfl,key 5 _ (by omega) rfl⟩
theorem OwnL.next (h:OwnL w base A n c L) (hb:Below w.heap.size w w'):OwnL w' base A n c L:=⟨h.row.below hb,h.fits,h.le⟩
theorem OwnL.alloc (h:OwnL w base A n c L) (o:Obj):OwnL (w.alloc o) base A n c L:=⟨h.row.alloc o,h.fits,h.le⟩
theorem OwnL.nil (w:World) (base:Nat):OwnL w base none 0 0 []:=⟨Row.none_ _ _ _,by simp,by omega⟩
/-- One field of one letter is stored. -/
theorem OwnL.put {g off:Nat} (h:OwnL w base (some ⟨g,off,none⟩) n c L) {j i q:Nat} {x x':Lt} {u:Value} (hx:L[j]? = some x) (hi:i < 6) (he:ltC x'=(ltC x).set i u) (hok:LtOk x') (hq:q=j*6+i) :
  OwnL (w.setCell ⟨g,off+q,none⟩ u) base (some ⟨g,off,none⟩) n c (L.set j x'):=by
 have hj:j < n:=by rw [←h.len];exact (List.getElem?_eq_some_iff.1 hx).1
 refine ⟨?_,fun y hy=>?_,h.le⟩
 ·rw [←flat_set_same ltC 6 zDD hx hi he hq]
  exact h.row.put (by omega) u
 ·rcases List.mem_or_eq_of_mem_set hy with hy | rfl
  ·exact h.fits y hy
  ·exact hok
end
/-- A whole block of letters. -/
theorem OwnL.block {w:World} {base g:Nat} {L:List Lt} (h:Blk w g 76 (L.flatMap ltC).toArray) (hb:base≤g) (hf:∀x∈L,LtOk x) (hle:L.length≤2932031007402):OwnL w base (some ⟨g,0,none⟩) L.length L.length L:=by
 refine ⟨⟨zDg ltC 6 zDD L,Nat.le_refl _,fun e=>(by cases e),fun ad ha=>?_⟩,hf,hle⟩
 injection ha with ha
 subst ha
 have hc:∀j,w.cell? ⟨g,0+j,none⟩=(L.flatMap ltC)[j]?:=fun j=>by rw [Nat.zero_add,h.cell,List.getElem?_toArray]
 refine ⟨rfl,hb,h.lt,fun j u hu=>by rw [hc,hu],fun j hj=>⟨?_,?_⟩⟩
 ·rw [hc,List.getElem?_eq_getElem (by rw [zDg ltC 6 zDD];exact hj)];rfl
 ·exact h.frozen _
section
variable {w w':World} {base:Nat} {A:Option Addr} {n c:Nat} {Q:List Plc}
end
/-- Returns out of a result's own block. -/
theorem zAF {P:Program} {fn:Func} {p:Tmp} {ty:TypeId} {R:Ending→World→Prop} {a:Act} {w:World} {g:Nat} {t:TypeId} {cs:Array Value} {fr:Nat×Nat} {d:TypeDesc} (h:fn.results=#[.cell p ty])
  (hp:a.tmps.getD p undef=.pointer (some ⟨g,0,none⟩)) (hg:w.heap[g]? = some (.cells cs t fr)) (hu:P.underlying ty=some d) (hd:(match d with | .struct _ | .array _ _=>true | _=>false)=true) (hi:(P.info? ty).map (·.size)=some cs.size)
  (hdf:a.defers=[]) (hR:R (.returned (.agg cs)) w):bodyPost P fn R .ret a w:=bodyPost_ret (results_cell_row h a.tmps w g t cs fr d hp hg hu hd hi) hdf hR
theorem zBj {P:Program} {fn:Func} {p u:Tmp} {ty:TypeId} {R:Ending→World→Prop} {a:Act} {w:World} {g:Nat} {t:TypeId} {cs:Array Value} {fr:Nat×Nat} {d:TypeDesc} {v:Value} (h:fn.results=#[.cell p ty,.tmp u])
  (hp:a.tmps.getD p undef=.pointer (some ⟨g,0,none⟩)) (hv:a.tmps.getD u undef=v) (hg:w.heap[g]? = some (.cells cs t fr)) (hu:P.underlying ty=some d) (hd:(match d with | .struct _ | .array _ _=>true | _=>false)=true) (hi:(P.info? ty).map (·.size)=some cs.size)
  (hdf:a.defers=[]) (hR:R (.returned (.tuple #[.agg cs,v])) w):bodyPost P fn R .ret a w:=by
 refine bodyPost_ret ?_ hdf hR
 rw [results_cell_tmp h,hp,hv]
 simp [asAddr,run_loadVar_row w g t ty cs fr d hg hu hd hi,Result.andThen]
/-- Struct literals. -/
theorem build_code0 (w:World):(Instr.build 55 #[]).run Tryz.prog w=.ok (.agg #[.int .i64 0,.slice none 0 0]) w:=run_build w _ _ _ (by kernel_rfl)
theorem zGA (K:Int) (w:World):(Instr.build 55 #[(0,.int .i64 K)]).run Tryz.prog w=.ok (.agg #[.int .i64 K,.slice none 0 0]) w:=run_build w _ _ _ (by kernel_rfl)
theorem zGB (K:Int) (A:Option Addr) (n c:Nat) (w:World):(Instr.build 55 #[(0,.int .i64 K),(1,.slice A n c)]).run Tryz.prog w=.ok (.agg #[.int .i64 K,.slice A n c]) w:=run_build w _ _ _ (by kernel_rfl)
theorem build_dia (K:Int) (A:Option Addr) (n c:Nat) (w:World):(Instr.build 148 #[(0,.agg #[.int .i64 K,.slice A n c])]).run Tryz.prog w=.ok (.agg #[.int .i64 K,.slice A n c,.slice none 0 0,.slice none 0 0,.slice none 0 0,.map none,.slice none 0 0]) w:=run_build w _ _ _ (by kernel_rfl)
theorem ltInfo:(Tryz.prog.info? 76).map (fun i=>(i.zero,i.size,i.bytes))=some (some (.agg #[.int .i64 0,.int .i64 0,.int .i64 0,.int .i64 0,.int .i64 0,.bool false]),6,48):=by kernel_rfl
/-- Slice literals of letters. -/
theorem buildL2 (a b:Lt) (w:World):(Instr.buildSlice 53 2 #[(0,ltV a),(1,ltV b)]).run Tryz.prog w=.ok (.slice (some ⟨w.heap.size,0,none⟩) 2 2) (w.alloc (.cells ([a,b].flatMap ltC).toArray 76)):=by
 obtain ⟨i0,hi,hz0,hz1,hz2⟩:=info_parts ltInfo
 refine run_buildSlice w _ _ 2 _ _ i0 _ Tryz.underlying53 hi hz0 (by rw [hz1];omega) (by rw [hz1];omega) ?_
 rw [hz1]
 kernel_rfl
end Go.Proofs.YtlmdfmnbcndhoaaGreatDoor
namespace Go.Proofs.YtlmdfmnbcndhoaaGreatDoor
open Go.RowKit
theorem zBC {x:Int} (h0:0≤x) (h1:x < 10):Lib.itoa x=[UInt8.ofNat (48+x.toNat)]:=by
 obtain ⟨k,rfl⟩:=Int.eq_ofNat_of_zero_le h0
 unfold Lib.itoa
 rw [if_neg (by omega)]
 simp only [Int.toNat_natCast]
 exact zFr (by omega)
theorem byte_inj {a b:Nat} (ha:a < 256) (hb:b < 256) (h:UInt8.ofNat a=UInt8.ofNat b):a=b:=by
 have:=congrArg UInt8.toNat h
 simp only [UInt8.toNat_ofNat'] at this
 omega
/-- There are no two fingers of one name. -/
theorem nameF_inj {x y:Fg} (hx:zAw x=true) (hy:zAw y=true) (h:zAn x=zAn y):x=y:=by
 obtain ⟨a1,a2,a3,a4⟩:=zAQ.1 hx
 obtain ⟨b1,b2,b3,b4⟩:=zAQ.1 hy
 obtain ⟨p,r,d⟩:=x
 obtain ⟨p',r',d'⟩:=y
 simp only at a1 a2 a3 a4 b1 b2 b3 b4
 unfold zAn at h
 simp only at h
 rw [zBC a3 (by omega),zBC b3 (by omega),zBC (x:=p) (by omega) (by omega),zBC (x:=p') (by omega) (by omega)] at h
 have hd:∀a b:Int,0≤a→a≤9→0≤b→b≤9→UInt8.ofNat (48+a.toNat)=UInt8.ofNat (48+b.toNat)→a=b:=fun a b h1 h2 h3 h4 e=>by
  have:=byte_inj (by omega) (by omega) e
  omega
 by_cases e1:p=1
 ·by_cases e2:p'=1
  ·rw [if_pos e1,if_pos e2] at h
   simp only [List.nil_append,List.cons.injEq,and_true] at h
   obtain ⟨h1,h2⟩:=h
   have hr:r=r':=by cases r<;>cases r'<;>first | rfl | (exfalso;simp at h1)
   rw [e1,e2,hr,hd d d' a3 (by omega) b3 (by omega) h2]
  ·rw [if_pos e1,if_neg e2] at h
   have:=congrArg List.length h
   simp at this
 ·by_cases e2:p'=1
  ·rw [if_neg e1,if_pos e2] at h
   have:=congrArg List.length h
   simp at this
  ·rw [if_neg e1,if_neg e2] at h
   simp only [List.cons_append,List.nil_append,List.cons.injEq,and_true] at h
   obtain ⟨h0,h1,h2⟩:=h
   have hr:r=r':=by cases r<;>cases r'<;>first | rfl | (exfalso;simp at h1)
   rw [hd p p' (by omega) (by omega) (by omega) (by omega) h0,hr,hd d d' a3 (by omega) b3 (by omega) h2]
open Classical in
/-- The finger of a name. -/
noncomputable def parF (S:List UInt8):Option Fg:=if h:∃f,zAw f=true∧zAn f=S then some h.choose else none
theorem zEN {S:List UInt8} {f:Fg} (h1:zAw f=true) (h2:zAn f=S):parF S=some f:=by
 have h:∃f,zAw f=true∧zAn f=S:=⟨f,h1,h2⟩
 unfold parF
 rw [dif_pos h]
 congr 1
 exact nameF_inj h.choose_spec.1 h1 (h.choose_spec.2.trans h2.symm)
theorem parF_none {S:List UInt8} (h:∀f,zAw f=true→zAn f≠S):parF S=none:=by
 unfold parF
 rw [dif_neg (fun ⟨f,h1,h2⟩=>h f h1 h2)]
theorem parF_is {S:List UInt8} {f:Fg} (h:parF S=some f):zAw f=true∧zAn f=S:=by
 unfold parF at h
 split at h
 ·rename_i hh
  injection h with h
  subst h
  exact hh.choose_spec
 ·cases h
end Go.Proofs.YtlmdfmnbcndhoaaGreatDoor
