/-
  Lemmas, part 3. Conditions: each theorem's own.
-/
import Derived.Test.YtlmdfmnbcndhoaaGreatDoorRq02
import Derived.Test.YtlmdfmnbcndhoaaGreatDoorProg
import Derived.WalkKit
import Derived.Deep.QuietTactic
import Derived.BigQuiet
import Derived.Lib.Hide
import Derived.Laws.OwnMore
import Derived.Maps.AppendAt
import Derived.Deep.AppendLies
import Derived.Deep.LoopGhost
import Derived.Deep.DeepFit
import Derived.Deep.DeepMust
import Derived.Outline
import Derived.Lib.ItoaNum
import Derived.Test.YtlmdfmnbcndhoaaGreatDoorRq01
open Go.Value renaming bool→G,int→D,slice→H
open Go.IntKind renaming i64→J
open Option renaming none→U,some→Z
open Bool renaming false→E,true→Q
namespace Go.Proofs.YtlmdfmnbcndhoaaGreatDoor
def zXf (L:List Lt):Prop:=∀i,i < L.length→isP (la L i)=Q→dwn L i=Q→i+1 < L.length∧isP (la L (i+1))=Q
section
variable {K:Int} {L:List Lt} {a:Nat}
theorem zHv {v:Nat} (h:isP (la L v)=Q) (hc:isC (la L v)=Q):False:=by rw [zCw h] at hc;cases hc
theorem zLs {v:Nat} (h:isC (la L v)=Q):isP (la L v)=E:=by
 cases hq:isP (la L v) with
 | false=>rfl
 | true=>exact (zHv hq h).elim
theorem Good.fineA (g:Good K L) {X:Nat→Nat} (hX:Col L X) (hp:isP (la L a)=Q) (hp2:isP (la L (a+1))=Q) (hk:∀e,e < L.length→e≠a→nwB L (e+1)=E→X (2*e)=X (2*e+1)) :
  ∀e,e < L.length→e≠a→X (2*e)=X (2*e+1):=by
 have key:∀t e,e < L.length→e≠a→L.length-e=t→X (2*e)=X (2*e+1):=by
  intro t
  induction t using Nat.strongRecOn with
  | ind t ih =>
   intro e he hea ht
   cases hn:nwB L (e+1) with
   | false=>exact hk e he hea hn
   | true =>
    unfold nwB at hn;simp only [Bool.and_eq_true,zAv] at hn;obtain ⟨hc,hno⟩:=hn;obtain ⟨h1,h2,h3,_,_,_⟩:=g.other hc;have hi:=zBB hc;have hj:=zBB h2;have hlt:e+1 < zCn L (e+1):=by
     rcases Nat.lt_trichotomy (zCn L (e+1)) (e+1) with h | h | h
     ·have:=hno _ h;rw [h2,h3] at this;simp at this
     ·exact absurd h h1
     ·exact h
    have f1:=ih (L.length-(e+1)) (by omega) (e+1) hi (fun h=>zHv (by rw [h];exact hp) hc) rfl;have f2:=ih (L.length-zCn L (e+1)) (by omega) (zCn L (e+1)) hj (fun h=>zHv (by rw [h];exact hp) h2) rfl;have f3:=ih (L.length-(zCn L (e+1)-1)) (by omega) (zCn L (e+1)-1) (by omega) (fun h=>zHv (v:=zCn L (e+1)) (by rw [show zCn L (e+1)=a+1 by omega];exact hp2) h2) rfl;have f:=g.four hX hc;rw [show e+1-1=e by omega] at f;rcases f with ⟨a,b,c,d⟩ | ⟨a,b,c,d⟩
    ·rw [a,f2,d,f1,b,←f3,c]
    ·rw [a,←f3,c,f1,b,f2,d]
 exact fun e he hea=>key _ e he hea rfl
variable {X:Nat→Nat}
theorem Good.p1A (g:Good K L) (hX:Col L X) (hf:∀e,e < L.length→e≠a→X (2*e)=X (2*e+1)) (hda:dwn L a=Q) {v:Nat} (hp:isP (la L v)=Q):X (2*L.length+2*atN L v)=X (2*upE L v):=by
 have hv:=zBA hp;have hpv:=zCN hv
 cases hd:dwn L v with
 | true =>
  have e:=g.left_pass (d:=2*zBY L.length v) (by omega) (by rw [zBC hv];exact hp);rw [zBC hv,hd,if_pos (by simp)] at e;have:=hX.step (2*zBY L.length v) (by unfold zAw;omega);rw [e] at this;rw [this];unfold upE;rw [hd,if_pos rfl]
 | false =>
  have e:=g.left_pass (d:=2*v+1) (by omega) (by rw [zCg];exact hp);rw [zCg,hd,if_pos (by simp)] at e;have:=hX.step (2*v+1) (by unfold zAw;omega);rw [e] at this;rw [this,←hf v hv (fun h=>by rw [h,hda] at hd;cases hd)];unfold upE;rw [hd];simp
theorem zXp {v:Nat} (hv:v < L.length) (ha:a+1 < L.length) (hda:dwn L (a+1)=E) (hd:dwn L v=Q):zBY L.length v≠a:=fun h=>by
 rcases Nat.eq_zero_or_pos v with h0 | h0
 ·subst h0;unfold zBY at h;rw [Nat.zero_add,Nat.mod_eq_of_lt (by omega)] at h;omega
 ·rw [zCy hv h0] at h;rw [show v=a+1 by omega,hda] at hd;cases hd
theorem Good.below (g:Good K L) (hA:zXf L):∀e,e < L.length→dwn L (e+1)=E→isP (la L e)=Q∧dwn L e=Q:=by
 intro e
 induction e with
 | zero =>
  intro _ hd;rw [zPe g.first] at hd;exact ⟨g.first,by simpa using hd⟩
 | succ e ih =>
  intro he hd;rcases g.kinds (e+1) he with hp | hc
  ·rw [zPe hp] at hd;exact ⟨hp,by simpa using hd⟩
  ·rw [zVO (zLs hc)] at hd;obtain ⟨h1,h2⟩:=ih (by omega) hd;exact (zHv (hA e (by omega) h1 h2).2 hc).elim
def lfE (L:List Lt) (v:Nat):Nat:=if dwn L v then 2*v+1 else 2*zBY L.length v
def rgE (L:List Lt) (v:Nat):Nat:=if dwn L v then 2*v else 2*zBY L.length v+1
theorem Good.p2A (g:Good K L) (hX:Col L X) {v:Nat} (hp:isP (la L v)=Q):X (2*L.length+2*((atN L v+(axL L).length-1) % (axL L).length)+1)=X (lfE L v):=by
 have hv:=zBA hp;have hpv:=zCN hv;unfold lfE
 cases hd:dwn L v with
 | true =>
  have e:=g.left_pass (d:=2*v+1) (by omega) (by rw [zCg];exact hp);rw [zCg,hd,if_neg (by simp)] at e;have:=hX.step (2*v+1) (by unfold zAw;omega);rw [e] at this;rw [this,if_pos rfl]
 | false =>
  have e:=g.left_pass (d:=2*zBY L.length v) (by omega) (by rw [zBC hv];exact hp);rw [zBC hv,hd,if_neg (by simp)] at e;have:=hX.step (2*zBY L.length v) (by unfold zAw;omega);rw [e] at this;rw [this];simp
theorem Good.p4A (_g:Good K L) (hX:Col L X) {j:Nat} (hj:j < (axL L).length):X (2*L.length+2*j+1)=X (rgE L (xat (axL L) j)):=by
 have hs:=hX.step (2*L.length+2*j+1) (by unfold zAw;omega);rw [←hs];unfold zAz;rw [if_pos (by omega),if_neg (by omega),show (2*L.length+2*j+1-2*L.length) / 2=j by omega];generalize xat (axL L) j=v;unfold rgE
 cases hd:dwn L v with
 | true=>rw [if_pos rfl,zHu]
 | false=>rw [zHt];simp
theorem Good.stepA (g:Good K L) (hX:Col L X) {j:Nat} (hj:j+1 < (axL L).length):X (2*L.length+2*j+1)=X (lfE L (xat (axL L) (j+1))):=by
 have h1:=g.p2A hX (zBR (L:=L) (j:=j+1) hj).1;rw [g.at_xat hj,show j+1+(axL L).length-1=j+(axL L).length by omega,Nat.add_mod_right,Nat.mod_eq_of_lt (show j < (axL L).length by omega)] at h1;exact h1
theorem zPf (hf:∀e,e < L.length→e≠a→X (2*e)=X (2*e+1)) (ha:a+1 < L.length) {v:Nat} (hv:v < L.length) (h1:v≠a) (h2:v≠a+1):X (lfE L v)=X (rgE L v):=by
 unfold lfE rgE
 cases hd:dwn L v with
 | true=>rw [if_pos rfl,if_pos rfl,hf v hv h1]
 | false =>
  rw [if_neg (by simp),if_neg (by simp),hf _ (zCN hv) (fun h=>?_)];rcases Nat.eq_zero_or_pos v with h0 | h0
  ·subst h0;unfold zBY at h;rw [Nat.zero_add,Nat.mod_eq_of_lt (by omega)] at h;omega
  ·rw [zCy hv h0] at h;omega
theorem Good.runA (g:Good K L) (hX:Col L X) (hf:∀e,e < L.length→e≠a→X (2*e)=X (2*e+1)) (ha:a+1 < L.length) {i:Nat} :
  ∀{j:Nat},i≤j→j < (axL L).length→(∀t,i < t→t≤j→xat (axL L) t≠a∧xat (axL L) t≠a+1)→X (2*L.length+2*i+1)=X (2*L.length+2*j+1):=by
 intro j
 induction j with
 | zero=>intro h _ _;rw [show i=0 by omega]
 | succ j ih =>
  intro hij hj hn;rcases Nat.eq_or_lt_of_le hij with h | h
  ·rw [h]
  ·rw [ih (by omega) (by omega) (fun t h1 h2=>hn t h1 (by omega)),g.stepA hX hj,g.p4A hX hj];obtain ⟨n1,n2⟩:=hn (j+1) h (Nat.le_refl _);exact zPf hf ha (zBR hj).2 n1 n2
end
theorem zKk {ZR n:Nat} {a b:Nat→Nat} {kept:Nat→Bool} (h:zAc kept n+3≤ZR):∃c:Nat→Nat,(∀e,e < n→kept e=Q→c (a e)=c (b e))∧∃x y z,x < ZR∧y < ZR∧z < ZR∧c x≠c y∧c x≠c z∧c y≠c z:=by
 obtain ⟨c,h1,h2,h3⟩:=ties ZR a b kept n;refine ⟨c,h2,?_⟩;have h4:3≤zAc (fun k=>c k==k) ZR:=by omega
 obtain ⟨x,hx,px⟩:=zNL (p:=fun k=>c k==k) (n:=ZR) (by omega);have h5:=zMJ (p:=fun k=>c k==k) (q:=fun k=>c k==k&&k != x) (z:=x) (n:=ZR) (fun m _ hp hz=>by simp only [hp,Bool.true_and];simpa using hz);obtain ⟨y,hy,py⟩:=zNL (p:=fun k=>c k==k&&k != x) (n:=ZR) (by omega);have h6:=zMJ (p:=fun k=>c k==k&&k != x) (q:=fun k=>(c k==k&&k != x)&&k != y) (z:=y) (n:=ZR) (fun m _ hp hz=>by simp only [hp,Bool.true_and];simpa using hz);obtain ⟨z,hz,pz⟩:=zNL (p:=fun k=>(c k==k&&k != x)&&k != y) (n:=ZR) (by omega);simp only [Bool.and_eq_true,beq_iff_eq,bne_iff_ne,ne_eq] at px py pz;exact ⟨x,y,z,hx,hy,hz,by rw [px,py.1];exact fun e=>py.2 e.symm,by rw [px,pz.1.1];exact fun e=>pz.1.2 e.symm,by rw [py.1,pz.1.1];exact fun e=>pz.2 e.symm⟩
section
variable {K:Int} {L:List Lt}
theorem Good.colorA (g:Good K L) (h:zFX L=Q) {a:Nat} (hp:isP (la L a)=Q) (hp2:isP (la L (a+1))=Q):∃X:Nat→Nat,Col L X∧(∀e,e < L.length→e≠a→X (2*e)=X (2*e+1)) ∧
  ∃x y z,x < zAw L∧y < zAw L∧z < zAw L∧X x≠X y∧X x≠X z∧X y≠X z:=by
 have ha:=zBA hp;obtain ⟨lab,l1,l2,l3,l4⟩:=zPd g.inj (fun x hx=>g.into hx) (Ws:=zBz L) rfl;unfold zFX at h;simp only [beq_iff_eq] at h;have hkc:=zLr g;have hnw:dN L L.length=cN L L.length / 2:=zTQ (by unfold zBM;simp only [Bool.and_eq_true,decide_eq_true_eq,zAv];exact ⟨g.ceven,g.cross⟩);have hkept:zAc (fun e=>!nwB L (e+1)) L.length+dN L L.length=L.length:=by
  have hs:∀n,zAc (fun e=>!nwB L (e+1)) n+dN L (n+1)=n:=by
   intro n
   induction n with
   | zero =>
    show 0+zAc (nwB L) 1=0;rw [zAi (by unfold nwB;rw [zCw g.first];rfl)];rfl
   | succ n ih =>
    unfold dN at ih ⊢
    cases hq:nwB L (n+1) with
    | true=>rw [zAi (p:=fun e=>!nwB L (e+1)) (by rw [hq];rfl),zAm hq];omega
    | false=>rw [zAm (p:=fun e=>!nwB L (e+1)) (by rw [hq];rfl),zAi hq];omega
  have:=hs L.length;unfold dN at this ⊢;rw [zAi (by unfold nwB;rw [zTR (Nat.le_refl _)];rfl)] at this;exact this
 have hlt:=zOR (p:=fun e=>!nwB L (e+1)&&e != a) (q:=fun e=>!nwB L (e+1)) (n:=L.length) (i:=a) (fun m _ hm=>by
  simp only [Bool.and_eq_true] at hm;exact hm.1) ha (by
  unfold nwB;rw [zCw hp2];rfl) (by simp)
 have hce:=g.ceven;obtain ⟨c,c1,x,y,z,hx,hy,hz,n1,n2,n3⟩:=zKk (ZR:=(zBz L).length) (n:=L.length) (a:=fun e=>lab (2*e)) (b:=fun e=>lab (2*e+1)) (kept:=fun e=>!nwB L (e+1)&&e != a) (by omega);have hX:Col L (fun d=>c (lab d)):=⟨fun d hd=>by show c _=c _;rw [l3 d hd]⟩;refine ⟨fun d=>c (lab d),hX,?_,?_⟩
 ·exact g.fineA hX hp hp2 (fun e he hea hn=>c1 e he (by rw [hn];simpa using hea))
 ·obtain ⟨u,hu,rfl⟩:=l4 x hx;obtain ⟨v,hv,rfl⟩:=l4 y hy;obtain ⟨t,ht,rfl⟩:=l4 z hz;exact ⟨u,v,t,hu,hv,ht,n1,n2,n3⟩
theorem Good.arcs (g:Good K L) (h:zFX L=Q) (hA:zXf L) {a b u u' v v':Nat} (hp:isP (la L a)=Q) (hd:dwn L a=Q) (hpb:isP (la L b)=Q) (hdb:dwn L b=Q) (hab:a≠b)
  (hu:(u=atN L a∧u'=atN L (a+1))∨(u=atN L (a+1)∧u'=atN L a)) (hv:(v=atN L b∧v'=atN L (b+1))∨(v=atN L (b+1)∧v'=atN L b)):¬(u < v∧v < u'∧u' < v'):=by
 rintro ⟨o1,o2,o3⟩;obtain ⟨bB,hp2⟩:=hA a (zBA hp) hp hd;obtain ⟨aj,uT⟩:=hA b (zBA hpb) hpb hdb;have ip:dwn L (a+1)=E:=by rw [zPe hp,hd];rfl
 have Ah:dwn L (b+1)=E:=by rw [zPe hpb,hdb];rfl
 obtain ⟨X,hX,hf,x,y,z,hx,hy,hz,n1,n2,n3⟩:=g.colorA h hp hp2;have hm:=g.m_pos;have hxa:∀{t:Nat},t < (axL L).length→xat (axL L) t=a→t=atN L a:=fun ht e=>by rw [←e,g.at_xat ht]
 have zn:∀{t:Nat},t < (axL L).length→xat (axL L) t=a+1→t=atN L (a+1):=fun ht e=>by rw [←e,g.at_xat ht]
 have la1:=g.at_lt hp;have la2:=g.at_lt hp2;have lb1:=g.at_lt hpb;have lb2:=g.at_lt uT;have hne:∀{t:Nat},t < (axL L).length→t≠u→t≠u'→xat (axL L) t≠a∧xat (axL L) t≠a+1:=fun ht h1 h2 =>
  ⟨fun e=>by have:=hxa ht e;rcases hu with ⟨e1,e2⟩ | ⟨e1,e2⟩<;>omega,fun e=>by have:=zn ht e;rcases hu with ⟨e1,e2⟩ | ⟨e1,e2⟩<;>omega⟩
 have lv':v' < (axL L).length:=by rcases hv with ⟨e1,e2⟩ | ⟨e1,e2⟩<;>omega
 -- the colors between u and u', and behind u'
 have r1:=g.runA hX hf bB (i:=u) (j:=v) (by omega) (by omega) (fun t h1 h2=>hne (by omega) (by omega) (by omega));have r2:=g.runA hX hf bB (i:=u') (j:=v') (by omega) (by omega) (fun t h1 h2=>hne (by omega) (by omega) (by omega))
 -- the other arc joins both
 have rv:X (2*L.length+2*v+1)=X (2*L.length+2*v'+1):=by
  have hfb:=hf b (by omega) (fun e=>hab e.symm);have e1:=g.p4A hX (j:=atN L b) lb1;have e2:=g.p4A hX (j:=atN L (b+1)) lb2;rw [g.xat_at hpb] at e1;rw [g.xat_at uT] at e2;unfold rgE at e1 e2;rw [hdb,if_pos rfl] at e1;rw [Ah,if_neg (by simp),zCy aj (by omega),Nat.add_sub_cancel] at e2;rcases hv with ⟨h1,h2⟩ | ⟨h1,h2⟩
  ·rw [h1,h2,e1,e2,hfb]
  ·rw [h1,h2,e1,e2,hfb]
 -- so the two sides of the first arc are of one color
 have wt:=g.p4A hX (j:=atN L a) la1;have wn:=g.p4A hX (j:=atN L (a+1)) la2;rw [g.xat_at hp] at wt;rw [g.xat_at hp2] at wn;unfold rgE at wt wn;rw [hd,if_pos rfl] at wt;rw [ip,if_neg (by simp),zCy bB (by omega),Nat.add_sub_cancel] at wn;have hsame:X (2*a)=X (2*a+1):=by
  rcases hu with ⟨h1,h2⟩ | ⟨h1,h2⟩
  ·rw [←wt,←wn,←h1,←h2,r1,rv,←r2]
  ·rw [←wt,←wn,←h1,←h2,r2,←rv,←r1]
 have hall:∀e,e < L.length→X (2*e)=X (2*e+1):=fun e he=>by
  by_cases h:e=a
  ·rw [h];exact hsame
  ·exact hf e he h
 -- all pieces below are of one color
 have hpc:∀j,j < (axL L).length→X (2*L.length+2*j+1)=X (2*loE L (xat (axL L) 0)):=fun j hj=>by
  rw [g.p4 hX hall hj];exact g.lo_const hX hall j hj
 have hed:=g.edges hX hall;have all:∀d,d < zAw L→X d=X (2*upE L (xat (axL L) 0))∨X d=X (2*loE L (xat (axL L) 0)):=by
  intro d hd;unfold zAw at hd;have hs:∀t,t < L.length→X (2*t)=X (2*upE L (xat (axL L) 0))∨X (2*t)=X (2*loE L (xat (axL L) 0)):=fun t ht=>by
   rw [hed t ht];split
   ·exact .inl rfl
   ·exact .inr rfl
  rcases Nat.lt_or_ge d (2*L.length) with hl | hl
  ·rcases Nat.mod_two_eq_zero_or_one d with h2 | h2
   ·have:=hs (d / 2) (by omega)
    rwa [show 2*(d / 2)=d by omega] at this
   ·have:=hs (d / 2) (by omega);rw [hall _ (by omega)] at this
    rwa [show 2*(d / 2)+1=d by omega] at this
  ·rcases Nat.mod_two_eq_zero_or_one d with h2 | h2
   ·have:=g.p3 hX hall (j:=(d-2*L.length) / 2) (by omega);rw [show 2*L.length+2*((d-2*L.length) / 2)=d by omega] at this;rw [this];exact .inl (g.up_const hX hall _ (Nat.mod_lt _ hm))
   ·have:=hpc ((d-2*L.length) / 2) (by omega);rw [show 2*L.length+2*((d-2*L.length) / 2)+1=d by omega] at this;exact .inr this
 have a1:=all x hx;have a2:=all y hy;have a3:=all z hz;rcases a1 with a1 | a1<;>rcases a2 with a2 | a2<;>rcases a3 with a3 | a3
 all_goals first
  | exact n1 (a1.trans a2.symm)
  | exact n2 (a1.trans a3.symm)
  | exact n3 (a2.trans a3.symm)
end
end Go.Proofs.YtlmdfmnbcndhoaaGreatDoor
namespace Go.Proofs.YtlmdfmnbcndhoaaGreatDoor
open Go.RowKit
theorem qH {p:Prop} (h:p):Hid p:=Lib.hid h
def Drawn (w w':World):Prop:=∃m,w'=w.drewN m
theorem Drawn.refl (w:World):Drawn w w:=⟨0,rfl⟩
theorem zPg (w:World) (m:Nat):Drawn w (w.drewN m):=⟨m,rfl⟩
theorem zAf {B:Nat} {a w:World} (h:Below B a w) (n:Nat):Below B a (w.drewN n):=⟨h.os,h.tape,h.output,h.size,h.block⟩
theorem zAa {B C:Nat} {a b c:World} (h:Below B a b) (k:Below C b c) (hB:B≤C):Below B a c:=h.trans (k.mono hB)
theorem zCO (a:Addr) (n:Nat):(a.add n).block=a.block:=by unfold Addr.add;split<;>rfl
theorem zNN (a:Addr) (i j:Nat):(a.add i).add j=a.add (i+j):=by
 unfold Addr.add;by_cases hi:i=0<;>by_cases hj:j=0<;>simp [hi,hj,Nat.add_assoc]
def I64 (x:Int):Prop:=-9223372036854775808≤x∧x≤9223372036854775807
def Ints (w:World) (A:Option Addr) (n:Nat) (L:List Int):Prop :=
 L.length=n∧n≤17592186044416∧(∀x∈L,I64 x) ∧
 (0 < n→∃ad,A=Z ad∧ad.block < w.heap.size∧∀j x,L[j]? = Z x→w.cell? (ad.add j)=Z (D J x))
theorem Ints.len {w:World} {A:Option Addr} {n:Nat} {L:List Int} (h:Ints w A n L):L.length=n:=h.1
theorem Ints.le {w:World} {A:Option Addr} {n:Nat} {L:List Int} (h:Ints w A n L):n≤17592186044416:=h.2.1
theorem Ints.fits {w:World} {A:Option Addr} {n:Nat} {L:List Int} (h:Ints w A n L):∀x∈L,I64 x:=h.2.2.1
theorem Ints.at_ {w:World} {A:Option Addr} {n k:Nat} {L:List Int} (h:Ints w A n L) (hk:k < n) :
  ∃ad x,A=Z ad∧Hid (L[k]? = Z x)∧-9223372036854775808≤x∧x≤9223372036854775807∧w.cell? (ad.add k)=Z (D J x):=by
 obtain ⟨hl,_,hf,hc⟩:=h;obtain ⟨ad,e,_,hcell⟩:=hc (by omega);have hkl:k < L.length:=by omega
 have hx:L[k]? = Z L[k]:=List.getElem?_eq_getElem hkl;have:=hf L[k] (List.getElem_mem hkl);exact ⟨ad,L[k],e,hx,this.1,this.2,hcell k _ hx⟩
theorem Ints.keep {w w':World} {A:Option Addr} {n:Nat} {L:List Int} (h:Ints w A n L) (hs:w.heap.size≤w'.heap.size)
  (hk:∀p:Addr,p.block < w.heap.size→w'.cell? p=w.cell? p):Ints w' A n L :=
 ⟨h.1,h.2.1,h.2.2.1,fun hn=>by
  obtain ⟨ad,e,hb,hc⟩:=h.2.2.2 hn
  exact ⟨ad,e,by omega,fun j x hx=>(hk _ (by rw [zCO];exact hb)).trans (hc j x hx)⟩⟩
theorem Ints.below {w w':World} {A:Option Addr} {n:Nat} {L:List Int} (h:Ints w A n L) (hb:Below w.heap.size w w'):Ints w' A n L :=
 h.keep hb.size fun _ hp=>hb.cell hp
theorem Ints.alloc {w:World} {A:Option Addr} {n:Nat} {L:List Int} (h:Ints w A n L) (o:Obj):Ints (w.alloc o) A n L :=
 h.below ((Below.refl _ _).alloc (Nat.le_refl _) o)
theorem zAj {a b:Bool} (h:a=b):Ending.returned (G a)=.returned (G b):=by rw [h]
theorem zAp {k:IntKind} {a b:Int} (h:a=b):Ending.returned (D k a)=.returned (D k b):=by rw [h]
end Go.Proofs.YtlmdfmnbcndhoaaGreatDoor
namespace Go.Proofs.YtlmdfmnbcndhoaaGreatDoor
open Go.RowKit
structure Fg where
 p:Int
 r:Bool
 d:Int
instance : DecidableEq Fg := fun a b =>
 if h:a.p=b.p∧a.r=b.r∧a.d=b.d then .isTrue (by cases a;cases b;simp at h;simp [h])
 else .isFalse (fun e=>h (by subst e;simp))
def fgB (x y:Fg):Bool:=x.p==y.p&&x.r==y.r&&x.d==y.d
theorem zLt {x y:Fg}:fgB x y=Q↔x=y:=by
 cases x;cases y
 simp [fgB,and_assoc]
theorem zMK (x:Fg):fgB x x=Q:=zLt.2 rfl
def df:Fg:=⟨0,E,0⟩
def fa (L:List Fg) (i:Nat):Fg:=(L[i]?).getD df
theorem zXq {L:List Fg} {i:Nat} {x:Fg} (h:L[i]? = Z x):fa L i=x:=by unfold fa;rw [h];rfl
theorem zML {L:List Fg} {i:Nat} (h:i < L.length):L[i]? = Z (fa L i):=by unfold fa;rw [List.getElem?_eq_getElem h];rfl
def zBa:List Fg→Fg→Nat
 | [],_=>0
 | x :: L,f=>if x=f then 1 else if zBa L f=0 then 0 else zBa L f+1
theorem zFf {f:Fg}:∀{L:List Fg},(∀j:Nat,L[j]?≠Z f)→zBa L f=0
 | [],_=>rfl
 | x :: L,h=>by
  have h0:x≠f:=fun e=>h 0 (by rw [e];rfl)
  have h1:zBa L f=0:=zFf fun j e=>h (j+1) (by simpa using e)
  rw [zBa,if_neg h0,if_pos h1]
theorem zHw {f:Fg}:∀{L:List Fg} {i:Nat},L[i]? = Z f→(∀j,j < i→L[j]?≠Z f)→zBa L f=i+1
 | [],i,h,_=>by simp at h
 | x :: L,0,h,_=>by
  have:x=f:=by simpa using h
  rw [zBa,if_pos this]
 | x :: L,i+1,h,hj=>by
  have h0:x≠f:=fun e=>hj 0 (by omega) (by rw [e];rfl)
  have h1:zBa L f=i+1:=zHw (by simpa using h) fun j hji e=>hj (j+1) (by omega) (by simpa using e)
  rw [zBa,if_neg h0,h1,if_neg (by omega)]
theorem zJc {f:Fg}:∀{L:List Fg} {i:Nat},zBa L f=i+1→L[i]? = Z f∧∀j,j < i→L[j]?≠Z f
 | [],i,h=>by simp [zBa] at h
 | x :: L,i,h=>by
  rw [zBa] at h;by_cases h0:x=f
  ·rw [if_pos h0] at h;obtain rfl:i=0:=by omega
   exact ⟨by rw [h0];rfl,fun j hj=>by omega⟩
  ·rw [if_neg h0] at h;by_cases h1:zBa L f=0
   ·rw [if_pos h1] at h;omega
   ·rw [if_neg h1] at h;obtain ⟨k,rfl⟩:∃k,i=k+1:=⟨i-1,by omega⟩
    obtain ⟨h2,h3⟩:=zJc (L:=L) (i:=k) (f:=f) (by omega);refine ⟨by simpa using h2,fun j hj=>?_⟩;rcases j with _ | j
    ·intro e;exact h0 (by simpa using e)
    ·intro e;exact h3 j (by omega) (by simpa using e)
theorem zPh {f:Fg} {L:List Fg} (h:zBa L f=0):∀j:Nat,L[j]?≠Z f:=by
 intro j e;have hx:∃i:Nat,L[i]? = Z f∧∀j:Nat,j < i→L[j]?≠Z f:=by
  induction j using Nat.strongRecOn with
  | _ j ih =>
   by_cases hm:∃k:Nat,k < j∧L[k]? = Z f
   ·obtain ⟨k,hk,hkf⟩:=hm;exact ih k hk hkf
   ·exact ⟨j,e,fun k hk e2=>hm ⟨k,hk,e2⟩⟩
 obtain ⟨i,h1,h2⟩:=hx;have:=zHw h1 h2;omega
theorem zEL {f:Fg} {L:List Fg}:zBa L f≤L.length:=by
 cases h:zBa L f with
 | zero=>omega
 | succ i=>have:=(List.getElem?_eq_some_iff.1 (zJc h).1).1;omega
theorem zPi {L:List Fg} {i:Nat} (hi:i < L.length):zBa (L.take i) (fa L i)=0↔zBa L (fa L i)=i+1:=by
 constructor
 ·intro h;refine zHw (zML hi) fun j hj e=>?_
  have:=zPh h j;rw [List.getElem?_take_of_lt hj] at this;exact this e
 ·intro h;refine zFf fun j e=>?_
  rw [List.getElem?_take] at e;split at e
  ·rename_i hj;exact (zJc h).2 j hj e
  ·cases e
def zAx (f:Fg):Bool:=decide (1≤f.p)&&decide (f.p≤9)&&decide (0≤f.d)&&decide (f.d≤6)
theorem zAP {f:Fg}:zAx f=Q↔1≤f.p∧f.p≤9∧0≤f.d∧f.d≤6:=by simp [zAx,and_assoc]
def zFg (L:List Fg) (i:Nat):Bool:=zAx (fa L i)&&decide (zBa (L.take i) (fa L i)=0)
def frOk (L:List Fg) (re lo:Int):Prop:=L.length≤40∧0≤re∧re≤40∧1≤lo∧lo≤20∧∀i,i < L.length→zFg L i=Q
def frB (L:List Fg) (re lo:Int):Bool :=
 decide (L.length≤40)&&decide (0≤re)&&decide (re≤40)&&decide (1≤lo)&&decide (lo≤20)&&(List.range L.length).all fun i=>zFg L i
theorem zCz {L:List Fg} {re lo:Int}:frB L re lo=Q↔frOk L re lo:=by simp [frB,frOk,and_assoc]
theorem frOk.there {L:List Fg} {re lo:Int} (h:frOk L re lo) {i:Nat} (hi:i < L.length):zAx (fa L i)=Q:=by
 have:=h.2.2.2.2.2 i hi;unfold zFg at this;simp only [Bool.and_eq_true] at this;exact this.1
def zAq (f:Fg):List UInt8:=(if f.p=1 then [] else Lib.itoa f.p)++(if f.r then 82 else 76) :: Lib.itoa f.d
end Go.Proofs.YtlmdfmnbcndhoaaGreatDoor
namespace Go.Proofs.YtlmdfmnbcndhoaaGreatDoor
open Go.RowKit
theorem zLu:(Tryz.prog.info? 3).map (fun i=>(i.zero,i.size,i.bytes))=Z (Z (D J 0),1,8):=by kernel_rfl
structure Own (w:World) (base:Nat) (A:Option Addr) (n c:Nat) (L:List Int):Prop where
 row:w.ownsRow base 3 1 (H A n c) n (L.map (Value.int J))
 len:L.length=n
 le:n≤17592186044416
 fits:∀x∈L,I64 x
def blk:Option Addr→Option Nat
 | some a=>Z a.block
 | none=>U
theorem zGa (A:Option Addr) (n c:Nat):Value.ownBlock (H A n c)=blk A:=by cases A<;>rfl
section
variable {w w':World} {base:Nat} {A:Option Addr} {n c:Nat} {L:List Int}
theorem Own.nil (w:World) (base:Nat):Own w base U 0 0 []:=⟨World.ownsRow_nil _ _ _ _,rfl,by omega,by simp⟩
theorem Own.ints (h:Own w base A n c L):Ints w A n L:=by
 refine ⟨h.len,h.le,h.fits,fun hn=>?_⟩;obtain ⟨g,cap,hv,_,hlt⟩:=h.row.form hn;have hA:A=Z ⟨g,0,U⟩:=by injection hv
 subst hA;refine ⟨_,rfl,hlt,fun j x hx=>?_⟩;exact h.row.cells (g:=g) rfl j _ (by rw [List.getElem?_map,hx];rfl)
theorem Own.alloc (h:Own w base A n c L) (o:Obj):Own (w.alloc o) base A n c L:=⟨h.row.alloc o,h.len,h.le,h.fits⟩
theorem Own.drew (h:Own w base A n c L):Own w.drew base A n c L:=⟨h.row,h.len,h.le,h.fits⟩
theorem Own.lt (h:Own w base A n c L):∀k,blk A=Z k→base≤k∧k < w.heap.size:=fun k hk=>h.row.lt k (by rw [zGa];exact hk)
theorem Own.kept {row:Option Nat} (h:Own w base A n c L) (hg:w.grownBy w' row) (hne:blk A=U∨blk A≠row):Own w' base A n c L :=
 ⟨h.row.kept hg (by rw [zGa];exact hne),h.len,h.le,h.fits⟩
theorem Own.below (h:Own w base A n c L) (hb:Below w.heap.size w w'):Own w' base A n c L:=by
 refine h.kept (row:=U) ⟨hb.os,hb.tape,hb.output,hb.size,fun k hk _=>hb.block k hk⟩ ?_
 cases blk A
 ·exact .inl rfl
 ·exact .inr (by simp)
theorem Own.mono {base':Nat} (h:Own w base A n c L) (hb:base'≤base):Own w base' A n c L:=by
 refine ⟨⟨h.row.1,?_⟩,h.len,h.le,h.fits⟩;rcases h.row.2 with h1 | ⟨g,cap,cur,hv,hg,r⟩
 ·exact .inl h1
 ·exact .inr ⟨g,cap,cur,hv,by omega,r⟩
theorem Own.cap (h:Own w base A n c L):n≤c:=by
 rcases h.row.2 with ⟨h1,h2⟩ | ⟨g,cap,cur,hv,_,_,h2,_⟩
 ·omega
 ·injection hv with _ _ h3;omega
end
theorem app1 {w:World} {ops:Array Oper} {rest:List Oper} {o:Oper} {a:Act} {ZS:Exit→Act→World→Prop} (hgd:o.guard=U) (s x:Operand)
  (ho:o.op=.call { callee:=.builtin .append,args:=#[s,x],argTypes:=#[79,79] })
  {base:Nat} {A:Option Addr} {n c:Nat} {L:List Int} (hown:Own w base A n c L) (y:Int) (hs:a.eval s=H A n c)
  {ad:Addr} {cc:Nat} (hx:a.eval x=H (Z ad) 1 cc) (hcell:w.cell? ad=Z (D J y)) (hy:I64 y) (hn:n < 17592186044416) (hbase:base≤w.heap.size)
  (h:∀A' c' w',Own w' base A' (n+1) c' (L++[y])→Below base w w'→w.grownBy w' (blk A)→(blk A'=blk A∨blk A'=Z w.heap.size)→wpList Tryz.prog ops ZS rest (a.put o.dst (H A' (n+1) c')) w') :
  wpList Tryz.prog ops ZS (o :: rest) a w:=by
 obtain ⟨i0,hi,aQ,az,bi⟩:=info_parts zLu;have hnews:∀j u,([Value.int J y]:List Value)[j]? = Z u→w.cell? (ad.add j)=Z u:=by
  intro j u hj
  match j,hj with
  | 0,hj=>simp at hj;subst hj;simpa [Addr.add] using hcell
 refine wpList_append_lies w hgd s x 79 ho base 3 i0 (D J 0) 1 8 Tryz.underlying79 hi aQ az bi rfl (by decide) (H A n c) n _ hs hown.row ad 1 cc [D J y] hx rfl hnews
  (by intro u hu;simp at hu;subst hu;rfl) (by decide) (by unfold maxLen;omega) (by omega) hbase w.heap.size rfl ?_
 intro g cap w' h1 h2 h3 h4;rw [zGa] at h2 h3;refine h _ _ _ ⟨by simpa using h1,by simp [hown.len],by omega,?_⟩ ((Below.refl _ _).grown h2 hbase (fun k hk=>(hown.lt k hk).1)) h2 ?_
 ·intro z hz;rcases List.mem_append.1 hz with hz | hz
  ·exact hown.fits z hz
  ·simp at hz;subst hz;exact hy
 ·rcases h3 with h3 | h3
  ·exact .inl (by rw [h3];rfl)
  ·exact .inr (by rw [←h3];rfl)
theorem zXr {w:World} {ops:Array Oper} {rest:List Oper} {o:Oper} {a:Act} {ZS:Exit→Act→World→Prop} (hgd:o.guard=U) (s x:Operand)
  (ho:o.op=.call { callee:=.builtin .append,args:=#[s,x],argTypes:=#[79,79] })
  {base:Nat} {A:Option Addr} {n c:Nat} {L:List Int} (hown:Own w base A n c L) (y:Int) (hs:a.eval s=H A n c)
  (hx:a.eval x=H (Z ⟨w.heap.size,0,U⟩) 1 1) (hy:I64 y) (hn:n < 17592186044416) (hbase:base≤w.heap.size)
  (h:∀A' c' w',Own w' base A' (n+1) c' (L++[y])→Below base w w'→(w.alloc (.cells #[D J y] 3)).grownBy w' (blk A)→(blk A'=blk A∨blk A'=Z (w.heap.size+1))→wpList Tryz.prog ops ZS rest (a.put o.dst (H A' (n+1) c')) w') :
  wpList Tryz.prog ops ZS (o :: rest) a (w.alloc (.cells #[D J y] 3)) :=
 app1 hgd s x ho (hown.alloc _) y hs hx (by rw [World.cell?_alloc_at _ _ _ _ rfl];rfl) hy hn (by simp;omega) fun A' c' w' h1 h2 h3 h4 =>
  h A' c' w' h1 (((Below.refl _ _).alloc hbase _).trans h2) h3 (by simpa using h4)
theorem zXs {w:World} {ops:Array Oper} {rest:List Oper} {o:Oper} {a:Act} {ZS:Exit→Act→World→Prop} (hgd:o.guard=U) (s x:Operand)
  (ho:o.op=.call { callee:=.builtin .append,args:=#[s,x],argTypes:=#[79,79] })
  {base:Nat} {A:Option Addr} {n c:Nat} {L:List Int} (hown:Own w base A n c L) (y:Int) (hs:a.eval s=H A n c)
  (ZW:Nat) (hH:w.heap.size=ZW) (hx:a.eval x=H (Z ⟨ZW,0,U⟩) 1 1) (hy:I64 y) (hn:n < 17592186044416) (hbase:base≤w.heap.size)
  (h:∀A' c' w',Own w' base A' (n+1) c' (L++[y])→Below base w w'→(w.alloc (.cells #[D J y] 3)).grownBy w' (blk A)→(blk A'=blk A∨blk A'=Z (w.heap.size+1))→wpList Tryz.prog ops ZS rest (a.put o.dst (H A' (n+1) c')) w') :
  wpList Tryz.prog ops ZS (o :: rest) a (w.alloc (.cells #[D J y] 3)) :=
 zXr hgd s x ho hown y hs (by rw [hH];exact hx) hy hn hbase h
theorem zGb {P:Program} (w:World) (base:Nat) (t ty e:TypeId) (i:TypeInfo) (size:Nat) (ht:P.underlying t=Z (.slice e)) (hi:P.info? e=Z i)
  (v:Value) (n:Nat) (xs:List Value) (hown:w.ownsRow base e size v n xs) (c:Nat):(Builtin.append_ #[t,t] ty #[v,H U 0 c]).run P w=.ok v w:=by
 rcases hown.2 with ⟨rfl,rfl⟩ | ⟨g,cap,cur,rfl,_,_,hnc,_⟩
 ·simp [Builtin.append_,run_underlying ht,sizeOf,typeInfo,hi,Builtin.lenOf,Builtin.firstCells]
 ·simp [Builtin.append_,run_underlying ht,sizeOf,typeInfo,hi,Builtin.lenOf,Builtin.firstCells,hnc,storeCells]
theorem zRB {w:World} {base:Nat} {A:Option Addr} {n c:Nat} {L:List Int} (hown:Own w base A n c L) {B:Option Addr} {m d:Nat} {M:List Int} (hB:Ints w B m M)
  (hn:n+m≤17592186044416) (hbase:base≤w.heap.size) :
  ∃A' c' w',(Builtin.append_ #[79,79] 79 #[H A n c,H B m d]).run Tryz.prog w=.ok (H A' (n+m) c') w'∧Own w' base A' (n+m) c' (L++M)∧Below base w w'∧w.grownBy w' (blk A)∧(blk A'=blk A∨blk A'=Z w.heap.size):=by
 obtain ⟨i0,hi,aQ,az,bi⟩:=info_parts zLu;have hfit:∀x∈L++M,I64 x:=fun z hz=>(List.mem_append.1 hz).elim (hown.fits z) (hB.fits z)
 have hlen:(L++M).length=n+m:=by rw [List.length_append,hown.len,hB.len]
 rcases B with _ | ad
 ·have hm:m=0:=by
   rcases Nat.eq_zero_or_pos m with h0 | h0
   ·exact h0
   ·obtain ⟨ad,h,_⟩:=hB.2.2.2 h0
    cases h
  subst hm;have hM:M=[]:=List.eq_nil_of_length_eq_zero hB.len;subst hM;exact ⟨A,c,w,zGb w base _ _ _ i0 1 Tryz.underlying79 hi _ n _ hown.row d,by simpa using hown,Below.refl _ _,World.grownBy.refl w _,.inl rfl⟩
 ·have hcells:∀j u,(M.map (Value.int J))[j]? = Z u→w.cell? (ad.add j)=Z u:=by
   intro j u hu;rw [List.getElem?_map] at hu;obtain ⟨x,hx,rfl⟩:=Option.map_eq_some_iff.1 hu;have hjm:j < M.length:=(List.getElem?_eq_some_iff.1 hx).1;have hpos:0 < m:=by have:=hB.len;omega
   obtain ⟨ad',h,_,hc⟩:=hB.2.2.2 hpos;obtain rfl:=Option.some.inj h;exact hc j x hx
  obtain ⟨v',w',hrun,h2,h3,h4,h5⟩:=run_append_own_at (P:=Tryz.prog) w base 79 79 3 i0 (D J 0) 1 8 Tryz.underlying79 hi aQ az bi rfl (by decide) _ n _ hown.row ad m d (M.map (Value.int J)) (by simp [hB.len]) hcells
   (ints_oneCell _ _) (by unfold maxLen;omega) (by omega) hbase
  have hform:∃A' c',v'=H A' (n+m) c':=by
   rcases h2.2 with ⟨hv,hz⟩ | ⟨g,cap,cur,hv,_⟩
   ·rw [hz];exact ⟨U,0,hv⟩
   ·exact ⟨_,_,hv⟩
  obtain ⟨A',c',rfl⟩:=hform;rw [zGa] at h3;simp only [zGa] at h5;exact ⟨A',c',w',hrun,⟨by simpa using h2,hlen,hn,hfit⟩,(Below.refl _ _).grown h3 hbase (fun k hk=>(hown.lt k hk).1),h3,h5⟩
theorem zTS {w:World} {o:Oper} {a:Act} {K:Act→World→Prop} {ZS:Exit→Act→World→Prop} (s x:Operand)
  (ho:o.op=.call { callee:=.builtin .append,args:=#[s,x],argTypes:=#[79,79] }) (hty:o.type=79)
  {base:Nat} {A:Option Addr} {n c:Nat} {L:List Int} (hown:Own w base A n c L) {B:Option Addr} {m d:Nat} {M:List Int} (hB:Ints w B m M) (hs:a.eval s=H A n c)
  (hx:a.eval x=H B m d) (N:Nat) (hN:n+m=N) (hn:N≤17592186044416) (hbase:base≤w.heap.size)
  (h:∀A' c' w',Own w' base A' N c' (L++M)→Below base w w'→w.grownBy w' (blk A)→(blk A'=blk A∨blk A'=Z w.heap.size)→K (a.put o.dst (H A' N c')) w') :
  o.wp Tryz.prog a w K ZS:=by
 subst hN;obtain ⟨A',c',w',hrun,h1,h2,h3,h4⟩:=zRB (d:=d) hown hB hn hbase;unfold Oper.wp execOp;simp only [ho,hty,resolve,invoke,builtin,Sem.run_bind,Sem.run_pure,Result.andThen_ok,List.map_toArray,List.map_cons,List.map_nil,hs,hx,hrun];exact h A' c' w' h1 h2 h3 h4
theorem zXt {w:World} {ops:Array Oper} {o:Oper} {a:Act} {K:Act→World→Prop} {ZS:Exit→Act→World→Prop} {ZT:Prop} (hgd:o.guard=U) (s x:Operand)
  (ho:o.op=.call { callee:=.builtin .append,args:=#[s,x],argTypes:=#[79,79] }) (hty:o.type=79)
  {base:Nat} {A:Option Addr} {n c:Nat} {L:List Int} (hown:Own w base A n c L) {B:Option Addr} {m d:Nat} {M:List Int} (hB:Ints w B m M) (hs:a.eval s=H A n c)
  (hx:a.eval x=H B m d) (N:Nat) (hN:n+m=N) (hn:N≤17592186044416) (hbase:base≤w.heap.size)
  (h:∀A' c' w',Own w' base A' N c' (L++M)→Below base w w'→w.grownBy w' (blk A)→(blk A'=blk A∨blk A'=Z w.heap.size)→K (a.put o.dst (H A' N c')) w') :
  if Region.wanted o (yielded ops a.tmps)=Q then Oper.wp Tryz.prog o a w K ZS else ZT:=by
 have hw:Region.wanted o (yielded ops a.tmps)=Q:=by simp [Region.wanted,hgd]
 rw [if_pos hw];exact zTS s x ho hty hown hB hs hx N hN hn hbase h
theorem Ints.cut {w:World} {A:Option Addr} {n i j c:Nat} {L:List Int} (h:Ints w A n L) (hij:i≤j) (hj:j≤n) (hc:n≤c) :
  Ints w (if c=i then A else A.map (·.add i)) (j-i) ((L.take j).drop i):=by
 have hl:=h.len;refine ⟨by simp [hl];omega,by have:=h.le;omega,fun x hx=>h.fits x (List.mem_of_mem_take (List.mem_of_mem_drop hx)),fun hn=>?_⟩;obtain ⟨ad,rfl,hb,hcell⟩:=h.2.2.2 (by omega);rw [if_neg (by omega)];refine ⟨ad.add i,rfl,by rw [zCO];exact hb,fun t x hx=>?_⟩;rw [zNN];rw [List.getElem?_drop,List.getElem?_take] at hx;split at hx
 ·exact hcell _ x hx
 ·cases hx
theorem Ints.from {w:World} {A:Option Addr} {n i c:Nat} {L:List Int} (h:Ints w A n L) (hi:i≤n) (hc:n≤c) :
  Ints w (if c=i then A else A.map (·.add i)) (n-i) (L.drop i):=by
 have:=h.cut (i:=i) (j:=n) hi (Nat.le_refl _) hc
 rwa [List.take_of_length_le (by rw [h.len];exact Nat.le_refl _)] at this
theorem Ints.to {w:World} {A:Option Addr} {n i:Nat} {L:List Int} (h:Ints w A n L) (hi:i≤n):Ints w A i (L.take i):=by
 refine ⟨by simp [h.len];omega,by have:=h.le;omega,fun x hx=>h.fits x (List.mem_of_mem_take hx),fun hn=>?_⟩;obtain ⟨ad,rfl,hb,hcell⟩:=h.2.2.2 (by omega);refine ⟨ad,rfl,hb,fun t x hx=>hcell t x ?_⟩;rw [List.getElem?_take] at hx;split at hx
 ·exact hx
 ·cases hx
end Go.Proofs.YtlmdfmnbcndhoaaGreatDoor
namespace Go.Proofs.YtlmdfmnbcndhoaaGreatDoor
open Go.RowKit
structure LtOk (l:Lt):Prop where
 kind:I64 l.kind
 gate:I64 l.gate
 rank:I64 l.rank
 id:I64 l.id
 sign:I64 l.sign
structure LtAt (w:World) (g p:Nat) (l:Lt):Prop where
 kind:w.cell? ⟨g,p,U⟩=Z (D J l.kind)
 gate:w.cell? ⟨g,p+1,U⟩=Z (D J l.gate)
 rank:w.cell? ⟨g,p+2,U⟩=Z (D J l.rank)
 id:w.cell? ⟨g,p+3,U⟩=Z (D J l.id)
 sign:w.cell? ⟨g,p+4,U⟩=Z (D J l.sign)
 over:w.cell? ⟨g,p+5,U⟩=Z (G l.over)
def Lets (w:World) (A:Option Addr) (n:Nat) (L:List Lt):Prop :=
 L.length=n∧n≤2932031007402∧(∀x∈L,LtOk x) ∧
 (0 < n→∃g o,A=Z ⟨g,o,U⟩∧g < w.heap.size∧∀j x,L[j]? = Z x→LtAt w g (o+j*6) x)
theorem LtAt.keep {w w':World} {g p:Nat} {l:Lt} (h:LtAt w g p l) (hk:∀q:Addr,q.block=g→w'.cell? q=w.cell? q):LtAt w' g p l :=
 ⟨(hk _ rfl).trans h.kind,(hk _ rfl).trans h.gate,(hk _ rfl).trans h.rank,(hk _ rfl).trans h.id,(hk _ rfl).trans h.sign,(hk _ rfl).trans h.over⟩
section
variable {w w':World} {A:Option Addr} {n:Nat} {L:List Lt}
theorem Lets.len (h:Lets w A n L):L.length=n:=h.1
theorem Lets.le (h:Lets w A n L):n≤2932031007402:=h.2.1
theorem Lets.fits (h:Lets w A n L):∀x∈L,LtOk x:=h.2.2.1
theorem Lets.nil (w:World) (A:Option Addr):Lets w A 0 []:=⟨rfl,by omega,by simp,fun h=>absurd h (by omega)⟩
theorem Lets.at_ {k:Nat} (h:Lets w A n L) (hk:k < n):∃g o,A=Z ⟨g,o,U⟩∧g < w.heap.size∧LtAt w g (o+k*6) (la L k)∧LtOk (la L k):=by
 obtain ⟨hl,_,hf,hc⟩:=h;obtain ⟨g,o,e,hb,hcell⟩:=hc (by omega);have hx:L[k]? = Z L[k]:=List.getElem?_eq_getElem (by omega);rw [zRx hx];exact ⟨g,o,e,hb,hcell k _ hx,hf _ (List.getElem_mem (by omega))⟩
theorem Lets.also {g o k:Nat} (h:Lets w (Z ⟨g,o,U⟩) n L) (hk:k < n):LtAt w g (o+k*6) (la L k)∧LtOk (la L k):=by
 obtain ⟨g',o',e,_,h1,h2⟩:=h.at_ hk;injection e with e
 injection e with e1 e2
 subst e1;subst e2
 exact ⟨h1,h2⟩
theorem Lets.keep (h:Lets w A n L) (hs:w.heap.size≤w'.heap.size) (hk:∀p:Addr,p.block < w.heap.size→w'.cell? p=w.cell? p):Lets w' A n L :=
 ⟨h.1,h.2.1,h.2.2.1,fun hn=>by
  obtain ⟨g,o,e,hb,hc⟩:=h.2.2.2 hn
  exact ⟨g,o,e,by omega,fun j x hx=>(hc j x hx).keep fun q hq=>hk q (by rw [hq];exact hb)⟩⟩
theorem Lets.below (h:Lets w A n L) (hb:Below w.heap.size w w'):Lets w' A n L:=h.keep hb.size fun _ hp=>hb.cell hp
theorem Lets.alloc (h:Lets w A n L) (o:Obj):Lets (w.alloc o) A n L:=h.below ((Below.refl _ _).alloc (Nat.le_refl _) o)
end
theorem zGc {l:Lt} (h:l.kind=1):isP l=Q:=by unfold isP;simp [h]
theorem zGQ {l:Lt} (h:¬l.kind=1):isP l=E:=by unfold isP;simp [h]
theorem zKl {l:Lt} (h:l.kind=2):isC l=Q:=by unfold isC;simp [h]
theorem zKm {l:Lt} (h:¬l.kind=2):isC l=E:=by unfold isC;simp [h]
theorem zIm (L:List Lt) (k:Nat):pN L k≤k:=zBt _ _
theorem zJd (L:List Lt) (k:Nat):cN L k≤k:=zBt _ _
end Go.Proofs.YtlmdfmnbcndhoaaGreatDoor
