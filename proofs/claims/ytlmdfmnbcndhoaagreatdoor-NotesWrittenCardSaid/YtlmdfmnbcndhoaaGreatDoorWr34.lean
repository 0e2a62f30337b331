/-
  Plain: in a flat code whose strands below are arcs between neighbors, these arcs do not cross. No walk of the program.
  Contract: the program's loops. Conditions: the code's letters read; its passes are in gates from 0 on; those that go down are followed by a pass.
  Contract: the program's sequence. Conditions: the frame and the code's letters read; the code is posed in the frame; the library's tables stand.
-/
import Derived.Test.YtlmdfmnbcndhoaaGreatDoorWr32
import Derived.Test.YtlmdfmnbcndhoaaGreatDoorWr33
namespace Go.Proofs.YtlmdfmnbcndhoaaGreatDoor
/-- The passes that go down are followed by a pass. -/
def Arcs (L:List Lt):Prop:=∀i,i < L.length→isP (la L i)=true→dwn L i=true→i+1 < L.length∧isP (la L (i+1))=true
section
variable {K:Int} {L:List Lt} {a:Nat}
theorem zHl {v:Nat} (h:isP (la L v)=true) (hc:isC (la L v)=true):False:=by rw [zBc h] at hc;cases hc
theorem not_isP {v:Nat} (h:isC (la L v)=true):isP (la L v)=false:=by
 cases hq:isP (la L v) with
 | false=>rfl
 | true=>exact (zHl hq h).elim
theorem Good.fineA (g:Good K L) {X:Nat→Nat} (hX:Col L X) (hp:isP (la L a)=true) (hp2:isP (la L (a+1))=true) (hk:∀e,e < L.length→e≠a→nwB L (e+1)=false→X (2*e)=X (2*e+1)) :
  ∀e,e < L.length→e≠a→X (2*e)=X (2*e+1):=by
 have key:∀t e,e < L.length→e≠a→L.length-e=t→X (2*e)=X (2*e+1):=by
  intro t
  induction t using Nat.strongRecOn with
  | ind t ih =>
   intro e he hea ht
   cases hn:nwB L (e+1) with
   | false=>exact hk e he hea hn
   | true =>
    unfold nwB at hn
    simp only [Bool.and_eq_true,zAk] at hn
    obtain ⟨hc,hno⟩:=hn
    obtain ⟨h1,h2,h3,_,_,_⟩:=g.other hc
    have hi:=zAR hc
    have hj:=zAR h2
    have hlt:e+1 < othN L (e+1):=by
     rcases Nat.lt_trichotomy (othN L (e+1)) (e+1) with h | h | h
     ·have:=hno _ h
      rw [h2,h3] at this
      simp at this
     ·exact absurd h h1
     ·exact h
    have f1:=ih (L.length-(e+1)) (by omega) (e+1) hi (fun h=>zHl (by rw [h];exact hp) hc) rfl
    have f2:=ih (L.length-othN L (e+1)) (by omega) (othN L (e+1)) hj (fun h=>zHl (by rw [h];exact hp) h2) rfl
    have f3:=ih (L.length-(othN L (e+1)-1)) (by omega) (othN L (e+1)-1) (by omega) (fun h=>zHl (v:=othN L (e+1)) (by rw [show othN L (e+1)=a+1 by omega];exact hp2) h2) rfl
    have f:=g.four hX hc
    rw [show e+1-1=e by omega] at f
    rcases f with ⟨a,b,c,d⟩ | ⟨a,b,c,d⟩
    ·rw [a,f2,d,f1,b,←f3,c]
    ·rw [a,←f3,c,f1,b,f2,d]
 exact fun e he hea=>key _ e he hea rfl
variable {X:Nat→Nat}
/-- The colors of the axis' pieces above, and of the edges above. -/
theorem Good.p1A (g:Good K L) (hX:Col L X) (hf:∀e,e < L.length→e≠a→X (2*e)=X (2*e+1)) (hda:dwn L a=true) {v:Nat} (hp:isP (la L v)=true):X (2*L.length+2*atN L v)=X (2*upE L v):=by
 have hv:=zAH hp
 have hpv:=zCD hv
 cases hd:dwn L v with
 | true =>
  have e:=g.left_pass (d:=2*zBS L.length v) (by omega) (by rw [zBs hv];exact hp)
  rw [zBs hv,hd,if_pos (by simp)] at e
  have:=hX.step (2*zBS L.length v) (by unfold zAq;omega)
  rw [e] at this
  rw [this];unfold upE;rw [hd,if_pos rfl]
 | false =>
  have e:=g.left_pass (d:=2*v+1) (by omega) (by rw [zCa];exact hp)
  rw [zCa,hd,if_pos (by simp)] at e
  have:=hX.step (2*v+1) (by unfold zAq;omega)
  rw [e] at this
  rw [this,←hf v hv (fun h=>by rw [h,hda] at hd;cases hd)];unfold upE;rw [hd];simp
theorem prev_ne {v:Nat} (hv:v < L.length) (ha:a+1 < L.length) (hda:dwn L (a+1)=false) (hd:dwn L v=true):zBS L.length v≠a:=fun h=>by
 rcases Nat.eq_zero_or_pos v with h0 | h0
 ·subst h0
  unfold zBS at h
  rw [Nat.zero_add,Nat.mod_eq_of_lt (by omega)] at h
  omega
 ·rw [zCx hv h0] at h
  rw [show v=a+1 by omega,hda] at hd;cases hd
theorem Good.below (g:Good K L) (hA:Arcs L):∀e,e < L.length→dwn L (e+1)=false→isP (la L e)=true∧dwn L e=true:=by
 intro e
 induction e with
 | zero =>
  intro _ hd
  rw [dwnP g.first] at hd
  exact ⟨g.first,by simpa using hd⟩
 | succ e ih =>
  intro he hd
  rcases g.kinds (e+1) he with hp | hc
  ·rw [dwnP hp] at hd
   exact ⟨hp,by simpa using hd⟩
  ·rw [dwnC (not_isP hc)] at hd
   obtain ⟨h1,h2⟩:=ih (by omega) hd
   exact (zHl (hA e (by omega) h1 h2).2 hc).elim
/-- The two sides of a pass below. -/
def lfE (L:List Lt) (v:Nat):Nat:=if dwn L v then 2*v+1 else 2*zBS L.length v
def rgE (L:List Lt) (v:Nat):Nat:=if dwn L v then 2*v else 2*zBS L.length v+1
theorem Good.p2A (g:Good K L) (hX:Col L X) {v:Nat} (hp:isP (la L v)=true):X (2*L.length+2*((atN L v+(axL L).length-1) % (axL L).length)+1)=X (lfE L v):=by
 have hv:=zAH hp
 have hpv:=zCD hv
 unfold lfE
 cases hd:dwn L v with
 | true =>
  have e:=g.left_pass (d:=2*v+1) (by omega) (by rw [zCa];exact hp)
  rw [zCa,hd,if_neg (by simp)] at e
  have:=hX.step (2*v+1) (by unfold zAq;omega)
  rw [e] at this
  rw [this,if_pos rfl]
 | false =>
  have e:=g.left_pass (d:=2*zBS L.length v) (by omega) (by rw [zBs hv];exact hp)
  rw [zBs hv,hd,if_neg (by simp)] at e
  have:=hX.step (2*zBS L.length v) (by unfold zAq;omega)
  rw [e] at this
  rw [this];simp
theorem Good.p4A (_g:Good K L) (hX:Col L X) {j:Nat} (hj:j < (axL L).length):X (2*L.length+2*j+1)=X (rgE L (xat (axL L) j)):=by
 have ht:=zBp (L:=L) (j:=j) hj
 have hs:=hX.step (2*L.length+2*j+1) (by unfold zAq;omega)
 rw [←hs]
 unfold zAV
 rw [if_pos (by omega),if_neg (by omega),show (2*L.length+2*j+1-2*L.length) / 2=j by omega]
 generalize xat (axL L) j=v at ht ⊢
 unfold rgE
 cases hd:dwn L v with
 | true=>rw [if_pos rfl,zHj]
 | false=>rw [zHi];simp
/-- Along the axis below the color changes at the arc's ends alone. -/
theorem Good.stepA (g:Good K L) (hX:Col L X) {j:Nat} (hj:j+1 < (axL L).length):X (2*L.length+2*j+1)=X (lfE L (xat (axL L) (j+1))):=by
 have h1:=g.p2A hX (zBp (L:=L) (j:=j+1) hj).1
 rw [g.at_xat hj,show j+1+(axL L).length-1=j+(axL L).length by omega,Nat.add_mod_right,Nat.mod_eq_of_lt (show j < (axL L).length by omega)] at h1
 exact h1
theorem same_side (hf:∀e,e < L.length→e≠a→X (2*e)=X (2*e+1)) (ha:a+1 < L.length) {v:Nat} (hv:v < L.length) (h1:v≠a) (h2:v≠a+1):X (lfE L v)=X (rgE L v):=by
 unfold lfE rgE
 cases hd:dwn L v with
 | true=>rw [if_pos rfl,if_pos rfl,hf v hv h1]
 | false =>
  rw [if_neg (by simp),if_neg (by simp),hf _ (zCD hv) (fun h=>?_)]
  rcases Nat.eq_zero_or_pos v with h0 | h0
  ·subst h0
   unfold zBS at h
   rw [Nat.zero_add,Nat.mod_eq_of_lt (by omega)] at h
   omega
  ·rw [zCx hv h0] at h;omega
theorem Good.runA (g:Good K L) (hX:Col L X) (hf:∀e,e < L.length→e≠a→X (2*e)=X (2*e+1)) (ha:a+1 < L.length) {i:Nat} :
  ∀{j:Nat},i≤j→j < (axL L).length→(∀t,i < t→t≤j→xat (axL L) t≠a∧xat (axL L) t≠a+1)→X (2*L.length+2*i+1)=X (2*L.length+2*j+1):=by
 intro j
 induction j with
 | zero=>intro h _ _;rw [show i=0 by omega]
 | succ j ih =>
  intro hij hj hn
  rcases Nat.eq_or_lt_of_le hij with h | h
  ·rw [h]
  ·rw [ih (by omega) (by omega) (fun t h1 h2=>hn t h1 (by omega)),g.stepA hX hj,g.p4A hX hj]
   obtain ⟨n1,n2⟩:=hn (j+1) h (Nat.le_refl _)
   exact same_side hf ha (zBp hj).2 n1 n2
end
theorem three_colors {W n:Nat} {a b:Nat→Nat} {kept:Nat→Bool} (h:zAc kept n+3≤W):∃c:Nat→Nat,(∀e,e < n→kept e=true→c (a e)=c (b e))∧∃x y z,x < W∧y < W∧z < W∧c x≠c y∧c x≠c z∧c y≠c z:=by
 obtain ⟨c,h1,h2,h3⟩:=ties W a b kept n
 refine ⟨c,h2,?_⟩
 have h4:3≤zAc (fun k=>c k==k) W:=by omega
 obtain ⟨x,hx,px⟩:=ct_ex (p:=fun k=>c k==k) (n:=W) (by omega)
 have h5:=ct_but (p:=fun k=>c k==k) (q:=fun k=>c k==k&&k != x) (z:=x) (n:=W) (fun m _ hp hz=>by simp only [hp,Bool.true_and];simpa using hz)
 obtain ⟨y,hy,py⟩:=ct_ex (p:=fun k=>c k==k&&k != x) (n:=W) (by omega)
 have h6:=ct_but (p:=fun k=>c k==k&&k != x) (q:=fun k=>(c k==k&&k != x)&&k != y) (z:=y) (n:=W) (fun m _ hp hz=>by simp only [hp,Bool.true_and];simpa using hz)
 obtain ⟨z,hz,pz⟩:=ct_ex (p:=fun k=>(c k==k&&k != x)&&k != y) (n:=W) (by omega)
 simp only [Bool.and_eq_true,beq_iff_eq,bne_iff_ne,ne_eq] at px py pz
 exact ⟨x,y,z,hx,hy,hz,by rw [px,py.1];exact fun e=>py.2 e.symm,by rw [px,pz.1.1];exact fun e=>pz.1.2 e.symm,by rw [py.1,pz.1.1];exact fun e=>pz.2 e.symm⟩
section
variable {K:Int} {L:List Lt}
/-- The colors of a flat code where the two sides of one arc need not be of one color. -/
theorem Good.colorA (g:Good K L) (h:zFq L=true) {a:Nat} (hp:isP (la L a)=true) (hp2:isP (la L (a+1))=true):∃X:Nat→Nat,Col L X∧(∀e,e < L.length→e≠a→X (2*e)=X (2*e+1)) ∧
  ∃x y z,x < zAq L∧y < zAq L∧z < zAq L∧X x≠X y∧X x≠X z∧X y≠X z:=by
 have hle:zAq L=2*L.length+2*(axL L).length:=rfl
 have ha:=zAH hp
 obtain ⟨lab,l1,l2,l3,l4⟩:=zHh g.inj (fun x hx=>g.into hx) (Ws:=zCr L) rfl
 unfold zFq at h
 simp only [beq_iff_eq] at h
 have hkc:=kinds_count g
 have hnw:dN L L.length=cN L L.length / 2:=dN_is (by unfold zBB;simp only [Bool.and_eq_true,decide_eq_true_eq,zAk];exact ⟨g.ceven,g.cross⟩)
 have hkept:zAc (fun e=>!nwB L (e+1)) L.length+dN L L.length=L.length:=by
  have hs:∀n,zAc (fun e=>!nwB L (e+1)) n+dN L (n+1)=n:=by
   intro n
   induction n with
   | zero =>
    show 0+zAc (nwB L) 1=0
    rw [zAi (by unfold nwB;rw [zBc g.first];rfl)];rfl
   | succ n ih =>
    unfold dN at ih ⊢
    cases hq:nwB L (n+1) with
    | true=>rw [zAi (p:=fun e=>!nwB L (e+1)) (by rw [hq];rfl),zAj hq];omega
    | false=>rw [zAj (p:=fun e=>!nwB L (e+1)) (by rw [hq];rfl),zAi hq];omega
  have:=hs L.length
  unfold dN at this ⊢
  rw [zAi (by unfold nwB;rw [la_ge (Nat.le_refl _)];rfl)] at this
  exact this
 have hlt:=ct_lt (p:=fun e=>!nwB L (e+1)&&e != a) (q:=fun e=>!nwB L (e+1)) (n:=L.length) (i:=a) (fun m _ hm=>by
  simp only [Bool.and_eq_true] at hm;exact hm.1) ha (by
  unfold nwB;rw [zBc hp2];rfl) (by simp)
 have hce:=g.ceven
 obtain ⟨c,c1,x,y,z,hx,hy,hz,n1,n2,n3⟩:=three_colors (W:=(zCr L).length) (n:=L.length) (a:=fun e=>lab (2*e)) (b:=fun e=>lab (2*e+1)) (kept:=fun e=>!nwB L (e+1)&&e != a) (by omega)
 have hX:Col L (fun d=>c (lab d)):=⟨fun d hd=>by show c _=c _;rw [l3 d hd]⟩
 refine ⟨fun d=>c (lab d),hX,?_,?_⟩
 ·exact g.fineA hX hp hp2 (fun e he hea hn=>c1 e he (by rw [hn];simpa using hea))
 ·obtain ⟨u,hu,rfl⟩:=l4 x hx
  obtain ⟨v,hv,rfl⟩:=l4 y hy
  obtain ⟨t,ht,rfl⟩:=l4 z hz
  exact ⟨u,v,t,hu,hv,ht,n1,n2,n3⟩
/-- One of two arcs below has an end between the ends of the other, and one that is not: that cannot be. -/
theorem Good.arcs (g:Good K L) (h:zFq L=true) (hA:Arcs L) {a b u u' v v':Nat} (hp:isP (la L a)=true) (hd:dwn L a=true) (hpb:isP (la L b)=true) (hdb:dwn L b=true) (hab:a≠b)
  (hu:(u=atN L a∧u'=atN L (a+1))∨(u=atN L (a+1)∧u'=atN L a)) (hv:(v=atN L b∧v'=atN L (b+1))∨(v=atN L (b+1)∧v'=atN L b)):¬(u < v∧v < u'∧u' < v'):=by
 rintro ⟨o1,o2,o3⟩
 obtain ⟨ha1,hp2⟩:=hA a (zAH hp) hp hd
 obtain ⟨hb1,hpb2⟩:=hA b (zAH hpb) hpb hdb
 have hd2:dwn L (a+1)=false:=by rw [dwnP hp,hd];rfl
 have hdb2:dwn L (b+1)=false:=by rw [dwnP hpb,hdb];rfl
 obtain ⟨X,hX,hf,x,y,z,hx,hy,hz,n1,n2,n3⟩:=g.colorA h hp hp2
 have hm:=g.m_pos
 have hxa:∀{t:Nat},t < (axL L).length→xat (axL L) t=a→t=atN L a:=fun ht e=>by rw [←e,g.at_xat ht]
 have hxa2:∀{t:Nat},t < (axL L).length→xat (axL L) t=a+1→t=atN L (a+1):=fun ht e=>by rw [←e,g.at_xat ht]
 have la1:=g.at_lt hp
 have la2:=g.at_lt hp2
 have lb1:=g.at_lt hpb
 have lb2:=g.at_lt hpb2
 have hne:∀{t:Nat},t < (axL L).length→t≠u→t≠u'→xat (axL L) t≠a∧xat (axL L) t≠a+1:=fun ht h1 h2 =>
  ⟨fun e=>by have:=hxa ht e;rcases hu with ⟨e1,e2⟩ | ⟨e1,e2⟩<;>omega,fun e=>by have:=hxa2 ht e;rcases hu with ⟨e1,e2⟩ | ⟨e1,e2⟩<;>omega⟩
 have lu':u' < (axL L).length:=by rcases hu with ⟨e1,e2⟩ | ⟨e1,e2⟩<;>omega
 have lv':v' < (axL L).length:=by rcases hv with ⟨e1,e2⟩ | ⟨e1,e2⟩<;>omega
 -- the colors between u and u', and behind u'
 have r1:=g.runA hX hf ha1 (i:=u) (j:=v) (by omega) (by omega) (fun t h1 h2=>hne (by omega) (by omega) (by omega))
 have r2:=g.runA hX hf ha1 (i:=u') (j:=v') (by omega) (by omega) (fun t h1 h2=>hne (by omega) (by omega) (by omega))
 have r3:=g.runA hX hf ha1 (i:=u') (j:=(axL L).length-1) (by omega) (by omega) (fun t h1 h2=>hne (by omega) (by omega) (by omega))
 -- the other arc joins both
 have rv:X (2*L.length+2*v+1)=X (2*L.length+2*v'+1):=by
  have hfb:=hf b (by omega) (fun e=>hab e.symm)
  have e1:=g.p4A hX (j:=atN L b) lb1
  have e2:=g.p4A hX (j:=atN L (b+1)) lb2
  rw [g.xat_at hpb] at e1
  rw [g.xat_at hpb2] at e2
  unfold rgE at e1 e2
  rw [hdb,if_pos rfl] at e1
  rw [hdb2,if_neg (by simp),zCx hb1 (by omega),Nat.add_sub_cancel] at e2
  rcases hv with ⟨h1,h2⟩ | ⟨h1,h2⟩
  ·rw [h1,h2,e1,e2,hfb]
  ·rw [h1,h2,e1,e2,hfb]
 -- so the two sides of the first arc are of one color
 have ea1:=g.p4A hX (j:=atN L a) la1
 have ea2:=g.p4A hX (j:=atN L (a+1)) la2
 rw [g.xat_at hp] at ea1
 rw [g.xat_at hp2] at ea2
 unfold rgE at ea1 ea2
 rw [hd,if_pos rfl] at ea1
 rw [hd2,if_neg (by simp),zCx ha1 (by omega),Nat.add_sub_cancel] at ea2
 have hsame:X (2*a)=X (2*a+1):=by
  rcases hu with ⟨h1,h2⟩ | ⟨h1,h2⟩
  ·rw [←ea1,←ea2,←h1,←h2,r1,rv,←r2]
  ·rw [←ea1,←ea2,←h1,←h2,r2,←rv,←r1]
 have hall:∀e,e < L.length→X (2*e)=X (2*e+1):=fun e he=>by
  by_cases h:e=a
  ·rw [h];exact hsame
  ·exact hf e he h
 -- all pieces below are of one color
 have hpc:∀j,j < (axL L).length→X (2*L.length+2*j+1)=X (2*loE L (xat (axL L) 0)):=fun j hj=>by
  rw [g.p4 hX hall hj];exact g.lo_const hX hall j hj
 have hed:=g.edges hX hall
 have all:∀d,d < zAq L→X d=X (2*upE L (xat (axL L) 0))∨X d=X (2*loE L (xat (axL L) 0)):=by
  intro d hd
  unfold zAq at hd
  have hs:∀t,t < L.length→X (2*t)=X (2*upE L (xat (axL L) 0))∨X (2*t)=X (2*loE L (xat (axL L) 0)):=fun t ht=>by
   rw [hed t ht];split
   ·exact .inl rfl
   ·exact .inr rfl
  rcases Nat.lt_or_ge d (2*L.length) with hl | hl
  ·rcases Nat.mod_two_eq_zero_or_one d with h2 | h2
   ·have:=hs (d / 2) (by omega)
    rwa [show 2*(d / 2)=d by omega] at this
   ·have:=hs (d / 2) (by omega)
    rw [hall _ (by omega)] at this
    rwa [show 2*(d / 2)+1=d by omega] at this
  ·rcases Nat.mod_two_eq_zero_or_one d with h2 | h2
   ·have:=g.p3 hX hall (j:=(d-2*L.length) / 2) (by omega)
    rw [show 2*L.length+2*((d-2*L.length) / 2)=d by omega] at this
    rw [this]
    exact .inl (g.up_const hX hall _ (Nat.mod_lt _ hm))
   ·have:=hpc ((d-2*L.length) / 2) (by omega)
    rw [show 2*L.length+2*((d-2*L.length) / 2)+1=d by omega] at this
    exact .inr this
 have a1:=all x hx
 have a2:=all y hy
 have a3:=all z hz
 rcases a1 with a1 | a1<;>rcases a2 with a2 | a2<;>rcases a3 with a3 | a3
 all_goals first
  | exact n1 (a1.trans a2.symm)
  | exact n2 (a1.trans a3.symm)
  | exact n3 (a2.trans a3.symm)
end
end Go.Proofs.YtlmdfmnbcndhoaaGreatDoor
namespace Go.Proofs.YtlmdfmnbcndhoaaGreatDoor
open Go.RowKit
/-- What is asked of a code: it is small, its gates are on the axis, its passes that go down are followed by a pass. -/
structure Lps (K:Nat) (L:List Lt):Prop where
 len:L.length≤400
 k40:K≤40
 gate:∀i,i < L.length→isP (la L i)=true→0≤(la L i).gate∧(la L i).gate≤K
 arcs:Arcs L
def LoopsGives (w:World) (K:Nat) (L:List Lt) (e:Ending) (w':World):Prop :=
 ∃g,e=.returned (.slice (some ⟨g,0,none⟩) (K+2) (K+2))∧OwnI w' w.heap.size g (K+2) (zBQ K L L.length)∧Below w.heap.size w w'
theorem wrap_n1 {v:Nat} (h:v≤100000):IntKind.i64.wrap ((v:Int)+1)=(v:Int)+1:=IntWalk.i64_in _ (by omega)
set_option maxHeartbeats 6400000 in
set_option maxRecDepth 100000 in
theorem notes_loops (K:Nat) (A:Option Addr) (n c:Nat) (L:List Lt) (w:World) (hA:Lets w A n L) (hL:Lps K L) :
  Calls Tryz.prog 123 #[.agg #[.int .i64 (K:Int),.slice A n c]] w (LoopsGives w K L):=by
 have hLn:L.length=n:=hA.len
 have hn:n≤400:=by have:=hL.len;omega
 have hK4:=hL.k40
 have hb0:=(Below.refl w.heap.size w).alloc (Nat.le_refl _) (.cells #[.int .i64 (K:Int),.slice A n c] 55)
 have hk0:Blk (w.alloc (.cells #[.int .i64 (K:Int),.slice A n c] 55)) w.heap.size 55 #[.int .i64 (K:Int),.slice A n c]:=Blk.new _ _ _
 have c0:(w.alloc (.cells #[.int .i64 (K:Int),.slice A n c] 55)).cell? ⟨w.heap.size,0,none⟩=some (.int .i64 (K:Int)):=(hk0.cell 0).trans rfl
 have HN:=Lib.hid hLn
 have HL:=Lib.hid hL
 have HA:=Lib.hid hA
 have hlw:w.heap.size < (w.alloc (.cells #[.int .i64 (K:Int),.slice A n c] 55)).heap.size:=hk0.lt
 have w1:wrap64 ((K:Int)+2)=((K+2:Nat):Int):=by unfold wrap64;omega
 clear hLn hL hA
 go_enter Tryz.func123,Tryz.ntmps123
 go_upto_region 1 with fail
 generalize w.alloc (.cells #[.int .i64 (K:Int),.slice A n c] 55)=Y at hb0 hk0 c0 hlw ⊢
 go_upto_region 2 with (refine zHE rfl _ _ rfl (K+2) _ rfl rfl (by first | rfl | exact w1 | (simp;done) | omega) (by omega) (base:=Y.heap.size) (Nat.le_refl _) ?_;intro Y2 hO2 hb2 hs2)
 have hO0:OwnI Y2 Y.heap.size Y.heap.size (K+2) (zBQ K L 0):=by rw [loops_zero];exact hO2
 have hk2:=hk0.below hb2 hlw
 have hby:=zAa hb0 hb2 hb0.size
 have c1:Y2.cell? ⟨w.heap.size,1,none⟩=some (.slice A n c):=(hk2.cell 1).trans rfl
 have hlw2:w.heap.size < Y2.heap.size:=hk2.lt
 have hwy:w.heap.size < Y.heap.size:=hlw
 clear hO2 hs2 c0 hk0 hlw hb2
 generalize Y.heap.size=g at hO0 hwy ⊢
 have hgl:g < Y2.heap.size:=hO0.lt
 have hb2:Below g Y2 Y2:=Below.refl _ _
 go_wp2_with fail
 clear c1
 go_loopw [4,14] (fun v4 v14 wv=>∃(i:Nat) (X:World),X=wv∧i≤n∧v14=.int .i64 i∧v4=.bool (!dwn L i)∧OwnI X g g (K+2) (zBQ K L i)∧Below g Y2 X) (fun _ v14 _=>n-(intOf v14).toNat)
 case atStart=>exact ⟨0,_,rfl,by omega,rfl,rfl,hO0,hb2⟩
 case round =>
  obtain ⟨i,X,hX,hi,rfl,rfl,hO,hb⟩:=hrel
  subst hX
  clear hO0
  have hkx:=hk2.below hb hwy
  have hAx:Lets X A n L:=HA.out.below ((hby.trans (hb.mono (by omega))))
  have hXg:g < X.heap.size:=hO.lt
  by_cases hlt:i < n
  ·have j0:(0:Int)≤(i:Int):=by omega
   have j1:(i:Int) < (n:Int):=by omega
   obtain ⟨ga,o,rfl,hgl,hat,hok⟩:=hAx.at_ hlt
   obtain ⟨x0,x1,x2,x3,x4,x5⟩:=hat
   have hbl:=(Below.refl X.heap.size X).alloc (Nat.le_refl _) (.cells #[.int .i64 (la L i).kind,.int .i64 (la L i).gate,.int .i64 (la L i).rank,.int .i64 (la L i).id,.int .i64 (la L i).sign,.bool (la L i).over] 76)
   have hl6:Blk (X.alloc (.cells #[.int .i64 (la L i).kind,.int .i64 (la L i).gate,.int .i64 (la L i).rank,.int .i64 (la L i).id,.int .i64 (la L i).sign,.bool (la L i).over] 76)) X.heap.size 76 #[.int .i64 (la L i).kind,.int .i64 (la L i).gate,.int .i64 (la L i).rank,.int .i64 (la L i).id,.int .i64 (la L i).sign,.bool (la L i).over]:=Blk.new _ _ _
   have hO1:=hO.below hbl hXg
   have hk1:=hkx.below hbl hkx.lt
   have hA1:=hAx.below hbl
   have hb1:=hb.trans (hbl.mono (Nat.le_of_lt hXg))
   have hg6:g < X.heap.size:=hXg
   obtain ⟨d,hd⟩:∃d,dwn L i=d:=⟨_,rfl⟩
   rw [hd]
   by_cases hk:(la L i).kind=1
   ·have q1:((la L i).kind != 1)=false:=by simpa using hk
    have hp:=isP_t hk
    have hdn:dwn L (i+1) = !d:=by rw [dwnP hp,hd]
    have HDN:=Lib.hid hdn
    cases d with
    | false =>
     have HS:=Lib.hid (show zBQ K L (i+1)=zBQ K L i from loops_same K L (by rw [hd,Bool.and_false]))
     clear hO hkx hAx hk1 hA1 hl6 hbl hk hp hd hdn
     go_wp2_with fail
     go_roundw
     case rel=>exact ⟨i+1,_,rfl,by omega,by go_num,by rw [HDN.out];rfl,by rw [HS.out];exact hO1,hb1⟩
     case measure=>simp [intOf];omega
    | true =>
     have hil:i < L.length:=by rw [HN.out];exact hlt
     obtain ⟨ha1,ha2⟩:=HL.out.arcs i hil hp hd
     have hi1:i+1 < n:=by rw [←HN.out];exact ha1
     have hg0:=HL.out.gate i hil hp
     have hg1:=HL.out.gate (i+1) ha1 ha2
     obtain ⟨gx,hgx⟩:∃m:Nat,(la L i).gate=(m:Int):=⟨(la L i).gate.toNat,by omega⟩
     obtain ⟨gy,hgy⟩:∃m:Nat,(la L (i+1)).gate=(m:Int):=⟨(la L (i+1)).gate.toNat,by omega⟩
     obtain ⟨m,hm,hm2,hm3⟩:∃m:Nat,max (gx:Int) (gy:Int)=(m:Int)∧m < K+2∧maxG L i=(m:Int):=by
      by_cases h:gx≤gy
      ·exact ⟨gy,by omega,by omega,by unfold maxG;rw [hgx,hgy,if_pos (by omega)]⟩
      ·exact ⟨gx,by omega,by omega,by unfold maxG;rw [hgx,hgy,if_neg (by omega)]⟩
     have hPD:(isP (la L i)&&dwn L i)=true:=by rw [hp,hd];rfl
     have c6:(X.alloc (.cells #[.int .i64 (la L i).kind,.int .i64 (la L i).gate,.int .i64 (la L i).rank,.int .i64 (la L i).id,.int .i64 (la L i).sign,.bool (la L i).over] 76)).cell? ⟨X.heap.size,1,none⟩=some (.int .i64 (gx:Int)):=by rw [←hgx];exact (hl6.cell 1).trans rfl
     have c1:(X.alloc (.cells #[.int .i64 (la L i).kind,.int .i64 (la L i).gate,.int .i64 (la L i).rank,.int .i64 (la L i).id,.int .i64 (la L i).sign,.bool (la L i).over] 76)).cell? ⟨w.heap.size,1,none⟩=some (.slice (some ⟨ga,o,none⟩) n c):=(hk1.cell 1).trans rfl
     have y1:(X.alloc (.cells #[.int .i64 (la L i).kind,.int .i64 (la L i).gate,.int .i64 (la L i).rank,.int .i64 (la L i).id,.int .i64 (la L i).sign,.bool (la L i).over] 76)).cell? ⟨ga,o+(i+1)*6+1,none⟩=some (.int .i64 (gy:Int)):=by rw [←hgy];exact (hA1.also hi1).1.gate
     have e1:=hO1.cell (zFi K L i hm2)
     have z1:=hO1.frozen m
     have b1:=lpC_le L (m:Int) i
     have r1:=hO1.stored m ((lpC L (m:Int) i:Int)+1)
     rw [loops_set K L hPD hm3] at r1
     obtain ⟨v1,hv1⟩:∃v,lpC L (m:Int) i=v:=⟨_,rfl⟩
     rw [hv1] at e1 b1 r1
     have s1:=hb1.setCell (p:=⟨g,m,none⟩) (Nat.le_refl _) (.int .i64 ((v1:Int)+1))
     have p1:(0:Int)≤(i:Int)+1:=by omega
     have p2:(i:Int)+1 < (n:Int):=by omega
     have p3:IntKind.i64.wrap ((i:Int)+1)=(i:Int)+1:=wrap_n1 (by omega)
     have p4:(0:Int)≤(m:Int):=by omega
     have p6:(m:Int) < ((K+2:Nat):Int):=by omega
     have p7:(m:Int) < (K:Int)+2:=by omega
     have w7:IntKind.i64.wrap ((v1:Int)+1)=(v1:Int)+1:=wrap_n1 (by omega)
     have R1:=Lib.hid r1.drew
     have S1:=Lib.hid s1.drew
     clear hO hkx hAx hk1 hA1 hk hp hd hdn hgx hgy hv1 r1 s1 hg0 hg1 hl6 hbl hO1 hb1 ha2 hPD hm3
     go_upto_region 9 with fail
     clear x0 x1 x2 x3 x4 x5
     generalize X.alloc (.cells #[.int .i64 (la L i).kind,.int .i64 (la L i).gate,.int .i64 (la L i).rank,.int .i64 (la L i).id,.int .i64 (la L i).sign,.bool (la L i).over] 76)=X6 at c6 c1 y1 e1 z1 R1 S1 ⊢
     generalize X.heap.size=b6 at c6 ⊢
     go_region
     go_wp2_with fail
     go_roundw
     case rel=>exact ⟨i+1,_,rfl,by omega,by go_num,by rw [HDN.out];rfl,R1.out,S1.out⟩
     case measure=>simp [intOf];omega
   ·have q1:((la L i).kind != 1)=true:=by simpa using hk
    have hp:=isP_f hk
    have HS:=Lib.hid (show zBQ K L (i+1)=zBQ K L i from loops_same K L (by rw [hp,Bool.false_and]))
    have HDN:=Lib.hid (show dwn L (i+1)=d by rw [dwnC hp,hd])
    clear hO hkx hAx hk1 hA1 hl6 hbl hk hp hd
    go_wp2_with fail
    go_roundw
    case rel=>exact ⟨i+1,_,rfl,by omega,by go_num,by rw [HDN.out],by rw [HS.out];exact hO1,hb1⟩
    case measure=>simp [intOf];omega
  ·have j1:¬(i:Int) < (n:Int):=by omega
   have hin:i=n:=by omega
   have hOe:OwnI X w.heap.size g (K+2) (zBQ K L L.length):=by rw [HN.out,←hin];exact ⟨hO.blk,by omega,hO.len⟩
   have hbw:=hby.trans (hb.mono (by omega))
   clear hin hlt hO hkx hAx hb
   go_wp2_with fail
   go_ret
   exact ⟨g,rfl,hOe,hbw⟩
end Go.Proofs.YtlmdfmnbcndhoaaGreatDoor
namespace Go.Proofs.YtlmdfmnbcndhoaaGreatDoor
open Go.RowKit
theorem buildT1 (S:ByteArray) (w:World):(Instr.buildSlice 112 1 #[(0,.string S)]).run Tryz.prog w=.ok (.slice (some ⟨w.heap.size,0,none⟩) 1 1) (w.alloc (.cells #[.string S] 9)):=by
 obtain ⟨i0,hi,hz0,hz1,hz2⟩:=info_parts strInfo
 refine run_buildSlice w _ _ 1 _ _ i0 _ Tryz.underlying112 hi hz0 (by rw [hz1];omega) (by rw [hz1];omega) ?_
 rw [hz1]
 kernel_rfl
theorem stepT {w:World} {ops:Array Oper} {o:Oper} {a:Act} {K:Act→World→Prop} {Q':Exit→Act→World→Prop} {E:Prop} (hgd:o.guard=none) (s x:Operand)
  (ho:o.op=.call { callee:=.builtin .append,args:=#[s,x],argTypes:=#[112,112] })
  {base:Nat} {A:Option Addr} {n c:Nat} {Ss:List (List UInt8)} (S:List UInt8) (hs:a.eval s=.slice A n c) (hx:a.eval x=.slice (some ⟨w.heap.size,0,none⟩) 1 1)
  (hst:Row w base 1 A n c (Ss.map strV)) (N:Nat) (hN:n+1=N) (hn:N≤1000000) (hbase:base≤w.heap.size)
  (h:∀A' c' w',Row w' base 1 A' N c' ((Ss++[S]).map strV)→Below base w w'→w.grownBy w' (blk A)→K (a.put o.dst (.slice A' N c')) w') :
  if Region.wanted o (yielded ops a.tmps)=true then Oper.wp Tryz.prog o a (w.alloc (.cells #[.string (bA S)] 9)) K Q' else E:=by
 obtain ⟨i0,hi,hz0,hz1,hz2⟩:=info_parts strInfo
 have hbl:=(Below.refl w.heap.size w).alloc (Nat.le_refl _) (.cells #[.string (bA S)] 9)
 have hst1:=hst.below hbl
 refine stepR hgd s x 112 ho 9 i0 _ 1 16 Tryz.underlying112 hi hz0 hz1 hz2 rfl (by decide) hst1 (Src.new (m:=1) (cs:=[.string (bA S)]) rfl)
  (by intro u hu;simp at hu;subst hu;rfl) hs hx N hN (by unfold maxLen;omega) (by omega) (by simp;omega) ?_
 intro A' c' w' h1 h2 _ _
 refine h A' c' w' (by rw [List.map_append];exact h1) ?_ (zAb (zDv hbl _) h2)
 exact ((Below.refl _ _).alloc hbase _).trans (hst1.belowOf h2 (by simp;omega))
theorem store6_of {w:World} {g:Nat} {t:TypeId} {v0 v1 v2 v3 v4 v5:Value} (h:Blk w g t #[v0,v1,v2,v3,v4,v5]) (u0 u1 u2 u3 u4 u5:Value) :
  Blk ((((((w.setCell ⟨g,0,none⟩ u0).setCell ⟨g,1,none⟩ u1).setCell ⟨g,2,none⟩ u2).setCell ⟨g,3,none⟩ u3).setCell ⟨g,4,none⟩ u4).setCell ⟨g,5,none⟩ u5) g t #[u0,u1,u2,u3,u4,u5]:=by
 have h1:=(((((h.set_ 0 u0).set_ 1 u1).set_ 2 u2).set_ 3 u3).set_ 4 u4).set_ 5 u5
 simpa using h1
theorem below6_of {a w:World} {g B:Nat} (h:Below B a w) (hB:B≤g) (u0 u1 u2 u3 u4 u5:Value) :
  Below B a ((((((w.setCell ⟨g,0,none⟩ u0).setCell ⟨g,1,none⟩ u1).setCell ⟨g,2,none⟩ u2).setCell ⟨g,3,none⟩ u3).setCell ⟨g,4,none⟩ u4).setCell ⟨g,5,none⟩ u5) :=
 (((((h.setCell (p:=⟨g,0,none⟩) hB u0).setCell (p:=⟨g,1,none⟩) hB u1).setCell (p:=⟨g,2,none⟩) hB u2).setCell (p:=⟨g,3,none⟩) hB u3).setCell (p:=⟨g,4,none⟩) hB u4).setCell (p:=⟨g,5,none⟩) hB u5
/-- What a posed code's letters keep to. -/
structure Pos (F:List Fg) (re lo:Int) (L:List Lt):Prop where
 lps:Lps F.length L
 fr:frOk F re lo
 kinds:∀i,i < L.length→isP (la L i)=true∨isC (la L i)=true
 left:∀i,i < L.length→isP (la L i)=true→dwn L i=true→0≤(zBf L i).gate∧(zBf L i).gate < F.length
 rank:∀i,i < L.length→isP (la L i)=true→1≤(la L i).rank∧(la L i).rank≤400
 id:∀i,i < L.length→isC (la L i)=true→1≤(la L i).id∧(la L i).id≤400
theorem zFT {F:List Fg} {re lo K:Int} {L:List Lt} (h:zAU F re lo K L=true):Pos F re lo L∧K=(F.length:Int):=by
 unfold zAU at h
 simp only [Bool.and_eq_true,beq_iff_eq] at h
 obtain ⟨⟨⟨h1,h2⟩,h3⟩,h4⟩:=h
 have ht:=zCh h2
 obtain ⟨c1,c2,c3,c4⟩:=zDm h2
 subst h3
 rcases Nat.eq_zero_or_pos L.length with h0 | h0
 ·exact ⟨⟨⟨ht.len,by omega,fun i hi=>by omega,fun i hi=>by omega⟩,zCo.1 h1,fun i hi=>by omega,fun i hi=>by omega,fun i hi=>by omega,fun i hi=>by omega⟩,rfl⟩
 have hv:zAo (F.length:Int) L=true:=by rcases c4 with h | h;· omega
                                       ·exact h
 have g:=zCf h0 hv
 have hpo:∀i,i < L.length→poB L i=true:=zAk.1 h4
 have key:∀i,i < L.length→isP (la L i)=true→dwn L i=true→i+1 < L.length∧isP (la L (i+1))=true∧((la L (i+1)).gate-(la L i).gate=1∨(la L i).gate-(la L (i+1)).gate=1):=by
  intro i hi hp hd
  have hlt:i+1 < L.length:=by
   rcases Nat.lt_or_ge (i+1) L.length with h | h
   ·exact h
   ·have e:i+1=L.length:=by omega
    have hd2:dwn L (i+1)=false:=by rw [dwnP hp,hd];rfl
    rw [e] at hd2
    unfold dwn at hd2
    have:=g.even
    simp [this] at hd2
  have:=hpo i hi
  unfold poB neB nxL at this
  rw [hp,hd,Nat.mod_eq_of_lt hlt] at this
  simp only [Bool.and_self,Bool.not_true,Bool.false_or,Bool.and_eq_true,Bool.or_eq_true,beq_iff_eq] at this
  exact ⟨hlt,this.1,this.2⟩
 refine ⟨⟨⟨ht.len,by omega,fun i hi hp=>⟨(ht.pass i hi hp).1,(ht.pass i hi hp).2.1⟩,fun i hi hp hd=>⟨(key i hi hp hd).1,(key i hi hp hd).2.1⟩⟩,zCo.1 h1,g.kinds,fun i hi hp hd=>?_,fun i hi hp=>⟨(ht.pass i hi hp).2.2.1,(ht.pass i hi hp).2.2.2⟩,fun i hi hc=>?_⟩,rfl⟩
 ·obtain ⟨k1,k2,k3⟩:=key i hi hp hd
  have g1:=ht.pass i hi hp
  have g2:=ht.pass (i+1) k1 k2
  unfold zBf
  split<;>omega
 ·have h5:=g.cross i hi
  have:=(zBg.1 h5 hc).1
  have:=cN_le L L.length
  have:=ht.len
  omega
theorem seqAt_len {F:List Fg} {re lo:Int} {L:List Lt} (h:Pos F re lo L) {i:Nat} (hi:i < L.length):∀x∈zCH F L i,x.length≤100:=by
 intro x hx
 unfold zCH at hx
 by_cases hc:isC (la L i)=true
 ·rw [if_pos hc] at hx
  rw [List.mem_singleton.1 hx]
  have hid:=h.id i hi hc
  have:=zBt (x:=(la L i).id) ⟨by omega,by omega⟩
  unfold visW
  simp only [List.length_append,List.length_singleton];omega
 ·rw [if_neg hc] at hx
  by_cases hd:dwn L i=true
  ·rw [if_pos hd] at hx
   rw [List.mem_singleton.1 hx]
   have hp:=(h.kinds i hi).resolve_right hc
   have hg:=h.left i hi hp hd
   have hn:=zBx h.fr (f:=(zBf L i).gate+1) (by omega) (by omega)
   have hr:1≤(zBf L i).rank∧(zBf L i).rank≤400:=by
    obtain ⟨k1,k2⟩:=h.lps.arcs i hi hp hd
    unfold zBf
    split
    ·exact h.rank (i+1) k1 k2
    ·exact h.rank i hi hp
   have hl:=lpC_le L (zBf L i).gate L.length
   have hlen:=h.lps.len
   have:=zBt (x:=(zBf L i).rank-(lpC L (zBf L i).gate L.length:Int)) ⟨by omega,by omega⟩
   unfold zHk
   simp only [List.length_append,List.length_singleton];omega
  ·rw [if_neg hd] at hx;simp at hx
theorem seqAt_one (F:List Fg) (L:List Lt) (i:Nat):(zCH F L i).length≤1:=by
 unfold zCH
 split
 ·simp
 ·split<;>simp
theorem seqTo_len (F:List Fg) (L:List Lt) (m:Nat):(zDS F L m).length≤m:=by
 induction m with
 | zero=>simp [zDS]
 | succ m ih=>rw [zEc,List.length_append];have:=seqAt_one F L m;omega
theorem seqTo_short {F:List Fg} {re lo:Int} {L:List Lt} (h:Pos F re lo L) {m:Nat} (hm:m≤L.length):∀x∈zDS F L m,x.length≤100:=by
 intro x hx
 unfold zDS at hx
 obtain ⟨i,hi,hx⟩:=List.mem_flatMap.1 hx
 exact seqAt_len h (by have:=List.mem_range.1 hi;omega) x hx
theorem loops_is {K:Nat} {A:Option Addr} {n c:Nat} {L:List Lt} (w:World) (hA:Lets w A n L) (hL:Lps K L):Calls Tryz.prog 123 #[.agg #[.int .i64 (K:Int),.slice A n c]] w (LoopsGives w K L):=notes_loops K A n c L w hA hL
theorem itoa_is {x:Int} {S:List UInt8} (h:Lib.itoa x=S) (hx:I64 x) (w:World) (ht:Tabs w):Calls Tryz.prog 124 #[.int .i64 x] w fun e w'=>e=.returned (.string (bA S))∧Below w.heap.size w w':=by
 subst h;exact itoa_any x hx w ht
end Go.Proofs.YtlmdfmnbcndhoaaGreatDoor
