/-
  Lemmas, part 1. Conditions: each theorem's own.
-/
open Option renaming none→U,some→Z
open Bool renaming false→E,true→Q
namespace Go.Proofs.YtlmdfmnbcndhoaaGreatDoor
def NoneTo (p:Nat→Bool) (n:Nat):Prop:=∀i,i < n→p i=E
theorem NoneTo.zero (p:Nat→Bool):NoneTo p 0:=fun i h=>by omega
theorem NoneTo.succ {p:Nat→Bool} {n:Nat} (h:NoneTo p n) (hn:p n=E):NoneTo p (n+1):=fun i hi=>by
 by_cases e:i=n
 ·subst e;exact hn
 ·exact h i (by omega)
def zGA (p:Nat→Bool) (n:Nat):Int:=match (List.range n).find? p with
 | some i=>i
 | none=>-1
theorem zHo {p:Nat→Bool} {n:Nat} (h:NoneTo p n):(List.range n).find? p=U:=by
 rw [List.find?_eq_none];intro i hi;rw [List.mem_range] at hi;rw [h i hi];simp
theorem zME {p:Nat→Bool} {n k:Nat} (h:NoneTo p k) (hk:p k=Q) (hn:k < n):(List.range n).find? p=Z k:=by
 induction n with
 | zero=>omega
 | succ n ih =>
  rw [List.range_succ,List.find?_append];by_cases e:k < n
  ·rw [ih e];rfl
  ·have:k=n:=by omega
   subst this;rw [zHo h];simp [hk]
theorem zEH {p:Nat→Bool} {n:Nat} (h:NoneTo p n):zGA p n = -1:=by unfold zGA;rw [zHo h]
theorem zFW {p:Nat→Bool} {n k:Nat} (h:NoneTo p k) (hk:p k=Q) (hn:k < n):zGA p n=k:=by unfold zGA;rw [zME h hk hn]
theorem zKe (p:Nat→Bool) (n:Nat):(zGA p n = -1∧NoneTo p n)∨∃k,k < n∧zGA p n=(k:Int)∧NoneTo p k∧p k=Q:=by
 induction n with
 | zero=>exact .inl ⟨zEH (NoneTo.zero p),NoneTo.zero p⟩
 | succ n ih =>
  rcases ih with ⟨_,h⟩ | ⟨k,hk,he,hn,hp⟩
  ·cases hp:p n with
   | false=>exact .inl ⟨zEH (h.succ hp),h.succ hp⟩
   | true=>exact .inr ⟨n,by omega,zFW h hp (by omega),h,hp⟩
  ·exact .inr ⟨k,by omega,zFW hn hp (by omega),hn,hp⟩
def zDl (p:Nat→Bool) (n:Nat):Bool:=(List.range n).all p
theorem zNJ (p:Nat→Bool) (n:Nat):zDl p (n+1)=(zDl p n&&p n):=by
 unfold zDl;rw [List.range_succ];simp
theorem zNK {p:Nat→Bool} {n:Nat} (h:zDl p n=Q) (hn:p n=Q):zDl p (n+1)=Q:=by rw [zNJ,h,hn];rfl
theorem zDm {p:Nat→Bool} {n k:Nat} (hk:k < n) (h:p k=E):zDl p n=E:=by
 unfold zDl;rw [List.all_eq_false];exact ⟨k,List.mem_range.2 hk,by simp [h]⟩
theorem zAv {p:Nat→Bool} {n:Nat}:zDl p n=Q↔∀i,i < n→p i=Q:=by
 unfold zDl;rw [List.all_eq_true];exact ⟨fun h i hi=>h i (List.mem_range.2 hi),fun h i hi=>h i (List.mem_range.1 hi)⟩
def zAc (p:Nat→Bool):Nat→Nat
 | 0=>0
 | n+1=>zAc p n+(if p n then 1 else 0)
theorem zBt (p:Nat→Bool) (n:Nat):zAc p n≤n:=by
 induction n with
 | zero=>exact Nat.le_refl _
 | succ n ih=>unfold zAc;split<;>omega
theorem zAm {p:Nat→Bool} {n:Nat} (h:p n=Q):zAc p (n+1)=zAc p n+1:=by simp [zAc,h]
theorem zAi {p:Nat→Bool} {n:Nat} (h:p n=E):zAc p (n+1)=zAc p n:=by simp [zAc,h]
end Go.Proofs.YtlmdfmnbcndhoaaGreatDoor
namespace Go.Proofs.YtlmdfmnbcndhoaaGreatDoor
theorem zCf {p q:Nat→Bool} {n:Nat} (h:∀m,m < n→p m=q m):zAc p n=zAc q n:=by
 induction n with
 | zero=>rfl
 | succ n ih =>
  unfold zAc;rw [ih (fun m hm=>h m (by omega)),h n (by omega)]
theorem zIX {p:Nat→Bool} {n:Nat} (h:∀m,m < n→p m=E):zAc p n=0:=by
 induction n with
 | zero=>rfl
 | succ n ih=>rw [zAi (h n (by omega))];exact ih (fun m hm=>h m (by omega))
theorem zOQ {p q:Nat→Bool} {n:Nat} (h:∀m,m < n→p m=Q→q m=Q):zAc p n≤zAc q n:=by
 induction n with
 | zero=>exact Nat.le_refl _
 | succ n ih =>
  have:=ih (fun m hm=>h m (by omega));have h2:=h n (by omega);unfold zAc
  cases hp:p n<;>cases hq:q n<;>simp [hp,hq] at h2 ⊢<;>omega
theorem zOR {p q:Nat→Bool} {n i:Nat} (h:∀m,m < n→p m=Q→q m=Q) (hi:i < n) (hq:q i=Q) (hp:p i=E):zAc p n+1≤zAc q n:=by
 induction n with
 | zero=>omega
 | succ n ih =>
  by_cases e:i=n
  ·subst e;rw [zAi hp,zAm hq];have:=zOQ (n:=i) (fun m hm=>h m (by omega));omega
  ·have:=ih (fun m hm=>h m (by omega)) (by omega);have h2:=h n (by omega);unfold zAc
   cases hp:p n<;>cases hq:q n<;>simp [hp,hq] at h2 ⊢<;>omega
theorem zIy {p:Nat→Bool} {n i:Nat} (hi:i < n) (hp:p i=Q) (h:∀m,m < n→p m=Q→m=i):zAc p n=1:=by
 induction n with
 | zero=>omega
 | succ n ih =>
  by_cases e:i=n
  ·subst e;rw [zAm hp,zIX];intro m hm
   cases hq:p m with
   | false=>rfl
   | true=>have:=h m (by omega) hq;omega
  ·have hn:p n=E:=by
    cases hq:p n with
    | false=>rfl
    | true=>have:=h n (by omega) hq;omega
   rw [zAi hn];exact ih (by omega) (fun m hm=>h m (by omega))
theorem zKf {p q r:Nat→Bool} {n:Nat} (h:∀m,m < n→r m=(p m||q m)) (hd:∀m,m < n→¬(p m=Q∧q m=Q)):zAc r n=zAc p n+zAc q n:=by
 induction n with
 | zero=>rfl
 | succ n ih =>
  have:=ih (fun m hm=>h m (by omega)) (fun m hm=>hd m (by omega));have h2:=h n (by omega);have h3:=hd n (by omega);unfold zAc
  cases hp:p n<;>cases hq:q n<;>simp [hp,hq] at h2 h3<;>simp [h2]<;>omega
theorem zKg {p:Nat→Bool} {n i:Nat} (hi:i < n) (hp:p i=Q):0 < zAc p n:=by
 have h:∀m,m < n→(fun _:Nat=>E) m=Q→p m=Q:=fun _ _ e=>by cases e
 have:=zOR h hi hp rfl;omega
theorem zNL {p:Nat→Bool} {n:Nat} (h:0 < zAc p n):∃i,i < n∧p i=Q:=by
 induction n with
 | zero=>exact absurd h (by simp [zAc])
 | succ n ih =>
  cases hp:p n with
  | true=>exact ⟨n,by omega,hp⟩
  | false =>
   rw [zAi hp] at h;obtain ⟨i,hi,hpi⟩:=ih h;exact ⟨i,by omega,hpi⟩
theorem zOS {p:Nat→Bool} {n i j:Nat} (h:zAc p n≤1) (hi:i < n) (hj:j < n) (hpi:p i=Q) (hpj:p j=Q):i=j:=by
 rcases Nat.decEq i j with e | e
 ·have h1:zAc (fun m=>decide (m=i)) n=1:=zIy hi (by simp) (by intro m _ hm;simpa using hm);have h2:=zOR (p:=fun m=>decide (m=i)) (q:=p) (n:=n) (i:=j) (fun m _ hm=>by simp at hm;subst hm;exact hpi) hj hpj (by simp;omega);omega
 ·exact e
theorem zTN {p q:Nat→Bool} {n:Nat} (h:∀m,m < n→p m=Q→q m=Q) (e:zAc q n≤zAc p n):∀m,m < n→q m=Q→p m=Q:=by
 intro m hm hq
 cases hp:p m with
 | true=>rfl
 | false=>have:=zOR h hm hq hp;omega
theorem zVM (p:Nat→Bool) {m n:Nat} (h:m≤n):zAc p m≤zAc p n:=by
 obtain ⟨k,rfl⟩:∃k,n=m+k:=⟨n-m,by omega⟩
 clear h
 induction k with
 | zero=>exact Nat.le_refl _
 | succ k ih=>exact Nat.le_trans ih (Nat.le_add_right _ _)
def zGV (f:Nat→Nat):Nat→Nat
 | 0=>0
 | n+1=>zGV f n+f n
theorem zRv (f g:Nat→Nat) (n:Nat):zGV (fun i=>f i+g i) n=zGV f n+zGV g n:=by
 induction n with
 | zero=>rfl
 | succ n ih=>simp only [zGV];rw [ih];omega
theorem zEl {f g:Nat→Nat} {n:Nat} (h:∀i,i < n→f i=g i):zGV f n=zGV g n:=by
 induction n with
 | zero=>rfl
 | succ n ih=>simp only [zGV];rw [ih (fun i hi=>h i (by omega)),h n (by omega)]
theorem zHp {f:Nat→Nat} {n:Nat} (h:∀i,i < n→f i=0):zGV f n=0:=by
 induction n with
 | zero=>rfl
 | succ n ih=>simp only [zGV];rw [ih (fun i hi=>h i (by omega)),h n (by omega)]
theorem zRw {f:Nat→Nat} {n i:Nat} (hi:i < n) (h:∀j,j < n→j≠i→f j=0):zGV f n=f i:=by
 induction n with
 | zero=>omega
 | succ n ih =>
  simp only [zGV];by_cases e:i=n
  ·subst e;rw [zHp (fun j hj=>h j (by omega) (by omega))];omega
  ·rw [ih (by omega) (fun j hj hne=>h j (by omega) hne),h n (by omega) (fun h'=>e h'.symm)];omega
theorem zTO {f:Nat→Nat} {n c:Nat} (h:∀i,i < n→f i≤c):zGV f n≤n*c:=by
 induction n with
 | zero=>simp [zGV]
 | succ n ih =>
  simp only [zGV];have:=ih (fun i hi=>h i (by omega));have h2:=h n (by omega);rw [Nat.add_mul];omega
theorem zOT {f:Nat→Nat} {n c:Nat} (h:∀i,i < n→f i≤c) (e:n*c≤zGV f n):∀i,i < n→f i=c:=by
 induction n with
 | zero=>intro i hi;omega
 | succ n ih =>
  simp only [zGV] at e;have h1:=zTO (f:=f) (n:=n) (c:=c) (fun i hi=>h i (by omega));have h2:=h n (by omega);rw [Nat.add_mul] at e;intro i hi;by_cases e':i=n
  ·subst e';omega
  ·exact ih (fun i hi=>h i (by omega)) (by omega) i (by omega)
theorem zOU {f:Nat→Nat} {n:Nat} (h:∀i,i < n→f i % 2=0):zGV f n % 2=0:=by
 induction n with
 | zero=>rfl
 | succ n ih =>
  have:=ih (fun i hi=>h i (by omega));have h2:=h n (by omega);simp only [zGV];omega
theorem zEm {p:Nat→Bool} {c:Nat→Nat} {n k:Nat} (h:∀m,m < n→p m=Q→c m < k):zAc p n=zGV (fun d=>zAc (fun m=>p m&&c m==d) n) k:=by
 induction n with
 | zero=>exact (zHp (fun _ _=>rfl)).symm
 | succ n ih =>
  have ih':=ih (fun m hm=>h m (by omega));simp only [zAc];rw [zRv,ih']
  congr 1
  by_cases hp:p n=Q
  ·rw [if_pos hp,zRw (i:=c n) (h n (by omega) hp) (by
    intro j _ hj
    have:¬c n=j:=fun e=>hj e.symm
    simp [this])]
   simp [hp]
  ·rw [if_neg hp];exact (zHp (fun _ _=>by simp [hp])).symm
theorem zTl {p:Nat→Bool} {f:Nat→Int} {n:Nat} (hb:∀m,m < n→p m=Q→1≤f m∧f m≤zAc p n) (hd:∀i j,i < n→j < n→p i=Q→p j=Q→f i=f j→i=j) :
  ∀v:Nat,v≤zAc p n→zAc (fun m=>p m&&decide (f m≤(v:Int))) n=v:=by
 have step:∀v:Nat,zAc (fun m=>p m&&decide (f m≤((v+1:Nat):Int))) n≤zAc (fun m=>p m&&decide (f m≤(v:Int))) n+1:=by
  intro v;rw [zKf (p:=fun m=>p m&&decide (f m≤(v:Int))) (q:=fun m=>p m&&decide (f m=((v+1:Nat):Int)))]
  ·refine Nat.add_le_add_left ?_ _;by_cases hx:∃k,k < n∧(p k&&decide (f k=((v+1:Nat):Int)))=Q
   ·obtain ⟨k,hk,hp⟩:=hx;simp at hp;refine Nat.le_of_eq (zIy hk (by simp [hp]) fun m hm hpm=>?_);simp at hpm;exact hd m k hm hk hpm.1 hp.1 (by omega)
   ·rw [zIX]
    ·omega
    ·intro m hm
     cases hq:(p m&&decide (f m=((v+1:Nat):Int))) with
     | false=>rfl
     | true=>exact absurd ⟨m,hm,hq⟩ hx
  ·intro m _
   cases p m
   ·rfl
   ·simp only [Bool.true_and];rw [←Bool.decide_or];apply decide_eq_decide.2;omega
  ·intro m _ ⟨h1,h2⟩;simp at h1 h2;omega
 have h0:zAc (fun m=>p m&&decide (f m≤((0:Nat):Int))) n=0:=zIX fun m hm=>by
  cases hp:p m with
  | false=>rfl
  | true =>
   have:=(hb m hm hp).1;have:¬f m≤((0:Nat):Int):=by omega
   simp only [this,decide_false,Bool.and_false]
 have hup:∀v k:Nat,zAc (fun m=>p m&&decide (f m≤((v+k:Nat):Int))) n≤zAc (fun m=>p m&&decide (f m≤(v:Int))) n+k:=by
  intro v k
  induction k with
  | zero=>exact Nat.le_refl _
  | succ k ih =>
   have:=step (v+k);rw [show v+(k+1)=v+k+1 by omega];omega
 have hall:zAc (fun m=>p m&&decide (f m≤((zAc p n:Nat):Int))) n=zAc p n:=zCf fun m hm=>by
  cases hp:p m with
  | false=>rfl
  | true=>have:=(hb m hm hp).2;simp [this]
 intro v hv;have a1:=hup 0 v;rw [Nat.zero_add] at a1;have a2:=hup v (zAc p n-v);rw [show v+(zAc p n-v)=zAc p n by omega,hall] at a2;omega
end Go.Proofs.YtlmdfmnbcndhoaaGreatDoor
namespace Go.Proofs.YtlmdfmnbcndhoaaGreatDoor
structure Lt where
 kind:Int
 gate:Int
 rank:Int
 id:Int
 sign:Int
 over:Bool
instance : DecidableEq Lt := fun a b =>
 if h:a.kind=b.kind∧a.gate=b.gate∧a.rank=b.rank∧a.id=b.id∧a.sign=b.sign∧a.over=b.over then
  .isTrue (by cases a;cases b;simp at h;simp [h])
 else .isFalse (fun e=>h (by subst e;simp))
def dl:Lt:=⟨0,0,0,0,0,E⟩
def la (L:List Lt) (i:Nat):Lt:=(L[i]?).getD dl
theorem zRx {L:List Lt} {i:Nat} {x:Lt} (h:L[i]? = Z x):la L i=x:=by unfold la;rw [h];rfl
def isP (l:Lt):Bool:=l.kind==1
def isC (l:Lt):Bool:=l.kind==2
theorem zCw {l:Lt} (h:isP l=Q):isC l=E:=by unfold isP at h;unfold isC;simp at h ⊢;omega
def pN (L:List Lt) (m:Nat):Nat:=zAc (fun i=>isP (la L i)) m
def cN (L:List Lt) (m:Nat):Nat:=zAc (fun i=>isC (la L i)) m
def gN (L:List Lt) (g:Int) (m:Nat):Nat:=zAc (fun i=>isP (la L i)&&(la L i).gate==g) m
def tN (L:List Lt) (d:Int) (m:Nat):Nat:=zAc (fun i=>isC (la L i)&&(la L i).id==d) m
def dwn (L:List Lt) (i:Nat):Bool:=pN L i % 2==0
def smB (l o:Lt):Bool:=o.kind==l.kind&&o.gate==l.gate&&o.rank==l.rank
def smN (L:List Lt) (l:Lt) (m:Nat):Nat:=zAc (fun j=>smB l (la L j)) m
def prB (l o:Lt):Bool:=o.kind==l.kind&&o.id==l.id&&o.sign==l.sign&&o.over != l.over
def prN (L:List Lt) (l:Lt) (m:Nat):Nat:=zAc (fun j=>prB l (la L j)) m
def rlB (K:Int) (L:List Lt) (l:Lt):Bool :=
 if l.kind=1 then decide (l.id=0∧l.sign=0∧l.over=E∧0≤l.gate∧l.gate≤K∧1≤l.rank∧l.rank≤(gN L l.gate L.length:Int)∧smN L l L.length=1)
 else if l.kind=2 then decide (l.gate=0∧l.rank=0∧(l.sign=1∨l.sign = -1)∧1≤l.id∧l.id≤((cN L L.length / 2:Nat):Int)∧prN L l L.length=1∧tN L l.id L.length=2)
 else E
def zBH (K:Int) (L:List Lt):Bool:=zDl (fun i=>rlB K L (la L i)) L.length
def lpB (K:Int) (l:Lt):Bool :=
 if l.kind=1 then decide (0≤l.gate∧l.gate≤K∧l.id=0∧l.sign=0∧l.over=E)
 else if l.kind=2 then decide (l.gate=0∧l.rank=0∧(l.sign=1∨l.sign = -1))
 else E
def zAB (K:Int) (L:List Lt):Bool:=zDl (fun i=>lpB K (la L i)) L.length
def keyB (a b:Lt):Bool:=a.gate==b.gate&&a.rank==b.rank
def rkB (L:List Lt) (i:Nat):Bool :=
 !isP (la L i)||(decide (1≤(la L i).rank∧(la L i).rank≤(gN L (la L i).gate L.length:Int))&&zDl (fun j=>!(isP (la L j)&&keyB (la L j) (la L i))) i)
def zCx (L:List Lt):Bool:=zDl (rkB L) L.length
def crB (L:List Lt) (i:Nat):Bool :=
 !isC (la L i)||(decide (1≤(la L i).id∧(la L i).id≤((cN L L.length / 2:Nat):Int))&&zDl (fun j=>!(isC (la L j)&&(la L j).id==(la L i).id)||((la L j).over != (la L i).over&&(la L j).sign==(la L i).sign)) i)
def zBM (L:List Lt):Bool:=decide (cN L L.length % 2=0)&&zDl (crB L) L.length
def nwB (L:List Lt) (i:Nat):Bool:=isC (la L i)&&zDl (fun j=>!(isC (la L j)&&(la L j).id==(la L i).id)) i
def dN (L:List Lt) (m:Nat):Nat:=zAc (nwB L) m
def zEI (a b:Lt):Bool:=decide (a.gate < b.gate)||(a.gate==b.gate&&decide (a.rank < b.rank))
def zKh (L:List Lt) (i:Nat):List Nat→List Nat
 | []=>[i]
 | x :: X=>if zEI (la L x) (la L i) then x :: zKh L i X else i :: x :: X
def zKb (L:List Lt):Nat→List Nat
 | 0=>[]
 | m+1=>if isP (la L m) then zKh L m (zKb L m) else zKb L m
def axL (L:List Lt):List Nat:=zKb L L.length
def zCn (L:List Lt) (i:Nat):Nat:=((List.range L.length).find? (fun j=>j != i&&isC (la L j)&&(la L j).id==(la L i).id)).getD i
def zTP (X:List Nat) (v:Nat):Nat:=X.findIdx (·==v)
def xat (X:List Nat) (i:Nat):Nat:=(X[i]?).getD 0
def zAN (n i:Nat) (f:Bool):Nat:=if f then 2*i else 2*((i+n-1) % n)+1
def zAE (n d:Nat):Nat:=if d % 2=0 then (d / 2+1) % n else d / 2
def zAz (L:List Lt) (X:List Nat) (d:Nat):Nat :=
 if 2*L.length≤d then
  if d % 2=0 then zAN L.length (xat X (((d-2*L.length) / 2+1) % X.length)) (!dwn L (xat X (((d-2*L.length) / 2+1) % X.length)))
  else zAN L.length (xat X ((d-2*L.length) / 2)) (dwn L (xat X ((d-2*L.length) / 2)))
 else if isC (la L (zAE L.length d)) then zAN L.length (zCn L (zAE L.length d)) ((d % 2==0)==((la L (zAE L.length d)).over==((la L (zAE L.length d)).sign==1)))
 else if dwn L (zAE L.length d)==(d % 2==0) then 2*L.length+2*zTP X (zAE L.length d)
 else 2*L.length+2*((zTP X (zAE L.length d)+X.length-1) % X.length)+1
def sat (s:List Bool) (x:Nat):Bool:=(s[x]?).getD Q
def zAW (f:Nat→Nat):Nat→List Bool→Nat→List Nat×List Bool
 | 0,s,_=>([],s)
 | k+1,s,x=>if sat s x then ([],s) else (x :: (zAW f k (s.set x Q) (f x)).1,(zAW f k (s.set x Q) (f x)).2)
def zAO (f:Nat→Nat):List Nat→List Bool→List (List Nat)
 | [],_=>[]
 | d :: ds,s=>if sat s d then zAO f ds s else (zAW f s.length s d).1 :: zAO f ds (zAW f s.length s d).2
def zAw (L:List Lt):Nat:=2*L.length+2*(axL L).length
def zBz (L:List Lt):List (List Nat):=zAO (zAz L (axL L)) (List.range (zAw L)) (List.replicate (zAw L) E)
def zFX (L:List Lt):Bool:=(zBz L).length==pN L L.length+cN L L.length / 2+2
def zAQ (K:Int) (L:List Lt):Bool:=isP (la L 0)&&decide (pN L L.length % 2=0)&&zBH K L&&zFX L
def zAC (K:Int) (L:List Lt):Int :=
 if 400 < L.length∨200 < cN L L.length then 7 else if K < 0∨40 < K then 2 else if L.length=0 then 0 else if zAQ K L then 0 else 3
end Go.Proofs.YtlmdfmnbcndhoaaGreatDoor
namespace Go.Proofs.YtlmdfmnbcndhoaaGreatDoor
theorem zOV {p:Nat→Bool} {n:Nat} (h:∀i j,i < n→j < n→p i=Q→p j=Q→i=j):zAc p n≤1:=by
 rcases Nat.eq_zero_or_pos (zAc p n) with h0 | h0
 ·omega
 ·obtain ⟨i,hi,hp⟩:=zNL h0;rw [zIy hi hp (fun m hm hpm=>h m i hm hi hpm hp)];omega
theorem zRy {p:Nat→Bool} {n:Nat} (h:0 < zAc p n):∃i,i < n∧p i=Q∧∀j,j < i→p j=E:=by
 induction n with
 | zero=>simp [zAc] at h
 | succ n ih =>
  by_cases h0:0 < zAc p n
  ·obtain ⟨i,hi,r⟩:=ih h0;exact ⟨i,by omega,r⟩
  ·cases hp:p n with
   | false=>rw [zAi hp] at h;omega
   | true =>
    refine ⟨n,by omega,hp,fun j hj=>?_⟩
    cases hq:p j with
    | false=>rfl
    | true=>have:=zKg hj hq;omega
theorem zOW (n:Nat):zGV (fun _=>1) n=n:=by
 induction n with
 | zero=>rfl
 | succ n ih=>simp only [zGV];rw [ih]
theorem zBn {L:List Lt} {i:Nat}:crB L i=Q↔(isC (la L i)=Q→(1≤(la L i).id∧(la L i).id≤((cN L L.length / 2:Nat):Int))∧∀j,j < i→isC (la L j)=Q→(la L j).id=(la L i).id→(la L j).over≠(la L i).over∧(la L j).sign=(la L i).sign):=by
 unfold crB
 cases h:isC (la L i) with
 | false=>simp
 | true =>
  simp only [Bool.not_true,Bool.false_or,Bool.and_eq_true,decide_eq_true_eq,zAv,forall_const];refine and_congr_right fun _=>forall_congr' fun j=>forall_congr' fun _=>?_
  cases h2:isC (la L j)<;>simp
  by_cases h3:(la L j).id=(la L i).id<;>simp [h3]
theorem zBo {L:List Lt} {i:Nat}:rkB L i=Q↔(isP (la L i)=Q→(1≤(la L i).rank∧(la L i).rank≤(gN L (la L i).gate L.length:Int))∧∀j,j < i→isP (la L j)=Q→(la L j).gate=(la L i).gate→(la L j).rank≠(la L i).rank):=by
 unfold rkB
 cases h:isP (la L i) with
 | false=>simp
 | true =>
  simp only [Bool.not_true,Bool.false_or,Bool.and_eq_true,decide_eq_true_eq,zAv,forall_const];refine and_congr_right fun _=>forall_congr' fun j=>forall_congr' fun _=>?_
  cases h2:isP (la L j)<;>simp [keyB]
  by_cases h3:(la L j).gate=(la L i).gate<;>simp [h3]
theorem zOX {L:List Lt} {n:Nat} (h:∀i,i < n→isC (la L i)=Q→1≤(la L i).id∧(la L i).id≤((cN L L.length / 2:Nat):Int)) :
  cN L n=zGV (fun d=>tN L ((d+1:Nat):Int) n) (cN L L.length / 2):=by
 unfold cN
 rw [zEm (p:=fun i=>isC (la L i)) (c:=fun i=>((la L i).id-1).toNat) (n:=n) (k:=cN L L.length / 2) (by
  intro m hm hc
  have:=h m hm hc
  omega)]
 refine zEl fun d _=>zCf fun m hm=>?_
 cases hc:isC (la L m) with
 | false=>rfl
 | true =>
  have:=h m hm hc;simp only [Bool.true_and];rw [Bool.eq_iff_iff];simp;omega
theorem zEn {L:List Lt} (h:∀i,i < L.length→crB L i=Q) {i j:Nat} (hi:i < L.length) (hj:j < L.length) (hci:isC (la L i)=Q) (hcj:isC (la L j)=Q) (hid:(la L i).id=(la L j).id) (hne:i≠j) :
  (la L i).over≠(la L j).over∧(la L i).sign=(la L j).sign:=by
 rcases Nat.lt_or_gt_of_ne hne with hlt | hlt
 ·exact (zBn.1 (h j hj) hcj).2 i hlt hci hid
 ·have:=(zBn.1 (h i hi) hci).2 j hlt hcj hid.symm;exact ⟨fun e=>this.1 e.symm,this.2.symm⟩
theorem zIY (L:List Lt) (d:Int) (b:Bool) (n:Nat):tN L d n=zAc (fun m=>isC (la L m)&&(la L m).id==d&&(la L m).over==b) n+zAc (fun m=>isC (la L m)&&(la L m).id==d&&(la L m).over != b) n:=by
 unfold tN;refine zKf (fun m _=>?_) (fun m _=>?_)
 ·cases (la L m).over<;>cases b<;>simp
 ·rintro ⟨h1,h2⟩;simp at h1 h2;exact h2.2 h1.2
theorem zIZ {L:List Lt} (h:∀i,i < L.length→crB L i=Q) (d:Int) (p:Bool→Bool) (hp:∀a b,p a=Q→p b=Q→a=b):zAc (fun m=>isC (la L m)&&(la L m).id==d&&p (la L m).over) L.length≤1:=by
 refine zOV fun i j hi hj h1 h2=>?_
 simp at h1 h2;rcases Nat.decEq i j with e | e
 ·exact absurd (hp _ _ h1.2 h2.2) (zEn h hi hj h1.1.1 h2.1.1 (by rw [h1.1.2,h2.1.2]) e).1
 ·exact e
theorem zXo {L:List Lt} (h:∀i,i < L.length→crB L i=Q) (d:Int):tN L d L.length≤2:=by
 rw [zIY L d Q];have h1:=zIZ h d (fun o=>o==Q) (by simp);have h2:=zIZ h d (fun o=>o != Q) (by simp);omega
theorem zOY {L:List Lt} (he:cN L L.length % 2=0) (h:∀i,i < L.length→crB L i=Q) {d:Nat} (hd:d < cN L L.length / 2):tN L ((d+1:Nat):Int) L.length=2:=by
 have hs:=zOX (L:=L) (n:=L.length) (fun i hi hc=>(zBn.1 (h i hi) hc).1);exact zOT (f:=fun d=>tN L ((d+1:Nat):Int) L.length) (c:=2) (fun i _=>zXo h _) (by omega) d hd
theorem zTQ {L:List Lt} (h:zBM L=Q):dN L L.length=cN L L.length / 2:=by
 unfold zBM at h;simp only [Bool.and_eq_true,decide_eq_true_eq,zAv] at h;obtain ⟨he,h⟩:=h;unfold dN
 rw [zEm (p:=nwB L) (c:=fun i=>((la L i).id-1).toNat) (n:=L.length) (k:=cN L L.length / 2) (by
  intro m hm hc
  unfold nwB at hc
  simp at hc
  have:=(zBn.1 (h m hm) hc.1).1
  omega)]
 refine Eq.trans (zEl (g:=fun _=>1) fun d hd=>?_) (zOW _);have ht:=zOY he h hd;obtain ⟨i,hi,hp,hno⟩:=zRy (p:=fun i=>isC (la L i)&&(la L i).id==((d+1:Nat):Int)) (n:=L.length) (by unfold tN at ht;omega);simp at hp;refine zIy hi ?_ (fun m hm hpm=>?_)
 ·simp only [Bool.and_eq_true,beq_iff_eq];refine ⟨?_,by omega⟩;unfold nwB;simp only [Bool.and_eq_true,zAv];refine ⟨hp.1,fun j hj=>?_⟩;have:=hno j hj;rw [hp.2];simp only [Bool.not_eq_true'];exact this
 ·simp only [Bool.and_eq_true,beq_iff_eq] at hpm;obtain ⟨hnw,hcl⟩:=hpm;unfold nwB at hnw;simp only [Bool.and_eq_true,zAv] at hnw;have hb:=(zBn.1 (h m hm) hnw.1).1;have hid:(la L m).id=((d+1:Nat):Int):=by omega
  rcases Nat.lt_trichotomy m i with hlt | rfl | hgt
  ·have:=hno m hlt;simp [hnw.1] at this;omega
  ·rfl
  ·have:=hnw.2 i hgt;simp [hp.1] at this;omega
theorem zCb (K:Int) (L:List Lt):(zAB K L&&zCx L&&zBM L)=zBH K L:=by
 rw [Bool.eq_iff_iff];unfold zAB zCx zBM zBH;simp only [Bool.and_eq_true,decide_eq_true_eq,zAv];constructor
 ·rintro ⟨⟨hl,hr⟩,he,hc⟩ i hi;have hli:=hl i hi;unfold lpB at hli;unfold rlB;by_cases h1:(la L i).kind=1
  ·rw [if_pos h1] at hli ⊢;have hpi:isP (la L i)=Q:=by unfold isP;simp [h1]
   have hri:=zBo.1 (hr i hi) hpi;simp only [decide_eq_true_eq] at hli ⊢;refine ⟨hli.2.2.1,hli.2.2.2.1,hli.2.2.2.2,hli.1,hli.2.1,hri.1.1,hri.1.2,?_⟩;refine zIy hi (by simp [smB]) (fun m hm hs=>?_);simp [smB] at hs;have hpm:isP (la L m)=Q:=by unfold isP;simp [hs.1.1,h1]
   rcases Nat.lt_trichotomy m i with hlt | rfl | hgt
   ·exact absurd hs.2 (hri.2 m hlt hpm hs.1.2)
   ·rfl
   ·exact absurd hs.2.symm ((zBo.1 (hr m hm) hpm).2 i hgt hpi hs.1.2.symm)
  ·rw [if_neg h1] at hli ⊢;by_cases h2:(la L i).kind=2
   ·rw [if_pos h2] at hli ⊢;have hci:isC (la L i)=Q:=by unfold isC;simp [h2]
    have hcr:=zBn.1 (hc i hi) hci;simp only [decide_eq_true_eq] at hli ⊢;have ht:tN L (la L i).id L.length=2:=by
     have hd:((la L i).id-1).toNat < cN L L.length / 2:=by omega
     have:=zOY he hc hd
     rwa [show ((((la L i).id-1).toNat+1:Nat):Int)=(la L i).id by omega] at this
    refine ⟨hli.1,hli.2.1,hli.2.2,hcr.1.1,hcr.1.2,?_,ht⟩;have hs:=zIY L (la L i).id (la L i).over L.length;have o1:=zIZ hc (la L i).id (fun o=>o==(la L i).over) (by simp);have o2:=zIZ hc (la L i).id (fun o=>o != (la L i).over) (by intro a b;cases a<;>cases b<;>cases (la L i).over<;>simp);have he:prN L (la L i) L.length=zAc (fun m=>isC (la L m)&&(la L m).id==(la L i).id&&(la L m).over != (la L i).over) L.length:=by
     refine zCf fun m hm=>?_
     unfold prB;rw [Bool.eq_iff_iff];simp only [Bool.and_eq_true,beq_iff_eq,bne_iff_ne,isC];constructor
     ·rintro ⟨⟨⟨a,b⟩,c⟩,d⟩;exact ⟨⟨a.trans h2,b⟩,d⟩
     ·rintro ⟨⟨a,b⟩,d⟩;refine ⟨⟨⟨a.trans h2.symm,b⟩,?_⟩,d⟩;have hcm:isC (la L m)=Q:=by unfold isC;simp [a]
      exact (zEn hc hm hi hcm hci b (fun e=>d (by rw [e]))).2
    omega
   ·rw [if_neg h2] at hli;cases hli
 ·intro h;have hl:∀i,i < L.length→lpB K (la L i)=Q:=by
   intro i hi;have:=h i hi;unfold rlB at this;unfold lpB;by_cases h1:(la L i).kind=1
   ·rw [if_pos h1] at this ⊢;simp only [decide_eq_true_eq] at this ⊢;exact ⟨this.2.2.2.1,this.2.2.2.2.1,this.1,this.2.1,this.2.2.1⟩
   ·rw [if_neg h1] at this ⊢;by_cases h2:(la L i).kind=2
    ·rw [if_pos h2] at this ⊢;simp only [decide_eq_true_eq] at this ⊢;exact ⟨this.1,this.2.1,this.2.2.1⟩
    ·rw [if_neg h2] at this;cases this
  have hcx:∀i,i < L.length→isC (la L i)=Q→(1≤(la L i).id∧(la L i).id≤((cN L L.length / 2:Nat):Int))∧prN L (la L i) L.length=1∧tN L (la L i).id L.length=2:=by
   intro i hi hc;have:=h i hi;unfold isC at hc;simp at hc;unfold rlB at this;rw [if_neg (by omega),if_pos hc] at this;simp only [decide_eq_true_eq] at this;exact ⟨⟨this.2.2.2.1,this.2.2.2.2.1⟩,this.2.2.2.2.2.1,this.2.2.2.2.2.2⟩
  refine ⟨⟨hl,fun i hi=>zBo.2 fun hp=>?_⟩,?_,fun i hi=>zBn.2 fun hci=>⟨(hcx i hi hci).1,fun j hj hcj hid=>?_⟩⟩
  ·have hk:(la L i).kind=1:=by unfold isP at hp;simpa using hp
   have:=h i hi;unfold rlB at this;rw [if_pos hk] at this;simp only [decide_eq_true_eq] at this;refine ⟨⟨this.2.2.2.2.2.1,this.2.2.2.2.2.2.1⟩,fun j hj hpj hg hr=>?_⟩;have hkj:(la L j).kind=1:=by unfold isP at hpj;simpa using hpj
   have:=zOS (p:=fun j=>smB (la L i) (la L j)) (Nat.le_of_eq this.2.2.2.2.2.2.2) (i:=i) (j:=j) hi (by omega) (by simp [smB]) (by simp [smB,hk,hkj,hg,hr]);omega
  ·rw [zOX (fun i hi hc=>(hcx i hi hc).1)];refine zOU fun d _=>?_
   rcases Nat.eq_zero_or_pos (tN L ((d+1:Nat):Int) L.length) with h0 | h0
   ·rw [h0]
   ·obtain ⟨m,hm,hp⟩:=zNL h0;simp at hp;have:=(hcx m hm hp.1).2.2;rw [hp.2] at this;rw [show ((d+1:Nat):Int)=(d:Int)+1 by omega,this]
  ·obtain ⟨_,hpr,ht⟩:=hcx i hi hci;have hs:=zIY L (la L i).id (la L i).over L.length;have hsub:∀m,m < L.length→prB (la L i) (la L m)=Q→(isC (la L m)&&(la L m).id==(la L i).id&&(la L m).over != (la L i).over)=Q:=by
    intro m _ hp;unfold isC at hci;simp [prB] at hp hci;simp [isC,hp.1.1.1,hci,hp.1.1.2,hp.2]
   have hle:=zOQ hsub;have h1:=zKg (p:=fun m=>isC (la L m)&&(la L m).id==(la L i).id&&(la L m).over==(la L i).over) hi (by simp [hci]);unfold prN at hpr;have hov:(la L j).over≠(la L i).over:=by
    intro e;have:=zOS (p:=fun m=>isC (la L m)&&(la L m).id==(la L i).id&&(la L m).over==(la L i).over) (n:=L.length) (by omega) (i:=i) (j:=j) hi (by omega) (by simp [hci]) (by simp [hcj,hid,e]);omega
   refine ⟨hov,?_⟩;have:=zTN hsub (by omega) j (by omega) (by simp [hcj,hid,hov]);simp [prB] at this;exact this.1.2
theorem zIz (L:List Lt) (i:Nat) (q:Nat→Bool):∀X:List Nat,(zKh L i X).countP q=X.countP q+(if q i then 1 else 0)
 | []=>by simp [zKh,List.countP_cons]
 | x :: X=>by
  unfold zKh;split
  ·rw [List.countP_cons,List.countP_cons,zIz L i q X];omega
  ·rw [List.countP_cons,List.countP_cons]
theorem zNM (L:List Lt) (q:Nat→Bool) (m:Nat):(zKb L m).countP q=zAc (fun j=>isP (la L j)&&q j) m:=by
 induction m with
 | zero=>rfl
 | succ m ih =>
  unfold zKb zAc
  cases h:isP (la L m) with
  | true=>rw [if_pos rfl,zIz,ih];simp
  | false=>simp [ih]
theorem zMF (L:List Lt) (i:Nat):∀X:List Nat,(zKh L i X).length=X.length+1
 | []=>rfl
 | x :: X=>by unfold zKh;split<;>simp [zMF L i X]
theorem zRz (L:List Lt) (m:Nat):(zKb L m).length=pN L m:=by
 induction m with
 | zero=>rfl
 | succ m ih =>
  unfold zKb pN zAc
  cases h:isP (la L m) with
  | true=>rw [if_pos rfl,zMF,ih];simp [pN]
  | false=>simp [ih,pN]
theorem zEJ (L:List Lt):(axL L).length=pN L L.length:=zRz L _
theorem zJa (L:List Lt) (i x:Nat):∀X:List Nat,x∈zKh L i X↔x=i∨x∈X
 | []=>by simp [zKh]
 | y :: X=>by
  unfold zKh;split
  ·simp [zJa L i x X];constructor<;>(rintro (h | h | h)<;>simp [h])
  ·simp
theorem zFe (L:List Lt) (x m:Nat):x∈zKb L m↔x < m∧isP (la L x)=Q:=by
 induction m with
 | zero=>simp [zKb]
 | succ m ih =>
  unfold zKb
  cases h:isP (la L m) with
  | true =>
   rw [if_pos rfl,zJa,ih];constructor
   ·rintro (rfl | ⟨h1,h2⟩)
    ·exact ⟨by omega,h⟩
    ·exact ⟨by omega,h2⟩
   ·rintro ⟨h1,h2⟩;rcases Nat.decEq x m with e | e
    ·exact .inr ⟨by omega,h2⟩
    ·exact .inl e
  | false =>
   simp only [Bool.false_eq_true,if_false];rw [ih];constructor
   ·rintro ⟨h1,h2⟩;exact ⟨by omega,h2⟩
   ·rintro ⟨h1,h2⟩;refine ⟨?_,h2⟩;rcases Nat.decEq x m with e | e
    ·omega
    ·subst e;rw [h] at h2;cases h2
theorem zCL {a b:Lt}:zEI a b=Q↔a.gate < b.gate∨(a.gate=b.gate∧a.rank < b.rank):=by unfold zEI;simp
theorem zOZ {L:List Lt} {i:Nat}:∀{X:List Nat},X.Pairwise (fun a b=>zEI (la L a) (la L b)=Q)→(∀x∈X,¬((la L x).gate=(la L i).gate∧(la L x).rank=(la L i).rank))→(zKh L i X).Pairwise (fun a b=>zEI (la L a) (la L b)=Q)
 | [],_,_=>by simp [zKh]
 | x :: X,h,hne=>by
  rw [List.pairwise_cons] at h;unfold zKh;split
  ·rename_i hx;rw [List.pairwise_cons];refine ⟨fun y hy=>?_,zOZ h.2 (fun y hy=>hne y (by simp [hy]))⟩;rcases (zJa L i y X).1 hy with rfl | hy
   ·exact hx
   ·exact h.1 y hy
  ·rename_i hx;have hix:zEI (la L i) (la L x)=Q:=by
    have hne':=hne x (by simp);rw [zCL] at hx ⊢;omega
   rw [List.pairwise_cons,List.pairwise_cons];refine ⟨fun y hy=>?_,h⟩;rcases List.mem_cons.1 hy with rfl | hy
   ·exact hix
   ·have:=h.1 y hy;rw [zCL] at this hix ⊢;omega
theorem zLp {L:List Lt} (h:∀i,i < L.length→rkB L i=Q):∀m,m≤L.length→(zKb L m).Pairwise (fun a b=>zEI (la L a) (la L b)=Q)
 | 0,_=>by simp [zKb]
 | m+1,hm=>by
  have ih:=zLp h m (by omega);unfold zKb
  cases hp:isP (la L m) with
  | false=>simpa using ih
  | true =>
   rw [if_pos rfl];refine zOZ ih fun x hx hk=>?_
   rw [zFe] at hx;exact (zBo.1 (h m (by omega)) hp).2 x hx.1 hx.2 hk.1 hk.2
theorem zKi {L:List Lt} {i:Nat}:∀{X:List Nat} {p:Nat},X.Pairwise (fun a b=>zEI (la L a) (la L b)=Q)→X[p]? = Z i→X.countP (fun j=>zEI (la L j) (la L i))=p
 | [],p,_,h=>by simp at h
 | x :: X,0,h,hx=>by
  simp at hx;subst hx
  rw [List.pairwise_cons] at h;rw [List.countP_cons,List.countP_eq_zero.2]
  ·have:zEI (la L x) (la L x)=E:=by
    cases hq:zEI (la L x) (la L x) with
    | false=>rfl
    | true=>rw [zCL] at hq;omega
   rw [this];rfl
  ·intro y hy hq;have:=h.1 y hy;rw [zCL] at this hq;omega
 | x :: X,p+1,h,hx=>by
  simp at hx;rw [List.pairwise_cons] at h;rw [List.countP_cons,zKi h.2 hx,h.1 i (List.mem_of_getElem? hx)];rfl
def fsN (L:List Lt) (g:Nat):Nat:=zGV (fun d=>gN L (d:Int) L.length) g
def atN (L:List Lt) (i:Nat):Nat:=fsN L (la L i).gate.toNat+((la L i).rank.toNat-1)
theorem zFY {L:List Lt} (hg:∀i,i < L.length→isP (la L i)=Q→0≤(la L i).gate) (h:∀i,i < L.length→rkB L i=Q) {i:Nat} (hi:i < L.length) (hp:isP (la L i)=Q) :
  zAc (fun j=>isP (la L j)&&zEI (la L j) (la L i)) L.length=atN L i:=by
 rw [zKf (p:=fun j=>isP (la L j)&&decide ((la L j).gate < (la L i).gate)) (q:=fun j=>(isP (la L j)&&(la L j).gate==(la L i).gate)&&decide ((la L j).rank≤(((la L i).rank.toNat-1:Nat):Int)))]
 ·unfold atN;have hr:=(zBo.1 (h i hi) hp).1
  congr 1
  ·rw [zEm (c:=fun j=>(la L j).gate.toNat) (k:=(la L i).gate.toNat) (by
    intro m hm hq
    simp at hq
    have:=hg m hm hq.1
    omega)]
   refine zEl fun d hd=>zCf fun m hm=>?_
   cases hq:isP (la L m) with
   | false=>rfl
   | true =>
    have:=hg m hm hq;simp only [Bool.true_and];rw [Bool.eq_iff_iff];simp;omega
  ·refine zTl (p:=fun j=>isP (la L j)&&(la L j).gate==(la L i).gate) (f:=fun j=>(la L j).rank) ?_ ?_ _ ?_
   ·intro m hm hq;simp at hq;have:=(zBo.1 (h m hm) hq.1).1;rw [hq.2] at this;exact this
   ·intro a b ha hb hqa hqb e;simp at hqa hqb;rcases Nat.lt_trichotomy a b with hlt | rfl | hgt
    ·exact absurd e ((zBo.1 (h b hb) hqb.1).2 a hlt hqa.1 (by rw [hqa.2,hqb.2]))
    ·rfl
    ·exact absurd e.symm ((zBo.1 (h a ha) hqa.1).2 b hgt hqb.1 (by rw [hqa.2,hqb.2]))
   ·have:(la L i).rank≤((zAc (fun j=>isP (la L j)&&(la L j).gate==(la L i).gate) L.length:Nat):Int):=hr.2;omega
 ·intro m hm;have hr:=(zBo.1 (h i hi) hp).1
  cases hq:isP (la L m) with
  | false=>rfl
  | true =>
   simp only [Bool.true_and];rw [Bool.eq_iff_iff];simp [zEI];omega
 ·rintro m _ ⟨h1,h2⟩;simp at h1 h2;omega
theorem zVN {L:List Lt} (hg:∀i,i < L.length→isP (la L i)=Q→0≤(la L i).gate) (h:∀i,i < L.length→rkB L i=Q) {i:Nat} (hi:i < L.length) (hp:isP (la L i)=Q):(axL L)[atN L i]? = Z i:=by
 have hm:i∈axL L:=(zFe L i _).2 ⟨hi,hp⟩;obtain ⟨p,hlt,he⟩:=List.getElem_of_mem hm;have gI:(axL L)[p]? = Z i:=by rw [List.getElem?_eq_getElem hlt,he]
 have:=zKi (zLp h _ (Nat.le_refl _)) gI;rw [zNM,zFY hg h hi hp] at this;rw [this];exact gI
theorem zJb {L:List Lt} (h:∀i,i < L.length→rkB L i=Q):(axL L).Nodup:=by
 refine (zLp h _ (Nat.le_refl _)).imp fun hab e=>?_
 subst e;rw [zCL] at hab;omega
theorem zHq {X:List Nat} (hn:X.Nodup) {p v:Nat} (h:X[p]? = Z v):zTP X v=p:=by
 unfold zTP
 induction X generalizing p with
 | nil=>simp at h
 | cons x X ih =>
  rw [List.nodup_cons] at hn;rw [List.findIdx_cons]
  cases p with
  | zero=>simp at h;subst h;simp
  | succ p =>
   simp at h;have:(x==v)=E:=by simpa using (fun e=>hn.1 (by rw [e];exact List.mem_of_getElem? h):¬x=v)
   rw [this,ih hn.2 h];rfl
end Go.Proofs.YtlmdfmnbcndhoaaGreatDoor
namespace Go.Proofs.YtlmdfmnbcndhoaaGreatDoor
theorem zPa {s:List Bool} {x y:Nat}:sat (s.set x Q) y=(sat s y||decide (x=y)):=by
 unfold sat;rw [List.getElem?_set];by_cases h:x=y
 ·subst h;by_cases hl:x < s.length
  ·simp [hl]
  ·simp [hl]
 ·simp [h]
def unN (s:List Bool):Nat:=s.countP (fun b=>!b)
theorem zHr:∀{s:List Bool} {x:Nat},sat s x=E→unN (s.set x Q)+1=unN s
 | [],x,h=>by simp [sat] at h
 | b :: s,0,h=>by simp [sat] at h;subst h;simp [unN]
 | b :: s,x+1,h=>by
  have:=zHr (s:=s) (x:=x) (by simpa [sat] using h);unfold unN at this ⊢;simp only [List.set_cons_succ,List.countP_cons];omega
theorem zLq {s:List Bool} {x:Nat} (h:sat s x=E):0 < unN s:=by have:=zHr h;omega
theorem zPb (s:List Bool):unN s≤s.length:=List.countP_le_length
def zGB (f:Nat→Nat) (d:Nat):List Nat→Nat→Prop
 | [],x=>x=d
 | p :: P,x=>x=f p∧zGB f d P p
theorem zMG {f:Nat→Nat} {d:Nat}:∀{P:List Nat} {x q:Nat},zGB f d P x→q∈P→q=d∨∃r,r∈P∧q=f r
 | [],_,_,_,h=>by cases h
 | p :: P,x,q,hp,hq=>by
  rcases List.mem_cons.1 hq with rfl | hq
  ·cases P with
   | nil=>exact .inl hp.2
   | cons r P=>exact .inr ⟨r,by simp,hp.2.1⟩
  ·rcases zMG hp.2 hq with h | ⟨r,hr,h⟩
   ·exact .inl h
   ·exact .inr ⟨r,by simp [hr],h⟩
theorem zFZ {f:Nat→Nat} {d N:Nat} (inj:∀x y,x < N→y < N→f x=f y→x=y) {p:Nat}:∀{P ZS:List Nat} {q:Nat},zGB f d (ZS++p :: P) q→(ZS++p :: P).Nodup→(∀y∈ZS++p :: P,y < N)→∀r,r∈p :: P→r≠d→∃t,t∈P∧r=f t
 | P,[],q,hp,hn,hN,r,hr,hd=>by
  rcases List.mem_cons.1 hr with rfl | hr'
  ·cases P with
   | nil=>exact absurd hp.2 hd
   | cons t P=>exact ⟨t,by simp,hp.2.1⟩
  ·rcases zMG hp.2 hr' with h | ⟨t,ht,h⟩
   ·exact absurd h hd
   ·exact ⟨t,ht,h⟩
 | P,c :: ZS,q,hp,hn,hN,r,hr,hd=>zFZ inj (P:=P) (ZS:=ZS) hp.2 (List.nodup_cons.1 hn).2 (fun y hy=>hN y (by simp at hy ⊢;exact .inr hy)) r hr hd
def zVJ (f:Nat→Nat) (N:Nat) (s:List Bool):Prop:=∀y,y < N→sat s (f y)=Q→sat s y=Q
end Go.Proofs.YtlmdfmnbcndhoaaGreatDoor
