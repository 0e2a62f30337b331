/-
  Lemmas. Conditions: each one's own.
-/
import Derived.Test.YtlmdfmnbcndhoaaGreatDoorProg
import Derived.WalkKit
import Derived.Deep.QuietTactic
import Derived.BigQuiet
import Derived.Lib.Hide
import Derived.Laws.OwnMore
import Derived.Maps.AppendAt
import Derived.Deep.AppendLies
import Derived.Deep.LoopGhost
import Derived.Deep.DeepFit
import Derived.Deep.DeepMust
import Derived.Outline
import Derived.Lib.ItoaNum
import Derived.Deep.RegionHeld3
import Derived.Deep.RegionLaw
import Derived.ArgAppend
open Go.RowKit
set_option maxHeartbeats 400000
open Go.RowKit renaming Below->ZZ
open Go renaming World->ZY
open Go.Value renaming bool->G,int->D,slice->H
open Bool renaming false->E,true->Q
open Option renaming none->U,some->Z
open Go.IntKind renaming i64->J
open Nat renaming le_refl->O
open Go.RowKit.Below renaming refl->M
open Go.Proofs.Tryz renaming prog->ZX
namespace Go.Proofs.YtlmdfmnbcndhoaaGreatDoor
theorem qH {p:Prop} (h:p):Hid p:=Lib.hid h
theorem qN {c:Prop} {d:Decidable c} (h:¬c) {α:Type _} {t e:α}:@ite α c d t e=e:=if_neg h
theorem qP {c:Prop} {d:Decidable c} (h:c) {α:Type _} {t e:α}:@ite α c d t e=t:=if_pos h
theorem zAg {B:Nat} {a w:ZY} (h:ZZ B a w) (n:Nat):ZZ B a (w.drewN n):=⟨h.os,h.tape,h.output,h.size,h.block⟩
theorem zAa {B C:Nat} {a b c:ZY} (h:ZZ B a b) (k:ZZ C b c) (hB:B<=C):ZZ B a c:=h.trans (k.mono hB)
def I64 (x:Int):Prop:=-9223372036854775808<=x/\x<=9223372036854775807
theorem zAm {a b:Bool} (h:a=b):Ending.returned (G a)=.returned (G b):=by rw [h]
theorem zCv {k:IntKind} {a b:Int} (h:a=b):Ending.returned (D k a)=.returned (D k b):=by rw [h]
structure Fg where
 p:Int
 r:Bool
 d:Int
instance : DecidableEq Fg := fun a b =>
 if h:a.p=b.p/\a.r=b.r/\a.d=b.d then .isTrue (by cases a;cases b;simp at h;simp [h])
 else .isFalse (fun e=>h (by subst e;simp))
def fgB (x y:Fg):Bool:=x.p==y.p&&x.r==y.r&&x.d==y.d
theorem zLm {x y:Fg}:fgB x y=Q↔x=y:=by
 cases x;cases y
 simp [fgB,and_assoc]
theorem zMx (x:Fg):fgB x x=Q:=zLm.2 rfl
def df:Fg:=⟨0,E,0⟩
def fa (L:List Fg) (i:Nat):Fg:=(L[i]?).getD df
theorem zYa {L:List Fg} {i:Nat} {x:Fg} (h:L[i]? = Z x):fa L i=x:=by unfold fa;rw [h];rfl
theorem zMy {L:List Fg} {i:Nat} (h:i < L.length):L[i]? = Z (fa L i):=by unfold fa;rw [List.getElem?_eq_getElem h];rfl
def zAN:List Fg->Fg->Nat
 | [],_=>0
 | x :: L,f=>if x=f then 1 else if zAN L f=0 then 0 else zAN L f+1
theorem zEW {f:Fg}:∀{L:List Fg},(∀j:Nat,L[j]?≠Z f)->zAN L f=0
 | [],_=>rfl
 | x :: L,h=>by
  have h0:x≠f:=fun e=>h 0 (by rw [e];rfl)
  have h1:zAN L f=0:=zEW fun j e=>h (j+1) (by simpa using e)
  rw [zAN,qN h0,qP h1]
theorem zGZ {f:Fg}:∀{L:List Fg} {i:Nat},L[i]? = Z f->(∀j,j < i->L[j]?≠Z f)->zAN L f=i+1
 | [],i,h,_=>by simp at h
 | x :: L,0,h,_=>by
  have:x=f:=by simpa using h
  rw [zAN,qP this]
 | x :: L,i+1,h,hj=>by
  have h0:x≠f:=fun e=>hj 0 (by omega) (by rw [e];rfl)
  have h1:zAN L f=i+1:=zGZ (by simpa using h) fun j hji e=>hj (j+1) (by omega) (by simpa using e)
  rw [zAN,qN h0,h1,qN (by omega)]
theorem zIR {f:Fg}:∀{L:List Fg} {i:Nat},zAN L f=i+1->L[i]? = Z f/\∀j,j < i->L[j]?≠Z f
 | [],i,h=>by simp [zAN] at h
 | x :: L,i,h=>by
  rw [zAN] at h;by_cases h0:x=f
  ·rw [qP h0] at h;obtain rfl:i=0:=by omega
   exact ⟨by rw [h0];rfl,fun j hj=>by omega⟩
  ·rw [qN h0] at h;by_cases h1:zAN L f=0
   ·rw [qP h1] at h;omega
   ·rw [qN h1] at h;obtain ⟨k,rfl⟩:∃k,i=k+1:=⟨i-1,by omega⟩
    obtain ⟨h2,h3⟩:=zIR (L:=L) (i:=k) (f:=f) (by omega);refine ⟨by simpa using h2,fun j hj=>?_⟩;rcases j with _ | j
    ·intro e;exact h0 (by simpa using e)
    ·intro e;exact h3 j (by omega) (by simpa using e)
theorem zKc {f:Fg} {L:List Fg} (h:zAN L f=0):∀j:Nat,L[j]?≠Z f:=by
 intro j e;have hx:∃i:Nat,L[i]? = Z f/\∀j:Nat,j < i->L[j]?≠Z f:=by
  induction j using Nat.strongRecOn with
  | _ j ih =>
   by_cases hm:∃k:Nat,k < j/\L[k]? = Z f
   ·obtain ⟨k,hk,hkf⟩:=hm;exact ih k hk hkf
   ·exact ⟨j,e,fun k hk e2=>hm ⟨k,hk,e2⟩⟩
 obtain ⟨i,h1,h2⟩:=hx;have:=zGZ h1 h2;omega
theorem zDF {f:Fg} {L:List Fg}:zAN L f<=L.length:=by
 cases h:zAN L f with
 | zero=>omega
 | succ i=>have:=(List.getElem?_eq_some_iff.1 (zIR h).1).1;omega
theorem zKd {L:List Fg} {i:Nat} (hi:i < L.length):zAN (L.take i) (fa L i)=0↔zAN L (fa L i)=i+1:=by
 constructor
 ·intro h;refine zGZ (zMy hi) fun j hj e=>?_
  have:=zKc h j;rw [List.getElem?_take_of_lt hj] at this;exact this e
 ·intro h;refine zEW fun j e=>?_
  rw [List.getElem?_take] at e;split at e
  ·rename_i hj;exact (zIR h).2 j hj e
  ·cases e
def zAn (f:Fg):Bool:=decide (1<=f.p)&&decide (f.p<=9)&&decide (0<=f.d)&&decide (f.d<=6)
theorem zAv {f:Fg}:zAn f=Q↔1<=f.p/\f.p<=9/\0<=f.d/\f.d<=6:=by simp [zAn,and_assoc]
def zDj (L:List Fg) (i:Nat):Bool:=zAn (fa L i)&&decide (zAN (L.take i) (fa L i)=0)
def frOk (L:List Fg) (re lo:Int):Prop:=L.length<=40/\0<=re/\re<=40/\1<=lo/\lo<=20/\∀i,i < L.length->zDj L i=Q
def frB (L:List Fg) (re lo:Int):Bool :=
 decide (L.length<=40)&&decide (0<=re)&&decide (re<=40)&&decide (1<=lo)&&decide (lo<=20)&&(List.range L.length).all fun i=>zDj L i
theorem zCQ {L:List Fg} {re lo:Int}:frB L re lo=Q↔frOk L re lo:=by simp [frB,frOk,and_assoc]
theorem frOk.there {L:List Fg} {re lo:Int} (h:frOk L re lo) {i:Nat} (hi:i < L.length):zAn (fa L i)=Q:=by
 have:=h.2.2.2.2.2 i hi;unfold zDj at this;simp only [Bool.and_eq_true] at this;exact this.1
def zAj (f:Fg):List UInt8:=(if f.p=1 then [] else Lib.itoa f.p)++(if f.r then 82 else 76) :: Lib.itoa f.d
theorem zUo:(Tryz.prog.info? 3).map (fun i=>(i.zero,i.size,i.bytes))=Z (Z (D J 0),1,8):=by kernel_rfl
structure Own (w:ZY) (base:Nat) (A:Option Addr) (n c:Nat) (L:List Int):Prop where
 row:w.ownsRow base 3 1 (H A n c) n (L.map (Value.int J))
 len:L.length=n
 le:n<=17592186044416
 fits:∀x∈L,I64 x
def blk:Option Addr->Option Nat
 | some a=>Z a.block
 | none=>U
theorem zUp (A:Option Addr) (n c:Nat):Value.ownBlock (H A n c)=blk A:=by cases A<;>rfl
section
variable {w w':ZY} {base:Nat} {A:Option Addr} {n c:Nat} {L:List Int}
end
def NoneTo (p:Nat->Bool) (n:Nat):Prop:=∀i,i < n->p i=E
theorem NoneTo.zero (p:Nat->Bool):NoneTo p 0:=fun i h=>by omega
theorem NoneTo.succ {p:Nat->Bool} {n:Nat} (h:NoneTo p n) (hn:p n=E):NoneTo p (n+1):=fun i hi=>by
 by_cases e:i=n
 ·subst e;exact hn
 ·exact h i (by omega)
def zGn (p:Nat->Bool) (n:Nat):Int:=match (List.range n).find? p with
 | some i=>i
 | none=>-1
theorem zKe {p:Nat->Bool} {n:Nat} (h:NoneTo p n):(List.range n).find? p=U:=by
 rw [List.find?_eq_none];intro i hi;rw [List.mem_range] at hi;rw [h i hi];simp
theorem zRx {p:Nat->Bool} {n k:Nat} (h:NoneTo p k) (hk:p k=Q) (hn:k < n):(List.range n).find? p=Z k:=by
 induction n with
 | zero=>omega
 | succ n ih =>
  rw [List.range_succ,List.find?_append];by_cases e:k < n
  ·rw [ih e];rfl
  ·have:k=n:=by omega
   subst this;rw [zKe h];simp [hk]
theorem zEB {p:Nat->Bool} {n:Nat} (h:NoneTo p n):zGn p n = -1:=by unfold zGn;rw [zKe h]
theorem zFM {p:Nat->Bool} {n k:Nat} (h:NoneTo p k) (hk:p k=Q) (hn:k < n):zGn p n=k:=by unfold zGn;rw [zRx h hk hn]
theorem zKf (p:Nat->Bool) (n:Nat):(zGn p n = -1/\NoneTo p n)∨∃k,k < n/\zGn p n=(k:Int)/\NoneTo p k/\p k=Q:=by
 induction n with
 | zero=>exact .inl ⟨zEB (NoneTo.zero p),NoneTo.zero p⟩
 | succ n ih =>
  rcases ih with ⟨_,h⟩ | ⟨k,hk,he,hn,hp⟩
  ·cases hp:p n with
   | false=>exact .inl ⟨zEB (h.succ hp),h.succ hp⟩
   | true=>exact .inr ⟨n,by omega,zFM h hp (by omega),h,hp⟩
  ·exact .inr ⟨k,by omega,zFM hn hp (by omega),hn,hp⟩
def zGC (p:Nat->Bool) (n:Nat):Bool:=(List.range n).all p
theorem zEX {p:Nat->Bool} {n k:Nat} (hk:k < n) (h:p k=E):zGC p n=E:=by
 unfold zGC;rw [List.all_eq_false];exact ⟨k,List.mem_range.2 hk,by simp [h]⟩
theorem zAL {p:Nat->Bool} {n:Nat}:zGC p n=Q↔∀i,i < n->p i=Q:=by
 unfold zGC;rw [List.all_eq_true];exact ⟨fun h i hi=>h i (List.mem_range.2 hi),fun h i hi=>h i (List.mem_range.1 hi)⟩
def zAe (p:Nat->Bool):Nat->Nat
 | 0=>0
 | n+1=>zAe p n+(if p n then 1 else 0)
theorem zCS (p:Nat->Bool) (n:Nat):zAe p n<=n:=by
 induction n with
 | zero=>exact O _
 | succ n ih=>unfold zAe;split<;>omega
theorem zAY {p:Nat->Bool} {n:Nat} (h:p n=Q):zAe p (n+1)=zAe p n+1:=by simp [zAe,h]
theorem zAG {p:Nat->Bool} {n:Nat} (h:p n=E):zAe p (n+1)=zAe p n:=by simp [zAe,h]
theorem zEY {p q:Nat->Bool} {n:Nat} (h:∀m,m < n->p m=q m):zAe p n=zAe q n:=by
 induction n with
 | zero=>rfl
 | succ n ih =>
  unfold zAe;rw [ih (fun m hm=>h m (by omega)),h n (by omega)]
theorem zIS {p:Nat->Bool} {n:Nat} (h:∀m,m < n->p m=E):zAe p n=0:=by
 induction n with
 | zero=>rfl
 | succ n ih=>rw [zAG (h n (by omega))];exact ih (fun m hm=>h m (by omega))
theorem zTC {p q:Nat->Bool} {n:Nat} (h:∀m,m < n->p m=Q->q m=Q):zAe p n<=zAe q n:=by
 induction n with
 | zero=>exact O _
 | succ n ih =>
  have:=ih (fun m hm=>h m (by omega));have h2:=h n (by omega);unfold zAe
  cases hp:p n<;>cases hq:q n<;>simp [hp,hq] at h2 ⊢<;>omega
theorem zUq {p q:Nat->Bool} {n i:Nat} (h:∀m,m < n->p m=Q->q m=Q) (hi:i < n) (hq:q i=Q) (hp:p i=E):zAe p n+1<=zAe q n:=by
 induction n with
 | zero=>omega
 | succ n ih =>
  by_cases e:i=n
  ·subst e;rw [zAG hp,zAY hq];have:=zTC (n:=i) (fun m hm=>h m (by omega));omega
  ·have:=ih (fun m hm=>h m (by omega)) (by omega);have h2:=h n (by omega);unfold zAe
   cases hp:p n<;>cases hq:q n<;>simp [hp,hq] at h2 ⊢<;>omega
theorem zIr {p:Nat->Bool} {n i:Nat} (hi:i < n) (hp:p i=Q) (h:∀m,m < n->p m=Q->m=i):zAe p n=1:=by
 induction n with
 | zero=>omega
 | succ n ih =>
  by_cases e:i=n
  ·subst e;rw [zAY hp,zIS];intro m hm
   cases hq:p m with
   | false=>rfl
   | true=>have:=h m (by omega) hq;omega
  ·have hn:p n=E:=by
    cases hq:p n with
    | false=>rfl
    | true=>have:=h n (by omega) hq;omega
   rw [zAG hn];exact ih (by omega) (fun m hm=>h m (by omega))
theorem zOR {p q r:Nat->Bool} {n:Nat} (h:∀m,m < n->r m=(p m||q m)) (hd:∀m,m < n->¬(p m=Q/\q m=Q)):zAe r n=zAe p n+zAe q n:=by
 induction n with
 | zero=>rfl
 | succ n ih =>
  have:=ih (fun m hm=>h m (by omega)) (fun m hm=>hd m (by omega));have h2:=h n (by omega);have h3:=hd n (by omega);unfold zAe
  cases hp:p n<;>cases hq:q n<;>simp [hp,hq] at h2 h3<;>simp [h2]<;>omega
theorem zKg {p:Nat->Bool} {n i:Nat} (hi:i < n) (hp:p i=Q):0 < zAe p n:=by
 have h:∀m,m < n->(fun _:Nat=>E) m=Q->p m=Q:=fun _ _ e=>by cases e
 have:=zUq h hi hp rfl;omega
theorem zUr {p:Nat->Bool} {n:Nat} (h:0 < zAe p n):∃i,i < n/\p i=Q:=by
 induction n with
 | zero=>exact absurd h (by simp [zAe])
 | succ n ih =>
  cases hp:p n with
  | true=>exact ⟨n,by omega,hp⟩
  | false =>
   rw [zAG hp] at h;obtain ⟨i,hi,hpi⟩:=ih h;exact ⟨i,by omega,hpi⟩
theorem zOS {p:Nat->Bool} {n i j:Nat} (h:zAe p n<=1) (hi:i < n) (hj:j < n) (hpi:p i=Q) (hpj:p j=Q):i=j:=by
 rcases Nat.decEq i j with e | e
 ·have h1:zAe (fun m=>decide (m=i)) n=1:=zIr hi (by simp) (by intro m _ hm;simpa using hm);have h2:=zUq (p:=fun m=>decide (m=i)) (q:=p) (n:=n) (i:=j) (fun m _ hm=>by simp at hm;subst hm;exact hpi) hj hpj (by simp;omega);omega
 ·exact e
theorem zUs {p q:Nat->Bool} {n:Nat} (h:∀m,m < n->p m=Q->q m=Q) (e:zAe q n<=zAe p n):∀m,m < n->q m=Q->p m=Q:=by
 intro m hm hq
 cases hp:p m with
 | true=>rfl
 | false=>have:=zUq h hm hq hp;omega
def zGH (f:Nat->Nat):Nat->Nat
 | 0=>0
 | n+1=>zGH f n+f n
theorem zRy (f g:Nat->Nat) (n:Nat):zGH (fun i=>f i+g i) n=zGH f n+zGH g n:=by
 induction n with
 | zero=>rfl
 | succ n ih=>simp only [zGH];rw [ih];omega
theorem zEg {f g:Nat->Nat} {n:Nat} (h:∀i,i < n->f i=g i):zGH f n=zGH g n:=by
 induction n with
 | zero=>rfl
 | succ n ih=>simp only [zGH];rw [ih (fun i hi=>h i (by omega)),h n (by omega)]
theorem zHa {f:Nat->Nat} {n:Nat} (h:∀i,i < n->f i=0):zGH f n=0:=by
 induction n with
 | zero=>rfl
 | succ n ih=>simp only [zGH];rw [ih (fun i hi=>h i (by omega)),h n (by omega)]
theorem zRz {f:Nat->Nat} {n i:Nat} (hi:i < n) (h:∀j,j < n->j≠i->f j=0):zGH f n=f i:=by
 induction n with
 | zero=>omega
 | succ n ih =>
  simp only [zGH];by_cases e:i=n
  ·subst e;rw [zHa (fun j hj=>h j (by omega) (by omega))];omega
  ·rw [ih (by omega) (fun j hj hne=>h j (by omega) hne),h n (by omega) (fun h'=>e h'.symm)];omega
theorem zUt {f:Nat->Nat} {n c:Nat} (h:∀i,i < n->f i<=c):zGH f n<=n*c:=by
 induction n with
 | zero=>simp [zGH]
 | succ n ih =>
  simp only [zGH];have:=ih (fun i hi=>h i (by omega));have h2:=h n (by omega);rw [Nat.add_mul];omega
theorem zOT {f:Nat->Nat} {n c:Nat} (h:∀i,i < n->f i<=c) (e:n*c<=zGH f n):∀i,i < n->f i=c:=by
 induction n with
 | zero=>intro i hi;omega
 | succ n ih =>
  simp only [zGH] at e;have h1:=zUt (f:=f) (n:=n) (c:=c) (fun i hi=>h i (by omega));have h2:=h n (by omega);rw [Nat.add_mul] at e;intro i hi;by_cases e':i=n
  ·subst e';omega
  ·exact ih (fun i hi=>h i (by omega)) (by omega) i (by omega)
theorem zOU {f:Nat->Nat} {n:Nat} (h:∀i,i < n->f i % 2=0):zGH f n % 2=0:=by
 induction n with
 | zero=>rfl
 | succ n ih =>
  have:=ih (fun i hi=>h i (by omega));have h2:=h n (by omega);simp only [zGH];omega
theorem zEh {p:Nat->Bool} {c:Nat->Nat} {n k:Nat} (h:∀m,m < n->p m=Q->c m < k):zAe p n=zGH (fun d=>zAe (fun m=>p m&&c m==d) n) k:=by
 induction n with
 | zero=>exact (zHa (fun _ _=>rfl)).symm
 | succ n ih =>
  have ih':=ih (fun m hm=>h m (by omega));simp only [zAe];rw [zRy,ih']
  congr 1
  by_cases hp:p n=Q
  ·rw [qP hp,zRz (i:=c n) (h n (by omega) hp) (by
    intro j _ hj
    have:¬c n=j:=fun e=>hj e.symm
    simp [this])]
   simp [hp]
  ·rw [qN hp];exact (zHa (fun _ _=>by simp [hp])).symm
theorem zWn {p:Nat->Bool} {f:Nat->Int} {n:Nat} (hb:∀m,m < n->p m=Q->1<=f m/\f m<=zAe p n) (hd:∀i j,i < n->j < n->p i=Q->p j=Q->f i=f j->i=j) :
  ∀v:Nat,v<=zAe p n->zAe (fun m=>p m&&decide (f m<=(v:Int))) n=v:=by
 have step:∀v:Nat,zAe (fun m=>p m&&decide (f m<=((v+1:Nat):Int))) n<=zAe (fun m=>p m&&decide (f m<=(v:Int))) n+1:=by
  intro v;rw [zOR (p:=fun m=>p m&&decide (f m<=(v:Int))) (q:=fun m=>p m&&decide (f m=((v+1:Nat):Int)))]
  ·refine Nat.add_le_add_left ?_ _;by_cases hx:∃k,k < n/\(p k&&decide (f k=((v+1:Nat):Int)))=Q
   ·obtain ⟨k,hk,hp⟩:=hx;simp at hp;refine Nat.le_of_eq (zIr hk (by simp [hp]) fun m hm hpm=>?_);simp at hpm;exact hd m k hm hk hpm.1 hp.1 (by omega)
   ·rw [zIS]
    ·omega
    ·intro m hm
     cases hq:(p m&&decide (f m=((v+1:Nat):Int))) with
     | false=>rfl
     | true=>exact absurd ⟨m,hm,hq⟩ hx
  ·intro m _
   cases p m
   ·rfl
   ·simp only [Bool.true_and];rw [<-Bool.decide_or];apply decide_eq_decide.2;omega
  ·intro m _ ⟨h1,h2⟩;simp at h1 h2;omega
 have h0:zAe (fun m=>p m&&decide (f m<=((0:Nat):Int))) n=0:=zIS fun m hm=>by
  cases hp:p m with
  | false=>rfl
  | true =>
   have:=(hb m hm hp).1;have:¬f m<=((0:Nat):Int):=by omega
   simp only [this,decide_false,Bool.and_false]
 have hup:∀v k:Nat,zAe (fun m=>p m&&decide (f m<=((v+k:Nat):Int))) n<=zAe (fun m=>p m&&decide (f m<=(v:Int))) n+k:=by
  intro v k
  induction k with
  | zero=>exact O _
  | succ k ih =>
   have:=step (v+k);rw [show v+(k+1)=v+k+1 by omega];omega
 have hall:zAe (fun m=>p m&&decide (f m<=((zAe p n:Nat):Int))) n=zAe p n:=zEY fun m hm=>by
  cases hp:p m with
  | false=>rfl
  | true=>have:=(hb m hm hp).2;simp [this]
 intro v hv;have a1:=hup 0 v;rw [Nat.zero_add] at a1;have a2:=hup v (zAe p n-v);rw [show v+(zAe p n-v)=zAe p n by omega,hall] at a2;omega
structure Lt where
 kind:Int
 gate:Int
 rank:Int
 id:Int
 sign:Int
 over:Bool
instance : DecidableEq Lt := fun a b =>
 if h:a.kind=b.kind/\a.gate=b.gate/\a.rank=b.rank/\a.id=b.id/\a.sign=b.sign/\a.over=b.over then
  .isTrue (by cases a;cases b;simp at h;simp [h])
 else .isFalse (fun e=>h (by subst e;simp))
def dl:Lt:=⟨0,0,0,0,0,E⟩
def la (L:List Lt) (i:Nat):Lt:=(L[i]?).getD dl
theorem zRA {L:List Lt} {i:Nat} {x:Lt} (h:L[i]? = Z x):la L i=x:=by unfold la;rw [h];rfl
def isP (l:Lt):Bool:=l.kind==1
def isC (l:Lt):Bool:=l.kind==2
theorem zOV {l:Lt} (h:isP l=Q):isC l=E:=by unfold isP at h;unfold isC;simp at h ⊢;omega
def pN (L:List Lt) (m:Nat):Nat:=zAe (fun i=>isP (la L i)) m
def cN (L:List Lt) (m:Nat):Nat:=zAe (fun i=>isC (la L i)) m
def gN (L:List Lt) (g:Int) (m:Nat):Nat:=zAe (fun i=>isP (la L i)&&(la L i).gate==g) m
def tN (L:List Lt) (d:Int) (m:Nat):Nat:=zAe (fun i=>isC (la L i)&&(la L i).id==d) m
def dwn (L:List Lt) (i:Nat):Bool:=pN L i % 2==0
def smB (l o:Lt):Bool:=o.kind==l.kind&&o.gate==l.gate&&o.rank==l.rank
def smN (L:List Lt) (l:Lt) (m:Nat):Nat:=zAe (fun j=>smB l (la L j)) m
def prB (l o:Lt):Bool:=o.kind==l.kind&&o.id==l.id&&o.sign==l.sign&&o.over != l.over
def prN (L:List Lt) (l:Lt) (m:Nat):Nat:=zAe (fun j=>prB l (la L j)) m
def rlB (K:Int) (L:List Lt) (l:Lt):Bool :=
 if l.kind=1 then decide (l.id=0/\l.sign=0/\l.over=E/\0<=l.gate/\l.gate<=K/\1<=l.rank/\l.rank<=(gN L l.gate L.length:Int)/\smN L l L.length=1)
 else if l.kind=2 then decide (l.gate=0/\l.rank=0/\(l.sign=1∨l.sign = -1)/\1<=l.id/\l.id<=((cN L L.length / 2:Nat):Int)/\prN L l L.length=1/\tN L l.id L.length=2)
 else E
def zIT (K:Int) (L:List Lt):Bool:=zGC (fun i=>rlB K L (la L i)) L.length
def lpB (K:Int) (l:Lt):Bool :=
 if l.kind=1 then decide (0<=l.gate/\l.gate<=K/\l.id=0/\l.sign=0/\l.over=E)
 else if l.kind=2 then decide (l.gate=0/\l.rank=0/\(l.sign=1∨l.sign = -1))
 else E
def zAE (K:Int) (L:List Lt):Bool:=zGC (fun i=>lpB K (la L i)) L.length
def keyB (a b:Lt):Bool:=a.gate==b.gate&&a.rank==b.rank
def rkB (L:List Lt) (i:Nat):Bool :=
 !isP (la L i)||(decide (1<=(la L i).rank/\(la L i).rank<=(gN L (la L i).gate L.length:Int))&&zGC (fun j=>!(isP (la L j)&&keyB (la L j) (la L i))) i)
def zCw (L:List Lt):Bool:=zGC (rkB L) L.length
def crB (L:List Lt) (i:Nat):Bool :=
 !isC (la L i)||(decide (1<=(la L i).id/\(la L i).id<=((cN L L.length / 2:Nat):Int))&&zGC (fun j=>!(isC (la L j)&&(la L j).id==(la L i).id)||((la L j).over != (la L i).over&&(la L j).sign==(la L i).sign)) i)
def zBK (L:List Lt):Bool:=decide (cN L L.length % 2=0)&&zGC (crB L) L.length
def nwB (L:List Lt) (i:Nat):Bool:=isC (la L i)&&zGC (fun j=>!(isC (la L j)&&(la L j).id==(la L i).id)) i
def dN (L:List Lt) (m:Nat):Nat:=zAe (nwB L) m
def zNC (a b:Lt):Bool:=decide (a.gate < b.gate)||(a.gate==b.gate&&decide (a.rank < b.rank))
def zND (L:List Lt) (i:Nat):List Nat->List Nat
 | []=>[i]
 | x :: X=>if zNC (la L x) (la L i) then x :: zND L i X else i :: x :: X
def zNE (L:List Lt):Nat->List Nat
 | 0=>[]
 | m+1=>if isP (la L m) then zND L m (zNE L m) else zNE L m
def axL (L:List Lt):List Nat:=zNE L L.length
def zKa (L:List Lt) (i:Nat):Nat:=((List.range L.length).find? (fun j=>j != i&&isC (la L j)&&(la L j).id==(la L i).id)).getD i
def zWo (X:List Nat) (v:Nat):Nat:=X.findIdx (·==v)
def xat (X:List Nat) (i:Nat):Nat:=(X[i]?).getD 0
def zCx (n i:Nat) (f:Bool):Nat:=if f then 2*i else 2*((i+n-1) % n)+1
def zBU (n d:Nat):Nat:=if d % 2=0 then (d / 2+1) % n else d / 2
def zCe (L:List Lt) (X:List Nat) (d:Nat):Nat :=
 if 2*L.length<=d then
  if d % 2=0 then zCx L.length (xat X (((d-2*L.length) / 2+1) % X.length)) (!dwn L (xat X (((d-2*L.length) / 2+1) % X.length)))
  else zCx L.length (xat X ((d-2*L.length) / 2)) (dwn L (xat X ((d-2*L.length) / 2)))
 else if isC (la L (zBU L.length d)) then zCx L.length (zKa L (zBU L.length d)) ((d % 2==0)==((la L (zBU L.length d)).over==((la L (zBU L.length d)).sign==1)))
 else if dwn L (zBU L.length d)==(d % 2==0) then 2*L.length+2*zWo X (zBU L.length d)
 else 2*L.length+2*((zWo X (zBU L.length d)+X.length-1) % X.length)+1
def sat (s:List Bool) (x:Nat):Bool:=(s[x]?).getD Q
def zEC (f:Nat->Nat):Nat->List Bool->Nat->List Nat×List Bool
 | 0,s,_=>([],s)
 | k+1,s,x=>if sat s x then ([],s) else (x :: (zEC f k (s.set x Q) (f x)).1,(zEC f k (s.set x Q) (f x)).2)
def zCy (f:Nat->Nat):List Nat->List Bool->List (List Nat)
 | [],_=>[]
 | d :: ds,s=>if sat s d then zCy f ds s else (zEC f s.length s d).1 :: zCy f ds (zEC f s.length s d).2
def zCO (L:List Lt):Nat:=2*L.length+2*(axL L).length
def zHb (L:List Lt):List (List Nat):=zCy (zCe L (axL L)) (List.range (zCO L)) (List.replicate (zCO L) E)
def zLn (L:List Lt):Bool:=(zHb L).length==pN L L.length+cN L L.length / 2+2
def zBf (K:Int) (L:List Lt):Bool:=isP (la L 0)&&decide (pN L L.length % 2=0)&&zIT K L&&zLn L
def zBr (K:Int) (L:List Lt):Int :=
 if 400 < L.length∨200 < cN L L.length then 7 else if K < 0∨40 < K then 2 else if L.length=0 then 0 else if zBf K L then 0 else 3
structure LtOk (l:Lt):Prop where
 kind:I64 l.kind
 gate:I64 l.gate
 rank:I64 l.rank
 id:I64 l.id
 sign:I64 l.sign
structure LtAt (w:ZY) (g p:Nat) (l:Lt):Prop where
 kind:w.cell? ⟨g,p,U⟩=Z (D J l.kind)
 gate:w.cell? ⟨g,p+1,U⟩=Z (D J l.gate)
 rank:w.cell? ⟨g,p+2,U⟩=Z (D J l.rank)
 id:w.cell? ⟨g,p+3,U⟩=Z (D J l.id)
 sign:w.cell? ⟨g,p+4,U⟩=Z (D J l.sign)
 over:w.cell? ⟨g,p+5,U⟩=Z (G l.over)
def Lets (w:ZY) (A:Option Addr) (n:Nat) (L:List Lt):Prop :=
 L.length=n/\n<=2932031007402/\(∀x∈L,LtOk x) /\
 (0 < n->∃g o,A=Z ⟨g,o,U⟩/\g < w.heap.size/\∀j x,L[j]? = Z x->LtAt w g (o+j*6) x)
theorem LtAt.keep {w w':ZY} {g p:Nat} {l:Lt} (h:LtAt w g p l) (hk:∀q:Addr,q.block=g->w'.cell? q=w.cell? q):LtAt w' g p l :=
 ⟨(hk _ rfl).trans h.kind,(hk _ rfl).trans h.gate,(hk _ rfl).trans h.rank,(hk _ rfl).trans h.id,(hk _ rfl).trans h.sign,(hk _ rfl).trans h.over⟩
section
variable {w w':ZY} {A:Option Addr} {n:Nat} {L:List Lt}
theorem Lets.len (h:Lets w A n L):L.length=n:=h.1
theorem Lets.le (h:Lets w A n L):n<=2932031007402:=h.2.1
theorem Lets.fits (h:Lets w A n L):∀x∈L,LtOk x:=h.2.2.1
theorem Lets.nil (w:ZY) (A:Option Addr):Lets w A 0 []:=⟨rfl,by omega,by simp,fun h=>absurd h (by omega)⟩
theorem Lets.at_ {k:Nat} (h:Lets w A n L) (hk:k < n):∃g o,A=Z ⟨g,o,U⟩/\g < w.heap.size/\LtAt w g (o+k*6) (la L k)/\LtOk (la L k):=by
 obtain ⟨hl,_,hf,hc⟩:=h;obtain ⟨g,o,e,hb,hcell⟩:=hc (by omega);have hx:L[k]? = Z L[k]:=List.getElem?_eq_getElem (by omega);rw [zRA hx];exact ⟨g,o,e,hb,hcell k _ hx,hf _ (List.getElem_mem (by omega))⟩
theorem Lets.also {g o k:Nat} (h:Lets w (Z ⟨g,o,U⟩) n L) (hk:k < n):LtAt w g (o+k*6) (la L k)/\LtOk (la L k):=by
 obtain ⟨g',o',e,_,h1,h2⟩:=h.at_ hk;injection e with e
 injection e with e1 e2
 subst e1;subst e2
 exact ⟨h1,h2⟩
theorem Lets.keep (h:Lets w A n L) (hs:w.heap.size<=w'.heap.size) (hk:∀p:Addr,p.block < w.heap.size->w'.cell? p=w.cell? p):Lets w' A n L :=
 ⟨h.1,h.2.1,h.2.2.1,fun hn=>by
  obtain ⟨g,o,e,hb,hc⟩:=h.2.2.2 hn
  exact ⟨g,o,e,by omega,fun j x hx=>(hc j x hx).keep fun q hq=>hk q (by rw [hq];exact hb)⟩⟩
theorem Lets.below (h:Lets w A n L) (hb:ZZ w.heap.size w w'):Lets w' A n L:=h.keep hb.size fun _ hp=>hb.cell hp
theorem Lets.alloc (h:Lets w A n L) (o:Obj):Lets (w.alloc o) A n L:=h.below ((M _ _).alloc (O _) o)
end
theorem zKh {l:Lt} (h:l.kind=1):isP l=Q:=by unfold isP;simp [h]
theorem zLo {l:Lt} (h:¬l.kind=1):isP l=E:=by unfold isP;simp [h]
theorem zRB {l:Lt} (h:l.kind=2):isC l=Q:=by unfold isC;simp [h]
theorem zRC {l:Lt} (h:¬l.kind=2):isC l=E:=by unfold isC;simp [h]
theorem zNF (L:List Lt) (k:Nat):pN L k<=k:=zCS _ _
theorem zRD (L:List Lt) (k:Nat):cN L k<=k:=zCS _ _
theorem zLp (K:Int) (A:Option Addr) (n c:Nat) (L:List Lt) (w:ZY) (hA:Lets w A n L) :
  Calls ZX 199 #[.agg #[D J K,H A n c]] w fun e w'=>e=.returned (D J (pN L n))/\ZZ w.heap.size w w':=by
 have hle:=hA.le;go_enter Tryz.func199,Tryz.ntmps199;go_wp2
 go_loopw [3,5,9] (fun v3 _ v9 wr=>∃k:Nat,k<=n/\v9=D J k/\v3=D J (pN L k)/\ZZ w.heap.size w wr) (fun _ _ i _=>n-(intOf i).toNat)
 case atStart=>exact ⟨0,Nat.zero_le _,rfl,rfl,(M _ _).alloc (O _) _⟩
 case round =>
  obtain ⟨k,hk,rfl,rfl,hb⟩:=hrel;have hpk:=zNF L k;by_cases hlt:k < n
  ·obtain ⟨g,o,rfl,hg,hx,hok⟩:=(hA.below hb).at_ hlt;obtain ⟨h0,h1,h2,h3,h4,h5⟩:=hx;by_cases hp:(la L k).kind=1
   ·have hs:=qH (show pN L (k+1)=pN L k+1 from zAY (zKh hp));go_wp2_with fail
    go_roundw
    case rel=>exact ⟨k+1,by omega,by go_num,by rw [hs.out];go_num,hb.alloc hb.size _⟩
    case measure=>simp [intOf];omega
   ·have hs:=qH (show pN L (k+1)=pN L k from zAG (zLo hp));have pW:((la L k).kind==1)=E:=by simpa using hp
    go_wp2_with fail
    go_roundw
    case rel=>exact ⟨k+1,by omega,by go_num,by rw [hs.out],hb.alloc hb.size _⟩
    case measure=>simp [intOf];omega
  ·go_wp2_with fail
   go_ret;have hkn:k=n:=by omega
   subst hkn;exact ⟨rfl,hb⟩
theorem zBB (K:Int) (A:Option Addr) (n c:Nat) (L:List Lt) (w:ZY) (hA:Lets w A n L) :
  Calls ZX 91 #[.agg #[D J K,H A n c]] w fun e w'=>e=.returned (D J (cN L n))/\ZZ w.heap.size w w':=by
 have hle:=hA.le;go_enter Tryz.func91,Tryz.ntmps91;go_wp2
 go_loopw [3,5,9] (fun v3 _ v9 wr=>∃k:Nat,k<=n/\v9=D J k/\v3=D J (cN L k)/\ZZ w.heap.size w wr) (fun _ _ i _=>n-(intOf i).toNat)
 case atStart=>exact ⟨0,Nat.zero_le _,rfl,rfl,(M _ _).alloc (O _) _⟩
 case round =>
  obtain ⟨k,hk,rfl,rfl,hb⟩:=hrel;have hpk:=zRD L k;by_cases hlt:k < n
  ·obtain ⟨g,o,rfl,hg,hx,hok⟩:=(hA.below hb).at_ hlt;obtain ⟨h0,h1,h2,h3,h4,h5⟩:=hx;by_cases hp:(la L k).kind=2
   ·have hs:=qH (show cN L (k+1)=cN L k+1 from zAY (zRB hp));go_wp2_with fail
    go_roundw
    case rel=>exact ⟨k+1,by omega,by go_num,by rw [hs.out];go_num,hb.alloc hb.size _⟩
    case measure=>simp [intOf];omega
   ·have hs:=qH (show cN L (k+1)=cN L k from zAG (zRC hp));have pW:((la L k).kind==2)=E:=by simpa using hp
    go_wp2_with fail
    go_roundw
    case rel=>exact ⟨k+1,by omega,by go_num,by rw [hs.out],hb.alloc hb.size _⟩
    case measure=>simp [intOf];omega
  ·go_wp2_with fail
   go_ret;have hkn:k=n:=by omega
   subst hkn;exact ⟨rfl,hb⟩
def ltV (l:Lt):Value:=.agg #[D J l.kind,D J l.gate,D J l.rank,D J l.id,D J l.sign,G l.over]
def zWi (X:List Nat):List Int:=X.map (fun (x:Nat)=>(x:Int))
theorem zRE (X:List Nat):(zWi X).length=X.length:=by simp [zWi]
theorem zIU {X:List Nat} {k:Nat} (h:k < X.length):(zWi X)[k]? = Z ((xat X k:Nat):Int):=by
 unfold zWi xat;rw [List.getElem?_map,List.getElem?_eq_getElem h];rfl
def Boxed (w wr:ZY) (K:Int) (A:Option Addr) (n c:Nat):Prop:=ZZ (w.heap.size+1) (w.alloc (.cells #[D J K,H A n c] 55)) wr
section
variable {w wr wx:ZY} {K:Int} {A:Option Addr} {n c:Nat}
theorem Boxed.refl (w:ZY) (K:Int) (A:Option Addr) (n c:Nat):Boxed w (w.alloc (.cells #[D J K,H A n c] 55)) K A n c:=M _ _
theorem Boxed.below (h:Boxed w wr K A n c):ZZ w.heap.size w wr:=((M _ _).alloc (O _) _).trans (h.mono (by omega))
theorem Boxed.size (h:Boxed w wr K A n c):w.heap.size+1<=wr.heap.size:=by have:=Below.size h;simpa using this
theorem Boxed.more (h:Boxed w wr K A n c) (hb:ZZ wr.heap.size wr wx):Boxed w wx K A n c:=zAa h hb h.size
theorem Boxed.alloc (h:Boxed w wr K A n c) (o:Obj):Boxed w (wr.alloc o) K A n c:=Below.alloc h h.size o
theorem Boxed.c0 (h:Boxed w wr K A n c):wr.cell? ⟨w.heap.size,0,U⟩=Z (D J K) :=
 (Below.cell h (p:=⟨w.heap.size,0,U⟩) (by simp)).trans (by rw [World.cell?_alloc_at _ _ _ _ rfl];rfl)
theorem Boxed.c1 (h:Boxed w wr K A n c):wr.cell? ⟨w.heap.size,1,U⟩=Z (H A n c) :=
 (Below.cell h (p:=⟨w.heap.size,1,U⟩) (by simp)).trans (by rw [World.cell?_alloc_at _ _ _ _ rfl];rfl)
end
structure Row (w:ZY) (base size:Nat) (A:Option Addr) (n c:Nat) (xs:List Value):Prop where
 len:xs.length=n*size
 cap:n<=c
 nil:A=U->c=0
 at_:∀ad,A=Z ad->ad.spot=U/\base<=ad.block/\ad.block < w.heap.size/\(∀j u,xs[j]? = Z u->w.cell? ⟨ad.block,ad.off+j,U⟩=Z u) /\
  ∀j,j < c*size->(w.cell? ⟨ad.block,ad.off+j,U⟩).isSome=Q/\w.frozen? ⟨ad.block,ad.off+j,U⟩=E
def Src (w:ZY) (size:Nat) (B:Option Addr) (m:Nat) (news:List Value):Prop :=
 news.length=m*size/\(0 < m->∃ad,B=Z ad/\ad.block < w.heap.size/\∀j u,news[j]? = Z u->w.cell? (ad.add j)=Z u)
theorem zIV {ad:Addr} (h:ad.spot=U):ad=⟨ad.block,ad.off,U⟩:=by cases ad;simp at h;subst h;rfl
theorem zOW {ad:Addr} (h:ad.spot=U) (j:Nat):ad.add j=⟨ad.block,ad.off+j,U⟩:=by
 rw [zIV h];exact Addr.add_lit _ _ _
section
variable {w w':ZY} {base size:Nat} {A:Option Addr} {n c:Nat} {xs:List Value}
theorem Row.none_ (w:ZY) (base size:Nat):Row w base size U 0 0 []:=⟨by simp,O _,fun _=>rfl,fun _ h=>by cases h⟩
theorem Row.lt (h:Row w base size A n c xs):∀k,blk A=Z k->base<=k/\k < w.heap.size:=by
 intro k hk
 cases A with
 | none=>cases hk
 | some ad =>
  simp only [blk,Option.some.injEq] at hk;subst hk;obtain ⟨_,h1,h2,_⟩:=h.at_ ad rfl;exact ⟨h1,h2⟩
theorem Row.kept {row:Option Nat} (h:Row w base size A n c xs) (hg:w.grownBy w' row) (hne:blk A=U∨blk A≠row):Row w' base size A n c xs:=by
 refine ⟨h.len,h.cap,h.nil,fun ad ha=>?_⟩;obtain ⟨h1,h2,h3,h4,h5⟩:=h.at_ ad ha;subst ha;have hb:w'.heap[ad.block]? = w.heap[ad.block]?:=hg.block _ h3 (hne.resolve_left (by simp [blk]));refine ⟨h1,h2,Nat.lt_of_lt_of_le h3 hg.size,fun j u hu=>?_,fun j hj=>?_⟩
 ·rw [World.cell?_of_block (w:=w) (w':=w') (a:=⟨ad.block,ad.off+j,U⟩) hb];exact h4 j u hu
 ·rw [World.cell?_of_block (w:=w) (w':=w') (a:=⟨ad.block,ad.off+j,U⟩) hb,World.frozen?_of_block (w:=w) (w':=w') (a:=⟨ad.block,ad.off+j,U⟩) hb];exact h5 j hj
theorem Row.below (h:Row w base size A n c xs) (hb:ZZ w.heap.size w w'):Row w' base size A n c xs:=by
 refine h.kept (row:=U) ⟨hb.os,hb.tape,hb.output,hb.size,fun k hk _=>hb.block k hk⟩ ?_
 cases blk A
 ·exact .inl rfl
 ·exact .inr (by simp)
theorem Row.alloc (h:Row w base size A n c xs) (o:Obj):Row (w.alloc o) base size A n c xs:=h.below ((M _ _).alloc (O _) o)
theorem Row.drew (h:Row w base size A n c xs):Row w.drew base size A n c xs:=h.below (M _ _).drew
theorem Row.mono {base':Nat} (h:Row w base size A n c xs) (hb:base'<=base):Row w base' size A n c xs :=
 ⟨h.len,h.cap,h.nil,fun ad ha=>by obtain ⟨h1,h2,h3⟩:=h.at_ ad ha;exact ⟨h1,by omega,h3⟩⟩
theorem Row.src (h:Row w base size A n c xs):Src w size A n xs:=by
 refine ⟨h.len,fun hn=>?_⟩
 cases A with
 | none=>have:=h.nil rfl;have:=h.cap;omega
 | some ad =>
  obtain ⟨h1,h2,h3,h4,_⟩:=h.at_ ad rfl;exact ⟨ad,rfl,h3,fun j u hu=>by rw [zOW h1];exact h4 j u hu⟩
theorem Row.form (h:Row w base size A n c xs) (hn:0 < n):∃g off,A=Z ⟨g,off,U⟩/\base<=g/\g < w.heap.size:=by
 cases A with
 | none=>have:=h.nil rfl;have:=h.cap;omega
 | some ad =>
  obtain ⟨h1,h2,h3,_⟩:=h.at_ ad rfl;exact ⟨ad.block,ad.off,by rw [<-zIV h1],h2,h3⟩
theorem Row.cell {g off:Nat} (h:Row w base size (Z ⟨g,off,U⟩) n c xs) {j:Nat} {u:Value} (hu:xs[j]? = Z u):w.cell? ⟨g,off+j,U⟩=Z u :=
 (h.at_ _ rfl).2.2.2.1 j u hu
theorem Row.free {g off:Nat} (h:Row w base size (Z ⟨g,off,U⟩) n c xs) {j:Nat} (hj:j < c*size):w.frozen? ⟨g,off+j,U⟩=E :=
 ((h.at_ _ rfl).2.2.2.2 j hj).2
theorem Row.cut (h:Row w base size A n c xs) {i j:Nat} (hij:i<=j) (hj:j<=n) :
  Row w base size (if c=i then A else A.map (·.add (i*size))) (j-i) (c-i) ((xs.take (j*size)).drop (i*size)):=by
 have hc:=h.cap;have hjs:j*size<=n*size:=Nat.mul_le_mul_right _ hj;refine ⟨?_,by omega,?_,?_⟩
 ·rw [List.length_drop,List.length_take,h.len,Nat.sub_mul];omega
 ·intro hA;split at hA
  ·have:=h.nil hA;omega
  ·cases A with
   | none=>have:=h.nil rfl;omega
   | some ad=>cases hA
 ·intro ad hA;by_cases hci:c=i
  ·rw [qP hci] at hA;obtain ⟨h1,h2,h3,h4,h5⟩:=h.at_ ad hA;refine ⟨h1,h2,h3,fun t u hu=>?_,fun t ht=>?_⟩
   ·have:=(List.getElem?_eq_some_iff.1 hu).1;rw [List.length_drop,List.length_take,h.len] at this;have:j=i:=by omega
    subst this;omega
   ·rw [hci,Nat.sub_self,Nat.zero_mul] at ht;omega
  ·rw [qN hci] at hA
   cases A with
   | none=>cases hA
   | some ad0 =>
    obtain ⟨h1,h2,h3,h4,h5⟩:=h.at_ ad0 rfl;simp only [Option.map_some,Option.some.injEq] at hA;rw [zOW h1] at hA;subst hA;refine ⟨rfl,h2,h3,fun t u hu=>?_,fun t ht=>?_⟩
    ·rw [List.getElem?_drop,List.getElem?_take] at hu;split at hu
     ·simp only;rw [Nat.add_assoc];exact h4 _ u hu
     ·cases hu
    ·simp only;rw [Nat.add_assoc];refine h5 _ ?_;have:(c-i)*size=c*size-i*size:=Nat.sub_mul _ _ _;have:i*size<=c*size:=Nat.mul_le_mul_right _ (by omega);omega
theorem Row.from_ (h:Row w base size A n c xs) {i:Nat} (hi:i<=n):Row w base size (if c=i then A else A.map (·.add (i*size))) (n-i) (c-i) (xs.drop (i*size)):=by
 have:=h.cut (i:=i) (j:=n) hi (O _)
 rwa [List.take_of_length_le (by rw [h.len];exact O _)] at this
theorem Row.of_owns {e:TypeId} (h:w.ownsRow base e size (H A n c) n xs):Row w base size A n c xs:=by
 rcases h.2 with ⟨h',h0⟩ | ⟨g,cap,cur,h',hb,hg,hnc,hcm,hcs,htake⟩
 ·simp only [Value.slice.injEq] at h';obtain ⟨rfl,rfl,rfl⟩:=h';have:xs=[]:=List.eq_nil_of_length_eq_zero (by rw [h.1];omega);subst this;exact Row.none_ _ _ _
 ·simp only [Value.slice.injEq,true_and] at h';obtain ⟨rfl,rfl⟩:=h';refine ⟨h.1,hnc,(fun h=>by cases h),fun ad hA=>?_⟩;obtain rfl:=Option.some.inj hA;refine ⟨rfl,hb,(Array.getElem?_eq_some_iff.1 hg).1,fun j u hu=>?_,fun j hj=>?_⟩
  ·rw [Nat.zero_add,cell_of_row w g j cur e (0,0) hg];rw [<-htake,List.getElem?_take] at hu;split at hu
   ·simpa using hu
   ·cases hu
  ·rw [Nat.zero_add,cell_of_row w g j cur e (0,0) hg];refine ⟨?_,by simp [World.frozen?,hg]⟩;rw [Array.getElem?_eq_getElem (by omega)];rfl
end
theorem zDz (b:Nat):∀(vs:List Value) (o:Nat) (w:ZY),w.grownBy (w.setCells b o vs) (Z b)
 | [],_,w=>World.grownBy.refl w _
 | v :: r,o,w=>by
  have h1:w.grownBy (w.setCell ⟨b,o,U⟩ v) (Z b):=⟨rfl,rfl,rfl,by simp [World.setCell],fun i _ hne=>Below.heap_setCell w ⟨b,o,U⟩ v i (by rintro rfl;exact hne rfl)⟩;have h2:=zDz b r (o+1) (w.setCell ⟨b,o,U⟩ v);rw [World.setCells];exact ⟨h2.os.trans h1.os,h2.tape.trans h1.tape,h2.output.trans h1.output,Nat.le_trans h1.size h2.size,fun i hi hne=>(h2.block i (Nat.lt_of_lt_of_le hi h1.size) hne).trans (h1.block i hi hne)⟩
theorem cell?_isSome_setCells (b:Nat):∀(vs:List Value) (o:Nat) (w:ZY) (x:Addr),(w.cell? x).isSome=Q->((w.setCells b o vs).cell? x).isSome=Q
 | [],_,_,_,h=>h
 | v :: r,o,w,x,h=>by
  rw [World.setCells];refine cell?_isSome_setCells b r (o+1) _ x ?_;obtain ⟨v',hv⟩:=Option.isSome_iff_exists.1 h;obtain ⟨u,hu⟩:=cell?_setCell_some (w:=w) (p:=⟨b,o,U⟩) (x:=v) (q:=x) (v:=v') hv;rw [hu];rfl
def zWj (w w':ZY) (A:Option Addr) (m:Nat) (full:Prop):Prop:=∀p:Addr,p.block < w.heap.size->p.spot=U->(∀ad,A=Z ad->p.block=ad.block->p.off < ad.off+m∨full)->w'.cell? p=w.cell? p
theorem zGo {w w':ZY} {row:Option Nat} {A:Option Addr} {m:Nat} {full:Prop} (hg:w.grownBy w' row) (h:row=U):zWj w w' A m full:=by
 subst h;exact fun p hp _ _=>World.cell?_of_block (hg.block p.block hp (by simp))
theorem zRF {P:Program} {w:ZY} {base size:Nat} {A:Option Addr} {n c:Nat} {xs:List Value} (hrow:Row w base size A n c xs)
  (t ty e:TypeId) (i:TypeInfo) (z:Value) (bytes:Nat) (ht:P.underlying t=Z (.slice e)) (hi:P.info? e=Z i) (hz:i.zero=Z z) (hsize:i.size=size) (hby:i.bytes=bytes) (hzs:z.cells.size=size) (hsz:0 < size)
  {B:Option Addr} {m d:Nat} {news:List Value} (hsrc:Src w size B m news) (h1:∀u∈news,u.oneCell'=Q) (h63:n+m<=maxLen) (hbytes:(n+m)*bytes<=140737488355328) (hbase:base<=w.heap.size) :
  ∃A' c' w',(Builtin.append_ #[t,t] ty #[H A n c,H B m d]).run P w=.ok (H A' (n+m) c') w'/\Row w' base size A' (n+m) c' (xs++news)/\w.grownBy w' (blk A)/\(∀k,blk A'=Z k->blk A=Z k∨w.heap.size<=k)/\zWj w w' A (n*size) (c < n+m):=by
 have uh:∀(ad:Addr),A=U->(∀j u,news[j]? = Z u->w.cell? (ad.add j)=Z u)->w.ownsRow base e size (H A n c) n xs->B=Z ad ->
   ∃A' c' w',(Builtin.append_ #[t,t] ty #[H A n c,H B m d]).run P w=.ok (H A' (n+m) c') w'/\Row w' base size A' (n+m) c' (xs++news)/\w.grownBy w' (blk A)/\(∀k,blk A'=Z k->blk A=Z k∨w.heap.size<=k)/\zWj w w' A (n*size) (c < n+m):=by
  intro ad hA hcells hown hB;subst hB;obtain ⟨v',w',hrun,h2,h3,h4,h5⟩:=run_append_own_at (P:=P) w base t ty e i z size bytes ht hi hz hsize hby hzs hsz _ n xs hown ad m d news hsrc.1 hcells h1 h63 hbytes hbase;have hform:∃A' c',v'=H A' (n+m) c':=by
   rcases h2.2 with ⟨hv,hz⟩ | ⟨g,cap,cur,hv,_⟩
   ·rw [hz];exact ⟨U,0,hv⟩
   ·exact ⟨_,_,hv⟩
  obtain ⟨A',c',rfl⟩:=hform;simp only [zUp] at h3 h5;exact ⟨A',c',w',hrun,Row.of_owns h2,h3,fun k hk=>h5.elim (fun e=>.inl (e ▸ hk)) (fun e=>.inr (by rw [e] at hk;injection hk with hk;omega)),zGo h3 (by rw [hA];rfl)⟩
 cases B with
 | none =>
  have hm:m=0:=by
   rcases Nat.eq_zero_or_pos m with h0 | h0
   ·exact h0
   ·obtain ⟨ad,h,_⟩:=hsrc.2 h0
    cases h
  subst hm;have hn:news=[]:=List.eq_nil_of_length_eq_zero (by rw [hsrc.1];simp);subst hn;refine ⟨A,c,w,?_,by simpa using hrow,World.grownBy.refl w _,fun _ hk=>.inl hk,fun _ _ _ _=>rfl⟩
  cases A with
  | none =>
   have hc0:=hrow.nil rfl;have qr:n=0:=by have:=hrow.cap;omega
   subst hc0;subst qr
   simp [Builtin.append_,run_underlying ht,sizeOf,typeInfo,hi,Builtin.lenOf,Builtin.firstCells]
  | some ad =>
   have hnc:=hrow.cap;simp [Builtin.append_,run_underlying ht,sizeOf,typeInfo,hi,Builtin.lenOf,Builtin.firstCells,hnc,storeCells]
 | some bd =>
  have hcells:∀j u,news[j]? = Z u->w.cell? (bd.add j)=Z u:=by
   intro j u hu;have hj:=(List.getElem?_eq_some_iff.1 hu).1;rw [hsrc.1] at hj;have hm:0 < m:=by
    rcases Nat.eq_zero_or_pos m with h0 | h0
    ·subst h0;simp at hj
    ·exact h0
   obtain ⟨ad',h,_,hc⟩:=hsrc.2 hm;obtain rfl:=Option.some.inj h;exact hc j u hu
  cases A with
  | none =>
   have hc0:=hrow.nil rfl;have qr:n=0:=by have:=hrow.cap;omega
   subst hc0;subst qr
   have hx:xs=[]:=List.eq_nil_of_length_eq_zero (by rw [hrow.len];simp);subst hx;exact uh bd rfl hcells (World.ownsRow_nil _ _ _ _) rfl
  | some ad =>
   obtain ⟨k1,k2,k3,k4,k5⟩:=hrow.at_ ad rfl;obtain ⟨g,off,sp⟩:=ad;simp only at k1 k2 k3 k4 k5;subst k1;by_cases hroom:n+m<=c
   ·have hsp:∀j,j < news.length->n*i.size+j < c*size:=by
     intro j hj;rw [hsrc.1] at hj;rw [hsize];have:(n+m)*size<=c*size:=Nat.mul_le_mul_right _ hroom;rw [Nat.add_mul] at this;omega
    have hrun:=run_append_room_cells (P:=P) w t ty e i ht hi g off n c bd m d news (by rw [hsize];exact hsrc.1) hcells h1 hroom
     (fun j hj=>by rw [Nat.add_assoc];exact (k5 _ (hsp j hj)).1) (fun j hj=>by rw [Nat.add_assoc];exact (k5 _ (hsp j hj)).2)
    have hgr:=zDz g news (off+n*i.size) w;refine ⟨_,_,_,hrun,⟨by rw [List.length_append,hrow.len,hsrc.1,Nat.add_mul],hroom,(fun h=>by cases h),fun ad hA=>?_⟩,hgr,fun _ hk=>.inl hk,fun p _ hsp' hp=>World.cell?_setCells_out _ _ _ _ _ (fun h1 _=>.inl ((hp _ rfl h1).elim (fun h=>by rw [hsize];exact h) (fun h=>by omega)))⟩;obtain rfl:=Option.some.inj hA;refine ⟨rfl,k2,Nat.lt_of_lt_of_le k3 hgr.size,fun j u hu=>?_,fun j hj=>?_⟩
    ·simp only;by_cases hjn:j < xs.length
     ·rw [List.getElem?_append_left hjn] at hu;rw [World.cell?_setCells_out _ _ _ _ _ (fun _ _=>.inl (by simp only;rw [hsize,<-hrow.len];omega))];exact k4 j u hu
     ·rw [List.getElem?_append_right (by omega)] at hu;have hlt:=(List.getElem?_eq_some_iff.1 hu).1;have hv:=World.cell?_setCells_in g news (off+n*i.size) w (fun j hj=>by rw [Nat.add_assoc];exact (k5 _ (hsp j hj)).1) (j-xs.length) hlt;have e1:off+n*i.size+(j-xs.length)=off+j:=by rw [hsize,<-hrow.len];omega
      rw [e1] at hv;rw [hv];rw [List.getElem?_eq_getElem hlt] at hu;exact hu
    ·exact ⟨cell?_isSome_setCells _ _ _ _ _ (k5 j hj).1,by rw [World.frozen?_setCells];exact (k5 j hj).2⟩
   ·obtain ⟨v',w',hrun,r1,r2⟩:=run_append_arg_grows (P:=P) w t ty e i z size bytes ht hi hz hsize hby hzs hsz ⟨g,off,U⟩ n c xs hrow.len (fun j u hu=>by rw [Addr.add_lit];exact k4 j u hu) bd m d news hsrc.1 hcells (by omega) h63 hbytes;have hform:∃A' c',v'=H A' (n+m) c':=by
     rcases r1.2 with ⟨hv,hz⟩ | ⟨g',cap',cur',hv,_⟩
     ·rw [hz];exact ⟨U,0,hv⟩
     ·exact ⟨_,_,hv⟩
    obtain ⟨A',c',rfl⟩:=hform;have hr:=Row.of_owns r1;exact ⟨A',c',w',hrun,hr.mono hbase,⟨r2.os,r2.tape,r2.output,r2.size,fun k hk _=>r2.block k hk (by simp)⟩,fun k hk=>.inr (hr.lt k hk).1,zGo r2 rfl⟩
theorem zOX {P:Program} {w:ZY} {o:Oper} {a:Act} {K:Act->ZY->Prop} {ZP:Exit->Act->ZY->Prop} (s x:Operand) (t:TypeId)
  (ho:o.op=.call { callee:=.builtin .append,args:=#[s,x],argTypes:=#[t,t] })
  (e:TypeId) (i:TypeInfo) (z:Value) (size bytes:Nat) (ht:P.underlying t=Z (.slice e)) (hi:P.info? e=Z i) (hz:i.zero=Z z) (hsize:i.size=size) (hby:i.bytes=bytes) (hzs:z.cells.size=size) (hsz:0 < size)
  {base:Nat} {A:Option Addr} {n c:Nat} {xs:List Value} (hrow:Row w base size A n c xs) {B:Option Addr} {m d:Nat} {news:List Value} (hsrc:Src w size B m news) (h1:∀u∈news,u.oneCell'=Q)
  (hs:a.eval s=H A n c) (hx:a.eval x=H B m d) (N:Nat) (hN:n+m=N) (h63:N<=maxLen) (hbytes:N*bytes<=140737488355328) (hbase:base<=w.heap.size)
  (h:∀A' c' w',Row w' base size A' N c' (xs++news)->w.grownBy w' (blk A)->(∀k,blk A'=Z k->blk A=Z k∨w.heap.size<=k)->zWj w w' A (n*size) (c < N)->K (a.put o.dst (H A' N c')) w') :
  o.wp P a w K ZP:=by
 subst hN;obtain ⟨A',c',w',hrun,r1,r2,r3,r4⟩:=zRF (d:=d) hrow t o.type e i z bytes ht hi hz hsize hby hzs hsz hsrc h1 h63 hbytes hbase;unfold Oper.wp execOp;simp only [ho,resolve,invoke,builtin,Sem.run_bind,Sem.run_pure,Result.andThen_ok,List.map_toArray,List.map_cons,List.map_nil,hs,hx,hrun];exact h A' c' w' r1 r2 r3 r4
theorem zRt {P:Program} {w:ZY} {ops:Array Oper} {rest:List Oper} {o:Oper} {a:Act} {ZP:Exit->Act->ZY->Prop} (hgd:o.guard=U) (s x:Operand) (t:TypeId)
  (ho:o.op=.call { callee:=.builtin .append,args:=#[s,x],argTypes:=#[t,t] })
  (e:TypeId) (i:TypeInfo) (z:Value) (size bytes:Nat) (ht:P.underlying t=Z (.slice e)) (hi:P.info? e=Z i) (hz:i.zero=Z z) (hsize:i.size=size) (hby:i.bytes=bytes) (hzs:z.cells.size=size) (hsz:0 < size)
  {base:Nat} {A:Option Addr} {n c:Nat} {xs:List Value} (hrow:Row w base size A n c xs) {B:Option Addr} {m d:Nat} {news:List Value} (hsrc:Src w size B m news) (h1:∀u∈news,u.oneCell'=Q)
  (hs:a.eval s=H A n c) (hx:a.eval x=H B m d) (N:Nat) (hN:n+m=N) (h63:N<=maxLen) (hbytes:N*bytes<=140737488355328) (hbase:base<=w.heap.size)
  (h:∀A' c' w',Row w' base size A' N c' (xs++news)->w.grownBy w' (blk A)->(∀k,blk A'=Z k->blk A=Z k∨w.heap.size<=k)->zWj w w' A (n*size) (c < N)->wpList P ops ZP rest (a.put o.dst (H A' N c')) w') :
  wpList P ops ZP (o :: rest) a w :=
 wpList_plain hgd fun _ hK=>zOX s x t ho e i z size bytes ht hi hz hsize hby hzs hsz hrow hsrc h1 hs hx N hN h63 hbytes hbase fun A' c' w' r1 r2 r3 r4=>hK _ _ (h A' c' w' r1 r2 r3 r4)
theorem zRG {P:Program} {w:ZY} {ops:Array Oper} {o:Oper} {a:Act} {K:Act->ZY->Prop} {ZP:Exit->Act->ZY->Prop} {ZQ:Prop} (hgd:o.guard=U) (s x:Operand) (t:TypeId)
  (ho:o.op=.call { callee:=.builtin .append,args:=#[s,x],argTypes:=#[t,t] })
  (e:TypeId) (i:TypeInfo) (z:Value) (size bytes:Nat) (ht:P.underlying t=Z (.slice e)) (hi:P.info? e=Z i) (hz:i.zero=Z z) (hsize:i.size=size) (hby:i.bytes=bytes) (hzs:z.cells.size=size) (hsz:0 < size)
  {base:Nat} {A:Option Addr} {n c:Nat} {xs:List Value} (hrow:Row w base size A n c xs) {B:Option Addr} {m d:Nat} {news:List Value} (hsrc:Src w size B m news) (h1:∀u∈news,u.oneCell'=Q)
  (hs:a.eval s=H A n c) (hx:a.eval x=H B m d) (N:Nat) (hN:n+m=N) (h63:N<=maxLen) (hbytes:N*bytes<=140737488355328) (hbase:base<=w.heap.size)
  (h:∀A' c' w',Row w' base size A' N c' (xs++news)->w.grownBy w' (blk A)->(∀k,blk A'=Z k->blk A=Z k∨w.heap.size<=k)->zWj w w' A (n*size) (c < N)->K (a.put o.dst (H A' N c')) w') :
  if Region.wanted o (yielded ops a.tmps)=Q then Oper.wp P o a w K ZP else ZQ:=by
 have hw:Region.wanted o (yielded ops a.tmps)=Q:=by simp [Region.wanted,hgd]
 rw [qP hw];exact zOX s x t ho e i z size bytes ht hi hz hsize hby hzs hsz hrow hsrc h1 hs hx N hN h63 hbytes hbase h
theorem Row.belowOf {w w':ZY} {base size:Nat} {A:Option Addr} {n c:Nat} {xs:List Value} (h:Row w base size A n c xs) (hg:w.grownBy w' (blk A)) (hb:base<=w.heap.size):ZZ base w w' :=
 (M _ _).grown hg hb fun k hk=>(h.lt k hk).1
theorem Src.new {w:ZY} {size m:Nat} {cs:List Value} {t:TypeId} (h:cs.length=m*size):Src (w.alloc (.cells cs.toArray t)) size (Z ⟨w.heap.size,0,U⟩) m cs :=
 ⟨h,fun _=>⟨_,rfl,by simp,fun j u hu=>by rw [Addr.add_lit,World.cell?_alloc_at _ _ _ _ rfl];simpa using hu⟩⟩
section
variable {a b c:ZY} {row:Option Nat}
theorem zAb (h:a.grownBy b row) (k:b.grownBy c row):a.grownBy c row :=
 ⟨k.os.trans h.os,k.tape.trans h.tape,k.output.trans h.output,Nat.le_trans h.size k.size,fun i hi hne=>(k.block i (Nat.lt_of_lt_of_le hi h.size) hne).trans (h.block i hi hne)⟩
theorem zAq (h:a.grownBy b row) {B:Nat} (k:ZZ B b c) (hB:a.heap.size<=B):a.grownBy c row :=
 ⟨k.os.trans h.os,k.tape.trans h.tape,k.output.trans h.output,Nat.le_trans h.size k.size,fun i hi hne=>(k.block i (by omega)).trans (h.block i hi hne)⟩
theorem zAk {g:Nat} (h:a.grownBy b (Z g)) {p:Addr} (hp:p.block=g∨a.heap.size<=p.block) (u:Value):a.grownBy (b.setCell p u) (Z g) :=
 ⟨h.os,h.tape,h.output,by simpa [World.setCell] using h.size,fun i hi hne=>(Below.heap_setCell b p u i (by
  rintro rfl
  rcases hp with hp | hp
  ·exact hne (by rw [hp])
  ·omega)).trans (h.block i hi hne)⟩
theorem zDk (h:ZZ a.heap.size a b) (row:Option Nat):a.grownBy b row:=⟨h.os,h.tape,h.output,h.size,fun i hi _=>h.block i hi⟩
theorem zBL (h:a.grownBy b row):a.grownBy b.drew row:=⟨h.os,h.tape,h.output,h.size,h.block⟩
theorem zBl (h:a.grownBy b row) (o:Obj):a.grownBy (b.alloc o) row:=zAb h (World.grownBy_alloc b o row)
theorem zBM {B g:Nat} (h:a.grownBy b (Z g)) (hB:B<=g) (hBa:B<=a.heap.size):ZZ B a b :=
 ⟨h.os,h.tape,h.output,h.size,fun i hi=>h.block i (by omega) (by simp;omega)⟩
end
def Blk (w:ZY) (g:Nat) (t:TypeId) (cs:Array Value):Prop:=w.heap[g]? = Z (.cells cs t (0,0))
section
variable {w w':ZY} {g:Nat} {t:TypeId} {cs:Array Value}
theorem Blk.lt (h:Blk w g t cs):g < w.heap.size:=by
 rcases Nat.lt_or_ge g w.heap.size with hlt | hge
 ·exact hlt
 ·unfold Blk at h;rw [Array.getElem?_eq_none hge] at h;cases h
theorem Blk.cell (h:Blk w g t cs) (i:Nat):w.cell? ⟨g,i,U⟩=cs[i]?:=cell_of_row w g i cs t (0,0) h
theorem Blk.frozen (h:Blk w g t cs) (i:Nat):w.frozen? ⟨g,i,U⟩=E:=by
 unfold Blk at h;simp [World.frozen?,h]
theorem Blk.new (w:ZY) (t:TypeId) (cs:Array Value):Blk (w.alloc (.cells cs t)) w.heap.size t cs:=heap_alloc_new w _
theorem Blk.drew (h:Blk w g t cs):Blk w.drew g t cs:=h
theorem Blk.drewN (h:Blk w g t cs) (n:Nat):Blk (w.drewN n) g t cs:=h
theorem Blk.alloc (h:Blk w g t cs) (o:Obj):Blk (w.alloc o) g t cs:=(Below.heap_alloc w o g h.lt).trans h
theorem Blk.set_ (h:Blk w g t cs) (i:Nat) (u:Value):Blk (w.setCell ⟨g,i,U⟩ u) g t (cs.setIfInBounds i u):=by
 unfold Blk at h ⊢;simp [World.setCell,Array.getElem?_modify,h]
theorem Blk.far (h:Blk w g t cs) {p:Addr} (hp:g≠p.block) (u:Value):Blk (w.setCell p u) g t cs:=(Below.heap_setCell w p u g hp).trans h
theorem Blk.below {B:Nat} (h:Blk w g t cs) (hb:ZZ B w w') (hg:g < B):Blk w' g t cs:=(hb.block g hg).trans h
theorem Blk.grown {row:Option Nat} (h:Blk w g t cs) (hb:w.grownBy w' row) (hg:Z g≠row):Blk w' g t cs:=(hb.block g h.lt hg).trans h
end
structure OwnB (w:ZY) (base g n:Nat) (s:List Bool):Prop where
 blk:Blk w g 4 (s.map Value.bool).toArray
 base:base<=g
 len:s.length=n
section
variable {w w':ZY} {base g n:Nat} {s:List Bool}
theorem OwnB.cell (h:OwnB w base g n s) {k:Nat} (hk:k < n):w.cell? ⟨g,k,U⟩=Z (G (sat s k)):=by
 rw [h.blk.cell];have:=h.len;unfold sat;rw [List.getElem?_toArray,List.getElem?_map,List.getElem?_eq_getElem (by omega)];rfl
theorem OwnB.frozen (h:OwnB w base g n s) (k:Nat):w.frozen? ⟨g,k,U⟩=E:=h.blk.frozen k
theorem OwnB.lt (h:OwnB w base g n s):g < w.heap.size:=h.blk.lt
theorem OwnB.alloc (h:OwnB w base g n s) (o:Obj):OwnB (w.alloc o) base g n s:=⟨h.blk.alloc o,h.base,h.len⟩
theorem OwnB.drewN (h:OwnB w base g n s) (k:Nat):OwnB (w.drewN k) base g n s:=⟨h.blk,h.base,h.len⟩
theorem OwnB.drew (h:OwnB w base g n s):OwnB w.drew base g n s:=⟨h.blk,h.base,h.len⟩
theorem OwnB.below {B:Nat} (h:OwnB w base g n s) (hb:ZZ B w w') (hB:g < B):OwnB w' base g n s:=⟨h.blk.below hb hB,h.base,h.len⟩
theorem OwnB.kept {row:Option Nat} (h:OwnB w base g n s) (hb:w.grownBy w' row) (hr:Z g≠row):OwnB w' base g n s:=⟨h.blk.grown hb hr,h.base,h.len⟩
theorem OwnB.far (h:OwnB w base g n s) {p:Addr} (hp:g≠p.block) (u:Value):OwnB (w.setCell p u) base g n s:=⟨h.blk.far hp u,h.base,h.len⟩
theorem OwnB.stored (h:OwnB w base g n s) (k:Nat) (x:Bool):OwnB (w.setCell ⟨g,k,U⟩ (G x)) base g n (s.set k x):=by
 refine ⟨?_,h.base,by simpa using h.len⟩;have:=h.blk.set_ k (G x);rw [List.map_set];simpa using this
end
theorem zRH:(Tryz.prog.info? 4).map (fun i=>(i.zero,i.size,i.bytes))=Z (Z (G E),1,1):=by kernel_rfl
theorem zOY (N:Nat) (hN:N<=17592186044416) (w:ZY) :
  (Instr.makeSlice 145 (D J (N:Int)) (D J (N:Int))).run ZX w=.ok (H (Z ⟨w.heap.size,0,U⟩) N N) (w.alloc (.cells ((List.replicate N E).map Value.bool).toArray 4)):=by
 obtain ⟨i0,hi,cD,bu,cM⟩:=info_parts zRH;have hr:=run_make (P:=ZX) w 145 4 i0 (G E) Tryz.underlying145 hi cD J J N N (by omega) (by omega) (by rw [cM];omega) (by omega);simp only [Int.toNat_natCast] at hr;rw [hr];have hm:madeCells (Value.cells (G E)) (N*i0.size)=((List.replicate N E).map Value.bool).toArray:=by
  rw [bu,Nat.mul_one,List.map_replicate];apply Array.ext';exact toList_madeCells_one _ _
 rw [hm]
theorem zOZ (N:Nat) (hN:N<=17592186044416) (w:ZY) :
  (Instr.makeSlice 79 (D J (N:Int)) (D J (N:Int))).run ZX w=.ok (H (Z ⟨w.heap.size,0,U⟩) N N) (w.alloc (.cells ((List.replicate N (0:Int)).map (Value.int J)).toArray 3)):=by
 obtain ⟨i0,hi,cD,bu,cM⟩:=info_parts zUo;have hr:=run_make (P:=ZX) w 79 3 i0 (D J 0) Tryz.underlying79 hi cD J J N N (by omega) (by omega) (by rw [cM];omega) (by omega);simp only [Int.toNat_natCast] at hr;rw [hr];have hm:madeCells (Value.cells (D J 0)) (N*i0.size)=((List.replicate N (0:Int)).map (Value.int J)).toArray:=by
  rw [bu,Nat.mul_one,List.map_replicate];apply Array.ext';exact toList_madeCells_one _ _
 rw [hm]
theorem OwnB.made {w:ZY} {base:Nat} (hb:base<=w.heap.size) (N:Nat):OwnB (w.alloc (.cells ((List.replicate N E).map Value.bool).toArray 4)) base w.heap.size N (List.replicate N E) :=
 ⟨Blk.new _ _ _,hb,by simp⟩
theorem zPa {w:ZY} {ops:Array Oper} {rest:List Oper} {o:Oper} {a:Act} {ZP:Exit->Act->ZY->Prop} (hgd:o.guard=U) (l c:Operand)
  (ho:o.op=.makeSlice 145 l c) (N:Nat) (z:Int) (hl:a.eval l=D J z) (hc:a.eval c=D J z) (hz:z=(N:Int)) (hN:N<=17592186044416) {base:Nat} (hbase:base<=w.heap.size)
  (h:∀w',OwnB w' base w.heap.size N (List.replicate N E)->ZZ w.heap.size w w'->w'.heap.size=w.heap.size+1->wpList ZX ops ZP rest (a.put o.dst (H (Z ⟨w.heap.size,0,U⟩) N N)) w') :
  wpList ZX ops ZP (o :: rest) a w:=by
 refine wpList_plain hgd fun K hK'=>?_
 have hrun:=zOY N hN w;subst hz;unfold Oper.wp;have hown:=OwnB.made hbase N;have hb:=(M w.heap.size w).alloc (O _) (.cells ((List.replicate N E).map Value.bool).toArray 4);have hsz:(w.alloc (.cells ((List.replicate N E).map Value.bool).toArray 4)).heap.size=w.heap.size+1:=by simp
 generalize w.alloc (.cells ((List.replicate N E).map Value.bool).toArray 4)=w' at hrun hown hb hsz;simp [execOp,ho,hl,hc,hrun,Result.andThen];exact hK' _ _ (h w' hown hb hsz)
structure OwnI (w:ZY) (base g n:Nat) (L:List Int):Prop where
 blk:Blk w g 3 (L.map (Value.int J)).toArray
 base:base<=g
 len:L.length=n
section
variable {w w':ZY} {base g n:Nat} {L:List Int}
theorem OwnI.cell (h:OwnI w base g n L) {k:Nat} {x:Int} (hx:L[k]? = Z x):w.cell? ⟨g,k,U⟩=Z (D J x):=by
 rw [h.blk.cell,List.getElem?_toArray,List.getElem?_map,hx];rfl
theorem OwnI.frozen (h:OwnI w base g n L) (k:Nat):w.frozen? ⟨g,k,U⟩=E:=h.blk.frozen k
theorem OwnI.lt (h:OwnI w base g n L):g < w.heap.size:=h.blk.lt
theorem OwnI.alloc (h:OwnI w base g n L) (o:Obj):OwnI (w.alloc o) base g n L:=⟨h.blk.alloc o,h.base,h.len⟩
theorem OwnI.drewN (h:OwnI w base g n L) (k:Nat):OwnI (w.drewN k) base g n L:=⟨h.blk,h.base,h.len⟩
theorem OwnI.drew (h:OwnI w base g n L):OwnI w.drew base g n L:=⟨h.blk,h.base,h.len⟩
theorem OwnI.below {B:Nat} (h:OwnI w base g n L) (hb:ZZ B w w') (hB:g < B):OwnI w' base g n L:=⟨h.blk.below hb hB,h.base,h.len⟩
theorem OwnI.kept {row:Option Nat} (h:OwnI w base g n L) (hb:w.grownBy w' row) (hr:Z g≠row):OwnI w' base g n L:=⟨h.blk.grown hb hr,h.base,h.len⟩
theorem OwnI.far (h:OwnI w base g n L) {p:Addr} (hp:g≠p.block) (u:Value):OwnI (w.setCell p u) base g n L:=⟨h.blk.far hp u,h.base,h.len⟩
theorem OwnI.stored (h:OwnI w base g n L) (k:Nat) (x:Int):OwnI (w.setCell ⟨g,k,U⟩ (D J x)) base g n (L.set k x):=by
 refine ⟨?_,h.base,by simpa using h.len⟩;have:=h.blk.set_ k (D J x);rw [List.map_set];simpa using this
end
theorem OwnI.made {w:ZY} {base:Nat} (hb:base<=w.heap.size) (N:Nat):OwnI (w.alloc (.cells ((List.replicate N (0:Int)).map (Value.int J)).toArray 3)) base w.heap.size N (List.replicate N 0) :=
 ⟨Blk.new _ _ _,hb,by simp⟩
theorem zIs {w:ZY} {ops:Array Oper} {rest:List Oper} {o:Oper} {a:Act} {ZP:Exit->Act->ZY->Prop} (hgd:o.guard=U) (l c:Operand)
  (ho:o.op=.makeSlice 79 l c) (N:Nat) (z:Int) (hl:a.eval l=D J z) (hc:a.eval c=D J z) (hz:z=(N:Int)) (hN:N<=17592186044416) {base:Nat} (hbase:base<=w.heap.size)
  (h:∀w',OwnI w' base w.heap.size N (List.replicate N 0)->ZZ w.heap.size w w'->w'.heap.size=w.heap.size+1->wpList ZX ops ZP rest (a.put o.dst (H (Z ⟨w.heap.size,0,U⟩) N N)) w') :
  wpList ZX ops ZP (o :: rest) a w:=by
 refine wpList_plain hgd fun K hK'=>?_
 have hrun:=zOZ N hN w;subst hz;unfold Oper.wp;have hown:=OwnI.made hbase N;have hb:=(M w.heap.size w).alloc (O _) (.cells ((List.replicate N (0:Int)).map (Value.int J)).toArray 3);have hsz:(w.alloc (.cells ((List.replicate N (0:Int)).map (Value.int J)).toArray 3)).heap.size=w.heap.size+1:=by simp
 generalize w.alloc (.cells ((List.replicate N (0:Int)).map (Value.int J)).toArray 3)=w' at hrun hown hb hsz;simp [execOp,ho,hl,hc,hrun,Result.andThen];exact hK' _ _ (h w' hown hb hsz)
structure SV where
 A:Option Addr
 n:Nat
 c:Nat
section
variable {w w':ZY} {base:Nat} {A:Option Addr} {n c:Nat} {vs:List SV} {Ws:List (List Int)}
end
theorem cQ2 {w:ZY} {g:Nat} {t:TypeId} {v0 v1:Value} {r:List Value} (h:Blk w g t (v0 :: v1 :: r).toArray):w.cell? ⟨g,0,U⟩=Z v0/\w.cell? ⟨g,1,U⟩=Z v1:=⟨(h.cell 0).trans rfl,(h.cell 1).trans rfl⟩
theorem cQ3 {w:ZY} {g:Nat} {t:TypeId} {v0 v1 v2:Value} {r:List Value} (h:Blk w g t (v0 :: v1 :: v2 :: r).toArray):w.cell? ⟨g,0,U⟩=Z v0/\w.cell? ⟨g,1,U⟩=Z v1/\w.cell? ⟨g,2,U⟩=Z v2:=⟨(h.cell 0).trans rfl,(h.cell 1).trans rfl,(h.cell 2).trans rfl⟩
theorem cQ4 {w:ZY} {g:Nat} {t:TypeId} {v0 v1 v2 v3:Value} {r:List Value} (h:Blk w g t (v0 :: v1 :: v2 :: v3 :: r).toArray):w.cell? ⟨g,0,U⟩=Z v0/\w.cell? ⟨g,1,U⟩=Z v1/\w.cell? ⟨g,2,U⟩=Z v2/\w.cell? ⟨g,3,U⟩=Z v3:=⟨(h.cell 0).trans rfl,(h.cell 1).trans rfl,(h.cell 2).trans rfl,(h.cell 3).trans rfl⟩
theorem cQ5 {w:ZY} {g:Nat} {t:TypeId} {v0 v1 v2 v3 v4:Value} {r:List Value} (h:Blk w g t (v0 :: v1 :: v2 :: v3 :: v4 :: r).toArray):w.cell? ⟨g,0,U⟩=Z v0/\w.cell? ⟨g,1,U⟩=Z v1/\w.cell? ⟨g,2,U⟩=Z v2/\w.cell? ⟨g,3,U⟩=Z v3/\w.cell? ⟨g,4,U⟩=Z v4:=⟨(h.cell 0).trans rfl,(h.cell 1).trans rfl,(h.cell 2).trans rfl,(h.cell 3).trans rfl,(h.cell 4).trans rfl⟩
theorem cQ6 {w:ZY} {g:Nat} {t:TypeId} {v0 v1 v2 v3 v4 v5:Value} {r:List Value} (h:Blk w g t (v0 :: v1 :: v2 :: v3 :: v4 :: v5 :: r).toArray):w.cell? ⟨g,0,U⟩=Z v0/\w.cell? ⟨g,1,U⟩=Z v1/\w.cell? ⟨g,2,U⟩=Z v2/\w.cell? ⟨g,3,U⟩=Z v3/\w.cell? ⟨g,4,U⟩=Z v4/\w.cell? ⟨g,5,U⟩=Z v5:=⟨(h.cell 0).trans rfl,(h.cell 1).trans rfl,(h.cell 2).trans rfl,(h.cell 3).trans rfl,(h.cell 4).trans rfl,(h.cell 5).trans rfl⟩
theorem cQ8 {w:ZY} {g:Nat} {t:TypeId} {v0 v1 v2 v3 v4 v5 v6 v7:Value} {r:List Value} (h:Blk w g t (v0 :: v1 :: v2 :: v3 :: v4 :: v5 :: v6 :: v7 :: r).toArray):w.cell? ⟨g,0,U⟩=Z v0/\w.cell? ⟨g,1,U⟩=Z v1/\w.cell? ⟨g,2,U⟩=Z v2/\w.cell? ⟨g,3,U⟩=Z v3/\w.cell? ⟨g,4,U⟩=Z v4/\w.cell? ⟨g,5,U⟩=Z v5/\w.cell? ⟨g,6,U⟩=Z v6/\w.cell? ⟨g,7,U⟩=Z v7:=⟨(h.cell 0).trans rfl,(h.cell 1).trans rfl,(h.cell 2).trans rfl,(h.cell 3).trans rfl,(h.cell 4).trans rfl,(h.cell 5).trans rfl,(h.cell 6).trans rfl,(h.cell 7).trans rfl⟩
