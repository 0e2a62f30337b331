/-
  Lemmas, part 1. Conditions: each theorem's own.
-/
import Derived.Test.YtlmdfmnbcndhoaaGreatDoorProg
import Derived.WalkKit
import Derived.Deep.QuietTactic
import Derived.BigQuiet
import Derived.Lib.Hide
import Derived.Laws.OwnMore
import Derived.Maps.AppendAt
import Derived.Deep.AppendLies
import Derived.Deep.LoopGhost
import Derived.Deep.DeepFit
import Derived.Deep.DeepMust
import Derived.Outline
import Derived.Lib.ItoaNum
import Derived.Deep.RegionHeld3
import Derived.Deep.RegionLaw
namespace Go.Proofs.YtlmdfmnbcndhoaaGreatDoor
open Go.RowKit
theorem qH {p:Prop} (h:p):Hid p:=Lib.hid h
theorem zAf {B:Nat} {a w:World} (h:Below B a w) (n:Nat):Below B a (w.drewN n):=⟨h.os,h.tape,h.output,h.size,h.block⟩
theorem zAa {B C:Nat} {a b c:World} (h:Below B a b) (k:Below C b c) (hB:B≤C):Below B a c:=h.trans (k.mono hB)
def I64 (x:Int):Prop:=-9223372036854775808≤x∧x≤9223372036854775807
theorem zAk {a b:Bool} (h:a=b):Ending.returned (.bool a)=.returned (.bool b):=by rw [h]
theorem zCh {k:IntKind} {a b:Int} (h:a=b):Ending.returned (.int k a)=.returned (.int k b):=by rw [h]
end Go.Proofs.YtlmdfmnbcndhoaaGreatDoor
namespace Go.Proofs.YtlmdfmnbcndhoaaGreatDoor
open Go.RowKit
structure Fg where
 p:Int
 r:Bool
 d:Int
instance : DecidableEq Fg := fun a b =>
 if h:a.p=b.p∧a.r=b.r∧a.d=b.d then .isTrue (by cases a;cases b;simp at h;simp [h])
 else .isFalse (fun e=>h (by subst e;simp))
def fgB (x y:Fg):Bool:=x.p==y.p&&x.r==y.r&&x.d==y.d
theorem zKV {x y:Fg}:fgB x y=true↔x=y:=by
 cases x;cases y
 simp [fgB,and_assoc]
theorem zMi (x:Fg):fgB x x=true:=zKV.2 rfl
def df:Fg:=⟨0,false,0⟩
def fa (L:List Fg) (i:Nat):Fg:=(L[i]?).getD df
theorem zWU {L:List Fg} {i:Nat} {x:Fg} (h:L[i]? = some x):fa L i=x:=by unfold fa;rw [h];rfl
theorem zMj {L:List Fg} {i:Nat} (h:i < L.length):L[i]? = some (fa L i):=by unfold fa;rw [List.getElem?_eq_getElem h];rfl
def zAK:List Fg→Fg→Nat
 | [],_=>0
 | x :: L,f=>if x=f then 1 else if zAK L f=0 then 0 else zAK L f+1
theorem zEv {f:Fg}:∀{L:List Fg},(∀j:Nat,L[j]?≠some f)→zAK L f=0
 | [],_=>rfl
 | x :: L,h=>by
  have h0:x≠f:=fun e=>h 0 (by rw [e];rfl)
  have h1:zAK L f=0:=zEv fun j e=>h (j+1) (by simpa using e)
  rw [zAK,if_neg h0,if_pos h1]
theorem zGG {f:Fg}:∀{L:List Fg} {i:Nat},L[i]? = some f→(∀j,j < i→L[j]?≠some f)→zAK L f=i+1
 | [],i,h,_=>by simp at h
 | x :: L,0,h,_=>by
  have:x=f:=by simpa using h
  rw [zAK,if_pos this]
 | x :: L,i+1,h,hj=>by
  have h0:x≠f:=fun e=>hj 0 (by omega) (by rw [e];rfl)
  have h1:zAK L f=i+1:=zGG (by simpa using h) fun j hji e=>hj (j+1) (by omega) (by simpa using e)
  rw [zAK,if_neg h0,h1,if_neg (by omega)]
theorem zIt {f:Fg}:∀{L:List Fg} {i:Nat},zAK L f=i+1→L[i]? = some f∧∀j,j < i→L[j]?≠some f
 | [],i,h=>by simp [zAK] at h
 | x :: L,i,h=>by
  rw [zAK] at h;by_cases h0:x=f
  ·rw [if_pos h0] at h;obtain rfl:i=0:=by omega
   exact ⟨by rw [h0];rfl,fun j hj=>by omega⟩
  ·rw [if_neg h0] at h;by_cases h1:zAK L f=0
   ·rw [if_pos h1] at h;omega
   ·rw [if_neg h1] at h;obtain ⟨k,rfl⟩:∃k,i=k+1:=⟨i-1,by omega⟩
    obtain ⟨h2,h3⟩:=zIt (L:=L) (i:=k) (f:=f) (by omega);refine ⟨by simpa using h2,fun j hj=>?_⟩;rcases j with _ | j
    ·intro e;exact h0 (by simpa using e)
    ·intro e;exact h3 j (by omega) (by simpa using e)
theorem zJH {f:Fg} {L:List Fg} (h:zAK L f=0):∀j:Nat,L[j]?≠some f:=by
 intro j e;have hx:∃i:Nat,L[i]? = some f∧∀j:Nat,j < i→L[j]?≠some f:=by
  induction j using Nat.strongRecOn with
  | _ j ih =>
   by_cases hm:∃k:Nat,k < j∧L[k]? = some f
   ·obtain ⟨k,hk,hkf⟩:=hm;exact ih k hk hkf
   ·exact ⟨j,e,fun k hk e2=>hm ⟨k,hk,e2⟩⟩
 obtain ⟨i,h1,h2⟩:=hx;have:=zGG h1 h2;omega
theorem zDp {f:Fg} {L:List Fg}:zAK L f≤L.length:=by
 cases h:zAK L f with
 | zero=>omega
 | succ i=>have:=(List.getElem?_eq_some_iff.1 (zIt h).1).1;omega
theorem zJI {L:List Fg} {i:Nat} (hi:i < L.length):zAK (L.take i) (fa L i)=0↔zAK L (fa L i)=i+1:=by
 constructor
 ·intro h;refine zGG (zMj hi) fun j hj e=>?_
  have:=zJH h j;rw [List.getElem?_take_of_lt hj] at this;exact this e
 ·intro h;refine zEv fun j e=>?_
  rw [List.getElem?_take] at e;split at e
  ·rename_i hj;exact (zIt h).2 j hj e
  ·cases e
def zAl (f:Fg):Bool:=decide (1≤f.p)&&decide (f.p≤9)&&decide (0≤f.d)&&decide (f.d≤6)
theorem zAt {f:Fg}:zAl f=true↔1≤f.p∧f.p≤9∧0≤f.d∧f.d≤6:=by simp [zAl,and_assoc]
def zCV (L:List Fg) (i:Nat):Bool:=zAl (fa L i)&&decide (zAK (L.take i) (fa L i)=0)
def frOk (L:List Fg) (re lo:Int):Prop:=L.length≤40∧0≤re∧re≤40∧1≤lo∧lo≤20∧∀i,i < L.length→zCV L i=true
def frB (L:List Fg) (re lo:Int):Bool :=
 decide (L.length≤40)&&decide (0≤re)&&decide (re≤40)&&decide (1≤lo)&&decide (lo≤20)&&(List.range L.length).all fun i=>zCV L i
theorem zCB {L:List Fg} {re lo:Int}:frB L re lo=true↔frOk L re lo:=by simp [frB,frOk,and_assoc]
theorem frOk.there {L:List Fg} {re lo:Int} (h:frOk L re lo) {i:Nat} (hi:i < L.length):zAl (fa L i)=true:=by
 have:=h.2.2.2.2.2 i hi;unfold zCV at this;simp only [Bool.and_eq_true] at this;exact this.1
def zAi (f:Fg):List UInt8:=(if f.p=1 then [] else Lib.itoa f.p)++(if f.r then 82 else 76) :: Lib.itoa f.d
end Go.Proofs.YtlmdfmnbcndhoaaGreatDoor
namespace Go.Proofs.YtlmdfmnbcndhoaaGreatDoor
open Go.RowKit
theorem zTx:(Tryz.prog.info? 3).map (fun i=>(i.zero,i.size,i.bytes))=some (some (.int .i64 0),1,8):=by kernel_rfl
structure Own (w:World) (base:Nat) (A:Option Addr) (n c:Nat) (L:List Int):Prop where
 row:w.ownsRow base 3 1 (.slice A n c) n (L.map (Value.int .i64))
 len:L.length=n
 le:n≤17592186044416
 fits:∀x∈L,I64 x
def blk:Option Addr→Option Nat
 | some a=>some a.block
 | none=>none
theorem zTy (A:Option Addr) (n c:Nat):Value.ownBlock (.slice A n c)=blk A:=by cases A<;>rfl
section
variable {w w':World} {base:Nat} {A:Option Addr} {n c:Nat} {L:List Int}
end
end Go.Proofs.YtlmdfmnbcndhoaaGreatDoor
namespace Go.Proofs.YtlmdfmnbcndhoaaGreatDoor
def NoneTo (p:Nat→Bool) (n:Nat):Prop:=∀i,i < n→p i=false
theorem NoneTo.zero (p:Nat→Bool):NoneTo p 0:=fun i h=>by omega
theorem NoneTo.succ {p:Nat→Bool} {n:Nat} (h:NoneTo p n) (hn:p n=false):NoneTo p (n+1):=fun i hi=>by
 by_cases e:i=n
 ·subst e;exact hn
 ·exact h i (by omega)
def zFW (p:Nat→Bool) (n:Nat):Int:=match (List.range n).find? p with
 | some i=>i
 | none=>-1
theorem zJJ {p:Nat→Bool} {n:Nat} (h:NoneTo p n):(List.range n).find? p=none:=by
 rw [List.find?_eq_none];intro i hi;rw [List.mem_range] at hi;rw [h i hi];simp
theorem zQO {p:Nat→Bool} {n k:Nat} (h:NoneTo p k) (hk:p k=true) (hn:k < n):(List.range n).find? p=some k:=by
 induction n with
 | zero=>omega
 | succ n ih =>
  rw [List.range_succ,List.find?_append];by_cases e:k < n
  ·rw [ih e];rfl
  ·have:k=n:=by omega
   subst this;rw [zJJ h];simp [hk]
theorem zEf {p:Nat→Bool} {n:Nat} (h:NoneTo p n):zFW p n = -1:=by unfold zFW;rw [zJJ h]
theorem zFu {p:Nat→Bool} {n k:Nat} (h:NoneTo p k) (hk:p k=true) (hn:k < n):zFW p n=k:=by unfold zFW;rw [zQO h hk hn]
theorem zJK (p:Nat→Bool) (n:Nat):(zFW p n = -1∧NoneTo p n)∨∃k,k < n∧zFW p n=(k:Int)∧NoneTo p k∧p k=true:=by
 induction n with
 | zero=>exact .inl ⟨zEf (NoneTo.zero p),NoneTo.zero p⟩
 | succ n ih =>
  rcases ih with ⟨_,h⟩ | ⟨k,hk,he,hn,hp⟩
  ·cases hp:p n with
   | false=>exact .inl ⟨zEf (h.succ hp),h.succ hp⟩
   | true=>exact .inr ⟨n,by omega,zFu h hp (by omega),h,hp⟩
  ·exact .inr ⟨k,by omega,zFu hn hp (by omega),hn,hp⟩
def zGm (p:Nat→Bool) (n:Nat):Bool:=(List.range n).all p
theorem zEw {p:Nat→Bool} {n k:Nat} (hk:k < n) (h:p k=false):zGm p n=false:=by
 unfold zGm;rw [List.all_eq_false];exact ⟨k,List.mem_range.2 hk,by simp [h]⟩
theorem zAI {p:Nat→Bool} {n:Nat}:zGm p n=true↔∀i,i < n→p i=true:=by
 unfold zGm;rw [List.all_eq_true];exact ⟨fun h i hi=>h i (List.mem_range.2 hi),fun h i hi=>h i (List.mem_range.1 hi)⟩
def zAe (p:Nat→Bool):Nat→Nat
 | 0=>0
 | n+1=>zAe p n+(if p n then 1 else 0)
theorem zCF (p:Nat→Bool) (n:Nat):zAe p n≤n:=by
 induction n with
 | zero=>exact Nat.le_refl _
 | succ n ih=>unfold zAe;split<;>omega
theorem zAW {p:Nat→Bool} {n:Nat} (h:p n=true):zAe p (n+1)=zAe p n+1:=by simp [zAe,h]
theorem zAE {p:Nat→Bool} {n:Nat} (h:p n=false):zAe p (n+1)=zAe p n:=by simp [zAe,h]
end Go.Proofs.YtlmdfmnbcndhoaaGreatDoor
namespace Go.Proofs.YtlmdfmnbcndhoaaGreatDoor
theorem zEx {p q:Nat→Bool} {n:Nat} (h:∀m,m < n→p m=q m):zAe p n=zAe q n:=by
 induction n with
 | zero=>rfl
 | succ n ih =>
  unfold zAe;rw [ih (fun m hm=>h m (by omega)),h n (by omega)]
theorem zIu {p:Nat→Bool} {n:Nat} (h:∀m,m < n→p m=false):zAe p n=0:=by
 induction n with
 | zero=>rfl
 | succ n ih=>rw [zAE (h n (by omega))];exact ih (fun m hm=>h m (by omega))
theorem zSM {p q:Nat→Bool} {n:Nat} (h:∀m,m < n→p m=true→q m=true):zAe p n≤zAe q n:=by
 induction n with
 | zero=>exact Nat.le_refl _
 | succ n ih =>
  have:=ih (fun m hm=>h m (by omega));have h2:=h n (by omega);unfold zAe
  cases hp:p n<;>cases hq:q n<;>simp [hp,hq] at h2 ⊢<;>omega
theorem zTz {p q:Nat→Bool} {n i:Nat} (h:∀m,m < n→p m=true→q m=true) (hi:i < n) (hq:q i=true) (hp:p i=false):zAe p n+1≤zAe q n:=by
 induction n with
 | zero=>omega
 | succ n ih =>
  by_cases e:i=n
  ·subst e;rw [zAE hp,zAW hq];have:=zSM (n:=i) (fun m hm=>h m (by omega));omega
  ·have:=ih (fun m hm=>h m (by omega)) (by omega);have h2:=h n (by omega);unfold zAe
   cases hp:p n<;>cases hq:q n<;>simp [hp,hq] at h2 ⊢<;>omega
theorem zHU {p:Nat→Bool} {n i:Nat} (hi:i < n) (hp:p i=true) (h:∀m,m < n→p m=true→m=i):zAe p n=1:=by
 induction n with
 | zero=>omega
 | succ n ih =>
  by_cases e:i=n
  ·subst e;rw [zAW hp,zIu];intro m hm
   cases hq:p m with
   | false=>rfl
   | true=>have:=h m (by omega) hq;omega
  ·have hn:p n=false:=by
    cases hq:p n with
    | false=>rfl
    | true=>have:=h n (by omega) hq;omega
   rw [zAE hn];exact ih (by omega) (fun m hm=>h m (by omega))
theorem zOs {p q r:Nat→Bool} {n:Nat} (h:∀m,m < n→r m=(p m||q m)) (hd:∀m,m < n→¬(p m=true∧q m=true)):zAe r n=zAe p n+zAe q n:=by
 induction n with
 | zero=>rfl
 | succ n ih =>
  have:=ih (fun m hm=>h m (by omega)) (fun m hm=>hd m (by omega));have h2:=h n (by omega);have h3:=hd n (by omega);unfold zAe
  cases hp:p n<;>cases hq:q n<;>simp [hp,hq] at h2 h3<;>simp [h2]<;>omega
theorem zJL {p:Nat→Bool} {n i:Nat} (hi:i < n) (hp:p i=true):0 < zAe p n:=by
 have h:∀m,m < n→(fun _:Nat=>false) m=true→p m=true:=fun _ _ e=>by cases e
 have:=zTz h hi hp rfl;omega
theorem zTA {p:Nat→Bool} {n:Nat} (h:0 < zAe p n):∃i,i < n∧p i=true:=by
 induction n with
 | zero=>exact absurd h (by simp [zAe])
 | succ n ih =>
  cases hp:p n with
  | true=>exact ⟨n,by omega,hp⟩
  | false =>
   rw [zAE hp] at h;obtain ⟨i,hi,hpi⟩:=ih h;exact ⟨i,by omega,hpi⟩
theorem zOt {p:Nat→Bool} {n i j:Nat} (h:zAe p n≤1) (hi:i < n) (hj:j < n) (hpi:p i=true) (hpj:p j=true):i=j:=by
 rcases Nat.decEq i j with e | e
 ·have h1:zAe (fun m=>decide (m=i)) n=1:=zHU hi (by simp) (by intro m _ hm;simpa using hm);have h2:=zTz (p:=fun m=>decide (m=i)) (q:=p) (n:=n) (i:=j) (fun m _ hm=>by simp at hm;subst hm;exact hpi) hj hpj (by simp;omega);omega
 ·exact e
theorem zTB {p q:Nat→Bool} {n:Nat} (h:∀m,m < n→p m=true→q m=true) (e:zAe q n≤zAe p n):∀m,m < n→q m=true→p m=true:=by
 intro m hm hq
 cases hp:p m with
 | true=>rfl
 | false=>have:=zTz h hm hq hp;omega
def zGq (f:Nat→Nat):Nat→Nat
 | 0=>0
 | n+1=>zGq f n+f n
theorem zQP (f g:Nat→Nat) (n:Nat):zGq (fun i=>f i+g i) n=zGq f n+zGq g n:=by
 induction n with
 | zero=>rfl
 | succ n ih=>simp only [zGq];rw [ih];omega
theorem zDN {f g:Nat→Nat} {n:Nat} (h:∀i,i < n→f i=g i):zGq f n=zGq g n:=by
 induction n with
 | zero=>rfl
 | succ n ih=>simp only [zGq];rw [ih (fun i hi=>h i (by omega)),h n (by omega)]
theorem zGH {f:Nat→Nat} {n:Nat} (h:∀i,i < n→f i=0):zGq f n=0:=by
 induction n with
 | zero=>rfl
 | succ n ih=>simp only [zGq];rw [ih (fun i hi=>h i (by omega)),h n (by omega)]
theorem zQQ {f:Nat→Nat} {n i:Nat} (hi:i < n) (h:∀j,j < n→j≠i→f j=0):zGq f n=f i:=by
 induction n with
 | zero=>omega
 | succ n ih =>
  simp only [zGq];by_cases e:i=n
  ·subst e;rw [zGH (fun j hj=>h j (by omega) (by omega))];omega
  ·rw [ih (by omega) (fun j hj hne=>h j (by omega) hne),h n (by omega) (fun h'=>e h'.symm)];omega
theorem zTC {f:Nat→Nat} {n c:Nat} (h:∀i,i < n→f i≤c):zGq f n≤n*c:=by
 induction n with
 | zero=>simp [zGq]
 | succ n ih =>
  simp only [zGq];have:=ih (fun i hi=>h i (by omega));have h2:=h n (by omega);rw [Nat.add_mul];omega
theorem zOu {f:Nat→Nat} {n c:Nat} (h:∀i,i < n→f i≤c) (e:n*c≤zGq f n):∀i,i < n→f i=c:=by
 induction n with
 | zero=>intro i hi;omega
 | succ n ih =>
  simp only [zGq] at e;have h1:=zTC (f:=f) (n:=n) (c:=c) (fun i hi=>h i (by omega));have h2:=h n (by omega);rw [Nat.add_mul] at e;intro i hi;by_cases e':i=n
  ·subst e';omega
  ·exact ih (fun i hi=>h i (by omega)) (by omega) i (by omega)
theorem zOv {f:Nat→Nat} {n:Nat} (h:∀i,i < n→f i % 2=0):zGq f n % 2=0:=by
 induction n with
 | zero=>rfl
 | succ n ih =>
  have:=ih (fun i hi=>h i (by omega));have h2:=h n (by omega);simp only [zGq];omega
theorem zDO {p:Nat→Bool} {c:Nat→Nat} {n k:Nat} (h:∀m,m < n→p m=true→c m < k):zAe p n=zGq (fun d=>zAe (fun m=>p m&&c m==d) n) k:=by
 induction n with
 | zero=>exact (zGH (fun _ _=>rfl)).symm
 | succ n ih =>
  have ih':=ih (fun m hm=>h m (by omega));simp only [zAe];rw [zQP,ih']
  congr 1
  by_cases hp:p n=true
  ·rw [if_pos hp,zQQ (i:=c n) (h n (by omega) hp) (by
    intro j _ hj
    have:¬c n=j:=fun e=>hj e.symm
    simp [this])]
   simp [hp]
  ·rw [if_neg hp];exact (zGH (fun _ _=>by simp [hp])).symm
theorem zVs {p:Nat→Bool} {f:Nat→Int} {n:Nat} (hb:∀m,m < n→p m=true→1≤f m∧f m≤zAe p n) (hd:∀i j,i < n→j < n→p i=true→p j=true→f i=f j→i=j) :
  ∀v:Nat,v≤zAe p n→zAe (fun m=>p m&&decide (f m≤(v:Int))) n=v:=by
 have step:∀v:Nat,zAe (fun m=>p m&&decide (f m≤((v+1:Nat):Int))) n≤zAe (fun m=>p m&&decide (f m≤(v:Int))) n+1:=by
  intro v;rw [zOs (p:=fun m=>p m&&decide (f m≤(v:Int))) (q:=fun m=>p m&&decide (f m=((v+1:Nat):Int)))]
  ·refine Nat.add_le_add_left ?_ _;by_cases hx:∃k,k < n∧(p k&&decide (f k=((v+1:Nat):Int)))=true
   ·obtain ⟨k,hk,hp⟩:=hx;simp at hp;refine Nat.le_of_eq (zHU hk (by simp [hp]) fun m hm hpm=>?_);simp at hpm;exact hd m k hm hk hpm.1 hp.1 (by omega)
   ·rw [zIu]
    ·omega
    ·intro m hm
     cases hq:(p m&&decide (f m=((v+1:Nat):Int))) with
     | false=>rfl
     | true=>exact absurd ⟨m,hm,hq⟩ hx
  ·intro m _
   cases p m
   ·rfl
   ·simp only [Bool.true_and];rw [←Bool.decide_or];apply decide_eq_decide.2;omega
  ·intro m _ ⟨h1,h2⟩;simp at h1 h2;omega
 have h0:zAe (fun m=>p m&&decide (f m≤((0:Nat):Int))) n=0:=zIu fun m hm=>by
  cases hp:p m with
  | false=>rfl
  | true =>
   have:=(hb m hm hp).1;have:¬f m≤((0:Nat):Int):=by omega
   simp only [this,decide_false,Bool.and_false]
 have hup:∀v k:Nat,zAe (fun m=>p m&&decide (f m≤((v+k:Nat):Int))) n≤zAe (fun m=>p m&&decide (f m≤(v:Int))) n+k:=by
  intro v k
  induction k with
  | zero=>exact Nat.le_refl _
  | succ k ih =>
   have:=step (v+k);rw [show v+(k+1)=v+k+1 by omega];omega
 have hall:zAe (fun m=>p m&&decide (f m≤((zAe p n:Nat):Int))) n=zAe p n:=zEx fun m hm=>by
  cases hp:p m with
  | false=>rfl
  | true=>have:=(hb m hm hp).2;simp [this]
 intro v hv;have a1:=hup 0 v;rw [Nat.zero_add] at a1;have a2:=hup v (zAe p n-v);rw [show v+(zAe p n-v)=zAe p n by omega,hall] at a2;omega
end Go.Proofs.YtlmdfmnbcndhoaaGreatDoor
namespace Go.Proofs.YtlmdfmnbcndhoaaGreatDoor
structure Lt where
 kind:Int
 gate:Int
 rank:Int
 id:Int
 sign:Int
 over:Bool
instance : DecidableEq Lt := fun a b =>
 if h:a.kind=b.kind∧a.gate=b.gate∧a.rank=b.rank∧a.id=b.id∧a.sign=b.sign∧a.over=b.over then
  .isTrue (by cases a;cases b;simp at h;simp [h])
 else .isFalse (fun e=>h (by subst e;simp))
def dl:Lt:=⟨0,0,0,0,0,false⟩
def la (L:List Lt) (i:Nat):Lt:=(L[i]?).getD dl
theorem zQR {L:List Lt} {i:Nat} {x:Lt} (h:L[i]? = some x):la L i=x:=by unfold la;rw [h];rfl
def isP (l:Lt):Bool:=l.kind==1
def isC (l:Lt):Bool:=l.kind==2
theorem zOw {l:Lt} (h:isP l=true):isC l=false:=by unfold isP at h;unfold isC;simp at h ⊢;omega
def pN (L:List Lt) (m:Nat):Nat:=zAe (fun i=>isP (la L i)) m
def cN (L:List Lt) (m:Nat):Nat:=zAe (fun i=>isC (la L i)) m
def gN (L:List Lt) (g:Int) (m:Nat):Nat:=zAe (fun i=>isP (la L i)&&(la L i).gate==g) m
def tN (L:List Lt) (d:Int) (m:Nat):Nat:=zAe (fun i=>isC (la L i)&&(la L i).id==d) m
def dwn (L:List Lt) (i:Nat):Bool:=pN L i % 2==0
def smB (l o:Lt):Bool:=o.kind==l.kind&&o.gate==l.gate&&o.rank==l.rank
def smN (L:List Lt) (l:Lt) (m:Nat):Nat:=zAe (fun j=>smB l (la L j)) m
def prB (l o:Lt):Bool:=o.kind==l.kind&&o.id==l.id&&o.sign==l.sign&&o.over != l.over
def prN (L:List Lt) (l:Lt) (m:Nat):Nat:=zAe (fun j=>prB l (la L j)) m
def rlB (K:Int) (L:List Lt) (l:Lt):Bool :=
 if l.kind=1 then decide (l.id=0∧l.sign=0∧l.over=false∧0≤l.gate∧l.gate≤K∧1≤l.rank∧l.rank≤(gN L l.gate L.length:Int)∧smN L l L.length=1)
 else if l.kind=2 then decide (l.gate=0∧l.rank=0∧(l.sign=1∨l.sign = -1)∧1≤l.id∧l.id≤((cN L L.length / 2:Nat):Int)∧prN L l L.length=1∧tN L l.id L.length=2)
 else false
def zIv (K:Int) (L:List Lt):Bool:=zGm (fun i=>rlB K L (la L i)) L.length
def lpB (K:Int) (l:Lt):Bool :=
 if l.kind=1 then decide (0≤l.gate∧l.gate≤K∧l.id=0∧l.sign=0∧l.over=false)
 else if l.kind=2 then decide (l.gate=0∧l.rank=0∧(l.sign=1∨l.sign = -1))
 else false
def zAC (K:Int) (L:List Lt):Bool:=zGm (fun i=>lpB K (la L i)) L.length
def keyB (a b:Lt):Bool:=a.gate==b.gate&&a.rank==b.rank
def rkB (L:List Lt) (i:Nat):Bool :=
 !isP (la L i)||(decide (1≤(la L i).rank∧(la L i).rank≤(gN L (la L i).gate L.length:Int))&&zGm (fun j=>!(isP (la L j)&&keyB (la L j) (la L i))) i)
def zCi (L:List Lt):Bool:=zGm (rkB L) L.length
def crB (L:List Lt) (i:Nat):Bool :=
 !isC (la L i)||(decide (1≤(la L i).id∧(la L i).id≤((cN L L.length / 2:Nat):Int))&&zGm (fun j=>!(isC (la L j)&&(la L j).id==(la L i).id)||((la L j).over != (la L i).over&&(la L j).sign==(la L i).sign)) i)
def zBz (L:List Lt):Bool:=decide (cN L L.length % 2=0)&&zGm (crB L) L.length
def nwB (L:List Lt) (i:Nat):Bool:=isC (la L i)&&zGm (fun j=>!(isC (la L j)&&(la L j).id==(la L i).id)) i
def dN (L:List Lt) (m:Nat):Nat:=zAe (nwB L) m
def zNh (a b:Lt):Bool:=decide (a.gate < b.gate)||(a.gate==b.gate&&decide (a.rank < b.rank))
def zNi (L:List Lt) (i:Nat):List Nat→List Nat
 | []=>[i]
 | x :: X=>if zNh (la L x) (la L i) then x :: zNi L i X else i :: x :: X
def zNj (L:List Lt):Nat→List Nat
 | 0=>[]
 | m+1=>if isP (la L m) then zNi L m (zNj L m) else zNj L m
def axL (L:List Lt):List Nat:=zNj L L.length
def zJD (L:List Lt) (i:Nat):Nat:=((List.range L.length).find? (fun j=>j != i&&isC (la L j)&&(la L j).id==(la L i).id)).getD i
def zVt (X:List Nat) (v:Nat):Nat:=X.findIdx (·==v)
def xat (X:List Nat) (i:Nat):Nat:=(X[i]?).getD 0
def zCj (n i:Nat) (f:Bool):Nat:=if f then 2*i else 2*((i+n-1) % n)+1
def zBK (n d:Nat):Nat:=if d % 2=0 then (d / 2+1) % n else d / 2
def zBT (L:List Lt) (X:List Nat) (d:Nat):Nat :=
 if 2*L.length≤d then
  if d % 2=0 then zCj L.length (xat X (((d-2*L.length) / 2+1) % X.length)) (!dwn L (xat X (((d-2*L.length) / 2+1) % X.length)))
  else zCj L.length (xat X ((d-2*L.length) / 2)) (dwn L (xat X ((d-2*L.length) / 2)))
 else if isC (la L (zBK L.length d)) then zCj L.length (zJD L (zBK L.length d)) ((d % 2==0)==((la L (zBK L.length d)).over==((la L (zBK L.length d)).sign==1)))
 else if dwn L (zBK L.length d)==(d % 2==0) then 2*L.length+2*zVt X (zBK L.length d)
 else 2*L.length+2*((zVt X (zBK L.length d)+X.length-1) % X.length)+1
def sat (s:List Bool) (x:Nat):Bool:=(s[x]?).getD true
def zEg (f:Nat→Nat):Nat→List Bool→Nat→List Nat×List Bool
 | 0,s,_=>([],s)
 | k+1,s,x=>if sat s x then ([],s) else (x :: (zEg f k (s.set x true) (f x)).1,(zEg f k (s.set x true) (f x)).2)
def zCk (f:Nat→Nat):List Nat→List Bool→List (List Nat)
 | [],_=>[]
 | d :: ds,s=>if sat s d then zCk f ds s else (zEg f s.length s d).1 :: zCk f ds (zEg f s.length s d).2
def zCz (L:List Lt):Nat:=2*L.length+2*(axL L).length
def zGI (L:List Lt):List (List Nat):=zCk (zBT L (axL L)) (List.range (zCz L)) (List.replicate (zCz L) false)
def zKW (L:List Lt):Bool:=(zGI L).length==pN L L.length+cN L L.length / 2+2
def zBa (K:Int) (L:List Lt):Bool:=isP (la L 0)&&decide (pN L L.length % 2=0)&&zIv K L&&zKW L
def zBl (K:Int) (L:List Lt):Int :=
 if 400 < L.length∨200 < cN L L.length then 7 else if K < 0∨40 < K then 2 else if L.length=0 then 0 else if zBa K L then 0 else 3
end Go.Proofs.YtlmdfmnbcndhoaaGreatDoor
namespace Go.Proofs.YtlmdfmnbcndhoaaGreatDoor
open Go.RowKit
structure LtOk (l:Lt):Prop where
 kind:I64 l.kind
 gate:I64 l.gate
 rank:I64 l.rank
 id:I64 l.id
 sign:I64 l.sign
structure LtAt (w:World) (g p:Nat) (l:Lt):Prop where
 kind:w.cell? ⟨g,p,none⟩=some (.int .i64 l.kind)
 gate:w.cell? ⟨g,p+1,none⟩=some (.int .i64 l.gate)
 rank:w.cell? ⟨g,p+2,none⟩=some (.int .i64 l.rank)
 id:w.cell? ⟨g,p+3,none⟩=some (.int .i64 l.id)
 sign:w.cell? ⟨g,p+4,none⟩=some (.int .i64 l.sign)
 over:w.cell? ⟨g,p+5,none⟩=some (.bool l.over)
def Lets (w:World) (A:Option Addr) (n:Nat) (L:List Lt):Prop :=
 L.length=n∧n≤2932031007402∧(∀x∈L,LtOk x) ∧
 (0 < n→∃g o,A=some ⟨g,o,none⟩∧g < w.heap.size∧∀j x,L[j]? = some x→LtAt w g (o+j*6) x)
theorem LtAt.keep {w w':World} {g p:Nat} {l:Lt} (h:LtAt w g p l) (hk:∀q:Addr,q.block=g→w'.cell? q=w.cell? q):LtAt w' g p l :=
 ⟨(hk _ rfl).trans h.kind,(hk _ rfl).trans h.gate,(hk _ rfl).trans h.rank,(hk _ rfl).trans h.id,(hk _ rfl).trans h.sign,(hk _ rfl).trans h.over⟩
section
variable {w w':World} {A:Option Addr} {n:Nat} {L:List Lt}
theorem Lets.len (h:Lets w A n L):L.length=n:=h.1
theorem Lets.le (h:Lets w A n L):n≤2932031007402:=h.2.1
theorem Lets.fits (h:Lets w A n L):∀x∈L,LtOk x:=h.2.2.1
theorem Lets.nil (w:World) (A:Option Addr):Lets w A 0 []:=⟨rfl,by omega,by simp,fun h=>absurd h (by omega)⟩
theorem Lets.at_ {k:Nat} (h:Lets w A n L) (hk:k < n):∃g o,A=some ⟨g,o,none⟩∧g < w.heap.size∧LtAt w g (o+k*6) (la L k)∧LtOk (la L k):=by
 obtain ⟨hl,_,hf,hc⟩:=h;obtain ⟨g,o,e,hb,hcell⟩:=hc (by omega);have hx:L[k]? = some L[k]:=List.getElem?_eq_getElem (by omega);rw [zQR hx];exact ⟨g,o,e,hb,hcell k _ hx,hf _ (List.getElem_mem (by omega))⟩
theorem Lets.also {g o k:Nat} (h:Lets w (some ⟨g,o,none⟩) n L) (hk:k < n):LtAt w g (o+k*6) (la L k)∧LtOk (la L k):=by
 obtain ⟨g',o',e,_,h1,h2⟩:=h.at_ hk;injection e with e
 injection e with e1 e2
 subst e1;subst e2
 exact ⟨h1,h2⟩
theorem Lets.keep (h:Lets w A n L) (hs:w.heap.size≤w'.heap.size) (hk:∀p:Addr,p.block < w.heap.size→w'.cell? p=w.cell? p):Lets w' A n L :=
 ⟨h.1,h.2.1,h.2.2.1,fun hn=>by
  obtain ⟨g,o,e,hb,hc⟩:=h.2.2.2 hn
  exact ⟨g,o,e,by omega,fun j x hx=>(hc j x hx).keep fun q hq=>hk q (by rw [hq];exact hb)⟩⟩
theorem Lets.below (h:Lets w A n L) (hb:Below w.heap.size w w'):Lets w' A n L:=h.keep hb.size fun _ hp=>hb.cell hp
theorem Lets.alloc (h:Lets w A n L) (o:Obj):Lets (w.alloc o) A n L:=h.below ((Below.refl _ _).alloc (Nat.le_refl _) o)
end
theorem zJM {l:Lt} (h:l.kind=1):isP l=true:=by unfold isP;simp [h]
theorem zKX {l:Lt} (h:¬l.kind=1):isP l=false:=by unfold isP;simp [h]
theorem zQS {l:Lt} (h:l.kind=2):isC l=true:=by unfold isC;simp [h]
theorem zQT {l:Lt} (h:¬l.kind=2):isC l=false:=by unfold isC;simp [h]
theorem zNk (L:List Lt) (k:Nat):pN L k≤k:=zCF _ _
theorem zQU (L:List Lt) (k:Nat):cN L k≤k:=zCF _ _
end Go.Proofs.YtlmdfmnbcndhoaaGreatDoor
namespace Go.Proofs.YtlmdfmnbcndhoaaGreatDoor
open Go.RowKit
set_option maxHeartbeats 400000 in
theorem zKY (K:Int) (A:Option Addr) (n c:Nat) (L:List Lt) (w:World) (hA:Lets w A n L) :
  Calls Tryz.prog 199 #[.agg #[.int .i64 K,.slice A n c]] w fun e w'=>e=.returned (.int .i64 (pN L n))∧Below w.heap.size w w':=by
 have hle:=hA.le;go_enter Tryz.func199,Tryz.ntmps199;go_wp2
 go_loopw [3,5,9] (fun v3 _ v9 wr=>∃k:Nat,k≤n∧v9=.int .i64 k∧v3=.int .i64 (pN L k)∧Below w.heap.size w wr) (fun _ _ i _=>n-(intOf i).toNat)
 case atStart=>exact ⟨0,Nat.zero_le _,rfl,rfl,(Below.refl _ _).alloc (Nat.le_refl _) _⟩
 case round =>
  obtain ⟨k,hk,rfl,rfl,hb⟩:=hrel;have hpk:=zNk L k;by_cases hlt:k < n
  ·obtain ⟨g,o,rfl,hg,hx,hok⟩:=(hA.below hb).at_ hlt;obtain ⟨h0,h1,h2,h3,h4,h5⟩:=hx;by_cases hp:(la L k).kind=1
   ·have hs:=qH (show pN L (k+1)=pN L k+1 from zAW (zJM hp));go_wp2_with fail
    go_roundw
    case rel=>exact ⟨k+1,by omega,by go_num,by rw [hs.out];go_num,hb.alloc hb.size _⟩
    case measure=>simp [intOf];omega
   ·have hs:=qH (show pN L (k+1)=pN L k from zAE (zKX hp));have pw:((la L k).kind==1)=false:=by simpa using hp
    go_wp2_with fail
    go_roundw
    case rel=>exact ⟨k+1,by omega,by go_num,by rw [hs.out],hb.alloc hb.size _⟩
    case measure=>simp [intOf];omega
  ·go_wp2_with fail
   go_ret;have hkn:k=n:=by omega
   subst hkn;exact ⟨rfl,hb⟩
set_option maxHeartbeats 400000 in
theorem zBs (K:Int) (A:Option Addr) (n c:Nat) (L:List Lt) (w:World) (hA:Lets w A n L) :
  Calls Tryz.prog 91 #[.agg #[.int .i64 K,.slice A n c]] w fun e w'=>e=.returned (.int .i64 (cN L n))∧Below w.heap.size w w':=by
 have hle:=hA.le;go_enter Tryz.func91,Tryz.ntmps91;go_wp2
 go_loopw [3,5,9] (fun v3 _ v9 wr=>∃k:Nat,k≤n∧v9=.int .i64 k∧v3=.int .i64 (cN L k)∧Below w.heap.size w wr) (fun _ _ i _=>n-(intOf i).toNat)
 case atStart=>exact ⟨0,Nat.zero_le _,rfl,rfl,(Below.refl _ _).alloc (Nat.le_refl _) _⟩
 case round =>
  obtain ⟨k,hk,rfl,rfl,hb⟩:=hrel;have hpk:=zQU L k;by_cases hlt:k < n
  ·obtain ⟨g,o,rfl,hg,hx,hok⟩:=(hA.below hb).at_ hlt;obtain ⟨h0,h1,h2,h3,h4,h5⟩:=hx;by_cases hp:(la L k).kind=2
   ·have hs:=qH (show cN L (k+1)=cN L k+1 from zAW (zQS hp));go_wp2_with fail
    go_roundw
    case rel=>exact ⟨k+1,by omega,by go_num,by rw [hs.out];go_num,hb.alloc hb.size _⟩
    case measure=>simp [intOf];omega
   ·have hs:=qH (show cN L (k+1)=cN L k from zAE (zQT hp));have pw:((la L k).kind==2)=false:=by simpa using hp
    go_wp2_with fail
    go_roundw
    case rel=>exact ⟨k+1,by omega,by go_num,by rw [hs.out],hb.alloc hb.size _⟩
    case measure=>simp [intOf];omega
  ·go_wp2_with fail
   go_ret;have hkn:k=n:=by omega
   subst hkn;exact ⟨rfl,hb⟩
end Go.Proofs.YtlmdfmnbcndhoaaGreatDoor
namespace Go.Proofs.YtlmdfmnbcndhoaaGreatDoor
open Go.RowKit
def ltV (l:Lt):Value:=.agg #[.int .i64 l.kind,.int .i64 l.gate,.int .i64 l.rank,.int .i64 l.id,.int .i64 l.sign,.bool l.over]
end Go.Proofs.YtlmdfmnbcndhoaaGreatDoor
namespace Go.Proofs.YtlmdfmnbcndhoaaGreatDoor
open Go.RowKit
def zVp (X:List Nat):List Int:=X.map (fun (x:Nat)=>(x:Int))
theorem zQV (X:List Nat):(zVp X).length=X.length:=by simp [zVp]
theorem zIw {X:List Nat} {k:Nat} (h:k < X.length):(zVp X)[k]? = some ((xat X k:Nat):Int):=by
 unfold zVp xat;rw [List.getElem?_map,List.getElem?_eq_getElem h];rfl
def Boxed (w wr:World) (K:Int) (A:Option Addr) (n c:Nat):Prop:=Below (w.heap.size+1) (w.alloc (.cells #[.int .i64 K,.slice A n c] 55)) wr
section
variable {w wr wx:World} {K:Int} {A:Option Addr} {n c:Nat}
theorem Boxed.refl (w:World) (K:Int) (A:Option Addr) (n c:Nat):Boxed w (w.alloc (.cells #[.int .i64 K,.slice A n c] 55)) K A n c:=Below.refl _ _
theorem Boxed.below (h:Boxed w wr K A n c):Below w.heap.size w wr:=((Below.refl _ _).alloc (Nat.le_refl _) _).trans (h.mono (by omega))
theorem Boxed.size (h:Boxed w wr K A n c):w.heap.size+1≤wr.heap.size:=by have:=Below.size h;simpa using this
theorem Boxed.more (h:Boxed w wr K A n c) (hb:Below wr.heap.size wr wx):Boxed w wx K A n c:=zAa h hb h.size
theorem Boxed.alloc (h:Boxed w wr K A n c) (o:Obj):Boxed w (wr.alloc o) K A n c:=Below.alloc h h.size o
theorem Boxed.c0 (h:Boxed w wr K A n c):wr.cell? ⟨w.heap.size,0,none⟩=some (.int .i64 K) :=
 (Below.cell h (p:=⟨w.heap.size,0,none⟩) (by simp)).trans (by rw [World.cell?_alloc_at _ _ _ _ rfl];rfl)
theorem Boxed.c1 (h:Boxed w wr K A n c):wr.cell? ⟨w.heap.size,1,none⟩=some (.slice A n c) :=
 (Below.cell h (p:=⟨w.heap.size,1,none⟩) (by simp)).trans (by rw [World.cell?_alloc_at _ _ _ _ rfl];rfl)
end
end Go.Proofs.YtlmdfmnbcndhoaaGreatDoor
