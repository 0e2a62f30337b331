/-
  Lemmas, part 32. Conditions: each theorem's own.
-/
import Derived.Test.YtlmdfmnbcndhoaaGreatDoorRl31
import Derived.Test.YtlmdfmnbcndhoaaGreatDoorRl26
namespace Go.Proofs.YtlmdfmnbcndhoaaGreatDoor
open Go.RowKit
def zCs (F:List Fg) (re lo K:Int) (L:List Lt):Bool:=frB F re lo&&(zBl K L==0)&&(K==(F.length:Int))&&zEe L
def zCU (F:List Fg) (re lo K:Int) (L:List Lt):Int:=if frB F re lo=false then 2 else if zBl K L≠0 then zBl K L else if zCs F re lo K L then 0 else 2
theorem zML {K E:Int} {A:Option Addr} {n c:Nat} {L:List Lt} (h:zBl K L=E) (w:World) (hA:Lets w A n L):Calls Tryz.prog 122 #[.agg #[.int .i64 K,.slice A n c]] w fun e w'=>e=.returned (.int .i64 E)∧Below w.heap.size w w':=by
 subst h;exact zNM K A n c L w hA
theorem zRO {K:Int} {A:Option Addr} {n c:Nat} {L:List Lt} {b:Bool} (h:zEe L=b) (w:World) (hA:Lets w A n L) (h0:zBl K L=0):Calls Tryz.prog 130 #[.agg #[.int .i64 K,.slice A n c]] w fun e w'=>e=.returned (.bool b)∧Below w.heap.size w w':=by
 have ht:=zFf h0;have hl:=hA.len;subst h;exact zNN K A n c L w hA (by have:=ht.len;omega) (fun i hi hp=>by have:=ht.pass i (by omega) hp;have:=ht.hi;omega)
set_option maxHeartbeats 3200000 in
theorem zNO (A:Option Addr) (n c:Nat) (F:List Fg) (re lo K:Int) (B:Option Addr) (m d:Nat) (L:List Lt) (w:World) (hA:Fgs w A n F) (hc:n≤c) (hB:Lets w B m L) :
  Calls Tryz.prog 83 #[frV A n c re lo,.agg #[.int .i64 K,.slice B m d]] w fun e w'=>e=.returned (.bool (zCs F re lo K L))∧Below w.heap.size w w':=by
 have ah:Below w.heap.size w ((w.alloc (.cells #[.slice A n c,.int .i64 re,.int .i64 lo] 24)).alloc (.cells #[.int .i64 K,.slice B m d] 55)):=((Below.refl _ _).alloc (Nat.le_refl _) _).alloc (by simp) _;have hk0:Blk ((w.alloc (.cells #[.slice A n c,.int .i64 re,.int .i64 lo] 24)).alloc (.cells #[.int .i64 K,.slice B m d] 55)) w.heap.size 24 #[.slice A n c,.int .i64 re,.int .i64 lo]:=(Blk.new w _ _).alloc _;have aq:Blk ((w.alloc (.cells #[.slice A n c,.int .i64 re,.int .i64 lo] 24)).alloc (.cells #[.int .i64 K,.slice B m d] 55)) (w.heap.size+1) 55 #[.int .i64 K,.slice B m d]:=heap_alloc2_new w _ _;have An:=hA.len;obtain ⟨v,hv⟩:∃v,frB F re lo=v:=⟨_,rfl⟩
 have HV:=qH (fun wx (hx:Fgs wx A n F)=>zEB hv A n c wx hx hc);have HR:=qH (show zCs F re lo K L=(v&&(zBl K L==0)&&(K==(n:Int))&&zEe L) by unfold zCs;rw [hv,An]);rw [HR.out];clear hv An
 cases v with
 | false =>
  go_enter Tryz.func83,Tryz.ntmps83;go_wp2_with fail
  generalize ((w.alloc (.cells #[.slice A n c,.int .i64 re,.int .i64 lo] 24)).alloc (.cells #[.int .i64 K,.slice B m d] 55))=Y at ah hk0 aq ⊢;refine (HV.out _ (hA.below ah)).mono ?_;rintro e Y2 ⟨rfl,ai⟩;have al:=zAa ah ai ah.size;clear ai hk0 aq;go_wp2_with fail
  go_ret;exact ⟨rfl,al⟩
 | true =>
  obtain ⟨E,hE⟩:∃E,zBl K L=E:=⟨_,rfl⟩
  have HC:=qH (fun wx (hx:Lets wx B m L)=>zML (c:=d) hE wx hx);rw [hE];have HE:=qH hE;clear hE HR;by_cases h0:E=0
  ·subst h0;by_cases hK:K=(n:Int)
   ·have q1:(K==(n:Int))=true:=by simpa using hK
    obtain ⟨p,hp⟩:∃p,zEe L=p:=⟨_,rfl⟩
    have HP:=qH (fun wx (hx:Lets wx B m L)=>zRO (c:=d) hp wx hx HE.out);rw [hp];clear hp hK;go_enter Tryz.func83,Tryz.ntmps83;go_wp2_with fail
    generalize ((w.alloc (.cells #[.slice A n c,.int .i64 re,.int .i64 lo] 24)).alloc (.cells #[.int .i64 K,.slice B m d] 55))=Y at ah hk0 aq ⊢;refine (HV.out _ (hA.below ah)).mono ?_;rintro e Y2 ⟨rfl,ai⟩;have al:=zAa ah ai ah.size;have k2:=hk0.below ai hk0.lt;have k3:=aq.below ai aq.lt;clear ai hk0 aq;obtain ⟨c0,c1⟩:=cQ2 k3;go_wp2_with fail
    refine (HC.out _ (hB.below al)).mono ?_;rintro e Y3 ⟨rfl,aI⟩;have aw:=zAa al aI al.size;have k4:=k2.below aI k2.lt;have k5:=k3.below aI k3.lt;clear aI k2 k3 c0 c1 al;obtain ⟨c0,c1⟩:=cQ2 k5;have c2:Y3.cell? ⟨w.heap.size,0,none⟩=some (.slice A n c):=(k4.cell 0).trans rfl;go_wp2_with fail
    refine (HP.out _ (hB.below aw)).mono ?_;rintro e Y4 ⟨rfl,aH⟩;have cI:=zAa aw aH aw.size;clear aw aH k4 k5 c0 c1 c2;go_wp2_with fail
    go_ret;exact ⟨by rw [q1];simp,cI⟩
   ·have q1:(K==(n:Int))=false:=by simpa using hK
    clear hK;go_enter Tryz.func83,Tryz.ntmps83;go_wp2_with fail
    generalize ((w.alloc (.cells #[.slice A n c,.int .i64 re,.int .i64 lo] 24)).alloc (.cells #[.int .i64 K,.slice B m d] 55))=Y at ah hk0 aq ⊢;refine (HV.out _ (hA.below ah)).mono ?_;rintro e Y2 ⟨rfl,ai⟩;have al:=zAa ah ai ah.size;have k2:=hk0.below ai hk0.lt;have k3:=aq.below ai aq.lt;clear ai hk0 aq;obtain ⟨c0,c1⟩:=cQ2 k3;go_wp2_with fail
    refine (HC.out _ (hB.below al)).mono ?_;rintro e Y3 ⟨rfl,aI⟩;have aw:=zAa al aI al.size;have k4:=k2.below aI k2.lt;have k5:=k3.below aI k3.lt;clear aI k2 k3 c0 c1 al;have c0:Y3.cell? ⟨w.heap.size+1,0,none⟩=some (.int .i64 K):=(k5.cell 0).trans rfl;have c2:Y3.cell? ⟨w.heap.size,0,none⟩=some (.slice A n c):=(k4.cell 0).trans rfl;go_wp2_with fail
    go_ret;exact ⟨by rw [q1];simp,aw⟩
  ·have q1:(E==0)=false:=by simpa using h0
   clear h0;go_enter Tryz.func83,Tryz.ntmps83;go_wp2_with fail
   generalize ((w.alloc (.cells #[.slice A n c,.int .i64 re,.int .i64 lo] 24)).alloc (.cells #[.int .i64 K,.slice B m d] 55))=Y at ah hk0 aq ⊢;refine (HV.out _ (hA.below ah)).mono ?_;rintro e Y2 ⟨rfl,ai⟩;have al:=zAa ah ai ah.size;have k3:=aq.below ai aq.lt;clear ai hk0 aq;obtain ⟨c0,c1⟩:=cQ2 k3;go_wp2_with fail
   refine (HC.out _ (hB.below al)).mono ?_;rintro e Y3 ⟨rfl,aI⟩;have aw:=zAa al aI al.size;clear aI k3 c0 c1 al;go_wp2_with fail
   go_ret;exact ⟨by rw [q1];simp,aw⟩
theorem zGf {A:Option Addr} {n c:Nat} {F:List Fg} {re lo K:Int} {B:Option Addr} {m d:Nat} {L:List Lt} {b:Bool} (h:zCs F re lo K L=b) (w:World) (hA:Fgs w A n F) (hc:n≤c) (hB:Lets w B m L) :
  Calls Tryz.prog 83 #[frV A n c re lo,.agg #[.int .i64 K,.slice B m d]] w fun e w'=>e=.returned (.bool b)∧Below w.heap.size w w':=by
 subst h;exact zNO A n c F re lo K B m d L w hA hc hB
set_option maxHeartbeats 3200000 in
theorem zLK (A:Option Addr) (n c:Nat) (F:List Fg) (re lo K:Int) (B:Option Addr) (m d:Nat) (L:List Lt) (w:World) (hA:Fgs w A n F) (hc:n≤c) (hB:Lets w B m L) :
  Calls Tryz.prog 74 #[frV A n c re lo,.agg #[.int .i64 K,.slice B m d]] w fun e w'=>e=.returned (.int .i64 (zCU F re lo K L))∧Below w.heap.size w w':=by
 have ah:Below w.heap.size w ((w.alloc (.cells #[.slice A n c,.int .i64 re,.int .i64 lo] 24)).alloc (.cells #[.int .i64 K,.slice B m d] 55)):=((Below.refl _ _).alloc (Nat.le_refl _) _).alloc (by simp) _;have hk0:Blk ((w.alloc (.cells #[.slice A n c,.int .i64 re,.int .i64 lo] 24)).alloc (.cells #[.int .i64 K,.slice B m d] 55)) w.heap.size 24 #[.slice A n c,.int .i64 re,.int .i64 lo]:=(Blk.new w _ _).alloc _;have aq:Blk ((w.alloc (.cells #[.slice A n c,.int .i64 re,.int .i64 lo] 24)).alloc (.cells #[.int .i64 K,.slice B m d] 55)) (w.heap.size+1) 55 #[.int .i64 K,.slice B m d]:=heap_alloc2_new w _ _;obtain ⟨v,hv⟩:∃v,frB F re lo=v:=⟨_,rfl⟩
 obtain ⟨E,hE⟩:∃E,zBl K L=E:=⟨_,rfl⟩
 obtain ⟨p,hp⟩:∃p,zCs F re lo K L=p:=⟨_,rfl⟩
 have HV:=qH (fun wx (hx:Fgs wx A n F)=>zEB hv A n c wx hx hc);have HC:=qH (fun wx (hx:Lets wx B m L)=>zML (c:=d) hE wx hx);have HP:=qH (fun wx (hx:Fgs wx A n F) (hy:Lets wx B m L)=>zGf (d:=d) hp wx hx hc hy);have HR:=qH (show zCU F re lo K L=if v=false then 2 else if E≠0 then E else if p then 0 else 2 by unfold zCU;rw [hv,hE,hp]);clear hv hE hp;go_enter Tryz.func74,Tryz.ntmps74;go_wp2_with fail
 generalize ((w.alloc (.cells #[.slice A n c,.int .i64 re,.int .i64 lo] 24)).alloc (.cells #[.int .i64 K,.slice B m d] 55))=Y at ah hk0 aq ⊢;refine (HV.out _ (hA.below ah)).mono ?_;rintro e Y2 ⟨rfl,ai⟩;have al:=zAa ah ai ah.size;have k2:=hk0.below ai hk0.lt;have k3:=aq.below ai aq.lt;clear ai hk0 aq ah
 cases v with
 | false =>
  have kV:=qH (HR.out.trans (if_pos rfl));clear HR;go_wp2_with fail
  go_ret;exact ⟨zFs kV.out.symm,al⟩
 | true =>
  obtain ⟨c0,c1⟩:=cQ2 k3;go_wp2_with fail
  refine (HC.out _ (hB.below al)).mono ?_;rintro e Y3 ⟨rfl,aI⟩;have aw:=zAa al aI al.size;have k4:=k2.below aI k2.lt;have k5:=k3.below aI k3.lt;clear aI k2 k3 c0 c1 al;by_cases h0:E=0
  ·subst h0;obtain ⟨c0,c1⟩:=cQ2 k5;obtain ⟨c2,c3,c4⟩:=cQ3 k4;go_wp2_with fail
   refine (HP.out _ (hA.below aw) (hB.below aw)).mono ?_;rintro e Y4 ⟨rfl,aH⟩;have cI:=zAa aw aH aw.size;clear aw aH k4 k5 c0 c1 c2 c3 c4
   cases p with
   | false =>
    have kV:=qH (show zCU F re lo K L=2 by rw [HR.out];simp);clear HR;go_wp2_with fail
    go_ret;exact ⟨zFs kV.out.symm,cI⟩
   | true =>
    have kV:=qH (show zCU F re lo K L=0 by rw [HR.out];simp);clear HR;go_wp2_with fail
    go_ret;exact ⟨zFs kV.out.symm,cI⟩
  ·have q1:(E != 0)=true:=by simpa using h0
   have kV:=qH (show zCU F re lo K L=E by rw [HR.out,if_neg (by simp),if_pos h0]);clear h0 HR;go_wp2_with fail
   go_ret;exact ⟨zFs kV.out.symm,aw⟩
theorem zHy {F:List Fg} {re lo K:Int} {L:List Lt} (h:zCU F re lo K L=0):zCs F re lo K L=true∧frOk F re lo∧zBl K L=0∧K=(F.length:Int)∧zEe L=true:=by
 have hp:zCs F re lo K L=true:=by
  unfold zCU at h;split at h
  ·omega
  ·split at h
   ·rename_i h1 h2;exact absurd h h2
   ·split at h
    ·rename_i h3;exact h3
    ·omega
 have hq:=hp;unfold zCs at hq;simp only [Bool.and_eq_true,beq_iff_eq] at hq;exact ⟨hp,zCB.1 hq.1.1.1,hq.1.1.2,hq.1.2,hq.2⟩
end Go.Proofs.YtlmdfmnbcndhoaaGreatDoor
namespace Go.Proofs.YtlmdfmnbcndhoaaGreatDoor
open Go.RowKit
structure Bi where
 f:Int
 n:Int
 b:Bool
instance : DecidableEq Bi := fun x y =>
 if h:x.f=y.f∧x.n=y.n∧x.b=y.b then .isTrue (by cases x;cases y;simp at h;simp [h])
 else .isFalse (fun e=>h (by subst e;simp))
def bi0:Bi:=⟨0,0,false⟩
def ba (l:List Bi) (i:Nat):Bi:=(l[i]?).getD bi0
theorem zMM {l:List Bi} {i:Nat} (h:i < l.length):l[i]? = some (ba l i):=by unfold ba;rw [List.getElem?_eq_getElem h];rfl
theorem zXm {l:List Bi} {i:Nat} {x:Bi} (h:l[i]? = some x):ba l i=x:=by unfold ba;rw [h];rfl
def zGC (x:List UInt8):List UInt8×List UInt8×Bool:=Lib.cut x.dropLast [46]
def zBJ (x:List UInt8) (c:UInt8):Bool:=decide (x.getLast? = some c)
noncomputable def zMN (L:List Fg) (x:List UInt8):Bi :=
 if (zGC x).2.2 then ⟨if zDj L (zGC x).1=0 then -1 else (zDj L (zGC x).1:Int),(zAq (zGC x).2.1).1,zBJ x 62⟩
 else ⟨0,(zAq x.dropLast).1,zBJ x 111⟩
noncomputable def zNP (x:List UInt8):Bool :=
 if (zGC x).2.2 then (zKh (zGC x).1||!(zBJ x 62||zBJ x 60))||!(zAq (zGC x).2.1).2
 else !(zBJ x 111||zBJ x 117)||!(zAq x.dropLast).2
def zTe (x:List UInt8):Bool:=!(zGC x).2.2
noncomputable def zUG (L:List Fg) (x:List UInt8):Bool:=(zGC x).2.2&&zEk L (zGC x).1
def zRP (T:List (List UInt8)):Bool:=match T with
 | []=>false
 | x :: _=>zTe x
noncomputable def zEq (T:List (List UInt8)):Bool:=T.any zNP||zRP T
noncomputable def zFP (L:List Fg) (T:List (List UInt8)):Bool:=T.any (zUG L)
theorem zNQ (T:List (List UInt8)) (x:List UInt8):zEq (T++[x])=(zEq T||(zNP x||(T.isEmpty&&zTe x))):=by
 unfold zEq
 cases T with
 | nil=>simp [zRP]
 | cons y T =>
  simp only [List.cons_append,List.any_cons,List.any_append,List.any_nil,zRP,List.isEmpty_cons,Bool.false_and,Bool.or_false]
  cases zNP y<;>cases T.any zNP<;>cases zNP x<;>cases zTe y<;>rfl
theorem zNR (L:List Fg) (T:List (List UInt8)) (x:List UInt8):zFP L (T++[x])=(zFP L T||zUG L x):=by simp [zFP]
def zGg (b:Bi):Bi:=if 0 < b.f then ⟨b.f,b.n,false⟩ else b
def zMO (l:List Bi) (f:Int):Nat:=l.countP fun b=>decide (0 < b.f)&&b.f==f
def zFQ (l:List Bi):Nat:=l.countP fun b=>!decide (0 < b.f)
def zCt (k:Nat) (l:List Bi):List Int:=(List.range (k+2)).map fun f:Nat=>((zMO l (f:Int):Nat):Int)
def zJn (l:List Bi) (b:Bi):Bool:=(decide (0 < b.f)&&decide ((zMO l b.f:Int) < b.n))||(b.f==0&&(decide (((zFQ l / 2:Nat):Int) < b.n)||zFQ l % 2 != 0))
def zFR (l:List Bi):Bool:=decide ((l.map zGg).Nodup)&&l.all fun b=>!zJn l b
def ia (M:List Int) (i:Int):Int:=(M[i.toNat]?).getD 0
def zLL (M:List Int) (b:Bi):List Lt :=
 if b.f=0 then [⟨2,0,0,b.n,0,b.b⟩]
 else if b.b then [⟨1,b.f-1,ia M (b.f-1)+b.n,0,0,false⟩,⟨1,b.f,ia M b.f-b.n+1,0,0,false⟩]
 else [⟨1,b.f,ia M b.f-b.n+1,0,0,false⟩,⟨1,b.f-1,ia M (b.f-1)+b.n,0,0,false⟩]
def zAT (M:List Int) (l:List Bi):List Lt:=l.flatMap (zLL M)
theorem zPO (M:List Int) (b:Bi):(zLL M b).length≤2:=by
 unfold zLL;split
 ·simp
 ·split<;>simp
theorem zNS (M:List Int) (l:List Bi):(zAT M l).length≤2*l.length:=by
 unfold zAT
 induction l with
 | nil=>simp
 | cons b l ih=>rw [List.flatMap_cons,List.length_append,List.length_cons];have:=zPO M b;omega
theorem zLM (l:List Bi) (f:Int):zMO l f≤l.length:=List.countP_le_length
theorem zLN (l:List Bi):zFQ l≤l.length:=List.countP_le_length
theorem zFS (k:Nat) (l:List Bi) {f:Nat} (h:f < k+2):(zCt k l)[f]? = some ((zMO l (f:Int):Nat):Int):=by
 unfold zCt;rw [List.getElem?_map,List.getElem?_range h];rfl
theorem zGD (k:Nat) (l:List Bi):(zCt k l).length=k+2:=by simp [zCt]
theorem zUH {l:List Bi} {b:Bi} {f:Int} (h:0 < b.f) (e:b.f=f):zMO (l++[b]) f=zMO l f+1:=by
 unfold zMO;rw [List.countP_append,List.countP_singleton,if_pos (by simp [e];omega)]
theorem zTf {l:List Bi} {b:Bi} {f:Int} (h:¬(0 < b.f∧b.f=f)):zMO (l++[b]) f=zMO l f:=by
 unfold zMO;rw [List.countP_append,List.countP_singleton,if_neg (by simpa using h),Nat.add_zero]
theorem zUI {l:List Bi} {b:Bi} (h:¬0 < b.f):zFQ (l++[b])=zFQ l+1:=by
 unfold zFQ;rw [List.countP_append,List.countP_singleton,if_pos (by simpa using h)]
theorem zWd {l:List Bi} {b:Bi} (h:0 < b.f):zFQ (l++[b])=zFQ l:=by
 unfold zFQ;rw [List.countP_append,List.countP_singleton,if_neg (by simp [h]),Nat.add_zero]
theorem zRQ (k:Nat) (l:List Bi) {b:Bi} {f:Nat} (h0:0 < b.f) (e:b.f=(f:Int)):(zCt k l).set f ((zMO l (f:Int):Int)+1)=zCt k (l++[b]):=by
 apply List.ext_getElem?;intro i;rw [List.getElem?_set];by_cases hi:i < k+2
 ·rw [zFS k _ hi];by_cases hf:f=i
  ·subst hf;rw [if_pos rfl,zGD,if_pos hi,zFS k _ hi,zUH h0 e];rfl
  ·rw [if_neg hf,zFS k _ hi,zTf (fun h=>hf (by omega))]
 ·rw [List.getElem?_eq_none (by rw [zGD];omega),List.getElem?_eq_none (by rw [zGD];omega),zGD];split
  ·rename_i h1;rw [h1,if_neg hi]
  ·rfl
theorem zPP (k:Nat) (l:List Bi) {b:Bi} (h0:¬0 < b.f):zCt k (l++[b])=zCt k l:=by
 unfold zCt;exact List.map_congr_left fun f _=>by rw [zTf (fun h=>h0 h.1)]
def sgI (cr nu:Nat) (l:Lt):Int:=if (nu >>> (cr-l.id.toNat)) % 2=1 then 1 else -1
def sgL (cr nu:Nat) (l:Lt):Lt:=if isC l then { l with sign:=sgI cr nu l } else l
def zCE (cr nu:Nat) (L:List Lt):List Lt:=L.map (sgL cr nu)
def zWe (L:List Lt) (i:Nat):Int:=if (la L i).gate≤(la L (i+1)).gate then (la L (i+1)).gate else (la L i).gate
def lpC (L:List Lt) (g:Int) (m:Nat):Nat:=zAe (fun i=>(isP (la L i)&&dwn L i)&&zWe L i==g) m
def zBG (K:Nat) (L:List Lt) (m:Nat):List Int:=(List.range (K+2)).map fun g:Nat=>((lpC L (g:Int) m:Nat):Int)
theorem zFg (K:Nat) (L:List Lt) (m:Nat) {g:Nat} (h:g < K+2):(zBG K L m)[g]? = some ((lpC L (g:Int) m:Nat):Int):=by
 unfold zBG;rw [List.getElem?_map,List.getElem?_range h];rfl
theorem zFh (K:Nat) (L:List Lt) (m:Nat):(zBG K L m).length=K+2:=by simp [zBG]
theorem zPQ (L:List Lt) (g:Int) (m:Nat):lpC L g m≤m:=zCF _ _
theorem zPR (K:Nat) (L:List Lt) {m g:Nat} (h:(isP (la L m)&&dwn L m)=true) (e:zWe L m=(g:Int)):(zBG K L m).set g ((lpC L (g:Int) m:Int)+1)=zBG K L (m+1):=by
 apply List.ext_getElem?;intro i;rw [List.getElem?_set];by_cases hi:i < K+2
 ·rw [zFg K L _ hi];by_cases hf:g=i
  ·subst hf;rw [if_pos rfl,zFh,if_pos hi,zFg K L _ hi,show lpC L (g:Int) (m+1)=lpC L (g:Int) m+1 from zAW (by rw [h,e];simp)];rfl
  ·rw [if_neg hf,zFg K L _ hi,show lpC L (i:Int) (m+1)=lpC L (i:Int) m from zAE (by rw [h,e];simp;omega)]
 ·rw [List.getElem?_eq_none (by rw [zFh];omega),List.getElem?_eq_none (by rw [zFh];omega),zFh];split
  ·rename_i h1;rw [h1,if_neg hi]
  ·rfl
theorem zIn (K:Nat) (L:List Lt) {m:Nat} (h:(isP (la L m)&&dwn L m)=false):zBG K L (m+1)=zBG K L m:=by
 unfold zBG;exact List.map_congr_left fun g _=>by rw [show lpC L (g:Int) (m+1)=lpC L (g:Int) m from zAE (by rw [h];rfl)]
theorem zNT (K:Nat) (L:List Lt):zBG K L 0=List.replicate (K+2) 0:=by
 unfold zBG;rw [List.eq_replicate_iff]
 exact ⟨by simp,fun b hb=>by
  obtain ⟨g,_,rfl⟩:=List.mem_map.1 hb
  simp [lpC,zAe]⟩
theorem zRR (k:Nat):zCt k []=List.replicate (k+2) 0:=by
 unfold zCt;rw [List.eq_replicate_iff]
 exact ⟨by simp,fun b hb=>by
  obtain ⟨g,_,rfl⟩:=List.mem_map.1 hb
  simp [zMO]⟩
def zBH (L:List Lt) (i:Nat):Lt:=if (la L (i+1)).gate < (la L i).gate then la L (i+1) else la L i
def zTg (L:List Lt) (i:Nat):UInt8:=if (la L (i+1)).gate < (la L i).gate then 60 else 62
def zXn (l:Lt):List UInt8:=Lib.itoa l.id++[if l.over then 111 else 117]
def zMP (F:List Fg) (L:List Lt) (i:Nat):List UInt8:=nmF F ((zBH L i).gate+1)++[46]++Lib.itoa ((zBH L i).rank-(lpC L (zBH L i).gate L.length:Int))++[zTg L i]
def zHK (F:List Fg) (L:List Lt) (i:Nat):List (List UInt8) :=
 if isC (la L i) then [zXn (la L i)] else if dwn L i then [zMP F L i] else []
def zFT (F:List Fg) (L:List Lt) (m:Nat):List (List UInt8):=(List.range m).flatMap (zHK F L)
theorem zDV (F:List Fg) (L:List Lt) (m:Nat):zFT F L (m+1)=zFT F L m++zHK F L m:=by simp [zFT,List.range_succ]
def zJo:List UInt8:=[98,97,114,101]
def zTh (F:List Fg) (L:List Lt):List UInt8:=if L.length=0 then zJo else Lib.join (zFT F L L.length) [32]
end Go.Proofs.YtlmdfmnbcndhoaaGreatDoor
namespace Go.Proofs.YtlmdfmnbcndhoaaGreatDoor
def Arcs (L:List Lt):Prop:=∀i,i < L.length→isP (la L i)=true→dwn L i=true→i+1 < L.length∧isP (la L (i+1))=true
section
variable {K:Int} {L:List Lt} {a:Nat}
theorem zUJ {v:Nat} (h:isP (la L v)=true) (hc:isC (la L v)=true):False:=by rw [zOw h] at hc;cases hc
theorem zUK {v:Nat} (h:isC (la L v)=true):isP (la L v)=false:=by
 cases hq:isP (la L v) with
 | false=>rfl
 | true=>exact (zUJ hq h).elim
variable {X:Nat→Nat}
end
section
variable {K:Int} {L:List Lt}
end
end Go.Proofs.YtlmdfmnbcndhoaaGreatDoor
namespace Go.Proofs.YtlmdfmnbcndhoaaGreatDoor
open Go.RowKit
structure Lps (K:Nat) (L:List Lt):Prop where
 len:L.length≤400
 k40:K≤40
 gate:∀i,i < L.length→isP (la L i)=true→0≤(la L i).gate∧(la L i).gate≤K
 arcs:Arcs L
def zIo (w:World) (K:Nat) (L:List Lt) (e:Ending) (w':World):Prop :=
 ∃g,e=.returned (.slice (some ⟨g,0,none⟩) (K+2) (K+2))∧OwnI w' w.heap.size g (K+2) (zBG K L L.length)∧Below w.heap.size w w'
theorem zLO {v:Nat} (h:v≤100000):IntKind.i64.wrap ((v:Int)+1)=(v:Int)+1:=IntWalk.i64_in _ (by omega)
set_option maxHeartbeats 6400000 in
set_option maxRecDepth 100000 in
theorem zLP (K:Nat) (A:Option Addr) (n c:Nat) (L:List Lt) (w:World) (hA:Lets w A n L) (hL:Lps K L) :
  Calls Tryz.prog 123 #[.agg #[.int .i64 (K:Int),.slice A n c]] w (zIo w K L):=by
 have cq:L.length=n:=hA.len;have hn:n≤400:=by have:=hL.len;omega
 have hK4:=hL.k40;have ah:=(Below.refl w.heap.size w).alloc (Nat.le_refl _) (.cells #[.int .i64 (K:Int),.slice A n c] 55);have hk0:Blk (w.alloc (.cells #[.int .i64 (K:Int),.slice A n c] 55)) w.heap.size 55 #[.int .i64 (K:Int),.slice A n c]:=Blk.new _ _ _;have c0:(w.alloc (.cells #[.int .i64 (K:Int),.slice A n c] 55)).cell? ⟨w.heap.size,0,none⟩=some (.int .i64 (K:Int)):=(hk0.cell 0).trans rfl;have HN:=qH cq;have HL:=qH hL;have HA:=qH hA;have hlw:w.heap.size < (w.alloc (.cells #[.int .i64 (K:Int),.slice A n c] 55)).heap.size:=hk0.lt;have w1:wrap64 ((K:Int)+2)=((K+2:Nat):Int):=by unfold wrap64;omega
 clear cq hL hA;go_enter Tryz.func123,Tryz.ntmps123;go_upto_region 1 with fail
 generalize w.alloc (.cells #[.int .i64 (K:Int),.slice A n c] 55)=Y at ah hk0 c0 hlw ⊢;go_upto_region 2 with (refine zHV rfl _ _ rfl (K+2) _ rfl rfl (by first | rfl | exact w1 | (simp;done) | omega) (by omega) (base:=Y.heap.size) (Nat.le_refl _) ?_;intro Y2 gQ ai mY)
 have pE:OwnI Y2 Y.heap.size Y.heap.size (K+2) (zBG K L 0):=by rw [zNT];exact gQ
 have hk2:=hk0.below ai hlw;have hby:=zAa ah ai ah.size;have c1:Y2.cell? ⟨w.heap.size,1,none⟩=some (.slice A n c):=(hk2.cell 1).trans rfl;have hwy:w.heap.size < Y.heap.size:=hlw;clear gQ mY c0 hk0 hlw ai;generalize Y.heap.size=g at pE hwy ⊢;have hgl:g < Y2.heap.size:=pE.lt;have ai:Below g Y2 Y2:=Below.refl _ _;go_wp2_with fail
 clear c1;go_loopw [4,14] (fun v4 pK wv=>∃(i:Nat) (X:World),X=wv∧i≤n∧pK=.int .i64 i∧v4=.bool (!dwn L i)∧OwnI X g g (K+2) (zBG K L i)∧Below g Y2 X) (fun _ pK _=>n-(intOf pK).toNat)
 case atStart=>exact ⟨0,_,rfl,by omega,rfl,rfl,pE,ai⟩
 case round =>
  obtain ⟨i,X,hX,hi,rfl,rfl,hO,hb⟩:=hrel;subst hX;clear pE;have hkx:=hk2.below hb hwy;have fI:Lets X A n L:=HA.out.below ((hby.trans (hb.mono (by omega))));have EQ:g < X.heap.size:=hO.lt;by_cases hlt:i < n
  ·have j0:(0:Int)≤(i:Int):=by omega
   have j1:(i:Int) < (n:Int):=by omega
   obtain ⟨ga,o,rfl,hgl,hat,hok⟩:=fI.at_ hlt;obtain ⟨x0,x1,x2,x3,x4,x5⟩:=hat;have hbl:=(Below.refl X.heap.size X).alloc (Nat.le_refl _) (.cells #[.int .i64 (la L i).kind,.int .i64 (la L i).gate,.int .i64 (la L i).rank,.int .i64 (la L i).id,.int .i64 (la L i).sign,.bool (la L i).over] 76);have py:Blk (X.alloc (.cells #[.int .i64 (la L i).kind,.int .i64 (la L i).gate,.int .i64 (la L i).rank,.int .i64 (la L i).id,.int .i64 (la L i).sign,.bool (la L i).over] 76)) X.heap.size 76 #[.int .i64 (la L i).kind,.int .i64 (la L i).gate,.int .i64 (la L i).rank,.int .i64 (la L i).id,.int .i64 (la L i).sign,.bool (la L i).over]:=Blk.new _ _ _;have hO1:=hO.below hbl EQ;have aq:=hkx.below hbl hkx.lt;have jJ:=fI.below hbl;have ay:=hb.trans (hbl.mono (Nat.le_of_lt EQ));obtain ⟨d,hd⟩:∃d,dwn L i=d:=⟨_,rfl⟩
   rw [hd];by_cases hk:(la L i).kind=1
   ·have q1:((la L i).kind != 1)=false:=by simpa using hk
    have hp:=zJM hk;have hdn:dwn L (i+1) = !d:=by rw [zWS hp,hd]
    have qA:=qH hdn
    cases d with
    | false =>
     have HS:=qH (show zBG K L (i+1)=zBG K L i from zIn K L (by rw [hd,Bool.and_false]));clear hO hkx fI aq jJ py hbl hk hp hd hdn;go_wp2_with fail
     go_roundw
     case rel=>exact ⟨i+1,_,rfl,by omega,by go_num,by rw [qA.out];rfl,by rw [HS.out];exact hO1,ay⟩
     case measure=>simp [intOf];omega
    | true =>
     have hil:i < L.length:=by rw [HN.out];exact hlt
     obtain ⟨cM,iq⟩:=HL.out.arcs i hil hp hd;have hi1:i+1 < n:=by rw [←HN.out];exact cM
     have sG:=HL.out.gate i hil hp;have et:=HL.out.gate (i+1) cM iq;obtain ⟨gx,hgx⟩:∃m:Nat,(la L i).gate=(m:Int):=⟨(la L i).gate.toNat,by omega⟩
     obtain ⟨gy,hgy⟩:∃m:Nat,(la L (i+1)).gate=(m:Int):=⟨(la L (i+1)).gate.toNat,by omega⟩
     obtain ⟨m,hm,db,tU⟩:∃m:Nat,max (gx:Int) (gy:Int)=(m:Int)∧m < K+2∧zWe L i=(m:Int):=by
      by_cases h:gx≤gy
      ·exact ⟨gy,by omega,by omega,by unfold zWe;rw [hgx,hgy,if_pos (by omega)]⟩
      ·exact ⟨gx,by omega,by omega,by unfold zWe;rw [hgx,hgy,if_neg (by omega)]⟩
     have Fa:(isP (la L i)&&dwn L i)=true:=by rw [hp,hd];rfl
     have c6:(X.alloc (.cells #[.int .i64 (la L i).kind,.int .i64 (la L i).gate,.int .i64 (la L i).rank,.int .i64 (la L i).id,.int .i64 (la L i).sign,.bool (la L i).over] 76)).cell? ⟨X.heap.size,1,none⟩=some (.int .i64 (gx:Int)):=by rw [←hgx];exact (py.cell 1).trans rfl
     have c1:(X.alloc (.cells #[.int .i64 (la L i).kind,.int .i64 (la L i).gate,.int .i64 (la L i).rank,.int .i64 (la L i).id,.int .i64 (la L i).sign,.bool (la L i).over] 76)).cell? ⟨w.heap.size,1,none⟩=some (.slice (some ⟨ga,o,none⟩) n c):=(aq.cell 1).trans rfl;have y1:(X.alloc (.cells #[.int .i64 (la L i).kind,.int .i64 (la L i).gate,.int .i64 (la L i).rank,.int .i64 (la L i).id,.int .i64 (la L i).sign,.bool (la L i).over] 76)).cell? ⟨ga,o+(i+1)*6+1,none⟩=some (.int .i64 (gy:Int)):=by rw [←hgy];exact (jJ.also hi1).1.gate
     have e1:=hO1.cell (zFg K L i db);have z1:=hO1.frozen m;have b1:=zPQ L (m:Int) i;have r1:=hO1.stored m ((lpC L (m:Int) i:Int)+1);rw [zPR K L Fa tU] at r1;obtain ⟨v1,tJ⟩:∃v,lpC L (m:Int) i=v:=⟨_,rfl⟩
     rw [tJ] at e1 b1 r1;have s1:=ay.setCell (p:=⟨g,m,none⟩) (Nat.le_refl _) (.int .i64 ((v1:Int)+1));have p1:(0:Int)≤(i:Int)+1:=by omega
     have p2:(i:Int)+1 < (n:Int):=by omega
     have p3:IntKind.i64.wrap ((i:Int)+1)=(i:Int)+1:=zLO (by omega);have p4:(0:Int)≤(m:Int):=by omega
     have p7:(m:Int) < (K:Int)+2:=by omega
     have w7:IntKind.i64.wrap ((v1:Int)+1)=(v1:Int)+1:=zLO (by omega);have R1:=qH r1.drew;have S1:=qH s1.drew;clear hO hkx fI aq jJ hk hp hd hdn hgx hgy tJ r1 s1 sG et py hbl hO1 ay iq Fa tU;go_upto_region 9 with fail
     clear x0 x1 x2 x3 x4 x5;generalize X.alloc (.cells #[.int .i64 (la L i).kind,.int .i64 (la L i).gate,.int .i64 (la L i).rank,.int .i64 (la L i).id,.int .i64 (la L i).sign,.bool (la L i).over] 76)=X6 at c6 c1 y1 e1 z1 R1 S1 ⊢;generalize X.heap.size=b6 at c6 ⊢;go_region
     go_wp2_with fail
     go_roundw
     case rel=>exact ⟨i+1,_,rfl,by omega,by go_num,by rw [qA.out];rfl,R1.out,S1.out⟩
     case measure=>simp [intOf];omega
   ·have q1:((la L i).kind != 1)=true:=by simpa using hk
    have hp:=zKX hk;have HS:=qH (show zBG K L (i+1)=zBG K L i from zIn K L (by rw [hp,Bool.false_and]));have qA:=qH (show dwn L (i+1)=d by rw [zXl hp,hd]);clear hO hkx fI aq jJ py hbl hk hp hd;go_wp2_with fail
    go_roundw
    case rel=>exact ⟨i+1,_,rfl,by omega,by go_num,by rw [qA.out],by rw [HS.out];exact hO1,ay⟩
    case measure=>simp [intOf];omega
  ·have j1:¬(i:Int) < (n:Int):=by omega
   have hin:i=n:=by omega
   have hOe:OwnI X w.heap.size g (K+2) (zBG K L L.length):=by rw [HN.out,←hin];exact ⟨hO.blk,by omega,hO.len⟩
   have hbw:=hby.trans (hb.mono (by omega));clear hin hlt hO hkx fI hb;go_wp2_with fail
   go_ret;exact ⟨g,rfl,hOe,hbw⟩
end Go.Proofs.YtlmdfmnbcndhoaaGreatDoor
namespace Go.Proofs.YtlmdfmnbcndhoaaGreatDoor
open Go.RowKit
theorem zXo (S:ByteArray) (w:World):(Instr.buildSlice 112 1 #[(0,.string S)]).run Tryz.prog w=.ok (.slice (some ⟨w.heap.size,0,none⟩) 1 1) (w.alloc (.cells #[.string S] 9)):=by
 obtain ⟨i0,hi,ci,be,cH⟩:=info_parts zIF;refine run_buildSlice w _ _ 1 _ _ i0 _ Tryz.underlying112 hi ci (by rw [be];omega) (by rw [be];omega) ?_;rw [be]
 kernel_rfl
theorem zWf {w:World} {ops:Array Oper} {o:Oper} {a:Act} {K:Act→World→Prop} {Q':Exit→Act→World→Prop} {E:Prop} (hgd:o.guard=none) (s x:Operand)
  (ho:o.op=.call { callee:=.builtin .append,args:=#[s,x],argTypes:=#[112,112] })
  {base:Nat} {A:Option Addr} {n c:Nat} {Ss:List (List UInt8)} (S:List UInt8) (hs:a.eval s=.slice A n c) (hx:a.eval x=.slice (some ⟨w.heap.size,0,none⟩) 1 1)
  (hst:Row w base 1 A n c (Ss.map zDo)) (N:Nat) (hN:n+1=N) (hn:N≤1000000) (hbase:base≤w.heap.size)
  (h:∀A' c' w',Row w' base 1 A' N c' ((Ss++[S]).map zDo)→Below base w w'→w.grownBy w' (blk A)→K (a.put o.dst (.slice A' N c')) w') :
  if Region.wanted o (yielded ops a.tmps)=true then Oper.wp Tryz.prog o a (w.alloc (.cells #[.string (bA S)] 9)) K Q' else E:=by
 obtain ⟨i0,hi,ci,be,cH⟩:=info_parts zIF;have hbl:=(Below.refl w.heap.size w).alloc (Nat.le_refl _) (.cells #[.string (bA S)] 9);have cE:=hst.below hbl
 refine zQX hgd s x 112 ho 9 i0 _ 1 16 Tryz.underlying112 hi ci be cH rfl (by decide) cE (Src.new (m:=1) (cs:=[.string (bA S)]) rfl)
  (by intro u hu;simp at hu;subst hu;rfl) hs hx N hN (by unfold maxLen;omega) (by omega) (by simp;omega) ?_
 intro A' c' w' h1 h2 _ _;refine h A' c' w' (by rw [List.map_append];exact h1) ?_ (zAb (zCW hbl _) h2);exact ((Below.refl _ _).alloc hbase _).trans (cE.belowOf h2 (by simp;omega))
theorem zPS {w:World} {g:Nat} {t:TypeId} {v0 v1 v2 v3 v4 v5:Value} (h:Blk w g t #[v0,v1,v2,v3,v4,v5]) (u0 u1 u2 u3 u4 u5:Value) :
  Blk ((((((w.setCell ⟨g,0,none⟩ u0).setCell ⟨g,1,none⟩ u1).setCell ⟨g,2,none⟩ u2).setCell ⟨g,3,none⟩ u3).setCell ⟨g,4,none⟩ u4).setCell ⟨g,5,none⟩ u5) g t #[u0,u1,u2,u3,u4,u5]:=by
 have h1:=(((((h.set_ 0 u0).set_ 1 u1).set_ 2 u2).set_ 3 u3).set_ 4 u4).set_ 5 u5;simpa using h1
theorem zPT {a w:World} {g B:Nat} (h:Below B a w) (hB:B≤g) (u0 u1 u2 u3 u4 u5:Value) :
  Below B a ((((((w.setCell ⟨g,0,none⟩ u0).setCell ⟨g,1,none⟩ u1).setCell ⟨g,2,none⟩ u2).setCell ⟨g,3,none⟩ u3).setCell ⟨g,4,none⟩ u4).setCell ⟨g,5,none⟩ u5) :=
 (((((h.setCell (p:=⟨g,0,none⟩) hB u0).setCell (p:=⟨g,1,none⟩) hB u1).setCell (p:=⟨g,2,none⟩) hB u2).setCell (p:=⟨g,3,none⟩) hB u3).setCell (p:=⟨g,4,none⟩) hB u4).setCell (p:=⟨g,5,none⟩) hB u5
structure Pos (F:List Fg) (re lo:Int) (L:List Lt):Prop where
 lps:Lps F.length L
 fr:frOk F re lo
 kinds:∀i,i < L.length→isP (la L i)=true∨isC (la L i)=true
 left:∀i,i < L.length→isP (la L i)=true→dwn L i=true→0≤(zBH L i).gate∧(zBH L i).gate < F.length
 rank:∀i,i < L.length→isP (la L i)=true→1≤(la L i).rank∧(la L i).rank≤400
 id:∀i,i < L.length→isC (la L i)=true→1≤(la L i).id∧(la L i).id≤400
theorem zGh {F:List Fg} {re lo K:Int} {L:List Lt} (h:zCs F re lo K L=true):Pos F re lo L∧K=(F.length:Int):=by
 unfold zCs at h;simp only [Bool.and_eq_true,beq_iff_eq] at h;obtain ⟨⟨⟨h1,h2⟩,h3⟩,h4⟩:=h;have ht:=zFf h2;obtain ⟨c1,c2,c3,c4⟩:=zHx h2;subst h3;rcases Nat.eq_zero_or_pos L.length with h0 | h0
 ·exact ⟨⟨⟨ht.len,by omega,fun i hi=>by omega,fun i hi=>by omega⟩,zCB.1 h1,fun i hi=>by omega,fun i hi=>by omega,fun i hi=>by omega,fun i hi=>by omega⟩,rfl⟩
 have hv:zBa (F.length:Int) L=true:=by rcases c4 with h | h;· omega
                                       ·exact h
 have g:=zEE h0 hv;have hpo:∀i,i < L.length→poB L i=true:=zAI.1 h4
 have key:∀i,i < L.length→isP (la L i)=true→dwn L i=true→i+1 < L.length∧isP (la L (i+1))=true∧((la L (i+1)).gate-(la L i).gate=1∨(la L i).gate-(la L (i+1)).gate=1):=by
  intro i hi hp hd;have hlt:i+1 < L.length:=by
   rcases Nat.lt_or_ge (i+1) L.length with h | h
   ·exact h
   ·have e:i+1=L.length:=by omega
    have sH:dwn L (i+1)=false:=by rw [zWS hp,hd];rfl
    rw [e] at sH;unfold dwn at sH;have:=g.even;simp [this] at sH
  have:=hpo i hi;unfold poB neB nxL at this;rw [hp,hd,Nat.mod_eq_of_lt hlt] at this;simp only [Bool.and_self,Bool.not_true,Bool.false_or,Bool.and_eq_true,Bool.or_eq_true,beq_iff_eq] at this;exact ⟨hlt,this.1,this.2⟩
 refine ⟨⟨⟨ht.len,by omega,fun i hi hp=>⟨(ht.pass i hi hp).1,(ht.pass i hi hp).2.1⟩,fun i hi hp hd=>⟨(key i hi hp hd).1,(key i hi hp hd).2.1⟩⟩,zCB.1 h1,g.kinds,fun i hi hp hd=>?_,fun i hi hp=>⟨(ht.pass i hi hp).2.2.1,(ht.pass i hi hp).2.2.2⟩,fun i hi hc=>?_⟩,rfl⟩
 ·obtain ⟨k1,k2,k3⟩:=key i hi hp hd;have g1:=ht.pass i hi hp;have g2:=ht.pass (i+1) k1 k2;unfold zBH;split<;>omega
 ·have h5:=g.cross i hi;have:=(zBm.1 h5 hc).1;have:=zQU L L.length;have:=ht.len;omega
theorem zPU {F:List Fg} {re lo:Int} {L:List Lt} (h:Pos F re lo L) {i:Nat} (hi:i < L.length):∀x∈zHK F L i,x.length≤100:=by
 intro x hx;unfold zHK at hx;by_cases hc:isC (la L i)=true
 ·rw [if_pos hc] at hx;rw [List.mem_singleton.1 hx];have hid:=h.id i hi hc;have:=zAM (x:=(la L i).id) ⟨by omega,by omega⟩;unfold zXn;simp only [List.length_append,List.length_singleton];omega
 ·rw [if_neg hc] at hx;by_cases hd:dwn L i=true
  ·rw [if_pos hd] at hx;rw [List.mem_singleton.1 hx];have hp:=(h.kinds i hi).resolve_right hc;have hg:=h.left i hi hp hd;have hn:=zBr h.fr (f:=(zBH L i).gate+1) (by omega) (by omega);have hr:1≤(zBH L i).rank∧(zBH L i).rank≤400:=by
    obtain ⟨k1,k2⟩:=h.lps.arcs i hi hp hd;unfold zBH;split
    ·exact h.rank (i+1) k1 k2
    ·exact h.rank i hi hp
   have hl:=zPQ L (zBH L i).gate L.length;have hlen:=h.lps.len;have:=zAM (x:=(zBH L i).rank-(lpC L (zBH L i).gate L.length:Int)) ⟨by omega,by omega⟩;unfold zMP;simp only [List.length_append,List.length_singleton];omega
  ·rw [if_neg hd] at hx;simp at hx
theorem zPV (F:List Fg) (L:List Lt) (i:Nat):(zHK F L i).length≤1:=by
 unfold zHK;split
 ·simp
 ·split<;>simp
theorem zPW (F:List Fg) (L:List Lt) (m:Nat):(zFT F L m).length≤m:=by
 induction m with
 | zero=>simp [zFT]
 | succ m ih=>rw [zDV,List.length_append];have:=zPV F L m;omega
theorem zLQ {F:List Fg} {re lo:Int} {L:List Lt} (h:Pos F re lo L) {m:Nat} (hm:m≤L.length):∀x∈zFT F L m,x.length≤100:=by
 intro x hx;unfold zFT at hx;obtain ⟨i,hi,hx⟩:=List.mem_flatMap.1 hx;exact zPU h (by have:=List.mem_range.1 hi;omega) x hx
theorem zRS {K:Nat} {A:Option Addr} {n c:Nat} {L:List Lt} (w:World) (hA:Lets w A n L) (hL:Lps K L):Calls Tryz.prog 123 #[.agg #[.int .i64 (K:Int),.slice A n c]] w (zIo w K L):=zLP K A n c L w hA hL
theorem zPX {x:Int} {S:List UInt8} (h:Lib.itoa x=S) (hx:I64 x) (w:World) (ht:Tabs w):Calls Tryz.prog 124 #[.int .i64 x] w fun e w'=>e=.returned (.string (bA S))∧Below w.heap.size w w':=by
 subst h;exact zIA x hx w ht
end Go.Proofs.YtlmdfmnbcndhoaaGreatDoor
