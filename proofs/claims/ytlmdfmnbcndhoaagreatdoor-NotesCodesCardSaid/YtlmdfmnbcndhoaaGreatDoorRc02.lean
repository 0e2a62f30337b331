/-
  Lemmas, part 2. Conditions: each theorem's own.
-/
import Derived.Test.YtlmdfmnbcndhoaaGreatDoorRc01
import Derived.BigQuiet
import Derived.Deep.RegionHeld3
import Derived.Deep.RegionLaw
open Go.Value renaming bool→G,int→D,slice→H
open Go.IntKind renaming i64→J
open Option renaming none→U,some→Z
open Bool renaming false→E,true→Q
namespace Go.Proofs.YtlmdfmnbcndhoaaGreatDoor
open Go.RowKit
structure LtOk (l:Lt):Prop where
 kind:I64 l.kind
 gate:I64 l.gate
 rank:I64 l.rank
 id:I64 l.id
 sign:I64 l.sign
structure LtAt (w:World) (g p:Nat) (l:Lt):Prop where
 kind:w.cell? ⟨g,p,U⟩=Z (D J l.kind)
 gate:w.cell? ⟨g,p+1,U⟩=Z (D J l.gate)
 rank:w.cell? ⟨g,p+2,U⟩=Z (D J l.rank)
 id:w.cell? ⟨g,p+3,U⟩=Z (D J l.id)
 sign:w.cell? ⟨g,p+4,U⟩=Z (D J l.sign)
 over:w.cell? ⟨g,p+5,U⟩=Z (G l.over)
def Lets (w:World) (A:Option Addr) (n:Nat) (L:List Lt):Prop :=
 L.length=n∧n≤2932031007402∧(∀x∈L,LtOk x) ∧
 (0 < n→∃g o,A=Z ⟨g,o,U⟩∧g < w.heap.size∧∀j x,L[j]? = Z x→LtAt w g (o+j*6) x)
theorem LtAt.keep {w w':World} {g p:Nat} {l:Lt} (h:LtAt w g p l) (hk:∀q:Addr,q.block=g→w'.cell? q=w.cell? q):LtAt w' g p l :=
 ⟨(hk _ rfl).trans h.kind,(hk _ rfl).trans h.gate,(hk _ rfl).trans h.rank,(hk _ rfl).trans h.id,(hk _ rfl).trans h.sign,(hk _ rfl).trans h.over⟩
section
variable {w w':World} {A:Option Addr} {n:Nat} {L:List Lt}
theorem Lets.len (h:Lets w A n L):L.length=n:=h.1
theorem Lets.le (h:Lets w A n L):n≤2932031007402:=h.2.1
theorem Lets.fits (h:Lets w A n L):∀x∈L,LtOk x:=h.2.2.1
theorem Lets.nil (w:World) (A:Option Addr):Lets w A 0 []:=⟨rfl,by omega,by simp,fun h=>absurd h (by omega)⟩
theorem Lets.at_ {k:Nat} (h:Lets w A n L) (hk:k < n):∃g o,A=Z ⟨g,o,U⟩∧g < w.heap.size∧LtAt w g (o+k*6) (la L k)∧LtOk (la L k):=by
 obtain ⟨hl,_,hf,hc⟩:=h;obtain ⟨g,o,e,hb,hcell⟩:=hc (by omega);have hx:L[k]? = Z L[k]:=List.getElem?_eq_getElem (by omega);rw [zRy hx];exact ⟨g,o,e,hb,hcell k _ hx,hf _ (List.getElem_mem (by omega))⟩
theorem Lets.also {g o k:Nat} (h:Lets w (Z ⟨g,o,U⟩) n L) (hk:k < n):LtAt w g (o+k*6) (la L k)∧LtOk (la L k):=by
 obtain ⟨g',o',e,_,h1,h2⟩:=h.at_ hk;injection e with e
 injection e with e1 e2
 subst e1;subst e2
 exact ⟨h1,h2⟩
theorem Lets.keep (h:Lets w A n L) (hs:w.heap.size≤w'.heap.size) (hk:∀p:Addr,p.block < w.heap.size→w'.cell? p=w.cell? p):Lets w' A n L :=
 ⟨h.1,h.2.1,h.2.2.1,fun hn=>by
  obtain ⟨g,o,e,hb,hc⟩:=h.2.2.2 hn
  exact ⟨g,o,e,by omega,fun j x hx=>(hc j x hx).keep fun q hq=>hk q (by rw [hq];exact hb)⟩⟩
theorem Lets.below (h:Lets w A n L) (hb:Below w.heap.size w w'):Lets w' A n L:=h.keep hb.size fun _ hp=>hb.cell hp
theorem Lets.alloc (h:Lets w A n L) (o:Obj):Lets (w.alloc o) A n L:=h.below ((Below.refl _ _).alloc (Nat.le_refl _) o)
end
theorem zFP {l:Lt} (h:l.kind=1):isP l=Q:=by unfold isP;simp [h]
theorem zGB {l:Lt} (h:¬l.kind=1):isP l=E:=by unfold isP;simp [h]
theorem zLm {l:Lt} (h:l.kind=2):isC l=Q:=by unfold isC;simp [h]
theorem zLn {l:Lt} (h:¬l.kind=2):isC l=E:=by unfold isC;simp [h]
theorem zIe (L:List Lt) (k:Nat):pN L k≤k:=zBs _ _
theorem zKg (L:List Lt) (k:Nat):cN L k≤k:=zBs _ _
set_option maxHeartbeats 400000 in
theorem zLo (K:Int) (A:Option Addr) (n c:Nat) (L:List Lt) (w:World) (hA:Lets w A n L) :
  Calls Tryz.prog 199 #[.agg #[D J K,H A n c]] w fun e w'=>e=.returned (D J (pN L n))∧Below w.heap.size w w':=by
 have hle:=hA.le;go_enter Tryz.func199,Tryz.ntmps199;go_wp2
 go_loopw [3,5,9] (fun v3 _ v9 wr=>∃k:Nat,k≤n∧v9=D J k∧v3=D J (pN L k)∧Below w.heap.size w wr) (fun _ _ i _=>n-(intOf i).toNat)
 case atStart=>exact ⟨0,Nat.zero_le _,rfl,rfl,(Below.refl _ _).alloc (Nat.le_refl _) _⟩
 case round =>
  obtain ⟨k,hk,rfl,rfl,hb⟩:=hrel;have hpk:=zIe L k;by_cases hlt:k < n
  ·obtain ⟨g,o,rfl,hg,hx,hok⟩:=(hA.below hb).at_ hlt;obtain ⟨h0,h1,h2,h3,h4,h5⟩:=hx;by_cases hp:(la L k).kind=1
   ·have hs:=qH (show pN L (k+1)=pN L k+1 from zAA (zFP hp));go_wp2_with fail
    go_roundw
    case rel=>exact ⟨k+1,by omega,by go_num,by rw [hs.out];go_num,hb.alloc hb.size _⟩
    case measure=>simp [intOf];omega
   ·have hs:=qH (show pN L (k+1)=pN L k from zAp (zGB hp));have ik:((la L k).kind==1)=E:=by simpa using hp
    go_wp2_with fail
    go_roundw
    case rel=>exact ⟨k+1,by omega,by go_num,by rw [hs.out],hb.alloc hb.size _⟩
    case measure=>simp [intOf];omega
  ·go_wp2_with fail
   go_ret;have hkn:k=n:=by omega
   subst hkn;exact ⟨rfl,hb⟩
set_option maxHeartbeats 400000 in
theorem zBn (K:Int) (A:Option Addr) (n c:Nat) (L:List Lt) (w:World) (hA:Lets w A n L) :
  Calls Tryz.prog 91 #[.agg #[D J K,H A n c]] w fun e w'=>e=.returned (D J (cN L n))∧Below w.heap.size w w':=by
 have hle:=hA.le;go_enter Tryz.func91,Tryz.ntmps91;go_wp2
 go_loopw [3,5,9] (fun v3 _ v9 wr=>∃k:Nat,k≤n∧v9=D J k∧v3=D J (cN L k)∧Below w.heap.size w wr) (fun _ _ i _=>n-(intOf i).toNat)
 case atStart=>exact ⟨0,Nat.zero_le _,rfl,rfl,(Below.refl _ _).alloc (Nat.le_refl _) _⟩
 case round =>
  obtain ⟨k,hk,rfl,rfl,hb⟩:=hrel;have hpk:=zKg L k;by_cases hlt:k < n
  ·obtain ⟨g,o,rfl,hg,hx,hok⟩:=(hA.below hb).at_ hlt;obtain ⟨h0,h1,h2,h3,h4,h5⟩:=hx;by_cases hp:(la L k).kind=2
   ·have hs:=qH (show cN L (k+1)=cN L k+1 from zAA (zLm hp));go_wp2_with fail
    go_roundw
    case rel=>exact ⟨k+1,by omega,by go_num,by rw [hs.out];go_num,hb.alloc hb.size _⟩
    case measure=>simp [intOf];omega
   ·have hs:=qH (show cN L (k+1)=cN L k from zAp (zLn hp));have ik:((la L k).kind==2)=E:=by simpa using hp
    go_wp2_with fail
    go_roundw
    case rel=>exact ⟨k+1,by omega,by go_num,by rw [hs.out],hb.alloc hb.size _⟩
    case measure=>simp [intOf];omega
  ·go_wp2_with fail
   go_ret;have hkn:k=n:=by omega
   subst hkn;exact ⟨rfl,hb⟩
set_option maxHeartbeats 400000 in
theorem zCX (K:Int) (A:Option Addr) (n c:Nat) (L:List Lt) (w:World) (hA:Lets w A n L) :
  Calls Tryz.prog 133 #[.agg #[D J K,H A n c]] w fun e w'=>e=.returned (D J (pN L n))∧Below w.heap.size w w':=by
 have hle:=hA.le;have hb:=(Below.refl w.heap.size w).alloc (Nat.le_refl _) (.cells #[D J K,H A n c] 55);have fF:=hA.alloc (.cells #[D J K,H A n c] 55);go_enter Tryz.func133,Tryz.ntmps133;go_wp2
 go_loop [3,4] (fun v3 v4=>∃k:Nat,k≤n∧v4=D J k∧v3=D J (pN L k)) (fun _ i=>n-(intOf i).toNat)
 case atStart=>exact ⟨0,Nat.zero_le _,rfl,rfl⟩
 case round =>
  obtain ⟨k,hk,rfl,rfl⟩:=hrel;have hpk:=zIe L k;by_cases hlt:k < n
  ·obtain ⟨g,o,rfl,hg,hx,hok⟩:=fF.at_ hlt;obtain ⟨h0,_,_,_,_,_⟩:=hx;by_cases hp:(la L k).kind=1
   ·have hs:=qH (show pN L (k+1)=pN L k+1 from zAA (zFP hp));go_wp2_with fail
    go_round
    case rel=>exact ⟨k+1,by omega,by go_num,by rw [hs.out];go_num⟩
    case measure=>simp [intOf];omega
   ·have hs:=qH (show pN L (k+1)=pN L k from zAp (zGB hp));have ik:((la L k).kind==1)=E:=by simpa using hp
    go_wp2_with fail
    go_round
    case rel=>exact ⟨k+1,by omega,by go_num,by rw [hs.out]⟩
    case measure=>simp [intOf];omega
  ·go_wp2_with fail
   go_ret;have hkn:k=n:=by omega
   subst hkn;exact ⟨rfl,hb⟩
set_option maxHeartbeats 400000 in
theorem zBe (K:Int) (A:Option Addr) (n c:Nat) (L:List Lt) (w:World) (hA:Lets w A n L) :
  Calls Tryz.prog 132 #[.agg #[D J K,H A n c]] w fun e w'=>e=.returned (D J (cN L n))∧Below w.heap.size w w':=by
 have hle:=hA.le;have hb:=(Below.refl w.heap.size w).alloc (Nat.le_refl _) (.cells #[D J K,H A n c] 55);have fF:=hA.alloc (.cells #[D J K,H A n c] 55);go_enter Tryz.func132,Tryz.ntmps132;go_wp2
 go_loop [3,4] (fun v3 v4=>∃k:Nat,k≤n∧v4=D J k∧v3=D J (cN L k)) (fun _ i=>n-(intOf i).toNat)
 case atStart=>exact ⟨0,Nat.zero_le _,rfl,rfl⟩
 case round =>
  obtain ⟨k,hk,rfl,rfl⟩:=hrel;have hpk:=zKg L k;by_cases hlt:k < n
  ·obtain ⟨g,o,rfl,hg,hx,hok⟩:=fF.at_ hlt;obtain ⟨h0,_,_,_,_,_⟩:=hx;by_cases hp:(la L k).kind=2
   ·have hs:=qH (show cN L (k+1)=cN L k+1 from zAA (zLm hp));go_wp2_with fail
    go_round
    case rel=>exact ⟨k+1,by omega,by go_num,by rw [hs.out];go_num⟩
    case measure=>simp [intOf];omega
   ·have hs:=qH (show cN L (k+1)=cN L k from zAp (zLn hp));have ik:((la L k).kind==2)=E:=by simpa using hp
    go_wp2_with fail
    go_round
    case rel=>exact ⟨k+1,by omega,by go_num,by rw [hs.out]⟩
    case measure=>simp [intOf];omega
  ·go_wp2_with fail
   go_ret;have hkn:k=n:=by omega
   subst hkn;exact ⟨rfl,hb⟩
set_option maxHeartbeats 400000 in
theorem zVM (K ZX:Int) (A:Option Addr) (n c:Nat) (L:List Lt) (w:World) (hA:Lets w A n L) :
  Calls Tryz.prog 169 #[.agg #[D J K,H A n c],D J ZX] w fun e w'=>e=.returned (D J (gN L ZX n))∧Below w.heap.size w w':=by
 have hle:=hA.le;have hb:=(Below.refl w.heap.size w).alloc (Nat.le_refl _) (.cells #[D J K,H A n c] 55);have fF:=hA.alloc (.cells #[D J K,H A n c] 55);go_enter Tryz.func169,Tryz.ntmps169;go_wp2
 go_loop [5,6] (fun v3 v4=>∃k:Nat,k≤n∧v4=D J k∧v3=D J (gN L ZX k)) (fun _ i=>n-(intOf i).toNat)
 case atStart=>exact ⟨0,Nat.zero_le _,rfl,rfl⟩
 case round =>
  obtain ⟨k,hk,rfl,rfl⟩:=hrel;have hpk:gN L ZX k≤k:=zBs _ _;by_cases hlt:k < n
  ·obtain ⟨g,o,rfl,hg,hx,hok⟩:=fF.at_ hlt;obtain ⟨h0,h1,h2,h3,h4,h5⟩:=hx;by_cases hp:(la L k).kind=1
   ·by_cases hq:(la L k).gate=ZX
    ·have hs:=qH (show gN L ZX (k+1)=gN L ZX k+1 from zAA (by rw [zFP hp];simp [hq]));go_wp2_with fail
     go_round
     case rel=>exact ⟨k+1,by omega,by go_num,by rw [hs.out];go_num⟩
     case measure=>simp [intOf];omega
    ·have hs:=qH (show gN L ZX (k+1)=gN L ZX k from zAp (by simp [hq]));have vY:((la L k).gate==ZX)=E:=by simpa using hq
     go_wp2_with fail
     go_round
     case rel=>exact ⟨k+1,by omega,by go_num,by rw [hs.out]⟩
     case measure=>simp [intOf];omega
   ·have hs:=qH (show gN L ZX (k+1)=gN L ZX k from zAp (by rw [zGB hp];rfl));have ik:((la L k).kind==1)=E:=by simpa using hp
    go_wp2_with fail
    go_round
    case rel=>exact ⟨k+1,by omega,by go_num,by rw [hs.out]⟩
    case measure=>simp [intOf];omega
  ·go_wp2_with fail
   go_ret;have hkn:k=n:=by omega
   subst hkn;exact ⟨rfl,hb⟩
set_option maxHeartbeats 400000 in
theorem zOI (K ZX:Int) (A:Option Addr) (n c:Nat) (L:List Lt) (w:World) (hA:Lets w A n L) :
  Calls Tryz.prog 170 #[.agg #[D J K,H A n c],D J ZX] w fun e w'=>e=.returned (D J (tN L ZX n))∧Below w.heap.size w w':=by
 have hle:=hA.le;have hb:=(Below.refl w.heap.size w).alloc (Nat.le_refl _) (.cells #[D J K,H A n c] 55);have fF:=hA.alloc (.cells #[D J K,H A n c] 55);go_enter Tryz.func170,Tryz.ntmps170;go_wp2
 go_loop [5,6] (fun v3 v4=>∃k:Nat,k≤n∧v4=D J k∧v3=D J (tN L ZX k)) (fun _ i=>n-(intOf i).toNat)
 case atStart=>exact ⟨0,Nat.zero_le _,rfl,rfl⟩
 case round =>
  obtain ⟨k,hk,rfl,rfl⟩:=hrel;have hpk:tN L ZX k≤k:=zBs _ _;by_cases hlt:k < n
  ·obtain ⟨g,o,rfl,hg,hx,hok⟩:=fF.at_ hlt;obtain ⟨h0,h1,h2,h3,h4,h5⟩:=hx;by_cases hp:(la L k).kind=2
   ·by_cases hq:(la L k).id=ZX
    ·have hs:=qH (show tN L ZX (k+1)=tN L ZX k+1 from zAA (by rw [zLm hp];simp [hq]));go_wp2_with fail
     go_round
     case rel=>exact ⟨k+1,by omega,by go_num,by rw [hs.out];go_num⟩
     case measure=>simp [intOf];omega
    ·have hs:=qH (show tN L ZX (k+1)=tN L ZX k from zAp (by simp [hq]));have vY:((la L k).id==ZX)=E:=by simpa using hq
     go_wp2_with fail
     go_round
     case rel=>exact ⟨k+1,by omega,by go_num,by rw [hs.out]⟩
     case measure=>simp [intOf];omega
   ·have hs:=qH (show tN L ZX (k+1)=tN L ZX k from zAp (by rw [zLn hp];rfl));have ik:((la L k).kind==2)=E:=by simpa using hp
    go_wp2_with fail
    go_round
    case rel=>exact ⟨k+1,by omega,by go_num,by rw [hs.out]⟩
    case measure=>simp [intOf];omega
  ·go_wp2_with fail
   go_ret;have hkn:k=n:=by omega
   subst hkn;exact ⟨rfl,hb⟩
theorem zVN {L:List Lt} {i:Nat}:(((pN L i:Nat):Int) % 2==0)=dwn L i:=by
 unfold dwn;rw [Bool.eq_iff_iff];simp;omega
set_option maxHeartbeats 400000 in
theorem zGK (K:Int) (i:Nat) (A:Option Addr) (n c:Nat) (L:List Lt) (w:World) (hA:Lets w A n L) (hi:i≤n) :
  Calls Tryz.prog 192 #[.agg #[D J K,H A n c],D J i] w fun e w'=>e=.returned (G (dwn L i))∧Below w.heap.size w w':=by
 have hle:=hA.le;have hb:=(Below.refl w.heap.size w).alloc (Nat.le_refl _) (.cells #[D J K,H A n c] 55);have fF:=hA.alloc (.cells #[D J K,H A n c] 55);go_enter Tryz.func192,Tryz.ntmps192;go_wp2
 go_loop [5,6] (fun v3 v4=>∃k:Nat,k≤i∧v4=D J k∧v3=D J (pN L k)) (fun _ j=>i-(intOf j).toNat)
 case atStart=>exact ⟨0,Nat.zero_le _,rfl,rfl⟩
 case round =>
  obtain ⟨k,hk,rfl,rfl⟩:=hrel;have hpk:=zIe L k;by_cases hlt:k < i
  ·obtain ⟨g,o,rfl,hg,hx,hok⟩:=fF.at_ (k:=k) (by omega);obtain ⟨h0,_,_,_,_,_⟩:=hx;by_cases hp:(la L k).kind=1
   ·have hs:=qH (show pN L (k+1)=pN L k+1 from zAA (zFP hp));go_wp2_with fail
    go_round
    case rel=>exact ⟨k+1,by omega,by go_num,by rw [hs.out];go_num⟩
    case measure=>simp [intOf];omega
   ·have hs:=qH (show pN L (k+1)=pN L k from zAp (zGB hp));have ik:((la L k).kind==1)=E:=by simpa using hp
    go_wp2_with fail
    go_round
    case rel=>exact ⟨k+1,by omega,by go_num,by rw [hs.out]⟩
    case measure=>simp [intOf];omega
  ·have hki:k=i:=by omega
   subst hki;have hd:=qH (zVN (L:=L) (i:=k));go_wp2_with fail
   go_ret;exact ⟨zAi hd.out,hb⟩
set_option maxHeartbeats 400000 in
theorem zRo (K:Int) (A:Option Addr) (n c:Nat) (L:List Lt) (w:World) (hA:Lets w A n L) :
  Calls Tryz.prog 43 #[.agg #[D J K,H A n c]] w fun e w'=>e=.returned (D J ((cN L n / 2:Nat):Int))∧Below w.heap.size w w':=by
 have hle:=hA.le;have hb:=(Below.refl w.heap.size w).alloc (Nat.le_refl _) (.cells #[D J K,H A n c] 55);have fF:=hA.alloc (.cells #[D J K,H A n c] 55);have hcn:=zKg L n;go_enter Tryz.func43,Tryz.ntmps43;go_wp2_with fail
 refine (zBn K A n c L _ fF).mono ?_;rintro e w' ⟨rfl,tE⟩;go_wp2_with fail
 go_ret;exact ⟨zAu (by omega),hb.trans (tE.mono (by simp))⟩
set_option maxHeartbeats 400000 in
theorem zIT (K:Int) (A:Option Addr) (n c:Nat) (L:List Lt) (w:World) (hA:Lets w A n L) :
  Calls Tryz.prog 136 #[.agg #[D J K,H A n c]] w fun e w'=>e=.returned (D J ((cN L n / 2:Nat):Int))∧Below w.heap.size w w':=by
 have hle:=hA.le;have hb:=(Below.refl w.heap.size w).alloc (Nat.le_refl _) (.cells #[D J K,H A n c] 55);have fF:=hA.alloc (.cells #[D J K,H A n c] 55);have hcn:=zKg L n;go_enter Tryz.func136,Tryz.ntmps136;go_wp2_with fail
 refine (zBe K A n c L _ fF).mono ?_;rintro e w' ⟨rfl,tE⟩;go_wp2_with fail
 go_ret;exact ⟨zAu (by omega),hb.trans (tE.mono (by simp))⟩
def atI (X:List Int) (v:Int):Int:=if v∈X then (X.findIdx (·==v):Nat) else -1
theorem zNv {X:List Int} {v:Int} {k:Nat} (hno:∀j,j < k→X[j]?≠Z v) (hk:X[k]? = Z v):X.findIdx (·==v)=k:=by
 induction X generalizing k with
 | nil=>simp at hk
 | cons x X ih =>
  rw [List.findIdx_cons]
  cases k with
  | zero=>simp at hk;subst hk;simp
  | succ k =>
   have h0:=hno 0 (by omega);have:(x==v)=E:=by simpa using h0
   rw [this];simp only [cond_false];rw [ih (k:=k) (fun j hj=>by have:=hno (j+1) (by omega);simpa using this) (by simpa using hk)]
set_option maxHeartbeats 400000 in
theorem zVO (A:Option Addr) (n c:Nat) (X:List Int) (v:Int) (w:World) (hA:Ints w A n X) :
  Calls Tryz.prog 196 #[H A n c,D J v] w fun e w'=>e=.returned (D J (atI X v))∧w'=w:=by
 have hle:=hA.le;have HL:=qH hA.len;go_enter Tryz.func196,Tryz.ntmps196;go_wp2
 go_loop [5] (fun i=>∃k:Nat,k≤n∧i=D J k∧Hid (∀j,j < k→X[j]?≠Z v)) (fun i=>n-(intOf i).toNat)
 case atStart=>exact ⟨0,Nat.zero_le _,rfl,qH (fun j hj=>by omega)⟩
 case round =>
  obtain ⟨k,hk,rfl,hno⟩:=hrel;by_cases hlt:k < n
  ·obtain ⟨ad,x,rfl,hx,lU,jp,hc⟩:=hA.at_ hlt;by_cases he:x=v
   ·have hf:=qH (show atI X v=k by unfold atI;rw [if_pos (by rw [←he];exact List.mem_of_getElem? hx.out),zNv hno.out (by rw [hx.out,he])]);go_wp2_with fail
    go_ret;exact ⟨zAu hf.out.symm,rfl⟩
   ·have he':(x==v)=E:=by simpa using he
    have Bc:=qH (show ∀j,j < k+1→X[j]?≠Z v from fun j hj e=>by
     rcases Nat.lt_or_ge j k with hl | hl
     ·exact hno.out j hl e
     ·have:j=k:=by omega
      subst this
      rw [hx.out] at e
      exact he (Option.some.inj e))
    clear hno;go_wp2_with fail
    go_round
    case rel=>exact ⟨k+1,by omega,by go_num,Bc⟩
    case measure=>simp [intOf];omega
  ·have hf:=qH (show atI X v = -1 by
    unfold atI
    rw [if_neg]
    intro hm
    obtain ⟨j,hj,e⟩:=List.getElem_of_mem hm
    have hl:X.length=n:=HL.out
    exact hno.out j (by omega) (by rw [List.getElem?_eq_getElem hj,e]))
   go_wp2_with fail
   go_ret;exact ⟨zAu hf.out.symm,rfl⟩
set_option maxHeartbeats 400000 in
theorem zHh (K:Int) (i:Nat) (b:Bool) (A:Option Addr) (n c:Nat) (w:World) (hi:i < n) (hle:n≤2932031007402) :
  Calls Tryz.prog 194 #[.agg #[D J K,H A n c],D J i,G b] w fun e w'=>e=.returned (D J (zBx n i b))∧Below w.heap.size w w':=by
 have hb:=(Below.refl w.heap.size w).alloc (Nat.le_refl _) (.cells #[D J K,H A n c] 55)
 cases b with
 | true =>
  have hf:=qH (show ((zBx n i Q:Nat):Int)=2*(i:Int) by unfold zBx;simp);go_enter Tryz.func194,Tryz.ntmps194;go_wp2_with fail
  go_ret;exact ⟨zAu (by rw [hf.out]),hb⟩
 | false =>
  have hf:=qH (show ((zBx n i E:Nat):Int)=2*(((i:Int)+n-1) % n)+1 by
   have e1:((i+n-1:Nat):Int)=(i:Int)+n-1:=by omega
   have e2:(((i+n-1) % n:Nat):Int)=((i:Int)+n-1) % n:=by rw [Int.natCast_emod,e1]
   unfold zBx
   simp only [Bool.false_eq_true,if_false]
   omega)
  have hm0:0≤((i:Int)+n-1) % n:=Int.emod_nonneg _ (by omega);have sV:((i:Int)+n-1) % n < n:=Int.emod_lt_of_pos _ (by omega);go_enter Tryz.func194,Tryz.ntmps194;go_wp2_with fail
  go_ret;exact ⟨zAu (by rw [hf.out]),hb⟩
def zNw (L:List Lt) (i j:Nat):Bool:=j != i&&isC (la L j)&&(la L j).id==(la L i).id
theorem zTX {L:List Lt} {i k:Nat} (h:NoneTo (zNw L i) k) (hk:zNw L i k=Q) (hn:k < L.length):zGA L i=k:=by
 have:=zMq h hk hn;show (List.find? (zNw L i) _).getD i=k;rw [this];rfl
theorem zRz {L:List Lt} {i:Nat} (h:NoneTo (zNw L i) L.length):zGA L i=i:=by
 have:=zHf h;show (List.find? (zNw L i) _).getD i=i;rw [this];rfl
set_option maxHeartbeats 800000 in
theorem zOJ (K:Int) (i:Nat) (A:Option Addr) (n c:Nat) (L:List Lt) (w:World) (hA:Lets w A n L) (hi:i < n) :
  Calls Tryz.prog 195 #[.agg #[D J K,H A n c],D J i] w fun e w'=>e=.returned (D J (zGA L i))∧Below w.heap.size w w':=by
 have hle:=hA.le;have HL:=qH hA.len;have hb:=(Below.refl w.heap.size w).alloc (Nat.le_refl _) (.cells #[D J K,H A n c] 55);have fF:=hA.alloc (.cells #[D J K,H A n c] 55);obtain ⟨g,o,rfl,hg,hy,hyok⟩:=fF.at_ hi;go_enter Tryz.func195,Tryz.ntmps195;go_wp2
 go_loopw [5] (fun v wr=>∃k:Nat,k≤n∧v=D J k∧Hid (NoneTo (zNw L i) k)∧Drawn (w.alloc (.cells #[D J K,H (Z ⟨g,o,U⟩) n c] 55)) wr) (fun v _=>n-(intOf v).toNat)
 case atStart=>exact ⟨0,Nat.zero_le _,rfl,qH (NoneTo.zero _),Drawn.refl _⟩
 case round =>
  obtain ⟨k,hk,rfl,hno,nd,rfl⟩:=hrel;by_cases hlt:k < n
  ·obtain ⟨hx,hok⟩:=fF.also hlt;obtain ⟨h0,h1,h2,h3,h4,h5⟩:=hx;obtain ⟨_,_,_,y3,_,_⟩:=hy;by_cases hne:k=i
   ·have hd:((k:Int) != (i:Int))=E:=by simp [hne]
    have hs:=qH (hno.out.succ (show zNw L i k=E by unfold zNw;simp [hne]));clear hno hne;go_wp2_with fail
    go_quiet (fail)
    go_wp2_with fail
    go_roundw
    case rel=>exact ⟨k+1,by omega,by go_num,hs,zOB _ _⟩
    case measure=>simp [intOf];omega
   ·have hd:((k:Int) != (i:Int))=Q:=by simp;omega
    by_cases hp:(la L k).kind=2
    ·by_cases hq:(la L k).id=(la L i).id
     ·have hf:=qH (show ((zGA L i:Nat):Int)=k by rw [zTX hno.out (by unfold zNw;simp [hne,zLm hp,hq]) (by rw [HL.out];exact hlt)]);clear hno hne;rw [hq] at h3;go_wp2_with fail
      go_quiet (fail)
      go_wp2_with fail
      go_ret;exact ⟨zAu hf.out.symm,zAe (zAe hb _) _⟩
     ·have hs:=qH (hno.out.succ (show zNw L i k=E by unfold zNw;simp [hq]));have vY:((la L k).id==(la L i).id)=E:=by simpa using hq
      clear hno hne hq;go_wp2_with fail
      go_quiet (fail)
      go_wp2_with fail
      go_roundw
      case rel=>exact ⟨k+1,by omega,by go_num,hs,zOB _ _⟩
      case measure=>simp [intOf];omega
    ·have hs:=qH (hno.out.succ (show zNw L i k=E by unfold zNw;simp [zLn hp]));have ik:((la L k).kind==2)=E:=by simpa using hp
     clear hno hne hp;go_wp2_with fail
     go_quiet (fail)
     go_wp2_with fail
     go_roundw
     case rel=>exact ⟨k+1,by omega,by go_num,hs,zOB _ _⟩
     case measure=>simp [intOf];omega
  ·have hkn:k=n:=by omega
   subst hkn;have hf:=qH (show ((zGA L i:Nat):Int)=i by rw [zRz (by rw [HL.out];exact hno.out)]);clear hno;go_wp2_with fail
   go_ret;exact ⟨zAu hf.out.symm,zAe hb _⟩
def ltV (l:Lt):Value:=.agg #[D J l.kind,D J l.gate,D J l.rank,D J l.id,D J l.sign,G l.over]
set_option maxHeartbeats 400000 in
theorem zMr (a b:Lt) (w:World) :
  Calls Tryz.prog 193 #[ltV a,ltV b] w fun e w'=>e=.returned (G (zFK a b))∧Below w.heap.size w w':=by
 have hb:=((Below.refl w.heap.size w).alloc (Nat.le_refl _) (.cells #[D J a.kind,D J a.gate,D J a.rank,D J a.id,D J a.sign,G a.over] 76)).alloc (by simp) (.cells #[D J b.kind,D J b.gate,D J b.rank,D J b.id,D J b.sign,G b.over] 76);unfold ltV;by_cases h1:a.gate < b.gate
 ·have hf:=qH (show zFK a b=Q by unfold zFK;simp [h1]);go_enter Tryz.func193,Tryz.ntmps193;go_wp2_with fail
  go_ret;exact ⟨zAi hf.out.symm,hb⟩
 ·by_cases h2:a.gate=b.gate
  ·have hf:=qH (show zFK a b=decide (a.rank < b.rank) by unfold zFK;simp [h2]);have h1':decide (a.gate < b.gate)=E:=by simpa using h1
   have h2':(a.gate==b.gate)=Q:=by simpa using h2
   clear h1 h2;go_enter Tryz.func193,Tryz.ntmps193;go_wp2_with fail
   go_ret;exact ⟨zAi hf.out.symm,hb⟩
  ·have hf:=qH (show zFK a b=E by unfold zFK;simp [h1,h2]);have h1':decide (a.gate < b.gate)=E:=by simpa using h1
   have h2':(a.gate==b.gate)=E:=by simpa using h2
   clear h1 h2;go_enter Tryz.func193,Tryz.ntmps193;go_wp2_with fail
   go_ret;exact ⟨zAi hf.out.symm,hb⟩
theorem Ints.one {w:World} {t:TypeId} {x:Int} (hx:I64 x):Ints (w.alloc (.cells #[D J x] t)) (Z ⟨w.heap.size,0,U⟩) 1 [x] :=
 ⟨rfl,by omega,(by intro z hz;simp at hz;subst hz;exact hx),fun _=>⟨_,rfl,by simp,fun j y hy=>by
  match j,hy with
  | 0,hy=>simp at hy;subst hy;rw [Addr.add_lit,World.cell?_alloc_at _ _ _ _ rfl];rfl⟩⟩
theorem Ints.oneAt {w:World} {t:TypeId} {x:Int} {k:Nat} (hx:I64 x) (hk:w.heap.size=k):Ints (w.alloc (.cells #[D J x] t)) (Z ⟨k,0,U⟩) 1 [x]:=by
 subst hk;exact Ints.one hx
theorem Ints.drewD {w:World} {A:Option Addr} {n:Nat} {L:List Int} (h:Ints w A n L):Ints w.drew A n L:=h
theorem Ints.oneG {w:World} {n:Nat} {x:Int} {o:Obj} {A:Option Addr} {L:List Int} (hx:I64 x) (ho:o=.cells #[D J x] 3) (hn:n=1) (hL:L=[x]) (hA:A=Z ⟨w.heap.size,0,U⟩):Ints (w.alloc o) A n L:=by
 subst ho;subst hA;subst hn;subst hL
 exact Ints.oneAt hx rfl
theorem Ints.growG {w w':World} {n:Nat} {L:List Int} {row:Option Nat} {A:Option Addr} (hg:w.grownBy w' row) (hne:∀a,A=Z a→row≠Z a.block) (h:Ints w A n L):Ints w' A n L:=by
 refine ⟨h.1,h.2.1,h.2.2.1,fun hn=>?_⟩;obtain ⟨ad,e,hb,hc⟩:=h.2.2.2 hn;refine ⟨ad,e,Nat.lt_of_lt_of_le hb hg.size,fun j x hx=>?_⟩;rw [←hc j x hx];exact World.cell?_of_block (hg.block _ (by rw [zCR];exact hb) (by rw [zCR];exact fun h=>hne ad e h.symm))
theorem zIu {w:World} {ops:Array Oper} {o:Oper} {a:Act} {K:Act→World→Prop} {ZS:Exit→Act→World→Prop} {ZT:Prop} (hgd:o.guard=U) (s x:Operand)
  (ho:o.op=.call { callee:=.builtin .append,args:=#[s,x],argTypes:=#[79,79] }) (hty:o.type=79)
  {base:Nat} {A:Option Addr} {n c:Nat} {L:List Int} {B:Option Addr} {m d:Nat} {M:List Int} (hs:a.eval s=H A n c)
  (hx:a.eval x=H B m d) (hown:Own w base A n c L) (hB:Ints w B m M) (N:Nat) (hN:n+m=N) (hn:N≤17592186044416) (hbase:base≤w.heap.size)
  (h:∀A' c' w',Own w' base A' N c' (L++M)→Below base w w'→w.grownBy w' (blk A)→(blk A'=blk A∨blk A'=Z w.heap.size)→K (a.put o.dst (H A' N c')) w') :
  if Region.wanted o (yielded ops a.tmps)=Q then Oper.wp Tryz.prog o a w K ZS else ZT :=
 zXr hgd s x ho hty hown hB hs hx N hN hn hbase h
def zEG (X:List Nat):List Int:=X.map (fun (x:Nat)=>(x:Int))
theorem zFb (X:List Nat):(zEG X).length=X.length:=by simp [zEG]
theorem zDJ {X:List Nat} {k:Nat} (h:k < X.length):(zEG X)[k]? = Z ((xat X k:Nat):Int):=by
 unfold zEG xat;rw [List.getElem?_map,List.getElem?_eq_getElem h];rfl
def Boxed (w wr:World) (K:Int) (A:Option Addr) (n c:Nat):Prop:=Below (w.heap.size+1) (w.alloc (.cells #[D J K,H A n c] 55)) wr
section
variable {w wr wx:World} {K:Int} {A:Option Addr} {n c:Nat}
theorem Boxed.refl (w:World) (K:Int) (A:Option Addr) (n c:Nat):Boxed w (w.alloc (.cells #[D J K,H A n c] 55)) K A n c:=Below.refl _ _
theorem Boxed.below (h:Boxed w wr K A n c):Below w.heap.size w wr:=((Below.refl _ _).alloc (Nat.le_refl _) _).trans (h.mono (by omega))
theorem Boxed.size (h:Boxed w wr K A n c):w.heap.size+1≤wr.heap.size:=by have:=Below.size h;simpa using this
theorem Boxed.more (h:Boxed w wr K A n c) (hb:Below wr.heap.size wr wx):Boxed w wx K A n c:=zAa h hb h.size
theorem Boxed.moreB {B:Nat} (h:Boxed w wr K A n c) (hb:Below B wr wx) (hB:w.heap.size+1≤B):Boxed w wx K A n c:=zAa h hb hB
theorem Boxed.alloc (h:Boxed w wr K A n c) (o:Obj):Boxed w (wr.alloc o) K A n c:=Below.alloc h h.size o
theorem Boxed.drew (h:Boxed w wr K A n c):Boxed w wr.drew K A n c:=Below.drew h
theorem Boxed.c0 (h:Boxed w wr K A n c):wr.cell? ⟨w.heap.size,0,U⟩=Z (D J K) :=
 (Below.cell h (p:=⟨w.heap.size,0,U⟩) (by simp)).trans (by rw [World.cell?_alloc_at _ _ _ _ rfl];rfl)
theorem Boxed.c1 (h:Boxed w wr K A n c):wr.cell? ⟨w.heap.size,1,U⟩=Z (H A n c) :=
 (Below.cell h (p:=⟨w.heap.size,1,U⟩) (by simp)).trans (by rw [World.cell?_alloc_at _ _ _ _ rfl];rfl)
theorem Boxed.s (h:Boxed w wr K A n c):Boxed w wr K A n c∧wr.cell? ⟨w.heap.size,0,U⟩=Z (D J K)∧wr.cell? ⟨w.heap.size,1,U⟩=Z (H A n c):=⟨h,h.c0,h.c1⟩
end
end Go.Proofs.YtlmdfmnbcndhoaaGreatDoor
