/-
  Lemmas, part 49. Conditions: each theorem's own.
-/
import Derived.Test.YtlmdfmnbcndhoaaGreatDoorRq46
import Derived.Test.YtlmdfmnbcndhoaaGreatDoorRq48
import Derived.Test.YtlmdfmnbcndhoaaGreatDoorRq42
import Derived.Test.YtlmdfmnbcndhoaaGreatDoorRows
import Derived.Test.YtlmdfmnbcndhoaaGreatDoorTie
import Derived.Test.YtlmdfmnbcndhoaaGreatDoorCards
import Derived.Test.YtlmdfmnbcndhoaaGreatDoorRq03
import Derived.ProofKit
import Derived.LaidMore
import Derived.OpenShut
import Derived.Stop.Joined
import Derived.SizedLaws
open Go.Value renaming bool→G,int→D,slice→H
open Go.IntKind renaming i64→J
open Bool renaming false→E,true→Q
open Option renaming none→U,some→Z
namespace Go.Proofs.YtlmdfmnbcndhoaaGreatDoor
open Go.RowKit
theorem zLj {F:List Fg} {re lo:Int} {b:Bool} (h:frB F re lo=b) {A:Option Addr} {n c:Nat} (w:World) (hA:Fgs w A n F) :
  Calls Tryz.prog 18 #[.agg #[H A n c,D J re,D J lo]] w fun e w'=>e=.returned (G b)∧Below w.heap.size w w':=by
 subst h;exact zNU A n c F re lo w hA
theorem zRl {K ZT:Int} {L:List Lt} (h:zAC K L=ZT) {A:Option Addr} {n c:Nat} (w:World) (hA:Lets w A n L) :
  Calls Tryz.prog 86 #[.agg #[D J K,H A n c]] w fun e w'=>e=.returned (D J ZT)∧Below w.heap.size w w':=by
 subst h;exact zRh K A n c L w hA
theorem zRm {K:Int} {L:List Lt} {b:Bool} (h:zCQ L=b) (h0:zAC K L=0) {A:Option Addr} {n c:Nat} (w:World) (hA:Lets w A n L) :
  Calls Tryz.prog 87 #[.agg #[D J K,H A n c]] w fun e w'=>e=.returned (G b)∧Below w.heap.size w w':=by
 have ht:=zCq h0;have hl:=hA.len;subst h;exact zOM K A n c L w hA (by have:=ht.len;omega) (fun i hi hp=>by have:=ht.pass i (by omega) hp;have:=ht.hi;omega)
set_option maxRecDepth 100000 in
set_option maxHeartbeats 6400000 in
theorem zLk (A:Option Addr) (n c:Nat) (F:List Fg) (re lo K:Int) (B:Option Addr) (m d:Nat) (L:List Lt) (w:World) (hA:Fgs w A n F) (hB:Lets w B m L) :
  Calls Tryz.prog 76 #[frV A n c re lo,.agg #[D J K,H B m d]] w fun e w'=>e=.returned (D J (zBr F re lo K L))∧Below w.heap.size w w':=by
 obtain ⟨R,hR⟩:∃R,zBr F re lo K L=R:=⟨_,rfl⟩
 rw [hR];have cU:=qH hA.len;have HA:=qH hA;have HL:=qH hB;have HB:=qH (Below.refl w.heap.size w);obtain ⟨v,hv⟩:∃v,frB F re lo=v:=⟨_,rfl⟩
 obtain ⟨ZT,hE⟩:∃ZT,zAC K L=ZT:=⟨_,rfl⟩
 obtain ⟨b,hb⟩:∃b,zCQ L=b:=⟨_,rfl⟩
 have HV:=qH hv;have HE:=qH hE;have HP:=qH hb
 have HR:=qH (show R=if v=E then 2 else if ZT≠0 then ZT else if (K==(n:Int))&&b then 0 else 2 by
  rw [←hR]
  unfold zBr zBG
  rw [hv,hE,hb,cU.out]
  cases v with
  | false=>rfl
  | true =>
   by_cases h:ZT=0
   ·subst h;simp
   ·simp [h])
 clear hA hB hv hE hb hR
 cases v with
 | false =>
  go_enter Tryz.func76,Tryz.ntmps76;have hba:Below w.heap.size w ((w.alloc (.cells #[H A n c,D J re,D J lo] 24)).alloc (.cells #[D J K,H B m d] 55)):=((Below.refl _ _).alloc (Nat.le_refl _) _).alloc (by simp) _;replace HA:=qH (HA.out.below hba);replace HL:=qH (HL.out.below hba);replace HB:=qH (zAa HB.out hba HB.out.size);have kf:=(Blk.new w 24 #[H A n c,D J re,D J lo]).alloc (.cells #[D J K,H B m d] 55);have ks:Blk ((w.alloc (.cells #[H A n c,D J re,D J lo] 24)).alloc (.cells #[D J K,H B m d] 55)) (w.heap.size+1) 55 #[D J K,H B m d]:=heap_alloc2_new w _ _;clear hba;go_upto_region 1 with fail
  generalize (w.alloc (.cells #[H A n c,D J re,D J lo] 24)).alloc (.cells #[D J K,H B m d] 55)=X at HA HL HB kf ks ⊢;obtain ⟨c0,c1,c2⟩:=cQ3 kf;obtain ⟨d0,d1⟩:=cQ2 ks;go_wp2_with fail
  refine (zLj HV.out _ HA.out).mono ?_;rintro e u1 ⟨rfl,hb⟩;clear c0 c1 c2 d0 d1;replace HA:=qH (HA.out.below hb);replace HL:=qH (HL.out.below hb);replace HB:=qH (zAa HB.out hb HB.out.size);replace kf:=kf.below hb kf.lt;replace ks:=ks.below hb ks.lt;clear hb;go_wp2_with fail
  go_ret;exact ⟨zAp (HR.out.trans (by simp)).symm,HB.out⟩
 | true =>
  go_enter Tryz.func76,Tryz.ntmps76;have hba:Below w.heap.size w ((w.alloc (.cells #[H A n c,D J re,D J lo] 24)).alloc (.cells #[D J K,H B m d] 55)):=((Below.refl _ _).alloc (Nat.le_refl _) _).alloc (by simp) _;replace HA:=qH (HA.out.below hba);replace HL:=qH (HL.out.below hba);replace HB:=qH (zAa HB.out hba HB.out.size);have kf:=(Blk.new w 24 #[H A n c,D J re,D J lo]).alloc (.cells #[D J K,H B m d] 55);have ks:Blk ((w.alloc (.cells #[H A n c,D J re,D J lo] 24)).alloc (.cells #[D J K,H B m d] 55)) (w.heap.size+1) 55 #[D J K,H B m d]:=heap_alloc2_new w _ _;clear hba;go_upto_region 1 with fail
  generalize (w.alloc (.cells #[H A n c,D J re,D J lo] 24)).alloc (.cells #[D J K,H B m d] 55)=X at HA HL HB kf ks ⊢;obtain ⟨c0,c1,c2⟩:=cQ3 kf;obtain ⟨d0,d1⟩:=cQ2 ks;go_wp2_with fail
  refine (zLj HV.out _ HA.out).mono ?_;rintro e u2 ⟨rfl,hb⟩;clear c0 c1 c2 d0 d1;replace HA:=qH (HA.out.below hb);replace HL:=qH (HL.out.below hb);replace HB:=qH (zAa HB.out hb HB.out.size);replace kf:=kf.below hb kf.lt;replace ks:=ks.below hb ks.lt;clear hb;obtain ⟨c0,c1,c2⟩:=cQ3 kf;obtain ⟨d0,d1⟩:=cQ2 ks;go_wp2_with fail
  refine (zRl HE.out _ HL.out).mono ?_;rintro e u3 ⟨rfl,hb⟩;clear c0 c1 c2 d0 d1;replace HA:=qH (HA.out.below hb);replace HL:=qH (HL.out.below hb);replace HB:=qH (zAa HB.out hb HB.out.size);replace kf:=kf.below hb kf.lt;replace ks:=ks.below hb ks.lt;clear hb;by_cases h0:ZT=0
  ·subst h0;by_cases hk:K=(n:Int)
   ·have k1:(K != (n:Int))=E:=by simpa using hk
    have HK:=qH hk;clear hk;obtain ⟨c0,c1,c2⟩:=cQ3 kf;obtain ⟨d0,d1⟩:=cQ2 ks;go_wp2_with fail
    refine (zRm HP.out HE.out _ HL.out).mono ?_;rintro e u4 ⟨rfl,hb⟩;clear c0 c1 c2 d0 d1;replace HA:=qH (HA.out.below hb);replace HL:=qH (HL.out.below hb);replace HB:=qH (zAa HB.out hb HB.out.size);replace kf:=kf.below hb kf.lt;replace ks:=ks.below hb ks.lt;clear hb
    cases b with
    | false =>
     go_wp2_with fail
     go_ret;exact ⟨zAp (HR.out.trans (by simp)).symm,HB.out⟩
    | true =>
     go_wp2_with fail
     go_ret;exact ⟨zAp (HR.out.trans (by simp [HK.out])).symm,HB.out⟩
   ·have k1:(K != (n:Int))=Q:=by simpa using hk
    have HK:=qH hk;clear hk;obtain ⟨c0,c1,c2⟩:=cQ3 kf;obtain ⟨d0,d1⟩:=cQ2 ks;go_wp2_with fail
    go_ret;exact ⟨zAp (HR.out.trans (by simp [HK.out])).symm,HB.out⟩
  ·have k3:(ZT != 0)=Q:=by simpa using h0
   have H0:=qH h0;clear h0;go_wp2_with fail
   go_ret;exact ⟨zAp (HR.out.trans (by simp [H0.out])).symm,HB.out⟩
theorem zLl {F:List Fg} {re lo K ZT:Int} {L:List Lt} (h:zBr F re lo K L=ZT) {A:Option Addr} {n c:Nat} {B:Option Addr} {m d:Nat} (w:World) (hA:Fgs w A n F) (hB:Lets w B m L) :
  Calls Tryz.prog 34 #[frV A n c re lo,.agg #[D J K,H B m d]] w fun e w'=>e=.returned (D J ZT)∧Below w.heap.size w w':=by
 have HA:=qH hA;have HL:=qH hB;have HB:=qH (Below.refl w.heap.size w);have HE:=qH (fun (A:Option Addr) (n c:Nat) (B:Option Addr) (m d:Nat) w hA hB=>h ▸ zLk A n c F re lo K B m d L w hA hB);clear hA hB;go_enter Tryz.func34,Tryz.ntmps34;have hba:Below w.heap.size w ((w.alloc (.cells #[H A n c,D J re,D J lo] 24)).alloc (.cells #[D J K,H B m d] 55)):=((Below.refl _ _).alloc (Nat.le_refl _) _).alloc (by simp) _;replace HA:=qH (HA.out.below hba);replace HL:=qH (HL.out.below hba);replace HB:=qH (zAa HB.out hba HB.out.size);have kf:=(Blk.new w 24 #[H A n c,D J re,D J lo]).alloc (.cells #[D J K,H B m d] 55);have ks:Blk ((w.alloc (.cells #[H A n c,D J re,D J lo] 24)).alloc (.cells #[D J K,H B m d] 55)) (w.heap.size+1) 55 #[D J K,H B m d]:=heap_alloc2_new w _ _;clear hba;go_upto_region 1 with fail
 generalize (w.alloc (.cells #[H A n c,D J re,D J lo] 24)).alloc (.cells #[D J K,H B m d] 55)=X at HA HL HB kf ks ⊢;obtain ⟨c0,c1,c2⟩:=cQ3 kf;obtain ⟨d0,d1⟩:=cQ2 ks;go_wp2_with fail
 refine (HE.out A n c B m d _ HA.out HL.out).mono ?_;rintro e u5 ⟨rfl,hb⟩;clear c0 c1 c2 d0 d1;replace HA:=qH (HA.out.below hb);replace HL:=qH (HL.out.below hb);replace HB:=qH (zAa HB.out hb HB.out.size);replace kf:=kf.below hb kf.lt;replace ks:=ks.below hb ks.lt;clear hb;go_wp2_with fail
 go_ret;exact ⟨rfl,HB.out⟩
end Go.Proofs.YtlmdfmnbcndhoaaGreatDoor
namespace Go.Proofs.YtlmdfmnbcndhoaaGreatDoor
open Go.RowKit
set_option maxRecDepth 100000 in
set_option maxHeartbeats 12800000 in
theorem zFR (A:Option Addr) (n c:Nat) (F:List Fg) (re lo:Int) (K:Int) (B:Option Addr) (m d:Nat) (L:List Lt) (w:World) (hA:Fgs w A n F) (hc:n≤c) (hB:Lets w B m L) (_:m≤d) (ht:Tabs w) :
  Calls Tryz.prog 8 #[frV A n c re lo,.agg #[D J K,H B m d]] w fun e w'=>e=.returned (G Q)∧Below w.heap.size w w':=by
 obtain ⟨ZT,hE⟩:∃ZT,zBr F re lo K L=ZT:=⟨_,rfl⟩
 obtain ⟨S,hS⟩:∃S,sqS F re lo K L=S:=⟨_,rfl⟩
 have HE:=qH hE;have du:=qH hS;have HA:=qH hA;have HL:=qH hB;have HT:=qH ht;have HC:=qH hc;have HB:=qH (Below.refl w.heap.size w);clear hS hE hA hB hc ht;by_cases h60:n≤60
 ·by_cases hm60:m≤60
  ·by_cases hE0:ZT=0
   ·have HS:=qH (show decide (n≤60)=Q by simpa using h60);have k1:¬(60:Int) < (m:Int):=by omega
    subst hE0;have B6:=qH (show zLo F L=S by rw [←du.out];unfold sqS;rw [if_pos HE.out]);have t0:=zVp S;clear h60 hm60;go_enter Tryz.func8,Tryz.ntmps8;have hba:Below w.heap.size w ((w.alloc (.cells #[H A n c,D J re,D J lo] 24)).alloc (.cells #[D J K,H B m d] 55)):=((Below.refl _ _).alloc (Nat.le_refl _) _).alloc (by simp) _;replace HA:=qH (HA.out.below hba);replace HL:=qH (HL.out.below hba);replace HT:=qH (HT.out.below hba);replace HB:=qH (zAa HB.out hba HB.out.size);have kf:=(Blk.new w 24 #[H A n c,D J re,D J lo]).alloc (.cells #[D J K,H B m d] 55);have ks:Blk ((w.alloc (.cells #[H A n c,D J re,D J lo] 24)).alloc (.cells #[D J K,H B m d] 55)) (w.heap.size+1) 55 #[D J K,H B m d]:=heap_alloc2_new w _ _;clear hba;go_upto_region 1 with fail
    generalize (w.alloc (.cells #[H A n c,D J re,D J lo] 24)).alloc (.cells #[D J K,H B m d] 55)=X at HA HL HT HB kf ks ⊢;have c0:X.cell? ⟨w.heap.size,0,U⟩=Z (H A n c):=(kf.cell 0).trans rfl;have c1:X.cell? ⟨w.heap.size,1,U⟩=Z (D J re):=(kf.cell 1).trans rfl;have c2:X.cell? ⟨w.heap.size,2,U⟩=Z (D J lo):=(kf.cell 2).trans rfl;have d0:X.cell? ⟨w.heap.size+1,0,U⟩=Z (D J K):=(ks.cell 0).trans rfl;have d1:X.cell? ⟨w.heap.size+1,1,U⟩=Z (H B m d):=(ks.cell 1).trans rfl;go_wp2_with fail
    refine (zFO HS.out A c re lo _).mono ?_;rintro e u9 ⟨rfl,hb⟩;clear c0 c1 c2 d0 d1;replace HA:=qH (HA.out.below hb);replace HL:=qH (HL.out.below hb);replace HT:=qH (HT.out.below hb);replace HB:=qH (zAa HB.out hb HB.out.size);replace kf:=kf.below hb kf.lt;replace ks:=ks.below hb ks.lt;clear hb;have c0:u9.cell? ⟨w.heap.size,0,U⟩=Z (H A n c):=(kf.cell 0).trans rfl;have c1:u9.cell? ⟨w.heap.size,1,U⟩=Z (D J re):=(kf.cell 1).trans rfl;have c2:u9.cell? ⟨w.heap.size,2,U⟩=Z (D J lo):=(kf.cell 2).trans rfl;have d0:u9.cell? ⟨w.heap.size+1,0,U⟩=Z (D J K):=(ks.cell 0).trans rfl;have d1:u9.cell? ⟨w.heap.size+1,1,U⟩=Z (H B m d):=(ks.cell 1).trans rfl;go_wp2_with fail
    refine (zQZ HE.out du.out _ HA.out HC.out HL.out HT.out).mono ?_;rintro e uu ⟨rfl,hb⟩;clear c0 c1 c2 d0 d1;replace HA:=qH (HA.out.below hb);replace HL:=qH (HL.out.below hb);replace HT:=qH (HT.out.below hb);replace HB:=qH (zAa HB.out hb HB.out.size);replace kf:=kf.below hb kf.lt;replace ks:=ks.below hb ks.lt;clear hb;have c0:uu.cell? ⟨w.heap.size,0,U⟩=Z (H A n c):=(kf.cell 0).trans rfl;have c1:uu.cell? ⟨w.heap.size,1,U⟩=Z (D J re):=(kf.cell 1).trans rfl;have c2:uu.cell? ⟨w.heap.size,2,U⟩=Z (D J lo):=(kf.cell 2).trans rfl;have d0:uu.cell? ⟨w.heap.size+1,0,U⟩=Z (D J K):=(ks.cell 0).trans rfl;have d1:uu.cell? ⟨w.heap.size+1,1,U⟩=Z (H B m d):=(ks.cell 1).trans rfl;go_wp2_with fail
    refine (zLl HE.out _ HA.out HL.out).mono ?_;rintro e ut ⟨rfl,hb⟩;clear c0 c1 c2 d0 d1;replace HA:=qH (HA.out.below hb);replace HL:=qH (HL.out.below hb);replace HT:=qH (HT.out.below hb);replace HB:=qH (zAa HB.out hb HB.out.size);replace kf:=kf.below hb kf.lt;replace ks:=ks.below hb ks.lt;clear hb;have c0:ut.cell? ⟨w.heap.size,0,U⟩=Z (H A n c):=(kf.cell 0).trans rfl;have c1:ut.cell? ⟨w.heap.size,1,U⟩=Z (D J re):=(kf.cell 1).trans rfl;have c2:ut.cell? ⟨w.heap.size,2,U⟩=Z (D J lo):=(kf.cell 2).trans rfl;have d0:ut.cell? ⟨w.heap.size+1,0,U⟩=Z (D J K):=(ks.cell 0).trans rfl;have d1:ut.cell? ⟨w.heap.size+1,1,U⟩=Z (H B m d):=(ks.cell 1).trans rfl;go_wp2_with fail
    refine (zVF B6.out HE.out _ HA.out HL.out).mono ?_;rintro e u12 ⟨rfl,hb⟩;clear c0 c1 c2 d0 d1;replace HA:=qH (HA.out.below hb);replace HL:=qH (HL.out.below hb);replace HT:=qH (HT.out.below hb);replace HB:=qH (zAa HB.out hb HB.out.size);replace kf:=kf.below hb kf.lt;replace ks:=ks.below hb ks.lt;clear hb;go_wp2_with fail
    refine (zFN _ HT.out).mono ?_;rintro e u13 ⟨rfl,hb⟩;replace HA:=qH (HA.out.below hb);replace HL:=qH (HL.out.below hb);replace HT:=qH (HT.out.below hb);replace HB:=qH (zAa HB.out hb HB.out.size);replace kf:=kf.below hb kf.lt;replace ks:=ks.below hb ks.lt;clear hb;go_wp2_with fail
    go_ret;exact ⟨rfl,HB.out⟩
   ·have HS:=qH (show decide (n≤60)=Q by simpa using h60);have k1:¬(60:Int) < (m:Int):=by omega
    obtain rfl:S=[]:=by rw [←du.out];unfold sqS;rw [HE.out,if_neg hE0]
    have k2:(ZT != 0)=Q:=by simpa using hE0
    have k3:(ZT==ZT)=Q:=by simp
    have e0:(bA ([]:List UInt8)).toList.isEmpty=Q:=by rw [zAo];rfl
    have e1:((bA ([]:List UInt8)).toList==[])=Q:=by rw [zAo];rfl
    clear h60 hm60 hE0;go_enter Tryz.func8,Tryz.ntmps8;have hba:Below w.heap.size w ((w.alloc (.cells #[H A n c,D J re,D J lo] 24)).alloc (.cells #[D J K,H B m d] 55)):=((Below.refl _ _).alloc (Nat.le_refl _) _).alloc (by simp) _;replace HA:=qH (HA.out.below hba);replace HL:=qH (HL.out.below hba);replace HT:=qH (HT.out.below hba);replace HB:=qH (zAa HB.out hba HB.out.size);have kf:=(Blk.new w 24 #[H A n c,D J re,D J lo]).alloc (.cells #[D J K,H B m d] 55);have ks:Blk ((w.alloc (.cells #[H A n c,D J re,D J lo] 24)).alloc (.cells #[D J K,H B m d] 55)) (w.heap.size+1) 55 #[D J K,H B m d]:=heap_alloc2_new w _ _;clear hba;go_upto_region 1 with fail
    generalize (w.alloc (.cells #[H A n c,D J re,D J lo] 24)).alloc (.cells #[D J K,H B m d] 55)=X at HA HL HT HB kf ks ⊢;have c0:X.cell? ⟨w.heap.size,0,U⟩=Z (H A n c):=(kf.cell 0).trans rfl;have c1:X.cell? ⟨w.heap.size,1,U⟩=Z (D J re):=(kf.cell 1).trans rfl;have c2:X.cell? ⟨w.heap.size,2,U⟩=Z (D J lo):=(kf.cell 2).trans rfl;have d0:X.cell? ⟨w.heap.size+1,0,U⟩=Z (D J K):=(ks.cell 0).trans rfl;have d1:X.cell? ⟨w.heap.size+1,1,U⟩=Z (H B m d):=(ks.cell 1).trans rfl;go_wp2_with fail
    refine (zFO HS.out A c re lo _).mono ?_;rintro e u5 ⟨rfl,hb⟩;clear c0 c1 c2 d0 d1;replace HA:=qH (HA.out.below hb);replace HL:=qH (HL.out.below hb);replace HT:=qH (HT.out.below hb);replace HB:=qH (zAa HB.out hb HB.out.size);replace kf:=kf.below hb kf.lt;replace ks:=ks.below hb ks.lt;clear hb;have c0:u5.cell? ⟨w.heap.size,0,U⟩=Z (H A n c):=(kf.cell 0).trans rfl;have c1:u5.cell? ⟨w.heap.size,1,U⟩=Z (D J re):=(kf.cell 1).trans rfl;have c2:u5.cell? ⟨w.heap.size,2,U⟩=Z (D J lo):=(kf.cell 2).trans rfl;have d0:u5.cell? ⟨w.heap.size+1,0,U⟩=Z (D J K):=(ks.cell 0).trans rfl;have d1:u5.cell? ⟨w.heap.size+1,1,U⟩=Z (H B m d):=(ks.cell 1).trans rfl;go_wp2_with fail
    refine (zQZ HE.out du.out _ HA.out HC.out HL.out HT.out).mono ?_;rintro e u6 ⟨rfl,hb⟩;clear c0 c1 c2 d0 d1;replace HA:=qH (HA.out.below hb);replace HL:=qH (HL.out.below hb);replace HT:=qH (HT.out.below hb);replace HB:=qH (zAa HB.out hb HB.out.size);replace kf:=kf.below hb kf.lt;replace ks:=ks.below hb ks.lt;clear hb;have c0:u6.cell? ⟨w.heap.size,0,U⟩=Z (H A n c):=(kf.cell 0).trans rfl;have c1:u6.cell? ⟨w.heap.size,1,U⟩=Z (D J re):=(kf.cell 1).trans rfl;have c2:u6.cell? ⟨w.heap.size,2,U⟩=Z (D J lo):=(kf.cell 2).trans rfl;have d0:u6.cell? ⟨w.heap.size+1,0,U⟩=Z (D J K):=(ks.cell 0).trans rfl;have d1:u6.cell? ⟨w.heap.size+1,1,U⟩=Z (H B m d):=(ks.cell 1).trans rfl;go_wp2_with fail
    refine (zLl HE.out _ HA.out HL.out).mono ?_;rintro e u7 ⟨rfl,hb⟩;clear c0 c1 c2 d0 d1;replace HA:=qH (HA.out.below hb);replace HL:=qH (HL.out.below hb);replace HT:=qH (HT.out.below hb);replace HB:=qH (zAa HB.out hb HB.out.size);replace kf:=kf.below hb kf.lt;replace ks:=ks.below hb ks.lt;clear hb;go_wp2_with fail
    refine (zFN _ HT.out).mono ?_;rintro e u8 ⟨rfl,hb⟩;replace HA:=qH (HA.out.below hb);replace HL:=qH (HL.out.below hb);replace HT:=qH (HT.out.below hb);replace HB:=qH (zAa HB.out hb HB.out.size);replace kf:=kf.below hb kf.lt;replace ks:=ks.below hb ks.lt;clear hb;go_wp2_with fail
    go_ret;exact ⟨rfl,HB.out⟩
  ·have HS:=qH (show decide (n≤60)=Q by simpa using h60);have k1:(60:Int) < (m:Int):=by omega
   clear h60 hm60;go_enter Tryz.func8,Tryz.ntmps8;have hba:Below w.heap.size w ((w.alloc (.cells #[H A n c,D J re,D J lo] 24)).alloc (.cells #[D J K,H B m d] 55)):=((Below.refl _ _).alloc (Nat.le_refl _) _).alloc (by simp) _;replace HA:=qH (HA.out.below hba);replace HL:=qH (HL.out.below hba);replace HT:=qH (HT.out.below hba);replace HB:=qH (zAa HB.out hba HB.out.size);have kf:=(Blk.new w 24 #[H A n c,D J re,D J lo]).alloc (.cells #[D J K,H B m d] 55);have ks:Blk ((w.alloc (.cells #[H A n c,D J re,D J lo] 24)).alloc (.cells #[D J K,H B m d] 55)) (w.heap.size+1) 55 #[D J K,H B m d]:=heap_alloc2_new w _ _;clear hba;go_upto_region 1 with fail
   generalize (w.alloc (.cells #[H A n c,D J re,D J lo] 24)).alloc (.cells #[D J K,H B m d] 55)=X at HA HL HT HB kf ks ⊢;have c0:X.cell? ⟨w.heap.size,0,U⟩=Z (H A n c):=(kf.cell 0).trans rfl;have c1:X.cell? ⟨w.heap.size,1,U⟩=Z (D J re):=(kf.cell 1).trans rfl;have c2:X.cell? ⟨w.heap.size,2,U⟩=Z (D J lo):=(kf.cell 2).trans rfl;have d0:X.cell? ⟨w.heap.size+1,0,U⟩=Z (D J K):=(ks.cell 0).trans rfl;have d1:X.cell? ⟨w.heap.size+1,1,U⟩=Z (H B m d):=(ks.cell 1).trans rfl;go_wp2_with fail
   refine (zFO HS.out A c re lo _).mono ?_;rintro e u3 ⟨rfl,hb⟩;clear c0 c1 c2 d0 d1;replace HA:=qH (HA.out.below hb);replace HL:=qH (HL.out.below hb);replace HT:=qH (HT.out.below hb);replace HB:=qH (zAa HB.out hb HB.out.size);replace kf:=kf.below hb kf.lt;replace ks:=ks.below hb ks.lt;clear hb;have c0:u3.cell? ⟨w.heap.size,0,U⟩=Z (H A n c):=(kf.cell 0).trans rfl;have c1:u3.cell? ⟨w.heap.size,1,U⟩=Z (D J re):=(kf.cell 1).trans rfl;have c2:u3.cell? ⟨w.heap.size,2,U⟩=Z (D J lo):=(kf.cell 2).trans rfl;have d0:u3.cell? ⟨w.heap.size+1,0,U⟩=Z (D J K):=(ks.cell 0).trans rfl;have d1:u3.cell? ⟨w.heap.size+1,1,U⟩=Z (H B m d):=(ks.cell 1).trans rfl;go_wp2_with fail
   refine (zFN _ HT.out).mono ?_;rintro e u4 ⟨rfl,hb⟩;clear c0 c1 c2 d0 d1;replace HA:=qH (HA.out.below hb);replace HL:=qH (HL.out.below hb);replace HT:=qH (HT.out.below hb);replace HB:=qH (zAa HB.out hb HB.out.size);replace kf:=kf.below hb kf.lt;replace ks:=ks.below hb ks.lt;clear hb;go_wp2_with fail
   go_ret;exact ⟨rfl,HB.out⟩
 ·have HS:=qH (show decide (n≤60)=E by simpa using h60);clear h60;go_enter Tryz.func8,Tryz.ntmps8;have hba:Below w.heap.size w ((w.alloc (.cells #[H A n c,D J re,D J lo] 24)).alloc (.cells #[D J K,H B m d] 55)):=((Below.refl _ _).alloc (Nat.le_refl _) _).alloc (by simp) _;replace HA:=qH (HA.out.below hba);replace HL:=qH (HL.out.below hba);replace HT:=qH (HT.out.below hba);replace HB:=qH (zAa HB.out hba HB.out.size);have kf:=(Blk.new w 24 #[H A n c,D J re,D J lo]).alloc (.cells #[D J K,H B m d] 55);have ks:Blk ((w.alloc (.cells #[H A n c,D J re,D J lo] 24)).alloc (.cells #[D J K,H B m d] 55)) (w.heap.size+1) 55 #[D J K,H B m d]:=heap_alloc2_new w _ _;clear hba;go_upto_region 1 with fail
  generalize (w.alloc (.cells #[H A n c,D J re,D J lo] 24)).alloc (.cells #[D J K,H B m d] 55)=X at HA HL HT HB kf ks ⊢;have c0:X.cell? ⟨w.heap.size,0,U⟩=Z (H A n c):=(kf.cell 0).trans rfl;have c1:X.cell? ⟨w.heap.size,1,U⟩=Z (D J re):=(kf.cell 1).trans rfl;have c2:X.cell? ⟨w.heap.size,2,U⟩=Z (D J lo):=(kf.cell 2).trans rfl;have d0:X.cell? ⟨w.heap.size+1,0,U⟩=Z (D J K):=(ks.cell 0).trans rfl;have d1:X.cell? ⟨w.heap.size+1,1,U⟩=Z (H B m d):=(ks.cell 1).trans rfl;go_wp2_with fail
  refine (zFO HS.out A c re lo _).mono ?_;rintro e u1 ⟨rfl,hb⟩;clear c0 c1 c2 d0 d1;replace HA:=qH (HA.out.below hb);replace HL:=qH (HL.out.below hb);replace HT:=qH (HT.out.below hb);replace HB:=qH (zAa HB.out hb HB.out.size);replace kf:=kf.below hb kf.lt;replace ks:=ks.below hb ks.lt;clear hb;go_wp2_with fail
  refine (zFN _ HT.out).mono ?_;rintro e u2 ⟨rfl,hb⟩;replace HA:=qH (HA.out.below hb);replace HL:=qH (HL.out.below hb);replace HT:=qH (HT.out.below hb);replace HB:=qH (zAa HB.out hb HB.out.size);replace kf:=kf.below hb kf.lt;replace ks:=ks.below hb ks.lt;clear hb;go_wp2_with fail
  go_ret;exact ⟨rfl,HB.out⟩
end Go.Proofs.YtlmdfmnbcndhoaaGreatDoor
namespace Go.Proofs.YtlmdfmnbcndhoaaGreatDoor
open Go.ChangeShapes Go.WideShapes Go.ChangeAt Go.WideElems Go.RowKit
section
variable {ZW:Type} {enc:TypeId×Value→ZW} {P:Program}
theorem zFS (hl:laidOutB P=Q) {ZR W':World} {sp':Nat→Bool} (hb:Below ZR.heap.size ZR W'):∀(ts:List TypeId) (vs:List Value) (ds:List (DataW ZW)) (ps:List MemPlace),
  (∀t∈ts,P.readableRec t=Q∧t < P.types.size)→DataW.TrodAll enc P ZR 0 (fun _=>Q) Q ts vs ds ps→(∀p∈ps,p.block < ZR.heap.size)→(∀p∈ps,sp' p.block=Q)→DataW.TrodAll enc P W' 0 sp' Q ts vs ds ps
 | [],[],[],_,_,h,_,_=>h
 | [],[],_ :: _,_,_,h,_,_=>h.elim
 | [],_ :: _,_,_,_,h,_,_=>h.elim
 | _ :: _,[],_,_,_,h,_,_=>h.elim
 | _ :: _,_ :: _,[],_,_,h,_,_=>h.elim
 | t :: ts,v :: vs,d :: ds,ps,ht,h,hlt,hsp=>by
  obtain ⟨p,q,h1,h2,rfl⟩:=h;refine ⟨p,q,?_,?_,rfl⟩
  ·exact Trod_stays hl (ht t (by simp)).1 (ht t (by simp)).2 h1 (fun x hx=>hb.same (hlt x (by simp [hx]))) (fun x hx=>hsp x (by simp [hx]))
  ·exact zFS hl hb ts vs ds q (fun t' h'=>ht t' (by simp [h'])) h2 (fun x hx=>hlt x (by simp [hx])) (fun x hx=>hsp x (by simp [hx]))
theorem zKa {f:Func} {s:ChangeSpec} {apart fresh handsOn again:Bool} {ZR W':World} {args:Array Value} {v:Value} {ds:List (DataW ZW)} {before:List MemPlace} (hl:laidOutB P=Q) (hb:Below ZR.heap.size ZR W')
  (hvs:s.vars=[]) (hfn:(s.fn ZW ds).args=ds) (hfv:(s.fn ZW ds).vars=[])
  (hts:∀t∈f.params.toList,P.readableRec t=Q∧t < P.types.size)
  (hW:DataW.Whole enc P f.params.toList s.vars apart ZR args.toList ds [] before)
  (hres:∀(b:Nat) (sp:Nat→Bool) (hd:Bool),DataW.TrodAll enc P W' b sp hd f.resultTypes.toList (v.resultList f.resultTypes.size) (s.fn ZW ds).results [])
  (hok:∀(j:Nat) (t:TypeId) (r:Value),f.resultTypes[j]? = Z t→(v.resultList f.resultTypes.size)[j]? = Z r→Value.okWide P W' .any 0 t r) :
  s.post enc P f apart fresh handsOn again ZR args v W':=by
 have hlt:=hW.lt;have bw:=hW;obtain ⟨pa,pv,hA,hV,rfl,hz,hn⟩:=bw;rw [hvs] at hV;obtain rfl:pv=[]:=hV;simp only [List.append_nil] at *;have rf:∀sp:Nat→Bool,(∀p∈pa,sp p.block=Q)→DataW.TrodAll enc P W' 0 sp Q f.params.toList args.toList (s.fn ZW (ds++[])).args pa:=fun sp hsp=>by
  rw [List.append_nil,hfn];exact zFS hl hb _ _ _ _ hts hA hlt hsp
 have oN:∀sp:Nat→Bool,DataW.TrodVars enc P W' sp s.vars (s.fn ZW (ds++[])).vars []:=fun sp=>by
  rw [List.append_nil,hfv,hvs];rfl
 refine ⟨ds,[],pa,[],pa,[],hW,by rw [List.append_nil];exact hres _ _ _,rf _ (fun p hp=>by simpa using hlt p hp),oN _,hb.frame _,fun _=>?_⟩;refine ⟨hok,_,_,([]++pa)++[],⟨[]++pa,[],trodAll_append (rf _ (fun _ _=>rfl)) (hres _ _ _),oN _,rfl,?_,?_⟩,?_⟩
 ·intro b off hp;have gI:MemPlace.cell b off∈pa:=by simpa using hp
  rw [hb.frozen (p:=⟨b,off,U⟩) (hlt _ gI)];exact hz b off gI
 ·intro ha;simpa using hn ha
 ·intro p hp _;simpa using hp
end
end Go.Proofs.YtlmdfmnbcndhoaaGreatDoor
