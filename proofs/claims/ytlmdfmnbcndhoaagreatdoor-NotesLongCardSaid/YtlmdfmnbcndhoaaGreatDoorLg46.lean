/-
  Lemmas for NotesLong, part 46: contracts and plain facts. Conditions: those that each theorem names.
-/
import Derived.Test.YtlmdfmnbcndhoaaGreatDoorLg45
import Derived.Test.YtlmdfmnbcndhoaaGreatDoorRows
import Derived.Test.YtlmdfmnbcndhoaaGreatDoorTie
import Derived.Test.YtlmdfmnbcndhoaaGreatDoorCards
import Derived.Test.YtlmdfmnbcndhoaaGreatDoorLg01
import Derived.ProofKit
import Derived.LaidMore
import Derived.OpenShut
import Derived.Stop.Joined
import Derived.SizedLaws
import Derived.Test.YtlmdfmnbcndhoaaGreatDoorLg05
import Derived.Test.YtlmdfmnbcndhoaaGreatDoorLg06
import Derived.Test.YtlmdfmnbcndhoaaGreatDoorLg02
import Derived.Lib.LaidTab
import Derived.HandedShaped
import Derived.Lay
import Derived.Stop.LaidErr
import Derived.Shelf.Vars
import Derived.Lib.SmallJoins
import Derived.Deep.Slices
import Derived.Deep.Fields
import Derived.ChangeSame
import Derived.ChangeMaps5
namespace Go.Proofs.YtlmdfmnbcndhoaaGreatDoor
open Go.RowKit
theorem zOq {F:List Fg} {re lo K:Int} {L:List Lt} (he:zBl F re lo K L=0) (hc:12 < cN L L.length / 2) :
  sqS F re lo K L=zGL F L∧slE F re lo K L=7∧slN F re lo K L=0∧rqR F re lo (zGL F L)=([],7):=by
 have h0:0 < L.length:=by have:=zHi L L.length;omega
 have e1:slE F re lo K L=7:=by unfold slE;rw [if_neg (by rw [he];simp),if_pos hc]
 refine ⟨by unfold sqS;rw [if_pos he],e1,by unfold slN;rw [if_pos (by rw [e1];simp)],(zSu (zIS.1 he) h0).1 hc⟩
set_option maxRecDepth 100000 in
set_option maxHeartbeats 12800000 in
theorem zJU (A:Option Addr) (n c:Nat) (F:List Fg) (re lo:Int) (K:Int) (B:Option Addr) (m d:Nat) (L:List Lt) (w:World) (hA:Fgs w A n F) (hc:n≤c) (hB:Lets w B m L) (_:m≤d) (ht:Tabs w) :
  Calls Tryz.prog 13 #[frV A n c re lo,.agg #[.int .i64 K,.slice B m d]] w fun e w'=>e=.returned (.bool true)∧Below w.heap.size w w':=by
 have HLN:=Lib.hid hB.len;obtain ⟨cr,hcr⟩:∃c,cN L m / 2=c:=⟨_,rfl⟩
 obtain ⟨E,hE⟩:∃E,zBl F re lo K L=E:=⟨_,rfl⟩
 have HCR:=Lib.hid hcr;have HE:=Lib.hid hE;have HA:=Lib.hid hA;have HL:=Lib.hid hB;have HT:=Lib.hid ht;have HC:=Lib.hid hc;have HB:=Lib.hid (Below.refl w.heap.size w);clear hcr hE hA hB hc ht;by_cases h60:n≤60
 ·by_cases hm80:m≤80
  ·by_cases hE0:E=0
   ·by_cases hc12:cr≤12
    ·have HS:=Lib.hid (show decide (n≤60)=true by simpa using h60);have k1:¬(80:Int) < (m:Int):=by omega
     subst hE0;have k3:(cr:Int)≤(12:Int):=by omega
     clear h60 hm80 hc12;go_enter Tryz.func13,Tryz.ntmps13;have hba:Below w.heap.size w ((w.alloc (.cells #[.slice A n c,.int .i64 re,.int .i64 lo] 24)).alloc (.cells #[.int .i64 K,.slice B m d] 55)):=((Below.refl _ _).alloc (Nat.le_refl _) _).alloc (by simp) _;replace HA:=Lib.hid (HA.out.below hba);replace HL:=Lib.hid (HL.out.below hba);replace HT:=Lib.hid (HT.out.below hba);replace HB:=Lib.hid (zAa HB.out hba HB.out.size);have kf:=(Blk.new w 24 #[.slice A n c,.int .i64 re,.int .i64 lo]).alloc (.cells #[.int .i64 K,.slice B m d] 55);have ks:Blk ((w.alloc (.cells #[.slice A n c,.int .i64 re,.int .i64 lo] 24)).alloc (.cells #[.int .i64 K,.slice B m d] 55)) (w.heap.size+1) 55 #[.int .i64 K,.slice B m d]:=heap_alloc2_new w _ _;clear hba;go_upto_region 1 with fail
     generalize (w.alloc (.cells #[.slice A n c,.int .i64 re,.int .i64 lo] 24)).alloc (.cells #[.int .i64 K,.slice B m d] 55)=X at HA HL HT HB kf ks ⊢;obtain ⟨c0,c1,c2⟩:=cQ3 kf;obtain ⟨d0,d1⟩:=cQ2 ks;go_wp2_with fail
     refine (zEi HS.out A c re lo _).mono ?_;rintro e u8 ⟨rfl,hb⟩;clear c0 c1 c2 d0 d1;replace HA:=Lib.hid (HA.out.below hb);replace HL:=Lib.hid (HL.out.below hb);replace HT:=Lib.hid (HT.out.below hb);replace HB:=Lib.hid (zAa HB.out hb HB.out.size);replace kf:=kf.below hb kf.lt;replace ks:=ks.below hb ks.lt;clear hb;obtain ⟨c0,c1,c2⟩:=cQ3 kf;obtain ⟨d0,d1⟩:=cQ2 ks;go_wp2_with fail
     refine (zIe HE.out _ HA.out HL.out).mono ?_;rintro e u9 ⟨rfl,hb⟩;clear c0 c1 c2 d0 d1;replace HA:=Lib.hid (HA.out.below hb);replace HL:=Lib.hid (HL.out.below hb);replace HT:=Lib.hid (HT.out.below hb);replace HB:=Lib.hid (zAa HB.out hb HB.out.size);replace kf:=kf.below hb kf.lt;replace ks:=ks.below hb ks.lt;clear hb;obtain ⟨c0,c1,c2⟩:=cQ3 kf;obtain ⟨d0,d1⟩:=cQ2 ks;go_wp2_with fail
     refine (zCp HCR.out _ HL.out).mono ?_;rintro e u10 ⟨rfl,hb⟩;clear c0 c1 c2 d0 d1;replace HA:=Lib.hid (HA.out.below hb);replace HL:=Lib.hid (HL.out.below hb);replace HT:=Lib.hid (HT.out.below hb);replace HB:=Lib.hid (zAa HB.out hb HB.out.size);replace kf:=kf.below hb kf.lt;replace ks:=ks.below hb ks.lt;clear hb;go_wp2_with fail
     refine (zEh _ HT.out).mono ?_;rintro e u11 ⟨rfl,hb⟩;replace HA:=Lib.hid (HA.out.below hb);replace HL:=Lib.hid (HL.out.below hb);replace HT:=Lib.hid (HT.out.below hb);replace HB:=Lib.hid (zAa HB.out hb HB.out.size);replace kf:=kf.below hb kf.lt;replace ks:=ks.below hb ks.lt;clear hb;go_wp2_with fail
     go_ret;exact ⟨rfl,HB.out⟩
    ·have HS:=Lib.hid (show decide (n≤60)=true by simpa using h60);have k1:¬(80:Int) < (m:Int):=by omega
     subst hE0;have k3:¬(cr:Int)≤(12:Int):=by omega
     obtain ⟨f1,f2,f3,f4⟩:=zOq HE.out (by rw [HLN.out,HCR.out];omega);obtain ⟨S,hS⟩:∃S,zGL F L=S:=⟨_,rfl⟩
     rw [hS] at f1 f4;have HS1:=Lib.hid f1;have HE1:=Lib.hid f2;have HN1:=Lib.hid f3;have HRQ:=Lib.hid f4;clear h60 hm80 hc12 f1 f2 f3 f4 hS;go_enter Tryz.func13,Tryz.ntmps13;have hba:Below w.heap.size w ((w.alloc (.cells #[.slice A n c,.int .i64 re,.int .i64 lo] 24)).alloc (.cells #[.int .i64 K,.slice B m d] 55)):=((Below.refl _ _).alloc (Nat.le_refl _) _).alloc (by simp) _;replace HA:=Lib.hid (HA.out.below hba);replace HL:=Lib.hid (HL.out.below hba);replace HT:=Lib.hid (HT.out.below hba);replace HB:=Lib.hid (zAa HB.out hba HB.out.size);have kf:=(Blk.new w 24 #[.slice A n c,.int .i64 re,.int .i64 lo]).alloc (.cells #[.int .i64 K,.slice B m d] 55);have ks:Blk ((w.alloc (.cells #[.slice A n c,.int .i64 re,.int .i64 lo] 24)).alloc (.cells #[.int .i64 K,.slice B m d] 55)) (w.heap.size+1) 55 #[.int .i64 K,.slice B m d]:=heap_alloc2_new w _ _;clear hba;go_upto_region 1 with fail
     generalize (w.alloc (.cells #[.slice A n c,.int .i64 re,.int .i64 lo] 24)).alloc (.cells #[.int .i64 K,.slice B m d] 55)=X at HA HL HT HB kf ks ⊢;obtain ⟨c0,c1,c2⟩:=cQ3 kf;obtain ⟨d0,d1⟩:=cQ2 ks;go_wp2_with fail
     refine (zEi HS.out A c re lo _).mono ?_;rintro e u12 ⟨rfl,hb⟩;clear c0 c1 c2 d0 d1;replace HA:=Lib.hid (HA.out.below hb);replace HL:=Lib.hid (HL.out.below hb);replace HT:=Lib.hid (HT.out.below hb);replace HB:=Lib.hid (zAa HB.out hb HB.out.size);replace kf:=kf.below hb kf.lt;replace ks:=ks.below hb ks.lt;clear hb;obtain ⟨c0,c1,c2⟩:=cQ3 kf;obtain ⟨d0,d1⟩:=cQ2 ks;go_wp2_with fail
     refine (zIe HE.out _ HA.out HL.out).mono ?_;rintro e u13 ⟨rfl,hb⟩;clear c0 c1 c2 d0 d1;replace HA:=Lib.hid (HA.out.below hb);replace HL:=Lib.hid (HL.out.below hb);replace HT:=Lib.hid (HT.out.below hb);replace HB:=Lib.hid (zAa HB.out hb HB.out.size);replace kf:=kf.below hb kf.lt;replace ks:=ks.below hb ks.lt;clear hb;obtain ⟨c0,c1,c2⟩:=cQ3 kf;obtain ⟨d0,d1⟩:=cQ2 ks;go_wp2_with fail
     refine (zCp HCR.out _ HL.out).mono ?_;rintro e u14 ⟨rfl,hb⟩;clear c0 c1 c2 d0 d1;replace HA:=Lib.hid (HA.out.below hb);replace HL:=Lib.hid (HL.out.below hb);replace HT:=Lib.hid (HT.out.below hb);replace HB:=Lib.hid (zAa HB.out hb HB.out.size);replace kf:=kf.below hb kf.lt;replace ks:=ks.below hb ks.lt;clear hb;obtain ⟨c0,c1,c2⟩:=cQ3 kf;obtain ⟨d0,d1⟩:=cQ2 ks;go_wp2_with fail
     refine (zUy HE.out HS1.out _ HA.out HC.out HL.out HT.out).mono ?_;rintro e u15 ⟨rfl,hb⟩;clear c0 c1 c2 d0 d1;replace HA:=Lib.hid (HA.out.below hb);replace HL:=Lib.hid (HL.out.below hb);replace HT:=Lib.hid (HT.out.below hb);replace HB:=Lib.hid (zAa HB.out hb HB.out.size);replace kf:=kf.below hb kf.lt;replace ks:=ks.below hb ks.lt;clear hb;obtain ⟨c0,c1,c2⟩:=cQ3 kf;obtain ⟨d0,d1⟩:=cQ2 ks;go_wp2_with fail
     refine (zSv HE1.out HN1.out _ HA.out HC.out HL.out).mono ?_;rintro e u16 ⟨rfl,hb⟩;clear c0 c1 c2 d0 d1;replace HA:=Lib.hid (HA.out.below hb);replace HL:=Lib.hid (HL.out.below hb);replace HT:=Lib.hid (HT.out.below hb);replace HB:=Lib.hid (zAa HB.out hb HB.out.size);replace kf:=kf.below hb kf.lt;replace ks:=ks.below hb ks.lt;clear hb;obtain ⟨c0,c1,c2⟩:=cQ3 kf;obtain ⟨d0,d1⟩:=cQ2 ks;go_wp2_with fail
     refine (zSw HRQ.out _ HA.out HC.out HT.out).mono ?_;rintro e u17 ⟨C5,m5,d5,Es,rfl,hEs,hm5,hO5,hb⟩;clear c0 c1 c2 d0 d1;replace HA:=Lib.hid (HA.out.below hb);replace HL:=Lib.hid (HL.out.below hb);replace HT:=Lib.hid (HT.out.below hb);replace HB:=Lib.hid (zAa HB.out hb HB.out.size);replace kf:=kf.below hb kf.lt;replace ks:=ks.below hb ks.lt;obtain rfl:m5=0:=by rw [←hO5.len];simpa using congrArg List.length hEs
     clear hb hEs hm5 hO5;go_wp2_with fail
     refine (zEh _ HT.out).mono ?_;rintro e u18 ⟨rfl,hb⟩;replace HA:=Lib.hid (HA.out.below hb);replace HL:=Lib.hid (HL.out.below hb);replace HT:=Lib.hid (HT.out.below hb);replace HB:=Lib.hid (zAa HB.out hb HB.out.size);replace kf:=kf.below hb kf.lt;replace ks:=ks.below hb ks.lt;clear hb;go_wp2_with fail
     go_ret;exact ⟨rfl,HB.out⟩
   ·have HS:=Lib.hid (show decide (n≤60)=true by simpa using h60);have k1:¬(80:Int) < (m:Int):=by omega
    have k2:(E != 0)=true:=by simpa using hE0
    clear h60 hm80 hE0;go_enter Tryz.func13,Tryz.ntmps13;have hba:Below w.heap.size w ((w.alloc (.cells #[.slice A n c,.int .i64 re,.int .i64 lo] 24)).alloc (.cells #[.int .i64 K,.slice B m d] 55)):=((Below.refl _ _).alloc (Nat.le_refl _) _).alloc (by simp) _;replace HA:=Lib.hid (HA.out.below hba);replace HL:=Lib.hid (HL.out.below hba);replace HT:=Lib.hid (HT.out.below hba);replace HB:=Lib.hid (zAa HB.out hba HB.out.size);have kf:=(Blk.new w 24 #[.slice A n c,.int .i64 re,.int .i64 lo]).alloc (.cells #[.int .i64 K,.slice B m d] 55);have ks:Blk ((w.alloc (.cells #[.slice A n c,.int .i64 re,.int .i64 lo] 24)).alloc (.cells #[.int .i64 K,.slice B m d] 55)) (w.heap.size+1) 55 #[.int .i64 K,.slice B m d]:=heap_alloc2_new w _ _;clear hba;go_upto_region 1 with fail
    generalize (w.alloc (.cells #[.slice A n c,.int .i64 re,.int .i64 lo] 24)).alloc (.cells #[.int .i64 K,.slice B m d] 55)=X at HA HL HT HB kf ks ⊢;obtain ⟨c0,c1,c2⟩:=cQ3 kf;obtain ⟨d0,d1⟩:=cQ2 ks;go_wp2_with fail
    refine (zEi HS.out A c re lo _).mono ?_;rintro e u5 ⟨rfl,hb⟩;clear c0 c1 c2 d0 d1;replace HA:=Lib.hid (HA.out.below hb);replace HL:=Lib.hid (HL.out.below hb);replace HT:=Lib.hid (HT.out.below hb);replace HB:=Lib.hid (zAa HB.out hb HB.out.size);replace kf:=kf.below hb kf.lt;replace ks:=ks.below hb ks.lt;clear hb;obtain ⟨c0,c1,c2⟩:=cQ3 kf;obtain ⟨d0,d1⟩:=cQ2 ks;go_wp2_with fail
    refine (zIe HE.out _ HA.out HL.out).mono ?_;rintro e u6 ⟨rfl,hb⟩;clear c0 c1 c2 d0 d1;replace HA:=Lib.hid (HA.out.below hb);replace HL:=Lib.hid (HL.out.below hb);replace HT:=Lib.hid (HT.out.below hb);replace HB:=Lib.hid (zAa HB.out hb HB.out.size);replace kf:=kf.below hb kf.lt;replace ks:=ks.below hb ks.lt;clear hb;go_wp2_with fail
    refine (zEh _ HT.out).mono ?_;rintro e u7 ⟨rfl,hb⟩;replace HA:=Lib.hid (HA.out.below hb);replace HL:=Lib.hid (HL.out.below hb);replace HT:=Lib.hid (HT.out.below hb);replace HB:=Lib.hid (zAa HB.out hb HB.out.size);replace kf:=kf.below hb kf.lt;replace ks:=ks.below hb ks.lt;clear hb;go_wp2_with fail
    go_ret;exact ⟨rfl,HB.out⟩
  ·have HS:=Lib.hid (show decide (n≤60)=true by simpa using h60);have k1:(80:Int) < (m:Int):=by omega
   clear h60 hm80;go_enter Tryz.func13,Tryz.ntmps13;have hba:Below w.heap.size w ((w.alloc (.cells #[.slice A n c,.int .i64 re,.int .i64 lo] 24)).alloc (.cells #[.int .i64 K,.slice B m d] 55)):=((Below.refl _ _).alloc (Nat.le_refl _) _).alloc (by simp) _;replace HA:=Lib.hid (HA.out.below hba);replace HL:=Lib.hid (HL.out.below hba);replace HT:=Lib.hid (HT.out.below hba);replace HB:=Lib.hid (zAa HB.out hba HB.out.size);have kf:=(Blk.new w 24 #[.slice A n c,.int .i64 re,.int .i64 lo]).alloc (.cells #[.int .i64 K,.slice B m d] 55);have ks:Blk ((w.alloc (.cells #[.slice A n c,.int .i64 re,.int .i64 lo] 24)).alloc (.cells #[.int .i64 K,.slice B m d] 55)) (w.heap.size+1) 55 #[.int .i64 K,.slice B m d]:=heap_alloc2_new w _ _;clear hba;go_upto_region 1 with fail
   generalize (w.alloc (.cells #[.slice A n c,.int .i64 re,.int .i64 lo] 24)).alloc (.cells #[.int .i64 K,.slice B m d] 55)=X at HA HL HT HB kf ks ⊢;obtain ⟨c0,c1,c2⟩:=cQ3 kf;obtain ⟨d0,d1⟩:=cQ2 ks;go_wp2_with fail
   refine (zEi HS.out A c re lo _).mono ?_;rintro e u3 ⟨rfl,hb⟩;clear c0 c1 c2 d0 d1;replace HA:=Lib.hid (HA.out.below hb);replace HL:=Lib.hid (HL.out.below hb);replace HT:=Lib.hid (HT.out.below hb);replace HB:=Lib.hid (zAa HB.out hb HB.out.size);replace kf:=kf.below hb kf.lt;replace ks:=ks.below hb ks.lt;clear hb;obtain ⟨c0,c1,c2⟩:=cQ3 kf;obtain ⟨d0,d1⟩:=cQ2 ks;go_wp2_with fail
   refine (zEh _ HT.out).mono ?_;rintro e u4 ⟨rfl,hb⟩;clear c0 c1 c2 d0 d1;replace HA:=Lib.hid (HA.out.below hb);replace HL:=Lib.hid (HL.out.below hb);replace HT:=Lib.hid (HT.out.below hb);replace HB:=Lib.hid (zAa HB.out hb HB.out.size);replace kf:=kf.below hb kf.lt;replace ks:=ks.below hb ks.lt;clear hb;go_wp2_with fail
   go_ret;exact ⟨rfl,HB.out⟩
 ·have HS:=Lib.hid (show decide (n≤60)=false by simpa using h60);clear h60;go_enter Tryz.func13,Tryz.ntmps13;have hba:Below w.heap.size w ((w.alloc (.cells #[.slice A n c,.int .i64 re,.int .i64 lo] 24)).alloc (.cells #[.int .i64 K,.slice B m d] 55)):=((Below.refl _ _).alloc (Nat.le_refl _) _).alloc (by simp) _;replace HA:=Lib.hid (HA.out.below hba);replace HL:=Lib.hid (HL.out.below hba);replace HT:=Lib.hid (HT.out.below hba);replace HB:=Lib.hid (zAa HB.out hba HB.out.size);have kf:=(Blk.new w 24 #[.slice A n c,.int .i64 re,.int .i64 lo]).alloc (.cells #[.int .i64 K,.slice B m d] 55);have ks:Blk ((w.alloc (.cells #[.slice A n c,.int .i64 re,.int .i64 lo] 24)).alloc (.cells #[.int .i64 K,.slice B m d] 55)) (w.heap.size+1) 55 #[.int .i64 K,.slice B m d]:=heap_alloc2_new w _ _;clear hba;go_upto_region 1 with fail
  generalize (w.alloc (.cells #[.slice A n c,.int .i64 re,.int .i64 lo] 24)).alloc (.cells #[.int .i64 K,.slice B m d] 55)=X at HA HL HT HB kf ks ⊢;obtain ⟨c0,c1,c2⟩:=cQ3 kf;obtain ⟨d0,d1⟩:=cQ2 ks;go_wp2_with fail
  refine (zEi HS.out A c re lo _).mono ?_;rintro e u1 ⟨rfl,hb⟩;clear c0 c1 c2 d0 d1;replace HA:=Lib.hid (HA.out.below hb);replace HL:=Lib.hid (HL.out.below hb);replace HT:=Lib.hid (HT.out.below hb);replace HB:=Lib.hid (zAa HB.out hb HB.out.size);replace kf:=kf.below hb kf.lt;replace ks:=ks.below hb ks.lt;clear hb;go_wp2_with fail
  refine (zEh _ HT.out).mono ?_;rintro e u2 ⟨rfl,hb⟩;replace HA:=Lib.hid (HA.out.below hb);replace HL:=Lib.hid (HL.out.below hb);replace HT:=Lib.hid (HT.out.below hb);replace HB:=Lib.hid (zAa HB.out hb HB.out.size);replace kf:=kf.below hb kf.lt;replace ks:=ks.below hb ks.lt;clear hb;go_wp2_with fail
  go_ret;exact ⟨rfl,HB.out⟩
end Go.Proofs.YtlmdfmnbcndhoaaGreatDoor
namespace Go.Proofs.YtlmdfmnbcndhoaaGreatDoor
open Go.ChangeShapes Go.WideShapes Go.ChangeAt Go.WideElems Go.RowKit
section
variable {H:Type} {enc:TypeId×Value→H} {P:Program}
theorem zFQ (hl:laidOutB P=true) {W W':World} {sp':Nat→Bool} (hb:Below W.heap.size W W'):∀(ts:List TypeId) (vs:List Value) (ds:List (DataW H)) (ps:List MemPlace),
  (∀t∈ts,P.readableRec t=true∧t < P.types.size)→DataW.TrodAll enc P W 0 (fun _=>true) true ts vs ds ps→(∀p∈ps,p.block < W.heap.size)→(∀p∈ps,sp' p.block=true)→DataW.TrodAll enc P W' 0 sp' true ts vs ds ps
 | [],[],[],_,_,h,_,_=>h
 | [],[],_ :: _,_,_,h,_,_=>h.elim
 | [],_ :: _,_,_,_,h,_,_=>h.elim
 | _ :: _,[],_,_,_,h,_,_=>h.elim
 | _ :: _,_ :: _,[],_,_,h,_,_=>h.elim
 | t :: ts,v :: vs,d :: ds,ps,ht,h,hlt,hsp=>by
  obtain ⟨p,q,h1,h2,rfl⟩:=h;refine ⟨p,q,?_,?_,rfl⟩
  ·exact Trod_stays hl (ht t (by simp)).1 (ht t (by simp)).2 h1 (fun x hx=>hb.same (hlt x (by simp [hx]))) (fun x hx=>hsp x (by simp [hx]))
  ·exact zFQ hl hb ts vs ds q (fun t' h'=>ht t' (by simp [h'])) h2 (fun x hx=>hlt x (by simp [hx])) (fun x hx=>hsp x (by simp [hx]))
theorem zJV {f:Func} {s:ChangeSpec} {apart fresh handsOn again:Bool} {W W':World} {args:Array Value} {v:Value} {ds:List (DataW H)} {before:List MemPlace} (hl:laidOutB P=true) (hb:Below W.heap.size W W')
  (hvs:s.vars=[]) (hfn:(s.fn H ds).args=ds) (hfv:(s.fn H ds).vars=[])
  (hts:∀t∈f.params.toList,P.readableRec t=true∧t < P.types.size)
  (hW:DataW.Whole enc P f.params.toList s.vars apart W args.toList ds [] before)
  (hres:∀(b:Nat) (sp:Nat→Bool) (hd:Bool),DataW.TrodAll enc P W' b sp hd f.resultTypes.toList (v.resultList f.resultTypes.size) (s.fn H ds).results [])
  (hok:∀(j:Nat) (t:TypeId) (r:Value),f.resultTypes[j]? = some t→(v.resultList f.resultTypes.size)[j]? = some r→Value.okWide P W' .any 0 t r) :
  s.post enc P f apart fresh handsOn again W args v W':=by
 have hlt:=hW.lt;have hW2:=hW;obtain ⟨pa,pv,hA,hV,rfl,hz,hn⟩:=hW2;rw [hvs] at hV;obtain rfl:pv=[]:=hV;simp only [List.append_nil] at *;have args_:∀sp:Nat→Bool,(∀p∈pa,sp p.block=true)→DataW.TrodAll enc P W' 0 sp true f.params.toList args.toList (s.fn H (ds++[])).args pa:=fun sp hsp=>by
  rw [List.append_nil,hfn];exact zFQ hl hb _ _ _ _ hts hA hlt hsp
 have vars_:∀sp:Nat→Bool,DataW.TrodVars enc P W' sp s.vars (s.fn H (ds++[])).vars []:=fun sp=>by
  rw [List.append_nil,hfv,hvs];rfl
 refine ⟨ds,[],pa,[],pa,[],hW,by rw [List.append_nil];exact hres _ _ _,args_ _ (fun p hp=>by simpa using hlt p hp),vars_ _,hb.frame _,fun _=>?_⟩;refine ⟨hok,_,_,([]++pa)++[],⟨[]++pa,[],trodAll_append (args_ _ (fun _ _=>rfl)) (hres _ _ _),vars_ _,rfl,?_,?_⟩,?_⟩
 ·intro b off hp;have hp':MemPlace.cell b off∈pa:=by simpa using hp
  rw [hb.frozen (p:=⟨b,off,none⟩) (hlt _ hp')];exact hz b off hp'
 ·intro ha;simpa using hn ha
 ·intro p hp _;simpa using hp
end
end Go.Proofs.YtlmdfmnbcndhoaaGreatDoor
namespace Go.Proofs.YtlmdfmnbcndhoaaGreatDoor
open Go.ChangeShapes Go.WideShapes Go.ChangeAt Go.WideElems Go.RowKit Go.Deep Go.Joins
set_option maxRecDepth 100000
theorem own:ownKnob Tryz.prog.godebug=none:=by kernel_rfl
theorem zSC:laidOutB Tryz.prog=true:=by kernel_rfl
theorem zSD:reachBytes=140737488351232:=by kernel_rfl
theorem zEB {H:Type} {enc:TypeId×Value→H} {a:Assume} {C:Checked} {os:Os} {f:FuncId} {fn:Func} {s:ChangeSpec} {conds:List PathCond} {apart fresh handsOn again:Bool} {X:World→Array Value→Prop}
  (hX:∀(w w':World) (args:Array Value),w.heap=w'.heap→X w args→X w' args)
  (own:ownKnob C.prog.godebug=none) (started:os.Started) (noInit:C.prog.inits.idxOf? f=none) (hfn:C.prog.funcs[f]? = some fn)
  (witness:∃(w:World) (tape:Tape) (i:Input),w.os=os∧(w.forCall tape i).Shaped C.prog∧i.vars=[]∧Input.okWide C.prog (w.forCall tape i) .any w.heap.size f i ∧
   ((s.pre enc C.prog fn conds apart (w.forCall tape i).memory i.args∧X (w.forCall tape i).memory i.args)∧sizedMet enc C.prog fn (OpenSpec.ofChange s) apart (w.forCall tape i).memory i.args)∧a.holds C.prog (lone (Frame.enter C.prog f i.args .normal) [] (w.forCall tape i)))
  (contract:∀(W:World) (base:Nat) (args:Array Value) (ds gs:List (DataW H)) (before:List MemPlace),
   (∀(j:Nat) t v,fn.params[j]? = some t→args[j]? = some v→Value.okWide C.prog W .any base t v) →
   DataW.Whole enc C.prog fn.params.toList s.vars apart W args.toList ds gs before →
   conds.all (PathCond.test C.prog ⟨fn.params.toList,ds,s.plain.varTypes C.prog,gs⟩)=true →
   (DataW.weightsEach C.prog (fn.params.toList++s.plain.varTypes C.prog) (ds++gs)).all (·≤reachBytes)=true→X W args→W.ShapedOpen C.prog →
   a.holds C.prog (lone (Frame.enter C.prog f args .normal) [] W) →
   Calls C.prog f args W fun e W'=>∃v,e=.returned v∧s.post enc C.prog fn apart fresh handsOn again W args v W') :
  ReturnsInHanded a C os f .any (fun w args=>(s.pre enc C.prog fn conds apart w args∧X w args)∧sizedMet enc C.prog fn (OpenSpec.ofChange s) apart w args) (s.post enc C.prog fn apart fresh handsOn again):=by
 refine returnsInHanded_of_calls own started noInit witness ?_;intro w tape i _ hsh _ hok hpre hholds;obtain ⟨_,_,_,fn',hfn',_,_,_,_,hval⟩:=hok;have e:fn'=fn:=Option.some.inj (hfn'.symm.trans hfn);subst e;obtain ⟨⟨⟨ds,gs,before,hw,hc⟩,hx⟩,hz⟩:=hpre;have hw':=DataW.Whole.of_heap (w':=w.forCall tape i) (by rfl) hw;refine (contract (w.forCall tape i) w.heap.size i.args ds gs before hval hw' hc (hz.weights hw) (hX _ _ _ (by rfl) hx) hsh hholds).mono fun e W' ⟨v,he,hp⟩=>?_
 subst he;exact ChangeSpec.post_blind hp
def zBu:List (String×DataW Unit):=Rows.notesBackRow.laid
theorem zEj:∀w,laidMetH Tryz.prog zBu w=laidMet Tryz.prog zBu w:=fun w=>MakeChecks.laidMetH_plain _ _ _ (by kernel_rfl)
theorem zQH (os:Os) (args:Array Value):laidMetH Tryz.prog zBu ((World.laidAll Tryz.prog os zBu).forCall (fun _ _=>0) ⟨#[],args,[]⟩).memory:=by
 rw [zEj];exact laidMet_laidAll _ (by kernel_rfl) (by kernel_rfl)
theorem zUE (os:Os):(World.laidAll Tryz.prog os zBu).Shaped Tryz.prog:=World.shaped_of_ZipB (by kernel_rfl) (by kernel_rfl)
theorem zQI:Tryz.prog.cellsOf 235=1:=by kernel_rfl
theorem zUF {W:World} (h0:laidMetH Tryz.prog zBu W) (hs:W.ShapedOpen Tryz.prog):Tabs W:=by
 have h:laidMet Tryz.prog zBu W:=by rw [←zEj];exact h0
 have h3:=h.tail.tail;refine ⟨?_,Go.Proofs.cell_of_shapedOpen_int (zero:=#[.int .i64 0]) (t:=3) hs (of_decide_eq_true (by kernel_rfl)) (by kernel_rfl) rfl (by kernel_rfl) (by kernel_rfl) Tryz.underlying3⟩;exact Lib.tabIs_of_head (g:=1) (k:=.u64) (zs:=Lib.pow10Tab) (rest:=_) (by kernel_rfl) (by kernel_rfl) Tryz.underlying242 Tryz.underlying235 zQI (by kernel_rfl) h3
theorem zNo:Tryz.prog.readableRec 24=true∧24 < Tryz.prog.types.size:=⟨by kernel_rfl,of_decide_eq_true (by kernel_rfl)⟩
theorem zQJ:Tryz.prog.readableRec 55=true∧55 < Tryz.prog.types.size:=⟨by kernel_rfl,of_decide_eq_true (by kernel_rfl)⟩
section
variable {H:Type} {enc:TypeId×Value→H} {W:World} {base:Nat} {spare:Nat→Bool} {held:Bool}
theorem zNp {t:TypeId} {fs:Array Field} {fuel:Nat} {cs:List Value} {x:DataW H×List MemPlace} (ht:Tryz.prog.underlying t=some (.struct fs)) (h:DataW.trod enc Tryz.prog W base spare held fuel t cs=some x) :
  ∃m,cs.length=Tryz.prog.cellsOf t∧∀(j:Nat) (f:Field),fs[j]? = some f→∃y,DataW.trod enc Tryz.prog W base spare held m f.type ((cs.drop f.offset).take (Tryz.prog.cellsOf f.type))=some y∧∀n∈y.1.weights Tryz.prog f.type,n∈x.1.weights Tryz.prog t:=by
 obtain ⟨xs,m,_,rfl,hl,hxl,hf⟩:=DataW.trod_struct ht h;refine ⟨m,hl,fun j f hj=>?_⟩;have h1:=hf j f hj;have hjl:j < xs.length:=by rw [hxl];exact (Array.getElem?_eq_some_iff.1 hj).1
 rw [List.getElem?_eq_getElem hjl] at h1;refine ⟨xs[j],h1,?_⟩;intro n hn;unfold DataW.weights;rw [ht];exact DataW.weights_mem_each (j:=j) (t:=f.type) (d:=(xs[j]).1) (by rw [List.getElem?_map,Array.getElem?_toList,hj];rfl) (by rw [List.getElem?_map,List.getElem?_eq_getElem hjl];rfl) n hn
theorem zFR {fuel:Nat} {cs:List Value} {x:DataW H×List MemPlace} (h:DataW.trod enc Tryz.prog W base spare held fuel 3 cs=some x):∃k:Int,I64 k∧cs=[.int .i64 k]:=by
 obtain ⟨k,e,_,w⟩:=DataW.trod_int (k:=.i64) Tryz.underlying3 h;exact ⟨k,bounds_i64 w,e⟩
theorem zQK {fuel:Nat} {cs:List Value} {x:DataW H×List MemPlace} (h:DataW.trod enc Tryz.prog W base spare held fuel 4 cs=some x):∃b:Bool,cs=[.bool b]:=by
 obtain ⟨b,e,_⟩:=DataW.trod_bool Tryz.underlying4 h;exact ⟨b,e⟩
theorem zWu {α:Type} {l:List α} (h:l.length=3):∃a b c,l=[a,b,c]:=by
 match l,h with
 | [a,b,c],_=>exact ⟨a,b,c,rfl⟩
theorem zWv {α:Type} {l:List α} (h:l.length=6):∃a b c d e f,l=[a,b,c,d,e,f]:=by
 match l,h with
 | [a,b,c,d,e,f],_=>exact ⟨a,b,c,d,e,f,rfl⟩
theorem zGF:Tryz.prog.cellsOf 90=3:=by kernel_rfl
theorem zGG:Tryz.prog.cellsOf 76=6:=by kernel_rfl
theorem zFS:Tryz.prog.cellsOf 3=1:=by kernel_rfl
theorem zIU:Tryz.prog.cellsOf 4=1:=by kernel_rfl
theorem zMk:Tryz.prog.cellsOf 74=1:=by kernel_rfl
theorem zWw {fuel:Nat} {cs:List Value} {x:DataW H×List MemPlace} (h:DataW.trod enc Tryz.prog W base spare held fuel 90 cs=some x):∃f:Fg,FgOk f∧cs=zVR f:=by
 obtain ⟨m,hl,hk⟩:=zNp Tryz.underlying90 h;rw [zGF] at hl;obtain ⟨c0,c1,c2,rfl⟩:=zWu hl;obtain ⟨y0,h0,_⟩:=hk 0 _ rfl;obtain ⟨y1,h1,_⟩:=hk 1 _ rfl;obtain ⟨y2,h2,_⟩:=hk 2 _ rfl;simp only [List.getElem_toArray,List.getElem_cons_zero,List.getElem_cons_succ,zFS,zIU] at h0 h1 h2;obtain ⟨p,hp,e0⟩:=zFR h0;obtain ⟨r,e1⟩:=zQK h1;obtain ⟨d,hd,e2⟩:=zFR h2;simp only [List.drop_zero,List.drop_succ_cons,List.take_succ_cons,List.take_zero,List.cons.injEq,and_true] at e0 e1 e2;subst e0;subst e1;subst e2
 exact ⟨⟨p,r,d⟩,⟨hp,hd⟩,rfl⟩
theorem zTa {α:Type} {t e:TypeId} {sz:Nat} {en:α→List Value} {ok:α→Prop} {fuel:Nat} {v:List Value} {y:DataW H×List MemPlace} (d0:α) (ht:Tryz.prog.underlying t=some (.slice e)) (hsz:Tryz.prog.cellsOf e=sz) (hpos:0 < sz)
  (hby:8≤Tryz.prog.bytesOf e) (hlen:∀x:α,(en x).length=sz)
  (hdec:∀(n:Nat) (cs:List Value) (z:DataW H×List MemPlace),DataW.trod enc Tryz.prog W 0 (fun _=>true) true n e cs=some z→(∀k∈z.1.weights Tryz.prog e,k∈y.1.weights Tryz.prog t)→∃x:α,ok x∧cs=en x)
  (hw:∀k∈y.1.weights Tryz.prog t,k≤reachBytes)
  (h:DataW.trod enc Tryz.prog W 0 (fun _=>true) true fuel t v=some y):∃A n c L,v=[.slice A n c]∧Els sz en W A n L∧(∀x∈L,ok x)∧n≤c∧n*Tryz.prog.bytesOf e≤140737488351232:=by
 rcases open_slice ht h with ⟨hcs,_⟩ | ⟨a,len,cap,mm,nn,D,Pl,hcs,_,hl,_,hmm,hx,hi⟩
 ·exact ⟨none,0,0,[],hcs,Els.nil _ _,by simp,Nat.le_refl _,by omega⟩
 ·simp only [if_true] at hmm;subst hmm;rw [hsz] at hi;have hwts:∀i,i < mm→∀k∈(D i).weights Tryz.prog e,k∈y.1.weights Tryz.prog t:=by
   intro i him k hk;rw [hx];unfold DataW.weights;rw [ht];simp only;refine List.mem_cons_of_mem _ ?_;have hm:∀(l:List (DataW H)) (d:DataW H),d∈l→∀k∈d.weights Tryz.prog e,k∈DataW.weightsAll Tryz.prog e l:=by
    intro l
    induction l with
    | nil=>intro d hd;simp at hd
    | cons a l ih =>
     intro d hd k hk;unfold DataW.weightsAll;rcases List.mem_cons.1 hd with rfl | hd
     ·exact List.mem_append_left _ hk
     ·exact List.mem_append_right _ (ih d hd k hk)
   rcases Nat.lt_or_ge i len with h | h
   ·exact List.mem_append_left _ (hm _ (D i) (List.mem_map.2 ⟨i,List.mem_range.2 h,rfl⟩) k hk)
   ·exact List.mem_append_right _ (hm _ (D i) (List.mem_map.2 ⟨i-len,List.mem_range.2 (by omega),by rw [show len+(i-len)=i by omega]⟩) k hk)
  have hw1:(len+(mm-len))*Tryz.prog.bytesOf e≤reachBytes:=by
   refine hw _ ?_;rw [hx];unfold DataW.weights;rw [ht];simp only [List.length_map,List.length_range,List.mem_cons,true_or]
  rw [zSD] at hw1;have hbound:len≤17592186043904:=by
   have:len*8≤(len+(mm-len))*Tryz.prog.bytesOf e:=Nat.mul_le_mul (by omega) hby;omega
  have hrec:∀i,i < mm→∃x:α,ok x∧∀q u,(en x)[q]? = some u→W.cell? ((a.add (i*sz)).add q)=some u:=by
   intro i him;obtain ⟨cs',hc,hd⟩:=hi i him;obtain ⟨x,hok,he⟩:=hdec _ _ _ hd (hwts i him);obtain ⟨_,hcl,hcell⟩:=World.cells?_some hc;refine ⟨x,hok,fun q u hq=>?_⟩;have hql:=(List.getElem?_eq_some_iff.1 hq).1;rw [hcell q (by rw [hlen] at hql;exact hql),he];exact hq
  let lf:Nat→α:=fun i=>if h:i < mm then Classical.choose (hrec i h) else d0
  have hlf:∀i,i < mm→ok (lf i)∧∀q u,(en (lf i))[q]? = some u→W.cell? ((a.add (i*sz)).add q)=some u:=by
   intro i him;have:lf i=Classical.choose (hrec i him):=dif_pos him;rw [this];exact Classical.choose_spec (hrec i him)
  clear_value lf
  refine ⟨some a,len,mm,(List.range len).map lf,hcs,⟨by simp,hbound,fun hn=>?_⟩,fun x hx=>?_,hl,Nat.le_trans (Nat.mul_le_mul_right _ (by omega)) hw1⟩
  ·have h00:=(hlf 0 (by omega)).2 0 ((en (lf 0))[0]'(by rw [hlen];omega)) (List.getElem?_eq_getElem _);have ea:(a.add (0*sz)).add 0=a:=by simp [Addr.add]
   rw [ea] at h00;have hsp:=World.cell?_spot h00;have hae:a=⟨a.block,a.off,none⟩:=by cases a;simp at hsp;subst hsp;rfl
   refine ⟨a.block,a.off,by rw [←hae],World.block_lt_of_cell? _ _ h00,fun j x hx q u hu=>?_⟩;rw [List.getElem?_map] at hx;obtain ⟨i,hi',rfl⟩:=Option.map_eq_some_iff.1 hx;have hj:j < len:=by
    have:=(List.getElem?_eq_some_iff.1 hi').1;simpa using this
   rw [List.getElem?_range hj] at hi';injection hi' with hi'
   subst hi';have hq:(a.add (j*sz)).add q=⟨a.block,a.off+j*sz+q,none⟩:=by rw [hae,Addr.add_lit,Addr.add_lit]
   rw [←hq];exact (hlf j (by omega)).2 q u hu
  ·obtain ⟨i,hi',rfl⟩:=List.mem_map.1 hx;exact (hlf i (by have:=List.mem_range.1 hi';omega)).1
theorem zWx {fuel:Nat} {cs:List Value} {x:DataW H×List MemPlace} (h:DataW.trod enc Tryz.prog W base spare held fuel 76 cs=some x):∃l:Lt,LtOk l∧cs=[.int .i64 l.kind,.int .i64 l.gate,.int .i64 l.rank,.int .i64 l.id,.int .i64 l.sign,.bool l.over]:=by
 obtain ⟨m,hl,hk⟩:=zNp Tryz.underlying76 h;rw [zGG] at hl;obtain ⟨c0,c1,c2,c3,c4,c5,rfl⟩:=zWv hl;obtain ⟨y0,h0,_⟩:=hk 0 _ rfl;obtain ⟨y1,h1,_⟩:=hk 1 _ rfl;obtain ⟨y2,h2,_⟩:=hk 2 _ rfl;obtain ⟨y3,h3,_⟩:=hk 3 _ rfl;obtain ⟨y4,h4,_⟩:=hk 4 _ rfl;obtain ⟨y5,h5,_⟩:=hk 5 _ rfl;simp only [List.getElem_toArray,List.getElem_cons_zero,List.getElem_cons_succ,zFS,zIU,zMk] at h0 h1 h2 h3 h4 h5;obtain ⟨k0,e0,_,w0⟩:=DataW.trod_int (k:=.i64) Tryz.underlying74 h0;obtain ⟨k1,w1,e1⟩:=zFR h1;obtain ⟨k2,w2,e2⟩:=zFR h2;obtain ⟨k3,w3,e3⟩:=zFR h3;obtain ⟨k4,w4,e4⟩:=zFR h4;obtain ⟨k5,e5⟩:=zQK h5;simp only [List.drop_zero,List.drop_succ_cons,List.take_succ_cons,List.take_zero,List.cons.injEq,and_true] at e0 e1 e2 e3 e4 e5;subst e0;subst e1;subst e2;subst e3;subst e4;subst e5
 exact ⟨⟨k0,k1,k2,k3,k4,k5⟩,⟨bounds_i64 w0,w1,w2,w3,w4⟩,rfl⟩
theorem zKX {ts:List TypeId} {ds:List (DataW H)} (h:(DataW.weightsEach Tryz.prog ts ds).all (·≤reachBytes)=true) {j:Nat} {t:TypeId} {d:DataW H} (ht:ts[j]? = some t) (hd:ds[j]? = some d) :
  ∀x∈d.weights Tryz.prog t,x≤reachBytes:=fun x hx=>by
 have:=List.all_eq_true.1 h x (DataW.weights_mem_each ht hd x hx);simpa using this
theorem zSE {v:Value} {d:DataW H} {ps:List MemPlace} (h:DataW.Trod enc Tryz.prog W 0 (fun _=>true) true 24 v d ps) {base:Nat} (hv:Value.okWide Tryz.prog W .any base 24 v)
  (hw:∀x∈d.weights Tryz.prog 24,x≤reachBytes):∃A n c L re lo,v=frV A n c re lo∧Fgs W A n L∧n≤c∧I64 re∧I64 lo:=by
 obtain ⟨cs,rfl,hsz⟩:=okWide_struct Tryz.underlying24 hv;obtain ⟨c0,c1,c2,rfl⟩:=array3 (hsz.trans (show Tryz.prog.cellsOf 24=3 by kernel_rfl));obtain ⟨fuel,hf⟩:=h;obtain ⟨m,_,hk⟩:=zNp Tryz.underlying24 hf;obtain ⟨y0,h0,w0⟩:=hk 0 _ rfl;obtain ⟨y1,h1,_⟩:=hk 1 _ rfl;obtain ⟨y2,h2,_⟩:=hk 2 _ rfl;simp only [List.getElem_toArray,List.getElem_cons_zero,List.getElem_cons_succ,zFS,show Tryz.prog.cellsOf 22=1 by kernel_rfl] at h0 h1 h2;obtain ⟨A,n,c,L,e0,hL,hok,hc,_⟩:=zTa (ok:=FgOk) df Tryz.underlying22 zGF (by decide) (by rw [show Tryz.prog.bytesOf 90=24 by kernel_rfl];decide) (fun _=>rfl) (fun n cs z hz _=>zWw hz) (fun k hk=>hw k (w0 k hk)) h0;obtain ⟨re,hre,e1⟩:=zFR h1;obtain ⟨lo,hlo,e2⟩:=zFR h2;simp only [Value.cells,List.drop_zero,List.drop_succ_cons,List.take_succ_cons,List.take_zero,List.cons.injEq,and_true] at e0 e1 e2;subst e0;subst e1;subst e2
 exact ⟨A,n,c,L,re,lo,rfl,⟨hL,hok⟩,hc,hre,hlo⟩
theorem zUG {v:Value} {d:DataW H} {ps:List MemPlace} (h:DataW.Trod enc Tryz.prog W 0 (fun _=>true) true 55 v d ps) {base:Nat} (hv:Value.okWide Tryz.prog W .any base 55 v)
  (hw:∀x∈d.weights Tryz.prog 55,x≤reachBytes):∃K A n c L,v=.agg #[.int .i64 K,.slice A n c]∧I64 K∧Lets W A n L∧n≤c:=by
 obtain ⟨cs,rfl,hsz⟩:=okWide_struct Tryz.underlying55 hv;obtain ⟨c0,c1,rfl⟩:=array2 (hsz.trans (show Tryz.prog.cellsOf 55=2 by kernel_rfl));obtain ⟨fuel,hf⟩:=h;obtain ⟨m,_,hk⟩:=zNp Tryz.underlying55 hf;obtain ⟨y0,h0,_⟩:=hk 0 _ rfl;obtain ⟨y1,h1,w1⟩:=hk 1 _ rfl;simp only [List.getElem_toArray,List.getElem_cons_zero,List.getElem_cons_succ,zFS,show Tryz.prog.cellsOf 53=1 by kernel_rfl] at h0 h1;obtain ⟨K,hK,e0⟩:=zFR h0;obtain ⟨A,n,c,L,e1,hL,hok,hc,hbn⟩:=zTa (en:=fun l:Lt=>[.int .i64 l.kind,.int .i64 l.gate,.int .i64 l.rank,.int .i64 l.id,.int .i64 l.sign,.bool l.over]) (ok:=LtOk) dl Tryz.underlying53 zGG (by decide) (by rw [show Tryz.prog.bytesOf 76=48 by kernel_rfl];decide) (fun _=>rfl) (fun n cs z hz _=>zWx hz) (fun k hk=>hw k (w1 k hk)) h1;simp only [Value.cells,List.drop_zero,List.drop_succ_cons,List.take_succ_cons,List.take_zero,List.cons.injEq,and_true] at e0 e1;subst e0;subst e1
 refine ⟨K,A,n,c,L,rfl,hK,⟨hL.len,by rw [show Tryz.prog.bytesOf 76=48 by kernel_rfl] at hbn;omega,hok,fun hn=>?_⟩,hc⟩;obtain ⟨g,o,e,hg,hcell⟩:=hL.2.2 hn;exact ⟨g,o,e,hg,fun j x hx=>⟨hcell j x hx 0 _ rfl,hcell j x hx 1 _ rfl,hcell j x hx 2 _ rfl,hcell j x hx 3 _ rfl,hcell j x hx 4 _ rfl,hcell j x hx 5 _ rfl⟩⟩
end
end Go.Proofs.YtlmdfmnbcndhoaaGreatDoor
