/-
  Lemmas, part 25. Conditions: each theorem's own.
-/
import Derived.Test.YtlmdfmnbcndhoaaGreatDoorRi02
namespace Go.Proofs.YtlmdfmnbcndhoaaGreatDoor
open Go.RowKit
def Dia (w:World) (p:Nat) (K:Int) (A:Option Addr) (n c:Nat) (v2 v3 v4 v5 v6:Value):Prop:=Blk w p 148 #[.int .i64 K,.slice A n c,v2,v3,v4,v5,v6]
section
variable {w w':World} {p:Nat} {K:Int} {A:Option Addr} {n c:Nat} {v2 v3 v4 v5 v6:Value}
theorem Dia.c0 (h:Dia w p K A n c v2 v3 v4 v5 v6):w.cell? ⟨p,0,none⟩=some (.int .i64 K):=by rw [Blk.cell h];rfl
theorem Dia.c1 (h:Dia w p K A n c v2 v3 v4 v5 v6):w.cell? ⟨p,1,none⟩=some (.slice A n c):=by rw [Blk.cell h];rfl
theorem Dia.c2 (h:Dia w p K A n c v2 v3 v4 v5 v6):w.cell? ⟨p,2,none⟩=some v2:=by rw [Blk.cell h];rfl
theorem Dia.c3 (h:Dia w p K A n c v2 v3 v4 v5 v6):w.cell? ⟨p,3,none⟩=some v3:=by rw [Blk.cell h];rfl
theorem Dia.c4 (h:Dia w p K A n c v2 v3 v4 v5 v6):w.cell? ⟨p,4,none⟩=some v4:=by rw [Blk.cell h];rfl
theorem Dia.c5 (h:Dia w p K A n c v2 v3 v4 v5 v6):w.cell? ⟨p,5,none⟩=some v5:=by rw [Blk.cell h];rfl
theorem Dia.c6 (h:Dia w p K A n c v2 v3 v4 v5 v6):w.cell? ⟨p,6,none⟩=some v6:=by rw [Blk.cell h];rfl
theorem Dia.lt (h:Dia w p K A n c v2 v3 v4 v5 v6):p < w.heap.size:=Blk.lt h
theorem Dia.below {B:Nat} (h:Dia w p K A n c v2 v3 v4 v5 v6) (hb:Below B w w') (hB:p < B):Dia w' p K A n c v2 v3 v4 v5 v6:=Blk.below h hb hB
theorem Dia.next (h:Dia w p K A n c v2 v3 v4 v5 v6) (hb:Below w.heap.size w w'):Dia w' p K A n c v2 v3 v4 v5 v6:=Blk.below h hb h.lt
theorem Dia.frozen (h:Dia w p K A n c v2 v3 v4 v5 v6) (i:Nat):w.frozen? ⟨p,i,none⟩=false:=Blk.frozen h i
end
set_option maxRecDepth 100000 in
set_option maxHeartbeats 1600000 in
theorem zFQ (l:Lt) (b p:Nat) (K:Int) (w:World) (hb:w.cell? ⟨b,0,none⟩=some (.pointer (some ⟨p,0,none⟩))) (hp:w.cell? ⟨p,0,none⟩=some (.int .i64 K)) :
  Calls Tryz.prog 198 #[ltV l,.pointer (some ⟨b,0,none⟩)] w fun e w'=>e=.returned (.bool (!lpB K l))∧Below w.heap.size w w':=by
 have hbb:=(Below.refl w.heap.size w).alloc (Nat.le_refl _) (.cells #[.int .i64 l.kind,.int .i64 l.gate,.int .i64 l.rank,.int .i64 l.id,.int .i64 l.sign,.bool l.over] 76);have hblt:=World.block_lt_of_cell? w _ hb;have hplt:=World.block_lt_of_cell? w _ hp;have hb':=(hbb.cell (p:=⟨b,0,none⟩) hblt).trans hb;have hp':=(hbb.cell (p:=⟨p,0,none⟩) hplt).trans hp;unfold ltV
 cases k1:(l.kind==1) with
 | true =>
  cases q1:decide (l.gate < 0) with
  | true =>
   have q1I:l.gate < 0:=by simpa using q1
   have hf:=qH (show (!lpB K l)=true by unfold lpB;rw [if_pos (show l.kind=1 by simpa using k1)];simp at q1;simp;omega);go_enter Tryz.func198,Tryz.ntmps198;go_wp2_with fail
   go_quiet (fail)
   go_wp2_with fail
   go_ret;exact ⟨zAl hf.out.symm,zAf ((Below.refl _ _).alloc (Nat.le_refl _) _) _⟩
  | false =>
   cases q2:decide (K < l.gate) with
   | true =>
    have q2I:K < l.gate:=by simpa using q2
    have hf:=qH (show (!lpB K l)=true by unfold lpB;rw [if_pos (show l.kind=1 by simpa using k1)];simp at q2;simp;omega);go_enter Tryz.func198,Tryz.ntmps198;go_wp2_with fail
    go_quiet (fail)
    go_wp2_with fail
    go_ret;exact ⟨zAl hf.out.symm,zAf ((Below.refl _ _).alloc (Nat.le_refl _) _) _⟩
   | false =>
    cases q3:(l.id != 0) with
    | true =>
     have hf:=qH (show (!lpB K l)=true by unfold lpB;rw [if_pos (show l.kind=1 by simpa using k1)];simp at q3;simp;omega);go_enter Tryz.func198,Tryz.ntmps198;go_wp2_with fail
     go_quiet (fail)
     go_wp2_with fail
     go_ret;exact ⟨zAl hf.out.symm,zAf ((Below.refl _ _).alloc (Nat.le_refl _) _) _⟩
    | false =>
     cases q4:(l.sign != 0) with
     | true =>
      have hf:=qH (show (!lpB K l)=true by unfold lpB;rw [if_pos (show l.kind=1 by simpa using k1)];simp at q4;simp;omega);go_enter Tryz.func198,Tryz.ntmps198;go_wp2_with fail
      go_quiet (fail)
      go_wp2_with fail
      go_ret;exact ⟨zAl hf.out.symm,zAf ((Below.refl _ _).alloc (Nat.le_refl _) _) _⟩
     | false =>
      cases q5:l.over with
      | true =>
       have hf:=qH (show (!lpB K l)=true by unfold lpB;rw [if_pos (show l.kind=1 by simpa using k1)];simp [q5]);go_enter Tryz.func198,Tryz.ntmps198;go_wp2_with fail
       go_quiet (fail)
       go_wp2_with fail
       go_ret;exact ⟨zAl hf.out.symm,zAf ((Below.refl _ _).alloc (Nat.le_refl _) _) _⟩
      | false =>
       have hf:=qH (show (!lpB K l)=false by unfold lpB;rw [if_pos (show l.kind=1 by simpa using k1)];simp at q1 q2 q3 q4;simp;exact ⟨by omega,by omega,by omega,by omega,q5⟩);go_enter Tryz.func198,Tryz.ntmps198;go_wp2_with fail
       go_quiet (fail)
       go_wp2_with fail
       go_ret;exact ⟨zAl hf.out.symm,zAf ((Below.refl _ _).alloc (Nat.le_refl _) _) _⟩
 | false =>
  cases k2:(l.kind==2) with
  | true =>
   cases q1:(l.gate != 0) with
   | true =>
    have hf:=qH (show (!lpB K l)=true by unfold lpB;rw [if_neg (show ¬l.kind=1 by simpa using k1),if_pos (show l.kind=2 by simpa using k2)];simp at q1;simp;omega);go_enter Tryz.func198,Tryz.ntmps198;go_wp2_with fail
    go_ret;exact ⟨zAl hf.out.symm,(Below.refl _ _).alloc (Nat.le_refl _) _⟩
   | false =>
    cases q2:(l.rank != 0) with
    | true =>
     have hf:=qH (show (!lpB K l)=true by unfold lpB;rw [if_neg (show ¬l.kind=1 by simpa using k1),if_pos (show l.kind=2 by simpa using k2)];simp at q2;simp;omega);go_enter Tryz.func198,Tryz.ntmps198;go_wp2_with fail
     go_ret;exact ⟨zAl hf.out.symm,(Below.refl _ _).alloc (Nat.le_refl _) _⟩
    | false =>
     cases q3:(l.sign != 1) with
     | false =>
      have q3':l.sign=1∨l.sign = -1:=by simp at q3;exact .inl q3
      have Q3:=qH q3';clear q3'
      have hf:=qH (show (!lpB K l)=false by unfold lpB;rw [if_neg (show ¬l.kind=1 by simpa using k1),if_pos (show l.kind=2 by simpa using k2)];have Q:=Q3.out;simp at q1 q2;simp;omega);go_enter Tryz.func198,Tryz.ntmps198;go_wp2_with fail
      go_ret;exact ⟨zAl hf.out.symm,(Below.refl _ _).alloc (Nat.le_refl _) _⟩
     | true =>
      cases q4:(l.sign != -1) with
      | false =>
       have q3':l.sign=1∨l.sign = -1:=by simp at q4;exact .inr q4
       have Q3:=qH q3';clear q3'
       have hf:=qH (show (!lpB K l)=false by unfold lpB;rw [if_neg (show ¬l.kind=1 by simpa using k1),if_pos (show l.kind=2 by simpa using k2)];have Q:=Q3.out;simp at q1 q2;simp;omega);go_enter Tryz.func198,Tryz.ntmps198;go_wp2_with fail
       go_ret;exact ⟨zAl hf.out.symm,(Below.refl _ _).alloc (Nat.le_refl _) _⟩
      | true =>
       have hf:=qH (show (!lpB K l)=true by unfold lpB;rw [if_neg (show ¬l.kind=1 by simpa using k1),if_pos (show l.kind=2 by simpa using k2)];simp at q3 q4;simp;omega);go_enter Tryz.func198,Tryz.ntmps198;go_wp2_with fail
       go_ret;exact ⟨zAl hf.out.symm,(Below.refl _ _).alloc (Nat.le_refl _) _⟩
  | false =>
   have hf:=qH (show (!lpB K l)=true by unfold lpB;rw [if_neg (show ¬l.kind=1 by simpa using k1),if_neg (show ¬l.kind=2 by simpa using k2)];rfl);go_enter Tryz.func198,Tryz.ntmps198;go_wp2_with fail
   go_ret;exact ⟨zAl hf.out.symm,(Below.refl _ _).alloc (Nat.le_refl _) _⟩
def zHv (K:Int) (L:List Lt) (i:Nat):Bool:=!lpB K (la L i)
set_option maxHeartbeats 1600000 in
theorem zFB (b p:Nat) (K:Int) (A:Option Addr) (n c:Nat) (L:List Lt) (w:World) (hA:Lets w A n L) (hb:w.cell? ⟨b,0,none⟩=some (.pointer (some ⟨p,0,none⟩))) (hp:w.cell? ⟨p,0,none⟩=some (.int .i64 K)) :
  Calls Tryz.prog 211 #[.slice A n c,.func (.func 198) #[] #[.pointer (some ⟨b,0,none⟩)]] w fun e w'=>e=.returned (.int .i64 (zFK (zHv K L) n))∧Below w.heap.size w w':=by
 have hle:=hA.le;have hblt:=World.block_lt_of_cell? w _ hb;have hplt:=World.block_lt_of_cell? w _ hp;go_enter Tryz.func211,Tryz.ntmps211;go_wp2_with fail
 go_loopw [8] (fun i wr=>∃k:Nat,k≤n∧i=.int .i64 k∧Below w.heap.size w wr∧Hid (NoneTo (zHv K L) k)) (fun i _=>n-(intOf i).toNat)
 case atStart=>exact ⟨0,Nat.zero_le _,rfl,Below.refl _ _,NoneTo.zero _⟩
 case round =>
  obtain ⟨k,hk,rfl,hbw,hno⟩:=hrel;by_cases hlt:k < n
  ·obtain ⟨g,o,rfl,hg,hx,hok⟩:=(hA.below hbw).at_ hlt;obtain ⟨h0,h1,h2,h3,h4,h5⟩:=hx;have hbr:=(hbw.cell (p:=⟨b,0,none⟩) hblt).trans hb;have hpr:=(hbw.cell (p:=⟨p,0,none⟩) hplt).trans hp
   cases hq:lpB K (la L k) with
   | true =>
    have hs:=qH (hno.out.succ (show zHv K L k=false by unfold zHv;rw [hq];rfl));have HQ:=qH hq;clear hno hq;go_wp2_with fail
    refine (zFQ (la L k) b p K _ hbr hpr).mono ?_;rintro e w1 ⟨rfl,hb1⟩;rw [HQ.out];have hbw1:=zAa hbw hb1 hbw.size;go_wp2_with fail
    go_roundw
    case rel=>exact ⟨k+1,by omega,by go_num,hbw1,hs⟩
    case measure=>simp [intOf];omega
   | false =>
    have hf:=qH (zFl (n:=n) hno.out (show zHv K L k=true by unfold zHv;rw [hq];rfl) hlt);have HQ:=qH hq;clear hno hq;go_wp2_with fail
    refine (zFQ (la L k) b p K _ hbr hpr).mono ?_;rintro e w1 ⟨rfl,hb1⟩;rw [HQ.out];have hbw1:=zAa hbw hb1 hbw.size;go_wp2_with fail
    go_ret;exact ⟨zCf hf.out.symm,hbw1⟩
  ·have hkn:k=n:=by omega
   subst hkn;go_wp2_with fail
   go_ret;exact ⟨zCf (zEc hno.out).symm,hbw⟩
set_option maxHeartbeats 400000 in
theorem zDW (b p:Nat) (K:Int) (A:Option Addr) (n c:Nat) (L:List Lt) (w:World) (hA:Lets w A n L) (hb:w.cell? ⟨b,0,none⟩=some (.pointer (some ⟨p,0,none⟩))) (hp:w.cell? ⟨p,0,none⟩=some (.int .i64 K)) :
  Calls Tryz.prog 197 #[.slice A n c,.func (.func 198) #[] #[.pointer (some ⟨b,0,none⟩)]] w fun e w'=>e=.returned (.bool (!zAz K L))∧Below w.heap.size w w':=by
 have HL:=qH hA.len
 have hf:=qH (show decide (0≤zFK (zHv K L) n) = !zAz K L by
  unfold zAz
  rw [HL.out]
  rcases zJq (zHv K L) n with ⟨h,h'⟩ | ⟨k,hk,h,_,hp⟩
  ·rw [h,zAE.2 (fun i hi=>by have:=h' i hi;unfold zHv at this;simpa using this)];rfl
  ·rw [h,zEs hk (by unfold zHv at hp;simpa using hp)];simp)
 go_enter Tryz.func197,Tryz.ntmps197;go_wp2_with fail
 refine (zFB b p K A n c L _ hA hb hp).mono ?_;rintro e w1 ⟨rfl,hb1⟩;go_wp2_with fail
 go_ret;exact ⟨zAl hf.out,hb1⟩
theorem zDc {x:Bool} (b p:Nat) (K:Int) (A:Option Addr) (n c:Nat) (L:List Lt) (w:World) (hx:zAz K L=x) (hA:Lets w A n L) (hb:w.cell? ⟨b,0,none⟩=some (.pointer (some ⟨p,0,none⟩))) (hp:w.cell? ⟨p,0,none⟩=some (.int .i64 K)) :
  Calls Tryz.prog 197 #[.slice A n c,.func (.func 198) #[] #[.pointer (some ⟨b,0,none⟩)]] w fun e w'=>e=.returned (.bool (!x))∧Below w.heap.size w w':=by
 subst hx;exact zDW b p K A n c L w hA hb hp
set_option maxHeartbeats 800000 in
theorem zHi (p:Nat) (K:Int) (A:Option Addr) (n c:Nat) (L:List Lt) (v2 v3 v4 v5 v6:Value) (w:World) (hA:Lets w A n L) (hd:Dia w p K A n c v2 v3 v4 v5 v6) :
  Calls Tryz.prog 175 #[.pointer (some ⟨p,0,none⟩)] w fun e w'=>e=.returned (.bool (zAz K L))∧Below w.heap.size w w':=by
 have hbb:=(Below.refl w.heap.size w).alloc (Nat.le_refl _) (.cells #[.pointer (some ⟨p,0,none⟩)] 143);have hc0:=(hbb.cell (p:=⟨p,0,none⟩) hd.lt).trans hd.c0;have hc1:=(hbb.cell (p:=⟨p,1,none⟩) hd.lt).trans hd.c1;have hbx:(w.alloc (.cells #[.pointer (some ⟨p,0,none⟩)] 143)).cell? ⟨w.heap.size,0,none⟩=some (.pointer (some ⟨p,0,none⟩)):=by rw [World.cell?_alloc_at _ _ _ _ rfl];rfl
 obtain ⟨x,hx⟩:∃x,zAz K L=x:=⟨_,rfl⟩
 have HX:=qH hx;rw [hx];clear hx;go_enter Tryz.func175,Tryz.ntmps175;go_wp2_with fail
 refine (zDc w.heap.size p K A n c L _ HX.out (hA.below hbb) hbx hc0).mono ?_;rintro e w1 ⟨rfl,hb1⟩;have hb2:=hbb.trans (hb1.mono (by simp));go_wp2_with fail
 go_ret;exact ⟨zAl (by simp),hb2⟩
set_option maxHeartbeats 800000 in
theorem zHZ (p:Nat) (K:Int) (A:Option Addr) (n c:Nat) (L:List Lt) (v2 v3 v4 v5 v6:Value) (w:World) (hA:Lets w A n L) (h0:0 < n) (hd:Dia w p K A n c v2 v3 v4 v5 v6) :
  Calls Tryz.prog 176 #[.pointer (some ⟨p,0,none⟩)] w fun e w'=>e=.returned (.bool (isP (la L 0)&&decide (pN L n % 2=0)))∧Below w.heap.size w w':=by
 have hc0:=hd.c0;have hc1:=hd.c1;obtain ⟨g,o,rfl,hg,hx,_⟩:=hA.at_ h0;have hz:=hx.kind;simp only [Nat.zero_mul,Nat.add_zero] at hz;by_cases hk:(la L 0).kind=1
 ·have hk1:((la L 0).kind==1)=true:=by simpa using hk
  have hf:=qH (show (isP (la L 0)&&decide (pN L n % 2=0))=((pN L n:Int) % 2==0) by rw [zJs hk];rw [Bool.eq_iff_iff];simp;omega);clear hk;go_enter Tryz.func176,Tryz.ntmps176;go_wp2_with fail
  refine (zKB K (some ⟨g,o,none⟩) n c L _ hA).mono ?_;rintro e w1 ⟨rfl,hb1⟩;go_wp2_with fail
  go_ret;exact ⟨zAl hf.out.symm,hb1⟩
 ·have hk1:((la L 0).kind==1)=false:=by simpa using hk
  have hf:=qH (show (isP (la L 0)&&decide (pN L n % 2=0))=false by rw [zKA hk];rfl);clear hk;go_enter Tryz.func176,Tryz.ntmps176;go_wp2_with fail
  go_ret;exact ⟨zAl hf.out.symm,Below.refl _ _⟩
end Go.Proofs.YtlmdfmnbcndhoaaGreatDoor
