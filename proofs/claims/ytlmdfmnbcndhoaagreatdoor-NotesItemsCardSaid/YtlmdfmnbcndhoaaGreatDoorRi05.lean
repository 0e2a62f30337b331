/-
  Lemmas, part 5. Conditions: each theorem's own.
-/
import Derived.Test.YtlmdfmnbcndhoaaGreatDoorRi04
namespace Go.Proofs.YtlmdfmnbcndhoaaGreatDoor
open Go.RowKit
abbrev frV (A:Option Addr) (n c:Nat) (re lo:Int):Value:=.agg #[.slice A n c,.int .i64 re,.int .i64 lo]
theorem zLL {k:Nat} {s:Sg} {b:Bool} (h:zAq k s=b) (A:Option Addr) (c:Nat) (re lo:Int) (w:World) :
  Calls Tryz.prog 152 #[frV A k c re lo,sgV s] w fun e w'=>e=.returned (.bool b)∧Below w.heap.size w w':=by
 subst h;exact zEe A k c re lo s w
def zSW (k:Nat) (o:Og):Prop:=1≤o.f∧o.f≤(k:Int)∧(o.kind=3∨o.path=[])
theorem zGy {k:Nat} {o:Og} (h:¬zSW k o):zAh k o=false:=by
 cases e:zAh k o with
 | false=>rfl
 | true =>
  unfold zAh at e;simp only [Bool.and_eq_true,Bool.or_eq_true,decide_eq_true_eq] at e;exact absurd ⟨e.1.1.1.1,e.1.1.1.2,e.1.1.2⟩ h
theorem zGz {k:Nat} {o:Og} {i:Nat} (hi:i < o.path.length) (h:zAq k (pa o.path i).s=false):zAh k o=false:=by
 cases e:zAh k o with
 | false=>rfl
 | true =>
  unfold zAh at e;simp only [Bool.and_eq_true,List.all_eq_true] at e;have:=e.1.2 _ (List.mem_of_getElem? (zBS hi));rw [h] at this;cases this
theorem zEf {k:Nat} {o:Og} (h:zSW k o) (hp:∀i,i < o.path.length→zAq k (pa o.path i).s=true):zAh k o=zBh k o:=by
 have hall:o.path.all (fun x=>zAq k x.s)=true:=by
  rw [List.all_eq_true];intro x hx;obtain ⟨i,hi⟩:=List.getElem?_of_mem hx;have hlt:=(List.getElem?_eq_some_iff.1 hi).1;have:=hp i hlt;have he:=zBS hlt;rw [hi] at he;injection he with he
  rw [←he] at this;exact this
 unfold zAh;have h3:(decide (o.kind=3)||decide (o.path=[]))=true:=by simpa using h.2.2
 rw [hall,h3];simp [h.1,h.2.1]
set_option maxRecDepth 100000 in
set_option maxHeartbeats 6400000 in
theorem zKI (A:Option Addr) (n c:Nat) (re lo:Int) (o:Og) (B:Option Addr) (m d:Nat) (w:World) (hO:OpIn w o B m d) :
  Calls Tryz.prog 104 #[frV A n c re lo,opV o B m d] w fun e w'=>e=.returned (.bool (!zAh n o))∧Below w.heap.size w w':=by
 have hlen:=hO.path.len;have hle:=hO.path.le;obtain ⟨kind,f,fr,path,over⟩:=o;simp only at hlen hle ⊢;have hP:Stps w B m path:=hO.path;have hb0:Below w.heap.size w ((w.alloc (.cells #[.slice A n c,.int .i64 re,.int .i64 lo] 24)).alloc (.cells #[.int .i64 kind,.int .i64 f,.int .i64 fr.f,.int .i64 fr.l,.bool fr.far,.int .i64 fr.pc,.slice B m d,.bool over] 32)):=((Below.refl _ _).alloc (Nat.le_refl _) _).alloc (by simp) _;by_cases hh:zSW n ⟨kind,f,fr,path,over⟩
 ·have HH:=qH hh;obtain ⟨h1,h2,h3⟩:=hh;simp only at h1 h2 h3;have i1:¬f < 1:=by omega
  have i2:¬(n:Int) < f:=by omega
  have hk0:=(Blk.new w 24 #[.slice A n c,.int .i64 re,.int .i64 lo]).alloc (.cells #[.int .i64 kind,.int .i64 f,.int .i64 fr.f,.int .i64 fr.l,.bool fr.far,.int .i64 fr.pc,.slice B m d,.bool over] 32);have hk1:Blk ((w.alloc (.cells #[.slice A n c,.int .i64 re,.int .i64 lo] 24)).alloc (.cells #[.int .i64 kind,.int .i64 f,.int .i64 fr.f,.int .i64 fr.l,.bool fr.far,.int .i64 fr.pc,.slice B m d,.bool over] 32)) (w.heap.size+1) 32 #[.int .i64 kind,.int .i64 f,.int .i64 fr.f,.int .i64 fr.l,.bool fr.far,.int .i64 fr.pc,.slice B m d,.bool over]:=heap_alloc2_new w _ _;have HLEN:=qH hlen;have HM:Hid (kind=3∨m=0):=qH (h3.imp id fun e=>by rw [←hlen,e];rfl);clear h1 h2 h3 hlen hO;by_cases k3:kind=3
  ·subst k3;go_enter Tryz.func104,Tryz.ntmps104;go_wp2_with fail
   generalize (w.alloc (.cells #[.slice A n c,.int .i64 re,.int .i64 lo] 24)).alloc (.cells #[.int .i64 3,.int .i64 f,.int .i64 fr.f,.int .i64 fr.l,.bool fr.far,.int .i64 fr.pc,.slice B m d,.bool over] 32)=W at hb0 hk0 hk1 ⊢;go_loopw [32] (fun v wr=>∃i:Nat,i≤m∧v=.int .i64 i∧Below W.heap.size W wr∧Hid (∀j:Nat,j < i→zAq n (pa path j).s=true)) (fun v _=>m-(intOf v).toNat)
   case atStart=>exact ⟨0,Nat.zero_le _,rfl,Below.refl _ _,qH (fun j hj=>by omega)⟩
   case round =>
    obtain ⟨i,hi,rfl,hbr,HS⟩:=hrel;have hkr:=hk0.below hbr hk0.lt;have hor:=hk1.below hbr hk1.lt;have hbw:=zAa hb0 hbr hb0.size;by_cases hlt:i < m
    ·obtain ⟨g,p,rfl,hg,⟨x0,x1,x2,x3,x4⟩,_⟩:=(hP.below hbw).at_ hlt;have j0:(0:Int)≤(i:Int):=by omega
     have j1:(i:Int) < (m:Int):=by omega
     obtain ⟨b,hb⟩:∃b,zAq n (pa path i).s=b:=⟨_,rfl⟩
     have HB:=qH hb;have HB0:=qH hb;clear hb;generalize hx:pa path i=x at x0 x1 x2 x3 x4 HB;obtain ⟨xs,xo⟩:=x;clear hx;have hk4:=hkr.alloc (.cells #[.int .i64 xs.f,.int .i64 xs.l,.bool xs.far,.int .i64 xs.pc,.bool xo] 86);have hs4:Blk (wr.alloc (.cells #[.int .i64 xs.f,.int .i64 xs.l,.bool xs.far,.int .i64 xs.pc,.bool xo] 86)) wr.heap.size 86 #[.int .i64 xs.f,.int .i64 xs.l,.bool xs.far,.int .i64 xs.pc,.bool xo]:=Blk.new _ _ _;have hb4:Below W.heap.size W (wr.alloc (.cells #[.int .i64 xs.f,.int .i64 xs.l,.bool xs.far,.int .i64 xs.pc,.bool xo] 86)):=hbr.alloc hbr.size _;have y0:=(hk4.cell 0).trans rfl;have y1:=(hk4.cell 1).trans rfl;have y2:=(hk4.cell 2).trans rfl;have z0:=(hs4.cell 0).trans rfl;have z1:=(hs4.cell 1).trans rfl;have z2:=(hs4.cell 2).trans rfl;have z3:=(hs4.cell 3).trans rfl;have HN:=qH (zLL HB.out A c re lo (wr.alloc (.cells #[.int .i64 xs.f,.int .i64 xs.l,.bool xs.far,.int .i64 xs.pc,.bool xo] 86)))
     cases b with
     | true =>
      have HS1:=qH (show ∀j:Nat,j < i+1→zAq n (pa path j).s=true from fun j hj=>by
       rcases Nat.decEq j i with e | e
       ·exact HS.out j (by omega)
       ·subst e;exact HB0.out)
      clear HS HB HB0;go_wp2_with fail
      refine HN.out.mono ?_;rintro e w5 ⟨rfl,hb5⟩;have hb6:=zAa hb4 hb5 hb4.size;clear y0 y1 y2 z0 z1 z2 z3;go_wp2_with fail
      go_roundw
      case rel=>exact ⟨i+1,by omega,by go_num,hb6,HS1⟩
      case measure=>simp [intOf];omega
     | false =>
      have hr:=qH (zGz (k:=n) (o:=⟨3,f,fr,path,over⟩) (i:=i) (by rw [show (⟨3,f,fr,path,over⟩:Og).path=path from rfl,HLEN.out];exact hlt) HB0.out);clear HS HB HB0;go_wp2_with fail
      refine HN.out.mono ?_;rintro e w5 ⟨rfl,hb5⟩;have hb6:=zAa hb4 hb5 hb4.size;clear y0 y1 y2 z0 z1 z2 z3;go_wp2_with fail
      go_ret;exact ⟨zBz (by rw [hr.out];rfl),zAa hb0 hb6 hb0.size⟩
    ·have j1:¬(i:Int) < (m:Int):=by omega
     have hrest:=zEf HH.out (fun j hj=>HS.out j (by rw [show (⟨3,f,fr,path,over⟩:Og).path=path from rfl,HLEN.out] at hj;omega));have hre:zBh n ⟨3,f,fr,path,over⟩=(!over&&zAq n fr):=by simp [zBh]
     rw [hre] at hrest;have HR:=qH hrest;have HN:=qH (zEe A n c re lo fr wr);obtain ⟨a0,a1,a2⟩:=cQ3 hkr;obtain ⟨e0,-,e2,e3,e4,e5,-,e7⟩:=cQ8 hor;clear HS hrest hre
     cases over with
     | true =>
      go_wp2_with fail
      go_ret;exact ⟨zBz (by rw [HR.out];rfl),hbw⟩
     | false =>
      go_wp2_with fail
      refine HN.out.mono ?_;rintro e w5 ⟨rfl,hb5⟩;have hb6:=zAa hbw hb5 hbw.size;go_wp2_with fail
      go_ret;exact ⟨zBz (by rw [HR.out];simp),hb6⟩
  ·have k4:(kind != 3)=true:=by simpa using k3
   have k5:¬0 < (m:Int):=by rcases HM.out with h | h;exact absurd h k3;omega
   have K3:=qH k3;clear k3;go_enter Tryz.func104,Tryz.ntmps104;go_wp2_with fail
   generalize (w.alloc (.cells #[.slice A n c,.int .i64 re,.int .i64 lo] 24)).alloc (.cells #[.int .i64 kind,.int .i64 f,.int .i64 fr.f,.int .i64 fr.l,.bool fr.far,.int .i64 fr.pc,.slice B m d,.bool over] 32)=W at hb0 hk0 hk1 ⊢;go_loopw [32] (fun v wr=>∃i:Nat,i≤m∧v=.int .i64 i∧Below W.heap.size W wr∧Hid (∀j:Nat,j < i→zAq n (pa path j).s=true)) (fun v _=>m-(intOf v).toNat)
   case atStart=>exact ⟨0,Nat.zero_le _,rfl,Below.refl _ _,qH (fun j hj=>by omega)⟩
   case round =>
    obtain ⟨i,hi,rfl,hbr,HS⟩:=hrel;have hkr:=hk0.below hbr hk0.lt;have hor:=hk1.below hbr hk1.lt;have hbw:=zAa hb0 hbr hb0.size;by_cases hlt:i < m
    ·exfalso;omega
    ·have j1:¬(i:Int) < (m:Int):=by omega
     have hrest:=zEf HH.out (fun j hj=>HS.out j (by rw [show (⟨kind,f,fr,path,over⟩:Og).path=path from rfl,HLEN.out] at hj;omega));have HR:=qH hrest;have HN:=qH (zEe A n c re lo fr wr);obtain ⟨a0,a1,a2⟩:=cQ3 hkr;obtain ⟨e0,-,e2,e3,e4,e5,-,e7⟩:=cQ8 hor;have heq:=fun w=>zUN fr s0 w
     have heq2:=fun w=>zUN fr ⟨fr.f,0,false,0⟩ w
     simp only [s0] at heq;clear HS hrest;by_cases q1:kind=1∨kind=2∨kind=8
     ·rcases q1 with rfl | rfl | rfl
      all_goals
       cases over with
       | true =>
        go_wp2_with fail
        go_ret;exact ⟨zBz (by rw [HR.out];simp [zBh]),hbw⟩
       | false =>
        go_wp2_with fail
        go_ret;exact ⟨zBz (by rw [HR.out];simp [zBh,s0]),hbw⟩
     ·by_cases q2:kind=4
      ·subst q2;clear q1;go_wp2_with fail
       go_ret;exact ⟨zBz (by rw [HR.out];simp [zBh,s0]),hbw⟩
      ·by_cases q3:kind=5
       ·subst q3;clear q1 q2;go_wp2_with fail
        refine HN.out.mono ?_;rintro e w5 ⟨rfl,hb5⟩;have hb6:=zAa hbw hb5 hbw.size;go_wp2_with fail
        go_ret;exact ⟨zBz (by rw [HR.out];simp [zBh]),hb6⟩
       ·by_cases q4:kind=6∨kind=7
        ·clear q1 q2 q3;have hkb:=fun (w5:World) (hb5:Below wr.heap.size wr w5)=>hor.below hb5 hor.lt
         obtain ⟨b,hb⟩:∃b,zAq n fr=b:=⟨_,rfl⟩
         have HN2:=qH (zLL hb A c re lo wr);have HB:=qH hb;have HKB:=qH hkb;clear HN hb hkb;rcases q4 with rfl | rfl
         all_goals
          cases b with
          | false =>
           go_wp2_with fail
           refine HN2.out.mono ?_;rintro e w5 ⟨rfl,hb5⟩;have hb6:=zAa hbw hb5 hbw.size;clear e0 e2 e3 e4 e5 e7;go_wp2_with fail
           go_ret;exact ⟨zBz (by rw [HR.out];simp [zBh,HB.out]),hb6⟩
          | true =>
           go_wp2_with fail
           refine HN2.out.mono ?_;rintro e w5 ⟨rfl,hb5⟩;have hb6:=zAa hbw hb5 hbw.size;have ho5:=HKB.out w5 hb5;clear e0 e2 e3 e4 e5 e7;obtain ⟨-,-,g2,g3,g4,g5⟩:=cQ6 ho5;go_wp2_with fail
           go_ret;exact ⟨zBz (by rw [HR.out];simp [zBh,HB.out]),hb6⟩
        ·have t1:(kind==1)=false:=by simp;omega
         have t2:(kind==2)=false:=by simp;omega
         have t3:(kind==8)=false:=by simp;omega
         have t4:(kind==4)=false:=by simp;omega
         have t5:(kind==3)=false:=by simpa using k4
         have t6:(kind==5)=false:=by simp;omega
         have t7:(kind==6)=false:=by simp;omega
         have t8:(kind==7)=false:=by simp;omega
         have hz:zBh n ⟨kind,f,fr,path,over⟩=false:=by
          unfold zBh;simp only;rw [if_neg q1,if_neg q2,if_neg K3.out,if_neg q3,if_neg q4]
         have HZ:=qH hz;clear q1 q2 q3 q4 hz;go_wp2_with fail
         go_ret;exact ⟨zBz (by rw [HR.out,HZ.out];rfl),hbw⟩
 ·have hr:=qH (zGy hh);have hh2:f < 1∨(¬f < 1∧(n:Int) < f)∨(¬f < 1∧¬(n:Int) < f∧(kind != 3)=true∧0 < (m:Int)):=by
   by_cases e1:f < 1
   ·exact .inl e1
   ·by_cases e2:(n:Int) < f
    ·exact .inr (.inl ⟨e1,e2⟩)
    ·have e3:¬(kind=3∨path=[]):=fun e=>hh ⟨by simp only;omega,by simp only;omega,e⟩
     have e4:kind≠3:=fun e=>e3 (.inl e)
     have e5:m≠0:=fun e=>e3 (.inr (List.length_eq_zero_iff.1 (by rw [hlen,e])))
     exact .inr (.inr ⟨e1,e2,by simpa using e4,by omega⟩)
  clear hh;rcases hh2 with i1 | ⟨i1,i2⟩ | ⟨i1,i2,i3,i4⟩
  all_goals
   go_enter Tryz.func104,Tryz.ntmps104;go_wp2_with fail
   go_ret;exact ⟨zBz (by rw [hr.out];rfl),hb0⟩
theorem zAr {a b T:List UInt8} (h:a++b=T) (x y:ByteArray) (hx:x=bA a) (hy:y=bA b) (ha:a.length≤1000000000) (hb:b.length≤1000000000):∀w,(Op.stringOp .add x y).run Tryz.prog w=.ok (.string (bA T)) w:=fun w=>by
 subst h;subst hx;subst hy
 rw [run_string_add_sum w (bA a) (bA b) (by rw [zAC,zAC];omega),zJw]
def nmF (L:List Fg) (f:Int):List UInt8:=zAk (fa L (f-1).toNat)
def zAL (b:Bool):List UInt8:=if b then [111,118,101,114] else [117,110,100,101,114]
def zCk (b:Bool):List UInt8:=if b then [102,97,114] else [110,101,97,114]
def zBX (L:List Fg) (s:Sg):List UInt8 :=
 nmF L s.f++[32]++zCk s.far++(if s.l=0 then [] else [32,108,111,111,112,32]++Lib.itoa s.l)++(if s.pc=0 then [] else [32,112,105,101,99,101,32]++Lib.itoa s.pc)
def zAT (k:Int):List UInt8 :=
 if k=1 then [114,101,108,101,97,115,101] else if k=2 then [110,97,118,97,104,111] else if k=3 then [112,105,99,107] else if k=4 then [116,119,105,115,116]
 else if k=5 then [116,97,107,101] else if k=6 then [116,114,97,110,115,102,101,114] else if k=7 then [101,120,99,104,97,110,103,101] else if k=8 then [100,114,111,112] else []
theorem zEw (b:Bool):(zAL b).length≤5:=by cases b<;>simp [zAL]
theorem zJA (b:Bool):(zCk b).length≤4:=by cases b<;>simp [zCk]
theorem zJB (k:Int):(zAT k).length≤8:=by
 unfold zAT
 repeat (split;· decide)
 decide
theorem zHO (b:Bool) (w:World):Calls Tryz.prog 108 #[.bool b] w fun e w'=>e=.returned (.string (bA (zAL b)))∧w'=w:=by
 cases b <;>
 ·go_enter Tryz.func108,Tryz.ntmps108;go_wp2_with fail
  go_ret;exact ⟨rfl,rfl⟩
theorem zMN (b:Bool) (w:World):Calls Tryz.prog 155 #[.bool b] w fun e w'=>e=.returned (.string (bA (zCk b)))∧w'=w:=by
 cases b <;>
 ·go_enter Tryz.func155,Tryz.ntmps155;go_wp2_with fail
  go_ret;exact ⟨rfl,rfl⟩
set_option maxHeartbeats 3200000 in
set_option maxRecDepth 100000 in
theorem zBM (k:Int) (h0:0≤k) (h8:k≤8) (w:World):Calls Tryz.prog 106 #[.int .i64 k] w fun e w'=>e=.returned (.string (bA (zAT k)))∧w'=w:=by
 have hk:k=0∨k=1∨k=2∨k=3∨k=4∨k=5∨k=6∨k=7∨k=8:=by omega
 clear h0 h8;have x0:∀w:World,(Instr.index 197 (.agg #[.string ⟨#[]⟩,.string ⟨#[114,101,108,101,97,115,101]⟩,.string ⟨#[110,97,118,97,104,111]⟩,.string ⟨#[112,105,99,107]⟩,.string ⟨#[116,119,105,115,116]⟩,.string ⟨#[116,97,107,101]⟩,.string ⟨#[116,114,97,110,115,102,101,114]⟩,.string ⟨#[101,120,99,104,97,110,103,101]⟩,.string ⟨#[100,114,111,112]⟩]) (.int .i64 0)).run Tryz.prog w=.ok (.string ⟨#[]⟩) w:=fun _=>by kernel_rfl
 have x1:∀w:World,(Instr.index 197 (.agg #[.string ⟨#[]⟩,.string ⟨#[114,101,108,101,97,115,101]⟩,.string ⟨#[110,97,118,97,104,111]⟩,.string ⟨#[112,105,99,107]⟩,.string ⟨#[116,119,105,115,116]⟩,.string ⟨#[116,97,107,101]⟩,.string ⟨#[116,114,97,110,115,102,101,114]⟩,.string ⟨#[101,120,99,104,97,110,103,101]⟩,.string ⟨#[100,114,111,112]⟩]) (.int .i64 1)).run Tryz.prog w=.ok (.string ⟨#[114,101,108,101,97,115,101]⟩) w:=fun _=>by kernel_rfl
 have x2:∀w:World,(Instr.index 197 (.agg #[.string ⟨#[]⟩,.string ⟨#[114,101,108,101,97,115,101]⟩,.string ⟨#[110,97,118,97,104,111]⟩,.string ⟨#[112,105,99,107]⟩,.string ⟨#[116,119,105,115,116]⟩,.string ⟨#[116,97,107,101]⟩,.string ⟨#[116,114,97,110,115,102,101,114]⟩,.string ⟨#[101,120,99,104,97,110,103,101]⟩,.string ⟨#[100,114,111,112]⟩]) (.int .i64 2)).run Tryz.prog w=.ok (.string ⟨#[110,97,118,97,104,111]⟩) w:=fun _=>by kernel_rfl
 have x3:∀w:World,(Instr.index 197 (.agg #[.string ⟨#[]⟩,.string ⟨#[114,101,108,101,97,115,101]⟩,.string ⟨#[110,97,118,97,104,111]⟩,.string ⟨#[112,105,99,107]⟩,.string ⟨#[116,119,105,115,116]⟩,.string ⟨#[116,97,107,101]⟩,.string ⟨#[116,114,97,110,115,102,101,114]⟩,.string ⟨#[101,120,99,104,97,110,103,101]⟩,.string ⟨#[100,114,111,112]⟩]) (.int .i64 3)).run Tryz.prog w=.ok (.string ⟨#[112,105,99,107]⟩) w:=fun _=>by kernel_rfl
 have x4:∀w:World,(Instr.index 197 (.agg #[.string ⟨#[]⟩,.string ⟨#[114,101,108,101,97,115,101]⟩,.string ⟨#[110,97,118,97,104,111]⟩,.string ⟨#[112,105,99,107]⟩,.string ⟨#[116,119,105,115,116]⟩,.string ⟨#[116,97,107,101]⟩,.string ⟨#[116,114,97,110,115,102,101,114]⟩,.string ⟨#[101,120,99,104,97,110,103,101]⟩,.string ⟨#[100,114,111,112]⟩]) (.int .i64 4)).run Tryz.prog w=.ok (.string ⟨#[116,119,105,115,116]⟩) w:=fun _=>by kernel_rfl
 have x5:∀w:World,(Instr.index 197 (.agg #[.string ⟨#[]⟩,.string ⟨#[114,101,108,101,97,115,101]⟩,.string ⟨#[110,97,118,97,104,111]⟩,.string ⟨#[112,105,99,107]⟩,.string ⟨#[116,119,105,115,116]⟩,.string ⟨#[116,97,107,101]⟩,.string ⟨#[116,114,97,110,115,102,101,114]⟩,.string ⟨#[101,120,99,104,97,110,103,101]⟩,.string ⟨#[100,114,111,112]⟩]) (.int .i64 5)).run Tryz.prog w=.ok (.string ⟨#[116,97,107,101]⟩) w:=fun _=>by kernel_rfl
 have x6:∀w:World,(Instr.index 197 (.agg #[.string ⟨#[]⟩,.string ⟨#[114,101,108,101,97,115,101]⟩,.string ⟨#[110,97,118,97,104,111]⟩,.string ⟨#[112,105,99,107]⟩,.string ⟨#[116,119,105,115,116]⟩,.string ⟨#[116,97,107,101]⟩,.string ⟨#[116,114,97,110,115,102,101,114]⟩,.string ⟨#[101,120,99,104,97,110,103,101]⟩,.string ⟨#[100,114,111,112]⟩]) (.int .i64 6)).run Tryz.prog w=.ok (.string ⟨#[116,114,97,110,115,102,101,114]⟩) w:=fun _=>by kernel_rfl
 have x7:∀w:World,(Instr.index 197 (.agg #[.string ⟨#[]⟩,.string ⟨#[114,101,108,101,97,115,101]⟩,.string ⟨#[110,97,118,97,104,111]⟩,.string ⟨#[112,105,99,107]⟩,.string ⟨#[116,119,105,115,116]⟩,.string ⟨#[116,97,107,101]⟩,.string ⟨#[116,114,97,110,115,102,101,114]⟩,.string ⟨#[101,120,99,104,97,110,103,101]⟩,.string ⟨#[100,114,111,112]⟩]) (.int .i64 7)).run Tryz.prog w=.ok (.string ⟨#[101,120,99,104,97,110,103,101]⟩) w:=fun _=>by kernel_rfl
 have x8:∀w:World,(Instr.index 197 (.agg #[.string ⟨#[]⟩,.string ⟨#[114,101,108,101,97,115,101]⟩,.string ⟨#[110,97,118,97,104,111]⟩,.string ⟨#[112,105,99,107]⟩,.string ⟨#[116,119,105,115,116]⟩,.string ⟨#[116,97,107,101]⟩,.string ⟨#[116,114,97,110,115,102,101,114]⟩,.string ⟨#[101,120,99,104,97,110,103,101]⟩,.string ⟨#[100,114,111,112]⟩]) (.int .i64 8)).run Tryz.prog w=.ok (.string ⟨#[100,114,111,112]⟩) w:=fun _=>by kernel_rfl
 rcases hk with rfl | rfl | rfl | rfl | rfl | rfl | rfl | rfl | rfl
 all_goals
  go_enter Tryz.func106,Tryz.ntmps106;go_wp2_with fail
  go_ret;exact ⟨rfl,rfl⟩
set_option maxHeartbeats 800000 in
theorem zMO (A:Option Addr) (n c:Nat) (L:List Fg) (re lo:Int) (f:Int) (w:World) (hA:Fgs w A n L) (hv:frOk L re lo) (h1:1≤f) (h2:f≤(n:Int)) :
  Calls Tryz.prog 107 #[frV A n c re lo,.int .i64 f] w fun e w'=>e=.returned (.string (bA (nmF L f)))∧Below w.heap.size w w':=by
 have hle:=hA.le;have hb0:Below w.heap.size w (w.alloc (.cells #[.slice A n c,.int .i64 re,.int .i64 lo] 24)):=(Below.refl _ _).alloc (Nat.le_refl _) _;have hA0:=hA.alloc (.cells #[.slice A n c,.int .i64 re,.int .i64 lo] 24);obtain ⟨i,hi⟩:∃i:Nat,f=(i:Int)+1:=⟨(f-1).toNat,by omega⟩
 have hin:i < n:=by omega
 obtain ⟨g,o,rfl,hg,⟨x0,x1,x2⟩,_⟩:=hA0.at_ hin;have hth:=hv.there (i:=i) (by rw [hA.len];exact hin);have hnm:nmF L f=zAk (fa L i):=by unfold nmF;rw [hi,show ((i:Int)+1-1).toNat=i by omega]
 rw [hnm];have q0:IntKind.i64.wrap (f-1)=(i:Int):=by rw [hi,show (i:Int)+1-1=(i:Int) by omega];exact IntWalk.i64_in _ (by omega)
 have q1:wrap64 (f-1)=(i:Int):=by unfold wrap64;omega
 have q2:f-1=(i:Int):=by omega
 have j0:(0:Int)≤(i:Int):=by omega
 have j1:(i:Int) < (n:Int):=by omega
 generalize fa L i=x at x0 x1 x2 hth ⊢;have HN:=qH (zJy x hth (w.alloc (.cells #[.slice (some ⟨g,o,none⟩) n c,.int .i64 re,.int .i64 lo] 24)));clear hi hnm hth hA0 hA hin h1 h2;go_enter Tryz.func107,Tryz.ntmps107;go_wp2_with fail
 refine HN.out.mono ?_;rintro e w2 ⟨rfl,hb2⟩;have hb3:=zAa hb0 hb2 hb0.size;go_wp2_with fail
 go_ret;exact ⟨rfl,hb3⟩
theorem zBq {L:List Fg} {re lo:Int} (hv:frOk L re lo) {f:Int} (h1:1≤f) (h2:f≤(L.length:Int)):(nmF L f).length≤43 :=
 zJx (zGb (hv.there (i:=(f-1).toNat) (by omega)))
theorem zOc {b:Bool} {S:List UInt8} (h:zCk b=S) (w:World):Calls Tryz.prog 155 #[.bool b] w fun e w'=>e=.returned (.string (bA S))∧w'=w:=by
 subst h;exact zMN b w
theorem zGA {b:Bool} {S:List UInt8} (h:zAL b=S) (w:World):Calls Tryz.prog 108 #[.bool b] w fun e w'=>e=.returned (.string (bA S))∧w'=w:=by
 subst h;exact zHO b w
theorem zCU {A:Option Addr} {n c:Nat} {L:List Fg} {re lo:Int} {f:Int} {S:List UInt8} (h:nmF L f=S) (w:World) (hA:Fgs w A n L) (hv:frOk L re lo) (h1:1≤f) (h2:f≤(n:Int)) :
  Calls Tryz.prog 107 #[frV A n c re lo,.int .i64 f] w fun e w'=>e=.returned (.string (bA S))∧Below w.heap.size w w':=by
 subst h;exact zMO A n c L re lo f w hA hv h1 h2
set_option maxHeartbeats 3200000 in
set_option maxRecDepth 100000 in
theorem zKJ (A:Option Addr) (n c:Nat) (L:List Fg) (re lo:Int) (s:Sg) (w:World) (hA:Fgs w A n L) (hv:frOk L re lo) (hs:zAq n s=true) (ht:Tabs w) :
  Calls Tryz.prog 109 #[frV A n c re lo,sgV s] w fun e w'=>e=.returned (.string (bA (zBX L s)))∧Below w.heap.size w w':=by
 obtain ⟨h1,h2,h3,h4,h5,h6⟩:=zAj.1 hs;have hlN:=zBq hv h1 (by rw [hA.len];exact h2);have hlS:=zJA s.far;have hiL:=zAZ (x:=s.l) ⟨by omega,by omega⟩;have hiP:=zAZ (x:=s.pc) ⟨by omega,by omega⟩;obtain ⟨f,l,far,pc⟩:=s;simp only at h1 h2 h3 h4 h5 h6 hlN hlS hiL hiP ⊢;have hf:zBX L ⟨f,l,far,pc⟩=nmF L f++[32]++zCk far++(if l=0 then [] else [32,108,111,111,112,32]++Lib.itoa l)++(if pc=0 then [] else [32,112,105,101,99,101,32]++Lib.itoa pc):=rfl;obtain ⟨NM,hNM⟩:∃NM,nmF L f=NM:=⟨_,rfl⟩
 obtain ⟨SD,hSD⟩:∃SD,zCk far=SD:=⟨_,rfl⟩
 obtain ⟨IL,hIL⟩:∃IL,Lib.itoa l=IL:=⟨_,rfl⟩
 obtain ⟨IP,hIP⟩:∃IP,Lib.itoa pc=IP:=⟨_,rfl⟩
 rw [hNM,hSD,hIL,hIP] at hf;rw [hNM] at hlN;rw [hSD] at hlS;rw [hIL] at hiL;rw [hIP] at hiP;have HF:=qH hf;have hb0:Below w.heap.size w ((w.alloc (.cells #[.slice A n c,.int .i64 re,.int .i64 lo] 24)).alloc (.cells #[.int .i64 f,.int .i64 l,.bool far,.int .i64 pc] 29)):=((Below.refl _ _).alloc (Nat.le_refl _) _).alloc (by simp) _;have hk0:=(Blk.new w 24 #[.slice A n c,.int .i64 re,.int .i64 lo]).alloc (.cells #[.int .i64 f,.int .i64 l,.bool far,.int .i64 pc] 29);have hk1:Blk ((w.alloc (.cells #[.slice A n c,.int .i64 re,.int .i64 lo] 24)).alloc (.cells #[.int .i64 f,.int .i64 l,.bool far,.int .i64 pc] 29)) (w.heap.size+1) 29 #[.int .i64 f,.int .i64 l,.bool far,.int .i64 pc]:=heap_alloc2_new w _ _;obtain ⟨T0,hT0⟩:∃T,NM++[32]=T:=⟨_,rfl⟩
 obtain ⟨T1,hT1⟩:∃T,T0++SD=T:=⟨_,rfl⟩
 obtain ⟨LP,hLP⟩:∃T,[32,108,111,111,112,32]++IL=T:=⟨_,rfl⟩
 obtain ⟨PC,hPC⟩:∃T,[32,112,105,101,99,101,32]++IP=T:=⟨_,rfl⟩
 obtain ⟨T2,hT2⟩:∃T,T1++LP=T:=⟨_,rfl⟩
 obtain ⟨T3,hT3⟩:∃T,T1++PC=T:=⟨_,rfl⟩
 obtain ⟨T4,hT4⟩:∃T,T2++PC=T:=⟨_,rfl⟩
 have l0:T0.length≤44:=by rw [←hT0];simp;omega
 have l1:T1.length≤48:=by rw [←hT1];simp;omega
 have lL:LP.length≤27:=by rw [←hLP];simp;omega
 have lP:PC.length≤28:=by rw [←hPC];simp;omega
 have l2:T2.length≤75:=by rw [←hT2];simp;omega
 have s1:=zAr hT0 (bA NM) ⟨#[32]⟩ rfl rfl (by omega) (by simp);have s2:=zAr hT1 _ _ rfl rfl (by omega) (by omega);have t1:=zAr hLP ⟨#[32,108,111,111,112,32]⟩ _ rfl rfl (by simp) (by omega);have t2:=zAr hT2 _ _ rfl rfl (by omega) (by omega);have u1:=zAr hPC ⟨#[32,112,105,101,99,101,32]⟩ _ rfl rfl (by simp) (by omega);have u2:=zAr hT3 _ _ rfl rfl (by omega) (by omega);have u3:=zAr hT4 _ _ rfl rfl (by omega) (by omega);have HT:=qH (show T1=NM++[32]++SD∧T2=T1++LP∧T3=T1++PC∧T4=T2++PC∧LP=[32,108,111,111,112,32]++IL∧PC=[32,112,105,101,99,101,32]++IP from ⟨by rw [←hT1,←hT0],hT2.symm,hT3.symm,hT4.symm,hLP.symm,hPC.symm⟩);clear hT0 hT1 hT2 hT3 hT4 hLP hPC l0 l1 lL lP l2;have HNM:=qH hNM;have HSD:=qH hSD;have HIL:=qH (show ∀w,Tabs w→Calls Tryz.prog 124 #[.int .i64 l] w fun e w'=>e=.returned (.string (bA IL))∧Below w.heap.size w w' from fun w ht=>by rw [←hIL];exact zIp l ⟨by omega,by omega⟩ w ht);have HIP:=qH (show ∀w,Tabs w→Calls Tryz.prog 124 #[.int .i64 pc] w fun e w'=>e=.returned (.string (bA IP))∧Below w.heap.size w w' from fun w ht=>by rw [←hIP];exact zIp pc ⟨by omega,by omega⟩ w ht);have H12:=qH (show 1≤f∧f≤(n:Int) from ⟨h1,h2⟩);clear hf hNM hSD hIL hIP hlN hlS hiL hiP h1 h2 h3 h4 h5 h6 hs;go_enter Tryz.func109,Tryz.ntmps109;go_wp2_with fail
 have hA0:=hA.below hb0;have ht0:=ht.below hb0;generalize (w.alloc (.cells #[.slice A n c,.int .i64 re,.int .i64 lo] 24)).alloc (.cells #[.int .i64 f,.int .i64 l,.bool far,.int .i64 pc] 29)=W at hb0 hk0 hk1 hA0 ht0 ⊢
 have KP:=qH (show ∀wx,Below W.heap.size W wx→(Below W.heap.size W wx∧wx.cell? ⟨w.heap.size,0,none⟩=some (.slice A n c)∧wx.cell? ⟨w.heap.size,1,none⟩=some (.int .i64 re)∧wx.cell? ⟨w.heap.size,2,none⟩=some (.int .i64 lo)∧wx.cell? ⟨w.heap.size+1,0,none⟩=some (.int .i64 f)∧wx.cell? ⟨w.heap.size+1,1,none⟩=some (.int .i64 l)∧wx.cell? ⟨w.heap.size+1,2,none⟩=some (.bool far)∧wx.cell? ⟨w.heap.size+1,3,none⟩=some (.int .i64 pc)) from
  fun wx h=>⟨h,((hk0.below h hk0.lt).cell 0).trans rfl,((hk0.below h hk0.lt).cell 1).trans rfl,((hk0.below h hk0.lt).cell 2).trans rfl,((hk1.below h hk1.lt).cell 0).trans rfl,((hk1.below h hk1.lt).cell 1).trans rfl,((hk1.below h hk1.lt).cell 2).trans rfl,((hk1.below h hk1.lt).cell 3).trans rfl⟩)
 first
  | go_region_held3 (fun wx=>Below W.heap.size W wx∧wx.cell? ⟨w.heap.size,0,none⟩=some (.slice A n c)∧wx.cell? ⟨w.heap.size,1,none⟩=some (.int .i64 re)∧wx.cell? ⟨w.heap.size,2,none⟩=some (.int .i64 lo)∧wx.cell? ⟨w.heap.size+1,0,none⟩=some (.int .i64 f)∧wx.cell? ⟨w.heap.size+1,1,none⟩=some (.int .i64 l)∧wx.cell? ⟨w.heap.size+1,2,none⟩=some (.bool far)∧wx.cell? ⟨w.heap.size+1,3,none⟩=some (.int .i64 pc)) (first | assumption | exact KP.out _ (Below.refl _ _).drew | exact KP.out _ (zAa (And.left (by assumption)) (by assumption) (Below.size (And.left (by assumption)))))
    (first
     | (go_at_call 107;refine (zCU HNM.out _ (hA0.below (And.left (by assumption))) hv H12.out.1 H12.out.2).mono ?_;rintro e wa ⟨rfl,hba⟩)
     | (go_at_call 155;refine (zOc HSD.out _).mono ?_;rintro e wc ⟨rfl,rfl⟩))
  | fail
 all_goals
  obtain ⟨hbx,x0,x1,x2,y0,y1,y2,y3⟩:=(show Below W.heap.size W _∧_ from by assumption);have hb2:=zAa hb0 hbx hb0.size;have htx:=ht0.below hbx;have hkx:=hk1.below hbx hk1.lt;clear x0 x1 x2 y0 y2;by_cases ql:l=0
  ·have q0:(l != 0)=false:=by simp [ql]
   by_cases qp:pc=0
   ·have q1:(pc != 0)=false:=by simp [qp]
    have HR:=qH (show bA T1=bA (zBX L ⟨f,l,far,pc⟩) by rw [HF.out,HT.out.1,if_pos ql,if_pos qp,List.append_nil,List.append_nil]);clear ql qp;go_wp2_with fail
    go_ret;exact ⟨zDl HR.out,hb2⟩
   ·have q1:(pc != 0)=true:=by simpa using qp
    have HR:=qH (show bA T3=bA (zBX L ⟨f,l,far,pc⟩) by rw [HF.out,HT.out.2.2.1,HT.out.1,HT.out.2.2.2.2.2,if_pos ql,if_neg qp,List.append_nil]);clear ql qp;go_wp2_with fail
    refine (HIP.out _ htx).mono ?_;rintro e w5 ⟨rfl,hb5⟩;have hb6:=zAa hb2 hb5 hb2.size;clear y1 y3;go_wp2_with fail
    go_ret;exact ⟨zDl HR.out,hb6⟩
  ·have q0:(l != 0)=true:=by simpa using ql
   by_cases qp:pc=0
   ·have q1:(pc != 0)=false:=by simp [qp]
    have HR:=qH (show bA T2=bA (zBX L ⟨f,l,far,pc⟩) by rw [HF.out,HT.out.2.1,HT.out.1,HT.out.2.2.2.2.1,if_neg ql,if_pos qp,List.append_nil]);clear ql qp;go_wp2_with fail
    refine (HIL.out _ htx).mono ?_;rintro e w5 ⟨rfl,hb5⟩;have hb6:=zAa hb2 hb5 hb2.size;have k3:w5.cell? ⟨w.heap.size+1,3,none⟩=some (.int .i64 pc):=((hkx.below hb5 hkx.lt).cell 3).trans rfl;clear y1 y3;go_wp2_with fail
    go_ret;exact ⟨zDl HR.out,hb6⟩
   ·have q1:(pc != 0)=true:=by simpa using qp
    have HR:=qH (show bA T4=bA (zBX L ⟨f,l,far,pc⟩) by rw [HF.out,HT.out.2.2.2.1,HT.out.2.1,HT.out.1,HT.out.2.2.2.2.1,HT.out.2.2.2.2.2,if_neg ql,if_neg qp]);clear ql qp;go_wp2_with fail
    refine (HIL.out _ htx).mono ?_;rintro e w5 ⟨rfl,hb5⟩;have hb6:=zAa hb2 hb5 hb2.size;have k3:w5.cell? ⟨w.heap.size+1,3,none⟩=some (.int .i64 pc):=((hkx.below hb5 hkx.lt).cell 3).trans rfl;have ht5:=htx.below hb5;clear y1 y3;go_wp2_with fail
    refine (HIP.out _ ht5).mono ?_;rintro e w7 ⟨rfl,hb7⟩;have hb8:=zAa hb6 hb7 hb6.size;clear k3;go_wp2_with fail
    go_ret;exact ⟨zDl HR.out,hb8⟩
end Go.Proofs.YtlmdfmnbcndhoaaGreatDoor
