/-
  Lemmas, part 13. Conditions: each theorem's own.
-/
import Derived.Test.YtlmdfmnbcndhoaaGreatDoorRc12
import Derived.Test.YtlmdfmnbcndhoaaGreatDoorRc05
import Derived.Lib.Join
import Derived.Lib.SplitLaws
open Bool renaming false→E,true→Q
open Option renaming none→U,some→Z
open Go.Value renaming bool→G,int→D,slice→H,string→W
open Go.IntKind renaming i64→J
namespace Go.Proofs.YtlmdfmnbcndhoaaGreatDoor
open Go.RowKit
noncomputable def zDE (L:List Fg) (S:List UInt8):Nat:=match zGu S with | some f=>zAM L f | none=>0
noncomputable def zKz (S:List UInt8):Bool:=(zGu S).isNone
noncomputable def zEM (L:List Fg) (S:List UInt8):Bool:=match zGu S with | some f=>decide (zAM L f=0) | none=>E
theorem zDb {a b c:World} {row:Option Nat} (h:Below a.heap.size a b) (k:b.grownBy c row):a.grownBy c row :=
 ⟨k.os.trans h.os,k.tape.trans h.tape,k.output.trans h.output,Nat.le_trans h.size k.size,fun i hi hne=>(k.block i (Nat.lt_of_lt_of_le hi h.size) hne).trans (h.block i hi)⟩
theorem zBp {w:World} {rb:Nat} (q:Nat) (u:Value):w.grownBy (w.setCell ⟨rb,q,U⟩ u) (Z rb) :=
 ⟨rfl,rfl,rfl,by simp [World.setCell],fun k _ hne=>Below.heap_setCell _ _ _ _ (fun e=>hne (by rw [e]))⟩
theorem Txts.keepAny {w w':World} {B:Option Addr} {n:Nat} {T:List (List UInt8)} {rb:Nat} (h:Txts w B n T) (hg:w.grownBy w' (Z rb)) (hne:∀k,blk B=Z k→k < rb):Txts w' B n T:=by
 refine ⟨h.len,h.le,fun h0=>?_⟩;obtain ⟨g,o,e,hb,hc⟩:=h.2.2 h0;subst e;refine ⟨g,o,rfl,Nat.lt_of_lt_of_le hb hg.size,fun j x hx q v hv=>?_⟩;rw [World.cell?_of_block (w:=w) (w':=w') (hg.block g hb (fun e=>Nat.ne_of_lt (hne g rfl) (by injection e)))];exact hc j x hx q v hv
set_option maxHeartbeats 3200000 in
theorem zFl (rb:Nat) (A:Option Addr) (n c:Nat) (L:List Fg) (re lo:Int) (T:List (List UInt8)) (bad lost:Bool) (S:List UInt8) (w:World) (h:Rd w rb A n c re lo T bad lost) (hA:Fgs w A n L) :
  Calls Tryz.prog 128 #[.pointer (Z ⟨rb,0,U⟩),W (bA S)] w fun e w'=>e=.returned (D J (zDE L S:Int))∧Rd w' rb A n c re lo T (bad||zKz S) (lost||zEM L S)∧w.grownBy w' (Z rb):=by
 obtain ⟨B,m,d,hk,hT,hmd,hne⟩:=h.ex;have mo:=zED S w
 cases hp:zGu S with
 | none =>
  rw [hp] at mo;have iN:Hid (Calls Tryz.prog 166 #[W (bA S)] w fun e w'=>e=.returned (.tuple #[.agg #[D J 0,G E,D J 0],D J 6])∧Below w.heap.size w w'):=qH mo;have HR:=qH (show zDE L S=0∧zKz S=Q∧zEM L S=E by unfold zDE zKz zEM;rw [hp];exact ⟨rfl,rfl,rfl⟩);clear mo hp h hA;go_enter Tryz.func128,Tryz.ntmps128;go_wp2_with fail
  refine iN.out.mono ?_;rintro e w2 ⟨rfl,ab⟩;have hk2:=hk.below ab hk.lt;have be:=hk2.alloc (.cells #[D J 0,G E,D J 0] 90);have ac:Below w.heap.size w (w2.alloc (.cells #[D J 0,G E,D J 0] 90)):=ab.alloc ab.size _;have c4:(w2.alloc (.cells #[D J 0,G E,D J 0] 90)).cell? ⟨rb,4,U⟩=Z (G bad):=(be.cell 4).trans rfl;have z4:=be.frozen 4;have HS:=qH (be.set_ 4 (G Q));clear iN ab hk2;go_wp2_with fail
  go_ret;refine ⟨zGC (by rw [HR.out.1];rfl),?_,zDb ac (zBp _ _)⟩;rw [HR.out.2.1,HR.out.2.2,Bool.or_true,Bool.or_false];exact ⟨B,m,d,by simpa using HS.out,Txts.keepAny (Els.below hT ac) (zBp _ _) hne,hmd,hne⟩
 | some f =>
  rw [hp] at mo;have iN:Hid (Calls Tryz.prog 166 #[W (bA S)] w fun e w'=>e=.returned (.tuple #[fgV f,D J 0])∧Below w.heap.size w w'):=qH mo;obtain ⟨ix,hix⟩:∃ix,zAM L f=ix:=⟨_,rfl⟩
  have HR:=qH (show zDE L S=ix∧zKz S=E∧zEM L S=decide (ix=0) by unfold zDE zKz zEM;rw [hp];exact ⟨hix,rfl,by simp only [hix]⟩);have pH:=qH (fun wx (eq:Fgs wx A n L)=>zNy A n c L re lo f wx eq);clear mo hp h;go_enter Tryz.func128,Tryz.ntmps128;go_wp2_with fail
  refine iN.out.mono ?_;rintro e w2 ⟨rfl,ab⟩;have dn:=hA.below ab;have hk2:=hk.below ab hk.lt;have be:=hk2.alloc (.cells #[D J f.p,G f.r,D J f.d] 90);have rH:Blk (w2.alloc (.cells #[D J f.p,G f.r,D J f.d] 90)) w2.heap.size 90 #[D J f.p,G f.r,D J f.d]:=Blk.new _ _ _;have tX:=dn.alloc (.cells #[D J f.p,G f.r,D J f.d] 90);have ac:Below w.heap.size w (w2.alloc (.cells #[D J f.p,G f.r,D J f.d] 90)):=ab.alloc ab.size _;clear ab hk2 dn hA;go_wp2_with fail
  generalize w2.alloc (.cells #[D J f.p,G f.r,D J f.d] 90)=Y at be rH tX ac ⊢
  have KP:=qH (show ∀wx,Below Y.heap.size Y wx→(Below Y.heap.size Y wx∧wx.cell? ⟨rb,0,U⟩=Z (H A n c)∧wx.cell? ⟨rb,1,U⟩=Z (D J re)∧wx.cell? ⟨rb,2,U⟩=Z (D J lo)∧wx.cell? ⟨w2.heap.size,0,U⟩=Z (D J f.p)∧wx.cell? ⟨w2.heap.size,1,U⟩=Z (G f.r)∧wx.cell? ⟨w2.heap.size,2,U⟩=Z (D J f.d)) from
   fun wx h=>⟨h,((be.below h be.lt).cell 0).trans rfl,((be.below h be.lt).cell 1).trans rfl,((be.below h be.lt).cell 2).trans rfl,((rH.below h rH.lt).cell 0).trans rfl,((rH.below h rH.lt).cell 1).trans rfl,((rH.below h rH.lt).cell 2).trans rfl⟩)
  first
   | go_region_held3 (fun wx=>Below Y.heap.size Y wx∧wx.cell? ⟨rb,0,U⟩=Z (H A n c)∧wx.cell? ⟨rb,1,U⟩=Z (D J re)∧wx.cell? ⟨rb,2,U⟩=Z (D J lo)∧wx.cell? ⟨w2.heap.size,0,U⟩=Z (D J f.p)∧wx.cell? ⟨w2.heap.size,1,U⟩=Z (G f.r)∧wx.cell? ⟨w2.heap.size,2,U⟩=Z (D J f.d)) (first | assumption | exact KP.out _ (Below.refl _ _).drew | exact KP.out _ (zAa (And.left (by assumption)) (by assumption) (Below.size (And.left (by assumption)))))
     (first
      | (go_at_call 167;refine (pH.out _ (tX.below (And.left (by assumption)))).mono ?_;rintro e wa ⟨rfl,hba⟩))
   | fail
  all_goals
   have hbf:=And.left (show Below Y.heap.size Y _∧_ from by assumption);have hka:=be.below hbf be.lt;have hbw:=zAa ac hbf ac.size;have c5:wa.cell? ⟨rb,5,U⟩=Z (G lost):=(hka.cell 5).trans rfl;have z5:=hka.frozen 5;have HKA:=qH (fun u=>hka.set_ 5 u);have fin:∀b:Bool,b=(lost||decide (ix=0))→Rd (wa.setCell ⟨rb,5,U⟩ (G b)) rb A n c re lo T (bad||zKz S) (lost||zEM L S)∧w.grownBy (wa.setCell ⟨rb,5,U⟩ (G b)) (Z rb):=fun b hb=>by
    refine ⟨⟨B,m,d,?_,Txts.keepAny (Els.below hT hbw) (zBp _ _) hne,hmd,hne⟩,zDb hbw (zBp _ _)⟩;rw [HR.out.2.1,HR.out.2.2,Bool.or_false,←hb];simpa using HKA.out (G b)
   have vk:=qH fin;have ut:=qH (show zDE L S=ix from HR.out.1);clear hka be rH tX ac hbf hbw hix fin pH iN KP
   cases lost with
   | true =>
    go_wp2_with fail
    go_ret;exact ⟨zGC (by rw [ut.out]),vk.out Q (by simp)⟩
   | false =>
    by_cases h0:ix=0
    ·have k0:((ix:Int)==0)=Q:=by simp;omega
     subst h0;clear k0;go_wp2_with fail
     go_ret;exact ⟨zGC (by rw [ut.out];rfl),vk.out Q (by simp)⟩
    ·have k0:((ix:Int)==0)=E:=by simp;omega
     have FF:=qH (vk.out E (by simp [h0]));clear h0;go_wp2_with fail
     go_ret;exact ⟨zGC (by rw [ut.out]),FF.out⟩
end Go.Proofs.YtlmdfmnbcndhoaaGreatDoor
namespace Go.Proofs.YtlmdfmnbcndhoaaGreatDoor
open Go.RowKit
def ovT (S:List UInt8):Bool:=S==[111,118,101,114]
def unT (S:List UInt8):Bool:=S==[117,110,100,101,114]
theorem zAH (S l:List UInt8):((bA S).toList==l)=(S==l):=by rw [zAD]
set_option maxHeartbeats 3200000 in
theorem zLJ (rb:Nat) (A:Option Addr) (n c:Nat) (re lo:Int) (T:List (List UInt8)) (bad lost:Bool) (w:World) (h:Rd w rb A n c re lo T bad lost) :
  Calls Tryz.prog 147 #[.pointer (Z ⟨rb,0,U⟩)] w fun e w'=>e=.returned (G (ovT (xa T 0)))∧Rd w' rb A n c re lo T.tail ((bad||T.isEmpty)||!(ovT (xa T 0)||unT (xa T 0))) lost∧w.grownBy w' (Z rb):=by
 have HN:=qH (zHr rb A n c re lo T bad lost w h);clear h;have n1:=zAH (xa T 0) [111,118,101,114];have n2:=zAH (xa T 0) [117,110,100,101,114];obtain ⟨b1,ah⟩:∃b,ovT (xa T 0)=b:=⟨_,rfl⟩
 obtain ⟨b2,ab⟩:∃b,unT (xa T 0)=b:=⟨_,rfl⟩
 obtain ⟨b0,aa⟩:∃b,(bad||T.isEmpty)=b:=⟨_,rfl⟩
 rw [show (xa T 0==[111,118,101,114])=b1 from ah] at n1;rw [show (xa T 0==[117,110,100,101,114])=b2 from ab] at n2;rw [aa] at HN;rw [aa,ah,ab];generalize xa T 0=S at n1 n2 HN;clear aa ah ab;have fin:∀(w2:World),Rd w2 rb A n c re lo T.tail b0 lost→w.grownBy w2 (Z rb)→∃B m d,Blk w2 rb 123 (rdC A n c re lo B m d b0 lost)∧∀b:Bool,b=(b0||!(b1||b2))→Rd (w2.setCell ⟨rb,4,U⟩ (G b)) rb A n c re lo T.tail (b0||!(b1||b2)) lost∧w.grownBy (w2.setCell ⟨rb,4,U⟩ (G b)) (Z rb):=fun w2 h2 bG=>by
  obtain ⟨B,m,d,hk,hT,hmd,hne⟩:=h2.ex;refine ⟨B,m,d,hk,fun b hb=>⟨⟨B,m,d,?_,Txts.keepAny hT (zBp _ _) hne,hmd,hne⟩,zAb bG (zBp _ _)⟩⟩;rw [←hb];simpa using hk.set_ 4 (G b)
 have vk:=qH fin;clear fin;go_enter Tryz.func147,Tryz.ntmps147;go_wp2_with fail
 refine HN.out.mono ?_;rintro e w2 ⟨rfl,h2,bG⟩;obtain ⟨B,m,d,hk,hfin⟩:=vk.out w2 h2 bG;have DD:=qH hfin;have c4:w2.cell? ⟨rb,4,U⟩=Z (G b0):=(hk.cell 4).trans rfl;have z4:=hk.frozen 4;clear h2 bG hfin hk HN vk
 cases b0<;>cases b1<;>cases b2
 all_goals
  go_wp2_with fail
  go_ret;exact ⟨rfl,DD.out _ rfl⟩
end Go.Proofs.YtlmdfmnbcndhoaaGreatDoor
namespace Go.Proofs.YtlmdfmnbcndhoaaGreatDoor
open Go.RowKit
theorem zCg (S:List UInt8) (i j:Nat):(bA S).extract i j=bA ((S.take j).drop i):=by
 apply ByteArray.ext;apply Array.ext';simp [bA,List.drop_take]
theorem zDc (x:UInt8) (S:List UInt8) (w:World):(Instr.index 9 (W (bA (x :: S))) (D J 0)).run Tryz.prog w=.ok (D .u8 x.toNat) w:=by
 rw [run_index_string w 9 (bA (x :: S)) J 0 Tryz.underlying9,dif_pos (by rw [zAP];simp)];rfl
theorem zGN (x:UInt8) (S:List UInt8) (w:World):(Instr.slice 9 (W (bA (x :: S))) (Z (D J 1)) U U).run Tryz.prog w=.ok (W (bA S)) w:=by
 rw [run_slice_string_l w 9 (bA (x :: S)) Tryz.underlying9 J 1 (by omega) (by rw [zAP];simp;omega),zCg,zAP];simp
theorem zUp (x y:UInt8) (S:List UInt8) (w:World):(Instr.slice 9 (W (bA (x :: y :: S))) U (Z (D J 2)) U).run Tryz.prog w=.ok (W (bA [x,y])) w:=by
 rw [run_slice_string_h w 9 (bA (x :: y :: S)) Tryz.underlying9 J 2 (by omega) (by rw [zAP];simp;omega),zCg];simp
theorem zLK (x y:UInt8) (S:List UInt8) (w:World):(Instr.slice 9 (W (bA (x :: y :: S))) (Z (D J 2)) U U).run Tryz.prog w=.ok (W (bA S)) w:=by
 rw [run_slice_string_l w 9 (bA (x :: y :: S)) Tryz.underlying9 J 2 (by omega) (by rw [zAP];simp;omega),zCg,zAP];simp
end Go.Proofs.YtlmdfmnbcndhoaaGreatDoor
namespace Go.Proofs.YtlmdfmnbcndhoaaGreatDoor
open Go.RowKit
def zGF:List UInt8→Bool×List UInt8×Bool
 | []=>(E,[],E)
 | x :: r=>if x=111 then (Q,r,Q) else if x=117 then (E,r,Q) else (E,x :: r,E)
set_option maxHeartbeats 1600000 in
theorem zEj (S:List UInt8) (w:World) :
  Calls Tryz.prog 163 #[W (bA S)] w fun e w'=>e=.returned (.tuple #[G (zGF S).1,W (bA (zGF S).2.1),G (zGF S).2.2])∧Below w.heap.size w w':=by
 have n0:=zAH S []
 cases S with
 | nil =>
  have hr:=qH (show zGF []=(E,[],E) from rfl);rw [show (([]:List UInt8)==[])=Q from rfl] at n0;rw [hr.out];go_enter Tryz.func163,Tryz.ntmps163;go_wp2_with fail
  go_ret3
  exact ⟨rfl,Below.refl _ _⟩
 | cons x r =>
  have s1:=zDc x r;have s2:=zGN x r;rw [show (x :: r==([]:List UInt8))=E from rfl] at n0;by_cases h1:x=111
  ·subst h1;have hr:=qH (show zGF (111 :: r)=(Q,r,Q) from rfl);rw [hr.out];rw [show (((111:UInt8).toNat:Nat):Int)=111 from rfl] at s1;go_enter Tryz.func163,Tryz.ntmps163;go_wp2_with fail
   go_quiet (fail)
   go_wp2_with fail
   go_ret3
   exact ⟨rfl,zAe (Below.refl _ _) _⟩
  ·by_cases h2:x=117
   ·subst h2;have hr:=qH (show zGF (117 :: r)=(E,r,Q) from rfl);rw [hr.out];rw [show (((117:UInt8).toNat:Nat):Int)=117 from rfl] at s1;go_enter Tryz.func163,Tryz.ntmps163;go_wp2_with fail
    go_quiet (fail)
    go_wp2_with fail
    go_ret3
    exact ⟨rfl,zAe (Below.refl _ _) _⟩
   ·have hr:=qH (show zGF (x :: r)=(E,x :: r,E) by simp only [zGF];rw [if_neg h1,if_neg h2]);have k1:((x.toNat:Int) != 111)=Q:=by
     simp only [bne_iff_ne,ne_eq];intro e;exact h1 (UInt8.toNat.inj (show x.toNat=111 by omega))
    have k2:((x.toNat:Int) != 117)=Q:=by
     simp only [bne_iff_ne,ne_eq];intro e;exact h2 (UInt8.toNat.inj (show x.toNat=117 by omega))
    rw [hr.out];clear h1 h2;go_enter Tryz.func163,Tryz.ntmps163;go_wp2_with fail
    go_ret3
    exact ⟨rfl,Below.refl _ _⟩
end Go.Proofs.YtlmdfmnbcndhoaaGreatDoor
namespace Go.Proofs.YtlmdfmnbcndhoaaGreatDoor
open Go.RowKit
noncomputable def zFL (S:List UInt8):Option (Fg×List UInt8) :=
 match S with
 | x :: y :: r=>match zGu [x,y] with
  | some f=>if f.p=1 then Z (f,r) else U
  | none=>U
 | _=>U
theorem zCU (S:List UInt8):(bA S).size=S.length:=zAP S
theorem Rd.below {w w':World} {rb:Nat} {A:Option Addr} {n c:Nat} {re lo:Int} {T:List (List UInt8)} {bad lost:Bool} (h:Rd w rb A n c re lo T bad lost) (hb:Below w.heap.size w w'):Rd w' rb A n c re lo T bad lost:=by
 obtain ⟨B,m,d,hk,hT,hmd,hne⟩:=h.ex;exact ⟨B,m,d,hk.below hb hk.lt,Els.below hT hb,hmd,hne⟩
theorem zAv {w w':World} {row:Option Nat} (h:Below w.heap.size w w'):w.grownBy w' row:=zDb h (zBu _ _)
theorem Fgs.keepBlk {w w':World} {A:Option Addr} {n:Nat} {L:List Fg} {rb:Nat} (h:Fgs w A n L) (hg:w.grownBy w' (Z rb)) (hne:∀k,blk A=Z k→k≠rb):Fgs w' A n L:=by
 refine ⟨⟨h.len,h.le,fun h0=>?_⟩,h.2⟩;obtain ⟨g,o,e,hb,hc⟩:=h.1.2.2 h0;subst e;refine ⟨g,o,rfl,Nat.lt_of_lt_of_le hb hg.size,fun j x hx q v hv=>?_⟩;rw [World.cell?_of_block (w:=w) (w':=w') (hg.block g hb (fun e=>hne g rfl (by injection e)))];exact hc j x hx q v hv
theorem Fgs.keepR {w w':World} {A:Option Addr} {n:Nat} {L:List Fg} {rb:Nat} (h:Fgs w A n L) (hg:w.grownBy w' (Z rb)) (hne:0 < n→∀k,blk A=Z k→k < rb):Fgs w' A n L:=by
 by_cases h0:0 < n
 ·exact h.keepBlk hg (fun k hk=>Nat.ne_of_lt (hne h0 k hk))
 ·exact ⟨⟨h.1.1,h.1.2.1,fun h1=>absurd h1 h0⟩,h.2⟩
def RdS (Y:World) (rb:Nat) (A:Option Addr) (n c:Nat) (L:List Fg) (re lo:Int) (T:List (List UInt8)) (bad lost q:Bool) (wx:World):Prop :=
 Y.grownBy wx (Z rb)∧Fgs wx A n L∧∃l,Rd wx rb A n c re lo T bad l∧(l=lost∨l=(lost||q))
set_option maxHeartbeats 3200000 in
theorem zNJ (rb:Nat) (A:Option Addr) (n c:Nat) (L:List Fg) (re lo:Int) (T:List (List UInt8)) (bad lost:Bool) (S:List UInt8) (w:World) (h:Rd w rb A n c re lo T bad lost) (hA:Fgs w A n L) (dM:0 < n→∀k,blk A=Z k→k < rb) :
  Calls Tryz.prog 160 #[.pointer (Z ⟨rb,0,U⟩),W (bA S)] w fun e w' =>
   (match zFL S with
    | some (f,r)=>e=.returned (.tuple #[D J (zAM L f:Int),W (bA r),G Q])∧Rd w' rb A n c re lo T bad (lost||decide (zAM L f=0))
    | none=>e=.returned (.tuple #[D J 0,W (bA S),G E])∧Rd w' rb A n c re lo T bad lost)∧w.grownBy w' (Z rb):=by
 by_cases h2:S.length < 2
 ·have hr:zFL S=U:=by
   match S,h2 with
   | [],_=>rfl
   | [x],_=>rfl
  rw [hr];have hs:=zCU S;have i0:(S.length:Int) < 2:=by omega
  go_enter Tryz.func160,Tryz.ntmps160;go_wp2_with fail
  go_ret3
  exact ⟨⟨rfl,h⟩,zBu _ _⟩
 ·obtain ⟨x,y,r,rfl⟩:∃x y r,S=x :: y :: r:=by
   match S,h2 with
   | [],h=>exact absurd (by simp) h
   | [x],h=>exact absurd (by simp) h
   | x :: y :: r,_=>exact ⟨x,y,r,rfl⟩
  have hs:=zCU (x :: y :: r);have i0:¬((x :: y :: r).length:Int) < 2:=by omega
  have t1:=zUp x y r;have t2:=zLK x y r;have mo:=zED [x,y] w;clear h2
  cases hp:zGu [x,y] with
  | none =>
   have hr:zFL (x :: y :: r)=U:=by simp [zFL,hp]
   rw [hr];rw [hp] at mo;have iN:Hid (Calls Tryz.prog 166 #[W (bA [x,y])] w fun e w'=>e=.returned (.tuple #[.agg #[D J 0,G E,D J 0],D J 6])∧Below w.heap.size w w'):=qH mo;clear mo;go_enter Tryz.func160,Tryz.ntmps160;go_wp2_with fail
   refine iN.out.mono ?_;rintro e w2 ⟨rfl,ab⟩;go_wp2_with fail
   have ac:Below w.heap.size w (w2.alloc (.cells #[D J 0,G E,D J 0] 90)):=ab.alloc ab.size _;go_ret3
   exact ⟨⟨rfl,h.below ac⟩,zAv ac⟩
  | some f =>
   rw [hp] at mo;have iN:Hid (Calls Tryz.prog 166 #[W (bA [x,y])] w fun e w'=>e=.returned (.tuple #[fgV f,D J 0])∧Below w.heap.size w w'):=qH mo;clear mo;by_cases h1:f.p=1
   ·have hr:zFL (x :: y :: r)=Z (f,r):=by simp [zFL,hp,h1]
    have HF:=qH (show zDE L [x,y]=zAM L f∧zKz [x,y]=E∧zEM L [x,y]=decide (zAM L f=0) by unfold zDE zKz zEM;rw [hp];exact ⟨rfl,rfl,rfl⟩);rw [hr];have k0:(f.p != 1)=E:=by simpa using h1
    clear hp hr h1;go_enter Tryz.func160,Tryz.ntmps160;go_wp2_with fail
    refine iN.out.mono ?_;rintro e w2 ⟨rfl,ab⟩;have ac:Below w.heap.size w (w2.alloc (.cells #[D J f.p,G f.r,D J f.d] 90)):=ab.alloc ab.size _;go_wp2_with fail
    generalize w2.alloc (.cells #[D J f.p,G f.r,D J f.d] 90)=Y at ac ⊢;have hY:RdS Y rb A n c L re lo T bad lost (decide (zAM L f=0)) Y:=⟨zBu _ _,hA.below ac,lost,h.below ac,.inl rfl⟩;have HY:=qH (show RdS Y rb A n c L re lo T bad lost (decide (zAM L f=0)) Y.drew from ⟨zAv (Below.refl _ _).drew,(hA.below ac).below (Below.refl _ _).drew,lost,(h.below ac).below (Below.refl _ _).drew,.inl rfl⟩)
    have HC:=qH (show ∀wx,RdS Y rb A n c L re lo T bad lost (decide (zAM L f=0)) wx→Calls Tryz.prog 128 #[.pointer (Z ⟨rb,0,U⟩),W (bA [x,y])] wx fun e w'=>e=.returned (D J (zAM L f:Int))∧Hid (Rd w' rb A n c re lo T bad (lost||decide (zAM L f=0)))∧RdS Y rb A n c L re lo T bad lost (decide (zAM L f=0)) w' from fun wx ⟨g1,g2,l,g3,g4⟩=>by
     refine (zFl rb A n c L re lo T bad l [x,y] wx g3 g2).mono ?_
     rintro e w' ⟨rfl,k1,k2⟩
     rw [HF.out.2.1,HF.out.2.2,Bool.or_false] at k1
     have iB:(l||decide (zAM L f=0))=(lost||decide (zAM L f=0)):=by
      rcases g4 with rfl | rfl
      ·rfl
      ·cases lost<;>simp
     rw [iB] at k1
     exact ⟨zGC (by rw [HF.out.1]),qH k1,zAb g1 k2,g2.keepR k2 dM,_,k1,.inr rfl⟩)
    first
     | go_region_held3 (fun wx=>RdS Y rb A n c L re lo T bad lost (decide (zAM L f=0)) wx) (first | assumption | exact HY.out)
       (first
        | (go_at_call 128;refine (HC.out _ (by assumption)).mono ?_;rintro e wa ⟨rfl,nI,hSa⟩))
     | fail
    all_goals
     have hgf:=And.left (show RdS Y rb A n c L re lo T bad lost (decide (zAM L f=0)) _ from by assumption);go_wp2_with fail
     go_ret3
     exact ⟨⟨rfl,nI.out⟩,zDb ac hgf⟩
   ·have hr:zFL (x :: y :: r)=U:=by simp [zFL,hp,h1]
    rw [hr];have k0:(f.p != 1)=Q:=by simpa using h1
    clear hp hr h1;go_enter Tryz.func160,Tryz.ntmps160;go_wp2_with fail
    refine iN.out.mono ?_;rintro e w2 ⟨rfl,ab⟩;have ac:Below w.heap.size w (w2.alloc (.cells #[D J f.p,G f.r,D J f.d] 90)):=ab.alloc ab.size _;go_wp2_with fail
    go_ret3
    exact ⟨⟨rfl,h.below ac⟩,zAv ac⟩
end Go.Proofs.YtlmdfmnbcndhoaaGreatDoor
namespace Go.Proofs.YtlmdfmnbcndhoaaGreatDoor
open Go
def zAN (c:UInt8):List UInt8→List (List UInt8)
 | []=>[[]]
 | b :: l=>if b=c then [] :: zAN c l else match zAN c l with
  | []=>[[b]]
  | p :: ps=>(b :: p) :: ps
theorem zFV (c:UInt8):∀l,zAN c l≠[]
 | []=>by simp [zAN]
 | b :: l=>by
  unfold zAN;split
  ·simp
  ·split<;>simp
theorem zEk (c:UInt8) (l:List UInt8):zAN c (c :: l)=[] :: zAN c l:=by rw [zAN,if_pos rfl]
theorem zCE {b c:UInt8} (h:b≠c) {l p:List UInt8} {ps:List (List UInt8)} (hl:zAN c l=p :: ps):zAN c (b :: l)=(b :: p) :: ps:=by
 rw [zAN,if_neg h,hl]
theorem zCv {c:UInt8} {r:List UInt8}:∀{h:List UInt8},c ∉ h→zAN c (h++c :: r)=h :: zAN c r
 | [],_=>zEk c r
 | b :: h,hc=>by
  have h1:c ∉ h:=fun e=>hc (List.mem_cons_of_mem _ e)
  have h2:b≠c:=fun e=>hc (by rw [e];exact List.mem_cons_self ..)
  rw [List.cons_append];exact zCE h2 (zCv h1)
theorem zEl {c:UInt8}:∀{h:List UInt8},c ∉ h→zAN c h=[h]
 | [],_=>rfl
 | b :: h,hc=>by
  have h1:c ∉ h:=fun e=>hc (List.mem_cons_of_mem _ e)
  have h2:b≠c:=fun e=>hc (by rw [e];exact List.mem_cons_self ..)
  exact zCE h2 (zEl h1)
theorem zGO (x y:List UInt8) (r:List (List UInt8)) (sep:List UInt8):Lib.join (x :: y :: r) sep=x++sep++Lib.join (y :: r) sep:=by
 rw [Lib.join_cons,Lib.join_cons];simp [Lib.joinTail]
theorem zHs {c:UInt8}:∀{ps:List (List UInt8)},ps≠[]→(∀p∈ps,c ∉ p)→zAN c (Lib.join ps [c])=ps
 | [],h,_=>absurd rfl h
 | [p],_,h=>by rw [Lib.join_one];exact zEl (h p (List.mem_cons_self ..))
 | p :: q :: r,_,h=>by
  rw [zGO,List.append_assoc,List.singleton_append,zCv (h p (List.mem_cons_self ..))];rw [zHs (by simp) (fun x hx=>h x (List.mem_cons_of_mem _ hx))]
theorem zHt (c:UInt8):∀l:List UInt8,Lib.join (zAN c l) [c]=l
 | []=>by rw [zAN,Lib.join_one]
 | b :: l=>by
  have ih:=zHt c l
  cases hs:zAN c l with
  | nil=>exact absurd hs (zFV c l)
  | cons p ps =>
   by_cases h:b=c
   ·subst h;rw [zEk,hs,zGO,←hs,ih];rfl
   ·rw [zCE h hs];rw [hs] at ih;rw [Lib.join_cons] at ih ⊢;rw [List.cons_append,ih]
theorem zRK (c:UInt8):∀l:List UInt8,∀p∈zAN c l,c ∉ p
 | [],p,hp=>by simp [zAN] at hp;subst hp;simp
 | b :: l,p,hp=>by
  have ih:=zRK c l
  cases hs:zAN c l with
  | nil=>exact absurd hs (zFV c l)
  | cons q ps =>
   rw [hs] at ih;by_cases h:b=c
   ·subst h;rw [zEk,hs] at hp;rcases List.mem_cons.1 hp with rfl | hp
    ·simp
    ·exact ih p hp
   ·rw [zCE h hs] at hp;rcases List.mem_cons.1 hp with rfl | hp
    ·intro hm;rcases List.mem_cons.1 hm with rfl | hm
     ·exact h rfl
     ·exact ih q (List.mem_cons_self ..) hm
    ·exact ih p (List.mem_cons_of_mem _ hp)
theorem zFm (c:UInt8):∀l:List UInt8,(zAN c l).length=l.count c+1
 | []=>rfl
 | b :: l=>by
  have ih:=zFm c l
  cases hs:zAN c l with
  | nil=>exact absurd hs (zFV c l)
  | cons p ps =>
   by_cases h:b=c
   ·subst h;rw [zEk,List.length_cons,ih,List.count_cons_self]
   ·rw [zCE h hs,List.count_cons_of_ne (by simpa using h),←ih,hs];rfl
theorem zCw (c:UInt8):∀l:List UInt8,∀p∈zAN c l,p.length≤l.length
 | [],p,hp=>by simp [zAN] at hp;subst hp;simp
 | b :: l,p,hp=>by
  have ih:=zCw c l
  cases hs:zAN c l with
  | nil=>exact absurd hs (zFV c l)
  | cons q ps =>
   rw [hs] at ih;by_cases h:b=c
   ·subst h;rw [zEk,hs] at hp;rcases List.mem_cons.1 hp with rfl | hp
    ·simp
    ·have:=ih p hp;simp only [List.length_cons];omega
   ·rw [zCE h hs] at hp;rcases List.mem_cons.1 hp with rfl | hp
    ·have:=ih q (List.mem_cons_self ..);simp only [List.length_cons];omega
    ·have:=ih p (List.mem_cons_of_mem _ hp);simp only [List.length_cons];omega
theorem zHu (c:UInt8):∀(k:Nat) (l:List UInt8),l.count c=k→Lib.splitK [c] 0 k l=zAN c l
 | 0,l,h=>by
  have hc:c ∉ l:=by rw [←List.count_eq_zero];exact h
  rw [zEl hc];rfl
 | k+1,l,h=>by
  have hm:c∈l:=by rw [←List.count_pos_iff];omega
  obtain ⟨a,b,rfl,hn⟩:∃a b,l=a++c :: b∧c ∉ a:=by
   clear h
   induction l with
   | nil=>cases hm
   | cons x l ih =>
    by_cases hx:x=c
    ·subst hx;exact ⟨[],l,rfl,by simp⟩
    ·have:c∈l:=by
      rcases List.mem_cons.1 hm with e | e
      ·exact absurd e.symm hx
      ·exact e
     obtain ⟨a,b,rfl,hn⟩:=ih this;exact ⟨x :: a,b,rfl,fun e=>by rcases List.mem_cons.1 e with e | e;exact hx e.symm;exact hn e⟩
  unfold Lib.splitK;rw [Lib.index_one,zOQ hn];have hne:¬((a.length:Int)==-1)=Q:=fun e=>by have:=beq_iff_eq.1 e;omega
  rw [if_neg hne,zCv hn];have hk:b.count c=k:=by
   rw [List.count_append,List.count_cons_self,List.count_eq_zero.2 hn] at h;omega
  have e1:(a++c :: b).take ((a.length:Int).toNat+0)=a:=by simp
  have e2:(a++c :: b).drop ((a.length:Int).toNat + [c].length)=b:=by simp
  rw [e1,e2,zHu c k b hk]
theorem zLL (c:UInt8) (l:List UInt8):(Lib.splitB ⟨#[c]⟩ 0 (Lib.countB ⟨l.toArray⟩ ⟨#[c]⟩) ⟨l.toArray⟩)=(zAN c l).map (fun p=>(⟨p.toArray⟩:ByteArray)):=by
 have h:=Lib.splitB_data ⟨#[c]⟩ 0 (Lib.countB ⟨l.toArray⟩ ⟨#[c]⟩) ⟨l.toArray⟩;have hc:Lib.countB ⟨l.toArray⟩ ⟨#[c]⟩=l.count c:=by
  unfold Lib.countB;exact Lib.count_one c l
 rw [hc] at h ⊢;have h2:Lib.splitK [c] 0 (l.count c) l=zAN c l:=zHu c _ l rfl;have h3:(Lib.splitB ⟨#[c]⟩ 0 (l.count c) ⟨l.toArray⟩).map (·.data.toList)=zAN c l:=h.trans h2;rw [←h3,List.map_map]
 conv=>lhs;rw [←List.map_id (Lib.splitB ⟨#[c]⟩ 0 (l.count c) ⟨l.toArray⟩)]
 apply List.map_congr_left;intro x _
 cases x
 simp
end Go.Proofs.YtlmdfmnbcndhoaaGreatDoor
namespace Go.Proofs.YtlmdfmnbcndhoaaGreatDoor
open Go.RowKit
def zAY (S:List UInt8):List (List UInt8):=if S.getLast? = Z 44 then [S.dropLast,[44]] else [S]
def zBD (S:List UInt8):List (List UInt8):=(zAN 32 S).flatMap zAY
theorem zDd {S:List UInt8} (h:(44:UInt8) ∉ S):zAY S=[S]:=by
 unfold zAY;rw [if_neg (fun e=>h (List.mem_of_getLast? e))]
theorem zIC (S:List UInt8):zAY (S++[44])=[S,[44]]:=by simp [zAY]
theorem zBq (S:List UInt8):(zAY S=[S]∧S.getLast?≠Z 44)∨∃C,S=C++[44]∧zAY S=[C,[44]]:=by
 by_cases h:S.getLast? = Z 44
 ·obtain ⟨C,rfl⟩:=List.getLast?_eq_some_iff.1 h;exact .inr ⟨C,rfl,zIC C⟩
 ·exact .inl ⟨by simp [zAY,h],h⟩
def zCO:Bool→List (List UInt8)→Bool
 | _,[]=>Q
 | b,x :: r=>if x=[44] then b&&zCO E r else zCO Q r
theorem zPr (b:Bool) (x:List UInt8) (R:List (List UInt8)):zCO b (x :: [44] :: [44] :: R)=E:=by
 by_cases h:x=[44]
 ·simp [zCO,h]
 ·simp [zCO,h]
theorem zPs:∀{ws R:List (List UInt8)},ws.flatMap zAY=[44] :: R→∃ZS,R=[44] :: ZS
 | [],R,h=>by simp at h
 | w :: ws,R,h=>by
  rw [List.flatMap_cons] at h;rcases zBq w with ⟨e,hl⟩ | ⟨C,rfl,e⟩
  ·rw [e] at h;simp only [List.cons_append,List.nil_append,List.cons.injEq] at h;exact absurd (by rw [h.1];rfl) hl
  ·rw [e] at h;simp only [List.cons_append,List.nil_append,List.cons.injEq] at h;exact ⟨_,h.2.symm⟩
theorem zPt {w:List UInt8} (h:w.getLast?≠Z 44):w≠[44]:=fun e=>h (by rw [e];rfl)
theorem zPu:∀{us:List (List UInt8)},zCO Q (us.flatMap zAY)=Q→zCO E (us.flatMap zAY)=Q
 | [],_=>rfl
 | u :: us,h=>by
  rw [List.flatMap_cons] at h ⊢;rcases zBq u with ⟨e,hl⟩ | ⟨C,rfl,e⟩
  ·rw [e] at h ⊢;simp only [List.cons_append,List.nil_append,zCO,if_neg (zPt hl)] at h ⊢;exact h
  ·rw [e] at h ⊢;simp only [List.cons_append,List.nil_append] at h ⊢;by_cases hC:C=[44]
   ·subst hC;simp [zCO] at h
   ·simp only [zCO,if_neg hC] at h ⊢;exact h
theorem zHv:∀{ws us:List (List UInt8)},ws.flatMap zAY=us.flatMap zAY→zCO E (us.flatMap zAY)=Q→ws=us
 | [],[],_,_=>rfl
 | [],u :: us,h,_=>by
  rw [List.flatMap_cons] at h;rcases zBq u with ⟨e,_⟩ | ⟨C,_,e⟩<;>rw [e] at h<;>simp at h
 | w :: ws,[],h,_=>by
  rw [List.flatMap_cons] at h;rcases zBq w with ⟨e,_⟩ | ⟨C,_,e⟩<;>rw [e] at h<;>simp at h
 | w :: ws,u :: us,h,hc=>by
  rw [List.flatMap_cons,List.flatMap_cons] at h;rw [List.flatMap_cons] at hc;rcases zBq w with ⟨e1,l1⟩ | ⟨C,rfl,e1⟩<;>rcases zBq u with ⟨e2,l2⟩ | ⟨ZZ,rfl,e2⟩<;>rw [e2] at hc<;>rw [e1,e2] at h<;>simp only [List.cons_append,List.nil_append,List.cons.injEq] at h hc
  ·obtain ⟨rfl,h⟩:=h;simp only [zCO,if_neg (zPt l1)] at hc;rw [zHv h (zPu hc)]
  ·obtain ⟨_,h⟩:=h;obtain ⟨ZS,hQ⟩:=zPs h;rw [hQ,zPr] at hc
   cases hc
  ·obtain ⟨_,h⟩:=h;obtain ⟨ZS,hQ⟩:=zPs h.symm;rw [←h,hQ,zPr] at hc
   cases hc
  ·obtain ⟨rfl,_,h⟩:=h;by_cases hC:C=[44]
   ·subst hC;simp [zCO] at hc
   ·simp only [zCO,if_neg hC] at hc;rw [zHv h (by simpa using hc)]
def fineW (S:List UInt8):Prop:=∀b∈S,b≠32∧b≠44∧b≠10
def fineT (T:List (List UInt8)):Prop:=∀S∈T,fineW S
theorem fineW.no44 {S:List UInt8} (h:fineW S):(44:UInt8) ∉ S:=fun e=>(h _ e).2.1 rfl
theorem fineW.no32 {S:List UInt8} (h:fineW S):(32:UInt8) ∉ S:=fun e=>(h _ e).1 rfl
theorem fineW.ne {S:List UInt8} (h:fineW S):S≠[44]:=fun e=>h.no44 (by rw [e];simp)
theorem fineT.app {A B:List (List UInt8)} (h:fineT A) (k:fineT B):fineT (A++B):=fun S hS=>by
 rcases List.mem_append.1 hS with e | e
 ·exact h S e
 ·exact k S e
theorem fineT.cons {S:List UInt8} {B:List (List UInt8)} (h:fineW S) (k:fineT B):fineT (S :: B):=fun x hx=>by
 rcases List.mem_cons.1 hx with rfl | e
 ·exact h
 ·exact k x e
theorem fineT.nil:fineT []:=fun S h=>by simp at h
theorem zHw {A:List (List UInt8)} (R:List (List UInt8)) (h:fineT A) (hA:A≠[]) (b:Bool):zCO b (A++R)=zCO Q R:=by
 induction A generalizing b with
 | nil=>exact absurd rfl hA
 | cons x A ih =>
  have hx:=(h x (List.mem_cons_self ..)).ne;rw [List.cons_append,zCO,if_neg hx]
  cases A with
  | nil=>rfl
  | cons y A=>exact ih (fun S hS=>h S (List.mem_cons_of_mem _ hS)) (by simp) Q
def tag:List (List UInt8)→List (List UInt8)
 | []=>[]
 | [x]=>[x++[44]]
 | x :: y :: r=>x :: tag (y :: r)
theorem zMD:∀{A:List (List UInt8)},fineT A→A≠[]→(tag A).flatMap zAY=A++[[44]]
 | [],_,h=>absurd rfl h
 | [x],_,_=>by simp [tag,zIC]
 | x :: y :: r,h,_=>by
  have h2:fineT (y :: r):=fun S hS=>h S (List.mem_cons_of_mem _ hS)
  rw [tag,List.flatMap_cons,zMD h2 (by simp),zDd (h x (List.mem_cons_self ..)).no44];rfl
theorem zME:∀{A:List (List UInt8)},fineT A→∀p∈tag A,(32:UInt8) ∉ p
 | [],_,p,hp=>by simp [tag] at hp
 | [x],h,p,hp=>by
  simp only [tag,List.mem_singleton] at hp;subst hp;intro e;rcases List.mem_append.1 e with e | e
  ·exact (h x (List.mem_cons_self ..)).no32 e
  ·simp at e
 | x :: y :: r,h,p,hp=>by
  rw [tag] at hp;rcases List.mem_cons.1 hp with rfl | e
  ·exact (h p (List.mem_cons_self ..)).no32
  ·exact zME (A:=y :: r) (fun S hS=>h S (List.mem_cons_of_mem _ hS)) p e
structure Nst where
 f:Fg
 l:Int
 far:Bool
 pc:Int
structure Nop where
 kind:Int
 f:Fg
 fr:Option Nst
 path:List (Nst×Bool)
 over:Bool
def zCV (x:Nst):Prop:=zAo x.f=Q∧0≤x.l∧x.l≤999999999∧0≤x.pc∧x.pc≤999999999
def zKA (n:Nop):Prop :=
 (n.kind=1∨n.kind=2∨n.kind=8)∧n.fr=U∧n.path=[]∧n.over=E
 ∨ n.kind=4∧n.fr=U∧n.path=[]
 ∨ n.kind=3∧(∃x,n.fr=Z x∧zCV x)∧(∀y∈n.path,zCV y.1)∧n.over=E
 ∨ n.kind=5∧(∃x,n.fr=Z x∧zCV x)∧n.path=[]
 ∨ (n.kind=6∨n.kind=7)∧(∃f,n.fr=Z ⟨f,0,E,0⟩∧zAo f=Q)∧n.path=[]
def okN (n:Nop):Prop:=zAo n.f=Q∧zKA n
def sOf (L:List Fg) (x:Nst):Sg:=⟨zAM L x.f,x.l,x.far,x.pc⟩
def pOf (L:List Fg) (x:Nst×Bool):Sp:=⟨sOf L x.1,x.2⟩
def oOf (L:List Fg) (n:Nop):Og:=⟨n.kind,zAM L n.f,(n.fr.map (sOf L)).getD s0,n.path.map (pOf L),n.over⟩
def zBE (L:List Fg) (f:Fg):Bool:=decide (zAM L f=0)
def zBI (L:List Fg) (P:List (Nst×Bool)):Bool:=P.any fun x=>zBE L x.1.f
def zAE (L:List Fg) (n:Nop):Bool:=zBE L n.f||zBI L n.path||(match n.fr with | some x=>zBE L x.f | none=>E)
abbrev zAU:List UInt8:=[102,114,111,109]
abbrev zEN:List UInt8:=[119,105,116,104]
abbrev zDe:List UInt8:=[108,111,111,112]
abbrev zCb:List UInt8:=[112,105,101,99,101]
abbrev zWb:List UInt8:=[110,101,97,114]
abbrev farW:List UInt8:=[102,97,114]
def zGP (ZR:List UInt8) (n:Int):List (List UInt8):=if n=0 then [] else [ZR,Lib.itoa n]
def plT (x:Nst):List (List UInt8):=[zAl x.f,zCA x.far]++zGP zDe x.l++zGP zCb x.pc
def stT (x:Nst×Bool):List (List UInt8):=zBf x.2 :: (plT x.1++[[44]])
def stW (x:Nst×Bool):List (List UInt8):=zBf x.2 :: tag (plT x.1)
def frT (n:Nop):List (List UInt8):=match n.fr with | some x=>plT x | none=>[]
def frN (n:Nop):List UInt8:=match n.fr with | some x=>zAl x.f | none=>[]
def tlT (n:Nop):List (List UInt8) :=
 if n.kind=4 then [zBf n.over]
 else if n.kind=3 then n.path.flatMap stT++zAU :: frT n
 else if n.kind=5 then zAU :: (frT n++[zBf n.over])
 else if n.kind=6 then [zAU,frN n,zBf n.over]
 else if n.kind=7 then [zEN,frN n,zBf n.over]
 else []
def tlW (n:Nop):List (List UInt8) :=
 if n.kind=4 then [zBf n.over]
 else if n.kind=3 then n.path.flatMap stW++zAU :: frT n
 else if n.kind=5 then zAU :: (frT n++[zBf n.over])
 else if n.kind=6 then [zAU,frN n,zBf n.over]
 else if n.kind=7 then [zEN,frN n,zBf n.over]
 else []
def zJp (n:Nop):List (List UInt8):=zBk n.kind :: zAl n.f :: tlT n
def zWc (n:Nop):List (List UInt8):=zBk n.kind :: zAl n.f :: tlW n
def zDH (n:Nop):List UInt8:=Lib.join (zWc n) [32]
theorem zCr {S:List UInt8} (h:(S.all fun b=>b != 32&&b != 44&&b != 10)=Q):fineW S:=fun b hb=>by
 have:=(List.all_eq_true.1 h) b hb;simpa [and_assoc] using this
theorem zDf (b:Bool):fineW (zBf b):=by cases b<;>exact zCr (by decide)
theorem zPv (b:Bool):fineW (zCA b):=by cases b<;>exact zCr (by decide)
theorem zFn (n:Int):fineW (Lib.itoa n):=fun b hb=>by
 have:=zMu b hb;refine ⟨?_,?_,?_⟩<;>(rintro rfl;simp at this)
theorem zDg (f:Fg):fineW (zAl f):=fun b hb=>by
 unfold zAl at hb;rcases List.mem_append.1 hb with h | h
 ·split at h
  ·simp at h
  ·exact zFn _ b h
 ·rcases List.mem_cons.1 h with h | h
  ·subst h;split<;>decide
  ·exact zFn _ b h
theorem zHx (k:Int):fineW (zBk k):=by
 unfold zBk
 repeat (split;· exact zCr (by decide))
 exact zCr (by decide)
theorem zMF {ZR:List UInt8} (h:fineW ZR) (n:Int):fineT (zGP ZR n):=by
 unfold zGP;split
 ·exact .nil
 ·exact .cons h (.cons (zFn n) .nil)
theorem zJq (x:Nst):fineT (plT x) :=
 ((fineT.cons (zDg _) (.cons (zPv _) .nil)).app (zMF (zCr (by decide)) _)).app (zMF (zCr (by decide)) _)
theorem zXy (x:Nst):plT x≠[]:=by simp [plT]
theorem zLM (n:Nop):fineT (frT n):=by
 unfold frT;split
 ·exact zJq _
 ·exact .nil
theorem zJr (n:Nop):fineW (frN n):=by
 unfold frN;split
 ·exact zDg _
 ·exact zCr (by decide)
theorem zRL (x:Nst×Bool):(stW x).flatMap zAY=stT x:=by
 rw [stW,List.flatMap_cons,zMD (zJq _) (zXy _),zDd (zDf _).no44];rfl
theorem zDS {A:List (List UInt8)} (h:fineT A):A.flatMap zAY=A:=by
 induction A with
 | nil=>rfl
 | cons x A ih =>
  rw [List.flatMap_cons,ih (fun S hS=>h S (List.mem_cons_of_mem _ hS)),zDd (h x (List.mem_cons_self ..)).no44];rfl
theorem zPw (P:List (Nst×Bool)):(P.flatMap stW).flatMap zAY=P.flatMap stT:=by
 induction P with
 | nil=>rfl
 | cons x P ih=>rw [List.flatMap_cons,List.flatMap_append,ih,zRL,List.flatMap_cons]
theorem zBV:fineW zAU:=zCr (by decide)
theorem zHy:fineW zEN:=zCr (by decide)
theorem zUq (n:Nop):(tlW n).flatMap zAY=tlT n:=by
 have hf:=zLM n;have hn:=zJr n;have ho:=zDf n.over;unfold tlW tlT;split
 ·exact zDS (.cons ho .nil)
 split
 ·rw [List.flatMap_append,zPw,zDS (.cons zBV hf)]
 split
 ·exact zDS (.cons zBV (hf.app (.cons ho .nil)))
 split
 ·exact zDS (.cons zBV (.cons hn (.cons ho .nil)))
 split
 ·exact zDS (.cons zHy (.cons hn (.cons ho .nil)))
 ·rfl
theorem zJs (n:Nop):(zWc n).flatMap zAY=zJp n:=by
 rw [zWc,List.flatMap_cons,List.flatMap_cons,zUq,zDd (zHx _).no44,zDd (zDg _).no44];rfl
theorem zPx (P:List (Nst×Bool)) (b:Bool) (R:List (List UInt8)) (h:∀b,zCO b R=Q):zCO b (P.flatMap stT++R)=Q:=by
 induction P generalizing b with
 | nil=>exact h b
 | cons x P ih =>
  have e:(x :: P).flatMap stT++R=(zBf x.2 :: plT x.1)++([44] :: (P.flatMap stT++R)):=by simp [stT]
  rw [e,zHw _ (.cons (zDf _) (zJq _)) (by simp),zCO,if_pos rfl,ih];rfl
theorem zFo {A:List (List UInt8)} (h:fineT A) (hA:A≠[]) (b:Bool):zCO b A=Q:=by
 have:=zHw [] h hA b;rw [List.append_nil] at this;rw [this];rfl
theorem zRM (n:Nop):zCO E (zJp n)=Q:=by
 have hf:=zLM n;have hn:=zJr n;have ho:=zDf n.over;have h2:fineT [zBk n.kind,zAl n.f]:=.cons (zHx _) (.cons (zDg _) .nil);rw [zJp,show zBk n.kind :: zAl n.f :: tlT n=[zBk n.kind,zAl n.f]++tlT n from rfl,zHw _ h2 (by simp)];unfold tlT;split
 ·exact zFo (.cons ho .nil) (by simp) _
 split
 ·exact zPx _ _ _ fun b=>zFo (.cons zBV hf) (by simp) b
 split
 ·exact zFo (.cons zBV (hf.app (.cons ho .nil))) (by simp) _
 split
 ·exact zFo (.cons zBV (.cons hn (.cons ho .nil))) (by simp) _
 split
 ·exact zFo (.cons zHy (.cons hn (.cons ho .nil))) (by simp) _
 ·rfl
theorem zPy (P:List (Nst×Bool)):∀p∈P.flatMap stW,(32:UInt8) ∉ p:=fun p hp=>by
 obtain ⟨x,_,h⟩:=List.mem_flatMap.1 hp;rcases List.mem_cons.1 h with rfl | h
 ·exact (zDf _).no32
 ·exact zME (zJq _) p h
theorem zDT {A:List (List UInt8)} (h:fineT A):∀p∈A,(32:UInt8) ∉ p:=fun p hp=>(h p hp).no32
theorem zRN (n:Nop):∀p∈zWc n,(32:UInt8) ∉ p:=by
 have hf:=zLM n;have hn:=zJr n;have ho:=zDf n.over;have ht:∀p∈tlW n,(32:UInt8) ∉ p:=by
  unfold tlW;split
  ·exact zDT (.cons ho .nil)
  split
  ·intro p hp;rcases List.mem_append.1 hp with h | h
   ·exact zPy _ p h
   ·exact zDT (.cons zBV hf) p h
  split
  ·exact zDT (.cons zBV (hf.app (.cons ho .nil)))
  split
  ·exact zDT (.cons zBV (.cons hn (.cons ho .nil)))
  split
  ·exact zDT (.cons zHy (.cons hn (.cons ho .nil)))
  ·intro p hp;simp at hp
 intro p hp;rcases List.mem_cons.1 hp with rfl | hp
 ·exact (zHx _).no32
 ·rcases List.mem_cons.1 hp with rfl | hp
  ·exact (zDg _).no32
  ·exact ht p hp
theorem zEm (n:Nop):zBD (zDH n)=zJp n:=by
 unfold zBD zDH;rw [zHs (by simp [zWc]) (zRN n),zJs]
theorem zJt {S:List UInt8} {n:Nop} (h:zBD S=zJp n):S=zDH n:=by
 unfold zBD at h;rw [←zJs] at h;have:=zHv h (by rw [zJs];exact zRM n);unfold zDH;rw [←this,zHt]
end Go.Proofs.YtlmdfmnbcndhoaaGreatDoor
