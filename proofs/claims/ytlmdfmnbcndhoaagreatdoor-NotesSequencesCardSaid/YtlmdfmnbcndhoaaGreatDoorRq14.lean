/-
  Lemmas, part 14. Conditions: each theorem's own.
-/
import Derived.Test.YtlmdfmnbcndhoaaGreatDoorRq13
import Derived.Test.YtlmdfmnbcndhoaaGreatDoorRq07
import Derived.Lib.Join
import Derived.Lib.SplitLaws
open Go.Value renaming bool→G,int→D,slice→H,string→W
open Go.IntKind renaming i64→J
open Option renaming none→U,some→Z
open Bool renaming false→E,true→Q
namespace Go.Proofs.YtlmdfmnbcndhoaaGreatDoor
open Go.RowKit
def Txts (w:World) (A:Option Addr) (n:Nat) (T:List (List UInt8)):Prop:=Els 1 (fun S=>[zLN S]) w A n T
def xa (T:List (List UInt8)) (i:Nat):List UInt8:=(T[i]?).getD []
abbrev rdC (A:Option Addr) (n c:Nat) (re lo:Int) (B:Option Addr) (m d:Nat) (bad lost:Bool):Array Value:=#[H A n c,D J re,D J lo,H B m d,G bad,G lost]
structure Rd (w:World) (rb:Nat) (A:Option Addr) (n c:Nat) (re lo:Int) (T:List (List UInt8)) (bad lost:Bool):Prop where
 ex:∃B m d,Blk w rb 123 (rdC A n c re lo B m d bad lost)∧Txts w B m T∧m≤d∧∀k,blk B=Z k→k < rb
theorem Txts.from1 {w:World} {g o n:Nat} {x:List UInt8} {T:List (List UInt8)} (h:Txts w (Z ⟨g,o,U⟩) (n+1) (x :: T)):Txts w (Z ⟨g,o+1,U⟩) n T:=by
 refine ⟨by have:=h.len;simpa using this,by have:=h.le;omega,fun h0=>?_⟩;obtain ⟨g',o',e,hb,hc⟩:=h.2.2 (by omega);injection e with e
 injection e with e1 e2
 subst e1;subst e2
 exact ⟨g,o+1,rfl,hb,fun j y hy q v hv=>by
  have:=hc (j+1) y (by simpa using hy) q v hv
  rwa [show o+(j+1)*1+q=o+1+j*1+q by omega] at this⟩
theorem Txts.keepBlk {w w':World} {g o n:Nat} {T:List (List UInt8)} {rb:Nat} (h:Txts w (Z ⟨g,o,U⟩) n T) (hg:w.grownBy w' (Z rb)) (hne:g≠rb):Txts w' (Z ⟨g,o,U⟩) n T:=by
 refine ⟨h.len,h.le,fun h0=>?_⟩;obtain ⟨g',o',e,hb,hc⟩:=h.2.2 h0;injection e with e
 injection e with e1 e2
 subst e1;subst e2
 refine ⟨g,o,rfl,Nat.lt_of_lt_of_le hb hg.size,fun j x hx q v hv=>?_⟩;rw [World.cell?_of_block (w:=w) (w':=w') (hg.block g hb (fun e=>hne (by injection e)))];exact hc j x hx q v hv
set_option maxHeartbeats 1600000 in
theorem zHF (rb:Nat) (A:Option Addr) (n c:Nat) (re lo:Int) (T:List (List UInt8)) (bad lost:Bool) (w:World) (h:Rd w rb A n c re lo T bad lost) :
  Calls Tryz.prog 146 #[.pointer (Z ⟨rb,0,U⟩)] w fun e w'=>e=.returned (W (bA (xa T 0)))∧Rd w' rb A n c re lo T.tail (bad||T.isEmpty) lost∧w.grownBy w' (Z rb):=by
 obtain ⟨B,m,d,hk,hT,hmd,hne⟩:=h.ex;have hle:=hT.le;have c0:w.cell? ⟨rb,3,U⟩=Z (H B m d):=(hk.cell 3).trans rfl;have z3:=hk.frozen 3;have z4:=hk.frozen 4
 cases T with
 | nil =>
  obtain rfl:0=m:=hT.len;have h4:w.cell? ⟨rb,4,U⟩=Z (G bad):=(hk.cell 4).trans rfl;have hS:=hk.set_ 4 (G Q);have hg:w.grownBy (w.setCell ⟨rb,4,U⟩ (G Q)) (Z rb):=⟨rfl,rfl,rfl,by simp [World.setCell],fun k _ hne=>Below.heap_setCell _ _ _ _ (fun e=>hne (by rw [e]))⟩;have HS:=qH hS;have HG:=qH hg;clear hS hg;go_enter Tryz.func146,Tryz.ntmps146;go_wp2_with fail
  go_ret;refine ⟨rfl,⟨B,0,d,?_,Els.nil _ _,by omega,hne⟩,HG.out⟩;have:=HS.out;simpa using this
 | cons x T =>
  have hlen:T.length+1=m:=hT.len;obtain ⟨g,o,AZ,hgl,hcl⟩:=hT.2.2 (by omega);subst AZ;have hx:w.cell? ⟨g,o,U⟩=Z (W (bA x)):=hcl 0 x rfl 0 _ rfl;obtain ⟨k,ag⟩:∃k,k=T.length:=⟨_,rfl⟩
  obtain rfl:m=k+1:=by omega
  have eF:=Txts.from1 hT;have hgrow:∀u,w.grownBy (w.setCell ⟨rb,3,U⟩ u) (Z rb):=fun u=>⟨rfl,rfl,rfl,by simp [World.setCell],fun k _ hne=>Below.heap_setCell _ _ _ _ (fun e=>hne (by rw [e]))⟩
  have HG:=qH hgrow;have hgr:g < rb:=hne g rfl;have su:∀u,Txts (w.setCell ⟨rb,3,U⟩ u) (Z ⟨g,o+1,U⟩) k T:=fun u=>eF.keepBlk (hgrow u) (Nat.ne_of_lt hgr)
  have lF:=qH su;have HS:=qH (fun u=>hk.set_ 3 u);by_cases hd1:d=1
  ·subst hd1;obtain rfl:k=0:=by omega
   obtain rfl:T=[]:=List.length_eq_zero_iff.1 ag.symm;clear ag hlen hcl hgrow su hT eF;go_enter Tryz.func146,Tryz.ntmps146;go_wp2_with fail
   go_ret;exact ⟨rfl,⟨_,_,_,by simpa using HS.out _,Els.nil _ _,Nat.le_refl _,fun k hk=>by cases hk;exact hgr⟩,HG.out _⟩
  ·have ip:1 < d:=by omega
   clear ag hlen hcl hgrow su hT eF;go_enter Tryz.func146,Tryz.ntmps146;go_wp2_with fail
   go_ret;exact ⟨rfl,⟨_,_,_,by simpa using HS.out _,lF.out _,by omega,fun k hk=>by cases hk;exact hgr⟩,HG.out _⟩
theorem zBw (w:World) (row:Option Nat):w.grownBy w row:=⟨rfl,rfl,rfl,Nat.le_refl _,fun _ _ _=>rfl⟩
def isB (T:List (List UInt8)) (S:List UInt8):Bool:=decide (T.head? = Z S)
def isT (T:List (List UInt8)) (S:List UInt8):List (List UInt8):=if T.head? = Z S then T.tail else T
theorem zJr (x:List UInt8) (T:List (List UInt8)):isB (x :: T) x=Q:=by simp [isB]
theorem zGh (x:List UInt8) (T:List (List UInt8)):isT (x :: T) x=T:=by simp [isT]
theorem zTn {x S:List UInt8} (T:List (List UInt8)) (h:x≠S):isB (x :: T) S=E:=by simp [isB,h]
theorem zWb {x S:List UInt8} (T:List (List UInt8)) (h:x≠S):isT (x :: T) S=x :: T:=by simp [isT,h]
set_option maxHeartbeats 1600000 in
theorem zPM (rb:Nat) (A:Option Addr) (n c:Nat) (re lo:Int) (T:List (List UInt8)) (bad lost:Bool) (S:List UInt8) (w:World) (h:Rd w rb A n c re lo T bad lost) :
  Calls Tryz.prog 148 #[.pointer (Z ⟨rb,0,U⟩),W (bA S)] w fun e w'=>e=.returned (G (isB T S))∧Rd w' rb A n c re lo (isT T S) bad lost∧w.grownBy w' (Z rb):=by
 obtain ⟨B,m,d,hk,hT,hmd,hne⟩:=h.ex;have hle:=hT.le;have c0:w.cell? ⟨rb,3,U⟩=Z (H B m d):=(hk.cell 3).trans rfl;have z3:=hk.frozen 3;have HH:=qH h;clear h
 cases T with
 | nil =>
  obtain rfl:0=m:=hT.len;clear hk hT hne;go_enter Tryz.func148,Tryz.ntmps148;go_wp2_with fail
  go_ret;exact ⟨rfl,HH.out,zBw _ _⟩
 | cons x T =>
  have hlen:T.length+1=m:=hT.len;obtain ⟨g,o,AZ,hgl,hcl⟩:=hT.2.2 (by omega);subst AZ;have hx:w.cell? ⟨g,o,U⟩=Z (W (bA x)):=hcl 0 x rfl 0 _ rfl;obtain ⟨k,ag⟩:∃k,k=T.length:=⟨_,rfl⟩
  obtain rfl:m=k+1:=by omega
  have eF:=Txts.from1 hT;by_cases hq:x=S
  ·have n0:((bA x).toList==(bA S).toList)=Q:=by rw [zFm];simpa using hq
   have hgrow:∀u,w.grownBy (w.setCell ⟨rb,3,U⟩ u) (Z rb):=fun u=>⟨rfl,rfl,rfl,by simp [World.setCell],fun k _ hne=>Below.heap_setCell _ _ _ _ (fun e=>hne (by rw [e]))⟩
   have HG:=qH hgrow;have hgr:g < rb:=hne g rfl;have su:∀u,Txts (w.setCell ⟨rb,3,U⟩ u) (Z ⟨g,o+1,U⟩) k T:=fun u=>eF.keepBlk (hgrow u) (Nat.ne_of_lt hgr)
   have lF:=qH su;have HS:=qH (fun u=>hk.set_ 3 u);have HE:=qH (show isB (x :: T) S=Q∧isT (x :: T) S=T by rw [←hq];exact ⟨zJr _ _,zGh _ _⟩);clear hq HH;by_cases hd1:d=1
   ·subst hd1;obtain rfl:k=0:=by omega
    obtain rfl:T=[]:=List.length_eq_zero_iff.1 ag.symm;clear ag hlen hcl hgrow su hT eF;go_enter Tryz.func148,Tryz.ntmps148;go_wp2_with fail
    go_ret;exact ⟨zDN HE.out.1.symm,by rw [HE.out.2];exact ⟨_,_,_,by simpa using HS.out _,Els.nil _ _,Nat.le_refl _,fun k hk=>by cases hk;exact hgr⟩,HG.out _⟩
   ·have ip:1 < d:=by omega
    clear ag hlen hcl hgrow su hT eF;go_enter Tryz.func148,Tryz.ntmps148;go_wp2_with fail
    go_ret;exact ⟨zDN HE.out.1.symm,by rw [HE.out.2];exact ⟨_,_,_,by simpa using HS.out _,lF.out _,by omega,fun k hk=>by cases hk;exact hgr⟩,HG.out _⟩
  ·have n0:((bA x).toList==(bA S).toList)=E:=by rw [zFm];simpa using hq
   have HE:=qH (show isB (x :: T) S=E∧isT (x :: T) S=x :: T from ⟨zTn _ hq,zWb _ hq⟩);clear hq hk hT eF hcl hlen ag hne;go_enter Tryz.func148,Tryz.ntmps148;go_wp2_with fail
   go_ret;exact ⟨zDN HE.out.1.symm,by rw [HE.out.2];exact HH.out,zBw _ _⟩
end Go.Proofs.YtlmdfmnbcndhoaaGreatDoor
namespace Go.Proofs.YtlmdfmnbcndhoaaGreatDoor
open Go.RowKit
noncomputable def zEy (L:List Fg) (S:List UInt8):Nat:=match zIH S with | some f=>zBa L f | none=>0
noncomputable def zKD (S:List UInt8):Bool:=(zIH S).isNone
noncomputable def zEQ (L:List Fg) (S:List UInt8):Bool:=match zIH S with | some f=>decide (zBa L f=0) | none=>E
theorem zCZ {a b c:World} {row:Option Nat} (h:Below a.heap.size a b) (k:b.grownBy c row):a.grownBy c row :=
 ⟨k.os.trans h.os,k.tape.trans h.tape,k.output.trans h.output,Nat.le_trans h.size k.size,fun i hi hne=>(k.block i (Nat.lt_of_lt_of_le hi h.size) hne).trans (h.block i hi)⟩
theorem zBD {w:World} {rb:Nat} (q:Nat) (u:Value):w.grownBy (w.setCell ⟨rb,q,U⟩ u) (Z rb) :=
 ⟨rfl,rfl,rfl,by simp [World.setCell],fun k _ hne=>Below.heap_setCell _ _ _ _ (fun e=>hne (by rw [e]))⟩
theorem Txts.keepAny {w w':World} {B:Option Addr} {n:Nat} {T:List (List UInt8)} {rb:Nat} (h:Txts w B n T) (hg:w.grownBy w' (Z rb)) (hne:∀k,blk B=Z k→k < rb):Txts w' B n T:=by
 refine ⟨h.len,h.le,fun h0=>?_⟩;obtain ⟨g,o,e,hb,hc⟩:=h.2.2 h0;subst e;refine ⟨g,o,rfl,Nat.lt_of_lt_of_le hb hg.size,fun j x hx q v hv=>?_⟩;rw [World.cell?_of_block (w:=w) (w':=w') (hg.block g hb (fun e=>Nat.ne_of_lt (hne g rfl) (by injection e)))];exact hc j x hx q v hv
set_option maxHeartbeats 3200000 in
theorem zFq (rb:Nat) (A:Option Addr) (n c:Nat) (L:List Fg) (re lo:Int) (T:List (List UInt8)) (bad lost:Bool) (S:List UInt8) (w:World) (h:Rd w rb A n c re lo T bad lost) (hA:Fgs w A n L) :
  Calls Tryz.prog 128 #[.pointer (Z ⟨rb,0,U⟩),W (bA S)] w fun e w'=>e=.returned (D J (zEy L S:Int))∧Rd w' rb A n c re lo T (bad||zKD S) (lost||zEQ L S)∧w.grownBy w' (Z rb):=by
 obtain ⟨B,m,d,hk,hT,hmd,hne⟩:=h.ex;have lw:=zEE S w
 cases hp:zIH S with
 | none =>
  rw [hp] at lw;have iw:Hid (Calls Tryz.prog 166 #[W (bA S)] w fun e w'=>e=.returned (.tuple #[.agg #[D J 0,G E,D J 0],D J 6])∧Below w.heap.size w w'):=qH lw;have HR:=qH (show zEy L S=0∧zKD S=Q∧zEQ L S=E by unfold zEy zKD zEQ;rw [hp];exact ⟨rfl,rfl,rfl⟩);clear lw hp h hA;go_enter Tryz.func128,Tryz.ntmps128;go_wp2_with fail
  refine iw.out.mono ?_;rintro e w2 ⟨rfl,ab⟩;have hk2:=hk.below ab hk.lt;have bj:=hk2.alloc (.cells #[D J 0,G E,D J 0] 90);have ac:Below w.heap.size w (w2.alloc (.cells #[D J 0,G E,D J 0] 90)):=ab.alloc ab.size _;have c4:(w2.alloc (.cells #[D J 0,G E,D J 0] 90)).cell? ⟨rb,4,U⟩=Z (G bad):=(bj.cell 4).trans rfl;have z4:=bj.frozen 4;have HS:=qH (bj.set_ 4 (G Q));clear iw ab hk2;go_wp2_with fail
  go_ret;refine ⟨zKn (by rw [HR.out.1];rfl),?_,zCZ ac (zBD _ _)⟩;rw [HR.out.2.1,HR.out.2.2,Bool.or_true,Bool.or_false];exact ⟨B,m,d,by simpa using HS.out,Txts.keepAny (Els.below hT ac) (zBD _ _) hne,hmd,hne⟩
 | some f =>
  rw [hp] at lw;have iw:Hid (Calls Tryz.prog 166 #[W (bA S)] w fun e w'=>e=.returned (.tuple #[fgV f,D J 0])∧Below w.heap.size w w'):=qH lw;obtain ⟨ix,hix⟩:∃ix,zBa L f=ix:=⟨_,rfl⟩
  have HR:=qH (show zEy L S=ix∧zKD S=E∧zEQ L S=decide (ix=0) by unfold zEy zKD zEQ;rw [hp];exact ⟨hix,rfl,by simp only [hix]⟩);have kX:=qH (fun wx (dQ:Fgs wx A n L)=>zNR A n c L re lo f wx dQ);clear lw hp h;go_enter Tryz.func128,Tryz.ntmps128;go_wp2_with fail
  refine iw.out.mono ?_;rintro e w2 ⟨rfl,ab⟩;have cT:=hA.below ab;have hk2:=hk.below ab hk.lt;have bj:=hk2.alloc (.cells #[D J f.p,G f.r,D J f.d] 90);have qF:Blk (w2.alloc (.cells #[D J f.p,G f.r,D J f.d] 90)) w2.heap.size 90 #[D J f.p,G f.r,D J f.d]:=Blk.new _ _ _;have sH:=cT.alloc (.cells #[D J f.p,G f.r,D J f.d] 90);have ac:Below w.heap.size w (w2.alloc (.cells #[D J f.p,G f.r,D J f.d] 90)):=ab.alloc ab.size _;clear ab hk2 cT hA;go_wp2_with fail
  generalize w2.alloc (.cells #[D J f.p,G f.r,D J f.d] 90)=Y at bj qF sH ac ⊢
  have KP:=qH (show ∀wx,Below Y.heap.size Y wx→(Below Y.heap.size Y wx∧wx.cell? ⟨rb,0,U⟩=Z (H A n c)∧wx.cell? ⟨rb,1,U⟩=Z (D J re)∧wx.cell? ⟨rb,2,U⟩=Z (D J lo)∧wx.cell? ⟨w2.heap.size,0,U⟩=Z (D J f.p)∧wx.cell? ⟨w2.heap.size,1,U⟩=Z (G f.r)∧wx.cell? ⟨w2.heap.size,2,U⟩=Z (D J f.d)) from
   fun wx h=>⟨h,((bj.below h bj.lt).cell 0).trans rfl,((bj.below h bj.lt).cell 1).trans rfl,((bj.below h bj.lt).cell 2).trans rfl,((qF.below h qF.lt).cell 0).trans rfl,((qF.below h qF.lt).cell 1).trans rfl,((qF.below h qF.lt).cell 2).trans rfl⟩)
  first
   | go_region_held3 (fun wx=>Below Y.heap.size Y wx∧wx.cell? ⟨rb,0,U⟩=Z (H A n c)∧wx.cell? ⟨rb,1,U⟩=Z (D J re)∧wx.cell? ⟨rb,2,U⟩=Z (D J lo)∧wx.cell? ⟨w2.heap.size,0,U⟩=Z (D J f.p)∧wx.cell? ⟨w2.heap.size,1,U⟩=Z (G f.r)∧wx.cell? ⟨w2.heap.size,2,U⟩=Z (D J f.d)) (first | assumption | exact KP.out _ (Below.refl _ _).drew | exact KP.out _ (zAa (And.left (by assumption)) (by assumption) (Below.size (And.left (by assumption)))))
     (first
      | (go_at_call 167;refine (kX.out _ (sH.below (And.left (by assumption)))).mono ?_;rintro e wa ⟨rfl,hba⟩))
   | fail
  all_goals
   have hbf:=And.left (show Below Y.heap.size Y _∧_ from by assumption);have hka:=bj.below hbf bj.lt;have hbw:=zAa ac hbf ac.size;have c5:wa.cell? ⟨rb,5,U⟩=Z (G lost):=(hka.cell 5).trans rfl;have z5:=hka.frozen 5;have HKA:=qH (fun u=>hka.set_ 5 u);have fin:∀b:Bool,b=(lost||decide (ix=0))→Rd (wa.setCell ⟨rb,5,U⟩ (G b)) rb A n c re lo T (bad||zKD S) (lost||zEQ L S)∧w.grownBy (wa.setCell ⟨rb,5,U⟩ (G b)) (Z rb):=fun b hb=>by
    refine ⟨⟨B,m,d,?_,Txts.keepAny (Els.below hT hbw) (zBD _ _) hne,hmd,hne⟩,zCZ hbw (zBD _ _)⟩;rw [HR.out.2.1,HR.out.2.2,Bool.or_false,←hb];simpa using HKA.out (G b)
   have uh:=qH fin;have sZ:=qH (show zEy L S=ix from HR.out.1);clear hka bj qF sH ac hbf hbw hix fin kX iw KP
   cases lost with
   | true =>
    go_wp2_with fail
    go_ret;exact ⟨zKn (by rw [sZ.out]),uh.out Q (by simp)⟩
   | false =>
    by_cases h0:ix=0
    ·have k0:((ix:Int)==0)=Q:=by simp;omega
     subst h0;clear k0;go_wp2_with fail
     go_ret;exact ⟨zKn (by rw [sZ.out];rfl),uh.out Q (by simp)⟩
    ·have k0:((ix:Int)==0)=E:=by simp;omega
     have FF:=qH (uh.out E (by simp [h0]));clear h0;go_wp2_with fail
     go_ret;exact ⟨zKn (by rw [sZ.out]),FF.out⟩
end Go.Proofs.YtlmdfmnbcndhoaaGreatDoor
namespace Go.Proofs.YtlmdfmnbcndhoaaGreatDoor
open Go.RowKit
def ovT (S:List UInt8):Bool:=S==[111,118,101,114]
def unT (S:List UInt8):Bool:=S==[117,110,100,101,114]
theorem zAL (S l:List UInt8):((bA S).toList==l)=(S==l):=by rw [zAo]
set_option maxHeartbeats 3200000 in
theorem zLQ (rb:Nat) (A:Option Addr) (n c:Nat) (re lo:Int) (T:List (List UInt8)) (bad lost:Bool) (w:World) (h:Rd w rb A n c re lo T bad lost) :
  Calls Tryz.prog 147 #[.pointer (Z ⟨rb,0,U⟩)] w fun e w'=>e=.returned (G (ovT (xa T 0)))∧Rd w' rb A n c re lo T.tail ((bad||T.isEmpty)||!(ovT (xa T 0)||unT (xa T 0))) lost∧w.grownBy w' (Z rb):=by
 have HN:=qH (zHF rb A n c re lo T bad lost w h);clear h;have n1:=zAL (xa T 0) [111,118,101,114];have n2:=zAL (xa T 0) [117,110,100,101,114];obtain ⟨b1,aj⟩:∃b,ovT (xa T 0)=b:=⟨_,rfl⟩
 obtain ⟨b2,ab⟩:∃b,unT (xa T 0)=b:=⟨_,rfl⟩
 obtain ⟨b0,aa⟩:∃b,(bad||T.isEmpty)=b:=⟨_,rfl⟩
 rw [show (xa T 0==[111,118,101,114])=b1 from aj] at n1;rw [show (xa T 0==[117,110,100,101,114])=b2 from ab] at n2;rw [aa] at HN;rw [aa,aj,ab];generalize xa T 0=S at n1 n2 HN;clear aa aj ab;have fin:∀(w2:World),Rd w2 rb A n c re lo T.tail b0 lost→w.grownBy w2 (Z rb)→∃B m d,Blk w2 rb 123 (rdC A n c re lo B m d b0 lost)∧∀b:Bool,b=(b0||!(b1||b2))→Rd (w2.setCell ⟨rb,4,U⟩ (G b)) rb A n c re lo T.tail (b0||!(b1||b2)) lost∧w.grownBy (w2.setCell ⟨rb,4,U⟩ (G b)) (Z rb):=fun w2 h2 bn=>by
  obtain ⟨B,m,d,hk,hT,hmd,hne⟩:=h2.ex;refine ⟨B,m,d,hk,fun b hb=>⟨⟨B,m,d,?_,Txts.keepAny hT (zBD _ _) hne,hmd,hne⟩,zAb bn (zBD _ _)⟩⟩;rw [←hb];simpa using hk.set_ 4 (G b)
 have uh:=qH fin;clear fin;go_enter Tryz.func147,Tryz.ntmps147;go_wp2_with fail
 refine HN.out.mono ?_;rintro e w2 ⟨rfl,h2,bn⟩;obtain ⟨B,m,d,hk,hfin⟩:=uh.out w2 h2 bn;have CB:=qH hfin;have c4:w2.cell? ⟨rb,4,U⟩=Z (G b0):=(hk.cell 4).trans rfl;have z4:=hk.frozen 4;clear h2 bn hfin hk HN uh
 cases b0<;>cases b1<;>cases b2
 all_goals
  go_wp2_with fail
  go_ret;exact ⟨rfl,CB.out _ rfl⟩
end Go.Proofs.YtlmdfmnbcndhoaaGreatDoor
namespace Go.Proofs.YtlmdfmnbcndhoaaGreatDoor
open Go.RowKit
theorem zDa (S:List UInt8) (i j:Nat):(bA S).extract i j=bA ((S.take j).drop i):=by
 apply ByteArray.ext;apply Array.ext';simp [bA,List.drop_take]
theorem zDU (x:UInt8) (S:List UInt8) (w:World):(Instr.index 9 (W (bA (x :: S))) (D J 0)).run Tryz.prog w=.ok (D .u8 x.toNat) w:=by
 rw [run_index_string w 9 (bA (x :: S)) J 0 Tryz.underlying9,dif_pos (by rw [zAZ];simp)];rfl
theorem zGZ (x:UInt8) (S:List UInt8) (w:World):(Instr.slice 9 (W (bA (x :: S))) (Z (D J 1)) U U).run Tryz.prog w=.ok (W (bA S)) w:=by
 rw [run_slice_string_l w 9 (bA (x :: S)) Tryz.underlying9 J 1 (by omega) (by rw [zAZ];simp;omega),zDa,zAZ];simp
theorem zUl (x y:UInt8) (S:List UInt8) (w:World):(Instr.slice 9 (W (bA (x :: y :: S))) U (Z (D J 2)) U).run Tryz.prog w=.ok (W (bA [x,y])) w:=by
 rw [run_slice_string_h w 9 (bA (x :: y :: S)) Tryz.underlying9 J 2 (by omega) (by rw [zAZ];simp;omega),zDa];simp
theorem zLR (x y:UInt8) (S:List UInt8) (w:World):(Instr.slice 9 (W (bA (x :: y :: S))) (Z (D J 2)) U U).run Tryz.prog w=.ok (W (bA S)) w:=by
 rw [run_slice_string_l w 9 (bA (x :: y :: S)) Tryz.underlying9 J 2 (by omega) (by rw [zAZ];simp;omega),zDa,zAZ];simp
end Go.Proofs.YtlmdfmnbcndhoaaGreatDoor
namespace Go.Proofs.YtlmdfmnbcndhoaaGreatDoor
open Go.RowKit
def zGS:List UInt8→Bool×List UInt8×Bool
 | []=>(E,[],E)
 | x :: r=>if x=111 then (Q,r,Q) else if x=117 then (E,r,Q) else (E,x :: r,E)
set_option maxHeartbeats 1600000 in
theorem zEo (S:List UInt8) (w:World) :
  Calls Tryz.prog 163 #[W (bA S)] w fun e w'=>e=.returned (.tuple #[G (zGS S).1,W (bA (zGS S).2.1),G (zGS S).2.2])∧Below w.heap.size w w':=by
 have n0:=zAL S []
 cases S with
 | nil =>
  have hr:=qH (show zGS []=(E,[],E) from rfl);rw [show (([]:List UInt8)==[])=Q from rfl] at n0;rw [hr.out];go_enter Tryz.func163,Tryz.ntmps163;go_wp2_with fail
  go_ret3
  exact ⟨rfl,Below.refl _ _⟩
 | cons x r =>
  have s1:=zDU x r;have s2:=zGZ x r;rw [show (x :: r==([]:List UInt8))=E from rfl] at n0;by_cases h1:x=111
  ·subst h1;have hr:=qH (show zGS (111 :: r)=(Q,r,Q) from rfl);rw [hr.out];rw [show (((111:UInt8).toNat:Nat):Int)=111 from rfl] at s1;go_enter Tryz.func163,Tryz.ntmps163;go_wp2_with fail
   go_quiet (fail)
   go_wp2_with fail
   go_ret3
   exact ⟨rfl,zAf (Below.refl _ _) _⟩
  ·by_cases h2:x=117
   ·subst h2;have hr:=qH (show zGS (117 :: r)=(E,r,Q) from rfl);rw [hr.out];rw [show (((117:UInt8).toNat:Nat):Int)=117 from rfl] at s1;go_enter Tryz.func163,Tryz.ntmps163;go_wp2_with fail
    go_quiet (fail)
    go_wp2_with fail
    go_ret3
    exact ⟨rfl,zAf (Below.refl _ _) _⟩
   ·have hr:=qH (show zGS (x :: r)=(E,x :: r,E) by simp only [zGS];rw [if_neg h1,if_neg h2]);have k1:((x.toNat:Int) != 111)=Q:=by
     simp only [bne_iff_ne,ne_eq];intro e;exact h1 (UInt8.toNat.inj (show x.toNat=111 by omega))
    have k2:((x.toNat:Int) != 117)=Q:=by
     simp only [bne_iff_ne,ne_eq];intro e;exact h2 (UInt8.toNat.inj (show x.toNat=117 by omega))
    rw [hr.out];clear h1 h2;go_enter Tryz.func163,Tryz.ntmps163;go_wp2_with fail
    go_ret3
    exact ⟨rfl,Below.refl _ _⟩
end Go.Proofs.YtlmdfmnbcndhoaaGreatDoor
namespace Go.Proofs.YtlmdfmnbcndhoaaGreatDoor
open Go.RowKit
noncomputable def zFV (S:List UInt8):Option (Fg×List UInt8) :=
 match S with
 | x :: y :: r=>match zIH [x,y] with
  | some f=>if f.p=1 then Z (f,r) else U
  | none=>U
 | _=>U
theorem zJs (S:List UInt8):(bA S).size=S.length:=zAZ S
theorem Rd.below {w w':World} {rb:Nat} {A:Option Addr} {n c:Nat} {re lo:Int} {T:List (List UInt8)} {bad lost:Bool} (h:Rd w rb A n c re lo T bad lost) (hb:Below w.heap.size w w'):Rd w' rb A n c re lo T bad lost:=by
 obtain ⟨B,m,d,hk,hT,hmd,hne⟩:=h.ex;exact ⟨B,m,d,hk.below hb hk.lt,Els.below hT hb,hmd,hne⟩
theorem zAt {w w':World} {row:Option Nat} (h:Below w.heap.size w w'):w.grownBy w' row:=zCZ h (zBw _ _)
theorem Fgs.keepBlk {w w':World} {A:Option Addr} {n:Nat} {L:List Fg} {rb:Nat} (h:Fgs w A n L) (hg:w.grownBy w' (Z rb)) (hne:∀k,blk A=Z k→k≠rb):Fgs w' A n L:=by
 refine ⟨⟨h.len,h.le,fun h0=>?_⟩,h.2⟩;obtain ⟨g,o,e,hb,hc⟩:=h.1.2.2 h0;subst e;refine ⟨g,o,rfl,Nat.lt_of_lt_of_le hb hg.size,fun j x hx q v hv=>?_⟩;rw [World.cell?_of_block (w:=w) (w':=w') (hg.block g hb (fun e=>hne g rfl (by injection e)))];exact hc j x hx q v hv
theorem Fgs.keepR {w w':World} {A:Option Addr} {n:Nat} {L:List Fg} {rb:Nat} (h:Fgs w A n L) (hg:w.grownBy w' (Z rb)) (hne:0 < n→∀k,blk A=Z k→k < rb):Fgs w' A n L:=by
 by_cases h0:0 < n
 ·exact h.keepBlk hg (fun k hk=>Nat.ne_of_lt (hne h0 k hk))
 ·exact ⟨⟨h.1.1,h.1.2.1,fun h1=>absurd h1 h0⟩,h.2⟩
def RdS (Y:World) (rb:Nat) (A:Option Addr) (n c:Nat) (L:List Fg) (re lo:Int) (T:List (List UInt8)) (bad lost q:Bool) (wx:World):Prop :=
 Y.grownBy wx (Z rb)∧Fgs wx A n L∧∃l,Rd wx rb A n c re lo T bad l∧(l=lost∨l=(lost||q))
set_option maxHeartbeats 3200000 in
theorem zOb (rb:Nat) (A:Option Addr) (n c:Nat) (L:List Fg) (re lo:Int) (T:List (List UInt8)) (bad lost:Bool) (S:List UInt8) (w:World) (h:Rd w rb A n c re lo T bad lost) (hA:Fgs w A n L) (dz:0 < n→∀k,blk A=Z k→k < rb) :
  Calls Tryz.prog 160 #[.pointer (Z ⟨rb,0,U⟩),W (bA S)] w fun e w' =>
   (match zFV S with
    | some (f,r)=>e=.returned (.tuple #[D J (zBa L f:Int),W (bA r),G Q])∧Rd w' rb A n c re lo T bad (lost||decide (zBa L f=0))
    | none=>e=.returned (.tuple #[D J 0,W (bA S),G E])∧Rd w' rb A n c re lo T bad lost)∧w.grownBy w' (Z rb):=by
 by_cases h2:S.length < 2
 ·have hr:zFV S=U:=by
   match S,h2 with
   | [],_=>rfl
   | [x],_=>rfl
  rw [hr];have hs:=zJs S;have i0:(S.length:Int) < 2:=by omega
  go_enter Tryz.func160,Tryz.ntmps160;go_wp2_with fail
  go_ret3
  exact ⟨⟨rfl,h⟩,zBw _ _⟩
 ·obtain ⟨x,y,r,rfl⟩:∃x y r,S=x :: y :: r:=by
   match S,h2 with
   | [],h=>exact absurd (by simp) h
   | [x],h=>exact absurd (by simp) h
   | x :: y :: r,_=>exact ⟨x,y,r,rfl⟩
  have hs:=zJs (x :: y :: r);have i0:¬((x :: y :: r).length:Int) < 2:=by omega
  have t1:=zUl x y r;have t2:=zLR x y r;have lw:=zEE [x,y] w;clear h2
  cases hp:zIH [x,y] with
  | none =>
   have hr:zFV (x :: y :: r)=U:=by simp [zFV,hp]
   rw [hr];rw [hp] at lw;have iw:Hid (Calls Tryz.prog 166 #[W (bA [x,y])] w fun e w'=>e=.returned (.tuple #[.agg #[D J 0,G E,D J 0],D J 6])∧Below w.heap.size w w'):=qH lw;clear lw;go_enter Tryz.func160,Tryz.ntmps160;go_wp2_with fail
   refine iw.out.mono ?_;rintro e w2 ⟨rfl,ab⟩;go_wp2_with fail
   have ac:Below w.heap.size w (w2.alloc (.cells #[D J 0,G E,D J 0] 90)):=ab.alloc ab.size _;go_ret3
   exact ⟨⟨rfl,h.below ac⟩,zAt ac⟩
  | some f =>
   rw [hp] at lw;have iw:Hid (Calls Tryz.prog 166 #[W (bA [x,y])] w fun e w'=>e=.returned (.tuple #[fgV f,D J 0])∧Below w.heap.size w w'):=qH lw;clear lw;by_cases h1:f.p=1
   ·have hr:zFV (x :: y :: r)=Z (f,r):=by simp [zFV,hp,h1]
    have HF:=qH (show zEy L [x,y]=zBa L f∧zKD [x,y]=E∧zEQ L [x,y]=decide (zBa L f=0) by unfold zEy zKD zEQ;rw [hp];exact ⟨rfl,rfl,rfl⟩);rw [hr];have k0:(f.p != 1)=E:=by simpa using h1
    clear hp hr h1;go_enter Tryz.func160,Tryz.ntmps160;go_wp2_with fail
    refine iw.out.mono ?_;rintro e w2 ⟨rfl,ab⟩;have ac:Below w.heap.size w (w2.alloc (.cells #[D J f.p,G f.r,D J f.d] 90)):=ab.alloc ab.size _;go_wp2_with fail
    generalize w2.alloc (.cells #[D J f.p,G f.r,D J f.d] 90)=Y at ac ⊢;have hY:RdS Y rb A n c L re lo T bad lost (decide (zBa L f=0)) Y:=⟨zBw _ _,hA.below ac,lost,h.below ac,.inl rfl⟩;have HY:=qH (show RdS Y rb A n c L re lo T bad lost (decide (zBa L f=0)) Y.drew from ⟨zAt (Below.refl _ _).drew,(hA.below ac).below (Below.refl _ _).drew,lost,(h.below ac).below (Below.refl _ _).drew,.inl rfl⟩)
    have HC:=qH (show ∀wx,RdS Y rb A n c L re lo T bad lost (decide (zBa L f=0)) wx→Calls Tryz.prog 128 #[.pointer (Z ⟨rb,0,U⟩),W (bA [x,y])] wx fun e w'=>e=.returned (D J (zBa L f:Int))∧Hid (Rd w' rb A n c re lo T bad (lost||decide (zBa L f=0)))∧RdS Y rb A n c L re lo T bad lost (decide (zBa L f=0)) w' from fun wx ⟨g1,g2,l,g3,g4⟩=>by
     refine (zFq rb A n c L re lo T bad l [x,y] wx g3 g2).mono ?_
     rintro e w' ⟨rfl,k1,k2⟩
     rw [HF.out.2.1,HF.out.2.2,Bool.or_false] at k1
     have eB:(l||decide (zBa L f=0))=(lost||decide (zBa L f=0)):=by
      rcases g4 with rfl | rfl
      ·rfl
      ·cases lost<;>simp
     rw [eB] at k1
     exact ⟨zKn (by rw [HF.out.1]),qH k1,zAb g1 k2,g2.keepR k2 dz,_,k1,.inr rfl⟩)
    first
     | go_region_held3 (fun wx=>RdS Y rb A n c L re lo T bad lost (decide (zBa L f=0)) wx) (first | assumption | exact HY.out)
       (first
        | (go_at_call 128;refine (HC.out _ (by assumption)).mono ?_;rintro e wa ⟨rfl,tH,hSa⟩))
     | fail
    all_goals
     have hgf:=And.left (show RdS Y rb A n c L re lo T bad lost (decide (zBa L f=0)) _ from by assumption);go_wp2_with fail
     go_ret3
     exact ⟨⟨rfl,tH.out⟩,zCZ ac hgf⟩
   ·have hr:zFV (x :: y :: r)=U:=by simp [zFV,hp,h1]
    rw [hr];have k0:(f.p != 1)=Q:=by simpa using h1
    clear hp hr h1;go_enter Tryz.func160,Tryz.ntmps160;go_wp2_with fail
    refine iw.out.mono ?_;rintro e w2 ⟨rfl,ab⟩;have ac:Below w.heap.size w (w2.alloc (.cells #[D J f.p,G f.r,D J f.d] 90)):=ab.alloc ab.size _;go_wp2_with fail
    go_ret3
    exact ⟨⟨rfl,h.below ac⟩,zAt ac⟩
end Go.Proofs.YtlmdfmnbcndhoaaGreatDoor
namespace Go.Proofs.YtlmdfmnbcndhoaaGreatDoor
open Go
def zBx (c:UInt8):List UInt8→List (List UInt8)
 | []=>[[]]
 | b :: l=>if b=c then [] :: zBx c l else match zBx c l with
  | []=>[[b]]
  | p :: ps=>(b :: p) :: ps
theorem zHG (c:UInt8):∀l,zBx c l≠[]
 | []=>by simp [zBx]
 | b :: l=>by
  unfold zBx;split
  ·simp
  ·split<;>simp
theorem zFr (c:UInt8) (l:List UInt8):zBx c (c :: l)=[] :: zBx c l:=by rw [zBx,if_pos rfl]
theorem zDb {b c:UInt8} (h:b≠c) {l p:List UInt8} {ps:List (List UInt8)} (hl:zBx c l=p :: ps):zBx c (b :: l)=(b :: p) :: ps:=by
 rw [zBx,if_neg h,hl]
theorem zEp {c:UInt8} {r:List UInt8}:∀{h:List UInt8},c ∉ h→zBx c (h++c :: r)=h :: zBx c r
 | [],_=>zFr c r
 | b :: h,hc=>by
  have h1:c ∉ h:=fun e=>hc (List.mem_cons_of_mem _ e)
  have h2:b≠c:=fun e=>hc (by rw [e];exact List.mem_cons_self ..)
  rw [List.cons_append];exact zDb h2 (zEp h1)
theorem zHa {c:UInt8}:∀{h:List UInt8},c ∉ h→zBx c h=[h]
 | [],_=>rfl
 | b :: h,hc=>by
  have h1:c ∉ h:=fun e=>hc (List.mem_cons_of_mem _ e)
  have h2:b≠c:=fun e=>hc (by rw [e];exact List.mem_cons_self ..)
  exact zDb h2 (zHa h1)
theorem zJt (x y:List UInt8) (r:List (List UInt8)) (sep:List UInt8):Lib.join (x :: y :: r) sep=x++sep++Lib.join (y :: r) sep:=by
 rw [Lib.join_cons,Lib.join_cons];simp [Lib.joinTail]
theorem zHH {c:UInt8}:∀{ps:List (List UInt8)},ps≠[]→(∀p∈ps,c ∉ p)→zBx c (Lib.join ps [c])=ps
 | [],h,_=>absurd rfl h
 | [p],_,h=>by rw [Lib.join_one];exact zHa (h p (List.mem_cons_self ..))
 | p :: q :: r,_,h=>by
  rw [zJt,List.append_assoc,List.singleton_append,zEp (h p (List.mem_cons_self ..))];rw [zHH (by simp) (fun x hx=>h x (List.mem_cons_of_mem _ hx))]
theorem zKE (c:UInt8):∀l:List UInt8,Lib.join (zBx c l) [c]=l
 | []=>by rw [zBx,Lib.join_one]
 | b :: l=>by
  have ih:=zKE c l
  cases hs:zBx c l with
  | nil=>exact absurd hs (zHG c l)
  | cons p ps =>
   by_cases h:b=c
   ·subst h;rw [zFr,hs,zJt,←hs,ih];rfl
   ·rw [zDb h hs];rw [hs] at ih;rw [Lib.join_cons] at ih ⊢;rw [List.cons_append,ih]
theorem zRK (c:UInt8):∀l:List UInt8,∀p∈zBx c l,c ∉ p
 | [],p,hp=>by simp [zBx] at hp;subst hp;simp
 | b :: l,p,hp=>by
  have ih:=zRK c l
  cases hs:zBx c l with
  | nil=>exact absurd hs (zHG c l)
  | cons q ps =>
   rw [hs] at ih;by_cases h:b=c
   ·subst h;rw [zFr,hs] at hp;rcases List.mem_cons.1 hp with rfl | hp
    ·simp
    ·exact ih p hp
   ·rw [zDb h hs] at hp;rcases List.mem_cons.1 hp with rfl | hp
    ·intro hm;rcases List.mem_cons.1 hm with rfl | hm
     ·exact h rfl
     ·exact ih q (List.mem_cons_self ..) hm
    ·exact ih p (List.mem_cons_of_mem _ hp)
theorem zHb (c:UInt8):∀l:List UInt8,(zBx c l).length=l.count c+1
 | []=>rfl
 | b :: l=>by
  have ih:=zHb c l
  cases hs:zBx c l with
  | nil=>exact absurd hs (zHG c l)
  | cons p ps =>
   by_cases h:b=c
   ·subst h;rw [zFr,List.length_cons,ih,List.count_cons_self]
   ·rw [zDb h hs,List.count_cons_of_ne (by simpa using h),←ih,hs];rfl
theorem zCu (c:UInt8):∀l:List UInt8,∀p∈zBx c l,p.length≤l.length
 | [],p,hp=>by simp [zBx] at hp;subst hp;simp
 | b :: l,p,hp=>by
  have ih:=zCu c l
  cases hs:zBx c l with
  | nil=>exact absurd hs (zHG c l)
  | cons q ps =>
   rw [hs] at ih;by_cases h:b=c
   ·subst h;rw [zFr,hs] at hp;rcases List.mem_cons.1 hp with rfl | hp
    ·simp
    ·have:=ih p hp;simp only [List.length_cons];omega
   ·rw [zDb h hs] at hp;rcases List.mem_cons.1 hp with rfl | hp
    ·have:=ih q (List.mem_cons_self ..);simp only [List.length_cons];omega
    ·have:=ih p (List.mem_cons_of_mem _ hp);simp only [List.length_cons];omega
theorem zHI (c:UInt8):∀(k:Nat) (l:List UInt8),l.count c=k→Lib.splitK [c] 0 k l=zBx c l
 | 0,l,h=>by
  have hc:c ∉ l:=by rw [←List.count_eq_zero];exact h
  rw [zHa hc];rfl
 | k+1,l,h=>by
  have hm:c∈l:=by rw [←List.count_pos_iff];omega
  obtain ⟨a,b,rfl,hn⟩:∃a b,l=a++c :: b∧c ∉ a:=by
   clear h
   induction l with
   | nil=>cases hm
   | cons x l ih =>
    by_cases hx:x=c
    ·subst hx;exact ⟨[],l,rfl,by simp⟩
    ·have:c∈l:=by
      rcases List.mem_cons.1 hm with e | e
      ·exact absurd e.symm hx
      ·exact e
     obtain ⟨a,b,rfl,hn⟩:=ih this;exact ⟨x :: a,b,rfl,fun e=>by rcases List.mem_cons.1 e with e | e;exact hx e.symm;exact hn e⟩
  unfold Lib.splitK;rw [Lib.index_one,zPt hn];have hne:¬((a.length:Int)==-1)=Q:=fun e=>by have:=beq_iff_eq.1 e;omega
  rw [if_neg hne,zEp hn];have hk:b.count c=k:=by
   rw [List.count_append,List.count_cons_self,List.count_eq_zero.2 hn] at h;omega
  have e1:(a++c :: b).take ((a.length:Int).toNat+0)=a:=by simp
  have e2:(a++c :: b).drop ((a.length:Int).toNat + [c].length)=b:=by simp
  rw [e1,e2,zHI c k b hk]
theorem zLS (c:UInt8) (l:List UInt8):(Lib.splitB ⟨#[c]⟩ 0 (Lib.countB ⟨l.toArray⟩ ⟨#[c]⟩) ⟨l.toArray⟩)=(zBx c l).map (fun p=>(⟨p.toArray⟩:ByteArray)):=by
 have h:=Lib.splitB_data ⟨#[c]⟩ 0 (Lib.countB ⟨l.toArray⟩ ⟨#[c]⟩) ⟨l.toArray⟩;have hc:Lib.countB ⟨l.toArray⟩ ⟨#[c]⟩=l.count c:=by
  unfold Lib.countB;exact Lib.count_one c l
 rw [hc] at h ⊢;have h2:Lib.splitK [c] 0 (l.count c) l=zBx c l:=zHI c _ l rfl;have h3:(Lib.splitB ⟨#[c]⟩ 0 (l.count c) ⟨l.toArray⟩).map (·.data.toList)=zBx c l:=h.trans h2;rw [←h3,List.map_map]
 conv=>lhs;rw [←List.map_id (Lib.splitB ⟨#[c]⟩ 0 (l.count c) ⟨l.toArray⟩)]
 apply List.map_congr_left;intro x _
 cases x
 simp
end Go.Proofs.YtlmdfmnbcndhoaaGreatDoor
