/-
  Lemmas for NotesLong, part 13: contracts and plain facts. Conditions: those that each theorem names.
-/
import Derived.Test.YtlmdfmnbcndhoaaGreatDoorLg12
import Derived.Test.YtlmdfmnbcndhoaaGreatDoorLg05
import Derived.Lib.Join
import Derived.Lib.SplitLaws
namespace Go.Proofs.YtlmdfmnbcndhoaaGreatDoor
open Go.RowKit
def Txts (w:World) (A:Option Addr) (n:Nat) (T:List (List UInt8)):Prop:=Els 1 (fun S=>[zLv S]) w A n T
def xa (T:List (List UInt8)) (i:Nat):List UInt8:=(T[i]?).getD []
abbrev rdC (A:Option Addr) (n c:Nat) (re lo:Int) (B:Option Addr) (m d:Nat) (bad lost:Bool):Array Value:=#[.slice A n c,.int .i64 re,.int .i64 lo,.slice B m d,.bool bad,.bool lost]
structure Rd (w:World) (rb:Nat) (A:Option Addr) (n c:Nat) (re lo:Int) (T:List (List UInt8)) (bad lost:Bool):Prop where
 ex:∃B m d,Blk w rb 123 (rdC A n c re lo B m d bad lost)∧Txts w B m T∧m≤d∧∀k,blk B=some k→k < rb
theorem Txts.from1 {w:World} {g o n:Nat} {x:List UInt8} {T:List (List UInt8)} (h:Txts w (some ⟨g,o,none⟩) (n+1) (x :: T)):Txts w (some ⟨g,o+1,none⟩) n T:=by
 refine ⟨by have:=h.len;simpa using this,by have:=h.le;omega,fun h0=>?_⟩;obtain ⟨g',o',e,hb,hc⟩:=h.2.2 (by omega);injection e with e
 injection e with e1 e2
 subst e1;subst e2
 exact ⟨g,o+1,rfl,hb,fun j y hy q v hv=>by
  have:=hc (j+1) y (by simpa using hy) q v hv
  rwa [show o+(j+1)*1+q=o+1+j*1+q by omega] at this⟩
theorem Txts.keepBlk {w w':World} {g o n:Nat} {T:List (List UInt8)} {rb:Nat} (h:Txts w (some ⟨g,o,none⟩) n T) (hg:w.grownBy w' (some rb)) (hne:g≠rb):Txts w' (some ⟨g,o,none⟩) n T:=by
 refine ⟨h.len,h.le,fun h0=>?_⟩;obtain ⟨g',o',e,hb,hc⟩:=h.2.2 h0;injection e with e
 injection e with e1 e2
 subst e1;subst e2
 refine ⟨g,o,rfl,Nat.lt_of_lt_of_le hb hg.size,fun j x hx q v hv=>?_⟩;rw [World.cell?_of_block (w:=w) (w':=w') (hg.block g hb (fun e=>hne (by injection e)))];exact hc j x hx q v hv
set_option maxHeartbeats 1600000 in
theorem zHu (rb:Nat) (A:Option Addr) (n c:Nat) (re lo:Int) (T:List (List UInt8)) (bad lost:Bool) (w:World) (h:Rd w rb A n c re lo T bad lost) :
  Calls Tryz.prog 146 #[.pointer (some ⟨rb,0,none⟩)] w fun e w'=>e=.returned (.string (bA (xa T 0)))∧Rd w' rb A n c re lo T.tail (bad||T.isEmpty) lost∧w.grownBy w' (some rb):=by
 obtain ⟨B,m,d,hk,hT,hmd,hne⟩:=h.ex;have hle:=hT.le;have c0:w.cell? ⟨rb,3,none⟩=some (.slice B m d):=(hk.cell 3).trans rfl;have z3:=hk.frozen 3;have z4:=hk.frozen 4
 cases T with
 | nil =>
  obtain rfl:0=m:=hT.len;have h4:w.cell? ⟨rb,4,none⟩=some (.bool bad):=(hk.cell 4).trans rfl;have hS:=hk.set_ 4 (.bool true);have hg:w.grownBy (w.setCell ⟨rb,4,none⟩ (.bool true)) (some rb):=⟨rfl,rfl,rfl,by simp [World.setCell],fun k _ hne=>Below.heap_setCell _ _ _ _ (fun e=>hne (by rw [e]))⟩;have HS:=Lib.hid hS;have HG:=Lib.hid hg;clear hS hg;go_enter Tryz.func146,Tryz.ntmps146;go_wp2_with fail
  go_ret;refine ⟨rfl,⟨B,0,d,?_,Els.nil _ _,by omega,hne⟩,HG.out⟩;have:=HS.out;simpa using this
 | cons x T =>
  have hlen:T.length+1=m:=hT.len;obtain ⟨g,o,hBe,hgl,hcl⟩:=hT.2.2 (by omega);subst hBe;have hx:w.cell? ⟨g,o,none⟩=some (.string (bA x)):=hcl 0 x rfl 0 _ rfl;obtain ⟨k,hk1⟩:∃k,k=T.length:=⟨_,rfl⟩
  obtain rfl:m=k+1:=by omega
  have hT2:=Txts.from1 hT;have hgrow:∀u,w.grownBy (w.setCell ⟨rb,3,none⟩ u) (some rb):=fun u=>⟨rfl,rfl,rfl,by simp [World.setCell],fun k _ hne=>Below.heap_setCell _ _ _ _ (fun e=>hne (by rw [e]))⟩
  have HG:=Lib.hid hgrow;have hgr:g < rb:=hne g rfl;have hTk:∀u,Txts (w.setCell ⟨rb,3,none⟩ u) (some ⟨g,o+1,none⟩) k T:=fun u=>hT2.keepBlk (hgrow u) (Nat.ne_of_lt hgr)
  have HTK:=Lib.hid hTk;have HS:=Lib.hid (fun u=>hk.set_ 3 u);by_cases hd1:d=1
  ·subst hd1;obtain rfl:k=0:=by omega
   obtain rfl:T=[]:=List.length_eq_zero_iff.1 hk1.symm;clear hk1 hlen hcl hgrow hTk hT hT2;go_enter Tryz.func146,Tryz.ntmps146;go_wp2_with fail
   go_ret;exact ⟨rfl,⟨_,_,_,by simpa using HS.out _,Els.nil _ _,Nat.le_refl _,fun k hk=>by cases hk;exact hgr⟩,HG.out _⟩
  ·have hd2:1 < d:=by omega
   clear hk1 hlen hcl hgrow hTk hT hT2;go_enter Tryz.func146,Tryz.ntmps146;go_wp2_with fail
   go_ret;exact ⟨rfl,⟨_,_,_,by simpa using HS.out _,HTK.out _,by omega,fun k hk=>by cases hk;exact hgr⟩,HG.out _⟩
theorem zBx (w:World) (row:Option Nat):w.grownBy w row:=⟨rfl,rfl,rfl,Nat.le_refl _,fun _ _ _=>rfl⟩
def isB (T:List (List UInt8)) (S:List UInt8):Bool:=decide (T.head? = some S)
def isT (T:List (List UInt8)) (S:List UInt8):List (List UInt8):=if T.head? = some S then T.tail else T
theorem zJo (x:List UInt8) (T:List (List UInt8)):isB (x :: T) x=true:=by simp [isB]
theorem zGf (x:List UInt8) (T:List (List UInt8)):isT (x :: T) x=T:=by simp [isT]
theorem zSH {x S:List UInt8} (T:List (List UInt8)) (h:x≠S):isB (x :: T) S=false:=by simp [isB,h]
theorem zUY {x S:List UInt8} (T:List (List UInt8)) (h:x≠S):isT (x :: T) S=x :: T:=by simp [isT,h]
set_option maxHeartbeats 1600000 in
theorem zPi (rb:Nat) (A:Option Addr) (n c:Nat) (re lo:Int) (T:List (List UInt8)) (bad lost:Bool) (S:List UInt8) (w:World) (h:Rd w rb A n c re lo T bad lost) :
  Calls Tryz.prog 148 #[.pointer (some ⟨rb,0,none⟩),.string (bA S)] w fun e w'=>e=.returned (.bool (isB T S))∧Rd w' rb A n c re lo (isT T S) bad lost∧w.grownBy w' (some rb):=by
 obtain ⟨B,m,d,hk,hT,hmd,hne⟩:=h.ex;have hle:=hT.le;have c0:w.cell? ⟨rb,3,none⟩=some (.slice B m d):=(hk.cell 3).trans rfl;have z3:=hk.frozen 3;have HH:=Lib.hid h;clear h
 cases T with
 | nil =>
  obtain rfl:0=m:=hT.len;clear hk hT hne;go_enter Tryz.func148,Tryz.ntmps148;go_wp2_with fail
  go_ret;exact ⟨rfl,HH.out,zBx _ _⟩
 | cons x T =>
  have hlen:T.length+1=m:=hT.len;obtain ⟨g,o,hBe,hgl,hcl⟩:=hT.2.2 (by omega);subst hBe;have hx:w.cell? ⟨g,o,none⟩=some (.string (bA x)):=hcl 0 x rfl 0 _ rfl;obtain ⟨k,hk1⟩:∃k,k=T.length:=⟨_,rfl⟩
  obtain rfl:m=k+1:=by omega
  have hT2:=Txts.from1 hT;by_cases hq:x=S
  ·have n0:((bA x).toList==(bA S).toList)=true:=by rw [zFk];simpa using hq
   have hgrow:∀u,w.grownBy (w.setCell ⟨rb,3,none⟩ u) (some rb):=fun u=>⟨rfl,rfl,rfl,by simp [World.setCell],fun k _ hne=>Below.heap_setCell _ _ _ _ (fun e=>hne (by rw [e]))⟩
   have HG:=Lib.hid hgrow;have hgr:g < rb:=hne g rfl;have hTk:∀u,Txts (w.setCell ⟨rb,3,none⟩ u) (some ⟨g,o+1,none⟩) k T:=fun u=>hT2.keepBlk (hgrow u) (Nat.ne_of_lt hgr)
   have HTK:=Lib.hid hTk;have HS:=Lib.hid (fun u=>hk.set_ 3 u);have HE:=Lib.hid (show isB (x :: T) S=true∧isT (x :: T) S=T by rw [←hq];exact ⟨zJo _ _,zGf _ _⟩);clear hq HH;by_cases hd1:d=1
   ·subst hd1;obtain rfl:k=0:=by omega
    obtain rfl:T=[]:=List.length_eq_zero_iff.1 hk1.symm;clear hk1 hlen hcl hgrow hTk hT hT2;go_enter Tryz.func148,Tryz.ntmps148;go_wp2_with fail
    go_ret;exact ⟨zDI HE.out.1.symm,by rw [HE.out.2];exact ⟨_,_,_,by simpa using HS.out _,Els.nil _ _,Nat.le_refl _,fun k hk=>by cases hk;exact hgr⟩,HG.out _⟩
   ·have hd2:1 < d:=by omega
    clear hk1 hlen hcl hgrow hTk hT hT2;go_enter Tryz.func148,Tryz.ntmps148;go_wp2_with fail
    go_ret;exact ⟨zDI HE.out.1.symm,by rw [HE.out.2];exact ⟨_,_,_,by simpa using HS.out _,HTK.out _,by omega,fun k hk=>by cases hk;exact hgr⟩,HG.out _⟩
  ·have n0:((bA x).toList==(bA S).toList)=false:=by rw [zFk];simpa using hq
   have HE:=Lib.hid (show isB (x :: T) S=false∧isT (x :: T) S=x :: T from ⟨zSH _ hq,zUY _ hq⟩);clear hq hk hT hT2 hcl hlen hk1 hne;go_enter Tryz.func148,Tryz.ntmps148;go_wp2_with fail
   go_ret;exact ⟨zDI HE.out.1.symm,by rw [HE.out.2];exact HH.out,zBx _ _⟩
end Go.Proofs.YtlmdfmnbcndhoaaGreatDoor
namespace Go.Proofs.YtlmdfmnbcndhoaaGreatDoor
open Go.RowKit
noncomputable def zEx (L:List Fg) (S:List UInt8):Nat:=match zIE S with | some f=>zBb L f | none=>0
noncomputable def zKs (S:List UInt8):Bool:=(zIE S).isNone
noncomputable def zEO (L:List Fg) (S:List UInt8):Bool:=match zIE S with | some f=>decide (zBb L f=0) | none=>false
theorem zDa {a b c:World} {row:Option Nat} (h:Below a.heap.size a b) (k:b.grownBy c row):a.grownBy c row :=
 ⟨k.os.trans h.os,k.tape.trans h.tape,k.output.trans h.output,Nat.le_trans h.size k.size,fun i hi hne=>(k.block i (Nat.lt_of_lt_of_le hi h.size) hne).trans (h.block i hi)⟩
theorem zBC {w:World} {rb:Nat} (q:Nat) (u:Value):w.grownBy (w.setCell ⟨rb,q,none⟩ u) (some rb) :=
 ⟨rfl,rfl,rfl,by simp [World.setCell],fun k _ hne=>Below.heap_setCell _ _ _ _ (fun e=>hne (by rw [e]))⟩
theorem Txts.keepAny {w w':World} {B:Option Addr} {n:Nat} {T:List (List UInt8)} {rb:Nat} (h:Txts w B n T) (hg:w.grownBy w' (some rb)) (hne:∀k,blk B=some k→k < rb):Txts w' B n T:=by
 refine ⟨h.len,h.le,fun h0=>?_⟩;obtain ⟨g,o,e,hb,hc⟩:=h.2.2 h0;subst e;refine ⟨g,o,rfl,Nat.lt_of_lt_of_le hb hg.size,fun j x hx q v hv=>?_⟩;rw [World.cell?_of_block (w:=w) (w':=w') (hg.block g hb (fun e=>Nat.ne_of_lt (hne g rfl) (by injection e)))];exact hc j x hx q v hv
set_option maxHeartbeats 3200000 in
theorem zFp (rb:Nat) (A:Option Addr) (n c:Nat) (L:List Fg) (re lo:Int) (T:List (List UInt8)) (bad lost:Bool) (S:List UInt8) (w:World) (h:Rd w rb A n c re lo T bad lost) (hA:Fgs w A n L) :
  Calls Tryz.prog 128 #[.pointer (some ⟨rb,0,none⟩),.string (bA S)] w fun e w'=>e=.returned (.int .i64 (zEx L S:Int))∧Rd w' rb A n c re lo T (bad||zKs S) (lost||zEO L S)∧w.grownBy w' (some rb):=by
 obtain ⟨B,m,d,hk,hT,hmd,hne⟩:=h.ex;have hPN:=zEE S w
 cases hp:zIE S with
 | none =>
  rw [hp] at hPN;have HPN:Hid (Calls Tryz.prog 166 #[.string (bA S)] w fun e w'=>e=.returned (.tuple #[.agg #[.int .i64 0,.bool false,.int .i64 0],.int .i64 6])∧Below w.heap.size w w'):=Lib.hid hPN;have HR:=Lib.hid (show zEx L S=0∧zKs S=true∧zEO L S=false by unfold zEx zKs zEO;rw [hp];exact ⟨rfl,rfl,rfl⟩);clear hPN hp h hA;go_enter Tryz.func128,Tryz.ntmps128;go_wp2_with fail
  refine HPN.out.mono ?_;rintro e w2 ⟨rfl,hb2⟩;have hk2:=hk.below hb2 hk.lt;have hk3:=hk2.alloc (.cells #[.int .i64 0,.bool false,.int .i64 0] 90);have hb3:Below w.heap.size w (w2.alloc (.cells #[.int .i64 0,.bool false,.int .i64 0] 90)):=hb2.alloc hb2.size _;have c4:(w2.alloc (.cells #[.int .i64 0,.bool false,.int .i64 0] 90)).cell? ⟨rb,4,none⟩=some (.bool bad):=(hk3.cell 4).trans rfl;have z4:=hk3.frozen 4;have HS:=Lib.hid (hk3.set_ 4 (.bool true));clear HPN hb2 hk2;go_wp2_with fail
  go_ret;refine ⟨zKb (by rw [HR.out.1];rfl),?_,zDa hb3 (zBC _ _)⟩;rw [HR.out.2.1,HR.out.2.2,Bool.or_true,Bool.or_false];exact ⟨B,m,d,by simpa using HS.out,Txts.keepAny (Els.below hT hb3) (zBC _ _) hne,hmd,hne⟩
 | some f =>
  rw [hp] at hPN;have HPN:Hid (Calls Tryz.prog 166 #[.string (bA S)] w fun e w'=>e=.returned (.tuple #[fgV f,.int .i64 0])∧Below w.heap.size w w'):=Lib.hid hPN;obtain ⟨ix,hix⟩:∃ix,zBb L f=ix:=⟨_,rfl⟩
  have HR:=Lib.hid (show zEx L S=ix∧zKs S=false∧zEO L S=decide (ix=0) by unfold zEx zKs zEO;rw [hp];exact ⟨hix,rfl,by simp only [hix]⟩);have HIX:=Lib.hid (fun wx (hAx:Fgs wx A n L)=>zNx A n c L re lo f wx hAx);clear hPN hp h;go_enter Tryz.func128,Tryz.ntmps128;go_wp2_with fail
  refine HPN.out.mono ?_;rintro e w2 ⟨rfl,hb2⟩;have hA2:=hA.below hb2;have hk2:=hk.below hb2 hk.lt;have hk3:=hk2.alloc (.cells #[.int .i64 f.p,.bool f.r,.int .i64 f.d] 90);have hf3:Blk (w2.alloc (.cells #[.int .i64 f.p,.bool f.r,.int .i64 f.d] 90)) w2.heap.size 90 #[.int .i64 f.p,.bool f.r,.int .i64 f.d]:=Blk.new _ _ _;have hA3:=hA2.alloc (.cells #[.int .i64 f.p,.bool f.r,.int .i64 f.d] 90);have hb3:Below w.heap.size w (w2.alloc (.cells #[.int .i64 f.p,.bool f.r,.int .i64 f.d] 90)):=hb2.alloc hb2.size _;clear hb2 hk2 hA2 hA;go_wp2_with fail
  generalize w2.alloc (.cells #[.int .i64 f.p,.bool f.r,.int .i64 f.d] 90)=Y at hk3 hf3 hA3 hb3 ⊢
  have KP:=Lib.hid (show ∀wx,Below Y.heap.size Y wx→(Below Y.heap.size Y wx∧wx.cell? ⟨rb,0,none⟩=some (.slice A n c)∧wx.cell? ⟨rb,1,none⟩=some (.int .i64 re)∧wx.cell? ⟨rb,2,none⟩=some (.int .i64 lo)∧wx.cell? ⟨w2.heap.size,0,none⟩=some (.int .i64 f.p)∧wx.cell? ⟨w2.heap.size,1,none⟩=some (.bool f.r)∧wx.cell? ⟨w2.heap.size,2,none⟩=some (.int .i64 f.d)) from
   fun wx h=>⟨h,((hk3.below h hk3.lt).cell 0).trans rfl,((hk3.below h hk3.lt).cell 1).trans rfl,((hk3.below h hk3.lt).cell 2).trans rfl,((hf3.below h hf3.lt).cell 0).trans rfl,((hf3.below h hf3.lt).cell 1).trans rfl,((hf3.below h hf3.lt).cell 2).trans rfl⟩)
  first
   | go_region_held3 (fun wx=>Below Y.heap.size Y wx∧wx.cell? ⟨rb,0,none⟩=some (.slice A n c)∧wx.cell? ⟨rb,1,none⟩=some (.int .i64 re)∧wx.cell? ⟨rb,2,none⟩=some (.int .i64 lo)∧wx.cell? ⟨w2.heap.size,0,none⟩=some (.int .i64 f.p)∧wx.cell? ⟨w2.heap.size,1,none⟩=some (.bool f.r)∧wx.cell? ⟨w2.heap.size,2,none⟩=some (.int .i64 f.d)) (first | assumption | exact KP.out _ (Below.refl _ _).drew | exact KP.out _ (zAa (And.left (by assumption)) (by assumption) (Below.size (And.left (by assumption)))))
     (first
      | (go_at_call 167;refine (HIX.out _ (hA3.below (And.left (by assumption)))).mono ?_;rintro e wa ⟨rfl,hba⟩))
   | fail
  all_goals
   have hbf:=And.left (show Below Y.heap.size Y _∧_ from by assumption);have hka:=hk3.below hbf hk3.lt;have hbw:=zAa hb3 hbf hb3.size;have c5:wa.cell? ⟨rb,5,none⟩=some (.bool lost):=(hka.cell 5).trans rfl;have z5:=hka.frozen 5;have HKA:=Lib.hid (fun u=>hka.set_ 5 u);have fin:∀b:Bool,b=(lost||decide (ix=0))→Rd (wa.setCell ⟨rb,5,none⟩ (.bool b)) rb A n c re lo T (bad||zKs S) (lost||zEO L S)∧w.grownBy (wa.setCell ⟨rb,5,none⟩ (.bool b)) (some rb):=fun b hb=>by
    refine ⟨⟨B,m,d,?_,Txts.keepAny (Els.below hT hbw) (zBC _ _) hne,hmd,hne⟩,zDa hbw (zBC _ _)⟩;rw [HR.out.2.1,HR.out.2.2,Bool.or_false,←hb];simpa using HKA.out (.bool b)
   have FIN:=Lib.hid fin;have HIX0:=Lib.hid (show zEx L S=ix from HR.out.1);clear hka hk3 hf3 hA3 hb3 hbf hbw hix fin HIX HPN KP
   cases lost with
   | true =>
    go_wp2_with fail
    go_ret;exact ⟨zKb (by rw [HIX0.out]),FIN.out true (by simp)⟩
   | false =>
    by_cases h0:ix=0
    ·have k0:((ix:Int)==0)=true:=by simp;omega
     subst h0;clear k0;go_wp2_with fail
     go_ret;exact ⟨zKb (by rw [HIX0.out];rfl),FIN.out true (by simp)⟩
    ·have k0:((ix:Int)==0)=false:=by simp;omega
     have FF:=Lib.hid (FIN.out false (by simp [h0]));clear h0;go_wp2_with fail
     go_ret;exact ⟨zKb (by rw [HIX0.out]),FF.out⟩
end Go.Proofs.YtlmdfmnbcndhoaaGreatDoor
namespace Go.Proofs.YtlmdfmnbcndhoaaGreatDoor
open Go.RowKit
def ovT (S:List UInt8):Bool:=S==[111,118,101,114]
def unT (S:List UInt8):Bool:=S==[117,110,100,101,114]
theorem zAJ (S l:List UInt8):((bA S).toList==l)=(S==l):=by rw [zAE]
set_option maxHeartbeats 3200000 in
theorem zLB (rb:Nat) (A:Option Addr) (n c:Nat) (re lo:Int) (T:List (List UInt8)) (bad lost:Bool) (w:World) (h:Rd w rb A n c re lo T bad lost) :
  Calls Tryz.prog 147 #[.pointer (some ⟨rb,0,none⟩)] w fun e w'=>e=.returned (.bool (ovT (xa T 0)))∧Rd w' rb A n c re lo T.tail ((bad||T.isEmpty)||!(ovT (xa T 0)||unT (xa T 0))) lost∧w.grownBy w' (some rb):=by
 have HN:=Lib.hid (zHu rb A n c re lo T bad lost w h);clear h;have n1:=zAJ (xa T 0) [111,118,101,114];have n2:=zAJ (xa T 0) [117,110,100,101,114];obtain ⟨b1,hb1⟩:∃b,ovT (xa T 0)=b:=⟨_,rfl⟩
 obtain ⟨b2,hb2⟩:∃b,unT (xa T 0)=b:=⟨_,rfl⟩
 obtain ⟨b0,hb0⟩:∃b,(bad||T.isEmpty)=b:=⟨_,rfl⟩
 rw [show (xa T 0==[111,118,101,114])=b1 from hb1] at n1;rw [show (xa T 0==[117,110,100,101,114])=b2 from hb2] at n2;rw [hb0] at HN;rw [hb0,hb1,hb2];generalize xa T 0=S at n1 n2 HN;clear hb0 hb1 hb2;have fin:∀(w2:World),Rd w2 rb A n c re lo T.tail b0 lost→w.grownBy w2 (some rb)→∃B m d,Blk w2 rb 123 (rdC A n c re lo B m d b0 lost)∧∀b:Bool,b=(b0||!(b1||b2))→Rd (w2.setCell ⟨rb,4,none⟩ (.bool b)) rb A n c re lo T.tail (b0||!(b1||b2)) lost∧w.grownBy (w2.setCell ⟨rb,4,none⟩ (.bool b)) (some rb):=fun w2 h2 hg2=>by
  obtain ⟨B,m,d,hk,hT,hmd,hne⟩:=h2.ex;refine ⟨B,m,d,hk,fun b hb=>⟨⟨B,m,d,?_,Txts.keepAny hT (zBC _ _) hne,hmd,hne⟩,zAb hg2 (zBC _ _)⟩⟩;rw [←hb];simpa using hk.set_ 4 (.bool b)
 have FIN:=Lib.hid fin;clear fin;go_enter Tryz.func147,Tryz.ntmps147;go_wp2_with fail
 refine HN.out.mono ?_;rintro e w2 ⟨rfl,h2,hg2⟩;obtain ⟨B,m,d,hk,hfin⟩:=FIN.out w2 h2 hg2;have HFIN:=Lib.hid hfin;have c4:w2.cell? ⟨rb,4,none⟩=some (.bool b0):=(hk.cell 4).trans rfl;have z4:=hk.frozen 4;clear h2 hg2 hfin hk HN FIN
 cases b0<;>cases b1<;>cases b2
 all_goals
  go_wp2_with fail
  go_ret;exact ⟨rfl,HFIN.out _ rfl⟩
end Go.Proofs.YtlmdfmnbcndhoaaGreatDoor
namespace Go.Proofs.YtlmdfmnbcndhoaaGreatDoor
open Go.RowKit
theorem zDb (S:List UInt8) (i j:Nat):(bA S).extract i j=bA ((S.take j).drop i):=by
 apply ByteArray.ext;apply Array.ext';simp [bA,List.drop_take]
theorem zDR (x:UInt8) (S:List UInt8) (w:World):(Instr.index 9 (.string (bA (x :: S))) (.int .i64 0)).run Tryz.prog w=.ok (.int .u8 x.toNat) w:=by
 rw [run_index_string w 9 (bA (x :: S)) .i64 0 Tryz.underlying9,dif_pos (by rw [zBc];simp)];rfl
theorem zGP (x:UInt8) (S:List UInt8) (w:World):(Instr.slice 9 (.string (bA (x :: S))) (some (.int .i64 1)) none none).run Tryz.prog w=.ok (.string (bA S)) w:=by
 rw [run_slice_string_l w 9 (bA (x :: S)) Tryz.underlying9 .i64 1 (by omega) (by rw [zBc];simp;omega),zDb,zBc];simp
theorem zTx (x y:UInt8) (S:List UInt8) (w:World):(Instr.slice 9 (.string (bA (x :: y :: S))) none (some (.int .i64 2)) none).run Tryz.prog w=.ok (.string (bA [x,y])) w:=by
 rw [run_slice_string_h w 9 (bA (x :: y :: S)) Tryz.underlying9 .i64 2 (by omega) (by rw [zBc];simp;omega),zDb];simp
theorem zLC (x y:UInt8) (S:List UInt8) (w:World):(Instr.slice 9 (.string (bA (x :: y :: S))) (some (.int .i64 2)) none none).run Tryz.prog w=.ok (.string (bA S)) w:=by
 rw [run_slice_string_l w 9 (bA (x :: y :: S)) Tryz.underlying9 .i64 2 (by omega) (by rw [zBc];simp;omega),zDb,zBc];simp
end Go.Proofs.YtlmdfmnbcndhoaaGreatDoor
namespace Go.Proofs.YtlmdfmnbcndhoaaGreatDoor
open Go.RowKit
def zGJ:List UInt8→Bool×List UInt8×Bool
 | []=>(false,[],false)
 | x :: r=>if x=111 then (true,r,true) else if x=117 then (false,r,true) else (false,x :: r,false)
set_option maxHeartbeats 1600000 in
theorem zEm (S:List UInt8) (w:World) :
  Calls Tryz.prog 163 #[.string (bA S)] w fun e w'=>e=.returned (.tuple #[.bool (zGJ S).1,.string (bA (zGJ S).2.1),.bool (zGJ S).2.2])∧Below w.heap.size w w':=by
 have n0:=zAJ S []
 cases S with
 | nil =>
  have hr:=Lib.hid (show zGJ []=(false,[],false) from rfl);rw [show (([]:List UInt8)==[])=true from rfl] at n0;rw [hr.out];go_enter Tryz.func163,Tryz.ntmps163;go_wp2_with fail
  go_ret3
  exact ⟨rfl,Below.refl _ _⟩
 | cons x r =>
  have s1:=zDR x r;have s2:=zGP x r;rw [show (x :: r==([]:List UInt8))=false from rfl] at n0;by_cases h1:x=111
  ·subst h1;have hr:=Lib.hid (show zGJ (111 :: r)=(true,r,true) from rfl);rw [hr.out];rw [show (((111:UInt8).toNat:Nat):Int)=111 from rfl] at s1;go_enter Tryz.func163,Tryz.ntmps163;go_wp2_with fail
   go_quiet (fail)
   go_wp2_with fail
   go_ret3
   exact ⟨rfl,zAf (Below.refl _ _) _⟩
  ·by_cases h2:x=117
   ·subst h2;have hr:=Lib.hid (show zGJ (117 :: r)=(false,r,true) from rfl);rw [hr.out];rw [show (((117:UInt8).toNat:Nat):Int)=117 from rfl] at s1;go_enter Tryz.func163,Tryz.ntmps163;go_wp2_with fail
    go_quiet (fail)
    go_wp2_with fail
    go_ret3
    exact ⟨rfl,zAf (Below.refl _ _) _⟩
   ·have hr:=Lib.hid (show zGJ (x :: r)=(false,x :: r,false) by simp only [zGJ];rw [if_neg h1,if_neg h2]);have k1:((x.toNat:Int) != 111)=true:=by
     simp only [bne_iff_ne,ne_eq];intro e;exact h1 (UInt8.toNat.inj (show x.toNat=111 by omega))
    have k2:((x.toNat:Int) != 117)=true:=by
     simp only [bne_iff_ne,ne_eq];intro e;exact h2 (UInt8.toNat.inj (show x.toNat=117 by omega))
    rw [hr.out];clear h1 h2;go_enter Tryz.func163,Tryz.ntmps163;go_wp2_with fail
    go_ret3
    exact ⟨rfl,Below.refl _ _⟩
end Go.Proofs.YtlmdfmnbcndhoaaGreatDoor
namespace Go.Proofs.YtlmdfmnbcndhoaaGreatDoor
open Go.RowKit
noncomputable def zFT (S:List UInt8):Option (Fg×List UInt8) :=
 match S with
 | x :: y :: r=>match zIE [x,y] with
  | some f=>if f.p=1 then some (f,r) else none
  | none=>none
 | _=>none
theorem zJp (S:List UInt8):(bA S).size=S.length:=zBc S
theorem Rd.below {w w':World} {rb:Nat} {A:Option Addr} {n c:Nat} {re lo:Int} {T:List (List UInt8)} {bad lost:Bool} (h:Rd w rb A n c re lo T bad lost) (hb:Below w.heap.size w w'):Rd w' rb A n c re lo T bad lost:=by
 obtain ⟨B,m,d,hk,hT,hmd,hne⟩:=h.ex;exact ⟨B,m,d,hk.below hb hk.lt,Els.below hT hb,hmd,hne⟩
theorem zAw {w w':World} {row:Option Nat} (h:Below w.heap.size w w'):w.grownBy w' row:=zDa h (zBx _ _)
theorem Fgs.keepBlk {w w':World} {A:Option Addr} {n:Nat} {L:List Fg} {rb:Nat} (h:Fgs w A n L) (hg:w.grownBy w' (some rb)) (hne:∀k,blk A=some k→k≠rb):Fgs w' A n L:=by
 refine ⟨⟨h.len,h.le,fun h0=>?_⟩,h.2⟩;obtain ⟨g,o,e,hb,hc⟩:=h.1.2.2 h0;subst e;refine ⟨g,o,rfl,Nat.lt_of_lt_of_le hb hg.size,fun j x hx q v hv=>?_⟩;rw [World.cell?_of_block (w:=w) (w':=w') (hg.block g hb (fun e=>hne g rfl (by injection e)))];exact hc j x hx q v hv
theorem Fgs.keepR {w w':World} {A:Option Addr} {n:Nat} {L:List Fg} {rb:Nat} (h:Fgs w A n L) (hg:w.grownBy w' (some rb)) (hne:0 < n→∀k,blk A=some k→k < rb):Fgs w' A n L:=by
 by_cases h0:0 < n
 ·exact h.keepBlk hg (fun k hk=>Nat.ne_of_lt (hne h0 k hk))
 ·exact ⟨⟨h.1.1,h.1.2.1,fun h1=>absurd h1 h0⟩,h.2⟩
def RdS (Y:World) (rb:Nat) (A:Option Addr) (n c:Nat) (L:List Fg) (re lo:Int) (T:List (List UInt8)) (bad lost q:Bool) (wx:World):Prop :=
 Y.grownBy wx (some rb)∧Fgs wx A n L∧∃l,Rd wx rb A n c re lo T bad l∧(l=lost∨l=(lost||q))
set_option maxHeartbeats 3200000 in
theorem zNI (rb:Nat) (A:Option Addr) (n c:Nat) (L:List Fg) (re lo:Int) (T:List (List UInt8)) (bad lost:Bool) (S:List UInt8) (w:World) (h:Rd w rb A n c re lo T bad lost) (hA:Fgs w A n L) (hAr:0 < n→∀k,blk A=some k→k < rb) :
  Calls Tryz.prog 160 #[.pointer (some ⟨rb,0,none⟩),.string (bA S)] w fun e w' =>
   (match zFT S with
    | some (f,r)=>e=.returned (.tuple #[.int .i64 (zBb L f:Int),.string (bA r),.bool true])∧Rd w' rb A n c re lo T bad (lost||decide (zBb L f=0))
    | none=>e=.returned (.tuple #[.int .i64 0,.string (bA S),.bool false])∧Rd w' rb A n c re lo T bad lost)∧w.grownBy w' (some rb):=by
 by_cases h2:S.length < 2
 ·have hr:zFT S=none:=by
   match S,h2 with
   | [],_=>rfl
   | [x],_=>rfl
  rw [hr];have hs:=zJp S;have i0:(S.length:Int) < 2:=by omega
  go_enter Tryz.func160,Tryz.ntmps160;go_wp2_with fail
  go_ret3
  exact ⟨⟨rfl,h⟩,zBx _ _⟩
 ·obtain ⟨x,y,r,rfl⟩:∃x y r,S=x :: y :: r:=by
   match S,h2 with
   | [],h=>exact absurd (by simp) h
   | [x],h=>exact absurd (by simp) h
   | x :: y :: r,_=>exact ⟨x,y,r,rfl⟩
  have hs:=zJp (x :: y :: r);have i0:¬((x :: y :: r).length:Int) < 2:=by omega
  have t1:=zTx x y r;have t2:=zLC x y r;have hPN:=zEE [x,y] w;clear h2
  cases hp:zIE [x,y] with
  | none =>
   have hr:zFT (x :: y :: r)=none:=by simp [zFT,hp]
   rw [hr];rw [hp] at hPN;have HPN:Hid (Calls Tryz.prog 166 #[.string (bA [x,y])] w fun e w'=>e=.returned (.tuple #[.agg #[.int .i64 0,.bool false,.int .i64 0],.int .i64 6])∧Below w.heap.size w w'):=Lib.hid hPN;clear hPN;go_enter Tryz.func160,Tryz.ntmps160;go_wp2_with fail
   refine HPN.out.mono ?_;rintro e w2 ⟨rfl,hb2⟩;go_wp2_with fail
   have hb3:Below w.heap.size w (w2.alloc (.cells #[.int .i64 0,.bool false,.int .i64 0] 90)):=hb2.alloc hb2.size _;go_ret3
   exact ⟨⟨rfl,h.below hb3⟩,zAw hb3⟩
  | some f =>
   rw [hp] at hPN;have HPN:Hid (Calls Tryz.prog 166 #[.string (bA [x,y])] w fun e w'=>e=.returned (.tuple #[fgV f,.int .i64 0])∧Below w.heap.size w w'):=Lib.hid hPN;clear hPN;by_cases h1:f.p=1
   ·have hr:zFT (x :: y :: r)=some (f,r):=by simp [zFT,hp,h1]
    have HF:=Lib.hid (show zEx L [x,y]=zBb L f∧zKs [x,y]=false∧zEO L [x,y]=decide (zBb L f=0) by unfold zEx zKs zEO;rw [hp];exact ⟨rfl,rfl,rfl⟩);rw [hr];have k0:(f.p != 1)=false:=by simpa using h1
    clear hp hr h1;go_enter Tryz.func160,Tryz.ntmps160;go_wp2_with fail
    refine HPN.out.mono ?_;rintro e w2 ⟨rfl,hb2⟩;have hb3:Below w.heap.size w (w2.alloc (.cells #[.int .i64 f.p,.bool f.r,.int .i64 f.d] 90)):=hb2.alloc hb2.size _;go_wp2_with fail
    generalize w2.alloc (.cells #[.int .i64 f.p,.bool f.r,.int .i64 f.d] 90)=Y at hb3 ⊢;have hY:RdS Y rb A n c L re lo T bad lost (decide (zBb L f=0)) Y:=⟨zBx _ _,hA.below hb3,lost,h.below hb3,.inl rfl⟩;have HY:=Lib.hid (show RdS Y rb A n c L re lo T bad lost (decide (zBb L f=0)) Y.drew from ⟨zAw (Below.refl _ _).drew,(hA.below hb3).below (Below.refl _ _).drew,lost,(h.below hb3).below (Below.refl _ _).drew,.inl rfl⟩)
    have HC:=Lib.hid (show ∀wx,RdS Y rb A n c L re lo T bad lost (decide (zBb L f=0)) wx→Calls Tryz.prog 128 #[.pointer (some ⟨rb,0,none⟩),.string (bA [x,y])] wx fun e w'=>e=.returned (.int .i64 (zBb L f:Int))∧Hid (Rd w' rb A n c re lo T bad (lost||decide (zBb L f=0)))∧RdS Y rb A n c L re lo T bad lost (decide (zBb L f=0)) w' from fun wx ⟨g1,g2,l,g3,g4⟩=>by
     refine (zFp rb A n c L re lo T bad l [x,y] wx g3 g2).mono ?_
     rintro e w' ⟨rfl,k1,k2⟩
     rw [HF.out.2.1,HF.out.2.2,Bool.or_false] at k1
     have hl2:(l||decide (zBb L f=0))=(lost||decide (zBb L f=0)):=by
      rcases g4 with rfl | rfl
      ·rfl
      ·cases lost<;>simp
     rw [hl2] at k1
     exact ⟨zKb (by rw [HF.out.1]),Lib.hid k1,zAb g1 k2,g2.keepR k2 hAr,_,k1,.inr rfl⟩)
    first
     | go_region_held3 (fun wx=>RdS Y rb A n c L re lo T bad lost (decide (zBb L f=0)) wx) (first | assumption | exact HY.out)
       (first
        | (go_at_call 128;refine (HC.out _ (by assumption)).mono ?_;rintro e wa ⟨rfl,hRa,hSa⟩))
     | fail
    all_goals
     have hgf:=And.left (show RdS Y rb A n c L re lo T bad lost (decide (zBb L f=0)) _ from by assumption);go_wp2_with fail
     go_ret3
     exact ⟨⟨rfl,hRa.out⟩,zDa hb3 hgf⟩
   ·have hr:zFT (x :: y :: r)=none:=by simp [zFT,hp,h1]
    rw [hr];have k0:(f.p != 1)=true:=by simpa using h1
    clear hp hr h1;go_enter Tryz.func160,Tryz.ntmps160;go_wp2_with fail
    refine HPN.out.mono ?_;rintro e w2 ⟨rfl,hb2⟩;have hb3:Below w.heap.size w (w2.alloc (.cells #[.int .i64 f.p,.bool f.r,.int .i64 f.d] 90)):=hb2.alloc hb2.size _;go_wp2_with fail
    go_ret3
    exact ⟨⟨rfl,h.below hb3⟩,zAw hb3⟩
end Go.Proofs.YtlmdfmnbcndhoaaGreatDoor
namespace Go.Proofs.YtlmdfmnbcndhoaaGreatDoor
open Go
def zBo (c:UInt8):List UInt8→List (List UInt8)
 | []=>[[]]
 | b :: l=>if b=c then [] :: zBo c l else match zBo c l with
  | []=>[[b]]
  | p :: ps=>(b :: p) :: ps
theorem zHv (c:UInt8):∀l,zBo c l≠[]
 | []=>by simp [zBo]
 | b :: l=>by
  unfold zBo;split
  ·simp
  ·split<;>simp
theorem zFq (c:UInt8) (l:List UInt8):zBo c (c :: l)=[] :: zBo c l:=by rw [zBo,if_pos rfl]
theorem zDc {b c:UInt8} (h:b≠c) {l p:List UInt8} {ps:List (List UInt8)} (hl:zBo c l=p :: ps):zBo c (b :: l)=(b :: p) :: ps:=by
 rw [zBo,if_neg h,hl]
theorem zEn {c:UInt8} {r:List UInt8}:∀{h:List UInt8},c ∉ h→zBo c (h++c :: r)=h :: zBo c r
 | [],_=>zFq c r
 | b :: h,hc=>by
  have h1:c ∉ h:=fun e=>hc (List.mem_cons_of_mem _ e)
  have h2:b≠c:=fun e=>hc (by rw [e];exact List.mem_cons_self ..)
  rw [List.cons_append];exact zDc h2 (zEn h1)
theorem zFr {c:UInt8}:∀{h:List UInt8},c ∉ h→zBo c h=[h]
 | [],_=>rfl
 | b :: h,hc=>by
  have h1:c ∉ h:=fun e=>hc (List.mem_cons_of_mem _ e)
  have h2:b≠c:=fun e=>hc (by rw [e];exact List.mem_cons_self ..)
  exact zDc h2 (zFr h1)
theorem zJq (x y:List UInt8) (r:List (List UInt8)) (sep:List UInt8):Lib.join (x :: y :: r) sep=x++sep++Lib.join (y :: r) sep:=by
 rw [Lib.join_cons,Lib.join_cons];simp [Lib.joinTail]
theorem zHw {c:UInt8}:∀{ps:List (List UInt8)},ps≠[]→(∀p∈ps,c ∉ p)→zBo c (Lib.join ps [c])=ps
 | [],h,_=>absurd rfl h
 | [p],_,h=>by rw [Lib.join_one];exact zFr (h p (List.mem_cons_self ..))
 | p :: q :: r,_,h=>by
  rw [zJq,List.append_assoc,List.singleton_append,zEn (h p (List.mem_cons_self ..))];rw [zHw (by simp) (fun x hx=>h x (List.mem_cons_of_mem _ hx))]
theorem zKt (c:UInt8):∀l:List UInt8,Lib.join (zBo c l) [c]=l
 | []=>by rw [zBo,Lib.join_one]
 | b :: l=>by
  have ih:=zKt c l
  cases hs:zBo c l with
  | nil=>exact absurd hs (zHv c l)
  | cons p ps =>
   by_cases h:b=c
   ·subst h;rw [zFq,hs,zJq,←hs,ih];rfl
   ·rw [zDc h hs];rw [hs] at ih;rw [Lib.join_cons] at ih ⊢;rw [List.cons_append,ih]
theorem zRd (c:UInt8):∀l:List UInt8,∀p∈zBo c l,c ∉ p
 | [],p,hp=>by simp [zBo] at hp;subst hp;simp
 | b :: l,p,hp=>by
  have ih:=zRd c l
  cases hs:zBo c l with
  | nil=>exact absurd hs (zHv c l)
  | cons q ps =>
   rw [hs] at ih;by_cases h:b=c
   ·subst h;rw [zFq,hs] at hp;rcases List.mem_cons.1 hp with rfl | hp
    ·simp
    ·exact ih p hp
   ·rw [zDc h hs] at hp;rcases List.mem_cons.1 hp with rfl | hp
    ·intro hm;rcases List.mem_cons.1 hm with rfl | hm
     ·exact h rfl
     ·exact ih q (List.mem_cons_self ..) hm
    ·exact ih p (List.mem_cons_of_mem _ hp)
theorem zGQ (c:UInt8):∀l:List UInt8,(zBo c l).length=l.count c+1
 | []=>rfl
 | b :: l=>by
  have ih:=zGQ c l
  cases hs:zBo c l with
  | nil=>exact absurd hs (zHv c l)
  | cons p ps =>
   by_cases h:b=c
   ·subst h;rw [zFq,List.length_cons,ih,List.count_cons_self]
   ·rw [zDc h hs,List.count_cons_of_ne (by simpa using h),←ih,hs];rfl
theorem zCy (c:UInt8):∀l:List UInt8,∀p∈zBo c l,p.length≤l.length
 | [],p,hp=>by simp [zBo] at hp;subst hp;simp
 | b :: l,p,hp=>by
  have ih:=zCy c l
  cases hs:zBo c l with
  | nil=>exact absurd hs (zHv c l)
  | cons q ps =>
   rw [hs] at ih;by_cases h:b=c
   ·subst h;rw [zFq,hs] at hp;rcases List.mem_cons.1 hp with rfl | hp
    ·simp
    ·have:=ih p hp;simp only [List.length_cons];omega
   ·rw [zDc h hs] at hp;rcases List.mem_cons.1 hp with rfl | hp
    ·have:=ih q (List.mem_cons_self ..);simp only [List.length_cons];omega
    ·have:=ih p (List.mem_cons_of_mem _ hp);simp only [List.length_cons];omega
theorem zHx (c:UInt8):∀(k:Nat) (l:List UInt8),l.count c=k→Lib.splitK [c] 0 k l=zBo c l
 | 0,l,h=>by
  have hc:c ∉ l:=by rw [←List.count_eq_zero];exact h
  rw [zFr hc];rfl
 | k+1,l,h=>by
  have hm:c∈l:=by rw [←List.count_pos_iff];omega
  obtain ⟨a,b,rfl,hn⟩:∃a b,l=a++c :: b∧c ∉ a:=by
   clear h
   induction l with
   | nil=>cases hm
   | cons x l ih =>
    by_cases hx:x=c
    ·subst hx;exact ⟨[],l,rfl,by simp⟩
    ·have:c∈l:=by
      rcases List.mem_cons.1 hm with e | e
      ·exact absurd e.symm hx
      ·exact e
     obtain ⟨a,b,rfl,hn⟩:=ih this;exact ⟨x :: a,b,rfl,fun e=>by rcases List.mem_cons.1 e with e | e;exact hx e.symm;exact hn e⟩
  unfold Lib.splitK;rw [Lib.index_one,zOI hn];have hne:¬((a.length:Int)==-1)=true:=fun e=>by have:=beq_iff_eq.1 e;omega
  rw [if_neg hne,zEn hn];have hk:b.count c=k:=by
   rw [List.count_append,List.count_cons_self,List.count_eq_zero.2 hn] at h;omega
  have e1:(a++c :: b).take ((a.length:Int).toNat+0)=a:=by simp
  have e2:(a++c :: b).drop ((a.length:Int).toNat + [c].length)=b:=by simp
  rw [e1,e2,zHx c k b hk]
theorem zLD (c:UInt8) (l:List UInt8):(Lib.splitB ⟨#[c]⟩ 0 (Lib.countB ⟨l.toArray⟩ ⟨#[c]⟩) ⟨l.toArray⟩)=(zBo c l).map (fun p=>(⟨p.toArray⟩:ByteArray)):=by
 have h:=Lib.splitB_data ⟨#[c]⟩ 0 (Lib.countB ⟨l.toArray⟩ ⟨#[c]⟩) ⟨l.toArray⟩;have hc:Lib.countB ⟨l.toArray⟩ ⟨#[c]⟩=l.count c:=by
  unfold Lib.countB;exact Lib.count_one c l
 rw [hc] at h ⊢;have h2:Lib.splitK [c] 0 (l.count c) l=zBo c l:=zHx c _ l rfl;have h3:(Lib.splitB ⟨#[c]⟩ 0 (l.count c) ⟨l.toArray⟩).map (·.data.toList)=zBo c l:=h.trans h2;rw [←h3,List.map_map]
 conv=>lhs;rw [←List.map_id (Lib.splitB ⟨#[c]⟩ 0 (l.count c) ⟨l.toArray⟩)]
 apply List.map_congr_left;intro x _
 cases x
 simp
end Go.Proofs.YtlmdfmnbcndhoaaGreatDoor
