/-
  Lemmas, part 11. Conditions: each theorem's own.
-/
import Derived.Test.YtlmdfmnbcndhoaaGreatDoorRi10
import Derived.Test.YtlmdfmnbcndhoaaGreatDoorRi03
import Derived.Lib.Join
import Derived.Lib.SplitLaws
namespace Go.Proofs.YtlmdfmnbcndhoaaGreatDoor
open Go.RowKit
noncomputable def zDg (L:List Fg) (S:List UInt8):Nat:=match zFP S with | some f=>zAG L f | none=>0
noncomputable def zJO (S:List UInt8):Bool:=(zFP S).isNone
noncomputable def zEh (L:List Fg) (S:List UInt8):Bool:=match zFP S with | some f=>decide (zAG L f=0) | none=>false
theorem zCF {a b c:World} {row:Option Nat} (h:Below a.heap.size a b) (k:b.grownBy c row):a.grownBy c row :=
 ⟨k.os.trans h.os,k.tape.trans h.tape,k.output.trans h.output,Nat.le_trans h.size k.size,fun i hi hne=>(k.block i (Nat.lt_of_lt_of_le hi h.size) hne).trans (h.block i hi)⟩
theorem zBn {w:World} {rb:Nat} (q:Nat) (u:Value):w.grownBy (w.setCell ⟨rb,q,none⟩ u) (some rb) :=
 ⟨rfl,rfl,rfl,by simp [World.setCell],fun k _ hne=>Below.heap_setCell _ _ _ _ (fun e=>hne (by rw [e]))⟩
theorem Txts.keepAny {w w':World} {B:Option Addr} {n:Nat} {T:List (List UInt8)} {rb:Nat} (h:Txts w B n T) (hg:w.grownBy w' (some rb)) (hne:∀k,blk B=some k→k < rb):Txts w' B n T:=by
 refine ⟨h.len,h.le,fun h0=>?_⟩;obtain ⟨g,o,e,hb,hc⟩:=h.2.2 h0;subst e;refine ⟨g,o,rfl,Nat.lt_of_lt_of_le hb hg.size,fun j x hx q v hv=>?_⟩;rw [World.cell?_of_block (w:=w) (w':=w') (hg.block g hb (fun e=>Nat.ne_of_lt (hne g rfl) (by injection e)))];exact hc j x hx q v hv
set_option maxHeartbeats 3200000 in
theorem zEC (rb:Nat) (A:Option Addr) (n c:Nat) (L:List Fg) (re lo:Int) (T:List (List UInt8)) (bad lost:Bool) (S:List UInt8) (w:World) (h:Rd w rb A n c re lo T bad lost) (hA:Fgs w A n L) :
  Calls Tryz.prog 128 #[.pointer (some ⟨rb,0,none⟩),.string (bA S)] w fun e w'=>e=.returned (.int .i64 (zDg L S:Int))∧Rd w' rb A n c re lo T (bad||zJO S) (lost||zEh L S)∧w.grownBy w' (some rb):=by
 obtain ⟨B,m,d,hk,hT,hmd,hne⟩:=h.ex;have hPN:=zDY S w
 cases hp:zFP S with
 | none =>
  rw [hp] at hPN;have HPN:Hid (Calls Tryz.prog 166 #[.string (bA S)] w fun e w'=>e=.returned (.tuple #[.agg #[.int .i64 0,.bool false,.int .i64 0],.int .i64 6])∧Below w.heap.size w w'):=qH hPN;have HR:=qH (show zDg L S=0∧zJO S=true∧zEh L S=false by unfold zDg zJO zEh;rw [hp];exact ⟨rfl,rfl,rfl⟩);clear hPN hp h hA;go_enter Tryz.func128,Tryz.ntmps128;go_wp2_with fail
  refine HPN.out.mono ?_;rintro e w2 ⟨rfl,hb2⟩;have hk2:=hk.below hb2 hk.lt;have hk3:=hk2.alloc (.cells #[.int .i64 0,.bool false,.int .i64 0] 90);have hb3:Below w.heap.size w (w2.alloc (.cells #[.int .i64 0,.bool false,.int .i64 0] 90)):=hb2.alloc hb2.size _;have c4:(w2.alloc (.cells #[.int .i64 0,.bool false,.int .i64 0] 90)).cell? ⟨rb,4,none⟩=some (.bool bad):=(hk3.cell 4).trans rfl;have z4:=hk3.frozen 4;have HS:=qH (hk3.set_ 4 (.bool true));clear HPN hb2 hk2;go_wp2_with fail
  go_ret;refine ⟨zIm (by rw [HR.out.1];rfl),?_,zCF hb3 (zBn _ _)⟩;rw [HR.out.2.1,HR.out.2.2,Bool.or_true,Bool.or_false];exact ⟨B,m,d,by simpa using HS.out,Txts.keepAny (Els.below hT hb3) (zBn _ _) hne,hmd,hne⟩
 | some f =>
  rw [hp] at hPN;have HPN:Hid (Calls Tryz.prog 166 #[.string (bA S)] w fun e w'=>e=.returned (.tuple #[fgV f,.int .i64 0])∧Below w.heap.size w w'):=qH hPN;obtain ⟨ix,hix⟩:∃ix,zAG L f=ix:=⟨_,rfl⟩
  have HR:=qH (show zDg L S=ix∧zJO S=false∧zEh L S=decide (ix=0) by unfold zDg zJO zEh;rw [hp];exact ⟨hix,rfl,by simp only [hix]⟩);have HIX:=qH (fun wx (hAx:Fgs wx A n L)=>zMI A n c L re lo f wx hAx);clear hPN hp h;go_enter Tryz.func128,Tryz.ntmps128;go_wp2_with fail
  refine HPN.out.mono ?_;rintro e w2 ⟨rfl,hb2⟩;have hA2:=hA.below hb2;have hk2:=hk.below hb2 hk.lt;have hk3:=hk2.alloc (.cells #[.int .i64 f.p,.bool f.r,.int .i64 f.d] 90);have hf3:Blk (w2.alloc (.cells #[.int .i64 f.p,.bool f.r,.int .i64 f.d] 90)) w2.heap.size 90 #[.int .i64 f.p,.bool f.r,.int .i64 f.d]:=Blk.new _ _ _;have hA3:=hA2.alloc (.cells #[.int .i64 f.p,.bool f.r,.int .i64 f.d] 90);have hb3:Below w.heap.size w (w2.alloc (.cells #[.int .i64 f.p,.bool f.r,.int .i64 f.d] 90)):=hb2.alloc hb2.size _;clear hb2 hk2 hA2 hA;go_wp2_with fail
  generalize w2.alloc (.cells #[.int .i64 f.p,.bool f.r,.int .i64 f.d] 90)=Y at hk3 hf3 hA3 hb3 ⊢
  have KP:=qH (show ∀wx,Below Y.heap.size Y wx→(Below Y.heap.size Y wx∧wx.cell? ⟨rb,0,none⟩=some (.slice A n c)∧wx.cell? ⟨rb,1,none⟩=some (.int .i64 re)∧wx.cell? ⟨rb,2,none⟩=some (.int .i64 lo)∧wx.cell? ⟨w2.heap.size,0,none⟩=some (.int .i64 f.p)∧wx.cell? ⟨w2.heap.size,1,none⟩=some (.bool f.r)∧wx.cell? ⟨w2.heap.size,2,none⟩=some (.int .i64 f.d)) from
   fun wx h=>⟨h,((hk3.below h hk3.lt).cell 0).trans rfl,((hk3.below h hk3.lt).cell 1).trans rfl,((hk3.below h hk3.lt).cell 2).trans rfl,((hf3.below h hf3.lt).cell 0).trans rfl,((hf3.below h hf3.lt).cell 1).trans rfl,((hf3.below h hf3.lt).cell 2).trans rfl⟩)
  first
   | go_region_held3 (fun wx=>Below Y.heap.size Y wx∧wx.cell? ⟨rb,0,none⟩=some (.slice A n c)∧wx.cell? ⟨rb,1,none⟩=some (.int .i64 re)∧wx.cell? ⟨rb,2,none⟩=some (.int .i64 lo)∧wx.cell? ⟨w2.heap.size,0,none⟩=some (.int .i64 f.p)∧wx.cell? ⟨w2.heap.size,1,none⟩=some (.bool f.r)∧wx.cell? ⟨w2.heap.size,2,none⟩=some (.int .i64 f.d)) (first | assumption | exact KP.out _ (Below.refl _ _).drew | exact KP.out _ (zAa (And.left (by assumption)) (by assumption) (Below.size (And.left (by assumption)))))
     (first
      | (go_at_call 167;refine (HIX.out _ (hA3.below (And.left (by assumption)))).mono ?_;rintro e wa ⟨rfl,hba⟩))
   | fail
  all_goals
   have hbf:=And.left (show Below Y.heap.size Y _∧_ from by assumption);have hka:=hk3.below hbf hk3.lt;have hbw:=zAa hb3 hbf hb3.size;have c5:wa.cell? ⟨rb,5,none⟩=some (.bool lost):=(hka.cell 5).trans rfl;have z5:=hka.frozen 5;have HKA:=qH (fun u=>hka.set_ 5 u);have fin:∀b:Bool,b=(lost||decide (ix=0))→Rd (wa.setCell ⟨rb,5,none⟩ (.bool b)) rb A n c re lo T (bad||zJO S) (lost||zEh L S)∧w.grownBy (wa.setCell ⟨rb,5,none⟩ (.bool b)) (some rb):=fun b hb=>by
    refine ⟨⟨B,m,d,?_,Txts.keepAny (Els.below hT hbw) (zBn _ _) hne,hmd,hne⟩,zCF hbw (zBn _ _)⟩;rw [HR.out.2.1,HR.out.2.2,Bool.or_false,←hb];simpa using HKA.out (.bool b)
   have FIN:=qH fin;have HIX0:=qH (show zDg L S=ix from HR.out.1);clear hka hk3 hf3 hA3 hb3 hbf hbw hix fin HIX HPN KP
   cases lost with
   | true =>
    go_wp2_with fail
    go_ret;exact ⟨zIm (by rw [HIX0.out]),FIN.out true (by simp)⟩
   | false =>
    by_cases h0:ix=0
    ·have k0:((ix:Int)==0)=true:=by simp;omega
     subst h0;clear k0;go_wp2_with fail
     go_ret;exact ⟨zIm (by rw [HIX0.out];rfl),FIN.out true (by simp)⟩
    ·have k0:((ix:Int)==0)=false:=by simp;omega
     have FF:=qH (FIN.out false (by simp [h0]));clear h0;go_wp2_with fail
     go_ret;exact ⟨zIm (by rw [HIX0.out]),FF.out⟩
end Go.Proofs.YtlmdfmnbcndhoaaGreatDoor
namespace Go.Proofs.YtlmdfmnbcndhoaaGreatDoor
open Go.RowKit
def ovT (S:List UInt8):Bool:=S==[111,118,101,114]
def unT (S:List UInt8):Bool:=S==[117,110,100,101,114]
theorem zAF (S l:List UInt8):((bA S).toList==l)=(S==l):=by rw [zAs]
set_option maxHeartbeats 3200000 in
theorem zKT (rb:Nat) (A:Option Addr) (n c:Nat) (re lo:Int) (T:List (List UInt8)) (bad lost:Bool) (w:World) (h:Rd w rb A n c re lo T bad lost) :
  Calls Tryz.prog 147 #[.pointer (some ⟨rb,0,none⟩)] w fun e w'=>e=.returned (.bool (ovT (xa T 0)))∧Rd w' rb A n c re lo T.tail ((bad||T.isEmpty)||!(ovT (xa T 0)||unT (xa T 0))) lost∧w.grownBy w' (some rb):=by
 have HN:=qH (zGF rb A n c re lo T bad lost w h);clear h;have n1:=zAF (xa T 0) [111,118,101,114];have n2:=zAF (xa T 0) [117,110,100,101,114];obtain ⟨b1,hb1⟩:∃b,ovT (xa T 0)=b:=⟨_,rfl⟩
 obtain ⟨b2,hb2⟩:∃b,unT (xa T 0)=b:=⟨_,rfl⟩
 obtain ⟨b0,hb0⟩:∃b,(bad||T.isEmpty)=b:=⟨_,rfl⟩
 rw [show (xa T 0==[111,118,101,114])=b1 from hb1] at n1;rw [show (xa T 0==[117,110,100,101,114])=b2 from hb2] at n2;rw [hb0] at HN;rw [hb0,hb1,hb2];generalize xa T 0=S at n1 n2 HN;clear hb0 hb1 hb2;have fin:∀(w2:World),Rd w2 rb A n c re lo T.tail b0 lost→w.grownBy w2 (some rb)→∃B m d,Blk w2 rb 123 (rdC A n c re lo B m d b0 lost)∧∀b:Bool,b=(b0||!(b1||b2))→Rd (w2.setCell ⟨rb,4,none⟩ (.bool b)) rb A n c re lo T.tail (b0||!(b1||b2)) lost∧w.grownBy (w2.setCell ⟨rb,4,none⟩ (.bool b)) (some rb):=fun w2 h2 hg2=>by
  obtain ⟨B,m,d,hk,hT,hmd,hne⟩:=h2.ex;refine ⟨B,m,d,hk,fun b hb=>⟨⟨B,m,d,?_,Txts.keepAny hT (zBn _ _) hne,hmd,hne⟩,zAb hg2 (zBn _ _)⟩⟩;rw [←hb];simpa using hk.set_ 4 (.bool b)
 have FIN:=qH fin;clear fin;go_enter Tryz.func147,Tryz.ntmps147;go_wp2_with fail
 refine HN.out.mono ?_;rintro e w2 ⟨rfl,h2,hg2⟩;obtain ⟨B,m,d,hk,hfin⟩:=FIN.out w2 h2 hg2;have HFIN:=qH hfin;have c4:w2.cell? ⟨rb,4,none⟩=some (.bool b0):=(hk.cell 4).trans rfl;have z4:=hk.frozen 4;clear h2 hg2 hfin hk HN FIN
 cases b0<;>cases b1<;>cases b2
 all_goals
  go_wp2_with fail
  go_ret;exact ⟨rfl,HFIN.out _ rfl⟩
end Go.Proofs.YtlmdfmnbcndhoaaGreatDoor
namespace Go.Proofs.YtlmdfmnbcndhoaaGreatDoor
open Go.RowKit
theorem zBu (S:List UInt8) (i j:Nat):(bA S).extract i j=bA ((S.take j).drop i):=by
 apply ByteArray.ext;apply Array.ext';simp [bA,List.drop_take]
theorem zDq (x:UInt8) (S:List UInt8) (w:World):(Instr.index 9 (.string (bA (x :: S))) (.int .i64 0)).run Tryz.prog w=.ok (.int .u8 x.toNat) w:=by
 rw [run_index_string w 9 (bA (x :: S)) .i64 0 Tryz.underlying9,dif_pos (by rw [zAC];simp)];rfl
theorem zGd (x:UInt8) (S:List UInt8) (w:World):(Instr.slice 9 (.string (bA (x :: S))) (some (.int .i64 1)) none none).run Tryz.prog w=.ok (.string (bA S)) w:=by
 rw [run_slice_string_l w 9 (bA (x :: S)) Tryz.underlying9 .i64 1 (by omega) (by rw [zAC];simp;omega),zBu,zAC];simp
theorem zTl (x y:UInt8) (S:List UInt8) (w:World):(Instr.slice 9 (.string (bA (x :: y :: S))) none (some (.int .i64 2)) none).run Tryz.prog w=.ok (.string (bA [x,y])) w:=by
 rw [run_slice_string_h w 9 (bA (x :: y :: S)) Tryz.underlying9 .i64 2 (by omega) (by rw [zAC];simp;omega),zBu];simp
theorem zKU (x y:UInt8) (S:List UInt8) (w:World):(Instr.slice 9 (.string (bA (x :: y :: S))) (some (.int .i64 2)) none none).run Tryz.prog w=.ok (.string (bA S)) w:=by
 rw [run_slice_string_l w 9 (bA (x :: y :: S)) Tryz.underlying9 .i64 2 (by omega) (by rw [zAC];simp;omega),zBu,zAC];simp
end Go.Proofs.YtlmdfmnbcndhoaaGreatDoor
namespace Go.Proofs.YtlmdfmnbcndhoaaGreatDoor
open Go.RowKit
def zFZ:List UInt8→Bool×List UInt8×Bool
 | []=>(false,[],false)
 | x :: r=>if x=111 then (true,r,true) else if x=117 then (false,r,true) else (false,x :: r,false)
set_option maxHeartbeats 1600000 in
theorem zDJ (S:List UInt8) (w:World) :
  Calls Tryz.prog 163 #[.string (bA S)] w fun e w'=>e=.returned (.tuple #[.bool (zFZ S).1,.string (bA (zFZ S).2.1),.bool (zFZ S).2.2])∧Below w.heap.size w w':=by
 have n0:=zAF S []
 cases S with
 | nil =>
  have hr:=qH (show zFZ []=(false,[],false) from rfl);rw [show (([]:List UInt8)==[])=true from rfl] at n0;rw [hr.out];go_enter Tryz.func163,Tryz.ntmps163;go_wp2_with fail
  go_ret3
  exact ⟨rfl,Below.refl _ _⟩
 | cons x r =>
  have s1:=zDq x r;have s2:=zGd x r;rw [show (x :: r==([]:List UInt8))=false from rfl] at n0;by_cases h1:x=111
  ·subst h1;have hr:=qH (show zFZ (111 :: r)=(true,r,true) from rfl);rw [hr.out];rw [show (((111:UInt8).toNat:Nat):Int)=111 from rfl] at s1;go_enter Tryz.func163,Tryz.ntmps163;go_wp2_with fail
   go_quiet (fail)
   go_wp2_with fail
   go_ret3
   exact ⟨rfl,zAf (Below.refl _ _) _⟩
  ·by_cases h2:x=117
   ·subst h2;have hr:=qH (show zFZ (117 :: r)=(false,r,true) from rfl);rw [hr.out];rw [show (((117:UInt8).toNat:Nat):Int)=117 from rfl] at s1;go_enter Tryz.func163,Tryz.ntmps163;go_wp2_with fail
    go_quiet (fail)
    go_wp2_with fail
    go_ret3
    exact ⟨rfl,zAf (Below.refl _ _) _⟩
   ·have hr:=qH (show zFZ (x :: r)=(false,x :: r,false) by simp only [zFZ];rw [if_neg h1,if_neg h2]);have k1:((x.toNat:Int) != 111)=true:=by
     simp only [bne_iff_ne,ne_eq];intro e;exact h1 (UInt8.toNat.inj (show x.toNat=111 by omega))
    have k2:((x.toNat:Int) != 117)=true:=by
     simp only [bne_iff_ne,ne_eq];intro e;exact h2 (UInt8.toNat.inj (show x.toNat=117 by omega))
    rw [hr.out];clear h1 h2;go_enter Tryz.func163,Tryz.ntmps163;go_wp2_with fail
    go_ret3
    exact ⟨rfl,Below.refl _ _⟩
end Go.Proofs.YtlmdfmnbcndhoaaGreatDoor
namespace Go.Proofs.YtlmdfmnbcndhoaaGreatDoor
open Go.RowKit
noncomputable def zFk (S:List UInt8):Option (Fg×List UInt8) :=
 match S with
 | x :: y :: r=>match zFP [x,y] with
  | some f=>if f.p=1 then some (f,r) else none
  | none=>none
 | _=>none
theorem zCo (S:List UInt8):(bA S).size=S.length:=zAC S
theorem Rd.below {w w':World} {rb:Nat} {A:Option Addr} {n c:Nat} {re lo:Int} {T:List (List UInt8)} {bad lost:Bool} (h:Rd w rb A n c re lo T bad lost) (hb:Below w.heap.size w w'):Rd w' rb A n c re lo T bad lost:=by
 obtain ⟨B,m,d,hk,hT,hmd,hne⟩:=h.ex;exact ⟨B,m,d,hk.below hb hk.lt,Els.below hT hb,hmd,hne⟩
theorem zAv {w w':World} {row:Option Nat} (h:Below w.heap.size w w'):w.grownBy w' row:=zCF h (zBi _ _)
theorem Fgs.keepBlk {w w':World} {A:Option Addr} {n:Nat} {L:List Fg} {rb:Nat} (h:Fgs w A n L) (hg:w.grownBy w' (some rb)) (hne:∀k,blk A=some k→k≠rb):Fgs w' A n L:=by
 refine ⟨⟨h.len,h.le,fun h0=>?_⟩,h.2⟩;obtain ⟨g,o,e,hb,hc⟩:=h.1.2.2 h0;subst e;refine ⟨g,o,rfl,Nat.lt_of_lt_of_le hb hg.size,fun j x hx q v hv=>?_⟩;rw [World.cell?_of_block (w:=w) (w':=w') (hg.block g hb (fun e=>hne g rfl (by injection e)))];exact hc j x hx q v hv
theorem Fgs.keepR {w w':World} {A:Option Addr} {n:Nat} {L:List Fg} {rb:Nat} (h:Fgs w A n L) (hg:w.grownBy w' (some rb)) (hne:0 < n→∀k,blk A=some k→k < rb):Fgs w' A n L:=by
 by_cases h0:0 < n
 ·exact h.keepBlk hg (fun k hk=>Nat.ne_of_lt (hne h0 k hk))
 ·exact ⟨⟨h.1.1,h.1.2.1,fun h1=>absurd h1 h0⟩,h.2⟩
def RdS (Y:World) (rb:Nat) (A:Option Addr) (n c:Nat) (L:List Fg) (re lo:Int) (T:List (List UInt8)) (bad lost q:Bool) (wx:World):Prop :=
 Y.grownBy wx (some rb)∧Fgs wx A n L∧∃l,Rd wx rb A n c re lo T bad l∧(l=lost∨l=(lost||q))
set_option maxHeartbeats 3200000 in
theorem zMV (rb:Nat) (A:Option Addr) (n c:Nat) (L:List Fg) (re lo:Int) (T:List (List UInt8)) (bad lost:Bool) (S:List UInt8) (w:World) (h:Rd w rb A n c re lo T bad lost) (hA:Fgs w A n L) (hAr:0 < n→∀k,blk A=some k→k < rb) :
  Calls Tryz.prog 160 #[.pointer (some ⟨rb,0,none⟩),.string (bA S)] w fun e w' =>
   (match zFk S with
    | some (f,r)=>e=.returned (.tuple #[.int .i64 (zAG L f:Int),.string (bA r),.bool true])∧Rd w' rb A n c re lo T bad (lost||decide (zAG L f=0))
    | none=>e=.returned (.tuple #[.int .i64 0,.string (bA S),.bool false])∧Rd w' rb A n c re lo T bad lost)∧w.grownBy w' (some rb):=by
 by_cases h2:S.length < 2
 ·have hr:zFk S=none:=by
   match S,h2 with
   | [],_=>rfl
   | [x],_=>rfl
  rw [hr];have hs:=zCo S;have i0:(S.length:Int) < 2:=by omega
  go_enter Tryz.func160,Tryz.ntmps160;go_wp2_with fail
  go_ret3
  exact ⟨⟨rfl,h⟩,zBi _ _⟩
 ·obtain ⟨x,y,r,rfl⟩:∃x y r,S=x :: y :: r:=by
   match S,h2 with
   | [],h=>exact absurd (by simp) h
   | [x],h=>exact absurd (by simp) h
   | x :: y :: r,_=>exact ⟨x,y,r,rfl⟩
  have hs:=zCo (x :: y :: r);have i0:¬((x :: y :: r).length:Int) < 2:=by omega
  have t1:=zTl x y r;have t2:=zKU x y r;have hPN:=zDY [x,y] w;clear h2
  cases hp:zFP [x,y] with
  | none =>
   have hr:zFk (x :: y :: r)=none:=by simp [zFk,hp]
   rw [hr];rw [hp] at hPN;have HPN:Hid (Calls Tryz.prog 166 #[.string (bA [x,y])] w fun e w'=>e=.returned (.tuple #[.agg #[.int .i64 0,.bool false,.int .i64 0],.int .i64 6])∧Below w.heap.size w w'):=qH hPN;clear hPN;go_enter Tryz.func160,Tryz.ntmps160;go_wp2_with fail
   refine HPN.out.mono ?_;rintro e w2 ⟨rfl,hb2⟩;go_wp2_with fail
   have hb3:Below w.heap.size w (w2.alloc (.cells #[.int .i64 0,.bool false,.int .i64 0] 90)):=hb2.alloc hb2.size _;go_ret3
   exact ⟨⟨rfl,h.below hb3⟩,zAv hb3⟩
  | some f =>
   rw [hp] at hPN;have HPN:Hid (Calls Tryz.prog 166 #[.string (bA [x,y])] w fun e w'=>e=.returned (.tuple #[fgV f,.int .i64 0])∧Below w.heap.size w w'):=qH hPN;clear hPN;by_cases h1:f.p=1
   ·have hr:zFk (x :: y :: r)=some (f,r):=by simp [zFk,hp,h1]
    have HF:=qH (show zDg L [x,y]=zAG L f∧zJO [x,y]=false∧zEh L [x,y]=decide (zAG L f=0) by unfold zDg zJO zEh;rw [hp];exact ⟨rfl,rfl,rfl⟩);rw [hr];have k0:(f.p != 1)=false:=by simpa using h1
    clear hp hr h1;go_enter Tryz.func160,Tryz.ntmps160;go_wp2_with fail
    refine HPN.out.mono ?_;rintro e w2 ⟨rfl,hb2⟩;have hb3:Below w.heap.size w (w2.alloc (.cells #[.int .i64 f.p,.bool f.r,.int .i64 f.d] 90)):=hb2.alloc hb2.size _;go_wp2_with fail
    generalize w2.alloc (.cells #[.int .i64 f.p,.bool f.r,.int .i64 f.d] 90)=Y at hb3 ⊢;have hY:RdS Y rb A n c L re lo T bad lost (decide (zAG L f=0)) Y:=⟨zBi _ _,hA.below hb3,lost,h.below hb3,.inl rfl⟩;have HY:=qH (show RdS Y rb A n c L re lo T bad lost (decide (zAG L f=0)) Y.drew from ⟨zAv (Below.refl _ _).drew,(hA.below hb3).below (Below.refl _ _).drew,lost,(h.below hb3).below (Below.refl _ _).drew,.inl rfl⟩)
    have HC:=qH (show ∀wx,RdS Y rb A n c L re lo T bad lost (decide (zAG L f=0)) wx→Calls Tryz.prog 128 #[.pointer (some ⟨rb,0,none⟩),.string (bA [x,y])] wx fun e w'=>e=.returned (.int .i64 (zAG L f:Int))∧Hid (Rd w' rb A n c re lo T bad (lost||decide (zAG L f=0)))∧RdS Y rb A n c L re lo T bad lost (decide (zAG L f=0)) w' from fun wx ⟨g1,g2,l,g3,g4⟩=>by
     refine (zEC rb A n c L re lo T bad l [x,y] wx g3 g2).mono ?_
     rintro e w' ⟨rfl,k1,k2⟩
     rw [HF.out.2.1,HF.out.2.2,Bool.or_false] at k1
     have hl2:(l||decide (zAG L f=0))=(lost||decide (zAG L f=0)):=by
      rcases g4 with rfl | rfl
      ·rfl
      ·cases lost<;>simp
     rw [hl2] at k1
     exact ⟨zIm (by rw [HF.out.1]),qH k1,zAb g1 k2,g2.keepR k2 hAr,_,k1,.inr rfl⟩)
    first
     | go_region_held3 (fun wx=>RdS Y rb A n c L re lo T bad lost (decide (zAG L f=0)) wx) (first | assumption | exact HY.out)
       (first
        | (go_at_call 128;refine (HC.out _ (by assumption)).mono ?_;rintro e wa ⟨rfl,hRa,hSa⟩))
     | fail
    all_goals
     have hgf:=And.left (show RdS Y rb A n c L re lo T bad lost (decide (zAG L f=0)) _ from by assumption);go_wp2_with fail
     go_ret3
     exact ⟨⟨rfl,hRa.out⟩,zCF hb3 hgf⟩
   ·have hr:zFk (x :: y :: r)=none:=by simp [zFk,hp,h1]
    rw [hr];have k0:(f.p != 1)=true:=by simpa using h1
    clear hp hr h1;go_enter Tryz.func160,Tryz.ntmps160;go_wp2_with fail
    refine HPN.out.mono ?_;rintro e w2 ⟨rfl,hb2⟩;have hb3:Below w.heap.size w (w2.alloc (.cells #[.int .i64 f.p,.bool f.r,.int .i64 f.d] 90)):=hb2.alloc hb2.size _;go_wp2_with fail
    go_ret3
    exact ⟨⟨rfl,h.below hb3⟩,zAv hb3⟩
end Go.Proofs.YtlmdfmnbcndhoaaGreatDoor
namespace Go.Proofs.YtlmdfmnbcndhoaaGreatDoor
open Go
def zAH (c:UInt8):List UInt8→List (List UInt8)
 | []=>[[]]
 | b :: l=>if b=c then [] :: zAH c l else match zAH c l with
  | []=>[[b]]
  | p :: ps=>(b :: p) :: ps
theorem zFr (c:UInt8):∀l,zAH c l≠[]
 | []=>by simp [zAH]
 | b :: l=>by
  unfold zAH;split
  ·simp
  ·split<;>simp
theorem zED (c:UInt8) (l:List UInt8):zAH c (c :: l)=[] :: zAH c l:=by rw [zAH,if_pos rfl]
theorem zCG {b c:UInt8} (h:b≠c) {l p:List UInt8} {ps:List (List UInt8)} (hl:zAH c l=p :: ps):zAH c (b :: l)=(b :: p) :: ps:=by
 rw [zAH,if_neg h,hl]
theorem zCd {c:UInt8} {r:List UInt8}:∀{h:List UInt8},c ∉ h→zAH c (h++c :: r)=h :: zAH c r
 | [],_=>zED c r
 | b :: h,hc=>by
  have h1:c ∉ h:=fun e=>hc (List.mem_cons_of_mem _ e)
  have h2:b≠c:=fun e=>hc (by rw [e];exact List.mem_cons_self ..)
  rw [List.cons_append];exact zCG h2 (zCd h1)
theorem zCX {c:UInt8}:∀{h:List UInt8},c ∉ h→zAH c h=[h]
 | [],_=>rfl
 | b :: h,hc=>by
  have h1:c ∉ h:=fun e=>hc (List.mem_cons_of_mem _ e)
  have h2:b≠c:=fun e=>hc (by rw [e];exact List.mem_cons_self ..)
  exact zCG h2 (zCX h1)
theorem zGe (x y:List UInt8) (r:List (List UInt8)) (sep:List UInt8):Lib.join (x :: y :: r) sep=x++sep++Lib.join (y :: r) sep:=by
 rw [Lib.join_cons,Lib.join_cons];simp [Lib.joinTail]
theorem zEE {c:UInt8}:∀{ps:List (List UInt8)},ps≠[]→(∀p∈ps,c ∉ p)→zAH c (Lib.join ps [c])=ps
 | [],h,_=>absurd rfl h
 | [p],_,h=>by rw [Lib.join_one];exact zCX (h p (List.mem_cons_self ..))
 | p :: q :: r,_,h=>by
  rw [zGe,List.append_assoc,List.singleton_append,zCd (h p (List.mem_cons_self ..))];rw [zEE (by simp) (fun x hx=>h x (List.mem_cons_of_mem _ hx))]
theorem zJP (c:UInt8):∀l:List UInt8,Lib.join (zAH c l) [c]=l
 | []=>by rw [zAH,Lib.join_one]
 | b :: l=>by
  have ih:=zJP c l
  cases hs:zAH c l with
  | nil=>exact absurd hs (zFr c l)
  | cons p ps =>
   by_cases h:b=c
   ·subst h;rw [zED,hs,zGe,←hs,ih];rfl
   ·rw [zCG h hs];rw [hs] at ih;rw [Lib.join_cons] at ih ⊢;rw [List.cons_append,ih]
theorem zQI (c:UInt8):∀l:List UInt8,∀p∈zAH c l,c ∉ p
 | [],p,hp=>by simp [zAH] at hp;subst hp;simp
 | b :: l,p,hp=>by
  have ih:=zQI c l
  cases hs:zAH c l with
  | nil=>exact absurd hs (zFr c l)
  | cons q ps =>
   rw [hs] at ih;by_cases h:b=c
   ·subst h;rw [zED,hs] at hp;rcases List.mem_cons.1 hp with rfl | hp
    ·simp
    ·exact ih p hp
   ·rw [zCG h hs] at hp;rcases List.mem_cons.1 hp with rfl | hp
    ·intro hm;rcases List.mem_cons.1 hm with rfl | hm
     ·exact h rfl
     ·exact ih q (List.mem_cons_self ..) hm
    ·exact ih p (List.mem_cons_of_mem _ hp)
theorem zEF (c:UInt8):∀l:List UInt8,(zAH c l).length=l.count c+1
 | []=>rfl
 | b :: l=>by
  have ih:=zEF c l
  cases hs:zAH c l with
  | nil=>exact absurd hs (zFr c l)
  | cons p ps =>
   by_cases h:b=c
   ·subst h;rw [zED,List.length_cons,ih,List.count_cons_self]
   ·rw [zCG h hs,List.count_cons_of_ne (by simpa using h),←ih,hs];rfl
theorem zAX (c:UInt8):∀l:List UInt8,∀p∈zAH c l,p.length≤l.length
 | [],p,hp=>by simp [zAH] at hp;subst hp;simp
 | b :: l,p,hp=>by
  have ih:=zAX c l
  cases hs:zAH c l with
  | nil=>exact absurd hs (zFr c l)
  | cons q ps =>
   rw [hs] at ih;by_cases h:b=c
   ·subst h;rw [zED,hs] at hp;rcases List.mem_cons.1 hp with rfl | hp
    ·simp
    ·have:=ih p hp;simp only [List.length_cons];omega
   ·rw [zCG h hs] at hp;rcases List.mem_cons.1 hp with rfl | hp
    ·have:=ih q (List.mem_cons_self ..);simp only [List.length_cons];omega
    ·have:=ih p (List.mem_cons_of_mem _ hp);simp only [List.length_cons];omega
theorem zGG (c:UInt8):∀(k:Nat) (l:List UInt8),l.count c=k→Lib.splitK [c] 0 k l=zAH c l
 | 0,l,h=>by
  have hc:c ∉ l:=by rw [←List.count_eq_zero];exact h
  rw [zCX hc];rfl
 | k+1,l,h=>by
  have hm:c∈l:=by rw [←List.count_pos_iff];omega
  obtain ⟨a,b,rfl,hn⟩:∃a b,l=a++c :: b∧c ∉ a:=by
   clear h
   induction l with
   | nil=>cases hm
   | cons x l ih =>
    by_cases hx:x=c
    ·subst hx;exact ⟨[],l,rfl,by simp⟩
    ·have:c∈l:=by
      rcases List.mem_cons.1 hm with e | e
      ·exact absurd e.symm hx
      ·exact e
     obtain ⟨a,b,rfl,hn⟩:=ih this;exact ⟨x :: a,b,rfl,fun e=>by rcases List.mem_cons.1 e with e | e;exact hx e.symm;exact hn e⟩
  unfold Lib.splitK;rw [Lib.index_one,zNV hn];have hne:¬((a.length:Int)==-1)=true:=fun e=>by have:=beq_iff_eq.1 e;omega
  rw [if_neg hne,zCd hn];have hk:b.count c=k:=by
   rw [List.count_append,List.count_cons_self,List.count_eq_zero.2 hn] at h;omega
  have e1:(a++c :: b).take ((a.length:Int).toNat+0)=a:=by simp
  have e2:(a++c :: b).drop ((a.length:Int).toNat + [c].length)=b:=by simp
  rw [e1,e2,zGG c k b hk]
theorem zKV (c:UInt8) (l:List UInt8):(Lib.splitB ⟨#[c]⟩ 0 (Lib.countB ⟨l.toArray⟩ ⟨#[c]⟩) ⟨l.toArray⟩)=(zAH c l).map (fun p=>(⟨p.toArray⟩:ByteArray)):=by
 have h:=Lib.splitB_data ⟨#[c]⟩ 0 (Lib.countB ⟨l.toArray⟩ ⟨#[c]⟩) ⟨l.toArray⟩;have hc:Lib.countB ⟨l.toArray⟩ ⟨#[c]⟩=l.count c:=by
  unfold Lib.countB;exact Lib.count_one c l
 rw [hc] at h ⊢;have h2:Lib.splitK [c] 0 (l.count c) l=zAH c l:=zGG c _ l rfl;have h3:(Lib.splitB ⟨#[c]⟩ 0 (l.count c) ⟨l.toArray⟩).map (·.data.toList)=zAH c l:=h.trans h2;rw [←h3,List.map_map]
 conv=>lhs;rw [←List.map_id (Lib.splitB ⟨#[c]⟩ 0 (l.count c) ⟨l.toArray⟩)]
 apply List.map_congr_left;intro x _
 cases x
 simp
end Go.Proofs.YtlmdfmnbcndhoaaGreatDoor
namespace Go.Proofs.YtlmdfmnbcndhoaaGreatDoor
open Go.RowKit
def zAK (S:List UInt8):List (List UInt8):=if S.getLast? = some 44 then [S.dropLast,[44]] else [S]
def zBo (S:List UInt8):List (List UInt8):=(zAH 32 S).flatMap zAK
theorem zCH {S:List UInt8} (h:(44:UInt8) ∉ S):zAK S=[S]:=by
 unfold zAK;rw [if_neg (fun e=>h (List.mem_of_getLast? e))]
theorem zHS (S:List UInt8):zAK (S++[44])=[S,[44]]:=by simp [zAK]
theorem zBd (S:List UInt8):(zAK S=[S]∧S.getLast?≠some 44)∨∃C,S=C++[44]∧zAK S=[C,[44]]:=by
 by_cases h:S.getLast? = some 44
 ·obtain ⟨C,rfl⟩:=List.getLast?_eq_some_iff.1 h;exact .inr ⟨C,rfl,zHS C⟩
 ·exact .inl ⟨by simp [zAK,h],h⟩
def zCw:Bool→List (List UInt8)→Bool
 | _,[]=>true
 | b,x :: r=>if x=[44] then b&&zCw false r else zCw true r
theorem zOt (b:Bool) (x:List UInt8) (R:List (List UInt8)):zCw b (x :: [44] :: [44] :: R)=false:=by
 by_cases h:x=[44]
 ·simp [zCw,h]
 ·simp [zCw,h]
theorem zOu:∀{ws R:List (List UInt8)},ws.flatMap zAK=[44] :: R→∃Q,R=[44] :: Q
 | [],R,h=>by simp at h
 | w :: ws,R,h=>by
  rw [List.flatMap_cons] at h;rcases zBd w with ⟨e,hl⟩ | ⟨C,rfl,e⟩
  ·rw [e] at h;simp only [List.cons_append,List.nil_append,List.cons.injEq] at h;exact absurd (by rw [h.1];rfl) hl
  ·rw [e] at h;simp only [List.cons_append,List.nil_append,List.cons.injEq] at h;exact ⟨_,h.2.symm⟩
theorem zOv {w:List UInt8} (h:w.getLast?≠some 44):w≠[44]:=fun e=>h (by rw [e];rfl)
theorem zOw:∀{us:List (List UInt8)},zCw true (us.flatMap zAK)=true→zCw false (us.flatMap zAK)=true
 | [],_=>rfl
 | u :: us,h=>by
  rw [List.flatMap_cons] at h ⊢;rcases zBd u with ⟨e,hl⟩ | ⟨C,rfl,e⟩
  ·rw [e] at h ⊢;simp only [List.cons_append,List.nil_append,zCw,if_neg (zOv hl)] at h ⊢;exact h
  ·rw [e] at h ⊢;simp only [List.cons_append,List.nil_append] at h ⊢;by_cases hC:C=[44]
   ·subst hC;simp [zCw] at h
   ·simp only [zCw,if_neg hC] at h ⊢;exact h
theorem zGH:∀{ws us:List (List UInt8)},ws.flatMap zAK=us.flatMap zAK→zCw false (us.flatMap zAK)=true→ws=us
 | [],[],_,_=>rfl
 | [],u :: us,h,_=>by
  rw [List.flatMap_cons] at h;rcases zBd u with ⟨e,_⟩ | ⟨C,_,e⟩<;>rw [e] at h<;>simp at h
 | w :: ws,[],h,_=>by
  rw [List.flatMap_cons] at h;rcases zBd w with ⟨e,_⟩ | ⟨C,_,e⟩<;>rw [e] at h<;>simp at h
 | w :: ws,u :: us,h,hc=>by
  rw [List.flatMap_cons,List.flatMap_cons] at h;rw [List.flatMap_cons] at hc;rcases zBd w with ⟨e1,l1⟩ | ⟨C,rfl,e1⟩<;>rcases zBd u with ⟨e2,l2⟩ | ⟨D,rfl,e2⟩<;>rw [e2] at hc<;>rw [e1,e2] at h<;>simp only [List.cons_append,List.nil_append,List.cons.injEq] at h hc
  ·obtain ⟨rfl,h⟩:=h;simp only [zCw,if_neg (zOv l1)] at hc;rw [zGH h (zOw hc)]
  ·obtain ⟨_,h⟩:=h;obtain ⟨Q,hQ⟩:=zOu h;rw [hQ,zOt] at hc
   cases hc
  ·obtain ⟨_,h⟩:=h;obtain ⟨Q,hQ⟩:=zOu h.symm;rw [←h,hQ,zOt] at hc
   cases hc
  ·obtain ⟨rfl,_,h⟩:=h;by_cases hC:C=[44]
   ·subst hC;simp [zCw] at hc
   ·simp only [zCw,if_neg hC] at hc;rw [zGH h (by simpa using hc)]
def fineW (S:List UInt8):Prop:=∀b∈S,b≠32∧b≠44∧b≠10
def fineT (T:List (List UInt8)):Prop:=∀S∈T,fineW S
theorem fineW.no44 {S:List UInt8} (h:fineW S):(44:UInt8) ∉ S:=fun e=>(h _ e).2.1 rfl
theorem fineW.no32 {S:List UInt8} (h:fineW S):(32:UInt8) ∉ S:=fun e=>(h _ e).1 rfl
theorem fineW.ne {S:List UInt8} (h:fineW S):S≠[44]:=fun e=>h.no44 (by rw [e];simp)
theorem fineT.app {A B:List (List UInt8)} (h:fineT A) (k:fineT B):fineT (A++B):=fun S hS=>by
 rcases List.mem_append.1 hS with e | e
 ·exact h S e
 ·exact k S e
theorem fineT.cons {S:List UInt8} {B:List (List UInt8)} (h:fineW S) (k:fineT B):fineT (S :: B):=fun x hx=>by
 rcases List.mem_cons.1 hx with rfl | e
 ·exact h
 ·exact k x e
theorem fineT.nil:fineT []:=fun S h=>by simp at h
theorem zGI {A:List (List UInt8)} (R:List (List UInt8)) (h:fineT A) (hA:A≠[]) (b:Bool):zCw b (A++R)=zCw true R:=by
 induction A generalizing b with
 | nil=>exact absurd rfl hA
 | cons x A ih =>
  have hx:=(h x (List.mem_cons_self ..)).ne;rw [List.cons_append,zCw,if_neg hx]
  cases A with
  | nil=>rfl
  | cons y A=>exact ih (fun S hS=>h S (List.mem_cons_of_mem _ hS)) (by simp) true
def tag:List (List UInt8)→List (List UInt8)
 | []=>[]
 | [x]=>[x++[44]]
 | x :: y :: r=>x :: tag (y :: r)
theorem zLR:∀{A:List (List UInt8)},fineT A→A≠[]→(tag A).flatMap zAK=A++[[44]]
 | [],_,h=>absurd rfl h
 | [x],_,_=>by simp [tag,zHS]
 | x :: y :: r,h,_=>by
  have h2:fineT (y :: r):=fun S hS=>h S (List.mem_cons_of_mem _ hS)
  rw [tag,List.flatMap_cons,zLR h2 (by simp),zCH (h x (List.mem_cons_self ..)).no44];rfl
theorem zLS:∀{A:List (List UInt8)},fineT A→∀p∈tag A,(32:UInt8) ∉ p
 | [],_,p,hp=>by simp [tag] at hp
 | [x],h,p,hp=>by
  simp only [tag,List.mem_singleton] at hp;subst hp;intro e;rcases List.mem_append.1 e with e | e
  ·exact (h x (List.mem_cons_self ..)).no32 e
  ·simp at e
 | x :: y :: r,h,p,hp=>by
  rw [tag] at hp;rcases List.mem_cons.1 hp with rfl | e
  ·exact (h p (List.mem_cons_self ..)).no32
  ·exact zLS (A:=y :: r) (fun S hS=>h S (List.mem_cons_of_mem _ hS)) p e
structure Nst where
 f:Fg
 l:Int
 far:Bool
 pc:Int
structure Nop where
 kind:Int
 f:Fg
 fr:Option Nst
 path:List (Nst×Bool)
 over:Bool
def zCp (x:Nst):Prop:=zAm x.f=true∧0≤x.l∧x.l≤999999999∧0≤x.pc∧x.pc≤999999999
def zGJ (n:Nop):Prop :=
 (n.kind=1∨n.kind=2∨n.kind=8)∧n.fr=none∧n.path=[]∧n.over=false
 ∨ n.kind=4∧n.fr=none∧n.path=[]
 ∨ n.kind=3∧(∃x,n.fr=some x∧zCp x)∧(∀y∈n.path,zCp y.1)∧n.over=false
 ∨ n.kind=5∧(∃x,n.fr=some x∧zCp x)∧n.path=[]
 ∨ (n.kind=6∨n.kind=7)∧(∃f,n.fr=some ⟨f,0,false,0⟩∧zAm f=true)∧n.path=[]
def okN (n:Nop):Prop:=zAm n.f=true∧zGJ n
def sOf (L:List Fg) (x:Nst):Sg:=⟨zAG L x.f,x.l,x.far,x.pc⟩
def pOf (L:List Fg) (x:Nst×Bool):Sp:=⟨sOf L x.1,x.2⟩
def oOf (L:List Fg) (n:Nop):Og:=⟨n.kind,zAG L n.f,(n.fr.map (sOf L)).getD s0,n.path.map (pOf L),n.over⟩
def zAW (L:List Fg) (f:Fg):Bool:=decide (zAG L f=0)
def zAO (L:List Fg) (P:List (Nst×Bool)):Bool:=P.any fun x=>zAW L x.1.f
def zAx (L:List Fg) (n:Nop):Bool:=zAW L n.f||zAO L n.path||(match n.fr with | some x=>zAW L x.f | none=>false)
abbrev zAI:List UInt8:=[102,114,111,109]
abbrev zEi:List UInt8:=[119,105,116,104]
abbrev zCI:List UInt8:=[108,111,111,112]
abbrev zBK:List UInt8:=[112,105,101,99,101]
abbrev zUW:List UInt8:=[110,101,97,114]
abbrev farW:List UInt8:=[102,97,114]
def zGf (W:List UInt8) (n:Int):List (List UInt8):=if n=0 then [] else [W,Lib.itoa n]
def plT (x:Nst):List (List UInt8):=[zAk x.f,zCk x.far]++zGf zCI x.l++zGf zBK x.pc
def stT (x:Nst×Bool):List (List UInt8):=zAL x.2 :: (plT x.1++[[44]])
def stW (x:Nst×Bool):List (List UInt8):=zAL x.2 :: tag (plT x.1)
def frT (n:Nop):List (List UInt8):=match n.fr with | some x=>plT x | none=>[]
def frN (n:Nop):List UInt8:=match n.fr with | some x=>zAk x.f | none=>[]
def tlT (n:Nop):List (List UInt8) :=
 if n.kind=4 then [zAL n.over]
 else if n.kind=3 then n.path.flatMap stT++zAI :: frT n
 else if n.kind=5 then zAI :: (frT n++[zAL n.over])
 else if n.kind=6 then [zAI,frN n,zAL n.over]
 else if n.kind=7 then [zEi,frN n,zAL n.over]
 else []
def tlW (n:Nop):List (List UInt8) :=
 if n.kind=4 then [zAL n.over]
 else if n.kind=3 then n.path.flatMap stW++zAI :: frT n
 else if n.kind=5 then zAI :: (frT n++[zAL n.over])
 else if n.kind=6 then [zAI,frN n,zAL n.over]
 else if n.kind=7 then [zEi,frN n,zAL n.over]
 else []
def zID (n:Nop):List (List UInt8):=zAT n.kind :: zAk n.f :: tlT n
def zUX (n:Nop):List (List UInt8):=zAT n.kind :: zAk n.f :: tlW n
def zDi (n:Nop):List UInt8:=Lib.join (zUX n) [32]
theorem zBZ {S:List UInt8} (h:(S.all fun b=>b != 32&&b != 44&&b != 10)=true):fineW S:=fun b hb=>by
 have:=(List.all_eq_true.1 h) b hb;simpa [and_assoc] using this
theorem zCJ (b:Bool):fineW (zAL b):=by cases b<;>exact zBZ (by decide)
theorem zOx (b:Bool):fineW (zCk b):=by cases b<;>exact zBZ (by decide)
theorem zEG (n:Int):fineW (Lib.itoa n):=fun b hb=>by
 have:=zLI b hb;refine ⟨?_,?_,?_⟩<;>(rintro rfl;simp at this)
theorem zCK (f:Fg):fineW (zAk f):=fun b hb=>by
 unfold zAk at hb;rcases List.mem_append.1 hb with h | h
 ·split at h
  ·simp at h
  ·exact zEG _ b h
 ·rcases List.mem_cons.1 h with h | h
  ·subst h;split<;>decide
  ·exact zEG _ b h
theorem zGK (k:Int):fineW (zAT k):=by
 unfold zAT
 repeat (split;· exact zBZ (by decide))
 exact zBZ (by decide)
theorem zLT {W:List UInt8} (h:fineW W) (n:Int):fineT (zGf W n):=by
 unfold zGf;split
 ·exact .nil
 ·exact .cons h (.cons (zEG n) .nil)
theorem zIE (x:Nst):fineT (plT x) :=
 ((fineT.cons (zCK _) (.cons (zOx _) .nil)).app (zLT (zBZ (by decide)) _)).app (zLT (zBZ (by decide)) _)
theorem zWk (x:Nst):plT x≠[]:=by simp [plT]
theorem zKW (n:Nop):fineT (frT n):=by
 unfold frT;split
 ·exact zIE _
 ·exact .nil
theorem zIF (n:Nop):fineW (frN n):=by
 unfold frN;split
 ·exact zCK _
 ·exact zBZ (by decide)
theorem zQJ (x:Nst×Bool):(stW x).flatMap zAK=stT x:=by
 rw [stW,List.flatMap_cons,zLR (zIE _) (zWk _),zCH (zCJ _).no44];rfl
theorem zDr {A:List (List UInt8)} (h:fineT A):A.flatMap zAK=A:=by
 induction A with
 | nil=>rfl
 | cons x A ih =>
  rw [List.flatMap_cons,ih (fun S hS=>h S (List.mem_cons_of_mem _ hS)),zCH (h x (List.mem_cons_self ..)).no44];rfl
theorem zOy (P:List (Nst×Bool)):(P.flatMap stW).flatMap zAK=P.flatMap stT:=by
 induction P with
 | nil=>rfl
 | cons x P ih=>rw [List.flatMap_cons,List.flatMap_append,ih,zQJ,List.flatMap_cons]
theorem zBE:fineW zAI:=zBZ (by decide)
theorem zGL:fineW zEi:=zBZ (by decide)
theorem zTm (n:Nop):(tlW n).flatMap zAK=tlT n:=by
 have hf:=zKW n;have hn:=zIF n;have ho:=zCJ n.over;unfold tlW tlT;split
 ·exact zDr (.cons ho .nil)
 split
 ·rw [List.flatMap_append,zOy,zDr (.cons zBE hf)]
 split
 ·exact zDr (.cons zBE (hf.app (.cons ho .nil)))
 split
 ·exact zDr (.cons zBE (.cons hn (.cons ho .nil)))
 split
 ·exact zDr (.cons zGL (.cons hn (.cons ho .nil)))
 ·rfl
theorem zIG (n:Nop):(zUX n).flatMap zAK=zID n:=by
 rw [zUX,List.flatMap_cons,List.flatMap_cons,zTm,zCH (zGK _).no44,zCH (zCK _).no44];rfl
theorem zOz (P:List (Nst×Bool)) (b:Bool) (R:List (List UInt8)) (h:∀b,zCw b R=true):zCw b (P.flatMap stT++R)=true:=by
 induction P generalizing b with
 | nil=>exact h b
 | cons x P ih =>
  have e:(x :: P).flatMap stT++R=(zAL x.2 :: plT x.1)++([44] :: (P.flatMap stT++R)):=by simp [stT]
  rw [e,zGI _ (.cons (zCJ _) (zIE _)) (by simp),zCw,if_pos rfl,ih];rfl
theorem zEH {A:List (List UInt8)} (h:fineT A) (hA:A≠[]) (b:Bool):zCw b A=true:=by
 have:=zGI [] h hA b;rw [List.append_nil] at this;rw [this];rfl
theorem zQK (n:Nop):zCw false (zID n)=true:=by
 have hf:=zKW n;have hn:=zIF n;have ho:=zCJ n.over;have h2:fineT [zAT n.kind,zAk n.f]:=.cons (zGK _) (.cons (zCK _) .nil);rw [zID,show zAT n.kind :: zAk n.f :: tlT n=[zAT n.kind,zAk n.f]++tlT n from rfl,zGI _ h2 (by simp)];unfold tlT;split
 ·exact zEH (.cons ho .nil) (by simp) _
 split
 ·exact zOz _ _ _ fun b=>zEH (.cons zBE hf) (by simp) b
 split
 ·exact zEH (.cons zBE (hf.app (.cons ho .nil))) (by simp) _
 split
 ·exact zEH (.cons zBE (.cons hn (.cons ho .nil))) (by simp) _
 split
 ·exact zEH (.cons zGL (.cons hn (.cons ho .nil))) (by simp) _
 ·rfl
theorem zOA (P:List (Nst×Bool)):∀p∈P.flatMap stW,(32:UInt8) ∉ p:=fun p hp=>by
 obtain ⟨x,_,h⟩:=List.mem_flatMap.1 hp;rcases List.mem_cons.1 h with rfl | h
 ·exact (zCJ _).no32
 ·exact zLS (zIE _) p h
theorem zDs {A:List (List UInt8)} (h:fineT A):∀p∈A,(32:UInt8) ∉ p:=fun p hp=>(h p hp).no32
theorem zQL (n:Nop):∀p∈zUX n,(32:UInt8) ∉ p:=by
 have hf:=zKW n;have hn:=zIF n;have ho:=zCJ n.over;have ht:∀p∈tlW n,(32:UInt8) ∉ p:=by
  unfold tlW;split
  ·exact zDs (.cons ho .nil)
  split
  ·intro p hp;rcases List.mem_append.1 hp with h | h
   ·exact zOA _ p h
   ·exact zDs (.cons zBE hf) p h
  split
  ·exact zDs (.cons zBE (hf.app (.cons ho .nil)))
  split
  ·exact zDs (.cons zBE (.cons hn (.cons ho .nil)))
  split
  ·exact zDs (.cons zGL (.cons hn (.cons ho .nil)))
  ·intro p hp;simp at hp
 intro p hp;rcases List.mem_cons.1 hp with rfl | hp
 ·exact (zGK _).no32
 ·rcases List.mem_cons.1 hp with rfl | hp
  ·exact (zCK _).no32
  ·exact ht p hp
theorem zDK (n:Nop):zBo (zDi n)=zID n:=by
 unfold zBo zDi;rw [zEE (by simp [zUX]) (zQL n),zIG]
theorem zIH {S:List UInt8} {n:Nop} (h:zBo S=zID n):S=zDi n:=by
 unfold zBo at h;rw [←zIG] at h;have:=zGH h (by rw [zIG];exact zQK n);unfold zDi;rw [←this,zJP]
end Go.Proofs.YtlmdfmnbcndhoaaGreatDoor
