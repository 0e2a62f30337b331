/-
  Lemmas, part 12. Conditions: each theorem's own.
-/
import Derived.Test.YtlmdfmnbcndhoaaGreatDoorRl11
import Derived.Test.YtlmdfmnbcndhoaaGreatDoorRl04
import Derived.Lib.Join
import Derived.Lib.SplitLaws
namespace Go.Proofs.YtlmdfmnbcndhoaaGreatDoor
open Go.RowKit
noncomputable def zDj (L:List Fg) (S:List UInt8):Nat:=match zGb S with | some f=>zAK L f | none=>0
noncomputable def zKh (S:List UInt8):Bool:=(zGb S).isNone
noncomputable def zEk (L:List Fg) (S:List UInt8):Bool:=match zGb S with | some f=>decide (zAK L f=0) | none=>false
theorem zCI {a b c:World} {row:Option Nat} (h:Below a.heap.size a b) (k:b.grownBy c row):a.grownBy c row :=
 ⟨k.os.trans h.os,k.tape.trans h.tape,k.output.trans h.output,Nat.le_trans h.size k.size,fun i hi hne=>(k.block i (Nat.lt_of_lt_of_le hi h.size) hne).trans (h.block i hi)⟩
theorem zBo {w:World} {rb:Nat} (q:Nat) (u:Value):w.grownBy (w.setCell ⟨rb,q,none⟩ u) (some rb) :=
 ⟨rfl,rfl,rfl,by simp [World.setCell],fun k _ hne=>Below.heap_setCell _ _ _ _ (fun e=>hne (by rw [e]))⟩
theorem Txts.keepAny {w w':World} {B:Option Addr} {n:Nat} {T:List (List UInt8)} {rb:Nat} (h:Txts w B n T) (hg:w.grownBy w' (some rb)) (hne:∀k,blk B=some k→k < rb):Txts w' B n T:=by
 refine ⟨h.len,h.le,fun h0=>?_⟩;obtain ⟨g,o,e,hb,hc⟩:=h.2.2 h0;subst e;refine ⟨g,o,rfl,Nat.lt_of_lt_of_le hb hg.size,fun j x hx q v hv=>?_⟩;rw [World.cell?_of_block (w:=w) (w':=w') (hg.block g hb (fun e=>Nat.ne_of_lt (hne g rfl) (by injection e)))];exact hc j x hx q v hv
set_option maxHeartbeats 3200000 in
theorem zEG (rb:Nat) (A:Option Addr) (n c:Nat) (L:List Fg) (re lo:Int) (T:List (List UInt8)) (bad lost:Bool) (S:List UInt8) (w:World) (h:Rd w rb A n c re lo T bad lost) (hA:Fgs w A n L) :
  Calls Tryz.prog 128 #[.pointer (some ⟨rb,0,none⟩),.string (bA S)] w fun e w'=>e=.returned (.int .i64 (zDj L S:Int))∧Rd w' rb A n c re lo T (bad||zKh S) (lost||zEk L S)∧w.grownBy w' (some rb):=by
 obtain ⟨B,m,d,hk,hT,hmd,hne⟩:=h.ex;have jF:=zEd S w
 cases hp:zGb S with
 | none =>
  rw [hp] at jF;have gD:Hid (Calls Tryz.prog 166 #[.string (bA S)] w fun e w'=>e=.returned (.tuple #[.agg #[.int .i64 0,.bool false,.int .i64 0],.int .i64 6])∧Below w.heap.size w w'):=qH jF;have HR:=qH (show zDj L S=0∧zKh S=true∧zEk L S=false by unfold zDj zKh zEk;rw [hp];exact ⟨rfl,rfl,rfl⟩);clear jF hp h hA;go_enter Tryz.func128,Tryz.ntmps128;go_wp2_with fail
  refine gD.out.mono ?_;rintro e w2 ⟨rfl,ai⟩;have hk2:=hk.below ai hk.lt;have cc:=hk2.alloc (.cells #[.int .i64 0,.bool false,.int .i64 0] 90);have al:Below w.heap.size w (w2.alloc (.cells #[.int .i64 0,.bool false,.int .i64 0] 90)):=ai.alloc ai.size _;have c4:(w2.alloc (.cells #[.int .i64 0,.bool false,.int .i64 0] 90)).cell? ⟨rb,4,none⟩=some (.bool bad):=(cc.cell 4).trans rfl;have z4:=cc.frozen 4;have HS:=qH (cc.set_ 4 (.bool true));clear gD ai hk2;go_wp2_with fail
  go_ret;refine ⟨zFs (by rw [HR.out.1];rfl),?_,zCI al (zBo _ _)⟩;rw [HR.out.2.1,HR.out.2.2,Bool.or_true,Bool.or_false];exact ⟨B,m,d,by simpa using HS.out,Txts.keepAny (Els.below hT al) (zBo _ _) hne,hmd,hne⟩
 | some f =>
  rw [hp] at jF;have gD:Hid (Calls Tryz.prog 166 #[.string (bA S)] w fun e w'=>e=.returned (.tuple #[fgV f,.int .i64 0])∧Below w.heap.size w w'):=qH jF;obtain ⟨ix,hix⟩:∃ix,zAK L f=ix:=⟨_,rfl⟩
  have HR:=qH (show zDj L S=ix∧zKh S=false∧zEk L S=decide (ix=0) by unfold zDj zKh zEk;rw [hp];exact ⟨hix,rfl,by simp only [hix]⟩);have qw:=qH (fun wx (fI:Fgs wx A n L)=>zNm A n c L re lo f wx fI);clear jF hp h;go_enter Tryz.func128,Tryz.ntmps128;go_wp2_with fail
  refine gD.out.mono ?_;rintro e w2 ⟨rfl,ai⟩;have kD:=hA.below ai;have hk2:=hk.below ai hk.lt;have cc:=hk2.alloc (.cells #[.int .i64 f.p,.bool f.r,.int .i64 f.d] 90);have nG:Blk (w2.alloc (.cells #[.int .i64 f.p,.bool f.r,.int .i64 f.d] 90)) w2.heap.size 90 #[.int .i64 f.p,.bool f.r,.int .i64 f.d]:=Blk.new _ _ _;have uU:=kD.alloc (.cells #[.int .i64 f.p,.bool f.r,.int .i64 f.d] 90);have al:Below w.heap.size w (w2.alloc (.cells #[.int .i64 f.p,.bool f.r,.int .i64 f.d] 90)):=ai.alloc ai.size _;clear ai hk2 kD hA;go_wp2_with fail
  generalize w2.alloc (.cells #[.int .i64 f.p,.bool f.r,.int .i64 f.d] 90)=Y at cc nG uU al ⊢
  have KP:=qH (show ∀wx,Below Y.heap.size Y wx→(Below Y.heap.size Y wx∧wx.cell? ⟨rb,0,none⟩=some (.slice A n c)∧wx.cell? ⟨rb,1,none⟩=some (.int .i64 re)∧wx.cell? ⟨rb,2,none⟩=some (.int .i64 lo)∧wx.cell? ⟨w2.heap.size,0,none⟩=some (.int .i64 f.p)∧wx.cell? ⟨w2.heap.size,1,none⟩=some (.bool f.r)∧wx.cell? ⟨w2.heap.size,2,none⟩=some (.int .i64 f.d)) from
   fun wx h=>⟨h,((cc.below h cc.lt).cell 0).trans rfl,((cc.below h cc.lt).cell 1).trans rfl,((cc.below h cc.lt).cell 2).trans rfl,((nG.below h nG.lt).cell 0).trans rfl,((nG.below h nG.lt).cell 1).trans rfl,((nG.below h nG.lt).cell 2).trans rfl⟩)
  first
   | go_region_held3 (fun wx=>Below Y.heap.size Y wx∧wx.cell? ⟨rb,0,none⟩=some (.slice A n c)∧wx.cell? ⟨rb,1,none⟩=some (.int .i64 re)∧wx.cell? ⟨rb,2,none⟩=some (.int .i64 lo)∧wx.cell? ⟨w2.heap.size,0,none⟩=some (.int .i64 f.p)∧wx.cell? ⟨w2.heap.size,1,none⟩=some (.bool f.r)∧wx.cell? ⟨w2.heap.size,2,none⟩=some (.int .i64 f.d)) (first | assumption | exact KP.out _ (Below.refl _ _).drew | exact KP.out _ (zAa (And.left (by assumption)) (by assumption) (Below.size (And.left (by assumption)))))
     (first
      | (go_at_call 167;refine (qw.out _ (uU.below (And.left (by assumption)))).mono ?_;rintro e wa ⟨rfl,hba⟩))
   | fail
  all_goals
   have hbf:=And.left (show Below Y.heap.size Y _∧_ from by assumption);have hka:=cc.below hbf cc.lt;have hbw:=zAa al hbf al.size;have c5:wa.cell? ⟨rb,5,none⟩=some (.bool lost):=(hka.cell 5).trans rfl;have z5:=hka.frozen 5;have zd:=qH (fun u=>hka.set_ 5 u);have fin:∀b:Bool,b=(lost||decide (ix=0))→Rd (wa.setCell ⟨rb,5,none⟩ (.bool b)) rb A n c re lo T (bad||zKh S) (lost||zEk L S)∧w.grownBy (wa.setCell ⟨rb,5,none⟩ (.bool b)) (some rb):=fun b hb=>by
    refine ⟨⟨B,m,d,?_,Txts.keepAny (Els.below hT hbw) (zBo _ _) hne,hmd,hne⟩,zCI hbw (zBo _ _)⟩;rw [HR.out.2.1,HR.out.2.2,Bool.or_false,←hb];simpa using zd.out (.bool b)
   have mQ:=qH fin;have vu:=qH (show zDj L S=ix from HR.out.1);clear hka cc nG uU al hbf hbw hix fin qw gD KP
   cases lost with
   | true =>
    go_wp2_with fail
    go_ret;exact ⟨zFs (by rw [vu.out]),mQ.out true (by simp)⟩
   | false =>
    by_cases h0:ix=0
    ·have k0:((ix:Int)==0)=true:=by simp;omega
     subst h0;clear k0;go_wp2_with fail
     go_ret;exact ⟨zFs (by rw [vu.out];rfl),mQ.out true (by simp)⟩
    ·have k0:((ix:Int)==0)=false:=by simp;omega
     have FF:=qH (mQ.out false (by simp [h0]));clear h0;go_wp2_with fail
     go_ret;exact ⟨zFs (by rw [vu.out]),FF.out⟩
end Go.Proofs.YtlmdfmnbcndhoaaGreatDoor
namespace Go.Proofs.YtlmdfmnbcndhoaaGreatDoor
open Go.RowKit
def ovT (S:List UInt8):Bool:=S==[111,118,101,114]
def unT (S:List UInt8):Bool:=S==[117,110,100,101,114]
theorem zAn (S l:List UInt8):((bA S).toList==l)=(S==l):=by rw [zAr]
set_option maxHeartbeats 3200000 in
theorem zLr (rb:Nat) (A:Option Addr) (n c:Nat) (re lo:Int) (T:List (List UInt8)) (bad lost:Bool) (w:World) (h:Rd w rb A n c re lo T bad lost) :
  Calls Tryz.prog 147 #[.pointer (some ⟨rb,0,none⟩)] w fun e w'=>e=.returned (.bool (ovT (xa T 0)))∧Rd w' rb A n c re lo T.tail ((bad||T.isEmpty)||!(ovT (xa T 0)||unT (xa T 0))) lost∧w.grownBy w' (some rb):=by
 have HN:=qH (zGT rb A n c re lo T bad lost w h);clear h;have n1:=zAn (xa T 0) [111,118,101,114];have n2:=zAn (xa T 0) [117,110,100,101,114];obtain ⟨b1,ay⟩:∃b,ovT (xa T 0)=b:=⟨_,rfl⟩
 obtain ⟨b2,ai⟩:∃b,unT (xa T 0)=b:=⟨_,rfl⟩
 obtain ⟨b0,ah⟩:∃b,(bad||T.isEmpty)=b:=⟨_,rfl⟩
 rw [show (xa T 0==[111,118,101,114])=b1 from ay] at n1;rw [show (xa T 0==[117,110,100,101,114])=b2 from ai] at n2;rw [ah] at HN;rw [ah,ay,ai];generalize xa T 0=S at n1 n2 HN;clear ah ay ai;have fin:∀(w2:World),Rd w2 rb A n c re lo T.tail b0 lost→w.grownBy w2 (some rb)→∃B m d,Blk w2 rb 123 (rdC A n c re lo B m d b0 lost)∧∀b:Bool,b=(b0||!(b1||b2))→Rd (w2.setCell ⟨rb,4,none⟩ (.bool b)) rb A n c re lo T.tail (b0||!(b1||b2)) lost∧w.grownBy (w2.setCell ⟨rb,4,none⟩ (.bool b)) (some rb):=fun w2 h2 eh=>by
  obtain ⟨B,m,d,hk,hT,hmd,hne⟩:=h2.ex;refine ⟨B,m,d,hk,fun b hb=>⟨⟨B,m,d,?_,Txts.keepAny hT (zBo _ _) hne,hmd,hne⟩,zAb eh (zBo _ _)⟩⟩;rw [←hb];simpa using hk.set_ 4 (.bool b)
 have mQ:=qH fin;clear fin;go_enter Tryz.func147,Tryz.ntmps147;go_wp2_with fail
 refine HN.out.mono ?_;rintro e w2 ⟨rfl,h2,eh⟩;obtain ⟨B,m,d,hk,hfin⟩:=mQ.out w2 h2 eh;have pl:=qH hfin;have c4:w2.cell? ⟨rb,4,none⟩=some (.bool b0):=(hk.cell 4).trans rfl;have z4:=hk.frozen 4;clear h2 eh hfin hk HN mQ
 cases b0<;>cases b1<;>cases b2
 all_goals
  go_wp2_with fail
  go_ret;exact ⟨rfl,pl.out _ rfl⟩
end Go.Proofs.YtlmdfmnbcndhoaaGreatDoor
namespace Go.Proofs.YtlmdfmnbcndhoaaGreatDoor
open Go.RowKit
theorem zBN (S:List UInt8) (i j:Nat):(bA S).extract i j=bA ((S.take j).drop i):=by
 apply ByteArray.ext;apply Array.ext';simp [bA,List.drop_take]
theorem zCJ (x:UInt8) (S:List UInt8) (w:World):(Instr.index 9 (.string (bA (x :: S))) (.int .i64 0)).run Tryz.prog w=.ok (.int .u8 x.toNat) w:=by
 rw [run_index_string w 9 (bA (x :: S)) .i64 0 Tryz.underlying9,dif_pos (by rw [zAL];simp)];rfl
theorem zGt (x:UInt8) (S:List UInt8) (w:World):(Instr.slice 9 (.string (bA (x :: S))) (some (.int .i64 1)) none none).run Tryz.prog w=.ok (.string (bA S)) w:=by
 rw [run_slice_string_l w 9 (bA (x :: S)) Tryz.underlying9 .i64 1 (by omega) (by rw [zAL];simp;omega),zBN,zAL];simp
theorem zTU (x y:UInt8) (S:List UInt8) (w:World):(Instr.slice 9 (.string (bA (x :: y :: S))) none (some (.int .i64 2)) none).run Tryz.prog w=.ok (.string (bA [x,y])) w:=by
 rw [run_slice_string_h w 9 (bA (x :: y :: S)) Tryz.underlying9 .i64 2 (by omega) (by rw [zAL];simp;omega),zBN];simp
theorem zLs (x y:UInt8) (S:List UInt8) (w:World):(Instr.slice 9 (.string (bA (x :: y :: S))) (some (.int .i64 2)) none none).run Tryz.prog w=.ok (.string (bA S)) w:=by
 rw [run_slice_string_l w 9 (bA (x :: y :: S)) Tryz.underlying9 .i64 2 (by omega) (by rw [zAL];simp;omega),zBN,zAL];simp
end Go.Proofs.YtlmdfmnbcndhoaaGreatDoor
namespace Go.Proofs.YtlmdfmnbcndhoaaGreatDoor
open Go.RowKit
def zGo:List UInt8→Bool×List UInt8×Bool
 | []=>(false,[],false)
 | x :: r=>if x=111 then (true,r,true) else if x=117 then (false,r,true) else (false,x :: r,false)
set_option maxHeartbeats 1600000 in
theorem zDQ (S:List UInt8) (w:World) :
  Calls Tryz.prog 163 #[.string (bA S)] w fun e w'=>e=.returned (.tuple #[.bool (zGo S).1,.string (bA (zGo S).2.1),.bool (zGo S).2.2])∧Below w.heap.size w w':=by
 have n0:=zAn S []
 cases S with
 | nil =>
  have hr:=qH (show zGo []=(false,[],false) from rfl);rw [show (([]:List UInt8)==[])=true from rfl] at n0;rw [hr.out];go_enter Tryz.func163,Tryz.ntmps163;go_wp2_with fail
  go_ret3
  exact ⟨rfl,Below.refl _ _⟩
 | cons x r =>
  have s1:=zCJ x r;have s2:=zGt x r;rw [show (x :: r==([]:List UInt8))=false from rfl] at n0;by_cases h1:x=111
  ·subst h1;have hr:=qH (show zGo (111 :: r)=(true,r,true) from rfl);rw [hr.out];rw [show (((111:UInt8).toNat:Nat):Int)=111 from rfl] at s1;go_enter Tryz.func163,Tryz.ntmps163;go_wp2_with fail
   go_quiet (fail)
   go_wp2_with fail
   go_ret3
   exact ⟨rfl,zAf (Below.refl _ _) _⟩
  ·by_cases h2:x=117
   ·subst h2;have hr:=qH (show zGo (117 :: r)=(false,r,true) from rfl);rw [hr.out];rw [show (((117:UInt8).toNat:Nat):Int)=117 from rfl] at s1;go_enter Tryz.func163,Tryz.ntmps163;go_wp2_with fail
    go_quiet (fail)
    go_wp2_with fail
    go_ret3
    exact ⟨rfl,zAf (Below.refl _ _) _⟩
   ·have hr:=qH (show zGo (x :: r)=(false,x :: r,false) by simp only [zGo];rw [if_neg h1,if_neg h2]);have k1:((x.toNat:Int) != 111)=true:=by
     simp only [bne_iff_ne,ne_eq];intro e;exact h1 (UInt8.toNat.inj (show x.toNat=111 by omega))
    have k2:((x.toNat:Int) != 117)=true:=by
     simp only [bne_iff_ne,ne_eq];intro e;exact h2 (UInt8.toNat.inj (show x.toNat=117 by omega))
    rw [hr.out];clear h1 h2;go_enter Tryz.func163,Tryz.ntmps163;go_wp2_with fail
    go_ret3
    exact ⟨rfl,Below.refl _ _⟩
end Go.Proofs.YtlmdfmnbcndhoaaGreatDoor
namespace Go.Proofs.YtlmdfmnbcndhoaaGreatDoor
open Go.RowKit
noncomputable def zFt (S:List UInt8):Option (Fg×List UInt8) :=
 match S with
 | x :: y :: r=>match zGb [x,y] with
  | some f=>if f.p=1 then some (f,r) else none
  | none=>none
 | _=>none
theorem zCD (S:List UInt8):(bA S).size=S.length:=zAL S
theorem Rd.below {w w':World} {rb:Nat} {A:Option Addr} {n c:Nat} {re lo:Int} {T:List (List UInt8)} {bad lost:Bool} (h:Rd w rb A n c re lo T bad lost) (hb:Below w.heap.size w w'):Rd w' rb A n c re lo T bad lost:=by
 obtain ⟨B,m,d,hk,hT,hmd,hne⟩:=h.ex;exact ⟨B,m,d,hk.below hb hk.lt,Els.below hT hb,hmd,hne⟩
theorem zAz {w w':World} {row:Option Nat} (h:Below w.heap.size w w'):w.grownBy w' row:=zCI h (zBj _ _)
theorem Fgs.keepBlk {w w':World} {A:Option Addr} {n:Nat} {L:List Fg} {rb:Nat} (h:Fgs w A n L) (hg:w.grownBy w' (some rb)) (hne:∀k,blk A=some k→k≠rb):Fgs w' A n L:=by
 refine ⟨⟨h.len,h.le,fun h0=>?_⟩,h.2⟩;obtain ⟨g,o,e,hb,hc⟩:=h.1.2.2 h0;subst e;refine ⟨g,o,rfl,Nat.lt_of_lt_of_le hb hg.size,fun j x hx q v hv=>?_⟩;rw [World.cell?_of_block (w:=w) (w':=w') (hg.block g hb (fun e=>hne g rfl (by injection e)))];exact hc j x hx q v hv
theorem Fgs.keepR {w w':World} {A:Option Addr} {n:Nat} {L:List Fg} {rb:Nat} (h:Fgs w A n L) (hg:w.grownBy w' (some rb)) (hne:0 < n→∀k,blk A=some k→k < rb):Fgs w' A n L:=by
 by_cases h0:0 < n
 ·exact h.keepBlk hg (fun k hk=>Nat.ne_of_lt (hne h0 k hk))
 ·exact ⟨⟨h.1.1,h.1.2.1,fun h1=>absurd h1 h0⟩,h.2⟩
def RdS (Y:World) (rb:Nat) (A:Option Addr) (n c:Nat) (L:List Fg) (re lo:Int) (T:List (List UInt8)) (bad lost q:Bool) (wx:World):Prop :=
 Y.grownBy wx (some rb)∧Fgs wx A n L∧∃l,Rd wx rb A n c re lo T bad l∧(l=lost∨l=(lost||q))
set_option maxHeartbeats 3200000 in
theorem zNx (rb:Nat) (A:Option Addr) (n c:Nat) (L:List Fg) (re lo:Int) (T:List (List UInt8)) (bad lost:Bool) (S:List UInt8) (w:World) (h:Rd w rb A n c re lo T bad lost) (hA:Fgs w A n L) (fe:0 < n→∀k,blk A=some k→k < rb) :
  Calls Tryz.prog 160 #[.pointer (some ⟨rb,0,none⟩),.string (bA S)] w fun e w' =>
   (match zFt S with
    | some (f,r)=>e=.returned (.tuple #[.int .i64 (zAK L f:Int),.string (bA r),.bool true])∧Rd w' rb A n c re lo T bad (lost||decide (zAK L f=0))
    | none=>e=.returned (.tuple #[.int .i64 0,.string (bA S),.bool false])∧Rd w' rb A n c re lo T bad lost)∧w.grownBy w' (some rb):=by
 by_cases h2:S.length < 2
 ·have hr:zFt S=none:=by
   match S,h2 with
   | [],_=>rfl
   | [x],_=>rfl
  rw [hr];have hs:=zCD S;have i0:(S.length:Int) < 2:=by omega
  go_enter Tryz.func160,Tryz.ntmps160;go_wp2_with fail
  go_ret3
  exact ⟨⟨rfl,h⟩,zBj _ _⟩
 ·obtain ⟨x,y,r,rfl⟩:∃x y r,S=x :: y :: r:=by
   match S,h2 with
   | [],h=>exact absurd (by simp) h
   | [x],h=>exact absurd (by simp) h
   | x :: y :: r,_=>exact ⟨x,y,r,rfl⟩
  have hs:=zCD (x :: y :: r);have i0:¬((x :: y :: r).length:Int) < 2:=by omega
  have t1:=zTU x y r;have t2:=zLs x y r;have jF:=zEd [x,y] w;clear h2
  cases hp:zGb [x,y] with
  | none =>
   have hr:zFt (x :: y :: r)=none:=by simp [zFt,hp]
   rw [hr];rw [hp] at jF;have gD:Hid (Calls Tryz.prog 166 #[.string (bA [x,y])] w fun e w'=>e=.returned (.tuple #[.agg #[.int .i64 0,.bool false,.int .i64 0],.int .i64 6])∧Below w.heap.size w w'):=qH jF;clear jF;go_enter Tryz.func160,Tryz.ntmps160;go_wp2_with fail
   refine gD.out.mono ?_;rintro e w2 ⟨rfl,ai⟩;go_wp2_with fail
   have al:Below w.heap.size w (w2.alloc (.cells #[.int .i64 0,.bool false,.int .i64 0] 90)):=ai.alloc ai.size _;go_ret3
   exact ⟨⟨rfl,h.below al⟩,zAz al⟩
  | some f =>
   rw [hp] at jF;have gD:Hid (Calls Tryz.prog 166 #[.string (bA [x,y])] w fun e w'=>e=.returned (.tuple #[fgV f,.int .i64 0])∧Below w.heap.size w w'):=qH jF;clear jF;by_cases h1:f.p=1
   ·have hr:zFt (x :: y :: r)=some (f,r):=by simp [zFt,hp,h1]
    have HF:=qH (show zDj L [x,y]=zAK L f∧zKh [x,y]=false∧zEk L [x,y]=decide (zAK L f=0) by unfold zDj zKh zEk;rw [hp];exact ⟨rfl,rfl,rfl⟩);rw [hr];have k0:(f.p != 1)=false:=by simpa using h1
    clear hp hr h1;go_enter Tryz.func160,Tryz.ntmps160;go_wp2_with fail
    refine gD.out.mono ?_;rintro e w2 ⟨rfl,ai⟩;have al:Below w.heap.size w (w2.alloc (.cells #[.int .i64 f.p,.bool f.r,.int .i64 f.d] 90)):=ai.alloc ai.size _;go_wp2_with fail
    generalize w2.alloc (.cells #[.int .i64 f.p,.bool f.r,.int .i64 f.d] 90)=Y at al ⊢;have hY:RdS Y rb A n c L re lo T bad lost (decide (zAK L f=0)) Y:=⟨zBj _ _,hA.below al,lost,h.below al,.inl rfl⟩;have HY:=qH (show RdS Y rb A n c L re lo T bad lost (decide (zAK L f=0)) Y.drew from ⟨zAz (Below.refl _ _).drew,(hA.below al).below (Below.refl _ _).drew,lost,(h.below al).below (Below.refl _ _).drew,.inl rfl⟩)
    have HC:=qH (show ∀wx,RdS Y rb A n c L re lo T bad lost (decide (zAK L f=0)) wx→Calls Tryz.prog 128 #[.pointer (some ⟨rb,0,none⟩),.string (bA [x,y])] wx fun e w'=>e=.returned (.int .i64 (zAK L f:Int))∧Hid (Rd w' rb A n c re lo T bad (lost||decide (zAK L f=0)))∧RdS Y rb A n c L re lo T bad lost (decide (zAK L f=0)) w' from fun wx ⟨g1,g2,l,g3,g4⟩=>by
     refine (zEG rb A n c L re lo T bad l [x,y] wx g3 g2).mono ?_
     rintro e w' ⟨rfl,k1,k2⟩
     rw [HF.out.2.1,HF.out.2.2,Bool.or_false] at k1
     have hl2:(l||decide (zAK L f=0))=(lost||decide (zAK L f=0)):=by
      rcases g4 with rfl | rfl
      ·rfl
      ·cases lost<;>simp
     rw [hl2] at k1
     exact ⟨zFs (by rw [HF.out.1]),qH k1,zAb g1 k2,g2.keepR k2 fe,_,k1,.inr rfl⟩)
    first
     | go_region_held3 (fun wx=>RdS Y rb A n c L re lo T bad lost (decide (zAK L f=0)) wx) (first | assumption | exact HY.out)
       (first
        | (go_at_call 128;refine (HC.out _ (by assumption)).mono ?_;rintro e wa ⟨rfl,nh,hSa⟩))
     | fail
    all_goals
     have hgf:=And.left (show RdS Y rb A n c L re lo T bad lost (decide (zAK L f=0)) _ from by assumption);go_wp2_with fail
     go_ret3
     exact ⟨⟨rfl,nh.out⟩,zCI al hgf⟩
   ·have hr:zFt (x :: y :: r)=none:=by simp [zFt,hp,h1]
    rw [hr];have k0:(f.p != 1)=true:=by simpa using h1
    clear hp hr h1;go_enter Tryz.func160,Tryz.ntmps160;go_wp2_with fail
    refine gD.out.mono ?_;rintro e w2 ⟨rfl,ai⟩;have al:Below w.heap.size w (w2.alloc (.cells #[.int .i64 f.p,.bool f.r,.int .i64 f.d] 90)):=ai.alloc ai.size _;go_wp2_with fail
    go_ret3
    exact ⟨⟨rfl,h.below al⟩,zAz al⟩
end Go.Proofs.YtlmdfmnbcndhoaaGreatDoor
namespace Go.Proofs.YtlmdfmnbcndhoaaGreatDoor
open Go
def zAR (c:UInt8):List UInt8→List (List UInt8)
 | []=>[[]]
 | b :: l=>if b=c then [] :: zAR c l else match zAR c l with
  | []=>[[b]]
  | p :: ps=>(b :: p) :: ps
theorem zFA (c:UInt8):∀l,zAR c l≠[]
 | []=>by simp [zAR]
 | b :: l=>by
  unfold zAR;split
  ·simp
  ·split<;>simp
theorem zEH (c:UInt8) (l:List UInt8):zAR c (c :: l)=[] :: zAR c l:=by rw [zAR,if_pos rfl]
theorem zCK {b c:UInt8} (h:b≠c) {l p:List UInt8} {ps:List (List UInt8)} (hl:zAR c l=p :: ps):zAR c (b :: l)=(b :: p) :: ps:=by
 rw [zAR,if_neg h,hl]
theorem zCL {c:UInt8} {r:List UInt8}:∀{h:List UInt8},c ∉ h→zAR c (h++c :: r)=h :: zAR c r
 | [],_=>zEH c r
 | b :: h,hc=>by
  have h1:c ∉ h:=fun e=>hc (List.mem_cons_of_mem _ e)
  have h2:b≠c:=fun e=>hc (by rw [e];exact List.mem_cons_self ..)
  rw [List.cons_append];exact zCK h2 (zCL h1)
theorem zEI {c:UInt8}:∀{h:List UInt8},c ∉ h→zAR c h=[h]
 | [],_=>rfl
 | b :: h,hc=>by
  have h1:c ∉ h:=fun e=>hc (List.mem_cons_of_mem _ e)
  have h2:b≠c:=fun e=>hc (by rw [e];exact List.mem_cons_self ..)
  exact zCK h2 (zEI h1)
theorem zIP (x y:List UInt8) (r:List (List UInt8)) (sep:List UInt8):Lib.join (x :: y :: r) sep=x++sep++Lib.join (y :: r) sep:=by
 rw [Lib.join_cons,Lib.join_cons];simp [Lib.joinTail]
theorem zEJ {c:UInt8}:∀{ps:List (List UInt8)},ps≠[]→(∀p∈ps,c ∉ p)→zAR c (Lib.join ps [c])=ps
 | [],h,_=>absurd rfl h
 | [p],_,h=>by rw [Lib.join_one];exact zEI (h p (List.mem_cons_self ..))
 | p :: q :: r,_,h=>by
  rw [zIP,List.append_assoc,List.singleton_append,zCL (h p (List.mem_cons_self ..))];rw [zEJ (by simp) (fun x hx=>h x (List.mem_cons_of_mem _ hx))]
theorem zKi (c:UInt8):∀l:List UInt8,Lib.join (zAR c l) [c]=l
 | []=>by rw [zAR,Lib.join_one]
 | b :: l=>by
  have ih:=zKi c l
  cases hs:zAR c l with
  | nil=>exact absurd hs (zFA c l)
  | cons p ps =>
   by_cases h:b=c
   ·subst h;rw [zEH,hs,zIP,←hs,ih];rfl
   ·rw [zCK h hs];rw [hs] at ih;rw [Lib.join_cons] at ih ⊢;rw [List.cons_append,ih]
theorem zRi (c:UInt8):∀l:List UInt8,∀p∈zAR c l,c ∉ p
 | [],p,hp=>by simp [zAR] at hp;subst hp;simp
 | b :: l,p,hp=>by
  have ih:=zRi c l
  cases hs:zAR c l with
  | nil=>exact absurd hs (zFA c l)
  | cons q ps =>
   rw [hs] at ih;by_cases h:b=c
   ·subst h;rw [zEH,hs] at hp;rcases List.mem_cons.1 hp with rfl | hp
    ·simp
    ·exact ih p hp
   ·rw [zCK h hs] at hp;rcases List.mem_cons.1 hp with rfl | hp
    ·intro hm;rcases List.mem_cons.1 hm with rfl | hm
     ·exact h rfl
     ·exact ih q (List.mem_cons_self ..) hm
    ·exact ih p (List.mem_cons_of_mem _ hp)
theorem zEK (c:UInt8):∀l:List UInt8,(zAR c l).length=l.count c+1
 | []=>rfl
 | b :: l=>by
  have ih:=zEK c l
  cases hs:zAR c l with
  | nil=>exact absurd hs (zFA c l)
  | cons p ps =>
   by_cases h:b=c
   ·subst h;rw [zEH,List.length_cons,ih,List.count_cons_self]
   ·rw [zCK h hs,List.count_cons_of_ne (by simpa using h),←ih,hs];rfl
theorem zBt (c:UInt8):∀l:List UInt8,∀p∈zAR c l,p.length≤l.length
 | [],p,hp=>by simp [zAR] at hp;subst hp;simp
 | b :: l,p,hp=>by
  have ih:=zBt c l
  cases hs:zAR c l with
  | nil=>exact absurd hs (zFA c l)
  | cons q ps =>
   rw [hs] at ih;by_cases h:b=c
   ·subst h;rw [zEH,hs] at hp;rcases List.mem_cons.1 hp with rfl | hp
    ·simp
    ·have:=ih p hp;simp only [List.length_cons];omega
   ·rw [zCK h hs] at hp;rcases List.mem_cons.1 hp with rfl | hp
    ·have:=ih q (List.mem_cons_self ..);simp only [List.length_cons];omega
    ·have:=ih p (List.mem_cons_of_mem _ hp);simp only [List.length_cons];omega
theorem zGU (c:UInt8):∀(k:Nat) (l:List UInt8),l.count c=k→Lib.splitK [c] 0 k l=zAR c l
 | 0,l,h=>by
  have hc:c ∉ l:=by rw [←List.count_eq_zero];exact h
  rw [zEI hc];rfl
 | k+1,l,h=>by
  have hm:c∈l:=by rw [←List.count_pos_iff];omega
  obtain ⟨a,b,rfl,hn⟩:∃a b,l=a++c :: b∧c ∉ a:=by
   clear h
   induction l with
   | nil=>cases hm
   | cons x l ih =>
    by_cases hx:x=c
    ·subst hx;exact ⟨[],l,rfl,by simp⟩
    ·have:c∈l:=by
      rcases List.mem_cons.1 hm with e | e
      ·exact absurd e.symm hx
      ·exact e
     obtain ⟨a,b,rfl,hn⟩:=ih this;exact ⟨x :: a,b,rfl,fun e=>by rcases List.mem_cons.1 e with e | e;exact hx e.symm;exact hn e⟩
  unfold Lib.splitK;rw [Lib.index_one,zOD hn];have hne:¬((a.length:Int)==-1)=true:=fun e=>by have:=beq_iff_eq.1 e;omega
  rw [if_neg hne,zCL hn];have hk:b.count c=k:=by
   rw [List.count_append,List.count_cons_self,List.count_eq_zero.2 hn] at h;omega
  have e1:(a++c :: b).take ((a.length:Int).toNat+0)=a:=by simp
  have e2:(a++c :: b).drop ((a.length:Int).toNat + [c].length)=b:=by simp
  rw [e1,e2,zGU c k b hk]
theorem zLt (c:UInt8) (l:List UInt8):(Lib.splitB ⟨#[c]⟩ 0 (Lib.countB ⟨l.toArray⟩ ⟨#[c]⟩) ⟨l.toArray⟩)=(zAR c l).map (fun p=>(⟨p.toArray⟩:ByteArray)):=by
 have h:=Lib.splitB_data ⟨#[c]⟩ 0 (Lib.countB ⟨l.toArray⟩ ⟨#[c]⟩) ⟨l.toArray⟩;have hc:Lib.countB ⟨l.toArray⟩ ⟨#[c]⟩=l.count c:=by
  unfold Lib.countB;exact Lib.count_one c l
 rw [hc] at h ⊢;have h2:Lib.splitK [c] 0 (l.count c) l=zAR c l:=zGU c _ l rfl;have h3:(Lib.splitB ⟨#[c]⟩ 0 (l.count c) ⟨l.toArray⟩).map (·.data.toList)=zAR c l:=h.trans h2;rw [←h3,List.map_map]
 conv=>lhs;rw [←List.map_id (Lib.splitB ⟨#[c]⟩ 0 (l.count c) ⟨l.toArray⟩)]
 apply List.map_congr_left;intro x _
 cases x
 simp
end Go.Proofs.YtlmdfmnbcndhoaaGreatDoor
