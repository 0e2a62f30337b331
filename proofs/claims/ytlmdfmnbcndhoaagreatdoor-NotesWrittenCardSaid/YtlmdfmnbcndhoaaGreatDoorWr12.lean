/-
  Contract: the program's ParseName. No condition but the text's length.
  The program's reader of words: its block; next, is. Conditions: the reader lies in a block, its words read.
  The program's reader: finger. Conditions: the reader lies in a block, its words and its frame read.
  The program's reader: over. Conditions: the reader lies in a block, its words read.
  A string's first byte, what is behind it, its first two bytes: plain words over the program's strings. No condition but lengths.
  Contract: the program's flag. No condition.
-/
import Derived.Test.YtlmdfmnbcndhoaaGreatDoorWr11
namespace Go.Proofs.YtlmdfmnbcndhoaaGreatDoor
open Go.RowKit
theorem Blk.store3 {w:World} {g:Nat} {t:TypeId} {v0 v1 v2:Value} (h:Blk w g t #[v0,v1,v2]) (u0 u1 u2:Value) :
  Blk (((w.setCell ⟨g,0,none⟩ u0).setCell ⟨g,1,none⟩ u1).setCell ⟨g,2,none⟩ u2) g t #[u0,u1,u2]:=((h.set_ 0 _).set_ 1 _).set_ 2 _
theorem zFQ {a w:World} {g B:Nat} (h:Below B a w) (hB:B≤g) (u0 u1 u2:Value) :
  Below B a (((w.setCell ⟨g,0,none⟩ u0).setCell ⟨g,1,none⟩ u1).setCell ⟨g,2,none⟩ u2) :=
 ((h.setCell (p:=⟨g,0,none⟩) hB _).setCell (p:=⟨g,1,none⟩) hB _).setCell (p:=⟨g,2,none⟩) hB _
theorem name_is {x:Fg} {S:List UInt8} (h:zAn x=S) (hx:zAw x=true) (w:World):Calls Tryz.prog 154 #[fgV x] w fun e w'=>e=.returned (.string (bA S))∧Below w.heap.size w w':=by
 subst h;exact hand_Name x hx w
theorem build_fg (p:Int) (r:Bool) (d:Int) (w:World):(Instr.build 90 #[(0,.int .i64 p),(1,.bool r),(2,.int .i64 d)]).run Tryz.prog w=.ok (fgV ⟨p,r,d⟩) w:=run_build w _ _ _ (by kernel_rfl)
theorem build_fg0 (w:World):(Instr.build 90 #[]).run Tryz.prog w=.ok (.agg #[.int .i64 0,.bool false,.int .i64 0]) w:=run_build w _ _ _ (by kernel_rfl)
def parV (o:Option Fg):Value:=match o with | some f=>.tuple #[fgV f,.int .i64 0] | none=>.tuple #[fgV df,.int .i64 6]
set_option maxHeartbeats 6400000 in
set_option maxRecDepth 100000 in
theorem zEm (S:List UInt8) (w:World) :
  Calls Tryz.prog 166 #[.string (bA S)] w fun e w'=>e=.returned (parV (parF S))∧Below w.heap.size w w':=by
 have hb0:Below w.heap.size w (w.alloc (.cells #[.int .i64 0,.bool false,.int .i64 0] 90)):=(Below.refl _ _).alloc (Nat.le_refl _) _
 have hk0:Blk (w.alloc (.cells #[.int .i64 0,.bool false,.int .i64 0] 90)) w.heap.size 90 #[.int .i64 0,.bool false,.int .i64 0]:=Blk.new _ _ _
 have bf:=build_fg
 have bf0:=build_fg0
 go_enter Tryz.func166,Tryz.ntmps166
 go_wp2_with fail
 generalize w.alloc (.cells #[.int .i64 0,.bool false,.int .i64 0] 90)=W at hb0 hk0 ⊢
 go_loopw [4] (fun v wr=>∃p:Nat,1≤p∧p≤10∧v=.int .i64 p∧Below W.heap.size W wr∧Hid (∀f,zAw f=true→f.p < (p:Int)→zAn f≠S)) (fun v _=>10-(intOf v).toNat)
 case atStart=>exact ⟨1,by omega,by omega,rfl,Below.refl _ _,Lib.hid (fun f hf h=>by have:=zAQ.1 hf;omega)⟩
 case round =>
  obtain ⟨p,hp1,hp,rfl,hbr,HP⟩:=hrel
  by_cases hlt:p < 10
  ·have i1:(p:Int)≤9:=by omega
   go_wp2_with fail
   go_loopw [5] (fun v w1=>∃d:Nat,d≤7∧v=.int .i64 d∧Below W.heap.size W w1∧Hid (∀f,zAw f=true→(f.p < (p:Int)∨f.p=(p:Int)∧f.d < (d:Int))→zAn f≠S)) (fun v _=>7-(intOf v).toNat)
   case atStart=>exact ⟨0,by omega,rfl,hbr,Lib.hid (fun f hf h=>by rcases h with h | h;exact HP.out f hf h;have:=zAQ.1 hf;omega)⟩
   case round =>
    clear hbr
    obtain ⟨d,hd,rfl,hbr,HD⟩:=hrel
    by_cases hdl:d < 7
    ·have i2:(d:Int)≤6:=by omega
     go_wp2_with fail
     have hb2:Below W.heap.size W (wr.alloc (.cells #[.bool false,.bool true] 4)):=hbr.alloc hbr.size _
     have hbb:Blk (wr.alloc (.cells #[.bool false,.bool true] 4)) wr.heap.size 4 #[.bool false,.bool true]:=Blk.new _ _ _
     generalize wr.alloc (.cells #[.bool false,.bool true] 4)=X at hb2 hbb ⊢
     generalize wr.heap.size=gb at hbb ⊢
     go_loopw [19] (fun v w3=>∃k:Nat,k≤2∧v=.int .i64 k∧Below X.heap.size X w3∧Hid (∀f,zAw f=true→(f.p < (p:Int)∨f.p=(p:Int)∧(f.d < (d:Int)∨f.d=(d:Int)∧(f.r=false∧1≤k∨f.r=true∧2≤k)))→zAn f≠S)) (fun v _=>2-(intOf v).toNat)
     case atStart=>exact ⟨0,by omega,rfl,Below.refl _ _,Lib.hid (fun f hf h=>HD.out f hf (by rcases h with h | ⟨h,h2 | ⟨_,h3⟩⟩;exact .inl h;exact .inr ⟨h,h2⟩;omega))⟩
     case round =>
      clear hbr
      obtain ⟨k,hk,rfl,hbr,HK⟩:=hrel
      have hbbr:=hbb.below hbr hbb.lt
      have hb3:=zAa hb2 hbr hb2.size
      by_cases hkl:k < 2
      ·obtain ⟨r,hr⟩:∃r:Bool,(k=0∧r=false∨k=1∧r=true):=by
        rcases (show k=0∨k=1 by omega) with h | h
        ·exact ⟨false,.inl ⟨h,rfl⟩⟩
        ·exact ⟨true,.inr ⟨h,rfl⟩⟩
       have hcell:wr.cell? ⟨gb,k,none⟩=some (.bool r):=by
        rcases hr with ⟨rfl,rfl⟩ | ⟨rfl,rfl⟩
        ·exact (hbbr.cell 0).trans rfl
        ·exact (hbbr.cell 1).trans rfl
       have hth:zAw ⟨(p:Int),r,(d:Int)⟩=true:=zAQ.2 ⟨by simp only;omega,by simp only;omega,by simp only;omega,by simp only;omega⟩
       have j0:(0:Int)≤(k:Int):=by omega
       have j1:(k:Int) < 2:=by omega
       have HR:=Lib.hid hr
       have HTH:=Lib.hid hth
       obtain ⟨NX,hNX⟩:∃T,zAn ⟨(p:Int),r,(d:Int)⟩=T:=⟨_,rfl⟩
       have HN:=Lib.hid (fun w=>name_is hNX hth w)
       have HNX:=Lib.hid hNX
       have hb5:Below W.heap.size W (wr.alloc (.cells #[.int .i64 (p:Int),.bool r,.int .i64 (d:Int)] 90)):=hb3.alloc hb3.size _
       have hb5x:Below X.heap.size X (wr.alloc (.cells #[.int .i64 (p:Int),.bool r,.int .i64 (d:Int)] 90)):=hbr.alloc hbr.size _
       have hf5:Blk (wr.alloc (.cells #[.int .i64 (p:Int),.bool r,.int .i64 (d:Int)] 90)) wr.heap.size 90 #[.int .i64 (p:Int),.bool r,.int .i64 (d:Int)]:=Blk.new _ _ _
       clear hr hth hNX
       by_cases hq:NX=S
       ·have hres:=Lib.hid (show parF S=some ⟨(p:Int),r,(d:Int)⟩ from zEN HTH.out (HNX.out.trans hq))
        have n0:((bA NX).toList==(bA S).toList)=true:=by rw [zEJ];simpa using hq
        clear hq
        go_wp2_with fail
        refine (HN.out _).mono ?_
        rintro e w6 ⟨rfl,hb6⟩
        have hf6:=hf5.below hb6 hf5.lt
        have hb7:=zAa hb5 hb6 hb5.size
        have hr6:=hk0.below hb7 hk0.lt
        have c0:w6.cell? ⟨wr.heap.size,0,none⟩=some (.int .i64 (p:Int)):=(hf6.cell 0).trans rfl
        have c1:w6.cell? ⟨wr.heap.size,1,none⟩=some (.bool r):=(hf6.cell 1).trans rfl
        have c2:w6.cell? ⟨wr.heap.size,2,none⟩=some (.int .i64 (d:Int)):=(hf6.cell 2).trans rfl
        have d0:w6.cell? ⟨w.heap.size,0,none⟩=some (.int .i64 0):=(hr6.cell 0).trans rfl
        have d1:w6.cell? ⟨w.heap.size,1,none⟩=some (.bool false):=(hr6.cell 1).trans rfl
        have d2:w6.cell? ⟨w.heap.size,2,none⟩=some (.int .i64 0):=(hr6.cell 2).trans rfl
        have z0:=hr6.frozen 0
        have z1:=hr6.frozen 1
        have z2:=hr6.frozen 2
        have hS:=hr6.store3 (.int .i64 (p:Int)) (.bool r) (.int .i64 (d:Int))
        have hbS:=zFQ (zAa hb0 hb7 hb0.size) (Nat.le_refl w.heap.size) (.int .i64 (p:Int)) (.bool r) (.int .i64 (d:Int))
        clear hf6 hr6 hcell hb6 hb5x hf5 hbb hbbr
        go_wp2_with fail
        (try simp only [Exit.inBlock,Exit.then])
        exact zBj rfl rfl rfl hS Tryz.underlying90 rfl (by kernel_rfl) rfl ⟨by rw [hres.out];rfl,hbS⟩
       ·have HK1:=Lib.hid (show ∀f,zAw f=true→(f.p < (p:Int)∨f.p=(p:Int)∧(f.d < (d:Int)∨f.d=(d:Int)∧(f.r=false∧1≤k+1∨f.r=true∧2≤k+1)))→zAn f≠S from fun f hf h=>by
         by_cases h5:f.p < (p:Int)∨f.p=(p:Int)∧(f.d < (d:Int)∨f.d=(d:Int)∧(f.r=false∧1≤k∨f.r=true∧2≤k))
         ·exact HK.out f hf h5
         ·have hfe:f=⟨(p:Int),r,(d:Int)⟩:=by
           obtain ⟨fp,frr,fd⟩:=f
           simp only at h h5
           rcases h with h | ⟨h1,h | ⟨h2,h3⟩⟩
           ·exact absurd (.inl h) h5
           ·exact absurd (.inr ⟨h1,.inl h⟩) h5
           ·rcases HR.out with ⟨k0,r0⟩ | ⟨k0,r0⟩
            ·rcases h3 with ⟨h3,_⟩ | ⟨_,h4⟩
             ·rw [h1,h2,h3,r0]
             ·omega
            ·rcases h3 with ⟨h3,h4⟩ | ⟨h3,h4⟩
             ·exact absurd (.inr ⟨h1,.inr ⟨h2,.inl ⟨h3,by omega⟩⟩⟩) h5
             ·rw [h1,h2,h3,r0]
          rw [hfe,HNX.out];exact hq)
        have n0:((bA NX).toList==(bA S).toList)=false:=by rw [zEJ];simpa using hq
        clear hq HK
        go_wp2_with fail
        refine (HN.out _).mono ?_
        rintro e w6 ⟨rfl,hb6⟩
        have hb7:=zAa hb5x hb6 hb5x.size
        clear hcell hf5 hbbr hb5
        go_wp2_with fail
        go_roundw
        case rel=>exact ⟨k+1,by omega,by go_num,hb7,HK1⟩
        case measure=>simp [intOf];omega
      ·have j1:¬(k:Int) < 2:=by omega
       have HD1:=Lib.hid (show ∀f,zAw f=true→(f.p < (p:Int)∨f.p=(p:Int)∧f.d < ((d+1:Nat):Int))→zAn f≠S from fun f hf h=>HK.out f hf (by
        rcases h with h | ⟨h1,h2⟩
        ·exact .inl h
        ·refine .inr ⟨h1,?_⟩
         by_cases h3:f.d < (d:Int)
         ·exact .inl h3
         ·refine .inr ⟨by omega,?_⟩
          cases e:f.r with
          | false=>exact .inl ⟨rfl,by omega⟩
          | true=>exact .inr ⟨rfl,by omega⟩))
       clear HK HD hbb hbbr
       go_wp2_with fail
       go_roundw
       case rel=>exact ⟨d+1,by omega,by go_num,hb3,HD1⟩
       case measure=>simp [intOf];omega
    ·have i2:¬(d:Int)≤6:=by omega
     have HP1:=Lib.hid (show ∀f,zAw f=true→f.p < ((p+1:Nat):Int)→zAn f≠S from fun f hf h=>HD.out f hf (by
      have:=zAQ.1 hf
      by_cases h1:f.p < (p:Int)
      ·exact .inl h1
      ·exact .inr ⟨by omega,by omega⟩))
     clear HD HP
     go_wp2_with fail
     go_roundw
     case rel=>exact ⟨p+1,by omega,by omega,by go_num,hbr,HP1⟩
     case measure=>simp [intOf];omega
  ·have i1:¬(p:Int)≤9:=by omega
   have hres:=Lib.hid (show parF S=none from parF_none fun f hf=>HP.out f hf (by have:=zAQ.1 hf;omega))
   have hr6:=hk0.below hbr hk0.lt
   have d0:wr.cell? ⟨w.heap.size,0,none⟩=some (.int .i64 0):=(hr6.cell 0).trans rfl
   have d1:wr.cell? ⟨w.heap.size,1,none⟩=some (.bool false):=(hr6.cell 1).trans rfl
   have d2:wr.cell? ⟨w.heap.size,2,none⟩=some (.int .i64 0):=(hr6.cell 2).trans rfl
   have z0:=hr6.frozen 0
   have z1:=hr6.frozen 1
   have z2:=hr6.frozen 2
   have hS:=hr6.store3 (.int .i64 0) (.bool false) (.int .i64 0)
   have hbS:=zFQ (zAa hb0 hbr hb0.size) (Nat.le_refl w.heap.size) (.int .i64 0) (.bool false) (.int .i64 0)
   clear HP hr6
   go_wp2_with fail
   (try simp only [Exit.inBlock,Exit.then])
   exact zBj rfl rfl rfl hS Tryz.underlying90 rfl (by kernel_rfl) rfl ⟨by rw [hres.out];rfl,hbS⟩
end Go.Proofs.YtlmdfmnbcndhoaaGreatDoor
namespace Go.Proofs.YtlmdfmnbcndhoaaGreatDoor
open Go.RowKit
/-- The slice reads as a list of strings. -/
def Txts (w:World) (A:Option Addr) (n:Nat) (T:List (List UInt8)):Prop:=Els 1 (fun S=>[strV S]) w A n T
def xa (T:List (List UInt8)) (i:Nat):List UInt8:=(T[i]?).getD []
/-- The reader's block. -/
abbrev rdC (A:Option Addr) (n c:Nat) (re lo:Int) (B:Option Addr) (m d:Nat) (bad lost:Bool):Array Value:=#[.slice A n c,.int .i64 re,.int .i64 lo,.slice B m d,.bool bad,.bool lost]
structure Rd (w:World) (rb:Nat) (A:Option Addr) (n c:Nat) (re lo:Int) (T:List (List UInt8)) (bad lost:Bool):Prop where
 ex:∃B m d,Blk w rb 123 (rdC A n c re lo B m d bad lost)∧Txts w B m T∧m≤d∧∀k,blk B=some k→k < rb
theorem Txts.from1 {w:World} {g o n:Nat} {x:List UInt8} {T:List (List UInt8)} (h:Txts w (some ⟨g,o,none⟩) (n+1) (x :: T)):Txts w (some ⟨g,o+1,none⟩) n T:=by
 refine ⟨by have:=h.len;simpa using this,by have:=h.le;omega,fun h0=>?_⟩
 obtain ⟨g',o',e,hb,hc⟩:=h.2.2 (by omega)
 injection e with e
 injection e with e1 e2
 subst e1;subst e2
 exact ⟨g,o+1,rfl,hb,fun j y hy q v hv=>by
  have:=hc (j+1) y (by simpa using hy) q v hv
  rwa [show o+(j+1)*1+q=o+1+j*1+q by omega] at this⟩
theorem Txts.keepBlk {w w':World} {g o n:Nat} {T:List (List UInt8)} {rb:Nat} (h:Txts w (some ⟨g,o,none⟩) n T) (hg:w.grownBy w' (some rb)) (hne:g≠rb):Txts w' (some ⟨g,o,none⟩) n T:=by
 refine ⟨h.len,h.le,fun h0=>?_⟩
 obtain ⟨g',o',e,hb,hc⟩:=h.2.2 h0
 injection e with e
 injection e with e1 e2
 subst e1;subst e2
 refine ⟨g,o,rfl,Nat.lt_of_lt_of_le hb hg.size,fun j x hx q v hv=>?_⟩
 rw [World.cell?_of_block (w:=w) (w':=w') (hg.block g hb (fun e=>hne (by injection e)))]
 exact hc j x hx q v hv
set_option maxHeartbeats 1600000 in
theorem zGC (rb:Nat) (A:Option Addr) (n c:Nat) (re lo:Int) (T:List (List UInt8)) (bad lost:Bool) (w:World) (h:Rd w rb A n c re lo T bad lost) :
  Calls Tryz.prog 146 #[.pointer (some ⟨rb,0,none⟩)] w fun e w'=>e=.returned (.string (bA (xa T 0)))∧Rd w' rb A n c re lo T.tail (bad||T.isEmpty) lost∧w.grownBy w' (some rb):=by
 obtain ⟨B,m,d,hk,hT,hmd,hne⟩:=h.ex
 have hle:=hT.le
 have c0:w.cell? ⟨rb,3,none⟩=some (.slice B m d):=(hk.cell 3).trans rfl
 have z3:=hk.frozen 3
 have z4:=hk.frozen 4
 cases T with
 | nil =>
  obtain rfl:0=m:=hT.len
  have h4:w.cell? ⟨rb,4,none⟩=some (.bool bad):=(hk.cell 4).trans rfl
  have hS:=hk.set_ 4 (.bool true)
  have hg:w.grownBy (w.setCell ⟨rb,4,none⟩ (.bool true)) (some rb):=⟨rfl,rfl,rfl,by simp [World.setCell],fun k _ hne=>Below.heap_setCell _ _ _ _ (fun e=>hne (by rw [e]))⟩
  have HS:=Lib.hid hS
  have HG:=Lib.hid hg
  clear hS hg
  go_enter Tryz.func146,Tryz.ntmps146
  go_wp2_with fail
  go_ret
  refine ⟨rfl,⟨B,0,d,?_,Els.nil _ _,by omega,hne⟩,HG.out⟩
  have:=HS.out
  simpa using this
 | cons x T =>
  have hlen:T.length+1=m:=hT.len
  obtain ⟨g,o,hBe,hgl,hcl⟩:=hT.2.2 (by omega)
  subst hBe
  have hx:w.cell? ⟨g,o,none⟩=some (.string (bA x)):=hcl 0 x rfl 0 _ rfl
  obtain ⟨k,hk1⟩:∃k,k=T.length:=⟨_,rfl⟩
  obtain rfl:m=k+1:=by omega
  have hT2:=Txts.from1 hT
  have i0:(((k+1:Nat):Int)==0)=false:=by simp;omega
  have i1:((k+1:Nat):Int)≤(d:Int):=by omega
  have hgrow:∀u,w.grownBy (w.setCell ⟨rb,3,none⟩ u) (some rb):=fun u=>⟨rfl,rfl,rfl,by simp [World.setCell],fun k _ hne=>Below.heap_setCell _ _ _ _ (fun e=>hne (by rw [e]))⟩
  have HG:=Lib.hid hgrow
  have hgr:g < rb:=hne g rfl
  have hTk:∀u,Txts (w.setCell ⟨rb,3,none⟩ u) (some ⟨g,o+1,none⟩) k T:=fun u=>hT2.keepBlk (hgrow u) (Nat.ne_of_lt hgr)
  have HTK:=Lib.hid hTk
  have HS:=Lib.hid (fun u=>hk.set_ 3 u)
  by_cases hd1:d=1
  ·subst hd1
   obtain rfl:k=0:=by omega
   obtain rfl:T=[]:=List.length_eq_zero_iff.1 hk1.symm
   clear hk1 hlen hcl hgrow hTk hT hT2
   go_enter Tryz.func146,Tryz.ntmps146
   go_wp2_with fail
   go_ret
   exact ⟨rfl,⟨_,_,_,by simpa using HS.out _,Els.nil _ _,Nat.le_refl _,fun k hk=>by cases hk;exact hgr⟩,HG.out _⟩
  ·have hd2:1 < d:=by omega
   have i3:(1:Int) < (d:Int):=by omega
   clear hk1 hlen hcl hgrow hTk hT hT2
   go_enter Tryz.func146,Tryz.ntmps146
   go_wp2_with fail
   go_ret
   exact ⟨rfl,⟨_,_,_,by simpa using HS.out _,HTK.out _,by omega,fun k hk=>by cases hk;exact hgr⟩,HG.out _⟩
theorem zBn (w:World) (row:Option Nat):w.grownBy w row:=⟨rfl,rfl,rfl,Nat.le_refl _,fun _ _ _=>rfl⟩
/-- Is the next word S? The words that are left. -/
def isB (T:List (List UInt8)) (S:List UInt8):Bool:=decide (T.head? = some S)
def isT (T:List (List UInt8)) (S:List UInt8):List (List UInt8):=if T.head? = some S then T.tail else T
theorem isB_yes (x:List UInt8) (T:List (List UInt8)):isB (x :: T) x=true:=by simp [isB]
theorem zFv (x:List UInt8) (T:List (List UInt8)):isT (x :: T) x=T:=by simp [isT]
theorem isB_no {x S:List UInt8} (T:List (List UInt8)) (h:x≠S):isB (x :: T) S=false:=by simp [isB,h]
theorem isT_no {x S:List UInt8} (T:List (List UInt8)) (h:x≠S):isT (x :: T) S=x :: T:=by simp [isT,h]
set_option maxHeartbeats 1600000 in
theorem reader_is (rb:Nat) (A:Option Addr) (n c:Nat) (re lo:Int) (T:List (List UInt8)) (bad lost:Bool) (S:List UInt8) (w:World) (h:Rd w rb A n c re lo T bad lost) :
  Calls Tryz.prog 148 #[.pointer (some ⟨rb,0,none⟩),.string (bA S)] w fun e w'=>e=.returned (.bool (isB T S))∧Rd w' rb A n c re lo (isT T S) bad lost∧w.grownBy w' (some rb):=by
 obtain ⟨B,m,d,hk,hT,hmd,hne⟩:=h.ex
 have hle:=hT.le
 have c0:w.cell? ⟨rb,3,none⟩=some (.slice B m d):=(hk.cell 3).trans rfl
 have z3:=hk.frozen 3
 have HH:=Lib.hid h
 clear h
 cases T with
 | nil =>
  obtain rfl:0=m:=hT.len
  clear hk hT hne
  go_enter Tryz.func148,Tryz.ntmps148
  go_wp2_with fail
  go_ret
  exact ⟨rfl,HH.out,zBn _ _⟩
 | cons x T =>
  have hlen:T.length+1=m:=hT.len
  obtain ⟨g,o,hBe,hgl,hcl⟩:=hT.2.2 (by omega)
  subst hBe
  have hx:w.cell? ⟨g,o,none⟩=some (.string (bA x)):=hcl 0 x rfl 0 _ rfl
  obtain ⟨k,hk1⟩:∃k,k=T.length:=⟨_,rfl⟩
  obtain rfl:m=k+1:=by omega
  have hT2:=Txts.from1 hT
  have i0:(((k+1:Nat):Int)==0)=false:=by simp;omega
  have i1:((k+1:Nat):Int)≤(d:Int):=by omega
  by_cases hq:x=S
  ·have n0:((bA x).toList==(bA S).toList)=true:=by rw [zEJ];simpa using hq
   have hgrow:∀u,w.grownBy (w.setCell ⟨rb,3,none⟩ u) (some rb):=fun u=>⟨rfl,rfl,rfl,by simp [World.setCell],fun k _ hne=>Below.heap_setCell _ _ _ _ (fun e=>hne (by rw [e]))⟩
   have HG:=Lib.hid hgrow
   have hgr:g < rb:=hne g rfl
   have hTk:∀u,Txts (w.setCell ⟨rb,3,none⟩ u) (some ⟨g,o+1,none⟩) k T:=fun u=>hT2.keepBlk (hgrow u) (Nat.ne_of_lt hgr)
   have HTK:=Lib.hid hTk
   have HS:=Lib.hid (fun u=>hk.set_ 3 u)
   have HE:=Lib.hid (show isB (x :: T) S=true∧isT (x :: T) S=T by rw [←hq];exact ⟨isB_yes _ _,zFv _ _⟩)
   clear hq HH
   by_cases hd1:d=1
   ·subst hd1
    obtain rfl:k=0:=by omega
    obtain rfl:T=[]:=List.length_eq_zero_iff.1 hk1.symm
    clear hk1 hlen hcl hgrow hTk hT hT2
    go_enter Tryz.func148,Tryz.ntmps148
    go_wp2_with fail
    go_ret
    exact ⟨retB HE.out.1.symm,by rw [HE.out.2];exact ⟨_,_,_,by simpa using HS.out _,Els.nil _ _,Nat.le_refl _,fun k hk=>by cases hk;exact hgr⟩,HG.out _⟩
   ·have hd2:1 < d:=by omega
    have i3:(1:Int) < (d:Int):=by omega
    clear hk1 hlen hcl hgrow hTk hT hT2
    go_enter Tryz.func148,Tryz.ntmps148
    go_wp2_with fail
    go_ret
    exact ⟨retB HE.out.1.symm,by rw [HE.out.2];exact ⟨_,_,_,by simpa using HS.out _,HTK.out _,by omega,fun k hk=>by cases hk;exact hgr⟩,HG.out _⟩
  ·have n0:((bA x).toList==(bA S).toList)=false:=by rw [zEJ];simpa using hq
   have HE:=Lib.hid (show isB (x :: T) S=false∧isT (x :: T) S=x :: T from ⟨isB_no _ hq,isT_no _ hq⟩)
   clear hq hk hT hT2 hcl hlen hk1 hne
   go_enter Tryz.func148,Tryz.ntmps148
   go_wp2_with fail
   go_ret
   exact ⟨retB HE.out.1.symm,by rw [HE.out.2];exact HH.out,zBn _ _⟩
end Go.Proofs.YtlmdfmnbcndhoaaGreatDoor
namespace Go.Proofs.YtlmdfmnbcndhoaaGreatDoor
open Go.RowKit
noncomputable def fidx (L:List Fg) (S:List UInt8):Nat:=match parF S with | some f=>idxF L f | none=>0
noncomputable def fbad (S:List UInt8):Bool:=(parF S).isNone
noncomputable def zEs (L:List Fg) (S:List UInt8):Bool:=match parF S with | some f=>decide (idxF L f=0) | none=>false
theorem zCQ {a b c:World} {row:Option Nat} (h:Below a.heap.size a b) (k:b.grownBy c row):a.grownBy c row :=
 ⟨k.os.trans h.os,k.tape.trans h.tape,k.output.trans h.output,Nat.le_trans h.size k.size,fun i hi hne=>(k.block i (Nat.lt_of_lt_of_le hi h.size) hne).trans (h.block i hi)⟩
theorem zBq {w:World} {rb:Nat} (q:Nat) (u:Value):w.grownBy (w.setCell ⟨rb,q,none⟩ u) (some rb) :=
 ⟨rfl,rfl,rfl,by simp [World.setCell],fun k _ hne=>Below.heap_setCell _ _ _ _ (fun e=>hne (by rw [e]))⟩
theorem Txts.keepAny {w w':World} {B:Option Addr} {n:Nat} {T:List (List UInt8)} {rb:Nat} (h:Txts w B n T) (hg:w.grownBy w' (some rb)) (hne:∀k,blk B=some k→k < rb):Txts w' B n T:=by
 refine ⟨h.len,h.le,fun h0=>?_⟩
 obtain ⟨g,o,e,hb,hc⟩:=h.2.2 h0
 subst e
 refine ⟨g,o,rfl,Nat.lt_of_lt_of_le hb hg.size,fun j x hx q v hv=>?_⟩
 rw [World.cell?_of_block (w:=w) (w':=w') (hg.block g hb (fun e=>Nat.ne_of_lt (hne g rfl) (by injection e)))]
 exact hc j x hx q v hv
set_option maxHeartbeats 3200000 in
theorem zEO (rb:Nat) (A:Option Addr) (n c:Nat) (L:List Fg) (re lo:Int) (T:List (List UInt8)) (bad lost:Bool) (S:List UInt8) (w:World) (h:Rd w rb A n c re lo T bad lost) (hA:Fgs w A n L) :
  Calls Tryz.prog 128 #[.pointer (some ⟨rb,0,none⟩),.string (bA S)] w fun e w'=>e=.returned (.int .i64 (fidx L S:Int))∧Rd w' rb A n c re lo T (bad||fbad S) (lost||zEs L S)∧w.grownBy w' (some rb):=by
 obtain ⟨B,m,d,hk,hT,hmd,hne⟩:=h.ex
 have hPN:=zEm S w
 cases hp:parF S with
 | none =>
  rw [hp] at hPN
  have HPN:Hid (Calls Tryz.prog 166 #[.string (bA S)] w fun e w'=>e=.returned (.tuple #[.agg #[.int .i64 0,.bool false,.int .i64 0],.int .i64 6])∧Below w.heap.size w w'):=Lib.hid hPN
  have HR:=Lib.hid (show fidx L S=0∧fbad S=true∧zEs L S=false by unfold fidx fbad zEs;rw [hp];exact ⟨rfl,rfl,rfl⟩)
  clear hPN hp h hA
  go_enter Tryz.func128,Tryz.ntmps128
  go_wp2_with fail
  refine HPN.out.mono ?_
  rintro e w2 ⟨rfl,hb2⟩
  have hk2:=hk.below hb2 hk.lt
  have hk3:=hk2.alloc (.cells #[.int .i64 0,.bool false,.int .i64 0] 90)
  have hb3:Below w.heap.size w (w2.alloc (.cells #[.int .i64 0,.bool false,.int .i64 0] 90)):=hb2.alloc hb2.size _
  have c4:(w2.alloc (.cells #[.int .i64 0,.bool false,.int .i64 0] 90)).cell? ⟨rb,4,none⟩=some (.bool bad):=(hk3.cell 4).trans rfl
  have z4:=hk3.frozen 4
  have HS:=Lib.hid (hk3.set_ 4 (.bool true))
  clear HPN hb2 hk2
  go_wp2_with fail
  go_ret
  refine ⟨retI (by rw [HR.out.1];rfl),?_,zCQ hb3 (zBq _ _)⟩
  rw [HR.out.2.1,HR.out.2.2,Bool.or_true,Bool.or_false]
  exact ⟨B,m,d,by simpa using HS.out,Txts.keepAny (Els.below hT hb3) (zBq _ _) hne,hmd,hne⟩
 | some f =>
  rw [hp] at hPN
  have HPN:Hid (Calls Tryz.prog 166 #[.string (bA S)] w fun e w'=>e=.returned (.tuple #[fgV f,.int .i64 0])∧Below w.heap.size w w'):=Lib.hid hPN
  obtain ⟨ix,hix⟩:∃ix,idxF L f=ix:=⟨_,rfl⟩
  have HR:=Lib.hid (show fidx L S=ix∧fbad S=false∧zEs L S=decide (ix=0) by unfold fidx fbad zEs;rw [hp];exact ⟨hix,rfl,by simp only [hix]⟩)
  have HIX:=Lib.hid (fun wx (hAx:Fgs wx A n L)=>hand_Index A n c L re lo f wx hAx)
  clear hPN hp h
  go_enter Tryz.func128,Tryz.ntmps128
  go_wp2_with fail
  refine HPN.out.mono ?_
  rintro e w2 ⟨rfl,hb2⟩
  have hA2:=hA.below hb2
  have hk2:=hk.below hb2 hk.lt
  have hk3:=hk2.alloc (.cells #[.int .i64 f.p,.bool f.r,.int .i64 f.d] 90)
  have hf3:Blk (w2.alloc (.cells #[.int .i64 f.p,.bool f.r,.int .i64 f.d] 90)) w2.heap.size 90 #[.int .i64 f.p,.bool f.r,.int .i64 f.d]:=Blk.new _ _ _
  have hA3:=hA2.alloc (.cells #[.int .i64 f.p,.bool f.r,.int .i64 f.d] 90)
  have hb3:Below w.heap.size w (w2.alloc (.cells #[.int .i64 f.p,.bool f.r,.int .i64 f.d] 90)):=hb2.alloc hb2.size _
  clear hb2 hk2 hA2 hA
  go_wp2_with fail
  generalize w2.alloc (.cells #[.int .i64 f.p,.bool f.r,.int .i64 f.d] 90)=Y at hk3 hf3 hA3 hb3 ⊢
  have KP:=Lib.hid (show ∀wx,Below Y.heap.size Y wx→(Below Y.heap.size Y wx∧wx.cell? ⟨rb,0,none⟩=some (.slice A n c)∧wx.cell? ⟨rb,1,none⟩=some (.int .i64 re)∧wx.cell? ⟨rb,2,none⟩=some (.int .i64 lo)∧wx.cell? ⟨w2.heap.size,0,none⟩=some (.int .i64 f.p)∧wx.cell? ⟨w2.heap.size,1,none⟩=some (.bool f.r)∧wx.cell? ⟨w2.heap.size,2,none⟩=some (.int .i64 f.d)) from
   fun wx h=>⟨h,((hk3.below h hk3.lt).cell 0).trans rfl,((hk3.below h hk3.lt).cell 1).trans rfl,((hk3.below h hk3.lt).cell 2).trans rfl,((hf3.below h hf3.lt).cell 0).trans rfl,((hf3.below h hf3.lt).cell 1).trans rfl,((hf3.below h hf3.lt).cell 2).trans rfl⟩)
  first
   | go_region_held3 (fun wx=>Below Y.heap.size Y wx∧wx.cell? ⟨rb,0,none⟩=some (.slice A n c)∧wx.cell? ⟨rb,1,none⟩=some (.int .i64 re)∧wx.cell? ⟨rb,2,none⟩=some (.int .i64 lo)∧wx.cell? ⟨w2.heap.size,0,none⟩=some (.int .i64 f.p)∧wx.cell? ⟨w2.heap.size,1,none⟩=some (.bool f.r)∧wx.cell? ⟨w2.heap.size,2,none⟩=some (.int .i64 f.d)) (first | assumption | exact KP.out _ (Below.refl _ _).drew | exact KP.out _ (zAa (And.left (by assumption)) (by assumption) (Below.size (And.left (by assumption)))))
     (first
      | (go_at_call 167;refine (HIX.out _ (hA3.below (And.left (by assumption)))).mono ?_;rintro e wa ⟨rfl,hba⟩))
   | fail
  all_goals
   have hbf:=And.left (show Below Y.heap.size Y _∧_ from by assumption)
   have hka:=hk3.below hbf hk3.lt
   have hbw:=zAa hb3 hbf hb3.size
   have c5:wa.cell? ⟨rb,5,none⟩=some (.bool lost):=(hka.cell 5).trans rfl
   have z5:=hka.frozen 5
   have HKA:=Lib.hid (fun u=>hka.set_ 5 u)
   have fin:∀b:Bool,b=(lost||decide (ix=0))→Rd (wa.setCell ⟨rb,5,none⟩ (.bool b)) rb A n c re lo T (bad||fbad S) (lost||zEs L S)∧w.grownBy (wa.setCell ⟨rb,5,none⟩ (.bool b)) (some rb):=fun b hb=>by
    refine ⟨⟨B,m,d,?_,Txts.keepAny (Els.below hT hbw) (zBq _ _) hne,hmd,hne⟩,zCQ hbw (zBq _ _)⟩
    rw [HR.out.2.1,HR.out.2.2,Bool.or_false,←hb]
    simpa using HKA.out (.bool b)
   have FIN:=Lib.hid fin
   have HIX0:=Lib.hid (show fidx L S=ix from HR.out.1)
   clear hka hk3 hf3 hA3 hb3 hbf hbw hix fin HIX HPN KP
   cases lost with
   | true =>
    go_wp2_with fail
    go_ret
    exact ⟨retI (by rw [HIX0.out]),FIN.out true (by simp)⟩
   | false =>
    by_cases h0:ix=0
    ·have k0:((ix:Int)==0)=true:=by simp;omega
     subst h0
     clear k0
     go_wp2_with fail
     go_ret
     exact ⟨retI (by rw [HIX0.out];rfl),FIN.out true (by simp)⟩
    ·have k0:((ix:Int)==0)=false:=by simp;omega
     have FF:=Lib.hid (FIN.out false (by simp [h0]))
     clear h0
     go_wp2_with fail
     go_ret
     exact ⟨retI (by rw [HIX0.out]),FF.out⟩
end Go.Proofs.YtlmdfmnbcndhoaaGreatDoor
namespace Go.Proofs.YtlmdfmnbcndhoaaGreatDoor
open Go.RowKit
def ovT (S:List UInt8):Bool:=S==[111,118,101,114]
def unT (S:List UInt8):Bool:=S==[117,110,100,101,114]
theorem zAG (S l:List UInt8):((bA S).toList==l)=(S==l):=by rw [zAt]
set_option maxHeartbeats 3200000 in
theorem reader_over (rb:Nat) (A:Option Addr) (n c:Nat) (re lo:Int) (T:List (List UInt8)) (bad lost:Bool) (w:World) (h:Rd w rb A n c re lo T bad lost) :
  Calls Tryz.prog 147 #[.pointer (some ⟨rb,0,none⟩)] w fun e w'=>e=.returned (.bool (ovT (xa T 0)))∧Rd w' rb A n c re lo T.tail ((bad||T.isEmpty)||!(ovT (xa T 0)||unT (xa T 0))) lost∧w.grownBy w' (some rb):=by
 have HN:=Lib.hid (zGC rb A n c re lo T bad lost w h)
 clear h
 have n1:=zAG (xa T 0) [111,118,101,114]
 have n2:=zAG (xa T 0) [117,110,100,101,114]
 obtain ⟨b1,hb1⟩:∃b,ovT (xa T 0)=b:=⟨_,rfl⟩
 obtain ⟨b2,hb2⟩:∃b,unT (xa T 0)=b:=⟨_,rfl⟩
 obtain ⟨b0,hb0⟩:∃b,(bad||T.isEmpty)=b:=⟨_,rfl⟩
 rw [show (xa T 0==[111,118,101,114])=b1 from hb1] at n1
 rw [show (xa T 0==[117,110,100,101,114])=b2 from hb2] at n2
 rw [hb0] at HN
 rw [hb0,hb1,hb2]
 generalize xa T 0=S at n1 n2 HN
 clear hb0 hb1 hb2
 have fin:∀(w2:World),Rd w2 rb A n c re lo T.tail b0 lost→w.grownBy w2 (some rb)→∃B m d,Blk w2 rb 123 (rdC A n c re lo B m d b0 lost)∧∀b:Bool,b=(b0||!(b1||b2))→Rd (w2.setCell ⟨rb,4,none⟩ (.bool b)) rb A n c re lo T.tail (b0||!(b1||b2)) lost∧w.grownBy (w2.setCell ⟨rb,4,none⟩ (.bool b)) (some rb):=fun w2 h2 hg2=>by
  obtain ⟨B,m,d,hk,hT,hmd,hne⟩:=h2.ex
  refine ⟨B,m,d,hk,fun b hb=>⟨⟨B,m,d,?_,Txts.keepAny hT (zBq _ _) hne,hmd,hne⟩,zAb hg2 (zBq _ _)⟩⟩
  rw [←hb]
  simpa using hk.set_ 4 (.bool b)
 have FIN:=Lib.hid fin
 clear fin
 go_enter Tryz.func147,Tryz.ntmps147
 go_wp2_with fail
 refine HN.out.mono ?_
 rintro e w2 ⟨rfl,h2,hg2⟩
 obtain ⟨B,m,d,hk,hfin⟩:=FIN.out w2 h2 hg2
 have HFIN:=Lib.hid hfin
 have c4:w2.cell? ⟨rb,4,none⟩=some (.bool b0):=(hk.cell 4).trans rfl
 have z4:=hk.frozen 4
 clear h2 hg2 hfin hk HN FIN
 cases b0<;>cases b1<;>cases b2
 all_goals
  go_wp2_with fail
  go_ret
  exact ⟨rfl,HFIN.out _ rfl⟩
end Go.Proofs.YtlmdfmnbcndhoaaGreatDoor
namespace Go.Proofs.YtlmdfmnbcndhoaaGreatDoor
open Go.RowKit
theorem zCR (S:List UInt8) (i j:Nat):(bA S).extract i j=bA ((S.take j).drop i):=by
 apply ByteArray.ext
 apply Array.ext'
 simp [bA,List.drop_take]
theorem zDE (x:UInt8) (S:List UInt8) (w:World):(Instr.index 9 (.string (bA (x :: S))) (.int .i64 0)).run Tryz.prog w=.ok (.int .u8 x.toNat) w:=by
 rw [run_index_string w 9 (bA (x :: S)) .i64 0 Tryz.underlying9,dif_pos (by rw [zAO];simp)]
 rfl
theorem zGe (x:UInt8) (S:List UInt8) (w:World):(Instr.slice 9 (.string (bA (x :: S))) (some (.int .i64 1)) none none).run Tryz.prog w=.ok (.string (bA S)) w:=by
 rw [run_slice_string_l w 9 (bA (x :: S)) Tryz.underlying9 .i64 1 (by omega) (by rw [zAO];simp;omega),zCR,zAO]
 simp
theorem str_two (x y:UInt8) (S:List UInt8) (w:World):(Instr.slice 9 (.string (bA (x :: y :: S))) none (some (.int .i64 2)) none).run Tryz.prog w=.ok (.string (bA [x,y])) w:=by
 rw [run_slice_string_h w 9 (bA (x :: y :: S)) Tryz.underlying9 .i64 2 (by omega) (by rw [zAO];simp;omega),zCR]
 simp
theorem str_behind2 (x y:UInt8) (S:List UInt8) (w:World):(Instr.slice 9 (.string (bA (x :: y :: S))) (some (.int .i64 2)) none none).run Tryz.prog w=.ok (.string (bA S)) w:=by
 rw [run_slice_string_l w 9 (bA (x :: y :: S)) Tryz.underlying9 .i64 2 (by omega) (by rw [zAO];simp;omega),zCR,zAO]
 simp
end Go.Proofs.YtlmdfmnbcndhoaaGreatDoor
namespace Go.Proofs.YtlmdfmnbcndhoaaGreatDoor
open Go.RowKit
def zGa:List UInt8→Bool×List UInt8×Bool
 | []=>(false,[],false)
 | x :: r=>if x=111 then (true,r,true) else if x=117 then (false,r,true) else (false,x :: r,false)
set_option maxHeartbeats 1600000 in
theorem zDW (S:List UInt8) (w:World) :
  Calls Tryz.prog 163 #[.string (bA S)] w fun e w'=>e=.returned (.tuple #[.bool (zGa S).1,.string (bA (zGa S).2.1),.bool (zGa S).2.2])∧Below w.heap.size w w':=by
 have n0:=zAG S []
 cases S with
 | nil =>
  have hr:=Lib.hid (show zGa []=(false,[],false) from rfl)
  rw [show (([]:List UInt8)==[])=true from rfl] at n0
  rw [hr.out]
  go_enter Tryz.func163,Tryz.ntmps163
  go_wp2_with fail
  go_ret3
  exact ⟨rfl,Below.refl _ _⟩
 | cons x r =>
  have s1:=zDE x r
  have s2:=zGe x r
  rw [show (x :: r==([]:List UInt8))=false from rfl] at n0
  by_cases h1:x=111
  ·subst h1
   have hr:=Lib.hid (show zGa (111 :: r)=(true,r,true) from rfl)
   rw [hr.out]
   rw [show (((111:UInt8).toNat:Nat):Int)=111 from rfl] at s1
   go_enter Tryz.func163,Tryz.ntmps163
   go_wp2_with fail
   go_quiet (fail)
   go_wp2_with fail
   go_ret3
   exact ⟨rfl,zAe (Below.refl _ _) _⟩
  ·by_cases h2:x=117
   ·subst h2
    have hr:=Lib.hid (show zGa (117 :: r)=(false,r,true) from rfl)
    rw [hr.out]
    rw [show (((117:UInt8).toNat:Nat):Int)=117 from rfl] at s1
    go_enter Tryz.func163,Tryz.ntmps163
    go_wp2_with fail
    go_quiet (fail)
    go_wp2_with fail
    go_ret3
    exact ⟨rfl,zAe (Below.refl _ _) _⟩
   ·have hr:=Lib.hid (show zGa (x :: r)=(false,x :: r,false) by simp only [zGa];rw [if_neg h1,if_neg h2])
    have k1:((x.toNat:Int) != 111)=true:=by
     simp only [bne_iff_ne,ne_eq];intro e;exact h1 (UInt8.toNat.inj (show x.toNat=111 by omega))
    have k2:((x.toNat:Int) != 117)=true:=by
     simp only [bne_iff_ne,ne_eq];intro e;exact h2 (UInt8.toNat.inj (show x.toNat=117 by omega))
    rw [hr.out]
    clear h1 h2
    go_enter Tryz.func163,Tryz.ntmps163
    go_wp2_with fail
    go_ret3
    exact ⟨rfl,Below.refl _ _⟩
end Go.Proofs.YtlmdfmnbcndhoaaGreatDoor
