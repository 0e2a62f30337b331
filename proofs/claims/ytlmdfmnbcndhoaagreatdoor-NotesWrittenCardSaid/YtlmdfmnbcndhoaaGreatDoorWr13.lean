/-
  The program's reader: cut. Conditions: the reader lies in a block, its words and its frame read.
  Plain: a list of bytes split at a byte; the pieces joined again; lists of integers printed and read. No walk of the program.
  Plain: operations by the names of their fingers; their words; the reader of words as a machine; what it takes is what is written. No program.
-/
import Derived.Test.YtlmdfmnbcndhoaaGreatDoorWr12
import Derived.Test.YtlmdfmnbcndhoaaGreatDoorWr04
import Derived.Lib.Join
import Derived.Lib.SplitLaws
namespace Go.Proofs.YtlmdfmnbcndhoaaGreatDoor
open Go.RowKit
/-- A finger of person 1 at the beginning of a string. -/
noncomputable def cutF (S:List UInt8):Option (Fg×List UInt8) :=
 match S with
 | x :: y :: r=>match parF [x,y] with
  | some f=>if f.p=1 then some (f,r) else none
  | none=>none
 | _=>none
theorem zFw (S:List UInt8):(bA S).size=S.length:=zAO S
theorem Rd.below {w w':World} {rb:Nat} {A:Option Addr} {n c:Nat} {re lo:Int} {T:List (List UInt8)} {bad lost:Bool} (h:Rd w rb A n c re lo T bad lost) (hb:Below w.heap.size w w'):Rd w' rb A n c re lo T bad lost:=by
 obtain ⟨B,m,d,hk,hT,hmd,hne⟩:=h.ex
 exact ⟨B,m,d,hk.below hb hk.lt,Els.below hT hb,hmd,hne⟩
theorem zAv {w w':World} {row:Option Nat} (h:Below w.heap.size w w'):w.grownBy w' row:=zCQ h (zBn _ _)
theorem Fgs.keepBlk {w w':World} {A:Option Addr} {n:Nat} {L:List Fg} {rb:Nat} (h:Fgs w A n L) (hg:w.grownBy w' (some rb)) (hne:∀k,blk A=some k→k≠rb):Fgs w' A n L:=by
 refine ⟨⟨h.len,h.le,fun h0=>?_⟩,h.2⟩
 obtain ⟨g,o,e,hb,hc⟩:=h.1.2.2 h0
 subst e
 refine ⟨g,o,rfl,Nat.lt_of_lt_of_le hb hg.size,fun j x hx q v hv=>?_⟩
 rw [World.cell?_of_block (w:=w) (w':=w') (hg.block g hb (fun e=>hne g rfl (by injection e)))]
 exact hc j x hx q v hv
theorem Fgs.keepR {w w':World} {A:Option Addr} {n:Nat} {L:List Fg} {rb:Nat} (h:Fgs w A n L) (hg:w.grownBy w' (some rb)) (hne:0 < n→∀k,blk A=some k→k < rb):Fgs w' A n L:=by
 by_cases h0:0 < n
 ·exact h.keepBlk hg (fun k hk=>Nat.ne_of_lt (hne h0 k hk))
 ·exact ⟨⟨h.1.1,h.1.2.1,fun h1=>absurd h1 h0⟩,h.2⟩
/-- Before or behind the call that may lose a finger. -/
def RdS (Y:World) (rb:Nat) (A:Option Addr) (n c:Nat) (L:List Fg) (re lo:Int) (T:List (List UInt8)) (bad lost q:Bool) (wx:World):Prop :=
 Y.grownBy wx (some rb)∧Fgs wx A n L∧∃l,Rd wx rb A n c re lo T bad l∧(l=lost∨l=(lost||q))
set_option maxHeartbeats 3200000 in
theorem reader_cut (rb:Nat) (A:Option Addr) (n c:Nat) (L:List Fg) (re lo:Int) (T:List (List UInt8)) (bad lost:Bool) (S:List UInt8) (w:World) (h:Rd w rb A n c re lo T bad lost) (hA:Fgs w A n L) (hAr:0 < n→∀k,blk A=some k→k < rb) :
  Calls Tryz.prog 160 #[.pointer (some ⟨rb,0,none⟩),.string (bA S)] w fun e w' =>
   (match cutF S with
    | some (f,r)=>e=.returned (.tuple #[.int .i64 (idxF L f:Int),.string (bA r),.bool true])∧Rd w' rb A n c re lo T bad (lost||decide (idxF L f=0))
    | none=>e=.returned (.tuple #[.int .i64 0,.string (bA S),.bool false])∧Rd w' rb A n c re lo T bad lost)∧w.grownBy w' (some rb):=by
 by_cases h2:S.length < 2
 ·have hr:cutF S=none:=by
   match S,h2 with
   | [],_=>rfl
   | [x],_=>rfl
  rw [hr]
  have hs:=zFw S
  have i0:(S.length:Int) < 2:=by omega
  go_enter Tryz.func160,Tryz.ntmps160
  go_wp2_with fail
  go_ret3
  exact ⟨⟨rfl,h⟩,zBn _ _⟩
 ·obtain ⟨x,y,r,rfl⟩:∃x y r,S=x :: y :: r:=by
   match S,h2 with
   | [],h=>exact absurd (by simp) h
   | [x],h=>exact absurd (by simp) h
   | x :: y :: r,_=>exact ⟨x,y,r,rfl⟩
  have hs:=zFw (x :: y :: r)
  have i0:¬((x :: y :: r).length:Int) < 2:=by omega
  have t1:=str_two x y r
  have t2:=str_behind2 x y r
  have hPN:=zEm [x,y] w
  clear h2
  cases hp:parF [x,y] with
  | none =>
   have hr:cutF (x :: y :: r)=none:=by simp [cutF,hp]
   rw [hr]
   rw [hp] at hPN
   have HPN:Hid (Calls Tryz.prog 166 #[.string (bA [x,y])] w fun e w'=>e=.returned (.tuple #[.agg #[.int .i64 0,.bool false,.int .i64 0],.int .i64 6])∧Below w.heap.size w w'):=Lib.hid hPN
   clear hPN
   go_enter Tryz.func160,Tryz.ntmps160
   go_wp2_with fail
   refine HPN.out.mono ?_
   rintro e w2 ⟨rfl,hb2⟩
   go_wp2_with fail
   have hb3:Below w.heap.size w (w2.alloc (.cells #[.int .i64 0,.bool false,.int .i64 0] 90)):=hb2.alloc hb2.size _
   go_ret3
   exact ⟨⟨rfl,h.below hb3⟩,zAv hb3⟩
  | some f =>
   rw [hp] at hPN
   have HPN:Hid (Calls Tryz.prog 166 #[.string (bA [x,y])] w fun e w'=>e=.returned (.tuple #[fgV f,.int .i64 0])∧Below w.heap.size w w'):=Lib.hid hPN
   clear hPN
   by_cases h1:f.p=1
   ·have hr:cutF (x :: y :: r)=some (f,r):=by simp [cutF,hp,h1]
    have HF:=Lib.hid (show fidx L [x,y]=idxF L f∧fbad [x,y]=false∧zEs L [x,y]=decide (idxF L f=0) by unfold fidx fbad zEs;rw [hp];exact ⟨rfl,rfl,rfl⟩)
    rw [hr]
    have k0:(f.p != 1)=false:=by simpa using h1
    clear hp hr h1
    go_enter Tryz.func160,Tryz.ntmps160
    go_wp2_with fail
    refine HPN.out.mono ?_
    rintro e w2 ⟨rfl,hb2⟩
    have hb3:Below w.heap.size w (w2.alloc (.cells #[.int .i64 f.p,.bool f.r,.int .i64 f.d] 90)):=hb2.alloc hb2.size _
    go_wp2_with fail
    generalize w2.alloc (.cells #[.int .i64 f.p,.bool f.r,.int .i64 f.d] 90)=Y at hb3 ⊢
    have hY:RdS Y rb A n c L re lo T bad lost (decide (idxF L f=0)) Y:=⟨zBn _ _,hA.below hb3,lost,h.below hb3,.inl rfl⟩
    have HY:=Lib.hid (show RdS Y rb A n c L re lo T bad lost (decide (idxF L f=0)) Y.drew from ⟨zAv (Below.refl _ _).drew,(hA.below hb3).below (Below.refl _ _).drew,lost,(h.below hb3).below (Below.refl _ _).drew,.inl rfl⟩)
    have HC:=Lib.hid (show ∀wx,RdS Y rb A n c L re lo T bad lost (decide (idxF L f=0)) wx→Calls Tryz.prog 128 #[.pointer (some ⟨rb,0,none⟩),.string (bA [x,y])] wx fun e w'=>e=.returned (.int .i64 (idxF L f:Int))∧Hid (Rd w' rb A n c re lo T bad (lost||decide (idxF L f=0)))∧RdS Y rb A n c L re lo T bad lost (decide (idxF L f=0)) w' from fun wx ⟨g1,g2,l,g3,g4⟩=>by
     refine (zEO rb A n c L re lo T bad l [x,y] wx g3 g2).mono ?_
     rintro e w' ⟨rfl,k1,k2⟩
     rw [HF.out.2.1,HF.out.2.2,Bool.or_false] at k1
     have hl2:(l||decide (idxF L f=0))=(lost||decide (idxF L f=0)):=by
      rcases g4 with rfl | rfl
      ·rfl
      ·cases lost<;>simp
     rw [hl2] at k1
     exact ⟨retI (by rw [HF.out.1]),Lib.hid k1,zAb g1 k2,g2.keepR k2 hAr,_,k1,.inr rfl⟩)
    first
     | go_region_held3 (fun wx=>RdS Y rb A n c L re lo T bad lost (decide (idxF L f=0)) wx) (first | assumption | exact HY.out)
       (first
        | (go_at_call 128;refine (HC.out _ (by assumption)).mono ?_;rintro e wa ⟨rfl,hRa,hSa⟩))
     | fail
    all_goals
     have hgf:=And.left (show RdS Y rb A n c L re lo T bad lost (decide (idxF L f=0)) _ from by assumption)
     go_wp2_with fail
     go_ret3
     exact ⟨⟨rfl,hRa.out⟩,zCQ hb3 hgf⟩
   ·have hr:cutF (x :: y :: r)=none:=by simp [cutF,hp,h1]
    rw [hr]
    have k0:(f.p != 1)=true:=by simpa using h1
    clear hp hr h1
    go_enter Tryz.func160,Tryz.ntmps160
    go_wp2_with fail
    refine HPN.out.mono ?_
    rintro e w2 ⟨rfl,hb2⟩
    have hb3:Below w.heap.size w (w2.alloc (.cells #[.int .i64 f.p,.bool f.r,.int .i64 f.d] 90)):=hb2.alloc hb2.size _
    go_wp2_with fail
    go_ret3
    exact ⟨⟨rfl,h.below hb3⟩,zAv hb3⟩
end Go.Proofs.YtlmdfmnbcndhoaaGreatDoor
namespace Go.Proofs.YtlmdfmnbcndhoaaGreatDoor
open Go
/-- The pieces of a list of bytes between the bytes c. -/
def splt (c:UInt8):List UInt8→List (List UInt8)
 | []=>[[]]
 | b :: l=>if b=c then [] :: splt c l else match splt c l with
  | []=>[[b]]
  | p :: ps=>(b :: p) :: ps
theorem zGD (c:UInt8):∀l,splt c l≠[]
 | []=>by simp [splt]
 | b :: l=>by
  unfold splt
  split
  ·simp
  ·split<;>simp
theorem zEP (c:UInt8) (l:List UInt8):splt c (c :: l)=[] :: splt c l:=by rw [splt,if_pos rfl]
theorem zCS {b c:UInt8} (h:b≠c) {l p:List UInt8} {ps:List (List UInt8)} (hl:splt c l=p :: ps):splt c (b :: l)=(b :: p) :: ps:=by
 rw [splt,if_neg h,hl]
theorem zDX {c:UInt8} {r:List UInt8}:∀{h:List UInt8},c ∉ h→splt c (h++c :: r)=h :: splt c r
 | [],_=>zEP c r
 | b :: h,hc=>by
  have h1:c ∉ h:=fun e=>hc (List.mem_cons_of_mem _ e)
  have h2:b≠c:=fun e=>hc (by rw [e];exact List.mem_cons_self ..)
  rw [List.cons_append]
  exact zCS h2 (zDX h1)
theorem zEQ {c:UInt8}:∀{h:List UInt8},c ∉ h→splt c h=[h]
 | [],_=>rfl
 | b :: h,hc=>by
  have h1:c ∉ h:=fun e=>hc (List.mem_cons_of_mem _ e)
  have h2:b≠c:=fun e=>hc (by rw [e];exact List.mem_cons_self ..)
  exact zCS h2 (zEQ h1)
theorem join_two (x y:List UInt8) (r:List (List UInt8)) (sep:List UInt8):Lib.join (x :: y :: r) sep=x++sep++Lib.join (y :: r) sep:=by
 rw [Lib.join_cons,Lib.join_cons]
 simp [Lib.joinTail]
theorem zGE {c:UInt8}:∀{ps:List (List UInt8)},ps≠[]→(∀p∈ps,c ∉ p)→splt c (Lib.join ps [c])=ps
 | [],h,_=>absurd rfl h
 | [p],_,h=>by rw [Lib.join_one];exact zEQ (h p (List.mem_cons_self ..))
 | p :: q :: r,_,h=>by
  rw [join_two,List.append_assoc,List.singleton_append,zDX (h p (List.mem_cons_self ..))]
  rw [zGE (by simp) (fun x hx=>h x (List.mem_cons_of_mem _ hx))]
theorem join_splt (c:UInt8):∀l:List UInt8,Lib.join (splt c l) [c]=l
 | []=>by rw [splt,Lib.join_one]
 | b :: l=>by
  have ih:=join_splt c l
  cases hs:splt c l with
  | nil=>exact absurd hs (zGD c l)
  | cons p ps =>
   by_cases h:b=c
   ·subst h
    rw [zEP,hs,join_two,←hs,ih]
    rfl
   ·rw [zCS h hs]
    rw [hs] at ih
    rw [Lib.join_cons] at ih ⊢
    rw [List.cons_append,ih]
theorem splt_not (c:UInt8):∀l:List UInt8,∀p∈splt c l,c ∉ p
 | [],p,hp=>by simp [splt] at hp;subst hp;simp
 | b :: l,p,hp=>by
  have ih:=splt_not c l
  cases hs:splt c l with
  | nil=>exact absurd hs (zGD c l)
  | cons q ps =>
   rw [hs] at ih
   by_cases h:b=c
   ·subst h
    rw [zEP,hs] at hp
    rcases List.mem_cons.1 hp with rfl | hp
    ·simp
    ·exact ih p hp
   ·rw [zCS h hs] at hp
    rcases List.mem_cons.1 hp with rfl | hp
    ·intro hm
     rcases List.mem_cons.1 hm with rfl | hm
     ·exact h rfl
     ·exact ih q (List.mem_cons_self ..) hm
    ·exact ih p (List.mem_cons_of_mem _ hp)
theorem zGf (c:UInt8):∀l:List UInt8,(splt c l).length=l.count c+1
 | []=>rfl
 | b :: l=>by
  have ih:=zGf c l
  cases hs:splt c l with
  | nil=>exact absurd hs (zGD c l)
  | cons p ps =>
   by_cases h:b=c
   ·subst h
    rw [zEP,List.length_cons,ih,List.count_cons_self]
   ·rw [zCS h hs,List.count_cons_of_ne (by simpa using h),←ih,hs]
    rfl
theorem zCm (c:UInt8):∀l:List UInt8,∀p∈splt c l,p.length≤l.length
 | [],p,hp=>by simp [splt] at hp;subst hp;simp
 | b :: l,p,hp=>by
  have ih:=zCm c l
  cases hs:splt c l with
  | nil=>exact absurd hs (zGD c l)
  | cons q ps =>
   rw [hs] at ih
   by_cases h:b=c
   ·subst h
    rw [zEP,hs] at hp
    rcases List.mem_cons.1 hp with rfl | hp
    ·simp
    ·have:=ih p hp;simp only [List.length_cons];omega
   ·rw [zCS h hs] at hp
    rcases List.mem_cons.1 hp with rfl | hp
    ·have:=ih q (List.mem_cons_self ..);simp only [List.length_cons];omega
    ·have:=ih p (List.mem_cons_of_mem _ hp);simp only [List.length_cons];omega
/-- The kit's cutting at the instances of one byte is this. -/
theorem zGF (c:UInt8):∀(k:Nat) (l:List UInt8),l.count c=k→Lib.splitK [c] 0 k l=splt c l
 | 0,l,h=>by
  have hc:c ∉ l:=by rw [←List.count_eq_zero];exact h
  rw [zEQ hc];rfl
 | k+1,l,h=>by
  have hm:c∈l:=by rw [←List.count_pos_iff];omega
  obtain ⟨a,b,rfl,hn⟩:∃a b,l=a++c :: b∧c ∉ a:=by
   clear h
   induction l with
   | nil=>cases hm
   | cons x l ih =>
    by_cases hx:x=c
    ·subst hx;exact ⟨[],l,rfl,by simp⟩
    ·have:c∈l:=by
      rcases List.mem_cons.1 hm with e | e
      ·exact absurd e.symm hx
      ·exact e
     obtain ⟨a,b,rfl,hn⟩:=ih this
     exact ⟨x :: a,b,rfl,fun e=>by rcases List.mem_cons.1 e with e | e;exact hx e.symm;exact hn e⟩
  unfold Lib.splitK
  rw [Lib.index_one,idx_at hn]
  have hne:¬((a.length:Int)==-1)=true:=fun e=>by have:=beq_iff_eq.1 e;omega
  rw [if_neg hne,zDX hn]
  have hk:b.count c=k:=by
   rw [List.count_append,List.count_cons_self,List.count_eq_zero.2 hn] at h
   omega
  have e1:(a++c :: b).take ((a.length:Int).toNat+0)=a:=by simp
  have e2:(a++c :: b).drop ((a.length:Int).toNat + [c].length)=b:=by simp
  rw [e1,e2,zGF c k b hk]
/-- The same over the kit's arrays of bytes. -/
theorem splitB_splt (c:UInt8) (l:List UInt8):(Lib.splitB ⟨#[c]⟩ 0 (Lib.countB ⟨l.toArray⟩ ⟨#[c]⟩) ⟨l.toArray⟩)=(splt c l).map (fun p=>(⟨p.toArray⟩:ByteArray)):=by
 have h:=Lib.splitB_data ⟨#[c]⟩ 0 (Lib.countB ⟨l.toArray⟩ ⟨#[c]⟩) ⟨l.toArray⟩
 have hc:Lib.countB ⟨l.toArray⟩ ⟨#[c]⟩=l.count c:=by
  unfold Lib.countB
  exact Lib.count_one c l
 rw [hc] at h ⊢
 have h2:Lib.splitK [c] 0 (l.count c) l=splt c l:=zGF c _ l rfl
 have h3:(Lib.splitB ⟨#[c]⟩ 0 (l.count c) ⟨l.toArray⟩).map (·.data.toList)=splt c l:=h.trans h2
 rw [←h3,List.map_map]
 conv=>lhs;rw [←List.map_id (Lib.splitB ⟨#[c]⟩ 0 (l.count c) ⟨l.toArray⟩)]
 apply List.map_congr_left
 intro x _
 cases x
 simp
end Go.Proofs.YtlmdfmnbcndhoaaGreatDoor
namespace Go.Proofs.YtlmdfmnbcndhoaaGreatDoor
open Go.RowKit
/-- A word with its comma apart. -/
def zAS (S:List UInt8):List (List UInt8):=if S.getLast? = some 44 then [S.dropLast,[44]] else [S]
def zBr (S:List UInt8):List (List UInt8):=(splt 32 S).flatMap zAS
theorem zCT {S:List UInt8} (h:(44:UInt8) ∉ S):zAS S=[S]:=by
 unfold zAS
 rw [if_neg (fun e=>h (List.mem_of_getLast? e))]
theorem commaW_two (S:List UInt8):zAS (S++[44])=[S,[44]]:=by simp [zAS]
theorem zBk (S:List UInt8):(zAS S=[S]∧S.getLast?≠some 44)∨∃C,S=C++[44]∧zAS S=[C,[44]]:=by
 by_cases h:S.getLast? = some 44
 ·obtain ⟨C,rfl⟩:=List.getLast?_eq_some_iff.1 h
  exact .inr ⟨C,rfl,commaW_two C⟩
 ·exact .inl ⟨by simp [zAS,h],h⟩
/-- No comma first, no two commas in a row. -/
def zCz:Bool→List (List UInt8)→Bool
 | _,[]=>true
 | b,x :: r=>if x=[44] then b&&zCz false r else zCz true r
theorem calm_44 (b:Bool) (x:List UInt8) (R:List (List UInt8)):zCz b (x :: [44] :: [44] :: R)=false:=by
 by_cases h:x=[44]
 ·simp [zCz,h]
 ·simp [zCz,h]
theorem flat_44:∀{ws R:List (List UInt8)},ws.flatMap zAS=[44] :: R→∃Q,R=[44] :: Q
 | [],R,h=>by simp at h
 | w :: ws,R,h=>by
  rw [List.flatMap_cons] at h
  rcases zBk w with ⟨e,hl⟩ | ⟨C,rfl,e⟩
  ·rw [e] at h
   simp only [List.cons_append,List.nil_append,List.cons.injEq] at h
   exact absurd (by rw [h.1];rfl) hl
  ·rw [e] at h
   simp only [List.cons_append,List.nil_append,List.cons.injEq] at h
   exact ⟨_,h.2.symm⟩
theorem last_44 {w:List UInt8} (h:w.getLast?≠some 44):w≠[44]:=fun e=>h (by rw [e];rfl)
theorem calm_down:∀{us:List (List UInt8)},zCz true (us.flatMap zAS)=true→zCz false (us.flatMap zAS)=true
 | [],_=>rfl
 | u :: us,h=>by
  rw [List.flatMap_cons] at h ⊢
  rcases zBk u with ⟨e,hl⟩ | ⟨C,rfl,e⟩
  ·rw [e] at h ⊢
   simp only [List.cons_append,List.nil_append,zCz,if_neg (last_44 hl)] at h ⊢
   exact h
  ·rw [e] at h ⊢
   simp only [List.cons_append,List.nil_append] at h ⊢
   by_cases hC:C=[44]
   ·subst hC;simp [zCz] at h
   ·simp only [zCz,if_neg hC] at h ⊢
    exact h
theorem zGG:∀{ws us:List (List UInt8)},ws.flatMap zAS=us.flatMap zAS→zCz false (us.flatMap zAS)=true→ws=us
 | [],[],_,_=>rfl
 | [],u :: us,h,_=>by
  rw [List.flatMap_cons] at h
  rcases zBk u with ⟨e,_⟩ | ⟨C,_,e⟩<;>rw [e] at h<;>simp at h
 | w :: ws,[],h,_=>by
  rw [List.flatMap_cons] at h
  rcases zBk w with ⟨e,_⟩ | ⟨C,_,e⟩<;>rw [e] at h<;>simp at h
 | w :: ws,u :: us,h,hc=>by
  rw [List.flatMap_cons,List.flatMap_cons] at h
  rw [List.flatMap_cons] at hc
  rcases zBk w with ⟨e1,l1⟩ | ⟨C,rfl,e1⟩<;>rcases zBk u with ⟨e2,l2⟩ | ⟨D,rfl,e2⟩<;>rw [e2] at hc<;>rw [e1,e2] at h<;>simp only [List.cons_append,List.nil_append,List.cons.injEq] at h hc
  ·obtain ⟨rfl,h⟩:=h
   simp only [zCz,if_neg (last_44 l1)] at hc
   rw [zGG h (calm_down hc)]
  ·obtain ⟨_,h⟩:=h
   obtain ⟨Q,hQ⟩:=flat_44 h
   rw [hQ,calm_44] at hc
   cases hc
  ·obtain ⟨_,h⟩:=h
   obtain ⟨Q,hQ⟩:=flat_44 h.symm
   rw [←h,hQ,calm_44] at hc
   cases hc
  ·obtain ⟨rfl,_,h⟩:=h
   by_cases hC:C=[44]
   ·subst hC;simp [zCz] at hc
   ·simp only [zCz,if_neg hC] at hc
    rw [zGG h (by simpa using hc)]
/-- Words without a space, a comma, a line's end. -/
def fineW (S:List UInt8):Prop:=∀b∈S,b≠32∧b≠44∧b≠10
def fineT (T:List (List UInt8)):Prop:=∀S∈T,fineW S
theorem fineW.no44 {S:List UInt8} (h:fineW S):(44:UInt8) ∉ S:=fun e=>(h _ e).2.1 rfl
theorem fineW.no32 {S:List UInt8} (h:fineW S):(32:UInt8) ∉ S:=fun e=>(h _ e).1 rfl
theorem fineW.ne {S:List UInt8} (h:fineW S):S≠[44]:=fun e=>h.no44 (by rw [e];simp)
theorem fineT.app {A B:List (List UInt8)} (h:fineT A) (k:fineT B):fineT (A++B):=fun S hS=>by
 rcases List.mem_append.1 hS with e | e
 ·exact h S e
 ·exact k S e
theorem fineT.cons {S:List UInt8} {B:List (List UInt8)} (h:fineW S) (k:fineT B):fineT (S :: B):=fun x hx=>by
 rcases List.mem_cons.1 hx with rfl | e
 ·exact h
 ·exact k x e
theorem fineT.nil:fineT []:=fun S h=>by simp at h
theorem zGH {A:List (List UInt8)} (R:List (List UInt8)) (h:fineT A) (hA:A≠[]) (b:Bool):zCz b (A++R)=zCz true R:=by
 induction A generalizing b with
 | nil=>exact absurd rfl hA
 | cons x A ih =>
  have hx:=(h x (List.mem_cons_self ..)).ne
  rw [List.cons_append,zCz,if_neg hx]
  cases A with
  | nil=>rfl
  | cons y A=>exact ih (fun S hS=>h S (List.mem_cons_of_mem _ hS)) (by simp) true
/-- A comma behind the last word. -/
def tag:List (List UInt8)→List (List UInt8)
 | []=>[]
 | [x]=>[x++[44]]
 | x :: y :: r=>x :: tag (y :: r)
theorem tag_flat:∀{A:List (List UInt8)},fineT A→A≠[]→(tag A).flatMap zAS=A++[[44]]
 | [],_,h=>absurd rfl h
 | [x],_,_=>by simp [tag,commaW_two]
 | x :: y :: r,h,_=>by
  have h2:fineT (y :: r):=fun S hS=>h S (List.mem_cons_of_mem _ hS)
  rw [tag,List.flatMap_cons,tag_flat h2 (by simp),zCT (h x (List.mem_cons_self ..)).no44]
  rfl
theorem tag_no32:∀{A:List (List UInt8)},fineT A→∀p∈tag A,(32:UInt8) ∉ p
 | [],_,p,hp=>by simp [tag] at hp
 | [x],h,p,hp=>by
  simp only [tag,List.mem_singleton] at hp
  subst hp
  intro e
  rcases List.mem_append.1 e with e | e
  ·exact (h x (List.mem_cons_self ..)).no32 e
  ·simp at e
 | x :: y :: r,h,p,hp=>by
  rw [tag] at hp
  rcases List.mem_cons.1 hp with rfl | e
  ·exact (h p (List.mem_cons_self ..)).no32
  ·exact tag_no32 (A:=y :: r) (fun S hS=>h S (List.mem_cons_of_mem _ hS)) p e
/-- A string, and an operation, by the names of their fingers. -/
structure Nst where
 f:Fg
 l:Int
 far:Bool
 pc:Int
structure Nop where
 kind:Int
 f:Fg
 fr:Option Nst
 path:List (Nst×Bool)
 over:Bool
def zCG (x:Nst):Prop:=zAw x.f=true∧0≤x.l∧x.l≤999999999∧0≤x.pc∧x.pc≤999999999
/-- The fields that the kind uses, and no others. -/
def okKind (n:Nop):Prop :=
 (n.kind=1∨n.kind=2∨n.kind=8)∧n.fr=none∧n.path=[]∧n.over=false
 ∨ n.kind=4∧n.fr=none∧n.path=[]
 ∨ n.kind=3∧(∃x,n.fr=some x∧zCG x)∧(∀y∈n.path,zCG y.1)∧n.over=false
 ∨ n.kind=5∧(∃x,n.fr=some x∧zCG x)∧n.path=[]
 ∨ (n.kind=6∨n.kind=7)∧(∃f,n.fr=some ⟨f,0,false,0⟩∧zAw f=true)∧n.path=[]
def okN (n:Nop):Prop:=zAw n.f=true∧okKind n
/-- The operation in a frame, and whether one of its fingers is not there. -/
def sOf (L:List Fg) (x:Nst):Sg:=⟨idxF L x.f,x.l,x.far,x.pc⟩
def pOf (L:List Fg) (x:Nst×Bool):Sp:=⟨sOf L x.1,x.2⟩
def oOf (L:List Fg) (n:Nop):Og:=⟨n.kind,idxF L n.f,(n.fr.map (sOf L)).getD s0,n.path.map (pOf L),n.over⟩
def gone (L:List Fg) (f:Fg):Bool:=decide (idxF L f=0)
def zBy (L:List Fg) (P:List (Nst×Bool)):Bool:=P.any fun x=>gone L x.1.f
def zAA (L:List Fg) (n:Nop):Bool:=gone L n.f||zBy L n.path||(match n.fr with | some x=>gone L x.f | none=>false)
abbrev zAM:List UInt8:=[102,114,111,109]
abbrev zEt:List UInt8:=[119,105,116,104]
abbrev zCU:List UInt8:=[108,111,111,112]
abbrev zBU:List UInt8:=[112,105,101,99,101]
abbrev nearW:List UInt8:=[110,101,97,114]
abbrev farW:List UInt8:=[102,97,114]
def numT (W:List UInt8) (n:Int):List (List UInt8):=if n=0 then [] else [W,Lib.itoa n]
def plT (x:Nst):List (List UInt8):=[zAn x.f,zCs x.far]++numT zCU x.l++numT zBU x.pc
def stT (x:Nst×Bool):List (List UInt8):=zAY x.2 :: (plT x.1++[[44]])
def stW (x:Nst×Bool):List (List UInt8):=zAY x.2 :: tag (plT x.1)
def frT (n:Nop):List (List UInt8):=match n.fr with | some x=>plT x | none=>[]
def frN (n:Nop):List UInt8:=match n.fr with | some x=>zAn x.f | none=>[]
def tlT (n:Nop):List (List UInt8) :=
 if n.kind=4 then [zAY n.over]
 else if n.kind=3 then n.path.flatMap stT++zAM :: frT n
 else if n.kind=5 then zAM :: (frT n++[zAY n.over])
 else if n.kind=6 then [zAM,frN n,zAY n.over]
 else if n.kind=7 then [zEt,frN n,zAY n.over]
 else []
def tlW (n:Nop):List (List UInt8) :=
 if n.kind=4 then [zAY n.over]
 else if n.kind=3 then n.path.flatMap stW++zAM :: frT n
 else if n.kind=5 then zAM :: (frT n++[zAY n.over])
 else if n.kind=6 then [zAM,frN n,zAY n.over]
 else if n.kind=7 then [zEt,frN n,zAY n.over]
 else []
def tokN (n:Nop):List (List UInt8):=zBd n.kind :: zAn n.f :: tlT n
def wdsN (n:Nop):List (List UInt8):=zBd n.kind :: zAn n.f :: tlW n
def zDt (n:Nop):List UInt8:=Lib.join (wdsN n) [32]
theorem zCg {S:List UInt8} (h:(S.all fun b=>b != 32&&b != 44&&b != 10)=true):fineW S:=fun b hb=>by
 have:=(List.all_eq_true.1 h) b hb
 simpa [and_assoc] using this
theorem zCV (b:Bool):fineW (zAY b):=by cases b<;>exact zCg (by decide)
theorem fine_side (b:Bool):fineW (zCs b):=by cases b<;>exact zCg (by decide)
theorem zER (n:Int):fineW (Lib.itoa n):=fun b hb=>by
 have:=itoa_mem b hb
 refine ⟨?_,?_,?_⟩<;>(rintro rfl;simp at this)
theorem zCW (f:Fg):fineW (zAn f):=fun b hb=>by
 unfold zAn at hb
 rcases List.mem_append.1 hb with h | h
 ·split at h
  ·simp at h
  ·exact zER _ b h
 ·rcases List.mem_cons.1 h with h | h
  ·subst h;split<;>decide
  ·exact zER _ b h
theorem zGI (k:Int):fineW (zBd k):=by
 unfold zBd
 repeat (split;· exact zCg (by decide))
 exact zCg (by decide)
theorem fine_num {W:List UInt8} (h:fineW W) (n:Int):fineT (numT W n):=by
 unfold numT
 split
 ·exact .nil
 ·exact .cons h (.cons (zER n) .nil)
theorem fine_pl (x:Nst):fineT (plT x) :=
 ((fineT.cons (zCW _) (.cons (fine_side _) .nil)).app (fine_num (zCg (by decide)) _)).app (fine_num (zCg (by decide)) _)
theorem pl_ne (x:Nst):plT x≠[]:=by simp [plT]
theorem fine_fr (n:Nop):fineT (frT n):=by
 unfold frT
 split
 ·exact fine_pl _
 ·exact .nil
theorem fine_frN (n:Nop):fineW (frN n):=by
 unfold frN
 split
 ·exact zCW _
 ·exact zCg (by decide)
theorem stW_flat (x:Nst×Bool):(stW x).flatMap zAS=stT x:=by
 rw [stW,List.flatMap_cons,tag_flat (fine_pl _) (pl_ne _),zCT (zCV _).no44]
 rfl
theorem zDF {A:List (List UInt8)} (h:fineT A):A.flatMap zAS=A:=by
 induction A with
 | nil=>rfl
 | cons x A ih =>
  rw [List.flatMap_cons,ih (fun S hS=>h S (List.mem_cons_of_mem _ hS)),zCT (h x (List.mem_cons_self ..)).no44]
  rfl
theorem path_flat (P:List (Nst×Bool)):(P.flatMap stW).flatMap zAS=P.flatMap stT:=by
 induction P with
 | nil=>rfl
 | cons x P ih=>rw [List.flatMap_cons,List.flatMap_append,ih,stW_flat,List.flatMap_cons]
theorem zBM:fineW zAM:=zCg (by decide)
theorem zGJ:fineW zEt:=zCg (by decide)
theorem tl_flat (n:Nop):(tlW n).flatMap zAS=tlT n:=by
 have hf:=fine_fr n
 have hn:=fine_frN n
 have ho:=zCV n.over
 unfold tlW tlT
 split
 ·exact zDF (.cons ho .nil)
 split
 ·rw [List.flatMap_append,path_flat,zDF (.cons zBM hf)]
 split
 ·exact zDF (.cons zBM (hf.app (.cons ho .nil)))
 split
 ·exact zDF (.cons zBM (.cons hn (.cons ho .nil)))
 split
 ·exact zDF (.cons zGJ (.cons hn (.cons ho .nil)))
 ·rfl
theorem wds_flat (n:Nop):(wdsN n).flatMap zAS=tokN n:=by
 rw [wdsN,List.flatMap_cons,List.flatMap_cons,tl_flat,zCT (zGI _).no44,zCT (zCW _).no44]
 rfl
theorem calm_path (P:List (Nst×Bool)) (b:Bool) (R:List (List UInt8)) (h:∀b,zCz b R=true):zCz b (P.flatMap stT++R)=true:=by
 induction P generalizing b with
 | nil=>exact h b
 | cons x P ih =>
  have e:(x :: P).flatMap stT++R=(zAY x.2 :: plT x.1)++([44] :: (P.flatMap stT++R)):=by simp [stT]
  rw [e,zGH _ (.cons (zCV _) (fine_pl _)) (by simp),zCz,if_pos rfl,ih]
  rfl
theorem zES {A:List (List UInt8)} (h:fineT A) (hA:A≠[]) (b:Bool):zCz b A=true:=by
 have:=zGH [] h hA b
 rw [List.append_nil] at this
 rw [this];rfl
theorem tok_calm (n:Nop):zCz false (tokN n)=true:=by
 have hf:=fine_fr n
 have hn:=fine_frN n
 have ho:=zCV n.over
 have h2:fineT [zBd n.kind,zAn n.f]:=.cons (zGI _) (.cons (zCW _) .nil)
 rw [tokN,show zBd n.kind :: zAn n.f :: tlT n=[zBd n.kind,zAn n.f]++tlT n from rfl,zGH _ h2 (by simp)]
 unfold tlT
 split
 ·exact zES (.cons ho .nil) (by simp) _
 split
 ·exact calm_path _ _ _ fun b=>zES (.cons zBM hf) (by simp) b
 split
 ·exact zES (.cons zBM (hf.app (.cons ho .nil))) (by simp) _
 split
 ·exact zES (.cons zBM (.cons hn (.cons ho .nil))) (by simp) _
 split
 ·exact zES (.cons zGJ (.cons hn (.cons ho .nil))) (by simp) _
 ·rfl
theorem path_no32 (P:List (Nst×Bool)):∀p∈P.flatMap stW,(32:UInt8) ∉ p:=fun p hp=>by
 obtain ⟨x,_,h⟩:=List.mem_flatMap.1 hp
 rcases List.mem_cons.1 h with rfl | h
 ·exact (zCV _).no32
 ·exact tag_no32 (fine_pl _) p h
theorem zDG {A:List (List UInt8)} (h:fineT A):∀p∈A,(32:UInt8) ∉ p:=fun p hp=>(h p hp).no32
theorem wds_no32 (n:Nop):∀p∈wdsN n,(32:UInt8) ∉ p:=by
 have hf:=fine_fr n
 have hn:=fine_frN n
 have ho:=zCV n.over
 have ht:∀p∈tlW n,(32:UInt8) ∉ p:=by
  unfold tlW
  split
  ·exact zDG (.cons ho .nil)
  split
  ·intro p hp
   rcases List.mem_append.1 hp with h | h
   ·exact path_no32 _ p h
   ·exact zDG (.cons zBM hf) p h
  split
  ·exact zDG (.cons zBM (hf.app (.cons ho .nil)))
  split
  ·exact zDG (.cons zBM (.cons hn (.cons ho .nil)))
  split
  ·exact zDG (.cons zGJ (.cons hn (.cons ho .nil)))
  ·intro p hp;simp at hp
 intro p hp
 rcases List.mem_cons.1 hp with rfl | hp
 ·exact (zGI _).no32
 ·rcases List.mem_cons.1 hp with rfl | hp
  ·exact (zCW _).no32
  ·exact ht p hp
/-- A line's words, commas apart. -/
theorem zDY (n:Nop):zBr (zDt n)=tokN n:=by
 unfold zBr zDt
 rw [zGE (by simp [wdsN]) (wds_no32 n),wds_flat]
theorem line_of_split {S:List UInt8} {n:Nop} (h:zBr S=tokN n):S=zDt n:=by
 unfold zBr at h
 rw [←wds_flat] at h
 have:=zGG h (by rw [wds_flat];exact tok_calm n)
 unfold zDt
 rw [←this,join_splt]
end Go.Proofs.YtlmdfmnbcndhoaaGreatDoor
