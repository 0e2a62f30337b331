/-
  Contracts: the document's Index and Valid of frames; names of fingers, by the program and by the document. Conditions: the fingers read.
  Contracts: names of fingers, by the program and by the document. Condition: there is such a finger.
  Strings, steps and operations as plain data and in memory; which can be written. Conditions: they read.
-/
import Derived.Test.YtlmdfmnbcndhoaaGreatDoorWs03
import Derived.Test.YtlmdfmnbcndhoaaGreatDoorWs04
import Derived.Lib.ItoaLen
namespace Go.Proofs.YtlmdfmnbcndhoaaGreatDoor
open Go.RowKit
set_option maxHeartbeats 1600000 in
theorem href_Index (A:Option Addr) (n c:Nat) (L:List Fg) (re lo:Int) (f:Fg) (w:World) (hA:Fgs w A n L) :
  Calls Tryz.prog 53 #[.agg #[.slice A n c,.int .i64 re,.int .i64 lo],fgV f] w fun e w'=>e=.returned (.int .i64 (idxF L f:Int))∧Below w.heap.size w w':=by
 have hle:=hA.le
 have HL:=Lib.hid hA.len
 have hb0:Below w.heap.size w ((w.alloc (.cells #[.slice A n c,.int .i64 re,.int .i64 lo] 24)).alloc (.cells #[.int .i64 f.p,.bool f.r,.int .i64 f.d] 90)):=((Below.refl _ _).alloc (Nat.le_refl _) _).alloc (by simp) _
 have hk1:Blk ((w.alloc (.cells #[.slice A n c,.int .i64 re,.int .i64 lo] 24)).alloc (.cells #[.int .i64 f.p,.bool f.r,.int .i64 f.d] 90)) (w.heap.size+1) 90 #[.int .i64 f.p,.bool f.r,.int .i64 f.d]:=heap_alloc2_new w _ _
 have hk0:=(Blk.new w 24 #[.slice A n c,.int .i64 re,.int .i64 lo]).alloc (.cells #[.int .i64 f.p,.bool f.r,.int .i64 f.d] 90)
 go_enter Tryz.func53,Tryz.ntmps53
 go_wp2_with fail
 generalize (w.alloc (.cells #[.slice A n c,.int .i64 re,.int .i64 lo] 24)).alloc (.cells #[.int .i64 f.p,.bool f.r,.int .i64 f.d] 90)=W at hb0 hk0 hk1 ⊢
 go_loopw [5] (fun v wr=>∃i:Nat,i≤n∧v=.int .i64 i∧Below W.heap.size W wr∧Hid (∀j:Nat,j < i→L[j]?≠some f)) (fun v _=>n-(intOf v).toNat)
 case atStart=>exact ⟨0,Nat.zero_le _,rfl,Below.refl _ _,Lib.hid (fun j hj=>by omega)⟩
 case round =>
  obtain ⟨i,hi,rfl,hbr,HS⟩:=hrel
  have hkr:=hk1.below hbr hk1.lt
  have e0:wr.cell? ⟨w.heap.size+1,0,none⟩=some (.int .i64 f.p):=(hkr.cell 0).trans rfl
  have e1:wr.cell? ⟨w.heap.size+1,1,none⟩=some (.bool f.r):=(hkr.cell 1).trans rfl
  have e2:wr.cell? ⟨w.heap.size+1,2,none⟩=some (.int .i64 f.d):=(hkr.cell 2).trans rfl
  have e3:wr.cell? ⟨w.heap.size,0,none⟩=some (.slice A n c):=((hk0.below hbr hk0.lt).cell 0).trans rfl
  have hbw:=below_chain hb0 hbr hb0.size
  by_cases hlt:i < n
  ·obtain ⟨g,o,rfl,hg,⟨x0,x1,x2⟩,_⟩:=(hA.below hbw).at_ hlt
   have i0:(0:Int)≤(i:Int):=by omega
   have i1:(i:Int) < (n:Int):=by omega
   have heq:=fun w=>eqFg (fa L i) f w
   have hget:=fa_get (L:=L) (i:=i) (by rw [HL.out];exact hlt)
   cases hq:fgB (fa L i) f with
   | true =>
    have hr:=Lib.hid (show idxF L f=i+1 from idxF_at (by rw [hget,fgB_iff.1 hq]) HS.out)
    clear HS hget
    go_wp2_with fail
    go_quiet (fail)
    go_wp2_with fail
    go_ret
    exact ⟨retI (by rw [hr.out];omega),below_drewN hbw _⟩
   | false =>
    have HS1:=Lib.hid (show ∀j:Nat,j < i+1→L[j]?≠some f from fun j hj=>by
     rcases Nat.decEq j i with e | e
     ·exact HS.out j (by omega)
     ·subst e
      rw [hget]
      intro e2
      injection e2 with e2
      rw [e2,fgB_self] at hq
      cases hq)
    clear HS hget
    go_wp2_with fail
    go_quiet (fail)
    go_wp2_with fail
    go_roundw
    case rel=>exact ⟨i+1,by omega,by go_num,below_drewN hbr _,HS1⟩
    case measure=>simp [intOf];omega
  ·have hr:=Lib.hid (show idxF L f=0 from idxF_none fun j e=>by
    have hj:=(List.getElem?_eq_some_iff.1 e).1
    rw [HL.out] at hj
    exact HS.out j (by omega) e)
   have i1:¬(i:Int) < (n:Int):=by omega
   clear HS
   go_wp2_with fail
   go_ret
   exact ⟨retI (by rw [hr.out];rfl),hbw⟩
theorem goodF_iff {L:List Fg} {i:Nat} (hi:i < L.length):goodF L i=true↔1≤(fa L i).p∧(fa L i).p≤9∧0≤(fa L i).d∧(fa L i).d≤6∧idxF L (fa L i)=i+1:=by
 unfold goodF
 rw [Bool.and_eq_true,thereB_iff,decide_eq_true_eq,idxF_take hi]
 simp [and_assoc]
set_option maxRecDepth 100000 in
set_option maxHeartbeats 3200000 in
theorem href_Valid (A:Option Addr) (n c:Nat) (L:List Fg) (re lo:Int) (w:World) (hA:Fgs w A n L) :
  Calls Tryz.prog 18 #[.agg #[.slice A n c,.int .i64 re,.int .i64 lo]] w fun e w'=>e=.returned (.bool (frB L re lo))∧Below w.heap.size w w':=by
 have hln:=hA.len
 have hb0:Below w.heap.size w (w.alloc (.cells #[.slice A n c,.int .i64 re,.int .i64 lo] 24)):=(Below.refl _ _).alloc (Nat.le_refl _) _
 by_cases hok:L.length≤40∧0≤re∧re≤40∧1≤lo∧lo≤20
 ·have HOK:=Lib.hid hok
  have HL:=Lib.hid hln
  have hn40:n≤40:=by omega
  have i0:¬(40:Int) < (n:Int):=by omega
  have i1:¬re < 0:=by omega
  have i2:¬40 < re:=by omega
  have i3:¬lo < 1:=by omega
  have i4:¬20 < lo:=by omega
  have hk0:Blk (w.alloc (.cells #[.slice A n c,.int .i64 re,.int .i64 lo] 24)) w.heap.size 24 #[.slice A n c,.int .i64 re,.int .i64 lo]:=Blk.new _ _ _
  clear hok hln
  go_enter Tryz.func18,Tryz.ntmps18
  go_wp2_with fail
  generalize w.alloc (.cells #[.slice A n c,.int .i64 re,.int .i64 lo] 24)=W at hb0 hk0 ⊢
  go_loopw [3] (fun v wr=>∃i:Nat,i≤n∧v=.int .i64 i∧Below W.heap.size W wr∧Hid (∀j:Nat,j < i→goodF L j=true)) (fun v _=>n-(intOf v).toNat)
  case atStart=>exact ⟨0,Nat.zero_le _,rfl,Below.refl _ _,Lib.hid (fun j hj=>by omega)⟩
  case round =>
   obtain ⟨i,hi,rfl,hbr,HS⟩:=hrel
   have hkr:=hk0.below hbr hk0.lt
   have hbw:=below_chain hb0 hbr hb0.size
   have e0:wr.cell? ⟨w.heap.size,0,none⟩=some (.slice A n c):=(hkr.cell 0).trans rfl
   have e1:wr.cell? ⟨w.heap.size,1,none⟩=some (.int .i64 re):=(hkr.cell 1).trans rfl
   have e2:wr.cell? ⟨w.heap.size,2,none⟩=some (.int .i64 lo):=(hkr.cell 2).trans rfl
   by_cases hlt:i < n
   ·obtain ⟨g,o,rfl,hg,⟨x0,x1,x2⟩,_⟩:=(hA.below hbw).at_ hlt
    have j0:(0:Int)≤(i:Int):=by omega
    have j1:(i:Int) < (n:Int):=by omega
    have HG:=Lib.hid (goodF_iff (L:=L) (i:=i) (by rw [HL.out];exact hlt))
    have hlen:i < L.length:=by rw [HL.out];exact hlt
    have hix:idxF L (fa L i)≤n:=by have:=idxF_le (L:=L) (f:=fa L i);rw [HL.out] at this;exact this
    generalize hx:fa L i=x at x0 x1 x2 HG hix
    have HX:=Lib.hid hx
    have HLEN:=Lib.hid hlen
    clear hx hlen
    have hA4:=(hA.below hbw).alloc (.cells #[.int .i64 x.p,.bool x.r,.int .i64 x.d] 90)
    have hb4:Below W.heap.size W (wr.alloc (.cells #[.int .i64 x.p,.bool x.r,.int .i64 x.d] 90)):=hbr.alloc hbr.size _
    have HC:=Lib.hid (href_Index (some ⟨g,o,none⟩) n c L re lo x _ hA4)
    have hkf:=hkr.alloc (.cells #[.int .i64 x.p,.bool x.r,.int .i64 x.d] 90)
    have y0:(wr.alloc (.cells #[.int .i64 x.p,.bool x.r,.int .i64 x.d] 90)).cell? ⟨w.heap.size,0,none⟩=some (.slice (some ⟨g,o,none⟩) n c):=(hkf.cell 0).trans rfl
    have y1:(wr.alloc (.cells #[.int .i64 x.p,.bool x.r,.int .i64 x.d] 90)).cell? ⟨w.heap.size,1,none⟩=some (.int .i64 re):=(hkf.cell 1).trans rfl
    have y2:(wr.alloc (.cells #[.int .i64 x.p,.bool x.r,.int .i64 x.d] 90)).cell? ⟨w.heap.size,2,none⟩=some (.int .i64 lo):=(hkf.cell 2).trans rfl
    by_cases hth:1≤x.p∧x.p≤9∧0≤x.d∧x.d≤6
    ·obtain ⟨t1,t2,t3,t4⟩:=hth
     have HTH:=Lib.hid (show 1≤x.p∧x.p≤9∧0≤x.d∧x.d≤6 from ⟨t1,t2,t3,t4⟩)
     have u1:¬x.p < 1:=by omega
     have u2:¬9 < x.p:=by omega
     have u3:¬x.d < 0:=by omega
     have u4:¬6 < x.d:=by omega
     clear t1 t2 t3 t4
     go_wp2_with fail
     refine HC.out.mono ?_
     rintro e w5 ⟨rfl,hb5⟩
     have hb6:=below_chain hb4 hb5 hb4.size
     by_cases hi1:idxF L x=i+1
     ·have v0:((idxF L x:Int) != (i:Int)+1)=false:=by simp;omega
      have HS1:=Lib.hid (show ∀j:Nat,j < i+1→goodF L j=true from fun j hj=>by
       rcases Nat.decEq j i with e | e
       ·exact HS.out j (by omega)
       ·subst e
        have:=HTH.out
        exact HG.out.2 ⟨this.1,this.2.1,this.2.2.1,this.2.2.2,hi1⟩)
      clear HS hi1
      go_wp2_with fail
      go_roundw
      case rel=>exact ⟨i+1,by omega,by go_num,hb6,HS1⟩
      case measure=>simp [intOf];omega
     ·have v0:((idxF L x:Int) != (i:Int)+1)=true:=by simp;omega
      have hr:=Lib.hid (frB_bad (re:=re) (lo:=lo) (L:=L) (i:=i) HLEN.out (by
       cases e:goodF L i with
       | false=>rfl
       | true=>exact absurd (HG.out.1 e).2.2.2.2 hi1))
      clear HS hi1
      go_wp2_with fail
      go_ret
      exact ⟨retB (by rw [hr.out]),below_chain hb0 hb6 hb0.size⟩
    ·have hr:=Lib.hid (frB_bad (re:=re) (lo:=lo) (L:=L) (i:=i) HLEN.out (by
      cases e:goodF L i with
      | false=>rfl
      | true=>have h5:=HG.out.1 e;exact absurd ⟨h5.1,h5.2.1,h5.2.2.1,h5.2.2.2.1⟩ hth))
     go_wp2_with fail
     all_goals first
      | (exfalso;omega)
      | (go_ret;exact ⟨retB (by rw [hr.out]),below_chain hb0 hb4 hb0.size⟩)
   ·have hr:=Lib.hid (show frB L re lo=true from frB_iff.2 ⟨HOK.out.1,HOK.out.2.1,HOK.out.2.2.1,HOK.out.2.2.2.1,HOK.out.2.2.2.2,fun j hj=>HS.out j (by rw [HL.out] at hj;omega)⟩)
    have j1:¬(i:Int) < (n:Int):=by omega
    clear HS
    go_wp2_with fail
    go_ret
    exact ⟨retB (by rw [hr.out]),hbw⟩
 ·have hr:=Lib.hid (frB_no hok)
  go_enter Tryz.func18,Tryz.ntmps18
  go_wp2_with fail
  all_goals first
   | (exfalso;omega)
   | (go_ret;exact ⟨retB (by rw [hr.out]),hb0⟩)
end Go.Proofs.YtlmdfmnbcndhoaaGreatDoor
namespace Go.Proofs.YtlmdfmnbcndhoaaGreatDoor
open Go.RowKit
theorem itoa_few (x:Int) (h0:0≤x) (h1:x < 100) (w:World):Calls Tryz.prog 124 #[.int .i64 x] w fun e w'=>e=.returned (.string (bA (Lib.itoa x)))∧w'=w:=by
 obtain ⟨k,rfl⟩:=Int.eq_ofNat_of_zero_le h0
 have:=Tryz.strconv_Itoa_small k (by omega) w
 have hi:Lib.itoa (k:Int)=Lib.decDigits k:=by unfold Lib.itoa;rw [if_neg (by omega)];simp
 rw [hi]
 exact this
theorem itoa_len {x:Int} (h:I64 x):(Lib.itoa x).length≤21:=Lib.itoa_length_le x h.1 h.2
theorem nameF_len {x:Fg} (h:FgOk x):(nameF x).length≤43:=by
 have h1:=itoa_len h.p
 have h2:=itoa_len h.d
 unfold nameF
 by_cases hp:x.p=1
 ·rw [if_pos hp];simp;omega
 ·rw [if_neg hp];simp;omega
theorem there_ok {x:Fg} (h:thereB x=true):FgOk x:=by
 have:=thereB_iff.1 h
 exact ⟨⟨by omega,by omega⟩,⟨by omega,by omega⟩⟩
set_option maxHeartbeats 1600000 in
theorem hand_Name (x:Fg) (hx:thereB x=true) (w:World) :
  Calls Tryz.prog 154 #[fgV x] w fun e w'=>e=.returned (.string (bA (nameF x)))∧Below w.heap.size w w':=by
 have hok:=there_ok hx
 obtain ⟨h1,h2,h3,h4⟩:=thereB_iff.1 hx
 have zP:=itoa_len hok.p
 have zD:=itoa_len hok.d
 have hb0:Below w.heap.size w (w.alloc (.cells #[.int .i64 x.p,.bool x.r,.int .i64 x.d] 90)):=(Below.refl _ _).alloc (Nat.le_refl _) _
 obtain ⟨p,r,d⟩:=x
 simp only at h1 h2 h3 h4 zP zD hb0 ⊢
 have HP:=Lib.hid (itoa_few p (by omega) (by omega) (w.alloc (.cells #[.int .i64 p,.bool r,.int .i64 d] 90)))
 have HD:=Lib.hid (itoa_few d (by omega) (by omega) (w.alloc (.cells #[.int .i64 p,.bool r,.int .i64 d] 90)))
 by_cases hp:p=1
 ·have s0:=strAddL [] [82] (by simp) (by simp)
  have s1:=strAddL [] [76] (by simp) (by simp)
  have s2:=strAddL [82] (Lib.itoa d) (by simp) (by omega)
  have s3:=strAddL [76] (Lib.itoa d) (by simp) (by omega)
  rw [show bA [82]=⟨#[82]⟩ from rfl] at s0 s2
  rw [show bA [76]=⟨#[76]⟩ from rfl] at s1 s3
  rw [show bA []=⟨#[]⟩ from rfl] at s0 s1
  rw [show bA ([]++[82])=⟨#[82]⟩ from rfl] at s0
  rw [show bA ([]++[76])=⟨#[76]⟩ from rfl] at s1
  have q0:(p != 1)=false:=by simpa using hp
  have hf:=Lib.hid (show nameF ⟨p,r,d⟩=(if r then 82 else 76) :: Lib.itoa d by unfold nameF;rw [if_pos hp];rfl)
  clear hp h1 h2 h3 h4 hok hx HP zP zD
  cases r with
  | true =>
   go_enter Tryz.func154,Tryz.ntmps154
   go_wp2_with fail
   refine HD.out.mono ?_
   rintro e w2 ⟨rfl,rfl⟩
   go_wp2_with fail
   go_ret
   exact ⟨retS (by rw [hf.out];first | rfl | simp),hb0⟩
  | false =>
   go_enter Tryz.func154,Tryz.ntmps154
   go_wp2_with fail
   refine HD.out.mono ?_
   rintro e w2 ⟨rfl,rfl⟩
   go_wp2_with fail
   go_ret
   exact ⟨retS (by rw [hf.out];first | rfl | simp),hb0⟩
 ·have s0:=strAddL (Lib.itoa p) [82] (by omega) (by simp)
  have s1:=strAddL (Lib.itoa p) [76] (by omega) (by simp)
  have s2:=strAddL (Lib.itoa p++[82]) (Lib.itoa d) (by simp;omega) (by omega)
  have s3:=strAddL (Lib.itoa p++[76]) (Lib.itoa d) (by simp;omega) (by omega)
  rw [show bA [82]=⟨#[82]⟩ from rfl] at s0
  rw [show bA [76]=⟨#[76]⟩ from rfl] at s1
  have q0:(p != 1)=true:=by simpa using hp
  have hf:=Lib.hid (show nameF ⟨p,r,d⟩=Lib.itoa p++[if r then 82 else 76]++Lib.itoa d by unfold nameF;rw [if_neg hp];simp)
  clear hp h1 h2 h3 h4 hok hx zP zD
  cases r with
  | true =>
   go_enter Tryz.func154,Tryz.ntmps154
   go_wp2_with fail
   refine HP.out.mono ?_
   rintro e w2 ⟨rfl,rfl⟩
   go_wp2_with fail
   refine HD.out.mono ?_
   rintro e w2 ⟨rfl,rfl⟩
   go_wp2_with fail
   go_ret
   exact ⟨retS (by rw [hf.out];first | rfl | simp),hb0⟩
  | false =>
   go_enter Tryz.func154,Tryz.ntmps154
   go_wp2_with fail
   refine HP.out.mono ?_
   rintro e w2 ⟨rfl,rfl⟩
   go_wp2_with fail
   refine HD.out.mono ?_
   rintro e w2 ⟨rfl,rfl⟩
   go_wp2_with fail
   go_ret
   exact ⟨retS (by rw [hf.out];first | rfl | simp),hb0⟩
set_option maxHeartbeats 1600000 in
theorem href_Name (x:Fg) (hx:thereB x=true) (w:World) :
  Calls Tryz.prog 111 #[fgV x] w fun e w'=>e=.returned (.string (bA (nameF x)))∧Below w.heap.size w w':=by
 have hok:=there_ok hx
 obtain ⟨h1,h2,h3,h4⟩:=thereB_iff.1 hx
 have zP:=itoa_len hok.p
 have zD:=itoa_len hok.d
 have hb0:Below w.heap.size w (w.alloc (.cells #[.int .i64 x.p,.bool x.r,.int .i64 x.d] 90)):=(Below.refl _ _).alloc (Nat.le_refl _) _
 have hk0:Blk (w.alloc (.cells #[.int .i64 x.p,.bool x.r,.int .i64 x.d] 90)) w.heap.size 90 #[.int .i64 x.p,.bool x.r,.int .i64 x.d]:=Blk.new _ _ _
 obtain ⟨p,r,d⟩:=x
 simp only at h1 h2 h3 h4 zP zD hb0 hk0 ⊢
 have HP:=Lib.hid (fun w=>ref_Number p hok.p w)
 have HD:=Lib.hid (fun w=>ref_Number d hok.d w)
 by_cases hp:p=1
 ·have s0:=strAddL [] [82] (by simp) (by simp)
  have s1:=strAddL [] [76] (by simp) (by simp)
  have s2:=strAddL [82] (Lib.itoa d) (by simp) (by omega)
  have s3:=strAddL [76] (Lib.itoa d) (by simp) (by omega)
  rw [show bA [82]=⟨#[82]⟩ from rfl] at s0 s2
  rw [show bA [76]=⟨#[76]⟩ from rfl] at s1 s3
  rw [show bA []=⟨#[]⟩ from rfl] at s0 s1
  rw [show bA ([]++[82])=⟨#[82]⟩ from rfl] at s0
  rw [show bA ([]++[76])=⟨#[76]⟩ from rfl] at s1
  have q0:(p != 1)=false:=by simpa using hp
  have hf:=Lib.hid (show nameF ⟨p,r,d⟩=(if r then 82 else 76) :: Lib.itoa d by unfold nameF;rw [if_pos hp];rfl)
  clear hp h1 h2 h3 h4 hok hx HP zP zD
  cases r with
  | true =>
   go_enter Tryz.func111,Tryz.ntmps111
   go_wp2_with fail
   refine (HD.out _).mono ?_
   rintro e w2 ⟨rfl,hb2⟩
   have hb3:=below_chain hb0 hb2 hb0.size
   go_wp2_with fail
   go_ret
   exact ⟨retS (by rw [hf.out];first | rfl | simp),hb3⟩
  | false =>
   go_enter Tryz.func111,Tryz.ntmps111
   go_wp2_with fail
   refine (HD.out _).mono ?_
   rintro e w2 ⟨rfl,hb2⟩
   have hb3:=below_chain hb0 hb2 hb0.size
   go_wp2_with fail
   go_ret
   exact ⟨retS (by rw [hf.out];first | rfl | simp),hb3⟩
 ·have s0:=strAddL (Lib.itoa p) [82] (by omega) (by simp)
  have s1:=strAddL (Lib.itoa p) [76] (by omega) (by simp)
  have s2:=strAddL (Lib.itoa p++[82]) (Lib.itoa d) (by simp;omega) (by omega)
  have s3:=strAddL (Lib.itoa p++[76]) (Lib.itoa d) (by simp;omega) (by omega)
  rw [show bA [82]=⟨#[82]⟩ from rfl] at s0
  rw [show bA [76]=⟨#[76]⟩ from rfl] at s1
  have q0:(p != 1)=true:=by simpa using hp
  have hf:=Lib.hid (show nameF ⟨p,r,d⟩=Lib.itoa p++[if r then 82 else 76]++Lib.itoa d by unfold nameF;rw [if_neg hp];simp)
  clear hp h1 h2 h3 h4 hok hx zP zD
  cases r with
  | true =>
   go_enter Tryz.func111,Tryz.ntmps111
   go_wp2_with fail
   generalize w.alloc (.cells #[.int .i64 p,.bool true,.int .i64 d] 90)=X at hb0 hk0 ⊢
   refine (HP.out _).mono ?_
   rintro e w2 ⟨rfl,hb2⟩
   have hk2:=hk0.below hb2 hk0.lt
   have c1:w2.cell? ⟨w.heap.size,1,none⟩=some (.bool true):=(hk2.cell 1).trans rfl
   have c2:w2.cell? ⟨w.heap.size,2,none⟩=some (.int .i64 d):=(hk2.cell 2).trans rfl
   have hb3:=below_chain hb0 hb2 hb0.size
   go_wp2_with fail
   refine (HD.out _).mono ?_
   rintro e w3 ⟨rfl,hb4⟩
   have hb5:=below_chain hb3 hb4 hb3.size
   go_wp2_with fail
   go_ret
   exact ⟨retS (by rw [hf.out];first | rfl | simp),hb5⟩
  | false =>
   go_enter Tryz.func111,Tryz.ntmps111
   go_wp2_with fail
   generalize w.alloc (.cells #[.int .i64 p,.bool false,.int .i64 d] 90)=X at hb0 hk0 ⊢
   refine (HP.out _).mono ?_
   rintro e w2 ⟨rfl,hb2⟩
   have hk2:=hk0.below hb2 hk0.lt
   have c1:w2.cell? ⟨w.heap.size,1,none⟩=some (.bool false):=(hk2.cell 1).trans rfl
   have c2:w2.cell? ⟨w.heap.size,2,none⟩=some (.int .i64 d):=(hk2.cell 2).trans rfl
   have hb3:=below_chain hb0 hb2 hb0.size
   go_wp2_with fail
   refine (HD.out _).mono ?_
   rintro e w3 ⟨rfl,hb4⟩
   have hb5:=below_chain hb3 hb4 hb3.size
   go_wp2_with fail
   go_ret
   exact ⟨retS (by rw [hf.out];first | rfl | simp),hb5⟩
end Go.Proofs.YtlmdfmnbcndhoaaGreatDoor
namespace Go.Proofs.YtlmdfmnbcndhoaaGreatDoor
open Go.RowKit
structure Sg where
 f:Int
 l:Int
 far:Bool
 pc:Int
instance:DecidableEq Sg:=fun a b =>
 if h:a.f=b.f∧a.l=b.l∧a.far=b.far∧a.pc=b.pc then .isTrue (by cases a;cases b;simp at h;simp [h])
 else .isFalse (fun e=>h (by subst e;simp))
structure Sp where
 s:Sg
 over:Bool
instance:DecidableEq Sp:=fun a b =>
 if h:a.s=b.s∧a.over=b.over then .isTrue (by cases a;cases b;simp at h;simp [h])
 else .isFalse (fun e=>h (by subst e;simp))
structure Og where
 kind:Int
 f:Int
 fr:Sg
 path:List Sp
 over:Bool
instance:DecidableEq Og:=fun a b =>
 if h:a.kind=b.kind∧a.f=b.f∧a.fr=b.fr∧a.path=b.path∧a.over=b.over then .isTrue (by cases a;cases b;simp at h;simp [h])
 else .isFalse (fun e=>h (by subst e;simp))
def sgB (x y:Sg):Bool:=x.f==y.f&&x.l==y.l&&x.far==y.far&&x.pc==y.pc
theorem sgB_iff {x y:Sg}:sgB x y=true↔x=y:=by
 cases x;cases y
 simp [sgB,and_assoc]
def s0:Sg:=⟨0,0,false,0⟩
def namedB (k:Nat) (s:Sg):Bool:=decide (1≤s.f)&&decide (s.f≤(k:Int))&&decide (0≤s.l)&&decide (s.l≤999999999)&&decide (0≤s.pc)&&decide (s.pc≤999999999)
theorem namedB_iff {k:Nat} {s:Sg}:namedB k s=true↔1≤s.f∧s.f≤(k:Int)∧0≤s.l∧s.l≤999999999∧0≤s.pc∧s.pc≤999999999:=by simp [namedB,and_assoc]
/-- What is asked of an operation's other fields, by its kind. -/
def restB (k:Nat) (o:Og):Bool :=
 if o.kind=1∨o.kind=2∨o.kind=8 then !o.over&&sgB o.fr s0
 else if o.kind=4 then sgB o.fr s0
 else if o.kind=3 then !o.over&&namedB k o.fr
 else if o.kind=5 then namedB k o.fr
 else if o.kind=6∨o.kind=7 then namedB k o.fr&&sgB o.fr ⟨o.fr.f,0,false,0⟩
 else false
/-- The operation can be written, for k fingers. -/
def rightB (k:Nat) (o:Og):Bool :=
 decide (1≤o.f)&&decide (o.f≤(k:Int))&&(decide (o.kind=3)||decide (o.path=[]))&&o.path.all (fun x=>namedB k x.s)&&restB k o
structure SgOk (s:Sg):Prop where
 f:I64 s.f
 l:I64 s.l
 pc:I64 s.pc
def encS (s:Sg):List Value:=[.int .i64 s.f,.int .i64 s.l,.bool s.far,.int .i64 s.pc]
abbrev sgV (s:Sg):Value:=.agg #[.int .i64 s.f,.int .i64 s.l,.bool s.far,.int .i64 s.pc]
def encP (x:Sp):List Value:=[.int .i64 x.s.f,.int .i64 x.s.l,.bool x.s.far,.int .i64 x.s.pc,.bool x.over]
abbrev spV (x:Sp):Value:=.agg #[.int .i64 x.s.f,.int .i64 x.s.l,.bool x.s.far,.int .i64 x.s.pc,.bool x.over]
def dp:Sp:=⟨s0,false⟩
def pa (L:List Sp) (i:Nat):Sp:=(L[i]?).getD dp
theorem pa_get {L:List Sp} {i:Nat} (h:i < L.length):L[i]? = some (pa L i):=by unfold pa;rw [List.getElem?_eq_getElem h];rfl
structure SpAt (w:World) (g o:Nat) (x:Sp):Prop where
 f:w.cell? ⟨g,o,none⟩=some (.int .i64 x.s.f)
 l:w.cell? ⟨g,o+1,none⟩=some (.int .i64 x.s.l)
 far:w.cell? ⟨g,o+2,none⟩=some (.bool x.s.far)
 pc:w.cell? ⟨g,o+3,none⟩=some (.int .i64 x.s.pc)
 over:w.cell? ⟨g,o+4,none⟩=some (.bool x.over)
/-- The slice reads as a path. -/
def Stps (w:World) (A:Option Addr) (n:Nat) (L:List Sp):Prop:=Els 5 encP w A n L∧∀x∈L,SgOk x.s
section
variable {w w':World} {A:Option Addr} {n:Nat} {L:List Sp}
theorem Stps.len (h:Stps w A n L):L.length=n:=h.1.1
theorem Stps.le (h:Stps w A n L):n≤17592186043904:=h.1.2.1
theorem Stps.nil (w:World) (A:Option Addr):Stps w A 0 []:=⟨Els.nil _ _,by simp⟩
theorem Stps.below (h:Stps w A n L) (hb:Below w.heap.size w w'):Stps w' A n L:=⟨h.1.below hb,h.2⟩
theorem Stps.at_ {k:Nat} (h:Stps w A n L) (hk:k < n):∃g o,A=some ⟨g,o,none⟩∧g < w.heap.size∧SpAt w g (o+k*5) (pa L k)∧SgOk (pa L k).s:=by
 obtain ⟨g,o,e,hb,hc⟩:=h.1.2.2 (by omega)
 have hx:L[k]? = some (pa L k):=pa_get (by rw [h.len];exact hk)
 exact ⟨g,o,e,hb,⟨hc k _ hx 0 _ rfl,hc k _ hx 1 _ rfl,hc k _ hx 2 _ rfl,hc k _ hx 3 _ rfl,hc k _ hx 4 _ rfl⟩,h.2 _ (List.mem_of_getElem? hx)⟩
end
structure OgOk (o:Og):Prop where
 kind:I64 o.kind
 f:I64 o.f
 fr:SgOk o.fr
/-- An operation as a value: its path lies in a slice. -/
abbrev opV (o:Og) (A:Option Addr) (n c:Nat):Value:=.agg #[.int .i64 o.kind,.int .i64 o.f,.int .i64 o.fr.f,.int .i64 o.fr.l,.bool o.fr.far,.int .i64 o.fr.pc,.slice A n c,.bool o.over]
structure OpIn (w:World) (o:Og) (A:Option Addr) (n c:Nat):Prop where
 ok:OgOk o
 path:Stps w A n o.path
 cap:n≤c
theorem OpIn.below {w w':World} {o:Og} {A:Option Addr} {n c:Nat} (h:OpIn w o A n c) (hb:Below w.heap.size w w'):OpIn w' o A n c:=⟨h.ok,h.path.below hb,h.cap⟩
/-- An operation of a list, and where its path lies. -/
structure Oe where
 o:Og
 A:Option Addr
 n:Nat
 c:Nat
def encO (e:Oe):List Value:=[.int .i64 e.o.kind,.int .i64 e.o.f,.int .i64 e.o.fr.f,.int .i64 e.o.fr.l,.bool e.o.fr.far,.int .i64 e.o.fr.pc,.slice e.A e.n e.c,.bool e.o.over]
def do_:Oe:=⟨⟨0,0,s0,[],false⟩,none,0,0⟩
def oa (L:List Oe) (i:Nat):Oe:=(L[i]?).getD do_
theorem oa_get {L:List Oe} {i:Nat} (h:i < L.length):L[i]? = some (oa L i):=by unfold oa;rw [List.getElem?_eq_getElem h];rfl
structure OpAt (w:World) (g p:Nat) (e:Oe):Prop where
 kind:w.cell? ⟨g,p,none⟩=some (.int .i64 e.o.kind)
 f:w.cell? ⟨g,p+1,none⟩=some (.int .i64 e.o.f)
 ff:w.cell? ⟨g,p+2,none⟩=some (.int .i64 e.o.fr.f)
 fl:w.cell? ⟨g,p+3,none⟩=some (.int .i64 e.o.fr.l)
 far:w.cell? ⟨g,p+4,none⟩=some (.bool e.o.fr.far)
 pc:w.cell? ⟨g,p+5,none⟩=some (.int .i64 e.o.fr.pc)
 path:w.cell? ⟨g,p+6,none⟩=some (.slice e.A e.n e.c)
 over:w.cell? ⟨g,p+7,none⟩=some (.bool e.o.over)
/-- The slice reads as a list of operations. -/
def Oprs (w:World) (A:Option Addr) (n:Nat) (L:List Oe):Prop:=Els 8 encO w A n L∧∀e∈L,OpIn w e.o e.A e.n e.c
section
variable {w w':World} {A:Option Addr} {n:Nat} {L:List Oe}
theorem Oprs.len (h:Oprs w A n L):L.length=n:=h.1.1
theorem Oprs.le (h:Oprs w A n L):n≤17592186043904:=h.1.2.1
theorem Oprs.below (h:Oprs w A n L) (hb:Below w.heap.size w w'):Oprs w' A n L:=⟨h.1.below hb,fun e he=>(h.2 e he).below hb⟩
theorem Oprs.at_ {k:Nat} (h:Oprs w A n L) (hk:k < n):∃g o,A=some ⟨g,o,none⟩∧g < w.heap.size∧OpAt w g (o+k*8) (oa L k)∧OpIn w (oa L k).o (oa L k).A (oa L k).n (oa L k).c:=by
 obtain ⟨g,o,e,hb,hc⟩:=h.1.2.2 (by omega)
 have hx:L[k]? = some (oa L k):=oa_get (by rw [h.len];exact hk)
 exact ⟨g,o,e,hb,⟨hc k _ hx 0 _ rfl,hc k _ hx 1 _ rfl,hc k _ hx 2 _ rfl,hc k _ hx 3 _ rfl,hc k _ hx 4 _ rfl,hc k _ hx 5 _ rfl,hc k _ hx 6 _ rfl,hc k _ hx 7 _ rfl⟩,h.2 _ (List.mem_of_getElem? hx)⟩
end
set_option maxRecDepth 100000 in
theorem eqSg (x y:Sg) (w:World):(Op.equalIn 10000 29 (sgV x) (sgV y)).run Tryz.prog w=.ok (sgB x y) w:=by
 have u3:=Tryz.underlying3
 have a3:=Tryz.isAgg3
 have z3:=Tryz.sizeOf3
 have u4:=Tryz.underlying4
 have a4:=Tryz.isAgg4
 have z4:=Tryz.sizeOf4
 have hS:Tryz.prog.underlying 29=some (.struct (Tryz.prog.fieldsOf 29)):=by kernel_rfl
 have hp:Tryz.prog.stoodInHeld 29=false:=by kernel_rfl
 rw [show (10000:Nat)=9999+1 from rfl,run_equalIn_agg w 9999 29 _ _ hS hp]
 simp only [Program.fieldsOf,Tryz.underlying29]
 go_simp
 unfold sgB
 by_cases h1:x.f=y.f<;>by_cases h2:x.l=y.l<;>by_cases h3:x.far=y.far<;>by_cases h4:x.pc=y.pc<;>simp [h1,h2,h3,h4]
theorem notes_named (A:Option Addr) (n c:Nat) (re lo:Int) (s:Sg) (w:World) :
  Calls Tryz.prog 152 #[.agg #[.slice A n c,.int .i64 re,.int .i64 lo],sgV s] w fun e w'=>e=.returned (.bool (namedB n s))∧Below w.heap.size w w':=by
 have hb0:Below w.heap.size w ((w.alloc (.cells #[.slice A n c,.int .i64 re,.int .i64 lo] 24)).alloc (.cells #[.int .i64 s.f,.int .i64 s.l,.bool s.far,.int .i64 s.pc] 29)):=((Below.refl _ _).alloc (Nat.le_refl _) _).alloc (by simp) _
 have HB:=Lib.hid hb0
 have hr:=Lib.hid (show namedB n s=(decide (1≤s.f)&&decide (s.f≤(n:Int))&&decide (0≤s.l)&&decide (s.l≤999999999)&&decide (0≤s.pc)&&decide (s.pc≤999999999)) from rfl)
 clear hb0
 go_enter Tryz.func152,Tryz.ntmps152
 go_wp2_with fail
 all_goals
  go_ret
  refine ⟨retB ?_,HB.out⟩
  rw [hr.out]
  simp
  try omega
end Go.Proofs.YtlmdfmnbcndhoaaGreatDoor
