/-
  NotesWritten returns true. Conditions: the frame and the code's letters read; the library's tables stand.
  What the row asks behind a call that leaves all old memory as it was and returns true. No condition.
-/
import Derived.Test.YtlmdfmnbcndhoaaGreatDoorWr43
import Derived.Test.YtlmdfmnbcndhoaaGreatDoorWr45
import Derived.Test.YtlmdfmnbcndhoaaGreatDoorRows
import Derived.Test.YtlmdfmnbcndhoaaGreatDoorTie
import Derived.Test.YtlmdfmnbcndhoaaGreatDoorCards
import Derived.Test.YtlmdfmnbcndhoaaGreatDoorWr01
import Derived.ProofKit
import Derived.LaidMore
import Derived.OpenShut
import Derived.Stop.Joined
import Derived.SizedLaws
namespace Go.Proofs.YtlmdfmnbcndhoaaGreatDoor
open Go.RowKit
theorem str_at {S:List UInt8} {i:Nat} {b:UInt8} (h:S[i]? = some b) (w:World):(Instr.index 9 (.string (bA S)) (.int .i64 i)).run Tryz.prog w=.ok (.int .u8 b.toNat) w:=by
 obtain ⟨hi,he⟩:=List.getElem?_eq_some_iff.1 h
 have hs:i < (bA S).size:=by rw [zAO];exact hi
 rw [run_index_string w 9 (bA S) .i64 i Tryz.underlying9,dif_pos ⟨by omega,by simpa using hs⟩]
 obtain ⟨b2,h1,h2⟩:=byte_at hi hs
 rw [h] at h1
 obtain rfl:b=b2:=Option.some.inj h1
 simp only [Int.toNat_natCast,h2]
theorem seq_len {F:List Fg} {re lo K:Int} {L:List Lt} (h:zAU F re lo K L=true):(seqF F L).length≤4000:=by
 by_cases h0:L.length=0
 ·unfold seqF;rw [if_pos h0];decide
 ·obtain ⟨pp,hf,hK,hn,_⟩:=posP_of h (by omega)
  exact pp.len hf hK hn
theorem wswap_is {K:Int} {L:List Lt} (h:zAp K L=0) {A:Option Addr} {n c:Nat} (w:World) (hA:Lets w A n L) (hc:n≤c) :
  Calls Tryz.prog 45 #[.agg #[.int .i64 K,.slice A n c]] w (zHr w K (zBR L) 0) :=
 (code_swap K A n c L w hA hc).mono fun _ _ hg=>givesCE_ok h hg
theorem Own.capN {w:World} {base:Nat} {A:Option Addr} {n c:Nat} {L:List Int} (h:Own w base A n c L):n≤c:=by
 rcases h.row.2 with ⟨h1,h2⟩ | ⟨g,cap,cur,h1,_,_,h2,_⟩
 ·omega
 ·injection h1 with _ _ e3
  omega
theorem wword_is {K:Int} {L:List Lt} {W:List Int} (h:zAp K L=0) (hW:gTo L L.length=W) {A:Option Addr} {n c:Nat} (w:World) (hA:Lets w A n L) (hc:n≤c) :
  Calls Tryz.prog 46 #[.agg #[.int .i64 K,.slice A n c]] w fun e w'=>∃A' n' c',e=.returned (.tuple #[.slice A' n' c',.int .i64 0])∧Ints w' A' n' W∧n'≤c'∧Below w.heap.size w w':=by
 refine (code_Word K A n c L w hA hc).mono ?_
 rintro e w' ⟨A',n',c',he,hO,hb⟩
 have e1:worL K L n=W:=by unfold worL;rw [if_pos h,←hA.len,hW]
 rw [h] at he
 rw [e1] at hO
 exact ⟨A',n',c',he,hO.ints,hO.capN,hb⟩
theorem weq_is {A B:Option Addr} {n m c d:Nat} {L:List Int} (w:World) (hA:Ints w A n L) (hB:Ints w B m L) :
  Calls Tryz.prog 47 #[.slice A n c,.slice B m d] w fun e w'=>e=.returned (.bool true)∧Below w.heap.size w w':=by
 refine (ref_equal A B n m c d L L w hA hB).mono ?_
 rintro e w' ⟨rfl,hd⟩
 exact ⟨by simp,hd.below _⟩
theorem wred_is {A:Option Addr} {n c:Nat} {L:List Int} {b:Bool} (h:redB L=b) (w:World) (hA:Ints w A n L) :
  Calls Tryz.prog 48 #[.slice A n c] w fun e w'=>e=.returned (.bool b)∧w'=w:=by
 subst h;exact line_reduced A n c L w hA
/-- The bytes of the two sequences, as the law compares them. -/
theorem ou_at {S:List UInt8} {i:Nat} {b:UInt8} (h:S[i]? = some b):(S.map ou)[i]? = some (ou b):=by rw [List.getElem?_map,h];rfl
theorem ou_cases (b:UInt8):(b.toNat=111∧(ou b).toNat=117)∨(b.toNat=117∧(ou b).toNat=111)∨(∃x:Nat,b.toNat=x∧(ou b).toNat=x∧x≠111∧x≠117):=by
 unfold ou
 by_cases h1:b=111
 ·subst h1;exact .inl ⟨rfl,rfl⟩
 ·by_cases h2:b=117
  ·subst h2;exact .inr (.inl ⟨rfl,rfl⟩)
  ·refine .inr (.inr ⟨b.toNat,rfl,by rw [if_neg h1,if_neg h2],fun e=>h1 (UInt8.toNat_inj.1 e),fun e=>h2 (UInt8.toNat_inj.1 e)⟩)
set_option maxRecDepth 100000 in
set_option maxHeartbeats 25600000 in
theorem zGc (A:Option Addr) (n c:Nat) (F:List Fg) (re lo:Int) (K:Int) (B:Option Addr) (m d:Nat) (L:List Lt) (w:World) (hA:Fgs w A n F) (hc:n≤c) (hB:Lets w B m L) (hd:m≤d) (ht:Tabs w) :
  Calls Tryz.prog 14 #[frV A n c re lo,.agg #[.int .i64 K,.slice B m d]] w fun e w'=>e=.returned (.bool true)∧Below w.heap.size w w':=by
 have HFL:=Lib.hid hA.len
 have HLN:=Lib.hid hB.len
 obtain ⟨cr,hcr⟩:∃c,cN L m / 2=c:=⟨_,rfl⟩
 have HCR:=Lib.hid hcr
 have HA:=Lib.hid hA
 have HL:=Lib.hid hB
 have HT:=Lib.hid ht
 have HC:=Lib.hid hc
 have HD:=Lib.hid hd
 have HB:=Lib.hid (Below.refl w.heap.size w)
 clear hcr hA hB hc ht hd
 by_cases h60:n≤60
 ·by_cases hm40:m≤40
  ·by_cases hc6:cr≤6
   ·have HS:=Lib.hid (show decide (n≤60)=true by simpa using h60)
    have k1:¬(40:Int) < (m:Int):=by omega
    have k2:¬(6:Int) < (cr:Int):=by omega
    have HM40:=Lib.hid hm40
    have HC6:=Lib.hid hc6
    obtain ⟨E,hE⟩:∃E,zBP F re lo K L=E:=⟨_,rfl⟩
    obtain ⟨S,hS⟩:∃S,sqS F re lo K L=S:=⟨_,rfl⟩
    have HE:=Lib.hid hE
    have HS1:=Lib.hid hS
    clear h60 hm40 hc6 hE hS
    go_enter Tryz.func14,Tryz.ntmps14
    have hba:Below w.heap.size w ((w.alloc (.cells #[.slice A n c,.int .i64 re,.int .i64 lo] 24)).alloc (.cells #[.int .i64 K,.slice B m d] 55)):=((Below.refl _ _).alloc (Nat.le_refl _) _).alloc (by simp) _
    replace HA:=Lib.hid (HA.out.below hba)
    replace HL:=Lib.hid (HL.out.below hba)
    replace HT:=Lib.hid (HT.out.below hba)
    replace HB:=Lib.hid (zAa HB.out hba HB.out.size)
    have kf:=(Blk.new w 24 #[.slice A n c,.int .i64 re,.int .i64 lo]).alloc (.cells #[.int .i64 K,.slice B m d] 55)
    have ks:Blk ((w.alloc (.cells #[.slice A n c,.int .i64 re,.int .i64 lo] 24)).alloc (.cells #[.int .i64 K,.slice B m d] 55)) (w.heap.size+1) 55 #[.int .i64 K,.slice B m d]:=heap_alloc2_new w _ _
    clear hba
    go_upto_region 1 with fail
    generalize (w.alloc (.cells #[.slice A n c,.int .i64 re,.int .i64 lo] 24)).alloc (.cells #[.int .i64 K,.slice B m d] 55)=X at HA HL HT HB kf ks ⊢
    have c0:X.cell? ⟨w.heap.size,0,none⟩=some (.slice A n c):=(kf.cell 0).trans rfl
    have c1:X.cell? ⟨w.heap.size,1,none⟩=some (.int .i64 re):=(kf.cell 1).trans rfl
    have c2:X.cell? ⟨w.heap.size,2,none⟩=some (.int .i64 lo):=(kf.cell 2).trans rfl
    have d0:X.cell? ⟨w.heap.size+1,0,none⟩=some (.int .i64 K):=(ks.cell 0).trans rfl
    have d1:X.cell? ⟨w.heap.size+1,1,none⟩=some (.slice B m d):=(ks.cell 1).trans rfl
    go_wp2_with fail
    refine (zFl HS.out A c re lo _).mono ?_
    rintro e u8 ⟨rfl,hb⟩
    clear c0 c1 c2 d0 d1
    replace HA:=Lib.hid (HA.out.below hb)
    replace HL:=Lib.hid (HL.out.below hb)
    replace HT:=Lib.hid (HT.out.below hb)
    replace HB:=Lib.hid (zAa HB.out hb HB.out.size)
    replace kf:=kf.below hb kf.lt
    replace ks:=ks.below hb ks.lt
    clear hb
    have c0:u8.cell? ⟨w.heap.size,0,none⟩=some (.slice A n c):=(kf.cell 0).trans rfl
    have c1:u8.cell? ⟨w.heap.size,1,none⟩=some (.int .i64 re):=(kf.cell 1).trans rfl
    have c2:u8.cell? ⟨w.heap.size,2,none⟩=some (.int .i64 lo):=(kf.cell 2).trans rfl
    have d0:u8.cell? ⟨w.heap.size+1,0,none⟩=some (.int .i64 K):=(ks.cell 0).trans rfl
    have d1:u8.cell? ⟨w.heap.size+1,1,none⟩=some (.slice B m d):=(ks.cell 1).trans rfl
    go_wp2_with fail
    refine (zFW HCR.out _ HL.out).mono ?_
    rintro e u9 ⟨rfl,hb⟩
    clear c0 c1 c2 d0 d1
    replace HA:=Lib.hid (HA.out.below hb)
    replace HL:=Lib.hid (HL.out.below hb)
    replace HT:=Lib.hid (HT.out.below hb)
    replace HB:=Lib.hid (zAa HB.out hb HB.out.size)
    replace kf:=kf.below hb kf.lt
    replace ks:=ks.below hb ks.lt
    clear hb
    have c0:u9.cell? ⟨w.heap.size,0,none⟩=some (.slice A n c):=(kf.cell 0).trans rfl
    have c1:u9.cell? ⟨w.heap.size,1,none⟩=some (.int .i64 re):=(kf.cell 1).trans rfl
    have c2:u9.cell? ⟨w.heap.size,2,none⟩=some (.int .i64 lo):=(kf.cell 2).trans rfl
    have d0:u9.cell? ⟨w.heap.size+1,0,none⟩=some (.int .i64 K):=(ks.cell 0).trans rfl
    have d1:u9.cell? ⟨w.heap.size+1,1,none⟩=some (.slice B m d):=(ks.cell 1).trans rfl
    go_wp2_with fail
    refine (nseq_is HE.out HS1.out _ HA.out HC.out HL.out HT.out).mono ?_
    rintro e u10 ⟨rfl,hb⟩
    clear c0 c1 c2 d0 d1
    replace HA:=Lib.hid (HA.out.below hb)
    replace HL:=Lib.hid (HL.out.below hb)
    replace HT:=Lib.hid (HT.out.below hb)
    replace HB:=Lib.hid (zAa HB.out hb HB.out.size)
    replace kf:=kf.below hb kf.lt
    replace ks:=ks.below hb ks.lt
    clear hb
    by_cases h0:E=0
    ·subst h0
     have hpo:=zEe.1 HE.out
     obtain ⟨Cs,hCs,-,-,hK,hq4,hall,-,-⟩:=open_facts hpo (by rw [HLN.out,HCR.out];have:=HC6.out;omega)
     have hck:=(zBz HE.out).2.2.1
     obtain ⟨N,hN⟩:∃N,(seqF F L).length=N:=⟨_,rfl⟩
     have hN4:=seq_len hpo
     rw [hN] at hN4
     obtain rfl:seqF F L=S:=by rw [←HS1.out];unfold sqS;rw [if_pos HE.out]
     obtain ⟨S,hS⟩:∃S,seqF F L=S:=⟨_,rfl⟩
     obtain ⟨T,hT⟩:∃T,S.map ou=T:=⟨_,rfl⟩
     obtain ⟨W,hW⟩:∃W,gTo L L.length=W:=⟨_,rfl⟩
     obtain ⟨rb,hrb⟩:∃b,redB W=b:=⟨_,rfl⟩
     have HRB:=Lib.hid hrb
     have HSN:=Lib.hid (show S.length=N by rw [←hS];exact hN)
     have HTT:=Lib.hid hT
     have HW:=Lib.hid hW
     have HCK:=Lib.hid hck
     have HN4:=Lib.hid hN4
     have he2:=zEe.2 (sw_posedF hpo)
     have HE2:=Lib.hid he2
     have HS2:=Lib.hid (show sqS F re lo K (zBR L)=T by unfold sqS;rw [if_pos he2,sw_seq,hS,hT])
     have HRQ:=Lib.hid (show rqR F re lo S=(Cs,0) by rw [←hS];exact hCs)
     have HQ4:=Lib.hid hq4
     have HALL:=Lib.hid (show ∀M∈Cs,zAp (n:Int) M=0∧gTo M M.length=W from fun M hM=>by
      obtain ⟨a1,a2,a3⟩:=hall M hM
      rw [HFL.out] at a1
      exact ⟨(zBz (zEe.2 a1)).2.2.1,by rw [same_word a3,hW]⟩)
     rw [hS]
     clear hpo hCs hK hq4 hall hck hN hN4 hS hT hW hrb he2 HS1
     have c0:u10.cell? ⟨w.heap.size,0,none⟩=some (.slice A n c):=(kf.cell 0).trans rfl
     have c1:u10.cell? ⟨w.heap.size,1,none⟩=some (.int .i64 re):=(kf.cell 1).trans rfl
     have c2:u10.cell? ⟨w.heap.size,2,none⟩=some (.int .i64 lo):=(kf.cell 2).trans rfl
     have d0:u10.cell? ⟨w.heap.size+1,0,none⟩=some (.int .i64 K):=(ks.cell 0).trans rfl
     have d1:u10.cell? ⟨w.heap.size+1,1,none⟩=some (.slice B m d):=(ks.cell 1).trans rfl
     go_wp2_with fail
     refine (wswap_is HCK.out _ HL.out HD.out).mono ?_
     rintro e u11 ⟨A2,m2,d2,rfl,hO,hb⟩
     clear c0 c1 c2 d0 d1
     replace HA:=Lib.hid (HA.out.below hb)
     replace HL:=Lib.hid (HL.out.below hb)
     replace HT:=Lib.hid (HT.out.below hb)
     replace HB:=Lib.hid (zAa HB.out hb HB.out.size)
     replace kf:=kf.below hb kf.lt
     replace ks:=ks.below hb ks.lt
     have HL2:=Lib.hid hO.lets
     clear hb hO
     have hba:=(Below.refl u11.heap.size u11).alloc (Nat.le_refl _) (.cells #[.int .i64 K,.slice A2 m2 d2] 55)
     obtain ⟨pb,hpb⟩:∃p,u11.heap.size=p:=⟨_,rfl⟩
     have kb:=Blk.new u11 55 #[.int .i64 K,.slice A2 m2 d2]
     go_upto_region 7 with fail
     replace HA:=Lib.hid (HA.out.below hba)
     replace HL:=Lib.hid (HL.out.below hba)
     replace HT:=Lib.hid (HT.out.below hba)
     replace HB:=Lib.hid (zAa HB.out hba HB.out.size)
     replace kf:=kf.below hba kf.lt
     replace ks:=ks.below hba ks.lt
     replace HL2:=Lib.hid (HL2.out.below hba)
     clear hba
     generalize u11.alloc (.cells #[.int .i64 K,.slice A2 m2 d2] 55)=Y at HA HL HT HB kf ks HL2 kb ⊢
     rw [hpb] at kb
     have c0:Y.cell? ⟨w.heap.size,0,none⟩=some (.slice A n c):=(kf.cell 0).trans rfl
     have c1:Y.cell? ⟨w.heap.size,1,none⟩=some (.int .i64 re):=(kf.cell 1).trans rfl
     have c2:Y.cell? ⟨w.heap.size,2,none⟩=some (.int .i64 lo):=(kf.cell 2).trans rfl
     have d0:Y.cell? ⟨w.heap.size+1,0,none⟩=some (.int .i64 K):=(ks.cell 0).trans rfl
     have d1:Y.cell? ⟨w.heap.size+1,1,none⟩=some (.slice B m d):=(ks.cell 1).trans rfl
     have e0:Y.cell? ⟨pb,0,none⟩=some (.int .i64 K):=(kb.cell 0).trans rfl
     have e1:Y.cell? ⟨pb,1,none⟩=some (.slice A2 m2 d2):=(kb.cell 1).trans rfl
     go_wp2_with fail
     refine (nseq_is HE2.out HS2.out _ HA.out HC.out HL2.out HT.out).mono ?_
     rintro e u12 ⟨rfl,hb⟩
     clear c0 c1 c2 d0 d1 e0 e1
     replace HA:=Lib.hid (HA.out.below hb)
     replace HL:=Lib.hid (HL.out.below hb)
     replace HT:=Lib.hid (HT.out.below hb)
     replace HB:=Lib.hid (zAa HB.out hb HB.out.size)
     replace kf:=kf.below hb kf.lt
     replace ks:=ks.below hb ks.lt
     replace HL2:=Lib.hid (HL2.out.below hb)
     replace kb:=kb.below hb kb.lt
     clear hb
     have hsS:=zFw S
     have hsT:=zFw T
     rw [HSN.out] at hsS
     rw [show T.length=N by rw [←HTT.out,List.length_map];exact HSN.out] at hsT
     have kN:((N:Int) != (N:Int))=false:=by simp
     go_wp2_with fail
     go_loopw [11] (fun v11 wr=>∃i:Nat,i≤N∧v11=.int .i64 i∧Below u12.heap.size u12 wr) (fun v11 _=>N-(intOf v11).toNat)
     case atStart=>exact ⟨0,Nat.zero_le _,rfl,Below.refl _ _⟩
     case round =>
      obtain ⟨i,hi,rfl,hbr⟩:=hrel
      have HBR:=Lib.hid hbr
      have hN9:N≤4000:=HN4.out
      replace HA:=Lib.hid (HA.out.below hbr)
      replace HL:=Lib.hid (HL.out.below hbr)
      replace HT:=Lib.hid (HT.out.below hbr)
      replace HB:=Lib.hid (zAa HB.out hbr HB.out.size)
      replace kf:=kf.below hbr kf.lt
      replace ks:=ks.below hbr ks.lt
      replace HL2:=Lib.hid (HL2.out.below hbr)
      replace kb:=kb.below hbr kb.lt
      clear hbr
      by_cases hlt:i < N
      ·have j0:(0:Int)≤(i:Int):=by omega
       have j1:(i:Int) < (N:Int):=by omega
       obtain ⟨b,hb1⟩:∃b,S[i]? = some b:=⟨_,List.getElem?_eq_getElem (by rw [HSN.out];exact hlt)⟩
       have i1:=str_at hb1
       have i2:=str_at (show T[i]? = some (ou b) by rw [←HTT.out];exact ou_at hb1)
       have hocs:=ou_cases b
       have hi8:i+1≤N:=hlt
       have e1:=HBR.out
       clear hb1
       rcases hocs with ⟨a1,a2⟩ | ⟨a1,a2⟩ | ⟨x,a1,a2,a3,a4⟩
       ·rw [a1] at i1
        rw [a2] at i2
        clear a1 a2
        go_upto_region 13 with fail
        go_cut [114] (fun v wv=>v=.bool false∧∃U:World,U=wv∧Below wr.heap.size wr U)
        case first =>
         go_quiet (fail)
         go_wp2_with fail
         go_meet
         case rel=>exact ⟨rfl,_,rfl,zAe (Below.refl _ _) _⟩
        case rest =>
         obtain ⟨rfl,U,hU,hb⟩:=hcut
         subst hU
         have hb2:=zAa HBR.out hb HBR.out.size
         clear e1
         go_wp2_with fail
         go_roundw
         case rel=>exact ⟨i+1,hi8,by go_num,hb2⟩
         case measure=>simp [intOf];omega
       ·rw [a1] at i1
        rw [a2] at i2
        clear a1 a2
        go_upto_region 13 with fail
        go_cut [114] (fun v wv=>v=.bool false∧∃U:World,U=wv∧Below wr.heap.size wr U)
        case first =>
         go_quiet (fail)
         go_wp2_with fail
         go_meet
         case rel=>exact ⟨rfl,_,rfl,zAe (Below.refl _ _) _⟩
        case rest =>
         obtain ⟨rfl,U,hU,hb⟩:=hcut
         subst hU
         have hb2:=zAa HBR.out hb HBR.out.size
         clear e1
         go_wp2_with fail
         go_roundw
         case rel=>exact ⟨i+1,hi8,by go_num,hb2⟩
         case measure=>simp [intOf];omega
       ·have q1:((x:Int)==111)=false:=by simp;omega
        have q2:((x:Int) != 111)=true:=by simp;omega
        have q3:((x:Int)==117)=false:=by simp;omega
        have q4:((x:Int) != 117)=true:=by simp;omega
        have q5:((x:Int) != (x:Int))=false:=by simp
        clear a3 a4
        rw [a1] at i1
        rw [a2] at i2
        clear a1 a2
        go_upto_region 13 with fail
        go_cut [114] (fun v wv=>v=.bool false∧∃U:World,U=wv∧Below wr.heap.size wr U)
        case first =>
         go_quiet (fail)
         go_wp2_with fail
         go_meet
         case rel=>exact ⟨rfl,_,rfl,zAe (Below.refl _ _) _⟩
        case rest =>
         obtain ⟨rfl,U,hU,hb⟩:=hcut
         subst hU
         have hb2:=zAa HBR.out hb HBR.out.size
         clear e1
         go_wp2_with fail
         go_roundw
         case rel=>exact ⟨i+1,hi8,by go_num,hb2⟩
         case measure=>simp [intOf];omega
      ·have j1:¬(i:Int) < (N:Int):=by omega
       have c0:wr.cell? ⟨w.heap.size,0,none⟩=some (.slice A n c):=(kf.cell 0).trans rfl
       have c1:wr.cell? ⟨w.heap.size,1,none⟩=some (.int .i64 re):=(kf.cell 1).trans rfl
       have c2:wr.cell? ⟨w.heap.size,2,none⟩=some (.int .i64 lo):=(kf.cell 2).trans rfl
       have d0:wr.cell? ⟨w.heap.size+1,0,none⟩=some (.int .i64 K):=(ks.cell 0).trans rfl
       have d1:wr.cell? ⟨w.heap.size+1,1,none⟩=some (.slice B m d):=(ks.cell 1).trans rfl
       go_wp2_with fail
       refine (wword_is HCK.out HW.out _ HL.out HD.out).mono ?_
       rintro e u13 ⟨A3,m3,d3,rfl,hI,hI2,hb⟩
       clear c0 c1 c2 d0 d1
       replace HA:=Lib.hid (HA.out.below hb)
       replace HL:=Lib.hid (HL.out.below hb)
       replace HT:=Lib.hid (HT.out.below hb)
       replace HB:=Lib.hid (zAa HB.out hb HB.out.size)
       replace kf:=kf.below hb kf.lt
       replace ks:=ks.below hb ks.lt
       replace HL2:=Lib.hid (HL2.out.below hb)
       replace kb:=kb.below hb kb.lt
       have HI:=Lib.hid hI
       clear hI hI2 hb
       have c0:u13.cell? ⟨w.heap.size,0,none⟩=some (.slice A n c):=(kf.cell 0).trans rfl
       have c1:u13.cell? ⟨w.heap.size,1,none⟩=some (.int .i64 re):=(kf.cell 1).trans rfl
       have c2:u13.cell? ⟨w.heap.size,2,none⟩=some (.int .i64 lo):=(kf.cell 2).trans rfl
       have d0:u13.cell? ⟨w.heap.size+1,0,none⟩=some (.int .i64 K):=(ks.cell 0).trans rfl
       have d1:u13.cell? ⟨w.heap.size+1,1,none⟩=some (.slice B m d):=(ks.cell 1).trans rfl
       go_wp2_with fail
       refine (nrseq_is HRQ.out _ HA.out HC.out HT.out).mono ?_
       rintro e u14 ⟨C5,m5,d5,Es,rfl,hEs,hm5,hO5,hb⟩
       clear c0 c1 c2 d0 d1
       replace HA:=Lib.hid (HA.out.below hb)
       replace HL:=Lib.hid (HL.out.below hb)
       replace HT:=Lib.hid (HT.out.below hb)
       replace HB:=Lib.hid (zAa HB.out hb HB.out.size)
       replace kf:=kf.below hb kf.lt
       replace ks:=ks.below hb ks.lt
       replace HL2:=Lib.hid (HL2.out.below hb)
       replace kb:=kb.below hb kb.lt
       replace HI:=Lib.hid (HI.out.below hb)
       have HO5:=Lib.hid hO5
       have HES:=Lib.hid hEs
       have HM5:=Lib.hid hm5
       clear hO5 hEs hm5 hb
       go_wp2_with fail
       go_loopw [15] (fun v15 wr=>∃i:Nat,i≤m5∧v15=.int .i64 i∧Below u14.heap.size u14 wr) (fun v15 _=>m5-(intOf v15).toNat)
       case atStart=>exact ⟨0,Nat.zero_le _,rfl,Below.refl _ _⟩
       case round =>
        obtain ⟨k,hk,rfl,hbr⟩:=hrel
        have HBK:=Lib.hid hbr
        have hM9:m5≤1000000:=HM5.out
        replace HA:=Lib.hid (HA.out.below hbr)
        replace HL:=Lib.hid (HL.out.below hbr)
        replace HT:=Lib.hid (HT.out.below hbr)
        replace HB:=Lib.hid (zAa HB.out hbr HB.out.size)
        replace kf:=kf.below hbr kf.lt
        replace ks:=ks.below hbr ks.lt
        replace HL2:=Lib.hid (HL2.out.below hbr)
        replace kb:=kb.below hbr kb.lt
        replace HI:=Lib.hid (HI.out.below hbr)
        replace HO5:=Lib.hid (HO5.out.below hbr)
        clear hbr
        by_cases hkt:k < m5
        ·have j2:(0:Int)≤(k:Int):=by omega
         have j3:(k:Int) < (m5:Int):=by omega
         have hiE:k < Es.length:=by rw [HO5.out.len];exact hkt
         obtain ⟨e,he⟩:∃e,Es[k]? = some e:=⟨_,List.getElem?_eq_getElem hiE⟩
         have hec:=HO5.out.cap e (List.mem_of_getElem? he)
         obtain ⟨g,o,rfl,hg,y0,y1,hM⟩:=code_at HO5.out he
         have hal:=HALL.out e.L (by rw [←HES.out];exact List.mem_map_of_mem (List.mem_of_getElem? he))
         obtain ⟨M,eA,en,ec⟩:=e
         simp only at y0 y1 hM hal hec
         have hi8:k+1≤m5:=hkt
         clear hiE he hg
         go_wp2_with fail
         refine (wword_is hal.1 hal.2 _ hM hec).mono ?_
         rintro e u15 ⟨A6,m6,d6,rfl,hJ,hJ2,hb⟩
         clear y0 y1 hM hal hec
         replace HA:=Lib.hid (HA.out.below hb)
         replace HL:=Lib.hid (HL.out.below hb)
         replace HT:=Lib.hid (HT.out.below hb)
         replace HB:=Lib.hid (zAa HB.out hb HB.out.size)
         replace kf:=kf.below hb kf.lt
         replace ks:=ks.below hb ks.lt
         replace HL2:=Lib.hid (HL2.out.below hb)
         replace kb:=kb.below hb kb.lt
         replace HI:=Lib.hid (HI.out.below hb)
         replace HO5:=Lib.hid (HO5.out.below hb)
         have HJ:=Lib.hid hJ
         have HB4:=Lib.hid (zAa HBK.out hb HBK.out.size)
         clear hJ hJ2 hb
         have kR:(rb != rb)=false:=by simp
         go_wp2_with fail
         refine (weq_is _ HJ.out HI.out).mono ?_
         rintro e u16 ⟨rfl,hb⟩
         replace HA:=Lib.hid (HA.out.below hb)
         replace HL:=Lib.hid (HL.out.below hb)
         replace HT:=Lib.hid (HT.out.below hb)
         replace HB:=Lib.hid (zAa HB.out hb HB.out.size)
         replace kf:=kf.below hb kf.lt
         replace ks:=ks.below hb ks.lt
         replace HL2:=Lib.hid (HL2.out.below hb)
         replace kb:=kb.below hb kb.lt
         replace HI:=Lib.hid (HI.out.below hb)
         replace HO5:=Lib.hid (HO5.out.below hb)
         replace HB4:=Lib.hid (zAa HB4.out hb HB4.out.size)
         replace HJ:=Lib.hid (HJ.out.below hb)
         clear hb
         go_wp2_with fail
         refine (wred_is HRB.out _ HJ.out).mono ?_
         rintro e u17 ⟨rfl,hwz⟩
         rw [hwz]
         clear hwz u17
         go_wp2_with fail
         refine (wred_is HRB.out _ HI.out).mono ?_
         rintro e u18 ⟨rfl,hwz⟩
         rw [hwz]
         clear hwz u18
         go_wp2_with fail
         go_roundw
         case rel=>exact ⟨k+1,hi8,by go_num,HB4.out⟩
         case measure=>simp [intOf];omega
        ·have j3:¬(k:Int) < (m5:Int):=by omega
         go_wp2_with fail
         refine (zDU _ HT.out).mono ?_
         rintro e u19 ⟨rfl,hb⟩
         replace HA:=Lib.hid (HA.out.below hb)
         replace HL:=Lib.hid (HL.out.below hb)
         replace HT:=Lib.hid (HT.out.below hb)
         replace HB:=Lib.hid (zAa HB.out hb HB.out.size)
         replace kf:=kf.below hb kf.lt
         replace ks:=ks.below hb ks.lt
         replace HL2:=Lib.hid (HL2.out.below hb)
         replace kb:=kb.below hb kb.lt
         replace HI:=Lib.hid (HI.out.below hb)
         replace HO5:=Lib.hid (HO5.out.below hb)
         clear hb
         go_wp2_with fail
         go_ret
         exact ⟨rfl,HB.out⟩
    ·have k3:(E != 0)=true:=by simpa using h0
     clear h0
     go_wp2_with fail
     refine (zDU _ HT.out).mono ?_
     rintro e u20 ⟨rfl,hb⟩
     replace HA:=Lib.hid (HA.out.below hb)
     replace HL:=Lib.hid (HL.out.below hb)
     replace HT:=Lib.hid (HT.out.below hb)
     replace HB:=Lib.hid (zAa HB.out hb HB.out.size)
     replace kf:=kf.below hb kf.lt
     replace ks:=ks.below hb ks.lt
     clear hb
     go_wp2_with fail
     go_ret
     exact ⟨rfl,HB.out⟩
   ·have HS:=Lib.hid (show decide (n≤60)=true by simpa using h60)
    have k1:¬(40:Int) < (m:Int):=by omega
    have k2:(6:Int) < (cr:Int):=by omega
    clear h60 hm40 hc6
    go_enter Tryz.func14,Tryz.ntmps14
    have hba:Below w.heap.size w ((w.alloc (.cells #[.slice A n c,.int .i64 re,.int .i64 lo] 24)).alloc (.cells #[.int .i64 K,.slice B m d] 55)):=((Below.refl _ _).alloc (Nat.le_refl _) _).alloc (by simp) _
    replace HA:=Lib.hid (HA.out.below hba)
    replace HL:=Lib.hid (HL.out.below hba)
    replace HT:=Lib.hid (HT.out.below hba)
    replace HB:=Lib.hid (zAa HB.out hba HB.out.size)
    have kf:=(Blk.new w 24 #[.slice A n c,.int .i64 re,.int .i64 lo]).alloc (.cells #[.int .i64 K,.slice B m d] 55)
    have ks:Blk ((w.alloc (.cells #[.slice A n c,.int .i64 re,.int .i64 lo] 24)).alloc (.cells #[.int .i64 K,.slice B m d] 55)) (w.heap.size+1) 55 #[.int .i64 K,.slice B m d]:=heap_alloc2_new w _ _
    clear hba
    go_upto_region 1 with fail
    generalize (w.alloc (.cells #[.slice A n c,.int .i64 re,.int .i64 lo] 24)).alloc (.cells #[.int .i64 K,.slice B m d] 55)=X at HA HL HT HB kf ks ⊢
    have c0:X.cell? ⟨w.heap.size,0,none⟩=some (.slice A n c):=(kf.cell 0).trans rfl
    have c1:X.cell? ⟨w.heap.size,1,none⟩=some (.int .i64 re):=(kf.cell 1).trans rfl
    have c2:X.cell? ⟨w.heap.size,2,none⟩=some (.int .i64 lo):=(kf.cell 2).trans rfl
    have d0:X.cell? ⟨w.heap.size+1,0,none⟩=some (.int .i64 K):=(ks.cell 0).trans rfl
    have d1:X.cell? ⟨w.heap.size+1,1,none⟩=some (.slice B m d):=(ks.cell 1).trans rfl
    go_wp2_with fail
    refine (zFl HS.out A c re lo _).mono ?_
    rintro e u5 ⟨rfl,hb⟩
    clear c0 c1 c2 d0 d1
    replace HA:=Lib.hid (HA.out.below hb)
    replace HL:=Lib.hid (HL.out.below hb)
    replace HT:=Lib.hid (HT.out.below hb)
    replace HB:=Lib.hid (zAa HB.out hb HB.out.size)
    replace kf:=kf.below hb kf.lt
    replace ks:=ks.below hb ks.lt
    clear hb
    have c0:u5.cell? ⟨w.heap.size,0,none⟩=some (.slice A n c):=(kf.cell 0).trans rfl
    have c1:u5.cell? ⟨w.heap.size,1,none⟩=some (.int .i64 re):=(kf.cell 1).trans rfl
    have c2:u5.cell? ⟨w.heap.size,2,none⟩=some (.int .i64 lo):=(kf.cell 2).trans rfl
    have d0:u5.cell? ⟨w.heap.size+1,0,none⟩=some (.int .i64 K):=(ks.cell 0).trans rfl
    have d1:u5.cell? ⟨w.heap.size+1,1,none⟩=some (.slice B m d):=(ks.cell 1).trans rfl
    go_wp2_with fail
    refine (zFW HCR.out _ HL.out).mono ?_
    rintro e u6 ⟨rfl,hb⟩
    clear c0 c1 c2 d0 d1
    replace HA:=Lib.hid (HA.out.below hb)
    replace HL:=Lib.hid (HL.out.below hb)
    replace HT:=Lib.hid (HT.out.below hb)
    replace HB:=Lib.hid (zAa HB.out hb HB.out.size)
    replace kf:=kf.below hb kf.lt
    replace ks:=ks.below hb ks.lt
    clear hb
    go_wp2_with fail
    refine (zDU _ HT.out).mono ?_
    rintro e u7 ⟨rfl,hb⟩
    replace HA:=Lib.hid (HA.out.below hb)
    replace HL:=Lib.hid (HL.out.below hb)
    replace HT:=Lib.hid (HT.out.below hb)
    replace HB:=Lib.hid (zAa HB.out hb HB.out.size)
    replace kf:=kf.below hb kf.lt
    replace ks:=ks.below hb ks.lt
    clear hb
    go_wp2_with fail
    go_ret
    exact ⟨rfl,HB.out⟩
  ·have HS:=Lib.hid (show decide (n≤60)=true by simpa using h60)
   have k1:(40:Int) < (m:Int):=by omega
   clear h60 hm40
   go_enter Tryz.func14,Tryz.ntmps14
   have hba:Below w.heap.size w ((w.alloc (.cells #[.slice A n c,.int .i64 re,.int .i64 lo] 24)).alloc (.cells #[.int .i64 K,.slice B m d] 55)):=((Below.refl _ _).alloc (Nat.le_refl _) _).alloc (by simp) _
   replace HA:=Lib.hid (HA.out.below hba)
   replace HL:=Lib.hid (HL.out.below hba)
   replace HT:=Lib.hid (HT.out.below hba)
   replace HB:=Lib.hid (zAa HB.out hba HB.out.size)
   have kf:=(Blk.new w 24 #[.slice A n c,.int .i64 re,.int .i64 lo]).alloc (.cells #[.int .i64 K,.slice B m d] 55)
   have ks:Blk ((w.alloc (.cells #[.slice A n c,.int .i64 re,.int .i64 lo] 24)).alloc (.cells #[.int .i64 K,.slice B m d] 55)) (w.heap.size+1) 55 #[.int .i64 K,.slice B m d]:=heap_alloc2_new w _ _
   clear hba
   go_upto_region 1 with fail
   generalize (w.alloc (.cells #[.slice A n c,.int .i64 re,.int .i64 lo] 24)).alloc (.cells #[.int .i64 K,.slice B m d] 55)=X at HA HL HT HB kf ks ⊢
   have c0:X.cell? ⟨w.heap.size,0,none⟩=some (.slice A n c):=(kf.cell 0).trans rfl
   have c1:X.cell? ⟨w.heap.size,1,none⟩=some (.int .i64 re):=(kf.cell 1).trans rfl
   have c2:X.cell? ⟨w.heap.size,2,none⟩=some (.int .i64 lo):=(kf.cell 2).trans rfl
   have d0:X.cell? ⟨w.heap.size+1,0,none⟩=some (.int .i64 K):=(ks.cell 0).trans rfl
   have d1:X.cell? ⟨w.heap.size+1,1,none⟩=some (.slice B m d):=(ks.cell 1).trans rfl
   go_wp2_with fail
   refine (zFl HS.out A c re lo _).mono ?_
   rintro e u3 ⟨rfl,hb⟩
   clear c0 c1 c2 d0 d1
   replace HA:=Lib.hid (HA.out.below hb)
   replace HL:=Lib.hid (HL.out.below hb)
   replace HT:=Lib.hid (HT.out.below hb)
   replace HB:=Lib.hid (zAa HB.out hb HB.out.size)
   replace kf:=kf.below hb kf.lt
   replace ks:=ks.below hb ks.lt
   clear hb
   have c0:u3.cell? ⟨w.heap.size,0,none⟩=some (.slice A n c):=(kf.cell 0).trans rfl
   have c1:u3.cell? ⟨w.heap.size,1,none⟩=some (.int .i64 re):=(kf.cell 1).trans rfl
   have c2:u3.cell? ⟨w.heap.size,2,none⟩=some (.int .i64 lo):=(kf.cell 2).trans rfl
   have d0:u3.cell? ⟨w.heap.size+1,0,none⟩=some (.int .i64 K):=(ks.cell 0).trans rfl
   have d1:u3.cell? ⟨w.heap.size+1,1,none⟩=some (.slice B m d):=(ks.cell 1).trans rfl
   go_wp2_with fail
   refine (zDU _ HT.out).mono ?_
   rintro e u4 ⟨rfl,hb⟩
   clear c0 c1 c2 d0 d1
   replace HA:=Lib.hid (HA.out.below hb)
   replace HL:=Lib.hid (HL.out.below hb)
   replace HT:=Lib.hid (HT.out.below hb)
   replace HB:=Lib.hid (zAa HB.out hb HB.out.size)
   replace kf:=kf.below hb kf.lt
   replace ks:=ks.below hb ks.lt
   clear hb
   go_wp2_with fail
   go_ret
   exact ⟨rfl,HB.out⟩
 ·have HS:=Lib.hid (show decide (n≤60)=false by simpa using h60)
  clear h60
  go_enter Tryz.func14,Tryz.ntmps14
  have hba:Below w.heap.size w ((w.alloc (.cells #[.slice A n c,.int .i64 re,.int .i64 lo] 24)).alloc (.cells #[.int .i64 K,.slice B m d] 55)):=((Below.refl _ _).alloc (Nat.le_refl _) _).alloc (by simp) _
  replace HA:=Lib.hid (HA.out.below hba)
  replace HL:=Lib.hid (HL.out.below hba)
  replace HT:=Lib.hid (HT.out.below hba)
  replace HB:=Lib.hid (zAa HB.out hba HB.out.size)
  have kf:=(Blk.new w 24 #[.slice A n c,.int .i64 re,.int .i64 lo]).alloc (.cells #[.int .i64 K,.slice B m d] 55)
  have ks:Blk ((w.alloc (.cells #[.slice A n c,.int .i64 re,.int .i64 lo] 24)).alloc (.cells #[.int .i64 K,.slice B m d] 55)) (w.heap.size+1) 55 #[.int .i64 K,.slice B m d]:=heap_alloc2_new w _ _
  clear hba
  go_upto_region 1 with fail
  generalize (w.alloc (.cells #[.slice A n c,.int .i64 re,.int .i64 lo] 24)).alloc (.cells #[.int .i64 K,.slice B m d] 55)=X at HA HL HT HB kf ks ⊢
  have c0:X.cell? ⟨w.heap.size,0,none⟩=some (.slice A n c):=(kf.cell 0).trans rfl
  have c1:X.cell? ⟨w.heap.size,1,none⟩=some (.int .i64 re):=(kf.cell 1).trans rfl
  have c2:X.cell? ⟨w.heap.size,2,none⟩=some (.int .i64 lo):=(kf.cell 2).trans rfl
  have d0:X.cell? ⟨w.heap.size+1,0,none⟩=some (.int .i64 K):=(ks.cell 0).trans rfl
  have d1:X.cell? ⟨w.heap.size+1,1,none⟩=some (.slice B m d):=(ks.cell 1).trans rfl
  go_wp2_with fail
  refine (zFl HS.out A c re lo _).mono ?_
  rintro e u1 ⟨rfl,hb⟩
  clear c0 c1 c2 d0 d1
  replace HA:=Lib.hid (HA.out.below hb)
  replace HL:=Lib.hid (HL.out.below hb)
  replace HT:=Lib.hid (HT.out.below hb)
  replace HB:=Lib.hid (zAa HB.out hb HB.out.size)
  replace kf:=kf.below hb kf.lt
  replace ks:=ks.below hb ks.lt
  clear hb
  go_wp2_with fail
  refine (zDU _ HT.out).mono ?_
  rintro e u2 ⟨rfl,hb⟩
  replace HA:=Lib.hid (HA.out.below hb)
  replace HL:=Lib.hid (HL.out.below hb)
  replace HT:=Lib.hid (HT.out.below hb)
  replace HB:=Lib.hid (zAa HB.out hb HB.out.size)
  replace kf:=kf.below hb kf.lt
  replace ks:=ks.below hb ks.lt
  clear hb
  go_wp2_with fail
  go_ret
  exact ⟨rfl,HB.out⟩
end Go.Proofs.YtlmdfmnbcndhoaaGreatDoor
namespace Go.Proofs.YtlmdfmnbcndhoaaGreatDoor
open Go.ChangeShapes Go.WideShapes Go.ChangeAt Go.WideElems Go.RowKit
section
variable {H:Type} {enc:TypeId×Value→H} {P:Program}
theorem zFm (hl:laidOutB P=true) {W W':World} {sp':Nat→Bool} (hb:Below W.heap.size W W'):∀(ts:List TypeId) (vs:List Value) (ds:List (DataW H)) (ps:List MemPlace),
  (∀t∈ts,P.readableRec t=true∧t < P.types.size)→DataW.TrodAll enc P W 0 (fun _=>true) true ts vs ds ps→(∀p∈ps,p.block < W.heap.size)→(∀p∈ps,sp' p.block=true)→DataW.TrodAll enc P W' 0 sp' true ts vs ds ps
 | [],[],[],_,_,h,_,_=>h
 | [],[],_ :: _,_,_,h,_,_=>h.elim
 | [],_ :: _,_,_,_,h,_,_=>h.elim
 | _ :: _,[],_,_,_,h,_,_=>h.elim
 | _ :: _,_ :: _,[],_,_,h,_,_=>h.elim
 | t :: ts,v :: vs,d :: ds,ps,ht,h,hlt,hsp=>by
  obtain ⟨p,q,h1,h2,rfl⟩:=h
  refine ⟨p,q,?_,?_,rfl⟩
  ·exact Trod_stays hl (ht t (by simp)).1 (ht t (by simp)).2 h1 (fun x hx=>hb.same (hlt x (by simp [hx]))) (fun x hx=>hsp x (by simp [hx]))
  ·exact zFm hl hb ts vs ds q (fun t' h'=>ht t' (by simp [h'])) h2 (fun x hx=>hlt x (by simp [hx])) (fun x hx=>hsp x (by simp [hx]))
/-- The call returns a truth value and only makes new memory: what its specification's law says of results and arguments is all. -/
theorem post_of_below {f:Func} {s:ChangeSpec} {apart fresh handsOn again:Bool} {W W':World} {args:Array Value} {v:Value} {ds:List (DataW H)} {before:List MemPlace} (hl:laidOutB P=true) (hb:Below W.heap.size W W')
  (hvs:s.vars=[]) (hfn:(s.fn H ds).args=ds) (hfv:(s.fn H ds).vars=[])
  (hts:∀t∈f.params.toList,P.readableRec t=true∧t < P.types.size)
  (hW:DataW.Whole enc P f.params.toList s.vars apart W args.toList ds [] before)
  (hres:∀(b:Nat) (sp:Nat→Bool) (hd:Bool),DataW.TrodAll enc P W' b sp hd f.resultTypes.toList (v.resultList f.resultTypes.size) (s.fn H ds).results [])
  (hok:∀(j:Nat) (t:TypeId) (r:Value),f.resultTypes[j]? = some t→(v.resultList f.resultTypes.size)[j]? = some r→Value.okWide P W' .any 0 t r) :
  s.post enc P f apart fresh handsOn again W args v W':=by
 have hlt:=hW.lt
 have hW2:=hW
 obtain ⟨pa,pv,hA,hV,rfl,hz,hn⟩:=hW2
 rw [hvs] at hV
 obtain rfl:pv=[]:=hV
 simp only [List.append_nil] at *
 have args_:∀sp:Nat→Bool,(∀p∈pa,sp p.block=true)→DataW.TrodAll enc P W' 0 sp true f.params.toList args.toList (s.fn H (ds++[])).args pa:=fun sp hsp=>by
  rw [List.append_nil,hfn]
  exact zFm hl hb _ _ _ _ hts hA hlt hsp
 have vars_:∀sp:Nat→Bool,DataW.TrodVars enc P W' sp s.vars (s.fn H (ds++[])).vars []:=fun sp=>by
  rw [List.append_nil,hfv,hvs]
  rfl
 refine ⟨ds,[],pa,[],pa,[],hW,by rw [List.append_nil];exact hres _ _ _,args_ _ (fun p hp=>by simpa using hlt p hp),vars_ _,hb.frame _,fun _=>?_⟩
 refine ⟨hok,_,_,([]++pa)++[],⟨[]++pa,[],trodAll_append (args_ _ (fun _ _=>rfl)) (hres _ _ _),vars_ _,rfl,?_,?_⟩,?_⟩
 ·intro b off hp
  have hp':MemPlace.cell b off∈pa:=by simpa using hp
  rw [hb.frozen (p:=⟨b,off,none⟩) (hlt _ hp')]
  exact hz b off hp'
 ·intro ha
  simpa using hn ha
 ·intro p hp _
  simpa using hp
end
end Go.Proofs.YtlmdfmnbcndhoaaGreatDoor
