/-
  Contract: the program's Signless. Conditions: the frame and the code's letters read.
  NotesBack returns true. Conditions: the frame and the operations read; the library's tables stand.
-/
import Derived.Test.YtlmdfmnbcndhoaaGreatDoorOn42
import Derived.Test.YtlmdfmnbcndhoaaGreatDoorOn43
import Derived.Test.YtlmdfmnbcndhoaaGreatDoorOn01
import Derived.Test.YtlmdfmnbcndhoaaGreatDoorOn25
import Derived.Test.YtlmdfmnbcndhoaaGreatDoorOn40
namespace Go.Proofs.YtlmdfmnbcndhoaaGreatDoor
open Go.RowKit
def slE (F:List Fg) (re lo K:Int) (L:List Lt):Int:=if posedE F re lo K L≠0 then posedE F re lo K L else if 12 < cN L L.length / 2 then 7 else 0
def slN (F:List Fg) (re lo K:Int) (L:List Lt):Nat:=if slE F re lo K L≠0 then 0 else if L.length=0 then 1 else (codesTo F re lo (cN L L.length / 2) L (2 ^ (cN L L.length / 2))).length
theorem crossings_is {K:Int} {A:Option Addr} {n c:Nat} {L:List Lt} {x:Nat} (h:cN L n / 2=x) (w:World) (hA:Lets w A n L) :
  Calls Tryz.prog 43 #[.agg #[.int .i64 K,.slice A n c]] w fun e w'=>e=.returned (.int .i64 (x:Int))∧Below w.heap.size w w':=by
 subst h;exact code_Crossings K A n c L w hA
set_option maxRecDepth 100000 in
set_option maxHeartbeats 12800000 in
theorem notes_Signless (A:Option Addr) (n c:Nat) (F:List Fg) (re lo K:Int) (B:Option Addr) (m d:Nat) (L:List Lt) (w:World) (hA:Fgs w A n F) (hc:n≤c) (hB:Lets w B m L) :
  Calls Tryz.prog 44 #[frV A n c re lo,.agg #[.int .i64 K,.slice B m d]] w fun e w'=>e=.returned (.tuple #[.int .i64 (slN F re lo K L:Int),.int .i64 (slE F re lo K L)])∧Below w.heap.size w w':=by
 have HFL:=Lib.hid hA.len
 have HLN:=Lib.hid hB.len
 have hmle:=hB.le
 obtain ⟨E,hE⟩:∃E,posedE F re lo K L=E:=⟨_,rfl⟩
 obtain ⟨cr,hcr⟩:∃c,cN L m / 2=c:=⟨_,rfl⟩
 obtain ⟨N1,hN1⟩:∃N,slN F re lo K L=N:=⟨_,rfl⟩
 obtain ⟨E1,hE1⟩:∃E,slE F re lo K L=E:=⟨_,rfl⟩
 rw [hN1,hE1]
 have HE:=Lib.hid hE
 have HCR:=Lib.hid hcr
 have HE1:=Lib.hid (show E1=if E≠0 then E else if 12 < cr then 7 else 0 by rw [←hE1,←hcr,←hE,←hB.len];rfl)
 have HN1:=Lib.hid (show N1=if E1≠0 then 0 else if m=0 then 1 else (codesTo F re lo cr L (2 ^ cr)).length by rw [←hN1,←hE1,←hcr,←hB.len];rfl)
 have HA:=Lib.hid hA
 have HL:=Lib.hid hB
 have HC:=Lib.hid hc
 have HB:=Lib.hid (Below.refl w.heap.size w)
 clear hE hcr hN1 hE1 hA hB hc
 go_enter Tryz.func44,Tryz.ntmps44
 have hba:Below w.heap.size w ((w.alloc (.cells #[.slice A n c,.int .i64 re,.int .i64 lo] 24)).alloc (.cells #[.int .i64 K,.slice B m d] 55)):=((Below.refl _ _).alloc (Nat.le_refl _) _).alloc (by simp) _
 replace HA:=Lib.hid (HA.out.below hba)
 replace HL:=Lib.hid (HL.out.below hba)
 replace HB:=Lib.hid (below_chain HB.out hba HB.out.size)
 have kf:=(Blk.new w 24 #[.slice A n c,.int .i64 re,.int .i64 lo]).alloc (.cells #[.int .i64 K,.slice B m d] 55)
 have ks:Blk ((w.alloc (.cells #[.slice A n c,.int .i64 re,.int .i64 lo] 24)).alloc (.cells #[.int .i64 K,.slice B m d] 55)) (w.heap.size+1) 55 #[.int .i64 K,.slice B m d]:=heap_alloc2_new w _ _
 clear hba
 go_upto_region 1 with fail
 generalize (w.alloc (.cells #[.slice A n c,.int .i64 re,.int .i64 lo] 24)).alloc (.cells #[.int .i64 K,.slice B m d] 55)=X at HA HL HB kf ks ⊢
 have c0:X.cell? ⟨w.heap.size,0,none⟩=some (.slice A n c):=(kf.cell 0).trans rfl
 have c1:X.cell? ⟨w.heap.size,1,none⟩=some (.int .i64 re):=(kf.cell 1).trans rfl
 have c2:X.cell? ⟨w.heap.size,2,none⟩=some (.int .i64 lo):=(kf.cell 2).trans rfl
 have d0:X.cell? ⟨w.heap.size+1,0,none⟩=some (.int .i64 K):=(ks.cell 0).trans rfl
 have d1:X.cell? ⟨w.heap.size+1,1,none⟩=some (.slice B m d):=(ks.cell 1).trans rfl
 go_wp2_with fail
 refine (notesPosed_is HE.out _ HA.out HC.out HL.out).mono ?_
 rintro e u1 ⟨rfl,hb⟩
 clear c0 c1 c2 d0 d1
 replace HA:=Lib.hid (HA.out.below hb)
 replace HL:=Lib.hid (HL.out.below hb)
 replace HB:=Lib.hid (below_chain HB.out hb HB.out.size)
 replace kf:=kf.below hb kf.lt
 replace ks:=ks.below hb ks.lt
 clear hb
 by_cases h0:E=0
 ·subst h0
  have c0:u1.cell? ⟨w.heap.size,0,none⟩=some (.slice A n c):=(kf.cell 0).trans rfl
  have c1:u1.cell? ⟨w.heap.size,1,none⟩=some (.int .i64 re):=(kf.cell 1).trans rfl
  have c2:u1.cell? ⟨w.heap.size,2,none⟩=some (.int .i64 lo):=(kf.cell 2).trans rfl
  have d0:u1.cell? ⟨w.heap.size+1,0,none⟩=some (.int .i64 K):=(ks.cell 0).trans rfl
  have d1:u1.cell? ⟨w.heap.size+1,1,none⟩=some (.slice B m d):=(ks.cell 1).trans rfl
  go_wp2_with fail
  refine (crossings_is HCR.out _ HL.out).mono ?_
  rintro e u2 ⟨rfl,hb⟩
  clear c0 c1 c2 d0 d1
  replace HA:=Lib.hid (HA.out.below hb)
  replace HL:=Lib.hid (HL.out.below hb)
  replace HB:=Lib.hid (below_chain HB.out hb HB.out.size)
  replace kf:=kf.below hb kf.lt
  replace ks:=ks.below hb ks.lt
  clear hb
  by_cases hcr:12 < cr
  ·have k1:(12:Int) < (cr:Int):=by omega
   have hE7:E1=7:=by rw [HE1.out,if_neg (by simp),if_pos hcr]
   subst hE7
   have hN0:N1=0:=by rw [HN1.out,if_pos (by decide)]
   subst hN0
   clear hcr HE1 HN1
   go_wp2_with fail
   go_ret2
   exact ⟨rfl,HB.out⟩
  ·have k1:¬(12:Int) < (cr:Int):=by omega
   have hE0:E1=0:=by rw [HE1.out,if_neg (by simp),if_neg hcr]
   subst hE0
   have HN2:=Lib.hid (show N1=if m=0 then 1 else (codesTo F re lo cr L (2 ^ cr)).length by rw [HN1.out,if_neg (by decide)])
   clear HE1 HN1
   by_cases hm0:m=0
   ·have k2:((m:Int)==0)=true:=by simp [hm0]
    have hN0:N1=1:=by rw [HN2.out,if_pos hm0]
    subst hN0
    clear HN2 hcr hm0
    have c0:u2.cell? ⟨w.heap.size,0,none⟩=some (.slice A n c):=(kf.cell 0).trans rfl
    have c1:u2.cell? ⟨w.heap.size,1,none⟩=some (.int .i64 re):=(kf.cell 1).trans rfl
    have c2:u2.cell? ⟨w.heap.size,2,none⟩=some (.int .i64 lo):=(kf.cell 2).trans rfl
    have d0:u2.cell? ⟨w.heap.size+1,0,none⟩=some (.int .i64 K):=(ks.cell 0).trans rfl
    have d1:u2.cell? ⟨w.heap.size+1,1,none⟩=some (.slice B m d):=(ks.cell 1).trans rfl
    go_wp2_with fail
    go_ret2
    exact ⟨rfl,HB.out⟩
   ·have k2:((m:Int)==0)=false:=by simp;omega
    have hL0:0 < L.length:=by rw [HLN.out];omega
    obtain ⟨pp,hf,hK,hn400,hlp⟩:=posP_of (posedE_iff.1 HE.out) hL0
    have hcr12:cr≤12:=by omega
    obtain ⟨N,hN⟩:∃N,2 ^ cr=N:=⟨_,rfl⟩
    have hN4:N≤4096:=by rw [←hN];exact Nat.le_trans (Nat.pow_le_pow_right (by omega) hcr12) (by decide)
    have HN3:=Lib.hid (show N1=(codesTo F re lo cr L N).length by rw [HN2.out,if_neg hm0,hN])
    have HID:=Lib.hid (show ∀i,i < m→isC (la L i)=true→1≤(la L i).id∧(la L i).id≤cr from fun i hi hc=>by
     have:=pp.ids (i:=i) (by rw [HLN.out];exact hi) hc
     rw [HLN.out,HCR.out] at this
     exact this)
    have hm1:m≤1000000:=by rw [←HLN.out];omega
    have hw0:(0:Int)≤(cr:Int):=by omega
    have HW1:=Lib.hid (pow_wrap hcr12 hN)
    have HM1:=Lib.hid hm1
    have HCR12:=Lib.hid hcr12
    clear pp hf hK hn400 hlp hN HN2 hcr hL0 hm0 hm1
    have c0:u2.cell? ⟨w.heap.size,0,none⟩=some (.slice A n c):=(kf.cell 0).trans rfl
    have c1:u2.cell? ⟨w.heap.size,1,none⟩=some (.int .i64 re):=(kf.cell 1).trans rfl
    have c2:u2.cell? ⟨w.heap.size,2,none⟩=some (.int .i64 lo):=(kf.cell 2).trans rfl
    have d0:u2.cell? ⟨w.heap.size+1,0,none⟩=some (.int .i64 K):=(ks.cell 0).trans rfl
    have d1:u2.cell? ⟨w.heap.size+1,1,none⟩=some (.slice B m d):=(ks.cell 1).trans rfl
    go_wp2_with fail
    refine (crossings_is HCR.out _ HL.out).mono ?_
    rintro e u3 ⟨rfl,hb⟩
    clear c0 c1 c2 d0 d1
    replace HA:=Lib.hid (HA.out.below hb)
    replace HL:=Lib.hid (HL.out.below hb)
    replace HB:=Lib.hid (below_chain HB.out hb HB.out.size)
    replace kf:=kf.below hb kf.lt
    replace ks:=ks.below hb ks.lt
    clear hb
    go_upto_region 11 with fail
    first
     | rw [HW1.out.1]
     | rw [HW1.out.2.1]
     | rw [HW1.out.2.2.1]
     | rw [HW1.out.2.2.2]
     | skip
    go_loopw [8,29] (fun v8 v29 wr=>∃(nu k:Nat),nu≤N∧k≤nu∧v29=.int .i64 nu∧v8=.int .i64 k∧Below u3.heap.size u3 wr∧Hid (k=(codesTo F re lo cr L nu).length)) (fun _ v29 _=>N-(intOf v29).toNat)
    case atStart=>exact ⟨0,0,by omega,by omega,rfl,rfl,Below.refl _ _,Lib.hid rfl⟩
    case round =>
     obtain ⟨nu,k,hnu,hk,rfl,rfl,hbr,HS⟩:=hrel
     have HBR:=Lib.hid hbr
     replace HA:=Lib.hid (HA.out.below hbr)
     replace HL:=Lib.hid (HL.out.below hbr)
     replace HB:=Lib.hid (below_chain HB.out hbr HB.out.size)
     replace kf:=kf.below hbr kf.lt
     replace ks:=ks.below hbr ks.lt
     clear hbr
     by_cases hlt:nu < N
     ·have j0:(0:Int)≤(nu:Int):=by omega
      have j1:(nu:Int) < (N:Int):=by omega
      obtain ⟨M,hM⟩:∃M,signedL cr nu L=M:=⟨_,rfl⟩
      obtain ⟨p,hp⟩:∃p,posedF F re lo (n:Int) M=p:=⟨_,rfl⟩
      have HSG:=Lib.hid (fun wx (hx:Lets wx B m L)=>signed_is (K:=(n:Int)) (d:=d) hM wx hx HM1.out HCR12.out (by omega) HID.out)
      have HPO:=Lib.hid (fun wx (B2:Option Addr) (m2 d2:Nat) (h1:Below wr.heap.size wr wx) (h2:OwnL wx wr.heap.size B2 m2 d2 M)=>handPosed_is (d:=d2) hp wx (HA.out.below h1) HC.out h2.lets)
      have HPC:=Lib.hid (show p=posedF F re lo (F.length:Int) (signedL cr nu L) by rw [HFL.out,hM,hp])
      have bc2:=build_code2
      have HCX:=Lib.hid (fun wx (h:Below wr.heap.size wr wx)=>crossings_is (K:=K) (c:=d) HCR.out wx (HL.out.below h))
      clear hM hp
      go_upto_region 13 with fail
      go_cut [41] (fun v wv=>v=.bool p∧∃V:World,V=wv∧Below wr.heap.size wr V)
      case first =>
       have k0:∀wx,Below wr.heap.size wr wx→(Below wr.heap.size wr wx∧wx.cell? ⟨w.heap.size,0,none⟩=some (.slice A n c)∧wx.cell? ⟨w.heap.size,1,none⟩=some (.int .i64 re)∧wx.cell? ⟨w.heap.size,2,none⟩=some (.int .i64 lo)∧wx.cell? ⟨w.heap.size+1,0,none⟩=some (.int .i64 K)∧wx.cell? ⟨w.heap.size+1,1,none⟩=some (.slice B m d)):=fun wx h=>⟨h,((kf.below h kf.lt).cell 0).trans rfl,((kf.below h kf.lt).cell 1).trans rfl,((kf.below h kf.lt).cell 2).trans rfl,((ks.below h ks.lt).cell 0).trans rfl,((ks.below h ks.lt).cell 1).trans rfl⟩
       have KP:=Lib.hid k0
       clear k0
       have gq0:=(KP.out wr (Below.refl _ _)).2.1
       have gq1:=(KP.out wr (Below.refl _ _)).2.2.1
       have gq2:=(KP.out wr (Below.refl _ _)).2.2.2.1
       have gq3:=(KP.out wr (Below.refl _ _)).2.2.2.2.1
       have gq4:=(KP.out wr (Below.refl _ _)).2.2.2.2.2
       first
        | go_region_held3 (fun wx=>Below wr.heap.size wr wx∧wx.cell? ⟨w.heap.size,0,none⟩=some (.slice A n c)∧wx.cell? ⟨w.heap.size,1,none⟩=some (.int .i64 re)∧wx.cell? ⟨w.heap.size,2,none⟩=some (.int .i64 lo)∧wx.cell? ⟨w.heap.size+1,0,none⟩=some (.int .i64 K)∧wx.cell? ⟨w.heap.size+1,1,none⟩=some (.slice B m d)) (first | assumption | exact KP.out _ (Below.refl _ _).drew | exact KP.out _ (below_chain (And.left (by assumption)) (by assumption) (Below.size (And.left (by assumption)))) | exact KP.out _ (by assumption))
          (first
           | ((go_at_call 43;refine (HCX.out _ (And.left (by assumption))).mono ?_;rintro e wa ⟨rfl,hba⟩;have hbz:Below wr.heap.size wr wa:=below_chain (Below.refl wr.heap.size wr).drew hba (Nat.le_refl _)))
           | ((go_at_call 82;refine (HSG.out _ (HL.out.below (And.left (by assumption)))).mono ?_;rintro e wb ⟨B2,m2,d2,rfl,hO2,hbb⟩;have hby:Below wr.heap.size wr wb:=below_chain hbz hbb hbz.size;have hO3:OwnL wb wr.heap.size B2 m2 d2 M:=hO2.mono hbz.size))
           | ((go_at_call 83;refine (HPO.out _ _ _ _ (And.left (by assumption)) (by assumption)).mono ?_;rintro e wc ⟨rfl,hbc⟩;have hbx:Below wr.heap.size wr wc:=below_chain hby hbc hby.size)))
        | fail
       all_goals
        have hbf:=And.left (show Below wr.heap.size wr _∧_ by assumption)
        clear gq0 gq1 gq2 gq3 gq4
        go_wp2_with fail
        go_meet
        case rel=>exact ⟨rfl,_,rfl,hbf⟩
      case rest =>
       obtain ⟨rfl,V,hV,hb⟩:=hcut
       subst hV
       have hb2:=below_chain HBR.out hb HBR.out.size
       have hi8:nu+1≤N:=hlt
       have hk9:k≤4096:=by omega
       cases p with
       | true =>
        have HS1:=Lib.hid (show k+1=(codesTo F re lo cr L (nu+1)).length by rw [codesTo_yes HPC.out.symm,List.length_append,←HS.out];rfl)
        clear HS
        go_wp2_with fail
        go_roundw
        case rel=>exact ⟨nu+1,k+1,hi8,by omega,by go_num,by go_num,hb2,HS1⟩
        case measure=>simp [intOf];omega
       | false =>
        have HS1:=Lib.hid (show k=(codesTo F re lo cr L (nu+1)).length by rw [codesTo_no HPC.out.symm,←HS.out])
        clear HS
        go_wp2_with fail
        go_roundw
        case rel=>exact ⟨nu+1,k,hi8,by omega,by go_num,rfl,hb2,HS1⟩
        case measure=>simp [intOf];omega
     ·have j1:¬(nu:Int) < (N:Int):=by omega
      have hkN:k=N1:=by rw [HN3.out,HS.out,show nu=N by omega]
      subst hkN
      clear HS HN3
      go_wp2_with fail
      go_ret2
      exact ⟨rfl,HB.out⟩
 ·have k1:(E != 0)=true:=by simpa using h0
  have hE2:E1=E:=by rw [HE1.out,if_pos h0]
  subst hE2
  have hN0:N1=0:=by rw [HN1.out,if_pos h0]
  subst hN0
  clear h0 HE1 HN1
  go_wp2_with fail
  go_ret2
  exact ⟨rfl,HB.out⟩
end Go.Proofs.YtlmdfmnbcndhoaaGreatDoor
namespace Go.Proofs.YtlmdfmnbcndhoaaGreatDoor
open Go.RowKit
theorem lshort_is {n:Nat} {b:Bool} (h:decide (n≤60)=b) (A:Option Addr) (c:Nat) (re lo:Int) (w:World) :
  Calls Tryz.prog 15 #[frV A n c re lo] w fun e w'=>e=.returned (.bool b)∧Below w.heap.size w w':=by
 subst h;exact law_short A n c re lo w
end Go.Proofs.YtlmdfmnbcndhoaaGreatDoor
