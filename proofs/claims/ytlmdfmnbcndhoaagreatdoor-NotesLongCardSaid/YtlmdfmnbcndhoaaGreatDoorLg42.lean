/-
  Lemmas for NotesLong, part 42: contracts and plain facts. Conditions: those that each theorem names.
-/
import Derived.Test.YtlmdfmnbcndhoaaGreatDoorLg41
import Derived.Test.YtlmdfmnbcndhoaaGreatDoorLg40
import Derived.Test.YtlmdfmnbcndhoaaGreatDoorLg02
import Derived.Test.YtlmdfmnbcndhoaaGreatDoorLg25
import Derived.Test.YtlmdfmnbcndhoaaGreatDoorLg39
import Derived.Test.YtlmdfmnbcndhoaaGreatDoorLg35
import Derived.Test.YtlmdfmnbcndhoaaGreatDoorLg12
import Derived.Deep.DeepCutAuto
import Derived.Test.YtlmdfmnbcndhoaaGreatDoorLg32
import Derived.Test.YtlmdfmnbcndhoaaGreatDoorLg31
import Derived.Test.YtlmdfmnbcndhoaaGreatDoorLg04
import Derived.Deep.RegionHeld3
import Derived.Deep.RegionLaw
import Derived.BigRegion
import Derived.Test.YtlmdfmnbcndhoaaGreatDoorLg03
import Derived.Test.YtlmdfmnbcndhoaaGreatDoorLg01
import Derived.Test.YtlmdfmnbcndhoaaGreatDoorLg30
namespace Go.Proofs.YtlmdfmnbcndhoaaGreatDoor
open Go.RowKit
section
variable {K:Int} {L:List Lt} {F:List Fg} {re lo:Int}
theorem zQt (h:zBs F re lo K L=true) (h0:0 < L.length):PosP K L∧frOk F re lo∧K=(F.length:Int)∧L.length≤400∧(∀i,i < L.length→lpB K (la L i)=true):=by
 unfold zBs at h;simp only [Bool.and_eq_true,beq_iff_eq] at h;obtain ⟨⟨⟨h1,h2⟩,h3⟩,h4⟩:=h;have ht:=zCu h2;obtain ⟨c1,c2,c3,c4⟩:=zEW h2
 have hv:zAQ K L=true:=by rcases c4 with h | h;· omega
                          ·exact h
 have g:=zDr h0 hv;have hpo:∀i,i < L.length→poB L i=true:=zAt.1 h4
 have key:∀i,i < L.length→isP (la L i)=true→dwn L i=true→i+1 < L.length∧isP (la L (i+1))=true∧((la L (i+1)).gate-(la L i).gate=1∨(la L i).gate-(la L (i+1)).gate=1):=by
  intro i hi hp hd;have hlt:i+1 < L.length:=by
   rcases Nat.lt_or_ge (i+1) L.length with h | h
   ·exact h
   ·have e:i+1=L.length:=by omega
    have hd2:dwn L (i+1)=false:=by rw [zOt hp,hd];rfl
    rw [e] at hd2;unfold dwn at hd2;have:=g.even;simp [this] at hd2
  have:=hpo i hi;unfold poB neB nxL at this;rw [hp,hd,Nat.mod_eq_of_lt hlt] at this;simp only [Bool.and_self,Bool.not_true,Bool.false_or,Bool.and_eq_true,Bool.or_eq_true,beq_iff_eq] at this;exact ⟨hlt,this.1,this.2⟩
 have hfl:zFX L=true:=by
  unfold zAQ at hv;simp only [Bool.and_eq_true] at hv;exact hv.2
 have hll:∀i,i < L.length→lpB K (la L i)=true:=by
  unfold zAQ at hv;simp only [Bool.and_eq_true] at hv;have h5:=hv.1.2;rw [←zCg] at h5;simp only [Bool.and_eq_true] at h5;exact fun i hi=>zAt.1 h5.1.1 i hi
 refine ⟨⟨g,hfl,fun i hi hp hd=>⟨(key i hi hp hd).1,(key i hi hp hd).2.1⟩,fun i hd=>?_⟩,zCA.1 h1,h3,ht.len,hll⟩;obtain ⟨d1,d2⟩:=zCo.1 hd;exact (key i (zBi d1) d1 d2).2.2
theorem zIS:zBl F re lo K L=0↔zBs F re lo K L=true:=by
 refine ⟨fun h=>(zEX h).1,fun h=>?_⟩;have h':=h;unfold zBs at h;simp only [Bool.and_eq_true,beq_iff_eq] at h;unfold zBl;rw [if_neg (by rw [h.1.1.1];simp),if_neg (by rw [h.1.1.2];simp),if_pos h']
theorem zSt {cr m:Nat} (hl:∀i,i < L.length→lpB K (la L i)=true) (hk:∀i,i < L.length→isP (la L i)=true∨isC (la L i)=true):zAv F re lo cr (L.map unS) m=zAv F re lo cr L m:=by
 unfold zAv;simp only [zQs hl hk]
theorem zSu (h:zBs F re lo K L=true) (h0:0 < L.length) :
  (12 < cN L L.length / 2→rqR F re lo (zGL F L)=([],7)) ∧
  (cN L L.length / 2≤12→rqR F re lo (zGL F L)=(zAv F re lo (cN L L.length / 2) L (2 ^ (cN L L.length / 2)),0)∧L∈zAv F re lo (cN L L.length / 2) L (2 ^ (cN L L.length / 2))):=by
 obtain ⟨p,hf,hK,hn,hl⟩:=zQt h h0;obtain ⟨r1,r2,r3⟩:=p.read hf hK hn hl;obtain ⟨_,i2,i3⟩:=p.items hf hK hn;have hb:zAK F re lo (zGL F L)=0:=by
  have:=p.len hf hK hn;unfold zAK;rw [if_pos (zCA.2 hf),if_neg (by omega)]
 have hlen:(L.map unS).length=L.length:=by simp
 constructor
 ·intro hc;unfold rqR;rw [if_neg (by rw [hb];simp),if_neg p.not_bare,if_neg (by rw [i2];simp),if_neg (by rw [i3];simp),if_neg (by rw [r3];simp),if_pos (by rw [r2];exact .inl hc)]
 ·intro hc;have hm:L∈zAv F re lo (cN L L.length / 2) L (2 ^ (cN L L.length / 2)):=by
   obtain ⟨nu,h1,h2⟩:=p.signs hl;unfold zAv;refine List.mem_filter.2 ⟨List.mem_map.2 ⟨nu,List.mem_range.2 h1,h2⟩,?_⟩;rw [←hK];exact h
  refine ⟨?_,hm⟩;unfold rqR
  rw [if_neg (by rw [hb];simp),if_neg p.not_bare,if_neg (by rw [i2];simp),if_neg (by rw [i3];simp),if_neg (by rw [r3];simp),if_neg (by rw [r2,r1,hlen];omega),r1,r2,zSt hl p.good.kinds,
   if_neg (by intro e;rw [e] at hm;simp at hm)]
end
end Go.Proofs.YtlmdfmnbcndhoaaGreatDoor
namespace Go.Proofs.YtlmdfmnbcndhoaaGreatDoor
open Go.RowKit
def slE (F:List Fg) (re lo K:Int) (L:List Lt):Int:=if zBl F re lo K L≠0 then zBl F re lo K L else if 12 < cN L L.length / 2 then 7 else 0
def slN (F:List Fg) (re lo K:Int) (L:List Lt):Nat:=if slE F re lo K L≠0 then 0 else if L.length=0 then 1 else (zAv F re lo (cN L L.length / 2) L (2 ^ (cN L L.length / 2))).length
theorem zCp {K:Int} {A:Option Addr} {n c:Nat} {L:List Lt} {x:Nat} (h:cN L n / 2=x) (w:World) (hA:Lets w A n L) :
  Calls Tryz.prog 43 #[.agg #[.int .i64 K,.slice A n c]] w fun e w'=>e=.returned (.int .i64 (x:Int))∧Below w.heap.size w w':=by
 subst h;exact zIh K A n c L w hA
set_option maxRecDepth 100000 in
set_option maxHeartbeats 12800000 in
theorem zIu (A:Option Addr) (n c:Nat) (F:List Fg) (re lo K:Int) (B:Option Addr) (m d:Nat) (L:List Lt) (w:World) (hA:Fgs w A n F) (hc:n≤c) (hB:Lets w B m L) :
  Calls Tryz.prog 44 #[frV A n c re lo,.agg #[.int .i64 K,.slice B m d]] w fun e w'=>e=.returned (.tuple #[.int .i64 (slN F re lo K L:Int),.int .i64 (slE F re lo K L)])∧Below w.heap.size w w':=by
 have HFL:=Lib.hid hA.len;have HLN:=Lib.hid hB.len;have hmle:=hB.le;obtain ⟨E,hE⟩:∃E,zBl F re lo K L=E:=⟨_,rfl⟩
 obtain ⟨cr,hcr⟩:∃c,cN L m / 2=c:=⟨_,rfl⟩
 obtain ⟨N1,hN1⟩:∃N,slN F re lo K L=N:=⟨_,rfl⟩
 obtain ⟨E1,hE1⟩:∃E,slE F re lo K L=E:=⟨_,rfl⟩
 rw [hN1,hE1];have HE:=Lib.hid hE;have HCR:=Lib.hid hcr;have HE1:=Lib.hid (show E1=if E≠0 then E else if 12 < cr then 7 else 0 by rw [←hE1,←hcr,←hE,←hB.len];rfl);have HN1:=Lib.hid (show N1=if E1≠0 then 0 else if m=0 then 1 else (zAv F re lo cr L (2 ^ cr)).length by rw [←hN1,←hE1,←hcr,←hB.len];rfl);have HA:=Lib.hid hA;have HL:=Lib.hid hB;have HC:=Lib.hid hc;have HB:=Lib.hid (Below.refl w.heap.size w);clear hE hcr hN1 hE1 hA hB hc;go_enter Tryz.func44,Tryz.ntmps44;have hba:Below w.heap.size w ((w.alloc (.cells #[.slice A n c,.int .i64 re,.int .i64 lo] 24)).alloc (.cells #[.int .i64 K,.slice B m d] 55)):=((Below.refl _ _).alloc (Nat.le_refl _) _).alloc (by simp) _;replace HA:=Lib.hid (HA.out.below hba);replace HL:=Lib.hid (HL.out.below hba);replace HB:=Lib.hid (zAa HB.out hba HB.out.size);have kf:=(Blk.new w 24 #[.slice A n c,.int .i64 re,.int .i64 lo]).alloc (.cells #[.int .i64 K,.slice B m d] 55);have ks:Blk ((w.alloc (.cells #[.slice A n c,.int .i64 re,.int .i64 lo] 24)).alloc (.cells #[.int .i64 K,.slice B m d] 55)) (w.heap.size+1) 55 #[.int .i64 K,.slice B m d]:=heap_alloc2_new w _ _;clear hba;go_upto_region 1 with fail
 generalize (w.alloc (.cells #[.slice A n c,.int .i64 re,.int .i64 lo] 24)).alloc (.cells #[.int .i64 K,.slice B m d] 55)=X at HA HL HB kf ks ⊢;obtain ⟨c0,c1,c2⟩:=cQ3 kf;obtain ⟨d0,d1⟩:=cQ2 ks;go_wp2_with fail
 refine (zFM HE.out _ HA.out HC.out HL.out).mono ?_;rintro e u1 ⟨rfl,hb⟩;clear c0 c1 c2 d0 d1;replace HA:=Lib.hid (HA.out.below hb);replace HL:=Lib.hid (HL.out.below hb);replace HB:=Lib.hid (zAa HB.out hb HB.out.size);replace kf:=kf.below hb kf.lt;replace ks:=ks.below hb ks.lt;clear hb;by_cases h0:E=0
 ·subst h0;obtain ⟨c0,c1,c2⟩:=cQ3 kf;obtain ⟨d0,d1⟩:=cQ2 ks;go_wp2_with fail
  refine (zCp HCR.out _ HL.out).mono ?_;rintro e u2 ⟨rfl,hb⟩;clear c0 c1 c2 d0 d1;replace HA:=Lib.hid (HA.out.below hb);replace HL:=Lib.hid (HL.out.below hb);replace HB:=Lib.hid (zAa HB.out hb HB.out.size);replace kf:=kf.below hb kf.lt;replace ks:=ks.below hb ks.lt;clear hb;by_cases hcr:12 < cr
  ·have k1:(12:Int) < (cr:Int):=by omega
   have hE7:E1=7:=by rw [HE1.out,if_neg (by simp),if_pos hcr]
   subst hE7;have hN0:N1=0:=by rw [HN1.out,if_pos (by decide)]
   subst hN0;clear hcr HE1 HN1;go_wp2_with fail
   go_ret2;exact ⟨rfl,HB.out⟩
  ·have k1:¬(12:Int) < (cr:Int):=by omega
   have hE0:E1=0:=by rw [HE1.out,if_neg (by simp),if_neg hcr]
   subst hE0;have HN2:=Lib.hid (show N1=if m=0 then 1 else (zAv F re lo cr L (2 ^ cr)).length by rw [HN1.out,if_neg (by decide)]);clear HE1 HN1;by_cases hm0:m=0
   ·have k2:((m:Int)==0)=true:=by simp [hm0]
    have hN0:N1=1:=by rw [HN2.out,if_pos hm0]
    subst hN0;clear HN2 hcr hm0;obtain ⟨c0,c1,c2⟩:=cQ3 kf;obtain ⟨d0,d1⟩:=cQ2 ks;go_wp2_with fail
    go_ret2;exact ⟨rfl,HB.out⟩
   ·have k2:((m:Int)==0)=false:=by simp;omega
    have hL0:0 < L.length:=by rw [HLN.out];omega
    obtain ⟨pp,hf,hK,hn400,hlp⟩:=zQt (zIS.1 HE.out) hL0;have hcr12:cr≤12:=by omega
    obtain ⟨N,hN⟩:∃N,2 ^ cr=N:=⟨_,rfl⟩
    have hN4:N≤4096:=by rw [←hN];exact Nat.le_trans (Nat.pow_le_pow_right (by omega) hcr12) (by decide)
    have HN3:=Lib.hid (show N1=(zAv F re lo cr L N).length by rw [HN2.out,if_neg hm0,hN])
    have HID:=Lib.hid (show ∀i,i < m→isC (la L i)=true→1≤(la L i).id∧(la L i).id≤cr from fun i hi hc=>by
     have:=pp.ids (i:=i) (by rw [HLN.out];exact hi) hc
     rw [HLN.out,HCR.out] at this
     exact this)
    have hm1:m≤1000000:=by rw [←HLN.out];omega
    have HW1:=Lib.hid (zNb hcr12 hN);have HM1:=Lib.hid hm1;have HCR12:=Lib.hid hcr12;clear pp hf hK hn400 hlp hN HN2 hcr hL0 hm0 hm1;obtain ⟨c0,c1,c2⟩:=cQ3 kf;obtain ⟨d0,d1⟩:=cQ2 ks;go_wp2_with fail
    refine (zCp HCR.out _ HL.out).mono ?_;rintro e u3 ⟨rfl,hb⟩;clear c0 c1 c2 d0 d1;replace HA:=Lib.hid (HA.out.below hb);replace HL:=Lib.hid (HL.out.below hb);replace HB:=Lib.hid (zAa HB.out hb HB.out.size);replace kf:=kf.below hb kf.lt;replace ks:=ks.below hb ks.lt;clear hb;go_upto_region 11 with fail
    first
     | rw [HW1.out.1]
     | rw [HW1.out.2.1]
     | rw [HW1.out.2.2.1]
     | rw [HW1.out.2.2.2]
     | skip
    go_loopw [8,29] (fun v8 v29 wr=>∃(nu k:Nat),nu≤N∧k≤nu∧v29=.int .i64 nu∧v8=.int .i64 k∧Below u3.heap.size u3 wr∧Hid (k=(zAv F re lo cr L nu).length)) (fun _ v29 _=>N-(intOf v29).toNat)
    case atStart=>exact ⟨0,0,by omega,by omega,rfl,rfl,Below.refl _ _,Lib.hid rfl⟩
    case round =>
     obtain ⟨nu,k,hnu,hk,rfl,rfl,hbr,HS⟩:=hrel;have HBR:=Lib.hid hbr;replace HA:=Lib.hid (HA.out.below hbr);replace HL:=Lib.hid (HL.out.below hbr);replace HB:=Lib.hid (zAa HB.out hbr HB.out.size);replace kf:=kf.below hbr kf.lt;replace ks:=ks.below hbr ks.lt;clear hbr;by_cases hlt:nu < N
     ·have j0:(0:Int)≤(nu:Int):=by omega
      have j1:(nu:Int) < (N:Int):=by omega
      obtain ⟨M,hM⟩:∃M,zBt cr nu L=M:=⟨_,rfl⟩
      obtain ⟨p,hp⟩:∃p,zBs F re lo (n:Int) M=p:=⟨_,rfl⟩
      have HSG:=Lib.hid (fun wx (hx:Lets wx B m L)=>zKR (K:=(n:Int)) (d:=d) hM wx hx HM1.out HCR12.out (by omega) HID.out);have HPO:=Lib.hid (fun wx (B2:Option Addr) (m2 d2:Nat) (h1:Below wr.heap.size wr wx) (h2:OwnL wx wr.heap.size B2 m2 d2 M)=>zEf (d:=d2) hp wx (HA.out.below h1) HC.out h2.lets);have HPC:=Lib.hid (show p=zBs F re lo (F.length:Int) (zBt cr nu L) by rw [HFL.out,hM,hp]);have HCX:=Lib.hid (fun wx (h:Below wr.heap.size wr wx)=>zCp (K:=K) (c:=d) HCR.out wx (HL.out.below h));clear hM hp;go_upto_region 13 with fail
      go_cut [41] (fun v wv=>v=.bool p∧∃V:World,V=wv∧Below wr.heap.size wr V)
      case first =>
       have k0:∀wx,Below wr.heap.size wr wx→(Below wr.heap.size wr wx∧wx.cell? ⟨w.heap.size,0,none⟩=some (.slice A n c)∧wx.cell? ⟨w.heap.size,1,none⟩=some (.int .i64 re)∧wx.cell? ⟨w.heap.size,2,none⟩=some (.int .i64 lo)∧wx.cell? ⟨w.heap.size+1,0,none⟩=some (.int .i64 K)∧wx.cell? ⟨w.heap.size+1,1,none⟩=some (.slice B m d)):=fun wx h=>⟨h,((kf.below h kf.lt).cell 0).trans rfl,((kf.below h kf.lt).cell 1).trans rfl,((kf.below h kf.lt).cell 2).trans rfl,((ks.below h ks.lt).cell 0).trans rfl,((ks.below h ks.lt).cell 1).trans rfl⟩
       have KP:=Lib.hid k0;clear k0
       first
        | go_region_held3 (fun wx=>Below wr.heap.size wr wx∧wx.cell? ⟨w.heap.size,0,none⟩=some (.slice A n c)∧wx.cell? ⟨w.heap.size,1,none⟩=some (.int .i64 re)∧wx.cell? ⟨w.heap.size,2,none⟩=some (.int .i64 lo)∧wx.cell? ⟨w.heap.size+1,0,none⟩=some (.int .i64 K)∧wx.cell? ⟨w.heap.size+1,1,none⟩=some (.slice B m d)) (first | assumption | exact KP.out _ (Below.refl _ _).drew | exact KP.out _ (zAa (And.left (by assumption)) (by assumption) (Below.size (And.left (by assumption)))) | exact KP.out _ (by assumption))
          (first
           | ((go_at_call 43;refine (HCX.out _ (And.left (by assumption))).mono ?_;rintro e wa ⟨rfl,hba⟩;have hbz:Below wr.heap.size wr wa:=zAa (Below.refl wr.heap.size wr).drew hba (Nat.le_refl _)))
           | ((go_at_call 82;refine (HSG.out _ (HL.out.below (And.left (by assumption)))).mono ?_;rintro e wb ⟨B2,m2,d2,rfl,hO2,hbb⟩;have hby:Below wr.heap.size wr wb:=zAa hbz hbb hbz.size;have hO3:OwnL wb wr.heap.size B2 m2 d2 M:=hO2.mono hbz.size))
           | ((go_at_call 83;refine (HPO.out _ _ _ _ (And.left (by assumption)) (by assumption)).mono ?_;rintro e wc ⟨rfl,hbc⟩;have hbx:Below wr.heap.size wr wc:=zAa hby hbc hby.size)))
        | fail
       all_goals
        have hbf:=And.left (show Below wr.heap.size wr _∧_ by assumption);go_wp2_with fail
        go_meet
        case rel=>exact ⟨rfl,_,rfl,hbf⟩
      case rest =>
       obtain ⟨rfl,V,hV,hb⟩:=hcut;subst hV;have hb2:=zAa HBR.out hb HBR.out.size;have hi8:nu+1≤N:=hlt;have hk9:k≤4096:=by omega
       cases p with
       | true =>
        have HS1:=Lib.hid (show k+1=(zAv F re lo cr L (nu+1)).length by rw [zIc HPC.out.symm,List.length_append,←HS.out];rfl);clear HS;go_wp2_with fail
        go_roundw
        case rel=>exact ⟨nu+1,k+1,hi8,by omega,by go_num,by go_num,hb2,HS1⟩
        case measure=>simp [intOf];omega
       | false =>
        have HS1:=Lib.hid (show k=(zAv F re lo cr L (nu+1)).length by rw [zIQ HPC.out.symm,←HS.out]);clear HS;go_wp2_with fail
        go_roundw
        case rel=>exact ⟨nu+1,k,hi8,by omega,by go_num,rfl,hb2,HS1⟩
        case measure=>simp [intOf];omega
     ·have j1:¬(nu:Int) < (N:Int):=by omega
      have hkN:k=N1:=by rw [HN3.out,HS.out,show nu=N by omega]
      subst hkN;clear HS HN3;go_wp2_with fail
      go_ret2;exact ⟨rfl,HB.out⟩
 ·have k1:(E != 0)=true:=by simpa using h0
  have hE2:E1=E:=by rw [HE1.out,if_pos h0]
  subst hE2;have hN0:N1=0:=by rw [HN1.out,if_pos h0]
  subst hN0;clear h0 HE1 HN1;go_wp2_with fail
  go_ret2;exact ⟨rfl,HB.out⟩
end Go.Proofs.YtlmdfmnbcndhoaaGreatDoor
namespace Go.Proofs.YtlmdfmnbcndhoaaGreatDoor
open Go.RowKit
theorem zEi {n:Nat} {b:Bool} (h:decide (n≤60)=b) (A:Option Addr) (c:Nat) (re lo:Int) (w:World) :
  Calls Tryz.prog 15 #[frV A n c re lo] w fun e w'=>e=.returned (.bool b)∧Below w.heap.size w w':=by
 subst h;exact zQm A n c re lo w
end Go.Proofs.YtlmdfmnbcndhoaaGreatDoor
namespace Go.Proofs.YtlmdfmnbcndhoaaGreatDoor
open Go.RowKit
theorem zKU {B:Nat} {a b:World} {o:Obj} (hB:B≤b.heap.size) (h:Below B a b):Below B a (b.alloc o):=h.alloc hB o
theorem zUy {A:Option Addr} {n c:Nat} {F:List Fg} {re lo K:Int} {B:Option Addr} {m d:Nat} {L:List Lt} {E:Int} {S:List UInt8} (hE:zBl F re lo K L=E) (hS:sqS F re lo K L=S) (w:World) (hA:Fgs w A n F) (hc:n≤c) (hB:Lets w B m L) (ht:Tabs w) :
  Calls Tryz.prog 33 #[frV A n c re lo,.agg #[.int .i64 K,.slice B m d]] w fun e w'=>e=.returned (.tuple #[.string (bA S),.int .i64 E])∧Below w.heap.size w w':=by
 subst hE;subst hS;exact zEF A n c F re lo K B m d L w hA hc hB ht
theorem zSv {A:Option Addr} {n c:Nat} {F:List Fg} {re lo K:Int} {B:Option Addr} {m d:Nat} {L:List Lt} {E:Int} {x:Nat} (hE:slE F re lo K L=E) (hS:slN F re lo K L=x) (w:World) (hA:Fgs w A n F) (hc:n≤c) (hB:Lets w B m L) :
  Calls Tryz.prog 44 #[frV A n c re lo,.agg #[.int .i64 K,.slice B m d]] w fun e w'=>e=.returned (.tuple #[.int .i64 (x:Int),.int .i64 E])∧Below w.heap.size w w':=by
 subst hE;subst hS;exact zIu A n c F re lo K B m d L w hA hc hB
theorem zSw {A:Option Addr} {n c:Nat} {F:List Fg} {re lo:Int} {S:List UInt8} {Cs:List (List Lt)} {E:Int} (h:rqR F re lo S=(Cs,E)) (w:World) (hA:Fgs w A n F) (hc:n≤c) (ht:Tabs w) :
  Calls Tryz.prog 37 #[frV A n c re lo,.string (bA S)] w (zQk w (n:Int) Cs E):=by
 have:=zCS ⟨A,n,c,F,re,lo⟩ S w hA hc ht;simp only at this;rw [h] at this;exact this
end Go.Proofs.YtlmdfmnbcndhoaaGreatDoor
namespace Go.Proofs.YtlmdfmnbcndhoaaGreatDoor
def lsB (a b:Lt):Bool :=
 if a.kind≠b.kind then decide (a.kind < b.kind) else if a.gate≠b.gate then decide (a.gate < b.gate) else if a.rank≠b.rank then decide (a.rank < b.rank)
 else if a.id≠b.id then decide (a.id < b.id) else if a.over≠b.over then b.over else decide (a.sign < b.sign)
def bfB:List Lt→List Lt→Bool
 | a :: A,b :: B=>if a=b then bfB A B else lsB a b
 | _,_=>false
def pick (best:List Lt) (y:List Lt):List Lt:=if bfB y best then y else best
end Go.Proofs.YtlmdfmnbcndhoaaGreatDoor
namespace Go.Proofs.YtlmdfmnbcndhoaaGreatDoor
open Go.RowKit
theorem zBm (b o f:Nat) (h:f < 6) (w:World):(Instr.fieldAt 76 (.pointer (some ⟨b,o,none⟩)) f).run Tryz.prog w=.ok (.pointer (some ⟨b,o+f,none⟩)) w:=by
 rcases (show f=0∨f=1∨f=2∨f=3∨f=4∨f=5 by omega) with rfl | rfl | rfl | rfl | rfl | rfl<;>go_simp
theorem zQu (b o f:Nat) (h:f < 2) (w:World):(Instr.fieldAt 55 (.pointer (some ⟨b,o,none⟩)) f).run Tryz.prog w=.ok (.pointer (some ⟨b,o+f,none⟩)) w:=by
 rcases (show f=0∨f=1 by omega) with rfl | rfl<;>go_simp
theorem zBg {p:Addr} {v:Int} {w:World} (h:w.cell? p=some (.int .i64 v)):(Instr.loadAt 3 (.pointer (some p))).run Tryz.prog w=.ok (.int .i64 v) w:=by go_simp
theorem zFc {p:Addr} {v:Int} {w:World} (h:w.cell? p=some (.int .i64 v)):(Instr.loadAt 74 (.pointer (some p))).run Tryz.prog w=.ok (.int .i64 v) w:=by go_simp
theorem zId {p:Addr} {v:Bool} {w:World} (h:w.cell? p=some (.bool v)):(Instr.loadAt 4 (.pointer (some p))).run Tryz.prog w=.ok (.bool v) w:=by go_simp
theorem zJT {b o:Nat} {K:Int} {A:Option Addr} {n c:Nat} {w:World} (h0:w.cell? ⟨b,o,none⟩=some (.int .i64 K)) (h1:w.cell? ⟨b,o+1,none⟩=some (.slice A n c)):(Instr.loadAt 55 (.pointer (some ⟨b,o,none⟩))).run Tryz.prog w=.ok (.agg #[.int .i64 K,.slice A n c]) w:=by go_simp
section
variable {x y:Operand} {w:World} {X Y:Int} {b:Bool} {t:TypeId}
theorem zEG (h:(X != Y)=b):(do eqGuard .neq 3 x y (.int .i64 X) (.int .i64 Y);binOp .neq 3 (.int .i64 X) (.int .i64 Y):Sem Value).run Tryz.prog w=.ok (.bool b) w:=by subst h;go_simp
theorem zIT (h:(X==Y)=b):(do eqGuard .eql 3 x y (.int .i64 X) (.int .i64 Y);binOp .eql 3 (.int .i64 X) (.int .i64 Y):Sem Value).run Tryz.prog w=.ok (.bool b) w:=by subst h;go_simp
theorem zMh (h:(X==Y)=b):(do eqGuard .eql 74 x y (.int .i64 X) (.int .i64 Y);binOp .eql 74 (.int .i64 X) (.int .i64 Y):Sem Value).run Tryz.prog w=.ok (.bool b) w:=by subst h;go_simp
theorem zQv {X Y:Bool} (h:(X != Y)=b):(do eqGuard .neq 4 x y (.bool X) (.bool Y);binOp .neq 4 (.bool X) (.bool Y):Sem Value).run Tryz.prog w=.ok (.bool b) w:=by subst h;go_simp;cases X<;>cases Y<;>rfl
theorem zQw (h:decide (X < Y)=b):(do eqGuard .lss 3 x y (.int .i64 X) (.int .i64 Y);binOp .lss 3 (.int .i64 X) (.int .i64 Y):Sem Value).run Tryz.prog w=.ok (.bool b) w:=by subst h;go_simp
theorem zQx (h:decide (Y < X)=b):(do eqGuard .gtr 3 x y (.int .i64 X) (.int .i64 Y);binOp .gtr 3 (.int .i64 X) (.int .i64 Y):Sem Value).run Tryz.prog w=.ok (.bool b) w:=by subst h;go_simp
theorem zUz (n:Nat) (h:n≤1000000):(do eqGuard .quo 3 x y (.int .i64 (n:Int)) (.int .i64 2);binOp .quo 3 (.int .i64 (n:Int)) (.int .i64 2):Sem Value).run Tryz.prog w=.ok (.int .i64 ((n / 2:Nat):Int)) w:=by
 have v2:IntKind.i64.wrap ((n:Int) / 2)=(n:Int) / 2:=IntWalk.i64_in _ (by omega);go_simp
end
theorem zWt (vs:Array Value) (w:World):(callFunc 169 vs).run Tryz.prog w=.ok (.enter 169 vs) w:=by go_simp
theorem zQy (vs:Array Value) (w:World):(callFunc 132 vs).run Tryz.prog w=.ok (.enter 132 vs) w:=by go_simp
theorem zSx (vs:Array Value) (w:World):(callFunc 170 vs).run Tryz.prog w=.ok (.enter 170 vs) w:=by go_simp
end Go.Proofs.YtlmdfmnbcndhoaaGreatDoor
namespace Go.Proofs.YtlmdfmnbcndhoaaGreatDoor
open Go.RowKit
theorem zOj {f:Nat→Nat} {k:Nat} {s:List Bool} {x:Nat} (h:sat s x=true):zAX f k s x=([],s):=by
 cases k with
 | zero=>rfl
 | succ k=>unfold zAX;rw [if_pos h]
theorem zOk {f:Nat→Nat} {k:Nat} {s:List Bool} {x:Nat} (h:sat s x=false):zAX f (k+1) s x=(x :: (zAX f k (s.set x true) (f x)).1,(zAX f k (s.set x true) (f x)).2):=by
 conv=>lhs;unfold zAX
 rw [if_neg (by rw [h];simp)]
theorem zOl {f:Nat→Nat} {d k:Nat} {s:List Bool} (h:sat s d=true):zAN f (List.range' d (k+1)) s=zAN f (List.range' (d+1) k) s:=by
 rw [List.range'_succ];conv=>lhs;unfold zAN
 rw [if_pos h]
theorem zQz {f:Nat→Nat} {d k:Nat} {s:List Bool} (h:sat s d=false):zAN f (List.range' d (k+1)) s=(zAX f s.length s d).1 :: zAN f (List.range' (d+1) k) (zAX f s.length s d).2:=by
 rw [List.range'_succ];conv=>lhs;unfold zAN
 rw [if_neg (by rw [h];simp)]
theorem zOm:(Tryz.prog.info? 79).map (fun i=>(i.zero,i.size,i.bytes))=some (some (.slice none 0 0),1,24):=by kernel_rfl
def zSZ:Value→Nat
 | .slice _ n _=>n
 | _=>0
theorem zVF {w:World} {ops:Array Oper} {rest:List Oper} {o:Oper} {a:Act} {Q:Exit→Act→World→Prop} (hgd:o.guard=none) (s x:Operand)
  (ho:o.op=.call { callee:=.builtin .append,args:=#[s,x],argTypes:=#[177,177] })
  {base:Nat} {A:Option Addr} {n c:Nat} {vs:List SV} (hst:Row w base 1 A n c (vs.map SV.val)) (B:Option Addr) (m d:Nat) (hs:a.eval s=.slice A n c)
  (hx:a.eval x=.slice (some ⟨w.heap.size,0,none⟩) 1 1) (N:Nat) (hN:n+1=N) (hn:N≤1000000) (hbase:base≤w.heap.size)
  (h:∀A' c' w',Row w' base 1 A' N c' ((vs++[(⟨B,m,d⟩:SV)]).map SV.val)→w.grownBy w' (blk A)→(∀k,blk A'=some k→blk A=some k∨w.heap.size≤k)→wpList Tryz.prog ops Q rest (a.put o.dst (.slice A' N c')) w') :
  wpList Tryz.prog ops Q (o :: rest) a (w.alloc (.cells #[.slice B m d] 79)):=by
 obtain ⟨i0,hi,hz0,hz1,hz2⟩:=info_parts zOm
 refine zQL hgd s x 177 ho 79 i0 _ 1 24 Tryz.underlying177 hi hz0 hz1 hz2 rfl (by decide) (hst.alloc _) (Src.new (m:=1) (cs:=[.slice B m d]) rfl)
  (by intro u hu;simp at hu;subst hu;rfl) hs hx N hN (by unfold maxLen;omega) (by omega) (by simp;omega) ?_
 intro A' c' w' h1 h2 h3 _;refine h A' c' w' (by rw [List.map_append];exact h1) (zAb (World.grownBy_alloc w _ _) h2) (fun k hk=>?_);rcases h3 k hk with h | h
 ·exact .inl h
 ·right;simp at h;omega
set_option maxRecDepth 100000 in
set_option maxHeartbeats 3200000 in
theorem zQA (K:Int) (A:Option Addr) (n c:Nat) (L:List Lt) (w:World) (hA:Lets w A n L) (g:Good K L) (hn400:n≤1000) :
  Calls Tryz.prog 135 #[.agg #[.int .i64 K,.slice A n c]] w fun e w'=>∃A' c' vs,e=.returned (.slice A' (zBz L).length c')∧Wks w' w.heap.size A' (zBz L).length c' vs ((zBz L).map zEK)∧Below w.heap.size w w':=by
 have hLn:=Lib.hid hA.len;have hbx:=Boxed.refl w K A n c;obtain ⟨m,hm⟩:∃m,m=(axL L).length:=⟨_,rfl⟩
 have hmn:m≤n:=by rw [hm,zEN,hLn.out];exact zIg L n
 obtain ⟨N,hN⟩:∃N,N=zAu L:=⟨_,rfl⟩
 have hNe:N=2*n+2*m:=by rw [hN,hm];unfold zAu;rw [hLn.out]
 have hNle:N≤17592186044416:=by omega
 have HM:=Lib.hid hm;have HN:=Lib.hid hN;have HNE:=Lib.hid hNe;have hW:Hid ([]++zAN (zAy L (axL L)) (List.range' 0 (N-0)) (List.replicate N false)=zBz L):=by
  show _=_;rw [List.nil_append,Nat.sub_zero,←List.range_eq_range',hN];rfl
 clear hm hN hNe;go_enter Tryz.func135,Tryz.ntmps135;go_wp2_with fail
 refine (zRD K A n c L _ (hA.below hbx.below)).mono ?_;rintro e w1 ⟨A1,c1,rfl,hown1,hb1⟩;rw [←HM.out] at hown1 ⊢;have hX:=hown1.ints;have hb1':=hbx.more hb1;have k0:=hb1'.c0;have k1:=hb1'.c1;clear hown1 hb1 hbx;go_wp2_with (at_make;refine zMq rfl _ _ rfl N _ rfl rfl (by have:=HNE.out;omega) hNle (Nat.le_refl _) ?_;intro ws hs0 hbs0 hzs)
 clear k0 k1;have hA1:=hA.below hb1'.below;go_loopw [3,6] (fun v3 v6 wr=>∃(d q:Nat) (s:List Bool) (A2:Option Addr) (c2:Nat) (vs:List SV) (Ws:List (List Nat)),d≤N∧q≤d∧v6=.int .i64 d∧v3=.slice A2 q c2∧Wks wr (w1.heap.size+1) A2 q c2 vs (Ws.map zEK)∧OwnB wr w1.heap.size w1.heap.size N s∧Below w1.heap.size w1 wr∧Hid (Ws++zAN (zAy L (axL L)) (List.range' d (N-d)) s=zBz L)) (fun _ v6 _=>N-(intOf v6).toNat)
 case atStart=>exact ⟨0,0,List.replicate N false,none,0,[],[],Nat.zero_le _,Nat.le_refl _,rfl,rfl,Wks.nil _ _,hs0,hbs0,hW⟩
 case round =>
  obtain ⟨d,q,s,A2,c2,vs,Ws,hd,hqd,rfl,rfl,hwk,hs,hbw,HW⟩:=hrel;clear hs0 hW hbs0;by_cases hdN:d < N
  ·have hcs:=hs.cell hdN;have i0:(0:Int)≤(d:Int):=by omega
   have i1:(d:Int) < (N:Int):=by omega
   cases hsd:sat s d with
   | true =>
    rw [hsd] at hcs
    have HW':=Lib.hid (show Ws++zAN (zAy L (axL L)) (List.range' (d+1) (N-(d+1))) s=zBz L by
     rw [←HW.out,show N-d=N-(d+1)+1 by omega,zOl hsd])
    clear hsd HW;go_wp2_with fail
    go_roundw
    case rel=>exact ⟨d+1,q,s,A2,c2,vs,Ws,by omega,by omega,by go_num,rfl,hwk,hs,hbw,HW'⟩
    case measure=>simp [intOf];omega
   | false =>
    rw [hsd] at hcs
    have hHW:=Lib.hid (show Ws++(zAX (zAy L (axL L)) N s d).1 :: zAN (zAy L (axL L)) (List.range' (d+1) (N-(d+1))) (zAX (zAy L (axL L)) N s d).2=zBz L by
     rw [←HW.out,show N-d=N-(d+1)+1 by omega,zQz hsd,hs.len])
    clear hsd HW;have hu0:unN s≤N:=by rw [←hs.len];exact zPe s
    have hlt5:w1.heap.size < wr.heap.size:=hs.lt;go_wp2_with fail
    obtain ⟨wo,rfl⟩:∃wo:World,wo=wr:=⟨_,rfl⟩
    go_loopw [7,8] (fun v7 v8 wi=>∃(x p cP k:Nat) (AP:Option Addr) (P:List Nat) (si:List Bool),x < N∧v8=.int .i64 x∧v7=.slice AP p cP∧Own wi wo.heap.size AP p cP (zEK P)∧OwnB wi w1.heap.size w1.heap.size N si∧wo.grownBy wi (some w1.heap.size)∧Below w1.heap.size w1 wi∧unN si≤k∧p+unN si=unN s∧Hid (P++(zAX (zAy L (axL L)) k si x).1=(zAX (zAy L (axL L)) N s d).1∧(zAX (zAy L (axL L)) k si x).2=(zAX (zAy L (axL L)) N s d).2)) (fun v7 _ _=>N-zSZ v7)
    case atStart=>exact ⟨d,0,0,N,none,[],s,hdN,rfl,rfl,Own.nil _ _,hs,World.grownBy.refl _ _,hbw,hu0,by omega,Lib.hid ⟨rfl,rfl⟩⟩
    case round =>
     obtain ⟨x,p,cP,k,AP,P,si,hx,rfl,rfl,hownP,hsi,hgr,hbi,huk,hpu,HP⟩:=hrel;have j0:(0:Int)≤(x:Int):=by omega
     have j1:(x:Int) < (N:Int):=by omega
     have hcx:=hsi.cell hx;have hfx:=hsi.frozen x;have hszi:=hgr.size
     cases hsx:sat si x with
     | true =>
      rw [hsx] at hcx;have hHP:=HP.out;rw [zOj hsx] at hHP;have HP2:=Lib.hid hHP;clear hsx HP hHP;have hwki:=hwk.kept hgr (by omega);have hownI:=hownP.ints;have hpc:=hownP.cap;have hq1:q+1≤1000000:=by have:=HNE.out;omega
      have hb1q:w1.heap.size+1≤wr.heap.size:=by omega
      go_wp2_with (at_builtin;refine zVF rfl _ _ rfl hwki.row AP p cP rfl rfl (q+1) rfl hq1 hb1q ?_)
      intro A3 c3 w3 hr3 hg3 ha3;have hwk3:=hwki.push (v:=⟨AP,p,cP⟩) (by rw [List.map_append];exact hr3) rfl hg3 ha3 hownI hpc (fun k hk=>⟨by have:=(hownP.lt k hk).1;omega,(hownP.lt k hk).2,fun e=>by have:=(hwk.row.lt k e).2;have:=(hownP.lt k hk).1;omega⟩)
      have hsi3:=hsi.kept hg3 (by
       intro e
       have:=(hwki.row.lt _ e.symm).1
       omega)
      have hb3:Below w1.heap.size w1 w3:=zAa hbi (B:=w1.heap.size) (C:=w1.heap.size+1) ((Below.refl _ _).grown hg3 (by omega) (fun k hk=>(hwki.row.lt k hk).1)) (by omega)
      have hHW3:=Lib.hid (show (Ws++[P])++zAN (zAy L (axL L)) (List.range' (d+1) (N-(d+1))) si=zBz L by
       rw [←hHW.out,←HP2.out.1,←HP2.out.2];simp)
      have hmap:Ws.map zEK++[zEK P]=(Ws++[P]).map zEK:=by simp
      rw [hmap] at hwk3;clear hr3 hg3 ha3 hwki hownI hownP hsi hgr hbi hwk hs hbw hmap HP2 hHW hcx hfx hcs;go_wp2_with fail
      go_roundw
      case rel=>exact ⟨d+1,q+1,si,A3,c3,_,_,by omega,by omega,by go_num,rfl,hwk3,hsi3,hb3,hHW3⟩
      case measure=>simp [intOf];omega
     | false =>
      rw [hsx] at hcx;obtain ⟨k,rfl⟩:∃k',k=k'+1:=⟨k-1,by have:=zLz hsx;omega⟩
      have hus:=zHs hsx;have hHP:=HP.out;rw [zOk hsx] at hHP
      have HP2:=Lib.hid (show (P++[x])++(zAX (zAy L (axL L)) k (si.set x true) (zAy L (axL L) x)).1=(zAX (zAy L (axL L)) N s d).1∧(zAX (zAy L (axL L)) k (si.set x true) (zAy L (axL L) x)).2=(zAX (zAy L (axL L)) N s d).2 by
       simpa using hHP)
      clear hsx HP hHP;have hx64:I64 (x:Int):=⟨by omega,by omega⟩;have HX64:=Lib.hid hx64;clear hx64;have g1:=zAk (World.grownBy.refl wr (some w1.heap.size)) (p:=⟨w1.heap.size,x,none⟩) (.inl rfl) (.bool true)
      have hownS:Own (wr.setCell ⟨w1.heap.size,x,none⟩ (.bool true)) wo.heap.size AP p cP (zEK P):=hownP.kept g1 (by
       cases hb:blk AP with
       | none=>exact .inl rfl
       | some q=>exact .inr (by have:=(hownP.lt q hb).1;simp;omega))
      have hsS:=hsi.stored x true;have hgS:=zAk hgr (p:=⟨w1.heap.size,x,none⟩) (.inl rfl) (.bool true);have hbS:=hbi.setCell (p:=⟨w1.heap.size,x,none⟩) (Nat.le_refl _) (.bool true);have hszS:(wr.setCell ⟨w1.heap.size,x,none⟩ (.bool true)).heap.size=wr.heap.size:=by simp
      have hp17:p < 17592186044416:=by omega
      clear g1 hownP hsi hgr hbi;go_wp2_with (at_builtin;refine zVP rfl _ _ rfl hownS (x:Int) rfl wr.heap.size hszS rfl HX64.out hp17 (by omega) ?_)
      intro A4 c4 w4 hown4 hb4 _ _;have hs4:=hsS.below hb4 hlt5;have hg4:=zAn hgS hb4 (Nat.le_refl _);have hb4':=zAa hbS hb4 (by omega);have hmap:zEK P++[(x:Int)]=zEK (P++[x]):=by simp [zEK]
      rw [hmap] at hown4;have hx':zAy L (axL L) x < N:=by rw [HN.out];exact g.into (by rw [←HN.out];exact hx)
      clear hownS hsS hgS hbS hb4 hmap hcx hfx hszS;have k0:=(hb1'.moreB hb4' (by have:=hb1'.size;omega)).c0;have k1:=(hb1'.moreB hb4' (by have:=hb1'.size;omega)).c1;go_wp2_with fail
      refine (zRF K x A A1 n c m c1 L _ (hA1.below hb4') g (hX.below hb4') (by rw [←HN.out];exact hx)).mono ?_;rintro e w5 ⟨rfl,hb5⟩;have hs5:=hs4.below hb5 hs4.lt;have hg5:=zAn hg4 hb5 hg4.size;have hown5:=hown4.below hb5;have hb5':=zAa hb4' hb5 (by have:=hb4'.size;omega);clear hs4 hg4 hown4 hb4' hb5 k0 k1;generalize zAy L (axL L) x=x' at hx' HP2 ⊢;have hsl:(si.set x true).length=N:=hs5.len;go_wp2_with fail
      go_roundw
      case rel=>exact ⟨x',p+1,c4,k,A4,P++[x],si.set x true,hx',rfl,rfl,hown5,hs5,hg5,hb5',by omega,by omega,HP2⟩
      case measure=>simp [zSZ];omega
  ·have hdN':d=N:=by omega
   subst hdN';have hWs:Ws=zBz L:=by
    have:=HW.out;rw [Nat.sub_self] at this;simpa [zAN] using this
   have hq:q=(zBz L).length:=by rw [←hWs,←hwk.len];simp
   rw [hWs] at hwk;subst hq;clear hWs HW;go_wp2_with fail
   go_ret;exact ⟨_,_,vs,rfl,hwk.mono (by have:=hb1'.size;omega),zAa hb1'.below hbw (by have:=hb1'.size;omega)⟩
end Go.Proofs.YtlmdfmnbcndhoaaGreatDoor
