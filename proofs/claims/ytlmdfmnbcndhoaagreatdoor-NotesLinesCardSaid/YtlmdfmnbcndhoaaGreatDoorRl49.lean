/-
  Lemmas, part 49. Conditions: each theorem's own.
-/
import Derived.Test.YtlmdfmnbcndhoaaGreatDoorRl48
import Derived.Test.YtlmdfmnbcndhoaaGreatDoorRows
import Derived.Test.YtlmdfmnbcndhoaaGreatDoorTie
import Derived.Test.YtlmdfmnbcndhoaaGreatDoorCards
import Derived.Test.YtlmdfmnbcndhoaaGreatDoorRl01
import Derived.ProofKit
import Derived.LaidMore
import Derived.OpenShut
import Derived.Stop.Joined
import Derived.SizedLaws
namespace Go.Proofs.YtlmdfmnbcndhoaaGreatDoor
open Go.RowKit
theorem zFp {A:Option Addr} {n c:Nat} {L:List Fg} {re lo:Int} {S:List UInt8} {O:List Og} {k:Nat} {E:Int} (h:rlR L re lo S=(O,k,E)) (w:World) (hA:Fgs w A n L) (hv:frB L re lo=true) :
  Calls Tryz.prog 26 #[frV A n c re lo,.string (bA S)] w (zGc w O k E):=by
 have:=zHS A n c L re lo S w hA hv;rw [h] at this;exact this
set_option maxRecDepth 100000 in
set_option maxHeartbeats 12800000 in
theorem zHT (A:Option Addr) (n c:Nat) (L:List Fg) (re lo:Int) (B:Option Addr) (m d:Nat) (Es:List Oe) (S:List UInt8) (w:World) (hA:Fgs w A n L) (hc:n≤c) (hO:Oprs w B m Es) (ht:Tabs w) :
  Calls Tryz.prog 4 #[frV A n c re lo,.slice B m d,.string (bA S)] w fun e w'=>e=.returned (.bool true)∧Below w.heap.size w w':=by
 have aR:=qH hO.len;have eQ:=qH hA.len;have HA:=qH hA;have HO:=qH hO;have HT:=qH ht;have HB:=qH (Below.refl w.heap.size w);have HC:=qH hc;have hs:=zCD S;obtain ⟨nS,eN⟩:∃k,S.length=k:=⟨_,rfl⟩
 rw [eN] at hs;have HN:=qH eN;clear hA hO ht hc eN;by_cases h60:n≤60
 ·cases hft:zQp 8 Es with
  | true =>
   by_cases h9:nS≤9000
   ·skip;have HS:=qH (show decide (n≤60)=true by simpa using h60);have i0:¬(9000:Int) < (nS:Int):=by omega
    have sF:m≤8:=by have:=(zJs hft).1;have:=aR.out;omega
    have HM:=qH (show m≤10000 by omega);have vy:=qH (zVk hft);have HF4:=qH (show ∀e∈Es,e.n≤4000 from fun e he=>Nat.le_trans ((zJs hft).2 e he) (by omega));have zg:=qH hft;obtain ⟨E1,yf⟩:∃E,zAF L re lo (ogs Es)=E:=⟨_,rfl⟩
    obtain ⟨S1,gP⟩:∃S,(if E1=0 then zBD L (ogs Es) else [])=S:=⟨_,rfl⟩
    obtain ⟨⟨O,kn,E⟩,E4⟩:∃x,rlR L re lo S=x:=⟨_,rfl⟩
    obtain ⟨v,hv⟩:∃v,frB L re lo=v:=⟨_,rfl⟩
    have vz:=qH yf;have cn:=qH gP;have gC:=qH E4;have HV:=qH hv;have AN:=qH sF;clear hft h60 h9 sF yf gP E4 hv;go_enter Tryz.func4,Tryz.ntmps4;have hba:=(Below.refl w.heap.size w).alloc (Nat.le_refl _) (.cells #[.slice A n c,.int .i64 re,.int .i64 lo] 24);replace HA:=qH (HA.out.below hba);replace HO:=qH (HO.out.below hba);replace HT:=qH (HT.out.below hba);replace HB:=qH (zAa HB.out hba HB.out.size);have kf:=Blk.new w 24 #[.slice A n c,.int .i64 re,.int .i64 lo];clear hba;go_upto_region 1 with fail
    generalize w.alloc (.cells #[.slice A n c,.int .i64 re,.int .i64 lo] 24)=X at HA HO HT HB kf ⊢;have c0:X.cell? ⟨w.heap.size,0,none⟩=some (.slice A n c):=(kf.cell 0).trans rfl;have c1:X.cell? ⟨w.heap.size,1,none⟩=some (.int .i64 re):=(kf.cell 1).trans rfl;have c2:X.cell? ⟨w.heap.size,2,none⟩=some (.int .i64 lo):=(kf.cell 2).trans rfl;go_wp2_with fail
    refine (zFo HS.out A c re lo _).mono ?_;rintro e v9 ⟨rfl,hb⟩;clear c0 c1 c2;replace HA:=qH (HA.out.below hb);replace HO:=qH (HO.out.below hb);replace HT:=qH (HT.out.below hb);replace HB:=qH (zAa HB.out hb HB.out.size);replace kf:=kf.below hb kf.lt;clear hb;have c0:v9.cell? ⟨w.heap.size,0,none⟩=some (.slice A n c):=(kf.cell 0).trans rfl;have c1:v9.cell? ⟨w.heap.size,1,none⟩=some (.int .i64 re):=(kf.cell 1).trans rfl;have c2:v9.cell? ⟨w.heap.size,2,none⟩=some (.int .i64 lo):=(kf.cell 2).trans rfl;go_wp2_with fail
    refine (zMg (most:=8) zg.out B m d _ HO.out (by omega)).mono ?_;rintro e mR ⟨rfl,hb⟩;clear c0 c1 c2;replace HA:=qH (HA.out.below hb);replace HO:=qH (HO.out.below hb);replace HT:=qH (HT.out.below hb);replace HB:=qH (zAa HB.out hb HB.out.size);replace kf:=kf.below hb kf.lt;clear hb;have c0:mR.cell? ⟨w.heap.size,0,none⟩=some (.slice A n c):=(kf.cell 0).trans rfl;have c1:mR.cell? ⟨w.heap.size,1,none⟩=some (.int .i64 re):=(kf.cell 1).trans rfl;have c2:mR.cell? ⟨w.heap.size,2,none⟩=some (.int .i64 lo):=(kf.cell 2).trans rfl;go_wp2_with fail
    refine (zSI vz.out cn.out d _ HA.out HC.out HO.out HM.out vy.out HT.out).mono ?_;rintro e nU ⟨rfl,hb⟩;clear c0 c1 c2;replace HA:=qH (HA.out.below hb);replace HO:=qH (HO.out.below hb);replace HT:=qH (HT.out.below hb);replace HB:=qH (zAa HB.out hb HB.out.size);replace kf:=kf.below hb kf.lt;clear hb;have c0:nU.cell? ⟨w.heap.size,0,none⟩=some (.slice A n c):=(kf.cell 0).trans rfl;have c1:nU.cell? ⟨w.heap.size,1,none⟩=some (.int .i64 re):=(kf.cell 1).trans rfl;have c2:nU.cell? ⟨w.heap.size,2,none⟩=some (.int .i64 lo):=(kf.cell 2).trans rfl;go_wp2_with fail
    refine (zKQ gC.out _ HA.out HC.out HT.out).mono ?_;rintro e Bo ⟨B4,m4,d4,DO,rfl,fc,hml,hO,hb⟩;clear c0 c1 c2;replace HA:=qH (HA.out.below hb);replace HO:=qH (HO.out.below hb);replace HT:=qH (HT.out.below hb);replace HB:=qH (zAa HB.out hb HB.out.size);replace kf:=kf.below hb kf.lt;have HQ:=qH (hO.oprs hml);have AS:=qH (show ogs DO=O from fc);clear hb hO hml fc;have c0:Bo.cell? ⟨w.heap.size,0,none⟩=some (.slice A n c):=(kf.cell 0).trans rfl;have c1:Bo.cell? ⟨w.heap.size,1,none⟩=some (.int .i64 re):=(kf.cell 1).trans rfl;have c2:Bo.cell? ⟨w.heap.size,2,none⟩=some (.int .i64 lo):=(kf.cell 2).trans rfl;go_wp2_with fail
    refine (zOi vz.out d _ HA.out HO.out).mono ?_;rintro e tx ⟨rfl,hb⟩;clear c0 c1 c2;replace HA:=qH (HA.out.below hb);replace HO:=qH (HO.out.below hb);replace HT:=qH (HT.out.below hb);replace HB:=qH (zAa HB.out hb HB.out.size);replace kf:=kf.below hb kf.lt;replace HQ:=qH (HQ.out.below hb);clear hb;by_cases h10:E1=0
    ·subst h10;have fM:=qH (show zBD L (ogs Es)=S1 by have:=cn.out;rwa [if_pos rfl] at this);have GQ:=qH (zHE vz.out).2.1;have pH:=qH GQ.out.tok;have tg:=qH (show ∀e∈Es,zAg L.length e.o=true from fun e he=>(zHE vz.out).2.2 _ (List.mem_map.2 ⟨_,he,rfl⟩));have t0:=zVl S1;have hstart:Hid ([]=zHR L Es 0):=qH (zOm L Es).symm;clear cn;go_wp2_with fail
     go_loopw [12,14] (fun v7 v8 wr=>∃(i:Nat) (T:List UInt8),i≤m∧v8=.int .i64 i∧v7=.string (bA T)∧Below tx.heap.size tx wr∧Hid (T=zHR L Es i)∧T.length≤i*480301) (fun _ v8 _=>m-(intOf v8).toNat)
     case atStart=>exact ⟨0,[],Nat.zero_le _,rfl,rfl,Below.refl _ _,hstart,by simp⟩
     case round =>
      obtain ⟨i,T,hi,rfl,rfl,hbr,ep,nf⟩:=hrel;have tu:=qH hbr;replace HA:=qH (HA.out.below hbr);replace HO:=qH (HO.out.below hbr);replace HT:=qH (HT.out.below hbr);replace HB:=qH (zAa HB.out hbr HB.out.size);replace kf:=kf.below hbr kf.lt;replace HQ:=qH (HQ.out.below hbr);clear hbr hstart;have sF:m≤8:=AN.out;by_cases hlt:i < m
      ·have j0:(0:Int)≤(i:Int):=by omega
       have j1:(i:Int) < (m:Int):=by omega
       have hil:i < Es.length:=by rw [aR.out];exact hlt
       have hsn:=zOl L hil;have hme:oa Es i∈Es:=List.mem_of_getElem? (zBn hil);have hri:=tg.out _ hme;have hen:=HF4.out _ hme;have hpl:=(HO.out.2 _ hme).path.len;have Fi:=zKc GQ.out hri;obtain ⟨IT,jH⟩:∃T,zBb L (oa Es i).o=T:=⟨_,rfl⟩
       rw [jH] at hsn Fi;have CE:IT.length≤480300:=by omega
       obtain ⟨Y0,z7⟩:∃U,T++IT=U:=⟨_,rfl⟩
       obtain ⟨Y1,ir⟩:∃U,Y0++[10]=U:=⟨_,rfl⟩
       have y0:Y0.length≤i*480301+480300:=by rw [←z7,List.length_append];omega
       have y1:Y1.length≤(i+1)*480301:=by rw [←ir,List.length_append];simp only [List.length_cons,List.length_nil];omega
       have r0:=zAp z7 _ _ rfl rfl (by omega) (by omega);have r1:=zAp ir _ ⟨#[10]⟩ rfl rfl (by omega) (by simp);have kT:=qH (show Y1=zHR L Es (i+1) by rw [hsn,←ir,←z7,ep.out]);have vK:i+1≤m:=hlt;have vo:=qH (show zAg n (oa Es i).o=true by rw [←eQ.out];exact hri);have GS:=qH (show (oa Es i).n≤10000 by omega);have kW:=qH jH;clear hsn hme hri hen hpl Fi CE jH z7 ir y0 ep hil;obtain ⟨g,p,rfl,hg,⟨x0,x1,x2,x3,x4,x5,x6,x7⟩,hin⟩:=HO.out.at_ hlt;have ze:=qH hin;generalize hoe:oa Es i=e at x0 x1 x2 x3 x4 x5 x6 x7 ze;have AJ:=qH hoe;obtain ⟨⟨kk,ff,⟨gf,gl,gfar,gpc⟩,gp,go⟩,eA,en,ec⟩:=e;simp only at x0 x1 x2 x3 x4 x5 x6 x7;clear hin hoe;have HX:=qH (show g < wr.heap.size∧wr.cell? ⟨g,p+i*8,none⟩=some (.int .i64 kk)∧wr.cell? ⟨g,p+i*8+1,none⟩=some (.int .i64 ff)∧wr.cell? ⟨g,p+i*8+2,none⟩=some (.int .i64 gf)∧wr.cell? ⟨g,p+i*8+3,none⟩=some (.int .i64 gl)∧wr.cell? ⟨g,p+i*8+4,none⟩=some (.bool gfar)∧wr.cell? ⟨g,p+i*8+5,none⟩=some (.int .i64 gpc)∧wr.cell? ⟨g,p+i*8+6,none⟩=some (.slice eA en ec)∧wr.cell? ⟨g,p+i*8+7,none⟩=some (.bool go) from ⟨hg,x0,x1,x2,x3,x4,x5,x6,x7⟩);clear x0 x1 x2 x3 x4 x5 x6 x7 hg;rw [AJ.out] at vo GS kW;go_upto_region 13 with fail
       have k0:∀wx,Below wr.heap.size wr wx→(Below wr.heap.size wr wx∧wx.cell? ⟨w.heap.size,0,none⟩=some (.slice A n c)∧wx.cell? ⟨w.heap.size,1,none⟩=some (.int .i64 re)∧wx.cell? ⟨w.heap.size,2,none⟩=some (.int .i64 lo)∧wx.cell? ⟨g,p+i*8,none⟩=some (.int .i64 kk)∧wx.cell? ⟨g,p+i*8+1,none⟩=some (.int .i64 ff)∧wx.cell? ⟨g,p+i*8+2,none⟩=some (.int .i64 gf)∧wx.cell? ⟨g,p+i*8+3,none⟩=some (.int .i64 gl)∧wx.cell? ⟨g,p+i*8+4,none⟩=some (.bool gfar)∧wx.cell? ⟨g,p+i*8+5,none⟩=some (.int .i64 gpc)∧wx.cell? ⟨g,p+i*8+6,none⟩=some (.slice eA en ec)∧wx.cell? ⟨g,p+i*8+7,none⟩=some (.bool go)):=fun wx h=>⟨h,((kf.below h kf.lt).cell 0).trans rfl,((kf.below h kf.lt).cell 1).trans rfl,((kf.below h kf.lt).cell 2).trans rfl,(h.cell (p:=⟨g,p+i*8,none⟩) HX.out.1).trans HX.out.2.1,(h.cell (p:=⟨g,p+i*8+1,none⟩) HX.out.1).trans HX.out.2.2.1,(h.cell (p:=⟨g,p+i*8+2,none⟩) HX.out.1).trans HX.out.2.2.2.1,(h.cell (p:=⟨g,p+i*8+3,none⟩) HX.out.1).trans HX.out.2.2.2.2.1,(h.cell (p:=⟨g,p+i*8+4,none⟩) HX.out.1).trans HX.out.2.2.2.2.2.1,(h.cell (p:=⟨g,p+i*8+5,none⟩) HX.out.1).trans HX.out.2.2.2.2.2.2.1,(h.cell (p:=⟨g,p+i*8+6,none⟩) HX.out.1).trans HX.out.2.2.2.2.2.2.2.1,(h.cell (p:=⟨g,p+i*8+7,none⟩) HX.out.1).trans HX.out.2.2.2.2.2.2.2.2⟩
       have KP:=qH k0;clear k0;have uW:=(KP.out wr (Below.refl _ _)).2.1;have uV:=(KP.out wr (Below.refl _ _)).2.2.1;have yw:=(KP.out wr (Below.refl _ _)).2.2.2.1;have yv:=(KP.out wr (Below.refl _ _)).2.2.2.2.1;have CO:=(KP.out wr (Below.refl _ _)).2.2.2.2.2.1;have CN:=(KP.out wr (Below.refl _ _)).2.2.2.2.2.2.1;have gq6:=(KP.out wr (Below.refl _ _)).2.2.2.2.2.2.2.1;have gq7:=(KP.out wr (Below.refl _ _)).2.2.2.2.2.2.2.2.1;have gq8:=(KP.out wr (Below.refl _ _)).2.2.2.2.2.2.2.2.2.1;have gq9:=(KP.out wr (Below.refl _ _)).2.2.2.2.2.2.2.2.2.2.1;have CP:=(KP.out wr (Below.refl _ _)).2.2.2.2.2.2.2.2.2.2.2
       first
        | go_region_held3 (fun wx=>Below wr.heap.size wr wx∧wx.cell? ⟨w.heap.size,0,none⟩=some (.slice A n c)∧wx.cell? ⟨w.heap.size,1,none⟩=some (.int .i64 re)∧wx.cell? ⟨w.heap.size,2,none⟩=some (.int .i64 lo)∧wx.cell? ⟨g,p+i*8,none⟩=some (.int .i64 kk)∧wx.cell? ⟨g,p+i*8+1,none⟩=some (.int .i64 ff)∧wx.cell? ⟨g,p+i*8+2,none⟩=some (.int .i64 gf)∧wx.cell? ⟨g,p+i*8+3,none⟩=some (.int .i64 gl)∧wx.cell? ⟨g,p+i*8+4,none⟩=some (.bool gfar)∧wx.cell? ⟨g,p+i*8+5,none⟩=some (.int .i64 gpc)∧wx.cell? ⟨g,p+i*8+6,none⟩=some (.slice eA en ec)∧wx.cell? ⟨g,p+i*8+7,none⟩=some (.bool go)) (first | assumption | exact KP.out _ (Below.refl _ _).drew | exact KP.out _ (zAa (And.left (by assumption)) (by assumption) (Below.size (And.left (by assumption)))))
          (first
           | (go_at_call 25;refine (zNf kW.out _ _ _ _ (HA.out.below (And.left (by assumption))) pH.out (ze.out.below (And.left (by assumption))) vo.out GS.out).mono ?_;rintro e wd ⟨rfl,hbd⟩))
        | fail
       all_goals
        have hbf:=And.left (show Below wr.heap.size wr _∧_ by assumption);clear uW uV yw yv CO CN gq6 gq7 gq8 gq9 CP;have ai:=zAa tu.out hbf tu.out.size;go_wp2_with fail
        go_roundw
        case rel=>exact ⟨i+1,Y1,vK,by go_num,rfl,ai,kT,y1⟩
        case measure=>simp [intOf];omega
      ·have hin:i=m:=by omega
       have j1:¬(i:Int) < (m:Int):=by omega
       obtain rfl:T=S1:=by rw [ep.out,←fM.out,hin,←aR.out,zQE]
       clear hin ep nf;have c0:wr.cell? ⟨w.heap.size,0,none⟩=some (.slice A n c):=(kf.cell 0).trans rfl;have c1:wr.cell? ⟨w.heap.size,1,none⟩=some (.int .i64 re):=(kf.cell 1).trans rfl;have c2:wr.cell? ⟨w.heap.size,2,none⟩=some (.int .i64 lo):=(kf.cell 2).trans rfl;go_wp2_with fail
       refine (zHC HV.out _ HA.out).mono ?_;rintro e pK ⟨rfl,hb⟩;clear c0 c1 c2;replace HA:=qH (HA.out.below hb);replace HO:=qH (HO.out.below hb);replace HT:=qH (HT.out.below hb);replace HB:=qH (zAa HB.out hb HB.out.size);replace kf:=kf.below hb kf.lt;replace HQ:=qH (HQ.out.below hb);clear hb
       cases v with
       | false =>
        have hq:rlR L re lo S=([],0,2):=by
         have hb:zAy L re lo S=2:=by unfold zAy;rw [HV.out];rfl
         unfold rlR;rw [if_neg (by omega),hb]
        have fN:=gC.out.symm.trans hq;injection fN with hq3 hq4
        injection hq4 with hq4 hq5
        subst hq3;subst hq4;subst hq5
        obtain rfl:m4=0:=by
         have h1:=HQ.out.len;have h2:=AS.out;rw [←h1];have h3:=congrArg List.length h2;unfold ogs at h3;rwa [List.length_map] at h3
        clear hq gC HV;go_wp2_with fail
        refine (zCv _ HT.out).mono ?_;rintro e v15 ⟨rfl,hb⟩;replace HA:=qH (HA.out.below hb);replace HO:=qH (HO.out.below hb);replace HT:=qH (HT.out.below hb);replace HB:=qH (zAa HB.out hb HB.out.size);replace kf:=kf.below hb kf.lt;replace HQ:=qH (HQ.out.below hb);clear hb;go_wp2_with fail
        go_ret;exact ⟨rfl,HB.out⟩
       | true =>
        have vk:=qH HV.out;have t1:(E==E)=true:=by simp
        have t2:((kn:Int)==(kn:Int))=true:=by simp
        have c0:pK.cell? ⟨w.heap.size,0,none⟩=some (.slice A n c):=(kf.cell 0).trans rfl;have c1:pK.cell? ⟨w.heap.size,1,none⟩=some (.int .i64 re):=(kf.cell 1).trans rfl;have c2:pK.cell? ⟨w.heap.size,2,none⟩=some (.int .i64 lo):=(kf.cell 2).trans rfl;go_wp2_with fail
        refine (zFp gC.out _ HA.out vk.out).mono ?_;rintro e zy ⟨B2,m2,C1,DP,rfl,fc,hml,hO,hb⟩;clear c0 c1 c2;replace HA:=qH (HA.out.below hb);replace HO:=qH (HO.out.below hb);replace HT:=qH (HT.out.below hb);replace HB:=qH (zAa HB.out hb HB.out.size);replace kf:=kf.below hb kf.lt;replace HQ:=qH (HQ.out.below hb);have jx:=qH (hO.oprs hml);have yV:=qH (zIr (show ogs DO=ogs DP from AS.out.trans fc.symm) B4 m4 d4 B2 m2 C1 _ HQ.out jx.out);clear hb hO hml fc;go_wp2_with fail
        refine yV.out.mono ?_;rintro e v17 ⟨rfl,hb⟩;replace HA:=qH (HA.out.below hb);replace HO:=qH (HO.out.below hb);replace HT:=qH (HT.out.below hb);replace HB:=qH (zAa HB.out hb HB.out.size);replace kf:=kf.below hb kf.lt;replace HQ:=qH (HQ.out.below hb);clear hb yV;go_wp2_with fail
        refine (zCv _ HT.out).mono ?_;rintro e zx ⟨rfl,hb⟩;replace HA:=qH (HA.out.below hb);replace HO:=qH (HO.out.below hb);replace HT:=qH (HT.out.below hb);replace HB:=qH (zAa HB.out hb HB.out.size);replace kf:=kf.below hb kf.lt;replace HQ:=qH (HQ.out.below hb);clear hb;go_wp2_with fail
        go_ret;exact ⟨rfl,HB.out⟩
    ·have vP:S1=[]:=by rw [←cn.out,if_neg h10]
     subst vP;have k1:(E1==0)=false:=by simpa using h10
     have k2:(E1 != 0)=true:=by simpa using h10
     have k3:(E1 != E1)=false:=by simp
     have k4:(E1==E1)=true:=by simp
     have e0:(bA ([]:List UInt8)).toList.isEmpty=true:=by rw [zAr];rfl
     have e1:((bA ([]:List UInt8)).toList==[])=true:=by rw [zAr];rfl
     clear h10 cn;have c0:tx.cell? ⟨w.heap.size,0,none⟩=some (.slice A n c):=(kf.cell 0).trans rfl;have c1:tx.cell? ⟨w.heap.size,1,none⟩=some (.int .i64 re):=(kf.cell 1).trans rfl;have c2:tx.cell? ⟨w.heap.size,2,none⟩=some (.int .i64 lo):=(kf.cell 2).trans rfl;go_wp2_with fail
     refine (zHC HV.out _ HA.out).mono ?_;rintro e nT ⟨rfl,hb⟩;clear c0 c1 c2;replace HA:=qH (HA.out.below hb);replace HO:=qH (HO.out.below hb);replace HT:=qH (HT.out.below hb);replace HB:=qH (zAa HB.out hb HB.out.size);replace kf:=kf.below hb kf.lt;replace HQ:=qH (HQ.out.below hb);clear hb
     cases v with
     | false =>
      have hq:rlR L re lo S=([],0,2):=by
       have hb:zAy L re lo S=2:=by unfold zAy;rw [HV.out];rfl
       unfold rlR;rw [if_neg (by omega),hb]
      have fN:=gC.out.symm.trans hq;injection fN with hq3 hq4
      injection hq4 with hq4 hq5
      subst hq3;subst hq4;subst hq5
      obtain rfl:m4=0:=by
       have h1:=HQ.out.len;have h2:=AS.out;rw [←h1];have h3:=congrArg List.length h2;unfold ogs at h3;rwa [List.length_map] at h3
      clear hq gC HV;go_wp2_with fail
      refine (zCv _ HT.out).mono ?_;rintro e v20 ⟨rfl,hb⟩;replace HA:=qH (HA.out.below hb);replace HO:=qH (HO.out.below hb);replace HT:=qH (HT.out.below hb);replace HB:=qH (zAa HB.out hb HB.out.size);replace kf:=kf.below hb kf.lt;replace HQ:=qH (HQ.out.below hb);clear hb;go_wp2_with fail
      go_ret;exact ⟨rfl,HB.out⟩
     | true =>
      have vk:=qH HV.out;have t1:(E==E)=true:=by simp
      have t2:((kn:Int)==(kn:Int))=true:=by simp
      have c0:nT.cell? ⟨w.heap.size,0,none⟩=some (.slice A n c):=(kf.cell 0).trans rfl;have c1:nT.cell? ⟨w.heap.size,1,none⟩=some (.int .i64 re):=(kf.cell 1).trans rfl;have c2:nT.cell? ⟨w.heap.size,2,none⟩=some (.int .i64 lo):=(kf.cell 2).trans rfl;go_wp2_with fail
      refine (zFp gC.out _ HA.out vk.out).mono ?_;rintro e v21 ⟨B2,m2,C1,DP,rfl,fc,hml,hO,hb⟩;clear c0 c1 c2;replace HA:=qH (HA.out.below hb);replace HO:=qH (HO.out.below hb);replace HT:=qH (HT.out.below hb);replace HB:=qH (zAa HB.out hb HB.out.size);replace kf:=kf.below hb kf.lt;replace HQ:=qH (HQ.out.below hb);have jx:=qH (hO.oprs hml);have yV:=qH (zIr (show ogs DO=ogs DP from AS.out.trans fc.symm) B4 m4 d4 B2 m2 C1 _ HQ.out jx.out);clear hb hO hml fc;go_wp2_with fail
      refine yV.out.mono ?_;rintro e zv ⟨rfl,hb⟩;replace HA:=qH (HA.out.below hb);replace HO:=qH (HO.out.below hb);replace HT:=qH (HT.out.below hb);replace HB:=qH (zAa HB.out hb HB.out.size);replace kf:=kf.below hb kf.lt;replace HQ:=qH (HQ.out.below hb);clear hb yV;go_wp2_with fail
      refine (zCv _ HT.out).mono ?_;rintro e v23 ⟨rfl,hb⟩;replace HA:=qH (HA.out.below hb);replace HO:=qH (HO.out.below hb);replace HT:=qH (HT.out.below hb);replace HB:=qH (zAa HB.out hb HB.out.size);replace kf:=kf.below hb kf.lt;replace HQ:=qH (HQ.out.below hb);clear hb;go_wp2_with fail
      go_ret;exact ⟨rfl,HB.out⟩
   ·skip;have HS:=qH (show decide (n≤60)=true by simpa using h60);have zg:=qH hft;have i0:(9000:Int) < (nS:Int):=by omega
    clear hft h60 h9;go_enter Tryz.func4,Tryz.ntmps4;have hba:=(Below.refl w.heap.size w).alloc (Nat.le_refl _) (.cells #[.slice A n c,.int .i64 re,.int .i64 lo] 24);replace HA:=qH (HA.out.below hba);replace HO:=qH (HO.out.below hba);replace HT:=qH (HT.out.below hba);replace HB:=qH (zAa HB.out hba HB.out.size);have kf:=Blk.new w 24 #[.slice A n c,.int .i64 re,.int .i64 lo];clear hba;go_upto_region 1 with fail
    generalize w.alloc (.cells #[.slice A n c,.int .i64 re,.int .i64 lo] 24)=X at HA HO HT HB kf ⊢;have c0:X.cell? ⟨w.heap.size,0,none⟩=some (.slice A n c):=(kf.cell 0).trans rfl;have c1:X.cell? ⟨w.heap.size,1,none⟩=some (.int .i64 re):=(kf.cell 1).trans rfl;have c2:X.cell? ⟨w.heap.size,2,none⟩=some (.int .i64 lo):=(kf.cell 2).trans rfl;go_wp2_with fail
    refine (zFo HS.out A c re lo _).mono ?_;rintro e v6 ⟨rfl,hb⟩;clear c0 c1 c2;replace HA:=qH (HA.out.below hb);replace HO:=qH (HO.out.below hb);replace HT:=qH (HT.out.below hb);replace HB:=qH (zAa HB.out hb HB.out.size);replace kf:=kf.below hb kf.lt;clear hb;have c0:v6.cell? ⟨w.heap.size,0,none⟩=some (.slice A n c):=(kf.cell 0).trans rfl;have c1:v6.cell? ⟨w.heap.size,1,none⟩=some (.int .i64 re):=(kf.cell 1).trans rfl;have c2:v6.cell? ⟨w.heap.size,2,none⟩=some (.int .i64 lo):=(kf.cell 2).trans rfl;go_wp2_with fail
    refine (zMg (most:=8) zg.out B m d _ HO.out (by omega)).mono ?_;rintro e v7 ⟨rfl,hb⟩;clear c0 c1 c2;replace HA:=qH (HA.out.below hb);replace HO:=qH (HO.out.below hb);replace HT:=qH (HT.out.below hb);replace HB:=qH (zAa HB.out hb HB.out.size);replace kf:=kf.below hb kf.lt;clear hb;go_wp2_with fail
    refine (zCv _ HT.out).mono ?_;rintro e v8 ⟨rfl,hb⟩;replace HA:=qH (HA.out.below hb);replace HO:=qH (HO.out.below hb);replace HT:=qH (HT.out.below hb);replace HB:=qH (zAa HB.out hb HB.out.size);replace kf:=kf.below hb kf.lt;clear hb;go_wp2_with fail
    go_ret;exact ⟨rfl,HB.out⟩
  | false =>
   have HS:=qH (show decide (n≤60)=true by simpa using h60);have zg:=qH hft;clear hft h60;go_enter Tryz.func4,Tryz.ntmps4;have hba:=(Below.refl w.heap.size w).alloc (Nat.le_refl _) (.cells #[.slice A n c,.int .i64 re,.int .i64 lo] 24);replace HA:=qH (HA.out.below hba);replace HO:=qH (HO.out.below hba);replace HT:=qH (HT.out.below hba);replace HB:=qH (zAa HB.out hba HB.out.size);have kf:=Blk.new w 24 #[.slice A n c,.int .i64 re,.int .i64 lo];clear hba;go_upto_region 1 with fail
   generalize w.alloc (.cells #[.slice A n c,.int .i64 re,.int .i64 lo] 24)=X at HA HO HT HB kf ⊢;have c0:X.cell? ⟨w.heap.size,0,none⟩=some (.slice A n c):=(kf.cell 0).trans rfl;have c1:X.cell? ⟨w.heap.size,1,none⟩=some (.int .i64 re):=(kf.cell 1).trans rfl;have c2:X.cell? ⟨w.heap.size,2,none⟩=some (.int .i64 lo):=(kf.cell 2).trans rfl;go_wp2_with fail
   refine (zFo HS.out A c re lo _).mono ?_;rintro e v3 ⟨rfl,hb⟩;clear c0 c1 c2;replace HA:=qH (HA.out.below hb);replace HO:=qH (HO.out.below hb);replace HT:=qH (HT.out.below hb);replace HB:=qH (zAa HB.out hb HB.out.size);replace kf:=kf.below hb kf.lt;clear hb;have c0:v3.cell? ⟨w.heap.size,0,none⟩=some (.slice A n c):=(kf.cell 0).trans rfl;have c1:v3.cell? ⟨w.heap.size,1,none⟩=some (.int .i64 re):=(kf.cell 1).trans rfl;have c2:v3.cell? ⟨w.heap.size,2,none⟩=some (.int .i64 lo):=(kf.cell 2).trans rfl;go_wp2_with fail
   refine (zMg (most:=8) zg.out B m d _ HO.out (by omega)).mono ?_;rintro e v4 ⟨rfl,hb⟩;clear c0 c1 c2;replace HA:=qH (HA.out.below hb);replace HO:=qH (HO.out.below hb);replace HT:=qH (HT.out.below hb);replace HB:=qH (zAa HB.out hb HB.out.size);replace kf:=kf.below hb kf.lt;clear hb;go_wp2_with fail
   refine (zCv _ HT.out).mono ?_;rintro e v5 ⟨rfl,hb⟩;replace HA:=qH (HA.out.below hb);replace HO:=qH (HO.out.below hb);replace HT:=qH (HT.out.below hb);replace HB:=qH (zAa HB.out hb HB.out.size);replace kf:=kf.below hb kf.lt;clear hb;go_wp2_with fail
   go_ret;exact ⟨rfl,HB.out⟩
 ·skip;have HS:=qH (show decide (n≤60)=false by simpa using h60);clear h60;go_enter Tryz.func4,Tryz.ntmps4;have hba:=(Below.refl w.heap.size w).alloc (Nat.le_refl _) (.cells #[.slice A n c,.int .i64 re,.int .i64 lo] 24);replace HA:=qH (HA.out.below hba);replace HO:=qH (HO.out.below hba);replace HT:=qH (HT.out.below hba);replace HB:=qH (zAa HB.out hba HB.out.size);have kf:=Blk.new w 24 #[.slice A n c,.int .i64 re,.int .i64 lo];clear hba;go_upto_region 1 with fail
  generalize w.alloc (.cells #[.slice A n c,.int .i64 re,.int .i64 lo] 24)=X at HA HO HT HB kf ⊢;have c0:X.cell? ⟨w.heap.size,0,none⟩=some (.slice A n c):=(kf.cell 0).trans rfl;have c1:X.cell? ⟨w.heap.size,1,none⟩=some (.int .i64 re):=(kf.cell 1).trans rfl;have c2:X.cell? ⟨w.heap.size,2,none⟩=some (.int .i64 lo):=(kf.cell 2).trans rfl;go_wp2_with fail
  refine (zFo HS.out A c re lo _).mono ?_;rintro e v1 ⟨rfl,hb⟩;clear c0 c1 c2;replace HA:=qH (HA.out.below hb);replace HO:=qH (HO.out.below hb);replace HT:=qH (HT.out.below hb);replace HB:=qH (zAa HB.out hb HB.out.size);replace kf:=kf.below hb kf.lt;clear hb;go_wp2_with fail
  refine (zCv _ HT.out).mono ?_;rintro e v2 ⟨rfl,hb⟩;replace HA:=qH (HA.out.below hb);replace HO:=qH (HO.out.below hb);replace HT:=qH (HT.out.below hb);replace HB:=qH (zAa HB.out hb HB.out.size);replace kf:=kf.below hb kf.lt;clear hb;go_wp2_with fail
  go_ret;exact ⟨rfl,HB.out⟩
end Go.Proofs.YtlmdfmnbcndhoaaGreatDoor
namespace Go.Proofs.YtlmdfmnbcndhoaaGreatDoor
open Go.ChangeShapes Go.WideShapes Go.ChangeAt Go.WideElems Go.RowKit
section
variable {H:Type} {enc:TypeId×Value→H} {P:Program}
theorem zFq (hl:laidOutB P=true) {W W':World} {sp':Nat→Bool} (hb:Below W.heap.size W W'):∀(ts:List TypeId) (vs:List Value) (ds:List (DataW H)) (ps:List MemPlace),
  (∀t∈ts,P.readableRec t=true∧t < P.types.size)→DataW.TrodAll enc P W 0 (fun _=>true) true ts vs ds ps→(∀p∈ps,p.block < W.heap.size)→(∀p∈ps,sp' p.block=true)→DataW.TrodAll enc P W' 0 sp' true ts vs ds ps
 | [],[],[],_,_,h,_,_=>h
 | [],[],_ :: _,_,_,h,_,_=>h.elim
 | [],_ :: _,_,_,_,h,_,_=>h.elim
 | _ :: _,[],_,_,_,h,_,_=>h.elim
 | _ :: _,_ :: _,[],_,_,h,_,_=>h.elim
 | t :: ts,v :: vs,d :: ds,ps,ht,h,hlt,hsp=>by
  obtain ⟨p,q,h1,h2,rfl⟩:=h;refine ⟨p,q,?_,?_,rfl⟩
  ·exact Trod_stays hl (ht t (by simp)).1 (ht t (by simp)).2 h1 (fun x hx=>hb.same (hlt x (by simp [hx]))) (fun x hx=>hsp x (by simp [hx]))
  ·exact zFq hl hb ts vs ds q (fun t' h'=>ht t' (by simp [h'])) h2 (fun x hx=>hlt x (by simp [hx])) (fun x hx=>hsp x (by simp [hx]))
theorem zJA {f:Func} {s:ChangeSpec} {apart fresh handsOn again:Bool} {W W':World} {args:Array Value} {v:Value} {ds:List (DataW H)} {before:List MemPlace} (hl:laidOutB P=true) (hb:Below W.heap.size W W')
  (hvs:s.vars=[]) (hfn:(s.fn H ds).args=ds) (hfv:(s.fn H ds).vars=[])
  (hts:∀t∈f.params.toList,P.readableRec t=true∧t < P.types.size)
  (hW:DataW.Whole enc P f.params.toList s.vars apart W args.toList ds [] before)
  (hres:∀(b:Nat) (sp:Nat→Bool) (hd:Bool),DataW.TrodAll enc P W' b sp hd f.resultTypes.toList (v.resultList f.resultTypes.size) (s.fn H ds).results [])
  (hok:∀(j:Nat) (t:TypeId) (r:Value),f.resultTypes[j]? = some t→(v.resultList f.resultTypes.size)[j]? = some r→Value.okWide P W' .any 0 t r) :
  s.post enc P f apart fresh handsOn again W args v W':=by
 have hlt:=hW.lt;have cA:=hW;obtain ⟨pa,pv,hA,hV,rfl,hz,hn⟩:=cA;rw [hvs] at hV;obtain rfl:pv=[]:=hV;simp only [List.append_nil] at *;have tb:∀sp:Nat→Bool,(∀p∈pa,sp p.block=true)→DataW.TrodAll enc P W' 0 sp true f.params.toList args.toList (s.fn H (ds++[])).args pa:=fun sp hsp=>by
  rw [List.append_nil,hfn];exact zFq hl hb _ _ _ _ hts hA hlt hsp
 have qE:∀sp:Nat→Bool,DataW.TrodVars enc P W' sp s.vars (s.fn H (ds++[])).vars []:=fun sp=>by
  rw [List.append_nil,hfv,hvs];rfl
 refine ⟨ds,[],pa,[],pa,[],hW,by rw [List.append_nil];exact hres _ _ _,tb _ (fun p hp=>by simpa using hlt p hp),qE _,hb.frame _,fun _=>?_⟩;refine ⟨hok,_,_,([]++pa)++[],⟨[]++pa,[],trodAll_append (tb _ (fun _ _=>rfl)) (hres _ _ _),qE _,rfl,?_,?_⟩,?_⟩
 ·intro b off hp;have pw:MemPlace.cell b off∈pa:=by simpa using hp
  rw [hb.frozen (p:=⟨b,off,none⟩) (hlt _ pw)];exact hz b off pw
 ·intro ha;simpa using hn ha
 ·intro p hp _;simpa using hp
end
end Go.Proofs.YtlmdfmnbcndhoaaGreatDoor
