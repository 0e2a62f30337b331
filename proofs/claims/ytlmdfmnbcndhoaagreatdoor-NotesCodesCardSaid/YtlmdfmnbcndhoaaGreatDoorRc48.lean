/-
  Lemmas, part 48. Conditions: each theorem's own.
-/
import Derived.Test.YtlmdfmnbcndhoaaGreatDoorRc41
import Derived.Test.YtlmdfmnbcndhoaaGreatDoorRc43
import Derived.Test.YtlmdfmnbcndhoaaGreatDoorRc47
import Derived.Test.YtlmdfmnbcndhoaaGreatDoorRows
import Derived.Test.YtlmdfmnbcndhoaaGreatDoorTie
import Derived.Test.YtlmdfmnbcndhoaaGreatDoorCards
import Derived.Test.YtlmdfmnbcndhoaaGreatDoorRc01
import Derived.ProofKit
import Derived.LaidMore
import Derived.OpenShut
import Derived.Stop.Joined
import Derived.SizedLaws
import Derived.Test.YtlmdfmnbcndhoaaGreatDoorRc05
import Derived.Test.YtlmdfmnbcndhoaaGreatDoorRc06
import Derived.Test.YtlmdfmnbcndhoaaGreatDoorRc02
import Derived.Lib.LaidTab
import Derived.HandedShaped
import Derived.Lay
import Derived.Stop.LaidErr
import Derived.Shelf.Vars
import Derived.Lib.SmallJoins
import Derived.Deep.Slices
import Derived.Deep.Fields
import Derived.ChangeSame
import Derived.ChangeMaps5
open Go.Value renaming bool→G,int→D,slice→H,string→W
open Go.IntKind renaming i64→J
open Option renaming none→U,some→Z
open Bool renaming false→E,true→Q
namespace Go.Proofs.YtlmdfmnbcndhoaaGreatDoor
open Go.RowKit
def zXc (e:Ending):Prop:=∃b,e=.returned (G b)
theorem zRj (b:Bool):zXc (.returned (G b)):=⟨b,rfl⟩
set_option maxHeartbeats 3200000 in
theorem zTi (S:List UInt8) (hS:S.length≤100000) (w:World):Calls Tryz.prog 36 #[W (bA S)] w fun e w'=>zXc e∧Below w.heap.size w w':=by
 have hs:=zCU S;obtain ⟨nS,dz⟩:∃k,S.length=k:=⟨_,rfl⟩
 rw [dz] at hs hS;have HN:=qH dz;clear dz;go_enter Tryz.func36,Tryz.ntmps36;go_wp2_with fail
 go_loopw [3,4] (fun v3 v4 wr=>∃(i c:Nat),i≤nS∧c≤i∧v4=D J i∧v3=D J c∧Below w.heap.size w wr) (fun _ v4 _=>nS-(intOf v4).toNat)
 case atStart=>exact ⟨0,0,Nat.zero_le _,Nat.le_refl _,rfl,rfl,Below.refl _ _⟩
 case round =>
  obtain ⟨i,c,hi,hc,rfl,rfl,hb⟩:=hrel;have HB:=qH hb;clear hb;by_cases hlt:i < nS
  ·have j0:(0:Int)≤(i:Int):=by omega
   have j1:(i:Int) < (nS:Int):=by omega
   obtain ⟨b,hb⟩:∃b,S[i]? = Z b:=⟨S[i]'(by rw [HN.out];exact hlt),List.getElem?_eq_getElem (by rw [HN.out];exact hlt)⟩
   have hx:=zHc hb;generalize b.toNat=B at hx;have hi1:i+1≤nS:=hlt;clear hb;by_cases hB:(B:Int)=111
   ·have k1:((B:Int)==111)=Q:=by simpa using hB
    clear hB;go_wp2_with fail
    go_roundw
    case rel=>exact ⟨i+1,c+1,hi1,by omega,by go_num,by go_num,HB.out⟩
    case measure=>simp [intOf];omega
   ·have k1:((B:Int)==111)=E:=by simpa using hB
    clear hB;go_wp2_with fail
    go_roundw
    case rel=>exact ⟨i+1,c,hi1,by omega,by go_num,rfl,HB.out⟩
    case measure=>simp [intOf];omega
  ·have j1:¬(i:Int) < (nS:Int):=by omega
   by_cases h6:6 < c
   ·have k1:(6:Int) < (c:Int):=by omega
    by_cases h12:c≤12
    ·have k2:(c:Int)≤12:=by omega
     go_wp2_with fail
     go_ret;exact ⟨zRj _,HB.out⟩
    ·have k2:¬(c:Int)≤12:=by omega
     go_wp2_with fail
     go_ret;exact ⟨zRj _,HB.out⟩
   ·have k1:¬(6:Int) < (c:Int):=by omega
    go_wp2_with fail
    go_ret;exact ⟨zRj _,HB.out⟩
theorem zTj {A:Option Addr} {n c:Nat} {F:List Fg} {re lo:Int} {S:List UInt8} {Cs:List (List Lt)} {ZT:Int} (h:rqR F re lo S=(Cs,ZT)) (w:World) (hA:Fgs w A n F) (hv:frB F re lo=Q) :
  Calls Tryz.prog 38 #[frV A n c re lo,W (bA S)] w (zJN w (n:Int) Cs ZT):=by
 have:=zGn A n c F re lo S w hA hv;rw [h] at this;exact this
theorem zRk {K1:Int} {A B:Option Addr} {n c m d:Nat} {L M:List Lt} (h:L=M) (w:World) (hA:Lets w A n L) (hB:Lets w B m M) :
  Calls Tryz.prog 39 #[.agg #[D J K1,H A n c],.agg #[D J K1,H B m d]] w fun e w'=>e=.returned (G Q)∧Below w.heap.size w w':=by
 subst h;have:=zOc K1 K1 A B n c m d L L w hA hB;simpa using this
set_option maxRecDepth 100000 in
set_option maxHeartbeats 12800000 in
theorem zIs (A:Option Addr) (n c:Nat) (L:List Fg) (re lo:Int) (S:List UInt8) (w:World) (hA:Fgs w A n L) (hc:n≤c) (ht:Tabs w) :
  Calls Tryz.prog 9 #[frV A n c re lo,W (bA S)] w fun e w'=>e=.returned (G Q)∧Below w.heap.size w w':=by
 have fI:=qH hA.len;have HA:=qH hA;have HT:=qH ht;have HB:=qH (Below.refl w.heap.size w);have HC:=qH hc;have hs:=zCU S;obtain ⟨nS,dz⟩:∃k,S.length=k:=⟨_,rfl⟩
 rw [dz] at hs;have HN:=qH dz;clear hA ht hc dz;by_cases h60:n≤60
 ·by_cases h3:nS≤300
  ·skip;have HS:=qH (show decide (n≤60)=Q by simpa using h60);have i0:¬(300:Int) < (nS:Int):=by omega
   have HM:=qH (fun w=>zTi S (by rw [HN.out];omega) w);obtain ⟨v,hv⟩:∃v,frB L re lo=v:=⟨_,rfl⟩
   obtain ⟨⟨Cs,ZT⟩,EU⟩:∃x,rqR L re lo S=x:=⟨_,rfl⟩
   have HV:=qH hv;have zS:=qH EU;clear h60 h3 hv EU;go_enter Tryz.func9,Tryz.ntmps9;have hba:=(Below.refl w.heap.size w).alloc (Nat.le_refl _) (.cells #[H A n c,D J re,D J lo] 24);replace HA:=qH (HA.out.below hba);replace HT:=qH (HT.out.below hba);replace HB:=qH (zAa HB.out hba HB.out.size);have kf:=Blk.new w 24 #[H A n c,D J re,D J lo];clear hba;go_upto_region 1 with fail
   generalize w.alloc (.cells #[H A n c,D J re,D J lo] 24)=X at HA HT HB kf ⊢;have c0:X.cell? ⟨w.heap.size,0,U⟩=Z (H A n c):=(kf.cell 0).trans rfl;have c1:X.cell? ⟨w.heap.size,1,U⟩=Z (D J re):=(kf.cell 1).trans rfl;have c2:X.cell? ⟨w.heap.size,2,U⟩=Z (D J lo):=(kf.cell 2).trans rfl;go_wp2_with fail
   refine (zIa HS.out A c re lo _).mono ?_;rintro e v5 ⟨rfl,hb⟩;clear c0 c1 c2;replace HA:=qH (HA.out.below hb);replace HT:=qH (HT.out.below hb);replace HB:=qH (zAa HB.out hb HB.out.size);replace kf:=kf.below hb kf.lt;clear hb;go_wp2_with fail
   refine (HM.out _).mono ?_;rintro e v6 ⟨⟨mb,rfl⟩,hb⟩;replace HA:=qH (HA.out.below hb);replace HT:=qH (HT.out.below hb);replace HB:=qH (zAa HB.out hb HB.out.size);replace kf:=kf.below hb kf.lt;clear hb HM
   cases mb with
   | true =>
    go_wp2_with fail
    refine (zEe _ HT.out).mono ?_;rintro e v7 ⟨rfl,hb⟩;replace HA:=qH (HA.out.below hb);replace HT:=qH (HT.out.below hb);replace HB:=qH (zAa HB.out hb HB.out.size);replace kf:=kf.below hb kf.lt;clear hb;go_wp2_with fail
    go_ret;exact ⟨rfl,HB.out⟩
   | false =>
    have c0:v6.cell? ⟨w.heap.size,0,U⟩=Z (H A n c):=(kf.cell 0).trans rfl;have c1:v6.cell? ⟨w.heap.size,1,U⟩=Z (D J re):=(kf.cell 1).trans rfl;have c2:v6.cell? ⟨w.heap.size,2,U⟩=Z (D J lo):=(kf.cell 2).trans rfl;go_wp2_with fail
    refine (zTb zS.out _ HA.out HC.out HT.out).mono ?_;rintro e v8 ⟨C5,m5,d5,Es,rfl,ep,Bg,E4,hb⟩;clear c0 c1 c2;replace HA:=qH (HA.out.below hb);replace HT:=qH (HT.out.below hb);replace HB:=qH (zAa HB.out hb HB.out.size);replace kf:=kf.below hb kf.lt;have vf:=qH ep;have lK:=qH E4;clear hb ep E4;have c0:v8.cell? ⟨w.heap.size,0,U⟩=Z (H A n c):=(kf.cell 0).trans rfl;have c1:v8.cell? ⟨w.heap.size,1,U⟩=Z (D J re):=(kf.cell 1).trans rfl;have c2:v8.cell? ⟨w.heap.size,2,U⟩=Z (D J lo):=(kf.cell 2).trans rfl;go_wp2_with fail
    refine (zQP HV.out _ HA.out).mono ?_;rintro e v9 ⟨rfl,hb⟩;clear c0 c1 c2;replace HA:=qH (HA.out.below hb);replace HT:=qH (HT.out.below hb);replace HB:=qH (zAa HB.out hb HB.out.size);replace kf:=kf.below hb kf.lt;replace lK:=qH (lK.out.below hb);clear hb
    cases v with
    | false =>
     have hq:rqR L re lo S=([],2):=by
      have h1:zAw L re lo S=2:=by unfold zAw;rw [HV.out];rfl
      unfold rqR;rw [if_pos (by rw [h1];simp),h1]
     have hq2:=zS.out.symm.trans hq;injection hq2 with hq3 hq4
     subst hq3;subst hq4
     obtain rfl:m5=0:=by rw [←lK.out.len];simpa using congrArg List.length vf.out
     clear hq zS HV;go_wp2_with fail
     refine (zEe _ HT.out).mono ?_;rintro e oo ⟨rfl,hb⟩;replace HA:=qH (HA.out.below hb);replace HT:=qH (HT.out.below hb);replace HB:=qH (zAa HB.out hb HB.out.size);replace kf:=kf.below hb kf.lt;replace lK:=qH (lK.out.below hb);clear hb;go_wp2_with fail
     go_ret;exact ⟨rfl,HB.out⟩
    | true =>
     have t1:(ZT==ZT)=Q:=by simp
     have t2:(ZT != ZT)=E:=by simp
     have c0:v9.cell? ⟨w.heap.size,0,U⟩=Z (H A n c):=(kf.cell 0).trans rfl;have c1:v9.cell? ⟨w.heap.size,1,U⟩=Z (D J re):=(kf.cell 1).trans rfl;have c2:v9.cell? ⟨w.heap.size,2,U⟩=Z (D J lo):=(kf.cell 2).trans rfl;go_wp2_with fail
     refine (zTj zS.out _ HA.out HV.out).mono ?_;rintro e pL ⟨C6,m6,d6,GI,rfl,ep,hm6,iF,hb⟩;clear c0 c1 c2;replace HA:=qH (HA.out.below hb);replace HT:=qH (HT.out.below hb);replace HB:=qH (zAa HB.out hb HB.out.size);replace kf:=kf.below hb kf.lt;replace lK:=qH (lK.out.below hb);have Ae:=qH ep;have dQ:=qH iF;have hmm:m6=m5:=by
      rw [←iF.len,←lK.out.len];have:=congrArg List.length (ep.trans vf.out.symm);simpa using this
     subst hmm;have t3:(((m6:Nat):Int) != ((m6:Nat):Int))=E:=by simp
     clear hb ep iF Bg;go_wp2_with fail
     go_loopw [9] (fun v9 wr=>∃(i:Nat),i≤m6∧v9=D J i∧Below pL.heap.size pL wr) (fun v9 _=>m6-(intOf v9).toNat)
     case atStart=>exact ⟨0,Nat.zero_le _,rfl,Below.refl _ _⟩
     case round =>
      obtain ⟨i,hi,rfl,hbr⟩:=hrel;have mR:=qH hbr;replace HA:=qH (HA.out.below hbr);replace HT:=qH (HT.out.below hbr);replace HB:=qH (zAa HB.out hbr HB.out.size);replace kf:=kf.below hbr kf.lt;replace lK:=qH (lK.out.below hbr);replace dQ:=qH (dQ.out.below hbr);clear hbr t3;by_cases hlt:i < m6
      ·have j0:(0:Int)≤(i:Int):=by omega
       have j1:(i:Int) < (m6:Int):=by omega
       have mf:i < Es.length:=by rw [lK.out.len];exact hlt
       have iB:i < GI.length:=by rw [dQ.out.len];exact hlt
       obtain ⟨e1,he1⟩:∃e,Es[i]? = Z e:=⟨_,List.getElem?_eq_getElem mf⟩
       obtain ⟨e2,he2⟩:∃e,GI[i]? = Z e:=⟨_,List.getElem?_eq_getElem iB⟩
       have heq:e1.L=e2.L:=by
        have h1:=congrArg (fun l=>l[i]?) (vf.out.trans Ae.out.symm);simp only [List.getElem?_map,he1,he2,Option.map_some,Option.some.injEq] at h1;exact h1
       obtain ⟨g1,o1,rfl,cm,x0,x1,oF⟩:=zQV lK.out he1;obtain ⟨g2,o2,rfl,bG,y0,y1,E9⟩:=zQV dQ.out he2;have yt:=qH oF;have Du:=qH E9;have HEQ:=qH heq;obtain ⟨M1,A1,n1,c1⟩:=e1;obtain ⟨M2,A2,n2,c2⟩:=e2;simp only at x0 x1 y0 y1;have HX:=qH (show (g1 < wr.heap.size∧wr.cell? ⟨g1,o1+i*2,U⟩=Z (D J (n:Int))∧wr.cell? ⟨g1,o1+i*2+1,U⟩=Z (H A1 n1 c1))∧(g2 < wr.heap.size∧wr.cell? ⟨g2,o2+i*2,U⟩=Z (D J (n:Int))∧wr.cell? ⟨g2,o2+i*2+1,U⟩=Z (H A2 n2 c2)) from ⟨⟨cm,x0,x1⟩,⟨bG,y0,y1⟩⟩);have hi1:i+1≤m6:=hlt;clear mf iB he1 he2 heq cm bG x0 x1 y0 y1 oF E9;go_upto_region 12 with fail
       have k0:∀wx,Below wr.heap.size wr wx→(Below wr.heap.size wr wx∧wx.cell? ⟨g1,o1+i*2,U⟩=Z (D J (n:Int))∧wx.cell? ⟨g1,o1+i*2+1,U⟩=Z (H A1 n1 c1)∧wx.cell? ⟨g2,o2+i*2,U⟩=Z (D J (n:Int))∧wx.cell? ⟨g2,o2+i*2+1,U⟩=Z (H A2 n2 c2)):=fun wx h=>⟨h,(h.cell (p:=⟨g1,o1+i*2,U⟩) HX.out.1.1).trans HX.out.1.2.1,(h.cell (p:=⟨g1,o1+i*2+1,U⟩) HX.out.1.1).trans HX.out.1.2.2,(h.cell (p:=⟨g2,o2+i*2,U⟩) HX.out.2.1).trans HX.out.2.2.1,(h.cell (p:=⟨g2,o2+i*2+1,U⟩) HX.out.2.1).trans HX.out.2.2.2⟩
       have KP:=qH k0;clear k0;have zE:=(KP.out wr (Below.refl _ _)).2.1;have zB:=(KP.out wr (Below.refl _ _)).2.2.1;have gq2:=(KP.out wr (Below.refl _ _)).2.2.2.1;have gq3:=(KP.out wr (Below.refl _ _)).2.2.2.2
       first
        | go_region_held3 (fun wx=>Below wr.heap.size wr wx∧wx.cell? ⟨g1,o1+i*2,U⟩=Z (D J (n:Int))∧wx.cell? ⟨g1,o1+i*2+1,U⟩=Z (H A1 n1 c1)∧wx.cell? ⟨g2,o2+i*2,U⟩=Z (D J (n:Int))∧wx.cell? ⟨g2,o2+i*2+1,U⟩=Z (H A2 n2 c2)) (first | assumption | exact KP.out _ (Below.refl _ _).drew | exact KP.out _ (zAa (And.left (by assumption)) (by assumption) (Below.size (And.left (by assumption)))))
          (first
           | (go_at_call 39;refine (zRk HEQ.out _ (yt.out.below (And.left (by assumption))) (Du.out.below (And.left (by assumption)))).mono ?_;rintro e wd ⟨rfl,hbd⟩))
        | fail
       all_goals
        have hbf:=And.left (show Below wr.heap.size wr _∧_ by assumption);clear zE zB gq2 gq3;have ab:=zAa mR.out hbf mR.out.size;go_wp2_with fail
        go_roundw
        case rel=>exact ⟨i+1,hi1,by go_num,ab⟩
        case measure=>simp [intOf];omega
      ·have j1:¬(i:Int) < (m6:Int):=by omega
       go_wp2_with fail
       refine (zEe _ HT.out).mono ?_;rintro e Ed ⟨rfl,hb⟩;replace HA:=qH (HA.out.below hb);replace HT:=qH (HT.out.below hb);replace HB:=qH (zAa HB.out hb HB.out.size);replace kf:=kf.below hb kf.lt;replace lK:=qH (lK.out.below hb);replace dQ:=qH (dQ.out.below hb);clear hb;go_wp2_with fail
       go_ret;exact ⟨rfl,HB.out⟩
  ·skip;have HS:=qH (show decide (n≤60)=Q by simpa using h60);have i0:(300:Int) < (nS:Int):=by omega
   clear h60 h3;go_enter Tryz.func9,Tryz.ntmps9;have hba:=(Below.refl w.heap.size w).alloc (Nat.le_refl _) (.cells #[H A n c,D J re,D J lo] 24);replace HA:=qH (HA.out.below hba);replace HT:=qH (HT.out.below hba);replace HB:=qH (zAa HB.out hba HB.out.size);have kf:=Blk.new w 24 #[H A n c,D J re,D J lo];clear hba;go_upto_region 1 with fail
   generalize w.alloc (.cells #[H A n c,D J re,D J lo] 24)=X at HA HT HB kf ⊢;have c0:X.cell? ⟨w.heap.size,0,U⟩=Z (H A n c):=(kf.cell 0).trans rfl;have c1:X.cell? ⟨w.heap.size,1,U⟩=Z (D J re):=(kf.cell 1).trans rfl;have c2:X.cell? ⟨w.heap.size,2,U⟩=Z (D J lo):=(kf.cell 2).trans rfl;go_wp2_with fail
   refine (zIa HS.out A c re lo _).mono ?_;rintro e v3 ⟨rfl,hb⟩;clear c0 c1 c2;replace HA:=qH (HA.out.below hb);replace HT:=qH (HT.out.below hb);replace HB:=qH (zAa HB.out hb HB.out.size);replace kf:=kf.below hb kf.lt;clear hb;go_wp2_with fail
   refine (zEe _ HT.out).mono ?_;rintro e v4 ⟨rfl,hb⟩;replace HA:=qH (HA.out.below hb);replace HT:=qH (HT.out.below hb);replace HB:=qH (zAa HB.out hb HB.out.size);replace kf:=kf.below hb kf.lt;clear hb;go_wp2_with fail
   go_ret;exact ⟨rfl,HB.out⟩
 ·skip;have HS:=qH (show decide (n≤60)=E by simpa using h60);clear h60;go_enter Tryz.func9,Tryz.ntmps9;have hba:=(Below.refl w.heap.size w).alloc (Nat.le_refl _) (.cells #[H A n c,D J re,D J lo] 24);replace HA:=qH (HA.out.below hba);replace HT:=qH (HT.out.below hba);replace HB:=qH (zAa HB.out hba HB.out.size);have kf:=Blk.new w 24 #[H A n c,D J re,D J lo];clear hba;go_upto_region 1 with fail
  generalize w.alloc (.cells #[H A n c,D J re,D J lo] 24)=X at HA HT HB kf ⊢;have c0:X.cell? ⟨w.heap.size,0,U⟩=Z (H A n c):=(kf.cell 0).trans rfl;have c1:X.cell? ⟨w.heap.size,1,U⟩=Z (D J re):=(kf.cell 1).trans rfl;have c2:X.cell? ⟨w.heap.size,2,U⟩=Z (D J lo):=(kf.cell 2).trans rfl;go_wp2_with fail
  refine (zIa HS.out A c re lo _).mono ?_;rintro e v1 ⟨rfl,hb⟩;clear c0 c1 c2;replace HA:=qH (HA.out.below hb);replace HT:=qH (HT.out.below hb);replace HB:=qH (zAa HB.out hb HB.out.size);replace kf:=kf.below hb kf.lt;clear hb;go_wp2_with fail
  refine (zEe _ HT.out).mono ?_;rintro e v2 ⟨rfl,hb⟩;replace HA:=qH (HA.out.below hb);replace HT:=qH (HT.out.below hb);replace HB:=qH (zAa HB.out hb HB.out.size);replace kf:=kf.below hb kf.lt;clear hb;go_wp2_with fail
  go_ret;exact ⟨rfl,HB.out⟩
end Go.Proofs.YtlmdfmnbcndhoaaGreatDoor
namespace Go.Proofs.YtlmdfmnbcndhoaaGreatDoor
open Go.ChangeShapes Go.WideShapes Go.ChangeAt Go.WideElems Go.RowKit
section
variable {ZW:Type} {enc:TypeId×Value→ZW} {P:Program}
theorem zFJ (hl:laidOutB P=Q) {ZR W':World} {sp':Nat→Bool} (hb:Below ZR.heap.size ZR W'):∀(ts:List TypeId) (vs:List Value) (ds:List (DataW ZW)) (ps:List MemPlace),
  (∀t∈ts,P.readableRec t=Q∧t < P.types.size)→DataW.TrodAll enc P ZR 0 (fun _=>Q) Q ts vs ds ps→(∀p∈ps,p.block < ZR.heap.size)→(∀p∈ps,sp' p.block=Q)→DataW.TrodAll enc P W' 0 sp' Q ts vs ds ps
 | [],[],[],_,_,h,_,_=>h
 | [],[],_ :: _,_,_,h,_,_=>h.elim
 | [],_ :: _,_,_,_,h,_,_=>h.elim
 | _ :: _,[],_,_,_,h,_,_=>h.elim
 | _ :: _,_ :: _,[],_,_,h,_,_=>h.elim
 | t :: ts,v :: vs,d :: ds,ps,ht,h,hlt,hsp=>by
  obtain ⟨p,q,h1,h2,rfl⟩:=h;refine ⟨p,q,?_,?_,rfl⟩
  ·exact Trod_stays hl (ht t (by simp)).1 (ht t (by simp)).2 h1 (fun x hx=>hb.same (hlt x (by simp [hx]))) (fun x hx=>hsp x (by simp [hx]))
  ·exact zFJ hl hb ts vs ds q (fun t' h'=>ht t' (by simp [h'])) h2 (fun x hx=>hlt x (by simp [hx])) (fun x hx=>hsp x (by simp [hx]))
theorem zJX {f:Func} {s:ChangeSpec} {apart fresh handsOn again:Bool} {ZR W':World} {args:Array Value} {v:Value} {ds:List (DataW ZW)} {before:List MemPlace} (hl:laidOutB P=Q) (hb:Below ZR.heap.size ZR W')
  (hvs:s.vars=[]) (hfn:(s.fn ZW ds).args=ds) (hfv:(s.fn ZW ds).vars=[])
  (hts:∀t∈f.params.toList,P.readableRec t=Q∧t < P.types.size)
  (hW:DataW.Whole enc P f.params.toList s.vars apart ZR args.toList ds [] before)
  (hres:∀(b:Nat) (sp:Nat→Bool) (hd:Bool),DataW.TrodAll enc P W' b sp hd f.resultTypes.toList (v.resultList f.resultTypes.size) (s.fn ZW ds).results [])
  (hok:∀(j:Nat) (t:TypeId) (r:Value),f.resultTypes[j]? = Z t→(v.resultList f.resultTypes.size)[j]? = Z r→Value.okWide P W' .any 0 t r) :
  s.post enc P f apart fresh handsOn again ZR args v W':=by
 have hlt:=hW.lt;have bp:=hW;obtain ⟨pa,pv,hA,hV,rfl,hz,hn⟩:=bp;rw [hvs] at hV;obtain rfl:pv=[]:=hV;simp only [List.append_nil] at *;have r8:∀sp:Nat→Bool,(∀p∈pa,sp p.block=Q)→DataW.TrodAll enc P W' 0 sp Q f.params.toList args.toList (s.fn ZW (ds++[])).args pa:=fun sp hsp=>by
  rw [List.append_nil,hfn];exact zFJ hl hb _ _ _ _ hts hA hlt hsp
 have pK:∀sp:Nat→Bool,DataW.TrodVars enc P W' sp s.vars (s.fn ZW (ds++[])).vars []:=fun sp=>by
  rw [List.append_nil,hfv,hvs];rfl
 refine ⟨ds,[],pa,[],pa,[],hW,by rw [List.append_nil];exact hres _ _ _,r8 _ (fun p hp=>by simpa using hlt p hp),pK _,hb.frame _,fun _=>?_⟩;refine ⟨hok,_,_,([]++pa)++[],⟨[]++pa,[],trodAll_append (r8 _ (fun _ _=>rfl)) (hres _ _ _),pK _,rfl,?_,?_⟩,?_⟩
 ·intro b off hp;have ik:MemPlace.cell b off∈pa:=by simpa using hp
  rw [hb.frozen (p:=⟨b,off,U⟩) (hlt _ ik)];exact hz b off ik
 ·intro ha;simpa using hn ha
 ·intro p hp _;simpa using hp
end
end Go.Proofs.YtlmdfmnbcndhoaaGreatDoor
namespace Go.Proofs.YtlmdfmnbcndhoaaGreatDoor
open Go.ChangeShapes Go.WideShapes Go.ChangeAt Go.WideElems Go.RowKit Go.Deep Go.Joins
set_option maxRecDepth 100000
theorem own:ownKnob Tryz.prog.godebug=U:=by kernel_rfl
theorem zTk:laidOutB Tryz.prog=Q:=by kernel_rfl
theorem zTl:reachBytes=140737488351232:=by kernel_rfl
theorem zEz {ZW:Type} {enc:TypeId×Value→ZW} {a:Assume} {C:Checked} {os:Os} {f:FuncId} {fn:Func} {s:ChangeSpec} {conds:List PathCond} {apart fresh handsOn again:Bool} {X:World→Array Value→Prop}
  (hX:∀(w w':World) (args:Array Value),w.heap=w'.heap→X w args→X w' args)
  (own:ownKnob C.prog.godebug=U) (started:os.Started) (noInit:C.prog.inits.idxOf? f=U) (hfn:C.prog.funcs[f]? = Z fn)
  (witness:∃(w:World) (tape:Tape) (i:Input),w.os=os∧(w.forCall tape i).Shaped C.prog∧i.vars=[]∧Input.okWide C.prog (w.forCall tape i) .any w.heap.size f i ∧
   ((s.pre enc C.prog fn conds apart (w.forCall tape i).memory i.args∧X (w.forCall tape i).memory i.args)∧sizedMet enc C.prog fn (OpenSpec.ofChange s) apart (w.forCall tape i).memory i.args)∧a.holds C.prog (lone (Frame.enter C.prog f i.args .normal) [] (w.forCall tape i)))
  (contract:∀(ZR:World) (base:Nat) (args:Array Value) (ds gs:List (DataW ZW)) (before:List MemPlace),
   (∀(j:Nat) t v,fn.params[j]? = Z t→args[j]? = Z v→Value.okWide C.prog ZR .any base t v) →
   DataW.Whole enc C.prog fn.params.toList s.vars apart ZR args.toList ds gs before →
   conds.all (PathCond.test C.prog ⟨fn.params.toList,ds,s.plain.varTypes C.prog,gs⟩)=Q →
   (DataW.weightsEach C.prog (fn.params.toList++s.plain.varTypes C.prog) (ds++gs)).all (·≤reachBytes)=Q→X ZR args→ZR.ShapedOpen C.prog →
   a.holds C.prog (lone (Frame.enter C.prog f args .normal) [] ZR) →
   Calls C.prog f args ZR fun e W'=>∃v,e=.returned v∧s.post enc C.prog fn apart fresh handsOn again ZR args v W') :
  ReturnsInHanded a C os f .any (fun w args=>(s.pre enc C.prog fn conds apart w args∧X w args)∧sizedMet enc C.prog fn (OpenSpec.ofChange s) apart w args) (s.post enc C.prog fn apart fresh handsOn again):=by
 refine returnsInHanded_of_calls own started noInit witness ?_;intro w tape i _ hsh _ hok hpre hholds;obtain ⟨_,_,_,fn',Bw,_,_,_,_,hval⟩:=hok;have e:fn'=fn:=Option.some.inj (Bw.symm.trans hfn);subst e;obtain ⟨⟨⟨ds,gs,before,hw,hc⟩,hx⟩,hz⟩:=hpre;have AV:=DataW.Whole.of_heap (w':=w.forCall tape i) (by rfl) hw;refine (contract (w.forCall tape i) w.heap.size i.args ds gs before hval AV hc (hz.weights hw) (hX _ _ _ (by rfl) hx) hsh hholds).mono fun e W' ⟨v,he,hp⟩=>?_
 subst he;exact ChangeSpec.post_blind hp
def zBr:List (String×DataW Unit):=Rows.notesBackRow.laid
theorem zEf:∀w,laidMetH Tryz.prog zBr w=laidMet Tryz.prog zBr w:=fun w=>MakeChecks.laidMetH_plain _ _ _ (by kernel_rfl)
theorem zRl (os:Os) (args:Array Value):laidMetH Tryz.prog zBr ((World.laidAll Tryz.prog os zBr).forCall (fun _ _=>0) ⟨#[],args,[]⟩).memory:=by
 rw [zEf];exact laidMet_laidAll _ (by kernel_rfl) (by kernel_rfl)
theorem zVG (os:Os):(World.laidAll Tryz.prog os zBr).Shaped Tryz.prog:=World.shaped_of_ZipB (by kernel_rfl) (by kernel_rfl)
theorem zRm:Tryz.prog.cellsOf 235=1:=by kernel_rfl
theorem zVH {ZR:World} (h0:laidMetH Tryz.prog zBr ZR) (hs:ZR.ShapedOpen Tryz.prog):Tabs ZR:=by
 have h:laidMet Tryz.prog zBr ZR:=by rw [←zEf];exact h0
 have h3:=h.tail.tail;refine ⟨?_,Go.Proofs.cell_of_shapedOpen_int (zero:=#[D J 0]) (t:=3) hs (of_decide_eq_true (by kernel_rfl)) (by kernel_rfl) rfl (by kernel_rfl) (by kernel_rfl) Tryz.underlying3⟩;exact Lib.tabIs_of_head (g:=1) (k:=.u64) (zs:=Lib.pow10Tab) (rest:=_) (by kernel_rfl) (by kernel_rfl) Tryz.underlying242 Tryz.underlying235 zRm (by kernel_rfl) h3
theorem zNq:Tryz.prog.readableRec 24=Q∧24 < Tryz.prog.types.size:=⟨by kernel_rfl,of_decide_eq_true (by kernel_rfl)⟩
theorem zTP:Tryz.prog.readableRec 9=Q∧9 < Tryz.prog.types.size:=⟨by kernel_rfl,of_decide_eq_true (by kernel_rfl)⟩
section
variable {ZW:Type} {enc:TypeId×Value→ZW} {ZR:World} {base:Nat} {spare:Nat→Bool} {held:Bool}
theorem zTQ {t:TypeId} {fs:Array Field} {fuel:Nat} {cs:List Value} {x:DataW ZW×List MemPlace} (ht:Tryz.prog.underlying t=Z (.struct fs)) (h:DataW.trod enc Tryz.prog ZR base spare held fuel t cs=Z x) :
  ∃m,cs.length=Tryz.prog.cellsOf t∧∀(j:Nat) (f:Field),fs[j]? = Z f→∃y,DataW.trod enc Tryz.prog ZR base spare held m f.type ((cs.drop f.offset).take (Tryz.prog.cellsOf f.type))=Z y∧∀n∈y.1.weights Tryz.prog f.type,n∈x.1.weights Tryz.prog t:=by
 obtain ⟨xs,m,_,rfl,hl,hxl,hf⟩:=DataW.trod_struct ht h;refine ⟨m,hl,fun j f hj=>?_⟩;have h1:=hf j f hj;have hjl:j < xs.length:=by rw [hxl];exact (Array.getElem?_eq_some_iff.1 hj).1
 rw [List.getElem?_eq_getElem hjl] at h1;refine ⟨xs[j],h1,?_⟩;intro n hn;unfold DataW.weights;rw [ht];exact DataW.weights_mem_each (j:=j) (t:=f.type) (d:=(xs[j]).1) (by rw [List.getElem?_map,Array.getElem?_toList,hj];rfl) (by rw [List.getElem?_map,List.getElem?_eq_getElem hjl];rfl) n hn
theorem zNr {fuel:Nat} {cs:List Value} {x:DataW ZW×List MemPlace} (h:DataW.trod enc Tryz.prog ZR base spare held fuel 3 cs=Z x):∃k:Int,I64 k∧cs=[D J k]:=by
 obtain ⟨k,e,_,w⟩:=DataW.trod_int (k:=J) Tryz.underlying3 h;exact ⟨k,bounds_i64 w,e⟩
theorem zVI {fuel:Nat} {cs:List Value} {x:DataW ZW×List MemPlace} (h:DataW.trod enc Tryz.prog ZR base spare held fuel 4 cs=Z x):∃b:Bool,cs=[G b]:=by
 obtain ⟨b,e,_⟩:=DataW.trod_bool Tryz.underlying4 h;exact ⟨b,e⟩
theorem zXW {α:Type} {l:List α} (h:l.length=3):∃a b c,l=[a,b,c]:=by
 match l,h with
 | [a,b,c],_=>exact ⟨a,b,c,rfl⟩
theorem zGz:Tryz.prog.cellsOf 90=3:=by kernel_rfl
theorem zLh:Tryz.prog.cellsOf 3=1:=by kernel_rfl
theorem zOx:Tryz.prog.cellsOf 4=1:=by kernel_rfl
theorem zXX {fuel:Nat} {cs:List Value} {x:DataW ZW×List MemPlace} (h:DataW.trod enc Tryz.prog ZR base spare held fuel 90 cs=Z x):∃f:Fg,FgOk f∧cs=zXe f:=by
 obtain ⟨m,hl,hk⟩:=zTQ Tryz.underlying90 h;rw [zGz] at hl;obtain ⟨c0,c1,c2,rfl⟩:=zXW hl;obtain ⟨y0,h0,_⟩:=hk 0 _ rfl;obtain ⟨y1,h1,_⟩:=hk 1 _ rfl;obtain ⟨y2,h2,_⟩:=hk 2 _ rfl;simp only [List.getElem_toArray,List.getElem_cons_zero,List.getElem_cons_succ,zLh,zOx] at h0 h1 h2;obtain ⟨p,hp,e0⟩:=zNr h0;obtain ⟨r,e1⟩:=zVI h1;obtain ⟨d,hd,e2⟩:=zNr h2;simp only [List.drop_zero,List.drop_succ_cons,List.take_succ_cons,List.take_zero,List.cons.injEq,and_true] at e0 e1 e2;subst e0;subst e1;subst e2
 exact ⟨⟨p,r,d⟩,⟨hp,hd⟩,rfl⟩
theorem zXd {α:Type} {t e:TypeId} {sz:Nat} {en:α→List Value} {ok:α→Prop} {fuel:Nat} {v:List Value} {y:DataW ZW×List MemPlace} (d0:α) (ht:Tryz.prog.underlying t=Z (.slice e)) (hsz:Tryz.prog.cellsOf e=sz) (hpos:0 < sz)
  (hby:8≤Tryz.prog.bytesOf e) (hlen:∀x:α,(en x).length=sz)
  (hdec:∀(n:Nat) (cs:List Value) (z:DataW ZW×List MemPlace),DataW.trod enc Tryz.prog ZR 0 (fun _=>Q) Q n e cs=Z z→(∀k∈z.1.weights Tryz.prog e,k∈y.1.weights Tryz.prog t)→∃x:α,ok x∧cs=en x)
  (hw:∀k∈y.1.weights Tryz.prog t,k≤reachBytes)
  (h:DataW.trod enc Tryz.prog ZR 0 (fun _=>Q) Q fuel t v=Z y):∃A n c L,v=[H A n c]∧Els sz en ZR A n L∧(∀x∈L,ok x)∧n≤c∧n*Tryz.prog.bytesOf e≤140737488351232:=by
 rcases open_slice ht h with ⟨hcs,_⟩ | ⟨a,len,cap,mm,nn,ZZ,Pl,hcs,_,hl,_,hmm,hx,hi⟩
 ·exact ⟨U,0,0,[],hcs,Els.nil _ _,by simp,Nat.le_refl _,by omega⟩
 ·simp only [if_true] at hmm;subst hmm;rw [hsz] at hi;have hwts:∀i,i < mm→∀k∈(ZZ i).weights Tryz.prog e,k∈y.1.weights Tryz.prog t:=by
   intro i him k hk;rw [hx];unfold DataW.weights;rw [ht];simp only;refine List.mem_cons_of_mem _ ?_;have hm:∀(l:List (DataW ZW)) (d:DataW ZW),d∈l→∀k∈d.weights Tryz.prog e,k∈DataW.weightsAll Tryz.prog e l:=by
    intro l
    induction l with
    | nil=>intro d hd;simp at hd
    | cons a l ih =>
     intro d hd k hk;unfold DataW.weightsAll;rcases List.mem_cons.1 hd with rfl | hd
     ·exact List.mem_append_left _ hk
     ·exact List.mem_append_right _ (ih d hd k hk)
   rcases Nat.lt_or_ge i len with h | h
   ·exact List.mem_append_left _ (hm _ (ZZ i) (List.mem_map.2 ⟨i,List.mem_range.2 h,rfl⟩) k hk)
   ·exact List.mem_append_right _ (hm _ (ZZ i) (List.mem_map.2 ⟨i-len,List.mem_range.2 (by omega),by rw [show len+(i-len)=i by omega]⟩) k hk)
  have EB:(len+(mm-len))*Tryz.prog.bytesOf e≤reachBytes:=by
   refine hw _ ?_;rw [hx];unfold DataW.weights;rw [ht];simp only [List.length_map,List.length_range,List.mem_cons,true_or]
  rw [zTl] at EB;have hbound:len≤17592186043904:=by
   have:len*8≤(len+(mm-len))*Tryz.prog.bytesOf e:=Nat.mul_le_mul (by omega) hby;omega
  have hrec:∀i,i < mm→∃x:α,ok x∧∀q u,(en x)[q]? = Z u→ZR.cell? ((a.add (i*sz)).add q)=Z u:=by
   intro i him;obtain ⟨cs',hc,hd⟩:=hi i him;obtain ⟨x,hok,he⟩:=hdec _ _ _ hd (hwts i him);obtain ⟨_,hcl,hcell⟩:=World.cells?_some hc;refine ⟨x,hok,fun q u hq=>?_⟩;have hql:=(List.getElem?_eq_some_iff.1 hq).1;rw [hcell q (by rw [hlen] at hql;exact hql),he];exact hq
  let lf:Nat→α:=fun i=>if h:i < mm then Classical.choose (hrec i h) else d0
  have hlf:∀i,i < mm→ok (lf i)∧∀q u,(en (lf i))[q]? = Z u→ZR.cell? ((a.add (i*sz)).add q)=Z u:=by
   intro i him;have:lf i=Classical.choose (hrec i him):=dif_pos him;rw [this];exact Classical.choose_spec (hrec i him)
  clear_value lf
  refine ⟨Z a,len,mm,(List.range len).map lf,hcs,⟨by simp,hbound,fun hn=>?_⟩,fun x hx=>?_,hl,Nat.le_trans (Nat.mul_le_mul_right _ (by omega)) EB⟩
  ·have zA:=(hlf 0 (by omega)).2 0 ((en (lf 0))[0]'(by rw [hlen];omega)) (List.getElem?_eq_getElem _);have ea:(a.add (0*sz)).add 0=a:=by simp [Addr.add]
   rw [ea] at zA;have hsp:=World.cell?_spot zA;have hae:a=⟨a.block,a.off,U⟩:=by cases a;simp at hsp;subst hsp;rfl
   refine ⟨a.block,a.off,by rw [←hae],World.block_lt_of_cell? _ _ zA,fun j x hx q u hu=>?_⟩;rw [List.getElem?_map] at hx;obtain ⟨i,tg,rfl⟩:=Option.map_eq_some_iff.1 hx;have hj:j < len:=by
    have:=(List.getElem?_eq_some_iff.1 tg).1;simpa using this
   rw [List.getElem?_range hj] at tg;injection tg with tg
   subst tg;have hq:(a.add (j*sz)).add q=⟨a.block,a.off+j*sz+q,U⟩:=by rw [hae,Addr.add_lit,Addr.add_lit]
   rw [←hq];exact (hlf j (by omega)).2 q u hu
  ·obtain ⟨i,tg,rfl⟩:=List.mem_map.1 hx;exact (hlf i (by have:=List.mem_range.1 tg;omega)).1
theorem zRn {ts:List TypeId} {ds:List (DataW ZW)} (h:(DataW.weightsEach Tryz.prog ts ds).all (·≤reachBytes)=Q) {j:Nat} {t:TypeId} {d:DataW ZW} (ht:ts[j]? = Z t) (hd:ds[j]? = Z d) :
  ∀x∈d.weights Tryz.prog t,x≤reachBytes:=fun x hx=>by
 have:=List.all_eq_true.1 h x (DataW.weights_mem_each ht hd x hx);simpa using this
theorem zTm {v:Value} {d:DataW ZW} {ps:List MemPlace} (h:DataW.Trod enc Tryz.prog ZR 0 (fun _=>Q) Q 24 v d ps) {base:Nat} (hv:Value.okWide Tryz.prog ZR .any base 24 v)
  (hw:∀x∈d.weights Tryz.prog 24,x≤reachBytes):∃A n c L re lo,v=frV A n c re lo∧Fgs ZR A n L∧n≤c∧I64 re∧I64 lo:=by
 obtain ⟨cs,rfl,hsz⟩:=okWide_struct Tryz.underlying24 hv;obtain ⟨c0,c1,c2,rfl⟩:=array3 (hsz.trans (show Tryz.prog.cellsOf 24=3 by kernel_rfl));obtain ⟨fuel,hf⟩:=h;obtain ⟨m,_,hk⟩:=zTQ Tryz.underlying24 hf;obtain ⟨y0,h0,w0⟩:=hk 0 _ rfl;obtain ⟨y1,h1,_⟩:=hk 1 _ rfl;obtain ⟨y2,h2,_⟩:=hk 2 _ rfl;simp only [List.getElem_toArray,List.getElem_cons_zero,List.getElem_cons_succ,zLh,show Tryz.prog.cellsOf 22=1 by kernel_rfl] at h0 h1 h2;obtain ⟨A,n,c,L,e0,hL,hok,hc,_⟩:=zXd (ok:=FgOk) df Tryz.underlying22 zGz (by decide) (by rw [show Tryz.prog.bytesOf 90=24 by kernel_rfl];decide) (fun _=>rfl) (fun n cs z hz _=>zXX hz) (fun k hk=>hw k (w0 k hk)) h0;obtain ⟨re,hre,e1⟩:=zNr h1;obtain ⟨lo,hlo,e2⟩:=zNr h2;simp only [Value.cells,List.drop_zero,List.drop_succ_cons,List.take_succ_cons,List.take_zero,List.cons.injEq,and_true] at e0 e1 e2;subst e0;subst e1;subst e2
 exact ⟨A,n,c,L,re,lo,rfl,⟨hL,hok⟩,hc,hre,hlo⟩
end
end Go.Proofs.YtlmdfmnbcndhoaaGreatDoor
