/-
  Lemmas. Conditions: each one's own.
-/
import Derived.Test.YtlmdfmnbcndhoaaGreatDoorRt29
import Derived.Test.YtlmdfmnbcndhoaaGreatDoorRows
import Derived.Test.YtlmdfmnbcndhoaaGreatDoorTie
import Derived.Test.YtlmdfmnbcndhoaaGreatDoorCards
import Derived.ProofKit
import Derived.LaidMore
import Derived.OpenShut
import Derived.Stop.Joined
import Derived.SizedLaws
import Derived.Lib.LaidTab
import Derived.HandedShaped
import Derived.Lay
import Derived.Stop.LaidErr
import Derived.Shelf.Vars
import Derived.Lib.SmallJoins
import Derived.Deep.Slices
import Derived.Deep.Fields
import Derived.ChangeSame
import Derived.ChangeMaps5
open Go.RowKit
set_option maxHeartbeats 12800000
set_option maxRecDepth 100000
open Go renaming World->ZY
open Go.Value renaming bool->G,int->D,slice->H,string->W
open Go.IntKind renaming i64->J
open Go.RowKit renaming Below->ZZ
open Go.Proofs.Tryz renaming prog->ZX
open Bool renaming false->E,true->Q
open Go.RowKit.Below renaming refl->M
open Nat renaming le_refl->O
open Option renaming none->U,some->Z
namespace Go.Proofs.YtlmdfmnbcndhoaaGreatDoor
theorem zTw {A:Option Addr} {n c:Nat} {L:List Fg} {re lo p q:Int} {S T:List UInt8} {ZQ:Int} (hE:trE L re lo S p q=ZQ) (hT:trS L re lo S p q=T) (w:ZY) (hA:Fgs w A n L) (hc:n<=c) (ht:Tabs w) :
  Calls ZX 40 #[frV A n c re lo,W (bA S),D J p,D J q] w fun e w'=>e=.returned (.tuple #[W (bA T),D J ZQ])/\ZZ w.heap.size w w':=by
 subst hE;subst hT;exact zDY ⟨A,n,c,L,re,lo⟩ S p q w hA hc ht
noncomputable def zWb (L:List Fg) (re lo:Int) (S:List UInt8) (p q:Int):Int:=if frB L re lo=Q/\(p=1∨p=2)/\(q=1∨q=2) then ntE L re lo p S else 2
noncomputable def zWm (L:List Fg) (re lo:Int) (S:List UInt8) (p q:Int):List Og:=if frB L re lo=Q/\(p=1∨p=2)/\(q=1∨q=2) then ntO L re lo p S else []
theorem zWc {L:List Fg} {re lo p q E0:Int} {S:List UInt8} (h:zWb L re lo S p q=E0) (h0:E0≠0):trE L re lo S p q=E0/\trS L re lo S p q=[]:=by
 have h1:trE L re lo S p q=E0:=by
  unfold zWb at h;unfold trE;split
  ·rename_i hk;rw [qP hk] at h;rw [qN (by rw [h];exact h0)];exact h
  ·rename_i hk;rw [qN hk] at h;exact h
 exact ⟨h1,by unfold trS;rw [h1,qN h0]⟩
theorem zTx {L:List Fg} {re lo p q:Int} {S:List UInt8} (h:zWb L re lo S p q=0) :
  frB L re lo=Q/\(q=1∨q=2)/\zWm L re lo S p q=ntO L re lo p S/\trE L re lo S p q=(if q=2/\(ntO L re lo p S).all (zBN L)=E then 8 else 0):=by
 unfold zWb at h;by_cases hk:frB L re lo=Q/\(p=1∨p=2)/\(q=1∨q=2)
 ·rw [qP hk] at h;refine ⟨hk.1,hk.2.2,by unfold zWm;rw [qP hk],?_⟩;unfold trE;rw [qP hk,qP h]
 ·rw [qN hk] at h;cases h
theorem zTy {L:List Fg} {re lo k:Int} {S:List UInt8} (hS:S.length<=2000):(∀o∈ntO L re lo k S,o.path.length<=4000)/\(ntO L re lo k S).length<=2001:=by
 unfold ntO;split
 ·exact zTp hS
 ·exact zTq hS
def zWd (L:List Fg) (Es:List Oe) (E0 ZQ E1:Int) (i:Nat):Prop:=(E0≠0/\E1=E0/\ZQ=E0)∨(E0=0/\E1=0/\∀j:Nat,j < i->zBN L (oa Es j).o=Q)∨(E0=0/\E1=8/\ZQ=8)
theorem zXN {L:List Fg} {Es:List Oe} {m:Nat} (hm:Es.length=m) (h:∀j:Nat,j < m->zBN L (oa Es j).o=Q):(ogs Es).all (zBN L)=Q:=by
 rw [List.all_eq_true];intro o ho;unfold ogs at ho;obtain ⟨e,he,rfl⟩:=List.mem_map.1 ho;obtain ⟨j,hj⟩:=List.getElem?_of_mem he;have hl:=(List.getElem?_eq_some_iff.1 hj).1;have h1:=zBC hl;rw [hj] at h1;injection h1 with h1
 rw [h1];exact h j (by omega)
theorem zWe {L:List Fg} {Es:List Oe} {i:Nat} (hi:i < Es.length) (h:zBN L (oa Es i).o=E):(ogs Es).all (zBN L)=E:=by
 cases e:(ogs Es).all (zBN L) with
 | false=>rfl
 | true =>
  rw [List.all_eq_true] at e;have:=e (oa Es i).o (by unfold ogs;exact List.mem_map.2 ⟨_,List.mem_of_getElem? (zBC hi),rfl⟩);rw [h] at this;cases this
theorem zET (A:Option Addr) (n c:Nat) (L:List Fg) (re lo:Int) (S:List UInt8) (p q:Int) (w:ZY) (hA:Fgs w A n L) (hc:n<=c) (_hp:I64 p) (_hq:I64 q) (ht:Tabs w) :
  Calls ZX 10 #[frV A n c re lo,W (bA S),D J p,D J q] w fun e w'=>e=.returned (G Q)/\ZZ w.heap.size w w':=by
 have dZ:=qH hA.len;have HA:=qH hA;have HT:=qH ht;have HB:=qH (M w.heap.size w);have HC:=qH hc;have hs:=zBz S;obtain ⟨nS,dm⟩:∃k,S.length=k:=⟨_,rfl⟩
 rw [dm] at hs;have HN:=qH dm;clear hA ht hc dm _hp _hq;by_cases h60:n<=60
 ·by_cases h9:nS<=2000
  ·skip;have HS:=qH (show decide (n<=60)=Q by simpa using h60);have i0:¬(2000:Int) < (nS:Int):=by omega
   have ie:=qH (show S.length<=2000 by rw [HN.out];exact h9);obtain ⟨ZQ,hE⟩:∃ZQ,trE L re lo S p q=ZQ:=⟨_,rfl⟩
   obtain ⟨T0,vh⟩:∃T,trS L re lo S p q=T:=⟨_,rfl⟩
   obtain ⟨E0,FB⟩:∃ZQ,zWb L re lo S p q=ZQ:=⟨_,rfl⟩
   obtain ⟨O0,nJ⟩:∃ZM,zWm L re lo S p q=ZM:=⟨_,rfl⟩
   obtain ⟨v,hv⟩:∃v,frB L re lo=v:=⟨_,rfl⟩
   have HE:=qH hE;have zE:=qH vh;have Aa:=qH FB;have zQ:=qH nJ;have HV:=qH hv;clear h60 h9 hE vh FB nJ hv;go_enter Tryz.func10,Tryz.ntmps10;have hba:=(M w.heap.size w).alloc (O _) (.cells #[H A n c,D J re,D J lo] 24);replace HA:=qH (HA.out.below hba);replace HT:=qH (HT.out.below hba);replace HB:=qH (zAa HB.out hba HB.out.size);have kf:=Blk.new w 24 #[H A n c,D J re,D J lo];clear hba;go_upto_region 1 with fail
   generalize w.alloc (.cells #[H A n c,D J re,D J lo] 24)=X at HA HT HB kf ⊢;obtain ⟨c0,c1,c2⟩:=cQ3 kf;go_wp2_with fail
   refine (zHR HS.out A c re lo _).mono ?_;rintro e v5 ⟨rfl,hb⟩;clear c0 c1 c2;replace HA:=qH (HA.out.below hb);replace HT:=qH (HT.out.below hb);replace HB:=qH (zAa HB.out hb HB.out.size);replace kf:=kf.below hb kf.lt;clear hb;obtain ⟨c0,c1,c2⟩:=cQ3 kf;go_wp2_with fail
   refine (zTw HE.out zE.out _ HA.out HC.out HT.out).mono ?_;rintro e v6 ⟨rfl,hb⟩;clear c0 c1 c2;replace HA:=qH (HA.out.below hb);replace HT:=qH (HT.out.below hb);replace HB:=qH (zAa HB.out hb HB.out.size);replace kf:=kf.below hb kf.lt;clear hb;obtain ⟨bd,hbd⟩:∃b,(!(v&&(decide (p=1)||decide (p=2))&&(decide (q=1)||decide (q=2))))=b:=⟨_,rfl⟩
   have iu:=qH hbd;clear hbd;go_upto_block 0 with fail
   go_cut [11,12] (fun v11 v12 wv=>∃(B:Option Addr) (m d:Nat) (Es:List Oe) (V:ZY),V=wv/\v11=D J E0/\v12=H B m d/\ZZ v6.heap.size v6 V/\Hid (Oprs V B m Es)/\Hid (ogs Es=O0))
   case first =>
    obtain ⟨c0,c1,c2⟩:=cQ3 kf;go_upto_region 7 with fail
    go_cut [39] (fun v39 wv=>v39=G bd/\∃V:ZY,V=wv/\ZZ v6.heap.size v6 V)
    case first =>
     go_wp2_with fail
     refine (zRa HV.out _ HA.out).mono ?_;rintro e V ⟨rfl,hb⟩
     cases v with
     | false =>
      obtain rfl:bd=Q:=by rw [<-iu.out];rfl
      go_wp2_with fail
      go_meet
      case rel=>exact ⟨rfl,_,rfl,hb⟩
     | true =>
      by_cases p1:p < 1
      ·obtain rfl:bd=Q:=by rw [<-iu.out,decide_eq_false (by omega:¬p=1),decide_eq_false (by omega:¬p=2)];rfl
       go_wp2_with fail
       go_meet
       case rel=>exact ⟨rfl,_,rfl,hb⟩
      by_cases p2:2 < p
      ·obtain rfl:bd=Q:=by rw [<-iu.out,decide_eq_false (by omega:¬p=1),decide_eq_false (by omega:¬p=2)];rfl
       go_wp2_with fail
       go_meet
       case rel=>exact ⟨rfl,_,rfl,hb⟩
      have vN:=qH (show (decide (p=1)||decide (p=2))=Q by rw [Bool.or_eq_true,decide_eq_true_eq,decide_eq_true_eq];omega);by_cases q1:q < 1
      ·obtain rfl:bd=Q:=by rw [<-iu.out,vN.out,decide_eq_false (by omega:¬q=1),decide_eq_false (by omega:¬q=2)];rfl
       go_wp2_with fail
       go_meet
       case rel=>exact ⟨rfl,_,rfl,hb⟩
      by_cases q2:2 < q
      ·obtain rfl:bd=Q:=by rw [<-iu.out,vN.out,decide_eq_false (by omega:¬q=1),decide_eq_false (by omega:¬q=2)];rfl
       go_wp2_with fail
       go_meet
       case rel=>exact ⟨rfl,_,rfl,hb⟩
      have vM:=qH (show (decide (q=1)||decide (q=2))=Q by rw [Bool.or_eq_true,decide_eq_true_eq,decide_eq_true_eq];omega);obtain rfl:bd=E:=by rw [<-iu.out,vN.out,vM.out];rfl
      go_wp2_with fail
      go_meet
      case rel=>exact ⟨by rw [decide_eq_false (by omega:¬p < 1),decide_eq_false (by omega:¬2 < p),decide_eq_false (by omega:¬q < 1),decide_eq_false (by omega:¬2 < q)];rfl,_,rfl,hb⟩
    case rest =>
     obtain ⟨rfl,V0,hV,hb⟩:=hcut;subst hV;clear c0 c1 c2;have dn:=qH hb;replace HA:=qH (HA.out.below hb);replace HT:=qH (HT.out.below hb);replace HB:=qH (zAa HB.out hb HB.out.size);replace kf:=kf.below hb kf.lt;clear hb
     cases bd with
     | true =>
      have hno:¬(frB L re lo=Q/\(p=1∨p=2)/\(q=1∨q=2)):=fun h=>by
       have h1:=iu.out;rw [<-HV.out,h.1] at h1;have h2:(decide (p=1)||decide (p=2))=Q:=by rw [Bool.or_eq_true,decide_eq_true_eq,decide_eq_true_eq];exact h.2.1
       have h3:(decide (q=1)||decide (q=2))=Q:=by rw [Bool.or_eq_true,decide_eq_true_eq,decide_eq_true_eq];exact h.2.2
       rw [h2,h3] at h1;cases h1
      obtain rfl:E0=2:=by rw [<-Aa.out];unfold zWb;rw [qN hno]
      obtain rfl:O0=[]:=by rw [<-zQ.out];unfold zWm;rw [qN hno]
      clear hno;go_wp2_with fail
      go_meet
      case rel=>exact ⟨U,0,0,[],_,rfl,rfl,rfl,dn.out,qH (Oprs.nil _ _),qH rfl⟩
     | false =>
      have hbb:=iu.out;simp only [Bool.not_eq_false',Bool.and_eq_true,Bool.or_eq_true,decide_eq_true_eq] at hbb;obtain ⟨⟨pV,xW⟩,xV⟩:=hbb;have Dt:=qH (HV.out.trans pV);have HK:=qH (show frB L re lo=Q/\(p=1∨p=2)/\(q=1∨q=2) from ⟨Dt.out,xW,xV⟩);have nr:=qH (show ntE L re lo p S=E0 by rw [<-Aa.out];unfold zWb;rw [qP HK.out]);have nl:=qH (show ntO L re lo p S=O0 by rw [<-zQ.out];unfold zWm;rw [qP HK.out]);clear xV pV;rcases xW with hp1 | hp1
      ·subst hp1;obtain ⟨⟨RO,kn,RE⟩,AJ⟩:∃x,rlR L re lo S=x:=⟨_,rfl⟩
       obtain rfl:RE=E0:=by rw [<-nr.out];unfold ntE;rw [qP rfl,AJ]
       obtain rfl:RO=O0:=by rw [<-nl.out];unfold ntO;rw [qP rfl,AJ]
       have ke:=qH AJ;clear AJ;obtain ⟨c0,c1,c2⟩:=cQ3 kf;go_wp2_with fail
       refine (zJY ke.out _ HA.out Dt.out).mono ?_;rintro e V ⟨B,m,d,Es,rfl,fU,hml,hO,hb⟩;have pK:=qH (hO.oprs hml);have rf:=qH (show ogs Es=_ from fU);clear fU hml hO;clear c0 c1 c2;go_wp2_with fail
       go_meet
       case rel=>exact ⟨B,m,d,Es,_,rfl,rfl,rfl,zAa dn.out hb dn.out.size,pK,rf⟩
      ·subst hp1;have HRE:=qH (show rsE L re lo S=E0 by rw [<-nr.out];unfold ntE;rw [qN (by decide)]);have zL:=qH (show rsO L re lo S=O0 by rw [<-nl.out];unfold ntO;rw [qN (by decide)]);obtain ⟨c0,c1,c2⟩:=cQ3 kf;go_wp2_with fail
       refine (zJX HRE.out zL.out _ HA.out Dt.out).mono ?_;rintro e V ⟨B,m,d,Es,rfl,fU,hml,hO,hb⟩;have pK:=qH (hO.oprs hml);have rf:=qH (show ogs Es=_ from fU);clear fU hml hO;clear c0 c1 c2;go_wp2_with fail
       go_meet
       case rel=>exact ⟨B,m,d,Es,_,rfl,rfl,rfl,zAa dn.out hb dn.out.size,pK,rf⟩
   case rest =>
    obtain ⟨B,m,d,Es,V1,hV,rfl,rfl,hb,HO,rf⟩:=hcut;subst hV;replace HA:=qH (HA.out.below hb);replace HT:=qH (HT.out.below hb);replace HB:=qH (zAa HB.out hb HB.out.size);replace kf:=kf.below hb kf.lt;clear hb iu;have bo:=qH HO.out.len
    have HZ:=qH (show E0=0->(frB L re lo=Q/\(q=1∨q=2)/\O0=ntO L re lo p S/\ZQ=(if q=2/\O0.all (zBN L)=E then 8 else 0)) from fun h=>by
     obtain ⟨h1,h2,h3,h4⟩:=zTx (Aa.out.trans h)
     rw [zQ.out] at h3
     exact ⟨h1,h2,h3,by rw [<-HE.out,h4,<-h3]⟩)
    have Ae:=qH (show E0≠0->ZQ=E0/\T0=[] from fun h=>by
     obtain ⟨h1,h2⟩:=zWc Aa.out h
     exact ⟨by rw [<-HE.out,h1],by rw [<-zE.out,h2]⟩)
    have Gz:=qH (show ZQ≠0->T0=[] from fun h=>by rw [<-zE.out];unfold trS;rw [HE.out,qN h]);have gP:=qH (show ZQ=0->T0=ntW L q (ntO L re lo p S) from fun h=>by rw [<-zE.out];unfold trS;rw [HE.out,qP h])
    have vU:=qH (show O0=ntO L re lo p S->(∀e∈Es,zAf L.length e.o=Q)/\(∀e∈Es,e.n<=4000)/\m<=2001 from fun h=>by
     have h1:=zQl (L:=L) (re:=re) (lo:=lo) (k:=p) (S:=S)
     have h2:=zTy (L:=L) (re:=re) (lo:=lo) (k:=p) ie.out
     rw [<-h,<-rf.out] at h1 h2
     have hmem:∀e∈Es,e.o∈ogs Es:=fun e he=>by unfold ogs;exact List.mem_map.2 ⟨e,he,rfl⟩
     refine ⟨fun e he=>(h1.1 _ (hmem e he)).1,fun e he=>?_,?_⟩
     ·have h3:=(HO.out.2 e he).path.len
      have h4:=h2.1 _ (hmem e he)
      omega
     ·have h5:=h2.2
      unfold ogs at h5
      rw [List.length_map,bo.out] at h5
      exact h5)
    have HMX:=qH (show m<=1000000 from by
     by_cases h:E0=0
     ·have:=(vU.out (HZ.out h).2.2.1).2.2;omega
     ·have h2:O0=[]∨O0=ntO L re lo p S:=by
       rw [<-zQ.out];unfold zWm;split
       ·exact .inr rfl
       ·exact .inl rfl
      rcases h2 with h2 | h2
      ·have h3:=rf.out
       rw [h2] at h3
       have h4:=congrArg List.length h3
       unfold ogs at h4
       rw [List.length_map,bo.out] at h4
       simp at h4;omega
      ·have:=(vU.out h2).2.2;omega)
    clear zE HE Aa zQ;go_wp2_with fail
    go_loopw [11,13] (fun v7 v8 wr=>∃(i:Nat) (E1:Int),i<=m/\v8=D J i/\v7=D J E1/\ZZ V1.heap.size V1 wr/\Hid (zWd L Es E0 ZQ E1 i)) (fun _ v8 _=>m-(intOf v8).toNat)
    case atStart=>exact ⟨0,E0,Nat.zero_le _,rfl,rfl,M _ _,qH ((Decidable.em (E0=0)).elim (fun h=>.inr (.inl ⟨h,h,fun j hj=>by omega⟩)) (fun h=>.inl ⟨h,rfl,(Ae.out h).1⟩))⟩
    case round =>
     obtain ⟨i,E1,hi,rfl,rfl,hbr,HI⟩:=hrel;have nt:=qH hbr;replace HA:=qH (HA.out.below hbr);replace HT:=qH (HT.out.below hbr);replace HB:=qH (zAa HB.out hbr HB.out.size);replace kf:=kf.below hbr kf.lt;replace HO:=qH (HO.out.below hbr);clear hbr;have jF:m<=1000000:=HMX.out;obtain ⟨x,hx⟩:∃x,(decide (i < m)&&(decide (E1=0)&&decide (q=2)))=x:=⟨_,rfl⟩
     have HX:=qH hx;clear hx;go_upto_region 12 with fail
     go_cut [80] (fun v80 wv=>v80=G x/\wv=wr)
     case first =>
      by_cases hlt:i < m
      ·have j1:(i:Int) < (m:Int):=by omega
       by_cases h0:E1=0
       ·have t0:(E1==0)=Q:=by rw [h0];rfl
        by_cases h2:q=2
        ·have t2:(q==2)=Q:=by rw [h2];rfl
         obtain rfl:x=Q:=by rw [<-HX.out,decide_eq_true hlt,decide_eq_true h0,decide_eq_true h2];rfl
         clear h0 h2 hlt;go_wp2_with fail
         go_meet
         case rel=>exact ⟨rfl,rfl⟩
        ·have t2:(q==2)=E:=by simpa using h2
         obtain rfl:x=E:=by rw [<-HX.out,decide_eq_false h2];simp
         clear h0 h2 hlt;go_wp2_with fail
         go_meet
         case rel=>exact ⟨rfl,rfl⟩
       ·have t0:(E1==0)=E:=by simpa using h0
        obtain rfl:x=E:=by rw [<-HX.out,decide_eq_false h0];simp
        clear h0 hlt;go_wp2_with fail
        go_meet
        case rel=>exact ⟨rfl,rfl⟩
      ·have j1:¬(i:Int) < (m:Int):=by omega
       obtain rfl:x=E:=by rw [<-HX.out,decide_eq_false hlt];rfl
       clear hlt;go_wp2_with fail
       go_meet
       case rel=>exact ⟨rfl,rfl⟩
     case rest =>
      obtain ⟨rfl,hV⟩:=hcut;subst wc
      cases x with
      | true =>
       have hX:=HX.out;rw [Bool.and_eq_true,Bool.and_eq_true,decide_eq_true_eq,decide_eq_true_eq,decide_eq_true_eq] at hX;obtain ⟨hlt,h10,ew⟩:=hX;subst h10;have hI:=HI.out;have nM:E0=0:=by
        rcases hI with h | h | h
        ·exact absurd h.2.1.symm h.1
        ·exact h.1
        ·exact h.1
       have HJ:=qH (show ∀j:Nat,j < i->zBN L (oa Es j).o=Q by
        rcases hI with h | h | h
        ·exact absurd nM h.1
        ·exact h.2.2
        ·cases h.2.1)
       have hZ:=HZ.out nM;have HG:=qH (vU.out hZ.2.2.1);have HE8:=qH (show O0.all (zBN L)=E->ZQ=8 from fun h=>by rw [hZ.2.2.2,qP ⟨ew,h⟩]);have Hc:=qH nM;clear hI HI hZ nM ew;have j0:(0:Int)<=(i:Int):=by omega
       have j1:(i:Int) < (m:Int):=by omega
       have hil:i < Es.length:=by rw [bo.out];exact hlt
       have hme:oa Es i∈Es:=List.mem_of_getElem? (zBC hil);have nW:=qH (show zAf n (oa Es i).o=Q by rw [<-dZ.out];exact HG.out.1 _ hme);obtain ⟨bx,hbx⟩:∃b,zBN L (oa Es i).o=b:=⟨_,rfl⟩
       have fB:=qH hbx;have lC:=qH hil;clear hme hbx hil;obtain ⟨g,p,rfl,hg,⟨x0,x1,x2,x3,x4,x5,x6,x7⟩,hin⟩:=HO.out.at_ hlt;have ou:=qH hin;generalize hoe:oa Es i=e at x0 x1 x2 x3 x4 x5 x6 x7 ou;have pK:=qH hoe;obtain ⟨⟨kk,ff,⟨gf,gl,gfar,gpc⟩,gp,go⟩,eA,en,ec⟩:=e;simp only at x0 x1 x2 x3 x4 x5 x6 x7;clear hin hoe;have HX:=qH (show g < wr.heap.size/\wr.cell? ⟨g,p+i*8,U⟩=Z (D J kk)/\wr.cell? ⟨g,p+i*8+1,U⟩=Z (D J ff)/\wr.cell? ⟨g,p+i*8+2,U⟩=Z (D J gf)/\wr.cell? ⟨g,p+i*8+3,U⟩=Z (D J gl)/\wr.cell? ⟨g,p+i*8+4,U⟩=Z (G gfar)/\wr.cell? ⟨g,p+i*8+5,U⟩=Z (D J gpc)/\wr.cell? ⟨g,p+i*8+6,U⟩=Z (H eA en ec)/\wr.cell? ⟨g,p+i*8+7,U⟩=Z (G go) from ⟨hg,x0,x1,x2,x3,x4,x5,x6,x7⟩);clear x0 x1 x2 x3 x4 x5 x6 x7 hg;rw [pK.out] at nW fB;go_upto_region 14 with fail
       go_cut [89] (fun v wv=>v=G (!bx)/\∃V:ZY,V=wv/\ZZ wr.heap.size wr V)
       case first =>
        have k0:∀wx,ZZ wr.heap.size wr wx->(ZZ wr.heap.size wr wx/\wx.cell? ⟨w.heap.size,0,U⟩=Z (H A n c)/\wx.cell? ⟨w.heap.size,1,U⟩=Z (D J re)/\wx.cell? ⟨w.heap.size,2,U⟩=Z (D J lo)/\wx.cell? ⟨g,p+i*8,U⟩=Z (D J kk)/\wx.cell? ⟨g,p+i*8+1,U⟩=Z (D J ff)/\wx.cell? ⟨g,p+i*8+2,U⟩=Z (D J gf)/\wx.cell? ⟨g,p+i*8+3,U⟩=Z (D J gl)/\wx.cell? ⟨g,p+i*8+4,U⟩=Z (G gfar)/\wx.cell? ⟨g,p+i*8+5,U⟩=Z (D J gpc)/\wx.cell? ⟨g,p+i*8+6,U⟩=Z (H eA en ec)/\wx.cell? ⟨g,p+i*8+7,U⟩=Z (G go)):=fun wx h=>⟨h,((kf.below h kf.lt).cell 0).trans rfl,((kf.below h kf.lt).cell 1).trans rfl,((kf.below h kf.lt).cell 2).trans rfl,(h.cell (p:=⟨g,p+i*8,U⟩) HX.out.1).trans HX.out.2.1,(h.cell (p:=⟨g,p+i*8+1,U⟩) HX.out.1).trans HX.out.2.2.1,(h.cell (p:=⟨g,p+i*8+2,U⟩) HX.out.1).trans HX.out.2.2.2.1,(h.cell (p:=⟨g,p+i*8+3,U⟩) HX.out.1).trans HX.out.2.2.2.2.1,(h.cell (p:=⟨g,p+i*8+4,U⟩) HX.out.1).trans HX.out.2.2.2.2.2.1,(h.cell (p:=⟨g,p+i*8+5,U⟩) HX.out.1).trans HX.out.2.2.2.2.2.2.1,(h.cell (p:=⟨g,p+i*8+6,U⟩) HX.out.1).trans HX.out.2.2.2.2.2.2.2.1,(h.cell (p:=⟨g,p+i*8+7,U⟩) HX.out.1).trans HX.out.2.2.2.2.2.2.2.2⟩
        have KP:=qH k0;clear k0
        first
         | go_region_held3 (fun wx=>ZZ wr.heap.size wr wx/\wx.cell? ⟨w.heap.size,0,U⟩=Z (H A n c)/\wx.cell? ⟨w.heap.size,1,U⟩=Z (D J re)/\wx.cell? ⟨w.heap.size,2,U⟩=Z (D J lo)/\wx.cell? ⟨g,p+i*8,U⟩=Z (D J kk)/\wx.cell? ⟨g,p+i*8+1,U⟩=Z (D J ff)/\wx.cell? ⟨g,p+i*8+2,U⟩=Z (D J gf)/\wx.cell? ⟨g,p+i*8+3,U⟩=Z (D J gl)/\wx.cell? ⟨g,p+i*8+4,U⟩=Z (G gfar)/\wx.cell? ⟨g,p+i*8+5,U⟩=Z (D J gpc)/\wx.cell? ⟨g,p+i*8+6,U⟩=Z (H eA en ec)/\wx.cell? ⟨g,p+i*8+7,U⟩=Z (G go)) (first | assumption | exact KP.out _ (M _ _).drew | exact KP.out _ (zAa (And.left (by assumption)) (by assumption) (Below.size (And.left (by assumption)))))
           (first
            | (go_at_call 29;refine (zMu fB.out _ _ _ _ (HA.out.below (And.left (by assumption))) (ou.out.below (And.left (by assumption))) nW.out).mono ?_;rintro e wd ⟨rfl,hbd⟩))
         | fail
        all_goals
         have hbf:=And.left (show ZZ wr.heap.size wr _/\_ by assumption);go_wp2_with fail
         go_meet
         case rel=>exact ⟨rfl,_,rfl,hbf⟩
       case rest =>
        obtain ⟨rfl,V,hV,hb⟩:=hcut;subst hV;have ai:=zAa nt.out hb nt.out.size;have nF:i+1<=m:=hlt
        cases bx with
        | true =>
         have DV:=qH (show zWd L Es E0 ZQ 0 (i+1) from .inr (.inl ⟨Hc.out,rfl,fun j hj=>by
          rcases Nat.decEq j i with e | e
          ·exact HJ.out j (by omega)
          ·subst e;rw [pK.out];exact fB.out⟩))
         clear HJ fB;go_wp2_with fail
         go_roundw
         case rel=>exact ⟨i+1,0,nF,by go_num,rfl,ai,DV⟩
         case measure=>simp [intOf];omega
        | false =>
         have DV:=qH (show zWd L Es E0 ZQ 8 (i+1) from .inr (.inr ⟨Hc.out,rfl,HE8.out (by rw [<-rf.out];exact zWe lC.out (by rw [pK.out];exact fB.out))⟩));clear HJ fB;go_wp2_with fail
         go_roundw
         case rel=>exact ⟨i+1,8,nF,by go_num,rfl,ai,DV⟩
         case measure=>simp [intOf];omega
      | false =>
       by_cases h10:E1=0
       ·subst h10;have hI:=HI.out;have nM:E0=0:=by
         rcases hI with h | h | h
         ·exact absurd h.2.1.symm h.1
         ·exact h.1
         ·exact h.1
        have hJ:∀j:Nat,j < i->zBN L (oa Es j).o=Q:=by
         rcases hI with h | h | h
         ·exact absurd nM h.1
         ·exact h.2.2
         ·cases h.2.1
        obtain ⟨bu,cM,uk,wj⟩:=HZ.out nM;have pH:=qH (vU.out uk).1;have GZ:=qH (vU.out uk).2.1;have wt:m<=2001:=(vU.out uk).2.2;have hee:ZQ=0:=by
         rw [wj];by_cases ew:q=2
         ·have him:i=m:=by
           have h1:=HX.out;rw [decide_eq_true ew] at h1;simp at h1;omega
          have h2:=zXN (L:=L) bo.out (fun j hj=>hJ j (by omega));rw [rf.out] at h2;rw [qN (fun h=>by rw [h2] at h;cases h.2)]
         ·rw [qN (fun h=>ew h.1)]
        have wD:T0=ntW L q (ogs Es):=by rw [gP.out hee,<-uk,rf.out]
        subst hee;have qW:=qH wD;have DW:=qH (show frOk L re lo from zCQ.1 bu);have ol:=qH DW.out.tok;have vM:=qH cM;have hstart:Hid ([]=zIn L Es 0):=qH (zOM L Es).symm;clear hI hJ bu cM uk wj nM wD HI HX vU HZ Ae Gz gP;obtain ⟨wo,rfl⟩:∃x,x=wr:=⟨_,rfl⟩
        go_wp2_with fail
        go_loopw [14,15] (fun v7 v8 wr2=>∃(i:Nat) (T:List UInt8),i<=m/\v8=D J i/\v7=W (bA T)/\ZZ wo.heap.size wo wr2/\Hid (T=zIn L Es i)/\T.length<=i*480301) (fun _ v8 _=>m-(intOf v8).toNat)
        case atStart=>exact ⟨0,[],Nat.zero_le _,rfl,rfl,M _ _,hstart,by simp⟩
        case round =>
         obtain ⟨k,T,hk,rfl,rfl,hbr,cQ,jM⟩:=hrel;have Ac:=qH hbr;replace HA:=qH (HA.out.below hbr);replace HT:=qH (HT.out.below hbr);replace HB:=qH (zAa HB.out hbr HB.out.size);replace kf:=kf.below hbr kf.lt;replace HO:=qH (HO.out.below hbr);clear hbr hstart;by_cases hlt:k < m
         ·have j0:(0:Int)<=(k:Int):=by omega
          have j1:(k:Int) < (m:Int):=by omega
          have hil:k < Es.length:=by rw [bo.out];exact hlt
          have hsn:=zOL L hil;have hme:oa Es k∈Es:=List.mem_of_getElem? (zBC hil);have hri:=pH.out _ hme;have hen:=GZ.out _ hme;have hpl:=(HO.out.2 _ hme).path.len;have yK:=zKy DW.out hri;obtain ⟨IT,im⟩:∃T,zBg L (oa Es k).o=T:=⟨_,rfl⟩
          rw [im] at hsn yK;have vn:IT.length<=480300:=by omega
          obtain ⟨Y0,m8⟩:∃ZS,T++IT=ZS:=⟨_,rfl⟩
          obtain ⟨Y1,e9⟩:∃ZS,Y0++[10]=ZS:=⟨_,rfl⟩
          have y0:Y0.length<=k*480301+480300:=by rw [<-m8,List.length_append];omega
          have y1:Y1.length<=(k+1)*480301:=by rw [<-e9,List.length_append];simp only [List.length_cons,List.length_nil];omega
          have r0:=zAl m8 _ _ rfl rfl (by omega) (by omega);have r1:=zAl e9 _ ⟨#[10]⟩ rfl rfl (by omega) (by simp);have gK:=qH (show Y1=zIn L Es (k+1) by rw [hsn,<-e9,<-m8,cQ.out]);have nF:k+1<=m:=hlt;have nW:=qH (show zAf n (oa Es k).o=Q by rw [<-dZ.out];exact hri);have z7:=qH (show (oa Es k).n<=10000 by omega);have fw:=qH im;clear hsn hme hri hen hpl yK vn im m8 e9 y0 cQ hil;obtain ⟨g,p,rfl,hg,⟨x0,x1,x2,x3,x4,x5,x6,x7⟩,hin⟩:=HO.out.at_ hlt;have ou:=qH hin;generalize hoe:oa Es k=e at x0 x1 x2 x3 x4 x5 x6 x7 ou;have pK:=qH hoe;obtain ⟨⟨kk,ff,⟨gf,gl,gfar,gpc⟩,gp,go⟩,eA,en,ec⟩:=e;simp only at x0 x1 x2 x3 x4 x5 x6 x7;clear hin hoe;have HX:=qH (show g < wr.heap.size/\wr.cell? ⟨g,p+k*8,U⟩=Z (D J kk)/\wr.cell? ⟨g,p+k*8+1,U⟩=Z (D J ff)/\wr.cell? ⟨g,p+k*8+2,U⟩=Z (D J gf)/\wr.cell? ⟨g,p+k*8+3,U⟩=Z (D J gl)/\wr.cell? ⟨g,p+k*8+4,U⟩=Z (G gfar)/\wr.cell? ⟨g,p+k*8+5,U⟩=Z (D J gpc)/\wr.cell? ⟨g,p+k*8+6,U⟩=Z (H eA en ec)/\wr.cell? ⟨g,p+k*8+7,U⟩=Z (G go) from ⟨hg,x0,x1,x2,x3,x4,x5,x6,x7⟩);clear x0 x1 x2 x3 x4 x5 x6 x7 hg;rw [pK.out] at nW z7 fw;go_upto_region 22 with fail
          have k0:∀wx,ZZ wr.heap.size wr wx->(ZZ wr.heap.size wr wx/\wx.cell? ⟨w.heap.size,0,U⟩=Z (H A n c)/\wx.cell? ⟨w.heap.size,1,U⟩=Z (D J re)/\wx.cell? ⟨w.heap.size,2,U⟩=Z (D J lo)/\wx.cell? ⟨g,p+k*8,U⟩=Z (D J kk)/\wx.cell? ⟨g,p+k*8+1,U⟩=Z (D J ff)/\wx.cell? ⟨g,p+k*8+2,U⟩=Z (D J gf)/\wx.cell? ⟨g,p+k*8+3,U⟩=Z (D J gl)/\wx.cell? ⟨g,p+k*8+4,U⟩=Z (G gfar)/\wx.cell? ⟨g,p+k*8+5,U⟩=Z (D J gpc)/\wx.cell? ⟨g,p+k*8+6,U⟩=Z (H eA en ec)/\wx.cell? ⟨g,p+k*8+7,U⟩=Z (G go)):=fun wx h=>⟨h,((kf.below h kf.lt).cell 0).trans rfl,((kf.below h kf.lt).cell 1).trans rfl,((kf.below h kf.lt).cell 2).trans rfl,(h.cell (p:=⟨g,p+k*8,U⟩) HX.out.1).trans HX.out.2.1,(h.cell (p:=⟨g,p+k*8+1,U⟩) HX.out.1).trans HX.out.2.2.1,(h.cell (p:=⟨g,p+k*8+2,U⟩) HX.out.1).trans HX.out.2.2.2.1,(h.cell (p:=⟨g,p+k*8+3,U⟩) HX.out.1).trans HX.out.2.2.2.2.1,(h.cell (p:=⟨g,p+k*8+4,U⟩) HX.out.1).trans HX.out.2.2.2.2.2.1,(h.cell (p:=⟨g,p+k*8+5,U⟩) HX.out.1).trans HX.out.2.2.2.2.2.2.1,(h.cell (p:=⟨g,p+k*8+6,U⟩) HX.out.1).trans HX.out.2.2.2.2.2.2.2.1,(h.cell (p:=⟨g,p+k*8+7,U⟩) HX.out.1).trans HX.out.2.2.2.2.2.2.2.2⟩
          have KP:=qH k0;clear k0
          first
           | go_region_held3 (fun wx=>ZZ wr.heap.size wr wx/\wx.cell? ⟨w.heap.size,0,U⟩=Z (H A n c)/\wx.cell? ⟨w.heap.size,1,U⟩=Z (D J re)/\wx.cell? ⟨w.heap.size,2,U⟩=Z (D J lo)/\wx.cell? ⟨g,p+k*8,U⟩=Z (D J kk)/\wx.cell? ⟨g,p+k*8+1,U⟩=Z (D J ff)/\wx.cell? ⟨g,p+k*8+2,U⟩=Z (D J gf)/\wx.cell? ⟨g,p+k*8+3,U⟩=Z (D J gl)/\wx.cell? ⟨g,p+k*8+4,U⟩=Z (G gfar)/\wx.cell? ⟨g,p+k*8+5,U⟩=Z (D J gpc)/\wx.cell? ⟨g,p+k*8+6,U⟩=Z (H eA en ec)/\wx.cell? ⟨g,p+k*8+7,U⟩=Z (G go)) (first | assumption | exact KP.out _ (M _ _).drew | exact KP.out _ (zAa (And.left (by assumption)) (by assumption) (Below.size (And.left (by assumption)))))
             (first
              | (go_at_call 25;refine (zNw fw.out _ _ _ _ (HA.out.below (And.left (by assumption))) ol.out (ou.out.below (And.left (by assumption))) nW.out z7.out).mono ?_;rintro e wd ⟨rfl,hbd⟩))
           | fail
          all_goals
           have hbf:=And.left (show ZZ wr.heap.size wr _/\_ by assumption);have ai:=zAa Ac.out hbf Ac.out.size;go_wp2_with fail
           go_roundw
           case rel=>exact ⟨k+1,Y1,nF,by go_num,rfl,ai,gK,y1⟩
           case measure=>simp [intOf];omega
         ·have hin:k=m:=by omega
          have j1:¬(k:Int) < (m:Int):=by omega
          have et:T=zCf L (ogs Es):=by rw [cQ.out,hin,<-bo.out,zRi]
          have lx:=qH et;clear hin cQ jM et;by_cases ew:q=2
          ·have t2:(q==2)=Q:=by rw [ew];rfl
           have HS9:=qH (show zCV L (ogs Es)=T0 by rw [qW.out];unfold ntW;rw [qN (by rw [ew];decide)]);have fO:=qH (show m<=2100 by omega);clear ew;obtain ⟨c0,c1,c2⟩:=cQ3 kf;go_wp2_with fail
           refine (zRg HS9.out B m d _ HA.out DW.out HO.out pH.out fO.out GZ.out).mono ?_;rintro e v7 ⟨rfl,hb⟩;clear c0 c1 c2;replace HA:=qH (HA.out.below hb);replace HT:=qH (HT.out.below hb);replace HB:=qH (zAa HB.out hb HB.out.size);replace kf:=kf.below hb kf.lt;replace HO:=qH (HO.out.below hb);clear hb;go_wp2_with fail
           refine (zEa _ HT.out).mono ?_;rintro e v8 ⟨rfl,hb⟩;replace HA:=qH (HA.out.below hb);replace HT:=qH (HT.out.below hb);replace HB:=qH (zAa HB.out hb HB.out.size);replace kf:=kf.below hb kf.lt;replace HO:=qH (HO.out.below hb);clear hb;go_wp2_with fail
           go_ret;exact ⟨rfl,HB.out⟩
          ·have t2:(q==2)=E:=by simpa using ew
           obtain rfl:T=T0:=by
            have h1:q=1:=by
             rcases vM.out with h | h
             ·exact h
             ·exact absurd h ew
            rw [qW.out,lx.out];unfold ntW;rw [qP h1]
           clear ew;go_wp2_with fail
           refine (zEa _ HT.out).mono ?_;rintro e v9 ⟨rfl,hb⟩;replace HA:=qH (HA.out.below hb);replace HT:=qH (HT.out.below hb);replace HB:=qH (zAa HB.out hb HB.out.size);replace kf:=kf.below hb kf.lt;replace HO:=qH (HO.out.below hb);clear hb;go_wp2_with fail
           go_ret;exact ⟨rfl,HB.out⟩
       ·have AT:ZQ=E1:=by
         rcases HI.out with h | h | h
         ·rw [h.2.2,h.2.1]
         ·exact absurd h.2.1 h10
         ·rw [h.2.1,h.2.2]
        subst AT;have hS0:T0=[]:=Gz.out h10;subst hS0;have k2:(ZQ != 0)=Q:=by simpa using h10
        have e1:((bA ([]:List UInt8)).toList==[])=Q:=by rw [zAr];rfl
        clear HI h10;go_wp2_with fail
        refine (zEa _ HT.out).mono ?_;rintro e lU ⟨rfl,hb⟩;replace HA:=qH (HA.out.below hb);replace HT:=qH (HT.out.below hb);replace HB:=qH (zAa HB.out hb HB.out.size);replace kf:=kf.below hb kf.lt;replace HO:=qH (HO.out.below hb);clear hb;go_wp2_with fail
        go_ret;exact ⟨rfl,HB.out⟩
  ·skip;have HS:=qH (show decide (n<=60)=Q by simpa using h60);have i0:(2000:Int) < (nS:Int):=by omega
   clear h60 h9;go_enter Tryz.func10,Tryz.ntmps10;have hba:=(M w.heap.size w).alloc (O _) (.cells #[H A n c,D J re,D J lo] 24);replace HA:=qH (HA.out.below hba);replace HT:=qH (HT.out.below hba);replace HB:=qH (zAa HB.out hba HB.out.size);have kf:=Blk.new w 24 #[H A n c,D J re,D J lo];clear hba;go_upto_region 1 with fail
   generalize w.alloc (.cells #[H A n c,D J re,D J lo] 24)=X at HA HT HB kf ⊢;obtain ⟨c0,c1,c2⟩:=cQ3 kf;go_wp2_with fail
   refine (zHR HS.out A c re lo _).mono ?_;rintro e v3 ⟨rfl,hb⟩;clear c0 c1 c2;replace HA:=qH (HA.out.below hb);replace HT:=qH (HT.out.below hb);replace HB:=qH (zAa HB.out hb HB.out.size);replace kf:=kf.below hb kf.lt;clear hb;go_wp2_with fail
   refine (zEa _ HT.out).mono ?_;rintro e v4 ⟨rfl,hb⟩;replace HA:=qH (HA.out.below hb);replace HT:=qH (HT.out.below hb);replace HB:=qH (zAa HB.out hb HB.out.size);replace kf:=kf.below hb kf.lt;clear hb;go_wp2_with fail
   go_ret;exact ⟨rfl,HB.out⟩
 ·skip;have HS:=qH (show decide (n<=60)=E by simpa using h60);clear h60;go_enter Tryz.func10,Tryz.ntmps10;have hba:=(M w.heap.size w).alloc (O _) (.cells #[H A n c,D J re,D J lo] 24);replace HA:=qH (HA.out.below hba);replace HT:=qH (HT.out.below hba);replace HB:=qH (zAa HB.out hba HB.out.size);have kf:=Blk.new w 24 #[H A n c,D J re,D J lo];clear hba;go_upto_region 1 with fail
  generalize w.alloc (.cells #[H A n c,D J re,D J lo] 24)=X at HA HT HB kf ⊢;obtain ⟨c0,c1,c2⟩:=cQ3 kf;go_wp2_with fail
  refine (zHR HS.out A c re lo _).mono ?_;rintro e v1 ⟨rfl,hb⟩;clear c0 c1 c2;replace HA:=qH (HA.out.below hb);replace HT:=qH (HT.out.below hb);replace HB:=qH (zAa HB.out hb HB.out.size);replace kf:=kf.below hb kf.lt;clear hb;go_wp2_with fail
  refine (zEa _ HT.out).mono ?_;rintro e v2 ⟨rfl,hb⟩;replace HA:=qH (HA.out.below hb);replace HT:=qH (HT.out.below hb);replace HB:=qH (zAa HB.out hb HB.out.size);replace kf:=kf.below hb kf.lt;clear hb;go_wp2_with fail
  go_ret;exact ⟨rfl,HB.out⟩
open Go.ChangeShapes Go.WideShapes Go.ChangeAt Go.WideElems Go.RowKit
section
variable {ZT:Type} {enc:TypeId×Value->ZT} {P:Program}
theorem zFK (hl:laidOutB P=Q) {ZO W':ZY} {sp':Nat->Bool} (hb:ZZ ZO.heap.size ZO W'):∀(ts:List TypeId) (vs:List Value) (ds:List (DataW ZT)) (ps:List MemPlace),
  (∀t∈ts,P.readableRec t=Q/\t < P.types.size)->DataW.TrodAll enc P ZO 0 (fun _=>Q) Q ts vs ds ps->(∀p∈ps,p.block < ZO.heap.size)->(∀p∈ps,sp' p.block=Q)->DataW.TrodAll enc P W' 0 sp' Q ts vs ds ps
 | [],[],[],_,_,h,_,_=>h
 | [],[],_ :: _,_,_,h,_,_=>h.elim
 | [],_ :: _,_,_,_,h,_,_=>h.elim
 | _ :: _,[],_,_,_,h,_,_=>h.elim
 | _ :: _,_ :: _,[],_,_,h,_,_=>h.elim
 | t :: ts,v :: vs,d :: ds,ps,ht,h,hlt,hsp=>by
  obtain ⟨p,q,h1,h2,rfl⟩:=h;refine ⟨p,q,?_,?_,rfl⟩
  ·exact Trod_stays hl (ht t (by simp)).1 (ht t (by simp)).2 h1 (fun x hx=>hb.same (hlt x (by simp [hx]))) (fun x hx=>hsp x (by simp [hx]))
  ·exact zFK hl hb ts vs ds q (fun t' h'=>ht t' (by simp [h'])) h2 (fun x hx=>hlt x (by simp [hx])) (fun x hx=>hsp x (by simp [hx]))
theorem zJZ {f:Func} {s:ChangeSpec} {apart fresh handsOn again:Bool} {ZO W':ZY} {args:Array Value} {v:Value} {ds:List (DataW ZT)} {before:List MemPlace} (hl:laidOutB P=Q) (hb:ZZ ZO.heap.size ZO W')
  (hvs:s.vars=[]) (hfn:(s.fn ZT ds).args=ds) (hfv:(s.fn ZT ds).vars=[])
  (hts:∀t∈f.params.toList,P.readableRec t=Q/\t < P.types.size)
  (hW:DataW.Whole enc P f.params.toList s.vars apart ZO args.toList ds [] before)
  (hres:∀(b:Nat) (sp:Nat->Bool) (hd:Bool),DataW.TrodAll enc P W' b sp hd f.resultTypes.toList (v.resultList f.resultTypes.size) (s.fn ZT ds).results [])
  (hok:∀(j:Nat) (t:TypeId) (r:Value),f.resultTypes[j]? = Z t->(v.resultList f.resultTypes.size)[j]? = Z r->Value.okWide P W' .any 0 t r) :
  s.post enc P f apart fresh handsOn again ZO args v W':=by
 have hlt:=hW.lt;have cP:=hW;obtain ⟨pa,pv,hA,hV,rfl,hz,hn⟩:=cP;rw [hvs] at hV;obtain rfl:pv=[]:=hV;simp only [List.append_nil] at *;have tQ:∀sp:Nat->Bool,(∀p∈pa,sp p.block=Q)->DataW.TrodAll enc P W' 0 sp Q f.params.toList args.toList (s.fn ZT (ds++[])).args pa:=fun sp hsp=>by
  rw [List.append_nil,hfn];exact zFK hl hb _ _ _ _ hts hA hlt hsp
 have rl:∀sp:Nat->Bool,DataW.TrodVars enc P W' sp s.vars (s.fn ZT (ds++[])).vars []:=fun sp=>by
  rw [List.append_nil,hfv,hvs];rfl
 refine ⟨ds,[],pa,[],pa,[],hW,by rw [List.append_nil];exact hres _ _ _,tQ _ (fun p hp=>by simpa using hlt p hp),rl _,hb.frame _,fun _=>?_⟩;refine ⟨hok,_,_,([]++pa)++[],⟨[]++pa,[],trodAll_append (tQ _ (fun _ _=>rfl)) (hres _ _ _),rl _,rfl,?_,?_⟩,?_⟩
 ·intro b off hp;have pW:MemPlace.cell b off∈pa:=by simpa using hp
  rw [hb.frozen (p:=⟨b,off,U⟩) (hlt _ pW)];exact hz b off pW
 ·intro ha;simpa using hn ha
 ·intro p hp _;simpa using hp
end
open Go.ChangeShapes Go.WideShapes Go.ChangeAt Go.WideElems Go.RowKit Go.Deep Go.Joins
set_option maxRecDepth 100000
theorem own:ownKnob Tryz.prog.godebug=U:=by kernel_rfl
theorem zTz:laidOutB ZX=Q:=by kernel_rfl
theorem zTA:reachBytes=140737488351232:=by kernel_rfl
theorem zEy {ZT:Type} {enc:TypeId×Value->ZT} {a:Assume} {C:Checked} {os:Os} {f:FuncId} {fn:Func} {s:ChangeSpec} {conds:List PathCond} {apart fresh handsOn again:Bool} {X:ZY->Array Value->Prop}
  (hX:∀(w w':ZY) (args:Array Value),w.heap=w'.heap->X w args->X w' args)
  (own:ownKnob C.prog.godebug=U) (started:os.Started) (noInit:C.prog.inits.idxOf? f=U) (hfn:C.prog.funcs[f]? = Z fn)
  (witness:∃(w:ZY) (tape:Tape) (i:Input),w.os=os/\(w.forCall tape i).Shaped C.prog/\i.vars=[]/\Input.okWide C.prog (w.forCall tape i) .any w.heap.size f i /\
   ((s.pre enc C.prog fn conds apart (w.forCall tape i).memory i.args/\X (w.forCall tape i).memory i.args)/\sizedMet enc C.prog fn (OpenSpec.ofChange s) apart (w.forCall tape i).memory i.args)/\a.holds C.prog (lone (Frame.enter C.prog f i.args .normal) [] (w.forCall tape i)))
  (contract:∀(ZO:ZY) (base:Nat) (args:Array Value) (ds gs:List (DataW ZT)) (before:List MemPlace),
   (∀(j:Nat) t v,fn.params[j]? = Z t->args[j]? = Z v->Value.okWide C.prog ZO .any base t v) ->
   DataW.Whole enc C.prog fn.params.toList s.vars apart ZO args.toList ds gs before ->
   conds.all (PathCond.test C.prog ⟨fn.params.toList,ds,s.plain.varTypes C.prog,gs⟩)=Q ->
   (DataW.weightsEach C.prog (fn.params.toList++s.plain.varTypes C.prog) (ds++gs)).all (·<=reachBytes)=Q->X ZO args->ZO.ShapedOpen C.prog ->
   a.holds C.prog (lone (Frame.enter C.prog f args .normal) [] ZO) ->
   Calls C.prog f args ZO fun e W'=>∃v,e=.returned v/\s.post enc C.prog fn apart fresh handsOn again ZO args v W') :
  ReturnsInHanded a C os f .any (fun w args=>(s.pre enc C.prog fn conds apart w args/\X w args)/\sizedMet enc C.prog fn (OpenSpec.ofChange s) apart w args) (s.post enc C.prog fn apart fresh handsOn again):=by
 refine returnsInHanded_of_calls own started noInit witness ?_;intro w tape i _ hsh _ hok hpre hholds;obtain ⟨_,_,_,fn',Cl,_,_,_,_,hval⟩:=hok;have e:fn'=fn:=Option.some.inj (Cl.symm.trans hfn);subst e;obtain ⟨⟨⟨ds,gs,before,hw,hc⟩,hx⟩,hz⟩:=hpre;have hw':=DataW.Whole.of_heap (w':=w.forCall tape i) (by rfl) hw;refine (contract (w.forCall tape i) w.heap.size i.args ds gs before hval hw' hc (hz.weights hw) (hX _ _ _ (by rfl) hx) hsh hholds).mono fun e W' ⟨v,he,hp⟩=>?_
 subst he;exact ChangeSpec.post_blind hp
def zBk:List (String×DataW Unit):=Rows.notesBackRow.laid
theorem zEf:∀w,laidMetH ZX zBk w=laidMet ZX zBk w:=fun w=>MakeChecks.laidMetH_plain _ _ _ (by kernel_rfl)
theorem zRq (os:Os) (args:Array Value):laidMetH ZX zBk ((World.laidAll ZX os zBk).forCall (fun _ _=>0) ⟨#[],args,[]⟩).memory:=by
 rw [zEf];exact laidMet_laidAll _ (by kernel_rfl) (by kernel_rfl)
theorem zWf (os:Os):(World.laidAll ZX os zBk).Shaped ZX:=World.shaped_of_ZipB (by kernel_rfl) (by kernel_rfl)
theorem zRr:Tryz.prog.cellsOf 235=1:=by kernel_rfl
theorem zWg {ZO:ZY} (h0:laidMetH ZX zBk ZO) (hs:ZO.ShapedOpen ZX):Tabs ZO:=by
 have h:laidMet ZX zBk ZO:=by rw [<-zEf];exact h0
 have h3:=h.tail.tail;refine ⟨?_,Go.Proofs.cell_of_shapedOpen_int (zero:=#[D J 0]) (t:=3) hs (of_decide_eq_true (by kernel_rfl)) (by kernel_rfl) rfl (by kernel_rfl) (by kernel_rfl) Tryz.underlying3⟩;exact Lib.tabIs_of_head (g:=1) (k:=.u64) (zs:=Lib.pow10Tab) (rest:=_) (by kernel_rfl) (by kernel_rfl) Tryz.underlying242 Tryz.underlying235 zRr (by kernel_rfl) h3
theorem zGY:Tryz.prog.readableRec 24=Q/\24 < Tryz.prog.types.size:=⟨by kernel_rfl,of_decide_eq_true (by kernel_rfl)⟩
theorem zNz:Tryz.prog.readableRec 9=Q/\9 < Tryz.prog.types.size:=⟨by kernel_rfl,of_decide_eq_true (by kernel_rfl)⟩
theorem zNA:Tryz.prog.readableRec 3=Q/\3 < Tryz.prog.types.size:=⟨by kernel_rfl,of_decide_eq_true (by kernel_rfl)⟩
section
variable {ZT:Type} {enc:TypeId×Value->ZT} {ZO:ZY} {base:Nat} {spare:Nat->Bool} {held:Bool}
theorem zUn {t:TypeId} {fs:Array Field} {fuel:Nat} {cs:List Value} {x:DataW ZT×List MemPlace} (ht:Tryz.prog.underlying t=Z (.struct fs)) (h:DataW.trod enc ZX ZO base spare held fuel t cs=Z x) :
  ∃m,cs.length=Tryz.prog.cellsOf t/\∀(j:Nat) (f:Field),fs[j]? = Z f->∃y,DataW.trod enc ZX ZO base spare held m f.type ((cs.drop f.offset).take (Tryz.prog.cellsOf f.type))=Z y/\∀n∈y.1.weights ZX f.type,n∈x.1.weights ZX t:=by
 obtain ⟨xs,m,_,rfl,hl,hxl,hf⟩:=DataW.trod_struct ht h;refine ⟨m,hl,fun j f hj=>?_⟩;have h1:=hf j f hj;have hjl:j < xs.length:=by rw [hxl];exact (Array.getElem?_eq_some_iff.1 hj).1
 rw [List.getElem?_eq_getElem hjl] at h1;refine ⟨xs[j],h1,?_⟩;intro n hn;unfold DataW.weights;rw [ht];exact DataW.weights_mem_each (j:=j) (t:=f.type) (d:=(xs[j]).1) (by rw [List.getElem?_map,Array.getElem?_toList,hj];rfl) (by rw [List.getElem?_map,List.getElem?_eq_getElem hjl];rfl) n hn
theorem zNB {fuel:Nat} {cs:List Value} {x:DataW ZT×List MemPlace} (h:DataW.trod enc ZX ZO base spare held fuel 3 cs=Z x):∃k:Int,I64 k/\cs=[D J k]:=by
 obtain ⟨k,e,_,w⟩:=DataW.trod_int (k:=J) Tryz.underlying3 h;exact ⟨k,bounds_i64 w,e⟩
theorem zWh {fuel:Nat} {cs:List Value} {x:DataW ZT×List MemPlace} (h:DataW.trod enc ZX ZO base spare held fuel 4 cs=Z x):∃b:Bool,cs=[G b]:=by
 obtain ⟨b,e,_⟩:=DataW.trod_bool Tryz.underlying4 h;exact ⟨b,e⟩
theorem zYJ {α:Type} {l:List α} (h:l.length=3):∃a b c,l=[a,b,c]:=by
 match l,h with
 | [a,b,c],_=>exact ⟨a,b,c,rfl⟩
theorem zGB:Tryz.prog.cellsOf 90=3:=by kernel_rfl
theorem zLj:Tryz.prog.cellsOf 3=1:=by kernel_rfl
theorem zON:Tryz.prog.cellsOf 4=1:=by kernel_rfl
theorem zYK {fuel:Nat} {cs:List Value} {x:DataW ZT×List MemPlace} (h:DataW.trod enc ZX ZO base spare held fuel 90 cs=Z x):∃f:Fg,FgOk f/\cs=zXP f:=by
 obtain ⟨m,hl,hk⟩:=zUn Tryz.underlying90 h;rw [zGB] at hl;obtain ⟨c0,c1,c2,rfl⟩:=zYJ hl;obtain ⟨y0,h0,_⟩:=hk 0 _ rfl;obtain ⟨y1,h1,_⟩:=hk 1 _ rfl;obtain ⟨y2,h2,_⟩:=hk 2 _ rfl;simp only [List.getElem_toArray,List.getElem_cons_zero,List.getElem_cons_succ,zLj,zON] at h0 h1 h2;obtain ⟨p,hp,e0⟩:=zNB h0;obtain ⟨r,e1⟩:=zWh h1;obtain ⟨d,hd,e2⟩:=zNB h2;simp only [List.drop_zero,List.drop_succ_cons,List.take_succ_cons,List.take_zero,List.cons.injEq,and_true] at e0 e1 e2;subst e0;subst e1;subst e2
 exact ⟨⟨p,r,d⟩,⟨hp,hd⟩,rfl⟩
theorem zXO {α:Type} {t e:TypeId} {sz:Nat} {en:α->List Value} {ok:α->Prop} {fuel:Nat} {v:List Value} {y:DataW ZT×List MemPlace} (d0:α) (ht:Tryz.prog.underlying t=Z (.slice e)) (hsz:Tryz.prog.cellsOf e=sz) (hpos:0 < sz)
  (hby:8<=Tryz.prog.bytesOf e) (hlen:∀x:α,(en x).length=sz)
  (hdec:∀(n:Nat) (cs:List Value) (z:DataW ZT×List MemPlace),DataW.trod enc ZX ZO 0 (fun _=>Q) Q n e cs=Z z->(∀k∈z.1.weights ZX e,k∈y.1.weights ZX t)->∃x:α,ok x/\cs=en x)
  (hw:∀k∈y.1.weights ZX t,k<=reachBytes)
  (h:DataW.trod enc ZX ZO 0 (fun _=>Q) Q fuel t v=Z y):∃A n c L,v=[H A n c]/\Els sz en ZO A n L/\(∀x∈L,ok x)/\n<=c/\n*Tryz.prog.bytesOf e<=140737488351232:=by
 rcases open_slice ht h with ⟨hcs,_⟩ | ⟨a,len,cap,mm,nn,ZW,Pl,hcs,_,hl,_,hmm,hx,hi⟩
 ·exact ⟨U,0,0,[],hcs,Els.nil _ _,by simp,O _,by omega⟩
 ·simp only [if_true] at hmm;subst hmm;rw [hsz] at hi;have hwts:∀i,i < mm->∀k∈(ZW i).weights ZX e,k∈y.1.weights ZX t:=by
   intro i him k hk;rw [hx];unfold DataW.weights;rw [ht];simp only;refine List.mem_cons_of_mem _ ?_;have hm:∀(l:List (DataW ZT)) (d:DataW ZT),d∈l->∀k∈d.weights ZX e,k∈DataW.weightsAll ZX e l:=by
    intro l
    induction l with
    | nil=>intro d hd;simp at hd
    | cons a l ih =>
     intro d hd k hk;unfold DataW.weightsAll;rcases List.mem_cons.1 hd with rfl | hd
     ·exact List.mem_append_left _ hk
     ·exact List.mem_append_right _ (ih d hd k hk)
   rcases Nat.lt_or_ge i len with h | h
   ·exact List.mem_append_left _ (hm _ (ZW i) (List.mem_map.2 ⟨i,List.mem_range.2 h,rfl⟩) k hk)
   ·exact List.mem_append_right _ (hm _ (ZW i) (List.mem_map.2 ⟨i-len,List.mem_range.2 (by omega),by rw [show len+(i-len)=i by omega]⟩) k hk)
  have ET:(len+(mm-len))*Tryz.prog.bytesOf e<=reachBytes:=by
   refine hw _ ?_;rw [hx];unfold DataW.weights;rw [ht];simp only [List.length_map,List.length_range,List.mem_cons,true_or]
  rw [zTA] at ET;have hbound:len<=17592186043904:=by
   have:len*8<=(len+(mm-len))*Tryz.prog.bytesOf e:=Nat.mul_le_mul (by omega) hby;omega
  have hrec:∀i,i < mm->∃x:α,ok x/\∀q u,(en x)[q]? = Z u->ZO.cell? ((a.add (i*sz)).add q)=Z u:=by
   intro i him;obtain ⟨cs',hc,hd⟩:=hi i him;obtain ⟨x,hok,he⟩:=hdec _ _ _ hd (hwts i him);obtain ⟨_,hcl,hcell⟩:=World.cells?_some hc;refine ⟨x,hok,fun q u hq=>?_⟩;have hql:=(List.getElem?_eq_some_iff.1 hq).1;rw [hcell q (by rw [hlen] at hql;exact hql),he];exact hq
  let lf:Nat->α:=fun i=>if h:i < mm then Classical.choose (hrec i h) else d0
  have hlf:∀i,i < mm->ok (lf i)/\∀q u,(en (lf i))[q]? = Z u->ZO.cell? ((a.add (i*sz)).add q)=Z u:=by
   intro i him;have:lf i=Classical.choose (hrec i him):=dif_pos him;rw [this];exact Classical.choose_spec (hrec i him)
  clear_value lf
  refine ⟨Z a,len,mm,(List.range len).map lf,hcs,⟨by simp,hbound,fun hn=>?_⟩,fun x hx=>?_,hl,Nat.le_trans (Nat.mul_le_mul_right _ (by omega)) ET⟩
  ·have nM:=(hlf 0 (by omega)).2 0 ((en (lf 0))[0]'(by rw [hlen];omega)) (List.getElem?_eq_getElem _);have ea:(a.add (0*sz)).add 0=a:=by simp [Addr.add]
   rw [ea] at nM;have hsp:=World.cell?_spot nM;have hae:a=⟨a.block,a.off,U⟩:=by cases a;simp at hsp;subst hsp;rfl
   refine ⟨a.block,a.off,by rw [<-hae],World.block_lt_of_cell? _ _ nM,fun j x hx q u hu=>?_⟩;rw [List.getElem?_map] at hx;obtain ⟨i,uH,rfl⟩:=Option.map_eq_some_iff.1 hx;have hj:j < len:=by
    have:=(List.getElem?_eq_some_iff.1 uH).1;simpa using this
   rw [List.getElem?_range hj] at uH;injection uH with uH
   subst uH;have hq:(a.add (j*sz)).add q=⟨a.block,a.off+j*sz+q,U⟩:=by rw [hae,Addr.add_lit,Addr.add_lit]
   rw [<-hq];exact (hlf j (by omega)).2 q u hu
  ·obtain ⟨i,uH,rfl⟩:=List.mem_map.1 hx;exact (hlf i (by have:=List.mem_range.1 uH;omega)).1
theorem zRs {ts:List TypeId} {ds:List (DataW ZT)} (h:(DataW.weightsEach ZX ts ds).all (·<=reachBytes)=Q) {j:Nat} {t:TypeId} {d:DataW ZT} (ht:ts[j]? = Z t) (hd:ds[j]? = Z d) :
  ∀x∈d.weights ZX t,x<=reachBytes:=fun x hx=>by
 have:=List.all_eq_true.1 h x (DataW.weights_mem_each ht hd x hx);simpa using this
theorem zTB {v:Value} {d:DataW ZT} {ps:List MemPlace} (h:DataW.Trod enc ZX ZO 0 (fun _=>Q) Q 24 v d ps) {base:Nat} (hv:Value.okWide ZX ZO .any base 24 v)
  (hw:∀x∈d.weights ZX 24,x<=reachBytes):∃A n c L re lo,v=frV A n c re lo/\Fgs ZO A n L/\n<=c/\I64 re/\I64 lo:=by
 obtain ⟨cs,rfl,hsz⟩:=okWide_struct Tryz.underlying24 hv;obtain ⟨c0,c1,c2,rfl⟩:=array3 (hsz.trans (show Tryz.prog.cellsOf 24=3 by kernel_rfl));obtain ⟨fuel,hf⟩:=h;obtain ⟨m,_,hk⟩:=zUn Tryz.underlying24 hf;obtain ⟨y0,h0,w0⟩:=hk 0 _ rfl;obtain ⟨y1,h1,_⟩:=hk 1 _ rfl;obtain ⟨y2,h2,_⟩:=hk 2 _ rfl;simp only [List.getElem_toArray,List.getElem_cons_zero,List.getElem_cons_succ,zLj,show Tryz.prog.cellsOf 22=1 by kernel_rfl] at h0 h1 h2;obtain ⟨A,n,c,L,e0,hL,hok,hc,_⟩:=zXO (ok:=FgOk) df Tryz.underlying22 zGB (by decide) (by rw [show Tryz.prog.bytesOf 90=24 by kernel_rfl];decide) (fun _=>rfl) (fun n cs z hz _=>zYK hz) (fun k hk=>hw k (w0 k hk)) h0;obtain ⟨re,hre,e1⟩:=zNB h1;obtain ⟨lo,hlo,e2⟩:=zNB h2;simp only [Value.cells,List.drop_zero,List.drop_succ_cons,List.take_succ_cons,List.take_zero,List.cons.injEq,and_true] at e0 e1 e2;subst e0;subst e1;subst e2
 exact ⟨A,n,c,L,re,lo,rfl,⟨hL,hok⟩,hc,hre,hlo⟩
end
