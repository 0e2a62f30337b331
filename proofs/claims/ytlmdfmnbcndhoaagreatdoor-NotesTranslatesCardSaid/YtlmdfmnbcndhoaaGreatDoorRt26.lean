/-
  Lemmas. Conditions: each one's own.
-/
import Derived.Test.YtlmdfmnbcndhoaaGreatDoorRt25
open Go.RowKit
set_option maxHeartbeats 12800000
set_option maxRecDepth 100000
open Bool renaming false->E,true->Q
open Go renaming World->ZY
open Go.Value renaming bool->G,int->D,slice->H,string->W
open Go.IntKind renaming i64->J
open Go.RowKit renaming Below->ZZ
open Go.Proofs.Tryz renaming prog->ZX
open Go.RowKit.Below renaming refl->M
open Nat renaming le_refl->O
open Option renaming none->U,some->Z
namespace Go.Proofs.YtlmdfmnbcndhoaaGreatDoor
def TOk (L:List Fg):Prop:=∀i,i < L.length->zAn (fa L i)=Q
theorem frOk.tok {L:List Fg} {re lo:Int} (h:frOk L re lo):TOk L:=fun _ hi=>h.there hi
theorem TOk.len {L:List Fg} (h:TOk L) {f:Int} (h1:1<=f) (h2:f<=(L.length:Int)):(nmF L f).length<=43:=zKm (zGI (h (f-1).toNat (by omega)))
theorem zRb (A:Option Addr) (n c:Nat) (L:List Fg) (re lo:Int) (f:Int) (w:ZY) (hA:Fgs w A n L) (hv:TOk L) (h1:1<=f) (h2:f<=(n:Int)) :
  Calls ZX 63 #[frV A n c re lo,D J f] w fun e w'=>e=.returned (W (bA (nmF L f)))/\ZZ w.heap.size w w':=by
 have hle:=hA.le;have ah:ZZ w.heap.size w (w.alloc (.cells #[H A n c,D J re,D J lo] 24)):=(M _ _).alloc (O _) _;have hA0:=hA.alloc (.cells #[H A n c,D J re,D J lo] 24);obtain ⟨i,hi⟩:∃i:Nat,f=(i:Int)+1:=⟨(f-1).toNat,by omega⟩
 have hin:i < n:=by omega
 obtain ⟨g,o,rfl,hg,⟨x0,x1,x2⟩,_⟩:=hA0.at_ hin;have hth:=hv i (by rw [hA.len];exact hin);have hnm:nmF L f=zAj (fa L i):=by unfold nmF;rw [hi,show ((i:Int)+1-1).toNat=i by omega]
 rw [hnm];have q0:IntKind.i64.wrap (f-1)=(i:Int):=by rw [hi,show (i:Int)+1-1=(i:Int) by omega];exact IntWalk.i64_in _ (by omega)
 have q1:wrap64 (f-1)=(i:Int):=by unfold wrap64;omega
 have q2:f-1=(i:Int):=by omega
 have j0:(0:Int)<=(i:Int):=by omega
 have j1:(i:Int) < (n:Int):=by omega
 generalize fa L i=x at x0 x1 x2 hth ⊢;have HN:=qH (zKo x hth (w.alloc (.cells #[H (Z ⟨g,o,U⟩) n c,D J re,D J lo] 24)));clear hi hnm hth hA0 hA hin h1 h2;go_enter Tryz.func63,Tryz.ntmps63;go_wp2_with fail
 refine HN.out.mono ?_;rintro e w2 ⟨rfl,ai⟩;have al:=zAa ah ai ah.size;go_wp2_with fail
 go_ret;exact ⟨rfl,al⟩
theorem zCP {A:Option Addr} {n:Nat} {c:Nat} {L:List Fg} {re lo:Int} {f:Int} {S:List UInt8} (h:nmF L f=S) (w:ZY) (hA:Fgs w A n L) (hv:TOk L) (h1:1<=f) (h2:f<=(n:Int)) :
  Calls ZX 63 #[frV A n c re lo,D J f] w fun e w'=>e=.returned (W (bA S))/\ZZ w.heap.size w w':=by
 subst h;exact zRb A n c L re lo f w hA hv h1 h2
theorem zMs (b:Bool) (Y ZR:ByteArray) (w:ZY):Calls ZX 64 #[G b,W Y,W ZR] w fun e w'=>e=.returned (W (if b then Y else ZR))/\w'=w:=by
 cases b
 all_goals
  go_enter Tryz.func64,Tryz.ntmps64;go_wp2_with fail
  go_ret;exact ⟨rfl,rfl⟩
theorem zDi {b:Bool} {Y ZR:ByteArray} {S:List UInt8} (h:(if b then Y else ZR)=bA S) (w:ZY):Calls ZX 64 #[G b,W Y,W ZR] w fun e w'=>e=.returned (W (bA S))/\w'=w:=by
 have:=zMs b Y ZR w;rw [h] at this;exact this
theorem zLg {x:Int} {S:List UInt8} (h:Lib.itoa x=S) (hx:I64 x) (w:ZY):Calls ZX 78 #[D J x] w fun e w'=>e=.returned (W (bA S))/\ZZ w.heap.size w w':=by
 subst h;exact zBm x hx w
theorem zRc (A:Option Addr) (n c:Nat) (L:List Fg) (re lo:Int) (s:Sg) (w:ZY) (hA:Fgs w A n L) (hv:TOk L) (hs:zAo n s=Q) :
  Calls ZX 65 #[frV A n c re lo,sgV s] w fun e w'=>e=.returned (W (bA (zAM L s)))/\ZZ w.heap.size w w':=by
 obtain ⟨h1,h2,h3,h4,h5,h6⟩:=zAh.1 hs;have eZ:=hv.len h1 (by rw [hA.len];exact h2);have uG:=zAP (x:=s.l) ⟨by omega,by omega⟩;have uF:=zAP (x:=s.pc) ⟨by omega,by omega⟩;obtain ⟨f,l,far,pc⟩:=s;simp only at h1 h2 h3 h4 h5 h6 eZ uG uF ⊢;have hf:zAM L ⟨f,l,far,pc⟩=nmF L f++([32]++zBH far)++(if l=0 then [] else [32,108,111,111,112,32]++Lib.itoa l)++(if pc=0 then [] else [32,112,105,101,99,101,32]++Lib.itoa pc):=by unfold zAM;simp
 have ti:([32]++zBH far).length<=5:=by cases far<;>decide
 obtain ⟨NM,db⟩:∃NM,nmF L f=NM:=⟨_,rfl⟩
 obtain ⟨SD,jc⟩:∃SD,[32]++zBH far=SD:=⟨_,rfl⟩
 have pm:(if far then (⟨#[32,102,97,114]⟩:ByteArray) else ⟨#[32,110,101,97,114]⟩)=bA SD:=by rw [<-jc];cases far<;>rfl
 obtain ⟨IL,qL⟩:∃IL,Lib.itoa l=IL:=⟨_,rfl⟩
 obtain ⟨IP,qK⟩:∃IP,Lib.itoa pc=IP:=⟨_,rfl⟩
 rw [db,jc,qL,qK] at hf;rw [db] at eZ;rw [jc] at ti;rw [qL] at uG;rw [qK] at uF;obtain ⟨T1,cF⟩:∃T,NM++SD=T:=⟨_,rfl⟩
 obtain ⟨Q1,bI⟩:∃T,T1++[32,108,111,111,112,32]=T:=⟨_,rfl⟩
 obtain ⟨T2,et⟩:∃T,Q1++IL=T:=⟨_,rfl⟩
 obtain ⟨Q2,cm⟩:∃T,T1++[32,112,105,101,99,101,32]=T:=⟨_,rfl⟩
 obtain ⟨T3,jb⟩:∃T,Q2++IP=T:=⟨_,rfl⟩
 obtain ⟨Q3,cv⟩:∃T,T2++[32,112,105,101,99,101,32]=T:=⟨_,rfl⟩
 obtain ⟨T4,p8⟩:∃T,Q3++IP=T:=⟨_,rfl⟩
 have l1:T1.length<=48:=by rw [<-cF];simp;omega
 have l2:Q1.length<=54:=by rw [<-bI];simp;omega
 have l3:T2.length<=75:=by rw [<-et];simp;omega
 have l4:Q2.length<=55:=by rw [<-cm];simp;omega
 have l5:Q3.length<=82:=by rw [<-cv];simp;omega
 have s1:=zAl cF _ _ rfl rfl (by omega) (by omega);have s2:=zAl bI _ ⟨#[32,108,111,111,112,32]⟩ rfl rfl (by omega) (by simp);have s3:=zAl et _ _ rfl rfl (by omega) (by omega);have s4:=zAl cm _ ⟨#[32,112,105,101,99,101,32]⟩ rfl rfl (by omega) (by simp);have s5:=zAl jb _ _ rfl rfl (by omega) (by omega);have s6:=zAl cv _ ⟨#[32,112,105,101,99,101,32]⟩ rfl rfl (by omega) (by simp);have s7:=zAl p8 _ _ rfl rfl (by omega) (by omega)
 have HF:=qH (show zAM L ⟨f,l,far,pc⟩=(if l=0 then (if pc=0 then T1 else T3) else (if pc=0 then T2 else T4)) by
  rw [hf,<-p8,<-jb,<-cv,<-cm,<-et,<-bI,<-cF]
  split<;>split<;>simp)
 clear hf cF et jb p8 bI cm cv l1 l2 l3 l4 l5;have gR:=qH db;have rg:=qH pm;have lC:=qH (fun w=>zLg qL ⟨by omega,by omega⟩ w);have vT:=qH (fun w=>zLg qK ⟨by omega,by omega⟩ w);have pR:=qH (show 1<=f/\f<=(n:Int) from ⟨h1,h2⟩);have HA:=qH hA;have HB:=qH (M w.heap.size w);clear db jc qL qK eZ ti uG uF h1 h2 h3 h4 h5 h6 hs pm hA;go_enter Tryz.func65,Tryz.ntmps65;have hba:ZZ w.heap.size w ((w.alloc (.cells #[H A n c,D J re,D J lo] 24)).alloc (.cells #[D J f,D J l,G far,D J pc] 29)):=((M _ _).alloc (O _) _).alloc (by simp) _;replace HA:=qH (HA.out.below hba);replace HB:=qH (zAa HB.out hba HB.out.size);have kf:=(Blk.new w 24 #[H A n c,D J re,D J lo]).alloc (.cells #[D J f,D J l,G far,D J pc] 29);have ks:Blk ((w.alloc (.cells #[H A n c,D J re,D J lo] 24)).alloc (.cells #[D J f,D J l,G far,D J pc] 29)) (w.heap.size+1) 29 #[D J f,D J l,G far,D J pc]:=heap_alloc2_new w _ _;clear hba;go_upto_region 1 with fail
 generalize (w.alloc (.cells #[H A n c,D J re,D J lo] 24)).alloc (.cells #[D J f,D J l,G far,D J pc] 29)=X at HA HB kf ks ⊢;go_cut [5] (fun v wv=>v=W (bA T1)/\∃V:ZY,V=wv/\ZZ X.heap.size X V)
 case first =>
  have k0:∀wx,ZZ X.heap.size X wx->(ZZ X.heap.size X wx/\wx.cell? ⟨w.heap.size,0,U⟩=Z (H A n c)/\wx.cell? ⟨w.heap.size,1,U⟩=Z (D J re)/\wx.cell? ⟨w.heap.size,2,U⟩=Z (D J lo)/\wx.cell? ⟨w.heap.size+1,0,U⟩=Z (D J f)/\wx.cell? ⟨w.heap.size+1,2,U⟩=Z (G far)):=fun wx h=>⟨h,((kf.below h kf.lt).cell 0).trans rfl,((kf.below h kf.lt).cell 1).trans rfl,((kf.below h kf.lt).cell 2).trans rfl,((ks.below h ks.lt).cell 0).trans rfl,((ks.below h ks.lt).cell 2).trans rfl⟩
  have KP:=qH k0;clear k0
  first
   | go_region_held3 (fun wx=>ZZ X.heap.size X wx/\wx.cell? ⟨w.heap.size,0,U⟩=Z (H A n c)/\wx.cell? ⟨w.heap.size,1,U⟩=Z (D J re)/\wx.cell? ⟨w.heap.size,2,U⟩=Z (D J lo)/\wx.cell? ⟨w.heap.size+1,0,U⟩=Z (D J f)/\wx.cell? ⟨w.heap.size+1,2,U⟩=Z (G far)) (first | assumption | exact KP.out _ (M _ _).drew | exact KP.out _ (zAa (And.left (by assumption)) (by assumption) (Below.size (And.left (by assumption)))))
     (first
      | (go_at_call 63;refine (zCP gR.out _ (HA.out.below (And.left (by assumption))) hv pR.out.1 pR.out.2).mono ?_;rintro e wa ⟨rfl,hba⟩)
      | (go_at_call 64;refine (zDi rg.out _).mono ?_;rintro e wc ⟨rfl,rfl⟩))
   | fail
  all_goals
   have hbf:=And.left (show ZZ X.heap.size X _/\_ by assumption);go_wp2_with fail
   go_meet
   case rel=>exact ⟨rfl,_,rfl,hbf⟩
 case rest =>
  obtain ⟨rfl,V,hV,hb⟩:=hcut;subst hV;replace HA:=qH (HA.out.below hb);replace HB:=qH (zAa HB.out hb HB.out.size);replace kf:=kf.below hb kf.lt;replace ks:=ks.below hb ks.lt;clear hb;by_cases ql:l=0
  ·have q0:(l != 0)=E:=by simp [ql]
   by_cases qp:pc=0
   ·have q1:(pc != 0)=E:=by simp [qp]
    have HR:=qH (show bA T1=bA (zAM L ⟨f,l,far,pc⟩) by rw [HF.out,qP ql,qP qp]);clear ql qp;obtain ⟨-,c1,-,c3⟩:=cQ4 ks;go_wp2_with fail
    go_ret;exact ⟨zCp HR.out,HB.out⟩
   ·have q1:(pc != 0)=Q:=by simpa using qp
    have HR:=qH (show bA T3=bA (zAM L ⟨f,l,far,pc⟩) by rw [HF.out,qP ql,qN qp]);clear ql qp;obtain ⟨-,c1,-,c3⟩:=cQ4 ks;go_wp2_with fail
    refine (vT.out _).mono ?_;rintro e V2 ⟨rfl,hb⟩;clear c1 c3;replace HA:=qH (HA.out.below hb);replace HB:=qH (zAa HB.out hb HB.out.size);replace kf:=kf.below hb kf.lt;replace ks:=ks.below hb ks.lt;clear hb;go_wp2_with fail
    go_ret;exact ⟨zCp HR.out,HB.out⟩
  ·have q0:(l != 0)=Q:=by simpa using ql
   by_cases qp:pc=0
   ·have q1:(pc != 0)=E:=by simp [qp]
    have HR:=qH (show bA T2=bA (zAM L ⟨f,l,far,pc⟩) by rw [HF.out,qN ql,qP qp]);clear ql qp;obtain ⟨-,c1,-,c3⟩:=cQ4 ks;go_wp2_with fail
    refine (lC.out _).mono ?_;rintro e V1 ⟨rfl,hb⟩;clear c1 c3;replace HA:=qH (HA.out.below hb);replace HB:=qH (zAa HB.out hb HB.out.size);replace kf:=kf.below hb kf.lt;replace ks:=ks.below hb ks.lt;clear hb;have c3:V1.cell? ⟨w.heap.size+1,3,U⟩=Z (D J pc):=(ks.cell 3).trans rfl;go_wp2_with fail
    go_ret;exact ⟨zCp HR.out,HB.out⟩
   ·have q1:(pc != 0)=Q:=by simpa using qp
    have HR:=qH (show bA T4=bA (zAM L ⟨f,l,far,pc⟩) by rw [HF.out,qN ql,qN qp]);clear ql qp;obtain ⟨-,c1,-,c3⟩:=cQ4 ks;go_wp2_with fail
    refine (lC.out _).mono ?_;rintro e V1 ⟨rfl,hb⟩;clear c1 c3;replace HA:=qH (HA.out.below hb);replace HB:=qH (zAa HB.out hb HB.out.size);replace kf:=kf.below hb kf.lt;replace ks:=ks.below hb ks.lt;clear hb;have c3:V1.cell? ⟨w.heap.size+1,3,U⟩=Z (D J pc):=(ks.cell 3).trans rfl;go_wp2_with fail
    refine (vT.out _).mono ?_;rintro e V2 ⟨rfl,hb⟩;clear c3;replace HA:=qH (HA.out.below hb);replace HB:=qH (zAa HB.out hb HB.out.size);replace kf:=kf.below hb kf.lt;replace ks:=ks.below hb ks.lt;clear hb;go_wp2_with fail
    go_ret;exact ⟨zCp HR.out,HB.out⟩
theorem zMt {A:Option Addr} {n c:Nat} {L:List Fg} {re lo:Int} {s:Sg} {S:List UInt8} (h:zAM L s=S) (w:ZY) (hA:Fgs w A n L) (hv:TOk L) (hs:zAo n s=Q) :
  Calls ZX 65 #[frV A n c re lo,sgV s] w fun e w'=>e=.returned (W (bA S))/\ZZ w.heap.size w w':=by
 subst h;exact zRc A n c L re lo s w hA hv hs
theorem zGk {L:List Fg} (hv:TOk L) {s:Sg} (hs:zAo L.length s=Q):(zAM L s).length<=110:=by
 obtain ⟨h1,h2,h3,h4,h5,h6⟩:=zAh.1 hs;have a:=hv.len h1 h2;have b:=zHg s.far;have i:=zAP (x:=s.l) ⟨by omega,by omega⟩;have j:=zAP (x:=s.pc) ⟨by omega,by omega⟩;unfold zAM;split<;>split<;>simp<;>omega
theorem zOE (A:Option Addr) (n c:Nat) (L:List Fg) (re lo:Int) (o:Og) (B:Option Addr) (m d:Nat) (w:ZY) (hA:Fgs w A n L) (hv:TOk L) (hO:OpIn w o B m d) (hr:zAf n o=Q) (hm:m<=10000) :
  Calls ZX 25 #[frV A n c re lo,opV o B m d] w fun e w'=>e=.returned (W (bA (zBg L o)))/\ZZ w.heap.size w w':=by
 obtain ⟨h1,h8,dj,bt,hpn,hfrn⟩:=zAS hr;have hlen:=hO.path.len;have eZ:=hv.len dj (by rw [hA.len];exact bt);have hP:Stps w B m o.path:=hO.path;have iQ:zBg L o=zAu o.kind++[32]++nmF L o.f++zCL L o:=rfl;have hnl:=hA.len;obtain ⟨kind,f,⟨ff,fl,ffar,fpc⟩,path,over⟩:=o;simp only at h1 h8 dj bt hpn hfrn hlen eZ hP iQ ⊢;obtain ⟨NM,db⟩:∃T,nmF L f=T:=⟨_,rfl⟩
 obtain ⟨OV,gZ⟩:∃T,[32]++zAx over=T:=⟨_,rfl⟩
 have n8:OV.length<=6:=by rw [<-gZ];cases over<;>decide
 have pm:(if over then (⟨#[32,111,118,101,114]⟩:ByteArray) else ⟨#[32,117,110,100,101,114]⟩)=bA OV:=by rw [<-gZ];cases over<;>rfl
 rw [db] at eZ iQ;have fP:=qH iQ;have gR:=qH db;have bJ:=qH gZ;have rg:=qH pm;have gL:=qH (show 1<=f/\f<=(n:Int) from ⟨dj,bt⟩);have fY:=qH hpn;have fW:=qH hfrn;have aL:=qH hlen;have dZ:=qH hnl;have HK:=qH (show 1<=kind/\kind<=8 from ⟨h1,h8⟩);have HA:=qH hA;have HP:=qH hP;have HB:=qH (M w.heap.size w);clear iQ db gZ pm dj bt hpn hfrn hlen hnl h1 h8 hA hP hO hr;go_enter Tryz.func25,Tryz.ntmps25;have hba:ZZ w.heap.size w ((w.alloc (.cells #[H A n c,D J re,D J lo] 24)).alloc (.cells #[D J kind,D J f,D J ff,D J fl,G ffar,D J fpc,H B m d,G over] 32)):=((M _ _).alloc (O _) _).alloc (by simp) _;replace HA:=qH (HA.out.below hba);replace HP:=qH (HP.out.below hba);replace HB:=qH (zAa HB.out hba HB.out.size);have kf:=(Blk.new w 24 #[H A n c,D J re,D J lo]).alloc (.cells #[D J kind,D J f,D J ff,D J fl,G ffar,D J fpc,H B m d,G over] 32);have ks:Blk ((w.alloc (.cells #[H A n c,D J re,D J lo] 24)).alloc (.cells #[D J kind,D J f,D J ff,D J fl,G ffar,D J fpc,H B m d,G over] 32)) (w.heap.size+1) 32 #[D J kind,D J f,D J ff,D J fl,G ffar,D J fpc,H B m d,G over]:=heap_alloc2_new w _ _;clear hba;go_upto_region 1 with fail
 generalize (w.alloc (.cells #[H A n c,D J re,D J lo] 24)).alloc (.cells #[D J kind,D J f,D J ff,D J fl,G ffar,D J fpc,H B m d,G over] 32)=X at HA HP HB kf ks ⊢;obtain ⟨a0,a1,a2⟩:=cQ3 kf;have e1:X.cell? ⟨w.heap.size+1,1,U⟩=Z (D J f):=(ks.cell 1).trans rfl;go_wp2_with fail
 refine (zCP gR.out _ HA.out hv gL.out.1 gL.out.2).mono ?_;rintro e u1 ⟨rfl,hb⟩;clear a0 a1 a2 e1;replace HA:=qH (HA.out.below hb);replace HP:=qH (HP.out.below hb);replace HB:=qH (zAa HB.out hb HB.out.size);replace kf:=kf.below hb kf.lt;replace ks:=ks.below hb ks.lt;clear hb;have e7:u1.cell? ⟨w.heap.size+1,7,U⟩=Z (G over):=(ks.cell 7).trans rfl;go_wp2_with fail
 refine (zDi rg.out _).mono ?_;rintro e u2 ⟨rfl,rfl⟩;clear e7;clear rg gR;have hk:(kind=1∨kind=2∨kind=8)∨kind=4∨kind=5∨(kind=6∨kind=7)∨kind=3:=by have:=HK.out;omega
 clear HK;rcases hk with hk | rfl | rfl | hk | rfl
 ·rcases hk with rfl | rfl | rfl
  ·obtain ⟨T1,cF⟩:∃T,[114,101,108,101,97,115,101,32]++NM=T:=⟨_,rfl⟩
   have s1:=zAl cF ⟨#[114,101,108,101,97,115,101,32]⟩ _ rfl rfl (by simp) (by omega);have HR:=qH (show bA T1=bA (zBg L ⟨1,f,⟨ff,fl,ffar,fpc⟩,path,over⟩) by rw [fP.out,<-cF];simp [zCL,zAu]);clear cF;have e0:u2.cell? ⟨w.heap.size+1,0,U⟩=Z (D J 1):=(ks.cell 0).trans rfl;go_wp2_with fail
   go_ret;exact ⟨zCp HR.out,HB.out⟩
  ·obtain ⟨T1,cF⟩:∃T,[110,97,118,97,104,111,32]++NM=T:=⟨_,rfl⟩
   have s1:=zAl cF ⟨#[110,97,118,97,104,111,32]⟩ _ rfl rfl (by simp) (by omega);have HR:=qH (show bA T1=bA (zBg L ⟨2,f,⟨ff,fl,ffar,fpc⟩,path,over⟩) by rw [fP.out,<-cF];simp [zCL,zAu]);clear cF;have e0:u2.cell? ⟨w.heap.size+1,0,U⟩=Z (D J 2):=(ks.cell 0).trans rfl;go_wp2_with fail
   go_ret;exact ⟨zCp HR.out,HB.out⟩
  ·obtain ⟨T1,cF⟩:∃T,[100,114,111,112,32]++NM=T:=⟨_,rfl⟩
   have s1:=zAl cF ⟨#[100,114,111,112,32]⟩ _ rfl rfl (by simp) (by omega);have HR:=qH (show bA T1=bA (zBg L ⟨8,f,⟨ff,fl,ffar,fpc⟩,path,over⟩) by rw [fP.out,<-cF];simp [zCL,zAu]);clear cF;have e0:u2.cell? ⟨w.heap.size+1,0,U⟩=Z (D J 8):=(ks.cell 0).trans rfl;go_wp2_with fail
   go_ret;exact ⟨zCp HR.out,HB.out⟩
 ·skip;obtain ⟨Q1,bI⟩:∃T,[116,119,105,115,116,32]++NM=T:=⟨_,rfl⟩
  have gU:Q1.length<=49:=by rw [<-bI];simp;omega
  have pS:=zAl bI ⟨#[116,119,105,115,116,32]⟩ _ rfl rfl (by simp) (by omega);obtain ⟨Q2,cm⟩:∃T,Q1++OV=T:=⟨_,rfl⟩
  have kI:Q2.length<=55:=by rw [<-cm];simp;omega
  have ud:=zAl cm _ _ rfl rfl (by omega) (by omega);have HR:=qH (show bA Q2=bA (zBg L ⟨4,f,⟨ff,fl,ffar,fpc⟩,path,over⟩) by rw [fP.out,<-cm,<-bI,<-bJ.out];simp [zCL,zAu]);clear bI cm gU kI;have e0:u2.cell? ⟨w.heap.size+1,0,U⟩=Z (D J 4):=(ks.cell 0).trans rfl;go_wp2_with fail
  go_ret;exact ⟨zCp HR.out,HB.out⟩
 ·have hnf:=fW.out (by omega);have cU:=zGk hv (s:=⟨ff,fl,ffar,fpc⟩) (by rw [dZ.out];exact hnf);obtain ⟨PL,bT⟩:∃T,zAM L ⟨ff,fl,ffar,fpc⟩=T:=⟨_,rfl⟩
  rw [bT] at cU;obtain ⟨Q1,bI⟩:∃T,[116,97,107,101,32]++NM=T:=⟨_,rfl⟩
  have gU:Q1.length<=48:=by rw [<-bI];simp;omega
  have pS:=zAl bI ⟨#[116,97,107,101,32]⟩ _ rfl rfl (by simp) (by omega);obtain ⟨Q2,cm⟩:∃T,Q1++[32,102,114,111,109,32]=T:=⟨_,rfl⟩
  have kI:Q2.length<=54:=by rw [<-cm];simp;omega
  have ud:=zAl cm _ ⟨#[32,102,114,111,109,32]⟩ rfl rfl (by omega) (by simp);obtain ⟨Q3,cv⟩:∃T,Q2++PL=T:=⟨_,rfl⟩
  have xG:Q3.length<=164:=by rw [<-cv];simp;omega
  have xw:=zAl cv _ _ rfl rfl (by omega) (by omega);obtain ⟨Q4,eI⟩:∃T,Q3++OV=T:=⟨_,rfl⟩
  have Ez:=zAl eI _ _ rfl rfl (by omega) (by omega);have HR:=qH (show bA Q4=bA (zBg L ⟨5,f,⟨ff,fl,ffar,fpc⟩,path,over⟩) by rw [fP.out,<-eI,<-cv,<-cm,<-bI,<-bJ.out,<-bT];simp [zCL,zAu]);have cc:=qH bT;have dd:=qH hnf;clear bI cm cv eI gU kI xG bT hnf cU;obtain ⟨a0,a1,a2⟩:=cQ3 kf;obtain ⟨e0,-,e2,e3,e4,e5⟩:=cQ6 ks;go_wp2_with fail
  refine (zMt cc.out _ HA.out hv dd.out).mono ?_;rintro e u3 ⟨rfl,hb⟩;clear a0 a1 a2 e0 e2 e3 e4 e5;replace HA:=qH (HA.out.below hb);replace HP:=qH (HP.out.below hb);replace HB:=qH (zAa HB.out hb HB.out.size);replace kf:=kf.below hb kf.lt;replace ks:=ks.below hb ks.lt;clear hb;go_wp2_with fail
  go_ret;exact ⟨zCp HR.out,HB.out⟩
 ·have hnf:=fW.out (by omega);have eY:=zAh.1 hnf;simp only at eY;have cU:=hv.len (f:=ff) (by omega) (by rw [dZ.out];omega);obtain ⟨PL,bT⟩:∃T,nmF L ff=T:=⟨_,rfl⟩
  rw [bT] at cU;have cc:=qH bT;have dd:=qH (show 1<=ff/\ff<=(n:Int) from ⟨eY.1,eY.2.1⟩);clear hnf eY;rcases hk with rfl | rfl
  ·skip;obtain ⟨Q1,bI⟩:∃T,[116,114,97,110,115,102,101,114,32]++NM=T:=⟨_,rfl⟩
   have gU:Q1.length<=52:=by rw [<-bI];simp;omega
   have pS:=zAl bI ⟨#[116,114,97,110,115,102,101,114,32]⟩ _ rfl rfl (by simp) (by omega);obtain ⟨Q2,cm⟩:∃T,Q1++[32,102,114,111,109,32]=T:=⟨_,rfl⟩
   have kI:Q2.length<=58:=by rw [<-cm];simp;omega
   have ud:=zAl cm _ ⟨#[32,102,114,111,109,32]⟩ rfl rfl (by omega) (by simp);obtain ⟨Q3,cv⟩:∃T,Q2++PL=T:=⟨_,rfl⟩
   have xG:Q3.length<=101:=by rw [<-cv];simp;omega
   have xw:=zAl cv _ _ rfl rfl (by omega) (by omega);obtain ⟨Q4,eI⟩:∃T,Q3++OV=T:=⟨_,rfl⟩
   have Ez:=zAl eI _ _ rfl rfl (by omega) (by omega);have HR:=qH (show bA Q4=bA (zBg L ⟨6,f,⟨ff,fl,ffar,fpc⟩,path,over⟩) by rw [fP.out,<-eI,<-cv,<-cm,<-bI,<-bJ.out,<-bT];simp [zCL,zAu]);clear bI cm cv eI gU kI xG bT cU;obtain ⟨a0,a1,a2⟩:=cQ3 kf;obtain ⟨e0,-,e2⟩:=cQ3 ks;go_wp2_with fail
   refine (zCP cc.out _ HA.out hv dd.out.1 dd.out.2).mono ?_;rintro e u3 ⟨rfl,hb⟩;clear a0 a1 a2 e0 e2;replace HA:=qH (HA.out.below hb);replace HP:=qH (HP.out.below hb);replace HB:=qH (zAa HB.out hb HB.out.size);replace kf:=kf.below hb kf.lt;replace ks:=ks.below hb ks.lt;clear hb;go_wp2_with fail
   go_ret;exact ⟨zCp HR.out,HB.out⟩
  ·skip;obtain ⟨Q1,bI⟩:∃T,[101,120,99,104,97,110,103,101,32]++NM=T:=⟨_,rfl⟩
   have gU:Q1.length<=52:=by rw [<-bI];simp;omega
   have pS:=zAl bI ⟨#[101,120,99,104,97,110,103,101,32]⟩ _ rfl rfl (by simp) (by omega);obtain ⟨Q2,cm⟩:∃T,Q1++[32,119,105,116,104,32]=T:=⟨_,rfl⟩
   have kI:Q2.length<=58:=by rw [<-cm];simp;omega
   have ud:=zAl cm _ ⟨#[32,119,105,116,104,32]⟩ rfl rfl (by omega) (by simp);obtain ⟨Q3,cv⟩:∃T,Q2++PL=T:=⟨_,rfl⟩
   have xG:Q3.length<=101:=by rw [<-cv];simp;omega
   have xw:=zAl cv _ _ rfl rfl (by omega) (by omega);obtain ⟨Q4,eI⟩:∃T,Q3++OV=T:=⟨_,rfl⟩
   have Ez:=zAl eI _ _ rfl rfl (by omega) (by omega);have HR:=qH (show bA Q4=bA (zBg L ⟨7,f,⟨ff,fl,ffar,fpc⟩,path,over⟩) by rw [fP.out,<-eI,<-cv,<-cm,<-bI,<-bJ.out,<-bT];simp [zCL,zAu]);clear bI cm cv eI gU kI xG bT cU;obtain ⟨a0,a1,a2⟩:=cQ3 kf;obtain ⟨e0,-,e2⟩:=cQ3 ks;go_wp2_with fail
   refine (zCP cc.out _ HA.out hv dd.out.1 dd.out.2).mono ?_;rintro e u3 ⟨rfl,hb⟩;clear a0 a1 a2 e0 e2;replace HA:=qH (HA.out.below hb);replace HP:=qH (HP.out.below hb);replace HB:=qH (zAa HB.out hb HB.out.size);replace kf:=kf.below hb kf.lt;replace ks:=ks.below hb ks.lt;clear hb;go_wp2_with fail
   go_ret;exact ⟨zCp HR.out,HB.out⟩
 ·have hnf:=fW.out (by omega);have cU:=zGk hv (s:=⟨ff,fl,ffar,fpc⟩) (by rw [dZ.out];exact hnf);obtain ⟨PL,bT⟩:∃T,zAM L ⟨ff,fl,ffar,fpc⟩=T:=⟨_,rfl⟩
  obtain ⟨G1,iR⟩:∃T,[112,105,99,107,32]++NM=T:=⟨_,rfl⟩
  rw [bT] at cU;have mG:G1.length<=48:=by rw [<-iR];simp;omega
  have t1:=zAl iR ⟨#[112,105,99,107,32]⟩ _ rfl rfl (by simp) (by omega);have cc:=qH bT;have dd:=qH hnf;have HG:=qH iR;have lB:=qH cU;have hstart:Hid (G1=G1++zDH L (path.take 0)):=qH (by simp [zDH]);clear bT hnf fW iR cU;have e0:u2.cell? ⟨w.heap.size+1,0,U⟩=Z (D J 3):=(ks.cell 0).trans rfl;go_wp2_with fail
  clear e0;go_loopw [7,8] (fun v7 v8 wr=>∃(i:Nat) (T:List UInt8),i<=m/\v8=D J i/\v7=W (bA T)/\ZZ u2.heap.size u2 wr/\Hid (T=G1++zDH L (path.take i))/\T.length<=48+i*120) (fun _ v8 _=>m-(intOf v8).toNat)
  case atStart=>exact ⟨0,G1,Nat.zero_le _,rfl,rfl,M _ _,hstart,by omega⟩
  case round =>
   obtain ⟨i,T,hi,rfl,rfl,hbr,cQ,jM⟩:=hrel;have nt:=qH hbr;replace HA:=qH (HA.out.below hbr);replace HP:=qH (HP.out.below hbr);replace HB:=qH (zAa HB.out hbr HB.out.size);replace kf:=kf.below hbr kf.lt;replace ks:=ks.below hbr ks.lt;clear hbr hstart;by_cases hlt:i < m
   ·have j0:(0:Int)<=(i:Int):=by omega
    have j1:(i:Int) < (m:Int):=by omega
    obtain ⟨g,p,rfl,hg,⟨x0,x1,x2,x3,x4⟩,_⟩:=HP.out.at_ hlt;have hil:i < path.length:=by rw [aL.out];exact hlt
    have hsn:=zIx L hil;have hnm:=fY.out _ (List.mem_of_getElem? (zCm hil));generalize pa path i=x at x0 x1 x2 x3 x4 hsn hnm;obtain ⟨⟨xf,xl,xfar,xpc⟩,xo⟩:=x;simp only at x0 x1 x2 x3 x4 hnm;have kS:=zGk hv (s:=⟨xf,xl,xfar,xpc⟩) (by rw [dZ.out];exact hnm);have hst:zLy L ⟨⟨xf,xl,xfar,xpc⟩,xo⟩=([32]++zAx xo++[32])++zAM L ⟨xf,xl,xfar,xpc⟩++[44]:=rfl;obtain ⟨PX,iM⟩:∃T,zAM L ⟨xf,xl,xfar,xpc⟩=T:=⟨_,rfl⟩
    obtain ⟨OX,iN⟩:∃T,[32]++zAx xo++[32]=T:=⟨_,rfl⟩
    have qt:OX.length<=7:=by rw [<-iN];cases xo<;>decide
    have yM:(if xo then (⟨#[32,111,118,101,114,32]⟩:ByteArray) else ⟨#[32,117,110,100,101,114,32]⟩)=bA OX:=by rw [<-iN];cases xo<;>rfl
    obtain ⟨Y1,e9⟩:∃ZS,T++OX=ZS:=⟨_,rfl⟩
    obtain ⟨Y2,mY⟩:∃ZS,Y1++PX=ZS:=⟨_,rfl⟩
    obtain ⟨Y3,qE⟩:∃ZS,Y2++[44]=ZS:=⟨_,rfl⟩
    rw [iM] at kS;have y1:Y1.length<=48+i*120+7:=by rw [<-e9];simp;omega
    have y2:Y2.length<=48+i*120+117:=by rw [<-mY];simp;omega
    have y3:Y3.length<=48+(i+1)*120:=by rw [<-qE];simp;omega
    have r1:=zAl e9 _ _ rfl rfl (by omega) (by omega);have r2:=zAl mY _ _ rfl rfl (by omega) (by omega);have r3:=zAl qE _ ⟨#[44]⟩ rfl rfl (by omega) (by simp);have gK:=qH (show Y3=G1++zDH L (path.take (i+1)) by rw [hsn,hst,iM,iN,<-qE,<-mY,<-e9,cQ.out];simp);have lA:=qH iM;have DZ:=qH yM;have gQ:=qH hnm;have HX:=qH (show g < wr.heap.size/\wr.cell? ⟨g,p+i*5,U⟩=Z (D J xf)/\wr.cell? ⟨g,p+i*5+1,U⟩=Z (D J xl)/\wr.cell? ⟨g,p+i*5+2,U⟩=Z (G xfar)/\wr.cell? ⟨g,p+i*5+3,U⟩=Z (D J xpc)/\wr.cell? ⟨g,p+i*5+4,U⟩=Z (G xo) from ⟨hg,x0,x1,x2,x3,x4⟩);have nF:i+1<=m:=hlt;clear hsn hst iM iN e9 mY qE y1 y2 kS qt hil cQ hnm yM x0 x1 x2 x3 x4 hg jM;have c6:wr.cell? ⟨w.heap.size+1,6,U⟩=Z (H (Z ⟨g,p,U⟩) m d):=(ks.cell 6).trans rfl;go_upto_region 22 with fail
    clear c6;have k0:∀wx,ZZ wr.heap.size wr wx->(ZZ wr.heap.size wr wx/\wx.cell? ⟨w.heap.size,0,U⟩=Z (H A n c)/\wx.cell? ⟨w.heap.size,1,U⟩=Z (D J re)/\wx.cell? ⟨w.heap.size,2,U⟩=Z (D J lo)/\wx.cell? ⟨w.heap.size+1,6,U⟩=Z (H (Z ⟨g,p,U⟩) m d)/\wx.cell? ⟨g,p+i*5,U⟩=Z (D J xf)/\wx.cell? ⟨g,p+i*5+1,U⟩=Z (D J xl)/\wx.cell? ⟨g,p+i*5+2,U⟩=Z (G xfar)/\wx.cell? ⟨g,p+i*5+3,U⟩=Z (D J xpc)/\wx.cell? ⟨g,p+i*5+4,U⟩=Z (G xo)):=fun wx h=>⟨h,((kf.below h kf.lt).cell 0).trans rfl,((kf.below h kf.lt).cell 1).trans rfl,((kf.below h kf.lt).cell 2).trans rfl,((ks.below h ks.lt).cell 6).trans rfl,(h.cell (p:=⟨g,p+i*5,U⟩) HX.out.1).trans HX.out.2.1,(h.cell (p:=⟨g,p+i*5+1,U⟩) HX.out.1).trans HX.out.2.2.1,(h.cell (p:=⟨g,p+i*5+2,U⟩) HX.out.1).trans HX.out.2.2.2.1,(h.cell (p:=⟨g,p+i*5+3,U⟩) HX.out.1).trans HX.out.2.2.2.2.1,(h.cell (p:=⟨g,p+i*5+4,U⟩) HX.out.1).trans HX.out.2.2.2.2.2⟩
    have KP:=qH k0;clear k0
    first
     | go_region_held3 (fun wx=>ZZ wr.heap.size wr wx/\wx.cell? ⟨w.heap.size,0,U⟩=Z (H A n c)/\wx.cell? ⟨w.heap.size,1,U⟩=Z (D J re)/\wx.cell? ⟨w.heap.size,2,U⟩=Z (D J lo)/\wx.cell? ⟨w.heap.size+1,6,U⟩=Z (H (Z ⟨g,p,U⟩) m d)/\wx.cell? ⟨g,p+i*5,U⟩=Z (D J xf)/\wx.cell? ⟨g,p+i*5+1,U⟩=Z (D J xl)/\wx.cell? ⟨g,p+i*5+2,U⟩=Z (G xfar)/\wx.cell? ⟨g,p+i*5+3,U⟩=Z (D J xpc)/\wx.cell? ⟨g,p+i*5+4,U⟩=Z (G xo)) (first | assumption | exact KP.out _ (M _ _).drew | exact KP.out _ (zAa (And.left (by assumption)) (by assumption) (Below.size (And.left (by assumption)))))
       (first
        | (go_at_call 65;refine (zMt lA.out _ (HA.out.below (And.left (by assumption))) hv gQ.out).mono ?_;rintro e wd ⟨rfl,hbd⟩)
        | (go_at_call 64;refine (zDi DZ.out _).mono ?_;rintro e we ⟨rfl,rfl⟩))
     | fail
    all_goals
     have hbf:=And.left (show ZZ wr.heap.size wr _/\_ by assumption);have ai:=zAa nt.out hbf nt.out.size;go_wp2_with fail
     go_roundw
     case rel=>exact ⟨i+1,Y3,nF,by go_num,rfl,ai,gK,y3⟩
     case measure=>simp [intOf];omega
   ·have hin:i=m:=by omega
    obtain ⟨Z1,mX⟩:∃ZS,T++[32,102,114,111,109,32]=ZS:=⟨_,rfl⟩
    obtain ⟨Z2,iL⟩:∃ZS,Z1++PL=ZS:=⟨_,rfl⟩
    have j1:¬(i:Int) < (m:Int):=by omega
    have z1:Z1.length<=48+i*120+6:=by rw [<-mX];simp;omega
    have cU:=lB.out;have r1:=zAl mX _ ⟨#[32,102,114,111,109,32]⟩ rfl rfl (by omega) (by simp);have r2:=zAl iL _ _ rfl rfl (by omega) (by omega)
    have HR:=qH (show bA Z2=bA (zBg L ⟨3,f,⟨ff,fl,ffar,fpc⟩,path,over⟩) by
     rw [fP.out,<-iL,<-mX,cQ.out,<-HG.out,<-cc.out,hin,<-aL.out,List.take_length];simp [zCL,zAu])
    clear hin mX iL cQ z1 cU jM;obtain ⟨a0,a1,a2⟩:=cQ3 kf;obtain ⟨-,-,e2,e3,e4,e5,e6,-⟩:=cQ8 ks;go_wp2_with fail
    refine (zMt cc.out _ HA.out hv dd.out).mono ?_;rintro e u4 ⟨rfl,hb⟩;clear a0 a1 a2 e2 e3 e4 e5 e6;replace HA:=qH (HA.out.below hb);replace HP:=qH (HP.out.below hb);replace HB:=qH (zAa HB.out hb HB.out.size);replace kf:=kf.below hb kf.lt;replace ks:=ks.below hb ks.lt;clear hb;go_wp2_with fail
    go_ret;exact ⟨zCp HR.out,HB.out⟩
theorem zNw {A:Option Addr} {n c:Nat} {L:List Fg} {re lo:Int} {o:Og} {S:List UInt8} (h:zBg L o=S) (B:Option Addr) (m d:Nat) (w:ZY) (hA:Fgs w A n L) (hv:TOk L) (hO:OpIn w o B m d) (hr:zAf n o=Q) (hm:m<=10000) :
  Calls ZX 25 #[frV A n c re lo,opV o B m d] w fun e w'=>e=.returned (W (bA S))/\ZZ w.heap.size w w':=by
 subst h;exact zOE A n c L re lo o B m d w hA hv hO hr hm
theorem zNx (A:Option Addr) (n c:Nat) (re lo:Int) (w:ZY):(Instr.field 24 (.agg #[H A n c,D J re,D J lo]) 0).run ZX w=.ok (H A n c) w:=by kernel_rfl
theorem zUl:TOk AL:=fun i hi=>by
 have:=zLX i hi;unfold zDj at this;simp only [Bool.and_eq_true] at this;exact this.1
theorem zCK {o:Og} {b:Bool} (h:zAf 126 o=b) (B:Option Addr) (m d:Nat) (w:ZY) (hO:OpIn w o B m d) :
  Calls ZX 55 #[opV o B m d,D J 126] w fun e w'=>e=.returned (G b)/\ZZ w.heap.size w w':=zTl h B m d w hO
theorem zLh {o:Og} {S:List UInt8} (h:zBg AL o=S) {A:Option Addr} {c:Nat} (B:Option Addr) (m d:Nat) (w:ZY) (hA:Fgs w A 126 AL) (hO:OpIn w o B m d) (hr:zAf 126 o=Q) (hm:m<=10000) :
  Calls ZX 25 #[frV A 126 c 0 1,opV o B m d] w fun e w'=>e=.returned (W (bA S))/\ZZ w.heap.size w w':=zNw h B m d w hA zUl hO hr hm
theorem zTm {S:List UInt8} {g:Og} (h:zLl S=g) (hS:S.length<=8000) (w:ZY):Calls ZX 54 #[W (bA S)] w (OpG w g):=by
 subst h;exact zOz S w hS
theorem zIQ {L:List Fg} {o o':Og} {b:Bool} (h1:zRv L o=o') (h2:zQb L o=b) {A:Option Addr} {n c:Nat} {re lo:Int} {B:Option Addr} {m d:Nat} (w:ZY) (hA:Fgs w A n L) (hO:Stps w B m o.path) (hr:zAf 126 o=Q) (hm:m<=10000) :
  Calls ZX 57 #[frV A n c re lo,opV o B m d] w (SetGives w o' b):=by
 subst h1;subst h2;exact zLe A n c L re lo o B m d w hA hO hr hm
theorem OpErr.of {w0 w':ZY} {o:Og} {er:Int} {B:Option Addr} {m d:Nat} (hrow:Row w' w0.heap.size 5 B m d (o.path.flatMap zCl)) (hm:m=o.path.length) (hb:ZZ w0.heap.size w0 w') :
  OpErr w0 o er (.returned (.tuple #[opV o B m d,D J er])) w':=⟨B,m,d,rfl,hrow,hm,hb⟩
theorem zIl (A:Option Addr) (n c:Nat) (L:List Fg) (re lo:Int) (S:List UInt8) (w:ZY) (hA:Fgs w A n L) (hv:frB L re lo=Q) :
  Calls ZX 20 #[frV A n c re lo,W (bA S)] w (OpErr w (rdO L re lo S) (rdE L re lo S)):=by
 have hs:=zBz S;obtain ⟨nS,dm⟩:∃k,S.length=k:=⟨_,rfl⟩
 rw [dm] at hs;have HN:=qH dm;have HA:=qH hA;have HB:=qH (M w.heap.size w);obtain ⟨ZQ,hE⟩:∃ZQ,rdE L re lo S=ZQ:=⟨_,rfl⟩
 obtain ⟨ro,hro⟩:∃o,rdO L re lo S=o:=⟨_,rfl⟩
 have HE:=qH hE;have zL:=qH hro;have HV:=qH hv;have bff:=zNx;rw [hE,hro];clear dm hA hE hro hv;go_enter Tryz.func20,Tryz.ntmps20;have hba:ZZ w.heap.size w ((w.alloc (.cells #[H A n c,D J re,D J lo] 24)).alloc (.cells #[D J 0,D J 0,D J 0,D J 0,G E,D J 0,H U 0 0,G E] 32)):=((M _ _).alloc (O _) _).alloc (by simp) _;have ak:Blk ((w.alloc (.cells #[H A n c,D J re,D J lo] 24)).alloc (.cells #[D J 0,D J 0,D J 0,D J 0,G E,D J 0,H U 0 0,G E] 32)) w.heap.size 24 #[H A n c,D J re,D J lo]:=(Blk.new w _ _).alloc _;have aa:Blk ((w.alloc (.cells #[H A n c,D J re,D J lo] 24)).alloc (.cells #[D J 0,D J 0,D J 0,D J 0,G E,D J 0,H U 0 0,G E] 32)) (w.heap.size+1) 32 #[D J 0,D J 0,D J 0,D J 0,G E,D J 0,H U 0 0,G E]:=heap_alloc2_new w _ _;replace HB:=qH hba;clear hba;go_upto_region 1 with fail
 generalize (w.alloc (.cells #[H A n c,D J re,D J lo] 24)).alloc (.cells #[D J 0,D J 0,D J 0,D J 0,G E,D J 0,H U 0 0,G E] 32)=X at HB ak aa ⊢;obtain ⟨dv,qC⟩:∃a,w.heap.size=a:=⟨_,rfl⟩
 obtain ⟨ae,cY⟩:∃a,w.heap.size+1=a:=⟨_,rfl⟩
 have aB:w.heap.size<=ae:=by omega
 rw [cY] at aa ⊢;have ak:Blk X dv 24 #[H A n c,D J re,D J lo]:=by rw [<-qC];exact ak
 rw [qC];clear qC cY;by_cases h8:8000 < nS
 ·have i0:(8000:Int) < (nS:Int):=by omega
  have ub:=qH (show ZQ=7/\ro=o0 from by
    have hb:zAC L re lo S=7:=by unfold zAC;rw [qP HV.out,qP (by rw [HN.out];exact h8)]
    rw [<-HE.out,<-zL.out];unfold rdE rdO;rw [qN (by omega),qN (by omega)];exact ⟨hb,rfl⟩)
  obtain ⟨bg,bf,be,bc,aZ,aY,aX,aW⟩:=cQ8 aa;have aV:=aa.frozen 0;have aU:=aa.frozen 1;have aT:=aa.frozen 2;have aS:=aa.frozen 3;have aR:=aa.frozen 4;have aQ:=aa.frozen 5;have aP:=aa.frozen 6;have aO:=aa.frozen 7;have SV:=qH (aa.store8 (D J 0) (D J 0) (D J 0) (D J 0) (G E) (D J 0) (H U 0 0) (G E));have BV:=zAc HB.out aB (D J 0) (D J 0) (D J 0) (D J 0) (G E) (D J 0) (H U 0 0) (G E);have bU:=qH (show OpErr w ro ZQ (.returned (.tuple #[.agg #[D J 0,D J 0,D J 0,D J 0,G E,D J 0,H U 0 0,G E],D J 7])) ((((((((X.setCell ⟨ae,0,U⟩ (D J 0)).setCell ⟨ae,1,U⟩ (D J 0)).setCell ⟨ae,2,U⟩ (D J 0)).setCell ⟨ae,3,U⟩ (D J 0)).setCell ⟨ae,4,U⟩ (G E)).setCell ⟨ae,5,U⟩ (D J 0)).setCell ⟨ae,6,U⟩ (H U 0 0)).setCell ⟨ae,7,U⟩ (G E)) from by rw [ub.out.1,ub.out.2];exact OpErr.of (o:=o0) (Row.none_ _ _ _) rfl BV);clear ak aa BV;go_wp2_with fail
  exact zAF rfl rfl rfl SV.out Tryz.underlying32 rfl (by kernel_rfl) rfl bU.out
 have i0:¬(8000:Int) < (nS:Int):=by omega
 have zZ:=qH (show ZQ=zDt L S/\ro=zEL L S by
  have hb:zAC L re lo S=0:=by unfold zAC;rw [qP HV.out,qN (by rw [HN.out];exact h8)]
  rw [<-HE.out,<-zL.out];unfold rdE rdO;rw [qP hb,qP hb];exact ⟨rfl,rfl⟩)
 obtain ⟨o,ho⟩:∃o,zLl S=o:=⟨_,rfl⟩
 have hok:=zXG S;rw [ho] at hok;have ep:=qH (zTm ho (by rw [HN.out];omega));obtain ⟨r,hr⟩:∃b,zAf 126 o=b:=⟨_,rfl⟩
 obtain ⟨ZO,hW⟩:∃ZO,zBg AL o=ZO:=⟨_,rfl⟩
 obtain ⟨o',qn⟩:∃x,zRv L o=x:=⟨_,rfl⟩
 obtain ⟨b',pe⟩:∃x,zQb L o=x:=⟨_,rfl⟩
 have wS:=qH (show (r&&decide (ZO=S))=E->ZQ=6/\ro=o0 from fun h=>by
  have:=zUZ L (S:=S) (by unfold okB;rw [ho,hr,hW];exact h)
  rw [zZ.out.1,zZ.out.2];exact this)
 have nT:=qH (show (r&&decide (ZO=S))=Q->ZQ=(if b' then 0 else 8)/\ro=(if b' then o' else o0) from fun h=>by
  have:=zSi L (S:=S) (by unfold okB;rw [ho,hr,hW];exact h)
  rw [ho,qn,pe] at this;rw [zZ.out.1,zZ.out.2];exact this)
 have fk:=qH hok;have HR:=qH hr;have HW:=qH hW;have Bb:=qH qn;have Bk:=qH pe;clear hok hr hW ho qn pe zZ HE zL h8;obtain ⟨okind,of,⟨off,ofl,offar,ofpc⟩,opath,oover⟩:=o;obtain ⟨pkind,pf,⟨pff,pfl,pffar,pfpc⟩,ppath,pover⟩:=o';go_wp2_with fail
 refine (ep.out _).mono ?_;rintro e Y0 ⟨B,m,d,rfl,dq,hm,hb⟩;have jF:m<=10000:=by have h1:=fk.out.2;have h2:=HN.out;rw [hm];simp only at h1 ⊢;omega
 clear hm ep;have y8:=HB.out.size;replace ak:=ak.below hb ak.lt;replace aa:=aa.below hb aa.lt;replace HB:=qH (zAa HB.out hb HB.out.size);replace dq:=dq.mono y8;clear hb y8;have q1:=(M Y0.heap.size Y0).alloc (O _) (.cells #[D J okind,D J of,D J off,D J ofl,G offar,D J ofpc,H B m d,G oover] 32);replace ak:=ak.below q1 ak.lt;replace aa:=aa.below q1 aa.lt;replace dq:=dq.below q1;replace HB:=qH (zAa HB.out q1 HB.out.size);have ab:=Blk.new Y0 32 #[D J okind,D J of,D J off,D J ofl,G offar,D J ofpc,H B m d,G oover];clear q1;go_upto_region 4 with fail
 generalize Y0.alloc (.cells #[D J okind,D J of,D J off,D J ofl,G offar,D J ofpc,H B m d,G oover] 32)=Y at ak aa ab dq HB ⊢;generalize hz_op:Y0.heap.size=ac at ab ⊢;clear hz_op;have jh:=qH (show OpIn Y ⟨okind,of,⟨off,ofl,offar,ofpc⟩,opath,oover⟩ B m d from ⟨fk.out.1.1,zDW dq (by omega) fk.out.1.2,dq.cap⟩);obtain ⟨q,hq⟩:∃q,(r&&decide (ZO=S))=q:=⟨_,rfl⟩
 have HQ:=qH hq;have eM:=qH ab;go_cut [27] (fun v27 wv=>v27=G (!q)/\∃V:ZY,V=wv/\ZZ Y.heap.size Y V)
 case first =>
  obtain ⟨aj,aK,aw,aE,aD,aC,aJ,ap⟩:=cQ8 ab;clear ak aa ab dq
  cases r with
  | false =>
   have hqf:q=E:=by rw [<-HQ.out];rfl
   subst hqf
   first
    | go_region_with (first
     | (refine unwanted_step (by rfl) ?_)
     | (go_at_call 56;refine (zCd _).mono ?_;rintro e wa ⟨A2,c2,rfl,eH,hba⟩;have hbq:ZZ Y.heap.size Y wa:=(by first | exact zAa hbr hba hbr.size | exact zAa ((M Y.heap.size Y).drew) hba (O _));have HF:=qH (zDC eH);have kka:=eM.out.below hbq eM.out.lt;have BF:wa.cell? ⟨ac,0,U⟩=Z (D J okind):=(kka.cell 0).trans rfl;have BD:wa.cell? ⟨ac,1,U⟩=Z (D J of):=(kka.cell 1).trans rfl;have BB:wa.cell? ⟨ac,2,U⟩=Z (D J off):=(kka.cell 2).trans rfl;have Bz:wa.cell? ⟨ac,3,U⟩=Z (D J ofl):=(kka.cell 3).trans rfl;have Bx:wa.cell? ⟨ac,4,U⟩=Z (G offar):=(kka.cell 4).trans rfl;have Bv:wa.cell? ⟨ac,5,U⟩=Z (D J ofpc):=(kka.cell 5).trans rfl;have Bt:wa.cell? ⟨ac,6,U⟩=Z (H B m d):=(kka.cell 6).trans rfl;have Br:wa.cell? ⟨ac,7,U⟩=Z (G oover):=(kka.cell 7).trans rfl)
     | (go_at_call 55;(first | refine (zCK HR.out B m d _ (jh.out.below hbq)).mono ?_ | refine (zCK HR.out B m d _ (jh.out.below hbq.drew)).mono ?_);rintro e wr ⟨rfl,fS⟩;have hbr:ZZ Y.heap.size Y wr:=zAa hbq fS hbq.size;have kkr:=eM.out.below hbr eM.out.lt;have BE:wr.cell? ⟨ac,0,U⟩=Z (D J okind):=(kkr.cell 0).trans rfl;have BC:wr.cell? ⟨ac,1,U⟩=Z (D J of):=(kkr.cell 1).trans rfl;have BA:wr.cell? ⟨ac,2,U⟩=Z (D J off):=(kkr.cell 2).trans rfl;have By:wr.cell? ⟨ac,3,U⟩=Z (D J ofl):=(kkr.cell 3).trans rfl;have Bw:wr.cell? ⟨ac,4,U⟩=Z (G offar):=(kkr.cell 4).trans rfl;have Bu:wr.cell? ⟨ac,5,U⟩=Z (D J ofpc):=(kkr.cell 5).trans rfl;have Bs:wr.cell? ⟨ac,6,U⟩=Z (H B m d):=(kkr.cell 6).trans rfl;have Bq:wr.cell? ⟨ac,7,U⟩=Z (G oover):=(kkr.cell 7).trans rfl))
    | fail
   all_goals
    go_wp2_with fail
    go_meet
    case rel=>exact ⟨rfl,_,rfl,hbr⟩
  | true =>
   have n1:((bA ZO).toList==(bA S).toList)=q:=by rw [<-HQ.out,zBt,Bool.true_and];by_cases e:ZO=S<;>simp [e]
   go_region_with (first
    | (go_at_call 56;refine (zCd _).mono ?_;rintro e wa ⟨A2,c2,rfl,eH,hba⟩;have hbq:ZZ Y.heap.size Y wa:=(by first | exact zAa hbr hba hbr.size | exact zAa ((M Y.heap.size Y).drew) hba (O _));have HF:=qH (zDC eH);have kka:=eM.out.below hbq eM.out.lt;have BF:wa.cell? ⟨ac,0,U⟩=Z (D J okind):=(kka.cell 0).trans rfl;have BD:wa.cell? ⟨ac,1,U⟩=Z (D J of):=(kka.cell 1).trans rfl;have BB:wa.cell? ⟨ac,2,U⟩=Z (D J off):=(kka.cell 2).trans rfl;have Bz:wa.cell? ⟨ac,3,U⟩=Z (D J ofl):=(kka.cell 3).trans rfl;have Bx:wa.cell? ⟨ac,4,U⟩=Z (G offar):=(kka.cell 4).trans rfl;have Bv:wa.cell? ⟨ac,5,U⟩=Z (D J ofpc):=(kka.cell 5).trans rfl;have Bt:wa.cell? ⟨ac,6,U⟩=Z (H B m d):=(kka.cell 6).trans rfl;have Br:wa.cell? ⟨ac,7,U⟩=Z (G oover):=(kka.cell 7).trans rfl)
    | (go_at_call 55;(first | refine (zCK HR.out B m d _ (jh.out.below hbq)).mono ?_ | refine (zCK HR.out B m d _ (jh.out.below hbq.drew)).mono ?_);rintro e wr ⟨rfl,fS⟩;have hbr:ZZ Y.heap.size Y wr:=zAa hbq fS hbq.size;have kkr:=eM.out.below hbr eM.out.lt;have BE:wr.cell? ⟨ac,0,U⟩=Z (D J okind):=(kkr.cell 0).trans rfl;have BC:wr.cell? ⟨ac,1,U⟩=Z (D J of):=(kkr.cell 1).trans rfl;have BA:wr.cell? ⟨ac,2,U⟩=Z (D J off):=(kkr.cell 2).trans rfl;have By:wr.cell? ⟨ac,3,U⟩=Z (D J ofl):=(kkr.cell 3).trans rfl;have Bw:wr.cell? ⟨ac,4,U⟩=Z (G offar):=(kkr.cell 4).trans rfl;have Bu:wr.cell? ⟨ac,5,U⟩=Z (D J ofpc):=(kkr.cell 5).trans rfl;have Bs:wr.cell? ⟨ac,6,U⟩=Z (H B m d):=(kkr.cell 6).trans rfl;have Bq:wr.cell? ⟨ac,7,U⟩=Z (G oover):=(kkr.cell 7).trans rfl)
    | (go_at_call 25;(first | refine (zLh HW.out B m d _ HF.out (jh.out.below hbq) HR.out jF).mono ?_ | refine (zLh HW.out B m d _ (HF.out.below (M _ _).drew) (jh.out.below hbq.drew) HR.out jF).mono ?_);rintro e ww ⟨rfl,hbw⟩;have hbz:ZZ Y.heap.size Y ww:=zAa hbq hbw hbq.size))
   all_goals
    go_wp2_with fail
    go_meet
    case rel=>exact ⟨by first | rfl | (rw [<-n1];rfl) | (simp;exact n1),_,rfl,hbz⟩
 case rest =>
  obtain ⟨rfl,V,hV,hbv⟩:=hcut;subst hV;replace ak:=ak.below hbv ak.lt;replace aa:=aa.below hbv aa.lt;replace ab:=ab.below hbv ab.lt;replace dq:=dq.below hbv;replace HB:=qH (zAa HB.out hbv HB.out.size);clear hbv eM
  cases q with
  | false =>
   simp only [Bool.not_false];have ub:=qH (show ZQ=6/\ro=o0 from wS.out HQ.out);obtain ⟨bg,bf,be,bc,aZ,aY,aX,aW⟩:=cQ8 aa;have aV:=aa.frozen 0;have aU:=aa.frozen 1;have aT:=aa.frozen 2;have aS:=aa.frozen 3;have aR:=aa.frozen 4;have aQ:=aa.frozen 5;have aP:=aa.frozen 6;have aO:=aa.frozen 7;have SV:=qH (aa.store8 (D J 0) (D J 0) (D J 0) (D J 0) (G E) (D J 0) (H U 0 0) (G E));have BV:=zAc HB.out aB (D J 0) (D J 0) (D J 0) (D J 0) (G E) (D J 0) (H U 0 0) (G E);have bU:=qH (show OpErr w ro ZQ (.returned (.tuple #[.agg #[D J 0,D J 0,D J 0,D J 0,G E,D J 0,H U 0 0,G E],D J 6])) ((((((((V.setCell ⟨ae,0,U⟩ (D J 0)).setCell ⟨ae,1,U⟩ (D J 0)).setCell ⟨ae,2,U⟩ (D J 0)).setCell ⟨ae,3,U⟩ (D J 0)).setCell ⟨ae,4,U⟩ (G E)).setCell ⟨ae,5,U⟩ (D J 0)).setCell ⟨ae,6,U⟩ (H U 0 0)).setCell ⟨ae,7,U⟩ (G E)) from by rw [ub.out.1,ub.out.2];exact OpErr.of (o:=o0) (Row.none_ _ _ _) rfl BV);clear ak aa ab dq BV;go_wp2_with fail
   exact zAF rfl rfl rfl SV.out Tryz.underlying32 rfl (by kernel_rfl) rfl bU.out
  | true =>
   simp only [Bool.not_true];obtain ⟨hr1,_⟩:r=Q/\decide (ZO=S)=Q:=by have h:=HQ.out;rw [Bool.and_eq_true] at h;exact h
   have wR:=qH (HR.out.trans hr1);have HY:=qH (nT.out HQ.out);have iW:=qH jh.out.path;clear hr1 wS nT HQ HR HW jh;replace iW:=qH (show Stps V B m opath from (zDW dq (by omega) fk.out.1.2));obtain ⟨gI,gH,gG⟩:=cQ3 ak;obtain ⟨aj,aK,aw,aE,aD,aC,aJ,ap⟩:=cQ8 ab;go_wp2_with fail
   refine (zIQ Bb.out Bk.out _ (HA.out.below HB.out) iW.out wR.out jF).mono ?_;rintro e V2 ⟨B2,m2,d2,rfl,iw,cE,hb⟩;have fO:=qH cE;clear cE iW;clear gI gH gG aj aK aw aE aD aC aJ ap;have pz:∀k,blk B2=Z k->k≠ae:=fun k hk=>Nat.ne_of_gt (Nat.lt_of_lt_of_le aa.lt (iw.lt k hk).1)
   have yZ:=HB.out.size;replace ak:=ak.below hb ak.lt;replace aa:=aa.below hb aa.lt;replace ab:=ab.below hb ab.lt;replace dq:=dq.below hb;replace HB:=qH (zAa HB.out hb HB.out.size);replace iw:=iw.mono yZ;clear hb yZ;have q2:=(M V2.heap.size V2).alloc (O _) (.cells #[D J pkind,D J pf,D J pff,D J pfl,G pffar,D J pfpc,H B2 m2 d2,G pover] 32);replace ak:=ak.below q2 ak.lt;replace aa:=aa.below q2 aa.lt;replace ab:=ab.below q2 ab.lt;replace dq:=dq.below q2;replace iw:=iw.below q2;replace HB:=qH (zAa HB.out q2 HB.out.size);have c8:=Blk.new V2 32 #[D J pkind,D J pf,D J pff,D J pfl,G pffar,D J pfpc,H B2 m2 d2,G pover];clear q2;go_upto_region 7 with fail
   generalize V2.alloc (.cells #[D J pkind,D J pf,D J pff,D J pfl,G pffar,D J pfpc,H B2 m2 d2,G pover] 32)=ZR at ak aa ab c8 dq iw HB ⊢;generalize hz_op2:V2.heap.size=a_op2 at c8 ⊢;clear hz_op2
   cases b' with
   | false =>
    have ub:=qH (show ZQ=8/\ro=o0 from HY.out);obtain ⟨bg,bf,be,bc,aZ,aY,aX,aW⟩:=cQ8 aa;have aV:=aa.frozen 0;have aU:=aa.frozen 1;have aT:=aa.frozen 2;have aS:=aa.frozen 3;have aR:=aa.frozen 4;have aQ:=aa.frozen 5;have aP:=aa.frozen 6;have aO:=aa.frozen 7;have SV:=qH (aa.store8 (D J 0) (D J 0) (D J 0) (D J 0) (G E) (D J 0) (H U 0 0) (G E));have BV:=zAc HB.out aB (D J 0) (D J 0) (D J 0) (D J 0) (G E) (D J 0) (H U 0 0) (G E);have bU:=qH (show OpErr w ro ZQ (.returned (.tuple #[.agg #[D J 0,D J 0,D J 0,D J 0,G E,D J 0,H U 0 0,G E],D J 8])) ((((((((ZR.setCell ⟨ae,0,U⟩ (D J 0)).setCell ⟨ae,1,U⟩ (D J 0)).setCell ⟨ae,2,U⟩ (D J 0)).setCell ⟨ae,3,U⟩ (D J 0)).setCell ⟨ae,4,U⟩ (G E)).setCell ⟨ae,5,U⟩ (D J 0)).setCell ⟨ae,6,U⟩ (H U 0 0)).setCell ⟨ae,7,U⟩ (G E)) from by rw [ub.out.1,ub.out.2];exact OpErr.of (o:=o0) (Row.none_ _ _ _) rfl BV);clear ak aa ab c8 dq iw BV;go_wp2_with fail
    exact zAF rfl rfl rfl SV.out Tryz.underlying32 rfl (by kernel_rfl) rfl bU.out
   | true =>
    obtain ⟨Dk,Dj,Di,Dh,Dg,Df,De,Dd⟩:=cQ8 c8;obtain ⟨bg,bf,be,bc,aZ,aY,aX,aW⟩:=cQ8 aa;have aV:=aa.frozen 0;have aU:=aa.frozen 1;have aT:=aa.frozen 2;have aS:=aa.frozen 3;have aR:=aa.frozen 4;have aQ:=aa.frozen 5;have aP:=aa.frozen 6;have aO:=aa.frozen 7;have SV:=qH (aa.store8 (D J pkind) (D J pf) (D J pff) (D J pfl) (G pffar) (D J pfpc) (H B2 m2 d2) (G pover));have BV:=zAc HB.out aB (D J pkind) (D J pf) (D J pff) (D J pfl) (G pffar) (D J pfpc) (H B2 m2 d2) (G pover);have RV:=iw.store8of pz (D J pkind) (D J pf) (D J pff) (D J pfl) (G pffar) (D J pfpc) (H B2 m2 d2) (G pover);have bU:=qH (show OpErr w ro ZQ (.returned (.tuple #[.agg #[D J pkind,D J pf,D J pff,D J pfl,G pffar,D J pfpc,H B2 m2 d2,G pover],D J 0])) ((((((((ZR.setCell ⟨ae,0,U⟩ (D J pkind)).setCell ⟨ae,1,U⟩ (D J pf)).setCell ⟨ae,2,U⟩ (D J pff)).setCell ⟨ae,3,U⟩ (D J pfl)).setCell ⟨ae,4,U⟩ (G pffar)).setCell ⟨ae,5,U⟩ (D J pfpc)).setCell ⟨ae,6,U⟩ (H B2 m2 d2)).setCell ⟨ae,7,U⟩ (G pover)) from by rw [HY.out.1,HY.out.2];exact OpErr.of (o:=⟨pkind,pf,⟨pff,pfl,pffar,pfpc⟩,ppath,pover⟩) RV fO.out BV);clear ak aa ab c8 dq iw BV RV;go_wp2_with fail
    exact zAF rfl rfl rfl SV.out Tryz.underlying32 rfl (by kernel_rfl) rfl bU.out
theorem zOF (A:Option Addr) (n c:Nat) (L:List Fg) (re lo:Int) (s:Sg) (w:ZY) (hA:Fgs w A n L) (h1:1<=s.f) (h2:s.f<=(n:Int)) :
  Calls ZX 70 #[frV A n c re lo,sgV s] w fun e w'=>e=.returned (G (zBb L s))/\ZZ w.heap.size w w':=by
 have hle:=hA.le;have ah:ZZ w.heap.size w ((w.alloc (.cells #[H A n c,D J re,D J lo] 24)).alloc (.cells #[D J s.f,D J s.l,G s.far,D J s.pc] 29)):=((M _ _).alloc (O _) _).alloc (by simp) _;have hA0:=hA.below ah;obtain ⟨i,hi⟩:∃i:Nat,s.f=(i:Int)+1:=⟨(s.f-1).toNat,by omega⟩
 have hin:i < n:=by omega
 obtain ⟨g,o,rfl,hg,⟨x0,x1,x2⟩,_⟩:=hA0.at_ hin;have hs:zBb L s=(decide ((fa L i).p=1)&&decide (s.l=0)&&decide (s.pc=0)):=by unfold zBb;rw [hi,show ((i:Int)+1-1).toNat=i by omega]
 have q1:wrap64 (s.f-1)=(i:Int):=by unfold wrap64;omega
 have q2:s.f-1=(i:Int):=by omega
 have j0:(0:Int)<=(i:Int):=by omega
 have j1:(i:Int) < (n:Int):=by omega
 generalize fa L i=x at x0 x1 x2 hs;obtain ⟨f,l,far,pc⟩:=s;obtain ⟨p,r,dg⟩:=x;simp only at x0 hs q1 q2 ah hg ⊢;clear hi hA0 hA hin h1 h2 x1 x2;by_cases e2:l=0
 ·subst e2;by_cases e3:pc=0
  ·subst e3;by_cases e1:p=1
   ·subst e1;have HS:=qH hs;clear hs;go_enter Tryz.func70,Tryz.ntmps70;go_wp2_with fail
    go_ret;exact ⟨zBJ (by rw [HS.out];rfl),ah⟩
   ·have k3:(p==1)=E:=by simpa using e1
    have HS:=qH (hs.trans (show _=E by simp [e1]));clear hs e1;go_enter Tryz.func70,Tryz.ntmps70;go_wp2_with fail
    go_ret;exact ⟨zBJ (by rw [HS.out]),ah⟩
  ·have k3:(pc==0)=E:=by simpa using e3
   have HS:=qH (hs.trans (show _=E by simp [e3]));clear hs e3;go_enter Tryz.func70,Tryz.ntmps70;go_wp2_with fail
   go_ret;exact ⟨zBJ (by rw [HS.out]),ah⟩
 ·have k2:(l==0)=E:=by simpa using e2
  have HS:=qH (hs.trans (show _=E by simp [e2]));clear hs e2;go_enter Tryz.func70,Tryz.ntmps70;go_wp2_with fail
  go_ret;exact ⟨zBJ (by rw [HS.out]),ah⟩
theorem zNy {A:Option Addr} {n c:Nat} {L:List Fg} {re lo:Int} {s:Sg} {b:Bool} (h:zBb L s=b) (w:ZY) (hA:Fgs w A n L) (h1:1<=s.f) (h2:s.f<=(n:Int)) :
  Calls ZX 70 #[frV A n c re lo,sgV s] w fun e w'=>e=.returned (G b)/\ZZ w.heap.size w w':=by
 subst h;exact zOF A n c L re lo s w hA h1 h2
theorem zTn (A:Option Addr) (n c:Nat) (L:List Fg) (re lo:Int) (o:Og) (B:Option Addr) (m d:Nat) (w:ZY) (hA:Fgs w A n L) (hO:OpIn w o B m d) (hr:zAf n o=Q) :
  Calls ZX 29 #[frV A n c re lo,opV o B m d] w fun e w'=>e=.returned (G (zBN L o))/\ZZ w.heap.size w w':=by
 have hle:=hA.le;have hmle:=hO.path.le;obtain ⟨h1,h8,dj,bt,hpn,_⟩:=zAS hr;obtain ⟨o7,nG⟩:=zDn hr;have hP:=hO.path;have hlen:=hO.path.len;have hpf:∀x∈o.path,1<=x.s.f/\x.s.f<=(n:Int):=fun x hx=>by have:=zAh.1 (hpn x hx);exact ⟨this.1,this.2.1⟩
 have hcan:zBN L o=(decide ((fa L (o.f-1).toNat).p=1)&&(decide (¬0 < o.fr.f)||zBb L o.fr)&&o.path.all fun x=>zBb L x.s):=rfl;obtain ⟨kind,f,⟨ff,fl,ffar,fpc⟩,path,over⟩:=o;simp only at h1 h8 dj bt o7 nG hP hpf hcan hlen ⊢;obtain ⟨i,hi⟩:∃i:Nat,f=(i:Int)+1:=⟨(f-1).toNat,by omega⟩
 have hin:i < n:=by omega
 rw [show (f-1).toNat=i by omega] at hcan;have q1:wrap64 (f-1)=(i:Int):=by unfold wrap64;omega
 have q2:f-1=(i:Int):=by omega
 have j0:(0:Int)<=(i:Int):=by omega
 have j1:(i:Int) < (n:Int):=by omega
 obtain ⟨qs,hqs⟩:∃q,zBb L ⟨ff,fl,ffar,fpc⟩=q:=⟨_,rfl⟩
 rw [hqs] at hcan;have HQS:=qH hqs;have DX:=qH (And.intro o7 nG);have HPF:=qH hpf;have aL:=qH hlen;have pQ:=qH hcan;have ou:=qH hin;have HA:=qH hA;have HP:=qH hP;have HB:=qH (M w.heap.size w);clear hqs o7 nG hpf hlen hcan hin hA hP hi hpn h1 h8 dj bt hO hr;go_enter Tryz.func29,Tryz.ntmps29;have hba:ZZ w.heap.size w ((w.alloc (.cells #[H A n c,D J re,D J lo] 24)).alloc (.cells #[D J kind,D J f,D J ff,D J fl,G ffar,D J fpc,H B m d,G over] 32)):=((M _ _).alloc (O _) _).alloc (by simp) _;replace HA:=qH (HA.out.below hba);replace HP:=qH (HP.out.below hba);replace HB:=qH (zAa HB.out hba HB.out.size);have kf:=(Blk.new w 24 #[H A n c,D J re,D J lo]).alloc (.cells #[D J kind,D J f,D J ff,D J fl,G ffar,D J fpc,H B m d,G over] 32);have ks:Blk ((w.alloc (.cells #[H A n c,D J re,D J lo] 24)).alloc (.cells #[D J kind,D J f,D J ff,D J fl,G ffar,D J fpc,H B m d,G over] 32)) (w.heap.size+1) 32 #[D J kind,D J f,D J ff,D J fl,G ffar,D J fpc,H B m d,G over]:=heap_alloc2_new w _ _;clear hba;go_upto_region 1 with fail
 generalize (w.alloc (.cells #[H A n c,D J re,D J lo] 24)).alloc (.cells #[D J kind,D J f,D J ff,D J fl,G ffar,D J fpc,H B m d,G over] 32)=X at HA HP HB kf ks ⊢;obtain ⟨g,p,wK,hg,⟨x0,_,_⟩,_⟩:=HA.out.at_ ou.out;generalize fa L i=x at x0 pQ;obtain ⟨xp,xr,xd⟩:=x;simp only at x0 pQ;subst wK;have HX:=qH (And.intro hg x0);clear x0 hg;obtain ⟨y,hy⟩:∃y,(decide (xp=1)&&(decide (¬0 < ff)||qs))=y:=⟨_,rfl⟩
 have HY:=qH hy;clear hy;go_cut [27] (fun v wv=>v=G (!y)/\∃V:ZY,V=wv/\ZZ X.heap.size X V)
 case first =>
  have x0:=HX.out.2;obtain ⟨a0,a1,a2⟩:=cQ3 kf;obtain ⟨-,e1,e2,e3,e4,e5⟩:=cQ6 ks;by_cases e1:xp=1
  ·subst e1;by_cases e2:0 < ff
   ·have nr:=qH (show (1:Int)<=ff by omega);go_wp2_with fail
    refine (zNy HQS.out _ HA.out nr.out DX.out.2).mono ?_;rintro e V ⟨rfl,hb⟩;have hyq:Hid (y=qs):=qH (by have hn:¬ff<=0:=(by omega);rw [<-HY.out];simp [hn]);clear x0 a0 a1 a2 e1 e2 e3 e4 e5;go_wp2_with fail
    go_meet
    case rel=>exact ⟨by rw [hyq.out],_,rfl,hb⟩
   ·have hyq:Hid (y=Q):=qH (by rw [<-HY.out];simp [e2]);go_wp2_with fail
    go_meet
    case rel=>exact ⟨by rw [hyq.out];rfl,_,rfl,M _ _⟩
  ·have k1:(xp != 1)=Q:=by simpa using e1
   have hyq:Hid (y=E):=qH (by rw [<-HY.out];simp [e1]);clear e1;go_wp2_with fail
   go_meet
   case rel=>exact ⟨by rw [hyq.out];rfl,_,rfl,M _ _⟩
 case rest =>
  obtain ⟨rfl,V,hV,hb⟩:=hcut;subst hV;replace HA:=qH (HA.out.below hb);replace HP:=qH (HP.out.below hb);replace HB:=qH (zAa HB.out hb HB.out.size);replace kf:=kf.below hb kf.lt;replace ks:=ks.below hb ks.lt;clear hb
  cases y with
  | false =>
   have HR:=qH (show zBN L ⟨kind,f,⟨ff,fl,ffar,fpc⟩,path,over⟩=E by rw [pQ.out,HY.out];rfl);go_wp2_with fail
   go_ret;exact ⟨zBJ (by rw [HR.out]),HB.out⟩
  | true =>
   have Hb:=qH (show zBN L ⟨kind,f,⟨ff,fl,ffar,fpc⟩,path,over⟩=path.all fun x=>zBb L x.s by rw [pQ.out,HY.out,Bool.true_and]);clear pQ HY;go_wp2_with fail
   go_loopw [5] (fun v wr=>∃j:Nat,j<=m/\v=D J j/\ZZ V.heap.size V wr/\Hid (∀k:Nat,k < j->zBb L (pa path k).s=Q)) (fun v _=>m-(intOf v).toNat)
   case atStart=>exact ⟨0,Nat.zero_le _,rfl,M _ _,qH (fun j hj=>by omega)⟩
   case round =>
    obtain ⟨j,hj,rfl,hbr,HS⟩:=hrel;have nt:=qH hbr;replace HA:=qH (HA.out.below hbr);replace HP:=qH (HP.out.below hbr);replace HB:=qH (zAa HB.out hbr HB.out.size);replace kf:=kf.below hbr kf.lt;replace ks:=ks.below hbr ks.lt;clear hbr j0 j1;by_cases hlt:j < m
    ·have j0:(0:Int)<=(j:Int):=by omega
     have j1:(j:Int) < (m:Int):=by omega
     obtain ⟨g2,p2,rfl,hg,⟨x0,x1,x2,x3,x4⟩,_⟩:=HP.out.at_ hlt;have hpj:=HPF.out _ (List.mem_of_getElem? (zCm (i:=j) (by rw [aL.out];exact hlt)));obtain ⟨bx,hbx⟩:∃b,zBb L (pa path j).s=b:=⟨_,rfl⟩
     have fB:=qH hbx;clear hbx;generalize hpx:pa path j=x at x0 x1 x2 x3 x4 fB hpj;have lA:=qH hpx;obtain ⟨⟨xf,xl,xfar,xpc⟩,xo⟩:=x;simp only at x0 x1 x2 x3 x4 hpj;have GK:=qH hpj;have tR:=qH (show g2 < wr.heap.size/\wr.cell? ⟨g2,p2+j*5,U⟩=Z (D J xf)/\wr.cell? ⟨g2,p2+j*5+1,U⟩=Z (D J xl)/\wr.cell? ⟨g2,p2+j*5+2,U⟩=Z (G xfar)/\wr.cell? ⟨g2,p2+j*5+3,U⟩=Z (D J xpc) from ⟨hg,x0,x1,x2,x3⟩);have c6:wr.cell? ⟨w.heap.size+1,6,U⟩=Z (H (Z ⟨g2,p2,U⟩) m d):=(ks.cell 6).trans rfl;clear hpx hpj x0 x1 x2 x3 x4 hg;go_upto_region 6 with fail
     clear c6;go_cut [43] (fun v wv=>v=G (!bx)/\∃ZS:ZY,ZS=wv/\ZZ wr.heap.size wr ZS)
     case first =>
      have k0:∀wx,ZZ wr.heap.size wr wx->(ZZ wr.heap.size wr wx/\wx.cell? ⟨w.heap.size,0,U⟩=Z (H (Z ⟨g,p,U⟩) n c)/\wx.cell? ⟨w.heap.size,1,U⟩=Z (D J re)/\wx.cell? ⟨w.heap.size,2,U⟩=Z (D J lo)/\wx.cell? ⟨w.heap.size+1,6,U⟩=Z (H (Z ⟨g2,p2,U⟩) m d)/\wx.cell? ⟨g2,p2+j*5,U⟩=Z (D J xf)/\wx.cell? ⟨g2,p2+j*5+1,U⟩=Z (D J xl)/\wx.cell? ⟨g2,p2+j*5+2,U⟩=Z (G xfar)/\wx.cell? ⟨g2,p2+j*5+3,U⟩=Z (D J xpc)):=fun wx h=>⟨h,((kf.below h kf.lt).cell 0).trans rfl,((kf.below h kf.lt).cell 1).trans rfl,((kf.below h kf.lt).cell 2).trans rfl,((ks.below h ks.lt).cell 6).trans rfl,(h.cell (p:=⟨g2,p2+j*5,U⟩) tR.out.1).trans tR.out.2.1,(h.cell (p:=⟨g2,p2+j*5+1,U⟩) tR.out.1).trans tR.out.2.2.1,(h.cell (p:=⟨g2,p2+j*5+2,U⟩) tR.out.1).trans tR.out.2.2.2.1,(h.cell (p:=⟨g2,p2+j*5+3,U⟩) tR.out.1).trans tR.out.2.2.2.2⟩
      have KP:=qH k0;clear k0
      first
       | go_region_held3 (fun wx=>ZZ wr.heap.size wr wx/\wx.cell? ⟨w.heap.size,0,U⟩=Z (H (Z ⟨g,p,U⟩) n c)/\wx.cell? ⟨w.heap.size,1,U⟩=Z (D J re)/\wx.cell? ⟨w.heap.size,2,U⟩=Z (D J lo)/\wx.cell? ⟨w.heap.size+1,6,U⟩=Z (H (Z ⟨g2,p2,U⟩) m d)/\wx.cell? ⟨g2,p2+j*5,U⟩=Z (D J xf)/\wx.cell? ⟨g2,p2+j*5+1,U⟩=Z (D J xl)/\wx.cell? ⟨g2,p2+j*5+2,U⟩=Z (G xfar)/\wx.cell? ⟨g2,p2+j*5+3,U⟩=Z (D J xpc)) (first | assumption | exact KP.out _ (M _ _).drew | exact KP.out _ (zAa (And.left (by assumption)) (by assumption) (Below.size (And.left (by assumption)))))
         (first
          | (go_at_call 70;refine (zNy fB.out _ (HA.out.below (And.left (by assumption))) GK.out.1 GK.out.2).mono ?_;rintro e wd ⟨rfl,hbd⟩))
       | fail
      all_goals
       have hbf:=And.left (show ZZ wr.heap.size wr _/\_ by assumption);go_wp2_with fail
       go_meet
       case rel=>exact ⟨rfl,_,rfl,hbf⟩
     case rest =>
      obtain ⟨rfl,ZS,hU,hb⟩:=hcut;subst hU
      cases bx with
      | true =>
       have cR:=qH (show ∀k:Nat,k < j+1->zBb L (pa path k).s=Q from fun k hk=>by
        rcases Nat.decEq k j with e | e
        ·exact HS.out k (by omega)
        ·subst e;rw [lA.out];exact fB.out)
       have ai:=zAa nt.out hb nt.out.size;clear HS fB;go_wp2_with fail
       go_roundw
       case rel=>exact ⟨j+1,by omega,by go_num,ai,cR⟩
       case measure=>simp [intOf];omega
      | false =>
       have HR:=qH (show zBN L ⟨kind,f,⟨ff,fl,ffar,fpc⟩,path,over⟩=E by
        rw [Hb.out,List.all_eq_false]
        exact ⟨_,List.mem_of_getElem? (zCm (i:=j) (by rw [aL.out];exact hlt)),by rw [lA.out,fB.out];simp⟩)
       have ai:=zAa HB.out hb HB.out.size;clear HS fB;go_wp2_with fail
       go_ret;exact ⟨zBJ (by rw [HR.out]),ai⟩
    ·have j1:¬(j:Int) < (m:Int):=by omega
     have HR:=qH (show zBN L ⟨kind,f,⟨ff,fl,ffar,fpc⟩,path,over⟩=Q by
      rw [Hb.out,List.all_eq_true]
      intro x hx
      obtain ⟨k,hk⟩:=List.getElem?_of_mem hx
      have hl:=(List.getElem?_eq_some_iff.1 hk).1
      have hy:=zCm hl
      rw [hk] at hy
      injection hy with hy
      rw [hy]
      exact HS.out k (by rw [aL.out] at hl;omega))
     have c6:wr.cell? ⟨w.heap.size+1,6,U⟩=Z (H B m d):=(ks.cell 6).trans rfl;clear HS;go_wp2_with fail
     go_ret;exact ⟨zBJ (by rw [HR.out]),HB.out⟩
theorem zMu {A:Option Addr} {n c:Nat} {L:List Fg} {re lo:Int} {o:Og} {b:Bool} (h:zBN L o=b) (B:Option Addr) (m d:Nat) (w:ZY) (hA:Fgs w A n L) (hO:OpIn w o B m d) (hr:zAf n o=Q) :
  Calls ZX 29 #[frV A n c re lo,opV o B m d] w fun e w'=>e=.returned (G b)/\ZZ w.heap.size w w':=by
 subst h;exact zTn A n c L re lo o B m d w hA hO hr
theorem zHR {n:Nat} {b:Bool} (h:decide (n<=60)=b) (A:Option Addr) (c:Nat) (re lo:Int) (w:ZY) :
  Calls ZX 15 #[frV A n c re lo] w fun e w'=>e=.returned (G b)/\ZZ w.heap.size w w':=by
 subst h;exact zQR A n c re lo w
theorem zYH (S:List UInt8):((bA S).toList==(bA S).toList)=Q:=beq_self_eq_true _
