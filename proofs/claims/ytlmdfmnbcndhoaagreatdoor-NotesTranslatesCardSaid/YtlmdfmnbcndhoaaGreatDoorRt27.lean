/-
  Lemmas. Conditions: each one's own.
-/
import Derived.Test.YtlmdfmnbcndhoaaGreatDoorRt26
open Go.RowKit
set_option maxHeartbeats 12800000
set_option maxRecDepth 1000000
open Go renaming World->ZY
open Go.Value renaming bool->G,int->D,slice->H,string->W
open Go.RowKit renaming Below->ZZ
open Go.Proofs.Tryz renaming prog->ZX
open Go.RowKit.Below renaming refl->M
open Go.IntKind renaming i64->J
open Nat renaming le_refl->O
open Option renaming none->U,some->Z
open Bool renaming false->E,true->Q
namespace Go.Proofs.YtlmdfmnbcndhoaaGreatDoor
theorem zGl {L:List Fg} (hv:TOk L) {s:Sg} (h1:1<=s.f) (h2:s.f<=(L.length:Int)):(zBh L s).length<=44:=by
 have a:=hv.len h1 h2;unfold zBh;split<;>simp<;>omega
theorem zOG (A:Option Addr) (n c:Nat) (L:List Fg) (re lo:Int) (s:Sg) (w:ZY) (hA:Fgs w A n L) (hv:TOk L) (h1:1<=s.f) (h2:s.f<=(n:Int)) :
  Calls ZX 118 #[frV A n c re lo,sgV s] w fun e w'=>e=.returned (W (bA (zBh L s)))/\ZZ w.heap.size w w':=by
 have eZ:=hv.len h1 (by rw [hA.len];exact h2);obtain ⟨f,l,far,pc⟩:=s;simp only at h1 h2 eZ ⊢;obtain ⟨NM,db⟩:∃NM,nmF L f=NM:=⟨_,rfl⟩
 obtain ⟨SD,jc⟩:∃SD:List UInt8,(if far then [102] else [110])=SD:=⟨_,rfl⟩
 have ti:SD.length<=1:=by rw [<-jc];cases far<;>decide
 have pm:(if far then (⟨#[102]⟩:ByteArray) else ⟨#[110]⟩)=bA SD:=by rw [<-jc];cases far<;>rfl
 obtain ⟨T1,cF⟩:∃T,NM++SD=T:=⟨_,rfl⟩
 rw [db] at eZ;have s1:=zAl cF _ _ rfl rfl (by omega) (by omega);have HR:=qH (show bA T1=bA (zBh L ⟨f,l,far,pc⟩) by rw [<-cF,<-db,<-jc];rfl);have gR:=qH db;have rg:=qH pm;have pR:=qH (show 1<=f/\f<=(n:Int) from ⟨h1,h2⟩);have HA:=qH hA;have HB:=qH (M w.heap.size w);clear db jc eZ ti h1 h2 pm hA cF;go_enter Tryz.func118,Tryz.ntmps118;have hba:ZZ w.heap.size w ((w.alloc (.cells #[H A n c,D J re,D J lo] 24)).alloc (.cells #[D J f,D J l,G far,D J pc] 29)):=((M _ _).alloc (O _) _).alloc (by simp) _;replace HA:=qH (HA.out.below hba);replace HB:=qH (zAa HB.out hba HB.out.size);have kf:=(Blk.new w 24 #[H A n c,D J re,D J lo]).alloc (.cells #[D J f,D J l,G far,D J pc] 29);have ks:Blk ((w.alloc (.cells #[H A n c,D J re,D J lo] 24)).alloc (.cells #[D J f,D J l,G far,D J pc] 29)) (w.heap.size+1) 29 #[D J f,D J l,G far,D J pc]:=heap_alloc2_new w _ _;clear hba;go_upto_region 1 with fail
 generalize (w.alloc (.cells #[H A n c,D J re,D J lo] 24)).alloc (.cells #[D J f,D J l,G far,D J pc] 29)=X at HA HB kf ks ⊢;have k0:∀wx,ZZ X.heap.size X wx->(ZZ X.heap.size X wx/\wx.cell? ⟨w.heap.size,0,U⟩=Z (H A n c)/\wx.cell? ⟨w.heap.size,1,U⟩=Z (D J re)/\wx.cell? ⟨w.heap.size,2,U⟩=Z (D J lo)/\wx.cell? ⟨w.heap.size+1,0,U⟩=Z (D J f)/\wx.cell? ⟨w.heap.size+1,2,U⟩=Z (G far)):=fun wx h=>⟨h,((kf.below h kf.lt).cell 0).trans rfl,((kf.below h kf.lt).cell 1).trans rfl,((kf.below h kf.lt).cell 2).trans rfl,((ks.below h ks.lt).cell 0).trans rfl,((ks.below h ks.lt).cell 2).trans rfl⟩
 have KP:=qH k0;clear k0
 first
  | go_region_held3 (fun wx=>ZZ X.heap.size X wx/\wx.cell? ⟨w.heap.size,0,U⟩=Z (H A n c)/\wx.cell? ⟨w.heap.size,1,U⟩=Z (D J re)/\wx.cell? ⟨w.heap.size,2,U⟩=Z (D J lo)/\wx.cell? ⟨w.heap.size+1,0,U⟩=Z (D J f)/\wx.cell? ⟨w.heap.size+1,2,U⟩=Z (G far)) (first | assumption | exact KP.out _ (M _ _).drew | exact KP.out _ (zAa (And.left (by assumption)) (by assumption) (Below.size (And.left (by assumption)))))
    (first
     | (go_at_call 63;refine (zCP gR.out _ (HA.out.below (And.left (by assumption))) hv pR.out.1 pR.out.2).mono ?_;rintro e wa ⟨rfl,hba⟩)
     | (go_at_call 64;refine (zDi rg.out _).mono ?_;rintro e wc ⟨rfl,rfl⟩))
  | fail
 all_goals
  have hbf:=And.left (show ZZ X.heap.size X _/\_ by assumption);go_wp2_with fail
  go_ret;exact ⟨zCp HR.out,zAa HB.out hbf HB.out.size⟩
theorem zGX {A:Option Addr} {n c:Nat} {L:List Fg} {re lo:Int} {s:Sg} {S:List UInt8} (h:zBh L s=S) (w:ZY) (hA:Fgs w A n L) (hv:TOk L) (h1:1<=s.f) (h2:s.f<=(n:Int)) :
  Calls ZX 118 #[frV A n c re lo,sgV s] w fun e w'=>e=.returned (W (bA S))/\ZZ w.heap.size w w':=by
 subst h;exact zOG A n c L re lo s w hA hv h1 h2
theorem zRd (A:Option Addr) (n c:Nat) (L:List Fg) (re lo:Int) (o:Og) (B:Option Addr) (m d:Nat) (w:ZY) (hA:Fgs w A n L) (hv:TOk L) (hO:OpIn w o B m d) (hr:zAf n o=Q) (hm:m<=10000) :
  Calls ZX 71 #[frV A n c re lo,opV o B m d] w fun e w'=>e=.returned (W (bA (zAZ L o)))/\ZZ w.heap.size w w':=by
 obtain ⟨h1,h8,dj,bt,hpn,hfrn⟩:=zAS hr;have hlen:=hO.path.len;have eZ:=hv.len dj (by rw [hA.len];exact bt);have hP:Stps w B m o.path:=hO.path;have iQ:zAZ L o=nmF L o.f++zCU o.kind++zBu L o:=rfl;have hnl:=hA.len;obtain ⟨kind,f,⟨ff,fl,ffar,fpc⟩,path,over⟩:=o;simp only at h1 h8 dj bt hpn hfrn hlen eZ hP iQ ⊢;obtain ⟨NM,db⟩:∃T,nmF L f=T:=⟨_,rfl⟩
 obtain ⟨OV,gZ⟩:∃T,zAt over=T:=⟨_,rfl⟩
 have n8:OV.length<=1:=by rw [<-gZ];cases over<;>decide
 have pm:(if over then (⟨#[111]⟩:ByteArray) else ⟨#[117]⟩)=bA OV:=by rw [<-gZ];cases over<;>rfl
 rw [db] at eZ iQ;have fP:=qH iQ;have gR:=qH db;have bJ:=qH gZ;have rg:=qH pm;have gL:=qH (show 1<=f/\f<=(n:Int) from ⟨dj,bt⟩);have fY:=qH hpn;have fW:=qH hfrn;have aL:=qH hlen;have dZ:=qH hnl;have HK:=qH (show 1<=kind/\kind<=8 from ⟨h1,h8⟩);have HA:=qH hA;have HP:=qH hP;have HB:=qH (M w.heap.size w);clear iQ db gZ pm dj bt hpn hfrn hlen hnl h1 h8 hA hP hO hr;go_enter Tryz.func71,Tryz.ntmps71;have hba:ZZ w.heap.size w ((w.alloc (.cells #[H A n c,D J re,D J lo] 24)).alloc (.cells #[D J kind,D J f,D J ff,D J fl,G ffar,D J fpc,H B m d,G over] 32)):=((M _ _).alloc (O _) _).alloc (by simp) _;replace HA:=qH (HA.out.below hba);replace HP:=qH (HP.out.below hba);replace HB:=qH (zAa HB.out hba HB.out.size);have kf:=(Blk.new w 24 #[H A n c,D J re,D J lo]).alloc (.cells #[D J kind,D J f,D J ff,D J fl,G ffar,D J fpc,H B m d,G over] 32);have ks:Blk ((w.alloc (.cells #[H A n c,D J re,D J lo] 24)).alloc (.cells #[D J kind,D J f,D J ff,D J fl,G ffar,D J fpc,H B m d,G over] 32)) (w.heap.size+1) 32 #[D J kind,D J f,D J ff,D J fl,G ffar,D J fpc,H B m d,G over]:=heap_alloc2_new w _ _;clear hba;go_upto_region 1 with fail
 generalize (w.alloc (.cells #[H A n c,D J re,D J lo] 24)).alloc (.cells #[D J kind,D J f,D J ff,D J fl,G ffar,D J fpc,H B m d,G over] 32)=X at HA HP HB kf ks ⊢;obtain ⟨a0,a1,a2⟩:=cQ3 kf;have e1:X.cell? ⟨w.heap.size+1,1,U⟩=Z (D J f):=(ks.cell 1).trans rfl;go_wp2_with fail
 refine (zCP gR.out _ HA.out hv gL.out.1 gL.out.2).mono ?_;rintro e u1 ⟨rfl,hb⟩;clear a0 a1 a2 e1;replace HA:=qH (HA.out.below hb);replace HP:=qH (HP.out.below hb);replace HB:=qH (zAa HB.out hb HB.out.size);replace kf:=kf.below hb kf.lt;replace ks:=ks.below hb ks.lt;clear hb;have e7:u1.cell? ⟨w.heap.size+1,7,U⟩=Z (G over):=(ks.cell 7).trans rfl;go_wp2_with fail
 refine (zDi rg.out _).mono ?_;rintro e u2 ⟨rfl,rfl⟩;clear e7;clear rg gR;have hk:(kind=1∨kind=2∨kind=8)∨kind=4∨kind=5∨(kind=6∨kind=7)∨kind=3:=by have:=HK.out;omega
 clear HK;rcases hk with hk | rfl | rfl | hk | rfl
 ·rcases hk with rfl | rfl | rfl
  ·skip;obtain ⟨Q1,bI⟩:∃T,NM++[45]=T:=⟨_,rfl⟩
   have gU:Q1.length<=44:=by rw [<-bI];simp;omega
   have pS:=zAl bI _ ⟨#[45]⟩ rfl rfl (by omega) (by simp);have HR:=qH (show bA Q1=bA (zAZ L ⟨1,f,⟨ff,fl,ffar,fpc⟩,path,over⟩) by rw [fP.out,<-bI];simp [zBu,zCU]);clear bI gU;have e0:u2.cell? ⟨w.heap.size+1,0,U⟩=Z (D J 1):=(ks.cell 0).trans rfl;go_wp2_with fail
   go_ret;exact ⟨zCp HR.out,HB.out⟩
  ·skip;obtain ⟨Q1,bI⟩:∃T,NM++[94]=T:=⟨_,rfl⟩
   have gU:Q1.length<=44:=by rw [<-bI];simp;omega
   have pS:=zAl bI _ ⟨#[94]⟩ rfl rfl (by omega) (by simp);have HR:=qH (show bA Q1=bA (zAZ L ⟨2,f,⟨ff,fl,ffar,fpc⟩,path,over⟩) by rw [fP.out,<-bI];simp [zBu,zCU]);clear bI gU;have e0:u2.cell? ⟨w.heap.size+1,0,U⟩=Z (D J 2):=(ks.cell 0).trans rfl;go_wp2_with fail
   go_ret;exact ⟨zCp HR.out,HB.out⟩
  ·skip;obtain ⟨Q1,bI⟩:∃T,NM++[33]=T:=⟨_,rfl⟩
   have gU:Q1.length<=44:=by rw [<-bI];simp;omega
   have pS:=zAl bI _ ⟨#[33]⟩ rfl rfl (by omega) (by simp);have HR:=qH (show bA Q1=bA (zAZ L ⟨8,f,⟨ff,fl,ffar,fpc⟩,path,over⟩) by rw [fP.out,<-bI];simp [zBu,zCU]);clear bI gU;have e0:u2.cell? ⟨w.heap.size+1,0,U⟩=Z (D J 8):=(ks.cell 0).trans rfl;go_wp2_with fail
   go_ret;exact ⟨zCp HR.out,HB.out⟩
 ·skip;obtain ⟨Q1,bI⟩:∃T,NM++[126]=T:=⟨_,rfl⟩
  have gU:Q1.length<=44:=by rw [<-bI];simp;omega
  have pS:=zAl bI _ ⟨#[126]⟩ rfl rfl (by omega) (by simp);obtain ⟨Q2,cm⟩:∃T,Q1++OV=T:=⟨_,rfl⟩
  have kI:Q2.length<=45:=by rw [<-cm];simp;omega
  have ud:=zAl cm _ _ rfl rfl (by omega) (by omega);have HR:=qH (show bA Q2=bA (zAZ L ⟨4,f,⟨ff,fl,ffar,fpc⟩,path,over⟩) by rw [fP.out,<-cm,<-bI,<-bJ.out];simp [zBu,zCU]);clear bI cm gU kI;have e0:u2.cell? ⟨w.heap.size+1,0,U⟩=Z (D J 4):=(ks.cell 0).trans rfl;go_wp2_with fail
  go_ret;exact ⟨zCp HR.out,HB.out⟩
 ·have hnf:=zAh.1 (fW.out (by omega));simp only at hnf;have cU:=zGl hv (s:=⟨ff,fl,ffar,fpc⟩) hnf.1 (by rw [dZ.out];exact hnf.2.1);obtain ⟨PL,bT⟩:∃T,zBh L ⟨ff,fl,ffar,fpc⟩=T:=⟨_,rfl⟩
  rw [bT] at cU;obtain ⟨Q1,bI⟩:∃T,NM++[61]=T:=⟨_,rfl⟩
  have gU:Q1.length<=44:=by rw [<-bI];simp;omega
  have pS:=zAl bI _ ⟨#[61]⟩ rfl rfl (by omega) (by simp);obtain ⟨Q2,cm⟩:∃T,Q1++PL=T:=⟨_,rfl⟩
  have kI:Q2.length<=88:=by rw [<-cm];simp;omega
  have ud:=zAl cm _ _ rfl rfl (by omega) (by omega);obtain ⟨Q3,cv⟩:∃T,Q2++OV=T:=⟨_,rfl⟩
  have xw:=zAl cv _ _ rfl rfl (by omega) (by omega);have HR:=qH (show bA Q3=bA (zAZ L ⟨5,f,⟨ff,fl,ffar,fpc⟩,path,over⟩) by rw [fP.out,<-cv,<-cm,<-bI,<-bJ.out,<-bT];simp [zBu,zCU]);have cc:=qH bT;have dd:=qH (show 1<=ff/\ff<=(n:Int) from ⟨hnf.1,hnf.2.1⟩);clear bI cm cv gU kI bT hnf cU;obtain ⟨a0,a1,a2⟩:=cQ3 kf;obtain ⟨e0,-,e2,e3,e4,e5⟩:=cQ6 ks;go_wp2_with fail
  refine (zGX cc.out _ HA.out hv dd.out.1 dd.out.2).mono ?_;rintro e u3 ⟨rfl,hb⟩;clear a0 a1 a2 e0 e2 e3 e4 e5;replace HA:=qH (HA.out.below hb);replace HP:=qH (HP.out.below hb);replace HB:=qH (zAa HB.out hb HB.out.size);replace kf:=kf.below hb kf.lt;replace ks:=ks.below hb ks.lt;clear hb;go_wp2_with fail
  go_ret;exact ⟨zCp HR.out,HB.out⟩
 ·have hnf:=fW.out (by omega);have eY:=zAh.1 hnf;simp only at eY;have cU:=hv.len (f:=ff) (by omega) (by rw [dZ.out];omega);obtain ⟨PL,bT⟩:∃T,nmF L ff=T:=⟨_,rfl⟩
  rw [bT] at cU;have cc:=qH bT;have dd:=qH (show 1<=ff/\ff<=(n:Int) from ⟨eY.1,eY.2.1⟩);clear hnf eY;rcases hk with rfl | rfl
  ·skip;obtain ⟨Q1,bI⟩:∃T,NM++[42]=T:=⟨_,rfl⟩
   have gU:Q1.length<=44:=by rw [<-bI];simp;omega
   have pS:=zAl bI _ ⟨#[42]⟩ rfl rfl (by omega) (by simp);obtain ⟨Q2,cm⟩:∃T,Q1++PL=T:=⟨_,rfl⟩
   have kI:Q2.length<=87:=by rw [<-cm];simp;omega
   have ud:=zAl cm _ _ rfl rfl (by omega) (by omega);obtain ⟨Q3,cv⟩:∃T,Q2++OV=T:=⟨_,rfl⟩
   have xw:=zAl cv _ _ rfl rfl (by omega) (by omega);have HR:=qH (show bA Q3=bA (zAZ L ⟨6,f,⟨ff,fl,ffar,fpc⟩,path,over⟩) by rw [fP.out,<-cv,<-cm,<-bI,<-bJ.out,<-bT];simp [zBu,zCU]);clear bI cm cv gU kI bT cU;obtain ⟨a0,a1,a2⟩:=cQ3 kf;obtain ⟨e0,-,e2⟩:=cQ3 ks;go_wp2_with fail
   refine (zCP cc.out _ HA.out hv dd.out.1 dd.out.2).mono ?_;rintro e u3 ⟨rfl,hb⟩;clear a0 a1 a2 e0 e2;replace HA:=qH (HA.out.below hb);replace HP:=qH (HP.out.below hb);replace HB:=qH (zAa HB.out hb HB.out.size);replace kf:=kf.below hb kf.lt;replace ks:=ks.below hb ks.lt;clear hb;go_wp2_with fail
   go_ret;exact ⟨zCp HR.out,HB.out⟩
  ·skip;obtain ⟨Q1,bI⟩:∃T,NM++[37]=T:=⟨_,rfl⟩
   have gU:Q1.length<=44:=by rw [<-bI];simp;omega
   have pS:=zAl bI _ ⟨#[37]⟩ rfl rfl (by omega) (by simp);obtain ⟨Q2,cm⟩:∃T,Q1++PL=T:=⟨_,rfl⟩
   have kI:Q2.length<=87:=by rw [<-cm];simp;omega
   have ud:=zAl cm _ _ rfl rfl (by omega) (by omega);obtain ⟨Q3,cv⟩:∃T,Q2++OV=T:=⟨_,rfl⟩
   have xw:=zAl cv _ _ rfl rfl (by omega) (by omega);have HR:=qH (show bA Q3=bA (zAZ L ⟨7,f,⟨ff,fl,ffar,fpc⟩,path,over⟩) by rw [fP.out,<-cv,<-cm,<-bI,<-bJ.out,<-bT];simp [zBu,zCU]);clear bI cm cv gU kI bT cU;obtain ⟨a0,a1,a2⟩:=cQ3 kf;obtain ⟨e0,-,e2⟩:=cQ3 ks;go_wp2_with fail
   refine (zCP cc.out _ HA.out hv dd.out.1 dd.out.2).mono ?_;rintro e u3 ⟨rfl,hb⟩;clear a0 a1 a2 e0 e2;replace HA:=qH (HA.out.below hb);replace HP:=qH (HP.out.below hb);replace HB:=qH (zAa HB.out hb HB.out.size);replace kf:=kf.below hb kf.lt;replace ks:=ks.below hb ks.lt;clear hb;go_wp2_with fail
   go_ret;exact ⟨zCp HR.out,HB.out⟩
 ·have hnf:=zAh.1 (fW.out (by omega));simp only at hnf;have cU:=zGl hv (s:=⟨ff,fl,ffar,fpc⟩) hnf.1 (by rw [dZ.out];exact hnf.2.1);obtain ⟨PL,bT⟩:∃T,zBh L ⟨ff,fl,ffar,fpc⟩=T:=⟨_,rfl⟩
  obtain ⟨G1,iR⟩:∃T,NM++[60]=T:=⟨_,rfl⟩
  rw [bT] at cU;have mG:G1.length<=44:=by rw [<-iR];simp;omega
  have t1:=zAl iR _ ⟨#[60]⟩ rfl rfl (by omega) (by simp);have cc:=qH bT;have dd:=qH (show 1<=ff/\ff<=(n:Int) from ⟨hnf.1,hnf.2.1⟩);have HG:=qH iR;have lB:=qH cU;have hstart:Hid (G1=G1++zBD L path 0):=qH (by simp [zBD]);clear bT hnf fW iR cU;have e0:u2.cell? ⟨w.heap.size+1,0,U⟩=Z (D J 3):=(ks.cell 0).trans rfl;go_wp2_with fail
  clear e0;go_loopw [7,8] (fun v7 v8 wr=>∃(i:Nat) (T:List UInt8),i<=m/\v8=D J i/\v7=W (bA T)/\ZZ u2.heap.size u2 wr/\Hid (T=G1++zBD L path i)/\T.length<=44+i*50) (fun _ v8 _=>m-(intOf v8).toNat)
  case atStart=>exact ⟨0,G1,Nat.zero_le _,rfl,rfl,M _ _,hstart,by omega⟩
  case round =>
   obtain ⟨i,T,hi,rfl,rfl,hbr,cQ,jM⟩:=hrel;have nt:=qH hbr;replace HA:=qH (HA.out.below hbr);replace HP:=qH (HP.out.below hbr);replace HB:=qH (zAa HB.out hbr HB.out.size);replace kf:=kf.below hbr kf.lt;replace ks:=ks.below hbr ks.lt;clear hbr hstart;by_cases hlt:i < m
   ·have j0:(0:Int)<=(i:Int):=by omega
    have j1:(i:Int) < (m:Int):=by omega
    obtain ⟨g,p,rfl,hg,⟨x0,x1,x2,x3,x4⟩,_⟩:=HP.out.at_ hlt;have hil:i < path.length:=by rw [aL.out];exact hlt
    have hsn:zBD L path (i+1)=zBD L path i++(if 0 < i then [44] else [])++zGr L (pa path i):=rfl;have hnm:=zAh.1 (fY.out _ (List.mem_of_getElem? (zCm hil)));generalize pa path i=x at x0 x1 x2 x3 x4 hsn hnm;obtain ⟨⟨xf,xl,xfar,xpc⟩,xo⟩:=x;simp only at x0 x1 x2 x3 x4 hnm;have kS:=zGl hv (s:=⟨xf,xl,xfar,xpc⟩) hnm.1 (by rw [dZ.out];exact hnm.2.1);have hst:zGr L ⟨⟨xf,xl,xfar,xpc⟩,xo⟩=zBh L ⟨xf,xl,xfar,xpc⟩++zAt xo:=rfl;obtain ⟨PX,iM⟩:∃T,zBh L ⟨xf,xl,xfar,xpc⟩=T:=⟨_,rfl⟩
    obtain ⟨OX,iN⟩:∃T,zAt xo=T:=⟨_,rfl⟩
    have qt:OX.length<=1:=by rw [<-iN];cases xo<;>decide
    have yM:(if xo then (⟨#[111]⟩:ByteArray) else ⟨#[117]⟩)=bA OX:=by rw [<-iN];cases xo<;>rfl
    obtain ⟨Y0,m8⟩:∃ZS,T++(if 0 < i then [44] else [])=ZS:=⟨_,rfl⟩
    obtain ⟨Y1,e9⟩:∃ZS,Y0++PX=ZS:=⟨_,rfl⟩
    obtain ⟨Y2,mY⟩:∃ZS,Y1++OX=ZS:=⟨_,rfl⟩
    rw [iM] at kS;have y0:Y0.length<=44+i*50+1:=by rw [<-m8];split<;>simp<;>omega
    have y1:Y1.length<=44+i*50+45:=by rw [<-e9];simp;omega
    have y2:Y2.length<=44+(i+1)*50:=by rw [<-mY];simp;omega
    have r1:=zAl e9 _ _ rfl rfl (by omega) (by omega);have r2:=zAl mY _ _ rfl rfl (by omega) (by omega);have gK:=qH (show Y2=G1++zBD L path (i+1) by rw [hsn,hst,iM,iN,<-mY,<-e9,<-m8,cQ.out];simp);have lA:=qH iM;have DZ:=qH yM;have gQ:=qH (show 1<=xf/\xf<=(n:Int) from ⟨hnm.1,hnm.2.1⟩);have HX:=qH (show g < wr.heap.size/\wr.cell? ⟨g,p+i*5,U⟩=Z (D J xf)/\wr.cell? ⟨g,p+i*5+1,U⟩=Z (D J xl)/\wr.cell? ⟨g,p+i*5+2,U⟩=Z (G xfar)/\wr.cell? ⟨g,p+i*5+3,U⟩=Z (D J xpc)/\wr.cell? ⟨g,p+i*5+4,U⟩=Z (G xo) from ⟨hg,x0,x1,x2,x3,x4⟩);have nF:i+1<=m:=hlt;have c6:wr.cell? ⟨w.heap.size+1,6,U⟩=Z (H (Z ⟨g,p,U⟩) m d):=(ks.cell 6).trans rfl;have qV:=qH m8;clear hsn hst iM iN m8 e9 mY y0 y1 kS qt hil cQ hnm yM x0 x1 x2 x3 x4 hg;go_upto_if 81 with fail
    clear c6;go_cut [7] (fun v7 wv=>v7=W (bA Y0)/\∃V:ZY,V=wv/\ZZ wr.heap.size wr V)
    case first =>
     by_cases h0:0 < i
     ·have k1:decide ((0:Int) < (i:Int))=Q:=by simp;omega
      have hy:T++[44]=Y0:=by have:=qV.out;rwa [qP h0] at this
      have r0:=zAl hy _ ⟨#[44]⟩ rfl rfl (by omega) (by simp);clear hy;go_wp2_with fail
      go_meet
      case rel=>exact ⟨rfl,_,rfl,M _ _⟩
     ·have k1:decide ((0:Int) < (i:Int))=E:=by simp;omega
      have hy:Hid (T=Y0):=qH (by have:=qV.out;rwa [qN h0,List.append_nil] at this);go_wp2_with fail
      go_meet
      case rel=>exact ⟨by rw [hy.out],_,rfl,M _ _⟩
    case rest =>
     obtain ⟨rfl,V,hV,hb⟩:=hcut;subst hV;have it:=qH (zAa nt.out hb nt.out.size);have HX:=qH (show g < V.heap.size/\V.cell? ⟨g,p+i*5,U⟩=Z (D J xf)/\V.cell? ⟨g,p+i*5+1,U⟩=Z (D J xl)/\V.cell? ⟨g,p+i*5+2,U⟩=Z (G xfar)/\V.cell? ⟨g,p+i*5+3,U⟩=Z (D J xpc)/\V.cell? ⟨g,p+i*5+4,U⟩=Z (G xo) from ⟨Nat.lt_of_lt_of_le HX.out.1 hb.size,(hb.cell (p:=⟨g,p+i*5,U⟩) HX.out.1).trans HX.out.2.1,(hb.cell (p:=⟨g,p+i*5+1,U⟩) HX.out.1).trans HX.out.2.2.1,(hb.cell (p:=⟨g,p+i*5+2,U⟩) HX.out.1).trans HX.out.2.2.2.1,(hb.cell (p:=⟨g,p+i*5+3,U⟩) HX.out.1).trans HX.out.2.2.2.2.1,(hb.cell (p:=⟨g,p+i*5+4,U⟩) HX.out.1).trans HX.out.2.2.2.2.2⟩);replace HA:=qH (HA.out.below hb);replace HP:=qH (HP.out.below hb);replace HB:=qH (zAa HB.out hb HB.out.size);replace kf:=kf.below hb kf.lt;replace ks:=ks.below hb ks.lt;clear hb;go_upto_region 24 with fail
     have k0:∀wx,ZZ V.heap.size V wx->(ZZ V.heap.size V wx/\wx.cell? ⟨w.heap.size,0,U⟩=Z (H A n c)/\wx.cell? ⟨w.heap.size,1,U⟩=Z (D J re)/\wx.cell? ⟨w.heap.size,2,U⟩=Z (D J lo)/\wx.cell? ⟨w.heap.size+1,6,U⟩=Z (H (Z ⟨g,p,U⟩) m d)/\wx.cell? ⟨g,p+i*5,U⟩=Z (D J xf)/\wx.cell? ⟨g,p+i*5+1,U⟩=Z (D J xl)/\wx.cell? ⟨g,p+i*5+2,U⟩=Z (G xfar)/\wx.cell? ⟨g,p+i*5+3,U⟩=Z (D J xpc)/\wx.cell? ⟨g,p+i*5+4,U⟩=Z (G xo)):=fun wx h=>⟨h,((kf.below h kf.lt).cell 0).trans rfl,((kf.below h kf.lt).cell 1).trans rfl,((kf.below h kf.lt).cell 2).trans rfl,((ks.below h ks.lt).cell 6).trans rfl,(h.cell (p:=⟨g,p+i*5,U⟩) HX.out.1).trans HX.out.2.1,(h.cell (p:=⟨g,p+i*5+1,U⟩) HX.out.1).trans HX.out.2.2.1,(h.cell (p:=⟨g,p+i*5+2,U⟩) HX.out.1).trans HX.out.2.2.2.1,(h.cell (p:=⟨g,p+i*5+3,U⟩) HX.out.1).trans HX.out.2.2.2.2.1,(h.cell (p:=⟨g,p+i*5+4,U⟩) HX.out.1).trans HX.out.2.2.2.2.2⟩
     have KP:=qH k0;clear k0
     first
      | go_region_held3 (fun wx=>ZZ V.heap.size V wx/\wx.cell? ⟨w.heap.size,0,U⟩=Z (H A n c)/\wx.cell? ⟨w.heap.size,1,U⟩=Z (D J re)/\wx.cell? ⟨w.heap.size,2,U⟩=Z (D J lo)/\wx.cell? ⟨w.heap.size+1,6,U⟩=Z (H (Z ⟨g,p,U⟩) m d)/\wx.cell? ⟨g,p+i*5,U⟩=Z (D J xf)/\wx.cell? ⟨g,p+i*5+1,U⟩=Z (D J xl)/\wx.cell? ⟨g,p+i*5+2,U⟩=Z (G xfar)/\wx.cell? ⟨g,p+i*5+3,U⟩=Z (D J xpc)/\wx.cell? ⟨g,p+i*5+4,U⟩=Z (G xo)) (first | assumption | exact KP.out _ (M _ _).drew | exact KP.out _ (zAa (And.left (by assumption)) (by assumption) (Below.size (And.left (by assumption)))))
        (first
         | (go_at_call 118;refine (zGX lA.out _ (HA.out.below (And.left (by assumption))) hv gQ.out.1 gQ.out.2).mono ?_;rintro e wd ⟨rfl,hbd⟩)
         | (go_at_call 64;refine (zDi DZ.out _).mono ?_;rintro e we ⟨rfl,rfl⟩))
      | fail
     all_goals
      have hbf:=And.left (show ZZ V.heap.size V _/\_ by assumption);have ai:=zAa it.out hbf it.out.size;go_wp2_with fail
      go_roundw
      case rel=>exact ⟨i+1,Y2,nF,by go_num,rfl,ai,gK,y2⟩
      case measure=>simp [intOf];omega
   ·have hin:i=m:=by omega
    have j1:¬(i:Int) < (m:Int):=by omega
    have cU:=lB.out;have hpe:Hid (path=[]↔m=0):=qH (by rw [<-aL.out];exact List.length_eq_zero_iff.symm);by_cases h0:0 < m
    ·have k1:(0:Int) < (m:Int):=by omega
     obtain ⟨Z1,mX⟩:∃ZS,T++[60]=ZS:=⟨_,rfl⟩
     obtain ⟨Z2,iL⟩:∃ZS,Z1++PL=ZS:=⟨_,rfl⟩
     have z1:Z1.length<=44+i*50+1:=by rw [<-mX];simp;omega
     have r1:=zAl mX _ ⟨#[60]⟩ rfl rfl (by omega) (by simp);have r2:=zAl iL _ _ rfl rfl (by omega) (by omega)
     have HR:=qH (show bA Z2=bA (zAZ L ⟨3,f,⟨ff,fl,ffar,fpc⟩,path,over⟩) by
      have hne:path≠[]:=fun e=>by have:=hpe.out.1 e;omega
      rw [fP.out,<-iL,<-mX,cQ.out,<-HG.out,<-cc.out,hin,<-aL.out];simp [zBu,zCU,hne])
     clear hin mX iL cQ z1 cU jM hpe h0;obtain ⟨a0,a1,a2⟩:=cQ3 kf;obtain ⟨-,-,e2,e3,e4,e5,e6,-⟩:=cQ8 ks;go_wp2_with fail
     refine (zGX cc.out _ HA.out hv dd.out.1 dd.out.2).mono ?_;rintro e u4 ⟨rfl,hb⟩;clear a0 a1 a2 e2 e3 e4 e5 e6;replace HA:=qH (HA.out.below hb);replace HP:=qH (HP.out.below hb);replace HB:=qH (zAa HB.out hb HB.out.size);replace kf:=kf.below hb kf.lt;replace ks:=ks.below hb ks.lt;clear hb;go_wp2_with fail
     go_ret;exact ⟨zCp HR.out,HB.out⟩
    ·have k1:¬(0:Int) < (m:Int):=by omega
     obtain ⟨Z2,iL⟩:∃ZS,T++PL=ZS:=⟨_,rfl⟩
     have r2:=zAl iL _ _ rfl rfl (by omega) (by omega)
     have HR:=qH (show bA Z2=bA (zAZ L ⟨3,f,⟨ff,fl,ffar,fpc⟩,path,over⟩) by
      have hne:path=[]:=hpe.out.2 (by omega)
      rw [fP.out,<-iL,cQ.out,<-HG.out,<-cc.out,hin,<-aL.out];simp [zBu,zCU,hne])
     clear hin iL cQ cU jM hpe h0;obtain ⟨a0,a1,a2⟩:=cQ3 kf;obtain ⟨-,-,e2,e3,e4,e5,e6,-⟩:=cQ8 ks;go_wp2_with fail
     refine (zGX cc.out _ HA.out hv dd.out.1 dd.out.2).mono ?_;rintro e u4 ⟨rfl,hb⟩;clear a0 a1 a2 e2 e3 e4 e5 e6;replace HA:=qH (HA.out.below hb);replace HP:=qH (HP.out.below hb);replace HB:=qH (zAa HB.out hb HB.out.size);replace kf:=kf.below hb kf.lt;replace ks:=ks.below hb ks.lt;clear hb;go_wp2_with fail
     go_ret;exact ⟨zCp HR.out,HB.out⟩
theorem zRe {A:Option Addr} {n c:Nat} {L:List Fg} {re lo:Int} {o:Og} {S:List UInt8} (h:zAZ L o=S) (B:Option Addr) (m d:Nat) (w:ZY) (hA:Fgs w A n L) (hv:TOk L) (hO:OpIn w o B m d) (hr:zAf n o=Q) (hm:m<=10000) :
  Calls ZX 71 #[frV A n c re lo,opV o B m d] w fun e w'=>e=.returned (W (bA S))/\ZZ w.heap.size w w':=by
 subst h;exact zRd A n c L re lo o B m d w hA hv hO hr hm
theorem zOH (sep y:List UInt8):∀xs:List (List UInt8),Lib.join (xs++[y]) sep=if xs=[] then y else Lib.join xs sep++sep++y
 | []=>by simp [Lib.join_one]
 | x :: xs=>by
  rw [List.cons_append,Lib.join_cons,Lib.join_cons,qN (by simp)];simp [Lib.joinTail]
def zJU (L:List Fg) (Es:List Oe) (i:Nat):List UInt8:=Lib.join (((ogs Es).take i).map (zAZ L)) [32]
theorem zOI (L:List Fg) {Es:List Oe} {i:Nat} (h:i < Es.length):zJU L Es (i+1)=zJU L Es i++(if 0 < i then [32] else [])++zAZ L (oa Es i).o:=by
 unfold zJU;have hx:(ogs Es)[i]? = Z (oa Es i).o:=by unfold ogs;rw [List.getElem?_map,zBC h];rfl
 rw [List.take_add_one,hx,List.map_append];simp only [Option.toList_some,List.map_cons,List.map_nil];rw [zOH];have hl:((ogs Es).take i).map (zAZ L)=[]↔i=0:=by
  rw [<-List.length_eq_zero_iff,List.length_map,List.length_take];unfold ogs;rw [List.length_map];omega
 by_cases h0:i=0
 ·subst h0;simp [Lib.join_nil]
 ·rw [qN (fun e=>h0 (hl.1 e)),qP (by omega)]
theorem zRf (L:List Fg) (Es:List Oe):zJU L Es Es.length=zCV L (ogs Es):=by
 unfold zJU zCV;rw [List.take_of_length_le (by unfold ogs;simp)]
theorem zOJ (A:Option Addr) (n c:Nat) (L:List Fg) (re lo:Int) (B:Option Addr) (m d:Nat) (Es:List Oe) (w:ZY) (hA:Fgs w A n L) (hv:frOk L re lo) (hO:Oprs w B m Es) (hr:∀e∈Es,zAf L.length e.o=Q) (hm:m<=2100) (hf:∀e∈Es,e.n<=4000) :
  Calls ZX 30 #[frV A n c re lo,H B m d] w fun e w'=>e=.returned (W (bA (zCV L (ogs Es))))/\ZZ w.heap.size w w':=by
 have HA:=qH hA;have HO:=qH hO;have HB:=qH (M w.heap.size w);have bo:=qH hO.len;have dZ:=qH hA.len;have HR:=qH hr;have HF:=qH hf;have ol:=qH hv.tok;have hstart:Hid ([]=zJU L Es 0):=qH (by simp [zJU,Lib.join_nil]);clear hA hO hr hf;go_enter Tryz.func30,Tryz.ntmps30;have hba:=(M w.heap.size w).alloc (O _) (.cells #[H A n c,D J re,D J lo] 24);replace HA:=qH (HA.out.below hba);replace HO:=qH (HO.out.below hba);replace HB:=qH (zAa HB.out hba HB.out.size);have kf:=Blk.new w 24 #[H A n c,D J re,D J lo];clear hba;go_upto_region 1 with fail
 generalize w.alloc (.cells #[H A n c,D J re,D J lo] 24)=X at HA HO HB kf ⊢;go_wp2_with fail
 go_loopw [5,6] (fun v5 v6 wr=>∃(i:Nat) (T:List UInt8),i<=m/\v6=D J i/\v5=W (bA T)/\ZZ X.heap.size X wr/\Hid (T=zJU L Es i)/\T.length<=i*200202) (fun _ v6 _=>m-(intOf v6).toNat)
 case atStart=>exact ⟨0,[],Nat.zero_le _,rfl,rfl,M _ _,hstart,by simp⟩
 case round =>
  obtain ⟨i,T,hi,rfl,rfl,hbr,cQ,jM⟩:=hrel;have nt:=qH hbr;replace HA:=qH (HA.out.below hbr);replace HO:=qH (HO.out.below hbr);replace HB:=qH (zAa HB.out hbr HB.out.size);replace kf:=kf.below hbr kf.lt;clear hbr hstart;by_cases hlt:i < m
  ·have j0:(0:Int)<=(i:Int):=by omega
   have j1:(i:Int) < (m:Int):=by omega
   have hil:i < Es.length:=by rw [bo.out];exact hlt
   have hsn:=zOI L hil;have hme:oa Es i∈Es:=List.mem_of_getElem? (zBC hil);have hri:=HR.out _ hme;have hen:=HF.out _ hme;have hpl:=(HO.out.2 _ hme).path.len;have yK:=zKz hv hri;obtain ⟨IT,im⟩:∃T,zAZ L (oa Es i).o=T:=⟨_,rfl⟩
   rw [im] at hsn yK;have vn:IT.length<=200200:=by omega
   obtain ⟨Y0,m8⟩:∃ZS,T++(if 0 < i then [32] else [])=ZS:=⟨_,rfl⟩
   obtain ⟨Y1,e9⟩:∃ZS,Y0++IT=ZS:=⟨_,rfl⟩
   have y0:Y0.length<=i*200202+1:=by rw [<-m8,List.length_append];split<;>simp only [List.length_cons,List.length_nil]<;>omega
   have y1:Y1.length<=(i+1)*200202:=by rw [<-e9,List.length_append];omega
   have r1:=zAl e9 _ _ rfl rfl (by omega) (by omega);have gK:=qH (show Y1=zJU L Es (i+1) by rw [hsn,<-e9,<-m8,cQ.out]);have qV:=qH m8;have nF:i+1<=m:=hlt;have nW:=qH (show zAf n (oa Es i).o=Q by rw [<-dZ.out];exact hri);have z7:=qH (show (oa Es i).n<=10000 by omega);have fw:=qH im;clear hsn hme hri hen hpl yK vn im m8 e9 y0 cQ hil;obtain ⟨g,p,rfl,hg,⟨x0,x1,x2,x3,x4,x5,x6,x7⟩,hin⟩:=HO.out.at_ hlt;have ou:=qH hin;generalize hoe:oa Es i=e at x0 x1 x2 x3 x4 x5 x6 x7 ou;have pK:=qH hoe;obtain ⟨⟨kk,ff,⟨gf,gl,gfar,gpc⟩,gp,go⟩,eA,en,ec⟩:=e;simp only at x0 x1 x2 x3 x4 x5 x6 x7;clear hin hoe;have HX:=qH (show g < wr.heap.size/\wr.cell? ⟨g,p+i*8,U⟩=Z (D J kk)/\wr.cell? ⟨g,p+i*8+1,U⟩=Z (D J ff)/\wr.cell? ⟨g,p+i*8+2,U⟩=Z (D J gf)/\wr.cell? ⟨g,p+i*8+3,U⟩=Z (D J gl)/\wr.cell? ⟨g,p+i*8+4,U⟩=Z (G gfar)/\wr.cell? ⟨g,p+i*8+5,U⟩=Z (D J gpc)/\wr.cell? ⟨g,p+i*8+6,U⟩=Z (H eA en ec)/\wr.cell? ⟨g,p+i*8+7,U⟩=Z (G go) from ⟨hg,x0,x1,x2,x3,x4,x5,x6,x7⟩);clear x0 x1 x2 x3 x4 x5 x6 x7 hg;rw [pK.out] at nW z7 fw;go_upto_if 14 with fail
   go_cut [5] (fun v5 wv=>v5=W (bA Y0)/\∃V:ZY,V=wv/\ZZ wr.heap.size wr V)
   case first =>
    by_cases h0:0 < i
    ·have k1:decide ((0:Int) < (i:Int))=Q:=by simp;omega
     have hy:T++[32]=Y0:=by have:=qV.out;rwa [qP h0] at this
     have r0:=zAl hy _ ⟨#[32]⟩ rfl rfl (by omega) (by simp);clear hy;go_wp2_with fail
     go_meet
     case rel=>exact ⟨rfl,_,rfl,M _ _⟩
    ·have k1:decide ((0:Int) < (i:Int))=E:=by simp;omega
     have hy:Hid (T=Y0):=qH (by have:=qV.out;rwa [qN h0,List.append_nil] at this);go_wp2_with fail
     go_meet
     case rel=>exact ⟨by rw [hy.out],_,rfl,M _ _⟩
   case rest =>
    obtain ⟨rfl,V,hV,hb⟩:=hcut;subst hV;have it:=qH (zAa nt.out hb nt.out.size);have HX:=qH (show g < V.heap.size/\V.cell? ⟨g,p+i*8,U⟩=Z (D J kk)/\V.cell? ⟨g,p+i*8+1,U⟩=Z (D J ff)/\V.cell? ⟨g,p+i*8+2,U⟩=Z (D J gf)/\V.cell? ⟨g,p+i*8+3,U⟩=Z (D J gl)/\V.cell? ⟨g,p+i*8+4,U⟩=Z (G gfar)/\V.cell? ⟨g,p+i*8+5,U⟩=Z (D J gpc)/\V.cell? ⟨g,p+i*8+6,U⟩=Z (H eA en ec)/\V.cell? ⟨g,p+i*8+7,U⟩=Z (G go) from ⟨Nat.lt_of_lt_of_le HX.out.1 hb.size,(hb.cell (p:=⟨g,p+i*8,U⟩) HX.out.1).trans HX.out.2.1,(hb.cell (p:=⟨g,p+i*8+1,U⟩) HX.out.1).trans HX.out.2.2.1,(hb.cell (p:=⟨g,p+i*8+2,U⟩) HX.out.1).trans HX.out.2.2.2.1,(hb.cell (p:=⟨g,p+i*8+3,U⟩) HX.out.1).trans HX.out.2.2.2.2.1,(hb.cell (p:=⟨g,p+i*8+4,U⟩) HX.out.1).trans HX.out.2.2.2.2.2.1,(hb.cell (p:=⟨g,p+i*8+5,U⟩) HX.out.1).trans HX.out.2.2.2.2.2.2.1,(hb.cell (p:=⟨g,p+i*8+6,U⟩) HX.out.1).trans HX.out.2.2.2.2.2.2.2.1,(hb.cell (p:=⟨g,p+i*8+7,U⟩) HX.out.1).trans HX.out.2.2.2.2.2.2.2.2⟩);replace HA:=qH (HA.out.below hb);replace HO:=qH (HO.out.below hb);replace HB:=qH (zAa HB.out hb HB.out.size);replace kf:=kf.below hb kf.lt;have ou:=qH (ou.out.below hb);clear hb;go_upto_region 7 with fail
    have k0:∀wx,ZZ V.heap.size V wx->(ZZ V.heap.size V wx/\wx.cell? ⟨w.heap.size,0,U⟩=Z (H A n c)/\wx.cell? ⟨w.heap.size,1,U⟩=Z (D J re)/\wx.cell? ⟨w.heap.size,2,U⟩=Z (D J lo)/\wx.cell? ⟨g,p+i*8,U⟩=Z (D J kk)/\wx.cell? ⟨g,p+i*8+1,U⟩=Z (D J ff)/\wx.cell? ⟨g,p+i*8+2,U⟩=Z (D J gf)/\wx.cell? ⟨g,p+i*8+3,U⟩=Z (D J gl)/\wx.cell? ⟨g,p+i*8+4,U⟩=Z (G gfar)/\wx.cell? ⟨g,p+i*8+5,U⟩=Z (D J gpc)/\wx.cell? ⟨g,p+i*8+6,U⟩=Z (H eA en ec)/\wx.cell? ⟨g,p+i*8+7,U⟩=Z (G go)):=fun wx h=>⟨h,((kf.below h kf.lt).cell 0).trans rfl,((kf.below h kf.lt).cell 1).trans rfl,((kf.below h kf.lt).cell 2).trans rfl,(h.cell (p:=⟨g,p+i*8,U⟩) HX.out.1).trans HX.out.2.1,(h.cell (p:=⟨g,p+i*8+1,U⟩) HX.out.1).trans HX.out.2.2.1,(h.cell (p:=⟨g,p+i*8+2,U⟩) HX.out.1).trans HX.out.2.2.2.1,(h.cell (p:=⟨g,p+i*8+3,U⟩) HX.out.1).trans HX.out.2.2.2.2.1,(h.cell (p:=⟨g,p+i*8+4,U⟩) HX.out.1).trans HX.out.2.2.2.2.2.1,(h.cell (p:=⟨g,p+i*8+5,U⟩) HX.out.1).trans HX.out.2.2.2.2.2.2.1,(h.cell (p:=⟨g,p+i*8+6,U⟩) HX.out.1).trans HX.out.2.2.2.2.2.2.2.1,(h.cell (p:=⟨g,p+i*8+7,U⟩) HX.out.1).trans HX.out.2.2.2.2.2.2.2.2⟩
    have KP:=qH k0;clear k0
    first
     | go_region_held3 (fun wx=>ZZ V.heap.size V wx/\wx.cell? ⟨w.heap.size,0,U⟩=Z (H A n c)/\wx.cell? ⟨w.heap.size,1,U⟩=Z (D J re)/\wx.cell? ⟨w.heap.size,2,U⟩=Z (D J lo)/\wx.cell? ⟨g,p+i*8,U⟩=Z (D J kk)/\wx.cell? ⟨g,p+i*8+1,U⟩=Z (D J ff)/\wx.cell? ⟨g,p+i*8+2,U⟩=Z (D J gf)/\wx.cell? ⟨g,p+i*8+3,U⟩=Z (D J gl)/\wx.cell? ⟨g,p+i*8+4,U⟩=Z (G gfar)/\wx.cell? ⟨g,p+i*8+5,U⟩=Z (D J gpc)/\wx.cell? ⟨g,p+i*8+6,U⟩=Z (H eA en ec)/\wx.cell? ⟨g,p+i*8+7,U⟩=Z (G go)) (first | assumption | exact KP.out _ (M _ _).drew | exact KP.out _ (zAa (And.left (by assumption)) (by assumption) (Below.size (And.left (by assumption)))))
       (first
        | (go_at_call 71;refine (zRe fw.out _ _ _ _ (HA.out.below (And.left (by assumption))) ol.out (ou.out.below (And.left (by assumption))) nW.out z7.out).mono ?_;rintro e wd ⟨rfl,hbd⟩))
     | fail
    all_goals
     have hbf:=And.left (show ZZ V.heap.size V _/\_ by assumption);have ai:=zAa it.out hbf it.out.size;go_wp2_with fail
     go_roundw
     case rel=>exact ⟨i+1,Y1,nF,by go_num,rfl,ai,gK,y1⟩
     case measure=>simp [intOf];omega
  ·have hin:i=m:=by omega
   have j1:¬(i:Int) < (m:Int):=by omega
   have pH:=qH (show bA T=bA (zCV L (ogs Es)) by rw [cQ.out,hin,<-bo.out,zRf]);clear hin cQ;go_wp2_with fail
   go_ret;exact ⟨zCp pH.out,HB.out⟩
theorem zRg {A:Option Addr} {n c:Nat} {L:List Fg} {re lo:Int} {Es:List Oe} {S:List UInt8} (h:zCV L (ogs Es)=S) (B:Option Addr) (m d:Nat) (w:ZY) (hA:Fgs w A n L) (hv:frOk L re lo) (hO:Oprs w B m Es) (hr:∀e∈Es,zAf L.length e.o=Q) (hm:m<=2100) (hf:∀e∈Es,e.n<=4000) :
  Calls ZX 30 #[frV A n c re lo,H B m d] w fun e w'=>e=.returned (W (bA S))/\ZZ w.heap.size w w':=by
 subst h;exact zOJ A n c L re lo B m d Es w hA hv hO hr hm hf
theorem zGm {x:List UInt8} {k:Nat} (h:x.length=k+1):∃b,x[k]? = Z b/\x.getLast? = Z b:=by
 have hk:k < x.length:=by omega
 refine ⟨x[k],List.getElem?_eq_getElem hk,?_⟩;rw [List.getLast?_eq_getElem?,show x.length-1=k by omega,List.getElem?_eq_getElem hk]
theorem zHS (b:UInt8) (c:Nat) (hc:c < 256):((b.toNat:Int)==(c:Int))=decide (b=UInt8.ofNat c):=by
 by_cases e:b=UInt8.ofNat c
 ·rw [decide_eq_true e,e];simp;omega
 ·rw [decide_eq_false e];simp only [beq_eq_false_iff_ne,ne_eq];intro h;exact e (UInt8.toNat.inj (by simp;omega))
theorem zIm (S:List UInt8) (hS:S.length<=100000) (w:ZY) :
  Calls ZX 121 #[W (bA S)] w fun e w'=>e=.returned (sgV (rbF S))/\ZZ w.heap.size w w':=by
 have hs:=zBz S;have hba:ZZ w.heap.size w (w.alloc (.cells #[D J 0,D J 0,G E,D J 0] 29)):=(M _ _).alloc (O _) _;have hka:Blk (w.alloc (.cells #[D J 0,D J 0,G E,D J 0] 29)) w.heap.size 29 #[D J 0,D J 0,G E,D J 0]:=Blk.new _ _ _;by_cases h0:S.length=0
 ·have HR:=qH (show rbF S=s0 by unfold rbF;rw [qP (List.length_eq_zero_iff.1 h0)]);rw [h0] at hs;clear h0 hS;go_enter Tryz.func121,Tryz.ntmps121;go_upto_region 1 with fail
  generalize w.alloc (.cells #[D J 0,D J 0,G E,D J 0] 29)=X at hba hka ⊢;obtain ⟨c0,c1,c2,c3⟩:=cQ4 hka;have z0:=hka.frozen 0;have z1:=hka.frozen 1;have z2:=hka.frozen 2;have z3:=hka.frozen 3;have HS:=qH (Blk.storeL4 hka (D J 0) (D J 0) (G E) (D J 0));have ri:=qH (zBa hba (O w.heap.size) (D J 0) (D J 0) (G E) (D J 0));clear hba hka;go_wp2_with fail
  (try simp only [Exit.inBlock,Exit.then])
  exact zAi rfl rfl HS.out Tryz.underlying29 rfl (by kernel_rfl) rfl ⟨by rw [HR.out];rfl,ri.out⟩
 ·obtain ⟨k,hk⟩:∃k,S.length=k+1:=⟨S.length-1,by omega⟩
  obtain ⟨b,ay,ai⟩:=zGm hk;have hnx:=zDu ay;have hup:=zDv (S:=S) (j:=k) (by omega);rw [hk] at hs;obtain ⟨P,hP⟩:∃P,S.take k=P:=⟨_,rfl⟩
  obtain ⟨F0,hF0⟩:∃j,fnA P=j:=⟨_,rfl⟩
  obtain ⟨q,hq⟩:∃q,decide (b=102)=q:=⟨_,rfl⟩
  have HR:=qH (show rbF S=⟨(F0:Int),0,q,0⟩ by
   have hne:S≠[]:=fun e=>h0 (by rw [e];rfl)
   unfold rbF
   rw [qN hne,List.dropLast_eq_take,hk,show k+1-1=k by omega,hP,hF0,ai,<-hq]
   simp)
  have n1:((b.toNat:Int)==102)=q:=by rw [<-hq];exact zHS b 102 (by omega)
  rw [hP] at hup;have qd:=qH (fun w=>zCk hF0 w);have q4:IntKind.i64.wrap (k:Int)=(k:Int):=IntWalk.i64_in _ (by omega);generalize b.toNat=b0 at hnx n1;clear hk ay ai hP hF0 hq h0;go_enter Tryz.func121,Tryz.ntmps121;go_upto_region 1 with fail
  generalize w.alloc (.cells #[D J 0,D J 0,G E,D J 0] 29)=X at hba hka ⊢;have vX:=qH hba;have tZ:=qH hka;have c0:X.cell? ⟨w.heap.size,0,U⟩=Z (D J 0):=(hka.cell 0).trans rfl;clear hba hka;go_upto_region 4 with fail
  go_region_with (go_at_call 99;refine (qd.out _).mono ?_;rintro e wd ⟨rfl,hbd⟩;have hbq:ZZ X.heap.size X wd:=zAa ((M X.heap.size X).drew) hbd (O _);have kk:=tZ.out.below hbq tZ.out.lt;have y0:wd.cell? ⟨w.heap.size,0,U⟩=Z (D J 0):=(kk.cell 0).trans rfl;have f0:=kk.frozen 0;have y1:wd.cell? ⟨w.heap.size,1,U⟩=Z (D J 0):=(kk.cell 1).trans rfl;have f1:=kk.frozen 1;have y2:wd.cell? ⟨w.heap.size,2,U⟩=Z (G E):=(kk.cell 2).trans rfl;have f2:=kk.frozen 2;have y3:wd.cell? ⟨w.heap.size,3,U⟩=Z (D J 0):=(kk.cell 3).trans rfl;have f3:=kk.frozen 3)
  all_goals
   have HS:=qH (Blk.storeL4 kk (D J (F0:Int)) (D J 0) (G q) (D J 0));have ri:=qH (zBa (zAa vX.out hbq vX.out.size) (O w.heap.size) (D J (F0:Int)) (D J 0) (G q) (D J 0));go_wp2_with fail
   (try simp only [Exit.inBlock,Exit.then])
   exact zAi rfl rfl HS.out Tryz.underlying29 rfl (by kernel_rfl) rfl ⟨by rw [HR.out],ri.out⟩
theorem zJV {S:List UInt8} {s:Sg} (h:rbF S=s) (hS:S.length<=100000) (w:ZY) :
  Calls ZX 121 #[W (bA S)] w fun e w'=>e=.returned (.agg #[D J s.f,D J s.l,G s.far,D J s.pc])/\ZZ w.heap.size w w':=by
 subst h;exact zIm S hS w
theorem zHT {L:List Fg} {re lo:Int} {S:List UInt8} (hv:frB L re lo=Q) (h:¬8000 < S.length):zAC L re lo S=0:=by unfold zAC;rw [qP hv,qN h]
theorem zLi {L:List Fg} {re lo:Int} {S:List UInt8} (hv:frB L re lo=Q) (h:8000 < S.length):zAC L re lo S=7:=by unfold zAC;rw [qP hv,qP h]
theorem zXI {L:List Fg} {re lo:Int} {S:List UInt8} (hv:frB L re lo=Q) (h:¬8000 < S.length):rdE L re lo S=zDt L S/\rdO L re lo S=zEL L S:=by
 have hb:=zHT hv h;unfold rdE rdO;rw [qP hb,qP hb];exact ⟨rfl,rfl⟩
theorem zOK {T:List (List UInt8)} {i:Nat} (h:i < T.length):T[i]? = Z (xa T i):=by unfold xa;rw [List.getElem?_eq_getElem h];rfl
theorem zHU {T:List (List UInt8)} {i:Nat} (h:i < T.length):T.drop i=xa T i :: T.drop (i+1):=by
 rw [List.drop_eq_getElem_cons h];have:=zOK h;rw [List.getElem?_eq_getElem h] at this;injection this with this
 rw [this]
theorem zMv (L:List Fg) {T:List (List UInt8)} {i:Nat} (h:i+1 < T.length) (ZM:List Og) :
  zAO L (T.drop i) ZM=if zDt L (xa T i)=0 then zAO L (T.drop (i+1)) (ZM++[zEL L (xa T i)]) else ([],ZM.length,zDt L (xa T i)):=by
 rw [zHU (by omega),zHU h,zAO]
theorem zMw (L:List Fg) {T:List (List UInt8)} {i:Nat} (h:i+1=T.length) (ZM:List Og) :
  zAO L (T.drop i) ZM=if xa T i=[] then (ZM,ZM.length,0) else ([],ZM.length,6):=by
 rw [zHU (by omega),h,List.drop_length,zAO]
theorem zVU {L:List Fg} {S:List UInt8} {i:Nat} {P:List UInt8} (hS:(zAI 32 S)[i]? = Z P) (h:zAD P=U) (h0:S≠[]):itE L S=6/\itO L S=[]:=by
 have h1:zBA ((zAI 32 S).take (i+1))=U:=by
  rw [List.take_add_one,hS];simp only [Option.toList_some];rw [zEp,h]
  cases zBA ((zAI 32 S).take i)<;>rfl
 have h2:zBA (zAI 32 S)=U:=by
  have:=zIH ((zAI 32 S).drop (i+1)) h1
  rwa [List.take_append_drop] at this
 unfold itE itO;rw [qN h0,qN h0,h2];exact ⟨rfl,rfl⟩
theorem zUm (L:List Fg):itE L []=0/\itO L []=[]:=by unfold itE itO;rw [qP rfl,qP rfl];exact ⟨rfl,rfl⟩
theorem zYI {L:List Fg} {re lo:Int} {S:List UInt8} (hv:frB L re lo=Q) (h:¬8000 < S.length):rsE L re lo S=itE L S/\rsO L re lo S=itO L S:=by
 have hb:=zHT hv h;unfold rsE rsO;rw [qP hb,qP hb];exact ⟨rfl,rfl⟩
theorem zVV {L:List Fg} {re lo:Int} {S:List UInt8} (hv:frB L re lo=Q) (h:8000 < S.length):rsE L re lo S=7/\rsO L re lo S=[]:=by
 have hb:=zLi hv h;unfold rsE rsO;rw [qN (by omega),qN (by omega)];exact ⟨hb,rfl⟩
theorem zVW {L:List Fg} {re lo:Int} {S:List UInt8} (hv:frB L re lo=Q) (h:8000 < S.length):rlR L re lo S=([],0,7):=by
 have hb:=zLi hv h;unfold rlR;rw [qN (by omega),hb]
theorem zTo {L:List Fg} {re lo:Int} {S:List UInt8} (hv:frB L re lo=Q) (h:¬8000 < S.length):rlR L re lo S=zAO L (zAI 10 S) []:=by
 have hb:=zHT hv h;unfold rlR;rw [qP hb]
theorem zJW (c:UInt8) (S:List UInt8):0 < (zAI c S).length:=by
 cases h:zAI c S with
 | nil=>exact absurd h (zFS c S)
 | cons x r=>simp
theorem zRh {L:List Fg} {S:List UInt8} (hS:S.length<=2000):(zEL L S).path.length<=4000:=by
 by_cases hx:∃n,okN n/\S=zBY n
 ·obtain ⟨n,h1,rfl⟩:=hx;rw [(zEn L h1).2]
  cases zAy L n with
  | true=>simp [o0]
  | false =>
   show (n.path.map (pOf L)).length<=_;rw [List.length_map];have h4:=zMZ h1;have h5:=zEm (zBY n);rw [zDc] at h5;omega
 ·rw [(zIG L fun n h1 h2=>hx ⟨n,h1,h2⟩).2];simp [o0]
theorem zHV (L:List Fg):∀(ws:List (List UInt8)) (ZM:List Og),(∀p∈ws,p.length<=2000)->(∀o∈ZM,o.path.length<=4000)->∀o∈(zAO L ws ZM).1,o.path.length<=4000
 | [],ZM,_,hO=>hO
 | [p],ZM,_,hO=>by
  unfold zAO;split
  ·exact hO
  ·simp
 | p :: q :: r,ZM,hw,hO=>by
  unfold zAO;split
  ·refine zHV L (q :: r) _ (fun x hx=>hw x (List.mem_cons_of_mem _ hx)) fun o ho=>?_
   rcases List.mem_append.1 ho with h1 | h1
   ·exact hO o h1
   ·rw [List.mem_singleton.1 h1];exact zRh (hw p (List.mem_cons_self ..))
  ·simp
theorem zTp {L:List Fg} {re lo:Int} {S:List UInt8} (hS:S.length<=2000):(∀o∈(rlR L re lo S).1,o.path.length<=4000)/\(rlR L re lo S).1.length<=2001:=by
 unfold rlR;by_cases h:zAC L re lo S=0
 ·rw [qP h];refine ⟨zHV L _ [] (fun p hp=>Nat.le_trans (zAJ 10 S p hp) hS) (by simp),?_⟩;have h1:=zEO L (zAI 10 S) [];have h2:(zAI 10 S).length<=S.length+1:=by
   rw [zEk];have:=List.count_le_length (a:=(10:UInt8)) (l:=S);omega
  simp at h1;omega
 ·rw [qN h];simp
theorem zTq {L:List Fg} {re lo:Int} {S:List UInt8} (hS:S.length<=2000):(∀o∈rsO L re lo S,o.path.length<=4000)/\(rsO L re lo S).length<=2001:=by
 unfold rsO;by_cases h:zAC L re lo S=0
 ·rw [qP h];unfold itO;by_cases h0:S=[]
  ·rw [qP h0];simp
  ·rw [qN h0]
   cases hs:zBA (zAI 32 S) with
   | none=>simp
   | some ns =>
    simp only;by_cases hl:ns.any (zAy L)=Q
    ·rw [qP hl];simp
    ·rw [qN hl];obtain ⟨h1,h2⟩:=zHI hs;refine ⟨fun o ho=>?_,?_⟩
     ·obtain ⟨n,hn,rfl⟩:=List.mem_map.1 ho;obtain ⟨p,hp,hpn⟩:=h2 n hn;have h3:=zCu hpn;show (n.path.map (pOf L)).length<=_;rw [List.length_map];have h5:=zGS h3.1;rw [<-h3.2.2] at h5;have h6:=zAJ 32 S p hp;omega
     ·rw [List.length_map,h1];have:=zBp S;omega
 ·rw [qN h];simp
def zIn (L:List Fg) (Es:List Oe) (i:Nat):List UInt8:=zCf L ((ogs Es).take i)
theorem zOL (L:List Fg) {Es:List Oe} {i:Nat} (h:i < Es.length):zIn L Es (i+1)=zIn L Es i++zBg L (oa Es i).o++[10]:=by
 unfold zIn zCf;have hx:(ogs Es)[i]? = Z (oa Es i).o:=by unfold ogs;rw [List.getElem?_map,zBC h];rfl
 rw [List.take_add_one,hx,List.flatMap_append];simp
theorem zRi (L:List Fg) (Es:List Oe):zIn L Es Es.length=zCf L (ogs Es):=by
 unfold zIn;rw [List.take_of_length_le (by unfold ogs;simp)]
theorem zOM (L:List Fg) (Es:List Oe):zIn L Es 0=[]:=by unfold zIn zCf;simp
