/-
  Lemmas. Conditions: each one's own.
-/
import Derived.Test.YtlmdfmnbcndhoaaGreatDoorRt04
import Derived.Shelf.Strings.Builder1
open Go.RowKit
set_option maxHeartbeats 12800000
set_option maxRecDepth 100000
open Go.Value renaming bool->G,int->D,slice->H,string->W
open Go.IntKind renaming i64->J
open Go renaming World->ZY
open Go.Proofs.Tryz renaming prog->ZX
open Bool renaming false->E,true->Q
open Go.RowKit renaming Below->ZZ
open Go.RowKit.Below renaming refl->M
open Nat renaming le_refl->O
open Option renaming none->U,some->Z
namespace Go.Proofs.YtlmdfmnbcndhoaaGreatDoor
def zUz (k:Int):Int:=if k=1 then 45 else if k=2 then 94 else if k=3 then 60 else if k=4 then 126 else if k=5 then 61 else if k=6 then 42 else if k=7 then 37 else 33
def zCU (k:Int):List UInt8:=if k=1 then [45] else if k=2 then [94] else if k=3 then [60] else if k=4 then [126] else if k=5 then [61] else if k=6 then [42] else if k=7 then [37] else [33]
def zGr (L:List Fg) (x:Sp):List UInt8:=zBh L x.s++zAt x.over
def zBD (L:List Fg) (P:List Sp):Nat->List UInt8
 | 0=>[]
 | i+1=>zBD L P i++(if 0 < i then [44] else [])++zGr L (pa P i)
def zBu (L:List Fg) (o:Og):List UInt8 :=
 if o.kind=4 then zAt o.over
 else if o.kind=3 then zBD L o.path o.path.length++(if o.path=[] then [] else [60])++zBh L o.fr
 else if o.kind=5 then zBh L o.fr++zAt o.over
 else if o.kind=6∨o.kind=7 then nmF L o.fr.f++zAt o.over
 else []
def zAZ (L:List Fg) (o:Og):List UInt8:=nmF L o.f++zCU o.kind++zBu L o
theorem zCz (b:Bool):(zAt b).length=1:=by cases b<;>rfl
theorem zKv (k:Int):(zCU k).length=1:=by
 unfold zCU
 repeat (split;· rfl)
 rfl
theorem zPm (k:Int) (h1:1<=k) (h8:k<=8):(∀w:ZY,(Instr.index 9 (W ⟨#[32,45,94,60,126,61,42,37,33]⟩) (D J k)).run ZX w=.ok (D .u8 (zUz k)) w) /\
  ∀w:ZY,(convert 5 9 (D .u8 (zUz k))).run ZX w=.ok (W (bA (zCU k))) w:=by
 have hk:k=1∨k=2∨k=3∨k=4∨k=5∨k=6∨k=7∨k=8:=by omega
 rcases hk with rfl | rfl | rfl | rfl | rfl | rfl | rfl | rfl
 all_goals exact ⟨fun _=>by kernel_rfl,fun _=>by kernel_rfl⟩
theorem zNQ (A:Option Addr) (n c:Nat) (L:List Fg) (re lo:Int) (o:Og) (B:Option Addr) (m d:Nat) (w:ZY) (hA:Fgs w A n L) (hv:frOk L re lo) (hO:OpIn w o B m d) (hr:zAf n o=Q) (hm:m<=10000) :
  Calls ZX 68 #[frV A n c re lo,opV o B m d] w fun e w'=>e=.returned (W (bA (zAZ L o)))/\ZZ w.heap.size w w':=by
 obtain ⟨h1,h8,dj,bt,hpn,hfrn⟩:=zAS hr;have hlen:=hO.path.len;have eZ:=zBy hv dj (by rw [hA.len];exact bt);have hnl:=hA.len;have hP:Stps w B m o.path:=hO.path;have uB:=zKv o.kind;have iQ:zAZ L o=nmF L o.f++zCU o.kind++zBu L o:=rfl;obtain ⟨kind,f,⟨ff,fl,ffar,fpc⟩,path,over⟩:=o;simp only at h1 h8 dj bt hpn hfrn hlen eZ hP uB iQ ⊢;obtain ⟨hix,hcv⟩:=zPm kind h1 h8;obtain ⟨SI,Fb⟩:∃T,zUz kind=T:=⟨_,rfl⟩
 obtain ⟨SF,CC⟩:∃T,zCU kind=T:=⟨_,rfl⟩
 obtain ⟨NM,db⟩:∃T,nmF L f=T:=⟨_,rfl⟩
 obtain ⟨OV,gZ⟩:∃T,zAt over=T:=⟨_,rfl⟩
 obtain ⟨G1,iR⟩:∃T,NM++SF=T:=⟨_,rfl⟩
 have n8:=zCz over;rw [Fb] at hix hcv;rw [CC] at uB hcv;rw [db] at eZ;rw [gZ] at n8;have l1:G1.length<=44:=by rw [<-iR];simp;omega
 have s1:=zAl iR _ _ rfl rfl (by omega) (by omega);rw [CC,db,iR] at iQ;have fP:=qH iQ;have gR:=qH db;have bJ:=qH gZ;have HK:=qH (show 0<=kind/\kind<=8 from ⟨by omega,h8⟩);have ua:=qH h1;have ua:=qH h1;have gL:=qH (show 1<=f/\f<=(n:Int) from ⟨dj,bt⟩);have fY:=qH hpn;have fW:=qH hfrn;have aL:=qH hlen;have dZ:=qH hnl;have ah:ZZ w.heap.size w ((w.alloc (.cells #[H A n c,D J re,D J lo] 24)).alloc (.cells #[D J kind,D J f,D J ff,D J fl,G ffar,D J fpc,H B m d,G over] 32)):=((M _ _).alloc (O _) _).alloc (by simp) _;have hk0:=(Blk.new w 24 #[H A n c,D J re,D J lo]).alloc (.cells #[D J kind,D J f,D J ff,D J fl,G ffar,D J fpc,H B m d,G over] 32);have aq:Blk ((w.alloc (.cells #[H A n c,D J re,D J lo] 24)).alloc (.cells #[D J kind,D J f,D J ff,D J fl,G ffar,D J fpc,H B m d,G over] 32)) (w.heap.size+1) 32 #[D J kind,D J f,D J ff,D J fl,G ffar,D J fpc,H B m d,G over]:=heap_alloc2_new w _ _;clear iQ Fb CC db gZ iR uB eZ h1 h8 dj bt hpn hfrn hlen hr hnl hO;go_enter Tryz.func68,Tryz.ntmps68;go_wp2_with fail
 have hA0:=hA.below ah;have jd:=hP.below ah;generalize (w.alloc (.cells #[H A n c,D J re,D J lo] 24)).alloc (.cells #[D J kind,D J f,D J ff,D J fl,G ffar,D J fpc,H B m d,G over] 32)=ZO at ah hk0 aq hA0 jd ⊢
 have KP:=qH (show ∀wx,ZZ ZO.heap.size ZO wx->(ZZ ZO.heap.size ZO wx/\wx.cell? ⟨w.heap.size,0,U⟩=Z (H A n c)/\wx.cell? ⟨w.heap.size,1,U⟩=Z (D J re)/\wx.cell? ⟨w.heap.size,2,U⟩=Z (D J lo)/\wx.cell? ⟨w.heap.size+1,0,U⟩=Z (D J kind)/\wx.cell? ⟨w.heap.size+1,1,U⟩=Z (D J f)/\wx.cell? ⟨w.heap.size+1,2,U⟩=Z (D J ff)/\wx.cell? ⟨w.heap.size+1,3,U⟩=Z (D J fl)/\wx.cell? ⟨w.heap.size+1,4,U⟩=Z (G ffar)/\wx.cell? ⟨w.heap.size+1,5,U⟩=Z (D J fpc)/\wx.cell? ⟨w.heap.size+1,6,U⟩=Z (H B m d)/\wx.cell? ⟨w.heap.size+1,7,U⟩=Z (G over)) from
  fun wx h=>⟨h,((hk0.below h hk0.lt).cell 0).trans rfl,((hk0.below h hk0.lt).cell 1).trans rfl,((hk0.below h hk0.lt).cell 2).trans rfl,((aq.below h aq.lt).cell 0).trans rfl,((aq.below h aq.lt).cell 1).trans rfl,((aq.below h aq.lt).cell 2).trans rfl,((aq.below h aq.lt).cell 3).trans rfl,((aq.below h aq.lt).cell 4).trans rfl,((aq.below h aq.lt).cell 5).trans rfl,((aq.below h aq.lt).cell 6).trans rfl,((aq.below h aq.lt).cell 7).trans rfl⟩)
 first
  | go_region_held3 (fun wx=>ZZ ZO.heap.size ZO wx/\wx.cell? ⟨w.heap.size,0,U⟩=Z (H A n c)/\wx.cell? ⟨w.heap.size,1,U⟩=Z (D J re)/\wx.cell? ⟨w.heap.size,2,U⟩=Z (D J lo)/\wx.cell? ⟨w.heap.size+1,0,U⟩=Z (D J kind)/\wx.cell? ⟨w.heap.size+1,1,U⟩=Z (D J f)/\wx.cell? ⟨w.heap.size+1,2,U⟩=Z (D J ff)/\wx.cell? ⟨w.heap.size+1,3,U⟩=Z (D J fl)/\wx.cell? ⟨w.heap.size+1,4,U⟩=Z (G ffar)/\wx.cell? ⟨w.heap.size+1,5,U⟩=Z (D J fpc)/\wx.cell? ⟨w.heap.size+1,6,U⟩=Z (H B m d)/\wx.cell? ⟨w.heap.size+1,7,U⟩=Z (G over)) (first | assumption | exact KP.out _ (M _ _).drew | exact KP.out _ (zAa (And.left (by assumption)) (by assumption) (Below.size (And.left (by assumption)))))
    (first
     | (go_at_call 107;refine (zDm gR.out _ (hA0.below (And.left (by assumption))) hv gL.out.1 gL.out.2).mono ?_;rintro e wc ⟨rfl,hbc⟩))
  | fail
 all_goals
  obtain ⟨hbx,a0,a1,a2,e0,e1,e2,e3,e4,e5,e6,e7⟩:=(show ZZ ZO.heap.size ZO _/\_ from by assumption);have ai:=zAa ah hbx ah.size;have fM:=hA0.below hbx;have qI:=jd.below hbx;have hkx:=aq.below hbx aq.lt;have hfx:=hk0.below hbx hk0.lt;clear hbc;have HT:=qH (show zAZ L ⟨kind,f,⟨ff,fl,ffar,fpc⟩,path,over⟩=G1++zBu L ⟨kind,f,⟨ff,fl,ffar,fpc⟩,path,over⟩ from fP.out);clear fP gR s1 KP hA0 jd hk0 aq hbx ah hix hcv
  have KP:=qH (show ∀wx,ZZ wc.heap.size wc wx->(ZZ wc.heap.size wc wx/\wx.cell? ⟨w.heap.size,0,U⟩=Z (H A n c)/\wx.cell? ⟨w.heap.size,1,U⟩=Z (D J re)/\wx.cell? ⟨w.heap.size,2,U⟩=Z (D J lo)/\wx.cell? ⟨w.heap.size+1,0,U⟩=Z (D J kind)/\wx.cell? ⟨w.heap.size+1,1,U⟩=Z (D J f)/\wx.cell? ⟨w.heap.size+1,2,U⟩=Z (D J ff)/\wx.cell? ⟨w.heap.size+1,3,U⟩=Z (D J fl)/\wx.cell? ⟨w.heap.size+1,4,U⟩=Z (G ffar)/\wx.cell? ⟨w.heap.size+1,5,U⟩=Z (D J fpc)/\wx.cell? ⟨w.heap.size+1,6,U⟩=Z (H B m d)/\wx.cell? ⟨w.heap.size+1,7,U⟩=Z (G over)) from
   fun wx h=>⟨h,((hfx.below h hfx.lt).cell 0).trans rfl,((hfx.below h hfx.lt).cell 1).trans rfl,((hfx.below h hfx.lt).cell 2).trans rfl,((hkx.below h hkx.lt).cell 0).trans rfl,((hkx.below h hkx.lt).cell 1).trans rfl,((hkx.below h hkx.lt).cell 2).trans rfl,((hkx.below h hkx.lt).cell 3).trans rfl,((hkx.below h hkx.lt).cell 4).trans rfl,((hkx.below h hkx.lt).cell 5).trans rfl,((hkx.below h hkx.lt).cell 6).trans rfl,((hkx.below h hkx.lt).cell 7).trans rfl⟩)
  have hk:(kind=1∨kind=2∨kind=8)∨kind=4∨kind=5∨(kind=6∨kind=7)∨kind=3:=by have:=HK.out;have:=ua.out;omega
  clear HK ua;rcases hk with hk | rfl | rfl | hk | rfl
  ·rcases hk with rfl | rfl | rfl
   all_goals
    have HR:=qH (show bA G1=bA (zAZ L _) by rw [HT.out];simp [zBu]);clear HT;go_wp2_with fail
    go_ret;exact ⟨zCp HR.out,ai⟩
  ·obtain ⟨R2,jO⟩:∃T,G1++OV=T:=⟨_,rfl⟩
   have t2:=zAl jO _ _ rfl rfl (by omega) (by omega);have HR:=qH (show bA R2=bA (zAZ L _) by rw [HT.out,<-jO,<-bJ.out];simp [zBu]);clear HT jO l1 n8;go_wp2_with fail
   refine (zCT bJ.out _).mono ?_;rintro e wd ⟨rfl,rfl⟩;go_wp2_with fail
   go_ret;exact ⟨zCp HR.out,ai⟩
  ·have hnf:=zAh.1 (fW.out (by omega));simp only at hnf;have cU:=zCr hv (s:=⟨ff,fl,ffar,fpc⟩) hnf.1 (by rw [dZ.out];exact hnf.2.1);obtain ⟨PL,bT⟩:∃T,zBh L ⟨ff,fl,ffar,fpc⟩=T:=⟨_,rfl⟩
   obtain ⟨Q3,cv⟩:∃T,PL++OV=T:=⟨_,rfl⟩
   obtain ⟨Q4,eI⟩:∃T,G1++Q3=T:=⟨_,rfl⟩
   rw [bT] at cU;have m3:Q3.length<=45:=by rw [<-cv];simp;omega
   have t3:=zAl cv _ _ rfl rfl (by omega) (by omega);have t4:=zAl eI _ _ rfl rfl (by omega) (by omega);have HR:=qH (show bA Q4=bA (zAZ L _) by rw [HT.out,<-eI,<-cv,<-bT,<-bJ.out];simp [zBu]);have cc:=qH bT;have dd:=qH (show 1<=ff/\ff<=(n:Int) from ⟨hnf.1,hnf.2.1⟩);clear HT cv eI m3 l1 n8 cU bT hnf fW;go_wp2_with fail
   first
    | go_region_held3 (fun wx=>ZZ wc.heap.size wc wx/\wx.cell? ⟨w.heap.size,0,U⟩=Z (H A n c)/\wx.cell? ⟨w.heap.size,1,U⟩=Z (D J re)/\wx.cell? ⟨w.heap.size,2,U⟩=Z (D J lo)/\wx.cell? ⟨w.heap.size+1,0,U⟩=Z (D J 5)/\wx.cell? ⟨w.heap.size+1,1,U⟩=Z (D J f)/\wx.cell? ⟨w.heap.size+1,2,U⟩=Z (D J ff)/\wx.cell? ⟨w.heap.size+1,3,U⟩=Z (D J fl)/\wx.cell? ⟨w.heap.size+1,4,U⟩=Z (G ffar)/\wx.cell? ⟨w.heap.size+1,5,U⟩=Z (D J fpc)/\wx.cell? ⟨w.heap.size+1,6,U⟩=Z (H B m d)/\wx.cell? ⟨w.heap.size+1,7,U⟩=Z (G over)) (first | assumption | exact KP.out _ (M _ _).drew | exact KP.out _ (zAa (And.left (by assumption)) (by assumption) (Below.size (And.left (by assumption)))))
      (first
       | (go_at_call 116;refine (zJa cc.out _ (fM.below (And.left (by assumption))) hv dd.out.1 dd.out.2).mono ?_;rintro e wd ⟨rfl,hbd⟩)
       | (go_at_call 115;refine (zCT bJ.out _).mono ?_;rintro e we ⟨rfl,rfl⟩))
    | fail
   all_goals
    have hbf:=zAa ai (And.left (show ZZ wc.heap.size wc _/\_ from by assumption)) ai.size;go_wp2_with fail
    go_ret;exact ⟨zCp HR.out,hbf⟩
  ·have hnf:=zAh.1 (fW.out (by omega));simp only at hnf;have cU:=zBy hv (f:=ff) hnf.1 (by rw [dZ.out];exact hnf.2.1);obtain ⟨PL,bT⟩:∃T,nmF L ff=T:=⟨_,rfl⟩
   rw [bT] at cU;have cc:=qH bT;have dd:=qH (show 1<=ff/\ff<=(n:Int) from ⟨hnf.1,hnf.2.1⟩);clear hnf fW;obtain ⟨Q3,cv⟩:∃T,PL++OV=T:=⟨_,rfl⟩
   obtain ⟨Q4,eI⟩:∃T,G1++Q3=T:=⟨_,rfl⟩
   have m3:Q3.length<=45:=by rw [<-cv];simp;omega
   have t3:=zAl cv _ _ rfl rfl (by omega) (by omega);have t4:=zAl eI _ _ rfl rfl (by omega) (by omega);have hrk:bA Q4=bA (zAZ L ⟨kind,f,⟨ff,fl,ffar,fpc⟩,path,over⟩):=by rw [HT.out,<-eI,<-cv,<-bT,<-bJ.out];rcases hk with rfl | rfl<;>simp [zBu]
   have HR:=qH hrk;clear HT cv eI m3 l1 n8 cU bT hrk;rcases hk with rfl | rfl
   ·go_wp2_with fail
    first
     | go_region_held3 (fun wx=>ZZ wc.heap.size wc wx/\wx.cell? ⟨w.heap.size,0,U⟩=Z (H A n c)/\wx.cell? ⟨w.heap.size,1,U⟩=Z (D J re)/\wx.cell? ⟨w.heap.size,2,U⟩=Z (D J lo)/\wx.cell? ⟨w.heap.size+1,0,U⟩=Z (D J 6)/\wx.cell? ⟨w.heap.size+1,1,U⟩=Z (D J f)/\wx.cell? ⟨w.heap.size+1,2,U⟩=Z (D J ff)/\wx.cell? ⟨w.heap.size+1,3,U⟩=Z (D J fl)/\wx.cell? ⟨w.heap.size+1,4,U⟩=Z (G ffar)/\wx.cell? ⟨w.heap.size+1,5,U⟩=Z (D J fpc)/\wx.cell? ⟨w.heap.size+1,6,U⟩=Z (H B m d)/\wx.cell? ⟨w.heap.size+1,7,U⟩=Z (G over)) (first | assumption | exact KP.out _ (M _ _).drew | exact KP.out _ (zAa (And.left (by assumption)) (by assumption) (Below.size (And.left (by assumption)))))
       (first
        | (go_at_call 107;refine (zDm cc.out _ (fM.below (And.left (by assumption))) hv dd.out.1 dd.out.2).mono ?_;rintro e wd ⟨rfl,hbd⟩)
        | (go_at_call 115;refine (zCT bJ.out _).mono ?_;rintro e we ⟨rfl,rfl⟩))
     | fail
    all_goals
     have hbf:=zAa ai (And.left (show ZZ wc.heap.size wc _/\_ from by assumption)) ai.size;go_wp2_with fail
     go_ret;exact ⟨zCp HR.out,hbf⟩
   ·go_wp2_with fail
    first
     | go_region_held3 (fun wx=>ZZ wc.heap.size wc wx/\wx.cell? ⟨w.heap.size,0,U⟩=Z (H A n c)/\wx.cell? ⟨w.heap.size,1,U⟩=Z (D J re)/\wx.cell? ⟨w.heap.size,2,U⟩=Z (D J lo)/\wx.cell? ⟨w.heap.size+1,0,U⟩=Z (D J 7)/\wx.cell? ⟨w.heap.size+1,1,U⟩=Z (D J f)/\wx.cell? ⟨w.heap.size+1,2,U⟩=Z (D J ff)/\wx.cell? ⟨w.heap.size+1,3,U⟩=Z (D J fl)/\wx.cell? ⟨w.heap.size+1,4,U⟩=Z (G ffar)/\wx.cell? ⟨w.heap.size+1,5,U⟩=Z (D J fpc)/\wx.cell? ⟨w.heap.size+1,6,U⟩=Z (H B m d)/\wx.cell? ⟨w.heap.size+1,7,U⟩=Z (G over)) (first | assumption | exact KP.out _ (M _ _).drew | exact KP.out _ (zAa (And.left (by assumption)) (by assumption) (Below.size (And.left (by assumption)))))
       (first
        | (go_at_call 107;refine (zDm cc.out _ (fM.below (And.left (by assumption))) hv dd.out.1 dd.out.2).mono ?_;rintro e wd ⟨rfl,hbd⟩)
        | (go_at_call 115;refine (zCT bJ.out _).mono ?_;rintro e we ⟨rfl,rfl⟩))
     | fail
    all_goals
     have hbf:=zAa ai (And.left (show ZZ wc.heap.size wc _/\_ from by assumption)) ai.size;go_wp2_with fail
     go_ret;exact ⟨zCp HR.out,hbf⟩
  ·have hnf:=zAh.1 (fW.out (by omega));simp only at hnf;have cU:=zCr hv (s:=⟨ff,fl,ffar,fpc⟩) hnf.1 (by rw [dZ.out];exact hnf.2.1);obtain ⟨PL,bT⟩:∃T,zBh L ⟨ff,fl,ffar,fpc⟩=T:=⟨_,rfl⟩
   rw [bT] at cU;have cc:=qH bT;have dd:=qH (show 1<=ff/\ff<=(n:Int) from ⟨hnf.1,hnf.2.1⟩);have hstart:Hid (G1=G1++zBD L path 0):=qH (by simp [zBD]);clear bT hnf fW KP;go_wp2_with fail
   clear a0 a1 a2 e0 e1 e2 e3 e4 e5 e6 e7;go_loopw [5,31] (fun v5 v31 wr=>∃(i:Nat) (T:List UInt8),i<=m/\v31=D J i/\v5=W (bA T)/\ZZ wc.heap.size wc wr/\Hid (T=G1++zBD L path i)/\T.length<=44+i*50) (fun _ v31 _=>m-(intOf v31).toNat)
   case atStart=>exact ⟨0,G1,Nat.zero_le _,rfl,rfl,M _ _,hstart,by omega⟩
   case round =>
    obtain ⟨i,T,hi,rfl,rfl,hbr,cQ,jM⟩:=hrel;have hfr:=hfx.below hbr hfx.lt;have hor:=hkx.below hbr hkx.lt;have ft:=fM.below hbr;have hbw:=zAa ai hbr ai.size;by_cases hlt:i < m
    ·obtain ⟨g,p,rfl,hg,⟨x0,x1,x2,x3,x4⟩,_⟩:=(qI.below hbr).at_ hlt;have j0:(0:Int)<=(i:Int):=by omega
     have j1:(i:Int) < (m:Int):=by omega
     have hil:i < path.length:=by rw [aL.out];exact hlt
     have hsn:zBD L path (i+1)=zBD L path i++(if 0 < i then [44] else [])++zGr L (pa path i):=rfl;have hnm:=zAh.1 (fY.out _ (List.mem_of_getElem? (zCm hil)));generalize pa path i=x at x0 x1 x2 x3 x4 hsn hnm;obtain ⟨⟨xf,xl,xfar,xpc⟩,xo⟩:=x;simp only at x0 x1 x2 x3 x4 hnm;have kS:=zCr hv (s:=⟨xf,xl,xfar,xpc⟩) hnm.1 (by rw [dZ.out];exact hnm.2.1);have qt:=zCz xo;have hst:zGr L ⟨⟨xf,xl,xfar,xpc⟩,xo⟩=zBh L ⟨xf,xl,xfar,xpc⟩++zAt xo:=rfl;obtain ⟨PX,iM⟩:∃T,zBh L ⟨xf,xl,xfar,xpc⟩=T:=⟨_,rfl⟩
     obtain ⟨OX,iN⟩:∃T,zAt xo=T:=⟨_,rfl⟩
     obtain ⟨Y1,e9⟩:∃T,PX++OX=T:=⟨_,rfl⟩
     rw [iM] at kS;rw [iN] at qt;have y1:Y1.length<=45:=by rw [<-e9];simp;omega
     have r1:=zAl e9 _ _ rfl rfl (by omega) (by omega);have hU:∃ZS:List UInt8,ZS=T++(if 0 < i then [44] else [])/\((¬0 < (i:Int)/\ZS=T)∨(0 < (i:Int)/\∀w,(Op.stringOp .add (bA T) ⟨#[44]⟩).run ZX w=.ok (W (bA ZS)) w)):=by
      by_cases h0:0 < i
      ·exact ⟨T++[44],by rw [qP h0],.inr ⟨by omega,zAl rfl _ _ rfl rfl (by omega) (by simp)⟩⟩
      ·exact ⟨T,by rw [qN h0];simp,.inl ⟨by omega,rfl⟩⟩
     obtain ⟨ZS,Cx,hU⟩:=hU;have hUl:ZS.length<=45+i*50:=by rw [Cx];split<;>simp<;>omega
     obtain ⟨Y5,qD⟩:∃V,ZS++Y1=V:=⟨_,rfl⟩
     have y5:Y5.length<=44+(i+1)*50:=by rw [<-qD];simp;omega
     have r5:=zAl qD _ _ rfl rfl (by omega) (by omega);have gK:=qH (show Y5=G1++zBD L path (i+1) by rw [hsn,hst,iM,iN,<-qD,Cx,cQ.out,<-e9];simp);have lA:=qH iM;have ot:=qH iN;have gQ:=qH (show 1<=xf/\xf<=(n:Int) from ⟨hnm.1,hnm.2.1⟩);have bh:ZZ wc.heap.size wc (wr.alloc (.cells #[D J xf,D J xl,G xfar,D J xpc,G xo] 86)):=hbr.alloc hbr.size _;have eE:=hfr.alloc (.cells #[D J xf,D J xl,G xfar,D J xpc,G xo] 86);have eP:Blk (wr.alloc (.cells #[D J xf,D J xl,G xfar,D J xpc,G xo] 86)) wr.heap.size 86 #[D J xf,D J xl,G xfar,D J xpc,G xo]:=Blk.new _ _ _;have pq:=ft.alloc (.cells #[D J xf,D J xl,G xfar,D J xpc,G xo] 86);clear hsn hst iM iN e9 qD y1 kS qt hil cQ hnm Cx hUl;rcases hU with ⟨hu,rfl⟩ | ⟨hu,Av⟩
     all_goals
      go_wp2_with fail
      clear x0 x1 x2 x3 x4 hg hbr hfr hor ft hbw;generalize wr.alloc (.cells #[D J xf,D J xl,G xfar,D J xpc,G xo] 86)=Y at bh eE eP pq ⊢
      have KP:=qH (show ∀wx,ZZ Y.heap.size Y wx->(ZZ Y.heap.size Y wx/\wx.cell? ⟨w.heap.size,0,U⟩=Z (H A n c)/\wx.cell? ⟨w.heap.size,1,U⟩=Z (D J re)/\wx.cell? ⟨w.heap.size,2,U⟩=Z (D J lo)/\wx.cell? ⟨wr.heap.size,0,U⟩=Z (D J xf)/\wx.cell? ⟨wr.heap.size,1,U⟩=Z (D J xl)/\wx.cell? ⟨wr.heap.size,2,U⟩=Z (G xfar)/\wx.cell? ⟨wr.heap.size,3,U⟩=Z (D J xpc)/\wx.cell? ⟨wr.heap.size,4,U⟩=Z (G xo)) from
       fun wx h=>⟨h,((eE.below h eE.lt).cell 0).trans rfl,((eE.below h eE.lt).cell 1).trans rfl,((eE.below h eE.lt).cell 2).trans rfl,((eP.below h eP.lt).cell 0).trans rfl,((eP.below h eP.lt).cell 1).trans rfl,((eP.below h eP.lt).cell 2).trans rfl,((eP.below h eP.lt).cell 3).trans rfl,((eP.below h eP.lt).cell 4).trans rfl⟩)
      first
       | go_region_held3 (fun wx=>ZZ Y.heap.size Y wx/\wx.cell? ⟨w.heap.size,0,U⟩=Z (H A n c)/\wx.cell? ⟨w.heap.size,1,U⟩=Z (D J re)/\wx.cell? ⟨w.heap.size,2,U⟩=Z (D J lo)/\wx.cell? ⟨wr.heap.size,0,U⟩=Z (D J xf)/\wx.cell? ⟨wr.heap.size,1,U⟩=Z (D J xl)/\wx.cell? ⟨wr.heap.size,2,U⟩=Z (G xfar)/\wx.cell? ⟨wr.heap.size,3,U⟩=Z (D J xpc)/\wx.cell? ⟨wr.heap.size,4,U⟩=Z (G xo)) (first | assumption | exact KP.out _ (M _ _).drew | exact KP.out _ (zAa (And.left (by assumption)) (by assumption) (Below.size (And.left (by assumption)))))
         (first
          | (go_at_call 116;refine (zJa lA.out _ (pq.below (And.left (by assumption))) hv gQ.out.1 gQ.out.2).mono ?_;rintro e wd ⟨rfl,hbd⟩)
          | (go_at_call 115;refine (zCT ot.out _).mono ?_;rintro e we ⟨rfl,rfl⟩))
       | fail
      all_goals
       have hbf:=zAa bh (And.left (show ZZ Y.heap.size Y _/\_ from by assumption)) bh.size;go_wp2_with fail
       go_roundw
       case rel=>exact ⟨i+1,Y5,by omega,by go_num,rfl,hbf,gK,y5⟩
       case measure=>simp [intOf];omega
    ·have hin:i=m:=by omega
     have j1:¬(i:Int) < (m:Int):=by omega
     have hV:∃V:List UInt8,V=T++(if path=[] then [] else [60])/\((¬0 < (m:Int)/\V=T)∨(0 < (m:Int)/\∀w,(Op.stringOp .add (bA T) ⟨#[60]⟩).run ZX w=.ok (W (bA V)) w)):=by
      by_cases h0:path=[]
      ·exact ⟨T,by rw [qP h0];simp,.inl ⟨by rw [<-aL.out,h0];simp,rfl⟩⟩
      ·have:0 < m:=by rw [<-aL.out];exact List.length_pos_iff.2 h0
       exact ⟨T++[60],by rw [qN h0],.inr ⟨by omega,zAl rfl _ _ rfl rfl (by omega) (by simp)⟩⟩
     obtain ⟨V,Cw,hV⟩:=hV;have hVl:V.length<=45+i*50:=by rw [Cw];split<;>simp<;>omega
     obtain ⟨Z2,iL⟩:∃ZS,V++PL=ZS:=⟨_,rfl⟩
     have t2:=zAl iL _ _ rfl rfl (by omega) (by omega)
     have HR:=qH (show bA Z2=bA (zAZ L _) by
      rw [HT.out,<-iL,<-cc.out,Cw,cQ.out,hin,<-aL.out];simp [zBu])
     obtain ⟨b0,b1,b2⟩:=cQ3 hfr;obtain ⟨-,-,d2,d3,d4,d5,d6,-⟩:=cQ8 hor;clear hin iL cQ HT Cw hVl;rcases hV with ⟨hu,rfl⟩ | ⟨hu,Av⟩
     all_goals
      go_wp2_with fail
      refine (zJa cc.out _ ft hv dd.out.1 dd.out.2).mono ?_;rintro e wd ⟨rfl,hbd⟩;have hbf:=zAa hbw hbd hbw.size;clear b0 b1 b2 d2 d3 d4 d5 d6;go_wp2_with fail
      go_ret;exact ⟨zCp HR.out,hbf⟩
end Go.Proofs.YtlmdfmnbcndhoaaGreatDoor
namespace Go.Proofs
theorem Tryz.lays166:Go.Proofs.Lays.n166 ZX Tryz.lays156_ren:=by
 have L:=Tryz.lays156;exact { mixed:=L.mixed,f166:=L.f166,f240:=L.f240,f276:=L.f276,t0:=L.t0,a0:=L.a0,z0:=L.z0,v0:=L.v0,t3:=L.t3,a3:=L.a3,z3:=L.z3,v3:=L.v3,t4:=L.t4,a4:=L.a4,z4:=L.z4,v4:=L.v4,t9:=L.t9,a9:=L.a9,z9:=L.z9,v9:=L.v9,t20:=L.t20,a20:=L.a20,z20:=L.z20,v20:=L.v20,t37:=L.t37,a37:=L.a37,z37:=L.z37,v37:=L.v37,t70:=L.t70,a70:=L.a70,z70:=L.z70,v70:=L.v70,t72:=L.t72,a72:=L.a72,z72:=L.z72,v72:=L.v72,t75:=L.t75,a75:=L.a75,z75:=L.z75,v75:=L.v75,t164:=L.t164,a164:=L.a164,z164:=L.z164,v164:=L.v164 }
end Go.Proofs
namespace Go.Proofs.YtlmdfmnbcndhoaaGreatDoor
abbrev IsB (b:Nat) (T:List UInt8) (w:ZY):Prop:=Lib.IsBuilder 101 5 b b (Lib.byteCells T) w
theorem zJb (b:Nat) (T S:List UInt8) (w:ZY) (h:IsB b T w) (hl:T.length+S.length<=140737488355328) (hb:b<=w.heap.size) :
  Calls ZX 59 #[.pointer (Z ⟨b,0,U⟩),W (bA S)] w fun e w'=>(∃x y,e=.returned (.tuple #[x,y]))/\IsB b (T++S) w'/\ZZ b w w':=by
 refine (Any.Builder_WriteString Tryz.lays166 Tryz.Builder_Extra_156 b b (Lib.byteCells T) (bA S) w h (by rw [Lib.byteCells_length,zAH];exact hl) hb).mono ?_;rintro e w' ⟨rfl,h1,h2⟩;refine ⟨⟨_,_,rfl⟩,.inr ?_,h2⟩;rw [Lib.byteCells_append,<-zDG S];exact h1
theorem zKw (b:Nat) (T:List UInt8) (w:ZY) (h:IsB b T w) (hb:b<=w.heap.size) :
  Calls ZX 61 #[.pointer (Z ⟨b,0,U⟩)] w fun e w'=>e=.returned (W (bA T))/\ZZ b w w':=Tryz.Builder_String_any b b T w h hb
theorem zKx {b:Nat} {T:List UInt8} {w w':ZY} (h:IsB b T w) (hb:ZZ w.heap.size w w'):IsB b T w':=by
 have key:∀p,Lib.BuilderAt 101 5 b b p (Lib.byteCells T) w->Lib.BuilderAt 101 5 b b p (Lib.byteCells T) w':=fun p hp=>by
  have hlt:=hp.lt;obtain ⟨h0,v,h1,h2,h3⟩:=hp;exact ⟨h0,v,(hb.block b hlt).trans h1,h2.kept (row:=U) ⟨hb.os,hb.tape,hb.output,hb.size,fun k hk _=>hb.block k hk⟩ (by cases e:v.ownBlock with | none=>exact .inl rfl | some k=>exact .inr (by simp)),h3⟩
 exact h.imp (key _) (key _)
theorem zUA (w:ZY):IsB w.heap.size [] (w.alloc (.cells #[.pointer U,H U 0 0] 101)) :=
 .inl ⟨O _,H U 0 0,Blk.new w _ _,World.ownsRow_nil _ _ _ _,by simp [Value.ownBlock]⟩
def zCf (L:List Fg) (ZM:List Og):List UInt8:=ZM.flatMap fun o=>zBg L o++[10]
def zWu (Es:List Oe):Prop:=∀e∈Es,e.n<=10000
theorem zKy {L:List Fg} {re lo:Int} (hv:frOk L re lo) {o:Og} (hr:zAf L.length o=Q):(zBg L o).length<=300+o.path.length*120:=by
 obtain ⟨h1,h8,dj,bt,hpn,hfrn⟩:=zAS hr;have a:=zBy hv dj bt;have b:=zKp o.kind;have c:=zFb o.over;have p:=zKq hv hpn;have t:(zCL L o).length<=200+o.path.length*120:=by
  unfold zCL;by_cases e4:o.kind=4
  ·rw [qP e4];simp;omega
  ·rw [qN e4];by_cases e3:o.kind=3
   ·rw [qP e3];have:=zCq hv (hfrn (.inl e3));simp;omega
   ·rw [qN e3];by_cases e5:o.kind=5
    ·rw [qP e5];have:=zCq hv (hfrn (.inr (.inl e5)));simp;omega
    ·rw [qN e5];by_cases e6:o.kind=6
     ·rw [qP e6];have hn:=zAh.1 (hfrn (.inr (.inr (.inl e6))));have:=zBy hv hn.1 hn.2.1;simp;omega
     ·rw [qN e6];by_cases e7:o.kind=7
      ·rw [qP e7];have hn:=zAh.1 (hfrn (.inr (.inr (.inr e7))));have:=zBy hv hn.1 hn.2.1;simp;omega
      ·rw [qN e7];simp
 unfold zBg;simp;omega
theorem zUB {A:Option Addr} {n c:Nat} {L:List Fg} {re lo:Int} {o:Og} {S:List UInt8} (h:zBg L o=S) (B:Option Addr) (m d:Nat) (w:ZY) (hA:Fgs w A n L) (hv:frOk L re lo) (hO:OpIn w o B m d) (hr:zAf n o=Q) (hm:m<=10000) (ht:Tabs w) :
  Calls ZX 60 #[frV A n c re lo,opV o B m d] w fun e w'=>e=.returned (W (bA S))/\ZZ w.heap.size w w':=by
 subst h;exact zIy A n c L re lo o B m d w hA hv hO hr hm ht
theorem zLC (A:Option Addr) (n c:Nat) (L:List Fg) (re lo:Int) (B:Option Addr) (m d:Nat) (Es:List Oe) (w:ZY) (hA:Fgs w A n L) (hc:n<=c) (hO:Oprs w B m Es) (hm:m<=10000) (hf:zWu Es) (ht:Tabs w) :
  Calls ZX 22 #[frV A n c re lo,H B m d] w fun e w'=>e=.returned (.tuple #[W (bA (if zAW L re lo (Es.map (·.o))=0 then zCf L (Es.map (·.o)) else [])),D J (zAW L re lo (Es.map (·.o)))])/\ZZ w.heap.size w w':=by
 have aL:=qH hO.len;have dZ:=qH hA.len;have ah:ZZ w.heap.size w (w.alloc (.cells #[H A n c,D J re,D J lo] 24)):=(M _ _).alloc (O _) _;have hk0:Blk (w.alloc (.cells #[H A n c,D J re,D J lo] 24)) w.heap.size 24 #[H A n c,D J re,D J lo]:=Blk.new _ _ _;have hC:=zEG A n c L re lo B m d Es _ (hA.below ah) hc (hO.below ah);have hcase:=zDI L re lo (Es.map (·.o));obtain ⟨ZQ,hE⟩:∃ZQ,zAW L re lo (Es.map (·.o))=ZQ:=⟨_,rfl⟩
 rw [hE] at hcase hC ⊢;have HC:=qH hC;have ra:=qH hf;clear hE hC hf;rcases hcase with ⟨rfl,hfr,hro⟩ | rfl
 ·have hri:∀i,i < m->zAf n (oa Es i).o=Q:=fun i hi=>by
   have:=hro _ (List.mem_map_of_mem (List.mem_of_getElem? (zBC (L:=Es) (i:=i) (by rw [aL.out];exact hi))));rw [dZ.out] at this;exact this
  have nW:=qH hri;clear hro hri;go_enter Tryz.func22,Tryz.ntmps22;go_wp2_with fail
  refine HC.out.mono ?_;rintro e w2 ⟨rfl,ai⟩;have al:=zAa ah ai ah.size;have hk2:=hk0.below ai hk0.lt;have lc:=hA.below al;have il:=hO.below al;have ht2:=ht.below al;clear HC ah hk0 ai;go_wp2_with fail
  have hI:=zUA w2;have bh:ZZ w2.heap.size w2 (w2.alloc (.cells #[.pointer U,H U 0 0] 101)):=(M _ _).alloc (O _) _;have wj:(w2.alloc (.cells #[.pointer U,H U 0 0] 101)).heap.size=w2.heap.size+1:=by simp
  generalize w2.alloc (.cells #[.pointer U,H U 0 0] 101)=ZO at hI bh wj ⊢;have HZ4:=qH wj;clear wj;go_loopw [18] (fun v wr=>∃(i:Nat) (T:List UInt8),i<=m/\v=D J i/\ZZ w2.heap.size w2 wr/\IsB w2.heap.size T wr/\Hid (T=zCf L ((Es.take i).map (·.o)))/\T.length<=i*1300000/\w2.heap.size<=wr.heap.size) (fun v _=>m-(intOf v).toNat)
  case atStart=>exact ⟨0,[],Nat.zero_le _,rfl,bh,hI,qH (by simp [zCf]),by simp,by have:=HZ4.out;omega⟩
  case round =>
   obtain ⟨i,T,hi,rfl,hbr,CS,HT,jM,hzr⟩:=hrel;clear hI bh;have hkr:=hk2.below hbr hk2.lt;by_cases hlt:i < m
   ·obtain ⟨g,p,rfl,hg,⟨x0,x1,x2,x3,x4,x5,x6,x7⟩,hin⟩:=(il.below hbr).at_ hlt;have j0:(0:Int)<=(i:Int):=by omega
    have j1:(i:Int) < (m:Int):=by omega
    have qO:=zBC (L:=Es) (i:=i) (by rw [aL.out];exact hlt);have hpn:=ra.out _ (List.mem_of_getElem? qO);have hri:=nW.out i hlt;have hsn:zCf L ((Es.take (i+1)).map (·.o))=zCf L ((Es.take i).map (·.o))++(zBg L (oa Es i).o++[10]):=by
     unfold zCf;rw [List.take_add_one,qO];simp
    have hll:=zKy hfr (o:=(oa Es i).o) (by rw [dZ.out];exact hri);generalize oa Es i=x at x0 x1 x2 x3 x4 x5 x6 x7 hin hpn hri hsn hll qO;obtain ⟨⟨kind,f,⟨ff,fl,ffar,fpc⟩,path,over⟩,PA,pn,pc⟩:=x;simp only at x0 x1 x2 x3 x4 x5 x6 x7 hin hpn hri hsn hll;have hpl:path.length=pn:=hin.path.len;obtain ⟨LN,CP⟩:∃X,zBg L ⟨kind,f,⟨ff,fl,ffar,fpc⟩,path,over⟩=X:=⟨_,rfl⟩
    rw [CP] at hsn hll;obtain ⟨L1,vm⟩:∃X,LN++[10]=X:=⟨_,rfl⟩
    have ik:L1.length<=1300000:=by rw [<-vm];simp;omega
    have s1:=zAl vm _ ⟨#[10]⟩ rfl rfl (by omega) (by simp);rw [vm] at hsn;have HSN:=qH (show T++L1=zCf L ((Es.take (i+1)).map (·.o)) by rw [hsn,HT.out]);have Cy:(T++L1).length<=(i+1)*1300000:=by rw [List.length_append,Nat.add_mul];omega
    have az:ZZ w2.heap.size w2 (wr.alloc (.cells #[D J kind,D J f,D J ff,D J fl,G ffar,D J fpc,H PA pn pc,G over] 32)):=hbr.alloc hbr.size _;have CT:=zKx CS ((M wr.heap.size wr).alloc (O _) (.cells #[D J kind,D J f,D J ff,D J fl,G ffar,D J fpc,H PA pn pc,G over] 32));have jZ:=hkr.alloc (.cells #[D J kind,D J f,D J ff,D J fl,G ffar,D J fpc,H PA pn pc,G over] 32);have nE:=hin.below ((M wr.heap.size wr).alloc (O _) (.cells #[D J kind,D J f,D J ff,D J fl,G ffar,D J fpc,H PA pn pc,G over] 32));have bo:=qH (zUB (c:=c) CP PA pn pc _ (lc.below az) hfr nE hri hpn (ht2.below az));have qb:=qH (show T.length+L1.length<=140737488355328 by omega);have y0:=(jZ.cell 0).trans rfl;have y1:=(jZ.cell 1).trans rfl;have y2:=(jZ.cell 2).trans rfl;have BL:w2.heap.size<=(wr.alloc (.cells #[D J kind,D J f,D J ff,D J fl,G ffar,D J fpc,H PA pn pc,G over] 32)).heap.size:=by simp;omega
    clear CP vm hsn hll hin nE hpn hri qO HT ik hpl;go_wp2_with fail
    refine bo.out.mono ?_;rintro e w6 ⟨rfl,aM⟩;have Ft:=zKx CT aM;have cV:=zAa az aM az.size;have hz6:w2.heap.size<=w6.heap.size:=by have:=aM.size;omega
    clear y0 y1 y2 x0 x1 x2 x3 x4 x5 x6 x7 CT az jZ BL hbr CS hkr bo;go_wp2_with fail
    refine (zJb w2.heap.size T L1 w6 Ft qb.out hz6).mono ?_;rintro e w8 ⟨⟨r1,r2,rfl⟩,Fs,cz⟩;have bn:ZZ w2.heap.size w2 w8:=cV.trans cz;have wh:w2.heap.size<=w8.heap.size:=by have:=cz.size;omega
    have Bf:=qH Fs;clear Ft cV cz Fs;go_wp2_with fail
    go_roundw
    case rel=>exact ⟨i+1,T++L1,by omega,by go_num,bn,Bf.out,HSN,Cy,wh⟩
    case measure=>simp [intOf];omega
   ·have j1:¬(i:Int) < (m:Int):=by omega
    have hin:i=m:=by omega
    have HR:=qH (show T=zCf L (Es.map (·.o)) by rw [HT.out,hin,<-aL.out,List.take_length]);clear hin HT;go_wp2_with fail
    refine (zKw w2.heap.size T wr CS hzr).mono ?_;rintro e w8 ⟨rfl,cz⟩;have bn:ZZ w.heap.size w w8:=zAa al (hbr.trans cz) al.size;go_wp2_with fail
    go_ret2;exact ⟨by rw [HR.out];simp,bn⟩
 ·go_enter Tryz.func22,Tryz.ntmps22;go_wp2_with fail
  refine HC.out.mono ?_;rintro e w2 ⟨rfl,ai⟩;have al:=zAa ah ai ah.size;go_wp2_with fail
  go_ret2;exact ⟨rfl,al⟩
abbrev zDE (S:List UInt8):Value:=W (bA S)
theorem zJc:(Tryz.prog.info? 9).map (fun i=>(i.zero,i.size,i.bytes))=Z (Z (W ⟨#[]⟩),1,16):=by kernel_rfl
theorem zLD {w:ZY} {ops:Array Oper} {rest:List Oper} {o:Oper} {a:Act} {ZP:Exit->Act->ZY->Prop} (hgd:o.guard=U) (s x:Operand)
  (ho:o.op=.call { callee:=.builtin .append,args:=#[s,x],argTypes:=#[112,112] })
  {base:Nat} {A:Option Addr} {n c:Nat} {Ss:List (List UInt8)} (hst:Row w base 1 A n c (Ss.map zDE)) (S:List UInt8)
  (hs:a.eval s=H A n c) (hx:a.eval x=H (Z ⟨w.heap.size,0,U⟩) 1 1) (N:Nat) (hN:n+1=N) (hn:N<=1000000) (hbase:base<=w.heap.size)
  (h:∀A' c' w',Row w' base 1 A' N c' ((Ss++[S]).map zDE)->ZZ base w w'->wpList ZX ops ZP rest (a.put o.dst (H A' N c')) w') :
  wpList ZX ops ZP (o :: rest) a (w.alloc (.cells #[W (bA S)] 9)):=by
 obtain ⟨i0,hi,cD,bu,cM⟩:=info_parts zJc;have hbl:=(M w.heap.size w).alloc (O _) (.cells #[W (bA S)] 9);have cS:=hst.below hbl
 refine zRt hgd s x 112 ho 9 i0 _ 1 16 Tryz.underlying112 hi cD bu cM rfl (by decide) cS (Src.new (m:=1) (cs:=[W (bA S)]) rfl)
  (by intro u hu;simp at hu;subst hu;rfl) hs hx N hN (by unfold maxLen;omega) (by omega) (by simp;omega) ?_
 intro A' c' w' h1 h2 _ _;refine h A' c' w' (by rw [List.map_append];exact h1) ?_;exact ((M _ _).alloc hbase _).trans (cS.belowOf h2 (by simp;omega))
def zCV (L:List Fg) (ZM:List Og):List UInt8:=Lib.join (ZM.map (zAZ L)) [32]
theorem zIz {L:List Fg} {re lo:Int} (hv:frOk L re lo) {P:List Sp} (h:∀x∈P,zAo L.length x.s=Q):∀i,i<=P.length->(zBD L P i).length<=i*50
 | 0,_=>by simp [zBD]
 | i+1,hi=>by
  have ih:=zIz hv h i (by omega);have hn:=zAh.1 (h _ (List.mem_of_getElem? (zCm (L:=P) (i:=i) (by omega))));have a:=zCr hv hn.1 hn.2.1;have b:=zCz (pa P i).over;have c:(if 0 < i then [44] else []:List UInt8).length<=1:=by split<;>simp
  rw [zBD,zGr];simp only [List.length_append];omega
theorem zKz {L:List Fg} {re lo:Int} (hv:frOk L re lo) {o:Og} (hr:zAf L.length o=Q):(zAZ L o).length<=200+o.path.length*50:=by
 obtain ⟨h1,h8,dj,bt,hpn,hfrn⟩:=zAS hr;have a:=zBy hv dj bt;have b:=zKv o.kind;have c:=zCz o.over;have p:=zIz hv hpn o.path.length (O _);have t:(zBu L o).length<=100+o.path.length*50:=by
  unfold zBu;by_cases e4:o.kind=4
  ·rw [qP e4];omega
  ·rw [qN e4];by_cases e3:o.kind=3
   ·rw [qP e3];have hn:=zAh.1 (hfrn (.inl e3));have:=zCr hv hn.1 hn.2.1;have q:(if o.path=[] then [] else [60]:List UInt8).length<=1:=by split<;>simp
    simp only [List.length_append];omega
   ·rw [qN e3];by_cases e5:o.kind=5
    ·rw [qP e5];have hn:=zAh.1 (hfrn (.inr (.inl e5)));have:=zCr hv hn.1 hn.2.1;simp only [List.length_append];omega
    ·rw [qN e5];by_cases e6:o.kind=6∨o.kind=7
     ·rw [qP e6];have hn:=zAh.1 (hfrn (by omega));have:=zBy hv hn.1 hn.2.1;simp only [List.length_append];omega
     ·rw [qN e6];simp
 unfold zAZ;simp only [List.length_append];omega
theorem zMF {b:Nat} (sep:List UInt8) (hs:sep.length<=1):∀{xs:List (List UInt8)},(∀x∈xs,x.length<=b)->(Lib.join xs sep).length<=xs.length*(b+1)
 | [],_=>by simp [Lib.join_nil]
 | x :: r,h=>by
  have hx:=h x (List.mem_cons_self ..);have hr:((r.map (sep++·)).flatten).length<=r.length*(b+1):=by
   have hh:∀y∈r,y.length<=b:=fun y hy=>h y (List.mem_cons_of_mem _ hy)
   clear h
   induction r with
   | nil=>simp
   | cons y r ih =>
    have:=ih fun z hz=>hh z (List.mem_cons_of_mem _ hz)
    have hy:=hh y (List.mem_cons_self ..);rw [List.map_cons,List.flatten_cons,List.length_append,List.length_append,List.length_cons,Nat.add_mul];omega
  rw [Lib.join_cons,Lib.joinTail,List.length_append,List.length_cons,Nat.add_mul];omega
theorem zMG {w:ZY} {base:Nat} {A:Option Addr} {n c:Nat} {Ss:List (List UInt8)} (h:Row w base 1 A n c (Ss.map zDE)) (hn:n<=1000000) (hl:(Lib.join Ss [32]).length<=140737488355328) :
  Calls ZX 69 #[H A n c,W ⟨#[32]⟩] w fun e w'=>e=.returned (W (bA (Lib.join Ss [32])))/\ZZ w.heap.size w w':=by
 have hlen:Ss.length=n:=by have:=h.len;simpa using this
 cases A with
 | none =>
  have h0:=h.nil rfl;have h1:=h.cap;obtain rfl:n=0:=by omega
  obtain rfl:Ss=[]:=List.length_eq_zero_iff.1 hlen;refine (Tryz.strings_Join_none U c ⟨#[32]⟩ w).mono ?_;rintro e w' ⟨rfl,rfl⟩;exact ⟨rfl,M _ _⟩
 | some ad =>
  obtain ⟨h1,_,h3,h4,_⟩:=h.at_ ad rfl;have hx:(Ss.map bA).length=n:=by rw [List.length_map];exact hlen
  have hm:(Ss.map bA).map (fun x:ByteArray=>x.data.toList)=Ss:=by
   rw [List.map_map]
   conv=>rhs;rw [<-List.map_id Ss]
   apply List.map_congr_left;intro x _;exact zDG x
  have hj:=Tryz.strings_Join ad.block ad.off c (Ss.map bA) ⟨#[32]⟩ w (fun j x hxj=>h4 j _ (by
   rw [List.getElem?_map] at hxj ⊢
   cases e:Ss[j]? with
   | none=>rw [e] at hxj;cases hxj
   | some y=>rw [e] at hxj;simp only [Option.map_some,Option.some.injEq] at hxj ⊢;show Value.string (bA y)=_;rw [hxj])) h3 (by omega) (by rw [hx];exact h.cap) (by rw [hm];exact hl)
  rw [hx,hm] at hj;rw [zIV h1];exact hj
def zRu (L:List Fg) (re lo:Int) (ZM:List Og):Int:=if zAW L re lo ZM=0 then (if ZM.all (zBN L) then 0 else 8) else zAW L re lo ZM
def zUC (L:List Fg) (re lo:Int) (ZM:List Og):List UInt8:=if zRu L re lo ZM=0 then zCV L ZM else []
theorem zWv {A:Option Addr} {n c:Nat} {L:List Fg} {re lo:Int} {o:Og} {q:Bool} (h:zBN L o=q) (B:Option Addr) (m d:Nat) (w:ZY) (hA:Fgs w A n L) (hO:OpIn w o B m d) (hr:zAf n o=Q) :
  Calls ZX 67 #[frV A n c re lo,opV o B m d] w fun e w'=>e=.returned (G q)/\ZZ w.heap.size w w':=by
 subst h;exact zKt A n c L re lo o B m d w hA hO hr
theorem zUD {A:Option Addr} {n c:Nat} {L:List Fg} {re lo:Int} {o:Og} {S:List UInt8} (h:zAZ L o=S) (B:Option Addr) (m d:Nat) (w:ZY) (hA:Fgs w A n L) (hv:frOk L re lo) (hO:OpIn w o B m d) (hr:zAf n o=Q) (hm:m<=10000) :
  Calls ZX 68 #[frV A n c re lo,opV o B m d] w fun e w'=>e=.returned (W (bA S))/\ZZ w.heap.size w w':=by
 subst h;exact zNQ A n c L re lo o B m d w hA hv hO hr hm
theorem zUE {L:List Fg} {re lo:Int} {Es:List Oe} {i:Nat} (h0:zAW L re lo (Es.map (·.o))=0) (hi:i < Es.length) (h:zBN L (oa Es i).o=E):zRu L re lo (Es.map (·.o))=8:=by
 have:(Es.map (·.o)).all (zBN L)=E:=by
  cases e:(Es.map (·.o)).all (zBN L) with
  | false=>rfl
  | true=>rw [List.all_eq_true] at e;have:=e _ (List.mem_map_of_mem (List.mem_of_getElem? (zBC hi)));rw [h] at this;cases this
 unfold zRu;rw [qP h0,this];rfl
theorem zUF {L:List Fg} {re lo:Int} {Es:List Oe} (h0:zAW L re lo (Es.map (·.o))=0) (h:∀i,i < Es.length->zBN L (oa Es i).o=Q):zRu L re lo (Es.map (·.o))=0:=by
 have:(Es.map (·.o)).all (zBN L)=Q:=by
  rw [List.all_eq_true];intro x hx;obtain ⟨e,he,rfl⟩:=List.mem_map.1 hx;obtain ⟨i,hi⟩:=List.getElem?_of_mem he;have hlt:=(List.getElem?_eq_some_iff.1 hi).1;have h2:=h i hlt;have h3:=zBC hlt;rw [hi] at h3;injection h3 with h3
  rw [h3];exact h2
 unfold zRu;rw [qP h0,this];rfl
theorem zLE (A:Option Addr) (n c:Nat) (L:List Fg) (re lo:Int) (B:Option Addr) (m d:Nat) (Es:List Oe) (w:ZY) (hA:Fgs w A n L) (hc:n<=c) (hO:Oprs w B m Es) (hm:m<=10000) (hf:zWu Es) :
  Calls ZX 28 #[frV A n c re lo,H B m d] w fun e w'=>e=.returned (.tuple #[W (bA (zUC L re lo (Es.map (·.o)))),D J (zRu L re lo (Es.map (·.o)))])/\ZZ w.heap.size w w':=by
 have aL:=qH hO.len;have dZ:=qH hA.len;have ah:ZZ w.heap.size w (w.alloc (.cells #[H A n c,D J re,D J lo] 24)):=(M _ _).alloc (O _) _;have hk0:Blk (w.alloc (.cells #[H A n c,D J re,D J lo] 24)) w.heap.size 24 #[H A n c,D J re,D J lo]:=Blk.new _ _ _;have hC:=zEG A n c L re lo B m d Es _ (hA.below ah) hc (hO.below ah);have hcase:=zDI L re lo (Es.map (·.o));obtain ⟨ZQ,hE⟩:∃ZQ,zAW L re lo (Es.map (·.o))=ZQ:=⟨_,rfl⟩
 rw [hE] at hcase hC;have HC:=qH hC;have HE:=qH hE;have ra:=qH hf;clear hE hC hf;rcases hcase with ⟨rfl,hfr,hro⟩ | rfl
 ·have hri:∀i,i < m->zAf n (oa Es i).o=Q:=fun i hi=>by
   have:=hro _ (List.mem_map_of_mem (List.mem_of_getElem? (zBC (L:=Es) (i:=i) (by rw [aL.out];exact hi))));rw [dZ.out] at this;exact this
  have nW:=qH hri;clear hro hri;go_enter Tryz.func28,Tryz.ntmps28;go_wp2_with fail
  refine HC.out.mono ?_;rintro e w2 ⟨rfl,ai⟩;have al:=zAa ah ai ah.size;have hk2:=hk0.below ai hk0.lt;have lc:=hA.below al;have il:=hO.below al;clear HC ah hk0 ai;go_wp2_with fail
  go_loopw [7,18] (fun v7 v wr=>∃(i:Nat) (A':Option Addr) (c':Nat) (Ss:List (List UInt8)),i<=m/\v=D J i/\v7=H A' i c'/\Row wr w2.heap.size 1 A' i c' (Ss.map zDE)/\ZZ w2.heap.size w2 wr/\Hid (Ss=(Es.take i).map fun e=>zAZ L e.o)/\Hid (∀j:Nat,j < i->zBN L (oa Es j).o=Q)/\w2.heap.size<=wr.heap.size) (fun _ v _=>m-(intOf v).toNat)
  case atStart=>exact ⟨0,U,0,[],Nat.zero_le _,rfl,rfl,Row.none_ _ _ _,M _ _,qH (by simp),qH (fun j hj=>by omega),O _⟩
  case round =>
   obtain ⟨i,A',c',Ss,hi,rfl,rfl,hR,hbr,HT,HS,hzr⟩:=hrel;have hkr:=hk2.below hbr hk2.lt;by_cases hlt:i < m
   ·obtain ⟨g,p,rfl,hg,⟨x0,x1,x2,x3,x4,x5,x6,x7⟩,hin⟩:=(il.below hbr).at_ hlt;have j0:(0:Int)<=(i:Int):=by omega
    have j1:(i:Int) < (m:Int):=by omega
    have qO:=zBC (L:=Es) (i:=i) (by rw [aL.out];exact hlt);have hpn:=ra.out _ (List.mem_of_getElem? qO);have hri:=nW.out i hlt;have hsn:((Es.take (i+1)).map fun e=>zAZ L e.o)=((Es.take i).map fun e=>zAZ L e.o)++[zAZ L (oa Es i).o]:=by
     rw [List.take_add_one,qO];simp
    obtain ⟨q,hq⟩:∃q,zBN L (oa Es i).o=q:=⟨_,rfl⟩
    have HQ:=qH hq;generalize oa Es i=x at x0 x1 x2 x3 x4 x5 x6 x7 hin hpn hri hsn qO hq;obtain ⟨⟨kind,f,⟨ff,fl,ffar,fpc⟩,path,over⟩,PA,pn,pc⟩:=x;simp only at x0 x1 x2 x3 x4 x5 x6 x7 hin hpn hri hsn hq;obtain ⟨IT,im⟩:∃X,zAZ L ⟨kind,f,⟨ff,fl,ffar,fpc⟩,path,over⟩=X:=⟨_,rfl⟩
    rw [im] at hsn;have HT1:=qH (show Ss++[IT]=(Es.take (i+1)).map fun e=>zAZ L e.o by rw [hsn,HT.out]);have az:ZZ w2.heap.size w2 (wr.alloc (.cells #[D J kind,D J f,D J ff,D J fl,G ffar,D J fpc,H PA pn pc,G over] 32)):=hbr.alloc hbr.size _;have Fj:=hR.alloc (.cells #[D J kind,D J f,D J ff,D J fl,G ffar,D J fpc,H PA pn pc,G over] 32);have jZ:=hkr.alloc (.cells #[D J kind,D J f,D J ff,D J fl,G ffar,D J fpc,H PA pn pc,G over] 32);have ya:Blk (wr.alloc (.cells #[D J kind,D J f,D J ff,D J fl,G ffar,D J fpc,H PA pn pc,G over] 32)) wr.heap.size 32 #[D J kind,D J f,D J ff,D J fl,G ffar,D J fpc,H PA pn pc,G over]:=Blk.new _ _ _;have nE:=hin.below ((M wr.heap.size wr).alloc (O _) (.cells #[D J kind,D J f,D J ff,D J fl,G ffar,D J fpc,H PA pn pc,G over] 32));have ox:=qH (zWv (c:=c) (re:=re) (lo:=lo) hq PA pn pc _ (lc.below az) nE hri);have fw:=qH (fun wx (fM:Fgs wx A n L) hOx=>zUD (c:=c) im PA pn pc wx fM hfr hOx hri hpn);have y0:=(jZ.cell 0).trans rfl;have y1:=(jZ.cell 1).trans rfl;have y2:=(jZ.cell 2).trans rfl;clear im hsn hin hpn hri qO hq HT
    cases q with
    | false =>
     have hr:=qH (zUE (L:=L) (re:=re) (lo:=lo) (Es:=Es) (i:=i) HE.out (by rw [aL.out];exact hlt) HQ.out);go_wp2_with fail
     refine ox.out.mono ?_;rintro e w6 ⟨rfl,aM⟩;have cV:=zAa az aM az.size;clear y0 y1 y2 x0 x1 x2 x3 x4 x5 x6 x7;go_wp2_with fail
     go_ret2;exact ⟨by unfold zUC;rw [hr.out];rfl,zAa al cV al.size⟩
    | true =>
     have cR:=qH (show ∀j:Nat,j < i+1->zBN L (oa Es j).o=Q from fun j hj=>by
      rcases Nat.decEq j i with e | e
      ·exact HS.out j (by omega)
      ·subst e;exact HQ.out)
     clear HS HQ;go_wp2_with fail
     refine ox.out.mono ?_;rintro e w6 ⟨rfl,aM⟩;have cV:=zAa az aM az.size;have Fi:=Fj.below aM;have wu:=jZ.below aM jZ.lt;have qm:=ya.below aM ya.lt;have ym:=nE.below aM;have z0:=(wu.cell 0).trans rfl;have z1:=(wu.cell 1).trans rfl;have z2:=(wu.cell 2).trans rfl;have v0:=(qm.cell 0).trans rfl;have v1:=(qm.cell 1).trans rfl;have v2:=(qm.cell 2).trans rfl;have v3:=(qm.cell 3).trans rfl;have v4:=(qm.cell 4).trans rfl;have v5:=(qm.cell 5).trans rfl;have v6:=(qm.cell 6).trans rfl;have v7:=(qm.cell 7).trans rfl;clear y0 y1 y2 x0 x1 x2 x3 x4 x5 x6 x7 Fj jZ ya nE hR hbr hkr ox;go_wp2_with fail
     refine (fw.out _ (lc.below cV) ym).mono ?_;rintro e w8 ⟨rfl,cz⟩;have Fh:=Fi.below cz;have bn:=zAa cV cz cV.size;have wh:w2.heap.size<=w8.heap.size:=bn.size;clear z0 z1 z2 v0 v1 v2 v3 v4 v5 v6 v7 Fi wu qm ym aM cV az fw;go_wp2_with (at_builtin;refine zLD rfl _ _ rfl Fh IT rfl rfl (i+1) rfl (by omega) wh ?_;intro A2 c2 w9 hR9 co)
     have yy:=bn.trans co;have At:w2.heap.size<=w9.heap.size:=yy.size;clear Fh cz bn co;go_wp2_with fail
     go_roundw
     case rel=>exact ⟨i+1,A2,c2,Ss++[IT],by omega,by go_num,rfl,hR9,yy,HT1,cR,At⟩
     case measure=>simp [intOf];omega
   ·have j1:¬(i:Int) < (m:Int):=by omega
    have hin:i=m:=by omega
    have qG:Ss=(Es.map (·.o)).map (zAZ L):=by
     rw [HT.out,hin,<-aL.out,List.take_length,List.map_map];rfl
    have hr:=qH (zUF (L:=L) (re:=re) (lo:=lo) (Es:=Es) HE.out (fun j hj=>HS.out j (by rw [aL.out] at hj;omega)));have hjl:(Lib.join Ss [32]).length<=140737488355328:=by
     have hb:∀x∈Ss,x.length<=600000:=by
      rw [qG];intro x hx;obtain ⟨o,ho,rfl⟩:=List.mem_map.1 hx;obtain ⟨e,he,rfl⟩:=List.mem_map.1 ho;obtain ⟨k,hk⟩:=List.getElem?_of_mem he;have hlk:=(List.getElem?_eq_some_iff.1 hk).1;have hkk:=zBC hlk;rw [hk] at hkk;injection hkk with hkk
      have hri:=nW.out k (by rw [<-aL.out];exact hlk);rw [<-hkk] at hri;have h1:=zKz hfr (o:=e.o) (by rw [dZ.out];exact hri);have h2:=ra.out e he;have h3:=(il.2 e he).path.len;omega
     have:=zMF [32] (by simp) hb;have hl:Ss.length=m:=by rw [qG];simp;exact aL.out
     rw [hl] at this;have:m*(600000+1)<=10000*600001:=Nat.mul_le_mul hm (by omega);omega
    have HJ:=qH (zMG hR (by omega) hjl);have HR:=qH (show Lib.join Ss [32]=zUC L re lo (Es.map (·.o)) by unfold zUC;rw [hr.out,qP rfl];unfold zCV;rw [qG]);clear hin HT HS qG hjl hkr;go_wp2_with fail
    refine HJ.out.mono ?_;rintro e w8 ⟨rfl,cz⟩;have bn:ZZ w.heap.size w w8:=zAa al (zAa hbr cz hzr) al.size;go_wp2_with fail
    go_ret2;exact ⟨by rw [HR.out,hr.out];rfl,bn⟩
 ·have hr:=qH (show zRu L re lo (Es.map (·.o))=2 by unfold zRu;rw [HE.out];rfl);go_enter Tryz.func28,Tryz.ntmps28;go_wp2_with fail
  refine HC.out.mono ?_;rintro e w2 ⟨rfl,ai⟩;have al:=zAa ah ai ah.size;go_wp2_with fail
  go_ret2;exact ⟨by unfold zUC;rw [hr.out];rfl,al⟩
