/-
  Lemmas. Conditions: each one's own.
-/
import Derived.Test.YtlmdfmnbcndhoaaGreatDoorRt03
import Derived.Great.BuildSlice
open Go.RowKit
set_option maxHeartbeats 12800000
set_option maxRecDepth 100000
open Bool renaming false->E,true->Q
open Go.Value renaming bool->G,int->D,slice->H,string->W
open Go.IntKind renaming i64->J
open Go renaming World->ZY
open Go.Proofs.Tryz renaming prog->ZX
open Go.RowKit renaming Below->ZZ
open Go.RowKit.Below renaming refl->M
open Nat renaming le_refl->O
open Option renaming none->U,some->Z
namespace Go.Proofs.YtlmdfmnbcndhoaaGreatDoor
def zLy (L:List Fg) (x:Sp):List UInt8:=[32]++zAx x.over++[32]++zAM L x.s++[44]
def zDH (L:List Fg) (P:List Sp):List UInt8:=P.flatMap (zLy L)
def zCL (L:List Fg) (o:Og):List UInt8 :=
 if o.kind=4 then [32]++zAx o.over
 else if o.kind=3 then zDH L o.path++([32,102,114,111,109,32]++zAM L o.fr)
 else if o.kind=5 then [32,102,114,111,109,32]++zAM L o.fr++[32]++zAx o.over
 else if o.kind=6 then [32,102,114,111,109,32]++nmF L o.fr.f++[32]++zAx o.over
 else if o.kind=7 then [32,119,105,116,104,32]++nmF L o.fr.f++[32]++zAx o.over
 else []
def zBg (L:List Fg) (o:Og):List UInt8:=zAu o.kind++[32]++nmF L o.f++zCL L o
theorem zCq {L:List Fg} {re lo:Int} (hv:frOk L re lo) {s:Sg} (hs:zAo L.length s=Q):(zAM L s).length<=110:=by
 obtain ⟨h1,h2,h3,h4,h5,h6⟩:=zAh.1 hs;have a:=zBy hv h1 h2;have b:=zHg s.far;have i:=zAP (x:=s.l) ⟨by omega,by omega⟩;have j:=zAP (x:=s.pc) ⟨by omega,by omega⟩;unfold zAM;split<;>split<;>simp<;>omega
theorem zKq {L:List Fg} {re lo:Int} (hv:frOk L re lo):∀{P:List Sp},(∀x∈P,zAo L.length x.s=Q)->(zDH L P).length<=P.length*120
 | [],_=>by simp [zDH]
 | x :: P,h=>by
  have ih:=zKq hv (P:=P) fun y hy=>h y (List.mem_cons_of_mem _ hy)
  have a:=zCq hv (h x (List.mem_cons_self ..));have b:=zFb x.over;have hst:(zLy L x).length<=120:=by
   unfold zLy;simp only [List.length_append,List.length_cons,List.length_nil];omega
  unfold zDH at ih ⊢;rw [List.flatMap_cons,List.length_append,List.length_cons,Nat.add_mul];omega
theorem zIx (L:List Fg) {P:List Sp} {i:Nat} (h:i < P.length):zDH L (P.take (i+1))=zDH L (P.take i)++zLy L (pa P i):=by
 unfold zDH;rw [List.take_add_one,zCm h];simp
theorem zUx {k:Int} {S:List UInt8} (h:zAu k=S) (h0:0<=k) (h8:k<=8) (w:ZY):Calls ZX 106 #[D J k] w fun e w'=>e=.returned (W (bA S))/\w'=w:=by
 subst h;exact zBV k h0 h8 w
theorem zIZ {A:Option Addr} {n c:Nat} {L:List Fg} {re lo:Int} {s:Sg} {S:List UInt8} (h:zAM L s=S) (w:ZY) (hA:Fgs w A n L) (hv:frOk L re lo) (hs:zAo n s=Q) (ht:Tabs w) :
  Calls ZX 109 #[frV A n c re lo,sgV s] w fun e w'=>e=.returned (W (bA S))/\ZZ w.heap.size w w':=by
 subst h;exact zLx A n c L re lo s w hA hv hs ht
theorem zAS {k:Nat} {o:Og} (h:zAf k o=Q):1<=o.kind/\o.kind<=8/\1<=o.f/\o.f<=(k:Int)/\(∀x∈o.path,zAo k x.s=Q)/\((o.kind=3∨o.kind=5∨o.kind=6∨o.kind=7)->zAo k o.fr=Q):=by
 unfold zAf at h;simp only [Bool.and_eq_true,decide_eq_true_eq,List.all_eq_true] at h;obtain ⟨⟨⟨⟨h1,h2⟩,_⟩,h4⟩,h5⟩:=h;unfold zBn at h5;refine ⟨?_,?_,h1,h2,h4,?_⟩
 ·by_cases e:1<=o.kind/\o.kind<=8
  ·exact e.1
  ·rw [qN (by omega),qN (by omega),qN (by omega),qN (by omega),qN (by omega)] at h5;cases h5
 ·by_cases e:1<=o.kind/\o.kind<=8
  ·exact e.2
  ·rw [qN (by omega),qN (by omega),qN (by omega),qN (by omega),qN (by omega)] at h5;cases h5
 ·rintro (e | e | e | e)
  ·rw [qN (by omega),qN (by omega),qP e] at h5;simp only [Bool.and_eq_true] at h5;exact h5.2
  ·rw [qN (by omega),qN (by omega),qN (by omega),qP e] at h5;exact h5
  ·rw [qN (by omega),qN (by omega),qN (by omega),qN (by omega),qP (.inl e)] at h5;simp only [Bool.and_eq_true] at h5;exact h5.1
  ·rw [qN (by omega),qN (by omega),qN (by omega),qN (by omega),qP (.inr e)] at h5;simp only [Bool.and_eq_true] at h5;exact h5.1
theorem zIy (A:Option Addr) (n c:Nat) (L:List Fg) (re lo:Int) (o:Og) (B:Option Addr) (m d:Nat) (w:ZY) (hA:Fgs w A n L) (hv:frOk L re lo) (hO:OpIn w o B m d) (hr:zAf n o=Q) (hm:m<=10000) (ht:Tabs w) :
  Calls ZX 60 #[frV A n c re lo,opV o B m d] w fun e w'=>e=.returned (W (bA (zBg L o)))/\ZZ w.heap.size w w':=by
 obtain ⟨h1,h8,dj,bt,hpn,hfrn⟩:=zAS hr;have hlen:=hO.path.len;have eZ:=zBy hv dj (by rw [hA.len];exact bt);have hnl:=hA.len;have hP:Stps w B m o.path:=hO.path;have uB:=zKp o.kind;have iQ:zBg L o=zAu o.kind++[32]++nmF L o.f++zCL L o:=rfl;obtain ⟨kind,f,⟨ff,fl,ffar,fpc⟩,path,over⟩:=o;simp only at h1 h8 dj bt hpn hfrn hlen eZ hP uB iQ ⊢;obtain ⟨VB,AG⟩:∃T,zAu kind=T:=⟨_,rfl⟩
 obtain ⟨NM,db⟩:∃T,nmF L f=T:=⟨_,rfl⟩
 obtain ⟨OV,gZ⟩:∃T,zAx over=T:=⟨_,rfl⟩
 obtain ⟨G0,AQ⟩:∃T,VB++[32]=T:=⟨_,rfl⟩
 obtain ⟨G1,iR⟩:∃T,G0++NM=T:=⟨_,rfl⟩
 have n8:=zFb over;rw [AG] at uB;rw [db] at eZ;rw [gZ] at n8;have l0:G0.length<=9:=by rw [<-AQ];simp;omega
 have l1:G1.length<=52:=by rw [<-iR];simp;omega
 have s1:=zAl AQ (bA VB) ⟨#[32]⟩ rfl rfl (by omega) (by simp);have s2:=zAl iR _ _ rfl rfl (by omega) (by omega);rw [AG,db,AQ,iR] at iQ;have fP:=qH iQ;have Gv:=qH AG;have gR:=qH db;have bJ:=qH gZ;have HK:=qH (show 0<=kind/\kind<=8 from ⟨by omega,h8⟩);have ua:=qH h1;have gL:=qH (show 1<=f/\f<=(n:Int) from ⟨dj,bt⟩);have fY:=qH hpn;have fW:=qH hfrn;have aL:=qH hlen;have dZ:=qH hnl;have ah:ZZ w.heap.size w ((w.alloc (.cells #[H A n c,D J re,D J lo] 24)).alloc (.cells #[D J kind,D J f,D J ff,D J fl,G ffar,D J fpc,H B m d,G over] 32)):=((M _ _).alloc (O _) _).alloc (by simp) _;have hk0:=(Blk.new w 24 #[H A n c,D J re,D J lo]).alloc (.cells #[D J kind,D J f,D J ff,D J fl,G ffar,D J fpc,H B m d,G over] 32);have aq:Blk ((w.alloc (.cells #[H A n c,D J re,D J lo] 24)).alloc (.cells #[D J kind,D J f,D J ff,D J fl,G ffar,D J fpc,H B m d,G over] 32)) (w.heap.size+1) 32 #[D J kind,D J f,D J ff,D J fl,G ffar,D J fpc,H B m d,G over]:=heap_alloc2_new w _ _;clear iQ AG db gZ AQ iR uB eZ h1 h8 dj bt hpn hfrn hlen hr hnl l0 hO;go_enter Tryz.func60,Tryz.ntmps60;go_wp2_with fail
 have hA0:=hA.below ah;have jd:=hP.below ah;have wm:=ht.below ah;generalize (w.alloc (.cells #[H A n c,D J re,D J lo] 24)).alloc (.cells #[D J kind,D J f,D J ff,D J fl,G ffar,D J fpc,H B m d,G over] 32)=ZO at ah hk0 aq hA0 jd wm ⊢
 have KP:=qH (show ∀wx,ZZ ZO.heap.size ZO wx->(ZZ ZO.heap.size ZO wx/\wx.cell? ⟨w.heap.size,0,U⟩=Z (H A n c)/\wx.cell? ⟨w.heap.size,1,U⟩=Z (D J re)/\wx.cell? ⟨w.heap.size,2,U⟩=Z (D J lo)/\wx.cell? ⟨w.heap.size+1,0,U⟩=Z (D J kind)/\wx.cell? ⟨w.heap.size+1,1,U⟩=Z (D J f)/\wx.cell? ⟨w.heap.size+1,2,U⟩=Z (D J ff)/\wx.cell? ⟨w.heap.size+1,3,U⟩=Z (D J fl)/\wx.cell? ⟨w.heap.size+1,4,U⟩=Z (G ffar)/\wx.cell? ⟨w.heap.size+1,5,U⟩=Z (D J fpc)/\wx.cell? ⟨w.heap.size+1,6,U⟩=Z (H B m d)/\wx.cell? ⟨w.heap.size+1,7,U⟩=Z (G over)) from
  fun wx h=>⟨h,((hk0.below h hk0.lt).cell 0).trans rfl,((hk0.below h hk0.lt).cell 1).trans rfl,((hk0.below h hk0.lt).cell 2).trans rfl,((aq.below h aq.lt).cell 0).trans rfl,((aq.below h aq.lt).cell 1).trans rfl,((aq.below h aq.lt).cell 2).trans rfl,((aq.below h aq.lt).cell 3).trans rfl,((aq.below h aq.lt).cell 4).trans rfl,((aq.below h aq.lt).cell 5).trans rfl,((aq.below h aq.lt).cell 6).trans rfl,((aq.below h aq.lt).cell 7).trans rfl⟩)
 first
  | go_region_held3 (fun wx=>ZZ ZO.heap.size ZO wx/\wx.cell? ⟨w.heap.size,0,U⟩=Z (H A n c)/\wx.cell? ⟨w.heap.size,1,U⟩=Z (D J re)/\wx.cell? ⟨w.heap.size,2,U⟩=Z (D J lo)/\wx.cell? ⟨w.heap.size+1,0,U⟩=Z (D J kind)/\wx.cell? ⟨w.heap.size+1,1,U⟩=Z (D J f)/\wx.cell? ⟨w.heap.size+1,2,U⟩=Z (D J ff)/\wx.cell? ⟨w.heap.size+1,3,U⟩=Z (D J fl)/\wx.cell? ⟨w.heap.size+1,4,U⟩=Z (G ffar)/\wx.cell? ⟨w.heap.size+1,5,U⟩=Z (D J fpc)/\wx.cell? ⟨w.heap.size+1,6,U⟩=Z (H B m d)/\wx.cell? ⟨w.heap.size+1,7,U⟩=Z (G over)) (first | assumption | exact KP.out _ (M _ _).drew | exact KP.out _ (zAa (And.left (by assumption)) (by assumption) (Below.size (And.left (by assumption)))))
    (first
     | (go_at_call 106;refine (zUx Gv.out HK.out.1 HK.out.2 _).mono ?_;rintro e wa ⟨rfl,rfl⟩)
     | (go_at_call 107;refine (zDm gR.out _ (hA0.below (And.left (by assumption))) hv gL.out.1 gL.out.2).mono ?_;rintro e wc ⟨rfl,hbc⟩))
  | fail
 all_goals
  obtain ⟨hbx,a0,a1,a2,e0,e1,e2,e3,e4,e5,e6,e7⟩:=(show ZZ ZO.heap.size ZO _/\_ from by assumption);have ai:=zAa ah hbx ah.size;have htx:=wm.below hbx;have fM:=hA0.below hbx;have qI:=jd.below hbx;have hkx:=aq.below hbx aq.lt;have hfx:=hk0.below hbx hk0.lt;clear hbc;have HT:=qH (show zBg L ⟨kind,f,⟨ff,fl,ffar,fpc⟩,path,over⟩=G1++zCL L ⟨kind,f,⟨ff,fl,ffar,fpc⟩,path,over⟩ from fP.out);clear fP Gv gR s1 s2 KP hA0 jd wm hk0 aq hbx ah
  have KP:=qH (show ∀wx,ZZ wc.heap.size wc wx->(ZZ wc.heap.size wc wx/\wx.cell? ⟨w.heap.size,0,U⟩=Z (H A n c)/\wx.cell? ⟨w.heap.size,1,U⟩=Z (D J re)/\wx.cell? ⟨w.heap.size,2,U⟩=Z (D J lo)/\wx.cell? ⟨w.heap.size+1,0,U⟩=Z (D J kind)/\wx.cell? ⟨w.heap.size+1,1,U⟩=Z (D J f)/\wx.cell? ⟨w.heap.size+1,2,U⟩=Z (D J ff)/\wx.cell? ⟨w.heap.size+1,3,U⟩=Z (D J fl)/\wx.cell? ⟨w.heap.size+1,4,U⟩=Z (G ffar)/\wx.cell? ⟨w.heap.size+1,5,U⟩=Z (D J fpc)/\wx.cell? ⟨w.heap.size+1,6,U⟩=Z (H B m d)/\wx.cell? ⟨w.heap.size+1,7,U⟩=Z (G over)) from
   fun wx h=>⟨h,((hfx.below h hfx.lt).cell 0).trans rfl,((hfx.below h hfx.lt).cell 1).trans rfl,((hfx.below h hfx.lt).cell 2).trans rfl,((hkx.below h hkx.lt).cell 0).trans rfl,((hkx.below h hkx.lt).cell 1).trans rfl,((hkx.below h hkx.lt).cell 2).trans rfl,((hkx.below h hkx.lt).cell 3).trans rfl,((hkx.below h hkx.lt).cell 4).trans rfl,((hkx.below h hkx.lt).cell 5).trans rfl,((hkx.below h hkx.lt).cell 6).trans rfl,((hkx.below h hkx.lt).cell 7).trans rfl⟩)
  have hk:(kind=1∨kind=2∨kind=8)∨kind=4∨kind=5∨(kind=6∨kind=7)∨kind=3:=by have:=HK.out;have:=ua.out;omega
  clear HK ua;rcases hk with hk | rfl | rfl | hk | rfl
  ·rcases hk with rfl | rfl | rfl
   all_goals
    have HR:=qH (show bA G1=bA (zBg L _) by rw [HT.out];simp [zCL]);clear HT;go_wp2_with fail
    go_ret;exact ⟨zCp HR.out,ai⟩
  ·obtain ⟨R1,fL⟩:∃T,[32]++OV=T:=⟨_,rfl⟩
   obtain ⟨R2,jO⟩:∃T,G1++R1=T:=⟨_,rfl⟩
   have lR:R1.length<=6:=by rw [<-fL];simp;omega
   have t1:=zAl fL ⟨#[32]⟩ _ rfl rfl (by simp) (by omega);have t2:=zAl jO _ _ rfl rfl (by omega) (by omega);have HR:=qH (show bA R2=bA (zBg L _) by rw [HT.out,<-jO,<-fL,<-bJ.out];simp [zCL]);clear HT fL jO lR l1 n8;go_wp2_with fail
   refine (zHh bJ.out _).mono ?_;rintro e wd ⟨rfl,rfl⟩;go_wp2_with fail
   go_ret;exact ⟨zCp HR.out,ai⟩
  ·have hnf:=fW.out (by omega);have cU:=zCq hv (s:=⟨ff,fl,ffar,fpc⟩) (by rw [dZ.out];exact hnf);obtain ⟨PL,bT⟩:∃T,zAM L ⟨ff,fl,ffar,fpc⟩=T:=⟨_,rfl⟩
   obtain ⟨Q1,bI⟩:∃T,[32,102,114,111,109,32]++PL=T:=⟨_,rfl⟩
   obtain ⟨Q2,cm⟩:∃T,Q1++[32]=T:=⟨_,rfl⟩
   obtain ⟨Q3,cv⟩:∃T,Q2++OV=T:=⟨_,rfl⟩
   obtain ⟨Q4,eI⟩:∃T,G1++Q3=T:=⟨_,rfl⟩
   rw [bT] at cU;have m1:Q1.length<=116:=by rw [<-bI];simp;omega
   have m2:Q2.length<=117:=by rw [<-cm];simp;omega
   have m3:Q3.length<=122:=by rw [<-cv];simp;omega
   have t1:=zAl bI ⟨#[32,102,114,111,109,32]⟩ _ rfl rfl (by simp) (by omega);have t2:=zAl cm _ ⟨#[32]⟩ rfl rfl (by omega) (by simp);have t3:=zAl cv _ _ rfl rfl (by omega) (by omega);have t4:=zAl eI _ _ rfl rfl (by omega) (by omega);have HR:=qH (show bA Q4=bA (zBg L _) by rw [HT.out,<-eI,<-cv,<-cm,<-bI,<-bT,<-bJ.out];simp [zCL]);have cc:=qH bT;have dd:=qH hnf;clear HT bI cm cv eI m1 m2 m3 l1 n8 cU bT hnf fW;go_wp2_with fail
   first
    | go_region_held3 (fun wx=>ZZ wc.heap.size wc wx/\wx.cell? ⟨w.heap.size,0,U⟩=Z (H A n c)/\wx.cell? ⟨w.heap.size,1,U⟩=Z (D J re)/\wx.cell? ⟨w.heap.size,2,U⟩=Z (D J lo)/\wx.cell? ⟨w.heap.size+1,0,U⟩=Z (D J 5)/\wx.cell? ⟨w.heap.size+1,1,U⟩=Z (D J f)/\wx.cell? ⟨w.heap.size+1,2,U⟩=Z (D J ff)/\wx.cell? ⟨w.heap.size+1,3,U⟩=Z (D J fl)/\wx.cell? ⟨w.heap.size+1,4,U⟩=Z (G ffar)/\wx.cell? ⟨w.heap.size+1,5,U⟩=Z (D J fpc)/\wx.cell? ⟨w.heap.size+1,6,U⟩=Z (H B m d)/\wx.cell? ⟨w.heap.size+1,7,U⟩=Z (G over)) (first | assumption | exact KP.out _ (M _ _).drew | exact KP.out _ (zAa (And.left (by assumption)) (by assumption) (Below.size (And.left (by assumption)))))
      (first
       | (go_at_call 109;refine (zIZ cc.out _ (fM.below (And.left (by assumption))) hv dd.out (htx.below (And.left (by assumption)))).mono ?_;rintro e wd ⟨rfl,hbd⟩)
       | (go_at_call 108;refine (zHh bJ.out _).mono ?_;rintro e we ⟨rfl,rfl⟩))
    | fail
   all_goals
    have hbf:=zAa ai (And.left (show ZZ wc.heap.size wc _/\_ from by assumption)) ai.size;go_wp2_with fail
    go_ret;exact ⟨zCp HR.out,hbf⟩
  ·have hnf:=fW.out (by omega);have eY:=zAh.1 hnf;simp only at eY;have cU:=zBy hv (f:=ff) (by omega) (by rw [dZ.out];omega);obtain ⟨PL,bT⟩:∃T,nmF L ff=T:=⟨_,rfl⟩
   rw [bT] at cU;have cc:=qH bT;have dd:=qH (show 1<=ff/\ff<=(n:Int) from ⟨eY.1,eY.2.1⟩);clear hnf eY fW;rcases hk with rfl | rfl
   ·obtain ⟨Q1,bI⟩:∃T,[32,102,114,111,109,32]++PL=T:=⟨_,rfl⟩
    obtain ⟨Q2,cm⟩:∃T,Q1++[32]=T:=⟨_,rfl⟩
    obtain ⟨Q3,cv⟩:∃T,Q2++OV=T:=⟨_,rfl⟩
    obtain ⟨Q4,eI⟩:∃T,G1++Q3=T:=⟨_,rfl⟩
    have m1:Q1.length<=116:=by rw [<-bI];simp;omega
    have m2:Q2.length<=117:=by rw [<-cm];simp;omega
    have m3:Q3.length<=122:=by rw [<-cv];simp;omega
    have t1:=zAl bI ⟨#[32,102,114,111,109,32]⟩ _ rfl rfl (by simp) (by omega);have t2:=zAl cm _ ⟨#[32]⟩ rfl rfl (by omega) (by simp);have t3:=zAl cv _ _ rfl rfl (by omega) (by omega);have t4:=zAl eI _ _ rfl rfl (by omega) (by omega);have HR:=qH (show bA Q4=bA (zBg L _) by rw [HT.out,<-eI,<-cv,<-cm,<-bI,<-bT,<-bJ.out];simp [zCL]);clear HT bI cm cv eI m1 m2 m3 l1 n8 cU bT;go_wp2_with fail
    first
     | go_region_held3 (fun wx=>ZZ wc.heap.size wc wx/\wx.cell? ⟨w.heap.size,0,U⟩=Z (H A n c)/\wx.cell? ⟨w.heap.size,1,U⟩=Z (D J re)/\wx.cell? ⟨w.heap.size,2,U⟩=Z (D J lo)/\wx.cell? ⟨w.heap.size+1,0,U⟩=Z (D J 6)/\wx.cell? ⟨w.heap.size+1,1,U⟩=Z (D J f)/\wx.cell? ⟨w.heap.size+1,2,U⟩=Z (D J ff)/\wx.cell? ⟨w.heap.size+1,3,U⟩=Z (D J fl)/\wx.cell? ⟨w.heap.size+1,4,U⟩=Z (G ffar)/\wx.cell? ⟨w.heap.size+1,5,U⟩=Z (D J fpc)/\wx.cell? ⟨w.heap.size+1,6,U⟩=Z (H B m d)/\wx.cell? ⟨w.heap.size+1,7,U⟩=Z (G over)) (first | assumption | exact KP.out _ (M _ _).drew | exact KP.out _ (zAa (And.left (by assumption)) (by assumption) (Below.size (And.left (by assumption)))))
       (first
        | (go_at_call 107;refine (zDm cc.out _ (fM.below (And.left (by assumption))) hv dd.out.1 dd.out.2).mono ?_;rintro e wd ⟨rfl,hbd⟩)
        | (go_at_call 108;refine (zHh bJ.out _).mono ?_;rintro e we ⟨rfl,rfl⟩))
     | fail
    all_goals
     have hbf:=zAa ai (And.left (show ZZ wc.heap.size wc _/\_ from by assumption)) ai.size;go_wp2_with fail
     go_ret;exact ⟨zCp HR.out,hbf⟩
   ·obtain ⟨Q1,bI⟩:∃T,[32,119,105,116,104,32]++PL=T:=⟨_,rfl⟩
    obtain ⟨Q2,cm⟩:∃T,Q1++[32]=T:=⟨_,rfl⟩
    obtain ⟨Q3,cv⟩:∃T,Q2++OV=T:=⟨_,rfl⟩
    obtain ⟨Q4,eI⟩:∃T,G1++Q3=T:=⟨_,rfl⟩
    have m1:Q1.length<=116:=by rw [<-bI];simp;omega
    have m2:Q2.length<=117:=by rw [<-cm];simp;omega
    have m3:Q3.length<=122:=by rw [<-cv];simp;omega
    have t1:=zAl bI ⟨#[32,119,105,116,104,32]⟩ _ rfl rfl (by simp) (by omega);have t2:=zAl cm _ ⟨#[32]⟩ rfl rfl (by omega) (by simp);have t3:=zAl cv _ _ rfl rfl (by omega) (by omega);have t4:=zAl eI _ _ rfl rfl (by omega) (by omega);have HR:=qH (show bA Q4=bA (zBg L _) by rw [HT.out,<-eI,<-cv,<-cm,<-bI,<-bT,<-bJ.out];simp [zCL]);clear HT bI cm cv eI m1 m2 m3 l1 n8 cU bT;go_wp2_with fail
    first
     | go_region_held3 (fun wx=>ZZ wc.heap.size wc wx/\wx.cell? ⟨w.heap.size,0,U⟩=Z (H A n c)/\wx.cell? ⟨w.heap.size,1,U⟩=Z (D J re)/\wx.cell? ⟨w.heap.size,2,U⟩=Z (D J lo)/\wx.cell? ⟨w.heap.size+1,0,U⟩=Z (D J 7)/\wx.cell? ⟨w.heap.size+1,1,U⟩=Z (D J f)/\wx.cell? ⟨w.heap.size+1,2,U⟩=Z (D J ff)/\wx.cell? ⟨w.heap.size+1,3,U⟩=Z (D J fl)/\wx.cell? ⟨w.heap.size+1,4,U⟩=Z (G ffar)/\wx.cell? ⟨w.heap.size+1,5,U⟩=Z (D J fpc)/\wx.cell? ⟨w.heap.size+1,6,U⟩=Z (H B m d)/\wx.cell? ⟨w.heap.size+1,7,U⟩=Z (G over)) (first | assumption | exact KP.out _ (M _ _).drew | exact KP.out _ (zAa (And.left (by assumption)) (by assumption) (Below.size (And.left (by assumption)))))
       (first
        | (go_at_call 107;refine (zDm cc.out _ (fM.below (And.left (by assumption))) hv dd.out.1 dd.out.2).mono ?_;rintro e wd ⟨rfl,hbd⟩)
        | (go_at_call 108;refine (zHh bJ.out _).mono ?_;rintro e we ⟨rfl,rfl⟩))
     | fail
    all_goals
     have hbf:=zAa ai (And.left (show ZZ wc.heap.size wc _/\_ from by assumption)) ai.size;go_wp2_with fail
     go_ret;exact ⟨zCp HR.out,hbf⟩
  ·have hnf:=fW.out (by omega);have cU:=zCq hv (s:=⟨ff,fl,ffar,fpc⟩) (by rw [dZ.out];exact hnf);obtain ⟨PL,bT⟩:∃T,zAM L ⟨ff,fl,ffar,fpc⟩=T:=⟨_,rfl⟩
   obtain ⟨Z1,mX⟩:∃T,[32,102,114,111,109,32]++PL=T:=⟨_,rfl⟩
   rw [bT] at cU;have mZ:Z1.length<=116:=by rw [<-mX];simp;omega
   have t1:=zAl mX ⟨#[32,102,114,111,109,32]⟩ _ rfl rfl (by simp) (by omega);have cc:=qH bT;have HZ1:=qH mX;have dd:=qH hnf;have hstart:Hid (G1=G1++zDH L (path.take 0)):=qH (by simp [zDH]);clear bT mX cU hnf fW KP;go_wp2_with fail
   clear a0 a1 a2 e0 e1 e2 e3 e4 e5 e6 e7;go_loopw [5,32] (fun v5 v32 wr=>∃(i:Nat) (T:List UInt8),i<=m/\v32=D J i/\v5=W (bA T)/\ZZ wc.heap.size wc wr/\Hid (T=G1++zDH L (path.take i))/\T.length<=52+i*120) (fun _ v32 _=>m-(intOf v32).toNat)
   case atStart=>exact ⟨0,G1,Nat.zero_le _,rfl,rfl,M _ _,hstart,by omega⟩
   case round =>
    obtain ⟨i,T,hi,rfl,rfl,hbr,cQ,jM⟩:=hrel;have hfr:=hfx.below hbr hfx.lt;have hor:=hkx.below hbr hkx.lt;have ft:=fM.below hbr;have htr:=htx.below hbr;have hbw:=zAa ai hbr ai.size;by_cases hlt:i < m
    ·obtain ⟨g,p,rfl,hg,⟨x0,x1,x2,x3,x4⟩,_⟩:=(qI.below hbr).at_ hlt;have j0:(0:Int)<=(i:Int):=by omega
     have j1:(i:Int) < (m:Int):=by omega
     have hil:i < path.length:=by rw [aL.out];exact hlt
     have hsn:=zIx L hil;have hnm:=fY.out _ (List.mem_of_getElem? (zCm hil));generalize pa path i=x at x0 x1 x2 x3 x4 hsn hnm;obtain ⟨⟨xf,xl,xfar,xpc⟩,xo⟩:=x;simp only at x0 x1 x2 x3 x4 hnm;have kS:=zCq hv (s:=⟨xf,xl,xfar,xpc⟩) (by rw [dZ.out];exact hnm);have qt:=zFb xo;have hst:zLy L ⟨⟨xf,xl,xfar,xpc⟩,xo⟩=[32]++zAx xo++[32]++zAM L ⟨xf,xl,xfar,xpc⟩++[44]:=rfl;obtain ⟨PX,iM⟩:∃T,zAM L ⟨xf,xl,xfar,xpc⟩=T:=⟨_,rfl⟩
     obtain ⟨OX,iN⟩:∃T,zAx xo=T:=⟨_,rfl⟩
     obtain ⟨Y1,e9⟩:∃T,[32]++OX=T:=⟨_,rfl⟩
     obtain ⟨Y2,mY⟩:∃T,Y1++[32]=T:=⟨_,rfl⟩
     obtain ⟨Y3,qE⟩:∃T,Y2++PX=T:=⟨_,rfl⟩
     obtain ⟨Y4,AD⟩:∃T,Y3++[44]=T:=⟨_,rfl⟩
     obtain ⟨Y5,qD⟩:∃ZS,T++Y4=ZS:=⟨_,rfl⟩
     rw [iM] at kS;rw [iN] at qt;have y1:Y1.length<=6:=by rw [<-e9];simp;omega
     have y2:Y2.length<=7:=by rw [<-mY];simp;omega
     have y3:Y3.length<=117:=by rw [<-qE];simp;omega
     have y4:Y4.length<=118:=by rw [<-AD];simp;omega
     have y5:Y5.length<=52+(i+1)*120:=by rw [<-qD];simp;omega
     have r1:=zAl e9 ⟨#[32]⟩ _ rfl rfl (by simp) (by omega);have r2:=zAl mY _ ⟨#[32]⟩ rfl rfl (by omega) (by simp);have r3:=zAl qE _ _ rfl rfl (by omega) (by omega);have r4:=zAl AD _ ⟨#[44]⟩ rfl rfl (by omega) (by simp);have r5:=zAl qD _ _ rfl rfl (by omega) (by omega);have gK:=qH (show Y5=G1++zDH L (path.take (i+1)) by rw [hsn,hst,iM,iN,<-qD,cQ.out,<-AD,<-qE,<-mY,<-e9];simp);have lA:=qH iM;have ot:=qH iN;have gQ:=qH hnm;have bh:ZZ wc.heap.size wc (wr.alloc (.cells #[D J xf,D J xl,G xfar,D J xpc,G xo] 86)):=hbr.alloc hbr.size _;have eE:=hfr.alloc (.cells #[D J xf,D J xl,G xfar,D J xpc,G xo] 86);have eP:Blk (wr.alloc (.cells #[D J xf,D J xl,G xfar,D J xpc,G xo] 86)) wr.heap.size 86 #[D J xf,D J xl,G xfar,D J xpc,G xo]:=Blk.new _ _ _;have pq:=ft.alloc (.cells #[D J xf,D J xl,G xfar,D J xpc,G xo] 86);have EU:=htr.below ((M wr.heap.size wr).alloc (O _) (.cells #[D J xf,D J xl,G xfar,D J xpc,G xo] 86));clear hsn hst iM iN e9 mY qE AD qD y1 y2 y3 y4 kS qt hil cQ hnm;go_wp2_with fail
     clear x0 x1 x2 x3 x4 hg hbr hfr hor ft htr hbw;generalize wr.alloc (.cells #[D J xf,D J xl,G xfar,D J xpc,G xo] 86)=Y at bh eE eP pq EU ⊢
     have KP:=qH (show ∀wx,ZZ Y.heap.size Y wx->(ZZ Y.heap.size Y wx/\wx.cell? ⟨w.heap.size,0,U⟩=Z (H A n c)/\wx.cell? ⟨w.heap.size,1,U⟩=Z (D J re)/\wx.cell? ⟨w.heap.size,2,U⟩=Z (D J lo)/\wx.cell? ⟨wr.heap.size,0,U⟩=Z (D J xf)/\wx.cell? ⟨wr.heap.size,1,U⟩=Z (D J xl)/\wx.cell? ⟨wr.heap.size,2,U⟩=Z (G xfar)/\wx.cell? ⟨wr.heap.size,3,U⟩=Z (D J xpc)/\wx.cell? ⟨wr.heap.size,4,U⟩=Z (G xo)) from
      fun wx h=>⟨h,((eE.below h eE.lt).cell 0).trans rfl,((eE.below h eE.lt).cell 1).trans rfl,((eE.below h eE.lt).cell 2).trans rfl,((eP.below h eP.lt).cell 0).trans rfl,((eP.below h eP.lt).cell 1).trans rfl,((eP.below h eP.lt).cell 2).trans rfl,((eP.below h eP.lt).cell 3).trans rfl,((eP.below h eP.lt).cell 4).trans rfl⟩)
     first
      | go_region_held3 (fun wx=>ZZ Y.heap.size Y wx/\wx.cell? ⟨w.heap.size,0,U⟩=Z (H A n c)/\wx.cell? ⟨w.heap.size,1,U⟩=Z (D J re)/\wx.cell? ⟨w.heap.size,2,U⟩=Z (D J lo)/\wx.cell? ⟨wr.heap.size,0,U⟩=Z (D J xf)/\wx.cell? ⟨wr.heap.size,1,U⟩=Z (D J xl)/\wx.cell? ⟨wr.heap.size,2,U⟩=Z (G xfar)/\wx.cell? ⟨wr.heap.size,3,U⟩=Z (D J xpc)/\wx.cell? ⟨wr.heap.size,4,U⟩=Z (G xo)) (first | assumption | exact KP.out _ (M _ _).drew | exact KP.out _ (zAa (And.left (by assumption)) (by assumption) (Below.size (And.left (by assumption)))))
        (first
         | (go_at_call 109;refine (zIZ lA.out _ (pq.below (And.left (by assumption))) hv gQ.out (EU.below (And.left (by assumption)))).mono ?_;rintro e wd ⟨rfl,hbd⟩)
         | (go_at_call 108;refine (zHh ot.out _).mono ?_;rintro e we ⟨rfl,rfl⟩))
      | fail
     all_goals
      have hbf:=zAa bh (And.left (show ZZ Y.heap.size Y _/\_ from by assumption)) bh.size;go_wp2_with fail
      go_roundw
      case rel=>exact ⟨i+1,Y5,by omega,by go_num,rfl,hbf,gK,y5⟩
      case measure=>simp [intOf];omega
    ·have hin:i=m:=by omega
     obtain ⟨Z2,iL⟩:∃ZS,T++Z1=ZS:=⟨_,rfl⟩
     have j1:¬(i:Int) < (m:Int):=by omega
     have t2:=zAl iL _ _ rfl rfl (by omega) (by omega)
     have HR:=qH (show bA Z2=bA (zBg L _) by
      rw [HT.out,<-iL,<-HZ1.out,<-cc.out,cQ.out,hin,<-aL.out,List.take_length];simp [zCL])
     obtain ⟨b0,b1,b2⟩:=cQ3 hfr;obtain ⟨-,-,d2,d3,d4,d5⟩:=cQ6 hor;clear hin iL cQ HT;go_wp2_with fail
     refine (zIZ cc.out _ ft hv dd.out htr).mono ?_;rintro e wd ⟨rfl,hbd⟩;have hbf:=zAa hbw hbd hbw.size;clear b0 b1 b2 d2 d3 d4 d5;go_wp2_with fail
     go_ret;exact ⟨zCp HR.out,hbf⟩
def zAW (L:List Fg) (re lo:Int) (ZM:List Og):Int:=if frB L re lo&&ZM.all (zAf L.length) then 0 else 2
theorem zNO {L:List Fg} {re lo:Int} {ZM:List Og} (h:frB L re lo=E):zAW L re lo ZM=2:=by unfold zAW;rw [h];rfl
theorem zKr {L:List Fg} {re lo:Int} {Es:List Oe} {i:Nat} (hi:i < Es.length) (h:zAf L.length (oa Es i).o=E):zAW L re lo (Es.map (·.o))=2:=by
 have:(Es.map (·.o)).all (zAf L.length)=E:=by
  cases e:(Es.map (·.o)).all (zAf L.length) with
  | false=>rfl
  | true =>
   rw [List.all_eq_true] at e;have:=e _ (List.mem_map_of_mem (List.mem_of_getElem? (zBC hi)));rw [h] at this;cases this
 unfold zAW;rw [this];simp
theorem zPk {L:List Fg} {re lo:Int} {Es:List Oe} (h:frB L re lo=Q) (ho:∀i,i < Es.length->zAf L.length (oa Es i).o=Q):zAW L re lo (Es.map (·.o))=0:=by
 have:(Es.map (·.o)).all (zAf L.length)=Q:=by
  rw [List.all_eq_true];intro x hx;obtain ⟨e,he,rfl⟩:=List.mem_map.1 hx;obtain ⟨i,hi⟩:=List.getElem?_of_mem he;have hlt:=(List.getElem?_eq_some_iff.1 hi).1;have h2:=ho i hlt;have h3:=zBC hlt;rw [hi] at h3;injection h3 with h3
  rw [h3];exact h2
 unfold zAW;rw [this,h];rfl
theorem zFc {L:List Fg} {re lo:Int} {b:Bool} (h:frB L re lo=b) (A:Option Addr) (n c:Nat) (w:ZY) (hA:Fgs w A n L) (hc:n<=c) :
  Calls ZX 88 #[frV A n c re lo] w fun e w'=>e=.returned (G b)/\ZZ w.heap.size w w':=by
 subst h;exact zNK A n c L re lo w hA hc
theorem zRN {k:Nat} {o:Og} {b:Bool} (h:zAf k o=b) (A:Option Addr) (c:Nat) (re lo:Int) (B:Option Addr) (m d:Nat) (w:ZY) (hO:OpIn w o B m d) :
  Calls ZX 104 #[frV A k c re lo,opV o B m d] w fun e w'=>e=.returned (G (!b))/\ZZ w.heap.size w w':=by
 subst h;exact zLw A k c re lo o B m d w hO
theorem zEG (A:Option Addr) (n c:Nat) (L:List Fg) (re lo:Int) (B:Option Addr) (m d:Nat) (Es:List Oe) (w:ZY) (hA:Fgs w A n L) (hc:n<=c) (hO:Oprs w B m Es) :
  Calls ZX 58 #[frV A n c re lo,H B m d] w fun e w'=>e=.returned (D J (zAW L re lo (Es.map (·.o))))/\ZZ w.heap.size w w':=by
 have hle:=hO.le;have aL:=qH hO.len;have dZ:=qH hA.len;have ah:ZZ w.heap.size w (w.alloc (.cells #[H A n c,D J re,D J lo] 24)):=(M _ _).alloc (O _) _;have hk0:Blk (w.alloc (.cells #[H A n c,D J re,D J lo] 24)) w.heap.size 24 #[H A n c,D J re,D J lo]:=Blk.new _ _ _;obtain ⟨b,hb⟩:∃b,frB L re lo=b:=⟨_,rfl⟩
 have HV:=qH (zFc hb A n c _ (hA.below ah) hc);have HB:=qH hb;clear hb
 cases b with
 | false =>
  have hr:=qH (zNO (ZM:=Es.map (·.o)) HB.out);go_enter Tryz.func58,Tryz.ntmps58;go_wp2_with fail
  refine HV.out.mono ?_;rintro e w2 ⟨rfl,ai⟩;have al:=zAa ah ai ah.size;go_wp2_with fail
  go_ret;exact ⟨zGD hr.out.symm,al⟩
 | true =>
  go_enter Tryz.func58,Tryz.ntmps58;go_wp2_with fail
  refine HV.out.mono ?_;rintro e w2 ⟨rfl,ai⟩;have al:=zAa ah ai ah.size;have hk2:=hk0.below ai hk0.lt;go_wp2_with fail
  go_loopw [12] (fun v wr=>∃i:Nat,i<=m/\v=D J i/\ZZ w2.heap.size w2 wr/\Hid (∀j:Nat,j < i->zAf L.length (oa Es j).o=Q)) (fun v _=>m-(intOf v).toNat)
  case atStart=>exact ⟨0,Nat.zero_le _,rfl,M _ _,qH (fun j hj=>by omega)⟩
  case round =>
   obtain ⟨i,hi,rfl,hbr,HS⟩:=hrel;have hkr:=hk2.below hbr hk2.lt;have hbw:=zAa al hbr al.size;by_cases hlt:i < m
   ·obtain ⟨g,p,rfl,hg,⟨x0,x1,x2,x3,x4,x5,x6,x7⟩,hin⟩:=(hO.below hbw).at_ hlt;have j0:(0:Int)<=(i:Int):=by omega
    have j1:(i:Int) < (m:Int):=by omega
    obtain ⟨b,hb⟩:∃b,zAf n (oa Es i).o=b:=⟨_,rfl⟩
    have lF:=qH hb;clear hb;have dn:=qH lF.out;generalize oa Es i=x at x0 x1 x2 x3 x4 x5 x6 x7 hin lF;obtain ⟨⟨kind,f,⟨ff,fl,ffar,fpc⟩,path,over⟩,PA,pn,pc⟩:=x;simp only at x0 x1 x2 x3 x4 x5 x6 x7 hin;have bh:ZZ w2.heap.size w2 (wr.alloc (.cells #[D J kind,D J f,D J ff,D J fl,G ffar,D J fpc,H PA pn pc,G over] 32)):=hbr.alloc hbr.size _;have iI:=hkr.alloc (.cells #[D J kind,D J f,D J ff,D J fl,G ffar,D J fpc,H PA pn pc,G over] 32);have yn:=hin.below ((M wr.heap.size wr).alloc (O _) (.cells #[D J kind,D J f,D J ff,D J fl,G ffar,D J fpc,H PA pn pc,G over] 32));have y0:=(iI.cell 0).trans rfl;have y1:=(iI.cell 1).trans rfl;have y2:=(iI.cell 2).trans rfl;have HW:=qH (zRN lF.out A c re lo PA pn pc _ yn);clear hin yn lF
    cases b with
    | true =>
     have cR:=qH (show ∀j:Nat,j < i+1->zAf L.length (oa Es j).o=Q from fun j hj=>by
      rcases Nat.decEq j i with e | e
      ·exact HS.out j (by omega)
      ·subst e;rw [dZ.out];exact dn.out)
     clear HS dn;go_wp2_with fail
     refine HW.out.mono ?_;rintro e w5 ⟨rfl,az⟩;have aM:=zAa bh az bh.size;clear y0 y1 y2 x0 x1 x2 x3 x4 x5 x6 x7;go_wp2_with fail
     go_roundw
     case rel=>exact ⟨i+1,by omega,by go_num,aM,cR⟩
     case measure=>simp [intOf];omega
    | false =>
     have hr:=qH (zKr (L:=L) (re:=re) (lo:=lo) (Es:=Es) (i:=i) (by rw [aL.out];exact hlt) (by rw [dZ.out];exact dn.out));clear HS dn;go_wp2_with fail
     refine HW.out.mono ?_;rintro e w5 ⟨rfl,az⟩;have aM:=zAa bh az bh.size;clear y0 y1 y2 x0 x1 x2 x3 x4 x5 x6 x7;go_wp2_with fail
     go_ret;exact ⟨zGD hr.out.symm,zAa al aM al.size⟩
   ·have j1:¬(i:Int) < (m:Int):=by omega
    have hr:=qH (zPk (L:=L) (re:=re) (lo:=lo) (Es:=Es) HB.out (fun j hj=>HS.out j (by rw [aL.out] at hj;omega)));clear HS;go_wp2_with fail
    go_ret;exact ⟨zGD hr.out.symm,hbw⟩
theorem zDI (L:List Fg) (re lo:Int) (ZM:List Og):(zAW L re lo ZM=0/\frOk L re lo/\∀o∈ZM,zAf L.length o=Q)∨zAW L re lo ZM=2:=by
 unfold zAW
 cases h1:frB L re lo with
 | false=>exact .inr rfl
 | true =>
  cases h2:ZM.all (zAf L.length) with
  | false=>exact .inr rfl
  | true=>exact .inl ⟨rfl,zCQ.1 h1,by simpa using h2⟩
theorem Oprs.one (w:ZY) (o:Og) (A:Option Addr) (n c:Nat) (t:TypeId) (h:OpIn w o A n c) :
  Oprs (w.alloc (.cells #[D J o.kind,D J o.f,D J o.fr.f,D J o.fr.l,G o.fr.far,D J o.fr.pc,H A n c,G o.over] t)) (Z ⟨w.heap.size,0,U⟩) 1 [⟨o,A,n,c⟩]:=by
 refine ⟨⟨rfl,by omega,fun _=>⟨_,_,rfl,by simp,fun j x hx q v hv=>?_⟩⟩,fun e he=>?_⟩
 ·rcases j with _ | j
  ·simp only [List.getElem?_cons_zero,Option.some.injEq] at hx;subst hx;rw [Nat.zero_mul,Nat.add_zero,Nat.zero_add,World.cell?_alloc_at _ _ _ _ rfl,<-Array.getElem?_toList];exact hv
  ·simp at hx
 ·obtain rfl:e=⟨o,A,n,c⟩:=by simpa using he
  exact h.below ((M _ _).alloc (O _) _)
theorem zLz (A:Option Addr) (n c:Nat) (L:List Fg) (re lo:Int) (o:Og) (B:Option Addr) (m d:Nat) (w:ZY) (hA:Fgs w A n L) (hc:n<=c) (hO:OpIn w o B m d) (hm:m<=10000) (ht:Tabs w) :
  Calls ZX 41 #[frV A n c re lo,opV o B m d] w fun e w'=>e=.returned (.tuple #[W (bA (if zAW L re lo [o]=0 then zBg L o else [])),D J (zAW L re lo [o])])/\ZZ w.heap.size w w':=by
 have ah:ZZ w.heap.size w ((w.alloc (.cells #[H A n c,D J re,D J lo] 24)).alloc (.cells #[D J o.kind,D J o.f,D J o.fr.f,D J o.fr.l,G o.fr.far,D J o.fr.pc,H B m d,G o.over] 32)):=((M _ _).alloc (O _) _).alloc (by simp) _;have ay:ZZ w.heap.size w (((w.alloc (.cells #[H A n c,D J re,D J lo] 24)).alloc (.cells #[D J o.kind,D J o.f,D J o.fr.f,D J o.fr.l,G o.fr.far,D J o.fr.pc,H B m d,G o.over] 32)).alloc (.cells #[D J o.kind,D J o.f,D J o.fr.f,D J o.fr.l,G o.fr.far,D J o.fr.pc,H B m d,G o.over] 32)):=ah.alloc ah.size _;have hk0:=((Blk.new w 24 #[H A n c,D J re,D J lo]).alloc (.cells #[D J o.kind,D J o.f,D J o.fr.f,D J o.fr.l,G o.fr.far,D J o.fr.pc,H B m d,G o.over] 32)).alloc (.cells #[D J o.kind,D J o.f,D J o.fr.f,D J o.fr.l,G o.fr.far,D J o.fr.pc,H B m d,G o.over] 32);have yk:Blk ((w.alloc (.cells #[H A n c,D J re,D J lo] 24)).alloc (.cells #[D J o.kind,D J o.f,D J o.fr.f,D J o.fr.l,G o.fr.far,D J o.fr.pc,H B m d,G o.over] 32)) (w.heap.size+1) 32 #[D J o.kind,D J o.f,D J o.fr.f,D J o.fr.l,G o.fr.far,D J o.fr.pc,H B m d,G o.over]:=heap_alloc2_new w _ _;have aq:=yk.alloc (.cells #[D J o.kind,D J o.f,D J o.fr.f,D J o.fr.l,G o.fr.far,D J o.fr.pc,H B m d,G o.over] 32);have hone:=Oprs.one _ o B m d 32 (hO.below ah);simp only [World.size_alloc] at hone;have hC:=zEG A n c L re lo _ 1 1 [⟨o,B,m,d⟩] _ (hA.below ay) hc hone;rw [show List.map (fun e:Oe=>e.o) [(⟨o,B,m,d⟩:Oe)]=[o] from rfl] at hC;have hcase:=zDI L re lo [o];obtain ⟨ZQ,hE⟩:∃ZQ,zAW L re lo [o]=ZQ:=⟨_,rfl⟩
 rw [hE] at hcase hC ⊢;have HC:=qH hC;have hn:=hA.len;have HN:=qH hn;obtain ⟨kind,f,⟨ff,fl,ffar,fpc⟩,path,over⟩:=o;simp only at ah ay hk0 aq hone HC ⊢;clear hE yk hone hn hC;rcases hcase with ⟨rfl,hfr,hro⟩ | rfl
 ·have hri:zAf n ⟨kind,f,⟨ff,fl,ffar,fpc⟩,path,over⟩=Q:=by have:=hro _ (List.mem_singleton.2 rfl);rw [HN.out] at this;exact this
  have bo:=qH (fun wx fM hOx htx=>zIy A n c L re lo ⟨kind,f,⟨ff,fl,ffar,fpc⟩,path,over⟩ B m d wx fM hfr hOx hri hm htx);clear hro hri;go_enter Tryz.func41,Tryz.ntmps41;go_wp2_with fail
  refine HC.out.mono ?_;rintro e w2 ⟨rfl,ai⟩;have al:=zAa ay ai ay.size;have hk2:=hk0.below ai hk0.lt;have pX:=aq.below ai aq.lt;have a0:=(hk2.cell 0).trans rfl;have a1:=(hk2.cell 1).trans rfl;have a2:=(hk2.cell 2).trans rfl;have e0:=(pX.cell 0).trans rfl;have e1:=(pX.cell 1).trans rfl;have e2:=(pX.cell 2).trans rfl;have e3:=(pX.cell 3).trans rfl;have e4:=(pX.cell 4).trans rfl;have e5:=(pX.cell 5).trans rfl;have e6:=(pX.cell 6).trans rfl;have e7:=(pX.cell 7).trans rfl;go_wp2_with fail
  refine (bo.out _ (hA.below al) (hO.below al) (ht.below al)).mono ?_;rintro e w5 ⟨rfl,az⟩;have aM:=zAa al az al.size;clear a0 a1 a2 e0 e1 e2 e3 e4 e5 e6 e7;go_wp2_with fail
  go_ret2;exact ⟨by simp,aM⟩
 ·go_enter Tryz.func41,Tryz.ntmps41;go_wp2_with fail
  refine HC.out.mono ?_;rintro e w2 ⟨rfl,ai⟩;have al:=zAa ay ai ay.size;go_wp2_with fail
  go_ret2;exact ⟨rfl,al⟩
def zBb (L:List Fg) (s:Sg):Bool:=decide ((fa L (s.f-1).toNat).p=1)&&decide (s.l=0)&&decide (s.pc=0)
def zBN (L:List Fg) (o:Og):Bool:=decide ((fa L (o.f-1).toNat).p=1)&&(decide (¬0 < o.fr.f)||zBb L o.fr)&&o.path.all fun x=>zBb L x.s
theorem zGq (A:Option Addr) (n c:Nat) (L:List Fg) (re lo:Int) (s:Sg) (w:ZY) (hA:Fgs w A n L) (h1:1<=s.f) (h2:s.f<=(n:Int)) :
  Calls ZX 112 #[frV A n c re lo,sgV s] w fun e w'=>e=.returned (G (zBb L s))/\ZZ w.heap.size w w':=by
 have hle:=hA.le;have ah:ZZ w.heap.size w ((w.alloc (.cells #[H A n c,D J re,D J lo] 24)).alloc (.cells #[D J s.f,D J s.l,G s.far,D J s.pc] 29)):=((M _ _).alloc (O _) _).alloc (by simp) _;have hA0:=hA.below ah;obtain ⟨i,hi⟩:∃i:Nat,s.f=(i:Int)+1:=⟨(s.f-1).toNat,by omega⟩
 have hin:i < n:=by omega
 obtain ⟨g,o,rfl,hg,⟨x0,x1,x2⟩,_⟩:=hA0.at_ hin;have hs:zBb L s=(decide ((fa L i).p=1)&&decide (s.l=0)&&decide (s.pc=0)):=by unfold zBb;rw [hi,show ((i:Int)+1-1).toNat=i by omega]
 have q1:wrap64 (s.f-1)=(i:Int):=by unfold wrap64;omega
 have q2:s.f-1=(i:Int):=by omega
 have j0:(0:Int)<=(i:Int):=by omega
 have j1:(i:Int) < (n:Int):=by omega
 generalize fa L i=x at x0 x1 x2 hs;obtain ⟨f,l,far,pc⟩:=s;obtain ⟨p,r,dg⟩:=x;simp only at x0 hs q1 q2 ah hg ⊢;clear hi hA0 hA hin h1 h2 x1 x2;by_cases e1:p=1
 ·subst e1;by_cases e2:l=0
  ·subst e2;by_cases e3:pc=0
   ·subst e3;have HS:=qH hs;clear hs;go_enter Tryz.func112,Tryz.ntmps112;go_wp2_with fail
    go_ret;exact ⟨zBJ (by rw [HS.out];rfl),ah⟩
   ·have k3:(pc==0)=E:=by simpa using e3
    have HS:=qH (hs.trans (show _=E by simp [e3]));clear hs e3;go_enter Tryz.func112,Tryz.ntmps112;go_wp2_with fail
    go_ret;exact ⟨zBJ (by rw [HS.out]),ah⟩
  ·have k2:(l==0)=E:=by simpa using e2
   have HS:=qH (hs.trans (show _=E by simp [e2]));clear hs e2;go_enter Tryz.func112,Tryz.ntmps112;go_wp2_with fail
   go_ret;exact ⟨zBJ (by rw [HS.out]),ah⟩
 ·have k1:(p==1)=E:=by simpa using e1
  have HS:=qH (hs.trans (show _=E by simp [e1]));clear hs e1;go_enter Tryz.func112,Tryz.ntmps112;go_wp2_with fail
  go_ret;exact ⟨zBJ (by rw [HS.out]),ah⟩
theorem zPl {L:List Fg} {s:Sg} {b:Bool} (h:zBb L s=b) (A:Option Addr) (n c:Nat) (re lo:Int) (w:ZY) (hA:Fgs w A n L) (h1:1<=s.f) (h2:s.f<=(n:Int)) :
  Calls ZX 112 #[frV A n c re lo,sgV s] w fun e w'=>e=.returned (G b)/\ZZ w.heap.size w w':=by
 subst h;exact zGq A n c L re lo s w hA h1 h2
theorem zNP (A:Option Addr) (n c:Nat) (L:List Fg) (re lo:Int) (x:Sp) (b:Nat) (w:ZY) (hA:Fgs w A n L) (hk:Blk w b 24 #[H A n c,D J re,D J lo]) (h1:1<=x.s.f) (h2:x.s.f<=(n:Int)) :
  Calls ZX 114 #[spV x,.pointer (Z ⟨b,0,U⟩)] w fun e w'=>e=.returned (G (!zBb L x.s))/\ZZ w.heap.size w w':=by
 have ah:ZZ w.heap.size w (w.alloc (.cells #[D J x.s.f,D J x.s.l,G x.s.far,D J x.s.pc,G x.over] 86)):=(M _ _).alloc (O _) _;have hk2:=hk.alloc (.cells #[D J x.s.f,D J x.s.l,G x.s.far,D J x.s.pc,G x.over] 86);have y0:=(hk2.cell 0).trans rfl;have y1:=(hk2.cell 1).trans rfl;have y2:=(hk2.cell 2).trans rfl;have HC:=qH (zGq A n c L re lo x.s _ (hA.below ah) h1 h2);go_enter Tryz.func114,Tryz.ntmps114;go_wp2_with fail
 refine HC.out.mono ?_;rintro e w2 ⟨rfl,ai⟩;have al:=zAa ah ai ah.size;clear y0 y1 y2;go_wp2_with fail
 go_ret;exact ⟨rfl,al⟩
def zOO (q:Bool) (k:Int):Prop:=if q then k = -1 else 0<=k
theorem zUy {L:List Fg} {x:Sp} {q:Bool} (h:zBb L x.s=q) (A:Option Addr) (n c:Nat) (re lo:Int) (b:Nat) (w:ZY) (hA:Fgs w A n L) (hk:Blk w b 24 #[H A n c,D J re,D J lo]) (h1:1<=x.s.f) (h2:x.s.f<=(n:Int)) :
  Calls ZX 114 #[spV x,.pointer (Z ⟨b,0,U⟩)] w fun e w'=>e=.returned (G (!q))/\ZZ w.heap.size w w':=by
 subst h;exact zNP A n c L re lo x b w hA hk h1 h2
theorem zRO {L:List Fg} {P:List Sp} (h:∀j,j < P.length->zBb L (pa P j).s=Q):(P.all fun x=>zBb L x.s)=Q:=by
 rw [List.all_eq_true];intro x hx;obtain ⟨i,hi⟩:=List.getElem?_of_mem hx;have hlt:=(List.getElem?_eq_some_iff.1 hi).1;have h2:=h i hlt;have h3:=zCm hlt;rw [hi] at h3;injection h3 with h3
 rw [h3];exact h2
theorem zLA {L:List Fg} {P:List Sp} {i:Nat} (hi:i < P.length) (h:zBb L (pa P i).s=E):(P.all fun x=>zBb L x.s)=E:=by
 cases e:(P.all fun x=>zBb L x.s) with
 | false=>rfl
 | true=>rw [List.all_eq_true] at e;have:=e _ (List.mem_of_getElem? (zCm hi));rw [h] at this;cases this
theorem zFO (A:Option Addr) (n c:Nat) (L:List Fg) (re lo:Int) (b:Nat) (B:Option Addr) (m d:Nat) (P:List Sp) (w:ZY) (hA:Fgs w A n L) (hk:Blk w b 24 #[H A n c,D J re,D J lo]) (hP:Stps w B m P) (hf:∀x∈P,1<=x.s.f/\x.s.f<=(n:Int)) :
  Calls ZX 157 #[H B m d,.func (.func 114) #[] #[.pointer (Z ⟨b,0,U⟩)]] w
   fun e w'=>∃k:Int,e=.returned (D J k)/\zOO (P.all fun x=>zBb L x.s) k/\ZZ w.heap.size w w':=by
 have hle:=hP.le;have aL:=qH hP.len;have HF:=qH hf;clear hf;go_enter Tryz.func157,Tryz.ntmps157;go_wp2_with fail
 go_loopw [8] (fun v wr=>∃i:Nat,i<=m/\v=D J i/\ZZ w.heap.size w wr/\Hid (∀j:Nat,j < i->zBb L (pa P j).s=Q)) (fun v _=>m-(intOf v).toNat)
 case atStart=>exact ⟨0,Nat.zero_le _,rfl,M _ _,qH (fun j hj=>by omega)⟩
 case round =>
  obtain ⟨i,hi,rfl,hbr,HS⟩:=hrel;by_cases hlt:i < m
  ·obtain ⟨g,p,rfl,hg,⟨x0,x1,x2,x3,x4⟩,_⟩:=(hP.below hbr).at_ hlt;have j0:(0:Int)<=(i:Int):=by omega
   have j1:(i:Int) < (m:Int):=by omega
   have hil:i < P.length:=by rw [aL.out];exact hlt
   have hfi:=HF.out _ (List.mem_of_getElem? (zCm hil));obtain ⟨q,hq⟩:∃q,zBb L (pa P i).s=q:=⟨_,rfl⟩
   have HQ:=qH hq;have HC:=qH (zUy hq A n c re lo b wr (hA.below hbr) (hk.below hbr hk.lt) hfi.1 hfi.2);have lC:=qH hil;clear hq hfi hil;generalize pa P i=x at x0 x1 x2 x3 x4 HC;obtain ⟨⟨xf,xl,xfar,xpc⟩,xo⟩:=x;simp only at x0 x1 x2 x3 x4
   cases q with
   | true =>
    have cR:=qH (show ∀j:Nat,j < i+1->zBb L (pa P j).s=Q from fun j hj=>by
     rcases Nat.decEq j i with e | e
     ·exact HS.out j (by omega)
     ·subst e;exact HQ.out)
    clear HS HQ lC;go_wp2_with fail
    refine HC.out.mono ?_;rintro e w5 ⟨rfl,az⟩;have aM:=zAa hbr az hbr.size;clear x0 x1 x2 x3 x4;go_wp2_with fail
    go_roundw
    case rel=>exact ⟨i+1,by omega,by go_num,aM,cR⟩
    case measure=>simp [intOf];omega
   | false =>
    have hr:=qH (show zOO (P.all fun x=>zBb L x.s) (i:Int) by rw [zLA lC.out HQ.out];unfold zOO;rw [qN (by decide)];omega);clear HS HQ lC;go_wp2_with fail
    refine HC.out.mono ?_;rintro e w5 ⟨rfl,az⟩;have aM:=zAa hbr az hbr.size;clear x0 x1 x2 x3 x4;go_wp2_with fail
    go_ret;exact ⟨_,rfl,hr.out,aM⟩
  ·have j1:¬(i:Int) < (m:Int):=by omega
   have hr:=qH (show zOO (P.all fun x=>zBb L x.s) (-1) by rw [zRO (fun j hj=>HS.out j (by rw [aL.out] at hj;omega))];unfold zOO;rw [qP rfl]);clear HS;go_wp2_with fail
   go_ret;exact ⟨_,rfl,hr.out,hbr⟩
theorem zEt (A:Option Addr) (n c:Nat) (L:List Fg) (re lo:Int) (b:Nat) (B:Option Addr) (m d:Nat) (P:List Sp) (w:ZY) (hA:Fgs w A n L) (hk:Blk w b 24 #[H A n c,D J re,D J lo]) (hP:Stps w B m P) (hf:∀x∈P,1<=x.s.f/\x.s.f<=(n:Int)) :
  Calls ZX 113 #[H B m d,.func (.func 114) #[] #[.pointer (Z ⟨b,0,U⟩)]] w
   fun e w'=>e=.returned (G (!(P.all fun x=>zBb L x.s)))/\ZZ w.heap.size w w':=by
 have HC:=qH (zFO A n c L re lo b B m d P w hA hk hP hf);go_enter Tryz.func113,Tryz.ntmps113;go_wp2_with fail
 refine HC.out.mono ?_;rintro e w2 ⟨k,rfl,hk2,ai⟩;have HK:=qH hk2;clear hk2;go_wp2_with fail
 go_ret;refine ⟨zBJ ?_,ai⟩;have h:=HK.out;unfold zOO at h
 cases hq:(P.all fun x=>zBb L x.s) with
 | true=>rw [hq,qP rfl] at h;simp [h]
 | false=>rw [hq] at h;simp at h;simp [h]
theorem zKs {L:List Fg} {P:List Sp} {q:Bool} (h:(P.all fun x=>zBb L x.s)=q) (A:Option Addr) (n c:Nat) (re lo:Int) (b:Nat) (B:Option Addr) (m d:Nat) (w:ZY) (hA:Fgs w A n L) (hk:Blk w b 24 #[H A n c,D J re,D J lo]) (hP:Stps w B m P) (hf:∀x∈P,1<=x.s.f/\x.s.f<=(n:Int)) :
  Calls ZX 113 #[H B m d,.func (.func 114) #[] #[.pointer (Z ⟨b,0,U⟩)]] w
   fun e w'=>e=.returned (G (!q))/\ZZ w.heap.size w w':=by
 subst h;exact zEt A n c L re lo b B m d P w hA hk hP hf
theorem zDn {k:Nat} {o:Og} (h:zAf k o=Q):0<=o.fr.f/\o.fr.f<=(k:Int):=by
 have hk:=zAS h;by_cases e:o.kind=3∨o.kind=5∨o.kind=6∨o.kind=7
 ·have:=zAh.1 (hk.2.2.2.2.2 e);omega
 ·have h5:zBn k o=Q:=by unfold zAf at h;simp only [Bool.and_eq_true] at h;exact h.2
  have hz:o.fr=s0:=by
   unfold zBn at h5;by_cases e1:o.kind=1∨o.kind=2∨o.kind=8
   ·rw [qP e1] at h5;simp only [Bool.and_eq_true] at h5;exact zED.1 h5.2
   ·rw [qN e1] at h5;by_cases e2:o.kind=4
    ·rw [qP e2] at h5;exact zED.1 h5
    ·omega
  rw [hz];simp [s0]
theorem zKt (A:Option Addr) (n c:Nat) (L:List Fg) (re lo:Int) (o:Og) (B:Option Addr) (m d:Nat) (w:ZY) (hA:Fgs w A n L) (hO:OpIn w o B m d) (hr:zAf n o=Q) :
  Calls ZX 67 #[frV A n c re lo,opV o B m d] w fun e w'=>e=.returned (G (zBN L o))/\ZZ w.heap.size w w':=by
 have hle:=hA.le;obtain ⟨h1,h8,dj,bt,hpn,_⟩:=zAS hr;obtain ⟨o7,nG⟩:=zDn hr;have hP:=hO.path;have hpf:∀x∈o.path,1<=x.s.f/\x.s.f<=(n:Int):=fun x hx=>by have:=zAh.1 (hpn x hx);exact ⟨this.1,this.2.1⟩
 have hcan:zBN L o=(decide ((fa L (o.f-1).toNat).p=1)&&(decide (¬0 < o.fr.f)||zBb L o.fr)&&o.path.all fun x=>zBb L x.s):=rfl;obtain ⟨kind,f,⟨ff,fl,ffar,fpc⟩,path,over⟩:=o;simp only at h1 h8 dj bt o7 nG hP hpf hcan ⊢;have ah:ZZ w.heap.size w ((w.alloc (.cells #[H A n c,D J re,D J lo] 24)).alloc (.cells #[D J kind,D J f,D J ff,D J fl,G ffar,D J fpc,H B m d,G over] 32)):=((M _ _).alloc (O _) _).alloc (by simp) _;have hk0:=(Blk.new w 24 #[H A n c,D J re,D J lo]).alloc (.cells #[D J kind,D J f,D J ff,D J fl,G ffar,D J fpc,H B m d,G over] 32);have aq:Blk ((w.alloc (.cells #[H A n c,D J re,D J lo] 24)).alloc (.cells #[D J kind,D J f,D J ff,D J fl,G ffar,D J fpc,H B m d,G over] 32)) (w.heap.size+1) 32 #[D J kind,D J f,D J ff,D J fl,G ffar,D J fpc,H B m d,G over]:=heap_alloc2_new w _ _;have hA0:=hA.below ah;have jd:=hP.below ah;obtain ⟨i,hi⟩:∃i:Nat,f=(i:Int)+1:=⟨(f-1).toNat,by omega⟩
 have hin:i < n:=by omega
 obtain ⟨g,p,wK,hg,⟨x0,_,_⟩,_⟩:=hA0.at_ hin;rw [show (f-1).toNat=i by omega] at hcan;have q1:wrap64 (f-1)=(i:Int):=by unfold wrap64;omega
 have q2:f-1=(i:Int):=by omega
 have j0:(0:Int)<=(i:Int):=by omega
 have j1:(i:Int) < (n:Int):=by omega
 generalize fa L i=x at x0 hcan;obtain ⟨xp,xr,xd⟩:=x;simp only at x0 hcan;obtain ⟨qa,hqa⟩:∃q,(path.all fun x=>zBb L x.s)=q:=⟨_,rfl⟩
 have Ha:=qH (fun wx (fM:Fgs wx A n L) hkx qI=>zKs hqa A n c re lo w.heap.size B m d wx fM hkx qI hpf);rw [hqa] at hcan;obtain ⟨qs,hqs⟩:∃q,zBb L ⟨ff,fl,ffar,fpc⟩=q:=⟨_,rfl⟩
 have DX:=qH nG;have G7:=qH (fun wx (fM:Fgs wx A n L) h1=>zPl hqs A n c re lo wx fM h1 DX.out);rw [hqs] at hcan;clear hqa hqs hi hin hpn hpf h1 h8 dj bt hO hP hA;by_cases e1:xp=1
 ·subst e1;by_cases e2:0 < ff
  ·have nr:=qH e2
   cases qs with
   | true =>
    have mT:=qH (hcan.trans (show _=qa by simp));clear hcan;subst wK;go_enter Tryz.func67,Tryz.ntmps67;go_wp2_with fail
    generalize (w.alloc (.cells #[H (Z ⟨g,p,U⟩) n c,D J re,D J lo] 24)).alloc (.cells #[D J kind,D J f,D J ff,D J fl,G ffar,D J fpc,H B m d,G over] 32)=ZO at ah hk0 aq hA0 jd ⊢;refine (G7.out _ hA0 (show (1:Int)<=ff by have:=nr.out;omega)).mono ?_;rintro e w2 ⟨rfl,ai⟩;have al:=zAa ah ai ah.size;have bt:=hk0.below ai hk0.lt;have pX:=aq.below ai aq.lt;have e6:w2.cell? ⟨w.heap.size+1,6,U⟩=Z (H B m d):=(pX.cell 6).trans rfl;have lc:=hA0.below ai;have yF:=jd.below ai;go_wp2_with fail
    refine (Ha.out _ lc bt yF).mono ?_;rintro e w4 ⟨rfl,bh⟩;have az:=zAa al bh al.size;clear e6;go_wp2_with fail
    go_ret;exact ⟨zBJ (by rw [mT.out]),az⟩
   | false =>
    have mT:=qH (hcan.trans (show _=E by simp [e2]));clear hcan;subst wK;go_enter Tryz.func67,Tryz.ntmps67;go_wp2_with fail
    generalize (w.alloc (.cells #[H (Z ⟨g,p,U⟩) n c,D J re,D J lo] 24)).alloc (.cells #[D J kind,D J f,D J ff,D J fl,G ffar,D J fpc,H B m d,G over] 32)=ZO at ah hk0 aq hA0 jd ⊢;refine (G7.out _ hA0 (show (1:Int)<=ff by have:=nr.out;omega)).mono ?_;rintro e w2 ⟨rfl,ai⟩;have al:=zAa ah ai ah.size;go_wp2_with fail
    go_ret;exact ⟨zBJ (by rw [mT.out]),al⟩
  ·have mT:=qH (hcan.trans (show _=qa by simp [e2]));clear hcan;subst wK;go_enter Tryz.func67,Tryz.ntmps67;go_wp2_with fail
   refine (Ha.out _ hA0 hk0 jd).mono ?_;rintro e w4 ⟨rfl,bh⟩;have az:=zAa ah bh ah.size;go_wp2_with fail
   go_ret;exact ⟨zBJ (by rw [mT.out]),az⟩
 ·have k1:(xp != 1)=Q:=by simpa using e1
  have mT:=qH (hcan.trans (show _=E by simp [e1]));clear hcan e1;subst wK;go_enter Tryz.func67,Tryz.ntmps67;go_wp2_with fail
  go_ret;exact ⟨zBJ (by rw [mT.out]),ah⟩
def zAt (b:Bool):List UInt8:=if b then [111] else [117]
def zBh (L:List Fg) (s:Sg):List UInt8:=nmF L s.f++(if s.far then [102] else [110])
theorem zKu (b:Bool) (w:ZY):Calls ZX 115 #[G b] w fun e w'=>e=.returned (W (bA (zAt b)))/\w'=w:=by
 have x0:∀w:ZY,(Instr.slice 9 (W (bA (zAx Q))) U (Z (D J 1)) U).run ZX w=.ok (W (bA [111])) w:=fun _=>by kernel_rfl
 have x1:∀w:ZY,(Instr.slice 9 (W (bA (zAx E))) U (Z (D J 1)) U).run ZX w=.ok (W (bA [117])) w:=fun _=>by kernel_rfl
 cases b
 all_goals
  go_enter Tryz.func115,Tryz.ntmps115;go_wp2_with fail
  refine (zIw _ _).mono ?_;rintro e w2 ⟨rfl,rfl⟩;go_wp2_with fail
  go_ret;exact ⟨rfl,rfl⟩
theorem zCr {L:List Fg} {re lo:Int} (hv:frOk L re lo) {s:Sg} (h1:1<=s.f) (h2:s.f<=(L.length:Int)):(zBh L s).length<=44:=by
 have:=zBy hv h1 h2;unfold zBh;split<;>simp<;>omega
theorem zLB (A:Option Addr) (n c:Nat) (L:List Fg) (re lo:Int) (s:Sg) (w:ZY) (hA:Fgs w A n L) (hv:frOk L re lo) (h1:1<=s.f) (h2:s.f<=(n:Int)) :
  Calls ZX 116 #[frV A n c re lo,sgV s] w fun e w'=>e=.returned (W (bA (zBh L s)))/\ZZ w.heap.size w w':=by
 have eZ:=zBy hv h1 (by rw [hA.len];exact h2);obtain ⟨f,l,far,pc⟩:=s;simp only at h1 h2 eZ ⊢;have hx:∀w:ZY,(Instr.slice 9 (W (bA (zBH far))) U (Z (D J 1)) U).run ZX w=.ok (W (bA (if far then [102] else [110]))) w:=fun _=>by
  cases far
  ·kernel_rfl
  ·kernel_rfl
 have hf:zBh L ⟨f,l,far,pc⟩=nmF L f++(if far then [102] else [110]):=rfl;have hS:(if far then [102] else [110]:List UInt8).length<=1:=by cases far<;>simp
 generalize (if far then [102] else [110]:List UInt8)=SH at hx hf hS;obtain ⟨SD,jc⟩:∃T,zBH far=T:=⟨_,rfl⟩
 rw [jc] at hx;obtain ⟨NM,db⟩:∃NM,nmF L f=NM:=⟨_,rfl⟩
 rw [db] at hf eZ;obtain ⟨T1,cF⟩:∃T,NM++SH=T:=⟨_,rfl⟩
 have s1:=zAl cF _ _ rfl rfl (by omega) (by omega);rw [cF] at hf;have gR:=qH db;have DB:=qH jc;have HF:=qH hf;have pR:=qH (show 1<=f/\f<=(n:Int) from ⟨h1,h2⟩);have ah:ZZ w.heap.size w ((w.alloc (.cells #[H A n c,D J re,D J lo] 24)).alloc (.cells #[D J f,D J l,G far,D J pc] 29)):=((M _ _).alloc (O _) _).alloc (by simp) _;have hk0:=(Blk.new w 24 #[H A n c,D J re,D J lo]).alloc (.cells #[D J f,D J l,G far,D J pc] 29);have aq:Blk ((w.alloc (.cells #[H A n c,D J re,D J lo] 24)).alloc (.cells #[D J f,D J l,G far,D J pc] 29)) (w.heap.size+1) 29 #[D J f,D J l,G far,D J pc]:=heap_alloc2_new w _ _;have hA0:=hA.below ah;clear hf db cF eZ h1 h2 jc hS hA;go_enter Tryz.func116,Tryz.ntmps116;go_wp2_with fail
 generalize (w.alloc (.cells #[H A n c,D J re,D J lo] 24)).alloc (.cells #[D J f,D J l,G far,D J pc] 29)=ZO at ah hk0 aq hA0 ⊢
 have KP:=qH (show ∀wx,ZZ ZO.heap.size ZO wx->(ZZ ZO.heap.size ZO wx/\wx.cell? ⟨w.heap.size,0,U⟩=Z (H A n c)/\wx.cell? ⟨w.heap.size,1,U⟩=Z (D J re)/\wx.cell? ⟨w.heap.size,2,U⟩=Z (D J lo)/\wx.cell? ⟨w.heap.size+1,0,U⟩=Z (D J f)/\wx.cell? ⟨w.heap.size+1,1,U⟩=Z (D J l)/\wx.cell? ⟨w.heap.size+1,2,U⟩=Z (G far)/\wx.cell? ⟨w.heap.size+1,3,U⟩=Z (D J pc)) from
  fun wx h=>⟨h,((hk0.below h hk0.lt).cell 0).trans rfl,((hk0.below h hk0.lt).cell 1).trans rfl,((hk0.below h hk0.lt).cell 2).trans rfl,((aq.below h aq.lt).cell 0).trans rfl,((aq.below h aq.lt).cell 1).trans rfl,((aq.below h aq.lt).cell 2).trans rfl,((aq.below h aq.lt).cell 3).trans rfl⟩)
 first
  | go_region_held3 (fun wx=>ZZ ZO.heap.size ZO wx/\wx.cell? ⟨w.heap.size,0,U⟩=Z (H A n c)/\wx.cell? ⟨w.heap.size,1,U⟩=Z (D J re)/\wx.cell? ⟨w.heap.size,2,U⟩=Z (D J lo)/\wx.cell? ⟨w.heap.size+1,0,U⟩=Z (D J f)/\wx.cell? ⟨w.heap.size+1,1,U⟩=Z (D J l)/\wx.cell? ⟨w.heap.size+1,2,U⟩=Z (G far)/\wx.cell? ⟨w.heap.size+1,3,U⟩=Z (D J pc)) (first | assumption | exact KP.out _ (M _ _).drew | exact KP.out _ (zAa (And.left (by assumption)) (by assumption) (Below.size (And.left (by assumption)))))
    (first
     | (go_at_call 107;refine (zDm gR.out _ (hA0.below (And.left (by assumption))) hv pR.out.1 pR.out.2).mono ?_;rintro e wa ⟨rfl,hba⟩)
     | (go_at_call 155;refine (zPj DB.out _).mono ?_;rintro e wc ⟨rfl,rfl⟩))
  | fail
 all_goals
  have hbf:=zAa ah (And.left (show ZZ ZO.heap.size ZO _/\_ from by assumption)) ah.size;go_wp2_with fail
  go_ret;exact ⟨zCp (by rw [HF.out]),hbf⟩
theorem zJa {A:Option Addr} {n c:Nat} {L:List Fg} {re lo:Int} {s:Sg} {S:List UInt8} (h:zBh L s=S) (w:ZY) (hA:Fgs w A n L) (hv:frOk L re lo) (h1:1<=s.f) (h2:s.f<=(n:Int)) :
  Calls ZX 116 #[frV A n c re lo,sgV s] w fun e w'=>e=.returned (W (bA S))/\ZZ w.heap.size w w':=by
 subst h;exact zLB A n c L re lo s w hA hv h1 h2
theorem zCT {b:Bool} {S:List UInt8} (h:zAt b=S) (w:ZY):Calls ZX 115 #[G b] w fun e w'=>e=.returned (W (bA S))/\w'=w:=by
 subst h;exact zKu b w
