/-
  Lemmas, part 10. Conditions: each theorem's own.
-/
import Derived.Test.YtlmdfmnbcndhoaaGreatDoorRc09
import Derived.Shelf.Strings.Builder1
open Go.Value renaming bool→G,int→D,slice→H,string→W
open Go.IntKind renaming i64→J
open Bool renaming true→Q
open Option renaming none→U,some→Z
namespace Go.Proofs.YtlmdfmnbcndhoaaGreatDoor
open Go.RowKit
def zUf (k:Int):Int:=if k=1 then 45 else if k=2 then 94 else if k=3 then 60 else if k=4 then 126 else if k=5 then 61 else if k=6 then 42 else if k=7 then 37 else 33
def zJd (k:Int):List UInt8:=if k=1 then [45] else if k=2 then [94] else if k=3 then [60] else if k=4 then [126] else if k=5 then [61] else if k=6 then [42] else if k=7 then [37] else [33]
def zMx (L:List Fg) (x:Sp):List UInt8:=zDC L x.s++zAX x.over
def zDQ (L:List Fg) (P:List Sp):Nat→List UInt8
 | 0=>[]
 | i+1=>zDQ L P i++(if 0 < i then [44] else [])++zMx L (pa P i)
def zEB (L:List Fg) (o:Og):List UInt8 :=
 if o.kind=4 then zAX o.over
 else if o.kind=3 then zDQ L o.path o.path.length++(if o.path=[] then [] else [60])++zDC L o.fr
 else if o.kind=5 then zDC L o.fr++zAX o.over
 else if o.kind=6∨o.kind=7 then nmF L o.fr.f++zAX o.over
 else []
def zDt (L:List Fg) (o:Og):List UInt8:=nmF L o.f++zJd o.kind++zEB L o
theorem zCB (b:Bool):(zAX b).length=1:=by cases b<;>rfl
theorem zKs (k:Int):(zJd k).length=1:=by
 unfold zJd
 repeat (split;· rfl)
 rfl
theorem zPe (k:Int) (h1:1≤k) (h8:k≤8):(∀w:World,(Instr.index 9 (W ⟨#[32,45,94,60,126,61,42,37,33]⟩) (D J k)).run Tryz.prog w=.ok (D .u8 (zUf k)) w) ∧
  ∀w:World,(convert 5 9 (D .u8 (zUf k))).run Tryz.prog w=.ok (W (bA (zJd k))) w:=by
 have hk:k=1∨k=2∨k=3∨k=4∨k=5∨k=6∨k=7∨k=8:=by omega
 rcases hk with rfl | rfl | rfl | rfl | rfl | rfl | rfl | rfl
 all_goals exact ⟨fun _=>by kernel_rfl,fun _=>by kernel_rfl⟩
set_option maxHeartbeats 12800000 in
set_option maxRecDepth 100000 in
theorem zNG (A:Option Addr) (n c:Nat) (L:List Fg) (re lo:Int) (o:Og) (B:Option Addr) (m d:Nat) (w:World) (hA:Fgs w A n L) (hv:frOk L re lo) (hO:OpIn w o B m d) (hr:zAq n o=Q) (hm:m≤10000) :
  Calls Tryz.prog 68 #[frV A n c re lo,opV o B m d] w fun e w'=>e=.returned (W (bA (zDt L o)))∧Below w.heap.size w w':=by
 obtain ⟨h1,h8,eX,aP,hpn,hfrn⟩:=zCe hr;have hlen:=hO.path.len;have jr:=zBH hv eX (by rw [hA.len];exact aP);have hnl:=hA.len;have hP:Stps w B m o.path:=hO.path;have sY:=zKs o.kind;have pl:zDt L o=nmF L o.f++zJd o.kind++zEB L o:=rfl;obtain ⟨kind,f,⟨ff,fl,ffar,fpc⟩,path,over⟩:=o;simp only at h1 h8 eX aP hpn hfrn hlen jr hP sY pl ⊢;obtain ⟨hix,hcv⟩:=zPe kind h1 h8;obtain ⟨SI,EQ⟩:∃T,zUf kind=T:=⟨_,rfl⟩
 obtain ⟨SF,BU⟩:∃T,zJd kind=T:=⟨_,rfl⟩
 obtain ⟨NM,fc⟩:∃T,nmF L f=T:=⟨_,rfl⟩
 obtain ⟨OV,nK⟩:∃T,zAX over=T:=⟨_,rfl⟩
 obtain ⟨G1,mM⟩:∃T,NM++SF=T:=⟨_,rfl⟩
 have ou:=zCB over;rw [EQ] at hix hcv;rw [BU] at sY hcv;rw [fc] at jr;rw [nK] at ou;have l1:G1.length≤44:=by rw [←mM];simp;omega
 have s1:=zAS mM _ _ rfl rfl (by omega) (by omega);rw [BU,fc,mM] at pl;have mP:=qH pl;have mO:=qH fc;have aZ:=qH nK;have HK:=qH (show 0≤kind∧kind≤8 from ⟨by omega,h8⟩);have oc:=qH h1;have oc:=qH h1;have oe:=qH (show 1≤f∧f≤(n:Int) from ⟨eX,aP⟩);have iN:=qH hpn;have mC:=qH hfrn;have aN:=qH hlen;have fI:=qH hnl;have aa:Below w.heap.size w ((w.alloc (.cells #[H A n c,D J re,D J lo] 24)).alloc (.cells #[D J kind,D J f,D J ff,D J fl,G ffar,D J fpc,H B m d,G over] 32)):=((Below.refl _ _).alloc (Nat.le_refl _) _).alloc (by simp) _;have hk0:=(Blk.new w 24 #[H A n c,D J re,D J lo]).alloc (.cells #[D J kind,D J f,D J ff,D J fl,G ffar,D J fpc,H B m d,G over] 32);have ag:Blk ((w.alloc (.cells #[H A n c,D J re,D J lo] 24)).alloc (.cells #[D J kind,D J f,D J ff,D J fl,G ffar,D J fpc,H B m d,G over] 32)) (w.heap.size+1) 32 #[D J kind,D J f,D J ff,D J fl,G ffar,D J fpc,H B m d,G over]:=heap_alloc2_new w _ _;clear pl EQ BU fc nK mM sY jr h1 h8 eX aP hpn hfrn hlen hr hnl hO;go_enter Tryz.func68,Tryz.ntmps68;go_wp2_with fail
 have hA0:=hA.below aa;have mK:=hP.below aa;generalize (w.alloc (.cells #[H A n c,D J re,D J lo] 24)).alloc (.cells #[D J kind,D J f,D J ff,D J fl,G ffar,D J fpc,H B m d,G over] 32)=ZR at aa hk0 ag hA0 mK ⊢
 have KP:=qH (show ∀wx,Below ZR.heap.size ZR wx→(Below ZR.heap.size ZR wx∧wx.cell? ⟨w.heap.size,0,U⟩=Z (H A n c)∧wx.cell? ⟨w.heap.size,1,U⟩=Z (D J re)∧wx.cell? ⟨w.heap.size,2,U⟩=Z (D J lo)∧wx.cell? ⟨w.heap.size+1,0,U⟩=Z (D J kind)∧wx.cell? ⟨w.heap.size+1,1,U⟩=Z (D J f)∧wx.cell? ⟨w.heap.size+1,2,U⟩=Z (D J ff)∧wx.cell? ⟨w.heap.size+1,3,U⟩=Z (D J fl)∧wx.cell? ⟨w.heap.size+1,4,U⟩=Z (G ffar)∧wx.cell? ⟨w.heap.size+1,5,U⟩=Z (D J fpc)∧wx.cell? ⟨w.heap.size+1,6,U⟩=Z (H B m d)∧wx.cell? ⟨w.heap.size+1,7,U⟩=Z (G over)) from
  fun wx h=>⟨h,((hk0.below h hk0.lt).cell 0).trans rfl,((hk0.below h hk0.lt).cell 1).trans rfl,((hk0.below h hk0.lt).cell 2).trans rfl,((ag.below h ag.lt).cell 0).trans rfl,((ag.below h ag.lt).cell 1).trans rfl,((ag.below h ag.lt).cell 2).trans rfl,((ag.below h ag.lt).cell 3).trans rfl,((ag.below h ag.lt).cell 4).trans rfl,((ag.below h ag.lt).cell 5).trans rfl,((ag.below h ag.lt).cell 6).trans rfl,((ag.below h ag.lt).cell 7).trans rfl⟩)
 first
  | go_region_held3 (fun wx=>Below ZR.heap.size ZR wx∧wx.cell? ⟨w.heap.size,0,U⟩=Z (H A n c)∧wx.cell? ⟨w.heap.size,1,U⟩=Z (D J re)∧wx.cell? ⟨w.heap.size,2,U⟩=Z (D J lo)∧wx.cell? ⟨w.heap.size+1,0,U⟩=Z (D J kind)∧wx.cell? ⟨w.heap.size+1,1,U⟩=Z (D J f)∧wx.cell? ⟨w.heap.size+1,2,U⟩=Z (D J ff)∧wx.cell? ⟨w.heap.size+1,3,U⟩=Z (D J fl)∧wx.cell? ⟨w.heap.size+1,4,U⟩=Z (G ffar)∧wx.cell? ⟨w.heap.size+1,5,U⟩=Z (D J fpc)∧wx.cell? ⟨w.heap.size+1,6,U⟩=Z (H B m d)∧wx.cell? ⟨w.heap.size+1,7,U⟩=Z (G over)) (first | assumption | exact KP.out _ (Below.refl _ _).drew | exact KP.out _ (zAa (And.left (by assumption)) (by assumption) (Below.size (And.left (by assumption)))))
    (first
     | (go_at_call 107;refine (zDs mO.out _ (hA0.below (And.left (by assumption))) hv oe.out.1 oe.out.2).mono ?_;rintro e wc ⟨rfl,hbc⟩))
  | fail
 all_goals
  obtain ⟨hbx,a0,a1,a2,e0,e1,e2,e3,e4,e5,e6,e7⟩:=(show Below ZR.heap.size ZR _∧_ from by assumption);have ab:=zAa aa hbx aa.size;have eq:=hA0.below hbx;have hPx:=mK.below hbx;have hkx:=ag.below hbx ag.lt;have hfx:=hk0.below hbx hk0.lt;clear hbc;have HT:=qH (show zDt L ⟨kind,f,⟨ff,fl,ffar,fpc⟩,path,over⟩=G1++zEB L ⟨kind,f,⟨ff,fl,ffar,fpc⟩,path,over⟩ from mP.out);clear mP mO s1 KP hA0 mK hk0 ag hbx aa hix hcv
  have KP:=qH (show ∀wx,Below wc.heap.size wc wx→(Below wc.heap.size wc wx∧wx.cell? ⟨w.heap.size,0,U⟩=Z (H A n c)∧wx.cell? ⟨w.heap.size,1,U⟩=Z (D J re)∧wx.cell? ⟨w.heap.size,2,U⟩=Z (D J lo)∧wx.cell? ⟨w.heap.size+1,0,U⟩=Z (D J kind)∧wx.cell? ⟨w.heap.size+1,1,U⟩=Z (D J f)∧wx.cell? ⟨w.heap.size+1,2,U⟩=Z (D J ff)∧wx.cell? ⟨w.heap.size+1,3,U⟩=Z (D J fl)∧wx.cell? ⟨w.heap.size+1,4,U⟩=Z (G ffar)∧wx.cell? ⟨w.heap.size+1,5,U⟩=Z (D J fpc)∧wx.cell? ⟨w.heap.size+1,6,U⟩=Z (H B m d)∧wx.cell? ⟨w.heap.size+1,7,U⟩=Z (G over)) from
   fun wx h=>⟨h,((hfx.below h hfx.lt).cell 0).trans rfl,((hfx.below h hfx.lt).cell 1).trans rfl,((hfx.below h hfx.lt).cell 2).trans rfl,((hkx.below h hkx.lt).cell 0).trans rfl,((hkx.below h hkx.lt).cell 1).trans rfl,((hkx.below h hkx.lt).cell 2).trans rfl,((hkx.below h hkx.lt).cell 3).trans rfl,((hkx.below h hkx.lt).cell 4).trans rfl,((hkx.below h hkx.lt).cell 5).trans rfl,((hkx.below h hkx.lt).cell 6).trans rfl,((hkx.below h hkx.lt).cell 7).trans rfl⟩)
  have hk:(kind=1∨kind=2∨kind=8)∨kind=4∨kind=5∨(kind=6∨kind=7)∨kind=3:=by have:=HK.out;have:=oc.out;omega
  clear HK oc;rcases hk with hk | rfl | rfl | hk | rfl
  ·rcases hk with rfl | rfl | rfl
   all_goals
    have HR:=qH (show bA G1=bA (zDt L _) by rw [HT.out];simp [zEB]);clear HT;go_wp2_with fail
    go_ret;exact ⟨zGD HR.out,ab⟩
  ·obtain ⟨R2,tK⟩:∃T,G1++OV=T:=⟨_,rfl⟩
   have t2:=zAS tK _ _ rfl rfl (by omega) (by omega);have HR:=qH (show bA R2=bA (zDt L _) by rw [HT.out,←tK,←aZ.out];simp [zEB]);clear HT tK l1 ou;go_wp2_with fail
   refine (zDa aZ.out _).mono ?_;rintro e wd ⟨rfl,rfl⟩;go_wp2_with fail
   go_ret;exact ⟨zGD HR.out,ab⟩
  ·have hnf:=zAC.1 (mC.out (by omega));simp only at hnf;have im:=zCt hv (s:=⟨ff,fl,ffar,fpc⟩) hnf.1 (by rw [fI.out];exact hnf.2.1);obtain ⟨PL,dG⟩:∃T,zDC L ⟨ff,fl,ffar,fpc⟩=T:=⟨_,rfl⟩
   obtain ⟨Q3,eC⟩:∃T,PL++OV=T:=⟨_,rfl⟩
   obtain ⟨Q4,gm⟩:∃T,G1++Q3=T:=⟨_,rfl⟩
   rw [dG] at im;have m3:Q3.length≤45:=by rw [←eC];simp;omega
   have t3:=zAS eC _ _ rfl rfl (by omega) (by omega);have t4:=zAS gm _ _ rfl rfl (by omega) (by omega);have HR:=qH (show bA Q4=bA (zDt L _) by rw [HT.out,←gm,←eC,←dG,←aZ.out];simp [zEB]);have cu:=qH dG;have ez:=qH (show 1≤ff∧ff≤(n:Int) from ⟨hnf.1,hnf.2.1⟩);clear HT eC gm m3 l1 ou im dG hnf mC;go_wp2_with fail
   first
    | go_region_held3 (fun wx=>Below wc.heap.size wc wx∧wx.cell? ⟨w.heap.size,0,U⟩=Z (H A n c)∧wx.cell? ⟨w.heap.size,1,U⟩=Z (D J re)∧wx.cell? ⟨w.heap.size,2,U⟩=Z (D J lo)∧wx.cell? ⟨w.heap.size+1,0,U⟩=Z (D J 5)∧wx.cell? ⟨w.heap.size+1,1,U⟩=Z (D J f)∧wx.cell? ⟨w.heap.size+1,2,U⟩=Z (D J ff)∧wx.cell? ⟨w.heap.size+1,3,U⟩=Z (D J fl)∧wx.cell? ⟨w.heap.size+1,4,U⟩=Z (G ffar)∧wx.cell? ⟨w.heap.size+1,5,U⟩=Z (D J fpc)∧wx.cell? ⟨w.heap.size+1,6,U⟩=Z (H B m d)∧wx.cell? ⟨w.heap.size+1,7,U⟩=Z (G over)) (first | assumption | exact KP.out _ (Below.refl _ _).drew | exact KP.out _ (zAa (And.left (by assumption)) (by assumption) (Below.size (And.left (by assumption)))))
      (first
       | (go_at_call 116;refine (zJc cu.out _ (eq.below (And.left (by assumption))) hv ez.out.1 ez.out.2).mono ?_;rintro e wd ⟨rfl,hbd⟩)
       | (go_at_call 115;refine (zDa aZ.out _).mono ?_;rintro e we ⟨rfl,rfl⟩))
    | fail
   all_goals
    have hbf:=zAa ab (And.left (show Below wc.heap.size wc _∧_ from by assumption)) ab.size;go_wp2_with fail
    go_ret;exact ⟨zGD HR.out,hbf⟩
  ·have hnf:=zAC.1 (mC.out (by omega));simp only at hnf;have im:=zBH hv (f:=ff) hnf.1 (by rw [fI.out];exact hnf.2.1);obtain ⟨PL,dG⟩:∃T,nmF L ff=T:=⟨_,rfl⟩
   rw [dG] at im;have cu:=qH dG;have ez:=qH (show 1≤ff∧ff≤(n:Int) from ⟨hnf.1,hnf.2.1⟩);clear hnf mC;obtain ⟨Q3,eC⟩:∃T,PL++OV=T:=⟨_,rfl⟩
   obtain ⟨Q4,gm⟩:∃T,G1++Q3=T:=⟨_,rfl⟩
   have m3:Q3.length≤45:=by rw [←eC];simp;omega
   have t3:=zAS eC _ _ rfl rfl (by omega) (by omega);have t4:=zAS gm _ _ rfl rfl (by omega) (by omega);have hrk:bA Q4=bA (zDt L ⟨kind,f,⟨ff,fl,ffar,fpc⟩,path,over⟩):=by rw [HT.out,←gm,←eC,←dG,←aZ.out];rcases hk with rfl | rfl<;>simp [zEB]
   have HR:=qH hrk;clear HT eC gm m3 l1 ou im dG hrk;rcases hk with rfl | rfl
   ·go_wp2_with fail
    first
     | go_region_held3 (fun wx=>Below wc.heap.size wc wx∧wx.cell? ⟨w.heap.size,0,U⟩=Z (H A n c)∧wx.cell? ⟨w.heap.size,1,U⟩=Z (D J re)∧wx.cell? ⟨w.heap.size,2,U⟩=Z (D J lo)∧wx.cell? ⟨w.heap.size+1,0,U⟩=Z (D J 6)∧wx.cell? ⟨w.heap.size+1,1,U⟩=Z (D J f)∧wx.cell? ⟨w.heap.size+1,2,U⟩=Z (D J ff)∧wx.cell? ⟨w.heap.size+1,3,U⟩=Z (D J fl)∧wx.cell? ⟨w.heap.size+1,4,U⟩=Z (G ffar)∧wx.cell? ⟨w.heap.size+1,5,U⟩=Z (D J fpc)∧wx.cell? ⟨w.heap.size+1,6,U⟩=Z (H B m d)∧wx.cell? ⟨w.heap.size+1,7,U⟩=Z (G over)) (first | assumption | exact KP.out _ (Below.refl _ _).drew | exact KP.out _ (zAa (And.left (by assumption)) (by assumption) (Below.size (And.left (by assumption)))))
       (first
        | (go_at_call 107;refine (zDs cu.out _ (eq.below (And.left (by assumption))) hv ez.out.1 ez.out.2).mono ?_;rintro e wd ⟨rfl,hbd⟩)
        | (go_at_call 115;refine (zDa aZ.out _).mono ?_;rintro e we ⟨rfl,rfl⟩))
     | fail
    all_goals
     have hbf:=zAa ab (And.left (show Below wc.heap.size wc _∧_ from by assumption)) ab.size;go_wp2_with fail
     go_ret;exact ⟨zGD HR.out,hbf⟩
   ·go_wp2_with fail
    first
     | go_region_held3 (fun wx=>Below wc.heap.size wc wx∧wx.cell? ⟨w.heap.size,0,U⟩=Z (H A n c)∧wx.cell? ⟨w.heap.size,1,U⟩=Z (D J re)∧wx.cell? ⟨w.heap.size,2,U⟩=Z (D J lo)∧wx.cell? ⟨w.heap.size+1,0,U⟩=Z (D J 7)∧wx.cell? ⟨w.heap.size+1,1,U⟩=Z (D J f)∧wx.cell? ⟨w.heap.size+1,2,U⟩=Z (D J ff)∧wx.cell? ⟨w.heap.size+1,3,U⟩=Z (D J fl)∧wx.cell? ⟨w.heap.size+1,4,U⟩=Z (G ffar)∧wx.cell? ⟨w.heap.size+1,5,U⟩=Z (D J fpc)∧wx.cell? ⟨w.heap.size+1,6,U⟩=Z (H B m d)∧wx.cell? ⟨w.heap.size+1,7,U⟩=Z (G over)) (first | assumption | exact KP.out _ (Below.refl _ _).drew | exact KP.out _ (zAa (And.left (by assumption)) (by assumption) (Below.size (And.left (by assumption)))))
       (first
        | (go_at_call 107;refine (zDs cu.out _ (eq.below (And.left (by assumption))) hv ez.out.1 ez.out.2).mono ?_;rintro e wd ⟨rfl,hbd⟩)
        | (go_at_call 115;refine (zDa aZ.out _).mono ?_;rintro e we ⟨rfl,rfl⟩))
     | fail
    all_goals
     have hbf:=zAa ab (And.left (show Below wc.heap.size wc _∧_ from by assumption)) ab.size;go_wp2_with fail
     go_ret;exact ⟨zGD HR.out,hbf⟩
  ·have hnf:=zAC.1 (mC.out (by omega));simp only at hnf;have im:=zCt hv (s:=⟨ff,fl,ffar,fpc⟩) hnf.1 (by rw [fI.out];exact hnf.2.1);obtain ⟨PL,dG⟩:∃T,zDC L ⟨ff,fl,ffar,fpc⟩=T:=⟨_,rfl⟩
   rw [dG] at im;have cu:=qH dG;have ez:=qH (show 1≤ff∧ff≤(n:Int) from ⟨hnf.1,hnf.2.1⟩);have hstart:Hid (G1=G1++zDQ L path 0):=qH (by simp [zDQ]);clear dG hnf mC KP;go_wp2_with fail
   clear a0 a1 a2 e0 e1 e2 e3 e4 e5 e6 e7;go_loopw [5,31] (fun v5 v31 wr=>∃(i:Nat) (T:List UInt8),i≤m∧v31=D J i∧v5=W (bA T)∧Below wc.heap.size wc wr∧Hid (T=G1++zDQ L path i)∧T.length≤44+i*50) (fun _ v31 _=>m-(intOf v31).toNat)
   case atStart=>exact ⟨0,G1,Nat.zero_le _,rfl,rfl,Below.refl _ _,hstart,by omega⟩
   case round =>
    obtain ⟨i,T,hi,rfl,rfl,hbr,eF,pd⟩:=hrel;have hfr:=hfx.below hbr hfx.lt;have hor:=hkx.below hbr hkx.lt;have dM:=eq.below hbr;have hbw:=zAa ab hbr ab.size;by_cases hlt:i < m
    ·obtain ⟨g,p,rfl,hg,⟨x0,x1,x2,x3,x4⟩,_⟩:=(hPx.below hbr).at_ hlt;have j0:(0:Int)≤(i:Int):=by omega
     have j1:(i:Int) < (m:Int):=by omega
     have hil:i < path.length:=by rw [aN.out];exact hlt
     have hsn:zDQ L path (i+1)=zDQ L path i++(if 0 < i then [44] else [])++zMx L (pa path i):=rfl;have hnm:=zAC.1 (iN.out _ (List.mem_of_getElem? (zEA hil)));generalize pa path i=x at x0 x1 x2 x3 x4 hsn hnm;obtain ⟨⟨xf,xl,xfar,xpc⟩,xo⟩:=x;simp only at x0 x1 x2 x3 x4 hnm;have oX:=zCt hv (s:=⟨xf,xl,xfar,xpc⟩) hnm.1 (by rw [fI.out];exact hnm.2.1);have wu:=zCB xo;have hst:zMx L ⟨⟨xf,xl,xfar,xpc⟩,xo⟩=zDC L ⟨xf,xl,xfar,xpc⟩++zAX xo:=rfl;obtain ⟨PX,ph⟩:∃T,zDC L ⟨xf,xl,xfar,xpc⟩=T:=⟨_,rfl⟩
     obtain ⟨OX,pi⟩:∃T,zAX xo=T:=⟨_,rfl⟩
     obtain ⟨Y1,o9⟩:∃T,PX++OX=T:=⟨_,rfl⟩
     rw [ph] at oX;rw [pi] at wu;have y1:Y1.length≤45:=by rw [←o9];simp;omega
     have r1:=zAS o9 _ _ rfl rfl (by omega) (by omega);have hU:∃ZV:List UInt8,ZV=T++(if 0 < i then [44] else [])∧((¬0 < (i:Int)∧ZV=T)∨(0 < (i:Int)∧∀w,(Op.stringOp .add (bA T) ⟨#[44]⟩).run Tryz.prog w=.ok (W (bA ZV)) w)):=by
      by_cases h0:0 < i
      ·exact ⟨T++[44],by rw [if_pos h0],.inr ⟨by omega,zAS rfl _ _ rfl rfl (by omega) (by simp)⟩⟩
      ·exact ⟨T,by rw [if_neg h0];simp,.inl ⟨by omega,rfl⟩⟩
     obtain ⟨ZV,BO,hU⟩:=hU;have hUl:ZV.length≤45+i*50:=by rw [BO];split<;>simp<;>omega
     obtain ⟨Y5,o8⟩:∃V,ZV++Y1=V:=⟨_,rfl⟩
     have y5:Y5.length≤44+(i+1)*50:=by rw [←o8];simp;omega
     have r5:=zAS o8 _ _ rfl rfl (by omega) (by omega);have uk:=qH (show Y5=G1++zDQ L path (i+1) by rw [hsn,hst,ph,pi,←o8,BO,eF.out,←o9];simp);have Da:=qH ph;have Dd:=qH pi;have iy:=qH (show 1≤xf∧xf≤(n:Int) from ⟨hnm.1,hnm.2.1⟩);have aj:Below wc.heap.size wc (wr.alloc (.cells #[D J xf,D J xl,G xfar,D J xpc,G xo] 86)):=hbr.alloc hbr.size _;have dx:=hfr.alloc (.cells #[D J xf,D J xl,G xfar,D J xpc,G xo] 86);have de:Blk (wr.alloc (.cells #[D J xf,D J xl,G xfar,D J xpc,G xo] 86)) wr.heap.size 86 #[D J xf,D J xl,G xfar,D J xpc,G xo]:=Blk.new _ _ _;have nN:=dM.alloc (.cells #[D J xf,D J xl,G xfar,D J xpc,G xo] 86);clear hsn hst ph pi o9 o8 y1 oX wu hil eF hnm BO hUl;rcases hU with ⟨hu,rfl⟩ | ⟨hu,yR⟩
     all_goals
      go_wp2_with fail
      clear x0 x1 x2 x3 x4 hg hbr hfr hor dM hbw;generalize wr.alloc (.cells #[D J xf,D J xl,G xfar,D J xpc,G xo] 86)=Y at aj dx de nN ⊢
      have KP:=qH (show ∀wx,Below Y.heap.size Y wx→(Below Y.heap.size Y wx∧wx.cell? ⟨w.heap.size,0,U⟩=Z (H A n c)∧wx.cell? ⟨w.heap.size,1,U⟩=Z (D J re)∧wx.cell? ⟨w.heap.size,2,U⟩=Z (D J lo)∧wx.cell? ⟨wr.heap.size,0,U⟩=Z (D J xf)∧wx.cell? ⟨wr.heap.size,1,U⟩=Z (D J xl)∧wx.cell? ⟨wr.heap.size,2,U⟩=Z (G xfar)∧wx.cell? ⟨wr.heap.size,3,U⟩=Z (D J xpc)∧wx.cell? ⟨wr.heap.size,4,U⟩=Z (G xo)) from
       fun wx h=>⟨h,((dx.below h dx.lt).cell 0).trans rfl,((dx.below h dx.lt).cell 1).trans rfl,((dx.below h dx.lt).cell 2).trans rfl,((de.below h de.lt).cell 0).trans rfl,((de.below h de.lt).cell 1).trans rfl,((de.below h de.lt).cell 2).trans rfl,((de.below h de.lt).cell 3).trans rfl,((de.below h de.lt).cell 4).trans rfl⟩)
      first
       | go_region_held3 (fun wx=>Below Y.heap.size Y wx∧wx.cell? ⟨w.heap.size,0,U⟩=Z (H A n c)∧wx.cell? ⟨w.heap.size,1,U⟩=Z (D J re)∧wx.cell? ⟨w.heap.size,2,U⟩=Z (D J lo)∧wx.cell? ⟨wr.heap.size,0,U⟩=Z (D J xf)∧wx.cell? ⟨wr.heap.size,1,U⟩=Z (D J xl)∧wx.cell? ⟨wr.heap.size,2,U⟩=Z (G xfar)∧wx.cell? ⟨wr.heap.size,3,U⟩=Z (D J xpc)∧wx.cell? ⟨wr.heap.size,4,U⟩=Z (G xo)) (first | assumption | exact KP.out _ (Below.refl _ _).drew | exact KP.out _ (zAa (And.left (by assumption)) (by assumption) (Below.size (And.left (by assumption)))))
         (first
          | (go_at_call 116;refine (zJc Da.out _ (nN.below (And.left (by assumption))) hv iy.out.1 iy.out.2).mono ?_;rintro e wd ⟨rfl,hbd⟩)
          | (go_at_call 115;refine (zDa Dd.out _).mono ?_;rintro e we ⟨rfl,rfl⟩))
       | fail
      all_goals
       have hbf:=zAa aj (And.left (show Below Y.heap.size Y _∧_ from by assumption)) aj.size;go_wp2_with fail
       go_roundw
       case rel=>exact ⟨i+1,Y5,by omega,by go_num,rfl,hbf,uk,y5⟩
       case measure=>simp [intOf];omega
    ·have hin:i=m:=by omega
     have j1:¬(i:Int) < (m:Int):=by omega
     have hV:∃V:List UInt8,V=T++(if path=[] then [] else [60])∧((¬0 < (m:Int)∧V=T)∨(0 < (m:Int)∧∀w,(Op.stringOp .add (bA T) ⟨#[60]⟩).run Tryz.prog w=.ok (W (bA V)) w)):=by
      by_cases h0:path=[]
      ·exact ⟨T,by rw [if_pos h0];simp,.inl ⟨by rw [←aN.out,h0];simp,rfl⟩⟩
      ·have:0 < m:=by rw [←aN.out];exact List.length_pos_iff.2 h0
       exact ⟨T++[60],by rw [if_neg h0],.inr ⟨by omega,zAS rfl _ _ rfl rfl (by omega) (by simp)⟩⟩
     obtain ⟨V,BM,hV⟩:=hV;have hVl:V.length≤45+i*50:=by rw [BM];split<;>simp<;>omega
     obtain ⟨Z2,tG⟩:∃ZV,V++PL=ZV:=⟨_,rfl⟩
     have t2:=zAS tG _ _ rfl rfl (by omega) (by omega)
     have HR:=qH (show bA Z2=bA (zDt L _) by
      rw [HT.out,←tG,←cu.out,BM,eF.out,hin,←aN.out];simp [zEB])
     obtain ⟨b0,b1,b2⟩:=cQ3 hfr;obtain ⟨-,-,d2,d3,d4,d5,d6,-⟩:=cQ8 hor;clear hin tG eF HT BM hVl;rcases hV with ⟨hu,rfl⟩ | ⟨hu,yR⟩
     all_goals
      go_wp2_with fail
      refine (zJc cu.out _ dM hv ez.out.1 ez.out.2).mono ?_;rintro e wd ⟨rfl,hbd⟩;have hbf:=zAa hbw hbd hbw.size;clear b0 b1 b2 d2 d3 d4 d5 d6;go_wp2_with fail
      go_ret;exact ⟨zGD HR.out,hbf⟩
end Go.Proofs.YtlmdfmnbcndhoaaGreatDoor
namespace Go.Proofs
theorem Tryz.lays166:Go.Proofs.Lays.n166 Tryz.prog Tryz.lays156_ren:=by
 have L:=Tryz.lays156;exact { mixed:=L.mixed,f166:=L.f166,f240:=L.f240,f276:=L.f276,t0:=L.t0,a0:=L.a0,z0:=L.z0,v0:=L.v0,t3:=L.t3,a3:=L.a3,z3:=L.z3,v3:=L.v3,t4:=L.t4,a4:=L.a4,z4:=L.z4,v4:=L.v4,t9:=L.t9,a9:=L.a9,z9:=L.z9,v9:=L.v9,t20:=L.t20,a20:=L.a20,z20:=L.z20,v20:=L.v20,t37:=L.t37,a37:=L.a37,z37:=L.z37,v37:=L.v37,t70:=L.t70,a70:=L.a70,z70:=L.z70,v70:=L.v70,t72:=L.t72,a72:=L.a72,z72:=L.z72,v72:=L.v72,t75:=L.t75,a75:=L.a75,z75:=L.z75,v75:=L.v75,t164:=L.t164,a164:=L.a164,z164:=L.z164,v164:=L.v164 }
end Go.Proofs
namespace Go.Proofs.YtlmdfmnbcndhoaaGreatDoor
open Go.RowKit
abbrev IsB (b:Nat) (T:List UInt8) (w:World):Prop:=Lib.IsBuilder 101 5 b b (Lib.byteCells T) w
theorem zJe (b:Nat) (T S:List UInt8) (w:World) (h:IsB b T w) (hl:T.length+S.length≤140737488355328) (hb:b≤w.heap.size) :
  Calls Tryz.prog 59 #[.pointer (Z ⟨b,0,U⟩),W (bA S)] w fun e w'=>(∃x y,e=.returned (.tuple #[x,y]))∧IsB b (T++S) w'∧Below b w w':=by
 refine (Any.Builder_WriteString Tryz.lays166 Tryz.Builder_Extra_156 b b (Lib.byteCells T) (bA S) w h (by rw [Lib.byteCells_length,zAP];exact hl) hb).mono ?_;rintro e w' ⟨rfl,h1,h2⟩;refine ⟨⟨_,_,rfl⟩,.inr ?_,h2⟩;rw [Lib.byteCells_append,←zDM S];exact h1
theorem zKt (b:Nat) (T:List UInt8) (w:World) (h:IsB b T w) (hb:b≤w.heap.size) :
  Calls Tryz.prog 61 #[.pointer (Z ⟨b,0,U⟩)] w fun e w'=>e=.returned (W (bA T))∧Below b w w':=Tryz.Builder_String_any b b T w h hb
end Go.Proofs.YtlmdfmnbcndhoaaGreatDoor
namespace Go.Proofs.YtlmdfmnbcndhoaaGreatDoor
open Go.RowKit
theorem zKu {b:Nat} {T:List UInt8} {w w':World} (h:IsB b T w) (hb:Below w.heap.size w w'):IsB b T w':=by
 have key:∀p,Lib.BuilderAt 101 5 b b p (Lib.byteCells T) w→Lib.BuilderAt 101 5 b b p (Lib.byteCells T) w':=fun p hp=>by
  have hlt:=hp.lt;obtain ⟨h0,v,h1,h2,h3⟩:=hp;exact ⟨h0,v,(hb.block b hlt).trans h1,h2.kept (row:=U) ⟨hb.os,hb.tape,hb.output,hb.size,fun k hk _=>hb.block k hk⟩ (by cases e:v.ownBlock with | none=>exact .inl rfl | some k=>exact .inr (by simp)),h3⟩
 exact h.imp (key _) (key _)
theorem zUg (w:World):IsB w.heap.size [] (w.alloc (.cells #[.pointer U,H U 0 0] 101)) :=
 .inl ⟨Nat.le_refl _,H U 0 0,Blk.new w _ _,World.ownsRow_nil _ _ _ _,by simp [Value.ownBlock]⟩
def zDD (L:List Fg) (O:List Og):List UInt8:=O.flatMap fun o=>zDO L o++[10]
def zVU (Es:List Oe):Prop:=∀e∈Es,e.n≤10000
theorem zPf {L:List Fg} {re lo:Int} (hv:frOk L re lo) {o:Og} (hr:zAq L.length o=Q):(zDO L o).length≤300+o.path.length*120:=by
 obtain ⟨h1,h8,eX,aP,hpn,hfrn⟩:=zCe hr;have a:=zBH hv eX aP;have b:=zKm o.kind;have c:=zFg o.over;have p:=zKn hv hpn;have t:(zHn L o).length≤200+o.path.length*120:=by
  unfold zHn;by_cases e4:o.kind=4
  ·rw [if_pos e4];simp;omega
  ·rw [if_neg e4];by_cases e3:o.kind=3
   ·rw [if_pos e3];have:=zCs hv (hfrn (.inl e3));simp;omega
   ·rw [if_neg e3];by_cases e5:o.kind=5
    ·rw [if_pos e5];have:=zCs hv (hfrn (.inr (.inl e5)));simp;omega
    ·rw [if_neg e5];by_cases e6:o.kind=6
     ·rw [if_pos e6];have hn:=zAC.1 (hfrn (.inr (.inr (.inl e6))));have:=zBH hv hn.1 hn.2.1;simp;omega
     ·rw [if_neg e6];by_cases e7:o.kind=7
      ·rw [if_pos e7];have hn:=zAC.1 (hfrn (.inr (.inr (.inr e7))));have:=zBH hv hn.1 hn.2.1;simp;omega
      ·rw [if_neg e7];simp
 unfold zDO;simp;omega
theorem zUh {A:Option Addr} {n c:Nat} {L:List Fg} {re lo:Int} {o:Og} {S:List UInt8} (h:zDO L o=S) (B:Option Addr) (m d:Nat) (w:World) (hA:Fgs w A n L) (hv:frOk L re lo) (hO:OpIn w o B m d) (hr:zAq n o=Q) (hm:m≤10000) (ht:Tabs w) :
  Calls Tryz.prog 60 #[frV A n c re lo,opV o B m d] w fun e w'=>e=.returned (W (bA S))∧Below w.heap.size w w':=by
 subst h;exact zIz A n c L re lo o B m d w hA hv hO hr hm ht
set_option maxHeartbeats 6400000 in
set_option maxRecDepth 100000 in
theorem zLF (A:Option Addr) (n c:Nat) (L:List Fg) (re lo:Int) (B:Option Addr) (m d:Nat) (Es:List Oe) (w:World) (hA:Fgs w A n L) (hc:n≤c) (hO:Oprs w B m Es) (hm:m≤10000) (hf:zVU Es) (ht:Tabs w) :
  Calls Tryz.prog 22 #[frV A n c re lo,H B m d] w fun e w'=>e=.returned (.tuple #[W (bA (if zBi L re lo (Es.map (·.o))=0 then zDD L (Es.map (·.o)) else [])),D J (zBi L re lo (Es.map (·.o)))])∧Below w.heap.size w w':=by
 have aN:=qH hO.len;have fI:=qH hA.len;have aa:Below w.heap.size w (w.alloc (.cells #[H A n c,D J re,D J lo] 24)):=(Below.refl _ _).alloc (Nat.le_refl _) _;have hk0:Blk (w.alloc (.cells #[H A n c,D J re,D J lo] 24)) w.heap.size 24 #[H A n c,D J re,D J lo]:=Blk.new _ _ _;have hC:=zEI A n c L re lo B m d Es _ (hA.below aa) hc (hO.below aa);have hcase:=zDP L re lo (Es.map (·.o));obtain ⟨ZT,hE⟩:∃ZT,zBi L re lo (Es.map (·.o))=ZT:=⟨_,rfl⟩
 rw [hE] at hcase hC ⊢;have HC:=qH hC;have pI:=qH hf;clear hE hC hf;rcases hcase with ⟨rfl,hfr,hro⟩ | rfl
 ·have hri:∀i,i < m→zAq n (oa Es i).o=Q:=fun i hi=>by
   have:=hro _ (List.mem_map_of_mem (List.mem_of_getElem? (zCZ (L:=Es) (i:=i) (by rw [aN.out];exact hi))));rw [fI.out] at this;exact this
  have zT:=qH hri;clear hro hri;go_enter Tryz.func22,Tryz.ntmps22;go_wp2_with fail
  refine HC.out.mono ?_;rintro e w2 ⟨rfl,ab⟩;have ac:=zAa aa ab aa.size;have hk2:=hk0.below ab hk0.lt;have dn:=hA.below ac;have fP:=hO.below ac;have ht2:=ht.below ac;clear HC aa hk0 ab;go_wp2_with fail
  have hI:=zUg w2;have aj:Below w2.heap.size w2 (w2.alloc (.cells #[.pointer U,H U 0 0] 101)):=(Below.refl _ _).alloc (Nat.le_refl _) _;have AR:(w2.alloc (.cells #[.pointer U,H U 0 0] 101)).heap.size=w2.heap.size+1:=by simp
  generalize w2.alloc (.cells #[.pointer U,H U 0 0] 101)=ZR at hI aj AR ⊢;have HZ4:=qH AR;clear AR;go_loopw [18] (fun v wr=>∃(i:Nat) (T:List UInt8),i≤m∧v=D J i∧Below w2.heap.size w2 wr∧IsB w2.heap.size T wr∧Hid (T=zDD L ((Es.take i).map (·.o)))∧T.length≤i*1300000∧w2.heap.size≤wr.heap.size) (fun v _=>m-(intOf v).toNat)
  case atStart=>exact ⟨0,[],Nat.zero_le _,rfl,aj,hI,qH (by simp [zDD]),by simp,by have:=HZ4.out;omega⟩
  case round =>
   obtain ⟨i,T,hi,rfl,hbr,Ci,HT,pd,hzr⟩:=hrel;clear hI aj;have hkr:=hk2.below hbr hk2.lt;by_cases hlt:i < m
   ·obtain ⟨g,p,rfl,hg,⟨x0,x1,x2,x3,x4,x5,x6,x7⟩,hin⟩:=(fP.below hbr).at_ hlt;have j0:(0:Int)≤(i:Int):=by omega
    have j1:(i:Int) < (m:Int):=by omega
    have pq:=zCZ (L:=Es) (i:=i) (by rw [aN.out];exact hlt);have hpn:=pI.out _ (List.mem_of_getElem? pq);have hri:=zT.out i hlt;have hsn:zDD L ((Es.take (i+1)).map (·.o))=zDD L ((Es.take i).map (·.o))++(zDO L (oa Es i).o++[10]):=by
     unfold zDD;rw [List.take_add_one,pq];simp
    have hll:=zPf hfr (o:=(oa Es i).o) (by rw [fI.out];exact hri);generalize oa Es i=x at x0 x1 x2 x3 x4 x5 x6 x7 hin hpn hri hsn hll pq;obtain ⟨⟨kind,f,⟨ff,fl,ffar,fpc⟩,path,over⟩,PA,pn,pc⟩:=x;simp only at x0 x1 x2 x3 x4 x5 x6 x7 hin hpn hri hsn hll;have hpl:path.length=pn:=hin.path.len;obtain ⟨LN,Cf⟩:∃X,zDO L ⟨kind,f,⟨ff,fl,ffar,fpc⟩,path,over⟩=X:=⟨_,rfl⟩
    rw [Cf] at hsn hll;obtain ⟨L1,oF⟩:∃X,LN++[10]=X:=⟨_,rfl⟩
    have mf:L1.length≤1300000:=by rw [←oF];simp;omega
    have s1:=zAS oF _ ⟨#[10]⟩ rfl rfl (by omega) (by simp);rw [oF] at hsn;have HSN:=qH (show T++L1=zDD L ((Es.take (i+1)).map (·.o)) by rw [hsn,HT.out]);have BP:(T++L1).length≤(i+1)*1300000:=by rw [List.length_append,Nat.add_mul];omega
    have ai:Below w2.heap.size w2 (wr.alloc (.cells #[D J kind,D J f,D J ff,D J fl,G ffar,D J fpc,H PA pn pc,G over] 32)):=hbr.alloc hbr.size _;have Fd:=zKu Ci ((Below.refl wr.heap.size wr).alloc (Nat.le_refl _) (.cells #[D J kind,D J f,D J ff,D J fl,G ffar,D J fpc,H PA pn pc,G over] 32));have gk:=hkr.alloc (.cells #[D J kind,D J f,D J ff,D J fl,G ffar,D J fpc,H PA pn pc,G over] 32);have mi:=hin.below ((Below.refl wr.heap.size wr).alloc (Nat.le_refl _) (.cells #[D J kind,D J f,D J ff,D J fl,G ffar,D J fpc,H PA pn pc,G over] 32));have bj:=qH (zUh (c:=c) Cf PA pn pc _ (dn.below ai) hfr mi hri hpn (ht2.below ai));have xW:=qH (show T.length+L1.length≤140737488355328 by omega);have y0:=(gk.cell 0).trans rfl;have y1:=(gk.cell 1).trans rfl;have y2:=(gk.cell 2).trans rfl;have AQ:w2.heap.size≤(wr.alloc (.cells #[D J kind,D J f,D J ff,D J fl,G ffar,D J fpc,H PA pn pc,G over] 32)).heap.size:=by simp;omega
    clear Cf oF hsn hll hin mi hpn hri pq HT mf hpl;go_wp2_with fail
    refine bj.out.mono ?_;rintro e w6 ⟨rfl,ao⟩;have Fb:=zKu Fd ao;have bE:=zAa ai ao ai.size;have hz6:w2.heap.size≤w6.heap.size:=by have:=ao.size;omega
    clear y0 y1 y2 x0 x1 x2 x3 x4 x5 x6 x7 Fd ai gk AQ hbr Ci hkr bj;go_wp2_with fail
    refine (zJe w2.heap.size T L1 w6 Fb xW.out hz6).mono ?_;rintro e w8 ⟨⟨r1,r2,rfl⟩,Fa,bg⟩;have aJ:Below w2.heap.size w2 w8:=bE.trans bg;have uF:w2.heap.size≤w8.heap.size:=by have:=bg.size;omega
    have uw:=qH Fa;clear Fb bE bg Fa;go_wp2_with fail
    go_roundw
    case rel=>exact ⟨i+1,T++L1,by omega,by go_num,aJ,uw.out,HSN,BP,uF⟩
    case measure=>simp [intOf];omega
   ·have j1:¬(i:Int) < (m:Int):=by omega
    have hin:i=m:=by omega
    have HR:=qH (show T=zDD L (Es.map (·.o)) by rw [HT.out,hin,←aN.out,List.take_length]);clear hin HT;go_wp2_with fail
    refine (zKt w2.heap.size T wr Ci hzr).mono ?_;rintro e w8 ⟨rfl,bg⟩;have aJ:Below w.heap.size w w8:=zAa ac (hbr.trans bg) ac.size;go_wp2_with fail
    go_ret2;exact ⟨by rw [HR.out];simp,aJ⟩
 ·go_enter Tryz.func22,Tryz.ntmps22;go_wp2_with fail
  refine HC.out.mono ?_;rintro e w2 ⟨rfl,ab⟩;have ac:=zAa aa ab aa.size;go_wp2_with fail
  go_ret2;exact ⟨rfl,ac⟩
end Go.Proofs.YtlmdfmnbcndhoaaGreatDoor
