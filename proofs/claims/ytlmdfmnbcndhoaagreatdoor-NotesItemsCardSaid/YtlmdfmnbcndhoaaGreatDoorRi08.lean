/-
  Lemmas, part 8. Conditions: each theorem's own.
-/
import Derived.Test.YtlmdfmnbcndhoaaGreatDoorRi07
import Derived.Shelf.Strings.Builder1
namespace Go.Proofs.YtlmdfmnbcndhoaaGreatDoor
open Go.RowKit
def zSZ (k:Int):Int:=if k=1 then 45 else if k=2 then 94 else if k=3 then 60 else if k=4 then 126 else if k=5 then 61 else if k=6 then 42 else if k=7 then 37 else 33
def zCE (k:Int):List UInt8:=if k=1 then [45] else if k=2 then [94] else if k=3 then [60] else if k=4 then [126] else if k=5 then [61] else if k=6 then [42] else if k=7 then [37] else [33]
def zFO (L:List Fg) (x:Sp):List UInt8:=zBb L x.s++zAo x.over
def zBt (L:List Fg) (P:List Sp):Nat→List UInt8
 | 0=>[]
 | i+1=>zBt L P i++(if 0 < i then [44] else [])++zFO L (pa P i)
def zBm (L:List Fg) (o:Og):List UInt8 :=
 if o.kind=4 then zAo o.over
 else if o.kind=3 then zBt L o.path o.path.length++(if o.path=[] then [] else [60])++zBb L o.fr
 else if o.kind=5 then zBb L o.fr++zAo o.over
 else if o.kind=6∨o.kind=7 then nmF L o.fr.f++zAo o.over
 else []
def zBc (L:List Fg) (o:Og):List UInt8:=nmF L o.f++zCE o.kind++zBm L o
theorem zCm (b:Bool):(zAo b).length=1:=by cases b<;>rfl
theorem zJH (k:Int):(zCE k).length=1:=by
 unfold zCE
 repeat (split;· rfl)
 rfl
theorem zOg (k:Int) (h1:1≤k) (h8:k≤8):(∀w:World,(Instr.index 9 (.string ⟨#[32,45,94,60,126,61,42,37,33]⟩) (.int .i64 k)).run Tryz.prog w=.ok (.int .u8 (zSZ k)) w) ∧
  ∀w:World,(convert 5 9 (.int .u8 (zSZ k))).run Tryz.prog w=.ok (.string (bA (zCE k))) w:=by
 have hk:k=1∨k=2∨k=3∨k=4∨k=5∨k=6∨k=7∨k=8:=by omega
 rcases hk with rfl | rfl | rfl | rfl | rfl | rfl | rfl | rfl
 all_goals exact ⟨fun _=>by kernel_rfl,fun _=>by kernel_rfl⟩
set_option maxHeartbeats 12800000 in
set_option maxRecDepth 100000 in
theorem zMS (A:Option Addr) (n c:Nat) (L:List Fg) (re lo:Int) (o:Og) (B:Option Addr) (m d:Nat) (w:World) (hA:Fgs w A n L) (hv:frOk L re lo) (hO:OpIn w o B m d) (hr:zAh n o=true) (hm:m≤10000) :
  Calls Tryz.prog 68 #[frV A n c re lo,opV o B m d] w fun e w'=>e=.returned (.string (bA (zBc L o)))∧Below w.heap.size w w':=by
 obtain ⟨h1,h8,hf1,hf2,hpn,hfrn⟩:=zAS hr;have hlen:=hO.path.len;have hlN:=zBq hv hf1 (by rw [hA.len];exact hf2);have hnl:=hA.len;have hP:Stps w B m o.path:=hO.path;have hlV:=zJH o.kind;have hLF:zBc L o=nmF L o.f++zCE o.kind++zBm L o:=rfl;obtain ⟨kind,f,⟨ff,fl,ffar,fpc⟩,path,over⟩:=o;simp only at h1 h8 hf1 hf2 hpn hfrn hlen hlN hP hlV hLF ⊢;obtain ⟨hix,hcv⟩:=zOg kind h1 h8;obtain ⟨SI,hSI⟩:∃T,zSZ kind=T:=⟨_,rfl⟩
 obtain ⟨SF,hSF⟩:∃T,zCE kind=T:=⟨_,rfl⟩
 obtain ⟨NM,hNM⟩:∃T,nmF L f=T:=⟨_,rfl⟩
 obtain ⟨OV,hOV⟩:∃T,zAo over=T:=⟨_,rfl⟩
 obtain ⟨G1,hG1⟩:∃T,NM++SF=T:=⟨_,rfl⟩
 have lOV:=zCm over;rw [hSI] at hix hcv;rw [hSF] at hlV hcv;rw [hNM] at hlN;rw [hOV] at lOV;have l1:G1.length≤44:=by rw [←hG1];simp;omega
 have s1:=zAr hG1 _ _ rfl rfl (by omega) (by omega);rw [hSF,hNM,hG1] at hLF;have HLF:=qH hLF;have HNM:=qH hNM;have HOV:=qH hOV;have HK:=qH (show 0≤kind∧kind≤8 from ⟨by omega,h8⟩);have HK1:=qH h1;have HK1:=qH h1;have HF12:=qH (show 1≤f∧f≤(n:Int) from ⟨hf1,hf2⟩);have HPN:=qH hpn;have HFR:=qH hfrn;have HLEN:=qH hlen;have HNL:=qH hnl;have hb0:Below w.heap.size w ((w.alloc (.cells #[.slice A n c,.int .i64 re,.int .i64 lo] 24)).alloc (.cells #[.int .i64 kind,.int .i64 f,.int .i64 ff,.int .i64 fl,.bool ffar,.int .i64 fpc,.slice B m d,.bool over] 32)):=((Below.refl _ _).alloc (Nat.le_refl _) _).alloc (by simp) _;have hk0:=(Blk.new w 24 #[.slice A n c,.int .i64 re,.int .i64 lo]).alloc (.cells #[.int .i64 kind,.int .i64 f,.int .i64 ff,.int .i64 fl,.bool ffar,.int .i64 fpc,.slice B m d,.bool over] 32);have hk1:Blk ((w.alloc (.cells #[.slice A n c,.int .i64 re,.int .i64 lo] 24)).alloc (.cells #[.int .i64 kind,.int .i64 f,.int .i64 ff,.int .i64 fl,.bool ffar,.int .i64 fpc,.slice B m d,.bool over] 32)) (w.heap.size+1) 32 #[.int .i64 kind,.int .i64 f,.int .i64 ff,.int .i64 fl,.bool ffar,.int .i64 fpc,.slice B m d,.bool over]:=heap_alloc2_new w _ _;clear hLF hSI hSF hNM hOV hG1 hlV hlN h1 h8 hf1 hf2 hpn hfrn hlen hr hnl hO;go_enter Tryz.func68,Tryz.ntmps68;go_wp2_with fail
 have hA0:=hA.below hb0;have hP0:=hP.below hb0;generalize (w.alloc (.cells #[.slice A n c,.int .i64 re,.int .i64 lo] 24)).alloc (.cells #[.int .i64 kind,.int .i64 f,.int .i64 ff,.int .i64 fl,.bool ffar,.int .i64 fpc,.slice B m d,.bool over] 32)=W at hb0 hk0 hk1 hA0 hP0 ⊢
 have KP:=qH (show ∀wx,Below W.heap.size W wx→(Below W.heap.size W wx∧wx.cell? ⟨w.heap.size,0,none⟩=some (.slice A n c)∧wx.cell? ⟨w.heap.size,1,none⟩=some (.int .i64 re)∧wx.cell? ⟨w.heap.size,2,none⟩=some (.int .i64 lo)∧wx.cell? ⟨w.heap.size+1,0,none⟩=some (.int .i64 kind)∧wx.cell? ⟨w.heap.size+1,1,none⟩=some (.int .i64 f)∧wx.cell? ⟨w.heap.size+1,2,none⟩=some (.int .i64 ff)∧wx.cell? ⟨w.heap.size+1,3,none⟩=some (.int .i64 fl)∧wx.cell? ⟨w.heap.size+1,4,none⟩=some (.bool ffar)∧wx.cell? ⟨w.heap.size+1,5,none⟩=some (.int .i64 fpc)∧wx.cell? ⟨w.heap.size+1,6,none⟩=some (.slice B m d)∧wx.cell? ⟨w.heap.size+1,7,none⟩=some (.bool over)) from
  fun wx h=>⟨h,((hk0.below h hk0.lt).cell 0).trans rfl,((hk0.below h hk0.lt).cell 1).trans rfl,((hk0.below h hk0.lt).cell 2).trans rfl,((hk1.below h hk1.lt).cell 0).trans rfl,((hk1.below h hk1.lt).cell 1).trans rfl,((hk1.below h hk1.lt).cell 2).trans rfl,((hk1.below h hk1.lt).cell 3).trans rfl,((hk1.below h hk1.lt).cell 4).trans rfl,((hk1.below h hk1.lt).cell 5).trans rfl,((hk1.below h hk1.lt).cell 6).trans rfl,((hk1.below h hk1.lt).cell 7).trans rfl⟩)
 first
  | go_region_held3 (fun wx=>Below W.heap.size W wx∧wx.cell? ⟨w.heap.size,0,none⟩=some (.slice A n c)∧wx.cell? ⟨w.heap.size,1,none⟩=some (.int .i64 re)∧wx.cell? ⟨w.heap.size,2,none⟩=some (.int .i64 lo)∧wx.cell? ⟨w.heap.size+1,0,none⟩=some (.int .i64 kind)∧wx.cell? ⟨w.heap.size+1,1,none⟩=some (.int .i64 f)∧wx.cell? ⟨w.heap.size+1,2,none⟩=some (.int .i64 ff)∧wx.cell? ⟨w.heap.size+1,3,none⟩=some (.int .i64 fl)∧wx.cell? ⟨w.heap.size+1,4,none⟩=some (.bool ffar)∧wx.cell? ⟨w.heap.size+1,5,none⟩=some (.int .i64 fpc)∧wx.cell? ⟨w.heap.size+1,6,none⟩=some (.slice B m d)∧wx.cell? ⟨w.heap.size+1,7,none⟩=some (.bool over)) (first | assumption | exact KP.out _ (Below.refl _ _).drew | exact KP.out _ (zAa (And.left (by assumption)) (by assumption) (Below.size (And.left (by assumption)))))
    (first
     | (go_at_call 107;refine (zCU HNM.out _ (hA0.below (And.left (by assumption))) hv HF12.out.1 HF12.out.2).mono ?_;rintro e wc ⟨rfl,hbc⟩))
  | fail
 all_goals
  obtain ⟨hbx,a0,a1,a2,e0,e1,e2,e3,e4,e5,e6,e7⟩:=(show Below W.heap.size W _∧_ from by assumption);have hb2:=zAa hb0 hbx hb0.size;have hAx:=hA0.below hbx;have hPx:=hP0.below hbx;have hkx:=hk1.below hbx hk1.lt;have hfx:=hk0.below hbx hk0.lt;clear hbc;have HT:=qH (show zBc L ⟨kind,f,⟨ff,fl,ffar,fpc⟩,path,over⟩=G1++zBm L ⟨kind,f,⟨ff,fl,ffar,fpc⟩,path,over⟩ from HLF.out);clear HLF HNM s1 KP hA0 hP0 hk0 hk1 hbx hb0 hix hcv
  have KP:=qH (show ∀wx,Below wc.heap.size wc wx→(Below wc.heap.size wc wx∧wx.cell? ⟨w.heap.size,0,none⟩=some (.slice A n c)∧wx.cell? ⟨w.heap.size,1,none⟩=some (.int .i64 re)∧wx.cell? ⟨w.heap.size,2,none⟩=some (.int .i64 lo)∧wx.cell? ⟨w.heap.size+1,0,none⟩=some (.int .i64 kind)∧wx.cell? ⟨w.heap.size+1,1,none⟩=some (.int .i64 f)∧wx.cell? ⟨w.heap.size+1,2,none⟩=some (.int .i64 ff)∧wx.cell? ⟨w.heap.size+1,3,none⟩=some (.int .i64 fl)∧wx.cell? ⟨w.heap.size+1,4,none⟩=some (.bool ffar)∧wx.cell? ⟨w.heap.size+1,5,none⟩=some (.int .i64 fpc)∧wx.cell? ⟨w.heap.size+1,6,none⟩=some (.slice B m d)∧wx.cell? ⟨w.heap.size+1,7,none⟩=some (.bool over)) from
   fun wx h=>⟨h,((hfx.below h hfx.lt).cell 0).trans rfl,((hfx.below h hfx.lt).cell 1).trans rfl,((hfx.below h hfx.lt).cell 2).trans rfl,((hkx.below h hkx.lt).cell 0).trans rfl,((hkx.below h hkx.lt).cell 1).trans rfl,((hkx.below h hkx.lt).cell 2).trans rfl,((hkx.below h hkx.lt).cell 3).trans rfl,((hkx.below h hkx.lt).cell 4).trans rfl,((hkx.below h hkx.lt).cell 5).trans rfl,((hkx.below h hkx.lt).cell 6).trans rfl,((hkx.below h hkx.lt).cell 7).trans rfl⟩)
  have hk:(kind=1∨kind=2∨kind=8)∨kind=4∨kind=5∨(kind=6∨kind=7)∨kind=3:=by have:=HK.out;have:=HK1.out;omega
  clear HK HK1;rcases hk with hk | rfl | rfl | hk | rfl
  ·rcases hk with rfl | rfl | rfl
   all_goals
    have HR:=qH (show bA G1=bA (zBc L _) by rw [HT.out];simp [zBm]);clear HT;go_wp2_with fail
    go_ret;exact ⟨zDl HR.out,hb2⟩
  ·obtain ⟨R2,hR2⟩:∃T,G1++OV=T:=⟨_,rfl⟩
   have t2:=zAr hR2 _ _ rfl rfl (by omega) (by omega);have HR:=qH (show bA R2=bA (zBc L _) by rw [HT.out,←hR2,←HOV.out];simp [zBm]);clear HT hR2 l1 lOV;go_wp2_with fail
   refine (zCD HOV.out _).mono ?_;rintro e wd ⟨rfl,rfl⟩;go_wp2_with fail
   go_ret;exact ⟨zDl HR.out,hb2⟩
  ·have hnf:=zAj.1 (HFR.out (by omega));simp only at hnf;have hlP:=zCb hv (s:=⟨ff,fl,ffar,fpc⟩) hnf.1 (by rw [HNL.out];exact hnf.2.1);obtain ⟨PL,hPL⟩:∃T,zBb L ⟨ff,fl,ffar,fpc⟩=T:=⟨_,rfl⟩
   obtain ⟨Q3,hQ3⟩:∃T,PL++OV=T:=⟨_,rfl⟩
   obtain ⟨Q4,hQ4⟩:∃T,G1++Q3=T:=⟨_,rfl⟩
   rw [hPL] at hlP;have m3:Q3.length≤45:=by rw [←hQ3];simp;omega
   have t3:=zAr hQ3 _ _ rfl rfl (by omega) (by omega);have t4:=zAr hQ4 _ _ rfl rfl (by omega) (by omega);have HR:=qH (show bA Q4=bA (zBc L _) by rw [HT.out,←hQ4,←hQ3,←hPL,←HOV.out];simp [zBm]);have HPL:=qH hPL;have HNF:=qH (show 1≤ff∧ff≤(n:Int) from ⟨hnf.1,hnf.2.1⟩);clear HT hQ3 hQ4 m3 l1 lOV hlP hPL hnf HFR;go_wp2_with fail
   first
    | go_region_held3 (fun wx=>Below wc.heap.size wc wx∧wx.cell? ⟨w.heap.size,0,none⟩=some (.slice A n c)∧wx.cell? ⟨w.heap.size,1,none⟩=some (.int .i64 re)∧wx.cell? ⟨w.heap.size,2,none⟩=some (.int .i64 lo)∧wx.cell? ⟨w.heap.size+1,0,none⟩=some (.int .i64 5)∧wx.cell? ⟨w.heap.size+1,1,none⟩=some (.int .i64 f)∧wx.cell? ⟨w.heap.size+1,2,none⟩=some (.int .i64 ff)∧wx.cell? ⟨w.heap.size+1,3,none⟩=some (.int .i64 fl)∧wx.cell? ⟨w.heap.size+1,4,none⟩=some (.bool ffar)∧wx.cell? ⟨w.heap.size+1,5,none⟩=some (.int .i64 fpc)∧wx.cell? ⟨w.heap.size+1,6,none⟩=some (.slice B m d)∧wx.cell? ⟨w.heap.size+1,7,none⟩=some (.bool over)) (first | assumption | exact KP.out _ (Below.refl _ _).drew | exact KP.out _ (zAa (And.left (by assumption)) (by assumption) (Below.size (And.left (by assumption)))))
      (first
       | (go_at_call 116;refine (zIr HPL.out _ (hAx.below (And.left (by assumption))) hv HNF.out.1 HNF.out.2).mono ?_;rintro e wd ⟨rfl,hbd⟩)
       | (go_at_call 115;refine (zCD HOV.out _).mono ?_;rintro e we ⟨rfl,rfl⟩))
    | fail
   all_goals
    have hbf:=zAa hb2 (And.left (show Below wc.heap.size wc _∧_ from by assumption)) hb2.size;go_wp2_with fail
    go_ret;exact ⟨zDl HR.out,hbf⟩
  ·have hnf:=zAj.1 (HFR.out (by omega));simp only at hnf;have hlP:=zBq hv (f:=ff) hnf.1 (by rw [HNL.out];exact hnf.2.1);obtain ⟨PL,hPL⟩:∃T,nmF L ff=T:=⟨_,rfl⟩
   rw [hPL] at hlP;have HPL:=qH hPL;have HNF:=qH (show 1≤ff∧ff≤(n:Int) from ⟨hnf.1,hnf.2.1⟩);clear hnf HFR;obtain ⟨Q3,hQ3⟩:∃T,PL++OV=T:=⟨_,rfl⟩
   obtain ⟨Q4,hQ4⟩:∃T,G1++Q3=T:=⟨_,rfl⟩
   have m3:Q3.length≤45:=by rw [←hQ3];simp;omega
   have t3:=zAr hQ3 _ _ rfl rfl (by omega) (by omega);have t4:=zAr hQ4 _ _ rfl rfl (by omega) (by omega);have hrk:bA Q4=bA (zBc L ⟨kind,f,⟨ff,fl,ffar,fpc⟩,path,over⟩):=by rw [HT.out,←hQ4,←hQ3,←hPL,←HOV.out];rcases hk with rfl | rfl<;>simp [zBm]
   have HR:=qH hrk;clear HT hQ3 hQ4 m3 l1 lOV hlP hPL hrk;rcases hk with rfl | rfl
   ·go_wp2_with fail
    first
     | go_region_held3 (fun wx=>Below wc.heap.size wc wx∧wx.cell? ⟨w.heap.size,0,none⟩=some (.slice A n c)∧wx.cell? ⟨w.heap.size,1,none⟩=some (.int .i64 re)∧wx.cell? ⟨w.heap.size,2,none⟩=some (.int .i64 lo)∧wx.cell? ⟨w.heap.size+1,0,none⟩=some (.int .i64 6)∧wx.cell? ⟨w.heap.size+1,1,none⟩=some (.int .i64 f)∧wx.cell? ⟨w.heap.size+1,2,none⟩=some (.int .i64 ff)∧wx.cell? ⟨w.heap.size+1,3,none⟩=some (.int .i64 fl)∧wx.cell? ⟨w.heap.size+1,4,none⟩=some (.bool ffar)∧wx.cell? ⟨w.heap.size+1,5,none⟩=some (.int .i64 fpc)∧wx.cell? ⟨w.heap.size+1,6,none⟩=some (.slice B m d)∧wx.cell? ⟨w.heap.size+1,7,none⟩=some (.bool over)) (first | assumption | exact KP.out _ (Below.refl _ _).drew | exact KP.out _ (zAa (And.left (by assumption)) (by assumption) (Below.size (And.left (by assumption)))))
       (first
        | (go_at_call 107;refine (zCU HPL.out _ (hAx.below (And.left (by assumption))) hv HNF.out.1 HNF.out.2).mono ?_;rintro e wd ⟨rfl,hbd⟩)
        | (go_at_call 115;refine (zCD HOV.out _).mono ?_;rintro e we ⟨rfl,rfl⟩))
     | fail
    all_goals
     have hbf:=zAa hb2 (And.left (show Below wc.heap.size wc _∧_ from by assumption)) hb2.size;go_wp2_with fail
     go_ret;exact ⟨zDl HR.out,hbf⟩
   ·go_wp2_with fail
    first
     | go_region_held3 (fun wx=>Below wc.heap.size wc wx∧wx.cell? ⟨w.heap.size,0,none⟩=some (.slice A n c)∧wx.cell? ⟨w.heap.size,1,none⟩=some (.int .i64 re)∧wx.cell? ⟨w.heap.size,2,none⟩=some (.int .i64 lo)∧wx.cell? ⟨w.heap.size+1,0,none⟩=some (.int .i64 7)∧wx.cell? ⟨w.heap.size+1,1,none⟩=some (.int .i64 f)∧wx.cell? ⟨w.heap.size+1,2,none⟩=some (.int .i64 ff)∧wx.cell? ⟨w.heap.size+1,3,none⟩=some (.int .i64 fl)∧wx.cell? ⟨w.heap.size+1,4,none⟩=some (.bool ffar)∧wx.cell? ⟨w.heap.size+1,5,none⟩=some (.int .i64 fpc)∧wx.cell? ⟨w.heap.size+1,6,none⟩=some (.slice B m d)∧wx.cell? ⟨w.heap.size+1,7,none⟩=some (.bool over)) (first | assumption | exact KP.out _ (Below.refl _ _).drew | exact KP.out _ (zAa (And.left (by assumption)) (by assumption) (Below.size (And.left (by assumption)))))
       (first
        | (go_at_call 107;refine (zCU HPL.out _ (hAx.below (And.left (by assumption))) hv HNF.out.1 HNF.out.2).mono ?_;rintro e wd ⟨rfl,hbd⟩)
        | (go_at_call 115;refine (zCD HOV.out _).mono ?_;rintro e we ⟨rfl,rfl⟩))
     | fail
    all_goals
     have hbf:=zAa hb2 (And.left (show Below wc.heap.size wc _∧_ from by assumption)) hb2.size;go_wp2_with fail
     go_ret;exact ⟨zDl HR.out,hbf⟩
  ·have hnf:=zAj.1 (HFR.out (by omega));simp only at hnf;have hlP:=zCb hv (s:=⟨ff,fl,ffar,fpc⟩) hnf.1 (by rw [HNL.out];exact hnf.2.1);obtain ⟨PL,hPL⟩:∃T,zBb L ⟨ff,fl,ffar,fpc⟩=T:=⟨_,rfl⟩
   rw [hPL] at hlP;have HPL:=qH hPL;have HNF:=qH (show 1≤ff∧ff≤(n:Int) from ⟨hnf.1,hnf.2.1⟩);have hstart:Hid (G1=G1++zBt L path 0):=qH (by simp [zBt]);clear hPL hnf HFR KP;go_wp2_with fail
   clear a0 a1 a2 e0 e1 e2 e3 e4 e5 e6 e7;go_loopw [5,31] (fun v5 v31 wr=>∃(i:Nat) (T:List UInt8),i≤m∧v31=.int .i64 i∧v5=.string (bA T)∧Below wc.heap.size wc wr∧Hid (T=G1++zBt L path i)∧T.length≤44+i*50) (fun _ v31 _=>m-(intOf v31).toNat)
   case atStart=>exact ⟨0,G1,Nat.zero_le _,rfl,rfl,Below.refl _ _,hstart,by omega⟩
   case round =>
    obtain ⟨i,T,hi,rfl,rfl,hbr,HTT,hTl⟩:=hrel;have hfr:=hfx.below hbr hfx.lt;have hor:=hkx.below hbr hkx.lt;have hAr:=hAx.below hbr;have hbw:=zAa hb2 hbr hb2.size;by_cases hlt:i < m
    ·obtain ⟨g,p,rfl,hg,⟨x0,x1,x2,x3,x4⟩,_⟩:=(hPx.below hbr).at_ hlt;have j0:(0:Int)≤(i:Int):=by omega
     have j1:(i:Int) < (m:Int):=by omega
     have hil:i < path.length:=by rw [HLEN.out];exact hlt
     have hsn:zBt L path (i+1)=zBt L path i++(if 0 < i then [44] else [])++zFO L (pa path i):=rfl;have hnm:=zAj.1 (HPN.out _ (List.mem_of_getElem? (zBS hil)));generalize pa path i=x at x0 x1 x2 x3 x4 hsn hnm;obtain ⟨⟨xf,xl,xfar,xpc⟩,xo⟩:=x;simp only at x0 x1 x2 x3 x4 hnm;have hlX:=zCb hv (s:=⟨xf,xl,xfar,xpc⟩) hnm.1 (by rw [HNL.out];exact hnm.2.1);have hlO:=zCm xo;have hst:zFO L ⟨⟨xf,xl,xfar,xpc⟩,xo⟩=zBb L ⟨xf,xl,xfar,xpc⟩++zAo xo:=rfl;obtain ⟨PX,hPX⟩:∃T,zBb L ⟨xf,xl,xfar,xpc⟩=T:=⟨_,rfl⟩
     obtain ⟨OX,hOX⟩:∃T,zAo xo=T:=⟨_,rfl⟩
     obtain ⟨Y1,hY1⟩:∃T,PX++OX=T:=⟨_,rfl⟩
     rw [hPX] at hlX;rw [hOX] at hlO;have y1:Y1.length≤45:=by rw [←hY1];simp;omega
     have r1:=zAr hY1 _ _ rfl rfl (by omega) (by omega);have hU:∃U:List UInt8,U=T++(if 0 < i then [44] else [])∧((¬0 < (i:Int)∧U=T)∨(0 < (i:Int)∧∀w,(Op.stringOp .add (bA T) ⟨#[44]⟩).run Tryz.prog w=.ok (.string (bA U)) w)):=by
      by_cases h0:0 < i
      ·exact ⟨T++[44],by rw [if_pos h0],.inr ⟨by omega,zAr rfl _ _ rfl rfl (by omega) (by simp)⟩⟩
      ·exact ⟨T,by rw [if_neg h0];simp,.inl ⟨by omega,rfl⟩⟩
     obtain ⟨U,hUe,hU⟩:=hU;have hUl:U.length≤45+i*50:=by rw [hUe];split<;>simp<;>omega
     obtain ⟨Y5,hY5⟩:∃V,U++Y1=V:=⟨_,rfl⟩
     have y5:Y5.length≤44+(i+1)*50:=by rw [←hY5];simp;omega
     have r5:=zAr hY5 _ _ rfl rfl (by omega) (by omega);have HTT1:=qH (show Y5=G1++zBt L path (i+1) by rw [hsn,hst,hPX,hOX,←hY5,hUe,HTT.out,←hY1];simp);have HPX:=qH hPX;have HOX:=qH hOX;have HNX:=qH (show 1≤xf∧xf≤(n:Int) from ⟨hnm.1,hnm.2.1⟩);have hb4:Below wc.heap.size wc (wr.alloc (.cells #[.int .i64 xf,.int .i64 xl,.bool xfar,.int .i64 xpc,.bool xo] 86)):=hbr.alloc hbr.size _;have hfr4:=hfr.alloc (.cells #[.int .i64 xf,.int .i64 xl,.bool xfar,.int .i64 xpc,.bool xo] 86);have hs4:Blk (wr.alloc (.cells #[.int .i64 xf,.int .i64 xl,.bool xfar,.int .i64 xpc,.bool xo] 86)) wr.heap.size 86 #[.int .i64 xf,.int .i64 xl,.bool xfar,.int .i64 xpc,.bool xo]:=Blk.new _ _ _;have hA4:=hAr.alloc (.cells #[.int .i64 xf,.int .i64 xl,.bool xfar,.int .i64 xpc,.bool xo] 86);clear hsn hst hPX hOX hY1 hY5 y1 hlX hlO hil HTT hnm hUe hUl;rcases hU with ⟨hu,rfl⟩ | ⟨hu,hu2⟩
     all_goals
      go_wp2_with fail
      clear x0 x1 x2 x3 x4 hg hbr hfr hor hAr hbw;generalize wr.alloc (.cells #[.int .i64 xf,.int .i64 xl,.bool xfar,.int .i64 xpc,.bool xo] 86)=Y at hb4 hfr4 hs4 hA4 ⊢
      have KP:=qH (show ∀wx,Below Y.heap.size Y wx→(Below Y.heap.size Y wx∧wx.cell? ⟨w.heap.size,0,none⟩=some (.slice A n c)∧wx.cell? ⟨w.heap.size,1,none⟩=some (.int .i64 re)∧wx.cell? ⟨w.heap.size,2,none⟩=some (.int .i64 lo)∧wx.cell? ⟨wr.heap.size,0,none⟩=some (.int .i64 xf)∧wx.cell? ⟨wr.heap.size,1,none⟩=some (.int .i64 xl)∧wx.cell? ⟨wr.heap.size,2,none⟩=some (.bool xfar)∧wx.cell? ⟨wr.heap.size,3,none⟩=some (.int .i64 xpc)∧wx.cell? ⟨wr.heap.size,4,none⟩=some (.bool xo)) from
       fun wx h=>⟨h,((hfr4.below h hfr4.lt).cell 0).trans rfl,((hfr4.below h hfr4.lt).cell 1).trans rfl,((hfr4.below h hfr4.lt).cell 2).trans rfl,((hs4.below h hs4.lt).cell 0).trans rfl,((hs4.below h hs4.lt).cell 1).trans rfl,((hs4.below h hs4.lt).cell 2).trans rfl,((hs4.below h hs4.lt).cell 3).trans rfl,((hs4.below h hs4.lt).cell 4).trans rfl⟩)
      first
       | go_region_held3 (fun wx=>Below Y.heap.size Y wx∧wx.cell? ⟨w.heap.size,0,none⟩=some (.slice A n c)∧wx.cell? ⟨w.heap.size,1,none⟩=some (.int .i64 re)∧wx.cell? ⟨w.heap.size,2,none⟩=some (.int .i64 lo)∧wx.cell? ⟨wr.heap.size,0,none⟩=some (.int .i64 xf)∧wx.cell? ⟨wr.heap.size,1,none⟩=some (.int .i64 xl)∧wx.cell? ⟨wr.heap.size,2,none⟩=some (.bool xfar)∧wx.cell? ⟨wr.heap.size,3,none⟩=some (.int .i64 xpc)∧wx.cell? ⟨wr.heap.size,4,none⟩=some (.bool xo)) (first | assumption | exact KP.out _ (Below.refl _ _).drew | exact KP.out _ (zAa (And.left (by assumption)) (by assumption) (Below.size (And.left (by assumption)))))
         (first
          | (go_at_call 116;refine (zIr HPX.out _ (hA4.below (And.left (by assumption))) hv HNX.out.1 HNX.out.2).mono ?_;rintro e wd ⟨rfl,hbd⟩)
          | (go_at_call 115;refine (zCD HOX.out _).mono ?_;rintro e we ⟨rfl,rfl⟩))
       | fail
      all_goals
       have hbf:=zAa hb4 (And.left (show Below Y.heap.size Y _∧_ from by assumption)) hb4.size;go_wp2_with fail
       go_roundw
       case rel=>exact ⟨i+1,Y5,by omega,by go_num,rfl,hbf,HTT1,y5⟩
       case measure=>simp [intOf];omega
    ·have hin:i=m:=by omega
     have j1:¬(i:Int) < (m:Int):=by omega
     have hV:∃V:List UInt8,V=T++(if path=[] then [] else [60])∧((¬0 < (m:Int)∧V=T)∨(0 < (m:Int)∧∀w,(Op.stringOp .add (bA T) ⟨#[60]⟩).run Tryz.prog w=.ok (.string (bA V)) w)):=by
      by_cases h0:path=[]
      ·exact ⟨T,by rw [if_pos h0];simp,.inl ⟨by rw [←HLEN.out,h0];simp,rfl⟩⟩
      ·have:0 < m:=by rw [←HLEN.out];exact List.length_pos_iff.2 h0
       exact ⟨T++[60],by rw [if_neg h0],.inr ⟨by omega,zAr rfl _ _ rfl rfl (by omega) (by simp)⟩⟩
     obtain ⟨V,hVe,hV⟩:=hV;have hVl:V.length≤45+i*50:=by rw [hVe];split<;>simp<;>omega
     obtain ⟨Z2,hZ2⟩:∃U,V++PL=U:=⟨_,rfl⟩
     have t2:=zAr hZ2 _ _ rfl rfl (by omega) (by omega)
     have HR:=qH (show bA Z2=bA (zBc L _) by
      rw [HT.out,←hZ2,←HPL.out,hVe,HTT.out,hin,←HLEN.out];simp [zBm])
     obtain ⟨b0,b1,b2⟩:=cQ3 hfr;obtain ⟨-,-,d2,d3,d4,d5,d6,-⟩:=cQ8 hor;clear hin hZ2 HTT HT hVe hVl;rcases hV with ⟨hu,rfl⟩ | ⟨hu,hu2⟩
     all_goals
      go_wp2_with fail
      refine (zIr HPL.out _ hAr hv HNF.out.1 HNF.out.2).mono ?_;rintro e wd ⟨rfl,hbd⟩;have hbf:=zAa hbw hbd hbw.size;clear b0 b1 b2 d2 d3 d4 d5 d6;go_wp2_with fail
      go_ret;exact ⟨zDl HR.out,hbf⟩
end Go.Proofs.YtlmdfmnbcndhoaaGreatDoor
namespace Go.Proofs
theorem Tryz.lays166:Go.Proofs.Lays.n166 Tryz.prog Tryz.lays156_ren:=by
 have L:=Tryz.lays156;exact { mixed:=L.mixed,f166:=L.f166,f240:=L.f240,f276:=L.f276,t0:=L.t0,a0:=L.a0,z0:=L.z0,v0:=L.v0,t3:=L.t3,a3:=L.a3,z3:=L.z3,v3:=L.v3,t4:=L.t4,a4:=L.a4,z4:=L.z4,v4:=L.v4,t9:=L.t9,a9:=L.a9,z9:=L.z9,v9:=L.v9,t20:=L.t20,a20:=L.a20,z20:=L.z20,v20:=L.v20,t37:=L.t37,a37:=L.a37,z37:=L.z37,v37:=L.v37,t70:=L.t70,a70:=L.a70,z70:=L.z70,v70:=L.v70,t72:=L.t72,a72:=L.a72,z72:=L.z72,v72:=L.v72,t75:=L.t75,a75:=L.a75,z75:=L.z75,v75:=L.v75,t164:=L.t164,a164:=L.a164,z164:=L.z164,v164:=L.v164 }
end Go.Proofs
namespace Go.Proofs.YtlmdfmnbcndhoaaGreatDoor
open Go.RowKit
abbrev IsB (b:Nat) (T:List UInt8) (w:World):Prop:=Lib.IsBuilder 101 5 b b (Lib.byteCells T) w
theorem zIs (b:Nat) (T S:List UInt8) (w:World) (h:IsB b T w) (hl:T.length+S.length≤140737488355328) (hb:b≤w.heap.size) :
  Calls Tryz.prog 59 #[.pointer (some ⟨b,0,none⟩),.string (bA S)] w fun e w'=>(∃x y,e=.returned (.tuple #[x,y]))∧IsB b (T++S) w'∧Below b w w':=by
 refine (Any.Builder_WriteString Tryz.lays166 Tryz.Builder_Extra_156 b b (Lib.byteCells T) (bA S) w h (by rw [Lib.byteCells_length,zAC];exact hl) hb).mono ?_;rintro e w' ⟨rfl,h1,h2⟩;refine ⟨⟨_,_,rfl⟩,.inr ?_,h2⟩;rw [Lib.byteCells_append,←zDm S];exact h1
theorem zJI (b:Nat) (T:List UInt8) (w:World) (h:IsB b T w) (hb:b≤w.heap.size) :
  Calls Tryz.prog 61 #[.pointer (some ⟨b,0,none⟩)] w fun e w'=>e=.returned (.string (bA T))∧Below b w w':=Tryz.Builder_String_any b b T w h hb
end Go.Proofs.YtlmdfmnbcndhoaaGreatDoor
namespace Go.Proofs.YtlmdfmnbcndhoaaGreatDoor
open Go.RowKit
theorem zJJ {b:Nat} {T:List UInt8} {w w':World} (h:IsB b T w) (hb:Below w.heap.size w w'):IsB b T w':=by
 have key:∀p,Lib.BuilderAt 101 5 b b p (Lib.byteCells T) w→Lib.BuilderAt 101 5 b b p (Lib.byteCells T) w':=fun p hp=>by
  have hlt:=hp.lt;obtain ⟨h0,v,h1,h2,h3⟩:=hp;exact ⟨h0,v,(hb.block b hlt).trans h1,h2.kept (row:=none) ⟨hb.os,hb.tape,hb.output,hb.size,fun k hk _=>hb.block k hk⟩ (by cases e:v.ownBlock with | none=>exact .inl rfl | some k=>exact .inr (by simp)),h3⟩
 exact h.imp (key _) (key _)
theorem zTa (w:World):IsB w.heap.size [] (w.alloc (.cells #[.pointer none,.slice none 0 0] 101)) :=
 .inl ⟨Nat.le_refl _,.slice none 0 0,Blk.new w _ _,World.ownsRow_nil _ _ _ _,by simp [Value.ownBlock]⟩
def zDf (L:List Fg) (O:List Og):List UInt8:=O.flatMap fun o=>zDn L o++[10]
def zUO (Es:List Oe):Prop:=∀e∈Es,e.n≤10000
theorem zOh {L:List Fg} {re lo:Int} (hv:frOk L re lo) {o:Og} (hr:zAh L.length o=true):(zDn L o).length≤300+o.path.length*120:=by
 obtain ⟨h1,h8,hf1,hf2,hpn,hfrn⟩:=zAS hr;have a:=zBq hv hf1 hf2;have b:=zJB o.kind;have c:=zEw o.over;have p:=zJC hv hpn;have t:(zGC L o).length≤200+o.path.length*120:=by
  unfold zGC;by_cases e4:o.kind=4
  ·rw [if_pos e4];simp;omega
  ·rw [if_neg e4];by_cases e3:o.kind=3
   ·rw [if_pos e3];have:=zCa hv (hfrn (.inl e3));simp;omega
   ·rw [if_neg e3];by_cases e5:o.kind=5
    ·rw [if_pos e5];have:=zCa hv (hfrn (.inr (.inl e5)));simp;omega
    ·rw [if_neg e5];by_cases e6:o.kind=6
     ·rw [if_pos e6];have hn:=zAj.1 (hfrn (.inr (.inr (.inl e6))));have:=zBq hv hn.1 hn.2.1;simp;omega
     ·rw [if_neg e6];by_cases e7:o.kind=7
      ·rw [if_pos e7];have hn:=zAj.1 (hfrn (.inr (.inr (.inr e7))));have:=zBq hv hn.1 hn.2.1;simp;omega
      ·rw [if_neg e7];simp
 unfold zDn;simp;omega
theorem zTb {A:Option Addr} {n c:Nat} {L:List Fg} {re lo:Int} {o:Og} {S:List UInt8} (h:zDn L o=S) (B:Option Addr) (m d:Nat) (w:World) (hA:Fgs w A n L) (hv:frOk L re lo) (hO:OpIn w o B m d) (hr:zAh n o=true) (hm:m≤10000) (ht:Tabs w) :
  Calls Tryz.prog 60 #[frV A n c re lo,opV o B m d] w fun e w'=>e=.returned (.string (bA S))∧Below w.heap.size w w':=by
 subst h;exact zHP A n c L re lo o B m d w hA hv hO hr hm ht
set_option maxHeartbeats 6400000 in
set_option maxRecDepth 100000 in
theorem zKN (A:Option Addr) (n c:Nat) (L:List Fg) (re lo:Int) (B:Option Addr) (m d:Nat) (Es:List Oe) (w:World) (hA:Fgs w A n L) (hc:n≤c) (hO:Oprs w B m Es) (hm:m≤10000) (hf:zUO Es) (ht:Tabs w) :
  Calls Tryz.prog 22 #[frV A n c re lo,.slice B m d] w fun e w'=>e=.returned (.tuple #[.string (bA (if zAP L re lo (Es.map (·.o))=0 then zDf L (Es.map (·.o)) else [])),.int .i64 (zAP L re lo (Es.map (·.o)))])∧Below w.heap.size w w':=by
 have HLEN:=qH hO.len;have HNL:=qH hA.len;have hb0:Below w.heap.size w (w.alloc (.cells #[.slice A n c,.int .i64 re,.int .i64 lo] 24)):=(Below.refl _ _).alloc (Nat.le_refl _) _;have hk0:Blk (w.alloc (.cells #[.slice A n c,.int .i64 re,.int .i64 lo] 24)) w.heap.size 24 #[.slice A n c,.int .i64 re,.int .i64 lo]:=Blk.new _ _ _;have hC:=zEg A n c L re lo B m d Es _ (hA.below hb0) hc (hO.below hb0);have hcase:=zDo L re lo (Es.map (·.o));obtain ⟨E,hE⟩:∃E,zAP L re lo (Es.map (·.o))=E:=⟨_,rfl⟩
 rw [hE] at hcase hC ⊢;have HC:=qH hC;have HFIT:=qH hf;clear hE hC hf;rcases hcase with ⟨rfl,hfr,hro⟩ | rfl
 ·have hri:∀i,i < m→zAh n (oa Es i).o=true:=fun i hi=>by
   have:=hro _ (List.mem_map_of_mem (List.mem_of_getElem? (zBT (L:=Es) (i:=i) (by rw [HLEN.out];exact hi))));rw [HNL.out] at this;exact this
  have HRI:=qH hri;clear hro hri;go_enter Tryz.func22,Tryz.ntmps22;go_wp2_with fail
  refine HC.out.mono ?_;rintro e w2 ⟨rfl,hb2⟩;have hb3:=zAa hb0 hb2 hb0.size;have hk2:=hk0.below hb2 hk0.lt;have hA2:=hA.below hb3;have hO2:=hO.below hb3;have ht2:=ht.below hb3;clear HC hb0 hk0 hb2;go_wp2_with fail
  have hI:=zTa w2;have hb4:Below w2.heap.size w2 (w2.alloc (.cells #[.pointer none,.slice none 0 0] 101)):=(Below.refl _ _).alloc (Nat.le_refl _) _;have hz4:(w2.alloc (.cells #[.pointer none,.slice none 0 0] 101)).heap.size=w2.heap.size+1:=by simp
  generalize w2.alloc (.cells #[.pointer none,.slice none 0 0] 101)=W at hI hb4 hz4 ⊢;have HZ4:=qH hz4;clear hz4;go_loopw [18] (fun v wr=>∃(i:Nat) (T:List UInt8),i≤m∧v=.int .i64 i∧Below w2.heap.size w2 wr∧IsB w2.heap.size T wr∧Hid (T=zDf L ((Es.take i).map (·.o)))∧T.length≤i*1300000∧w2.heap.size≤wr.heap.size) (fun v _=>m-(intOf v).toNat)
  case atStart=>exact ⟨0,[],Nat.zero_le _,rfl,hb4,hI,qH (by simp [zDf]),by simp,by have:=HZ4.out;omega⟩
  case round =>
   obtain ⟨i,T,hi,rfl,hbr,hIr,HT,hTl,hzr⟩:=hrel;clear hI hb4;have hkr:=hk2.below hbr hk2.lt;by_cases hlt:i < m
   ·obtain ⟨g,p,rfl,hg,⟨x0,x1,x2,x3,x4,x5,x6,x7⟩,hin⟩:=(hO2.below hbr).at_ hlt;have j0:(0:Int)≤(i:Int):=by omega
    have j1:(i:Int) < (m:Int):=by omega
    have hEi:=zBT (L:=Es) (i:=i) (by rw [HLEN.out];exact hlt);have hpn:=HFIT.out _ (List.mem_of_getElem? hEi);have hri:=HRI.out i hlt;have hsn:zDf L ((Es.take (i+1)).map (·.o))=zDf L ((Es.take i).map (·.o))++(zDn L (oa Es i).o++[10]):=by
     unfold zDf;rw [List.take_add_one,hEi];simp
    have hll:=zOh hfr (o:=(oa Es i).o) (by rw [HNL.out];exact hri);generalize oa Es i=x at x0 x1 x2 x3 x4 x5 x6 x7 hin hpn hri hsn hll hEi;obtain ⟨⟨kind,f,⟨ff,fl,ffar,fpc⟩,path,over⟩,PA,pn,pc⟩:=x;simp only at x0 x1 x2 x3 x4 x5 x6 x7 hin hpn hri hsn hll;have hpl:path.length=pn:=hin.path.len;obtain ⟨LN,hLN⟩:∃X,zDn L ⟨kind,f,⟨ff,fl,ffar,fpc⟩,path,over⟩=X:=⟨_,rfl⟩
    rw [hLN] at hsn hll;obtain ⟨L1,hL1⟩:∃X,LN++[10]=X:=⟨_,rfl⟩
    have hl1:L1.length≤1300000:=by rw [←hL1];simp;omega
    have s1:=zAr hL1 _ ⟨#[10]⟩ rfl rfl (by omega) (by simp);rw [hL1] at hsn;have HSN:=qH (show T++L1=zDf L ((Es.take (i+1)).map (·.o)) by rw [hsn,HT.out]);have hTl1:(T++L1).length≤(i+1)*1300000:=by rw [List.length_append,Nat.add_mul];omega
    have hb5:Below w2.heap.size w2 (wr.alloc (.cells #[.int .i64 kind,.int .i64 f,.int .i64 ff,.int .i64 fl,.bool ffar,.int .i64 fpc,.slice PA pn pc,.bool over] 32)):=hbr.alloc hbr.size _;have hI5:=zJJ hIr ((Below.refl wr.heap.size wr).alloc (Nat.le_refl _) (.cells #[.int .i64 kind,.int .i64 f,.int .i64 ff,.int .i64 fl,.bool ffar,.int .i64 fpc,.slice PA pn pc,.bool over] 32));have hk5:=hkr.alloc (.cells #[.int .i64 kind,.int .i64 f,.int .i64 ff,.int .i64 fl,.bool ffar,.int .i64 fpc,.slice PA pn pc,.bool over] 32);have hin5:=hin.below ((Below.refl wr.heap.size wr).alloc (Nat.le_refl _) (.cells #[.int .i64 kind,.int .i64 f,.int .i64 ff,.int .i64 fl,.bool ffar,.int .i64 fpc,.slice PA pn pc,.bool over] 32));have HLN:=qH (zTb (c:=c) hLN PA pn pc _ (hA2.below hb5) hfr hin5 hri hpn (ht2.below hb5));have HTL:=qH (show T.length+L1.length≤140737488355328 by omega);have y0:=(hk5.cell 0).trans rfl;have y1:=(hk5.cell 1).trans rfl;have y2:=(hk5.cell 2).trans rfl;have hz5:w2.heap.size≤(wr.alloc (.cells #[.int .i64 kind,.int .i64 f,.int .i64 ff,.int .i64 fl,.bool ffar,.int .i64 fpc,.slice PA pn pc,.bool over] 32)).heap.size:=by simp;omega
    clear hLN hL1 hsn hll hin hin5 hpn hri hEi HT hl1 hpl;go_wp2_with fail
    refine HLN.out.mono ?_;rintro e w6 ⟨rfl,hb6⟩;have hI6:=zJJ hI5 hb6;have hb7:=zAa hb5 hb6 hb5.size;have hz6:w2.heap.size≤w6.heap.size:=by have:=hb6.size;omega
    clear y0 y1 y2 x0 x1 x2 x3 x4 x5 x6 x7 hI5 hb5 hk5 hz5 hbr hIr hkr HLN;go_wp2_with fail
    refine (zIs w2.heap.size T L1 w6 hI6 HTL.out hz6).mono ?_;rintro e w8 ⟨⟨r1,r2,rfl⟩,hI8,hb8⟩;have hb9:Below w2.heap.size w2 w8:=hb7.trans hb8;have hz8:w2.heap.size≤w8.heap.size:=by have:=hb8.size;omega
    have HI8:=qH hI8;clear hI6 hb7 hb8 hI8;go_wp2_with fail
    go_roundw
    case rel=>exact ⟨i+1,T++L1,by omega,by go_num,hb9,HI8.out,HSN,hTl1,hz8⟩
    case measure=>simp [intOf];omega
   ·have j1:¬(i:Int) < (m:Int):=by omega
    have hin:i=m:=by omega
    have HR:=qH (show T=zDf L (Es.map (·.o)) by rw [HT.out,hin,←HLEN.out,List.take_length]);clear hin HT;go_wp2_with fail
    refine (zJI w2.heap.size T wr hIr hzr).mono ?_;rintro e w8 ⟨rfl,hb8⟩;have hb9:Below w.heap.size w w8:=zAa hb3 (hbr.trans hb8) hb3.size;go_wp2_with fail
    go_ret2;exact ⟨by rw [HR.out];simp,hb9⟩
 ·go_enter Tryz.func22,Tryz.ntmps22;go_wp2_with fail
  refine HC.out.mono ?_;rintro e w2 ⟨rfl,hb2⟩;have hb3:=zAa hb0 hb2 hb0.size;go_wp2_with fail
  go_ret2;exact ⟨rfl,hb3⟩
end Go.Proofs.YtlmdfmnbcndhoaaGreatDoor
