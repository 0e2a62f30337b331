/-
  Lemmas, part 9. Conditions: each theorem's own.
-/
import Derived.Test.YtlmdfmnbcndhoaaGreatDoorRl08
import Derived.Shelf.Strings.Builder1
namespace Go.Proofs.YtlmdfmnbcndhoaaGreatDoor
open Go.RowKit
def zTH (k:Int):Int:=if k=1 then 45 else if k=2 then 94 else if k=3 then 60 else if k=4 then 126 else if k=5 then 61 else if k=6 then 42 else if k=7 then 37 else 33
def zID (k:Int):List UInt8:=if k=1 then [45] else if k=2 then [94] else if k=3 then [60] else if k=4 then [126] else if k=5 then [61] else if k=6 then [42] else if k=7 then [37] else [33]
def zMq (L:List Fg) (x:Sp):List UInt8:=zDi L x.s++zAO x.over
def zDs (L:List Fg) (P:List Sp):Nat→List UInt8
 | 0=>[]
 | i+1=>zDs L P i++(if 0 < i then [44] else [])++zMq L (pa P i)
def zEc (L:List Fg) (o:Og):List UInt8 :=
 if o.kind=4 then zAO o.over
 else if o.kind=3 then zDs L o.path o.path.length++(if o.path=[] then [] else [60])++zDi L o.fr
 else if o.kind=5 then zDi L o.fr++zAO o.over
 else if o.kind=6∨o.kind=7 then nmF L o.fr.f++zAO o.over
 else []
def zCZ (L:List Fg) (o:Og):List UInt8:=nmF L o.f++zID o.kind++zEc L o
theorem zCl (b:Bool):(zAO b).length=1:=by cases b<;>rfl
theorem zJZ (k:Int):(zID k).length=1:=by
 unfold zID
 repeat (split;· rfl)
 rfl
theorem zON (k:Int) (h1:1≤k) (h8:k≤8):(∀w:World,(Instr.index 9 (.string ⟨#[32,45,94,60,126,61,42,37,33]⟩) (.int .i64 k)).run Tryz.prog w=.ok (.int .u8 (zTH k)) w) ∧
  ∀w:World,(convert 5 9 (.int .u8 (zTH k))).run Tryz.prog w=.ok (.string (bA (zID k))) w:=by
 have hk:k=1∨k=2∨k=3∨k=4∨k=5∨k=6∨k=7∨k=8:=by omega
 rcases hk with rfl | rfl | rfl | rfl | rfl | rfl | rfl | rfl
 all_goals exact ⟨fun _=>by kernel_rfl,fun _=>by kernel_rfl⟩
set_option maxHeartbeats 12800000 in
set_option maxRecDepth 100000 in
theorem zNu (A:Option Addr) (n c:Nat) (L:List Fg) (re lo:Int) (o:Og) (B:Option Addr) (m d:Nat) (w:World) (hA:Fgs w A n L) (hv:frOk L re lo) (hO:OpIn w o B m d) (hr:zAg n o=true) (hm:m≤10000) :
  Calls Tryz.prog 68 #[frV A n c re lo,opV o B m d] w fun e w'=>e=.returned (.string (bA (zCZ L o)))∧Below w.heap.size w w':=by
 obtain ⟨h1,h8,eH,bt,hpn,hfrn⟩:=zBc hr;have hlen:=hO.path.len;have gz:=zBr hv eH (by rw [hA.len];exact bt);have hnl:=hA.len;have hP:Stps w B m o.path:=hO.path;have tZ:=zJZ o.kind;have mC:zCZ L o=nmF L o.f++zID o.kind++zEc L o:=rfl;obtain ⟨kind,f,⟨ff,fl,ffar,fpc⟩,path,over⟩:=o;simp only at h1 h8 eH bt hpn hfrn hlen gz hP tZ mC ⊢;obtain ⟨hix,hcv⟩:=zON kind h1 h8;obtain ⟨SI,EW⟩:∃T,zTH kind=T:=⟨_,rfl⟩
 obtain ⟨SF,Cl⟩:∃T,zID kind=T:=⟨_,rfl⟩
 obtain ⟨NM,ey⟩:∃T,nmF L f=T:=⟨_,rfl⟩
 obtain ⟨OV,jG⟩:∃T,zAO over=T:=⟨_,rfl⟩
 obtain ⟨G1,mD⟩:∃T,NM++SF=T:=⟨_,rfl⟩
 have oo:=zCl over;rw [EW] at hix hcv;rw [Cl] at tZ hcv;rw [ey] at gz;rw [jG] at oo;have l1:G1.length≤44:=by rw [←mD];simp;omega
 have s1:=zAp mD _ _ rfl rfl (by omega) (by omega);rw [Cl,ey,mD] at mC;have jP:=qH mC;have jz:=qH ey;have bY:=qH jG;have HK:=qH (show 0≤kind∧kind≤8 from ⟨by omega,h8⟩);have tl:=qH h1;have tl:=qH h1;have jA:=qH (show 1≤f∧f≤(n:Int) from ⟨eH,bt⟩);have gD:=qH hpn;have gV:=qH hfrn;have aM:=qH hlen;have eQ:=qH hnl;have ah:Below w.heap.size w ((w.alloc (.cells #[.slice A n c,.int .i64 re,.int .i64 lo] 24)).alloc (.cells #[.int .i64 kind,.int .i64 f,.int .i64 ff,.int .i64 fl,.bool ffar,.int .i64 fpc,.slice B m d,.bool over] 32)):=((Below.refl _ _).alloc (Nat.le_refl _) _).alloc (by simp) _;have hk0:=(Blk.new w 24 #[.slice A n c,.int .i64 re,.int .i64 lo]).alloc (.cells #[.int .i64 kind,.int .i64 f,.int .i64 ff,.int .i64 fl,.bool ffar,.int .i64 fpc,.slice B m d,.bool over] 32);have aq:Blk ((w.alloc (.cells #[.slice A n c,.int .i64 re,.int .i64 lo] 24)).alloc (.cells #[.int .i64 kind,.int .i64 f,.int .i64 ff,.int .i64 fl,.bool ffar,.int .i64 fpc,.slice B m d,.bool over] 32)) (w.heap.size+1) 32 #[.int .i64 kind,.int .i64 f,.int .i64 ff,.int .i64 fl,.bool ffar,.int .i64 fpc,.slice B m d,.bool over]:=heap_alloc2_new w _ _;clear mC EW Cl ey jG mD tZ gz h1 h8 eH bt hpn hfrn hlen hr hnl hO;go_enter Tryz.func68,Tryz.ntmps68;go_wp2_with fail
 have hA0:=hA.below ah;have nI:=hP.below ah;generalize (w.alloc (.cells #[.slice A n c,.int .i64 re,.int .i64 lo] 24)).alloc (.cells #[.int .i64 kind,.int .i64 f,.int .i64 ff,.int .i64 fl,.bool ffar,.int .i64 fpc,.slice B m d,.bool over] 32)=W at ah hk0 aq hA0 nI ⊢
 have KP:=qH (show ∀wx,Below W.heap.size W wx→(Below W.heap.size W wx∧wx.cell? ⟨w.heap.size,0,none⟩=some (.slice A n c)∧wx.cell? ⟨w.heap.size,1,none⟩=some (.int .i64 re)∧wx.cell? ⟨w.heap.size,2,none⟩=some (.int .i64 lo)∧wx.cell? ⟨w.heap.size+1,0,none⟩=some (.int .i64 kind)∧wx.cell? ⟨w.heap.size+1,1,none⟩=some (.int .i64 f)∧wx.cell? ⟨w.heap.size+1,2,none⟩=some (.int .i64 ff)∧wx.cell? ⟨w.heap.size+1,3,none⟩=some (.int .i64 fl)∧wx.cell? ⟨w.heap.size+1,4,none⟩=some (.bool ffar)∧wx.cell? ⟨w.heap.size+1,5,none⟩=some (.int .i64 fpc)∧wx.cell? ⟨w.heap.size+1,6,none⟩=some (.slice B m d)∧wx.cell? ⟨w.heap.size+1,7,none⟩=some (.bool over)) from
  fun wx h=>⟨h,((hk0.below h hk0.lt).cell 0).trans rfl,((hk0.below h hk0.lt).cell 1).trans rfl,((hk0.below h hk0.lt).cell 2).trans rfl,((aq.below h aq.lt).cell 0).trans rfl,((aq.below h aq.lt).cell 1).trans rfl,((aq.below h aq.lt).cell 2).trans rfl,((aq.below h aq.lt).cell 3).trans rfl,((aq.below h aq.lt).cell 4).trans rfl,((aq.below h aq.lt).cell 5).trans rfl,((aq.below h aq.lt).cell 6).trans rfl,((aq.below h aq.lt).cell 7).trans rfl⟩)
 first
  | go_region_held3 (fun wx=>Below W.heap.size W wx∧wx.cell? ⟨w.heap.size,0,none⟩=some (.slice A n c)∧wx.cell? ⟨w.heap.size,1,none⟩=some (.int .i64 re)∧wx.cell? ⟨w.heap.size,2,none⟩=some (.int .i64 lo)∧wx.cell? ⟨w.heap.size+1,0,none⟩=some (.int .i64 kind)∧wx.cell? ⟨w.heap.size+1,1,none⟩=some (.int .i64 f)∧wx.cell? ⟨w.heap.size+1,2,none⟩=some (.int .i64 ff)∧wx.cell? ⟨w.heap.size+1,3,none⟩=some (.int .i64 fl)∧wx.cell? ⟨w.heap.size+1,4,none⟩=some (.bool ffar)∧wx.cell? ⟨w.heap.size+1,5,none⟩=some (.int .i64 fpc)∧wx.cell? ⟨w.heap.size+1,6,none⟩=some (.slice B m d)∧wx.cell? ⟨w.heap.size+1,7,none⟩=some (.bool over)) (first | assumption | exact KP.out _ (Below.refl _ _).drew | exact KP.out _ (zAa (And.left (by assumption)) (by assumption) (Below.size (And.left (by assumption)))))
    (first
     | (go_at_call 107;refine (zCY jz.out _ (hA0.below (And.left (by assumption))) hv jA.out.1 jA.out.2).mono ?_;rintro e wc ⟨rfl,hbc⟩))
  | fail
 all_goals
  obtain ⟨hbx,a0,a1,a2,e0,e1,e2,e3,e4,e5,e6,e7⟩:=(show Below W.heap.size W _∧_ from by assumption);have ai:=zAa ah hbx ah.size;have fI:=hA0.below hbx;have hPx:=nI.below hbx;have hkx:=aq.below hbx aq.lt;have hfx:=hk0.below hbx hk0.lt;clear hbc;have HT:=qH (show zCZ L ⟨kind,f,⟨ff,fl,ffar,fpc⟩,path,over⟩=G1++zEc L ⟨kind,f,⟨ff,fl,ffar,fpc⟩,path,over⟩ from jP.out);clear jP jz s1 KP hA0 nI hk0 aq hbx ah hix hcv
  have KP:=qH (show ∀wx,Below wc.heap.size wc wx→(Below wc.heap.size wc wx∧wx.cell? ⟨w.heap.size,0,none⟩=some (.slice A n c)∧wx.cell? ⟨w.heap.size,1,none⟩=some (.int .i64 re)∧wx.cell? ⟨w.heap.size,2,none⟩=some (.int .i64 lo)∧wx.cell? ⟨w.heap.size+1,0,none⟩=some (.int .i64 kind)∧wx.cell? ⟨w.heap.size+1,1,none⟩=some (.int .i64 f)∧wx.cell? ⟨w.heap.size+1,2,none⟩=some (.int .i64 ff)∧wx.cell? ⟨w.heap.size+1,3,none⟩=some (.int .i64 fl)∧wx.cell? ⟨w.heap.size+1,4,none⟩=some (.bool ffar)∧wx.cell? ⟨w.heap.size+1,5,none⟩=some (.int .i64 fpc)∧wx.cell? ⟨w.heap.size+1,6,none⟩=some (.slice B m d)∧wx.cell? ⟨w.heap.size+1,7,none⟩=some (.bool over)) from
   fun wx h=>⟨h,((hfx.below h hfx.lt).cell 0).trans rfl,((hfx.below h hfx.lt).cell 1).trans rfl,((hfx.below h hfx.lt).cell 2).trans rfl,((hkx.below h hkx.lt).cell 0).trans rfl,((hkx.below h hkx.lt).cell 1).trans rfl,((hkx.below h hkx.lt).cell 2).trans rfl,((hkx.below h hkx.lt).cell 3).trans rfl,((hkx.below h hkx.lt).cell 4).trans rfl,((hkx.below h hkx.lt).cell 5).trans rfl,((hkx.below h hkx.lt).cell 6).trans rfl,((hkx.below h hkx.lt).cell 7).trans rfl⟩)
  have hk:(kind=1∨kind=2∨kind=8)∨kind=4∨kind=5∨(kind=6∨kind=7)∨kind=3:=by have:=HK.out;have:=tl.out;omega
  clear HK tl;rcases hk with hk | rfl | rfl | hk | rfl
  ·rcases hk with rfl | rfl | rfl
   all_goals
    have HR:=qH (show bA G1=bA (zCZ L _) by rw [HT.out];simp [zEc]);clear HT;go_wp2_with fail
    go_ret;exact ⟨zDl HR.out,ai⟩
  ·obtain ⟨R2,my⟩:∃T,G1++OV=T:=⟨_,rfl⟩
   have t2:=zAp my _ _ rfl rfl (by omega) (by omega);have HR:=qH (show bA R2=bA (zCZ L _) by rw [HT.out,←my,←bY.out];simp [zEc]);clear HT my l1 oo;go_wp2_with fail
   refine (zCH bY.out _).mono ?_;rintro e wd ⟨rfl,rfl⟩;go_wp2_with fail
   go_ret;exact ⟨zDl HR.out,ai⟩
  ·have hnf:=zAj.1 (gV.out (by omega));simp only at hnf;have eO:=zCf hv (s:=⟨ff,fl,ffar,fpc⟩) hnf.1 (by rw [eQ.out];exact hnf.2.1);obtain ⟨PL,cF⟩:∃T,zDi L ⟨ff,fl,ffar,fpc⟩=T:=⟨_,rfl⟩
   obtain ⟨Q3,cJ⟩:∃T,PL++OV=T:=⟨_,rfl⟩
   obtain ⟨Q4,el⟩:∃T,G1++Q3=T:=⟨_,rfl⟩
   rw [cF] at eO;have m3:Q3.length≤45:=by rw [←cJ];simp;omega
   have t3:=zAp cJ _ _ rfl rfl (by omega) (by omega);have t4:=zAp el _ _ rfl rfl (by omega) (by omega);have HR:=qH (show bA Q4=bA (zCZ L _) by rw [HT.out,←el,←cJ,←cF,←bY.out];simp [zEc]);have cB:=qH cF;have fj:=qH (show 1≤ff∧ff≤(n:Int) from ⟨hnf.1,hnf.2.1⟩);clear HT cJ el m3 l1 oo eO cF hnf gV;go_wp2_with fail
   first
    | go_region_held3 (fun wx=>Below wc.heap.size wc wx∧wx.cell? ⟨w.heap.size,0,none⟩=some (.slice A n c)∧wx.cell? ⟨w.heap.size,1,none⟩=some (.int .i64 re)∧wx.cell? ⟨w.heap.size,2,none⟩=some (.int .i64 lo)∧wx.cell? ⟨w.heap.size+1,0,none⟩=some (.int .i64 5)∧wx.cell? ⟨w.heap.size+1,1,none⟩=some (.int .i64 f)∧wx.cell? ⟨w.heap.size+1,2,none⟩=some (.int .i64 ff)∧wx.cell? ⟨w.heap.size+1,3,none⟩=some (.int .i64 fl)∧wx.cell? ⟨w.heap.size+1,4,none⟩=some (.bool ffar)∧wx.cell? ⟨w.heap.size+1,5,none⟩=some (.int .i64 fpc)∧wx.cell? ⟨w.heap.size+1,6,none⟩=some (.slice B m d)∧wx.cell? ⟨w.heap.size+1,7,none⟩=some (.bool over)) (first | assumption | exact KP.out _ (Below.refl _ _).drew | exact KP.out _ (zAa (And.left (by assumption)) (by assumption) (Below.size (And.left (by assumption)))))
      (first
       | (go_at_call 116;refine (zIC cB.out _ (fI.below (And.left (by assumption))) hv fj.out.1 fj.out.2).mono ?_;rintro e wd ⟨rfl,hbd⟩)
       | (go_at_call 115;refine (zCH bY.out _).mono ?_;rintro e we ⟨rfl,rfl⟩))
    | fail
   all_goals
    have hbf:=zAa ai (And.left (show Below wc.heap.size wc _∧_ from by assumption)) ai.size;go_wp2_with fail
    go_ret;exact ⟨zDl HR.out,hbf⟩
  ·have hnf:=zAj.1 (gV.out (by omega));simp only at hnf;have eO:=zBr hv (f:=ff) hnf.1 (by rw [eQ.out];exact hnf.2.1);obtain ⟨PL,cF⟩:∃T,nmF L ff=T:=⟨_,rfl⟩
   rw [cF] at eO;have cB:=qH cF;have fj:=qH (show 1≤ff∧ff≤(n:Int) from ⟨hnf.1,hnf.2.1⟩);clear hnf gV;obtain ⟨Q3,cJ⟩:∃T,PL++OV=T:=⟨_,rfl⟩
   obtain ⟨Q4,el⟩:∃T,G1++Q3=T:=⟨_,rfl⟩
   have m3:Q3.length≤45:=by rw [←cJ];simp;omega
   have t3:=zAp cJ _ _ rfl rfl (by omega) (by omega);have t4:=zAp el _ _ rfl rfl (by omega) (by omega);have hrk:bA Q4=bA (zCZ L ⟨kind,f,⟨ff,fl,ffar,fpc⟩,path,over⟩):=by rw [HT.out,←el,←cJ,←cF,←bY.out];rcases hk with rfl | rfl<;>simp [zEc]
   have HR:=qH hrk;clear HT cJ el m3 l1 oo eO cF hrk;rcases hk with rfl | rfl
   ·go_wp2_with fail
    first
     | go_region_held3 (fun wx=>Below wc.heap.size wc wx∧wx.cell? ⟨w.heap.size,0,none⟩=some (.slice A n c)∧wx.cell? ⟨w.heap.size,1,none⟩=some (.int .i64 re)∧wx.cell? ⟨w.heap.size,2,none⟩=some (.int .i64 lo)∧wx.cell? ⟨w.heap.size+1,0,none⟩=some (.int .i64 6)∧wx.cell? ⟨w.heap.size+1,1,none⟩=some (.int .i64 f)∧wx.cell? ⟨w.heap.size+1,2,none⟩=some (.int .i64 ff)∧wx.cell? ⟨w.heap.size+1,3,none⟩=some (.int .i64 fl)∧wx.cell? ⟨w.heap.size+1,4,none⟩=some (.bool ffar)∧wx.cell? ⟨w.heap.size+1,5,none⟩=some (.int .i64 fpc)∧wx.cell? ⟨w.heap.size+1,6,none⟩=some (.slice B m d)∧wx.cell? ⟨w.heap.size+1,7,none⟩=some (.bool over)) (first | assumption | exact KP.out _ (Below.refl _ _).drew | exact KP.out _ (zAa (And.left (by assumption)) (by assumption) (Below.size (And.left (by assumption)))))
       (first
        | (go_at_call 107;refine (zCY cB.out _ (fI.below (And.left (by assumption))) hv fj.out.1 fj.out.2).mono ?_;rintro e wd ⟨rfl,hbd⟩)
        | (go_at_call 115;refine (zCH bY.out _).mono ?_;rintro e we ⟨rfl,rfl⟩))
     | fail
    all_goals
     have hbf:=zAa ai (And.left (show Below wc.heap.size wc _∧_ from by assumption)) ai.size;go_wp2_with fail
     go_ret;exact ⟨zDl HR.out,hbf⟩
   ·go_wp2_with fail
    first
     | go_region_held3 (fun wx=>Below wc.heap.size wc wx∧wx.cell? ⟨w.heap.size,0,none⟩=some (.slice A n c)∧wx.cell? ⟨w.heap.size,1,none⟩=some (.int .i64 re)∧wx.cell? ⟨w.heap.size,2,none⟩=some (.int .i64 lo)∧wx.cell? ⟨w.heap.size+1,0,none⟩=some (.int .i64 7)∧wx.cell? ⟨w.heap.size+1,1,none⟩=some (.int .i64 f)∧wx.cell? ⟨w.heap.size+1,2,none⟩=some (.int .i64 ff)∧wx.cell? ⟨w.heap.size+1,3,none⟩=some (.int .i64 fl)∧wx.cell? ⟨w.heap.size+1,4,none⟩=some (.bool ffar)∧wx.cell? ⟨w.heap.size+1,5,none⟩=some (.int .i64 fpc)∧wx.cell? ⟨w.heap.size+1,6,none⟩=some (.slice B m d)∧wx.cell? ⟨w.heap.size+1,7,none⟩=some (.bool over)) (first | assumption | exact KP.out _ (Below.refl _ _).drew | exact KP.out _ (zAa (And.left (by assumption)) (by assumption) (Below.size (And.left (by assumption)))))
       (first
        | (go_at_call 107;refine (zCY cB.out _ (fI.below (And.left (by assumption))) hv fj.out.1 fj.out.2).mono ?_;rintro e wd ⟨rfl,hbd⟩)
        | (go_at_call 115;refine (zCH bY.out _).mono ?_;rintro e we ⟨rfl,rfl⟩))
     | fail
    all_goals
     have hbf:=zAa ai (And.left (show Below wc.heap.size wc _∧_ from by assumption)) ai.size;go_wp2_with fail
     go_ret;exact ⟨zDl HR.out,hbf⟩
  ·have hnf:=zAj.1 (gV.out (by omega));simp only at hnf;have eO:=zCf hv (s:=⟨ff,fl,ffar,fpc⟩) hnf.1 (by rw [eQ.out];exact hnf.2.1);obtain ⟨PL,cF⟩:∃T,zDi L ⟨ff,fl,ffar,fpc⟩=T:=⟨_,rfl⟩
   rw [cF] at eO;have cB:=qH cF;have fj:=qH (show 1≤ff∧ff≤(n:Int) from ⟨hnf.1,hnf.2.1⟩);have hstart:Hid (G1=G1++zDs L path 0):=qH (by simp [zDs]);clear cF hnf gV KP;go_wp2_with fail
   clear a0 a1 a2 e0 e1 e2 e3 e4 e5 e6 e7;go_loopw [5,31] (fun v5 v31 wr=>∃(i:Nat) (T:List UInt8),i≤m∧v31=.int .i64 i∧v5=.string (bA T)∧Below wc.heap.size wc wr∧Hid (T=G1++zDs L path i)∧T.length≤44+i*50) (fun _ v31 _=>m-(intOf v31).toNat)
   case atStart=>exact ⟨0,G1,Nat.zero_le _,rfl,rfl,Below.refl _ _,hstart,by omega⟩
   case round =>
    obtain ⟨i,T,hi,rfl,rfl,hbr,ep,nf⟩:=hrel;have hfr:=hfx.below hbr hfx.lt;have hor:=hkx.below hbr hkx.lt;have fe:=fI.below hbr;have hbw:=zAa ai hbr ai.size;by_cases hlt:i < m
    ·obtain ⟨g,p,rfl,hg,⟨x0,x1,x2,x3,x4⟩,_⟩:=(hPx.below hbr).at_ hlt;have j0:(0:Int)≤(i:Int):=by omega
     have j1:(i:Int) < (m:Int):=by omega
     have hil:i < path.length:=by rw [aM.out];exact hlt
     have hsn:zDs L path (i+1)=zDs L path i++(if 0 < i then [44] else [])++zMq L (pa path i):=rfl;have hnm:=zAj.1 (gD.out _ (List.mem_of_getElem? (zCG hil)));generalize pa path i=x at x0 x1 x2 x3 x4 hsn hnm;obtain ⟨⟨xf,xl,xfar,xpc⟩,xo⟩:=x;simp only at x0 x1 x2 x3 x4 hnm;have nF:=zCf hv (s:=⟨xf,xl,xfar,xpc⟩) hnm.1 (by rw [eQ.out];exact hnm.2.1);have ua:=zCl xo;have hst:zMq L ⟨⟨xf,xl,xfar,xpc⟩,xo⟩=zDi L ⟨xf,xl,xfar,xpc⟩++zAO xo:=rfl;obtain ⟨PX,mz⟩:∃T,zDi L ⟨xf,xl,xfar,xpc⟩=T:=⟨_,rfl⟩
     obtain ⟨OX,mA⟩:∃T,zAO xo=T:=⟨_,rfl⟩
     obtain ⟨Y1,ir⟩:∃T,PX++OX=T:=⟨_,rfl⟩
     rw [mz] at nF;rw [mA] at ua;have y1:Y1.length≤45:=by rw [←ir];simp;omega
     have r1:=zAp ir _ _ rfl rfl (by omega) (by omega);have hU:∃U:List UInt8,U=T++(if 0 < i then [44] else [])∧((¬0 < (i:Int)∧U=T)∨(0 < (i:Int)∧∀w,(Op.stringOp .add (bA T) ⟨#[44]⟩).run Tryz.prog w=.ok (.string (bA U)) w)):=by
      by_cases h0:0 < i
      ·exact ⟨T++[44],by rw [if_pos h0],.inr ⟨by omega,zAp rfl _ _ rfl rfl (by omega) (by simp)⟩⟩
      ·exact ⟨T,by rw [if_neg h0];simp,.inl ⟨by omega,rfl⟩⟩
     obtain ⟨U,Cf,hU⟩:=hU;have hUl:U.length≤45+i*50:=by rw [Cf];split<;>simp<;>omega
     obtain ⟨Y5,p8⟩:∃V,U++Y1=V:=⟨_,rfl⟩
     have y5:Y5.length≤44+(i+1)*50:=by rw [←p8];simp;omega
     have r5:=zAp p8 _ _ rfl rfl (by omega) (by omega);have kT:=qH (show Y5=G1++zDs L path (i+1) by rw [hsn,hst,mz,mA,←p8,Cf,ep.out,←ir];simp);have ti:=qH mz;have vq:=qH mA;have iB:=qH (show 1≤xf∧xf≤(n:Int) from ⟨hnm.1,hnm.2.1⟩);have aI:Below wc.heap.size wc (wr.alloc (.cells #[.int .i64 xf,.int .i64 xl,.bool xfar,.int .i64 xpc,.bool xo] 86)):=hbr.alloc hbr.size _;have eG:=hfr.alloc (.cells #[.int .i64 xf,.int .i64 xl,.bool xfar,.int .i64 xpc,.bool xo] 86);have eM:Blk (wr.alloc (.cells #[.int .i64 xf,.int .i64 xl,.bool xfar,.int .i64 xpc,.bool xo] 86)) wr.heap.size 86 #[.int .i64 xf,.int .i64 xl,.bool xfar,.int .i64 xpc,.bool xo]:=Blk.new _ _ _;have oU:=fe.alloc (.cells #[.int .i64 xf,.int .i64 xl,.bool xfar,.int .i64 xpc,.bool xo] 86);clear hsn hst mz mA ir p8 y1 nF ua hil ep hnm Cf hUl;rcases hU with ⟨hu,rfl⟩ | ⟨hu,zS⟩
     all_goals
      go_wp2_with fail
      clear x0 x1 x2 x3 x4 hg hbr hfr hor fe hbw;generalize wr.alloc (.cells #[.int .i64 xf,.int .i64 xl,.bool xfar,.int .i64 xpc,.bool xo] 86)=Y at aI eG eM oU ⊢
      have KP:=qH (show ∀wx,Below Y.heap.size Y wx→(Below Y.heap.size Y wx∧wx.cell? ⟨w.heap.size,0,none⟩=some (.slice A n c)∧wx.cell? ⟨w.heap.size,1,none⟩=some (.int .i64 re)∧wx.cell? ⟨w.heap.size,2,none⟩=some (.int .i64 lo)∧wx.cell? ⟨wr.heap.size,0,none⟩=some (.int .i64 xf)∧wx.cell? ⟨wr.heap.size,1,none⟩=some (.int .i64 xl)∧wx.cell? ⟨wr.heap.size,2,none⟩=some (.bool xfar)∧wx.cell? ⟨wr.heap.size,3,none⟩=some (.int .i64 xpc)∧wx.cell? ⟨wr.heap.size,4,none⟩=some (.bool xo)) from
       fun wx h=>⟨h,((eG.below h eG.lt).cell 0).trans rfl,((eG.below h eG.lt).cell 1).trans rfl,((eG.below h eG.lt).cell 2).trans rfl,((eM.below h eM.lt).cell 0).trans rfl,((eM.below h eM.lt).cell 1).trans rfl,((eM.below h eM.lt).cell 2).trans rfl,((eM.below h eM.lt).cell 3).trans rfl,((eM.below h eM.lt).cell 4).trans rfl⟩)
      first
       | go_region_held3 (fun wx=>Below Y.heap.size Y wx∧wx.cell? ⟨w.heap.size,0,none⟩=some (.slice A n c)∧wx.cell? ⟨w.heap.size,1,none⟩=some (.int .i64 re)∧wx.cell? ⟨w.heap.size,2,none⟩=some (.int .i64 lo)∧wx.cell? ⟨wr.heap.size,0,none⟩=some (.int .i64 xf)∧wx.cell? ⟨wr.heap.size,1,none⟩=some (.int .i64 xl)∧wx.cell? ⟨wr.heap.size,2,none⟩=some (.bool xfar)∧wx.cell? ⟨wr.heap.size,3,none⟩=some (.int .i64 xpc)∧wx.cell? ⟨wr.heap.size,4,none⟩=some (.bool xo)) (first | assumption | exact KP.out _ (Below.refl _ _).drew | exact KP.out _ (zAa (And.left (by assumption)) (by assumption) (Below.size (And.left (by assumption)))))
         (first
          | (go_at_call 116;refine (zIC ti.out _ (oU.below (And.left (by assumption))) hv iB.out.1 iB.out.2).mono ?_;rintro e wd ⟨rfl,hbd⟩)
          | (go_at_call 115;refine (zCH vq.out _).mono ?_;rintro e we ⟨rfl,rfl⟩))
       | fail
      all_goals
       have hbf:=zAa aI (And.left (show Below Y.heap.size Y _∧_ from by assumption)) aI.size;go_wp2_with fail
       go_roundw
       case rel=>exact ⟨i+1,Y5,by omega,by go_num,rfl,hbf,kT,y5⟩
       case measure=>simp [intOf];omega
    ·have hin:i=m:=by omega
     have j1:¬(i:Int) < (m:Int):=by omega
     have hV:∃V:List UInt8,V=T++(if path=[] then [] else [60])∧((¬0 < (m:Int)∧V=T)∨(0 < (m:Int)∧∀w,(Op.stringOp .add (bA T) ⟨#[60]⟩).run Tryz.prog w=.ok (.string (bA V)) w)):=by
      by_cases h0:path=[]
      ·exact ⟨T,by rw [if_pos h0];simp,.inl ⟨by rw [←aM.out,h0];simp,rfl⟩⟩
      ·have:0 < m:=by rw [←aM.out];exact List.length_pos_iff.2 h0
       exact ⟨T++[60],by rw [if_neg h0],.inr ⟨by omega,zAp rfl _ _ rfl rfl (by omega) (by simp)⟩⟩
     obtain ⟨V,Cd,hV⟩:=hV;have hVl:V.length≤45+i*50:=by rw [Cd];split<;>simp<;>omega
     obtain ⟨Z2,oM⟩:∃U,V++PL=U:=⟨_,rfl⟩
     have t2:=zAp oM _ _ rfl rfl (by omega) (by omega)
     have HR:=qH (show bA Z2=bA (zCZ L _) by
      rw [HT.out,←oM,←cB.out,Cd,ep.out,hin,←aM.out];simp [zEc])
     obtain ⟨b0,b1,b2⟩:=cQ3 hfr;obtain ⟨-,-,d2,d3,d4,d5,d6,-⟩:=cQ8 hor;clear hin oM ep HT Cd hVl;rcases hV with ⟨hu,rfl⟩ | ⟨hu,zS⟩
     all_goals
      go_wp2_with fail
      refine (zIC cB.out _ fe hv fj.out.1 fj.out.2).mono ?_;rintro e wd ⟨rfl,hbd⟩;have hbf:=zAa hbw hbd hbw.size;clear b0 b1 b2 d2 d3 d4 d5 d6;go_wp2_with fail
      go_ret;exact ⟨zDl HR.out,hbf⟩
end Go.Proofs.YtlmdfmnbcndhoaaGreatDoor
namespace Go.Proofs
theorem Tryz.lays166:Go.Proofs.Lays.n166 Tryz.prog Tryz.lays156_ren:=by
 have L:=Tryz.lays156;exact { mixed:=L.mixed,f166:=L.f166,f240:=L.f240,f276:=L.f276,t0:=L.t0,a0:=L.a0,z0:=L.z0,v0:=L.v0,t3:=L.t3,a3:=L.a3,z3:=L.z3,v3:=L.v3,t4:=L.t4,a4:=L.a4,z4:=L.z4,v4:=L.v4,t9:=L.t9,a9:=L.a9,z9:=L.z9,v9:=L.v9,t20:=L.t20,a20:=L.a20,z20:=L.z20,v20:=L.v20,t37:=L.t37,a37:=L.a37,z37:=L.z37,v37:=L.v37,t70:=L.t70,a70:=L.a70,z70:=L.z70,v70:=L.v70,t72:=L.t72,a72:=L.a72,z72:=L.z72,v72:=L.v72,t75:=L.t75,a75:=L.a75,z75:=L.z75,v75:=L.v75,t164:=L.t164,a164:=L.a164,z164:=L.z164,v164:=L.v164 }
end Go.Proofs
namespace Go.Proofs.YtlmdfmnbcndhoaaGreatDoor
open Go.RowKit
abbrev IsB (b:Nat) (T:List UInt8) (w:World):Prop:=Lib.IsBuilder 101 5 b b (Lib.byteCells T) w
theorem zIE (b:Nat) (T S:List UInt8) (w:World) (h:IsB b T w) (hl:T.length+S.length≤140737488355328) (hb:b≤w.heap.size) :
  Calls Tryz.prog 59 #[.pointer (some ⟨b,0,none⟩),.string (bA S)] w fun e w'=>(∃x y,e=.returned (.tuple #[x,y]))∧IsB b (T++S) w'∧Below b w w':=by
 refine (Any.Builder_WriteString Tryz.lays166 Tryz.Builder_Extra_156 b b (Lib.byteCells T) (bA S) w h (by rw [Lib.byteCells_length,zAL];exact hl) hb).mono ?_;rintro e w' ⟨rfl,h1,h2⟩;refine ⟨⟨_,_,rfl⟩,.inr ?_,h2⟩;rw [Lib.byteCells_append,←zDq S];exact h1
theorem zKa (b:Nat) (T:List UInt8) (w:World) (h:IsB b T w) (hb:b≤w.heap.size) :
  Calls Tryz.prog 61 #[.pointer (some ⟨b,0,none⟩)] w fun e w'=>e=.returned (.string (bA T))∧Below b w w':=Tryz.Builder_String_any b b T w h hb
end Go.Proofs.YtlmdfmnbcndhoaaGreatDoor
namespace Go.Proofs.YtlmdfmnbcndhoaaGreatDoor
open Go.RowKit
theorem zKb {b:Nat} {T:List UInt8} {w w':World} (h:IsB b T w) (hb:Below w.heap.size w w'):IsB b T w':=by
 have key:∀p,Lib.BuilderAt 101 5 b b p (Lib.byteCells T) w→Lib.BuilderAt 101 5 b b p (Lib.byteCells T) w':=fun p hp=>by
  have hlt:=hp.lt;obtain ⟨h0,v,h1,h2,h3⟩:=hp;exact ⟨h0,v,(hb.block b hlt).trans h1,h2.kept (row:=none) ⟨hb.os,hb.tape,hb.output,hb.size,fun k hk _=>hb.block k hk⟩ (by cases e:v.ownBlock with | none=>exact .inl rfl | some k=>exact .inr (by simp)),h3⟩
 exact h.imp (key _) (key _)
theorem zTI (w:World):IsB w.heap.size [] (w.alloc (.cells #[.pointer none,.slice none 0 0] 101)) :=
 .inl ⟨Nat.le_refl _,.slice none 0 0,Blk.new w _ _,World.ownsRow_nil _ _ _ _,by simp [Value.ownBlock]⟩
def zBD (L:List Fg) (O:List Og):List UInt8:=O.flatMap fun o=>zBb L o++[10]
def zTJ (Es:List Oe):Prop:=∀e∈Es,e.n≤10000
theorem zKc {L:List Fg} {re lo:Int} (hv:frOk L re lo) {o:Og} (hr:zAg L.length o=true):(zBb L o).length≤300+o.path.length*120:=by
 obtain ⟨h1,h8,eH,bt,hpn,hfrn⟩:=zBc hr;have a:=zBr hv eH bt;have b:=zJU o.kind;have c:=zEA o.over;have p:=zJV hv hpn;have t:(zCw L o).length≤200+o.path.length*120:=by
  unfold zCw;by_cases e4:o.kind=4
  ·rw [if_pos e4];simp;omega
  ·rw [if_neg e4];by_cases e3:o.kind=3
   ·rw [if_pos e3];have:=zCe hv (hfrn (.inl e3));simp;omega
   ·rw [if_neg e3];by_cases e5:o.kind=5
    ·rw [if_pos e5];have:=zCe hv (hfrn (.inr (.inl e5)));simp;omega
    ·rw [if_neg e5];by_cases e6:o.kind=6
     ·rw [if_pos e6];have hn:=zAj.1 (hfrn (.inr (.inr (.inl e6))));have:=zBr hv hn.1 hn.2.1;simp;omega
     ·rw [if_neg e6];by_cases e7:o.kind=7
      ·rw [if_pos e7];have hn:=zAj.1 (hfrn (.inr (.inr (.inr e7))));have:=zBr hv hn.1 hn.2.1;simp;omega
      ·rw [if_neg e7];simp
 unfold zBb;simp;omega
theorem zTK {A:Option Addr} {n c:Nat} {L:List Fg} {re lo:Int} {o:Og} {S:List UInt8} (h:zBb L o=S) (B:Option Addr) (m d:Nat) (w:World) (hA:Fgs w A n L) (hv:frOk L re lo) (hO:OpIn w o B m d) (hr:zAg n o=true) (hm:m≤10000) (ht:Tabs w) :
  Calls Tryz.prog 60 #[frV A n c re lo,opV o B m d] w fun e w'=>e=.returned (.string (bA S))∧Below w.heap.size w w':=by
 subst h;exact zIb A n c L re lo o B m d w hA hv hO hr hm ht
set_option maxHeartbeats 6400000 in
set_option maxRecDepth 100000 in
theorem zGQ (A:Option Addr) (n c:Nat) (L:List Fg) (re lo:Int) (B:Option Addr) (m d:Nat) (Es:List Oe) (w:World) (hA:Fgs w A n L) (hc:n≤c) (hO:Oprs w B m Es) (hm:m≤10000) (hf:zTJ Es) (ht:Tabs w) :
  Calls Tryz.prog 22 #[frV A n c re lo,.slice B m d] w fun e w'=>e=.returned (.tuple #[.string (bA (if zAF L re lo (Es.map (·.o))=0 then zBD L (Es.map (·.o)) else [])),.int .i64 (zAF L re lo (Es.map (·.o)))])∧Below w.heap.size w w':=by
 have aM:=qH hO.len;have eQ:=qH hA.len;have ah:Below w.heap.size w (w.alloc (.cells #[.slice A n c,.int .i64 re,.int .i64 lo] 24)):=(Below.refl _ _).alloc (Nat.le_refl _) _;have hk0:Blk (w.alloc (.cells #[.slice A n c,.int .i64 re,.int .i64 lo] 24)) w.heap.size 24 #[.slice A n c,.int .i64 re,.int .i64 lo]:=Blk.new _ _ _;have hC:=zEj A n c L re lo B m d Es _ (hA.below ah) hc (hO.below ah);have hcase:=zCA L re lo (Es.map (·.o));obtain ⟨E,hE⟩:∃E,zAF L re lo (Es.map (·.o))=E:=⟨_,rfl⟩
 rw [hE] at hcase hC ⊢;have HC:=qH hC;have qx:=qH hf;clear hE hC hf;rcases hcase with ⟨rfl,hfr,hro⟩ | rfl
 ·have hri:∀i,i < m→zAg n (oa Es i).o=true:=fun i hi=>by
   have:=hro _ (List.mem_map_of_mem (List.mem_of_getElem? (zBn (L:=Es) (i:=i) (by rw [aM.out];exact hi))));rw [eQ.out] at this;exact this
  have vo:=qH hri;clear hro hri;go_enter Tryz.func22,Tryz.ntmps22;go_wp2_with fail
  refine HC.out.mono ?_;rintro e w2 ⟨rfl,ai⟩;have al:=zAa ah ai ah.size;have hk2:=hk0.below ai hk0.lt;have kD:=hA.below al;have gQ:=hO.below al;have ht2:=ht.below al;clear HC ah hk0 ai;go_wp2_with fail
  have hI:=zTI w2;have aI:Below w2.heap.size w2 (w2.alloc (.cells #[.pointer none,.slice none 0 0] 101)):=(Below.refl _ _).alloc (Nat.le_refl _) _;have Bu:(w2.alloc (.cells #[.pointer none,.slice none 0 0] 101)).heap.size=w2.heap.size+1:=by simp
  generalize w2.alloc (.cells #[.pointer none,.slice none 0 0] 101)=W at hI aI Bu ⊢;have HZ4:=qH Bu;clear Bu;go_loopw [18] (fun v wr=>∃(i:Nat) (T:List UInt8),i≤m∧v=.int .i64 i∧Below w2.heap.size w2 wr∧IsB w2.heap.size T wr∧Hid (T=zBD L ((Es.take i).map (·.o)))∧T.length≤i*1300000∧w2.heap.size≤wr.heap.size) (fun v _=>m-(intOf v).toNat)
  case atStart=>exact ⟨0,[],Nat.zero_le _,rfl,aI,hI,qH (by simp [zBD]),by simp,by have:=HZ4.out;omega⟩
  case round =>
   obtain ⟨i,T,hi,rfl,hbr,CD,HT,nf,hzr⟩:=hrel;clear hI aI;have hkr:=hk2.below hbr hk2.lt;by_cases hlt:i < m
   ·obtain ⟨g,p,rfl,hg,⟨x0,x1,x2,x3,x4,x5,x6,x7⟩,hin⟩:=(gQ.below hbr).at_ hlt;have j0:(0:Int)≤(i:Int):=by omega
    have j1:(i:Int) < (m:Int):=by omega
    have qi:=zBn (L:=Es) (i:=i) (by rw [aM.out];exact hlt);have hpn:=qx.out _ (List.mem_of_getElem? qi);have hri:=vo.out i hlt;have hsn:zBD L ((Es.take (i+1)).map (·.o))=zBD L ((Es.take i).map (·.o))++(zBb L (oa Es i).o++[10]):=by
     unfold zBD;rw [List.take_add_one,qi];simp
    have hll:=zKc hfr (o:=(oa Es i).o) (by rw [eQ.out];exact hri);generalize oa Es i=x at x0 x1 x2 x3 x4 x5 x6 x7 hin hpn hri hsn hll qi;obtain ⟨⟨kind,f,⟨ff,fl,ffar,fpc⟩,path,over⟩,PA,pn,pc⟩:=x;simp only at x0 x1 x2 x3 x4 x5 x6 x7 hin hpn hri hsn hll;have hpl:path.length=pn:=hin.path.len;obtain ⟨LN,CA⟩:∃X,zBb L ⟨kind,f,⟨ff,fl,ffar,fpc⟩,path,over⟩=X:=⟨_,rfl⟩
    rw [CA] at hsn hll;obtain ⟨L1,uL⟩:∃X,LN++[10]=X:=⟨_,rfl⟩
    have iD:L1.length≤1300000:=by rw [←uL];simp;omega
    have s1:=zAp uL _ ⟨#[10]⟩ rfl rfl (by omega) (by simp);rw [uL] at hsn;have HSN:=qH (show T++L1=zBD L ((Es.take (i+1)).map (·.o)) by rw [hsn,HT.out]);have Cg:(T++L1).length≤(i+1)*1300000:=by rw [List.length_append,Nat.add_mul];omega
    have aw:Below w2.heap.size w2 (wr.alloc (.cells #[.int .i64 kind,.int .i64 f,.int .i64 ff,.int .i64 fl,.bool ffar,.int .i64 fpc,.slice PA pn pc,.bool over] 32)):=hbr.alloc hbr.size _;have CF:=zKb CD ((Below.refl wr.heap.size wr).alloc (Nat.le_refl _) (.cells #[.int .i64 kind,.int .i64 f,.int .i64 ff,.int .i64 fl,.bool ffar,.int .i64 fpc,.slice PA pn pc,.bool over] 32));have jD:=hkr.alloc (.cells #[.int .i64 kind,.int .i64 f,.int .i64 ff,.int .i64 fl,.bool ffar,.int .i64 fpc,.slice PA pn pc,.bool over] 32);have nc:=hin.below ((Below.refl wr.heap.size wr).alloc (Nat.le_refl _) (.cells #[.int .i64 kind,.int .i64 f,.int .i64 ff,.int .i64 fl,.bool ffar,.int .i64 fpc,.slice PA pn pc,.bool over] 32));have aR:=qH (zTK (c:=c) CA PA pn pc _ (kD.below aw) hfr nc hri hpn (ht2.below aw));have vl:=qH (show T.length+L1.length≤140737488355328 by omega);have y0:=(jD.cell 0).trans rfl;have y1:=(jD.cell 1).trans rfl;have y2:=(jD.cell 2).trans rfl;have Bt:w2.heap.size≤(wr.alloc (.cells #[.int .i64 kind,.int .i64 f,.int .i64 ff,.int .i64 fl,.bool ffar,.int .i64 fpc,.slice PA pn pc,.bool over] 32)).heap.size:=by simp;omega
    clear CA uL hsn hll hin nc hpn hri qi HT iD hpl;go_wp2_with fail
    refine aR.out.mono ?_;rintro e w6 ⟨rfl,aH⟩;have Fk:=zKb CF aH;have cI:=zAa aw aH aw.size;have hz6:w2.heap.size≤w6.heap.size:=by have:=aH.size;omega
    clear y0 y1 y2 x0 x1 x2 x3 x4 x5 x6 x7 CF aw jD Bt hbr CD hkr aR;go_wp2_with fail
    refine (zIE w2.heap.size T L1 w6 Fk vl.out hz6).mono ?_;rintro e w8 ⟨⟨r1,r2,rfl⟩,Fj,cm⟩;have aS:Below w2.heap.size w2 w8:=cI.trans cm;have vE:w2.heap.size≤w8.heap.size:=by have:=cm.size;omega
    have AQ:=qH Fj;clear Fk cI cm Fj;go_wp2_with fail
    go_roundw
    case rel=>exact ⟨i+1,T++L1,by omega,by go_num,aS,AQ.out,HSN,Cg,vE⟩
    case measure=>simp [intOf];omega
   ·have j1:¬(i:Int) < (m:Int):=by omega
    have hin:i=m:=by omega
    have HR:=qH (show T=zBD L (Es.map (·.o)) by rw [HT.out,hin,←aM.out,List.take_length]);clear hin HT;go_wp2_with fail
    refine (zKa w2.heap.size T wr CD hzr).mono ?_;rintro e w8 ⟨rfl,cm⟩;have aS:Below w.heap.size w w8:=zAa al (hbr.trans cm) al.size;go_wp2_with fail
    go_ret2;exact ⟨by rw [HR.out];simp,aS⟩
 ·go_enter Tryz.func22,Tryz.ntmps22;go_wp2_with fail
  refine HC.out.mono ?_;rintro e w2 ⟨rfl,ai⟩;have al:=zAa ah ai ah.size;go_wp2_with fail
  go_ret2;exact ⟨rfl,al⟩
end Go.Proofs.YtlmdfmnbcndhoaaGreatDoor
