/-
  Lemmas, part 10. Conditions: each theorem's own.
-/
import Derived.Test.YtlmdfmnbcndhoaaGreatDoorRq09
import Derived.Great.BuildSlice
open Go.Value renaming bool→G,int→D,slice→H,string→W
open Go.IntKind renaming i64→J
open Option renaming none→U,some→Z
open Bool renaming false→E,true→Q
namespace Go.Proofs.YtlmdfmnbcndhoaaGreatDoor
open Go.RowKit
def zPD (L:List Fg) (x:Sp):List UInt8:=[32]++zBd x.over++[32]++zCo L x.s++[44]
def zHC (L:List Fg) (P:List Sp):List UInt8:=P.flatMap (zPD L)
def zHD (L:List Fg) (o:Og):List UInt8 :=
 if o.kind=4 then [32]++zBd o.over
 else if o.kind=3 then zHC L o.path++([32,102,114,111,109,32]++zCo L o.fr)
 else if o.kind=5 then [32,102,114,111,109,32]++zCo L o.fr++[32]++zBd o.over
 else if o.kind=6 then [32,102,114,111,109,32]++nmF L o.fr.f++[32]++zBd o.over
 else if o.kind=7 then [32,119,105,116,104,32]++nmF L o.fr.f++[32]++zBd o.over
 else []
def zDQ (L:List Fg) (o:Og):List UInt8:=zBk o.kind++[32]++nmF L o.f++zHD L o
theorem zCr {L:List Fg} {re lo:Int} (hv:frOk L re lo) {s:Sg} (hs:zAR L.length s=Q):(zCo L s).length≤110:=by
 obtain ⟨h1,h2,h3,h4,h5,h6⟩:=zAD.1 hs;have a:=zBJ hv h1 h2;have b:=zKt s.far;have i:=zBb (x:=s.l) ⟨by omega,by omega⟩;have j:=zBb (x:=s.pc) ⟨by omega,by omega⟩;unfold zCo;split<;>split<;>simp<;>omega
theorem zKv {L:List Fg} {re lo:Int} (hv:frOk L re lo):∀{P:List Sp},(∀x∈P,zAR L.length x.s=Q)→(zHC L P).length≤P.length*120
 | [],_=>by simp [zHC]
 | x :: P,h=>by
  have ih:=zKv hv (P:=P) fun y hy=>h y (List.mem_cons_of_mem _ hy)
  have a:=zCr hv (h x (List.mem_cons_self ..));have b:=zFn x.over;have hst:(zPD L x).length≤120:=by
   unfold zPD;simp only [List.length_append,List.length_cons,List.length_nil];omega
  unfold zHC at ih ⊢;rw [List.flatMap_cons,List.length_append,List.length_cons,Nat.add_mul];omega
theorem zNX (L:List Fg) {P:List Sp} {i:Nat} (h:i < P.length):zHC L (P.take (i+1))=zHC L (P.take i)++zPD L (pa P i):=by
 unfold zHC;rw [List.take_add_one,zEC h];simp
theorem zTZ {k:Int} {S:List UInt8} (h:zBk k=S) (h0:0≤k) (h8:k≤8) (w:World):Calls Tryz.prog 106 #[D J k] w fun e w'=>e=.returned (W (bA S))∧w'=w:=by
 subst h;exact zCc k h0 h8 w
theorem zJk {A:Option Addr} {n c:Nat} {L:List Fg} {re lo:Int} {s:Sg} {S:List UInt8} (h:zCo L s=S) (w:World) (hA:Fgs w A n L) (hv:frOk L re lo) (hs:zAR n s=Q) (ht:Tabs w) :
  Calls Tryz.prog 109 #[frV A n c re lo,sgV s] w fun e w'=>e=.returned (W (bA S))∧Below w.heap.size w w':=by
 subst h;exact zLH A n c L re lo s w hA hv hs ht
theorem zCd {k:Nat} {o:Og} (h:zAr k o=Q):1≤o.kind∧o.kind≤8∧1≤o.f∧o.f≤(k:Int)∧(∀x∈o.path,zAR k x.s=Q)∧((o.kind=3∨o.kind=5∨o.kind=6∨o.kind=7)→zAR k o.fr=Q):=by
 unfold zAr at h;simp only [Bool.and_eq_true,decide_eq_true_eq,List.all_eq_true] at h;obtain ⟨⟨⟨⟨h1,h2⟩,_⟩,h4⟩,h5⟩:=h;unfold zDP at h5;refine ⟨?_,?_,h1,h2,h4,?_⟩
 ·by_cases e:1≤o.kind∧o.kind≤8
  ·exact e.1
  ·rw [if_neg (by omega),if_neg (by omega),if_neg (by omega),if_neg (by omega),if_neg (by omega)] at h5;cases h5
 ·by_cases e:1≤o.kind∧o.kind≤8
  ·exact e.2
  ·rw [if_neg (by omega),if_neg (by omega),if_neg (by omega),if_neg (by omega),if_neg (by omega)] at h5;cases h5
 ·rintro (e | e | e | e)
  ·rw [if_neg (by omega),if_neg (by omega),if_pos e] at h5;simp only [Bool.and_eq_true] at h5;exact h5.2
  ·rw [if_neg (by omega),if_neg (by omega),if_neg (by omega),if_pos e] at h5;exact h5
  ·rw [if_neg (by omega),if_neg (by omega),if_neg (by omega),if_neg (by omega),if_pos (.inl e)] at h5;simp only [Bool.and_eq_true] at h5;exact h5.1
  ·rw [if_neg (by omega),if_neg (by omega),if_neg (by omega),if_neg (by omega),if_pos (.inr e)] at h5;simp only [Bool.and_eq_true] at h5;exact h5.1
set_option maxHeartbeats 12800000 in
set_option maxRecDepth 100000 in
theorem zIF (A:Option Addr) (n c:Nat) (L:List Fg) (re lo:Int) (o:Og) (B:Option Addr) (m d:Nat) (w:World) (hA:Fgs w A n L) (hv:frOk L re lo) (hO:OpIn w o B m d) (hr:zAr n o=Q) (hm:m≤10000) (ht:Tabs w) :
  Calls Tryz.prog 60 #[frV A n c re lo,opV o B m d] w fun e w'=>e=.returned (W (bA (zDQ L o)))∧Below w.heap.size w w':=by
 obtain ⟨h1,h8,dk,aC,hpn,hfrn⟩:=zCd hr;have hlen:=hO.path.len;have iZ:=zBJ hv dk (by rw [hA.len];exact aC);have hnl:=hA.len;have hP:Stps w B m o.path:=hO.path;have rK:=zKu o.kind;have ou:zDQ L o=zBk o.kind++[32]++nmF L o.f++zHD L o:=rfl;obtain ⟨kind,f,⟨ff,fl,ffar,fpc⟩,path,over⟩:=o;simp only at h1 h8 dk aC hpn hfrn hlen iZ hP rK ou ⊢;obtain ⟨VB,xP⟩:∃T,zBk kind=T:=⟨_,rfl⟩
 obtain ⟨NM,dy⟩:∃T,nmF L f=T:=⟨_,rfl⟩
 obtain ⟨OV,mQ⟩:∃T,zBd over=T:=⟨_,rfl⟩
 obtain ⟨G0,x9⟩:∃T,VB++[32]=T:=⟨_,rfl⟩
 obtain ⟨G1,ox⟩:∃T,G0++NM=T:=⟨_,rfl⟩
 have nw:=zFn over;rw [xP] at rK;rw [dy] at iZ;rw [mQ] at nw;have l0:G0.length≤9:=by rw [←x9];simp;omega
 have l1:G1.length≤52:=by rw [←ox];simp;omega
 have s1:=zAF x9 (bA VB) ⟨#[32]⟩ rfl rfl (by omega) (by simp);have s2:=zAF ox _ _ rfl rfl (by omega) (by omega);rw [xP,dy,x9,ox] at ou;have mc:=qH ou;have EV:=qH xP;have kV:=qH dy;have bf:=qH mQ;have HK:=qH (show 0≤kind∧kind≤8 from ⟨by omega,h8⟩);have nj:=qH h1;have fm:=qH (show 1≤f∧f≤(n:Int) from ⟨dk,aC⟩);have iw:=qH hpn;have lM:=qH hfrn;have aL:=qH hlen;have fj:=qH hnl;have aa:Below w.heap.size w ((w.alloc (.cells #[H A n c,D J re,D J lo] 24)).alloc (.cells #[D J kind,D J f,D J ff,D J fl,G ffar,D J fpc,H B m d,G over] 32)):=((Below.refl _ _).alloc (Nat.le_refl _) _).alloc (by simp) _;have hk0:=(Blk.new w 24 #[H A n c,D J re,D J lo]).alloc (.cells #[D J kind,D J f,D J ff,D J fl,G ffar,D J fpc,H B m d,G over] 32);have ag:Blk ((w.alloc (.cells #[H A n c,D J re,D J lo] 24)).alloc (.cells #[D J kind,D J f,D J ff,D J fl,G ffar,D J fpc,H B m d,G over] 32)) (w.heap.size+1) 32 #[D J kind,D J f,D J ff,D J fl,G ffar,D J fpc,H B m d,G over]:=heap_alloc2_new w _ _;clear ou xP dy mQ x9 ox rK iZ h1 h8 dk aC hpn hfrn hlen hr hnl l0 hO;go_enter Tryz.func60,Tryz.ntmps60;go_wp2_with fail
 have hA0:=hA.below aa;have lV:=hP.below aa;have tk:=ht.below aa;generalize (w.alloc (.cells #[H A n c,D J re,D J lo] 24)).alloc (.cells #[D J kind,D J f,D J ff,D J fl,G ffar,D J fpc,H B m d,G over] 32)=ZR at aa hk0 ag hA0 lV tk ⊢
 have KP:=qH (show ∀wx,Below ZR.heap.size ZR wx→(Below ZR.heap.size ZR wx∧wx.cell? ⟨w.heap.size,0,U⟩=Z (H A n c)∧wx.cell? ⟨w.heap.size,1,U⟩=Z (D J re)∧wx.cell? ⟨w.heap.size,2,U⟩=Z (D J lo)∧wx.cell? ⟨w.heap.size+1,0,U⟩=Z (D J kind)∧wx.cell? ⟨w.heap.size+1,1,U⟩=Z (D J f)∧wx.cell? ⟨w.heap.size+1,2,U⟩=Z (D J ff)∧wx.cell? ⟨w.heap.size+1,3,U⟩=Z (D J fl)∧wx.cell? ⟨w.heap.size+1,4,U⟩=Z (G ffar)∧wx.cell? ⟨w.heap.size+1,5,U⟩=Z (D J fpc)∧wx.cell? ⟨w.heap.size+1,6,U⟩=Z (H B m d)∧wx.cell? ⟨w.heap.size+1,7,U⟩=Z (G over)) from
  fun wx h=>⟨h,((hk0.below h hk0.lt).cell 0).trans rfl,((hk0.below h hk0.lt).cell 1).trans rfl,((hk0.below h hk0.lt).cell 2).trans rfl,((ag.below h ag.lt).cell 0).trans rfl,((ag.below h ag.lt).cell 1).trans rfl,((ag.below h ag.lt).cell 2).trans rfl,((ag.below h ag.lt).cell 3).trans rfl,((ag.below h ag.lt).cell 4).trans rfl,((ag.below h ag.lt).cell 5).trans rfl,((ag.below h ag.lt).cell 6).trans rfl,((ag.below h ag.lt).cell 7).trans rfl⟩)
 first
  | go_region_held3 (fun wx=>Below ZR.heap.size ZR wx∧wx.cell? ⟨w.heap.size,0,U⟩=Z (H A n c)∧wx.cell? ⟨w.heap.size,1,U⟩=Z (D J re)∧wx.cell? ⟨w.heap.size,2,U⟩=Z (D J lo)∧wx.cell? ⟨w.heap.size+1,0,U⟩=Z (D J kind)∧wx.cell? ⟨w.heap.size+1,1,U⟩=Z (D J f)∧wx.cell? ⟨w.heap.size+1,2,U⟩=Z (D J ff)∧wx.cell? ⟨w.heap.size+1,3,U⟩=Z (D J fl)∧wx.cell? ⟨w.heap.size+1,4,U⟩=Z (G ffar)∧wx.cell? ⟨w.heap.size+1,5,U⟩=Z (D J fpc)∧wx.cell? ⟨w.heap.size+1,6,U⟩=Z (H B m d)∧wx.cell? ⟨w.heap.size+1,7,U⟩=Z (G over)) (first | assumption | exact KP.out _ (Below.refl _ _).drew | exact KP.out _ (zAa (And.left (by assumption)) (by assumption) (Below.size (And.left (by assumption)))))
    (first
     | (go_at_call 106;refine (zTZ EV.out HK.out.1 HK.out.2 _).mono ?_;rintro e wa ⟨rfl,rfl⟩)
     | (go_at_call 107;refine (zDq kV.out _ (hA0.below (And.left (by assumption))) hv fm.out.1 fm.out.2).mono ?_;rintro e wc ⟨rfl,hbc⟩))
  | fail
 all_goals
  obtain ⟨hbx,a0,a1,a2,e0,e1,e2,e3,e4,e5,e6,e7⟩:=(show Below ZR.heap.size ZR _∧_ from by assumption);have ab:=zAa aa hbx aa.size;have htx:=tk.below hbx;have dQ:=hA0.below hbx;have hPx:=lV.below hbx;have hkx:=ag.below hbx ag.lt;have hfx:=hk0.below hbx hk0.lt;clear hbc;have HT:=qH (show zDQ L ⟨kind,f,⟨ff,fl,ffar,fpc⟩,path,over⟩=G1++zHD L ⟨kind,f,⟨ff,fl,ffar,fpc⟩,path,over⟩ from mc.out);clear mc EV kV s1 s2 KP hA0 lV tk hk0 ag hbx aa
  have KP:=qH (show ∀wx,Below wc.heap.size wc wx→(Below wc.heap.size wc wx∧wx.cell? ⟨w.heap.size,0,U⟩=Z (H A n c)∧wx.cell? ⟨w.heap.size,1,U⟩=Z (D J re)∧wx.cell? ⟨w.heap.size,2,U⟩=Z (D J lo)∧wx.cell? ⟨w.heap.size+1,0,U⟩=Z (D J kind)∧wx.cell? ⟨w.heap.size+1,1,U⟩=Z (D J f)∧wx.cell? ⟨w.heap.size+1,2,U⟩=Z (D J ff)∧wx.cell? ⟨w.heap.size+1,3,U⟩=Z (D J fl)∧wx.cell? ⟨w.heap.size+1,4,U⟩=Z (G ffar)∧wx.cell? ⟨w.heap.size+1,5,U⟩=Z (D J fpc)∧wx.cell? ⟨w.heap.size+1,6,U⟩=Z (H B m d)∧wx.cell? ⟨w.heap.size+1,7,U⟩=Z (G over)) from
   fun wx h=>⟨h,((hfx.below h hfx.lt).cell 0).trans rfl,((hfx.below h hfx.lt).cell 1).trans rfl,((hfx.below h hfx.lt).cell 2).trans rfl,((hkx.below h hkx.lt).cell 0).trans rfl,((hkx.below h hkx.lt).cell 1).trans rfl,((hkx.below h hkx.lt).cell 2).trans rfl,((hkx.below h hkx.lt).cell 3).trans rfl,((hkx.below h hkx.lt).cell 4).trans rfl,((hkx.below h hkx.lt).cell 5).trans rfl,((hkx.below h hkx.lt).cell 6).trans rfl,((hkx.below h hkx.lt).cell 7).trans rfl⟩)
  have hk:(kind=1∨kind=2∨kind=8)∨kind=4∨kind=5∨(kind=6∨kind=7)∨kind=3:=by have:=HK.out;have:=nj.out;omega
  clear HK nj;rcases hk with hk | rfl | rfl | hk | rfl
  ·rcases hk with rfl | rfl | rfl
   all_goals
    have HR:=qH (show bA G1=bA (zDQ L _) by rw [HT.out];simp [zHD]);clear HT;go_wp2_with fail
    go_ret;exact ⟨zGD HR.out,ab⟩
  ·obtain ⟨R1,dP⟩:∃T,[32]++OV=T:=⟨_,rfl⟩
   obtain ⟨R2,nC⟩:∃T,G1++R1=T:=⟨_,rfl⟩
   have lR:R1.length≤6:=by rw [←dP];simp;omega
   have t1:=zAF dP ⟨#[32]⟩ _ rfl rfl (by simp) (by omega);have t2:=zAF nC _ _ rfl rfl (by omega) (by omega);have HR:=qH (show bA R2=bA (zDQ L _) by rw [HT.out,←nC,←dP,←bf.out];simp [zHD]);clear HT dP nC lR l1 nw;go_wp2_with fail
   refine (zHB bf.out _).mono ?_;rintro e wd ⟨rfl,rfl⟩;go_wp2_with fail
   go_ret;exact ⟨zGD HR.out,ab⟩
  ·have hnf:=lM.out (by omega);have gK:=zCr hv (s:=⟨ff,fl,ffar,fpc⟩) (by rw [fj.out];exact hnf);obtain ⟨PL,dm⟩:∃T,zCo L ⟨ff,fl,ffar,fpc⟩=T:=⟨_,rfl⟩
   obtain ⟨Q1,kI⟩:∃T,[32,102,114,111,109,32]++PL=T:=⟨_,rfl⟩
   obtain ⟨Q2,kE⟩:∃T,Q1++[32]=T:=⟨_,rfl⟩
   obtain ⟨Q3,dW⟩:∃T,Q2++OV=T:=⟨_,rfl⟩
   obtain ⟨Q4,fN⟩:∃T,G1++Q3=T:=⟨_,rfl⟩
   rw [dm] at gK;have m1:Q1.length≤116:=by rw [←kI];simp;omega
   have m2:Q2.length≤117:=by rw [←kE];simp;omega
   have m3:Q3.length≤122:=by rw [←dW];simp;omega
   have t1:=zAF kI ⟨#[32,102,114,111,109,32]⟩ _ rfl rfl (by simp) (by omega);have t2:=zAF kE _ ⟨#[32]⟩ rfl rfl (by omega) (by simp);have t3:=zAF dW _ _ rfl rfl (by omega) (by omega);have t4:=zAF fN _ _ rfl rfl (by omega) (by omega);have HR:=qH (show bA Q4=bA (zDQ L _) by rw [HT.out,←fN,←dW,←kE,←kI,←dm,←bf.out];simp [zHD]);have bY:=qH dm;have eT:=qH hnf;clear HT kI kE dW fN m1 m2 m3 l1 nw gK dm hnf lM;go_wp2_with fail
   first
    | go_region_held3 (fun wx=>Below wc.heap.size wc wx∧wx.cell? ⟨w.heap.size,0,U⟩=Z (H A n c)∧wx.cell? ⟨w.heap.size,1,U⟩=Z (D J re)∧wx.cell? ⟨w.heap.size,2,U⟩=Z (D J lo)∧wx.cell? ⟨w.heap.size+1,0,U⟩=Z (D J 5)∧wx.cell? ⟨w.heap.size+1,1,U⟩=Z (D J f)∧wx.cell? ⟨w.heap.size+1,2,U⟩=Z (D J ff)∧wx.cell? ⟨w.heap.size+1,3,U⟩=Z (D J fl)∧wx.cell? ⟨w.heap.size+1,4,U⟩=Z (G ffar)∧wx.cell? ⟨w.heap.size+1,5,U⟩=Z (D J fpc)∧wx.cell? ⟨w.heap.size+1,6,U⟩=Z (H B m d)∧wx.cell? ⟨w.heap.size+1,7,U⟩=Z (G over)) (first | assumption | exact KP.out _ (Below.refl _ _).drew | exact KP.out _ (zAa (And.left (by assumption)) (by assumption) (Below.size (And.left (by assumption)))))
      (first
       | (go_at_call 109;refine (zJk bY.out _ (dQ.below (And.left (by assumption))) hv eT.out (htx.below (And.left (by assumption)))).mono ?_;rintro e wd ⟨rfl,hbd⟩)
       | (go_at_call 108;refine (zHB bf.out _).mono ?_;rintro e we ⟨rfl,rfl⟩))
    | fail
   all_goals
    have hbf:=zAa ab (And.left (show Below wc.heap.size wc _∧_ from by assumption)) ab.size;go_wp2_with fail
    go_ret;exact ⟨zGD HR.out,hbf⟩
  ·have hnf:=lM.out (by omega);have nR:=zAD.1 hnf;simp only at nR;have gK:=zBJ hv (f:=ff) (by omega) (by rw [fj.out];omega);obtain ⟨PL,dm⟩:∃T,nmF L ff=T:=⟨_,rfl⟩
   rw [dm] at gK;have bY:=qH dm;have eT:=qH (show 1≤ff∧ff≤(n:Int) from ⟨nR.1,nR.2.1⟩);clear hnf nR lM;rcases hk with rfl | rfl
   ·obtain ⟨Q1,kI⟩:∃T,[32,102,114,111,109,32]++PL=T:=⟨_,rfl⟩
    obtain ⟨Q2,kE⟩:∃T,Q1++[32]=T:=⟨_,rfl⟩
    obtain ⟨Q3,dW⟩:∃T,Q2++OV=T:=⟨_,rfl⟩
    obtain ⟨Q4,fN⟩:∃T,G1++Q3=T:=⟨_,rfl⟩
    have m1:Q1.length≤116:=by rw [←kI];simp;omega
    have m2:Q2.length≤117:=by rw [←kE];simp;omega
    have m3:Q3.length≤122:=by rw [←dW];simp;omega
    have t1:=zAF kI ⟨#[32,102,114,111,109,32]⟩ _ rfl rfl (by simp) (by omega);have t2:=zAF kE _ ⟨#[32]⟩ rfl rfl (by omega) (by simp);have t3:=zAF dW _ _ rfl rfl (by omega) (by omega);have t4:=zAF fN _ _ rfl rfl (by omega) (by omega);have HR:=qH (show bA Q4=bA (zDQ L _) by rw [HT.out,←fN,←dW,←kE,←kI,←dm,←bf.out];simp [zHD]);clear HT kI kE dW fN m1 m2 m3 l1 nw gK dm;go_wp2_with fail
    first
     | go_region_held3 (fun wx=>Below wc.heap.size wc wx∧wx.cell? ⟨w.heap.size,0,U⟩=Z (H A n c)∧wx.cell? ⟨w.heap.size,1,U⟩=Z (D J re)∧wx.cell? ⟨w.heap.size,2,U⟩=Z (D J lo)∧wx.cell? ⟨w.heap.size+1,0,U⟩=Z (D J 6)∧wx.cell? ⟨w.heap.size+1,1,U⟩=Z (D J f)∧wx.cell? ⟨w.heap.size+1,2,U⟩=Z (D J ff)∧wx.cell? ⟨w.heap.size+1,3,U⟩=Z (D J fl)∧wx.cell? ⟨w.heap.size+1,4,U⟩=Z (G ffar)∧wx.cell? ⟨w.heap.size+1,5,U⟩=Z (D J fpc)∧wx.cell? ⟨w.heap.size+1,6,U⟩=Z (H B m d)∧wx.cell? ⟨w.heap.size+1,7,U⟩=Z (G over)) (first | assumption | exact KP.out _ (Below.refl _ _).drew | exact KP.out _ (zAa (And.left (by assumption)) (by assumption) (Below.size (And.left (by assumption)))))
       (first
        | (go_at_call 107;refine (zDq bY.out _ (dQ.below (And.left (by assumption))) hv eT.out.1 eT.out.2).mono ?_;rintro e wd ⟨rfl,hbd⟩)
        | (go_at_call 108;refine (zHB bf.out _).mono ?_;rintro e we ⟨rfl,rfl⟩))
     | fail
    all_goals
     have hbf:=zAa ab (And.left (show Below wc.heap.size wc _∧_ from by assumption)) ab.size;go_wp2_with fail
     go_ret;exact ⟨zGD HR.out,hbf⟩
   ·obtain ⟨Q1,kI⟩:∃T,[32,119,105,116,104,32]++PL=T:=⟨_,rfl⟩
    obtain ⟨Q2,kE⟩:∃T,Q1++[32]=T:=⟨_,rfl⟩
    obtain ⟨Q3,dW⟩:∃T,Q2++OV=T:=⟨_,rfl⟩
    obtain ⟨Q4,fN⟩:∃T,G1++Q3=T:=⟨_,rfl⟩
    have m1:Q1.length≤116:=by rw [←kI];simp;omega
    have m2:Q2.length≤117:=by rw [←kE];simp;omega
    have m3:Q3.length≤122:=by rw [←dW];simp;omega
    have t1:=zAF kI ⟨#[32,119,105,116,104,32]⟩ _ rfl rfl (by simp) (by omega);have t2:=zAF kE _ ⟨#[32]⟩ rfl rfl (by omega) (by simp);have t3:=zAF dW _ _ rfl rfl (by omega) (by omega);have t4:=zAF fN _ _ rfl rfl (by omega) (by omega);have HR:=qH (show bA Q4=bA (zDQ L _) by rw [HT.out,←fN,←dW,←kE,←kI,←dm,←bf.out];simp [zHD]);clear HT kI kE dW fN m1 m2 m3 l1 nw gK dm;go_wp2_with fail
    first
     | go_region_held3 (fun wx=>Below wc.heap.size wc wx∧wx.cell? ⟨w.heap.size,0,U⟩=Z (H A n c)∧wx.cell? ⟨w.heap.size,1,U⟩=Z (D J re)∧wx.cell? ⟨w.heap.size,2,U⟩=Z (D J lo)∧wx.cell? ⟨w.heap.size+1,0,U⟩=Z (D J 7)∧wx.cell? ⟨w.heap.size+1,1,U⟩=Z (D J f)∧wx.cell? ⟨w.heap.size+1,2,U⟩=Z (D J ff)∧wx.cell? ⟨w.heap.size+1,3,U⟩=Z (D J fl)∧wx.cell? ⟨w.heap.size+1,4,U⟩=Z (G ffar)∧wx.cell? ⟨w.heap.size+1,5,U⟩=Z (D J fpc)∧wx.cell? ⟨w.heap.size+1,6,U⟩=Z (H B m d)∧wx.cell? ⟨w.heap.size+1,7,U⟩=Z (G over)) (first | assumption | exact KP.out _ (Below.refl _ _).drew | exact KP.out _ (zAa (And.left (by assumption)) (by assumption) (Below.size (And.left (by assumption)))))
       (first
        | (go_at_call 107;refine (zDq bY.out _ (dQ.below (And.left (by assumption))) hv eT.out.1 eT.out.2).mono ?_;rintro e wd ⟨rfl,hbd⟩)
        | (go_at_call 108;refine (zHB bf.out _).mono ?_;rintro e we ⟨rfl,rfl⟩))
     | fail
    all_goals
     have hbf:=zAa ab (And.left (show Below wc.heap.size wc _∧_ from by assumption)) ab.size;go_wp2_with fail
     go_ret;exact ⟨zGD HR.out,hbf⟩
  ·have hnf:=lM.out (by omega);have gK:=zCr hv (s:=⟨ff,fl,ffar,fpc⟩) (by rw [fj.out];exact hnf);obtain ⟨PL,dm⟩:∃T,zCo L ⟨ff,fl,ffar,fpc⟩=T:=⟨_,rfl⟩
   obtain ⟨Z1,xI⟩:∃T,[32,102,114,111,109,32]++PL=T:=⟨_,rfl⟩
   rw [dm] at gK;have mZ:Z1.length≤116:=by rw [←xI];simp;omega
   have t1:=zAF xI ⟨#[32,102,114,111,109,32]⟩ _ rfl rfl (by simp) (by omega);have bY:=qH dm;have HZ1:=qH xI;have eT:=qH hnf;have hstart:Hid (G1=G1++zHC L (path.take 0)):=qH (by simp [zHC]);clear dm xI gK hnf lM KP;go_wp2_with fail
   clear a0 a1 a2 e0 e1 e2 e3 e4 e5 e6 e7;go_loopw [5,32] (fun v5 v32 wr=>∃(i:Nat) (T:List UInt8),i≤m∧v32=D J i∧v5=W (bA T)∧Below wc.heap.size wc wr∧Hid (T=G1++zHC L (path.take i))∧T.length≤52+i*120) (fun _ v32 _=>m-(intOf v32).toNat)
   case atStart=>exact ⟨0,G1,Nat.zero_le _,rfl,rfl,Below.refl _ _,hstart,by omega⟩
   case round =>
    obtain ⟨i,T,hi,rfl,rfl,hbr,dt,tD⟩:=hrel;have hfr:=hfx.below hbr hfx.lt;have hor:=hkx.below hbr hkx.lt;have dz:=dQ.below hbr;have htr:=htx.below hbr;have hbw:=zAa ab hbr ab.size;by_cases hlt:i < m
    ·obtain ⟨g,p,rfl,hg,⟨x0,x1,x2,x3,x4⟩,_⟩:=(hPx.below hbr).at_ hlt;have j0:(0:Int)≤(i:Int):=by omega
     have j1:(i:Int) < (m:Int):=by omega
     have hil:i < path.length:=by rw [aL.out];exact hlt
     have hsn:=zNX L hil;have hnm:=iw.out _ (List.mem_of_getElem? (zEC hil));generalize pa path i=x at x0 x1 x2 x3 x4 hsn hnm;obtain ⟨⟨xf,xl,xfar,xpc⟩,xo⟩:=x;simp only at x0 x1 x2 x3 x4 hnm;have nV:=zCr hv (s:=⟨xf,xl,xfar,xpc⟩) (by rw [fj.out];exact hnm);have vg:=zFn xo;have hst:zPD L ⟨⟨xf,xl,xfar,xpc⟩,xo⟩=[32]++zBd xo++[32]++zCo L ⟨xf,xl,xfar,xpc⟩++[44]:=rfl;obtain ⟨PX,ol⟩:∃T,zCo L ⟨xf,xl,xfar,xpc⟩=T:=⟨_,rfl⟩
     obtain ⟨OX,on⟩:∃T,zBd xo=T:=⟨_,rfl⟩
     obtain ⟨Y1,fM⟩:∃T,[32]++OX=T:=⟨_,rfl⟩
     obtain ⟨Y2,xL⟩:∃T,Y1++[32]=T:=⟨_,rfl⟩
     obtain ⟨Y3,xK⟩:∃T,Y2++PX=T:=⟨_,rfl⟩
     obtain ⟨Y4,xJ⟩:∃T,Y3++[44]=T:=⟨_,rfl⟩
     obtain ⟨Y5,og⟩:∃ZV,T++Y4=ZV:=⟨_,rfl⟩
     rw [ol] at nV;rw [on] at vg;have y1:Y1.length≤6:=by rw [←fM];simp;omega
     have y2:Y2.length≤7:=by rw [←xL];simp;omega
     have y3:Y3.length≤117:=by rw [←xK];simp;omega
     have y4:Y4.length≤118:=by rw [←xJ];simp;omega
     have y5:Y5.length≤52+(i+1)*120:=by rw [←og];simp;omega
     have r1:=zAF fM ⟨#[32]⟩ _ rfl rfl (by simp) (by omega);have r2:=zAF xL _ ⟨#[32]⟩ rfl rfl (by omega) (by simp);have r3:=zAF xK _ _ rfl rfl (by omega) (by omega);have r4:=zAF xJ _ ⟨#[44]⟩ rfl rfl (by omega) (by simp);have r5:=zAF og _ _ rfl rfl (by omega) (by omega);have sR:=qH (show Y5=G1++zHC L (path.take (i+1)) by rw [hsn,hst,ol,on,←og,dt.out,←xJ,←xK,←xL,←fM];simp);have Cd:=qH ol;have Cf:=qH on;have ig:=qH hnm;have ah:Below wc.heap.size wc (wr.alloc (.cells #[D J xf,D J xl,G xfar,D J xpc,G xo] 86)):=hbr.alloc hbr.size _;have cY:=hfr.alloc (.cells #[D J xf,D J xl,G xfar,D J xpc,G xo] 86);have cO:Blk (wr.alloc (.cells #[D J xf,D J xl,G xfar,D J xpc,G xo] 86)) wr.heap.size 86 #[D J xf,D J xl,G xfar,D J xpc,G xo]:=Blk.new _ _ _;have mU:=dz.alloc (.cells #[D J xf,D J xl,G xfar,D J xpc,G xo] 86);have Ds:=htr.below ((Below.refl wr.heap.size wr).alloc (Nat.le_refl _) (.cells #[D J xf,D J xl,G xfar,D J xpc,G xo] 86));clear hsn hst ol on fM xL xK xJ og y1 y2 y3 y4 nV vg hil dt hnm;go_wp2_with fail
     clear x0 x1 x2 x3 x4 hg hbr hfr hor dz htr hbw;generalize wr.alloc (.cells #[D J xf,D J xl,G xfar,D J xpc,G xo] 86)=Y at ah cY cO mU Ds ⊢
     have KP:=qH (show ∀wx,Below Y.heap.size Y wx→(Below Y.heap.size Y wx∧wx.cell? ⟨w.heap.size,0,U⟩=Z (H A n c)∧wx.cell? ⟨w.heap.size,1,U⟩=Z (D J re)∧wx.cell? ⟨w.heap.size,2,U⟩=Z (D J lo)∧wx.cell? ⟨wr.heap.size,0,U⟩=Z (D J xf)∧wx.cell? ⟨wr.heap.size,1,U⟩=Z (D J xl)∧wx.cell? ⟨wr.heap.size,2,U⟩=Z (G xfar)∧wx.cell? ⟨wr.heap.size,3,U⟩=Z (D J xpc)∧wx.cell? ⟨wr.heap.size,4,U⟩=Z (G xo)) from
      fun wx h=>⟨h,((cY.below h cY.lt).cell 0).trans rfl,((cY.below h cY.lt).cell 1).trans rfl,((cY.below h cY.lt).cell 2).trans rfl,((cO.below h cO.lt).cell 0).trans rfl,((cO.below h cO.lt).cell 1).trans rfl,((cO.below h cO.lt).cell 2).trans rfl,((cO.below h cO.lt).cell 3).trans rfl,((cO.below h cO.lt).cell 4).trans rfl⟩)
     first
      | go_region_held3 (fun wx=>Below Y.heap.size Y wx∧wx.cell? ⟨w.heap.size,0,U⟩=Z (H A n c)∧wx.cell? ⟨w.heap.size,1,U⟩=Z (D J re)∧wx.cell? ⟨w.heap.size,2,U⟩=Z (D J lo)∧wx.cell? ⟨wr.heap.size,0,U⟩=Z (D J xf)∧wx.cell? ⟨wr.heap.size,1,U⟩=Z (D J xl)∧wx.cell? ⟨wr.heap.size,2,U⟩=Z (G xfar)∧wx.cell? ⟨wr.heap.size,3,U⟩=Z (D J xpc)∧wx.cell? ⟨wr.heap.size,4,U⟩=Z (G xo)) (first | assumption | exact KP.out _ (Below.refl _ _).drew | exact KP.out _ (zAa (And.left (by assumption)) (by assumption) (Below.size (And.left (by assumption)))))
        (first
         | (go_at_call 109;refine (zJk Cd.out _ (mU.below (And.left (by assumption))) hv ig.out (Ds.below (And.left (by assumption)))).mono ?_;rintro e wd ⟨rfl,hbd⟩)
         | (go_at_call 108;refine (zHB Cf.out _).mono ?_;rintro e we ⟨rfl,rfl⟩))
      | fail
     all_goals
      have hbf:=zAa ah (And.left (show Below Y.heap.size Y _∧_ from by assumption)) ah.size;go_wp2_with fail
      go_roundw
      case rel=>exact ⟨i+1,Y5,by omega,by go_num,rfl,hbf,sR,y5⟩
      case measure=>simp [intOf];omega
    ·have hin:i=m:=by omega
     obtain ⟨Z2,ss⟩:∃ZV,T++Z1=ZV:=⟨_,rfl⟩
     have j1:¬(i:Int) < (m:Int):=by omega
     have t2:=zAF ss _ _ rfl rfl (by omega) (by omega)
     have HR:=qH (show bA Z2=bA (zDQ L _) by
      rw [HT.out,←ss,←HZ1.out,←bY.out,dt.out,hin,←aL.out,List.take_length];simp [zHD])
     obtain ⟨b0,b1,b2⟩:=cQ3 hfr;obtain ⟨-,-,d2,d3,d4,d5⟩:=cQ6 hor;clear hin ss dt HT;go_wp2_with fail
     refine (zJk bY.out _ dz hv eT.out htr).mono ?_;rintro e wd ⟨rfl,hbd⟩;have hbf:=zAa hbw hbd hbw.size;clear b0 b1 b2 d2 d3 d4 d5;go_wp2_with fail
     go_ret;exact ⟨zGD HR.out,hbf⟩
def zBi (L:List Fg) (re lo:Int) (O:List Og):Int:=if frB L re lo&&O.all (zAr L.length) then 0 else 2
theorem zNY {L:List Fg} {re lo:Int} {O:List Og} (h:frB L re lo=E):zBi L re lo O=2:=by unfold zBi;rw [h];rfl
theorem zKw {L:List Fg} {re lo:Int} {Es:List Oe} {i:Nat} (hi:i < Es.length) (h:zAr L.length (oa Es i).o=E):zBi L re lo (Es.map (·.o))=2:=by
 have:(Es.map (·.o)).all (zAr L.length)=E:=by
  cases e:(Es.map (·.o)).all (zAr L.length) with
  | false=>rfl
  | true =>
   rw [List.all_eq_true] at e;have:=e _ (List.mem_map_of_mem (List.mem_of_getElem? (zCX hi)));rw [h] at this;cases this
 unfold zBi;rw [this];simp
theorem zPE {L:List Fg} {re lo:Int} {Es:List Oe} (h:frB L re lo=Q) (ho:∀i,i < Es.length→zAr L.length (oa Es i).o=Q):zBi L re lo (Es.map (·.o))=0:=by
 have:(Es.map (·.o)).all (zAr L.length)=Q:=by
  rw [List.all_eq_true];intro x hx;obtain ⟨e,he,rfl⟩:=List.mem_map.1 hx;obtain ⟨i,hi⟩:=List.getElem?_of_mem he;have hlt:=(List.getElem?_eq_some_iff.1 hi).1;have h2:=ho i hlt;have h3:=zCX hlt;rw [hi] at h3;injection h3 with h3
  rw [h3];exact h2
 unfold zBi;rw [this,h];rfl
theorem zFo {L:List Fg} {re lo:Int} {b:Bool} (h:frB L re lo=b) (A:Option Addr) (n c:Nat) (w:World) (hA:Fgs w A n L) (hc:n≤c) :
  Calls Tryz.prog 88 #[frV A n c re lo] w fun e w'=>e=.returned (G b)∧Below w.heap.size w w':=by
 subst h;exact zNS A n c L re lo w hA hc
theorem zRI {k:Nat} {o:Og} {b:Bool} (h:zAr k o=b) (A:Option Addr) (c:Nat) (re lo:Int) (B:Option Addr) (m d:Nat) (w:World) (hO:OpIn w o B m d) :
  Calls Tryz.prog 104 #[frV A k c re lo,opV o B m d] w fun e w'=>e=.returned (G (!b))∧Below w.heap.size w w':=by
 subst h;exact zLG A k c re lo o B m d w hO
set_option maxHeartbeats 3200000 in
theorem zEO (A:Option Addr) (n c:Nat) (L:List Fg) (re lo:Int) (B:Option Addr) (m d:Nat) (Es:List Oe) (w:World) (hA:Fgs w A n L) (hc:n≤c) (hO:Oprs w B m Es) :
  Calls Tryz.prog 58 #[frV A n c re lo,H B m d] w fun e w'=>e=.returned (D J (zBi L re lo (Es.map (·.o))))∧Below w.heap.size w w':=by
 have hle:=hO.le;have aL:=qH hO.len;have fj:=qH hA.len;have aa:Below w.heap.size w (w.alloc (.cells #[H A n c,D J re,D J lo] 24)):=(Below.refl _ _).alloc (Nat.le_refl _) _;have hk0:Blk (w.alloc (.cells #[H A n c,D J re,D J lo] 24)) w.heap.size 24 #[H A n c,D J re,D J lo]:=Blk.new _ _ _;obtain ⟨b,hb⟩:∃b,frB L re lo=b:=⟨_,rfl⟩
 have HV:=qH (zFo hb A n c _ (hA.below aa) hc);have HB:=qH hb;clear hb
 cases b with
 | false =>
  have hr:=qH (zNY (O:=Es.map (·.o)) HB.out);go_enter Tryz.func58,Tryz.ntmps58;go_wp2_with fail
  refine HV.out.mono ?_;rintro e w2 ⟨rfl,ab⟩;have ac:=zAa aa ab aa.size;go_wp2_with fail
  go_ret;exact ⟨zKn hr.out.symm,ac⟩
 | true =>
  go_enter Tryz.func58,Tryz.ntmps58;go_wp2_with fail
  refine HV.out.mono ?_;rintro e w2 ⟨rfl,ab⟩;have ac:=zAa aa ab aa.size;have hk2:=hk0.below ab hk0.lt;go_wp2_with fail
  go_loopw [12] (fun v wr=>∃i:Nat,i≤m∧v=D J i∧Below w2.heap.size w2 wr∧Hid (∀j:Nat,j < i→zAr L.length (oa Es j).o=Q)) (fun v _=>m-(intOf v).toNat)
  case atStart=>exact ⟨0,Nat.zero_le _,rfl,Below.refl _ _,qH (fun j hj=>by omega)⟩
  case round =>
   obtain ⟨i,hi,rfl,hbr,HS⟩:=hrel;have hkr:=hk2.below hbr hk2.lt;have hbw:=zAa ac hbr ac.size;by_cases hlt:i < m
   ·obtain ⟨g,p,rfl,hg,⟨x0,x1,x2,x3,x4,x5,x6,x7⟩,hin⟩:=(hO.below hbw).at_ hlt;have j0:(0:Int)≤(i:Int):=by omega
    have j1:(i:Int) < (m:Int):=by omega
    obtain ⟨b,hb⟩:∃b,zAr n (oa Es i).o=b:=⟨_,rfl⟩
    have lQ:=qH hb;clear hb;have oL:=qH lQ.out;generalize oa Es i=x at x0 x1 x2 x3 x4 x5 x6 x7 hin lQ;obtain ⟨⟨kind,f,⟨ff,fl,ffar,fpc⟩,path,over⟩,PA,pn,pc⟩:=x;simp only at x0 x1 x2 x3 x4 x5 x6 x7 hin;have ah:Below w2.heap.size w2 (wr.alloc (.cells #[D J kind,D J f,D J ff,D J fl,G ffar,D J fpc,H PA pn pc,G over] 32)):=hbr.alloc hbr.size _;have eO:=hkr.alloc (.cells #[D J kind,D J f,D J ff,D J fl,G ffar,D J fpc,H PA pn pc,G over] 32);have vn:=hin.below ((Below.refl wr.heap.size wr).alloc (Nat.le_refl _) (.cells #[D J kind,D J f,D J ff,D J fl,G ffar,D J fpc,H PA pn pc,G over] 32));have y0:=(eO.cell 0).trans rfl;have y1:=(eO.cell 1).trans rfl;have y2:=(eO.cell 2).trans rfl;have HW:=qH (zRI lQ.out A c re lo PA pn pc _ vn);clear hin vn lQ
    cases b with
    | true =>
     have du:=qH (show ∀j:Nat,j < i+1→zAr L.length (oa Es j).o=Q from fun j hj=>by
      rcases Nat.decEq j i with e | e
      ·exact HS.out j (by omega)
      ·subst e;rw [fj.out];exact oL.out)
     clear HS oL;go_wp2_with fail
     refine HW.out.mono ?_;rintro e w5 ⟨rfl,ai⟩;have ao:=zAa ah ai ah.size;clear y0 y1 y2 x0 x1 x2 x3 x4 x5 x6 x7;go_wp2_with fail
     go_roundw
     case rel=>exact ⟨i+1,by omega,by go_num,ao,du⟩
     case measure=>simp [intOf];omega
    | false =>
     have hr:=qH (zKw (L:=L) (re:=re) (lo:=lo) (Es:=Es) (i:=i) (by rw [aL.out];exact hlt) (by rw [fj.out];exact oL.out));clear HS oL;go_wp2_with fail
     refine HW.out.mono ?_;rintro e w5 ⟨rfl,ai⟩;have ao:=zAa ah ai ah.size;clear y0 y1 y2 x0 x1 x2 x3 x4 x5 x6 x7;go_wp2_with fail
     go_ret;exact ⟨zKn hr.out.symm,zAa ac ao ac.size⟩
   ·have j1:¬(i:Int) < (m:Int):=by omega
    have hr:=qH (zPE (L:=L) (re:=re) (lo:=lo) (Es:=Es) HB.out (fun j hj=>HS.out j (by rw [aL.out] at hj;omega)));clear HS;go_wp2_with fail
    go_ret;exact ⟨zKn hr.out.symm,hbw⟩
theorem zDR (L:List Fg) (re lo:Int) (O:List Og):(zBi L re lo O=0∧frOk L re lo∧∀o∈O,zAr L.length o=Q)∨zBi L re lo O=2:=by
 unfold zBi
 cases h1:frB L re lo with
 | false=>exact .inr rfl
 | true =>
  cases h2:O.all (zAr L.length) with
  | false=>exact .inr rfl
  | true=>exact .inl ⟨rfl,zCz.1 h1,by simpa using h2⟩
theorem Oprs.one (w:World) (o:Og) (A:Option Addr) (n c:Nat) (t:TypeId) (h:OpIn w o A n c) :
  Oprs (w.alloc (.cells #[D J o.kind,D J o.f,D J o.fr.f,D J o.fr.l,G o.fr.far,D J o.fr.pc,H A n c,G o.over] t)) (Z ⟨w.heap.size,0,U⟩) 1 [⟨o,A,n,c⟩]:=by
 refine ⟨⟨rfl,by omega,fun _=>⟨_,_,rfl,by simp,fun j x hx q v hv=>?_⟩⟩,fun e he=>?_⟩
 ·rcases j with _ | j
  ·simp only [List.getElem?_cons_zero,Option.some.injEq] at hx;subst hx;rw [Nat.zero_mul,Nat.add_zero,Nat.zero_add,World.cell?_alloc_at _ _ _ _ rfl,←Array.getElem?_toList];exact hv
  ·simp at hx
 ·obtain rfl:e=⟨o,A,n,c⟩:=by simpa using he
  exact h.below ((Below.refl _ _).alloc (Nat.le_refl _) _)
set_option maxHeartbeats 3200000 in
set_option maxRecDepth 100000 in
theorem zLI (A:Option Addr) (n c:Nat) (L:List Fg) (re lo:Int) (o:Og) (B:Option Addr) (m d:Nat) (w:World) (hA:Fgs w A n L) (hc:n≤c) (hO:OpIn w o B m d) (hm:m≤10000) (ht:Tabs w) :
  Calls Tryz.prog 41 #[frV A n c re lo,opV o B m d] w fun e w'=>e=.returned (.tuple #[W (bA (if zBi L re lo [o]=0 then zDQ L o else [])),D J (zBi L re lo [o])])∧Below w.heap.size w w':=by
 have aa:Below w.heap.size w ((w.alloc (.cells #[H A n c,D J re,D J lo] 24)).alloc (.cells #[D J o.kind,D J o.f,D J o.fr.f,D J o.fr.l,G o.fr.far,D J o.fr.pc,H B m d,G o.over] 32)):=((Below.refl _ _).alloc (Nat.le_refl _) _).alloc (by simp) _;have aj:Below w.heap.size w (((w.alloc (.cells #[H A n c,D J re,D J lo] 24)).alloc (.cells #[D J o.kind,D J o.f,D J o.fr.f,D J o.fr.l,G o.fr.far,D J o.fr.pc,H B m d,G o.over] 32)).alloc (.cells #[D J o.kind,D J o.f,D J o.fr.f,D J o.fr.l,G o.fr.far,D J o.fr.pc,H B m d,G o.over] 32)):=aa.alloc aa.size _;have hk0:=((Blk.new w 24 #[H A n c,D J re,D J lo]).alloc (.cells #[D J o.kind,D J o.f,D J o.fr.f,D J o.fr.l,G o.fr.far,D J o.fr.pc,H B m d,G o.over] 32)).alloc (.cells #[D J o.kind,D J o.f,D J o.fr.f,D J o.fr.l,G o.fr.far,D J o.fr.pc,H B m d,G o.over] 32);have vk:Blk ((w.alloc (.cells #[H A n c,D J re,D J lo] 24)).alloc (.cells #[D J o.kind,D J o.f,D J o.fr.f,D J o.fr.l,G o.fr.far,D J o.fr.pc,H B m d,G o.over] 32)) (w.heap.size+1) 32 #[D J o.kind,D J o.f,D J o.fr.f,D J o.fr.l,G o.fr.far,D J o.fr.pc,H B m d,G o.over]:=heap_alloc2_new w _ _;have ag:=vk.alloc (.cells #[D J o.kind,D J o.f,D J o.fr.f,D J o.fr.l,G o.fr.far,D J o.fr.pc,H B m d,G o.over] 32);have hone:=Oprs.one _ o B m d 32 (hO.below aa);simp only [World.size_alloc] at hone;have hC:=zEO A n c L re lo _ 1 1 [⟨o,B,m,d⟩] _ (hA.below aj) hc hone;rw [show List.map (fun e:Oe=>e.o) [(⟨o,B,m,d⟩:Oe)]=[o] from rfl] at hC;have hcase:=zDR L re lo [o];obtain ⟨ZT,hE⟩:∃ZT,zBi L re lo [o]=ZT:=⟨_,rfl⟩
 rw [hE] at hcase hC ⊢;have HC:=qH hC;have hn:=hA.len;have HN:=qH hn;obtain ⟨kind,f,⟨ff,fl,ffar,fpc⟩,path,over⟩:=o;simp only at aa aj hk0 ag hone HC ⊢;clear hE vk hone hn hC;rcases hcase with ⟨rfl,hfr,hro⟩ | rfl
 ·have hri:zAr n ⟨kind,f,⟨ff,fl,ffar,fpc⟩,path,over⟩=Q:=by have:=hro _ (List.mem_singleton.2 rfl);rw [HN.out] at this;exact this
  have aZ:=qH (fun wx dQ hOx htx=>zIF A n c L re lo ⟨kind,f,⟨ff,fl,ffar,fpc⟩,path,over⟩ B m d wx dQ hfr hOx hri hm htx);clear hro hri;go_enter Tryz.func41,Tryz.ntmps41;go_wp2_with fail
  refine HC.out.mono ?_;rintro e w2 ⟨rfl,ab⟩;have ac:=zAa aj ab aj.size;have hk2:=hk0.below ab hk0.lt;have nz:=ag.below ab ag.lt;have a0:=(hk2.cell 0).trans rfl;have a1:=(hk2.cell 1).trans rfl;have a2:=(hk2.cell 2).trans rfl;have e0:=(nz.cell 0).trans rfl;have e1:=(nz.cell 1).trans rfl;have e2:=(nz.cell 2).trans rfl;have e3:=(nz.cell 3).trans rfl;have e4:=(nz.cell 4).trans rfl;have e5:=(nz.cell 5).trans rfl;have e6:=(nz.cell 6).trans rfl;have e7:=(nz.cell 7).trans rfl;go_wp2_with fail
  refine (aZ.out _ (hA.below ac) (hO.below ac) (ht.below ac)).mono ?_;rintro e w5 ⟨rfl,ai⟩;have ao:=zAa ac ai ac.size;clear a0 a1 a2 e0 e1 e2 e3 e4 e5 e6 e7;go_wp2_with fail
  go_ret2;exact ⟨by simp,ao⟩
 ·go_enter Tryz.func41,Tryz.ntmps41;go_wp2_with fail
  refine HC.out.mono ?_;rintro e w2 ⟨rfl,ab⟩;have ac:=zAa aj ab aj.size;go_wp2_with fail
  go_ret2;exact ⟨rfl,ac⟩
end Go.Proofs.YtlmdfmnbcndhoaaGreatDoor
