/-
  Lemmas, part 8. Conditions: each theorem's own.
-/
import Derived.Test.YtlmdfmnbcndhoaaGreatDoorRc07
import Derived.Great.BuildSlice
open Bool renaming false→E,true→Q
open Go.Value renaming bool→G,int→D,slice→H,string→W
open Go.IntKind renaming i64→J
open Option renaming none→U,some→Z
namespace Go.Proofs.YtlmdfmnbcndhoaaGreatDoor
open Go.RowKit
def zPb (L:List Fg) (x:Sp):List UInt8:=[32]++zBf x.over++[32]++zCq L x.s++[44]
def zHm (L:List Fg) (P:List Sp):List UInt8:=P.flatMap (zPb L)
def zHn (L:List Fg) (o:Og):List UInt8 :=
 if o.kind=4 then [32]++zBf o.over
 else if o.kind=3 then zHm L o.path++([32,102,114,111,109,32]++zCq L o.fr)
 else if o.kind=5 then [32,102,114,111,109,32]++zCq L o.fr++[32]++zBf o.over
 else if o.kind=6 then [32,102,114,111,109,32]++nmF L o.fr.f++[32]++zBf o.over
 else if o.kind=7 then [32,119,105,116,104,32]++nmF L o.fr.f++[32]++zBf o.over
 else []
def zDO (L:List Fg) (o:Og):List UInt8:=zBk o.kind++[32]++nmF L o.f++zHn L o
theorem zCs {L:List Fg} {re lo:Int} (hv:frOk L re lo) {s:Sg} (hs:zAR L.length s=Q):(zCq L s).length≤110:=by
 obtain ⟨h1,h2,h3,h4,h5,h6⟩:=zAC.1 hs;have a:=zBH hv h1 h2;have b:=zKl s.far;have i:=zBm (x:=s.l) ⟨by omega,by omega⟩;have j:=zBm (x:=s.pc) ⟨by omega,by omega⟩;unfold zCq;split<;>split<;>simp<;>omega
theorem zKn {L:List Fg} {re lo:Int} (hv:frOk L re lo):∀{P:List Sp},(∀x∈P,zAR L.length x.s=Q)→(zHm L P).length≤P.length*120
 | [],_=>by simp [zHm]
 | x :: P,h=>by
  have ih:=zKn hv (P:=P) fun y hy=>h y (List.mem_cons_of_mem _ hy)
  have a:=zCs hv (h x (List.mem_cons_self ..));have b:=zFg x.over;have hst:(zPb L x).length≤120:=by
   unfold zPb;simp only [List.length_append,List.length_cons,List.length_nil];omega
  unfold zHm at ih ⊢;rw [List.flatMap_cons,List.length_append,List.length_cons,Nat.add_mul];omega
theorem zND (L:List Fg) {P:List Sp} {i:Nat} (h:i < P.length):zHm L (P.take (i+1))=zHm L (P.take i)++zPb L (pa P i):=by
 unfold zHm;rw [List.take_add_one,zEA h];simp
theorem zUd {k:Int} {S:List UInt8} (h:zBk k=S) (h0:0≤k) (h8:k≤8) (w:World):Calls Tryz.prog 106 #[D J k] w fun e w'=>e=.returned (W (bA S))∧w'=w:=by
 subst h;exact zCd k h0 h8 w
theorem zJb {A:Option Addr} {n c:Nat} {L:List Fg} {re lo:Int} {s:Sg} {S:List UInt8} (h:zCq L s=S) (w:World) (hA:Fgs w A n L) (hv:frOk L re lo) (hs:zAR n s=Q) (ht:Tabs w) :
  Calls Tryz.prog 109 #[frV A n c re lo,sgV s] w fun e w'=>e=.returned (W (bA S))∧Below w.heap.size w w':=by
 subst h;exact zLA A n c L re lo s w hA hv hs ht
theorem zCe {k:Nat} {o:Og} (h:zAq k o=Q):1≤o.kind∧o.kind≤8∧1≤o.f∧o.f≤(k:Int)∧(∀x∈o.path,zAR k x.s=Q)∧((o.kind=3∨o.kind=5∨o.kind=6∨o.kind=7)→zAR k o.fr=Q):=by
 unfold zAq at h;simp only [Bool.and_eq_true,decide_eq_true_eq,List.all_eq_true] at h;obtain ⟨⟨⟨⟨h1,h2⟩,_⟩,h4⟩,h5⟩:=h;unfold zDN at h5;refine ⟨?_,?_,h1,h2,h4,?_⟩
 ·by_cases e:1≤o.kind∧o.kind≤8
  ·exact e.1
  ·rw [if_neg (by omega),if_neg (by omega),if_neg (by omega),if_neg (by omega),if_neg (by omega)] at h5;cases h5
 ·by_cases e:1≤o.kind∧o.kind≤8
  ·exact e.2
  ·rw [if_neg (by omega),if_neg (by omega),if_neg (by omega),if_neg (by omega),if_neg (by omega)] at h5;cases h5
 ·rintro (e | e | e | e)
  ·rw [if_neg (by omega),if_neg (by omega),if_pos e] at h5;simp only [Bool.and_eq_true] at h5;exact h5.2
  ·rw [if_neg (by omega),if_neg (by omega),if_neg (by omega),if_pos e] at h5;exact h5
  ·rw [if_neg (by omega),if_neg (by omega),if_neg (by omega),if_neg (by omega),if_pos (.inl e)] at h5;simp only [Bool.and_eq_true] at h5;exact h5.1
  ·rw [if_neg (by omega),if_neg (by omega),if_neg (by omega),if_neg (by omega),if_pos (.inr e)] at h5;simp only [Bool.and_eq_true] at h5;exact h5.1
set_option maxHeartbeats 12800000 in
set_option maxRecDepth 100000 in
theorem zIz (A:Option Addr) (n c:Nat) (L:List Fg) (re lo:Int) (o:Og) (B:Option Addr) (m d:Nat) (w:World) (hA:Fgs w A n L) (hv:frOk L re lo) (hO:OpIn w o B m d) (hr:zAq n o=Q) (hm:m≤10000) (ht:Tabs w) :
  Calls Tryz.prog 60 #[frV A n c re lo,opV o B m d] w fun e w'=>e=.returned (W (bA (zDO L o)))∧Below w.heap.size w w':=by
 obtain ⟨h1,h8,eX,aP,hpn,hfrn⟩:=zCe hr;have hlen:=hO.path.len;have jr:=zBH hv eX (by rw [hA.len];exact aP);have hnl:=hA.len;have hP:Stps w B m o.path:=hO.path;have sY:=zKm o.kind;have pl:zDO L o=zBk o.kind++[32]++nmF L o.f++zHn L o:=rfl;obtain ⟨kind,f,⟨ff,fl,ffar,fpc⟩,path,over⟩:=o;simp only at h1 h8 eX aP hpn hfrn hlen jr hP sY pl ⊢;obtain ⟨VB,zd⟩:∃T,zBk kind=T:=⟨_,rfl⟩
 obtain ⟨NM,fc⟩:∃T,nmF L f=T:=⟨_,rfl⟩
 obtain ⟨OV,nK⟩:∃T,zBf over=T:=⟨_,rfl⟩
 obtain ⟨G0,tP⟩:∃T,VB++[32]=T:=⟨_,rfl⟩
 obtain ⟨G1,mM⟩:∃T,G0++NM=T:=⟨_,rfl⟩
 have ou:=zFg over;rw [zd] at sY;rw [fc] at jr;rw [nK] at ou;have l0:G0.length≤9:=by rw [←tP];simp;omega
 have l1:G1.length≤52:=by rw [←mM];simp;omega
 have s1:=zAS tP (bA VB) ⟨#[32]⟩ rfl rfl (by omega) (by simp);have s2:=zAS mM _ _ rfl rfl (by omega) (by omega);rw [zd,fc,tP,mM] at pl;have mP:=qH pl;have Gf:=qH zd;have mO:=qH fc;have aZ:=qH nK;have HK:=qH (show 0≤kind∧kind≤8 from ⟨by omega,h8⟩);have oc:=qH h1;have oe:=qH (show 1≤f∧f≤(n:Int) from ⟨eX,aP⟩);have iN:=qH hpn;have mC:=qH hfrn;have aN:=qH hlen;have fI:=qH hnl;have aa:Below w.heap.size w ((w.alloc (.cells #[H A n c,D J re,D J lo] 24)).alloc (.cells #[D J kind,D J f,D J ff,D J fl,G ffar,D J fpc,H B m d,G over] 32)):=((Below.refl _ _).alloc (Nat.le_refl _) _).alloc (by simp) _;have hk0:=(Blk.new w 24 #[H A n c,D J re,D J lo]).alloc (.cells #[D J kind,D J f,D J ff,D J fl,G ffar,D J fpc,H B m d,G over] 32);have ag:Blk ((w.alloc (.cells #[H A n c,D J re,D J lo] 24)).alloc (.cells #[D J kind,D J f,D J ff,D J fl,G ffar,D J fpc,H B m d,G over] 32)) (w.heap.size+1) 32 #[D J kind,D J f,D J ff,D J fl,G ffar,D J fpc,H B m d,G over]:=heap_alloc2_new w _ _;clear pl zd fc nK tP mM sY jr h1 h8 eX aP hpn hfrn hlen hr hnl l0 hO;go_enter Tryz.func60,Tryz.ntmps60;go_wp2_with fail
 have hA0:=hA.below aa;have mK:=hP.below aa;have uG:=ht.below aa;generalize (w.alloc (.cells #[H A n c,D J re,D J lo] 24)).alloc (.cells #[D J kind,D J f,D J ff,D J fl,G ffar,D J fpc,H B m d,G over] 32)=ZR at aa hk0 ag hA0 mK uG ⊢
 have KP:=qH (show ∀wx,Below ZR.heap.size ZR wx→(Below ZR.heap.size ZR wx∧wx.cell? ⟨w.heap.size,0,U⟩=Z (H A n c)∧wx.cell? ⟨w.heap.size,1,U⟩=Z (D J re)∧wx.cell? ⟨w.heap.size,2,U⟩=Z (D J lo)∧wx.cell? ⟨w.heap.size+1,0,U⟩=Z (D J kind)∧wx.cell? ⟨w.heap.size+1,1,U⟩=Z (D J f)∧wx.cell? ⟨w.heap.size+1,2,U⟩=Z (D J ff)∧wx.cell? ⟨w.heap.size+1,3,U⟩=Z (D J fl)∧wx.cell? ⟨w.heap.size+1,4,U⟩=Z (G ffar)∧wx.cell? ⟨w.heap.size+1,5,U⟩=Z (D J fpc)∧wx.cell? ⟨w.heap.size+1,6,U⟩=Z (H B m d)∧wx.cell? ⟨w.heap.size+1,7,U⟩=Z (G over)) from
  fun wx h=>⟨h,((hk0.below h hk0.lt).cell 0).trans rfl,((hk0.below h hk0.lt).cell 1).trans rfl,((hk0.below h hk0.lt).cell 2).trans rfl,((ag.below h ag.lt).cell 0).trans rfl,((ag.below h ag.lt).cell 1).trans rfl,((ag.below h ag.lt).cell 2).trans rfl,((ag.below h ag.lt).cell 3).trans rfl,((ag.below h ag.lt).cell 4).trans rfl,((ag.below h ag.lt).cell 5).trans rfl,((ag.below h ag.lt).cell 6).trans rfl,((ag.below h ag.lt).cell 7).trans rfl⟩)
 first
  | go_region_held3 (fun wx=>Below ZR.heap.size ZR wx∧wx.cell? ⟨w.heap.size,0,U⟩=Z (H A n c)∧wx.cell? ⟨w.heap.size,1,U⟩=Z (D J re)∧wx.cell? ⟨w.heap.size,2,U⟩=Z (D J lo)∧wx.cell? ⟨w.heap.size+1,0,U⟩=Z (D J kind)∧wx.cell? ⟨w.heap.size+1,1,U⟩=Z (D J f)∧wx.cell? ⟨w.heap.size+1,2,U⟩=Z (D J ff)∧wx.cell? ⟨w.heap.size+1,3,U⟩=Z (D J fl)∧wx.cell? ⟨w.heap.size+1,4,U⟩=Z (G ffar)∧wx.cell? ⟨w.heap.size+1,5,U⟩=Z (D J fpc)∧wx.cell? ⟨w.heap.size+1,6,U⟩=Z (H B m d)∧wx.cell? ⟨w.heap.size+1,7,U⟩=Z (G over)) (first | assumption | exact KP.out _ (Below.refl _ _).drew | exact KP.out _ (zAa (And.left (by assumption)) (by assumption) (Below.size (And.left (by assumption)))))
    (first
     | (go_at_call 106;refine (zUd Gf.out HK.out.1 HK.out.2 _).mono ?_;rintro e wa ⟨rfl,rfl⟩)
     | (go_at_call 107;refine (zDs mO.out _ (hA0.below (And.left (by assumption))) hv oe.out.1 oe.out.2).mono ?_;rintro e wc ⟨rfl,hbc⟩))
  | fail
 all_goals
  obtain ⟨hbx,a0,a1,a2,e0,e1,e2,e3,e4,e5,e6,e7⟩:=(show Below ZR.heap.size ZR _∧_ from by assumption);have ab:=zAa aa hbx aa.size;have htx:=uG.below hbx;have eq:=hA0.below hbx;have hPx:=mK.below hbx;have hkx:=ag.below hbx ag.lt;have hfx:=hk0.below hbx hk0.lt;clear hbc;have HT:=qH (show zDO L ⟨kind,f,⟨ff,fl,ffar,fpc⟩,path,over⟩=G1++zHn L ⟨kind,f,⟨ff,fl,ffar,fpc⟩,path,over⟩ from mP.out);clear mP Gf mO s1 s2 KP hA0 mK uG hk0 ag hbx aa
  have KP:=qH (show ∀wx,Below wc.heap.size wc wx→(Below wc.heap.size wc wx∧wx.cell? ⟨w.heap.size,0,U⟩=Z (H A n c)∧wx.cell? ⟨w.heap.size,1,U⟩=Z (D J re)∧wx.cell? ⟨w.heap.size,2,U⟩=Z (D J lo)∧wx.cell? ⟨w.heap.size+1,0,U⟩=Z (D J kind)∧wx.cell? ⟨w.heap.size+1,1,U⟩=Z (D J f)∧wx.cell? ⟨w.heap.size+1,2,U⟩=Z (D J ff)∧wx.cell? ⟨w.heap.size+1,3,U⟩=Z (D J fl)∧wx.cell? ⟨w.heap.size+1,4,U⟩=Z (G ffar)∧wx.cell? ⟨w.heap.size+1,5,U⟩=Z (D J fpc)∧wx.cell? ⟨w.heap.size+1,6,U⟩=Z (H B m d)∧wx.cell? ⟨w.heap.size+1,7,U⟩=Z (G over)) from
   fun wx h=>⟨h,((hfx.below h hfx.lt).cell 0).trans rfl,((hfx.below h hfx.lt).cell 1).trans rfl,((hfx.below h hfx.lt).cell 2).trans rfl,((hkx.below h hkx.lt).cell 0).trans rfl,((hkx.below h hkx.lt).cell 1).trans rfl,((hkx.below h hkx.lt).cell 2).trans rfl,((hkx.below h hkx.lt).cell 3).trans rfl,((hkx.below h hkx.lt).cell 4).trans rfl,((hkx.below h hkx.lt).cell 5).trans rfl,((hkx.below h hkx.lt).cell 6).trans rfl,((hkx.below h hkx.lt).cell 7).trans rfl⟩)
  have hk:(kind=1∨kind=2∨kind=8)∨kind=4∨kind=5∨(kind=6∨kind=7)∨kind=3:=by have:=HK.out;have:=oc.out;omega
  clear HK oc;rcases hk with hk | rfl | rfl | hk | rfl
  ·rcases hk with rfl | rfl | rfl
   all_goals
    have HR:=qH (show bA G1=bA (zDO L _) by rw [HT.out];simp [zHn]);clear HT;go_wp2_with fail
    go_ret;exact ⟨zGD HR.out,ab⟩
  ·obtain ⟨R1,e9⟩:∃T,[32]++OV=T:=⟨_,rfl⟩
   obtain ⟨R2,tK⟩:∃T,G1++R1=T:=⟨_,rfl⟩
   have lR:R1.length≤6:=by rw [←e9];simp;omega
   have t1:=zAS e9 ⟨#[32]⟩ _ rfl rfl (by simp) (by omega);have t2:=zAS tK _ _ rfl rfl (by omega) (by omega);have HR:=qH (show bA R2=bA (zDO L _) by rw [HT.out,←tK,←e9,←aZ.out];simp [zHn]);clear HT e9 tK lR l1 ou;go_wp2_with fail
   refine (zHl aZ.out _).mono ?_;rintro e wd ⟨rfl,rfl⟩;go_wp2_with fail
   go_ret;exact ⟨zGD HR.out,ab⟩
  ·have hnf:=mC.out (by omega);have im:=zCs hv (s:=⟨ff,fl,ffar,fpc⟩) (by rw [fI.out];exact hnf);obtain ⟨PL,dG⟩:∃T,zCq L ⟨ff,fl,ffar,fpc⟩=T:=⟨_,rfl⟩
   obtain ⟨Q1,lz⟩:∃T,[32,102,114,111,109,32]++PL=T:=⟨_,rfl⟩
   obtain ⟨Q2,ly⟩:∃T,Q1++[32]=T:=⟨_,rfl⟩
   obtain ⟨Q3,eC⟩:∃T,Q2++OV=T:=⟨_,rfl⟩
   obtain ⟨Q4,gm⟩:∃T,G1++Q3=T:=⟨_,rfl⟩
   rw [dG] at im;have m1:Q1.length≤116:=by rw [←lz];simp;omega
   have m2:Q2.length≤117:=by rw [←ly];simp;omega
   have m3:Q3.length≤122:=by rw [←eC];simp;omega
   have t1:=zAS lz ⟨#[32,102,114,111,109,32]⟩ _ rfl rfl (by simp) (by omega);have t2:=zAS ly _ ⟨#[32]⟩ rfl rfl (by omega) (by simp);have t3:=zAS eC _ _ rfl rfl (by omega) (by omega);have t4:=zAS gm _ _ rfl rfl (by omega) (by omega);have HR:=qH (show bA Q4=bA (zDO L _) by rw [HT.out,←gm,←eC,←ly,←lz,←dG,←aZ.out];simp [zHn]);have cu:=qH dG;have ez:=qH hnf;clear HT lz ly eC gm m1 m2 m3 l1 ou im dG hnf mC;go_wp2_with fail
   first
    | go_region_held3 (fun wx=>Below wc.heap.size wc wx∧wx.cell? ⟨w.heap.size,0,U⟩=Z (H A n c)∧wx.cell? ⟨w.heap.size,1,U⟩=Z (D J re)∧wx.cell? ⟨w.heap.size,2,U⟩=Z (D J lo)∧wx.cell? ⟨w.heap.size+1,0,U⟩=Z (D J 5)∧wx.cell? ⟨w.heap.size+1,1,U⟩=Z (D J f)∧wx.cell? ⟨w.heap.size+1,2,U⟩=Z (D J ff)∧wx.cell? ⟨w.heap.size+1,3,U⟩=Z (D J fl)∧wx.cell? ⟨w.heap.size+1,4,U⟩=Z (G ffar)∧wx.cell? ⟨w.heap.size+1,5,U⟩=Z (D J fpc)∧wx.cell? ⟨w.heap.size+1,6,U⟩=Z (H B m d)∧wx.cell? ⟨w.heap.size+1,7,U⟩=Z (G over)) (first | assumption | exact KP.out _ (Below.refl _ _).drew | exact KP.out _ (zAa (And.left (by assumption)) (by assumption) (Below.size (And.left (by assumption)))))
      (first
       | (go_at_call 109;refine (zJb cu.out _ (eq.below (And.left (by assumption))) hv ez.out (htx.below (And.left (by assumption)))).mono ?_;rintro e wd ⟨rfl,hbd⟩)
       | (go_at_call 108;refine (zHl aZ.out _).mono ?_;rintro e we ⟨rfl,rfl⟩))
    | fail
   all_goals
    have hbf:=zAa ab (And.left (show Below wc.heap.size wc _∧_ from by assumption)) ab.size;go_wp2_with fail
    go_ret;exact ⟨zGD HR.out,hbf⟩
  ·have hnf:=mC.out (by omega);have oV:=zAC.1 hnf;simp only at oV;have im:=zBH hv (f:=ff) (by omega) (by rw [fI.out];omega);obtain ⟨PL,dG⟩:∃T,nmF L ff=T:=⟨_,rfl⟩
   rw [dG] at im;have cu:=qH dG;have ez:=qH (show 1≤ff∧ff≤(n:Int) from ⟨oV.1,oV.2.1⟩);clear hnf oV mC;rcases hk with rfl | rfl
   ·obtain ⟨Q1,lz⟩:∃T,[32,102,114,111,109,32]++PL=T:=⟨_,rfl⟩
    obtain ⟨Q2,ly⟩:∃T,Q1++[32]=T:=⟨_,rfl⟩
    obtain ⟨Q3,eC⟩:∃T,Q2++OV=T:=⟨_,rfl⟩
    obtain ⟨Q4,gm⟩:∃T,G1++Q3=T:=⟨_,rfl⟩
    have m1:Q1.length≤116:=by rw [←lz];simp;omega
    have m2:Q2.length≤117:=by rw [←ly];simp;omega
    have m3:Q3.length≤122:=by rw [←eC];simp;omega
    have t1:=zAS lz ⟨#[32,102,114,111,109,32]⟩ _ rfl rfl (by simp) (by omega);have t2:=zAS ly _ ⟨#[32]⟩ rfl rfl (by omega) (by simp);have t3:=zAS eC _ _ rfl rfl (by omega) (by omega);have t4:=zAS gm _ _ rfl rfl (by omega) (by omega);have HR:=qH (show bA Q4=bA (zDO L _) by rw [HT.out,←gm,←eC,←ly,←lz,←dG,←aZ.out];simp [zHn]);clear HT lz ly eC gm m1 m2 m3 l1 ou im dG;go_wp2_with fail
    first
     | go_region_held3 (fun wx=>Below wc.heap.size wc wx∧wx.cell? ⟨w.heap.size,0,U⟩=Z (H A n c)∧wx.cell? ⟨w.heap.size,1,U⟩=Z (D J re)∧wx.cell? ⟨w.heap.size,2,U⟩=Z (D J lo)∧wx.cell? ⟨w.heap.size+1,0,U⟩=Z (D J 6)∧wx.cell? ⟨w.heap.size+1,1,U⟩=Z (D J f)∧wx.cell? ⟨w.heap.size+1,2,U⟩=Z (D J ff)∧wx.cell? ⟨w.heap.size+1,3,U⟩=Z (D J fl)∧wx.cell? ⟨w.heap.size+1,4,U⟩=Z (G ffar)∧wx.cell? ⟨w.heap.size+1,5,U⟩=Z (D J fpc)∧wx.cell? ⟨w.heap.size+1,6,U⟩=Z (H B m d)∧wx.cell? ⟨w.heap.size+1,7,U⟩=Z (G over)) (first | assumption | exact KP.out _ (Below.refl _ _).drew | exact KP.out _ (zAa (And.left (by assumption)) (by assumption) (Below.size (And.left (by assumption)))))
       (first
        | (go_at_call 107;refine (zDs cu.out _ (eq.below (And.left (by assumption))) hv ez.out.1 ez.out.2).mono ?_;rintro e wd ⟨rfl,hbd⟩)
        | (go_at_call 108;refine (zHl aZ.out _).mono ?_;rintro e we ⟨rfl,rfl⟩))
     | fail
    all_goals
     have hbf:=zAa ab (And.left (show Below wc.heap.size wc _∧_ from by assumption)) ab.size;go_wp2_with fail
     go_ret;exact ⟨zGD HR.out,hbf⟩
   ·obtain ⟨Q1,lz⟩:∃T,[32,119,105,116,104,32]++PL=T:=⟨_,rfl⟩
    obtain ⟨Q2,ly⟩:∃T,Q1++[32]=T:=⟨_,rfl⟩
    obtain ⟨Q3,eC⟩:∃T,Q2++OV=T:=⟨_,rfl⟩
    obtain ⟨Q4,gm⟩:∃T,G1++Q3=T:=⟨_,rfl⟩
    have m1:Q1.length≤116:=by rw [←lz];simp;omega
    have m2:Q2.length≤117:=by rw [←ly];simp;omega
    have m3:Q3.length≤122:=by rw [←eC];simp;omega
    have t1:=zAS lz ⟨#[32,119,105,116,104,32]⟩ _ rfl rfl (by simp) (by omega);have t2:=zAS ly _ ⟨#[32]⟩ rfl rfl (by omega) (by simp);have t3:=zAS eC _ _ rfl rfl (by omega) (by omega);have t4:=zAS gm _ _ rfl rfl (by omega) (by omega);have HR:=qH (show bA Q4=bA (zDO L _) by rw [HT.out,←gm,←eC,←ly,←lz,←dG,←aZ.out];simp [zHn]);clear HT lz ly eC gm m1 m2 m3 l1 ou im dG;go_wp2_with fail
    first
     | go_region_held3 (fun wx=>Below wc.heap.size wc wx∧wx.cell? ⟨w.heap.size,0,U⟩=Z (H A n c)∧wx.cell? ⟨w.heap.size,1,U⟩=Z (D J re)∧wx.cell? ⟨w.heap.size,2,U⟩=Z (D J lo)∧wx.cell? ⟨w.heap.size+1,0,U⟩=Z (D J 7)∧wx.cell? ⟨w.heap.size+1,1,U⟩=Z (D J f)∧wx.cell? ⟨w.heap.size+1,2,U⟩=Z (D J ff)∧wx.cell? ⟨w.heap.size+1,3,U⟩=Z (D J fl)∧wx.cell? ⟨w.heap.size+1,4,U⟩=Z (G ffar)∧wx.cell? ⟨w.heap.size+1,5,U⟩=Z (D J fpc)∧wx.cell? ⟨w.heap.size+1,6,U⟩=Z (H B m d)∧wx.cell? ⟨w.heap.size+1,7,U⟩=Z (G over)) (first | assumption | exact KP.out _ (Below.refl _ _).drew | exact KP.out _ (zAa (And.left (by assumption)) (by assumption) (Below.size (And.left (by assumption)))))
       (first
        | (go_at_call 107;refine (zDs cu.out _ (eq.below (And.left (by assumption))) hv ez.out.1 ez.out.2).mono ?_;rintro e wd ⟨rfl,hbd⟩)
        | (go_at_call 108;refine (zHl aZ.out _).mono ?_;rintro e we ⟨rfl,rfl⟩))
     | fail
    all_goals
     have hbf:=zAa ab (And.left (show Below wc.heap.size wc _∧_ from by assumption)) ab.size;go_wp2_with fail
     go_ret;exact ⟨zGD HR.out,hbf⟩
  ·have hnf:=mC.out (by omega);have im:=zCs hv (s:=⟨ff,fl,ffar,fpc⟩) (by rw [fI.out];exact hnf);obtain ⟨PL,dG⟩:∃T,zCq L ⟨ff,fl,ffar,fpc⟩=T:=⟨_,rfl⟩
   obtain ⟨Z1,yX⟩:∃T,[32,102,114,111,109,32]++PL=T:=⟨_,rfl⟩
   rw [dG] at im;have mZ:Z1.length≤116:=by rw [←yX];simp;omega
   have t1:=zAS yX ⟨#[32,102,114,111,109,32]⟩ _ rfl rfl (by simp) (by omega);have cu:=qH dG;have HZ1:=qH yX;have ez:=qH hnf;have hstart:Hid (G1=G1++zHm L (path.take 0)):=qH (by simp [zHm]);clear dG yX im hnf mC KP;go_wp2_with fail
   clear a0 a1 a2 e0 e1 e2 e3 e4 e5 e6 e7;go_loopw [5,32] (fun v5 v32 wr=>∃(i:Nat) (T:List UInt8),i≤m∧v32=D J i∧v5=W (bA T)∧Below wc.heap.size wc wr∧Hid (T=G1++zHm L (path.take i))∧T.length≤52+i*120) (fun _ v32 _=>m-(intOf v32).toNat)
   case atStart=>exact ⟨0,G1,Nat.zero_le _,rfl,rfl,Below.refl _ _,hstart,by omega⟩
   case round =>
    obtain ⟨i,T,hi,rfl,rfl,hbr,eF,pd⟩:=hrel;have hfr:=hfx.below hbr hfx.lt;have hor:=hkx.below hbr hkx.lt;have dM:=eq.below hbr;have htr:=htx.below hbr;have hbw:=zAa ab hbr ab.size;by_cases hlt:i < m
    ·obtain ⟨g,p,rfl,hg,⟨x0,x1,x2,x3,x4⟩,_⟩:=(hPx.below hbr).at_ hlt;have j0:(0:Int)≤(i:Int):=by omega
     have j1:(i:Int) < (m:Int):=by omega
     have hil:i < path.length:=by rw [aN.out];exact hlt
     have hsn:=zND L hil;have hnm:=iN.out _ (List.mem_of_getElem? (zEA hil));generalize pa path i=x at x0 x1 x2 x3 x4 hsn hnm;obtain ⟨⟨xf,xl,xfar,xpc⟩,xo⟩:=x;simp only at x0 x1 x2 x3 x4 hnm;have oX:=zCs hv (s:=⟨xf,xl,xfar,xpc⟩) (by rw [fI.out];exact hnm);have wu:=zFg xo;have hst:zPb L ⟨⟨xf,xl,xfar,xpc⟩,xo⟩=[32]++zBf xo++[32]++zCq L ⟨xf,xl,xfar,xpc⟩++[44]:=rfl;obtain ⟨PX,ph⟩:∃T,zCq L ⟨xf,xl,xfar,xpc⟩=T:=⟨_,rfl⟩
     obtain ⟨OX,pi⟩:∃T,zBf xo=T:=⟨_,rfl⟩
     obtain ⟨Y1,o9⟩:∃T,[32]++OX=T:=⟨_,rfl⟩
     obtain ⟨Y2,y8⟩:∃T,Y1++[32]=T:=⟨_,rfl⟩
     obtain ⟨Y3,yZ⟩:∃T,Y2++PX=T:=⟨_,rfl⟩
     obtain ⟨Y4,yY⟩:∃T,Y3++[44]=T:=⟨_,rfl⟩
     obtain ⟨Y5,o8⟩:∃ZV,T++Y4=ZV:=⟨_,rfl⟩
     rw [ph] at oX;rw [pi] at wu;have y1:Y1.length≤6:=by rw [←o9];simp;omega
     have y2:Y2.length≤7:=by rw [←y8];simp;omega
     have y3:Y3.length≤117:=by rw [←yZ];simp;omega
     have y4:Y4.length≤118:=by rw [←yY];simp;omega
     have y5:Y5.length≤52+(i+1)*120:=by rw [←o8];simp;omega
     have r1:=zAS o9 ⟨#[32]⟩ _ rfl rfl (by simp) (by omega);have r2:=zAS y8 _ ⟨#[32]⟩ rfl rfl (by omega) (by simp);have r3:=zAS yZ _ _ rfl rfl (by omega) (by omega);have r4:=zAS yY _ ⟨#[44]⟩ rfl rfl (by omega) (by simp);have r5:=zAS o8 _ _ rfl rfl (by omega) (by omega);have uk:=qH (show Y5=G1++zHm L (path.take (i+1)) by rw [hsn,hst,ph,pi,←o8,eF.out,←yY,←yZ,←y8,←o9];simp);have Da:=qH ph;have Dd:=qH pi;have iy:=qH hnm;have aj:Below wc.heap.size wc (wr.alloc (.cells #[D J xf,D J xl,G xfar,D J xpc,G xo] 86)):=hbr.alloc hbr.size _;have dx:=hfr.alloc (.cells #[D J xf,D J xl,G xfar,D J xpc,G xo] 86);have de:Blk (wr.alloc (.cells #[D J xf,D J xl,G xfar,D J xpc,G xo] 86)) wr.heap.size 86 #[D J xf,D J xl,G xfar,D J xpc,G xo]:=Blk.new _ _ _;have nN:=dM.alloc (.cells #[D J xf,D J xl,G xfar,D J xpc,G xo] 86);have ED:=htr.below ((Below.refl wr.heap.size wr).alloc (Nat.le_refl _) (.cells #[D J xf,D J xl,G xfar,D J xpc,G xo] 86));clear hsn hst ph pi o9 y8 yZ yY o8 y1 y2 y3 y4 oX wu hil eF hnm;go_wp2_with fail
     clear x0 x1 x2 x3 x4 hg hbr hfr hor dM htr hbw;generalize wr.alloc (.cells #[D J xf,D J xl,G xfar,D J xpc,G xo] 86)=Y at aj dx de nN ED ⊢
     have KP:=qH (show ∀wx,Below Y.heap.size Y wx→(Below Y.heap.size Y wx∧wx.cell? ⟨w.heap.size,0,U⟩=Z (H A n c)∧wx.cell? ⟨w.heap.size,1,U⟩=Z (D J re)∧wx.cell? ⟨w.heap.size,2,U⟩=Z (D J lo)∧wx.cell? ⟨wr.heap.size,0,U⟩=Z (D J xf)∧wx.cell? ⟨wr.heap.size,1,U⟩=Z (D J xl)∧wx.cell? ⟨wr.heap.size,2,U⟩=Z (G xfar)∧wx.cell? ⟨wr.heap.size,3,U⟩=Z (D J xpc)∧wx.cell? ⟨wr.heap.size,4,U⟩=Z (G xo)) from
      fun wx h=>⟨h,((dx.below h dx.lt).cell 0).trans rfl,((dx.below h dx.lt).cell 1).trans rfl,((dx.below h dx.lt).cell 2).trans rfl,((de.below h de.lt).cell 0).trans rfl,((de.below h de.lt).cell 1).trans rfl,((de.below h de.lt).cell 2).trans rfl,((de.below h de.lt).cell 3).trans rfl,((de.below h de.lt).cell 4).trans rfl⟩)
     first
      | go_region_held3 (fun wx=>Below Y.heap.size Y wx∧wx.cell? ⟨w.heap.size,0,U⟩=Z (H A n c)∧wx.cell? ⟨w.heap.size,1,U⟩=Z (D J re)∧wx.cell? ⟨w.heap.size,2,U⟩=Z (D J lo)∧wx.cell? ⟨wr.heap.size,0,U⟩=Z (D J xf)∧wx.cell? ⟨wr.heap.size,1,U⟩=Z (D J xl)∧wx.cell? ⟨wr.heap.size,2,U⟩=Z (G xfar)∧wx.cell? ⟨wr.heap.size,3,U⟩=Z (D J xpc)∧wx.cell? ⟨wr.heap.size,4,U⟩=Z (G xo)) (first | assumption | exact KP.out _ (Below.refl _ _).drew | exact KP.out _ (zAa (And.left (by assumption)) (by assumption) (Below.size (And.left (by assumption)))))
        (first
         | (go_at_call 109;refine (zJb Da.out _ (nN.below (And.left (by assumption))) hv iy.out (ED.below (And.left (by assumption)))).mono ?_;rintro e wd ⟨rfl,hbd⟩)
         | (go_at_call 108;refine (zHl Dd.out _).mono ?_;rintro e we ⟨rfl,rfl⟩))
      | fail
     all_goals
      have hbf:=zAa aj (And.left (show Below Y.heap.size Y _∧_ from by assumption)) aj.size;go_wp2_with fail
      go_roundw
      case rel=>exact ⟨i+1,Y5,by omega,by go_num,rfl,hbf,uk,y5⟩
      case measure=>simp [intOf];omega
    ·have hin:i=m:=by omega
     obtain ⟨Z2,tG⟩:∃ZV,T++Z1=ZV:=⟨_,rfl⟩
     have j1:¬(i:Int) < (m:Int):=by omega
     have t2:=zAS tG _ _ rfl rfl (by omega) (by omega)
     have HR:=qH (show bA Z2=bA (zDO L _) by
      rw [HT.out,←tG,←HZ1.out,←cu.out,eF.out,hin,←aN.out,List.take_length];simp [zHn])
     obtain ⟨b0,b1,b2⟩:=cQ3 hfr;obtain ⟨-,-,d2,d3,d4,d5⟩:=cQ6 hor;clear hin tG eF HT;go_wp2_with fail
     refine (zJb cu.out _ dM hv ez.out htr).mono ?_;rintro e wd ⟨rfl,hbd⟩;have hbf:=zAa hbw hbd hbw.size;clear b0 b1 b2 d2 d3 d4 d5;go_wp2_with fail
     go_ret;exact ⟨zGD HR.out,hbf⟩
def zBi (L:List Fg) (re lo:Int) (O:List Og):Int:=if frB L re lo&&O.all (zAq L.length) then 0 else 2
theorem zNE {L:List Fg} {re lo:Int} {O:List Og} (h:frB L re lo=E):zBi L re lo O=2:=by unfold zBi;rw [h];rfl
theorem zKo {L:List Fg} {re lo:Int} {Es:List Oe} {i:Nat} (hi:i < Es.length) (h:zAq L.length (oa Es i).o=E):zBi L re lo (Es.map (·.o))=2:=by
 have:(Es.map (·.o)).all (zAq L.length)=E:=by
  cases e:(Es.map (·.o)).all (zAq L.length) with
  | false=>rfl
  | true =>
   rw [List.all_eq_true] at e;have:=e _ (List.mem_map_of_mem (List.mem_of_getElem? (zCZ hi)));rw [h] at this;cases this
 unfold zBi;rw [this];simp
theorem zPc {L:List Fg} {re lo:Int} {Es:List Oe} (h:frB L re lo=Q) (ho:∀i,i < Es.length→zAq L.length (oa Es i).o=Q):zBi L re lo (Es.map (·.o))=0:=by
 have:(Es.map (·.o)).all (zAq L.length)=Q:=by
  rw [List.all_eq_true];intro x hx;obtain ⟨e,he,rfl⟩:=List.mem_map.1 hx;obtain ⟨i,hi⟩:=List.getElem?_of_mem he;have hlt:=(List.getElem?_eq_some_iff.1 hi).1;have h2:=ho i hlt;have h3:=zCZ hlt;rw [hi] at h3;injection h3 with h3
  rw [h3];exact h2
 unfold zBi;rw [this,h];rfl
theorem zFh {L:List Fg} {re lo:Int} {b:Bool} (h:frB L re lo=b) (A:Option Addr) (n c:Nat) (w:World) (hA:Fgs w A n L) (hc:n≤c) :
  Calls Tryz.prog 88 #[frV A n c re lo] w fun e w'=>e=.returned (G b)∧Below w.heap.size w w':=by
 subst h;exact zNz A n c L re lo w hA hc
theorem zRF {k:Nat} {o:Og} {b:Bool} (h:zAq k o=b) (A:Option Addr) (c:Nat) (re lo:Int) (B:Option Addr) (m d:Nat) (w:World) (hO:OpIn w o B m d) :
  Calls Tryz.prog 104 #[frV A k c re lo,opV o B m d] w fun e w'=>e=.returned (G (!b))∧Below w.heap.size w w':=by
 subst h;exact zLz A k c re lo o B m d w hO
set_option maxHeartbeats 3200000 in
theorem zEI (A:Option Addr) (n c:Nat) (L:List Fg) (re lo:Int) (B:Option Addr) (m d:Nat) (Es:List Oe) (w:World) (hA:Fgs w A n L) (hc:n≤c) (hO:Oprs w B m Es) :
  Calls Tryz.prog 58 #[frV A n c re lo,H B m d] w fun e w'=>e=.returned (D J (zBi L re lo (Es.map (·.o))))∧Below w.heap.size w w':=by
 have hle:=hO.le;have aN:=qH hO.len;have fI:=qH hA.len;have aa:Below w.heap.size w (w.alloc (.cells #[H A n c,D J re,D J lo] 24)):=(Below.refl _ _).alloc (Nat.le_refl _) _;have hk0:Blk (w.alloc (.cells #[H A n c,D J re,D J lo] 24)) w.heap.size 24 #[H A n c,D J re,D J lo]:=Blk.new _ _ _;obtain ⟨b,hb⟩:∃b,frB L re lo=b:=⟨_,rfl⟩
 have HV:=qH (zFh hb A n c _ (hA.below aa) hc);have HB:=qH hb;clear hb
 cases b with
 | false =>
  have hr:=qH (zNE (O:=Es.map (·.o)) HB.out);go_enter Tryz.func58,Tryz.ntmps58;go_wp2_with fail
  refine HV.out.mono ?_;rintro e w2 ⟨rfl,ab⟩;have ac:=zAa aa ab aa.size;go_wp2_with fail
  go_ret;exact ⟨zGC hr.out.symm,ac⟩
 | true =>
  go_enter Tryz.func58,Tryz.ntmps58;go_wp2_with fail
  refine HV.out.mono ?_;rintro e w2 ⟨rfl,ab⟩;have ac:=zAa aa ab aa.size;have hk2:=hk0.below ab hk0.lt;go_wp2_with fail
  go_loopw [12] (fun v wr=>∃i:Nat,i≤m∧v=D J i∧Below w2.heap.size w2 wr∧Hid (∀j:Nat,j < i→zAq L.length (oa Es j).o=Q)) (fun v _=>m-(intOf v).toNat)
  case atStart=>exact ⟨0,Nat.zero_le _,rfl,Below.refl _ _,qH (fun j hj=>by omega)⟩
  case round =>
   obtain ⟨i,hi,rfl,hbr,HS⟩:=hrel;have hkr:=hk2.below hbr hk2.lt;have hbw:=zAa ac hbr ac.size;by_cases hlt:i < m
   ·obtain ⟨g,p,rfl,hg,⟨x0,x1,x2,x3,x4,x5,x6,x7⟩,hin⟩:=(hO.below hbw).at_ hlt;have j0:(0:Int)≤(i:Int):=by omega
    have j1:(i:Int) < (m:Int):=by omega
    obtain ⟨b,hb⟩:∃b,zAq n (oa Es i).o=b:=⟨_,rfl⟩
    have mG:=qH hb;clear hb;have jU:=qH mG.out;generalize oa Es i=x at x0 x1 x2 x3 x4 x5 x6 x7 hin mG;obtain ⟨⟨kind,f,⟨ff,fl,ffar,fpc⟩,path,over⟩,PA,pn,pc⟩:=x;simp only at x0 x1 x2 x3 x4 x5 x6 x7 hin;have aj:Below w2.heap.size w2 (wr.alloc (.cells #[D J kind,D J f,D J ff,D J fl,G ffar,D J fpc,H PA pn pc,G over] 32)):=hbr.alloc hbr.size _;have fq:=hkr.alloc (.cells #[D J kind,D J f,D J ff,D J fl,G ffar,D J fpc,H PA pn pc,G over] 32);have wC:=hin.below ((Below.refl wr.heap.size wr).alloc (Nat.le_refl _) (.cells #[D J kind,D J f,D J ff,D J fl,G ffar,D J fpc,H PA pn pc,G over] 32));have y0:=(fq.cell 0).trans rfl;have y1:=(fq.cell 1).trans rfl;have y2:=(fq.cell 2).trans rfl;have HW:=qH (zRF mG.out A c re lo PA pn pc _ wC);clear hin wC mG
    cases b with
    | true =>
     have et:=qH (show ∀j:Nat,j < i+1→zAq L.length (oa Es j).o=Q from fun j hj=>by
      rcases Nat.decEq j i with e | e
      ·exact HS.out j (by omega)
      ·subst e;rw [fI.out];exact jU.out)
     clear HS jU;go_wp2_with fail
     refine HW.out.mono ?_;rintro e w5 ⟨rfl,ai⟩;have ao:=zAa aj ai aj.size;clear y0 y1 y2 x0 x1 x2 x3 x4 x5 x6 x7;go_wp2_with fail
     go_roundw
     case rel=>exact ⟨i+1,by omega,by go_num,ao,et⟩
     case measure=>simp [intOf];omega
    | false =>
     have hr:=qH (zKo (L:=L) (re:=re) (lo:=lo) (Es:=Es) (i:=i) (by rw [aN.out];exact hlt) (by rw [fI.out];exact jU.out));clear HS jU;go_wp2_with fail
     refine HW.out.mono ?_;rintro e w5 ⟨rfl,ai⟩;have ao:=zAa aj ai aj.size;clear y0 y1 y2 x0 x1 x2 x3 x4 x5 x6 x7;go_wp2_with fail
     go_ret;exact ⟨zGC hr.out.symm,zAa ac ao ac.size⟩
   ·have j1:¬(i:Int) < (m:Int):=by omega
    have hr:=qH (zPc (L:=L) (re:=re) (lo:=lo) (Es:=Es) HB.out (fun j hj=>HS.out j (by rw [aN.out] at hj;omega)));clear HS;go_wp2_with fail
    go_ret;exact ⟨zGC hr.out.symm,hbw⟩
theorem zDP (L:List Fg) (re lo:Int) (O:List Og):(zBi L re lo O=0∧frOk L re lo∧∀o∈O,zAq L.length o=Q)∨zBi L re lo O=2:=by
 unfold zBi
 cases h1:frB L re lo with
 | false=>exact .inr rfl
 | true =>
  cases h2:O.all (zAq L.length) with
  | false=>exact .inr rfl
  | true=>exact .inl ⟨rfl,zCT.1 h1,by simpa using h2⟩
theorem Oprs.one (w:World) (o:Og) (A:Option Addr) (n c:Nat) (t:TypeId) (h:OpIn w o A n c) :
  Oprs (w.alloc (.cells #[D J o.kind,D J o.f,D J o.fr.f,D J o.fr.l,G o.fr.far,D J o.fr.pc,H A n c,G o.over] t)) (Z ⟨w.heap.size,0,U⟩) 1 [⟨o,A,n,c⟩]:=by
 refine ⟨⟨rfl,by omega,fun _=>⟨_,_,rfl,by simp,fun j x hx q v hv=>?_⟩⟩,fun e he=>?_⟩
 ·rcases j with _ | j
  ·simp only [List.getElem?_cons_zero,Option.some.injEq] at hx;subst hx;rw [Nat.zero_mul,Nat.add_zero,Nat.zero_add,World.cell?_alloc_at _ _ _ _ rfl,←Array.getElem?_toList];exact hv
  ·simp at hx
 ·obtain rfl:e=⟨o,A,n,c⟩:=by simpa using he
  exact h.below ((Below.refl _ _).alloc (Nat.le_refl _) _)
set_option maxHeartbeats 3200000 in
set_option maxRecDepth 100000 in
theorem zLB (A:Option Addr) (n c:Nat) (L:List Fg) (re lo:Int) (o:Og) (B:Option Addr) (m d:Nat) (w:World) (hA:Fgs w A n L) (hc:n≤c) (hO:OpIn w o B m d) (hm:m≤10000) (ht:Tabs w) :
  Calls Tryz.prog 41 #[frV A n c re lo,opV o B m d] w fun e w'=>e=.returned (.tuple #[W (bA (if zBi L re lo [o]=0 then zDO L o else [])),D J (zBi L re lo [o])])∧Below w.heap.size w w':=by
 have aa:Below w.heap.size w ((w.alloc (.cells #[H A n c,D J re,D J lo] 24)).alloc (.cells #[D J o.kind,D J o.f,D J o.fr.f,D J o.fr.l,G o.fr.far,D J o.fr.pc,H B m d,G o.over] 32)):=((Below.refl _ _).alloc (Nat.le_refl _) _).alloc (by simp) _;have ah:Below w.heap.size w (((w.alloc (.cells #[H A n c,D J re,D J lo] 24)).alloc (.cells #[D J o.kind,D J o.f,D J o.fr.f,D J o.fr.l,G o.fr.far,D J o.fr.pc,H B m d,G o.over] 32)).alloc (.cells #[D J o.kind,D J o.f,D J o.fr.f,D J o.fr.l,G o.fr.far,D J o.fr.pc,H B m d,G o.over] 32)):=aa.alloc aa.size _;have hk0:=((Blk.new w 24 #[H A n c,D J re,D J lo]).alloc (.cells #[D J o.kind,D J o.f,D J o.fr.f,D J o.fr.l,G o.fr.far,D J o.fr.pc,H B m d,G o.over] 32)).alloc (.cells #[D J o.kind,D J o.f,D J o.fr.f,D J o.fr.l,G o.fr.far,D J o.fr.pc,H B m d,G o.over] 32);have wA:Blk ((w.alloc (.cells #[H A n c,D J re,D J lo] 24)).alloc (.cells #[D J o.kind,D J o.f,D J o.fr.f,D J o.fr.l,G o.fr.far,D J o.fr.pc,H B m d,G o.over] 32)) (w.heap.size+1) 32 #[D J o.kind,D J o.f,D J o.fr.f,D J o.fr.l,G o.fr.far,D J o.fr.pc,H B m d,G o.over]:=heap_alloc2_new w _ _;have ag:=wA.alloc (.cells #[D J o.kind,D J o.f,D J o.fr.f,D J o.fr.l,G o.fr.far,D J o.fr.pc,H B m d,G o.over] 32);have hone:=Oprs.one _ o B m d 32 (hO.below aa);simp only [World.size_alloc] at hone;have hC:=zEI A n c L re lo _ 1 1 [⟨o,B,m,d⟩] _ (hA.below ah) hc hone;rw [show List.map (fun e:Oe=>e.o) [(⟨o,B,m,d⟩:Oe)]=[o] from rfl] at hC;have hcase:=zDP L re lo [o];obtain ⟨ZT,hE⟩:∃ZT,zBi L re lo [o]=ZT:=⟨_,rfl⟩
 rw [hE] at hcase hC ⊢;have HC:=qH hC;have hn:=hA.len;have HN:=qH hn;obtain ⟨kind,f,⟨ff,fl,ffar,fpc⟩,path,over⟩:=o;simp only at aa ah hk0 ag hone HC ⊢;clear hE wA hone hn hC;rcases hcase with ⟨rfl,hfr,hro⟩ | rfl
 ·have hri:zAq n ⟨kind,f,⟨ff,fl,ffar,fpc⟩,path,over⟩=Q:=by have:=hro _ (List.mem_singleton.2 rfl);rw [HN.out] at this;exact this
  have bj:=qH (fun wx eq hOx htx=>zIz A n c L re lo ⟨kind,f,⟨ff,fl,ffar,fpc⟩,path,over⟩ B m d wx eq hfr hOx hri hm htx);clear hro hri;go_enter Tryz.func41,Tryz.ntmps41;go_wp2_with fail
  refine HC.out.mono ?_;rintro e w2 ⟨rfl,ab⟩;have ac:=zAa ah ab ah.size;have hk2:=hk0.below ab hk0.lt;have oz:=ag.below ab ag.lt;have a0:=(hk2.cell 0).trans rfl;have a1:=(hk2.cell 1).trans rfl;have a2:=(hk2.cell 2).trans rfl;have e0:=(oz.cell 0).trans rfl;have e1:=(oz.cell 1).trans rfl;have e2:=(oz.cell 2).trans rfl;have e3:=(oz.cell 3).trans rfl;have e4:=(oz.cell 4).trans rfl;have e5:=(oz.cell 5).trans rfl;have e6:=(oz.cell 6).trans rfl;have e7:=(oz.cell 7).trans rfl;go_wp2_with fail
  refine (bj.out _ (hA.below ac) (hO.below ac) (ht.below ac)).mono ?_;rintro e w5 ⟨rfl,ai⟩;have ao:=zAa ac ai ac.size;clear a0 a1 a2 e0 e1 e2 e3 e4 e5 e6 e7;go_wp2_with fail
  go_ret2;exact ⟨by simp,ao⟩
 ·go_enter Tryz.func41,Tryz.ntmps41;go_wp2_with fail
  refine HC.out.mono ?_;rintro e w2 ⟨rfl,ab⟩;have ac:=zAa ah ab ah.size;go_wp2_with fail
  go_ret2;exact ⟨rfl,ac⟩
end Go.Proofs.YtlmdfmnbcndhoaaGreatDoor
