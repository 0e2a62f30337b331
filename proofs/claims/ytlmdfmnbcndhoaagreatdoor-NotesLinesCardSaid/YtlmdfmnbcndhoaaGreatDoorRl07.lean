/-
  Lemmas, part 7. Conditions: each theorem's own.
-/
import Derived.Test.YtlmdfmnbcndhoaaGreatDoorRl06
import Derived.Great.BuildSlice
namespace Go.Proofs.YtlmdfmnbcndhoaaGreatDoor
open Go.RowKit
def zLh (L:List Fg) (x:Sp):List UInt8:=[32]++zAw x.over++[32]++zAJ L x.s++[44]
def zDr (L:List Fg) (P:List Sp):List UInt8:=P.flatMap (zLh L)
def zCw (L:List Fg) (o:Og):List UInt8 :=
 if o.kind=4 then [32]++zAw o.over
 else if o.kind=3 then zDr L o.path++([32,102,114,111,109,32]++zAJ L o.fr)
 else if o.kind=5 then [32,102,114,111,109,32]++zAJ L o.fr++[32]++zAw o.over
 else if o.kind=6 then [32,102,114,111,109,32]++nmF L o.fr.f++[32]++zAw o.over
 else if o.kind=7 then [32,119,105,116,104,32]++nmF L o.fr.f++[32]++zAw o.over
 else []
def zBb (L:List Fg) (o:Og):List UInt8:=zAs o.kind++[32]++nmF L o.f++zCw L o
theorem zCe {L:List Fg} {re lo:Int} (hv:frOk L re lo) {s:Sg} (hs:zAm L.length s=true):(zAJ L s).length≤110:=by
 obtain ⟨h1,h2,h3,h4,h5,h6⟩:=zAj.1 hs;have a:=zBr hv h1 h2;have b:=zGN s.far;have i:=zAM (x:=s.l) ⟨by omega,by omega⟩;have j:=zAM (x:=s.pc) ⟨by omega,by omega⟩;unfold zAJ;split<;>split<;>simp<;>omega
theorem zJV {L:List Fg} {re lo:Int} (hv:frOk L re lo):∀{P:List Sp},(∀x∈P,zAm L.length x.s=true)→(zDr L P).length≤P.length*120
 | [],_=>by simp [zDr]
 | x :: P,h=>by
  have ih:=zJV hv (P:=P) fun y hy=>h y (List.mem_cons_of_mem _ hy)
  have a:=zCe hv (h x (List.mem_cons_self ..));have b:=zEA x.over;have hst:(zLh L x).length≤120:=by
   unfold zLh;simp only [List.length_append,List.length_cons,List.length_nil];omega
  unfold zDr at ih ⊢;rw [List.flatMap_cons,List.length_append,List.length_cons,Nat.add_mul];omega
theorem zIa (L:List Fg) {P:List Sp} {i:Nat} (h:i < P.length):zDr L (P.take (i+1))=zDr L (P.take i)++zLh L (pa P i):=by
 unfold zDr;rw [List.take_add_one,zCG h];simp
theorem zTF {k:Int} {S:List UInt8} (h:zAs k=S) (h0:0≤k) (h8:k≤8) (w:World):Calls Tryz.prog 106 #[.int .i64 k] w fun e w'=>e=.returned (.string (bA S))∧w'=w:=by
 subst h;exact zBL k h0 h8 w
theorem zIB {A:Option Addr} {n c:Nat} {L:List Fg} {re lo:Int} {s:Sg} {S:List UInt8} (h:zAJ L s=S) (w:World) (hA:Fgs w A n L) (hv:frOk L re lo) (hs:zAm n s=true) (ht:Tabs w) :
  Calls Tryz.prog 109 #[frV A n c re lo,sgV s] w fun e w'=>e=.returned (.string (bA S))∧Below w.heap.size w w':=by
 subst h;exact zLg A n c L re lo s w hA hv hs ht
theorem zBc {k:Nat} {o:Og} (h:zAg k o=true):1≤o.kind∧o.kind≤8∧1≤o.f∧o.f≤(k:Int)∧(∀x∈o.path,zAm k x.s=true)∧((o.kind=3∨o.kind=5∨o.kind=6∨o.kind=7)→zAm k o.fr=true):=by
 unfold zAg at h;simp only [Bool.and_eq_true,decide_eq_true_eq,List.all_eq_true] at h;obtain ⟨⟨⟨⟨h1,h2⟩,_⟩,h4⟩,h5⟩:=h;unfold zBi at h5;refine ⟨?_,?_,h1,h2,h4,?_⟩
 ·by_cases e:1≤o.kind∧o.kind≤8
  ·exact e.1
  ·rw [if_neg (by omega),if_neg (by omega),if_neg (by omega),if_neg (by omega),if_neg (by omega)] at h5;cases h5
 ·by_cases e:1≤o.kind∧o.kind≤8
  ·exact e.2
  ·rw [if_neg (by omega),if_neg (by omega),if_neg (by omega),if_neg (by omega),if_neg (by omega)] at h5;cases h5
 ·rintro (e | e | e | e)
  ·rw [if_neg (by omega),if_neg (by omega),if_pos e] at h5;simp only [Bool.and_eq_true] at h5;exact h5.2
  ·rw [if_neg (by omega),if_neg (by omega),if_neg (by omega),if_pos e] at h5;exact h5
  ·rw [if_neg (by omega),if_neg (by omega),if_neg (by omega),if_neg (by omega),if_pos (.inl e)] at h5;simp only [Bool.and_eq_true] at h5;exact h5.1
  ·rw [if_neg (by omega),if_neg (by omega),if_neg (by omega),if_neg (by omega),if_pos (.inr e)] at h5;simp only [Bool.and_eq_true] at h5;exact h5.1
set_option maxHeartbeats 12800000 in
set_option maxRecDepth 100000 in
theorem zIb (A:Option Addr) (n c:Nat) (L:List Fg) (re lo:Int) (o:Og) (B:Option Addr) (m d:Nat) (w:World) (hA:Fgs w A n L) (hv:frOk L re lo) (hO:OpIn w o B m d) (hr:zAg n o=true) (hm:m≤10000) (ht:Tabs w) :
  Calls Tryz.prog 60 #[frV A n c re lo,opV o B m d] w fun e w'=>e=.returned (.string (bA (zBb L o)))∧Below w.heap.size w w':=by
 obtain ⟨h1,h8,eH,bt,hpn,hfrn⟩:=zBc hr;have hlen:=hO.path.len;have gz:=zBr hv eH (by rw [hA.len];exact bt);have hnl:=hA.len;have hP:Stps w B m o.path:=hO.path;have tZ:=zJU o.kind;have mC:zBb L o=zAs o.kind++[32]++nmF L o.f++zCw L o:=rfl;obtain ⟨kind,f,⟨ff,fl,ffar,fpc⟩,path,over⟩:=o;simp only at h1 h8 eH bt hpn hfrn hlen gz hP tZ mC ⊢;obtain ⟨VB,Ac⟩:∃T,zAs kind=T:=⟨_,rfl⟩
 obtain ⟨NM,ey⟩:∃T,nmF L f=T:=⟨_,rfl⟩
 obtain ⟨OV,jG⟩:∃T,zAw over=T:=⟨_,rfl⟩
 obtain ⟨G0,Al⟩:∃T,VB++[32]=T:=⟨_,rfl⟩
 obtain ⟨G1,mD⟩:∃T,G0++NM=T:=⟨_,rfl⟩
 have oo:=zEA over;rw [Ac] at tZ;rw [ey] at gz;rw [jG] at oo;have l0:G0.length≤9:=by rw [←Al];simp;omega
 have l1:G1.length≤52:=by rw [←mD];simp;omega
 have s1:=zAp Al (bA VB) ⟨#[32]⟩ rfl rfl (by omega) (by simp);have s2:=zAp mD _ _ rfl rfl (by omega) (by omega);rw [Ac,ey,Al,mD] at mC;have jP:=qH mC;have Gr:=qH Ac;have jz:=qH ey;have bY:=qH jG;have HK:=qH (show 0≤kind∧kind≤8 from ⟨by omega,h8⟩);have tl:=qH h1;have jA:=qH (show 1≤f∧f≤(n:Int) from ⟨eH,bt⟩);have gD:=qH hpn;have gV:=qH hfrn;have aM:=qH hlen;have eQ:=qH hnl;have ah:Below w.heap.size w ((w.alloc (.cells #[.slice A n c,.int .i64 re,.int .i64 lo] 24)).alloc (.cells #[.int .i64 kind,.int .i64 f,.int .i64 ff,.int .i64 fl,.bool ffar,.int .i64 fpc,.slice B m d,.bool over] 32)):=((Below.refl _ _).alloc (Nat.le_refl _) _).alloc (by simp) _;have hk0:=(Blk.new w 24 #[.slice A n c,.int .i64 re,.int .i64 lo]).alloc (.cells #[.int .i64 kind,.int .i64 f,.int .i64 ff,.int .i64 fl,.bool ffar,.int .i64 fpc,.slice B m d,.bool over] 32);have aq:Blk ((w.alloc (.cells #[.slice A n c,.int .i64 re,.int .i64 lo] 24)).alloc (.cells #[.int .i64 kind,.int .i64 f,.int .i64 ff,.int .i64 fl,.bool ffar,.int .i64 fpc,.slice B m d,.bool over] 32)) (w.heap.size+1) 32 #[.int .i64 kind,.int .i64 f,.int .i64 ff,.int .i64 fl,.bool ffar,.int .i64 fpc,.slice B m d,.bool over]:=heap_alloc2_new w _ _;clear mC Ac ey jG Al mD tZ gz h1 h8 eH bt hpn hfrn hlen hr hnl l0 hO;go_enter Tryz.func60,Tryz.ntmps60;go_wp2_with fail
 have hA0:=hA.below ah;have nI:=hP.below ah;have vG:=ht.below ah;generalize (w.alloc (.cells #[.slice A n c,.int .i64 re,.int .i64 lo] 24)).alloc (.cells #[.int .i64 kind,.int .i64 f,.int .i64 ff,.int .i64 fl,.bool ffar,.int .i64 fpc,.slice B m d,.bool over] 32)=W at ah hk0 aq hA0 nI vG ⊢
 have KP:=qH (show ∀wx,Below W.heap.size W wx→(Below W.heap.size W wx∧wx.cell? ⟨w.heap.size,0,none⟩=some (.slice A n c)∧wx.cell? ⟨w.heap.size,1,none⟩=some (.int .i64 re)∧wx.cell? ⟨w.heap.size,2,none⟩=some (.int .i64 lo)∧wx.cell? ⟨w.heap.size+1,0,none⟩=some (.int .i64 kind)∧wx.cell? ⟨w.heap.size+1,1,none⟩=some (.int .i64 f)∧wx.cell? ⟨w.heap.size+1,2,none⟩=some (.int .i64 ff)∧wx.cell? ⟨w.heap.size+1,3,none⟩=some (.int .i64 fl)∧wx.cell? ⟨w.heap.size+1,4,none⟩=some (.bool ffar)∧wx.cell? ⟨w.heap.size+1,5,none⟩=some (.int .i64 fpc)∧wx.cell? ⟨w.heap.size+1,6,none⟩=some (.slice B m d)∧wx.cell? ⟨w.heap.size+1,7,none⟩=some (.bool over)) from
  fun wx h=>⟨h,((hk0.below h hk0.lt).cell 0).trans rfl,((hk0.below h hk0.lt).cell 1).trans rfl,((hk0.below h hk0.lt).cell 2).trans rfl,((aq.below h aq.lt).cell 0).trans rfl,((aq.below h aq.lt).cell 1).trans rfl,((aq.below h aq.lt).cell 2).trans rfl,((aq.below h aq.lt).cell 3).trans rfl,((aq.below h aq.lt).cell 4).trans rfl,((aq.below h aq.lt).cell 5).trans rfl,((aq.below h aq.lt).cell 6).trans rfl,((aq.below h aq.lt).cell 7).trans rfl⟩)
 first
  | go_region_held3 (fun wx=>Below W.heap.size W wx∧wx.cell? ⟨w.heap.size,0,none⟩=some (.slice A n c)∧wx.cell? ⟨w.heap.size,1,none⟩=some (.int .i64 re)∧wx.cell? ⟨w.heap.size,2,none⟩=some (.int .i64 lo)∧wx.cell? ⟨w.heap.size+1,0,none⟩=some (.int .i64 kind)∧wx.cell? ⟨w.heap.size+1,1,none⟩=some (.int .i64 f)∧wx.cell? ⟨w.heap.size+1,2,none⟩=some (.int .i64 ff)∧wx.cell? ⟨w.heap.size+1,3,none⟩=some (.int .i64 fl)∧wx.cell? ⟨w.heap.size+1,4,none⟩=some (.bool ffar)∧wx.cell? ⟨w.heap.size+1,5,none⟩=some (.int .i64 fpc)∧wx.cell? ⟨w.heap.size+1,6,none⟩=some (.slice B m d)∧wx.cell? ⟨w.heap.size+1,7,none⟩=some (.bool over)) (first | assumption | exact KP.out _ (Below.refl _ _).drew | exact KP.out _ (zAa (And.left (by assumption)) (by assumption) (Below.size (And.left (by assumption)))))
    (first
     | (go_at_call 106;refine (zTF Gr.out HK.out.1 HK.out.2 _).mono ?_;rintro e wa ⟨rfl,rfl⟩)
     | (go_at_call 107;refine (zCY jz.out _ (hA0.below (And.left (by assumption))) hv jA.out.1 jA.out.2).mono ?_;rintro e wc ⟨rfl,hbc⟩))
  | fail
 all_goals
  obtain ⟨hbx,a0,a1,a2,e0,e1,e2,e3,e4,e5,e6,e7⟩:=(show Below W.heap.size W _∧_ from by assumption);have ai:=zAa ah hbx ah.size;have htx:=vG.below hbx;have fI:=hA0.below hbx;have hPx:=nI.below hbx;have hkx:=aq.below hbx aq.lt;have hfx:=hk0.below hbx hk0.lt;clear hbc;have HT:=qH (show zBb L ⟨kind,f,⟨ff,fl,ffar,fpc⟩,path,over⟩=G1++zCw L ⟨kind,f,⟨ff,fl,ffar,fpc⟩,path,over⟩ from jP.out);clear jP Gr jz s1 s2 KP hA0 nI vG hk0 aq hbx ah
  have KP:=qH (show ∀wx,Below wc.heap.size wc wx→(Below wc.heap.size wc wx∧wx.cell? ⟨w.heap.size,0,none⟩=some (.slice A n c)∧wx.cell? ⟨w.heap.size,1,none⟩=some (.int .i64 re)∧wx.cell? ⟨w.heap.size,2,none⟩=some (.int .i64 lo)∧wx.cell? ⟨w.heap.size+1,0,none⟩=some (.int .i64 kind)∧wx.cell? ⟨w.heap.size+1,1,none⟩=some (.int .i64 f)∧wx.cell? ⟨w.heap.size+1,2,none⟩=some (.int .i64 ff)∧wx.cell? ⟨w.heap.size+1,3,none⟩=some (.int .i64 fl)∧wx.cell? ⟨w.heap.size+1,4,none⟩=some (.bool ffar)∧wx.cell? ⟨w.heap.size+1,5,none⟩=some (.int .i64 fpc)∧wx.cell? ⟨w.heap.size+1,6,none⟩=some (.slice B m d)∧wx.cell? ⟨w.heap.size+1,7,none⟩=some (.bool over)) from
   fun wx h=>⟨h,((hfx.below h hfx.lt).cell 0).trans rfl,((hfx.below h hfx.lt).cell 1).trans rfl,((hfx.below h hfx.lt).cell 2).trans rfl,((hkx.below h hkx.lt).cell 0).trans rfl,((hkx.below h hkx.lt).cell 1).trans rfl,((hkx.below h hkx.lt).cell 2).trans rfl,((hkx.below h hkx.lt).cell 3).trans rfl,((hkx.below h hkx.lt).cell 4).trans rfl,((hkx.below h hkx.lt).cell 5).trans rfl,((hkx.below h hkx.lt).cell 6).trans rfl,((hkx.below h hkx.lt).cell 7).trans rfl⟩)
  have hk:(kind=1∨kind=2∨kind=8)∨kind=4∨kind=5∨(kind=6∨kind=7)∨kind=3:=by have:=HK.out;have:=tl.out;omega
  clear HK tl;rcases hk with hk | rfl | rfl | hk | rfl
  ·rcases hk with rfl | rfl | rfl
   all_goals
    have HR:=qH (show bA G1=bA (zBb L _) by rw [HT.out];simp [zCw]);clear HT;go_wp2_with fail
    go_ret;exact ⟨zDl HR.out,ai⟩
  ·obtain ⟨R1,fG⟩:∃T,[32]++OV=T:=⟨_,rfl⟩
   obtain ⟨R2,my⟩:∃T,G1++R1=T:=⟨_,rfl⟩
   have lR:R1.length≤6:=by rw [←fG];simp;omega
   have t1:=zAp fG ⟨#[32]⟩ _ rfl rfl (by simp) (by omega);have t2:=zAp my _ _ rfl rfl (by omega) (by omega);have HR:=qH (show bA R2=bA (zBb L _) by rw [HT.out,←my,←fG,←bY.out];simp [zCw]);clear HT fG my lR l1 oo;go_wp2_with fail
   refine (zGO bY.out _).mono ?_;rintro e wd ⟨rfl,rfl⟩;go_wp2_with fail
   go_ret;exact ⟨zDl HR.out,ai⟩
  ·have hnf:=gV.out (by omega);have eO:=zCe hv (s:=⟨ff,fl,ffar,fpc⟩) (by rw [eQ.out];exact hnf);obtain ⟨PL,cF⟩:∃T,zAJ L ⟨ff,fl,ffar,fpc⟩=T:=⟨_,rfl⟩
   obtain ⟨Q1,dh⟩:∃T,[32,102,114,111,109,32]++PL=T:=⟨_,rfl⟩
   obtain ⟨Q2,de⟩:∃T,Q1++[32]=T:=⟨_,rfl⟩
   obtain ⟨Q3,cJ⟩:∃T,Q2++OV=T:=⟨_,rfl⟩
   obtain ⟨Q4,el⟩:∃T,G1++Q3=T:=⟨_,rfl⟩
   rw [cF] at eO;have m1:Q1.length≤116:=by rw [←dh];simp;omega
   have m2:Q2.length≤117:=by rw [←de];simp;omega
   have m3:Q3.length≤122:=by rw [←cJ];simp;omega
   have t1:=zAp dh ⟨#[32,102,114,111,109,32]⟩ _ rfl rfl (by simp) (by omega);have t2:=zAp de _ ⟨#[32]⟩ rfl rfl (by omega) (by simp);have t3:=zAp cJ _ _ rfl rfl (by omega) (by omega);have t4:=zAp el _ _ rfl rfl (by omega) (by omega);have HR:=qH (show bA Q4=bA (zBb L _) by rw [HT.out,←el,←cJ,←de,←dh,←cF,←bY.out];simp [zCw]);have cB:=qH cF;have fj:=qH hnf;clear HT dh de cJ el m1 m2 m3 l1 oo eO cF hnf gV;go_wp2_with fail
   first
    | go_region_held3 (fun wx=>Below wc.heap.size wc wx∧wx.cell? ⟨w.heap.size,0,none⟩=some (.slice A n c)∧wx.cell? ⟨w.heap.size,1,none⟩=some (.int .i64 re)∧wx.cell? ⟨w.heap.size,2,none⟩=some (.int .i64 lo)∧wx.cell? ⟨w.heap.size+1,0,none⟩=some (.int .i64 5)∧wx.cell? ⟨w.heap.size+1,1,none⟩=some (.int .i64 f)∧wx.cell? ⟨w.heap.size+1,2,none⟩=some (.int .i64 ff)∧wx.cell? ⟨w.heap.size+1,3,none⟩=some (.int .i64 fl)∧wx.cell? ⟨w.heap.size+1,4,none⟩=some (.bool ffar)∧wx.cell? ⟨w.heap.size+1,5,none⟩=some (.int .i64 fpc)∧wx.cell? ⟨w.heap.size+1,6,none⟩=some (.slice B m d)∧wx.cell? ⟨w.heap.size+1,7,none⟩=some (.bool over)) (first | assumption | exact KP.out _ (Below.refl _ _).drew | exact KP.out _ (zAa (And.left (by assumption)) (by assumption) (Below.size (And.left (by assumption)))))
      (first
       | (go_at_call 109;refine (zIB cB.out _ (fI.below (And.left (by assumption))) hv fj.out (htx.below (And.left (by assumption)))).mono ?_;rintro e wd ⟨rfl,hbd⟩)
       | (go_at_call 108;refine (zGO bY.out _).mono ?_;rintro e we ⟨rfl,rfl⟩))
    | fail
   all_goals
    have hbf:=zAa ai (And.left (show Below wc.heap.size wc _∧_ from by assumption)) ai.size;go_wp2_with fail
    go_ret;exact ⟨zDl HR.out,hbf⟩
  ·have hnf:=gV.out (by omega);have im:=zAj.1 hnf;simp only at im;have eO:=zBr hv (f:=ff) (by omega) (by rw [eQ.out];omega);obtain ⟨PL,cF⟩:∃T,nmF L ff=T:=⟨_,rfl⟩
   rw [cF] at eO;have cB:=qH cF;have fj:=qH (show 1≤ff∧ff≤(n:Int) from ⟨im.1,im.2.1⟩);clear hnf im gV;rcases hk with rfl | rfl
   ·obtain ⟨Q1,dh⟩:∃T,[32,102,114,111,109,32]++PL=T:=⟨_,rfl⟩
    obtain ⟨Q2,de⟩:∃T,Q1++[32]=T:=⟨_,rfl⟩
    obtain ⟨Q3,cJ⟩:∃T,Q2++OV=T:=⟨_,rfl⟩
    obtain ⟨Q4,el⟩:∃T,G1++Q3=T:=⟨_,rfl⟩
    have m1:Q1.length≤116:=by rw [←dh];simp;omega
    have m2:Q2.length≤117:=by rw [←de];simp;omega
    have m3:Q3.length≤122:=by rw [←cJ];simp;omega
    have t1:=zAp dh ⟨#[32,102,114,111,109,32]⟩ _ rfl rfl (by simp) (by omega);have t2:=zAp de _ ⟨#[32]⟩ rfl rfl (by omega) (by simp);have t3:=zAp cJ _ _ rfl rfl (by omega) (by omega);have t4:=zAp el _ _ rfl rfl (by omega) (by omega);have HR:=qH (show bA Q4=bA (zBb L _) by rw [HT.out,←el,←cJ,←de,←dh,←cF,←bY.out];simp [zCw]);clear HT dh de cJ el m1 m2 m3 l1 oo eO cF;go_wp2_with fail
    first
     | go_region_held3 (fun wx=>Below wc.heap.size wc wx∧wx.cell? ⟨w.heap.size,0,none⟩=some (.slice A n c)∧wx.cell? ⟨w.heap.size,1,none⟩=some (.int .i64 re)∧wx.cell? ⟨w.heap.size,2,none⟩=some (.int .i64 lo)∧wx.cell? ⟨w.heap.size+1,0,none⟩=some (.int .i64 6)∧wx.cell? ⟨w.heap.size+1,1,none⟩=some (.int .i64 f)∧wx.cell? ⟨w.heap.size+1,2,none⟩=some (.int .i64 ff)∧wx.cell? ⟨w.heap.size+1,3,none⟩=some (.int .i64 fl)∧wx.cell? ⟨w.heap.size+1,4,none⟩=some (.bool ffar)∧wx.cell? ⟨w.heap.size+1,5,none⟩=some (.int .i64 fpc)∧wx.cell? ⟨w.heap.size+1,6,none⟩=some (.slice B m d)∧wx.cell? ⟨w.heap.size+1,7,none⟩=some (.bool over)) (first | assumption | exact KP.out _ (Below.refl _ _).drew | exact KP.out _ (zAa (And.left (by assumption)) (by assumption) (Below.size (And.left (by assumption)))))
       (first
        | (go_at_call 107;refine (zCY cB.out _ (fI.below (And.left (by assumption))) hv fj.out.1 fj.out.2).mono ?_;rintro e wd ⟨rfl,hbd⟩)
        | (go_at_call 108;refine (zGO bY.out _).mono ?_;rintro e we ⟨rfl,rfl⟩))
     | fail
    all_goals
     have hbf:=zAa ai (And.left (show Below wc.heap.size wc _∧_ from by assumption)) ai.size;go_wp2_with fail
     go_ret;exact ⟨zDl HR.out,hbf⟩
   ·obtain ⟨Q1,dh⟩:∃T,[32,119,105,116,104,32]++PL=T:=⟨_,rfl⟩
    obtain ⟨Q2,de⟩:∃T,Q1++[32]=T:=⟨_,rfl⟩
    obtain ⟨Q3,cJ⟩:∃T,Q2++OV=T:=⟨_,rfl⟩
    obtain ⟨Q4,el⟩:∃T,G1++Q3=T:=⟨_,rfl⟩
    have m1:Q1.length≤116:=by rw [←dh];simp;omega
    have m2:Q2.length≤117:=by rw [←de];simp;omega
    have m3:Q3.length≤122:=by rw [←cJ];simp;omega
    have t1:=zAp dh ⟨#[32,119,105,116,104,32]⟩ _ rfl rfl (by simp) (by omega);have t2:=zAp de _ ⟨#[32]⟩ rfl rfl (by omega) (by simp);have t3:=zAp cJ _ _ rfl rfl (by omega) (by omega);have t4:=zAp el _ _ rfl rfl (by omega) (by omega);have HR:=qH (show bA Q4=bA (zBb L _) by rw [HT.out,←el,←cJ,←de,←dh,←cF,←bY.out];simp [zCw]);clear HT dh de cJ el m1 m2 m3 l1 oo eO cF;go_wp2_with fail
    first
     | go_region_held3 (fun wx=>Below wc.heap.size wc wx∧wx.cell? ⟨w.heap.size,0,none⟩=some (.slice A n c)∧wx.cell? ⟨w.heap.size,1,none⟩=some (.int .i64 re)∧wx.cell? ⟨w.heap.size,2,none⟩=some (.int .i64 lo)∧wx.cell? ⟨w.heap.size+1,0,none⟩=some (.int .i64 7)∧wx.cell? ⟨w.heap.size+1,1,none⟩=some (.int .i64 f)∧wx.cell? ⟨w.heap.size+1,2,none⟩=some (.int .i64 ff)∧wx.cell? ⟨w.heap.size+1,3,none⟩=some (.int .i64 fl)∧wx.cell? ⟨w.heap.size+1,4,none⟩=some (.bool ffar)∧wx.cell? ⟨w.heap.size+1,5,none⟩=some (.int .i64 fpc)∧wx.cell? ⟨w.heap.size+1,6,none⟩=some (.slice B m d)∧wx.cell? ⟨w.heap.size+1,7,none⟩=some (.bool over)) (first | assumption | exact KP.out _ (Below.refl _ _).drew | exact KP.out _ (zAa (And.left (by assumption)) (by assumption) (Below.size (And.left (by assumption)))))
       (first
        | (go_at_call 107;refine (zCY cB.out _ (fI.below (And.left (by assumption))) hv fj.out.1 fj.out.2).mono ?_;rintro e wd ⟨rfl,hbd⟩)
        | (go_at_call 108;refine (zGO bY.out _).mono ?_;rintro e we ⟨rfl,rfl⟩))
     | fail
    all_goals
     have hbf:=zAa ai (And.left (show Below wc.heap.size wc _∧_ from by assumption)) ai.size;go_wp2_with fail
     go_ret;exact ⟨zDl HR.out,hbf⟩
  ·have hnf:=gV.out (by omega);have eO:=zCe hv (s:=⟨ff,fl,ffar,fpc⟩) (by rw [eQ.out];exact hnf);obtain ⟨PL,cF⟩:∃T,zAJ L ⟨ff,fl,ffar,fpc⟩=T:=⟨_,rfl⟩
   obtain ⟨Z1,p6⟩:∃T,[32,102,114,111,109,32]++PL=T:=⟨_,rfl⟩
   rw [cF] at eO;have mZ:Z1.length≤116:=by rw [←p6];simp;omega
   have t1:=zAp p6 ⟨#[32,102,114,111,109,32]⟩ _ rfl rfl (by simp) (by omega);have cB:=qH cF;have HZ1:=qH p6;have fj:=qH hnf;have hstart:Hid (G1=G1++zDr L (path.take 0)):=qH (by simp [zDr]);clear cF p6 eO hnf gV KP;go_wp2_with fail
   clear a0 a1 a2 e0 e1 e2 e3 e4 e5 e6 e7;go_loopw [5,32] (fun v5 v32 wr=>∃(i:Nat) (T:List UInt8),i≤m∧v32=.int .i64 i∧v5=.string (bA T)∧Below wc.heap.size wc wr∧Hid (T=G1++zDr L (path.take i))∧T.length≤52+i*120) (fun _ v32 _=>m-(intOf v32).toNat)
   case atStart=>exact ⟨0,G1,Nat.zero_le _,rfl,rfl,Below.refl _ _,hstart,by omega⟩
   case round =>
    obtain ⟨i,T,hi,rfl,rfl,hbr,ep,nf⟩:=hrel;have hfr:=hfx.below hbr hfx.lt;have hor:=hkx.below hbr hkx.lt;have fe:=fI.below hbr;have htr:=htx.below hbr;have hbw:=zAa ai hbr ai.size;by_cases hlt:i < m
    ·obtain ⟨g,p,rfl,hg,⟨x0,x1,x2,x3,x4⟩,_⟩:=(hPx.below hbr).at_ hlt;have j0:(0:Int)≤(i:Int):=by omega
     have j1:(i:Int) < (m:Int):=by omega
     have hil:i < path.length:=by rw [aM.out];exact hlt
     have hsn:=zIa L hil;have hnm:=gD.out _ (List.mem_of_getElem? (zCG hil));generalize pa path i=x at x0 x1 x2 x3 x4 hsn hnm;obtain ⟨⟨xf,xl,xfar,xpc⟩,xo⟩:=x;simp only at x0 x1 x2 x3 x4 hnm;have nF:=zCe hv (s:=⟨xf,xl,xfar,xpc⟩) (by rw [eQ.out];exact hnm);have ua:=zEA xo;have hst:zLh L ⟨⟨xf,xl,xfar,xpc⟩,xo⟩=[32]++zAw xo++[32]++zAJ L ⟨xf,xl,xfar,xpc⟩++[44]:=rfl;obtain ⟨PX,mz⟩:∃T,zAJ L ⟨xf,xl,xfar,xpc⟩=T:=⟨_,rfl⟩
     obtain ⟨OX,mA⟩:∃T,zAw xo=T:=⟨_,rfl⟩
     obtain ⟨Y1,ir⟩:∃T,[32]++OX=T:=⟨_,rfl⟩
     obtain ⟨Y2,qb⟩:∃T,Y1++[32]=T:=⟨_,rfl⟩
     obtain ⟨Y3,p9⟩:∃T,Y2++PX=T:=⟨_,rfl⟩
     obtain ⟨Y4,zZ⟩:∃T,Y3++[44]=T:=⟨_,rfl⟩
     obtain ⟨Y5,p8⟩:∃U,T++Y4=U:=⟨_,rfl⟩
     rw [mz] at nF;rw [mA] at ua;have y1:Y1.length≤6:=by rw [←ir];simp;omega
     have y2:Y2.length≤7:=by rw [←qb];simp;omega
     have y3:Y3.length≤117:=by rw [←p9];simp;omega
     have y4:Y4.length≤118:=by rw [←zZ];simp;omega
     have y5:Y5.length≤52+(i+1)*120:=by rw [←p8];simp;omega
     have r1:=zAp ir ⟨#[32]⟩ _ rfl rfl (by simp) (by omega);have r2:=zAp qb _ ⟨#[32]⟩ rfl rfl (by omega) (by simp);have r3:=zAp p9 _ _ rfl rfl (by omega) (by omega);have r4:=zAp zZ _ ⟨#[44]⟩ rfl rfl (by omega) (by simp);have r5:=zAp p8 _ _ rfl rfl (by omega) (by omega);have kT:=qH (show Y5=G1++zDr L (path.take (i+1)) by rw [hsn,hst,mz,mA,←p8,ep.out,←zZ,←p9,←qb,←ir];simp);have ti:=qH mz;have vq:=qH mA;have iB:=qH hnm;have aI:Below wc.heap.size wc (wr.alloc (.cells #[.int .i64 xf,.int .i64 xl,.bool xfar,.int .i64 xpc,.bool xo] 86)):=hbr.alloc hbr.size _;have eG:=hfr.alloc (.cells #[.int .i64 xf,.int .i64 xl,.bool xfar,.int .i64 xpc,.bool xo] 86);have eM:Blk (wr.alloc (.cells #[.int .i64 xf,.int .i64 xl,.bool xfar,.int .i64 xpc,.bool xo] 86)) wr.heap.size 86 #[.int .i64 xf,.int .i64 xl,.bool xfar,.int .i64 xpc,.bool xo]:=Blk.new _ _ _;have oU:=fe.alloc (.cells #[.int .i64 xf,.int .i64 xl,.bool xfar,.int .i64 xpc,.bool xo] 86);have EH:=htr.below ((Below.refl wr.heap.size wr).alloc (Nat.le_refl _) (.cells #[.int .i64 xf,.int .i64 xl,.bool xfar,.int .i64 xpc,.bool xo] 86));clear hsn hst mz mA ir qb p9 zZ p8 y1 y2 y3 y4 nF ua hil ep hnm;go_wp2_with fail
     clear x0 x1 x2 x3 x4 hg hbr hfr hor fe htr hbw;generalize wr.alloc (.cells #[.int .i64 xf,.int .i64 xl,.bool xfar,.int .i64 xpc,.bool xo] 86)=Y at aI eG eM oU EH ⊢
     have KP:=qH (show ∀wx,Below Y.heap.size Y wx→(Below Y.heap.size Y wx∧wx.cell? ⟨w.heap.size,0,none⟩=some (.slice A n c)∧wx.cell? ⟨w.heap.size,1,none⟩=some (.int .i64 re)∧wx.cell? ⟨w.heap.size,2,none⟩=some (.int .i64 lo)∧wx.cell? ⟨wr.heap.size,0,none⟩=some (.int .i64 xf)∧wx.cell? ⟨wr.heap.size,1,none⟩=some (.int .i64 xl)∧wx.cell? ⟨wr.heap.size,2,none⟩=some (.bool xfar)∧wx.cell? ⟨wr.heap.size,3,none⟩=some (.int .i64 xpc)∧wx.cell? ⟨wr.heap.size,4,none⟩=some (.bool xo)) from
      fun wx h=>⟨h,((eG.below h eG.lt).cell 0).trans rfl,((eG.below h eG.lt).cell 1).trans rfl,((eG.below h eG.lt).cell 2).trans rfl,((eM.below h eM.lt).cell 0).trans rfl,((eM.below h eM.lt).cell 1).trans rfl,((eM.below h eM.lt).cell 2).trans rfl,((eM.below h eM.lt).cell 3).trans rfl,((eM.below h eM.lt).cell 4).trans rfl⟩)
     first
      | go_region_held3 (fun wx=>Below Y.heap.size Y wx∧wx.cell? ⟨w.heap.size,0,none⟩=some (.slice A n c)∧wx.cell? ⟨w.heap.size,1,none⟩=some (.int .i64 re)∧wx.cell? ⟨w.heap.size,2,none⟩=some (.int .i64 lo)∧wx.cell? ⟨wr.heap.size,0,none⟩=some (.int .i64 xf)∧wx.cell? ⟨wr.heap.size,1,none⟩=some (.int .i64 xl)∧wx.cell? ⟨wr.heap.size,2,none⟩=some (.bool xfar)∧wx.cell? ⟨wr.heap.size,3,none⟩=some (.int .i64 xpc)∧wx.cell? ⟨wr.heap.size,4,none⟩=some (.bool xo)) (first | assumption | exact KP.out _ (Below.refl _ _).drew | exact KP.out _ (zAa (And.left (by assumption)) (by assumption) (Below.size (And.left (by assumption)))))
        (first
         | (go_at_call 109;refine (zIB ti.out _ (oU.below (And.left (by assumption))) hv iB.out (EH.below (And.left (by assumption)))).mono ?_;rintro e wd ⟨rfl,hbd⟩)
         | (go_at_call 108;refine (zGO vq.out _).mono ?_;rintro e we ⟨rfl,rfl⟩))
      | fail
     all_goals
      have hbf:=zAa aI (And.left (show Below Y.heap.size Y _∧_ from by assumption)) aI.size;go_wp2_with fail
      go_roundw
      case rel=>exact ⟨i+1,Y5,by omega,by go_num,rfl,hbf,kT,y5⟩
      case measure=>simp [intOf];omega
    ·have hin:i=m:=by omega
     obtain ⟨Z2,oM⟩:∃U,T++Z1=U:=⟨_,rfl⟩
     have j1:¬(i:Int) < (m:Int):=by omega
     have t2:=zAp oM _ _ rfl rfl (by omega) (by omega)
     have HR:=qH (show bA Z2=bA (zBb L _) by
      rw [HT.out,←oM,←HZ1.out,←cB.out,ep.out,hin,←aM.out,List.take_length];simp [zCw])
     obtain ⟨b0,b1,b2⟩:=cQ3 hfr;obtain ⟨-,-,d2,d3,d4,d5⟩:=cQ6 hor;clear hin oM ep HT;go_wp2_with fail
     refine (zIB cB.out _ fe hv fj.out htr).mono ?_;rintro e wd ⟨rfl,hbd⟩;have hbf:=zAa hbw hbd hbw.size;clear b0 b1 b2 d2 d3 d4 d5;go_wp2_with fail
     go_ret;exact ⟨zDl HR.out,hbf⟩
def zAF (L:List Fg) (re lo:Int) (O:List Og):Int:=if frB L re lo&&O.all (zAg L.length) then 0 else 2
theorem zIc {L:List Fg} {re lo:Int} {O:List Og} (h:frB L re lo=false):zAF L re lo O=2:=by unfold zAF;rw [h];rfl
theorem zFZ {L:List Fg} {re lo:Int} {Es:List Oe} {i:Nat} (hi:i < Es.length) (h:zAg L.length (oa Es i).o=false):zAF L re lo (Es.map (·.o))=2:=by
 have:(Es.map (·.o)).all (zAg L.length)=false:=by
  cases e:(Es.map (·.o)).all (zAg L.length) with
  | false=>rfl
  | true =>
   rw [List.all_eq_true] at e;have:=e _ (List.mem_map_of_mem (List.mem_of_getElem? (zBn hi)));rw [h] at this;cases this
 unfold zAF;rw [this];simp
theorem zOL {L:List Fg} {re lo:Int} {Es:List Oe} (h:frB L re lo=true) (ho:∀i,i < Es.length→zAg L.length (oa Es i).o=true):zAF L re lo (Es.map (·.o))=0:=by
 have:(Es.map (·.o)).all (zAg L.length)=true:=by
  rw [List.all_eq_true];intro x hx;obtain ⟨e,he,rfl⟩:=List.mem_map.1 hx;obtain ⟨i,hi⟩:=List.getElem?_of_mem he;have hlt:=(List.getElem?_eq_some_iff.1 hi).1;have h2:=ho i hlt;have h3:=zBn hlt;rw [hi] at h3;injection h3 with h3
  rw [h3];exact h2
 unfold zAF;rw [this,h];rfl
theorem zEB {L:List Fg} {re lo:Int} {b:Bool} (h:frB L re lo=b) (A:Option Addr) (n c:Nat) (w:World) (hA:Fgs w A n L) (hc:n≤c) :
  Calls Tryz.prog 88 #[frV A n c re lo] w fun e w'=>e=.returned (.bool b)∧Below w.heap.size w w':=by
 subst h;exact zNp A n c L re lo w hA hc
theorem zRe {k:Nat} {o:Og} {b:Bool} (h:zAg k o=b) (A:Option Addr) (c:Nat) (re lo:Int) (B:Option Addr) (m d:Nat) (w:World) (hO:OpIn w o B m d) :
  Calls Tryz.prog 104 #[frV A k c re lo,opV o B m d] w fun e w'=>e=.returned (.bool (!b))∧Below w.heap.size w w':=by
 subst h;exact zLf A k c re lo o B m d w hO
set_option maxHeartbeats 3200000 in
theorem zEj (A:Option Addr) (n c:Nat) (L:List Fg) (re lo:Int) (B:Option Addr) (m d:Nat) (Es:List Oe) (w:World) (hA:Fgs w A n L) (hc:n≤c) (hO:Oprs w B m Es) :
  Calls Tryz.prog 58 #[frV A n c re lo,.slice B m d] w fun e w'=>e=.returned (.int .i64 (zAF L re lo (Es.map (·.o))))∧Below w.heap.size w w':=by
 have hle:=hO.le;have aM:=qH hO.len;have eQ:=qH hA.len;have ah:Below w.heap.size w (w.alloc (.cells #[.slice A n c,.int .i64 re,.int .i64 lo] 24)):=(Below.refl _ _).alloc (Nat.le_refl _) _;have hk0:Blk (w.alloc (.cells #[.slice A n c,.int .i64 re,.int .i64 lo] 24)) w.heap.size 24 #[.slice A n c,.int .i64 re,.int .i64 lo]:=Blk.new _ _ _;obtain ⟨b,hb⟩:∃b,frB L re lo=b:=⟨_,rfl⟩
 have HV:=qH (zEB hb A n c _ (hA.below ah) hc);have HB:=qH hb;clear hb
 cases b with
 | false =>
  have hr:=qH (zIc (O:=Es.map (·.o)) HB.out);go_enter Tryz.func58,Tryz.ntmps58;go_wp2_with fail
  refine HV.out.mono ?_;rintro e w2 ⟨rfl,ai⟩;have al:=zAa ah ai ah.size;go_wp2_with fail
  go_ret;exact ⟨zFs hr.out.symm,al⟩
 | true =>
  go_enter Tryz.func58,Tryz.ntmps58;go_wp2_with fail
  refine HV.out.mono ?_;rintro e w2 ⟨rfl,ai⟩;have al:=zAa ah ai ah.size;have hk2:=hk0.below ai hk0.lt;go_wp2_with fail
  go_loopw [12] (fun v wr=>∃i:Nat,i≤m∧v=.int .i64 i∧Below w2.heap.size w2 wr∧Hid (∀j:Nat,j < i→zAg L.length (oa Es j).o=true)) (fun v _=>m-(intOf v).toNat)
  case atStart=>exact ⟨0,Nat.zero_le _,rfl,Below.refl _ _,qH (fun j hj=>by omega)⟩
  case round =>
   obtain ⟨i,hi,rfl,hbr,HS⟩:=hrel;have hkr:=hk2.below hbr hk2.lt;have hbw:=zAa al hbr al.size;by_cases hlt:i < m
   ·obtain ⟨g,p,rfl,hg,⟨x0,x1,x2,x3,x4,x5,x6,x7⟩,hin⟩:=(hO.below hbw).at_ hlt;have j0:(0:Int)≤(i:Int):=by omega
    have j1:(i:Int) < (m:Int):=by omega
    obtain ⟨b,hb⟩:∃b,zAg n (oa Es i).o=b:=⟨_,rfl⟩
    have nA:=qH hb;clear hb;have eB:=qH nA.out;generalize oa Es i=x at x0 x1 x2 x3 x4 x5 x6 x7 hin nA;obtain ⟨⟨kind,f,⟨ff,fl,ffar,fpc⟩,path,over⟩,PA,pn,pc⟩:=x;simp only at x0 x1 x2 x3 x4 x5 x6 x7 hin;have aI:Below w2.heap.size w2 (wr.alloc (.cells #[.int .i64 kind,.int .i64 f,.int .i64 ff,.int .i64 fl,.bool ffar,.int .i64 fpc,.slice PA pn pc,.bool over] 32)):=hbr.alloc hbr.size _;have io:=hkr.alloc (.cells #[.int .i64 kind,.int .i64 f,.int .i64 ff,.int .i64 fl,.bool ffar,.int .i64 fpc,.slice PA pn pc,.bool over] 32);have xJ:=hin.below ((Below.refl wr.heap.size wr).alloc (Nat.le_refl _) (.cells #[.int .i64 kind,.int .i64 f,.int .i64 ff,.int .i64 fl,.bool ffar,.int .i64 fpc,.slice PA pn pc,.bool over] 32));have y0:=(io.cell 0).trans rfl;have y1:=(io.cell 1).trans rfl;have y2:=(io.cell 2).trans rfl;have HW:=qH (zRe nA.out A c re lo PA pn pc _ xJ);clear hin xJ nA
    cases b with
    | true =>
     have cn:=qH (show ∀j:Nat,j < i+1→zAg L.length (oa Es j).o=true from fun j hj=>by
      rcases Nat.decEq j i with e | e
      ·exact HS.out j (by omega)
      ·subst e;rw [eQ.out];exact eB.out)
     clear HS eB;go_wp2_with fail
     refine HW.out.mono ?_;rintro e w5 ⟨rfl,aw⟩;have aH:=zAa aI aw aI.size;clear y0 y1 y2 x0 x1 x2 x3 x4 x5 x6 x7;go_wp2_with fail
     go_roundw
     case rel=>exact ⟨i+1,by omega,by go_num,aH,cn⟩
     case measure=>simp [intOf];omega
    | false =>
     have hr:=qH (zFZ (L:=L) (re:=re) (lo:=lo) (Es:=Es) (i:=i) (by rw [aM.out];exact hlt) (by rw [eQ.out];exact eB.out));clear HS eB;go_wp2_with fail
     refine HW.out.mono ?_;rintro e w5 ⟨rfl,aw⟩;have aH:=zAa aI aw aI.size;clear y0 y1 y2 x0 x1 x2 x3 x4 x5 x6 x7;go_wp2_with fail
     go_ret;exact ⟨zFs hr.out.symm,zAa al aH al.size⟩
   ·have j1:¬(i:Int) < (m:Int):=by omega
    have hr:=qH (zOL (L:=L) (re:=re) (lo:=lo) (Es:=Es) HB.out (fun j hj=>HS.out j (by rw [aM.out] at hj;omega)));clear HS;go_wp2_with fail
    go_ret;exact ⟨zFs hr.out.symm,hbw⟩
theorem zCA (L:List Fg) (re lo:Int) (O:List Og):(zAF L re lo O=0∧frOk L re lo∧∀o∈O,zAg L.length o=true)∨zAF L re lo O=2:=by
 unfold zAF
 cases h1:frB L re lo with
 | false=>exact .inr rfl
 | true =>
  cases h2:O.all (zAg L.length) with
  | false=>exact .inr rfl
  | true=>exact .inl ⟨rfl,zCB.1 h1,by simpa using h2⟩
theorem Oprs.one (w:World) (o:Og) (A:Option Addr) (n c:Nat) (t:TypeId) (h:OpIn w o A n c) :
  Oprs (w.alloc (.cells #[.int .i64 o.kind,.int .i64 o.f,.int .i64 o.fr.f,.int .i64 o.fr.l,.bool o.fr.far,.int .i64 o.fr.pc,.slice A n c,.bool o.over] t)) (some ⟨w.heap.size,0,none⟩) 1 [⟨o,A,n,c⟩]:=by
 refine ⟨⟨rfl,by omega,fun _=>⟨_,_,rfl,by simp,fun j x hx q v hv=>?_⟩⟩,fun e he=>?_⟩
 ·rcases j with _ | j
  ·simp only [List.getElem?_cons_zero,Option.some.injEq] at hx;subst hx;rw [Nat.zero_mul,Nat.add_zero,Nat.zero_add,World.cell?_alloc_at _ _ _ _ rfl,←Array.getElem?_toList];exact hv
  ·simp at hx
 ·obtain rfl:e=⟨o,A,n,c⟩:=by simpa using he
  exact h.below ((Below.refl _ _).alloc (Nat.le_refl _) _)
set_option maxHeartbeats 3200000 in
set_option maxRecDepth 100000 in
theorem zLi (A:Option Addr) (n c:Nat) (L:List Fg) (re lo:Int) (o:Og) (B:Option Addr) (m d:Nat) (w:World) (hA:Fgs w A n L) (hc:n≤c) (hO:OpIn w o B m d) (hm:m≤10000) (ht:Tabs w) :
  Calls Tryz.prog 41 #[frV A n c re lo,opV o B m d] w fun e w'=>e=.returned (.tuple #[.string (bA (if zAF L re lo [o]=0 then zBb L o else [])),.int .i64 (zAF L re lo [o])])∧Below w.heap.size w w':=by
 have ah:Below w.heap.size w ((w.alloc (.cells #[.slice A n c,.int .i64 re,.int .i64 lo] 24)).alloc (.cells #[.int .i64 o.kind,.int .i64 o.f,.int .i64 o.fr.f,.int .i64 o.fr.l,.bool o.fr.far,.int .i64 o.fr.pc,.slice B m d,.bool o.over] 32)):=((Below.refl _ _).alloc (Nat.le_refl _) _).alloc (by simp) _;have ay:Below w.heap.size w (((w.alloc (.cells #[.slice A n c,.int .i64 re,.int .i64 lo] 24)).alloc (.cells #[.int .i64 o.kind,.int .i64 o.f,.int .i64 o.fr.f,.int .i64 o.fr.l,.bool o.fr.far,.int .i64 o.fr.pc,.slice B m d,.bool o.over] 32)).alloc (.cells #[.int .i64 o.kind,.int .i64 o.f,.int .i64 o.fr.f,.int .i64 o.fr.l,.bool o.fr.far,.int .i64 o.fr.pc,.slice B m d,.bool o.over] 32)):=ah.alloc ah.size _;have hk0:=((Blk.new w 24 #[.slice A n c,.int .i64 re,.int .i64 lo]).alloc (.cells #[.int .i64 o.kind,.int .i64 o.f,.int .i64 o.fr.f,.int .i64 o.fr.l,.bool o.fr.far,.int .i64 o.fr.pc,.slice B m d,.bool o.over] 32)).alloc (.cells #[.int .i64 o.kind,.int .i64 o.f,.int .i64 o.fr.f,.int .i64 o.fr.l,.bool o.fr.far,.int .i64 o.fr.pc,.slice B m d,.bool o.over] 32);have xG:Blk ((w.alloc (.cells #[.slice A n c,.int .i64 re,.int .i64 lo] 24)).alloc (.cells #[.int .i64 o.kind,.int .i64 o.f,.int .i64 o.fr.f,.int .i64 o.fr.l,.bool o.fr.far,.int .i64 o.fr.pc,.slice B m d,.bool o.over] 32)) (w.heap.size+1) 32 #[.int .i64 o.kind,.int .i64 o.f,.int .i64 o.fr.f,.int .i64 o.fr.l,.bool o.fr.far,.int .i64 o.fr.pc,.slice B m d,.bool o.over]:=heap_alloc2_new w _ _;have aq:=xG.alloc (.cells #[.int .i64 o.kind,.int .i64 o.f,.int .i64 o.fr.f,.int .i64 o.fr.l,.bool o.fr.far,.int .i64 o.fr.pc,.slice B m d,.bool o.over] 32);have hone:=Oprs.one _ o B m d 32 (hO.below ah);simp only [World.size_alloc] at hone;have hC:=zEj A n c L re lo _ 1 1 [⟨o,B,m,d⟩] _ (hA.below ay) hc hone;rw [show List.map (fun e:Oe=>e.o) [(⟨o,B,m,d⟩:Oe)]=[o] from rfl] at hC;have hcase:=zCA L re lo [o];obtain ⟨E,hE⟩:∃E,zAF L re lo [o]=E:=⟨_,rfl⟩
 rw [hE] at hcase hC ⊢;have HC:=qH hC;have hn:=hA.len;have HN:=qH hn;obtain ⟨kind,f,⟨ff,fl,ffar,fpc⟩,path,over⟩:=o;simp only at ah ay hk0 aq hone HC ⊢;clear hE xG hone hn hC;rcases hcase with ⟨rfl,hfr,hro⟩ | rfl
 ·have hri:zAg n ⟨kind,f,⟨ff,fl,ffar,fpc⟩,path,over⟩=true:=by have:=hro _ (List.mem_singleton.2 rfl);rw [HN.out] at this;exact this
  have aR:=qH (fun wx fI hOx htx=>zIb A n c L re lo ⟨kind,f,⟨ff,fl,ffar,fpc⟩,path,over⟩ B m d wx fI hfr hOx hri hm htx);clear hro hri;go_enter Tryz.func41,Tryz.ntmps41;go_wp2_with fail
  refine HC.out.mono ?_;rintro e w2 ⟨rfl,ai⟩;have al:=zAa ay ai ay.size;have hk2:=hk0.below ai hk0.lt;have px:=aq.below ai aq.lt;have a0:=(hk2.cell 0).trans rfl;have a1:=(hk2.cell 1).trans rfl;have a2:=(hk2.cell 2).trans rfl;have e0:=(px.cell 0).trans rfl;have e1:=(px.cell 1).trans rfl;have e2:=(px.cell 2).trans rfl;have e3:=(px.cell 3).trans rfl;have e4:=(px.cell 4).trans rfl;have e5:=(px.cell 5).trans rfl;have e6:=(px.cell 6).trans rfl;have e7:=(px.cell 7).trans rfl;go_wp2_with fail
  refine (aR.out _ (hA.below al) (hO.below al) (ht.below al)).mono ?_;rintro e w5 ⟨rfl,aw⟩;have aH:=zAa al aw al.size;clear a0 a1 a2 e0 e1 e2 e3 e4 e5 e6 e7;go_wp2_with fail
  go_ret2;exact ⟨by simp,aH⟩
 ·go_enter Tryz.func41,Tryz.ntmps41;go_wp2_with fail
  refine HC.out.mono ?_;rintro e w2 ⟨rfl,ai⟩;have al:=zAa ay ai ay.size;go_wp2_with fail
  go_ret2;exact ⟨rfl,al⟩
end Go.Proofs.YtlmdfmnbcndhoaaGreatDoor
