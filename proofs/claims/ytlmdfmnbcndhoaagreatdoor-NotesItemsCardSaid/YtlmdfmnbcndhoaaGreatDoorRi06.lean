/-
  Lemmas, part 6. Conditions: each theorem's own.
-/
import Derived.Test.YtlmdfmnbcndhoaaGreatDoorRi05
import Derived.Great.BuildSlice
namespace Go.Proofs.YtlmdfmnbcndhoaaGreatDoor
open Go.RowKit
def zOd (L:List Fg) (x:Sp):List UInt8:=[32]++zAL x.over++[32]++zBX L x.s++[44]
def zGB (L:List Fg) (P:List Sp):List UInt8:=P.flatMap (zOd L)
def zGC (L:List Fg) (o:Og):List UInt8 :=
 if o.kind=4 then [32]++zAL o.over
 else if o.kind=3 then zGB L o.path++([32,102,114,111,109,32]++zBX L o.fr)
 else if o.kind=5 then [32,102,114,111,109,32]++zBX L o.fr++[32]++zAL o.over
 else if o.kind=6 then [32,102,114,111,109,32]++nmF L o.fr.f++[32]++zAL o.over
 else if o.kind=7 then [32,119,105,116,104,32]++nmF L o.fr.f++[32]++zAL o.over
 else []
def zDn (L:List Fg) (o:Og):List UInt8:=zAT o.kind++[32]++nmF L o.f++zGC L o
theorem zCa {L:List Fg} {re lo:Int} (hv:frOk L re lo) {s:Sg} (hs:zAq L.length s=true):(zBX L s).length≤110:=by
 obtain ⟨h1,h2,h3,h4,h5,h6⟩:=zAj.1 hs;have a:=zBq hv h1 h2;have b:=zJA s.far;have i:=zAZ (x:=s.l) ⟨by omega,by omega⟩;have j:=zAZ (x:=s.pc) ⟨by omega,by omega⟩;unfold zBX;split<;>split<;>simp<;>omega
theorem zJC {L:List Fg} {re lo:Int} (hv:frOk L re lo):∀{P:List Sp},(∀x∈P,zAq L.length x.s=true)→(zGB L P).length≤P.length*120
 | [],_=>by simp [zGB]
 | x :: P,h=>by
  have ih:=zJC hv (P:=P) fun y hy=>h y (List.mem_cons_of_mem _ hy)
  have a:=zCa hv (h x (List.mem_cons_self ..));have b:=zEw x.over;have hst:(zOd L x).length≤120:=by
   unfold zOd;simp only [List.length_append,List.length_cons,List.length_nil];omega
  unfold zGB at ih ⊢;rw [List.flatMap_cons,List.length_append,List.length_cons,Nat.add_mul];omega
theorem zMP (L:List Fg) {P:List Sp} {i:Nat} (h:i < P.length):zGB L (P.take (i+1))=zGB L (P.take i)++zOd L (pa P i):=by
 unfold zGB;rw [List.take_add_one,zBS h];simp
theorem zSX {k:Int} {S:List UInt8} (h:zAT k=S) (h0:0≤k) (h8:k≤8) (w:World):Calls Tryz.prog 106 #[.int .i64 k] w fun e w'=>e=.returned (.string (bA S))∧w'=w:=by
 subst h;exact zBM k h0 h8 w
theorem zIq {A:Option Addr} {n c:Nat} {L:List Fg} {re lo:Int} {s:Sg} {S:List UInt8} (h:zBX L s=S) (w:World) (hA:Fgs w A n L) (hv:frOk L re lo) (hs:zAq n s=true) (ht:Tabs w) :
  Calls Tryz.prog 109 #[frV A n c re lo,sgV s] w fun e w'=>e=.returned (.string (bA S))∧Below w.heap.size w w':=by
 subst h;exact zKJ A n c L re lo s w hA hv hs ht
theorem zAS {k:Nat} {o:Og} (h:zAh k o=true):1≤o.kind∧o.kind≤8∧1≤o.f∧o.f≤(k:Int)∧(∀x∈o.path,zAq k x.s=true)∧((o.kind=3∨o.kind=5∨o.kind=6∨o.kind=7)→zAq k o.fr=true):=by
 unfold zAh at h;simp only [Bool.and_eq_true,decide_eq_true_eq,List.all_eq_true] at h;obtain ⟨⟨⟨⟨h1,h2⟩,_⟩,h4⟩,h5⟩:=h;unfold zBh at h5;refine ⟨?_,?_,h1,h2,h4,?_⟩
 ·by_cases e:1≤o.kind∧o.kind≤8
  ·exact e.1
  ·rw [if_neg (by omega),if_neg (by omega),if_neg (by omega),if_neg (by omega),if_neg (by omega)] at h5;cases h5
 ·by_cases e:1≤o.kind∧o.kind≤8
  ·exact e.2
  ·rw [if_neg (by omega),if_neg (by omega),if_neg (by omega),if_neg (by omega),if_neg (by omega)] at h5;cases h5
 ·rintro (e | e | e | e)
  ·rw [if_neg (by omega),if_neg (by omega),if_pos e] at h5;simp only [Bool.and_eq_true] at h5;exact h5.2
  ·rw [if_neg (by omega),if_neg (by omega),if_neg (by omega),if_pos e] at h5;exact h5
  ·rw [if_neg (by omega),if_neg (by omega),if_neg (by omega),if_neg (by omega),if_pos (.inl e)] at h5;simp only [Bool.and_eq_true] at h5;exact h5.1
  ·rw [if_neg (by omega),if_neg (by omega),if_neg (by omega),if_neg (by omega),if_pos (.inr e)] at h5;simp only [Bool.and_eq_true] at h5;exact h5.1
set_option maxHeartbeats 12800000 in
set_option maxRecDepth 100000 in
theorem zHP (A:Option Addr) (n c:Nat) (L:List Fg) (re lo:Int) (o:Og) (B:Option Addr) (m d:Nat) (w:World) (hA:Fgs w A n L) (hv:frOk L re lo) (hO:OpIn w o B m d) (hr:zAh n o=true) (hm:m≤10000) (ht:Tabs w) :
  Calls Tryz.prog 60 #[frV A n c re lo,opV o B m d] w fun e w'=>e=.returned (.string (bA (zDn L o)))∧Below w.heap.size w w':=by
 obtain ⟨h1,h8,hf1,hf2,hpn,hfrn⟩:=zAS hr;have hlen:=hO.path.len;have hlN:=zBq hv hf1 (by rw [hA.len];exact hf2);have hnl:=hA.len;have hP:Stps w B m o.path:=hO.path;have hlV:=zJB o.kind;have hLF:zDn L o=zAT o.kind++[32]++nmF L o.f++zGC L o:=rfl;obtain ⟨kind,f,⟨ff,fl,ffar,fpc⟩,path,over⟩:=o;simp only at h1 h8 hf1 hf2 hpn hfrn hlen hlN hP hlV hLF ⊢;obtain ⟨VB,hVB⟩:∃T,zAT kind=T:=⟨_,rfl⟩
 obtain ⟨NM,hNM⟩:∃T,nmF L f=T:=⟨_,rfl⟩
 obtain ⟨OV,hOV⟩:∃T,zAL over=T:=⟨_,rfl⟩
 obtain ⟨G0,hG0⟩:∃T,VB++[32]=T:=⟨_,rfl⟩
 obtain ⟨G1,hG1⟩:∃T,G0++NM=T:=⟨_,rfl⟩
 have lOV:=zEw over;rw [hVB] at hlV;rw [hNM] at hlN;rw [hOV] at lOV;have l0:G0.length≤9:=by rw [←hG0];simp;omega
 have l1:G1.length≤52:=by rw [←hG1];simp;omega
 have s1:=zAr hG0 (bA VB) ⟨#[32]⟩ rfl rfl (by omega) (by simp);have s2:=zAr hG1 _ _ rfl rfl (by omega) (by omega);rw [hVB,hNM,hG0,hG1] at hLF;have HLF:=qH hLF;have HVB:=qH hVB;have HNM:=qH hNM;have HOV:=qH hOV;have HK:=qH (show 0≤kind∧kind≤8 from ⟨by omega,h8⟩);have HK1:=qH h1;have HF12:=qH (show 1≤f∧f≤(n:Int) from ⟨hf1,hf2⟩);have HPN:=qH hpn;have HFR:=qH hfrn;have HLEN:=qH hlen;have HNL:=qH hnl;have hb0:Below w.heap.size w ((w.alloc (.cells #[.slice A n c,.int .i64 re,.int .i64 lo] 24)).alloc (.cells #[.int .i64 kind,.int .i64 f,.int .i64 ff,.int .i64 fl,.bool ffar,.int .i64 fpc,.slice B m d,.bool over] 32)):=((Below.refl _ _).alloc (Nat.le_refl _) _).alloc (by simp) _;have hk0:=(Blk.new w 24 #[.slice A n c,.int .i64 re,.int .i64 lo]).alloc (.cells #[.int .i64 kind,.int .i64 f,.int .i64 ff,.int .i64 fl,.bool ffar,.int .i64 fpc,.slice B m d,.bool over] 32);have hk1:Blk ((w.alloc (.cells #[.slice A n c,.int .i64 re,.int .i64 lo] 24)).alloc (.cells #[.int .i64 kind,.int .i64 f,.int .i64 ff,.int .i64 fl,.bool ffar,.int .i64 fpc,.slice B m d,.bool over] 32)) (w.heap.size+1) 32 #[.int .i64 kind,.int .i64 f,.int .i64 ff,.int .i64 fl,.bool ffar,.int .i64 fpc,.slice B m d,.bool over]:=heap_alloc2_new w _ _;clear hLF hVB hNM hOV hG0 hG1 hlV hlN h1 h8 hf1 hf2 hpn hfrn hlen hr hnl l0 hO;go_enter Tryz.func60,Tryz.ntmps60;go_wp2_with fail
 have hA0:=hA.below hb0;have hP0:=hP.below hb0;have ht0:=ht.below hb0;generalize (w.alloc (.cells #[.slice A n c,.int .i64 re,.int .i64 lo] 24)).alloc (.cells #[.int .i64 kind,.int .i64 f,.int .i64 ff,.int .i64 fl,.bool ffar,.int .i64 fpc,.slice B m d,.bool over] 32)=W at hb0 hk0 hk1 hA0 hP0 ht0 ⊢
 have KP:=qH (show ∀wx,Below W.heap.size W wx→(Below W.heap.size W wx∧wx.cell? ⟨w.heap.size,0,none⟩=some (.slice A n c)∧wx.cell? ⟨w.heap.size,1,none⟩=some (.int .i64 re)∧wx.cell? ⟨w.heap.size,2,none⟩=some (.int .i64 lo)∧wx.cell? ⟨w.heap.size+1,0,none⟩=some (.int .i64 kind)∧wx.cell? ⟨w.heap.size+1,1,none⟩=some (.int .i64 f)∧wx.cell? ⟨w.heap.size+1,2,none⟩=some (.int .i64 ff)∧wx.cell? ⟨w.heap.size+1,3,none⟩=some (.int .i64 fl)∧wx.cell? ⟨w.heap.size+1,4,none⟩=some (.bool ffar)∧wx.cell? ⟨w.heap.size+1,5,none⟩=some (.int .i64 fpc)∧wx.cell? ⟨w.heap.size+1,6,none⟩=some (.slice B m d)∧wx.cell? ⟨w.heap.size+1,7,none⟩=some (.bool over)) from
  fun wx h=>⟨h,((hk0.below h hk0.lt).cell 0).trans rfl,((hk0.below h hk0.lt).cell 1).trans rfl,((hk0.below h hk0.lt).cell 2).trans rfl,((hk1.below h hk1.lt).cell 0).trans rfl,((hk1.below h hk1.lt).cell 1).trans rfl,((hk1.below h hk1.lt).cell 2).trans rfl,((hk1.below h hk1.lt).cell 3).trans rfl,((hk1.below h hk1.lt).cell 4).trans rfl,((hk1.below h hk1.lt).cell 5).trans rfl,((hk1.below h hk1.lt).cell 6).trans rfl,((hk1.below h hk1.lt).cell 7).trans rfl⟩)
 first
  | go_region_held3 (fun wx=>Below W.heap.size W wx∧wx.cell? ⟨w.heap.size,0,none⟩=some (.slice A n c)∧wx.cell? ⟨w.heap.size,1,none⟩=some (.int .i64 re)∧wx.cell? ⟨w.heap.size,2,none⟩=some (.int .i64 lo)∧wx.cell? ⟨w.heap.size+1,0,none⟩=some (.int .i64 kind)∧wx.cell? ⟨w.heap.size+1,1,none⟩=some (.int .i64 f)∧wx.cell? ⟨w.heap.size+1,2,none⟩=some (.int .i64 ff)∧wx.cell? ⟨w.heap.size+1,3,none⟩=some (.int .i64 fl)∧wx.cell? ⟨w.heap.size+1,4,none⟩=some (.bool ffar)∧wx.cell? ⟨w.heap.size+1,5,none⟩=some (.int .i64 fpc)∧wx.cell? ⟨w.heap.size+1,6,none⟩=some (.slice B m d)∧wx.cell? ⟨w.heap.size+1,7,none⟩=some (.bool over)) (first | assumption | exact KP.out _ (Below.refl _ _).drew | exact KP.out _ (zAa (And.left (by assumption)) (by assumption) (Below.size (And.left (by assumption)))))
    (first
     | (go_at_call 106;refine (zSX HVB.out HK.out.1 HK.out.2 _).mono ?_;rintro e wa ⟨rfl,rfl⟩)
     | (go_at_call 107;refine (zCU HNM.out _ (hA0.below (And.left (by assumption))) hv HF12.out.1 HF12.out.2).mono ?_;rintro e wc ⟨rfl,hbc⟩))
  | fail
 all_goals
  obtain ⟨hbx,a0,a1,a2,e0,e1,e2,e3,e4,e5,e6,e7⟩:=(show Below W.heap.size W _∧_ from by assumption);have hb2:=zAa hb0 hbx hb0.size;have htx:=ht0.below hbx;have hAx:=hA0.below hbx;have hPx:=hP0.below hbx;have hkx:=hk1.below hbx hk1.lt;have hfx:=hk0.below hbx hk0.lt;clear hbc;have HT:=qH (show zDn L ⟨kind,f,⟨ff,fl,ffar,fpc⟩,path,over⟩=G1++zGC L ⟨kind,f,⟨ff,fl,ffar,fpc⟩,path,over⟩ from HLF.out);clear HLF HVB HNM s1 s2 KP hA0 hP0 ht0 hk0 hk1 hbx hb0
  have KP:=qH (show ∀wx,Below wc.heap.size wc wx→(Below wc.heap.size wc wx∧wx.cell? ⟨w.heap.size,0,none⟩=some (.slice A n c)∧wx.cell? ⟨w.heap.size,1,none⟩=some (.int .i64 re)∧wx.cell? ⟨w.heap.size,2,none⟩=some (.int .i64 lo)∧wx.cell? ⟨w.heap.size+1,0,none⟩=some (.int .i64 kind)∧wx.cell? ⟨w.heap.size+1,1,none⟩=some (.int .i64 f)∧wx.cell? ⟨w.heap.size+1,2,none⟩=some (.int .i64 ff)∧wx.cell? ⟨w.heap.size+1,3,none⟩=some (.int .i64 fl)∧wx.cell? ⟨w.heap.size+1,4,none⟩=some (.bool ffar)∧wx.cell? ⟨w.heap.size+1,5,none⟩=some (.int .i64 fpc)∧wx.cell? ⟨w.heap.size+1,6,none⟩=some (.slice B m d)∧wx.cell? ⟨w.heap.size+1,7,none⟩=some (.bool over)) from
   fun wx h=>⟨h,((hfx.below h hfx.lt).cell 0).trans rfl,((hfx.below h hfx.lt).cell 1).trans rfl,((hfx.below h hfx.lt).cell 2).trans rfl,((hkx.below h hkx.lt).cell 0).trans rfl,((hkx.below h hkx.lt).cell 1).trans rfl,((hkx.below h hkx.lt).cell 2).trans rfl,((hkx.below h hkx.lt).cell 3).trans rfl,((hkx.below h hkx.lt).cell 4).trans rfl,((hkx.below h hkx.lt).cell 5).trans rfl,((hkx.below h hkx.lt).cell 6).trans rfl,((hkx.below h hkx.lt).cell 7).trans rfl⟩)
  have hk:(kind=1∨kind=2∨kind=8)∨kind=4∨kind=5∨(kind=6∨kind=7)∨kind=3:=by have:=HK.out;have:=HK1.out;omega
  clear HK HK1;rcases hk with hk | rfl | rfl | hk | rfl
  ·rcases hk with rfl | rfl | rfl
   all_goals
    have HR:=qH (show bA G1=bA (zDn L _) by rw [HT.out];simp [zGC]);clear HT;go_wp2_with fail
    go_ret;exact ⟨zDl HR.out,hb2⟩
  ·obtain ⟨R1,hR1⟩:∃T,[32]++OV=T:=⟨_,rfl⟩
   obtain ⟨R2,hR2⟩:∃T,G1++R1=T:=⟨_,rfl⟩
   have lR:R1.length≤6:=by rw [←hR1];simp;omega
   have t1:=zAr hR1 ⟨#[32]⟩ _ rfl rfl (by simp) (by omega);have t2:=zAr hR2 _ _ rfl rfl (by omega) (by omega);have HR:=qH (show bA R2=bA (zDn L _) by rw [HT.out,←hR2,←hR1,←HOV.out];simp [zGC]);clear HT hR1 hR2 lR l1 lOV;go_wp2_with fail
   refine (zGA HOV.out _).mono ?_;rintro e wd ⟨rfl,rfl⟩;go_wp2_with fail
   go_ret;exact ⟨zDl HR.out,hb2⟩
  ·have hnf:=HFR.out (by omega);have hlP:=zCa hv (s:=⟨ff,fl,ffar,fpc⟩) (by rw [HNL.out];exact hnf);obtain ⟨PL,hPL⟩:∃T,zBX L ⟨ff,fl,ffar,fpc⟩=T:=⟨_,rfl⟩
   obtain ⟨Q1,hQ1⟩:∃T,[32,102,114,111,109,32]++PL=T:=⟨_,rfl⟩
   obtain ⟨Q2,hQ2⟩:∃T,Q1++[32]=T:=⟨_,rfl⟩
   obtain ⟨Q3,hQ3⟩:∃T,Q2++OV=T:=⟨_,rfl⟩
   obtain ⟨Q4,hQ4⟩:∃T,G1++Q3=T:=⟨_,rfl⟩
   rw [hPL] at hlP;have m1:Q1.length≤116:=by rw [←hQ1];simp;omega
   have m2:Q2.length≤117:=by rw [←hQ2];simp;omega
   have m3:Q3.length≤122:=by rw [←hQ3];simp;omega
   have t1:=zAr hQ1 ⟨#[32,102,114,111,109,32]⟩ _ rfl rfl (by simp) (by omega);have t2:=zAr hQ2 _ ⟨#[32]⟩ rfl rfl (by omega) (by simp);have t3:=zAr hQ3 _ _ rfl rfl (by omega) (by omega);have t4:=zAr hQ4 _ _ rfl rfl (by omega) (by omega);have HR:=qH (show bA Q4=bA (zDn L _) by rw [HT.out,←hQ4,←hQ3,←hQ2,←hQ1,←hPL,←HOV.out];simp [zGC]);have HPL:=qH hPL;have HNF:=qH hnf;clear HT hQ1 hQ2 hQ3 hQ4 m1 m2 m3 l1 lOV hlP hPL hnf HFR;go_wp2_with fail
   first
    | go_region_held3 (fun wx=>Below wc.heap.size wc wx∧wx.cell? ⟨w.heap.size,0,none⟩=some (.slice A n c)∧wx.cell? ⟨w.heap.size,1,none⟩=some (.int .i64 re)∧wx.cell? ⟨w.heap.size,2,none⟩=some (.int .i64 lo)∧wx.cell? ⟨w.heap.size+1,0,none⟩=some (.int .i64 5)∧wx.cell? ⟨w.heap.size+1,1,none⟩=some (.int .i64 f)∧wx.cell? ⟨w.heap.size+1,2,none⟩=some (.int .i64 ff)∧wx.cell? ⟨w.heap.size+1,3,none⟩=some (.int .i64 fl)∧wx.cell? ⟨w.heap.size+1,4,none⟩=some (.bool ffar)∧wx.cell? ⟨w.heap.size+1,5,none⟩=some (.int .i64 fpc)∧wx.cell? ⟨w.heap.size+1,6,none⟩=some (.slice B m d)∧wx.cell? ⟨w.heap.size+1,7,none⟩=some (.bool over)) (first | assumption | exact KP.out _ (Below.refl _ _).drew | exact KP.out _ (zAa (And.left (by assumption)) (by assumption) (Below.size (And.left (by assumption)))))
      (first
       | (go_at_call 109;refine (zIq HPL.out _ (hAx.below (And.left (by assumption))) hv HNF.out (htx.below (And.left (by assumption)))).mono ?_;rintro e wd ⟨rfl,hbd⟩)
       | (go_at_call 108;refine (zGA HOV.out _).mono ?_;rintro e we ⟨rfl,rfl⟩))
    | fail
   all_goals
    have hbf:=zAa hb2 (And.left (show Below wc.heap.size wc _∧_ from by assumption)) hb2.size;go_wp2_with fail
    go_ret;exact ⟨zDl HR.out,hbf⟩
  ·have hnf:=HFR.out (by omega);have hnf2:=zAj.1 hnf;simp only at hnf2;have hlP:=zBq hv (f:=ff) (by omega) (by rw [HNL.out];omega);obtain ⟨PL,hPL⟩:∃T,nmF L ff=T:=⟨_,rfl⟩
   rw [hPL] at hlP;have HPL:=qH hPL;have HNF:=qH (show 1≤ff∧ff≤(n:Int) from ⟨hnf2.1,hnf2.2.1⟩);clear hnf hnf2 HFR;rcases hk with rfl | rfl
   ·obtain ⟨Q1,hQ1⟩:∃T,[32,102,114,111,109,32]++PL=T:=⟨_,rfl⟩
    obtain ⟨Q2,hQ2⟩:∃T,Q1++[32]=T:=⟨_,rfl⟩
    obtain ⟨Q3,hQ3⟩:∃T,Q2++OV=T:=⟨_,rfl⟩
    obtain ⟨Q4,hQ4⟩:∃T,G1++Q3=T:=⟨_,rfl⟩
    have m1:Q1.length≤116:=by rw [←hQ1];simp;omega
    have m2:Q2.length≤117:=by rw [←hQ2];simp;omega
    have m3:Q3.length≤122:=by rw [←hQ3];simp;omega
    have t1:=zAr hQ1 ⟨#[32,102,114,111,109,32]⟩ _ rfl rfl (by simp) (by omega);have t2:=zAr hQ2 _ ⟨#[32]⟩ rfl rfl (by omega) (by simp);have t3:=zAr hQ3 _ _ rfl rfl (by omega) (by omega);have t4:=zAr hQ4 _ _ rfl rfl (by omega) (by omega);have HR:=qH (show bA Q4=bA (zDn L _) by rw [HT.out,←hQ4,←hQ3,←hQ2,←hQ1,←hPL,←HOV.out];simp [zGC]);clear HT hQ1 hQ2 hQ3 hQ4 m1 m2 m3 l1 lOV hlP hPL;go_wp2_with fail
    first
     | go_region_held3 (fun wx=>Below wc.heap.size wc wx∧wx.cell? ⟨w.heap.size,0,none⟩=some (.slice A n c)∧wx.cell? ⟨w.heap.size,1,none⟩=some (.int .i64 re)∧wx.cell? ⟨w.heap.size,2,none⟩=some (.int .i64 lo)∧wx.cell? ⟨w.heap.size+1,0,none⟩=some (.int .i64 6)∧wx.cell? ⟨w.heap.size+1,1,none⟩=some (.int .i64 f)∧wx.cell? ⟨w.heap.size+1,2,none⟩=some (.int .i64 ff)∧wx.cell? ⟨w.heap.size+1,3,none⟩=some (.int .i64 fl)∧wx.cell? ⟨w.heap.size+1,4,none⟩=some (.bool ffar)∧wx.cell? ⟨w.heap.size+1,5,none⟩=some (.int .i64 fpc)∧wx.cell? ⟨w.heap.size+1,6,none⟩=some (.slice B m d)∧wx.cell? ⟨w.heap.size+1,7,none⟩=some (.bool over)) (first | assumption | exact KP.out _ (Below.refl _ _).drew | exact KP.out _ (zAa (And.left (by assumption)) (by assumption) (Below.size (And.left (by assumption)))))
       (first
        | (go_at_call 107;refine (zCU HPL.out _ (hAx.below (And.left (by assumption))) hv HNF.out.1 HNF.out.2).mono ?_;rintro e wd ⟨rfl,hbd⟩)
        | (go_at_call 108;refine (zGA HOV.out _).mono ?_;rintro e we ⟨rfl,rfl⟩))
     | fail
    all_goals
     have hbf:=zAa hb2 (And.left (show Below wc.heap.size wc _∧_ from by assumption)) hb2.size;go_wp2_with fail
     go_ret;exact ⟨zDl HR.out,hbf⟩
   ·obtain ⟨Q1,hQ1⟩:∃T,[32,119,105,116,104,32]++PL=T:=⟨_,rfl⟩
    obtain ⟨Q2,hQ2⟩:∃T,Q1++[32]=T:=⟨_,rfl⟩
    obtain ⟨Q3,hQ3⟩:∃T,Q2++OV=T:=⟨_,rfl⟩
    obtain ⟨Q4,hQ4⟩:∃T,G1++Q3=T:=⟨_,rfl⟩
    have m1:Q1.length≤116:=by rw [←hQ1];simp;omega
    have m2:Q2.length≤117:=by rw [←hQ2];simp;omega
    have m3:Q3.length≤122:=by rw [←hQ3];simp;omega
    have t1:=zAr hQ1 ⟨#[32,119,105,116,104,32]⟩ _ rfl rfl (by simp) (by omega);have t2:=zAr hQ2 _ ⟨#[32]⟩ rfl rfl (by omega) (by simp);have t3:=zAr hQ3 _ _ rfl rfl (by omega) (by omega);have t4:=zAr hQ4 _ _ rfl rfl (by omega) (by omega);have HR:=qH (show bA Q4=bA (zDn L _) by rw [HT.out,←hQ4,←hQ3,←hQ2,←hQ1,←hPL,←HOV.out];simp [zGC]);clear HT hQ1 hQ2 hQ3 hQ4 m1 m2 m3 l1 lOV hlP hPL;go_wp2_with fail
    first
     | go_region_held3 (fun wx=>Below wc.heap.size wc wx∧wx.cell? ⟨w.heap.size,0,none⟩=some (.slice A n c)∧wx.cell? ⟨w.heap.size,1,none⟩=some (.int .i64 re)∧wx.cell? ⟨w.heap.size,2,none⟩=some (.int .i64 lo)∧wx.cell? ⟨w.heap.size+1,0,none⟩=some (.int .i64 7)∧wx.cell? ⟨w.heap.size+1,1,none⟩=some (.int .i64 f)∧wx.cell? ⟨w.heap.size+1,2,none⟩=some (.int .i64 ff)∧wx.cell? ⟨w.heap.size+1,3,none⟩=some (.int .i64 fl)∧wx.cell? ⟨w.heap.size+1,4,none⟩=some (.bool ffar)∧wx.cell? ⟨w.heap.size+1,5,none⟩=some (.int .i64 fpc)∧wx.cell? ⟨w.heap.size+1,6,none⟩=some (.slice B m d)∧wx.cell? ⟨w.heap.size+1,7,none⟩=some (.bool over)) (first | assumption | exact KP.out _ (Below.refl _ _).drew | exact KP.out _ (zAa (And.left (by assumption)) (by assumption) (Below.size (And.left (by assumption)))))
       (first
        | (go_at_call 107;refine (zCU HPL.out _ (hAx.below (And.left (by assumption))) hv HNF.out.1 HNF.out.2).mono ?_;rintro e wd ⟨rfl,hbd⟩)
        | (go_at_call 108;refine (zGA HOV.out _).mono ?_;rintro e we ⟨rfl,rfl⟩))
     | fail
    all_goals
     have hbf:=zAa hb2 (And.left (show Below wc.heap.size wc _∧_ from by assumption)) hb2.size;go_wp2_with fail
     go_ret;exact ⟨zDl HR.out,hbf⟩
  ·have hnf:=HFR.out (by omega);have hlP:=zCa hv (s:=⟨ff,fl,ffar,fpc⟩) (by rw [HNL.out];exact hnf);obtain ⟨PL,hPL⟩:∃T,zBX L ⟨ff,fl,ffar,fpc⟩=T:=⟨_,rfl⟩
   obtain ⟨Z1,hZ1⟩:∃T,[32,102,114,111,109,32]++PL=T:=⟨_,rfl⟩
   rw [hPL] at hlP;have mZ:Z1.length≤116:=by rw [←hZ1];simp;omega
   have t1:=zAr hZ1 ⟨#[32,102,114,111,109,32]⟩ _ rfl rfl (by simp) (by omega);have HPL:=qH hPL;have HZ1:=qH hZ1;have HNF:=qH hnf;have hstart:Hid (G1=G1++zGB L (path.take 0)):=qH (by simp [zGB]);clear hPL hZ1 hlP hnf HFR KP;go_wp2_with fail
   clear a0 a1 a2 e0 e1 e2 e3 e4 e5 e6 e7;go_loopw [5,32] (fun v5 v32 wr=>∃(i:Nat) (T:List UInt8),i≤m∧v32=.int .i64 i∧v5=.string (bA T)∧Below wc.heap.size wc wr∧Hid (T=G1++zGB L (path.take i))∧T.length≤52+i*120) (fun _ v32 _=>m-(intOf v32).toNat)
   case atStart=>exact ⟨0,G1,Nat.zero_le _,rfl,rfl,Below.refl _ _,hstart,by omega⟩
   case round =>
    obtain ⟨i,T,hi,rfl,rfl,hbr,HTT,hTl⟩:=hrel;have hfr:=hfx.below hbr hfx.lt;have hor:=hkx.below hbr hkx.lt;have hAr:=hAx.below hbr;have htr:=htx.below hbr;have hbw:=zAa hb2 hbr hb2.size;by_cases hlt:i < m
    ·obtain ⟨g,p,rfl,hg,⟨x0,x1,x2,x3,x4⟩,_⟩:=(hPx.below hbr).at_ hlt;have j0:(0:Int)≤(i:Int):=by omega
     have j1:(i:Int) < (m:Int):=by omega
     have hil:i < path.length:=by rw [HLEN.out];exact hlt
     have hsn:=zMP L hil;have hnm:=HPN.out _ (List.mem_of_getElem? (zBS hil));generalize pa path i=x at x0 x1 x2 x3 x4 hsn hnm;obtain ⟨⟨xf,xl,xfar,xpc⟩,xo⟩:=x;simp only at x0 x1 x2 x3 x4 hnm;have hlX:=zCa hv (s:=⟨xf,xl,xfar,xpc⟩) (by rw [HNL.out];exact hnm);have hlO:=zEw xo;have hst:zOd L ⟨⟨xf,xl,xfar,xpc⟩,xo⟩=[32]++zAL xo++[32]++zBX L ⟨xf,xl,xfar,xpc⟩++[44]:=rfl;obtain ⟨PX,hPX⟩:∃T,zBX L ⟨xf,xl,xfar,xpc⟩=T:=⟨_,rfl⟩
     obtain ⟨OX,hOX⟩:∃T,zAL xo=T:=⟨_,rfl⟩
     obtain ⟨Y1,hY1⟩:∃T,[32]++OX=T:=⟨_,rfl⟩
     obtain ⟨Y2,hY2⟩:∃T,Y1++[32]=T:=⟨_,rfl⟩
     obtain ⟨Y3,hY3⟩:∃T,Y2++PX=T:=⟨_,rfl⟩
     obtain ⟨Y4,hY4⟩:∃T,Y3++[44]=T:=⟨_,rfl⟩
     obtain ⟨Y5,hY5⟩:∃U,T++Y4=U:=⟨_,rfl⟩
     rw [hPX] at hlX;rw [hOX] at hlO;have y1:Y1.length≤6:=by rw [←hY1];simp;omega
     have y2:Y2.length≤7:=by rw [←hY2];simp;omega
     have y3:Y3.length≤117:=by rw [←hY3];simp;omega
     have y4:Y4.length≤118:=by rw [←hY4];simp;omega
     have y5:Y5.length≤52+(i+1)*120:=by rw [←hY5];simp;omega
     have r1:=zAr hY1 ⟨#[32]⟩ _ rfl rfl (by simp) (by omega);have r2:=zAr hY2 _ ⟨#[32]⟩ rfl rfl (by omega) (by simp);have r3:=zAr hY3 _ _ rfl rfl (by omega) (by omega);have r4:=zAr hY4 _ ⟨#[44]⟩ rfl rfl (by omega) (by simp);have r5:=zAr hY5 _ _ rfl rfl (by omega) (by omega);have HTT1:=qH (show Y5=G1++zGB L (path.take (i+1)) by rw [hsn,hst,hPX,hOX,←hY5,HTT.out,←hY4,←hY3,←hY2,←hY1];simp);have HPX:=qH hPX;have HOX:=qH hOX;have HNX:=qH hnm;have hb4:Below wc.heap.size wc (wr.alloc (.cells #[.int .i64 xf,.int .i64 xl,.bool xfar,.int .i64 xpc,.bool xo] 86)):=hbr.alloc hbr.size _;have hfr4:=hfr.alloc (.cells #[.int .i64 xf,.int .i64 xl,.bool xfar,.int .i64 xpc,.bool xo] 86);have hs4:Blk (wr.alloc (.cells #[.int .i64 xf,.int .i64 xl,.bool xfar,.int .i64 xpc,.bool xo] 86)) wr.heap.size 86 #[.int .i64 xf,.int .i64 xl,.bool xfar,.int .i64 xpc,.bool xo]:=Blk.new _ _ _;have hA4:=hAr.alloc (.cells #[.int .i64 xf,.int .i64 xl,.bool xfar,.int .i64 xpc,.bool xo] 86);have ht4:=htr.below ((Below.refl wr.heap.size wr).alloc (Nat.le_refl _) (.cells #[.int .i64 xf,.int .i64 xl,.bool xfar,.int .i64 xpc,.bool xo] 86));clear hsn hst hPX hOX hY1 hY2 hY3 hY4 hY5 y1 y2 y3 y4 hlX hlO hil HTT hnm;go_wp2_with fail
     clear x0 x1 x2 x3 x4 hg hbr hfr hor hAr htr hbw;generalize wr.alloc (.cells #[.int .i64 xf,.int .i64 xl,.bool xfar,.int .i64 xpc,.bool xo] 86)=Y at hb4 hfr4 hs4 hA4 ht4 ⊢
     have KP:=qH (show ∀wx,Below Y.heap.size Y wx→(Below Y.heap.size Y wx∧wx.cell? ⟨w.heap.size,0,none⟩=some (.slice A n c)∧wx.cell? ⟨w.heap.size,1,none⟩=some (.int .i64 re)∧wx.cell? ⟨w.heap.size,2,none⟩=some (.int .i64 lo)∧wx.cell? ⟨wr.heap.size,0,none⟩=some (.int .i64 xf)∧wx.cell? ⟨wr.heap.size,1,none⟩=some (.int .i64 xl)∧wx.cell? ⟨wr.heap.size,2,none⟩=some (.bool xfar)∧wx.cell? ⟨wr.heap.size,3,none⟩=some (.int .i64 xpc)∧wx.cell? ⟨wr.heap.size,4,none⟩=some (.bool xo)) from
      fun wx h=>⟨h,((hfr4.below h hfr4.lt).cell 0).trans rfl,((hfr4.below h hfr4.lt).cell 1).trans rfl,((hfr4.below h hfr4.lt).cell 2).trans rfl,((hs4.below h hs4.lt).cell 0).trans rfl,((hs4.below h hs4.lt).cell 1).trans rfl,((hs4.below h hs4.lt).cell 2).trans rfl,((hs4.below h hs4.lt).cell 3).trans rfl,((hs4.below h hs4.lt).cell 4).trans rfl⟩)
     first
      | go_region_held3 (fun wx=>Below Y.heap.size Y wx∧wx.cell? ⟨w.heap.size,0,none⟩=some (.slice A n c)∧wx.cell? ⟨w.heap.size,1,none⟩=some (.int .i64 re)∧wx.cell? ⟨w.heap.size,2,none⟩=some (.int .i64 lo)∧wx.cell? ⟨wr.heap.size,0,none⟩=some (.int .i64 xf)∧wx.cell? ⟨wr.heap.size,1,none⟩=some (.int .i64 xl)∧wx.cell? ⟨wr.heap.size,2,none⟩=some (.bool xfar)∧wx.cell? ⟨wr.heap.size,3,none⟩=some (.int .i64 xpc)∧wx.cell? ⟨wr.heap.size,4,none⟩=some (.bool xo)) (first | assumption | exact KP.out _ (Below.refl _ _).drew | exact KP.out _ (zAa (And.left (by assumption)) (by assumption) (Below.size (And.left (by assumption)))))
        (first
         | (go_at_call 109;refine (zIq HPX.out _ (hA4.below (And.left (by assumption))) hv HNX.out (ht4.below (And.left (by assumption)))).mono ?_;rintro e wd ⟨rfl,hbd⟩)
         | (go_at_call 108;refine (zGA HOX.out _).mono ?_;rintro e we ⟨rfl,rfl⟩))
      | fail
     all_goals
      have hbf:=zAa hb4 (And.left (show Below Y.heap.size Y _∧_ from by assumption)) hb4.size;go_wp2_with fail
      go_roundw
      case rel=>exact ⟨i+1,Y5,by omega,by go_num,rfl,hbf,HTT1,y5⟩
      case measure=>simp [intOf];omega
    ·have hin:i=m:=by omega
     obtain ⟨Z2,hZ2⟩:∃U,T++Z1=U:=⟨_,rfl⟩
     have j1:¬(i:Int) < (m:Int):=by omega
     have t2:=zAr hZ2 _ _ rfl rfl (by omega) (by omega)
     have HR:=qH (show bA Z2=bA (zDn L _) by
      rw [HT.out,←hZ2,←HZ1.out,←HPL.out,HTT.out,hin,←HLEN.out,List.take_length];simp [zGC])
     obtain ⟨b0,b1,b2⟩:=cQ3 hfr;obtain ⟨-,-,d2,d3,d4,d5⟩:=cQ6 hor;clear hin hZ2 HTT HT;go_wp2_with fail
     refine (zIq HPL.out _ hAr hv HNF.out htr).mono ?_;rintro e wd ⟨rfl,hbd⟩;have hbf:=zAa hbw hbd hbw.size;clear b0 b1 b2 d2 d3 d4 d5;go_wp2_with fail
     go_ret;exact ⟨zDl HR.out,hbf⟩
def zAP (L:List Fg) (re lo:Int) (O:List Og):Int:=if frB L re lo&&O.all (zAh L.length) then 0 else 2
theorem zMQ {L:List Fg} {re lo:Int} {O:List Og} (h:frB L re lo=false):zAP L re lo O=2:=by unfold zAP;rw [h];rfl
theorem zJD {L:List Fg} {re lo:Int} {Es:List Oe} {i:Nat} (hi:i < Es.length) (h:zAh L.length (oa Es i).o=false):zAP L re lo (Es.map (·.o))=2:=by
 have:(Es.map (·.o)).all (zAh L.length)=false:=by
  cases e:(Es.map (·.o)).all (zAh L.length) with
  | false=>rfl
  | true =>
   rw [List.all_eq_true] at e;have:=e _ (List.mem_map_of_mem (List.mem_of_getElem? (zBT hi)));rw [h] at this;cases this
 unfold zAP;rw [this];simp
theorem zOe {L:List Fg} {re lo:Int} {Es:List Oe} (h:frB L re lo=true) (ho:∀i,i < Es.length→zAh L.length (oa Es i).o=true):zAP L re lo (Es.map (·.o))=0:=by
 have:(Es.map (·.o)).all (zAh L.length)=true:=by
  rw [List.all_eq_true];intro x hx;obtain ⟨e,he,rfl⟩:=List.mem_map.1 hx;obtain ⟨i,hi⟩:=List.getElem?_of_mem he;have hlt:=(List.getElem?_eq_some_iff.1 hi).1;have h2:=ho i hlt;have h3:=zBT hlt;rw [hi] at h3;injection h3 with h3
  rw [h3];exact h2
 unfold zAP;rw [this,h];rfl
theorem zEx {L:List Fg} {re lo:Int} {b:Bool} (h:frB L re lo=b) (A:Option Addr) (n c:Nat) (w:World) (hA:Fgs w A n L) (hc:n≤c) :
  Calls Tryz.prog 88 #[frV A n c re lo] w fun e w'=>e=.returned (.bool b)∧Below w.heap.size w w':=by
 subst h;exact zML A n c L re lo w hA hc
theorem zQD {k:Nat} {o:Og} {b:Bool} (h:zAh k o=b) (A:Option Addr) (c:Nat) (re lo:Int) (B:Option Addr) (m d:Nat) (w:World) (hO:OpIn w o B m d) :
  Calls Tryz.prog 104 #[frV A k c re lo,opV o B m d] w fun e w'=>e=.returned (.bool (!b))∧Below w.heap.size w w':=by
 subst h;exact zKI A k c re lo o B m d w hO
set_option maxHeartbeats 3200000 in
theorem zEg (A:Option Addr) (n c:Nat) (L:List Fg) (re lo:Int) (B:Option Addr) (m d:Nat) (Es:List Oe) (w:World) (hA:Fgs w A n L) (hc:n≤c) (hO:Oprs w B m Es) :
  Calls Tryz.prog 58 #[frV A n c re lo,.slice B m d] w fun e w'=>e=.returned (.int .i64 (zAP L re lo (Es.map (·.o))))∧Below w.heap.size w w':=by
 have hle:=hO.le;have HLEN:=qH hO.len;have HNL:=qH hA.len;have hb0:Below w.heap.size w (w.alloc (.cells #[.slice A n c,.int .i64 re,.int .i64 lo] 24)):=(Below.refl _ _).alloc (Nat.le_refl _) _;have hk0:Blk (w.alloc (.cells #[.slice A n c,.int .i64 re,.int .i64 lo] 24)) w.heap.size 24 #[.slice A n c,.int .i64 re,.int .i64 lo]:=Blk.new _ _ _;obtain ⟨b,hb⟩:∃b,frB L re lo=b:=⟨_,rfl⟩
 have HV:=qH (zEx hb A n c _ (hA.below hb0) hc);have HB:=qH hb;clear hb
 cases b with
 | false =>
  have hr:=qH (zMQ (O:=Es.map (·.o)) HB.out);go_enter Tryz.func58,Tryz.ntmps58;go_wp2_with fail
  refine HV.out.mono ?_;rintro e w2 ⟨rfl,hb2⟩;have hb3:=zAa hb0 hb2 hb0.size;go_wp2_with fail
  go_ret;exact ⟨zIm hr.out.symm,hb3⟩
 | true =>
  go_enter Tryz.func58,Tryz.ntmps58;go_wp2_with fail
  refine HV.out.mono ?_;rintro e w2 ⟨rfl,hb2⟩;have hb3:=zAa hb0 hb2 hb0.size;have hk2:=hk0.below hb2 hk0.lt;go_wp2_with fail
  go_loopw [12] (fun v wr=>∃i:Nat,i≤m∧v=.int .i64 i∧Below w2.heap.size w2 wr∧Hid (∀j:Nat,j < i→zAh L.length (oa Es j).o=true)) (fun v _=>m-(intOf v).toNat)
  case atStart=>exact ⟨0,Nat.zero_le _,rfl,Below.refl _ _,qH (fun j hj=>by omega)⟩
  case round =>
   obtain ⟨i,hi,rfl,hbr,HS⟩:=hrel;have hkr:=hk2.below hbr hk2.lt;have hbw:=zAa hb3 hbr hb3.size;by_cases hlt:i < m
   ·obtain ⟨g,p,rfl,hg,⟨x0,x1,x2,x3,x4,x5,x6,x7⟩,hin⟩:=(hO.below hbw).at_ hlt;have j0:(0:Int)≤(i:Int):=by omega
    have j1:(i:Int) < (m:Int):=by omega
    obtain ⟨b,hb⟩:∃b,zAh n (oa Es i).o=b:=⟨_,rfl⟩
    have HB1:=qH hb;clear hb;have HB0:=qH HB1.out;generalize oa Es i=x at x0 x1 x2 x3 x4 x5 x6 x7 hin HB1;obtain ⟨⟨kind,f,⟨ff,fl,ffar,fpc⟩,path,over⟩,PA,pn,pc⟩:=x;simp only at x0 x1 x2 x3 x4 x5 x6 x7 hin;have hb4:Below w2.heap.size w2 (wr.alloc (.cells #[.int .i64 kind,.int .i64 f,.int .i64 ff,.int .i64 fl,.bool ffar,.int .i64 fpc,.slice PA pn pc,.bool over] 32)):=hbr.alloc hbr.size _;have hk4:=hkr.alloc (.cells #[.int .i64 kind,.int .i64 f,.int .i64 ff,.int .i64 fl,.bool ffar,.int .i64 fpc,.slice PA pn pc,.bool over] 32);have hin4:=hin.below ((Below.refl wr.heap.size wr).alloc (Nat.le_refl _) (.cells #[.int .i64 kind,.int .i64 f,.int .i64 ff,.int .i64 fl,.bool ffar,.int .i64 fpc,.slice PA pn pc,.bool over] 32));have y0:=(hk4.cell 0).trans rfl;have y1:=(hk4.cell 1).trans rfl;have y2:=(hk4.cell 2).trans rfl;have HW:=qH (zQD HB1.out A c re lo PA pn pc _ hin4);clear hin hin4 HB1
    cases b with
    | true =>
     have HS1:=qH (show ∀j:Nat,j < i+1→zAh L.length (oa Es j).o=true from fun j hj=>by
      rcases Nat.decEq j i with e | e
      ·exact HS.out j (by omega)
      ·subst e;rw [HNL.out];exact HB0.out)
     clear HS HB0;go_wp2_with fail
     refine HW.out.mono ?_;rintro e w5 ⟨rfl,hb5⟩;have hb6:=zAa hb4 hb5 hb4.size;clear y0 y1 y2 x0 x1 x2 x3 x4 x5 x6 x7;go_wp2_with fail
     go_roundw
     case rel=>exact ⟨i+1,by omega,by go_num,hb6,HS1⟩
     case measure=>simp [intOf];omega
    | false =>
     have hr:=qH (zJD (L:=L) (re:=re) (lo:=lo) (Es:=Es) (i:=i) (by rw [HLEN.out];exact hlt) (by rw [HNL.out];exact HB0.out));clear HS HB0;go_wp2_with fail
     refine HW.out.mono ?_;rintro e w5 ⟨rfl,hb5⟩;have hb6:=zAa hb4 hb5 hb4.size;clear y0 y1 y2 x0 x1 x2 x3 x4 x5 x6 x7;go_wp2_with fail
     go_ret;exact ⟨zIm hr.out.symm,zAa hb3 hb6 hb3.size⟩
   ·have j1:¬(i:Int) < (m:Int):=by omega
    have hr:=qH (zOe (L:=L) (re:=re) (lo:=lo) (Es:=Es) HB.out (fun j hj=>HS.out j (by rw [HLEN.out] at hj;omega)));clear HS;go_wp2_with fail
    go_ret;exact ⟨zIm hr.out.symm,hbw⟩
theorem zDo (L:List Fg) (re lo:Int) (O:List Og):(zAP L re lo O=0∧frOk L re lo∧∀o∈O,zAh L.length o=true)∨zAP L re lo O=2:=by
 unfold zAP
 cases h1:frB L re lo with
 | false=>exact .inr rfl
 | true =>
  cases h2:O.all (zAh L.length) with
  | false=>exact .inr rfl
  | true=>exact .inl ⟨rfl,zCR.1 h1,by simpa using h2⟩
theorem Oprs.one (w:World) (o:Og) (A:Option Addr) (n c:Nat) (t:TypeId) (h:OpIn w o A n c) :
  Oprs (w.alloc (.cells #[.int .i64 o.kind,.int .i64 o.f,.int .i64 o.fr.f,.int .i64 o.fr.l,.bool o.fr.far,.int .i64 o.fr.pc,.slice A n c,.bool o.over] t)) (some ⟨w.heap.size,0,none⟩) 1 [⟨o,A,n,c⟩]:=by
 refine ⟨⟨rfl,by omega,fun _=>⟨_,_,rfl,by simp,fun j x hx q v hv=>?_⟩⟩,fun e he=>?_⟩
 ·rcases j with _ | j
  ·simp only [List.getElem?_cons_zero,Option.some.injEq] at hx;subst hx;rw [Nat.zero_mul,Nat.add_zero,Nat.zero_add,World.cell?_alloc_at _ _ _ _ rfl,←Array.getElem?_toList];exact hv
  ·simp at hx
 ·obtain rfl:e=⟨o,A,n,c⟩:=by simpa using he
  exact h.below ((Below.refl _ _).alloc (Nat.le_refl _) _)
set_option maxHeartbeats 3200000 in
set_option maxRecDepth 100000 in
theorem zKK (A:Option Addr) (n c:Nat) (L:List Fg) (re lo:Int) (o:Og) (B:Option Addr) (m d:Nat) (w:World) (hA:Fgs w A n L) (hc:n≤c) (hO:OpIn w o B m d) (hm:m≤10000) (ht:Tabs w) :
  Calls Tryz.prog 41 #[frV A n c re lo,opV o B m d] w fun e w'=>e=.returned (.tuple #[.string (bA (if zAP L re lo [o]=0 then zDn L o else [])),.int .i64 (zAP L re lo [o])])∧Below w.heap.size w w':=by
 have hb0:Below w.heap.size w ((w.alloc (.cells #[.slice A n c,.int .i64 re,.int .i64 lo] 24)).alloc (.cells #[.int .i64 o.kind,.int .i64 o.f,.int .i64 o.fr.f,.int .i64 o.fr.l,.bool o.fr.far,.int .i64 o.fr.pc,.slice B m d,.bool o.over] 32)):=((Below.refl _ _).alloc (Nat.le_refl _) _).alloc (by simp) _;have hb1:Below w.heap.size w (((w.alloc (.cells #[.slice A n c,.int .i64 re,.int .i64 lo] 24)).alloc (.cells #[.int .i64 o.kind,.int .i64 o.f,.int .i64 o.fr.f,.int .i64 o.fr.l,.bool o.fr.far,.int .i64 o.fr.pc,.slice B m d,.bool o.over] 32)).alloc (.cells #[.int .i64 o.kind,.int .i64 o.f,.int .i64 o.fr.f,.int .i64 o.fr.l,.bool o.fr.far,.int .i64 o.fr.pc,.slice B m d,.bool o.over] 32)):=hb0.alloc hb0.size _;have hk0:=((Blk.new w 24 #[.slice A n c,.int .i64 re,.int .i64 lo]).alloc (.cells #[.int .i64 o.kind,.int .i64 o.f,.int .i64 o.fr.f,.int .i64 o.fr.l,.bool o.fr.far,.int .i64 o.fr.pc,.slice B m d,.bool o.over] 32)).alloc (.cells #[.int .i64 o.kind,.int .i64 o.f,.int .i64 o.fr.f,.int .i64 o.fr.l,.bool o.fr.far,.int .i64 o.fr.pc,.slice B m d,.bool o.over] 32);have hk1':Blk ((w.alloc (.cells #[.slice A n c,.int .i64 re,.int .i64 lo] 24)).alloc (.cells #[.int .i64 o.kind,.int .i64 o.f,.int .i64 o.fr.f,.int .i64 o.fr.l,.bool o.fr.far,.int .i64 o.fr.pc,.slice B m d,.bool o.over] 32)) (w.heap.size+1) 32 #[.int .i64 o.kind,.int .i64 o.f,.int .i64 o.fr.f,.int .i64 o.fr.l,.bool o.fr.far,.int .i64 o.fr.pc,.slice B m d,.bool o.over]:=heap_alloc2_new w _ _;have hk1:=hk1'.alloc (.cells #[.int .i64 o.kind,.int .i64 o.f,.int .i64 o.fr.f,.int .i64 o.fr.l,.bool o.fr.far,.int .i64 o.fr.pc,.slice B m d,.bool o.over] 32);have hone:=Oprs.one _ o B m d 32 (hO.below hb0);simp only [World.size_alloc] at hone;have hC:=zEg A n c L re lo _ 1 1 [⟨o,B,m,d⟩] _ (hA.below hb1) hc hone;rw [show List.map (fun e:Oe=>e.o) [(⟨o,B,m,d⟩:Oe)]=[o] from rfl] at hC;have hcase:=zDo L re lo [o];obtain ⟨E,hE⟩:∃E,zAP L re lo [o]=E:=⟨_,rfl⟩
 rw [hE] at hcase hC ⊢;have HC:=qH hC;have hn:=hA.len;have HN:=qH hn;obtain ⟨kind,f,⟨ff,fl,ffar,fpc⟩,path,over⟩:=o;simp only at hb0 hb1 hk0 hk1 hone HC ⊢;clear hE hk1' hone hn hC;rcases hcase with ⟨rfl,hfr,hro⟩ | rfl
 ·have hri:zAh n ⟨kind,f,⟨ff,fl,ffar,fpc⟩,path,over⟩=true:=by have:=hro _ (List.mem_singleton.2 rfl);rw [HN.out] at this;exact this
  have HLN:=qH (fun wx hAx hOx htx=>zHP A n c L re lo ⟨kind,f,⟨ff,fl,ffar,fpc⟩,path,over⟩ B m d wx hAx hfr hOx hri hm htx);clear hro hri;go_enter Tryz.func41,Tryz.ntmps41;go_wp2_with fail
  refine HC.out.mono ?_;rintro e w2 ⟨rfl,hb2⟩;have hb3:=zAa hb1 hb2 hb1.size;have hk2:=hk0.below hb2 hk0.lt;have ho2:=hk1.below hb2 hk1.lt;have a0:=(hk2.cell 0).trans rfl;have a1:=(hk2.cell 1).trans rfl;have a2:=(hk2.cell 2).trans rfl;have e0:=(ho2.cell 0).trans rfl;have e1:=(ho2.cell 1).trans rfl;have e2:=(ho2.cell 2).trans rfl;have e3:=(ho2.cell 3).trans rfl;have e4:=(ho2.cell 4).trans rfl;have e5:=(ho2.cell 5).trans rfl;have e6:=(ho2.cell 6).trans rfl;have e7:=(ho2.cell 7).trans rfl;go_wp2_with fail
  refine (HLN.out _ (hA.below hb3) (hO.below hb3) (ht.below hb3)).mono ?_;rintro e w5 ⟨rfl,hb5⟩;have hb6:=zAa hb3 hb5 hb3.size;clear a0 a1 a2 e0 e1 e2 e3 e4 e5 e6 e7;go_wp2_with fail
  go_ret2;exact ⟨by simp,hb6⟩
 ·go_enter Tryz.func41,Tryz.ntmps41;go_wp2_with fail
  refine HC.out.mono ?_;rintro e w2 ⟨rfl,hb2⟩;have hb3:=zAa hb1 hb2 hb1.size;go_wp2_with fail
  go_ret2;exact ⟨rfl,hb3⟩
end Go.Proofs.YtlmdfmnbcndhoaaGreatDoor
