/-
  Lemmas, part 42. Conditions: each theorem's own.
-/
import Derived.Test.YtlmdfmnbcndhoaaGreatDoorRi41
import Derived.Test.YtlmdfmnbcndhoaaGreatDoorRi39
import Derived.Test.YtlmdfmnbcndhoaaGreatDoorRi23
import Derived.Test.YtlmdfmnbcndhoaaGreatDoorRi24
import Derived.Test.YtlmdfmnbcndhoaaGreatDoorRi37
namespace Go.Proofs.YtlmdfmnbcndhoaaGreatDoor
open Go.RowKit
theorem zFI {L:List Fg} (hv:TOk L) {s:Sg} (h1:1≤s.f) (h2:s.f≤(L.length:Int)):(zBb L s).length≤44:=by
 have a:=hv.len h1 h2;unfold zBb;split<;>simp<;>omega
set_option maxHeartbeats 3200000 in
theorem zNH (A:Option Addr) (n c:Nat) (L:List Fg) (re lo:Int) (s:Sg) (w:World) (hA:Fgs w A n L) (hv:TOk L) (h1:1≤s.f) (h2:s.f≤(n:Int)) :
  Calls Tryz.prog 118 #[frV A n c re lo,sgV s] w fun e w'=>e=.returned (.string (bA (zBb L s)))∧Below w.heap.size w w':=by
 have hlN:=hv.len h1 (by rw [hA.len];exact h2);obtain ⟨f,l,far,pc⟩:=s;simp only at h1 h2 hlN ⊢;obtain ⟨NM,hNM⟩:∃NM,nmF L f=NM:=⟨_,rfl⟩
 obtain ⟨SD,hSD⟩:∃SD:List UInt8,(if far then [102] else [110])=SD:=⟨_,rfl⟩
 have hlS:SD.length≤1:=by rw [←hSD];cases far<;>decide
 have hEI:(if far then (⟨#[102]⟩:ByteArray) else ⟨#[110]⟩)=bA SD:=by rw [←hSD];cases far<;>rfl
 obtain ⟨T1,hT1⟩:∃T,NM++SD=T:=⟨_,rfl⟩
 rw [hNM] at hlN;have s1:=zAr hT1 _ _ rfl rfl (by omega) (by omega);have HR:=qH (show bA T1=bA (zBb L ⟨f,l,far,pc⟩) by rw [←hT1,←hNM,←hSD];rfl);have HNM:=qH hNM;have HEI:=qH hEI;have H12:=qH (show 1≤f∧f≤(n:Int) from ⟨h1,h2⟩);have HA:=qH hA;have HB:=qH (Below.refl w.heap.size w);clear hNM hSD hlN hlS h1 h2 hEI hA hT1;go_enter Tryz.func118,Tryz.ntmps118;have hba:Below w.heap.size w ((w.alloc (.cells #[.slice A n c,.int .i64 re,.int .i64 lo] 24)).alloc (.cells #[.int .i64 f,.int .i64 l,.bool far,.int .i64 pc] 29)):=((Below.refl _ _).alloc (Nat.le_refl _) _).alloc (by simp) _;replace HA:=qH (HA.out.below hba);replace HB:=qH (zAa HB.out hba HB.out.size);have kf:=(Blk.new w 24 #[.slice A n c,.int .i64 re,.int .i64 lo]).alloc (.cells #[.int .i64 f,.int .i64 l,.bool far,.int .i64 pc] 29);have ks:Blk ((w.alloc (.cells #[.slice A n c,.int .i64 re,.int .i64 lo] 24)).alloc (.cells #[.int .i64 f,.int .i64 l,.bool far,.int .i64 pc] 29)) (w.heap.size+1) 29 #[.int .i64 f,.int .i64 l,.bool far,.int .i64 pc]:=heap_alloc2_new w _ _;clear hba;go_upto_region 1 with fail
 generalize (w.alloc (.cells #[.slice A n c,.int .i64 re,.int .i64 lo] 24)).alloc (.cells #[.int .i64 f,.int .i64 l,.bool far,.int .i64 pc] 29)=X at HA HB kf ks ⊢;have k0:∀wx,Below X.heap.size X wx→(Below X.heap.size X wx∧wx.cell? ⟨w.heap.size,0,none⟩=some (.slice A n c)∧wx.cell? ⟨w.heap.size,1,none⟩=some (.int .i64 re)∧wx.cell? ⟨w.heap.size,2,none⟩=some (.int .i64 lo)∧wx.cell? ⟨w.heap.size+1,0,none⟩=some (.int .i64 f)∧wx.cell? ⟨w.heap.size+1,2,none⟩=some (.bool far)):=fun wx h=>⟨h,((kf.below h kf.lt).cell 0).trans rfl,((kf.below h kf.lt).cell 1).trans rfl,((kf.below h kf.lt).cell 2).trans rfl,((ks.below h ks.lt).cell 0).trans rfl,((ks.below h ks.lt).cell 2).trans rfl⟩
 have KP:=qH k0;clear k0;have gq0:=(KP.out X (Below.refl _ _)).2.1;have gq1:=(KP.out X (Below.refl _ _)).2.2.1;have gq2:=(KP.out X (Below.refl _ _)).2.2.2.1;have gq3:=(KP.out X (Below.refl _ _)).2.2.2.2.1;have gq4:=(KP.out X (Below.refl _ _)).2.2.2.2.2
 first
  | go_region_held3 (fun wx=>Below X.heap.size X wx∧wx.cell? ⟨w.heap.size,0,none⟩=some (.slice A n c)∧wx.cell? ⟨w.heap.size,1,none⟩=some (.int .i64 re)∧wx.cell? ⟨w.heap.size,2,none⟩=some (.int .i64 lo)∧wx.cell? ⟨w.heap.size+1,0,none⟩=some (.int .i64 f)∧wx.cell? ⟨w.heap.size+1,2,none⟩=some (.bool far)) (first | assumption | exact KP.out _ (Below.refl _ _).drew | exact KP.out _ (zAa (And.left (by assumption)) (by assumption) (Below.size (And.left (by assumption)))))
    (first
     | (go_at_call 63;refine (zGr HNM.out _ (HA.out.below (And.left (by assumption))) hv H12.out.1 H12.out.2).mono ?_;rintro e wa ⟨rfl,hba⟩)
     | (go_at_call 64;refine (zHn HEI.out _).mono ?_;rintro e wc ⟨rfl,rfl⟩))
  | fail
 all_goals
  have hbf:=And.left (show Below X.heap.size X _∧_ by assumption);clear gq0 gq1 gq2 gq3 gq4;go_wp2_with fail
  go_ret;exact ⟨zDl HR.out,zAa HB.out hbf HB.out.size⟩
theorem zGs {A:Option Addr} {n c:Nat} {L:List Fg} {re lo:Int} {s:Sg} {S:List UInt8} (h:zBb L s=S) (w:World) (hA:Fgs w A n L) (hv:TOk L) (h1:1≤s.f) (h2:s.f≤(n:Int)) :
  Calls Tryz.prog 118 #[frV A n c re lo,sgV s] w fun e w'=>e=.returned (.string (bA S))∧Below w.heap.size w w':=by
 subst h;exact zNH A n c L re lo s w hA hv h1 h2
set_option maxHeartbeats 12800000 in
set_option maxRecDepth 100000 in
theorem zPW (A:Option Addr) (n c:Nat) (L:List Fg) (re lo:Int) (o:Og) (B:Option Addr) (m d:Nat) (w:World) (hA:Fgs w A n L) (hv:TOk L) (hO:OpIn w o B m d) (hr:zAh n o=true) (hm:m≤10000) :
  Calls Tryz.prog 71 #[frV A n c re lo,opV o B m d] w fun e w'=>e=.returned (.string (bA (zBc L o)))∧Below w.heap.size w w':=by
 obtain ⟨h1,h8,hf1,hf2,hpn,hfrn⟩:=zAS hr;have hlen:=hO.path.len;have hlN:=hv.len hf1 (by rw [hA.len];exact hf2);have hP:Stps w B m o.path:=hO.path;have hLF:zBc L o=nmF L o.f++zCE o.kind++zBm L o:=rfl;have hnl:=hA.len;obtain ⟨kind,f,⟨ff,fl,ffar,fpc⟩,path,over⟩:=o;simp only at h1 h8 hf1 hf2 hpn hfrn hlen hlN hP hLF ⊢;obtain ⟨NM,hNM⟩:∃T,nmF L f=T:=⟨_,rfl⟩
 obtain ⟨OV,hOV⟩:∃T,zAo over=T:=⟨_,rfl⟩
 have lOV:OV.length≤1:=by rw [←hOV];cases over<;>decide
 have hEI:(if over then (⟨#[111]⟩:ByteArray) else ⟨#[117]⟩)=bA OV:=by rw [←hOV];cases over<;>rfl
 rw [hNM] at hlN hLF;have HLF:=qH hLF;have HNM:=qH hNM;have HOV:=qH hOV;have HEI:=qH hEI;have HF12:=qH (show 1≤f∧f≤(n:Int) from ⟨hf1,hf2⟩);have HPN:=qH hpn;have HFR:=qH hfrn;have HLEN:=qH hlen;have HNL:=qH hnl;have HK:=qH (show 1≤kind∧kind≤8 from ⟨h1,h8⟩);have HA:=qH hA;have HP:=qH hP;have HB:=qH (Below.refl w.heap.size w);clear hLF hNM hOV hEI hf1 hf2 hpn hfrn hlen hnl h1 h8 hA hP hO hr;go_enter Tryz.func71,Tryz.ntmps71;have hba:Below w.heap.size w ((w.alloc (.cells #[.slice A n c,.int .i64 re,.int .i64 lo] 24)).alloc (.cells #[.int .i64 kind,.int .i64 f,.int .i64 ff,.int .i64 fl,.bool ffar,.int .i64 fpc,.slice B m d,.bool over] 32)):=((Below.refl _ _).alloc (Nat.le_refl _) _).alloc (by simp) _;replace HA:=qH (HA.out.below hba);replace HP:=qH (HP.out.below hba);replace HB:=qH (zAa HB.out hba HB.out.size);have kf:=(Blk.new w 24 #[.slice A n c,.int .i64 re,.int .i64 lo]).alloc (.cells #[.int .i64 kind,.int .i64 f,.int .i64 ff,.int .i64 fl,.bool ffar,.int .i64 fpc,.slice B m d,.bool over] 32);have ks:Blk ((w.alloc (.cells #[.slice A n c,.int .i64 re,.int .i64 lo] 24)).alloc (.cells #[.int .i64 kind,.int .i64 f,.int .i64 ff,.int .i64 fl,.bool ffar,.int .i64 fpc,.slice B m d,.bool over] 32)) (w.heap.size+1) 32 #[.int .i64 kind,.int .i64 f,.int .i64 ff,.int .i64 fl,.bool ffar,.int .i64 fpc,.slice B m d,.bool over]:=heap_alloc2_new w _ _;clear hba;go_upto_region 1 with fail
 generalize (w.alloc (.cells #[.slice A n c,.int .i64 re,.int .i64 lo] 24)).alloc (.cells #[.int .i64 kind,.int .i64 f,.int .i64 ff,.int .i64 fl,.bool ffar,.int .i64 fpc,.slice B m d,.bool over] 32)=X at HA HP HB kf ks ⊢;have a0:X.cell? ⟨w.heap.size,0,none⟩=some (.slice A n c):=(kf.cell 0).trans rfl;have a1:X.cell? ⟨w.heap.size,1,none⟩=some (.int .i64 re):=(kf.cell 1).trans rfl;have a2:X.cell? ⟨w.heap.size,2,none⟩=some (.int .i64 lo):=(kf.cell 2).trans rfl;have e1:X.cell? ⟨w.heap.size+1,1,none⟩=some (.int .i64 f):=(ks.cell 1).trans rfl;go_wp2_with fail
 refine (zGr HNM.out _ HA.out hv HF12.out.1 HF12.out.2).mono ?_;rintro e u1 ⟨rfl,hb⟩;clear a0 a1 a2 e1;replace HA:=qH (HA.out.below hb);replace HP:=qH (HP.out.below hb);replace HB:=qH (zAa HB.out hb HB.out.size);replace kf:=kf.below hb kf.lt;replace ks:=ks.below hb ks.lt;clear hb;have e7:u1.cell? ⟨w.heap.size+1,7,none⟩=some (.bool over):=(ks.cell 7).trans rfl;go_wp2_with fail
 refine (zHn HEI.out _).mono ?_;rintro e u2 ⟨rfl,rfl⟩;clear e7;clear HEI HNM;have hk:(kind=1∨kind=2∨kind=8)∨kind=4∨kind=5∨(kind=6∨kind=7)∨kind=3:=by have:=HK.out;omega
 clear HK;rcases hk with hk | rfl | rfl | hk | rfl
 ·rcases hk with rfl | rfl | rfl
  ·skip;obtain ⟨Q1,hQ1⟩:∃T,NM++[45]=T:=⟨_,rfl⟩
   have lQ1:Q1.length≤44:=by rw [←hQ1];simp;omega
   have sQ1:=zAr hQ1 _ ⟨#[45]⟩ rfl rfl (by omega) (by simp);have HR:=qH (show bA Q1=bA (zBc L ⟨1,f,⟨ff,fl,ffar,fpc⟩,path,over⟩) by rw [HLF.out,←hQ1];simp [zBm,zCE]);clear hQ1 lQ1;have e0:u2.cell? ⟨w.heap.size+1,0,none⟩=some (.int .i64 1):=(ks.cell 0).trans rfl;go_wp2_with fail
   go_ret;exact ⟨zDl HR.out,HB.out⟩
  ·skip;obtain ⟨Q1,hQ1⟩:∃T,NM++[94]=T:=⟨_,rfl⟩
   have lQ1:Q1.length≤44:=by rw [←hQ1];simp;omega
   have sQ1:=zAr hQ1 _ ⟨#[94]⟩ rfl rfl (by omega) (by simp);have HR:=qH (show bA Q1=bA (zBc L ⟨2,f,⟨ff,fl,ffar,fpc⟩,path,over⟩) by rw [HLF.out,←hQ1];simp [zBm,zCE]);clear hQ1 lQ1;have e0:u2.cell? ⟨w.heap.size+1,0,none⟩=some (.int .i64 2):=(ks.cell 0).trans rfl;go_wp2_with fail
   go_ret;exact ⟨zDl HR.out,HB.out⟩
  ·skip;obtain ⟨Q1,hQ1⟩:∃T,NM++[33]=T:=⟨_,rfl⟩
   have lQ1:Q1.length≤44:=by rw [←hQ1];simp;omega
   have sQ1:=zAr hQ1 _ ⟨#[33]⟩ rfl rfl (by omega) (by simp);have HR:=qH (show bA Q1=bA (zBc L ⟨8,f,⟨ff,fl,ffar,fpc⟩,path,over⟩) by rw [HLF.out,←hQ1];simp [zBm,zCE]);clear hQ1 lQ1;have e0:u2.cell? ⟨w.heap.size+1,0,none⟩=some (.int .i64 8):=(ks.cell 0).trans rfl;go_wp2_with fail
   go_ret;exact ⟨zDl HR.out,HB.out⟩
 ·skip;obtain ⟨Q1,hQ1⟩:∃T,NM++[126]=T:=⟨_,rfl⟩
  have lQ1:Q1.length≤44:=by rw [←hQ1];simp;omega
  have sQ1:=zAr hQ1 _ ⟨#[126]⟩ rfl rfl (by omega) (by simp);obtain ⟨Q2,hQ2⟩:∃T,Q1++OV=T:=⟨_,rfl⟩
  have lQ2:Q2.length≤45:=by rw [←hQ2];simp;omega
  have sQ2:=zAr hQ2 _ _ rfl rfl (by omega) (by omega);have HR:=qH (show bA Q2=bA (zBc L ⟨4,f,⟨ff,fl,ffar,fpc⟩,path,over⟩) by rw [HLF.out,←hQ2,←hQ1,←HOV.out];simp [zBm,zCE]);clear hQ1 hQ2 lQ1 lQ2;have e0:u2.cell? ⟨w.heap.size+1,0,none⟩=some (.int .i64 4):=(ks.cell 0).trans rfl;go_wp2_with fail
  go_ret;exact ⟨zDl HR.out,HB.out⟩
 ·have hnf:=zAj.1 (HFR.out (by omega));simp only at hnf;have hlP:=zFI hv (s:=⟨ff,fl,ffar,fpc⟩) hnf.1 (by rw [HNL.out];exact hnf.2.1);obtain ⟨PL,hPL⟩:∃T,zBb L ⟨ff,fl,ffar,fpc⟩=T:=⟨_,rfl⟩
  rw [hPL] at hlP;obtain ⟨Q1,hQ1⟩:∃T,NM++[61]=T:=⟨_,rfl⟩
  have lQ1:Q1.length≤44:=by rw [←hQ1];simp;omega
  have sQ1:=zAr hQ1 _ ⟨#[61]⟩ rfl rfl (by omega) (by simp);obtain ⟨Q2,hQ2⟩:∃T,Q1++PL=T:=⟨_,rfl⟩
  have lQ2:Q2.length≤88:=by rw [←hQ2];simp;omega
  have sQ2:=zAr hQ2 _ _ rfl rfl (by omega) (by omega);obtain ⟨Q3,hQ3⟩:∃T,Q2++OV=T:=⟨_,rfl⟩
  have lQ3:Q3.length≤89:=by rw [←hQ3];simp;omega
  have sQ3:=zAr hQ3 _ _ rfl rfl (by omega) (by omega);have HR:=qH (show bA Q3=bA (zBc L ⟨5,f,⟨ff,fl,ffar,fpc⟩,path,over⟩) by rw [HLF.out,←hQ3,←hQ2,←hQ1,←HOV.out,←hPL];simp [zBm,zCE]);have HPL:=qH hPL;have HNF:=qH (show 1≤ff∧ff≤(n:Int) from ⟨hnf.1,hnf.2.1⟩);clear hQ1 hQ2 hQ3 lQ1 lQ2 lQ3 hPL hnf hlP;have a0:u2.cell? ⟨w.heap.size,0,none⟩=some (.slice A n c):=(kf.cell 0).trans rfl;have a1:u2.cell? ⟨w.heap.size,1,none⟩=some (.int .i64 re):=(kf.cell 1).trans rfl;have a2:u2.cell? ⟨w.heap.size,2,none⟩=some (.int .i64 lo):=(kf.cell 2).trans rfl;have e0:u2.cell? ⟨w.heap.size+1,0,none⟩=some (.int .i64 5):=(ks.cell 0).trans rfl;have e2:u2.cell? ⟨w.heap.size+1,2,none⟩=some (.int .i64 ff):=(ks.cell 2).trans rfl;have e3:u2.cell? ⟨w.heap.size+1,3,none⟩=some (.int .i64 fl):=(ks.cell 3).trans rfl;have e4:u2.cell? ⟨w.heap.size+1,4,none⟩=some (.bool ffar):=(ks.cell 4).trans rfl;have e5:u2.cell? ⟨w.heap.size+1,5,none⟩=some (.int .i64 fpc):=(ks.cell 5).trans rfl;go_wp2_with fail
  refine (zGs HPL.out _ HA.out hv HNF.out.1 HNF.out.2).mono ?_;rintro e u3 ⟨rfl,hb⟩;clear a0 a1 a2 e0 e2 e3 e4 e5;replace HA:=qH (HA.out.below hb);replace HP:=qH (HP.out.below hb);replace HB:=qH (zAa HB.out hb HB.out.size);replace kf:=kf.below hb kf.lt;replace ks:=ks.below hb ks.lt;clear hb;go_wp2_with fail
  go_ret;exact ⟨zDl HR.out,HB.out⟩
 ·have hnf:=HFR.out (by omega);have hnf2:=zAj.1 hnf;simp only at hnf2;have hlP:=hv.len (f:=ff) (by omega) (by rw [HNL.out];omega);obtain ⟨PL,hPL⟩:∃T,nmF L ff=T:=⟨_,rfl⟩
  rw [hPL] at hlP;have HPL:=qH hPL;have HNF:=qH (show 1≤ff∧ff≤(n:Int) from ⟨hnf2.1,hnf2.2.1⟩);clear hnf hnf2;rcases hk with rfl | rfl
  ·skip;obtain ⟨Q1,hQ1⟩:∃T,NM++[42]=T:=⟨_,rfl⟩
   have lQ1:Q1.length≤44:=by rw [←hQ1];simp;omega
   have sQ1:=zAr hQ1 _ ⟨#[42]⟩ rfl rfl (by omega) (by simp);obtain ⟨Q2,hQ2⟩:∃T,Q1++PL=T:=⟨_,rfl⟩
   have lQ2:Q2.length≤87:=by rw [←hQ2];simp;omega
   have sQ2:=zAr hQ2 _ _ rfl rfl (by omega) (by omega);obtain ⟨Q3,hQ3⟩:∃T,Q2++OV=T:=⟨_,rfl⟩
   have lQ3:Q3.length≤88:=by rw [←hQ3];simp;omega
   have sQ3:=zAr hQ3 _ _ rfl rfl (by omega) (by omega);have HR:=qH (show bA Q3=bA (zBc L ⟨6,f,⟨ff,fl,ffar,fpc⟩,path,over⟩) by rw [HLF.out,←hQ3,←hQ2,←hQ1,←HOV.out,←hPL];simp [zBm,zCE]);clear hQ1 hQ2 hQ3 lQ1 lQ2 lQ3 hPL hlP;have a0:u2.cell? ⟨w.heap.size,0,none⟩=some (.slice A n c):=(kf.cell 0).trans rfl;have a1:u2.cell? ⟨w.heap.size,1,none⟩=some (.int .i64 re):=(kf.cell 1).trans rfl;have a2:u2.cell? ⟨w.heap.size,2,none⟩=some (.int .i64 lo):=(kf.cell 2).trans rfl;have e0:u2.cell? ⟨w.heap.size+1,0,none⟩=some (.int .i64 6):=(ks.cell 0).trans rfl;have e2:u2.cell? ⟨w.heap.size+1,2,none⟩=some (.int .i64 ff):=(ks.cell 2).trans rfl;go_wp2_with fail
   refine (zGr HPL.out _ HA.out hv HNF.out.1 HNF.out.2).mono ?_;rintro e u3 ⟨rfl,hb⟩;clear a0 a1 a2 e0 e2;replace HA:=qH (HA.out.below hb);replace HP:=qH (HP.out.below hb);replace HB:=qH (zAa HB.out hb HB.out.size);replace kf:=kf.below hb kf.lt;replace ks:=ks.below hb ks.lt;clear hb;go_wp2_with fail
   go_ret;exact ⟨zDl HR.out,HB.out⟩
  ·skip;obtain ⟨Q1,hQ1⟩:∃T,NM++[37]=T:=⟨_,rfl⟩
   have lQ1:Q1.length≤44:=by rw [←hQ1];simp;omega
   have sQ1:=zAr hQ1 _ ⟨#[37]⟩ rfl rfl (by omega) (by simp);obtain ⟨Q2,hQ2⟩:∃T,Q1++PL=T:=⟨_,rfl⟩
   have lQ2:Q2.length≤87:=by rw [←hQ2];simp;omega
   have sQ2:=zAr hQ2 _ _ rfl rfl (by omega) (by omega);obtain ⟨Q3,hQ3⟩:∃T,Q2++OV=T:=⟨_,rfl⟩
   have lQ3:Q3.length≤88:=by rw [←hQ3];simp;omega
   have sQ3:=zAr hQ3 _ _ rfl rfl (by omega) (by omega);have HR:=qH (show bA Q3=bA (zBc L ⟨7,f,⟨ff,fl,ffar,fpc⟩,path,over⟩) by rw [HLF.out,←hQ3,←hQ2,←hQ1,←HOV.out,←hPL];simp [zBm,zCE]);clear hQ1 hQ2 hQ3 lQ1 lQ2 lQ3 hPL hlP;have a0:u2.cell? ⟨w.heap.size,0,none⟩=some (.slice A n c):=(kf.cell 0).trans rfl;have a1:u2.cell? ⟨w.heap.size,1,none⟩=some (.int .i64 re):=(kf.cell 1).trans rfl;have a2:u2.cell? ⟨w.heap.size,2,none⟩=some (.int .i64 lo):=(kf.cell 2).trans rfl;have e0:u2.cell? ⟨w.heap.size+1,0,none⟩=some (.int .i64 7):=(ks.cell 0).trans rfl;have e2:u2.cell? ⟨w.heap.size+1,2,none⟩=some (.int .i64 ff):=(ks.cell 2).trans rfl;go_wp2_with fail
   refine (zGr HPL.out _ HA.out hv HNF.out.1 HNF.out.2).mono ?_;rintro e u3 ⟨rfl,hb⟩;clear a0 a1 a2 e0 e2;replace HA:=qH (HA.out.below hb);replace HP:=qH (HP.out.below hb);replace HB:=qH (zAa HB.out hb HB.out.size);replace kf:=kf.below hb kf.lt;replace ks:=ks.below hb ks.lt;clear hb;go_wp2_with fail
   go_ret;exact ⟨zDl HR.out,HB.out⟩
 ·have hnf:=zAj.1 (HFR.out (by omega));simp only at hnf;have hlP:=zFI hv (s:=⟨ff,fl,ffar,fpc⟩) hnf.1 (by rw [HNL.out];exact hnf.2.1);obtain ⟨PL,hPL⟩:∃T,zBb L ⟨ff,fl,ffar,fpc⟩=T:=⟨_,rfl⟩
  obtain ⟨G1,hG1⟩:∃T,NM++[60]=T:=⟨_,rfl⟩
  rw [hPL] at hlP;have mG:G1.length≤44:=by rw [←hG1];simp;omega
  have t1:=zAr hG1 _ ⟨#[60]⟩ rfl rfl (by omega) (by simp);have HPL:=qH hPL;have HNF:=qH (show 1≤ff∧ff≤(n:Int) from ⟨hnf.1,hnf.2.1⟩);have HG:=qH hG1;have HLP:=qH hlP;have hstart:Hid (G1=G1++zBt L path 0):=qH (by simp [zBt]);clear hPL hnf HFR hG1 hlP;have e0:u2.cell? ⟨w.heap.size+1,0,none⟩=some (.int .i64 3):=(ks.cell 0).trans rfl;go_wp2_with fail
  clear e0;go_loopw [7,8] (fun v7 v8 wr=>∃(i:Nat) (T:List UInt8),i≤m∧v8=.int .i64 i∧v7=.string (bA T)∧Below u2.heap.size u2 wr∧Hid (T=G1++zBt L path i)∧T.length≤44+i*50) (fun _ v8 _=>m-(intOf v8).toNat)
  case atStart=>exact ⟨0,G1,Nat.zero_le _,rfl,rfl,Below.refl _ _,hstart,by omega⟩
  case round =>
   obtain ⟨i,T,hi,rfl,rfl,hbr,HTT,hTl⟩:=hrel;have HBR:=qH hbr;replace HA:=qH (HA.out.below hbr);replace HP:=qH (HP.out.below hbr);replace HB:=qH (zAa HB.out hbr HB.out.size);replace kf:=kf.below hbr kf.lt;replace ks:=ks.below hbr ks.lt;clear hbr hstart;by_cases hlt:i < m
   ·have j0:(0:Int)≤(i:Int):=by omega
    have j1:(i:Int) < (m:Int):=by omega
    obtain ⟨g,p,rfl,hg,⟨x0,x1,x2,x3,x4⟩,_⟩:=HP.out.at_ hlt;have hil:i < path.length:=by rw [HLEN.out];exact hlt
    have hsn:zBt L path (i+1)=zBt L path i++(if 0 < i then [44] else [])++zFO L (pa path i):=rfl;have hnm:=zAj.1 (HPN.out _ (List.mem_of_getElem? (zBS hil)));generalize pa path i=x at x0 x1 x2 x3 x4 hsn hnm;obtain ⟨⟨xf,xl,xfar,xpc⟩,xo⟩:=x;simp only at x0 x1 x2 x3 x4 hnm;have hlX:=zFI hv (s:=⟨xf,xl,xfar,xpc⟩) hnm.1 (by rw [HNL.out];exact hnm.2.1);have hst:zFO L ⟨⟨xf,xl,xfar,xpc⟩,xo⟩=zBb L ⟨xf,xl,xfar,xpc⟩++zAo xo:=rfl;obtain ⟨PX,hPX⟩:∃T,zBb L ⟨xf,xl,xfar,xpc⟩=T:=⟨_,rfl⟩
    obtain ⟨OX,hOX⟩:∃T,zAo xo=T:=⟨_,rfl⟩
    have hlO:OX.length≤1:=by rw [←hOX];cases xo<;>decide
    have hEX:(if xo then (⟨#[111]⟩:ByteArray) else ⟨#[117]⟩)=bA OX:=by rw [←hOX];cases xo<;>rfl
    obtain ⟨Y0,hY0⟩:∃U,T++(if 0 < i then [44] else [])=U:=⟨_,rfl⟩
    obtain ⟨Y1,hY1⟩:∃U,Y0++PX=U:=⟨_,rfl⟩
    obtain ⟨Y2,hY2⟩:∃U,Y1++OX=U:=⟨_,rfl⟩
    rw [hPX] at hlX;have y0:Y0.length≤44+i*50+1:=by rw [←hY0];split<;>simp<;>omega
    have y1:Y1.length≤44+i*50+45:=by rw [←hY1];simp;omega
    have y2:Y2.length≤44+(i+1)*50:=by rw [←hY2];simp;omega
    have r1:=zAr hY1 _ _ rfl rfl (by omega) (by omega);have r2:=zAr hY2 _ _ rfl rfl (by omega) (by omega);have HTT1:=qH (show Y2=G1++zBt L path (i+1) by rw [hsn,hst,hPX,hOX,←hY2,←hY1,←hY0,HTT.out];simp);have HPX:=qH hPX;have HEX:=qH hEX;have HNX:=qH (show 1≤xf∧xf≤(n:Int) from ⟨hnm.1,hnm.2.1⟩);have HX:=qH (show g < wr.heap.size∧wr.cell? ⟨g,p+i*5,none⟩=some (.int .i64 xf)∧wr.cell? ⟨g,p+i*5+1,none⟩=some (.int .i64 xl)∧wr.cell? ⟨g,p+i*5+2,none⟩=some (.bool xfar)∧wr.cell? ⟨g,p+i*5+3,none⟩=some (.int .i64 xpc)∧wr.cell? ⟨g,p+i*5+4,none⟩=some (.bool xo) from ⟨hg,x0,x1,x2,x3,x4⟩);have hi8:i+1≤m:=hlt;have c6:wr.cell? ⟨w.heap.size+1,6,none⟩=some (.slice (some ⟨g,p,none⟩) m d):=(ks.cell 6).trans rfl;have HY0:=qH hY0;clear hsn hst hPX hOX hY0 hY1 hY2 y0 y1 hlX hlO hil HTT hnm hEX x0 x1 x2 x3 x4 hg;go_upto_if 81 with fail
    clear c6;go_cut [7] (fun v7 wv=>v7=.string (bA Y0)∧∃V:World,V=wv∧Below wr.heap.size wr V)
    case first =>
     by_cases h0:0 < i
     ·have k1:decide ((0:Int) < (i:Int))=true:=by simp;omega
      have k2:(0:Int) < (i:Int):=by omega
      have hy:T++[44]=Y0:=by have:=HY0.out;rwa [if_pos h0] at this
      have r0:=zAr hy _ ⟨#[44]⟩ rfl rfl (by omega) (by simp);clear hy;go_wp2_with fail
      go_meet
      case rel=>exact ⟨rfl,_,rfl,Below.refl _ _⟩
     ·have k1:decide ((0:Int) < (i:Int))=false:=by simp;omega
      have k2:¬(0:Int) < (i:Int):=by omega
      have hy:Hid (T=Y0):=qH (by have:=HY0.out;rwa [if_neg h0,List.append_nil] at this);go_wp2_with fail
      go_meet
      case rel=>exact ⟨by rw [hy.out],_,rfl,Below.refl _ _⟩
    case rest =>
     obtain ⟨rfl,V,hV,hb⟩:=hcut;subst hV;have HBV:=qH (zAa HBR.out hb HBR.out.size);have HX:=qH (show g < V.heap.size∧V.cell? ⟨g,p+i*5,none⟩=some (.int .i64 xf)∧V.cell? ⟨g,p+i*5+1,none⟩=some (.int .i64 xl)∧V.cell? ⟨g,p+i*5+2,none⟩=some (.bool xfar)∧V.cell? ⟨g,p+i*5+3,none⟩=some (.int .i64 xpc)∧V.cell? ⟨g,p+i*5+4,none⟩=some (.bool xo) from ⟨Nat.lt_of_lt_of_le HX.out.1 hb.size,(hb.cell (p:=⟨g,p+i*5,none⟩) HX.out.1).trans HX.out.2.1,(hb.cell (p:=⟨g,p+i*5+1,none⟩) HX.out.1).trans HX.out.2.2.1,(hb.cell (p:=⟨g,p+i*5+2,none⟩) HX.out.1).trans HX.out.2.2.2.1,(hb.cell (p:=⟨g,p+i*5+3,none⟩) HX.out.1).trans HX.out.2.2.2.2.1,(hb.cell (p:=⟨g,p+i*5+4,none⟩) HX.out.1).trans HX.out.2.2.2.2.2⟩);replace HA:=qH (HA.out.below hb);replace HP:=qH (HP.out.below hb);replace HB:=qH (zAa HB.out hb HB.out.size);replace kf:=kf.below hb kf.lt;replace ks:=ks.below hb ks.lt;clear hb;go_upto_region 24 with fail
     have k0:∀wx,Below V.heap.size V wx→(Below V.heap.size V wx∧wx.cell? ⟨w.heap.size,0,none⟩=some (.slice A n c)∧wx.cell? ⟨w.heap.size,1,none⟩=some (.int .i64 re)∧wx.cell? ⟨w.heap.size,2,none⟩=some (.int .i64 lo)∧wx.cell? ⟨w.heap.size+1,6,none⟩=some (.slice (some ⟨g,p,none⟩) m d)∧wx.cell? ⟨g,p+i*5,none⟩=some (.int .i64 xf)∧wx.cell? ⟨g,p+i*5+1,none⟩=some (.int .i64 xl)∧wx.cell? ⟨g,p+i*5+2,none⟩=some (.bool xfar)∧wx.cell? ⟨g,p+i*5+3,none⟩=some (.int .i64 xpc)∧wx.cell? ⟨g,p+i*5+4,none⟩=some (.bool xo)):=fun wx h=>⟨h,((kf.below h kf.lt).cell 0).trans rfl,((kf.below h kf.lt).cell 1).trans rfl,((kf.below h kf.lt).cell 2).trans rfl,((ks.below h ks.lt).cell 6).trans rfl,(h.cell (p:=⟨g,p+i*5,none⟩) HX.out.1).trans HX.out.2.1,(h.cell (p:=⟨g,p+i*5+1,none⟩) HX.out.1).trans HX.out.2.2.1,(h.cell (p:=⟨g,p+i*5+2,none⟩) HX.out.1).trans HX.out.2.2.2.1,(h.cell (p:=⟨g,p+i*5+3,none⟩) HX.out.1).trans HX.out.2.2.2.2.1,(h.cell (p:=⟨g,p+i*5+4,none⟩) HX.out.1).trans HX.out.2.2.2.2.2⟩
     have KP:=qH k0;clear k0;have gq0:=(KP.out V (Below.refl _ _)).2.1;have gq1:=(KP.out V (Below.refl _ _)).2.2.1;have gq2:=(KP.out V (Below.refl _ _)).2.2.2.1;have gq3:=(KP.out V (Below.refl _ _)).2.2.2.2.1;have gq4:=(KP.out V (Below.refl _ _)).2.2.2.2.2.1;have gq5:=(KP.out V (Below.refl _ _)).2.2.2.2.2.2.1;have gq6:=(KP.out V (Below.refl _ _)).2.2.2.2.2.2.2.1;have gq7:=(KP.out V (Below.refl _ _)).2.2.2.2.2.2.2.2.1;have gq8:=(KP.out V (Below.refl _ _)).2.2.2.2.2.2.2.2.2
     first
      | go_region_held3 (fun wx=>Below V.heap.size V wx∧wx.cell? ⟨w.heap.size,0,none⟩=some (.slice A n c)∧wx.cell? ⟨w.heap.size,1,none⟩=some (.int .i64 re)∧wx.cell? ⟨w.heap.size,2,none⟩=some (.int .i64 lo)∧wx.cell? ⟨w.heap.size+1,6,none⟩=some (.slice (some ⟨g,p,none⟩) m d)∧wx.cell? ⟨g,p+i*5,none⟩=some (.int .i64 xf)∧wx.cell? ⟨g,p+i*5+1,none⟩=some (.int .i64 xl)∧wx.cell? ⟨g,p+i*5+2,none⟩=some (.bool xfar)∧wx.cell? ⟨g,p+i*5+3,none⟩=some (.int .i64 xpc)∧wx.cell? ⟨g,p+i*5+4,none⟩=some (.bool xo)) (first | assumption | exact KP.out _ (Below.refl _ _).drew | exact KP.out _ (zAa (And.left (by assumption)) (by assumption) (Below.size (And.left (by assumption)))))
        (first
         | (go_at_call 118;refine (zGs HPX.out _ (HA.out.below (And.left (by assumption))) hv HNX.out.1 HNX.out.2).mono ?_;rintro e wd ⟨rfl,hbd⟩)
         | (go_at_call 64;refine (zHn HEX.out _).mono ?_;rintro e we ⟨rfl,rfl⟩))
      | fail
     all_goals
      have hbf:=And.left (show Below V.heap.size V _∧_ by assumption);clear gq0 gq1 gq2 gq3 gq4 gq5 gq6 gq7 gq8;have hb2:=zAa HBV.out hbf HBV.out.size;go_wp2_with fail
      go_roundw
      case rel=>exact ⟨i+1,Y2,hi8,by go_num,rfl,hb2,HTT1,y2⟩
      case measure=>simp [intOf];omega
   ·have hin:i=m:=by omega
    have j1:¬(i:Int) < (m:Int):=by omega
    have hlP:=HLP.out;have hpe:Hid (path=[]↔m=0):=qH (by rw [←HLEN.out];exact List.length_eq_zero_iff.symm);by_cases h0:0 < m
    ·have k1:(0:Int) < (m:Int):=by omega
     have k2:decide ((0:Int) < (m:Int))=true:=by simpa using h0
     obtain ⟨Z1,hZ1⟩:∃U,T++[60]=U:=⟨_,rfl⟩
     obtain ⟨Z2,hZ2⟩:∃U,Z1++PL=U:=⟨_,rfl⟩
     have z1:Z1.length≤44+i*50+1:=by rw [←hZ1];simp;omega
     have r1:=zAr hZ1 _ ⟨#[60]⟩ rfl rfl (by omega) (by simp);have r2:=zAr hZ2 _ _ rfl rfl (by omega) (by omega)
     have HR:=qH (show bA Z2=bA (zBc L ⟨3,f,⟨ff,fl,ffar,fpc⟩,path,over⟩) by
      have hne:path≠[]:=fun e=>by have:=hpe.out.1 e;omega
      rw [HLF.out,←hZ2,←hZ1,HTT.out,←HG.out,←HPL.out,hin,←HLEN.out];simp [zBm,zCE,hne])
     clear hin hZ1 hZ2 HTT z1 hlP hTl hpe h0;have a0:wr.cell? ⟨w.heap.size,0,none⟩=some (.slice A n c):=(kf.cell 0).trans rfl;have a1:wr.cell? ⟨w.heap.size,1,none⟩=some (.int .i64 re):=(kf.cell 1).trans rfl;have a2:wr.cell? ⟨w.heap.size,2,none⟩=some (.int .i64 lo):=(kf.cell 2).trans rfl;have e2:wr.cell? ⟨w.heap.size+1,2,none⟩=some (.int .i64 ff):=(ks.cell 2).trans rfl;have e3:wr.cell? ⟨w.heap.size+1,3,none⟩=some (.int .i64 fl):=(ks.cell 3).trans rfl;have e4:wr.cell? ⟨w.heap.size+1,4,none⟩=some (.bool ffar):=(ks.cell 4).trans rfl;have e5:wr.cell? ⟨w.heap.size+1,5,none⟩=some (.int .i64 fpc):=(ks.cell 5).trans rfl;have e6:wr.cell? ⟨w.heap.size+1,6,none⟩=some (.slice B m d):=(ks.cell 6).trans rfl;go_wp2_with fail
     refine (zGs HPL.out _ HA.out hv HNF.out.1 HNF.out.2).mono ?_;rintro e u4 ⟨rfl,hb⟩;clear a0 a1 a2 e2 e3 e4 e5 e6;replace HA:=qH (HA.out.below hb);replace HP:=qH (HP.out.below hb);replace HB:=qH (zAa HB.out hb HB.out.size);replace kf:=kf.below hb kf.lt;replace ks:=ks.below hb ks.lt;clear hb;go_wp2_with fail
     go_ret;exact ⟨zDl HR.out,HB.out⟩
    ·have k1:¬(0:Int) < (m:Int):=by omega
     have k2:decide ((0:Int) < (m:Int))=false:=by simpa using h0
     obtain ⟨Z2,hZ2⟩:∃U,T++PL=U:=⟨_,rfl⟩
     have r2:=zAr hZ2 _ _ rfl rfl (by omega) (by omega)
     have HR:=qH (show bA Z2=bA (zBc L ⟨3,f,⟨ff,fl,ffar,fpc⟩,path,over⟩) by
      have hne:path=[]:=hpe.out.2 (by omega)
      rw [HLF.out,←hZ2,HTT.out,←HG.out,←HPL.out,hin,←HLEN.out];simp [zBm,zCE,hne])
     clear hin hZ2 HTT hlP hTl hpe h0;have a0:wr.cell? ⟨w.heap.size,0,none⟩=some (.slice A n c):=(kf.cell 0).trans rfl;have a1:wr.cell? ⟨w.heap.size,1,none⟩=some (.int .i64 re):=(kf.cell 1).trans rfl;have a2:wr.cell? ⟨w.heap.size,2,none⟩=some (.int .i64 lo):=(kf.cell 2).trans rfl;have e2:wr.cell? ⟨w.heap.size+1,2,none⟩=some (.int .i64 ff):=(ks.cell 2).trans rfl;have e3:wr.cell? ⟨w.heap.size+1,3,none⟩=some (.int .i64 fl):=(ks.cell 3).trans rfl;have e4:wr.cell? ⟨w.heap.size+1,4,none⟩=some (.bool ffar):=(ks.cell 4).trans rfl;have e5:wr.cell? ⟨w.heap.size+1,5,none⟩=some (.int .i64 fpc):=(ks.cell 5).trans rfl;have e6:wr.cell? ⟨w.heap.size+1,6,none⟩=some (.slice B m d):=(ks.cell 6).trans rfl;go_wp2_with fail
     refine (zGs HPL.out _ HA.out hv HNF.out.1 HNF.out.2).mono ?_;rintro e u4 ⟨rfl,hb⟩;clear a0 a1 a2 e2 e3 e4 e5 e6;replace HA:=qH (HA.out.below hb);replace HP:=qH (HP.out.below hb);replace HB:=qH (zAa HB.out hb HB.out.size);replace kf:=kf.below hb kf.lt;replace ks:=ks.below hb ks.lt;clear hb;go_wp2_with fail
     go_ret;exact ⟨zDl HR.out,HB.out⟩
theorem zUs {A:Option Addr} {n c:Nat} {L:List Fg} {re lo:Int} {o:Og} {S:List UInt8} (h:zBc L o=S) (B:Option Addr) (m d:Nat) (w:World) (hA:Fgs w A n L) (hv:TOk L) (hO:OpIn w o B m d) (hr:zAh n o=true) (hm:m≤10000) :
  Calls Tryz.prog 71 #[frV A n c re lo,opV o B m d] w fun e w'=>e=.returned (.string (bA S))∧Below w.heap.size w w':=by
 subst h;exact zPW A n c L re lo o B m d w hA hv hO hr hm
theorem zFJ {x:List UInt8} {k:Nat} (h:x.length=k+1):∃b,x[k]? = some b∧x.getLast? = some b:=by
 have hk:k < x.length:=by omega
 refine ⟨x[k],List.getElem?_eq_getElem hk,?_⟩;rw [List.getLast?_eq_getElem?,show x.length-1=k by omega,List.getElem?_eq_getElem hk]
theorem zHq (b:UInt8) (c:Nat) (hc:c < 256):((b.toNat:Int)==(c:Int))=decide (b=UInt8.ofNat c):=by
 by_cases e:b=UInt8.ofNat c
 ·rw [decide_eq_true e,e];simp;omega
 ·rw [decide_eq_false e];simp only [beq_eq_false_iff_ne,ne_eq];intro h;exact e (UInt8.toNat.inj (by simp;omega))
set_option maxHeartbeats 3200000 in
set_option maxRecDepth 100000 in
theorem zHF (S:List UInt8) (hS:S.length≤100000) (w:World) :
  Calls Tryz.prog 121 #[.string (bA S)] w fun e w'=>e=.returned (sgV (rbF S))∧Below w.heap.size w w':=by
 have bz:=zJS;have bs:=zPO;have hs:=zCo S;have hba:Below w.heap.size w (w.alloc (.cells #[.int .i64 0,.int .i64 0,.bool false,.int .i64 0] 29)):=(Below.refl _ _).alloc (Nat.le_refl _) _;have hka:Blk (w.alloc (.cells #[.int .i64 0,.int .i64 0,.bool false,.int .i64 0] 29)) w.heap.size 29 #[.int .i64 0,.int .i64 0,.bool false,.int .i64 0]:=Blk.new _ _ _;by_cases h0:S.length=0
 ·have HR:=qH (show rbF S=s0 by unfold rbF;rw [if_pos (List.length_eq_zero_iff.1 h0)]);rw [h0] at hs;clear h0 hS;go_enter Tryz.func121,Tryz.ntmps121;go_upto_region 1 with fail
  generalize w.alloc (.cells #[.int .i64 0,.int .i64 0,.bool false,.int .i64 0] 29)=X at hba hka ⊢;have c0:X.cell? ⟨w.heap.size,0,none⟩=some (.int .i64 0):=(hka.cell 0).trans rfl;have c1:X.cell? ⟨w.heap.size,1,none⟩=some (.int .i64 0):=(hka.cell 1).trans rfl;have c2:X.cell? ⟨w.heap.size,2,none⟩=some (.bool false):=(hka.cell 2).trans rfl;have c3:X.cell? ⟨w.heap.size,3,none⟩=some (.int .i64 0):=(hka.cell 3).trans rfl;have z0:=hka.frozen 0;have z1:=hka.frozen 1;have z2:=hka.frozen 2;have z3:=hka.frozen 3;have HS:=qH (Blk.storeL4 hka (.int .i64 0) (.int .i64 0) (.bool false) (.int .i64 0));have HBS:=qH (zFg hba (Nat.le_refl w.heap.size) (.int .i64 0) (.int .i64 0) (.bool false) (.int .i64 0));clear hba hka;go_wp2_with fail
  (try simp only [Exit.inBlock,Exit.then])
  exact zAi rfl rfl HS.out Tryz.underlying29 rfl (by kernel_rfl) rfl ⟨by rw [HR.out];rfl,HBS.out⟩
 ·obtain ⟨k,hk⟩:∃k,S.length=k+1:=⟨S.length-1,by omega⟩
  obtain ⟨b,hb1,hb2⟩:=zFJ hk;have hnx:=zER hb1;have hup:=zDO (S:=S) (j:=k) (by omega);rw [hk] at hs;obtain ⟨P,hP⟩:∃P,S.take k=P:=⟨_,rfl⟩
  obtain ⟨F0,hF0⟩:∃j,fnA P=j:=⟨_,rfl⟩
  obtain ⟨q,hq⟩:∃q,decide (b=102)=q:=⟨_,rfl⟩
  have HR:=qH (show rbF S=⟨(F0:Int),0,q,0⟩ by
   have hne:S≠[]:=fun e=>h0 (by rw [e];rfl)
   unfold rbF
   rw [if_neg hne,List.dropLast_eq_take,hk,show k+1-1=k by omega,hP,hF0,hb2,←hq]
   simp)
  have n1:((b.toNat:Int)==102)=q:=by rw [←hq];exact zHq b 102 (by omega)
  rw [hP] at hup;have HFN:=qH (fun w=>zFf hF0 w);have q0:¬((k+1:Nat):Int)=0:=by omega
  have q2:(((k+1:Nat):Int)-1)=(k:Int):=by omega
  have q4:IntKind.i64.wrap (k:Int)=(k:Int):=IntWalk.i64_in _ (by omega);have q5:(((k+1:Nat):Int)==0)=false:=by simp only [beq_eq_false_iff_ne,ne_eq];omega
  generalize b.toNat=b0 at hnx n1;clear hk hb1 hb2 hP hF0 hq h0;go_enter Tryz.func121,Tryz.ntmps121;go_upto_region 1 with fail
  generalize w.alloc (.cells #[.int .i64 0,.int .i64 0,.bool false,.int .i64 0] 29)=X at hba hka ⊢;have HBA:=qH hba;have HKA:=qH hka;have c0:X.cell? ⟨w.heap.size,0,none⟩=some (.int .i64 0):=(hka.cell 0).trans rfl;clear hba hka;go_upto_region 4 with fail
  go_region_with (go_at_call 99;refine (HFN.out _).mono ?_;rintro e wd ⟨rfl,hbd⟩;have hbq:Below X.heap.size X wd:=zAa ((Below.refl X.heap.size X).drew) hbd (Nat.le_refl _);have kk:=HKA.out.below hbq HKA.out.lt;have y0:wd.cell? ⟨w.heap.size,0,none⟩=some (.int .i64 0):=(kk.cell 0).trans rfl;have f0:=kk.frozen 0;have y1:wd.cell? ⟨w.heap.size,1,none⟩=some (.int .i64 0):=(kk.cell 1).trans rfl;have f1:=kk.frozen 1;have y2:wd.cell? ⟨w.heap.size,2,none⟩=some (.bool false):=(kk.cell 2).trans rfl;have f2:=kk.frozen 2;have y3:wd.cell? ⟨w.heap.size,3,none⟩=some (.int .i64 0):=(kk.cell 3).trans rfl;have f3:=kk.frozen 3)
  all_goals
   have HS:=qH (Blk.storeL4 kk (.int .i64 (F0:Int)) (.int .i64 0) (.bool q) (.int .i64 0));have HBS:=qH (zFg (zAa HBA.out hbq HBA.out.size) (Nat.le_refl w.heap.size) (.int .i64 (F0:Int)) (.int .i64 0) (.bool q) (.int .i64 0));go_wp2_with fail
   (try simp only [Exit.inBlock,Exit.then])
   exact zAi rfl rfl HS.out Tryz.underlying29 rfl (by kernel_rfl) rfl ⟨by rw [HR.out],HBS.out⟩
theorem zJi {S:List UInt8} {s:Sg} (h:rbF S=s) (hS:S.length≤100000) (w:World) :
  Calls Tryz.prog 121 #[.string (bA S)] w fun e w'=>e=.returned (.agg #[.int .i64 s.f,.int .i64 s.l,.bool s.far,.int .i64 s.pc])∧Below w.heap.size w w':=by
 subst h;exact zHF S hS w
theorem zPX {L:List Fg} {re lo:Int} {S:List UInt8} (hv:frB L re lo=true) (h:¬8000 < S.length):zAA L re lo S=0:=by unfold zAA;rw [if_pos hv,if_neg h]
theorem zPY {L:List Fg} {re lo:Int} {S:List UInt8} (hv:frB L re lo=true) (h:8000 < S.length):zAA L re lo S=7:=by unfold zAA;rw [if_pos hv,if_pos h]
theorem zIfQ {T:List (List UInt8)} {i:Nat} (h:i < T.length):T[i]? = some (xa T i):=by unfold xa;rw [List.getElem?_eq_getElem h];rfl
theorem zPZ {T:List (List UInt8)} {i:Nat} (h:i < T.length):T.drop i=xa T i :: T.drop (i+1):=by
 rw [List.drop_eq_getElem_cons h];have:=zIfQ h;rw [List.getElem?_eq_getElem h] at this;injection this with this
 rw [this]
theorem zUt {L:List Fg} {S:List UInt8} {i:Nat} {P:List UInt8} (hS:(zAH 32 S)[i]? = some P) (h:zAy P=none) (h0:S≠[]):itE L S=6∧itO L S=[]:=by
 have h1:zBy ((zAH 32 S).take (i+1))=none:=by
  rw [List.take_add_one,hS];simp only [Option.toList_some];rw [zDN,h]
  cases zBy ((zAH 32 S).take i)<;>rfl
 have h2:zBy (zAH 32 S)=none:=by
  have:=zHX ((zAH 32 S).drop (i+1)) h1
  rwa [List.take_append_drop] at this
 unfold itE itO;rw [if_neg h0,if_neg h0,h2];exact ⟨rfl,rfl⟩
theorem zSK (L:List Fg):itE L []=0∧itO L []=[]:=by unfold itE itO;rw [if_pos rfl,if_pos rfl];exact ⟨rfl,rfl⟩
theorem zWL {L:List Fg} {re lo:Int} {S:List UInt8} (hv:frB L re lo=true) (h:¬8000 < S.length):rsE L re lo S=itE L S∧rsO L re lo S=itO L S:=by
 have hb:=zPX hv h;unfold rsE rsO;rw [if_pos hb,if_pos hb];exact ⟨rfl,rfl⟩
theorem zUu {L:List Fg} {re lo:Int} {S:List UInt8} (hv:frB L re lo=true) (h:8000 < S.length):rsE L re lo S=7∧rsO L re lo S=[]:=by
 have hb:=zPY hv h;unfold rsE rsO;rw [if_neg (by omega),if_neg (by omega)];exact ⟨hb,rfl⟩
theorem zMA (c:UInt8) (S:List UInt8):0 < (zAH c S).length:=by
 cases h:zAH c S with
 | nil=>exact absurd h (zFr c S)
 | cons x r=>simp
end Go.Proofs.YtlmdfmnbcndhoaaGreatDoor
