/-
  Contracts: the document's string and operation in signs. Conditions: the fingers read and there are such fingers; the operation can be written; the path is not long.
-/
import Derived.Test.YtlmdfmnbcndhoaaGreatDoorWs43
namespace Go.Proofs.YtlmdfmnbcndhoaaGreatDoor
open Go.RowKit
theorem tshort_len {L:List Fg} (hv:TOk L) {s:Sg} (h1:1≤s.f) (h2:s.f≤(L.length:Int)):(shortF L s).length≤44:=by
 have a:=hv.len h1 h2
 unfold shortF
 split<;>simp<;>omega
set_option maxHeartbeats 3200000 in
theorem nref_brief (A:Option Addr) (n c:Nat) (L:List Fg) (re lo:Int) (s:Sg) (w:World) (hA:Fgs w A n L) (hv:TOk L) (h1:1≤s.f) (h2:s.f≤(n:Int)) :
  Calls Tryz.prog 118 #[frV A n c re lo,sgV s] w fun e w'=>e=.returned (.string (bA (shortF L s)))∧Below w.heap.size w w':=by
 have hlN:=hv.len h1 (by rw [hA.len];exact h2)
 obtain ⟨f,l,far,pc⟩:=s
 simp only at h1 h2 hlN ⊢
 obtain ⟨NM,hNM⟩:∃NM,nmF L f=NM:=⟨_,rfl⟩
 obtain ⟨SD,hSD⟩:∃SD:List UInt8,(if far then [102] else [110])=SD:=⟨_,rfl⟩
 have hlS:SD.length≤1:=by rw [←hSD];cases far<;>decide
 have hEI:(if far then (⟨#[102]⟩:ByteArray) else ⟨#[110]⟩)=bA SD:=by rw [←hSD];cases far<;>rfl
 obtain ⟨T1,hT1⟩:∃T,NM++SD=T:=⟨_,rfl⟩
 rw [hNM] at hlN
 have s1:=sAddT hT1 _ _ rfl rfl (by omega) (by omega)
 have HR:=Lib.hid (show bA T1=bA (shortF L ⟨f,l,far,pc⟩) by rw [←hT1,←hNM,←hSD];rfl)
 have HNM:=Lib.hid hNM
 have HEI:=Lib.hid hEI
 have H12:=Lib.hid (show 1≤f∧f≤(n:Int) from ⟨h1,h2⟩)
 have HA:=Lib.hid hA
 have HB:=Lib.hid (Below.refl w.heap.size w)
 clear hNM hSD hlN hlS h1 h2 hEI hA hT1
 go_enter Tryz.func118,Tryz.ntmps118
 have hba:Below w.heap.size w ((w.alloc (.cells #[.slice A n c,.int .i64 re,.int .i64 lo] 24)).alloc (.cells #[.int .i64 f,.int .i64 l,.bool far,.int .i64 pc] 29)):=((Below.refl _ _).alloc (Nat.le_refl _) _).alloc (by simp) _
 replace HA:=Lib.hid (HA.out.below hba)
 replace HB:=Lib.hid (below_chain HB.out hba HB.out.size)
 have kf:=(Blk.new w 24 #[.slice A n c,.int .i64 re,.int .i64 lo]).alloc (.cells #[.int .i64 f,.int .i64 l,.bool far,.int .i64 pc] 29)
 have ks:Blk ((w.alloc (.cells #[.slice A n c,.int .i64 re,.int .i64 lo] 24)).alloc (.cells #[.int .i64 f,.int .i64 l,.bool far,.int .i64 pc] 29)) (w.heap.size+1) 29 #[.int .i64 f,.int .i64 l,.bool far,.int .i64 pc]:=heap_alloc2_new w _ _
 clear hba
 go_upto_region 1 with fail
 generalize (w.alloc (.cells #[.slice A n c,.int .i64 re,.int .i64 lo] 24)).alloc (.cells #[.int .i64 f,.int .i64 l,.bool far,.int .i64 pc] 29)=X at HA HB kf ks ⊢
 have k0:∀wx,Below X.heap.size X wx→(Below X.heap.size X wx∧wx.cell? ⟨w.heap.size,0,none⟩=some (.slice A n c)∧wx.cell? ⟨w.heap.size,1,none⟩=some (.int .i64 re)∧wx.cell? ⟨w.heap.size,2,none⟩=some (.int .i64 lo)∧wx.cell? ⟨w.heap.size+1,0,none⟩=some (.int .i64 f)∧wx.cell? ⟨w.heap.size+1,2,none⟩=some (.bool far)):=fun wx h=>⟨h,((kf.below h kf.lt).cell 0).trans rfl,((kf.below h kf.lt).cell 1).trans rfl,((kf.below h kf.lt).cell 2).trans rfl,((ks.below h ks.lt).cell 0).trans rfl,((ks.below h ks.lt).cell 2).trans rfl⟩
 have KP:=Lib.hid k0
 clear k0
 have gq0:=(KP.out X (Below.refl _ _)).2.1
 have gq1:=(KP.out X (Below.refl _ _)).2.2.1
 have gq2:=(KP.out X (Below.refl _ _)).2.2.2.1
 have gq3:=(KP.out X (Below.refl _ _)).2.2.2.2.1
 have gq4:=(KP.out X (Below.refl _ _)).2.2.2.2.2
 first
  | go_region_held3 (fun wx=>Below X.heap.size X wx∧wx.cell? ⟨w.heap.size,0,none⟩=some (.slice A n c)∧wx.cell? ⟨w.heap.size,1,none⟩=some (.int .i64 re)∧wx.cell? ⟨w.heap.size,2,none⟩=some (.int .i64 lo)∧wx.cell? ⟨w.heap.size+1,0,none⟩=some (.int .i64 f)∧wx.cell? ⟨w.heap.size+1,2,none⟩=some (.bool far)) (first | assumption | exact KP.out _ (Below.refl _ _).drew | exact KP.out _ (below_chain (And.left (by assumption)) (by assumption) (Below.size (And.left (by assumption)))))
    (first
     | (go_at_call 63;refine (rname_of HNM.out _ (HA.out.below (And.left (by assumption))) hv H12.out.1 H12.out.2).mono ?_;rintro e wa ⟨rfl,hba⟩)
     | (go_at_call 64;refine (either_of HEI.out _).mono ?_;rintro e wc ⟨rfl,rfl⟩))
  | fail
 all_goals
  have hbf:=And.left (show Below X.heap.size X _∧_ by assumption)
  clear gq0 gq1 gq2 gq3 gq4
  go_wp2_with fail
  go_ret
  exact ⟨retS HR.out,below_chain HB.out hbf HB.out.size⟩
theorem brief_of {A:Option Addr} {n c:Nat} {L:List Fg} {re lo:Int} {s:Sg} {S:List UInt8} (h:shortF L s=S) (w:World) (hA:Fgs w A n L) (hv:TOk L) (h1:1≤s.f) (h2:s.f≤(n:Int)) :
  Calls Tryz.prog 118 #[frV A n c re lo,sgV s] w fun e w'=>e=.returned (.string (bA S))∧Below w.heap.size w w':=by
 subst h;exact nref_brief A n c L re lo s w hA hv h1 h2
set_option maxHeartbeats 12800000 in
set_option maxRecDepth 100000 in
theorem nref_Sign (A:Option Addr) (n c:Nat) (L:List Fg) (re lo:Int) (o:Og) (B:Option Addr) (m d:Nat) (w:World) (hA:Fgs w A n L) (hv:TOk L) (hO:OpIn w o B m d) (hr:rightB n o=true) (hm:m≤10000) :
  Calls Tryz.prog 71 #[frV A n c re lo,opV o B m d] w fun e w'=>e=.returned (.string (bA (itemF L o)))∧Below w.heap.size w w':=by
 obtain ⟨h1,h8,hf1,hf2,hpn,hfrn⟩:=rightB_kind hr
 have hlen:=hO.path.len
 have hlN:=hv.len hf1 (by rw [hA.len];exact hf2)
 have hP:Stps w B m o.path:=hO.path
 have hLF:itemF L o=nmF L o.f++signS o.kind++itailF L o:=rfl
 have hnl:=hA.len
 obtain ⟨kind,f,⟨ff,fl,ffar,fpc⟩,path,over⟩:=o
 simp only at h1 h8 hf1 hf2 hpn hfrn hlen hlN hP hLF ⊢
 obtain ⟨NM,hNM⟩:∃T,nmF L f=T:=⟨_,rfl⟩
 obtain ⟨OV,hOV⟩:∃T,letterF over=T:=⟨_,rfl⟩
 have lOV:OV.length≤1:=by rw [←hOV];cases over<;>decide
 have hEI:(if over then (⟨#[111]⟩:ByteArray) else ⟨#[117]⟩)=bA OV:=by rw [←hOV];cases over<;>rfl
 rw [hNM] at hlN hLF
 have HLF:=Lib.hid hLF
 have HNM:=Lib.hid hNM
 have HOV:=Lib.hid hOV
 have HEI:=Lib.hid hEI
 have HF12:=Lib.hid (show 1≤f∧f≤(n:Int) from ⟨hf1,hf2⟩)
 have HPN:=Lib.hid hpn
 have HFR:=Lib.hid hfrn
 have HLEN:=Lib.hid hlen
 have HNL:=Lib.hid hnl
 have HK:=Lib.hid (show 1≤kind∧kind≤8 from ⟨h1,h8⟩)
 have HA:=Lib.hid hA
 have HP:=Lib.hid hP
 have HB:=Lib.hid (Below.refl w.heap.size w)
 clear hLF hNM hOV hEI hf1 hf2 hpn hfrn hlen hnl h1 h8 hA hP hO hr
 go_enter Tryz.func71,Tryz.ntmps71
 have hba:Below w.heap.size w ((w.alloc (.cells #[.slice A n c,.int .i64 re,.int .i64 lo] 24)).alloc (.cells #[.int .i64 kind,.int .i64 f,.int .i64 ff,.int .i64 fl,.bool ffar,.int .i64 fpc,.slice B m d,.bool over] 32)):=((Below.refl _ _).alloc (Nat.le_refl _) _).alloc (by simp) _
 replace HA:=Lib.hid (HA.out.below hba)
 replace HP:=Lib.hid (HP.out.below hba)
 replace HB:=Lib.hid (below_chain HB.out hba HB.out.size)
 have kf:=(Blk.new w 24 #[.slice A n c,.int .i64 re,.int .i64 lo]).alloc (.cells #[.int .i64 kind,.int .i64 f,.int .i64 ff,.int .i64 fl,.bool ffar,.int .i64 fpc,.slice B m d,.bool over] 32)
 have ks:Blk ((w.alloc (.cells #[.slice A n c,.int .i64 re,.int .i64 lo] 24)).alloc (.cells #[.int .i64 kind,.int .i64 f,.int .i64 ff,.int .i64 fl,.bool ffar,.int .i64 fpc,.slice B m d,.bool over] 32)) (w.heap.size+1) 32 #[.int .i64 kind,.int .i64 f,.int .i64 ff,.int .i64 fl,.bool ffar,.int .i64 fpc,.slice B m d,.bool over]:=heap_alloc2_new w _ _
 clear hba
 go_upto_region 1 with fail
 generalize (w.alloc (.cells #[.slice A n c,.int .i64 re,.int .i64 lo] 24)).alloc (.cells #[.int .i64 kind,.int .i64 f,.int .i64 ff,.int .i64 fl,.bool ffar,.int .i64 fpc,.slice B m d,.bool over] 32)=X at HA HP HB kf ks ⊢
 have a0:X.cell? ⟨w.heap.size,0,none⟩=some (.slice A n c):=(kf.cell 0).trans rfl
 have a1:X.cell? ⟨w.heap.size,1,none⟩=some (.int .i64 re):=(kf.cell 1).trans rfl
 have a2:X.cell? ⟨w.heap.size,2,none⟩=some (.int .i64 lo):=(kf.cell 2).trans rfl
 have e1:X.cell? ⟨w.heap.size+1,1,none⟩=some (.int .i64 f):=(ks.cell 1).trans rfl
 go_wp2_with fail
 refine (rname_of HNM.out _ HA.out hv HF12.out.1 HF12.out.2).mono ?_
 rintro e u1 ⟨rfl,hb⟩
 clear a0 a1 a2 e1
 replace HA:=Lib.hid (HA.out.below hb)
 replace HP:=Lib.hid (HP.out.below hb)
 replace HB:=Lib.hid (below_chain HB.out hb HB.out.size)
 replace kf:=kf.below hb kf.lt
 replace ks:=ks.below hb ks.lt
 clear hb
 have e7:u1.cell? ⟨w.heap.size+1,7,none⟩=some (.bool over):=(ks.cell 7).trans rfl
 go_wp2_with fail
 refine (either_of HEI.out _).mono ?_
 rintro e u2 ⟨rfl,rfl⟩
 clear e7
 clear HEI HNM
 have hk:(kind=1∨kind=2∨kind=8)∨kind=4∨kind=5∨(kind=6∨kind=7)∨kind=3:=by have:=HK.out;omega
 clear HK
 rcases hk with hk | rfl | rfl | hk | rfl
 ·rcases hk with rfl | rfl | rfl
  ·skip
   obtain ⟨Q1,hQ1⟩:∃T,NM++[45]=T:=⟨_,rfl⟩
   have lQ1:Q1.length≤44:=by rw [←hQ1];simp;omega
   have sQ1:=sAddT hQ1 _ ⟨#[45]⟩ rfl rfl (by omega) (by simp)
   have HR:=Lib.hid (show bA Q1=bA (itemF L ⟨1,f,⟨ff,fl,ffar,fpc⟩,path,over⟩) by rw [HLF.out,←hQ1];simp [itailF,signS])
   clear hQ1 lQ1
   have e0:u2.cell? ⟨w.heap.size+1,0,none⟩=some (.int .i64 1):=(ks.cell 0).trans rfl
   go_wp2_with fail
   go_ret
   exact ⟨retS HR.out,HB.out⟩
  ·skip
   obtain ⟨Q1,hQ1⟩:∃T,NM++[94]=T:=⟨_,rfl⟩
   have lQ1:Q1.length≤44:=by rw [←hQ1];simp;omega
   have sQ1:=sAddT hQ1 _ ⟨#[94]⟩ rfl rfl (by omega) (by simp)
   have HR:=Lib.hid (show bA Q1=bA (itemF L ⟨2,f,⟨ff,fl,ffar,fpc⟩,path,over⟩) by rw [HLF.out,←hQ1];simp [itailF,signS])
   clear hQ1 lQ1
   have e0:u2.cell? ⟨w.heap.size+1,0,none⟩=some (.int .i64 2):=(ks.cell 0).trans rfl
   go_wp2_with fail
   go_ret
   exact ⟨retS HR.out,HB.out⟩
  ·skip
   obtain ⟨Q1,hQ1⟩:∃T,NM++[33]=T:=⟨_,rfl⟩
   have lQ1:Q1.length≤44:=by rw [←hQ1];simp;omega
   have sQ1:=sAddT hQ1 _ ⟨#[33]⟩ rfl rfl (by omega) (by simp)
   have HR:=Lib.hid (show bA Q1=bA (itemF L ⟨8,f,⟨ff,fl,ffar,fpc⟩,path,over⟩) by rw [HLF.out,←hQ1];simp [itailF,signS])
   clear hQ1 lQ1
   have e0:u2.cell? ⟨w.heap.size+1,0,none⟩=some (.int .i64 8):=(ks.cell 0).trans rfl
   go_wp2_with fail
   go_ret
   exact ⟨retS HR.out,HB.out⟩
 ·skip
  obtain ⟨Q1,hQ1⟩:∃T,NM++[126]=T:=⟨_,rfl⟩
  have lQ1:Q1.length≤44:=by rw [←hQ1];simp;omega
  have sQ1:=sAddT hQ1 _ ⟨#[126]⟩ rfl rfl (by omega) (by simp)
  obtain ⟨Q2,hQ2⟩:∃T,Q1++OV=T:=⟨_,rfl⟩
  have lQ2:Q2.length≤45:=by rw [←hQ2];simp;omega
  have sQ2:=sAddT hQ2 _ _ rfl rfl (by omega) (by omega)
  have HR:=Lib.hid (show bA Q2=bA (itemF L ⟨4,f,⟨ff,fl,ffar,fpc⟩,path,over⟩) by rw [HLF.out,←hQ2,←hQ1,←HOV.out];simp [itailF,signS])
  clear hQ1 hQ2 lQ1 lQ2
  have e0:u2.cell? ⟨w.heap.size+1,0,none⟩=some (.int .i64 4):=(ks.cell 0).trans rfl
  go_wp2_with fail
  go_ret
  exact ⟨retS HR.out,HB.out⟩
 ·have hnf:=namedB_iff.1 (HFR.out (by omega))
  simp only at hnf
  have hlP:=tshort_len hv (s:=⟨ff,fl,ffar,fpc⟩) hnf.1 (by rw [HNL.out];exact hnf.2.1)
  obtain ⟨PL,hPL⟩:∃T,shortF L ⟨ff,fl,ffar,fpc⟩=T:=⟨_,rfl⟩
  rw [hPL] at hlP
  obtain ⟨Q1,hQ1⟩:∃T,NM++[61]=T:=⟨_,rfl⟩
  have lQ1:Q1.length≤44:=by rw [←hQ1];simp;omega
  have sQ1:=sAddT hQ1 _ ⟨#[61]⟩ rfl rfl (by omega) (by simp)
  obtain ⟨Q2,hQ2⟩:∃T,Q1++PL=T:=⟨_,rfl⟩
  have lQ2:Q2.length≤88:=by rw [←hQ2];simp;omega
  have sQ2:=sAddT hQ2 _ _ rfl rfl (by omega) (by omega)
  obtain ⟨Q3,hQ3⟩:∃T,Q2++OV=T:=⟨_,rfl⟩
  have lQ3:Q3.length≤89:=by rw [←hQ3];simp;omega
  have sQ3:=sAddT hQ3 _ _ rfl rfl (by omega) (by omega)
  have HR:=Lib.hid (show bA Q3=bA (itemF L ⟨5,f,⟨ff,fl,ffar,fpc⟩,path,over⟩) by rw [HLF.out,←hQ3,←hQ2,←hQ1,←HOV.out,←hPL];simp [itailF,signS])
  have HPL:=Lib.hid hPL
  have HNF:=Lib.hid (show 1≤ff∧ff≤(n:Int) from ⟨hnf.1,hnf.2.1⟩)
  clear hQ1 hQ2 hQ3 lQ1 lQ2 lQ3 hPL hnf hlP
  have a0:u2.cell? ⟨w.heap.size,0,none⟩=some (.slice A n c):=(kf.cell 0).trans rfl
  have a1:u2.cell? ⟨w.heap.size,1,none⟩=some (.int .i64 re):=(kf.cell 1).trans rfl
  have a2:u2.cell? ⟨w.heap.size,2,none⟩=some (.int .i64 lo):=(kf.cell 2).trans rfl
  have e0:u2.cell? ⟨w.heap.size+1,0,none⟩=some (.int .i64 5):=(ks.cell 0).trans rfl
  have e2:u2.cell? ⟨w.heap.size+1,2,none⟩=some (.int .i64 ff):=(ks.cell 2).trans rfl
  have e3:u2.cell? ⟨w.heap.size+1,3,none⟩=some (.int .i64 fl):=(ks.cell 3).trans rfl
  have e4:u2.cell? ⟨w.heap.size+1,4,none⟩=some (.bool ffar):=(ks.cell 4).trans rfl
  have e5:u2.cell? ⟨w.heap.size+1,5,none⟩=some (.int .i64 fpc):=(ks.cell 5).trans rfl
  go_wp2_with fail
  refine (brief_of HPL.out _ HA.out hv HNF.out.1 HNF.out.2).mono ?_
  rintro e u3 ⟨rfl,hb⟩
  clear a0 a1 a2 e0 e2 e3 e4 e5
  replace HA:=Lib.hid (HA.out.below hb)
  replace HP:=Lib.hid (HP.out.below hb)
  replace HB:=Lib.hid (below_chain HB.out hb HB.out.size)
  replace kf:=kf.below hb kf.lt
  replace ks:=ks.below hb ks.lt
  clear hb
  go_wp2_with fail
  go_ret
  exact ⟨retS HR.out,HB.out⟩
 ·have hnf:=HFR.out (by omega)
  have hnf2:=namedB_iff.1 hnf
  simp only at hnf2
  have hlP:=hv.len (f:=ff) (by omega) (by rw [HNL.out];omega)
  obtain ⟨PL,hPL⟩:∃T,nmF L ff=T:=⟨_,rfl⟩
  rw [hPL] at hlP
  have HPL:=Lib.hid hPL
  have HNF:=Lib.hid (show 1≤ff∧ff≤(n:Int) from ⟨hnf2.1,hnf2.2.1⟩)
  clear hnf hnf2
  rcases hk with rfl | rfl
  ·skip
   obtain ⟨Q1,hQ1⟩:∃T,NM++[42]=T:=⟨_,rfl⟩
   have lQ1:Q1.length≤44:=by rw [←hQ1];simp;omega
   have sQ1:=sAddT hQ1 _ ⟨#[42]⟩ rfl rfl (by omega) (by simp)
   obtain ⟨Q2,hQ2⟩:∃T,Q1++PL=T:=⟨_,rfl⟩
   have lQ2:Q2.length≤87:=by rw [←hQ2];simp;omega
   have sQ2:=sAddT hQ2 _ _ rfl rfl (by omega) (by omega)
   obtain ⟨Q3,hQ3⟩:∃T,Q2++OV=T:=⟨_,rfl⟩
   have lQ3:Q3.length≤88:=by rw [←hQ3];simp;omega
   have sQ3:=sAddT hQ3 _ _ rfl rfl (by omega) (by omega)
   have HR:=Lib.hid (show bA Q3=bA (itemF L ⟨6,f,⟨ff,fl,ffar,fpc⟩,path,over⟩) by rw [HLF.out,←hQ3,←hQ2,←hQ1,←HOV.out,←hPL];simp [itailF,signS])
   clear hQ1 hQ2 hQ3 lQ1 lQ2 lQ3 hPL hlP
   have a0:u2.cell? ⟨w.heap.size,0,none⟩=some (.slice A n c):=(kf.cell 0).trans rfl
   have a1:u2.cell? ⟨w.heap.size,1,none⟩=some (.int .i64 re):=(kf.cell 1).trans rfl
   have a2:u2.cell? ⟨w.heap.size,2,none⟩=some (.int .i64 lo):=(kf.cell 2).trans rfl
   have e0:u2.cell? ⟨w.heap.size+1,0,none⟩=some (.int .i64 6):=(ks.cell 0).trans rfl
   have e2:u2.cell? ⟨w.heap.size+1,2,none⟩=some (.int .i64 ff):=(ks.cell 2).trans rfl
   go_wp2_with fail
   refine (rname_of HPL.out _ HA.out hv HNF.out.1 HNF.out.2).mono ?_
   rintro e u3 ⟨rfl,hb⟩
   clear a0 a1 a2 e0 e2
   replace HA:=Lib.hid (HA.out.below hb)
   replace HP:=Lib.hid (HP.out.below hb)
   replace HB:=Lib.hid (below_chain HB.out hb HB.out.size)
   replace kf:=kf.below hb kf.lt
   replace ks:=ks.below hb ks.lt
   clear hb
   go_wp2_with fail
   go_ret
   exact ⟨retS HR.out,HB.out⟩
  ·skip
   obtain ⟨Q1,hQ1⟩:∃T,NM++[37]=T:=⟨_,rfl⟩
   have lQ1:Q1.length≤44:=by rw [←hQ1];simp;omega
   have sQ1:=sAddT hQ1 _ ⟨#[37]⟩ rfl rfl (by omega) (by simp)
   obtain ⟨Q2,hQ2⟩:∃T,Q1++PL=T:=⟨_,rfl⟩
   have lQ2:Q2.length≤87:=by rw [←hQ2];simp;omega
   have sQ2:=sAddT hQ2 _ _ rfl rfl (by omega) (by omega)
   obtain ⟨Q3,hQ3⟩:∃T,Q2++OV=T:=⟨_,rfl⟩
   have lQ3:Q3.length≤88:=by rw [←hQ3];simp;omega
   have sQ3:=sAddT hQ3 _ _ rfl rfl (by omega) (by omega)
   have HR:=Lib.hid (show bA Q3=bA (itemF L ⟨7,f,⟨ff,fl,ffar,fpc⟩,path,over⟩) by rw [HLF.out,←hQ3,←hQ2,←hQ1,←HOV.out,←hPL];simp [itailF,signS])
   clear hQ1 hQ2 hQ3 lQ1 lQ2 lQ3 hPL hlP
   have a0:u2.cell? ⟨w.heap.size,0,none⟩=some (.slice A n c):=(kf.cell 0).trans rfl
   have a1:u2.cell? ⟨w.heap.size,1,none⟩=some (.int .i64 re):=(kf.cell 1).trans rfl
   have a2:u2.cell? ⟨w.heap.size,2,none⟩=some (.int .i64 lo):=(kf.cell 2).trans rfl
   have e0:u2.cell? ⟨w.heap.size+1,0,none⟩=some (.int .i64 7):=(ks.cell 0).trans rfl
   have e2:u2.cell? ⟨w.heap.size+1,2,none⟩=some (.int .i64 ff):=(ks.cell 2).trans rfl
   go_wp2_with fail
   refine (rname_of HPL.out _ HA.out hv HNF.out.1 HNF.out.2).mono ?_
   rintro e u3 ⟨rfl,hb⟩
   clear a0 a1 a2 e0 e2
   replace HA:=Lib.hid (HA.out.below hb)
   replace HP:=Lib.hid (HP.out.below hb)
   replace HB:=Lib.hid (below_chain HB.out hb HB.out.size)
   replace kf:=kf.below hb kf.lt
   replace ks:=ks.below hb ks.lt
   clear hb
   go_wp2_with fail
   go_ret
   exact ⟨retS HR.out,HB.out⟩
 ·have hnf:=namedB_iff.1 (HFR.out (by omega))
  simp only at hnf
  have hlP:=tshort_len hv (s:=⟨ff,fl,ffar,fpc⟩) hnf.1 (by rw [HNL.out];exact hnf.2.1)
  obtain ⟨PL,hPL⟩:∃T,shortF L ⟨ff,fl,ffar,fpc⟩=T:=⟨_,rfl⟩
  obtain ⟨G1,hG1⟩:∃T,NM++[60]=T:=⟨_,rfl⟩
  rw [hPL] at hlP
  have mG:G1.length≤44:=by rw [←hG1];simp;omega
  have t1:=sAddT hG1 _ ⟨#[60]⟩ rfl rfl (by omega) (by simp)
  have HPL:=Lib.hid hPL
  have HNF:=Lib.hid (show 1≤ff∧ff≤(n:Int) from ⟨hnf.1,hnf.2.1⟩)
  have HG:=Lib.hid hG1
  have HLP:=Lib.hid hlP
  have hstart:Hid (G1=G1++ipathF L path 0):=Lib.hid (by simp [ipathF])
  clear hPL hnf HFR hG1 hlP
  have e0:u2.cell? ⟨w.heap.size+1,0,none⟩=some (.int .i64 3):=(ks.cell 0).trans rfl
  go_wp2_with fail
  clear e0
  go_loopw [7,8] (fun v7 v8 wr=>∃(i:Nat) (T:List UInt8),i≤m∧v8=.int .i64 i∧v7=.string (bA T)∧Below u2.heap.size u2 wr∧Hid (T=G1++ipathF L path i)∧T.length≤44+i*50) (fun _ v8 _=>m-(intOf v8).toNat)
  case atStart=>exact ⟨0,G1,Nat.zero_le _,rfl,rfl,Below.refl _ _,hstart,by omega⟩
  case round =>
   obtain ⟨i,T,hi,rfl,rfl,hbr,HTT,hTl⟩:=hrel
   have HBR:=Lib.hid hbr
   replace HA:=Lib.hid (HA.out.below hbr)
   replace HP:=Lib.hid (HP.out.below hbr)
   replace HB:=Lib.hid (below_chain HB.out hbr HB.out.size)
   replace kf:=kf.below hbr kf.lt
   replace ks:=ks.below hbr ks.lt
   clear hbr hstart
   by_cases hlt:i < m
   ·have j0:(0:Int)≤(i:Int):=by omega
    have j1:(i:Int) < (m:Int):=by omega
    obtain ⟨g,p,rfl,hg,⟨x0,x1,x2,x3,x4⟩,_⟩:=HP.out.at_ hlt
    have hil:i < path.length:=by rw [HLEN.out];exact hlt
    have hsn:ipathF L path (i+1)=ipathF L path i++(if 0 < i then [44] else [])++istepF L (pa path i):=rfl
    have hnm:=namedB_iff.1 (HPN.out _ (List.mem_of_getElem? (pa_get hil)))
    generalize pa path i=x at x0 x1 x2 x3 x4 hsn hnm
    obtain ⟨⟨xf,xl,xfar,xpc⟩,xo⟩:=x
    simp only at x0 x1 x2 x3 x4 hnm
    have hlX:=tshort_len hv (s:=⟨xf,xl,xfar,xpc⟩) hnm.1 (by rw [HNL.out];exact hnm.2.1)
    have hst:istepF L ⟨⟨xf,xl,xfar,xpc⟩,xo⟩=shortF L ⟨xf,xl,xfar,xpc⟩++letterF xo:=rfl
    obtain ⟨PX,hPX⟩:∃T,shortF L ⟨xf,xl,xfar,xpc⟩=T:=⟨_,rfl⟩
    obtain ⟨OX,hOX⟩:∃T,letterF xo=T:=⟨_,rfl⟩
    have hlO:OX.length≤1:=by rw [←hOX];cases xo<;>decide
    have hEX:(if xo then (⟨#[111]⟩:ByteArray) else ⟨#[117]⟩)=bA OX:=by rw [←hOX];cases xo<;>rfl
    obtain ⟨Y0,hY0⟩:∃U,T++(if 0 < i then [44] else [])=U:=⟨_,rfl⟩
    obtain ⟨Y1,hY1⟩:∃U,Y0++PX=U:=⟨_,rfl⟩
    obtain ⟨Y2,hY2⟩:∃U,Y1++OX=U:=⟨_,rfl⟩
    rw [hPX] at hlX
    have y0:Y0.length≤44+i*50+1:=by rw [←hY0];split<;>simp<;>omega
    have y1:Y1.length≤44+i*50+45:=by rw [←hY1];simp;omega
    have y2:Y2.length≤44+(i+1)*50:=by rw [←hY2];simp;omega
    have r1:=sAddT hY1 _ _ rfl rfl (by omega) (by omega)
    have r2:=sAddT hY2 _ _ rfl rfl (by omega) (by omega)
    have HTT1:=Lib.hid (show Y2=G1++ipathF L path (i+1) by rw [hsn,hst,hPX,hOX,←hY2,←hY1,←hY0,HTT.out];simp)
    have HPX:=Lib.hid hPX
    have HEX:=Lib.hid hEX
    have HNX:=Lib.hid (show 1≤xf∧xf≤(n:Int) from ⟨hnm.1,hnm.2.1⟩)
    have HX:=Lib.hid (show g < wr.heap.size∧wr.cell? ⟨g,p+i*5,none⟩=some (.int .i64 xf)∧wr.cell? ⟨g,p+i*5+1,none⟩=some (.int .i64 xl)∧wr.cell? ⟨g,p+i*5+2,none⟩=some (.bool xfar)∧wr.cell? ⟨g,p+i*5+3,none⟩=some (.int .i64 xpc)∧wr.cell? ⟨g,p+i*5+4,none⟩=some (.bool xo) from ⟨hg,x0,x1,x2,x3,x4⟩)
    have hi8:i+1≤m:=hlt
    have c6:wr.cell? ⟨w.heap.size+1,6,none⟩=some (.slice (some ⟨g,p,none⟩) m d):=(ks.cell 6).trans rfl
    have HY0:=Lib.hid hY0
    clear hsn hst hPX hOX hY0 hY1 hY2 y0 y1 hlX hlO hil HTT hnm hEX x0 x1 x2 x3 x4 hg
    go_upto_if 81 with fail
    clear c6
    go_cut [7] (fun v7 wv=>v7=.string (bA Y0)∧∃V:World,V=wv∧Below wr.heap.size wr V)
    case first =>
     by_cases h0:0 < i
     ·have k1:decide ((0:Int) < (i:Int))=true:=by simp;omega
      have k2:(0:Int) < (i:Int):=by omega
      have hy:T++[44]=Y0:=by have:=HY0.out;rwa [if_pos h0] at this
      have r0:=sAddT hy _ ⟨#[44]⟩ rfl rfl (by omega) (by simp)
      clear hy
      go_wp2_with fail
      go_meet
      case rel=>exact ⟨rfl,_,rfl,Below.refl _ _⟩
     ·have k1:decide ((0:Int) < (i:Int))=false:=by simp;omega
      have k2:¬(0:Int) < (i:Int):=by omega
      have hy:Hid (T=Y0):=Lib.hid (by have:=HY0.out;rwa [if_neg h0,List.append_nil] at this)
      go_wp2_with fail
      go_meet
      case rel=>exact ⟨by rw [hy.out],_,rfl,Below.refl _ _⟩
    case rest =>
     obtain ⟨rfl,V,hV,hb⟩:=hcut
     subst hV
     have HBV:=Lib.hid (below_chain HBR.out hb HBR.out.size)
     have HX:=Lib.hid (show g < V.heap.size∧V.cell? ⟨g,p+i*5,none⟩=some (.int .i64 xf)∧V.cell? ⟨g,p+i*5+1,none⟩=some (.int .i64 xl)∧V.cell? ⟨g,p+i*5+2,none⟩=some (.bool xfar)∧V.cell? ⟨g,p+i*5+3,none⟩=some (.int .i64 xpc)∧V.cell? ⟨g,p+i*5+4,none⟩=some (.bool xo) from ⟨Nat.lt_of_lt_of_le HX.out.1 hb.size,(hb.cell (p:=⟨g,p+i*5,none⟩) HX.out.1).trans HX.out.2.1,(hb.cell (p:=⟨g,p+i*5+1,none⟩) HX.out.1).trans HX.out.2.2.1,(hb.cell (p:=⟨g,p+i*5+2,none⟩) HX.out.1).trans HX.out.2.2.2.1,(hb.cell (p:=⟨g,p+i*5+3,none⟩) HX.out.1).trans HX.out.2.2.2.2.1,(hb.cell (p:=⟨g,p+i*5+4,none⟩) HX.out.1).trans HX.out.2.2.2.2.2⟩)
     replace HA:=Lib.hid (HA.out.below hb)
     replace HP:=Lib.hid (HP.out.below hb)
     replace HB:=Lib.hid (below_chain HB.out hb HB.out.size)
     replace kf:=kf.below hb kf.lt
     replace ks:=ks.below hb ks.lt
     clear hb
     go_upto_region 24 with fail
     have k0:∀wx,Below V.heap.size V wx→(Below V.heap.size V wx∧wx.cell? ⟨w.heap.size,0,none⟩=some (.slice A n c)∧wx.cell? ⟨w.heap.size,1,none⟩=some (.int .i64 re)∧wx.cell? ⟨w.heap.size,2,none⟩=some (.int .i64 lo)∧wx.cell? ⟨w.heap.size+1,6,none⟩=some (.slice (some ⟨g,p,none⟩) m d)∧wx.cell? ⟨g,p+i*5,none⟩=some (.int .i64 xf)∧wx.cell? ⟨g,p+i*5+1,none⟩=some (.int .i64 xl)∧wx.cell? ⟨g,p+i*5+2,none⟩=some (.bool xfar)∧wx.cell? ⟨g,p+i*5+3,none⟩=some (.int .i64 xpc)∧wx.cell? ⟨g,p+i*5+4,none⟩=some (.bool xo)):=fun wx h=>⟨h,((kf.below h kf.lt).cell 0).trans rfl,((kf.below h kf.lt).cell 1).trans rfl,((kf.below h kf.lt).cell 2).trans rfl,((ks.below h ks.lt).cell 6).trans rfl,(h.cell (p:=⟨g,p+i*5,none⟩) HX.out.1).trans HX.out.2.1,(h.cell (p:=⟨g,p+i*5+1,none⟩) HX.out.1).trans HX.out.2.2.1,(h.cell (p:=⟨g,p+i*5+2,none⟩) HX.out.1).trans HX.out.2.2.2.1,(h.cell (p:=⟨g,p+i*5+3,none⟩) HX.out.1).trans HX.out.2.2.2.2.1,(h.cell (p:=⟨g,p+i*5+4,none⟩) HX.out.1).trans HX.out.2.2.2.2.2⟩
     have KP:=Lib.hid k0
     clear k0
     have gq0:=(KP.out V (Below.refl _ _)).2.1
     have gq1:=(KP.out V (Below.refl _ _)).2.2.1
     have gq2:=(KP.out V (Below.refl _ _)).2.2.2.1
     have gq3:=(KP.out V (Below.refl _ _)).2.2.2.2.1
     have gq4:=(KP.out V (Below.refl _ _)).2.2.2.2.2.1
     have gq5:=(KP.out V (Below.refl _ _)).2.2.2.2.2.2.1
     have gq6:=(KP.out V (Below.refl _ _)).2.2.2.2.2.2.2.1
     have gq7:=(KP.out V (Below.refl _ _)).2.2.2.2.2.2.2.2.1
     have gq8:=(KP.out V (Below.refl _ _)).2.2.2.2.2.2.2.2.2
     first
      | go_region_held3 (fun wx=>Below V.heap.size V wx∧wx.cell? ⟨w.heap.size,0,none⟩=some (.slice A n c)∧wx.cell? ⟨w.heap.size,1,none⟩=some (.int .i64 re)∧wx.cell? ⟨w.heap.size,2,none⟩=some (.int .i64 lo)∧wx.cell? ⟨w.heap.size+1,6,none⟩=some (.slice (some ⟨g,p,none⟩) m d)∧wx.cell? ⟨g,p+i*5,none⟩=some (.int .i64 xf)∧wx.cell? ⟨g,p+i*5+1,none⟩=some (.int .i64 xl)∧wx.cell? ⟨g,p+i*5+2,none⟩=some (.bool xfar)∧wx.cell? ⟨g,p+i*5+3,none⟩=some (.int .i64 xpc)∧wx.cell? ⟨g,p+i*5+4,none⟩=some (.bool xo)) (first | assumption | exact KP.out _ (Below.refl _ _).drew | exact KP.out _ (below_chain (And.left (by assumption)) (by assumption) (Below.size (And.left (by assumption)))))
        (first
         | (go_at_call 118;refine (brief_of HPX.out _ (HA.out.below (And.left (by assumption))) hv HNX.out.1 HNX.out.2).mono ?_;rintro e wd ⟨rfl,hbd⟩)
         | (go_at_call 64;refine (either_of HEX.out _).mono ?_;rintro e we ⟨rfl,rfl⟩))
      | fail
     all_goals
      have hbf:=And.left (show Below V.heap.size V _∧_ by assumption)
      clear gq0 gq1 gq2 gq3 gq4 gq5 gq6 gq7 gq8
      have hb2:=below_chain HBV.out hbf HBV.out.size
      go_wp2_with fail
      go_roundw
      case rel=>exact ⟨i+1,Y2,hi8,by go_num,rfl,hb2,HTT1,y2⟩
      case measure=>simp [intOf];omega
   ·have hin:i=m:=by omega
    have j1:¬(i:Int) < (m:Int):=by omega
    have hlP:=HLP.out
    have hpe:Hid (path=[]↔m=0):=Lib.hid (by rw [←HLEN.out];exact List.length_eq_zero_iff.symm)
    by_cases h0:0 < m
    ·have k1:(0:Int) < (m:Int):=by omega
     have k2:decide ((0:Int) < (m:Int))=true:=by simpa using h0
     obtain ⟨Z1,hZ1⟩:∃U,T++[60]=U:=⟨_,rfl⟩
     obtain ⟨Z2,hZ2⟩:∃U,Z1++PL=U:=⟨_,rfl⟩
     have z1:Z1.length≤44+i*50+1:=by rw [←hZ1];simp;omega
     have r1:=sAddT hZ1 _ ⟨#[60]⟩ rfl rfl (by omega) (by simp)
     have r2:=sAddT hZ2 _ _ rfl rfl (by omega) (by omega)
     have HR:=Lib.hid (show bA Z2=bA (itemF L ⟨3,f,⟨ff,fl,ffar,fpc⟩,path,over⟩) by
      have hne:path≠[]:=fun e=>by have:=hpe.out.1 e;omega
      rw [HLF.out,←hZ2,←hZ1,HTT.out,←HG.out,←HPL.out,hin,←HLEN.out];simp [itailF,signS,hne])
     clear hin hZ1 hZ2 HTT z1 hlP hTl hpe h0
     have a0:wr.cell? ⟨w.heap.size,0,none⟩=some (.slice A n c):=(kf.cell 0).trans rfl
     have a1:wr.cell? ⟨w.heap.size,1,none⟩=some (.int .i64 re):=(kf.cell 1).trans rfl
     have a2:wr.cell? ⟨w.heap.size,2,none⟩=some (.int .i64 lo):=(kf.cell 2).trans rfl
     have e2:wr.cell? ⟨w.heap.size+1,2,none⟩=some (.int .i64 ff):=(ks.cell 2).trans rfl
     have e3:wr.cell? ⟨w.heap.size+1,3,none⟩=some (.int .i64 fl):=(ks.cell 3).trans rfl
     have e4:wr.cell? ⟨w.heap.size+1,4,none⟩=some (.bool ffar):=(ks.cell 4).trans rfl
     have e5:wr.cell? ⟨w.heap.size+1,5,none⟩=some (.int .i64 fpc):=(ks.cell 5).trans rfl
     have e6:wr.cell? ⟨w.heap.size+1,6,none⟩=some (.slice B m d):=(ks.cell 6).trans rfl
     go_wp2_with fail
     refine (brief_of HPL.out _ HA.out hv HNF.out.1 HNF.out.2).mono ?_
     rintro e u4 ⟨rfl,hb⟩
     clear a0 a1 a2 e2 e3 e4 e5 e6
     replace HA:=Lib.hid (HA.out.below hb)
     replace HP:=Lib.hid (HP.out.below hb)
     replace HB:=Lib.hid (below_chain HB.out hb HB.out.size)
     replace kf:=kf.below hb kf.lt
     replace ks:=ks.below hb ks.lt
     clear hb
     go_wp2_with fail
     go_ret
     exact ⟨retS HR.out,HB.out⟩
    ·have k1:¬(0:Int) < (m:Int):=by omega
     have k2:decide ((0:Int) < (m:Int))=false:=by simpa using h0
     obtain ⟨Z2,hZ2⟩:∃U,T++PL=U:=⟨_,rfl⟩
     have r2:=sAddT hZ2 _ _ rfl rfl (by omega) (by omega)
     have HR:=Lib.hid (show bA Z2=bA (itemF L ⟨3,f,⟨ff,fl,ffar,fpc⟩,path,over⟩) by
      have hne:path=[]:=hpe.out.2 (by omega)
      rw [HLF.out,←hZ2,HTT.out,←HG.out,←HPL.out,hin,←HLEN.out];simp [itailF,signS,hne])
     clear hin hZ2 HTT hlP hTl hpe h0
     have a0:wr.cell? ⟨w.heap.size,0,none⟩=some (.slice A n c):=(kf.cell 0).trans rfl
     have a1:wr.cell? ⟨w.heap.size,1,none⟩=some (.int .i64 re):=(kf.cell 1).trans rfl
     have a2:wr.cell? ⟨w.heap.size,2,none⟩=some (.int .i64 lo):=(kf.cell 2).trans rfl
     have e2:wr.cell? ⟨w.heap.size+1,2,none⟩=some (.int .i64 ff):=(ks.cell 2).trans rfl
     have e3:wr.cell? ⟨w.heap.size+1,3,none⟩=some (.int .i64 fl):=(ks.cell 3).trans rfl
     have e4:wr.cell? ⟨w.heap.size+1,4,none⟩=some (.bool ffar):=(ks.cell 4).trans rfl
     have e5:wr.cell? ⟨w.heap.size+1,5,none⟩=some (.int .i64 fpc):=(ks.cell 5).trans rfl
     have e6:wr.cell? ⟨w.heap.size+1,6,none⟩=some (.slice B m d):=(ks.cell 6).trans rfl
     go_wp2_with fail
     refine (brief_of HPL.out _ HA.out hv HNF.out.1 HNF.out.2).mono ?_
     rintro e u4 ⟨rfl,hb⟩
     clear a0 a1 a2 e2 e3 e4 e5 e6
     replace HA:=Lib.hid (HA.out.below hb)
     replace HP:=Lib.hid (HP.out.below hb)
     replace HB:=Lib.hid (below_chain HB.out hb HB.out.size)
     replace kf:=kf.below hb kf.lt
     replace ks:=ks.below hb ks.lt
     clear hb
     go_wp2_with fail
     go_ret
     exact ⟨retS HR.out,HB.out⟩
theorem sign_of {A:Option Addr} {n c:Nat} {L:List Fg} {re lo:Int} {o:Og} {S:List UInt8} (h:itemF L o=S) (B:Option Addr) (m d:Nat) (w:World) (hA:Fgs w A n L) (hv:TOk L) (hO:OpIn w o B m d) (hr:rightB n o=true) (hm:m≤10000) :
  Calls Tryz.prog 71 #[frV A n c re lo,opV o B m d] w fun e w'=>e=.returned (.string (bA S))∧Below w.heap.size w w':=by
 subst h;exact nref_Sign A n c L re lo o B m d w hA hv hO hr hm
end Go.Proofs.YtlmdfmnbcndhoaaGreatDoor
