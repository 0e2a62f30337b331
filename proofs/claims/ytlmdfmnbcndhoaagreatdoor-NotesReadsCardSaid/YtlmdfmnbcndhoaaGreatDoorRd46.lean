/-
  Lemmas for NotesReads, part 46: contracts and plain facts. Conditions: those that each theorem names.
-/
import Derived.Test.YtlmdfmnbcndhoaaGreatDoorRd45
namespace Go.Proofs.YtlmdfmnbcndhoaaGreatDoor
open Go.RowKit
theorem zFM {L:List Fg} (hv:TOk L) {s:Sg} (hs:zAn L.length s=true):(zAI L s).length≤110:=by
 obtain ⟨h1,h2,h3,h4,h5,h6⟩:=zAk.1 hs;have a:=hv.len h1 h2;have b:=zGF s.far;have i:=zAL (x:=s.l) ⟨by omega,by omega⟩;have j:=zAL (x:=s.pc) ⟨by omega,by omega⟩;unfold zAI;split<;>split<;>simp<;>omega
set_option maxHeartbeats 12800000 in
set_option maxRecDepth 100000 in
theorem zNH (A:Option Addr) (n c:Nat) (L:List Fg) (re lo:Int) (o:Og) (B:Option Addr) (m d:Nat) (w:World) (hA:Fgs w A n L) (hv:TOk L) (hO:OpIn w o B m d) (hr:zAi n o=true) (hm:m≤10000) :
  Calls Tryz.prog 25 #[frV A n c re lo,opV o B m d] w fun e w'=>e=.returned (.string (bA (zBk L o)))∧Below w.heap.size w w':=by
 obtain ⟨h1,h8,hf1,hf2,hpn,hfrn⟩:=zBa hr;have hlen:=hO.path.len;have hlN:=hv.len hf1 (by rw [hA.len];exact hf2);have hP:Stps w B m o.path:=hO.path;have hLF:zBk L o=zAs o.kind++[32]++nmF L o.f++zCt L o:=rfl;have hnl:=hA.len;obtain ⟨kind,f,⟨ff,fl,ffar,fpc⟩,path,over⟩:=o;simp only at h1 h8 hf1 hf2 hpn hfrn hlen hlN hP hLF ⊢;obtain ⟨NM,hNM⟩:∃T,nmF L f=T:=⟨_,rfl⟩
 obtain ⟨OV,hOV⟩:∃T,[32]++zAv over=T:=⟨_,rfl⟩
 have lOV:OV.length≤6:=by rw [←hOV];cases over<;>decide
 have hEI:(if over then (⟨#[32,111,118,101,114]⟩:ByteArray) else ⟨#[32,117,110,100,101,114]⟩)=bA OV:=by rw [←hOV];cases over<;>rfl
 rw [hNM] at hlN hLF;have HLF:=qH hLF;have HNM:=qH hNM;have HOV:=qH hOV;have HEI:=qH hEI;have HF12:=qH (show 1≤f∧f≤(n:Int) from ⟨hf1,hf2⟩);have HPN:=qH hpn;have HFR:=qH hfrn;have HLEN:=qH hlen;have HNL:=qH hnl;have HK:=qH (show 1≤kind∧kind≤8 from ⟨h1,h8⟩);have HA:=qH hA;have HP:=qH hP;have HB:=qH (Below.refl w.heap.size w);clear hLF hNM hOV hEI hf1 hf2 hpn hfrn hlen hnl h1 h8 hA hP hO hr;go_enter Tryz.func25,Tryz.ntmps25;have hba:Below w.heap.size w ((w.alloc (.cells #[.slice A n c,.int .i64 re,.int .i64 lo] 24)).alloc (.cells #[.int .i64 kind,.int .i64 f,.int .i64 ff,.int .i64 fl,.bool ffar,.int .i64 fpc,.slice B m d,.bool over] 32)):=((Below.refl _ _).alloc (Nat.le_refl _) _).alloc (by simp) _;replace HA:=qH (HA.out.below hba);replace HP:=qH (HP.out.below hba);replace HB:=qH (zAa HB.out hba HB.out.size);have kf:=(Blk.new w 24 #[.slice A n c,.int .i64 re,.int .i64 lo]).alloc (.cells #[.int .i64 kind,.int .i64 f,.int .i64 ff,.int .i64 fl,.bool ffar,.int .i64 fpc,.slice B m d,.bool over] 32);have ks:Blk ((w.alloc (.cells #[.slice A n c,.int .i64 re,.int .i64 lo] 24)).alloc (.cells #[.int .i64 kind,.int .i64 f,.int .i64 ff,.int .i64 fl,.bool ffar,.int .i64 fpc,.slice B m d,.bool over] 32)) (w.heap.size+1) 32 #[.int .i64 kind,.int .i64 f,.int .i64 ff,.int .i64 fl,.bool ffar,.int .i64 fpc,.slice B m d,.bool over]:=heap_alloc2_new w _ _;clear hba;go_upto_region 1 with fail
 generalize (w.alloc (.cells #[.slice A n c,.int .i64 re,.int .i64 lo] 24)).alloc (.cells #[.int .i64 kind,.int .i64 f,.int .i64 ff,.int .i64 fl,.bool ffar,.int .i64 fpc,.slice B m d,.bool over] 32)=X at HA HP HB kf ks ⊢;have a0:X.cell? ⟨w.heap.size,0,none⟩=some (.slice A n c):=(kf.cell 0).trans rfl;have a1:X.cell? ⟨w.heap.size,1,none⟩=some (.int .i64 re):=(kf.cell 1).trans rfl;have a2:X.cell? ⟨w.heap.size,2,none⟩=some (.int .i64 lo):=(kf.cell 2).trans rfl;have e1:X.cell? ⟨w.heap.size+1,1,none⟩=some (.int .i64 f):=(ks.cell 1).trans rfl;go_wp2_with fail
 refine (zGx HNM.out _ HA.out hv HF12.out.1 HF12.out.2).mono ?_;rintro e u1 ⟨rfl,hb⟩;clear a0 a1 a2 e1;replace HA:=qH (HA.out.below hb);replace HP:=qH (HP.out.below hb);replace HB:=qH (zAa HB.out hb HB.out.size);replace kf:=kf.below hb kf.lt;replace ks:=ks.below hb ks.lt;clear hb;have e7:u1.cell? ⟨w.heap.size+1,7,none⟩=some (.bool over):=(ks.cell 7).trans rfl;go_wp2_with fail
 refine (zHt HEI.out _).mono ?_;rintro e u2 ⟨rfl,rfl⟩;clear e7;clear HEI HNM;have hk:(kind=1∨kind=2∨kind=8)∨kind=4∨kind=5∨(kind=6∨kind=7)∨kind=3:=by have:=HK.out;omega
 clear HK;rcases hk with hk | rfl | rfl | hk | rfl
 ·rcases hk with rfl | rfl | rfl
  ·obtain ⟨T1,hT1⟩:∃T,[114,101,108,101,97,115,101,32]++NM=T:=⟨_,rfl⟩
   have s1:=zAq hT1 ⟨#[114,101,108,101,97,115,101,32]⟩ _ rfl rfl (by simp) (by omega);have HR:=qH (show bA T1=bA (zBk L ⟨1,f,⟨ff,fl,ffar,fpc⟩,path,over⟩) by rw [HLF.out,←hT1];simp [zCt,zAs]);clear hT1;have e0:u2.cell? ⟨w.heap.size+1,0,none⟩=some (.int .i64 1):=(ks.cell 0).trans rfl;go_wp2_with fail
   go_ret;exact ⟨zDj HR.out,HB.out⟩
  ·obtain ⟨T1,hT1⟩:∃T,[110,97,118,97,104,111,32]++NM=T:=⟨_,rfl⟩
   have s1:=zAq hT1 ⟨#[110,97,118,97,104,111,32]⟩ _ rfl rfl (by simp) (by omega);have HR:=qH (show bA T1=bA (zBk L ⟨2,f,⟨ff,fl,ffar,fpc⟩,path,over⟩) by rw [HLF.out,←hT1];simp [zCt,zAs]);clear hT1;have e0:u2.cell? ⟨w.heap.size+1,0,none⟩=some (.int .i64 2):=(ks.cell 0).trans rfl;go_wp2_with fail
   go_ret;exact ⟨zDj HR.out,HB.out⟩
  ·obtain ⟨T1,hT1⟩:∃T,[100,114,111,112,32]++NM=T:=⟨_,rfl⟩
   have s1:=zAq hT1 ⟨#[100,114,111,112,32]⟩ _ rfl rfl (by simp) (by omega);have HR:=qH (show bA T1=bA (zBk L ⟨8,f,⟨ff,fl,ffar,fpc⟩,path,over⟩) by rw [HLF.out,←hT1];simp [zCt,zAs]);clear hT1;have e0:u2.cell? ⟨w.heap.size+1,0,none⟩=some (.int .i64 8):=(ks.cell 0).trans rfl;go_wp2_with fail
   go_ret;exact ⟨zDj HR.out,HB.out⟩
 ·skip;obtain ⟨Q1,hQ1⟩:∃T,[116,119,105,115,116,32]++NM=T:=⟨_,rfl⟩
  have lQ1:Q1.length≤49:=by rw [←hQ1];simp;omega
  have sQ1:=zAq hQ1 ⟨#[116,119,105,115,116,32]⟩ _ rfl rfl (by simp) (by omega);obtain ⟨Q2,hQ2⟩:∃T,Q1++OV=T:=⟨_,rfl⟩
  have lQ2:Q2.length≤55:=by rw [←hQ2];simp;omega
  have sQ2:=zAq hQ2 _ _ rfl rfl (by omega) (by omega);have HR:=qH (show bA Q2=bA (zBk L ⟨4,f,⟨ff,fl,ffar,fpc⟩,path,over⟩) by rw [HLF.out,←hQ2,←hQ1,←HOV.out];simp [zCt,zAs]);clear hQ1 hQ2 lQ1 lQ2;have e0:u2.cell? ⟨w.heap.size+1,0,none⟩=some (.int .i64 4):=(ks.cell 0).trans rfl;go_wp2_with fail
  go_ret;exact ⟨zDj HR.out,HB.out⟩
 ·have hnf:=HFR.out (by omega);have hlP:=zFM hv (s:=⟨ff,fl,ffar,fpc⟩) (by rw [HNL.out];exact hnf);obtain ⟨PL,hPL⟩:∃T,zAI L ⟨ff,fl,ffar,fpc⟩=T:=⟨_,rfl⟩
  rw [hPL] at hlP;obtain ⟨Q1,hQ1⟩:∃T,[116,97,107,101,32]++NM=T:=⟨_,rfl⟩
  have lQ1:Q1.length≤48:=by rw [←hQ1];simp;omega
  have sQ1:=zAq hQ1 ⟨#[116,97,107,101,32]⟩ _ rfl rfl (by simp) (by omega);obtain ⟨Q2,hQ2⟩:∃T,Q1++[32,102,114,111,109,32]=T:=⟨_,rfl⟩
  have lQ2:Q2.length≤54:=by rw [←hQ2];simp;omega
  have sQ2:=zAq hQ2 _ ⟨#[32,102,114,111,109,32]⟩ rfl rfl (by omega) (by simp);obtain ⟨Q3,hQ3⟩:∃T,Q2++PL=T:=⟨_,rfl⟩
  have lQ3:Q3.length≤164:=by rw [←hQ3];simp;omega
  have sQ3:=zAq hQ3 _ _ rfl rfl (by omega) (by omega);obtain ⟨Q4,hQ4⟩:∃T,Q3++OV=T:=⟨_,rfl⟩
  have lQ4:Q4.length≤170:=by rw [←hQ4];simp;omega
  have sQ4:=zAq hQ4 _ _ rfl rfl (by omega) (by omega);have HR:=qH (show bA Q4=bA (zBk L ⟨5,f,⟨ff,fl,ffar,fpc⟩,path,over⟩) by rw [HLF.out,←hQ4,←hQ3,←hQ2,←hQ1,←HOV.out,←hPL];simp [zCt,zAs]);have HPL:=qH hPL;have HNF:=qH hnf;clear hQ1 hQ2 hQ3 hQ4 lQ1 lQ2 lQ3 lQ4 hPL hnf hlP;have a0:u2.cell? ⟨w.heap.size,0,none⟩=some (.slice A n c):=(kf.cell 0).trans rfl;have a1:u2.cell? ⟨w.heap.size,1,none⟩=some (.int .i64 re):=(kf.cell 1).trans rfl;have a2:u2.cell? ⟨w.heap.size,2,none⟩=some (.int .i64 lo):=(kf.cell 2).trans rfl;have e0:u2.cell? ⟨w.heap.size+1,0,none⟩=some (.int .i64 5):=(ks.cell 0).trans rfl;have e2:u2.cell? ⟨w.heap.size+1,2,none⟩=some (.int .i64 ff):=(ks.cell 2).trans rfl;have e3:u2.cell? ⟨w.heap.size+1,3,none⟩=some (.int .i64 fl):=(ks.cell 3).trans rfl;have e4:u2.cell? ⟨w.heap.size+1,4,none⟩=some (.bool ffar):=(ks.cell 4).trans rfl;have e5:u2.cell? ⟨w.heap.size+1,5,none⟩=some (.int .i64 fpc):=(ks.cell 5).trans rfl;go_wp2_with fail
  refine (zLG HPL.out _ HA.out hv HNF.out).mono ?_;rintro e u3 ⟨rfl,hb⟩;clear a0 a1 a2 e0 e2 e3 e4 e5;replace HA:=qH (HA.out.below hb);replace HP:=qH (HP.out.below hb);replace HB:=qH (zAa HB.out hb HB.out.size);replace kf:=kf.below hb kf.lt;replace ks:=ks.below hb ks.lt;clear hb;go_wp2_with fail
  go_ret;exact ⟨zDj HR.out,HB.out⟩
 ·have hnf:=HFR.out (by omega);have hnf2:=zAk.1 hnf;simp only at hnf2;have hlP:=hv.len (f:=ff) (by omega) (by rw [HNL.out];omega);obtain ⟨PL,hPL⟩:∃T,nmF L ff=T:=⟨_,rfl⟩
  rw [hPL] at hlP;have HPL:=qH hPL;have HNF:=qH (show 1≤ff∧ff≤(n:Int) from ⟨hnf2.1,hnf2.2.1⟩);clear hnf hnf2;rcases hk with rfl | rfl
  ·skip;obtain ⟨Q1,hQ1⟩:∃T,[116,114,97,110,115,102,101,114,32]++NM=T:=⟨_,rfl⟩
   have lQ1:Q1.length≤52:=by rw [←hQ1];simp;omega
   have sQ1:=zAq hQ1 ⟨#[116,114,97,110,115,102,101,114,32]⟩ _ rfl rfl (by simp) (by omega);obtain ⟨Q2,hQ2⟩:∃T,Q1++[32,102,114,111,109,32]=T:=⟨_,rfl⟩
   have lQ2:Q2.length≤58:=by rw [←hQ2];simp;omega
   have sQ2:=zAq hQ2 _ ⟨#[32,102,114,111,109,32]⟩ rfl rfl (by omega) (by simp);obtain ⟨Q3,hQ3⟩:∃T,Q2++PL=T:=⟨_,rfl⟩
   have lQ3:Q3.length≤101:=by rw [←hQ3];simp;omega
   have sQ3:=zAq hQ3 _ _ rfl rfl (by omega) (by omega);obtain ⟨Q4,hQ4⟩:∃T,Q3++OV=T:=⟨_,rfl⟩
   have lQ4:Q4.length≤107:=by rw [←hQ4];simp;omega
   have sQ4:=zAq hQ4 _ _ rfl rfl (by omega) (by omega);have HR:=qH (show bA Q4=bA (zBk L ⟨6,f,⟨ff,fl,ffar,fpc⟩,path,over⟩) by rw [HLF.out,←hQ4,←hQ3,←hQ2,←hQ1,←HOV.out,←hPL];simp [zCt,zAs]);clear hQ1 hQ2 hQ3 hQ4 lQ1 lQ2 lQ3 lQ4 hPL hlP;have a0:u2.cell? ⟨w.heap.size,0,none⟩=some (.slice A n c):=(kf.cell 0).trans rfl;have a1:u2.cell? ⟨w.heap.size,1,none⟩=some (.int .i64 re):=(kf.cell 1).trans rfl;have a2:u2.cell? ⟨w.heap.size,2,none⟩=some (.int .i64 lo):=(kf.cell 2).trans rfl;have e0:u2.cell? ⟨w.heap.size+1,0,none⟩=some (.int .i64 6):=(ks.cell 0).trans rfl;have e2:u2.cell? ⟨w.heap.size+1,2,none⟩=some (.int .i64 ff):=(ks.cell 2).trans rfl;go_wp2_with fail
   refine (zGx HPL.out _ HA.out hv HNF.out.1 HNF.out.2).mono ?_;rintro e u3 ⟨rfl,hb⟩;clear a0 a1 a2 e0 e2;replace HA:=qH (HA.out.below hb);replace HP:=qH (HP.out.below hb);replace HB:=qH (zAa HB.out hb HB.out.size);replace kf:=kf.below hb kf.lt;replace ks:=ks.below hb ks.lt;clear hb;go_wp2_with fail
   go_ret;exact ⟨zDj HR.out,HB.out⟩
  ·skip;obtain ⟨Q1,hQ1⟩:∃T,[101,120,99,104,97,110,103,101,32]++NM=T:=⟨_,rfl⟩
   have lQ1:Q1.length≤52:=by rw [←hQ1];simp;omega
   have sQ1:=zAq hQ1 ⟨#[101,120,99,104,97,110,103,101,32]⟩ _ rfl rfl (by simp) (by omega);obtain ⟨Q2,hQ2⟩:∃T,Q1++[32,119,105,116,104,32]=T:=⟨_,rfl⟩
   have lQ2:Q2.length≤58:=by rw [←hQ2];simp;omega
   have sQ2:=zAq hQ2 _ ⟨#[32,119,105,116,104,32]⟩ rfl rfl (by omega) (by simp);obtain ⟨Q3,hQ3⟩:∃T,Q2++PL=T:=⟨_,rfl⟩
   have lQ3:Q3.length≤101:=by rw [←hQ3];simp;omega
   have sQ3:=zAq hQ3 _ _ rfl rfl (by omega) (by omega);obtain ⟨Q4,hQ4⟩:∃T,Q3++OV=T:=⟨_,rfl⟩
   have lQ4:Q4.length≤107:=by rw [←hQ4];simp;omega
   have sQ4:=zAq hQ4 _ _ rfl rfl (by omega) (by omega);have HR:=qH (show bA Q4=bA (zBk L ⟨7,f,⟨ff,fl,ffar,fpc⟩,path,over⟩) by rw [HLF.out,←hQ4,←hQ3,←hQ2,←hQ1,←HOV.out,←hPL];simp [zCt,zAs]);clear hQ1 hQ2 hQ3 hQ4 lQ1 lQ2 lQ3 lQ4 hPL hlP;have a0:u2.cell? ⟨w.heap.size,0,none⟩=some (.slice A n c):=(kf.cell 0).trans rfl;have a1:u2.cell? ⟨w.heap.size,1,none⟩=some (.int .i64 re):=(kf.cell 1).trans rfl;have a2:u2.cell? ⟨w.heap.size,2,none⟩=some (.int .i64 lo):=(kf.cell 2).trans rfl;have e0:u2.cell? ⟨w.heap.size+1,0,none⟩=some (.int .i64 7):=(ks.cell 0).trans rfl;have e2:u2.cell? ⟨w.heap.size+1,2,none⟩=some (.int .i64 ff):=(ks.cell 2).trans rfl;go_wp2_with fail
   refine (zGx HPL.out _ HA.out hv HNF.out.1 HNF.out.2).mono ?_;rintro e u3 ⟨rfl,hb⟩;clear a0 a1 a2 e0 e2;replace HA:=qH (HA.out.below hb);replace HP:=qH (HP.out.below hb);replace HB:=qH (zAa HB.out hb HB.out.size);replace kf:=kf.below hb kf.lt;replace ks:=ks.below hb ks.lt;clear hb;go_wp2_with fail
   go_ret;exact ⟨zDj HR.out,HB.out⟩
 ·have hnf:=HFR.out (by omega);have hlP:=zFM hv (s:=⟨ff,fl,ffar,fpc⟩) (by rw [HNL.out];exact hnf);obtain ⟨PL,hPL⟩:∃T,zAI L ⟨ff,fl,ffar,fpc⟩=T:=⟨_,rfl⟩
  obtain ⟨G1,hG1⟩:∃T,[112,105,99,107,32]++NM=T:=⟨_,rfl⟩
  rw [hPL] at hlP;have mG:G1.length≤48:=by rw [←hG1];simp;omega
  have t1:=zAq hG1 ⟨#[112,105,99,107,32]⟩ _ rfl rfl (by simp) (by omega);have HPL:=qH hPL;have HNF:=qH hnf;have HG:=qH hG1;have HLP:=qH hlP;have hstart:Hid (G1=G1++zDp L (path.take 0)):=qH (by simp [zDp]);clear hPL hnf HFR hG1 hlP;have e0:u2.cell? ⟨w.heap.size+1,0,none⟩=some (.int .i64 3):=(ks.cell 0).trans rfl;go_wp2_with fail
  clear e0;go_loopw [7,8] (fun v7 v8 wr=>∃(i:Nat) (T:List UInt8),i≤m∧v8=.int .i64 i∧v7=.string (bA T)∧Below u2.heap.size u2 wr∧Hid (T=G1++zDp L (path.take i))∧T.length≤48+i*120) (fun _ v8 _=>m-(intOf v8).toNat)
  case atStart=>exact ⟨0,G1,Nat.zero_le _,rfl,rfl,Below.refl _ _,hstart,by omega⟩
  case round =>
   obtain ⟨i,T,hi,rfl,rfl,hbr,HTT,hTl⟩:=hrel;have HBR:=qH hbr;replace HA:=qH (HA.out.below hbr);replace HP:=qH (HP.out.below hbr);replace HB:=qH (zAa HB.out hbr HB.out.size);replace kf:=kf.below hbr kf.lt;replace ks:=ks.below hbr ks.lt;clear hbr hstart;by_cases hlt:i < m
   ·have j0:(0:Int)≤(i:Int):=by omega
    have j1:(i:Int) < (m:Int):=by omega
    obtain ⟨g,p,rfl,hg,⟨x0,x1,x2,x3,x4⟩,_⟩:=HP.out.at_ hlt;have hil:i < path.length:=by rw [HLEN.out];exact hlt
    have hsn:=zHO L hil;have hnm:=HPN.out _ (List.mem_of_getElem? (zCA hil));generalize pa path i=x at x0 x1 x2 x3 x4 hsn hnm;obtain ⟨⟨xf,xl,xfar,xpc⟩,xo⟩:=x;simp only at x0 x1 x2 x3 x4 hnm;have hlX:=zFM hv (s:=⟨xf,xl,xfar,xpc⟩) (by rw [HNL.out];exact hnm);have hst:zKL L ⟨⟨xf,xl,xfar,xpc⟩,xo⟩=([32]++zAv xo++[32])++zAI L ⟨xf,xl,xfar,xpc⟩++[44]:=rfl;obtain ⟨PX,hPX⟩:∃T,zAI L ⟨xf,xl,xfar,xpc⟩=T:=⟨_,rfl⟩
    obtain ⟨OX,hOX⟩:∃T,[32]++zAv xo++[32]=T:=⟨_,rfl⟩
    have hlO:OX.length≤7:=by rw [←hOX];cases xo<;>decide
    have hEX:(if xo then (⟨#[32,111,118,101,114,32]⟩:ByteArray) else ⟨#[32,117,110,100,101,114,32]⟩)=bA OX:=by rw [←hOX];cases xo<;>rfl
    obtain ⟨Y1,hY1⟩:∃U,T++OX=U:=⟨_,rfl⟩
    obtain ⟨Y2,hY2⟩:∃U,Y1++PX=U:=⟨_,rfl⟩
    obtain ⟨Y3,hY3⟩:∃U,Y2++[44]=U:=⟨_,rfl⟩
    rw [hPX] at hlX;have y1:Y1.length≤48+i*120+7:=by rw [←hY1];simp;omega
    have y2:Y2.length≤48+i*120+117:=by rw [←hY2];simp;omega
    have y3:Y3.length≤48+(i+1)*120:=by rw [←hY3];simp;omega
    have r1:=zAq hY1 _ _ rfl rfl (by omega) (by omega);have r2:=zAq hY2 _ _ rfl rfl (by omega) (by omega);have r3:=zAq hY3 _ ⟨#[44]⟩ rfl rfl (by omega) (by simp);have HTT1:=qH (show Y3=G1++zDp L (path.take (i+1)) by rw [hsn,hst,hPX,hOX,←hY3,←hY2,←hY1,HTT.out];simp);have HPX:=qH hPX;have HEX:=qH hEX;have HNX:=qH hnm;have HX:=qH (show g < wr.heap.size∧wr.cell? ⟨g,p+i*5,none⟩=some (.int .i64 xf)∧wr.cell? ⟨g,p+i*5+1,none⟩=some (.int .i64 xl)∧wr.cell? ⟨g,p+i*5+2,none⟩=some (.bool xfar)∧wr.cell? ⟨g,p+i*5+3,none⟩=some (.int .i64 xpc)∧wr.cell? ⟨g,p+i*5+4,none⟩=some (.bool xo) from ⟨hg,x0,x1,x2,x3,x4⟩);have hi8:i+1≤m:=hlt;clear hsn hst hPX hOX hY1 hY2 hY3 y1 y2 hlX hlO hil HTT hnm hEX x0 x1 x2 x3 x4 hg hTl;have c6:wr.cell? ⟨w.heap.size+1,6,none⟩=some (.slice (some ⟨g,p,none⟩) m d):=(ks.cell 6).trans rfl;go_upto_region 22 with fail
    clear c6;have k0:∀wx,Below wr.heap.size wr wx→(Below wr.heap.size wr wx∧wx.cell? ⟨w.heap.size,0,none⟩=some (.slice A n c)∧wx.cell? ⟨w.heap.size,1,none⟩=some (.int .i64 re)∧wx.cell? ⟨w.heap.size,2,none⟩=some (.int .i64 lo)∧wx.cell? ⟨w.heap.size+1,6,none⟩=some (.slice (some ⟨g,p,none⟩) m d)∧wx.cell? ⟨g,p+i*5,none⟩=some (.int .i64 xf)∧wx.cell? ⟨g,p+i*5+1,none⟩=some (.int .i64 xl)∧wx.cell? ⟨g,p+i*5+2,none⟩=some (.bool xfar)∧wx.cell? ⟨g,p+i*5+3,none⟩=some (.int .i64 xpc)∧wx.cell? ⟨g,p+i*5+4,none⟩=some (.bool xo)):=fun wx h=>⟨h,((kf.below h kf.lt).cell 0).trans rfl,((kf.below h kf.lt).cell 1).trans rfl,((kf.below h kf.lt).cell 2).trans rfl,((ks.below h ks.lt).cell 6).trans rfl,(h.cell (p:=⟨g,p+i*5,none⟩) HX.out.1).trans HX.out.2.1,(h.cell (p:=⟨g,p+i*5+1,none⟩) HX.out.1).trans HX.out.2.2.1,(h.cell (p:=⟨g,p+i*5+2,none⟩) HX.out.1).trans HX.out.2.2.2.1,(h.cell (p:=⟨g,p+i*5+3,none⟩) HX.out.1).trans HX.out.2.2.2.2.1,(h.cell (p:=⟨g,p+i*5+4,none⟩) HX.out.1).trans HX.out.2.2.2.2.2⟩
    have KP:=qH k0;clear k0;have g0:=(KP.out wr (Below.refl _ _)).2.1;have g1:=(KP.out wr (Below.refl _ _)).2.2.1;have g2:=(KP.out wr (Below.refl _ _)).2.2.2.1;have g3:=(KP.out wr (Below.refl _ _)).2.2.2.2.1;have g4:=(KP.out wr (Below.refl _ _)).2.2.2.2.2.1;have g5:=(KP.out wr (Below.refl _ _)).2.2.2.2.2.2.1;have g6:=(KP.out wr (Below.refl _ _)).2.2.2.2.2.2.2.1;have g7:=(KP.out wr (Below.refl _ _)).2.2.2.2.2.2.2.2.1;have g8:=(KP.out wr (Below.refl _ _)).2.2.2.2.2.2.2.2.2
    first
     | go_region_held3 (fun wx=>Below wr.heap.size wr wx∧wx.cell? ⟨w.heap.size,0,none⟩=some (.slice A n c)∧wx.cell? ⟨w.heap.size,1,none⟩=some (.int .i64 re)∧wx.cell? ⟨w.heap.size,2,none⟩=some (.int .i64 lo)∧wx.cell? ⟨w.heap.size+1,6,none⟩=some (.slice (some ⟨g,p,none⟩) m d)∧wx.cell? ⟨g,p+i*5,none⟩=some (.int .i64 xf)∧wx.cell? ⟨g,p+i*5+1,none⟩=some (.int .i64 xl)∧wx.cell? ⟨g,p+i*5+2,none⟩=some (.bool xfar)∧wx.cell? ⟨g,p+i*5+3,none⟩=some (.int .i64 xpc)∧wx.cell? ⟨g,p+i*5+4,none⟩=some (.bool xo)) (first | assumption | exact KP.out _ (Below.refl _ _).drew | exact KP.out _ (zAa (And.left (by assumption)) (by assumption) (Below.size (And.left (by assumption)))))
       (first
        | (go_at_call 65;refine (zLG HPX.out _ (HA.out.below (And.left (by assumption))) hv HNX.out).mono ?_;rintro e wd ⟨rfl,hbd⟩)
        | (go_at_call 64;refine (zHt HEX.out _).mono ?_;rintro e we ⟨rfl,rfl⟩))
     | fail
    all_goals
     have hbf:=And.left (show Below wr.heap.size wr _∧_ by assumption);clear g0 g1 g2 g3 g4 g5 g6 g7 g8;have hb2:=zAa HBR.out hbf HBR.out.size;go_wp2_with fail
     go_roundw
     case rel=>exact ⟨i+1,Y3,hi8,by go_num,rfl,hb2,HTT1,y3⟩
     case measure=>simp [intOf];omega
   ·have hin:i=m:=by omega
    obtain ⟨Z1,hZ1⟩:∃U,T++[32,102,114,111,109,32]=U:=⟨_,rfl⟩
    obtain ⟨Z2,hZ2⟩:∃U,Z1++PL=U:=⟨_,rfl⟩
    have j1:¬(i:Int) < (m:Int):=by omega
    have z1:Z1.length≤48+i*120+6:=by rw [←hZ1];simp;omega
    have hlP:=HLP.out;have r1:=zAq hZ1 _ ⟨#[32,102,114,111,109,32]⟩ rfl rfl (by omega) (by simp);have r2:=zAq hZ2 _ _ rfl rfl (by omega) (by omega)
    have HR:=qH (show bA Z2=bA (zBk L ⟨3,f,⟨ff,fl,ffar,fpc⟩,path,over⟩) by
     rw [HLF.out,←hZ2,←hZ1,HTT.out,←HG.out,←HPL.out,hin,←HLEN.out,List.take_length];simp [zCt,zAs])
    clear hin hZ1 hZ2 HTT z1 hlP hTl;have a0:wr.cell? ⟨w.heap.size,0,none⟩=some (.slice A n c):=(kf.cell 0).trans rfl;have a1:wr.cell? ⟨w.heap.size,1,none⟩=some (.int .i64 re):=(kf.cell 1).trans rfl;have a2:wr.cell? ⟨w.heap.size,2,none⟩=some (.int .i64 lo):=(kf.cell 2).trans rfl;have e2:wr.cell? ⟨w.heap.size+1,2,none⟩=some (.int .i64 ff):=(ks.cell 2).trans rfl;have e3:wr.cell? ⟨w.heap.size+1,3,none⟩=some (.int .i64 fl):=(ks.cell 3).trans rfl;have e4:wr.cell? ⟨w.heap.size+1,4,none⟩=some (.bool ffar):=(ks.cell 4).trans rfl;have e5:wr.cell? ⟨w.heap.size+1,5,none⟩=some (.int .i64 fpc):=(ks.cell 5).trans rfl;have e6:wr.cell? ⟨w.heap.size+1,6,none⟩=some (.slice B m d):=(ks.cell 6).trans rfl;go_wp2_with fail
    refine (zLG HPL.out _ HA.out hv HNF.out).mono ?_;rintro e u4 ⟨rfl,hb⟩;clear a0 a1 a2 e2 e3 e4 e5 e6;replace HA:=qH (HA.out.below hb);replace HP:=qH (HP.out.below hb);replace HB:=qH (zAa HB.out hb HB.out.size);replace kf:=kf.below hb kf.lt;replace ks:=ks.below hb ks.lt;clear hb;go_wp2_with fail
    go_ret;exact ⟨zDj HR.out,HB.out⟩
theorem zRY {A:Option Addr} {n c:Nat} {L:List Fg} {re lo:Int} {o:Og} {S:List UInt8} (h:zBk L o=S) (B:Option Addr) (m d:Nat) (w:World) (hA:Fgs w A n L) (hv:TOk L) (hO:OpIn w o B m d) (hr:zAi n o=true) (hm:m≤10000) :
  Calls Tryz.prog 25 #[frV A n c re lo,opV o B m d] w fun e w'=>e=.returned (.string (bA S))∧Below w.heap.size w w':=by
 subst h;exact zNH A n c L re lo o B m d w hA hv hO hr hm
end Go.Proofs.YtlmdfmnbcndhoaaGreatDoor
