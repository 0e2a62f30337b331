/-
  Lemmas, part 46. Conditions: each theorem's own.
-/
import Derived.Test.YtlmdfmnbcndhoaaGreatDoorRl45
namespace Go.Proofs.YtlmdfmnbcndhoaaGreatDoor
open Go.RowKit
theorem zFV {L:List Fg} (hv:TOk L) {s:Sg} (hs:zAm L.length s=true):(zAJ L s).length≤110:=by
 obtain ⟨h1,h2,h3,h4,h5,h6⟩:=zAj.1 hs;have a:=hv.len h1 h2;have b:=zGN s.far;have i:=zAM (x:=s.l) ⟨by omega,by omega⟩;have j:=zAM (x:=s.pc) ⟨by omega,by omega⟩;unfold zAJ;split<;>split<;>simp<;>omega
set_option maxHeartbeats 12800000 in
set_option maxRecDepth 100000 in
theorem zOj (A:Option Addr) (n c:Nat) (L:List Fg) (re lo:Int) (o:Og) (B:Option Addr) (m d:Nat) (w:World) (hA:Fgs w A n L) (hv:TOk L) (hO:OpIn w o B m d) (hr:zAg n o=true) (hm:m≤10000) :
  Calls Tryz.prog 25 #[frV A n c re lo,opV o B m d] w fun e w'=>e=.returned (.string (bA (zBb L o)))∧Below w.heap.size w w':=by
 obtain ⟨h1,h8,eH,bt,hpn,hfrn⟩:=zBc hr;have hlen:=hO.path.len;have gz:=hv.len eH (by rw [hA.len];exact bt);have hP:Stps w B m o.path:=hO.path;have mC:zBb L o=zAs o.kind++[32]++nmF L o.f++zCw L o:=rfl;have hnl:=hA.len;obtain ⟨kind,f,⟨ff,fl,ffar,fpc⟩,path,over⟩:=o;simp only at h1 h8 eH bt hpn hfrn hlen gz hP mC ⊢;obtain ⟨NM,ey⟩:∃T,nmF L f=T:=⟨_,rfl⟩
 obtain ⟨OV,jG⟩:∃T,[32]++zAw over=T:=⟨_,rfl⟩
 have oo:OV.length≤6:=by rw [←jG];cases over<;>decide
 have yd:(if over then (⟨#[32,111,118,101,114]⟩:ByteArray) else ⟨#[32,117,110,100,101,114]⟩)=bA OV:=by rw [←jG];cases over<;>rfl
 rw [ey] at gz mC;have jP:=qH mC;have jz:=qH ey;have bY:=qH jG;have AT:=qH yd;have jA:=qH (show 1≤f∧f≤(n:Int) from ⟨eH,bt⟩);have gD:=qH hpn;have gV:=qH hfrn;have aM:=qH hlen;have eQ:=qH hnl;have HK:=qH (show 1≤kind∧kind≤8 from ⟨h1,h8⟩);have HA:=qH hA;have HP:=qH hP;have HB:=qH (Below.refl w.heap.size w);clear mC ey jG yd eH bt hpn hfrn hlen hnl h1 h8 hA hP hO hr;go_enter Tryz.func25,Tryz.ntmps25;have hba:Below w.heap.size w ((w.alloc (.cells #[.slice A n c,.int .i64 re,.int .i64 lo] 24)).alloc (.cells #[.int .i64 kind,.int .i64 f,.int .i64 ff,.int .i64 fl,.bool ffar,.int .i64 fpc,.slice B m d,.bool over] 32)):=((Below.refl _ _).alloc (Nat.le_refl _) _).alloc (by simp) _;replace HA:=qH (HA.out.below hba);replace HP:=qH (HP.out.below hba);replace HB:=qH (zAa HB.out hba HB.out.size);have kf:=(Blk.new w 24 #[.slice A n c,.int .i64 re,.int .i64 lo]).alloc (.cells #[.int .i64 kind,.int .i64 f,.int .i64 ff,.int .i64 fl,.bool ffar,.int .i64 fpc,.slice B m d,.bool over] 32);have ks:Blk ((w.alloc (.cells #[.slice A n c,.int .i64 re,.int .i64 lo] 24)).alloc (.cells #[.int .i64 kind,.int .i64 f,.int .i64 ff,.int .i64 fl,.bool ffar,.int .i64 fpc,.slice B m d,.bool over] 32)) (w.heap.size+1) 32 #[.int .i64 kind,.int .i64 f,.int .i64 ff,.int .i64 fl,.bool ffar,.int .i64 fpc,.slice B m d,.bool over]:=heap_alloc2_new w _ _;clear hba;go_upto_region 1 with fail
 generalize (w.alloc (.cells #[.slice A n c,.int .i64 re,.int .i64 lo] 24)).alloc (.cells #[.int .i64 kind,.int .i64 f,.int .i64 ff,.int .i64 fl,.bool ffar,.int .i64 fpc,.slice B m d,.bool over] 32)=X at HA HP HB kf ks ⊢;have a0:X.cell? ⟨w.heap.size,0,none⟩=some (.slice A n c):=(kf.cell 0).trans rfl;have a1:X.cell? ⟨w.heap.size,1,none⟩=some (.int .i64 re):=(kf.cell 1).trans rfl;have a2:X.cell? ⟨w.heap.size,2,none⟩=some (.int .i64 lo):=(kf.cell 2).trans rfl;have e1:X.cell? ⟨w.heap.size+1,1,none⟩=some (.int .i64 f):=(ks.cell 1).trans rfl;go_wp2_with fail
 refine (zGF jz.out _ HA.out hv jA.out.1 jA.out.2).mono ?_;rintro e u1 ⟨rfl,hb⟩;clear a0 a1 a2 e1;replace HA:=qH (HA.out.below hb);replace HP:=qH (HP.out.below hb);replace HB:=qH (zAa HB.out hb HB.out.size);replace kf:=kf.below hb kf.lt;replace ks:=ks.below hb ks.lt;clear hb;have e7:u1.cell? ⟨w.heap.size+1,7,none⟩=some (.bool over):=(ks.cell 7).trans rfl;go_wp2_with fail
 refine (zHD AT.out _).mono ?_;rintro e u2 ⟨rfl,rfl⟩;clear e7;clear AT jz;have hk:(kind=1∨kind=2∨kind=8)∨kind=4∨kind=5∨(kind=6∨kind=7)∨kind=3:=by have:=HK.out;omega
 clear HK;rcases hk with hk | rfl | rfl | hk | rfl
 ·rcases hk with rfl | rfl | rfl
  ·obtain ⟨T1,cD⟩:∃T,[114,101,108,101,97,115,101,32]++NM=T:=⟨_,rfl⟩
   have s1:=zAp cD ⟨#[114,101,108,101,97,115,101,32]⟩ _ rfl rfl (by simp) (by omega);have HR:=qH (show bA T1=bA (zBb L ⟨1,f,⟨ff,fl,ffar,fpc⟩,path,over⟩) by rw [jP.out,←cD];simp [zCw,zAs]);clear cD;have e0:u2.cell? ⟨w.heap.size+1,0,none⟩=some (.int .i64 1):=(ks.cell 0).trans rfl;go_wp2_with fail
   go_ret;exact ⟨zDl HR.out,HB.out⟩
  ·obtain ⟨T1,cD⟩:∃T,[110,97,118,97,104,111,32]++NM=T:=⟨_,rfl⟩
   have s1:=zAp cD ⟨#[110,97,118,97,104,111,32]⟩ _ rfl rfl (by simp) (by omega);have HR:=qH (show bA T1=bA (zBb L ⟨2,f,⟨ff,fl,ffar,fpc⟩,path,over⟩) by rw [jP.out,←cD];simp [zCw,zAs]);clear cD;have e0:u2.cell? ⟨w.heap.size+1,0,none⟩=some (.int .i64 2):=(ks.cell 0).trans rfl;go_wp2_with fail
   go_ret;exact ⟨zDl HR.out,HB.out⟩
  ·obtain ⟨T1,cD⟩:∃T,[100,114,111,112,32]++NM=T:=⟨_,rfl⟩
   have s1:=zAp cD ⟨#[100,114,111,112,32]⟩ _ rfl rfl (by simp) (by omega);have HR:=qH (show bA T1=bA (zBb L ⟨8,f,⟨ff,fl,ffar,fpc⟩,path,over⟩) by rw [jP.out,←cD];simp [zCw,zAs]);clear cD;have e0:u2.cell? ⟨w.heap.size+1,0,none⟩=some (.int .i64 8):=(ks.cell 0).trans rfl;go_wp2_with fail
   go_ret;exact ⟨zDl HR.out,HB.out⟩
 ·skip;obtain ⟨Q1,dh⟩:∃T,[116,119,105,115,116,32]++NM=T:=⟨_,rfl⟩
  have tE:Q1.length≤49:=by rw [←dh];simp;omega
  have Bq:=zAp dh ⟨#[116,119,105,115,116,32]⟩ _ rfl rfl (by simp) (by omega);obtain ⟨Q2,de⟩:∃T,Q1++OV=T:=⟨_,rfl⟩
  have tD:Q2.length≤55:=by rw [←de];simp;omega
  have Bp:=zAp de _ _ rfl rfl (by omega) (by omega);have HR:=qH (show bA Q2=bA (zBb L ⟨4,f,⟨ff,fl,ffar,fpc⟩,path,over⟩) by rw [jP.out,←de,←dh,←bY.out];simp [zCw,zAs]);clear dh de tE tD;have e0:u2.cell? ⟨w.heap.size+1,0,none⟩=some (.int .i64 4):=(ks.cell 0).trans rfl;go_wp2_with fail
  go_ret;exact ⟨zDl HR.out,HB.out⟩
 ·have hnf:=gV.out (by omega);have eO:=zFV hv (s:=⟨ff,fl,ffar,fpc⟩) (by rw [eQ.out];exact hnf);obtain ⟨PL,cF⟩:∃T,zAJ L ⟨ff,fl,ffar,fpc⟩=T:=⟨_,rfl⟩
  rw [cF] at eO;obtain ⟨Q1,dh⟩:∃T,[116,97,107,101,32]++NM=T:=⟨_,rfl⟩
  have tE:Q1.length≤48:=by rw [←dh];simp;omega
  have Bq:=zAp dh ⟨#[116,97,107,101,32]⟩ _ rfl rfl (by simp) (by omega);obtain ⟨Q2,de⟩:∃T,Q1++[32,102,114,111,109,32]=T:=⟨_,rfl⟩
  have tD:Q2.length≤54:=by rw [←de];simp;omega
  have Bp:=zAp de _ ⟨#[32,102,114,111,109,32]⟩ rfl rfl (by omega) (by simp);obtain ⟨Q3,cJ⟩:∃T,Q2++PL=T:=⟨_,rfl⟩
  have wT:Q3.length≤164:=by rw [←cJ];simp;omega
  have Ej:=zAp cJ _ _ rfl rfl (by omega) (by omega);obtain ⟨Q4,el⟩:∃T,Q3++OV=T:=⟨_,rfl⟩
  have wS:Q4.length≤170:=by rw [←el];simp;omega
  have Ei:=zAp el _ _ rfl rfl (by omega) (by omega);have HR:=qH (show bA Q4=bA (zBb L ⟨5,f,⟨ff,fl,ffar,fpc⟩,path,over⟩) by rw [jP.out,←el,←cJ,←de,←dh,←bY.out,←cF];simp [zCw,zAs]);have cB:=qH cF;have fj:=qH hnf;clear dh de cJ el tE tD wT wS cF hnf eO;have a0:u2.cell? ⟨w.heap.size,0,none⟩=some (.slice A n c):=(kf.cell 0).trans rfl;have a1:u2.cell? ⟨w.heap.size,1,none⟩=some (.int .i64 re):=(kf.cell 1).trans rfl;have a2:u2.cell? ⟨w.heap.size,2,none⟩=some (.int .i64 lo):=(kf.cell 2).trans rfl;have e0:u2.cell? ⟨w.heap.size+1,0,none⟩=some (.int .i64 5):=(ks.cell 0).trans rfl;have e2:u2.cell? ⟨w.heap.size+1,2,none⟩=some (.int .i64 ff):=(ks.cell 2).trans rfl;have e3:u2.cell? ⟨w.heap.size+1,3,none⟩=some (.int .i64 fl):=(ks.cell 3).trans rfl;have e4:u2.cell? ⟨w.heap.size+1,4,none⟩=some (.bool ffar):=(ks.cell 4).trans rfl;have e5:u2.cell? ⟨w.heap.size+1,5,none⟩=some (.int .i64 fpc):=(ks.cell 5).trans rfl;go_wp2_with fail
  refine (zMc cB.out _ HA.out hv fj.out).mono ?_;rintro e u3 ⟨rfl,hb⟩;clear a0 a1 a2 e0 e2 e3 e4 e5;replace HA:=qH (HA.out.below hb);replace HP:=qH (HP.out.below hb);replace HB:=qH (zAa HB.out hb HB.out.size);replace kf:=kf.below hb kf.lt;replace ks:=ks.below hb ks.lt;clear hb;go_wp2_with fail
  go_ret;exact ⟨zDl HR.out,HB.out⟩
 ·have hnf:=gV.out (by omega);have im:=zAj.1 hnf;simp only at im;have eO:=hv.len (f:=ff) (by omega) (by rw [eQ.out];omega);obtain ⟨PL,cF⟩:∃T,nmF L ff=T:=⟨_,rfl⟩
  rw [cF] at eO;have cB:=qH cF;have fj:=qH (show 1≤ff∧ff≤(n:Int) from ⟨im.1,im.2.1⟩);clear hnf im;rcases hk with rfl | rfl
  ·skip;obtain ⟨Q1,dh⟩:∃T,[116,114,97,110,115,102,101,114,32]++NM=T:=⟨_,rfl⟩
   have tE:Q1.length≤52:=by rw [←dh];simp;omega
   have Bq:=zAp dh ⟨#[116,114,97,110,115,102,101,114,32]⟩ _ rfl rfl (by simp) (by omega);obtain ⟨Q2,de⟩:∃T,Q1++[32,102,114,111,109,32]=T:=⟨_,rfl⟩
   have tD:Q2.length≤58:=by rw [←de];simp;omega
   have Bp:=zAp de _ ⟨#[32,102,114,111,109,32]⟩ rfl rfl (by omega) (by simp);obtain ⟨Q3,cJ⟩:∃T,Q2++PL=T:=⟨_,rfl⟩
   have wT:Q3.length≤101:=by rw [←cJ];simp;omega
   have Ej:=zAp cJ _ _ rfl rfl (by omega) (by omega);obtain ⟨Q4,el⟩:∃T,Q3++OV=T:=⟨_,rfl⟩
   have wS:Q4.length≤107:=by rw [←el];simp;omega
   have Ei:=zAp el _ _ rfl rfl (by omega) (by omega);have HR:=qH (show bA Q4=bA (zBb L ⟨6,f,⟨ff,fl,ffar,fpc⟩,path,over⟩) by rw [jP.out,←el,←cJ,←de,←dh,←bY.out,←cF];simp [zCw,zAs]);clear dh de cJ el tE tD wT wS cF eO;have a0:u2.cell? ⟨w.heap.size,0,none⟩=some (.slice A n c):=(kf.cell 0).trans rfl;have a1:u2.cell? ⟨w.heap.size,1,none⟩=some (.int .i64 re):=(kf.cell 1).trans rfl;have a2:u2.cell? ⟨w.heap.size,2,none⟩=some (.int .i64 lo):=(kf.cell 2).trans rfl;have e0:u2.cell? ⟨w.heap.size+1,0,none⟩=some (.int .i64 6):=(ks.cell 0).trans rfl;have e2:u2.cell? ⟨w.heap.size+1,2,none⟩=some (.int .i64 ff):=(ks.cell 2).trans rfl;go_wp2_with fail
   refine (zGF cB.out _ HA.out hv fj.out.1 fj.out.2).mono ?_;rintro e u3 ⟨rfl,hb⟩;clear a0 a1 a2 e0 e2;replace HA:=qH (HA.out.below hb);replace HP:=qH (HP.out.below hb);replace HB:=qH (zAa HB.out hb HB.out.size);replace kf:=kf.below hb kf.lt;replace ks:=ks.below hb ks.lt;clear hb;go_wp2_with fail
   go_ret;exact ⟨zDl HR.out,HB.out⟩
  ·skip;obtain ⟨Q1,dh⟩:∃T,[101,120,99,104,97,110,103,101,32]++NM=T:=⟨_,rfl⟩
   have tE:Q1.length≤52:=by rw [←dh];simp;omega
   have Bq:=zAp dh ⟨#[101,120,99,104,97,110,103,101,32]⟩ _ rfl rfl (by simp) (by omega);obtain ⟨Q2,de⟩:∃T,Q1++[32,119,105,116,104,32]=T:=⟨_,rfl⟩
   have tD:Q2.length≤58:=by rw [←de];simp;omega
   have Bp:=zAp de _ ⟨#[32,119,105,116,104,32]⟩ rfl rfl (by omega) (by simp);obtain ⟨Q3,cJ⟩:∃T,Q2++PL=T:=⟨_,rfl⟩
   have wT:Q3.length≤101:=by rw [←cJ];simp;omega
   have Ej:=zAp cJ _ _ rfl rfl (by omega) (by omega);obtain ⟨Q4,el⟩:∃T,Q3++OV=T:=⟨_,rfl⟩
   have wS:Q4.length≤107:=by rw [←el];simp;omega
   have Ei:=zAp el _ _ rfl rfl (by omega) (by omega);have HR:=qH (show bA Q4=bA (zBb L ⟨7,f,⟨ff,fl,ffar,fpc⟩,path,over⟩) by rw [jP.out,←el,←cJ,←de,←dh,←bY.out,←cF];simp [zCw,zAs]);clear dh de cJ el tE tD wT wS cF eO;have a0:u2.cell? ⟨w.heap.size,0,none⟩=some (.slice A n c):=(kf.cell 0).trans rfl;have a1:u2.cell? ⟨w.heap.size,1,none⟩=some (.int .i64 re):=(kf.cell 1).trans rfl;have a2:u2.cell? ⟨w.heap.size,2,none⟩=some (.int .i64 lo):=(kf.cell 2).trans rfl;have e0:u2.cell? ⟨w.heap.size+1,0,none⟩=some (.int .i64 7):=(ks.cell 0).trans rfl;have e2:u2.cell? ⟨w.heap.size+1,2,none⟩=some (.int .i64 ff):=(ks.cell 2).trans rfl;go_wp2_with fail
   refine (zGF cB.out _ HA.out hv fj.out.1 fj.out.2).mono ?_;rintro e u3 ⟨rfl,hb⟩;clear a0 a1 a2 e0 e2;replace HA:=qH (HA.out.below hb);replace HP:=qH (HP.out.below hb);replace HB:=qH (zAa HB.out hb HB.out.size);replace kf:=kf.below hb kf.lt;replace ks:=ks.below hb ks.lt;clear hb;go_wp2_with fail
   go_ret;exact ⟨zDl HR.out,HB.out⟩
 ·have hnf:=gV.out (by omega);have eO:=zFV hv (s:=⟨ff,fl,ffar,fpc⟩) (by rw [eQ.out];exact hnf);obtain ⟨PL,cF⟩:∃T,zAJ L ⟨ff,fl,ffar,fpc⟩=T:=⟨_,rfl⟩
  obtain ⟨G1,mD⟩:∃T,[112,105,99,107,32]++NM=T:=⟨_,rfl⟩
  rw [cF] at eO;have mG:G1.length≤48:=by rw [←mD];simp;omega
  have t1:=zAp mD ⟨#[112,105,99,107,32]⟩ _ rfl rfl (by simp) (by omega);have cB:=qH cF;have fj:=qH hnf;have HG:=qH mD;have nx:=qH eO;have hstart:Hid (G1=G1++zDr L (path.take 0)):=qH (by simp [zDr]);clear cF hnf gV mD eO;have e0:u2.cell? ⟨w.heap.size+1,0,none⟩=some (.int .i64 3):=(ks.cell 0).trans rfl;go_wp2_with fail
  clear e0;go_loopw [7,8] (fun v7 v8 wr=>∃(i:Nat) (T:List UInt8),i≤m∧v8=.int .i64 i∧v7=.string (bA T)∧Below u2.heap.size u2 wr∧Hid (T=G1++zDr L (path.take i))∧T.length≤48+i*120) (fun _ v8 _=>m-(intOf v8).toNat)
  case atStart=>exact ⟨0,G1,Nat.zero_le _,rfl,rfl,Below.refl _ _,hstart,by omega⟩
  case round =>
   obtain ⟨i,T,hi,rfl,rfl,hbr,ep,nf⟩:=hrel;have tu:=qH hbr;replace HA:=qH (HA.out.below hbr);replace HP:=qH (HP.out.below hbr);replace HB:=qH (zAa HB.out hbr HB.out.size);replace kf:=kf.below hbr kf.lt;replace ks:=ks.below hbr ks.lt;clear hbr hstart;by_cases hlt:i < m
   ·have j0:(0:Int)≤(i:Int):=by omega
    have j1:(i:Int) < (m:Int):=by omega
    obtain ⟨g,p,rfl,hg,⟨x0,x1,x2,x3,x4⟩,_⟩:=HP.out.at_ hlt;have hil:i < path.length:=by rw [aM.out];exact hlt
    have hsn:=zIa L hil;have hnm:=gD.out _ (List.mem_of_getElem? (zCG hil));generalize pa path i=x at x0 x1 x2 x3 x4 hsn hnm;obtain ⟨⟨xf,xl,xfar,xpc⟩,xo⟩:=x;simp only at x0 x1 x2 x3 x4 hnm;have nF:=zFV hv (s:=⟨xf,xl,xfar,xpc⟩) (by rw [eQ.out];exact hnm);have hst:zLh L ⟨⟨xf,xl,xfar,xpc⟩,xo⟩=([32]++zAw xo++[32])++zAJ L ⟨xf,xl,xfar,xpc⟩++[44]:=rfl;obtain ⟨PX,mz⟩:∃T,zAJ L ⟨xf,xl,xfar,xpc⟩=T:=⟨_,rfl⟩
    obtain ⟨OX,mA⟩:∃T,[32]++zAw xo++[32]=T:=⟨_,rfl⟩
    have ua:OX.length≤7:=by rw [←mA];cases xo<;>decide
    have Fr:(if xo then (⟨#[32,111,118,101,114,32]⟩:ByteArray) else ⟨#[32,117,110,100,101,114,32]⟩)=bA OX:=by rw [←mA];cases xo<;>rfl
    obtain ⟨Y1,ir⟩:∃U,T++OX=U:=⟨_,rfl⟩
    obtain ⟨Y2,qb⟩:∃U,Y1++PX=U:=⟨_,rfl⟩
    obtain ⟨Y3,p9⟩:∃U,Y2++[44]=U:=⟨_,rfl⟩
    rw [mz] at nF;have y1:Y1.length≤48+i*120+7:=by rw [←ir];simp;omega
    have y2:Y2.length≤48+i*120+117:=by rw [←qb];simp;omega
    have y3:Y3.length≤48+(i+1)*120:=by rw [←p9];simp;omega
    have r1:=zAp ir _ _ rfl rfl (by omega) (by omega);have r2:=zAp qb _ _ rfl rfl (by omega) (by omega);have r3:=zAp p9 _ ⟨#[44]⟩ rfl rfl (by omega) (by simp);have kT:=qH (show Y3=G1++zDr L (path.take (i+1)) by rw [hsn,hst,mz,mA,←p9,←qb,←ir,ep.out];simp);have ti:=qH mz;have HEX:=qH Fr;have iB:=qH hnm;have HX:=qH (show g < wr.heap.size∧wr.cell? ⟨g,p+i*5,none⟩=some (.int .i64 xf)∧wr.cell? ⟨g,p+i*5+1,none⟩=some (.int .i64 xl)∧wr.cell? ⟨g,p+i*5+2,none⟩=some (.bool xfar)∧wr.cell? ⟨g,p+i*5+3,none⟩=some (.int .i64 xpc)∧wr.cell? ⟨g,p+i*5+4,none⟩=some (.bool xo) from ⟨hg,x0,x1,x2,x3,x4⟩);have vK:i+1≤m:=hlt;clear hsn hst mz mA ir qb p9 y1 y2 nF ua hil ep hnm Fr x0 x1 x2 x3 x4 hg nf;have c6:wr.cell? ⟨w.heap.size+1,6,none⟩=some (.slice (some ⟨g,p,none⟩) m d):=(ks.cell 6).trans rfl;go_upto_region 22 with fail
    clear c6;have k0:∀wx,Below wr.heap.size wr wx→(Below wr.heap.size wr wx∧wx.cell? ⟨w.heap.size,0,none⟩=some (.slice A n c)∧wx.cell? ⟨w.heap.size,1,none⟩=some (.int .i64 re)∧wx.cell? ⟨w.heap.size,2,none⟩=some (.int .i64 lo)∧wx.cell? ⟨w.heap.size+1,6,none⟩=some (.slice (some ⟨g,p,none⟩) m d)∧wx.cell? ⟨g,p+i*5,none⟩=some (.int .i64 xf)∧wx.cell? ⟨g,p+i*5+1,none⟩=some (.int .i64 xl)∧wx.cell? ⟨g,p+i*5+2,none⟩=some (.bool xfar)∧wx.cell? ⟨g,p+i*5+3,none⟩=some (.int .i64 xpc)∧wx.cell? ⟨g,p+i*5+4,none⟩=some (.bool xo)):=fun wx h=>⟨h,((kf.below h kf.lt).cell 0).trans rfl,((kf.below h kf.lt).cell 1).trans rfl,((kf.below h kf.lt).cell 2).trans rfl,((ks.below h ks.lt).cell 6).trans rfl,(h.cell (p:=⟨g,p+i*5,none⟩) HX.out.1).trans HX.out.2.1,(h.cell (p:=⟨g,p+i*5+1,none⟩) HX.out.1).trans HX.out.2.2.1,(h.cell (p:=⟨g,p+i*5+2,none⟩) HX.out.1).trans HX.out.2.2.2.1,(h.cell (p:=⟨g,p+i*5+3,none⟩) HX.out.1).trans HX.out.2.2.2.2.1,(h.cell (p:=⟨g,p+i*5+4,none⟩) HX.out.1).trans HX.out.2.2.2.2.2⟩
    have KP:=qH k0;clear k0;have g0:=(KP.out wr (Below.refl _ _)).2.1;have g1:=(KP.out wr (Below.refl _ _)).2.2.1;have g2:=(KP.out wr (Below.refl _ _)).2.2.2.1;have g3:=(KP.out wr (Below.refl _ _)).2.2.2.2.1;have g4:=(KP.out wr (Below.refl _ _)).2.2.2.2.2.1;have g5:=(KP.out wr (Below.refl _ _)).2.2.2.2.2.2.1;have g6:=(KP.out wr (Below.refl _ _)).2.2.2.2.2.2.2.1;have g7:=(KP.out wr (Below.refl _ _)).2.2.2.2.2.2.2.2.1;have g8:=(KP.out wr (Below.refl _ _)).2.2.2.2.2.2.2.2.2
    first
     | go_region_held3 (fun wx=>Below wr.heap.size wr wx∧wx.cell? ⟨w.heap.size,0,none⟩=some (.slice A n c)∧wx.cell? ⟨w.heap.size,1,none⟩=some (.int .i64 re)∧wx.cell? ⟨w.heap.size,2,none⟩=some (.int .i64 lo)∧wx.cell? ⟨w.heap.size+1,6,none⟩=some (.slice (some ⟨g,p,none⟩) m d)∧wx.cell? ⟨g,p+i*5,none⟩=some (.int .i64 xf)∧wx.cell? ⟨g,p+i*5+1,none⟩=some (.int .i64 xl)∧wx.cell? ⟨g,p+i*5+2,none⟩=some (.bool xfar)∧wx.cell? ⟨g,p+i*5+3,none⟩=some (.int .i64 xpc)∧wx.cell? ⟨g,p+i*5+4,none⟩=some (.bool xo)) (first | assumption | exact KP.out _ (Below.refl _ _).drew | exact KP.out _ (zAa (And.left (by assumption)) (by assumption) (Below.size (And.left (by assumption)))))
       (first
        | (go_at_call 65;refine (zMc ti.out _ (HA.out.below (And.left (by assumption))) hv iB.out).mono ?_;rintro e wd ⟨rfl,hbd⟩)
        | (go_at_call 64;refine (zHD HEX.out _).mono ?_;rintro e we ⟨rfl,rfl⟩))
     | fail
    all_goals
     have hbf:=And.left (show Below wr.heap.size wr _∧_ by assumption);clear g0 g1 g2 g3 g4 g5 g6 g7 g8;have ai:=zAa tu.out hbf tu.out.size;go_wp2_with fail
     go_roundw
     case rel=>exact ⟨i+1,Y3,vK,by go_num,rfl,ai,kT,y3⟩
     case measure=>simp [intOf];omega
   ·have hin:i=m:=by omega
    obtain ⟨Z1,p6⟩:∃U,T++[32,102,114,111,109,32]=U:=⟨_,rfl⟩
    obtain ⟨Z2,oM⟩:∃U,Z1++PL=U:=⟨_,rfl⟩
    have j1:¬(i:Int) < (m:Int):=by omega
    have z1:Z1.length≤48+i*120+6:=by rw [←p6];simp;omega
    have eO:=nx.out;have r1:=zAp p6 _ ⟨#[32,102,114,111,109,32]⟩ rfl rfl (by omega) (by simp);have r2:=zAp oM _ _ rfl rfl (by omega) (by omega)
    have HR:=qH (show bA Z2=bA (zBb L ⟨3,f,⟨ff,fl,ffar,fpc⟩,path,over⟩) by
     rw [jP.out,←oM,←p6,ep.out,←HG.out,←cB.out,hin,←aM.out,List.take_length];simp [zCw,zAs])
    clear hin p6 oM ep z1 eO nf;have a0:wr.cell? ⟨w.heap.size,0,none⟩=some (.slice A n c):=(kf.cell 0).trans rfl;have a1:wr.cell? ⟨w.heap.size,1,none⟩=some (.int .i64 re):=(kf.cell 1).trans rfl;have a2:wr.cell? ⟨w.heap.size,2,none⟩=some (.int .i64 lo):=(kf.cell 2).trans rfl;have e2:wr.cell? ⟨w.heap.size+1,2,none⟩=some (.int .i64 ff):=(ks.cell 2).trans rfl;have e3:wr.cell? ⟨w.heap.size+1,3,none⟩=some (.int .i64 fl):=(ks.cell 3).trans rfl;have e4:wr.cell? ⟨w.heap.size+1,4,none⟩=some (.bool ffar):=(ks.cell 4).trans rfl;have e5:wr.cell? ⟨w.heap.size+1,5,none⟩=some (.int .i64 fpc):=(ks.cell 5).trans rfl;have e6:wr.cell? ⟨w.heap.size+1,6,none⟩=some (.slice B m d):=(ks.cell 6).trans rfl;go_wp2_with fail
    refine (zMc cB.out _ HA.out hv fj.out).mono ?_;rintro e u4 ⟨rfl,hb⟩;clear a0 a1 a2 e2 e3 e4 e5 e6;replace HA:=qH (HA.out.below hb);replace HP:=qH (HP.out.below hb);replace HB:=qH (zAa HB.out hb HB.out.size);replace kf:=kf.below hb kf.lt;replace ks:=ks.below hb ks.lt;clear hb;go_wp2_with fail
    go_ret;exact ⟨zDl HR.out,HB.out⟩
theorem zNf {A:Option Addr} {n c:Nat} {L:List Fg} {re lo:Int} {o:Og} {S:List UInt8} (h:zBb L o=S) (B:Option Addr) (m d:Nat) (w:World) (hA:Fgs w A n L) (hv:TOk L) (hO:OpIn w o B m d) (hr:zAg n o=true) (hm:m≤10000) :
  Calls Tryz.prog 25 #[frV A n c re lo,opV o B m d] w fun e w'=>e=.returned (.string (bA S))∧Below w.heap.size w w':=by
 subst h;exact zOj A n c L re lo o B m d w hA hv hO hr hm
end Go.Proofs.YtlmdfmnbcndhoaaGreatDoor
