/-
  Lemmas. Conditions: each one's own.
-/
import Derived.Test.YtlmdfmnbcndhoaaGreatDoorRt09
open Go.RowKit
set_option maxHeartbeats 12800000
set_option maxRecDepth 100000
open Go renaming World->ZY
open Option renaming none->U,some->Z
open Go.Proofs.Tryz renaming prog->ZX
open Go.Value renaming bool->G,int->D,slice->H
open Bool renaming false->E,true->Q
open Go.IntKind renaming i64->J
open Go.RowKit.Below renaming refl->M
open Nat renaming le_refl->O
open Go.RowKit renaming Below->ZZ
namespace Go.Proofs.YtlmdfmnbcndhoaaGreatDoor
theorem zLT (rb:Nat) (F:Fm) (s:RS) (w:ZY) (h:RX w rb F s) (hT:s.T.length<=100000) (hw:zBI (xa s.T 0)≠3/\zBI (xa s.T 0)≠6/\zBI (xa s.T 0)≠7) :
  Calls ZX 98 #[.pointer (Z ⟨rb,0,U⟩)] w (zEJ w rb F (opR F.L s).1 (opR F.L s).2):=by
 obtain ⟨S0,gO⟩:∃S,xa s.T 0=S:=⟨_,rfl⟩
 obtain ⟨s1,e1⟩:∃x,s.next=x:=⟨_,rfl⟩
 obtain ⟨K,eK⟩:∃x,zBI S0=x:=⟨_,rfl⟩
 obtain ⟨s2,e2⟩:∃x,s1.mark (decide (K=0))=x:=⟨_,rfl⟩
 obtain ⟨S1,lj⟩:∃S,xa s2.T 0=S:=⟨_,rfl⟩
 obtain ⟨s3,e3⟩:∃x,s2.next=x:=⟨_,rfl⟩
 obtain ⟨s4,e4⟩:∃x,s3.fing F.L S1=x:=⟨_,rfl⟩
 obtain ⟨f,efi⟩:∃x,zDA F.L S1=x:=⟨_,rfl⟩
 obtain ⟨b,eb⟩:∃b,s1.bad=b:=⟨_,rfl⟩
 have cF:xa s.T.tail 0=S1:=by rw [<-lj,<-e2,<-e1];rfl
 have p8:s4.T.length<=100000:=by
  rw [<-e4,<-e3,<-e2,<-e1];simp only [RS.fing,RS.next,RS.mark,List.length_tail];omega
 have HR:=qH (show opR F.L s=zBP F.L K f s4 by
  have hp:zFn F.L s=s4:=by
   unfold zFn
   rw [gO,cF,e1,eK,e2,e3,e4]
  unfold opR
  rw [hp,gO,cF,eK,efi])
 have hK:0<=K/\K<=8:=by
  by_cases e:K=0
  ·omega
  ·have:=zHt (v:=S0) (by rw [eK];exact e);rw [eK] at this;omega
 have nZ:=qH (fun (k:Nat) (h1:1<=k) (h8:k<=8)=>(show ((bA (zAu (k:Int))).toList==(bA S0).toList)=decide (K=(k:Int)) by
  rw [zAr,zAr,<-eK];exact zFW h1 h8 S0))
 have H1:=qH (fun wx (hx:RX wx rb F s)=>zCE hx);have H2:=qH (fun wx (hx:RX wx rb F s2)=>zCE hx);have H3:=qH (fun wx (hx:RX wx rb F s3)=>zCF hx S1)
 have HM:=qH (fun wx (hx:RX wx rb F s1)=>(show wx.cell? ⟨rb,4,U⟩=Z (G b)/\wx.frozen? ⟨rb,4,U⟩=E/\∀q,q=(b||decide (K=0))->RX (wx.setCell ⟨rb,4,U⟩ (G q)) rb F s2/\wx.grownBy (wx.setCell ⟨rb,4,U⟩ (G q)) (Z rb) from
  ⟨by rw [<-eb];exact hx.bad4.1,hx.bad4.2,fun q hq=>by rw [<-e2];exact hx.marked (decide (K=0)) q (by rw [eb];exact hq)⟩))
 simp only [gO,e1] at H1;simp only [lj,e3] at H2;simp only [efi,e4] at H3;rw [HR.out];have HW:Hid (K≠3/\K≠6/\K≠7):=qH (by rw [<-eK,<-gO];exact hw);have hlt:=h.lt;have bst:=zKK
 have d9:=qH (fun (o:Og) (st:RS) (he:zBP F.L K f s4=(o,st)) (wx:ZY) (B:Option Addr) (m d:Nat) (hrow:Row wx w.heap.size 5 B m d (o.path.flatMap zCl)) (hm:m=o.path.length) (hx:RX wx rb F st) (hg:w.grownBy wx (Z rb)) =>
  (show zEJ w rb F (zBP F.L K f s4).1 (zBP F.L K f s4).2 (.returned (opV o B m d)) wx from by rw [he];exact ⟨B,m,d,rfl,hrow,hm,hx,hg⟩))
 clear gO e1 e2 lj e3 e4 efi eb eK cF HR hT hw;have b1:ZZ w.heap.size w ((w.alloc (.cells #[D J 0,D J 0,D J 0,D J 0,G E,D J 0,H U 0 0,G E] 32)).alloc (.cells #[D J 0,D J 0,D J 0,D J 0,G E,D J 0,H U 0 0,G E] 32)):=((M _ _).alloc (O _) _).alloc (by simp) _;have dJ:Blk ((w.alloc (.cells #[D J 0,D J 0,D J 0,D J 0,G E,D J 0,H U 0 0,G E] 32)).alloc (.cells #[D J 0,D J 0,D J 0,D J 0,G E,D J 0,H U 0 0,G E] 32)) w.heap.size 32 #[D J 0,D J 0,D J 0,D J 0,G E,D J 0,H U 0 0,G E]:=(Blk.new w _ _).alloc _;have cT:Blk ((w.alloc (.cells #[D J 0,D J 0,D J 0,D J 0,G E,D J 0,H U 0 0,G E] 32)).alloc (.cells #[D J 0,D J 0,D J 0,D J 0,G E,D J 0,H U 0 0,G E] 32)) (w.heap.size+1) 32 #[D J 0,D J 0,D J 0,D J 0,G E,D J 0,H U 0 0,G E]:=by have:=Blk.new (w.alloc (.cells #[D J 0,D J 0,D J 0,D J 0,G E,D J 0,H U 0 0,G E] 32)) 32 #[D J 0,D J 0,D J 0,D J 0,G E,D J 0,H U 0 0,G E];rwa [World.size_alloc] at this
 have h1:=h.below b1;have g1:w.grownBy ((w.alloc (.cells #[D J 0,D J 0,D J 0,D J 0,G E,D J 0,H U 0 0,G E] 32)).alloc (.cells #[D J 0,D J 0,D J 0,D J 0,G E,D J 0,H U 0 0,G E] 32)) (Z rb):=zAA b1;have ax:rb < w.heap.size:=hlt;have ao:rb < w.heap.size+1:=by omega
 have fe:w.heap.size<=w.heap.size:=O _;have bw:w.heap.size<=w.heap.size+1:=by omega
 clear h b1;obtain ⟨a1,cY⟩:∃a,a=w.heap.size+1:=⟨_,rfl⟩
 have ig:=qH cY;have jw:w.heap.size < a1:=by omega
 go_enter Tryz.func98,Tryz.ntmps98;go_wp2_with fail
 generalize ((w.alloc (.cells #[D J 0,D J 0,D J 0,D J 0,G E,D J 0,H U 0 0,G E] 32)).alloc (.cells #[D J 0,D J 0,D J 0,D J 0,G E,D J 0,H U 0 0,G E] 32))=X1 at dJ cT h1 g1 ⊢;rw [<-cY] at cT ao bw ⊢;clear cY;refine (H1.out X1 h1).mono ?_;rintro e zq ⟨rfl,pt,jo⟩;have dV:=dJ.grownO jo ax;have dU:=cT.grownO jo ao;have px:=zAb g1 jo;clear h1 g1 dJ cT jo H1;go_wp2_with fail
 go_loopw [5] (fun v wv=>∃(k:Nat) (X:ZY),X=wv/\1<=k/\k<=9/\v=D J k/\Hid (RX X rb F s1/\Blk X w.heap.size 32 #[D J 0,D J 0,D J 0,D J 0,G E,D J 0,H U 0 0,G E]/\Blk X a1 32 #[D J (kTo K k),D J 0,D J 0,D J 0,G E,D J 0,H U 0 0,G E]/\w.grownBy X (Z rb))) (fun v _=>9-(intOf v).toNat)
 case atStart=>exact ⟨1,_,rfl,by omega,by omega,rfl,qH (by rw [show kTo K 1=0 from by unfold kTo;split<;>omega];exact ⟨pt,dV,dU,px⟩)⟩
 case round =>
  clear pt px dV dU;obtain ⟨k,X,hX,aq,EX,rfl,HX⟩:=hrel;subst hX;by_cases hk:k<=8
  ·have i1:(k:Int)<=8:=by omega
   have n0:=nZ.out k aq hk;by_cases hq:K=(k:Int)
   ·obtain ⟨tF,dT,ck,tP⟩:=HX.out;rw [decide_eq_true hq] at n0;have Eu:=ck.frozen 0;have Gp:X.cell? ⟨a1,0,U⟩=Z (D J (kTo K k)):=(ck.cell 0).trans rfl;have dR:Blk (X.setCell ⟨a1,0,U⟩ (D J (k:Int))) a1 32 #[D J (k:Int),D J 0,D J 0,D J 0,G E,D J 0,H U 0 0,G E]:=ck.set_ 0 _;have rS:ZZ (rb+1) X (X.setCell ⟨a1,0,U⟩ (D J (k:Int))):=(M _ _).setCell (p:=⟨a1,0,U⟩) ao _;have sH:ZZ w.heap.size X (X.setCell ⟨a1,0,U⟩ (D J (k:Int))):=(M _ _).setCell (p:=⟨a1,0,U⟩) bw _;have dS:=dT.far (p:=⟨a1,0,U⟩) (by simp only;omega) (D J (k:Int));have tE:=tF.over rS;have tO:=zAd tP sH;clear tF tP dT ck rS sH;have HF:=qH (show kTo K (k+1)=(k:Int) by unfold kTo;rw [qP (by omega)];exact hq);have HZ:=qH (show RX (X.setCell ⟨a1,0,U⟩ (D J (k:Int))) rb F s1/\Blk (X.setCell ⟨a1,0,U⟩ (D J (k:Int))) w.heap.size 32 #[D J 0,D J 0,D J 0,D J 0,G E,D J 0,H U 0 0,G E]/\Blk (X.setCell ⟨a1,0,U⟩ (D J (k:Int))) a1 32 #[D J (k:Int),D J 0,D J 0,D J 0,G E,D J 0,H U 0 0,G E]/\w.grownBy (X.setCell ⟨a1,0,U⟩ (D J (k:Int))) (Z rb) from ⟨tE,dS,dR,tO⟩);clear HX hq tE tO dS dR;go_wp2_with (first | (go_at_call 106;refine (zBV (k:Int) (by omega) (by omega) _).mono ?_;rintro e wq ⟨rfl,rfl⟩))
    go_roundw
    case rel=>exact ⟨k+1,_,rfl,by omega,by omega,by go_num,qH (by rw [HF.out];exact HZ.out)⟩
    case measure=>simp [intOf];omega
   ·rw [decide_eq_false hq] at n0;have HF:=qH (show kTo K (k+1)=kTo K k by unfold kTo;split<;>split<;>omega);clear hq;go_wp2_with (first | (go_at_call 106;refine (zBV (k:Int) (by omega) (by omega) _).mono ?_;rintro e wq ⟨rfl,rfl⟩))
    go_roundw
    case rel=>exact ⟨k+1,_,rfl,by omega,by omega,by go_num,qH (by rw [HF.out];exact HX.out)⟩
    case measure=>simp [intOf];omega
  ·have i1:¬(k:Int)<=8:=by omega
   obtain ⟨tD,dQ,ci,tM⟩:=HX.out;rw [show kTo K k=K from by unfold kTo;rw [qP (by omega)]] at ci;obtain ⟨c4,z4,hm⟩:=HM.out X tD;have HZ:=qH (fun (q:Bool) hq=>(show RX (X.setCell ⟨rb,4,U⟩ (G q)) rb F s2/\Blk (X.setCell ⟨rb,4,U⟩ (G q)) w.heap.size 32 #[D J 0,D J 0,D J 0,D J 0,G E,D J 0,H U 0 0,G E]/\Blk (X.setCell ⟨rb,4,U⟩ (G q)) a1 32 #[D J K,D J 0,D J 0,D J 0,G E,D J 0,H U 0 0,G E]/\w.grownBy (X.setCell ⟨rb,4,U⟩ (G q)) (Z rb) from ⟨(hm q hq).1,dQ.grownO (hm q hq).2 ax,ci.grownO (hm q hq).2 ao,zAb tM (hm q hq).2⟩));have f0:X.cell? ⟨a1,0,U⟩=Z (D J K):=(ci.cell 0).trans rfl;clear hm HM HX nZ tD tM dQ ci;obtain ⟨q0,o3⟩:∃q,decide (K=0)=q:=⟨_,rfl⟩
   have i2:(K==0)=q0:=by rw [<-o3];by_cases e:K=0<;>simp [e]
   rw [o3] at HZ;clear o3;go_upto_region 8 with fail
   go_cut [29] (fun _ wv=>∃X:ZY,X=wv/\RX X rb F s2/\Blk X w.heap.size 32 #[D J 0,D J 0,D J 0,D J 0,G E,D J 0,H U 0 0,G E]/\Blk X a1 32 #[D J K,D J 0,D J 0,D J 0,G E,D J 0,H U 0 0,G E]/\w.grownBy X (Z rb))
   case first =>
    cases b<;>cases q0
    all_goals
     go_wp2_with fail
     go_meet
     case rel=>exact ⟨_,rfl,HZ.out _ rfl⟩
   case rest =>
    clear c4 z4 HZ f0 i2;obtain ⟨X,hX,tC,dP,dO,tL⟩:=hcut;subst hX;go_wp2_with fail
    refine (H2.out X tC).mono ?_;rintro e zo ⟨rfl,tB,jn⟩;have dM:=dP.grownO jn ax;have dL:=dO.grownO jn ao;have tK:=zAb tL jn;clear tC tL dP dO jn H2;go_wp2_with fail
    refine (H3.out zo tB).mono ?_;rintro e gJ ⟨rfl,tA,jm⟩;have dK:=dM.grownO jm ax;have cg:=dL.grownO jm ao;have g17:=zAb tK jm;clear tB tK dM dL jm H3;have xv:=cg.frozen 1;have zi:gJ.cell? ⟨a1,1,U⟩=Z (D J 0):=(cg.cell 1).trans rfl;have cK:Blk (gJ.setCell ⟨a1,1,U⟩ (D J (f:Int))) a1 32 #[D J K,D J (f:Int),D J 0,D J 0,G E,D J 0,H U 0 0,G E]:=cg.set_ 1 _;have rR:ZZ (rb+1) gJ (gJ.setCell ⟨a1,1,U⟩ (D J (f:Int))):=(M _ _).setCell (p:=⟨a1,1,U⟩) ao _;have sG:ZZ w.heap.size gJ (gJ.setCell ⟨a1,1,U⟩ (D J (f:Int))):=(M _ _).setCell (p:=⟨a1,1,U⟩) bw _;have cL:=dK.far (p:=⟨a1,1,U⟩) (by simp only;omega) (D J (f:Int));have pr:=tA.over rR;have g18:=zAd g17 sG;clear tA g17 dK cg rR sG;go_upto_region 10 with fail
    clear xv zi;generalize gJ.setCell ⟨a1,1,U⟩ (D J (f:Int))=X9 at pr g18 cL cK ⊢;have HA:=qH (show RX X9 rb F s4/\Blk X9 w.heap.size 32 #[D J 0,D J 0,D J 0,D J 0,G E,D J 0,H U 0 0,G E]/\Blk X9 a1 32 #[D J K,D J (f:Int),D J 0,D J 0,G E,D J 0,H U 0 0,G E]/\w.grownBy X9 (Z rb) from ⟨pr,cL,cK,g18⟩);clear pr g18 cL cK;by_cases n4:K=4
    ·subst n4;obtain ⟨lg,cJ,ce,pw⟩:=HA.out;clear HA;have f0:X9.cell? ⟨a1,0,U⟩=Z (D J 4):=(ce.cell 0).trans rfl;obtain ⟨ov,eov⟩:∃x,ovT (xa s4.T 0)=x:=⟨_,rfl⟩
     obtain ⟨s5,e5⟩:∃x,s4.over=x:=⟨_,rfl⟩
     have bJ:=qH (fun wx (hx:RX wx rb F s4)=>zHy hx);simp only [eov,e5] at bJ;have HE:=qH (show zBP F.L 4 f s4=(⟨4,f,s0,[],ov⟩,s5) by unfold zBP;rw [qP rfl,eov,e5]);clear eov e5;go_wp2_with fail
     clear f0;refine (bJ.out X9 lg).mono ?_;rintro e kd ⟨rfl,nb,iz⟩;have gz:=cJ.grownO iz ax;have eC:=ce.grownO iz ao;have nf:=zAb pw iz;clear lg pw cJ ce iz bJ;have Ag:=eC.frozen 7;have AZ:kd.cell? ⟨a1,7,U⟩=Z (G E):=(eC.cell 7).trans rfl;have cw:Blk (kd.setCell ⟨a1,7,U⟩ (G ov)) a1 32 #[D J 4,D J (f:Int),D J 0,D J 0,G E,D J 0,H U 0 0,G ov]:=eC.set_ 7 _;have lW:ZZ (rb+1) kd (kd.setCell ⟨a1,7,U⟩ (G ov)):=(M _ _).setCell (p:=⟨a1,7,U⟩) ao _;have sB:ZZ w.heap.size kd (kd.setCell ⟨a1,7,U⟩ (G ov)):=(M _ _).setCell (p:=⟨a1,7,U⟩) bw _;have bq:=gz.far (p:=⟨a1,7,U⟩) (by simp only;omega) (G ov);have eQ:=nb.over lW;have fu:=zAd nf sB;clear nb nf gz eC lW sB;go_upto_region 33 with fail
     clear Ag AZ;generalize kd.setCell ⟨a1,7,U⟩ (G ov)=iq at eQ fu bq cw ⊢;obtain ⟨f0,f1,f2,f3,f4,f5,f6,f7⟩:=cQ8 cw;have y0:iq.cell? ⟨w.heap.size,0,U⟩=Z (D J 0):=(bq.cell 0).trans rfl;have ki:=bq.frozen 0;have y1:iq.cell? ⟨w.heap.size,1,U⟩=Z (D J 0):=(bq.cell 1).trans rfl;have kh:=bq.frozen 1;have y2:iq.cell? ⟨w.heap.size,2,U⟩=Z (D J 0):=(bq.cell 2).trans rfl;have lT:=bq.frozen 2;have y3:iq.cell? ⟨w.heap.size,3,U⟩=Z (D J 0):=(bq.cell 3).trans rfl;have lS:=bq.frozen 3;have y4:iq.cell? ⟨w.heap.size,4,U⟩=Z (G E):=(bq.cell 4).trans rfl;have lQ:=bq.frozen 4;have y5:iq.cell? ⟨w.heap.size,5,U⟩=Z (D J 0):=(bq.cell 5).trans rfl;have lO:=bq.frozen 5;have y6:iq.cell? ⟨w.heap.size,6,U⟩=Z (H U 0 0):=(bq.cell 6).trans rfl;have lM:=bq.frozen 6;have y7:iq.cell? ⟨w.heap.size,7,U⟩=Z (G E):=(bq.cell 7).trans rfl;have lK:=bq.frozen 7;have hS:=bq.store8 (D J 4) (D J (f:Int)) (D J 0) (D J 0) (G E) (D J 0) (H U 0 0) (G ov);have bS:=zAc (M (rb+1) iq) (show rb+1<=w.heap.size from ax) (D J 4) (D J (f:Int)) (D J 0) (D J 0) (G E) (D J 0) (H U 0 0) (G ov);have lq:=zAc (M w.heap.size iq) fe (D J 4) (D J (f:Int)) (D J 0) (D J 0) (G E) (D J 0) (H U 0 0) (G ov);have hX:=eQ.over bS;have gX:=zAd fu lq;go_wp2_with fail
     exact zAi rfl rfl hS Tryz.underlying32 rfl (by kernel_rfl) rfl (d9.out ⟨4,f,s0,[],ov⟩ s5 HE.out _ U 0 0 (Row.none_ _ _ _) rfl hX gX)
    by_cases n5:K=5
    ·subst n5;obtain ⟨ld,dH,dh,pu⟩:=HA.out;clear HA;have f0:X9.cell? ⟨a1,0,U⟩=Z (D J 5):=(dh.cell 0).trans rfl;obtain ⟨s5,e5⟩:∃x,s4.must zAz=x:=⟨_,rfl⟩
     obtain ⟨⟨xf,xl,xfar,xpc⟩,ex⟩:∃x,(zAQ F.L s5).1=x:=⟨_,rfl⟩
     obtain ⟨s6,e6⟩:∃x,(zAQ F.L s5).2=x:=⟨_,rfl⟩
     obtain ⟨ov,eov⟩:∃x,ovT (xa s6.T 0)=x:=⟨_,rfl⟩
     obtain ⟨s7,e7⟩:∃x,s6.over=x:=⟨_,rfl⟩
     have cc:=qH (fun wx (hx:RX wx rb F s5)=>zDQ rb F s5 wx hx);simp only [ex,e6] at cc;have bJ:=qH (fun wx (hx:RX wx rb F s6)=>zHy hx);simp only [eov,e7] at bJ;have HE:=qH (show zBP F.L 5 f s4=(⟨5,f,⟨xf,xl,xfar,xpc⟩,[],ov⟩,s7) by unfold zBP;rw [qN (by omega),qN (by omega),qP rfl,e5,ex,e6,eov,e7]);have E5:=qH e5;clear eov e5 ex e6 e7;go_upto_region 22 with fail
     go_cut [91] (fun _ wv=>∃X:ZY,X=wv/\RX X rb F s5/\Blk X w.heap.size 32 #[D J 0,D J 0,D J 0,D J 0,G E,D J 0,H U 0 0,G E]/\Blk X a1 32 #[D J 5,D J (f:Int),D J 0,D J 0,G E,D J 0,H U 0 0,G E]/\w.grownBy X (Z rb))
     case first =>
      cases hb:s4.bad with
      | true =>
       have c4:X9.cell? ⟨rb,4,U⟩=Z (G Q):=by rw [<-hb];exact ld.bad4.1
       have z4:=ld.bad4.2;have hm:=ld.marked E Q (by rw [hb];rfl);have HZ:=qH (show RX (X9.setCell ⟨rb,4,U⟩ (G Q)) rb F s5/\Blk (X9.setCell ⟨rb,4,U⟩ (G Q)) w.heap.size 32 #[D J 0,D J 0,D J 0,D J 0,G E,D J 0,H U 0 0,G E]/\Blk (X9.setCell ⟨rb,4,U⟩ (G Q)) a1 32 #[D J 5,D J (f:Int),D J 0,D J 0,G E,D J 0,H U 0 0,G E]/\w.grownBy (X9.setCell ⟨rb,4,U⟩ (G Q)) (Z rb) from ⟨by rw [<-E5.out,zFr zAz hb];exact hm.1,dH.grownO hm.2 ax,dh.grownO hm.2 ao,zAb pu hm.2⟩);clear hm hb ld pu dH dh;go_wp2_with fail
       go_meet
       case rel=>exact ⟨_,rfl,HZ.out⟩
      | false =>
       obtain ⟨ib,eib⟩:∃b,isB s4.T zAz=b:=⟨_,rfl⟩
       have c4:X9.cell? ⟨rb,4,U⟩=Z (G E):=by rw [<-hb];exact ld.bad4.1
       have z4:=ld.bad4.2;have HI:=qH (zNU ld zAz);rw [eib] at HI;have HE:=qH (show (s4.is zAz).mark (!ib)=s5 by rw [<-E5.out,zEl zAz hb,eib]);have HB:=qH hb;clear eib hb;go_wp2_with fail
       refine HI.out.mono ?_;rintro e Y ⟨rfl,hy,qy⟩;have mM:=dH.grownO qy ax;have mL:=dh.grownO qy ao;have yX:=zAb pu qy;have c5:Y.cell? ⟨rb,4,U⟩=Z (G E):=by rw [<-HB.out];exact hy.bad4.1
       have z5:=hy.bad4.2;have hm:=fun q (hq:q = !ib)=>hy.marked (!ib) q (by rw [show (s4.is zAz).bad=E from HB.out];exact hq)
       have HZ:=qH (fun (q:Bool) (hq:q = !ib)=>(show RX (Y.setCell ⟨rb,4,U⟩ (G q)) rb F s5/\Blk (Y.setCell ⟨rb,4,U⟩ (G q)) w.heap.size 32 #[D J 0,D J 0,D J 0,D J 0,G E,D J 0,H U 0 0,G E]/\Blk (Y.setCell ⟨rb,4,U⟩ (G q)) a1 32 #[D J 5,D J (f:Int),D J 0,D J 0,G E,D J 0,H U 0 0,G E]/\w.grownBy (Y.setCell ⟨rb,4,U⟩ (G q)) (Z rb) from ⟨by rw [<-HE.out];exact (hm q hq).1,mM.grownO (hm q hq).2 ax,mL.grownO (hm q hq).2 ao,zAb yX (hm q hq).2⟩));clear hm qy HI HE HB c4 z4 hy yX mM mL ld pu dH dh
       cases ib
       all_goals
        go_wp2_with fail
        go_meet
        case rel=>exact ⟨_,rfl,HZ.out _ rfl⟩
     case rest =>
      clear ld pu dH dh;obtain ⟨p9,hX,io,gt,ez,je⟩:=hcut;subst hX;clear f0 E5;go_wp2_with fail
      refine (cc.out p9 io).mono ?_;rintro e cB ⟨rfl,kb,jk⟩;have aF:=gt.grownO jk ax;have bp:=ez.grownO jk ao;have kc:=zAb je jk;clear io je gt ez jk cc;have lJ:=bp.frozen 2;have nj:cB.cell? ⟨a1,2,U⟩=Z (D J 0):=(bp.cell 2).trans rfl;have lI:=bp.frozen 3;have ni:cB.cell? ⟨a1,3,U⟩=Z (D J 0):=(bp.cell 3).trans rfl;have lH:=bp.frozen 4;have nh:cB.cell? ⟨a1,4,U⟩=Z (G E):=(bp.cell 4).trans rfl;have lG:=bp.frozen 5;have ng:cB.cell? ⟨a1,5,U⟩=Z (D J 0):=(bp.cell 5).trans rfl;have jA:Blk (cB.setCell ⟨a1,2,U⟩ (D J xf)) a1 32 #[D J 5,D J (f:Int),D J xf,D J 0,G E,D J 0,H U 0 0,G E]:=bp.set_ 2 _;have fF:ZZ (rb+1) cB (cB.setCell ⟨a1,2,U⟩ (D J xf)):=(M _ _).setCell (p:=⟨a1,2,U⟩) ao _;have fJ:ZZ w.heap.size cB (cB.setCell ⟨a1,2,U⟩ (D J xf)):=(M _ _).setCell (p:=⟨a1,2,U⟩) bw _;have dA:=aF.far (p:=⟨a1,2,U⟩) (by simp only;omega) (D J xf);have jz:Blk ((cB.setCell ⟨a1,2,U⟩ (D J xf)).setCell ⟨a1,3,U⟩ (D J xl)) a1 32 #[D J 5,D J (f:Int),D J xf,D J xl,G E,D J 0,H U 0 0,G E]:=jA.set_ 3 _;have fE:ZZ (rb+1) cB ((cB.setCell ⟨a1,2,U⟩ (D J xf)).setCell ⟨a1,3,U⟩ (D J xl)):=fF.setCell (p:=⟨a1,3,U⟩) ao _;have fI:ZZ w.heap.size cB ((cB.setCell ⟨a1,2,U⟩ (D J xf)).setCell ⟨a1,3,U⟩ (D J xl)):=fJ.setCell (p:=⟨a1,3,U⟩) bw _;have dz:=dA.far (p:=⟨a1,3,U⟩) (by simp only;omega) (D J xl);have jy:Blk (((cB.setCell ⟨a1,2,U⟩ (D J xf)).setCell ⟨a1,3,U⟩ (D J xl)).setCell ⟨a1,4,U⟩ (G xfar)) a1 32 #[D J 5,D J (f:Int),D J xf,D J xl,G xfar,D J 0,H U 0 0,G E]:=jz.set_ 4 _;have fD:ZZ (rb+1) cB (((cB.setCell ⟨a1,2,U⟩ (D J xf)).setCell ⟨a1,3,U⟩ (D J xl)).setCell ⟨a1,4,U⟩ (G xfar)):=fE.setCell (p:=⟨a1,4,U⟩) ao _;have fH:ZZ w.heap.size cB (((cB.setCell ⟨a1,2,U⟩ (D J xf)).setCell ⟨a1,3,U⟩ (D J xl)).setCell ⟨a1,4,U⟩ (G xfar)):=fI.setCell (p:=⟨a1,4,U⟩) bw _;have dy:=dz.far (p:=⟨a1,4,U⟩) (by simp only;omega) (G xfar);have gr:Blk ((((cB.setCell ⟨a1,2,U⟩ (D J xf)).setCell ⟨a1,3,U⟩ (D J xl)).setCell ⟨a1,4,U⟩ (G xfar)).setCell ⟨a1,5,U⟩ (D J xpc)) a1 32 #[D J 5,D J (f:Int),D J xf,D J xl,G xfar,D J xpc,H U 0 0,G E]:=jy.set_ 5 _;have fC:ZZ (rb+1) cB ((((cB.setCell ⟨a1,2,U⟩ (D J xf)).setCell ⟨a1,3,U⟩ (D J xl)).setCell ⟨a1,4,U⟩ (G xfar)).setCell ⟨a1,5,U⟩ (D J xpc)):=fD.setCell (p:=⟨a1,5,U⟩) ao _;have fG:ZZ w.heap.size cB ((((cB.setCell ⟨a1,2,U⟩ (D J xf)).setCell ⟨a1,3,U⟩ (D J xl)).setCell ⟨a1,4,U⟩ (G xfar)).setCell ⟨a1,5,U⟩ (D J xpc)):=fH.setCell (p:=⟨a1,5,U⟩) bw _;have cI:=dy.far (p:=⟨a1,5,U⟩) (by simp only;omega) (D J xpc);have nL:=kb.over fC;have nN:=zAd kc fG;clear kb kc aF bp fF fJ jA dA fE fI jz dz fD fH jy dy fC fG;go_wp2_with fail
      clear lJ nj lI ni lH nh lG ng;generalize ((((cB.setCell ⟨a1,2,U⟩ (D J xf)).setCell ⟨a1,3,U⟩ (D J xl)).setCell ⟨a1,4,U⟩ (G xfar)).setCell ⟨a1,5,U⟩ (D J xpc))=X32 at nL nN cI gr ⊢;refine (bJ.out X32 nL).mono ?_;rintro e vF ⟨rfl,h33,ug⟩;have bX:=cI.grownO ug ax;have bG:=gr.grownO ug ao;have li:=zAb nN ug;clear nL nN cI gr ug bJ;have z34:=bG.frozen 7;have d34:vF.cell? ⟨a1,7,U⟩=Z (G E):=(bG.cell 7).trans rfl;have oR:Blk (vF.setCell ⟨a1,7,U⟩ (G ov)) a1 32 #[D J 5,D J (f:Int),D J xf,D J xl,G xfar,D J xpc,H U 0 0,G ov]:=bG.set_ 7 _;have EF:ZZ (rb+1) vF (vF.setCell ⟨a1,7,U⟩ (G ov)):=(M _ _).setCell (p:=⟨a1,7,U⟩) ao _;have EK:ZZ w.heap.size vF (vF.setCell ⟨a1,7,U⟩ (G ov)):=(M _ _).setCell (p:=⟨a1,7,U⟩) bw _;have bF:=bX.far (p:=⟨a1,7,U⟩) (by simp only;omega) (G ov);have FO:=h33.over EF;have FU:=zAd li EK;clear h33 li bX bG EF EK;go_upto_region 33 with fail
      clear z34 d34;generalize vF.setCell ⟨a1,7,U⟩ (G ov)=X35 at FO FU bF oR ⊢;obtain ⟨f0,f1,f2,f3,f4,f5,f6,f7⟩:=cQ8 oR;have y0:X35.cell? ⟨w.heap.size,0,U⟩=Z (D J 0):=(bF.cell 0).trans rfl;have ki:=bF.frozen 0;have y1:X35.cell? ⟨w.heap.size,1,U⟩=Z (D J 0):=(bF.cell 1).trans rfl;have kh:=bF.frozen 1;have y2:X35.cell? ⟨w.heap.size,2,U⟩=Z (D J 0):=(bF.cell 2).trans rfl;have lT:=bF.frozen 2;have y3:X35.cell? ⟨w.heap.size,3,U⟩=Z (D J 0):=(bF.cell 3).trans rfl;have lS:=bF.frozen 3;have y4:X35.cell? ⟨w.heap.size,4,U⟩=Z (G E):=(bF.cell 4).trans rfl;have lQ:=bF.frozen 4;have y5:X35.cell? ⟨w.heap.size,5,U⟩=Z (D J 0):=(bF.cell 5).trans rfl;have lO:=bF.frozen 5;have y6:X35.cell? ⟨w.heap.size,6,U⟩=Z (H U 0 0):=(bF.cell 6).trans rfl;have lM:=bF.frozen 6;have y7:X35.cell? ⟨w.heap.size,7,U⟩=Z (G E):=(bF.cell 7).trans rfl;have lK:=bF.frozen 7;have hS:=bF.store8 (D J 5) (D J (f:Int)) (D J xf) (D J xl) (G xfar) (D J xpc) (H U 0 0) (G ov);have bS:=zAc (M (rb+1) X35) (show rb+1<=w.heap.size from ax) (D J 5) (D J (f:Int)) (D J xf) (D J xl) (G xfar) (D J xpc) (H U 0 0) (G ov);have lq:=zAc (M w.heap.size X35) fe (D J 5) (D J (f:Int)) (D J xf) (D J xl) (G xfar) (D J xpc) (H U 0 0) (G ov);have hX:=FO.over bS;have gX:=zAd FU lq;go_wp2_with fail
      exact zAi rfl rfl hS Tryz.underlying32 rfl (by kernel_rfl) rfl (d9.out ⟨5,f,⟨xf,xl,xfar,xpc⟩,[],ov⟩ s7 HE.out _ U 0 0 (Row.none_ _ _ _) rfl hX gX)
    by_cases n6:K=6
    ·subst n6;exact absurd HW.out (by omega)
    by_cases n7:K=7
    ·subst n7;exact absurd HW.out (by omega)
    by_cases n3:K=3
    ·subst n3;exact absurd HW.out (by omega)
    obtain ⟨h37,br,gq,AU⟩:=HA.out;clear HA;have m3:(K==3)=E:=by simpa using n3
    have m4:(K==4)=E:=by simpa using n4
    have m5:(K==5)=E:=by simpa using n5
    have m6:(K==6)=E:=by simpa using n6
    have m7:(K==7)=E:=by simpa using n7
    have HE:=qH (show zBP F.L K f s4=(⟨K,f,s0,[],E⟩,s4) by unfold zBP;rw [qN n4,qN n3,qN n5,qN n6,qN n7]);clear n3 n4 n5 n6 n7;have f0:X9.cell? ⟨a1,0,U⟩=Z (D J K):=(gq.cell 0).trans rfl;go_upto_region 33 with fail
    clear f0;obtain ⟨f0,f1,f2,f3,f4,f5,f6,f7⟩:=cQ8 gq;have y0:X9.cell? ⟨w.heap.size,0,U⟩=Z (D J 0):=(br.cell 0).trans rfl;have ki:=br.frozen 0;have y1:X9.cell? ⟨w.heap.size,1,U⟩=Z (D J 0):=(br.cell 1).trans rfl;have kh:=br.frozen 1;have y2:X9.cell? ⟨w.heap.size,2,U⟩=Z (D J 0):=(br.cell 2).trans rfl;have lT:=br.frozen 2;have y3:X9.cell? ⟨w.heap.size,3,U⟩=Z (D J 0):=(br.cell 3).trans rfl;have lS:=br.frozen 3;have y4:X9.cell? ⟨w.heap.size,4,U⟩=Z (G E):=(br.cell 4).trans rfl;have lQ:=br.frozen 4;have y5:X9.cell? ⟨w.heap.size,5,U⟩=Z (D J 0):=(br.cell 5).trans rfl;have lO:=br.frozen 5;have y6:X9.cell? ⟨w.heap.size,6,U⟩=Z (H U 0 0):=(br.cell 6).trans rfl;have lM:=br.frozen 6;have y7:X9.cell? ⟨w.heap.size,7,U⟩=Z (G E):=(br.cell 7).trans rfl;have lK:=br.frozen 7;have hS:=br.store8 (D J K) (D J (f:Int)) (D J 0) (D J 0) (G E) (D J 0) (H U 0 0) (G E);have bS:=zAc (M (rb+1) X9) (show rb+1<=w.heap.size from ax) (D J K) (D J (f:Int)) (D J 0) (D J 0) (G E) (D J 0) (H U 0 0) (G E);have lq:=zAc (M w.heap.size X9) fe (D J K) (D J (f:Int)) (D J 0) (D J 0) (G E) (D J 0) (H U 0 0) (G E);have hX:=h37.over bS;have gX:=zAd AU lq;go_wp2_with fail
    exact zAi rfl rfl hS Tryz.underlying32 rfl (by kernel_rfl) rfl (d9.out ⟨K,f,s0,[],E⟩ s4 HE.out _ U 0 0 (Row.none_ _ _ _) rfl hX gX)
theorem zLU (rb:Nat) (F:Fm) (s:RS) (w:ZY) (h:RX w rb F s) (hT:s.T.length<=100000) (hw:zBI (xa s.T 0)=6∨zBI (xa s.T 0)=7) :
  Calls ZX 98 #[.pointer (Z ⟨rb,0,U⟩)] w (zEJ w rb F (opR F.L s).1 (opR F.L s).2):=by
 obtain ⟨S0,gO⟩:∃S,xa s.T 0=S:=⟨_,rfl⟩
 obtain ⟨s1,e1⟩:∃x,s.next=x:=⟨_,rfl⟩
 obtain ⟨K,eK⟩:∃x,zBI S0=x:=⟨_,rfl⟩
 obtain ⟨s2,e2⟩:∃x,s1.mark (decide (K=0))=x:=⟨_,rfl⟩
 obtain ⟨S1,lj⟩:∃S,xa s2.T 0=S:=⟨_,rfl⟩
 obtain ⟨s3,e3⟩:∃x,s2.next=x:=⟨_,rfl⟩
 obtain ⟨s4,e4⟩:∃x,s3.fing F.L S1=x:=⟨_,rfl⟩
 obtain ⟨f,efi⟩:∃x,zDA F.L S1=x:=⟨_,rfl⟩
 obtain ⟨b,eb⟩:∃b,s1.bad=b:=⟨_,rfl⟩
 have cF:xa s.T.tail 0=S1:=by rw [<-lj,<-e2,<-e1];rfl
 have p8:s4.T.length<=100000:=by
  rw [<-e4,<-e3,<-e2,<-e1];simp only [RS.fing,RS.next,RS.mark,List.length_tail];omega
 have HR:=qH (show opR F.L s=zBP F.L K f s4 by
  have hp:zFn F.L s=s4:=by
   unfold zFn
   rw [gO,cF,e1,eK,e2,e3,e4]
  unfold opR
  rw [hp,gO,cF,eK,efi])
 have hK:0<=K/\K<=8:=by
  by_cases e:K=0
  ·omega
  ·have:=zHt (v:=S0) (by rw [eK];exact e);rw [eK] at this;omega
 have nZ:=qH (fun (k:Nat) (h1:1<=k) (h8:k<=8)=>(show ((bA (zAu (k:Int))).toList==(bA S0).toList)=decide (K=(k:Int)) by
  rw [zAr,zAr,<-eK];exact zFW h1 h8 S0))
 have H1:=qH (fun wx (hx:RX wx rb F s)=>zCE hx);have H2:=qH (fun wx (hx:RX wx rb F s2)=>zCE hx);have H3:=qH (fun wx (hx:RX wx rb F s3)=>zCF hx S1)
 have HM:=qH (fun wx (hx:RX wx rb F s1)=>(show wx.cell? ⟨rb,4,U⟩=Z (G b)/\wx.frozen? ⟨rb,4,U⟩=E/\∀q,q=(b||decide (K=0))->RX (wx.setCell ⟨rb,4,U⟩ (G q)) rb F s2/\wx.grownBy (wx.setCell ⟨rb,4,U⟩ (G q)) (Z rb) from
  ⟨by rw [<-eb];exact hx.bad4.1,hx.bad4.2,fun q hq=>by rw [<-e2];exact hx.marked (decide (K=0)) q (by rw [eb];exact hq)⟩))
 simp only [gO,e1] at H1;simp only [lj,e3] at H2;simp only [efi,e4] at H3;rw [HR.out];have HW:Hid (K=6∨K=7):=qH (by rw [<-eK,<-gO];exact hw);have hlt:=h.lt;have bst:=zKK
 have d9:=qH (fun (o:Og) (st:RS) (he:zBP F.L K f s4=(o,st)) (wx:ZY) (B:Option Addr) (m d:Nat) (hrow:Row wx w.heap.size 5 B m d (o.path.flatMap zCl)) (hm:m=o.path.length) (hx:RX wx rb F st) (hg:w.grownBy wx (Z rb)) =>
  (show zEJ w rb F (zBP F.L K f s4).1 (zBP F.L K f s4).2 (.returned (opV o B m d)) wx from by rw [he];exact ⟨B,m,d,rfl,hrow,hm,hx,hg⟩))
 clear gO e1 e2 lj e3 e4 efi eb eK cF HR hT hw;have b1:ZZ w.heap.size w ((w.alloc (.cells #[D J 0,D J 0,D J 0,D J 0,G E,D J 0,H U 0 0,G E] 32)).alloc (.cells #[D J 0,D J 0,D J 0,D J 0,G E,D J 0,H U 0 0,G E] 32)):=((M _ _).alloc (O _) _).alloc (by simp) _;have dJ:Blk ((w.alloc (.cells #[D J 0,D J 0,D J 0,D J 0,G E,D J 0,H U 0 0,G E] 32)).alloc (.cells #[D J 0,D J 0,D J 0,D J 0,G E,D J 0,H U 0 0,G E] 32)) w.heap.size 32 #[D J 0,D J 0,D J 0,D J 0,G E,D J 0,H U 0 0,G E]:=(Blk.new w _ _).alloc _;have cT:Blk ((w.alloc (.cells #[D J 0,D J 0,D J 0,D J 0,G E,D J 0,H U 0 0,G E] 32)).alloc (.cells #[D J 0,D J 0,D J 0,D J 0,G E,D J 0,H U 0 0,G E] 32)) (w.heap.size+1) 32 #[D J 0,D J 0,D J 0,D J 0,G E,D J 0,H U 0 0,G E]:=by have:=Blk.new (w.alloc (.cells #[D J 0,D J 0,D J 0,D J 0,G E,D J 0,H U 0 0,G E] 32)) 32 #[D J 0,D J 0,D J 0,D J 0,G E,D J 0,H U 0 0,G E];rwa [World.size_alloc] at this
 have h1:=h.below b1;have g1:w.grownBy ((w.alloc (.cells #[D J 0,D J 0,D J 0,D J 0,G E,D J 0,H U 0 0,G E] 32)).alloc (.cells #[D J 0,D J 0,D J 0,D J 0,G E,D J 0,H U 0 0,G E] 32)) (Z rb):=zAA b1;have ax:rb < w.heap.size:=hlt;have ao:rb < w.heap.size+1:=by omega
 have fe:w.heap.size<=w.heap.size:=O _;have bw:w.heap.size<=w.heap.size+1:=by omega
 clear h b1;obtain ⟨a1,cY⟩:∃a,a=w.heap.size+1:=⟨_,rfl⟩
 have ig:=qH cY;have jw:w.heap.size < a1:=by omega
 go_enter Tryz.func98,Tryz.ntmps98;go_wp2_with fail
 generalize ((w.alloc (.cells #[D J 0,D J 0,D J 0,D J 0,G E,D J 0,H U 0 0,G E] 32)).alloc (.cells #[D J 0,D J 0,D J 0,D J 0,G E,D J 0,H U 0 0,G E] 32))=X1 at dJ cT h1 g1 ⊢;rw [<-cY] at cT ao bw ⊢;clear cY;refine (H1.out X1 h1).mono ?_;rintro e zq ⟨rfl,pt,jo⟩;have dV:=dJ.grownO jo ax;have dU:=cT.grownO jo ao;have px:=zAb g1 jo;clear h1 g1 dJ cT jo H1;go_wp2_with fail
 go_loopw [5] (fun v wv=>∃(k:Nat) (X:ZY),X=wv/\1<=k/\k<=9/\v=D J k/\Hid (RX X rb F s1/\Blk X w.heap.size 32 #[D J 0,D J 0,D J 0,D J 0,G E,D J 0,H U 0 0,G E]/\Blk X a1 32 #[D J (kTo K k),D J 0,D J 0,D J 0,G E,D J 0,H U 0 0,G E]/\w.grownBy X (Z rb))) (fun v _=>9-(intOf v).toNat)
 case atStart=>exact ⟨1,_,rfl,by omega,by omega,rfl,qH (by rw [show kTo K 1=0 from by unfold kTo;split<;>omega];exact ⟨pt,dV,dU,px⟩)⟩
 case round =>
  clear pt px dV dU;obtain ⟨k,X,hX,aq,EX,rfl,HX⟩:=hrel;subst hX;by_cases hk:k<=8
  ·have i1:(k:Int)<=8:=by omega
   have n0:=nZ.out k aq hk;by_cases hq:K=(k:Int)
   ·obtain ⟨tF,dT,ck,tP⟩:=HX.out;rw [decide_eq_true hq] at n0;have Eu:=ck.frozen 0;have Gp:X.cell? ⟨a1,0,U⟩=Z (D J (kTo K k)):=(ck.cell 0).trans rfl;have dR:Blk (X.setCell ⟨a1,0,U⟩ (D J (k:Int))) a1 32 #[D J (k:Int),D J 0,D J 0,D J 0,G E,D J 0,H U 0 0,G E]:=ck.set_ 0 _;have rS:ZZ (rb+1) X (X.setCell ⟨a1,0,U⟩ (D J (k:Int))):=(M _ _).setCell (p:=⟨a1,0,U⟩) ao _;have sH:ZZ w.heap.size X (X.setCell ⟨a1,0,U⟩ (D J (k:Int))):=(M _ _).setCell (p:=⟨a1,0,U⟩) bw _;have dS:=dT.far (p:=⟨a1,0,U⟩) (by simp only;omega) (D J (k:Int));have tE:=tF.over rS;have tO:=zAd tP sH;clear tF tP dT ck rS sH;have HF:=qH (show kTo K (k+1)=(k:Int) by unfold kTo;rw [qP (by omega)];exact hq);have HZ:=qH (show RX (X.setCell ⟨a1,0,U⟩ (D J (k:Int))) rb F s1/\Blk (X.setCell ⟨a1,0,U⟩ (D J (k:Int))) w.heap.size 32 #[D J 0,D J 0,D J 0,D J 0,G E,D J 0,H U 0 0,G E]/\Blk (X.setCell ⟨a1,0,U⟩ (D J (k:Int))) a1 32 #[D J (k:Int),D J 0,D J 0,D J 0,G E,D J 0,H U 0 0,G E]/\w.grownBy (X.setCell ⟨a1,0,U⟩ (D J (k:Int))) (Z rb) from ⟨tE,dS,dR,tO⟩);clear HX hq tE tO dS dR;go_wp2_with (first | (go_at_call 106;refine (zBV (k:Int) (by omega) (by omega) _).mono ?_;rintro e wq ⟨rfl,rfl⟩))
    go_roundw
    case rel=>exact ⟨k+1,_,rfl,by omega,by omega,by go_num,qH (by rw [HF.out];exact HZ.out)⟩
    case measure=>simp [intOf];omega
   ·rw [decide_eq_false hq] at n0;have HF:=qH (show kTo K (k+1)=kTo K k by unfold kTo;split<;>split<;>omega);clear hq;go_wp2_with (first | (go_at_call 106;refine (zBV (k:Int) (by omega) (by omega) _).mono ?_;rintro e wq ⟨rfl,rfl⟩))
    go_roundw
    case rel=>exact ⟨k+1,_,rfl,by omega,by omega,by go_num,qH (by rw [HF.out];exact HX.out)⟩
    case measure=>simp [intOf];omega
  ·have i1:¬(k:Int)<=8:=by omega
   obtain ⟨tD,dQ,ci,tM⟩:=HX.out;rw [show kTo K k=K from by unfold kTo;rw [qP (by omega)]] at ci;obtain ⟨c4,z4,hm⟩:=HM.out X tD;have HZ:=qH (fun (q:Bool) hq=>(show RX (X.setCell ⟨rb,4,U⟩ (G q)) rb F s2/\Blk (X.setCell ⟨rb,4,U⟩ (G q)) w.heap.size 32 #[D J 0,D J 0,D J 0,D J 0,G E,D J 0,H U 0 0,G E]/\Blk (X.setCell ⟨rb,4,U⟩ (G q)) a1 32 #[D J K,D J 0,D J 0,D J 0,G E,D J 0,H U 0 0,G E]/\w.grownBy (X.setCell ⟨rb,4,U⟩ (G q)) (Z rb) from ⟨(hm q hq).1,dQ.grownO (hm q hq).2 ax,ci.grownO (hm q hq).2 ao,zAb tM (hm q hq).2⟩));have f0:X.cell? ⟨a1,0,U⟩=Z (D J K):=(ci.cell 0).trans rfl;clear hm HM HX nZ tD tM dQ ci;obtain ⟨q0,o3⟩:∃q,decide (K=0)=q:=⟨_,rfl⟩
   have i2:(K==0)=q0:=by rw [<-o3];by_cases e:K=0<;>simp [e]
   rw [o3] at HZ;clear o3;go_upto_region 8 with fail
   go_cut [29] (fun _ wv=>∃X:ZY,X=wv/\RX X rb F s2/\Blk X w.heap.size 32 #[D J 0,D J 0,D J 0,D J 0,G E,D J 0,H U 0 0,G E]/\Blk X a1 32 #[D J K,D J 0,D J 0,D J 0,G E,D J 0,H U 0 0,G E]/\w.grownBy X (Z rb))
   case first =>
    cases b<;>cases q0
    all_goals
     go_wp2_with fail
     go_meet
     case rel=>exact ⟨_,rfl,HZ.out _ rfl⟩
   case rest =>
    clear c4 z4 HZ f0 i2;obtain ⟨X,hX,tC,dP,dO,tL⟩:=hcut;subst hX;go_wp2_with fail
    refine (H2.out X tC).mono ?_;rintro e zo ⟨rfl,tB,jn⟩;have dM:=dP.grownO jn ax;have dL:=dO.grownO jn ao;have tK:=zAb tL jn;clear tC tL dP dO jn H2;go_wp2_with fail
    refine (H3.out zo tB).mono ?_;rintro e gJ ⟨rfl,tA,jm⟩;have dK:=dM.grownO jm ax;have cg:=dL.grownO jm ao;have g17:=zAb tK jm;clear tB tK dM dL jm H3;have xv:=cg.frozen 1;have zi:gJ.cell? ⟨a1,1,U⟩=Z (D J 0):=(cg.cell 1).trans rfl;have cK:Blk (gJ.setCell ⟨a1,1,U⟩ (D J (f:Int))) a1 32 #[D J K,D J (f:Int),D J 0,D J 0,G E,D J 0,H U 0 0,G E]:=cg.set_ 1 _;have rR:ZZ (rb+1) gJ (gJ.setCell ⟨a1,1,U⟩ (D J (f:Int))):=(M _ _).setCell (p:=⟨a1,1,U⟩) ao _;have sG:ZZ w.heap.size gJ (gJ.setCell ⟨a1,1,U⟩ (D J (f:Int))):=(M _ _).setCell (p:=⟨a1,1,U⟩) bw _;have cL:=dK.far (p:=⟨a1,1,U⟩) (by simp only;omega) (D J (f:Int));have pr:=tA.over rR;have g18:=zAd g17 sG;clear tA g17 dK cg rR sG;go_upto_region 10 with fail
    clear xv zi;generalize gJ.setCell ⟨a1,1,U⟩ (D J (f:Int))=X9 at pr g18 cL cK ⊢;have HA:=qH (show RX X9 rb F s4/\Blk X9 w.heap.size 32 #[D J 0,D J 0,D J 0,D J 0,G E,D J 0,H U 0 0,G E]/\Blk X9 a1 32 #[D J K,D J (f:Int),D J 0,D J 0,G E,D J 0,H U 0 0,G E]/\w.grownBy X9 (Z rb) from ⟨pr,cL,cK,g18⟩);clear pr g18 cL cK;by_cases n4:K=4
    ·subst n4;exact absurd HW.out (by omega)
    by_cases n5:K=5
    ·subst n5;exact absurd HW.out (by omega)
    by_cases n6:K=6
    ·subst n6;obtain ⟨lg,cJ,ce,pw⟩:=HA.out;clear HA;have f0:X9.cell? ⟨a1,0,U⟩=Z (D J 6):=(ce.cell 0).trans rfl;obtain ⟨s5,e5⟩:∃x,s4.must zAz=x:=⟨_,rfl⟩
     obtain ⟨S2,vA⟩:∃x,xa s5.T 0=x:=⟨_,rfl⟩
     obtain ⟨s6,e6⟩:∃x,s5.next=x:=⟨_,rfl⟩
     obtain ⟨g,eg⟩:∃x,zDA F.L S2=x:=⟨_,rfl⟩
     obtain ⟨s7,e7⟩:∃x,s6.fing F.L S2=x:=⟨_,rfl⟩
     obtain ⟨ov,eov⟩:∃x,ovT (xa s7.T 0)=x:=⟨_,rfl⟩
     obtain ⟨s8,e8⟩:∃x,s7.over=x:=⟨_,rfl⟩
     have hov:ovT (xa s5.T.tail 0)=ov:=by rw [<-eov,<-e7,<-e6];rfl
     have gQ:=qH (fun wx (hx:RX wx rb F s5)=>zCE hx);simp only [vA,e6] at gQ;have bU:=qH (fun wx (hx:RX wx rb F s6)=>zCF hx S2);simp only [eg,e7] at bU;have bJ:=qH (fun wx (hx:RX wx rb F s7)=>zHy hx);simp only [eov,e8] at bJ;have HE:=qH (show zBP F.L 6 f s4=(⟨6,f,⟨g,0,E,0⟩,[],ov⟩,s8) by unfold zBP;rw [qN (by omega),qN (by omega),qN (by omega),qP rfl,e5,vA,e6,eg,e7,e8,hov]);have E5:=qH e5;clear eov e5 vA eg e6 e7 e8 hov;go_upto_region 30 with fail
     go_cut [116] (fun _ wv=>∃X:ZY,X=wv/\RX X rb F s5/\Blk X w.heap.size 32 #[D J 0,D J 0,D J 0,D J 0,G E,D J 0,H U 0 0,G E]/\Blk X a1 32 #[D J 6,D J (f:Int),D J 0,D J 0,G E,D J 0,H U 0 0,G E]/\w.grownBy X (Z rb))
     case first =>
      cases hb:s4.bad with
      | true =>
       have c4:X9.cell? ⟨rb,4,U⟩=Z (G Q):=by rw [<-hb];exact lg.bad4.1
       have z4:=lg.bad4.2;have hm:=lg.marked E Q (by rw [hb];rfl);have HZ:=qH (show RX (X9.setCell ⟨rb,4,U⟩ (G Q)) rb F s5/\Blk (X9.setCell ⟨rb,4,U⟩ (G Q)) w.heap.size 32 #[D J 0,D J 0,D J 0,D J 0,G E,D J 0,H U 0 0,G E]/\Blk (X9.setCell ⟨rb,4,U⟩ (G Q)) a1 32 #[D J 6,D J (f:Int),D J 0,D J 0,G E,D J 0,H U 0 0,G E]/\w.grownBy (X9.setCell ⟨rb,4,U⟩ (G Q)) (Z rb) from ⟨by rw [<-E5.out,zFr zAz hb];exact hm.1,cJ.grownO hm.2 ax,ce.grownO hm.2 ao,zAb pw hm.2⟩);clear hm hb lg pw cJ ce;go_wp2_with fail
       go_meet
       case rel=>exact ⟨_,rfl,HZ.out⟩
      | false =>
       obtain ⟨ib,eib⟩:∃b,isB s4.T zAz=b:=⟨_,rfl⟩
       have c4:X9.cell? ⟨rb,4,U⟩=Z (G E):=by rw [<-hb];exact lg.bad4.1
       have z4:=lg.bad4.2;have HI:=qH (zNU lg zAz);rw [eib] at HI;have HE:=qH (show (s4.is zAz).mark (!ib)=s5 by rw [<-E5.out,zEl zAz hb,eib]);have HB:=qH hb;clear eib hb;go_wp2_with fail
       refine HI.out.mono ?_;rintro e Y ⟨rfl,hy,qy⟩;have mO:=cJ.grownO qy ax;have mN:=ce.grownO qy ao;have yY:=zAb pw qy;have c5:Y.cell? ⟨rb,4,U⟩=Z (G E):=by rw [<-HB.out];exact hy.bad4.1
       have z5:=hy.bad4.2;have hm:=fun q (hq:q = !ib)=>hy.marked (!ib) q (by rw [show (s4.is zAz).bad=E from HB.out];exact hq)
       have HZ:=qH (fun (q:Bool) (hq:q = !ib)=>(show RX (Y.setCell ⟨rb,4,U⟩ (G q)) rb F s5/\Blk (Y.setCell ⟨rb,4,U⟩ (G q)) w.heap.size 32 #[D J 0,D J 0,D J 0,D J 0,G E,D J 0,H U 0 0,G E]/\Blk (Y.setCell ⟨rb,4,U⟩ (G q)) a1 32 #[D J 6,D J (f:Int),D J 0,D J 0,G E,D J 0,H U 0 0,G E]/\w.grownBy (Y.setCell ⟨rb,4,U⟩ (G q)) (Z rb) from ⟨by rw [<-HE.out];exact (hm q hq).1,mO.grownO (hm q hq).2 ax,mN.grownO (hm q hq).2 ao,zAb yY (hm q hq).2⟩));clear hm qy HI HE HB c4 z4 hy yY mO mN lg pw cJ ce
       cases ib
       all_goals
        go_wp2_with fail
        go_meet
        case rel=>exact ⟨_,rfl,HZ.out _ rfl⟩
     case rest =>
      clear lg pw cJ ce;obtain ⟨iq,hX,fc,oV,oU,fh⟩:=hcut;subst hX;clear f0 E5;go_wp2_with fail
      refine (gQ.out iq fc).mono ?_;rintro e nk ⟨rfl,ld,qe⟩;have dH:=oV.grownO qe ax;have dh:=oU.grownO qe ao;have pu:=zAb fh qe;clear fc fh oV oU qe gQ;go_wp2_with fail
      refine (bU.out nk ld).mono ?_;rintro e jf ⟨rfl,na,gT⟩;have gu:=dH.grownO gT ax;have eB:=dh.grownO gT ao;have nd:=zAb pu gT;clear ld pu dH dh gT bU;have Bl:=eB.frozen 2;have Db:jf.cell? ⟨a1,2,U⟩=Z (D J 0):=(eB.cell 2).trans rfl;have dF:Blk (jf.setCell ⟨a1,2,U⟩ (D J (g:Int))) a1 32 #[D J 6,D J (f:Int),D J (g:Int),D J 0,G E,D J 0,H U 0 0,G E]:=eB.set_ 2 _;have jY:ZZ (rb+1) jf (jf.setCell ⟨a1,2,U⟩ (D J (g:Int))):=(M _ _).setCell (p:=⟨a1,2,U⟩) ao _;have xE:ZZ w.heap.size jf (jf.setCell ⟨a1,2,U⟩ (D J (g:Int))):=(M _ _).setCell (p:=⟨a1,2,U⟩) bw _;have dG:=gu.far (p:=⟨a1,2,U⟩) (by simp only;omega) (D J (g:Int));have iV:=na.over jY;have jS:=zAd nd xE;clear na nd gu eB jY xE;go_wp2_with fail
      clear Bl Db;generalize jf.setCell ⟨a1,2,U⟩ (D J (g:Int))=p9 at iV jS dG dF ⊢;refine (bJ.out p9 iV).mono ?_;rintro e qT ⟨rfl,io,pT⟩;have gt:=dG.grownO pT ax;have ez:=dF.grownO pT ao;have je:=zAb jS pT;clear iV jS dG dF pT bJ;have Ea:=ez.frozen 7;have F5:qT.cell? ⟨a1,7,U⟩=Z (G E):=(ez.cell 7).trans rfl;have bp:Blk (qT.setCell ⟨a1,7,U⟩ (G ov)) a1 32 #[D J 6,D J (f:Int),D J (g:Int),D J 0,G E,D J 0,H U 0 0,G ov]:=ez.set_ 7 _;have jk:ZZ (rb+1) qT (qT.setCell ⟨a1,7,U⟩ (G ov)):=(M _ _).setCell (p:=⟨a1,7,U⟩) ao _;have xC:ZZ w.heap.size qT (qT.setCell ⟨a1,7,U⟩ (G ov)):=(M _ _).setCell (p:=⟨a1,7,U⟩) bw _;have aF:=gt.far (p:=⟨a1,7,U⟩) (by simp only;omega) (G ov);have kb:=io.over jk;have kc:=zAd je xC;clear io je gt ez jk xC;go_upto_region 33 with fail
      clear Ea F5;generalize qT.setCell ⟨a1,7,U⟩ (G ov)=X31 at kb kc aF bp ⊢;obtain ⟨f0,f1,f2,f3,f4,f5,f6,f7⟩:=cQ8 bp;have y0:X31.cell? ⟨w.heap.size,0,U⟩=Z (D J 0):=(aF.cell 0).trans rfl;have ki:=aF.frozen 0;have y1:X31.cell? ⟨w.heap.size,1,U⟩=Z (D J 0):=(aF.cell 1).trans rfl;have kh:=aF.frozen 1;have y2:X31.cell? ⟨w.heap.size,2,U⟩=Z (D J 0):=(aF.cell 2).trans rfl;have lT:=aF.frozen 2;have y3:X31.cell? ⟨w.heap.size,3,U⟩=Z (D J 0):=(aF.cell 3).trans rfl;have lS:=aF.frozen 3;have y4:X31.cell? ⟨w.heap.size,4,U⟩=Z (G E):=(aF.cell 4).trans rfl;have lQ:=aF.frozen 4;have y5:X31.cell? ⟨w.heap.size,5,U⟩=Z (D J 0):=(aF.cell 5).trans rfl;have lO:=aF.frozen 5;have y6:X31.cell? ⟨w.heap.size,6,U⟩=Z (H U 0 0):=(aF.cell 6).trans rfl;have lM:=aF.frozen 6;have y7:X31.cell? ⟨w.heap.size,7,U⟩=Z (G E):=(aF.cell 7).trans rfl;have lK:=aF.frozen 7;have hS:=aF.store8 (D J 6) (D J (f:Int)) (D J (g:Int)) (D J 0) (G E) (D J 0) (H U 0 0) (G ov);have bS:=zAc (M (rb+1) X31) (show rb+1<=w.heap.size from ax) (D J 6) (D J (f:Int)) (D J (g:Int)) (D J 0) (G E) (D J 0) (H U 0 0) (G ov);have lq:=zAc (M w.heap.size X31) fe (D J 6) (D J (f:Int)) (D J (g:Int)) (D J 0) (G E) (D J 0) (H U 0 0) (G ov);have hX:=kb.over bS;have gX:=zAd kc lq;go_wp2_with fail
      exact zAi rfl rfl hS Tryz.underlying32 rfl (by kernel_rfl) rfl (d9.out ⟨6,f,⟨(g:Int),0,E,0⟩,[],ov⟩ s8 HE.out _ U 0 0 (Row.none_ _ _ _) rfl hX gX)
    by_cases n7:K=7
    ·subst n7;obtain ⟨h33,bX,bG,li⟩:=HA.out;clear HA;have f0:X9.cell? ⟨a1,0,U⟩=Z (D J 7):=(bG.cell 0).trans rfl;obtain ⟨s5,e5⟩:∃x,s4.must zDD=x:=⟨_,rfl⟩
     obtain ⟨S2,vA⟩:∃x,xa s5.T 0=x:=⟨_,rfl⟩
     obtain ⟨s6,e6⟩:∃x,s5.next=x:=⟨_,rfl⟩
     obtain ⟨g,eg⟩:∃x,zDA F.L S2=x:=⟨_,rfl⟩
     obtain ⟨s7,e7⟩:∃x,s6.fing F.L S2=x:=⟨_,rfl⟩
     obtain ⟨ov,eov⟩:∃x,ovT (xa s7.T 0)=x:=⟨_,rfl⟩
     obtain ⟨s8,e8⟩:∃x,s7.over=x:=⟨_,rfl⟩
     have hov:ovT (xa s5.T.tail 0)=ov:=by rw [<-eov,<-e7,<-e6];rfl
     have gQ:=qH (fun wx (hx:RX wx rb F s5)=>zCE hx);simp only [vA,e6] at gQ;have bU:=qH (fun wx (hx:RX wx rb F s6)=>zCF hx S2);simp only [eg,e7] at bU;have bJ:=qH (fun wx (hx:RX wx rb F s7)=>zHy hx);simp only [eov,e8] at bJ;have HE:=qH (show zBP F.L 7 f s4=(⟨7,f,⟨g,0,E,0⟩,[],ov⟩,s8) by unfold zBP;rw [qN (by omega),qN (by omega),qN (by omega),qN (by omega),qP rfl,e5,vA,e6,eg,e7,e8,hov]);have E5:=qH e5;clear eov e5 vA eg e6 e7 e8 hov;go_upto_region 30 with fail
     go_cut [116] (fun _ wv=>∃X:ZY,X=wv/\RX X rb F s5/\Blk X w.heap.size 32 #[D J 0,D J 0,D J 0,D J 0,G E,D J 0,H U 0 0,G E]/\Blk X a1 32 #[D J 7,D J (f:Int),D J 0,D J 0,G E,D J 0,H U 0 0,G E]/\w.grownBy X (Z rb))
     case first =>
      cases hb:s4.bad with
      | true =>
       have c4:X9.cell? ⟨rb,4,U⟩=Z (G Q):=by rw [<-hb];exact h33.bad4.1
       have z4:=h33.bad4.2;have hm:=h33.marked E Q (by rw [hb];rfl);have HZ:=qH (show RX (X9.setCell ⟨rb,4,U⟩ (G Q)) rb F s5/\Blk (X9.setCell ⟨rb,4,U⟩ (G Q)) w.heap.size 32 #[D J 0,D J 0,D J 0,D J 0,G E,D J 0,H U 0 0,G E]/\Blk (X9.setCell ⟨rb,4,U⟩ (G Q)) a1 32 #[D J 7,D J (f:Int),D J 0,D J 0,G E,D J 0,H U 0 0,G E]/\w.grownBy (X9.setCell ⟨rb,4,U⟩ (G Q)) (Z rb) from ⟨by rw [<-E5.out,zFr zDD hb];exact hm.1,bX.grownO hm.2 ax,bG.grownO hm.2 ao,zAb li hm.2⟩);clear hm hb h33 li bX bG;go_wp2_with fail
       go_meet
       case rel=>exact ⟨_,rfl,HZ.out⟩
      | false =>
       obtain ⟨ib,eib⟩:∃b,isB s4.T zDD=b:=⟨_,rfl⟩
       have c4:X9.cell? ⟨rb,4,U⟩=Z (G E):=by rw [<-hb];exact h33.bad4.1
       have z4:=h33.bad4.2;have HI:=qH (zNU h33 zDD);rw [eib] at HI;have HE:=qH (show (s4.is zDD).mark (!ib)=s5 by rw [<-E5.out,zEl zDD hb,eib]);have HB:=qH hb;clear eib hb;go_wp2_with fail
       refine HI.out.mono ?_;rintro e Y ⟨rfl,hy,qy⟩;have mK:=bX.grownO qy ax;have mJ:=bG.grownO qy ao;have yW:=zAb li qy;have c5:Y.cell? ⟨rb,4,U⟩=Z (G E):=by rw [<-HB.out];exact hy.bad4.1
       have z5:=hy.bad4.2;have hm:=fun q (hq:q = !ib)=>hy.marked (!ib) q (by rw [show (s4.is zDD).bad=E from HB.out];exact hq)
       have HZ:=qH (fun (q:Bool) (hq:q = !ib)=>(show RX (Y.setCell ⟨rb,4,U⟩ (G q)) rb F s5/\Blk (Y.setCell ⟨rb,4,U⟩ (G q)) w.heap.size 32 #[D J 0,D J 0,D J 0,D J 0,G E,D J 0,H U 0 0,G E]/\Blk (Y.setCell ⟨rb,4,U⟩ (G q)) a1 32 #[D J 7,D J (f:Int),D J 0,D J 0,G E,D J 0,H U 0 0,G E]/\w.grownBy (Y.setCell ⟨rb,4,U⟩ (G q)) (Z rb) from ⟨by rw [<-HE.out];exact (hm q hq).1,mK.grownO (hm q hq).2 ax,mJ.grownO (hm q hq).2 ao,zAb yW (hm q hq).2⟩));clear hm qy HI HE HB c4 z4 hy yW mK mJ h33 li bX bG
       cases ib
       all_goals
        go_wp2_with fail
        go_meet
        case rel=>exact ⟨_,rfl,HZ.out _ rfl⟩
     case rest =>
      clear h33 li bX bG;obtain ⟨X36,hX,h37,br,gq,AU⟩:=hcut;subst hX;clear f0 E5;go_wp2_with fail
      refine (gQ.out X36 h37).mono ?_;rintro e X38 ⟨rfl,tz,Ap⟩;have bl:=br.grownO Ap ax;have fy:=gq.grownO Ap ao;have wM:=zAb AU Ap;clear h37 AU br gq Ap gQ;go_wp2_with fail
      refine (bU.out X38 tz).mono ?_;rintro e vE ⟨rfl,FM,Ao⟩;have oQ:=bl.grownO Ao ax;have iD:=fy.grownO Ao ao;have FT:=zAb wM Ao;clear tz wM bl fy Ao bU;have z40:=iD.frozen 2;have d40:vE.cell? ⟨a1,2,U⟩=Z (D J 0):=(iD.cell 2).trans rfl;have kJ:Blk (vE.setCell ⟨a1,2,U⟩ (D J (g:Int))) a1 32 #[D J 7,D J (f:Int),D J (g:Int),D J 0,G E,D J 0,H U 0 0,G E]:=iD.set_ 2 _;have EE:ZZ (rb+1) vE (vE.setCell ⟨a1,2,U⟩ (D J (g:Int))):=(M _ _).setCell (p:=⟨a1,2,U⟩) ao _;have EJ:ZZ w.heap.size vE (vE.setCell ⟨a1,2,U⟩ (D J (g:Int))):=(M _ _).setCell (p:=⟨a1,2,U⟩) bw _;have kK:=oQ.far (p:=⟨a1,2,U⟩) (by simp only;omega) (D J (g:Int));have CZ:=FM.over EE;have C2:=zAd FT EJ;clear FM FT oQ iD EE EJ;go_wp2_with fail
      clear z40 d40;generalize vE.setCell ⟨a1,2,U⟩ (D J (g:Int))=X41 at CZ C2 kK kJ ⊢;refine (bJ.out X41 CZ).mono ?_;rintro e vD ⟨rfl,h42,An⟩;have oP:=kK.grownO An ax;have iC:=kJ.grownO An ao;have FR:=zAb C2 An;clear CZ C2 kK kJ An bJ;have z43:=iC.frozen 7;have d43:vD.cell? ⟨a1,7,U⟩=Z (G E):=(iC.cell 7).trans rfl;have oO:Blk (vD.setCell ⟨a1,7,U⟩ (G ov)) a1 32 #[D J 7,D J (f:Int),D J (g:Int),D J 0,G E,D J 0,H U 0 0,G ov]:=iC.set_ 7 _;have ED:ZZ (rb+1) vD (vD.setCell ⟨a1,7,U⟩ (G ov)):=(M _ _).setCell (p:=⟨a1,7,U⟩) ao _;have EI:ZZ w.heap.size vD (vD.setCell ⟨a1,7,U⟩ (G ov)):=(M _ _).setCell (p:=⟨a1,7,U⟩) bw _;have bE:=oP.far (p:=⟨a1,7,U⟩) (by simp only;omega) (G ov);have FK:=h42.over ED;have FQ:=zAd FR EI;clear h42 FR oP iC ED EI;go_upto_region 33 with fail
      clear z43 d43;generalize vD.setCell ⟨a1,7,U⟩ (G ov)=X44 at FK FQ bE oO ⊢;obtain ⟨f0,f1,f2,f3,f4,f5,f6,f7⟩:=cQ8 oO;have y0:X44.cell? ⟨w.heap.size,0,U⟩=Z (D J 0):=(bE.cell 0).trans rfl;have ki:=bE.frozen 0;have y1:X44.cell? ⟨w.heap.size,1,U⟩=Z (D J 0):=(bE.cell 1).trans rfl;have kh:=bE.frozen 1;have y2:X44.cell? ⟨w.heap.size,2,U⟩=Z (D J 0):=(bE.cell 2).trans rfl;have lT:=bE.frozen 2;have y3:X44.cell? ⟨w.heap.size,3,U⟩=Z (D J 0):=(bE.cell 3).trans rfl;have lS:=bE.frozen 3;have y4:X44.cell? ⟨w.heap.size,4,U⟩=Z (G E):=(bE.cell 4).trans rfl;have lQ:=bE.frozen 4;have y5:X44.cell? ⟨w.heap.size,5,U⟩=Z (D J 0):=(bE.cell 5).trans rfl;have lO:=bE.frozen 5;have y6:X44.cell? ⟨w.heap.size,6,U⟩=Z (H U 0 0):=(bE.cell 6).trans rfl;have lM:=bE.frozen 6;have y7:X44.cell? ⟨w.heap.size,7,U⟩=Z (G E):=(bE.cell 7).trans rfl;have lK:=bE.frozen 7;have hS:=bE.store8 (D J 7) (D J (f:Int)) (D J (g:Int)) (D J 0) (G E) (D J 0) (H U 0 0) (G ov);have bS:=zAc (M (rb+1) X44) (show rb+1<=w.heap.size from ax) (D J 7) (D J (f:Int)) (D J (g:Int)) (D J 0) (G E) (D J 0) (H U 0 0) (G ov);have lq:=zAc (M w.heap.size X44) fe (D J 7) (D J (f:Int)) (D J (g:Int)) (D J 0) (G E) (D J 0) (H U 0 0) (G ov);have hX:=FK.over bS;have gX:=zAd FQ lq;go_wp2_with fail
      exact zAi rfl rfl hS Tryz.underlying32 rfl (by kernel_rfl) rfl (d9.out ⟨7,f,⟨(g:Int),0,E,0⟩,[],ov⟩ s8 HE.out _ U 0 0 (Row.none_ _ _ _) rfl hX gX)
    by_cases n3:K=3
    ·subst n3;exact absurd HW.out (by omega)
    exact absurd HW.out (by omega)
