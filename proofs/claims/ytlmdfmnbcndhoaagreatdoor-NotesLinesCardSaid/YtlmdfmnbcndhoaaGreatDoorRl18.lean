/-
  Lemmas, part 18. Conditions: each theorem's own.
-/
import Derived.Test.YtlmdfmnbcndhoaaGreatDoorRl17
namespace Go.Proofs.YtlmdfmnbcndhoaaGreatDoor
open Go.RowKit
set_option maxHeartbeats 12800000 in
set_option maxRecDepth 100000 in
theorem zLB (rb:Nat) (F:Fm) (s:RS) (w:World) (h:RX w rb F s) (hT:s.T.length≤100000) (hw:zBy (xa s.T 0)≠3∧zBy (xa s.T 0)≠6∧zBy (xa s.T 0)≠7) :
  Calls Tryz.prog 98 #[.pointer (some ⟨rb,0,none⟩)] w (zEn w rb F (opR F.L s).1 (opR F.L s).2):=by
 obtain ⟨S0,gB⟩:∃S,xa s.T 0=S:=⟨_,rfl⟩
 obtain ⟨s1,e1⟩:∃x,s.next=x:=⟨_,rfl⟩
 obtain ⟨K,eK⟩:∃x,zBy S0=x:=⟨_,rfl⟩
 obtain ⟨s2,e2⟩:∃x,s1.mark (decide (K=0))=x:=⟨_,rfl⟩
 obtain ⟨S1,kI⟩:∃S,xa s2.T 0=S:=⟨_,rfl⟩
 obtain ⟨s3,e3⟩:∃x,s2.next=x:=⟨_,rfl⟩
 obtain ⟨s4,e4⟩:∃x,s3.fing F.L S1=x:=⟨_,rfl⟩
 obtain ⟨f,efi⟩:∃x,zDj F.L S1=x:=⟨_,rfl⟩
 obtain ⟨b,eb⟩:∃b,s1.bad=b:=⟨_,rfl⟩
 have cD:xa s.T.tail 0=S1:=by rw [←kI,←e2,←e1];rfl
 have pC:s4.T.length≤100000:=by
  rw [←e4,←e3,←e2,←e1];simp only [RS.fing,RS.next,RS.mark,List.length_tail];omega
 have HR:=qH (show opR F.L s=zBF F.L K f s4 by
  have hp:zEP F.L s=s4:=by
   unfold zEP
   rw [gB,cD,e1,eK,e2,e3,e4]
  unfold opR
  rw [hp,gB,cD,eK,efi])
 have hK:0≤K∧K≤8:=by
  by_cases e:K=0
  ·omega
  ·have:=zHe (v:=S0) (by rw [eK];exact e);rw [eK] at this;omega
 have ny:=qH (fun (k:Nat) (h1:1≤k) (h8:k≤8)=>(show ((bA (zAs (k:Int))).toList==(bA S0).toList)=decide (K=(k:Int)) by
  rw [zAr,zAr,←eK];exact zFF h1 h8 S0))
 have H1:=qH (fun wx (hx:RX wx rb F s)=>zCp hx);have H2:=qH (fun wx (hx:RX wx rb F s2)=>zCp hx);have H3:=qH (fun wx (hx:RX wx rb F s3)=>zCq hx S1)
 have HM:=qH (fun wx (hx:RX wx rb F s1)=>(show wx.cell? ⟨rb,4,none⟩=some (.bool b)∧wx.frozen? ⟨rb,4,none⟩=false∧∀q,q=(b||decide (K=0))→RX (wx.setCell ⟨rb,4,none⟩ (.bool q)) rb F s2∧wx.grownBy (wx.setCell ⟨rb,4,none⟩ (.bool q)) (some rb) from
  ⟨by rw [←eb];exact hx.bad4.1,hx.bad4.2,fun q hq=>by rw [←e2];exact hx.marked (decide (K=0)) q (by rw [eb];exact hq)⟩))
 simp only [gB,e1] at H1;simp only [kI,e3] at H2;simp only [efi,e4] at H3;rw [HR.out];have HW:Hid (K≠3∧K≠6∧K≠7):=qH (by rw [←eK,←gB];exact hw);have hlt:=h.lt;have bst:=zKm
 have fm:=qH (fun (o:Og) (st:RS) (he:zBF F.L K f s4=(o,st)) (wx:World) (B:Option Addr) (m d:Nat) (hrow:Row wx w.heap.size 5 B m d (o.path.flatMap zCa)) (hm:m=o.path.length) (hx:RX wx rb F st) (hg:w.grownBy wx (some rb)) =>
  (show zEn w rb F (zBF F.L K f s4).1 (zBF F.L K f s4).2 (.returned (opV o B m d)) wx from by rw [he];exact ⟨B,m,d,rfl,hrow,hm,hx,hg⟩))
 clear gB e1 e2 kI e3 e4 efi eb eK cD HR hT hw;have b1:Below w.heap.size w ((w.alloc (.cells #[.int .i64 0,.int .i64 0,.int .i64 0,.int .i64 0,.bool false,.int .i64 0,.slice none 0 0,.bool false] 32)).alloc (.cells #[.int .i64 0,.int .i64 0,.int .i64 0,.int .i64 0,.bool false,.int .i64 0,.slice none 0 0,.bool false] 32)):=((Below.refl _ _).alloc (Nat.le_refl _) _).alloc (by simp) _;have dO:Blk ((w.alloc (.cells #[.int .i64 0,.int .i64 0,.int .i64 0,.int .i64 0,.bool false,.int .i64 0,.slice none 0 0,.bool false] 32)).alloc (.cells #[.int .i64 0,.int .i64 0,.int .i64 0,.int .i64 0,.bool false,.int .i64 0,.slice none 0 0,.bool false] 32)) w.heap.size 32 #[.int .i64 0,.int .i64 0,.int .i64 0,.int .i64 0,.bool false,.int .i64 0,.slice none 0 0,.bool false]:=(Blk.new w _ _).alloc _;have cG:Blk ((w.alloc (.cells #[.int .i64 0,.int .i64 0,.int .i64 0,.int .i64 0,.bool false,.int .i64 0,.slice none 0 0,.bool false] 32)).alloc (.cells #[.int .i64 0,.int .i64 0,.int .i64 0,.int .i64 0,.bool false,.int .i64 0,.slice none 0 0,.bool false] 32)) (w.heap.size+1) 32 #[.int .i64 0,.int .i64 0,.int .i64 0,.int .i64 0,.bool false,.int .i64 0,.slice none 0 0,.bool false]:=by have:=Blk.new (w.alloc (.cells #[.int .i64 0,.int .i64 0,.int .i64 0,.int .i64 0,.bool false,.int .i64 0,.slice none 0 0,.bool false] 32)) 32 #[.int .i64 0,.int .i64 0,.int .i64 0,.int .i64 0,.bool false,.int .i64 0,.slice none 0 0,.bool false];rwa [World.size_alloc] at this
 have h1:=h.below b1;have g1:w.grownBy ((w.alloc (.cells #[.int .i64 0,.int .i64 0,.int .i64 0,.int .i64 0,.bool false,.int .i64 0,.slice none 0 0,.bool false] 32)).alloc (.cells #[.int .i64 0,.int .i64 0,.int .i64 0,.int .i64 0,.bool false,.int .i64 0,.slice none 0 0,.bool false] 32)) (some rb):=zAz b1;have au:rb < w.heap.size:=hlt;have am:rb < w.heap.size+1:=by omega
 have eX:w.heap.size≤w.heap.size:=Nat.le_refl _;have aW:w.heap.size≤w.heap.size+1:=by omega
 clear h b1;obtain ⟨a1,cM⟩:∃a,a=w.heap.size+1:=⟨_,rfl⟩
 have gL:=qH cM;have iY:w.heap.size < a1:=by omega
 go_enter Tryz.func98,Tryz.ntmps98;go_wp2_with fail
 generalize ((w.alloc (.cells #[.int .i64 0,.int .i64 0,.int .i64 0,.int .i64 0,.bool false,.int .i64 0,.slice none 0 0,.bool false] 32)).alloc (.cells #[.int .i64 0,.int .i64 0,.int .i64 0,.int .i64 0,.bool false,.int .i64 0,.slice none 0 0,.bool false] 32))=X1 at dO cG h1 g1 ⊢;rw [←cM] at cG am aW ⊢;clear cM;refine (H1.out X1 h1).mono ?_;rintro e yR ⟨rfl,oW,iR⟩;have dZ:=dO.grownO iR au;have dY:=cG.grownO iR am;have o3:=zAb g1 iR;clear h1 g1 dO cG iR H1;go_wp2_with fail
 go_loopw [5] (fun v wv=>∃(k:Nat) (X:World),X=wv∧1≤k∧k≤9∧v=.int .i64 k∧Hid (RX X rb F s1∧Blk X w.heap.size 32 #[.int .i64 0,.int .i64 0,.int .i64 0,.int .i64 0,.bool false,.int .i64 0,.slice none 0 0,.bool false]∧Blk X a1 32 #[.int .i64 (kTo K k),.int .i64 0,.int .i64 0,.int .i64 0,.bool false,.int .i64 0,.slice none 0 0,.bool false]∧w.grownBy X (some rb))) (fun v _=>9-(intOf v).toNat)
 case atStart=>exact ⟨1,_,rfl,by omega,by omega,rfl,qH (by rw [show kTo K 1=0 from by unfold kTo;split<;>omega];exact ⟨oW,dZ,dY,o3⟩)⟩
 case round =>
  clear oW o3 dZ dY;obtain ⟨k,X,hX,aq,EL,rfl,HX⟩:=hrel;subst hX;by_cases hk:k≤8
  ·have i1:(k:Int)≤8:=by omega
   have n0:=ny.out k aq hk;by_cases hq:K=(k:Int)
   ·obtain ⟨h12,dX,bU,ta⟩:=HX.out;rw [decide_eq_true hq] at n0;have Ed:=bU.frozen 0;have Gi:X.cell? ⟨a1,0,none⟩=some (.int .i64 (kTo K k)):=(bU.cell 0).trans rfl;have dV:Blk (X.setCell ⟨a1,0,none⟩ (.int .i64 (k:Int))) a1 32 #[.int .i64 (k:Int),.int .i64 0,.int .i64 0,.int .i64 0,.bool false,.int .i64 0,.slice none 0 0,.bool false]:=bU.set_ 0 _;have rm:Below (rb+1) X (X.setCell ⟨a1,0,none⟩ (.int .i64 (k:Int))):=(Below.refl _ _).setCell (p:=⟨a1,0,none⟩) am _;have rT:Below w.heap.size X (X.setCell ⟨a1,0,none⟩ (.int .i64 (k:Int))):=(Below.refl _ _).setCell (p:=⟨a1,0,none⟩) aW _;have dW:=dX.far (p:=⟨a1,0,none⟩) (by simp only;omega) (.int .i64 (k:Int));have sU:=h12.over rm;have s9:=zAc ta rT;clear h12 ta dX bU rm rT;have HF:=qH (show kTo K (k+1)=(k:Int) by unfold kTo;rw [if_pos (by omega)];exact hq);have HZ:=qH (show RX (X.setCell ⟨a1,0,none⟩ (.int .i64 (k:Int))) rb F s1∧Blk (X.setCell ⟨a1,0,none⟩ (.int .i64 (k:Int))) w.heap.size 32 #[.int .i64 0,.int .i64 0,.int .i64 0,.int .i64 0,.bool false,.int .i64 0,.slice none 0 0,.bool false]∧Blk (X.setCell ⟨a1,0,none⟩ (.int .i64 (k:Int))) a1 32 #[.int .i64 (k:Int),.int .i64 0,.int .i64 0,.int .i64 0,.bool false,.int .i64 0,.slice none 0 0,.bool false]∧w.grownBy (X.setCell ⟨a1,0,none⟩ (.int .i64 (k:Int))) (some rb) from ⟨sU,dW,dV,s9⟩);clear HX hq sU s9 dW dV;go_wp2_with (first | (go_at_call 106;refine (zBL (k:Int) (by omega) (by omega) _).mono ?_;rintro e wq ⟨rfl,rfl⟩))
    go_roundw
    case rel=>exact ⟨k+1,_,rfl,by omega,by omega,by go_num,qH (by rw [HF.out];exact HZ.out)⟩
    case measure=>simp [intOf];omega
   ·rw [decide_eq_false hq] at n0;have HF:=qH (show kTo K (k+1)=kTo K k by unfold kTo;split<;>split<;>omega);clear hq;go_wp2_with (first | (go_at_call 106;refine (zBL (k:Int) (by omega) (by omega) _).mono ?_;rintro e wq ⟨rfl,rfl⟩))
    go_roundw
    case rel=>exact ⟨k+1,_,rfl,by omega,by omega,by go_num,qH (by rw [HF.out];exact HX.out)⟩
    case measure=>simp [intOf];omega
  ·have i1:¬(k:Int)≤8:=by omega
   obtain ⟨sT,dU,bT,sZ⟩:=HX.out;rw [show kTo K k=K from by unfold kTo;rw [if_pos (by omega)]] at bT;obtain ⟨c4,z4,hm⟩:=HM.out X sT;have HZ:=qH (fun (q:Bool) hq=>(show RX (X.setCell ⟨rb,4,none⟩ (.bool q)) rb F s2∧Blk (X.setCell ⟨rb,4,none⟩ (.bool q)) w.heap.size 32 #[.int .i64 0,.int .i64 0,.int .i64 0,.int .i64 0,.bool false,.int .i64 0,.slice none 0 0,.bool false]∧Blk (X.setCell ⟨rb,4,none⟩ (.bool q)) a1 32 #[.int .i64 K,.int .i64 0,.int .i64 0,.int .i64 0,.bool false,.int .i64 0,.slice none 0 0,.bool false]∧w.grownBy (X.setCell ⟨rb,4,none⟩ (.bool q)) (some rb) from ⟨(hm q hq).1,dU.grownO (hm q hq).2 au,bT.grownO (hm q hq).2 am,zAb sZ (hm q hq).2⟩));have f0:X.cell? ⟨a1,0,none⟩=some (.int .i64 K):=(bT.cell 0).trans rfl;clear hm HM HX ny sT sZ dU bT;obtain ⟨q0,oH⟩:∃q,decide (K=0)=q:=⟨_,rfl⟩
   have i2:(K==0)=q0:=by rw [←oH];by_cases e:K=0<;>simp [e]
   rw [oH] at HZ;clear oH;go_upto_region 8 with fail
   go_cut [29] (fun _ wv=>∃X:World,X=wv∧RX X rb F s2∧Blk X w.heap.size 32 #[.int .i64 0,.int .i64 0,.int .i64 0,.int .i64 0,.bool false,.int .i64 0,.slice none 0 0,.bool false]∧Blk X a1 32 #[.int .i64 K,.int .i64 0,.int .i64 0,.int .i64 0,.bool false,.int .i64 0,.slice none 0 0,.bool false]∧w.grownBy X (some rb))
   case first =>
    cases b<;>cases q0
    all_goals
     go_wp2_with fail
     go_meet
     case rel=>exact ⟨_,rfl,HZ.out _ rfl⟩
   case rest =>
    clear c4 z4 HZ f0 i2;obtain ⟨X,hX,sS,dT,dS,sY⟩:=hcut;subst hX;go_wp2_with fail
    refine (H2.out X sS).mono ?_;rintro e yQ ⟨rfl,sR,iQ⟩;have dR:=dT.grownO iQ au;have dQ:=dS.grownO iQ am;have sX:=zAb sY iQ;clear sS sY dT dS iQ H2;go_wp2_with fail
    refine (H3.out yQ sR).mono ?_;rintro e gv ⟨rfl,sQ,iP⟩;have dP:=dR.grownO iP au;have bQ:=dQ.grownO iP am;have g17:=zAb sX iP;clear sR sX dR dQ iP H3;have wI:=bQ.frozen 1;have yK:gv.cell? ⟨a1,1,none⟩=some (.int .i64 0):=(bQ.cell 1).trans rfl;have cv:Blk (gv.setCell ⟨a1,1,none⟩ (.int .i64 (f:Int))) a1 32 #[.int .i64 K,.int .i64 (f:Int),.int .i64 0,.int .i64 0,.bool false,.int .i64 0,.slice none 0 0,.bool false]:=bQ.set_ 1 _;have rl:Below (rb+1) gv (gv.setCell ⟨a1,1,none⟩ (.int .i64 (f:Int))):=(Below.refl _ _).setCell (p:=⟨a1,1,none⟩) am _;have rS:Below w.heap.size gv (gv.setCell ⟨a1,1,none⟩ (.int .i64 (f:Int))):=(Below.refl _ _).setCell (p:=⟨a1,1,none⟩) aW _;have cw:=dP.far (p:=⟨a1,1,none⟩) (by simp only;omega) (.int .i64 (f:Int));have oV:=sQ.over rl;have g18:=zAc g17 rS;clear sQ g17 dP bQ rl rS;go_upto_region 10 with fail
    clear wI yK;generalize gv.setCell ⟨a1,1,none⟩ (.int .i64 (f:Int))=X9 at oV g18 cw cv ⊢;have HA:=qH (show RX X9 rb F s4∧Blk X9 w.heap.size 32 #[.int .i64 0,.int .i64 0,.int .i64 0,.int .i64 0,.bool false,.int .i64 0,.slice none 0 0,.bool false]∧Blk X9 a1 32 #[.int .i64 K,.int .i64 (f:Int),.int .i64 0,.int .i64 0,.bool false,.int .i64 0,.slice none 0 0,.bool false]∧w.grownBy X9 (some rb) from ⟨oV,cw,cv,g18⟩);clear oV g18 cw cv;by_cases n4:K=4
    ·subst n4;obtain ⟨kF,cu,bO,oZ⟩:=HA.out;clear HA;have f0:X9.cell? ⟨a1,0,none⟩=some (.int .i64 4):=(bO.cell 0).trans rfl;obtain ⟨ov,eov⟩:∃x,ovT (xa s4.T 0)=x:=⟨_,rfl⟩
     obtain ⟨s5,e5⟩:∃x,s4.over=x:=⟨_,rfl⟩
     have bY:=qH (fun wx (hx:RX wx rb F s4)=>zHk hx);simp only [eov,e5] at bY;have HE:=qH (show zBF F.L 4 f s4=(⟨4,f,s0,[],ov⟩,s5) by unfold zBF;rw [if_pos rfl,eov,e5]);clear eov e5;go_wp2_with fail
     clear f0;refine (bY.out X9 kF).mono ?_;rintro e jM ⟨rfl,mF,hG⟩;have f8:=cu.grownO hG au;have eF:=bO.grownO hG am;have mI:=zAb oZ hG;clear kF oZ cu bO hG bY;have zn:=eF.frozen 7;have Az:jM.cell? ⟨a1,7,none⟩=some (.bool false):=(eF.cell 7).trans rfl;have cd:Blk (jM.setCell ⟨a1,7,none⟩ (.bool ov)) a1 32 #[.int .i64 4,.int .i64 (f:Int),.int .i64 0,.int .i64 0,.bool false,.int .i64 0,.slice none 0 0,.bool ov]:=eF.set_ 7 _;have lq:Below (rb+1) jM (jM.setCell ⟨a1,7,none⟩ (.bool ov)):=(Below.refl _ _).setCell (p:=⟨a1,7,none⟩) am _;have rN:Below w.heap.size jM (jM.setCell ⟨a1,7,none⟩ (.bool ov)):=(Below.refl _ _).setCell (p:=⟨a1,7,none⟩) aW _;have aO:=f8.far (p:=⟨a1,7,none⟩) (by simp only;omega) (.bool ov);have eP:=mF.over lq;have fh:=zAc mI rN;clear mF mI f8 eF lq rN;go_upto_region 33 with fail
     clear zn Az;generalize jM.setCell ⟨a1,7,none⟩ (.bool ov)=gU at eP fh aO cd ⊢;obtain ⟨f0,f1,f2,f3,f4,f5,f6,f7⟩:=cQ8 cd;have y0:gU.cell? ⟨w.heap.size,0,none⟩=some (.int .i64 0):=(aO.cell 0).trans rfl;have jR:=aO.frozen 0;have y1:gU.cell? ⟨w.heap.size,1,none⟩=some (.int .i64 0):=(aO.cell 1).trans rfl;have jQ:=aO.frozen 1;have y2:gU.cell? ⟨w.heap.size,2,none⟩=some (.int .i64 0):=(aO.cell 2).trans rfl;have ln:=aO.frozen 2;have y3:gU.cell? ⟨w.heap.size,3,none⟩=some (.int .i64 0):=(aO.cell 3).trans rfl;have ll:=aO.frozen 3;have y4:gU.cell? ⟨w.heap.size,4,none⟩=some (.bool false):=(aO.cell 4).trans rfl;have lk:=aO.frozen 4;have y5:gU.cell? ⟨w.heap.size,5,none⟩=some (.int .i64 0):=(aO.cell 5).trans rfl;have lj:=aO.frozen 5;have y6:gU.cell? ⟨w.heap.size,6,none⟩=some (.slice none 0 0):=(aO.cell 6).trans rfl;have li:=aO.frozen 6;have y7:gU.cell? ⟨w.heap.size,7,none⟩=some (.bool false):=(aO.cell 7).trans rfl;have lh:=aO.frozen 7;have hS:=aO.store8 (.int .i64 4) (.int .i64 (f:Int)) (.int .i64 0) (.int .i64 0) (.bool false) (.int .i64 0) (.slice none 0 0) (.bool ov);have bS:=zAd (Below.refl (rb+1) gU) (show rb+1≤w.heap.size from au) (.int .i64 4) (.int .i64 (f:Int)) (.int .i64 0) (.int .i64 0) (.bool false) (.int .i64 0) (.slice none 0 0) (.bool ov);have kP:=zAd (Below.refl w.heap.size gU) eX (.int .i64 4) (.int .i64 (f:Int)) (.int .i64 0) (.int .i64 0) (.bool false) (.int .i64 0) (.slice none 0 0) (.bool ov);have hX:=eP.over bS;have gX:=zAc fh kP;go_wp2_with fail
     exact zAu rfl rfl hS Tryz.underlying32 rfl (by kernel_rfl) rfl (fm.out ⟨4,f,s0,[],ov⟩ s5 HE.out _ none 0 0 (Row.none_ _ _ _) rfl hX gX)
    by_cases n5:K=5
    ·subst n5;obtain ⟨kE,dL,da,oY⟩:=HA.out;clear HA;have f0:X9.cell? ⟨a1,0,none⟩=some (.int .i64 5):=(da.cell 0).trans rfl;obtain ⟨s5,e5⟩:∃x,s4.must zAx=x:=⟨_,rfl⟩
     obtain ⟨⟨xf,xl,xfar,xpc⟩,ex⟩:∃x,(zAN F.L s5).1=x:=⟨_,rfl⟩
     obtain ⟨s6,e6⟩:∃x,(zAN F.L s5).2=x:=⟨_,rfl⟩
     obtain ⟨ov,eov⟩:∃x,ovT (xa s6.T 0)=x:=⟨_,rfl⟩
     obtain ⟨s7,e7⟩:∃x,s6.over=x:=⟨_,rfl⟩
     have cB:=qH (fun wx (hx:RX wx rb F s5)=>zDz rb F s5 wx hx);simp only [ex,e6] at cB;have bY:=qH (fun wx (hx:RX wx rb F s6)=>zHk hx);simp only [eov,e7] at bY;have HE:=qH (show zBF F.L 5 f s4=(⟨5,f,⟨xf,xl,xfar,xpc⟩,[],ov⟩,s7) by unfold zBF;rw [if_neg (by omega),if_neg (by omega),if_pos rfl,e5,ex,e6,eov,e7]);have E5:=qH e5;clear eov e5 ex e6 e7;go_upto_region 22 with fail
     go_cut [91] (fun _ wv=>∃X:World,X=wv∧RX X rb F s5∧Blk X w.heap.size 32 #[.int .i64 0,.int .i64 0,.int .i64 0,.int .i64 0,.bool false,.int .i64 0,.slice none 0 0,.bool false]∧Blk X a1 32 #[.int .i64 5,.int .i64 (f:Int),.int .i64 0,.int .i64 0,.bool false,.int .i64 0,.slice none 0 0,.bool false]∧w.grownBy X (some rb))
     case first =>
      cases hb:s4.bad with
      | true =>
       have c4:X9.cell? ⟨rb,4,none⟩=some (.bool true):=by rw [←hb];exact kE.bad4.1
       have z4:=kE.bad4.2;have hm:=kE.marked false true (by rw [hb];rfl);have HZ:=qH (show RX (X9.setCell ⟨rb,4,none⟩ (.bool true)) rb F s5∧Blk (X9.setCell ⟨rb,4,none⟩ (.bool true)) w.heap.size 32 #[.int .i64 0,.int .i64 0,.int .i64 0,.int .i64 0,.bool false,.int .i64 0,.slice none 0 0,.bool false]∧Blk (X9.setCell ⟨rb,4,none⟩ (.bool true)) a1 32 #[.int .i64 5,.int .i64 (f:Int),.int .i64 0,.int .i64 0,.bool false,.int .i64 0,.slice none 0 0,.bool false]∧w.grownBy (X9.setCell ⟨rb,4,none⟩ (.bool true)) (some rb) from ⟨by rw [←E5.out,zET zAx hb];exact hm.1,dL.grownO hm.2 au,da.grownO hm.2 am,zAb oY hm.2⟩);clear hm hb kE oY dL da;go_wp2_with fail
       go_meet
       case rel=>exact ⟨_,rfl,HZ.out⟩
      | false =>
       obtain ⟨ib,eib⟩:∃b,isB s4.T zAx=b:=⟨_,rfl⟩
       have c4:X9.cell? ⟨rb,4,none⟩=some (.bool false):=by rw [←hb];exact kE.bad4.1
       have z4:=kE.bad4.2;have HI:=qH (zNy kE zAx);rw [eib] at HI;have HE:=qH (show (s4.is zAx).mark (!ib)=s5 by rw [←E5.out,zDS zAx hb,eib]);have HB:=qH hb;clear eib hb;go_wp2_with fail
       refine HI.out.mono ?_;rintro e Y ⟨rfl,hy,qy⟩;have mi:=dL.grownO qy au;have mh:=da.grownO qy am;have yq:=zAb oY qy;have c5:Y.cell? ⟨rb,4,none⟩=some (.bool false):=by rw [←HB.out];exact hy.bad4.1
       have z5:=hy.bad4.2;have hm:=fun q (hq:q = !ib)=>hy.marked (!ib) q (by rw [show (s4.is zAx).bad=false from HB.out];exact hq)
       have HZ:=qH (fun (q:Bool) (hq:q = !ib)=>(show RX (Y.setCell ⟨rb,4,none⟩ (.bool q)) rb F s5∧Blk (Y.setCell ⟨rb,4,none⟩ (.bool q)) w.heap.size 32 #[.int .i64 0,.int .i64 0,.int .i64 0,.int .i64 0,.bool false,.int .i64 0,.slice none 0 0,.bool false]∧Blk (Y.setCell ⟨rb,4,none⟩ (.bool q)) a1 32 #[.int .i64 5,.int .i64 (f:Int),.int .i64 0,.int .i64 0,.bool false,.int .i64 0,.slice none 0 0,.bool false]∧w.grownBy (Y.setCell ⟨rb,4,none⟩ (.bool q)) (some rb) from ⟨by rw [←HE.out];exact (hm q hq).1,mi.grownO (hm q hq).2 au,mh.grownO (hm q hq).2 am,zAb yq (hm q hq).2⟩));clear hm qy HI HE HB c4 z4 hy yq mi mh kE oY dL da
       cases ib
       all_goals
        go_wp2_with fail
        go_meet
        case rel=>exact ⟨_,rfl,HZ.out _ rfl⟩
     case rest =>
      clear kE oY dL da;obtain ⟨pF,hX,gR,fX,eD,iG⟩:=hcut;subst hX;clear f0 E5;go_wp2_with fail
      refine (cB.out pF gR).mono ?_;rintro e cg ⟨rfl,jK,iN⟩;have aB:=fX.grownO iN au;have aN:=eD.grownO iN am;have jL:=zAb iG iN;clear gR iG fX eD iN cB;have lg:=aN.frozen 2;have mM:cg.cell? ⟨a1,2,none⟩=some (.int .i64 0):=(aN.cell 2).trans rfl;have ld:=aN.frozen 3;have mL:cg.cell? ⟨a1,3,none⟩=some (.int .i64 0):=(aN.cell 3).trans rfl;have lc:=aN.frozen 4;have mK:cg.cell? ⟨a1,4,none⟩=some (.bool false):=(aN.cell 4).trans rfl;have kZ:=aN.frozen 5;have mJ:cg.cell? ⟨a1,5,none⟩=some (.int .i64 0):=(aN.cell 5).trans rfl;have jd:Blk (cg.setCell ⟨a1,2,none⟩ (.int .i64 xf)) a1 32 #[.int .i64 5,.int .i64 (f:Int),.int .i64 xf,.int .i64 0,.bool false,.int .i64 0,.slice none 0 0,.bool false]:=aN.set_ 2 _;have fA:Below (rb+1) cg (cg.setCell ⟨a1,2,none⟩ (.int .i64 xf)):=(Below.refl _ _).setCell (p:=⟨a1,2,none⟩) am _;have fE:Below w.heap.size cg (cg.setCell ⟨a1,2,none⟩ (.int .i64 xf)):=(Below.refl _ _).setCell (p:=⟨a1,2,none⟩) aW _;have dD:=aB.far (p:=⟨a1,2,none⟩) (by simp only;omega) (.int .i64 xf);have jc:Blk ((cg.setCell ⟨a1,2,none⟩ (.int .i64 xf)).setCell ⟨a1,3,none⟩ (.int .i64 xl)) a1 32 #[.int .i64 5,.int .i64 (f:Int),.int .i64 xf,.int .i64 xl,.bool false,.int .i64 0,.slice none 0 0,.bool false]:=jd.set_ 3 _;have fz:Below (rb+1) cg ((cg.setCell ⟨a1,2,none⟩ (.int .i64 xf)).setCell ⟨a1,3,none⟩ (.int .i64 xl)):=fA.setCell (p:=⟨a1,3,none⟩) am _;have fD:Below w.heap.size cg ((cg.setCell ⟨a1,2,none⟩ (.int .i64 xf)).setCell ⟨a1,3,none⟩ (.int .i64 xl)):=fE.setCell (p:=⟨a1,3,none⟩) aW _;have dC:=dD.far (p:=⟨a1,3,none⟩) (by simp only;omega) (.int .i64 xl);have jb:Blk (((cg.setCell ⟨a1,2,none⟩ (.int .i64 xf)).setCell ⟨a1,3,none⟩ (.int .i64 xl)).setCell ⟨a1,4,none⟩ (.bool xfar)) a1 32 #[.int .i64 5,.int .i64 (f:Int),.int .i64 xf,.int .i64 xl,.bool xfar,.int .i64 0,.slice none 0 0,.bool false]:=jc.set_ 4 _;have fy:Below (rb+1) cg (((cg.setCell ⟨a1,2,none⟩ (.int .i64 xf)).setCell ⟨a1,3,none⟩ (.int .i64 xl)).setCell ⟨a1,4,none⟩ (.bool xfar)):=fz.setCell (p:=⟨a1,4,none⟩) am _;have fC:Below w.heap.size cg (((cg.setCell ⟨a1,2,none⟩ (.int .i64 xf)).setCell ⟨a1,3,none⟩ (.int .i64 xl)).setCell ⟨a1,4,none⟩ (.bool xfar)):=fD.setCell (p:=⟨a1,4,none⟩) aW _;have dB:=dC.far (p:=⟨a1,4,none⟩) (by simp only;omega) (.bool xfar);have fW:Blk ((((cg.setCell ⟨a1,2,none⟩ (.int .i64 xf)).setCell ⟨a1,3,none⟩ (.int .i64 xl)).setCell ⟨a1,4,none⟩ (.bool xfar)).setCell ⟨a1,5,none⟩ (.int .i64 xpc)) a1 32 #[.int .i64 5,.int .i64 (f:Int),.int .i64 xf,.int .i64 xl,.bool xfar,.int .i64 xpc,.slice none 0 0,.bool false]:=jb.set_ 5 _;have fw:Below (rb+1) cg ((((cg.setCell ⟨a1,2,none⟩ (.int .i64 xf)).setCell ⟨a1,3,none⟩ (.int .i64 xl)).setCell ⟨a1,4,none⟩ (.bool xfar)).setCell ⟨a1,5,none⟩ (.int .i64 xpc)):=fy.setCell (p:=⟨a1,5,none⟩) am _;have fB:Below w.heap.size cg ((((cg.setCell ⟨a1,2,none⟩ (.int .i64 xf)).setCell ⟨a1,3,none⟩ (.int .i64 xl)).setCell ⟨a1,4,none⟩ (.bool xfar)).setCell ⟨a1,5,none⟩ (.int .i64 xpc)):=fC.setCell (p:=⟨a1,5,none⟩) aW _;have ct:=dB.far (p:=⟨a1,5,none⟩) (by simp only;omega) (.int .i64 xpc);have nj:=jK.over fw;have nk:=zAc jL fB;clear jK jL aB aN fA fE jd dD fz fD jc dC fy fC jb dB fw fB;go_wp2_with fail
      clear lg mM ld mL lc mK kZ mJ;generalize ((((cg.setCell ⟨a1,2,none⟩ (.int .i64 xf)).setCell ⟨a1,3,none⟩ (.int .i64 xl)).setCell ⟨a1,4,none⟩ (.bool xfar)).setCell ⟨a1,5,none⟩ (.int .i64 xpc))=X32 at nj nk ct fW ⊢;refine (bY.out X32 nj).mono ?_;rintro e vf ⟨rfl,gq,tB⟩;have bG:=ct.grownO tB au;have bp:=fW.grownO tB am;have kH:=zAb nk tB;clear nj nk ct fW tB bY;have z34:=bp.frozen 7;have d34:vf.cell? ⟨a1,7,none⟩=some (.bool false):=(bp.cell 7).trans rfl;have ow:Blk (vf.setCell ⟨a1,7,none⟩ (.bool ov)) a1 32 #[.int .i64 5,.int .i64 (f:Int),.int .i64 xf,.int .i64 xl,.bool xfar,.int .i64 xpc,.slice none 0 0,.bool ov]:=bp.set_ 7 _;have Eo:Below (rb+1) vf (vf.setCell ⟨a1,7,none⟩ (.bool ov)):=(Below.refl _ _).setCell (p:=⟨a1,7,none⟩) am _;have Ev:Below w.heap.size vf (vf.setCell ⟨a1,7,none⟩ (.bool ov)):=(Below.refl _ _).setCell (p:=⟨a1,7,none⟩) aW _;have bj:=bG.far (p:=⟨a1,7,none⟩) (by simp only;omega) (.bool ov);have FG:=gq.over Eo;have FM:=zAc kH Ev;clear gq kH bG bp Eo Ev;go_upto_region 33 with fail
      clear z34 d34;generalize vf.setCell ⟨a1,7,none⟩ (.bool ov)=X35 at FG FM bj ow ⊢;obtain ⟨f0,f1,f2,f3,f4,f5,f6,f7⟩:=cQ8 ow;have y0:X35.cell? ⟨w.heap.size,0,none⟩=some (.int .i64 0):=(bj.cell 0).trans rfl;have jR:=bj.frozen 0;have y1:X35.cell? ⟨w.heap.size,1,none⟩=some (.int .i64 0):=(bj.cell 1).trans rfl;have jQ:=bj.frozen 1;have y2:X35.cell? ⟨w.heap.size,2,none⟩=some (.int .i64 0):=(bj.cell 2).trans rfl;have ln:=bj.frozen 2;have y3:X35.cell? ⟨w.heap.size,3,none⟩=some (.int .i64 0):=(bj.cell 3).trans rfl;have ll:=bj.frozen 3;have y4:X35.cell? ⟨w.heap.size,4,none⟩=some (.bool false):=(bj.cell 4).trans rfl;have lk:=bj.frozen 4;have y5:X35.cell? ⟨w.heap.size,5,none⟩=some (.int .i64 0):=(bj.cell 5).trans rfl;have lj:=bj.frozen 5;have y6:X35.cell? ⟨w.heap.size,6,none⟩=some (.slice none 0 0):=(bj.cell 6).trans rfl;have li:=bj.frozen 6;have y7:X35.cell? ⟨w.heap.size,7,none⟩=some (.bool false):=(bj.cell 7).trans rfl;have lh:=bj.frozen 7;have hS:=bj.store8 (.int .i64 5) (.int .i64 (f:Int)) (.int .i64 xf) (.int .i64 xl) (.bool xfar) (.int .i64 xpc) (.slice none 0 0) (.bool ov);have bS:=zAd (Below.refl (rb+1) X35) (show rb+1≤w.heap.size from au) (.int .i64 5) (.int .i64 (f:Int)) (.int .i64 xf) (.int .i64 xl) (.bool xfar) (.int .i64 xpc) (.slice none 0 0) (.bool ov);have kP:=zAd (Below.refl w.heap.size X35) eX (.int .i64 5) (.int .i64 (f:Int)) (.int .i64 xf) (.int .i64 xl) (.bool xfar) (.int .i64 xpc) (.slice none 0 0) (.bool ov);have hX:=FG.over bS;have gX:=zAc FM kP;go_wp2_with fail
      exact zAu rfl rfl hS Tryz.underlying32 rfl (by kernel_rfl) rfl (fm.out ⟨5,f,⟨xf,xl,xfar,xpc⟩,[],ov⟩ s7 HE.out _ none 0 0 (Row.none_ _ _ _) rfl hX gX)
    by_cases n6:K=6
    ·subst n6;exact absurd HW.out (by omega)
    by_cases n7:K=7
    ·subst n7;exact absurd HW.out (by omega)
    by_cases n3:K=3
    ·subst n3;exact absurd HW.out (by omega)
    obtain ⟨Ap,aU,fV,Ar⟩:=HA.out;clear HA;have m3:(K==3)=false:=by simpa using n3
    have m4:(K==4)=false:=by simpa using n4
    have m5:(K==5)=false:=by simpa using n5
    have m6:(K==6)=false:=by simpa using n6
    have m7:(K==7)=false:=by simpa using n7
    have HE:=qH (show zBF F.L K f s4=(⟨K,f,s0,[],false⟩,s4) by unfold zBF;rw [if_neg n4,if_neg n3,if_neg n5,if_neg n6,if_neg n7]);clear n3 n4 n5 n6 n7;have f0:X9.cell? ⟨a1,0,none⟩=some (.int .i64 K):=(fV.cell 0).trans rfl;go_upto_region 33 with fail
    clear f0;obtain ⟨f0,f1,f2,f3,f4,f5,f6,f7⟩:=cQ8 fV;have y0:X9.cell? ⟨w.heap.size,0,none⟩=some (.int .i64 0):=(aU.cell 0).trans rfl;have jR:=aU.frozen 0;have y1:X9.cell? ⟨w.heap.size,1,none⟩=some (.int .i64 0):=(aU.cell 1).trans rfl;have jQ:=aU.frozen 1;have y2:X9.cell? ⟨w.heap.size,2,none⟩=some (.int .i64 0):=(aU.cell 2).trans rfl;have ln:=aU.frozen 2;have y3:X9.cell? ⟨w.heap.size,3,none⟩=some (.int .i64 0):=(aU.cell 3).trans rfl;have ll:=aU.frozen 3;have y4:X9.cell? ⟨w.heap.size,4,none⟩=some (.bool false):=(aU.cell 4).trans rfl;have lk:=aU.frozen 4;have y5:X9.cell? ⟨w.heap.size,5,none⟩=some (.int .i64 0):=(aU.cell 5).trans rfl;have lj:=aU.frozen 5;have y6:X9.cell? ⟨w.heap.size,6,none⟩=some (.slice none 0 0):=(aU.cell 6).trans rfl;have li:=aU.frozen 6;have y7:X9.cell? ⟨w.heap.size,7,none⟩=some (.bool false):=(aU.cell 7).trans rfl;have lh:=aU.frozen 7;have hS:=aU.store8 (.int .i64 K) (.int .i64 (f:Int)) (.int .i64 0) (.int .i64 0) (.bool false) (.int .i64 0) (.slice none 0 0) (.bool false);have bS:=zAd (Below.refl (rb+1) X9) (show rb+1≤w.heap.size from au) (.int .i64 K) (.int .i64 (f:Int)) (.int .i64 0) (.int .i64 0) (.bool false) (.int .i64 0) (.slice none 0 0) (.bool false);have kP:=zAd (Below.refl w.heap.size X9) eX (.int .i64 K) (.int .i64 (f:Int)) (.int .i64 0) (.int .i64 0) (.bool false) (.int .i64 0) (.slice none 0 0) (.bool false);have hX:=Ap.over bS;have gX:=zAc Ar kP;go_wp2_with fail
    exact zAu rfl rfl hS Tryz.underlying32 rfl (by kernel_rfl) rfl (fm.out ⟨K,f,s0,[],false⟩ s4 HE.out _ none 0 0 (Row.none_ _ _ _) rfl hX gX)
end Go.Proofs.YtlmdfmnbcndhoaaGreatDoor
