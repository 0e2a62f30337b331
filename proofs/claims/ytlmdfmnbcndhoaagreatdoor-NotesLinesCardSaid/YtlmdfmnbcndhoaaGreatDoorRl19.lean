/-
  Lemmas, part 19. Conditions: each theorem's own.
-/
import Derived.Test.YtlmdfmnbcndhoaaGreatDoorRl17
import Derived.Test.YtlmdfmnbcndhoaaGreatDoorRl16
namespace Go.Proofs.YtlmdfmnbcndhoaaGreatDoor
open Go.RowKit
set_option maxHeartbeats 12800000 in
set_option maxRecDepth 100000 in
theorem zLC (rb:Nat) (F:Fm) (s:RS) (w:World) (h:RX w rb F s) (hT:s.T.length≤100000) (hw:zBy (xa s.T 0)=6∨zBy (xa s.T 0)=7) :
  Calls Tryz.prog 98 #[.pointer (some ⟨rb,0,none⟩)] w (zEn w rb F (opR F.L s).1 (opR F.L s).2):=by
 obtain ⟨S0,gB⟩:∃S,xa s.T 0=S:=⟨_,rfl⟩
 obtain ⟨s1,e1⟩:∃x,s.next=x:=⟨_,rfl⟩
 obtain ⟨K,eK⟩:∃x,zBy S0=x:=⟨_,rfl⟩
 obtain ⟨s2,e2⟩:∃x,s1.mark (decide (K=0))=x:=⟨_,rfl⟩
 obtain ⟨S1,kI⟩:∃S,xa s2.T 0=S:=⟨_,rfl⟩
 obtain ⟨s3,e3⟩:∃x,s2.next=x:=⟨_,rfl⟩
 obtain ⟨s4,e4⟩:∃x,s3.fing F.L S1=x:=⟨_,rfl⟩
 obtain ⟨f,efi⟩:∃x,zDj F.L S1=x:=⟨_,rfl⟩
 obtain ⟨b,eb⟩:∃b,s1.bad=b:=⟨_,rfl⟩
 have cD:xa s.T.tail 0=S1:=by rw [←kI,←e2,←e1];rfl
 have pC:s4.T.length≤100000:=by
  rw [←e4,←e3,←e2,←e1];simp only [RS.fing,RS.next,RS.mark,List.length_tail];omega
 have HR:=qH (show opR F.L s=zBF F.L K f s4 by
  have hp:zEP F.L s=s4:=by
   unfold zEP
   rw [gB,cD,e1,eK,e2,e3,e4]
  unfold opR
  rw [hp,gB,cD,eK,efi])
 have hK:0≤K∧K≤8:=by
  by_cases e:K=0
  ·omega
  ·have:=zHe (v:=S0) (by rw [eK];exact e);rw [eK] at this;omega
 have ny:=qH (fun (k:Nat) (h1:1≤k) (h8:k≤8)=>(show ((bA (zAs (k:Int))).toList==(bA S0).toList)=decide (K=(k:Int)) by
  rw [zAr,zAr,←eK];exact zFF h1 h8 S0))
 have H1:=qH (fun wx (hx:RX wx rb F s)=>zCp hx);have H2:=qH (fun wx (hx:RX wx rb F s2)=>zCp hx);have H3:=qH (fun wx (hx:RX wx rb F s3)=>zCq hx S1)
 have HM:=qH (fun wx (hx:RX wx rb F s1)=>(show wx.cell? ⟨rb,4,none⟩=some (.bool b)∧wx.frozen? ⟨rb,4,none⟩=false∧∀q,q=(b||decide (K=0))→RX (wx.setCell ⟨rb,4,none⟩ (.bool q)) rb F s2∧wx.grownBy (wx.setCell ⟨rb,4,none⟩ (.bool q)) (some rb) from
  ⟨by rw [←eb];exact hx.bad4.1,hx.bad4.2,fun q hq=>by rw [←e2];exact hx.marked (decide (K=0)) q (by rw [eb];exact hq)⟩))
 simp only [gB,e1] at H1;simp only [kI,e3] at H2;simp only [efi,e4] at H3;rw [HR.out];have HW:Hid (K=6∨K=7):=qH (by rw [←eK,←gB];exact hw);have hlt:=h.lt;have bst:=zKm
 have fm:=qH (fun (o:Og) (st:RS) (he:zBF F.L K f s4=(o,st)) (wx:World) (B:Option Addr) (m d:Nat) (hrow:Row wx w.heap.size 5 B m d (o.path.flatMap zCa)) (hm:m=o.path.length) (hx:RX wx rb F st) (hg:w.grownBy wx (some rb)) =>
  (show zEn w rb F (zBF F.L K f s4).1 (zBF F.L K f s4).2 (.returned (opV o B m d)) wx from by rw [he];exact ⟨B,m,d,rfl,hrow,hm,hx,hg⟩))
 clear gB e1 e2 kI e3 e4 efi eb eK cD HR hT hw;have b1:Below w.heap.size w ((w.alloc (.cells #[.int .i64 0,.int .i64 0,.int .i64 0,.int .i64 0,.bool false,.int .i64 0,.slice none 0 0,.bool false] 32)).alloc (.cells #[.int .i64 0,.int .i64 0,.int .i64 0,.int .i64 0,.bool false,.int .i64 0,.slice none 0 0,.bool false] 32)):=((Below.refl _ _).alloc (Nat.le_refl _) _).alloc (by simp) _;have dO:Blk ((w.alloc (.cells #[.int .i64 0,.int .i64 0,.int .i64 0,.int .i64 0,.bool false,.int .i64 0,.slice none 0 0,.bool false] 32)).alloc (.cells #[.int .i64 0,.int .i64 0,.int .i64 0,.int .i64 0,.bool false,.int .i64 0,.slice none 0 0,.bool false] 32)) w.heap.size 32 #[.int .i64 0,.int .i64 0,.int .i64 0,.int .i64 0,.bool false,.int .i64 0,.slice none 0 0,.bool false]:=(Blk.new w _ _).alloc _;have cG:Blk ((w.alloc (.cells #[.int .i64 0,.int .i64 0,.int .i64 0,.int .i64 0,.bool false,.int .i64 0,.slice none 0 0,.bool false] 32)).alloc (.cells #[.int .i64 0,.int .i64 0,.int .i64 0,.int .i64 0,.bool false,.int .i64 0,.slice none 0 0,.bool false] 32)) (w.heap.size+1) 32 #[.int .i64 0,.int .i64 0,.int .i64 0,.int .i64 0,.bool false,.int .i64 0,.slice none 0 0,.bool false]:=by have:=Blk.new (w.alloc (.cells #[.int .i64 0,.int .i64 0,.int .i64 0,.int .i64 0,.bool false,.int .i64 0,.slice none 0 0,.bool false] 32)) 32 #[.int .i64 0,.int .i64 0,.int .i64 0,.int .i64 0,.bool false,.int .i64 0,.slice none 0 0,.bool false];rwa [World.size_alloc] at this
 have h1:=h.below b1;have g1:w.grownBy ((w.alloc (.cells #[.int .i64 0,.int .i64 0,.int .i64 0,.int .i64 0,.bool false,.int .i64 0,.slice none 0 0,.bool false] 32)).alloc (.cells #[.int .i64 0,.int .i64 0,.int .i64 0,.int .i64 0,.bool false,.int .i64 0,.slice none 0 0,.bool false] 32)) (some rb):=zAz b1;have au:rb < w.heap.size:=hlt;have am:rb < w.heap.size+1:=by omega
 have eX:w.heap.size≤w.heap.size:=Nat.le_refl _;have aW:w.heap.size≤w.heap.size+1:=by omega
 clear h b1;obtain ⟨a1,cM⟩:∃a,a=w.heap.size+1:=⟨_,rfl⟩
 have gL:=qH cM;have iY:w.heap.size < a1:=by omega
 go_enter Tryz.func98,Tryz.ntmps98;go_wp2_with fail
 generalize ((w.alloc (.cells #[.int .i64 0,.int .i64 0,.int .i64 0,.int .i64 0,.bool false,.int .i64 0,.slice none 0 0,.bool false] 32)).alloc (.cells #[.int .i64 0,.int .i64 0,.int .i64 0,.int .i64 0,.bool false,.int .i64 0,.slice none 0 0,.bool false] 32))=X1 at dO cG h1 g1 ⊢;rw [←cM] at cG am aW ⊢;clear cM;refine (H1.out X1 h1).mono ?_;rintro e yR ⟨rfl,oW,iR⟩;have dZ:=dO.grownO iR au;have dY:=cG.grownO iR am;have o3:=zAb g1 iR;clear h1 g1 dO cG iR H1;go_wp2_with fail
 go_loopw [5] (fun v wv=>∃(k:Nat) (X:World),X=wv∧1≤k∧k≤9∧v=.int .i64 k∧Hid (RX X rb F s1∧Blk X w.heap.size 32 #[.int .i64 0,.int .i64 0,.int .i64 0,.int .i64 0,.bool false,.int .i64 0,.slice none 0 0,.bool false]∧Blk X a1 32 #[.int .i64 (kTo K k),.int .i64 0,.int .i64 0,.int .i64 0,.bool false,.int .i64 0,.slice none 0 0,.bool false]∧w.grownBy X (some rb))) (fun v _=>9-(intOf v).toNat)
 case atStart=>exact ⟨1,_,rfl,by omega,by omega,rfl,qH (by rw [show kTo K 1=0 from by unfold kTo;split<;>omega];exact ⟨oW,dZ,dY,o3⟩)⟩
 case round =>
  clear oW o3 dZ dY;obtain ⟨k,X,hX,aq,EL,rfl,HX⟩:=hrel;subst hX;by_cases hk:k≤8
  ·have i1:(k:Int)≤8:=by omega
   have n0:=ny.out k aq hk;by_cases hq:K=(k:Int)
   ·obtain ⟨h12,dX,bU,ta⟩:=HX.out;rw [decide_eq_true hq] at n0;have Ed:=bU.frozen 0;have Gi:X.cell? ⟨a1,0,none⟩=some (.int .i64 (kTo K k)):=(bU.cell 0).trans rfl;have dV:Blk (X.setCell ⟨a1,0,none⟩ (.int .i64 (k:Int))) a1 32 #[.int .i64 (k:Int),.int .i64 0,.int .i64 0,.int .i64 0,.bool false,.int .i64 0,.slice none 0 0,.bool false]:=bU.set_ 0 _;have rm:Below (rb+1) X (X.setCell ⟨a1,0,none⟩ (.int .i64 (k:Int))):=(Below.refl _ _).setCell (p:=⟨a1,0,none⟩) am _;have rT:Below w.heap.size X (X.setCell ⟨a1,0,none⟩ (.int .i64 (k:Int))):=(Below.refl _ _).setCell (p:=⟨a1,0,none⟩) aW _;have dW:=dX.far (p:=⟨a1,0,none⟩) (by simp only;omega) (.int .i64 (k:Int));have sU:=h12.over rm;have s9:=zAc ta rT;clear h12 ta dX bU rm rT;have HF:=qH (show kTo K (k+1)=(k:Int) by unfold kTo;rw [if_pos (by omega)];exact hq);have HZ:=qH (show RX (X.setCell ⟨a1,0,none⟩ (.int .i64 (k:Int))) rb F s1∧Blk (X.setCell ⟨a1,0,none⟩ (.int .i64 (k:Int))) w.heap.size 32 #[.int .i64 0,.int .i64 0,.int .i64 0,.int .i64 0,.bool false,.int .i64 0,.slice none 0 0,.bool false]∧Blk (X.setCell ⟨a1,0,none⟩ (.int .i64 (k:Int))) a1 32 #[.int .i64 (k:Int),.int .i64 0,.int .i64 0,.int .i64 0,.bool false,.int .i64 0,.slice none 0 0,.bool false]∧w.grownBy (X.setCell ⟨a1,0,none⟩ (.int .i64 (k:Int))) (some rb) from ⟨sU,dW,dV,s9⟩);clear HX hq sU s9 dW dV;go_wp2_with (first | (go_at_call 106;refine (zBL (k:Int) (by omega) (by omega) _).mono ?_;rintro e wq ⟨rfl,rfl⟩))
    go_roundw
    case rel=>exact ⟨k+1,_,rfl,by omega,by omega,by go_num,qH (by rw [HF.out];exact HZ.out)⟩
    case measure=>simp [intOf];omega
   ·rw [decide_eq_false hq] at n0;have HF:=qH (show kTo K (k+1)=kTo K k by unfold kTo;split<;>split<;>omega);clear hq;go_wp2_with (first | (go_at_call 106;refine (zBL (k:Int) (by omega) (by omega) _).mono ?_;rintro e wq ⟨rfl,rfl⟩))
    go_roundw
    case rel=>exact ⟨k+1,_,rfl,by omega,by omega,by go_num,qH (by rw [HF.out];exact HX.out)⟩
    case measure=>simp [intOf];omega
  ·have i1:¬(k:Int)≤8:=by omega
   obtain ⟨sT,dU,bT,sZ⟩:=HX.out;rw [show kTo K k=K from by unfold kTo;rw [if_pos (by omega)]] at bT;obtain ⟨c4,z4,hm⟩:=HM.out X sT;have HZ:=qH (fun (q:Bool) hq=>(show RX (X.setCell ⟨rb,4,none⟩ (.bool q)) rb F s2∧Blk (X.setCell ⟨rb,4,none⟩ (.bool q)) w.heap.size 32 #[.int .i64 0,.int .i64 0,.int .i64 0,.int .i64 0,.bool false,.int .i64 0,.slice none 0 0,.bool false]∧Blk (X.setCell ⟨rb,4,none⟩ (.bool q)) a1 32 #[.int .i64 K,.int .i64 0,.int .i64 0,.int .i64 0,.bool false,.int .i64 0,.slice none 0 0,.bool false]∧w.grownBy (X.setCell ⟨rb,4,none⟩ (.bool q)) (some rb) from ⟨(hm q hq).1,dU.grownO (hm q hq).2 au,bT.grownO (hm q hq).2 am,zAb sZ (hm q hq).2⟩));have f0:X.cell? ⟨a1,0,none⟩=some (.int .i64 K):=(bT.cell 0).trans rfl;clear hm HM HX ny sT sZ dU bT;obtain ⟨q0,oH⟩:∃q,decide (K=0)=q:=⟨_,rfl⟩
   have i2:(K==0)=q0:=by rw [←oH];by_cases e:K=0<;>simp [e]
   rw [oH] at HZ;clear oH;go_upto_region 8 with fail
   go_cut [29] (fun _ wv=>∃X:World,X=wv∧RX X rb F s2∧Blk X w.heap.size 32 #[.int .i64 0,.int .i64 0,.int .i64 0,.int .i64 0,.bool false,.int .i64 0,.slice none 0 0,.bool false]∧Blk X a1 32 #[.int .i64 K,.int .i64 0,.int .i64 0,.int .i64 0,.bool false,.int .i64 0,.slice none 0 0,.bool false]∧w.grownBy X (some rb))
   case first =>
    cases b<;>cases q0
    all_goals
     go_wp2_with fail
     go_meet
     case rel=>exact ⟨_,rfl,HZ.out _ rfl⟩
   case rest =>
    clear c4 z4 HZ f0 i2;obtain ⟨X,hX,sS,dT,dS,sY⟩:=hcut;subst hX;go_wp2_with fail
    refine (H2.out X sS).mono ?_;rintro e yQ ⟨rfl,sR,iQ⟩;have dR:=dT.grownO iQ au;have dQ:=dS.grownO iQ am;have sX:=zAb sY iQ;clear sS sY dT dS iQ H2;go_wp2_with fail
    refine (H3.out yQ sR).mono ?_;rintro e gv ⟨rfl,sQ,iP⟩;have dP:=dR.grownO iP au;have bQ:=dQ.grownO iP am;have g17:=zAb sX iP;clear sR sX dR dQ iP H3;have wI:=bQ.frozen 1;have yK:gv.cell? ⟨a1,1,none⟩=some (.int .i64 0):=(bQ.cell 1).trans rfl;have cv:Blk (gv.setCell ⟨a1,1,none⟩ (.int .i64 (f:Int))) a1 32 #[.int .i64 K,.int .i64 (f:Int),.int .i64 0,.int .i64 0,.bool false,.int .i64 0,.slice none 0 0,.bool false]:=bQ.set_ 1 _;have rl:Below (rb+1) gv (gv.setCell ⟨a1,1,none⟩ (.int .i64 (f:Int))):=(Below.refl _ _).setCell (p:=⟨a1,1,none⟩) am _;have rS:Below w.heap.size gv (gv.setCell ⟨a1,1,none⟩ (.int .i64 (f:Int))):=(Below.refl _ _).setCell (p:=⟨a1,1,none⟩) aW _;have cw:=dP.far (p:=⟨a1,1,none⟩) (by simp only;omega) (.int .i64 (f:Int));have oV:=sQ.over rl;have g18:=zAc g17 rS;clear sQ g17 dP bQ rl rS;go_upto_region 10 with fail
    clear wI yK;generalize gv.setCell ⟨a1,1,none⟩ (.int .i64 (f:Int))=X9 at oV g18 cw cv ⊢;have HA:=qH (show RX X9 rb F s4∧Blk X9 w.heap.size 32 #[.int .i64 0,.int .i64 0,.int .i64 0,.int .i64 0,.bool false,.int .i64 0,.slice none 0 0,.bool false]∧Blk X9 a1 32 #[.int .i64 K,.int .i64 (f:Int),.int .i64 0,.int .i64 0,.bool false,.int .i64 0,.slice none 0 0,.bool false]∧w.grownBy X9 (some rb) from ⟨oV,cw,cv,g18⟩);clear oV g18 cw cv;by_cases n4:K=4
    ·subst n4;exact absurd HW.out (by omega)
    by_cases n5:K=5
    ·subst n5;exact absurd HW.out (by omega)
    by_cases n6:K=6
    ·subst n6;obtain ⟨kF,cu,bO,oZ⟩:=HA.out;clear HA;have f0:X9.cell? ⟨a1,0,none⟩=some (.int .i64 6):=(bO.cell 0).trans rfl;obtain ⟨s5,e5⟩:∃x,s4.must zAx=x:=⟨_,rfl⟩
     obtain ⟨S2,va⟩:∃x,xa s5.T 0=x:=⟨_,rfl⟩
     obtain ⟨s6,e6⟩:∃x,s5.next=x:=⟨_,rfl⟩
     obtain ⟨g,eg⟩:∃x,zDj F.L S2=x:=⟨_,rfl⟩
     obtain ⟨s7,e7⟩:∃x,s6.fing F.L S2=x:=⟨_,rfl⟩
     obtain ⟨ov,eov⟩:∃x,ovT (xa s7.T 0)=x:=⟨_,rfl⟩
     obtain ⟨s8,e8⟩:∃x,s7.over=x:=⟨_,rfl⟩
     have hov:ovT (xa s5.T.tail 0)=ov:=by rw [←eov,←e7,←e6];rfl
     have iB:=qH (fun wx (hx:RX wx rb F s5)=>zCp hx);simp only [va,e6] at iB;have dz:=qH (fun wx (hx:RX wx rb F s6)=>zCq hx S2);simp only [eg,e7] at dz;have bY:=qH (fun wx (hx:RX wx rb F s7)=>zHk hx);simp only [eov,e8] at bY;have HE:=qH (show zBF F.L 6 f s4=(⟨6,f,⟨g,0,false,0⟩,[],ov⟩,s8) by unfold zBF;rw [if_neg (by omega),if_neg (by omega),if_neg (by omega),if_pos rfl,e5,va,e6,eg,e7,e8,hov]);have E5:=qH e5;clear eov e5 va eg e6 e7 e8 hov;go_upto_region 30 with fail
     go_cut [116] (fun _ wv=>∃X:World,X=wv∧RX X rb F s5∧Blk X w.heap.size 32 #[.int .i64 0,.int .i64 0,.int .i64 0,.int .i64 0,.bool false,.int .i64 0,.slice none 0 0,.bool false]∧Blk X a1 32 #[.int .i64 6,.int .i64 (f:Int),.int .i64 0,.int .i64 0,.bool false,.int .i64 0,.slice none 0 0,.bool false]∧w.grownBy X (some rb))
     case first =>
      cases hb:s4.bad with
      | true =>
       have c4:X9.cell? ⟨rb,4,none⟩=some (.bool true):=by rw [←hb];exact kF.bad4.1
       have z4:=kF.bad4.2;have hm:=kF.marked false true (by rw [hb];rfl);have HZ:=qH (show RX (X9.setCell ⟨rb,4,none⟩ (.bool true)) rb F s5∧Blk (X9.setCell ⟨rb,4,none⟩ (.bool true)) w.heap.size 32 #[.int .i64 0,.int .i64 0,.int .i64 0,.int .i64 0,.bool false,.int .i64 0,.slice none 0 0,.bool false]∧Blk (X9.setCell ⟨rb,4,none⟩ (.bool true)) a1 32 #[.int .i64 6,.int .i64 (f:Int),.int .i64 0,.int .i64 0,.bool false,.int .i64 0,.slice none 0 0,.bool false]∧w.grownBy (X9.setCell ⟨rb,4,none⟩ (.bool true)) (some rb) from ⟨by rw [←E5.out,zET zAx hb];exact hm.1,cu.grownO hm.2 au,bO.grownO hm.2 am,zAb oZ hm.2⟩);clear hm hb kF oZ cu bO;go_wp2_with fail
       go_meet
       case rel=>exact ⟨_,rfl,HZ.out⟩
      | false =>
       obtain ⟨ib,eib⟩:∃b,isB s4.T zAx=b:=⟨_,rfl⟩
       have c4:X9.cell? ⟨rb,4,none⟩=some (.bool false):=by rw [←hb];exact kF.bad4.1
       have z4:=kF.bad4.2;have HI:=qH (zNy kF zAx);rw [eib] at HI;have HE:=qH (show (s4.is zAx).mark (!ib)=s5 by rw [←E5.out,zDS zAx hb,eib]);have HB:=qH hb;clear eib hb;go_wp2_with fail
       refine HI.out.mono ?_;rintro e Y ⟨rfl,hy,qy⟩;have ml:=cu.grownO qy au;have mj:=bO.grownO qy am;have yr:=zAb oZ qy;have c5:Y.cell? ⟨rb,4,none⟩=some (.bool false):=by rw [←HB.out];exact hy.bad4.1
       have z5:=hy.bad4.2;have hm:=fun q (hq:q = !ib)=>hy.marked (!ib) q (by rw [show (s4.is zAx).bad=false from HB.out];exact hq)
       have HZ:=qH (fun (q:Bool) (hq:q = !ib)=>(show RX (Y.setCell ⟨rb,4,none⟩ (.bool q)) rb F s5∧Blk (Y.setCell ⟨rb,4,none⟩ (.bool q)) w.heap.size 32 #[.int .i64 0,.int .i64 0,.int .i64 0,.int .i64 0,.bool false,.int .i64 0,.slice none 0 0,.bool false]∧Blk (Y.setCell ⟨rb,4,none⟩ (.bool q)) a1 32 #[.int .i64 6,.int .i64 (f:Int),.int .i64 0,.int .i64 0,.bool false,.int .i64 0,.slice none 0 0,.bool false]∧w.grownBy (Y.setCell ⟨rb,4,none⟩ (.bool q)) (some rb) from ⟨by rw [←HE.out];exact (hm q hq).1,ml.grownO (hm q hq).2 au,mj.grownO (hm q hq).2 am,zAb yr (hm q hq).2⟩));clear hm qy HI HE HB c4 z4 hy yr ml mj kF oZ cu bO
       cases ib
       all_goals
        go_wp2_with fail
        go_meet
        case rel=>exact ⟨_,rfl,HZ.out _ rfl⟩
     case rest =>
      clear kF oZ cu bO;obtain ⟨gU,hX,eW,oA,oz,eY⟩:=hcut;subst hX;clear f0 E5;go_wp2_with fail
      refine (iB.out gU eW).mono ?_;rintro e mN ⟨rfl,kE,pL⟩;have dL:=oA.grownO pL au;have da:=oz.grownO pL am;have oY:=zAb eY pL;clear eW eY oA oz pL iB;go_wp2_with fail
      refine (dz.out mN kE).mono ?_;rintro e iH ⟨rfl,mE,gF⟩;have fY:=dL.grownO gF au;have eE:=da.grownO gF am;have mH:=zAb oY gF;clear kE oY dL da gF dz;have AY:=eE.frozen 2;have C2:iH.cell? ⟨a1,2,none⟩=some (.int .i64 0):=(eE.cell 2).trans rfl;have dJ:Blk (iH.setCell ⟨a1,2,none⟩ (.int .i64 (g:Int))) a1 32 #[.int .i64 6,.int .i64 (f:Int),.int .i64 (g:Int),.int .i64 0,.bool false,.int .i64 0,.slice none 0 0,.bool false]:=eE.set_ 2 _;have jC:Below (rb+1) iH (iH.setCell ⟨a1,2,none⟩ (.int .i64 (g:Int))):=(Below.refl _ _).setCell (p:=⟨a1,2,none⟩) am _;have wQ:Below w.heap.size iH (iH.setCell ⟨a1,2,none⟩ (.int .i64 (g:Int))):=(Below.refl _ _).setCell (p:=⟨a1,2,none⟩) aW _;have dK:=fY.far (p:=⟨a1,2,none⟩) (by simp only;omega) (.int .i64 (g:Int));have iy:=mE.over jC;have jq:=zAc mH wQ;clear mE mH fY eE jC wQ;go_wp2_with fail
      clear AY C2;generalize iH.setCell ⟨a1,2,none⟩ (.int .i64 (g:Int))=pF at iy jq dK dJ ⊢;refine (bY.out pF iy).mono ?_;rintro e qo ⟨rfl,gR,pq⟩;have fX:=dK.grownO pq au;have eD:=dJ.grownO pq am;have iG:=zAb jq pq;clear iy jq dK dJ pq bY;have DV:=eD.frozen 7;have FV:qo.cell? ⟨a1,7,none⟩=some (.bool false):=(eD.cell 7).trans rfl;have aN:Blk (qo.setCell ⟨a1,7,none⟩ (.bool ov)) a1 32 #[.int .i64 6,.int .i64 (f:Int),.int .i64 (g:Int),.int .i64 0,.bool false,.int .i64 0,.slice none 0 0,.bool ov]:=eD.set_ 7 _;have iN:Below (rb+1) qo (qo.setCell ⟨a1,7,none⟩ (.bool ov)):=(Below.refl _ _).setCell (p:=⟨a1,7,none⟩) am _;have wO:Below w.heap.size qo (qo.setCell ⟨a1,7,none⟩ (.bool ov)):=(Below.refl _ _).setCell (p:=⟨a1,7,none⟩) aW _;have aB:=fX.far (p:=⟨a1,7,none⟩) (by simp only;omega) (.bool ov);have jK:=gR.over iN;have jL:=zAc iG wO;clear gR iG fX eD iN wO;go_upto_region 33 with fail
      clear DV FV;generalize qo.setCell ⟨a1,7,none⟩ (.bool ov)=X31 at jK jL aB aN ⊢;obtain ⟨f0,f1,f2,f3,f4,f5,f6,f7⟩:=cQ8 aN;have y0:X31.cell? ⟨w.heap.size,0,none⟩=some (.int .i64 0):=(aB.cell 0).trans rfl;have jR:=aB.frozen 0;have y1:X31.cell? ⟨w.heap.size,1,none⟩=some (.int .i64 0):=(aB.cell 1).trans rfl;have jQ:=aB.frozen 1;have y2:X31.cell? ⟨w.heap.size,2,none⟩=some (.int .i64 0):=(aB.cell 2).trans rfl;have ln:=aB.frozen 2;have y3:X31.cell? ⟨w.heap.size,3,none⟩=some (.int .i64 0):=(aB.cell 3).trans rfl;have ll:=aB.frozen 3;have y4:X31.cell? ⟨w.heap.size,4,none⟩=some (.bool false):=(aB.cell 4).trans rfl;have lk:=aB.frozen 4;have y5:X31.cell? ⟨w.heap.size,5,none⟩=some (.int .i64 0):=(aB.cell 5).trans rfl;have lj:=aB.frozen 5;have y6:X31.cell? ⟨w.heap.size,6,none⟩=some (.slice none 0 0):=(aB.cell 6).trans rfl;have li:=aB.frozen 6;have y7:X31.cell? ⟨w.heap.size,7,none⟩=some (.bool false):=(aB.cell 7).trans rfl;have lh:=aB.frozen 7;have hS:=aB.store8 (.int .i64 6) (.int .i64 (f:Int)) (.int .i64 (g:Int)) (.int .i64 0) (.bool false) (.int .i64 0) (.slice none 0 0) (.bool ov);have bS:=zAd (Below.refl (rb+1) X31) (show rb+1≤w.heap.size from au) (.int .i64 6) (.int .i64 (f:Int)) (.int .i64 (g:Int)) (.int .i64 0) (.bool false) (.int .i64 0) (.slice none 0 0) (.bool ov);have kP:=zAd (Below.refl w.heap.size X31) eX (.int .i64 6) (.int .i64 (f:Int)) (.int .i64 (g:Int)) (.int .i64 0) (.bool false) (.int .i64 0) (.slice none 0 0) (.bool ov);have hX:=jK.over bS;have gX:=zAc jL kP;go_wp2_with fail
      exact zAu rfl rfl hS Tryz.underlying32 rfl (by kernel_rfl) rfl (fm.out ⟨6,f,⟨(g:Int),0,false,0⟩,[],ov⟩ s8 HE.out _ none 0 0 (Row.none_ _ _ _) rfl hX gX)
    by_cases n7:K=7
    ·subst n7;obtain ⟨gq,bG,bp,kH⟩:=HA.out;clear HA;have f0:X9.cell? ⟨a1,0,none⟩=some (.int .i64 7):=(bp.cell 0).trans rfl;obtain ⟨s5,e5⟩:∃x,s4.must zDm=x:=⟨_,rfl⟩
     obtain ⟨S2,va⟩:∃x,xa s5.T 0=x:=⟨_,rfl⟩
     obtain ⟨s6,e6⟩:∃x,s5.next=x:=⟨_,rfl⟩
     obtain ⟨g,eg⟩:∃x,zDj F.L S2=x:=⟨_,rfl⟩
     obtain ⟨s7,e7⟩:∃x,s6.fing F.L S2=x:=⟨_,rfl⟩
     obtain ⟨ov,eov⟩:∃x,ovT (xa s7.T 0)=x:=⟨_,rfl⟩
     obtain ⟨s8,e8⟩:∃x,s7.over=x:=⟨_,rfl⟩
     have hov:ovT (xa s5.T.tail 0)=ov:=by rw [←eov,←e7,←e6];rfl
     have iB:=qH (fun wx (hx:RX wx rb F s5)=>zCp hx);simp only [va,e6] at iB;have dz:=qH (fun wx (hx:RX wx rb F s6)=>zCq hx S2);simp only [eg,e7] at dz;have bY:=qH (fun wx (hx:RX wx rb F s7)=>zHk hx);simp only [eov,e8] at bY;have HE:=qH (show zBF F.L 7 f s4=(⟨7,f,⟨g,0,false,0⟩,[],ov⟩,s8) by unfold zBF;rw [if_neg (by omega),if_neg (by omega),if_neg (by omega),if_neg (by omega),if_pos rfl,e5,va,e6,eg,e7,e8,hov]);have E5:=qH e5;clear eov e5 va eg e6 e7 e8 hov;go_upto_region 30 with fail
     go_cut [116] (fun _ wv=>∃X:World,X=wv∧RX X rb F s5∧Blk X w.heap.size 32 #[.int .i64 0,.int .i64 0,.int .i64 0,.int .i64 0,.bool false,.int .i64 0,.slice none 0 0,.bool false]∧Blk X a1 32 #[.int .i64 7,.int .i64 (f:Int),.int .i64 0,.int .i64 0,.bool false,.int .i64 0,.slice none 0 0,.bool false]∧w.grownBy X (some rb))
     case first =>
      cases hb:s4.bad with
      | true =>
       have c4:X9.cell? ⟨rb,4,none⟩=some (.bool true):=by rw [←hb];exact gq.bad4.1
       have z4:=gq.bad4.2;have hm:=gq.marked false true (by rw [hb];rfl);have HZ:=qH (show RX (X9.setCell ⟨rb,4,none⟩ (.bool true)) rb F s5∧Blk (X9.setCell ⟨rb,4,none⟩ (.bool true)) w.heap.size 32 #[.int .i64 0,.int .i64 0,.int .i64 0,.int .i64 0,.bool false,.int .i64 0,.slice none 0 0,.bool false]∧Blk (X9.setCell ⟨rb,4,none⟩ (.bool true)) a1 32 #[.int .i64 7,.int .i64 (f:Int),.int .i64 0,.int .i64 0,.bool false,.int .i64 0,.slice none 0 0,.bool false]∧w.grownBy (X9.setCell ⟨rb,4,none⟩ (.bool true)) (some rb) from ⟨by rw [←E5.out,zET zDm hb];exact hm.1,bG.grownO hm.2 au,bp.grownO hm.2 am,zAb kH hm.2⟩);clear hm hb gq kH bG bp;go_wp2_with fail
       go_meet
       case rel=>exact ⟨_,rfl,HZ.out⟩
      | false =>
       obtain ⟨ib,eib⟩:∃b,isB s4.T zDm=b:=⟨_,rfl⟩
       have c4:X9.cell? ⟨rb,4,none⟩=some (.bool false):=by rw [←hb];exact gq.bad4.1
       have z4:=gq.bad4.2;have HI:=qH (zNy gq zDm);rw [eib] at HI;have HE:=qH (show (s4.is zDm).mark (!ib)=s5 by rw [←E5.out,zDS zDm hb,eib]);have HB:=qH hb;clear eib hb;go_wp2_with fail
       refine HI.out.mono ?_;rintro e Y ⟨rfl,hy,qy⟩;have mg:=bG.grownO qy au;have mf:=bp.grownO qy am;have yo:=zAb kH qy;have c5:Y.cell? ⟨rb,4,none⟩=some (.bool false):=by rw [←HB.out];exact hy.bad4.1
       have z5:=hy.bad4.2;have hm:=fun q (hq:q = !ib)=>hy.marked (!ib) q (by rw [show (s4.is zDm).bad=false from HB.out];exact hq)
       have HZ:=qH (fun (q:Bool) (hq:q = !ib)=>(show RX (Y.setCell ⟨rb,4,none⟩ (.bool q)) rb F s5∧Blk (Y.setCell ⟨rb,4,none⟩ (.bool q)) w.heap.size 32 #[.int .i64 0,.int .i64 0,.int .i64 0,.int .i64 0,.bool false,.int .i64 0,.slice none 0 0,.bool false]∧Blk (Y.setCell ⟨rb,4,none⟩ (.bool q)) a1 32 #[.int .i64 7,.int .i64 (f:Int),.int .i64 0,.int .i64 0,.bool false,.int .i64 0,.slice none 0 0,.bool false]∧w.grownBy (Y.setCell ⟨rb,4,none⟩ (.bool q)) (some rb) from ⟨by rw [←HE.out];exact (hm q hq).1,mg.grownO (hm q hq).2 au,mf.grownO (hm q hq).2 am,zAb yo (hm q hq).2⟩));clear hm qy HI HE HB c4 z4 hy yo mg mf gq kH bG bp
       cases ib
       all_goals
        go_wp2_with fail
        go_meet
        case rel=>exact ⟨_,rfl,HZ.out _ rfl⟩
     case rest =>
      clear gq kH bG bp;obtain ⟨X36,hX,Ap,aU,fV,Ar⟩:=hcut;subst hX;clear f0 E5;go_wp2_with fail
      refine (iB.out X36 Ap).mono ?_;rintro e X38 ⟨rfl,sP,zH⟩;have aL:=aU.grownO zH au;have fo:=fV.grownO zH am;have vV:=zAb Ar zH;clear Ap Ar aU fV zH iB;go_wp2_with fail
      refine (dz.out X38 sP).mono ?_;rintro e ve ⟨rfl,FE,zF⟩;have ou:=aL.grownO zF au;have ii:=fo.grownO zF am;have FK:=zAb vV zF;clear sP vV aL fo zF dz;have z40:=ii.frozen 2;have d40:ve.cell? ⟨a1,2,none⟩=some (.int .i64 0):=(ii.cell 2).trans rfl;have ki:Blk (ve.setCell ⟨a1,2,none⟩ (.int .i64 (g:Int))) a1 32 #[.int .i64 7,.int .i64 (f:Int),.int .i64 (g:Int),.int .i64 0,.bool false,.int .i64 0,.slice none 0 0,.bool false]:=ii.set_ 2 _;have En:Below (rb+1) ve (ve.setCell ⟨a1,2,none⟩ (.int .i64 (g:Int))):=(Below.refl _ _).setCell (p:=⟨a1,2,none⟩) am _;have Eu:Below w.heap.size ve (ve.setCell ⟨a1,2,none⟩ (.int .i64 (g:Int))):=(Below.refl _ _).setCell (p:=⟨a1,2,none⟩) aW _;have kj:=ou.far (p:=⟨a1,2,none⟩) (by simp only;omega) (.int .i64 (g:Int));have CM:=FE.over En;have CS:=zAc FK Eu;clear FE FK ou ii En Eu;go_wp2_with fail
      clear z40 d40;generalize ve.setCell ⟨a1,2,none⟩ (.int .i64 (g:Int))=X41 at CM CS kj ki ⊢;refine (bY.out X41 CM).mono ?_;rintro e vd ⟨rfl,FD,zE⟩;have ot:=kj.grownO zE au;have ig:=ki.grownO zE am;have FJ:=zAb CS zE;clear CM CS kj ki zE bY;have z43:=ig.frozen 7;have d43:vd.cell? ⟨a1,7,none⟩=some (.bool false):=(ig.cell 7).trans rfl;have oq:Blk (vd.setCell ⟨a1,7,none⟩ (.bool ov)) a1 32 #[.int .i64 7,.int .i64 (f:Int),.int .i64 (g:Int),.int .i64 0,.bool false,.int .i64 0,.slice none 0 0,.bool ov]:=ig.set_ 7 _;have Em:Below (rb+1) vd (vd.setCell ⟨a1,7,none⟩ (.bool ov)):=(Below.refl _ _).setCell (p:=⟨a1,7,none⟩) am _;have Et:Below w.heap.size vd (vd.setCell ⟨a1,7,none⟩ (.bool ov)):=(Below.refl _ _).setCell (p:=⟨a1,7,none⟩) aW _;have bi:=ot.far (p:=⟨a1,7,none⟩) (by simp only;omega) (.bool ov);have FC:=FD.over Em;have FI:=zAc FJ Et;clear FD FJ ot ig Em Et;go_upto_region 33 with fail
      clear z43 d43;generalize vd.setCell ⟨a1,7,none⟩ (.bool ov)=X44 at FC FI bi oq ⊢;obtain ⟨f0,f1,f2,f3,f4,f5,f6,f7⟩:=cQ8 oq;have y0:X44.cell? ⟨w.heap.size,0,none⟩=some (.int .i64 0):=(bi.cell 0).trans rfl;have jR:=bi.frozen 0;have y1:X44.cell? ⟨w.heap.size,1,none⟩=some (.int .i64 0):=(bi.cell 1).trans rfl;have jQ:=bi.frozen 1;have y2:X44.cell? ⟨w.heap.size,2,none⟩=some (.int .i64 0):=(bi.cell 2).trans rfl;have ln:=bi.frozen 2;have y3:X44.cell? ⟨w.heap.size,3,none⟩=some (.int .i64 0):=(bi.cell 3).trans rfl;have ll:=bi.frozen 3;have y4:X44.cell? ⟨w.heap.size,4,none⟩=some (.bool false):=(bi.cell 4).trans rfl;have lk:=bi.frozen 4;have y5:X44.cell? ⟨w.heap.size,5,none⟩=some (.int .i64 0):=(bi.cell 5).trans rfl;have lj:=bi.frozen 5;have y6:X44.cell? ⟨w.heap.size,6,none⟩=some (.slice none 0 0):=(bi.cell 6).trans rfl;have li:=bi.frozen 6;have y7:X44.cell? ⟨w.heap.size,7,none⟩=some (.bool false):=(bi.cell 7).trans rfl;have lh:=bi.frozen 7;have hS:=bi.store8 (.int .i64 7) (.int .i64 (f:Int)) (.int .i64 (g:Int)) (.int .i64 0) (.bool false) (.int .i64 0) (.slice none 0 0) (.bool ov);have bS:=zAd (Below.refl (rb+1) X44) (show rb+1≤w.heap.size from au) (.int .i64 7) (.int .i64 (f:Int)) (.int .i64 (g:Int)) (.int .i64 0) (.bool false) (.int .i64 0) (.slice none 0 0) (.bool ov);have kP:=zAd (Below.refl w.heap.size X44) eX (.int .i64 7) (.int .i64 (f:Int)) (.int .i64 (g:Int)) (.int .i64 0) (.bool false) (.int .i64 0) (.slice none 0 0) (.bool ov);have hX:=FC.over bS;have gX:=zAc FI kP;go_wp2_with fail
      exact zAu rfl rfl hS Tryz.underlying32 rfl (by kernel_rfl) rfl (fm.out ⟨7,f,⟨(g:Int),0,false,0⟩,[],ov⟩ s8 HE.out _ none 0 0 (Row.none_ _ _ _) rfl hX gX)
    by_cases n3:K=3
    ·subst n3;exact absurd HW.out (by omega)
    exact absurd HW.out (by omega)
theorem zJd (S:List UInt8) (hs:S.length≤1000000) (w:World) :
  Calls Tryz.prog 145 #[.string (bA S),.string ⟨#[44]⟩] w fun e w'=>e=.returned (.tuple #[.string (bA (if S.getLast? = some 44 then S.dropLast else S)),.bool (decide (S.getLast? = some 44))])∧w'=w:=by
 refine (Tryz.strings_CutSuffix (bA S) ⟨#[44]⟩ w (by rw [zAL];omega)).mono ?_;rintro e w' ⟨rfl,rfl⟩;have h1:Lib.hasSuffix S [44]=decide (S.getLast? = some 44):=by
  unfold Lib.hasSuffix;by_cases h:S.getLast? = some 44
  ·rw [decide_eq_true h,List.isSuffixOf_iff_suffix];obtain ⟨C,rfl⟩:=List.getLast?_eq_some_iff.1 h;exact ⟨C,rfl⟩
  ·rw [decide_eq_false h]
   cases e:List.isSuffixOf [44] S with
   | false=>rfl
   | true =>
    obtain ⟨C,hC⟩:=List.isSuffixOf_iff_suffix.1 e;exact absurd (List.getLast?_eq_some_iff.2 ⟨C,hC.symm⟩) h
 have h2:Lib.trimSuffix S [44]=if S.getLast? = some 44 then S.dropLast else S:=by
  unfold Lib.trimSuffix;rw [h1];by_cases h:S.getLast? = some 44
  ·rw [if_pos h,if_pos (decide_eq_true h),List.dropLast_eq_take];rfl
  ·rw [if_neg h,if_neg (by simpa using h)]
 simp only [zDq];rw [h1,h2];exact ⟨rfl,trivial⟩
theorem zHl (s:List UInt8) (hs:s.length≤100000) (w:World) (ht:Tabs w) :
  Calls Tryz.prog 119 #[.string (bA s),.string ⟨#[32]⟩] w fun e w'=>e=.returned (.slice (some ⟨w.heap.size,0,none⟩) (zAR 32 s).length (zAR 32 s).length)∧w'=w.alloc (.cells ((zAR 32 s).map fun p=>Value.string (bA p)).toArray 9):=by
 obtain ⟨m,hm⟩:=ht.most;refine (Tryz.strings_Split (bA s) ⟨#[32]⟩ m w (by rw [zAL];omega) hm (by decide)).mono ?_;rintro e w' ⟨rfl,rfl⟩;have h1:Lib.splitB ⟨#[32]⟩ 0 (Lib.countB (bA s) ⟨#[32]⟩) (bA s)=(zAR 32 s).map bA:=zLt 32 s;have h2:Lib.countB (bA s) ⟨#[32]⟩+1=(zAR 32 s).length:=by
  rw [zEK]
  congr 1
  exact Lib.count_one 32 s
 rw [h1,h2,List.map_map];exact ⟨rfl,rfl⟩
theorem Row.els {α:Type} {w:World} {base sz:Nat} {A:Option Addr} {n c:Nat} {enc:α→List Value} {L:List α} (h:Row w base sz A n c (L.flatMap enc)) (hz:∀x,(enc x).length=sz) (h0:0 < sz) (hn:n≤17592186043904):Els sz enc w A n L:=by
 have hl:L.length=n:=by
  have:=h.len;have h2:∀M:List α,(M.flatMap enc).length=M.length*sz:=fun M=>by
   induction M with
   | nil=>simp
   | cons x M ih=>rw [List.flatMap_cons,List.length_append,ih,hz,List.length_cons,Nat.add_mul];omega
  rw [h2] at this;exact Nat.eq_of_mul_eq_mul_right h0 this
 refine ⟨hl,hn,fun hp=>?_⟩;obtain ⟨g,o,e,_,hg⟩:=h.form hp;subst e;refine ⟨g,o,rfl,hg,fun j x hx q v hv=>?_⟩;have hq:q < sz:=by rw [←hz x];exact (List.getElem?_eq_some_iff.1 hv).1
 have:=h.cell (j:=j*sz+q) (by rw [zFy enc sz hz L j q x hx hq];exact hv)
 rwa [←Nat.add_assoc] at this
theorem zRv (T:List (List UInt8)):T.map zDo=T.flatMap (fun S=>[zDo S]):=by
 induction T with
 | nil=>rfl
 | cons x T ih=>rw [List.map_cons,List.flatMap_cons,ih];rfl
theorem Row.txts {w:World} {base:Nat} {A:Option Addr} {n c:Nat} {T:List (List UInt8)} (h:Row w base 1 A n c (T.map zDo)) (hn:n≤17592186043904):Txts w A n T:=by
 rw [zRv] at h;exact h.els (fun _=>rfl) (by omega) hn
theorem zVL {w:World} {ops:Array Oper} {rest:List Oper} {o:Oper} {a:Act} {Q:Exit→Act→World→Prop} (hgd:o.guard=none) (s x:Operand)
  (ho:o.op=.call { callee:=.builtin .append,args:=#[s,x],argTypes:=#[112,112] })
  {base:Nat} {A:Option Addr} {n c:Nat} {Ss:List (List UInt8)} (hst:Row w base 1 A n c (Ss.map zDo)) (S R:List UInt8)
  (hs:a.eval s=.slice A n c) (hx:a.eval x=.slice (some ⟨w.heap.size,0,none⟩) 2 2) (N:Nat) (hN:n+2=N) (hn:N≤1000000) (hbase:base≤w.heap.size)
  (h:∀A' c' w',Row w' base 1 A' N c' ((Ss++[S,R]).map zDo)→Below base w w'→wpList Tryz.prog ops Q rest (a.put o.dst (.slice A' N c')) w') :
  wpList Tryz.prog ops Q (o :: rest) a (w.alloc (.cells #[.string (bA S),.string (bA R)] 9)):=by
 obtain ⟨i0,hi,ci,be,cH⟩:=info_parts zIF;have hbl:=(Below.refl w.heap.size w).alloc (Nat.le_refl _) (.cells #[.string (bA S),.string (bA R)] 9);have cE:=hst.below hbl
 refine zQL hgd s x 112 ho 9 i0 _ 1 16 Tryz.underlying112 hi ci be cH rfl (by decide) cE (Src.new (m:=2) (cs:=[.string (bA S),.string (bA R)]) rfl)
  (by intro u hu;simp at hu;rcases hu with rfl | rfl<;>rfl) hs hx N hN (by unfold maxLen;omega) (by omega) (by simp;omega) ?_
 intro A' c' w' h1 h2 _ _;refine h A' c' w' (by rw [List.map_append];exact h1) ?_;exact ((Below.refl _ _).alloc hbase _).trans (cE.belowOf h2 (by simp;omega))
def zCQ (w0:World) (T:List (List UInt8)) (e:Ending) (w':World):Prop :=
 ∃B m d,e=.returned (.slice B m d)∧Row w' w0.heap.size 1 B m d (T.map zDo)∧m≤1000000∧Below w0.heap.size w0 w'
theorem zNz (W:List (List UInt8)):(W.flatMap zAP).length≤2*W.length:=by
 induction W with
 | nil=>simp
 | cons x W ih =>
  have:(zAP x).length≤2:=by rcases zBd x with ⟨h,_⟩ | ⟨C,_,h⟩<;>rw [h]<;>simp
  rw [List.flatMap_cons,List.length_append,List.length_cons];omega
theorem zBu (S:List UInt8):(zAR 32 S).length≤S.length+1:=by
 rw [zEK];have:=List.count_le_length (a:=(32:UInt8)) (l:=S);omega
theorem zFG (S:List UInt8):(zBp S).length≤2*S.length+2:=by
 have:=zNz (zAR 32 S);have:=zBu S;unfold zBp;omega
set_option maxHeartbeats 3200000 in
theorem zLD (S:List UInt8) (hS:S.length≤100000) (w:World) (ht:Tabs w) :
  Calls Tryz.prog 97 #[.string (bA S)] w (zCQ w (zBp S)):=by
 have gK:=qH (zHl S hS w ht);obtain ⟨Ws,hW⟩:∃W,zAR 32 S=W:=⟨_,rfl⟩
 rw [hW] at gK;have hpl:∀p∈Ws,p.length≤100000:=fun p hp=>by rw [←hW] at hp;exact Nat.le_trans (zBt 32 S p hp) hS
 have hwl:Ws.length≤100001:=by rw [←hW];have:=zBu S;omega
 have HT:=qH (show zBp S=Ws.flatMap zAP by unfold zBp;rw [hW]);have cB:=qH hpl;rw [HT.out];obtain ⟨n,hn⟩:∃n,Ws.length=n:=⟨_,rfl⟩
 rw [hn] at gK hwl;have HN:=qH hn;clear hW hpl ht hn hS HT;go_enter Tryz.func97,Tryz.ntmps97;go_wp2_with fail
 refine gK.out.mono ?_;rintro e X ⟨rfl,hX⟩;have bh:Below w.heap.size w X:=by rw [hX];exact (Below.refl _ _).alloc (Nat.le_refl _) _
 have xR:∀(j:Nat) (p:List UInt8),Ws[j]? = some p→X.cell? ⟨w.heap.size,j,none⟩=some (.string (bA p)):=fun j p hp=>by
  rw [hX,World.cell?_alloc_at _ _ _ _ rfl];simp [hp]
 have nF:w.heap.size < X.heap.size:=by rw [hX];simp
 have zj:=qH xR;clear hX xR gK;go_wp2_with fail
 go_loopw [3,11] (fun v3 nU wv=>∃(i:Nat) (Y:World) (A':Option Addr) (m c':Nat) (T:List (List UInt8)),Y=wv∧i≤n∧nU=.int .i64 i∧v3=.slice A' m c'∧Row Y X.heap.size 1 A' m c' (T.map zDo)∧Below X.heap.size X Y∧m≤2*i∧Hid (T=(Ws.take i).flatMap zAP)) (fun _ nU _=>n-(intOf nU).toNat)
 case atStart=>exact ⟨0,_,none,0,0,[],rfl,by omega,rfl,rfl,Row.none_ _ _ _,Below.refl _ _,by omega,qH rfl⟩
 case round =>
  obtain ⟨i,Y,A',m,c',T,hY,hi,rfl,rfl,hR,hb,hm,ep⟩:=hrel;subst hY;by_cases hlt:i < n
  ·have j0:(0:Int)≤(i:Int):=by omega
   have j1:(i:Int) < (n:Int):=by omega
   obtain ⟨p,hp⟩:∃p,Ws[i]? = some p:=⟨Ws[i]'(by rw [HN.out];exact hlt),List.getElem?_eq_getElem _⟩
   have hc:Y.cell? ⟨w.heap.size,i,none⟩=some (.string (bA p)):=(hb.cell (p:=⟨w.heap.size,i,none⟩) nF).trans (zj.out i p hp);have hlen:p.length≤1000000:=Nat.le_trans (cB.out p (List.mem_of_getElem? hp)) (by omega);have fP:=qH (zJd p hlen Y);have hz:X.heap.size≤Y.heap.size:=hb.size;by_cases hq:p.getLast? = some 44
   ·rw [if_pos hq,decide_eq_true hq] at fP;obtain ⟨C,hC⟩:∃C,p.dropLast=C:=⟨_,rfl⟩
    rw [hC] at fP
    have kU:=qH (show T++[C,[44]]=(Ws.take (i+1)).flatMap zAP by
     rw [List.take_add_one,hp,List.flatMap_append,ep.out]
     simp [zAP,hq,hC])
    clear hp hlen hq hC ep;go_wp2_with fail
    refine fP.out.mono ?_;rintro e Y2 ⟨rfl,rfl⟩;go_wp2_with (at_builtin;refine zVL rfl _ _ rfl hR C [44] rfl rfl (m+2) rfl (by omega) hz ?_;intro A2 c2 w9 hR9 aS)
    have bX:=hb.trans aS;clear hR hb aS hc;go_wp2_with fail
    go_roundw
    case rel=>exact ⟨i+1,_,A2,m+2,c2,T++[C,[44]],rfl,by omega,by go_num,rfl,hR9,bX,by omega,kU⟩
    case measure=>simp [intOf];omega
   ·rw [if_neg hq,decide_eq_false hq] at fP
    have kU:=qH (show T++[p]=(Ws.take (i+1)).flatMap zAP by
     rw [List.take_add_one,hp,List.flatMap_append,ep.out]
     simp [zAP,hq])
    clear hp hlen hq ep;go_wp2_with fail
    refine fP.out.mono ?_;rintro e Y2 ⟨rfl,rfl⟩;go_wp2_with (at_builtin;refine zLl rfl _ _ rfl hR p rfl rfl (m+1) rfl (by omega) hz ?_;intro A2 c2 w9 hR9 aS)
    have bX:=hb.trans aS;clear hR hb aS hc;go_wp2_with fail
    go_roundw
    case rel=>exact ⟨i+1,_,A2,m+1,c2,T++[p],rfl,by omega,by go_num,rfl,hR9,bX,by omega,kU⟩
    case measure=>simp [intOf];omega
  ·have j1:¬(i:Int) < (n:Int):=by omega
   have hin:i=n:=by omega
   have pI:=qH (show T=Ws.flatMap zAP by rw [ep.out,hin,←HN.out,List.take_length]);have hz:w.heap.size≤X.heap.size:=bh.size;clear hin hlt ep zj;go_wp2_with fail
   go_ret;exact ⟨A',m,c',rfl,by rw [←pI.out];exact hR.mono hz,by omega,zAa bh hb bh.size⟩
end Go.Proofs.YtlmdfmnbcndhoaaGreatDoor
