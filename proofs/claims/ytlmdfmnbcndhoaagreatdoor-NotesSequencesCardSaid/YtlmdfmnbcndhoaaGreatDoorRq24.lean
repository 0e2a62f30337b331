/-
  Lemmas, part 24. Conditions: each theorem's own.
-/
import Derived.Test.YtlmdfmnbcndhoaaGreatDoorRq19
import Derived.Test.YtlmdfmnbcndhoaaGreatDoorRq17
open Go.Value renaming bool→G,int→D,slice→H,string→W
open Go.IntKind renaming i64→J
open Option renaming none→U,some→Z
open Bool renaming false→E,true→Q
namespace Go.Proofs.YtlmdfmnbcndhoaaGreatDoor
open Go.RowKit
set_option maxHeartbeats 12800000 in
set_option maxRecDepth 100000 in
theorem zMc (rb:Nat) (F:Fm) (s:RS) (w:World) (h:RX w rb F s) (hT:s.T.length≤100000) (hw:zBQ (xa s.T 0)=6∨zBQ (xa s.T 0)=7) :
  Calls Tryz.prog 98 #[.pointer (Z ⟨rb,0,U⟩)] w (zET w rb F (opR F.L s).1 (opR F.L s).2):=by
 obtain ⟨S0,eR⟩:∃S,xa s.T 0=S:=⟨_,rfl⟩
 obtain ⟨s1,e1⟩:∃x,s.next=x:=⟨_,rfl⟩
 obtain ⟨K,eK⟩:∃x,zBQ S0=x:=⟨_,rfl⟩
 obtain ⟨s2,e2⟩:∃x,s1.mark (decide (K=0))=x:=⟨_,rfl⟩
 obtain ⟨S1,jn⟩:∃S,xa s2.T 0=S:=⟨_,rfl⟩
 obtain ⟨s3,e3⟩:∃x,s2.next=x:=⟨_,rfl⟩
 obtain ⟨s4,e4⟩:∃x,s3.fing F.L S1=x:=⟨_,rfl⟩
 obtain ⟨f,efi⟩:∃x,zEy F.L S1=x:=⟨_,rfl⟩
 obtain ⟨b,eb⟩:∃b,s1.bad=b:=⟨_,rfl⟩
 have cQ:xa s.T.tail 0=S1:=by rw [←jn,←e2,←e1];rfl
 have tF:s4.T.length≤100000:=by
  rw [←e4,←e3,←e2,←e1];simp only [RS.fing,RS.next,RS.mark,List.length_tail];omega
 have HR:=qH (show opR F.L s=zBV F.L K f s4 by
  have hp:zFu F.L s=s4:=by
   unfold zFu
   rw [eR,cQ,e1,eK,e2,e3,e4]
  unfold opR
  rw [hp,eR,cQ,eK,efi])
 have hK:0≤K∧K≤8:=by
  by_cases e:K=0
  ·omega
  ·have:=zHQ (v:=S0) (by rw [eK];exact e);rw [eK] at this;omega
 have rl:=qH (fun (k:Nat) (h1:1≤k) (h8:k≤8)=>(show ((bA (zBk (k:Int))).toList==(bA S0).toList)=decide (K=(k:Int)) by
  rw [zAo,zAo,←eK];exact zGi h1 h8 S0))
 have H1:=qH (fun wx (hx:RX wx rb F s)=>zCD hx);have H2:=qH (fun wx (hx:RX wx rb F s2)=>zCD hx);have H3:=qH (fun wx (hx:RX wx rb F s3)=>zCE hx S1)
 have HM:=qH (fun wx (hx:RX wx rb F s1)=>(show wx.cell? ⟨rb,4,U⟩=Z (G b)∧wx.frozen? ⟨rb,4,U⟩=E∧∀q,q=(b||decide (K=0))→RX (wx.setCell ⟨rb,4,U⟩ (G q)) rb F s2∧wx.grownBy (wx.setCell ⟨rb,4,U⟩ (G q)) (Z rb) from
  ⟨by rw [←eb];exact hx.bad4.1,hx.bad4.2,fun q hq=>by rw [←e2];exact hx.marked (decide (K=0)) q (by rw [eb];exact hq)⟩))
 simp only [eR,e1] at H1;simp only [jn,e3] at H2;simp only [efi,e4] at H3;rw [HR.out];have HW:Hid (K=6∨K=7):=qH (by rw [←eK,←eR];exact hw);have hlt:=h.lt;have bst:=zKI
 have eM:=qH (fun (o:Og) (st:RS) (he:zBV F.L K f s4=(o,st)) (wx:World) (B:Option Addr) (m d:Nat) (hrow:Row wx w.heap.size 5 B m d (o.path.flatMap zIo)) (hm:m=o.path.length) (hx:RX wx rb F st) (hg:w.grownBy wx (Z rb)) =>
  (show zET w rb F (zBV F.L K f s4).1 (zBV F.L K f s4).2 (.returned (opV o B m d)) wx from by rw [he];exact ⟨B,m,d,rfl,hrow,hm,hx,hg⟩))
 clear eR e1 e2 jn e3 e4 efi eb eK cQ HR hT hw;have b1:Below w.heap.size w ((w.alloc (.cells #[D J 0,D J 0,D J 0,D J 0,G E,D J 0,H U 0 0,G E] 32)).alloc (.cells #[D J 0,D J 0,D J 0,D J 0,G E,D J 0,H U 0 0,G E] 32)):=((Below.refl _ _).alloc (Nat.le_refl _) _).alloc (by simp) _;have cw:Blk ((w.alloc (.cells #[D J 0,D J 0,D J 0,D J 0,G E,D J 0,H U 0 0,G E] 32)).alloc (.cells #[D J 0,D J 0,D J 0,D J 0,G E,D J 0,H U 0 0,G E] 32)) w.heap.size 32 #[D J 0,D J 0,D J 0,D J 0,G E,D J 0,H U 0 0,G E]:=(Blk.new w _ _).alloc _;have bz:Blk ((w.alloc (.cells #[D J 0,D J 0,D J 0,D J 0,G E,D J 0,H U 0 0,G E] 32)).alloc (.cells #[D J 0,D J 0,D J 0,D J 0,G E,D J 0,H U 0 0,G E] 32)) (w.heap.size+1) 32 #[D J 0,D J 0,D J 0,D J 0,G E,D J 0,H U 0 0,G E]:=by have:=Blk.new (w.alloc (.cells #[D J 0,D J 0,D J 0,D J 0,G E,D J 0,H U 0 0,G E] 32)) 32 #[D J 0,D J 0,D J 0,D J 0,G E,D J 0,H U 0 0,G E];rwa [World.size_alloc] at this
 have h1:=h.below b1;have g1:w.grownBy ((w.alloc (.cells #[D J 0,D J 0,D J 0,D J 0,G E,D J 0,H U 0 0,G E] 32)).alloc (.cells #[D J 0,D J 0,D J 0,D J 0,G E,D J 0,H U 0 0,G E] 32)) (Z rb):=zAt b1;have ak:rb < w.heap.size:=hlt;have ae:rb < w.heap.size+1:=by omega
 have dq:w.heap.size≤w.heap.size:=Nat.le_refl _;have aA:w.heap.size≤w.heap.size+1:=by omega
 clear h b1;obtain ⟨a1,bB⟩:∃a,a=w.heap.size+1:=⟨_,rfl⟩
 have iA:=qH bB;have gz:w.heap.size < a1:=by omega
 go_enter Tryz.func98,Tryz.ntmps98;go_wp2_with fail
 generalize ((w.alloc (.cells #[D J 0,D J 0,D J 0,D J 0,G E,D J 0,H U 0 0,G E] 32)).alloc (.cells #[D J 0,D J 0,D J 0,D J 0,G E,D J 0,H U 0 0,G E] 32))=X1 at cw bz h1 g1 ⊢;rw [←bB] at bz ae aA ⊢;clear bB;refine (H1.out X1 h1).mono ?_;rintro e wJ ⟨rfl,mW,fV⟩;have cK:=cw.grownO fV ak;have cJ:=bz.grownO fV ae;have m8:=zAb g1 fV;clear h1 g1 cw bz fV H1;go_wp2_with fail
 go_loopw [5] (fun v wv=>∃(k:Nat) (X:World),X=wv∧1≤k∧k≤9∧v=D J k∧Hid (RX X rb F s1∧Blk X w.heap.size 32 #[D J 0,D J 0,D J 0,D J 0,G E,D J 0,H U 0 0,G E]∧Blk X a1 32 #[D J (kTo K k),D J 0,D J 0,D J 0,G E,D J 0,H U 0 0,G E]∧w.grownBy X (Z rb))) (fun v _=>9-(intOf v).toNat)
 case atStart=>exact ⟨1,_,rfl,by omega,by omega,rfl,qH (by rw [show kTo K 1=0 from by unfold kTo;split<;>omega];exact ⟨mW,cK,cJ,m8⟩)⟩
 case round =>
  clear mW m8 cK cJ;obtain ⟨k,X,hX,ag,eV,rfl,HX⟩:=hrel;subst hX;by_cases hk:k≤8
  ·have i1:(k:Int)≤8:=by omega
   have n0:=rl.out k ag hk;by_cases hq:K=(k:Int)
   ·obtain ⟨qV,cI,aV,rc⟩:=HX.out;rw [decide_eq_true hq] at n0;have C6:=aV.frozen 0;have EN:X.cell? ⟨a1,0,U⟩=Z (D J (kTo K k)):=(aV.cell 0).trans rfl;have cG:Blk (X.setCell ⟨a1,0,U⟩ (D J (k:Int))) a1 32 #[D J (k:Int),D J 0,D J 0,D J 0,G E,D J 0,H U 0 0,G E]:=aV.set_ 0 _;have pm:Below (rb+1) X (X.setCell ⟨a1,0,U⟩ (D J (k:Int))):=(Below.refl _ _).setCell (p:=⟨a1,0,U⟩) ae _;have pY:Below w.heap.size X (X.setCell ⟨a1,0,U⟩ (D J (k:Int))):=(Below.refl _ _).setCell (p:=⟨a1,0,U⟩) aA _;have cH:=cI.far (p:=⟨a1,0,U⟩) (by simp only;omega) (D J (k:Int));have qU:=qV.over pm;have qZ:=zAd rc pY;clear qV rc cI aV pm pY;have HF:=qH (show kTo K (k+1)=(k:Int) by unfold kTo;rw [if_pos (by omega)];exact hq);have HZ:=qH (show RX (X.setCell ⟨a1,0,U⟩ (D J (k:Int))) rb F s1∧Blk (X.setCell ⟨a1,0,U⟩ (D J (k:Int))) w.heap.size 32 #[D J 0,D J 0,D J 0,D J 0,G E,D J 0,H U 0 0,G E]∧Blk (X.setCell ⟨a1,0,U⟩ (D J (k:Int))) a1 32 #[D J (k:Int),D J 0,D J 0,D J 0,G E,D J 0,H U 0 0,G E]∧w.grownBy (X.setCell ⟨a1,0,U⟩ (D J (k:Int))) (Z rb) from ⟨qU,cH,cG,qZ⟩);clear HX hq qU qZ cH cG;go_wp2_with (first | (go_at_call 106;refine (zCc (k:Int) (by omega) (by omega) _).mono ?_;rintro e wq ⟨rfl,rfl⟩))
    go_roundw
    case rel=>exact ⟨k+1,_,rfl,by omega,by omega,by go_num,qH (by rw [HF.out];exact HZ.out)⟩
    case measure=>simp [intOf];omega
   ·rw [decide_eq_false hq] at n0;have HF:=qH (show kTo K (k+1)=kTo K k by unfold kTo;split<;>split<;>omega);clear hq;go_wp2_with (first | (go_at_call 106;refine (zCc (k:Int) (by omega) (by omega) _).mono ?_;rintro e wq ⟨rfl,rfl⟩))
    go_roundw
    case rel=>exact ⟨k+1,_,rfl,by omega,by omega,by go_num,qH (by rw [HF.out];exact HX.out)⟩
    case measure=>simp [intOf];omega
  ·have i1:¬(k:Int)≤8:=by omega
   obtain ⟨qT,cF,aU,qY⟩:=HX.out;rw [show kTo K k=K from by unfold kTo;rw [if_pos (by omega)]] at aU;obtain ⟨c4,z4,hm⟩:=HM.out X qT;have HZ:=qH (fun (q:Bool) hq=>(show RX (X.setCell ⟨rb,4,U⟩ (G q)) rb F s2∧Blk (X.setCell ⟨rb,4,U⟩ (G q)) w.heap.size 32 #[D J 0,D J 0,D J 0,D J 0,G E,D J 0,H U 0 0,G E]∧Blk (X.setCell ⟨rb,4,U⟩ (G q)) a1 32 #[D J K,D J 0,D J 0,D J 0,G E,D J 0,H U 0 0,G E]∧w.grownBy (X.setCell ⟨rb,4,U⟩ (G q)) (Z rb) from ⟨(hm q hq).1,cF.grownO (hm q hq).2 ak,aU.grownO (hm q hq).2 ae,zAb qY (hm q hq).2⟩));have f0:X.cell? ⟨a1,0,U⟩=Z (D J K):=(aU.cell 0).trans rfl;clear hm HM HX rl qT qY cF aU;obtain ⟨q0,mE⟩:∃q,decide (K=0)=q:=⟨_,rfl⟩
   have i2:(K==0)=q0:=by rw [←mE];by_cases e:K=0<;>simp [e]
   rw [mE] at HZ;clear mE;go_upto_region 8 with fail
   go_cut [29] (fun _ wv=>∃X:World,X=wv∧RX X rb F s2∧Blk X w.heap.size 32 #[D J 0,D J 0,D J 0,D J 0,G E,D J 0,H U 0 0,G E]∧Blk X a1 32 #[D J K,D J 0,D J 0,D J 0,G E,D J 0,H U 0 0,G E]∧w.grownBy X (Z rb))
   case first =>
    cases b<;>cases q0
    all_goals
     go_wp2_with fail
     go_meet
     case rel=>exact ⟨_,rfl,HZ.out _ rfl⟩
   case rest =>
    clear c4 z4 HZ f0 i2;obtain ⟨X,hX,qS,cE,cD,qX⟩:=hcut;subst hX;go_wp2_with fail
    refine (H2.out X qS).mono ?_;rintro e wI ⟨rfl,qR,gp⟩;have cB:=cE.grownO gp ak;have cA:=cD.grownO gp ae;have qW:=zAb qX gp;clear qS qX cE cD gp H2;go_wp2_with fail
    refine (H3.out wI qR).mono ?_;rintro e eI ⟨rfl,qQ,fU⟩;have cz:=cB.grownO fU ak;have aT:=cA.grownO fU ae;have g17:=zAb qW fU;clear qR qW cB cA fU H3;have ur:=aT.frozen 1;have wG:eI.cell? ⟨a1,1,U⟩=Z (D J 0):=(aT.cell 1).trans rfl;have bs:Blk (eI.setCell ⟨a1,1,U⟩ (D J (f:Int))) a1 32 #[D J K,D J (f:Int),D J 0,D J 0,G E,D J 0,H U 0 0,G E]:=aT.set_ 1 _;have nK:Below (rb+1) eI (eI.setCell ⟨a1,1,U⟩ (D J (f:Int))):=(Below.refl _ _).setCell (p:=⟨a1,1,U⟩) ae _;have pX:Below w.heap.size eI (eI.setCell ⟨a1,1,U⟩ (D J (f:Int))):=(Below.refl _ _).setCell (p:=⟨a1,1,U⟩) aA _;have bt:=cz.far (p:=⟨a1,1,U⟩) (by simp only;omega) (D J (f:Int));have mV:=qQ.over nK;have g18:=zAd g17 pX;clear qQ g17 cz aT nK pX;go_upto_region 10 with fail
    clear ur wG;generalize eI.setCell ⟨a1,1,U⟩ (D J (f:Int))=X9 at mV g18 bt bs ⊢;have HA:=qH (show RX X9 rb F s4∧Blk X9 w.heap.size 32 #[D J 0,D J 0,D J 0,D J 0,G E,D J 0,H U 0 0,G E]∧Blk X9 a1 32 #[D J K,D J (f:Int),D J 0,D J 0,G E,D J 0,H U 0 0,G E]∧w.grownBy X9 (Z rb) from ⟨mV,bt,bs,g18⟩);clear mV g18 bt bs;by_cases n4:K=4
    ·subst n4;exact absurd HW.out (by omega)
    by_cases n5:K=5
    ·subst n5;exact absurd HW.out (by omega)
    by_cases n6:K=6
    ·subst n6;obtain ⟨jk,br,aS,mY⟩:=HA.out;clear HA;have f0:X9.cell? ⟨a1,0,U⟩=Z (D J 6):=(aS.cell 0).trans rfl;obtain ⟨s5,e5⟩:∃x,s4.must zAT=x:=⟨_,rfl⟩
     obtain ⟨S2,sK⟩:∃x,xa s5.T 0=x:=⟨_,rfl⟩
     obtain ⟨s6,e6⟩:∃x,s5.next=x:=⟨_,rfl⟩
     obtain ⟨g,eg⟩:∃x,zEy F.L S2=x:=⟨_,rfl⟩
     obtain ⟨s7,e7⟩:∃x,s6.fing F.L S2=x:=⟨_,rfl⟩
     obtain ⟨ov,eov⟩:∃x,ovT (xa s7.T 0)=x:=⟨_,rfl⟩
     obtain ⟨s8,e8⟩:∃x,s7.over=x:=⟨_,rfl⟩
     have hov:ovT (xa s5.T.tail 0)=ov:=by rw [←eov,←e7,←e6];rfl
     have ig:=qH (fun wx (hx:RX wx rb F s5)=>zCD hx);simp only [sK,e6] at ig;have fA:=qH (fun wx (hx:RX wx rb F s6)=>zCE hx S2);simp only [eg,e7] at fA;have bf:=qH (fun wx (hx:RX wx rb F s7)=>zHS hx);simp only [eov,e8] at bf;have HE:=qH (show zBV F.L 6 f s4=(⟨6,f,⟨g,0,E,0⟩,[],ov⟩,s8) by unfold zBV;rw [if_neg (by omega),if_neg (by omega),if_neg (by omega),if_pos rfl,e5,sK,e6,eg,e7,e8,hov]);have E5:=qH e5;clear eov e5 sK eg e6 e7 e8 hov;go_upto_region 30 with fail
     go_cut [116] (fun _ wv=>∃X:World,X=wv∧RX X rb F s5∧Blk X w.heap.size 32 #[D J 0,D J 0,D J 0,D J 0,G E,D J 0,H U 0 0,G E]∧Blk X a1 32 #[D J 6,D J (f:Int),D J 0,D J 0,G E,D J 0,H U 0 0,G E]∧w.grownBy X (Z rb))
     case first =>
      cases hb:s4.bad with
      | true =>
       have c4:X9.cell? ⟨rb,4,U⟩=Z (G Q):=by rw [←hb];exact jk.bad4.1
       have z4:=jk.bad4.2;have hm:=jk.marked E Q (by rw [hb];rfl);have HZ:=qH (show RX (X9.setCell ⟨rb,4,U⟩ (G Q)) rb F s5∧Blk (X9.setCell ⟨rb,4,U⟩ (G Q)) w.heap.size 32 #[D J 0,D J 0,D J 0,D J 0,G E,D J 0,H U 0 0,G E]∧Blk (X9.setCell ⟨rb,4,U⟩ (G Q)) a1 32 #[D J 6,D J (f:Int),D J 0,D J 0,G E,D J 0,H U 0 0,G E]∧w.grownBy (X9.setCell ⟨rb,4,U⟩ (G Q)) (Z rb) from ⟨by rw [←E5.out,zFy zAT hb];exact hm.1,br.grownO hm.2 ak,aS.grownO hm.2 ae,zAb mY hm.2⟩);clear hm hb jk mY br aS;go_wp2_with fail
       go_meet
       case rel=>exact ⟨_,rfl,HZ.out⟩
      | false =>
       obtain ⟨ib,eib⟩:∃b,isB s4.T zAT=b:=⟨_,rfl⟩
       have c4:X9.cell? ⟨rb,4,U⟩=Z (G E):=by rw [←hb];exact jk.bad4.1
       have z4:=jk.bad4.2;have HI:=qH (zOc jk zAT);rw [eib] at HI;have HE:=qH (show (s4.is zAT).mark (!ib)=s5 by rw [←E5.out,zEs zAT hb,eib]);have HB:=qH hb;clear eib hb;go_wp2_with fail
       refine HI.out.mono ?_;rintro e Y ⟨rfl,hy,qy⟩;have kw:=br.grownO qy ak;have ku:=aS.grownO qy ae;have wl:=zAb mY qy;have c5:Y.cell? ⟨rb,4,U⟩=Z (G E):=by rw [←HB.out];exact hy.bad4.1
       have z5:=hy.bad4.2;have hm:=fun q (hq:q = !ib)=>hy.marked (!ib) q (by rw [show (s4.is zAT).bad=E from HB.out];exact hq)
       have HZ:=qH (fun (q:Bool) (hq:q = !ib)=>(show RX (Y.setCell ⟨rb,4,U⟩ (G q)) rb F s5∧Blk (Y.setCell ⟨rb,4,U⟩ (G q)) w.heap.size 32 #[D J 0,D J 0,D J 0,D J 0,G E,D J 0,H U 0 0,G E]∧Blk (Y.setCell ⟨rb,4,U⟩ (G q)) a1 32 #[D J 6,D J (f:Int),D J 0,D J 0,G E,D J 0,H U 0 0,G E]∧w.grownBy (Y.setCell ⟨rb,4,U⟩ (G q)) (Z rb) from ⟨by rw [←HE.out];exact (hm q hq).1,kw.grownO (hm q hq).2 ak,ku.grownO (hm q hq).2 ae,zAb wl (hm q hq).2⟩));clear hm qy HI HE HB c4 z4 hy wl kw ku jk mY br aS
       cases ib
       all_goals
        go_wp2_with fail
        go_meet
        case rel=>exact ⟨_,rfl,HZ.out _ rfl⟩
     case rest =>
      clear jk mY br aS;obtain ⟨fy,hX,dn,my,mx,dr⟩:=hcut;subst hX;clear f0 E5;go_wp2_with fail
      refine (ig.out fy dn).mono ?_;rintro e kU ⟨rfl,jj,nJ⟩;have cu:=my.grownO nJ ak;have bJ:=mx.grownO nJ ae;have mX:=zAb dr nJ;clear dn dr my mx nJ ig;go_wp2_with fail
      refine (fA.out kU jj).mono ?_;rintro e fZ ⟨rfl,kJ,eU⟩;have eq:=cu.grownO eU ak;have cW:=bJ.grownO eU ae;have kM:=zAb mX eU;clear jj mX cu bJ eU fA;have yJ:=cW.frozen 2;have BI:fZ.cell? ⟨a1,2,U⟩=Z (D J 0):=(cW.cell 2).trans rfl;have cq:Blk (fZ.setCell ⟨a1,2,U⟩ (D J (g:Int))) a1 32 #[D J 6,D J (f:Int),D J (g:Int),D J 0,G E,D J 0,H U 0 0,G E]:=cW.set_ 2 _;have ij:Below (rb+1) fZ (fZ.setCell ⟨a1,2,U⟩ (D J (g:Int))):=(Below.refl _ _).setCell (p:=⟨a1,2,U⟩) ae _;have uC:Below w.heap.size fZ (fZ.setCell ⟨a1,2,U⟩ (D J (g:Int))):=(Below.refl _ _).setCell (p:=⟨a1,2,U⟩) aA _;have ct:=eq.far (p:=⟨a1,2,U⟩) (by simp only;omega) (D J (g:Int));have fR:=kJ.over ij;have gY:=zAd kM uC;clear kJ kM eq cW ij uC;go_wp2_with fail
      clear yJ BI;generalize fZ.setCell ⟨a1,2,U⟩ (D J (g:Int))=nE at fR gY ct cq ⊢;refine (bf.out nE fR).mono ?_;rintro e oF ⟨rfl,fw,nt⟩;have ep:=ct.grownO nt ak;have cV:=cq.grownO nt ae;have fY:=zAb gY nt;clear fR gY ct cq nt bf;have CO:=cV.frozen 7;have Er:oF.cell? ⟨a1,7,U⟩=Z (G E):=(cV.cell 7).trans rfl;have aw:Blk (oF.setCell ⟨a1,7,U⟩ (G ov)) a1 32 #[D J 6,D J (f:Int),D J (g:Int),D J 0,G E,D J 0,H U 0 0,G ov]:=cV.set_ 7 _;have gn:Below (rb+1) oF (oF.setCell ⟨a1,7,U⟩ (G ov)):=(Below.refl _ _).setCell (p:=⟨a1,7,U⟩) ae _;have uA:Below w.heap.size oF (oF.setCell ⟨a1,7,U⟩ (G ov)):=(Below.refl _ _).setCell (p:=⟨a1,7,U⟩) aA _;have al:=ep.far (p:=⟨a1,7,U⟩) (by simp only;omega) (G ov);have ir:=fw.over gn;have it:=zAd fY uA;clear fw fY ep cV gn uA;go_upto_region 33 with fail
      clear CO Er;generalize oF.setCell ⟨a1,7,U⟩ (G ov)=X31 at ir it al aw ⊢;obtain ⟨f0,f1,f2,f3,f4,f5,f6,f7⟩:=cQ8 aw;have y0:X31.cell? ⟨w.heap.size,0,U⟩=Z (D J 0):=(al.cell 0).trans rfl;have iC:=al.frozen 0;have y1:X31.cell? ⟨w.heap.size,1,U⟩=Z (D J 0):=(al.cell 1).trans rfl;have iB:=al.frozen 1;have y2:X31.cell? ⟨w.heap.size,2,U⟩=Z (D J 0):=(al.cell 2).trans rfl;have jF:=al.frozen 2;have y3:X31.cell? ⟨w.heap.size,3,U⟩=Z (D J 0):=(al.cell 3).trans rfl;have jE:=al.frozen 3;have y4:X31.cell? ⟨w.heap.size,4,U⟩=Z (G E):=(al.cell 4).trans rfl;have jD:=al.frozen 4;have y5:X31.cell? ⟨w.heap.size,5,U⟩=Z (D J 0):=(al.cell 5).trans rfl;have jC:=al.frozen 5;have y6:X31.cell? ⟨w.heap.size,6,U⟩=Z (H U 0 0):=(al.cell 6).trans rfl;have jB:=al.frozen 6;have y7:X31.cell? ⟨w.heap.size,7,U⟩=Z (G E):=(al.cell 7).trans rfl;have jA:=al.frozen 7;have hS:=al.store8 (D J 6) (D J (f:Int)) (D J (g:Int)) (D J 0) (G E) (D J 0) (H U 0 0) (G ov);have bS:=zAg (Below.refl (rb+1) X31) (show rb+1≤w.heap.size from ak) (D J 6) (D J (f:Int)) (D J (g:Int)) (D J 0) (G E) (D J 0) (H U 0 0) (G ov);have jp:=zAg (Below.refl w.heap.size X31) dq (D J 6) (D J (f:Int)) (D J (g:Int)) (D J 0) (G E) (D J 0) (H U 0 0) (G ov);have hX:=ir.over bS;have gX:=zAd it jp;go_wp2_with fail
      exact zAH rfl rfl hS Tryz.underlying32 rfl (by kernel_rfl) rfl (eM.out ⟨6,f,⟨(g:Int),0,E,0⟩,[],ov⟩ s8 HE.out _ U 0 0 (Row.none_ _ _ _) rfl hX gX)
    by_cases n7:K=7
    ·subst n7;obtain ⟨eH,aN,aH,jm⟩:=HA.out;clear HA;have f0:X9.cell? ⟨a1,0,U⟩=Z (D J 7):=(aH.cell 0).trans rfl;obtain ⟨s5,e5⟩:∃x,s4.must zER=x:=⟨_,rfl⟩
     obtain ⟨S2,sK⟩:∃x,xa s5.T 0=x:=⟨_,rfl⟩
     obtain ⟨s6,e6⟩:∃x,s5.next=x:=⟨_,rfl⟩
     obtain ⟨g,eg⟩:∃x,zEy F.L S2=x:=⟨_,rfl⟩
     obtain ⟨s7,e7⟩:∃x,s6.fing F.L S2=x:=⟨_,rfl⟩
     obtain ⟨ov,eov⟩:∃x,ovT (xa s7.T 0)=x:=⟨_,rfl⟩
     obtain ⟨s8,e8⟩:∃x,s7.over=x:=⟨_,rfl⟩
     have hov:ovT (xa s5.T.tail 0)=ov:=by rw [←eov,←e7,←e6];rfl
     have ig:=qH (fun wx (hx:RX wx rb F s5)=>zCD hx);simp only [sK,e6] at ig;have fA:=qH (fun wx (hx:RX wx rb F s6)=>zCE hx S2);simp only [eg,e7] at fA;have bf:=qH (fun wx (hx:RX wx rb F s7)=>zHS hx);simp only [eov,e8] at bf;have HE:=qH (show zBV F.L 7 f s4=(⟨7,f,⟨g,0,E,0⟩,[],ov⟩,s8) by unfold zBV;rw [if_neg (by omega),if_neg (by omega),if_neg (by omega),if_neg (by omega),if_pos rfl,e5,sK,e6,eg,e7,e8,hov]);have E5:=qH e5;clear eov e5 sK eg e6 e7 e8 hov;go_upto_region 30 with fail
     go_cut [116] (fun _ wv=>∃X:World,X=wv∧RX X rb F s5∧Blk X w.heap.size 32 #[D J 0,D J 0,D J 0,D J 0,G E,D J 0,H U 0 0,G E]∧Blk X a1 32 #[D J 7,D J (f:Int),D J 0,D J 0,G E,D J 0,H U 0 0,G E]∧w.grownBy X (Z rb))
     case first =>
      cases hb:s4.bad with
      | true =>
       have c4:X9.cell? ⟨rb,4,U⟩=Z (G Q):=by rw [←hb];exact eH.bad4.1
       have z4:=eH.bad4.2;have hm:=eH.marked E Q (by rw [hb];rfl);have HZ:=qH (show RX (X9.setCell ⟨rb,4,U⟩ (G Q)) rb F s5∧Blk (X9.setCell ⟨rb,4,U⟩ (G Q)) w.heap.size 32 #[D J 0,D J 0,D J 0,D J 0,G E,D J 0,H U 0 0,G E]∧Blk (X9.setCell ⟨rb,4,U⟩ (G Q)) a1 32 #[D J 7,D J (f:Int),D J 0,D J 0,G E,D J 0,H U 0 0,G E]∧w.grownBy (X9.setCell ⟨rb,4,U⟩ (G Q)) (Z rb) from ⟨by rw [←E5.out,zFy zER hb];exact hm.1,aN.grownO hm.2 ak,aH.grownO hm.2 ae,zAb jm hm.2⟩);clear hm hb eH jm aN aH;go_wp2_with fail
       go_meet
       case rel=>exact ⟨_,rfl,HZ.out⟩
      | false =>
       obtain ⟨ib,eib⟩:∃b,isB s4.T zER=b:=⟨_,rfl⟩
       have c4:X9.cell? ⟨rb,4,U⟩=Z (G E):=by rw [←hb];exact eH.bad4.1
       have z4:=eH.bad4.2;have HI:=qH (zOc eH zER);rw [eib] at HI;have HE:=qH (show (s4.is zER).mark (!ib)=s5 by rw [←E5.out,zEs zER hb,eib]);have HB:=qH hb;clear eib hb;go_wp2_with fail
       refine HI.out.mono ?_;rintro e Y ⟨rfl,hy,qy⟩;have kn:=aN.grownO qy ak;have km:=aH.grownO qy ae;have wh:=zAb jm qy;have c5:Y.cell? ⟨rb,4,U⟩=Z (G E):=by rw [←HB.out];exact hy.bad4.1
       have z5:=hy.bad4.2;have hm:=fun q (hq:q = !ib)=>hy.marked (!ib) q (by rw [show (s4.is zER).bad=E from HB.out];exact hq)
       have HZ:=qH (fun (q:Bool) (hq:q = !ib)=>(show RX (Y.setCell ⟨rb,4,U⟩ (G q)) rb F s5∧Blk (Y.setCell ⟨rb,4,U⟩ (G q)) w.heap.size 32 #[D J 0,D J 0,D J 0,D J 0,G E,D J 0,H U 0 0,G E]∧Blk (Y.setCell ⟨rb,4,U⟩ (G q)) a1 32 #[D J 7,D J (f:Int),D J 0,D J 0,G E,D J 0,H U 0 0,G E]∧w.grownBy (Y.setCell ⟨rb,4,U⟩ (G q)) (Z rb) from ⟨by rw [←HE.out];exact (hm q hq).1,kn.grownO (hm q hq).2 ak,km.grownO (hm q hq).2 ae,zAb wh (hm q hq).2⟩));clear hm qy HI HE HB c4 z4 hy wh kn km eH jm aN aH
       cases ib
       all_goals
        go_wp2_with fail
        go_meet
        case rel=>exact ⟨_,rfl,HZ.out _ rfl⟩
     case rest =>
      clear eH jm aN aH;obtain ⟨X36,hX,ye,ay,ei,yg⟩:=hcut;subst hX;clear f0 E5;go_wp2_with fail
      refine (ig.out X36 ye).mono ?_;rintro e X38 ⟨rfl,qP,xm⟩;have au:=ay.grownO xm ak;have dB:=ei.grownO xm ae;have tM:=zAb yg xm;clear ye yg ay ei xm ig;go_wp2_with fail
      refine (fA.out X38 qP).mono ?_;rintro e sO ⟨rfl,Ec,xk⟩;have mt:=au.grownO xk ak;have fG:=dB.grownO xk ae;have Ei:=zAb tM xk;clear qP tM au dB xk fA;have z40:=fG.frozen 2;have d40:sO.cell? ⟨a1,2,U⟩=Z (D J 0):=(fG.cell 2).trans rfl;have iS:Blk (sO.setCell ⟨a1,2,U⟩ (D J (g:Int))) a1 32 #[D J 7,D J (f:Int),D J (g:Int),D J 0,G E,D J 0,H U 0 0,G E]:=fG.set_ 2 _;have Dd:Below (rb+1) sO (sO.setCell ⟨a1,2,U⟩ (D J (g:Int))):=(Below.refl _ _).setCell (p:=⟨a1,2,U⟩) ae _;have Dh:Below w.heap.size sO (sO.setCell ⟨a1,2,U⟩ (D J (g:Int))):=(Below.refl _ _).setCell (p:=⟨a1,2,U⟩) aA _;have iT:=mt.far (p:=⟨a1,2,U⟩) (by simp only;omega) (D J (g:Int));have A8:=Ec.over Dd;have Be:=zAd Ei Dh;clear Ec Ei mt fG Dd Dh;go_wp2_with fail
      clear z40 d40;generalize sO.setCell ⟨a1,2,U⟩ (D J (g:Int))=X41 at A8 Be iT iS ⊢;refine (bf.out X41 A8).mono ?_;rintro e sN ⟨rfl,Eb,xj⟩;have mr:=iT.grownO xj ak;have fF:=iS.grownO xj ae;have Eh:=zAb Be xj;clear A8 Be iT iS xj bf;have z43:=fF.frozen 7;have d43:sN.cell? ⟨a1,7,U⟩=Z (G E):=(fF.cell 7).trans rfl;have mq:Blk (sN.setCell ⟨a1,7,U⟩ (G ov)) a1 32 #[D J 7,D J (f:Int),D J (g:Int),D J 0,G E,D J 0,H U 0 0,G ov]:=fF.set_ 7 _;have Dc:Below (rb+1) sN (sN.setCell ⟨a1,7,U⟩ (G ov)):=(Below.refl _ _).setCell (p:=⟨a1,7,U⟩) ae _;have Dg:Below w.heap.size sN (sN.setCell ⟨a1,7,U⟩ (G ov)):=(Below.refl _ _).setCell (p:=⟨a1,7,U⟩) aA _;have aF:=mr.far (p:=⟨a1,7,U⟩) (by simp only;omega) (G ov);have Ea:=Eb.over Dc;have Eg:=zAd Eh Dg;clear Eb Eh mr fF Dc Dg;go_upto_region 33 with fail
      clear z43 d43;generalize sN.setCell ⟨a1,7,U⟩ (G ov)=X44 at Ea Eg aF mq ⊢;obtain ⟨f0,f1,f2,f3,f4,f5,f6,f7⟩:=cQ8 mq;have y0:X44.cell? ⟨w.heap.size,0,U⟩=Z (D J 0):=(aF.cell 0).trans rfl;have iC:=aF.frozen 0;have y1:X44.cell? ⟨w.heap.size,1,U⟩=Z (D J 0):=(aF.cell 1).trans rfl;have iB:=aF.frozen 1;have y2:X44.cell? ⟨w.heap.size,2,U⟩=Z (D J 0):=(aF.cell 2).trans rfl;have jF:=aF.frozen 2;have y3:X44.cell? ⟨w.heap.size,3,U⟩=Z (D J 0):=(aF.cell 3).trans rfl;have jE:=aF.frozen 3;have y4:X44.cell? ⟨w.heap.size,4,U⟩=Z (G E):=(aF.cell 4).trans rfl;have jD:=aF.frozen 4;have y5:X44.cell? ⟨w.heap.size,5,U⟩=Z (D J 0):=(aF.cell 5).trans rfl;have jC:=aF.frozen 5;have y6:X44.cell? ⟨w.heap.size,6,U⟩=Z (H U 0 0):=(aF.cell 6).trans rfl;have jB:=aF.frozen 6;have y7:X44.cell? ⟨w.heap.size,7,U⟩=Z (G E):=(aF.cell 7).trans rfl;have jA:=aF.frozen 7;have hS:=aF.store8 (D J 7) (D J (f:Int)) (D J (g:Int)) (D J 0) (G E) (D J 0) (H U 0 0) (G ov);have bS:=zAg (Below.refl (rb+1) X44) (show rb+1≤w.heap.size from ak) (D J 7) (D J (f:Int)) (D J (g:Int)) (D J 0) (G E) (D J 0) (H U 0 0) (G ov);have jp:=zAg (Below.refl w.heap.size X44) dq (D J 7) (D J (f:Int)) (D J (g:Int)) (D J 0) (G E) (D J 0) (H U 0 0) (G ov);have hX:=Ea.over bS;have gX:=zAd Eg jp;go_wp2_with fail
      exact zAH rfl rfl hS Tryz.underlying32 rfl (by kernel_rfl) rfl (eM.out ⟨7,f,⟨(g:Int),0,E,0⟩,[],ov⟩ s8 HE.out _ U 0 0 (Row.none_ _ _ _) rfl hX gX)
    by_cases n3:K=3
    ·subst n3;exact absurd HW.out (by omega)
    exact absurd HW.out (by omega)
theorem zJI (S:List UInt8) (hs:S.length≤1000000) (w:World) :
  Calls Tryz.prog 145 #[W (bA S),W ⟨#[44]⟩] w fun e w'=>e=.returned (.tuple #[W (bA (if S.getLast? = Z 44 then S.dropLast else S)),G (decide (S.getLast? = Z 44))])∧w'=w:=by
 refine (Tryz.strings_CutSuffix (bA S) ⟨#[44]⟩ w (by rw [zAZ];omega)).mono ?_;rintro e w' ⟨rfl,rfl⟩;have h1:Lib.hasSuffix S [44]=decide (S.getLast? = Z 44):=by
  unfold Lib.hasSuffix;by_cases h:S.getLast? = Z 44
  ·rw [decide_eq_true h,List.isSuffixOf_iff_suffix];obtain ⟨C,rfl⟩:=List.getLast?_eq_some_iff.1 h;exact ⟨C,rfl⟩
  ·rw [decide_eq_false h]
   cases e:List.isSuffixOf [44] S with
   | false=>rfl
   | true =>
    obtain ⟨C,hC⟩:=List.isSuffixOf_iff_suffix.1 e;exact absurd (List.getLast?_eq_some_iff.2 ⟨C,hC.symm⟩) h
 have h2:Lib.trimSuffix S [44]=if S.getLast? = Z 44 then S.dropLast else S:=by
  unfold Lib.trimSuffix;rw [h1];by_cases h:S.getLast? = Z 44
  ·rw [if_pos h,if_pos (decide_eq_true h),List.dropLast_eq_take];rfl
  ·rw [if_neg h,if_neg (by simpa using h)]
 simp only [zDO];rw [h1,h2];exact ⟨rfl,trivial⟩
theorem zHW (s:List UInt8) (hs:s.length≤100000) (w:World) (ht:Tabs w) :
  Calls Tryz.prog 119 #[W (bA s),W ⟨#[32]⟩] w fun e w'=>e=.returned (.slice (Z ⟨w.heap.size,0,U⟩) (zBx 32 s).length (zBx 32 s).length)∧w'=w.alloc (.cells ((zBx 32 s).map fun p=>Value.string (bA p)).toArray 9):=by
 obtain ⟨m,hm⟩:=ht.most;refine (Tryz.strings_Split (bA s) ⟨#[32]⟩ m w (by rw [zAZ];omega) hm (by decide)).mono ?_;rintro e w' ⟨rfl,rfl⟩;have h1:Lib.splitB ⟨#[32]⟩ 0 (Lib.countB (bA s) ⟨#[32]⟩) (bA s)=(zBx 32 s).map bA:=zLS 32 s;have h2:Lib.countB (bA s) ⟨#[32]⟩+1=(zBx 32 s).length:=by
  rw [zHb]
  congr 1
  exact Lib.count_one 32 s
 rw [h1,h2,List.map_map];exact ⟨rfl,rfl⟩
theorem Row.els {α:Type} {w:World} {base sz:Nat} {A:Option Addr} {n c:Nat} {enc:α→List Value} {L:List α} (h:Row w base sz A n c (L.flatMap enc)) (hz:∀x,(enc x).length=sz) (h0:0 < sz) (hn:n≤17592186043904):Els sz enc w A n L:=by
 have hl:L.length=n:=by
  have:=h.len;have h2:∀M:List α,(M.flatMap enc).length=M.length*sz:=fun M=>by
   induction M with
   | nil=>simp
   | cons x M ih=>rw [List.flatMap_cons,List.length_append,ih,hz,List.length_cons,Nat.add_mul];omega
  rw [h2] at this;exact Nat.eq_of_mul_eq_mul_right h0 this
 refine ⟨hl,hn,fun hp=>?_⟩;obtain ⟨g,o,e,_,hg⟩:=h.form hp;subst e;refine ⟨g,o,rfl,hg,fun j x hx q v hv=>?_⟩;have hq:q < sz:=by rw [←hz x];exact (List.getElem?_eq_some_iff.1 hv).1
 have:=h.cell (j:=j*sz+q) (by rw [zEP enc sz hz L j q x hx hq];exact hv)
 rwa [←Nat.add_assoc] at this
theorem zSa (T:List (List UInt8)):T.map zLN=T.flatMap (fun S=>[zLN S]):=by
 induction T with
 | nil=>rfl
 | cons x T ih=>rw [List.map_cons,List.flatMap_cons,ih];rfl
theorem Row.txts {w:World} {base:Nat} {A:Option Addr} {n c:Nat} {T:List (List UInt8)} (h:Row w base 1 A n c (T.map zLN)) (hn:n≤17592186043904):Txts w A n T:=by
 rw [zSa] at h;exact h.els (fun _=>rfl) (by omega) hn
theorem zWn {w:World} {ops:Array Oper} {rest:List Oper} {o:Oper} {a:Act} {ZS:Exit→Act→World→Prop} (hgd:o.guard=U) (s x:Operand)
  (ho:o.op=.call { callee:=.builtin .append,args:=#[s,x],argTypes:=#[112,112] })
  {base:Nat} {A:Option Addr} {n c:Nat} {Ss:List (List UInt8)} (hst:Row w base 1 A n c (Ss.map zLN)) (S R:List UInt8)
  (hs:a.eval s=H A n c) (hx:a.eval x=H (Z ⟨w.heap.size,0,U⟩) 2 2) (N:Nat) (hN:n+2=N) (hn:N≤1000000) (hbase:base≤w.heap.size)
  (h:∀A' c' w',Row w' base 1 A' N c' ((Ss++[S,R]).map zLN)→Below base w w'→wpList Tryz.prog ops ZS rest (a.put o.dst (H A' N c')) w') :
  wpList Tryz.prog ops ZS (o :: rest) a (w.alloc (.cells #[W (bA S),W (bA R)] 9)):=by
 obtain ⟨i0,hi,aQ,az,bi⟩:=info_parts zJo;have hbl:=(Below.refl w.heap.size w).alloc (Nat.le_refl _) (.cells #[W (bA S),W (bA R)] 9);have bE:=hst.below hbl
 refine zPn hgd s x 112 ho 9 i0 _ 1 16 Tryz.underlying112 hi aQ az bi rfl (by decide) bE (Src.new (m:=2) (cs:=[W (bA S),W (bA R)]) rfl)
  (by intro u hu;simp at hu;rcases hu with rfl | rfl<;>rfl) hs hx N hN (by unfold maxLen;omega) (by omega) (by simp;omega) ?_
 intro A' c' w' h1 h2 _ _;refine h A' c' w' (by rw [List.map_append];exact h1) ?_;exact ((Below.refl _ _).alloc hbase _).trans (bE.belowOf h2 (by simp;omega))
def zOh (w0:World) (T:List (List UInt8)) (e:Ending) (w':World):Prop :=
 ∃B m d,e=.returned (H B m d)∧Row w' w0.heap.size 1 B m d (T.map zLN)∧m≤1000000∧Below w0.heap.size w0 w'
theorem zOi (ZR:List (List UInt8)):(ZR.flatMap zAY).length≤2*ZR.length:=by
 induction ZR with
 | nil=>simp
 | cons x ZR ih =>
  have:(zAY x).length≤2:=by rcases zBq x with ⟨h,_⟩ | ⟨C,_,h⟩<;>rw [h]<;>simp
  rw [List.flatMap_cons,List.length_append,List.length_cons];omega
theorem zCv (S:List UInt8):(zBx 32 S).length≤S.length+1:=by
 rw [zHb];have:=List.count_le_length (a:=(32:UInt8)) (l:=S);omega
theorem zGp (S:List UInt8):(zBE S).length≤2*S.length+2:=by
 have:=zOi (zBx 32 S);have:=zCv S;unfold zBE;omega
set_option maxHeartbeats 3200000 in
theorem zMd (S:List UInt8) (hS:S.length≤100000) (w:World) (ht:Tabs w) :
  Calls Tryz.prog 97 #[W (bA S)] w (zOh w (zBE S)):=by
 have hG:=qH (zHW S hS w ht);obtain ⟨Ws,hW⟩:∃ZR,zBx 32 S=ZR:=⟨_,rfl⟩
 rw [hW] at hG;have hpl:∀p∈Ws,p.length≤100000:=fun p hp=>by rw [←hW] at hp;exact Nat.le_trans (zCu 32 S p hp) hS
 have hwl:Ws.length≤100001:=by rw [←hW];have:=zCv S;omega
 have HT:=qH (show zBE S=Ws.flatMap zAY by unfold zBE;rw [hW]);have bY:=qH hpl;rw [HT.out];obtain ⟨n,hn⟩:∃n,Ws.length=n:=⟨_,rfl⟩
 rw [hn] at hG hwl;have HN:=qH hn;clear hW hpl ht hn hS HT;go_enter Tryz.func97,Tryz.ntmps97;go_wp2_with fail
 refine hG.out.mono ?_;rintro e X ⟨rfl,hX⟩;have aJ:Below w.heap.size w X:=by rw [hX];exact (Below.refl _ _).alloc (Nat.le_refl _) _
 have vv:∀(j:Nat) (p:List UInt8),Ws[j]? = Z p→X.cell? ⟨w.heap.size,j,U⟩=Z (W (bA p)):=fun j p hp=>by
  rw [hX,World.cell?_alloc_at _ _ _ _ rfl];simp [hp]
 have nV:w.heap.size < X.heap.size:=by rw [hX];simp
 have wW:=qH vv;clear hX vv hG;go_wp2_with fail
 go_loopw [3,11] (fun v3 v11 wv=>∃(i:Nat) (Y:World) (A':Option Addr) (m c':Nat) (T:List (List UInt8)),Y=wv∧i≤n∧v11=D J i∧v3=H A' m c'∧Row Y X.heap.size 1 A' m c' (T.map zLN)∧Below X.heap.size X Y∧m≤2*i∧Hid (T=(Ws.take i).flatMap zAY)) (fun _ v11 _=>n-(intOf v11).toNat)
 case atStart=>exact ⟨0,_,U,0,0,[],rfl,by omega,rfl,rfl,Row.none_ _ _ _,Below.refl _ _,by omega,qH rfl⟩
 case round =>
  obtain ⟨i,Y,A',m,c',T,hY,hi,rfl,rfl,hR,hb,hm,dt⟩:=hrel;subst hY;by_cases hlt:i < n
  ·have j0:(0:Int)≤(i:Int):=by omega
   have j1:(i:Int) < (n:Int):=by omega
   obtain ⟨p,hp⟩:∃p,Ws[i]? = Z p:=⟨Ws[i]'(by rw [HN.out];exact hlt),List.getElem?_eq_getElem _⟩
   have hc:Y.cell? ⟨w.heap.size,i,U⟩=Z (W (bA p)):=(hb.cell (p:=⟨w.heap.size,i,U⟩) nV).trans (wW.out i p hp);have hlen:p.length≤1000000:=Nat.le_trans (bY.out p (List.mem_of_getElem? hp)) (by omega);have dY:=qH (zJI p hlen Y);have hz:X.heap.size≤Y.heap.size:=hb.size;by_cases hq:p.getLast? = Z 44
   ·rw [if_pos hq,decide_eq_true hq] at dY;obtain ⟨C,hC⟩:∃C,p.dropLast=C:=⟨_,rfl⟩
    rw [hC] at dY
    have lG:=qH (show T++[C,[44]]=(Ws.take (i+1)).flatMap zAY by
     rw [List.take_add_one,hp,List.flatMap_append,dt.out]
     simp [zAY,hq,hC])
    clear hp hlen hq hC dt;go_wp2_with fail
    refine dY.out.mono ?_;rintro e Y2 ⟨rfl,rfl⟩;go_wp2_with (at_builtin;refine zWn rfl _ _ rfl hR C [44] rfl rfl (m+2) rfl (by omega) hz ?_;intro A2 c2 w9 hR9 aP)
    have bW:=hb.trans aP;clear hR hb aP hc;go_wp2_with fail
    go_roundw
    case rel=>exact ⟨i+1,_,A2,m+2,c2,T++[C,[44]],rfl,by omega,by go_num,rfl,hR9,bW,by omega,lG⟩
    case measure=>simp [intOf];omega
   ·rw [if_neg hq,decide_eq_false hq] at dY
    have lG:=qH (show T++[p]=(Ws.take (i+1)).flatMap zAY by
     rw [List.take_add_one,hp,List.flatMap_append,dt.out]
     simp [zAY,hq])
    clear hp hlen hq dt;go_wp2_with fail
    refine dY.out.mono ?_;rintro e Y2 ⟨rfl,rfl⟩;go_wp2_with (at_builtin;refine zVX rfl _ _ rfl hR p rfl rfl (m+1) rfl (by omega) hz ?_;intro A2 c2 w9 hR9 aP)
    have bW:=hb.trans aP;clear hR hb aP hc;go_wp2_with fail
    go_roundw
    case rel=>exact ⟨i+1,_,A2,m+1,c2,T++[p],rfl,by omega,by go_num,rfl,hR9,bW,by omega,lG⟩
    case measure=>simp [intOf];omega
  ·have j1:¬(i:Int) < (n:Int):=by omega
   have hin:i=n:=by omega
   have iv:=qH (show T=Ws.flatMap zAY by rw [dt.out,hin,←HN.out,List.take_length]);have hz:w.heap.size≤X.heap.size:=aJ.size;clear hin hlt dt wW;go_wp2_with fail
   go_ret;exact ⟨A',m,c',rfl,by rw [←iv.out];exact hR.mono hz,by omega,zAa aJ hb aJ.size⟩
end Go.Proofs.YtlmdfmnbcndhoaaGreatDoor
