/-
  Lemmas, part 23. Conditions: each theorem's own.
-/
import Derived.Test.YtlmdfmnbcndhoaaGreatDoorRq19
open Go.Value renaming bool→G,int→D,slice→H
open Go.IntKind renaming i64→J
open Option renaming none→U,some→Z
open Bool renaming false→E,true→Q
namespace Go.Proofs.YtlmdfmnbcndhoaaGreatDoor
open Go.RowKit
set_option maxHeartbeats 12800000 in
set_option maxRecDepth 100000 in
theorem zMb (rb:Nat) (F:Fm) (s:RS) (w:World) (h:RX w rb F s) (hT:s.T.length≤100000) (hw:zBQ (xa s.T 0)≠3∧zBQ (xa s.T 0)≠6∧zBQ (xa s.T 0)≠7) :
  Calls Tryz.prog 98 #[.pointer (Z ⟨rb,0,U⟩)] w (zET w rb F (opR F.L s).1 (opR F.L s).2):=by
 obtain ⟨S0,eR⟩:∃S,xa s.T 0=S:=⟨_,rfl⟩
 obtain ⟨s1,e1⟩:∃x,s.next=x:=⟨_,rfl⟩
 obtain ⟨K,eK⟩:∃x,zBQ S0=x:=⟨_,rfl⟩
 obtain ⟨s2,e2⟩:∃x,s1.mark (decide (K=0))=x:=⟨_,rfl⟩
 obtain ⟨S1,jn⟩:∃S,xa s2.T 0=S:=⟨_,rfl⟩
 obtain ⟨s3,e3⟩:∃x,s2.next=x:=⟨_,rfl⟩
 obtain ⟨s4,e4⟩:∃x,s3.fing F.L S1=x:=⟨_,rfl⟩
 obtain ⟨f,efi⟩:∃x,zEy F.L S1=x:=⟨_,rfl⟩
 obtain ⟨b,eb⟩:∃b,s1.bad=b:=⟨_,rfl⟩
 have cQ:xa s.T.tail 0=S1:=by rw [←jn,←e2,←e1];rfl
 have tF:s4.T.length≤100000:=by
  rw [←e4,←e3,←e2,←e1];simp only [RS.fing,RS.next,RS.mark,List.length_tail];omega
 have HR:=qH (show opR F.L s=zBV F.L K f s4 by
  have hp:zFu F.L s=s4:=by
   unfold zFu
   rw [eR,cQ,e1,eK,e2,e3,e4]
  unfold opR
  rw [hp,eR,cQ,eK,efi])
 have hK:0≤K∧K≤8:=by
  by_cases e:K=0
  ·omega
  ·have:=zHQ (v:=S0) (by rw [eK];exact e);rw [eK] at this;omega
 have rl:=qH (fun (k:Nat) (h1:1≤k) (h8:k≤8)=>(show ((bA (zBk (k:Int))).toList==(bA S0).toList)=decide (K=(k:Int)) by
  rw [zAo,zAo,←eK];exact zGi h1 h8 S0))
 have H1:=qH (fun wx (hx:RX wx rb F s)=>zCD hx);have H2:=qH (fun wx (hx:RX wx rb F s2)=>zCD hx);have H3:=qH (fun wx (hx:RX wx rb F s3)=>zCE hx S1)
 have HM:=qH (fun wx (hx:RX wx rb F s1)=>(show wx.cell? ⟨rb,4,U⟩=Z (G b)∧wx.frozen? ⟨rb,4,U⟩=E∧∀q,q=(b||decide (K=0))→RX (wx.setCell ⟨rb,4,U⟩ (G q)) rb F s2∧wx.grownBy (wx.setCell ⟨rb,4,U⟩ (G q)) (Z rb) from
  ⟨by rw [←eb];exact hx.bad4.1,hx.bad4.2,fun q hq=>by rw [←e2];exact hx.marked (decide (K=0)) q (by rw [eb];exact hq)⟩))
 simp only [eR,e1] at H1;simp only [jn,e3] at H2;simp only [efi,e4] at H3;rw [HR.out];have HW:Hid (K≠3∧K≠6∧K≠7):=qH (by rw [←eK,←eR];exact hw);have hlt:=h.lt;have bst:=zKI
 have eM:=qH (fun (o:Og) (st:RS) (he:zBV F.L K f s4=(o,st)) (wx:World) (B:Option Addr) (m d:Nat) (hrow:Row wx w.heap.size 5 B m d (o.path.flatMap zIo)) (hm:m=o.path.length) (hx:RX wx rb F st) (hg:w.grownBy wx (Z rb)) =>
  (show zET w rb F (zBV F.L K f s4).1 (zBV F.L K f s4).2 (.returned (opV o B m d)) wx from by rw [he];exact ⟨B,m,d,rfl,hrow,hm,hx,hg⟩))
 clear eR e1 e2 jn e3 e4 efi eb eK cQ HR hT hw;have b1:Below w.heap.size w ((w.alloc (.cells #[D J 0,D J 0,D J 0,D J 0,G E,D J 0,H U 0 0,G E] 32)).alloc (.cells #[D J 0,D J 0,D J 0,D J 0,G E,D J 0,H U 0 0,G E] 32)):=((Below.refl _ _).alloc (Nat.le_refl _) _).alloc (by simp) _;have cw:Blk ((w.alloc (.cells #[D J 0,D J 0,D J 0,D J 0,G E,D J 0,H U 0 0,G E] 32)).alloc (.cells #[D J 0,D J 0,D J 0,D J 0,G E,D J 0,H U 0 0,G E] 32)) w.heap.size 32 #[D J 0,D J 0,D J 0,D J 0,G E,D J 0,H U 0 0,G E]:=(Blk.new w _ _).alloc _;have bz:Blk ((w.alloc (.cells #[D J 0,D J 0,D J 0,D J 0,G E,D J 0,H U 0 0,G E] 32)).alloc (.cells #[D J 0,D J 0,D J 0,D J 0,G E,D J 0,H U 0 0,G E] 32)) (w.heap.size+1) 32 #[D J 0,D J 0,D J 0,D J 0,G E,D J 0,H U 0 0,G E]:=by have:=Blk.new (w.alloc (.cells #[D J 0,D J 0,D J 0,D J 0,G E,D J 0,H U 0 0,G E] 32)) 32 #[D J 0,D J 0,D J 0,D J 0,G E,D J 0,H U 0 0,G E];rwa [World.size_alloc] at this
 have h1:=h.below b1;have g1:w.grownBy ((w.alloc (.cells #[D J 0,D J 0,D J 0,D J 0,G E,D J 0,H U 0 0,G E] 32)).alloc (.cells #[D J 0,D J 0,D J 0,D J 0,G E,D J 0,H U 0 0,G E] 32)) (Z rb):=zAt b1;have ak:rb < w.heap.size:=hlt;have ae:rb < w.heap.size+1:=by omega
 have dq:w.heap.size≤w.heap.size:=Nat.le_refl _;have aA:w.heap.size≤w.heap.size+1:=by omega
 clear h b1;obtain ⟨a1,bB⟩:∃a,a=w.heap.size+1:=⟨_,rfl⟩
 have iA:=qH bB;have gz:w.heap.size < a1:=by omega
 go_enter Tryz.func98,Tryz.ntmps98;go_wp2_with fail
 generalize ((w.alloc (.cells #[D J 0,D J 0,D J 0,D J 0,G E,D J 0,H U 0 0,G E] 32)).alloc (.cells #[D J 0,D J 0,D J 0,D J 0,G E,D J 0,H U 0 0,G E] 32))=X1 at cw bz h1 g1 ⊢;rw [←bB] at bz ae aA ⊢;clear bB;refine (H1.out X1 h1).mono ?_;rintro e wJ ⟨rfl,mW,fV⟩;have cK:=cw.grownO fV ak;have cJ:=bz.grownO fV ae;have m8:=zAb g1 fV;clear h1 g1 cw bz fV H1;go_wp2_with fail
 go_loopw [5] (fun v wv=>∃(k:Nat) (X:World),X=wv∧1≤k∧k≤9∧v=D J k∧Hid (RX X rb F s1∧Blk X w.heap.size 32 #[D J 0,D J 0,D J 0,D J 0,G E,D J 0,H U 0 0,G E]∧Blk X a1 32 #[D J (kTo K k),D J 0,D J 0,D J 0,G E,D J 0,H U 0 0,G E]∧w.grownBy X (Z rb))) (fun v _=>9-(intOf v).toNat)
 case atStart=>exact ⟨1,_,rfl,by omega,by omega,rfl,qH (by rw [show kTo K 1=0 from by unfold kTo;split<;>omega];exact ⟨mW,cK,cJ,m8⟩)⟩
 case round =>
  clear mW m8 cK cJ;obtain ⟨k,X,hX,ag,eV,rfl,HX⟩:=hrel;subst hX;by_cases hk:k≤8
  ·have i1:(k:Int)≤8:=by omega
   have n0:=rl.out k ag hk;by_cases hq:K=(k:Int)
   ·obtain ⟨qV,cI,aV,rc⟩:=HX.out;rw [decide_eq_true hq] at n0;have C6:=aV.frozen 0;have EN:X.cell? ⟨a1,0,U⟩=Z (D J (kTo K k)):=(aV.cell 0).trans rfl;have cG:Blk (X.setCell ⟨a1,0,U⟩ (D J (k:Int))) a1 32 #[D J (k:Int),D J 0,D J 0,D J 0,G E,D J 0,H U 0 0,G E]:=aV.set_ 0 _;have pm:Below (rb+1) X (X.setCell ⟨a1,0,U⟩ (D J (k:Int))):=(Below.refl _ _).setCell (p:=⟨a1,0,U⟩) ae _;have pY:Below w.heap.size X (X.setCell ⟨a1,0,U⟩ (D J (k:Int))):=(Below.refl _ _).setCell (p:=⟨a1,0,U⟩) aA _;have cH:=cI.far (p:=⟨a1,0,U⟩) (by simp only;omega) (D J (k:Int));have qU:=qV.over pm;have qZ:=zAd rc pY;clear qV rc cI aV pm pY;have HF:=qH (show kTo K (k+1)=(k:Int) by unfold kTo;rw [if_pos (by omega)];exact hq);have HZ:=qH (show RX (X.setCell ⟨a1,0,U⟩ (D J (k:Int))) rb F s1∧Blk (X.setCell ⟨a1,0,U⟩ (D J (k:Int))) w.heap.size 32 #[D J 0,D J 0,D J 0,D J 0,G E,D J 0,H U 0 0,G E]∧Blk (X.setCell ⟨a1,0,U⟩ (D J (k:Int))) a1 32 #[D J (k:Int),D J 0,D J 0,D J 0,G E,D J 0,H U 0 0,G E]∧w.grownBy (X.setCell ⟨a1,0,U⟩ (D J (k:Int))) (Z rb) from ⟨qU,cH,cG,qZ⟩);clear HX hq qU qZ cH cG;go_wp2_with (first | (go_at_call 106;refine (zCc (k:Int) (by omega) (by omega) _).mono ?_;rintro e wq ⟨rfl,rfl⟩))
    go_roundw
    case rel=>exact ⟨k+1,_,rfl,by omega,by omega,by go_num,qH (by rw [HF.out];exact HZ.out)⟩
    case measure=>simp [intOf];omega
   ·rw [decide_eq_false hq] at n0;have HF:=qH (show kTo K (k+1)=kTo K k by unfold kTo;split<;>split<;>omega);clear hq;go_wp2_with (first | (go_at_call 106;refine (zCc (k:Int) (by omega) (by omega) _).mono ?_;rintro e wq ⟨rfl,rfl⟩))
    go_roundw
    case rel=>exact ⟨k+1,_,rfl,by omega,by omega,by go_num,qH (by rw [HF.out];exact HX.out)⟩
    case measure=>simp [intOf];omega
  ·have i1:¬(k:Int)≤8:=by omega
   obtain ⟨qT,cF,aU,qY⟩:=HX.out;rw [show kTo K k=K from by unfold kTo;rw [if_pos (by omega)]] at aU;obtain ⟨c4,z4,hm⟩:=HM.out X qT;have HZ:=qH (fun (q:Bool) hq=>(show RX (X.setCell ⟨rb,4,U⟩ (G q)) rb F s2∧Blk (X.setCell ⟨rb,4,U⟩ (G q)) w.heap.size 32 #[D J 0,D J 0,D J 0,D J 0,G E,D J 0,H U 0 0,G E]∧Blk (X.setCell ⟨rb,4,U⟩ (G q)) a1 32 #[D J K,D J 0,D J 0,D J 0,G E,D J 0,H U 0 0,G E]∧w.grownBy (X.setCell ⟨rb,4,U⟩ (G q)) (Z rb) from ⟨(hm q hq).1,cF.grownO (hm q hq).2 ak,aU.grownO (hm q hq).2 ae,zAb qY (hm q hq).2⟩));have f0:X.cell? ⟨a1,0,U⟩=Z (D J K):=(aU.cell 0).trans rfl;clear hm HM HX rl qT qY cF aU;obtain ⟨q0,mE⟩:∃q,decide (K=0)=q:=⟨_,rfl⟩
   have i2:(K==0)=q0:=by rw [←mE];by_cases e:K=0<;>simp [e]
   rw [mE] at HZ;clear mE;go_upto_region 8 with fail
   go_cut [29] (fun _ wv=>∃X:World,X=wv∧RX X rb F s2∧Blk X w.heap.size 32 #[D J 0,D J 0,D J 0,D J 0,G E,D J 0,H U 0 0,G E]∧Blk X a1 32 #[D J K,D J 0,D J 0,D J 0,G E,D J 0,H U 0 0,G E]∧w.grownBy X (Z rb))
   case first =>
    cases b<;>cases q0
    all_goals
     go_wp2_with fail
     go_meet
     case rel=>exact ⟨_,rfl,HZ.out _ rfl⟩
   case rest =>
    clear c4 z4 HZ f0 i2;obtain ⟨X,hX,qS,cE,cD,qX⟩:=hcut;subst hX;go_wp2_with fail
    refine (H2.out X qS).mono ?_;rintro e wI ⟨rfl,qR,gp⟩;have cB:=cE.grownO gp ak;have cA:=cD.grownO gp ae;have qW:=zAb qX gp;clear qS qX cE cD gp H2;go_wp2_with fail
    refine (H3.out wI qR).mono ?_;rintro e eI ⟨rfl,qQ,fU⟩;have cz:=cB.grownO fU ak;have aT:=cA.grownO fU ae;have g17:=zAb qW fU;clear qR qW cB cA fU H3;have ur:=aT.frozen 1;have wG:eI.cell? ⟨a1,1,U⟩=Z (D J 0):=(aT.cell 1).trans rfl;have bs:Blk (eI.setCell ⟨a1,1,U⟩ (D J (f:Int))) a1 32 #[D J K,D J (f:Int),D J 0,D J 0,G E,D J 0,H U 0 0,G E]:=aT.set_ 1 _;have nK:Below (rb+1) eI (eI.setCell ⟨a1,1,U⟩ (D J (f:Int))):=(Below.refl _ _).setCell (p:=⟨a1,1,U⟩) ae _;have pX:Below w.heap.size eI (eI.setCell ⟨a1,1,U⟩ (D J (f:Int))):=(Below.refl _ _).setCell (p:=⟨a1,1,U⟩) aA _;have bt:=cz.far (p:=⟨a1,1,U⟩) (by simp only;omega) (D J (f:Int));have mV:=qQ.over nK;have g18:=zAd g17 pX;clear qQ g17 cz aT nK pX;go_upto_region 10 with fail
    clear ur wG;generalize eI.setCell ⟨a1,1,U⟩ (D J (f:Int))=X9 at mV g18 bt bs ⊢;have HA:=qH (show RX X9 rb F s4∧Blk X9 w.heap.size 32 #[D J 0,D J 0,D J 0,D J 0,G E,D J 0,H U 0 0,G E]∧Blk X9 a1 32 #[D J K,D J (f:Int),D J 0,D J 0,G E,D J 0,H U 0 0,G E]∧w.grownBy X9 (Z rb) from ⟨mV,bt,bs,g18⟩);clear mV g18 bt bs;by_cases n4:K=4
    ·subst n4;obtain ⟨jk,br,aS,mY⟩:=HA.out;clear HA;have f0:X9.cell? ⟨a1,0,U⟩=Z (D J 4):=(aS.cell 0).trans rfl;obtain ⟨ov,eov⟩:∃x,ovT (xa s4.T 0)=x:=⟨_,rfl⟩
     obtain ⟨s5,e5⟩:∃x,s4.over=x:=⟨_,rfl⟩
     have bf:=qH (fun wx (hx:RX wx rb F s4)=>zHS hx);simp only [eov,e5] at bf;have HE:=qH (show zBV F.L 4 f s4=(⟨4,f,s0,[],ov⟩,s5) by unfold zBV;rw [if_pos rfl,eov,e5]);clear eov e5;go_wp2_with fail
     clear f0;refine (bf.out X9 jk).mono ?_;rintro e iu ⟨rfl,kK,fC⟩;have eu:=br.grownO fC ak;have cX:=aS.grownO fC ae;have kO:=zAb mY fC;clear jk mY br aS fC bf;have xh:=cX.frozen 7;have yh:iu.cell? ⟨a1,7,U⟩=Z (G E):=(cX.cell 7).trans rfl;have aX:Blk (iu.setCell ⟨a1,7,U⟩ (G ov)) a1 32 #[D J 4,D J (f:Int),D J 0,D J 0,G E,D J 0,H U 0 0,G ov]:=cX.set_ 7 _;have jG:Below (rb+1) iu (iu.setCell ⟨a1,7,U⟩ (G ov)):=(Below.refl _ _).setCell (p:=⟨a1,7,U⟩) ae _;have pS:Below w.heap.size iu (iu.setCell ⟨a1,7,U⟩ (G ov)):=(Below.refl _ _).setCell (p:=⟨a1,7,U⟩) aA _;have ax:=eu.far (p:=⟨a1,7,U⟩) (by simp only;omega) (G ov);have dc:=kK.over jG;have dA:=zAd kO pS;clear kK kO eu cX jG pS;go_upto_region 33 with fail
     clear xh yh;generalize iu.setCell ⟨a1,7,U⟩ (G ov)=fy at dc dA ax aX ⊢;obtain ⟨f0,f1,f2,f3,f4,f5,f6,f7⟩:=cQ8 aX;have y0:fy.cell? ⟨w.heap.size,0,U⟩=Z (D J 0):=(ax.cell 0).trans rfl;have iC:=ax.frozen 0;have y1:fy.cell? ⟨w.heap.size,1,U⟩=Z (D J 0):=(ax.cell 1).trans rfl;have iB:=ax.frozen 1;have y2:fy.cell? ⟨w.heap.size,2,U⟩=Z (D J 0):=(ax.cell 2).trans rfl;have jF:=ax.frozen 2;have y3:fy.cell? ⟨w.heap.size,3,U⟩=Z (D J 0):=(ax.cell 3).trans rfl;have jE:=ax.frozen 3;have y4:fy.cell? ⟨w.heap.size,4,U⟩=Z (G E):=(ax.cell 4).trans rfl;have jD:=ax.frozen 4;have y5:fy.cell? ⟨w.heap.size,5,U⟩=Z (D J 0):=(ax.cell 5).trans rfl;have jC:=ax.frozen 5;have y6:fy.cell? ⟨w.heap.size,6,U⟩=Z (H U 0 0):=(ax.cell 6).trans rfl;have jB:=ax.frozen 6;have y7:fy.cell? ⟨w.heap.size,7,U⟩=Z (G E):=(ax.cell 7).trans rfl;have jA:=ax.frozen 7;have hS:=ax.store8 (D J 4) (D J (f:Int)) (D J 0) (D J 0) (G E) (D J 0) (H U 0 0) (G ov);have bS:=zAg (Below.refl (rb+1) fy) (show rb+1≤w.heap.size from ak) (D J 4) (D J (f:Int)) (D J 0) (D J 0) (G E) (D J 0) (H U 0 0) (G ov);have jp:=zAg (Below.refl w.heap.size fy) dq (D J 4) (D J (f:Int)) (D J 0) (D J 0) (G E) (D J 0) (H U 0 0) (G ov);have hX:=dc.over bS;have gX:=zAd dA jp;go_wp2_with fail
     exact zAH rfl rfl hS Tryz.underlying32 rfl (by kernel_rfl) rfl (eM.out ⟨4,f,s0,[],ov⟩ s5 HE.out _ U 0 0 (Row.none_ _ _ _) rfl hX gX)
    by_cases n5:K=5
    ·subst n5;obtain ⟨jj,cu,bJ,mX⟩:=HA.out;clear HA;have f0:X9.cell? ⟨a1,0,U⟩=Z (D J 5):=(bJ.cell 0).trans rfl;obtain ⟨s5,e5⟩:∃x,s4.must zAT=x:=⟨_,rfl⟩
     obtain ⟨⟨xf,xl,xfar,xpc⟩,ex⟩:∃x,(zAV F.L s5).1=x:=⟨_,rfl⟩
     obtain ⟨s6,e6⟩:∃x,(zAV F.L s5).2=x:=⟨_,rfl⟩
     obtain ⟨ov,eov⟩:∃x,ovT (xa s6.T 0)=x:=⟨_,rfl⟩
     obtain ⟨s7,e7⟩:∃x,s6.over=x:=⟨_,rfl⟩
     have bY:=qH (fun wx (hx:RX wx rb F s5)=>zEa rb F s5 wx hx);simp only [ex,e6] at bY;have bf:=qH (fun wx (hx:RX wx rb F s6)=>zHS hx);simp only [eov,e7] at bf;have HE:=qH (show zBV F.L 5 f s4=(⟨5,f,⟨xf,xl,xfar,xpc⟩,[],ov⟩,s7) by unfold zBV;rw [if_neg (by omega),if_neg (by omega),if_pos rfl,e5,ex,e6,eov,e7]);have E5:=qH e5;clear eov e5 ex e6 e7;go_upto_region 22 with fail
     go_cut [91] (fun _ wv=>∃X:World,X=wv∧RX X rb F s5∧Blk X w.heap.size 32 #[D J 0,D J 0,D J 0,D J 0,G E,D J 0,H U 0 0,G E]∧Blk X a1 32 #[D J 5,D J (f:Int),D J 0,D J 0,G E,D J 0,H U 0 0,G E]∧w.grownBy X (Z rb))
     case first =>
      cases hb:s4.bad with
      | true =>
       have c4:X9.cell? ⟨rb,4,U⟩=Z (G Q):=by rw [←hb];exact jj.bad4.1
       have z4:=jj.bad4.2;have hm:=jj.marked E Q (by rw [hb];rfl);have HZ:=qH (show RX (X9.setCell ⟨rb,4,U⟩ (G Q)) rb F s5∧Blk (X9.setCell ⟨rb,4,U⟩ (G Q)) w.heap.size 32 #[D J 0,D J 0,D J 0,D J 0,G E,D J 0,H U 0 0,G E]∧Blk (X9.setCell ⟨rb,4,U⟩ (G Q)) a1 32 #[D J 5,D J (f:Int),D J 0,D J 0,G E,D J 0,H U 0 0,G E]∧w.grownBy (X9.setCell ⟨rb,4,U⟩ (G Q)) (Z rb) from ⟨by rw [←E5.out,zFy zAT hb];exact hm.1,cu.grownO hm.2 ak,bJ.grownO hm.2 ae,zAb mX hm.2⟩);clear hm hb jj mX cu bJ;go_wp2_with fail
       go_meet
       case rel=>exact ⟨_,rfl,HZ.out⟩
      | false =>
       obtain ⟨ib,eib⟩:∃b,isB s4.T zAT=b:=⟨_,rfl⟩
       have c4:X9.cell? ⟨rb,4,U⟩=Z (G E):=by rw [←hb];exact jj.bad4.1
       have z4:=jj.bad4.2;have HI:=qH (zOc jj zAT);rw [eib] at HI;have HE:=qH (show (s4.is zAT).mark (!ib)=s5 by rw [←E5.out,zEs zAT hb,eib]);have HB:=qH hb;clear eib hb;go_wp2_with fail
       refine HI.out.mono ?_;rintro e Y ⟨rfl,hy,qy⟩;have kt:=cu.grownO qy ak;have kp:=bJ.grownO qy ae;have wj:=zAb mX qy;have c5:Y.cell? ⟨rb,4,U⟩=Z (G E):=by rw [←HB.out];exact hy.bad4.1
       have z5:=hy.bad4.2;have hm:=fun q (hq:q = !ib)=>hy.marked (!ib) q (by rw [show (s4.is zAT).bad=E from HB.out];exact hq)
       have HZ:=qH (fun (q:Bool) (hq:q = !ib)=>(show RX (Y.setCell ⟨rb,4,U⟩ (G q)) rb F s5∧Blk (Y.setCell ⟨rb,4,U⟩ (G q)) w.heap.size 32 #[D J 0,D J 0,D J 0,D J 0,G E,D J 0,H U 0 0,G E]∧Blk (Y.setCell ⟨rb,4,U⟩ (G q)) a1 32 #[D J 5,D J (f:Int),D J 0,D J 0,G E,D J 0,H U 0 0,G E]∧w.grownBy (Y.setCell ⟨rb,4,U⟩ (G q)) (Z rb) from ⟨by rw [←HE.out];exact (hm q hq).1,kt.grownO (hm q hq).2 ak,kp.grownO (hm q hq).2 ae,zAb wj (hm q hq).2⟩));clear hm qy HI HE HB c4 z4 hy wj kt kp jj mX cu bJ
       cases ib
       all_goals
        go_wp2_with fail
        go_meet
        case rel=>exact ⟨_,rfl,HZ.out _ rfl⟩
     case rest =>
      clear jj mX cu bJ;obtain ⟨nE,hX,fw,ep,cV,fY⟩:=hcut;subst hX;clear f0 E5;go_wp2_with fail
      refine (bY.out nE fw).mono ?_;rintro e aY ⟨rfl,ir,gn⟩;have al:=ep.grownO gn ak;have aw:=cV.grownO gn ae;have it:=zAb fY gn;clear fw fY ep cV gn bY;have jz:=aw.frozen 2;have kT:aY.cell? ⟨a1,2,U⟩=Z (D J 0):=(aw.cell 2).trans rfl;have jy:=aw.frozen 3;have kS:aY.cell? ⟨a1,3,U⟩=Z (D J 0):=(aw.cell 3).trans rfl;have jx:=aw.frozen 4;have kQ:aY.cell? ⟨a1,4,U⟩=Z (G E):=(aw.cell 4).trans rfl;have jw:=aw.frozen 5;have kP:aY.cell? ⟨a1,5,U⟩=Z (D J 0):=(aw.cell 5).trans rfl;have gD:Blk (aY.setCell ⟨a1,2,U⟩ (D J xf)) a1 32 #[D J 5,D J (f:Int),D J xf,D J 0,G E,D J 0,H U 0 0,G E]:=aw.set_ 2 _;have dH:Below (rb+1) aY (aY.setCell ⟨a1,2,U⟩ (D J xf)):=(Below.refl _ _).setCell (p:=⟨a1,2,U⟩) ae _;have dL:Below w.heap.size aY (aY.setCell ⟨a1,2,U⟩ (D J xf)):=(Below.refl _ _).setCell (p:=⟨a1,2,U⟩) aA _;have ci:=al.far (p:=⟨a1,2,U⟩) (by simp only;omega) (D J xf);have gC:Blk ((aY.setCell ⟨a1,2,U⟩ (D J xf)).setCell ⟨a1,3,U⟩ (D J xl)) a1 32 #[D J 5,D J (f:Int),D J xf,D J xl,G E,D J 0,H U 0 0,G E]:=gD.set_ 3 _;have dG:Below (rb+1) aY ((aY.setCell ⟨a1,2,U⟩ (D J xf)).setCell ⟨a1,3,U⟩ (D J xl)):=dH.setCell (p:=⟨a1,3,U⟩) ae _;have dK:Below w.heap.size aY ((aY.setCell ⟨a1,2,U⟩ (D J xf)).setCell ⟨a1,3,U⟩ (D J xl)):=dL.setCell (p:=⟨a1,3,U⟩) aA _;have cg:=ci.far (p:=⟨a1,3,U⟩) (by simp only;omega) (D J xl);have gB:Blk (((aY.setCell ⟨a1,2,U⟩ (D J xf)).setCell ⟨a1,3,U⟩ (D J xl)).setCell ⟨a1,4,U⟩ (G xfar)) a1 32 #[D J 5,D J (f:Int),D J xf,D J xl,G xfar,D J 0,H U 0 0,G E]:=gC.set_ 4 _;have dF:Below (rb+1) aY (((aY.setCell ⟨a1,2,U⟩ (D J xf)).setCell ⟨a1,3,U⟩ (D J xl)).setCell ⟨a1,4,U⟩ (G xfar)):=dG.setCell (p:=⟨a1,4,U⟩) ae _;have dJ:Below w.heap.size aY (((aY.setCell ⟨a1,2,U⟩ (D J xf)).setCell ⟨a1,3,U⟩ (D J xl)).setCell ⟨a1,4,U⟩ (G xfar)):=dK.setCell (p:=⟨a1,4,U⟩) aA _;have ce:=cg.far (p:=⟨a1,4,U⟩) (by simp only;omega) (G xfar);have el:Blk ((((aY.setCell ⟨a1,2,U⟩ (D J xf)).setCell ⟨a1,3,U⟩ (D J xl)).setCell ⟨a1,4,U⟩ (G xfar)).setCell ⟨a1,5,U⟩ (D J xpc)) a1 32 #[D J 5,D J (f:Int),D J xf,D J xl,G xfar,D J xpc,H U 0 0,G E]:=gB.set_ 5 _;have dE:Below (rb+1) aY ((((aY.setCell ⟨a1,2,U⟩ (D J xf)).setCell ⟨a1,3,U⟩ (D J xl)).setCell ⟨a1,4,U⟩ (G xfar)).setCell ⟨a1,5,U⟩ (D J xpc)):=dF.setCell (p:=⟨a1,5,U⟩) ae _;have dI:Below w.heap.size aY ((((aY.setCell ⟨a1,2,U⟩ (D J xf)).setCell ⟨a1,3,U⟩ (D J xl)).setCell ⟨a1,4,U⟩ (G xfar)).setCell ⟨a1,5,U⟩ (D J xpc)):=dJ.setCell (p:=⟨a1,5,U⟩) aA _;have bp:=ce.far (p:=⟨a1,5,U⟩) (by simp only;omega) (D J xpc);have lA:=ir.over dE;have lB:=zAd it dI;clear ir it al aw dH dL gD ci dG dK gC cg dF dJ gB ce dE dI;go_wp2_with fail
      clear jz kT jy kS jx kQ jw kP;generalize ((((aY.setCell ⟨a1,2,U⟩ (D J xf)).setCell ⟨a1,3,U⟩ (D J xl)).setCell ⟨a1,4,U⟩ (G xfar)).setCell ⟨a1,5,U⟩ (D J xpc))=X32 at lA lB bp el ⊢;refine (bf.out X32 lA).mono ?_;rintro e sP ⟨rfl,eH,rq⟩;have aN:=bp.grownO rq ak;have aH:=el.grownO rq ae;have jm:=zAb lB rq;clear lA lB bp el rq bf;have z34:=aH.frozen 7;have d34:sP.cell? ⟨a1,7,U⟩=Z (G E):=(aH.cell 7).trans rfl;have mu:Blk (sP.setCell ⟨a1,7,U⟩ (G ov)) a1 32 #[D J 5,D J (f:Int),D J xf,D J xl,G xfar,D J xpc,H U 0 0,G ov]:=aH.set_ 7 _;have De:Below (rb+1) sP (sP.setCell ⟨a1,7,U⟩ (G ov)):=(Below.refl _ _).setCell (p:=⟨a1,7,U⟩) ae _;have Di:Below w.heap.size sP (sP.setCell ⟨a1,7,U⟩ (G ov)):=(Below.refl _ _).setCell (p:=⟨a1,7,U⟩) aA _;have aG:=aN.far (p:=⟨a1,7,U⟩) (by simp only;omega) (G ov);have Ed:=eH.over De;have Ej:=zAd jm Di;clear eH jm aN aH De Di;go_upto_region 33 with fail
      clear z34 d34;generalize sP.setCell ⟨a1,7,U⟩ (G ov)=X35 at Ed Ej aG mu ⊢;obtain ⟨f0,f1,f2,f3,f4,f5,f6,f7⟩:=cQ8 mu;have y0:X35.cell? ⟨w.heap.size,0,U⟩=Z (D J 0):=(aG.cell 0).trans rfl;have iC:=aG.frozen 0;have y1:X35.cell? ⟨w.heap.size,1,U⟩=Z (D J 0):=(aG.cell 1).trans rfl;have iB:=aG.frozen 1;have y2:X35.cell? ⟨w.heap.size,2,U⟩=Z (D J 0):=(aG.cell 2).trans rfl;have jF:=aG.frozen 2;have y3:X35.cell? ⟨w.heap.size,3,U⟩=Z (D J 0):=(aG.cell 3).trans rfl;have jE:=aG.frozen 3;have y4:X35.cell? ⟨w.heap.size,4,U⟩=Z (G E):=(aG.cell 4).trans rfl;have jD:=aG.frozen 4;have y5:X35.cell? ⟨w.heap.size,5,U⟩=Z (D J 0):=(aG.cell 5).trans rfl;have jC:=aG.frozen 5;have y6:X35.cell? ⟨w.heap.size,6,U⟩=Z (H U 0 0):=(aG.cell 6).trans rfl;have jB:=aG.frozen 6;have y7:X35.cell? ⟨w.heap.size,7,U⟩=Z (G E):=(aG.cell 7).trans rfl;have jA:=aG.frozen 7;have hS:=aG.store8 (D J 5) (D J (f:Int)) (D J xf) (D J xl) (G xfar) (D J xpc) (H U 0 0) (G ov);have bS:=zAg (Below.refl (rb+1) X35) (show rb+1≤w.heap.size from ak) (D J 5) (D J (f:Int)) (D J xf) (D J xl) (G xfar) (D J xpc) (H U 0 0) (G ov);have jp:=zAg (Below.refl w.heap.size X35) dq (D J 5) (D J (f:Int)) (D J xf) (D J xl) (G xfar) (D J xpc) (H U 0 0) (G ov);have hX:=Ed.over bS;have gX:=zAd Ej jp;go_wp2_with fail
      exact zAH rfl rfl hS Tryz.underlying32 rfl (by kernel_rfl) rfl (eM.out ⟨5,f,⟨xf,xl,xfar,xpc⟩,[],ov⟩ s7 HE.out _ U 0 0 (Row.none_ _ _ _) rfl hX gX)
    by_cases n6:K=6
    ·subst n6;exact absurd HW.out (by omega)
    by_cases n7:K=7
    ·subst n7;exact absurd HW.out (by omega)
    by_cases n3:K=3
    ·subst n3;exact absurd HW.out (by omega)
    obtain ⟨ye,ay,ei,yg⟩:=HA.out;clear HA;have m3:(K==3)=E:=by simpa using n3
    have m4:(K==4)=E:=by simpa using n4
    have m5:(K==5)=E:=by simpa using n5
    have m6:(K==6)=E:=by simpa using n6
    have m7:(K==7)=E:=by simpa using n7
    have HE:=qH (show zBV F.L K f s4=(⟨K,f,s0,[],E⟩,s4) by unfold zBV;rw [if_neg n4,if_neg n3,if_neg n5,if_neg n6,if_neg n7]);clear n3 n4 n5 n6 n7;have f0:X9.cell? ⟨a1,0,U⟩=Z (D J K):=(ei.cell 0).trans rfl;go_upto_region 33 with fail
    clear f0;obtain ⟨f0,f1,f2,f3,f4,f5,f6,f7⟩:=cQ8 ei;have y0:X9.cell? ⟨w.heap.size,0,U⟩=Z (D J 0):=(ay.cell 0).trans rfl;have iC:=ay.frozen 0;have y1:X9.cell? ⟨w.heap.size,1,U⟩=Z (D J 0):=(ay.cell 1).trans rfl;have iB:=ay.frozen 1;have y2:X9.cell? ⟨w.heap.size,2,U⟩=Z (D J 0):=(ay.cell 2).trans rfl;have jF:=ay.frozen 2;have y3:X9.cell? ⟨w.heap.size,3,U⟩=Z (D J 0):=(ay.cell 3).trans rfl;have jE:=ay.frozen 3;have y4:X9.cell? ⟨w.heap.size,4,U⟩=Z (G E):=(ay.cell 4).trans rfl;have jD:=ay.frozen 4;have y5:X9.cell? ⟨w.heap.size,5,U⟩=Z (D J 0):=(ay.cell 5).trans rfl;have jC:=ay.frozen 5;have y6:X9.cell? ⟨w.heap.size,6,U⟩=Z (H U 0 0):=(ay.cell 6).trans rfl;have jB:=ay.frozen 6;have y7:X9.cell? ⟨w.heap.size,7,U⟩=Z (G E):=(ay.cell 7).trans rfl;have jA:=ay.frozen 7;have hS:=ay.store8 (D J K) (D J (f:Int)) (D J 0) (D J 0) (G E) (D J 0) (H U 0 0) (G E);have bS:=zAg (Below.refl (rb+1) X9) (show rb+1≤w.heap.size from ak) (D J K) (D J (f:Int)) (D J 0) (D J 0) (G E) (D J 0) (H U 0 0) (G E);have jp:=zAg (Below.refl w.heap.size X9) dq (D J K) (D J (f:Int)) (D J 0) (D J 0) (G E) (D J 0) (H U 0 0) (G E);have hX:=ye.over bS;have gX:=zAd yg jp;go_wp2_with fail
    exact zAH rfl rfl hS Tryz.underlying32 rfl (by kernel_rfl) rfl (eM.out ⟨K,f,s0,[],E⟩ s4 HE.out _ U 0 0 (Row.none_ _ _ _) rfl hX gX)
end Go.Proofs.YtlmdfmnbcndhoaaGreatDoor
