/-
  Lemmas, part 18. Conditions: each theorem's own.
-/
import Derived.Test.YtlmdfmnbcndhoaaGreatDoorRc17
open Option renaming none→U,some→Z
open Go.Value renaming bool→G,int→D,slice→H
open Bool renaming false→E,true→Q
open Go.IntKind renaming i64→J
namespace Go.Proofs.YtlmdfmnbcndhoaaGreatDoor
open Go.RowKit
set_option maxHeartbeats 12800000 in
set_option maxRecDepth 100000 in
theorem zLS (rb:Nat) (F:Fm) (s:RS) (w:World) (h:RX w rb F s) (hT:s.T.length≤100000) (hw:zBP (xa s.T 0)≠3∧zBP (xa s.T 0)≠6∧zBP (xa s.T 0)≠7) :
  Calls Tryz.prog 98 #[.pointer (Z ⟨rb,0,U⟩)] w (zEP w rb F (opR F.L s).1 (opR F.L s).2):=by
 obtain ⟨S0,fw⟩:∃S,xa s.T 0=S:=⟨_,rfl⟩
 obtain ⟨s1,e1⟩:∃x,s.next=x:=⟨_,rfl⟩
 obtain ⟨K,eK⟩:∃x,zBP S0=x:=⟨_,rfl⟩
 obtain ⟨s2,e2⟩:∃x,s1.mark (decide (K=0))=x:=⟨_,rfl⟩
 obtain ⟨S1,jI⟩:∃S,xa s2.T 0=S:=⟨_,rfl⟩
 obtain ⟨s3,e3⟩:∃x,s2.next=x:=⟨_,rfl⟩
 obtain ⟨s4,e4⟩:∃x,s3.fing F.L S1=x:=⟨_,rfl⟩
 obtain ⟨f,efi⟩:∃x,zDE F.L S1=x:=⟨_,rfl⟩
 obtain ⟨b,eb⟩:∃b,s1.bad=b:=⟨_,rfl⟩
 have dm:xa s.T.tail 0=S1:=by rw [←jI,←e2,←e1];rfl
 have uN:s4.T.length≤100000:=by
  rw [←e4,←e3,←e2,←e1];simp only [RS.fing,RS.next,RS.mark,List.length_tail];omega
 have HR:=qH (show opR F.L s=zBW F.L K f s4 by
  have hp:zFq F.L s=s4:=by
   unfold zFq
   rw [fw,dm,e1,eK,e2,e3,e4]
  unfold opR
  rw [hp,fw,dm,eK,efi])
 have hK:0≤K∧K≤8:=by
  by_cases e:K=0
  ·omega
  ·have:=zHB (v:=S0) (by rw [eK];exact e);rw [eK] at this;omega
 have sq:=qH (fun (k:Nat) (h1:1≤k) (h8:k≤8)=>(show ((bA (zBk (k:Int))).toList==(bA S0).toList)=decide (K=(k:Int)) by
  rw [zAD,zAD,←eK];exact zFY h1 h8 S0))
 have H1:=qH (fun wx (hx:RX wx rb F s)=>zCG hx);have H2:=qH (fun wx (hx:RX wx rb F s2)=>zCG hx);have H3:=qH (fun wx (hx:RX wx rb F s3)=>zCH hx S1)
 have HM:=qH (fun wx (hx:RX wx rb F s1)=>(show wx.cell? ⟨rb,4,U⟩=Z (G b)∧wx.frozen? ⟨rb,4,U⟩=E∧∀q,q=(b||decide (K=0))→RX (wx.setCell ⟨rb,4,U⟩ (G q)) rb F s2∧wx.grownBy (wx.setCell ⟨rb,4,U⟩ (G q)) (Z rb) from
  ⟨by rw [←eb];exact hx.bad4.1,hx.bad4.2,fun q hq=>by rw [←e2];exact hx.marked (decide (K=0)) q (by rw [eb];exact hq)⟩))
 simp only [fw,e1] at H1;simp only [jI,e3] at H2;simp only [efi,e4] at H3;rw [HR.out];have HW:Hid (K≠3∧K≠6∧K≠7):=qH (by rw [←eK,←fw];exact hw);have hlt:=h.lt;have bst:=zKE
 have dd:=qH (fun (o:Og) (st:RS) (he:zBW F.L K f s4=(o,st)) (wx:World) (B:Option Addr) (m d:Nat) (hrow:Row wx w.heap.size 5 B m d (o.path.flatMap zIg)) (hm:m=o.path.length) (hx:RX wx rb F st) (hg:w.grownBy wx (Z rb)) =>
  (show zEP w rb F (zBW F.L K f s4).1 (zBW F.L K f s4).2 (.returned (opV o B m d)) wx from by rw [he];exact ⟨B,m,d,rfl,hrow,hm,hx,hg⟩))
 clear fw e1 e2 jI e3 e4 efi eb eK dm HR hT hw;have b1:Below w.heap.size w ((w.alloc (.cells #[D J 0,D J 0,D J 0,D J 0,G E,D J 0,H U 0 0,G E] 32)).alloc (.cells #[D J 0,D J 0,D J 0,D J 0,G E,D J 0,H U 0 0,G E] 32)):=((Below.refl _ _).alloc (Nat.le_refl _) _).alloc (by simp) _;have cM:Blk ((w.alloc (.cells #[D J 0,D J 0,D J 0,D J 0,G E,D J 0,H U 0 0,G E] 32)).alloc (.cells #[D J 0,D J 0,D J 0,D J 0,G E,D J 0,H U 0 0,G E] 32)) w.heap.size 32 #[D J 0,D J 0,D J 0,D J 0,G E,D J 0,H U 0 0,G E]:=(Blk.new w _ _).alloc _;have bI:Blk ((w.alloc (.cells #[D J 0,D J 0,D J 0,D J 0,G E,D J 0,H U 0 0,G E] 32)).alloc (.cells #[D J 0,D J 0,D J 0,D J 0,G E,D J 0,H U 0 0,G E] 32)) (w.heap.size+1) 32 #[D J 0,D J 0,D J 0,D J 0,G E,D J 0,H U 0 0,G E]:=by have:=Blk.new (w.alloc (.cells #[D J 0,D J 0,D J 0,D J 0,G E,D J 0,H U 0 0,G E] 32)) 32 #[D J 0,D J 0,D J 0,D J 0,G E,D J 0,H U 0 0,G E];rwa [World.size_alloc] at this
 have h1:=h.below b1;have g1:w.grownBy ((w.alloc (.cells #[D J 0,D J 0,D J 0,D J 0,G E,D J 0,H U 0 0,G E] 32)).alloc (.cells #[D J 0,D J 0,D J 0,D J 0,G E,D J 0,H U 0 0,G E] 32)) (Z rb):=zAv b1;have ak:rb < w.heap.size:=hlt;have ae:rb < w.heap.size+1:=by omega
 have dI:w.heap.size≤w.heap.size:=Nat.le_refl _;have aC:w.heap.size≤w.heap.size+1:=by omega
 clear h b1;obtain ⟨a1,cd⟩:∃a,a=w.heap.size+1:=⟨_,rfl⟩
 have iO:=qH cd;have gW:w.heap.size < a1:=by omega
 go_enter Tryz.func98,Tryz.ntmps98;go_wp2_with fail
 generalize ((w.alloc (.cells #[D J 0,D J 0,D J 0,D J 0,G E,D J 0,H U 0 0,G E] 32)).alloc (.cells #[D J 0,D J 0,D J 0,D J 0,G E,D J 0,H U 0 0,G E] 32))=X1 at cM bI h1 g1 ⊢;rw [←cd] at bI ae aC ⊢;clear cd;refine (H1.out X1 h1).mono ?_;rintro e xR ⟨rfl,nP,gw⟩;have cZ:=cM.grownO gw ak;have cY:=bI.grownO gw ae;have nT:=zAb g1 gw;clear h1 g1 cM bI gw H1;go_wp2_with fail
 go_loopw [5] (fun v wv=>∃(k:Nat) (X:World),X=wv∧1≤k∧k≤9∧v=D J k∧Hid (RX X rb F s1∧Blk X w.heap.size 32 #[D J 0,D J 0,D J 0,D J 0,G E,D J 0,H U 0 0,G E]∧Blk X a1 32 #[D J (kTo K k),D J 0,D J 0,D J 0,G E,D J 0,H U 0 0,G E]∧w.grownBy X (Z rb))) (fun v _=>9-(intOf v).toNat)
 case atStart=>exact ⟨1,_,rfl,by omega,by omega,rfl,qH (by rw [show kTo K 1=0 from by unfold kTo;split<;>omega];exact ⟨nP,cZ,cY,nT⟩)⟩
 case round =>
  clear nP nT cZ cY;obtain ⟨k,X,hX,ag,iC,rfl,HX⟩:=hrel;subst hX;by_cases hk:k≤8
  ·have i1:(k:Int)≤8:=by omega
   have n0:=sq.out k ag hk;by_cases hq:K=(k:Int)
   ·obtain ⟨h12,cX,aY,r7⟩:=HX.out;rw [decide_eq_true hq] at n0;have Ec:=aY.frozen 0;have F6:X.cell? ⟨a1,0,U⟩=Z (D J (kTo K k)):=(aY.cell 0).trans rfl;have cV:Blk (X.setCell ⟨a1,0,U⟩ (D J (k:Int))) a1 32 #[D J (k:Int),D J 0,D J 0,D J 0,G E,D J 0,H U 0 0,G E]:=aY.set_ 0 _;have qn:Below (rb+1) X (X.setCell ⟨a1,0,U⟩ (D J (k:Int))):=(Below.refl _ _).setCell (p:=⟨a1,0,U⟩) ae _;have qW:Below w.heap.size X (X.setCell ⟨a1,0,U⟩ (D J (k:Int))):=(Below.refl _ _).setCell (p:=⟨a1,0,U⟩) aC _;have cW:=cX.far (p:=⟨a1,0,U⟩) (by simp only;omega) (D J (k:Int));have rW:=h12.over qn;have r6:=zAc r7 qW;clear h12 r7 cX aY qn qW;have HF:=qH (show kTo K (k+1)=(k:Int) by unfold kTo;rw [if_pos (by omega)];exact hq);have HZ:=qH (show RX (X.setCell ⟨a1,0,U⟩ (D J (k:Int))) rb F s1∧Blk (X.setCell ⟨a1,0,U⟩ (D J (k:Int))) w.heap.size 32 #[D J 0,D J 0,D J 0,D J 0,G E,D J 0,H U 0 0,G E]∧Blk (X.setCell ⟨a1,0,U⟩ (D J (k:Int))) a1 32 #[D J (k:Int),D J 0,D J 0,D J 0,G E,D J 0,H U 0 0,G E]∧w.grownBy (X.setCell ⟨a1,0,U⟩ (D J (k:Int))) (Z rb) from ⟨rW,cW,cV,r6⟩);clear HX hq rW r6 cW cV;go_wp2_with (first | (go_at_call 106;refine (zCd (k:Int) (by omega) (by omega) _).mono ?_;rintro e wq ⟨rfl,rfl⟩))
    go_roundw
    case rel=>exact ⟨k+1,_,rfl,by omega,by omega,by go_num,qH (by rw [HF.out];exact HZ.out)⟩
    case measure=>simp [intOf];omega
   ·rw [decide_eq_false hq] at n0;have HF:=qH (show kTo K (k+1)=kTo K k by unfold kTo;split<;>split<;>omega);clear hq;go_wp2_with (first | (go_at_call 106;refine (zCd (k:Int) (by omega) (by omega) _).mono ?_;rintro e wq ⟨rfl,rfl⟩))
    go_roundw
    case rel=>exact ⟨k+1,_,rfl,by omega,by omega,by go_num,qH (by rw [HF.out];exact HX.out)⟩
    case measure=>simp [intOf];omega
  ·have i1:¬(k:Int)≤8:=by omega
   obtain ⟨rV,cU,aX,rZ⟩:=HX.out;rw [show kTo K k=K from by unfold kTo;rw [if_pos (by omega)]] at aX;obtain ⟨c4,z4,hm⟩:=HM.out X rV;have HZ:=qH (fun (q:Bool) hq=>(show RX (X.setCell ⟨rb,4,U⟩ (G q)) rb F s2∧Blk (X.setCell ⟨rb,4,U⟩ (G q)) w.heap.size 32 #[D J 0,D J 0,D J 0,D J 0,G E,D J 0,H U 0 0,G E]∧Blk (X.setCell ⟨rb,4,U⟩ (G q)) a1 32 #[D J K,D J 0,D J 0,D J 0,G E,D J 0,H U 0 0,G E]∧w.grownBy (X.setCell ⟨rb,4,U⟩ (G q)) (Z rb) from ⟨(hm q hq).1,cU.grownO (hm q hq).2 ak,aX.grownO (hm q hq).2 ae,zAb rZ (hm q hq).2⟩));have f0:X.cell? ⟨a1,0,U⟩=Z (D J K):=(aX.cell 0).trans rfl;clear hm HM HX sq rV rZ cU aX;obtain ⟨q0,lX⟩:∃q,decide (K=0)=q:=⟨_,rfl⟩
   have i2:(K==0)=q0:=by rw [←lX];by_cases e:K=0<;>simp [e]
   rw [lX] at HZ;clear lX;go_upto_region 8 with fail
   go_cut [29] (fun _ wv=>∃X:World,X=wv∧RX X rb F s2∧Blk X w.heap.size 32 #[D J 0,D J 0,D J 0,D J 0,G E,D J 0,H U 0 0,G E]∧Blk X a1 32 #[D J K,D J 0,D J 0,D J 0,G E,D J 0,H U 0 0,G E]∧w.grownBy X (Z rb))
   case first =>
    cases b<;>cases q0
    all_goals
     go_wp2_with fail
     go_meet
     case rel=>exact ⟨_,rfl,HZ.out _ rfl⟩
   case rest =>
    clear c4 z4 HZ f0 i2;obtain ⟨X,hX,rU,cT,cS,rY⟩:=hcut;subst hX;go_wp2_with fail
    refine (H2.out X rU).mono ?_;rintro e xQ ⟨rfl,rT,gO⟩;have cR:=cT.grownO gO ak;have cQ:=cS.grownO gO ae;have rX:=zAb rY gO;clear rU rY cT cS gO H2;go_wp2_with fail
    refine (H3.out xQ rT).mono ?_;rintro e fk ⟨rfl,rS,gv⟩;have cO:=cR.grownO gv ak;have aW:=cQ.grownO gv ae;have g17:=zAb rX gv;clear rT rX cR cQ gv H3;have vv:=aW.frozen 1;have xO:fk.cell? ⟨a1,1,U⟩=Z (D J 0):=(aW.cell 1).trans rfl;have bx:Blk (fk.setCell ⟨a1,1,U⟩ (D J (f:Int))) a1 32 #[D J K,D J (f:Int),D J 0,D J 0,G E,D J 0,H U 0 0,G E]:=aW.set_ 1 _;have oP:Below (rb+1) fk (fk.setCell ⟨a1,1,U⟩ (D J (f:Int))):=(Below.refl _ _).setCell (p:=⟨a1,1,U⟩) ae _;have qV:Below w.heap.size fk (fk.setCell ⟨a1,1,U⟩ (D J (f:Int))):=(Below.refl _ _).setCell (p:=⟨a1,1,U⟩) aC _;have bz:=cO.far (p:=⟨a1,1,U⟩) (by simp only;omega) (D J (f:Int));have nO:=rS.over oP;have g18:=zAc g17 qV;clear rS g17 cO aW oP qV;go_upto_region 10 with fail
    clear vv xO;generalize fk.setCell ⟨a1,1,U⟩ (D J (f:Int))=X9 at nO g18 bz bx ⊢;have HA:=qH (show RX X9 rb F s4∧Blk X9 w.heap.size 32 #[D J 0,D J 0,D J 0,D J 0,G E,D J 0,H U 0 0,G E]∧Blk X9 a1 32 #[D J K,D J (f:Int),D J 0,D J 0,G E,D J 0,H U 0 0,G E]∧w.grownBy X9 (Z rb) from ⟨nO,bz,bx,g18⟩);clear nO g18 bz bx;by_cases n4:K=4
    ·subst n4;obtain ⟨jG,bw,aV,nR⟩:=HA.out;clear HA;have f0:X9.cell? ⟨a1,0,U⟩=Z (D J 4):=(aV.cell 0).trans rfl;obtain ⟨ov,eov⟩:∃x,ovT (xa s4.T 0)=x:=⟨_,rfl⟩
     obtain ⟨s5,e5⟩:∃x,s4.over=x:=⟨_,rfl⟩
     have aZ:=qH (fun wx (hx:RX wx rb F s4)=>zHG hx);simp only [eov,e5] at aZ;have HE:=qH (show zBW F.L 4 f s4=(⟨4,f,s0,[],ov⟩,s5) by unfold zBW;rw [if_pos rfl,eov,e5]);clear eov e5;go_wp2_with fail
     clear f0;refine (aZ.out X9 jG).mono ?_;rintro e iK ⟨rfl,lC,fU⟩;have eR:=bw.grownO fU ak;have du:=aV.grownO fU ae;have lE:=zAb nR fU;clear jG nR bw aV fU aZ;have yH:=du.frozen 7;have zL:iK.cell? ⟨a1,7,U⟩=Z (G E):=(du.cell 7).trans rfl;have bf:Blk (iK.setCell ⟨a1,7,U⟩ (G ov)) a1 32 #[D J 4,D J (f:Int),D J 0,D J 0,G E,D J 0,H U 0 0,G ov]:=du.set_ 7 _;have ka:Below (rb+1) iK (iK.setCell ⟨a1,7,U⟩ (G ov)):=(Below.refl _ _).setCell (p:=⟨a1,7,U⟩) ae _;have qQ:Below w.heap.size iK (iK.setCell ⟨a1,7,U⟩ (G ov)):=(Below.refl _ _).setCell (p:=⟨a1,7,U⟩) aC _;have ay:=eR.far (p:=⟨a1,7,U⟩) (by simp only;omega) (G ov);have dA:=lC.over ka;have dO:=zAc lE qQ;clear lC lE eR du ka qQ;go_upto_region 33 with fail
     clear yH zL;generalize iK.setCell ⟨a1,7,U⟩ (G ov)=fR at dA dO ay bf ⊢;obtain ⟨f0,f1,f2,f3,f4,f5,f6,f7⟩:=cQ8 bf;have y0:fR.cell? ⟨w.heap.size,0,U⟩=Z (D J 0):=(ay.cell 0).trans rfl;have iU:=ay.frozen 0;have y1:fR.cell? ⟨w.heap.size,1,U⟩=Z (D J 0):=(ay.cell 1).trans rfl;have iT:=ay.frozen 1;have y2:fR.cell? ⟨w.heap.size,2,U⟩=Z (D J 0):=(ay.cell 2).trans rfl;have j9:=ay.frozen 2;have y3:fR.cell? ⟨w.heap.size,3,U⟩=Z (D J 0):=(ay.cell 3).trans rfl;have j8:=ay.frozen 3;have y4:fR.cell? ⟨w.heap.size,4,U⟩=Z (G E):=(ay.cell 4).trans rfl;have j7:=ay.frozen 4;have y5:fR.cell? ⟨w.heap.size,5,U⟩=Z (D J 0):=(ay.cell 5).trans rfl;have j6:=ay.frozen 5;have y6:fR.cell? ⟨w.heap.size,6,U⟩=Z (H U 0 0):=(ay.cell 6).trans rfl;have j5:=ay.frozen 6;have y7:fR.cell? ⟨w.heap.size,7,U⟩=Z (G E):=(ay.cell 7).trans rfl;have jZ:=ay.frozen 7;have hS:=ay.store8 (D J 4) (D J (f:Int)) (D J 0) (D J 0) (G E) (D J 0) (H U 0 0) (G ov);have bS:=zAh (Below.refl (rb+1) fR) (show rb+1≤w.heap.size from ak) (D J 4) (D J (f:Int)) (D J 0) (D J 0) (G E) (D J 0) (H U 0 0) (G ov);have jO:=zAh (Below.refl w.heap.size fR) dI (D J 4) (D J (f:Int)) (D J 0) (D J 0) (G E) (D J 0) (H U 0 0) (G ov);have hX:=dA.over bS;have gX:=zAc dO jO;go_wp2_with fail
     exact zAn rfl rfl hS Tryz.underlying32 rfl (by kernel_rfl) rfl (dd.out ⟨4,f,s0,[],ov⟩ s5 HE.out _ U 0 0 (Row.none_ _ _ _) rfl hX gX)
    by_cases n5:K=5
    ·subst n5;obtain ⟨jF,cK,ce,nQ⟩:=HA.out;clear HA;have f0:X9.cell? ⟨a1,0,U⟩=Z (D J 5):=(ce.cell 0).trans rfl;obtain ⟨s5,e5⟩:∃x,s4.must zAU=x:=⟨_,rfl⟩
     obtain ⟨⟨xf,xl,xfar,xpc⟩,ex⟩:∃x,(zAW F.L s5).1=x:=⟨_,rfl⟩
     obtain ⟨s6,e6⟩:∃x,(zAW F.L s5).2=x:=⟨_,rfl⟩
     obtain ⟨ov,eov⟩:∃x,ovT (xa s6.T 0)=x:=⟨_,rfl⟩
     obtain ⟨s7,e7⟩:∃x,s6.over=x:=⟨_,rfl⟩
     have cu:=qH (fun wx (hx:RX wx rb F s5)=>zDY rb F s5 wx hx);simp only [ex,e6] at cu;have aZ:=qH (fun wx (hx:RX wx rb F s6)=>zHG hx);simp only [eov,e7] at aZ;have HE:=qH (show zBW F.L 5 f s4=(⟨5,f,⟨xf,xl,xfar,xpc⟩,[],ov⟩,s7) by unfold zBW;rw [if_neg (by omega),if_neg (by omega),if_pos rfl,e5,ex,e6,eov,e7]);have E5:=qH e5;clear eov e5 ex e6 e7;go_upto_region 22 with fail
     go_cut [91] (fun _ wv=>∃X:World,X=wv∧RX X rb F s5∧Blk X w.heap.size 32 #[D J 0,D J 0,D J 0,D J 0,G E,D J 0,H U 0 0,G E]∧Blk X a1 32 #[D J 5,D J (f:Int),D J 0,D J 0,G E,D J 0,H U 0 0,G E]∧w.grownBy X (Z rb))
     case first =>
      cases hb:s4.bad with
      | true =>
       have c4:X9.cell? ⟨rb,4,U⟩=Z (G Q):=by rw [←hb];exact jF.bad4.1
       have z4:=jF.bad4.2;have hm:=jF.marked E Q (by rw [hb];rfl);have HZ:=qH (show RX (X9.setCell ⟨rb,4,U⟩ (G Q)) rb F s5∧Blk (X9.setCell ⟨rb,4,U⟩ (G Q)) w.heap.size 32 #[D J 0,D J 0,D J 0,D J 0,G E,D J 0,H U 0 0,G E]∧Blk (X9.setCell ⟨rb,4,U⟩ (G Q)) a1 32 #[D J 5,D J (f:Int),D J 0,D J 0,G E,D J 0,H U 0 0,G E]∧w.grownBy (X9.setCell ⟨rb,4,U⟩ (G Q)) (Z rb) from ⟨by rw [←E5.out,zFu zAU hb];exact hm.1,cK.grownO hm.2 ak,ce.grownO hm.2 ae,zAb nQ hm.2⟩);clear hm hb jF nQ cK ce;go_wp2_with fail
       go_meet
       case rel=>exact ⟨_,rfl,HZ.out⟩
      | false =>
       obtain ⟨ib,eib⟩:∃b,isB s4.T zAU=b:=⟨_,rfl⟩
       have c4:X9.cell? ⟨rb,4,U⟩=Z (G E):=by rw [←hb];exact jF.bad4.1
       have z4:=jF.bad4.2;have HI:=qH (zNK jF zAU);rw [eib] at HI;have HE:=qH (show (s4.is zAU).mark (!ib)=s5 by rw [←E5.out,zEp zAU hb,eib]);have HB:=qH hb;clear eib hb;go_wp2_with fail
       refine HI.out.mono ?_;rintro e Y ⟨rfl,hy,qy⟩;have li:=cK.grownO qy ak;have lh:=ce.grownO qy ae;have xC:=zAb nQ qy;have c5:Y.cell? ⟨rb,4,U⟩=Z (G E):=by rw [←HB.out];exact hy.bad4.1
       have z5:=hy.bad4.2;have hm:=fun q (hq:q = !ib)=>hy.marked (!ib) q (by rw [show (s4.is zAU).bad=E from HB.out];exact hq)
       have HZ:=qH (fun (q:Bool) (hq:q = !ib)=>(show RX (Y.setCell ⟨rb,4,U⟩ (G q)) rb F s5∧Blk (Y.setCell ⟨rb,4,U⟩ (G q)) w.heap.size 32 #[D J 0,D J 0,D J 0,D J 0,G E,D J 0,H U 0 0,G E]∧Blk (Y.setCell ⟨rb,4,U⟩ (G q)) a1 32 #[D J 5,D J (f:Int),D J 0,D J 0,G E,D J 0,H U 0 0,G E]∧w.grownBy (Y.setCell ⟨rb,4,U⟩ (G q)) (Z rb) from ⟨by rw [←HE.out];exact (hm q hq).1,li.grownO (hm q hq).2 ak,lh.grownO (hm q hq).2 ae,zAb xC (hm q hq).2⟩));clear hm qy HI HE HB c4 z4 hy xC li lh jF nQ cK ce
       cases ib
       all_goals
        go_wp2_with fail
        go_meet
        case rel=>exact ⟨_,rfl,HZ.out _ rfl⟩
     case rest =>
      clear jF nQ cK ce;obtain ⟨oG,hX,fQ,eO,dr,gF⟩:=hcut;subst hX;clear f0 E5;go_wp2_with fail
      refine (cu.out oG fQ).mono ?_;rintro e bi ⟨rfl,iI,gL⟩;have al:=eO.grownO gL ak;have ax:=dr.grownO gL ae;have iJ:=zAb gF gL;clear fQ gF eO dr gL cu;have jY:=ax.frozen 2;have lI:bi.cell? ⟨a1,2,U⟩=Z (D J 0):=(ax.cell 2).trans rfl;have jX:=ax.frozen 3;have lH:bi.cell? ⟨a1,3,U⟩=Z (D J 0):=(ax.cell 3).trans rfl;have jW:=ax.frozen 4;have lG:bi.cell? ⟨a1,4,U⟩=Z (G E):=(ax.cell 4).trans rfl;have jV:=ax.frozen 5;have lF:bi.cell? ⟨a1,5,U⟩=Z (D J 0):=(ax.cell 5).trans rfl;have ic:Blk (bi.setCell ⟨a1,2,U⟩ (D J xf)) a1 32 #[D J 5,D J (f:Int),D J xf,D J 0,G E,D J 0,H U 0 0,G E]:=ax.set_ 2 _;have dY:Below (rb+1) bi (bi.setCell ⟨a1,2,U⟩ (D J xf)):=(Below.refl _ _).setCell (p:=⟨a1,2,U⟩) ae _;have ei:Below w.heap.size bi (bi.setCell ⟨a1,2,U⟩ (D J xf)):=(Below.refl _ _).setCell (p:=⟨a1,2,U⟩) aC _;have cD:=al.far (p:=⟨a1,2,U⟩) (by simp only;omega) (D J xf);have hG:Blk ((bi.setCell ⟨a1,2,U⟩ (D J xf)).setCell ⟨a1,3,U⟩ (D J xl)) a1 32 #[D J 5,D J (f:Int),D J xf,D J xl,G E,D J 0,H U 0 0,G E]:=ic.set_ 3 _;have dX:Below (rb+1) bi ((bi.setCell ⟨a1,2,U⟩ (D J xf)).setCell ⟨a1,3,U⟩ (D J xl)):=dY.setCell (p:=⟨a1,3,U⟩) ae _;have eh:Below w.heap.size bi ((bi.setCell ⟨a1,2,U⟩ (D J xf)).setCell ⟨a1,3,U⟩ (D J xl)):=ei.setCell (p:=⟨a1,3,U⟩) aC _;have cB:=cD.far (p:=⟨a1,3,U⟩) (by simp only;omega) (D J xl);have gZ:Blk (((bi.setCell ⟨a1,2,U⟩ (D J xf)).setCell ⟨a1,3,U⟩ (D J xl)).setCell ⟨a1,4,U⟩ (G xfar)) a1 32 #[D J 5,D J (f:Int),D J xf,D J xl,G xfar,D J 0,H U 0 0,G E]:=hG.set_ 4 _;have dW:Below (rb+1) bi (((bi.setCell ⟨a1,2,U⟩ (D J xf)).setCell ⟨a1,3,U⟩ (D J xl)).setCell ⟨a1,4,U⟩ (G xfar)):=dX.setCell (p:=⟨a1,4,U⟩) ae _;have d9:Below w.heap.size bi (((bi.setCell ⟨a1,2,U⟩ (D J xf)).setCell ⟨a1,3,U⟩ (D J xl)).setCell ⟨a1,4,U⟩ (G xfar)):=eh.setCell (p:=⟨a1,4,U⟩) aC _;have cA:=cB.far (p:=⟨a1,4,U⟩) (by simp only;omega) (G xfar);have eN:Blk ((((bi.setCell ⟨a1,2,U⟩ (D J xf)).setCell ⟨a1,3,U⟩ (D J xl)).setCell ⟨a1,4,U⟩ (G xfar)).setCell ⟨a1,5,U⟩ (D J xpc)) a1 32 #[D J 5,D J (f:Int),D J xf,D J xl,G xfar,D J xpc,H U 0 0,G E]:=gZ.set_ 5 _;have dV:Below (rb+1) bi ((((bi.setCell ⟨a1,2,U⟩ (D J xf)).setCell ⟨a1,3,U⟩ (D J xl)).setCell ⟨a1,4,U⟩ (G xfar)).setCell ⟨a1,5,U⟩ (D J xpc)):=dW.setCell (p:=⟨a1,5,U⟩) ae _;have dZ:Below w.heap.size bi ((((bi.setCell ⟨a1,2,U⟩ (D J xf)).setCell ⟨a1,3,U⟩ (D J xl)).setCell ⟨a1,4,U⟩ (G xfar)).setCell ⟨a1,5,U⟩ (D J xpc)):=d9.setCell (p:=⟨a1,5,U⟩) aC _;have bu:=cA.far (p:=⟨a1,5,U⟩) (by simp only;omega) (D J xpc);have mr:=iI.over dV;have mt:=zAc iJ dZ;clear iI iJ al ax dY ei ic cD dX eh hG cB dW d9 gZ cA dV dZ;go_wp2_with fail
      clear jY lI jX lH jW lG jV lF;generalize ((((bi.setCell ⟨a1,2,U⟩ (D J xf)).setCell ⟨a1,3,U⟩ (D J xl)).setCell ⟨a1,4,U⟩ (G xfar)).setCell ⟨a1,5,U⟩ (D J xpc))=X32 at mr mt bu eN ⊢;refine (aZ.out X32 mr).mono ?_;rintro e ue ⟨rfl,fh,sw⟩;have aR:=bu.grownO sw ak;have aI:=eN.grownO sw ae;have jH:=zAb mt sw;clear mr mt bu eN sw aZ;have z34:=aI.frozen 7;have d34:ue.cell? ⟨a1,7,U⟩=Z (G E):=(aI.cell 7).trans rfl;have ng:Blk (ue.setCell ⟨a1,7,U⟩ (G ov)) a1 32 #[D J 5,D J (f:Int),D J xf,D J xl,G xfar,D J xpc,H U 0 0,G ov]:=aI.set_ 7 _;have El:Below (rb+1) ue (ue.setCell ⟨a1,7,U⟩ (G ov)):=(Below.refl _ _).setCell (p:=⟨a1,7,U⟩) ae _;have Ep:Below w.heap.size ue (ue.setCell ⟨a1,7,U⟩ (G ov)):=(Below.refl _ _).setCell (p:=⟨a1,7,U⟩) aC _;have aH:=aR.far (p:=⟨a1,7,U⟩) (by simp only;omega) (G ov);have Fw:=fh.over El;have FB:=zAc jH Ep;clear fh jH aR aI El Ep;go_upto_region 33 with fail
      clear z34 d34;generalize ue.setCell ⟨a1,7,U⟩ (G ov)=X35 at Fw FB aH ng ⊢;obtain ⟨f0,f1,f2,f3,f4,f5,f6,f7⟩:=cQ8 ng;have y0:X35.cell? ⟨w.heap.size,0,U⟩=Z (D J 0):=(aH.cell 0).trans rfl;have iU:=aH.frozen 0;have y1:X35.cell? ⟨w.heap.size,1,U⟩=Z (D J 0):=(aH.cell 1).trans rfl;have iT:=aH.frozen 1;have y2:X35.cell? ⟨w.heap.size,2,U⟩=Z (D J 0):=(aH.cell 2).trans rfl;have j9:=aH.frozen 2;have y3:X35.cell? ⟨w.heap.size,3,U⟩=Z (D J 0):=(aH.cell 3).trans rfl;have j8:=aH.frozen 3;have y4:X35.cell? ⟨w.heap.size,4,U⟩=Z (G E):=(aH.cell 4).trans rfl;have j7:=aH.frozen 4;have y5:X35.cell? ⟨w.heap.size,5,U⟩=Z (D J 0):=(aH.cell 5).trans rfl;have j6:=aH.frozen 5;have y6:X35.cell? ⟨w.heap.size,6,U⟩=Z (H U 0 0):=(aH.cell 6).trans rfl;have j5:=aH.frozen 6;have y7:X35.cell? ⟨w.heap.size,7,U⟩=Z (G E):=(aH.cell 7).trans rfl;have jZ:=aH.frozen 7;have hS:=aH.store8 (D J 5) (D J (f:Int)) (D J xf) (D J xl) (G xfar) (D J xpc) (H U 0 0) (G ov);have bS:=zAh (Below.refl (rb+1) X35) (show rb+1≤w.heap.size from ak) (D J 5) (D J (f:Int)) (D J xf) (D J xl) (G xfar) (D J xpc) (H U 0 0) (G ov);have jO:=zAh (Below.refl w.heap.size X35) dI (D J 5) (D J (f:Int)) (D J xf) (D J xl) (G xfar) (D J xpc) (H U 0 0) (G ov);have hX:=Fw.over bS;have gX:=zAc FB jO;go_wp2_with fail
      exact zAn rfl rfl hS Tryz.underlying32 rfl (by kernel_rfl) rfl (dd.out ⟨5,f,⟨xf,xl,xfar,xpc⟩,[],ov⟩ s7 HE.out _ U 0 0 (Row.none_ _ _ _) rfl hX gX)
    by_cases n6:K=6
    ·subst n6;exact absurd HW.out (by omega)
    by_cases n7:K=7
    ·subst n7;exact absurd HW.out (by omega)
    by_cases n3:K=3
    ·subst n3;exact absurd HW.out (by omega)
    obtain ⟨zy,aB,eM,zJ⟩:=HA.out;clear HA;have m3:(K==3)=E:=by simpa using n3
    have m4:(K==4)=E:=by simpa using n4
    have m5:(K==5)=E:=by simpa using n5
    have m6:(K==6)=E:=by simpa using n6
    have m7:(K==7)=E:=by simpa using n7
    have HE:=qH (show zBW F.L K f s4=(⟨K,f,s0,[],E⟩,s4) by unfold zBW;rw [if_neg n4,if_neg n3,if_neg n5,if_neg n6,if_neg n7]);clear n3 n4 n5 n6 n7;have f0:X9.cell? ⟨a1,0,U⟩=Z (D J K):=(eM.cell 0).trans rfl;go_upto_region 33 with fail
    clear f0;obtain ⟨f0,f1,f2,f3,f4,f5,f6,f7⟩:=cQ8 eM;have y0:X9.cell? ⟨w.heap.size,0,U⟩=Z (D J 0):=(aB.cell 0).trans rfl;have iU:=aB.frozen 0;have y1:X9.cell? ⟨w.heap.size,1,U⟩=Z (D J 0):=(aB.cell 1).trans rfl;have iT:=aB.frozen 1;have y2:X9.cell? ⟨w.heap.size,2,U⟩=Z (D J 0):=(aB.cell 2).trans rfl;have j9:=aB.frozen 2;have y3:X9.cell? ⟨w.heap.size,3,U⟩=Z (D J 0):=(aB.cell 3).trans rfl;have j8:=aB.frozen 3;have y4:X9.cell? ⟨w.heap.size,4,U⟩=Z (G E):=(aB.cell 4).trans rfl;have j7:=aB.frozen 4;have y5:X9.cell? ⟨w.heap.size,5,U⟩=Z (D J 0):=(aB.cell 5).trans rfl;have j6:=aB.frozen 5;have y6:X9.cell? ⟨w.heap.size,6,U⟩=Z (H U 0 0):=(aB.cell 6).trans rfl;have j5:=aB.frozen 6;have y7:X9.cell? ⟨w.heap.size,7,U⟩=Z (G E):=(aB.cell 7).trans rfl;have jZ:=aB.frozen 7;have hS:=aB.store8 (D J K) (D J (f:Int)) (D J 0) (D J 0) (G E) (D J 0) (H U 0 0) (G E);have bS:=zAh (Below.refl (rb+1) X9) (show rb+1≤w.heap.size from ak) (D J K) (D J (f:Int)) (D J 0) (D J 0) (G E) (D J 0) (H U 0 0) (G E);have jO:=zAh (Below.refl w.heap.size X9) dI (D J K) (D J (f:Int)) (D J 0) (D J 0) (G E) (D J 0) (H U 0 0) (G E);have hX:=zy.over bS;have gX:=zAc zJ jO;go_wp2_with fail
    exact zAn rfl rfl hS Tryz.underlying32 rfl (by kernel_rfl) rfl (dd.out ⟨K,f,s0,[],E⟩ s4 HE.out _ U 0 0 (Row.none_ _ _ _) rfl hX gX)
end Go.Proofs.YtlmdfmnbcndhoaaGreatDoor
