/-
  Lemmas, part 19. Conditions: each theorem's own.
-/
import Derived.Test.YtlmdfmnbcndhoaaGreatDoorRc17
import Derived.Test.YtlmdfmnbcndhoaaGreatDoorRc16
open Option renaming none→U,some→Z
open Go.Value renaming bool→G,int→D,slice→H,string→W
open Bool renaming false→E,true→Q
open Go.IntKind renaming i64→J
namespace Go.Proofs.YtlmdfmnbcndhoaaGreatDoor
open Go.RowKit
set_option maxHeartbeats 12800000 in
set_option maxRecDepth 100000 in
theorem zLT (rb:Nat) (F:Fm) (s:RS) (w:World) (h:RX w rb F s) (hT:s.T.length≤100000) (hw:zBP (xa s.T 0)=6∨zBP (xa s.T 0)=7) :
  Calls Tryz.prog 98 #[.pointer (Z ⟨rb,0,U⟩)] w (zEP w rb F (opR F.L s).1 (opR F.L s).2):=by
 obtain ⟨S0,fw⟩:∃S,xa s.T 0=S:=⟨_,rfl⟩
 obtain ⟨s1,e1⟩:∃x,s.next=x:=⟨_,rfl⟩
 obtain ⟨K,eK⟩:∃x,zBP S0=x:=⟨_,rfl⟩
 obtain ⟨s2,e2⟩:∃x,s1.mark (decide (K=0))=x:=⟨_,rfl⟩
 obtain ⟨S1,jI⟩:∃S,xa s2.T 0=S:=⟨_,rfl⟩
 obtain ⟨s3,e3⟩:∃x,s2.next=x:=⟨_,rfl⟩
 obtain ⟨s4,e4⟩:∃x,s3.fing F.L S1=x:=⟨_,rfl⟩
 obtain ⟨f,efi⟩:∃x,zDE F.L S1=x:=⟨_,rfl⟩
 obtain ⟨b,eb⟩:∃b,s1.bad=b:=⟨_,rfl⟩
 have dm:xa s.T.tail 0=S1:=by rw [←jI,←e2,←e1];rfl
 have uN:s4.T.length≤100000:=by
  rw [←e4,←e3,←e2,←e1];simp only [RS.fing,RS.next,RS.mark,List.length_tail];omega
 have HR:=qH (show opR F.L s=zBW F.L K f s4 by
  have hp:zFq F.L s=s4:=by
   unfold zFq
   rw [fw,dm,e1,eK,e2,e3,e4]
  unfold opR
  rw [hp,fw,dm,eK,efi])
 have hK:0≤K∧K≤8:=by
  by_cases e:K=0
  ·omega
  ·have:=zHB (v:=S0) (by rw [eK];exact e);rw [eK] at this;omega
 have sq:=qH (fun (k:Nat) (h1:1≤k) (h8:k≤8)=>(show ((bA (zBk (k:Int))).toList==(bA S0).toList)=decide (K=(k:Int)) by
  rw [zAD,zAD,←eK];exact zFY h1 h8 S0))
 have H1:=qH (fun wx (hx:RX wx rb F s)=>zCG hx);have H2:=qH (fun wx (hx:RX wx rb F s2)=>zCG hx);have H3:=qH (fun wx (hx:RX wx rb F s3)=>zCH hx S1)
 have HM:=qH (fun wx (hx:RX wx rb F s1)=>(show wx.cell? ⟨rb,4,U⟩=Z (G b)∧wx.frozen? ⟨rb,4,U⟩=E∧∀q,q=(b||decide (K=0))→RX (wx.setCell ⟨rb,4,U⟩ (G q)) rb F s2∧wx.grownBy (wx.setCell ⟨rb,4,U⟩ (G q)) (Z rb) from
  ⟨by rw [←eb];exact hx.bad4.1,hx.bad4.2,fun q hq=>by rw [←e2];exact hx.marked (decide (K=0)) q (by rw [eb];exact hq)⟩))
 simp only [fw,e1] at H1;simp only [jI,e3] at H2;simp only [efi,e4] at H3;rw [HR.out];have HW:Hid (K=6∨K=7):=qH (by rw [←eK,←fw];exact hw);have hlt:=h.lt;have bst:=zKE
 have dd:=qH (fun (o:Og) (st:RS) (he:zBW F.L K f s4=(o,st)) (wx:World) (B:Option Addr) (m d:Nat) (hrow:Row wx w.heap.size 5 B m d (o.path.flatMap zIg)) (hm:m=o.path.length) (hx:RX wx rb F st) (hg:w.grownBy wx (Z rb)) =>
  (show zEP w rb F (zBW F.L K f s4).1 (zBW F.L K f s4).2 (.returned (opV o B m d)) wx from by rw [he];exact ⟨B,m,d,rfl,hrow,hm,hx,hg⟩))
 clear fw e1 e2 jI e3 e4 efi eb eK dm HR hT hw;have b1:Below w.heap.size w ((w.alloc (.cells #[D J 0,D J 0,D J 0,D J 0,G E,D J 0,H U 0 0,G E] 32)).alloc (.cells #[D J 0,D J 0,D J 0,D J 0,G E,D J 0,H U 0 0,G E] 32)):=((Below.refl _ _).alloc (Nat.le_refl _) _).alloc (by simp) _;have cM:Blk ((w.alloc (.cells #[D J 0,D J 0,D J 0,D J 0,G E,D J 0,H U 0 0,G E] 32)).alloc (.cells #[D J 0,D J 0,D J 0,D J 0,G E,D J 0,H U 0 0,G E] 32)) w.heap.size 32 #[D J 0,D J 0,D J 0,D J 0,G E,D J 0,H U 0 0,G E]:=(Blk.new w _ _).alloc _;have bI:Blk ((w.alloc (.cells #[D J 0,D J 0,D J 0,D J 0,G E,D J 0,H U 0 0,G E] 32)).alloc (.cells #[D J 0,D J 0,D J 0,D J 0,G E,D J 0,H U 0 0,G E] 32)) (w.heap.size+1) 32 #[D J 0,D J 0,D J 0,D J 0,G E,D J 0,H U 0 0,G E]:=by have:=Blk.new (w.alloc (.cells #[D J 0,D J 0,D J 0,D J 0,G E,D J 0,H U 0 0,G E] 32)) 32 #[D J 0,D J 0,D J 0,D J 0,G E,D J 0,H U 0 0,G E];rwa [World.size_alloc] at this
 have h1:=h.below b1;have g1:w.grownBy ((w.alloc (.cells #[D J 0,D J 0,D J 0,D J 0,G E,D J 0,H U 0 0,G E] 32)).alloc (.cells #[D J 0,D J 0,D J 0,D J 0,G E,D J 0,H U 0 0,G E] 32)) (Z rb):=zAv b1;have ak:rb < w.heap.size:=hlt;have ae:rb < w.heap.size+1:=by omega
 have dI:w.heap.size≤w.heap.size:=Nat.le_refl _;have aC:w.heap.size≤w.heap.size+1:=by omega
 clear h b1;obtain ⟨a1,cd⟩:∃a,a=w.heap.size+1:=⟨_,rfl⟩
 have iO:=qH cd;have gW:w.heap.size < a1:=by omega
 go_enter Tryz.func98,Tryz.ntmps98;go_wp2_with fail
 generalize ((w.alloc (.cells #[D J 0,D J 0,D J 0,D J 0,G E,D J 0,H U 0 0,G E] 32)).alloc (.cells #[D J 0,D J 0,D J 0,D J 0,G E,D J 0,H U 0 0,G E] 32))=X1 at cM bI h1 g1 ⊢;rw [←cd] at bI ae aC ⊢;clear cd;refine (H1.out X1 h1).mono ?_;rintro e xR ⟨rfl,nP,gw⟩;have cZ:=cM.grownO gw ak;have cY:=bI.grownO gw ae;have nT:=zAb g1 gw;clear h1 g1 cM bI gw H1;go_wp2_with fail
 go_loopw [5] (fun v wv=>∃(k:Nat) (X:World),X=wv∧1≤k∧k≤9∧v=D J k∧Hid (RX X rb F s1∧Blk X w.heap.size 32 #[D J 0,D J 0,D J 0,D J 0,G E,D J 0,H U 0 0,G E]∧Blk X a1 32 #[D J (kTo K k),D J 0,D J 0,D J 0,G E,D J 0,H U 0 0,G E]∧w.grownBy X (Z rb))) (fun v _=>9-(intOf v).toNat)
 case atStart=>exact ⟨1,_,rfl,by omega,by omega,rfl,qH (by rw [show kTo K 1=0 from by unfold kTo;split<;>omega];exact ⟨nP,cZ,cY,nT⟩)⟩
 case round =>
  clear nP nT cZ cY;obtain ⟨k,X,hX,ag,iC,rfl,HX⟩:=hrel;subst hX;by_cases hk:k≤8
  ·have i1:(k:Int)≤8:=by omega
   have n0:=sq.out k ag hk;by_cases hq:K=(k:Int)
   ·obtain ⟨h12,cX,aY,r7⟩:=HX.out;rw [decide_eq_true hq] at n0;have Ec:=aY.frozen 0;have F6:X.cell? ⟨a1,0,U⟩=Z (D J (kTo K k)):=(aY.cell 0).trans rfl;have cV:Blk (X.setCell ⟨a1,0,U⟩ (D J (k:Int))) a1 32 #[D J (k:Int),D J 0,D J 0,D J 0,G E,D J 0,H U 0 0,G E]:=aY.set_ 0 _;have qn:Below (rb+1) X (X.setCell ⟨a1,0,U⟩ (D J (k:Int))):=(Below.refl _ _).setCell (p:=⟨a1,0,U⟩) ae _;have qW:Below w.heap.size X (X.setCell ⟨a1,0,U⟩ (D J (k:Int))):=(Below.refl _ _).setCell (p:=⟨a1,0,U⟩) aC _;have cW:=cX.far (p:=⟨a1,0,U⟩) (by simp only;omega) (D J (k:Int));have rW:=h12.over qn;have r6:=zAc r7 qW;clear h12 r7 cX aY qn qW;have HF:=qH (show kTo K (k+1)=(k:Int) by unfold kTo;rw [if_pos (by omega)];exact hq);have HZ:=qH (show RX (X.setCell ⟨a1,0,U⟩ (D J (k:Int))) rb F s1∧Blk (X.setCell ⟨a1,0,U⟩ (D J (k:Int))) w.heap.size 32 #[D J 0,D J 0,D J 0,D J 0,G E,D J 0,H U 0 0,G E]∧Blk (X.setCell ⟨a1,0,U⟩ (D J (k:Int))) a1 32 #[D J (k:Int),D J 0,D J 0,D J 0,G E,D J 0,H U 0 0,G E]∧w.grownBy (X.setCell ⟨a1,0,U⟩ (D J (k:Int))) (Z rb) from ⟨rW,cW,cV,r6⟩);clear HX hq rW r6 cW cV;go_wp2_with (first | (go_at_call 106;refine (zCd (k:Int) (by omega) (by omega) _).mono ?_;rintro e wq ⟨rfl,rfl⟩))
    go_roundw
    case rel=>exact ⟨k+1,_,rfl,by omega,by omega,by go_num,qH (by rw [HF.out];exact HZ.out)⟩
    case measure=>simp [intOf];omega
   ·rw [decide_eq_false hq] at n0;have HF:=qH (show kTo K (k+1)=kTo K k by unfold kTo;split<;>split<;>omega);clear hq;go_wp2_with (first | (go_at_call 106;refine (zCd (k:Int) (by omega) (by omega) _).mono ?_;rintro e wq ⟨rfl,rfl⟩))
    go_roundw
    case rel=>exact ⟨k+1,_,rfl,by omega,by omega,by go_num,qH (by rw [HF.out];exact HX.out)⟩
    case measure=>simp [intOf];omega
  ·have i1:¬(k:Int)≤8:=by omega
   obtain ⟨rV,cU,aX,rZ⟩:=HX.out;rw [show kTo K k=K from by unfold kTo;rw [if_pos (by omega)]] at aX;obtain ⟨c4,z4,hm⟩:=HM.out X rV;have HZ:=qH (fun (q:Bool) hq=>(show RX (X.setCell ⟨rb,4,U⟩ (G q)) rb F s2∧Blk (X.setCell ⟨rb,4,U⟩ (G q)) w.heap.size 32 #[D J 0,D J 0,D J 0,D J 0,G E,D J 0,H U 0 0,G E]∧Blk (X.setCell ⟨rb,4,U⟩ (G q)) a1 32 #[D J K,D J 0,D J 0,D J 0,G E,D J 0,H U 0 0,G E]∧w.grownBy (X.setCell ⟨rb,4,U⟩ (G q)) (Z rb) from ⟨(hm q hq).1,cU.grownO (hm q hq).2 ak,aX.grownO (hm q hq).2 ae,zAb rZ (hm q hq).2⟩));have f0:X.cell? ⟨a1,0,U⟩=Z (D J K):=(aX.cell 0).trans rfl;clear hm HM HX sq rV rZ cU aX;obtain ⟨q0,lX⟩:∃q,decide (K=0)=q:=⟨_,rfl⟩
   have i2:(K==0)=q0:=by rw [←lX];by_cases e:K=0<;>simp [e]
   rw [lX] at HZ;clear lX;go_upto_region 8 with fail
   go_cut [29] (fun _ wv=>∃X:World,X=wv∧RX X rb F s2∧Blk X w.heap.size 32 #[D J 0,D J 0,D J 0,D J 0,G E,D J 0,H U 0 0,G E]∧Blk X a1 32 #[D J K,D J 0,D J 0,D J 0,G E,D J 0,H U 0 0,G E]∧w.grownBy X (Z rb))
   case first =>
    cases b<;>cases q0
    all_goals
     go_wp2_with fail
     go_meet
     case rel=>exact ⟨_,rfl,HZ.out _ rfl⟩
   case rest =>
    clear c4 z4 HZ f0 i2;obtain ⟨X,hX,rU,cT,cS,rY⟩:=hcut;subst hX;go_wp2_with fail
    refine (H2.out X rU).mono ?_;rintro e xQ ⟨rfl,rT,gO⟩;have cR:=cT.grownO gO ak;have cQ:=cS.grownO gO ae;have rX:=zAb rY gO;clear rU rY cT cS gO H2;go_wp2_with fail
    refine (H3.out xQ rT).mono ?_;rintro e fk ⟨rfl,rS,gv⟩;have cO:=cR.grownO gv ak;have aW:=cQ.grownO gv ae;have g17:=zAb rX gv;clear rT rX cR cQ gv H3;have vv:=aW.frozen 1;have xO:fk.cell? ⟨a1,1,U⟩=Z (D J 0):=(aW.cell 1).trans rfl;have bx:Blk (fk.setCell ⟨a1,1,U⟩ (D J (f:Int))) a1 32 #[D J K,D J (f:Int),D J 0,D J 0,G E,D J 0,H U 0 0,G E]:=aW.set_ 1 _;have oP:Below (rb+1) fk (fk.setCell ⟨a1,1,U⟩ (D J (f:Int))):=(Below.refl _ _).setCell (p:=⟨a1,1,U⟩) ae _;have qV:Below w.heap.size fk (fk.setCell ⟨a1,1,U⟩ (D J (f:Int))):=(Below.refl _ _).setCell (p:=⟨a1,1,U⟩) aC _;have bz:=cO.far (p:=⟨a1,1,U⟩) (by simp only;omega) (D J (f:Int));have nO:=rS.over oP;have g18:=zAc g17 qV;clear rS g17 cO aW oP qV;go_upto_region 10 with fail
    clear vv xO;generalize fk.setCell ⟨a1,1,U⟩ (D J (f:Int))=X9 at nO g18 bz bx ⊢;have HA:=qH (show RX X9 rb F s4∧Blk X9 w.heap.size 32 #[D J 0,D J 0,D J 0,D J 0,G E,D J 0,H U 0 0,G E]∧Blk X9 a1 32 #[D J K,D J (f:Int),D J 0,D J 0,G E,D J 0,H U 0 0,G E]∧w.grownBy X9 (Z rb) from ⟨nO,bz,bx,g18⟩);clear nO g18 bz bx;by_cases n4:K=4
    ·subst n4;exact absurd HW.out (by omega)
    by_cases n5:K=5
    ·subst n5;exact absurd HW.out (by omega)
    by_cases n6:K=6
    ·subst n6;obtain ⟨jG,bw,aV,nR⟩:=HA.out;clear HA;have f0:X9.cell? ⟨a1,0,U⟩=Z (D J 6):=(aV.cell 0).trans rfl;obtain ⟨s5,e5⟩:∃x,s4.must zAU=x:=⟨_,rfl⟩
     obtain ⟨S2,ub⟩:∃x,xa s5.T 0=x:=⟨_,rfl⟩
     obtain ⟨s6,e6⟩:∃x,s5.next=x:=⟨_,rfl⟩
     obtain ⟨g,eg⟩:∃x,zDE F.L S2=x:=⟨_,rfl⟩
     obtain ⟨s7,e7⟩:∃x,s6.fing F.L S2=x:=⟨_,rfl⟩
     obtain ⟨ov,eov⟩:∃x,ovT (xa s7.T 0)=x:=⟨_,rfl⟩
     obtain ⟨s8,e8⟩:∃x,s7.over=x:=⟨_,rfl⟩
     have hov:ovT (xa s5.T.tail 0)=ov:=by rw [←eov,←e7,←e6];rfl
     have iy:=qH (fun wx (hx:RX wx rb F s5)=>zCG hx);simp only [ub,e6] at iy;have bY:=qH (fun wx (hx:RX wx rb F s6)=>zCH hx S2);simp only [eg,e7] at bY;have aZ:=qH (fun wx (hx:RX wx rb F s7)=>zHG hx);simp only [eov,e8] at aZ;have HE:=qH (show zBW F.L 6 f s4=(⟨6,f,⟨g,0,E,0⟩,[],ov⟩,s8) by unfold zBW;rw [if_neg (by omega),if_neg (by omega),if_neg (by omega),if_pos rfl,e5,ub,e6,eg,e7,e8,hov]);have E5:=qH e5;clear eov e5 ub eg e6 e7 e8 hov;go_upto_region 30 with fail
     go_cut [116] (fun _ wv=>∃X:World,X=wv∧RX X rb F s5∧Blk X w.heap.size 32 #[D J 0,D J 0,D J 0,D J 0,G E,D J 0,H U 0 0,G E]∧Blk X a1 32 #[D J 6,D J (f:Int),D J 0,D J 0,G E,D J 0,H U 0 0,G E]∧w.grownBy X (Z rb))
     case first =>
      cases hb:s4.bad with
      | true =>
       have c4:X9.cell? ⟨rb,4,U⟩=Z (G Q):=by rw [←hb];exact jG.bad4.1
       have z4:=jG.bad4.2;have hm:=jG.marked E Q (by rw [hb];rfl);have HZ:=qH (show RX (X9.setCell ⟨rb,4,U⟩ (G Q)) rb F s5∧Blk (X9.setCell ⟨rb,4,U⟩ (G Q)) w.heap.size 32 #[D J 0,D J 0,D J 0,D J 0,G E,D J 0,H U 0 0,G E]∧Blk (X9.setCell ⟨rb,4,U⟩ (G Q)) a1 32 #[D J 6,D J (f:Int),D J 0,D J 0,G E,D J 0,H U 0 0,G E]∧w.grownBy (X9.setCell ⟨rb,4,U⟩ (G Q)) (Z rb) from ⟨by rw [←E5.out,zFu zAU hb];exact hm.1,bw.grownO hm.2 ak,aV.grownO hm.2 ae,zAb nR hm.2⟩);clear hm hb jG nR bw aV;go_wp2_with fail
       go_meet
       case rel=>exact ⟨_,rfl,HZ.out⟩
      | false =>
       obtain ⟨ib,eib⟩:∃b,isB s4.T zAU=b:=⟨_,rfl⟩
       have c4:X9.cell? ⟨rb,4,U⟩=Z (G E):=by rw [←hb];exact jG.bad4.1
       have z4:=jG.bad4.2;have HI:=qH (zNK jG zAU);rw [eib] at HI;have HE:=qH (show (s4.is zAU).mark (!ib)=s5 by rw [←E5.out,zEp zAU hb,eib]);have HB:=qH hb;clear eib hb;go_wp2_with fail
       refine HI.out.mono ?_;rintro e Y ⟨rfl,hy,qy⟩;have lk:=bw.grownO qy ak;have lj:=aV.grownO qy ae;have xD:=zAb nR qy;have c5:Y.cell? ⟨rb,4,U⟩=Z (G E):=by rw [←HB.out];exact hy.bad4.1
       have z5:=hy.bad4.2;have hm:=fun q (hq:q = !ib)=>hy.marked (!ib) q (by rw [show (s4.is zAU).bad=E from HB.out];exact hq)
       have HZ:=qH (fun (q:Bool) (hq:q = !ib)=>(show RX (Y.setCell ⟨rb,4,U⟩ (G q)) rb F s5∧Blk (Y.setCell ⟨rb,4,U⟩ (G q)) w.heap.size 32 #[D J 0,D J 0,D J 0,D J 0,G E,D J 0,H U 0 0,G E]∧Blk (Y.setCell ⟨rb,4,U⟩ (G q)) a1 32 #[D J 6,D J (f:Int),D J 0,D J 0,G E,D J 0,H U 0 0,G E]∧w.grownBy (Y.setCell ⟨rb,4,U⟩ (G q)) (Z rb) from ⟨by rw [←HE.out];exact (hm q hq).1,lk.grownO (hm q hq).2 ak,lj.grownO (hm q hq).2 ae,zAb xD (hm q hq).2⟩));clear hm qy HI HE HB c4 z4 hy xD lk lj jG nR bw aV
       cases ib
       all_goals
        go_wp2_with fail
        go_meet
        case rel=>exact ⟨_,rfl,HZ.out _ rfl⟩
     case rest =>
      clear jG nR bw aV;obtain ⟨fR,hX,dH,nk,nj,dJ⟩:=hcut;subst hX;clear f0 E5;go_wp2_with fail
      refine (iy.out fR dH).mono ?_;rintro e lJ ⟨rfl,jF,oO⟩;have cK:=nk.grownO oO ak;have ce:=nj.grownO oO ae;have nQ:=zAb dJ oO;clear dH dJ nk nj oO iy;go_wp2_with fail
      refine (bY.out lJ jF).mono ?_;rintro e gG ⟨rfl,lB,fA⟩;have eP:=cK.grownO fA ak;have dt:=ce.grownO fA ae;have lD:=zAb nQ fA;clear jF nQ cK ce fA bY;have Aj:=dt.frozen 2;have CV:gG.cell? ⟨a1,2,U⟩=Z (D J 0):=(dt.cell 2).trans rfl;have cI:Blk (gG.setCell ⟨a1,2,U⟩ (D J (g:Int))) a1 32 #[D J 6,D J (f:Int),D J (g:Int),D J 0,G E,D J 0,H U 0 0,G E]:=dt.set_ 2 _;have iA:Below (rb+1) gG (gG.setCell ⟨a1,2,U⟩ (D J (g:Int))):=(Below.refl _ _).setCell (p:=⟨a1,2,U⟩) ae _;have vD:Below w.heap.size gG (gG.setCell ⟨a1,2,U⟩ (D J (g:Int))):=(Below.refl _ _).setCell (p:=⟨a1,2,U⟩) aC _;have cJ:=eP.far (p:=⟨a1,2,U⟩) (by simp only;omega) (D J (g:Int));have gp:=lB.over iA;have iv:=zAc lD vD;clear lB lD eP dt iA vD;go_wp2_with fail
      clear Aj CV;generalize gG.setCell ⟨a1,2,U⟩ (D J (g:Int))=oG at gp iv cJ cI ⊢;refine (aZ.out oG gp).mono ?_;rintro e py ⟨rfl,fQ,oq⟩;have eO:=cJ.grownO oq ak;have dr:=cI.grownO oq ae;have gF:=zAb iv oq;clear gp iv cJ cI oq aZ;have DU:=dr.frozen 7;have FJ:py.cell? ⟨a1,7,U⟩=Z (G E):=(dr.cell 7).trans rfl;have ax:Blk (py.setCell ⟨a1,7,U⟩ (G ov)) a1 32 #[D J 6,D J (f:Int),D J (g:Int),D J 0,G E,D J 0,H U 0 0,G ov]:=dr.set_ 7 _;have gL:Below (rb+1) py (py.setCell ⟨a1,7,U⟩ (G ov)):=(Below.refl _ _).setCell (p:=⟨a1,7,U⟩) ae _;have vB:Below w.heap.size py (py.setCell ⟨a1,7,U⟩ (G ov)):=(Below.refl _ _).setCell (p:=⟨a1,7,U⟩) aC _;have al:=eO.far (p:=⟨a1,7,U⟩) (by simp only;omega) (G ov);have iI:=fQ.over gL;have iJ:=zAc gF vB;clear fQ gF eO dr gL vB;go_upto_region 33 with fail
      clear DU FJ;generalize py.setCell ⟨a1,7,U⟩ (G ov)=X31 at iI iJ al ax ⊢;obtain ⟨f0,f1,f2,f3,f4,f5,f6,f7⟩:=cQ8 ax;have y0:X31.cell? ⟨w.heap.size,0,U⟩=Z (D J 0):=(al.cell 0).trans rfl;have iU:=al.frozen 0;have y1:X31.cell? ⟨w.heap.size,1,U⟩=Z (D J 0):=(al.cell 1).trans rfl;have iT:=al.frozen 1;have y2:X31.cell? ⟨w.heap.size,2,U⟩=Z (D J 0):=(al.cell 2).trans rfl;have j9:=al.frozen 2;have y3:X31.cell? ⟨w.heap.size,3,U⟩=Z (D J 0):=(al.cell 3).trans rfl;have j8:=al.frozen 3;have y4:X31.cell? ⟨w.heap.size,4,U⟩=Z (G E):=(al.cell 4).trans rfl;have j7:=al.frozen 4;have y5:X31.cell? ⟨w.heap.size,5,U⟩=Z (D J 0):=(al.cell 5).trans rfl;have j6:=al.frozen 5;have y6:X31.cell? ⟨w.heap.size,6,U⟩=Z (H U 0 0):=(al.cell 6).trans rfl;have j5:=al.frozen 6;have y7:X31.cell? ⟨w.heap.size,7,U⟩=Z (G E):=(al.cell 7).trans rfl;have jZ:=al.frozen 7;have hS:=al.store8 (D J 6) (D J (f:Int)) (D J (g:Int)) (D J 0) (G E) (D J 0) (H U 0 0) (G ov);have bS:=zAh (Below.refl (rb+1) X31) (show rb+1≤w.heap.size from ak) (D J 6) (D J (f:Int)) (D J (g:Int)) (D J 0) (G E) (D J 0) (H U 0 0) (G ov);have jO:=zAh (Below.refl w.heap.size X31) dI (D J 6) (D J (f:Int)) (D J (g:Int)) (D J 0) (G E) (D J 0) (H U 0 0) (G ov);have hX:=iI.over bS;have gX:=zAc iJ jO;go_wp2_with fail
      exact zAn rfl rfl hS Tryz.underlying32 rfl (by kernel_rfl) rfl (dd.out ⟨6,f,⟨(g:Int),0,E,0⟩,[],ov⟩ s8 HE.out _ U 0 0 (Row.none_ _ _ _) rfl hX gX)
    by_cases n7:K=7
    ·subst n7;obtain ⟨fh,aR,aI,jH⟩:=HA.out;clear HA;have f0:X9.cell? ⟨a1,0,U⟩=Z (D J 7):=(aI.cell 0).trans rfl;obtain ⟨s5,e5⟩:∃x,s4.must zEN=x:=⟨_,rfl⟩
     obtain ⟨S2,ub⟩:∃x,xa s5.T 0=x:=⟨_,rfl⟩
     obtain ⟨s6,e6⟩:∃x,s5.next=x:=⟨_,rfl⟩
     obtain ⟨g,eg⟩:∃x,zDE F.L S2=x:=⟨_,rfl⟩
     obtain ⟨s7,e7⟩:∃x,s6.fing F.L S2=x:=⟨_,rfl⟩
     obtain ⟨ov,eov⟩:∃x,ovT (xa s7.T 0)=x:=⟨_,rfl⟩
     obtain ⟨s8,e8⟩:∃x,s7.over=x:=⟨_,rfl⟩
     have hov:ovT (xa s5.T.tail 0)=ov:=by rw [←eov,←e7,←e6];rfl
     have iy:=qH (fun wx (hx:RX wx rb F s5)=>zCG hx);simp only [ub,e6] at iy;have bY:=qH (fun wx (hx:RX wx rb F s6)=>zCH hx S2);simp only [eg,e7] at bY;have aZ:=qH (fun wx (hx:RX wx rb F s7)=>zHG hx);simp only [eov,e8] at aZ;have HE:=qH (show zBW F.L 7 f s4=(⟨7,f,⟨g,0,E,0⟩,[],ov⟩,s8) by unfold zBW;rw [if_neg (by omega),if_neg (by omega),if_neg (by omega),if_neg (by omega),if_pos rfl,e5,ub,e6,eg,e7,e8,hov]);have E5:=qH e5;clear eov e5 ub eg e6 e7 e8 hov;go_upto_region 30 with fail
     go_cut [116] (fun _ wv=>∃X:World,X=wv∧RX X rb F s5∧Blk X w.heap.size 32 #[D J 0,D J 0,D J 0,D J 0,G E,D J 0,H U 0 0,G E]∧Blk X a1 32 #[D J 7,D J (f:Int),D J 0,D J 0,G E,D J 0,H U 0 0,G E]∧w.grownBy X (Z rb))
     case first =>
      cases hb:s4.bad with
      | true =>
       have c4:X9.cell? ⟨rb,4,U⟩=Z (G Q):=by rw [←hb];exact fh.bad4.1
       have z4:=fh.bad4.2;have hm:=fh.marked E Q (by rw [hb];rfl);have HZ:=qH (show RX (X9.setCell ⟨rb,4,U⟩ (G Q)) rb F s5∧Blk (X9.setCell ⟨rb,4,U⟩ (G Q)) w.heap.size 32 #[D J 0,D J 0,D J 0,D J 0,G E,D J 0,H U 0 0,G E]∧Blk (X9.setCell ⟨rb,4,U⟩ (G Q)) a1 32 #[D J 7,D J (f:Int),D J 0,D J 0,G E,D J 0,H U 0 0,G E]∧w.grownBy (X9.setCell ⟨rb,4,U⟩ (G Q)) (Z rb) from ⟨by rw [←E5.out,zFu zEN hb];exact hm.1,aR.grownO hm.2 ak,aI.grownO hm.2 ae,zAb jH hm.2⟩);clear hm hb fh jH aR aI;go_wp2_with fail
       go_meet
       case rel=>exact ⟨_,rfl,HZ.out⟩
      | false =>
       obtain ⟨ib,eib⟩:∃b,isB s4.T zEN=b:=⟨_,rfl⟩
       have c4:X9.cell? ⟨rb,4,U⟩=Z (G E):=by rw [←hb];exact fh.bad4.1
       have z4:=fh.bad4.2;have HI:=qH (zNK fh zEN);rw [eib] at HI;have HE:=qH (show (s4.is zEN).mark (!ib)=s5 by rw [←E5.out,zEp zEN hb,eib]);have HB:=qH hb;clear eib hb;go_wp2_with fail
       refine HI.out.mono ?_;rintro e Y ⟨rfl,hy,qy⟩;have lg:=aR.grownO qy ak;have ld:=aI.grownO qy ae;have xB:=zAb jH qy;have c5:Y.cell? ⟨rb,4,U⟩=Z (G E):=by rw [←HB.out];exact hy.bad4.1
       have z5:=hy.bad4.2;have hm:=fun q (hq:q = !ib)=>hy.marked (!ib) q (by rw [show (s4.is zEN).bad=E from HB.out];exact hq)
       have HZ:=qH (fun (q:Bool) (hq:q = !ib)=>(show RX (Y.setCell ⟨rb,4,U⟩ (G q)) rb F s5∧Blk (Y.setCell ⟨rb,4,U⟩ (G q)) w.heap.size 32 #[D J 0,D J 0,D J 0,D J 0,G E,D J 0,H U 0 0,G E]∧Blk (Y.setCell ⟨rb,4,U⟩ (G q)) a1 32 #[D J 7,D J (f:Int),D J 0,D J 0,G E,D J 0,H U 0 0,G E]∧w.grownBy (Y.setCell ⟨rb,4,U⟩ (G q)) (Z rb) from ⟨by rw [←HE.out];exact (hm q hq).1,lg.grownO (hm q hq).2 ak,ld.grownO (hm q hq).2 ae,zAb xB (hm q hq).2⟩));clear hm qy HI HE HB c4 z4 hy xB lg ld fh jH aR aI
       cases ib
       all_goals
        go_wp2_with fail
        go_meet
        case rel=>exact ⟨_,rfl,HZ.out _ rfl⟩
     case rest =>
      clear fh jH aR aI;obtain ⟨X36,hX,zy,aB,eM,zJ⟩:=hcut;subst hX;clear f0 E5;go_wp2_with fail
      refine (iy.out X36 zy).mono ?_;rintro e X38 ⟨rfl,rR,yL⟩;have aw:=aB.grownO yL ak;have dR:=eM.grownO yL ae;have uV:=zAb zJ yL;clear zy zJ aB eM yL iy;go_wp2_with fail
      refine (bY.out X38 rR).mono ?_;rintro e ud ⟨rfl,Fv,yK⟩;have nf:=aw.grownO yK ak;have fX:=dR.grownO yK ae;have FA:=zAb uV yK;clear rR uV aw dR yK bY;have z40:=fX.frozen 2;have d40:ud.cell? ⟨a1,2,U⟩=Z (D J 0):=(fX.cell 2).trans rfl;have jk:Blk (ud.setCell ⟨a1,2,U⟩ (D J (g:Int))) a1 32 #[D J 7,D J (f:Int),D J (g:Int),D J 0,G E,D J 0,H U 0 0,G E]:=fX.set_ 2 _;have Ek:Below (rb+1) ud (ud.setCell ⟨a1,2,U⟩ (D J (g:Int))):=(Below.refl _ _).setCell (p:=⟨a1,2,U⟩) ae _;have Eo:Below w.heap.size ud (ud.setCell ⟨a1,2,U⟩ (D J (g:Int))):=(Below.refl _ _).setCell (p:=⟨a1,2,U⟩) aC _;have jl:=nf.far (p:=⟨a1,2,U⟩) (by simp only;omega) (D J (g:Int));have Cr:=Fv.over Ek;have Ct:=zAc FA Eo;clear Fv FA nf fX Ek Eo;go_wp2_with fail
      clear z40 d40;generalize ud.setCell ⟨a1,2,U⟩ (D J (g:Int))=X41 at Cr Ct jl jk ⊢;refine (aZ.out X41 Cr).mono ?_;rintro e uc ⟨rfl,Fu,yJ⟩;have nc:=jl.grownO yJ ak;have fW:=jk.grownO yJ ae;have Fz:=zAb Ct yJ;clear Cr Ct jl jk yJ aZ;have z43:=fW.frozen 7;have d43:uc.cell? ⟨a1,7,U⟩=Z (G E):=(fW.cell 7).trans rfl;have nb:Blk (uc.setCell ⟨a1,7,U⟩ (G ov)) a1 32 #[D J 7,D J (f:Int),D J (g:Int),D J 0,G E,D J 0,H U 0 0,G ov]:=fW.set_ 7 _;have Ej:Below (rb+1) uc (uc.setCell ⟨a1,7,U⟩ (G ov)):=(Below.refl _ _).setCell (p:=⟨a1,7,U⟩) ae _;have En:Below w.heap.size uc (uc.setCell ⟨a1,7,U⟩ (G ov)):=(Below.refl _ _).setCell (p:=⟨a1,7,U⟩) aC _;have aG:=nc.far (p:=⟨a1,7,U⟩) (by simp only;omega) (G ov);have Ft:=Fu.over Ej;have Fy:=zAc Fz En;clear Fu Fz nc fW Ej En;go_upto_region 33 with fail
      clear z43 d43;generalize uc.setCell ⟨a1,7,U⟩ (G ov)=X44 at Ft Fy aG nb ⊢;obtain ⟨f0,f1,f2,f3,f4,f5,f6,f7⟩:=cQ8 nb;have y0:X44.cell? ⟨w.heap.size,0,U⟩=Z (D J 0):=(aG.cell 0).trans rfl;have iU:=aG.frozen 0;have y1:X44.cell? ⟨w.heap.size,1,U⟩=Z (D J 0):=(aG.cell 1).trans rfl;have iT:=aG.frozen 1;have y2:X44.cell? ⟨w.heap.size,2,U⟩=Z (D J 0):=(aG.cell 2).trans rfl;have j9:=aG.frozen 2;have y3:X44.cell? ⟨w.heap.size,3,U⟩=Z (D J 0):=(aG.cell 3).trans rfl;have j8:=aG.frozen 3;have y4:X44.cell? ⟨w.heap.size,4,U⟩=Z (G E):=(aG.cell 4).trans rfl;have j7:=aG.frozen 4;have y5:X44.cell? ⟨w.heap.size,5,U⟩=Z (D J 0):=(aG.cell 5).trans rfl;have j6:=aG.frozen 5;have y6:X44.cell? ⟨w.heap.size,6,U⟩=Z (H U 0 0):=(aG.cell 6).trans rfl;have j5:=aG.frozen 6;have y7:X44.cell? ⟨w.heap.size,7,U⟩=Z (G E):=(aG.cell 7).trans rfl;have jZ:=aG.frozen 7;have hS:=aG.store8 (D J 7) (D J (f:Int)) (D J (g:Int)) (D J 0) (G E) (D J 0) (H U 0 0) (G ov);have bS:=zAh (Below.refl (rb+1) X44) (show rb+1≤w.heap.size from ak) (D J 7) (D J (f:Int)) (D J (g:Int)) (D J 0) (G E) (D J 0) (H U 0 0) (G ov);have jO:=zAh (Below.refl w.heap.size X44) dI (D J 7) (D J (f:Int)) (D J (g:Int)) (D J 0) (G E) (D J 0) (H U 0 0) (G ov);have hX:=Ft.over bS;have gX:=zAc Fy jO;go_wp2_with fail
      exact zAn rfl rfl hS Tryz.underlying32 rfl (by kernel_rfl) rfl (dd.out ⟨7,f,⟨(g:Int),0,E,0⟩,[],ov⟩ s8 HE.out _ U 0 0 (Row.none_ _ _ _) rfl hX gX)
    by_cases n3:K=3
    ·subst n3;exact absurd HW.out (by omega)
    exact absurd HW.out (by omega)
theorem zJC (S:List UInt8) (hs:S.length≤1000000) (w:World) :
  Calls Tryz.prog 145 #[W (bA S),W ⟨#[44]⟩] w fun e w'=>e=.returned (.tuple #[W (bA (if S.getLast? = Z 44 then S.dropLast else S)),G (decide (S.getLast? = Z 44))])∧w'=w:=by
 refine (Tryz.strings_CutSuffix (bA S) ⟨#[44]⟩ w (by rw [zAP];omega)).mono ?_;rintro e w' ⟨rfl,rfl⟩;have h1:Lib.hasSuffix S [44]=decide (S.getLast? = Z 44):=by
  unfold Lib.hasSuffix;by_cases h:S.getLast? = Z 44
  ·rw [decide_eq_true h,List.isSuffixOf_iff_suffix];obtain ⟨C,rfl⟩:=List.getLast?_eq_some_iff.1 h;exact ⟨C,rfl⟩
  ·rw [decide_eq_false h]
   cases e:List.isSuffixOf [44] S with
   | false=>rfl
   | true =>
    obtain ⟨C,hC⟩:=List.isSuffixOf_iff_suffix.1 e;exact absurd (List.getLast?_eq_some_iff.2 ⟨C,hC.symm⟩) h
 have h2:Lib.trimSuffix S [44]=if S.getLast? = Z 44 then S.dropLast else S:=by
  unfold Lib.trimSuffix;rw [h1];by_cases h:S.getLast? = Z 44
  ·rw [if_pos h,if_pos (decide_eq_true h),List.dropLast_eq_take];rfl
  ·rw [if_neg h,if_neg (by simpa using h)]
 simp only [zDM];rw [h1,h2];exact ⟨rfl,trivial⟩
theorem zHH (s:List UInt8) (hs:s.length≤100000) (w:World) (ht:Tabs w) :
  Calls Tryz.prog 119 #[W (bA s),W ⟨#[32]⟩] w fun e w'=>e=.returned (.slice (Z ⟨w.heap.size,0,U⟩) (zAN 32 s).length (zAN 32 s).length)∧w'=w.alloc (.cells ((zAN 32 s).map fun p=>Value.string (bA p)).toArray 9):=by
 obtain ⟨m,hm⟩:=ht.most;refine (Tryz.strings_Split (bA s) ⟨#[32]⟩ m w (by rw [zAP];omega) hm (by decide)).mono ?_;rintro e w' ⟨rfl,rfl⟩;have h1:Lib.splitB ⟨#[32]⟩ 0 (Lib.countB (bA s) ⟨#[32]⟩) (bA s)=(zAN 32 s).map bA:=zLL 32 s;have h2:Lib.countB (bA s) ⟨#[32]⟩+1=(zAN 32 s).length:=by
  rw [zFm]
  congr 1
  exact Lib.count_one 32 s
 rw [h1,h2,List.map_map];exact ⟨rfl,rfl⟩
theorem Row.els {α:Type} {w:World} {base sz:Nat} {A:Option Addr} {n c:Nat} {enc:α→List Value} {L:List α} (h:Row w base sz A n c (L.flatMap enc)) (hz:∀x,(enc x).length=sz) (h0:0 < sz) (hn:n≤17592186043904):Els sz enc w A n L:=by
 have hl:L.length=n:=by
  have:=h.len;have h2:∀M:List α,(M.flatMap enc).length=M.length*sz:=fun M=>by
   induction M with
   | nil=>simp
   | cons x M ih=>rw [List.flatMap_cons,List.length_append,ih,hz,List.length_cons,Nat.add_mul];omega
  rw [h2] at this;exact Nat.eq_of_mul_eq_mul_right h0 this
 refine ⟨hl,hn,fun hp=>?_⟩;obtain ⟨g,o,e,_,hg⟩:=h.form hp;subst e;refine ⟨g,o,rfl,hg,fun j x hx q v hv=>?_⟩;have hq:q < sz:=by rw [←hz x];exact (List.getElem?_eq_some_iff.1 hv).1
 have:=h.cell (j:=j*sz+q) (by rw [zEL enc sz hz L j q x hx hq];exact hv)
 rwa [←Nat.add_assoc] at this
theorem zRW (T:List (List UInt8)):T.map zLi=T.flatMap (fun S=>[zLi S]):=by
 induction T with
 | nil=>rfl
 | cons x T ih=>rw [List.map_cons,List.flatMap_cons,ih];rfl
theorem Row.txts {w:World} {base:Nat} {A:Option Addr} {n c:Nat} {T:List (List UInt8)} (h:Row w base 1 A n c (T.map zLi)) (hn:n≤17592186043904):Txts w A n T:=by
 rw [zRW] at h;exact h.els (fun _=>rfl) (by omega) hn
theorem zWk {w:World} {ops:Array Oper} {rest:List Oper} {o:Oper} {a:Act} {ZS:Exit→Act→World→Prop} (hgd:o.guard=U) (s x:Operand)
  (ho:o.op=.call { callee:=.builtin .append,args:=#[s,x],argTypes:=#[112,112] })
  {base:Nat} {A:Option Addr} {n c:Nat} {Ss:List (List UInt8)} (hst:Row w base 1 A n c (Ss.map zLi)) (S R:List UInt8)
  (hs:a.eval s=H A n c) (hx:a.eval x=H (Z ⟨w.heap.size,0,U⟩) 2 2) (N:Nat) (hN:n+2=N) (hn:N≤1000000) (hbase:base≤w.heap.size)
  (h:∀A' c' w',Row w' base 1 A' N c' ((Ss++[S,R]).map zLi)→Below base w w'→wpList Tryz.prog ops ZS rest (a.put o.dst (H A' N c')) w') :
  wpList Tryz.prog ops ZS (o :: rest) a (w.alloc (.cells #[W (bA S),W (bA R)] 9)):=by
 obtain ⟨i0,hi,aT,az,bt⟩:=info_parts zJf;have hbl:=(Below.refl w.heap.size w).alloc (Nat.le_refl _) (.cells #[W (bA S),W (bA R)] 9);have bO:=hst.below hbl
 refine zOy hgd s x 112 ho 9 i0 _ 1 16 Tryz.underlying112 hi aT az bt rfl (by decide) bO (Src.new (m:=2) (cs:=[W (bA S),W (bA R)]) rfl)
  (by intro u hu;simp at hu;rcases hu with rfl | rfl<;>rfl) hs hx N hN (by unfold maxLen;omega) (by omega) (by simp;omega) ?_
 intro A' c' w' h1 h2 _ _;refine h A' c' w' (by rw [List.map_append];exact h1) ?_;exact ((Below.refl _ _).alloc hbase _).trans (bO.belowOf h2 (by simp;omega))
def zFZ (w0:World) (T:List (List UInt8)) (e:Ending) (w':World):Prop :=
 ∃B m d,e=.returned (H B m d)∧Row w' w0.heap.size 1 B m d (T.map zLi)∧m≤1000000∧Below w0.heap.size w0 w'
theorem zNL (ZR:List (List UInt8)):(ZR.flatMap zAY).length≤2*ZR.length:=by
 induction ZR with
 | nil=>simp
 | cons x ZR ih =>
  have:(zAY x).length≤2:=by rcases zBq x with ⟨h,_⟩ | ⟨C,_,h⟩<;>rw [h]<;>simp
  rw [List.flatMap_cons,List.length_append,List.length_cons];omega
theorem zCx (S:List UInt8):(zAN 32 S).length≤S.length+1:=by
 rw [zFm];have:=List.count_le_length (a:=(32:UInt8)) (l:=S);omega
theorem zGa (S:List UInt8):(zBD S).length≤2*S.length+2:=by
 have:=zNL (zAN 32 S);have:=zCx S;unfold zBD;omega
set_option maxHeartbeats 3200000 in
theorem zLU (S:List UInt8) (hS:S.length≤100000) (w:World) (ht:Tabs w) :
  Calls Tryz.prog 97 #[W (bA S)] w (zFZ w (zBD S)):=by
 have fS:=qH (zHH S hS w ht);obtain ⟨Ws,hW⟩:∃ZR,zAN 32 S=ZR:=⟨_,rfl⟩
 rw [hW] at fS;have hpl:∀p∈Ws,p.length≤100000:=fun p hp=>by rw [←hW] at hp;exact Nat.le_trans (zCw 32 S p hp) hS
 have hwl:Ws.length≤100001:=by rw [←hW];have:=zCx S;omega
 have HT:=qH (show zBD S=Ws.flatMap zAY by unfold zBD;rw [hW]);have cu:=qH hpl;rw [HT.out];obtain ⟨n,hn⟩:∃n,Ws.length=n:=⟨_,rfl⟩
 rw [hn] at fS hwl;have HN:=qH hn;clear hW hpl ht hn hS HT;go_enter Tryz.func97,Tryz.ntmps97;go_wp2_with fail
 refine fS.out.mono ?_;rintro e X ⟨rfl,hX⟩;have aE:Below w.heap.size w X:=by rw [hX];exact (Below.refl _ _).alloc (Nat.le_refl _) _
 have wK:∀(j:Nat) (p:List UInt8),Ws[j]? = Z p→X.cell? ⟨w.heap.size,j,U⟩=Z (W (bA p)):=fun j p hp=>by
  rw [hX,World.cell?_alloc_at _ _ _ _ rfl];simp [hp]
 have oX:w.heap.size < X.heap.size:=by rw [hX];simp
 have yA:=qH wK;clear hX wK fS;go_wp2_with fail
 go_loopw [3,11] (fun v3 pL wv=>∃(i:Nat) (Y:World) (A':Option Addr) (m c':Nat) (T:List (List UInt8)),Y=wv∧i≤n∧pL=D J i∧v3=H A' m c'∧Row Y X.heap.size 1 A' m c' (T.map zLi)∧Below X.heap.size X Y∧m≤2*i∧Hid (T=(Ws.take i).flatMap zAY)) (fun _ pL _=>n-(intOf pL).toNat)
 case atStart=>exact ⟨0,_,U,0,0,[],rfl,by omega,rfl,rfl,Row.none_ _ _ _,Below.refl _ _,by omega,qH rfl⟩
 case round =>
  obtain ⟨i,Y,A',m,c',T,hY,hi,rfl,rfl,hR,hb,hm,eF⟩:=hrel;subst hY;by_cases hlt:i < n
  ·have j0:(0:Int)≤(i:Int):=by omega
   have j1:(i:Int) < (n:Int):=by omega
   obtain ⟨p,hp⟩:∃p,Ws[i]? = Z p:=⟨Ws[i]'(by rw [HN.out];exact hlt),List.getElem?_eq_getElem _⟩
   have hc:Y.cell? ⟨w.heap.size,i,U⟩=Z (W (bA p)):=(hb.cell (p:=⟨w.heap.size,i,U⟩) oX).trans (yA.out i p hp);have hlen:p.length≤1000000:=Nat.le_trans (cu.out p (List.mem_of_getElem? hp)) (by omega);have eG:=qH (zJC p hlen Y);have hz:X.heap.size≤Y.heap.size:=hb.size;by_cases hq:p.getLast? = Z 44
   ·rw [if_pos hq,decide_eq_true hq] at eG;obtain ⟨C,hC⟩:∃C,p.dropLast=C:=⟨_,rfl⟩
    rw [hC] at eG
    have mx:=qH (show T++[C,[44]]=(Ws.take (i+1)).flatMap zAY by
     rw [List.take_add_one,hp,List.flatMap_append,eF.out]
     simp [zAY,hq,hC])
    clear hp hlen hq hC eF;go_wp2_with fail
    refine eG.out.mono ?_;rintro e Y2 ⟨rfl,rfl⟩;go_wp2_with (at_builtin;refine zWk rfl _ _ rfl hR C [44] rfl rfl (m+2) rfl (by omega) hz ?_;intro A2 c2 w9 hR9 aJ)
    have bH:=hb.trans aJ;clear hR hb aJ hc;go_wp2_with fail
    go_roundw
    case rel=>exact ⟨i+1,_,A2,m+2,c2,T++[C,[44]],rfl,by omega,by go_num,rfl,hR9,bH,by omega,mx⟩
    case measure=>simp [intOf];omega
   ·rw [if_neg hq,decide_eq_false hq] at eG
    have mx:=qH (show T++[p]=(Ws.take (i+1)).flatMap zAY by
     rw [List.take_add_one,hp,List.flatMap_append,eF.out]
     simp [zAY,hq])
    clear hp hlen hq eF;go_wp2_with fail
    refine eG.out.mono ?_;rintro e Y2 ⟨rfl,rfl⟩;go_wp2_with (at_builtin;refine zRH rfl _ _ rfl hR p rfl rfl (m+1) rfl (by omega) hz ?_;intro A2 c2 w9 hR9 aJ)
    have bH:=hb.trans aJ;clear hR hb aJ hc;go_wp2_with fail
    go_roundw
    case rel=>exact ⟨i+1,_,A2,m+1,c2,T++[p],rfl,by omega,by go_num,rfl,hR9,bH,by omega,mx⟩
    case measure=>simp [intOf];omega
  ·have j1:¬(i:Int) < (n:Int):=by omega
   have hin:i=n:=by omega
   have oJ:=qH (show T=Ws.flatMap zAY by rw [eF.out,hin,←HN.out,List.take_length]);have hz:w.heap.size≤X.heap.size:=aE.size;clear hin hlt eF yA;go_wp2_with fail
   go_ret;exact ⟨A',m,c',rfl,by rw [←oJ.out];exact hR.mono hz,by omega,zAa aE hb aE.size⟩
end Go.Proofs.YtlmdfmnbcndhoaaGreatDoor
