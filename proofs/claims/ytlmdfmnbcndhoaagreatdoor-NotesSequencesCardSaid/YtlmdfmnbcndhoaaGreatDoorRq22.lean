/-
  Lemmas, part 22. Conditions: each theorem's own.
-/
import Derived.Test.YtlmdfmnbcndhoaaGreatDoorRq21
open Go.Value renaming bool→G,int→D,slice→H,string→W
open Go.IntKind renaming i64→J
open Option renaming none→U,some→Z
open Bool renaming false→E,true→Q
namespace Go.Proofs.YtlmdfmnbcndhoaaGreatDoor
open Go.RowKit
set_option maxHeartbeats 12800000 in
set_option maxRecDepth 100000 in
theorem zMa (rb:Nat) (F:Fm) (s:RS) (S:List UInt8) (w:World) (h:RX w rb F s) (hS:S.length≤100000) :
  Calls Tryz.prog 120 #[.pointer (Z ⟨rb,0,U⟩),W (bA S)] w (zCm w rb F s S):=by
 have hlt:=h.lt;obtain ⟨a1,bB⟩:∃a,a=w.heap.size+1:=⟨_,rfl⟩
 obtain ⟨a2,eP⟩:∃a,a=w.heap.size+2:=⟨_,rfl⟩
 have iA:=qH bB;have ug:=qH eP;have bh:rb < w.heap.size:=hlt;have ap:rb < a1:=by omega
 have ck:rb < a2:=by omega
 have aK:w.heap.size≤a1:=by omega
 have fD:w.heap.size < a1:=by omega
 have iR:a1 < a2:=by omega
 have aa:Below w.heap.size w (((w.alloc (.cells #[D J 0,D J 0,D J 0,D J 0,G E,D J 0,H U 0 0,G E] 32)).alloc (.cells #[D J 0,D J 0,D J 0,D J 0,G E,D J 0,H U 0 0,G E] 32)).alloc (.cells #[D J 0,D J 0,G E,D J 0] 29)):=(((Below.refl _ _).alloc (Nat.le_refl _) _).alloc (by simp) _).alloc (by simp;omega) _;have kr:Blk (((w.alloc (.cells #[D J 0,D J 0,D J 0,D J 0,G E,D J 0,H U 0 0,G E] 32)).alloc (.cells #[D J 0,D J 0,D J 0,D J 0,G E,D J 0,H U 0 0,G E] 32)).alloc (.cells #[D J 0,D J 0,G E,D J 0] 29)) w.heap.size 32 #[D J 0,D J 0,D J 0,D J 0,G E,D J 0,H U 0 0,G E]:=((Blk.new w _ _).alloc _).alloc _;have ko:Blk (((w.alloc (.cells #[D J 0,D J 0,D J 0,D J 0,G E,D J 0,H U 0 0,G E] 32)).alloc (.cells #[D J 0,D J 0,D J 0,D J 0,G E,D J 0,H U 0 0,G E] 32)).alloc (.cells #[D J 0,D J 0,G E,D J 0] 29)) (w.heap.size+1) 32 #[D J 0,D J 0,D J 0,D J 0,G E,D J 0,H U 0 0,G E]:=by have:=(Blk.new (w.alloc (.cells #[D J 0,D J 0,D J 0,D J 0,G E,D J 0,H U 0 0,G E] 32)) 32 #[D J 0,D J 0,D J 0,D J 0,G E,D J 0,H U 0 0,G E]).alloc (.cells #[D J 0,D J 0,G E,D J 0] 29);rwa [World.size_alloc] at this
 have kx:Blk (((w.alloc (.cells #[D J 0,D J 0,D J 0,D J 0,G E,D J 0,H U 0 0,G E] 32)).alloc (.cells #[D J 0,D J 0,D J 0,D J 0,G E,D J 0,H U 0 0,G E] 32)).alloc (.cells #[D J 0,D J 0,G E,D J 0] 29)) (w.heap.size+2) 29 #[D J 0,D J 0,G E,D J 0]:=by have:=Blk.new ((w.alloc (.cells #[D J 0,D J 0,D J 0,D J 0,G E,D J 0,H U 0 0,G E] 32)).alloc (.cells #[D J 0,D J 0,D J 0,D J 0,G E,D J 0,H U 0 0,G E] 32)) 29 #[D J 0,D J 0,G E,D J 0];rwa [World.size_alloc,World.size_alloc] at this
 have h1:=h.below aa;have g1:w.grownBy (((w.alloc (.cells #[D J 0,D J 0,D J 0,D J 0,G E,D J 0,H U 0 0,G E] 32)).alloc (.cells #[D J 0,D J 0,D J 0,D J 0,G E,D J 0,H U 0 0,G E] 32)).alloc (.cells #[D J 0,D J 0,G E,D J 0] 29)) (Z rb):=zAt aa;have dY:=qH (fun wx (hx:RX wx rb F s)=>zNf hx S);have B1:=qH (zLZ S);clear h aa;go_enter Tryz.func120,Tryz.ntmps120;go_wp2_with fail
 refine zEc (fun l q a wv=>zBe w rb a1 a2 F s S l q a wv) ?_ ?_
 ·skip;go_wp2_with fail
  generalize (((w.alloc (.cells #[D J 0,D J 0,D J 0,D J 0,G E,D J 0,H U 0 0,G E] 32)).alloc (.cells #[D J 0,D J 0,D J 0,D J 0,G E,D J 0,H U 0 0,G E] 32)).alloc (.cells #[D J 0,D J 0,G E,D J 0] 29))=X at kr ko kx h1 g1 ⊢;rw [←bB] at ko ⊢;rw [←eP] at kx;rw [show a1+1=a2 from by omega];clear bB eP;refine (dY.out X h1).mono ?_;intro e X2 hc
  cases hcf:zFV S with
  | none =>
   obtain ⟨rfl,hx,hg⟩:=zHh hc hcf;have HN:=qH (show zAJ S=U by rw [B1.out,hcf]);clear hcf;have cn:=kr.grownO hg bh;have aM:=ko.grownO hg ap;have aR:=kx.grownO hg ck;have g2:=zAb g1 hg;clear hc hg g1 kr ko kx h1;have z21:=aM.frozen 1;have d21:X2.cell? ⟨a1,1,U⟩=Z (D J 0):=(aM.cell 1).trans rfl;have fC:Below (rb+1) X2 (X2.setCell ⟨a1,1,U⟩ (D J 0)):=(Below.refl _ _).setCell (p:=⟨a1,1,U⟩) ap _;have Dm:Below w.heap.size X2 (X2.setCell ⟨a1,1,U⟩ (D J 0)):=(Below.refl _ _).setCell (p:=⟨a1,1,U⟩) aK _;have gH:=cn.far (p:=⟨a1,1,U⟩) (by simp only;omega) (D J 0);have kK:=hx.over fC;have kO:=zAd g2 Dm;clear hx g2 cn aM aR fC Dm;have HG:=qH (show zCF w rb w.heap.size a1 a2 F s S 0 (1) (X2.setCell ⟨a1,1,U⟩ (D J 0)) (S) from .inl ⟨rfl,rfl,⟨⟨_,kK⟩,gH,kO,HN.out⟩⟩);clear kK kO gH;go_wp2_with fail
   go_step3
   refine (show ∃n',zBe w rb a1 a2 F s S 0 n' _ _ from ?_);exact ⟨_,_,S,rfl,⟨rfl,rfl,rfl,rfl,rfl,rfl,rfl⟩,HG⟩
  | some p =>
   obtain ⟨f,q0⟩:=p;obtain ⟨rfl,hx,hg⟩:=zHg hc hcf;have hqi:=(zNc hcf).2.2;obtain ⟨fi,hfi⟩:∃x,(zBa F.L f:Int)=x:=⟨_,rfl⟩
   rw [hfi];have fA:=qH hfi;have n0:=zAL q0 [];clear hfi;have cn:=kr.grownO hg bh;have aM:=ko.grownO hg ap;have aR:=kx.grownO hg ck;have g2:=zAb g1 hg;clear hc hg g1 kr ko kx h1;have xh:=aM.frozen 1;have yh:X2.cell? ⟨a1,1,U⟩=Z (D J 0):=(aM.cell 1).trans rfl;have et:Blk (X2.setCell ⟨a1,1,U⟩ (D J fi)) a1 32 #[D J 0,D J fi,D J 0,D J 0,G E,D J 0,H U 0 0,G E]:=aM.set_ 1 _;have jG:Below (rb+1) X2 (X2.setCell ⟨a1,1,U⟩ (D J fi)):=(Below.refl _ _).setCell (p:=⟨a1,1,U⟩) ap _;have pS:Below w.heap.size X2 (X2.setCell ⟨a1,1,U⟩ (D J fi)):=(Below.refl _ _).setCell (p:=⟨a1,1,U⟩) aK _;have cS:=cn.far (p:=⟨a1,1,U⟩) (by simp only;omega) (D J fi);have gG:=aR.far (p:=⟨a1,1,U⟩) (by simp only;omega) (D J fi);have dc:=hx.over jG;have dA:=zAd g2 pS;clear hx g2 cn aM aR jG pS
   cases q0 with
   | nil =>
    rw [show (([]:List UInt8)==[])=Q from rfl] at n0;have HN:=qH (show zAJ S=U by rw [B1.out,hcf]);clear hcf hqi;have HG:=qH (show zCF w rb w.heap.size a1 a2 F s S 0 (1) (X2.setCell ⟨a1,1,U⟩ (D J fi)) ([]) from .inl ⟨rfl,rfl,⟨⟨_,dc⟩,cS,dA,HN.out⟩⟩);clear dc dA cS et gG;go_wp2_with fail
    go_step3
    refine (show ∃n',zBe w rb a1 a2 F s S 0 n' _ _ from ?_);exact ⟨_,_,[],rfl,⟨rfl,rfl,rfl,rfl,rfl,rfl,rfl⟩,HG⟩
   | cons b r =>
    rw [show (b :: r==([]:List UInt8))=E from rfl] at n0;have HU:=B1.out;rw [hcf] at HU;simp only at HU;have Ca:=qH (show r.length+1≤S.length by rw [hqi];simp only [List.length_append,List.length_cons];omega);have t1:=zDU b r;have t2:=zGZ b r;have oJ:=qH (fun wx=>zJH b wx);clear hcf hqi;go_upto_region 7 with fail
    clear xh yh;generalize X2.setCell ⟨a1,1,U⟩ (D J fi)=X3 at dc dA cS et gG ⊢;by_cases hk0:zAK b=0
    ·have HN:=qH (show zAJ S=U by rw [HU,if_pos hk0]);obtain ⟨sg,hsg⟩:∃x:Int,(if b=32 then 0 else if zAK b=0 then -1 else zAK b)=x:=⟨_,rfl⟩
     have i0:sg < 1:=by rw [←hsg];split<;>(try rw [if_pos hk0])<;>omega
     rw [hsg] at oJ;clear HU hk0 hsg;go_wp2_with fail
     refine (oJ.out _).mono ?_;rintro e X4 ⟨rfl,rfl⟩;have HG:=qH (show zCF w rb w.heap.size a1 a2 F s S 0 (1) X4 (r) from .inl ⟨rfl,rfl,⟨⟨_,dc⟩,cS,dA,HN.out⟩⟩);clear dc dA cS et gG;go_wp2_with fail
     go_step3
     refine (show ∃n',zBe w rb a1 a2 F s S 0 n' _ _ from ?_);exact ⟨_,_,r,rfl,⟨rfl,rfl,rfl,rfl,rfl,rfl,rfl⟩,HG⟩
    ·obtain ⟨K,hK⟩:∃K,zAK b=K:=⟨_,rfl⟩
     have hsi:=zEd hk0;have vx:¬b=32:=fun e=>by subst e;exact hk0 (by decide)
     simp only [if_neg vx,hK] at oJ;rw [if_neg hk0,hK] at HU;rw [hK] at hsi;have i0:¬K < 1:=by omega
     have hK18:1≤K∧K≤8:=⟨hsi.1,hsi.2.1⟩;clear hk0 vx hK hsi;go_wp2_with fail
     refine (oJ.out _).mono ?_;rintro e X4 ⟨rfl,rfl⟩;have z24:=et.frozen 0;have BJ:X4.cell? ⟨a1,0,U⟩=Z (D J 0):=(et.cell 0).trans rfl;have aI:Blk (X4.setCell ⟨a1,0,U⟩ (D J K)) a1 32 #[D J K,D J fi,D J 0,D J 0,G E,D J 0,H U 0 0,G E]:=et.set_ 0 _;have uy:Below (rb+1) X4 (X4.setCell ⟨a1,0,U⟩ (D J K)):=(Below.refl _ _).setCell (p:=⟨a1,0,U⟩) ap _;have uD:Below w.heap.size X4 (X4.setCell ⟨a1,0,U⟩ (D J K)):=(Below.refl _ _).setCell (p:=⟨a1,0,U⟩) aK _;have am:=cS.far (p:=⟨a1,0,U⟩) (by simp only;omega) (D J K);have cv:=gG.far (p:=⟨a1,0,U⟩) (by simp only;omega) (D J K);have dn:=dc.over uy;have dr:=zAd dA uD;clear dc dA cS et gG uy uD;go_upto_region 11 with fail
     clear z24 BJ;generalize X4.setCell ⟨a1,0,U⟩ (D J K)=X5 at dn dr am aI cv ⊢;have f0:X5.cell? ⟨a1,0,U⟩=Z (D J K):=(aI.cell 0).trans rfl;by_cases e4:K=4
     ·subst e4;have HN:=qH (show zAJ S=zEf ⟨4,f,U,[],E⟩ (zCK r) by rw [HU,if_pos rfl]);have de:=qH (show (s.lost||zBF F.L f)=(s.lost||zAG F.L ⟨4,f,U,[],E⟩) by simp [zAG,zBK]);have lJ:=qH (show ∀b,oOf F.L ⟨4,f,U,[],b⟩=⟨4,fi,⟨0,0,E,0⟩,[],b⟩ from fun b=>by rw [←fA.out];rfl);rw [de.out] at dn;clear HU;have HG:=qH (show zCF w rb w.heap.size a1 a2 F s S 1 (3) X5 (r) from .inr (.inl ⟨rfl,rfl,⟨⟨4,f,U,[],E⟩,4,fi,0,E,⟨dn,am,aI,dr,HN.out,rfl,lJ.out⟩⟩⟩));clear dn dr am aI cv;go_wp2_with fail
      go_step3
      refine (show ∃n',zBe w rb a1 a2 F s S 1 n' _ _ from ?_);exact ⟨_,_,r,rfl,⟨rfl,rfl,rfl,rfl,rfl,rfl,rfl⟩,HG⟩
     by_cases e3:K=3
     ·subst e3;have HN:=qH (show zAJ S=zQc f (zGj (r.length+1) [] r) by rw [HU,if_neg (by omega),if_pos rfl]);have de:=qH (show (s.lost||zBF F.L f)=(s.lost||zBF F.L f||zBK F.L []) by simp [zBK]);rw [de.out] at dn;clear HU;have HG:=qH (show zCF w rb w.heap.size a1 a2 F s S 2 (10+r.length) X5 (r) from .inr (.inr (.inl ⟨rfl,rfl,⟨f,fi,[],[],U,0,0,r.length+1,0,0,0,E,⟨dn,am,aI,cv,dr,Row.none_ _ _ _,rfl,rfl,fA.out.symm,by have:=Ca.out;omega,by omega,HN.out⟩⟩⟩)));clear dn dr am aI cv;go_wp2_with fail
      go_step3
      refine (show ∃n',zBe w rb a1 a2 F s S 2 n' _ _ from ?_);exact ⟨_,_,r,rfl,⟨rfl,rfl,rfl,rfl,rfl,rfl,rfl⟩,HG⟩
     by_cases e5:K=5
     ·subst e5;rw [if_neg (by omega),if_neg (by omega),if_pos rfl] at HU;have sT:=qH (fun wx (hx:RX wx rb F ⟨s.T,s.bad,s.lost||zBF F.L f⟩)=>zEe rb F ⟨s.T,s.bad,s.lost||zBF F.L f⟩ r wx hx);go_wp2_with fail
      refine (sT.out X5 dn).mono ?_;intro e X6 hc
      cases hsr:zBj r with
      | none =>
       obtain ⟨rfl,⟨l,hy⟩,hg⟩:=zGn hc hsr;have HN:=qH (show zAJ S=U by rw [HU,hsr]);clear HU hsr f0;have cm:=am.grownO hg bh;have aE:=aI.grownO hg ap;have g6:=zAb dr hg;clear hc hg dr dn am aI cv;have CX:=aE.frozen 2;have ED:X6.cell? ⟨a1,2,U⟩=Z (D J 0):=(aE.cell 2).trans rfl;have CW:=aE.frozen 3;have EB:X6.cell? ⟨a1,3,U⟩=Z (D J 0):=(aE.cell 3).trans rfl;have CV:=aE.frozen 4;have EA:X6.cell? ⟨a1,4,U⟩=Z (G E):=(aE.cell 4).trans rfl;have CU:=aE.frozen 5;have Ez:X6.cell? ⟨a1,5,U⟩=Z (D J 0):=(aE.cell 5).trans rfl;have oZ:Below (rb+1) X6 (X6.setCell ⟨a1,2,U⟩ (D J 0)):=(Below.refl _ _).setCell (p:=⟨a1,2,U⟩) ap _;have pE:Below w.heap.size X6 (X6.setCell ⟨a1,2,U⟩ (D J 0)):=(Below.refl _ _).setCell (p:=⟨a1,2,U⟩) aK _;have jW:=cm.far (p:=⟨a1,2,U⟩) (by simp only;omega) (D J 0);have oY:Below (rb+1) X6 ((X6.setCell ⟨a1,2,U⟩ (D J 0)).setCell ⟨a1,3,U⟩ (D J 0)):=oZ.setCell (p:=⟨a1,3,U⟩) ap _;have pD:Below w.heap.size X6 ((X6.setCell ⟨a1,2,U⟩ (D J 0)).setCell ⟨a1,3,U⟩ (D J 0)):=pE.setCell (p:=⟨a1,3,U⟩) aK _;have jV:=jW.far (p:=⟨a1,3,U⟩) (by simp only;omega) (D J 0);have oX:Below (rb+1) X6 (((X6.setCell ⟨a1,2,U⟩ (D J 0)).setCell ⟨a1,3,U⟩ (D J 0)).setCell ⟨a1,4,U⟩ (G E)):=oY.setCell (p:=⟨a1,4,U⟩) ap _;have pC:Below w.heap.size X6 (((X6.setCell ⟨a1,2,U⟩ (D J 0)).setCell ⟨a1,3,U⟩ (D J 0)).setCell ⟨a1,4,U⟩ (G E)):=pD.setCell (p:=⟨a1,4,U⟩) aK _;have jU:=jV.far (p:=⟨a1,4,U⟩) (by simp only;omega) (G E);have oW:Below (rb+1) X6 ((((X6.setCell ⟨a1,2,U⟩ (D J 0)).setCell ⟨a1,3,U⟩ (D J 0)).setCell ⟨a1,4,U⟩ (G E)).setCell ⟨a1,5,U⟩ (D J 0)):=oX.setCell (p:=⟨a1,5,U⟩) ap _;have pB:Below w.heap.size X6 ((((X6.setCell ⟨a1,2,U⟩ (D J 0)).setCell ⟨a1,3,U⟩ (D J 0)).setCell ⟨a1,4,U⟩ (G E)).setCell ⟨a1,5,U⟩ (D J 0)):=pC.setCell (p:=⟨a1,5,U⟩) aK _;have jT:=jU.far (p:=⟨a1,5,U⟩) (by simp only;omega) (D J 0);have kJ:=hy.over oW;have kM:=zAd g6 pB;clear hy g6 cm aE oZ pE jW oY pD jV oX pC jU oW pB;have HG:=qH (show zCF w rb w.heap.size a1 a2 F s S 0 (1) ((((X6.setCell ⟨a1,2,U⟩ (D J 0)).setCell ⟨a1,3,U⟩ (D J 0)).setCell ⟨a1,4,U⟩ (G E)).setCell ⟨a1,5,U⟩ (D J 0)) (r) from .inl ⟨rfl,rfl,⟨⟨_,kJ⟩,jT,kM,HN.out⟩⟩);clear kJ kM jT;go_wp2_with fail
       go_step3
       refine (show ∃n',zBe w rb a1 a2 F s S 0 n' _ _ from ?_);exact ⟨_,_,r,rfl,⟨rfl,rfl,rfl,rfl,rfl,rfl,rfl⟩,HG⟩
      | some p =>
       obtain ⟨g,far,r2⟩:=p;obtain ⟨rfl,hy,hg⟩:=zGm hc hsr;obtain ⟨gi,hgi⟩:∃x,(zBa F.L g:Int)=x:=⟨_,rfl⟩
       rw [hgi];have HN:=qH (show zAJ S=zEf ⟨5,f,Z ⟨g,0,far,0⟩,[],E⟩ (zCK r2) by rw [HU,hsr]);have de:=qH (show (s.lost||zBF F.L f||zBF F.L g)=(s.lost||zAG F.L ⟨5,f,Z ⟨g,0,far,0⟩,[],E⟩) by simp [zAG,zBK,Bool.or_assoc]);have lJ:=qH (show ∀b,oOf F.L ⟨5,f,Z ⟨g,0,far,0⟩,[],b⟩=⟨5,fi,⟨gi,0,far,0⟩,[],b⟩ from fun b=>by rw [←fA.out,←hgi];rfl)
       try simp only at hy
       rw [de.out] at hy;clear HU hsr hgi f0;have cm:=am.grownO hg bh;have aE:=aI.grownO hg ap;have g6:=zAb dr hg;clear hc hg dr dn am aI cv;have CT:=aE.frozen 2;have Ey:X6.cell? ⟨a1,2,U⟩=Z (D J 0):=(aE.cell 2).trans rfl;have CS:=aE.frozen 3;have Ex:X6.cell? ⟨a1,3,U⟩=Z (D J 0):=(aE.cell 3).trans rfl;have CR:=aE.frozen 4;have Ew:X6.cell? ⟨a1,4,U⟩=Z (G E):=(aE.cell 4).trans rfl;have CQ:=aE.frozen 5;have Ev:X6.cell? ⟨a1,5,U⟩=Z (D J 0):=(aE.cell 5).trans rfl;have qh:Blk (X6.setCell ⟨a1,2,U⟩ (D J gi)) a1 32 #[D J 5,D J fi,D J gi,D J 0,G E,D J 0,H U 0 0,G E]:=aE.set_ 2 _;have oV:Below (rb+1) X6 (X6.setCell ⟨a1,2,U⟩ (D J gi)):=(Below.refl _ _).setCell (p:=⟨a1,2,U⟩) ap _;have pA:Below w.heap.size X6 (X6.setCell ⟨a1,2,U⟩ (D J gi)):=(Below.refl _ _).setCell (p:=⟨a1,2,U⟩) aK _;have jS:=cm.far (p:=⟨a1,2,U⟩) (by simp only;omega) (D J gi);have qg:Blk ((X6.setCell ⟨a1,2,U⟩ (D J gi)).setCell ⟨a1,3,U⟩ (D J 0)) a1 32 #[D J 5,D J fi,D J gi,D J 0,G E,D J 0,H U 0 0,G E]:=qh.set_ 3 _;have oU:Below (rb+1) X6 ((X6.setCell ⟨a1,2,U⟩ (D J gi)).setCell ⟨a1,3,U⟩ (D J 0)):=oV.setCell (p:=⟨a1,3,U⟩) ap _;have pw:Below w.heap.size X6 ((X6.setCell ⟨a1,2,U⟩ (D J gi)).setCell ⟨a1,3,U⟩ (D J 0)):=pA.setCell (p:=⟨a1,3,U⟩) aK _;have jR:=jS.far (p:=⟨a1,3,U⟩) (by simp only;omega) (D J 0);have qf:Blk (((X6.setCell ⟨a1,2,U⟩ (D J gi)).setCell ⟨a1,3,U⟩ (D J 0)).setCell ⟨a1,4,U⟩ (G far)) a1 32 #[D J 5,D J fi,D J gi,D J 0,G far,D J 0,H U 0 0,G E]:=qg.set_ 4 _;have oT:Below (rb+1) X6 (((X6.setCell ⟨a1,2,U⟩ (D J gi)).setCell ⟨a1,3,U⟩ (D J 0)).setCell ⟨a1,4,U⟩ (G far)):=oU.setCell (p:=⟨a1,4,U⟩) ap _;have pu:Below w.heap.size X6 (((X6.setCell ⟨a1,2,U⟩ (D J gi)).setCell ⟨a1,3,U⟩ (D J 0)).setCell ⟨a1,4,U⟩ (G far)):=pw.setCell (p:=⟨a1,4,U⟩) aK _;have jQ:=jR.far (p:=⟨a1,4,U⟩) (by simp only;omega) (G far);have qe:Blk ((((X6.setCell ⟨a1,2,U⟩ (D J gi)).setCell ⟨a1,3,U⟩ (D J 0)).setCell ⟨a1,4,U⟩ (G far)).setCell ⟨a1,5,U⟩ (D J 0)) a1 32 #[D J 5,D J fi,D J gi,D J 0,G far,D J 0,H U 0 0,G E]:=qf.set_ 5 _;have oS:Below (rb+1) X6 ((((X6.setCell ⟨a1,2,U⟩ (D J gi)).setCell ⟨a1,3,U⟩ (D J 0)).setCell ⟨a1,4,U⟩ (G far)).setCell ⟨a1,5,U⟩ (D J 0)):=oT.setCell (p:=⟨a1,5,U⟩) ap _;have pt:Below w.heap.size X6 ((((X6.setCell ⟨a1,2,U⟩ (D J gi)).setCell ⟨a1,3,U⟩ (D J 0)).setCell ⟨a1,4,U⟩ (G far)).setCell ⟨a1,5,U⟩ (D J 0)):=pu.setCell (p:=⟨a1,5,U⟩) aK _;have jP:=jQ.far (p:=⟨a1,5,U⟩) (by simp only;omega) (D J 0);have fR:=hy.over oS;have gY:=zAd g6 pt;clear hy g6 cm aE oV pA qh jS oU pw qg jR oT pu qf jQ oS pt;have HG:=qH (show zCF w rb w.heap.size a1 a2 F s S 1 (3) ((((X6.setCell ⟨a1,2,U⟩ (D J gi)).setCell ⟨a1,3,U⟩ (D J 0)).setCell ⟨a1,4,U⟩ (G far)).setCell ⟨a1,5,U⟩ (D J 0)) (r2) from .inr (.inl ⟨rfl,rfl,⟨⟨5,f,Z ⟨g,0,far,0⟩,[],E⟩,5,fi,gi,far,⟨fR,jP,qe,gY,HN.out,rfl,lJ.out⟩⟩⟩));clear fR gY jP qe;go_wp2_with fail
       go_step3
       refine (show ∃n',zBe w rb a1 a2 F s S 1 n' _ _ from ?_);exact ⟨_,_,r2,rfl,⟨rfl,rfl,rfl,rfl,rfl,rfl,rfl⟩,HG⟩
     by_cases e6:K=6
     ·subst e6;rw [if_neg (by omega),if_neg (by omega),if_neg (by omega),if_pos (by omega)] at HU;have sT:=qH (fun wx (hx:RX wx rb F ⟨s.T,s.bad,s.lost||zBF F.L f⟩)=>zNf hx r);go_wp2_with fail
      refine (sT.out X5 dn).mono ?_;intro e X6 hc
      cases hsr:zFV r with
      | none =>
       obtain ⟨rfl,hy,hg⟩:=zHh hc hsr;have HN:=qH (show zAJ S=U by rw [HU,hsr]);clear HU hsr f0;have cm:=am.grownO hg bh;have aE:=aI.grownO hg ap;have g6:=zAb dr hg;clear hc hg dr dn am aI cv;have z28:=aE.frozen 2;have d28:X6.cell? ⟨a1,2,U⟩=Z (D J 0):=(aE.cell 2).trans rfl;have go:Below (rb+1) X6 (X6.setCell ⟨a1,2,U⟩ (D J 0)):=(Below.refl _ _).setCell (p:=⟨a1,2,U⟩) ap _;have Dl:Below w.heap.size X6 (X6.setCell ⟨a1,2,U⟩ (D J 0)):=(Below.refl _ _).setCell (p:=⟨a1,2,U⟩) aK _;have gE:=cm.far (p:=⟨a1,2,U⟩) (by simp only;omega) (D J 0);have oD:=hy.over go;have oE:=zAd g6 Dl;clear hy g6 cm aE go Dl;have HG:=qH (show zCF w rb w.heap.size a1 a2 F s S 0 (1) (X6.setCell ⟨a1,2,U⟩ (D J 0)) (r) from .inl ⟨rfl,rfl,⟨⟨_,oD⟩,gE,oE,HN.out⟩⟩);clear oD oE gE;go_wp2_with fail
       go_step3
       refine (show ∃n',zBe w rb a1 a2 F s S 0 n' _ _ from ?_);exact ⟨_,_,r,rfl,⟨rfl,rfl,rfl,rfl,rfl,rfl,rfl⟩,HG⟩
      | some p =>
       obtain ⟨g,r2⟩:=p;obtain ⟨rfl,hy,hg⟩:=zHg hc hsr;obtain ⟨gi,hgi⟩:∃x,(zBa F.L g:Int)=x:=⟨_,rfl⟩
       rw [hgi];have HN:=qH (show zAJ S=zEf ⟨6,f,Z ⟨g,0,E,0⟩,[],E⟩ (zCK r2) by rw [HU,hsr]);have de:=qH (show (s.lost||zBF F.L f||zBF F.L g)=(s.lost||zAG F.L ⟨6,f,Z ⟨g,0,E,0⟩,[],E⟩) by simp [zAG,zBK,Bool.or_assoc]);have lJ:=qH (show ∀b,oOf F.L ⟨6,f,Z ⟨g,0,E,0⟩,[],b⟩=⟨6,fi,⟨gi,0,E,0⟩,[],b⟩ from fun b=>by rw [←fA.out,←hgi];rfl)
       try simp only at hy
       rw [de.out] at hy;clear HU hsr hgi f0;have cm:=am.grownO hg bh;have aE:=aI.grownO hg ap;have g6:=zAb dr hg;clear hc hg dr dn am aI cv;have CP:=aE.frozen 2;have Eu:X6.cell? ⟨a1,2,U⟩=Z (D J 0):=(aE.cell 2).trans rfl;have co:Blk (X6.setCell ⟨a1,2,U⟩ (D J gi)) a1 32 #[D J 6,D J fi,D J gi,D J 0,G E,D J 0,H U 0 0,G E]:=aE.set_ 2 _;have nt:Below (rb+1) X6 (X6.setCell ⟨a1,2,U⟩ (D J gi)):=(Below.refl _ _).setCell (p:=⟨a1,2,U⟩) ap _;have uB:Below w.heap.size X6 (X6.setCell ⟨a1,2,U⟩ (D J gi)):=(Below.refl _ _).setCell (p:=⟨a1,2,U⟩) aK _;have bQ:=cm.far (p:=⟨a1,2,U⟩) (by simp only;omega) (D J gi);have fw:=hy.over nt;have fY:=zAd g6 uB;clear hy g6 cm aE nt uB;have HG:=qH (show zCF w rb w.heap.size a1 a2 F s S 1 (3) (X6.setCell ⟨a1,2,U⟩ (D J gi)) (r2) from .inr (.inl ⟨rfl,rfl,⟨⟨6,f,Z ⟨g,0,E,0⟩,[],E⟩,6,fi,gi,E,⟨fw,bQ,co,fY,HN.out,rfl,lJ.out⟩⟩⟩));clear fw fY bQ co;go_wp2_with fail
       go_step3
       refine (show ∃n',zBe w rb a1 a2 F s S 1 n' _ _ from ?_);exact ⟨_,_,r2,rfl,⟨rfl,rfl,rfl,rfl,rfl,rfl,rfl⟩,HG⟩
     by_cases e7:K=7
     ·subst e7;rw [if_neg (by omega),if_neg (by omega),if_neg (by omega),if_pos (by omega)] at HU;have sT:=qH (fun wx (hx:RX wx rb F ⟨s.T,s.bad,s.lost||zBF F.L f⟩)=>zNf hx r);go_wp2_with fail
      refine (sT.out X5 dn).mono ?_;intro e X6 hc
      cases hsr:zFV r with
      | none =>
       obtain ⟨rfl,hy,hg⟩:=zHh hc hsr;have HN:=qH (show zAJ S=U by rw [HU,hsr]);clear HU hsr f0;have cm:=am.grownO hg bh;have aE:=aI.grownO hg ap;have g6:=zAb dr hg;clear hc hg dr dn am aI cv;have CO:=aE.frozen 2;have Er:X6.cell? ⟨a1,2,U⟩=Z (D J 0):=(aE.cell 2).trans rfl;have gn:Below (rb+1) X6 (X6.setCell ⟨a1,2,U⟩ (D J 0)):=(Below.refl _ _).setCell (p:=⟨a1,2,U⟩) ap _;have uA:Below w.heap.size X6 (X6.setCell ⟨a1,2,U⟩ (D J 0)):=(Below.refl _ _).setCell (p:=⟨a1,2,U⟩) aK _;have qd:=cm.far (p:=⟨a1,2,U⟩) (by simp only;omega) (D J 0);have ir:=hy.over gn;have it:=zAd g6 uA;clear hy g6 cm aE gn uA;have HG:=qH (show zCF w rb w.heap.size a1 a2 F s S 0 (1) (X6.setCell ⟨a1,2,U⟩ (D J 0)) (r) from .inl ⟨rfl,rfl,⟨⟨_,ir⟩,qd,it,HN.out⟩⟩);clear ir it qd;go_wp2_with fail
       go_step3
       refine (show ∃n',zBe w rb a1 a2 F s S 0 n' _ _ from ?_);exact ⟨_,_,r,rfl,⟨rfl,rfl,rfl,rfl,rfl,rfl,rfl⟩,HG⟩
      | some p =>
       obtain ⟨g,r2⟩:=p;obtain ⟨rfl,hy,hg⟩:=zHg hc hsr;obtain ⟨gi,hgi⟩:∃x,(zBa F.L g:Int)=x:=⟨_,rfl⟩
       rw [hgi];have HN:=qH (show zAJ S=zEf ⟨7,f,Z ⟨g,0,E,0⟩,[],E⟩ (zCK r2) by rw [HU,hsr]);have de:=qH (show (s.lost||zBF F.L f||zBF F.L g)=(s.lost||zAG F.L ⟨7,f,Z ⟨g,0,E,0⟩,[],E⟩) by simp [zAG,zBK,Bool.or_assoc]);have lJ:=qH (show ∀b,oOf F.L ⟨7,f,Z ⟨g,0,E,0⟩,[],b⟩=⟨7,fi,⟨gi,0,E,0⟩,[],b⟩ from fun b=>by rw [←fA.out,←hgi];rfl)
       try simp only at hy
       rw [de.out] at hy;clear HU hsr hgi f0;have cm:=am.grownO hg bh;have aE:=aI.grownO hg ap;have g6:=zAb dr hg;clear hc hg dr dn am aI cv;have z31:=aE.frozen 2;have d31:X6.cell? ⟨a1,2,U⟩=Z (D J 0):=(aE.cell 2).trans rfl;have qc:Blk (X6.setCell ⟨a1,2,U⟩ (D J gi)) a1 32 #[D J 7,D J fi,D J gi,D J 0,G E,D J 0,H U 0 0,G E]:=aE.set_ 2 _;have Df:Below (rb+1) X6 (X6.setCell ⟨a1,2,U⟩ (D J gi)):=(Below.refl _ _).setCell (p:=⟨a1,2,U⟩) ap _;have Dk:Below w.heap.size X6 (X6.setCell ⟨a1,2,U⟩ (D J gi)):=(Below.refl _ _).setCell (p:=⟨a1,2,U⟩) aK _;have qb:=cm.far (p:=⟨a1,2,U⟩) (by simp only;omega) (D J gi);have lA:=hy.over Df;have lB:=zAd g6 Dk;clear hy g6 cm aE Df Dk;have HG:=qH (show zCF w rb w.heap.size a1 a2 F s S 1 (3) (X6.setCell ⟨a1,2,U⟩ (D J gi)) (r2) from .inr (.inl ⟨rfl,rfl,⟨⟨7,f,Z ⟨g,0,E,0⟩,[],E⟩,7,fi,gi,E,⟨lA,qb,qc,lB,HN.out,rfl,lJ.out⟩⟩⟩));clear lA lB qb qc;go_wp2_with fail
       go_step3
       refine (show ∃n',zBe w rb a1 a2 F s S 1 n' _ _ from ?_);exact ⟨_,_,r2,rfl,⟨rfl,rfl,rfl,rfl,rfl,rfl,rfl⟩,HG⟩
     have m3:(K==3)=E:=by simpa using e3
     have m4:(K==4)=E:=by simpa using e4
     have m5:(K==5)=E:=by simpa using e5
     have m6:(K==6)=E:=by simpa using e6
     have m7:(K==7)=E:=by simpa using e7
     have HN:=qH (show zAJ S=zRX ⟨K,f,U,[],E⟩ r by rw [HU,if_neg e4,if_neg e3,if_neg e5,if_neg (by omega)]);have de:=qH (show (s.lost||zBF F.L f)=(s.lost||zAG F.L ⟨K,f,U,[],E⟩) by simp [zAG,zBK]);have lJ:=qH (show oOf F.L ⟨K,f,U,[],E⟩=⟨K,fi,⟨0,0,E,0⟩,[],E⟩ by rw [←fA.out];rfl);rw [de.out] at dn;clear HU e3 e4 e5 e6 e7;have HG:=qH (show zCF w rb w.heap.size a1 a2 F s S 3 (2) X5 (r) from .inr (.inr (.inr ⟨rfl,rfl,⟨⟨K,f,U,[],E⟩,K,fi,0,E,E,[],U,0,0,⟨dn,am,aI,dr,Row.none_ _ _ _,rfl,lJ.out,HN.out⟩⟩⟩)));clear dn dr am aI cv;go_wp2_with fail
     go_step3
     refine (show ∃n',zBe w rb a1 a2 F s S 3 n' _ _ from ?_);exact ⟨_,_,r,rfl,⟨rfl,rfl,rfl,rfl,rfl,rfl,rfl⟩,HG⟩
 ·rintro l q a wv ⟨X9,r,hX,hF,HJ⟩;subst hX;rcases HJ.out with ⟨rfl,rfl,h0⟩ | ⟨rfl,rfl,n,k,f,ff,far,h1⟩ | ⟨rfl,rfl,f,fi,P,Ps,B,m,d,N,x0,x1,x3,x2,h2⟩ | ⟨rfl,rfl,n,k,f,ff,far,over,path,B,m,d,h3⟩
  ·exact zOd rb F s S w hlt a1 a2 iA.out ug.out r 1 rfl a X9 hF h0
  ·exact zOf rb F s S w hlt a1 a2 iA.out ug.out r 3 rfl a X9 hF n k f ff far h1
  ·exact zOg rb F s S w hlt a1 a2 iA.out ug.out r _ rfl a X9 hF hS f fi P Ps B m d N x0 x1 x3 x2 h2
  ·exact zOe rb F s S w hlt a1 a2 iA.out ug.out r 2 rfl a X9 hF n k f ff far over path B m d h3
end Go.Proofs.YtlmdfmnbcndhoaaGreatDoor
