/-
  Lemmas, part 24. Conditions: each theorem's own.
-/
import Derived.Test.YtlmdfmnbcndhoaaGreatDoorRc23
import Derived.Test.YtlmdfmnbcndhoaaGreatDoorRc20
open Option renaming none→U,some→Z
open Go.Value renaming bool→G,int→D,slice→H,string→W
open Go.IntKind renaming i64→J
open Bool renaming false→E,true→Q
namespace Go.Proofs.YtlmdfmnbcndhoaaGreatDoor
open Go.RowKit
set_option maxHeartbeats 12800000 in
set_option maxRecDepth 100000 in
theorem zLW (rb:Nat) (F:Fm) (s:RS) (S:List UInt8) (w:World) (h:RX w rb F s) (hS:S.length≤100000) :
  Calls Tryz.prog 120 #[.pointer (Z ⟨rb,0,U⟩),W (bA S)] w (zCn w rb F s S):=by
 have hlt:=h.lt;obtain ⟨a1,cd⟩:∃a,a=w.heap.size+1:=⟨_,rfl⟩
 obtain ⟨a2,ft⟩:∃a,a=w.heap.size+2:=⟨_,rfl⟩
 have iO:=qH cd;have vj:=qH ft;have bs:rb < w.heap.size:=hlt;have aq:rb < a1:=by omega
 have cE:rb < a2:=by omega
 have aM:w.heap.size≤a1:=by omega
 have fV:w.heap.size < a1:=by omega
 have jj:a1 < a2:=by omega
 have aa:Below w.heap.size w (((w.alloc (.cells #[D J 0,D J 0,D J 0,D J 0,G E,D J 0,H U 0 0,G E] 32)).alloc (.cells #[D J 0,D J 0,D J 0,D J 0,G E,D J 0,H U 0 0,G E] 32)).alloc (.cells #[D J 0,D J 0,G E,D J 0] 29)):=(((Below.refl _ _).alloc (Nat.le_refl _) _).alloc (by simp) _).alloc (by simp;omega) _;have kr:Blk (((w.alloc (.cells #[D J 0,D J 0,D J 0,D J 0,G E,D J 0,H U 0 0,G E] 32)).alloc (.cells #[D J 0,D J 0,D J 0,D J 0,G E,D J 0,H U 0 0,G E] 32)).alloc (.cells #[D J 0,D J 0,G E,D J 0] 29)) w.heap.size 32 #[D J 0,D J 0,D J 0,D J 0,G E,D J 0,H U 0 0,G E]:=((Blk.new w _ _).alloc _).alloc _;have ko:Blk (((w.alloc (.cells #[D J 0,D J 0,D J 0,D J 0,G E,D J 0,H U 0 0,G E] 32)).alloc (.cells #[D J 0,D J 0,D J 0,D J 0,G E,D J 0,H U 0 0,G E] 32)).alloc (.cells #[D J 0,D J 0,G E,D J 0] 29)) (w.heap.size+1) 32 #[D J 0,D J 0,D J 0,D J 0,G E,D J 0,H U 0 0,G E]:=by have:=(Blk.new (w.alloc (.cells #[D J 0,D J 0,D J 0,D J 0,G E,D J 0,H U 0 0,G E] 32)) 32 #[D J 0,D J 0,D J 0,D J 0,G E,D J 0,H U 0 0,G E]).alloc (.cells #[D J 0,D J 0,G E,D J 0] 29);rwa [World.size_alloc] at this
 have kx:Blk (((w.alloc (.cells #[D J 0,D J 0,D J 0,D J 0,G E,D J 0,H U 0 0,G E] 32)).alloc (.cells #[D J 0,D J 0,D J 0,D J 0,G E,D J 0,H U 0 0,G E] 32)).alloc (.cells #[D J 0,D J 0,G E,D J 0] 29)) (w.heap.size+2) 29 #[D J 0,D J 0,G E,D J 0]:=by have:=Blk.new ((w.alloc (.cells #[D J 0,D J 0,D J 0,D J 0,G E,D J 0,H U 0 0,G E] 32)).alloc (.cells #[D J 0,D J 0,D J 0,D J 0,G E,D J 0,H U 0 0,G E] 32)) 29 #[D J 0,D J 0,G E,D J 0];rwa [World.size_alloc,World.size_alloc] at this
 have h1:=h.below aa;have g1:w.grownBy (((w.alloc (.cells #[D J 0,D J 0,D J 0,D J 0,G E,D J 0,H U 0 0,G E] 32)).alloc (.cells #[D J 0,D J 0,D J 0,D J 0,G E,D J 0,H U 0 0,G E] 32)).alloc (.cells #[D J 0,D J 0,G E,D J 0] 29)) (Z rb):=zAv aa;have eG:=qH (fun wx (hx:RX wx rb F s)=>zMN hx S);have C2:=qH (zLV S);clear h aa;go_enter Tryz.func120,Tryz.ntmps120;go_wp2_with fail
 refine zEa (fun l q a wv=>zBg w rb a1 a2 F s S l q a wv) ?_ ?_
 ·skip;go_wp2_with fail
  generalize (((w.alloc (.cells #[D J 0,D J 0,D J 0,D J 0,G E,D J 0,H U 0 0,G E] 32)).alloc (.cells #[D J 0,D J 0,D J 0,D J 0,G E,D J 0,H U 0 0,G E] 32)).alloc (.cells #[D J 0,D J 0,G E,D J 0] 29))=X at kr ko kx h1 g1 ⊢;rw [←cd] at ko ⊢;rw [←ft] at kx;rw [show a1+1=a2 from by omega];clear cd ft;refine (eG.out X h1).mono ?_;intro e X2 hc
  cases hcf:zFL S with
  | none =>
   obtain ⟨rfl,hx,hg⟩:=zGU hc hcf;have HN:=qH (show zAJ S=U by rw [C2.out,hcf]);clear hcf;have cG:=kr.grownO hg bs;have aO:=ko.grownO hg aq;have aU:=kx.grownO hg cE;have g2:=zAb g1 hg;clear hc hg g1 kr ko kx h1;have z21:=aO.frozen 1;have d21:X2.cell? ⟨a1,1,U⟩=Z (D J 0):=(aO.cell 1).trans rfl;have fU:Below (rb+1) X2 (X2.setCell ⟨a1,1,U⟩ (D J 0)):=(Below.refl _ _).setCell (p:=⟨a1,1,U⟩) aq _;have Ev:Below w.heap.size X2 (X2.setCell ⟨a1,1,U⟩ (D J 0)):=(Below.refl _ _).setCell (p:=⟨a1,1,U⟩) aM _;have ij:=cG.far (p:=⟨a1,1,U⟩) (by simp only;omega) (D J 0);have lC:=hx.over fU;have lE:=zAc g2 Ev;clear hx g2 cG aO aU fU Ev;have HG:=qH (show zCI w rb w.heap.size a1 a2 F s S 0 (1) (X2.setCell ⟨a1,1,U⟩ (D J 0)) (S) from .inl ⟨rfl,rfl,⟨⟨_,lC⟩,ij,lE,HN.out⟩⟩);clear lC lE ij;go_wp2_with fail
   go_step3
   refine (show ∃n',zBg w rb a1 a2 F s S 0 n' _ _ from ?_);exact ⟨_,_,S,rfl,⟨rfl,rfl,rfl,rfl,rfl,rfl,rfl⟩,HG⟩
  | some p =>
   obtain ⟨f,q0⟩:=p;obtain ⟨rfl,hx,hg⟩:=zGT hc hcf;have hqi:=(zMH hcf).2.2;obtain ⟨fi,hfi⟩:∃x,(zAM F.L f:Int)=x:=⟨_,rfl⟩
   rw [hfi];have bY:=qH hfi;have n0:=zAH q0 [];clear hfi;have cG:=kr.grownO hg bs;have aO:=ko.grownO hg aq;have aU:=kx.grownO hg cE;have g2:=zAb g1 hg;clear hc hg g1 kr ko kx h1;have yH:=aO.frozen 1;have zL:X2.cell? ⟨a1,1,U⟩=Z (D J 0):=(aO.cell 1).trans rfl;have eQ:Blk (X2.setCell ⟨a1,1,U⟩ (D J fi)) a1 32 #[D J 0,D J fi,D J 0,D J 0,G E,D J 0,H U 0 0,G E]:=aO.set_ 1 _;have ka:Below (rb+1) X2 (X2.setCell ⟨a1,1,U⟩ (D J fi)):=(Below.refl _ _).setCell (p:=⟨a1,1,U⟩) aq _;have qQ:Below w.heap.size X2 (X2.setCell ⟨a1,1,U⟩ (D J fi)):=(Below.refl _ _).setCell (p:=⟨a1,1,U⟩) aM _;have dk:=cG.far (p:=⟨a1,1,U⟩) (by simp only;omega) (D J fi);have ii:=aU.far (p:=⟨a1,1,U⟩) (by simp only;omega) (D J fi);have dA:=hx.over ka;have dO:=zAc g2 qQ;clear hx g2 cG aO aU ka qQ
   cases q0 with
   | nil =>
    rw [show (([]:List UInt8)==[])=Q from rfl] at n0;have HN:=qH (show zAJ S=U by rw [C2.out,hcf]);clear hcf hqi;have HG:=qH (show zCI w rb w.heap.size a1 a2 F s S 0 (1) (X2.setCell ⟨a1,1,U⟩ (D J fi)) ([]) from .inl ⟨rfl,rfl,⟨⟨_,dA⟩,dk,dO,HN.out⟩⟩);clear dA dO dk eQ ii;go_wp2_with fail
    go_step3
    refine (show ∃n',zBg w rb a1 a2 F s S 0 n' _ _ from ?_);exact ⟨_,_,[],rfl,⟨rfl,rfl,rfl,rfl,rfl,rfl,rfl⟩,HG⟩
   | cons b r =>
    rw [show (b :: r==([]:List UInt8))=E from rfl] at n0;have HU:=C2.out;rw [hcf] at HU;simp only at HU;have C9:=qH (show r.length+1≤S.length by rw [hqi];simp only [List.length_append,List.length_cons];omega);have t1:=zDc b r;have t2:=zGN b r;have Ab:=qH (fun wx=>zJE b wx);clear hcf hqi;go_upto_region 7 with fail
    clear yH zL;generalize X2.setCell ⟨a1,1,U⟩ (D J fi)=X3 at dA dO dk eQ ii ⊢;by_cases hk0:zAL b=0
    ·have HN:=qH (show zAJ S=U by rw [HU,if_pos hk0]);obtain ⟨sg,hsg⟩:∃x:Int,(if b=32 then 0 else if zAL b=0 then -1 else zAL b)=x:=⟨_,rfl⟩
     have i0:sg < 1:=by rw [←hsg];split<;>(try rw [if_pos hk0])<;>omega
     rw [hsg] at Ab;clear HU hk0 hsg;go_wp2_with fail
     refine (Ab.out _).mono ?_;rintro e X4 ⟨rfl,rfl⟩;have HG:=qH (show zCI w rb w.heap.size a1 a2 F s S 0 (1) X4 (r) from .inl ⟨rfl,rfl,⟨⟨_,dA⟩,dk,dO,HN.out⟩⟩);clear dA dO dk eQ ii;go_wp2_with fail
     go_step3
     refine (show ∃n',zBg w rb a1 a2 F s S 0 n' _ _ from ?_);exact ⟨_,_,r,rfl,⟨rfl,rfl,rfl,rfl,rfl,rfl,rfl⟩,HG⟩
    ·obtain ⟨K,hK⟩:∃K,zAL b=K:=⟨_,rfl⟩
     have hsi:=zDX hk0;have wM:¬b=32:=fun e=>by subst e;exact hk0 (by decide)
     simp only [if_neg wM,hK] at Ab;rw [if_neg hk0,hK] at HU;rw [hK] at hsi;have i0:¬K < 1:=by omega
     have hK18:1≤K∧K≤8:=⟨hsi.1,hsi.2.1⟩;clear hk0 wM hK hsi;go_wp2_with fail
     refine (Ab.out _).mono ?_;rintro e X4 ⟨rfl,rfl⟩;have z24:=eQ.frozen 0;have CW:X4.cell? ⟨a1,0,U⟩=Z (D J 0):=(eQ.cell 0).trans rfl;have aK:Blk (X4.setCell ⟨a1,0,U⟩ (D J K)) a1 32 #[D J K,D J fi,D J 0,D J 0,G E,D J 0,H U 0 0,G E]:=eQ.set_ 0 _;have vz:Below (rb+1) X4 (X4.setCell ⟨a1,0,U⟩ (D J K)):=(Below.refl _ _).setCell (p:=⟨a1,0,U⟩) aq _;have vE:Below w.heap.size X4 (X4.setCell ⟨a1,0,U⟩ (D J K)):=(Below.refl _ _).setCell (p:=⟨a1,0,U⟩) aM _;have am:=dk.far (p:=⟨a1,0,U⟩) (by simp only;omega) (D J K);have cL:=ii.far (p:=⟨a1,0,U⟩) (by simp only;omega) (D J K);have dH:=dA.over vz;have dJ:=zAc dO vE;clear dA dO dk eQ ii vz vE;go_upto_region 11 with fail
     clear z24 CW;generalize X4.setCell ⟨a1,0,U⟩ (D J K)=X5 at dH dJ am aK cL ⊢;have f0:X5.cell? ⟨a1,0,U⟩=Z (D J K):=(aK.cell 0).trans rfl;by_cases e4:K=4
     ·subst e4;have HN:=qH (show zAJ S=zEc ⟨4,f,U,[],E⟩ (zCP r) by rw [HU,if_pos rfl]);have di:=qH (show (s.lost||zBE F.L f)=(s.lost||zAE F.L ⟨4,f,U,[],E⟩) by simp [zAE,zBI]);have mz:=qH (show ∀b,oOf F.L ⟨4,f,U,[],b⟩=⟨4,fi,⟨0,0,E,0⟩,[],b⟩ from fun b=>by rw [←bY.out];rfl);rw [di.out] at dH;clear HU;have HG:=qH (show zCI w rb w.heap.size a1 a2 F s S 1 (3) X5 (r) from .inr (.inl ⟨rfl,rfl,⟨⟨4,f,U,[],E⟩,4,fi,0,E,⟨dH,am,aK,dJ,HN.out,rfl,mz.out⟩⟩⟩));clear dH dJ am aK cL;go_wp2_with fail
      go_step3
      refine (show ∃n',zBg w rb a1 a2 F s S 1 n' _ _ from ?_);exact ⟨_,_,r,rfl,⟨rfl,rfl,rfl,rfl,rfl,rfl,rfl⟩,HG⟩
     by_cases e3:K=3
     ·subst e3;have HN:=qH (show zAJ S=zPM f (zFW (r.length+1) [] r) by rw [HU,if_neg (by omega),if_pos rfl]);have di:=qH (show (s.lost||zBE F.L f)=(s.lost||zBE F.L f||zBI F.L []) by simp [zBI]);rw [di.out] at dH;clear HU;have HG:=qH (show zCI w rb w.heap.size a1 a2 F s S 2 (10+r.length) X5 (r) from .inr (.inr (.inl ⟨rfl,rfl,⟨f,fi,[],[],U,0,0,r.length+1,0,0,0,E,⟨dH,am,aK,cL,dJ,Row.none_ _ _ _,rfl,rfl,bY.out.symm,by have:=C9.out;omega,by omega,HN.out⟩⟩⟩)));clear dH dJ am aK cL;go_wp2_with fail
      go_step3
      refine (show ∃n',zBg w rb a1 a2 F s S 2 n' _ _ from ?_);exact ⟨_,_,r,rfl,⟨rfl,rfl,rfl,rfl,rfl,rfl,rfl⟩,HG⟩
     by_cases e5:K=5
     ·subst e5;rw [if_neg (by omega),if_neg (by omega),if_pos rfl] at HU;have uo:=qH (fun wx (hx:RX wx rb F ⟨s.T,s.bad,s.lost||zBE F.L f⟩)=>zEb rb F ⟨s.T,s.bad,s.lost||zBE F.L f⟩ r wx hx);go_wp2_with fail
      refine (uo.out X5 dH).mono ?_;intro e X6 hc
      cases hsr:zBj r with
      | none =>
       obtain ⟨rfl,⟨l,hy⟩,hg⟩:=zGd hc hsr;have HN:=qH (show zAJ S=U by rw [HU,hsr]);clear HU hsr f0;have cF:=am.grownO hg bs;have aF:=aK.grownO hg aq;have g6:=zAb dJ hg;clear hc hg dJ dH am aK cL;have D3:=aF.frozen 2;have FW:X6.cell? ⟨a1,2,U⟩=Z (D J 0):=(aF.cell 2).trans rfl;have D2:=aF.frozen 3;have FV:X6.cell? ⟨a1,3,U⟩=Z (D J 0):=(aF.cell 3).trans rfl;have D1:=aF.frozen 4;have FU:X6.cell? ⟨a1,4,U⟩=Z (G E):=(aF.cell 4).trans rfl;have D0:=aF.frozen 5;have FT:X6.cell? ⟨a1,5,U⟩=Z (D J 0):=(aF.cell 5).trans rfl;have pY:Below (rb+1) X6 (X6.setCell ⟨a1,2,U⟩ (D J 0)):=(Below.refl _ _).setCell (p:=⟨a1,2,U⟩) aq _;have qC:Below w.heap.size X6 (X6.setCell ⟨a1,2,U⟩ (D J 0)):=(Below.refl _ _).setCell (p:=⟨a1,2,U⟩) aM _;have kD:=cF.far (p:=⟨a1,2,U⟩) (by simp only;omega) (D J 0);have pX:Below (rb+1) X6 ((X6.setCell ⟨a1,2,U⟩ (D J 0)).setCell ⟨a1,3,U⟩ (D J 0)):=pY.setCell (p:=⟨a1,3,U⟩) aq _;have qB:Below w.heap.size X6 ((X6.setCell ⟨a1,2,U⟩ (D J 0)).setCell ⟨a1,3,U⟩ (D J 0)):=qC.setCell (p:=⟨a1,3,U⟩) aM _;have kC:=kD.far (p:=⟨a1,3,U⟩) (by simp only;omega) (D J 0);have pW:Below (rb+1) X6 (((X6.setCell ⟨a1,2,U⟩ (D J 0)).setCell ⟨a1,3,U⟩ (D J 0)).setCell ⟨a1,4,U⟩ (G E)):=pX.setCell (p:=⟨a1,4,U⟩) aq _;have qA:Below w.heap.size X6 (((X6.setCell ⟨a1,2,U⟩ (D J 0)).setCell ⟨a1,3,U⟩ (D J 0)).setCell ⟨a1,4,U⟩ (G E)):=qB.setCell (p:=⟨a1,4,U⟩) aM _;have kB:=kC.far (p:=⟨a1,4,U⟩) (by simp only;omega) (G E);have pV:Below (rb+1) X6 ((((X6.setCell ⟨a1,2,U⟩ (D J 0)).setCell ⟨a1,3,U⟩ (D J 0)).setCell ⟨a1,4,U⟩ (G E)).setCell ⟨a1,5,U⟩ (D J 0)):=pW.setCell (p:=⟨a1,5,U⟩) aq _;have qz:Below w.heap.size X6 ((((X6.setCell ⟨a1,2,U⟩ (D J 0)).setCell ⟨a1,3,U⟩ (D J 0)).setCell ⟨a1,4,U⟩ (G E)).setCell ⟨a1,5,U⟩ (D J 0)):=qA.setCell (p:=⟨a1,5,U⟩) aM _;have kA:=kB.far (p:=⟨a1,5,U⟩) (by simp only;omega) (D J 0);have lB:=hy.over pV;have lD:=zAc g6 qz;clear hy g6 cF aF pY qC kD pX qB kC pW qA kB pV qz;have HG:=qH (show zCI w rb w.heap.size a1 a2 F s S 0 (1) ((((X6.setCell ⟨a1,2,U⟩ (D J 0)).setCell ⟨a1,3,U⟩ (D J 0)).setCell ⟨a1,4,U⟩ (G E)).setCell ⟨a1,5,U⟩ (D J 0)) (r) from .inl ⟨rfl,rfl,⟨⟨_,lB⟩,kA,lD,HN.out⟩⟩);clear lB lD kA;go_wp2_with fail
       go_step3
       refine (show ∃n',zBg w rb a1 a2 F s S 0 n' _ _ from ?_);exact ⟨_,_,r,rfl,⟨rfl,rfl,rfl,rfl,rfl,rfl,rfl⟩,HG⟩
      | some p =>
       obtain ⟨g,far,r2⟩:=p;obtain ⟨rfl,hy,hg⟩:=zGc hc hsr;obtain ⟨gi,hgi⟩:∃x,(zAM F.L g:Int)=x:=⟨_,rfl⟩
       rw [hgi];have HN:=qH (show zAJ S=zEc ⟨5,f,Z ⟨g,0,far,0⟩,[],E⟩ (zCP r2) by rw [HU,hsr]);have di:=qH (show (s.lost||zBE F.L f||zBE F.L g)=(s.lost||zAE F.L ⟨5,f,Z ⟨g,0,far,0⟩,[],E⟩) by simp [zAE,zBI,Bool.or_assoc]);have mz:=qH (show ∀b,oOf F.L ⟨5,f,Z ⟨g,0,far,0⟩,[],b⟩=⟨5,fi,⟨gi,0,far,0⟩,[],b⟩ from fun b=>by rw [←bY.out,←hgi];rfl)
       try simp only at hy
       rw [di.out] at hy;clear HU hsr hgi f0;have cF:=am.grownO hg bs;have aF:=aK.grownO hg aq;have g6:=zAb dJ hg;clear hc hg dJ dH am aK cL;have DZ:=aF.frozen 2;have FR:X6.cell? ⟨a1,2,U⟩=Z (D J 0):=(aF.cell 2).trans rfl;have DY:=aF.frozen 3;have FQ:X6.cell? ⟨a1,3,U⟩=Z (D J 0):=(aF.cell 3).trans rfl;have DX:=aF.frozen 4;have FP:X6.cell? ⟨a1,4,U⟩=Z (G E):=(aF.cell 4).trans rfl;have DW:=aF.frozen 5;have FO:X6.cell? ⟨a1,5,U⟩=Z (D J 0):=(aF.cell 5).trans rfl;have ro:Blk (X6.setCell ⟨a1,2,U⟩ (D J gi)) a1 32 #[D J 5,D J fi,D J gi,D J 0,G E,D J 0,H U 0 0,G E]:=aF.set_ 2 _;have pU:Below (rb+1) X6 (X6.setCell ⟨a1,2,U⟩ (D J gi)):=(Below.refl _ _).setCell (p:=⟨a1,2,U⟩) aq _;have qx:Below w.heap.size X6 (X6.setCell ⟨a1,2,U⟩ (D J gi)):=(Below.refl _ _).setCell (p:=⟨a1,2,U⟩) aM _;have kz:=cF.far (p:=⟨a1,2,U⟩) (by simp only;omega) (D J gi);have rm:Blk ((X6.setCell ⟨a1,2,U⟩ (D J gi)).setCell ⟨a1,3,U⟩ (D J 0)) a1 32 #[D J 5,D J fi,D J gi,D J 0,G E,D J 0,H U 0 0,G E]:=ro.set_ 3 _;have pT:Below (rb+1) X6 ((X6.setCell ⟨a1,2,U⟩ (D J gi)).setCell ⟨a1,3,U⟩ (D J 0)):=pU.setCell (p:=⟨a1,3,U⟩) aq _;have qw:Below w.heap.size X6 ((X6.setCell ⟨a1,2,U⟩ (D J gi)).setCell ⟨a1,3,U⟩ (D J 0)):=qx.setCell (p:=⟨a1,3,U⟩) aM _;have ky:=kz.far (p:=⟨a1,3,U⟩) (by simp only;omega) (D J 0);have rl:Blk (((X6.setCell ⟨a1,2,U⟩ (D J gi)).setCell ⟨a1,3,U⟩ (D J 0)).setCell ⟨a1,4,U⟩ (G far)) a1 32 #[D J 5,D J fi,D J gi,D J 0,G far,D J 0,H U 0 0,G E]:=rm.set_ 4 _;have pS:Below (rb+1) X6 (((X6.setCell ⟨a1,2,U⟩ (D J gi)).setCell ⟨a1,3,U⟩ (D J 0)).setCell ⟨a1,4,U⟩ (G far)):=pT.setCell (p:=⟨a1,4,U⟩) aq _;have qv:Below w.heap.size X6 (((X6.setCell ⟨a1,2,U⟩ (D J gi)).setCell ⟨a1,3,U⟩ (D J 0)).setCell ⟨a1,4,U⟩ (G far)):=qw.setCell (p:=⟨a1,4,U⟩) aM _;have kw:=ky.far (p:=⟨a1,4,U⟩) (by simp only;omega) (G far);have rj:Blk ((((X6.setCell ⟨a1,2,U⟩ (D J gi)).setCell ⟨a1,3,U⟩ (D J 0)).setCell ⟨a1,4,U⟩ (G far)).setCell ⟨a1,5,U⟩ (D J 0)) a1 32 #[D J 5,D J fi,D J gi,D J 0,G far,D J 0,H U 0 0,G E]:=rl.set_ 5 _;have pR:Below (rb+1) X6 ((((X6.setCell ⟨a1,2,U⟩ (D J gi)).setCell ⟨a1,3,U⟩ (D J 0)).setCell ⟨a1,4,U⟩ (G far)).setCell ⟨a1,5,U⟩ (D J 0)):=pS.setCell (p:=⟨a1,5,U⟩) aq _;have qu:Below w.heap.size X6 ((((X6.setCell ⟨a1,2,U⟩ (D J gi)).setCell ⟨a1,3,U⟩ (D J 0)).setCell ⟨a1,4,U⟩ (G far)).setCell ⟨a1,5,U⟩ (D J 0)):=qv.setCell (p:=⟨a1,5,U⟩) aM _;have kp:=kw.far (p:=⟨a1,5,U⟩) (by simp only;omega) (D J 0);have gp:=hy.over pR;have iv:=zAc g6 qu;clear hy g6 cF aF pU qx ro kz pT qw rm ky pS qv rl kw pR qu;have HG:=qH (show zCI w rb w.heap.size a1 a2 F s S 1 (3) ((((X6.setCell ⟨a1,2,U⟩ (D J gi)).setCell ⟨a1,3,U⟩ (D J 0)).setCell ⟨a1,4,U⟩ (G far)).setCell ⟨a1,5,U⟩ (D J 0)) (r2) from .inr (.inl ⟨rfl,rfl,⟨⟨5,f,Z ⟨g,0,far,0⟩,[],E⟩,5,fi,gi,far,⟨gp,kp,rj,iv,HN.out,rfl,mz.out⟩⟩⟩));clear gp iv kp rj;go_wp2_with fail
       go_step3
       refine (show ∃n',zBg w rb a1 a2 F s S 1 n' _ _ from ?_);exact ⟨_,_,r2,rfl,⟨rfl,rfl,rfl,rfl,rfl,rfl,rfl⟩,HG⟩
     by_cases e6:K=6
     ·subst e6;rw [if_neg (by omega),if_neg (by omega),if_neg (by omega),if_pos (by omega)] at HU;have uo:=qH (fun wx (hx:RX wx rb F ⟨s.T,s.bad,s.lost||zBE F.L f⟩)=>zMN hx r);go_wp2_with fail
      refine (uo.out X5 dH).mono ?_;intro e X6 hc
      cases hsr:zFL r with
      | none =>
       obtain ⟨rfl,hy,hg⟩:=zGU hc hsr;have HN:=qH (show zAJ S=U by rw [HU,hsr]);clear HU hsr f0;have cF:=am.grownO hg bs;have aF:=aK.grownO hg aq;have g6:=zAb dJ hg;clear hc hg dJ dH am aK cL;have z28:=aF.frozen 2;have d28:X6.cell? ⟨a1,2,U⟩=Z (D J 0):=(aF.cell 2).trans rfl;have gM:Below (rb+1) X6 (X6.setCell ⟨a1,2,U⟩ (D J 0)):=(Below.refl _ _).setCell (p:=⟨a1,2,U⟩) aq _;have Eu:Below w.heap.size X6 (X6.setCell ⟨a1,2,U⟩ (D J 0)):=(Below.refl _ _).setCell (p:=⟨a1,2,U⟩) aM _;have ie:=cF.far (p:=⟨a1,2,U⟩) (by simp only;omega) (D J 0);have pt:=hy.over gM;have pu:=zAc g6 Eu;clear hy g6 cF aF gM Eu;have HG:=qH (show zCI w rb w.heap.size a1 a2 F s S 0 (1) (X6.setCell ⟨a1,2,U⟩ (D J 0)) (r) from .inl ⟨rfl,rfl,⟨⟨_,pt⟩,ie,pu,HN.out⟩⟩);clear pt pu ie;go_wp2_with fail
       go_step3
       refine (show ∃n',zBg w rb a1 a2 F s S 0 n' _ _ from ?_);exact ⟨_,_,r,rfl,⟨rfl,rfl,rfl,rfl,rfl,rfl,rfl⟩,HG⟩
      | some p =>
       obtain ⟨g,r2⟩:=p;obtain ⟨rfl,hy,hg⟩:=zGT hc hsr;obtain ⟨gi,hgi⟩:∃x,(zAM F.L g:Int)=x:=⟨_,rfl⟩
       rw [hgi];have HN:=qH (show zAJ S=zEc ⟨6,f,Z ⟨g,0,E,0⟩,[],E⟩ (zCP r2) by rw [HU,hsr]);have di:=qH (show (s.lost||zBE F.L f||zBE F.L g)=(s.lost||zAE F.L ⟨6,f,Z ⟨g,0,E,0⟩,[],E⟩) by simp [zAE,zBI,Bool.or_assoc]);have mz:=qH (show ∀b,oOf F.L ⟨6,f,Z ⟨g,0,E,0⟩,[],b⟩=⟨6,fi,⟨gi,0,E,0⟩,[],b⟩ from fun b=>by rw [←bY.out,←hgi];rfl)
       try simp only at hy
       rw [di.out] at hy;clear HU hsr hgi f0;have cF:=am.grownO hg bs;have aF:=aK.grownO hg aq;have g6:=zAb dJ hg;clear hc hg dJ dH am aK cL;have DV:=aF.frozen 2;have FM:X6.cell? ⟨a1,2,U⟩=Z (D J 0):=(aF.cell 2).trans rfl;have cH:Blk (X6.setCell ⟨a1,2,U⟩ (D J gi)) a1 32 #[D J 6,D J fi,D J gi,D J 0,G E,D J 0,H U 0 0,G E]:=aF.set_ 2 _;have oq:Below (rb+1) X6 (X6.setCell ⟨a1,2,U⟩ (D J gi)):=(Below.refl _ _).setCell (p:=⟨a1,2,U⟩) aq _;have vC:Below w.heap.size X6 (X6.setCell ⟨a1,2,U⟩ (D J gi)):=(Below.refl _ _).setCell (p:=⟨a1,2,U⟩) aM _;have cl:=cF.far (p:=⟨a1,2,U⟩) (by simp only;omega) (D J gi);have fQ:=hy.over oq;have gF:=zAc g6 vC;clear hy g6 cF aF oq vC;have HG:=qH (show zCI w rb w.heap.size a1 a2 F s S 1 (3) (X6.setCell ⟨a1,2,U⟩ (D J gi)) (r2) from .inr (.inl ⟨rfl,rfl,⟨⟨6,f,Z ⟨g,0,E,0⟩,[],E⟩,6,fi,gi,E,⟨fQ,cl,cH,gF,HN.out,rfl,mz.out⟩⟩⟩));clear fQ gF cl cH;go_wp2_with fail
       go_step3
       refine (show ∃n',zBg w rb a1 a2 F s S 1 n' _ _ from ?_);exact ⟨_,_,r2,rfl,⟨rfl,rfl,rfl,rfl,rfl,rfl,rfl⟩,HG⟩
     by_cases e7:K=7
     ·subst e7;rw [if_neg (by omega),if_neg (by omega),if_neg (by omega),if_pos (by omega)] at HU;have uo:=qH (fun wx (hx:RX wx rb F ⟨s.T,s.bad,s.lost||zBE F.L f⟩)=>zMN hx r);go_wp2_with fail
      refine (uo.out X5 dH).mono ?_;intro e X6 hc
      cases hsr:zFL r with
      | none =>
       obtain ⟨rfl,hy,hg⟩:=zGU hc hsr;have HN:=qH (show zAJ S=U by rw [HU,hsr]);clear HU hsr f0;have cF:=am.grownO hg bs;have aF:=aK.grownO hg aq;have g6:=zAb dJ hg;clear hc hg dJ dH am aK cL;have DU:=aF.frozen 2;have FJ:X6.cell? ⟨a1,2,U⟩=Z (D J 0):=(aF.cell 2).trans rfl;have gL:Below (rb+1) X6 (X6.setCell ⟨a1,2,U⟩ (D J 0)):=(Below.refl _ _).setCell (p:=⟨a1,2,U⟩) aq _;have vB:Below w.heap.size X6 (X6.setCell ⟨a1,2,U⟩ (D J 0)):=(Below.refl _ _).setCell (p:=⟨a1,2,U⟩) aM _;have ri:=cF.far (p:=⟨a1,2,U⟩) (by simp only;omega) (D J 0);have iI:=hy.over gL;have iJ:=zAc g6 vB;clear hy g6 cF aF gL vB;have HG:=qH (show zCI w rb w.heap.size a1 a2 F s S 0 (1) (X6.setCell ⟨a1,2,U⟩ (D J 0)) (r) from .inl ⟨rfl,rfl,⟨⟨_,iI⟩,ri,iJ,HN.out⟩⟩);clear iI iJ ri;go_wp2_with fail
       go_step3
       refine (show ∃n',zBg w rb a1 a2 F s S 0 n' _ _ from ?_);exact ⟨_,_,r,rfl,⟨rfl,rfl,rfl,rfl,rfl,rfl,rfl⟩,HG⟩
      | some p =>
       obtain ⟨g,r2⟩:=p;obtain ⟨rfl,hy,hg⟩:=zGT hc hsr;obtain ⟨gi,hgi⟩:∃x,(zAM F.L g:Int)=x:=⟨_,rfl⟩
       rw [hgi];have HN:=qH (show zAJ S=zEc ⟨7,f,Z ⟨g,0,E,0⟩,[],E⟩ (zCP r2) by rw [HU,hsr]);have di:=qH (show (s.lost||zBE F.L f||zBE F.L g)=(s.lost||zAE F.L ⟨7,f,Z ⟨g,0,E,0⟩,[],E⟩) by simp [zAE,zBI,Bool.or_assoc]);have mz:=qH (show ∀b,oOf F.L ⟨7,f,Z ⟨g,0,E,0⟩,[],b⟩=⟨7,fi,⟨gi,0,E,0⟩,[],b⟩ from fun b=>by rw [←bY.out,←hgi];rfl)
       try simp only at hy
       rw [di.out] at hy;clear HU hsr hgi f0;have cF:=am.grownO hg bs;have aF:=aK.grownO hg aq;have g6:=zAb dJ hg;clear hc hg dJ dH am aK cL;have z31:=aF.frozen 2;have d31:X6.cell? ⟨a1,2,U⟩=Z (D J 0):=(aF.cell 2).trans rfl;have rh:Blk (X6.setCell ⟨a1,2,U⟩ (D J gi)) a1 32 #[D J 7,D J fi,D J gi,D J 0,G E,D J 0,H U 0 0,G E]:=aF.set_ 2 _;have Em:Below (rb+1) X6 (X6.setCell ⟨a1,2,U⟩ (D J gi)):=(Below.refl _ _).setCell (p:=⟨a1,2,U⟩) aq _;have Et:Below w.heap.size X6 (X6.setCell ⟨a1,2,U⟩ (D J gi)):=(Below.refl _ _).setCell (p:=⟨a1,2,U⟩) aM _;have rg:=cF.far (p:=⟨a1,2,U⟩) (by simp only;omega) (D J gi);have mr:=hy.over Em;have mt:=zAc g6 Et;clear hy g6 cF aF Em Et;have HG:=qH (show zCI w rb w.heap.size a1 a2 F s S 1 (3) (X6.setCell ⟨a1,2,U⟩ (D J gi)) (r2) from .inr (.inl ⟨rfl,rfl,⟨⟨7,f,Z ⟨g,0,E,0⟩,[],E⟩,7,fi,gi,E,⟨mr,rg,rh,mt,HN.out,rfl,mz.out⟩⟩⟩));clear mr mt rg rh;go_wp2_with fail
       go_step3
       refine (show ∃n',zBg w rb a1 a2 F s S 1 n' _ _ from ?_);exact ⟨_,_,r2,rfl,⟨rfl,rfl,rfl,rfl,rfl,rfl,rfl⟩,HG⟩
     have m3:(K==3)=E:=by simpa using e3
     have m4:(K==4)=E:=by simpa using e4
     have m5:(K==5)=E:=by simpa using e5
     have m6:(K==6)=E:=by simpa using e6
     have m7:(K==7)=E:=by simpa using e7
     have HN:=qH (show zAJ S=zSa ⟨K,f,U,[],E⟩ r by rw [HU,if_neg e4,if_neg e3,if_neg e5,if_neg (by omega)]);have di:=qH (show (s.lost||zBE F.L f)=(s.lost||zAE F.L ⟨K,f,U,[],E⟩) by simp [zAE,zBI]);have mz:=qH (show oOf F.L ⟨K,f,U,[],E⟩=⟨K,fi,⟨0,0,E,0⟩,[],E⟩ by rw [←bY.out];rfl);rw [di.out] at dH;clear HU e3 e4 e5 e6 e7;have HG:=qH (show zCI w rb w.heap.size a1 a2 F s S 3 (2) X5 (r) from .inr (.inr (.inr ⟨rfl,rfl,⟨⟨K,f,U,[],E⟩,K,fi,0,E,E,[],U,0,0,⟨dH,am,aK,dJ,Row.none_ _ _ _,rfl,mz.out,HN.out⟩⟩⟩)));clear dH dJ am aK cL;go_wp2_with fail
     go_step3
     refine (show ∃n',zBg w rb a1 a2 F s S 3 n' _ _ from ?_);exact ⟨_,_,r,rfl,⟨rfl,rfl,rfl,rfl,rfl,rfl,rfl⟩,HG⟩
 ·rintro l q a wv ⟨X9,r,hX,hF,HJ⟩;subst hX;rcases HJ.out with ⟨rfl,rfl,h0⟩ | ⟨rfl,rfl,n,k,f,ff,far,h1⟩ | ⟨rfl,rfl,f,fi,P,Ps,B,m,d,N,x0,x1,x3,x2,h2⟩ | ⟨rfl,rfl,n,k,f,ff,far,over,path,B,m,d,h3⟩
  ·exact zNO rb F s S w hlt a1 a2 iO.out vj.out r 1 rfl a X9 hF h0
  ·exact zNQ rb F s S w hlt a1 a2 iO.out vj.out r 3 rfl a X9 hF n k f ff far h1
  ·exact zNR rb F s S w hlt a1 a2 iO.out vj.out r _ rfl a X9 hF hS f fi P Ps B m d N x0 x1 x3 x2 h2
  ·exact zNP rb F s S w hlt a1 a2 iO.out vj.out r 2 rfl a X9 hF n k f ff far over path B m d h3
noncomputable def rlR (L:List Fg) (re lo:Int) (S:List UInt8):List Og×Nat×Int:=if zAw L re lo S=0 then zBX L (zAN 10 S) [] else ([],0,zAw L re lo S)
def zXi:Value→Nat
 | W s=>s.size
 | _=>0
theorem zNS (L:List Fg) (S:List UInt8):zEQ L S=0∨zEQ L S=6∨zEQ L S=8:=by
 unfold zEQ;split
 ·omega
 ·split<;>omega
theorem zPN {w:World} {base:Nat} {B:Option Addr} {m d:Nat} {P:List Sp} (h:Row w base 5 B m d (P.flatMap zIg)) (hm:m≤1000000) (hok:∀x∈P,SgOk x.s):Stps w B m P:=⟨h.els (fun _=>rfl) (by omega) (by omega),hok⟩
theorem zSd (L:List Fg) (S:List UInt8):(zHI L S).path.length≤2*S.length+2:=by
 by_cases h:∃n,okN n∧S=zDH n
 ·obtain ⟨n,h1,rfl⟩:=h;rw [(zGS L h1).2]
  cases zAE L n with
  | true=>simp [o0]
  | false =>
   show (n.path.map (pOf L)).length≤_;rw [List.length_map];have h2:=zGa (zDH n);rw [zEm] at h2;have h3:n.path.length≤(zJp n).length:=by
    by_cases hp:n.path=[]
    ·simp [hp]
    ·have hk:n.kind=3:=by
      rcases h1.2 with ⟨_,_,h,_⟩ | ⟨_,_,h⟩ | ⟨h,_⟩ | ⟨_,_,h⟩ | ⟨_,_,h⟩
      ·exact absurd h hp
      ·exact absurd h hp
      ·exact h
      ·exact absurd h hp
      ·exact absurd h hp
     have:=zMG n.path;unfold zJp tlT;rw [if_neg (by omega),if_pos hk];simp only [List.length_cons,List.length_append];omega
   omega
 ·rw [(zML L fun n h1 h2=>h ⟨n,h1,h2⟩).2];simp [o0]
set_option maxHeartbeats 12800000 in
set_option maxRecDepth 100000 in
theorem zHL (F:Fm) (S:List UInt8) (w:World) (hA:Fgs w F.A F.n F.L) (hc:F.n≤F.c) (ht:Tabs w) :
  Calls Tryz.prog 23 #[frV F.A F.n F.c F.re F.lo,W (bA S)] w (zPK w (rlR F.L F.re F.lo S).1 (rlR F.L F.re F.lo S).2.1 (rlR F.L F.re F.lo S).2.2):=by
 have pp:F.L.length≤17592186043904:=by rw [hA.len];exact hA.le
 have aa:Below w.heap.size w (w.alloc (.cells #[H F.A F.n F.c,D J F.re,D J F.lo] 24)):=(Below.refl _ _).alloc (Nat.le_refl _) _;have hk0:Blk (w.alloc (.cells #[H F.A F.n F.c,D J F.re,D J F.lo] 24)) w.heap.size 24 #[H F.A F.n F.c,D J F.re,D J F.lo]:=Blk.new _ _ _;have HA:=qH hA;have HT:=qH ht;obtain ⟨ZT,hE⟩:∃ZT,zAw F.L F.re F.lo S=ZT:=⟨_,rfl⟩
 have hcs:=zER F.L F.re F.lo S;rw [hE] at hcs;have fz:=qH (fun wx (hx:Fgs wx F.A F.n F.L)=>zDx F.A F.n F.c F.L F.re F.lo S wx hx hc);simp only [hE] at fz;have HE:=qH hE;have HR:Hid (rlR F.L F.re F.lo S=if ZT=0 then zBX F.L (zAN 10 S) [] else ([],0,ZT)):=qH (by unfold rlR;rw [hE]);obtain ⟨⟨TO,TN,TE⟩,oE⟩:∃x,rlR F.L F.re F.lo S=x:=⟨_,rfl⟩
 rw [oE] at HR ⊢;simp only;have dd:=qH (fun (O:List Og) (n:Nat) (er:Int) (hq:(O,n,er)=(TO,TN,TE)) (e:Ending) (wx:World) (h:zPK w O n er e wx)=>(show zPK w TO TN TE e wx by injection hq with h1 h2;injection h2 with h2 h3;subst h1;subst h2;subst h3;exact h));have FL:=qH pp;clear hA ht hE oE pp;go_enter Tryz.func23,Tryz.ntmps23;go_wp2_with fail
 generalize w.alloc (.cells #[H F.A F.n F.c,D J F.re,D J F.lo] 24)=Y at aa hk0 ⊢;refine (fz.out Y (HA.out.below aa)).mono ?_;rintro e Y2 ⟨rfl,ab⟩;have aP:=hk0.below ab hk0.lt;have ac:=zAa aa ab aa.size;clear hk0 aa ab fz;by_cases h0:ZT=0
 ·subst h0;have hS:=(zCh HE.out).1;have jR:=qH (HR.out.trans (if_pos rfl));clear hcs HR;go_wp2_with fail
  go_loopw [1,8,9] (fun v1 v8 v9 wv=>∃(X:World) (R:List UInt8) (A':Option Addr) (i c':Nat) (Es:List Oe),X=wv∧v1=W (bA R)∧v8=H A' i c'∧v9=D J i∧R.length+i≤8000∧OpsOwn X Y2.heap.size A' i c' Es∧Below Y2.heap.size Y2 X∧Hid (Es.length=i∧(TO,TN,TE)=zBX F.L (zAN 10 R) (List.map (fun x:Oe=>x.o) Es))) (fun v1 _ _ _=>zXi v1)
  case atStart=>exact ⟨_,S,U,0,0,[],rfl,rfl,rfl,rfl,by omega,OpsOwn.none_ _ _,Below.refl _ _,qH ⟨rfl,jR.out⟩⟩
  case round =>
   obtain ⟨X,R,A',i,c',Es,hX,rfl,rfl,rfl,hle,hO,hb,HI⟩:=hrel;subst hX;have hbw:=zAa ac hb ac.size;have hz:w.heap.size≤Y2.heap.size:=ac.size;by_cases hR:R=[]
   ·have n0:((bA R).toList==[])=Q:=by rw [zAD,hR];rfl
    have HF:=qH (dd.out (List.map (fun x:Oe=>x.o) Es) i 0 (by rw [HI.out.2,hR,zPJ,List.length_map,HI.out.1]) _ X ⟨A',i,c',Es,rfl,rfl,by omega,hO.mono hz,hbw⟩);clear hR hO hb hbw HI aP;go_wp2_with fail
    go_ret3
    exact HF.out
   have n0:((bA R).toList==[])=E:=by rw [zAD];simpa using hR
   have eG:=zRY R (by omega) X (HT.out.below hbw);by_cases h10:(10:UInt8)∈R
   ·obtain ⟨h,r,uQ,hh⟩:=zJD h10;rw [show Lib.cut R [10]=(h,r,Q) from by rw [uQ];exact zOS hh] at eG;have eG:=qH eG;have hlr:r.length+(i+1)≤8000:=by rw [uQ] at hle;simp at hle;omega
    have hlh:h.length≤20000:=by rw [uQ] at hle;simp at hle;omega
    have hms:zXi (W (bA r)) < zXi (W (bA R)):=by simp only [zXi,zAP,uQ];simp;omega
    have HL:=qH (show (TO,TN,TE)=if zEQ F.L h=0 then zBX F.L (zAN 10 r) (List.map (fun x:Oe=>x.o) Es++[zHI F.L h]) else ([],i,zEQ F.L h) by rw [HI.out.2,uQ,zNN F.L hh,List.length_map,HI.out.1]);have fJ:=qH HI.out.1;have mB:=qH hms;clear hR h10 uQ hh HI hms;go_wp2_with fail
    refine eG.out.mono ?_;rintro e X2 ⟨rfl,aj⟩;have ai:=zAa hbw aj hbw.size;have tB:=zAa hb aj hb.size;have fP:=hO.below aj;have hfx:=(aP.below hb aP.lt).below aj (aP.below hb aP.lt).lt;have iw:=zHJ F h X2 (HA.out.below ai) hlh (HT.out.below ai);have B6:=zUC FL.out h;have BB:=zNS F.L h;obtain ⟨ov,eov⟩:∃x,zHI F.L h=x:=⟨_,rfl⟩
    obtain ⟨er,eer⟩:∃x,zEQ F.L h=x:=⟨_,rfl⟩
    rw [eov,eer] at iw HL;rw [eov] at B6;rw [eer] at BB;have iw:=qH iw;have iM:=qH B6;have iN:Hid (ov.path.length≤1000000):=qH (by rw [←eov];have:=zSd F.L h;omega);obtain ⟨kk,ff,⟨gf,gl,gfar,gpc⟩,path,vov⟩:=ov;obtain ⟨w0,w1,w2⟩:=cQ3 hfx;clear hO hb hbw aj eG eov eer B6 hfx hlh;go_wp2_with fail
    refine iw.out.mono ?_;rintro e X3 ⟨B2,m2,d2,rfl,hrow,da,ao⟩;have jT:=qH da;have bE:=zAa ai ao ai.size;have tz:=zAa tB ao tB.size;have jB:=fP.below ao;have hbl:=(Below.refl X3.heap.size X3).alloc (Nat.le_refl _) (.cells #[D J kk,D J ff,D J gf,D J gl,G gfar,D J gpc,H B2 m2 d2,G vov] 32);have hop:Blk (X3.alloc (.cells #[D J kk,D J ff,D J gf,D J gl,G gfar,D J gpc,H B2 m2 d2,G vov] 32)) X3.heap.size 32 #[D J kk,D J ff,D J gf,D J gl,G gfar,D J gpc,H B2 m2 d2,G vov]:=Blk.new _ _ _;have pj:=jB.below hbl;have hrw:=hrow.below hbl;have bg:=zAa bE hbl bE.size;have nC:=zAa tz hbl tz.size
    have pE:=qH (fun k (hk:blk B2=Z k)=>(show k < (X3.alloc (.cells #[D J kk,D J ff,D J gf,D J gl,G gfar,D J gpc,H B2 m2 d2,G vov] 32)).heap.size∧blk A'≠Z k by
     have h1:=hrow.lt k hk
     refine ⟨by simp;omega,fun e2=>?_⟩
     have h2:=(fP.row.lt k e2).2
     omega))
    have zQ:=qH (show Y2.heap.size≤(X3.alloc (.cells #[D J kk,D J ff,D J gf,D J gl,G gfar,D J gpc,H B2 m2 d2,G vov] 32)).heap.size from nC.size);clear da fP ai tB ao bE tz jB hbl hrow w0 w1 w2 iw;go_upto_region 12 with fail
    generalize X3.alloc (.cells #[D J kk,D J ff,D J gf,D J gl,G gfar,D J gpc,H B2 m2 d2,G vov] 32)=X4 at hop pj hrw bg nC pE zQ ⊢;generalize X3.heap.size=a13 at hop ⊢;by_cases her:er=0
    ·subst her;have Du:=qH (HL.out.trans (if_pos rfl));clear BB HL n0;obtain ⟨f0,f1,f2,f3,f4,f5,f6,f7⟩:=cQ8 hop;go_upto_region 15 with (at_builtin;refine zEw ?_)
     refine qH ?_;refine zWn (y:=⟨⟨kk,ff,⟨gf,gl,gfar,gpc⟩,path,vov⟩,B2,m2,d2⟩) (N:=i+1) (base:=Y2.heap.size) (A:=A') (n:=i) (c:=c') (Es:=Es) rfl (.tmp 44) (.tmp 46) ?_ ?_ ?_ ?_ ?_ ?_ ?_ ?_
     ·rfl
     ·exact pj.row
     ·rfl
     ·rfl
     ·rfl
     ·omega
     ·exact zQ.out
     intro A2 c2 w9 hR9 aQ aL;have aJ:=pj.row.belowOf aQ zQ.out;have Bh:m2≤1000000:=by rw [jT.out];exact iN.out
     have cv:=pj.push ⟨⟨kk,ff,⟨gf,gl,gfar,gpc⟩,path,vov⟩,B2,m2,d2⟩ ⟨iM.out.1,zPN hrw Bh iM.out.2,hrw.cap,pE.out⟩ hR9 aQ aL;have hbz:=nC.trans aJ;have HF:=qH (show (Es++[(⟨⟨kk,ff,⟨gf,gl,gfar,gpc⟩,path,vov⟩,B2,m2,d2⟩:Oe)]).length=i+1∧(TO,TN,TE)=zBX F.L (zAN 10 r) (List.map (fun x:Oe=>x.o) (Es++[(⟨⟨kk,ff,⟨gf,gl,gfar,gpc⟩,path,vov⟩,B2,m2,d2⟩:Oe)])) from ⟨by simp [fJ.out],by rw [Du.out,List.map_append];rfl⟩);clear hop pj hrw bg nC aQ aL hR9 aJ f0 f1 f2 f3 f4 f5 f6 f7 pE zQ;go_wp2_with fail
     go_roundw
     case rel=>exact ⟨_,r,A2,i+1,c2,_,rfl,rfl,rfl,by go_num,hlr,cv,hbz,HF⟩
     case measure=>exact mB.out
    ·have k0:(er != 0)=Q:=by simpa using her
     have HF:=qH (dd.out [] i er (by rw [HL.out,if_neg her]) _ X4 ⟨U,0,0,[],rfl,rfl,by omega,OpsOwn.none_ _ _,bg⟩);clear hop pj hrw bg nC BB her;go_wp2_with fail
     go_ret3
     exact HF.out
   ·rw [zOT h10] at eG;have eG:=qH eG;have HL:=qH (show ([],i,(6:Int))=(TO,TN,TE) by rw [HI.out.2,zNM F.L h10 hR,List.length_map,HI.out.1]);clear hR h10 HI hO hb aP;go_wp2_with fail
    refine eG.out.mono ?_;rintro e X2 ⟨rfl,aj⟩;have HF:=qH (dd.out [] i 6 HL.out _ X2 ⟨U,0,0,[],rfl,rfl,by omega,OpsOwn.none_ _ _,zAa hbw aj hbw.size⟩);clear aj hbw;go_wp2_with fail
    go_ret3
    exact HF.out
 ·have HF:=qH (dd.out [] 0 ZT (by rw [HR.out,if_neg h0]) _ Y2 ⟨U,0,0,[],rfl,rfl,by omega,OpsOwn.none_ _ _,ac⟩);have k0:(ZT != 0)=Q:=by simpa using h0
  clear hcs h0 ac aP;go_wp2_with fail
  go_ret3
  exact HF.out
end Go.Proofs.YtlmdfmnbcndhoaaGreatDoor
