/-
  Lemmas, part 29. Conditions: each theorem's own.
-/
import Derived.Test.YtlmdfmnbcndhoaaGreatDoorRc27
import Derived.Test.YtlmdfmnbcndhoaaGreatDoorRc28
open Go.Value renaming bool→G,int→D
open Option renaming none→U,some→Z
open Bool renaming false→E,true→Q
open Go.IntKind renaming i64→J
namespace Go.Proofs.YtlmdfmnbcndhoaaGreatDoor
open Go.RowKit
def zPV (w:World) (p:Nat) (K:Int) (A:Option Addr) (n c:Nat) (L:List Lt) (v2 v3 v4 v6:Value) (e:Ending) (w':World):Prop :=
 e=.returned (G (zBR L))∧w.grownBy w' (Z p)∧(zBR L=Q→∃b ids,w.heap.size≤b∧Dia w' p K A n c v2 v3 v4 (.map (Z b)) v6∧Vis w' b L n ids)
theorem zGW {a b c:World} {row:Option Nat} {g:Nat} (h:a.grownBy b row) (k:b.grownBy c (Z g)) (hg:a.heap.size≤g):a.grownBy c row :=
 ⟨k.os.trans h.os,k.tape.trans h.tape,k.output.trans h.output,Nat.le_trans h.size k.size,fun j hj hne=>(k.block j (Nat.lt_of_lt_of_le hj h.size) (by simp;omega)).trans (h.block j hj hne)⟩
theorem zDk {L:List Lt} {n i:Nat} (hL:L.length=n) (hi:i < n) (h:crB L i=E):zBR L=E:=by
 unfold zBR;rw [hL,zDq hi h,Bool.and_false]
set_option maxRecDepth 100000 in
set_option maxHeartbeats 6400000 in
theorem zFC (p:Nat) (K:Int) (A:Option Addr) (n c:Nat) (L:List Lt) (v2 v3 v4 v5 v6:Value) (w:World) (hA:Lets w A n L) (hn:n≤400)
  (f8:∀a,A=Z a→p≠a.block) (hd:Dia w p K A n c v2 v3 v4 v5 v6) :
  Calls Tryz.prog 178 #[.pointer (Z ⟨p,0,U⟩)] w (zPV w p K A n c L v2 v3 v4 v6):=by
 have HL:=qH hA.len;have c0:=hd.c0;have c1:=hd.c1;have hcn:=zKg L n;have hplt:=hd.lt;by_cases he:cN L n % 2=0
 ·have he1:((cN L n:Int) % 2 != 0)=E:=by simp;omega
  have HE:=qH he;clear he;have hmm:=@run_makeMap Tryz.prog;go_enter Tryz.func178,Tryz.ntmps178;go_wp2_with fail
  refine (zBn K A n c L _ hA).mono ?_;rintro e w1 ⟨rfl,ah⟩;have hd1:=hd.next ah;have a1:=hd1.c1;have a5:=hd1.c5;have f5:=hd1.frozen 5;have az:=ah.size;have gB:=hd1.lt;have oZ:=(hd1.set5 (.map (Z w1.heap.size))).alloc (.map #[] 0);have yQ:Vis ((w1.setCell ⟨p,5,U⟩ (.map (Z w1.heap.size))).alloc (.map #[] 0)) w1.heap.size L 0 []:=by
   have:=Vis.made (w1.setCell ⟨p,5,U⟩ (.map (Z w1.heap.size))) L
   rwa [show (w1.setCell ⟨p,5,U⟩ (.map (Z w1.heap.size))).heap.size=w1.heap.size by simp] at this
  have dL:w.grownBy ((w1.setCell ⟨p,5,U⟩ (.map (Z w1.heap.size))).alloc (.map #[] 0)) (Z p):=zBt (zAg (zDK ah _) (p:=⟨p,5,U⟩) (.inl rfl) _) _;go_wp2_with fail
  have hwb:w.heap.size≤w1.heap.size:=az;generalize w1.heap.size=b at oZ yQ dL hwb ⊢;generalize (w1.setCell ⟨p,5,U⟩ (.map (Z b))).alloc (.map #[] 0)=ws at oZ yQ dL ⊢;have hst:Hid (∀j,j < 0→crB L j=Q):=qH (fun j hj=>by omega);clear hd1 a1 a5 f5 hmm az gB c0 c1 ah;go_loopw [4,5,6,7,8,27] (fun _ _ _ _ _ s27 wr=>∃(i:Nat) (ids:List Int),i≤n∧s27=D J i∧Dia wr p K A n c v2 v3 v4 (.map (Z b)) v6∧Vis wr b L i ids∧w.grownBy wr (Z p)∧Hid (∀j,j < i→crB L j=Q)) (fun _ _ _ _ _ s27 _=>n-(intOf s27).toNat)
  case atStart=>exact ⟨0,[],Nat.zero_le _,rfl,oZ,yQ,dL,hst⟩
  case round =>
   obtain ⟨i,ids,hi,rfl,hD,hV,hg,HC⟩:=hrel;clear oZ yQ dL hst;have dM:=hA.growG hg (fun a ha e=>f8 a ha (by injection e));by_cases hlt:i < n
   ·obtain ⟨g,o,rfl,hgl,hx,hok⟩:=dM.at_ hlt;obtain ⟨h0,h1,h2,h3,h4,h5⟩:=hx;have i0:(0:Int)≤(i:Int):=by omega
    have i1:(i:Int) < (n:Int):=by omega
    by_cases hk:(la L i).kind=2
    ·have hc:=zLm hk;have ag:((la L i).kind != 2)=E:=by simpa using hk
     have hid:=qH hok.id;have id1:=hid.out.1;have id2:=hid.out.2;have ol:=qH hc;clear hk hc
     cases q1:decide ((la L i).id < 1) with
     | true =>
      have yN:(la L i).id < 1:=by simpa using q1
      have hf:=qH (zDk (L:=L) HL.out hlt (by
       cases hq:crB L i with
       | false=>rfl
       | true=>have:=(zBA.1 hq ol.out).1.1;omega))
      clear HC;go_wp2_with fail
      go_ret;exact ⟨zAi hf.out.symm,zBt hg _,fun h=>by rw [hf.out] at h;cases h⟩
     | false =>
      have yN:¬(la L i).id < 1:=by simpa using q1
      cases q2:decide (((cN L n:Nat):Int) / 2 < (la L i).id) with
      | true =>
       have yM:((cN L n:Nat):Int) / 2 < (la L i).id:=by simpa using q2
       have hf:=qH (zDk (L:=L) HL.out hlt (by
        cases hq:crB L i with
        | false=>rfl
        | true=>have:=(zBA.1 hq ol.out).1.2;rw [HL.out] at this;omega))
       clear HC;go_wp2_with fail
       go_ret;exact ⟨zAi hf.out.symm,zBt hg _,fun h=>by rw [hf.out] at h;cases h⟩
      | false =>
       have yM:¬((cN L n:Nat):Int) / 2 < (la L i).id:=by simpa using q2
       have hcr:=qH (zUT (L:=L) (i:=i) HC.out ol.out (by rw [HL.out];omega));go_wp2_with fail
       generalize hW:World.alloc wr _=ZR;have jw:Below wr.heap.size wr ZR:=by rw [←hW];exact (Below.refl _ _).alloc (Nat.le_refl _) _
       have lW:ZR.heap.size=wr.heap.size+1:=by rw [←hW];simp
       have hblk:Blk ZR wr.heap.size 76 #[D J (la L i).kind,D J (la L i).gate,D J (la L i).rank,D J (la L i).id,D J (la L i).sign,G (la L i).over]:=by rw [←hW];exact Blk.new wr _ _
       have iH:=hD.next jw;have ir:=hV.next jw;have iD:=zAm hg jw hg.size;have it:=dM.below jw;have b3:=hblk.cell 3;have b4:=hblk.cell 4;have b5:=hblk.cell 5;simp at b3 b4 b5;have u1:=iH.c1;have u5:=iH.c5;have m0:=iH.lt;have m1:=ir.lt;have m2:=hblk.lt;clear hW jw hD hV hg dM h0 h1 h2 h3 h4 h5 ag;have xq:=iH.alloc (.cells #[D J 0,D J 0] 226);have w5:=xq.c5;have hbp:=hblk.alloc (.cells #[D J 0,D J 0] 226);have w3:(ZR.alloc (.cells #[D J 0,D J 0] 226)).cell? ⟨wr.heap.size,3,U⟩=Z (D J (la L i).id):=by rw [hbp.cell 3];rfl
       by_cases ht:tN L (la L i).id i=0
       ·have s9:=(ir.drew).lookNo hid.out ht;have sZ:=((ir.alloc (.cells #[D J 0,D J 0] 226)).drew).lookNo hid.out ht;have eF:=qH ht;clear ht;have iO:=qH (show zAt L (la L i).id E i = -1 by have h1:=zCi L (la L i).id E i;have h2:=zJF (L:=L) (d:=(la L i).id) (i:=i);rw [eF.out] at h2;omega);have mG:=qH (show zAt L (la L i).id Q i = -1 by have h1:=zCi L (la L i).id Q i;have h2:=zJF (L:=L) (d:=(la L i).id) (i:=i);rw [eF.out] at h2;omega);go_region
        all_goals
         cases hov:(la L i).over with
         | false =>
          go_wp2_with fail
          have aZ:=qH hov;generalize hX:(World.alloc ZR _).drew=X2;have aE:Below ZR.heap.size ZR X2:=by rw [←hX];exact ((Below.refl _ _).alloc (Nat.le_refl _) _).drew
          have hpr:Blk X2 (wr.heap.size+1) 226 #[D J (zAt L (la L i).id E i),D J (zAt L (la L i).id Q i)]:=by rw [iO.out,mG.out,←hX,←lW];exact (Blk.new ZR _ _).drew
          have fD:=iH.next aE;have nG:=ir.next aE;have ew:=zAm iD aE iD.size;have go:=it.below aE;have bD:=hblk.below aE m2;have tu:b < wr.heap.size+1:=by omega
          have sP:p < wr.heap.size+1:=by omega
          have sG:w.heap.size≤wr.heap.size+1:=by have:=iD.size;omega
          clear hX aE iH ir iD it hblk b3 b4 b5 u1 u5 m0 m1 m2 xq w5 hbp w3 s9 sZ hov;obtain ⟨x,hx⟩:∃x,x=zAt L (la L i).id E i:=⟨_,rfl⟩
          obtain ⟨y,hy⟩:∃y,y=zAt L (la L i).id Q i:=⟨_,rfl⟩
          have hxb:=zCi L (la L i).id E i;have hyb:=zCi L (la L i).id Q i;rw [←hx] at hpr hxb;rw [←hy] at hpr hyb;have eE:=qH hx;have jQ:=qH hy;clear hx hy;have eY:=qH (show crT L i↔(x < 0∧(0≤y→(la L y.toNat).sign=(la L i).sign)) by unfold crT;rw [aZ.out,eE.out,jQ.out];rfl);have r0:X2.cell? ⟨wr.heap.size+1,0,U⟩=Z (D J x):=by rw [hpr.cell 0];rfl
          have r1:X2.cell? ⟨wr.heap.size+1,1,U⟩=Z (D J y):=by rw [hpr.cell 1];rfl
          have s3:X2.cell? ⟨wr.heap.size,3,U⟩=Z (D J (la L i).id):=by rw [bD.cell 3];rfl
          have s4:X2.cell? ⟨wr.heap.size,4,U⟩=Z (D J (la L i).sign):=by rw [bD.cell 4];rfl
          have u1:=fD.c1;have u5:=fD.c5;have n2:=hpr.lt;have n3:=bD.lt;have lU:x < 0:=by rw [eE.out,iO.out];decide
          have hy1:y < 0:=by rw [jQ.out,mG.out];decide
          have hxd:decide (0≤x)=E:=by simp;omega
          have hgood:=qH (hcr.out.2 (eY.out.2 ⟨lU,fun h=>by omega⟩))
          have hs:=qH (show ∀j,j < i+1→crB L j=Q from fun j hj=>by
           rcases Nat.decEq j i with e | e
           ·exact HC.out j (by omega)
           ·subst e;exact hgood.out)
          have hvis:zFz L (la L i).id E i=Q:=zBG.2 ⟨ol.out,rfl,aZ.out⟩;have c8:zFz L (la L i).id Q i=E:=by unfold zFz;rw [aZ.out];simp
          have E1:=qH (zFB hvis);have E2:=qH ((zBN c8).trans jQ.out.symm);clear hvis c8 HC;go_wp2_with fail
          go_quiet (fail)
          generalize hX3:X2.drewN nq=X3;have aS:Below X2.heap.size X2 X3:=by rw [←hX3];exact zAe (Below.refl _ _) _
          have nL:=fD.next aS;have nH:=nG.next aS;have dL:=zAm ew aS ew.size;have cn:=bD.below aS n3;have eu:=hpr.below aS n2;have t0:X3.cell? ⟨wr.heap.size+1,0,U⟩=Z (D J x):=by rw [eu.cell 0];rfl
          have t1:X3.cell? ⟨wr.heap.size+1,1,U⟩=Z (D J y):=by rw [eu.cell 1];rfl
          have tf:=eu.frozen 0;have jz:=nH.setCell (p:=⟨wr.heap.size+1,0,U⟩) (by simp;omega) (D J (i:Int));have fu:=nL.far (q:=⟨wr.heap.size+1,0,U⟩) (by simp;omega) (D J (i:Int));have dy:=cn.far (p:=⟨wr.heap.size+1,0,U⟩) (by simp) (D J (i:Int));have gh:=eu.set_ 0 (D J (i:Int));have dF:=zAg dL (p:=⟨wr.heap.size+1,0,U⟩) (.inr (by simp;omega)) (D J (i:Int));generalize lx:X3.setCell ⟨wr.heap.size+1,0,U⟩ (D J (i:Int))=X4 at jz fu dy gh dF;obtain ⟨X5,jo,hput,tH,iE⟩:=(jz.drew).store ol.out hid.out;rw [E1.out,E2.out] at hput;clear hX3 aS fD nG ew go bD hpr r0 r1 s3 s4 u1 u5 n2 n3;go_wp2_with fail
          try rw [lx]
          have k0:X4.cell? ⟨wr.heap.size+1,0,U⟩=Z (D J (i:Int)):=by rw [gh.cell 0];rfl
          have k1:X4.cell? ⟨wr.heap.size+1,1,U⟩=Z (D J y):=by rw [gh.cell 1];rfl
          have k3:X4.cell? ⟨wr.heap.size,3,U⟩=Z (D J (la L i).id):=by rw [dy.cell 3];rfl
          have k5:=fu.c5;have tT:=(fu.drew:Dia X4.drew p K _ n c v2 v3 v4 _ v6);have hpb:p≠b:=by have:=hplt;omega
          have tS:Dia X5 p K _ n c v2 v3 v4 _ v6:=Blk.grown tT iE (by simp;omega);have th:w.grownBy X5 (Z p):=zGW (zBT dF) iE hwb;clear lx jz fu dy gh dF nH nL cn eu dL t0 t1 tf;go_region
          all_goals
           go_wp2_with fail
           go_roundw
           case rel=>exact ⟨i+1,jo,by omega,by go_num,tS,tH,th,hs⟩
           case measure=>simp [intOf];omega
         | true =>
          go_wp2_with fail
          have aZ:=qH hov;generalize hX:(World.alloc ZR _).drew=X2;have aE:Below ZR.heap.size ZR X2:=by rw [←hX];exact ((Below.refl _ _).alloc (Nat.le_refl _) _).drew
          have hpr:Blk X2 (wr.heap.size+1) 226 #[D J (zAt L (la L i).id E i),D J (zAt L (la L i).id Q i)]:=by rw [iO.out,mG.out,←hX,←lW];exact (Blk.new ZR _ _).drew
          have fD:=iH.next aE;have nG:=ir.next aE;have ew:=zAm iD aE iD.size;have go:=it.below aE;have bD:=hblk.below aE m2;have tu:b < wr.heap.size+1:=by omega
          have sP:p < wr.heap.size+1:=by omega
          have sG:w.heap.size≤wr.heap.size+1:=by have:=iD.size;omega
          clear hX aE iH ir iD it hblk b3 b4 b5 u1 u5 m0 m1 m2 xq w5 hbp w3 s9 sZ hov;obtain ⟨x,hx⟩:∃x,x=zAt L (la L i).id Q i:=⟨_,rfl⟩
          obtain ⟨y,hy⟩:∃y,y=zAt L (la L i).id E i:=⟨_,rfl⟩
          have hxb:=zCi L (la L i).id Q i;have hyb:=zCi L (la L i).id E i;rw [←hx] at hpr hxb;rw [←hy] at hpr hyb;have eE:=qH hx;have jQ:=qH hy;clear hx hy;have eY:=qH (show crT L i↔(x < 0∧(0≤y→(la L y.toNat).sign=(la L i).sign)) by unfold crT;rw [aZ.out,eE.out,jQ.out];rfl);have r0:X2.cell? ⟨wr.heap.size+1,0,U⟩=Z (D J y):=by rw [hpr.cell 0];rfl
          have r1:X2.cell? ⟨wr.heap.size+1,1,U⟩=Z (D J x):=by rw [hpr.cell 1];rfl
          have s3:X2.cell? ⟨wr.heap.size,3,U⟩=Z (D J (la L i).id):=by rw [bD.cell 3];rfl
          have s4:X2.cell? ⟨wr.heap.size,4,U⟩=Z (D J (la L i).sign):=by rw [bD.cell 4];rfl
          have u1:=fD.c1;have u5:=fD.c5;have n2:=hpr.lt;have n3:=bD.lt;have lU:x < 0:=by rw [eE.out,mG.out];decide
          have hy1:y < 0:=by rw [jQ.out,iO.out];decide
          have hxd:decide (0≤x)=E:=by simp;omega
          have hgood:=qH (hcr.out.2 (eY.out.2 ⟨lU,fun h=>by omega⟩))
          have hs:=qH (show ∀j,j < i+1→crB L j=Q from fun j hj=>by
           rcases Nat.decEq j i with e | e
           ·exact HC.out j (by omega)
           ·subst e;exact hgood.out)
          have hvis:zFz L (la L i).id Q i=Q:=zBG.2 ⟨ol.out,rfl,aZ.out⟩;have c8:zFz L (la L i).id E i=E:=by unfold zFz;rw [aZ.out];simp
          have E1:=qH (zFB hvis);have E2:=qH ((zBN c8).trans jQ.out.symm);clear hvis c8 HC;go_wp2_with fail
          go_quiet (fail)
          generalize hX3:X2.drewN nq=X3;have aS:Below X2.heap.size X2 X3:=by rw [←hX3];exact zAe (Below.refl _ _) _
          have nL:=fD.next aS;have nH:=nG.next aS;have dL:=zAm ew aS ew.size;have cn:=bD.below aS n3;have eu:=hpr.below aS n2;have t0:X3.cell? ⟨wr.heap.size+1,0,U⟩=Z (D J y):=by rw [eu.cell 0];rfl
          have t1:X3.cell? ⟨wr.heap.size+1,1,U⟩=Z (D J x):=by rw [eu.cell 1];rfl
          have tf:=eu.frozen 1;have jz:=nH.setCell (p:=⟨wr.heap.size+1,1,U⟩) (by simp;omega) (D J (i:Int));have fu:=nL.far (q:=⟨wr.heap.size+1,1,U⟩) (by simp;omega) (D J (i:Int));have dy:=cn.far (p:=⟨wr.heap.size+1,1,U⟩) (by simp) (D J (i:Int));have gh:=eu.set_ 1 (D J (i:Int));have dF:=zAg dL (p:=⟨wr.heap.size+1,1,U⟩) (.inr (by simp;omega)) (D J (i:Int));generalize lx:X3.setCell ⟨wr.heap.size+1,1,U⟩ (D J (i:Int))=X4 at jz fu dy gh dF;obtain ⟨X5,jo,hput,tH,iE⟩:=(jz.drew).store ol.out hid.out;rw [E2.out,E1.out] at hput;clear hX3 aS fD nG ew go bD hpr r0 r1 s3 s4 u1 u5 n2 n3;go_wp2_with fail
          try rw [lx]
          have k0:X4.cell? ⟨wr.heap.size+1,0,U⟩=Z (D J y):=by rw [gh.cell 0];rfl
          have k1:X4.cell? ⟨wr.heap.size+1,1,U⟩=Z (D J (i:Int)):=by rw [gh.cell 1];rfl
          have k3:X4.cell? ⟨wr.heap.size,3,U⟩=Z (D J (la L i).id):=by rw [dy.cell 3];rfl
          have k5:=fu.c5;have tT:=(fu.drew:Dia X4.drew p K _ n c v2 v3 v4 _ v6);have hpb:p≠b:=by have:=hplt;omega
          have tS:Dia X5 p K _ n c v2 v3 v4 _ v6:=Blk.grown tT iE (by simp;omega);have th:w.grownBy X5 (Z p):=zGW (zBT dF) iE hwb;clear lx jz fu dy gh dF nH nL cn eu dL t0 t1 tf;go_region
          all_goals
           go_wp2_with fail
           go_roundw
           case rel=>exact ⟨i+1,jo,by omega,by go_num,tS,tH,th,hs⟩
           case measure=>simp [intOf];omega
       ·have yS:0 < tN L (la L i).id i:=by omega
        have s9:=(ir.drew).lookYes hid.out yS;have sZ:=((ir.alloc (.cells #[D J 0,D J 0] 226)).drew).lookYes hid.out yS;have eF:=qH yS;clear ht yS;go_region
        all_goals
         cases hov:(la L i).over with
         | false =>
          go_wp2_with fail
          have aZ:=qH hov;generalize hX:(World.alloc ZR _).drew=X2;have aE:Below ZR.heap.size ZR X2:=by rw [←hX];exact ((Below.refl _ _).alloc (Nat.le_refl _) _).drew
          have hpr:Blk X2 (wr.heap.size+1) 226 #[D J (zAt L (la L i).id E i),D J (zAt L (la L i).id Q i)]:=by rw [←hX,←lW];exact (Blk.new ZR _ _).drew
          have fD:=iH.next aE;have nG:=ir.next aE;have ew:=zAm iD aE iD.size;have go:=it.below aE;have bD:=hblk.below aE m2;have tu:b < wr.heap.size+1:=by omega
          have sP:p < wr.heap.size+1:=by omega
          have sG:w.heap.size≤wr.heap.size+1:=by have:=iD.size;omega
          clear hX aE iH ir iD it hblk b3 b4 b5 u1 u5 m0 m1 m2 xq w5 hbp w3 s9 sZ hov;obtain ⟨x,hx⟩:∃x,x=zAt L (la L i).id E i:=⟨_,rfl⟩
          obtain ⟨y,hy⟩:∃y,y=zAt L (la L i).id Q i:=⟨_,rfl⟩
          have hxb:=zCi L (la L i).id E i;have hyb:=zCi L (la L i).id Q i;rw [←hx] at hpr hxb;rw [←hy] at hpr hyb;have eE:=qH hx;have jQ:=qH hy;clear hx hy;have eY:=qH (show crT L i↔(x < 0∧(0≤y→(la L y.toNat).sign=(la L i).sign)) by unfold crT;rw [aZ.out,eE.out,jQ.out];rfl);have r0:X2.cell? ⟨wr.heap.size+1,0,U⟩=Z (D J x):=by rw [hpr.cell 0];rfl
          have r1:X2.cell? ⟨wr.heap.size+1,1,U⟩=Z (D J y):=by rw [hpr.cell 1];rfl
          have s3:X2.cell? ⟨wr.heap.size,3,U⟩=Z (D J (la L i).id):=by rw [bD.cell 3];rfl
          have s4:X2.cell? ⟨wr.heap.size,4,U⟩=Z (D J (la L i).sign):=by rw [bD.cell 4];rfl
          have u1:=fD.c1;have u5:=fD.c5;have n2:=hpr.lt;have n3:=bD.lt
          cases q3:decide (0≤x) with
          | true =>
           have AI:0≤x:=by simpa using q3
           have hf:=qH (zDk (L:=L) HL.out hlt (by
            cases hq:crB L i with
            | false=>rfl
            | true=>have:=eY.out.1 (hcr.out.1 hq);omega))
           clear HC;go_wp2_with fail
           go_quiet (fail)
           go_wp2_with fail
           go_ret;exact ⟨zAi hf.out.symm,zBM ew _,fun h=>by rw [hf.out] at h;cases h⟩
          | false =>
           have AI:¬0≤x:=by simpa using q3
           have AS:0≤y:=by
            have:=zJF.2 eF.out;rw [←eE.out,←jQ.out] at this;omega
           obtain ⟨j,rfl⟩:∃j:Nat,y=(j:Int):=⟨y.toNat,by omega⟩
           have hjn:j < n:=by omega
           have cj:=(go.also hjn).1.sign;have j1:(j:Int) < (n:Int):=by omega
           cases q4:((la L j).sign != (la L i).sign) with
           | true =>
            have hf:=qH (zDk (L:=L) HL.out hlt (by
             cases hq:crB L i with
             | false=>rfl
             | true=>have:=eY.out.1 (hcr.out.1 hq);have h2:=this.2 AS;rw [Int.toNat_natCast] at h2;rw [h2] at q4;simp at q4))
            clear HC;go_wp2_with fail
            go_quiet (fail)
            go_wp2_with fail
            go_ret;exact ⟨zAi hf.out.symm,zBM ew _,fun h=>by rw [hf.out] at h;cases h⟩
           | false =>
            have hgood:=qH (hcr.out.2 (eY.out.2 ⟨by omega,fun _=>by rw [Int.toNat_natCast];simpa using q4⟩))
            have hs:=qH (show ∀j,j < i+1→crB L j=Q from fun j hj=>by
             rcases Nat.decEq j i with e | e
             ·exact HC.out j (by omega)
             ·subst e;exact hgood.out)
            have hvis:zFz L (la L i).id E i=Q:=zBG.2 ⟨ol.out,rfl,aZ.out⟩;have c8:zFz L (la L i).id Q i=E:=by unfold zFz;rw [aZ.out];simp
            have E1:=qH (zFB hvis);have E2:=qH ((zBN c8).trans jQ.out.symm);clear hvis c8 HC;go_wp2_with fail
            go_quiet (fail)
            generalize hX3:X2.drewN nq=X3;have aS:Below X2.heap.size X2 X3:=by rw [←hX3];exact zAe (Below.refl _ _) _
            have nL:=fD.next aS;have nH:=nG.next aS;have dL:=zAm ew aS ew.size;have cn:=bD.below aS n3;have eu:=hpr.below aS n2;have t0:X3.cell? ⟨wr.heap.size+1,0,U⟩=Z (D J x):=by rw [eu.cell 0];rfl
            have t1:X3.cell? ⟨wr.heap.size+1,1,U⟩=Z (D J (j:Int)):=by rw [eu.cell 1];rfl
            have tf:=eu.frozen 0;have jz:=nH.setCell (p:=⟨wr.heap.size+1,0,U⟩) (by simp;omega) (D J (i:Int));have fu:=nL.far (q:=⟨wr.heap.size+1,0,U⟩) (by simp;omega) (D J (i:Int));have dy:=cn.far (p:=⟨wr.heap.size+1,0,U⟩) (by simp) (D J (i:Int));have gh:=eu.set_ 0 (D J (i:Int));have dF:=zAg dL (p:=⟨wr.heap.size+1,0,U⟩) (.inr (by simp;omega)) (D J (i:Int));generalize lx:X3.setCell ⟨wr.heap.size+1,0,U⟩ (D J (i:Int))=X4 at jz fu dy gh dF;obtain ⟨X5,jo,hput,tH,iE⟩:=(jz.drew).store ol.out hid.out;rw [E1.out,E2.out] at hput;clear hX3 aS fD nG ew go bD hpr r0 r1 s3 s4 u1 u5 n2 n3;go_wp2_with fail
            try rw [lx]
            have k0:X4.cell? ⟨wr.heap.size+1,0,U⟩=Z (D J (i:Int)):=by rw [gh.cell 0];rfl
            have k1:X4.cell? ⟨wr.heap.size+1,1,U⟩=Z (D J (j:Int)):=by rw [gh.cell 1];rfl
            have k3:X4.cell? ⟨wr.heap.size,3,U⟩=Z (D J (la L i).id):=by rw [dy.cell 3];rfl
            have k5:=fu.c5;have tT:=(fu.drew:Dia X4.drew p K _ n c v2 v3 v4 _ v6);have hpb:p≠b:=by have:=hplt;omega
            have tS:Dia X5 p K _ n c v2 v3 v4 _ v6:=Blk.grown tT iE (by simp;omega);have th:w.grownBy X5 (Z p):=zGW (zBT dF) iE hwb;clear lx jz fu dy gh dF nH nL cn eu dL t0 t1 tf;go_region
            all_goals
             go_wp2_with fail
             go_roundw
             case rel=>exact ⟨i+1,jo,by omega,by go_num,tS,tH,th,hs⟩
             case measure=>simp [intOf];omega
         | true =>
          go_wp2_with fail
          have aZ:=qH hov;generalize hX:(World.alloc ZR _).drew=X2;have aE:Below ZR.heap.size ZR X2:=by rw [←hX];exact ((Below.refl _ _).alloc (Nat.le_refl _) _).drew
          have hpr:Blk X2 (wr.heap.size+1) 226 #[D J (zAt L (la L i).id E i),D J (zAt L (la L i).id Q i)]:=by rw [←hX,←lW];exact (Blk.new ZR _ _).drew
          have fD:=iH.next aE;have nG:=ir.next aE;have ew:=zAm iD aE iD.size;have go:=it.below aE;have bD:=hblk.below aE m2;have tu:b < wr.heap.size+1:=by omega
          have sP:p < wr.heap.size+1:=by omega
          have sG:w.heap.size≤wr.heap.size+1:=by have:=iD.size;omega
          clear hX aE iH ir iD it hblk b3 b4 b5 u1 u5 m0 m1 m2 xq w5 hbp w3 s9 sZ hov;obtain ⟨x,hx⟩:∃x,x=zAt L (la L i).id Q i:=⟨_,rfl⟩
          obtain ⟨y,hy⟩:∃y,y=zAt L (la L i).id E i:=⟨_,rfl⟩
          have hxb:=zCi L (la L i).id Q i;have hyb:=zCi L (la L i).id E i;rw [←hx] at hpr hxb;rw [←hy] at hpr hyb;have eE:=qH hx;have jQ:=qH hy;clear hx hy;have eY:=qH (show crT L i↔(x < 0∧(0≤y→(la L y.toNat).sign=(la L i).sign)) by unfold crT;rw [aZ.out,eE.out,jQ.out];rfl);have r0:X2.cell? ⟨wr.heap.size+1,0,U⟩=Z (D J y):=by rw [hpr.cell 0];rfl
          have r1:X2.cell? ⟨wr.heap.size+1,1,U⟩=Z (D J x):=by rw [hpr.cell 1];rfl
          have s3:X2.cell? ⟨wr.heap.size,3,U⟩=Z (D J (la L i).id):=by rw [bD.cell 3];rfl
          have s4:X2.cell? ⟨wr.heap.size,4,U⟩=Z (D J (la L i).sign):=by rw [bD.cell 4];rfl
          have u1:=fD.c1;have u5:=fD.c5;have n2:=hpr.lt;have n3:=bD.lt
          cases q3:decide (0≤x) with
          | true =>
           have AI:0≤x:=by simpa using q3
           have hf:=qH (zDk (L:=L) HL.out hlt (by
            cases hq:crB L i with
            | false=>rfl
            | true=>have:=eY.out.1 (hcr.out.1 hq);omega))
           clear HC;go_wp2_with fail
           go_quiet (fail)
           go_wp2_with fail
           go_ret;exact ⟨zAi hf.out.symm,zBM ew _,fun h=>by rw [hf.out] at h;cases h⟩
          | false =>
           have AI:¬0≤x:=by simpa using q3
           have AS:0≤y:=by
            have:=zJF.2 eF.out;rw [←jQ.out,←eE.out] at this;omega
           obtain ⟨j,rfl⟩:∃j:Nat,y=(j:Int):=⟨y.toNat,by omega⟩
           have hjn:j < n:=by omega
           have cj:=(go.also hjn).1.sign;have j1:(j:Int) < (n:Int):=by omega
           cases q4:((la L j).sign != (la L i).sign) with
           | true =>
            have hf:=qH (zDk (L:=L) HL.out hlt (by
             cases hq:crB L i with
             | false=>rfl
             | true=>have:=eY.out.1 (hcr.out.1 hq);have h2:=this.2 AS;rw [Int.toNat_natCast] at h2;rw [h2] at q4;simp at q4))
            clear HC;go_wp2_with fail
            go_quiet (fail)
            go_wp2_with fail
            go_ret;exact ⟨zAi hf.out.symm,zBM ew _,fun h=>by rw [hf.out] at h;cases h⟩
           | false =>
            have hgood:=qH (hcr.out.2 (eY.out.2 ⟨by omega,fun _=>by rw [Int.toNat_natCast];simpa using q4⟩))
            have hs:=qH (show ∀j,j < i+1→crB L j=Q from fun j hj=>by
             rcases Nat.decEq j i with e | e
             ·exact HC.out j (by omega)
             ·subst e;exact hgood.out)
            have hvis:zFz L (la L i).id Q i=Q:=zBG.2 ⟨ol.out,rfl,aZ.out⟩;have c8:zFz L (la L i).id E i=E:=by unfold zFz;rw [aZ.out];simp
            have E1:=qH (zFB hvis);have E2:=qH ((zBN c8).trans jQ.out.symm);clear hvis c8 HC;go_wp2_with fail
            go_quiet (fail)
            generalize hX3:X2.drewN nq=X3;have aS:Below X2.heap.size X2 X3:=by rw [←hX3];exact zAe (Below.refl _ _) _
            have nL:=fD.next aS;have nH:=nG.next aS;have dL:=zAm ew aS ew.size;have cn:=bD.below aS n3;have eu:=hpr.below aS n2;have t0:X3.cell? ⟨wr.heap.size+1,0,U⟩=Z (D J (j:Int)):=by rw [eu.cell 0];rfl
            have t1:X3.cell? ⟨wr.heap.size+1,1,U⟩=Z (D J x):=by rw [eu.cell 1];rfl
            have tf:=eu.frozen 1;have jz:=nH.setCell (p:=⟨wr.heap.size+1,1,U⟩) (by simp;omega) (D J (i:Int));have fu:=nL.far (q:=⟨wr.heap.size+1,1,U⟩) (by simp;omega) (D J (i:Int));have dy:=cn.far (p:=⟨wr.heap.size+1,1,U⟩) (by simp) (D J (i:Int));have gh:=eu.set_ 1 (D J (i:Int));have dF:=zAg dL (p:=⟨wr.heap.size+1,1,U⟩) (.inr (by simp;omega)) (D J (i:Int));generalize lx:X3.setCell ⟨wr.heap.size+1,1,U⟩ (D J (i:Int))=X4 at jz fu dy gh dF;obtain ⟨X5,jo,hput,tH,iE⟩:=(jz.drew).store ol.out hid.out;rw [E2.out,E1.out] at hput;clear hX3 aS fD nG ew go bD hpr r0 r1 s3 s4 u1 u5 n2 n3;go_wp2_with fail
            try rw [lx]
            have k0:X4.cell? ⟨wr.heap.size+1,0,U⟩=Z (D J (j:Int)):=by rw [gh.cell 0];rfl
            have k1:X4.cell? ⟨wr.heap.size+1,1,U⟩=Z (D J (i:Int)):=by rw [gh.cell 1];rfl
            have k3:X4.cell? ⟨wr.heap.size,3,U⟩=Z (D J (la L i).id):=by rw [dy.cell 3];rfl
            have k5:=fu.c5;have tT:=(fu.drew:Dia X4.drew p K _ n c v2 v3 v4 _ v6);have hpb:p≠b:=by have:=hplt;omega
            have tS:Dia X5 p K _ n c v2 v3 v4 _ v6:=Blk.grown tT iE (by simp;omega);have th:w.grownBy X5 (Z p):=zGW (zBT dF) iE hwb;clear lx jz fu dy gh dF nH nL cn eu dL t0 t1 tf;go_region
            all_goals
             go_wp2_with fail
             go_roundw
             case rel=>exact ⟨i+1,jo,by omega,by go_num,tS,tH,th,hs⟩
             case measure=>simp [intOf];omega
    ·have hkf:=zLn hk;have hV':=hV.skip hkf
     have hs:=qH (show ∀j,j < i+1→crB L j=Q from fun j hj=>by
      rcases Nat.decEq j i with e | e
      ·exact HC.out j (by omega)
      ·subst e;exact zBA.2 (fun h=>by rw [hkf] at h;cases h))
     have fO:((la L i).kind != 2)=Q:=by simpa using hk
     clear hk hkf HC hV;go_wp2_with fail
     go_roundw
     case rel=>exact ⟨i+1,ids,by omega,by go_num,hD.alloc _,hV'.alloc _,zBt hg _,hs⟩
     case measure=>simp [intOf];omega
   ·obtain rfl:n=i:=by omega
    have hc:zBR L=Q:=by
     unfold zBR;rw [HL.out,HE.out];simp only [decide_true,Bool.true_and];rw [zAF];exact HC.out
    have hlen:ids.length=cN L n / 2:=by
     have:=zVW hc;rw [HL.out] at this;rw [hV.len,this]
    have oh:=qH hc;have e5:=hD.c5;have hlq:((ids.length:Nat):Int)=(cN L n:Int) / 2:=by omega
    have HLQ:=qH hlq;clear hc HC hlen hlq;go_wp2_with (at_len;refine zIj rfl _ rfl rfl hV ?_)
    go_ret;exact ⟨zAi (by rw [oh.out,HLQ.out];simp),hg,fun _=>⟨b,ids,hwb,hD,hV⟩⟩
 ·have he1:((cN L n:Int) % 2 != 0)=Q:=by simp;omega
  have hf:=qH (show zBR L=E by unfold zBR;rw [HL.out];simp [he]);clear he;go_enter Tryz.func178,Tryz.ntmps178;go_wp2_with fail
  refine (zBn K A n c L _ hA).mono ?_;rintro e w1 ⟨rfl,ah⟩;go_wp2_with fail
  go_ret;exact ⟨zAi hf.out.symm,zDK ah _,fun h=>by rw [hf.out] at h;cases h⟩
end Go.Proofs.YtlmdfmnbcndhoaaGreatDoor
