/-
  Lemmas, part 31. Conditions: each theorem's own.
-/
import Derived.Test.YtlmdfmnbcndhoaaGreatDoorRq29
import Derived.Test.YtlmdfmnbcndhoaaGreatDoorRq30
open Go.Value renaming bool→G,int→D
open Go.IntKind renaming i64→J
open Option renaming none→U,some→Z
open Bool renaming false→E,true→Q
namespace Go.Proofs.YtlmdfmnbcndhoaaGreatDoor
open Go.RowKit
def zQx (w:World) (p:Nat) (K:Int) (A:Option Addr) (n c:Nat) (L:List Lt) (v2 v3 v4 v6:Value) (e:Ending) (w':World):Prop :=
 e=.returned (G (zBM L))∧w.grownBy w' (Z p)∧(zBM L=Q→∃b ids,w.heap.size≤b∧Dia w' p K A n c v2 v3 v4 (.map (Z b)) v6∧Vis w' b L n ids)
theorem zHm {a b c:World} {row:Option Nat} {g:Nat} (h:a.grownBy b row) (k:b.grownBy c (Z g)) (hg:a.heap.size≤g):a.grownBy c row :=
 ⟨k.os.trans h.os,k.tape.trans h.tape,k.output.trans h.output,Nat.le_trans h.size k.size,fun j hj hne=>(k.block j (Nat.lt_of_lt_of_le hj h.size) (by simp;omega)).trans (h.block j hj hne)⟩
theorem zDk {L:List Lt} {n i:Nat} (hL:L.length=n) (hi:i < n) (h:crB L i=E):zBM L=E:=by
 unfold zBM;rw [hL,zDm hi h,Bool.and_false]
set_option maxRecDepth 100000 in
set_option maxHeartbeats 6400000 in
theorem zFJ (p:Nat) (K:Int) (A:Option Addr) (n c:Nat) (L:List Lt) (v2 v3 v4 v5 v6:Value) (w:World) (hA:Lets w A n L) (hn:n≤400)
  (fI:∀a,A=Z a→p≠a.block) (hd:Dia w p K A n c v2 v3 v4 v5 v6) :
  Calls Tryz.prog 178 #[.pointer (Z ⟨p,0,U⟩)] w (zQx w p K A n c L v2 v3 v4 v6):=by
 have HL:=qH hA.len;have c0:=hd.c0;have c1:=hd.c1;have hcn:=zJd L n;have hplt:=hd.lt;by_cases he:cN L n % 2=0
 ·have he1:((cN L n:Int) % 2 != 0)=E:=by simp;omega
  have HE:=qH he;clear he;have hmm:=@run_makeMap Tryz.prog;go_enter Tryz.func178,Tryz.ntmps178;go_wp2_with fail
  refine (zBp K A n c L _ hA).mono ?_;rintro e w1 ⟨rfl,aj⟩;have hd1:=hd.next aj;have a1:=hd1.c1;have a5:=hd1.c5;have f5:=hd1.frozen 5;have az:=aj.size;have ik:=hd1.lt;have nX:=(hd1.set5 (.map (Z w1.heap.size))).alloc (.map #[] 0);have xy:Vis ((w1.setCell ⟨p,5,U⟩ (.map (Z w1.heap.size))).alloc (.map #[] 0)) w1.heap.size L 0 []:=by
   have:=Vis.made (w1.setCell ⟨p,5,U⟩ (.map (Z w1.heap.size))) L
   rwa [show (w1.setCell ⟨p,5,U⟩ (.map (Z w1.heap.size))).heap.size=w1.heap.size by simp] at this
  have db:w.grownBy ((w1.setCell ⟨p,5,U⟩ (.map (Z w1.heap.size))).alloc (.map #[] 0)) (Z p):=zBu (zAk (zDM aj _) (p:=⟨p,5,U⟩) (.inl rfl) _) _;go_wp2_with fail
  have hwb:w.heap.size≤w1.heap.size:=az;generalize w1.heap.size=b at nX xy db hwb ⊢;generalize (w1.setCell ⟨p,5,U⟩ (.map (Z b))).alloc (.map #[] 0)=ws at nX xy db ⊢;have hst:Hid (∀j,j < 0→crB L j=Q):=qH (fun j hj=>by omega);clear hd1 a1 a5 f5 hmm az ik c0 c1 aj;go_loopw [4,5,6,7,8,27] (fun _ _ _ _ _ s27 wr=>∃(i:Nat) (ids:List Int),i≤n∧s27=D J i∧Dia wr p K A n c v2 v3 v4 (.map (Z b)) v6∧Vis wr b L i ids∧w.grownBy wr (Z p)∧Hid (∀j,j < i→crB L j=Q)) (fun _ _ _ _ _ s27 _=>n-(intOf s27).toNat)
  case atStart=>exact ⟨0,[],Nat.zero_le _,rfl,nX,xy,db,hst⟩
  case round =>
   obtain ⟨i,ids,hi,rfl,hD,hV,hg,HC⟩:=hrel;clear nX xy db hst;have dz:=hA.growG hg (fun a ha e=>fI a ha (by injection e));by_cases hlt:i < n
   ·obtain ⟨g,o,rfl,hgl,hx,hok⟩:=dz.at_ hlt;obtain ⟨h0,h1,h2,h3,h4,h5⟩:=hx;have i0:(0:Int)≤(i:Int):=by omega
    have i1:(i:Int) < (n:Int):=by omega
    by_cases hk:(la L i).kind=2
    ·have hc:=zKl hk;have ag:((la L i).kind != 2)=E:=by simpa using hk
     have hid:=qH hok.id;have id1:=hid.out.1;have id2:=hid.out.2;have nr:=qH hc;clear hk hc
     cases q1:decide ((la L i).id < 1) with
     | true =>
      have xt:(la L i).id < 1:=by simpa using q1
      have hf:=qH (zDk (L:=L) HL.out hlt (by
       cases hq:crB L i with
       | false=>rfl
       | true=>have:=(zBn.1 hq nr.out).1.1;omega))
      clear HC;go_wp2_with fail
      go_ret;exact ⟨zAj hf.out.symm,zBu hg _,fun h=>by rw [hf.out] at h;cases h⟩
     | false =>
      have xt:¬(la L i).id < 1:=by simpa using q1
      cases q2:decide (((cN L n:Nat):Int) / 2 < (la L i).id) with
      | true =>
       have xq:((cN L n:Nat):Int) / 2 < (la L i).id:=by simpa using q2
       have hf:=qH (zDk (L:=L) HL.out hlt (by
        cases hq:crB L i with
        | false=>rfl
        | true=>have:=(zBn.1 hq nr.out).1.2;rw [HL.out] at this;omega))
       clear HC;go_wp2_with fail
       go_ret;exact ⟨zAj hf.out.symm,zBu hg _,fun h=>by rw [hf.out] at h;cases h⟩
      | false =>
       have xq:¬((cN L n:Nat):Int) / 2 < (la L i).id:=by simpa using q2
       have hcr:=qH (zUX (L:=L) (i:=i) HC.out nr.out (by rw [HL.out];omega));go_wp2_with fail
       generalize hW:World.alloc wr _=ZR;have jd:Below wr.heap.size wr ZR:=by rw [←hW];exact (Below.refl _ _).alloc (Nat.le_refl _) _
       have lg:ZR.heap.size=wr.heap.size+1:=by rw [←hW];simp
       have hblk:Blk ZR wr.heap.size 76 #[D J (la L i).kind,D J (la L i).gate,D J (la L i).rank,D J (la L i).id,D J (la L i).sign,G (la L i).over]:=by rw [←hW];exact Blk.new wr _ _
       have iq:=hD.next jd;have gT:=hV.next jd;have il:=zAn hg jd hg.size;have gV:=dz.below jd;have b3:=hblk.cell 3;have b4:=hblk.cell 4;have b5:=hblk.cell 5;simp at b3 b4 b5;have u1:=iq.c1;have u5:=iq.c5;have m0:=iq.lt;have m1:=gT.lt;have m2:=hblk.lt;clear hW jd hD hV hg dz h0 h1 h2 h3 h4 h5 ag;have vS:=iq.alloc (.cells #[D J 0,D J 0] 226);have w5:=vS.c5;have hbp:=hblk.alloc (.cells #[D J 0,D J 0] 226);have w3:(ZR.alloc (.cells #[D J 0,D J 0] 226)).cell? ⟨wr.heap.size,3,U⟩=Z (D J (la L i).id):=by rw [hbp.cell 3];rfl
       by_cases ht:tN L (la L i).id i=0
       ·have rM:=(gT.drew).lookNo hid.out ht;have rL:=((gT.alloc (.cells #[D J 0,D J 0] 226)).drew).lookNo hid.out ht;have dt:=qH ht;clear ht;have iA:=qH (show zAs L (la L i).id E i = -1 by have h1:=zCh L (la L i).id E i;have h2:=zJL (L:=L) (d:=(la L i).id) (i:=i);rw [dt.out] at h2;omega);have lQ:=qH (show zAs L (la L i).id Q i = -1 by have h1:=zCh L (la L i).id Q i;have h2:=zJL (L:=L) (d:=(la L i).id) (i:=i);rw [dt.out] at h2;omega);go_region
        all_goals
         cases hov:(la L i).over with
         | false =>
          go_wp2_with fail
          have bf:=qH hov;generalize hX:(World.alloc ZR _).drew=X2;have aJ:Below ZR.heap.size ZR X2:=by rw [←hX];exact ((Below.refl _ _).alloc (Nat.le_refl _) _).drew
          have hpr:Blk X2 (wr.heap.size+1) 226 #[D J (zAs L (la L i).id E i),D J (zAs L (la L i).id Q i)]:=by rw [iA.out,lQ.out,←hX,←lg];exact (Blk.new ZR _ _).drew
          have e9:=iq.next aJ;have mL:=gT.next aJ;have dT:=zAn il aJ il.size;have fQ:=gV.below aJ;have bu:=hblk.below aJ m2;have r8:b < wr.heap.size+1:=by omega
          have rC:p < wr.heap.size+1:=by omega
          have rx:w.heap.size≤wr.heap.size+1:=by have:=il.size;omega
          clear hX aJ iq gT il gV hblk b3 b4 b5 u1 u5 m0 m1 m2 vS w5 hbp w3 rM rL hov;obtain ⟨x,hx⟩:∃x,x=zAs L (la L i).id E i:=⟨_,rfl⟩
          obtain ⟨y,hy⟩:∃y,y=zAs L (la L i).id Q i:=⟨_,rfl⟩
          have hxb:=zCh L (la L i).id E i;have hyb:=zCh L (la L i).id Q i;rw [←hx] at hpr hxb;rw [←hy] at hpr hyb;have dX:=qH hx;have jr:=qH hy;clear hx hy;have eE:=qH (show crT L i↔(x < 0∧(0≤y→(la L y.toNat).sign=(la L i).sign)) by unfold crT;rw [bf.out,dX.out,jr.out];rfl);have r0:X2.cell? ⟨wr.heap.size+1,0,U⟩=Z (D J x):=by rw [hpr.cell 0];rfl
          have r1:X2.cell? ⟨wr.heap.size+1,1,U⟩=Z (D J y):=by rw [hpr.cell 1];rfl
          have s3:X2.cell? ⟨wr.heap.size,3,U⟩=Z (D J (la L i).id):=by rw [bu.cell 3];rfl
          have s4:X2.cell? ⟨wr.heap.size,4,U⟩=Z (D J (la L i).sign):=by rw [bu.cell 4];rfl
          have u1:=e9.c1;have u5:=e9.c5;have n2:=hpr.lt;have n3:=bu.lt;have ld:x < 0:=by rw [dX.out,iA.out];decide
          have hy1:y < 0:=by rw [jr.out,lQ.out];decide
          have hxd:decide (0≤x)=E:=by simp;omega
          have hgood:=qH (hcr.out.2 (eE.out.2 ⟨ld,fun h=>by omega⟩))
          have hs:=qH (show ∀j,j < i+1→crB L j=Q from fun j hj=>by
           rcases Nat.decEq j i with e | e
           ·exact HC.out j (by omega)
           ·subst e;exact hgood.out)
          have hvis:zFG L (la L i).id E i=Q:=zBI.2 ⟨nr.out,rfl,bf.out⟩;have cL:zFG L (la L i).id Q i=E:=by unfold zFG;rw [bf.out];simp
          have E1:=qH (zFI hvis);have E2:=qH ((zBO cL).trans jr.out.symm);clear hvis cL HC;go_wp2_with fail
          go_quiet (fail)
          generalize hX3:X2.drewN nq=X3;have aO:Below X2.heap.size X2 X3:=by rw [←hX3];exact zAf (Below.refl _ _) _
          have mS:=e9.next aO;have mM:=mL.next aO;have db:=zAn dT aO dT.size;have bU:=bu.below aO n3;have dR:=hpr.below aO n2;have t0:X3.cell? ⟨wr.heap.size+1,0,U⟩=Z (D J x):=by rw [dR.cell 0];rfl
          have t1:X3.cell? ⟨wr.heap.size+1,1,U⟩=Z (D J y):=by rw [dR.cell 1];rfl
          have tf:=dR.frozen 0;have gU:=mM.setCell (p:=⟨wr.heap.size+1,0,U⟩) (by simp;omega) (D J (i:Int));have eQ:=mS.far (q:=⟨wr.heap.size+1,0,U⟩) (by simp;omega) (D J (i:Int));have cZ:=bU.far (p:=⟨wr.heap.size+1,0,U⟩) (by simp) (D J (i:Int));have fJ:=dR.set_ 0 (D J (i:Int));have dj:=zAk db (p:=⟨wr.heap.size+1,0,U⟩) (.inr (by simp;omega)) (D J (i:Int));generalize kD:X3.setCell ⟨wr.heap.size+1,0,U⟩ (D J (i:Int))=X4 at gU eQ cZ fJ dj;obtain ⟨X5,iW,hput,oi,im⟩:=(gU.drew).store nr.out hid.out;rw [E1.out,E2.out] at hput;clear hX3 aO e9 mL dT fQ bu hpr r0 r1 s3 s4 u1 u5 n2 n3;go_wp2_with fail
          try rw [kD]
          have k0:X4.cell? ⟨wr.heap.size+1,0,U⟩=Z (D J (i:Int)):=by rw [fJ.cell 0];rfl
          have k1:X4.cell? ⟨wr.heap.size+1,1,U⟩=Z (D J y):=by rw [fJ.cell 1];rfl
          have k3:X4.cell? ⟨wr.heap.size,3,U⟩=Z (D J (la L i).id):=by rw [cZ.cell 3];rfl
          have k5:=eQ.c5;have sD:=(eQ.drew:Dia X4.drew p K _ n c v2 v3 v4 _ v6);have hpb:p≠b:=by have:=hplt;omega
          have sC:Dia X5 p K _ n c v2 v3 v4 _ v6:=Blk.grown sD im (by simp;omega);have rR:w.grownBy X5 (Z p):=zHm (zBS dj) im hwb;clear kD gU eQ cZ fJ dj mM mS bU dR db t0 t1 tf;go_region
          all_goals
           go_wp2_with fail
           go_roundw
           case rel=>exact ⟨i+1,iW,by omega,by go_num,sC,oi,rR,hs⟩
           case measure=>simp [intOf];omega
         | true =>
          go_wp2_with fail
          have bf:=qH hov;generalize hX:(World.alloc ZR _).drew=X2;have aJ:Below ZR.heap.size ZR X2:=by rw [←hX];exact ((Below.refl _ _).alloc (Nat.le_refl _) _).drew
          have hpr:Blk X2 (wr.heap.size+1) 226 #[D J (zAs L (la L i).id E i),D J (zAs L (la L i).id Q i)]:=by rw [iA.out,lQ.out,←hX,←lg];exact (Blk.new ZR _ _).drew
          have e9:=iq.next aJ;have mL:=gT.next aJ;have dT:=zAn il aJ il.size;have fQ:=gV.below aJ;have bu:=hblk.below aJ m2;have r8:b < wr.heap.size+1:=by omega
          have rC:p < wr.heap.size+1:=by omega
          have rx:w.heap.size≤wr.heap.size+1:=by have:=il.size;omega
          clear hX aJ iq gT il gV hblk b3 b4 b5 u1 u5 m0 m1 m2 vS w5 hbp w3 rM rL hov;obtain ⟨x,hx⟩:∃x,x=zAs L (la L i).id Q i:=⟨_,rfl⟩
          obtain ⟨y,hy⟩:∃y,y=zAs L (la L i).id E i:=⟨_,rfl⟩
          have hxb:=zCh L (la L i).id Q i;have hyb:=zCh L (la L i).id E i;rw [←hx] at hpr hxb;rw [←hy] at hpr hyb;have dX:=qH hx;have jr:=qH hy;clear hx hy;have eE:=qH (show crT L i↔(x < 0∧(0≤y→(la L y.toNat).sign=(la L i).sign)) by unfold crT;rw [bf.out,dX.out,jr.out];rfl);have r0:X2.cell? ⟨wr.heap.size+1,0,U⟩=Z (D J y):=by rw [hpr.cell 0];rfl
          have r1:X2.cell? ⟨wr.heap.size+1,1,U⟩=Z (D J x):=by rw [hpr.cell 1];rfl
          have s3:X2.cell? ⟨wr.heap.size,3,U⟩=Z (D J (la L i).id):=by rw [bu.cell 3];rfl
          have s4:X2.cell? ⟨wr.heap.size,4,U⟩=Z (D J (la L i).sign):=by rw [bu.cell 4];rfl
          have u1:=e9.c1;have u5:=e9.c5;have n2:=hpr.lt;have n3:=bu.lt;have ld:x < 0:=by rw [dX.out,lQ.out];decide
          have hy1:y < 0:=by rw [jr.out,iA.out];decide
          have hxd:decide (0≤x)=E:=by simp;omega
          have hgood:=qH (hcr.out.2 (eE.out.2 ⟨ld,fun h=>by omega⟩))
          have hs:=qH (show ∀j,j < i+1→crB L j=Q from fun j hj=>by
           rcases Nat.decEq j i with e | e
           ·exact HC.out j (by omega)
           ·subst e;exact hgood.out)
          have hvis:zFG L (la L i).id Q i=Q:=zBI.2 ⟨nr.out,rfl,bf.out⟩;have cL:zFG L (la L i).id E i=E:=by unfold zFG;rw [bf.out];simp
          have E1:=qH (zFI hvis);have E2:=qH ((zBO cL).trans jr.out.symm);clear hvis cL HC;go_wp2_with fail
          go_quiet (fail)
          generalize hX3:X2.drewN nq=X3;have aO:Below X2.heap.size X2 X3:=by rw [←hX3];exact zAf (Below.refl _ _) _
          have mS:=e9.next aO;have mM:=mL.next aO;have db:=zAn dT aO dT.size;have bU:=bu.below aO n3;have dR:=hpr.below aO n2;have t0:X3.cell? ⟨wr.heap.size+1,0,U⟩=Z (D J y):=by rw [dR.cell 0];rfl
          have t1:X3.cell? ⟨wr.heap.size+1,1,U⟩=Z (D J x):=by rw [dR.cell 1];rfl
          have tf:=dR.frozen 1;have gU:=mM.setCell (p:=⟨wr.heap.size+1,1,U⟩) (by simp;omega) (D J (i:Int));have eQ:=mS.far (q:=⟨wr.heap.size+1,1,U⟩) (by simp;omega) (D J (i:Int));have cZ:=bU.far (p:=⟨wr.heap.size+1,1,U⟩) (by simp) (D J (i:Int));have fJ:=dR.set_ 1 (D J (i:Int));have dj:=zAk db (p:=⟨wr.heap.size+1,1,U⟩) (.inr (by simp;omega)) (D J (i:Int));generalize kD:X3.setCell ⟨wr.heap.size+1,1,U⟩ (D J (i:Int))=X4 at gU eQ cZ fJ dj;obtain ⟨X5,iW,hput,oi,im⟩:=(gU.drew).store nr.out hid.out;rw [E2.out,E1.out] at hput;clear hX3 aO e9 mL dT fQ bu hpr r0 r1 s3 s4 u1 u5 n2 n3;go_wp2_with fail
          try rw [kD]
          have k0:X4.cell? ⟨wr.heap.size+1,0,U⟩=Z (D J y):=by rw [fJ.cell 0];rfl
          have k1:X4.cell? ⟨wr.heap.size+1,1,U⟩=Z (D J (i:Int)):=by rw [fJ.cell 1];rfl
          have k3:X4.cell? ⟨wr.heap.size,3,U⟩=Z (D J (la L i).id):=by rw [cZ.cell 3];rfl
          have k5:=eQ.c5;have sD:=(eQ.drew:Dia X4.drew p K _ n c v2 v3 v4 _ v6);have hpb:p≠b:=by have:=hplt;omega
          have sC:Dia X5 p K _ n c v2 v3 v4 _ v6:=Blk.grown sD im (by simp;omega);have rR:w.grownBy X5 (Z p):=zHm (zBS dj) im hwb;clear kD gU eQ cZ fJ dj mM mS bU dR db t0 t1 tf;go_region
          all_goals
           go_wp2_with fail
           go_roundw
           case rel=>exact ⟨i+1,iW,by omega,by go_num,sC,oi,rR,hs⟩
           case measure=>simp [intOf];omega
       ·have xA:0 < tN L (la L i).id i:=by omega
        have rM:=(gT.drew).lookYes hid.out xA;have rL:=((gT.alloc (.cells #[D J 0,D J 0] 226)).drew).lookYes hid.out xA;have dt:=qH xA;clear ht xA;go_region
        all_goals
         cases hov:(la L i).over with
         | false =>
          go_wp2_with fail
          have bf:=qH hov;generalize hX:(World.alloc ZR _).drew=X2;have aJ:Below ZR.heap.size ZR X2:=by rw [←hX];exact ((Below.refl _ _).alloc (Nat.le_refl _) _).drew
          have hpr:Blk X2 (wr.heap.size+1) 226 #[D J (zAs L (la L i).id E i),D J (zAs L (la L i).id Q i)]:=by rw [←hX,←lg];exact (Blk.new ZR _ _).drew
          have e9:=iq.next aJ;have mL:=gT.next aJ;have dT:=zAn il aJ il.size;have fQ:=gV.below aJ;have bu:=hblk.below aJ m2;have r8:b < wr.heap.size+1:=by omega
          have rC:p < wr.heap.size+1:=by omega
          have rx:w.heap.size≤wr.heap.size+1:=by have:=il.size;omega
          clear hX aJ iq gT il gV hblk b3 b4 b5 u1 u5 m0 m1 m2 vS w5 hbp w3 rM rL hov;obtain ⟨x,hx⟩:∃x,x=zAs L (la L i).id E i:=⟨_,rfl⟩
          obtain ⟨y,hy⟩:∃y,y=zAs L (la L i).id Q i:=⟨_,rfl⟩
          have hxb:=zCh L (la L i).id E i;have hyb:=zCh L (la L i).id Q i;rw [←hx] at hpr hxb;rw [←hy] at hpr hyb;have dX:=qH hx;have jr:=qH hy;clear hx hy;have eE:=qH (show crT L i↔(x < 0∧(0≤y→(la L y.toNat).sign=(la L i).sign)) by unfold crT;rw [bf.out,dX.out,jr.out];rfl);have r0:X2.cell? ⟨wr.heap.size+1,0,U⟩=Z (D J x):=by rw [hpr.cell 0];rfl
          have r1:X2.cell? ⟨wr.heap.size+1,1,U⟩=Z (D J y):=by rw [hpr.cell 1];rfl
          have s3:X2.cell? ⟨wr.heap.size,3,U⟩=Z (D J (la L i).id):=by rw [bu.cell 3];rfl
          have s4:X2.cell? ⟨wr.heap.size,4,U⟩=Z (D J (la L i).sign):=by rw [bu.cell 4];rfl
          have u1:=e9.c1;have u5:=e9.c5;have n2:=hpr.lt;have n3:=bu.lt
          cases q3:decide (0≤x) with
          | true =>
           have zg:0≤x:=by simpa using q3
           have hf:=qH (zDk (L:=L) HL.out hlt (by
            cases hq:crB L i with
            | false=>rfl
            | true=>have:=eE.out.1 (hcr.out.1 hq);omega))
           clear HC;go_wp2_with fail
           go_quiet (fail)
           go_wp2_with fail
           go_ret;exact ⟨zAj hf.out.symm,zBN dT _,fun h=>by rw [hf.out] at h;cases h⟩
          | false =>
           have zg:¬0≤x:=by simpa using q3
           have zl:0≤y:=by
            have:=zJL.2 dt.out;rw [←dX.out,←jr.out] at this;omega
           obtain ⟨j,rfl⟩:∃j:Nat,y=(j:Int):=⟨y.toNat,by omega⟩
           have hjn:j < n:=by omega
           have cj:=(fQ.also hjn).1.sign;have j1:(j:Int) < (n:Int):=by omega
           cases q4:((la L j).sign != (la L i).sign) with
           | true =>
            have hf:=qH (zDk (L:=L) HL.out hlt (by
             cases hq:crB L i with
             | false=>rfl
             | true=>have:=eE.out.1 (hcr.out.1 hq);have h2:=this.2 zl;rw [Int.toNat_natCast] at h2;rw [h2] at q4;simp at q4))
            clear HC;go_wp2_with fail
            go_quiet (fail)
            go_wp2_with fail
            go_ret;exact ⟨zAj hf.out.symm,zBN dT _,fun h=>by rw [hf.out] at h;cases h⟩
           | false =>
            have hgood:=qH (hcr.out.2 (eE.out.2 ⟨by omega,fun _=>by rw [Int.toNat_natCast];simpa using q4⟩))
            have hs:=qH (show ∀j,j < i+1→crB L j=Q from fun j hj=>by
             rcases Nat.decEq j i with e | e
             ·exact HC.out j (by omega)
             ·subst e;exact hgood.out)
            have hvis:zFG L (la L i).id E i=Q:=zBI.2 ⟨nr.out,rfl,bf.out⟩;have cL:zFG L (la L i).id Q i=E:=by unfold zFG;rw [bf.out];simp
            have E1:=qH (zFI hvis);have E2:=qH ((zBO cL).trans jr.out.symm);clear hvis cL HC;go_wp2_with fail
            go_quiet (fail)
            generalize hX3:X2.drewN nq=X3;have aO:Below X2.heap.size X2 X3:=by rw [←hX3];exact zAf (Below.refl _ _) _
            have mS:=e9.next aO;have mM:=mL.next aO;have db:=zAn dT aO dT.size;have bU:=bu.below aO n3;have dR:=hpr.below aO n2;have t0:X3.cell? ⟨wr.heap.size+1,0,U⟩=Z (D J x):=by rw [dR.cell 0];rfl
            have t1:X3.cell? ⟨wr.heap.size+1,1,U⟩=Z (D J (j:Int)):=by rw [dR.cell 1];rfl
            have tf:=dR.frozen 0;have gU:=mM.setCell (p:=⟨wr.heap.size+1,0,U⟩) (by simp;omega) (D J (i:Int));have eQ:=mS.far (q:=⟨wr.heap.size+1,0,U⟩) (by simp;omega) (D J (i:Int));have cZ:=bU.far (p:=⟨wr.heap.size+1,0,U⟩) (by simp) (D J (i:Int));have fJ:=dR.set_ 0 (D J (i:Int));have dj:=zAk db (p:=⟨wr.heap.size+1,0,U⟩) (.inr (by simp;omega)) (D J (i:Int));generalize kD:X3.setCell ⟨wr.heap.size+1,0,U⟩ (D J (i:Int))=X4 at gU eQ cZ fJ dj;obtain ⟨X5,iW,hput,oi,im⟩:=(gU.drew).store nr.out hid.out;rw [E1.out,E2.out] at hput;clear hX3 aO e9 mL dT fQ bu hpr r0 r1 s3 s4 u1 u5 n2 n3;go_wp2_with fail
            try rw [kD]
            have k0:X4.cell? ⟨wr.heap.size+1,0,U⟩=Z (D J (i:Int)):=by rw [fJ.cell 0];rfl
            have k1:X4.cell? ⟨wr.heap.size+1,1,U⟩=Z (D J (j:Int)):=by rw [fJ.cell 1];rfl
            have k3:X4.cell? ⟨wr.heap.size,3,U⟩=Z (D J (la L i).id):=by rw [cZ.cell 3];rfl
            have k5:=eQ.c5;have sD:=(eQ.drew:Dia X4.drew p K _ n c v2 v3 v4 _ v6);have hpb:p≠b:=by have:=hplt;omega
            have sC:Dia X5 p K _ n c v2 v3 v4 _ v6:=Blk.grown sD im (by simp;omega);have rR:w.grownBy X5 (Z p):=zHm (zBS dj) im hwb;clear kD gU eQ cZ fJ dj mM mS bU dR db t0 t1 tf;go_region
            all_goals
             go_wp2_with fail
             go_roundw
             case rel=>exact ⟨i+1,iW,by omega,by go_num,sC,oi,rR,hs⟩
             case measure=>simp [intOf];omega
         | true =>
          go_wp2_with fail
          have bf:=qH hov;generalize hX:(World.alloc ZR _).drew=X2;have aJ:Below ZR.heap.size ZR X2:=by rw [←hX];exact ((Below.refl _ _).alloc (Nat.le_refl _) _).drew
          have hpr:Blk X2 (wr.heap.size+1) 226 #[D J (zAs L (la L i).id E i),D J (zAs L (la L i).id Q i)]:=by rw [←hX,←lg];exact (Blk.new ZR _ _).drew
          have e9:=iq.next aJ;have mL:=gT.next aJ;have dT:=zAn il aJ il.size;have fQ:=gV.below aJ;have bu:=hblk.below aJ m2;have r8:b < wr.heap.size+1:=by omega
          have rC:p < wr.heap.size+1:=by omega
          have rx:w.heap.size≤wr.heap.size+1:=by have:=il.size;omega
          clear hX aJ iq gT il gV hblk b3 b4 b5 u1 u5 m0 m1 m2 vS w5 hbp w3 rM rL hov;obtain ⟨x,hx⟩:∃x,x=zAs L (la L i).id Q i:=⟨_,rfl⟩
          obtain ⟨y,hy⟩:∃y,y=zAs L (la L i).id E i:=⟨_,rfl⟩
          have hxb:=zCh L (la L i).id Q i;have hyb:=zCh L (la L i).id E i;rw [←hx] at hpr hxb;rw [←hy] at hpr hyb;have dX:=qH hx;have jr:=qH hy;clear hx hy;have eE:=qH (show crT L i↔(x < 0∧(0≤y→(la L y.toNat).sign=(la L i).sign)) by unfold crT;rw [bf.out,dX.out,jr.out];rfl);have r0:X2.cell? ⟨wr.heap.size+1,0,U⟩=Z (D J y):=by rw [hpr.cell 0];rfl
          have r1:X2.cell? ⟨wr.heap.size+1,1,U⟩=Z (D J x):=by rw [hpr.cell 1];rfl
          have s3:X2.cell? ⟨wr.heap.size,3,U⟩=Z (D J (la L i).id):=by rw [bu.cell 3];rfl
          have s4:X2.cell? ⟨wr.heap.size,4,U⟩=Z (D J (la L i).sign):=by rw [bu.cell 4];rfl
          have u1:=e9.c1;have u5:=e9.c5;have n2:=hpr.lt;have n3:=bu.lt
          cases q3:decide (0≤x) with
          | true =>
           have zg:0≤x:=by simpa using q3
           have hf:=qH (zDk (L:=L) HL.out hlt (by
            cases hq:crB L i with
            | false=>rfl
            | true=>have:=eE.out.1 (hcr.out.1 hq);omega))
           clear HC;go_wp2_with fail
           go_quiet (fail)
           go_wp2_with fail
           go_ret;exact ⟨zAj hf.out.symm,zBN dT _,fun h=>by rw [hf.out] at h;cases h⟩
          | false =>
           have zg:¬0≤x:=by simpa using q3
           have zl:0≤y:=by
            have:=zJL.2 dt.out;rw [←jr.out,←dX.out] at this;omega
           obtain ⟨j,rfl⟩:∃j:Nat,y=(j:Int):=⟨y.toNat,by omega⟩
           have hjn:j < n:=by omega
           have cj:=(fQ.also hjn).1.sign;have j1:(j:Int) < (n:Int):=by omega
           cases q4:((la L j).sign != (la L i).sign) with
           | true =>
            have hf:=qH (zDk (L:=L) HL.out hlt (by
             cases hq:crB L i with
             | false=>rfl
             | true=>have:=eE.out.1 (hcr.out.1 hq);have h2:=this.2 zl;rw [Int.toNat_natCast] at h2;rw [h2] at q4;simp at q4))
            clear HC;go_wp2_with fail
            go_quiet (fail)
            go_wp2_with fail
            go_ret;exact ⟨zAj hf.out.symm,zBN dT _,fun h=>by rw [hf.out] at h;cases h⟩
           | false =>
            have hgood:=qH (hcr.out.2 (eE.out.2 ⟨by omega,fun _=>by rw [Int.toNat_natCast];simpa using q4⟩))
            have hs:=qH (show ∀j,j < i+1→crB L j=Q from fun j hj=>by
             rcases Nat.decEq j i with e | e
             ·exact HC.out j (by omega)
             ·subst e;exact hgood.out)
            have hvis:zFG L (la L i).id Q i=Q:=zBI.2 ⟨nr.out,rfl,bf.out⟩;have cL:zFG L (la L i).id E i=E:=by unfold zFG;rw [bf.out];simp
            have E1:=qH (zFI hvis);have E2:=qH ((zBO cL).trans jr.out.symm);clear hvis cL HC;go_wp2_with fail
            go_quiet (fail)
            generalize hX3:X2.drewN nq=X3;have aO:Below X2.heap.size X2 X3:=by rw [←hX3];exact zAf (Below.refl _ _) _
            have mS:=e9.next aO;have mM:=mL.next aO;have db:=zAn dT aO dT.size;have bU:=bu.below aO n3;have dR:=hpr.below aO n2;have t0:X3.cell? ⟨wr.heap.size+1,0,U⟩=Z (D J (j:Int)):=by rw [dR.cell 0];rfl
            have t1:X3.cell? ⟨wr.heap.size+1,1,U⟩=Z (D J x):=by rw [dR.cell 1];rfl
            have tf:=dR.frozen 1;have gU:=mM.setCell (p:=⟨wr.heap.size+1,1,U⟩) (by simp;omega) (D J (i:Int));have eQ:=mS.far (q:=⟨wr.heap.size+1,1,U⟩) (by simp;omega) (D J (i:Int));have cZ:=bU.far (p:=⟨wr.heap.size+1,1,U⟩) (by simp) (D J (i:Int));have fJ:=dR.set_ 1 (D J (i:Int));have dj:=zAk db (p:=⟨wr.heap.size+1,1,U⟩) (.inr (by simp;omega)) (D J (i:Int));generalize kD:X3.setCell ⟨wr.heap.size+1,1,U⟩ (D J (i:Int))=X4 at gU eQ cZ fJ dj;obtain ⟨X5,iW,hput,oi,im⟩:=(gU.drew).store nr.out hid.out;rw [E2.out,E1.out] at hput;clear hX3 aO e9 mL dT fQ bu hpr r0 r1 s3 s4 u1 u5 n2 n3;go_wp2_with fail
            try rw [kD]
            have k0:X4.cell? ⟨wr.heap.size+1,0,U⟩=Z (D J (j:Int)):=by rw [fJ.cell 0];rfl
            have k1:X4.cell? ⟨wr.heap.size+1,1,U⟩=Z (D J (i:Int)):=by rw [fJ.cell 1];rfl
            have k3:X4.cell? ⟨wr.heap.size,3,U⟩=Z (D J (la L i).id):=by rw [cZ.cell 3];rfl
            have k5:=eQ.c5;have sD:=(eQ.drew:Dia X4.drew p K _ n c v2 v3 v4 _ v6);have hpb:p≠b:=by have:=hplt;omega
            have sC:Dia X5 p K _ n c v2 v3 v4 _ v6:=Blk.grown sD im (by simp;omega);have rR:w.grownBy X5 (Z p):=zHm (zBS dj) im hwb;clear kD gU eQ cZ fJ dj mM mS bU dR db t0 t1 tf;go_region
            all_goals
             go_wp2_with fail
             go_roundw
             case rel=>exact ⟨i+1,iW,by omega,by go_num,sC,oi,rR,hs⟩
             case measure=>simp [intOf];omega
    ·have hkf:=zKm hk;have hV':=hV.skip hkf
     have hs:=qH (show ∀j,j < i+1→crB L j=Q from fun j hj=>by
      rcases Nat.decEq j i with e | e
      ·exact HC.out j (by omega)
      ·subst e;exact zBn.2 (fun h=>by rw [hkf] at h;cases h))
     have eD:((la L i).kind != 2)=Q:=by simpa using hk
     clear hk hkf HC hV;go_wp2_with fail
     go_roundw
     case rel=>exact ⟨i+1,ids,by omega,by go_num,hD.alloc _,hV'.alloc _,zBu hg _,hs⟩
     case measure=>simp [intOf];omega
   ·obtain rfl:n=i:=by omega
    have hc:zBM L=Q:=by
     unfold zBM;rw [HL.out,HE.out];simp only [decide_true,Bool.true_and];rw [zAv];exact HC.out
    have hlen:ids.length=cN L n / 2:=by
     have:=zTQ hc;rw [HL.out] at this;rw [hV.len,this]
    have np:=qH hc;have e5:=hD.c5;have hlq:((ids.length:Nat):Int)=(cN L n:Int) / 2:=by omega
    have Cq:=qH hlq;clear hc HC hlen hlq;go_wp2_with (at_len;refine zIs rfl _ rfl rfl hV ?_)
    go_ret;exact ⟨zAj (by rw [np.out,Cq.out];simp),hg,fun _=>⟨b,ids,hwb,hD,hV⟩⟩
 ·have he1:((cN L n:Int) % 2 != 0)=Q:=by simp;omega
  have hf:=qH (show zBM L=E by unfold zBM;rw [HL.out];simp [he]);clear he;go_enter Tryz.func178,Tryz.ntmps178;go_wp2_with fail
  refine (zBp K A n c L _ hA).mono ?_;rintro e w1 ⟨rfl,aj⟩;go_wp2_with fail
  go_ret;exact ⟨zAj hf.out.symm,zDM aj _,fun h=>by rw [hf.out] at h;cases h⟩
end Go.Proofs.YtlmdfmnbcndhoaaGreatDoor
