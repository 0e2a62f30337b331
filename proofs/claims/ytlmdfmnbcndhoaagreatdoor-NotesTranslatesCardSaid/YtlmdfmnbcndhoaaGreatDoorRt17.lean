/-
  Lemmas. Conditions: each one's own.
-/
import Derived.Test.YtlmdfmnbcndhoaaGreatDoorRt16
open Go.RowKit
set_option maxHeartbeats 6400000
set_option maxRecDepth 100000
open Go renaming World->ZY
open Go.Value renaming bool->G,int->D
open Option renaming none->U,some->Z
open Bool renaming false->E,true->Q
open Go.Proofs.Tryz renaming prog->ZX
open Go.IntKind renaming i64->J
open Go.RowKit.Below renaming refl->M
open Nat renaming le_refl->O
open Go.RowKit renaming Below->ZZ
namespace Go.Proofs.YtlmdfmnbcndhoaaGreatDoor
def zQq (w:ZY) (p:Nat) (K:Int) (A:Option Addr) (n c:Nat) (L:List Lt) (v2 v3 v4 v6:Value) (e:Ending) (w':ZY):Prop :=
 e=.returned (G (zBK L))/\w.grownBy w' (Z p)/\(zBK L=Q->∃b ids,w.heap.size<=b/\Dia w' p K A n c v2 v3 v4 (.map (Z b)) v6/\Vis w' b L n ids)
theorem zGU {a b c:ZY} {row:Option Nat} {g:Nat} (h:a.grownBy b row) (k:b.grownBy c (Z g)) (hg:a.heap.size<=g):a.grownBy c row :=
 ⟨k.os.trans h.os,k.tape.trans h.tape,k.output.trans h.output,Nat.le_trans h.size k.size,fun j hj hne=>(k.block j (Nat.lt_of_lt_of_le hj h.size) (by simp;omega)).trans (h.block j hj hne)⟩
theorem zDg {L:List Lt} {n i:Nat} (hL:L.length=n) (hi:i < n) (h:crB L i=E):zBK L=E:=by
 unfold zBK;rw [hL,zEX hi h,Bool.and_false]
theorem zFA (p:Nat) (K:Int) (A:Option Addr) (n c:Nat) (L:List Lt) (v2 v3 v4 v5 v6:Value) (w:ZY) (hA:Lets w A n L) (hn:n<=400)
  (iF:∀a,A=Z a->p≠a.block) (hd:Dia w p K A n c v2 v3 v4 v5 v6) :
  Calls ZX 178 #[.pointer (Z ⟨p,0,U⟩)] w (zQq w p K A n c L v2 v3 v4 v6):=by
 have HL:=qH hA.len;have c0:=hd.c0;have c1:=hd.c1;have hcn:=zRD L n;have hplt:=hd.lt;by_cases he:cN L n % 2=0
 ·have he1:((cN L n:Int) % 2 != 0)=E:=by simp;omega
  have HE:=qH he;clear he;have hmm:=@run_makeMap ZX;go_enter Tryz.func178,Tryz.ntmps178;go_wp2_with fail
  refine (zBB K A n c L _ hA).mono ?_;rintro e w1 ⟨rfl,ay⟩;have hd1:=hd.next ay;have a1:=hd1.c1;have a5:=hd1.c5;have f5:=hd1.frozen 5;have bu:=ay.size;have hp1:=hd1.lt;have qv:=(hd1.set5 (.map (Z w1.heap.size))).alloc (.map #[] 0);have Au:Vis ((w1.setCell ⟨p,5,U⟩ (.map (Z w1.heap.size))).alloc (.map #[] 0)) w1.heap.size L 0 []:=by
   have:=Vis.made (w1.setCell ⟨p,5,U⟩ (.map (Z w1.heap.size))) L
   rwa [show (w1.setCell ⟨p,5,U⟩ (.map (Z w1.heap.size))).heap.size=w1.heap.size by simp] at this
  have iJ:w.grownBy ((w1.setCell ⟨p,5,U⟩ (.map (Z w1.heap.size))).alloc (.map #[] 0)) (Z p):=zBl (zAk (zDk ay _) (p:=⟨p,5,U⟩) (.inl rfl) _) _;go_wp2_with fail
  have hwb:w.heap.size<=w1.heap.size:=bu;generalize w1.heap.size=b at qv Au iJ hwb ⊢;generalize (w1.setCell ⟨p,5,U⟩ (.map (Z b))).alloc (.map #[] 0)=ws at qv Au iJ ⊢;have hst:Hid (∀j,j < 0->crB L j=Q):=qH (fun j hj=>by omega);clear hd1 a1 a5 f5 hmm bu hp1 c0 c1 ay;go_loopw [4,5,6,7,8,27] (fun _ _ _ _ _ s27 wr=>∃(i:Nat) (ids:List Int),i<=n/\s27=D J i/\Dia wr p K A n c v2 v3 v4 (.map (Z b)) v6/\Vis wr b L i ids/\w.grownBy wr (Z p)/\Hid (∀j,j < i->crB L j=Q)) (fun _ _ _ _ _ s27 _=>n-(intOf s27).toNat)
  case atStart=>exact ⟨0,[],Nat.zero_le _,rfl,qv,Au,iJ,hst⟩
  case round =>
   obtain ⟨i,ids,hi,rfl,hD,hV,hg,HC⟩:=hrel;clear qv Au iJ hst;have ft:=hA.growG hg (fun a ha e=>iF a ha (by injection e));by_cases hlt:i < n
   ·obtain ⟨g,o,rfl,hgl,hx,hok⟩:=ft.at_ hlt;obtain ⟨h0,h1,h2,h3,h4,h5⟩:=hx;have i0:(0:Int)<=(i:Int):=by omega
    have i1:(i:Int) < (n:Int):=by omega
    by_cases hk:(la L i).kind=2
    ·have hc:=zRB hk;have aq:((la L i).kind != 2)=E:=by simpa using hk
     have hid:=qH hok.id;have id1:=hid.out.1;have id2:=hid.out.2;have pP:=qH hc;clear hk hc
     cases q1:decide ((la L i).id < 1) with
     | true =>
      have Ar:(la L i).id < 1:=by simpa using q1
      have hf:=qH (zDg (L:=L) HL.out hlt (by
       cases hq:crB L i with
       | false=>rfl
       | true=>have:=(zBs.1 hq pP.out).1.1;omega))
      clear HC;go_wp2_with fail
      go_ret;exact ⟨zAm hf.out.symm,zBl hg _,fun h=>by rw [hf.out] at h;cases h⟩
     | false =>
      have Ar:¬(la L i).id < 1:=by simpa using q1
      cases q2:decide (((cN L n:Nat):Int) / 2 < (la L i).id) with
      | true =>
       have Aq:((cN L n:Nat):Int) / 2 < (la L i).id:=by simpa using q2
       have hf:=qH (zDg (L:=L) HL.out hlt (by
        cases hq:crB L i with
        | false=>rfl
        | true=>have:=(zBs.1 hq pP.out).1.2;rw [HL.out] at this;omega))
       clear HC;go_wp2_with fail
       go_ret;exact ⟨zAm hf.out.symm,zBl hg _,fun h=>by rw [hf.out] at h;cases h⟩
      | false =>
       have Aq:¬((cN L n:Nat):Int) / 2 < (la L i).id:=by simpa using q2
       have hcr:=qH (zVq (L:=L) (i:=i) HC.out pP.out (by rw [HL.out];omega));go_wp2_with fail
       generalize hW:World.alloc wr _=ZO;have pZ:ZZ wr.heap.size wr ZO:=by rw [<-hW];exact (M _ _).alloc (O _) _
       have ny:ZO.heap.size=wr.heap.size+1:=by rw [<-hW];simp
       have hblk:Blk ZO wr.heap.size 76 #[D J (la L i).kind,D J (la L i).gate,D J (la L i).rank,D J (la L i).id,D J (la L i).sign,G (la L i).over]:=by rw [<-hW];exact Blk.new wr _ _
       have j8:=hD.next pZ;have jL:=hV.next pZ;have j6:=zAq hg pZ hg.size;have jQ:=ft.below pZ;have b3:=hblk.cell 3;have b4:=hblk.cell 4;have b5:=hblk.cell 5;simp at b3 b4 b5;have u1:=j8.c1;have u5:=j8.c5;have m0:=j8.lt;have m1:=jL.lt;have m2:=hblk.lt;clear hW pZ hD hV hg ft h0 h1 h2 h3 h4 h5 aq;have yO:=j8.alloc (.cells #[D J 0,D J 0] 226);have w5:=yO.c5;have hbp:=hblk.alloc (.cells #[D J 0,D J 0] 226);have w3:(ZO.alloc (.cells #[D J 0,D J 0] 226)).cell? ⟨wr.heap.size,3,U⟩=Z (D J (la L i).id):=by rw [hbp.cell 3];rfl
       by_cases ht:tN L (la L i).id i=0
       ·have uD:=(jL.drew).lookNo hid.out ht;have uC:=((jL.alloc (.cells #[D J 0,D J 0] 226)).drew).lookNo hid.out ht;have cQ:=qH ht;clear ht;have ig:=qH (show zAw L (la L i).id E i = -1 by have h1:=zCb L (la L i).id E i;have h2:=zJG (L:=L) (d:=(la L i).id) (i:=i);rw [cQ.out] at h2;omega);have lF:=qH (show zAw L (la L i).id Q i = -1 by have h1:=zCb L (la L i).id Q i;have h2:=zJG (L:=L) (d:=(la L i).id) (i:=i);rw [cQ.out] at h2;omega);go_region
        all_goals
         cases hov:(la L i).over with
         | false =>
          go_wp2_with fail
          have bJ:=qH hov;generalize hX:(World.alloc ZO _).drew=X2;have bD:ZZ ZO.heap.size ZO X2:=by rw [<-hX];exact ((M _ _).alloc (O _) _).drew
          have hpr:Blk X2 (wr.heap.size+1) 226 #[D J (zAw L (la L i).id E i),D J (zAw L (la L i).id Q i)]:=by rw [ig.out,lF.out,<-hX,<-ny];exact (Blk.new ZO _ _).drew
          have hG:=j8.next bD;have ph:=jL.next bD;have fR:=zAq j6 bD j6.size;have iU:=jQ.below bD;have cO:=hblk.below bD m2;have uS:b < wr.heap.size+1:=by omega
          have ur:p < wr.heap.size+1:=by omega
          have um:w.heap.size<=wr.heap.size+1:=by have:=j6.size;omega
          clear hX bD j8 jL j6 jQ hblk b3 b4 b5 u1 u5 m0 m1 m2 yO w5 hbp w3 uD uC hov;obtain ⟨x,hx⟩:∃x,x=zAw L (la L i).id E i:=⟨_,rfl⟩
          obtain ⟨y,hy⟩:∃y,y=zAw L (la L i).id Q i:=⟨_,rfl⟩
          have hxb:=zCb L (la L i).id E i;have hyb:=zCb L (la L i).id Q i;rw [<-hx] at hpr hxb;rw [<-hy] at hpr hyb;have pF:=qH hx;have lv:=qH hy;clear hx hy;have gE:=qH (show crT L i↔(x < 0/\(0<=y->(la L y.toNat).sign=(la L i).sign)) by unfold crT;rw [bJ.out,pF.out,lv.out];rfl);have r0:X2.cell? ⟨wr.heap.size+1,0,U⟩=Z (D J x):=by rw [hpr.cell 0];rfl
          have r1:X2.cell? ⟨wr.heap.size+1,1,U⟩=Z (D J y):=by rw [hpr.cell 1];rfl
          have s3:X2.cell? ⟨wr.heap.size,3,U⟩=Z (D J (la L i).id):=by rw [cO.cell 3];rfl
          have s4:X2.cell? ⟨wr.heap.size,4,U⟩=Z (D J (la L i).sign):=by rw [cO.cell 4];rfl
          have u1:=hG.c1;have u5:=hG.c5;have n2:=hpr.lt;have n3:=cO.lt;have gV:x < 0:=by rw [pF.out,ig.out];decide
          have hy1:y < 0:=by rw [lv.out,lF.out];decide
          have hxd:decide (0<=x)=E:=by simp;omega
          have hgood:=qH (hcr.out.2 (gE.out.2 ⟨gV,fun h=>by omega⟩))
          have hs:=qH (show ∀j,j < i+1->crB L j=Q from fun j hj=>by
           rcases Nat.decEq j i with e | e
           ·exact HC.out j (by omega)
           ·subst e;exact hgood.out)
          have hvis:zFx L (la L i).id E i=Q:=zBx.2 ⟨pP.out,rfl,bJ.out⟩;have dW:zFx L (la L i).id Q i=E:=by unfold zFx;rw [bJ.out];simp
          have E1:=qH (zFz hvis);have E2:=qH ((zBG dW).trans lv.out.symm);clear hvis dW HC;go_wp2_with fail
          go_quiet (fail)
          generalize hX3:X2.drewN nq=X3;have bY:ZZ X2.heap.size X2 X3:=by rw [<-hX3];exact zAg (M _ _) _
          have po:=hG.next bY;have pi:=ph.next bY;have iJ:=zAq fR bY fR.size;have dt:=cO.below bY n3;have gC:=hpr.below bY n2;have t0:X3.cell? ⟨wr.heap.size+1,0,U⟩=Z (D J x):=by rw [gC.cell 0];rfl
          have t1:X3.cell? ⟨wr.heap.size+1,1,U⟩=Z (D J y):=by rw [gC.cell 1];rfl
          have tf:=gC.frozen 0;have kW:=pi.setCell (p:=⟨wr.heap.size+1,0,U⟩) (by simp;omega) (D J (i:Int));have iS:=po.far (q:=⟨wr.heap.size+1,0,U⟩) (by simp;omega) (D J (i:Int));have eF:=dt.far (p:=⟨wr.heap.size+1,0,U⟩) (by simp) (D J (i:Int));have iG:=gC.set_ 0 (D J (i:Int));have ja:=zAk iJ (p:=⟨wr.heap.size+1,0,U⟩) (.inr (by simp;omega)) (D J (i:Int));generalize m9:X3.setCell ⟨wr.heap.size+1,0,U⟩ (D J (i:Int))=X4 at kW iS eF iG ja;obtain ⟨X5,kP,hput,ve,mV⟩:=(kW.drew).store pP.out hid.out;rw [E1.out,E2.out] at hput;clear hX3 bY hG ph fR iU cO hpr r0 r1 s3 s4 u1 u5 n2 n3;go_wp2_with fail
          try rw [m9]
          have k0:X4.cell? ⟨wr.heap.size+1,0,U⟩=Z (D J (i:Int)):=by rw [iG.cell 0];rfl
          have k1:X4.cell? ⟨wr.heap.size+1,1,U⟩=Z (D J y):=by rw [iG.cell 1];rfl
          have k3:X4.cell? ⟨wr.heap.size,3,U⟩=Z (D J (la L i).id):=by rw [eF.cell 3];rfl
          have k5:=iS.c5;have vt:=(iS.drew:Dia X4.drew p K _ n c v2 v3 v4 _ v6);have hpb:p≠b:=by have:=hplt;omega
          have vr:Dia X5 p K _ n c v2 v3 v4 _ v6:=Blk.grown vt mV (by simp;omega);have uI:w.grownBy X5 (Z p):=zGU (zBL ja) mV hwb;clear m9 kW iS eF iG ja pi po dt gC iJ t0 t1 tf;go_region
          all_goals
           go_wp2_with fail
           go_roundw
           case rel=>exact ⟨i+1,kP,by omega,by go_num,vr,ve,uI,hs⟩
           case measure=>simp [intOf];omega
         | true =>
          go_wp2_with fail
          have bJ:=qH hov;generalize hX:(World.alloc ZO _).drew=X2;have bD:ZZ ZO.heap.size ZO X2:=by rw [<-hX];exact ((M _ _).alloc (O _) _).drew
          have hpr:Blk X2 (wr.heap.size+1) 226 #[D J (zAw L (la L i).id E i),D J (zAw L (la L i).id Q i)]:=by rw [ig.out,lF.out,<-hX,<-ny];exact (Blk.new ZO _ _).drew
          have hG:=j8.next bD;have ph:=jL.next bD;have fR:=zAq j6 bD j6.size;have iU:=jQ.below bD;have cO:=hblk.below bD m2;have uS:b < wr.heap.size+1:=by omega
          have ur:p < wr.heap.size+1:=by omega
          have um:w.heap.size<=wr.heap.size+1:=by have:=j6.size;omega
          clear hX bD j8 jL j6 jQ hblk b3 b4 b5 u1 u5 m0 m1 m2 yO w5 hbp w3 uD uC hov;obtain ⟨x,hx⟩:∃x,x=zAw L (la L i).id Q i:=⟨_,rfl⟩
          obtain ⟨y,hy⟩:∃y,y=zAw L (la L i).id E i:=⟨_,rfl⟩
          have hxb:=zCb L (la L i).id Q i;have hyb:=zCb L (la L i).id E i;rw [<-hx] at hpr hxb;rw [<-hy] at hpr hyb;have pF:=qH hx;have lv:=qH hy;clear hx hy;have gE:=qH (show crT L i↔(x < 0/\(0<=y->(la L y.toNat).sign=(la L i).sign)) by unfold crT;rw [bJ.out,pF.out,lv.out];rfl);have r0:X2.cell? ⟨wr.heap.size+1,0,U⟩=Z (D J y):=by rw [hpr.cell 0];rfl
          have r1:X2.cell? ⟨wr.heap.size+1,1,U⟩=Z (D J x):=by rw [hpr.cell 1];rfl
          have s3:X2.cell? ⟨wr.heap.size,3,U⟩=Z (D J (la L i).id):=by rw [cO.cell 3];rfl
          have s4:X2.cell? ⟨wr.heap.size,4,U⟩=Z (D J (la L i).sign):=by rw [cO.cell 4];rfl
          have u1:=hG.c1;have u5:=hG.c5;have n2:=hpr.lt;have n3:=cO.lt;have gV:x < 0:=by rw [pF.out,lF.out];decide
          have hy1:y < 0:=by rw [lv.out,ig.out];decide
          have hxd:decide (0<=x)=E:=by simp;omega
          have hgood:=qH (hcr.out.2 (gE.out.2 ⟨gV,fun h=>by omega⟩))
          have hs:=qH (show ∀j,j < i+1->crB L j=Q from fun j hj=>by
           rcases Nat.decEq j i with e | e
           ·exact HC.out j (by omega)
           ·subst e;exact hgood.out)
          have hvis:zFx L (la L i).id Q i=Q:=zBx.2 ⟨pP.out,rfl,bJ.out⟩;have dW:zFx L (la L i).id E i=E:=by unfold zFx;rw [bJ.out];simp
          have E1:=qH (zFz hvis);have E2:=qH ((zBG dW).trans lv.out.symm);clear hvis dW HC;go_wp2_with fail
          go_quiet (fail)
          generalize hX3:X2.drewN nq=X3;have bY:ZZ X2.heap.size X2 X3:=by rw [<-hX3];exact zAg (M _ _) _
          have po:=hG.next bY;have pi:=ph.next bY;have iJ:=zAq fR bY fR.size;have dt:=cO.below bY n3;have gC:=hpr.below bY n2;have t0:X3.cell? ⟨wr.heap.size+1,0,U⟩=Z (D J y):=by rw [gC.cell 0];rfl
          have t1:X3.cell? ⟨wr.heap.size+1,1,U⟩=Z (D J x):=by rw [gC.cell 1];rfl
          have tf:=gC.frozen 1;have kW:=pi.setCell (p:=⟨wr.heap.size+1,1,U⟩) (by simp;omega) (D J (i:Int));have iS:=po.far (q:=⟨wr.heap.size+1,1,U⟩) (by simp;omega) (D J (i:Int));have eF:=dt.far (p:=⟨wr.heap.size+1,1,U⟩) (by simp) (D J (i:Int));have iG:=gC.set_ 1 (D J (i:Int));have ja:=zAk iJ (p:=⟨wr.heap.size+1,1,U⟩) (.inr (by simp;omega)) (D J (i:Int));generalize m9:X3.setCell ⟨wr.heap.size+1,1,U⟩ (D J (i:Int))=X4 at kW iS eF iG ja;obtain ⟨X5,kP,hput,ve,mV⟩:=(kW.drew).store pP.out hid.out;rw [E2.out,E1.out] at hput;clear hX3 bY hG ph fR iU cO hpr r0 r1 s3 s4 u1 u5 n2 n3;go_wp2_with fail
          try rw [m9]
          have k0:X4.cell? ⟨wr.heap.size+1,0,U⟩=Z (D J y):=by rw [iG.cell 0];rfl
          have k1:X4.cell? ⟨wr.heap.size+1,1,U⟩=Z (D J (i:Int)):=by rw [iG.cell 1];rfl
          have k3:X4.cell? ⟨wr.heap.size,3,U⟩=Z (D J (la L i).id):=by rw [eF.cell 3];rfl
          have k5:=iS.c5;have vt:=(iS.drew:Dia X4.drew p K _ n c v2 v3 v4 _ v6);have hpb:p≠b:=by have:=hplt;omega
          have vr:Dia X5 p K _ n c v2 v3 v4 _ v6:=Blk.grown vt mV (by simp;omega);have uI:w.grownBy X5 (Z p):=zGU (zBL ja) mV hwb;clear m9 kW iS eF iG ja pi po dt gC iJ t0 t1 tf;go_region
          all_goals
           go_wp2_with fail
           go_roundw
           case rel=>exact ⟨i+1,kP,by omega,by go_num,vr,ve,uI,hs⟩
           case measure=>simp [intOf];omega
       ·have Aw:0 < tN L (la L i).id i:=by omega
        have uD:=(jL.drew).lookYes hid.out Aw;have uC:=((jL.alloc (.cells #[D J 0,D J 0] 226)).drew).lookYes hid.out Aw;have cQ:=qH Aw;clear ht Aw;go_region
        all_goals
         cases hov:(la L i).over with
         | false =>
          go_wp2_with fail
          have bJ:=qH hov;generalize hX:(World.alloc ZO _).drew=X2;have bD:ZZ ZO.heap.size ZO X2:=by rw [<-hX];exact ((M _ _).alloc (O _) _).drew
          have hpr:Blk X2 (wr.heap.size+1) 226 #[D J (zAw L (la L i).id E i),D J (zAw L (la L i).id Q i)]:=by rw [<-hX,<-ny];exact (Blk.new ZO _ _).drew
          have hG:=j8.next bD;have ph:=jL.next bD;have fR:=zAq j6 bD j6.size;have iU:=jQ.below bD;have cO:=hblk.below bD m2;have uS:b < wr.heap.size+1:=by omega
          have ur:p < wr.heap.size+1:=by omega
          have um:w.heap.size<=wr.heap.size+1:=by have:=j6.size;omega
          clear hX bD j8 jL j6 jQ hblk b3 b4 b5 u1 u5 m0 m1 m2 yO w5 hbp w3 uD uC hov;obtain ⟨x,hx⟩:∃x,x=zAw L (la L i).id E i:=⟨_,rfl⟩
          obtain ⟨y,hy⟩:∃y,y=zAw L (la L i).id Q i:=⟨_,rfl⟩
          have hxb:=zCb L (la L i).id E i;have hyb:=zCb L (la L i).id Q i;rw [<-hx] at hpr hxb;rw [<-hy] at hpr hyb;have pF:=qH hx;have lv:=qH hy;clear hx hy;have gE:=qH (show crT L i↔(x < 0/\(0<=y->(la L y.toNat).sign=(la L i).sign)) by unfold crT;rw [bJ.out,pF.out,lv.out];rfl);have r0:X2.cell? ⟨wr.heap.size+1,0,U⟩=Z (D J x):=by rw [hpr.cell 0];rfl
          have r1:X2.cell? ⟨wr.heap.size+1,1,U⟩=Z (D J y):=by rw [hpr.cell 1];rfl
          have s3:X2.cell? ⟨wr.heap.size,3,U⟩=Z (D J (la L i).id):=by rw [cO.cell 3];rfl
          have s4:X2.cell? ⟨wr.heap.size,4,U⟩=Z (D J (la L i).sign):=by rw [cO.cell 4];rfl
          have u1:=hG.c1;have u5:=hG.c5;have n2:=hpr.lt;have n3:=cO.lt
          cases q3:decide (0<=x) with
          | true =>
           have BH:0<=x:=by simpa using q3
           have hf:=qH (zDg (L:=L) HL.out hlt (by
            cases hq:crB L i with
            | false=>rfl
            | true=>have:=gE.out.1 (hcr.out.1 hq);omega))
           clear HC;go_wp2_with fail
           go_quiet (fail)
           go_wp2_with fail
           go_ret;exact ⟨zAm hf.out.symm,zBF fR _,fun h=>by rw [hf.out] at h;cases h⟩
          | false =>
           have BH:¬0<=x:=by simpa using q3
           have BM:0<=y:=by
            have:=zJG.2 cQ.out;rw [<-pF.out,<-lv.out] at this;omega
           obtain ⟨j,rfl⟩:∃j:Nat,y=(j:Int):=⟨y.toNat,by omega⟩
           have hjn:j < n:=by omega
           have cj:=(iU.also hjn).1.sign;have j1:(j:Int) < (n:Int):=by omega
           cases q4:((la L j).sign != (la L i).sign) with
           | true =>
            have hf:=qH (zDg (L:=L) HL.out hlt (by
             cases hq:crB L i with
             | false=>rfl
             | true=>have:=gE.out.1 (hcr.out.1 hq);have h2:=this.2 BM;rw [Int.toNat_natCast] at h2;rw [h2] at q4;simp at q4))
            clear HC;go_wp2_with fail
            go_quiet (fail)
            go_wp2_with fail
            go_ret;exact ⟨zAm hf.out.symm,zBF fR _,fun h=>by rw [hf.out] at h;cases h⟩
           | false =>
            have hgood:=qH (hcr.out.2 (gE.out.2 ⟨by omega,fun _=>by rw [Int.toNat_natCast];simpa using q4⟩))
            have hs:=qH (show ∀j,j < i+1->crB L j=Q from fun j hj=>by
             rcases Nat.decEq j i with e | e
             ·exact HC.out j (by omega)
             ·subst e;exact hgood.out)
            have hvis:zFx L (la L i).id E i=Q:=zBx.2 ⟨pP.out,rfl,bJ.out⟩;have dW:zFx L (la L i).id Q i=E:=by unfold zFx;rw [bJ.out];simp
            have E1:=qH (zFz hvis);have E2:=qH ((zBG dW).trans lv.out.symm);clear hvis dW HC;go_wp2_with fail
            go_quiet (fail)
            generalize hX3:X2.drewN nq=X3;have bY:ZZ X2.heap.size X2 X3:=by rw [<-hX3];exact zAg (M _ _) _
            have po:=hG.next bY;have pi:=ph.next bY;have iJ:=zAq fR bY fR.size;have dt:=cO.below bY n3;have gC:=hpr.below bY n2;have t0:X3.cell? ⟨wr.heap.size+1,0,U⟩=Z (D J x):=by rw [gC.cell 0];rfl
            have t1:X3.cell? ⟨wr.heap.size+1,1,U⟩=Z (D J (j:Int)):=by rw [gC.cell 1];rfl
            have tf:=gC.frozen 0;have kW:=pi.setCell (p:=⟨wr.heap.size+1,0,U⟩) (by simp;omega) (D J (i:Int));have iS:=po.far (q:=⟨wr.heap.size+1,0,U⟩) (by simp;omega) (D J (i:Int));have eF:=dt.far (p:=⟨wr.heap.size+1,0,U⟩) (by simp) (D J (i:Int));have iG:=gC.set_ 0 (D J (i:Int));have ja:=zAk iJ (p:=⟨wr.heap.size+1,0,U⟩) (.inr (by simp;omega)) (D J (i:Int));generalize m9:X3.setCell ⟨wr.heap.size+1,0,U⟩ (D J (i:Int))=X4 at kW iS eF iG ja;obtain ⟨X5,kP,hput,ve,mV⟩:=(kW.drew).store pP.out hid.out;rw [E1.out,E2.out] at hput;clear hX3 bY hG ph fR iU cO hpr r0 r1 s3 s4 u1 u5 n2 n3;go_wp2_with fail
            try rw [m9]
            have k0:X4.cell? ⟨wr.heap.size+1,0,U⟩=Z (D J (i:Int)):=by rw [iG.cell 0];rfl
            have k1:X4.cell? ⟨wr.heap.size+1,1,U⟩=Z (D J (j:Int)):=by rw [iG.cell 1];rfl
            have k3:X4.cell? ⟨wr.heap.size,3,U⟩=Z (D J (la L i).id):=by rw [eF.cell 3];rfl
            have k5:=iS.c5;have vt:=(iS.drew:Dia X4.drew p K _ n c v2 v3 v4 _ v6);have hpb:p≠b:=by have:=hplt;omega
            have vr:Dia X5 p K _ n c v2 v3 v4 _ v6:=Blk.grown vt mV (by simp;omega);have uI:w.grownBy X5 (Z p):=zGU (zBL ja) mV hwb;clear m9 kW iS eF iG ja pi po dt gC iJ t0 t1 tf;go_region
            all_goals
             go_wp2_with fail
             go_roundw
             case rel=>exact ⟨i+1,kP,by omega,by go_num,vr,ve,uI,hs⟩
             case measure=>simp [intOf];omega
         | true =>
          go_wp2_with fail
          have bJ:=qH hov;generalize hX:(World.alloc ZO _).drew=X2;have bD:ZZ ZO.heap.size ZO X2:=by rw [<-hX];exact ((M _ _).alloc (O _) _).drew
          have hpr:Blk X2 (wr.heap.size+1) 226 #[D J (zAw L (la L i).id E i),D J (zAw L (la L i).id Q i)]:=by rw [<-hX,<-ny];exact (Blk.new ZO _ _).drew
          have hG:=j8.next bD;have ph:=jL.next bD;have fR:=zAq j6 bD j6.size;have iU:=jQ.below bD;have cO:=hblk.below bD m2;have uS:b < wr.heap.size+1:=by omega
          have ur:p < wr.heap.size+1:=by omega
          have um:w.heap.size<=wr.heap.size+1:=by have:=j6.size;omega
          clear hX bD j8 jL j6 jQ hblk b3 b4 b5 u1 u5 m0 m1 m2 yO w5 hbp w3 uD uC hov;obtain ⟨x,hx⟩:∃x,x=zAw L (la L i).id Q i:=⟨_,rfl⟩
          obtain ⟨y,hy⟩:∃y,y=zAw L (la L i).id E i:=⟨_,rfl⟩
          have hxb:=zCb L (la L i).id Q i;have hyb:=zCb L (la L i).id E i;rw [<-hx] at hpr hxb;rw [<-hy] at hpr hyb;have pF:=qH hx;have lv:=qH hy;clear hx hy;have gE:=qH (show crT L i↔(x < 0/\(0<=y->(la L y.toNat).sign=(la L i).sign)) by unfold crT;rw [bJ.out,pF.out,lv.out];rfl);have r0:X2.cell? ⟨wr.heap.size+1,0,U⟩=Z (D J y):=by rw [hpr.cell 0];rfl
          have r1:X2.cell? ⟨wr.heap.size+1,1,U⟩=Z (D J x):=by rw [hpr.cell 1];rfl
          have s3:X2.cell? ⟨wr.heap.size,3,U⟩=Z (D J (la L i).id):=by rw [cO.cell 3];rfl
          have s4:X2.cell? ⟨wr.heap.size,4,U⟩=Z (D J (la L i).sign):=by rw [cO.cell 4];rfl
          have u1:=hG.c1;have u5:=hG.c5;have n2:=hpr.lt;have n3:=cO.lt
          cases q3:decide (0<=x) with
          | true =>
           have BH:0<=x:=by simpa using q3
           have hf:=qH (zDg (L:=L) HL.out hlt (by
            cases hq:crB L i with
            | false=>rfl
            | true=>have:=gE.out.1 (hcr.out.1 hq);omega))
           clear HC;go_wp2_with fail
           go_quiet (fail)
           go_wp2_with fail
           go_ret;exact ⟨zAm hf.out.symm,zBF fR _,fun h=>by rw [hf.out] at h;cases h⟩
          | false =>
           have BH:¬0<=x:=by simpa using q3
           have BM:0<=y:=by
            have:=zJG.2 cQ.out;rw [<-lv.out,<-pF.out] at this;omega
           obtain ⟨j,rfl⟩:∃j:Nat,y=(j:Int):=⟨y.toNat,by omega⟩
           have hjn:j < n:=by omega
           have cj:=(iU.also hjn).1.sign;have j1:(j:Int) < (n:Int):=by omega
           cases q4:((la L j).sign != (la L i).sign) with
           | true =>
            have hf:=qH (zDg (L:=L) HL.out hlt (by
             cases hq:crB L i with
             | false=>rfl
             | true=>have:=gE.out.1 (hcr.out.1 hq);have h2:=this.2 BM;rw [Int.toNat_natCast] at h2;rw [h2] at q4;simp at q4))
            clear HC;go_wp2_with fail
            go_quiet (fail)
            go_wp2_with fail
            go_ret;exact ⟨zAm hf.out.symm,zBF fR _,fun h=>by rw [hf.out] at h;cases h⟩
           | false =>
            have hgood:=qH (hcr.out.2 (gE.out.2 ⟨by omega,fun _=>by rw [Int.toNat_natCast];simpa using q4⟩))
            have hs:=qH (show ∀j,j < i+1->crB L j=Q from fun j hj=>by
             rcases Nat.decEq j i with e | e
             ·exact HC.out j (by omega)
             ·subst e;exact hgood.out)
            have hvis:zFx L (la L i).id Q i=Q:=zBx.2 ⟨pP.out,rfl,bJ.out⟩;have dW:zFx L (la L i).id E i=E:=by unfold zFx;rw [bJ.out];simp
            have E1:=qH (zFz hvis);have E2:=qH ((zBG dW).trans lv.out.symm);clear hvis dW HC;go_wp2_with fail
            go_quiet (fail)
            generalize hX3:X2.drewN nq=X3;have bY:ZZ X2.heap.size X2 X3:=by rw [<-hX3];exact zAg (M _ _) _
            have po:=hG.next bY;have pi:=ph.next bY;have iJ:=zAq fR bY fR.size;have dt:=cO.below bY n3;have gC:=hpr.below bY n2;have t0:X3.cell? ⟨wr.heap.size+1,0,U⟩=Z (D J (j:Int)):=by rw [gC.cell 0];rfl
            have t1:X3.cell? ⟨wr.heap.size+1,1,U⟩=Z (D J x):=by rw [gC.cell 1];rfl
            have tf:=gC.frozen 1;have kW:=pi.setCell (p:=⟨wr.heap.size+1,1,U⟩) (by simp;omega) (D J (i:Int));have iS:=po.far (q:=⟨wr.heap.size+1,1,U⟩) (by simp;omega) (D J (i:Int));have eF:=dt.far (p:=⟨wr.heap.size+1,1,U⟩) (by simp) (D J (i:Int));have iG:=gC.set_ 1 (D J (i:Int));have ja:=zAk iJ (p:=⟨wr.heap.size+1,1,U⟩) (.inr (by simp;omega)) (D J (i:Int));generalize m9:X3.setCell ⟨wr.heap.size+1,1,U⟩ (D J (i:Int))=X4 at kW iS eF iG ja;obtain ⟨X5,kP,hput,ve,mV⟩:=(kW.drew).store pP.out hid.out;rw [E2.out,E1.out] at hput;clear hX3 bY hG ph fR iU cO hpr r0 r1 s3 s4 u1 u5 n2 n3;go_wp2_with fail
            try rw [m9]
            have k0:X4.cell? ⟨wr.heap.size+1,0,U⟩=Z (D J (j:Int)):=by rw [iG.cell 0];rfl
            have k1:X4.cell? ⟨wr.heap.size+1,1,U⟩=Z (D J (i:Int)):=by rw [iG.cell 1];rfl
            have k3:X4.cell? ⟨wr.heap.size,3,U⟩=Z (D J (la L i).id):=by rw [eF.cell 3];rfl
            have k5:=iS.c5;have vt:=(iS.drew:Dia X4.drew p K _ n c v2 v3 v4 _ v6);have hpb:p≠b:=by have:=hplt;omega
            have vr:Dia X5 p K _ n c v2 v3 v4 _ v6:=Blk.grown vt mV (by simp;omega);have uI:w.grownBy X5 (Z p):=zGU (zBL ja) mV hwb;clear m9 kW iS eF iG ja pi po dt gC iJ t0 t1 tf;go_region
            all_goals
             go_wp2_with fail
             go_roundw
             case rel=>exact ⟨i+1,kP,by omega,by go_num,vr,ve,uI,hs⟩
             case measure=>simp [intOf];omega
    ·have hkf:=zRC hk;have hV':=hV.skip hkf
     have hs:=qH (show ∀j,j < i+1->crB L j=Q from fun j hj=>by
      rcases Nat.decEq j i with e | e
      ·exact HC.out j (by omega)
      ·subst e;exact zBs.2 (fun h=>by rw [hkf] at h;cases h))
     have iZ:((la L i).kind != 2)=Q:=by simpa using hk
     clear hk hkf HC hV;go_wp2_with fail
     go_roundw
     case rel=>exact ⟨i+1,ids,by omega,by go_num,hD.alloc _,hV'.alloc _,zBl hg _,hs⟩
     case measure=>simp [intOf];omega
   ·obtain rfl:n=i:=by omega
    have hc:zBK L=Q:=by
     unfold zBK;rw [HL.out,HE.out];simp only [decide_true,Bool.true_and];rw [zAL];exact HC.out
    have hlen:ids.length=cN L n / 2:=by
     have:=zWw hc;rw [HL.out] at this;rw [hV.len,this]
    have pO:=qH hc;have e5:=hD.c5;have hlq:((ids.length:Nat):Int)=(cN L n:Int) / 2:=by omega
    have wT:=qH hlq;clear hc HC hlen hlq;go_wp2_with (at_len;refine zId rfl _ rfl rfl hV ?_)
    go_ret;exact ⟨zAm (by rw [pO.out,wT.out];simp),hg,fun _=>⟨b,ids,hwb,hD,hV⟩⟩
 ·have he1:((cN L n:Int) % 2 != 0)=Q:=by simp;omega
  have hf:=qH (show zBK L=E by unfold zBK;rw [HL.out];simp [he]);clear he;go_enter Tryz.func178,Tryz.ntmps178;go_wp2_with fail
  refine (zBB K A n c L _ hA).mono ?_;rintro e w1 ⟨rfl,ay⟩;go_wp2_with fail
  go_ret;exact ⟨zAm hf.out.symm,zDk ay _,fun h=>by rw [hf.out] at h;cases h⟩
theorem zDZ (i:Nat) (v:Value) (w:ZY) (hi:i<=100000) :
  Calls ZX 213 #[v,D J i] w fun e w'=>e=.returned (D J ((2*i:Nat):Int))/\ZZ w.heap.size w w':=by
 go_enter Tryz.func213,Tryz.ntmps213;go_wp2_with fail
 go_ret;exact ⟨zCv (by omega),M _ _⟩
theorem zDx (i p:Nat) (K:Int) (A:Option Addr) (n c:Nat) (v2 v3 v4 v5 v6:Value) (w:ZY) (hd:Dia w p K A n c v2 v3 v4 v5 v6) (hi:i < n) (hn:n<=1000) :
  Calls ZX 212 #[.pointer (Z ⟨p,0,U⟩),D J i] w fun e w'=>e=.returned (D J ((zCx n i E:Nat):Int))/\ZZ w.heap.size w w':=by
 have c1:=hd.c1
 have hf:=qH (show ((zCx n i E:Nat):Int)=2*(((i:Int)-1) % n)+1 by
  have e1:((i+n-1:Nat):Int)=(i:Int)-1+n:=by omega
  have e2:(((i+n-1) % n:Nat):Int)=((i:Int)-1+n) % n:=by rw [Int.natCast_emod,e1]
  have e3:((i:Int)-1+n) % n=((i:Int)-1) % n:=by simp
  unfold zCx
  simp only [Bool.false_eq_true,if_false]
  omega)
 have hm0:0<=((i:Int)-1) % n:=Int.emod_nonneg _ (by omega);have o6:((i:Int)-1) % n < n:=Int.emod_lt_of_pos _ (by omega);go_enter Tryz.func212,Tryz.ntmps212;go_wp2_with fail
 go_ret;exact ⟨zCv (by rw [hf.out]),M _ _⟩
structure DiaF (w:ZY) (base p k:Nat) (A:Option Addr) (n c:Nat) (L:List Lt) (b:Nat) (g2 g3 g4 g6:Nat) (s:List Bool) (P C:List Int) (ids:List Int):Prop where
 ranks:DiaR w base p k A n c L (.map (Z b)) g2 g3 g4 g6 s P C
 vis:Vis w b L n ids
 lets:Lets w A n L
 good:Good (k:Int) L
 small:n<=400
theorem zJH (d base p k:Nat) (A:Option Addr) (n c:Nat) (L:List Lt) (b g2 g3 g4 g6:Nat) (s:List Bool) (P C ids:List Int) (w:ZY) (h:DiaF w base p k A n c L b g2 g3 g4 g6 s P C ids) (hd:d < zCO L) (hge:2*n<=d) :
  Calls ZX 200 #[.pointer (Z ⟨p,0,U⟩),D J d] w fun e w'=>e=.returned (D J (zCe L (axL L) d))/\ZZ w.heap.size w w':=by
 have hn:=h.small;have cH:L.length=n:=h.lets.len;have hmp:=h.good.m_pos;have hml:(axL L).length<=n:=by rw [zFP,<-cH];exact zNF L _
 have hD:=h.ranks.dia;have c1:=hD.c1;have c2:=hD.c2;have c3:=hD.c3;unfold zCO at hd;rw [cH] at hd;obtain ⟨m,hm⟩:∃m,m=(axL L).length:=⟨_,rfl⟩
 rw [<-hm] at hd hmp hml c3;have HM:=qH hm;have HD:=qH hD;rcases Nat.mod_two_eq_zero_or_one d with h2 | h2
 ·obtain ⟨j,hj⟩:∃j,d=2*n+2*j:=⟨(d-2*n) / 2,by omega⟩
  have hjm:j < m:=by omega
  obtain ⟨t,ht⟩:∃t,t=(j+1) % m:=⟨_,rfl⟩
  have htm:t < m:=by rw [ht];exact Nat.mod_lt _ hmp
  have hx:=zHi (L:=L) (j:=t) (by rw [<-hm];exact htm);obtain ⟨v,hv⟩:∃v,v=xat (axL L) t:=⟨_,rfl⟩
  have cx:=h.ranks.axis.cell (zIU (k:=t) (by rw [<-hm];exact htm));have cy:=h.ranks.axis.cell (zIU (k:=j) (by rw [<-hm];exact hjm));rw [<-hv] at cx hx;obtain ⟨y,hy⟩:∃y,y=xat (axL L) j:=⟨_,rfl⟩
  rw [<-hy] at cy;have hvn:v < n:=by rw [<-cH];exact hx.2
  have cs:=h.ranks.down.cell hvn;rw [h.ranks.downs v hx.1] at cs
  have hf:=qH (show zCe L (axL L) d=zCx n v (!dwn L v) by
   unfold zCe
   rw [cH,<-hm,qP hge,qP h2,show (d-2*n) / 2=j by omega,<-ht,<-hv])
  have q1:((d:Int)-2*(n:Int)) / 2=(j:Int):=by omega
  have q2:((d:Int) % 2==0)=Q:=by simp;omega
  have q3:((j:Int)+1) % (m:Int)=(t:Int):=by rw [ht];simp
  have jo:((j:Int)+1).tmod (m:Int)=(t:Int):=by rw [Int.tmod_eq_emod_of_nonneg (by omega)];exact q3
  have jn:IntKind.i64.wrap ((j:Int)+1)=(j:Int)+1:=IntWalk.i64_in _ (by omega);have jm:IntKind.i64.wrap (t:Int)=(t:Int):=IntWalk.i64_in _ (by omega);have EH:¬m=0:=by omega
  have q4:(0:Int)<=(t:Int):=by omega
  have q5:(t:Int) < (m:Int):=by omega
  have q6:(2:Int)*(n:Int)<=(d:Int):=by omega
  have q7:(0:Int)<=(j:Int):=by omega
  have q8:(j:Int) < (m:Int):=by omega
  have q9:(0:Int)<=(v:Int):=by omega
  have vZ:(v:Int) < (n:Int):=by omega
  clear ht hv hj h2 cH hx hm hy hD
  cases hw:dwn L v with
  | false =>
   rw [hw] at hf cs;clear hw;go_enter Tryz.func200,Tryz.ntmps200;go_wp2_with fail
   go_quiet (fail)
   go_wp2_with fail
   generalize hwx:w.drewN nq=wx;have hbx:ZZ w.heap.size w wx:=by rw [<-hwx];exact zAg (M _ _) _
   have x1:=(hbx.cell (World.block_lt_of_cell? w _ cx)).trans cx;have x2:=(HD.out.next hbx).c3;rw [<-HM.out] at x2;have x3:=(hbx.cell (World.block_lt_of_cell? w _ cs)).trans cs;have x4:=(HD.out.next hbx).c2;clear hwx c1 c2 c3 cx cy cs;go_quiet (fail)
   go_wp2_with fail
   refine (zDZ v _ _ (by omega)).mono ?_;rintro e w2 ⟨rfl,ai⟩;have al:=zAa (zAg hbx _) ai hbx.size;go_wp2_with fail
   go_ret;exact ⟨zCv (by rw [hf.out];simp [zCx]),al⟩
  | true =>
   rw [hw] at hf cs;clear hw;go_enter Tryz.func200,Tryz.ntmps200;go_wp2_with fail
   go_quiet (fail)
   go_wp2_with fail
   generalize hwx:w.drewN nq=wx;have hbx:ZZ w.heap.size w wx:=by rw [<-hwx];exact zAg (M _ _) _
   have x1:=(hbx.cell (World.block_lt_of_cell? w _ cx)).trans cx;have x2:=(HD.out.next hbx).c3;rw [<-HM.out] at x2;have x3:=(hbx.cell (World.block_lt_of_cell? w _ cs)).trans cs;have x4:=(HD.out.next hbx).c2;have HDx:=qH (HD.out.next hbx);clear hwx c1 c2 c3 cx cy cs;go_quiet (fail)
   go_wp2_with fail
   refine (zDx v p (k:Int) A n c _ _ _ _ _ _ (Dia.drewN HDx.out _) hvn (by omega)).mono ?_;rintro e w2 ⟨rfl,ai⟩;have al:=zAa (zAg hbx _) ai hbx.size;go_wp2_with fail
   go_ret;exact ⟨zCv (by rw [hf.out];simp),al⟩
 ·obtain ⟨j,hj⟩:∃j,d=2*n+2*j+1:=⟨(d-2*n) / 2,by omega⟩
  have hjm:j < m:=by omega
  have hx:=zHi (L:=L) (j:=j) (by rw [<-hm];exact hjm);obtain ⟨v,hv⟩:∃v,v=xat (axL L) j:=⟨_,rfl⟩
  have cx:=h.ranks.axis.cell (zIU (k:=j) (by rw [<-hm];exact hjm));rw [<-hv] at cx hx;have hvn:v < n:=by rw [<-cH];exact hx.2
  have cs:=h.ranks.down.cell hvn;rw [h.ranks.downs v hx.1] at cs
  have hf:=qH (show zCe L (axL L) d=zCx n v (dwn L v) by
   unfold zCe
   rw [cH,qP hge,qN (by omega),show (d-2*n) / 2=j by omega,<-hv])
  have q1:((d:Int)-2*(n:Int)) / 2=(j:Int):=by omega
  have q2:((d:Int) % 2==0)=E:=by simp;omega
  have q6:(2:Int)*(n:Int)<=(d:Int):=by omega
  have q7:(0:Int)<=(j:Int):=by omega
  have q8:(j:Int) < (m:Int):=by omega
  have q9:(0:Int)<=(v:Int):=by omega
  have vZ:(v:Int) < (n:Int):=by omega
  clear hv hj h2 cH hx hm hD
  cases hw:dwn L v with
  | true =>
   rw [hw] at hf cs;clear hw;go_enter Tryz.func200,Tryz.ntmps200;go_wp2_with fail
   go_quiet (fail)
   go_wp2_with fail
   refine (zDZ v _ _ (by omega)).mono ?_;rintro e w2 ⟨rfl,ai⟩;have al:=zAa (zAg (M w.heap.size w) _) ai (O _);go_wp2_with fail
   go_ret;exact ⟨zCv (by rw [hf.out];simp [zCx]),al⟩
  | false =>
   rw [hw] at hf cs;clear hw;go_enter Tryz.func200,Tryz.ntmps200;go_wp2_with fail
   go_quiet (fail)
   go_wp2_with fail
   refine (zDx v p (k:Int) A n c _ _ _ _ _ _ (Dia.drewN HD.out _) hvn (by omega)).mono ?_;rintro e w2 ⟨rfl,ai⟩;have al:=zAa (zAg (M w.heap.size w) _) ai (O _);go_wp2_with fail
   go_ret;exact ⟨zCv (by rw [hf.out]),al⟩
theorem zIL {d n v:Nat} (hd:d < 2*n) (hv:v=zBU n d):∃e:Nat,(d:Int) / 2=(e:Int)/\v < n/\((d % 2=0/\((e:Int)+1) % (n:Int)=(v:Int))∨(d % 2=1/\v=e)):=by
 refine ⟨d / 2,by omega,by rw [hv];exact zJi hd,?_⟩;unfold zBU at hv;rcases Nat.mod_two_eq_zero_or_one d with h | h
 ·rw [qP h] at hv;exact .inl ⟨h,by rw [hv];simp⟩
 ·rw [qN (by omega)] at hv;exact .inr ⟨h,hv⟩
theorem zJI (d base p k:Nat) (A:Option Addr) (n c:Nat) (L:List Lt) (b g2 g3 g4 g6:Nat) (s:List Bool) (P C ids:List Int) (w:ZY) (h:DiaF w base p k A n c L b g2 g3 g4 g6 s P C ids) (hlt:d < 2*n) (hc:isP (la L (zBU n d))=Q) :
  Calls ZX 200 #[.pointer (Z ⟨p,0,U⟩),D J d] w fun e w'=>e=.returned (D J (zCe L (axL L) d))/\ZZ w.heap.size w w':=by
 have hn:=h.small;have hA:=h.lets;have g:=h.good;have cH:L.length=n:=hA.len;have hmp:=g.m_pos;have hml:(axL L).length<=n:=by rw [zFP,<-cH];exact zNF L _
 have hD:=h.ranks.dia;have c1:=hD.c1;have c3:=hD.c3;obtain ⟨m,hm⟩:∃m,m=(axL L).length:=⟨_,rfl⟩
 rw [<-hm] at hmp hml c3;obtain ⟨v,hv⟩:∃v,v=zBU n d:=⟨_,rfl⟩
 obtain ⟨e,he,hvn,hcase⟩:=zIL hlt hv;rw [<-hv] at hc;have hf:=g.left_pass (d:=d) (by omega) (by rw [cH,<-hv];exact hc);rw [cH,<-hv,<-hm] at hf;obtain ⟨j,hj⟩:∃j,j=atN L v:=⟨_,rfl⟩
 have hjm:j < m:=by rw [hj,hm];exact g.at_lt hc
 rw [<-hj] at hf;obtain ⟨t,ht⟩:∃t,t=(j+m-1) % m:=⟨_,rfl⟩
 have htm:t < m:=by rw [ht];exact Nat.mod_lt _ hmp
 rw [<-ht] at hf;have q9:((j:Int)-1+(m:Int)) % (m:Int)=(t:Int):=by
  rw [ht,Int.natCast_emod]
  congr 1
  omega
 have q9b:((j:Int)-1) % (m:Int)=(t:Int):=by rw [<-q9];simp
 have hk:(la L v).kind=1:=by unfold isP at hc;simpa using hc
 have cs:=h.ranks.down.cell hvn;rw [h.ranks.downs v hc] at cs;have cp:=h.ranks.place.cell (h.ranks.places v hc);rw [<-hj] at cp;obtain ⟨gg,o,rfl,hgl,hx,_⟩:=hA.at_ hvn;obtain ⟨x0,x1,x2,x3,x4,x5⟩:=hx;have q0:decide ((2:Int)*(n:Int)<=(d:Int))=E:=by simp;omega
 have q6:((la L v).kind==1)=Q:=by simpa using hk
 have v0:(0:Int)<=(v:Int):=by omega
 have v1:(v:Int) < (n:Int):=by omega
 have l0:=hD.lt;have l1:=h.ranks.down.lt;have l2:=h.ranks.place.lt;have uc:=qH hD;clear hv hc hk hj ht hm cH hD q9
 cases hX:dwn L v<;>rcases hcase with ⟨hp,hq⟩ | ⟨hp,hq⟩
 all_goals
  rw [hX] at hf cs;clear hX
  first
   | (have q2:((d:Int) % 2==0)=Q:=(by simp;omega)
      have oI:(d % 2==0)=Q:=(by simp;omega)
      rw [oI] at hf
      clear oI)
   | (have q2:((d:Int) % 2==0)=E:=(by simp;omega)
      have oI:(d % 2==0)=E:=(by simp;omega)
      rw [oI] at hf
      clear oI
      subst hq)
  have HF:=qH hf;clear hf hp;go_enter Tryz.func200,Tryz.ntmps200;go_wp2_with fail
  go_quiet (fail)
  generalize hwx:w.drewN nq=wx;have hbx:ZZ w.heap.size w wx:=by rw [<-hwx];exact zAg (M _ _) _
  have y1:=(uc.out.next hbx).c1;have y2:=(uc.out.next hbx).c2;have y4:=(uc.out.next hbx).c4;have ys:=(hbx.cell (World.block_lt_of_cell? w _ cs)).trans cs;have yp:=(hbx.cell (World.block_lt_of_cell? w _ cp)).trans cp;have z0:=(hbx.cell (World.block_lt_of_cell? w _ x0)).trans x0;have z1:=(hbx.cell (World.block_lt_of_cell? w _ x1)).trans x1;have z2:=(hbx.cell (World.block_lt_of_cell? w _ x2)).trans x2;have z3:=(hbx.cell (World.block_lt_of_cell? w _ x3)).trans x3;have z4:=(hbx.cell (World.block_lt_of_cell? w _ x4)).trans x4;have z5:=(hbx.cell (World.block_lt_of_cell? w _ x5)).trans x5;have hzz:=hbx.size;have m0:p < wx.heap.size:=by omega
  have m1:g2 < wx.heap.size:=by omega
  have m2:g4 < wx.heap.size:=by omega
  clear hwx c1 c3 cs cp x0 x1 x2 x3 x4 x5;go_wp2_with fail
  go_ret;exact ⟨zCv (by rw [HF.out];simp),zAa hbx ((M _ _).alloc (O _) _) hbx.size⟩
theorem KMap.lookNo {P:Program} {w:ZY} {k:TypeId} {b:Nat} {kv:List (Value×Value)} (h:KMap w P k b kv) (K:Go.Maps.Keyed P k) {t e:TypeId} (ht:P.underlying t=Z (.map k e)) {z:Value} (hz:∀w,(zeroValue e).run P w=.ok z w) {key v:Value} {l:Lit} (hkey:keyOf P k key=Z l) (hone:∃j:Nat,kv[j]? = Z (key,v)) (huniq:∀(i j:Nat) (u u':Value),kv[i]? = Z (key,u)->kv[j]? = Z (key,u')->u=u') :
  (Instr.lookup t (.map (Z b)) key E).run P w=.ok v w:=by
 rcases h.look K ht (hz w) hkey with ⟨_,h2⟩ | ⟨j,u,h1,h2⟩
 ·obtain ⟨j,hj⟩:=hone;exact absurd rfl (h2 _ (List.mem_of_getElem? hj))
 ·obtain ⟨j',Cf⟩:=hone;rw [h1,huniq j j' u v h2 Cf]
theorem Vis.get {w:ZY} {b n:Nat} {L:List Lt} {ids:List Int} (h:Vis w b L n ids) {d:Int} (hd:I64 d) (ht:0 < tN L d n) :
  (Instr.lookup 146 (.map (Z b)) (D J d) E).run ZX w=.ok (.agg #[D J (zAw L d E n),D J (zAw L d Q n)]) w:=by
 obtain ⟨l,hl⟩:=zQp d hd;obtain ⟨j,hj,hje⟩:=List.getElem_of_mem ((h.mem d).2 ht);refine h.map.lookNo zGT Tryz.underlying146 zNa hl ⟨j,by rw [List.getElem?_map,List.getElem?_eq_getElem hj,hje];rfl⟩ (fun i j u u' hi hj=>?_);rw [List.getElem?_map] at hi hj;obtain ⟨d1,e1,f1⟩:=Option.map_eq_some_iff.1 hi;obtain ⟨d2,e2,f2⟩:=Option.map_eq_some_iff.1 hj;simp only [ent,Prod.mk.injEq,Value.int.injEq,true_and] at f1 f2;obtain ⟨rfl,rfl⟩:=f1;obtain ⟨rfl,rfl⟩:=f2;rfl
theorem zIe (d base p k:Nat) (A:Option Addr) (n c:Nat) (L:List Lt) (b g2 g3 g4 g6:Nat) (s:List Bool) (P C ids:List Int) (w:ZY) (h:DiaF w base p k A n c L b g2 g3 g4 g6 s P C ids) (hlt:d < 2*n) (hc:isC (la L (zBU n d))=Q) :
  Calls ZX 200 #[.pointer (Z ⟨p,0,U⟩),D J d] w fun e w'=>e=.returned (D J (zCe L (axL L) d))/\ZZ w.heap.size w w':=by
 have hn:=h.small;have hA:=h.lets;have g:=h.good;have cH:L.length=n:=hA.len;have hmp:=g.m_pos;have hml:(axL L).length<=n:=by rw [zFP,<-cH];exact zNF L _
 have hD:=h.ranks.dia;have c1:=hD.c1;have c3:=hD.c3;obtain ⟨m,hm⟩:∃m,m=(axL L).length:=⟨_,rfl⟩
 rw [<-hm] at hmp hml c3;obtain ⟨v,hv⟩:∃v,v=zBU n d:=⟨_,rfl⟩
 obtain ⟨e,he,hvn,hcase⟩:=zIL hlt hv;rw [<-hv] at hc;have hf:=g.left_cross (d:=d) (by omega) (by rw [cH,<-hv];exact hc);rw [cH,<-hv] at hf;have hov:zKa L v < n:=by rw [<-cH];exact zFg (g.other hc).2.1
 have hlast:=g.last hc;rw [cH] at hlast;have htp:0 < tN L (la L v).id n:=zKg (i:=v) hvn (by simp [hc]);have hI:=(hA.fits (la L v) (by unfold la;rw [List.getElem?_eq_getElem (by omega)];exact List.getElem_mem _)).id;have hk:(la L v).kind=2:=by unfold isC at hc;simpa using hc
 obtain ⟨gg,o,rfl,hgl,hx,_⟩:=hA.at_ hvn;obtain ⟨x0,x1,x2,x3,x4,x5⟩:=hx;have q0:decide ((2:Int)*(n:Int)<=(d:Int))=E:=by simp;omega
 have q6:((la L v).kind==1)=E:=by simp;omega
 have v0:(0:Int)<=(v:Int):=by omega
 have v1:(v:Int) < (n:Int):=by omega
 have l0:=hD.lt;have DQ:=qH hlast;have HVS:=qH h.vis;have uc:=qH hD;clear hv hc hk hm cH hD hlast
 cases hS:((la L v).sign==1)<;>cases hO:(la L v).over<;>rcases hcase with ⟨hp,hq⟩ | ⟨hp,hq⟩
 all_goals
  rw [hO,hS] at hf;rw [hO] at DQ;simp only [Bool.not_true,Bool.not_false] at DQ
  first
   | (have q2:((d:Int) % 2==0)=Q:=(by simp;omega)
      have oI:(d % 2==0)=Q:=(by simp;omega)
      rw [oI] at hf
      clear oI)
   | (have q2:((d:Int) % 2==0)=E:=(by simp;omega)
      have oI:(d % 2==0)=E:=(by simp;omega)
      rw [oI] at hf
      clear oI
      subst hq)
  have HF:=qH hf;clear hf hp;go_enter Tryz.func200,Tryz.ntmps200;go_wp2_with fail
  go_quiet (fail)
  generalize hwx:w.drewN nq=wx;have hbx:ZZ w.heap.size w wx:=by rw [<-hwx];exact zAg (M _ _) _
  have vq:=uc.out.next hbx;have y1:=vq.c1;have E7:=HVS.out.next hbx;have z0:=(hbx.cell (World.block_lt_of_cell? w _ x0)).trans x0;have z1:=(hbx.cell (World.block_lt_of_cell? w _ x1)).trans x1;have z2:=(hbx.cell (World.block_lt_of_cell? w _ x2)).trans x2;have z3:=(hbx.cell (World.block_lt_of_cell? w _ x3)).trans x3;have z4:=(hbx.cell (World.block_lt_of_cell? w _ x4)).trans x4;have z5:=(hbx.cell (World.block_lt_of_cell? w _ x5)).trans x5;have hzz:=hbx.size;have m0:p < wx.heap.size:=by omega
  clear hwx c1 c3 x0 x1 x2 x3 x4 x5;go_wp2_with fail
  generalize hW:wx.alloc _=ZO;have pZ:ZZ wx.heap.size wx ZO:=by rw [<-hW];exact (M _ _).alloc (O _) _
  have ny:ZO.heap.size=wx.heap.size+1:=by rw [<-hW];simp
  have j8:=vq.next pZ;have jL:=E7.next pZ;have u5:=j8.c5;have uD:=(jL.drew).get hI htp;have uC:=((jL.alloc (.cells #[D J 0,D J 0] 226)).drew).get hI htp;have w3:ZO.cell? ⟨wx.heap.size,3,U⟩=Z (D J (la L v).id):=by rw [<-hW];rw [(Blk.new wx 76 _).cell 3];rfl
  have w4:ZO.cell? ⟨wx.heap.size,4,U⟩=Z (D J (la L v).sign):=by rw [<-hW];rw [(Blk.new wx 76 _).cell 4];rfl
  have w5:ZO.cell? ⟨wx.heap.size,5,U⟩=Z (G (la L v).over):=by rw [hO];rw [<-hW];rw [(Blk.new wx 76 _).cell 5];rfl
  clear hW;go_region
  all_goals
   generalize hX2:(World.alloc ZO _).drew=X2;have bD:ZZ ZO.heap.size ZO X2:=by rw [<-hX2];exact ((M _ _).alloc (O _) _).drew
   have hpr:Blk X2 (wx.heap.size+1) 226 #[D J (zAw L (la L v).id E n),D J (zAw L (la L v).id Q n)]:=by rw [<-hX2,<-ny];exact (Blk.new ZO _ _).drew
   have r0:=hpr.cell 0;have r1:=hpr.cell 1;have s4:=(bD.cell (World.block_lt_of_cell? ZO _ w4)).trans w4;have s5:=(bD.cell (World.block_lt_of_cell? ZO _ w5)).trans w5;have hG:=j8.next bD;go_wp2_with fail
   rw [DQ.out];have ay:=zAa hbx pZ hbx.size;have ai:=zAa ay bD ay.size;clear uD uC j8 jL E7 vq u5 w3 w4 w5 y1 z0 z1 z2 z3 z4 z5 r0 r1 s4 s5 hpr bD pZ hbx
  all_goals
   first
    | (refine (zDZ (zKa L v) _ _ (by omega)).mono ?_
       rintro e w2 ⟨rfl,al⟩
       have bh:=zAa ai al ai.size
       go_wp2_with fail
       go_ret
       exact ⟨zCv (by rw [HF.out];simp [zCx]),bh⟩)
    | (refine (zDx (zKa L v) p (k:Int) (Z ⟨gg,o,U⟩) n c _ _ _ _ _ _ hG hov (by omega)).mono ?_
       rintro e w2 ⟨rfl,al⟩
       have bh:=zAa ai al ai.size
       go_wp2_with fail
       go_ret
       exact ⟨zCv (by rw [HF.out];simp),bh⟩)
theorem DiaF.next {w w':ZY} {base p k:Nat} {A:Option Addr} {n c:Nat} {L:List Lt} {b g2 g3 g4 g6:Nat} {s:List Bool} {P C ids:List Int} (h:DiaF w base p k A n c L b g2 g3 g4 g6 s P C ids) (hb:ZZ w.heap.size w w'):DiaF w' base p k A n c L b g2 g3 g4 g6 s P C ids :=
 ⟨⟨h.ranks.dia.next hb,h.ranks.down.below hb h.ranks.down.lt,h.ranks.axis.below hb h.ranks.axis.lt,h.ranks.place.below hb h.ranks.place.lt,h.ranks.count.below hb h.ranks.count.lt,h.ranks.downs,h.ranks.places,h.ranks.counts,h.ranks.ndown⟩,h.vis.next hb,h.lets.below hb,h.good,h.small⟩
theorem zSt (d base p k:Nat) (A:Option Addr) (n c:Nat) (L:List Lt) (b g2 g3 g4 g6:Nat) (s:List Bool) (P C ids:List Int) (w:ZY) (h:DiaF w base p k A n c L b g2 g3 g4 g6 s P C ids) (hd:d < zCO L) :
  Calls ZX 200 #[.pointer (Z ⟨p,0,U⟩),D J d] w fun e w'=>e=.returned (D J (zCe L (axL L) d))/\ZZ w.heap.size w w':=by
 have hl:=h.lets.len;rcases Nat.lt_or_ge d (2*n) with hlt | hge
 ·rcases h.good.kinds (zBU n d) (by rw [hl];exact zJi hlt) with hp | hc
  ·exact zJI d base p k A n c L b g2 g3 g4 g6 s P C ids w h hlt hp
  ·exact zIe d base p k A n c L b g2 g3 g4 g6 s P C ids w h hlt hc
 ·exact zJH d base p k A n c L b g2 g3 g4 g6 s P C ids w h hd hge
def unW (w:ZY) (g:Nat):Nat :=
 match w.heap[g]? with
 | some (.cells cs _ _)=>cs.toList.countP (fun v=>match v with | G b=>!b | _=>E)
 | _=>0
theorem OwnB.unW {w:ZY} {base g n:Nat} {s:List Bool} (h:OwnB w base g n s):unW w g=unN s:=by
 have hb:=h.blk;unfold Blk at hb;unfold Proofs.YtlmdfmnbcndhoaaGreatDoor.unW unN;rw [hb];simp only [List.countP_map];rfl
theorem Good.visits {K:Int} {L:List Lt} (g:Good K L):dN L L.length=cN L L.length / 2:=by
 refine zWw ?_;unfold zBK;simp only [Bool.and_eq_true,decide_eq_true_eq,zAL];exact ⟨g.ceven,g.cross⟩
theorem zVr {f:Nat->Nat} {k:Nat} {s:List Bool} {x:Nat} (h:sat s x=Q):zEC f k s x=([],s):=by
 cases k with
 | zero=>rfl
 | succ k=>unfold zEC;rw [qP h]
theorem zVs {f:Nat->Nat} {k:Nat} {s:List Bool} {x:Nat} (h:sat s x=E):zEC f (k+1) s x=(x :: (zEC f k (s.set x Q) (f x)).1,(zEC f k (s.set x Q) (f x)).2):=by
 conv=>lhs;unfold zEC
 rw [qN (by rw [h];simp)]
theorem zWX {f:Nat->Nat} {d k:Nat} {s:List Bool} (h:sat s d=Q):zCy f (List.range' d (k+1)) s=zCy f (List.range' (d+1) k) s:=by
 rw [List.range'_succ];conv=>lhs;unfold zCy
 rw [qP h]
theorem zYl {f:Nat->Nat} {d k:Nat} {s:List Bool} (h:sat s d=E):zCy f (List.range' d (k+1)) s=(zEC f s.length s d).1 :: zCy f (List.range' (d+1) k) (zEC f s.length s d).2:=by
 rw [List.range'_succ];conv=>lhs;unfold zCy
 rw [qN (by rw [h];simp)]
theorem zNb (base p k:Nat) (A:Option Addr) (n c:Nat) (L:List Lt) (b g2 g3 g4 g6:Nat) (s:List Bool) (P C ids:List Int) (w:ZY) (h:DiaF w base p k A n c L b g2 g3 g4 g6 s P C ids) :
  Calls ZX 179 #[.pointer (Z ⟨p,0,U⟩)] w fun e w'=>e=.returned (G (zLn L))/\ZZ w.heap.size w w':=by
 have EW:=h.small;have cH:=qH h.lets.len;have hD:=h.ranks.dia;obtain ⟨m,hm⟩:∃m,m=(axL L).length:=⟨_,rfl⟩
 have hmn:m<=n:=by rw [hm,zFP,cH.out];exact zNF L n
 obtain ⟨N,hN⟩:∃N,N=zCO L:=⟨_,rfl⟩
 have Fp:N=2*n+2*m:=by rw [hN,hm];unfold zCO;rw [cH.out]
 have CI:N<=17592186044416:=by omega
 have c1:=hD.c1;have c3:=hD.c3;rw [<-hm] at c3;have HM:=qH hm;have HN:=qH hN;have tY:=qH Fp;have hW:Hid (0+(zCy (zCe L (axL L)) (List.range' 0 (N-0)) (List.replicate N E)).length=(zHb L).length):=by
  show _=_;rw [Nat.zero_add,Nat.sub_zero,<-List.range_eq_range',hN];rfl
 clear hm hN Fp hD;go_enter Tryz.func179,Tryz.ntmps179;go_wp2_with fail
 go_quiet (fail)
 generalize hwx:w.drewN nq=wx;have hbx:ZZ w.heap.size w wx:=by rw [<-hwx];exact zAg (M _ _) _
 have hzx:w.heap.size=wx.heap.size:=by rw [<-hwx];rfl
 have hHZ:=qH hzx;clear hwx hzx;go_wp2_with (at_make;refine zPa rfl _ _ rfl N _ rfl rfl (by have:=tY.out;omega) CI (O _) ?_;rw [<-hHZ.out];intro ws up hbs0' hzs)
 have yv:ZZ w.heap.size w ws:=hbx.trans hbs0';clear c1 c3 hbs0' hbx;go_loopw [5,6,7,25] (fun v5 _ _ v25 wr=>∃(d q:Nat) (s':List Bool),d<=N/\q<=d/\v25=D J d/\v5=D J q/\OwnB wr w.heap.size w.heap.size N s'/\ZZ w.heap.size w wr/\Hid (q+(zCy (zCe L (axL L)) (List.range' d (N-d)) s').length=(zHb L).length)) (fun _ _ _ v25 _=>N-(intOf v25).toNat)
 case atStart=>exact ⟨0,0,List.replicate N E,Nat.zero_le _,O _,rfl,rfl,up,yv,hW⟩
 case round =>
  obtain ⟨d,q,s',hd,hqd,rfl,rfl,hs,hbw,HW⟩:=hrel;clear up hW yv;by_cases hdN:d < N
  ·have hcs:=hs.cell hdN;have i0:(0:Int)<=(d:Int):=by omega
   have i1:(d:Int) < (N:Int):=by omega
   have i2:(d:Int) < 2*(n:Int)+2*(m:Int):=by have:=tY.out;omega
   cases hsd:sat s' d with
   | true =>
    rw [hsd] at hcs
    have HW':=qH (show q+(zCy (zCe L (axL L)) (List.range' (d+1) (N-(d+1))) s').length=(zHb L).length by
     rw [<-HW.out,show N-d=N-(d+1)+1 by omega,zWX hsd])
    clear hsd HW;go_wp2_with fail
    go_roundw
    case rel=>exact ⟨d+1,q,s',by omega,by omega,by go_num,rfl,hs,hbw,HW'⟩
    case measure=>simp [intOf];omega
   | false =>
    rw [hsd] at hcs
    have Fu:=qH (show q+1+(zCy (zCe L (axL L)) (List.range' (d+1) (N-(d+1))) (zEC (zCe L (axL L)) N s' d).2).length=(zHb L).length by
     rw [<-HW.out,show N-d=N-(d+1)+1 by omega,zYl hsd,hs.len];simp;omega)
    clear hsd HW;have hu0:unN s'<=N:=by rw [<-hs.len];exact zWy s'
    go_wp2_with fail
    obtain ⟨wo,rfl⟩:∃wo:ZY,wo=wr:=⟨_,rfl⟩
    go_loopw [7] (fun v7 wi=>∃(x k:Nat) (si:List Bool),x < N/\v7=D J x/\OwnB wi w.heap.size w.heap.size N si/\ZZ w.heap.size w wi/\unN si<=k/\Hid ((zEC (zCe L (axL L)) k si x).2=(zEC (zCe L (axL L)) N s' d).2)) (fun _ wi=>unW wi w.heap.size)
    case atStart=>exact ⟨d,N,s',hdN,rfl,hs,hbw,hu0,qH rfl⟩
    case round =>
     obtain ⟨x,k',si,hx,rfl,hsi,hbi,huk,HP⟩:=hrel;have j0:(0:Int)<=(x:Int):=by omega
     have j1:(x:Int) < (N:Int):=by omega
     have hcx:=hsi.cell hx;have hfx:=hsi.frozen x
     cases hsx:sat si x with
     | true =>
      rw [hsx] at hcx;have vo:=HP.out;rw [zVr hsx] at vo
      have CU:=qH (show q+1+(zCy (zCe L (axL L)) (List.range' (d+1) (N-(d+1))) si).length=(zHb L).length by
       rw [<-Fu.out,<-vo])
      clear hsx HP vo Fu hs hbw;go_wp2_with fail
      go_roundw
      case rel=>exact ⟨d+1,q+1,si,by omega,by omega,by go_num,by go_num,hsi,hbi,CU⟩
      case measure=>simp [intOf];omega
     | false =>
      rw [hsx] at hcx;obtain ⟨k',rfl⟩:∃k'',k'=k''+1:=⟨k'-1,by have:=zUH hsx;omega⟩
      have hus:=zLH hsx;have vo:=HP.out;rw [zVs hsx] at vo;have zO:=qH vo;clear hsx HP vo;have BU:=hsi.stored x Q;have gM:=hbi.setCell (p:=⟨w.heap.size,x,U⟩) (O _) (G Q);have th:zCe L (axL L) x < N:=by rw [HN.out];exact h.good.into (by rw [<-HN.out];exact hx)
      have hu1:=hsi.unW;go_wp2_with fail
      refine (zSt x base p k A n c L b g2 g3 g4 g6 s P C ids _ (h.next gM) (by rw [<-HN.out];exact hx)).mono ?_;rintro e w5 ⟨rfl,az⟩;have Ax:=BU.below az BU.lt;have Cq:=zAa gM az gM.size;have hu5:=Ax.unW;clear BU gM az hcx hfx hcs;generalize zCe L (axL L) x=x' at th zO ⊢;go_wp2_with fail
      go_roundw
      case rel=>exact ⟨x',k',si.set x Q,th,rfl,Ax,Cq,by omega,zO⟩
      case measure=>simp only [hu5,hu1];omega
  ·have i3:¬(d:Int) < 2*(n:Int)+2*(m:Int):=by have:=tY.out;omega
   obtain rfl:N=d:=by omega
   have vd:q=(zHb L).length:=by
    have:=HW.out;rw [Nat.sub_self] at this;simpa [zCy] using this
   have HQ:=qH vd;clear vd HW;have hF:=h.next hbw;have e1:=hF.ranks.dia.c3;rw [<-HM.out] at e1;have e4:=hF.ranks.dia.c5;have ik:=(hF.vis.drew).run_len 3;have hlen:ids.length=cN L n / 2:=by
    have h1:=hF.vis.len;have h2:=hF.good.visits;rw [cH.out] at h2;rw [h1,h2]
   have hcn:=zRD L n;have hi1:ids.length<=1000:=by omega
   have hf:=qH (show zLn L=decide ((q:Int)=(m:Int)+(ids.length:Int)+2) by
    unfold zLn
    rw [<-HQ.out,hlen,HM.out,zFP,cH.out,Bool.eq_iff_iff]
    simp only [beq_iff_eq,decide_eq_true_eq]
    omega)
   clear hlen hF;go_wp2_with fail
   go_region
   all_goals
    go_wp2_with fail
    go_ret;exact ⟨zAm (by rw [hf.out];rfl),hbw.drew⟩
