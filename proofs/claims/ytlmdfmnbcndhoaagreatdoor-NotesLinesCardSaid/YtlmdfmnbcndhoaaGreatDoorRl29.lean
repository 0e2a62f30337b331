/-
  Lemmas, part 29. Conditions: each theorem's own.
-/
import Derived.Test.YtlmdfmnbcndhoaaGreatDoorRl27
import Derived.Test.YtlmdfmnbcndhoaaGreatDoorRl28
namespace Go.Proofs.YtlmdfmnbcndhoaaGreatDoor
open Go.RowKit
def zPL (w:World) (p:Nat) (K:Int) (A:Option Addr) (n c:Nat) (L:List Lt) (v2 v3 v4 v6:Value) (e:Ending) (w':World):Prop :=
 e=.returned (.bool (zBz L))∧w.grownBy w' (some p)∧(zBz L=true→∃b ids,w.heap.size≤b∧Dia w' p K A n c v2 v3 v4 (.map (some b)) v6∧Vis w' b L n ids)
theorem zGB {a b c:World} {row:Option Nat} {g:Nat} (h:a.grownBy b row) (k:b.grownBy c (some g)) (hg:a.heap.size≤g):a.grownBy c row :=
 ⟨k.os.trans h.os,k.tape.trans h.tape,k.output.trans h.output,Nat.le_trans h.size k.size,fun j hj hne=>(k.block j (Nat.lt_of_lt_of_le hj h.size) (by simp;omega)).trans (h.block j hj hne)⟩
theorem zCT {L:List Lt} {n i:Nat} (hL:L.length=n) (hi:i < n) (h:crB L i=false):zBz L=false:=by
 unfold zBz;rw [hL,zEw hi h,Bool.and_false]
set_option maxRecDepth 100000 in
set_option maxHeartbeats 6400000 in
theorem zFd (p:Nat) (K:Int) (A:Option Addr) (n c:Nat) (L:List Lt) (v2 v3 v4 v5 v6:Value) (w:World) (hA:Lets w A n L) (hn:n≤400)
  (ik:∀a,A=some a→p≠a.block) (hd:Dia w p K A n c v2 v3 v4 v5 v6) :
  Calls Tryz.prog 178 #[.pointer (some ⟨p,0,none⟩)] w (zPL w p K A n c L v2 v3 v4 v6):=by
 have HL:=qH hA.len;have c0:=hd.c0;have c1:=hd.c1;have hcn:=zQU L n;have hplt:=hd.lt;by_cases he:cN L n % 2=0
 ·have he1:((cN L n:Int) % 2 != 0)=false:=by simp;omega
  have HE:=qH he;clear he;have hmm:=@run_makeMap Tryz.prog;go_enter Tryz.func178,Tryz.ntmps178;go_wp2_with fail
  refine (zBs K A n c L _ hA).mono ?_;rintro e w1 ⟨rfl,ay⟩;have hd1:=hd.next ay;have a1:=hd1.c1;have a5:=hd1.c5;have f5:=hd1.frozen 5;have be:=ay.size;have pu:=hd1.lt;have pV:=(hd1.set5 (.map (some w1.heap.size))).alloc (.map #[] 0);have zQ:Vis ((w1.setCell ⟨p,5,none⟩ (.map (some w1.heap.size))).alloc (.map #[] 0)) w1.heap.size L 0 []:=by
   have:=Vis.made (w1.setCell ⟨p,5,none⟩ (.map (some w1.heap.size))) L
   rwa [show (w1.setCell ⟨p,5,none⟩ (.map (some w1.heap.size))).heap.size=w1.heap.size by simp] at this
  have ip:w.grownBy ((w1.setCell ⟨p,5,none⟩ (.map (some w1.heap.size))).alloc (.map #[] 0)) (some p):=zBg (zAh (zCW ay _) (p:=⟨p,5,none⟩) (.inl rfl) _) _;go_wp2_with fail
  have hwb:w.heap.size≤w1.heap.size:=be;generalize w1.heap.size=b at pV zQ ip hwb ⊢;generalize (w1.setCell ⟨p,5,none⟩ (.map (some b))).alloc (.map #[] 0)=ws at pV zQ ip ⊢;have hst:Hid (∀j,j < 0→crB L j=true):=qH (fun j hj=>by omega);clear hd1 a1 a5 f5 hmm be pu c0 c1 ay;go_loopw [4,5,6,7,8,27] (fun _ _ _ _ _ s27 wr=>∃(i:Nat) (ids:List Int),i≤n∧s27=.int .i64 i∧Dia wr p K A n c v2 v3 v4 (.map (some b)) v6∧Vis wr b L i ids∧w.grownBy wr (some p)∧Hid (∀j,j < i→crB L j=true)) (fun _ _ _ _ _ s27 _=>n-(intOf s27).toNat)
  case atStart=>exact ⟨0,[],Nat.zero_le _,rfl,pV,zQ,ip,hst⟩
  case round =>
   obtain ⟨i,ids,hi,rfl,hD,hV,hg,HC⟩:=hrel;clear pV zQ ip hst;have fe:=hA.growG hg (fun a ha e=>ik a ha (by injection e));by_cases hlt:i < n
   ·obtain ⟨g,o,rfl,hgl,hx,hok⟩:=fe.at_ hlt;obtain ⟨h0,h1,h2,h3,h4,h5⟩:=hx;have i0:(0:Int)≤(i:Int):=by omega
    have i1:(i:Int) < (n:Int):=by omega
    by_cases hk:(la L i).kind=2
    ·have hc:=zQS hk;have aq:((la L i).kind != 2)=false:=by simpa using hk
     have hid:=qH hok.id;have id1:=hid.out.1;have id2:=hid.out.2;have pp:=qH hc;clear hk hc
     cases q1:decide ((la L i).id < 1) with
     | true =>
      have zL:(la L i).id < 1:=by simpa using q1
      have hf:=qH (zCT (L:=L) HL.out hlt (by
       cases hq:crB L i with
       | false=>rfl
       | true=>have:=(zBm.1 hq pp.out).1.1;omega))
      clear HC;go_wp2_with fail
      go_ret;exact ⟨zAk hf.out.symm,zBg hg _,fun h=>by rw [hf.out] at h;cases h⟩
     | false =>
      have zL:¬(la L i).id < 1:=by simpa using q1
      cases q2:decide (((cN L n:Nat):Int) / 2 < (la L i).id) with
      | true =>
       have zJ:((cN L n:Nat):Int) / 2 < (la L i).id:=by simpa using q2
       have hf:=qH (zCT (L:=L) HL.out hlt (by
        cases hq:crB L i with
        | false=>rfl
        | true=>have:=(zBm.1 hq pp.out).1.2;rw [HL.out] at this;omega))
       clear HC;go_wp2_with fail
       go_ret;exact ⟨zAk hf.out.symm,zBg hg _,fun h=>by rw [hf.out] at h;cases h⟩
      | false =>
       have zJ:¬((cN L n:Nat):Int) / 2 < (la L i).id:=by simpa using q2
       have hcr:=qH (zUD (L:=L) (i:=i) HC.out pp.out (by rw [HL.out];omega));go_wp2_with fail
       generalize hW:World.alloc wr _=W;have pz:Below wr.heap.size wr W:=by rw [←hW];exact (Below.refl _ _).alloc (Nat.le_refl _) _
       have mX:W.heap.size=wr.heap.size+1:=by rw [←hW];simp
       have hblk:Blk W wr.heap.size 76 #[.int .i64 (la L i).kind,.int .i64 (la L i).gate,.int .i64 (la L i).rank,.int .i64 (la L i).id,.int .i64 (la L i).sign,.bool (la L i).over]:=by rw [←hW];exact Blk.new wr _ _
       have jI:=hD.next pz;have jn:=hV.next pz;have jE:=zAo hg pz hg.size;have jo:=fe.below pz;have b3:=hblk.cell 3;have b4:=hblk.cell 4;have b5:=hblk.cell 5;simp at b3 b4 b5;have u1:=jI.c1;have u5:=jI.c5;have m0:=jI.lt;have m1:=jn.lt;have m2:=hblk.lt;clear hW pz hD hV hg fe h0 h1 h2 h3 h4 h5 aq;have yg:=jI.alloc (.cells #[.int .i64 0,.int .i64 0] 226);have w5:=yg.c5;have hbp:=hblk.alloc (.cells #[.int .i64 0,.int .i64 0] 226);have w3:(W.alloc (.cells #[.int .i64 0,.int .i64 0] 226)).cell? ⟨wr.heap.size,3,none⟩=some (.int .i64 (la L i).id):=by rw [hbp.cell 3];rfl
       by_cases ht:tN L (la L i).id i=0
       ·have uc:=(jn.drew).lookNo hid.out ht;have ub:=((jn.alloc (.cells #[.int .i64 0,.int .i64 0] 226)).drew).lookNo hid.out ht;have ep:=qH ht;clear ht;have gL:=qH (show zAv L (la L i).id false i = -1 by have h1:=zBR L (la L i).id false i;have h2:=zJk (L:=L) (d:=(la L i).id) (i:=i);rw [ep.out] at h2;omega);have nA:=qH (show zAv L (la L i).id true i = -1 by have h1:=zBR L (la L i).id true i;have h2:=zJk (L:=L) (d:=(la L i).id) (i:=i);rw [ep.out] at h2;omega);go_region
        all_goals
         cases hov:(la L i).over with
         | false =>
          go_wp2_with fail
          have bY:=qH hov;generalize hX:(World.alloc W _).drew=X2;have bh:Below W.heap.size W X2:=by rw [←hX];exact ((Below.refl _ _).alloc (Nat.le_refl _) _).drew
          have hpr:Blk X2 (wr.heap.size+1) 226 #[.int .i64 (zAv L (la L i).id false i),.int .i64 (zAv L (la L i).id true i)]:=by rw [gL.out,nA.out,←hX,←mX];exact (Blk.new W _ _).drew
          have gI:=jI.next bh;have oO:=jn.next bh;have fK:=zAo jE bh jE.size;have iw:=jo.below bh;have cz:=hblk.below bh m2;have ut:b < wr.heap.size+1:=by omega
          have tP:p < wr.heap.size+1:=by omega
          have tI:w.heap.size≤wr.heap.size+1:=by have:=jE.size;omega
          clear hX bh jI jn jE jo hblk b3 b4 b5 u1 u5 m0 m1 m2 yg w5 hbp w3 uc ub hov;obtain ⟨x,hx⟩:∃x,x=zAv L (la L i).id false i:=⟨_,rfl⟩
          obtain ⟨y,hy⟩:∃y,y=zAv L (la L i).id true i:=⟨_,rfl⟩
          have hxb:=zBR L (la L i).id false i;have hyb:=zBR L (la L i).id true i;rw [←hx] at hpr hxb;rw [←hy] at hpr hyb;have ph:=qH hx;have kS:=qH hy;clear hx hy;have gm:=qH (show crT L i↔(x < 0∧(0≤y→(la L y.toNat).sign=(la L i).sign)) by unfold crT;rw [bY.out,ph.out,kS.out];rfl);have r0:X2.cell? ⟨wr.heap.size+1,0,none⟩=some (.int .i64 x):=by rw [hpr.cell 0];rfl
          have r1:X2.cell? ⟨wr.heap.size+1,1,none⟩=some (.int .i64 y):=by rw [hpr.cell 1];rfl
          have s3:X2.cell? ⟨wr.heap.size,3,none⟩=some (.int .i64 (la L i).id):=by rw [cz.cell 3];rfl
          have s4:X2.cell? ⟨wr.heap.size,4,none⟩=some (.int .i64 (la L i).sign):=by rw [cz.cell 4];rfl
          have u1:=gI.c1;have u5:=gI.c5;have n2:=hpr.lt;have n3:=cz.lt;have gG:x < 0:=by rw [ph.out,gL.out];decide
          have hy1:y < 0:=by rw [kS.out,nA.out];decide
          have hxd:decide (0≤x)=false:=by simp;omega
          have hgood:=qH (hcr.out.2 (gm.out.2 ⟨gG,fun h=>by omega⟩))
          have hs:=qH (show ∀j,j < i+1→crB L j=true from fun j hj=>by
           rcases Nat.decEq j i with e | e
           ·exact HC.out j (by omega)
           ·subst e;exact hgood.out)
          have hvis:zFa L (la L i).id false i=true:=zBq.2 ⟨pp.out,rfl,bY.out⟩;have d9:zFa L (la L i).id true i=false:=by unfold zFa;rw [bY.out];simp
          have E1:=qH (zFc hvis);have E2:=qH ((zBw d9).trans kS.out.symm);clear hvis d9 HC;go_wp2_with fail
          go_quiet (fail)
          generalize hX3:X2.drewN nq=X3;have bH:Below X2.heap.size X2 X3:=by rw [←hX3];exact zAf (Below.refl _ _) _
          have oS:=gI.next bH;have oP:=oO.next bH;have ip:=zAo fK bH fK.size;have dv:=cz.below bH n3;have gh:=hpr.below bH n2;have t0:X3.cell? ⟨wr.heap.size+1,0,none⟩=some (.int .i64 x):=by rw [gh.cell 0];rfl
          have t1:X3.cell? ⟨wr.heap.size+1,1,none⟩=some (.int .i64 y):=by rw [gh.cell 1];rfl
          have tf:=gh.frozen 0;have kB:=oP.setCell (p:=⟨wr.heap.size+1,0,none⟩) (by simp;omega) (.int .i64 (i:Int));have iu:=oS.far (q:=⟨wr.heap.size+1,0,none⟩) (by simp;omega) (.int .i64 (i:Int));have eI:=dv.far (p:=⟨wr.heap.size+1,0,none⟩) (by simp) (.int .i64 (i:Int));have il:=gh.set_ 0 (.int .i64 (i:Int));have iF:=zAh ip (p:=⟨wr.heap.size+1,0,none⟩) (.inr (by simp;omega)) (.int .i64 (i:Int));generalize mx:X3.setCell ⟨wr.heap.size+1,0,none⟩ (.int .i64 (i:Int))=X4 at kB iu eI il iF;obtain ⟨X5,kt,hput,uG,mv⟩:=(kB.drew).store pp.out hid.out;rw [E1.out,E2.out] at hput;clear hX3 bH gI oO fK iw cz hpr r0 r1 s3 s4 u1 u5 n2 n3;go_wp2_with fail
          try rw [mx]
          have k0:X4.cell? ⟨wr.heap.size+1,0,none⟩=some (.int .i64 (i:Int)):=by rw [il.cell 0];rfl
          have k1:X4.cell? ⟨wr.heap.size+1,1,none⟩=some (.int .i64 y):=by rw [il.cell 1];rfl
          have k3:X4.cell? ⟨wr.heap.size,3,none⟩=some (.int .i64 (la L i).id):=by rw [eI.cell 3];rfl
          have k5:=iu.c5;have uR:=(iu.drew:Dia X4.drew p K _ n c v2 v3 v4 _ v6);have hpb:p≠b:=by have:=hplt;omega
          have uQ:Dia X5 p K _ n c v2 v3 v4 _ v6:=Blk.grown uR mv (by simp;omega);have uh:w.grownBy X5 (some p):=zGB (zBA iF) mv hwb;clear mx kB iu eI il iF oP oS dv gh ip t0 t1 tf;go_region
          all_goals
           go_wp2_with fail
           go_roundw
           case rel=>exact ⟨i+1,kt,by omega,by go_num,uQ,uG,uh,hs⟩
           case measure=>simp [intOf];omega
         | true =>
          go_wp2_with fail
          have bY:=qH hov;generalize hX:(World.alloc W _).drew=X2;have bh:Below W.heap.size W X2:=by rw [←hX];exact ((Below.refl _ _).alloc (Nat.le_refl _) _).drew
          have hpr:Blk X2 (wr.heap.size+1) 226 #[.int .i64 (zAv L (la L i).id false i),.int .i64 (zAv L (la L i).id true i)]:=by rw [gL.out,nA.out,←hX,←mX];exact (Blk.new W _ _).drew
          have gI:=jI.next bh;have oO:=jn.next bh;have fK:=zAo jE bh jE.size;have iw:=jo.below bh;have cz:=hblk.below bh m2;have ut:b < wr.heap.size+1:=by omega
          have tP:p < wr.heap.size+1:=by omega
          have tI:w.heap.size≤wr.heap.size+1:=by have:=jE.size;omega
          clear hX bh jI jn jE jo hblk b3 b4 b5 u1 u5 m0 m1 m2 yg w5 hbp w3 uc ub hov;obtain ⟨x,hx⟩:∃x,x=zAv L (la L i).id true i:=⟨_,rfl⟩
          obtain ⟨y,hy⟩:∃y,y=zAv L (la L i).id false i:=⟨_,rfl⟩
          have hxb:=zBR L (la L i).id true i;have hyb:=zBR L (la L i).id false i;rw [←hx] at hpr hxb;rw [←hy] at hpr hyb;have ph:=qH hx;have kS:=qH hy;clear hx hy;have gm:=qH (show crT L i↔(x < 0∧(0≤y→(la L y.toNat).sign=(la L i).sign)) by unfold crT;rw [bY.out,ph.out,kS.out];rfl);have r0:X2.cell? ⟨wr.heap.size+1,0,none⟩=some (.int .i64 y):=by rw [hpr.cell 0];rfl
          have r1:X2.cell? ⟨wr.heap.size+1,1,none⟩=some (.int .i64 x):=by rw [hpr.cell 1];rfl
          have s3:X2.cell? ⟨wr.heap.size,3,none⟩=some (.int .i64 (la L i).id):=by rw [cz.cell 3];rfl
          have s4:X2.cell? ⟨wr.heap.size,4,none⟩=some (.int .i64 (la L i).sign):=by rw [cz.cell 4];rfl
          have u1:=gI.c1;have u5:=gI.c5;have n2:=hpr.lt;have n3:=cz.lt;have gG:x < 0:=by rw [ph.out,nA.out];decide
          have hy1:y < 0:=by rw [kS.out,gL.out];decide
          have hxd:decide (0≤x)=false:=by simp;omega
          have hgood:=qH (hcr.out.2 (gm.out.2 ⟨gG,fun h=>by omega⟩))
          have hs:=qH (show ∀j,j < i+1→crB L j=true from fun j hj=>by
           rcases Nat.decEq j i with e | e
           ·exact HC.out j (by omega)
           ·subst e;exact hgood.out)
          have hvis:zFa L (la L i).id true i=true:=zBq.2 ⟨pp.out,rfl,bY.out⟩;have d9:zFa L (la L i).id false i=false:=by unfold zFa;rw [bY.out];simp
          have E1:=qH (zFc hvis);have E2:=qH ((zBw d9).trans kS.out.symm);clear hvis d9 HC;go_wp2_with fail
          go_quiet (fail)
          generalize hX3:X2.drewN nq=X3;have bH:Below X2.heap.size X2 X3:=by rw [←hX3];exact zAf (Below.refl _ _) _
          have oS:=gI.next bH;have oP:=oO.next bH;have ip:=zAo fK bH fK.size;have dv:=cz.below bH n3;have gh:=hpr.below bH n2;have t0:X3.cell? ⟨wr.heap.size+1,0,none⟩=some (.int .i64 y):=by rw [gh.cell 0];rfl
          have t1:X3.cell? ⟨wr.heap.size+1,1,none⟩=some (.int .i64 x):=by rw [gh.cell 1];rfl
          have tf:=gh.frozen 1;have kB:=oP.setCell (p:=⟨wr.heap.size+1,1,none⟩) (by simp;omega) (.int .i64 (i:Int));have iu:=oS.far (q:=⟨wr.heap.size+1,1,none⟩) (by simp;omega) (.int .i64 (i:Int));have eI:=dv.far (p:=⟨wr.heap.size+1,1,none⟩) (by simp) (.int .i64 (i:Int));have il:=gh.set_ 1 (.int .i64 (i:Int));have iF:=zAh ip (p:=⟨wr.heap.size+1,1,none⟩) (.inr (by simp;omega)) (.int .i64 (i:Int));generalize mx:X3.setCell ⟨wr.heap.size+1,1,none⟩ (.int .i64 (i:Int))=X4 at kB iu eI il iF;obtain ⟨X5,kt,hput,uG,mv⟩:=(kB.drew).store pp.out hid.out;rw [E2.out,E1.out] at hput;clear hX3 bH gI oO fK iw cz hpr r0 r1 s3 s4 u1 u5 n2 n3;go_wp2_with fail
          try rw [mx]
          have k0:X4.cell? ⟨wr.heap.size+1,0,none⟩=some (.int .i64 y):=by rw [il.cell 0];rfl
          have k1:X4.cell? ⟨wr.heap.size+1,1,none⟩=some (.int .i64 (i:Int)):=by rw [il.cell 1];rfl
          have k3:X4.cell? ⟨wr.heap.size,3,none⟩=some (.int .i64 (la L i).id):=by rw [eI.cell 3];rfl
          have k5:=iu.c5;have uR:=(iu.drew:Dia X4.drew p K _ n c v2 v3 v4 _ v6);have hpb:p≠b:=by have:=hplt;omega
          have uQ:Dia X5 p K _ n c v2 v3 v4 _ v6:=Blk.grown uR mv (by simp;omega);have uh:w.grownBy X5 (some p):=zGB (zBA iF) mv hwb;clear mx kB iu eI il iF oP oS dv gh ip t0 t1 tf;go_region
          all_goals
           go_wp2_with fail
           go_roundw
           case rel=>exact ⟨i+1,kt,by omega,by go_num,uQ,uG,uh,hs⟩
           case measure=>simp [intOf];omega
       ·have zT:0 < tN L (la L i).id i:=by omega
        have uc:=(jn.drew).lookYes hid.out zT;have ub:=((jn.alloc (.cells #[.int .i64 0,.int .i64 0] 226)).drew).lookYes hid.out zT;have ep:=qH zT;clear ht zT;go_region
        all_goals
         cases hov:(la L i).over with
         | false =>
          go_wp2_with fail
          have bY:=qH hov;generalize hX:(World.alloc W _).drew=X2;have bh:Below W.heap.size W X2:=by rw [←hX];exact ((Below.refl _ _).alloc (Nat.le_refl _) _).drew
          have hpr:Blk X2 (wr.heap.size+1) 226 #[.int .i64 (zAv L (la L i).id false i),.int .i64 (zAv L (la L i).id true i)]:=by rw [←hX,←mX];exact (Blk.new W _ _).drew
          have gI:=jI.next bh;have oO:=jn.next bh;have fK:=zAo jE bh jE.size;have iw:=jo.below bh;have cz:=hblk.below bh m2;have ut:b < wr.heap.size+1:=by omega
          have tP:p < wr.heap.size+1:=by omega
          have tI:w.heap.size≤wr.heap.size+1:=by have:=jE.size;omega
          clear hX bh jI jn jE jo hblk b3 b4 b5 u1 u5 m0 m1 m2 yg w5 hbp w3 uc ub hov;obtain ⟨x,hx⟩:∃x,x=zAv L (la L i).id false i:=⟨_,rfl⟩
          obtain ⟨y,hy⟩:∃y,y=zAv L (la L i).id true i:=⟨_,rfl⟩
          have hxb:=zBR L (la L i).id false i;have hyb:=zBR L (la L i).id true i;rw [←hx] at hpr hxb;rw [←hy] at hpr hyb;have ph:=qH hx;have kS:=qH hy;clear hx hy;have gm:=qH (show crT L i↔(x < 0∧(0≤y→(la L y.toNat).sign=(la L i).sign)) by unfold crT;rw [bY.out,ph.out,kS.out];rfl);have r0:X2.cell? ⟨wr.heap.size+1,0,none⟩=some (.int .i64 x):=by rw [hpr.cell 0];rfl
          have r1:X2.cell? ⟨wr.heap.size+1,1,none⟩=some (.int .i64 y):=by rw [hpr.cell 1];rfl
          have s3:X2.cell? ⟨wr.heap.size,3,none⟩=some (.int .i64 (la L i).id):=by rw [cz.cell 3];rfl
          have s4:X2.cell? ⟨wr.heap.size,4,none⟩=some (.int .i64 (la L i).sign):=by rw [cz.cell 4];rfl
          have u1:=gI.c1;have u5:=gI.c5;have n2:=hpr.lt;have n3:=cz.lt
          cases q3:decide (0≤x) with
          | true =>
           have Br:0≤x:=by simpa using q3
           have hf:=qH (zCT (L:=L) HL.out hlt (by
            cases hq:crB L i with
            | false=>rfl
            | true=>have:=gm.out.1 (hcr.out.1 hq);omega))
           clear HC;go_wp2_with fail
           go_quiet (fail)
           go_wp2_with fail
           go_ret;exact ⟨zAk hf.out.symm,zBv fK _,fun h=>by rw [hf.out] at h;cases h⟩
          | false =>
           have Br:¬0≤x:=by simpa using q3
           have Bv:0≤y:=by
            have:=zJk.2 ep.out;rw [←ph.out,←kS.out] at this;omega
           obtain ⟨j,rfl⟩:∃j:Nat,y=(j:Int):=⟨y.toNat,by omega⟩
           have hjn:j < n:=by omega
           have cj:=(iw.also hjn).1.sign;have j1:(j:Int) < (n:Int):=by omega
           cases q4:((la L j).sign != (la L i).sign) with
           | true =>
            have hf:=qH (zCT (L:=L) HL.out hlt (by
             cases hq:crB L i with
             | false=>rfl
             | true=>have:=gm.out.1 (hcr.out.1 hq);have h2:=this.2 Bv;rw [Int.toNat_natCast] at h2;rw [h2] at q4;simp at q4))
            clear HC;go_wp2_with fail
            go_quiet (fail)
            go_wp2_with fail
            go_ret;exact ⟨zAk hf.out.symm,zBv fK _,fun h=>by rw [hf.out] at h;cases h⟩
           | false =>
            have hgood:=qH (hcr.out.2 (gm.out.2 ⟨by omega,fun _=>by rw [Int.toNat_natCast];simpa using q4⟩))
            have hs:=qH (show ∀j,j < i+1→crB L j=true from fun j hj=>by
             rcases Nat.decEq j i with e | e
             ·exact HC.out j (by omega)
             ·subst e;exact hgood.out)
            have hvis:zFa L (la L i).id false i=true:=zBq.2 ⟨pp.out,rfl,bY.out⟩;have d9:zFa L (la L i).id true i=false:=by unfold zFa;rw [bY.out];simp
            have E1:=qH (zFc hvis);have E2:=qH ((zBw d9).trans kS.out.symm);clear hvis d9 HC;go_wp2_with fail
            go_quiet (fail)
            generalize hX3:X2.drewN nq=X3;have bH:Below X2.heap.size X2 X3:=by rw [←hX3];exact zAf (Below.refl _ _) _
            have oS:=gI.next bH;have oP:=oO.next bH;have ip:=zAo fK bH fK.size;have dv:=cz.below bH n3;have gh:=hpr.below bH n2;have t0:X3.cell? ⟨wr.heap.size+1,0,none⟩=some (.int .i64 x):=by rw [gh.cell 0];rfl
            have t1:X3.cell? ⟨wr.heap.size+1,1,none⟩=some (.int .i64 (j:Int)):=by rw [gh.cell 1];rfl
            have tf:=gh.frozen 0;have kB:=oP.setCell (p:=⟨wr.heap.size+1,0,none⟩) (by simp;omega) (.int .i64 (i:Int));have iu:=oS.far (q:=⟨wr.heap.size+1,0,none⟩) (by simp;omega) (.int .i64 (i:Int));have eI:=dv.far (p:=⟨wr.heap.size+1,0,none⟩) (by simp) (.int .i64 (i:Int));have il:=gh.set_ 0 (.int .i64 (i:Int));have iF:=zAh ip (p:=⟨wr.heap.size+1,0,none⟩) (.inr (by simp;omega)) (.int .i64 (i:Int));generalize mx:X3.setCell ⟨wr.heap.size+1,0,none⟩ (.int .i64 (i:Int))=X4 at kB iu eI il iF;obtain ⟨X5,kt,hput,uG,mv⟩:=(kB.drew).store pp.out hid.out;rw [E1.out,E2.out] at hput;clear hX3 bH gI oO fK iw cz hpr r0 r1 s3 s4 u1 u5 n2 n3;go_wp2_with fail
            try rw [mx]
            have k0:X4.cell? ⟨wr.heap.size+1,0,none⟩=some (.int .i64 (i:Int)):=by rw [il.cell 0];rfl
            have k1:X4.cell? ⟨wr.heap.size+1,1,none⟩=some (.int .i64 (j:Int)):=by rw [il.cell 1];rfl
            have k3:X4.cell? ⟨wr.heap.size,3,none⟩=some (.int .i64 (la L i).id):=by rw [eI.cell 3];rfl
            have k5:=iu.c5;have uR:=(iu.drew:Dia X4.drew p K _ n c v2 v3 v4 _ v6);have hpb:p≠b:=by have:=hplt;omega
            have uQ:Dia X5 p K _ n c v2 v3 v4 _ v6:=Blk.grown uR mv (by simp;omega);have uh:w.grownBy X5 (some p):=zGB (zBA iF) mv hwb;clear mx kB iu eI il iF oP oS dv gh ip t0 t1 tf;go_region
            all_goals
             go_wp2_with fail
             go_roundw
             case rel=>exact ⟨i+1,kt,by omega,by go_num,uQ,uG,uh,hs⟩
             case measure=>simp [intOf];omega
         | true =>
          go_wp2_with fail
          have bY:=qH hov;generalize hX:(World.alloc W _).drew=X2;have bh:Below W.heap.size W X2:=by rw [←hX];exact ((Below.refl _ _).alloc (Nat.le_refl _) _).drew
          have hpr:Blk X2 (wr.heap.size+1) 226 #[.int .i64 (zAv L (la L i).id false i),.int .i64 (zAv L (la L i).id true i)]:=by rw [←hX,←mX];exact (Blk.new W _ _).drew
          have gI:=jI.next bh;have oO:=jn.next bh;have fK:=zAo jE bh jE.size;have iw:=jo.below bh;have cz:=hblk.below bh m2;have ut:b < wr.heap.size+1:=by omega
          have tP:p < wr.heap.size+1:=by omega
          have tI:w.heap.size≤wr.heap.size+1:=by have:=jE.size;omega
          clear hX bh jI jn jE jo hblk b3 b4 b5 u1 u5 m0 m1 m2 yg w5 hbp w3 uc ub hov;obtain ⟨x,hx⟩:∃x,x=zAv L (la L i).id true i:=⟨_,rfl⟩
          obtain ⟨y,hy⟩:∃y,y=zAv L (la L i).id false i:=⟨_,rfl⟩
          have hxb:=zBR L (la L i).id true i;have hyb:=zBR L (la L i).id false i;rw [←hx] at hpr hxb;rw [←hy] at hpr hyb;have ph:=qH hx;have kS:=qH hy;clear hx hy;have gm:=qH (show crT L i↔(x < 0∧(0≤y→(la L y.toNat).sign=(la L i).sign)) by unfold crT;rw [bY.out,ph.out,kS.out];rfl);have r0:X2.cell? ⟨wr.heap.size+1,0,none⟩=some (.int .i64 y):=by rw [hpr.cell 0];rfl
          have r1:X2.cell? ⟨wr.heap.size+1,1,none⟩=some (.int .i64 x):=by rw [hpr.cell 1];rfl
          have s3:X2.cell? ⟨wr.heap.size,3,none⟩=some (.int .i64 (la L i).id):=by rw [cz.cell 3];rfl
          have s4:X2.cell? ⟨wr.heap.size,4,none⟩=some (.int .i64 (la L i).sign):=by rw [cz.cell 4];rfl
          have u1:=gI.c1;have u5:=gI.c5;have n2:=hpr.lt;have n3:=cz.lt
          cases q3:decide (0≤x) with
          | true =>
           have Br:0≤x:=by simpa using q3
           have hf:=qH (zCT (L:=L) HL.out hlt (by
            cases hq:crB L i with
            | false=>rfl
            | true=>have:=gm.out.1 (hcr.out.1 hq);omega))
           clear HC;go_wp2_with fail
           go_quiet (fail)
           go_wp2_with fail
           go_ret;exact ⟨zAk hf.out.symm,zBv fK _,fun h=>by rw [hf.out] at h;cases h⟩
          | false =>
           have Br:¬0≤x:=by simpa using q3
           have Bv:0≤y:=by
            have:=zJk.2 ep.out;rw [←kS.out,←ph.out] at this;omega
           obtain ⟨j,rfl⟩:∃j:Nat,y=(j:Int):=⟨y.toNat,by omega⟩
           have hjn:j < n:=by omega
           have cj:=(iw.also hjn).1.sign;have j1:(j:Int) < (n:Int):=by omega
           cases q4:((la L j).sign != (la L i).sign) with
           | true =>
            have hf:=qH (zCT (L:=L) HL.out hlt (by
             cases hq:crB L i with
             | false=>rfl
             | true=>have:=gm.out.1 (hcr.out.1 hq);have h2:=this.2 Bv;rw [Int.toNat_natCast] at h2;rw [h2] at q4;simp at q4))
            clear HC;go_wp2_with fail
            go_quiet (fail)
            go_wp2_with fail
            go_ret;exact ⟨zAk hf.out.symm,zBv fK _,fun h=>by rw [hf.out] at h;cases h⟩
           | false =>
            have hgood:=qH (hcr.out.2 (gm.out.2 ⟨by omega,fun _=>by rw [Int.toNat_natCast];simpa using q4⟩))
            have hs:=qH (show ∀j,j < i+1→crB L j=true from fun j hj=>by
             rcases Nat.decEq j i with e | e
             ·exact HC.out j (by omega)
             ·subst e;exact hgood.out)
            have hvis:zFa L (la L i).id true i=true:=zBq.2 ⟨pp.out,rfl,bY.out⟩;have d9:zFa L (la L i).id false i=false:=by unfold zFa;rw [bY.out];simp
            have E1:=qH (zFc hvis);have E2:=qH ((zBw d9).trans kS.out.symm);clear hvis d9 HC;go_wp2_with fail
            go_quiet (fail)
            generalize hX3:X2.drewN nq=X3;have bH:Below X2.heap.size X2 X3:=by rw [←hX3];exact zAf (Below.refl _ _) _
            have oS:=gI.next bH;have oP:=oO.next bH;have ip:=zAo fK bH fK.size;have dv:=cz.below bH n3;have gh:=hpr.below bH n2;have t0:X3.cell? ⟨wr.heap.size+1,0,none⟩=some (.int .i64 (j:Int)):=by rw [gh.cell 0];rfl
            have t1:X3.cell? ⟨wr.heap.size+1,1,none⟩=some (.int .i64 x):=by rw [gh.cell 1];rfl
            have tf:=gh.frozen 1;have kB:=oP.setCell (p:=⟨wr.heap.size+1,1,none⟩) (by simp;omega) (.int .i64 (i:Int));have iu:=oS.far (q:=⟨wr.heap.size+1,1,none⟩) (by simp;omega) (.int .i64 (i:Int));have eI:=dv.far (p:=⟨wr.heap.size+1,1,none⟩) (by simp) (.int .i64 (i:Int));have il:=gh.set_ 1 (.int .i64 (i:Int));have iF:=zAh ip (p:=⟨wr.heap.size+1,1,none⟩) (.inr (by simp;omega)) (.int .i64 (i:Int));generalize mx:X3.setCell ⟨wr.heap.size+1,1,none⟩ (.int .i64 (i:Int))=X4 at kB iu eI il iF;obtain ⟨X5,kt,hput,uG,mv⟩:=(kB.drew).store pp.out hid.out;rw [E2.out,E1.out] at hput;clear hX3 bH gI oO fK iw cz hpr r0 r1 s3 s4 u1 u5 n2 n3;go_wp2_with fail
            try rw [mx]
            have k0:X4.cell? ⟨wr.heap.size+1,0,none⟩=some (.int .i64 (j:Int)):=by rw [il.cell 0];rfl
            have k1:X4.cell? ⟨wr.heap.size+1,1,none⟩=some (.int .i64 (i:Int)):=by rw [il.cell 1];rfl
            have k3:X4.cell? ⟨wr.heap.size,3,none⟩=some (.int .i64 (la L i).id):=by rw [eI.cell 3];rfl
            have k5:=iu.c5;have uR:=(iu.drew:Dia X4.drew p K _ n c v2 v3 v4 _ v6);have hpb:p≠b:=by have:=hplt;omega
            have uQ:Dia X5 p K _ n c v2 v3 v4 _ v6:=Blk.grown uR mv (by simp;omega);have uh:w.grownBy X5 (some p):=zGB (zBA iF) mv hwb;clear mx kB iu eI il iF oP oS dv gh ip t0 t1 tf;go_region
            all_goals
             go_wp2_with fail
             go_roundw
             case rel=>exact ⟨i+1,kt,by omega,by go_num,uQ,uG,uh,hs⟩
             case measure=>simp [intOf];omega
    ·have hkf:=zQT hk;have hV':=hV.skip hkf
     have hs:=qH (show ∀j,j < i+1→crB L j=true from fun j hj=>by
      rcases Nat.decEq j i with e | e
      ·exact HC.out j (by omega)
      ·subst e;exact zBm.2 (fun h=>by rw [hkf] at h;cases h))
     have iE:((la L i).kind != 2)=true:=by simpa using hk
     clear hk hkf HC hV;go_wp2_with fail
     go_roundw
     case rel=>exact ⟨i+1,ids,by omega,by go_num,hD.alloc _,hV'.alloc _,zBg hg _,hs⟩
     case measure=>simp [intOf];omega
   ·obtain rfl:n=i:=by omega
    have hc:zBz L=true:=by
     unfold zBz;rw [HL.out,HE.out];simp only [decide_true,Bool.true_and];rw [zAI];exact HC.out
    have hlen:ids.length=cN L n / 2:=by
     have:=zVB hc;rw [HL.out] at this;rw [hV.len,this]
    have po:=qH hc;have e5:=hD.c5;have hlq:((ids.length:Nat):Int)=(cN L n:Int) / 2:=by omega
    have wg:=qH hlq;clear hc HC hlen hlq;go_wp2_with (at_len;refine zHI rfl _ rfl rfl hV ?_)
    go_ret;exact ⟨zAk (by rw [po.out,wg.out];simp),hg,fun _=>⟨b,ids,hwb,hD,hV⟩⟩
 ·have he1:((cN L n:Int) % 2 != 0)=true:=by simp;omega
  have hf:=qH (show zBz L=false by unfold zBz;rw [HL.out];simp [he]);clear he;go_enter Tryz.func178,Tryz.ntmps178;go_wp2_with fail
  refine (zBs K A n c L _ hA).mono ?_;rintro e w1 ⟨rfl,ay⟩;go_wp2_with fail
  go_ret;exact ⟨zAk hf.out.symm,zCW ay _,fun h=>by rw [hf.out] at h;cases h⟩
end Go.Proofs.YtlmdfmnbcndhoaaGreatDoor
