/-
  Lemmas, part 28. Conditions: each theorem's own.
-/
import Derived.Test.YtlmdfmnbcndhoaaGreatDoorRi26
import Derived.Test.YtlmdfmnbcndhoaaGreatDoorRi27
namespace Go.Proofs.YtlmdfmnbcndhoaaGreatDoor
open Go.RowKit
def zPh (w:World) (p:Nat) (K:Int) (A:Option Addr) (n c:Nat) (L:List Lt) (v2 v3 v4 v6:Value) (e:Ending) (w':World):Prop :=
 e=.returned (.bool (zBA L))∧w.grownBy w' (some p)∧(zBA L=true→∃b ids,w.heap.size≤b∧Dia w' p K A n c v2 v3 v4 (.map (some b)) v6∧Vis w' b L n ids)
theorem zGn {a b c:World} {row:Option Nat} {g:Nat} (h:a.grownBy b row) (k:b.grownBy c (some g)) (hg:a.heap.size≤g):a.grownBy c row :=
 ⟨k.os.trans h.os,k.tape.trans h.tape,k.output.trans h.output,Nat.le_trans h.size k.size,fun j hj hne=>(k.block j (Nat.lt_of_lt_of_le hj h.size) (by simp;omega)).trans (h.block j hj hne)⟩
theorem zCO {L:List Lt} {n i:Nat} (hL:L.length=n) (hi:i < n) (h:crB L i=false):zBA L=false:=by
 unfold zBA;rw [hL,zEs hi h,Bool.and_false]
set_option maxRecDepth 100000 in
set_option maxHeartbeats 6400000 in
theorem zEX (p:Nat) (K:Int) (A:Option Addr) (n c:Nat) (L:List Lt) (v2 v3 v4 v5 v6:Value) (w:World) (hA:Lets w A n L) (hn:n≤400)
  (hpA:∀a,A=some a→p≠a.block) (hd:Dia w p K A n c v2 v3 v4 v5 v6) :
  Calls Tryz.prog 178 #[.pointer (some ⟨p,0,none⟩)] w (zPh w p K A n c L v2 v3 v4 v6):=by
 have HL:=qH hA.len;have c0:=hd.c0;have c1:=hd.c1;have hcn:=zQt L n;have hplt:=hd.lt;by_cases he:cN L n % 2=0
 ·have he1:((cN L n:Int) % 2 != 0)=false:=by simp;omega
  have HE:=qH he;clear he;have hmm:=@run_makeMap Tryz.prog;go_enter Tryz.func178,Tryz.ntmps178;go_wp2_with fail
  refine (zBr K A n c L _ hA).mono ?_;rintro e w1 ⟨rfl,hb1⟩;have hd1:=hd.next hb1;have a1:=hd1.c1;have a5:=hd1.c5;have f5:=hd1.frozen 5;have hz1:=hb1.size;have hp1:=hd1.lt;have hd3:=(hd1.set5 (.map (some w1.heap.size))).alloc (.map #[] 0);have hv3:Vis ((w1.setCell ⟨p,5,none⟩ (.map (some w1.heap.size))).alloc (.map #[] 0)) w1.heap.size L 0 []:=by
   have:=Vis.made (w1.setCell ⟨p,5,none⟩ (.map (some w1.heap.size))) L
   rwa [show (w1.setCell ⟨p,5,none⟩ (.map (some w1.heap.size))).heap.size=w1.heap.size by simp] at this
  have hg3:w.grownBy ((w1.setCell ⟨p,5,none⟩ (.map (some w1.heap.size))).alloc (.map #[] 0)) (some p):=zBg (zAg (zCS hb1 _) (p:=⟨p,5,none⟩) (.inl rfl) _) _;go_wp2_with fail
  have hwb:w.heap.size≤w1.heap.size:=hz1;generalize w1.heap.size=b at hd3 hv3 hg3 hwb ⊢;generalize (w1.setCell ⟨p,5,none⟩ (.map (some b))).alloc (.map #[] 0)=ws at hd3 hv3 hg3 ⊢;have hst:Hid (∀j,j < 0→crB L j=true):=qH (fun j hj=>by omega);clear hd1 a1 a5 f5 hmm hz1 hp1 c0 c1 hb1;go_loopw [4,5,6,7,8,27] (fun _ _ _ _ _ s27 wr=>∃(i:Nat) (ids:List Int),i≤n∧s27=.int .i64 i∧Dia wr p K A n c v2 v3 v4 (.map (some b)) v6∧Vis wr b L i ids∧w.grownBy wr (some p)∧Hid (∀j,j < i→crB L j=true)) (fun _ _ _ _ _ s27 _=>n-(intOf s27).toNat)
  case atStart=>exact ⟨0,[],Nat.zero_le _,rfl,hd3,hv3,hg3,hst⟩
  case round =>
   obtain ⟨i,ids,hi,rfl,hD,hV,hg,HC⟩:=hrel;clear hd3 hv3 hg3 hst;have hAr:=hA.growG hg (fun a ha e=>hpA a ha (by injection e));by_cases hlt:i < n
   ·obtain ⟨g,o,rfl,hgl,hx,hok⟩:=hAr.at_ hlt;obtain ⟨h0,h1,h2,h3,h4,h5⟩:=hx;have i0:(0:Int)≤(i:Int):=by omega
    have i1:(i:Int) < (n:Int):=by omega
    by_cases hk:(la L i).kind=2
    ·have hc:=zQr hk;have hk1:((la L i).kind != 2)=false:=by simpa using hk
     have hid:=qH hok.id;have id1:=hid.out.1;have id2:=hid.out.2;have HCC:=qH hc;clear hk hc
     cases q1:decide ((la L i).id < 1) with
     | true =>
      have q1I:(la L i).id < 1:=by simpa using q1
      have hf:=qH (zCO (L:=L) HL.out hlt (by
       cases hq:crB L i with
       | false=>rfl
       | true=>have:=(zBl.1 hq HCC.out).1.1;omega))
      clear HC;go_wp2_with fail
      go_ret;exact ⟨zAl hf.out.symm,zBg hg _,fun h=>by rw [hf.out] at h;cases h⟩
     | false =>
      have q1I:¬(la L i).id < 1:=by simpa using q1
      cases q2:decide (((cN L n:Nat):Int) / 2 < (la L i).id) with
      | true =>
       have q2I:((cN L n:Nat):Int) / 2 < (la L i).id:=by simpa using q2
       have hf:=qH (zCO (L:=L) HL.out hlt (by
        cases hq:crB L i with
        | false=>rfl
        | true=>have:=(zBl.1 hq HCC.out).1.2;rw [HL.out] at this;omega))
       clear HC;go_wp2_with fail
       go_ret;exact ⟨zAl hf.out.symm,zBg hg _,fun h=>by rw [hf.out] at h;cases h⟩
      | false =>
       have q2I:¬((cN L n:Nat):Int) / 2 < (la L i).id:=by simpa using q2
       have hcr:=qH (zTR (L:=L) (i:=i) HC.out HCC.out (by rw [HL.out];omega));go_wp2_with fail
       generalize hW:World.alloc wr _=W;have hbW:Below wr.heap.size wr W:=by rw [←hW];exact (Below.refl _ _).alloc (Nat.le_refl _) _
       have hszW:W.heap.size=wr.heap.size+1:=by rw [←hW];simp
       have hblk:Blk W wr.heap.size 76 #[.int .i64 (la L i).kind,.int .i64 (la L i).gate,.int .i64 (la L i).rank,.int .i64 (la L i).id,.int .i64 (la L i).sign,.bool (la L i).over]:=by rw [←hW];exact Blk.new wr _ _
       have hDW:=hD.next hbW;have hVW:=hV.next hbW;have hgW:=zAn hg hbW hg.size;have hArW:=hAr.below hbW;have b3:=hblk.cell 3;have b4:=hblk.cell 4;have b5:=hblk.cell 5;simp at b3 b4 b5;have u1:=hDW.c1;have u5:=hDW.c5;have m0:=hDW.lt;have m1:=hVW.lt;have m2:=hblk.lt;clear hW hbW hD hV hg hAr h0 h1 h2 h3 h4 h5 hk1;have hDP:=hDW.alloc (.cells #[.int .i64 0,.int .i64 0] 226);have w5:=hDP.c5;have hbp:=hblk.alloc (.cells #[.int .i64 0,.int .i64 0] 226);have w3:(W.alloc (.cells #[.int .i64 0,.int .i64 0] 226)).cell? ⟨wr.heap.size,3,none⟩=some (.int .i64 (la L i).id):=by rw [hbp.cell 3];rfl
       by_cases ht:tN L (la L i).id i=0
       ·have hlA:=(hVW.drew).lookNo hid.out ht;have hlB:=((hVW.alloc (.cells #[.int .i64 0,.int .i64 0] 226)).drew).lookNo hid.out ht;have HTT:=qH ht;clear ht;have HA1:=qH (show zAt L (la L i).id false i = -1 by have h1:=zBP L (la L i).id false i;have h2:=zIW (L:=L) (d:=(la L i).id) (i:=i);rw [HTT.out] at h2;omega);have HB1:=qH (show zAt L (la L i).id true i = -1 by have h1:=zBP L (la L i).id true i;have h2:=zIW (L:=L) (d:=(la L i).id) (i:=i);rw [HTT.out] at h2;omega);go_region
        all_goals
         cases hov:(la L i).over with
         | false =>
          go_wp2_with fail
          have HOV:=qH hov;generalize hX:(World.alloc W _).drew=X2;have hbX:Below W.heap.size W X2:=by rw [←hX];exact ((Below.refl _ _).alloc (Nat.le_refl _) _).drew
          have hpr:Blk X2 (wr.heap.size+1) 226 #[.int .i64 (zAt L (la L i).id false i),.int .i64 (zAt L (la L i).id true i)]:=by rw [HA1.out,HB1.out,←hX,←hszW];exact (Blk.new W _ _).drew
          have hDX:=hDW.next hbX;have hVX:=hVW.next hbX;have hgX:=zAn hgW hbX hgW.size;have hArX:=hArW.below hbX;have hblX:=hblk.below hbX m2;have hbl1:b < wr.heap.size+1:=by omega
          have hpl1:p < wr.heap.size+1:=by omega
          have hwl1:w.heap.size≤wr.heap.size+1:=by have:=hgW.size;omega
          clear hX hbX hDW hVW hgW hArW hblk b3 b4 b5 u1 u5 m0 m1 m2 hDP w5 hbp w3 hlA hlB hov;obtain ⟨x,hx⟩:∃x,x=zAt L (la L i).id false i:=⟨_,rfl⟩
          obtain ⟨y,hy⟩:∃y,y=zAt L (la L i).id true i:=⟨_,rfl⟩
          have hxb:=zBP L (la L i).id false i;have hyb:=zBP L (la L i).id true i;rw [←hx] at hpr hxb;rw [←hy] at hpr hyb;have HXX:=qH hx;have HYY:=qH hy;clear hx hy;have hcrT:=qH (show crT L i↔(x < 0∧(0≤y→(la L y.toNat).sign=(la L i).sign)) by unfold crT;rw [HOV.out,HXX.out,HYY.out];rfl);have r0:X2.cell? ⟨wr.heap.size+1,0,none⟩=some (.int .i64 x):=by rw [hpr.cell 0];rfl
          have r1:X2.cell? ⟨wr.heap.size+1,1,none⟩=some (.int .i64 y):=by rw [hpr.cell 1];rfl
          have s3:X2.cell? ⟨wr.heap.size,3,none⟩=some (.int .i64 (la L i).id):=by rw [hblX.cell 3];rfl
          have s4:X2.cell? ⟨wr.heap.size,4,none⟩=some (.int .i64 (la L i).sign):=by rw [hblX.cell 4];rfl
          have u1:=hDX.c1;have u5:=hDX.c5;have n2:=hpr.lt;have n3:=hblX.lt;have hx1:x < 0:=by rw [HXX.out,HA1.out];decide
          have hy1:y < 0:=by rw [HYY.out,HB1.out];decide
          have hxd:decide (0≤x)=false:=by simp;omega
          have hgood:=qH (hcr.out.2 (hcrT.out.2 ⟨hx1,fun h=>by omega⟩))
          have hs:=qH (show ∀j,j < i+1→crB L j=true from fun j hj=>by
           rcases Nat.decEq j i with e | e
           ·exact HC.out j (by omega)
           ·subst e;exact hgood.out)
          have hvis:zEU L (la L i).id false i=true:=zBp.2 ⟨HCC.out,rfl,HOV.out⟩;have hvis2:zEU L (la L i).id true i=false:=by unfold zEU;rw [HOV.out];simp
          have E1:=qH (zEW hvis);have E2:=qH ((zBw hvis2).trans HYY.out.symm);clear hvis hvis2 HC;go_wp2_with fail
          go_quiet (fail)
          generalize hX3:X2.drewN nq=X3;have hbX3:Below X2.heap.size X2 X3:=by rw [←hX3];exact zAf (Below.refl _ _) _
          have hD3:=hDX.next hbX3;have hV3:=hVX.next hbX3;have hg3:=zAn hgX hbX3 hgX.size;have hbl3:=hblX.below hbX3 n3;have hp3:=hpr.below hbX3 n2;have t0:X3.cell? ⟨wr.heap.size+1,0,none⟩=some (.int .i64 x):=by rw [hp3.cell 0];rfl
          have t1:X3.cell? ⟨wr.heap.size+1,1,none⟩=some (.int .i64 y):=by rw [hp3.cell 1];rfl
          have tf:=hp3.frozen 0;have hV4:=hV3.setCell (p:=⟨wr.heap.size+1,0,none⟩) (by simp;omega) (.int .i64 (i:Int));have hD4:=hD3.far (q:=⟨wr.heap.size+1,0,none⟩) (by simp;omega) (.int .i64 (i:Int));have hbl4:=hbl3.far (p:=⟨wr.heap.size+1,0,none⟩) (by simp) (.int .i64 (i:Int));have hp4:=hp3.set_ 0 (.int .i64 (i:Int));have hg4:=zAg hg3 (p:=⟨wr.heap.size+1,0,none⟩) (.inr (by simp;omega)) (.int .i64 (i:Int));generalize hX4:X3.setCell ⟨wr.heap.size+1,0,none⟩ (.int .i64 (i:Int))=X4 at hV4 hD4 hbl4 hp4 hg4;obtain ⟨X5,ids5,hput,hV5,hg5⟩:=(hV4.drew).store HCC.out hid.out;rw [E1.out,E2.out] at hput;clear hX3 hbX3 hDX hVX hgX hArX hblX hpr r0 r1 s3 s4 u1 u5 n2 n3;go_wp2_with fail
          try rw [hX4]
          have k0:X4.cell? ⟨wr.heap.size+1,0,none⟩=some (.int .i64 (i:Int)):=by rw [hp4.cell 0];rfl
          have k1:X4.cell? ⟨wr.heap.size+1,1,none⟩=some (.int .i64 y):=by rw [hp4.cell 1];rfl
          have k3:X4.cell? ⟨wr.heap.size,3,none⟩=some (.int .i64 (la L i).id):=by rw [hbl4.cell 3];rfl
          have k5:=hD4.c5;have hD5:=(hD4.drew:Dia X4.drew p K _ n c v2 v3 v4 _ v6);have hpb:p≠b:=by have:=hplt;omega
          have hD6:Dia X5 p K _ n c v2 v3 v4 _ v6:=Blk.grown hD5 hg5 (by simp;omega);have hg6:w.grownBy X5 (some p):=zGn (zBB hg4) hg5 hwb;clear hX4 hV4 hD4 hbl4 hp4 hg4 hV3 hD3 hbl3 hp3 hg3 t0 t1 tf;go_region
          all_goals
           go_wp2_with fail
           go_roundw
           case rel=>exact ⟨i+1,ids5,by omega,by go_num,hD6,hV5,hg6,hs⟩
           case measure=>simp [intOf];omega
         | true =>
          go_wp2_with fail
          have HOV:=qH hov;generalize hX:(World.alloc W _).drew=X2;have hbX:Below W.heap.size W X2:=by rw [←hX];exact ((Below.refl _ _).alloc (Nat.le_refl _) _).drew
          have hpr:Blk X2 (wr.heap.size+1) 226 #[.int .i64 (zAt L (la L i).id false i),.int .i64 (zAt L (la L i).id true i)]:=by rw [HA1.out,HB1.out,←hX,←hszW];exact (Blk.new W _ _).drew
          have hDX:=hDW.next hbX;have hVX:=hVW.next hbX;have hgX:=zAn hgW hbX hgW.size;have hArX:=hArW.below hbX;have hblX:=hblk.below hbX m2;have hbl1:b < wr.heap.size+1:=by omega
          have hpl1:p < wr.heap.size+1:=by omega
          have hwl1:w.heap.size≤wr.heap.size+1:=by have:=hgW.size;omega
          clear hX hbX hDW hVW hgW hArW hblk b3 b4 b5 u1 u5 m0 m1 m2 hDP w5 hbp w3 hlA hlB hov;obtain ⟨x,hx⟩:∃x,x=zAt L (la L i).id true i:=⟨_,rfl⟩
          obtain ⟨y,hy⟩:∃y,y=zAt L (la L i).id false i:=⟨_,rfl⟩
          have hxb:=zBP L (la L i).id true i;have hyb:=zBP L (la L i).id false i;rw [←hx] at hpr hxb;rw [←hy] at hpr hyb;have HXX:=qH hx;have HYY:=qH hy;clear hx hy;have hcrT:=qH (show crT L i↔(x < 0∧(0≤y→(la L y.toNat).sign=(la L i).sign)) by unfold crT;rw [HOV.out,HXX.out,HYY.out];rfl);have r0:X2.cell? ⟨wr.heap.size+1,0,none⟩=some (.int .i64 y):=by rw [hpr.cell 0];rfl
          have r1:X2.cell? ⟨wr.heap.size+1,1,none⟩=some (.int .i64 x):=by rw [hpr.cell 1];rfl
          have s3:X2.cell? ⟨wr.heap.size,3,none⟩=some (.int .i64 (la L i).id):=by rw [hblX.cell 3];rfl
          have s4:X2.cell? ⟨wr.heap.size,4,none⟩=some (.int .i64 (la L i).sign):=by rw [hblX.cell 4];rfl
          have u1:=hDX.c1;have u5:=hDX.c5;have n2:=hpr.lt;have n3:=hblX.lt;have hx1:x < 0:=by rw [HXX.out,HB1.out];decide
          have hy1:y < 0:=by rw [HYY.out,HA1.out];decide
          have hxd:decide (0≤x)=false:=by simp;omega
          have hgood:=qH (hcr.out.2 (hcrT.out.2 ⟨hx1,fun h=>by omega⟩))
          have hs:=qH (show ∀j,j < i+1→crB L j=true from fun j hj=>by
           rcases Nat.decEq j i with e | e
           ·exact HC.out j (by omega)
           ·subst e;exact hgood.out)
          have hvis:zEU L (la L i).id true i=true:=zBp.2 ⟨HCC.out,rfl,HOV.out⟩;have hvis2:zEU L (la L i).id false i=false:=by unfold zEU;rw [HOV.out];simp
          have E1:=qH (zEW hvis);have E2:=qH ((zBw hvis2).trans HYY.out.symm);clear hvis hvis2 HC;go_wp2_with fail
          go_quiet (fail)
          generalize hX3:X2.drewN nq=X3;have hbX3:Below X2.heap.size X2 X3:=by rw [←hX3];exact zAf (Below.refl _ _) _
          have hD3:=hDX.next hbX3;have hV3:=hVX.next hbX3;have hg3:=zAn hgX hbX3 hgX.size;have hbl3:=hblX.below hbX3 n3;have hp3:=hpr.below hbX3 n2;have t0:X3.cell? ⟨wr.heap.size+1,0,none⟩=some (.int .i64 y):=by rw [hp3.cell 0];rfl
          have t1:X3.cell? ⟨wr.heap.size+1,1,none⟩=some (.int .i64 x):=by rw [hp3.cell 1];rfl
          have tf:=hp3.frozen 1;have hV4:=hV3.setCell (p:=⟨wr.heap.size+1,1,none⟩) (by simp;omega) (.int .i64 (i:Int));have hD4:=hD3.far (q:=⟨wr.heap.size+1,1,none⟩) (by simp;omega) (.int .i64 (i:Int));have hbl4:=hbl3.far (p:=⟨wr.heap.size+1,1,none⟩) (by simp) (.int .i64 (i:Int));have hp4:=hp3.set_ 1 (.int .i64 (i:Int));have hg4:=zAg hg3 (p:=⟨wr.heap.size+1,1,none⟩) (.inr (by simp;omega)) (.int .i64 (i:Int));generalize hX4:X3.setCell ⟨wr.heap.size+1,1,none⟩ (.int .i64 (i:Int))=X4 at hV4 hD4 hbl4 hp4 hg4;obtain ⟨X5,ids5,hput,hV5,hg5⟩:=(hV4.drew).store HCC.out hid.out;rw [E2.out,E1.out] at hput;clear hX3 hbX3 hDX hVX hgX hArX hblX hpr r0 r1 s3 s4 u1 u5 n2 n3;go_wp2_with fail
          try rw [hX4]
          have k0:X4.cell? ⟨wr.heap.size+1,0,none⟩=some (.int .i64 y):=by rw [hp4.cell 0];rfl
          have k1:X4.cell? ⟨wr.heap.size+1,1,none⟩=some (.int .i64 (i:Int)):=by rw [hp4.cell 1];rfl
          have k3:X4.cell? ⟨wr.heap.size,3,none⟩=some (.int .i64 (la L i).id):=by rw [hbl4.cell 3];rfl
          have k5:=hD4.c5;have hD5:=(hD4.drew:Dia X4.drew p K _ n c v2 v3 v4 _ v6);have hpb:p≠b:=by have:=hplt;omega
          have hD6:Dia X5 p K _ n c v2 v3 v4 _ v6:=Blk.grown hD5 hg5 (by simp;omega);have hg6:w.grownBy X5 (some p):=zGn (zBB hg4) hg5 hwb;clear hX4 hV4 hD4 hbl4 hp4 hg4 hV3 hD3 hbl3 hp3 hg3 t0 t1 tf;go_region
          all_goals
           go_wp2_with fail
           go_roundw
           case rel=>exact ⟨i+1,ids5,by omega,by go_num,hD6,hV5,hg6,hs⟩
           case measure=>simp [intOf];omega
       ·have ht':0 < tN L (la L i).id i:=by omega
        have hlA:=(hVW.drew).lookYes hid.out ht';have hlB:=((hVW.alloc (.cells #[.int .i64 0,.int .i64 0] 226)).drew).lookYes hid.out ht';have HTT:=qH ht';clear ht ht';go_region
        all_goals
         cases hov:(la L i).over with
         | false =>
          go_wp2_with fail
          have HOV:=qH hov;generalize hX:(World.alloc W _).drew=X2;have hbX:Below W.heap.size W X2:=by rw [←hX];exact ((Below.refl _ _).alloc (Nat.le_refl _) _).drew
          have hpr:Blk X2 (wr.heap.size+1) 226 #[.int .i64 (zAt L (la L i).id false i),.int .i64 (zAt L (la L i).id true i)]:=by rw [←hX,←hszW];exact (Blk.new W _ _).drew
          have hDX:=hDW.next hbX;have hVX:=hVW.next hbX;have hgX:=zAn hgW hbX hgW.size;have hArX:=hArW.below hbX;have hblX:=hblk.below hbX m2;have hbl1:b < wr.heap.size+1:=by omega
          have hpl1:p < wr.heap.size+1:=by omega
          have hwl1:w.heap.size≤wr.heap.size+1:=by have:=hgW.size;omega
          clear hX hbX hDW hVW hgW hArW hblk b3 b4 b5 u1 u5 m0 m1 m2 hDP w5 hbp w3 hlA hlB hov;obtain ⟨x,hx⟩:∃x,x=zAt L (la L i).id false i:=⟨_,rfl⟩
          obtain ⟨y,hy⟩:∃y,y=zAt L (la L i).id true i:=⟨_,rfl⟩
          have hxb:=zBP L (la L i).id false i;have hyb:=zBP L (la L i).id true i;rw [←hx] at hpr hxb;rw [←hy] at hpr hyb;have HXX:=qH hx;have HYY:=qH hy;clear hx hy;have hcrT:=qH (show crT L i↔(x < 0∧(0≤y→(la L y.toNat).sign=(la L i).sign)) by unfold crT;rw [HOV.out,HXX.out,HYY.out];rfl);have r0:X2.cell? ⟨wr.heap.size+1,0,none⟩=some (.int .i64 x):=by rw [hpr.cell 0];rfl
          have r1:X2.cell? ⟨wr.heap.size+1,1,none⟩=some (.int .i64 y):=by rw [hpr.cell 1];rfl
          have s3:X2.cell? ⟨wr.heap.size,3,none⟩=some (.int .i64 (la L i).id):=by rw [hblX.cell 3];rfl
          have s4:X2.cell? ⟨wr.heap.size,4,none⟩=some (.int .i64 (la L i).sign):=by rw [hblX.cell 4];rfl
          have u1:=hDX.c1;have u5:=hDX.c5;have n2:=hpr.lt;have n3:=hblX.lt
          cases q3:decide (0≤x) with
          | true =>
           have q3I:0≤x:=by simpa using q3
           have hf:=qH (zCO (L:=L) HL.out hlt (by
            cases hq:crB L i with
            | false=>rfl
            | true=>have:=hcrT.out.1 (hcr.out.1 hq);omega))
           clear HC;go_wp2_with fail
           go_quiet (fail)
           go_wp2_with fail
           go_ret;exact ⟨zAl hf.out.symm,zBv hgX _,fun h=>by rw [hf.out] at h;cases h⟩
          | false =>
           have q3I:¬0≤x:=by simpa using q3
           have hy0:0≤y:=by
            have:=zIW.2 HTT.out;rw [←HXX.out,←HYY.out] at this;omega
           obtain ⟨j,rfl⟩:∃j:Nat,y=(j:Int):=⟨y.toNat,by omega⟩
           have hjn:j < n:=by omega
           have cj:=(hArX.also hjn).1.sign;have j1:(j:Int) < (n:Int):=by omega
           cases q4:((la L j).sign != (la L i).sign) with
           | true =>
            have hf:=qH (zCO (L:=L) HL.out hlt (by
             cases hq:crB L i with
             | false=>rfl
             | true=>have:=hcrT.out.1 (hcr.out.1 hq);have h2:=this.2 hy0;rw [Int.toNat_natCast] at h2;rw [h2] at q4;simp at q4))
            clear HC;go_wp2_with fail
            go_quiet (fail)
            go_wp2_with fail
            go_ret;exact ⟨zAl hf.out.symm,zBv hgX _,fun h=>by rw [hf.out] at h;cases h⟩
           | false =>
            have hgood:=qH (hcr.out.2 (hcrT.out.2 ⟨by omega,fun _=>by rw [Int.toNat_natCast];simpa using q4⟩))
            have hs:=qH (show ∀j,j < i+1→crB L j=true from fun j hj=>by
             rcases Nat.decEq j i with e | e
             ·exact HC.out j (by omega)
             ·subst e;exact hgood.out)
            have hvis:zEU L (la L i).id false i=true:=zBp.2 ⟨HCC.out,rfl,HOV.out⟩;have hvis2:zEU L (la L i).id true i=false:=by unfold zEU;rw [HOV.out];simp
            have E1:=qH (zEW hvis);have E2:=qH ((zBw hvis2).trans HYY.out.symm);clear hvis hvis2 HC;go_wp2_with fail
            go_quiet (fail)
            generalize hX3:X2.drewN nq=X3;have hbX3:Below X2.heap.size X2 X3:=by rw [←hX3];exact zAf (Below.refl _ _) _
            have hD3:=hDX.next hbX3;have hV3:=hVX.next hbX3;have hg3:=zAn hgX hbX3 hgX.size;have hbl3:=hblX.below hbX3 n3;have hp3:=hpr.below hbX3 n2;have t0:X3.cell? ⟨wr.heap.size+1,0,none⟩=some (.int .i64 x):=by rw [hp3.cell 0];rfl
            have t1:X3.cell? ⟨wr.heap.size+1,1,none⟩=some (.int .i64 (j:Int)):=by rw [hp3.cell 1];rfl
            have tf:=hp3.frozen 0;have hV4:=hV3.setCell (p:=⟨wr.heap.size+1,0,none⟩) (by simp;omega) (.int .i64 (i:Int));have hD4:=hD3.far (q:=⟨wr.heap.size+1,0,none⟩) (by simp;omega) (.int .i64 (i:Int));have hbl4:=hbl3.far (p:=⟨wr.heap.size+1,0,none⟩) (by simp) (.int .i64 (i:Int));have hp4:=hp3.set_ 0 (.int .i64 (i:Int));have hg4:=zAg hg3 (p:=⟨wr.heap.size+1,0,none⟩) (.inr (by simp;omega)) (.int .i64 (i:Int));generalize hX4:X3.setCell ⟨wr.heap.size+1,0,none⟩ (.int .i64 (i:Int))=X4 at hV4 hD4 hbl4 hp4 hg4;obtain ⟨X5,ids5,hput,hV5,hg5⟩:=(hV4.drew).store HCC.out hid.out;rw [E1.out,E2.out] at hput;clear hX3 hbX3 hDX hVX hgX hArX hblX hpr r0 r1 s3 s4 u1 u5 n2 n3;go_wp2_with fail
            try rw [hX4]
            have k0:X4.cell? ⟨wr.heap.size+1,0,none⟩=some (.int .i64 (i:Int)):=by rw [hp4.cell 0];rfl
            have k1:X4.cell? ⟨wr.heap.size+1,1,none⟩=some (.int .i64 (j:Int)):=by rw [hp4.cell 1];rfl
            have k3:X4.cell? ⟨wr.heap.size,3,none⟩=some (.int .i64 (la L i).id):=by rw [hbl4.cell 3];rfl
            have k5:=hD4.c5;have hD5:=(hD4.drew:Dia X4.drew p K _ n c v2 v3 v4 _ v6);have hpb:p≠b:=by have:=hplt;omega
            have hD6:Dia X5 p K _ n c v2 v3 v4 _ v6:=Blk.grown hD5 hg5 (by simp;omega);have hg6:w.grownBy X5 (some p):=zGn (zBB hg4) hg5 hwb;clear hX4 hV4 hD4 hbl4 hp4 hg4 hV3 hD3 hbl3 hp3 hg3 t0 t1 tf;go_region
            all_goals
             go_wp2_with fail
             go_roundw
             case rel=>exact ⟨i+1,ids5,by omega,by go_num,hD6,hV5,hg6,hs⟩
             case measure=>simp [intOf];omega
         | true =>
          go_wp2_with fail
          have HOV:=qH hov;generalize hX:(World.alloc W _).drew=X2;have hbX:Below W.heap.size W X2:=by rw [←hX];exact ((Below.refl _ _).alloc (Nat.le_refl _) _).drew
          have hpr:Blk X2 (wr.heap.size+1) 226 #[.int .i64 (zAt L (la L i).id false i),.int .i64 (zAt L (la L i).id true i)]:=by rw [←hX,←hszW];exact (Blk.new W _ _).drew
          have hDX:=hDW.next hbX;have hVX:=hVW.next hbX;have hgX:=zAn hgW hbX hgW.size;have hArX:=hArW.below hbX;have hblX:=hblk.below hbX m2;have hbl1:b < wr.heap.size+1:=by omega
          have hpl1:p < wr.heap.size+1:=by omega
          have hwl1:w.heap.size≤wr.heap.size+1:=by have:=hgW.size;omega
          clear hX hbX hDW hVW hgW hArW hblk b3 b4 b5 u1 u5 m0 m1 m2 hDP w5 hbp w3 hlA hlB hov;obtain ⟨x,hx⟩:∃x,x=zAt L (la L i).id true i:=⟨_,rfl⟩
          obtain ⟨y,hy⟩:∃y,y=zAt L (la L i).id false i:=⟨_,rfl⟩
          have hxb:=zBP L (la L i).id true i;have hyb:=zBP L (la L i).id false i;rw [←hx] at hpr hxb;rw [←hy] at hpr hyb;have HXX:=qH hx;have HYY:=qH hy;clear hx hy;have hcrT:=qH (show crT L i↔(x < 0∧(0≤y→(la L y.toNat).sign=(la L i).sign)) by unfold crT;rw [HOV.out,HXX.out,HYY.out];rfl);have r0:X2.cell? ⟨wr.heap.size+1,0,none⟩=some (.int .i64 y):=by rw [hpr.cell 0];rfl
          have r1:X2.cell? ⟨wr.heap.size+1,1,none⟩=some (.int .i64 x):=by rw [hpr.cell 1];rfl
          have s3:X2.cell? ⟨wr.heap.size,3,none⟩=some (.int .i64 (la L i).id):=by rw [hblX.cell 3];rfl
          have s4:X2.cell? ⟨wr.heap.size,4,none⟩=some (.int .i64 (la L i).sign):=by rw [hblX.cell 4];rfl
          have u1:=hDX.c1;have u5:=hDX.c5;have n2:=hpr.lt;have n3:=hblX.lt
          cases q3:decide (0≤x) with
          | true =>
           have q3I:0≤x:=by simpa using q3
           have hf:=qH (zCO (L:=L) HL.out hlt (by
            cases hq:crB L i with
            | false=>rfl
            | true=>have:=hcrT.out.1 (hcr.out.1 hq);omega))
           clear HC;go_wp2_with fail
           go_quiet (fail)
           go_wp2_with fail
           go_ret;exact ⟨zAl hf.out.symm,zBv hgX _,fun h=>by rw [hf.out] at h;cases h⟩
          | false =>
           have q3I:¬0≤x:=by simpa using q3
           have hy0:0≤y:=by
            have:=zIW.2 HTT.out;rw [←HYY.out,←HXX.out] at this;omega
           obtain ⟨j,rfl⟩:∃j:Nat,y=(j:Int):=⟨y.toNat,by omega⟩
           have hjn:j < n:=by omega
           have cj:=(hArX.also hjn).1.sign;have j1:(j:Int) < (n:Int):=by omega
           cases q4:((la L j).sign != (la L i).sign) with
           | true =>
            have hf:=qH (zCO (L:=L) HL.out hlt (by
             cases hq:crB L i with
             | false=>rfl
             | true=>have:=hcrT.out.1 (hcr.out.1 hq);have h2:=this.2 hy0;rw [Int.toNat_natCast] at h2;rw [h2] at q4;simp at q4))
            clear HC;go_wp2_with fail
            go_quiet (fail)
            go_wp2_with fail
            go_ret;exact ⟨zAl hf.out.symm,zBv hgX _,fun h=>by rw [hf.out] at h;cases h⟩
           | false =>
            have hgood:=qH (hcr.out.2 (hcrT.out.2 ⟨by omega,fun _=>by rw [Int.toNat_natCast];simpa using q4⟩))
            have hs:=qH (show ∀j,j < i+1→crB L j=true from fun j hj=>by
             rcases Nat.decEq j i with e | e
             ·exact HC.out j (by omega)
             ·subst e;exact hgood.out)
            have hvis:zEU L (la L i).id true i=true:=zBp.2 ⟨HCC.out,rfl,HOV.out⟩;have hvis2:zEU L (la L i).id false i=false:=by unfold zEU;rw [HOV.out];simp
            have E1:=qH (zEW hvis);have E2:=qH ((zBw hvis2).trans HYY.out.symm);clear hvis hvis2 HC;go_wp2_with fail
            go_quiet (fail)
            generalize hX3:X2.drewN nq=X3;have hbX3:Below X2.heap.size X2 X3:=by rw [←hX3];exact zAf (Below.refl _ _) _
            have hD3:=hDX.next hbX3;have hV3:=hVX.next hbX3;have hg3:=zAn hgX hbX3 hgX.size;have hbl3:=hblX.below hbX3 n3;have hp3:=hpr.below hbX3 n2;have t0:X3.cell? ⟨wr.heap.size+1,0,none⟩=some (.int .i64 (j:Int)):=by rw [hp3.cell 0];rfl
            have t1:X3.cell? ⟨wr.heap.size+1,1,none⟩=some (.int .i64 x):=by rw [hp3.cell 1];rfl
            have tf:=hp3.frozen 1;have hV4:=hV3.setCell (p:=⟨wr.heap.size+1,1,none⟩) (by simp;omega) (.int .i64 (i:Int));have hD4:=hD3.far (q:=⟨wr.heap.size+1,1,none⟩) (by simp;omega) (.int .i64 (i:Int));have hbl4:=hbl3.far (p:=⟨wr.heap.size+1,1,none⟩) (by simp) (.int .i64 (i:Int));have hp4:=hp3.set_ 1 (.int .i64 (i:Int));have hg4:=zAg hg3 (p:=⟨wr.heap.size+1,1,none⟩) (.inr (by simp;omega)) (.int .i64 (i:Int));generalize hX4:X3.setCell ⟨wr.heap.size+1,1,none⟩ (.int .i64 (i:Int))=X4 at hV4 hD4 hbl4 hp4 hg4;obtain ⟨X5,ids5,hput,hV5,hg5⟩:=(hV4.drew).store HCC.out hid.out;rw [E2.out,E1.out] at hput;clear hX3 hbX3 hDX hVX hgX hArX hblX hpr r0 r1 s3 s4 u1 u5 n2 n3;go_wp2_with fail
            try rw [hX4]
            have k0:X4.cell? ⟨wr.heap.size+1,0,none⟩=some (.int .i64 (j:Int)):=by rw [hp4.cell 0];rfl
            have k1:X4.cell? ⟨wr.heap.size+1,1,none⟩=some (.int .i64 (i:Int)):=by rw [hp4.cell 1];rfl
            have k3:X4.cell? ⟨wr.heap.size,3,none⟩=some (.int .i64 (la L i).id):=by rw [hbl4.cell 3];rfl
            have k5:=hD4.c5;have hD5:=(hD4.drew:Dia X4.drew p K _ n c v2 v3 v4 _ v6);have hpb:p≠b:=by have:=hplt;omega
            have hD6:Dia X5 p K _ n c v2 v3 v4 _ v6:=Blk.grown hD5 hg5 (by simp;omega);have hg6:w.grownBy X5 (some p):=zGn (zBB hg4) hg5 hwb;clear hX4 hV4 hD4 hbl4 hp4 hg4 hV3 hD3 hbl3 hp3 hg3 t0 t1 tf;go_region
            all_goals
             go_wp2_with fail
             go_roundw
             case rel=>exact ⟨i+1,ids5,by omega,by go_num,hD6,hV5,hg6,hs⟩
             case measure=>simp [intOf];omega
    ·have hkf:=zQs hk;have hV':=hV.skip hkf
     have hs:=qH (show ∀j,j < i+1→crB L j=true from fun j hj=>by
      rcases Nat.decEq j i with e | e
      ·exact HC.out j (by omega)
      ·subst e;exact zBl.2 (fun h=>by rw [hkf] at h;cases h))
     have hk':((la L i).kind != 2)=true:=by simpa using hk
     clear hk hkf HC hV;go_wp2_with fail
     go_roundw
     case rel=>exact ⟨i+1,ids,by omega,by go_num,hD.alloc _,hV'.alloc _,zBg hg _,hs⟩
     case measure=>simp [intOf];omega
   ·obtain rfl:n=i:=by omega
    have hc:zBA L=true:=by
     unfold zBA;rw [HL.out,HE.out];simp only [decide_true,Bool.true_and];rw [zAE];exact HC.out
    have hlen:ids.length=cN L n / 2:=by
     have:=zUQ hc;rw [HL.out] at this;rw [hV.len,this]
    have HCP:=qH hc;have e5:=hD.c5;have hlq:((ids.length:Nat):Int)=(cN L n:Int) / 2:=by omega
    have HLQ:=qH hlq;clear hc HC hlen hlq;go_wp2_with (at_len;refine zHw rfl _ rfl rfl hV ?_)
    go_ret;exact ⟨zAl (by rw [HCP.out,HLQ.out];simp),hg,fun _=>⟨b,ids,hwb,hD,hV⟩⟩
 ·have he1:((cN L n:Int) % 2 != 0)=true:=by simp;omega
  have hf:=qH (show zBA L=false by unfold zBA;rw [HL.out];simp [he]);clear he;go_enter Tryz.func178,Tryz.ntmps178;go_wp2_with fail
  refine (zBr K A n c L _ hA).mono ?_;rintro e w1 ⟨rfl,hb1⟩;go_wp2_with fail
  go_ret;exact ⟨zAl hf.out.symm,zCS hb1 _,fun h=>by rw [hf.out] at h;cases h⟩
end Go.Proofs.YtlmdfmnbcndhoaaGreatDoor
