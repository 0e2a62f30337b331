/-
  Lemmas, part 31. Conditions: each theorem's own.
-/
import Derived.Test.YtlmdfmnbcndhoaaGreatDoorRc30
import Derived.Test.YtlmdfmnbcndhoaaGreatDoorRc12
open Bool renaming false→E,true→Q
open Go.Value renaming bool→G,int→D,slice→H
open Go.IntKind renaming i64→J
open Option renaming none→U,some→Z
namespace Go.Proofs.YtlmdfmnbcndhoaaGreatDoor
open Go.RowKit
set_option maxRecDepth 100000 in
set_option maxHeartbeats 3200000 in
theorem zIl (d base p k:Nat) (A:Option Addr) (n c:Nat) (L:List Lt) (b g2 g3 g4 g6:Nat) (s:List Bool) (P C ids:List Int) (w:World) (h:DiaF w base p k A n c L b g2 g3 g4 g6 s P C ids) (hlt:d < 2*n) (hc:isC (la L (zBC n d))=Q) :
  Calls Tryz.prog 200 #[.pointer (Z ⟨p,0,U⟩),D J d] w fun e w'=>e=.returned (D J (zAG L (axL L) d))∧Below w.heap.size w w':=by
 have hn:=h.small;have hA:=h.lets;have g:=h.good;have aA:L.length=n:=hA.len;have hmp:=g.m_pos;have hml:(axL L).length≤n:=by rw [zEJ,←aA];exact zIe L _
 have hD:=h.ranks.dia;have c1:=hD.c1;have c3:=hD.c3;obtain ⟨m,hm⟩:∃m,m=(axL L).length:=⟨_,rfl⟩
 rw [←hm] at hmp hml c3;obtain ⟨v,hv⟩:∃v,v=zBC n d:=⟨_,rfl⟩
 obtain ⟨e,he,hvn,hcase⟩:=zEs hlt hv;rw [←hv] at hc;have hf:=g.left_cross (d:=d) (by omega) (by rw [aA,←hv];exact hc);rw [aA,←hv] at hf;have hov:zGA L v < n:=by rw [←aA];exact zEC (g.other hc).2.1
 have hlast:=g.last hc;rw [aA] at hlast;have htp:0 < tN L (la L v).id n:=zKd (i:=v) hvn (by simp [hc]);have hI:=(hA.fits (la L v) (by unfold la;rw [List.getElem?_eq_getElem (by omega)];exact List.getElem_mem _)).id;have hk:(la L v).kind=2:=by unfold isC at hc;simpa using hc
 obtain ⟨gg,o,rfl,hgl,hx,_⟩:=hA.at_ hvn;obtain ⟨x0,x1,x2,x3,x4,x5⟩:=hx;have q0:decide ((2:Int)*(n:Int)≤(d:Int))=E:=by simp;omega
 have q6:((la L v).kind==1)=E:=by simp;omega
 have v0:(0:Int)≤(v:Int):=by omega
 have v1:(v:Int) < (n:Int):=by omega
 have l0:=hD.lt;have yt:=qH hlast;have HVS:=qH h.vis;have mD:=qH hD;clear hv hc hk hm aA hD hlast
 cases hS:((la L v).sign==1)<;>cases hO:(la L v).over<;>rcases hcase with ⟨hp,hq⟩ | ⟨hp,hq⟩
 all_goals
  rw [hO,hS] at hf;rw [hO] at yt;simp only [Bool.not_true,Bool.not_false] at yt
  first
   | (have q2:((d:Int) % 2==0)=Q:=(by simp;omega)
      have eH:(d % 2==0)=Q:=(by simp;omega)
      rw [eH] at hf
      clear eH)
   | (have q2:((d:Int) % 2==0)=E:=(by simp;omega)
      have eH:(d % 2==0)=E:=(by simp;omega)
      rw [eH] at hf
      clear eH
      subst hq)
  have HF:=qH hf;clear hf hp;go_enter Tryz.func200,Tryz.ntmps200;go_wp2_with fail
  go_quiet (fail)
  generalize hwx:w.drewN nq=wx;have hbx:Below w.heap.size w wx:=by rw [←hwx];exact zAe (Below.refl _ _) _
  have tR:=mD.out.next hbx;have y1:=tR.c1;have EO:=HVS.out.next hbx;have z0:=(hbx.cell (World.block_lt_of_cell? w _ x0)).trans x0;have z1:=(hbx.cell (World.block_lt_of_cell? w _ x1)).trans x1;have z2:=(hbx.cell (World.block_lt_of_cell? w _ x2)).trans x2;have z3:=(hbx.cell (World.block_lt_of_cell? w _ x3)).trans x3;have z4:=(hbx.cell (World.block_lt_of_cell? w _ x4)).trans x4;have z5:=(hbx.cell (World.block_lt_of_cell? w _ x5)).trans x5;have hzz:=hbx.size;have m0:p < wx.heap.size:=by omega
  clear hwx c1 c3 x0 x1 x2 x3 x4 x5;go_wp2_with fail
  generalize hW:wx.alloc _=ZR;have jw:Below wx.heap.size wx ZR:=by rw [←hW];exact (Below.refl _ _).alloc (Nat.le_refl _) _
  have lW:ZR.heap.size=wx.heap.size+1:=by rw [←hW];simp
  have iH:=tR.next jw;have ir:=EO.next jw;have u5:=iH.c5;have s9:=(ir.drew).get hI htp;have sZ:=((ir.alloc (.cells #[D J 0,D J 0] 226)).drew).get hI htp;have w3:ZR.cell? ⟨wx.heap.size,3,U⟩=Z (D J (la L v).id):=by rw [←hW];rw [(Blk.new wx 76 _).cell 3];rfl
  have w4:ZR.cell? ⟨wx.heap.size,4,U⟩=Z (D J (la L v).sign):=by rw [←hW];rw [(Blk.new wx 76 _).cell 4];rfl
  have w5:ZR.cell? ⟨wx.heap.size,5,U⟩=Z (G (la L v).over):=by rw [hO];rw [←hW];rw [(Blk.new wx 76 _).cell 5];rfl
  clear hW;go_region
  all_goals
   generalize hX2:(World.alloc ZR _).drew=X2;have aE:Below ZR.heap.size ZR X2:=by rw [←hX2];exact ((Below.refl _ _).alloc (Nat.le_refl _) _).drew
   have hpr:Blk X2 (wx.heap.size+1) 226 #[D J (zAt L (la L v).id E n),D J (zAt L (la L v).id Q n)]:=by rw [←hX2,←lW];exact (Blk.new ZR _ _).drew
   have r0:=hpr.cell 0;have r1:=hpr.cell 1;have s4:=(aE.cell (World.block_lt_of_cell? ZR _ w4)).trans w4;have s5:=(aE.cell (World.block_lt_of_cell? ZR _ w5)).trans w5;have fD:=iH.next aE;go_wp2_with fail
   rw [yt.out];have ah:=zAa hbx jw hbx.size;have ab:=zAa ah aE ah.size;clear s9 sZ iH ir EO tR u5 w3 w4 w5 y1 z0 z1 z2 z3 z4 z5 r0 r1 s4 s5 hpr aE jw hbx
  all_goals
   first
    | (refine (zEd (zGA L v) _ _ (by omega)).mono ?_
       rintro e w2 ⟨rfl,ac⟩
       have aj:=zAa ab ac ab.size
       go_wp2_with fail
       go_ret
       exact ⟨zAu (by rw [HF.out];simp [zBx]),aj⟩)
    | (refine (zDz (zGA L v) p (k:Int) (Z ⟨gg,o,U⟩) n c _ _ _ _ _ _ fD hov (by omega)).mono ?_
       rintro e w2 ⟨rfl,ac⟩
       have aj:=zAa ab ac ab.size
       go_wp2_with fail
       go_ret
       exact ⟨zAu (by rw [HF.out];simp),aj⟩)
end Go.Proofs.YtlmdfmnbcndhoaaGreatDoor
namespace Go.Proofs.YtlmdfmnbcndhoaaGreatDoor
open Go.RowKit
theorem DiaF.next {w w':World} {base p k:Nat} {A:Option Addr} {n c:Nat} {L:List Lt} {b g2 g3 g4 g6:Nat} {s:List Bool} {P C ids:List Int} (h:DiaF w base p k A n c L b g2 g3 g4 g6 s P C ids) (hb:Below w.heap.size w w'):DiaF w' base p k A n c L b g2 g3 g4 g6 s P C ids :=
 ⟨⟨h.ranks.dia.next hb,h.ranks.down.below hb h.ranks.down.lt,h.ranks.axis.below hb h.ranks.axis.lt,h.ranks.place.below hb h.ranks.place.lt,h.ranks.count.below hb h.ranks.count.lt,h.ranks.downs,h.ranks.places,h.ranks.counts,h.ranks.ndown⟩,h.vis.next hb,h.lets.below hb,h.good,h.small⟩
theorem zSn (d base p k:Nat) (A:Option Addr) (n c:Nat) (L:List Lt) (b g2 g3 g4 g6:Nat) (s:List Bool) (P C ids:List Int) (w:World) (h:DiaF w base p k A n c L b g2 g3 g4 g6 s P C ids) (hd:d < zBS L) :
  Calls Tryz.prog 200 #[.pointer (Z ⟨p,0,U⟩),D J d] w fun e w'=>e=.returned (D J (zAG L (axL L) d))∧Below w.heap.size w w':=by
 have hl:=h.lets.len;rcases Nat.lt_or_ge d (2*n) with hlt | hge
 ·rcases h.good.kinds (zBC n d) (by rw [hl];exact zGL hlt) with hp | hc
  ·exact zJJ d base p k A n c L b g2 g3 g4 g6 s P C ids w h hlt hp
  ·exact zIl d base p k A n c L b g2 g3 g4 g6 s P C ids w h hlt hc
 ·exact zJG d base p k A n c L b g2 g3 g4 g6 s P C ids w h hd hge
def unW (w:World) (g:Nat):Nat :=
 match w.heap[g]? with
 | some (.cells cs _ _)=>cs.toList.countP (fun v=>match v with | G b=>!b | _=>E)
 | _=>0
theorem OwnB.unW {w:World} {base g n:Nat} {s:List Bool} (h:OwnB w base g n s):unW w g=unN s:=by
 have hb:=h.blk;unfold Blk at hb;unfold Proofs.YtlmdfmnbcndhoaaGreatDoor.unW unN;rw [hb];simp only [List.countP_map];rfl
theorem Good.visits {K:Int} {L:List Lt} (g:Good K L):dN L L.length=cN L L.length / 2:=by
 refine zVW ?_;unfold zBR;simp only [Bool.and_eq_true,decide_eq_true_eq,zAF];exact ⟨g.ceven,g.cross⟩
theorem zUU {f:Nat→Nat} {k:Nat} {s:List Bool} {x:Nat} (h:sat s x=Q):zBz f k s x=([],s):=by
 cases k with
 | zero=>rfl
 | succ k=>unfold zBz;rw [if_pos h]
theorem zUV {f:Nat→Nat} {k:Nat} {s:List Bool} {x:Nat} (h:sat s x=E):zBz f (k+1) s x=(x :: (zBz f k (s.set x Q) (f x)).1,(zBz f k (s.set x Q) (f x)).2):=by
 conv=>lhs;unfold zBz
 rw [if_neg (by rw [h];simp)]
theorem zWv {f:Nat→Nat} {d k:Nat} {s:List Bool} (h:sat s d=Q):zBc f (List.range' d (k+1)) s=zBc f (List.range' (d+1) k) s:=by
 rw [List.range'_succ];conv=>lhs;unfold zBc
 rw [if_pos h]
theorem zXF {f:Nat→Nat} {d k:Nat} {s:List Bool} (h:sat s d=E):zBc f (List.range' d (k+1)) s=(zBz f s.length s d).1 :: zBc f (List.range' (d+1) k) (zBz f s.length s d).2:=by
 rw [List.range'_succ];conv=>lhs;unfold zBc
 rw [if_neg (by rw [h];simp)]
set_option maxRecDepth 100000 in
set_option maxHeartbeats 3200000 in
theorem zMQ (base p k:Nat) (A:Option Addr) (n c:Nat) (L:List Lt) (b g2 g3 g4 g6:Nat) (s:List Bool) (P C ids:List Int) (w:World) (h:DiaF w base p k A n c L b g2 g3 g4 g6 s P C ids) :
  Calls Tryz.prog 179 #[.pointer (Z ⟨p,0,U⟩)] w fun e w'=>e=.returned (G (zKf L))∧Below w.heap.size w w':=by
 have fN:=h.small;have aA:=qH h.lets.len;have hD:=h.ranks.dia;obtain ⟨m,hm⟩:∃m,m=(axL L).length:=⟨_,rfl⟩
 have hmn:m≤n:=by rw [hm,zEJ,aA.out];exact zIe L n
 obtain ⟨N,hN⟩:∃N,N=zBS L:=⟨_,rfl⟩
 have xc:N=2*n+2*m:=by rw [hN,hm];unfold zBS;rw [aA.out]
 have tL:N≤17592186044416:=by omega
 have c1:=hD.c1;have c3:=hD.c3;rw [←hm] at c3;have HM:=qH hm;have HN:=qH hN;have vb:=qH xc;have hW:Hid (0+(zBc (zAG L (axL L)) (List.range' 0 (N-0)) (List.replicate N E)).length=(zBK L).length):=by
  show _=_;rw [Nat.zero_add,Nat.sub_zero,←List.range_eq_range',hN];rfl
 clear hm hN xc hD;go_enter Tryz.func179,Tryz.ntmps179;go_wp2_with fail
 go_quiet (fail)
 generalize hwx:w.drewN nq=wx;have hbx:Below w.heap.size w wx:=by rw [←hwx];exact zAe (Below.refl _ _) _
 have hzx:w.heap.size=wx.heap.size:=by rw [←hwx];rfl
 have hHZ:=qH hzx;clear hwx hzx;go_wp2_with (at_make;refine zMs rfl _ _ rfl N _ rfl rfl (by have:=vb.out;omega) tL (Nat.le_refl _) ?_;rw [←hHZ.out];intro ws lq hbs0' hzs)
 have nB:Below w.heap.size w ws:=hbx.trans hbs0';clear c1 c3 hbs0' hbx;go_loopw [5,6,7,25] (fun v5 _ _ v25 wr=>∃(d q:Nat) (s':List Bool),d≤N∧q≤d∧v25=D J d∧v5=D J q∧OwnB wr w.heap.size w.heap.size N s'∧Below w.heap.size w wr∧Hid (q+(zBc (zAG L (axL L)) (List.range' d (N-d)) s').length=(zBK L).length)) (fun _ _ _ v25 _=>N-(intOf v25).toNat)
 case atStart=>exact ⟨0,0,List.replicate N E,Nat.zero_le _,Nat.le_refl _,rfl,rfl,lq,nB,hW⟩
 case round =>
  obtain ⟨d,q,s',hd,hqd,rfl,rfl,hs,hbw,HW⟩:=hrel;clear lq hW nB;by_cases hdN:d < N
  ·have hcs:=hs.cell hdN;have i0:(0:Int)≤(d:Int):=by omega
   have i1:(d:Int) < (N:Int):=by omega
   have i2:(d:Int) < 2*(n:Int)+2*(m:Int):=by have:=vb.out;omega
   cases hsd:sat s' d with
   | true =>
    rw [hsd] at hcs
    have C0:=qH (show q+(zBc (zAG L (axL L)) (List.range' (d+1) (N-(d+1))) s').length=(zBK L).length by
     rw [←HW.out,show N-d=N-(d+1)+1 by omega,zWv hsd])
    clear hsd HW;go_wp2_with fail
    go_roundw
    case rel=>exact ⟨d+1,q,s',by omega,by omega,by go_num,rfl,hs,hbw,C0⟩
    case measure=>simp [intOf];omega
   | false =>
    rw [hsd] at hcs
    have xi:=qH (show q+1+(zBc (zAG L (axL L)) (List.range' (d+1) (N-(d+1))) (zBz (zAG L (axL L)) N s' d).2).length=(zBK L).length by
     rw [←HW.out,show N-d=N-(d+1)+1 by omega,zXF hsd,hs.len];simp;omega)
    clear hsd HW;have AW:unN s'≤N:=by rw [←hs.len];exact zTp s'
    go_wp2_with fail
    obtain ⟨wo,rfl⟩:∃wo:World,wo=wr:=⟨_,rfl⟩
    go_loopw [7] (fun v7 wi=>∃(x k:Nat) (si:List Bool),x < N∧v7=D J x∧OwnB wi w.heap.size w.heap.size N si∧Below w.heap.size w wi∧unN si≤k∧Hid ((zBz (zAG L (axL L)) k si x).2=(zBz (zAG L (axL L)) N s' d).2)) (fun _ wi=>unW wi w.heap.size)
    case atStart=>exact ⟨d,N,s',hdN,rfl,hs,hbw,AW,qH rfl⟩
    case round =>
     obtain ⟨x,k',si,hx,rfl,hsi,hbi,huk,HP⟩:=hrel;have j0:(0:Int)≤(x:Int):=by omega
     have j1:(x:Int) < (N:Int):=by omega
     have hcx:=hsi.cell hx;have hfx:=hsi.frozen x
     cases hsx:sat si x with
     | true =>
      rw [hsx] at hcx;have jC:=HP.out;rw [zUU hsx] at jC
      have tO:=qH (show q+1+(zBc (zAG L (axL L)) (List.range' (d+1) (N-(d+1))) si).length=(zBK L).length by
       rw [←xi.out,←jC])
      clear hsx HP jC xi hs hbw;go_wp2_with fail
      go_roundw
      case rel=>exact ⟨d+1,q+1,si,by omega,by omega,by go_num,by go_num,hsi,hbi,tO⟩
      case measure=>simp [intOf];omega
     | false =>
      rw [hsx] at hcx;obtain ⟨k',rfl⟩:∃k'',k'=k''+1:=⟨k'-1,by have:=zPm hsx;omega⟩
      have hus:=zJk hsx;have jC:=HP.out;rw [zUV hsx] at jC;have gI:=qH jC;clear hsx HP jC;have uH:=hsi.stored x Q;have dT:=hbi.setCell (p:=⟨w.heap.size,x,U⟩) (Nat.le_refl _) (G Q);have np:zAG L (axL L) x < N:=by rw [HN.out];exact h.good.into (by rw [←HN.out];exact hx)
      have hu1:=hsi.unW;go_wp2_with fail
      refine (zSn x base p k A n c L b g2 g3 g4 g6 s P C ids _ (h.next dT) (by rw [←HN.out];exact hx)).mono ?_;rintro e w5 ⟨rfl,ai⟩;have sK:=uH.below ai uH.lt;have tD:=zAa dT ai dT.size;have hu5:=sK.unW;clear uH dT ai hcx hfx hcs;generalize zAG L (axL L) x=x' at np gI ⊢;go_wp2_with fail
      go_roundw
      case rel=>exact ⟨x',k',si.set x Q,np,rfl,sK,tD,by omega,gI⟩
      case measure=>simp only [hu5,hu1];omega
  ·have i3:¬(d:Int) < 2*(n:Int)+2*(m:Int):=by have:=vb.out;omega
   obtain rfl:N=d:=by omega
   have nE:q=(zBK L).length:=by
    have:=HW.out;rw [Nat.sub_self] at this;simpa [zBc] using this
   have HQ:=qH nE;clear nE HW;have hF:=h.next hbw;have e1:=hF.ranks.dia.c3;rw [←HM.out] at e1;have e4:=hF.ranks.dia.c5;have mf:=(hF.vis.drew).run_len 3;have hlen:ids.length=cN L n / 2:=by
    have h1:=hF.vis.len;have h2:=hF.good.visits;rw [aA.out] at h2;rw [h1,h2]
   have hcn:=zKg L n;have hi1:ids.length≤1000:=by omega
   have hf:=qH (show zKf L=decide ((q:Int)=(m:Int)+(ids.length:Int)+2) by
    unfold zKf
    rw [←HQ.out,hlen,HM.out,zEJ,aA.out,Bool.eq_iff_iff]
    simp only [beq_iff_eq,decide_eq_true_eq]
    omega)
   clear hlen hF;go_wp2_with fail
   go_region
   all_goals
    go_wp2_with fail
    go_ret;exact ⟨zAi (by rw [hf.out];rfl),hbw.drew⟩
end Go.Proofs.YtlmdfmnbcndhoaaGreatDoor
namespace Go.Proofs.YtlmdfmnbcndhoaaGreatDoor
open Go.RowKit
def zII (p:Nat):Array Value:=#[.func (.func 175) #[.pointer (Z ⟨p,0,U⟩)] #[],.func (.func 176) #[.pointer (Z ⟨p,0,U⟩)] #[],.func (.func 177) #[.pointer (Z ⟨p,0,U⟩)] #[],.func (.func 178) #[.pointer (Z ⟨p,0,U⟩)] #[],.func (.func 179) #[.pointer (Z ⟨p,0,U⟩)] #[]]
theorem zWw:(Tryz.prog.info? 26).map (fun i=>(i.zero,i.size,i.bytes))=Z (Z .nilFunc,1,8):=by kernel_rfl
theorem buildV (p:Nat) (w:World):(Instr.buildSlice 215 5 #[(0,.func (.func 175) #[.pointer (Z ⟨p,0,U⟩)] #[]),(1,.func (.func 176) #[.pointer (Z ⟨p,0,U⟩)] #[]),(2,.func (.func 177) #[.pointer (Z ⟨p,0,U⟩)] #[]),(3,.func (.func 178) #[.pointer (Z ⟨p,0,U⟩)] #[]),(4,.func (.func 179) #[.pointer (Z ⟨p,0,U⟩)] #[])]).run Tryz.prog w=.ok (H (Z ⟨w.heap.size,0,U⟩) 5 5) (w.alloc (.cells (zII p) 26)):=by
 obtain ⟨i0,hi,aT,az,bt⟩:=info_parts zWw;refine run_buildSlice w _ _ 5 _ _ i0 _ Tryz.underlying215 hi aT (by rw [az];omega) (by rw [az];omega) ?_;rw [az]
 kernel_rfl
def VS (w:World) (p k:Nat) (A:Option Addr) (n c:Nat) (L:List Lt) (v2 v3 v4 v5 v6:Value) (i:Nat) (wr:World):Prop :=
 (i=0∧Dia wr p (k:Int) A n c v2 v3 v4 v5 v6)∨(i=1∧zAB (k:Int) L=Q∧Dia wr p (k:Int) A n c v2 v3 v4 v5 v6) ∨
 (i=2∧zAB (k:Int) L=Q∧(isP (la L 0)&&decide (pN L n % 2=0))=Q∧Dia wr p (k:Int) A n c v2 v3 v4 v5 v6) ∨
 (i=3∧zAB (k:Int) L=Q∧(isP (la L 0)&&decide (pN L n % 2=0))=Q∧zCy L=Q∧∃base g2 g3 g4 g6 s P C,w.heap.size≤base∧DiaR wr base p k A n c L v5 g2 g3 g4 g6 s P C) ∨
 (i=4∧zAB (k:Int) L=Q∧(isP (la L 0)&&decide (pN L n % 2=0))=Q∧zCy L=Q∧zBR L=Q∧∃base b g2 g3 g4 g6 s P C ids,w.heap.size≤base∧DiaF wr base p k A n c L b g2 g3 g4 g6 s P C ids) ∨
 (i=5∧zBd (k:Int) L=Q∧∃base b g2 g3 g4 g6 s P C ids,w.heap.size≤base∧DiaF wr base p k A n c L b g2 g3 g4 g6 s P C ids)
def zKM (w:World) (p k:Nat) (A:Option Addr) (n c:Nat) (L:List Lt) (v2 v3 v4 v5 v6:Value) (e:Ending) (w':World):Prop :=
 e=.returned (G (decide (n=0)||zBd (k:Int) L))∧w.grownBy w' (Z p)∧(n=0→Dia w' p (k:Int) A n c v2 v3 v4 v5 v6) ∧
 (0 < n→zBd (k:Int) L=Q→∃base b g2 g3 g4 g6 s P C ids,w.heap.size≤base∧DiaF w' base p k A n c L b g2 g3 g4 g6 s P C ids)
theorem zFD {K:Int} {L:List Lt} {n:Nat} (hL:L.length=n) (h:zAB K L=E∨(isP (la L 0)&&decide (pN L n % 2=0))=E∨zCy L=E∨zBR L=E∨zKf L=E):zBd K L=E:=by
 unfold zBd;rw [←zCC,hL];rcases h with h | h | h | h | h<;>rw [h]<;>simp
theorem zPW {K:Int} {L:List Lt} {n:Nat} (hL:L.length=n) (h1:zAB K L=Q) (h2:(isP (la L 0)&&decide (pN L n % 2=0))=Q) (h3:zCy L=Q) (h4:zBR L=Q) (h5:zKf L=Q):zBd K L=Q:=by
 unfold zBd;rw [←zCC,hL,h1,h2,h3,h4,h5];rfl
theorem DiaR.grown {w w':World} {base p k:Nat} {A:Option Addr} {n c:Nat} {L:List Lt} {v5 v5':Value} {g2 g3 g4 g6:Nat} {s:List Bool} {P C:List Int} (h:DiaR w base p k A n c L v5 g2 g3 g4 g6 s P C) (hb:p < base) (hg:w.grownBy w' (Z p))
  (hd:Dia w' p (k:Int) A n c (H (Z ⟨g2,0,U⟩) n n) (.slice (Z ⟨g3,0,U⟩) (axL L).length (axL L).length) (H (Z ⟨g4,0,U⟩) n n) v5' (H (Z ⟨g6,0,U⟩) (k+1) (k+1))):DiaR w' base p k A n c L v5' g2 g3 g4 g6 s P C :=
 ⟨hd,h.down.kept hg (by have:=h.down.base;simp;omega),h.axis.kept hg (by have:=h.axis.base;simp;omega),h.place.kept hg (by have:=h.place.base;simp;omega),h.count.kept hg (by have:=h.count.base;simp;omega),h.downs,h.places,h.counts,h.ndown⟩
set_option maxRecDepth 100000 in
set_option maxHeartbeats 6400000 in
theorem zKN (p k:Nat) (A:Option Addr) (n c:Nat) (L:List Lt) (v2 v3 v4 v5 v6:Value) (w:World) (hA:Lets w A n L) (hn:n≤400) (jt:k≤40)
  (f8:0 < n→∀a,A=Z a→p≠a.block) (hd:Dia w p (k:Int) A n c v2 v3 v4 v5 v6) :
  Calls Tryz.prog 142 #[.pointer (Z ⟨p,0,U⟩)] w (zKM w p k A n c L v2 v3 v4 v5 v6):=by
 have aA:=hA.len;have rO:=qH aA;have c1:=hd.c1;have hplt:=hd.lt;rcases Nat.eq_zero_or_pos n with h0 | h0
 ·subst h0;clear aA;go_enter Tryz.func142,Tryz.ntmps142;go_wp2_with fail
  go_ret;exact ⟨rfl,World.grownBy.refl _ _,fun _=>hd,fun h=>by omega⟩
 ·have zA:((n:Int)==0)=E:=by simp;omega
  have f8:=f8 h0;have hdn:decide (n=0)=E:=by simp;omega
  have Fr:Blk (w.alloc (.cells (zII p) 26)) w.heap.size 26 (zII p):=Blk.new _ _ _;have xt:=hd.alloc (.cells (zII p) 26);have rG:w.grownBy (w.alloc (.cells (zII p) 26)) (Z p):=World.grownBy_alloc _ _ _;clear aA;unfold zKM;rw [hdn,Bool.false_or];go_enter Tryz.func142,Tryz.ntmps142;go_wp2_with fail
  go_loopw [4,24] (fun _ v24 wr=>∃i:Nat,i≤5∧v24=D J i∧VS w p k A n c L v2 v3 v4 v5 v6 i wr∧w.grownBy wr (Z p)∧Blk wr w.heap.size 26 (zII p)) (fun _ v24 _=>5-(intOf v24).toNat)
  case atStart=>exact ⟨0,by omega,rfl,.inl ⟨rfl,xt⟩,rG,Fr⟩
  case round =>
   obtain ⟨i,hi,rfl,hV,hg,hB⟩:=hrel;clear Fr xt rG hd c1;have dM:=hA.growG hg (fun a ha e=>f8 a ha (by injection e));have hsz:=hg.size;obtain ⟨e0,e1,e2,e3,e4⟩:=cQ5 hB;rcases hV with ⟨rfl,hD⟩ | ⟨rfl,t1,hD⟩ | ⟨rfl,t1,t2,hD⟩ | ⟨rfl,t1,t2,t3,base,g2,g3,g4,g6,s,P,C,hbase,hR⟩ | ⟨rfl,t1,t2,t3,t4,base,b,g2,g3,g4,g6,s,P,C,ids,hbase,hF⟩ | ⟨rfl,tv,base,b,g2,g3,g4,g6,s,P,C,ids,hbase,hF⟩
   ·clear e1 e2 e3 e4
    cases hx:zAB (k:Int) L with
    | true =>
     have HX:=qH hx;go_wp2_with fail
     refine (zHS p (k:Int) A n c L _ _ _ _ _ _ dM hD).mono ?_;rintro e w1 ⟨rfl,ah⟩;have uU:=hD.next ah;have jE:=hB.below ah hB.lt;have cm:=zAm hg ah hg.size;rw [hx];clear hx hD hB hg;go_wp2_with fail
     go_roundw
     case rel=>exact ⟨1,by omega,by go_num,.inr (.inl ⟨rfl,HX.out,uU⟩),cm,jE⟩
     case measure=>simp [intOf]
    | false =>
     have HX:=qH (zFD rO.out (.inl hx));go_wp2_with fail
     refine (zHS p (k:Int) A n c L _ _ _ _ _ _ dM hD).mono ?_;rintro e w1 ⟨rfl,ah⟩;have cm:=zAm hg ah hg.size;rw [hx];clear hx hD hB hg;go_wp2_with fail
     go_ret;exact ⟨zAi HX.out.symm,cm,fun h=>by omega,fun _ h=>by rw [HX.out] at h;cases h⟩
   ·clear e0 e2 e3 e4;have T1:=qH t1;clear t1
    cases hx:(isP (la L 0)&&decide (pN L n % 2=0)) with
    | true =>
     have HX:=qH hx;go_wp2_with fail
     refine (zIG p (k:Int) A n c L _ _ _ _ _ _ dM h0 hD).mono ?_;rintro e w1 ⟨rfl,ah⟩;have uU:=hD.next ah;have jE:=hB.below ah hB.lt;have cm:=zAm hg ah hg.size;rw [hx];clear hx hD hB hg;go_wp2_with fail
     go_roundw
     case rel=>exact ⟨2,by omega,by go_num,.inr (.inr (.inl ⟨rfl,T1.out,HX.out,uU⟩)),cm,jE⟩
     case measure=>simp [intOf]
    | false =>
     have HX:=qH (zFD (K:=(k:Int)) rO.out (.inr (.inl hx)));go_wp2_with fail
     refine (zIG p (k:Int) A n c L _ _ _ _ _ _ dM h0 hD).mono ?_;rintro e w1 ⟨rfl,ah⟩;have cm:=zAm hg ah hg.size;rw [hx];clear hx hD hB hg;go_wp2_with fail
     go_ret;exact ⟨zAi HX.out.symm,cm,fun h=>by omega,fun _ h=>by rw [HX.out] at h;cases h⟩
   ·clear e0 e1 e3 e4;have T1:=qH t1;have T2:=qH t2;clear t1 t2
    cases hx:zCy L with
    | true =>
     have HX:=qH hx;go_wp2_with fail
     refine (zKL p k A n c L _ _ _ _ _ _ dM hn jt T1.out f8 hD).mono ?_;rintro e w1 ⟨rfl,cm,hr⟩;have jE:=hB.grown cm (by simp;omega);have bG:=zAb hg cm;obtain ⟨g2,g3,g4,g6,s,P,C,hR⟩:=hr hx;rw [hx];clear hx hD hB hg hr;go_wp2_with fail
     go_roundw
     case rel=>exact ⟨3,by omega,by go_num,.inr (.inr (.inr (.inl ⟨rfl,T1.out,T2.out,HX.out,_,g2,g3,g4,g6,s,P,C,hsz,hR⟩))),bG,jE⟩
     case measure=>simp [intOf]
    | false =>
     have HX:=qH (zFD (K:=(k:Int)) rO.out (.inr (.inr (.inl hx))));go_wp2_with fail
     refine (zKL p k A n c L _ _ _ _ _ _ dM hn jt T1.out f8 hD).mono ?_;rintro e w1 ⟨rfl,cm,hr⟩;have bG:=zAb hg cm;rw [hx];clear hx hD hB hg hr;go_wp2_with fail
     go_ret;exact ⟨zAi HX.out.symm,bG,fun h=>by omega,fun _ h=>by rw [HX.out] at h;cases h⟩
   ·clear e0 e1 e2 e4;have T1:=qH t1;have T2:=qH t2;have T3:=qH t3;clear t1 t2 t3;have hD:=hR.dia
    cases hx:zBR L with
    | true =>
     have HX:=qH hx;go_wp2_with fail
     refine (zFC p (k:Int) A n c L _ _ _ _ _ _ dM hn f8 hD).mono ?_;rintro e w1 ⟨rfl,cm,hr⟩;have jE:=hB.grown cm (by simp;omega);have bG:=zAb hg cm;obtain ⟨b,ids,hbb,uU,EP⟩:=hr hx;have e9:=hR.grown (by omega) cm uU;have oF:=dM.growG cm (fun a ha e=>f8 a ha (by injection e));have Cl:DiaF w1 base p k A n c L b g2 g3 g4 g6 s P C ids:=⟨e9,EP,oF,zDu (by rw [rO.out];exact h0) (by have:=T2.out;simp at this;exact this.1) (by have:=T2.out;simp at this;rw [rO.out];exact this.2) T1.out T3.out HX.out,hn⟩;rw [hx];clear hx hD hB hg hr uU EP e9 oF hR;go_wp2_with fail
     go_roundw
     case rel=>exact ⟨4,by omega,by go_num,.inr (.inr (.inr (.inr (.inl ⟨rfl,T1.out,T2.out,T3.out,HX.out,base,b,g2,g3,g4,g6,s,P,C,ids,hbase,Cl⟩)))),bG,jE⟩
     case measure=>simp [intOf]
    | false =>
     have HX:=qH (zFD (K:=(k:Int)) rO.out (.inr (.inr (.inr (.inl hx)))));go_wp2_with fail
     refine (zFC p (k:Int) A n c L _ _ _ _ _ _ dM hn f8 hD).mono ?_;rintro e w1 ⟨rfl,cm,hr⟩;have bG:=zAb hg cm;rw [hx];clear hx hD hB hg hr hR;go_wp2_with fail
     go_ret;exact ⟨zAi HX.out.symm,bG,fun h=>by omega,fun _ h=>by rw [HX.out] at h;cases h⟩
   ·clear e0 e1 e2 e3;have T1:=qH t1;have T2:=qH t2;have T3:=qH t3;have T4:=qH t4;clear t1 t2 t3 t4
    cases hx:zKf L with
    | true =>
     have HX:=qH (zPW rO.out T1.out T2.out T3.out T4.out hx);go_wp2_with fail
     refine (zMQ base p k A n c L b g2 g3 g4 g6 s P C ids _ hF).mono ?_;rintro e w1 ⟨rfl,ah⟩;have Cl:=hF.next ah;have jE:=hB.below ah hB.lt;have cm:=zAm hg ah hg.size;rw [hx];clear hx hB hg hF;go_wp2_with fail
     go_roundw
     case rel=>exact ⟨5,by omega,by go_num,.inr (.inr (.inr (.inr (.inr ⟨rfl,HX.out,base,b,g2,g3,g4,g6,s,P,C,ids,hbase,Cl⟩)))),cm,jE⟩
     case measure=>simp [intOf]
    | false =>
     have HX:=qH (zFD (K:=(k:Int)) rO.out (.inr (.inr (.inr (.inr hx)))));go_wp2_with fail
     refine (zMQ base p k A n c L b g2 g3 g4 g6 s P C ids _ hF).mono ?_;rintro e w1 ⟨rfl,ah⟩;have cm:=zAm hg ah hg.size;rw [hx];clear hx hB hg hF;go_wp2_with fail
     go_ret;exact ⟨zAi HX.out.symm,cm,fun h=>by omega,fun _ h=>by rw [HX.out] at h;cases h⟩
   ·have TV:=qH tv;clear tv e0 e1 e2 e3 e4;go_wp2_with fail
    go_ret;exact ⟨zAi TV.out.symm,hg,fun h=>by omega,fun _ _=>⟨base,b,g2,g3,g4,g6,s,P,C,ids,hbase,hF⟩⟩
end Go.Proofs.YtlmdfmnbcndhoaaGreatDoor
namespace Go.Proofs.YtlmdfmnbcndhoaaGreatDoor
open Go.RowKit
def zWx (w:World) (K:Int) (A:Option Addr) (n c:Nat) (L:List Lt) (p:Nat) (w':World):Prop :=
 ∃k:Nat,K=(k:Int)∧k≤40∧n≤400∧w.heap.size≤p ∧
  ((n=0∧Dia w' p K A n c (H U 0 0) (H U 0 0) (H U 0 0) (.map U) (H U 0 0))∨(0 < n∧∃base b g2 g3 g4 g6 s P C ids,w.heap.size≤base∧DiaF w' base p k A n c L b g2 g3 g4 g6 s P C ids))
def zSo (w:World) (K:Int) (A:Option Addr) (n c:Nat) (L:List Lt) (e:Ending) (w':World):Prop :=
 ∃v,e=.returned (.tuple #[v,D J (zAy K L)])∧Below w.heap.size w w'∧(zAy K L=0→∃p,v=.pointer (Z ⟨p,0,U⟩)∧zWx w K A n c L p w')
theorem zWy {K:Int} {L:List Lt} (h:400 < L.length∨200 < cN L L.length):zAy K L=7:=by unfold zAy;rw [if_pos h]
theorem zXG {K:Int} {L:List Lt} (h:¬(400 < L.length∨200 < cN L L.length)) (h2:K < 0∨40 < K):zAy K L=2:=by unfold zAy;rw [if_neg h,if_pos h2]
theorem zXH {K:Int} {L:List Lt} {n:Nat} (hL:L.length=n) (h:¬(400 < L.length∨200 < cN L L.length)) (h2:¬(K < 0∨40 < K)):zAy K L=if (decide (n=0)||zBd K L)=Q then 0 else 3:=by
 unfold zAy;rw [if_neg h,if_neg h2];subst hL;by_cases h3:L.length=0
 ·rw [if_pos h3,if_pos (by simp [h3])]
 ·rw [if_neg h3]
  cases zBd K L<;>simp [h3]
set_option maxRecDepth 100000 in
set_option maxHeartbeats 6400000 in
theorem zPX (K:Int) (A:Option Addr) (n c:Nat) (L:List Lt) (w:World) (hA:Lets w A n L) :
  Calls Tryz.prog 95 #[.agg #[D J K,H A n c]] w (zSo w K A n c L):=by
 have hle:=hA.le;have aA:L.length=n:=hA.len;have hbx:=Boxed.refl w K A n c;by_cases h400:400 < n
 ·have hf:=qH (zWy (K:=K) (L:=L) (.inl (by omega)));have q:(400:Int) < (n:Int):=by omega
  clear aA;go_enter Tryz.func95,Tryz.ntmps95;go_wp2_with fail
  go_ret2;exact ⟨.pointer U,by rw [hf.out];rfl,hbx.below,fun h=>by rw [hf.out] at h;cases h⟩
 ·have q:decide ((400:Int) < (n:Int))=E:=by simp;omega
  by_cases h200:200 < cN L n
  ·have hf:=qH (zWy (K:=K) (L:=L) (.inr (by rw [aA];exact h200)));have q2:(200:Int) < (cN L n:Int):=by omega
   clear aA;go_enter Tryz.func95,Tryz.ntmps95;go_wp2_with fail
   refine (zBn K A n c L _ (hA.below hbx.below)).mono ?_;rintro e w1 ⟨rfl,ah⟩;have ab:=hbx.more ah;go_wp2_with fail
   go_ret2;exact ⟨.pointer U,by rw [hf.out];rfl,ab.below,fun h=>by rw [hf.out] at h;cases h⟩
  ·have q2:decide ((200:Int) < (cN L n:Int))=E:=by simp;omega
   have hno:¬(400 < L.length∨200 < cN L L.length):=by rw [aA];omega
   by_cases hK:K < 0∨40 < K
   ·have hf:=qH (zXG (K:=K) (L:=L) hno hK);have hall:K < 0∨(decide (K < 0)=E∧40 < K):=by simp;omega
    clear hK aA hno;rcases hall with k1 | ⟨k1,k2⟩
    all_goals
     go_enter Tryz.func95,Tryz.ntmps95;go_wp2_with fail
     refine (zBn K A n c L _ (hA.below hbx.below)).mono ?_;rintro e w1 ⟨rfl,ah⟩;have ab:=hbx.more ah;have x0:=ab.c0;have x1:=ab.c1;go_wp2_with fail
     go_ret2;exact ⟨.pointer U,by rw [hf.out];rfl,ab.below,fun h=>by rw [hf.out] at h;cases h⟩
   ·have k1:decide (K < 0)=E:=by simp;omega
    have k2:decide (40 < K)=E:=by simp;omega
    have hf:=zXH aA hno hK;obtain ⟨k,rfl⟩:∃k:Nat,K=(k:Int):=⟨K.toNat,by omega⟩
    have jt:k≤40:=by omega
    clear hno hK aA
    cases hv:(decide (n=0)||zBd (k:Int) L) with
    | true =>
     rw [hv,if_pos rfl] at hf;have HF:=qH hf;have HV:=qH hv;clear hf hv;go_enter Tryz.func95,Tryz.ntmps95;go_wp2_with fail
     refine (zBn (k:Int) A n c L _ (hA.below hbx.below)).mono ?_;rintro e w1 ⟨rfl,ah⟩;have ab:=hbx.more ah;have x0:=ab.c0;have x1:=ab.c1;have tW:=hA.below ab.below;have fZ:=ab.size;have f8:0 < n→∀a,A=Z a→w1.heap.size≠a.block:=fun hn a ha=>by
      obtain ⟨g,o,e,hg,_⟩:=tW.2.2.2 hn;rw [ha] at e;injection e with e
      subst e;simp;omega
     have iw:=qH f8;clear f8;go_wp2_with fail
     refine (zKN w1.heap.size k A n c L (H U 0 0) (H U 0 0) (H U 0 0) (.map U) (H U 0 0) _ (tW.alloc _) (by omega) jt iw.out (Blk.new w1 _ _)).mono ?_;rintro e w2 ⟨rfl,bG,hz,xk⟩;have h5:Below w1.heap.size w1 w2:=((Below.refl _ _).alloc (Nat.le_refl _) _).trans (zBU bG (Nat.le_refl _) (by simp));have h6:=zAa ab.below h5 (by omega);rw [HV.out];have HZ:=qH hz;have Gy:=qH xk;clear x0 x1 ab ah hbx bG hz xk tW h5;go_wp2_with fail
     go_ret2;refine ⟨.pointer (Z ⟨w1.heap.size,0,U⟩),by rw [HF.out];rfl,h6,fun _=>⟨w1.heap.size,rfl,k,rfl,jt,by omega,by omega,?_⟩⟩;rcases Nat.eq_zero_or_pos n with h0 | h0
     ·exact .inl ⟨h0,HZ.out h0⟩
     ·have hv:=HV.out;rw [show decide (n=0)=E by simp;omega,Bool.false_or] at hv;obtain ⟨base,b,g2,g3,g4,g6,s,P,C,ids,hbase,hF⟩:=Gy.out h0 hv;have hsz:(w1.alloc (.cells #[D J (k:Int),H A n c,H U 0 0,H U 0 0,H U 0 0,.map U,H U 0 0] 148)).heap.size=w1.heap.size+1:=by simp
      exact .inr ⟨h0,base,b,g2,g3,g4,g6,s,P,C,ids,by omega,hF⟩
    | false =>
     rw [hv] at hf;have HF:=qH (show zAy (k:Int) L=3 from hf);have HV:=qH hv;clear hf hv;go_enter Tryz.func95,Tryz.ntmps95;go_wp2_with fail
     refine (zBn (k:Int) A n c L _ (hA.below hbx.below)).mono ?_;rintro e w1 ⟨rfl,ah⟩;have ab:=hbx.more ah;have x0:=ab.c0;have x1:=ab.c1;have tW:=hA.below ab.below;have fZ:=ab.size;have f8:0 < n→∀a,A=Z a→w1.heap.size≠a.block:=fun hn a ha=>by
      obtain ⟨g,o,e,hg,_⟩:=tW.2.2.2 hn;rw [ha] at e;injection e with e
      subst e;simp;omega
     have iw:=qH f8;clear f8;go_wp2_with fail
     refine (zKN w1.heap.size k A n c L (H U 0 0) (H U 0 0) (H U 0 0) (.map U) (H U 0 0) _ (tW.alloc _) (by omega) jt iw.out (Blk.new w1 _ _)).mono ?_;rintro e w2 ⟨rfl,bG,hz,xk⟩;have h5:Below w1.heap.size w1 w2:=((Below.refl _ _).alloc (Nat.le_refl _) _).trans (zBU bG (Nat.le_refl _) (by simp));have h6:=zAa ab.below h5 (by omega);rw [HV.out];have HZ:=qH hz;have Gy:=qH xk;clear x0 x1 ab ah hbx bG hz xk tW h5;go_wp2_with fail
     go_ret2;exact ⟨.pointer U,by rw [HF.out];rfl,h6,fun h=>by rw [HF.out] at h;cases h⟩
set_option maxHeartbeats 800000 in
theorem zNX (K:Int) (A:Option Addr) (n c:Nat) (L:List Lt) (w:World) (hA:Lets w A n L) :
  Calls Tryz.prog 122 #[.agg #[D J K,H A n c]] w fun e w'=>e=.returned (D J (zAy K L))∧Below w.heap.size w w':=by
 have hbx:=Boxed.refl w K A n c;have x0:=hbx.c0;have x1:=hbx.c1;go_enter Tryz.func122,Tryz.ntmps122;go_wp2_with fail
 refine (zPX K A n c L _ (hA.below hbx.below)).mono ?_;rintro e w1 ⟨v,rfl,ah,_⟩;have ab:=hbx.more ah;clear x0 x1 hbx ah;go_wp2_with fail
 go_ret;exact ⟨rfl,ab.below⟩
end Go.Proofs.YtlmdfmnbcndhoaaGreatDoor
namespace Go.Proofs.YtlmdfmnbcndhoaaGreatDoor
theorem zXl {L:List Lt} {i:Nat} (hp:isP (la L i)=Q):dwn L (i+1) = !dwn L i:=by
 have h:pN L (i+1)=pN L i+1:=zAA hp;unfold dwn;rw [h,Bool.eq_iff_iff];simp;omega
theorem zXI {L:List Lt} {i:Nat} (hp:isP (la L i)=E):dwn L (i+1)=dwn L i:=by
 have h:pN L (i+1)=pN L i:=zAp hp;unfold dwn;rw [h]
section
variable {K:Int} {L:List Lt}
section
variable {X:Nat→Nat}
end
end
end Go.Proofs.YtlmdfmnbcndhoaaGreatDoor
