/-
  Lemmas for NotesLong, part 31: contracts and plain facts. Conditions: those that each theorem names.
-/
import Derived.Test.YtlmdfmnbcndhoaaGreatDoorLg30
import Derived.Test.YtlmdfmnbcndhoaaGreatDoorLg12
namespace Go.Proofs.YtlmdfmnbcndhoaaGreatDoor
open Go.RowKit
set_option maxRecDepth 100000 in
set_option maxHeartbeats 3200000 in
theorem zIp (d base p k:Nat) (A:Option Addr) (n c:Nat) (L:List Lt) (b g2 g3 g4 g6:Nat) (s:List Bool) (P C ids:List Int) (w:World) (h:DiaF w base p k A n c L b g2 g3 g4 g6 s P C ids) (hlt:d < 2*n) (hc:isC (la L (zAD n d))=true) :
  Calls Tryz.prog 200 #[.pointer (some ⟨p,0,none⟩),.int .i64 d] w fun e w'=>e=.returned (.int .i64 (zAy L (axL L) d))∧Below w.heap.size w w':=by
 have hn:=h.small;have hA:=h.lets;have g:=h.good;have hLn:L.length=n:=hA.len;have hmp:=g.m_pos;have hml:(axL L).length≤n:=by rw [zEN,←hLn];exact zIg L _
 have hD:=h.ranks.dia;have c1:=hD.c1;have c3:=hD.c3;obtain ⟨m,hm⟩:∃m,m=(axL L).length:=⟨_,rfl⟩
 rw [←hm] at hmp hml c3;obtain ⟨v,hv⟩:∃v,v=zAD n d:=⟨_,rfl⟩
 obtain ⟨e,he,hvn,hcase⟩:=zEs hlt hv;rw [←hv] at hc;have hf:=g.left_cross (d:=d) (by omega) (by rw [hLn,←hv];exact hc);rw [hLn,←hv] at hf;have hov:zCr L v < n:=by rw [←hLn];exact zBB (g.other hc).2.1
 have hlast:=g.last hc;rw [hLn] at hlast;have htp:0 < tN L (la L v).id n:=zIv (i:=v) hvn (by simp [hc]);have hI:=(hA.fits (la L v) (by unfold la;rw [List.getElem?_eq_getElem (by omega)];exact List.getElem_mem _)).id;have hk:(la L v).kind=2:=by unfold isC at hc;simpa using hc
 obtain ⟨gg,o,rfl,hgl,hx,_⟩:=hA.at_ hvn;obtain ⟨x0,x1,x2,x3,x4,x5⟩:=hx;have q0:decide ((2:Int)*(n:Int)≤(d:Int))=false:=by simp;omega
 have q6:((la L v).kind==1)=false:=by simp;omega
 have v0:(0:Int)≤(v:Int):=by omega
 have v1:(v:Int) < (n:Int):=by omega
 have l0:=hD.lt;have HL1:=Lib.hid hlast;have HVS:=Lib.hid h.vis;have HDD:=Lib.hid hD;clear hv hc hk hm hLn hD hlast
 cases hS:((la L v).sign==1)<;>cases hO:(la L v).over<;>rcases hcase with ⟨hp,hq⟩ | ⟨hp,hq⟩
 all_goals
  rw [hO,hS] at hf;rw [hO] at HL1;simp only [Bool.not_true,Bool.not_false] at HL1
  first
   | (have q2:((d:Int) % 2==0)=true:=(by simp;omega)
      have q2':(d % 2==0)=true:=(by simp;omega)
      rw [q2'] at hf
      clear q2')
   | (have q2:((d:Int) % 2==0)=false:=(by simp;omega)
      have q2':(d % 2==0)=false:=(by simp;omega)
      rw [q2'] at hf
      clear q2'
      subst hq)
  have HF:=Lib.hid hf;clear hf hp;go_enter Tryz.func200,Tryz.ntmps200;go_wp2_with fail
  go_quiet (fail)
  generalize hwx:w.drewN nq=wx;have hbx:Below w.heap.size w wx:=by rw [←hwx];exact zAf (Below.refl _ _) _
  have hDx:=HDD.out.next hbx;have y1:=hDx.c1;have hVx:=HVS.out.next hbx;have z0:=(hbx.cell (World.block_lt_of_cell? w _ x0)).trans x0;have z1:=(hbx.cell (World.block_lt_of_cell? w _ x1)).trans x1;have z2:=(hbx.cell (World.block_lt_of_cell? w _ x2)).trans x2;have z3:=(hbx.cell (World.block_lt_of_cell? w _ x3)).trans x3;have z4:=(hbx.cell (World.block_lt_of_cell? w _ x4)).trans x4;have z5:=(hbx.cell (World.block_lt_of_cell? w _ x5)).trans x5;have hzz:=hbx.size;have m0:p < wx.heap.size:=by omega
  clear hwx c1 c3 x0 x1 x2 x3 x4 x5;go_wp2_with fail
  generalize hW:wx.alloc _=W;have hbW:Below wx.heap.size wx W:=by rw [←hW];exact (Below.refl _ _).alloc (Nat.le_refl _) _
  have hszW:W.heap.size=wx.heap.size+1:=by rw [←hW];simp
  have hDW:=hDx.next hbW;have hVW:=hVx.next hbW;have u5:=hDW.c5;have hlA:=(hVW.drew).get hI htp;have hlB:=((hVW.alloc (.cells #[.int .i64 0,.int .i64 0] 226)).drew).get hI htp;have w3:W.cell? ⟨wx.heap.size,3,none⟩=some (.int .i64 (la L v).id):=by rw [←hW];rw [(Blk.new wx 76 _).cell 3];rfl
  have w4:W.cell? ⟨wx.heap.size,4,none⟩=some (.int .i64 (la L v).sign):=by rw [←hW];rw [(Blk.new wx 76 _).cell 4];rfl
  have w5:W.cell? ⟨wx.heap.size,5,none⟩=some (.bool (la L v).over):=by rw [hO];rw [←hW];rw [(Blk.new wx 76 _).cell 5];rfl
  clear hW;go_region
  all_goals
   generalize hX2:(World.alloc W _).drew=X2;have hbX:Below W.heap.size W X2:=by rw [←hX2];exact ((Below.refl _ _).alloc (Nat.le_refl _) _).drew
   have hpr:Blk X2 (wx.heap.size+1) 226 #[.int .i64 (zAr L (la L v).id false n),.int .i64 (zAr L (la L v).id true n)]:=by rw [←hX2,←hszW];exact (Blk.new W _ _).drew
   have r0:=hpr.cell 0;have r1:=hpr.cell 1;have s4:=(hbX.cell (World.block_lt_of_cell? W _ w4)).trans w4;have s5:=(hbX.cell (World.block_lt_of_cell? W _ w5)).trans w5;have hDX:=hDW.next hbX;go_wp2_with fail
   rw [HL1.out];have hb1:=zAa hbx hbW hbx.size;have hb2:=zAa hb1 hbX hb1.size;clear hlA hlB hDW hVW hVx hDx u5 w3 w4 w5 y1 z0 z1 z2 z3 z4 z5 r0 r1 s4 s5 hpr hbX hbW hbx
  all_goals
   first
    | (refine (zEe (zCr L v) _ _ (by omega)).mono ?_
       rintro e w2 ⟨rfl,hb3⟩
       have hb4:=zAa hb2 hb3 hb2.size
       go_wp2_with fail
       go_ret
       exact ⟨zAo (by rw [HF.out];simp [zAM]),hb4⟩)
    | (refine (zDx (zCr L v) p (k:Int) (some ⟨gg,o,none⟩) n c _ _ _ _ _ _ hDX hov (by omega)).mono ?_
       rintro e w2 ⟨rfl,hb3⟩
       have hb4:=zAa hb2 hb3 hb2.size
       go_wp2_with fail
       go_ret
       exact ⟨zAo (by rw [HF.out];simp),hb4⟩)
theorem DiaF.next {w w':World} {base p k:Nat} {A:Option Addr} {n c:Nat} {L:List Lt} {b g2 g3 g4 g6:Nat} {s:List Bool} {P C ids:List Int} (h:DiaF w base p k A n c L b g2 g3 g4 g6 s P C ids) (hb:Below w.heap.size w w'):DiaF w' base p k A n c L b g2 g3 g4 g6 s P C ids :=
 ⟨⟨h.ranks.dia.next hb,h.ranks.down.below hb h.ranks.down.lt,h.ranks.axis.below hb h.ranks.axis.lt,h.ranks.place.below hb h.ranks.place.lt,h.ranks.count.below hb h.ranks.count.lt,h.ranks.downs,h.ranks.places,h.ranks.counts,h.ranks.ndown⟩,h.vis.next hb,h.lets.below hb,h.good,h.small⟩
theorem zRG (d base p k:Nat) (A:Option Addr) (n c:Nat) (L:List Lt) (b g2 g3 g4 g6:Nat) (s:List Bool) (P C ids:List Int) (w:World) (h:DiaF w base p k A n c L b g2 g3 g4 g6 s P C ids) (hd:d < zAu L) :
  Calls Tryz.prog 200 #[.pointer (some ⟨p,0,none⟩),.int .i64 d] w fun e w'=>e=.returned (.int .i64 (zAy L (axL L) d))∧Below w.heap.size w w':=by
 have hl:=h.lets.len;rcases Nat.lt_or_ge d (2*n) with hlt | hge
 ·rcases h.good.kinds (zAD n d) (by rw [hl];exact zCP hlt) with hp | hc
  ·exact zJL d base p k A n c L b g2 g3 g4 g6 s P C ids w h hlt hp
  ·exact zIp d base p k A n c L b g2 g3 g4 g6 s P C ids w h hlt hc
 ·exact zJI d base p k A n c L b g2 g3 g4 g6 s P C ids w h hd hge
def unW (w:World) (g:Nat):Nat :=
 match w.heap[g]? with
 | some (.cells cs _ _)=>cs.toList.countP (fun v=>match v with | .bool b=>!b | _=>false)
 | _=>0
theorem OwnB.unW {w:World} {base g n:Nat} {s:List Bool} (h:OwnB w base g n s):unW w g=unN s:=by
 have hb:=h.blk;unfold Blk at hb;unfold Proofs.YtlmdfmnbcndhoaaGreatDoor.unW unN;rw [hb];simp only [List.countP_map];rfl
theorem Good.visits {K:Int} {L:List Lt} (g:Good K L):dN L L.length=cN L L.length / 2:=by
 refine zTu ?_;unfold zBM;simp only [Bool.and_eq_true,decide_eq_true_eq,zAt];exact ⟨g.ceven,g.cross⟩
theorem zUc {f:Nat→Nat} {k:Nat} {s:List Bool} {x:Nat} (h:sat s x=true):zAX f k s x=([],s):=by
 cases k with
 | zero=>rfl
 | succ k=>unfold zAX;rw [if_pos h]
theorem zUd {f:Nat→Nat} {k:Nat} {s:List Bool} {x:Nat} (h:sat s x=false):zAX f (k+1) s x=(x :: (zAX f k (s.set x true) (f x)).1,(zAX f k (s.set x true) (f x)).2):=by
 conv=>lhs;unfold zAX
 rw [if_neg (by rw [h];simp)]
theorem zVo {f:Nat→Nat} {d k:Nat} {s:List Bool} (h:sat s d=true):zAN f (List.range' d (k+1)) s=zAN f (List.range' (d+1) k) s:=by
 rw [List.range'_succ];conv=>lhs;unfold zAN
 rw [if_pos h]
theorem zWe {f:Nat→Nat} {d k:Nat} {s:List Bool} (h:sat s d=false):zAN f (List.range' d (k+1)) s=(zAX f s.length s d).1 :: zAN f (List.range' (d+1) k) (zAX f s.length s d).2:=by
 rw [List.range'_succ];conv=>lhs;unfold zAN
 rw [if_neg (by rw [h];simp)]
set_option maxRecDepth 100000 in
set_option maxHeartbeats 3200000 in
theorem zMO (base p k:Nat) (A:Option Addr) (n c:Nat) (L:List Lt) (b g2 g3 g4 g6:Nat) (s:List Bool) (P C ids:List Int) (w:World) (h:DiaF w base p k A n c L b g2 g3 g4 g6 s P C ids) :
  Calls Tryz.prog 179 #[.pointer (some ⟨p,0,none⟩)] w fun e w'=>e=.returned (.bool (zFX L))∧Below w.heap.size w w':=by
 have hn400:=h.small;have hLn:=Lib.hid h.lets.len;have hD:=h.ranks.dia;obtain ⟨m,hm⟩:∃m,m=(axL L).length:=⟨_,rfl⟩
 have hmn:m≤n:=by rw [hm,zEN,hLn.out];exact zIg L n
 obtain ⟨N,hN⟩:∃N,N=zAu L:=⟨_,rfl⟩
 have hNe:N=2*n+2*m:=by rw [hN,hm];unfold zAu;rw [hLn.out]
 have hNle:N≤17592186044416:=by omega
 have c1:=hD.c1;have c3:=hD.c3;rw [←hm] at c3;have HM:=Lib.hid hm;have HN:=Lib.hid hN;have HNE:=Lib.hid hNe;have hW:Hid (0+(zAN (zAy L (axL L)) (List.range' 0 (N-0)) (List.replicate N false)).length=(zBz L).length):=by
  show _=_;rw [Nat.zero_add,Nat.sub_zero,←List.range_eq_range',hN];rfl
 clear hm hN hNe hD;go_enter Tryz.func179,Tryz.ntmps179;go_wp2_with fail
 go_quiet (fail)
 generalize hwx:w.drewN nq=wx;have hbx:Below w.heap.size w wx:=by rw [←hwx];exact zAf (Below.refl _ _) _
 have hzx:w.heap.size=wx.heap.size:=by rw [←hwx];rfl
 have hHZ:=Lib.hid hzx;clear hwx hzx;go_wp2_with (at_make;refine zMq rfl _ _ rfl N _ rfl rfl (by have:=HNE.out;omega) hNle (Nat.le_refl _) ?_;rw [←hHZ.out];intro ws hs0 hbs0' hzs)
 have hbs0:Below w.heap.size w ws:=hbx.trans hbs0';clear c1 c3 hbs0' hbx;go_loopw [5,6,7,25] (fun v5 _ _ v25 wr=>∃(d q:Nat) (s':List Bool),d≤N∧q≤d∧v25=.int .i64 d∧v5=.int .i64 q∧OwnB wr w.heap.size w.heap.size N s'∧Below w.heap.size w wr∧Hid (q+(zAN (zAy L (axL L)) (List.range' d (N-d)) s').length=(zBz L).length)) (fun _ _ _ v25 _=>N-(intOf v25).toNat)
 case atStart=>exact ⟨0,0,List.replicate N false,Nat.zero_le _,Nat.le_refl _,rfl,rfl,hs0,hbs0,hW⟩
 case round =>
  obtain ⟨d,q,s',hd,hqd,rfl,rfl,hs,hbw,HW⟩:=hrel;clear hs0 hW hbs0;by_cases hdN:d < N
  ·have hcs:=hs.cell hdN;have i0:(0:Int)≤(d:Int):=by omega
   have i1:(d:Int) < (N:Int):=by omega
   have i2:(d:Int) < 2*(n:Int)+2*(m:Int):=by have:=HNE.out;omega
   cases hsd:sat s' d with
   | true =>
    rw [hsd] at hcs
    have HW':=Lib.hid (show q+(zAN (zAy L (axL L)) (List.range' (d+1) (N-(d+1))) s').length=(zBz L).length by
     rw [←HW.out,show N-d=N-(d+1)+1 by omega,zVo hsd])
    clear hsd HW;go_wp2_with fail
    go_roundw
    case rel=>exact ⟨d+1,q,s',by omega,by omega,by go_num,rfl,hs,hbw,HW'⟩
    case measure=>simp [intOf];omega
   | false =>
    rw [hsd] at hcs
    have hHW:=Lib.hid (show q+1+(zAN (zAy L (axL L)) (List.range' (d+1) (N-(d+1))) (zAX (zAy L (axL L)) N s' d).2).length=(zBz L).length by
     rw [←HW.out,show N-d=N-(d+1)+1 by omega,zWe hsd,hs.len];simp;omega)
    clear hsd HW;have hu0:unN s'≤N:=by rw [←hs.len];exact zPe s'
    go_wp2_with fail
    obtain ⟨wo,rfl⟩:∃wo:World,wo=wr:=⟨_,rfl⟩
    go_loopw [7] (fun v7 wi=>∃(x k:Nat) (si:List Bool),x < N∧v7=.int .i64 x∧OwnB wi w.heap.size w.heap.size N si∧Below w.heap.size w wi∧unN si≤k∧Hid ((zAX (zAy L (axL L)) k si x).2=(zAX (zAy L (axL L)) N s' d).2)) (fun _ wi=>unW wi w.heap.size)
    case atStart=>exact ⟨d,N,s',hdN,rfl,hs,hbw,hu0,Lib.hid rfl⟩
    case round =>
     obtain ⟨x,k',si,hx,rfl,hsi,hbi,huk,HP⟩:=hrel;have j0:(0:Int)≤(x:Int):=by omega
     have j1:(x:Int) < (N:Int):=by omega
     have hcx:=hsi.cell hx;have hfx:=hsi.frozen x
     cases hsx:sat si x with
     | true =>
      rw [hsx] at hcx;have hHP:=HP.out;rw [zUc hsx] at hHP
      have hHW3:=Lib.hid (show q+1+(zAN (zAy L (axL L)) (List.range' (d+1) (N-(d+1))) si).length=(zBz L).length by
       rw [←hHW.out,←hHP])
      clear hsx HP hHP hHW hs hbw;go_wp2_with fail
      go_roundw
      case rel=>exact ⟨d+1,q+1,si,by omega,by omega,by go_num,by go_num,hsi,hbi,hHW3⟩
      case measure=>simp [intOf];omega
     | false =>
      rw [hsx] at hcx;obtain ⟨k',rfl⟩:∃k'',k'=k''+1:=⟨k'-1,by have:=zLz hsx;omega⟩
      have hus:=zHs hsx;have hHP:=HP.out;rw [zUd hsx] at hHP;have HP2:=Lib.hid hHP;clear hsx HP hHP;have hsS:=hsi.stored x true;have hbS:=hbi.setCell (p:=⟨w.heap.size,x,none⟩) (Nat.le_refl _) (.bool true);have hx':zAy L (axL L) x < N:=by rw [HN.out];exact h.good.into (by rw [←HN.out];exact hx)
      have hu1:=hsi.unW;go_wp2_with fail
      refine (zRG x base p k A n c L b g2 g3 g4 g6 s P C ids _ (h.next hbS) (by rw [←HN.out];exact hx)).mono ?_;rintro e w5 ⟨rfl,hb5⟩;have hs5:=hsS.below hb5 hsS.lt;have hb5':=zAa hbS hb5 hbS.size;have hu5:=hs5.unW;clear hsS hbS hb5 hcx hfx hcs;generalize zAy L (axL L) x=x' at hx' HP2 ⊢;go_wp2_with fail
      go_roundw
      case rel=>exact ⟨x',k',si.set x true,hx',rfl,hs5,hb5',by omega,HP2⟩
      case measure=>simp only [hu5,hu1];omega
  ·have i3:¬(d:Int) < 2*(n:Int)+2*(m:Int):=by have:=HNE.out;omega
   obtain rfl:N=d:=by omega
   have hWs:q=(zBz L).length:=by
    have:=HW.out;rw [Nat.sub_self] at this;simpa [zAN] using this
   have HQ:=Lib.hid hWs;clear hWs HW;have hF:=h.next hbw;have e1:=hF.ranks.dia.c3;rw [←HM.out] at e1;have e4:=hF.ranks.dia.c5;have hl1:=(hF.vis.drew).run_len 3;have hlen:ids.length=cN L n / 2:=by
    have h1:=hF.vis.len;have h2:=hF.good.visits;rw [hLn.out] at h2;rw [h1,h2]
   have hcn:=zHi L n;have hi1:ids.length≤1000:=by omega
   have hf:=Lib.hid (show zFX L=decide ((q:Int)=(m:Int)+(ids.length:Int)+2) by
    unfold zFX
    rw [←HQ.out,hlen,HM.out,zEN,hLn.out,Bool.eq_iff_iff]
    simp only [beq_iff_eq,decide_eq_true_eq]
    omega)
   clear hlen hF;go_wp2_with fail
   go_region
   all_goals
    go_wp2_with fail
    go_ret;exact ⟨zAj (by rw [hf.out];rfl),hbw.drew⟩
def zKF (p:Nat):Array Value:=#[.func (.func 175) #[.pointer (some ⟨p,0,none⟩)] #[],.func (.func 176) #[.pointer (some ⟨p,0,none⟩)] #[],.func (.func 177) #[.pointer (some ⟨p,0,none⟩)] #[],.func (.func 178) #[.pointer (some ⟨p,0,none⟩)] #[],.func (.func 179) #[.pointer (some ⟨p,0,none⟩)] #[]]
def VS (w:World) (p k:Nat) (A:Option Addr) (n c:Nat) (L:List Lt) (v2 v3 v4 v5 v6:Value) (i:Nat) (wr:World):Prop :=
 (i=0∧Dia wr p (k:Int) A n c v2 v3 v4 v5 v6)∨(i=1∧zAA (k:Int) L=true∧Dia wr p (k:Int) A n c v2 v3 v4 v5 v6) ∨
 (i=2∧zAA (k:Int) L=true∧(isP (la L 0)&&decide (pN L n % 2=0))=true∧Dia wr p (k:Int) A n c v2 v3 v4 v5 v6) ∨
 (i=3∧zAA (k:Int) L=true∧(isP (la L 0)&&decide (pN L n % 2=0))=true∧zCB L=true∧∃base g2 g3 g4 g6 s P C,w.heap.size≤base∧DiaR wr base p k A n c L v5 g2 g3 g4 g6 s P C) ∨
 (i=4∧zAA (k:Int) L=true∧(isP (la L 0)&&decide (pN L n % 2=0))=true∧zCB L=true∧zBM L=true∧∃base b g2 g3 g4 g6 s P C ids,w.heap.size≤base∧DiaF wr base p k A n c L b g2 g3 g4 g6 s P C ids) ∨
 (i=5∧zAQ (k:Int) L=true∧∃base b g2 g3 g4 g6 s P C ids,w.heap.size≤base∧DiaF wr base p k A n c L b g2 g3 g4 g6 s P C ids)
def zKG (w:World) (p k:Nat) (A:Option Addr) (n c:Nat) (L:List Lt) (v2 v3 v4 v5 v6:Value) (e:Ending) (w':World):Prop :=
 e=.returned (.bool (decide (n=0)||zAQ (k:Int) L))∧w.grownBy w' (some p)∧(n=0→Dia w' p (k:Int) A n c v2 v3 v4 v5 v6) ∧
 (0 < n→zAQ (k:Int) L=true→∃base b g2 g3 g4 g6 s P C ids,w.heap.size≤base∧DiaF w' base p k A n c L b g2 g3 g4 g6 s P C ids)
theorem zFI {K:Int} {L:List Lt} {n:Nat} (hL:L.length=n) (h:zAA K L=false∨(isP (la L 0)&&decide (pN L n % 2=0))=false∨zCB L=false∨zBM L=false∨zFX L=false):zAQ K L=false:=by
 unfold zAQ;rw [←zCg,hL];rcases h with h | h | h | h | h<;>rw [h]<;>simp
theorem zPL {K:Int} {L:List Lt} {n:Nat} (hL:L.length=n) (h1:zAA K L=true) (h2:(isP (la L 0)&&decide (pN L n % 2=0))=true) (h3:zCB L=true) (h4:zBM L=true) (h5:zFX L=true):zAQ K L=true:=by
 unfold zAQ;rw [←zCg,hL,h1,h2,h3,h4,h5];rfl
theorem DiaR.grown {w w':World} {base p k:Nat} {A:Option Addr} {n c:Nat} {L:List Lt} {v5 v5':Value} {g2 g3 g4 g6:Nat} {s:List Bool} {P C:List Int} (h:DiaR w base p k A n c L v5 g2 g3 g4 g6 s P C) (hb:p < base) (hg:w.grownBy w' (some p))
  (hd:Dia w' p (k:Int) A n c (.slice (some ⟨g2,0,none⟩) n n) (.slice (some ⟨g3,0,none⟩) (axL L).length (axL L).length) (.slice (some ⟨g4,0,none⟩) n n) v5' (.slice (some ⟨g6,0,none⟩) (k+1) (k+1))):DiaR w' base p k A n c L v5' g2 g3 g4 g6 s P C :=
 ⟨hd,h.down.kept hg (by have:=h.down.base;simp;omega),h.axis.kept hg (by have:=h.axis.base;simp;omega),h.place.kept hg (by have:=h.place.base;simp;omega),h.count.kept hg (by have:=h.count.base;simp;omega),h.downs,h.places,h.counts,h.ndown⟩
set_option maxRecDepth 100000 in
set_option maxHeartbeats 6400000 in
theorem zKH (p k:Nat) (A:Option Addr) (n c:Nat) (L:List Lt) (v2 v3 v4 v5 v6:Value) (w:World) (hA:Lets w A n L) (hn:n≤400) (hk40:k≤40)
  (hpA:0 < n→∀a,A=some a→p≠a.block) (hd:Dia w p (k:Int) A n c v2 v3 v4 v5 v6) :
  Calls Tryz.prog 142 #[.pointer (some ⟨p,0,none⟩)] w (zKG w p k A n c L v2 v3 v4 v5 v6):=by
 have hLn:=hA.len;have hHL:=Lib.hid hLn;have c1:=hd.c1;have hplt:=hd.lt;rcases Nat.eq_zero_or_pos n with h0 | h0
 ·subst h0;clear hLn;go_enter Tryz.func142,Tryz.ntmps142;go_wp2_with fail
  go_ret;exact ⟨rfl,World.grownBy.refl _ _,fun _=>hd,fun h=>by omega⟩
 ·have h00:((n:Int)==0)=false:=by simp;omega
  have hpA:=hpA h0;have hdn:decide (n=0)=false:=by simp;omega
  have hB0:Blk (w.alloc (.cells (zKF p) 26)) w.heap.size 26 (zKF p):=Blk.new _ _ _;have hD0:=hd.alloc (.cells (zKF p) 26);have hg0:w.grownBy (w.alloc (.cells (zKF p) 26)) (some p):=World.grownBy_alloc _ _ _;clear hLn;unfold zKG;rw [hdn,Bool.false_or];go_enter Tryz.func142,Tryz.ntmps142;go_wp2_with fail
  go_loopw [4,24] (fun _ v24 wr=>∃i:Nat,i≤5∧v24=.int .i64 i∧VS w p k A n c L v2 v3 v4 v5 v6 i wr∧w.grownBy wr (some p)∧Blk wr w.heap.size 26 (zKF p)) (fun _ v24 _=>5-(intOf v24).toNat)
  case atStart=>exact ⟨0,by omega,rfl,.inl ⟨rfl,hD0⟩,hg0,hB0⟩
  case round =>
   obtain ⟨i,hi,rfl,hV,hg,hB⟩:=hrel;clear hB0 hD0 hg0 hd c1;have hAr:=hA.growG hg (fun a ha e=>hpA a ha (by injection e));have hsz:=hg.size;obtain ⟨e0,e1,e2,e3,e4⟩:=cQ5 hB;rcases hV with ⟨rfl,hD⟩ | ⟨rfl,t1,hD⟩ | ⟨rfl,t1,t2,hD⟩ | ⟨rfl,t1,t2,t3,base,g2,g3,g4,g6,s,P,C,hbase,hR⟩ | ⟨rfl,t1,t2,t3,t4,base,b,g2,g3,g4,g6,s,P,C,ids,hbase,hF⟩ | ⟨rfl,tv,base,b,g2,g3,g4,g6,s,P,C,ids,hbase,hF⟩
   ·clear e1 e2 e3 e4
    cases hx:zAA (k:Int) L with
    | true =>
     have HX:=Lib.hid hx;go_wp2_with fail
     refine (zHX p (k:Int) A n c L _ _ _ _ _ _ hAr hD).mono ?_;rintro e w1 ⟨rfl,hb1⟩;have hD1:=hD.next hb1;have hB1:=hB.below hb1 hB.lt;have hg1:=zAn hg hb1 hg.size;rw [hx];clear hx hD hB hg;go_wp2_with fail
     go_roundw
     case rel=>exact ⟨1,by omega,by go_num,.inr (.inl ⟨rfl,HX.out,hD1⟩),hg1,hB1⟩
     case measure=>simp [intOf]
    | false =>
     have HX:=Lib.hid (zFI hHL.out (.inl hx));go_wp2_with fail
     refine (zHX p (k:Int) A n c L _ _ _ _ _ _ hAr hD).mono ?_;rintro e w1 ⟨rfl,hb1⟩;have hg1:=zAn hg hb1 hg.size;rw [hx];clear hx hD hB hg;go_wp2_with fail
     go_ret;exact ⟨zAj HX.out.symm,hg1,fun h=>by omega,fun _ h=>by rw [HX.out] at h;cases h⟩
   ·clear e0 e2 e3 e4;have T1:=Lib.hid t1;clear t1
    cases hx:(isP (la L 0)&&decide (pN L n % 2=0)) with
    | true =>
     have HX:=Lib.hid hx;go_wp2_with fail
     refine (zIK p (k:Int) A n c L _ _ _ _ _ _ hAr h0 hD).mono ?_;rintro e w1 ⟨rfl,hb1⟩;have hD1:=hD.next hb1;have hB1:=hB.below hb1 hB.lt;have hg1:=zAn hg hb1 hg.size;rw [hx];clear hx hD hB hg;go_wp2_with fail
     go_roundw
     case rel=>exact ⟨2,by omega,by go_num,.inr (.inr (.inl ⟨rfl,T1.out,HX.out,hD1⟩)),hg1,hB1⟩
     case measure=>simp [intOf]
    | false =>
     have HX:=Lib.hid (zFI (K:=(k:Int)) hHL.out (.inr (.inl hx)));go_wp2_with fail
     refine (zIK p (k:Int) A n c L _ _ _ _ _ _ hAr h0 hD).mono ?_;rintro e w1 ⟨rfl,hb1⟩;have hg1:=zAn hg hb1 hg.size;rw [hx];clear hx hD hB hg;go_wp2_with fail
     go_ret;exact ⟨zAj HX.out.symm,hg1,fun h=>by omega,fun _ h=>by rw [HX.out] at h;cases h⟩
   ·clear e0 e1 e3 e4;have T1:=Lib.hid t1;have T2:=Lib.hid t2;clear t1 t2
    cases hx:zCB L with
    | true =>
     have HX:=Lib.hid hx;go_wp2_with fail
     refine (zKE p k A n c L _ _ _ _ _ _ hAr hn hk40 T1.out hpA hD).mono ?_;rintro e w1 ⟨rfl,hg1,hr⟩;have hB1:=hB.grown hg1 (by simp;omega);have hg2:=zAb hg hg1;obtain ⟨g2,g3,g4,g6,s,P,C,hR⟩:=hr hx;rw [hx];clear hx hD hB hg hr;go_wp2_with fail
     go_roundw
     case rel=>exact ⟨3,by omega,by go_num,.inr (.inr (.inr (.inl ⟨rfl,T1.out,T2.out,HX.out,_,g2,g3,g4,g6,s,P,C,hsz,hR⟩))),hg2,hB1⟩
     case measure=>simp [intOf]
    | false =>
     have HX:=Lib.hid (zFI (K:=(k:Int)) hHL.out (.inr (.inr (.inl hx))));go_wp2_with fail
     refine (zKE p k A n c L _ _ _ _ _ _ hAr hn hk40 T1.out hpA hD).mono ?_;rintro e w1 ⟨rfl,hg1,hr⟩;have hg2:=zAb hg hg1;rw [hx];clear hx hD hB hg hr;go_wp2_with fail
     go_ret;exact ⟨zAj HX.out.symm,hg2,fun h=>by omega,fun _ h=>by rw [HX.out] at h;cases h⟩
   ·clear e0 e1 e2 e4;have T1:=Lib.hid t1;have T2:=Lib.hid t2;have T3:=Lib.hid t3;clear t1 t2 t3;have hD:=hR.dia
    cases hx:zBM L with
    | true =>
     have HX:=Lib.hid hx;go_wp2_with fail
     refine (zFH p (k:Int) A n c L _ _ _ _ _ _ hAr hn hpA hD).mono ?_;rintro e w1 ⟨rfl,hg1,hr⟩;have hB1:=hB.grown hg1 (by simp;omega);have hg2:=zAb hg hg1;obtain ⟨b,ids,hbb,hD1,hV1⟩:=hr hx;have hR1:=hR.grown (by omega) hg1 hD1;have hL1:=hAr.growG hg1 (fun a ha e=>hpA a ha (by injection e));have hF1:DiaF w1 base p k A n c L b g2 g3 g4 g6 s P C ids:=⟨hR1,hV1,hL1,zDq (by rw [hHL.out];exact h0) (by have:=T2.out;simp at this;exact this.1) (by have:=T2.out;simp at this;rw [hHL.out];exact this.2) T1.out T3.out HX.out,hn⟩;rw [hx];clear hx hD hB hg hr hD1 hV1 hR1 hL1 hR;go_wp2_with fail
     go_roundw
     case rel=>exact ⟨4,by omega,by go_num,.inr (.inr (.inr (.inr (.inl ⟨rfl,T1.out,T2.out,T3.out,HX.out,base,b,g2,g3,g4,g6,s,P,C,ids,hbase,hF1⟩)))),hg2,hB1⟩
     case measure=>simp [intOf]
    | false =>
     have HX:=Lib.hid (zFI (K:=(k:Int)) hHL.out (.inr (.inr (.inr (.inl hx)))));go_wp2_with fail
     refine (zFH p (k:Int) A n c L _ _ _ _ _ _ hAr hn hpA hD).mono ?_;rintro e w1 ⟨rfl,hg1,hr⟩;have hg2:=zAb hg hg1;rw [hx];clear hx hD hB hg hr hR;go_wp2_with fail
     go_ret;exact ⟨zAj HX.out.symm,hg2,fun h=>by omega,fun _ h=>by rw [HX.out] at h;cases h⟩
   ·clear e0 e1 e2 e3;have T1:=Lib.hid t1;have T2:=Lib.hid t2;have T3:=Lib.hid t3;have T4:=Lib.hid t4;clear t1 t2 t3 t4
    cases hx:zFX L with
    | true =>
     have HX:=Lib.hid (zPL hHL.out T1.out T2.out T3.out T4.out hx);go_wp2_with fail
     refine (zMO base p k A n c L b g2 g3 g4 g6 s P C ids _ hF).mono ?_;rintro e w1 ⟨rfl,hb1⟩;have hF1:=hF.next hb1;have hB1:=hB.below hb1 hB.lt;have hg1:=zAn hg hb1 hg.size;rw [hx];clear hx hB hg hF;go_wp2_with fail
     go_roundw
     case rel=>exact ⟨5,by omega,by go_num,.inr (.inr (.inr (.inr (.inr ⟨rfl,HX.out,base,b,g2,g3,g4,g6,s,P,C,ids,hbase,hF1⟩)))),hg1,hB1⟩
     case measure=>simp [intOf]
    | false =>
     have HX:=Lib.hid (zFI (K:=(k:Int)) hHL.out (.inr (.inr (.inr (.inr hx)))));go_wp2_with fail
     refine (zMO base p k A n c L b g2 g3 g4 g6 s P C ids _ hF).mono ?_;rintro e w1 ⟨rfl,hb1⟩;have hg1:=zAn hg hb1 hg.size;rw [hx];clear hx hB hg hF;go_wp2_with fail
     go_ret;exact ⟨zAj HX.out.symm,hg1,fun h=>by omega,fun _ h=>by rw [HX.out] at h;cases h⟩
   ·have TV:=Lib.hid tv;clear tv e0 e1 e2 e3 e4;go_wp2_with fail
    go_ret;exact ⟨zAj TV.out.symm,hg,fun h=>by omega,fun _ _=>⟨base,b,g2,g3,g4,g6,s,P,C,ids,hbase,hF⟩⟩
def zVp (w:World) (K:Int) (A:Option Addr) (n c:Nat) (L:List Lt) (p:Nat) (w':World):Prop :=
 ∃k:Nat,K=(k:Int)∧k≤40∧n≤400∧w.heap.size≤p ∧
  ((n=0∧Dia w' p K A n c (.slice none 0 0) (.slice none 0 0) (.slice none 0 0) (.map none) (.slice none 0 0))∨(0 < n∧∃base b g2 g3 g4 g6 s P C ids,w.heap.size≤base∧DiaF w' base p k A n c L b g2 g3 g4 g6 s P C ids))
def zRH (w:World) (K:Int) (A:Option Addr) (n c:Nat) (L:List Lt) (e:Ending) (w':World):Prop :=
 ∃v,e=.returned (.tuple #[v,.int .i64 (zAB K L)])∧Below w.heap.size w w'∧(zAB K L=0→∃p,v=.pointer (some ⟨p,0,none⟩)∧zVp w K A n c L p w')
theorem zVq {K:Int} {L:List Lt} (h:400 < L.length∨200 < cN L L.length):zAB K L=7:=by unfold zAB;rw [if_pos h]
theorem zWf {K:Int} {L:List Lt} (h:¬(400 < L.length∨200 < cN L L.length)) (h2:K < 0∨40 < K):zAB K L=2:=by unfold zAB;rw [if_neg h,if_pos h2]
theorem zWg {K:Int} {L:List Lt} {n:Nat} (hL:L.length=n) (h:¬(400 < L.length∨200 < cN L L.length)) (h2:¬(K < 0∨40 < K)):zAB K L=if (decide (n=0)||zAQ K L)=true then 0 else 3:=by
 unfold zAB;rw [if_neg h,if_neg h2];subst hL;by_cases h3:L.length=0
 ·rw [if_pos h3,if_pos (by simp [h3])]
 ·rw [if_neg h3]
  cases zAQ K L<;>simp [h3]
set_option maxRecDepth 100000 in
set_option maxHeartbeats 6400000 in
theorem zPM (K:Int) (A:Option Addr) (n c:Nat) (L:List Lt) (w:World) (hA:Lets w A n L) :
  Calls Tryz.prog 95 #[.agg #[.int .i64 K,.slice A n c]] w (zRH w K A n c L):=by
 have hle:=hA.le;have hLn:L.length=n:=hA.len;have hbx:=Boxed.refl w K A n c;by_cases h400:400 < n
 ·have hf:=Lib.hid (zVq (K:=K) (L:=L) (.inl (by omega)));have q:(400:Int) < (n:Int):=by omega
  clear hLn;go_enter Tryz.func95,Tryz.ntmps95;go_wp2_with fail
  go_ret2;exact ⟨.pointer none,by rw [hf.out];rfl,hbx.below,fun h=>by rw [hf.out] at h;cases h⟩
 ·have q:decide ((400:Int) < (n:Int))=false:=by simp;omega
  by_cases h200:200 < cN L n
  ·have hf:=Lib.hid (zVq (K:=K) (L:=L) (.inr (by rw [hLn];exact h200)));have q2:(200:Int) < (cN L n:Int):=by omega
   clear hLn;go_enter Tryz.func95,Tryz.ntmps95;go_wp2_with fail
   refine (zBp K A n c L _ (hA.below hbx.below)).mono ?_;rintro e w1 ⟨rfl,hb1⟩;have hb2:=hbx.more hb1;go_wp2_with fail
   go_ret2;exact ⟨.pointer none,by rw [hf.out];rfl,hb2.below,fun h=>by rw [hf.out] at h;cases h⟩
  ·have q2:decide ((200:Int) < (cN L n:Int))=false:=by simp;omega
   have hno:¬(400 < L.length∨200 < cN L L.length):=by rw [hLn];omega
   by_cases hK:K < 0∨40 < K
   ·have hf:=Lib.hid (zWf (K:=K) (L:=L) hno hK);have hall:K < 0∨(decide (K < 0)=false∧40 < K):=by simp;omega
    clear hK hLn hno;rcases hall with k1 | ⟨k1,k2⟩
    all_goals
     go_enter Tryz.func95,Tryz.ntmps95;go_wp2_with fail
     refine (zBp K A n c L _ (hA.below hbx.below)).mono ?_;rintro e w1 ⟨rfl,hb1⟩;have hb2:=hbx.more hb1;have x0:=hb2.c0;have x1:=hb2.c1;go_wp2_with fail
     go_ret2;exact ⟨.pointer none,by rw [hf.out];rfl,hb2.below,fun h=>by rw [hf.out] at h;cases h⟩
   ·have k1:decide (K < 0)=false:=by simp;omega
    have k2:decide (40 < K)=false:=by simp;omega
    have hf:=zWg hLn hno hK;obtain ⟨k,rfl⟩:∃k:Nat,K=(k:Int):=⟨K.toNat,by omega⟩
    have hk40:k≤40:=by omega
    clear hno hK hLn
    cases hv:(decide (n=0)||zAQ (k:Int) L) with
    | true =>
     rw [hv,if_pos rfl] at hf;have HF:=Lib.hid hf;have HV:=Lib.hid hv;clear hf hv;go_enter Tryz.func95,Tryz.ntmps95;go_wp2_with fail
     refine (zBp (k:Int) A n c L _ (hA.below hbx.below)).mono ?_;rintro e w1 ⟨rfl,hb1⟩;have hb2:=hbx.more hb1;have x0:=hb2.c0;have x1:=hb2.c1;have hAw:=hA.below hb2.below;have hs2:=hb2.size;have hpA:0 < n→∀a,A=some a→w1.heap.size≠a.block:=fun hn a ha=>by
      obtain ⟨g,o,e,hg,_⟩:=hAw.2.2.2 hn;rw [ha] at e;injection e with e
      subst e;simp;omega
     have HPA:=Lib.hid hpA;clear hpA;go_wp2_with fail
     refine (zKH w1.heap.size k A n c L (.slice none 0 0) (.slice none 0 0) (.slice none 0 0) (.map none) (.slice none 0 0) _ (hAw.alloc _) (by omega) hk40 HPA.out (Blk.new w1 _ _)).mono ?_;rintro e w2 ⟨rfl,hg2,hz,hF2⟩;have h5:Below w1.heap.size w1 w2:=((Below.refl _ _).alloc (Nat.le_refl _) _).trans (zBV hg2 (Nat.le_refl _) (by simp));have h6:=zAa hb2.below h5 (by omega);rw [HV.out];have HZ:=Lib.hid hz;have HF2:=Lib.hid hF2;clear x0 x1 hb2 hb1 hbx hg2 hz hF2 hAw h5;go_wp2_with fail
     go_ret2;refine ⟨.pointer (some ⟨w1.heap.size,0,none⟩),by rw [HF.out];rfl,h6,fun _=>⟨w1.heap.size,rfl,k,rfl,hk40,by omega,by omega,?_⟩⟩;rcases Nat.eq_zero_or_pos n with h0 | h0
     ·exact .inl ⟨h0,HZ.out h0⟩
     ·have hv:=HV.out;rw [show decide (n=0)=false by simp;omega,Bool.false_or] at hv;obtain ⟨base,b,g2,g3,g4,g6,s,P,C,ids,hbase,hF⟩:=HF2.out h0 hv;have hsz:(w1.alloc (.cells #[.int .i64 (k:Int),.slice A n c,.slice none 0 0,.slice none 0 0,.slice none 0 0,.map none,.slice none 0 0] 148)).heap.size=w1.heap.size+1:=by simp
      exact .inr ⟨h0,base,b,g2,g3,g4,g6,s,P,C,ids,by omega,hF⟩
    | false =>
     rw [hv] at hf;have HF:=Lib.hid (show zAB (k:Int) L=3 from hf);have HV:=Lib.hid hv;clear hf hv;go_enter Tryz.func95,Tryz.ntmps95;go_wp2_with fail
     refine (zBp (k:Int) A n c L _ (hA.below hbx.below)).mono ?_;rintro e w1 ⟨rfl,hb1⟩;have hb2:=hbx.more hb1;have x0:=hb2.c0;have x1:=hb2.c1;have hAw:=hA.below hb2.below;have hs2:=hb2.size;have hpA:0 < n→∀a,A=some a→w1.heap.size≠a.block:=fun hn a ha=>by
      obtain ⟨g,o,e,hg,_⟩:=hAw.2.2.2 hn;rw [ha] at e;injection e with e
      subst e;simp;omega
     have HPA:=Lib.hid hpA;clear hpA;go_wp2_with fail
     refine (zKH w1.heap.size k A n c L (.slice none 0 0) (.slice none 0 0) (.slice none 0 0) (.map none) (.slice none 0 0) _ (hAw.alloc _) (by omega) hk40 HPA.out (Blk.new w1 _ _)).mono ?_;rintro e w2 ⟨rfl,hg2,hz,hF2⟩;have h5:Below w1.heap.size w1 w2:=((Below.refl _ _).alloc (Nat.le_refl _) _).trans (zBV hg2 (Nat.le_refl _) (by simp));have h6:=zAa hb2.below h5 (by omega);rw [HV.out];have HZ:=Lib.hid hz;have HF2:=Lib.hid hF2;clear x0 x1 hb2 hb1 hbx hg2 hz hF2 hAw h5;go_wp2_with fail
     go_ret2;exact ⟨.pointer none,by rw [HF.out];rfl,h6,fun h=>by rw [HF.out] at h;cases h⟩
set_option maxHeartbeats 800000 in
theorem zNX (K:Int) (A:Option Addr) (n c:Nat) (L:List Lt) (w:World) (hA:Lets w A n L) :
  Calls Tryz.prog 122 #[.agg #[.int .i64 K,.slice A n c]] w fun e w'=>e=.returned (.int .i64 (zAB K L))∧Below w.heap.size w w':=by
 have hbx:=Boxed.refl w K A n c;have x0:=hbx.c0;have x1:=hbx.c1;go_enter Tryz.func122,Tryz.ntmps122;go_wp2_with fail
 refine (zPM K A n c L _ (hA.below hbx.below)).mono ?_;rintro e w1 ⟨v,rfl,hb1,_⟩;have hb2:=hbx.more hb1;clear x0 x1 hbx hb1;go_wp2_with fail
 go_ret;exact ⟨rfl,hb2.below⟩
end Go.Proofs.YtlmdfmnbcndhoaaGreatDoor
