/-
  Lemmas, part 46. Conditions: each theorem's own.
-/
import Derived.Test.YtlmdfmnbcndhoaaGreatDoorRq45
import Derived.Test.YtlmdfmnbcndhoaaGreatDoorRq42
open Option renaming none→U,some→Z
open Bool renaming false→E,true→Q
open Go.Value renaming bool→G,int→D,slice→H
open Go.IntKind renaming i64→J
namespace Go.Proofs.YtlmdfmnbcndhoaaGreatDoor
open Go.RowKit
theorem Blk.far6 {w:World} {g h:Nat} {t:TypeId} {cs:Array Value} (k:Blk w g t cs) (ne:h≠g) (u0 u1 u2 u3 u4 u5:Value) :
  Blk ((((((w.setCell ⟨h,0,U⟩ u0).setCell ⟨h,1,U⟩ u1).setCell ⟨h,2,U⟩ u2).setCell ⟨h,3,U⟩ u3).setCell ⟨h,4,U⟩ u4).setCell ⟨h,5,U⟩ u5) g t cs :=
 (((((k.far (p:=⟨h,0,U⟩) ne.symm u0).far (p:=⟨h,1,U⟩) ne.symm u1).far (p:=⟨h,2,U⟩) ne.symm u2).far (p:=⟨h,3,U⟩) ne.symm u3).far (p:=⟨h,4,U⟩) ne.symm u4).far (p:=⟨h,5,U⟩) ne.symm u5
set_option maxRecDepth 100000 in
set_option maxHeartbeats 1600000 in
theorem zOM (K:Int) (A:Option Addr) (n c:Nat) (L:List Lt) (w:World) (hA:Lets w A n L) (hn:n≤400) (hg:∀i,i < n→isP (la L i)=Q→0≤(la L i).gate∧(la L i).gate≤40) :
  Calls Tryz.prog 87 #[.agg #[D J K,H A n c]] w fun e w'=>e=.returned (G (zCQ L))∧Below w.heap.size w w':=by
 have aZ:=qH hA.len;have HA:=qH hA;have HG:=qH hg;have hbx:=Boxed.refl w K A n c;obtain ⟨r,hr⟩:∃r,zCQ L=r:=⟨_,rfl⟩
 have HR:=qH hr;rw [hr];clear hA hg hr;go_enter Tryz.func87,Tryz.ntmps87;go_wp2_with fail
 go_loopw [3] (fun v3 wr=>∃i:Nat,i≤n∧v3=D J i∧Boxed w wr K A n c∧Hid (∀j,j < i→poB L j=Q)) (fun v3 _=>n-(intOf v3).toNat)
 case atStart=>exact ⟨0,Nat.zero_le _,rfl,hbx,qH (fun j hj=>by omega)⟩
 case round =>
  obtain ⟨i,hi,rfl,hB,HS⟩:=hrel;clear hbx;have e0:=hB.c0;have e1:=hB.c1;by_cases hlt:i < n
  ·have j0:(0:Int)≤(i:Int):=by omega
   have j1:(i:Int) < (n:Int):=by omega
   obtain ⟨d,hd⟩:∃d,(isP (la L i)&&dwn L i)=d:=⟨_,rfl⟩
   have ju:=qH (fun wx hx=>zNE (K:=K) (A:=A) (c:=c) hd wx hx hn hlt);have HD:=qH hd;clear hd;have HW:=qH (HA.out.below hB.below);go_wp2_with fail
   refine (ju.out _ HW.out).mono ?_;rintro e Y ⟨rfl,ab⟩;have qO:=hB.more ab;have e0:=qO.c0;have e1:=qO.c1;have HY:=qH (HA.out.below qO.below);clear ab hB HW ju
   cases d with
   | false =>
    have eJ:=qH (show ∀j,j < i+1→poB L j=Q from fun j hj=>by
     rcases Nat.decEq j i with e | e
     ·exact HS.out j (by omega)
     ·rw [e];unfold poB;rw [HD.out];rfl)
    go_wp2_with fail
    go_roundw
    case rel=>exact ⟨i+1,hlt,by go_num,qO,eJ⟩
    case measure=>simp [intOf];omega
   | true =>
    obtain ⟨t,ht⟩:∃t,(i+1) % n=t:=⟨_,rfl⟩
    have htn:t < n:=by rw [←ht];exact Nat.mod_lt _ (by omega)
    obtain ⟨g,o,rfl,hgl,hat,_⟩:=HY.out.at_ hlt;obtain ⟨x0,x1,x2,x3,x4,x5⟩:=hat;obtain ⟨q,hq⟩:∃q,la L t=q:=⟨_,rfl⟩
    obtain ⟨p,hp⟩:∃p,la L i=p:=⟨_,rfl⟩
    have nf:=qH (zXb aZ.out ht hp hq);have gQ:=fun wx hx=>zXc (K:=K) (A:=Z ⟨g,o,U⟩) (c:=c) ht hq wx hx hn (show i+1≤1000 by omega) (by omega)
    have yI:=qH gQ;have hgp:=HG.out i hlt;have hgq:=HG.out t htn;have hdd:=HD.out;rw [hp] at x0 x1 x2 x3 x4 x5 hgp hdd;rw [hq] at hgq;have hpp:isP p=Q:=by cases h:isP p with | true=>rfl | false=>rw [h] at hdd;cases hdd
    have hxb:=hgp hpp;have lO:=qH hdd;have HGQ:=qH hgq;have bM:=qH (show g < Y.heap.size∧Y.cell? ⟨g,o+i*6,U⟩=Z (D J p.kind)∧Y.cell? ⟨g,o+i*6+1,U⟩=Z (D J p.gate)∧Y.cell? ⟨g,o+i*6+2,U⟩=Z (D J p.rank)∧Y.cell? ⟨g,o+i*6+3,U⟩=Z (D J p.id)∧Y.cell? ⟨g,o+i*6+4,U⟩=Z (D J p.sign)∧Y.cell? ⟨g,o+i*6+5,U⟩=Z (G p.over) from ⟨hgl,x0,x1,x2,x3,x4,x5⟩);have iz:=qH qO;have rg:=qH (show ∀wx,Below Y.heap.size Y wx→(Below Y.heap.size Y wx∧wx.cell? ⟨w.heap.size,0,U⟩=Z (D J K)∧wx.cell? ⟨w.heap.size,1,U⟩=Z (H (Z ⟨g,o,U⟩) n c)∧wx.cell? ⟨g,o+i*6,U⟩=Z (D J p.kind)∧wx.cell? ⟨g,o+i*6+1,U⟩=Z (D J p.gate)∧wx.cell? ⟨g,o+i*6+2,U⟩=Z (D J p.rank)∧wx.cell? ⟨g,o+i*6+3,U⟩=Z (D J p.id)∧wx.cell? ⟨g,o+i*6+4,U⟩=Z (D J p.sign)∧wx.cell? ⟨g,o+i*6+5,U⟩=Z (G p.over)) from fun wx h=>⟨h,(iz.out.more h).c0,(iz.out.more h).c1,(h.cell (p:=⟨g,o+i*6,U⟩) bM.out.1).trans bM.out.2.1,(h.cell (p:=⟨g,o+i*6+1,U⟩) bM.out.1).trans bM.out.2.2.1,(h.cell (p:=⟨g,o+i*6+2,U⟩) bM.out.1).trans bM.out.2.2.2.1,(h.cell (p:=⟨g,o+i*6+3,U⟩) bM.out.1).trans bM.out.2.2.2.2.1,(h.cell (p:=⟨g,o+i*6+4,U⟩) bM.out.1).trans bM.out.2.2.2.2.2.1,(h.cell (p:=⟨g,o+i*6+5,U⟩) bM.out.1).trans bM.out.2.2.2.2.2.2⟩);have w1:IntKind.i64.wrap ((i:Int)+1)=(i:Int)+1:=IntWalk.i64_in _ (by omega);clear ht hq hp hgp hgq hdd hpp gQ hgl HD;go_upto_region 5 with fail
    go_cut [4,5] (fun v4 v5 wv=>∃(V:World) (b4 b5:Nat),V=wv∧v4=.pointer (Z ⟨b4,0,U⟩)∧v5=.pointer (Z ⟨b5,0,U⟩)∧Blk V b4 76 #[D J p.kind,D J p.gate,D J p.rank,D J p.id,D J p.sign,G p.over]∧Blk V b5 76 #[D J q.kind,D J q.gate,D J q.rank,D J q.id,D J q.sign,G q.over]∧Below Y.heap.size Y V)
    case first =>
     go_region_held3 (fun wx=>Below Y.heap.size Y wx∧wx.cell? ⟨w.heap.size,0,U⟩=Z (D J K)∧wx.cell? ⟨w.heap.size,1,U⟩=Z (H (Z ⟨g,o,U⟩) n c)∧wx.cell? ⟨g,o+i*6,U⟩=Z (D J p.kind)∧wx.cell? ⟨g,o+i*6+1,U⟩=Z (D J p.gate)∧wx.cell? ⟨g,o+i*6+2,U⟩=Z (D J p.rank)∧wx.cell? ⟨g,o+i*6+3,U⟩=Z (D J p.id)∧wx.cell? ⟨g,o+i*6+4,U⟩=Z (D J p.sign)∧wx.cell? ⟨g,o+i*6+5,U⟩=Z (G p.over)) (first | (with_reducible refine rg.out _ ?_;repeat (first | with_reducible assumption | ((with_reducible refine zAI ?_ ?_ _ _ _ _ _ _);rotate_left;(focus first | omega | (simp;done) | (simp;omega))) | with_reducible exact Below.refl _ _ | with_reducible apply Below.drew | ((with_reducible refine zEj ?_ ?_);focus (first | omega | (simp;done) | (simp;omega))))))
      (first | (go_at_call 137;refine (yI.out _ (HY.out.below (And.left (by assumption)))).mono ?_;rintro e wd ⟨rfl,hbd⟩;have hbq:Below Y.heap.size Y wd:=zAa (And.left (by assumption)) hbd (Below.size (And.left (by assumption)));have hz:=Below.size hbq;(try (refine (fun (kk0:Blk wd Y.heap.size 76 #[D J 0,D J 0,D J 0,D J 0,D J 0,G E])=>?_) (Blk.below ?_ hbd ?_);rotate_left;(focus first | exact Blk.drew (Blk.new _ _ _) | exact Blk.drew ((Blk.new _ _ _).alloc _) | exact Blk.drew (heap_alloc2_new _ _ _) | exact (Blk.drew (Blk.new _ _ _)).alloc _ | exact Blk.new _ _ _ | exact (Blk.new _ _ _).alloc _ | exact heap_alloc2_new _ _ _);(focus first | (simp;done) | (simp;omega));have yy00:(wd).cell? ⟨Y.heap.size,0,U⟩=Z (D J 0):=(kk0.cell 0).trans rfl;have ff00:=kk0.frozen 0;have yy01:(wd).cell? ⟨Y.heap.size,1,U⟩=Z (D J 0):=(kk0.cell 1).trans rfl;have ff01:=kk0.frozen 1;have yy02:(wd).cell? ⟨Y.heap.size,2,U⟩=Z (D J 0):=(kk0.cell 2).trans rfl;have ff02:=kk0.frozen 2;have yy03:(wd).cell? ⟨Y.heap.size,3,U⟩=Z (D J 0):=(kk0.cell 3).trans rfl;have ff03:=kk0.frozen 3;have yy04:(wd).cell? ⟨Y.heap.size,4,U⟩=Z (D J 0):=(kk0.cell 4).trans rfl;have ff04:=kk0.frozen 4;have yy05:(wd).cell? ⟨Y.heap.size,5,U⟩=Z (G E):=(kk0.cell 5).trans rfl;have ff05:=kk0.frozen 5;have bG:=kk0.alloc (.cells #[D J 0,D J 0,D J 0,D J 0,D J 0,G E] 76);have zf:(wd.alloc (.cells #[D J 0,D J 0,D J 0,D J 0,D J 0,G E] 76)).cell? ⟨Y.heap.size,0,U⟩=Z (D J 0):=(bG.cell 0).trans rfl;have BD:=bG.frozen 0;have ze:(wd.alloc (.cells #[D J 0,D J 0,D J 0,D J 0,D J 0,G E] 76)).cell? ⟨Y.heap.size,1,U⟩=Z (D J 0):=(bG.cell 1).trans rfl;have BC:=bG.frozen 1;have zd:(wd.alloc (.cells #[D J 0,D J 0,D J 0,D J 0,D J 0,G E] 76)).cell? ⟨Y.heap.size,2,U⟩=Z (D J 0):=(bG.cell 2).trans rfl;have BB:=bG.frozen 2;have zc:(wd.alloc (.cells #[D J 0,D J 0,D J 0,D J 0,D J 0,G E] 76)).cell? ⟨Y.heap.size,3,U⟩=Z (D J 0):=(bG.cell 3).trans rfl;have BA:=bG.frozen 3;have zb:(wd.alloc (.cells #[D J 0,D J 0,D J 0,D J 0,D J 0,G E] 76)).cell? ⟨Y.heap.size,4,U⟩=Z (D J 0):=(bG.cell 4).trans rfl;have Bz:=bG.frozen 4;have za:(wd.alloc (.cells #[D J 0,D J 0,D J 0,D J 0,D J 0,G E] 76)).cell? ⟨Y.heap.size,5,U⟩=Z (G E):=(bG.cell 5).trans rfl;have By:=bG.frozen 5;have bF:=kk0.alloc (.cells #[D J p.kind,D J p.gate,D J p.rank,D J p.id,D J p.sign,G p.over] 76);have y9:(wd.alloc (.cells #[D J p.kind,D J p.gate,D J p.rank,D J p.id,D J p.sign,G p.over] 76)).cell? ⟨Y.heap.size,0,U⟩=Z (D J 0):=(bF.cell 0).trans rfl;have Bx:=bF.frozen 0;have y8:(wd.alloc (.cells #[D J p.kind,D J p.gate,D J p.rank,D J p.id,D J p.sign,G p.over] 76)).cell? ⟨Y.heap.size,1,U⟩=Z (D J 0):=(bF.cell 1).trans rfl;have Bw:=bF.frozen 1;have yZ:(wd.alloc (.cells #[D J p.kind,D J p.gate,D J p.rank,D J p.id,D J p.sign,G p.over] 76)).cell? ⟨Y.heap.size,2,U⟩=Z (D J 0):=(bF.cell 2).trans rfl;have Bv:=bF.frozen 2;have yY:(wd.alloc (.cells #[D J p.kind,D J p.gate,D J p.rank,D J p.id,D J p.sign,G p.over] 76)).cell? ⟨Y.heap.size,3,U⟩=Z (D J 0):=(bF.cell 3).trans rfl;have Bu:=bF.frozen 3;have yX:(wd.alloc (.cells #[D J p.kind,D J p.gate,D J p.rank,D J p.id,D J p.sign,G p.over] 76)).cell? ⟨Y.heap.size,4,U⟩=Z (D J 0):=(bF.cell 4).trans rfl;have Bt:=bF.frozen 4;have yW:(wd.alloc (.cells #[D J p.kind,D J p.gate,D J p.rank,D J p.id,D J p.sign,G p.over] 76)).cell? ⟨Y.heap.size,5,U⟩=Z (G E):=(bF.cell 5).trans rfl;have Bs:=bF.frozen 5));(try (refine (fun (kk1:Blk wd (Y.heap.size+1) 76 #[D J 0,D J 0,D J 0,D J 0,D J 0,G E])=>?_) (Blk.below ?_ hbd ?_);rotate_left;(focus first | exact Blk.drew (Blk.new _ _ _) | exact Blk.drew ((Blk.new _ _ _).alloc _) | exact Blk.drew (heap_alloc2_new _ _ _) | exact (Blk.drew (Blk.new _ _ _)).alloc _ | exact Blk.new _ _ _ | exact (Blk.new _ _ _).alloc _ | exact heap_alloc2_new _ _ _);(focus first | (simp;done) | (simp;omega));have yy10:(wd).cell? ⟨Y.heap.size+1,0,U⟩=Z (D J 0):=(kk1.cell 0).trans rfl;have ff10:=kk1.frozen 0;have yy11:(wd).cell? ⟨Y.heap.size+1,1,U⟩=Z (D J 0):=(kk1.cell 1).trans rfl;have ff11:=kk1.frozen 1;have yy12:(wd).cell? ⟨Y.heap.size+1,2,U⟩=Z (D J 0):=(kk1.cell 2).trans rfl;have ff12:=kk1.frozen 2;have yy13:(wd).cell? ⟨Y.heap.size+1,3,U⟩=Z (D J 0):=(kk1.cell 3).trans rfl;have ff13:=kk1.frozen 3;have yy14:(wd).cell? ⟨Y.heap.size+1,4,U⟩=Z (D J 0):=(kk1.cell 4).trans rfl;have ff14:=kk1.frozen 4;have yy15:(wd).cell? ⟨Y.heap.size+1,5,U⟩=Z (G E):=(kk1.cell 5).trans rfl;have ff15:=kk1.frozen 5;have bP:=kk1.alloc (.cells #[D J 0,D J 0,D J 0,D J 0,D J 0,G E] 76);have yV:(wd.alloc (.cells #[D J 0,D J 0,D J 0,D J 0,D J 0,G E] 76)).cell? ⟨Y.heap.size+1,0,U⟩=Z (D J 0):=(bP.cell 0).trans rfl;have Br:=bP.frozen 0;have yU:(wd.alloc (.cells #[D J 0,D J 0,D J 0,D J 0,D J 0,G E] 76)).cell? ⟨Y.heap.size+1,1,U⟩=Z (D J 0):=(bP.cell 1).trans rfl;have Bq:=bP.frozen 1;have yT:(wd.alloc (.cells #[D J 0,D J 0,D J 0,D J 0,D J 0,G E] 76)).cell? ⟨Y.heap.size+1,2,U⟩=Z (D J 0):=(bP.cell 2).trans rfl;have Bp:=bP.frozen 2;have yS:(wd.alloc (.cells #[D J 0,D J 0,D J 0,D J 0,D J 0,G E] 76)).cell? ⟨Y.heap.size+1,3,U⟩=Z (D J 0):=(bP.cell 3).trans rfl;have Bo:=bP.frozen 3;have yR:(wd.alloc (.cells #[D J 0,D J 0,D J 0,D J 0,D J 0,G E] 76)).cell? ⟨Y.heap.size+1,4,U⟩=Z (D J 0):=(bP.cell 4).trans rfl;have Bn:=bP.frozen 4;have yQ:(wd.alloc (.cells #[D J 0,D J 0,D J 0,D J 0,D J 0,G E] 76)).cell? ⟨Y.heap.size+1,5,U⟩=Z (G E):=(bP.cell 5).trans rfl;have Bm:=bP.frozen 5;have bO:=kk1.alloc (.cells #[D J p.kind,D J p.gate,D J p.rank,D J p.id,D J p.sign,G p.over] 76);have yP:(wd.alloc (.cells #[D J p.kind,D J p.gate,D J p.rank,D J p.id,D J p.sign,G p.over] 76)).cell? ⟨Y.heap.size+1,0,U⟩=Z (D J 0):=(bO.cell 0).trans rfl;have Bl:=bO.frozen 0;have yO:(wd.alloc (.cells #[D J p.kind,D J p.gate,D J p.rank,D J p.id,D J p.sign,G p.over] 76)).cell? ⟨Y.heap.size+1,1,U⟩=Z (D J 0):=(bO.cell 1).trans rfl;have Bk:=bO.frozen 1;have yN:(wd.alloc (.cells #[D J p.kind,D J p.gate,D J p.rank,D J p.id,D J p.sign,G p.over] 76)).cell? ⟨Y.heap.size+1,2,U⟩=Z (D J 0):=(bO.cell 2).trans rfl;have Bj:=bO.frozen 2;have yM:(wd.alloc (.cells #[D J p.kind,D J p.gate,D J p.rank,D J p.id,D J p.sign,G p.over] 76)).cell? ⟨Y.heap.size+1,3,U⟩=Z (D J 0):=(bO.cell 3).trans rfl;have Bh:=bO.frozen 3;have yL:(wd.alloc (.cells #[D J p.kind,D J p.gate,D J p.rank,D J p.id,D J p.sign,G p.over] 76)).cell? ⟨Y.heap.size+1,4,U⟩=Z (D J 0):=(bO.cell 4).trans rfl;have Bg:=bO.frozen 4;have yK:(wd.alloc (.cells #[D J p.kind,D J p.gate,D J p.rank,D J p.id,D J p.sign,G p.over] 76)).cell? ⟨Y.heap.size+1,5,U⟩=Z (G E):=(bO.cell 5).trans rfl;have Bf:=bO.frozen 5));(try (have kF:=Blk.far6 (Blk.new wd 76 #[D J 0,D J 0,D J 0,D J 0,D J 0,G E]) (show Y.heap.size≠wd.heap.size by have:=kk0.lt;omega) (D J p.kind) (D J p.gate) (D J p.rank) (D J p.id) (D J p.sign) (G p.over);have yyF0:((((((((wd.alloc (.cells #[D J 0,D J 0,D J 0,D J 0,D J 0,G E] 76)).setCell ⟨Y.heap.size,0,U⟩ (D J p.kind)).setCell ⟨Y.heap.size,1,U⟩ (D J p.gate)).setCell ⟨Y.heap.size,2,U⟩ (D J p.rank)).setCell ⟨Y.heap.size,3,U⟩ (D J p.id)).setCell ⟨Y.heap.size,4,U⟩ (D J p.sign)).setCell ⟨Y.heap.size,5,U⟩ (G p.over))).cell? ⟨wd.heap.size,0,U⟩=Z (D J 0):=(kF.cell 0).trans rfl;have ffF0:=kF.frozen 0;have yyF1:((((((((wd.alloc (.cells #[D J 0,D J 0,D J 0,D J 0,D J 0,G E] 76)).setCell ⟨Y.heap.size,0,U⟩ (D J p.kind)).setCell ⟨Y.heap.size,1,U⟩ (D J p.gate)).setCell ⟨Y.heap.size,2,U⟩ (D J p.rank)).setCell ⟨Y.heap.size,3,U⟩ (D J p.id)).setCell ⟨Y.heap.size,4,U⟩ (D J p.sign)).setCell ⟨Y.heap.size,5,U⟩ (G p.over))).cell? ⟨wd.heap.size,1,U⟩=Z (D J 0):=(kF.cell 1).trans rfl;have ffF1:=kF.frozen 1;have yyF2:((((((((wd.alloc (.cells #[D J 0,D J 0,D J 0,D J 0,D J 0,G E] 76)).setCell ⟨Y.heap.size,0,U⟩ (D J p.kind)).setCell ⟨Y.heap.size,1,U⟩ (D J p.gate)).setCell ⟨Y.heap.size,2,U⟩ (D J p.rank)).setCell ⟨Y.heap.size,3,U⟩ (D J p.id)).setCell ⟨Y.heap.size,4,U⟩ (D J p.sign)).setCell ⟨Y.heap.size,5,U⟩ (G p.over))).cell? ⟨wd.heap.size,2,U⟩=Z (D J 0):=(kF.cell 2).trans rfl;have ffF2:=kF.frozen 2;have yyF3:((((((((wd.alloc (.cells #[D J 0,D J 0,D J 0,D J 0,D J 0,G E] 76)).setCell ⟨Y.heap.size,0,U⟩ (D J p.kind)).setCell ⟨Y.heap.size,1,U⟩ (D J p.gate)).setCell ⟨Y.heap.size,2,U⟩ (D J p.rank)).setCell ⟨Y.heap.size,3,U⟩ (D J p.id)).setCell ⟨Y.heap.size,4,U⟩ (D J p.sign)).setCell ⟨Y.heap.size,5,U⟩ (G p.over))).cell? ⟨wd.heap.size,3,U⟩=Z (D J 0):=(kF.cell 3).trans rfl;have ffF3:=kF.frozen 3;have yyF4:((((((((wd.alloc (.cells #[D J 0,D J 0,D J 0,D J 0,D J 0,G E] 76)).setCell ⟨Y.heap.size,0,U⟩ (D J p.kind)).setCell ⟨Y.heap.size,1,U⟩ (D J p.gate)).setCell ⟨Y.heap.size,2,U⟩ (D J p.rank)).setCell ⟨Y.heap.size,3,U⟩ (D J p.id)).setCell ⟨Y.heap.size,4,U⟩ (D J p.sign)).setCell ⟨Y.heap.size,5,U⟩ (G p.over))).cell? ⟨wd.heap.size,4,U⟩=Z (D J 0):=(kF.cell 4).trans rfl;have ffF4:=kF.frozen 4;have yyF5:((((((((wd.alloc (.cells #[D J 0,D J 0,D J 0,D J 0,D J 0,G E] 76)).setCell ⟨Y.heap.size,0,U⟩ (D J p.kind)).setCell ⟨Y.heap.size,1,U⟩ (D J p.gate)).setCell ⟨Y.heap.size,2,U⟩ (D J p.rank)).setCell ⟨Y.heap.size,3,U⟩ (D J p.id)).setCell ⟨Y.heap.size,4,U⟩ (D J p.sign)).setCell ⟨Y.heap.size,5,U⟩ (G p.over))).cell? ⟨wd.heap.size,5,U⟩=Z (G E):=(kF.cell 5).trans rfl;have ffF5:=kF.frozen 5));(try (have kG:=kk1.far6 (show Y.heap.size≠Y.heap.size+1 by omega) (D J p.kind) (D J p.gate) (D J p.rank) (D J p.id) (D J p.sign) (G p.over);have kH:=kk0.far6 (show Y.heap.size+1≠Y.heap.size by omega) (D J p.kind) (D J p.gate) (D J p.rank) (D J p.id) (D J p.sign) (G p.over);have yyG0:(((((((wd.setCell ⟨Y.heap.size,0,U⟩ (D J p.kind)).setCell ⟨Y.heap.size,1,U⟩ (D J p.gate)).setCell ⟨Y.heap.size,2,U⟩ (D J p.rank)).setCell ⟨Y.heap.size,3,U⟩ (D J p.id)).setCell ⟨Y.heap.size,4,U⟩ (D J p.sign)).setCell ⟨Y.heap.size,5,U⟩ (G p.over))).cell? ⟨Y.heap.size+1,0,U⟩=Z (D J 0):=(kG.cell 0).trans rfl;have ffG0:=kG.frozen 0;have yyG1:(((((((wd.setCell ⟨Y.heap.size,0,U⟩ (D J p.kind)).setCell ⟨Y.heap.size,1,U⟩ (D J p.gate)).setCell ⟨Y.heap.size,2,U⟩ (D J p.rank)).setCell ⟨Y.heap.size,3,U⟩ (D J p.id)).setCell ⟨Y.heap.size,4,U⟩ (D J p.sign)).setCell ⟨Y.heap.size,5,U⟩ (G p.over))).cell? ⟨Y.heap.size+1,1,U⟩=Z (D J 0):=(kG.cell 1).trans rfl;have ffG1:=kG.frozen 1;have yyG2:(((((((wd.setCell ⟨Y.heap.size,0,U⟩ (D J p.kind)).setCell ⟨Y.heap.size,1,U⟩ (D J p.gate)).setCell ⟨Y.heap.size,2,U⟩ (D J p.rank)).setCell ⟨Y.heap.size,3,U⟩ (D J p.id)).setCell ⟨Y.heap.size,4,U⟩ (D J p.sign)).setCell ⟨Y.heap.size,5,U⟩ (G p.over))).cell? ⟨Y.heap.size+1,2,U⟩=Z (D J 0):=(kG.cell 2).trans rfl;have ffG2:=kG.frozen 2;have yyG3:(((((((wd.setCell ⟨Y.heap.size,0,U⟩ (D J p.kind)).setCell ⟨Y.heap.size,1,U⟩ (D J p.gate)).setCell ⟨Y.heap.size,2,U⟩ (D J p.rank)).setCell ⟨Y.heap.size,3,U⟩ (D J p.id)).setCell ⟨Y.heap.size,4,U⟩ (D J p.sign)).setCell ⟨Y.heap.size,5,U⟩ (G p.over))).cell? ⟨Y.heap.size+1,3,U⟩=Z (D J 0):=(kG.cell 3).trans rfl;have ffG3:=kG.frozen 3;have yyG4:(((((((wd.setCell ⟨Y.heap.size,0,U⟩ (D J p.kind)).setCell ⟨Y.heap.size,1,U⟩ (D J p.gate)).setCell ⟨Y.heap.size,2,U⟩ (D J p.rank)).setCell ⟨Y.heap.size,3,U⟩ (D J p.id)).setCell ⟨Y.heap.size,4,U⟩ (D J p.sign)).setCell ⟨Y.heap.size,5,U⟩ (G p.over))).cell? ⟨Y.heap.size+1,4,U⟩=Z (D J 0):=(kG.cell 4).trans rfl;have ffG4:=kG.frozen 4;have yyG5:(((((((wd.setCell ⟨Y.heap.size,0,U⟩ (D J p.kind)).setCell ⟨Y.heap.size,1,U⟩ (D J p.gate)).setCell ⟨Y.heap.size,2,U⟩ (D J p.rank)).setCell ⟨Y.heap.size,3,U⟩ (D J p.id)).setCell ⟨Y.heap.size,4,U⟩ (D J p.sign)).setCell ⟨Y.heap.size,5,U⟩ (G p.over))).cell? ⟨Y.heap.size+1,5,U⟩=Z (G E):=(kG.cell 5).trans rfl;have ffG5:=kG.frozen 5;have yyH0:(((((((wd.setCell ⟨Y.heap.size+1,0,U⟩ (D J p.kind)).setCell ⟨Y.heap.size+1,1,U⟩ (D J p.gate)).setCell ⟨Y.heap.size+1,2,U⟩ (D J p.rank)).setCell ⟨Y.heap.size+1,3,U⟩ (D J p.id)).setCell ⟨Y.heap.size+1,4,U⟩ (D J p.sign)).setCell ⟨Y.heap.size+1,5,U⟩ (G p.over))).cell? ⟨Y.heap.size,0,U⟩=Z (D J 0):=(kH.cell 0).trans rfl;have ffH0:=kH.frozen 0;have yyH1:(((((((wd.setCell ⟨Y.heap.size+1,0,U⟩ (D J p.kind)).setCell ⟨Y.heap.size+1,1,U⟩ (D J p.gate)).setCell ⟨Y.heap.size+1,2,U⟩ (D J p.rank)).setCell ⟨Y.heap.size+1,3,U⟩ (D J p.id)).setCell ⟨Y.heap.size+1,4,U⟩ (D J p.sign)).setCell ⟨Y.heap.size+1,5,U⟩ (G p.over))).cell? ⟨Y.heap.size,1,U⟩=Z (D J 0):=(kH.cell 1).trans rfl;have ffH1:=kH.frozen 1;have yyH2:(((((((wd.setCell ⟨Y.heap.size+1,0,U⟩ (D J p.kind)).setCell ⟨Y.heap.size+1,1,U⟩ (D J p.gate)).setCell ⟨Y.heap.size+1,2,U⟩ (D J p.rank)).setCell ⟨Y.heap.size+1,3,U⟩ (D J p.id)).setCell ⟨Y.heap.size+1,4,U⟩ (D J p.sign)).setCell ⟨Y.heap.size+1,5,U⟩ (G p.over))).cell? ⟨Y.heap.size,2,U⟩=Z (D J 0):=(kH.cell 2).trans rfl;have ffH2:=kH.frozen 2;have yyH3:(((((((wd.setCell ⟨Y.heap.size+1,0,U⟩ (D J p.kind)).setCell ⟨Y.heap.size+1,1,U⟩ (D J p.gate)).setCell ⟨Y.heap.size+1,2,U⟩ (D J p.rank)).setCell ⟨Y.heap.size+1,3,U⟩ (D J p.id)).setCell ⟨Y.heap.size+1,4,U⟩ (D J p.sign)).setCell ⟨Y.heap.size+1,5,U⟩ (G p.over))).cell? ⟨Y.heap.size,3,U⟩=Z (D J 0):=(kH.cell 3).trans rfl;have ffH3:=kH.frozen 3;have yyH4:(((((((wd.setCell ⟨Y.heap.size+1,0,U⟩ (D J p.kind)).setCell ⟨Y.heap.size+1,1,U⟩ (D J p.gate)).setCell ⟨Y.heap.size+1,2,U⟩ (D J p.rank)).setCell ⟨Y.heap.size+1,3,U⟩ (D J p.id)).setCell ⟨Y.heap.size+1,4,U⟩ (D J p.sign)).setCell ⟨Y.heap.size+1,5,U⟩ (G p.over))).cell? ⟨Y.heap.size,4,U⟩=Z (D J 0):=(kH.cell 4).trans rfl;have ffH4:=kH.frozen 4;have yyH5:(((((((wd.setCell ⟨Y.heap.size+1,0,U⟩ (D J p.kind)).setCell ⟨Y.heap.size+1,1,U⟩ (D J p.gate)).setCell ⟨Y.heap.size+1,2,U⟩ (D J p.rank)).setCell ⟨Y.heap.size+1,3,U⟩ (D J p.id)).setCell ⟨Y.heap.size+1,4,U⟩ (D J p.sign)).setCell ⟨Y.heap.size+1,5,U⟩ (G p.over))).cell? ⟨Y.heap.size,5,U⟩=Z (G E):=(kH.cell 5).trans rfl;have ffH5:=kH.frozen 5))))
     all_goals
      go_wp2_with fail
      go_meet
     all_goals refine ⟨_,_,_,rfl,rfl,rfl,?_,?_,?_⟩
     all_goals first
      | with_reducible exact (Blk.new wd _ _).alloc _
      | with_reducible exact heap_alloc2_new wd _ _
      | ((with_reducible refine Below.alloc (hbq.alloc hz _) ?_ _);(simp;omega))
      | with_reducible exact Blk.far6 (Blk.storeL bG (D J p.kind) (D J p.gate) (D J p.rank) (D J p.id) (D J p.sign) (G p.over)) (show wd.heap.size≠Y.heap.size from Nat.ne_of_gt kk0.lt) (D J q.kind) (D J q.gate) (D J q.rank) (D J q.id) (D J q.sign) (G q.over)
      | with_reducible exact Blk.storeL kF (D J q.kind) (D J q.gate) (D J q.rank) (D J q.id) (D J q.sign) (G q.over)
      | with_reducible exact zAI (zAI (hbq.alloc hz _) (Nat.le_refl _) (D J p.kind) (D J p.gate) (D J p.rank) (D J p.id) (D J p.sign) (G p.over)) hz (D J q.kind) (D J q.gate) (D J q.rank) (D J q.id) (D J q.sign) (G q.over)
      | with_reducible exact Blk.far6 (Blk.new wd _ _) (show Y.heap.size≠wd.heap.size from Nat.ne_of_lt kk0.lt) (D J q.kind) (D J q.gate) (D J q.rank) (D J q.id) (D J q.sign) (G q.over)
      | with_reducible exact Blk.storeL bF (D J q.kind) (D J q.gate) (D J q.rank) (D J q.id) (D J q.sign) (G q.over)
      | with_reducible exact zAI (hbq.alloc hz _) (Nat.le_refl _) (D J q.kind) (D J q.gate) (D J q.rank) (D J q.id) (D J q.sign) (G q.over)
      | with_reducible exact Blk.far6 (Blk.storeL kk0 (D J p.kind) (D J p.gate) (D J p.rank) (D J p.id) (D J p.sign) (G p.over)) (show Y.heap.size+1≠Y.heap.size from Nat.succ_ne_self _) (D J q.kind) (D J q.gate) (D J q.rank) (D J q.id) (D J q.sign) (G q.over)
      | with_reducible exact Blk.storeL kG (D J q.kind) (D J q.gate) (D J q.rank) (D J q.id) (D J q.sign) (G q.over)
      | with_reducible exact zAI (zAI hbq (Nat.le_refl _) (D J p.kind) (D J p.gate) (D J p.rank) (D J p.id) (D J p.sign) (G p.over)) (Nat.le_succ _) (D J q.kind) (D J q.gate) (D J q.rank) (D J q.id) (D J q.sign) (G q.over)
      | with_reducible exact Blk.far6 (Blk.storeL kk1 (D J p.kind) (D J p.gate) (D J p.rank) (D J p.id) (D J p.sign) (G p.over)) (show Y.heap.size≠Y.heap.size+1 from (Nat.succ_ne_self _).symm) (D J q.kind) (D J q.gate) (D J q.rank) (D J q.id) (D J q.sign) (G q.over)
      | with_reducible exact Blk.storeL kH (D J q.kind) (D J q.gate) (D J q.rank) (D J q.id) (D J q.sign) (G q.over)
      | with_reducible exact zAI (zAI hbq (Nat.le_succ _) (D J p.kind) (D J p.gate) (D J p.rank) (D J p.id) (D J p.sign) (G p.over)) (Nat.le_refl _) (D J q.kind) (D J q.gate) (D J q.rank) (D J q.id) (D J q.sign) (G q.over)
      | exact heap_alloc2_new wd _ _
    case rest =>
     obtain ⟨V,b4,b5,hV,rfl,rfl,eO,fK,hbv⟩:=hcut;subst hV;have kZ:=qH (iz.out.more hbv);obtain ⟨f0,f1⟩:=cQ2 fK;have f2:V.cell? ⟨b4,1,U⟩=Z (D J p.gate):=(eO.cell 1).trans rfl;have hpo:=nf.out;rw [lO.out] at hpo;have gh:=qH hpo;have lK:=qH (show poB L i=E→r=E from fun h=>by rw [←HR.out];exact zDm (by rw [aZ.out];exact hlt) h)
     have lD:=qH (show poB L i=Q→∀j,j < i+1→poB L j=Q from fun h j hj=>by
      rcases Nat.decEq j i with e | e
      ·exact HS.out j (by omega)
      ·rw [e];exact h)
     clear eO fK hbv hpo rg bM nf yI lO e0 e1 w1
     cases hq:isP q with
     | false =>
      have kb:(q.kind != 1)=Q:=by unfold isP at hq;simpa using hq
      have HF:=qH (lK.out (by rw [gh.out,hq];rfl));have wX:=qH kZ.out.below;clear hq lD lK;go_wp2_with fail
      go_ret;exact ⟨zAj HF.out.symm,wX.out⟩
     | true =>
      have kb:(q.kind != 1)=E:=by unfold isP at hq;simpa using hq
      have hyb:=HGQ.out hq;have rj:=qH (show poB L i=(q.gate-p.gate==1||p.gate-q.gate==1) by rw [gh.out,hq];rfl);generalize q.gate=y at f1 hyb rj;generalize p.gate=x at f2 hxb rj;by_cases c1:y=x+1
      ·have eJ:=qH (lD.out (by rw [rj.out];simp;omega));have d1:(y != x+1)=E:=by simpa using c1
       have w3:IntKind.i64.wrap (x+1)=x+1:=IntWalk.i64_in _ (by omega);clear hq lD lK c1 gh rj hxb hyb;go_wp2_with fail
       go_roundw
       case rel=>exact ⟨i+1,hlt,by go_num,kZ.out,eJ⟩
       case measure=>simp [intOf];omega
      ·by_cases c2:y=x-1
       ·have eJ:=qH (lD.out (by rw [rj.out];simp;omega));have d1:(y != x+1)=Q:=by simpa using c1
        have d2:(y != x-1)=E:=by simpa using c2
        have w3:IntKind.i64.wrap (x+1)=x+1:=IntWalk.i64_in _ (by omega);have w4:IntKind.i64.wrap (x-1)=x-1:=IntWalk.i64_in _ (by omega);clear hq lD lK c1 c2 gh rj hxb hyb;go_wp2_with fail
        go_roundw
        case rel=>exact ⟨i+1,hlt,by go_num,kZ.out,eJ⟩
        case measure=>simp [intOf];omega
       ·have HF:=qH (lK.out (by rw [rj.out];simp;omega));have wX:=qH kZ.out.below;have d1:(y != x+1)=Q:=by simpa using c1
        have d2:(y != x-1)=Q:=by simpa using c2
        have w3:IntKind.i64.wrap (x+1)=x+1:=IntWalk.i64_in _ (by omega);have w4:IntKind.i64.wrap (x-1)=x-1:=IntWalk.i64_in _ (by omega);clear hq lD lK c1 c2 gh rj hxb hyb;go_wp2_with fail
        go_ret;exact ⟨zAj HF.out.symm,wX.out⟩
  ·have j1:¬(i:Int) < (n:Int):=by omega
   have HT:=qH (show r=Q by rw [←HR.out];exact zAv.2 (fun j hj=>HS.out j (by rw [aZ.out] at hj;omega)));have wX:=qH hB.below;go_wp2_with fail
   go_ret;exact ⟨zAj HT.out.symm,wX.out⟩
def zCI (x:Lq):List Value:=[D J x.f,D J x.nu,D J x.l,D J x.r]
theorem zEw (x:Lq):(zCI x).length=4:=rfl
theorem zRj:(Tryz.prog.info? 120).map (fun i=>(i.zero,i.size,i.bytes))=Z (Z (.agg #[D J 0,D J 0,D J 0,D J 0]),4,32):=by kernel_rfl
theorem zTc (f l r:Int) (w:World):(Instr.build 120 #[(0,D J f),(2,D J l),(3,D J r)]).run Tryz.prog w=.ok (.agg #[D J f,D J 0,D J l,D J r]) w:=run_build w _ _ _ (by kernel_rfl)
theorem zVw (f nu l r:Int) (w:World):(Instr.buildSlice 116 1 #[(0,.agg #[D J f,D J nu,D J l,D J r])]).run Tryz.prog w =
  .ok (H (Z ⟨w.heap.size,0,U⟩) 1 1) (w.alloc (.cells #[D J f,D J nu,D J l,D J r] 120)):=by
 obtain ⟨i0,hi,aQ,az,bi⟩:=info_parts zRj;refine run_buildSlice w _ _ 1 _ _ i0 _ Tryz.underlying116 hi aQ (by rw [az];omega) (by rw [az];omega) ?_;rw [az]
 kernel_rfl
theorem zTd {M:List Lq}:∀u∈M.flatMap zCI,u.oneCell'=Q:=by
 intro u hu;obtain ⟨y,_,hy⟩:=List.mem_flatMap.1 hu;simp [zCI] at hy;rcases hy with rfl | rfl | rfl | rfl<;>rfl
theorem zXX {w:World} {ops:Array Oper} {rest:List Oper} {o:Oper} {a:Act} {ZS:Exit→Act→World→Prop} (hgd:o.guard=U) (s x:Operand)
  (ho:o.op=.call { callee:=.builtin .append,args:=#[s,x],argTypes:=#[116,116] })
  {base:Nat} {A:Option Addr} {n c:Nat} {P:List Lq} (hst:Row w base 4 A n c (P.flatMap zCI)) (y:Lq)
  (hs:a.eval s=H A n c) (hx:a.eval x=H (Z ⟨w.heap.size,0,U⟩) 1 1) (N:Nat) (hN:n+1=N) (hn:N≤1000000) (hbase:base≤w.heap.size)
  (h:∀A' c' w',Row w' base 4 A' N c' ((P++[y]).flatMap zCI)→w.grownBy w' (blk A)→(∀k,blk A'=Z k→blk A=Z k∨w.heap.size≤k)→wpList Tryz.prog ops ZS rest (a.put o.dst (H A' N c')) w') :
  wpList Tryz.prog ops ZS (o :: rest) a (w.alloc (.cells #[D J y.f,D J y.nu,D J y.l,D J y.r] 120)):=by
 obtain ⟨i0,hi,aQ,az,bi⟩:=info_parts zRj;have hbl:=(Below.refl w.heap.size w).alloc (Nat.le_refl _) (.cells #[D J y.f,D J y.nu,D J y.l,D J y.r] 120);have bE:=hst.below hbl
 refine zPn hgd s x 116 ho 120 i0 _ 4 32 Tryz.underlying116 hi aQ az bi rfl (by decide) bE (Src.new (m:=1) (cs:=zCI y) rfl)
  (by intro u hu;simp [zCI] at hu;rcases hu with rfl | rfl | rfl | rfl<;>rfl) hs hx N hN (by unfold maxLen;omega) (by omega) (by simp;omega) ?_
 intro A' c' w' h1 h2 h3 _;refine h A' c' w' (by rw [List.flatMap_append];simpa using h1) ?_ (fun k hk=>?_)
 ·exact zAb (zAt hbl) h2
 ·rcases h3 k hk with e | e
  ·exact .inl e
  ·exact .inr (by simp at e;omega)
theorem zTe {w:World} {ops:Array Oper} {o:Oper} {a:Act} {K:Act→World→Prop} {Q':Exit→Act→World→Prop} {ZT:Prop} (hgd:o.guard=U) (s x:Operand)
  (ho:o.op=.call { callee:=.builtin .append,args:=#[s,x],argTypes:=#[116,116] })
  {base:Nat} {A:Option Addr} {n c:Nat} (P:List Lq) (hst:Row w base 4 A n c (P.flatMap zCI)) {B:Option Addr} {m d:Nat} (M:List Lq) (hsrc:Src w 4 B m (M.flatMap zCI))
  (hs:a.eval s=H A n c) (hx:a.eval x=H B m d) (N:Nat) (hN:n+m=N) (hn:N≤1000000) (hbase:base≤w.heap.size)
  (h:∀A' c' w',Row w' base 4 A' N c' ((P++M).flatMap zCI)→Below base w w'→w.grownBy w' (blk A)→(∀k,blk A'=Z k→blk A=Z k∨w.heap.size≤k)→K (a.put o.dst (H A' N c')) w') :
  if Region.wanted o (yielded ops a.tmps)=Q then Oper.wp Tryz.prog o a w K Q' else ZT:=by
 obtain ⟨i0,hi,aQ,az,bi⟩:=info_parts zRj;refine zTU hgd s x 116 ho 120 i0 _ 4 32 Tryz.underlying116 hi aQ az bi rfl (by decide) hst hsrc zTd hs hx N hN (by unfold maxLen;omega) (by omega) hbase ?_;intro A' c' w' h1 h2 h3 _;exact h A' c' w' (by rw [List.flatMap_append];exact h1) (hst.belowOf h2 hbase) h2 h3
theorem zLg {α β:Type} (f:α→List β) {k:Nat} (hk:∀a,(f a).length=k):∀(L:List α) (i:Nat),(L.flatMap f).take (i*k)=(L.take i).flatMap f
 | [],i=>by simp
 | a :: L,0=>by simp
 | a :: L,i+1=>by
  rw [List.flatMap_cons,List.take_succ_cons,List.flatMap_cons,List.take_append,hk,List.take_of_length_le (by rw [hk,Nat.add_mul];omega),show (i+1)*k-k=i*k by rw [Nat.add_mul];omega,zLg f hk L i]
theorem zLh {α β:Type} (f:α→List β) {k:Nat} (hk:∀a,(f a).length=k):∀(L:List α) (i:Nat),(L.flatMap f).drop (i*k)=(L.drop i).flatMap f
 | [],i=>by simp
 | a :: L,0=>by simp
 | a :: L,i+1=>by
  rw [List.flatMap_cons,List.drop_succ_cons,List.drop_append,hk,List.drop_eq_nil_of_le (by rw [hk,Nat.add_mul];omega),List.nil_append,show (i+1)*k-k=i*k by rw [Nat.add_mul];omega,zLh f hk L i]
theorem Row.qs {w:World} {base:Nat} {A:Option Addr} {n c:Nat} {P:List Lq} (h:Row w base 4 A n c (P.flatMap zCI)) {i:Nat} (hi:i≤n) :
  Src w 4 A i ((P.take i).flatMap zCI)∧Src w 4 (if c=i then A else A.map (·.add (i*4))) (n-i) ((P.drop i).flatMap zCI):=by
 have e1:=(h.to hi).src;have e2:=(h.from_ hi).src;rw [zLg zCI zEw] at e1;rw [zLh zCI zEw] at e2;exact ⟨e1,e2⟩
theorem zVx {w:World} {base:Nat} {A:Option Addr} {n c:Nat} {M:List Lq} (h:Row w base 4 A n c (M.flatMap zCI)) {i:Nat} (hi:i≤n) :
  ∃A1,(∀wx,(Instr.slice 116 (H A n c) (Z (D J (i:Int))) U U).run Tryz.prog wx=.ok (H A1 (n-i) (c-i)) wx)∧Src w 4 A1 (n-i) ((M.drop i).flatMap zCI):=by
 refine ⟨_,fun wx=>?_,(h.qs hi).2⟩;rw [run_slice_l wx 116 A n c (by kernel_rfl) J (i:Int) (by omega) (by omega),show Tryz.prog.elem 116=120 from by kernel_rfl,Tryz.sizeOf120];simp [Result.andThen,sliced]
theorem zXY {w:World} {base:Nat} {A:Option Addr} {n c:Nat} {M:List Lq} (h:Row w base 4 A n c (M.flatMap zCI)) {i:Nat} (hi:i≤n) :
  ∃A1,(∀wx,(Instr.slice 116 (H A n c) U (Z (D J (i:Int))) U).run Tryz.prog wx=.ok (H A1 i c) wx)∧Src w 4 A1 i ((M.take i).flatMap zCI):=by
 have hc:=h.cap;refine ⟨if c=0 then A else A.map (fun x=>x.add 0),fun wx=>?_,?_⟩
 ·rw [run_slice_h wx 116 A n c (by kernel_rfl) J (i:Int) (by omega) (by omega),show Tryz.prog.elem 116=120 from by kernel_rfl,Tryz.sizeOf120];simp [Result.andThen,sliced]
 ·have h1:=(h.qs hi).1;rcases Nat.eq_zero_or_pos i with e | e
  ·subst e;exact ⟨by simp,fun h0=>absurd h0 (by omega)⟩
  ·obtain ⟨g,off,rfl,_⟩:=h.form (by omega);rw [show (if c=0 then (Z ⟨g,off,U⟩:Option Addr) else (Z (⟨g,off,U⟩:Addr)).map (fun x=>x.add 0))=Z ⟨g,off,U⟩ from by split<;>simp [Addr.add_lit]];exact h1
end Go.Proofs.YtlmdfmnbcndhoaaGreatDoor
