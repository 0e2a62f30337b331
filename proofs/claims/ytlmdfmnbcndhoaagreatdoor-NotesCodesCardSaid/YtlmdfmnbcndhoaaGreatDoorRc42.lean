/-
  Lemmas, part 42. Conditions: each theorem's own.
-/
import Derived.Test.YtlmdfmnbcndhoaaGreatDoorRc41
import Derived.Test.YtlmdfmnbcndhoaaGreatDoorRc36
open Option renaming none→U,some→Z
open Go.Value renaming bool→G,int→D,slice→H
open Go.IntKind renaming i64→J
open Bool renaming false→E,true→Q
namespace Go.Proofs.YtlmdfmnbcndhoaaGreatDoor
open Go.RowKit
def zBy (k:Nat) (l:List Bi):List Int:=(List.range (k+1)).map fun f:Nat=>((zHW l (f:Int):Nat):Int)
theorem zCo (k:Nat) (l:List Bi) {f:Nat} (h:f < k+1):(zBy k l)[f]? = Z ((zHW l (f:Int):Nat):Int):=by
 unfold zBy;rw [List.getElem?_map,List.getElem?_range h];rfl
theorem zEu (k:Nat) (l:List Bi):(zBy k l).length=k+1:=by simp [zBy]
theorem zOk (k:Nat) (l:List Bi) {b:Bi} {f:Nat} (h0:0 < b.f) (e:b.f=(f:Int)):(zBy k l).set f ((zHW l (f:Int):Int)+1)=zBy k (l++[b]):=by
 apply List.ext_getElem?;intro i;rw [List.getElem?_set];by_cases hi:i < k+1
 ·rw [zCo k _ hi];by_cases hf:f=i
  ·subst hf;rw [if_pos rfl,zEu,if_pos hi,zCo k _ hi,zQa h0 e];rfl
  ·rw [if_neg hf,zCo k _ hi,zMS (fun h=>hf (by omega))]
 ·rw [List.getElem?_eq_none (by rw [zEu];omega),List.getElem?_eq_none (by rw [zEu];omega),zEu];split
  ·rename_i h1;rw [h1,if_neg hi]
  ·rfl
theorem zMk (k:Nat) (l:List Bi) {b:Bi} (h0:¬0 < b.f):zBy k (l++[b])=zBy k l:=by
 unfold zBy;exact List.map_congr_left fun f _=>by rw [zMS (fun h=>h0 h.1)]
theorem zOl (k:Nat):zBy k []=List.replicate (k+1) 0:=by
 unfold zBy;rw [List.eq_replicate_iff]
 exact ⟨by simp,fun b hb=>by
  obtain ⟨g,_,rfl⟩:=List.mem_map.1 hb
  simp [zHW]⟩
theorem zQQ (k:Nat) (l:List Bi) {f:Int} (h0:0≤f) (h1:f≤(k:Int)):ia (zBy k l) f=ia (zBQ k l) f:=by
 unfold ia;rw [zCo k l (show f.toNat < k+1 by omega),zET k l (show f.toNat < k+2 by omega)]
theorem zQR (k cr nu:Nat) (l0:List Bi) {l:List Bi} (h:∀x∈l,0≤x.f∧x.f≤(k:Int)) (i:Nat):zGI (zBy k l0) cr nu l i=zGI (zBQ k l0) cr nu l i:=by
 have key:∀x∈l,ldL (zBy k l0) cr nu x=ldL (zBQ k l0) cr nu x:=fun x hx=>by
  obtain ⟨h1,h2⟩:=h x hx;unfold ldL;by_cases h0:x.f=0
  ·rw [if_pos h0,if_pos h0]
  ·rw [if_neg h0,if_neg h0,zQQ k l0 (by omega) (by omega),zQQ k l0 (by omega) (by omega)]
 unfold zGI;have hm:∀x∈l.take i,x∈l:=fun x hx=>List.mem_of_mem_take hx
 generalize l.take i=T at hm ⊢
 induction T with
 | nil=>rfl
 | cons a T ih=>rw [List.flatMap_cons,List.flatMap_cons,key a (hm a (List.mem_cons_self ..)),ih fun x hx=>hm x (List.mem_cons_of_mem _ hx)]
theorem zOm (i s:Int) (o:Bool) (w:World):(Instr.build 76 #[(0,D J 2),(3,D J i),(5,G o),(4,D J s)]).run Tryz.prog w=.ok (.agg #[D J 2,D J 0,D J 0,D J i,D J s,G o]) w:=run_build w _ _ _ (by kernel_rfl)
set_option maxHeartbeats 12800000 in
set_option maxRecDepth 100000 in
theorem zQS (kk:Nat) (B:Option Addr) (b0 n d:Nat) (l:List Bi) (g:Nat) (M:List Int) (gs cr nu:Nat) (w:World) (hB:Row w b0 4 B n d (l.flatMap zOA)) (hln:l.length=n) (hM:OwnI w 0 g (kk+1) M) (hS:OwnI w 0 gs cr (zRu cr nu)) (hk:kk≤40) (hn:n≤20001)
  (hl:∀x∈l,0≤x.f∧x.f≤(kk:Int)∧1≤x.n∧x.n≤999999999∧(x.f=0→x.n≤(cr:Int))) (hMb:∀j,j < kk+1→∃v:Nat,M[j]? = Z (v:Int)∧v≤100000) (hM0:M[0]? = Z 0) (_hcr:cr≤12) :
  Calls Tryz.prog 85 #[D J (kk:Int),H B n d,H (Z ⟨g,0,U⟩) (kk+1) (kk+1),H (Z ⟨gs,0,U⟩) cr cr] w (zHX w (kk:Int) (zGI M cr nu l n)):=by
 have aa:Below w.heap.size w (w.alloc (.cells #[D J 0,H U 0 0] 55)):=(Below.refl _ _).alloc (Nat.le_refl _) _;have hk0:Blk (w.alloc (.cells #[D J 0,H U 0 0] 55)) w.heap.size 55 #[D J 0,H U 0 0]:=Blk.new _ _ _;have bj:=qH hln;have HB:=qH hB;have HM:=qH hM;have HS:=qH hS;have HL:=qH hl;have pF:=qH hMb;have Dp:=qH hM0;have bcd:=zHp;obtain ⟨K,hK⟩:∃K:Int,(kk:Int)=K:=⟨_,rfl⟩
 rw [hK];have HK:=qH hK;clear hl hB hM hS hMb hM0 hK hln;go_enter Tryz.func85,Tryz.ntmps85;go_upto_region 1 with fail
 generalize w.alloc (.cells #[D J 0,H U 0 0] 55)=Y at aa hk0 ⊢;have bF:SgW Y (Y.alloc (.cells #[D J K,H U 0 0] 55)) Y.heap.size K U 0 0 (zGI M cr nu l 0):=⟨OwnL.nil _ _,Blk.new _ _ _,fun q hq=>(by cases hq),(Below.refl _ _).alloc (Nat.le_refl _) _⟩;go_upto_region 2 with fail
 generalize hZ:Y.alloc (.cells #[D J K,H U 0 0] 55)=ZU at bF ⊢;clear hZ;obtain ⟨oB,gC⟩:∃a,Y.heap.size=a:=⟨_,rfl⟩
 have mn:Y.heap.size≤oB:=by omega
 have hwo:w.heap.size < oB:=by rw [←gC];exact hk0.lt
 rw [gC];have HOB:=qH gC;have bF:SgW Y ZU oB K U 0 0 (zGI M cr nu l 0):=by rw [←gC];exact bF
 clear gC;go_wp2_with fail
 go_loopw [10] (fun oo wv=>∃(i m:Nat) (X:World) (A1:Option Addr) (c1:Nat),X=wv∧i≤n∧m≤2*i∧oo=D J i∧SgW Y X oB K A1 m c1 (zGI M cr nu l i)) (fun oo _=>n-(intOf oo).toNat)
 case atStart=>exact ⟨0,0,_,U,0,rfl,by omega,by omega,rfl,bF⟩
 case round =>
  obtain ⟨i,m,X,A1,c1,hX,hi,hm,rfl,hW⟩:=hrel;subst hX;clear bF;by_cases hlt:i < n
  ·have j0:(0:Int)≤(i:Int):=by omega
   have j1:(i:Int) < (n:Int):=by omega
   have hold:=zAa aa hW.old aa.size;have jD:=HB.out.below hold;have tM:OwnI X 0 g (kk+1) M:=HM.out.below hold HM.out.lt;have wU:OwnI X 0 gs cr (zRu cr nu):=HS.out.below hold HS.out.lt;have hil:i < l.length:=by rw [bj.out];exact hlt
   have hli:l[i]? = Z (ba l i):=zCK hil;have hbd:=HL.out _ (List.mem_of_getElem? hli);obtain ⟨gb,ob,rfl,hgb,x0,x1,x2,x3⟩:=zJU jD hil hlt;have hbl:=(Below.refl X.heap.size X).alloc (Nat.le_refl _) (.cells #[D J (ba l i).f,D J (ba l i).n,G (ba l i).b,G Q] 132);have aL:Blk (X.alloc (.cells #[D J (ba l i).f,D J (ba l i).n,G (ba l i).b,G Q] 132)) X.heap.size 132 #[D J (ba l i).f,D J (ba l i).n,G (ba l i).b,G Q]:=Blk.new _ _ _;have db:=hW.next hbl;have eD:=tM.below hbl tM.lt;have pf:=wU.below hbl wU.lt;have cw:=qH (zQB (M:=M) (cr:=cr) (nu:=nu) hil);have BI:oB < X.heap.size:=hW.bk.lt;have BK:∀k,blk A1=Z k→k < X.heap.size∧Y.heap.size≤k:=fun k hk=>⟨(hW.own.row.lt k hk).2,(hW.own.row.lt k hk).1⟩
   clear hW hbl jD tM wU hold hli hil hgb;go_upto_if 29 with fail
   clear x0 x1 x2 x3;generalize X.alloc (.cells #[D J (ba l i).f,D J (ba l i).n,G (ba l i).b,G Q] 132)=X1 at aL db eD pf ⊢;generalize X.heap.size=a9 at aL BI BK ⊢;have xS:=qH BK;have Gx:=qH (show gs < Y.heap.size from Nat.lt_of_lt_of_le HS.out.lt aa.size);clear BK;obtain ⟨⟨ff,nn,bb⟩,hbe⟩:∃b,ba l i=b:=⟨_,rfl⟩
   rw [hbe] at aL cw hbd ⊢;simp only at aL hbd ⊢;clear hbe;by_cases hf0:ff=0
   ·subst hf0;obtain ⟨e,he⟩:∃e:Nat,nn-1=(e:Int):=⟨(nn-1).toNat,by omega⟩
    have hec:e < cr:=by have:=hbd.2.2.2.2 rfl;omega
    obtain ⟨sg,hsg⟩:∃s,sgD cr nu e=s:=⟨_,rfl⟩
    have hsb:sg=1∨sg = -1:=by rw [←hsg];unfold sgD;split<;>simp
    have fJ:=qH (show ldL M cr nu ⟨0,nn,bb⟩=[⟨2,0,0,nn,sg,bb⟩] by
     unfold ldL
     simp only [if_true]
     rw [he,show ((e:Int)).toNat=e by omega,hsg])
    have e1:X1.cell? ⟨gs,e,U⟩=Z (D J sg):=by rw [←hsg];exact pf.cell (zJO hec)
    have i4:(0:Int)≤(e:Int):=by omega
    have i5:(e:Int) < (cr:Int):=by omega
    have h0:X1.cell? ⟨a9,0,U⟩=Z (D J 0):=(aL.cell 0).trans rfl;have h1:X1.cell? ⟨a9,1,U⟩=Z (D J nn):=(aL.cell 1).trans rfl;have h2:X1.cell? ⟨a9,2,U⟩=Z (G bb):=(aL.cell 2).trans rfl;have o1:X1.cell? ⟨oB,1,U⟩=Z (H A1 m c1):=(db.bk.cell 1).trans rfl;have hbv:=zOm nn sg bb;have hbs:∀w,(Instr.buildSlice 53 1 #[(0,.agg #[D J 2,D J 0,D J 0,D J nn,D J sg,G bb])]).run Tryz.prog w=.ok (H (Z ⟨w.heap.size,0,U⟩) 1 1) (w.alloc (.cells #[D J 2,D J 0,D J 0,D J nn,D J sg,G bb] 76)):=fun w=>zMW ⟨2,0,0,nn,sg,bb⟩ w
    have ny:∀x∈[(⟨2,0,0,nn,sg,bb⟩:Lt)],LtOk x:=by
     intro x hx;rw [List.mem_singleton.1 hx];exact ⟨⟨by simp only;omega,by simp only;omega⟩,⟨by simp only;omega,by simp only;omega⟩,⟨by simp only;omega,by simp only;omega⟩,⟨by simp only;omega,by simp only;omega⟩,⟨by simp only;omega,by simp only;omega⟩⟩
    have hba:=(Below.refl X1.heap.size X1).alloc (Nat.le_refl _) (.cells #[D J 2,D J 0,D J 0,D J nn,D J sg,G bb] 76);have hkm:Lets (X1.alloc (.cells #[D J 2,D J 0,D J 0,D J nn,D J sg,G bb] 76)) (Z ⟨X1.heap.size,0,U⟩) 1 [⟨2,0,0,nn,sg,bb⟩]:=(OwnL.block (Blk.new X1 76 (([⟨2,0,0,nn,sg,bb⟩]:List Lt).flatMap ltC).toArray) (base:=0) (Nat.zero_le _) ny (by simp)).lets;have za:=db.next hba;have o2:(X1.alloc (.cells #[D J 2,D J 0,D J 0,D J nn,D J sg,G bb] 76)).cell? ⟨oB,1,U⟩=Z (H A1 m c1):=(za.bk.cell 1).trans rfl;have oL:=qH (fun wx (h:Below (X1.alloc (.cells #[D J 2,D J 0,D J 0,D J nn,D J sg,G bb] 76)).heap.size (X1.alloc (.cells #[D J 2,D J 0,D J 0,D J nn,D J sg,G bb] 76)) wx)=>(show Lets wx (Z ⟨X1.heap.size,0,U⟩) 1 [⟨2,0,0,nn,sg,bb⟩]∧SgW Y wx oB K A1 m c1 (zGI M cr nu l i)∧Y.heap.size≤wx.heap.size from ⟨hkm.below h,za.next h,(za.next h).old.size⟩));have hkb:=aL.below hba aL.lt;have sJ:=pf.below hba pf.lt
    have Ac:=qH (show ∀wx w',Below (X1.alloc (.cells #[D J 2,D J 0,D J 0,D J nn,D J sg,G bb] 76)).heap.size (X1.alloc (.cells #[D J 2,D J 0,D J 0,D J nn,D J sg,G bb] 76)) wx→wx.grownBy w' (blk A1)→(w'.cell? ⟨a9,1,U⟩=Z (D J nn)∧w'.cell? ⟨a9,2,U⟩=Z (G bb)∧w'.cell? ⟨gs,e,U⟩=Z (D J sg)) from fun wx w' h hg=>by
     have h1:=(hkb.below h hkb.lt).grown hg (fun e2=>by have:=(xS.out a9 e2.symm).1;omega)
     have h3:=(sJ.below h sJ.lt).blk.grown hg (fun e2=>by have h4:=(xS.out gs e2.symm).2;have h5:=Gx.out;omega)
     have h6:OwnI w' 0 gs cr (zRu cr nu):=⟨h3,Nat.zero_le _,pf.len⟩
     exact ⟨(h1.cell 1).trans rfl,(h1.cell 2).trans rfl,by rw [←hsg];exact h6.cell (zJO hec)⟩)
    have KP:=qH (show ∀wx,Below X1.heap.size X1 wx→(wx.cell? ⟨a9,1,U⟩=Z (D J nn)∧wx.cell? ⟨a9,2,U⟩=Z (G bb)∧wx.cell? ⟨gs,e,U⟩=Z (D J sg)) from fun wx h=>⟨((aL.below h aL.lt).cell 1).trans rfl,((aL.below h aL.lt).cell 2).trans rfl,by rw [←hsg];exact (pf.below h pf.lt).cell (zJO hec)⟩)
    have KS:=qH (show ∀wx v,(wx.cell? ⟨a9,1,U⟩=Z (D J nn)∧wx.cell? ⟨a9,2,U⟩=Z (G bb)∧wx.cell? ⟨gs,e,U⟩=Z (D J sg))→((wx.setCell ⟨oB,1,U⟩ v).cell? ⟨a9,1,U⟩=Z (D J nn)∧(wx.setCell ⟨oB,1,U⟩ v).cell? ⟨a9,2,U⟩=Z (G bb)∧(wx.setCell ⟨oB,1,U⟩ v).cell? ⟨gs,e,U⟩=Z (D J sg)) from fun wx v h=>⟨
     (World.cell?_of_block (w:=wx) (w':=wx.setCell ⟨oB,1,U⟩ v) (Below.heap_setCell wx ⟨oB,1,U⟩ v a9 (show a9≠oB from Nat.ne_of_gt BI))).trans h.1,
     (World.cell?_of_block (w:=wx) (w':=wx.setCell ⟨oB,1,U⟩ v) (Below.heap_setCell wx ⟨oB,1,U⟩ v a9 (show a9≠oB from Nat.ne_of_gt BI))).trans h.2.1,
     (World.cell?_of_block (w:=wx) (w':=wx.setCell ⟨oB,1,U⟩ v) (Below.heap_setCell wx ⟨oB,1,U⟩ v gs (show gs≠oB by have h5:=Gx.out;omega))).trans h.2.2⟩)
    have mI:m+1≤2*(i+1):=by omega
    have oC:i+1≤n:=hlt;have wm:m+1≤2932031007402:=by omega
    have hww:IntKind.i64.wrap (nn-1)=(e:Int)∧IntKind.i64.wrap (e:Int)=(e:Int):=⟨by rw [he];exact IntWalk.i64_in _ (by omega),IntWalk.i64_in _ (by omega)⟩;obtain ⟨w1,w2⟩:=hww;clear ny aL eD pf db hba hkm za hsg hec hbd hsb he hkb sJ;go_upto_region 7 with fail
    refine wp_region_held_drew (S:=(fun wx=>wx.cell? ⟨a9,1,U⟩=Z (D J nn)∧wx.cell? ⟨a9,2,U⟩=Z (G bb)∧wx.cell? ⟨gs,e,U⟩=Z (D J sg))) (by kernel_rfl) ?_ (fun hS=>?_)
    ·exact KP.out _ (Below.refl _ _).drew
    refine tkH (i:=0) (v:=?_) rfl (by kernel_rfl) (fun _ _ _ h=>h) (by rfl) hS ?_ ?_
    rotate_left
    ·(intro wq hSw;(try dsimp only at hSw);go_simp;try (with_reducible rfl))
    (try simp only [Act.put,List.setIfInBounds_toArray,List.set_cons_zero,List.set_cons_succ,List.getElem_toArray,List.getElem_cons_zero])
    refine tkH (i:=2) (v:=?_) rfl (by kernel_rfl) (fun _ _ _ h=>h) (by rfl) hS ?_ ?_
    rotate_left
    ·(intro wq hSw;(try dsimp only at hSw);go_simp;try (with_reducible rfl))
    (try simp only [Act.put,List.setIfInBounds_toArray,List.set_cons_zero,List.set_cons_succ,List.getElem_toArray,List.getElem_cons_zero,List.getElem_cons_succ])
    refine tkH (i:=3) (v:=?_) rfl (by kernel_rfl) (fun _ _ _ h=>h) (by rfl) hS ?_ ?_
    rotate_left
    ·(intro wq hSw;(try dsimp only at hSw);go_simp;try (with_reducible rfl))
    (try simp only [Act.put,List.setIfInBounds_toArray,List.set_cons_zero,List.set_cons_succ,List.getElem_toArray,List.getElem_cons_zero,List.getElem_cons_succ])
    refine tkH (i:=4) (v:=?_) rfl (by kernel_rfl) (fun _ _ _ h=>h) (by rfl) hS ?_ ?_
    rotate_left
    ·(intro wq hSw;(try dsimp only at hSw);go_simp;try (with_reducible rfl))
    (try simp only [Act.put,List.setIfInBounds_toArray,List.set_cons_zero,List.set_cons_succ,List.getElem_toArray,List.getElem_cons_zero,List.getElem_cons_succ])
    refine tkH (i:=5) (v:=?_) rfl (by kernel_rfl) (fun _ _ _ h=>h) (by rfl) hS ?_ ?_
    rotate_left
    ·(intro wq hSw;(try dsimp only at hSw);go_simp;try (with_reducible rfl))
    (try simp only [Act.put,List.setIfInBounds_toArray,List.set_cons_zero,List.set_cons_succ,List.getElem_toArray,List.getElem_cons_zero,List.getElem_cons_succ])
    refine tkH (i:=6) (v:=?_) rfl (by kernel_rfl) (fun _ _ _ h=>h) (by rfl) hS ?_ ?_
    rotate_left
    ·(intro wq hSw;(try dsimp only at hSw);go_simp;try (with_reducible rfl))
    (try simp only [Act.put,List.setIfInBounds_toArray,List.set_cons_zero,List.set_cons_succ,List.getElem_toArray,List.getElem_cons_zero,List.getElem_cons_succ])
    refine tkH (i:=7) (v:=?_) rfl (by kernel_rfl) (fun _ _ _ h=>h) (by rfl) hS ?_ ?_
    rotate_left
    ·(intro wq hSw;(try dsimp only at hSw);go_simp;try (with_reducible rfl))
    (try simp only [Act.put,List.setIfInBounds_toArray,List.set_cons_zero,List.set_cons_succ,List.getElem_toArray,List.getElem_cons_zero,List.getElem_cons_succ])
    refine tkH (i:=8) (v:=?_) rfl (by kernel_rfl) (fun _ _ _ h=>h) (by rfl) hS ?_ ?_
    rotate_left
    ·(intro wq hSw;(try dsimp only at hSw);go_simp;try (with_reducible rfl))
    (try simp only [Act.put,List.setIfInBounds_toArray,List.set_cons_zero,List.set_cons_succ,List.getElem_toArray,List.getElem_cons_zero,List.getElem_cons_succ])
    refine tkH (i:=9) (v:=?_) rfl (by kernel_rfl) (fun _ _ _ h=>h) (by rfl) hS ?_ ?_
    rotate_left
    ·(intro wq hSw;(try dsimp only at hSw);go_simp;try (with_reducible rfl))
    (try simp only [Act.put,List.setIfInBounds_toArray,List.set_cons_zero,List.set_cons_succ,List.getElem_toArray,List.getElem_cons_zero,List.getElem_cons_succ])
    refine tkH (i:=10) (v:=?_) rfl (by kernel_rfl) (fun _ _ _ h=>h) (by rfl) hS ?_ ?_
    rotate_left
    ·(intro wq hSw;(try dsimp only at hSw);go_simp;try (with_reducible rfl))
    (try simp only [Act.put,List.setIfInBounds_toArray,List.set_cons_zero,List.set_cons_succ,List.getElem_toArray,List.getElem_cons_zero,List.getElem_cons_succ])
    refine tkH (i:=11) (v:=?_) rfl (by kernel_rfl) (fun _ _ _ h=>h) (by rfl) hS ?_ ?_
    rotate_left
    ·(intro wq hSw;(try dsimp only at hSw);go_simp;try (with_reducible rfl))
    (try simp only [Act.put,List.setIfInBounds_toArray,List.set_cons_zero,List.set_cons_succ,List.getElem_toArray,List.getElem_cons_zero,List.getElem_cons_succ])
    refine tkH (i:=12) (v:=?_) rfl (by kernel_rfl) (fun _ _ _ h=>h) (by rfl) hS ?_ ?_
    rotate_left
    ·(intro wq hSw;(try dsimp only at hSw);go_simp;try (with_reducible rfl))
    (try simp only [Act.put,List.setIfInBounds_toArray,List.set_cons_zero,List.set_cons_succ,List.getElem_toArray,List.getElem_cons_zero,List.getElem_cons_succ])
    refine wpAnyH_ready (rs:=[1,13]) (by kernel_rfl) (by simp) ?_;refine AllReadyH.cons rfl (fun K hK=>?_) (AllReadyH.cons rfl (fun K hK=>?_) AllReadyH.nil)
    ·go_simp
     refine hK.out _ _ ?_ (fun hS=>?_)
     ·exact hS
     clear hK K
     (try simp only [Act.put,List.setIfInBounds_toArray,List.set_cons_zero,List.set_cons_succ,List.getElem_toArray,List.getElem_cons_zero,List.getElem_cons_succ])
     refine wpAnyH_ready (rs:=[13]) (by kernel_rfl) (by simp) ?_;refine AllReadyH.cons rfl (fun K hK=>?_) AllReadyH.nil;go_simp
     refine hK.out _ _ ?_ (fun hS=>?_)
     ·exact (by first | (with_reducible exact KP.out _ (zAQ (Below.refl _ _).drew _)) | (with_reducible exact KP.out _ (zAQ (Below.refl _ _) _)) | (with_reducible exact KP.out _ (Below.drew (zAQ (Below.refl _ _) _))))
     clear hK K
     (try simp only [Act.put,List.setIfInBounds_toArray,List.set_cons_zero,List.set_cons_succ,List.getElem_toArray,List.getElem_cons_zero,List.getElem_cons_succ])
     refine wpAnyH_ready (rs:=[14]) (by kernel_rfl) (by simp) ?_;refine AllReadyH.cons rfl (fun K hK=>?_) AllReadyH.nil;refine zQq (base:=Y.heap.size) (A:=A1) (n:=m) (c:=c1) (L:=zGI M cr nu l i) (m:=1) (d:=1) (M:=[⟨2,0,0,nn,sg,bb⟩]) rfl (.tmp 31) (.tmp 43) (by rfl) (by rfl) (by rfl) (oL.out _ (by first | (with_reducible exact (Below.refl _ _).drew) | (with_reducible exact Below.refl _ _))).2.1.own (oL.out _ (by first | (with_reducible exact (Below.refl _ _).drew) | (with_reducible exact Below.refl _ _))).1 (m+1) rfl wm (oL.out _ (by first | (with_reducible exact (Below.refl _ _).drew) | (with_reducible exact Below.refl _ _))).2.2 ?_;intro A2 c2 w9 cv aQ hl9';have my:=qH (SgW.pushed (oL.out _ (by first | (with_reducible exact (Below.refl _ _).drew) | (with_reducible exact Below.refl _ _))).2.1 mn cv aQ hl9');have uP:=Ac.out _ _ (by first | (with_reducible exact (Below.refl _ _).drew) | (with_reducible exact Below.refl _ _)) aQ;clear cv aQ hl9';have p1:w9.cell? ⟨oB,1,U⟩=Z (H A1 m c1):=(my.out.1.cell 1).trans rfl;have z1:=my.out.1.frozen 1;refine hK.out _ _ ?_ (fun hS=>?_)
     ·exact uP
     clear hK K
     (try simp only [Act.put,List.setIfInBounds_toArray,List.set_cons_zero,List.set_cons_succ,List.getElem_toArray,List.getElem_cons_zero,List.getElem_cons_succ])
     refine tkH (i:=15) (v:=?_) rfl (by kernel_rfl) (fun _ _ _ h=>h) (by rfl) hS ?_ ?_
     rotate_left
     ·(intro wq hSw;(try dsimp only at hSw);go_simp;try (with_reducible rfl))
     (try simp only [Act.put,List.setIfInBounds_toArray,List.set_cons_zero,List.set_cons_succ,List.getElem_toArray,List.getElem_cons_zero,List.getElem_cons_succ])
     refine wpAnyH_ready (rs:=[16]) (by kernel_rfl) (by simp) ?_;refine AllReadyH.cons rfl (fun K hK=>?_) AllReadyH.nil;go_simp
     refine hK.out _ _ ?_ (fun hS=>?_)
     ·exact KS.out _ _ hS
     clear hK K
     (try simp only [Act.put,List.setIfInBounds_toArray,List.set_cons_zero,List.set_cons_succ,List.getElem_toArray,List.getElem_cons_zero,List.getElem_cons_succ])
     refine wpAnyH_done (by kernel_rfl) ?_ _;have bW:SgW Y (w9.setCell ⟨oB,1,U⟩ (H A2 (m+1) c2)) oB K A2 (m+1) c2 (zGI M cr nu l (i+1)):=by
      rw [cw.out,fJ.out];exact my.out.2
     have fm:=qH bW;clear bW my h0 h1 h2 o1 o2 hbv hbs e1 w1 w2 oL Ac KP KS hS;go_wp2_with fail
     go_roundw
     case rel=>exact ⟨i+1,m+1,_,A2,c2,rfl,oC,mI,by go_num,fm.out⟩
     case measure=>simp [intOf];omega
    ·go_simp
     refine hK.out _ _ ?_ (fun hS=>?_)
     ·exact (by first | (with_reducible exact KP.out _ (zAQ (Below.refl _ _).drew _)) | (with_reducible exact KP.out _ (zAQ (Below.refl _ _) _)) | (with_reducible exact KP.out _ (Below.drew (zAQ (Below.refl _ _) _))))
     clear hK K
     (try simp only [Act.put,List.setIfInBounds_toArray,List.set_cons_zero,List.set_cons_succ,List.getElem_toArray,List.getElem_cons_zero,List.getElem_cons_succ])
     refine wpAnyH_ready (rs:=[1]) (by kernel_rfl) (by simp) ?_;refine AllReadyH.cons rfl (fun K hK=>?_) AllReadyH.nil;go_simp
     refine hK.out _ _ ?_ (fun hS=>?_)
     ·exact hS
     clear hK K
     (try simp only [Act.put,List.setIfInBounds_toArray,List.set_cons_zero,List.set_cons_succ,List.getElem_toArray,List.getElem_cons_zero,List.getElem_cons_succ])
     refine wpAnyH_ready (rs:=[14]) (by kernel_rfl) (by simp) ?_;refine AllReadyH.cons rfl (fun K hK=>?_) AllReadyH.nil;refine zQq (base:=Y.heap.size) (A:=A1) (n:=m) (c:=c1) (L:=zGI M cr nu l i) (m:=1) (d:=1) (M:=[⟨2,0,0,nn,sg,bb⟩]) rfl (.tmp 31) (.tmp 43) (by rfl) (by rfl) (by rfl) (oL.out _ (by first | (with_reducible exact (Below.refl _ _).drew) | (with_reducible exact Below.refl _ _))).2.1.own (oL.out _ (by first | (with_reducible exact (Below.refl _ _).drew) | (with_reducible exact Below.refl _ _))).1 (m+1) rfl wm (oL.out _ (by first | (with_reducible exact (Below.refl _ _).drew) | (with_reducible exact Below.refl _ _))).2.2 ?_;intro A2 c2 w9 cv aQ hl9';have my:=qH (SgW.pushed (oL.out _ (by first | (with_reducible exact (Below.refl _ _).drew) | (with_reducible exact Below.refl _ _))).2.1 mn cv aQ hl9');have uP:=Ac.out _ _ (by first | (with_reducible exact (Below.refl _ _).drew) | (with_reducible exact Below.refl _ _)) aQ;clear cv aQ hl9';have p1:w9.cell? ⟨oB,1,U⟩=Z (H A1 m c1):=(my.out.1.cell 1).trans rfl;have z1:=my.out.1.frozen 1;refine hK.out _ _ ?_ (fun hS=>?_)
     ·exact uP
     clear hK K
     (try simp only [Act.put,List.setIfInBounds_toArray,List.set_cons_zero,List.set_cons_succ,List.getElem_toArray,List.getElem_cons_zero,List.getElem_cons_succ])
     refine tkH (i:=15) (v:=?_) rfl (by kernel_rfl) (fun _ _ _ h=>h) (by rfl) hS ?_ ?_
     rotate_left
     ·(intro wq hSw;(try dsimp only at hSw);go_simp;try (with_reducible rfl))
     (try simp only [Act.put,List.setIfInBounds_toArray,List.set_cons_zero,List.set_cons_succ,List.getElem_toArray,List.getElem_cons_zero,List.getElem_cons_succ])
     refine wpAnyH_ready (rs:=[16]) (by kernel_rfl) (by simp) ?_;refine AllReadyH.cons rfl (fun K hK=>?_) AllReadyH.nil;go_simp
     refine hK.out _ _ ?_ (fun hS=>?_)
     ·exact KS.out _ _ hS
     clear hK K
     (try simp only [Act.put,List.setIfInBounds_toArray,List.set_cons_zero,List.set_cons_succ,List.getElem_toArray,List.getElem_cons_zero,List.getElem_cons_succ])
     refine wpAnyH_done (by kernel_rfl) ?_ _;have bW:SgW Y (w9.setCell ⟨oB,1,U⟩ (H A2 (m+1) c2)) oB K A2 (m+1) c2 (zGI M cr nu l (i+1)):=by
      rw [cw.out,fJ.out];exact my.out.2
     have fm:=qH bW;clear bW my h0 h1 h2 o1 o2 hbv hbs e1 w1 w2 oL Ac KP KS hS;go_wp2_with fail
     go_roundw
     case rel=>exact ⟨i+1,m+1,_,A2,c2,rfl,oC,mI,by go_num,fm.out⟩
     case measure=>simp [intOf];omega
   ·obtain ⟨q,rfl⟩:∃q:Nat,ff=(q:Int):=⟨ff.toNat,by omega⟩
    obtain ⟨p,hp⟩:∃p:Nat,q=p+1:=⟨q-1,by omega⟩
    have k0:((q:Int)==0)=E:=by simp;omega
    have hqp:(q:Int)-1=(p:Int):=by omega
    have hpk:p < kk+1:=by omega
    have hqk:q < kk+1:=by omega
    obtain ⟨v1,lV,sI⟩:=pF.out p hpk;obtain ⟨v2,ox,sH⟩:=pF.out q hqk;obtain ⟨r2,gA⟩:∃r:Int,(v2:Int)-nn=r:=⟨_,rfl⟩
    obtain ⟨r3,oy⟩:∃r:Int,r2+1=r:=⟨_,rfl⟩
    have fJ:=qH (show ldL M cr nu ⟨(q:Int),nn,bb⟩=if bb then [⟨1,(p:Int),(v1:Int)+nn,0,0,E⟩,⟨1,(q:Int),r3,0,0,E⟩] else [⟨1,(q:Int),r3,0,0,E⟩,⟨1,(p:Int),(v1:Int)+nn,0,0,E⟩] by
     unfold ldL ia
     simp only
     rw [if_neg (by omega),hqp,show ((p:Int)).toNat=p by omega,show ((q:Int)).toNat=q by omega,lV,ox]
     simp only [Option.getD_some,gA,oy])
    have h0:X1.cell? ⟨a9,0,U⟩=Z (D J (q:Int)):=(aL.cell 0).trans rfl;have h1:X1.cell? ⟨a9,1,U⟩=Z (D J nn):=(aL.cell 1).trans rfl;have e1:=eD.cell lV;have i4:(0:Int)≤(p:Int):=by omega
    have i5:(p:Int) < ((kk+1:Nat):Int):=by omega
    have i6:(p:Int) < (kk:Int)+1:=by omega
    have i7:(0:Int)≤(q:Int):=by omega
    have i8:(q:Int) < ((kk+1:Nat):Int):=by omega
    have i9:(q:Int) < (kk:Int)+1:=by omega
    have nz:LtOk ⟨1,(p:Int),(v1:Int)+nn,0,0,E⟩:=⟨⟨by simp only;omega,by simp only;omega⟩,⟨by simp only;omega,by simp only;omega⟩,⟨by simp only;omega,by simp only;omega⟩,⟨by simp only;omega,by simp only;omega⟩,⟨by simp only;omega,by simp only;omega⟩⟩;have nx:LtOk ⟨1,(q:Int),r3,0,0,E⟩:=⟨⟨by simp only;omega,by simp only;omega⟩,⟨by simp only;omega,by simp only;omega⟩,⟨by simp only;omega,by simp only;omega⟩,⟨by simp only;omega,by simp only;omega⟩,⟨by simp only;omega,by simp only;omega⟩⟩;have nA:m+2≤1000000:=by omega
    have mI:m+2≤2*(i+1):=by omega
    have yk:=qH mI;have yj:=qH nA;have oC:i+1≤n:=by omega
    have uw:=qH oC;have hww:IntKind.i64.wrap ((q:Int)-1)=(p:Int)∧IntKind.i64.wrap ((v1:Int)+nn)=(v1:Int)+nn∧IntKind.i64.wrap ((v2:Int)-nn)=r2∧IntKind.i64.wrap (r2+1)=r3:=⟨by rw [hqp];exact IntWalk.i64_in _ (by omega),IntWalk.i64_in _ (by omega),by rw [gA];exact IntWalk.i64_in _ (by omega),by rw [oy];exact IntWalk.i64_in _ (by omega)⟩;have BD:=zKU (p:Int) ((v1:Int)+nn);have BC:=zKU (q:Int) r3;have yg:=qH nz;have ye:=qH nx;have uY:=qH ox
    have GG:=qH (show p=0→v1=0 from fun e=>by
     rw [e,Dp.out] at lV
     have:=Option.some.inj lV;omega)
    have fK:=qH aL;have nX:=qH db;have Do:=qH eD;have hpq:1 < q→¬p=0:=by omega
    have lX:¬1 < q→p=0:=by omega
    obtain ⟨w1,w2,w3,w4⟩:=hww;clear gA oy hf0 lV ox nz nx aL db eD pf hbd;go_upto_if 48 with fail
    go_cut [12] (fun v wv=>v=D J (v1:Int)∧X1=wv)
    case first =>
     by_cases hq1:1 < q
     ·have k1:(1:Int) < (q:Int):=by omega
      have k2:decide ((1:Int) < (q:Int))=Q:=decide_eq_true k1;clear hp hq1;go_wp2_with fail
      go_meet
      case rel=>exact ⟨rfl,rfl⟩
     ·have k1:¬(1:Int) < (q:Int):=by omega
      have k2:decide ((1:Int) < (q:Int))=E:=decide_eq_false k1;have vO:v1=0:=GG.out (lX hq1);subst vO;clear hp hq1;go_wp2_with fail
      go_meet
      case rel=>exact ⟨rfl,rfl⟩
    skip;obtain ⟨rfl,rfl⟩:=hcut;have bL:=(Below.refl X1.heap.size X1).alloc (Nat.le_refl _) (.cells #[D J 1,D J (p:Int),D J ((v1:Int)+nn),D J 0,D J 0,G E] 76);have kL:Blk (X1.alloc (.cells #[D J 1,D J (p:Int),D J ((v1:Int)+nn),D J 0,D J 0,G E] 76)) X1.heap.size 76 #[D J 1,D J (p:Int),D J ((v1:Int)+nn),D J 0,D J 0,G E]:=Blk.new _ _ _;have bn:=fK.out.below bL fK.out.lt;have bp:=nX.out.next bL;have lA:=Do.out.below bL Do.out.lt;clear hp bL fK nX Do GG;go_upto_region 12 with fail
    clear h0 h1 e1 BD w1 w2 i4 i5 i6 hqp hpk hqk sI sH hlt mI nA oC;generalize X1.alloc (.cells #[D J 1,D J (p:Int),D J ((v1:Int)+nn),D J 0,D J 0,G E] 76)=X3 at kL bn bp lA ⊢;generalize X1.heap.size=bP at kL ⊢;have h0:X3.cell? ⟨a9,0,U⟩=Z (D J (q:Int)):=(bn.cell 0).trans rfl;have h1:X3.cell? ⟨a9,1,U⟩=Z (D J nn):=(bn.cell 1).trans rfl;have e1:=lA.cell uY.out;have yu:=qH kL;have fK:=qH bn;have uj:=qH bp;have jT:=qH lA;clear kL bn bp lA
    have KP:=qH (show ∀wx,Below X3.heap.size X3 wx→(Below X3.heap.size X3 wx∧wx.cell? ⟨a9,0,U⟩=Z (D J (q:Int))∧wx.cell? ⟨a9,1,U⟩=Z (D J nn)∧wx.cell? ⟨g,q,U⟩=Z (D J (v2:Int))) from
     fun wx h=>⟨h,((fK.out.below h fK.out.lt).cell 0).trans rfl,((fK.out.below h fK.out.lt).cell 1).trans rfl,(jT.out.below h jT.out.lt).cell uY.out⟩)
    first
     | go_region_held3 (fun wx=>Below X3.heap.size X3 wx∧wx.cell? ⟨a9,0,U⟩=Z (D J (q:Int))∧wx.cell? ⟨a9,1,U⟩=Z (D J nn)∧wx.cell? ⟨g,q,U⟩=Z (D J (v2:Int))) (first | assumption | exact KP.out _ (Below.refl _ _).drew | exact KP.out _ (zAQ (Below.refl _ _).drew _)) (first | fail)
     | fail
    clear h0 h1 e1 BC w3 w4 KP;have bR:=(Below.refl X3.heap.size X3).alloc (Nat.le_refl _) (.cells #[D J 1,D J (q:Int),D J r3,D J 0,D J 0,G E] 76);have kR:Blk (X3.alloc (.cells #[D J 1,D J (q:Int),D J r3,D J 0,D J 0,G E] 76)) X3.heap.size 76 #[D J 1,D J (q:Int),D J r3,D J 0,D J 0,G E]:=Blk.new _ _ _;have gz:=yu.out.below bR yu.out.lt;have cg:=fK.out.below bR fK.out.lt;have bq:=uj.out.next bR;generalize X3.alloc (.cells #[D J 1,D J (q:Int),D J r3,D J 0,D J 0,G E] 76)=X4 at kR gz cg bq ⊢;generalize X3.heap.size=a11 at kR ⊢;have kR:=kR.drew;have gz:=gz.drew;have cg:=cg.drew;have bq:=bq.next (Below.refl _ _).drew;generalize X4.drew=X5 at kR gz cg bq ⊢;have h2:X5.cell? ⟨a9,2,U⟩=Z (G bb):=(cg.cell 2).trans rfl;have o1:X5.cell? ⟨oB,1,U⟩=Z (H A1 m c1):=(bq.bk.cell 1).trans rfl;have y0:X5.cell? ⟨bP,0,U⟩=Z (D J 1):=(gz.cell 0).trans rfl;have y1:X5.cell? ⟨bP,1,U⟩=Z (D J (p:Int)):=(gz.cell 1).trans rfl;have y2:X5.cell? ⟨bP,2,U⟩=Z (D J ((v1:Int)+nn)):=(gz.cell 2).trans rfl;have y3:X5.cell? ⟨bP,3,U⟩=Z (D J 0):=(gz.cell 3).trans rfl;have y4:X5.cell? ⟨bP,4,U⟩=Z (D J 0):=(gz.cell 4).trans rfl;have y5:X5.cell? ⟨bP,5,U⟩=Z (G E):=(gz.cell 5).trans rfl;have u0:X5.cell? ⟨a11,0,U⟩=Z (D J 1):=(kR.cell 0).trans rfl;have u1:X5.cell? ⟨a11,1,U⟩=Z (D J (q:Int)):=(kR.cell 1).trans rfl;have u2:X5.cell? ⟨a11,2,U⟩=Z (D J r3):=(kR.cell 2).trans rfl;have u3:X5.cell? ⟨a11,3,U⟩=Z (D J 0):=(kR.cell 3).trans rfl;have u4:X5.cell? ⟨a11,4,U⟩=Z (D J 0):=(kR.cell 4).trans rfl;have u5:X5.cell? ⟨a11,5,U⟩=Z (G E):=(kR.cell 5).trans rfl;have aE:Y.heap.size≤X5.heap.size:=bq.old.size;clear kR gz cg
    cases bb with
    | true =>
     have hbs:=fun w=>zJm ⟨1,(p:Int),(v1:Int)+nn,0,0,E⟩ ⟨1,(q:Int),r3,0,0,E⟩ w
     simp only [ltV] at hbs;go_upto_region 4 with (at_builtin;refine zEw ?_)
     refine qH ?_;refine zKV (base:=Y.heap.size) (A:=A1) (n:=m) (c:=c1) (L:=zGI M cr nu l i) rfl (.tmp 78) (.tmp 81) ?_ ?_ [⟨1,(p:Int),(v1:Int)+nn,0,0,E⟩,⟨1,(q:Int),r3,0,0,E⟩] 2 rfl (zMX yg.out ye.out) ?_ ?_ (m+2) rfl yj.out aE ?_
     ·rfl
     ·exact bq.own
     ·rfl
     ·rfl
     intro A2 c2 w9 cv aQ hl9';obtain ⟨dq,ct⟩:=bq.pushed mn cv aQ hl9';have p1:w9.cell? ⟨oB,1,U⟩=Z (H A1 m c1):=(dq.cell 1).trans rfl;have z1:=dq.frozen 1;have bW:SgW Y (w9.setCell ⟨oB,1,U⟩ (H A2 (m+2) c2)) oB K A2 (m+2) c2 (zGI M cr nu l (i+1)):=by
      rw [cw.out,fJ.out];exact ct
     have fm:=qH bW;clear bq cv aQ hl9' ct bW dq h2 o1 hbs y0 u0 y1 u1 y2 u2 y3 u3 y4 u4 y5 u5;go_wp2_with fail
     go_roundw
     case rel=>exact ⟨i+1,m+2,_,A2,c2,rfl,uw.out,yk.out,by go_num,fm.out⟩
     case measure=>simp [intOf];omega
    | false =>
     have hbs:=fun w=>zJm ⟨1,(q:Int),r3,0,0,E⟩ ⟨1,(p:Int),(v1:Int)+nn,0,0,E⟩ w
     simp only [ltV] at hbs;go_upto_region 4 with (at_builtin;refine zEw ?_)
     refine qH ?_;refine zKV (base:=Y.heap.size) (A:=A1) (n:=m) (c:=c1) (L:=zGI M cr nu l i) rfl (.tmp 85) (.tmp 88) ?_ ?_ [⟨1,(q:Int),r3,0,0,E⟩,⟨1,(p:Int),(v1:Int)+nn,0,0,E⟩] 2 rfl (zMX ye.out yg.out) ?_ ?_ (m+2) rfl yj.out aE ?_
     ·rfl
     ·exact bq.own
     ·rfl
     ·rfl
     intro A2 c2 w9 cv aQ hl9';obtain ⟨dq,ct⟩:=bq.pushed mn cv aQ hl9';have p1:w9.cell? ⟨oB,1,U⟩=Z (H A1 m c1):=(dq.cell 1).trans rfl;have z1:=dq.frozen 1;have bW:SgW Y (w9.setCell ⟨oB,1,U⟩ (H A2 (m+2) c2)) oB K A2 (m+2) c2 (zGI M cr nu l (i+1)):=by
      rw [cw.out,fJ.out];exact ct
     have fm:=qH bW;clear bq cv aQ hl9' ct bW dq h2 o1 hbs y0 u0 y1 u1 y2 u2 y3 u3 y4 u4 y5 u5;go_wp2_with fail
     go_roundw
     case rel=>exact ⟨i+1,m+2,_,A2,c2,rfl,uw.out,yk.out,by go_num,fm.out⟩
     case measure=>simp [intOf];omega
  ·have j1:¬(i:Int) < (n:Int):=by omega
   obtain rfl:i=n:=by omega
   have pg:w.heap.size < Y.heap.size:=hk0.lt;have dh:=hk0.below hW.old pg;have e0:X.cell? ⟨oB,0,U⟩=Z (D J K):=(hW.bk.cell 0).trans rfl;have e1:X.cell? ⟨oB,1,U⟩=Z (H A1 m c1):=(hW.bk.cell 1).trans rfl;have r0:X.cell? ⟨w.heap.size,0,U⟩=Z (D J 0):=(dh.cell 0).trans rfl;have r1:X.cell? ⟨w.heap.size,1,U⟩=Z (H U 0 0):=(dh.cell 1).trans rfl;have z0:=dh.frozen 0;have z1:=dh.frozen 1;have pD:=qH dh;have HW:=qH hW;have jq:=aa.size;clear hlt hW dh;go_wp2_with fail
   have hS:Blk ((X.setCell ⟨w.heap.size,0,U⟩ (D J K)).setCell ⟨w.heap.size,1,U⟩ (H A1 m c1)) w.heap.size 55 #[D J K,H A1 m c1]:=(pD.out.set_ 0 _).set_ 1 _;have gS:=zAg (zAg (World.grownBy.refl X (Z w.heap.size)) (p:=⟨w.heap.size,0,U⟩) (.inl rfl) (D J K)) (p:=⟨w.heap.size,1,U⟩) (.inl rfl) (H A1 m c1);have dT:=((zAa aa HW.out.old jq).setCell (p:=⟨w.heap.size,0,U⟩) (Nat.le_refl _) (D J K)).setCell (p:=⟨w.heap.size,1,U⟩) (Nat.le_refl _) (H A1 m c1);have pk:OwnL ((X.setCell ⟨w.heap.size,0,U⟩ (D J K)).setCell ⟨w.heap.size,1,U⟩ (H A1 m c1)) w.heap.size A1 m c1 (zGI M cr nu l i):=by
    refine ⟨(HW.out.own.row.kept gS ?_).mono jq,HW.out.own.fits,HW.out.own.le⟩
    cases hb:blk A1 with
    | none=>exact .inl rfl
    | some q=>exact .inr (by have:=(HW.out.own.row.lt q hb).1;simp;omega)
   (try simp only [Exit.inBlock,Exit.then])
   refine zAn rfl rfl hS Tryz.underlying55 rfl (by kernel_rfl) rfl ?_;exact ⟨A1,m,c1,rfl,pk,dT⟩
end Go.Proofs.YtlmdfmnbcndhoaaGreatDoor
