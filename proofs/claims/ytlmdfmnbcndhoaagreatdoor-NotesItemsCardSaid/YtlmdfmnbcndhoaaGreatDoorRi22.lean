/-
  Lemmas, part 22. Conditions: each theorem's own.
-/
import Derived.Test.YtlmdfmnbcndhoaaGreatDoorRi21
import Derived.Test.YtlmdfmnbcndhoaaGreatDoorRi18
namespace Go.Proofs.YtlmdfmnbcndhoaaGreatDoor
open Go.RowKit
set_option maxHeartbeats 12800000 in
set_option maxRecDepth 100000 in
theorem zLj (rb:Nat) (F:Fm) (s:RS) (S:List UInt8) (w:World) (h:RX w rb F s) (hS:S.length≤100000) :
  Calls Tryz.prog 120 #[.pointer (some ⟨rb,0,none⟩),.string (bA S)] w (zBW w rb F s S):=by
 have hlt:=h.lt;obtain ⟨a1,ha1⟩:∃a,a=w.heap.size+1:=⟨_,rfl⟩
 obtain ⟨a2,ha2⟩:∃a,a=w.heap.size+2:=⟨_,rfl⟩
 have HA1:=qH ha1;have HA2:=qH ha2;have lt_r:rb < w.heap.size:=hlt;have lt_o:rb < a1:=by omega
 have lt_x:rb < a2:=by omega
 have ge_o:w.heap.size≤a1:=by omega
 have lt_r_o:w.heap.size < a1:=by omega
 have lt_o_x:a1 < a2:=by omega
 have hb0:Below w.heap.size w (((w.alloc (.cells #[.int .i64 0,.int .i64 0,.int .i64 0,.int .i64 0,.bool false,.int .i64 0,.slice none 0 0,.bool false] 32)).alloc (.cells #[.int .i64 0,.int .i64 0,.int .i64 0,.int .i64 0,.bool false,.int .i64 0,.slice none 0 0,.bool false] 32)).alloc (.cells #[.int .i64 0,.int .i64 0,.bool false,.int .i64 0] 29)):=(((Below.refl _ _).alloc (Nat.le_refl _) _).alloc (by simp) _).alloc (by simp;omega) _;have kr:Blk (((w.alloc (.cells #[.int .i64 0,.int .i64 0,.int .i64 0,.int .i64 0,.bool false,.int .i64 0,.slice none 0 0,.bool false] 32)).alloc (.cells #[.int .i64 0,.int .i64 0,.int .i64 0,.int .i64 0,.bool false,.int .i64 0,.slice none 0 0,.bool false] 32)).alloc (.cells #[.int .i64 0,.int .i64 0,.bool false,.int .i64 0] 29)) w.heap.size 32 #[.int .i64 0,.int .i64 0,.int .i64 0,.int .i64 0,.bool false,.int .i64 0,.slice none 0 0,.bool false]:=((Blk.new w _ _).alloc _).alloc _;have ko:Blk (((w.alloc (.cells #[.int .i64 0,.int .i64 0,.int .i64 0,.int .i64 0,.bool false,.int .i64 0,.slice none 0 0,.bool false] 32)).alloc (.cells #[.int .i64 0,.int .i64 0,.int .i64 0,.int .i64 0,.bool false,.int .i64 0,.slice none 0 0,.bool false] 32)).alloc (.cells #[.int .i64 0,.int .i64 0,.bool false,.int .i64 0] 29)) (w.heap.size+1) 32 #[.int .i64 0,.int .i64 0,.int .i64 0,.int .i64 0,.bool false,.int .i64 0,.slice none 0 0,.bool false]:=by have:=(Blk.new (w.alloc (.cells #[.int .i64 0,.int .i64 0,.int .i64 0,.int .i64 0,.bool false,.int .i64 0,.slice none 0 0,.bool false] 32)) 32 #[.int .i64 0,.int .i64 0,.int .i64 0,.int .i64 0,.bool false,.int .i64 0,.slice none 0 0,.bool false]).alloc (.cells #[.int .i64 0,.int .i64 0,.bool false,.int .i64 0] 29);rwa [World.size_alloc] at this
 have kx:Blk (((w.alloc (.cells #[.int .i64 0,.int .i64 0,.int .i64 0,.int .i64 0,.bool false,.int .i64 0,.slice none 0 0,.bool false] 32)).alloc (.cells #[.int .i64 0,.int .i64 0,.int .i64 0,.int .i64 0,.bool false,.int .i64 0,.slice none 0 0,.bool false] 32)).alloc (.cells #[.int .i64 0,.int .i64 0,.bool false,.int .i64 0] 29)) (w.heap.size+2) 29 #[.int .i64 0,.int .i64 0,.bool false,.int .i64 0]:=by have:=Blk.new ((w.alloc (.cells #[.int .i64 0,.int .i64 0,.int .i64 0,.int .i64 0,.bool false,.int .i64 0,.slice none 0 0,.bool false] 32)).alloc (.cells #[.int .i64 0,.int .i64 0,.int .i64 0,.int .i64 0,.bool false,.int .i64 0,.slice none 0 0,.bool false] 32)) 29 #[.int .i64 0,.int .i64 0,.bool false,.int .i64 0];rwa [World.size_alloc,World.size_alloc] at this
 have h1:=h.below hb0;have g1:w.grownBy (((w.alloc (.cells #[.int .i64 0,.int .i64 0,.int .i64 0,.int .i64 0,.bool false,.int .i64 0,.slice none 0 0,.bool false] 32)).alloc (.cells #[.int .i64 0,.int .i64 0,.int .i64 0,.int .i64 0,.bool false,.int .i64 0,.slice none 0 0,.bool false] 32)).alloc (.cells #[.int .i64 0,.int .i64 0,.bool false,.int .i64 0] 29)) (some rb):=zAv hb0;have HCU:=qH (fun wx (hx:RX wx rb F s)=>zMa hx S);have HSU:=qH (zLi S);clear h hb0;go_enter Tryz.func120,Tryz.ntmps120;go_wp2_with fail
 refine zDz (fun l q a wv=>zAM w rb a1 a2 F s S l q a wv) ?_ ?_
 ·skip;go_wp2_with fail
  generalize (((w.alloc (.cells #[.int .i64 0,.int .i64 0,.int .i64 0,.int .i64 0,.bool false,.int .i64 0,.slice none 0 0,.bool false] 32)).alloc (.cells #[.int .i64 0,.int .i64 0,.int .i64 0,.int .i64 0,.bool false,.int .i64 0,.slice none 0 0,.bool false] 32)).alloc (.cells #[.int .i64 0,.int .i64 0,.bool false,.int .i64 0] 29))=X at kr ko kx h1 g1 ⊢;rw [←ha1] at ko ⊢;rw [←ha2] at kx;rw [show a1+1=a2 from by omega];clear ha1 ha2;refine (HCU.out X h1).mono ?_;intro e X2 hc
  cases hcf:zFk S with
  | none =>
   obtain ⟨rfl,hx,hg⟩:=zGl hc hcf;have HN:=qH (show zAy S=none by rw [HSU.out,hcf]);clear hcf;have k2_r:=kr.grownO hg lt_r;have k2_o:=ko.grownO hg lt_o;have k2_x:=kx.grownO hg lt_x;have g2:=zAb g1 hg;clear hc hg g1 kr ko kx h1;have z21:=k2_o.frozen 1;have d21:X2.cell? ⟨a1,1,none⟩=some (.int .i64 0):=(k2_o.cell 1).trans rfl;have q21:Below (rb+1) X2 (X2.setCell ⟨a1,1,none⟩ (.int .i64 0)):=(Below.refl _ _).setCell (p:=⟨a1,1,none⟩) lt_o _;have p21:Below w.heap.size X2 (X2.setCell ⟨a1,1,none⟩ (.int .i64 0)):=(Below.refl _ _).setCell (p:=⟨a1,1,none⟩) ge_o _;have k21_r:=k2_r.far (p:=⟨a1,1,none⟩) (by simp only;omega) (.int .i64 0);have h21:=hx.over q21;have g21:=zAc g2 p21;clear hx g2 k2_r k2_o k2_x q21 p21;have HG:=qH (show zCs w rb w.heap.size a1 a2 F s S 0 (1) (X2.setCell ⟨a1,1,none⟩ (.int .i64 0)) (S) from .inl ⟨rfl,rfl,⟨⟨_,h21⟩,k21_r,g21,HN.out⟩⟩);clear h21 g21 k21_r;go_wp2_with fail
   go_step3
   refine (show ∃n',zAM w rb a1 a2 F s S 0 n' _ _ from ?_);exact ⟨_,_,S,rfl,⟨rfl,rfl,rfl,rfl,rfl,rfl,rfl⟩,HG⟩
  | some p =>
   obtain ⟨f,q0⟩:=p;obtain ⟨rfl,hx,hg⟩:=zGk hc hcf;have hqi:=(zLV hcf).2.2;obtain ⟨fi,hfi⟩:∃x,(zAG F.L f:Int)=x:=⟨_,rfl⟩
   rw [hfi];have HFI:=qH hfi;have n0:=zAF q0 [];clear hfi;have k2_r:=kr.grownO hg lt_r;have k2_o:=ko.grownO hg lt_o;have k2_x:=kx.grownO hg lt_x;have g2:=zAb g1 hg;clear hc hg g1 kr ko kx h1;have z22:=k2_o.frozen 1;have d22:X2.cell? ⟨a1,1,none⟩=some (.int .i64 0):=(k2_o.cell 1).trans rfl;have k22_o:Blk (X2.setCell ⟨a1,1,none⟩ (.int .i64 fi)) a1 32 #[.int .i64 0,.int .i64 fi,.int .i64 0,.int .i64 0,.bool false,.int .i64 0,.slice none 0 0,.bool false]:=k2_o.set_ 1 _;have q22:Below (rb+1) X2 (X2.setCell ⟨a1,1,none⟩ (.int .i64 fi)):=(Below.refl _ _).setCell (p:=⟨a1,1,none⟩) lt_o _;have p22:Below w.heap.size X2 (X2.setCell ⟨a1,1,none⟩ (.int .i64 fi)):=(Below.refl _ _).setCell (p:=⟨a1,1,none⟩) ge_o _;have k22_r:=k2_r.far (p:=⟨a1,1,none⟩) (by simp only;omega) (.int .i64 fi);have k22_x:=k2_x.far (p:=⟨a1,1,none⟩) (by simp only;omega) (.int .i64 fi);have h22:=hx.over q22;have g22:=zAc g2 p22;clear hx g2 k2_r k2_o k2_x q22 p22
   cases q0 with
   | nil =>
    rw [show (([]:List UInt8)==[])=true from rfl] at n0;have HN:=qH (show zAy S=none by rw [HSU.out,hcf]);clear hcf hqi;have HG:=qH (show zCs w rb w.heap.size a1 a2 F s S 0 (1) (X2.setCell ⟨a1,1,none⟩ (.int .i64 fi)) ([]) from .inl ⟨rfl,rfl,⟨⟨_,h22⟩,k22_r,g22,HN.out⟩⟩);clear h22 g22 k22_r k22_o k22_x;go_wp2_with fail
    go_step3
    refine (show ∃n',zAM w rb a1 a2 F s S 0 n' _ _ from ?_);exact ⟨_,_,[],rfl,⟨rfl,rfl,rfl,rfl,rfl,rfl,rfl⟩,HG⟩
   | cons b r =>
    rw [show (b :: r==([]:List UInt8))=false from rfl] at n0;have HU:=HSU.out;rw [hcf] at HU;simp only at HU;have HRL:=qH (show r.length+1≤S.length by rw [hqi];simp only [List.length_append,List.length_cons];omega);have t1:=zDq b r;have t2:=zGd b r;have HIB:=qH (fun wx=>zIS b wx);clear hcf hqi;go_upto_region 7 with fail
    clear z22 d22;generalize X2.setCell ⟨a1,1,none⟩ (.int .i64 fi)=X3 at h22 g22 k22_r k22_o k22_x ⊢;by_cases hk0:zAD b=0
    ·have HN:=qH (show zAy S=none by rw [HU,if_pos hk0]);obtain ⟨sg,hsg⟩:∃x:Int,(if b=32 then 0 else if zAD b=0 then -1 else zAD b)=x:=⟨_,rfl⟩
     have i0:sg < 1:=by rw [←hsg];split<;>(try rw [if_pos hk0])<;>omega
     rw [hsg] at HIB;clear HU hk0 hsg;go_wp2_with fail
     refine (HIB.out _).mono ?_;rintro e X4 ⟨rfl,rfl⟩;have HG:=qH (show zCs w rb w.heap.size a1 a2 F s S 0 (1) X4 (r) from .inl ⟨rfl,rfl,⟨⟨_,h22⟩,k22_r,g22,HN.out⟩⟩);clear h22 g22 k22_r k22_o k22_x;go_wp2_with fail
     go_step3
     refine (show ∃n',zAM w rb a1 a2 F s S 0 n' _ _ from ?_);exact ⟨_,_,r,rfl,⟨rfl,rfl,rfl,rfl,rfl,rfl,rfl⟩,HG⟩
    ·obtain ⟨K,hK⟩:∃K,zAD b=K:=⟨_,rfl⟩
     have hsi:=zDw hk0;have hb32:¬b=32:=fun e=>by subst e;exact hk0 (by decide)
     simp only [if_neg hb32,hK] at HIB;rw [if_neg hk0,hK] at HU;rw [hK] at hsi;have i0:¬K < 1:=by omega
     have hK18:1≤K∧K≤8:=⟨hsi.1,hsi.2.1⟩;clear hk0 hb32 hK hsi;go_wp2_with fail
     refine (HIB.out _).mono ?_;rintro e X4 ⟨rfl,rfl⟩;have z24:=k22_o.frozen 0;have d24:X4.cell? ⟨a1,0,none⟩=some (.int .i64 0):=(k22_o.cell 0).trans rfl;have k24_o:Blk (X4.setCell ⟨a1,0,none⟩ (.int .i64 K)) a1 32 #[.int .i64 K,.int .i64 fi,.int .i64 0,.int .i64 0,.bool false,.int .i64 0,.slice none 0 0,.bool false]:=k22_o.set_ 0 _;have q24:Below (rb+1) X4 (X4.setCell ⟨a1,0,none⟩ (.int .i64 K)):=(Below.refl _ _).setCell (p:=⟨a1,0,none⟩) lt_o _;have p24:Below w.heap.size X4 (X4.setCell ⟨a1,0,none⟩ (.int .i64 K)):=(Below.refl _ _).setCell (p:=⟨a1,0,none⟩) ge_o _;have k24_r:=k22_r.far (p:=⟨a1,0,none⟩) (by simp only;omega) (.int .i64 K);have k24_x:=k22_x.far (p:=⟨a1,0,none⟩) (by simp only;omega) (.int .i64 K);have h24:=h22.over q24;have g24:=zAc g22 p24;clear h22 g22 k22_r k22_o k22_x q24 p24;go_upto_region 11 with fail
     clear z24 d24;generalize X4.setCell ⟨a1,0,none⟩ (.int .i64 K)=X5 at h24 g24 k24_r k24_o k24_x ⊢;have f0:X5.cell? ⟨a1,0,none⟩=some (.int .i64 K):=(k24_o.cell 0).trans rfl;by_cases e4:K=4
     ·subst e4;have HN:=qH (show zAy S=zDC ⟨4,f,none,[],false⟩ (zCx r) by rw [HU,if_pos rfl]);have HLL:=qH (show (s.lost||zAW F.L f)=(s.lost||zAx F.L ⟨4,f,none,[],false⟩) by simp [zAx,zAO]);have HOO:=qH (show ∀b,oOf F.L ⟨4,f,none,[],b⟩=⟨4,fi,⟨0,0,false,0⟩,[],b⟩ from fun b=>by rw [←HFI.out];rfl);rw [HLL.out] at h24;clear HU;have HG:=qH (show zCs w rb w.heap.size a1 a2 F s S 1 (3) X5 (r) from .inr (.inl ⟨rfl,rfl,⟨⟨4,f,none,[],false⟩,4,fi,0,false,⟨h24,k24_r,k24_o,g24,HN.out,rfl,HOO.out⟩⟩⟩));clear h24 g24 k24_r k24_o k24_x;go_wp2_with fail
      go_step3
      refine (show ∃n',zAM w rb a1 a2 F s S 1 n' _ _ from ?_);exact ⟨_,_,r,rfl,⟨rfl,rfl,rfl,rfl,rfl,rfl,rfl⟩,HG⟩
     by_cases e3:K=3
     ·subst e3;have HN:=qH (show zAy S=zOW f (zFs (r.length+1) [] r) by rw [HU,if_neg (by omega),if_pos rfl]);have HLL:=qH (show (s.lost||zAW F.L f)=(s.lost||zAW F.L f||zAO F.L []) by simp [zAO]);rw [HLL.out] at h24;clear HU;have HG:=qH (show zCs w rb w.heap.size a1 a2 F s S 2 (10+r.length) X5 (r) from .inr (.inr (.inl ⟨rfl,rfl,⟨f,fi,[],[],none,0,0,r.length+1,0,0,0,false,⟨h24,k24_r,k24_o,k24_x,g24,Row.none_ _ _ _,rfl,rfl,HFI.out.symm,by have:=HRL.out;omega,by omega,HN.out⟩⟩⟩)));clear h24 g24 k24_r k24_o k24_x;go_wp2_with fail
      go_step3
      refine (show ∃n',zAM w rb a1 a2 F s S 2 n' _ _ from ?_);exact ⟨_,_,r,rfl,⟨rfl,rfl,rfl,rfl,rfl,rfl,rfl⟩,HG⟩
     by_cases e5:K=5
     ·subst e5;rw [if_neg (by omega),if_neg (by omega),if_pos rfl] at HU;have HSH:=qH (fun wx (hx:RX wx rb F ⟨s.T,s.bad,s.lost||zAW F.L f⟩)=>zDB rb F ⟨s.T,s.bad,s.lost||zAW F.L f⟩ r wx hx);go_wp2_with fail
      refine (HSH.out X5 h24).mono ?_;intro e X6 hc
      cases hsr:zAQ r with
      | none =>
       obtain ⟨rfl,⟨l,hy⟩,hg⟩:=zFy hc hsr;have HN:=qH (show zAy S=none by rw [HU,hsr]);clear HU hsr f0;have k6_r:=k24_r.grownO hg lt_r;have k6_o:=k24_o.grownO hg lt_o;have g6:=zAb g24 hg;clear hc hg g24 h24 k24_r k24_o k24_x;have z26_0:=k6_o.frozen 2;have d26_0:X6.cell? ⟨a1,2,none⟩=some (.int .i64 0):=(k6_o.cell 2).trans rfl;have z26_1:=k6_o.frozen 3;have d26_1:X6.cell? ⟨a1,3,none⟩=some (.int .i64 0):=(k6_o.cell 3).trans rfl;have z26_2:=k6_o.frozen 4;have d26_2:X6.cell? ⟨a1,4,none⟩=some (.bool false):=(k6_o.cell 4).trans rfl;have z26_3:=k6_o.frozen 5;have d26_3:X6.cell? ⟨a1,5,none⟩=some (.int .i64 0):=(k6_o.cell 5).trans rfl;have q26_0:Below (rb+1) X6 (X6.setCell ⟨a1,2,none⟩ (.int .i64 0)):=(Below.refl _ _).setCell (p:=⟨a1,2,none⟩) lt_o _;have p26_0:Below w.heap.size X6 (X6.setCell ⟨a1,2,none⟩ (.int .i64 0)):=(Below.refl _ _).setCell (p:=⟨a1,2,none⟩) ge_o _;have o26_0_r:=k6_r.far (p:=⟨a1,2,none⟩) (by simp only;omega) (.int .i64 0);have q26_1:Below (rb+1) X6 ((X6.setCell ⟨a1,2,none⟩ (.int .i64 0)).setCell ⟨a1,3,none⟩ (.int .i64 0)):=q26_0.setCell (p:=⟨a1,3,none⟩) lt_o _;have p26_1:Below w.heap.size X6 ((X6.setCell ⟨a1,2,none⟩ (.int .i64 0)).setCell ⟨a1,3,none⟩ (.int .i64 0)):=p26_0.setCell (p:=⟨a1,3,none⟩) ge_o _;have o26_1_r:=o26_0_r.far (p:=⟨a1,3,none⟩) (by simp only;omega) (.int .i64 0);have q26_2:Below (rb+1) X6 (((X6.setCell ⟨a1,2,none⟩ (.int .i64 0)).setCell ⟨a1,3,none⟩ (.int .i64 0)).setCell ⟨a1,4,none⟩ (.bool false)):=q26_1.setCell (p:=⟨a1,4,none⟩) lt_o _;have p26_2:Below w.heap.size X6 (((X6.setCell ⟨a1,2,none⟩ (.int .i64 0)).setCell ⟨a1,3,none⟩ (.int .i64 0)).setCell ⟨a1,4,none⟩ (.bool false)):=p26_1.setCell (p:=⟨a1,4,none⟩) ge_o _;have o26_2_r:=o26_1_r.far (p:=⟨a1,4,none⟩) (by simp only;omega) (.bool false);have q26_3:Below (rb+1) X6 ((((X6.setCell ⟨a1,2,none⟩ (.int .i64 0)).setCell ⟨a1,3,none⟩ (.int .i64 0)).setCell ⟨a1,4,none⟩ (.bool false)).setCell ⟨a1,5,none⟩ (.int .i64 0)):=q26_2.setCell (p:=⟨a1,5,none⟩) lt_o _;have p26_3:Below w.heap.size X6 ((((X6.setCell ⟨a1,2,none⟩ (.int .i64 0)).setCell ⟨a1,3,none⟩ (.int .i64 0)).setCell ⟨a1,4,none⟩ (.bool false)).setCell ⟨a1,5,none⟩ (.int .i64 0)):=p26_2.setCell (p:=⟨a1,5,none⟩) ge_o _;have o26_3_r:=o26_2_r.far (p:=⟨a1,5,none⟩) (by simp only;omega) (.int .i64 0);have h26:=hy.over q26_3;have g26:=zAc g6 p26_3;clear hy g6 k6_r k6_o q26_0 p26_0 o26_0_r q26_1 p26_1 o26_1_r q26_2 p26_2 o26_2_r q26_3 p26_3;have HG:=qH (show zCs w rb w.heap.size a1 a2 F s S 0 (1) ((((X6.setCell ⟨a1,2,none⟩ (.int .i64 0)).setCell ⟨a1,3,none⟩ (.int .i64 0)).setCell ⟨a1,4,none⟩ (.bool false)).setCell ⟨a1,5,none⟩ (.int .i64 0)) (r) from .inl ⟨rfl,rfl,⟨⟨_,h26⟩,o26_3_r,g26,HN.out⟩⟩);clear h26 g26 o26_3_r;go_wp2_with fail
       go_step3
       refine (show ∃n',zAM w rb a1 a2 F s S 0 n' _ _ from ?_);exact ⟨_,_,r,rfl,⟨rfl,rfl,rfl,rfl,rfl,rfl,rfl⟩,HG⟩
      | some p =>
       obtain ⟨g,far,r2⟩:=p;obtain ⟨rfl,hy,hg⟩:=zFx hc hsr;obtain ⟨gi,hgi⟩:∃x,(zAG F.L g:Int)=x:=⟨_,rfl⟩
       rw [hgi];have HN:=qH (show zAy S=zDC ⟨5,f,some ⟨g,0,far,0⟩,[],false⟩ (zCx r2) by rw [HU,hsr]);have HLL:=qH (show (s.lost||zAW F.L f||zAW F.L g)=(s.lost||zAx F.L ⟨5,f,some ⟨g,0,far,0⟩,[],false⟩) by simp [zAx,zAO,Bool.or_assoc]);have HOO:=qH (show ∀b,oOf F.L ⟨5,f,some ⟨g,0,far,0⟩,[],b⟩=⟨5,fi,⟨gi,0,far,0⟩,[],b⟩ from fun b=>by rw [←HFI.out,←hgi];rfl)
       try simp only at hy
       rw [HLL.out] at hy;clear HU hsr hgi f0;have k6_r:=k24_r.grownO hg lt_r;have k6_o:=k24_o.grownO hg lt_o;have g6:=zAb g24 hg;clear hc hg g24 h24 k24_r k24_o k24_x;have z27_0:=k6_o.frozen 2;have d27_0:X6.cell? ⟨a1,2,none⟩=some (.int .i64 0):=(k6_o.cell 2).trans rfl;have z27_1:=k6_o.frozen 3;have d27_1:X6.cell? ⟨a1,3,none⟩=some (.int .i64 0):=(k6_o.cell 3).trans rfl;have z27_2:=k6_o.frozen 4;have d27_2:X6.cell? ⟨a1,4,none⟩=some (.bool false):=(k6_o.cell 4).trans rfl;have z27_3:=k6_o.frozen 5;have d27_3:X6.cell? ⟨a1,5,none⟩=some (.int .i64 0):=(k6_o.cell 5).trans rfl;have k27_0:Blk (X6.setCell ⟨a1,2,none⟩ (.int .i64 gi)) a1 32 #[.int .i64 5,.int .i64 fi,.int .i64 gi,.int .i64 0,.bool false,.int .i64 0,.slice none 0 0,.bool false]:=k6_o.set_ 2 _;have q27_0:Below (rb+1) X6 (X6.setCell ⟨a1,2,none⟩ (.int .i64 gi)):=(Below.refl _ _).setCell (p:=⟨a1,2,none⟩) lt_o _;have p27_0:Below w.heap.size X6 (X6.setCell ⟨a1,2,none⟩ (.int .i64 gi)):=(Below.refl _ _).setCell (p:=⟨a1,2,none⟩) ge_o _;have o27_0_r:=k6_r.far (p:=⟨a1,2,none⟩) (by simp only;omega) (.int .i64 gi);have k27_1:Blk ((X6.setCell ⟨a1,2,none⟩ (.int .i64 gi)).setCell ⟨a1,3,none⟩ (.int .i64 0)) a1 32 #[.int .i64 5,.int .i64 fi,.int .i64 gi,.int .i64 0,.bool false,.int .i64 0,.slice none 0 0,.bool false]:=k27_0.set_ 3 _;have q27_1:Below (rb+1) X6 ((X6.setCell ⟨a1,2,none⟩ (.int .i64 gi)).setCell ⟨a1,3,none⟩ (.int .i64 0)):=q27_0.setCell (p:=⟨a1,3,none⟩) lt_o _;have p27_1:Below w.heap.size X6 ((X6.setCell ⟨a1,2,none⟩ (.int .i64 gi)).setCell ⟨a1,3,none⟩ (.int .i64 0)):=p27_0.setCell (p:=⟨a1,3,none⟩) ge_o _;have o27_1_r:=o27_0_r.far (p:=⟨a1,3,none⟩) (by simp only;omega) (.int .i64 0);have k27_2:Blk (((X6.setCell ⟨a1,2,none⟩ (.int .i64 gi)).setCell ⟨a1,3,none⟩ (.int .i64 0)).setCell ⟨a1,4,none⟩ (.bool far)) a1 32 #[.int .i64 5,.int .i64 fi,.int .i64 gi,.int .i64 0,.bool far,.int .i64 0,.slice none 0 0,.bool false]:=k27_1.set_ 4 _;have q27_2:Below (rb+1) X6 (((X6.setCell ⟨a1,2,none⟩ (.int .i64 gi)).setCell ⟨a1,3,none⟩ (.int .i64 0)).setCell ⟨a1,4,none⟩ (.bool far)):=q27_1.setCell (p:=⟨a1,4,none⟩) lt_o _;have p27_2:Below w.heap.size X6 (((X6.setCell ⟨a1,2,none⟩ (.int .i64 gi)).setCell ⟨a1,3,none⟩ (.int .i64 0)).setCell ⟨a1,4,none⟩ (.bool far)):=p27_1.setCell (p:=⟨a1,4,none⟩) ge_o _;have o27_2_r:=o27_1_r.far (p:=⟨a1,4,none⟩) (by simp only;omega) (.bool far);have k27_3:Blk ((((X6.setCell ⟨a1,2,none⟩ (.int .i64 gi)).setCell ⟨a1,3,none⟩ (.int .i64 0)).setCell ⟨a1,4,none⟩ (.bool far)).setCell ⟨a1,5,none⟩ (.int .i64 0)) a1 32 #[.int .i64 5,.int .i64 fi,.int .i64 gi,.int .i64 0,.bool far,.int .i64 0,.slice none 0 0,.bool false]:=k27_2.set_ 5 _;have q27_3:Below (rb+1) X6 ((((X6.setCell ⟨a1,2,none⟩ (.int .i64 gi)).setCell ⟨a1,3,none⟩ (.int .i64 0)).setCell ⟨a1,4,none⟩ (.bool far)).setCell ⟨a1,5,none⟩ (.int .i64 0)):=q27_2.setCell (p:=⟨a1,5,none⟩) lt_o _;have p27_3:Below w.heap.size X6 ((((X6.setCell ⟨a1,2,none⟩ (.int .i64 gi)).setCell ⟨a1,3,none⟩ (.int .i64 0)).setCell ⟨a1,4,none⟩ (.bool far)).setCell ⟨a1,5,none⟩ (.int .i64 0)):=p27_2.setCell (p:=⟨a1,5,none⟩) ge_o _;have o27_3_r:=o27_2_r.far (p:=⟨a1,5,none⟩) (by simp only;omega) (.int .i64 0);have h27:=hy.over q27_3;have g27:=zAc g6 p27_3;clear hy g6 k6_r k6_o q27_0 p27_0 k27_0 o27_0_r q27_1 p27_1 k27_1 o27_1_r q27_2 p27_2 k27_2 o27_2_r q27_3 p27_3;have HG:=qH (show zCs w rb w.heap.size a1 a2 F s S 1 (3) ((((X6.setCell ⟨a1,2,none⟩ (.int .i64 gi)).setCell ⟨a1,3,none⟩ (.int .i64 0)).setCell ⟨a1,4,none⟩ (.bool far)).setCell ⟨a1,5,none⟩ (.int .i64 0)) (r2) from .inr (.inl ⟨rfl,rfl,⟨⟨5,f,some ⟨g,0,far,0⟩,[],false⟩,5,fi,gi,far,⟨h27,o27_3_r,k27_3,g27,HN.out,rfl,HOO.out⟩⟩⟩));clear h27 g27 o27_3_r k27_3;go_wp2_with fail
       go_step3
       refine (show ∃n',zAM w rb a1 a2 F s S 1 n' _ _ from ?_);exact ⟨_,_,r2,rfl,⟨rfl,rfl,rfl,rfl,rfl,rfl,rfl⟩,HG⟩
     by_cases e6:K=6
     ·subst e6;rw [if_neg (by omega),if_neg (by omega),if_neg (by omega),if_pos (by omega)] at HU;have HSH:=qH (fun wx (hx:RX wx rb F ⟨s.T,s.bad,s.lost||zAW F.L f⟩)=>zMa hx r);go_wp2_with fail
      refine (HSH.out X5 h24).mono ?_;intro e X6 hc
      cases hsr:zFk r with
      | none =>
       obtain ⟨rfl,hy,hg⟩:=zGl hc hsr;have HN:=qH (show zAy S=none by rw [HU,hsr]);clear HU hsr f0;have k6_r:=k24_r.grownO hg lt_r;have k6_o:=k24_o.grownO hg lt_o;have g6:=zAb g24 hg;clear hc hg g24 h24 k24_r k24_o k24_x;have z28:=k6_o.frozen 2;have d28:X6.cell? ⟨a1,2,none⟩=some (.int .i64 0):=(k6_o.cell 2).trans rfl;have q28:Below (rb+1) X6 (X6.setCell ⟨a1,2,none⟩ (.int .i64 0)):=(Below.refl _ _).setCell (p:=⟨a1,2,none⟩) lt_o _;have p28:Below w.heap.size X6 (X6.setCell ⟨a1,2,none⟩ (.int .i64 0)):=(Below.refl _ _).setCell (p:=⟨a1,2,none⟩) ge_o _;have k28_r:=k6_r.far (p:=⟨a1,2,none⟩) (by simp only;omega) (.int .i64 0);have h28:=hy.over q28;have g28:=zAc g6 p28;clear hy g6 k6_r k6_o q28 p28;have HG:=qH (show zCs w rb w.heap.size a1 a2 F s S 0 (1) (X6.setCell ⟨a1,2,none⟩ (.int .i64 0)) (r) from .inl ⟨rfl,rfl,⟨⟨_,h28⟩,k28_r,g28,HN.out⟩⟩);clear h28 g28 k28_r;go_wp2_with fail
       go_step3
       refine (show ∃n',zAM w rb a1 a2 F s S 0 n' _ _ from ?_);exact ⟨_,_,r,rfl,⟨rfl,rfl,rfl,rfl,rfl,rfl,rfl⟩,HG⟩
      | some p =>
       obtain ⟨g,r2⟩:=p;obtain ⟨rfl,hy,hg⟩:=zGk hc hsr;obtain ⟨gi,hgi⟩:∃x,(zAG F.L g:Int)=x:=⟨_,rfl⟩
       rw [hgi];have HN:=qH (show zAy S=zDC ⟨6,f,some ⟨g,0,false,0⟩,[],false⟩ (zCx r2) by rw [HU,hsr]);have HLL:=qH (show (s.lost||zAW F.L f||zAW F.L g)=(s.lost||zAx F.L ⟨6,f,some ⟨g,0,false,0⟩,[],false⟩) by simp [zAx,zAO,Bool.or_assoc]);have HOO:=qH (show ∀b,oOf F.L ⟨6,f,some ⟨g,0,false,0⟩,[],b⟩=⟨6,fi,⟨gi,0,false,0⟩,[],b⟩ from fun b=>by rw [←HFI.out,←hgi];rfl)
       try simp only at hy
       rw [HLL.out] at hy;clear HU hsr hgi f0;have k6_r:=k24_r.grownO hg lt_r;have k6_o:=k24_o.grownO hg lt_o;have g6:=zAb g24 hg;clear hc hg g24 h24 k24_r k24_o k24_x;have z29:=k6_o.frozen 2;have d29:X6.cell? ⟨a1,2,none⟩=some (.int .i64 0):=(k6_o.cell 2).trans rfl;have k29_o:Blk (X6.setCell ⟨a1,2,none⟩ (.int .i64 gi)) a1 32 #[.int .i64 6,.int .i64 fi,.int .i64 gi,.int .i64 0,.bool false,.int .i64 0,.slice none 0 0,.bool false]:=k6_o.set_ 2 _;have q29:Below (rb+1) X6 (X6.setCell ⟨a1,2,none⟩ (.int .i64 gi)):=(Below.refl _ _).setCell (p:=⟨a1,2,none⟩) lt_o _;have p29:Below w.heap.size X6 (X6.setCell ⟨a1,2,none⟩ (.int .i64 gi)):=(Below.refl _ _).setCell (p:=⟨a1,2,none⟩) ge_o _;have k29_r:=k6_r.far (p:=⟨a1,2,none⟩) (by simp only;omega) (.int .i64 gi);have h29:=hy.over q29;have g29:=zAc g6 p29;clear hy g6 k6_r k6_o q29 p29;have HG:=qH (show zCs w rb w.heap.size a1 a2 F s S 1 (3) (X6.setCell ⟨a1,2,none⟩ (.int .i64 gi)) (r2) from .inr (.inl ⟨rfl,rfl,⟨⟨6,f,some ⟨g,0,false,0⟩,[],false⟩,6,fi,gi,false,⟨h29,k29_r,k29_o,g29,HN.out,rfl,HOO.out⟩⟩⟩));clear h29 g29 k29_r k29_o;go_wp2_with fail
       go_step3
       refine (show ∃n',zAM w rb a1 a2 F s S 1 n' _ _ from ?_);exact ⟨_,_,r2,rfl,⟨rfl,rfl,rfl,rfl,rfl,rfl,rfl⟩,HG⟩
     by_cases e7:K=7
     ·subst e7;rw [if_neg (by omega),if_neg (by omega),if_neg (by omega),if_pos (by omega)] at HU;have HSH:=qH (fun wx (hx:RX wx rb F ⟨s.T,s.bad,s.lost||zAW F.L f⟩)=>zMa hx r);go_wp2_with fail
      refine (HSH.out X5 h24).mono ?_;intro e X6 hc
      cases hsr:zFk r with
      | none =>
       obtain ⟨rfl,hy,hg⟩:=zGl hc hsr;have HN:=qH (show zAy S=none by rw [HU,hsr]);clear HU hsr f0;have k6_r:=k24_r.grownO hg lt_r;have k6_o:=k24_o.grownO hg lt_o;have g6:=zAb g24 hg;clear hc hg g24 h24 k24_r k24_o k24_x;have z30:=k6_o.frozen 2;have d30:X6.cell? ⟨a1,2,none⟩=some (.int .i64 0):=(k6_o.cell 2).trans rfl;have q30:Below (rb+1) X6 (X6.setCell ⟨a1,2,none⟩ (.int .i64 0)):=(Below.refl _ _).setCell (p:=⟨a1,2,none⟩) lt_o _;have p30:Below w.heap.size X6 (X6.setCell ⟨a1,2,none⟩ (.int .i64 0)):=(Below.refl _ _).setCell (p:=⟨a1,2,none⟩) ge_o _;have k30_r:=k6_r.far (p:=⟨a1,2,none⟩) (by simp only;omega) (.int .i64 0);have h30:=hy.over q30;have g30:=zAc g6 p30;clear hy g6 k6_r k6_o q30 p30;have HG:=qH (show zCs w rb w.heap.size a1 a2 F s S 0 (1) (X6.setCell ⟨a1,2,none⟩ (.int .i64 0)) (r) from .inl ⟨rfl,rfl,⟨⟨_,h30⟩,k30_r,g30,HN.out⟩⟩);clear h30 g30 k30_r;go_wp2_with fail
       go_step3
       refine (show ∃n',zAM w rb a1 a2 F s S 0 n' _ _ from ?_);exact ⟨_,_,r,rfl,⟨rfl,rfl,rfl,rfl,rfl,rfl,rfl⟩,HG⟩
      | some p =>
       obtain ⟨g,r2⟩:=p;obtain ⟨rfl,hy,hg⟩:=zGk hc hsr;obtain ⟨gi,hgi⟩:∃x,(zAG F.L g:Int)=x:=⟨_,rfl⟩
       rw [hgi];have HN:=qH (show zAy S=zDC ⟨7,f,some ⟨g,0,false,0⟩,[],false⟩ (zCx r2) by rw [HU,hsr]);have HLL:=qH (show (s.lost||zAW F.L f||zAW F.L g)=(s.lost||zAx F.L ⟨7,f,some ⟨g,0,false,0⟩,[],false⟩) by simp [zAx,zAO,Bool.or_assoc]);have HOO:=qH (show ∀b,oOf F.L ⟨7,f,some ⟨g,0,false,0⟩,[],b⟩=⟨7,fi,⟨gi,0,false,0⟩,[],b⟩ from fun b=>by rw [←HFI.out,←hgi];rfl)
       try simp only at hy
       rw [HLL.out] at hy;clear HU hsr hgi f0;have k6_r:=k24_r.grownO hg lt_r;have k6_o:=k24_o.grownO hg lt_o;have g6:=zAb g24 hg;clear hc hg g24 h24 k24_r k24_o k24_x;have z31:=k6_o.frozen 2;have d31:X6.cell? ⟨a1,2,none⟩=some (.int .i64 0):=(k6_o.cell 2).trans rfl;have k31_o:Blk (X6.setCell ⟨a1,2,none⟩ (.int .i64 gi)) a1 32 #[.int .i64 7,.int .i64 fi,.int .i64 gi,.int .i64 0,.bool false,.int .i64 0,.slice none 0 0,.bool false]:=k6_o.set_ 2 _;have q31:Below (rb+1) X6 (X6.setCell ⟨a1,2,none⟩ (.int .i64 gi)):=(Below.refl _ _).setCell (p:=⟨a1,2,none⟩) lt_o _;have p31:Below w.heap.size X6 (X6.setCell ⟨a1,2,none⟩ (.int .i64 gi)):=(Below.refl _ _).setCell (p:=⟨a1,2,none⟩) ge_o _;have k31_r:=k6_r.far (p:=⟨a1,2,none⟩) (by simp only;omega) (.int .i64 gi);have h31:=hy.over q31;have g31:=zAc g6 p31;clear hy g6 k6_r k6_o q31 p31;have HG:=qH (show zCs w rb w.heap.size a1 a2 F s S 1 (3) (X6.setCell ⟨a1,2,none⟩ (.int .i64 gi)) (r2) from .inr (.inl ⟨rfl,rfl,⟨⟨7,f,some ⟨g,0,false,0⟩,[],false⟩,7,fi,gi,false,⟨h31,k31_r,k31_o,g31,HN.out,rfl,HOO.out⟩⟩⟩));clear h31 g31 k31_r k31_o;go_wp2_with fail
       go_step3
       refine (show ∃n',zAM w rb a1 a2 F s S 1 n' _ _ from ?_);exact ⟨_,_,r2,rfl,⟨rfl,rfl,rfl,rfl,rfl,rfl,rfl⟩,HG⟩
     have m3:(K==3)=false:=by simpa using e3
     have m4:(K==4)=false:=by simpa using e4
     have m5:(K==5)=false:=by simpa using e5
     have m6:(K==6)=false:=by simpa using e6
     have m7:(K==7)=false:=by simpa using e7
     have HN:=qH (show zAy S=zQX ⟨K,f,none,[],false⟩ r by rw [HU,if_neg e4,if_neg e3,if_neg e5,if_neg (by omega)]);have HLL:=qH (show (s.lost||zAW F.L f)=(s.lost||zAx F.L ⟨K,f,none,[],false⟩) by simp [zAx,zAO]);have HOO:=qH (show oOf F.L ⟨K,f,none,[],false⟩=⟨K,fi,⟨0,0,false,0⟩,[],false⟩ by rw [←HFI.out];rfl);rw [HLL.out] at h24;clear HU e3 e4 e5 e6 e7;have HG:=qH (show zCs w rb w.heap.size a1 a2 F s S 3 (2) X5 (r) from .inr (.inr (.inr ⟨rfl,rfl,⟨⟨K,f,none,[],false⟩,K,fi,0,false,false,[],none,0,0,⟨h24,k24_r,k24_o,g24,Row.none_ _ _ _,rfl,HOO.out,HN.out⟩⟩⟩)));clear h24 g24 k24_r k24_o k24_x;go_wp2_with fail
     go_step3
     refine (show ∃n',zAM w rb a1 a2 F s S 3 n' _ _ from ?_);exact ⟨_,_,r,rfl,⟨rfl,rfl,rfl,rfl,rfl,rfl,rfl⟩,HG⟩
 ·rintro l q a wv ⟨X9,r,hX,hF,HJ⟩;subst hX;rcases HJ.out with ⟨rfl,rfl,h0⟩ | ⟨rfl,rfl,n,k,f,ff,far,h1⟩ | ⟨rfl,rfl,f,fi,P,Ps,B,m,d,N,x0,x1,x3,x2,h2⟩ | ⟨rfl,rfl,n,k,f,ff,far,over,path,B,m,d,h3⟩
  ·exact zNa rb F s S w hlt a1 a2 HA1.out HA2.out r 1 rfl a X9 hF h0
  ·exact zNc rb F s S w hlt a1 a2 HA1.out HA2.out r 3 rfl a X9 hF n k f ff far h1
  ·exact zNd rb F s S w hlt a1 a2 HA1.out HA2.out r _ rfl a X9 hF hS f fi P Ps B m d N x0 x1 x3 x2 h2
  ·exact zNb rb F s S w hlt a1 a2 HA1.out HA2.out r 2 rfl a X9 hF n k f ff far over path B m d h3
noncomputable def rlR (L:List Fg) (re lo:Int) (S:List UInt8):List Og×Nat×Int:=if zAA L re lo S=0 then zBG L (zAH 10 S) [] else ([],0,zAA L re lo S)
def zVY:Value→Nat
 | .string s=>s.size
 | _=>0
theorem zNe (L:List Fg) (S:List UInt8):zEl L S=0∨zEl L S=6∨zEl L S=8:=by
 unfold zEl;split
 ·omega
 ·split<;>omega
theorem zHa {w:World} {base:Nat} {B:Option Addr} {m d:Nat} {P:List Sp} (h:Row w base 5 B m d (P.flatMap zCj)) (hm:m≤1000000) (hok:∀x∈P,SgOk x.s):Stps w B m P:=⟨h.els (fun _=>rfl) (by omega) (by omega),hok⟩
theorem zRa (L:List Fg) (S:List UInt8):(zGX L S).path.length≤2*S.length+2:=by
 by_cases h:∃n,okN n∧S=zDi n
 ·obtain ⟨n,h1,rfl⟩:=h;rw [(zGj L h1).2]
  cases zAx L n with
  | true=>simp [o0]
  | false =>
   show (n.path.map (pOf L)).length≤_;rw [List.length_map];have h2:=zFv (zDi n);rw [zDK] at h2;have h3:n.path.length≤(zID n).length:=by
    by_cases hp:n.path=[]
    ·simp [hp]
    ·have hk:n.kind=3:=by
      rcases h1.2 with ⟨_,_,h,_⟩ | ⟨_,_,h⟩ | ⟨h,_⟩ | ⟨_,_,h⟩ | ⟨_,_,h⟩
      ·exact absurd h hp
      ·exact absurd h hp
      ·exact h
      ·exact absurd h hp
      ·exact absurd h hp
     have:=zLU n.path;unfold zID tlT;rw [if_neg (by omega),if_pos hk];simp only [List.length_cons,List.length_append];omega
   omega
 ·rw [(zLZ L fun n h1 h2=>h ⟨n,h1,h2⟩).2];simp [o0]
set_option maxHeartbeats 12800000 in
set_option maxRecDepth 100000 in
theorem zHb (F:Fm) (S:List UInt8) (w:World) (hA:Fgs w F.A F.n F.L) (hc:F.n≤F.c) (ht:Tabs w) :
  Calls Tryz.prog 23 #[frV F.A F.n F.c F.re F.lo,.string (bA S)] w (zOS w (rlR F.L F.re F.lo S).1 (rlR F.L F.re F.lo S).2.1 (rlR F.L F.re F.lo S).2.2):=by
 have hFL:F.L.length≤17592186043904:=by rw [hA.len];exact hA.le
 have hb0:Below w.heap.size w (w.alloc (.cells #[.slice F.A F.n F.c,.int .i64 F.re,.int .i64 F.lo] 24)):=(Below.refl _ _).alloc (Nat.le_refl _) _;have hk0:Blk (w.alloc (.cells #[.slice F.A F.n F.c,.int .i64 F.re,.int .i64 F.lo] 24)) w.heap.size 24 #[.slice F.A F.n F.c,.int .i64 F.re,.int .i64 F.lo]:=Blk.new _ _ _;have HA:=qH hA;have HT:=qH ht;obtain ⟨E,hE⟩:∃E,zAA F.L F.re F.lo S=E:=⟨_,rfl⟩
 have hcs:=zEm F.L F.re F.lo S;rw [hE] at hcs;have HBG:=qH (fun wx (hx:Fgs wx F.A F.n F.L)=>zDb F.A F.n F.c F.L F.re F.lo S wx hx hc);simp only [hE] at HBG;have HE:=qH hE;have HR:Hid (rlR F.L F.re F.lo S=if E=0 then zBG F.L (zAH 10 S) [] else ([],0,E)):=qH (by unfold rlR;rw [hE]);obtain ⟨⟨TO,TN,TE⟩,hTR⟩:∃x,rlR F.L F.re F.lo S=x:=⟨_,rfl⟩
 rw [hTR] at HR ⊢;simp only;have GIV:=qH (fun (O:List Og) (n:Nat) (er:Int) (hq:(O,n,er)=(TO,TN,TE)) (e:Ending) (wx:World) (h:zOS w O n er e wx)=>(show zOS w TO TN TE e wx by injection hq with h1 h2;injection h2 with h2 h3;subst h1;subst h2;subst h3;exact h));have FL:=qH hFL;clear hA ht hE hTR hFL;go_enter Tryz.func23,Tryz.ntmps23;go_wp2_with fail
 generalize w.alloc (.cells #[.slice F.A F.n F.c,.int .i64 F.re,.int .i64 F.lo] 24)=Y at hb0 hk0 ⊢;refine (HBG.out Y (HA.out.below hb0)).mono ?_;rintro e Y2 ⟨rfl,hb2⟩;have hf2:=hk0.below hb2 hk0.lt;have hb3:=zAa hb0 hb2 hb0.size;clear hk0 hb0 hb2 HBG;by_cases h0:E=0
 ·subst h0;have hS:=(zBO HE.out).1;have HR2:=qH (HR.out.trans (if_pos rfl));clear hcs HR;go_wp2_with fail
  go_loopw [1,8,9] (fun v1 v8 v9 wv=>∃(X:World) (R:List UInt8) (A':Option Addr) (i c':Nat) (Es:List Oe),X=wv∧v1=.string (bA R)∧v8=.slice A' i c'∧v9=.int .i64 i∧R.length+i≤8000∧OpsOwn X Y2.heap.size A' i c' Es∧Below Y2.heap.size Y2 X∧Hid (Es.length=i∧(TO,TN,TE)=zBG F.L (zAH 10 R) (List.map (fun x:Oe=>x.o) Es))) (fun v1 _ _ _=>zVY v1)
  case atStart=>exact ⟨_,S,none,0,0,[],rfl,rfl,rfl,rfl,by omega,OpsOwn.none_ _ _,Below.refl _ _,qH ⟨rfl,HR2.out⟩⟩
  case round =>
   obtain ⟨X,R,A',i,c',Es,hX,rfl,rfl,rfl,hle,hO,hb,HI⟩:=hrel;subst hX;have hbw:=zAa hb3 hb hb3.size;have hz:w.heap.size≤Y2.heap.size:=hb3.size;by_cases hR:R=[]
   ·have n0:((bA R).toList==[])=true:=by rw [zAs,hR];rfl
    have HF:=qH (GIV.out (List.map (fun x:Oe=>x.o) Es) i 0 (by rw [HI.out.2,hR,zOR,List.length_map,HI.out.1]) _ X ⟨A',i,c',Es,rfl,rfl,by omega,hO.mono hz,hbw⟩);clear hR hO hb hbw HI hf2;go_wp2_with fail
    go_ret3
    exact HF.out
   have n0:((bA R).toList==[])=false:=by rw [zAs];simpa using hR
   have HCU:=zQW R (by omega) X (HT.out.below hbw);by_cases h10:(10:UInt8)∈R
   ·obtain ⟨h,r,hRe,hh⟩:=zIR h10;rw [show Lib.cut R [10]=(h,r,true) from by rw [hRe];exact zNX hh] at HCU;have HCU:=qH HCU;have hlr:r.length+(i+1)≤8000:=by rw [hRe] at hle;simp at hle;omega
    have hlh:h.length≤20000:=by rw [hRe] at hle;simp at hle;omega
    have hms:zVY (.string (bA r)) < zVY (.string (bA R)):=by simp only [zVY,zAC,hRe];simp;omega
    have HL:=qH (show (TO,TN,TE)=if zEl F.L h=0 then zBG F.L (zAH 10 r) (List.map (fun x:Oe=>x.o) Es++[zGX F.L h]) else ([],i,zEl F.L h) by rw [HI.out.2,hRe,zMZ F.L hh,List.length_map,HI.out.1]);have HLE:=qH HI.out.1;have HMS:=qH hms;clear hR h10 hRe hh HI hms;go_wp2_with fail
    refine HCU.out.mono ?_;rintro e X2 ⟨rfl,hb4⟩;have hb5:=zAa hbw hb4 hbw.size;have hb5y:=zAa hb hb4 hb.size;have hO2:=hO.below hb4;have hfx:=(hf2.below hb hf2.lt).below hb4 (hf2.below hb hf2.lt).lt;have HPA:=zGY F h X2 (HA.out.below hb5) hlh (HT.out.below hb5);have hPO:=zTx FL.out h;have hcE:=zNe F.L h;obtain ⟨ov,eov⟩:∃x,zGX F.L h=x:=⟨_,rfl⟩
    obtain ⟨er,eer⟩:∃x,zEl F.L h=x:=⟨_,rfl⟩
    rw [eov,eer] at HPA HL;rw [eov] at hPO;rw [eer] at hcE;have HPA:=qH HPA;have HPO:=qH hPO;have HPN:Hid (ov.path.length≤1000000):=qH (by rw [←eov];have:=zRa F.L h;omega);obtain ⟨kk,ff,⟨gf,gl,gfar,gpc⟩,path,vov⟩:=ov;obtain ⟨w0,w1,w2⟩:=cQ3 hfx;clear hO hb hbw hb4 HCU eov eer hPO hfx hlh;go_wp2_with fail
    refine HPA.out.mono ?_;rintro e X3 ⟨B2,m2,d2,rfl,hrow,hm2,hb6⟩;have HM2:=qH hm2;have hb7:=zAa hb5 hb6 hb5.size;have hb7y:=zAa hb5y hb6 hb5y.size;have hO3:=hO2.below hb6;have hbl:=(Below.refl X3.heap.size X3).alloc (Nat.le_refl _) (.cells #[.int .i64 kk,.int .i64 ff,.int .i64 gf,.int .i64 gl,.bool gfar,.int .i64 gpc,.slice B2 m2 d2,.bool vov] 32);have hop:Blk (X3.alloc (.cells #[.int .i64 kk,.int .i64 ff,.int .i64 gf,.int .i64 gl,.bool gfar,.int .i64 gpc,.slice B2 m2 d2,.bool vov] 32)) X3.heap.size 32 #[.int .i64 kk,.int .i64 ff,.int .i64 gf,.int .i64 gl,.bool gfar,.int .i64 gpc,.slice B2 m2 d2,.bool vov]:=Blk.new _ _ _;have hO4:=hO3.below hbl;have hrw:=hrow.below hbl;have hb8:=zAa hb7 hbl hb7.size;have hb8y:=zAa hb7y hbl hb7y.size
    have HPB:=qH (fun k (hk:blk B2=some k)=>(show k < (X3.alloc (.cells #[.int .i64 kk,.int .i64 ff,.int .i64 gf,.int .i64 gl,.bool gfar,.int .i64 gpc,.slice B2 m2 d2,.bool vov] 32)).heap.size∧blk A'≠some k by
     have h1:=hrow.lt k hk
     refine ⟨by simp;omega,fun e2=>?_⟩
     have h2:=(hO2.row.lt k e2).2
     omega))
    have HSZ:=qH (show Y2.heap.size≤(X3.alloc (.cells #[.int .i64 kk,.int .i64 ff,.int .i64 gf,.int .i64 gl,.bool gfar,.int .i64 gpc,.slice B2 m2 d2,.bool vov] 32)).heap.size from hb8y.size);clear hm2 hO2 hb5 hb5y hb6 hb7 hb7y hO3 hbl hrow w0 w1 w2 HPA;go_upto_region 12 with fail
    generalize X3.alloc (.cells #[.int .i64 kk,.int .i64 ff,.int .i64 gf,.int .i64 gl,.bool gfar,.int .i64 gpc,.slice B2 m2 d2,.bool vov] 32)=X4 at hop hO4 hrw hb8 hb8y HPB HSZ ⊢;generalize X3.heap.size=a13 at hop ⊢;by_cases her:er=0
    ·subst her;have HL2:=qH (HL.out.trans (if_pos rfl));clear hcE HL n0;obtain ⟨f0,f1,f2,f3,f4,f5,f6,f7⟩:=cQ8 hop;go_upto_region 15 with (at_builtin;refine zEP ?_)
     refine qH ?_;refine zTy (y:=⟨⟨kk,ff,⟨gf,gl,gfar,gpc⟩,path,vov⟩,B2,m2,d2⟩) (N:=i+1) (base:=Y2.heap.size) (A:=A') (n:=i) (c:=c') (Es:=Es) rfl (.tmp 44) (.tmp 46) ?_ ?_ ?_ ?_ ?_ ?_ ?_ ?_
     ·rfl
     ·exact hO4.row
     ·rfl
     ·rfl
     ·rfl
     ·omega
     ·exact HSZ.out
     intro A2 c2 w9 hR9 hg9 hl9;have hb9:=hO4.row.belowOf hg9 HSZ.out;have hm2k:m2≤1000000:=by rw [HM2.out];exact HPN.out
     have hO9:=hO4.push ⟨⟨kk,ff,⟨gf,gl,gfar,gpc⟩,path,vov⟩,B2,m2,d2⟩ ⟨HPO.out.1,zHa hrw hm2k HPO.out.2,hrw.cap,HPB.out⟩ hR9 hg9 hl9;have hbz:=hb8y.trans hb9;have HF:=qH (show (Es++[(⟨⟨kk,ff,⟨gf,gl,gfar,gpc⟩,path,vov⟩,B2,m2,d2⟩:Oe)]).length=i+1∧(TO,TN,TE)=zBG F.L (zAH 10 r) (List.map (fun x:Oe=>x.o) (Es++[(⟨⟨kk,ff,⟨gf,gl,gfar,gpc⟩,path,vov⟩,B2,m2,d2⟩:Oe)])) from ⟨by simp [HLE.out],by rw [HL2.out,List.map_append];rfl⟩);clear hop hO4 hrw hb8 hb8y hg9 hl9 hR9 hb9 f0 f1 f2 f3 f4 f5 f6 f7 HPB HSZ;go_wp2_with fail
     go_roundw
     case rel=>exact ⟨_,r,A2,i+1,c2,_,rfl,rfl,rfl,by go_num,hlr,hO9,hbz,HF⟩
     case measure=>exact HMS.out
    ·have k0:(er != 0)=true:=by simpa using her
     have HF:=qH (GIV.out [] i er (by rw [HL.out,if_neg her]) _ X4 ⟨none,0,0,[],rfl,rfl,by omega,OpsOwn.none_ _ _,hb8⟩);clear hop hO4 hrw hb8 hb8y hcE her;go_wp2_with fail
     go_ret3
     exact HF.out
   ·rw [zNY h10] at HCU;have HCU:=qH HCU;have HL:=qH (show ([],i,(6:Int))=(TO,TN,TE) by rw [HI.out.2,zMY F.L h10 hR,List.length_map,HI.out.1]);clear hR h10 HI hO hb hf2;go_wp2_with fail
    refine HCU.out.mono ?_;rintro e X2 ⟨rfl,hb4⟩;have HF:=qH (GIV.out [] i 6 HL.out _ X2 ⟨none,0,0,[],rfl,rfl,by omega,OpsOwn.none_ _ _,zAa hbw hb4 hbw.size⟩);clear hb4 hbw;go_wp2_with fail
    go_ret3
    exact HF.out
 ·have HF:=qH (GIV.out [] 0 E (by rw [HR.out,if_neg h0]) _ Y2 ⟨none,0,0,[],rfl,rfl,by omega,OpsOwn.none_ _ _,hb3⟩);have k0:(E != 0)=true:=by simpa using h0
  clear hcs h0 hb3 hf2;go_wp2_with fail
  go_ret3
  exact HF.out
end Go.Proofs.YtlmdfmnbcndhoaaGreatDoor
