/-
  Contract: the program's reader of an item, part c. Conditions: the reader lies in a block, its words and its frame read; the item is not too long.
-/
import Derived.Test.YtlmdfmnbcndhoaaGreatDoorWr19
namespace Go.Proofs.YtlmdfmnbcndhoaaGreatDoor
open Go.RowKit
set_option maxHeartbeats 12800000 in
set_option maxRecDepth 100000 in
theorem reader_scan (rb:Nat) (F:Fm) (s:RS) (S:List UInt8) (w:World) (h:RX w rb F s) (hS:S.length≤100000) :
  Calls Tryz.prog 120 #[.pointer (some ⟨rb,0,none⟩),.string (bA S)] w (zBe w rb F s S):=by
 have hlt:=h.lt
 have FS:=Lib.hid (fun (n:Nop) (o:Og) (hn:zAB S=some n) (ho:oOf F.L n=o) (wx:World) (B:Option Addr) (m d:Nat) (hr:Row wx w.heap.size 5 B m d (o.path.flatMap encP)) (hm:m=o.path.length) (hx:RX wx rb F ⟨s.T,s.bad,s.lost||zAA F.L n⟩) (hg:w.grownBy wx (some rb)) =>
  (show zBe w rb F s S (.returned (opV o B m d)) wx from .inl ⟨n,hn,B,m,d,by rw [ho],by rw [ho];exact hr,by rw [ho];exact hm,hx,hg⟩))
 have FN:=Lib.hid (fun (hn:zAB S=none) (wx:World) (hx:∃l,RX wx rb F ⟨s.T,true,l⟩) (hg:w.grownBy wx (some rb))=>(show zBe w rb F s S (.returned (opV zop none 0 0)) wx from .inr ⟨hn,rfl,hx,hg⟩))
 obtain ⟨a1,ha1⟩:∃a,a=w.heap.size+1:=⟨_,rfl⟩
 obtain ⟨a2,ha2⟩:∃a,a=w.heap.size+2:=⟨_,rfl⟩
 have HA1:=Lib.hid ha1
 have HA2:=Lib.hid ha2
 have lt_r:rb < w.heap.size:=hlt
 have lt_o:rb < a1:=by omega
 have lt_x:rb < a2:=by omega
 have ge_r:w.heap.size≤w.heap.size:=Nat.le_refl _
 have ge_o:w.heap.size≤a1:=by omega
 have ge_x:w.heap.size≤a2:=by omega
 have lt_r_o:w.heap.size < a1:=by omega
 have lt_r_x:w.heap.size < a2:=by omega
 have lt_o_x:a1 < a2:=by omega
 have hb0:Below w.heap.size w (((w.alloc (.cells #[.int .i64 0,.int .i64 0,.int .i64 0,.int .i64 0,.bool false,.int .i64 0,.slice none 0 0,.bool false] 32)).alloc (.cells #[.int .i64 0,.int .i64 0,.int .i64 0,.int .i64 0,.bool false,.int .i64 0,.slice none 0 0,.bool false] 32)).alloc (.cells #[.int .i64 0,.int .i64 0,.bool false,.int .i64 0] 29)):=(((Below.refl _ _).alloc (Nat.le_refl _) _).alloc (by simp) _).alloc (by simp;omega) _
 have kr:Blk (((w.alloc (.cells #[.int .i64 0,.int .i64 0,.int .i64 0,.int .i64 0,.bool false,.int .i64 0,.slice none 0 0,.bool false] 32)).alloc (.cells #[.int .i64 0,.int .i64 0,.int .i64 0,.int .i64 0,.bool false,.int .i64 0,.slice none 0 0,.bool false] 32)).alloc (.cells #[.int .i64 0,.int .i64 0,.bool false,.int .i64 0] 29)) w.heap.size 32 #[.int .i64 0,.int .i64 0,.int .i64 0,.int .i64 0,.bool false,.int .i64 0,.slice none 0 0,.bool false]:=((Blk.new w _ _).alloc _).alloc _
 have ko:Blk (((w.alloc (.cells #[.int .i64 0,.int .i64 0,.int .i64 0,.int .i64 0,.bool false,.int .i64 0,.slice none 0 0,.bool false] 32)).alloc (.cells #[.int .i64 0,.int .i64 0,.int .i64 0,.int .i64 0,.bool false,.int .i64 0,.slice none 0 0,.bool false] 32)).alloc (.cells #[.int .i64 0,.int .i64 0,.bool false,.int .i64 0] 29)) (w.heap.size+1) 32 #[.int .i64 0,.int .i64 0,.int .i64 0,.int .i64 0,.bool false,.int .i64 0,.slice none 0 0,.bool false]:=by have:=(Blk.new (w.alloc (.cells #[.int .i64 0,.int .i64 0,.int .i64 0,.int .i64 0,.bool false,.int .i64 0,.slice none 0 0,.bool false] 32)) 32 #[.int .i64 0,.int .i64 0,.int .i64 0,.int .i64 0,.bool false,.int .i64 0,.slice none 0 0,.bool false]).alloc (.cells #[.int .i64 0,.int .i64 0,.bool false,.int .i64 0] 29);rwa [World.size_alloc] at this
 have kx:Blk (((w.alloc (.cells #[.int .i64 0,.int .i64 0,.int .i64 0,.int .i64 0,.bool false,.int .i64 0,.slice none 0 0,.bool false] 32)).alloc (.cells #[.int .i64 0,.int .i64 0,.int .i64 0,.int .i64 0,.bool false,.int .i64 0,.slice none 0 0,.bool false] 32)).alloc (.cells #[.int .i64 0,.int .i64 0,.bool false,.int .i64 0] 29)) (w.heap.size+2) 29 #[.int .i64 0,.int .i64 0,.bool false,.int .i64 0]:=by have:=Blk.new ((w.alloc (.cells #[.int .i64 0,.int .i64 0,.int .i64 0,.int .i64 0,.bool false,.int .i64 0,.slice none 0 0,.bool false] 32)).alloc (.cells #[.int .i64 0,.int .i64 0,.int .i64 0,.int .i64 0,.bool false,.int .i64 0,.slice none 0 0,.bool false] 32)) 29 #[.int .i64 0,.int .i64 0,.bool false,.int .i64 0];rwa [World.size_alloc,World.size_alloc] at this
 have h1:=h.below hb0
 have g1:w.grownBy (((w.alloc (.cells #[.int .i64 0,.int .i64 0,.int .i64 0,.int .i64 0,.bool false,.int .i64 0,.slice none 0 0,.bool false] 32)).alloc (.cells #[.int .i64 0,.int .i64 0,.int .i64 0,.int .i64 0,.bool false,.int .i64 0,.slice none 0 0,.bool false] 32)).alloc (.cells #[.int .i64 0,.int .i64 0,.bool false,.int .i64 0] 29)) (some rb):=zAv hb0
 have HCU:=Lib.hid (fun wx (hx:RX wx rb F s)=>rx_cut hx S)
 have HSU:=Lib.hid (scan_unfold S)
 clear h hb0 FS FN
 go_enter Tryz.func120,Tryz.ntmps120
 go_wp2_with fail
 refine zDM (fun l q a wv=>zAZ w rb a1 a2 F s S l q a wv) ?_ ?_
 ·skip
  go_wp2_with fail
  generalize (((w.alloc (.cells #[.int .i64 0,.int .i64 0,.int .i64 0,.int .i64 0,.bool false,.int .i64 0,.slice none 0 0,.bool false] 32)).alloc (.cells #[.int .i64 0,.int .i64 0,.int .i64 0,.int .i64 0,.bool false,.int .i64 0,.slice none 0 0,.bool false] 32)).alloc (.cells #[.int .i64 0,.int .i64 0,.bool false,.int .i64 0] 29))=X at kr ko kx h1 g1 ⊢
  rw [←ha1] at ko ⊢
  rw [←ha2] at kx
  rw [show a1+1=a2 from by omega]
  clear ha1 ha2
  refine (HCU.out X h1).mono ?_
  intro e X2 hc
  cases hcf:cutF S with
  | none =>
   obtain ⟨rfl,hx,hg⟩:=zGk hc hcf
   have HN:=Lib.hid (show zAB S=none by rw [HSU.out,hcf])
   clear hcf
   have k2_r:=kr.grownO hg lt_r
   have k2_o:=ko.grownO hg lt_o
   have k2_x:=kx.grownO hg lt_x
   have g2:=zAb g1 hg
   clear hc hg g1 kr ko kx h1
   have z21:=k2_o.frozen 1
   have d21:X2.cell? ⟨a1,1,none⟩=some (.int .i64 0):=(k2_o.cell 1).trans rfl
   have k21_o:Blk (X2.setCell ⟨a1,1,none⟩ (.int .i64 0)) a1 32 #[.int .i64 0,.int .i64 0,.int .i64 0,.int .i64 0,.bool false,.int .i64 0,.slice none 0 0,.bool false]:=k2_o.set_ 1 _
   have q21:Below (rb+1) X2 (X2.setCell ⟨a1,1,none⟩ (.int .i64 0)):=(Below.refl _ _).setCell (p:=⟨a1,1,none⟩) lt_o _
   have p21:Below w.heap.size X2 (X2.setCell ⟨a1,1,none⟩ (.int .i64 0)):=(Below.refl _ _).setCell (p:=⟨a1,1,none⟩) ge_o _
   have k21_r:=k2_r.far (p:=⟨a1,1,none⟩) (by simp only;omega) (.int .i64 0)
   have k21_x:=k2_x.far (p:=⟨a1,1,none⟩) (by simp only;omega) (.int .i64 0)
   have h21:=hx.over q21
   have g21:=zAd g2 p21
   clear hx g2 k2_r k2_o k2_x q21 p21
   have HG:=Lib.hid (show zCw w rb w.heap.size a1 a2 F s S 0 (1) (X2.setCell ⟨a1,1,none⟩ (.int .i64 0)) (S) from .inl ⟨rfl,rfl,⟨⟨_,h21⟩,k21_r,g21,HN.out⟩⟩)
   clear h21 g21 k21_r k21_o k21_x
   go_wp2_with fail
   go_step3
   refine (show ∃n',zAZ w rb a1 a2 F s S 0 n' _ _ from ?_)
   exact ⟨_,_,S,rfl,⟨rfl,rfl,rfl,rfl,rfl,rfl,rfl⟩,HG⟩
  | some p =>
   obtain ⟨f,q0⟩:=p
   obtain ⟨rfl,hx,hg⟩:=zGj hc hcf
   have hqi:=(cut_is hcf).2.2
   obtain ⟨fi,hfi⟩:∃x,(idxF F.L f:Int)=x:=⟨_,rfl⟩
   rw [hfi]
   have HFI:=Lib.hid hfi
   have n0:=zAG q0 []
   clear hfi
   have k2_r:=kr.grownO hg lt_r
   have k2_o:=ko.grownO hg lt_o
   have k2_x:=kx.grownO hg lt_x
   have g2:=zAb g1 hg
   clear hc hg g1 kr ko kx h1
   have z22:=k2_o.frozen 1
   have d22:X2.cell? ⟨a1,1,none⟩=some (.int .i64 0):=(k2_o.cell 1).trans rfl
   have k22_o:Blk (X2.setCell ⟨a1,1,none⟩ (.int .i64 fi)) a1 32 #[.int .i64 0,.int .i64 fi,.int .i64 0,.int .i64 0,.bool false,.int .i64 0,.slice none 0 0,.bool false]:=k2_o.set_ 1 _
   have q22:Below (rb+1) X2 (X2.setCell ⟨a1,1,none⟩ (.int .i64 fi)):=(Below.refl _ _).setCell (p:=⟨a1,1,none⟩) lt_o _
   have p22:Below w.heap.size X2 (X2.setCell ⟨a1,1,none⟩ (.int .i64 fi)):=(Below.refl _ _).setCell (p:=⟨a1,1,none⟩) ge_o _
   have k22_r:=k2_r.far (p:=⟨a1,1,none⟩) (by simp only;omega) (.int .i64 fi)
   have k22_x:=k2_x.far (p:=⟨a1,1,none⟩) (by simp only;omega) (.int .i64 fi)
   have h22:=hx.over q22
   have g22:=zAd g2 p22
   clear hx g2 k2_r k2_o k2_x q22 p22
   cases q0 with
   | nil =>
    rw [show (([]:List UInt8)==[])=true from rfl] at n0
    have HN:=Lib.hid (show zAB S=none by rw [HSU.out,hcf])
    clear hcf hqi
    have HG:=Lib.hid (show zCw w rb w.heap.size a1 a2 F s S 0 (1) (X2.setCell ⟨a1,1,none⟩ (.int .i64 fi)) ([]) from .inl ⟨rfl,rfl,⟨⟨_,h22⟩,k22_r,g22,HN.out⟩⟩)
    clear h22 g22 k22_r k22_o k22_x
    go_wp2_with fail
    go_step3
    refine (show ∃n',zAZ w rb a1 a2 F s S 0 n' _ _ from ?_)
    exact ⟨_,_,[],rfl,⟨rfl,rfl,rfl,rfl,rfl,rfl,rfl⟩,HG⟩
   | cons b r =>
    rw [show (b :: r==([]:List UInt8))=false from rfl] at n0
    have HU:=HSU.out
    rw [hcf] at HU
    simp only at HU
    have HRL:=Lib.hid (show r.length+1≤S.length by rw [hqi];simp only [List.length_append,List.length_cons];omega)
    have t1:=zDE b r
    have t2:=zGe b r
    have HIB:=Lib.hid (fun wx=>indexByte_any b wx)
    clear hcf hqi
    go_upto_region 7 with fail
    clear z22 d22
    generalize X2.setCell ⟨a1,1,none⟩ (.int .i64 fi)=X3 at h22 g22 k22_r k22_o k22_x ⊢
    by_cases hk0:zAE b=0
    ·have HN:=Lib.hid (show zAB S=none by rw [HU,if_pos hk0])
     obtain ⟨sg,hsg⟩:∃x:Int,(if b=32 then 0 else if zAE b=0 then -1 else zAE b)=x:=⟨_,rfl⟩
     have i0:sg < 1:=by rw [←hsg];split<;>(try rw [if_pos hk0])<;>omega
     rw [hsg] at HIB
     clear HU hk0 hsg
     go_wp2_with fail
     refine (HIB.out _).mono ?_
     rintro e X4 ⟨rfl,rfl⟩
     have HG:=Lib.hid (show zCw w rb w.heap.size a1 a2 F s S 0 (1) X4 (r) from .inl ⟨rfl,rfl,⟨⟨_,h22⟩,k22_r,g22,HN.out⟩⟩)
     clear h22 g22 k22_r k22_o k22_x
     go_wp2_with fail
     go_step3
     refine (show ∃n',zAZ w rb a1 a2 F s S 0 n' _ _ from ?_)
     exact ⟨_,_,r,rfl,⟨rfl,rfl,rfl,rfl,rfl,rfl,rfl⟩,HG⟩
    ·obtain ⟨K,hK⟩:∃K,zAE b=K:=⟨_,rfl⟩
     have hsi:=zDN hk0
     have hb32:¬b=32:=fun e=>by subst e;exact hk0 (by decide)
     simp only [if_neg hb32,hK] at HIB
     rw [if_neg hk0,hK] at HU
     rw [hK] at hsi
     have i0:¬K < 1:=by omega
     have hK18:1≤K∧K≤8:=⟨hsi.1,hsi.2.1⟩
     clear hk0 hb32 hK hsi
     go_wp2_with fail
     refine (HIB.out _).mono ?_
     rintro e X4 ⟨rfl,rfl⟩
     have z24:=k22_o.frozen 0
     have d24:X4.cell? ⟨a1,0,none⟩=some (.int .i64 0):=(k22_o.cell 0).trans rfl
     have k24_o:Blk (X4.setCell ⟨a1,0,none⟩ (.int .i64 K)) a1 32 #[.int .i64 K,.int .i64 fi,.int .i64 0,.int .i64 0,.bool false,.int .i64 0,.slice none 0 0,.bool false]:=k22_o.set_ 0 _
     have q24:Below (rb+1) X4 (X4.setCell ⟨a1,0,none⟩ (.int .i64 K)):=(Below.refl _ _).setCell (p:=⟨a1,0,none⟩) lt_o _
     have p24:Below w.heap.size X4 (X4.setCell ⟨a1,0,none⟩ (.int .i64 K)):=(Below.refl _ _).setCell (p:=⟨a1,0,none⟩) ge_o _
     have k24_r:=k22_r.far (p:=⟨a1,0,none⟩) (by simp only;omega) (.int .i64 K)
     have k24_x:=k22_x.far (p:=⟨a1,0,none⟩) (by simp only;omega) (.int .i64 K)
     have h24:=h22.over q24
     have g24:=zAd g22 p24
     clear h22 g22 k22_r k22_o k22_x q24 p24
     go_upto_region 11 with fail
     clear z24 d24
     generalize X4.setCell ⟨a1,0,none⟩ (.int .i64 K)=X5 at h24 g24 k24_r k24_o k24_x ⊢
     have f0:X5.cell? ⟨a1,0,none⟩=some (.int .i64 K):=(k24_o.cell 0).trans rfl
     by_cases e4:K=4
     ·subst e4
      have HN:=Lib.hid (show zAB S=zDP ⟨4,f,none,[],false⟩ (zCA r) by rw [HU,if_pos rfl])
      have HLL:=Lib.hid (show (s.lost||gone F.L f)=(s.lost||zAA F.L ⟨4,f,none,[],false⟩) by simp [zAA,zBy])
      have HOO:=Lib.hid (show ∀b,oOf F.L ⟨4,f,none,[],b⟩=⟨4,fi,⟨0,0,false,0⟩,[],b⟩ from fun b=>by rw [←HFI.out];rfl)
      rw [HLL.out] at h24
      clear HU
      have HG:=Lib.hid (show zCw w rb w.heap.size a1 a2 F s S 1 (3) X5 (r) from .inr (.inl ⟨rfl,rfl,⟨⟨4,f,none,[],false⟩,4,fi,0,false,⟨h24,k24_r,k24_o,g24,HN.out,rfl,HOO.out⟩⟩⟩))
      clear h24 g24 k24_r k24_o k24_x
      go_wp2_with fail
      go_step3
      refine (show ∃n',zAZ w rb a1 a2 F s S 1 n' _ _ from ?_)
      exact ⟨_,_,r,rfl,⟨rfl,rfl,rfl,rfl,rfl,rfl,rfl⟩,HG⟩
     by_cases e3:K=3
     ·subst e3
      have HN:=Lib.hid (show zAB S=pathGo f (zFy (r.length+1) [] r) by rw [HU,if_neg (by omega),if_pos rfl])
      have HLL:=Lib.hid (show (s.lost||gone F.L f)=(s.lost||gone F.L f||zBy F.L []) by simp [zBy])
      rw [HLL.out] at h24
      clear HU
      have HG:=Lib.hid (show zCw w rb w.heap.size a1 a2 F s S 2 (10+r.length) X5 (r) from .inr (.inr (.inl ⟨rfl,rfl,⟨f,fi,[],[],none,0,0,r.length+1,0,0,0,false,⟨h24,k24_r,k24_o,k24_x,g24,Row.none_ _ _ _,rfl,rfl,HFI.out.symm,by have:=HRL.out;omega,by omega,HN.out⟩⟩⟩)))
      clear h24 g24 k24_r k24_o k24_x
      go_wp2_with fail
      go_step3
      refine (show ∃n',zAZ w rb a1 a2 F s S 2 n' _ _ from ?_)
      exact ⟨_,_,r,rfl,⟨rfl,rfl,rfl,rfl,rfl,rfl,rfl⟩,HG⟩
     by_cases e5:K=5
     ·subst e5
      rw [if_neg (by omega),if_neg (by omega),if_pos rfl] at HU
      have HSH:=Lib.hid (fun wx (hx:RX wx rb F ⟨s.T,s.bad,s.lost||gone F.L f⟩)=>zDO rb F ⟨s.T,s.bad,s.lost||gone F.L f⟩ r wx hx)
      go_wp2_with fail
      refine (HSH.out X5 h24).mono ?_
      intro e X6 hc
      cases hsr:zBb r with
      | none =>
       have hold:=h24
       obtain ⟨rfl,⟨l,hy⟩,hg⟩:=zFC hc hsr
       have HN:=Lib.hid (show zAB S=none by rw [HU,hsr])
       clear HU hsr hold f0
       have k6_r:=k24_r.grownO hg lt_r
       have k6_o:=k24_o.grownO hg lt_o
       have k6_x:=k24_x.grownO hg lt_x
       have g6:=zAb g24 hg
       clear hc hg g24 h24 k24_r k24_o k24_x
       have z26_0:=k6_o.frozen 2
       have d26_0:X6.cell? ⟨a1,2,none⟩=some (.int .i64 0):=(k6_o.cell 2).trans rfl
       have z26_1:=k6_o.frozen 3
       have d26_1:X6.cell? ⟨a1,3,none⟩=some (.int .i64 0):=(k6_o.cell 3).trans rfl
       have z26_2:=k6_o.frozen 4
       have d26_2:X6.cell? ⟨a1,4,none⟩=some (.bool false):=(k6_o.cell 4).trans rfl
       have z26_3:=k6_o.frozen 5
       have d26_3:X6.cell? ⟨a1,5,none⟩=some (.int .i64 0):=(k6_o.cell 5).trans rfl
       have k26_0:Blk (X6.setCell ⟨a1,2,none⟩ (.int .i64 0)) a1 32 #[.int .i64 5,.int .i64 fi,.int .i64 0,.int .i64 0,.bool false,.int .i64 0,.slice none 0 0,.bool false]:=k6_o.set_ 2 _
       have q26_0:Below (rb+1) X6 (X6.setCell ⟨a1,2,none⟩ (.int .i64 0)):=(Below.refl _ _).setCell (p:=⟨a1,2,none⟩) lt_o _
       have p26_0:Below w.heap.size X6 (X6.setCell ⟨a1,2,none⟩ (.int .i64 0)):=(Below.refl _ _).setCell (p:=⟨a1,2,none⟩) ge_o _
       have o26_0_r:=k6_r.far (p:=⟨a1,2,none⟩) (by simp only;omega) (.int .i64 0)
       have o26_0_x:=k6_x.far (p:=⟨a1,2,none⟩) (by simp only;omega) (.int .i64 0)
       have k26_1:Blk ((X6.setCell ⟨a1,2,none⟩ (.int .i64 0)).setCell ⟨a1,3,none⟩ (.int .i64 0)) a1 32 #[.int .i64 5,.int .i64 fi,.int .i64 0,.int .i64 0,.bool false,.int .i64 0,.slice none 0 0,.bool false]:=k26_0.set_ 3 _
       have q26_1:Below (rb+1) X6 ((X6.setCell ⟨a1,2,none⟩ (.int .i64 0)).setCell ⟨a1,3,none⟩ (.int .i64 0)):=q26_0.setCell (p:=⟨a1,3,none⟩) lt_o _
       have p26_1:Below w.heap.size X6 ((X6.setCell ⟨a1,2,none⟩ (.int .i64 0)).setCell ⟨a1,3,none⟩ (.int .i64 0)):=p26_0.setCell (p:=⟨a1,3,none⟩) ge_o _
       have o26_1_r:=o26_0_r.far (p:=⟨a1,3,none⟩) (by simp only;omega) (.int .i64 0)
       have o26_1_x:=o26_0_x.far (p:=⟨a1,3,none⟩) (by simp only;omega) (.int .i64 0)
       have k26_2:Blk (((X6.setCell ⟨a1,2,none⟩ (.int .i64 0)).setCell ⟨a1,3,none⟩ (.int .i64 0)).setCell ⟨a1,4,none⟩ (.bool false)) a1 32 #[.int .i64 5,.int .i64 fi,.int .i64 0,.int .i64 0,.bool false,.int .i64 0,.slice none 0 0,.bool false]:=k26_1.set_ 4 _
       have q26_2:Below (rb+1) X6 (((X6.setCell ⟨a1,2,none⟩ (.int .i64 0)).setCell ⟨a1,3,none⟩ (.int .i64 0)).setCell ⟨a1,4,none⟩ (.bool false)):=q26_1.setCell (p:=⟨a1,4,none⟩) lt_o _
       have p26_2:Below w.heap.size X6 (((X6.setCell ⟨a1,2,none⟩ (.int .i64 0)).setCell ⟨a1,3,none⟩ (.int .i64 0)).setCell ⟨a1,4,none⟩ (.bool false)):=p26_1.setCell (p:=⟨a1,4,none⟩) ge_o _
       have o26_2_r:=o26_1_r.far (p:=⟨a1,4,none⟩) (by simp only;omega) (.bool false)
       have o26_2_x:=o26_1_x.far (p:=⟨a1,4,none⟩) (by simp only;omega) (.bool false)
       have k26_3:Blk ((((X6.setCell ⟨a1,2,none⟩ (.int .i64 0)).setCell ⟨a1,3,none⟩ (.int .i64 0)).setCell ⟨a1,4,none⟩ (.bool false)).setCell ⟨a1,5,none⟩ (.int .i64 0)) a1 32 #[.int .i64 5,.int .i64 fi,.int .i64 0,.int .i64 0,.bool false,.int .i64 0,.slice none 0 0,.bool false]:=k26_2.set_ 5 _
       have q26_3:Below (rb+1) X6 ((((X6.setCell ⟨a1,2,none⟩ (.int .i64 0)).setCell ⟨a1,3,none⟩ (.int .i64 0)).setCell ⟨a1,4,none⟩ (.bool false)).setCell ⟨a1,5,none⟩ (.int .i64 0)):=q26_2.setCell (p:=⟨a1,5,none⟩) lt_o _
       have p26_3:Below w.heap.size X6 ((((X6.setCell ⟨a1,2,none⟩ (.int .i64 0)).setCell ⟨a1,3,none⟩ (.int .i64 0)).setCell ⟨a1,4,none⟩ (.bool false)).setCell ⟨a1,5,none⟩ (.int .i64 0)):=p26_2.setCell (p:=⟨a1,5,none⟩) ge_o _
       have o26_3_r:=o26_2_r.far (p:=⟨a1,5,none⟩) (by simp only;omega) (.int .i64 0)
       have o26_3_x:=o26_2_x.far (p:=⟨a1,5,none⟩) (by simp only;omega) (.int .i64 0)
       have h26:=hy.over q26_3
       have g26:=zAd g6 p26_3
       clear hy g6 k6_r k6_o k6_x q26_0 p26_0 k26_0 o26_0_r o26_0_x q26_1 p26_1 k26_1 o26_1_r o26_1_x q26_2 p26_2 k26_2 o26_2_r o26_2_x q26_3 p26_3
       have HG:=Lib.hid (show zCw w rb w.heap.size a1 a2 F s S 0 (1) ((((X6.setCell ⟨a1,2,none⟩ (.int .i64 0)).setCell ⟨a1,3,none⟩ (.int .i64 0)).setCell ⟨a1,4,none⟩ (.bool false)).setCell ⟨a1,5,none⟩ (.int .i64 0)) (r) from .inl ⟨rfl,rfl,⟨⟨_,h26⟩,o26_3_r,g26,HN.out⟩⟩)
       clear h26 g26 o26_3_r k26_3 o26_3_x
       go_wp2_with fail
       go_step3
       refine (show ∃n',zAZ w rb a1 a2 F s S 0 n' _ _ from ?_)
       exact ⟨_,_,r,rfl,⟨rfl,rfl,rfl,rfl,rfl,rfl,rfl⟩,HG⟩
      | some p =>
       obtain ⟨g,far,r2⟩:=p
       obtain ⟨rfl,hy,hg⟩:=zFB hc hsr
       obtain ⟨gi,hgi⟩:∃x,(idxF F.L g:Int)=x:=⟨_,rfl⟩
       rw [hgi]
       have HN:=Lib.hid (show zAB S=zDP ⟨5,f,some ⟨g,0,far,0⟩,[],false⟩ (zCA r2) by rw [HU,hsr])
       have HLL:=Lib.hid (show (s.lost||gone F.L f||gone F.L g)=(s.lost||zAA F.L ⟨5,f,some ⟨g,0,far,0⟩,[],false⟩) by simp [zAA,zBy,Bool.or_assoc])
       have HOO:=Lib.hid (show ∀b,oOf F.L ⟨5,f,some ⟨g,0,far,0⟩,[],b⟩=⟨5,fi,⟨gi,0,far,0⟩,[],b⟩ from fun b=>by rw [←HFI.out,←hgi];rfl)
       try simp only at hy
       rw [HLL.out] at hy
       clear HU hsr hgi f0
       have k6_r:=k24_r.grownO hg lt_r
       have k6_o:=k24_o.grownO hg lt_o
       have k6_x:=k24_x.grownO hg lt_x
       have g6:=zAb g24 hg
       clear hc hg g24 h24 k24_r k24_o k24_x
       have z27_0:=k6_o.frozen 2
       have d27_0:X6.cell? ⟨a1,2,none⟩=some (.int .i64 0):=(k6_o.cell 2).trans rfl
       have z27_1:=k6_o.frozen 3
       have d27_1:X6.cell? ⟨a1,3,none⟩=some (.int .i64 0):=(k6_o.cell 3).trans rfl
       have z27_2:=k6_o.frozen 4
       have d27_2:X6.cell? ⟨a1,4,none⟩=some (.bool false):=(k6_o.cell 4).trans rfl
       have z27_3:=k6_o.frozen 5
       have d27_3:X6.cell? ⟨a1,5,none⟩=some (.int .i64 0):=(k6_o.cell 5).trans rfl
       have k27_0:Blk (X6.setCell ⟨a1,2,none⟩ (.int .i64 gi)) a1 32 #[.int .i64 5,.int .i64 fi,.int .i64 gi,.int .i64 0,.bool false,.int .i64 0,.slice none 0 0,.bool false]:=k6_o.set_ 2 _
       have q27_0:Below (rb+1) X6 (X6.setCell ⟨a1,2,none⟩ (.int .i64 gi)):=(Below.refl _ _).setCell (p:=⟨a1,2,none⟩) lt_o _
       have p27_0:Below w.heap.size X6 (X6.setCell ⟨a1,2,none⟩ (.int .i64 gi)):=(Below.refl _ _).setCell (p:=⟨a1,2,none⟩) ge_o _
       have o27_0_r:=k6_r.far (p:=⟨a1,2,none⟩) (by simp only;omega) (.int .i64 gi)
       have o27_0_x:=k6_x.far (p:=⟨a1,2,none⟩) (by simp only;omega) (.int .i64 gi)
       have k27_1:Blk ((X6.setCell ⟨a1,2,none⟩ (.int .i64 gi)).setCell ⟨a1,3,none⟩ (.int .i64 0)) a1 32 #[.int .i64 5,.int .i64 fi,.int .i64 gi,.int .i64 0,.bool false,.int .i64 0,.slice none 0 0,.bool false]:=k27_0.set_ 3 _
       have q27_1:Below (rb+1) X6 ((X6.setCell ⟨a1,2,none⟩ (.int .i64 gi)).setCell ⟨a1,3,none⟩ (.int .i64 0)):=q27_0.setCell (p:=⟨a1,3,none⟩) lt_o _
       have p27_1:Below w.heap.size X6 ((X6.setCell ⟨a1,2,none⟩ (.int .i64 gi)).setCell ⟨a1,3,none⟩ (.int .i64 0)):=p27_0.setCell (p:=⟨a1,3,none⟩) ge_o _
       have o27_1_r:=o27_0_r.far (p:=⟨a1,3,none⟩) (by simp only;omega) (.int .i64 0)
       have o27_1_x:=o27_0_x.far (p:=⟨a1,3,none⟩) (by simp only;omega) (.int .i64 0)
       have k27_2:Blk (((X6.setCell ⟨a1,2,none⟩ (.int .i64 gi)).setCell ⟨a1,3,none⟩ (.int .i64 0)).setCell ⟨a1,4,none⟩ (.bool far)) a1 32 #[.int .i64 5,.int .i64 fi,.int .i64 gi,.int .i64 0,.bool far,.int .i64 0,.slice none 0 0,.bool false]:=k27_1.set_ 4 _
       have q27_2:Below (rb+1) X6 (((X6.setCell ⟨a1,2,none⟩ (.int .i64 gi)).setCell ⟨a1,3,none⟩ (.int .i64 0)).setCell ⟨a1,4,none⟩ (.bool far)):=q27_1.setCell (p:=⟨a1,4,none⟩) lt_o _
       have p27_2:Below w.heap.size X6 (((X6.setCell ⟨a1,2,none⟩ (.int .i64 gi)).setCell ⟨a1,3,none⟩ (.int .i64 0)).setCell ⟨a1,4,none⟩ (.bool far)):=p27_1.setCell (p:=⟨a1,4,none⟩) ge_o _
       have o27_2_r:=o27_1_r.far (p:=⟨a1,4,none⟩) (by simp only;omega) (.bool far)
       have o27_2_x:=o27_1_x.far (p:=⟨a1,4,none⟩) (by simp only;omega) (.bool far)
       have k27_3:Blk ((((X6.setCell ⟨a1,2,none⟩ (.int .i64 gi)).setCell ⟨a1,3,none⟩ (.int .i64 0)).setCell ⟨a1,4,none⟩ (.bool far)).setCell ⟨a1,5,none⟩ (.int .i64 0)) a1 32 #[.int .i64 5,.int .i64 fi,.int .i64 gi,.int .i64 0,.bool far,.int .i64 0,.slice none 0 0,.bool false]:=k27_2.set_ 5 _
       have q27_3:Below (rb+1) X6 ((((X6.setCell ⟨a1,2,none⟩ (.int .i64 gi)).setCell ⟨a1,3,none⟩ (.int .i64 0)).setCell ⟨a1,4,none⟩ (.bool far)).setCell ⟨a1,5,none⟩ (.int .i64 0)):=q27_2.setCell (p:=⟨a1,5,none⟩) lt_o _
       have p27_3:Below w.heap.size X6 ((((X6.setCell ⟨a1,2,none⟩ (.int .i64 gi)).setCell ⟨a1,3,none⟩ (.int .i64 0)).setCell ⟨a1,4,none⟩ (.bool far)).setCell ⟨a1,5,none⟩ (.int .i64 0)):=p27_2.setCell (p:=⟨a1,5,none⟩) ge_o _
       have o27_3_r:=o27_2_r.far (p:=⟨a1,5,none⟩) (by simp only;omega) (.int .i64 0)
       have o27_3_x:=o27_2_x.far (p:=⟨a1,5,none⟩) (by simp only;omega) (.int .i64 0)
       have h27:=hy.over q27_3
       have g27:=zAd g6 p27_3
       clear hy g6 k6_r k6_o k6_x q27_0 p27_0 k27_0 o27_0_r o27_0_x q27_1 p27_1 k27_1 o27_1_r o27_1_x q27_2 p27_2 k27_2 o27_2_r o27_2_x q27_3 p27_3
       have HG:=Lib.hid (show zCw w rb w.heap.size a1 a2 F s S 1 (3) ((((X6.setCell ⟨a1,2,none⟩ (.int .i64 gi)).setCell ⟨a1,3,none⟩ (.int .i64 0)).setCell ⟨a1,4,none⟩ (.bool far)).setCell ⟨a1,5,none⟩ (.int .i64 0)) (r2) from .inr (.inl ⟨rfl,rfl,⟨⟨5,f,some ⟨g,0,far,0⟩,[],false⟩,5,fi,gi,far,⟨h27,o27_3_r,k27_3,g27,HN.out,rfl,HOO.out⟩⟩⟩))
       clear h27 g27 o27_3_r k27_3 o27_3_x
       go_wp2_with fail
       go_step3
       refine (show ∃n',zAZ w rb a1 a2 F s S 1 n' _ _ from ?_)
       exact ⟨_,_,r2,rfl,⟨rfl,rfl,rfl,rfl,rfl,rfl,rfl⟩,HG⟩
     by_cases e6:K=6
     ·subst e6
      rw [if_neg (by omega),if_neg (by omega),if_neg (by omega),if_pos (by omega)] at HU
      have HSH:=Lib.hid (fun wx (hx:RX wx rb F ⟨s.T,s.bad,s.lost||gone F.L f⟩)=>rx_cut hx r)
      go_wp2_with fail
      refine (HSH.out X5 h24).mono ?_
      intro e X6 hc
      cases hsr:cutF r with
      | none =>
       obtain ⟨rfl,hy,hg⟩:=zGk hc hsr
       have HN:=Lib.hid (show zAB S=none by rw [HU,hsr])
       clear HU hsr f0
       have k6_r:=k24_r.grownO hg lt_r
       have k6_o:=k24_o.grownO hg lt_o
       have k6_x:=k24_x.grownO hg lt_x
       have g6:=zAb g24 hg
       clear hc hg g24 h24 k24_r k24_o k24_x
       have z28:=k6_o.frozen 2
       have d28:X6.cell? ⟨a1,2,none⟩=some (.int .i64 0):=(k6_o.cell 2).trans rfl
       have k28_o:Blk (X6.setCell ⟨a1,2,none⟩ (.int .i64 0)) a1 32 #[.int .i64 6,.int .i64 fi,.int .i64 0,.int .i64 0,.bool false,.int .i64 0,.slice none 0 0,.bool false]:=k6_o.set_ 2 _
       have q28:Below (rb+1) X6 (X6.setCell ⟨a1,2,none⟩ (.int .i64 0)):=(Below.refl _ _).setCell (p:=⟨a1,2,none⟩) lt_o _
       have p28:Below w.heap.size X6 (X6.setCell ⟨a1,2,none⟩ (.int .i64 0)):=(Below.refl _ _).setCell (p:=⟨a1,2,none⟩) ge_o _
       have k28_r:=k6_r.far (p:=⟨a1,2,none⟩) (by simp only;omega) (.int .i64 0)
       have k28_x:=k6_x.far (p:=⟨a1,2,none⟩) (by simp only;omega) (.int .i64 0)
       have h28:=hy.over q28
       have g28:=zAd g6 p28
       clear hy g6 k6_r k6_o k6_x q28 p28
       have HG:=Lib.hid (show zCw w rb w.heap.size a1 a2 F s S 0 (1) (X6.setCell ⟨a1,2,none⟩ (.int .i64 0)) (r) from .inl ⟨rfl,rfl,⟨⟨_,h28⟩,k28_r,g28,HN.out⟩⟩)
       clear h28 g28 k28_r k28_o k28_x
       go_wp2_with fail
       go_step3
       refine (show ∃n',zAZ w rb a1 a2 F s S 0 n' _ _ from ?_)
       exact ⟨_,_,r,rfl,⟨rfl,rfl,rfl,rfl,rfl,rfl,rfl⟩,HG⟩
      | some p =>
       obtain ⟨g,r2⟩:=p
       obtain ⟨rfl,hy,hg⟩:=zGj hc hsr
       obtain ⟨gi,hgi⟩:∃x,(idxF F.L g:Int)=x:=⟨_,rfl⟩
       rw [hgi]
       have HN:=Lib.hid (show zAB S=zDP ⟨6,f,some ⟨g,0,false,0⟩,[],false⟩ (zCA r2) by rw [HU,hsr])
       have HLL:=Lib.hid (show (s.lost||gone F.L f||gone F.L g)=(s.lost||zAA F.L ⟨6,f,some ⟨g,0,false,0⟩,[],false⟩) by simp [zAA,zBy,Bool.or_assoc])
       have HOO:=Lib.hid (show ∀b,oOf F.L ⟨6,f,some ⟨g,0,false,0⟩,[],b⟩=⟨6,fi,⟨gi,0,false,0⟩,[],b⟩ from fun b=>by rw [←HFI.out,←hgi];rfl)
       try simp only at hy
       rw [HLL.out] at hy
       clear HU hsr hgi f0
       have k6_r:=k24_r.grownO hg lt_r
       have k6_o:=k24_o.grownO hg lt_o
       have k6_x:=k24_x.grownO hg lt_x
       have g6:=zAb g24 hg
       clear hc hg g24 h24 k24_r k24_o k24_x
       have z29:=k6_o.frozen 2
       have d29:X6.cell? ⟨a1,2,none⟩=some (.int .i64 0):=(k6_o.cell 2).trans rfl
       have k29_o:Blk (X6.setCell ⟨a1,2,none⟩ (.int .i64 gi)) a1 32 #[.int .i64 6,.int .i64 fi,.int .i64 gi,.int .i64 0,.bool false,.int .i64 0,.slice none 0 0,.bool false]:=k6_o.set_ 2 _
       have q29:Below (rb+1) X6 (X6.setCell ⟨a1,2,none⟩ (.int .i64 gi)):=(Below.refl _ _).setCell (p:=⟨a1,2,none⟩) lt_o _
       have p29:Below w.heap.size X6 (X6.setCell ⟨a1,2,none⟩ (.int .i64 gi)):=(Below.refl _ _).setCell (p:=⟨a1,2,none⟩) ge_o _
       have k29_r:=k6_r.far (p:=⟨a1,2,none⟩) (by simp only;omega) (.int .i64 gi)
       have k29_x:=k6_x.far (p:=⟨a1,2,none⟩) (by simp only;omega) (.int .i64 gi)
       have h29:=hy.over q29
       have g29:=zAd g6 p29
       clear hy g6 k6_r k6_o k6_x q29 p29
       have HG:=Lib.hid (show zCw w rb w.heap.size a1 a2 F s S 1 (3) (X6.setCell ⟨a1,2,none⟩ (.int .i64 gi)) (r2) from .inr (.inl ⟨rfl,rfl,⟨⟨6,f,some ⟨g,0,false,0⟩,[],false⟩,6,fi,gi,false,⟨h29,k29_r,k29_o,g29,HN.out,rfl,HOO.out⟩⟩⟩))
       clear h29 g29 k29_r k29_o k29_x
       go_wp2_with fail
       go_step3
       refine (show ∃n',zAZ w rb a1 a2 F s S 1 n' _ _ from ?_)
       exact ⟨_,_,r2,rfl,⟨rfl,rfl,rfl,rfl,rfl,rfl,rfl⟩,HG⟩
     by_cases e7:K=7
     ·subst e7
      rw [if_neg (by omega),if_neg (by omega),if_neg (by omega),if_pos (by omega)] at HU
      have HSH:=Lib.hid (fun wx (hx:RX wx rb F ⟨s.T,s.bad,s.lost||gone F.L f⟩)=>rx_cut hx r)
      go_wp2_with fail
      refine (HSH.out X5 h24).mono ?_
      intro e X6 hc
      cases hsr:cutF r with
      | none =>
       obtain ⟨rfl,hy,hg⟩:=zGk hc hsr
       have HN:=Lib.hid (show zAB S=none by rw [HU,hsr])
       clear HU hsr f0
       have k6_r:=k24_r.grownO hg lt_r
       have k6_o:=k24_o.grownO hg lt_o
       have k6_x:=k24_x.grownO hg lt_x
       have g6:=zAb g24 hg
       clear hc hg g24 h24 k24_r k24_o k24_x
       have z30:=k6_o.frozen 2
       have d30:X6.cell? ⟨a1,2,none⟩=some (.int .i64 0):=(k6_o.cell 2).trans rfl
       have k30_o:Blk (X6.setCell ⟨a1,2,none⟩ (.int .i64 0)) a1 32 #[.int .i64 7,.int .i64 fi,.int .i64 0,.int .i64 0,.bool false,.int .i64 0,.slice none 0 0,.bool false]:=k6_o.set_ 2 _
       have q30:Below (rb+1) X6 (X6.setCell ⟨a1,2,none⟩ (.int .i64 0)):=(Below.refl _ _).setCell (p:=⟨a1,2,none⟩) lt_o _
       have p30:Below w.heap.size X6 (X6.setCell ⟨a1,2,none⟩ (.int .i64 0)):=(Below.refl _ _).setCell (p:=⟨a1,2,none⟩) ge_o _
       have k30_r:=k6_r.far (p:=⟨a1,2,none⟩) (by simp only;omega) (.int .i64 0)
       have k30_x:=k6_x.far (p:=⟨a1,2,none⟩) (by simp only;omega) (.int .i64 0)
       have h30:=hy.over q30
       have g30:=zAd g6 p30
       clear hy g6 k6_r k6_o k6_x q30 p30
       have HG:=Lib.hid (show zCw w rb w.heap.size a1 a2 F s S 0 (1) (X6.setCell ⟨a1,2,none⟩ (.int .i64 0)) (r) from .inl ⟨rfl,rfl,⟨⟨_,h30⟩,k30_r,g30,HN.out⟩⟩)
       clear h30 g30 k30_r k30_o k30_x
       go_wp2_with fail
       go_step3
       refine (show ∃n',zAZ w rb a1 a2 F s S 0 n' _ _ from ?_)
       exact ⟨_,_,r,rfl,⟨rfl,rfl,rfl,rfl,rfl,rfl,rfl⟩,HG⟩
      | some p =>
       obtain ⟨g,r2⟩:=p
       obtain ⟨rfl,hy,hg⟩:=zGj hc hsr
       obtain ⟨gi,hgi⟩:∃x,(idxF F.L g:Int)=x:=⟨_,rfl⟩
       rw [hgi]
       have HN:=Lib.hid (show zAB S=zDP ⟨7,f,some ⟨g,0,false,0⟩,[],false⟩ (zCA r2) by rw [HU,hsr])
       have HLL:=Lib.hid (show (s.lost||gone F.L f||gone F.L g)=(s.lost||zAA F.L ⟨7,f,some ⟨g,0,false,0⟩,[],false⟩) by simp [zAA,zBy,Bool.or_assoc])
       have HOO:=Lib.hid (show ∀b,oOf F.L ⟨7,f,some ⟨g,0,false,0⟩,[],b⟩=⟨7,fi,⟨gi,0,false,0⟩,[],b⟩ from fun b=>by rw [←HFI.out,←hgi];rfl)
       try simp only at hy
       rw [HLL.out] at hy
       clear HU hsr hgi f0
       have k6_r:=k24_r.grownO hg lt_r
       have k6_o:=k24_o.grownO hg lt_o
       have k6_x:=k24_x.grownO hg lt_x
       have g6:=zAb g24 hg
       clear hc hg g24 h24 k24_r k24_o k24_x
       have z31:=k6_o.frozen 2
       have d31:X6.cell? ⟨a1,2,none⟩=some (.int .i64 0):=(k6_o.cell 2).trans rfl
       have k31_o:Blk (X6.setCell ⟨a1,2,none⟩ (.int .i64 gi)) a1 32 #[.int .i64 7,.int .i64 fi,.int .i64 gi,.int .i64 0,.bool false,.int .i64 0,.slice none 0 0,.bool false]:=k6_o.set_ 2 _
       have q31:Below (rb+1) X6 (X6.setCell ⟨a1,2,none⟩ (.int .i64 gi)):=(Below.refl _ _).setCell (p:=⟨a1,2,none⟩) lt_o _
       have p31:Below w.heap.size X6 (X6.setCell ⟨a1,2,none⟩ (.int .i64 gi)):=(Below.refl _ _).setCell (p:=⟨a1,2,none⟩) ge_o _
       have k31_r:=k6_r.far (p:=⟨a1,2,none⟩) (by simp only;omega) (.int .i64 gi)
       have k31_x:=k6_x.far (p:=⟨a1,2,none⟩) (by simp only;omega) (.int .i64 gi)
       have h31:=hy.over q31
       have g31:=zAd g6 p31
       clear hy g6 k6_r k6_o k6_x q31 p31
       have HG:=Lib.hid (show zCw w rb w.heap.size a1 a2 F s S 1 (3) (X6.setCell ⟨a1,2,none⟩ (.int .i64 gi)) (r2) from .inr (.inl ⟨rfl,rfl,⟨⟨7,f,some ⟨g,0,false,0⟩,[],false⟩,7,fi,gi,false,⟨h31,k31_r,k31_o,g31,HN.out,rfl,HOO.out⟩⟩⟩))
       clear h31 g31 k31_r k31_o k31_x
       go_wp2_with fail
       go_step3
       refine (show ∃n',zAZ w rb a1 a2 F s S 1 n' _ _ from ?_)
       exact ⟨_,_,r2,rfl,⟨rfl,rfl,rfl,rfl,rfl,rfl,rfl⟩,HG⟩
     have m3:(K==3)=false:=by simpa using e3
     have m4:(K==4)=false:=by simpa using e4
     have m5:(K==5)=false:=by simpa using e5
     have m6:(K==6)=false:=by simpa using e6
     have m7:(K==7)=false:=by simpa using e7
     have HN:=Lib.hid (show zAB S=endGo ⟨K,f,none,[],false⟩ r by rw [HU,if_neg e4,if_neg e3,if_neg e5,if_neg (by omega)])
     have HLL:=Lib.hid (show (s.lost||gone F.L f)=(s.lost||zAA F.L ⟨K,f,none,[],false⟩) by simp [zAA,zBy])
     have HOO:=Lib.hid (show oOf F.L ⟨K,f,none,[],false⟩=⟨K,fi,⟨0,0,false,0⟩,[],false⟩ by rw [←HFI.out];rfl)
     rw [HLL.out] at h24
     clear HU e3 e4 e5 e6 e7
     have HG:=Lib.hid (show zCw w rb w.heap.size a1 a2 F s S 3 (2) X5 (r) from .inr (.inr (.inr ⟨rfl,rfl,⟨⟨K,f,none,[],false⟩,K,fi,0,false,false,[],none,0,0,⟨h24,k24_r,k24_o,g24,Row.none_ _ _ _,rfl,HOO.out,HN.out⟩⟩⟩)))
     clear h24 g24 k24_r k24_o k24_x
     go_wp2_with fail
     go_step3
     refine (show ∃n',zAZ w rb a1 a2 F s S 3 n' _ _ from ?_)
     exact ⟨_,_,r,rfl,⟨rfl,rfl,rfl,rfl,rfl,rfl,rfl⟩,HG⟩
 ·rintro l q a wv ⟨X9,r,hX,hF,HJ⟩
  subst hX
  rcases HJ.out with ⟨rfl,rfl,h0⟩ | ⟨rfl,rfl,n,k,f,ff,far,h1⟩ | ⟨rfl,rfl,f,fi,P,Ps,B,m,d,N,x0,x1,x3,x2,h2⟩ | ⟨rfl,rfl,n,k,f,ff,far,over,path,B,m,d,h3⟩
  ·exact scan_pass0 rb F s S w hlt a1 a2 HA1.out HA2.out r 1 rfl a X9 hF h0
  ·exact scan_pass1 rb F s S w hlt a1 a2 HA1.out HA2.out r 3 rfl a X9 hF n k f ff far h1
  ·exact scan_pass2 rb F s S w hlt a1 a2 HA1.out HA2.out r _ rfl a X9 hF hS f fi P Ps B m d N x0 x1 x3 x2 h2
  ·exact scan_pass3 rb F s S w hlt a1 a2 HA1.out HA2.out r 2 rfl a X9 hF n k f ff far over path B m d h3
end Go.Proofs.YtlmdfmnbcndhoaaGreatDoor
