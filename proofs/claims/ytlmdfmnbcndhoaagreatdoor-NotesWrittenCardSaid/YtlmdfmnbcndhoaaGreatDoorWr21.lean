/-
  Contract: the program's reader of an operation in words. Conditions: the reader lies in a block, its words and its frame read; there are not too many words.
-/
import Derived.Test.YtlmdfmnbcndhoaaGreatDoorWr17
namespace Go.Proofs.YtlmdfmnbcndhoaaGreatDoor
open Go.RowKit
set_option maxHeartbeats 12800000 in
set_option maxRecDepth 100000 in
theorem reader_op_b (rb:Nat) (F:Fm) (s:RS) (w:World) (h:RX w rb F s) (hT:s.T.length≤100000) (hw:zBG (xa s.T 0)≠3∧zBG (xa s.T 0)≠6∧zBG (xa s.T 0)≠7) :
  Calls Tryz.prog 98 #[.pointer (some ⟨rb,0,none⟩)] w (zEv w rb F (opR F.L s).1 (opR F.L s).2):=by
 obtain ⟨S0,eS0⟩:∃S,xa s.T 0=S:=⟨_,rfl⟩
 obtain ⟨s1,e1⟩:∃x,s.next=x:=⟨_,rfl⟩
 obtain ⟨K,eK⟩:∃x,zBG S0=x:=⟨_,rfl⟩
 obtain ⟨s2,e2⟩:∃x,s1.mark (decide (K=0))=x:=⟨_,rfl⟩
 obtain ⟨S1,eS1⟩:∃S,xa s2.T 0=S:=⟨_,rfl⟩
 obtain ⟨s3,e3⟩:∃x,s2.next=x:=⟨_,rfl⟩
 obtain ⟨s4,e4⟩:∃x,s3.fing F.L S1=x:=⟨_,rfl⟩
 obtain ⟨f,efi⟩:∃x,fidx F.L S1=x:=⟨_,rfl⟩
 obtain ⟨b,eb⟩:∃b,s1.bad=b:=⟨_,rfl⟩
 have hT1:xa s.T.tail 0=S1:=by rw [←eS1,←e2,←e1];rfl
 have hT4:s4.T.length≤100000:=by
  rw [←e4,←e3,←e2,←e1]
  simp only [RS.fing,RS.next,RS.mark,List.length_tail]
  omega
 have HR:=Lib.hid (show opR F.L s=zBN F.L K f s4 by
  have hp:zET F.L s=s4:=by
   unfold zET
   rw [eS0,hT1,e1,eK,e2,e3,e4]
  unfold opR
  rw [hp,eS0,hT1,eK,efi])
 have hK:0≤K∧K≤8:=by
  by_cases e:K=0
  ·omega
  ·have:=zGM (v:=S0) (by rw [eK];exact e)
   rw [eK] at this;omega
 have HKV:=Lib.hid (fun (k:Nat) (h1:1≤k) (h8:k≤8)=>(show ((bA (zBd (k:Int))).toList==(bA S0).toList)=decide (K=(k:Int)) by
  rw [zAt,zAt,←eK];exact zFx h1 h8 S0))
 have H1:=Lib.hid (fun wx (hx:RX wx rb F s)=>zCu hx)
 have H2:=Lib.hid (fun wx (hx:RX wx rb F s2)=>zCu hx)
 have H3:=Lib.hid (fun wx (hx:RX wx rb F s3)=>zCv hx S1)
 have HM:=Lib.hid (fun wx (hx:RX wx rb F s1)=>(show wx.cell? ⟨rb,4,none⟩=some (.bool b)∧wx.frozen? ⟨rb,4,none⟩=false∧∀q,q=(b||decide (K=0))→RX (wx.setCell ⟨rb,4,none⟩ (.bool q)) rb F s2∧wx.grownBy (wx.setCell ⟨rb,4,none⟩ (.bool q)) (some rb) from
  ⟨by rw [←eb];exact hx.bad4.1,hx.bad4.2,fun q hq=>by rw [←e2];exact hx.marked (decide (K=0)) q (by rw [eb];exact hq)⟩))
 simp only [eS0,e1] at H1
 simp only [eS1,e3] at H2
 simp only [efi,e4] at H3
 rw [HR.out]
 have HW:Hid (K≠3∧K≠6∧K≠7):=Lib.hid (by rw [←eK,←eS0];exact hw)
 have hlt:=h.lt
 have bst:=zGP
 have GIV:=Lib.hid (fun (o:Og) (st:RS) (he:zBN F.L K f s4=(o,st)) (wx:World) (B:Option Addr) (m d:Nat) (hrow:Row wx w.heap.size 5 B m d (o.path.flatMap encP)) (hm:m=o.path.length) (hx:RX wx rb F st) (hg:w.grownBy wx (some rb)) =>
  (show zEv w rb F (zBN F.L K f s4).1 (zBN F.L K f s4).2 (.returned (opV o B m d)) wx from by rw [he];exact ⟨B,m,d,rfl,hrow,hm,hx,hg⟩))
 clear eS0 e1 e2 eS1 e3 e4 efi eb eK hT1 HR hT hw
 have b1:Below w.heap.size w ((w.alloc (.cells #[.int .i64 0,.int .i64 0,.int .i64 0,.int .i64 0,.bool false,.int .i64 0,.slice none 0 0,.bool false] 32)).alloc (.cells #[.int .i64 0,.int .i64 0,.int .i64 0,.int .i64 0,.bool false,.int .i64 0,.slice none 0 0,.bool false] 32)):=((Below.refl _ _).alloc (Nat.le_refl _) _).alloc (by simp) _
 have k1_o0:Blk ((w.alloc (.cells #[.int .i64 0,.int .i64 0,.int .i64 0,.int .i64 0,.bool false,.int .i64 0,.slice none 0 0,.bool false] 32)).alloc (.cells #[.int .i64 0,.int .i64 0,.int .i64 0,.int .i64 0,.bool false,.int .i64 0,.slice none 0 0,.bool false] 32)) w.heap.size 32 #[.int .i64 0,.int .i64 0,.int .i64 0,.int .i64 0,.bool false,.int .i64 0,.slice none 0 0,.bool false]:=(Blk.new w _ _).alloc _
 have k1_o1:Blk ((w.alloc (.cells #[.int .i64 0,.int .i64 0,.int .i64 0,.int .i64 0,.bool false,.int .i64 0,.slice none 0 0,.bool false] 32)).alloc (.cells #[.int .i64 0,.int .i64 0,.int .i64 0,.int .i64 0,.bool false,.int .i64 0,.slice none 0 0,.bool false] 32)) (w.heap.size+1) 32 #[.int .i64 0,.int .i64 0,.int .i64 0,.int .i64 0,.bool false,.int .i64 0,.slice none 0 0,.bool false]:=by have:=Blk.new (w.alloc (.cells #[.int .i64 0,.int .i64 0,.int .i64 0,.int .i64 0,.bool false,.int .i64 0,.slice none 0 0,.bool false] 32)) 32 #[.int .i64 0,.int .i64 0,.int .i64 0,.int .i64 0,.bool false,.int .i64 0,.slice none 0 0,.bool false];rwa [World.size_alloc] at this
 have h1:=h.below b1
 have g1:w.grownBy ((w.alloc (.cells #[.int .i64 0,.int .i64 0,.int .i64 0,.int .i64 0,.bool false,.int .i64 0,.slice none 0 0,.bool false] 32)).alloc (.cells #[.int .i64 0,.int .i64 0,.int .i64 0,.int .i64 0,.bool false,.int .i64 0,.slice none 0 0,.bool false] 32)) (some rb):=zAv b1
 have lt_o0:rb < w.heap.size:=hlt
 have lt_o1:rb < w.heap.size+1:=by omega
 have ge_o0:w.heap.size≤w.heap.size:=Nat.le_refl _
 have ge_o1:w.heap.size≤w.heap.size+1:=by omega
 clear h b1
 obtain ⟨a1,ha1⟩:∃a,a=w.heap.size+1:=⟨_,rfl⟩
 have HA1:=Lib.hid ha1
 have lt_o0_o1:w.heap.size < a1:=by omega
 go_enter Tryz.func98,Tryz.ntmps98
 go_wp2_with fail
 generalize ((w.alloc (.cells #[.int .i64 0,.int .i64 0,.int .i64 0,.int .i64 0,.bool false,.int .i64 0,.slice none 0 0,.bool false] 32)).alloc (.cells #[.int .i64 0,.int .i64 0,.int .i64 0,.int .i64 0,.bool false,.int .i64 0,.slice none 0 0,.bool false] 32))=X1 at k1_o0 k1_o1 h1 g1 ⊢
 rw [←ha1] at k1_o1 lt_o1 ge_o1 ⊢
 clear ha1
 refine (H1.out X1 h1).mono ?_
 rintro e X11 ⟨rfl,h11,q11⟩
 have k11_o0:=k1_o0.grownO q11 lt_o0
 have k11_o1:=k1_o1.grownO q11 lt_o1
 have g11:=zAb g1 q11
 clear h1 g1 k1_o0 k1_o1 q11 H1
 go_wp2_with fail
 go_loopw [5] (fun v wv=>∃(k:Nat) (X:World),X=wv∧1≤k∧k≤9∧v=.int .i64 k∧Hid (RX X rb F s1∧Blk X w.heap.size 32 #[.int .i64 0,.int .i64 0,.int .i64 0,.int .i64 0,.bool false,.int .i64 0,.slice none 0 0,.bool false]∧Blk X a1 32 #[.int .i64 (kTo K k),.int .i64 0,.int .i64 0,.int .i64 0,.bool false,.int .i64 0,.slice none 0 0,.bool false]∧w.grownBy X (some rb))) (fun v _=>9-(intOf v).toNat)
 case atStart=>exact ⟨1,_,rfl,by omega,by omega,rfl,Lib.hid (by rw [show kTo K 1=0 from by unfold kTo;split<;>omega];exact ⟨h11,k11_o0,k11_o1,g11⟩)⟩
 case round =>
  clear h11 g11 k11_o0 k11_o1
  obtain ⟨k,X,hX,hk1,hk9,rfl,HX⟩:=hrel
  subst hX
  by_cases hk:k≤8
  ·have i1:(k:Int)≤8:=by omega
   have n0:=HKV.out k hk1 hk
   by_cases hq:K=(k:Int)
   ·obtain ⟨h12,k12_o0,k12_o1,g12⟩:=HX.out
    rw [decide_eq_true hq] at n0
    have z13:=k12_o1.frozen 0
    have d13:X.cell? ⟨a1,0,none⟩=some (.int .i64 (kTo K k)):=(k12_o1.cell 0).trans rfl
    have k13_o1:Blk (X.setCell ⟨a1,0,none⟩ (.int .i64 (k:Int))) a1 32 #[.int .i64 (k:Int),.int .i64 0,.int .i64 0,.int .i64 0,.bool false,.int .i64 0,.slice none 0 0,.bool false]:=k12_o1.set_ 0 _
    have q13:Below (rb+1) X (X.setCell ⟨a1,0,none⟩ (.int .i64 (k:Int))):=(Below.refl _ _).setCell (p:=⟨a1,0,none⟩) lt_o1 _
    have p13:Below w.heap.size X (X.setCell ⟨a1,0,none⟩ (.int .i64 (k:Int))):=(Below.refl _ _).setCell (p:=⟨a1,0,none⟩) ge_o1 _
    have k13_o0:=k12_o0.far (p:=⟨a1,0,none⟩) (by simp only;omega) (.int .i64 (k:Int))
    have h13:=h12.over q13
    have g13:=zAd g12 p13
    clear h12 g12 k12_o0 k12_o1 q13 p13
    have HF:=Lib.hid (show kTo K (k+1)=(k:Int) by unfold kTo;rw [if_pos (by omega)];exact hq)
    have HZ:=Lib.hid (show RX (X.setCell ⟨a1,0,none⟩ (.int .i64 (k:Int))) rb F s1∧Blk (X.setCell ⟨a1,0,none⟩ (.int .i64 (k:Int))) w.heap.size 32 #[.int .i64 0,.int .i64 0,.int .i64 0,.int .i64 0,.bool false,.int .i64 0,.slice none 0 0,.bool false]∧Blk (X.setCell ⟨a1,0,none⟩ (.int .i64 (k:Int))) a1 32 #[.int .i64 (k:Int),.int .i64 0,.int .i64 0,.int .i64 0,.bool false,.int .i64 0,.slice none 0 0,.bool false]∧w.grownBy (X.setCell ⟨a1,0,none⟩ (.int .i64 (k:Int))) (some rb) from ⟨h13,k13_o0,k13_o1,g13⟩)
    clear HX hq h13 g13 k13_o0 k13_o1
    go_wp2_with (first | (go_at_call 106;refine (zBV (k:Int) (by omega) (by omega) _).mono ?_;rintro e wq ⟨rfl,rfl⟩))
    go_roundw
    case rel=>exact ⟨k+1,_,rfl,by omega,by omega,by go_num,Lib.hid (by rw [HF.out];exact HZ.out)⟩
    case measure=>simp [intOf];omega
   ·rw [decide_eq_false hq] at n0
    have HF:=Lib.hid (show kTo K (k+1)=kTo K k by unfold kTo;split<;>split<;>omega)
    clear hq
    go_wp2_with (first | (go_at_call 106;refine (zBV (k:Int) (by omega) (by omega) _).mono ?_;rintro e wq ⟨rfl,rfl⟩))
    go_roundw
    case rel=>exact ⟨k+1,_,rfl,by omega,by omega,by go_num,Lib.hid (by rw [HF.out];exact HX.out)⟩
    case measure=>simp [intOf];omega
  ·have i1:¬(k:Int)≤8:=by omega
   obtain ⟨h14,k14_o0,k14_o1,g14⟩:=HX.out
   rw [show kTo K k=K from by unfold kTo;rw [if_pos (by omega)]] at k14_o1
   obtain ⟨c4,z4,hm⟩:=HM.out X h14
   have HZ:=Lib.hid (fun (q:Bool) hq=>(show RX (X.setCell ⟨rb,4,none⟩ (.bool q)) rb F s2∧Blk (X.setCell ⟨rb,4,none⟩ (.bool q)) w.heap.size 32 #[.int .i64 0,.int .i64 0,.int .i64 0,.int .i64 0,.bool false,.int .i64 0,.slice none 0 0,.bool false]∧Blk (X.setCell ⟨rb,4,none⟩ (.bool q)) a1 32 #[.int .i64 K,.int .i64 0,.int .i64 0,.int .i64 0,.bool false,.int .i64 0,.slice none 0 0,.bool false]∧w.grownBy (X.setCell ⟨rb,4,none⟩ (.bool q)) (some rb) from ⟨(hm q hq).1,k14_o0.grownO (hm q hq).2 lt_o0,k14_o1.grownO (hm q hq).2 lt_o1,zAb g14 (hm q hq).2⟩))
   have f0:X.cell? ⟨a1,0,none⟩=some (.int .i64 K):=(k14_o1.cell 0).trans rfl
   clear hm HM HX HKV h14 g14 k14_o0 k14_o1
   obtain ⟨q0,hq0⟩:∃q,decide (K=0)=q:=⟨_,rfl⟩
   have i2:(K==0)=q0:=by rw [←hq0];by_cases e:K=0<;>simp [e]
   rw [hq0] at HZ
   clear hq0
   go_upto_region 8 with fail
   go_cut [29] (fun _ wv=>∃X:World,X=wv∧RX X rb F s2∧Blk X w.heap.size 32 #[.int .i64 0,.int .i64 0,.int .i64 0,.int .i64 0,.bool false,.int .i64 0,.slice none 0 0,.bool false]∧Blk X a1 32 #[.int .i64 K,.int .i64 0,.int .i64 0,.int .i64 0,.bool false,.int .i64 0,.slice none 0 0,.bool false]∧w.grownBy X (some rb))
   case first =>
    cases b<;>cases q0
    all_goals
     go_wp2_with fail
     go_meet
     case rel=>exact ⟨_,rfl,HZ.out _ rfl⟩
   case rest =>
    clear c4 z4 HZ f0 i2
    obtain ⟨X,hX,h15,k15_o0,k15_o1,g15⟩:=hcut
    subst hX
    go_wp2_with fail
    refine (H2.out X h15).mono ?_
    rintro e X16 ⟨rfl,h16,q16⟩
    have k16_o0:=k15_o0.grownO q16 lt_o0
    have k16_o1:=k15_o1.grownO q16 lt_o1
    have g16:=zAb g15 q16
    clear h15 g15 k15_o0 k15_o1 q16 H2
    go_wp2_with fail
    refine (H3.out X16 h16).mono ?_
    rintro e X17 ⟨rfl,h17,q17⟩
    have k17_o0:=k16_o0.grownO q17 lt_o0
    have k17_o1:=k16_o1.grownO q17 lt_o1
    have g17:=zAb g16 q17
    clear h16 g16 k16_o0 k16_o1 q17 H3
    have z18:=k17_o1.frozen 1
    have d18:X17.cell? ⟨a1,1,none⟩=some (.int .i64 0):=(k17_o1.cell 1).trans rfl
    have k18_o1:Blk (X17.setCell ⟨a1,1,none⟩ (.int .i64 (f:Int))) a1 32 #[.int .i64 K,.int .i64 (f:Int),.int .i64 0,.int .i64 0,.bool false,.int .i64 0,.slice none 0 0,.bool false]:=k17_o1.set_ 1 _
    have q18:Below (rb+1) X17 (X17.setCell ⟨a1,1,none⟩ (.int .i64 (f:Int))):=(Below.refl _ _).setCell (p:=⟨a1,1,none⟩) lt_o1 _
    have p18:Below w.heap.size X17 (X17.setCell ⟨a1,1,none⟩ (.int .i64 (f:Int))):=(Below.refl _ _).setCell (p:=⟨a1,1,none⟩) ge_o1 _
    have k18_o0:=k17_o0.far (p:=⟨a1,1,none⟩) (by simp only;omega) (.int .i64 (f:Int))
    have h18:=h17.over q18
    have g18:=zAd g17 p18
    clear h17 g17 k17_o0 k17_o1 q18 p18
    go_upto_region 10 with fail
    clear z18 d18
    generalize X17.setCell ⟨a1,1,none⟩ (.int .i64 (f:Int))=X9 at h18 g18 k18_o0 k18_o1 ⊢
    have HA:=Lib.hid (show RX X9 rb F s4∧Blk X9 w.heap.size 32 #[.int .i64 0,.int .i64 0,.int .i64 0,.int .i64 0,.bool false,.int .i64 0,.slice none 0 0,.bool false]∧Blk X9 a1 32 #[.int .i64 K,.int .i64 (f:Int),.int .i64 0,.int .i64 0,.bool false,.int .i64 0,.slice none 0 0,.bool false]∧w.grownBy X9 (some rb) from ⟨h18,k18_o0,k18_o1,g18⟩)
    clear h18 g18 k18_o0 k18_o1
    by_cases n4:K=4
    ·subst n4
     obtain ⟨h20,k20_o0,k20_o1,g20⟩:=HA.out
     clear HA
     have f0:X9.cell? ⟨a1,0,none⟩=some (.int .i64 4):=(k20_o1.cell 0).trans rfl
     obtain ⟨ov,eov⟩:∃x,ovT (xa s4.T 0)=x:=⟨_,rfl⟩
     obtain ⟨s5,e5⟩:∃x,s4.over=x:=⟨_,rfl⟩
     have HOV:=Lib.hid (fun wx (hx:RX wx rb F s4)=>zGO hx)
     simp only [eov,e5] at HOV
     have HE:=Lib.hid (show zBN F.L 4 f s4=(⟨4,f,s0,[],ov⟩,s5) by unfold zBN;rw [if_pos rfl,eov,e5])
     clear eov e5
     go_wp2_with fail
     clear f0
     refine (HOV.out X9 h20).mono ?_
     rintro e X21 ⟨rfl,h21,q21⟩
     have k21_o0:=k20_o0.grownO q21 lt_o0
     have k21_o1:=k20_o1.grownO q21 lt_o1
     have g21:=zAb g20 q21
     clear h20 g20 k20_o0 k20_o1 q21 HOV
     have z22:=k21_o1.frozen 7
     have d22:X21.cell? ⟨a1,7,none⟩=some (.bool false):=(k21_o1.cell 7).trans rfl
     have k22_o1:Blk (X21.setCell ⟨a1,7,none⟩ (.bool ov)) a1 32 #[.int .i64 4,.int .i64 (f:Int),.int .i64 0,.int .i64 0,.bool false,.int .i64 0,.slice none 0 0,.bool ov]:=k21_o1.set_ 7 _
     have q22:Below (rb+1) X21 (X21.setCell ⟨a1,7,none⟩ (.bool ov)):=(Below.refl _ _).setCell (p:=⟨a1,7,none⟩) lt_o1 _
     have p22:Below w.heap.size X21 (X21.setCell ⟨a1,7,none⟩ (.bool ov)):=(Below.refl _ _).setCell (p:=⟨a1,7,none⟩) ge_o1 _
     have k22_o0:=k21_o0.far (p:=⟨a1,7,none⟩) (by simp only;omega) (.bool ov)
     have h22:=h21.over q22
     have g22:=zAd g21 p22
     clear h21 g21 k21_o0 k21_o1 q22 p22
     go_upto_region 33 with fail
     clear z22 d22
     generalize X21.setCell ⟨a1,7,none⟩ (.bool ov)=X23 at h22 g22 k22_o0 k22_o1 ⊢
     have f0:X23.cell? ⟨a1,0,none⟩=some (.int .i64 4):=(k22_o1.cell 0).trans rfl
     have f1:X23.cell? ⟨a1,1,none⟩=some (.int .i64 (f:Int)):=(k22_o1.cell 1).trans rfl
     have f2:X23.cell? ⟨a1,2,none⟩=some (.int .i64 0):=(k22_o1.cell 2).trans rfl
     have f3:X23.cell? ⟨a1,3,none⟩=some (.int .i64 0):=(k22_o1.cell 3).trans rfl
     have f4:X23.cell? ⟨a1,4,none⟩=some (.bool false):=(k22_o1.cell 4).trans rfl
     have f5:X23.cell? ⟨a1,5,none⟩=some (.int .i64 0):=(k22_o1.cell 5).trans rfl
     have f6:X23.cell? ⟨a1,6,none⟩=some (.slice none 0 0):=(k22_o1.cell 6).trans rfl
     have f7:X23.cell? ⟨a1,7,none⟩=some (.bool ov):=(k22_o1.cell 7).trans rfl
     have y0:X23.cell? ⟨w.heap.size,0,none⟩=some (.int .i64 0):=(k22_o0.cell 0).trans rfl
     have yz0:=k22_o0.frozen 0
     have y1:X23.cell? ⟨w.heap.size,1,none⟩=some (.int .i64 0):=(k22_o0.cell 1).trans rfl
     have yz1:=k22_o0.frozen 1
     have y2:X23.cell? ⟨w.heap.size,2,none⟩=some (.int .i64 0):=(k22_o0.cell 2).trans rfl
     have yz2:=k22_o0.frozen 2
     have y3:X23.cell? ⟨w.heap.size,3,none⟩=some (.int .i64 0):=(k22_o0.cell 3).trans rfl
     have yz3:=k22_o0.frozen 3
     have y4:X23.cell? ⟨w.heap.size,4,none⟩=some (.bool false):=(k22_o0.cell 4).trans rfl
     have yz4:=k22_o0.frozen 4
     have y5:X23.cell? ⟨w.heap.size,5,none⟩=some (.int .i64 0):=(k22_o0.cell 5).trans rfl
     have yz5:=k22_o0.frozen 5
     have y6:X23.cell? ⟨w.heap.size,6,none⟩=some (.slice none 0 0):=(k22_o0.cell 6).trans rfl
     have yz6:=k22_o0.frozen 6
     have y7:X23.cell? ⟨w.heap.size,7,none⟩=some (.bool false):=(k22_o0.cell 7).trans rfl
     have yz7:=k22_o0.frozen 7
     have hS:=k22_o0.store8 (.int .i64 4) (.int .i64 (f:Int)) (.int .i64 0) (.int .i64 0) (.bool false) (.int .i64 0) (.slice none 0 0) (.bool ov)
     have bS:=zAf (Below.refl (rb+1) X23) (show rb+1≤w.heap.size from lt_o0) (.int .i64 4) (.int .i64 (f:Int)) (.int .i64 0) (.int .i64 0) (.bool false) (.int .i64 0) (.slice none 0 0) (.bool ov)
     have bSw:=zAf (Below.refl w.heap.size X23) ge_o0 (.int .i64 4) (.int .i64 (f:Int)) (.int .i64 0) (.int .i64 0) (.bool false) (.int .i64 0) (.slice none 0 0) (.bool ov)
     have hX:=h22.over bS
     have gX:=zAd g22 bSw
     go_wp2_with fail
     exact zAF rfl rfl hS Tryz.underlying32 rfl (by kernel_rfl) rfl (GIV.out ⟨4,f,s0,[],ov⟩ s5 HE.out _ none 0 0 (Row.none_ _ _ _) rfl hX gX)
    by_cases n5:K=5
    ·subst n5
     obtain ⟨h25,k25_o0,k25_o1,g25⟩:=HA.out
     clear HA
     have f0:X9.cell? ⟨a1,0,none⟩=some (.int .i64 5):=(k25_o1.cell 0).trans rfl
     obtain ⟨s5,e5⟩:∃x,s4.must zAM=x:=⟨_,rfl⟩
     obtain ⟨⟨xf,xl,xfar,xpc⟩,ex⟩:∃x,(zAN F.L s5).1=x:=⟨_,rfl⟩
     obtain ⟨s6,e6⟩:∃x,(zAN F.L s5).2=x:=⟨_,rfl⟩
     obtain ⟨ov,eov⟩:∃x,ovT (xa s6.T 0)=x:=⟨_,rfl⟩
     obtain ⟨s7,e7⟩:∃x,s6.over=x:=⟨_,rfl⟩
     have HPL:=Lib.hid (fun wx (hx:RX wx rb F s5)=>zDK rb F s5 wx hx)
     simp only [ex,e6] at HPL
     have HOV:=Lib.hid (fun wx (hx:RX wx rb F s6)=>zGO hx)
     simp only [eov,e7] at HOV
     have HE:=Lib.hid (show zBN F.L 5 f s4=(⟨5,f,⟨xf,xl,xfar,xpc⟩,[],ov⟩,s7) by unfold zBN;rw [if_neg (by omega),if_neg (by omega),if_pos rfl,e5,ex,e6,eov,e7])
     have E5:=Lib.hid e5
     clear eov e5 ex e6 e7
     go_upto_region 22 with fail
     go_cut [91] (fun _ wv=>∃X:World,X=wv∧RX X rb F s5∧Blk X w.heap.size 32 #[.int .i64 0,.int .i64 0,.int .i64 0,.int .i64 0,.bool false,.int .i64 0,.slice none 0 0,.bool false]∧Blk X a1 32 #[.int .i64 5,.int .i64 (f:Int),.int .i64 0,.int .i64 0,.bool false,.int .i64 0,.slice none 0 0,.bool false]∧w.grownBy X (some rb))
     case first =>
      cases hb:s4.bad with
      | true =>
       have c4:X9.cell? ⟨rb,4,none⟩=some (.bool true):=by rw [←hb];exact h25.bad4.1
       have z4:=h25.bad4.2
       have hm:=h25.marked false true (by rw [hb];rfl)
       have HZ:=Lib.hid (show RX (X9.setCell ⟨rb,4,none⟩ (.bool true)) rb F s5∧Blk (X9.setCell ⟨rb,4,none⟩ (.bool true)) w.heap.size 32 #[.int .i64 0,.int .i64 0,.int .i64 0,.int .i64 0,.bool false,.int .i64 0,.slice none 0 0,.bool false]∧Blk (X9.setCell ⟨rb,4,none⟩ (.bool true)) a1 32 #[.int .i64 5,.int .i64 (f:Int),.int .i64 0,.int .i64 0,.bool false,.int .i64 0,.slice none 0 0,.bool false]∧w.grownBy (X9.setCell ⟨rb,4,none⟩ (.bool true)) (some rb) from ⟨by rw [←E5.out,zEX zAM hb];exact hm.1,k25_o0.grownO hm.2 lt_o0,k25_o1.grownO hm.2 lt_o1,zAb g25 hm.2⟩)
       clear hm hb h25 g25 k25_o0 k25_o1
       go_wp2_with fail
       go_meet
       case rel=>exact ⟨_,rfl,HZ.out⟩
      | false =>
       obtain ⟨ib,eib⟩:∃b,isB s4.T zAM=b:=⟨_,rfl⟩
       have c4:X9.cell? ⟨rb,4,none⟩=some (.bool false):=by rw [←hb];exact h25.bad4.1
       have z4:=h25.bad4.2
       have HI:=Lib.hid (rx_is h25 zAM)
       rw [eib] at HI
       have HE:=Lib.hid (show (s4.is zAM).mark (!ib)=s5 by rw [←E5.out,zEa zAM hb,eib])
       have HB:=Lib.hid hb
       clear eib hb
       go_wp2_with fail
       refine HI.out.mono ?_
       rintro e Y ⟨rfl,hy,qy⟩
       have ky27_o0:=k25_o0.grownO qy lt_o0
       have ky27_o1:=k25_o1.grownO qy lt_o1
       have gy27:=zAb g25 qy
       have c5:Y.cell? ⟨rb,4,none⟩=some (.bool false):=by rw [←HB.out];exact hy.bad4.1
       have z5:=hy.bad4.2
       have hm:=fun q (hq:q = !ib)=>hy.marked (!ib) q (by rw [show (s4.is zAM).bad=false from HB.out];exact hq)
       have HZ:=Lib.hid (fun (q:Bool) (hq:q = !ib)=>(show RX (Y.setCell ⟨rb,4,none⟩ (.bool q)) rb F s5∧Blk (Y.setCell ⟨rb,4,none⟩ (.bool q)) w.heap.size 32 #[.int .i64 0,.int .i64 0,.int .i64 0,.int .i64 0,.bool false,.int .i64 0,.slice none 0 0,.bool false]∧Blk (Y.setCell ⟨rb,4,none⟩ (.bool q)) a1 32 #[.int .i64 5,.int .i64 (f:Int),.int .i64 0,.int .i64 0,.bool false,.int .i64 0,.slice none 0 0,.bool false]∧w.grownBy (Y.setCell ⟨rb,4,none⟩ (.bool q)) (some rb) from ⟨by rw [←HE.out];exact (hm q hq).1,ky27_o0.grownO (hm q hq).2 lt_o0,ky27_o1.grownO (hm q hq).2 lt_o1,zAb gy27 (hm q hq).2⟩))
       clear hm qy HI HE HB c4 z4 hy gy27 ky27_o0 ky27_o1 h25 g25 k25_o0 k25_o1
       cases ib
       all_goals
        go_wp2_with fail
        go_meet
        case rel=>exact ⟨_,rfl,HZ.out _ rfl⟩
     case rest =>
      clear h25 g25 k25_o0 k25_o1
      obtain ⟨X28,hX,h29,k29_o0,k29_o1,g29⟩:=hcut
      subst hX
      clear f0 E5
      go_wp2_with fail
      refine (HPL.out X28 h29).mono ?_
      rintro e X30 ⟨rfl,h30,q30⟩
      have k30_o0:=k29_o0.grownO q30 lt_o0
      have k30_o1:=k29_o1.grownO q30 lt_o1
      have g30:=zAb g29 q30
      clear h29 g29 k29_o0 k29_o1 q30 HPL
      have z31_0:=k30_o1.frozen 2
      have d31_0:X30.cell? ⟨a1,2,none⟩=some (.int .i64 0):=(k30_o1.cell 2).trans rfl
      have z31_1:=k30_o1.frozen 3
      have d31_1:X30.cell? ⟨a1,3,none⟩=some (.int .i64 0):=(k30_o1.cell 3).trans rfl
      have z31_2:=k30_o1.frozen 4
      have d31_2:X30.cell? ⟨a1,4,none⟩=some (.bool false):=(k30_o1.cell 4).trans rfl
      have z31_3:=k30_o1.frozen 5
      have d31_3:X30.cell? ⟨a1,5,none⟩=some (.int .i64 0):=(k30_o1.cell 5).trans rfl
      have k31_0:Blk (X30.setCell ⟨a1,2,none⟩ (.int .i64 xf)) a1 32 #[.int .i64 5,.int .i64 (f:Int),.int .i64 xf,.int .i64 0,.bool false,.int .i64 0,.slice none 0 0,.bool false]:=k30_o1.set_ 2 _
      have q31_0:Below (rb+1) X30 (X30.setCell ⟨a1,2,none⟩ (.int .i64 xf)):=(Below.refl _ _).setCell (p:=⟨a1,2,none⟩) lt_o1 _
      have p31_0:Below w.heap.size X30 (X30.setCell ⟨a1,2,none⟩ (.int .i64 xf)):=(Below.refl _ _).setCell (p:=⟨a1,2,none⟩) ge_o1 _
      have o31_0_o0:=k30_o0.far (p:=⟨a1,2,none⟩) (by simp only;omega) (.int .i64 xf)
      have k31_1:Blk ((X30.setCell ⟨a1,2,none⟩ (.int .i64 xf)).setCell ⟨a1,3,none⟩ (.int .i64 xl)) a1 32 #[.int .i64 5,.int .i64 (f:Int),.int .i64 xf,.int .i64 xl,.bool false,.int .i64 0,.slice none 0 0,.bool false]:=k31_0.set_ 3 _
      have q31_1:Below (rb+1) X30 ((X30.setCell ⟨a1,2,none⟩ (.int .i64 xf)).setCell ⟨a1,3,none⟩ (.int .i64 xl)):=q31_0.setCell (p:=⟨a1,3,none⟩) lt_o1 _
      have p31_1:Below w.heap.size X30 ((X30.setCell ⟨a1,2,none⟩ (.int .i64 xf)).setCell ⟨a1,3,none⟩ (.int .i64 xl)):=p31_0.setCell (p:=⟨a1,3,none⟩) ge_o1 _
      have o31_1_o0:=o31_0_o0.far (p:=⟨a1,3,none⟩) (by simp only;omega) (.int .i64 xl)
      have k31_2:Blk (((X30.setCell ⟨a1,2,none⟩ (.int .i64 xf)).setCell ⟨a1,3,none⟩ (.int .i64 xl)).setCell ⟨a1,4,none⟩ (.bool xfar)) a1 32 #[.int .i64 5,.int .i64 (f:Int),.int .i64 xf,.int .i64 xl,.bool xfar,.int .i64 0,.slice none 0 0,.bool false]:=k31_1.set_ 4 _
      have q31_2:Below (rb+1) X30 (((X30.setCell ⟨a1,2,none⟩ (.int .i64 xf)).setCell ⟨a1,3,none⟩ (.int .i64 xl)).setCell ⟨a1,4,none⟩ (.bool xfar)):=q31_1.setCell (p:=⟨a1,4,none⟩) lt_o1 _
      have p31_2:Below w.heap.size X30 (((X30.setCell ⟨a1,2,none⟩ (.int .i64 xf)).setCell ⟨a1,3,none⟩ (.int .i64 xl)).setCell ⟨a1,4,none⟩ (.bool xfar)):=p31_1.setCell (p:=⟨a1,4,none⟩) ge_o1 _
      have o31_2_o0:=o31_1_o0.far (p:=⟨a1,4,none⟩) (by simp only;omega) (.bool xfar)
      have k31_3:Blk ((((X30.setCell ⟨a1,2,none⟩ (.int .i64 xf)).setCell ⟨a1,3,none⟩ (.int .i64 xl)).setCell ⟨a1,4,none⟩ (.bool xfar)).setCell ⟨a1,5,none⟩ (.int .i64 xpc)) a1 32 #[.int .i64 5,.int .i64 (f:Int),.int .i64 xf,.int .i64 xl,.bool xfar,.int .i64 xpc,.slice none 0 0,.bool false]:=k31_2.set_ 5 _
      have q31_3:Below (rb+1) X30 ((((X30.setCell ⟨a1,2,none⟩ (.int .i64 xf)).setCell ⟨a1,3,none⟩ (.int .i64 xl)).setCell ⟨a1,4,none⟩ (.bool xfar)).setCell ⟨a1,5,none⟩ (.int .i64 xpc)):=q31_2.setCell (p:=⟨a1,5,none⟩) lt_o1 _
      have p31_3:Below w.heap.size X30 ((((X30.setCell ⟨a1,2,none⟩ (.int .i64 xf)).setCell ⟨a1,3,none⟩ (.int .i64 xl)).setCell ⟨a1,4,none⟩ (.bool xfar)).setCell ⟨a1,5,none⟩ (.int .i64 xpc)):=p31_2.setCell (p:=⟨a1,5,none⟩) ge_o1 _
      have o31_3_o0:=o31_2_o0.far (p:=⟨a1,5,none⟩) (by simp only;omega) (.int .i64 xpc)
      have h31:=h30.over q31_3
      have g31:=zAd g30 p31_3
      clear h30 g30 k30_o0 k30_o1 q31_0 p31_0 k31_0 o31_0_o0 q31_1 p31_1 k31_1 o31_1_o0 q31_2 p31_2 k31_2 o31_2_o0 q31_3 p31_3
      go_wp2_with fail
      clear z31_0 d31_0 z31_1 d31_1 z31_2 d31_2 z31_3 d31_3
      generalize ((((X30.setCell ⟨a1,2,none⟩ (.int .i64 xf)).setCell ⟨a1,3,none⟩ (.int .i64 xl)).setCell ⟨a1,4,none⟩ (.bool xfar)).setCell ⟨a1,5,none⟩ (.int .i64 xpc))=X32 at h31 g31 o31_3_o0 k31_3 ⊢
      refine (HOV.out X32 h31).mono ?_
      rintro e X33 ⟨rfl,h33,q33⟩
      have k33_o0:=o31_3_o0.grownO q33 lt_o0
      have k33_o1:=k31_3.grownO q33 lt_o1
      have g33:=zAb g31 q33
      clear h31 g31 o31_3_o0 k31_3 q33 HOV
      have z34:=k33_o1.frozen 7
      have d34:X33.cell? ⟨a1,7,none⟩=some (.bool false):=(k33_o1.cell 7).trans rfl
      have k34_o1:Blk (X33.setCell ⟨a1,7,none⟩ (.bool ov)) a1 32 #[.int .i64 5,.int .i64 (f:Int),.int .i64 xf,.int .i64 xl,.bool xfar,.int .i64 xpc,.slice none 0 0,.bool ov]:=k33_o1.set_ 7 _
      have q34:Below (rb+1) X33 (X33.setCell ⟨a1,7,none⟩ (.bool ov)):=(Below.refl _ _).setCell (p:=⟨a1,7,none⟩) lt_o1 _
      have p34:Below w.heap.size X33 (X33.setCell ⟨a1,7,none⟩ (.bool ov)):=(Below.refl _ _).setCell (p:=⟨a1,7,none⟩) ge_o1 _
      have k34_o0:=k33_o0.far (p:=⟨a1,7,none⟩) (by simp only;omega) (.bool ov)
      have h34:=h33.over q34
      have g34:=zAd g33 p34
      clear h33 g33 k33_o0 k33_o1 q34 p34
      go_upto_region 33 with fail
      clear z34 d34
      generalize X33.setCell ⟨a1,7,none⟩ (.bool ov)=X35 at h34 g34 k34_o0 k34_o1 ⊢
      have f0:X35.cell? ⟨a1,0,none⟩=some (.int .i64 5):=(k34_o1.cell 0).trans rfl
      have f1:X35.cell? ⟨a1,1,none⟩=some (.int .i64 (f:Int)):=(k34_o1.cell 1).trans rfl
      have f2:X35.cell? ⟨a1,2,none⟩=some (.int .i64 xf):=(k34_o1.cell 2).trans rfl
      have f3:X35.cell? ⟨a1,3,none⟩=some (.int .i64 xl):=(k34_o1.cell 3).trans rfl
      have f4:X35.cell? ⟨a1,4,none⟩=some (.bool xfar):=(k34_o1.cell 4).trans rfl
      have f5:X35.cell? ⟨a1,5,none⟩=some (.int .i64 xpc):=(k34_o1.cell 5).trans rfl
      have f6:X35.cell? ⟨a1,6,none⟩=some (.slice none 0 0):=(k34_o1.cell 6).trans rfl
      have f7:X35.cell? ⟨a1,7,none⟩=some (.bool ov):=(k34_o1.cell 7).trans rfl
      have y0:X35.cell? ⟨w.heap.size,0,none⟩=some (.int .i64 0):=(k34_o0.cell 0).trans rfl
      have yz0:=k34_o0.frozen 0
      have y1:X35.cell? ⟨w.heap.size,1,none⟩=some (.int .i64 0):=(k34_o0.cell 1).trans rfl
      have yz1:=k34_o0.frozen 1
      have y2:X35.cell? ⟨w.heap.size,2,none⟩=some (.int .i64 0):=(k34_o0.cell 2).trans rfl
      have yz2:=k34_o0.frozen 2
      have y3:X35.cell? ⟨w.heap.size,3,none⟩=some (.int .i64 0):=(k34_o0.cell 3).trans rfl
      have yz3:=k34_o0.frozen 3
      have y4:X35.cell? ⟨w.heap.size,4,none⟩=some (.bool false):=(k34_o0.cell 4).trans rfl
      have yz4:=k34_o0.frozen 4
      have y5:X35.cell? ⟨w.heap.size,5,none⟩=some (.int .i64 0):=(k34_o0.cell 5).trans rfl
      have yz5:=k34_o0.frozen 5
      have y6:X35.cell? ⟨w.heap.size,6,none⟩=some (.slice none 0 0):=(k34_o0.cell 6).trans rfl
      have yz6:=k34_o0.frozen 6
      have y7:X35.cell? ⟨w.heap.size,7,none⟩=some (.bool false):=(k34_o0.cell 7).trans rfl
      have yz7:=k34_o0.frozen 7
      have hS:=k34_o0.store8 (.int .i64 5) (.int .i64 (f:Int)) (.int .i64 xf) (.int .i64 xl) (.bool xfar) (.int .i64 xpc) (.slice none 0 0) (.bool ov)
      have bS:=zAf (Below.refl (rb+1) X35) (show rb+1≤w.heap.size from lt_o0) (.int .i64 5) (.int .i64 (f:Int)) (.int .i64 xf) (.int .i64 xl) (.bool xfar) (.int .i64 xpc) (.slice none 0 0) (.bool ov)
      have bSw:=zAf (Below.refl w.heap.size X35) ge_o0 (.int .i64 5) (.int .i64 (f:Int)) (.int .i64 xf) (.int .i64 xl) (.bool xfar) (.int .i64 xpc) (.slice none 0 0) (.bool ov)
      have hX:=h34.over bS
      have gX:=zAd g34 bSw
      go_wp2_with fail
      exact zAF rfl rfl hS Tryz.underlying32 rfl (by kernel_rfl) rfl (GIV.out ⟨5,f,⟨xf,xl,xfar,xpc⟩,[],ov⟩ s7 HE.out _ none 0 0 (Row.none_ _ _ _) rfl hX gX)
    by_cases n6:K=6
    ·subst n6
     exact absurd HW.out (by omega)
    by_cases n7:K=7
    ·subst n7
     exact absurd HW.out (by omega)
    by_cases n3:K=3
    ·subst n3
     exact absurd HW.out (by omega)
    obtain ⟨h37,k37_o0,k37_o1,g37⟩:=HA.out
    clear HA
    have m3:(K==3)=false:=by simpa using n3
    have m4:(K==4)=false:=by simpa using n4
    have m5:(K==5)=false:=by simpa using n5
    have m6:(K==6)=false:=by simpa using n6
    have m7:(K==7)=false:=by simpa using n7
    have HE:=Lib.hid (show zBN F.L K f s4=(⟨K,f,s0,[],false⟩,s4) by unfold zBN;rw [if_neg n4,if_neg n3,if_neg n5,if_neg n6,if_neg n7])
    clear n3 n4 n5 n6 n7
    have f0:X9.cell? ⟨a1,0,none⟩=some (.int .i64 K):=(k37_o1.cell 0).trans rfl
    go_upto_region 33 with fail
    clear f0
    have f0:X9.cell? ⟨a1,0,none⟩=some (.int .i64 K):=(k37_o1.cell 0).trans rfl
    have f1:X9.cell? ⟨a1,1,none⟩=some (.int .i64 (f:Int)):=(k37_o1.cell 1).trans rfl
    have f2:X9.cell? ⟨a1,2,none⟩=some (.int .i64 0):=(k37_o1.cell 2).trans rfl
    have f3:X9.cell? ⟨a1,3,none⟩=some (.int .i64 0):=(k37_o1.cell 3).trans rfl
    have f4:X9.cell? ⟨a1,4,none⟩=some (.bool false):=(k37_o1.cell 4).trans rfl
    have f5:X9.cell? ⟨a1,5,none⟩=some (.int .i64 0):=(k37_o1.cell 5).trans rfl
    have f6:X9.cell? ⟨a1,6,none⟩=some (.slice none 0 0):=(k37_o1.cell 6).trans rfl
    have f7:X9.cell? ⟨a1,7,none⟩=some (.bool false):=(k37_o1.cell 7).trans rfl
    have y0:X9.cell? ⟨w.heap.size,0,none⟩=some (.int .i64 0):=(k37_o0.cell 0).trans rfl
    have yz0:=k37_o0.frozen 0
    have y1:X9.cell? ⟨w.heap.size,1,none⟩=some (.int .i64 0):=(k37_o0.cell 1).trans rfl
    have yz1:=k37_o0.frozen 1
    have y2:X9.cell? ⟨w.heap.size,2,none⟩=some (.int .i64 0):=(k37_o0.cell 2).trans rfl
    have yz2:=k37_o0.frozen 2
    have y3:X9.cell? ⟨w.heap.size,3,none⟩=some (.int .i64 0):=(k37_o0.cell 3).trans rfl
    have yz3:=k37_o0.frozen 3
    have y4:X9.cell? ⟨w.heap.size,4,none⟩=some (.bool false):=(k37_o0.cell 4).trans rfl
    have yz4:=k37_o0.frozen 4
    have y5:X9.cell? ⟨w.heap.size,5,none⟩=some (.int .i64 0):=(k37_o0.cell 5).trans rfl
    have yz5:=k37_o0.frozen 5
    have y6:X9.cell? ⟨w.heap.size,6,none⟩=some (.slice none 0 0):=(k37_o0.cell 6).trans rfl
    have yz6:=k37_o0.frozen 6
    have y7:X9.cell? ⟨w.heap.size,7,none⟩=some (.bool false):=(k37_o0.cell 7).trans rfl
    have yz7:=k37_o0.frozen 7
    have hS:=k37_o0.store8 (.int .i64 K) (.int .i64 (f:Int)) (.int .i64 0) (.int .i64 0) (.bool false) (.int .i64 0) (.slice none 0 0) (.bool false)
    have bS:=zAf (Below.refl (rb+1) X9) (show rb+1≤w.heap.size from lt_o0) (.int .i64 K) (.int .i64 (f:Int)) (.int .i64 0) (.int .i64 0) (.bool false) (.int .i64 0) (.slice none 0 0) (.bool false)
    have bSw:=zAf (Below.refl w.heap.size X9) ge_o0 (.int .i64 K) (.int .i64 (f:Int)) (.int .i64 0) (.int .i64 0) (.bool false) (.int .i64 0) (.slice none 0 0) (.bool false)
    have hX:=h37.over bS
    have gX:=zAd g37 bSw
    go_wp2_with fail
    exact zAF rfl rfl hS Tryz.underlying32 rfl (by kernel_rfl) rfl (GIV.out ⟨K,f,s0,[],false⟩ s4 HE.out _ none 0 0 (Row.none_ _ _ _) rfl hX gX)
end Go.Proofs.YtlmdfmnbcndhoaaGreatDoor
