/-
  Lemmas, part 17. Conditions: each theorem's own.
-/
import Derived.Test.YtlmdfmnbcndhoaaGreatDoorRi15
import Derived.Test.YtlmdfmnbcndhoaaGreatDoorRi14
namespace Go.Proofs.YtlmdfmnbcndhoaaGreatDoor
open Go.RowKit
set_option maxHeartbeats 12800000 in
set_option maxRecDepth 100000 in
theorem zLe (rb:Nat) (F:Fm) (s:RS) (w:World) (h:RX w rb F s) (hT:s.T.length≤100000) (hw:zBx (xa s.T 0)=6∨zBx (xa s.T 0)=7) :
  Calls Tryz.prog 98 #[.pointer (some ⟨rb,0,none⟩)] w (zEk w rb F (opR F.L s).1 (opR F.L s).2):=by
 obtain ⟨S0,eS0⟩:∃S,xa s.T 0=S:=⟨_,rfl⟩
 obtain ⟨s1,e1⟩:∃x,s.next=x:=⟨_,rfl⟩
 obtain ⟨K,eK⟩:∃x,zBx S0=x:=⟨_,rfl⟩
 obtain ⟨s2,e2⟩:∃x,s1.mark (decide (K=0))=x:=⟨_,rfl⟩
 obtain ⟨S1,eS1⟩:∃S,xa s2.T 0=S:=⟨_,rfl⟩
 obtain ⟨s3,e3⟩:∃x,s2.next=x:=⟨_,rfl⟩
 obtain ⟨s4,e4⟩:∃x,s3.fing F.L S1=x:=⟨_,rfl⟩
 obtain ⟨f,efi⟩:∃x,zDg F.L S1=x:=⟨_,rfl⟩
 obtain ⟨b,eb⟩:∃b,s1.bad=b:=⟨_,rfl⟩
 have hT1:xa s.T.tail 0=S1:=by rw [←eS1,←e2,←e1];rfl
 have hT4:s4.T.length≤100000:=by
  rw [←e4,←e3,←e2,←e1];simp only [RS.fing,RS.next,RS.mark,List.length_tail];omega
 have HR:=qH (show opR F.L s=zBF F.L K f s4 by
  have hp:zEI F.L s=s4:=by
   unfold zEI
   rw [eS0,hT1,e1,eK,e2,e3,e4]
  unfold opR
  rw [hp,eS0,hT1,eK,efi])
 have hK:0≤K∧K≤8:=by
  by_cases e:K=0
  ·omega
  ·have:=zGP (v:=S0) (by rw [eK];exact e);rw [eK] at this;omega
 have HKV:=qH (fun (k:Nat) (h1:1≤k) (h8:k≤8)=>(show ((bA (zAT (k:Int))).toList==(bA S0).toList)=decide (K=(k:Int)) by
  rw [zAs,zAs,←eK];exact zFt h1 h8 S0))
 have H1:=qH (fun wx (hx:RX wx rb F s)=>zCq hx);have H2:=qH (fun wx (hx:RX wx rb F s2)=>zCq hx);have H3:=qH (fun wx (hx:RX wx rb F s3)=>zCr hx S1)
 have HM:=qH (fun wx (hx:RX wx rb F s1)=>(show wx.cell? ⟨rb,4,none⟩=some (.bool b)∧wx.frozen? ⟨rb,4,none⟩=false∧∀q,q=(b||decide (K=0))→RX (wx.setCell ⟨rb,4,none⟩ (.bool q)) rb F s2∧wx.grownBy (wx.setCell ⟨rb,4,none⟩ (.bool q)) (some rb) from
  ⟨by rw [←eb];exact hx.bad4.1,hx.bad4.2,fun q hq=>by rw [←e2];exact hx.marked (decide (K=0)) q (by rw [eb];exact hq)⟩))
 simp only [eS0,e1] at H1;simp only [eS1,e3] at H2;simp only [efi,e4] at H3;rw [HR.out];have HW:Hid (K=6∨K=7):=qH (by rw [←eK,←eS0];exact hw);have hlt:=h.lt;have bst:=zJU
 have GIV:=qH (fun (o:Og) (st:RS) (he:zBF F.L K f s4=(o,st)) (wx:World) (B:Option Addr) (m d:Nat) (hrow:Row wx w.heap.size 5 B m d (o.path.flatMap zCj)) (hm:m=o.path.length) (hx:RX wx rb F st) (hg:w.grownBy wx (some rb)) =>
  (show zEk w rb F (zBF F.L K f s4).1 (zBF F.L K f s4).2 (.returned (opV o B m d)) wx from by rw [he];exact ⟨B,m,d,rfl,hrow,hm,hx,hg⟩))
 clear eS0 e1 e2 eS1 e3 e4 efi eb eK hT1 HR hT hw;have b1:Below w.heap.size w ((w.alloc (.cells #[.int .i64 0,.int .i64 0,.int .i64 0,.int .i64 0,.bool false,.int .i64 0,.slice none 0 0,.bool false] 32)).alloc (.cells #[.int .i64 0,.int .i64 0,.int .i64 0,.int .i64 0,.bool false,.int .i64 0,.slice none 0 0,.bool false] 32)):=((Below.refl _ _).alloc (Nat.le_refl _) _).alloc (by simp) _;have k1_o0:Blk ((w.alloc (.cells #[.int .i64 0,.int .i64 0,.int .i64 0,.int .i64 0,.bool false,.int .i64 0,.slice none 0 0,.bool false] 32)).alloc (.cells #[.int .i64 0,.int .i64 0,.int .i64 0,.int .i64 0,.bool false,.int .i64 0,.slice none 0 0,.bool false] 32)) w.heap.size 32 #[.int .i64 0,.int .i64 0,.int .i64 0,.int .i64 0,.bool false,.int .i64 0,.slice none 0 0,.bool false]:=(Blk.new w _ _).alloc _;have k1_o1:Blk ((w.alloc (.cells #[.int .i64 0,.int .i64 0,.int .i64 0,.int .i64 0,.bool false,.int .i64 0,.slice none 0 0,.bool false] 32)).alloc (.cells #[.int .i64 0,.int .i64 0,.int .i64 0,.int .i64 0,.bool false,.int .i64 0,.slice none 0 0,.bool false] 32)) (w.heap.size+1) 32 #[.int .i64 0,.int .i64 0,.int .i64 0,.int .i64 0,.bool false,.int .i64 0,.slice none 0 0,.bool false]:=by have:=Blk.new (w.alloc (.cells #[.int .i64 0,.int .i64 0,.int .i64 0,.int .i64 0,.bool false,.int .i64 0,.slice none 0 0,.bool false] 32)) 32 #[.int .i64 0,.int .i64 0,.int .i64 0,.int .i64 0,.bool false,.int .i64 0,.slice none 0 0,.bool false];rwa [World.size_alloc] at this
 have h1:=h.below b1;have g1:w.grownBy ((w.alloc (.cells #[.int .i64 0,.int .i64 0,.int .i64 0,.int .i64 0,.bool false,.int .i64 0,.slice none 0 0,.bool false] 32)).alloc (.cells #[.int .i64 0,.int .i64 0,.int .i64 0,.int .i64 0,.bool false,.int .i64 0,.slice none 0 0,.bool false] 32)) (some rb):=zAv b1;have lt_o0:rb < w.heap.size:=hlt;have lt_o1:rb < w.heap.size+1:=by omega
 have ge_o0:w.heap.size≤w.heap.size:=Nat.le_refl _;have ge_o1:w.heap.size≤w.heap.size+1:=by omega
 clear h b1;obtain ⟨a1,ha1⟩:∃a,a=w.heap.size+1:=⟨_,rfl⟩
 have HA1:=qH ha1;have lt_o0_o1:w.heap.size < a1:=by omega
 go_enter Tryz.func98,Tryz.ntmps98;go_wp2_with fail
 generalize ((w.alloc (.cells #[.int .i64 0,.int .i64 0,.int .i64 0,.int .i64 0,.bool false,.int .i64 0,.slice none 0 0,.bool false] 32)).alloc (.cells #[.int .i64 0,.int .i64 0,.int .i64 0,.int .i64 0,.bool false,.int .i64 0,.slice none 0 0,.bool false] 32))=X1 at k1_o0 k1_o1 h1 g1 ⊢;rw [←ha1] at k1_o1 lt_o1 ge_o1 ⊢;clear ha1;refine (H1.out X1 h1).mono ?_;rintro e X11 ⟨rfl,h11,q11⟩;have k11_o0:=k1_o0.grownO q11 lt_o0;have k11_o1:=k1_o1.grownO q11 lt_o1;have g11:=zAb g1 q11;clear h1 g1 k1_o0 k1_o1 q11 H1;go_wp2_with fail
 go_loopw [5] (fun v wv=>∃(k:Nat) (X:World),X=wv∧1≤k∧k≤9∧v=.int .i64 k∧Hid (RX X rb F s1∧Blk X w.heap.size 32 #[.int .i64 0,.int .i64 0,.int .i64 0,.int .i64 0,.bool false,.int .i64 0,.slice none 0 0,.bool false]∧Blk X a1 32 #[.int .i64 (kTo K k),.int .i64 0,.int .i64 0,.int .i64 0,.bool false,.int .i64 0,.slice none 0 0,.bool false]∧w.grownBy X (some rb))) (fun v _=>9-(intOf v).toNat)
 case atStart=>exact ⟨1,_,rfl,by omega,by omega,rfl,qH (by rw [show kTo K 1=0 from by unfold kTo;split<;>omega];exact ⟨h11,k11_o0,k11_o1,g11⟩)⟩
 case round =>
  clear h11 g11 k11_o0 k11_o1;obtain ⟨k,X,hX,hk1,hk9,rfl,HX⟩:=hrel;subst hX;by_cases hk:k≤8
  ·have i1:(k:Int)≤8:=by omega
   have n0:=HKV.out k hk1 hk;by_cases hq:K=(k:Int)
   ·obtain ⟨h12,k12_o0,k12_o1,g12⟩:=HX.out;rw [decide_eq_true hq] at n0;have z13:=k12_o1.frozen 0;have d13:X.cell? ⟨a1,0,none⟩=some (.int .i64 (kTo K k)):=(k12_o1.cell 0).trans rfl;have k13_o1:Blk (X.setCell ⟨a1,0,none⟩ (.int .i64 (k:Int))) a1 32 #[.int .i64 (k:Int),.int .i64 0,.int .i64 0,.int .i64 0,.bool false,.int .i64 0,.slice none 0 0,.bool false]:=k12_o1.set_ 0 _;have q13:Below (rb+1) X (X.setCell ⟨a1,0,none⟩ (.int .i64 (k:Int))):=(Below.refl _ _).setCell (p:=⟨a1,0,none⟩) lt_o1 _;have p13:Below w.heap.size X (X.setCell ⟨a1,0,none⟩ (.int .i64 (k:Int))):=(Below.refl _ _).setCell (p:=⟨a1,0,none⟩) ge_o1 _;have k13_o0:=k12_o0.far (p:=⟨a1,0,none⟩) (by simp only;omega) (.int .i64 (k:Int));have h13:=h12.over q13;have g13:=zAc g12 p13;clear h12 g12 k12_o0 k12_o1 q13 p13;have HF:=qH (show kTo K (k+1)=(k:Int) by unfold kTo;rw [if_pos (by omega)];exact hq);have HZ:=qH (show RX (X.setCell ⟨a1,0,none⟩ (.int .i64 (k:Int))) rb F s1∧Blk (X.setCell ⟨a1,0,none⟩ (.int .i64 (k:Int))) w.heap.size 32 #[.int .i64 0,.int .i64 0,.int .i64 0,.int .i64 0,.bool false,.int .i64 0,.slice none 0 0,.bool false]∧Blk (X.setCell ⟨a1,0,none⟩ (.int .i64 (k:Int))) a1 32 #[.int .i64 (k:Int),.int .i64 0,.int .i64 0,.int .i64 0,.bool false,.int .i64 0,.slice none 0 0,.bool false]∧w.grownBy (X.setCell ⟨a1,0,none⟩ (.int .i64 (k:Int))) (some rb) from ⟨h13,k13_o0,k13_o1,g13⟩);clear HX hq h13 g13 k13_o0 k13_o1;go_wp2_with (first | (go_at_call 106;refine (zBM (k:Int) (by omega) (by omega) _).mono ?_;rintro e wq ⟨rfl,rfl⟩))
    go_roundw
    case rel=>exact ⟨k+1,_,rfl,by omega,by omega,by go_num,qH (by rw [HF.out];exact HZ.out)⟩
    case measure=>simp [intOf];omega
   ·rw [decide_eq_false hq] at n0;have HF:=qH (show kTo K (k+1)=kTo K k by unfold kTo;split<;>split<;>omega);clear hq;go_wp2_with (first | (go_at_call 106;refine (zBM (k:Int) (by omega) (by omega) _).mono ?_;rintro e wq ⟨rfl,rfl⟩))
    go_roundw
    case rel=>exact ⟨k+1,_,rfl,by omega,by omega,by go_num,qH (by rw [HF.out];exact HX.out)⟩
    case measure=>simp [intOf];omega
  ·have i1:¬(k:Int)≤8:=by omega
   obtain ⟨h14,k14_o0,k14_o1,g14⟩:=HX.out;rw [show kTo K k=K from by unfold kTo;rw [if_pos (by omega)]] at k14_o1;obtain ⟨c4,z4,hm⟩:=HM.out X h14;have HZ:=qH (fun (q:Bool) hq=>(show RX (X.setCell ⟨rb,4,none⟩ (.bool q)) rb F s2∧Blk (X.setCell ⟨rb,4,none⟩ (.bool q)) w.heap.size 32 #[.int .i64 0,.int .i64 0,.int .i64 0,.int .i64 0,.bool false,.int .i64 0,.slice none 0 0,.bool false]∧Blk (X.setCell ⟨rb,4,none⟩ (.bool q)) a1 32 #[.int .i64 K,.int .i64 0,.int .i64 0,.int .i64 0,.bool false,.int .i64 0,.slice none 0 0,.bool false]∧w.grownBy (X.setCell ⟨rb,4,none⟩ (.bool q)) (some rb) from ⟨(hm q hq).1,k14_o0.grownO (hm q hq).2 lt_o0,k14_o1.grownO (hm q hq).2 lt_o1,zAb g14 (hm q hq).2⟩));have f0:X.cell? ⟨a1,0,none⟩=some (.int .i64 K):=(k14_o1.cell 0).trans rfl;clear hm HM HX HKV h14 g14 k14_o0 k14_o1;obtain ⟨q0,hq0⟩:∃q,decide (K=0)=q:=⟨_,rfl⟩
   have i2:(K==0)=q0:=by rw [←hq0];by_cases e:K=0<;>simp [e]
   rw [hq0] at HZ;clear hq0;go_upto_region 8 with fail
   go_cut [29] (fun _ wv=>∃X:World,X=wv∧RX X rb F s2∧Blk X w.heap.size 32 #[.int .i64 0,.int .i64 0,.int .i64 0,.int .i64 0,.bool false,.int .i64 0,.slice none 0 0,.bool false]∧Blk X a1 32 #[.int .i64 K,.int .i64 0,.int .i64 0,.int .i64 0,.bool false,.int .i64 0,.slice none 0 0,.bool false]∧w.grownBy X (some rb))
   case first =>
    cases b<;>cases q0
    all_goals
     go_wp2_with fail
     go_meet
     case rel=>exact ⟨_,rfl,HZ.out _ rfl⟩
   case rest =>
    clear c4 z4 HZ f0 i2;obtain ⟨X,hX,h15,k15_o0,k15_o1,g15⟩:=hcut;subst hX;go_wp2_with fail
    refine (H2.out X h15).mono ?_;rintro e X16 ⟨rfl,h16,q16⟩;have k16_o0:=k15_o0.grownO q16 lt_o0;have k16_o1:=k15_o1.grownO q16 lt_o1;have g16:=zAb g15 q16;clear h15 g15 k15_o0 k15_o1 q16 H2;go_wp2_with fail
    refine (H3.out X16 h16).mono ?_;rintro e X17 ⟨rfl,h17,q17⟩;have k17_o0:=k16_o0.grownO q17 lt_o0;have k17_o1:=k16_o1.grownO q17 lt_o1;have g17:=zAb g16 q17;clear h16 g16 k16_o0 k16_o1 q17 H3;have z18:=k17_o1.frozen 1;have d18:X17.cell? ⟨a1,1,none⟩=some (.int .i64 0):=(k17_o1.cell 1).trans rfl;have k18_o1:Blk (X17.setCell ⟨a1,1,none⟩ (.int .i64 (f:Int))) a1 32 #[.int .i64 K,.int .i64 (f:Int),.int .i64 0,.int .i64 0,.bool false,.int .i64 0,.slice none 0 0,.bool false]:=k17_o1.set_ 1 _;have q18:Below (rb+1) X17 (X17.setCell ⟨a1,1,none⟩ (.int .i64 (f:Int))):=(Below.refl _ _).setCell (p:=⟨a1,1,none⟩) lt_o1 _;have p18:Below w.heap.size X17 (X17.setCell ⟨a1,1,none⟩ (.int .i64 (f:Int))):=(Below.refl _ _).setCell (p:=⟨a1,1,none⟩) ge_o1 _;have k18_o0:=k17_o0.far (p:=⟨a1,1,none⟩) (by simp only;omega) (.int .i64 (f:Int));have h18:=h17.over q18;have g18:=zAc g17 p18;clear h17 g17 k17_o0 k17_o1 q18 p18;go_upto_region 10 with fail
    clear z18 d18;generalize X17.setCell ⟨a1,1,none⟩ (.int .i64 (f:Int))=X9 at h18 g18 k18_o0 k18_o1 ⊢;have HA:=qH (show RX X9 rb F s4∧Blk X9 w.heap.size 32 #[.int .i64 0,.int .i64 0,.int .i64 0,.int .i64 0,.bool false,.int .i64 0,.slice none 0 0,.bool false]∧Blk X9 a1 32 #[.int .i64 K,.int .i64 (f:Int),.int .i64 0,.int .i64 0,.bool false,.int .i64 0,.slice none 0 0,.bool false]∧w.grownBy X9 (some rb) from ⟨h18,k18_o0,k18_o1,g18⟩);clear h18 g18 k18_o0 k18_o1;by_cases n4:K=4
    ·subst n4;exact absurd HW.out (by omega)
    by_cases n5:K=5
    ·subst n5;exact absurd HW.out (by omega)
    by_cases n6:K=6
    ·subst n6;obtain ⟨h20,k20_o0,k20_o1,g20⟩:=HA.out;clear HA;have f0:X9.cell? ⟨a1,0,none⟩=some (.int .i64 6):=(k20_o1.cell 0).trans rfl;obtain ⟨s5,e5⟩:∃x,s4.must zAI=x:=⟨_,rfl⟩
     obtain ⟨S2,eS2⟩:∃x,xa s5.T 0=x:=⟨_,rfl⟩
     obtain ⟨s6,e6⟩:∃x,s5.next=x:=⟨_,rfl⟩
     obtain ⟨g,eg⟩:∃x,zDg F.L S2=x:=⟨_,rfl⟩
     obtain ⟨s7,e7⟩:∃x,s6.fing F.L S2=x:=⟨_,rfl⟩
     obtain ⟨ov,eov⟩:∃x,ovT (xa s7.T 0)=x:=⟨_,rfl⟩
     obtain ⟨s8,e8⟩:∃x,s7.over=x:=⟨_,rfl⟩
     have hov:ovT (xa s5.T.tail 0)=ov:=by rw [←eov,←e7,←e6];rfl
     have HNX:=qH (fun wx (hx:RX wx rb F s5)=>zCq hx);simp only [eS2,e6] at HNX;have HFI:=qH (fun wx (hx:RX wx rb F s6)=>zCr hx S2);simp only [eg,e7] at HFI;have HOV:=qH (fun wx (hx:RX wx rb F s7)=>zGU hx);simp only [eov,e8] at HOV;have HE:=qH (show zBF F.L 6 f s4=(⟨6,f,⟨g,0,false,0⟩,[],ov⟩,s8) by unfold zBF;rw [if_neg (by omega),if_neg (by omega),if_neg (by omega),if_pos rfl,e5,eS2,e6,eg,e7,e8,hov]);have E5:=qH e5;clear eov e5 eS2 eg e6 e7 e8 hov;go_upto_region 30 with fail
     go_cut [116] (fun _ wv=>∃X:World,X=wv∧RX X rb F s5∧Blk X w.heap.size 32 #[.int .i64 0,.int .i64 0,.int .i64 0,.int .i64 0,.bool false,.int .i64 0,.slice none 0 0,.bool false]∧Blk X a1 32 #[.int .i64 6,.int .i64 (f:Int),.int .i64 0,.int .i64 0,.bool false,.int .i64 0,.slice none 0 0,.bool false]∧w.grownBy X (some rb))
     case first =>
      cases hb:s4.bad with
      | true =>
       have c4:X9.cell? ⟨rb,4,none⟩=some (.bool true):=by rw [←hb];exact h20.bad4.1
       have z4:=h20.bad4.2;have hm:=h20.marked false true (by rw [hb];rfl);have HZ:=qH (show RX (X9.setCell ⟨rb,4,none⟩ (.bool true)) rb F s5∧Blk (X9.setCell ⟨rb,4,none⟩ (.bool true)) w.heap.size 32 #[.int .i64 0,.int .i64 0,.int .i64 0,.int .i64 0,.bool false,.int .i64 0,.slice none 0 0,.bool false]∧Blk (X9.setCell ⟨rb,4,none⟩ (.bool true)) a1 32 #[.int .i64 6,.int .i64 (f:Int),.int .i64 0,.int .i64 0,.bool false,.int .i64 0,.slice none 0 0,.bool false]∧w.grownBy (X9.setCell ⟨rb,4,none⟩ (.bool true)) (some rb) from ⟨by rw [←E5.out,zEN zAI hb];exact hm.1,k20_o0.grownO hm.2 lt_o0,k20_o1.grownO hm.2 lt_o1,zAb g20 hm.2⟩);clear hm hb h20 g20 k20_o0 k20_o1;go_wp2_with fail
       go_meet
       case rel=>exact ⟨_,rfl,HZ.out⟩
      | false =>
       obtain ⟨ib,eib⟩:∃b,isB s4.T zAI=b:=⟨_,rfl⟩
       have c4:X9.cell? ⟨rb,4,none⟩=some (.bool false):=by rw [←hb];exact h20.bad4.1
       have z4:=h20.bad4.2;have HI:=qH (zMW h20 zAI);rw [eib] at HI;have HE:=qH (show (s4.is zAI).mark (!ib)=s5 by rw [←E5.out,zDL zAI hb,eib]);have HB:=qH hb;clear eib hb;go_wp2_with fail
       refine HI.out.mono ?_;rintro e Y ⟨rfl,hy,qy⟩;have ky22_o0:=k20_o0.grownO qy lt_o0;have ky22_o1:=k20_o1.grownO qy lt_o1;have gy22:=zAb g20 qy;have c5:Y.cell? ⟨rb,4,none⟩=some (.bool false):=by rw [←HB.out];exact hy.bad4.1
       have z5:=hy.bad4.2;have hm:=fun q (hq:q = !ib)=>hy.marked (!ib) q (by rw [show (s4.is zAI).bad=false from HB.out];exact hq)
       have HZ:=qH (fun (q:Bool) (hq:q = !ib)=>(show RX (Y.setCell ⟨rb,4,none⟩ (.bool q)) rb F s5∧Blk (Y.setCell ⟨rb,4,none⟩ (.bool q)) w.heap.size 32 #[.int .i64 0,.int .i64 0,.int .i64 0,.int .i64 0,.bool false,.int .i64 0,.slice none 0 0,.bool false]∧Blk (Y.setCell ⟨rb,4,none⟩ (.bool q)) a1 32 #[.int .i64 6,.int .i64 (f:Int),.int .i64 0,.int .i64 0,.bool false,.int .i64 0,.slice none 0 0,.bool false]∧w.grownBy (Y.setCell ⟨rb,4,none⟩ (.bool q)) (some rb) from ⟨by rw [←HE.out];exact (hm q hq).1,ky22_o0.grownO (hm q hq).2 lt_o0,ky22_o1.grownO (hm q hq).2 lt_o1,zAb gy22 (hm q hq).2⟩));clear hm qy HI HE HB c4 z4 hy gy22 ky22_o0 ky22_o1 h20 g20 k20_o0 k20_o1
       cases ib
       all_goals
        go_wp2_with fail
        go_meet
        case rel=>exact ⟨_,rfl,HZ.out _ rfl⟩
     case rest =>
      clear h20 g20 k20_o0 k20_o1;obtain ⟨X23,hX,h24,k24_o0,k24_o1,g24⟩:=hcut;subst hX;clear f0 E5;go_wp2_with fail
      refine (HNX.out X23 h24).mono ?_;rintro e X25 ⟨rfl,h25,q25⟩;have k25_o0:=k24_o0.grownO q25 lt_o0;have k25_o1:=k24_o1.grownO q25 lt_o1;have g25:=zAb g24 q25;clear h24 g24 k24_o0 k24_o1 q25 HNX;go_wp2_with fail
      refine (HFI.out X25 h25).mono ?_;rintro e X26 ⟨rfl,h26,q26⟩;have k26_o0:=k25_o0.grownO q26 lt_o0;have k26_o1:=k25_o1.grownO q26 lt_o1;have g26:=zAb g25 q26;clear h25 g25 k25_o0 k25_o1 q26 HFI;have z27:=k26_o1.frozen 2;have d27:X26.cell? ⟨a1,2,none⟩=some (.int .i64 0):=(k26_o1.cell 2).trans rfl;have k27_o1:Blk (X26.setCell ⟨a1,2,none⟩ (.int .i64 (g:Int))) a1 32 #[.int .i64 6,.int .i64 (f:Int),.int .i64 (g:Int),.int .i64 0,.bool false,.int .i64 0,.slice none 0 0,.bool false]:=k26_o1.set_ 2 _;have q27:Below (rb+1) X26 (X26.setCell ⟨a1,2,none⟩ (.int .i64 (g:Int))):=(Below.refl _ _).setCell (p:=⟨a1,2,none⟩) lt_o1 _;have p27:Below w.heap.size X26 (X26.setCell ⟨a1,2,none⟩ (.int .i64 (g:Int))):=(Below.refl _ _).setCell (p:=⟨a1,2,none⟩) ge_o1 _;have k27_o0:=k26_o0.far (p:=⟨a1,2,none⟩) (by simp only;omega) (.int .i64 (g:Int));have h27:=h26.over q27;have g27:=zAc g26 p27;clear h26 g26 k26_o0 k26_o1 q27 p27;go_wp2_with fail
      clear z27 d27;generalize X26.setCell ⟨a1,2,none⟩ (.int .i64 (g:Int))=X28 at h27 g27 k27_o0 k27_o1 ⊢;refine (HOV.out X28 h27).mono ?_;rintro e X29 ⟨rfl,h29,q29⟩;have k29_o0:=k27_o0.grownO q29 lt_o0;have k29_o1:=k27_o1.grownO q29 lt_o1;have g29:=zAb g27 q29;clear h27 g27 k27_o0 k27_o1 q29 HOV;have z30:=k29_o1.frozen 7;have d30:X29.cell? ⟨a1,7,none⟩=some (.bool false):=(k29_o1.cell 7).trans rfl;have k30_o1:Blk (X29.setCell ⟨a1,7,none⟩ (.bool ov)) a1 32 #[.int .i64 6,.int .i64 (f:Int),.int .i64 (g:Int),.int .i64 0,.bool false,.int .i64 0,.slice none 0 0,.bool ov]:=k29_o1.set_ 7 _;have q30:Below (rb+1) X29 (X29.setCell ⟨a1,7,none⟩ (.bool ov)):=(Below.refl _ _).setCell (p:=⟨a1,7,none⟩) lt_o1 _;have p30:Below w.heap.size X29 (X29.setCell ⟨a1,7,none⟩ (.bool ov)):=(Below.refl _ _).setCell (p:=⟨a1,7,none⟩) ge_o1 _;have k30_o0:=k29_o0.far (p:=⟨a1,7,none⟩) (by simp only;omega) (.bool ov);have h30:=h29.over q30;have g30:=zAc g29 p30;clear h29 g29 k29_o0 k29_o1 q30 p30;go_upto_region 33 with fail
      clear z30 d30;generalize X29.setCell ⟨a1,7,none⟩ (.bool ov)=X31 at h30 g30 k30_o0 k30_o1 ⊢;obtain ⟨f0,f1,f2,f3,f4,f5,f6,f7⟩:=cQ8 k30_o1;have y0:X31.cell? ⟨w.heap.size,0,none⟩=some (.int .i64 0):=(k30_o0.cell 0).trans rfl;have yz0:=k30_o0.frozen 0;have y1:X31.cell? ⟨w.heap.size,1,none⟩=some (.int .i64 0):=(k30_o0.cell 1).trans rfl;have yz1:=k30_o0.frozen 1;have y2:X31.cell? ⟨w.heap.size,2,none⟩=some (.int .i64 0):=(k30_o0.cell 2).trans rfl;have yz2:=k30_o0.frozen 2;have y3:X31.cell? ⟨w.heap.size,3,none⟩=some (.int .i64 0):=(k30_o0.cell 3).trans rfl;have yz3:=k30_o0.frozen 3;have y4:X31.cell? ⟨w.heap.size,4,none⟩=some (.bool false):=(k30_o0.cell 4).trans rfl;have yz4:=k30_o0.frozen 4;have y5:X31.cell? ⟨w.heap.size,5,none⟩=some (.int .i64 0):=(k30_o0.cell 5).trans rfl;have yz5:=k30_o0.frozen 5;have y6:X31.cell? ⟨w.heap.size,6,none⟩=some (.slice none 0 0):=(k30_o0.cell 6).trans rfl;have yz6:=k30_o0.frozen 6;have y7:X31.cell? ⟨w.heap.size,7,none⟩=some (.bool false):=(k30_o0.cell 7).trans rfl;have yz7:=k30_o0.frozen 7;have hS:=k30_o0.store8 (.int .i64 6) (.int .i64 (f:Int)) (.int .i64 (g:Int)) (.int .i64 0) (.bool false) (.int .i64 0) (.slice none 0 0) (.bool ov);have bS:=zAd (Below.refl (rb+1) X31) (show rb+1≤w.heap.size from lt_o0) (.int .i64 6) (.int .i64 (f:Int)) (.int .i64 (g:Int)) (.int .i64 0) (.bool false) (.int .i64 0) (.slice none 0 0) (.bool ov);have bSw:=zAd (Below.refl w.heap.size X31) ge_o0 (.int .i64 6) (.int .i64 (f:Int)) (.int .i64 (g:Int)) (.int .i64 0) (.bool false) (.int .i64 0) (.slice none 0 0) (.bool ov);have hX:=h30.over bS;have gX:=zAc g30 bSw;go_wp2_with fail
      exact zAi rfl rfl hS Tryz.underlying32 rfl (by kernel_rfl) rfl (GIV.out ⟨6,f,⟨(g:Int),0,false,0⟩,[],ov⟩ s8 HE.out _ none 0 0 (Row.none_ _ _ _) rfl hX gX)
    by_cases n7:K=7
    ·subst n7;obtain ⟨h33,k33_o0,k33_o1,g33⟩:=HA.out;clear HA;have f0:X9.cell? ⟨a1,0,none⟩=some (.int .i64 7):=(k33_o1.cell 0).trans rfl;obtain ⟨s5,e5⟩:∃x,s4.must zEi=x:=⟨_,rfl⟩
     obtain ⟨S2,eS2⟩:∃x,xa s5.T 0=x:=⟨_,rfl⟩
     obtain ⟨s6,e6⟩:∃x,s5.next=x:=⟨_,rfl⟩
     obtain ⟨g,eg⟩:∃x,zDg F.L S2=x:=⟨_,rfl⟩
     obtain ⟨s7,e7⟩:∃x,s6.fing F.L S2=x:=⟨_,rfl⟩
     obtain ⟨ov,eov⟩:∃x,ovT (xa s7.T 0)=x:=⟨_,rfl⟩
     obtain ⟨s8,e8⟩:∃x,s7.over=x:=⟨_,rfl⟩
     have hov:ovT (xa s5.T.tail 0)=ov:=by rw [←eov,←e7,←e6];rfl
     have HNX:=qH (fun wx (hx:RX wx rb F s5)=>zCq hx);simp only [eS2,e6] at HNX;have HFI:=qH (fun wx (hx:RX wx rb F s6)=>zCr hx S2);simp only [eg,e7] at HFI;have HOV:=qH (fun wx (hx:RX wx rb F s7)=>zGU hx);simp only [eov,e8] at HOV;have HE:=qH (show zBF F.L 7 f s4=(⟨7,f,⟨g,0,false,0⟩,[],ov⟩,s8) by unfold zBF;rw [if_neg (by omega),if_neg (by omega),if_neg (by omega),if_neg (by omega),if_pos rfl,e5,eS2,e6,eg,e7,e8,hov]);have E5:=qH e5;clear eov e5 eS2 eg e6 e7 e8 hov;go_upto_region 30 with fail
     go_cut [116] (fun _ wv=>∃X:World,X=wv∧RX X rb F s5∧Blk X w.heap.size 32 #[.int .i64 0,.int .i64 0,.int .i64 0,.int .i64 0,.bool false,.int .i64 0,.slice none 0 0,.bool false]∧Blk X a1 32 #[.int .i64 7,.int .i64 (f:Int),.int .i64 0,.int .i64 0,.bool false,.int .i64 0,.slice none 0 0,.bool false]∧w.grownBy X (some rb))
     case first =>
      cases hb:s4.bad with
      | true =>
       have c4:X9.cell? ⟨rb,4,none⟩=some (.bool true):=by rw [←hb];exact h33.bad4.1
       have z4:=h33.bad4.2;have hm:=h33.marked false true (by rw [hb];rfl);have HZ:=qH (show RX (X9.setCell ⟨rb,4,none⟩ (.bool true)) rb F s5∧Blk (X9.setCell ⟨rb,4,none⟩ (.bool true)) w.heap.size 32 #[.int .i64 0,.int .i64 0,.int .i64 0,.int .i64 0,.bool false,.int .i64 0,.slice none 0 0,.bool false]∧Blk (X9.setCell ⟨rb,4,none⟩ (.bool true)) a1 32 #[.int .i64 7,.int .i64 (f:Int),.int .i64 0,.int .i64 0,.bool false,.int .i64 0,.slice none 0 0,.bool false]∧w.grownBy (X9.setCell ⟨rb,4,none⟩ (.bool true)) (some rb) from ⟨by rw [←E5.out,zEN zEi hb];exact hm.1,k33_o0.grownO hm.2 lt_o0,k33_o1.grownO hm.2 lt_o1,zAb g33 hm.2⟩);clear hm hb h33 g33 k33_o0 k33_o1;go_wp2_with fail
       go_meet
       case rel=>exact ⟨_,rfl,HZ.out⟩
      | false =>
       obtain ⟨ib,eib⟩:∃b,isB s4.T zEi=b:=⟨_,rfl⟩
       have c4:X9.cell? ⟨rb,4,none⟩=some (.bool false):=by rw [←hb];exact h33.bad4.1
       have z4:=h33.bad4.2;have HI:=qH (zMW h33 zEi);rw [eib] at HI;have HE:=qH (show (s4.is zEi).mark (!ib)=s5 by rw [←E5.out,zDL zEi hb,eib]);have HB:=qH hb;clear eib hb;go_wp2_with fail
       refine HI.out.mono ?_;rintro e Y ⟨rfl,hy,qy⟩;have ky35_o0:=k33_o0.grownO qy lt_o0;have ky35_o1:=k33_o1.grownO qy lt_o1;have gy35:=zAb g33 qy;have c5:Y.cell? ⟨rb,4,none⟩=some (.bool false):=by rw [←HB.out];exact hy.bad4.1
       have z5:=hy.bad4.2;have hm:=fun q (hq:q = !ib)=>hy.marked (!ib) q (by rw [show (s4.is zEi).bad=false from HB.out];exact hq)
       have HZ:=qH (fun (q:Bool) (hq:q = !ib)=>(show RX (Y.setCell ⟨rb,4,none⟩ (.bool q)) rb F s5∧Blk (Y.setCell ⟨rb,4,none⟩ (.bool q)) w.heap.size 32 #[.int .i64 0,.int .i64 0,.int .i64 0,.int .i64 0,.bool false,.int .i64 0,.slice none 0 0,.bool false]∧Blk (Y.setCell ⟨rb,4,none⟩ (.bool q)) a1 32 #[.int .i64 7,.int .i64 (f:Int),.int .i64 0,.int .i64 0,.bool false,.int .i64 0,.slice none 0 0,.bool false]∧w.grownBy (Y.setCell ⟨rb,4,none⟩ (.bool q)) (some rb) from ⟨by rw [←HE.out];exact (hm q hq).1,ky35_o0.grownO (hm q hq).2 lt_o0,ky35_o1.grownO (hm q hq).2 lt_o1,zAb gy35 (hm q hq).2⟩));clear hm qy HI HE HB c4 z4 hy gy35 ky35_o0 ky35_o1 h33 g33 k33_o0 k33_o1
       cases ib
       all_goals
        go_wp2_with fail
        go_meet
        case rel=>exact ⟨_,rfl,HZ.out _ rfl⟩
     case rest =>
      clear h33 g33 k33_o0 k33_o1;obtain ⟨X36,hX,h37,k37_o0,k37_o1,g37⟩:=hcut;subst hX;clear f0 E5;go_wp2_with fail
      refine (HNX.out X36 h37).mono ?_;rintro e X38 ⟨rfl,h38,q38⟩;have k38_o0:=k37_o0.grownO q38 lt_o0;have k38_o1:=k37_o1.grownO q38 lt_o1;have g38:=zAb g37 q38;clear h37 g37 k37_o0 k37_o1 q38 HNX;go_wp2_with fail
      refine (HFI.out X38 h38).mono ?_;rintro e X39 ⟨rfl,h39,q39⟩;have k39_o0:=k38_o0.grownO q39 lt_o0;have k39_o1:=k38_o1.grownO q39 lt_o1;have g39:=zAb g38 q39;clear h38 g38 k38_o0 k38_o1 q39 HFI;have z40:=k39_o1.frozen 2;have d40:X39.cell? ⟨a1,2,none⟩=some (.int .i64 0):=(k39_o1.cell 2).trans rfl;have k40_o1:Blk (X39.setCell ⟨a1,2,none⟩ (.int .i64 (g:Int))) a1 32 #[.int .i64 7,.int .i64 (f:Int),.int .i64 (g:Int),.int .i64 0,.bool false,.int .i64 0,.slice none 0 0,.bool false]:=k39_o1.set_ 2 _;have q40:Below (rb+1) X39 (X39.setCell ⟨a1,2,none⟩ (.int .i64 (g:Int))):=(Below.refl _ _).setCell (p:=⟨a1,2,none⟩) lt_o1 _;have p40:Below w.heap.size X39 (X39.setCell ⟨a1,2,none⟩ (.int .i64 (g:Int))):=(Below.refl _ _).setCell (p:=⟨a1,2,none⟩) ge_o1 _;have k40_o0:=k39_o0.far (p:=⟨a1,2,none⟩) (by simp only;omega) (.int .i64 (g:Int));have h40:=h39.over q40;have g40:=zAc g39 p40;clear h39 g39 k39_o0 k39_o1 q40 p40;go_wp2_with fail
      clear z40 d40;generalize X39.setCell ⟨a1,2,none⟩ (.int .i64 (g:Int))=X41 at h40 g40 k40_o0 k40_o1 ⊢;refine (HOV.out X41 h40).mono ?_;rintro e X42 ⟨rfl,h42,q42⟩;have k42_o0:=k40_o0.grownO q42 lt_o0;have k42_o1:=k40_o1.grownO q42 lt_o1;have g42:=zAb g40 q42;clear h40 g40 k40_o0 k40_o1 q42 HOV;have z43:=k42_o1.frozen 7;have d43:X42.cell? ⟨a1,7,none⟩=some (.bool false):=(k42_o1.cell 7).trans rfl;have k43_o1:Blk (X42.setCell ⟨a1,7,none⟩ (.bool ov)) a1 32 #[.int .i64 7,.int .i64 (f:Int),.int .i64 (g:Int),.int .i64 0,.bool false,.int .i64 0,.slice none 0 0,.bool ov]:=k42_o1.set_ 7 _;have q43:Below (rb+1) X42 (X42.setCell ⟨a1,7,none⟩ (.bool ov)):=(Below.refl _ _).setCell (p:=⟨a1,7,none⟩) lt_o1 _;have p43:Below w.heap.size X42 (X42.setCell ⟨a1,7,none⟩ (.bool ov)):=(Below.refl _ _).setCell (p:=⟨a1,7,none⟩) ge_o1 _;have k43_o0:=k42_o0.far (p:=⟨a1,7,none⟩) (by simp only;omega) (.bool ov);have h43:=h42.over q43;have g43:=zAc g42 p43;clear h42 g42 k42_o0 k42_o1 q43 p43;go_upto_region 33 with fail
      clear z43 d43;generalize X42.setCell ⟨a1,7,none⟩ (.bool ov)=X44 at h43 g43 k43_o0 k43_o1 ⊢;obtain ⟨f0,f1,f2,f3,f4,f5,f6,f7⟩:=cQ8 k43_o1;have y0:X44.cell? ⟨w.heap.size,0,none⟩=some (.int .i64 0):=(k43_o0.cell 0).trans rfl;have yz0:=k43_o0.frozen 0;have y1:X44.cell? ⟨w.heap.size,1,none⟩=some (.int .i64 0):=(k43_o0.cell 1).trans rfl;have yz1:=k43_o0.frozen 1;have y2:X44.cell? ⟨w.heap.size,2,none⟩=some (.int .i64 0):=(k43_o0.cell 2).trans rfl;have yz2:=k43_o0.frozen 2;have y3:X44.cell? ⟨w.heap.size,3,none⟩=some (.int .i64 0):=(k43_o0.cell 3).trans rfl;have yz3:=k43_o0.frozen 3;have y4:X44.cell? ⟨w.heap.size,4,none⟩=some (.bool false):=(k43_o0.cell 4).trans rfl;have yz4:=k43_o0.frozen 4;have y5:X44.cell? ⟨w.heap.size,5,none⟩=some (.int .i64 0):=(k43_o0.cell 5).trans rfl;have yz5:=k43_o0.frozen 5;have y6:X44.cell? ⟨w.heap.size,6,none⟩=some (.slice none 0 0):=(k43_o0.cell 6).trans rfl;have yz6:=k43_o0.frozen 6;have y7:X44.cell? ⟨w.heap.size,7,none⟩=some (.bool false):=(k43_o0.cell 7).trans rfl;have yz7:=k43_o0.frozen 7;have hS:=k43_o0.store8 (.int .i64 7) (.int .i64 (f:Int)) (.int .i64 (g:Int)) (.int .i64 0) (.bool false) (.int .i64 0) (.slice none 0 0) (.bool ov);have bS:=zAd (Below.refl (rb+1) X44) (show rb+1≤w.heap.size from lt_o0) (.int .i64 7) (.int .i64 (f:Int)) (.int .i64 (g:Int)) (.int .i64 0) (.bool false) (.int .i64 0) (.slice none 0 0) (.bool ov);have bSw:=zAd (Below.refl w.heap.size X44) ge_o0 (.int .i64 7) (.int .i64 (f:Int)) (.int .i64 (g:Int)) (.int .i64 0) (.bool false) (.int .i64 0) (.slice none 0 0) (.bool ov);have hX:=h43.over bS;have gX:=zAc g43 bSw;go_wp2_with fail
      exact zAi rfl rfl hS Tryz.underlying32 rfl (by kernel_rfl) rfl (GIV.out ⟨7,f,⟨(g:Int),0,false,0⟩,[],ov⟩ s8 HE.out _ none 0 0 (Row.none_ _ _ _) rfl hX gX)
    by_cases n3:K=3
    ·subst n3;exact absurd HW.out (by omega)
    exact absurd HW.out (by omega)
theorem zIQ (S:List UInt8) (hs:S.length≤1000000) (w:World) :
  Calls Tryz.prog 145 #[.string (bA S),.string ⟨#[44]⟩] w fun e w'=>e=.returned (.tuple #[.string (bA (if S.getLast? = some 44 then S.dropLast else S)),.bool (decide (S.getLast? = some 44))])∧w'=w:=by
 refine (Tryz.strings_CutSuffix (bA S) ⟨#[44]⟩ w (by rw [zAC];omega)).mono ?_;rintro e w' ⟨rfl,rfl⟩;have h1:Lib.hasSuffix S [44]=decide (S.getLast? = some 44):=by
  unfold Lib.hasSuffix;by_cases h:S.getLast? = some 44
  ·rw [decide_eq_true h,List.isSuffixOf_iff_suffix];obtain ⟨C,rfl⟩:=List.getLast?_eq_some_iff.1 h;exact ⟨C,rfl⟩
  ·rw [decide_eq_false h]
   cases e:List.isSuffixOf [44] S with
   | false=>rfl
   | true =>
    obtain ⟨C,hC⟩:=List.isSuffixOf_iff_suffix.1 e;exact absurd (List.getLast?_eq_some_iff.2 ⟨C,hC.symm⟩) h
 have h2:Lib.trimSuffix S [44]=if S.getLast? = some 44 then S.dropLast else S:=by
  unfold Lib.trimSuffix;rw [h1];by_cases h:S.getLast? = some 44
  ·rw [if_pos h,if_pos (decide_eq_true h),List.dropLast_eq_take];rfl
  ·rw [if_neg h,if_neg (by simpa using h)]
 simp only [zDm];rw [h1,h2];exact ⟨rfl,trivial⟩
theorem zGW (s:List UInt8) (hs:s.length≤100000) (w:World) (ht:Tabs w) :
  Calls Tryz.prog 119 #[.string (bA s),.string ⟨#[32]⟩] w fun e w'=>e=.returned (.slice (some ⟨w.heap.size,0,none⟩) (zAH 32 s).length (zAH 32 s).length)∧w'=w.alloc (.cells ((zAH 32 s).map fun p=>Value.string (bA p)).toArray 9):=by
 obtain ⟨m,hm⟩:=ht.most;refine (Tryz.strings_Split (bA s) ⟨#[32]⟩ m w (by rw [zAC];omega) hm (by decide)).mono ?_;rintro e w' ⟨rfl,rfl⟩;have h1:Lib.splitB ⟨#[32]⟩ 0 (Lib.countB (bA s) ⟨#[32]⟩) (bA s)=(zAH 32 s).map bA:=zKV 32 s;have h2:Lib.countB (bA s) ⟨#[32]⟩+1=(zAH 32 s).length:=by
  rw [zEF]
  congr 1
  exact Lib.count_one 32 s
 rw [h1,h2,List.map_map];exact ⟨rfl,rfl⟩
theorem Row.els {α:Type} {w:World} {base sz:Nat} {A:Option Addr} {n c:Nat} {enc:α→List Value} {L:List α} (h:Row w base sz A n c (L.flatMap enc)) (hz:∀x,(enc x).length=sz) (h0:0 < sz) (hn:n≤17592186043904):Els sz enc w A n L:=by
 have hl:L.length=n:=by
  have:=h.len;have h2:∀M:List α,(M.flatMap enc).length=M.length*sz:=fun M=>by
   induction M with
   | nil=>simp
   | cons x M ih=>rw [List.flatMap_cons,List.length_append,ih,hz,List.length_cons,Nat.add_mul];omega
  rw [h2] at this;exact Nat.eq_of_mul_eq_mul_right h0 this
 refine ⟨hl,hn,fun hp=>?_⟩;obtain ⟨g,o,e,_,hg⟩:=h.form hp;subst e;refine ⟨g,o,rfl,hg,fun j x hx q v hv=>?_⟩;have hq:q < sz:=by rw [←hz x];exact (List.getElem?_eq_some_iff.1 hv).1
 have:=h.cell (j:=j*sz+q) (by rw [zFp enc sz hz L j q x hx hq];exact hv)
 rwa [←Nat.add_assoc] at this
theorem zQU (T:List (List UInt8)):T.map zKu=T.flatMap (fun S=>[zKu S]):=by
 induction T with
 | nil=>rfl
 | cons x T ih=>rw [List.map_cons,List.flatMap_cons,ih];rfl
theorem Row.txts {w:World} {base:Nat} {A:Option Addr} {n c:Nat} {T:List (List UInt8)} (h:Row w base 1 A n c (T.map zKu)) (hn:n≤17592186043904):Txts w A n T:=by
 rw [zQU] at h;exact h.els (fun _=>rfl) (by omega) hn
theorem zVd {w:World} {ops:Array Oper} {rest:List Oper} {o:Oper} {a:Act} {Q:Exit→Act→World→Prop} (hgd:o.guard=none) (s x:Operand)
  (ho:o.op=.call { callee:=.builtin .append,args:=#[s,x],argTypes:=#[112,112] })
  {base:Nat} {A:Option Addr} {n c:Nat} {Ss:List (List UInt8)} (hst:Row w base 1 A n c (Ss.map zKu)) (S R:List UInt8)
  (hs:a.eval s=.slice A n c) (hx:a.eval x=.slice (some ⟨w.heap.size,0,none⟩) 2 2) (N:Nat) (hN:n+2=N) (hn:N≤1000000) (hbase:base≤w.heap.size)
  (h:∀A' c' w',Row w' base 1 A' N c' ((Ss++[S,R]).map zKu)→Below base w w'→wpList Tryz.prog ops Q rest (a.put o.dst (.slice A' N c')) w') :
  wpList Tryz.prog ops Q (o :: rest) a (w.alloc (.cells #[.string (bA S),.string (bA R)] 9)):=by
 obtain ⟨i0,hi,hz0,hz1,hz2⟩:=info_parts zIt;have hbl:=(Below.refl w.heap.size w).alloc (Nat.le_refl _) (.cells #[.string (bA S),.string (bA R)] 9);have hst1:=hst.below hbl
 refine zQk hgd s x 112 ho 9 i0 _ 1 16 Tryz.underlying112 hi hz0 hz1 hz2 rfl (by decide) hst1 (Src.new (m:=2) (cs:=[.string (bA S),.string (bA R)]) rfl)
  (by intro u hu;simp at hu;rcases hu with rfl | rfl<;>rfl) hs hx N hN (by unfold maxLen;omega) (by omega) (by simp;omega) ?_
 intro A' c' w' h1 h2 _ _;refine h A' c' w' (by rw [List.map_append];exact h1) ?_;exact ((Below.refl _ _).alloc hbase _).trans (hst1.belowOf h2 (by simp;omega))
def zFu (w0:World) (T:List (List UInt8)) (e:Ending) (w':World):Prop :=
 ∃B m d,e=.returned (.slice B m d)∧Row w' w0.heap.size 1 B m d (T.map zKu)∧m≤1000000∧Below w0.heap.size w0 w'
theorem zMX (W:List (List UInt8)):(W.flatMap zAK).length≤2*W.length:=by
 induction W with
 | nil=>simp
 | cons x W ih =>
  have:(zAK x).length≤2:=by rcases zBd x with ⟨h,_⟩ | ⟨C,_,h⟩<;>rw [h]<;>simp
  rw [List.flatMap_cons,List.length_append,List.length_cons];omega
theorem zCe (S:List UInt8):(zAH 32 S).length≤S.length+1:=by
 rw [zEF];have:=List.count_le_length (a:=(32:UInt8)) (l:=S);omega
theorem zFv (S:List UInt8):(zBo S).length≤2*S.length+2:=by
 have:=zMX (zAH 32 S);have:=zCe S;unfold zBo;omega
set_option maxHeartbeats 3200000 in
theorem zLf (S:List UInt8) (hS:S.length≤100000) (w:World) (ht:Tabs w) :
  Calls Tryz.prog 97 #[.string (bA S)] w (zFu w (zBo S)):=by
 have HSP:=qH (zGW S hS w ht);obtain ⟨Ws,hW⟩:∃W,zAH 32 S=W:=⟨_,rfl⟩
 rw [hW] at HSP;have hpl:∀p∈Ws,p.length≤100000:=fun p hp=>by rw [←hW] at hp;exact Nat.le_trans (zAX 32 S p hp) hS
 have hwl:Ws.length≤100001:=by rw [←hW];have:=zCe S;omega
 have HT:=qH (show zBo S=Ws.flatMap zAK by unfold zBo;rw [hW]);have HPL:=qH hpl;rw [HT.out];obtain ⟨n,hn⟩:∃n,Ws.length=n:=⟨_,rfl⟩
 rw [hn] at HSP hwl;have HN:=qH hn;clear hW hpl ht hn hS HT;go_enter Tryz.func97,Tryz.ntmps97;go_wp2_with fail
 refine HSP.out.mono ?_;rintro e X ⟨rfl,hX⟩;have hbX:Below w.heap.size w X:=by rw [hX];exact (Below.refl _ _).alloc (Nat.le_refl _) _
 have hcX:∀(j:Nat) (p:List UInt8),Ws[j]? = some p→X.cell? ⟨w.heap.size,j,none⟩=some (.string (bA p)):=fun j p hp=>by
  rw [hX,World.cell?_alloc_at _ _ _ _ rfl];simp [hp]
 have hlX:w.heap.size < X.heap.size:=by rw [hX];simp
 have HCX:=qH hcX;clear hX hcX HSP;go_wp2_with fail
 go_loopw [3,11] (fun v3 v11 wv=>∃(i:Nat) (Y:World) (A':Option Addr) (m c':Nat) (T:List (List UInt8)),Y=wv∧i≤n∧v11=.int .i64 i∧v3=.slice A' m c'∧Row Y X.heap.size 1 A' m c' (T.map zKu)∧Below X.heap.size X Y∧m≤2*i∧Hid (T=(Ws.take i).flatMap zAK)) (fun _ v11 _=>n-(intOf v11).toNat)
 case atStart=>exact ⟨0,_,none,0,0,[],rfl,by omega,rfl,rfl,Row.none_ _ _ _,Below.refl _ _,by omega,qH rfl⟩
 case round =>
  obtain ⟨i,Y,A',m,c',T,hY,hi,rfl,rfl,hR,hb,hm,HTT⟩:=hrel;subst hY;by_cases hlt:i < n
  ·have j0:(0:Int)≤(i:Int):=by omega
   have j1:(i:Int) < (n:Int):=by omega
   obtain ⟨p,hp⟩:∃p,Ws[i]? = some p:=⟨Ws[i]'(by rw [HN.out];exact hlt),List.getElem?_eq_getElem _⟩
   have hc:Y.cell? ⟨w.heap.size,i,none⟩=some (.string (bA p)):=(hb.cell (p:=⟨w.heap.size,i,none⟩) hlX).trans (HCX.out i p hp);have hlen:p.length≤1000000:=Nat.le_trans (HPL.out p (List.mem_of_getElem? hp)) (by omega);have HCU:=qH (zIQ p hlen Y);have hz:X.heap.size≤Y.heap.size:=hb.size;by_cases hq:p.getLast? = some 44
   ·rw [if_pos hq,decide_eq_true hq] at HCU;obtain ⟨C,hC⟩:∃C,p.dropLast=C:=⟨_,rfl⟩
    rw [hC] at HCU
    have HT2:=qH (show T++[C,[44]]=(Ws.take (i+1)).flatMap zAK by
     rw [List.take_add_one,hp,List.flatMap_append,HTT.out]
     simp [zAK,hq,hC])
    clear hp hlen hq hC HTT;go_wp2_with fail
    refine HCU.out.mono ?_;rintro e Y2 ⟨rfl,rfl⟩;go_wp2_with (at_builtin;refine zVd rfl _ _ rfl hR C [44] rfl rfl (m+2) rfl (by omega) hz ?_;intro A2 c2 w9 hR9 hb9)
    have hb10:=hb.trans hb9;clear hR hb hb9 hc;go_wp2_with fail
    go_roundw
    case rel=>exact ⟨i+1,_,A2,m+2,c2,T++[C,[44]],rfl,by omega,by go_num,rfl,hR9,hb10,by omega,HT2⟩
    case measure=>simp [intOf];omega
   ·rw [if_neg hq,decide_eq_false hq] at HCU
    have HT2:=qH (show T++[p]=(Ws.take (i+1)).flatMap zAK by
     rw [List.take_add_one,hp,List.flatMap_append,HTT.out]
     simp [zAK,hq])
    clear hp hlen hq HTT;go_wp2_with fail
    refine HCU.out.mono ?_;rintro e Y2 ⟨rfl,rfl⟩;go_wp2_with (at_builtin;refine zQF rfl _ _ rfl hR p rfl rfl (m+1) rfl (by omega) hz ?_;intro A2 c2 w9 hR9 hb9)
    have hb10:=hb.trans hb9;clear hR hb hb9 hc;go_wp2_with fail
    go_roundw
    case rel=>exact ⟨i+1,_,A2,m+1,c2,T++[p],rfl,by omega,by go_num,rfl,hR9,hb10,by omega,HT2⟩
    case measure=>simp [intOf];omega
  ·have j1:¬(i:Int) < (n:Int):=by omega
   have hin:i=n:=by omega
   have HTE:=qH (show T=Ws.flatMap zAK by rw [HTT.out,hin,←HN.out,List.take_length]);have hz:w.heap.size≤X.heap.size:=hbX.size;clear hin hlt HTT HCX;go_wp2_with fail
   go_ret;exact ⟨A',m,c',rfl,by rw [←HTE.out];exact hR.mono hz,by omega,zAa hbX hb hbX.size⟩
end Go.Proofs.YtlmdfmnbcndhoaaGreatDoor
