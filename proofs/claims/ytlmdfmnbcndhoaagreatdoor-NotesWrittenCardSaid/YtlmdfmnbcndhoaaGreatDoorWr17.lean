/-
  Contract: the program's reader of an operation in words. Conditions: the reader lies in a block, its words and its frame read; there are not too many words.
-/
import Derived.Test.YtlmdfmnbcndhoaaGreatDoorWr15
namespace Go.Proofs.YtlmdfmnbcndhoaaGreatDoor
open Go.RowKit
def kTo (K:Int) (k:Nat):Int:=if K < (k:Int) then K else 0
theorem zEX {s:RS} (W:List UInt8) (h:s.bad=true):s.must W=s.mark false:=by
 obtain ⟨T,bad,lost⟩:=s
 simp only at h
 subst h
 rfl
theorem zEa {s:RS} (W:List UInt8) (h:s.bad=false):s.must W=(s.is W).mark (!isB s.T W):=by
 unfold RS.must
 rw [if_neg (by rw [h];simp)]
theorem jumpsQ_normal (J:Nat→Act→World→Prop) (Q:Exit→Act→World→Prop) (a:Act) (w:World):zDL J Q .normal a w=Q .normal a w:=rfl
theorem jumpsQ_exit (J:Nat→Act→World→Prop) (Q:Exit→Act→World→Prop) (id:Nat) (a:Act) (w:World):zDL J Q (.exit id) a w=Q (.exit id) a w:=rfl
theorem zCZ (J:Nat→Act→World→Prop) (Q:Exit→Act→World→Prop) (a:Act) (w:World):zDL J Q .ret a w=Q .ret a w:=rfl
theorem jumpsQ_goto {J:Nat→Act→World→Prop} {Q:Exit→Act→World→Prop} {l:Nat} {a:Act} {w:World} (h:J l a w):zDL J Q (.goto l) a w:=h
theorem Row.store8 {w:World} {base g sz:Nat} {A:Option Addr} {n c:Nat} {xs:List Value} (h:Row w base sz A n c xs) (hg:g < base) (u0 u1 u2 u3 u4 u5 u6 u7:Value) :
  Row ((((((((w.setCell ⟨g,0,none⟩ u0).setCell ⟨g,1,none⟩ u1).setCell ⟨g,2,none⟩ u2).setCell ⟨g,3,none⟩ u3).setCell ⟨g,4,none⟩ u4).setCell ⟨g,5,none⟩ u5).setCell ⟨g,6,none⟩ u6).setCell ⟨g,7,none⟩ u7) base sz A n c xs:=by
 have hne:∀(wx:World),Row wx base sz A n c xs→∀k,blk A=some k→k≠g:=fun wx hx k hk=>by have:=(hx.lt k hk).1;omega
 have h0:=h.farSet 0 u0 (hne _ h)
 have h1:=h0.farSet 1 u1 (hne _ h0)
 have h2:=h1.farSet 2 u2 (hne _ h1)
 have h3:=h2.farSet 3 u3 (hne _ h2)
 have h4:=h3.farSet 4 u4 (hne _ h3)
 have h5:=h4.farSet 5 u5 (hne _ h4)
 have h6:=h5.farSet 6 u6 (hne _ h5)
 exact h6.farSet 7 u7 (hne _ h6)
theorem list_are {α:Type} (d:α):∀(n:Nat) (l:List α),l.length=n→l=(List.range n).map (fun i=>l.getD i d):=fun n l h=>by
 apply List.ext_getElem?
 intro i
 by_cases hi:i < n
 ·rw [List.getElem?_map,List.getElem?_range hi,List.getElem?_eq_getElem (by omega)]
  simp [List.getD,List.getElem?_eq_getElem (show i < l.length by omega)]
 ·rw [List.getElem?_eq_none (by omega),List.getElem?_eq_none (by simp;omega)]
theorem zEY (n:Nat) (t:Array Value) (h:t.size=n):t=⟨(List.range n).map (fun i=>t.getD i undef)⟩:=by
 apply Array.ext'
 have:=list_are undef n t.toList (by simpa using h)
 simp only [Array.getD_eq_getD_getElem?]
 rw [this]
 congr 1
 funext i
 simp [List.getD]
theorem zGT {p:Prop} (h:Hid p):p:=h.out
/-- What holds at the label of a path. -/
def PathJ (w:World) (rb a1:Nat) (F:Fm) (f:Nat) (s4:RS) (X:World) (si:RS) (Pi:List Sp) (B:Option Addr) (m c N:Nat):Prop :=
 RX X rb F si∧Blk X w.heap.size 32 #[.int .i64 0,.int .i64 0,.int .i64 0,.int .i64 0,.bool false,.int .i64 0,.slice none 0 0,.bool false] ∧
  Blk X a1 32 #[.int .i64 3,.int .i64 (f:Int),.int .i64 0,.int .i64 0,.bool false,.int .i64 0,.slice B m c,.bool false]∧w.grownBy X (some rb)∧Row X (a1+1) 5 B m c (Pi.flatMap encP)∧m=Pi.length ∧
  m+si.T.length≤s4.T.length∧si.T.length < N∧zDH F.L N si Pi=zDH F.L (s4.T.length+1) s4 []
set_option maxHeartbeats 12800000 in
set_option maxRecDepth 100000 in
theorem reader_op_a (rb:Nat) (F:Fm) (s:RS) (w:World) (h:RX w rb F s) (hT:s.T.length≤100000) (hw:zBG (xa s.T 0)=3) :
  Calls Tryz.prog 98 #[.pointer (some ⟨rb,0,none⟩)] w (zEv w rb F (opR F.L s).1 (opR F.L s).2):=by
 obtain ⟨S0,eS0⟩:∃S,xa s.T 0=S:=⟨_,rfl⟩
 obtain ⟨s1,e1⟩:∃x,s.next=x:=⟨_,rfl⟩
 obtain ⟨K,eK⟩:∃x,zBG S0=x:=⟨_,rfl⟩
 obtain ⟨s2,e2⟩:∃x,s1.mark (decide (K=0))=x:=⟨_,rfl⟩
 obtain ⟨S1,eS1⟩:∃S,xa s2.T 0=S:=⟨_,rfl⟩
 obtain ⟨s3,e3⟩:∃x,s2.next=x:=⟨_,rfl⟩
 obtain ⟨s4,e4⟩:∃x,s3.fing F.L S1=x:=⟨_,rfl⟩
 obtain ⟨f,efi⟩:∃x,fidx F.L S1=x:=⟨_,rfl⟩
 obtain ⟨b,eb⟩:∃b,s1.bad=b:=⟨_,rfl⟩
 have hT1:xa s.T.tail 0=S1:=by rw [←eS1,←e2,←e1];rfl
 have hT4:s4.T.length≤100000:=by
  rw [←e4,←e3,←e2,←e1]
  simp only [RS.fing,RS.next,RS.mark,List.length_tail]
  omega
 have HR:=Lib.hid (show opR F.L s=zBN F.L K f s4 by
  have hp:zET F.L s=s4:=by
   unfold zET
   rw [eS0,hT1,e1,eK,e2,e3,e4]
  unfold opR
  rw [hp,eS0,hT1,eK,efi])
 have hK:0≤K∧K≤8:=by
  by_cases e:K=0
  ·omega
  ·have:=zGM (v:=S0) (by rw [eK];exact e)
   rw [eK] at this;omega
 have HKV:=Lib.hid (fun (k:Nat) (h1:1≤k) (h8:k≤8)=>(show ((bA (zBd (k:Int))).toList==(bA S0).toList)=decide (K=(k:Int)) by
  rw [zAt,zAt,←eK];exact zFx h1 h8 S0))
 have H1:=Lib.hid (fun wx (hx:RX wx rb F s)=>zCu hx)
 have H2:=Lib.hid (fun wx (hx:RX wx rb F s2)=>zCu hx)
 have H3:=Lib.hid (fun wx (hx:RX wx rb F s3)=>zCv hx S1)
 have HM:=Lib.hid (fun wx (hx:RX wx rb F s1)=>(show wx.cell? ⟨rb,4,none⟩=some (.bool b)∧wx.frozen? ⟨rb,4,none⟩=false∧∀q,q=(b||decide (K=0))→RX (wx.setCell ⟨rb,4,none⟩ (.bool q)) rb F s2∧wx.grownBy (wx.setCell ⟨rb,4,none⟩ (.bool q)) (some rb) from
  ⟨by rw [←eb];exact hx.bad4.1,hx.bad4.2,fun q hq=>by rw [←e2];exact hx.marked (decide (K=0)) q (by rw [eb];exact hq)⟩))
 simp only [eS0,e1] at H1
 simp only [eS1,e3] at H2
 simp only [efi,e4] at H3
 rw [HR.out]
 have HW:Hid (K=3):=Lib.hid (by rw [←eK,←eS0];exact hw)
 have hlt:=h.lt
 have bst:=zGP
 have GIV:=Lib.hid (fun (o:Og) (st:RS) (he:zBN F.L K f s4=(o,st)) (wx:World) (B:Option Addr) (m d:Nat) (hrow:Row wx w.heap.size 5 B m d (o.path.flatMap encP)) (hm:m=o.path.length) (hx:RX wx rb F st) (hg:w.grownBy wx (some rb)) =>
  (show zEv w rb F (zBN F.L K f s4).1 (zBN F.L K f s4).2 (.returned (opV o B m d)) wx from by rw [he];exact ⟨B,m,d,rfl,hrow,hm,hx,hg⟩))
 clear eS0 e1 e2 eS1 e3 e4 efi eb eK hT1 HR hT hw
 have b1:Below w.heap.size w ((w.alloc (.cells #[.int .i64 0,.int .i64 0,.int .i64 0,.int .i64 0,.bool false,.int .i64 0,.slice none 0 0,.bool false] 32)).alloc (.cells #[.int .i64 0,.int .i64 0,.int .i64 0,.int .i64 0,.bool false,.int .i64 0,.slice none 0 0,.bool false] 32)):=((Below.refl _ _).alloc (Nat.le_refl _) _).alloc (by simp) _
 have k1_o0:Blk ((w.alloc (.cells #[.int .i64 0,.int .i64 0,.int .i64 0,.int .i64 0,.bool false,.int .i64 0,.slice none 0 0,.bool false] 32)).alloc (.cells #[.int .i64 0,.int .i64 0,.int .i64 0,.int .i64 0,.bool false,.int .i64 0,.slice none 0 0,.bool false] 32)) w.heap.size 32 #[.int .i64 0,.int .i64 0,.int .i64 0,.int .i64 0,.bool false,.int .i64 0,.slice none 0 0,.bool false]:=(Blk.new w _ _).alloc _
 have k1_o1:Blk ((w.alloc (.cells #[.int .i64 0,.int .i64 0,.int .i64 0,.int .i64 0,.bool false,.int .i64 0,.slice none 0 0,.bool false] 32)).alloc (.cells #[.int .i64 0,.int .i64 0,.int .i64 0,.int .i64 0,.bool false,.int .i64 0,.slice none 0 0,.bool false] 32)) (w.heap.size+1) 32 #[.int .i64 0,.int .i64 0,.int .i64 0,.int .i64 0,.bool false,.int .i64 0,.slice none 0 0,.bool false]:=by have:=Blk.new (w.alloc (.cells #[.int .i64 0,.int .i64 0,.int .i64 0,.int .i64 0,.bool false,.int .i64 0,.slice none 0 0,.bool false] 32)) 32 #[.int .i64 0,.int .i64 0,.int .i64 0,.int .i64 0,.bool false,.int .i64 0,.slice none 0 0,.bool false];rwa [World.size_alloc] at this
 have h1:=h.below b1
 have g1:w.grownBy ((w.alloc (.cells #[.int .i64 0,.int .i64 0,.int .i64 0,.int .i64 0,.bool false,.int .i64 0,.slice none 0 0,.bool false] 32)).alloc (.cells #[.int .i64 0,.int .i64 0,.int .i64 0,.int .i64 0,.bool false,.int .i64 0,.slice none 0 0,.bool false] 32)) (some rb):=zAv b1
 have lt_o0:rb < w.heap.size:=hlt
 have lt_o1:rb < w.heap.size+1:=by omega
 have ge_o0:w.heap.size≤w.heap.size:=Nat.le_refl _
 have ge_o1:w.heap.size≤w.heap.size+1:=by omega
 clear h b1
 obtain ⟨a1,ha1⟩:∃a,a=w.heap.size+1:=⟨_,rfl⟩
 have HA1:=Lib.hid ha1
 have lt_o0_o1:w.heap.size < a1:=by omega
 go_enter Tryz.func98,Tryz.ntmps98
 go_wp2_with fail
 generalize ((w.alloc (.cells #[.int .i64 0,.int .i64 0,.int .i64 0,.int .i64 0,.bool false,.int .i64 0,.slice none 0 0,.bool false] 32)).alloc (.cells #[.int .i64 0,.int .i64 0,.int .i64 0,.int .i64 0,.bool false,.int .i64 0,.slice none 0 0,.bool false] 32))=X1 at k1_o0 k1_o1 h1 g1 ⊢
 rw [←ha1] at k1_o1 lt_o1 ge_o1 ⊢
 clear ha1
 refine (H1.out X1 h1).mono ?_
 rintro e X11 ⟨rfl,h11,q11⟩
 have k11_o0:=k1_o0.grownO q11 lt_o0
 have k11_o1:=k1_o1.grownO q11 lt_o1
 have g11:=zAb g1 q11
 clear h1 g1 k1_o0 k1_o1 q11 H1
 go_wp2_with fail
 go_loopw [5] (fun v wv=>∃(k:Nat) (X:World),X=wv∧1≤k∧k≤9∧v=.int .i64 k∧Hid (RX X rb F s1∧Blk X w.heap.size 32 #[.int .i64 0,.int .i64 0,.int .i64 0,.int .i64 0,.bool false,.int .i64 0,.slice none 0 0,.bool false]∧Blk X a1 32 #[.int .i64 (kTo K k),.int .i64 0,.int .i64 0,.int .i64 0,.bool false,.int .i64 0,.slice none 0 0,.bool false]∧w.grownBy X (some rb))) (fun v _=>9-(intOf v).toNat)
 case atStart=>exact ⟨1,_,rfl,by omega,by omega,rfl,Lib.hid (by rw [show kTo K 1=0 from by unfold kTo;split<;>omega];exact ⟨h11,k11_o0,k11_o1,g11⟩)⟩
 case round =>
  clear h11 g11 k11_o0 k11_o1
  obtain ⟨k,X,hX,hk1,hk9,rfl,HX⟩:=hrel
  subst hX
  by_cases hk:k≤8
  ·have i1:(k:Int)≤8:=by omega
   have n0:=HKV.out k hk1 hk
   by_cases hq:K=(k:Int)
   ·obtain ⟨h12,k12_o0,k12_o1,g12⟩:=HX.out
    rw [decide_eq_true hq] at n0
    have z13:=k12_o1.frozen 0
    have d13:X.cell? ⟨a1,0,none⟩=some (.int .i64 (kTo K k)):=(k12_o1.cell 0).trans rfl
    have k13_o1:Blk (X.setCell ⟨a1,0,none⟩ (.int .i64 (k:Int))) a1 32 #[.int .i64 (k:Int),.int .i64 0,.int .i64 0,.int .i64 0,.bool false,.int .i64 0,.slice none 0 0,.bool false]:=k12_o1.set_ 0 _
    have q13:Below (rb+1) X (X.setCell ⟨a1,0,none⟩ (.int .i64 (k:Int))):=(Below.refl _ _).setCell (p:=⟨a1,0,none⟩) lt_o1 _
    have p13:Below w.heap.size X (X.setCell ⟨a1,0,none⟩ (.int .i64 (k:Int))):=(Below.refl _ _).setCell (p:=⟨a1,0,none⟩) ge_o1 _
    have k13_o0:=k12_o0.far (p:=⟨a1,0,none⟩) (by simp only;omega) (.int .i64 (k:Int))
    have h13:=h12.over q13
    have g13:=zAd g12 p13
    clear h12 g12 k12_o0 k12_o1 q13 p13
    have HF:=Lib.hid (show kTo K (k+1)=(k:Int) by unfold kTo;rw [if_pos (by omega)];exact hq)
    have HZ:=Lib.hid (show RX (X.setCell ⟨a1,0,none⟩ (.int .i64 (k:Int))) rb F s1∧Blk (X.setCell ⟨a1,0,none⟩ (.int .i64 (k:Int))) w.heap.size 32 #[.int .i64 0,.int .i64 0,.int .i64 0,.int .i64 0,.bool false,.int .i64 0,.slice none 0 0,.bool false]∧Blk (X.setCell ⟨a1,0,none⟩ (.int .i64 (k:Int))) a1 32 #[.int .i64 (k:Int),.int .i64 0,.int .i64 0,.int .i64 0,.bool false,.int .i64 0,.slice none 0 0,.bool false]∧w.grownBy (X.setCell ⟨a1,0,none⟩ (.int .i64 (k:Int))) (some rb) from ⟨h13,k13_o0,k13_o1,g13⟩)
    clear HX hq h13 g13 k13_o0 k13_o1
    go_wp2_with (first | (go_at_call 106;refine (zBV (k:Int) (by omega) (by omega) _).mono ?_;rintro e wq ⟨rfl,rfl⟩))
    go_roundw
    case rel=>exact ⟨k+1,_,rfl,by omega,by omega,by go_num,Lib.hid (by rw [HF.out];exact HZ.out)⟩
    case measure=>simp [intOf];omega
   ·rw [decide_eq_false hq] at n0
    have HF:=Lib.hid (show kTo K (k+1)=kTo K k by unfold kTo;split<;>split<;>omega)
    clear hq
    go_wp2_with (first | (go_at_call 106;refine (zBV (k:Int) (by omega) (by omega) _).mono ?_;rintro e wq ⟨rfl,rfl⟩))
    go_roundw
    case rel=>exact ⟨k+1,_,rfl,by omega,by omega,by go_num,Lib.hid (by rw [HF.out];exact HX.out)⟩
    case measure=>simp [intOf];omega
  ·have i1:¬(k:Int)≤8:=by omega
   obtain ⟨h14,k14_o0,k14_o1,g14⟩:=HX.out
   rw [show kTo K k=K from by unfold kTo;rw [if_pos (by omega)]] at k14_o1
   obtain ⟨c4,z4,hm⟩:=HM.out X h14
   have HZ:=Lib.hid (fun (q:Bool) hq=>(show RX (X.setCell ⟨rb,4,none⟩ (.bool q)) rb F s2∧Blk (X.setCell ⟨rb,4,none⟩ (.bool q)) w.heap.size 32 #[.int .i64 0,.int .i64 0,.int .i64 0,.int .i64 0,.bool false,.int .i64 0,.slice none 0 0,.bool false]∧Blk (X.setCell ⟨rb,4,none⟩ (.bool q)) a1 32 #[.int .i64 K,.int .i64 0,.int .i64 0,.int .i64 0,.bool false,.int .i64 0,.slice none 0 0,.bool false]∧w.grownBy (X.setCell ⟨rb,4,none⟩ (.bool q)) (some rb) from ⟨(hm q hq).1,k14_o0.grownO (hm q hq).2 lt_o0,k14_o1.grownO (hm q hq).2 lt_o1,zAb g14 (hm q hq).2⟩))
   have f0:X.cell? ⟨a1,0,none⟩=some (.int .i64 K):=(k14_o1.cell 0).trans rfl
   clear hm HM HX HKV h14 g14 k14_o0 k14_o1
   obtain ⟨q0,hq0⟩:∃q,decide (K=0)=q:=⟨_,rfl⟩
   have i2:(K==0)=q0:=by rw [←hq0];by_cases e:K=0<;>simp [e]
   rw [hq0] at HZ
   clear hq0
   go_upto_region 8 with fail
   go_cut [29] (fun _ wv=>∃X:World,X=wv∧RX X rb F s2∧Blk X w.heap.size 32 #[.int .i64 0,.int .i64 0,.int .i64 0,.int .i64 0,.bool false,.int .i64 0,.slice none 0 0,.bool false]∧Blk X a1 32 #[.int .i64 K,.int .i64 0,.int .i64 0,.int .i64 0,.bool false,.int .i64 0,.slice none 0 0,.bool false]∧w.grownBy X (some rb))
   case first =>
    cases b<;>cases q0
    all_goals
     go_wp2_with fail
     go_meet
     case rel=>exact ⟨_,rfl,HZ.out _ rfl⟩
   case rest =>
    clear c4 z4 HZ f0 i2
    obtain ⟨X,hX,h15,k15_o0,k15_o1,g15⟩:=hcut
    subst hX
    go_wp2_with fail
    refine (H2.out X h15).mono ?_
    rintro e X16 ⟨rfl,h16,q16⟩
    have k16_o0:=k15_o0.grownO q16 lt_o0
    have k16_o1:=k15_o1.grownO q16 lt_o1
    have g16:=zAb g15 q16
    clear h15 g15 k15_o0 k15_o1 q16 H2
    go_wp2_with fail
    refine (H3.out X16 h16).mono ?_
    rintro e X17 ⟨rfl,h17,q17⟩
    have k17_o0:=k16_o0.grownO q17 lt_o0
    have k17_o1:=k16_o1.grownO q17 lt_o1
    have g17:=zAb g16 q17
    clear h16 g16 k16_o0 k16_o1 q17 H3
    have z18:=k17_o1.frozen 1
    have d18:X17.cell? ⟨a1,1,none⟩=some (.int .i64 0):=(k17_o1.cell 1).trans rfl
    have k18_o1:Blk (X17.setCell ⟨a1,1,none⟩ (.int .i64 (f:Int))) a1 32 #[.int .i64 K,.int .i64 (f:Int),.int .i64 0,.int .i64 0,.bool false,.int .i64 0,.slice none 0 0,.bool false]:=k17_o1.set_ 1 _
    have q18:Below (rb+1) X17 (X17.setCell ⟨a1,1,none⟩ (.int .i64 (f:Int))):=(Below.refl _ _).setCell (p:=⟨a1,1,none⟩) lt_o1 _
    have p18:Below w.heap.size X17 (X17.setCell ⟨a1,1,none⟩ (.int .i64 (f:Int))):=(Below.refl _ _).setCell (p:=⟨a1,1,none⟩) ge_o1 _
    have k18_o0:=k17_o0.far (p:=⟨a1,1,none⟩) (by simp only;omega) (.int .i64 (f:Int))
    have h18:=h17.over q18
    have g18:=zAd g17 p18
    clear h17 g17 k17_o0 k17_o1 q18 p18
    go_upto_region 10 with fail
    clear z18 d18
    generalize X17.setCell ⟨a1,1,none⟩ (.int .i64 (f:Int))=X9 at h18 g18 k18_o0 k18_o1 ⊢
    have HA:=Lib.hid (show RX X9 rb F s4∧Blk X9 w.heap.size 32 #[.int .i64 0,.int .i64 0,.int .i64 0,.int .i64 0,.bool false,.int .i64 0,.slice none 0 0,.bool false]∧Blk X9 a1 32 #[.int .i64 K,.int .i64 (f:Int),.int .i64 0,.int .i64 0,.bool false,.int .i64 0,.slice none 0 0,.bool false]∧w.grownBy X9 (some rb) from ⟨h18,k18_o0,k18_o1,g18⟩)
    clear h18 g18 k18_o0 k18_o1
    by_cases n4:K=4
    ·subst n4
     exact absurd HW.out (by omega)
    by_cases n5:K=5
    ·subst n5
     exact absurd HW.out (by omega)
    by_cases n6:K=6
    ·subst n6
     exact absurd HW.out (by omega)
    by_cases n7:K=7
    ·subst n7
     exact absurd HW.out (by omega)
    by_cases n3:K=3
    ·subst n3
     obtain ⟨h20,k20_o0,k20_o1,g20⟩:=HA.out
     clear HA
     have f0:X9.cell? ⟨a1,0,none⟩=some (.int .i64 3):=(k20_o1.cell 0).trans rfl
     have HX0:=Lib.hid (show PathJ w rb a1 F f s4 X9 s4 [] none 0 0 (s4.T.length+1) from ⟨h20,k20_o0,k20_o1,g20,Row.none_ _ _ _,rfl,by omega,by omega,rfl⟩)
     go_wp2_with fail
     clear f0 h20 g20 k20_o0 k20_o1
     refine zHt 0 s4.T.length (fun n a wv=>∃(X:World) (si:RS) (Pi:List Sp) (B:Option Addr) (m c N:Nat),(a.tmps.size=129∧a.tmps.getD 0 undef=.pointer (some ⟨rb,0,none⟩)∧a.tmps.getD 2 undef=.pointer (some ⟨w.heap.size,0,none⟩)∧a.tmps.getD 3 undef=.pointer (some ⟨a1,0,none⟩)∧a.defers=[])∧X=wv∧n=si.T.length∧Hid (PathJ w rb a1 F f s4 X si Pi B m c N)) ?_ ?_
     ·exact ⟨_,s4,[],none,0,0,_,⟨rfl,rfl,rfl,rfl,rfl⟩,rfl,rfl,HX0⟩
     clear HX0
     rintro n ⟨tm,df⟩ X ⟨X0,si,Pi,B,m,c,N,⟨hs,t0,t2,t3,hd⟩,hX,hn,HJ⟩
     subst hX
     subst hn
     simp only at hs t0 t2 t3 hd
     subst hd
     obtain ⟨v,hv⟩:∃v:Nat→Value,tm=#[.pointer (some ⟨rb,0,none⟩),v 1,.pointer (some ⟨w.heap.size,0,none⟩),.pointer (some ⟨a1,0,none⟩),v 4,v 5,v 6,v 7,v 8,v 9,v 10,v 11,v 12,v 13,v 14,v 15,v 16,v 17,v 18,v 19,v 20,v 21,v 22,v 23,v 24,v 25,v 26,v 27,v 28,v 29,v 30,v 31,v 32,v 33,v 34,v 35,v 36,v 37,v 38,v 39,v 40,v 41,v 42,v 43,v 44,v 45,v 46,v 47,v 48,v 49,v 50,v 51,v 52,v 53,v 54,v 55,v 56,v 57,v 58,v 59,v 60,v 61,v 62,v 63,v 64,v 65,v 66,v 67,v 68,v 69,v 70,v 71,v 72,v 73,v 74,v 75,v 76,v 77,v 78,v 79,v 80,v 81,v 82,v 83,v 84,v 85,v 86,v 87,v 88,v 89,v 90,v 91,v 92,v 93,v 94,v 95,v 96,v 97,v 98,v 99,v 100,v 101,v 102,v 103,v 104,v 105,v 106,v 107,v 108,v 109,v 110,v 111,v 112,v 113,v 114,v 115,v 116,v 117,v 118,v 119,v 120,v 121,v 122,v 123,v 124,v 125,v 126,v 127,v 128]:=⟨fun i=>tm.getD i undef,by rw [←t0,←t2,←t3];exact zEY 129 tm hs⟩
     subst hv
     clear hs t0 t2 t3
     obtain ⟨h30,k30_o0,k30_o1,g30,r_30,hm,hle,hN,hpk⟩:=HJ.out
     obtain ⟨N,rfl⟩:∃n',N=n'+1:=⟨N-1,by omega⟩
     rw [zDH] at hpk
     have HIS:=Lib.hid (fun wx (hx:RX wx rb F si)=>rx_is hx zAM)
     cases hib:isB si.T zAM with
     | true =>
      obtain ⟨sj,ej⟩:∃x,si.is zAM=x:=⟨_,rfl⟩
      obtain ⟨⟨xf,xl,xfar,xpc⟩,ex⟩:∃x,(zAN F.L sj).1=x:=⟨_,rfl⟩
      obtain ⟨se,ee⟩:∃x,(zAN F.L sj).2=x:=⟨_,rfl⟩
      have HE:=Lib.hid (show zBN F.L 3 f s4=(⟨3,f,⟨xf,xl,xfar,xpc⟩,Pi,false⟩,se) by unfold zBN;rw [if_neg (by omega),if_pos rfl,←hpk,if_pos hib,ej,ex,ee])
      have HPL:=Lib.hid (fun wx (hx:RX wx rb F sj)=>zDK rb F sj wx hx)
      simp only [ex,ee] at HPL
      simp only [hib,ej] at HIS
      have HMM:=Lib.hid hm
      clear hib ej ex ee hpk HJ hN hm hle
      go_wp2_with fail
      refine (HIS.out X0 h30).mono ?_
      rintro e X21 ⟨rfl,h21,q21⟩
      have k21_o0:=k30_o0.grownO q21 lt_o0
      have k21_o1:=k30_o1.grownO q21 lt_o1
      have r_21:=r_30.overO q21 (by omega)
      have g21:=zAb g30 q21
      clear h30 g30 k30_o0 k30_o1 r_30 q21 HIS
      go_wp2_with fail
      refine (HPL.out X21 h21).mono ?_
      rintro e X22 ⟨rfl,h22,q22⟩
      have k22_o0:=k21_o0.grownO q22 lt_o0
      have k22_o1:=k21_o1.grownO q22 lt_o1
      have r_22:=r_21.overO q22 (by omega)
      have g22:=zAb g21 q22
      clear h21 g21 k21_o0 k21_o1 r_21 q22 HPL
      have z23_0:=k22_o1.frozen 2
      have d23_0:X22.cell? ⟨a1,2,none⟩=some (.int .i64 0):=(k22_o1.cell 2).trans rfl
      have z23_1:=k22_o1.frozen 3
      have d23_1:X22.cell? ⟨a1,3,none⟩=some (.int .i64 0):=(k22_o1.cell 3).trans rfl
      have z23_2:=k22_o1.frozen 4
      have d23_2:X22.cell? ⟨a1,4,none⟩=some (.bool false):=(k22_o1.cell 4).trans rfl
      have z23_3:=k22_o1.frozen 5
      have d23_3:X22.cell? ⟨a1,5,none⟩=some (.int .i64 0):=(k22_o1.cell 5).trans rfl
      have k23_0:Blk (X22.setCell ⟨a1,2,none⟩ (.int .i64 xf)) a1 32 #[.int .i64 3,.int .i64 (f:Int),.int .i64 xf,.int .i64 0,.bool false,.int .i64 0,.slice B m c,.bool false]:=k22_o1.set_ 2 _
      have q23_0:Below (rb+1) X22 (X22.setCell ⟨a1,2,none⟩ (.int .i64 xf)):=(Below.refl _ _).setCell (p:=⟨a1,2,none⟩) lt_o1 _
      have p23_0:Below w.heap.size X22 (X22.setCell ⟨a1,2,none⟩ (.int .i64 xf)):=(Below.refl _ _).setCell (p:=⟨a1,2,none⟩) ge_o1 _
      have o23_0_o0:=k22_o0.far (p:=⟨a1,2,none⟩) (by simp only;omega) (.int .i64 xf)
      have r_23_0:=r_22.farSet (g:=a1) 2 (.int .i64 xf) (fun k hk=>by have:=(r_22.lt k hk).1;omega)
      have k23_1:Blk ((X22.setCell ⟨a1,2,none⟩ (.int .i64 xf)).setCell ⟨a1,3,none⟩ (.int .i64 xl)) a1 32 #[.int .i64 3,.int .i64 (f:Int),.int .i64 xf,.int .i64 xl,.bool false,.int .i64 0,.slice B m c,.bool false]:=k23_0.set_ 3 _
      have q23_1:Below (rb+1) X22 ((X22.setCell ⟨a1,2,none⟩ (.int .i64 xf)).setCell ⟨a1,3,none⟩ (.int .i64 xl)):=q23_0.setCell (p:=⟨a1,3,none⟩) lt_o1 _
      have p23_1:Below w.heap.size X22 ((X22.setCell ⟨a1,2,none⟩ (.int .i64 xf)).setCell ⟨a1,3,none⟩ (.int .i64 xl)):=p23_0.setCell (p:=⟨a1,3,none⟩) ge_o1 _
      have o23_1_o0:=o23_0_o0.far (p:=⟨a1,3,none⟩) (by simp only;omega) (.int .i64 xl)
      have r_23_1:=r_23_0.farSet (g:=a1) 3 (.int .i64 xl) (fun k hk=>by have:=(r_23_0.lt k hk).1;omega)
      have k23_2:Blk (((X22.setCell ⟨a1,2,none⟩ (.int .i64 xf)).setCell ⟨a1,3,none⟩ (.int .i64 xl)).setCell ⟨a1,4,none⟩ (.bool xfar)) a1 32 #[.int .i64 3,.int .i64 (f:Int),.int .i64 xf,.int .i64 xl,.bool xfar,.int .i64 0,.slice B m c,.bool false]:=k23_1.set_ 4 _
      have q23_2:Below (rb+1) X22 (((X22.setCell ⟨a1,2,none⟩ (.int .i64 xf)).setCell ⟨a1,3,none⟩ (.int .i64 xl)).setCell ⟨a1,4,none⟩ (.bool xfar)):=q23_1.setCell (p:=⟨a1,4,none⟩) lt_o1 _
      have p23_2:Below w.heap.size X22 (((X22.setCell ⟨a1,2,none⟩ (.int .i64 xf)).setCell ⟨a1,3,none⟩ (.int .i64 xl)).setCell ⟨a1,4,none⟩ (.bool xfar)):=p23_1.setCell (p:=⟨a1,4,none⟩) ge_o1 _
      have o23_2_o0:=o23_1_o0.far (p:=⟨a1,4,none⟩) (by simp only;omega) (.bool xfar)
      have r_23_2:=r_23_1.farSet (g:=a1) 4 (.bool xfar) (fun k hk=>by have:=(r_23_1.lt k hk).1;omega)
      have k23_3:Blk ((((X22.setCell ⟨a1,2,none⟩ (.int .i64 xf)).setCell ⟨a1,3,none⟩ (.int .i64 xl)).setCell ⟨a1,4,none⟩ (.bool xfar)).setCell ⟨a1,5,none⟩ (.int .i64 xpc)) a1 32 #[.int .i64 3,.int .i64 (f:Int),.int .i64 xf,.int .i64 xl,.bool xfar,.int .i64 xpc,.slice B m c,.bool false]:=k23_2.set_ 5 _
      have q23_3:Below (rb+1) X22 ((((X22.setCell ⟨a1,2,none⟩ (.int .i64 xf)).setCell ⟨a1,3,none⟩ (.int .i64 xl)).setCell ⟨a1,4,none⟩ (.bool xfar)).setCell ⟨a1,5,none⟩ (.int .i64 xpc)):=q23_2.setCell (p:=⟨a1,5,none⟩) lt_o1 _
      have p23_3:Below w.heap.size X22 ((((X22.setCell ⟨a1,2,none⟩ (.int .i64 xf)).setCell ⟨a1,3,none⟩ (.int .i64 xl)).setCell ⟨a1,4,none⟩ (.bool xfar)).setCell ⟨a1,5,none⟩ (.int .i64 xpc)):=p23_2.setCell (p:=⟨a1,5,none⟩) ge_o1 _
      have o23_3_o0:=o23_2_o0.far (p:=⟨a1,5,none⟩) (by simp only;omega) (.int .i64 xpc)
      have r_23_3:=r_23_2.farSet (g:=a1) 5 (.int .i64 xpc) (fun k hk=>by have:=(r_23_2.lt k hk).1;omega)
      have h23:=h22.over q23_3
      have g23:=zAd g22 p23_3
      clear h22 g22 k22_o0 k22_o1 r_22 q23_0 p23_0 k23_0 o23_0_o0 r_23_0 q23_1 p23_1 k23_1 o23_1_o0 r_23_1 q23_2 p23_2 k23_2 o23_2_o0 r_23_2 q23_3 p23_3
      go_wp2_with fail
      rw [jumpsQ_exit]
      clear z23_0 d23_0 z23_1 d23_1 z23_2 d23_2 z23_3 d23_3
      generalize ((((X22.setCell ⟨a1,2,none⟩ (.int .i64 xf)).setCell ⟨a1,3,none⟩ (.int .i64 xl)).setCell ⟨a1,4,none⟩ (.bool xfar)).setCell ⟨a1,5,none⟩ (.int .i64 xpc))=X24 at h23 g23 o23_3_o0 k23_3 r_23_3 ⊢
      have f0:X24.cell? ⟨a1,0,none⟩=some (.int .i64 3):=(k23_3.cell 0).trans rfl
      have f1:X24.cell? ⟨a1,1,none⟩=some (.int .i64 (f:Int)):=(k23_3.cell 1).trans rfl
      have f2:X24.cell? ⟨a1,2,none⟩=some (.int .i64 xf):=(k23_3.cell 2).trans rfl
      have f3:X24.cell? ⟨a1,3,none⟩=some (.int .i64 xl):=(k23_3.cell 3).trans rfl
      have f4:X24.cell? ⟨a1,4,none⟩=some (.bool xfar):=(k23_3.cell 4).trans rfl
      have f5:X24.cell? ⟨a1,5,none⟩=some (.int .i64 xpc):=(k23_3.cell 5).trans rfl
      have f6:X24.cell? ⟨a1,6,none⟩=some (.slice B m c):=(k23_3.cell 6).trans rfl
      have f7:X24.cell? ⟨a1,7,none⟩=some (.bool false):=(k23_3.cell 7).trans rfl
      have y0:X24.cell? ⟨w.heap.size,0,none⟩=some (.int .i64 0):=(o23_3_o0.cell 0).trans rfl
      have yz0:=o23_3_o0.frozen 0
      have y1:X24.cell? ⟨w.heap.size,1,none⟩=some (.int .i64 0):=(o23_3_o0.cell 1).trans rfl
      have yz1:=o23_3_o0.frozen 1
      have y2:X24.cell? ⟨w.heap.size,2,none⟩=some (.int .i64 0):=(o23_3_o0.cell 2).trans rfl
      have yz2:=o23_3_o0.frozen 2
      have y3:X24.cell? ⟨w.heap.size,3,none⟩=some (.int .i64 0):=(o23_3_o0.cell 3).trans rfl
      have yz3:=o23_3_o0.frozen 3
      have y4:X24.cell? ⟨w.heap.size,4,none⟩=some (.bool false):=(o23_3_o0.cell 4).trans rfl
      have yz4:=o23_3_o0.frozen 4
      have y5:X24.cell? ⟨w.heap.size,5,none⟩=some (.int .i64 0):=(o23_3_o0.cell 5).trans rfl
      have yz5:=o23_3_o0.frozen 5
      have y6:X24.cell? ⟨w.heap.size,6,none⟩=some (.slice none 0 0):=(o23_3_o0.cell 6).trans rfl
      have yz6:=o23_3_o0.frozen 6
      have y7:X24.cell? ⟨w.heap.size,7,none⟩=some (.bool false):=(o23_3_o0.cell 7).trans rfl
      have yz7:=o23_3_o0.frozen 7
      have hS:=o23_3_o0.store8 (.int .i64 3) (.int .i64 (f:Int)) (.int .i64 xf) (.int .i64 xl) (.bool xfar) (.int .i64 xpc) (.slice B m c) (.bool false)
      have bS:=zAf (Below.refl (rb+1) X24) (show rb+1≤w.heap.size from lt_o0) (.int .i64 3) (.int .i64 (f:Int)) (.int .i64 xf) (.int .i64 xl) (.bool xfar) (.int .i64 xpc) (.slice B m c) (.bool false)
      have bSw:=zAf (Below.refl w.heap.size X24) ge_o0 (.int .i64 3) (.int .i64 (f:Int)) (.int .i64 xf) (.int .i64 xl) (.bool xfar) (.int .i64 xpc) (.slice B m c) (.bool false)
      have hX:=h23.over bS
      have gX:=zAd g23 bSw
      have hE:=r_23_3.store8  (show w.heap.size < a1+1 by omega) (.int .i64 3) (.int .i64 (f:Int)) (.int .i64 xf) (.int .i64 xl) (.bool xfar) (.int .i64 xpc) (.slice B m c) (.bool false)
      go_wp2_with fail
      exact zAF rfl rfl hS Tryz.underlying32 rfl (by kernel_rfl) rfl (GIV.out ⟨3,f,⟨xf,xl,xfar,xpc⟩,Pi,false⟩ se HE.out _ B m c (hE.mono (by omega)) HMM.out hX gX)
     | false =>
      obtain ⟨ov,eov⟩:∃x,ovT (xa si.T 0)=x:=⟨_,rfl⟩
      obtain ⟨sa,ea⟩:∃x,si.over=x:=⟨_,rfl⟩
      obtain ⟨⟨xf,xl,xfar,xpc⟩,ex⟩:∃x,(zAN F.L sa).1=x:=⟨_,rfl⟩
      obtain ⟨sb,eb⟩:∃x,(zAN F.L sa).2=x:=⟨_,rfl⟩
      obtain ⟨sc,ec⟩:∃x,sb.must [44]=x:=⟨_,rfl⟩
      have ES:stpR F.L si=(⟨⟨xf,xl,xfar,xpc⟩,ov⟩,sc):=by unfold stpR;rw [ea,ex,eb,ec,eov]
      have HST:=Lib.hid (fun (hb:sc.bad=false)=>(show sc.T.length < si.T.length by have:=stp_ok (L:=F.L) (s:=si) (by rw [ES];exact hb);obtain ⟨_,y,_,hT,_⟩:=this;rw [ES] at hT;have:=congrArg List.length hT;simp [stT] at this;omega))
      have HPK:=Lib.hid (show (if sc.bad then ((Pi++[(⟨⟨xf,xl,xfar,xpc⟩,ov⟩:Sp)],s0),sc) else zDH F.L N sc (Pi++[(⟨⟨xf,xl,xfar,xpc⟩,ov⟩:Sp)]))=zDH F.L (s4.T.length+1) s4 [] by rw [←hpk,hib,ES];rfl)
      have HPL:=Lib.hid (fun wx (hx:RX wx rb F sa)=>zDK rb F sa wx hx)
      simp only [ex,eb] at HPL
      have HOV:=Lib.hid (fun wx (hx:RX wx rb F si)=>zGO hx)
      simp only [eov,ea] at HOV
      simp only [hib,is_no_self hib] at HIS
      have HMM:=Lib.hid hm
      have HLE:=Lib.hid hle
      have HNN:=Lib.hid hN
      have hm5:m≤100000:=by omega
      have EC:=Lib.hid ec
      clear hib eov ea ex eb ec ES hpk HJ hN hm hle
      go_wp2_with fail
      refine (HIS.out X0 h30).mono ?_
      rintro e X26 ⟨rfl,h26,q26⟩
      have k26_o0:=k30_o0.grownO q26 lt_o0
      have k26_o1:=k30_o1.grownO q26 lt_o1
      have r_26:=r_30.overO q26 (by omega)
      have g26:=zAb g30 q26
      clear h30 g30 k30_o0 k30_o1 r_30 q26 HIS
      go_wp2_with fail
      refine (HOV.out X26 h26).mono ?_
      rintro e X27 ⟨rfl,h27,q27⟩
      have k27_o0:=k26_o0.grownO q27 lt_o0
      have k27_o1:=k26_o1.grownO q27 lt_o1
      have r_27:=r_26.overO q27 (by omega)
      have g27:=zAb g26 q27
      clear h26 g26 k26_o0 k26_o1 r_26 q27 HOV
      have hBst0:=fun k hk=>(r_27.lt k hk).2
      have q28:Below X27.heap.size X27 (X27.alloc (.cells #[.int .i64 0,.int .i64 0,.bool false,.int .i64 0,.bool ov] 86)):=(Below.refl _ _).alloc (Nat.le_refl _) _
      have k28_o0:=k27_o0.below q28 k27_o0.lt
      have k28_o1:=k27_o1.below q28 k27_o1.lt
      have k28_st:Blk (X27.alloc (.cells #[.int .i64 0,.int .i64 0,.bool false,.int .i64 0,.bool ov] 86)) X27.heap.size 86 #[.int .i64 0,.int .i64 0,.bool false,.int .i64 0,.bool ov]:=Blk.new _ _ _
      have h28:=h27.below q28
      have r_28:=r_27.below q28
      have g28:=zAb g27 (zAv (row:=some rb) q28)
      have lt_st:=h27.lt
      have lt_o0_st:=k27_o0.lt
      have lt_o1_st:=k27_o1.lt
      have ge_st:=g27.size
      clear h27 g27 k27_o0 k27_o1 r_27 q28
      go_wp2_with fail
      generalize X27.alloc (.cells #[.int .i64 0,.int .i64 0,.bool false,.int .i64 0,.bool ov] 86)=X29 at h28 g28 k28_o0 k28_o1 k28_st r_28 ⊢
      generalize X27.heap.size=a_st at k28_st lt_st ge_st lt_o0_st lt_o1_st hBst0 ⊢
      have hBst:=hBst0
      clear hBst0
      refine (HPL.out X29 h28).mono ?_
      rintro e X30 ⟨rfl,h30,q30⟩
      have k30_o0:=k28_o0.grownO q30 lt_o0
      have k30_o1:=k28_o1.grownO q30 lt_o1
      have k30_st:=k28_st.grownO q30 lt_st
      have r_30:=r_28.overO q30 (by omega)
      have g30:=zAb g28 q30
      clear h28 g28 k28_o0 k28_o1 k28_st r_28 q30 HPL
      have z31_0:=k30_st.frozen 0
      have d31_0:X30.cell? ⟨a_st,0,none⟩=some (.int .i64 0):=(k30_st.cell 0).trans rfl
      have z31_1:=k30_st.frozen 1
      have d31_1:X30.cell? ⟨a_st,1,none⟩=some (.int .i64 0):=(k30_st.cell 1).trans rfl
      have z31_2:=k30_st.frozen 2
      have d31_2:X30.cell? ⟨a_st,2,none⟩=some (.bool false):=(k30_st.cell 2).trans rfl
      have z31_3:=k30_st.frozen 3
      have d31_3:X30.cell? ⟨a_st,3,none⟩=some (.int .i64 0):=(k30_st.cell 3).trans rfl
      have k31_0:Blk (X30.setCell ⟨a_st,0,none⟩ (.int .i64 xf)) a_st 86 #[.int .i64 xf,.int .i64 0,.bool false,.int .i64 0,.bool ov]:=k30_st.set_ 0 _
      have q31_0:Below (rb+1) X30 (X30.setCell ⟨a_st,0,none⟩ (.int .i64 xf)):=(Below.refl _ _).setCell (p:=⟨a_st,0,none⟩) lt_st _
      have p31_0:Below w.heap.size X30 (X30.setCell ⟨a_st,0,none⟩ (.int .i64 xf)):=(Below.refl _ _).setCell (p:=⟨a_st,0,none⟩) ge_st _
      have o31_0_o0:=k30_o0.far (p:=⟨a_st,0,none⟩) (by simp only;omega) (.int .i64 xf)
      have o31_0_o1:=k30_o1.far (p:=⟨a_st,0,none⟩) (by simp only;omega) (.int .i64 xf)
      have r_31_0:=r_30.farSet (g:=a_st) 0 (.int .i64 xf) (fun k hk=>Nat.ne_of_lt (hBst k hk))
      have k31_1:Blk ((X30.setCell ⟨a_st,0,none⟩ (.int .i64 xf)).setCell ⟨a_st,1,none⟩ (.int .i64 xl)) a_st 86 #[.int .i64 xf,.int .i64 xl,.bool false,.int .i64 0,.bool ov]:=k31_0.set_ 1 _
      have q31_1:Below (rb+1) X30 ((X30.setCell ⟨a_st,0,none⟩ (.int .i64 xf)).setCell ⟨a_st,1,none⟩ (.int .i64 xl)):=q31_0.setCell (p:=⟨a_st,1,none⟩) lt_st _
      have p31_1:Below w.heap.size X30 ((X30.setCell ⟨a_st,0,none⟩ (.int .i64 xf)).setCell ⟨a_st,1,none⟩ (.int .i64 xl)):=p31_0.setCell (p:=⟨a_st,1,none⟩) ge_st _
      have o31_1_o0:=o31_0_o0.far (p:=⟨a_st,1,none⟩) (by simp only;omega) (.int .i64 xl)
      have o31_1_o1:=o31_0_o1.far (p:=⟨a_st,1,none⟩) (by simp only;omega) (.int .i64 xl)
      have r_31_1:=r_31_0.farSet (g:=a_st) 1 (.int .i64 xl) (fun k hk=>Nat.ne_of_lt (hBst k hk))
      have k31_2:Blk (((X30.setCell ⟨a_st,0,none⟩ (.int .i64 xf)).setCell ⟨a_st,1,none⟩ (.int .i64 xl)).setCell ⟨a_st,2,none⟩ (.bool xfar)) a_st 86 #[.int .i64 xf,.int .i64 xl,.bool xfar,.int .i64 0,.bool ov]:=k31_1.set_ 2 _
      have q31_2:Below (rb+1) X30 (((X30.setCell ⟨a_st,0,none⟩ (.int .i64 xf)).setCell ⟨a_st,1,none⟩ (.int .i64 xl)).setCell ⟨a_st,2,none⟩ (.bool xfar)):=q31_1.setCell (p:=⟨a_st,2,none⟩) lt_st _
      have p31_2:Below w.heap.size X30 (((X30.setCell ⟨a_st,0,none⟩ (.int .i64 xf)).setCell ⟨a_st,1,none⟩ (.int .i64 xl)).setCell ⟨a_st,2,none⟩ (.bool xfar)):=p31_1.setCell (p:=⟨a_st,2,none⟩) ge_st _
      have o31_2_o0:=o31_1_o0.far (p:=⟨a_st,2,none⟩) (by simp only;omega) (.bool xfar)
      have o31_2_o1:=o31_1_o1.far (p:=⟨a_st,2,none⟩) (by simp only;omega) (.bool xfar)
      have r_31_2:=r_31_1.farSet (g:=a_st) 2 (.bool xfar) (fun k hk=>Nat.ne_of_lt (hBst k hk))
      have k31_3:Blk ((((X30.setCell ⟨a_st,0,none⟩ (.int .i64 xf)).setCell ⟨a_st,1,none⟩ (.int .i64 xl)).setCell ⟨a_st,2,none⟩ (.bool xfar)).setCell ⟨a_st,3,none⟩ (.int .i64 xpc)) a_st 86 #[.int .i64 xf,.int .i64 xl,.bool xfar,.int .i64 xpc,.bool ov]:=k31_2.set_ 3 _
      have q31_3:Below (rb+1) X30 ((((X30.setCell ⟨a_st,0,none⟩ (.int .i64 xf)).setCell ⟨a_st,1,none⟩ (.int .i64 xl)).setCell ⟨a_st,2,none⟩ (.bool xfar)).setCell ⟨a_st,3,none⟩ (.int .i64 xpc)):=q31_2.setCell (p:=⟨a_st,3,none⟩) lt_st _
      have p31_3:Below w.heap.size X30 ((((X30.setCell ⟨a_st,0,none⟩ (.int .i64 xf)).setCell ⟨a_st,1,none⟩ (.int .i64 xl)).setCell ⟨a_st,2,none⟩ (.bool xfar)).setCell ⟨a_st,3,none⟩ (.int .i64 xpc)):=p31_2.setCell (p:=⟨a_st,3,none⟩) ge_st _
      have o31_3_o0:=o31_2_o0.far (p:=⟨a_st,3,none⟩) (by simp only;omega) (.int .i64 xpc)
      have o31_3_o1:=o31_2_o1.far (p:=⟨a_st,3,none⟩) (by simp only;omega) (.int .i64 xpc)
      have r_31_3:=r_31_2.farSet (g:=a_st) 3 (.int .i64 xpc) (fun k hk=>Nat.ne_of_lt (hBst k hk))
      have h31:=h30.over q31_3
      have g31:=zAd g30 p31_3
      clear h30 g30 k30_o0 k30_o1 k30_st r_30 q31_0 p31_0 k31_0 o31_0_o0 o31_0_o1 r_31_0 q31_1 p31_1 k31_1 o31_1_o0 o31_1_o1 r_31_1 q31_2 p31_2 k31_2 o31_2_o0 o31_2_o1 r_31_2 q31_3 p31_3
      go_upto_region 18 with fail
      clear z31_0 d31_0 z31_1 d31_1 z31_2 d31_2 z31_3 d31_3
      generalize ((((X30.setCell ⟨a_st,0,none⟩ (.int .i64 xf)).setCell ⟨a_st,1,none⟩ (.int .i64 xl)).setCell ⟨a_st,2,none⟩ (.bool xfar)).setCell ⟨a_st,3,none⟩ (.int .i64 xpc))=X32 at h31 g31 o31_3_o0 o31_3_o1 k31_3 r_31_3 ⊢
      have f6:X32.cell? ⟨a1,6,none⟩=some (.slice B m c):=(o31_3_o1.cell 6).trans rfl
      have y0:X32.cell? ⟨a_st,0,none⟩=some (.int .i64 xf):=(k31_3.cell 0).trans rfl
      have y1:X32.cell? ⟨a_st,1,none⟩=some (.int .i64 xl):=(k31_3.cell 1).trans rfl
      have y2:X32.cell? ⟨a_st,2,none⟩=some (.bool xfar):=(k31_3.cell 2).trans rfl
      have y3:X32.cell? ⟨a_st,3,none⟩=some (.int .i64 xpc):=(k31_3.cell 3).trans rfl
      have y4:X32.cell? ⟨a_st,4,none⟩=some (.bool ov):=(k31_3.cell 4).trans rfl
      have hsz:a1+1≤X32.heap.size:=by have:=o31_3_o1.lt;omega
      go_upto_region 19 with (at_builtin;refine zGT ?_)
      refine Lib.hid ?_
      refine pushP (y:=⟨⟨xf,xl,xfar,xpc⟩,ov⟩) (N:=m+1) (base:=a1+1) (A:=B) (n:=m) (c:=c) (P:=Pi) rfl (.tmp 58) (.tmp 60) ?_ ?_ ?_ ?_ ?_ ?_ ?_ ?_
      ·rfl
      ·exact r_31_3
      ·rfl
      ·rfl
      ·rfl
      ·omega
      ·exact hsz
      intro A2 c2 w9 hR9 hg9 hl9
      have hb9:=r_31_3.belowOf hg9 hsz
      have h9:=h31.over (hb9.mono (by omega))
      have k9_o0:=o31_3_o0.below hb9 (by omega)
      have k9_o1:=o31_3_o1.below hb9 (by omega)
      have g9:=zAd g31 (hb9.mono (by omega))
      clear hsz hb9 hg9 hl9 h31 g31 o31_3_o0 o31_3_o1 k31_3 r_31_3 f6 y0 y1 y2 y3 y4
      have z33:=k9_o1.frozen 6
      have d33:w9.cell? ⟨a1,6,none⟩=some (.slice B m c):=(k9_o1.cell 6).trans rfl
      have k33_o1:Blk (w9.setCell ⟨a1,6,none⟩ (.slice A2 (m+1) c2)) a1 32 #[.int .i64 3,.int .i64 (f:Int),.int .i64 0,.int .i64 0,.bool false,.int .i64 0,.slice A2 (m+1) c2,.bool false]:=k9_o1.set_ 6 _
      have q33:Below (rb+1) w9 (w9.setCell ⟨a1,6,none⟩ (.slice A2 (m+1) c2)):=(Below.refl _ _).setCell (p:=⟨a1,6,none⟩) lt_o1 _
      have p33:Below w.heap.size w9 (w9.setCell ⟨a1,6,none⟩ (.slice A2 (m+1) c2)):=(Below.refl _ _).setCell (p:=⟨a1,6,none⟩) ge_o1 _
      have k33_o0:=k9_o0.far (p:=⟨a1,6,none⟩) (by simp only;omega) (.slice A2 (m+1) c2)
      have h33:=h9.over q33
      have hR9_33:=hR9.farSet (g:=a1) 6 (.slice A2 (m+1) c2) (fun k hk=>by have:=(hR9.lt k hk).1;omega)
      have g33:=zAd g9 p33
      clear h9 g9 k9_o0 k9_o1 hR9 q33 p33
      go_upto_region 19 with fail
      clear z33 d33
      generalize w9.setCell ⟨a1,6,none⟩ (.slice A2 (m+1) c2)=X34 at h33 g33 k33_o0 k33_o1 hR9_33 ⊢
      go_cut [72] (fun _ wv=>∃X:World,X=wv∧RX X rb F sc∧Blk X w.heap.size 32 #[.int .i64 0,.int .i64 0,.int .i64 0,.int .i64 0,.bool false,.int .i64 0,.slice none 0 0,.bool false]∧Blk X a1 32 #[.int .i64 3,.int .i64 (f:Int),.int .i64 0,.int .i64 0,.bool false,.int .i64 0,.slice A2 (m+1) c2,.bool false]∧w.grownBy X (some rb)∧Row X (a1+1) 5 A2 (m+1) c2 ((Pi++[(⟨⟨xf,xl,xfar,xpc⟩,ov⟩:Sp)]).flatMap encP))
      case first =>
       cases hb:sb.bad with
       | true =>
        have c4:X34.cell? ⟨rb,4,none⟩=some (.bool true):=by rw [←hb];exact h33.bad4.1
        have z4:=h33.bad4.2
        have hm:=h33.marked false true (by rw [hb];rfl)
        have HZ:=Lib.hid (show RX (X34.setCell ⟨rb,4,none⟩ (.bool true)) rb F sc∧Blk (X34.setCell ⟨rb,4,none⟩ (.bool true)) w.heap.size 32 #[.int .i64 0,.int .i64 0,.int .i64 0,.int .i64 0,.bool false,.int .i64 0,.slice none 0 0,.bool false]∧Blk (X34.setCell ⟨rb,4,none⟩ (.bool true)) a1 32 #[.int .i64 3,.int .i64 (f:Int),.int .i64 0,.int .i64 0,.bool false,.int .i64 0,.slice A2 (m+1) c2,.bool false]∧w.grownBy (X34.setCell ⟨rb,4,none⟩ (.bool true)) (some rb)∧Row (X34.setCell ⟨rb,4,none⟩ (.bool true)) (a1+1) 5 A2 (m+1) c2 ((Pi++[(⟨⟨xf,xl,xfar,xpc⟩,ov⟩:Sp)]).flatMap encP) from ⟨by rw [←EC.out,zEX [44] hb];exact hm.1,k33_o0.grownO hm.2 lt_o0,k33_o1.grownO hm.2 lt_o1,zAb g33 hm.2,hR9_33.overO hm.2 (by omega)⟩)
        clear hm hb h33 g33 k33_o0 k33_o1 hR9_33
        go_wp2_with fail
        go_meet
        case rel=>exact ⟨_,rfl,HZ.out⟩
       | false =>
        obtain ⟨ib,eib⟩:∃b,isB sb.T [44]=b:=⟨_,rfl⟩
        have c4:X34.cell? ⟨rb,4,none⟩=some (.bool false):=by rw [←hb];exact h33.bad4.1
        have z4:=h33.bad4.2
        have HI:=Lib.hid (rx_is h33 [44])
        rw [eib] at HI
        have HE:=Lib.hid (show (sb.is [44]).mark (!ib)=sc by rw [←EC.out,zEa [44] hb,eib])
        have HB:=Lib.hid hb
        clear eib hb
        go_wp2_with fail
        refine HI.out.mono ?_
        rintro e Y ⟨rfl,hy,qy⟩
        have ky36_o0:=k33_o0.grownO qy lt_o0
        have ky36_o1:=k33_o1.grownO qy lt_o1
        have hR9_36:=hR9_33.overO qy (by omega)
        have gy36:=zAb g33 qy
        have c5:Y.cell? ⟨rb,4,none⟩=some (.bool false):=by rw [←HB.out];exact hy.bad4.1
        have z5:=hy.bad4.2
        have hm:=fun q (hq:q = !ib)=>hy.marked (!ib) q (by rw [show (sb.is [44]).bad=false from HB.out];exact hq)
        have HZ:=Lib.hid (fun (q:Bool) (hq:q = !ib)=>(show RX (Y.setCell ⟨rb,4,none⟩ (.bool q)) rb F sc∧Blk (Y.setCell ⟨rb,4,none⟩ (.bool q)) w.heap.size 32 #[.int .i64 0,.int .i64 0,.int .i64 0,.int .i64 0,.bool false,.int .i64 0,.slice none 0 0,.bool false]∧Blk (Y.setCell ⟨rb,4,none⟩ (.bool q)) a1 32 #[.int .i64 3,.int .i64 (f:Int),.int .i64 0,.int .i64 0,.bool false,.int .i64 0,.slice A2 (m+1) c2,.bool false]∧w.grownBy (Y.setCell ⟨rb,4,none⟩ (.bool q)) (some rb)∧Row (Y.setCell ⟨rb,4,none⟩ (.bool q)) (a1+1) 5 A2 (m+1) c2 ((Pi++[(⟨⟨xf,xl,xfar,xpc⟩,ov⟩:Sp)]).flatMap encP) from ⟨by rw [←HE.out];exact (hm q hq).1,ky36_o0.grownO (hm q hq).2 lt_o0,ky36_o1.grownO (hm q hq).2 lt_o1,zAb gy36 (hm q hq).2,hR9_36.overO (hm q hq).2 (by omega)⟩))
        clear hm qy HI HE HB c4 z4 hy gy36 ky36_o0 ky36_o1 hR9_36 h33 g33 k33_o0 k33_o1 hR9_33
        cases ib
        all_goals
         go_wp2_with fail
         go_meet
         case rel=>exact ⟨_,rfl,HZ.out _ rfl⟩
      case rest =>
       clear h33 g33 k33_o0 k33_o1 hR9_33
       obtain ⟨X37,hX,h38,k38_o0,k38_o1,g38,hR9_39⟩:=hcut
       subst hX
       cases hbad:sc.bad with
       | true =>
        have c9:X37.cell? ⟨rb,4,none⟩=some (.bool true):=by rw [←hbad];exact h38.bad4.1
        have HE:=Lib.hid (show zBN F.L 3 f s4=(⟨3,f,s0,Pi++[(⟨⟨xf,xl,xfar,xpc⟩,ov⟩:Sp)],false⟩,sc) by unfold zBN;rw [if_neg (by omega),if_pos rfl,←HPK.out,if_pos hbad])
        clear hbad
        go_wp2_with fail
        rw [jumpsQ_normal]
        clear c9
        have f0:X37.cell? ⟨a1,0,none⟩=some (.int .i64 3):=(k38_o1.cell 0).trans rfl
        have f1:X37.cell? ⟨a1,1,none⟩=some (.int .i64 (f:Int)):=(k38_o1.cell 1).trans rfl
        have f2:X37.cell? ⟨a1,2,none⟩=some (.int .i64 0):=(k38_o1.cell 2).trans rfl
        have f3:X37.cell? ⟨a1,3,none⟩=some (.int .i64 0):=(k38_o1.cell 3).trans rfl
        have f4:X37.cell? ⟨a1,4,none⟩=some (.bool false):=(k38_o1.cell 4).trans rfl
        have f5:X37.cell? ⟨a1,5,none⟩=some (.int .i64 0):=(k38_o1.cell 5).trans rfl
        have f6:X37.cell? ⟨a1,6,none⟩=some (.slice A2 (m+1) c2):=(k38_o1.cell 6).trans rfl
        have f7:X37.cell? ⟨a1,7,none⟩=some (.bool false):=(k38_o1.cell 7).trans rfl
        have y0:X37.cell? ⟨w.heap.size,0,none⟩=some (.int .i64 0):=(k38_o0.cell 0).trans rfl
        have yz0:=k38_o0.frozen 0
        have y1:X37.cell? ⟨w.heap.size,1,none⟩=some (.int .i64 0):=(k38_o0.cell 1).trans rfl
        have yz1:=k38_o0.frozen 1
        have y2:X37.cell? ⟨w.heap.size,2,none⟩=some (.int .i64 0):=(k38_o0.cell 2).trans rfl
        have yz2:=k38_o0.frozen 2
        have y3:X37.cell? ⟨w.heap.size,3,none⟩=some (.int .i64 0):=(k38_o0.cell 3).trans rfl
        have yz3:=k38_o0.frozen 3
        have y4:X37.cell? ⟨w.heap.size,4,none⟩=some (.bool false):=(k38_o0.cell 4).trans rfl
        have yz4:=k38_o0.frozen 4
        have y5:X37.cell? ⟨w.heap.size,5,none⟩=some (.int .i64 0):=(k38_o0.cell 5).trans rfl
        have yz5:=k38_o0.frozen 5
        have y6:X37.cell? ⟨w.heap.size,6,none⟩=some (.slice none 0 0):=(k38_o0.cell 6).trans rfl
        have yz6:=k38_o0.frozen 6
        have y7:X37.cell? ⟨w.heap.size,7,none⟩=some (.bool false):=(k38_o0.cell 7).trans rfl
        have yz7:=k38_o0.frozen 7
        have hS:=k38_o0.store8 (.int .i64 3) (.int .i64 (f:Int)) (.int .i64 0) (.int .i64 0) (.bool false) (.int .i64 0) (.slice A2 (m+1) c2) (.bool false)
        have bS:=zAf (Below.refl (rb+1) X37) (show rb+1≤w.heap.size from lt_o0) (.int .i64 3) (.int .i64 (f:Int)) (.int .i64 0) (.int .i64 0) (.bool false) (.int .i64 0) (.slice A2 (m+1) c2) (.bool false)
        have bSw:=zAf (Below.refl w.heap.size X37) ge_o0 (.int .i64 3) (.int .i64 (f:Int)) (.int .i64 0) (.int .i64 0) (.bool false) (.int .i64 0) (.slice A2 (m+1) c2) (.bool false)
        have hX:=h38.over bS
        have gX:=zAd g38 bSw
        have hE:=hR9_39.store8  (show w.heap.size < a1+1 by omega) (.int .i64 3) (.int .i64 (f:Int)) (.int .i64 0) (.int .i64 0) (.bool false) (.int .i64 0) (.slice A2 (m+1) c2) (.bool false)
        go_wp2_with fail
        exact zAF rfl rfl hS Tryz.underlying32 rfl (by kernel_rfl) rfl (GIV.out ⟨3,f,s0,Pi++[(⟨⟨xf,xl,xfar,xpc⟩,ov⟩:Sp)],false⟩ sc HE.out _ A2 (m+1) c2 (hE.mono (by omega)) (by rw [HMM.out];simp) hX gX)
       | false =>
        have c9:X37.cell? ⟨rb,4,none⟩=some (.bool false):=by rw [←hbad];exact h38.bad4.1
        have HL:=Lib.hid (HST.out hbad)
        have HF:=Lib.hid (show PathJ w rb a1 F f s4 X37 sc (Pi++[(⟨⟨xf,xl,xfar,xpc⟩,ov⟩:Sp)]) A2 (m+1) c2 N from ⟨h38,k38_o0,k38_o1,g38,hR9_39,by rw [HMM.out];simp,by have:=HL.out;have:=HLE.out;omega,by have:=HL.out;have:=HNN.out;omega,by rw [←HPK.out,hbad];rfl⟩)
        clear hbad h38 g38 k38_o0 k38_o1 hR9_39
        go_wp2_with fail
        go_step3
        refine jumpsQ_goto ⟨rfl,_,HL.out,_,sc,_,A2,m+1,c2,N,⟨rfl,rfl,rfl,rfl,rfl⟩,rfl,rfl,HF⟩
    exact absurd HW.out (by omega)
end Go.Proofs.YtlmdfmnbcndhoaaGreatDoor
